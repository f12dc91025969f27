/-
  One operation of a region that draws its order taken first, with the slot that it writes (and the list of what is done) named outright: the state stays small.
-/
import Derived.Test.YtdlpkphbgbffpaaDoorSlices
import Derived.WalkKit
import Derived.Orders
import Derived.OrdersHeld
import Derived.Deep.RegionHeld
namespace Go.Proofs.YtdlpkphbgbffpaaDoor
open Go Go.RowKit

variable {P : Program} {md : Region.Mode} {ops : Array Oper} {Q : Exit → Act → World → Prop} {S : World → Prop}

theorem take_slot {i : Nat} {oi : Oper} (d : Option Tmp) (L : Array Bool) {v : Value} {fuel : Nat} {listed : Array Bool} {a : Act} {w : World} (hi : ops[i]? = some oi) (hd : oi.dst = d) (hL : listed.setIfInBounds i true = L)
    (hs : Region.noSelect ops = true) (hf : Region.free md ops listed i = true) (hr : (Region.ready md ops listed).contains i = true)
    (hQ : ∀ c a w, Q (.panic c) (a.put d v) w → Q (.panic c) a w) (hy : Yields P ops oi v a)
    (h : wpAny P md ops Q fuel L (a.put d v) w) : wpAny P md ops Q (fuel + 1) listed a w := by
  subst hd hL
  exact wpAny_take hi hs hf hr hQ hy h

/-- .. where a condition S holds behind every operation. -/
theorem take_held {i : Nat} {oi : Oper} (d : Option Tmp) {v : Value} {fuel : Nat} {listed : Array Bool} {a : Act} {w : World} (hS : S w) (hi : ops[i]? = some oi) (hd : oi.dst = d)
    (hs : Region.noSelect ops = true) (hf : Region.free md ops listed i = true) (hr : (Region.ready md ops listed).contains i = true)
    (hQ : ∀ c a w, Q (.panic c) (a.put d v) w → Q (.panic c) a w) (hy : YieldsIf P ops S oi v a)
    (h : wpAnyH P md ops Q S fuel (listed.setIfInBounds i true) (a.put d v) w) : wpAnyH P md ops Q S (fuel + 1) listed a w := by
  subst hd
  exact wpAnyH_take hi hs hf hr hQ hy hS h
/-- The operations of region n. -/
def opsIn : Code → Nat → List Oper
  | .region id ops _, n => if id = n then ops.toList else []
  | .seq a b, n => opsIn a n ++ opsIn b n
  | .cond _ a b, n => opsIn a n ++ opsIn b n
  | .block _ c, n => opsIn c n
  | .loop c, n => opsIn c n
  | .scope c, n => opsIn c n
  | .rangeFunc _ _ a b, n => opsIn a n ++ opsIn b n
  | _, _ => []
/-- The operations of a function's region n. -/
def opsOf (f : Func) (n : Nat) : Array Oper := (match f.body with | some c => opsIn c n | none => []).toArray
/-- A region's operations by a short name. -/
theorem region_as {id : Nat} {b : Bool} {R : Array Oper} {a : Act} {w : World} (h : ops = R) (k : (Code.region id R b).wp P Q a w) : (Code.region id ops b).wp P Q a w := h ▸ k

/-- The list of what is done, written anew. -/
theorem listed_as {fuel : Nat} {l L : Array Bool} {a : Act} {w : World} (h : l = L) (k : wpAnyH P md ops Q S fuel L a w) : wpAnyH P md ops Q S fuel l a w := h ▸ k

/-- What an operation is, but for its place, its guard and what comes ahead of it. -/
abbrev bareOp (d : Option Tmp) (op : Op) (t : TypeId) : Oper := ⟨d, op, t, "", #[], none⟩
theorem wp_bare {o : Oper} {d : Option Tmp} {op : Op} {t : TypeId} {a : Act} {w : World} {K : Act → World → Prop} (hd : o.dst = d) (hop : o.op = op) (ht : o.type = t) (h : Oper.wp P (bareOp d op t) a w K Q) : Oper.wp P o a w K Q := by
  cases o
  simp only at hd hop ht
  subst hd hop ht
  exact h
theorem exec_bare {o : Oper} {d : Option Tmp} {op : Op} {t : TypeId} {a : Act} (hd : o.dst = d) (hop : o.op = op) (ht : o.type = t) : execOp a.eval o = execOp a.eval (bareOp d op t) := by
  cases o
  simp only at hd hop ht
  subst hd hop ht
  rfl

/-- An operation taken first under S, its text handed in. -/
theorem take_bare {i : Nat} {oi : Oper} (d : Option Tmp) (op : Op) (t : TypeId) (L : Array Bool) {v : Value} {fuel : Nat} {listed : Array Bool} {a : Act} {w : World} (hS : S w) (hi : ops[i]? = some oi) (hd : oi.dst = d) (hop : oi.op = op) (ht : oi.type = t) (hL : listed.setIfInBounds i true = L)
    (hs : Region.noSelect ops = true) (hf : Region.free md ops listed i = true) (hr : (Region.ready md ops listed).contains i = true) (hw : Region.wanted oi (yielded ops a.tmps) = true)
    (hQ : ∀ c a w, Q (.panic c) (a.put d v) w → Q (.panic c) a w) (hy : ∀ W, S W → (execOp a.eval (bareOp d op t)).run P W = .ok (.value v) W)
    (h : wpAnyH P md ops Q S fuel L (a.put d v) w) : wpAnyH P md ops Q S (fuel + 1) listed a w := by
  subst hL
  have he := exec_bare (a := a) hd hop ht
  subst hd
  exact wpAnyH_take hi hs hf hr hQ (.inl ⟨hw, fun W hW => by rw [he]; exact hy W hW⟩) hS h
/-- The one operation that may come up, its text handed in. -/
theorem step_bare {i : Nat} {oi : Oper} (d : Option Tmp) (op : Op) (t : TypeId) (L : Array Bool) {fuel : Nat} {listed : Array Bool} {a : Act} {w : World} (hr : Region.ready md ops listed = [i]) (hi : ops[i]? = some oi) (hd : oi.dst = d) (hop : oi.op = op) (ht : oi.type = t) (hL : listed.setIfInBounds i true = L)
    (hw : Region.wanted oi (yielded ops a.tmps) = true)
    (h : ∀ K : Act → World → Prop, Shut (∀ a w, S w → (S w → wpAnyH P md ops Q S fuel L a w) → K a w) → Oper.wp P (bareOp d op t) a w K Q) : wpAnyH P md ops Q S (fuel + 1) listed a w := by
  subst hL
  refine wpAnyH_ready hr (by simp) (AllReadyH.cons hi (fun K hK => ?_) AllReadyH.nil)
  rw [if_pos hw]
  exact wp_bare hd hop ht (h K hK)

theorem put_swap (a : Act) {i j : Tmp} (h : i ≠ j) (u v : Value) : (a.put (some i) u).put (some j) v = (a.put (some j) v).put (some i) u := by
  simp only [Act.put]
  rw [Array.setIfInBounds_comm _ _ h]

/-- Two operations that may come up in either order, and then the rest, once. -/
theorem fork_bare {i j : Nat} {oi oj : Oper} (di dj : Tmp) (opi opj : Op) (ti tj : TypeId) (L : Array Bool) {fuel : Nat} {listed : Array Bool} {a : Act} {w : World} (Pi Pj : Value → World → Prop)
    (hne : i ≠ j) (hdd : di ≠ dj) (hr : Region.ready md ops listed = [i, j]) (hri : Region.ready md ops (listed.setIfInBounds i true) = [j]) (hrj : Region.ready md ops (listed.setIfInBounds j true) = [i])
    (hoi : ops[i]? = some oi) (hoj : ops[j]? = some oj) (hdi : oi.dst = some di) (hdj : oj.dst = some dj) (hopi : oi.op = opi) (hopj : oj.op = opj) (hti : oi.type = ti) (htj : oj.type = tj)
    (hL : (listed.setIfInBounds i true).setIfInBounds j true = L)
    (hwi : Region.wanted oi (yielded ops a.tmps) = true) (hwj : Region.wanted oj (yielded ops a.tmps) = true)
    (hwij : ∀ u, Region.wanted oj (yielded ops (a.put (some di) u).tmps) = true) (hwji : ∀ u, Region.wanted oi (yielded ops (a.put (some dj) u).tmps) = true)
    (hi : ∀ K : Act → World → Prop, Shut (∀ v W, S W → Pi v W → K (a.put (some di) v) W) → Oper.wp P (bareOp (some di) opi ti) a w K Q)
    (hij : ∀ u W0, S W0 → Pi u W0 → ∀ K : Act → World → Prop, Shut (∀ v W, S W → Pi u W → Pj v W → K ((a.put (some di) u).put (some dj) v) W) → Oper.wp P (bareOp (some dj) opj tj) (a.put (some di) u) W0 K Q)
    (hj : ∀ K : Act → World → Prop, Shut (∀ v W, S W → Pj v W → K (a.put (some dj) v) W) → Oper.wp P (bareOp (some dj) opj tj) a w K Q)
    (hji : ∀ v W0, S W0 → Pj v W0 → ∀ K : Act → World → Prop, Shut (∀ u W, S W → Pi u W → Pj v W → K ((a.put (some dj) v).put (some di) u) W) → Oper.wp P (bareOp (some di) opi ti) (a.put (some dj) v) W0 K Q)
    (rest : ∀ u v W, S W → Pi u W → Pj v W → wpAnyH P md ops Q S fuel L ((a.put (some di) u).put (some dj) v) W) :
    wpAnyH P md ops Q S (fuel + 1 + 1) listed a w := by
  subst hL
  refine wpAnyH_ready hr (by simp) ?_
  refine AllReadyH.cons hoi (fun K hK => ?_) ?_
  · rw [if_pos hwi]
    refine wp_bare hdi hopi hti (hi K fun u W0 hS hP => hK.out _ _ hS fun _ => ?_)
    refine wpAnyH_ready hri (by simp) ?_
    refine AllReadyH.cons hoj (fun K' hK' => ?_) AllReadyH.nil
    rw [if_pos (hwij u)]
    exact wp_bare hdj hopj htj (hij u W0 hS hP K' fun v W hS' hu hv => hK'.out _ _ hS' fun _ => rest u v W hS' hu hv)
  · refine AllReadyH.cons hoj (fun K hK => ?_) AllReadyH.nil
    rw [if_pos hwj]
    refine wp_bare hdj hopj htj (hj K fun v W0 hS hP => hK.out _ _ hS fun _ => ?_)
    refine wpAnyH_ready hrj (by simp) ?_
    refine AllReadyH.cons hoi (fun K' hK' => ?_) AllReadyH.nil
    rw [if_pos (hwji v)]
    refine wp_bare hdi hopi hti (hji v W0 hS hP K' fun u W hS' hu hv => hK'.out _ _ hS' fun _ => ?_)
    rw [← put_swap a hdd u v, Array.setIfInBounds_comm _ _ (Ne.symm hne)]
    exact rest u v W hS' hu hv

/-- A value that is a slice and reads as a list. -/
def SlV (n : Nat) (l : List Value) (u : Value) (W : World) : Prop := ∃ A c, u = .slice A n c ∧ Sl W W.heap.size A n c l
theorem SlV.alloc {n : Nat} {l : List Value} {u : Value} {W : World} (h : SlV n l u W) (o : Obj) : SlV n l u (W.alloc o) := by
  obtain ⟨A, c, rfl, hs⟩ := h
  exact ⟨A, c, rfl, (hs.alloc (Nat.le_refl _) o).more (by simp)⟩
theorem SlV.below {n : Nat} {l : List Value} {u : Value} {W W' : World} (h : SlV n l u W) (hB : Below W.heap.size W W') : SlV n l u W' := by
  obtain ⟨A, c, rfl, hs⟩ := h
  exact ⟨A, c, rfl, (hs.below hB).more hB.size⟩
theorem SlV.made (W : World) (vs : List Value) (t : TypeId) (n : Nat) (hl : vs.length = n) (hm : n ≤ maxLen) : SlV n vs (.slice (some ⟨W.heap.size, 0, none⟩) n n) (W.alloc (.cells vs.toArray t)) :=
  ⟨_, _, rfl, (Sl.made' W _ n vs t rfl hl hm).more (by simp)⟩
end Go.Proofs.YtdlpkphbgbffpaaDoor
