/-
  A slice value that reads as a list of one-cell values; small facts on boxes, and on yield.
-/
import Derived.Test.YtdlpkphbgbffpaaDoorRange
import Derived.Laws.OwnMore
import Derived.Deep.Draws
import Derived.Lib.Hide
namespace Go.Proofs.YtdlpkphbgbffpaaDoor
open Go Go.RowKit

theorem hide {p : Prop} (h : p) : Hid p := h
theorem ret_int {k : IntKind} {a b : Int} (h : a = b) : Ending.returned (.int k a) = .returned (.int k b) := by rw [h]
theorem ret_bool {a b : Bool} (h : a = b) : Ending.returned (.bool a) = .returned (.bool b) := by rw [h]

/-- The slice at address A, of n elements, reads as the list vs; it lies below block B. -/
def Sl (W : World) (B : Nat) (A : Option Addr) (n c : Nat) (vs : List Value) : Prop :=
  vs.length = n ∧ n ≤ c ∧ c ≤ maxLen ∧ (0 < n → ∃ b off, A = some ⟨b, off, none⟩ ∧ b < B ∧ ∀ j u, vs[j]? = some u → W.cell? ⟨b, off + j, none⟩ = some u)

section
variable {W W' : World} {B B' : Nat} {A : Option Addr} {n c : Nat} {vs : List Value}

theorem Sl.keep (h : Sl W B A n c vs) (hk : ∀ p : Addr, p.block < B → W'.cell? p = W.cell? p) : Sl W' B A n c vs :=
  ⟨h.1, h.2.1, h.2.2.1, fun hn => by
    obtain ⟨b, off, e, hb, hc⟩ := h.2.2.2 hn
    exact ⟨b, off, e, hb, fun j u hu => (hk _ hb).trans (hc j u hu)⟩⟩
theorem Sl.more (h : Sl W B A n c vs) (hB : B ≤ B') : Sl W B' A n c vs :=
  ⟨h.1, h.2.1, h.2.2.1, fun hn => by
    obtain ⟨b, off, e, hb, hc⟩ := h.2.2.2 hn
    exact ⟨b, off, e, by omega, hc⟩⟩
theorem Sl.below (h : Sl W B A n c vs) (hb : Below B W W') : Sl W' B A n c vs := h.keep fun _ hp => hb.cell hp
theorem Sl.alloc (h : Sl W B A n c vs) (hB : B ≤ W.heap.size) (o : Obj) : Sl (W.alloc o) B A n c vs := h.keep fun p hp => World.cell?_alloc_lt W o p (by omega)
theorem Sl.drew (h : Sl W B A n c vs) : Sl W.drew B A n c vs := h
theorem Sl.drewN (h : Sl W B A n c vs) (k : Nat) : Sl (W.drewN k) B A n c vs := h
theorem Sl.at_ (h : Sl W B A n c vs) (hn : 0 < n) : ∃ b off, A = some ⟨b, off, none⟩ ∧ b < B ∧ ∀ j u, vs[j]? = some u → W.cell? ⟨b, off + j, none⟩ = some u := h.2.2.2 hn
theorem Sl.nil (W : World) (B : Nat) : Sl W B none 0 0 [] := ⟨rfl, Nat.le_refl _, Nat.zero_le _, fun h => absurd h (by omega)⟩
theorem Sl.take (h : Sl W B A n c vs) {k : Nat} (hk : k ≤ n) : Sl W B A k c (vs.take k) :=
  ⟨by rw [List.length_take, h.1]; omega, by have := h.2.1; omega, h.2.2.1, fun hk0 => by
    obtain ⟨b, off, e, hb, hc⟩ := h.2.2.2 (by omega)
    exact ⟨b, off, e, hb, fun j u hu => hc j u (by
      rw [List.getElem?_take] at hu
      split at hu
      · exact hu
      · cases hu)⟩⟩
/-- A cut from k on, short of the end of the capacity. -/
theorem Sl.cut {b off : Nat} (h : Sl W B (some ⟨b, off, none⟩) n c vs) {k : Nat} (hk : k ≤ n) : Sl W B (some ⟨b, off + k, none⟩) (n - k) (c - k) (vs.drop k) :=
  ⟨by rw [List.length_drop, h.1], by have := h.2.1; omega, by have := h.2.2.1; omega, fun hn => by
    obtain ⟨b', off', e, hb, hc⟩ := h.2.2.2 (by omega)
    cases e
    exact ⟨b, off + k, rfl, hb, fun j u hu => by
      rw [Nat.add_assoc]
      exact hc (k + j) u (by rw [← hu, List.getElem?_drop])⟩⟩
/-- .. as the model spells it. -/
theorem Sl.cutIf {b off : Nat} (h : Sl W B (some ⟨b, off, none⟩) n c vs) {k : Nat} (hk : k ≤ n) :
    Sl W B (if c = k then some ⟨b, off, none⟩ else some ⟨b, off + k, none⟩) (n - k) (c - k) (vs.drop k) := by
  by_cases e : c = k
  · rw [if_pos e]
    exact ⟨by rw [List.length_drop, h.1], by have := h.2.1; omega, by have := h.2.2.1; omega, fun hn => by have := h.2.1; omega⟩
  · rw [if_neg e]
    exact h.cut hk
/-- A row of the call's own reads as a slice. -/
theorem Sl.own {base : Nat} {e : TypeId} {v : Value} {xs : List Value} (h : W.ownsRow base e 1 v n xs) : ∃ A c, v = .slice A n c ∧ Sl W W.heap.size A n c xs := by
  have hl : xs.length = n := by simpa using h.1
  rcases h.2 with ⟨rfl, rfl⟩ | ⟨g, cap, cur, rfl, hb, hg, hnc, hcm, hcs, htake⟩
  · obtain rfl : xs = [] := List.eq_nil_of_length_eq_zero hl
    exact ⟨none, 0, rfl, Sl.nil _ _⟩
  · refine ⟨_, cap, rfl, hl, hnc, hcm, fun hn => ⟨g, 0, rfl, (Array.getElem?_eq_some_iff.1 hg).1, fun j u hu => ?_⟩⟩
    have hj : j < n := by
      rw [← hl]
      exact (List.getElem?_eq_some_iff.1 hu).1
    rw [Nat.zero_add, h.cellAt j (by omega)]
    exact hu
theorem Sl.own' {base m : Nat} {e : TypeId} {xs : List Value} (h : W.ownsRow base e 1 (.slice A m c) n xs) : Sl W W.heap.size A n c xs := by
  obtain ⟨A', c', e', hs⟩ := Sl.own h
  cases e'
  exact hs
/-- A block that 'buildSlice' lays reads as a slice. -/
theorem Sl.made (w : World) (vs : List Value) (t : TypeId) (hm : vs.length ≤ maxLen) : Sl (w.alloc (.cells vs.toArray t)) (w.heap.size + 1) (some ⟨w.heap.size, 0, none⟩) vs.length vs.length vs :=
  ⟨rfl, Nat.le_refl _, hm, fun _ => ⟨_, _, rfl, by omega, fun j u hu => by
    rw [cell_of_row _ w.heap.size (0 + j) vs.toArray t (0, 0) (World.alloc_heap_new w _)]
    simpa using hu⟩⟩
/-- .. at a block whose number is written otherwise. -/
theorem Sl.made' (w : World) (k m : Nat) (vs : List Value) (t : TypeId) (hk : w.heap.size = k) (hl : vs.length = m) (hm : m ≤ maxLen) : Sl (w.alloc (.cells vs.toArray t)) (k + 1) (some ⟨k, 0, none⟩) m m vs := by
  subst hk hl
  exact Sl.made w vs t hm
end

theorem ownsRow_base {W : World} {base base' size n : Nat} {e : TypeId} {v : Value} {xs : List Value} (h : W.ownsRow base e size v n xs) (hb : base' ≤ base) : W.ownsRow base' e size v n xs := by
  refine ⟨h.1, ?_⟩
  rcases h.2 with h0 | ⟨g, cap, cur, rfl, hg, rest⟩
  · exact .inl h0
  · exact .inr ⟨g, cap, cur, rfl, by omega, rest⟩

theorem ownsRow_below {W W' : World} {base size n : Nat} {e : TypeId} {v : Value} {xs : List Value} (h : W.ownsRow base e size v n xs) (hb : Below W.heap.size W W') : W'.ownsRow base e size v n xs :=
  h.kept (row := none) ⟨hb.os, hb.tape, hb.output, hb.size, fun i hi _ => hb.block i hi⟩ (by cases v.ownBlock <;> simp)

/-- yield's answer as one Bool. -/
theorem round_bool {F : Fence} {m : Nat} {P : Program} {l f : Nat} {tmps : Array Value} {assign body : Code} {W : World} {Yes No : World → Prop}
    (h : RoundIn F m P l f tmps assign body W fun e W' => (e = .returned (.bool true) ∧ Yes W') ∨ (e = .returned (.bool false) ∧ No W')) :
    RoundIn F m P l f tmps assign body W fun e W' => ∃ t : Bool, e = .returned (.bool t) ∧ ((t = true → Yes W') ∧ (t = false → No W')) :=
  h.mono fun e W' he => by
    rcases he with ⟨rfl, hy⟩ | ⟨rfl, hn⟩
    · exact ⟨true, rfl, fun _ => hy, fun h => (by cases h)⟩
    · exact ⟨false, rfl, fun h => (by cases h), fun _ => hn⟩

end Go.Proofs.YtdlpkphbgbffpaaDoor
