/-
  Deeds that came in: as a list; opened.
-/
import Derived.Test.YtigpdkbfailadaaMems
import Derived.Test.YtigpdkbfailadaaOpen
import Derived.Deep.Slices
import Derived.Deep.Fields
import Derived.OpenShut
import Derived.ChangeSame
import Derived.Lib.SmallJoins
namespace Go.Proofs.Ytigpdkbfailadaa
set_option linter.unusedVariables false
open Go Go.RowKit Go.ChangeShapes Go.WideShapes Go.Deep Go.Joins


structure Deed where
  act : Int
  kind : Int
  id : Int
def Deed.cells (e : Deed) : List Value := [.int .i64 e.act, .int .u8 e.kind, .int .i64 e.id]
/-- Where a deed lies. -/
def At3 (W : World) (b o : Nat) (e : Deed) : Prop :=
  W.cell? ⟨b, o, none⟩ = some (.int .i64 e.act) ∧ W.cell? ⟨b, o + 1, none⟩ = some (.int .u8 e.kind) ∧ W.cell? ⟨b, o + 2, none⟩ = some (.int .i64 e.id)

/-- A slice of deeds, read as a list. -/
def Sd (W : World) (B : Nat) (A : Option Addr) (n c : Nat) (es : List Deed) : Prop :=
  es.length = n ∧ n ≤ c ∧ c ≤ maxLen ∧ (0 < n → ∃ b off, A = some ⟨b, off, none⟩ ∧ b < B ∧ ∀ j e, es[j]? = some e → At3 W b (off + j * 3) e)

section
variable {W W' : World} {B B' : Nat} {A : Option Addr} {n c : Nat} {es : List Deed}
theorem At3.keep {b o : Nat} {e : Deed} (h : At3 W b o e) (hk : ∀ p : Addr, p.block = b → W'.cell? p = W.cell? p) : At3 W' b o e :=
  ⟨(hk _ rfl).trans h.1, (hk _ rfl).trans h.2.1, (hk _ rfl).trans h.2.2⟩
theorem Sd.keep (h : Sd W B A n c es) (hk : ∀ p : Addr, p.block < B → W'.cell? p = W.cell? p) : Sd W' B A n c es :=
  ⟨h.1, h.2.1, h.2.2.1, fun hn => by
    obtain ⟨b, off, e, hb, hc⟩ := h.2.2.2 hn
    exact ⟨b, off, e, hb, fun j u hu => (hc j u hu).keep fun p hp => hk p (by omega)⟩⟩
theorem Sd.more (h : Sd W B A n c es) (hB : B ≤ B') : Sd W B' A n c es :=
  ⟨h.1, h.2.1, h.2.2.1, fun hn => by
    obtain ⟨b, off, e, hb, hc⟩ := h.2.2.2 hn
    exact ⟨b, off, e, by omega, hc⟩⟩
theorem Sd.below (h : Sd W B A n c es) (hb : Below B W W') : Sd W' B A n c es := h.keep fun _ hp => hb.cell hp
theorem Sd.alloc (h : Sd W B A n c es) (hB : B ≤ W.heap.size) (o : Obj) : Sd (W.alloc o) B A n c es := h.keep fun p hp => World.cell?_alloc_lt W o p (by omega)
theorem Sd.drew (h : Sd W B A n c es) : Sd W.drew B A n c es := h
theorem Sd.drewN (h : Sd W B A n c es) (k : Nat) : Sd (W.drewN k) B A n c es := h
theorem Sd.at_ (h : Sd W B A n c es) {k : Nat} (hk : k < n) : ∃ b off e, A = some ⟨b, off, none⟩ ∧ b < B ∧ es[k]? = some e ∧ At3 W b (off + k * 3) e := by
  obtain ⟨b, off, rfl, hb, hc⟩ := h.2.2.2 (by omega)
  have hl : k < es.length := by rw [h.1]; exact hk
  exact ⟨b, off, es[k], rfl, hb, List.getElem?_eq_getElem hl, hc k _ (List.getElem?_eq_getElem hl)⟩
theorem Sd.nil (W : World) (B : Nat) : Sd W B none 0 0 [] := ⟨rfl, Nat.le_refl _, Nat.zero_le _, fun h => absurd h (by omega)⟩
theorem Sd.n63 (h : Sd W B A n c es) : n ≤ 9223372036854775807 := by have h1 := h.2.1; have h2 := h.2.2.1; unfold maxLen at h2; omega
theorem Sd.take (h : Sd W B A n c es) {k : Nat} (hk : k ≤ n) : Sd W B A k c (es.take k) :=
  ⟨by rw [List.length_take, h.1]; omega, by have := h.2.1; omega, h.2.2.1, fun hk0 => by
    obtain ⟨b, off, e, hb, hc⟩ := h.2.2.2 (by omega)
    exact ⟨b, off, e, hb, fun j u hu => hc j u (by
      rw [List.getElem?_take] at hu
      split at hu
      · exact hu
      · cases hu)⟩⟩
end


section
variable {H : Type} {enc : TypeId × Value → H} {w : World} {base : Nat} {spare : Nat → Bool} {held : Bool}
theorem list_of (P : Nat → Deed → Prop) : ∀ n : Nat, (∀ i, i < n → ∃ e, P i e) → ∃ es : List Deed, es.length = n ∧ ∀ (j : Nat) (e : Deed), es[j]? = some e → P j e
  | 0, _ => ⟨[], rfl, fun j e h => by simp at h⟩
  | n + 1, h => by
    obtain ⟨es, hl, hp⟩ := list_of P n (fun i hi => h i (by omega))
    obtain ⟨x, hx⟩ := h n (by omega)
    refine ⟨es ++ [x], by simp [hl], fun j e hj => ?_⟩
    rcases Nat.lt_or_ge j n with hlt | hge
    · rw [List.getElem?_append_left (by omega)] at hj
      exact hp j e hj
    · have hjl := (List.getElem?_eq_some_iff.1 hj).1
      simp only [List.length_append, List.length_cons, List.length_nil, hl] at hjl
      obtain rfl : j = n := by omega
      rw [List.getElem?_append_right (by omega)] at hj
      simp only [hl, Nat.sub_self, List.getElem?_cons_zero, Option.some.injEq] at hj
      subst hj
      exact hx

/-- A slice of deeds that came in. -/
theorem open_deeds {fuel : Nat} {a0 : Option Addr} {len cap : Nat} {x : DataW H × List MemPlace} (h : DataW.trod enc Try.prog w base spare held fuel 39 [.slice a0 len cap] = some x) : ∃ es : List Deed, Sd w w.heap.size a0 len cap es := by
  rcases open_slice Try.underlying39 h with ⟨hcs, _⟩ | ⟨a, l, c, m, n, D, Pl, hcs, _, hl, hm, hmm, _, hi⟩
  · simp only [List.cons.injEq, and_true, Value.slice.injEq] at hcs
    obtain ⟨rfl, rfl, rfl⟩ := hcs
    exact ⟨[], Sd.nil _ _⟩
  · simp only [List.cons.injEq, and_true, Value.slice.injEq] at hcs
    obtain ⟨rfl, rfl, rfl⟩ := hcs
    have hC : Try.prog.cellsOf 41 = 3 := by kernel_rfl
    have hlm : len ≤ m := by rw [hmm]; split <;> omega
    have key : ∀ i, i < len → ∃ e : Deed, ∀ j, j < 3 → w.cell? ((a.add (i * 3)).add j) = e.cells[j]? := by
      intro i hil
      obtain ⟨cs', hc, ht⟩ := hi i (by omega)
      rw [hC] at hc
      obtain ⟨_, hcl, hat⟩ := World.cells?_some hc
      match cs', hcl with
      | [c0, c1, c2], _ =>
        obtain ⟨y0, y1, n', _, _, t0, t1⟩ := trod_struct2 Try.underlying41 ht
        have h3 : Try.prog.cellsOf 3 = 1 := by kernel_rfl
        have h5 : Try.prog.cellsOf 5 = 1 := by kernel_rfl
        have h27 : Try.prog.cellsOf 27 = 2 := by kernel_rfl
        obtain ⟨z0, z1, n'', _, _, u0, u1⟩ := trod_struct2 Try.underlying27 t1
        simp only [h3, h5, h27, List.drop_zero, List.drop_succ_cons, List.take_succ_cons, List.take_zero] at t0 u0 u1
        obtain ⟨p, hp, _, _⟩ := DataW.trod_int Try.underlying3 t0
        obtain ⟨q, hq, _, _⟩ := DataW.trod_int Try.underlying5 u0
        obtain ⟨r, hr, _, _⟩ := DataW.trod_int Try.underlying3 u1
        simp only [List.cons.injEq, and_true] at hp hq hr
        subst hp hq hr
        exact ⟨⟨p, q, r⟩, fun j hj => hat j (by simpa using hj)⟩
    obtain ⟨es, hel, hes⟩ := list_of _ len key
    refine ⟨es, hel, hl, hm, fun hn => ?_⟩
    obtain ⟨e0, he0⟩ := key 0 hn
    have hc0 := he0 0 (by omega)
    rw [Nat.zero_mul] at hc0
    obtain ⟨ha, hb⟩ := addr_of_cell (x := a) (v := .int .i64 e0.act) (by simpa [Addr.add, Deed.cells] using hc0)
    have hadd : ∀ i j : Nat, (a.add i).add j = ⟨a.block, a.off + i + j, none⟩ := by
      intro i j
      rw [ha]
      unfold Addr.add
      by_cases hi : i = 0 <;> by_cases hj : j = 0 <;> simp [hi, hj]
    refine ⟨a.block, a.off, by rw [← ha], hb, fun j e he => ?_⟩
    have hk := hes j e he
    have key2 : ∀ i, i < 3 → w.cell? ⟨a.block, a.off + j * 3 + i, none⟩ = e.cells[i]? := fun i hi => by rw [← hadd]; exact hk i hi
    exact ⟨key2 0 (by omega), key2 1 (by omega), key2 2 (by omega)⟩
end
end Go.Proofs.Ytigpdkbfailadaa
