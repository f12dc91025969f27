/-
  Entries that came in, opened.
-/
import Derived.Test.YtaeffklmlllimaaEnts
import Derived.Test.YtaeffklmlllimaaOpen
import Derived.Deep.Slices
import Derived.Deep.Fields
import Derived.ChangeSame
import Derived.Lib.SmallJoins
namespace Go.Proofs.Ytaeffklmlllimaa
open Go Go.RowKit Go.ChangeShapes Go.WideShapes Go.Deep Go.Joins

section
variable {H : Type} {enc : TypeId × Value → H} {w : World} {base : Nat} {spare : Nat → Bool} {held : Bool}
/-- An entry that came in by value. -/
theorem open_ent {r : Reach} {b0 : Nat} {v : Value} {d : DataW H} {p : List MemPlace} (hv : Value.okWide Try.prog w r b0 23 v) (h : DataW.Trod enc Try.prog w base spare held 23 v d p) : ∃ e : Ent, v = ev e := by
  obtain ⟨v0, v1, v2, v3, y0, y1, y2, y3, n, rfl, _, _, t0, t1, t2, t3⟩ := open_agg4 Try.underlying23 (by kernel_rfl) (by kernel_rfl) hv h
  obtain ⟨a, ha, _, _⟩ := DataW.trod_int Try.underlying3 t0
  obtain ⟨b, hb, _, _⟩ := DataW.trod_int Try.underlying3 t1
  obtain ⟨c, hc, _, _⟩ := DataW.trod_int Try.underlying3 t2
  obtain ⟨d, hd, _, _⟩ := DataW.trod_int Try.underlying3 t3
  simp only [List.cons.injEq, and_true] at ha hb hc hd
  subst ha hb hc hd
  exact ⟨⟨a, b, c, d⟩, rfl⟩

theorem list_of (P : Nat → Ent → Prop) : ∀ n : Nat, (∀ i, i < n → ∃ e, P i e) → ∃ es : List Ent, es.length = n ∧ ∀ (j : Nat) (e : Ent), es[j]? = some e → P j e
  | 0, _ => ⟨[], rfl, fun j e h => by simp at h⟩
  | n + 1, h => by
    obtain ⟨es, hl, hp⟩ := list_of P n (fun i hi => h i (by omega))
    obtain ⟨x, hx⟩ := h n (by omega)
    refine ⟨es ++ [x], by simp [hl], fun j e hj => ?_⟩
    rcases Nat.lt_or_ge j n with hlt | hge
    · rw [List.getElem?_append_left (by omega)] at hj
      exact hp j e hj
    · have hjl := (List.getElem?_eq_some_iff.1 hj).1
      simp only [List.length_append, List.length_cons, List.length_nil, hl] at hjl
      obtain rfl : j = n := by omega
      rw [List.getElem?_append_right (by omega)] at hj
      simp only [hl, Nat.sub_self, List.getElem?_cons_zero, Option.some.injEq] at hj
      subst hj
      exact hx

/-- A slice of entries that came in. -/
theorem open_ents {fuel : Nat} {a0 : Option Addr} {len cap : Nat} {x : DataW H × List MemPlace} (h : DataW.trod enc Try.prog w base spare held fuel 24 [.slice a0 len cap] = some x) : ∃ es : List Ent, Se w w.heap.size a0 len cap es := by
  rcases open_slice Try.underlying24 h with ⟨hcs, _⟩ | ⟨a, l, c, m, n, D, Pl, hcs, _, hl, hm, hmm, _, hi⟩
  · simp only [List.cons.injEq, and_true, Value.slice.injEq] at hcs
    obtain ⟨rfl, rfl, rfl⟩ := hcs
    exact ⟨[], Se.nil _ _⟩
  · simp only [List.cons.injEq, and_true, Value.slice.injEq] at hcs
    obtain ⟨rfl, rfl, rfl⟩ := hcs
    have hC : Try.prog.cellsOf 23 = 4 := by kernel_rfl
    have hlm : len ≤ m := by rw [hmm]; split <;> omega
    have key : ∀ i, i < len → ∃ e : Ent, ∀ j, j < 4 → w.cell? ((a.add (i * 4)).add j) = e.cells[j]? := by
      intro i hil
      obtain ⟨cs', hc, ht⟩ := hi i (by omega)
      rw [hC] at hc
      obtain ⟨_, hcl, hat⟩ := World.cells?_some hc
      match cs', hcl with
      | [c0, c1, c2, c3], _ =>
        obtain ⟨y0, y1, y2, y3, n', _, _, t0, t1, t2, t3⟩ := trod_struct4 Try.underlying23 ht
        have h3 : Try.prog.cellsOf 3 = 1 := by kernel_rfl
        simp only [h3, List.drop_zero, List.drop_succ_cons, List.take_succ_cons, List.take_zero] at t0 t1 t2 t3
        obtain ⟨p, hp, _, _⟩ := DataW.trod_int Try.underlying3 t0
        obtain ⟨q, hq, _, _⟩ := DataW.trod_int Try.underlying3 t1
        obtain ⟨r, hr, _, _⟩ := DataW.trod_int Try.underlying3 t2
        obtain ⟨s, hs, _, _⟩ := DataW.trod_int Try.underlying3 t3
        simp only [List.cons.injEq, and_true] at hp hq hr hs
        subst hp hq hr hs
        exact ⟨⟨p, q, r, s⟩, fun j hj => hat j (by simpa using hj)⟩
    obtain ⟨es, hel, hes⟩ := list_of _ len key
    refine ⟨es, hel, hl, hm, fun hn => ?_⟩
    obtain ⟨e0, he0⟩ := key 0 hn
    have hc0 := he0 0 (by omega)
    rw [Nat.zero_mul] at hc0
    obtain ⟨ha, hb⟩ := addr_of_cell (x := a) (v := .int .i64 e0.cur) (by simpa [Addr.add, Ent.cells] using hc0)
    have hadd : ∀ i j : Nat, (a.add i).add j = ⟨a.block, a.off + i + j, none⟩ := by
      intro i j
      rw [ha]
      unfold Addr.add
      by_cases hi : i = 0 <;> by_cases hj : j = 0 <;> simp [hi, hj]
    refine ⟨a.block, a.off, by rw [← ha], hb, fun j e he => ?_⟩
    have hk := hes j e he
    have key2 : ∀ i, i < 4 → w.cell? ⟨a.block, a.off + j * 4 + i, none⟩ = e.cells[i]? := fun i hi => by rw [← hadd]; exact hk i hi
    exact ⟨key2 0 (by omega), key2 1 (by omega), key2 2 (by omega), key2 3 (by omega)⟩
end
end Go.Proofs.Ytaeffklmlllimaa
