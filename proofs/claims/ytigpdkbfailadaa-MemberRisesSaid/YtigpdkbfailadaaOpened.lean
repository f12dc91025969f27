/-
  Members, nodes and deeds that came in, opened.
-/
import Derived.Test.YtigpdkbfailadaaMems
import Derived.Test.YtigpdkbfailadaaOpen
import Derived.Deep.Slices
import Derived.Deep.Fields
import Derived.OpenShut
import Derived.ChangeSame
import Derived.Lib.SmallJoins
namespace Go.Proofs.Ytigpdkbfailadaa
set_option linter.unusedVariables false
open Go Go.RowKit Go.ChangeShapes Go.WideShapes Go.Deep Go.Joins

section
variable {H : Type} {enc : TypeId × Value → H} {w : World} {base : Nat} {spare : Nat → Bool} {held : Bool}
/-- A node that came in by value. -/
theorem open_node {r : Reach} {b0 : Nat} {v : Value} {d : DataW H} {p : List MemPlace} (hv : Value.okWide Try.prog w r b0 27 v) (h : DataW.Trod enc Try.prog w base spare held 27 v d p) : ∃ k id : Int, v = nv k id := by
  obtain ⟨v0, v1, y0, y1, n, rfl, _, _, t0, t1⟩ := open_agg2 Try.underlying27 (by kernel_rfl) (by kernel_rfl) hv h
  obtain ⟨a, ha, _, _⟩ := DataW.trod_int Try.underlying5 t0
  obtain ⟨b, hb, _, _⟩ := DataW.trod_int Try.underlying3 t1
  simp only [List.cons.injEq, and_true] at ha hb
  subst ha hb
  exact ⟨a, b, rfl⟩

theorem bytes_of (cs : List Value) (n : Nat) (m : Nat) (xs : List (DataW H × List MemPlace)) (hl : cs.length = n) (hx : xs.length = n)
    (h : ∀ i, i < n → DataW.trod enc Try.prog w base spare held m 5 ((cs.drop (i * Try.prog.cellsOf 5)).take (Try.prog.cellsOf 5)) = xs[i]?) : ∀ i, i < n → ∃ x : Int, cs[i]? = some (u8v x) := by
  intro i hi
  have hC : Try.prog.cellsOf 5 = 1 := by kernel_rfl
  have h0 := h i hi
  rw [hC, Nat.mul_one, List.getElem?_eq_getElem (by omega)] at h0
  obtain ⟨x, hx, _, _⟩ := DataW.trod_int Try.underlying5 h0
  refine ⟨x, ?_⟩
  have e : ((cs.drop i).take 1)[0]? = some (u8v x) := by rw [hx]; rfl
  rw [List.getElem?_take_of_lt (by omega), List.getElem?_drop] at e
  simpa using e

/-- Members that came in by value. -/
theorem open_mem {r : Reach} {b0 : Nat} {v : Value} {d : DataW H} {p : List MemPlace} (hv : Value.okWide Try.prog w r b0 25 v) (h : DataW.Trod enc Try.prog w base spare held 25 v d p) : ∃ m : Mm, v = mv m := by
  have hC : Try.prog.cellsOf 25 = 9 := by kernel_rfl
  have h22 : Try.prog.cellsOf 22 = 6 := by kernel_rfl
  have h23 : Try.prog.cellsOf 23 = 3 := by kernel_rfl
  obtain ⟨cs, rfl, hsz⟩ := okWide_struct Try.underlying25 hv
  obtain ⟨fuel, hf⟩ := h
  obtain ⟨y0, y1, n, _, hl, h0, h1⟩ := trod_struct2 Try.underlying25 hf
  obtain ⟨cl, hcl⟩ : ∃ cl, cs = cl.toArray := ⟨cs.toList, by simp⟩
  subst hcl
  simp only [Value.cells] at h0 h1 hl
  have hl9 : cl.length = 9 := by simpa [hC] using hsz
  obtain ⟨xs, m0, _, _, hl0, hx0, e0⟩ := DataW.trod_array Try.underlying22 h0
  obtain ⟨ys, m1, _, _, hl1, hx1, e1⟩ := DataW.trod_array Try.underlying23 h1
  rw [h22] at hl0
  rw [h23] at hl1
  have k0 := bytes_of _ 6 m0 xs hl0 hx0 e0
  have k1 := bytes_of _ 3 m1 ys hl1 hx1 e1
  have key : ∀ i, i < 9 → ∃ x : Int, cl[i]? = some (u8v x) := by
    intro i hi
    rcases Nat.lt_or_ge i 6 with h6 | h6
    · obtain ⟨x, hx⟩ := k0 i h6
      refine ⟨x, ?_⟩
      rw [List.getElem?_take_of_lt (by exact h6)] at hx
      simpa using hx
    · obtain ⟨x, hx⟩ := k1 (i - 6) (by omega)
      refine ⟨x, ?_⟩
      rw [List.getElem?_take_of_lt (by omega), List.getElem?_drop] at hx
      rw [show i = 6 + (i - 6) by omega]
      exact hx
  match cl, hl9 with
  | [a0, a1, a2, a3, a4, a5, a6, a7, a8], _ =>
    obtain ⟨x0, q0⟩ := key 0 (by omega)
    obtain ⟨x1, q1⟩ := key 1 (by omega)
    obtain ⟨x2, q2⟩ := key 2 (by omega)
    obtain ⟨x3, q3⟩ := key 3 (by omega)
    obtain ⟨x4, q4⟩ := key 4 (by omega)
    obtain ⟨x5, q5⟩ := key 5 (by omega)
    obtain ⟨x6, q6⟩ := key 6 (by omega)
    obtain ⟨x7, q7⟩ := key 7 (by omega)
    obtain ⟨x8, q8⟩ := key 8 (by omega)
    simp only [List.getElem?_cons_zero, List.getElem?_cons_succ, Option.some.injEq] at q0 q1 q2 q3 q4 q5 q6 q7 q8
    subst q0 q1 q2 q3 q4 q5 q6 q7 q8
    exact ⟨fun i => [x0, x1, x2, x3, x4, x5, x6, x7, x8].getD i 0, rfl⟩
end
end Go.Proofs.Ytigpdkbfailadaa
