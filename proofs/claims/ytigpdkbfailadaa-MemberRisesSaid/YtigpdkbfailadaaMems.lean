/-
  Members: their value, the block in which they lie, what the document says of them; and the walks of the smallest functions.
-/
import Derived.Test.YtigpdkbfailadaaRows
import Derived.Test.YtigpdkbfailadaaAppend
import Derived.Test.YtigpdkbfailadaaTail
import Derived.Shelf.Abstract
import Derived.Shelf.RegionOpen
import Derived.WalkKit
import Derived.OwnWalkIn
import Derived.TacticsInMore
import Derived.LoopNIn
import Derived.LoopIn
import Derived.WalkMore
import Derived.ScopeJumps
import Derived.Lib.Hide
import Derived.WalkSpells
import Derived.WalkLawsBesides
import Derived.Deep.QuietTactic
import Derived.BigQuiet
import Derived.Laws.Rows
namespace Go.Proofs.Ytigpdkbfailadaa
open Go Go.RowKit Go.Shelf
set_option linter.unusedSimpArgs false
set_option linter.unusedVariables false
attribute [local go_sem] Oper.semAt_some

/-- Members: six backends' states, three muxes'. -/
abbrev Mm := Nat → Int
abbrev u8v (x : Int) : Value := .int .u8 x
abbrev mcells (m : Mm) : Array Value := #[u8v (m 0), u8v (m 1), u8v (m 2), u8v (m 3), u8v (m 4), u8v (m 5), u8v (m 6), u8v (m 7), u8v (m 8)]
abbrev mv (m : Mm) : Value := .agg #[u8v (m 0), u8v (m 1), u8v (m 2), u8v (m 3), u8v (m 4), u8v (m 5), u8v (m 6), u8v (m 7), u8v (m 8)]
abbrev nv (k id : Int) : Value := .agg #[.int .u8 k, .int .i64 id]
def zeroM : Mm := fun _ => 0
def upd (m : Mm) (i : Nat) (s : Int) : Mm := fun j => if j = i then s else m j
/-- Where a node's state stands. -/
def idx (k id : Int) : Option Nat :=
  if k = 1 then (if 0 ≤ id ∧ id < 3 then some (6 + id.toNat) else none) else if k = 2 then (if 0 ≤ id ∧ id < 6 then some id.toNat else none) else none
theorem idx_lt {k id : Int} {i : Nat} (h : idx k id = some i) : i < 9 := by
  unfold idx at h
  split at h
  · split at h
    · cases h; omega
    · cases h
  · split at h
    · split at h
      · cases h; omega
      · cases h
    · cases h
/-- May this state be at this place? -/
def okAt (i : Nat) (s : Int) : Bool := decide (s < 4) && (decide (i < 6) || decide (s ≠ 2))
def rightM (m : Mm) : Bool := (List.range 9).all fun i => okAt i (m i)
def thereS (s : Int) : Bool := decide (s = 1) || decide (s = 2)
def aliveS (s : Int) : Bool := decide (s = 1)

/-- A block that holds members. -/
def Mx (W : World) (g : Nat) (m : Mm) : Prop := W.heap[g]? = some (.cells (mcells m) 25 (0, 0))
section
variable {W W' : World} {g : Nat} {m : Mm}
theorem Mx.lt (h : Mx W g m) : g < W.heap.size := (Array.getElem?_eq_some_iff.1 h).1
theorem mcells_at (m : Mm) {i : Nat} (hi : i < 9) : (mcells m)[i]? = some (u8v (m i)) := by
  rcases (show i = 0 ∨ i = 1 ∨ i = 2 ∨ i = 3 ∨ i = 4 ∨ i = 5 ∨ i = 6 ∨ i = 7 ∨ i = 8 by omega) with rfl | rfl | rfl | rfl | rfl | rfl | rfl | rfl | rfl <;> rfl
theorem Mx.at_ (h : Mx W g m) {i : Nat} (hi : i < 9) : W.cell? ⟨g, i, none⟩ = some (u8v (m i)) := by
  rw [cell_of_row W g i _ 25 (0, 0) h]
  exact mcells_at m hi
theorem Mx.cs (h : Mx W g m) : W.cell? ⟨g, 0, none⟩ = some (u8v (m 0)) ∧ W.cell? ⟨g, 1, none⟩ = some (u8v (m 1)) ∧ W.cell? ⟨g, 2, none⟩ = some (u8v (m 2)) ∧ W.cell? ⟨g, 3, none⟩ = some (u8v (m 3)) ∧ W.cell? ⟨g, 4, none⟩ = some (u8v (m 4)) ∧
    W.cell? ⟨g, 5, none⟩ = some (u8v (m 5)) ∧ W.cell? ⟨g, 6, none⟩ = some (u8v (m 6)) ∧ W.cell? ⟨g, 7, none⟩ = some (u8v (m 7)) ∧ W.cell? ⟨g, 8, none⟩ = some (u8v (m 8)) :=
  ⟨h.at_ (by omega), h.at_ (by omega), h.at_ (by omega), h.at_ (by omega), h.at_ (by omega), h.at_ (by omega), h.at_ (by omega), h.at_ (by omega), h.at_ (by omega)⟩
theorem Mx.fz (h : Mx W g m) (i : Nat) : W.frozen? ⟨g, i, none⟩ = false := by
  unfold Mx at h
  simp [World.frozen?, h]
theorem Mx.new (w : World) (m : Mm) : Mx (w.alloc (.cells (mcells m) 25)) w.heap.size m := World.alloc_heap_new w _
theorem Mx.newAt {w : World} {g : Nat} (hg : w.heap.size = g) (m : Mm) : Mx (w.alloc (.cells (mcells m) 25)) g m := by
  subst hg
  exact Mx.new w m
theorem Mx.alloc (h : Mx W g m) (o : Obj) : Mx (W.alloc o) g m := (Below.heap_alloc W o g h.lt).trans h
theorem Mx.drew (h : Mx W g m) : Mx W.drew g m := h
theorem Mx.drewN (h : Mx W g m) (k : Nat) : Mx (W.drewN k) g m := h
theorem Mx.far (h : Mx W g m) {p : Addr} (hp : g ≠ p.block) (u : Value) : Mx (W.setCell p u) g m := (Below.heap_setCell W p u g hp).trans h
theorem Mx.below {B : Nat} (h : Mx W g m) (hb : Below B W W') (hg : g < B) : Mx W' g m := (hb.block g hg).trans h
theorem Mx.grown {row : Option Nat} (h : Mx W g m) (hb : W.grownBy W' row) (hg : some g ≠ row) : Mx W' g m := (hb.block g h.lt hg).trans h
theorem Mx.kept {row : Option Nat} (h : Mx W g m) (hg : W.grownBy W' row) (hr : ∀ r, row = some r → ∃ o : Obj, W.heap[r]? = some o ∧ o.isCells = false) : Mx W' g m :=
  h.grown hg (fun e' => by obtain ⟨o, ho, hc⟩ := hr g e'.symm; rw [show W.heap[g]? = _ from h] at ho; cases ho; cases hc)
theorem mcells_set (m : Mm) {i : Nat} (hi : i < 9) (s : Int) : (mcells m).setIfInBounds i (u8v s) = mcells (upd m i s) := by
  rcases (show i = 0 ∨ i = 1 ∨ i = 2 ∨ i = 3 ∨ i = 4 ∨ i = 5 ∨ i = 6 ∨ i = 7 ∨ i = 8 by omega) with rfl | rfl | rfl | rfl | rfl | rfl | rfl | rfl | rfl <;> rfl
theorem Mx.set (h : Mx W g m) {i : Nat} (hi : i < 9) (s : Int) : Mx (W.setCell ⟨g, i, none⟩ (u8v s)) g (upd m i s) := by
  obtain ⟨hlt, hk⟩ := Array.getElem?_eq_some_iff.1 h
  show (W.heap.modify g _)[g]? = _
  rw [Array.getElem?_eq_getElem (by rw [Array.size_modify]; exact hlt), Array.getElem_modify_self, hk]
  show some (Obj.cells ((mcells m).setIfInBounds i (u8v s)) 25 (0, 0)) = _
  rw [mcells_set m hi s]
end
end Go.Proofs.Ytigpdkbfailadaa
