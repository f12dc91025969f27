/-
  The walk of the statement MemberRises (its drawn regions printed by gen-rises20.py).
-/
import Derived.Test.YtigpdkbfailadaaRows
import Derived.Test.YtigpdkbfailadaaAppend
import Derived.Test.YtigpdkbfailadaaTail
import Derived.Shelf.Abstract
import Derived.Shelf.RegionOpen
import Derived.WalkKit
import Derived.OwnWalkIn
import Derived.TacticsInMore
import Derived.LoopNIn
import Derived.LoopIn
import Derived.WalkMore
import Derived.ScopeJumps
import Derived.Lib.Hide
import Derived.WalkSpells
import Derived.WalkLawsBesides
import Derived.Deep.QuietTactic
import Derived.BigQuiet
import Derived.Laws.Rows
import Derived.Test.YtigpdkbfailadaaMems
import Derived.Test.YtigpdkbfailadaaRises
import Derived.Test.YtigpdkbfailadaaTake
import Derived.Deep.CutRange
import Derived.Deep.CutBlock
namespace Go.Proofs.Ytigpdkbfailadaa
open Go Go.RowKit Go.Shelf
set_option linter.unusedSimpArgs false
set_option linter.unusedVariables false
attribute [local go_sem] Oper.semAt_some

theorem Mx.far9 {W : World} {g g' : Nat} {m : Mm} (h : Mx W g m) (hne : g ≠ g') (m' : Mm) : Mx (put9 W g' m') g m :=
  ((((((((h.far (p := ⟨g', 0, none⟩) hne _).far (p := ⟨g', 1, none⟩) hne _).far (p := ⟨g', 2, none⟩) hne _).far (p := ⟨g', 3, none⟩) hne _).far (p := ⟨g', 4, none⟩) hne _).far (p := ⟨g', 5, none⟩) hne _).far (p := ⟨g', 6, none⟩) hne _).far (p := ⟨g', 7, none⟩) hne _).far (p := ⟨g', 8, none⟩) hne _
theorem cell_far {W : World} {q p : Addr} (h : q.block ≠ p.block) (v : Value) : (W.setCell p v).cell? q = W.cell? q := World.cell?_setCell_other W p q v (fun e => h (by rw [e]))
theorem cell_put9 {W : World} {g : Nat} {q : Addr} (h : q.block ≠ g) (m : Mm) : (put9 W g m).cell? q = W.cell? q := by
  unfold put9
  rw [cell_far h, cell_far h, cell_far h, cell_far h, cell_far h, cell_far h, cell_far h, cell_far h, cell_far h]

/-- What a deed's statement reads, and writes. -/
def Rs (mk : Mm) (x : Deed) (g b p : Nat) (w W : World) : Prop := Mx W w.heap.size mk ∧ (∃ y, Mx W g y) ∧ At3 W b p x ∧ Below w.heap.size w W ∧ b < w.heap.size
section
variable {mk o : Mm} {x : Deed} {g b p : Nat} {w W W' : World}
theorem Rs.below (h : Rs mk x g b p w W) (hB : Below W.heap.size W W') : Rs mk x g b p w W' := by
  obtain ⟨h1, ⟨y, h2⟩, h3, h4, h5⟩ := h
  have hbW : b < W.heap.size := Nat.lt_of_lt_of_le h5 h4.size
  exact ⟨h1.below hB h1.lt, ⟨y, h2.below hB h2.lt⟩, h3.keep fun q hq => hB.cell (by rw [hq]; exact hbW), h4.trans (hB.mono h4.size), h5⟩
theorem Rs.drewN (h : Rs mk x g b p w W) (k : Nat) : Rs mk x g b p w (W.drewN k) := ⟨h.1, h.2.1, h.2.2.1, below_drewN h.2.2.2.1 k, h.2.2.2.2⟩
theorem Rs.putO (h : Rs mk x g b p w W) (o : Mm) : Mx (put9 W g o) g o := by
  obtain ⟨y, hy⟩ := h.2.1
  exact put9_mx hy o
theorem Rs.put (h : Rs mk x g b p w W) (hg : w.heap.size < g) (o : Mm) : Rs mk x g b p w (put9 W g o) := by
  refine ⟨h.1.far9 (by omega) o, ⟨o, h.putO o⟩, h.2.2.1.keep fun q hq => cell_put9 (by rw [hq]; have := h.2.2.2.2; omega) o, put9_below h.2.2.2.1 (by omega) o, h.2.2.2.2⟩
end
/-- What lies there behind a deed. -/
def Ro (mk o : Mm) (g : Nat) (w W : World) : Prop := Mx W g o ∧ Mx W w.heap.size mk ∧ Below w.heap.size w W
section
variable {mk o : Mm} {g : Nat} {w W W' : World}
theorem Ro.below (h : Ro mk o g w W) (hB : Below W.heap.size W W') : Ro mk o g w W' := ⟨h.1.below hB h.1.lt, h.2.1.below hB h.2.1.lt, h.2.2.trans (hB.mono h.2.2.size)⟩
theorem Ro.drewN (h : Ro mk o g w W) (k : Nat) : Ro mk o g w (W.drewN k) := ⟨h.1, h.2.1, below_drewN h.2.2 k⟩
end
theorem run_load_node {a : Act} {s : Tmp} {b p : Nat} {k id : Int} {W : World} {o : Oper} (ho : o.op = .load 27 (.tmp s)) (hs : a.tmps.getD s undef = .pointer (some ⟨b, p, none⟩)) (c0 : W.cell? ⟨b, p, none⟩ = some (.int .u8 k)) (c1 : W.cell? ⟨b, p + 1, none⟩ = some (.int .i64 id)) : (execOp a.eval o).run Try.prog W = .ok (.value (nv k id)) W := by
  have hs' : a.tmps[s]?.getD undef = .pointer (some ⟨b, p, none⟩) := by simpa using hs
  unfold execOp
  simp [ho, Act.eval, hs', go_sem, c0, c1]
theorem run_load_id {a : Act} {s : Tmp} {b p : Nat} {id : Int} {W : World} {o : Oper} (ho : o.op = .load 3 (.tmp s)) (hs : a.tmps.getD s undef = .pointer (some ⟨b, p, none⟩)) (c0 : W.cell? ⟨b, p, none⟩ = some (.int .i64 id)) : (execOp a.eval o).run Try.prog W = .ok (.value (.int .i64 id)) W := by
  have hs' : a.tmps[s]?.getD undef = .pointer (some ⟨b, p, none⟩) := by simpa using hs
  unfold execOp
  simp [ho, Act.eval, hs', go_sem, c0]
theorem doD_add {m : Mm} {x : Deed} {d : Mm × Int} (h : doD m x = d) (h0 : x.act = 0) (w : World) : Calls Try.prog 7 #[mv m, nv x.kind x.id] w fun e W' => e = .returned (.tuple #[mv d.1, .int .i64 d.2]) ∧ Below w.heap.size w W' := by
  unfold doD at h
  rw [if_pos h0] at h
  exact h ▸ add_any m x.kind x.id w
theorem doD_leave {m : Mm} {x : Deed} {d : Mm × Int} (h : doD m x = d) (h0 : x.act = 1) (w : World) : Calls Try.prog 9 #[mv m, .int .i64 x.id] w fun e W' => e = .returned (.tuple #[mv d.1, .int .i64 d.2]) ∧ Below w.heap.size w W' := by
  unfold doD at h
  rw [if_neg (by omega), if_pos h0] at h
  exact h ▸ leave_any m x.id w
theorem doD_kill {m : Mm} {x : Deed} {d : Mm × Int} (h : doD m x = d) (h0 : x.act ≠ 0) (h1 : x.act ≠ 1) (w : World) : Calls Try.prog 11 #[mv m, nv x.kind x.id] w fun e W' => e = .returned (.tuple #[mv d.1, .int .i64 d.2]) ∧ Below w.heap.size w W' := by
  unfold doD at h
  rw [if_neg h0, if_neg h1] at h
  exact h ▸ kill_any m x.kind x.id w

/-- The operations of region 10. -/
noncomputable def P10 : Array Oper := opsOf Try.f4 10
theorem P10_s : Region.noSelect P10 = true := by kernel_rfl
theorem P10_f0 : Region.free .any P10 #[false, false, false, false, false, false, false, false, false, false, false, false] 0 = true := by kernel_rfl
theorem P10_c0 : (Region.ready .any P10 #[false, false, false, false, false, false, false, false, false, false, false, false]).contains 0 = true := by kernel_rfl
theorem P10_f1 : Region.free .any P10 #[true, false, false, false, false, false, false, false, false, false, false, false] 1 = true := by kernel_rfl
theorem P10_c1 : (Region.ready .any P10 #[true, false, false, false, false, false, false, false, false, false, false, false]).contains 1 = true := by kernel_rfl
theorem P10_f2 : Region.free .any P10 #[true, true, false, false, false, false, false, false, false, false, false, false] 2 = true := by kernel_rfl
theorem P10_c2 : (Region.ready .any P10 #[true, true, false, false, false, false, false, false, false, false, false, false]).contains 2 = true := by kernel_rfl
theorem P10_f3 : Region.free .any P10 #[true, true, true, false, false, false, false, false, false, false, false, false] 3 = true := by kernel_rfl
theorem P10_c3 : (Region.ready .any P10 #[true, true, true, false, false, false, false, false, false, false, false, false]).contains 3 = true := by kernel_rfl
theorem P10_f4 : Region.free .any P10 #[true, true, true, true, false, false, false, false, false, false, false, false] 4 = true := by kernel_rfl
theorem P10_c4 : (Region.ready .any P10 #[true, true, true, true, false, false, false, false, false, false, false, false]).contains 4 = true := by kernel_rfl
theorem P10_f5 : Region.free .any P10 #[true, true, true, true, true, false, false, false, false, false, false, false] 5 = true := by kernel_rfl
theorem P10_c5 : (Region.ready .any P10 #[true, true, true, true, true, false, false, false, false, false, false, false]).contains 5 = true := by kernel_rfl
theorem P10_r6 : Region.ready .any P10 #[true, true, true, true, true, true, false, false, false, false, false, false] = [6] := by kernel_rfl
theorem P10_f7 : Region.free .any P10 #[true, true, true, true, true, true, true, false, false, false, false, false] 7 = true := by kernel_rfl
theorem P10_c7 : (Region.ready .any P10 #[true, true, true, true, true, true, true, false, false, false, false, false]).contains 7 = true := by kernel_rfl
theorem P10_f8 : Region.free .any P10 #[true, true, true, true, true, true, true, true, false, false, false, false] 8 = true := by kernel_rfl
theorem P10_c8 : (Region.ready .any P10 #[true, true, true, true, true, true, true, true, false, false, false, false]).contains 8 = true := by kernel_rfl
theorem P10_f9 : Region.free .any P10 #[true, true, true, true, true, true, true, true, true, false, false, false] 9 = true := by kernel_rfl
theorem P10_c9 : (Region.ready .any P10 #[true, true, true, true, true, true, true, true, true, false, false, false]).contains 9 = true := by kernel_rfl
theorem P10_r10 : Region.ready .any P10 #[true, true, true, true, true, true, true, true, true, true, false, false] = [10] := by kernel_rfl
theorem P10_f11 : Region.free .any P10 #[true, true, true, true, true, true, true, true, true, true, true, false] 11 = true := by kernel_rfl
theorem P10_c11 : (Region.ready .any P10 #[true, true, true, true, true, true, true, true, true, true, true, false]).contains 11 = true := by kernel_rfl
/-- The operations of region 12. -/
noncomputable def P12 : Array Oper := opsOf Try.f4 12
theorem P12_s : Region.noSelect P12 = true := by kernel_rfl
theorem P12_f0 : Region.free .any P12 #[false, false, false, false, false, false, false, false, false, false, false, false, false] 0 = true := by kernel_rfl
theorem P12_c0 : (Region.ready .any P12 #[false, false, false, false, false, false, false, false, false, false, false, false, false]).contains 0 = true := by kernel_rfl
theorem P12_f1 : Region.free .any P12 #[true, false, false, false, false, false, false, false, false, false, false, false, false] 1 = true := by kernel_rfl
theorem P12_c1 : (Region.ready .any P12 #[true, false, false, false, false, false, false, false, false, false, false, false, false]).contains 1 = true := by kernel_rfl
theorem P12_f2 : Region.free .any P12 #[true, true, false, false, false, false, false, false, false, false, false, false, false] 2 = true := by kernel_rfl
theorem P12_c2 : (Region.ready .any P12 #[true, true, false, false, false, false, false, false, false, false, false, false, false]).contains 2 = true := by kernel_rfl
theorem P12_f3 : Region.free .any P12 #[true, true, true, false, false, false, false, false, false, false, false, false, false] 3 = true := by kernel_rfl
theorem P12_c3 : (Region.ready .any P12 #[true, true, true, false, false, false, false, false, false, false, false, false, false]).contains 3 = true := by kernel_rfl
theorem P12_f4 : Region.free .any P12 #[true, true, true, true, false, false, false, false, false, false, false, false, false] 4 = true := by kernel_rfl
theorem P12_c4 : (Region.ready .any P12 #[true, true, true, true, false, false, false, false, false, false, false, false, false]).contains 4 = true := by kernel_rfl
theorem P12_f5 : Region.free .any P12 #[true, true, true, true, true, false, false, false, false, false, false, false, false] 5 = true := by kernel_rfl
theorem P12_c5 : (Region.ready .any P12 #[true, true, true, true, true, false, false, false, false, false, false, false, false]).contains 5 = true := by kernel_rfl
theorem P12_f6 : Region.free .any P12 #[true, true, true, true, true, true, false, false, false, false, false, false, false] 6 = true := by kernel_rfl
theorem P12_c6 : (Region.ready .any P12 #[true, true, true, true, true, true, false, false, false, false, false, false, false]).contains 6 = true := by kernel_rfl
theorem P12_r7 : Region.ready .any P12 #[true, true, true, true, true, true, true, false, false, false, false, false, false] = [7] := by kernel_rfl
theorem P12_f8 : Region.free .any P12 #[true, true, true, true, true, true, true, true, false, false, false, false, false] 8 = true := by kernel_rfl
theorem P12_c8 : (Region.ready .any P12 #[true, true, true, true, true, true, true, true, false, false, false, false, false]).contains 8 = true := by kernel_rfl
theorem P12_f9 : Region.free .any P12 #[true, true, true, true, true, true, true, true, true, false, false, false, false] 9 = true := by kernel_rfl
theorem P12_c9 : (Region.ready .any P12 #[true, true, true, true, true, true, true, true, true, false, false, false, false]).contains 9 = true := by kernel_rfl
theorem P12_f10 : Region.free .any P12 #[true, true, true, true, true, true, true, true, true, true, false, false, false] 10 = true := by kernel_rfl
theorem P12_c10 : (Region.ready .any P12 #[true, true, true, true, true, true, true, true, true, true, false, false, false]).contains 10 = true := by kernel_rfl
theorem P12_r11 : Region.ready .any P12 #[true, true, true, true, true, true, true, true, true, true, true, false, false] = [11] := by kernel_rfl
theorem P12_f12 : Region.free .any P12 #[true, true, true, true, true, true, true, true, true, true, true, true, false] 12 = true := by kernel_rfl
theorem P12_c12 : (Region.ready .any P12 #[true, true, true, true, true, true, true, true, true, true, true, true, false]).contains 12 = true := by kernel_rfl
/-- The operations of region 8. -/
noncomputable def P8 : Array Oper := opsOf Try.f4 8
theorem P8_s : Region.noSelect P8 = true := by kernel_rfl
theorem P8_f0 : Region.free .any P8 #[false, false, false, false, false, false, false, false, false, false, false, false] 0 = true := by kernel_rfl
theorem P8_c0 : (Region.ready .any P8 #[false, false, false, false, false, false, false, false, false, false, false, false]).contains 0 = true := by kernel_rfl
theorem P8_f1 : Region.free .any P8 #[true, false, false, false, false, false, false, false, false, false, false, false] 1 = true := by kernel_rfl
theorem P8_c1 : (Region.ready .any P8 #[true, false, false, false, false, false, false, false, false, false, false, false]).contains 1 = true := by kernel_rfl
theorem P8_f2 : Region.free .any P8 #[true, true, false, false, false, false, false, false, false, false, false, false] 2 = true := by kernel_rfl
theorem P8_c2 : (Region.ready .any P8 #[true, true, false, false, false, false, false, false, false, false, false, false]).contains 2 = true := by kernel_rfl
theorem P8_f3 : Region.free .any P8 #[true, true, true, false, false, false, false, false, false, false, false, false] 3 = true := by kernel_rfl
theorem P8_c3 : (Region.ready .any P8 #[true, true, true, false, false, false, false, false, false, false, false, false]).contains 3 = true := by kernel_rfl
theorem P8_f4 : Region.free .any P8 #[true, true, true, true, false, false, false, false, false, false, false, false] 4 = true := by kernel_rfl
theorem P8_c4 : (Region.ready .any P8 #[true, true, true, true, false, false, false, false, false, false, false, false]).contains 4 = true := by kernel_rfl
theorem P8_f5 : Region.free .any P8 #[true, true, true, true, true, false, false, false, false, false, false, false] 5 = true := by kernel_rfl
theorem P8_c5 : (Region.ready .any P8 #[true, true, true, true, true, false, false, false, false, false, false, false]).contains 5 = true := by kernel_rfl
theorem P8_r6 : Region.ready .any P8 #[true, true, true, true, true, true, false, false, false, false, false, false] = [6] := by kernel_rfl
theorem P8_f7 : Region.free .any P8 #[true, true, true, true, true, true, true, false, false, false, false, false] 7 = true := by kernel_rfl
theorem P8_c7 : (Region.ready .any P8 #[true, true, true, true, true, true, true, false, false, false, false, false]).contains 7 = true := by kernel_rfl
theorem P8_f8 : Region.free .any P8 #[true, true, true, true, true, true, true, true, false, false, false, false] 8 = true := by kernel_rfl
theorem P8_c8 : (Region.ready .any P8 #[true, true, true, true, true, true, true, true, false, false, false, false]).contains 8 = true := by kernel_rfl
theorem P8_f9 : Region.free .any P8 #[true, true, true, true, true, true, true, true, true, false, false, false] 9 = true := by kernel_rfl
theorem P8_c9 : (Region.ready .any P8 #[true, true, true, true, true, true, true, true, true, false, false, false]).contains 9 = true := by kernel_rfl
theorem P8_r10 : Region.ready .any P8 #[true, true, true, true, true, true, true, true, true, true, false, false] = [10] := by kernel_rfl
theorem P8_f11 : Region.free .any P8 #[true, true, true, true, true, true, true, true, true, true, true, false] 11 = true := by kernel_rfl
theorem P8_c11 : (Region.ready .any P8 #[true, true, true, true, true, true, true, true, true, true, true, false]).contains 11 = true := by kernel_rfl
/-- The operations of region 32. -/
noncomputable def P32 : Array Oper := opsOf Try.f4 32
theorem P32_s : Region.noSelect P32 = true := by kernel_rfl
theorem P32_f0 : Region.free .any P32 #[false, false, false, false, false, false, false, false, false, false, false, false, false, false, false, false, false, false] 0 = true := by kernel_rfl
theorem P32_c0 : (Region.ready .any P32 #[false, false, false, false, false, false, false, false, false, false, false, false, false, false, false, false, false, false]).contains 0 = true := by kernel_rfl
theorem P32_f1 : Region.free .any P32 #[true, false, false, false, false, false, false, false, false, false, false, false, false, false, false, false, false, false] 1 = true := by kernel_rfl
theorem P32_c1 : (Region.ready .any P32 #[true, false, false, false, false, false, false, false, false, false, false, false, false, false, false, false, false, false]).contains 1 = true := by kernel_rfl
theorem P32_f2 : Region.free .any P32 #[true, true, false, false, false, false, false, false, false, false, false, false, false, false, false, false, false, false] 2 = true := by kernel_rfl
theorem P32_c2 : (Region.ready .any P32 #[true, true, false, false, false, false, false, false, false, false, false, false, false, false, false, false, false, false]).contains 2 = true := by kernel_rfl
theorem P32_f3 : Region.free .any P32 #[true, true, true, false, false, false, false, false, false, false, false, false, false, false, false, false, false, false] 3 = true := by kernel_rfl
theorem P32_c3 : (Region.ready .any P32 #[true, true, true, false, false, false, false, false, false, false, false, false, false, false, false, false, false, false]).contains 3 = true := by kernel_rfl
theorem P32_f4 : Region.free .any P32 #[true, true, true, true, false, false, false, false, false, false, false, false, false, false, false, false, false, false] 4 = true := by kernel_rfl
theorem P32_c4 : (Region.ready .any P32 #[true, true, true, true, false, false, false, false, false, false, false, false, false, false, false, false, false, false]).contains 4 = true := by kernel_rfl
theorem P32_f5 : Region.free .any P32 #[true, true, true, true, true, false, false, false, false, false, false, false, false, false, false, false, false, false] 5 = true := by kernel_rfl
theorem P32_c5 : (Region.ready .any P32 #[true, true, true, true, true, false, false, false, false, false, false, false, false, false, false, false, false, false]).contains 5 = true := by kernel_rfl
theorem P32_f6 : Region.free .any P32 #[true, true, true, true, true, true, false, false, false, false, false, false, false, false, false, false, false, false] 6 = true := by kernel_rfl
theorem P32_c6 : (Region.ready .any P32 #[true, true, true, true, true, true, false, false, false, false, false, false, false, false, false, false, false, false]).contains 6 = true := by kernel_rfl
theorem P32_r7 : Region.ready .any P32 #[true, true, true, true, true, true, true, false, false, false, false, false, false, false, false, false, false, false] = [7] := by kernel_rfl
theorem P32_f8 : Region.free .any P32 #[true, true, true, true, true, true, true, true, false, false, false, false, false, false, false, false, false, false] 8 = true := by kernel_rfl
theorem P32_c8 : (Region.ready .any P32 #[true, true, true, true, true, true, true, true, false, false, false, false, false, false, false, false, false, false]).contains 8 = true := by kernel_rfl
theorem P32_f9 : Region.free .any P32 #[true, true, true, true, true, true, true, true, true, false, false, false, false, false, false, false, false, false] 9 = true := by kernel_rfl
theorem P32_c9 : (Region.ready .any P32 #[true, true, true, true, true, true, true, true, true, false, false, false, false, false, false, false, false, false]).contains 9 = true := by kernel_rfl
theorem P32_f10 : Region.free .any P32 #[true, true, true, true, true, true, true, true, true, true, false, false, false, false, false, false, false, false] 10 = true := by kernel_rfl
theorem P32_c10 : (Region.ready .any P32 #[true, true, true, true, true, true, true, true, true, true, false, false, false, false, false, false, false, false]).contains 10 = true := by kernel_rfl
theorem P32_f11 : Region.free .any P32 #[true, true, true, true, true, true, true, true, true, true, true, false, false, false, false, false, false, false] 11 = true := by kernel_rfl
theorem P32_c11 : (Region.ready .any P32 #[true, true, true, true, true, true, true, true, true, true, true, false, false, false, false, false, false, false]).contains 11 = true := by kernel_rfl
theorem P32_f13 : Region.free .any P32 #[true, true, true, true, true, true, true, true, true, true, true, true, false, false, false, false, false, false] 13 = true := by kernel_rfl
theorem P32_c13 : (Region.ready .any P32 #[true, true, true, true, true, true, true, true, true, true, true, true, false, false, false, false, false, false]).contains 13 = true := by kernel_rfl
theorem P32_r12 : Region.ready .any P32 #[true, true, true, true, true, true, true, true, true, true, true, true, false, true, false, false, false, false] = [12] := by kernel_rfl
theorem P32_r14 : Region.ready .any P32 #[true, true, true, true, true, true, true, true, true, true, true, true, true, true, false, false, false, false] = [14] := by kernel_rfl
theorem P32_f15 : Region.free .any P32 #[true, true, true, true, true, true, true, true, true, true, true, true, true, true, true, false, false, false] 15 = true := by kernel_rfl
theorem P32_c15 : (Region.ready .any P32 #[true, true, true, true, true, true, true, true, true, true, true, true, true, true, true, false, false, false]).contains 15 = true := by kernel_rfl
theorem P32_f16 : Region.free .any P32 #[true, true, true, true, true, true, true, true, true, true, true, true, true, true, true, true, false, false] 16 = true := by kernel_rfl
theorem P32_c16 : (Region.ready .any P32 #[true, true, true, true, true, true, true, true, true, true, true, true, true, true, true, true, false, false]).contains 16 = true := by kernel_rfl
theorem P32_f17 : Region.free .any P32 #[true, true, true, true, true, true, true, true, true, true, true, true, true, true, true, true, true, false] 17 = true := by kernel_rfl
theorem P32_c17 : (Region.ready .any P32 #[true, true, true, true, true, true, true, true, true, true, true, true, true, true, true, true, true, false]).contains 17 = true := by kernel_rfl
set_option maxRecDepth 100000 in
set_option maxHeartbeats 4000000 in
theorem memberRises_any (m : Mm) (A : Option Addr) (n c : Nat) (es : List Deed) (w : World) (hs : Sd w w.heap.size A n c es) : Calls Try.prog 4 #[mv m, .slice A n c] w fun e W' => e = .returned (.bool true) ∧ Below w.heap.size w W' := by
  have hlen : es.length = n := hs.1
  have hn63 := hs.n63
  have HL := hide hlen
  clear hlen
  have hM : Mx (w.alloc (.cells (mcells m) 25)) w.heap.size m := Mx.new w m
  have hT : Below w.heap.size w (w.alloc (.cells (mcells m) 25)) := (Below.refl _ w).alloc (Nat.le_refl _) _
  by_cases hn : 40 < n
  · go_enter Try.func4, Try.ntmps4
    go_wp2_with (go_at_call 25; refine (wakes_any _).mono ?_; rintro e w' ⟨rfl, hB⟩)
    go_ret
    exact ⟨rfl, hT.trans (hB.mono (by simp))⟩
  have hn' : ¬ (40 : Int) < (n : Int) := by omega
  cases hr : rightM m with
  | false =>
    have C0 := hide (fun W => refRight_val m false hr W)
    clear hr
    go_enter Try.func4, Try.ntmps4
    go_wp2_with fail
    refine (C0.out _).mono ?_
    rintro e w0 ⟨rfl, hB0⟩
    replace hT := hT.trans (hB0.mono hT.size)
    go_wp2_with fail
    refine (wakes_any _).mono ?_
    rintro e w1 ⟨rfl, hB1⟩
    replace hT := hT.trans (hB1.mono hT.size)
    go_wp2
    go_ret
    exact ⟨rfl, hT⟩
  | true =>
    have C0 := hide (fun W => refRight_val m true hr W)
    have HR0 := hide hr
    clear hr
    go_enter Try.func4, Try.ntmps4
    go_wp2_with fail
    refine (C0.out _).mono ?_
    rintro e w0 ⟨rfl, hB0⟩
    replace hM := hM.below hB0 hM.lt
    replace hT := hT.trans (hB0.mono hT.size)
    clear hB0 C0
    go_wp2_with fail
    go_loopw [5] (fun i wr => ∃ (k : Nat) (mk : Mm), k ≤ n ∧ i = .int .i64 k ∧ rightM mk = true ∧ Mx wr w.heap.size mk ∧ Below w.heap.size w wr) (fun i _ => n - (intOf i).toNat)
    case atStart => exact ⟨0, m, Nat.zero_le _, rfl, HR0.out, hM, hT⟩
    case round =>
      obtain ⟨k, mk, hk, rfl, hrk, hMk, hB⟩ := hrel
      by_cases hlt : k < n
      · obtain ⟨b, off, x, rfl, hb, hx, d0, d1, d2⟩ := (hs.below hB).at_ hlt
        obtain ⟨⟨o, v⟩, hd⟩ : ∃ d, doD mk x = d := ⟨_, rfl⟩
        have HD := hide hd
        have HRK := hide hrk
        have HXX := hide hx
        clear hd hx hrk hM hT
        obtain ⟨q0, q1, q2, q3, q4, q5, q6, q7, q8⟩ := hMk.cs
        have ql := hMk.lt
        have bl : b < wr.heap.size := Nat.lt_of_lt_of_le hb hB.size
        go_upto_block 2 with (fail)
        have hMa := hMk.alloc (.cells (mcells mk) 25)
        have hBa : Below w.heap.size w (wr.alloc (.cells (mcells mk) 25)) := hB.alloc hB.size _
        have hOa := Mx.new wr mk
        go_cut [7] from 33 to 67 (fun s7 wx => s7 = .int .i64 v ∧ Mx wx wr.heap.size o ∧ Mx wx w.heap.size mk ∧ Below w.heap.size w wx)
        case first =>
          have hRS : Rs mk x wr.heap.size b (off + k * 3) w (wr.alloc (.cells (mcells mk) 25)) := ⟨hMa, ⟨mk, hOa⟩, (show At3 wr b (off + k * 3) x from ⟨d0, d1, d2⟩).keep fun q hq => World.cell?_alloc_lt wr _ q (by rw [hq]; exact bl), hBa, hb⟩
          have hlw : w.heap.size < wr.heap.size := ql
          have hk0 : (0 : Int) ≤ (k : Int) := by omega
          have hkn : (k : Int) < (n : Int) := by omega
          clear q0 q1 q2 q3 q4 q5 q6 q7 q8 hMa hBa hOa
          by_cases h0 : x.act = 0
          · have e0 : (x.act == 0) = true := by simp [h0]
            have HC := hide (fun W => doD_add HD.out h0 W)
            clear h0
            go_wp2_with fail
            refine region_as (R := P10) (by kernel_rfl) ?_
            refine wp_region_held_drew (S := Rs mk x wr.heap.size b (off + k * 3) w) (by kernel_rfl) ?_ (fun hHeld => ?_)
            · exact hRS.drewN 1
            refine listed_as (L := #[false, false, false, false, false, false, false, false, false, false, false, false]) (by kernel_rfl) ?_
            refine take_bare (i := 0) (some 46) (Go.Op.load 25 (Go.Operand.tmp 2)) 25 #[true, false, false, false, false, false, false, false, false, false, false, false] (v := (mv mk)) hHeld rfl (by kernel_rfl) (by kernel_rfl) (by kernel_rfl) (by kernel_rfl) P10_s P10_f0 P10_c0 (by kernel_rfl) (fun _ _ _ h => h) (fun W hS => run_load_mx (s := 2) (by kernel_rfl) (by kernel_rfl) hS.1) ?_
            try simp only [Act.put, List.setIfInBounds_toArray, List.set_cons_zero, List.set_cons_succ]
            refine take_bare (i := 1) (some 47) (Go.Op.move (Go.Operand.tmp 1)) 39 #[true, true, false, false, false, false, false, false, false, false, false, false] (v := ?_) hHeld rfl (by kernel_rfl) (by kernel_rfl) (by kernel_rfl) (by kernel_rfl) P10_s P10_f1 P10_c1 (by kernel_rfl) (fun _ _ _ h => h) ?hyr101_2 ?_
            case hyr101_2 => intro w hSw; clear hSw; go_simp; try with_reducible rfl
            try simp only [Act.put, List.setIfInBounds_toArray, List.set_cons_zero, List.set_cons_succ]
            refine take_bare (i := 2) (some 48) (Go.Op.move (Go.Operand.tmp 5)) 3 #[true, true, true, false, false, false, false, false, false, false, false, false] (v := ?_) hHeld rfl (by kernel_rfl) (by kernel_rfl) (by kernel_rfl) (by kernel_rfl) P10_s P10_f2 P10_c2 (by kernel_rfl) (fun _ _ _ h => h) ?hyr102_3 ?_
            case hyr102_3 => intro w hSw; clear hSw; go_simp; try with_reducible rfl
            try simp only [Act.put, List.setIfInBounds_toArray, List.set_cons_zero, List.set_cons_succ]
            refine take_bare (i := 3) (some 49) (Go.Op.indexAddr 39 (Go.Operand.tmp 47) (Go.Operand.tmp 48)) 0 #[true, true, true, true, false, false, false, false, false, false, false, false] (v := ?_) hHeld rfl (by kernel_rfl) (by kernel_rfl) (by kernel_rfl) (by kernel_rfl) P10_s P10_f3 P10_c3 (by kernel_rfl) (fun _ _ _ h => h) ?hyr103_4 ?_
            case hyr103_4 => intro w hSw; clear hSw; go_simp; try with_reducible rfl
            try simp only [Act.put, List.setIfInBounds_toArray, List.set_cons_zero, List.set_cons_succ]
            refine take_bare (i := 4) (some 50) (Go.Op.fieldAddr 41 (Go.Operand.tmp 49) 1) 0 #[true, true, true, true, true, false, false, false, false, false, false, false] (v := ?_) hHeld rfl (by kernel_rfl) (by kernel_rfl) (by kernel_rfl) (by kernel_rfl) P10_s P10_f4 P10_c4 (by kernel_rfl) (fun _ _ _ h => h) ?hyr104_5 ?_
            case hyr104_5 => intro w hSw; clear hSw; go_simp; try with_reducible rfl
            try simp only [Act.put, List.setIfInBounds_toArray, List.set_cons_zero, List.set_cons_succ]
            refine take_bare (i := 5) (some 51) (Go.Op.load 27 (Go.Operand.tmp 50)) 27 #[true, true, true, true, true, true, false, false, false, false, false, false] (v := (nv x.kind x.id)) hHeld rfl (by kernel_rfl) (by kernel_rfl) (by kernel_rfl) (by kernel_rfl) P10_s P10_f5 P10_c5 (by kernel_rfl) (fun _ _ _ h => h) (fun W hS => run_load_node (s := 50) (b := b) (p := off + k * 3 + 1) (by kernel_rfl) (by kernel_rfl) hS.2.2.1.2.1 hS.2.2.1.2.2) ?_
            try simp only [Act.put, List.setIfInBounds_toArray, List.set_cons_zero, List.set_cons_succ]
            refine step_bare (i := 6) (some 52) (Go.Op.call { callee := Go.Callee.value (Go.Operand.func 7), args := #[Go.Operand.tmp 46, Go.Operand.tmp 51], argTypes := #[25, 27] }) 29 #[true, true, true, true, true, true, true, false, false, false, false, false] P10_r6 rfl (by kernel_rfl) (by kernel_rfl) (by kernel_rfl) (by kernel_rfl) (by kernel_rfl) (fun K hK => ?_)
            go_simp
            (with_reducible refine (HC.out _).mono ?_)
            rintro e v6 ⟨rfl, hC6⟩
            go_simp
            refine hK.out _ _ ?_ (fun hHeld => ?_)
            · exact hHeld.below hC6
            clear hK K
            try simp only [Act.put, List.setIfInBounds_toArray, List.set_cons_zero, List.set_cons_succ]
            refine take_bare (i := 7) (some 45) (Go.Op.move (Go.Operand.tmp 52)) 29 #[true, true, true, true, true, true, true, true, false, false, false, false] (v := ?_) hHeld rfl (by kernel_rfl) (by kernel_rfl) (by kernel_rfl) (by kernel_rfl) P10_s P10_f7 P10_c7 (by kernel_rfl) (fun _ _ _ h => h) ?hyr107_7 ?_
            case hyr107_7 => intro w hSw; clear hSw; go_simp; try with_reducible rfl
            try simp only [Act.put, List.setIfInBounds_toArray, List.set_cons_zero, List.set_cons_succ]
            refine take_bare (i := 8) (some 53) (Go.Op.extract (Go.Operand.tmp 45) 0) 25 #[true, true, true, true, true, true, true, true, true, false, false, false] (v := ?_) hHeld rfl (by kernel_rfl) (by kernel_rfl) (by kernel_rfl) (by kernel_rfl) P10_s P10_f8 P10_c8 (by kernel_rfl) (fun _ _ _ h => h) ?hyr108_8 ?_
            case hyr108_8 => intro w hSw; clear hSw; go_simp; try with_reducible rfl
            try simp only [Act.put, List.setIfInBounds_toArray, List.set_cons_zero, List.set_cons_succ]
            refine take_bare (i := 9) (some 54) (Go.Op.extract (Go.Operand.tmp 45) 1) 28 #[true, true, true, true, true, true, true, true, true, true, false, false] (v := ?_) hHeld rfl (by kernel_rfl) (by kernel_rfl) (by kernel_rfl) (by kernel_rfl) P10_s P10_f9 P10_c9 (by kernel_rfl) (fun _ _ _ h => h) ?hyr109_9 ?_
            case hyr109_9 => intro w hSw; clear hSw; go_simp; try with_reducible rfl
            try simp only [Act.put, List.setIfInBounds_toArray, List.set_cons_zero, List.set_cons_succ]
            refine step_bare (i := 10) none (Go.Op.store 25 (Go.Operand.tmp 6) (Go.Operand.tmp 53)) 0 #[true, true, true, true, true, true, true, true, true, true, true, false] P10_r10 rfl (by kernel_rfl) (by kernel_rfl) (by kernel_rfl) (by kernel_rfl) (by kernel_rfl) (fun K hK => ?_)
            have hH10 := hHeld
            obtain ⟨y, hy⟩ := hHeld.2.1
            obtain ⟨y0, y1, y2, y3, y4, y5, y6, y7, y8⟩ := hy.cs
            have g0 := hy.fz 0
            have g1 := hy.fz 1
            have g2 := hy.fz 2
            have g3 := hy.fz 3
            have g4 := hy.fz 4
            have g5 := hy.fz 5
            have g6 := hy.fz 6
            have g7 := hy.fz 7
            have g8 := hy.fz 8
            go_simp
            clear y0 y1 y2 y3 y4 y5 y6 y7 y8 g0 g1 g2 g3 g4 g5 g6 g7 g8
            refine hK.out _ _ ?_ (fun hHeld => ?_)
            · exact hHeld.put hlw o
            clear hK K
            try simp only [Act.put, List.setIfInBounds_toArray, List.set_cons_zero, List.set_cons_succ]
            refine take_bare (i := 11) (some 7) (Go.Op.assign (Go.Operand.tmp 54)) 28 #[true, true, true, true, true, true, true, true, true, true, true, true] (v := ?_) hHeld rfl (by kernel_rfl) (by kernel_rfl) (by kernel_rfl) (by kernel_rfl) P10_s P10_f11 P10_c11 (by kernel_rfl) (fun _ _ _ h => h) ?hyr1011_10 ?_
            case hyr1011_10 => intro w hSw; clear hSw; go_simp; try with_reducible rfl
            try simp only [Act.put, List.setIfInBounds_toArray, List.set_cons_zero, List.set_cons_succ]
            refine wpAnyH_done (by kernel_rfl) ?_ _
            try simp only [Act.put, List.setIfInBounds_toArray, List.set_cons_zero, List.set_cons_succ]
            go_wp2_with fail
            go_meet
            exact ⟨rfl, hH10.putO o, (hH10.put hlw o).1, (hH10.put hlw o).2.2.2.1⟩
          · by_cases h1 : x.act = 1
            · have e0 : (x.act == 0) = false := by simp [h0]
              have e1 : (x.act == 1) = true := by simp [h1]
              have HC := hide (fun W => doD_leave HD.out h1 W)
              clear h0 h1
              go_wp2_with fail
              refine region_as (R := P12) (by kernel_rfl) ?_
              refine wp_region_held_drew (S := Rs mk x wr.heap.size b (off + k * 3) w) (by kernel_rfl) ?_ (fun hHeld => ?_)
              · exact hRS.drewN 1
              refine listed_as (L := #[false, false, false, false, false, false, false, false, false, false, false, false, false]) (by kernel_rfl) ?_
              refine take_bare (i := 0) (some 58) (Go.Op.load 25 (Go.Operand.tmp 2)) 25 #[true, false, false, false, false, false, false, false, false, false, false, false, false] (v := (mv mk)) hHeld rfl (by kernel_rfl) (by kernel_rfl) (by kernel_rfl) (by kernel_rfl) P12_s P12_f0 P12_c0 (by kernel_rfl) (fun _ _ _ h => h) (fun W hS => run_load_mx (s := 2) (by kernel_rfl) (by kernel_rfl) hS.1) ?_
              try simp only [Act.put, List.setIfInBounds_toArray, List.set_cons_zero, List.set_cons_succ]
              refine take_bare (i := 1) (some 59) (Go.Op.move (Go.Operand.tmp 1)) 39 #[true, true, false, false, false, false, false, false, false, false, false, false, false] (v := ?_) hHeld rfl (by kernel_rfl) (by kernel_rfl) (by kernel_rfl) (by kernel_rfl) P12_s P12_f1 P12_c1 (by kernel_rfl) (fun _ _ _ h => h) ?hyr121_2 ?_
              case hyr121_2 => intro w hSw; clear hSw; go_simp; try with_reducible rfl
              try simp only [Act.put, List.setIfInBounds_toArray, List.set_cons_zero, List.set_cons_succ]
              refine take_bare (i := 2) (some 60) (Go.Op.move (Go.Operand.tmp 5)) 3 #[true, true, true, false, false, false, false, false, false, false, false, false, false] (v := ?_) hHeld rfl (by kernel_rfl) (by kernel_rfl) (by kernel_rfl) (by kernel_rfl) P12_s P12_f2 P12_c2 (by kernel_rfl) (fun _ _ _ h => h) ?hyr122_3 ?_
              case hyr122_3 => intro w hSw; clear hSw; go_simp; try with_reducible rfl
              try simp only [Act.put, List.setIfInBounds_toArray, List.set_cons_zero, List.set_cons_succ]
              refine take_bare (i := 3) (some 61) (Go.Op.indexAddr 39 (Go.Operand.tmp 59) (Go.Operand.tmp 60)) 0 #[true, true, true, true, false, false, false, false, false, false, false, false, false] (v := ?_) hHeld rfl (by kernel_rfl) (by kernel_rfl) (by kernel_rfl) (by kernel_rfl) P12_s P12_f3 P12_c3 (by kernel_rfl) (fun _ _ _ h => h) ?hyr123_4 ?_
              case hyr123_4 => intro w hSw; clear hSw; go_simp; try with_reducible rfl
              try simp only [Act.put, List.setIfInBounds_toArray, List.set_cons_zero, List.set_cons_succ]
              refine take_bare (i := 4) (some 62) (Go.Op.fieldAddr 41 (Go.Operand.tmp 61) 1) 0 #[true, true, true, true, true, false, false, false, false, false, false, false, false] (v := ?_) hHeld rfl (by kernel_rfl) (by kernel_rfl) (by kernel_rfl) (by kernel_rfl) P12_s P12_f4 P12_c4 (by kernel_rfl) (fun _ _ _ h => h) ?hyr124_5 ?_
              case hyr124_5 => intro w hSw; clear hSw; go_simp; try with_reducible rfl
              try simp only [Act.put, List.setIfInBounds_toArray, List.set_cons_zero, List.set_cons_succ]
              refine take_bare (i := 5) (some 63) (Go.Op.fieldAddr 27 (Go.Operand.tmp 62) 1) 0 #[true, true, true, true, true, true, false, false, false, false, false, false, false] (v := ?_) hHeld rfl (by kernel_rfl) (by kernel_rfl) (by kernel_rfl) (by kernel_rfl) P12_s P12_f5 P12_c5 (by kernel_rfl) (fun _ _ _ h => h) ?hyr125_6 ?_
              case hyr125_6 => intro w hSw; clear hSw; go_simp; try with_reducible rfl
              try simp only [Act.put, List.setIfInBounds_toArray, List.set_cons_zero, List.set_cons_succ]
              refine take_bare (i := 6) (some 64) (Go.Op.load 3 (Go.Operand.tmp 63)) 3 #[true, true, true, true, true, true, true, false, false, false, false, false, false] (v := (.int .i64 x.id)) hHeld rfl (by kernel_rfl) (by kernel_rfl) (by kernel_rfl) (by kernel_rfl) P12_s P12_f6 P12_c6 (by kernel_rfl) (fun _ _ _ h => h) (fun W hS => run_load_id (s := 63) (b := b) (p := off + k * 3 + 1 + 1) (by kernel_rfl) (by kernel_rfl) hS.2.2.1.2.2) ?_
              try simp only [Act.put, List.setIfInBounds_toArray, List.set_cons_zero, List.set_cons_succ]
              refine step_bare (i := 7) (some 65) (Go.Op.call { callee := Go.Callee.value (Go.Operand.func 9), args := #[Go.Operand.tmp 58, Go.Operand.tmp 64], argTypes := #[25, 3] }) 29 #[true, true, true, true, true, true, true, true, false, false, false, false, false] P12_r7 rfl (by kernel_rfl) (by kernel_rfl) (by kernel_rfl) (by kernel_rfl) (by kernel_rfl) (fun K hK => ?_)
              go_simp
              (with_reducible refine (HC.out _).mono ?_)
              rintro e v7 ⟨rfl, hC7⟩
              go_simp
              refine hK.out _ _ ?_ (fun hHeld => ?_)
              · exact hHeld.below hC7
              clear hK K
              try simp only [Act.put, List.setIfInBounds_toArray, List.set_cons_zero, List.set_cons_succ]
              refine take_bare (i := 8) (some 57) (Go.Op.move (Go.Operand.tmp 65)) 29 #[true, true, true, true, true, true, true, true, true, false, false, false, false] (v := ?_) hHeld rfl (by kernel_rfl) (by kernel_rfl) (by kernel_rfl) (by kernel_rfl) P12_s P12_f8 P12_c8 (by kernel_rfl) (fun _ _ _ h => h) ?hyr128_8 ?_
              case hyr128_8 => intro w hSw; clear hSw; go_simp; try with_reducible rfl
              try simp only [Act.put, List.setIfInBounds_toArray, List.set_cons_zero, List.set_cons_succ]
              refine take_bare (i := 9) (some 66) (Go.Op.extract (Go.Operand.tmp 57) 0) 25 #[true, true, true, true, true, true, true, true, true, true, false, false, false] (v := ?_) hHeld rfl (by kernel_rfl) (by kernel_rfl) (by kernel_rfl) (by kernel_rfl) P12_s P12_f9 P12_c9 (by kernel_rfl) (fun _ _ _ h => h) ?hyr129_9 ?_
              case hyr129_9 => intro w hSw; clear hSw; go_simp; try with_reducible rfl
              try simp only [Act.put, List.setIfInBounds_toArray, List.set_cons_zero, List.set_cons_succ]
              refine take_bare (i := 10) (some 67) (Go.Op.extract (Go.Operand.tmp 57) 1) 28 #[true, true, true, true, true, true, true, true, true, true, true, false, false] (v := ?_) hHeld rfl (by kernel_rfl) (by kernel_rfl) (by kernel_rfl) (by kernel_rfl) P12_s P12_f10 P12_c10 (by kernel_rfl) (fun _ _ _ h => h) ?hyr1210_10 ?_
              case hyr1210_10 => intro w hSw; clear hSw; go_simp; try with_reducible rfl
              try simp only [Act.put, List.setIfInBounds_toArray, List.set_cons_zero, List.set_cons_succ]
              refine step_bare (i := 11) none (Go.Op.store 25 (Go.Operand.tmp 6) (Go.Operand.tmp 66)) 0 #[true, true, true, true, true, true, true, true, true, true, true, true, false] P12_r11 rfl (by kernel_rfl) (by kernel_rfl) (by kernel_rfl) (by kernel_rfl) (by kernel_rfl) (fun K hK => ?_)
              have hH10 := hHeld
              obtain ⟨y, hy⟩ := hHeld.2.1
              obtain ⟨y0, y1, y2, y3, y4, y5, y6, y7, y8⟩ := hy.cs
              have g0 := hy.fz 0
              have g1 := hy.fz 1
              have g2 := hy.fz 2
              have g3 := hy.fz 3
              have g4 := hy.fz 4
              have g5 := hy.fz 5
              have g6 := hy.fz 6
              have g7 := hy.fz 7
              have g8 := hy.fz 8
              go_simp
              clear y0 y1 y2 y3 y4 y5 y6 y7 y8 g0 g1 g2 g3 g4 g5 g6 g7 g8
              refine hK.out _ _ ?_ (fun hHeld => ?_)
              · exact hHeld.put hlw o
              clear hK K
              try simp only [Act.put, List.setIfInBounds_toArray, List.set_cons_zero, List.set_cons_succ]
              refine take_bare (i := 12) (some 7) (Go.Op.assign (Go.Operand.tmp 67)) 28 #[true, true, true, true, true, true, true, true, true, true, true, true, true] (v := ?_) hHeld rfl (by kernel_rfl) (by kernel_rfl) (by kernel_rfl) (by kernel_rfl) P12_s P12_f12 P12_c12 (by kernel_rfl) (fun _ _ _ h => h) ?hyr1212_11 ?_
              case hyr1212_11 => intro w hSw; clear hSw; go_simp; try with_reducible rfl
              try simp only [Act.put, List.setIfInBounds_toArray, List.set_cons_zero, List.set_cons_succ]
              refine wpAnyH_done (by kernel_rfl) ?_ _
              try simp only [Act.put, List.setIfInBounds_toArray, List.set_cons_zero, List.set_cons_succ]
              go_wp2_with fail
              go_meet
              exact ⟨rfl, hH10.putO o, (hH10.put hlw o).1, (hH10.put hlw o).2.2.2.1⟩
            · have e0 : (x.act == 0) = false := by simp [h0]
              have e1 : (x.act == 1) = false := by simp [h1]
              have HC := hide (fun W => doD_kill HD.out h0 h1 W)
              clear h0 h1
              go_wp2_with fail
              refine region_as (R := P8) (by kernel_rfl) ?_
              refine wp_region_held_drew (S := Rs mk x wr.heap.size b (off + k * 3) w) (by kernel_rfl) ?_ (fun hHeld => ?_)
              · exact hRS.drewN 1
              refine listed_as (L := #[false, false, false, false, false, false, false, false, false, false, false, false]) (by kernel_rfl) ?_
              refine take_bare (i := 0) (some 34) (Go.Op.load 25 (Go.Operand.tmp 2)) 25 #[true, false, false, false, false, false, false, false, false, false, false, false] (v := (mv mk)) hHeld rfl (by kernel_rfl) (by kernel_rfl) (by kernel_rfl) (by kernel_rfl) P8_s P8_f0 P8_c0 (by kernel_rfl) (fun _ _ _ h => h) (fun W hS => run_load_mx (s := 2) (by kernel_rfl) (by kernel_rfl) hS.1) ?_
              try simp only [Act.put, List.setIfInBounds_toArray, List.set_cons_zero, List.set_cons_succ]
              refine take_bare (i := 1) (some 35) (Go.Op.move (Go.Operand.tmp 1)) 39 #[true, true, false, false, false, false, false, false, false, false, false, false] (v := ?_) hHeld rfl (by kernel_rfl) (by kernel_rfl) (by kernel_rfl) (by kernel_rfl) P8_s P8_f1 P8_c1 (by kernel_rfl) (fun _ _ _ h => h) ?hyr81_2 ?_
              case hyr81_2 => intro w hSw; clear hSw; go_simp; try with_reducible rfl
              try simp only [Act.put, List.setIfInBounds_toArray, List.set_cons_zero, List.set_cons_succ]
              refine take_bare (i := 2) (some 36) (Go.Op.move (Go.Operand.tmp 5)) 3 #[true, true, true, false, false, false, false, false, false, false, false, false] (v := ?_) hHeld rfl (by kernel_rfl) (by kernel_rfl) (by kernel_rfl) (by kernel_rfl) P8_s P8_f2 P8_c2 (by kernel_rfl) (fun _ _ _ h => h) ?hyr82_3 ?_
              case hyr82_3 => intro w hSw; clear hSw; go_simp; try with_reducible rfl
              try simp only [Act.put, List.setIfInBounds_toArray, List.set_cons_zero, List.set_cons_succ]
              refine take_bare (i := 3) (some 37) (Go.Op.indexAddr 39 (Go.Operand.tmp 35) (Go.Operand.tmp 36)) 0 #[true, true, true, true, false, false, false, false, false, false, false, false] (v := ?_) hHeld rfl (by kernel_rfl) (by kernel_rfl) (by kernel_rfl) (by kernel_rfl) P8_s P8_f3 P8_c3 (by kernel_rfl) (fun _ _ _ h => h) ?hyr83_4 ?_
              case hyr83_4 => intro w hSw; clear hSw; go_simp; try with_reducible rfl
              try simp only [Act.put, List.setIfInBounds_toArray, List.set_cons_zero, List.set_cons_succ]
              refine take_bare (i := 4) (some 38) (Go.Op.fieldAddr 41 (Go.Operand.tmp 37) 1) 0 #[true, true, true, true, true, false, false, false, false, false, false, false] (v := ?_) hHeld rfl (by kernel_rfl) (by kernel_rfl) (by kernel_rfl) (by kernel_rfl) P8_s P8_f4 P8_c4 (by kernel_rfl) (fun _ _ _ h => h) ?hyr84_5 ?_
              case hyr84_5 => intro w hSw; clear hSw; go_simp; try with_reducible rfl
              try simp only [Act.put, List.setIfInBounds_toArray, List.set_cons_zero, List.set_cons_succ]
              refine take_bare (i := 5) (some 39) (Go.Op.load 27 (Go.Operand.tmp 38)) 27 #[true, true, true, true, true, true, false, false, false, false, false, false] (v := (nv x.kind x.id)) hHeld rfl (by kernel_rfl) (by kernel_rfl) (by kernel_rfl) (by kernel_rfl) P8_s P8_f5 P8_c5 (by kernel_rfl) (fun _ _ _ h => h) (fun W hS => run_load_node (s := 38) (b := b) (p := off + k * 3 + 1) (by kernel_rfl) (by kernel_rfl) hS.2.2.1.2.1 hS.2.2.1.2.2) ?_
              try simp only [Act.put, List.setIfInBounds_toArray, List.set_cons_zero, List.set_cons_succ]
              refine step_bare (i := 6) (some 40) (Go.Op.call { callee := Go.Callee.value (Go.Operand.func 11), args := #[Go.Operand.tmp 34, Go.Operand.tmp 39], argTypes := #[25, 27] }) 29 #[true, true, true, true, true, true, true, false, false, false, false, false] P8_r6 rfl (by kernel_rfl) (by kernel_rfl) (by kernel_rfl) (by kernel_rfl) (by kernel_rfl) (fun K hK => ?_)
              go_simp
              (with_reducible refine (HC.out _).mono ?_)
              rintro e v6 ⟨rfl, hC6⟩
              go_simp
              refine hK.out _ _ ?_ (fun hHeld => ?_)
              · exact hHeld.below hC6
              clear hK K
              try simp only [Act.put, List.setIfInBounds_toArray, List.set_cons_zero, List.set_cons_succ]
              refine take_bare (i := 7) (some 33) (Go.Op.move (Go.Operand.tmp 40)) 29 #[true, true, true, true, true, true, true, true, false, false, false, false] (v := ?_) hHeld rfl (by kernel_rfl) (by kernel_rfl) (by kernel_rfl) (by kernel_rfl) P8_s P8_f7 P8_c7 (by kernel_rfl) (fun _ _ _ h => h) ?hyr87_7 ?_
              case hyr87_7 => intro w hSw; clear hSw; go_simp; try with_reducible rfl
              try simp only [Act.put, List.setIfInBounds_toArray, List.set_cons_zero, List.set_cons_succ]
              refine take_bare (i := 8) (some 41) (Go.Op.extract (Go.Operand.tmp 33) 0) 25 #[true, true, true, true, true, true, true, true, true, false, false, false] (v := ?_) hHeld rfl (by kernel_rfl) (by kernel_rfl) (by kernel_rfl) (by kernel_rfl) P8_s P8_f8 P8_c8 (by kernel_rfl) (fun _ _ _ h => h) ?hyr88_8 ?_
              case hyr88_8 => intro w hSw; clear hSw; go_simp; try with_reducible rfl
              try simp only [Act.put, List.setIfInBounds_toArray, List.set_cons_zero, List.set_cons_succ]
              refine take_bare (i := 9) (some 42) (Go.Op.extract (Go.Operand.tmp 33) 1) 28 #[true, true, true, true, true, true, true, true, true, true, false, false] (v := ?_) hHeld rfl (by kernel_rfl) (by kernel_rfl) (by kernel_rfl) (by kernel_rfl) P8_s P8_f9 P8_c9 (by kernel_rfl) (fun _ _ _ h => h) ?hyr89_9 ?_
              case hyr89_9 => intro w hSw; clear hSw; go_simp; try with_reducible rfl
              try simp only [Act.put, List.setIfInBounds_toArray, List.set_cons_zero, List.set_cons_succ]
              refine step_bare (i := 10) none (Go.Op.store 25 (Go.Operand.tmp 6) (Go.Operand.tmp 41)) 0 #[true, true, true, true, true, true, true, true, true, true, true, false] P8_r10 rfl (by kernel_rfl) (by kernel_rfl) (by kernel_rfl) (by kernel_rfl) (by kernel_rfl) (fun K hK => ?_)
              have hH10 := hHeld
              obtain ⟨y, hy⟩ := hHeld.2.1
              obtain ⟨y0, y1, y2, y3, y4, y5, y6, y7, y8⟩ := hy.cs
              have g0 := hy.fz 0
              have g1 := hy.fz 1
              have g2 := hy.fz 2
              have g3 := hy.fz 3
              have g4 := hy.fz 4
              have g5 := hy.fz 5
              have g6 := hy.fz 6
              have g7 := hy.fz 7
              have g8 := hy.fz 8
              go_simp
              clear y0 y1 y2 y3 y4 y5 y6 y7 y8 g0 g1 g2 g3 g4 g5 g6 g7 g8
              refine hK.out _ _ ?_ (fun hHeld => ?_)
              · exact hHeld.put hlw o
              clear hK K
              try simp only [Act.put, List.setIfInBounds_toArray, List.set_cons_zero, List.set_cons_succ]
              refine take_bare (i := 11) (some 7) (Go.Op.assign (Go.Operand.tmp 42)) 28 #[true, true, true, true, true, true, true, true, true, true, true, true] (v := ?_) hHeld rfl (by kernel_rfl) (by kernel_rfl) (by kernel_rfl) (by kernel_rfl) P8_s P8_f11 P8_c11 (by kernel_rfl) (fun _ _ _ h => h) ?hyr811_10 ?_
              case hyr811_10 => intro w hSw; clear hSw; go_simp; try with_reducible rfl
              try simp only [Act.put, List.setIfInBounds_toArray, List.set_cons_zero, List.set_cons_succ]
              refine wpAnyH_done (by kernel_rfl) ?_ _
              try simp only [Act.put, List.setIfInBounds_toArray, List.set_cons_zero, List.set_cons_succ]
              go_wp2_with fail
              go_meet
              exact ⟨rfl, hH10.putO o, (hH10.put hlw o).1, (hH10.put hlw o).2.2.2.1⟩
        case rest =>
          obtain ⟨rfl, hO, hM, hBx⟩ := hcut
          have hRo : Ro mk o wr.heap.size w wc := ⟨hO, hM, hBx⟩
          by_cases hv : v = 0
          · subst hv
            obtain ⟨i, s, hRise, hal⟩ := do_rise HRK.out HD.out
            have HRI := hide hRise
            have HAL := hide hal
            have hi9 := hRise.lt
            clear hRise hal q0 q1 q2 q3 q4 q5 q6 q7 q8 d0 d1 d2 hO hM hBx hMa hBa hOa
            go_wp2_with fail
            go_loopw [8, 9] (fun t j wq => ∃ k2 d : Nat, k2 ≤ 6 ∧ j = .int .i64 k2 ∧ t = .int .i64 (if i < k2 then 1 else 0) ∧ wq = wc.drewN d) (fun _ j _ => 6 - (intOf j).toNat)
            case atStart => exact ⟨0, 0, Nat.zero_le _, rfl, by simp, rfl⟩
            case round =>
              obtain ⟨k2, d, hk2, rfl, rfl, rfl⟩ := hrel
              by_cases h6 : k2 < 6
              · have cO := hRo.1.at_ (i := k2) (by omega)
                have cM := hRo.2.1.at_ (i := k2) (by omega)
                have z0 : (0 : Int) ≤ (k2 : Int) := by omega
                have z6 : (k2 : Int) < 6 := by omega
                by_cases hki : k2 = i
                · subst hki
                  have hup : decide (s < mk k2) = false := by have := HRI.out.up; simp; omega
                  have hne : (s != mk k2) = true := by have := HRI.out.up; simp; omega
                  have hok : o k2 = s := by rw [HRI.out.is]; unfold upd; rw [if_pos rfl]
                  rw [hok] at cO
                  have hif : (if k2 < k2 then (1 : Int) else 0) = 0 := by simp
                  rw [hif]
                  clear hok hif
                  go_wp2
                  go_quiet (fail)
                  go_wp2
                  go_quiet (fail)
                  go_wp2
                  go_roundw
                  case rel => exact ⟨k2 + 1, _, by omega, by go_num, by simp, rfl⟩
                  case measure => simp [intOf]; omega
                · have hok : o k2 = mk k2 := by rw [HRI.out.is]; unfold upd; rw [if_neg hki]
                  rw [hok] at cO
                  have hif : (if i < k2 + 1 then (1 : Int) else 0) = if i < k2 then 1 else 0 := by
                    by_cases h : i < k2
                    · rw [if_pos h, if_pos (by omega)]
                    · rw [if_neg h, if_neg (by omega)]
                  have HIF := hide hif
                  obtain ⟨z, hz⟩ : ∃ z : Int, (if i < k2 then (1 : Int) else 0) = z := ⟨_, rfl⟩
                  rw [hz] at HIF ⊢
                  clear hok hif hz hki
                  go_wp2
                  go_quiet (fail)
                  go_wp2
                  go_quiet (fail)
                  go_wp2
                  go_roundw
                  case rel => exact ⟨k2 + 1, _, by omega, by go_num, by rw [HIF.out], rfl⟩
                  case measure => simp [intOf]; omega
              · obtain rfl : k2 = 6 := by omega
                obtain ⟨wd, hwd⟩ : ∃ wd, wc.drewN d = wd := ⟨_, rfl⟩
                have hRo := hwd ▸ hRo.drewN d
                rw [hwd]
                clear hwd
                obtain ⟨z, hz⟩ : ∃ z : Int, (if i < 6 then (1 : Int) else 0) = z := ⟨_, rfl⟩
                rw [hz]
                have HZ := hide hz
                clear hz
                go_wp2_with fail
                go_loopw [8, 10] (fun t j wq => ∃ (k3 d : Nat) (y : Int), k3 ≤ 3 ∧ j = .int .i64 k3 ∧ t = .int .i64 y ∧ y = z + (if 6 ≤ i ∧ i < 6 + k3 then 1 else 0) ∧ 0 ≤ y ∧ y ≤ 2 ∧ wq = wd.drewN d) (fun _ j _ => 3 - (intOf j).toNat)
                case atStart => exact ⟨0, 0, z, Nat.zero_le _, rfl, rfl, by rw [if_neg (by omega)]; omega, by rw [← HZ.out]; split <;> omega, by rw [← HZ.out]; split <;> omega, rfl⟩
                case round =>
                  obtain ⟨k3, d, y, hk3, rfl, rfl, hy, hy0, hy2, rfl⟩ := hrel
                  have HYY := hide hy
                  clear hy
                  by_cases h3 : k3 < 3
                  · have cO := hRo.1.at_ (i := 6 + k3) (by omega)
                    have cM := hRo.2.1.at_ (i := 6 + k3) (by omega)
                    have z0 : (0 : Int) ≤ (k3 : Int) := by omega
                    have z3 : (k3 : Int) < 3 := by omega
                    by_cases hki : 6 + k3 = i
                    · subst hki
                      have hup : decide (s < mk (6 + k3)) = false := by have := HRI.out.up; simp; omega
                      have hne : (s != mk (6 + k3)) = true := by have := HRI.out.up; simp; omega
                      have hok : o (6 + k3) = s := by rw [HRI.out.is]; unfold upd; rw [if_pos rfl]
                      rw [hok] at cO
                      clear hok
                      go_wp2
                      go_quiet (fail)
                      go_wp2
                      go_quiet (fail)
                      go_wp2
                      go_roundw
                      case rel => exact ⟨k3 + 1, _, y + 1, by omega, by go_num, rfl, by have h := HYY.out; rw [if_neg (by omega)] at h; rw [if_pos (by omega)]; omega, by omega, by have h := HYY.out; have hz := HZ.out; rw [if_neg (by omega)] at h hz; omega, rfl⟩
                      case measure => simp [intOf]; omega
                    · have hok : o (6 + k3) = mk (6 + k3) := by rw [HRI.out.is]; unfold upd; rw [if_neg hki]
                      rw [hok] at cO
                      have hif : (if 6 ≤ i ∧ i < 6 + (k3 + 1) then (1 : Int) else 0) = if 6 ≤ i ∧ i < 6 + k3 then 1 else 0 := by
                        by_cases h : 6 ≤ i ∧ i < 6 + k3
                        · rw [if_pos h, if_pos (by omega)]
                        · rw [if_neg h, if_neg (by omega)]
                      have HIF := hide hif
                      clear hok hif hki
                      go_wp2
                      go_quiet (fail)
                      go_wp2
                      go_quiet (fail)
                      go_wp2
                      go_roundw
                      case rel => exact ⟨k3 + 1, _, y, by omega, by go_num, rfl, by rw [HIF.out]; exact HYY.out, hy0, hy2, rfl⟩
                      case measure => simp [intOf]; omega
                  · obtain rfl : k3 = 3 := by omega
                    obtain rfl : y = 1 := by
                      have h := HYY.out
                      have hz := HZ.out
                      by_cases h6 : i < 6
                      · rw [if_pos h6] at hz; rw [if_neg (by omega)] at h; omega
                      · rw [if_neg h6] at hz; rw [if_pos (by omega)] at h; omega
                    obtain ⟨we, hwe⟩ : ∃ we, wd.drewN d = we := ⟨_, rfl⟩
                    have hRo := hwe ▸ hRo.drewN d
                    rw [hwe]
                    clear hwe HYY HZ
                    obtain ⟨b', off', x', hA', hb', hx', d0, d1, d2⟩ := ((hs.below hRo.2.2).at_ hlt)
                    cases hA'
                    cases (HXX.out.symm.trans hx')
                    go_upto_region 31 with (fail)
                    go_cut [11] from 121 to 144 (fun s11 wx => s11 = .bool false ∧ Ro mk o wr.heap.size w wx)
                    case first =>
                      obtain ⟨T, hT⟩ : ∃ T, bitsTo mk 0 aliveS 6 = T := ⟨_, rfl⟩
                      obtain ⟨T', hT'⟩ : ∃ T', bitsTo o 0 aliveS 6 = T' := ⟨_, rfl⟩
                      have CM := hide (fun W => takers_val mk T hT W)
                      have CO := hide (fun W => takers_val o T' hT' W)
                      have hal := HAL.out
                      rw [hT, hT'] at hal
                      have k0 : (0 : Int) ≤ (k : Int) := by omega
                      have kn : (k : Int) < (n : Int) := by omega
                      clear hT hT'
                      obtain ⟨m0, m1, m2, m3, m4, m5, m6, m7, m8⟩ := hRo.2.1.cs
                      obtain ⟨p0, p1, p2, p3, p4, p5, p6, p7, p8⟩ := hRo.1.cs
                      by_cases hact : x.act = 0 ∨ x.act = 1
                      · by_cases hT0 : T = 0
                        · subst hT0
                          rcases hact with ha | ha
                          all_goals
                            have e0 : (x.act == 0) = decide (x.act = 0) := rfl
                            rw [ha] at d0
                            clear hal ha e0
                            go_wp2_with (go_at_call 21; refine (CM.out _).mono ?_; rintro e v1 ⟨rfl, hC1⟩)
                            go_meet
                            exact ⟨rfl, hRo.below hC1⟩
                        · have hT'0 : T' ≠ 0 := hal hact hT0
                          have t0 : ((T : Int) != 0) = true := by simp; omega
                          have t1 : ((T' : Int) == 0) = false := by simp; omega
                          clear hal hT0 hT'0
                          rcases hact with ha | ha
                          all_goals
                            rw [ha] at d0
                            clear ha
                            go_wp2_with fail
                            refine (CM.out _).mono ?_
                            clear m0 m1 m2 m3 m4 m5 m6 m7 m8 p0 p1 p2 p3 p4 p5 p6 p7 p8
                            rintro e v1 ⟨rfl, hC1⟩
                            have hR1 := hRo.below hC1
                            obtain ⟨p0, p1, p2, p3, p4, p5, p6, p7, p8⟩ := hR1.1.cs
                            go_wp2_with fail
                            refine (CO.out _).mono ?_
                            clear p0 p1 p2 p3 p4 p5 p6 p7 p8
                            rintro e v2 ⟨rfl, hC2⟩
                            go_wp2_with fail
                            go_meet
                            exact ⟨rfl, hR1.below hC2⟩
                      · have e0 : (x.act == 0) = false := by simp; omega
                        have e1 : (x.act == 1) = false := by simp; omega
                        clear hal hact
                        go_wp2_with fail
                        go_meet
                        exact ⟨rfl, hRo⟩
                    case rest =>
                      obtain ⟨rfl, hRO⟩ := hcut
                      obtain ⟨T', hT'⟩ : ∃ T', bitsTo o 0 aliveS 6 = T' := ⟨_, rfl⟩
                      obtain ⟨B', hB'⟩ : ∃ B', bitsTo o 0 thereS 6 = B' := ⟨_, rfl⟩
                      have CR := hide (fun W => right_val o true HRI.out.right W)
                      have CT := hide (fun W => takers_val o T' hT' W)
                      have CB := hide (fun W => backends_val o B' hB' W)
                      have hAN : bits .andNot .u8 (T' : Int) (B' : Int) = 0 := by rw [← hT', ← hB']; exact takers_there o
                      clear hT' hB' hRo d0 d1 d2
                      go_wp2_with fail
                      refine region_as (R := P32) (by kernel_rfl) ?_
                      refine wp_region_held_drew (S := Ro mk o wr.heap.size w) (by kernel_rfl) ?_ (fun hHeld => ?_)
                      · exact hRO.drewN 1
                      refine listed_as (L := #[false, false, false, false, false, false, false, false, false, false, false, false, false, false, false, false, false, false]) (by kernel_rfl) ?_
                      refine take_bare (i := 0) (some 145) (Go.Op.move (Go.Operand.tmp 8)) 3 #[true, false, false, false, false, false, false, false, false, false, false, false, false, false, false, false, false, false] (v := ?_) hHeld rfl (by kernel_rfl) (by kernel_rfl) (by kernel_rfl) (by kernel_rfl) P32_s P32_f0 P32_c0 (by kernel_rfl) (fun _ _ _ h => h) ?hyr320_1 ?_
                      case hyr320_1 => intro w hSw; clear hSw; go_simp; try with_reducible rfl
                      try simp only [Act.put, List.setIfInBounds_toArray, List.set_cons_zero, List.set_cons_succ]
                      refine take_bare (i := 1) (some 146) (Go.Op.binOp Go.BinOp.neq 3 (Go.Operand.tmp 145) (Go.Operand.const (Go.Value.int Go.IntKind.i64 1)) 3) 4 #[true, true, false, false, false, false, false, false, false, false, false, false, false, false, false, false, false, false] (v := ?_) hHeld rfl (by kernel_rfl) (by kernel_rfl) (by kernel_rfl) (by kernel_rfl) P32_s P32_f1 P32_c1 (by kernel_rfl) (fun _ _ _ h => h) ?hyr321_2 ?_
                      case hyr321_2 => intro w hSw; clear hSw; go_simp; try with_reducible rfl
                      try simp only [Act.put, List.setIfInBounds_toArray, List.set_cons_zero, List.set_cons_succ]
                      refine take_bare (i := 2) (some 147) (Go.Op.move (Go.Operand.tmp 146)) 4 #[true, true, true, false, false, false, false, false, false, false, false, false, false, false, false, false, false, false] (v := ?_) hHeld rfl (by kernel_rfl) (by kernel_rfl) (by kernel_rfl) (by kernel_rfl) P32_s P32_f2 P32_c2 (by kernel_rfl) (fun _ _ _ h => h) ?hyr322_3 ?_
                      case hyr322_3 => intro w hSw; clear hSw; go_simp; try with_reducible rfl
                      try simp only [Act.put, List.setIfInBounds_toArray, List.set_cons_zero, List.set_cons_succ]
                      refine take_bare (i := 3) (some 148) (Go.Op.move (Go.Operand.tmp 11)) 4 #[true, true, true, true, false, false, false, false, false, false, false, false, false, false, false, false, false, false] (v := ?_) hHeld rfl (by kernel_rfl) (by kernel_rfl) (by kernel_rfl) (by kernel_rfl) P32_s P32_f3 P32_c3 (by kernel_rfl) (fun _ _ _ h => h) ?hyr323_4 ?_
                      case hyr323_4 => intro w hSw; clear hSw; go_simp; try with_reducible rfl
                      try simp only [Act.put, List.setIfInBounds_toArray, List.set_cons_zero, List.set_cons_succ]
                      refine take_bare (i := 4) (some 149) (Go.Op.pick (Go.Operand.tmp 147) (Go.Operand.const (Go.Value.bool true)) (Go.Operand.tmp 148)) 4 #[true, true, true, true, true, false, false, false, false, false, false, false, false, false, false, false, false, false] (v := ?_) hHeld rfl (by kernel_rfl) (by kernel_rfl) (by kernel_rfl) (by kernel_rfl) P32_s P32_f4 P32_c4 (by kernel_rfl) (fun _ _ _ h => h) ?hyr324_5 ?_
                      case hyr324_5 => intro w hSw; clear hSw; go_simp; try with_reducible rfl
                      try simp only [Act.put, List.setIfInBounds_toArray, List.set_cons_zero, List.set_cons_succ]
                      refine take_bare (i := 5) (some 150) (Go.Op.move (Go.Operand.tmp 149)) 4 #[true, true, true, true, true, true, false, false, false, false, false, false, false, false, false, false, false, false] (v := ?_) hHeld rfl (by kernel_rfl) (by kernel_rfl) (by kernel_rfl) (by kernel_rfl) P32_s P32_f5 P32_c5 (by kernel_rfl) (fun _ _ _ h => h) ?hyr325_6 ?_
                      case hyr325_6 => intro w hSw; clear hSw; go_simp; try with_reducible rfl
                      try simp only [Act.put, List.setIfInBounds_toArray, List.set_cons_zero, List.set_cons_succ]
                      refine take_bare (i := 6) (some 151) (Go.Op.load 25 (Go.Operand.tmp 6)) 25 #[true, true, true, true, true, true, true, false, false, false, false, false, false, false, false, false, false, false] (v := (mv o)) hHeld rfl (by kernel_rfl) (by kernel_rfl) (by kernel_rfl) (by kernel_rfl) P32_s P32_f6 P32_c6 (by kernel_rfl) (fun _ _ _ h => h) (fun W hS => run_load_mx (s := 6) (by kernel_rfl) (by kernel_rfl) hS.1) ?_
                      try simp only [Act.put, List.setIfInBounds_toArray, List.set_cons_zero, List.set_cons_succ]
                      refine step_bare (i := 7) (some 152) (Go.Op.call { callee := Go.Callee.value (Go.Operand.func 17), args := #[Go.Operand.tmp 151], argTypes := #[25] }) 4 #[true, true, true, true, true, true, true, true, false, false, false, false, false, false, false, false, false, false] P32_r7 rfl (by kernel_rfl) (by kernel_rfl) (by kernel_rfl) (by kernel_rfl) (by kernel_rfl) (fun K hK => ?_)
                      go_simp
                      (with_reducible refine (CR.out _).mono ?_)
                      rintro e v7 ⟨rfl, hC7⟩
                      go_simp
                      refine hK.out _ _ ?_ (fun hHeld => ?_)
                      · exact hHeld.below hC7
                      clear hK K
                      try simp only [Act.put, List.setIfInBounds_toArray, List.set_cons_zero, List.set_cons_succ]
                      refine take_bare (i := 8) (some 153) (Go.Op.unOp Go.UnOp.not 4 (Go.Operand.tmp 152)) 4 #[true, true, true, true, true, true, true, true, true, false, false, false, false, false, false, false, false, false] (v := ?_) hHeld rfl (by kernel_rfl) (by kernel_rfl) (by kernel_rfl) (by kernel_rfl) P32_s P32_f8 P32_c8 (by kernel_rfl) (fun _ _ _ h => h) ?hyr328_8 ?_
                      case hyr328_8 => intro w hSw; clear hSw; go_simp; try with_reducible rfl
                      try simp only [Act.put, List.setIfInBounds_toArray, List.set_cons_zero, List.set_cons_succ]
                      refine take_bare (i := 9) (some 154) (Go.Op.pick (Go.Operand.tmp 150) (Go.Operand.const (Go.Value.bool true)) (Go.Operand.tmp 153)) 4 #[true, true, true, true, true, true, true, true, true, true, false, false, false, false, false, false, false, false] (v := ?_) hHeld rfl (by kernel_rfl) (by kernel_rfl) (by kernel_rfl) (by kernel_rfl) P32_s P32_f9 P32_c9 (by kernel_rfl) (fun _ _ _ h => h) ?hyr329_9 ?_
                      case hyr329_9 => intro w hSw; clear hSw; go_simp; try with_reducible rfl
                      try simp only [Act.put, List.setIfInBounds_toArray, List.set_cons_zero, List.set_cons_succ]
                      refine take_bare (i := 10) (some 155) (Go.Op.move (Go.Operand.tmp 154)) 4 #[true, true, true, true, true, true, true, true, true, true, true, false, false, false, false, false, false, false] (v := ?_) hHeld rfl (by kernel_rfl) (by kernel_rfl) (by kernel_rfl) (by kernel_rfl) P32_s P32_f10 P32_c10 (by kernel_rfl) (fun _ _ _ h => h) ?hyr3210_10 ?_
                      case hyr3210_10 => intro w hSw; clear hSw; go_simp; try with_reducible rfl
                      try simp only [Act.put, List.setIfInBounds_toArray, List.set_cons_zero, List.set_cons_succ]
                      refine take_bare (i := 11) (some 156) (Go.Op.load 25 (Go.Operand.tmp 6)) 25 #[true, true, true, true, true, true, true, true, true, true, true, true, false, false, false, false, false, false] (v := (mv o)) hHeld rfl (by kernel_rfl) (by kernel_rfl) (by kernel_rfl) (by kernel_rfl) P32_s P32_f11 P32_c11 (by kernel_rfl) (fun _ _ _ h => h) (fun W hS => run_load_mx (s := 6) (by kernel_rfl) (by kernel_rfl) hS.1) ?_
                      try simp only [Act.put, List.setIfInBounds_toArray, List.set_cons_zero, List.set_cons_succ]
                      refine take_bare (i := 13) (some 158) (Go.Op.load 25 (Go.Operand.tmp 6)) 25 #[true, true, true, true, true, true, true, true, true, true, true, true, false, true, false, false, false, false] (v := (mv o)) hHeld rfl (by kernel_rfl) (by kernel_rfl) (by kernel_rfl) (by kernel_rfl) P32_s P32_f13 P32_c13 (by kernel_rfl) (fun _ _ _ h => h) (fun W hS => run_load_mx (s := 6) (by kernel_rfl) (by kernel_rfl) hS.1) ?_
                      try simp only [Act.put, List.setIfInBounds_toArray, List.set_cons_zero, List.set_cons_succ]
                      refine step_bare (i := 12) (some 157) (Go.Op.call { callee := Go.Callee.value (Go.Operand.func 21), args := #[Go.Operand.tmp 156], argTypes := #[25] }) 5 #[true, true, true, true, true, true, true, true, true, true, true, true, true, true, false, false, false, false] P32_r12 rfl (by kernel_rfl) (by kernel_rfl) (by kernel_rfl) (by kernel_rfl) (by kernel_rfl) (fun K hK => ?_)
                      go_simp
                      (with_reducible refine (CT.out _).mono ?_)
                      rintro e v12 ⟨rfl, hC12⟩
                      go_simp
                      refine hK.out _ _ ?_ (fun hHeld => ?_)
                      · exact hHeld.below hC12
                      clear hK K
                      try simp only [Act.put, List.setIfInBounds_toArray, List.set_cons_zero, List.set_cons_succ]
                      refine step_bare (i := 14) (some 159) (Go.Op.call { callee := Go.Callee.value (Go.Operand.func 19), args := #[Go.Operand.tmp 158], argTypes := #[25] }) 5 #[true, true, true, true, true, true, true, true, true, true, true, true, true, true, true, false, false, false] P32_r14 rfl (by kernel_rfl) (by kernel_rfl) (by kernel_rfl) (by kernel_rfl) (by kernel_rfl) (fun K hK => ?_)
                      go_simp
                      (with_reducible refine (CB.out _).mono ?_)
                      rintro e v14 ⟨rfl, hC14⟩
                      go_simp
                      refine hK.out _ _ ?_ (fun hHeld => ?_)
                      · exact hHeld.below hC14
                      clear hK K
                      try simp only [Act.put, List.setIfInBounds_toArray, List.set_cons_zero, List.set_cons_succ]
                      refine take_bare (i := 15) (some 160) (Go.Op.binOp Go.BinOp.andNot 5 (Go.Operand.tmp 157) (Go.Operand.tmp 159) 5) 5 #[true, true, true, true, true, true, true, true, true, true, true, true, true, true, true, true, false, false] (v := ?_) hHeld rfl (by kernel_rfl) (by kernel_rfl) (by kernel_rfl) (by kernel_rfl) P32_s P32_f15 P32_c15 (by kernel_rfl) (fun _ _ _ h => h) ?hyr3215_13 ?_
                      case hyr3215_13 => intro w hSw; clear hSw; go_simp; try with_reducible rfl
                      try simp only [Act.put, List.setIfInBounds_toArray, List.set_cons_zero, List.set_cons_succ]
                      refine take_bare (i := 16) (some 161) (Go.Op.binOp Go.BinOp.neq 5 (Go.Operand.tmp 160) (Go.Operand.const (Go.Value.int Go.IntKind.u8 0)) 5) 4 #[true, true, true, true, true, true, true, true, true, true, true, true, true, true, true, true, true, false] (v := ?_) hHeld rfl (by kernel_rfl) (by kernel_rfl) (by kernel_rfl) (by kernel_rfl) P32_s P32_f16 P32_c16 (by kernel_rfl) (fun _ _ _ h => h) ?hyr3216_14 ?_
                      case hyr3216_14 => intro w hSw; clear hSw; go_simp; try with_reducible rfl
                      try simp only [Act.put, List.setIfInBounds_toArray, List.set_cons_zero, List.set_cons_succ]
                      refine take_bare (i := 17) (some 162) (Go.Op.pick (Go.Operand.tmp 155) (Go.Operand.const (Go.Value.bool true)) (Go.Operand.tmp 161)) 4 #[true, true, true, true, true, true, true, true, true, true, true, true, true, true, true, true, true, true] (v := ?_) hHeld rfl (by kernel_rfl) (by kernel_rfl) (by kernel_rfl) (by kernel_rfl) P32_s P32_f17 P32_c17 (by kernel_rfl) (fun _ _ _ h => h) ?hyr3217_15 ?_
                      case hyr3217_15 => intro w hSw; clear hSw; go_simp; try with_reducible rfl
                      try simp only [Act.put, List.setIfInBounds_toArray, List.set_cons_zero, List.set_cons_succ]
                      refine wpAnyH_done (by kernel_rfl) ?_ _
                      try simp only [Act.put, List.setIfInBounds_toArray, List.set_cons_zero, List.set_cons_succ]
                      obtain ⟨r0, r1, r2, r3, r4, r5, r6, r7, r8⟩ := hHeld.1.cs
                      obtain ⟨m0, m1, m2, m3, m4, m5, m6, m7, m8⟩ := hHeld.2.1.cs
                      have g0 := hHeld.2.1.fz 0
                      have g1 := hHeld.2.1.fz 1
                      have g2 := hHeld.2.1.fz 2
                      have g3 := hHeld.2.1.fz 3
                      have g4 := hHeld.2.1.fz 4
                      have g5 := hHeld.2.1.fz 5
                      have g6 := hHeld.2.1.fz 6
                      have g7 := hHeld.2.1.fz 7
                      have g8 := hHeld.2.1.fz 8
                      go_wp2
                      go_roundw
                      case rel => exact ⟨k + 1, o, by omega, by go_num, HRI.out.right, put9_mx hHeld.2.1 o, put9_below hHeld.2.2 (Nat.le_refl _) o⟩
                      case measure => simp [intOf]; omega
          · have hz := do_no HD.out hv
            subst hz
            have hv1 : (v != 0) = true := by simp [hv]
            have E22 := eq22
            have E23 := eq23
            obtain ⟨p0, p1, p2, p3, p4, p5, p6, p7, p8⟩ : wc.cell? ⟨wr.heap.size, 0, none⟩ = some (.int .u8 0) ∧ wc.cell? ⟨wr.heap.size, 1, none⟩ = some (.int .u8 0) ∧ wc.cell? ⟨wr.heap.size, 2, none⟩ = some (.int .u8 0) ∧ wc.cell? ⟨wr.heap.size, 3, none⟩ = some (.int .u8 0) ∧ wc.cell? ⟨wr.heap.size, 4, none⟩ = some (.int .u8 0) ∧ wc.cell? ⟨wr.heap.size, 5, none⟩ = some (.int .u8 0) ∧ wc.cell? ⟨wr.heap.size, 6, none⟩ = some (.int .u8 0) ∧ wc.cell? ⟨wr.heap.size, 7, none⟩ = some (.int .u8 0) ∧ wc.cell? ⟨wr.heap.size, 8, none⟩ = some (.int .u8 0) := hO.cs
            clear q0 q1 q2 q3 q4 q5 q6 q7 q8 d0 d1 d2 hMa hBa hOa hv
            go_wp2
            go_roundw
            case rel => exact ⟨k + 1, mk, by omega, by go_num, HRK.out, hM, hBx⟩
            case measure => simp [intOf]; omega
      · obtain rfl : k = n := by omega
        clear hM hT
        go_wp2_with fail
        refine (wakes_any _).mono ?_
        rintro e w1 ⟨rfl, hB1⟩
        go_wp2
        go_ret
        exact ⟨rfl, hB.trans (hB1.mono hB.size)⟩
end Go.Proofs.Ytigpdkbfailadaa
