/-
  The walk of TupleTells.
-/
import Derived.Test.YtdlpkphbgbffpaaDoorTupleBackWalk
import Derived.Test.YtdlpkphbgbffpaaDoorRefTake
import Derived.Test.YtdlpkphbgbffpaaDoorRefRow
import Derived.Test.YtdlpkphbgbffpaaDoorRefText
import Derived.Test.YtdlpkphbgbffpaaDoorRefSorted
namespace Go.Proofs.YtdlpkphbgbffpaaDoor
open Go Go.RowKit Go.Shelf
set_option linter.unusedSimpArgs false
set_option linter.unusedVariables false
attribute [local go_sem] Oper.semAt_some
/-- What TupleTells holds while it walks. -/
structure Te (w : World) (a b : Tup) (gt gu : Nat) (t : Tup) (A : Option Addr) (n c : Nat) (ts : List Tup) (W : World) : Prop where
  duo : Duo w a b W
  x : Bt W gt t
  y : Bt W gu t
  l : Ts W w.heap.size A n c ts
section
variable {w W W' : World} {a b t : Tup} {gt gu n c : Nat} {A : Option Addr} {ts : List Tup}
theorem Te.next (h : Te w a b gt gu t A n c ts W) (hb : Below W.heap.size W W') : Te w a b gt gu t A n c ts W' :=
  ⟨h.duo.next hb, h.x.below hb h.x.lt, h.y.below hb h.y.lt, h.l.below (hb.mono h.duo.below.size)⟩
theorem Te.alloc (h : Te w a b gt gu t A n c ts W) (o : Obj) : Te w a b gt gu t A n c ts (W.alloc o) := h.next ((Below.refl _ W).alloc (Nat.le_refl _) o)
theorem Te.drew (h : Te w a b gt gu t A n c ts W) : Te w a b gt gu t A n c ts W.drew := h.next (Below.refl _ W).drew
end
theorem run_neq_str {a : Act} {s t : Tmp} {o : Oper} (x : ByteArray) (ho : o.op = .binOp .neq 9 (.tmp s) (.tmp t) 9) (hs : a.tmps.getD s undef = .string x) (ht : a.tmps.getD t undef = .string x) (W : World) : (execOp a.eval o).run Tryd.prog W = .ok (.value (.bool false)) W := by
  have hs' : a.tmps[s]?.getD undef = .string x := by simpa using hs
  have ht' : a.tmps[t]?.getD undef = .string x := by simpa using ht
  unfold execOp
  simp [ho, Act.eval, hs', ht', go_sem]
theorem refLess_dec (a b : Tup) (w : World) (ha : a.In) (hb : b.In) : Calls Tryd.prog 16 #[tv a, tv b] w fun e W' => e = .returned (.bool (decide (cmpT a b < 0))) ∧ Below w.heap.size w W' := refLess_any a b w ha hb
/-- The operations of TupleTells' statements that draw their order. -/
noncomputable def T5 : Array Oper := opsOf Tryd.f3 5
noncomputable def T7 : Array Oper := opsOf Tryd.f3 7
--FACTS
theorem T5_s : Region.noSelect T5 = true := by kernel_rfl
theorem T5_f0 : Region.free .any T5 #[false, false, false, false, false, false, false, false, false, false, false, false, false, false, false, false, false, false, false, false, false, false, false, false, false, false, false, false, false, false, false, false, false, false, false] 0 = true := by kernel_rfl
theorem T5_c0 : (Region.ready .any T5 #[false, false, false, false, false, false, false, false, false, false, false, false, false, false, false, false, false, false, false, false, false, false, false, false, false, false, false, false, false, false, false, false, false, false, false]).contains 0 = true := by kernel_rfl
theorem T5_f1 : Region.free .any T5 #[true, false, false, false, false, false, false, false, false, false, false, false, false, false, false, false, false, false, false, false, false, false, false, false, false, false, false, false, false, false, false, false, false, false, false] 1 = true := by kernel_rfl
theorem T5_c1 : (Region.ready .any T5 #[true, false, false, false, false, false, false, false, false, false, false, false, false, false, false, false, false, false, false, false, false, false, false, false, false, false, false, false, false, false, false, false, false, false, false]).contains 1 = true := by kernel_rfl
theorem T5_f2 : Region.free .any T5 #[true, true, false, false, false, false, false, false, false, false, false, false, false, false, false, false, false, false, false, false, false, false, false, false, false, false, false, false, false, false, false, false, false, false, false] 2 = true := by kernel_rfl
theorem T5_c2 : (Region.ready .any T5 #[true, true, false, false, false, false, false, false, false, false, false, false, false, false, false, false, false, false, false, false, false, false, false, false, false, false, false, false, false, false, false, false, false, false, false]).contains 2 = true := by kernel_rfl
theorem T5_f3 : Region.free .any T5 #[true, true, true, false, false, false, false, false, false, false, false, false, false, false, false, false, false, false, false, false, false, false, false, false, false, false, false, false, false, false, false, false, false, false, false] 3 = true := by kernel_rfl
theorem T5_c3 : (Region.ready .any T5 #[true, true, true, false, false, false, false, false, false, false, false, false, false, false, false, false, false, false, false, false, false, false, false, false, false, false, false, false, false, false, false, false, false, false, false]).contains 3 = true := by kernel_rfl
theorem T5_f4 : Region.free .any T5 #[true, true, true, true, false, false, false, false, false, false, false, false, false, false, false, false, false, false, false, false, false, false, false, false, false, false, false, false, false, false, false, false, false, false, false] 4 = true := by kernel_rfl
theorem T5_c4 : (Region.ready .any T5 #[true, true, true, true, false, false, false, false, false, false, false, false, false, false, false, false, false, false, false, false, false, false, false, false, false, false, false, false, false, false, false, false, false, false, false]).contains 4 = true := by kernel_rfl
theorem T5_f5 : Region.free .any T5 #[true, true, true, true, true, false, false, false, false, false, false, false, false, false, false, false, false, false, false, false, false, false, false, false, false, false, false, false, false, false, false, false, false, false, false] 5 = true := by kernel_rfl
theorem T5_c5 : (Region.ready .any T5 #[true, true, true, true, true, false, false, false, false, false, false, false, false, false, false, false, false, false, false, false, false, false, false, false, false, false, false, false, false, false, false, false, false, false, false]).contains 5 = true := by kernel_rfl
theorem T5_f6 : Region.free .any T5 #[true, true, true, true, true, true, false, false, false, false, false, false, false, false, false, false, false, false, false, false, false, false, false, false, false, false, false, false, false, false, false, false, false, false, false] 6 = true := by kernel_rfl
theorem T5_c6 : (Region.ready .any T5 #[true, true, true, true, true, true, false, false, false, false, false, false, false, false, false, false, false, false, false, false, false, false, false, false, false, false, false, false, false, false, false, false, false, false, false]).contains 6 = true := by kernel_rfl
theorem T5_f7 : Region.free .any T5 #[true, true, true, true, true, true, true, false, false, false, false, false, false, false, false, false, false, false, false, false, false, false, false, false, false, false, false, false, false, false, false, false, false, false, false] 7 = true := by kernel_rfl
theorem T5_c7 : (Region.ready .any T5 #[true, true, true, true, true, true, true, false, false, false, false, false, false, false, false, false, false, false, false, false, false, false, false, false, false, false, false, false, false, false, false, false, false, false, false]).contains 7 = true := by kernel_rfl
theorem T5_f8 : Region.free .any T5 #[true, true, true, true, true, true, true, true, false, false, false, false, false, false, false, false, false, false, false, false, false, false, false, false, false, false, false, false, false, false, false, false, false, false, false] 8 = true := by kernel_rfl
theorem T5_c8 : (Region.ready .any T5 #[true, true, true, true, true, true, true, true, false, false, false, false, false, false, false, false, false, false, false, false, false, false, false, false, false, false, false, false, false, false, false, false, false, false, false]).contains 8 = true := by kernel_rfl
theorem T5_f9 : Region.free .any T5 #[true, true, true, true, true, true, true, true, true, false, false, false, false, false, false, false, false, false, false, false, false, false, false, false, false, false, false, false, false, false, false, false, false, false, false] 9 = true := by kernel_rfl
theorem T5_c9 : (Region.ready .any T5 #[true, true, true, true, true, true, true, true, true, false, false, false, false, false, false, false, false, false, false, false, false, false, false, false, false, false, false, false, false, false, false, false, false, false, false]).contains 9 = true := by kernel_rfl
theorem T5_f12 : Region.free .any T5 #[true, true, true, true, true, true, true, true, true, true, false, false, false, false, false, false, false, false, false, false, false, false, false, false, false, false, false, false, false, false, false, false, false, false, false] 12 = true := by kernel_rfl
theorem T5_c12 : (Region.ready .any T5 #[true, true, true, true, true, true, true, true, true, true, false, false, false, false, false, false, false, false, false, false, false, false, false, false, false, false, false, false, false, false, false, false, false, false, false]).contains 12 = true := by kernel_rfl
theorem T5_r10 : Region.ready .any T5 #[true, true, true, true, true, true, true, true, true, true, false, false, true, false, false, false, false, false, false, false, false, false, false, false, false, false, false, false, false, false, false, false, false, false, false] = [10] := by kernel_rfl
theorem T5_f11 : Region.free .any T5 #[true, true, true, true, true, true, true, true, true, true, true, false, true, false, false, false, false, false, false, false, false, false, false, false, false, false, false, false, false, false, false, false, false, false, false] 11 = true := by kernel_rfl
theorem T5_c11 : (Region.ready .any T5 #[true, true, true, true, true, true, true, true, true, true, true, false, true, false, false, false, false, false, false, false, false, false, false, false, false, false, false, false, false, false, false, false, false, false, false]).contains 11 = true := by kernel_rfl
theorem T5_r13 : Region.ready .any T5 #[true, true, true, true, true, true, true, true, true, true, true, true, true, false, false, false, false, false, false, false, false, false, false, false, false, false, false, false, false, false, false, false, false, false, false] = [13] := by kernel_rfl
theorem T5_r14 : Region.ready .any T5 #[true, true, true, true, true, true, true, true, true, true, true, true, true, true, false, false, false, false, false, false, false, false, false, false, false, false, false, false, false, false, false, false, false, false, false] = [14] := by kernel_rfl
theorem T5_f15 : Region.free .any T5 #[true, true, true, true, true, true, true, true, true, true, true, true, true, true, true, false, false, false, false, false, false, false, false, false, false, false, false, false, false, false, false, false, false, false, false] 15 = true := by kernel_rfl
theorem T5_c15 : (Region.ready .any T5 #[true, true, true, true, true, true, true, true, true, true, true, true, true, true, true, false, false, false, false, false, false, false, false, false, false, false, false, false, false, false, false, false, false, false, false]).contains 15 = true := by kernel_rfl
theorem T5_f16 : Region.free .any T5 #[true, true, true, true, true, true, true, true, true, true, true, true, true, true, true, true, false, false, false, false, false, false, false, false, false, false, false, false, false, false, false, false, false, false, false] 16 = true := by kernel_rfl
theorem T5_c16 : (Region.ready .any T5 #[true, true, true, true, true, true, true, true, true, true, true, true, true, true, true, true, false, false, false, false, false, false, false, false, false, false, false, false, false, false, false, false, false, false, false]).contains 16 = true := by kernel_rfl
theorem T5_f17 : Region.free .any T5 #[true, true, true, true, true, true, true, true, true, true, true, true, true, true, true, true, true, false, false, false, false, false, false, false, false, false, false, false, false, false, false, false, false, false, false] 17 = true := by kernel_rfl
theorem T5_c17 : (Region.ready .any T5 #[true, true, true, true, true, true, true, true, true, true, true, true, true, true, true, true, true, false, false, false, false, false, false, false, false, false, false, false, false, false, false, false, false, false, false]).contains 17 = true := by kernel_rfl
theorem T5_f18 : Region.free .any T5 #[true, true, true, true, true, true, true, true, true, true, true, true, true, true, true, true, true, true, false, false, false, false, false, false, false, false, false, false, false, false, false, false, false, false, false] 18 = true := by kernel_rfl
theorem T5_c18 : (Region.ready .any T5 #[true, true, true, true, true, true, true, true, true, true, true, true, true, true, true, true, true, true, false, false, false, false, false, false, false, false, false, false, false, false, false, false, false, false, false]).contains 18 = true := by kernel_rfl
theorem T5_f19 : Region.free .any T5 #[true, true, true, true, true, true, true, true, true, true, true, true, true, true, true, true, true, true, true, false, false, false, false, false, false, false, false, false, false, false, false, false, false, false, false] 19 = true := by kernel_rfl
theorem T5_c19 : (Region.ready .any T5 #[true, true, true, true, true, true, true, true, true, true, true, true, true, true, true, true, true, true, true, false, false, false, false, false, false, false, false, false, false, false, false, false, false, false, false]).contains 19 = true := by kernel_rfl
theorem T5_f21 : Region.free .any T5 #[true, true, true, true, true, true, true, true, true, true, true, true, true, true, true, true, true, true, true, true, false, false, false, false, false, false, false, false, false, false, false, false, false, false, false] 21 = true := by kernel_rfl
theorem T5_c21 : (Region.ready .any T5 #[true, true, true, true, true, true, true, true, true, true, true, true, true, true, true, true, true, true, true, true, false, false, false, false, false, false, false, false, false, false, false, false, false, false, false]).contains 21 = true := by kernel_rfl
theorem T5_f22 : Region.free .any T5 #[true, true, true, true, true, true, true, true, true, true, true, true, true, true, true, true, true, true, true, true, false, true, false, false, false, false, false, false, false, false, false, false, false, false, false] 22 = true := by kernel_rfl
theorem T5_c22 : (Region.ready .any T5 #[true, true, true, true, true, true, true, true, true, true, true, true, true, true, true, true, true, true, true, true, false, true, false, false, false, false, false, false, false, false, false, false, false, false, false]).contains 22 = true := by kernel_rfl
theorem T5_r20 : Region.ready .any T5 #[true, true, true, true, true, true, true, true, true, true, true, true, true, true, true, true, true, true, true, true, false, true, true, false, false, false, false, false, false, false, false, false, false, false, false] = [20] := by kernel_rfl
theorem T5_r23 : Region.ready .any T5 #[true, true, true, true, true, true, true, true, true, true, true, true, true, true, true, true, true, true, true, true, true, true, true, false, false, false, false, false, false, false, false, false, false, false, false] = [23] := by kernel_rfl
theorem T5_f24 : Region.free .any T5 #[true, true, true, true, true, true, true, true, true, true, true, true, true, true, true, true, true, true, true, true, true, true, true, true, false, false, false, false, false, false, false, false, false, false, false] 24 = true := by kernel_rfl
theorem T5_c24 : (Region.ready .any T5 #[true, true, true, true, true, true, true, true, true, true, true, true, true, true, true, true, true, true, true, true, true, true, true, true, false, false, false, false, false, false, false, false, false, false, false]).contains 24 = true := by kernel_rfl
theorem T5_f25 : Region.free .any T5 #[true, true, true, true, true, true, true, true, true, true, true, true, true, true, true, true, true, true, true, true, true, true, true, true, true, false, false, false, false, false, false, false, false, false, false] 25 = true := by kernel_rfl
theorem T5_c25 : (Region.ready .any T5 #[true, true, true, true, true, true, true, true, true, true, true, true, true, true, true, true, true, true, true, true, true, true, true, true, true, false, false, false, false, false, false, false, false, false, false]).contains 25 = true := by kernel_rfl
theorem T5_f26 : Region.free .any T5 #[true, true, true, true, true, true, true, true, true, true, true, true, true, true, true, true, true, true, true, true, true, true, true, true, true, true, false, false, false, false, false, false, false, false, false] 26 = true := by kernel_rfl
theorem T5_c26 : (Region.ready .any T5 #[true, true, true, true, true, true, true, true, true, true, true, true, true, true, true, true, true, true, true, true, true, true, true, true, true, true, false, false, false, false, false, false, false, false, false]).contains 26 = true := by kernel_rfl
theorem T5_f27 : Region.free .any T5 #[true, true, true, true, true, true, true, true, true, true, true, true, true, true, true, true, true, true, true, true, true, true, true, true, true, true, true, false, false, false, false, false, false, false, false] 27 = true := by kernel_rfl
theorem T5_c27 : (Region.ready .any T5 #[true, true, true, true, true, true, true, true, true, true, true, true, true, true, true, true, true, true, true, true, true, true, true, true, true, true, true, false, false, false, false, false, false, false, false]).contains 27 = true := by kernel_rfl
theorem T5_f28 : Region.free .any T5 #[true, true, true, true, true, true, true, true, true, true, true, true, true, true, true, true, true, true, true, true, true, true, true, true, true, true, true, true, false, false, false, false, false, false, false] 28 = true := by kernel_rfl
theorem T5_c28 : (Region.ready .any T5 #[true, true, true, true, true, true, true, true, true, true, true, true, true, true, true, true, true, true, true, true, true, true, true, true, true, true, true, true, false, false, false, false, false, false, false]).contains 28 = true := by kernel_rfl
theorem T5_f30 : Region.free .any T5 #[true, true, true, true, true, true, true, true, true, true, true, true, true, true, true, true, true, true, true, true, true, true, true, true, true, true, true, true, true, false, false, false, false, false, false] 30 = true := by kernel_rfl
theorem T5_c30 : (Region.ready .any T5 #[true, true, true, true, true, true, true, true, true, true, true, true, true, true, true, true, true, true, true, true, true, true, true, true, true, true, true, true, true, false, false, false, false, false, false]).contains 30 = true := by kernel_rfl
theorem T5_f31 : Region.free .any T5 #[true, true, true, true, true, true, true, true, true, true, true, true, true, true, true, true, true, true, true, true, true, true, true, true, true, true, true, true, true, false, true, false, false, false, false] 31 = true := by kernel_rfl
theorem T5_c31 : (Region.ready .any T5 #[true, true, true, true, true, true, true, true, true, true, true, true, true, true, true, true, true, true, true, true, true, true, true, true, true, true, true, true, true, false, true, false, false, false, false]).contains 31 = true := by kernel_rfl
theorem T5_r29 : Region.ready .any T5 #[true, true, true, true, true, true, true, true, true, true, true, true, true, true, true, true, true, true, true, true, true, true, true, true, true, true, true, true, true, false, true, true, false, false, false] = [29] := by kernel_rfl
theorem T5_r32 : Region.ready .any T5 #[true, true, true, true, true, true, true, true, true, true, true, true, true, true, true, true, true, true, true, true, true, true, true, true, true, true, true, true, true, true, true, true, false, false, false] = [32] := by kernel_rfl
theorem T5_f33 : Region.free .any T5 #[true, true, true, true, true, true, true, true, true, true, true, true, true, true, true, true, true, true, true, true, true, true, true, true, true, true, true, true, true, true, true, true, true, false, false] 33 = true := by kernel_rfl
theorem T5_c33 : (Region.ready .any T5 #[true, true, true, true, true, true, true, true, true, true, true, true, true, true, true, true, true, true, true, true, true, true, true, true, true, true, true, true, true, true, true, true, true, false, false]).contains 33 = true := by kernel_rfl
theorem T5_f34 : Region.free .any T5 #[true, true, true, true, true, true, true, true, true, true, true, true, true, true, true, true, true, true, true, true, true, true, true, true, true, true, true, true, true, true, true, true, true, true, false] 34 = true := by kernel_rfl
theorem T5_c34 : (Region.ready .any T5 #[true, true, true, true, true, true, true, true, true, true, true, true, true, true, true, true, true, true, true, true, true, true, true, true, true, true, true, true, true, true, true, true, true, true, false]).contains 34 = true := by kernel_rfl
theorem T7_s : Region.noSelect T7 = true := by kernel_rfl
theorem T7_f0 : Region.free .any T7 #[false, false, false, false, false, false, false, false, false, false, false, false, false, false, false, false, false, false, false, false, false, false, false] 0 = true := by kernel_rfl
theorem T7_c0 : (Region.ready .any T7 #[false, false, false, false, false, false, false, false, false, false, false, false, false, false, false, false, false, false, false, false, false, false, false]).contains 0 = true := by kernel_rfl
theorem T7_f2 : Region.free .any T7 #[true, false, false, false, false, false, false, false, false, false, false, false, false, false, false, false, false, false, false, false, false, false, false] 2 = true := by kernel_rfl
theorem T7_c2 : (Region.ready .any T7 #[true, false, false, false, false, false, false, false, false, false, false, false, false, false, false, false, false, false, false, false, false, false, false]).contains 2 = true := by kernel_rfl
theorem T7_r1 : Region.ready .any T7 #[true, false, true, false, false, false, false, false, false, false, false, false, false, false, false, false, false, false, false, false, false, false, false] = [1] := by kernel_rfl
theorem T7_r3 : Region.ready .any T7 #[true, true, true, false, false, false, false, false, false, false, false, false, false, false, false, false, false, false, false, false, false, false, false] = [3] := by kernel_rfl
theorem T7_f4 : Region.free .any T7 #[true, true, true, true, false, false, false, false, false, false, false, false, false, false, false, false, false, false, false, false, false, false, false] 4 = true := by kernel_rfl
theorem T7_c4 : (Region.ready .any T7 #[true, true, true, true, false, false, false, false, false, false, false, false, false, false, false, false, false, false, false, false, false, false, false]).contains 4 = true := by kernel_rfl
theorem T7_f5 : Region.free .any T7 #[true, true, true, true, true, false, false, false, false, false, false, false, false, false, false, false, false, false, false, false, false, false, false] 5 = true := by kernel_rfl
theorem T7_c5 : (Region.ready .any T7 #[true, true, true, true, true, false, false, false, false, false, false, false, false, false, false, false, false, false, false, false, false, false, false]).contains 5 = true := by kernel_rfl
theorem T7_f6 : Region.free .any T7 #[true, true, true, true, true, true, false, false, false, false, false, false, false, false, false, false, false, false, false, false, false, false, false] 6 = true := by kernel_rfl
theorem T7_c6 : (Region.ready .any T7 #[true, true, true, true, true, true, false, false, false, false, false, false, false, false, false, false, false, false, false, false, false, false, false]).contains 6 = true := by kernel_rfl
theorem T7_f8 : Region.free .any T7 #[true, true, true, true, true, true, true, false, false, false, false, false, false, false, false, false, false, false, false, false, false, false, false] 8 = true := by kernel_rfl
theorem T7_c8 : (Region.ready .any T7 #[true, true, true, true, true, true, true, false, false, false, false, false, false, false, false, false, false, false, false, false, false, false, false]).contains 8 = true := by kernel_rfl
theorem T7_r7 : Region.ready .any T7 #[true, true, true, true, true, true, true, false, true, false, false, false, false, false, false, false, false, false, false, false, false, false, false] = [7] := by kernel_rfl
theorem T7_r9 : Region.ready .any T7 #[true, true, true, true, true, true, true, true, true, false, false, false, false, false, false, false, false, false, false, false, false, false, false] = [9] := by kernel_rfl
theorem T7_f10 : Region.free .any T7 #[true, true, true, true, true, true, true, true, true, true, false, false, false, false, false, false, false, false, false, false, false, false, false] 10 = true := by kernel_rfl
theorem T7_c10 : (Region.ready .any T7 #[true, true, true, true, true, true, true, true, true, true, false, false, false, false, false, false, false, false, false, false, false, false, false]).contains 10 = true := by kernel_rfl
theorem T7_f11 : Region.free .any T7 #[true, true, true, true, true, true, true, true, true, true, true, false, false, false, false, false, false, false, false, false, false, false, false] 11 = true := by kernel_rfl
theorem T7_c11 : (Region.ready .any T7 #[true, true, true, true, true, true, true, true, true, true, true, false, false, false, false, false, false, false, false, false, false, false, false]).contains 11 = true := by kernel_rfl
theorem T7_f12 : Region.free .any T7 #[true, true, true, true, true, true, true, true, true, true, true, true, false, false, false, false, false, false, false, false, false, false, false] 12 = true := by kernel_rfl
theorem T7_c12 : (Region.ready .any T7 #[true, true, true, true, true, true, true, true, true, true, true, true, false, false, false, false, false, false, false, false, false, false, false]).contains 12 = true := by kernel_rfl
theorem T7_f13 : Region.free .any T7 #[true, true, true, true, true, true, true, true, true, true, true, true, true, false, false, false, false, false, false, false, false, false, false] 13 = true := by kernel_rfl
theorem T7_c13 : (Region.ready .any T7 #[true, true, true, true, true, true, true, true, true, true, true, true, true, false, false, false, false, false, false, false, false, false, false]).contains 13 = true := by kernel_rfl
theorem T7_f15 : Region.free .any T7 #[true, true, true, true, true, true, true, true, true, true, true, true, true, true, false, false, false, false, false, false, false, false, false] 15 = true := by kernel_rfl
theorem T7_c15 : (Region.ready .any T7 #[true, true, true, true, true, true, true, true, true, true, true, true, true, true, false, false, false, false, false, false, false, false, false]).contains 15 = true := by kernel_rfl
theorem T7_r14 : Region.ready .any T7 #[true, true, true, true, true, true, true, true, true, true, true, true, true, true, false, true, false, false, false, false, false, false, false] = [14] := by kernel_rfl
theorem T7_r16 : Region.ready .any T7 #[true, true, true, true, true, true, true, true, true, true, true, true, true, true, true, true, false, false, false, false, false, false, false] = [16] := by kernel_rfl
theorem T7_r17 : Region.ready .any T7 #[true, true, true, true, true, true, true, true, true, true, true, true, true, true, true, true, true, false, false, false, false, false, false] = [17] := by kernel_rfl
theorem T7_f18 : Region.free .any T7 #[true, true, true, true, true, true, true, true, true, true, true, true, true, true, true, true, true, true, false, false, false, false, false] 18 = true := by kernel_rfl
theorem T7_c18 : (Region.ready .any T7 #[true, true, true, true, true, true, true, true, true, true, true, true, true, true, true, true, true, true, false, false, false, false, false]).contains 18 = true := by kernel_rfl
theorem T7_f19 : Region.free .any T7 #[true, true, true, true, true, true, true, true, true, true, true, true, true, true, true, true, true, true, true, false, false, false, false] 19 = true := by kernel_rfl
theorem T7_c19 : (Region.ready .any T7 #[true, true, true, true, true, true, true, true, true, true, true, true, true, true, true, true, true, true, true, false, false, false, false]).contains 19 = true := by kernel_rfl
theorem T7_r20 : Region.ready .any T7 #[true, true, true, true, true, true, true, true, true, true, true, true, true, true, true, true, true, true, true, true, false, false, false] = [20] := by kernel_rfl
theorem T7_f21 : Region.free .any T7 #[true, true, true, true, true, true, true, true, true, true, true, true, true, true, true, true, true, true, true, true, true, false, false] 21 = true := by kernel_rfl
theorem T7_c21 : (Region.ready .any T7 #[true, true, true, true, true, true, true, true, true, true, true, true, true, true, true, true, true, true, true, true, true, false, false]).contains 21 = true := by kernel_rfl
theorem T7_f22 : Region.free .any T7 #[true, true, true, true, true, true, true, true, true, true, true, true, true, true, true, true, true, true, true, true, true, true, false] 22 = true := by kernel_rfl
theorem T7_c22 : (Region.ready .any T7 #[true, true, true, true, true, true, true, true, true, true, true, true, true, true, true, true, true, true, true, true, true, true, false]).contains 22 = true := by kernel_rfl
--ENDFACTS
set_option maxRecDepth 100000 in
set_option maxHeartbeats 16000000 in
theorem tupleTells_any (a b : Tup) (A : Option Addr) (n c : Nat) (rs : List Int) (A' : Option Addr) (n' c' : Nat) (ts : List Tup) (w : World) (ht : Tab w.heap.size w) (ha : a.In) (hb : b.In) (hs : Sl w w.heap.size A n c (rs.map vb)) (hr : isB8 rs) (hl : Ts w w.heap.size A' n' c' ts) (hin : ∀ t ∈ ts, t.In) :
    Calls Tryd.prog 3 #[tv a, tv b, .slice A n c, .slice A' n' c'] w fun e W' => e = .returned (.bool true) ∧ Below w.heap.size w W' := by
  have HS := hide hs
  have HT := hide hl
  have HIN := hide hin
  clear hs hl hin
  go_enter Tryd.func3, Tryd.ntmps3
  have hT : Duo w a b ((w.alloc (.cells #[.int .u32 a.src, .int .u32 a.dst, .int .u16 a.sp, .int .u16 a.dp] 25)).alloc (.cells #[.int .u32 b.src, .int .u32 b.dst, .int .u16 b.sp, .int .u16 b.dp] 25)) := Duo.start w a b
  by_cases h100 : 100 < n
  · go_wp2_with fail
    refine (wakes_any _ (hT.tab ht)).mono ?_
    rintro e w1 ⟨rfl, hB1⟩
    go_wp2
    go_ret
    exact ⟨rfl, (hT.next hB1).below⟩
  · by_cases h60 : 60 < n'
    · go_wp2_with fail
      refine (wakes_any _ (hT.tab ht)).mono ?_
      rintro e w1 ⟨rfl, hB1⟩
      go_wp2
      go_ret
      exact ⟨rfl, (hT.next hB1).below⟩
    · go_wp2_with fail
      obtain ⟨W0, hW0⟩ : ∃ W0, (w.alloc (.cells #[.int .u32 a.src, .int .u32 a.dst, .int .u16 a.sp, .int .u16 a.dp] 25)).alloc (.cells #[.int .u32 b.src, .int .u32 b.dst, .int .u16 b.sp, .int .u16 b.dp] 25) = W0 := ⟨_, rfl⟩
      rw [hW0] at hT
      rw [hW0]
      clear hW0
      obtain ⟨⟨t, f⟩, hk⟩ : ∃ p, takeT rs = p := ⟨_, rfl⟩
      refine (take_any A n c w.heap.size rs _ (HS.out.below hT.below) hT.below.size hr).mono ?_
      rintro e w1 ⟨rfl, hB1⟩
      rw [hk]
      have hD1 := hT.next hB1
      go_wp2_with fail
      refine (refTake_any A n c w.heap.size rs _ ((HS.out.below hD1.below).alloc hD1.below.size _) ?_ hr).mono ?_
      · exact (hD1.alloc _).below.size
      rintro e w2 ⟨rfl, hB2⟩
      rw [hk]
      have hTe : Te w a b w1.heap.size w2.heap.size t A' n' c' ts (w2.alloc (.cells #[.int .u32 t.src, .int .u32 t.dst, .int .u16 t.sp, .int .u16 t.dp] 25)) :=
        ⟨((hD1.alloc _).next hB2).alloc _, ((Bt.new w1 t).below hB2 (Bt.new w1 t).lt).alloc _, Bt.new w2 t, (HT.out.below ((hD1.alloc _).next hB2).below).alloc ((hD1.alloc _).next hB2).below.size _⟩
      go_wp2_with fail
      obtain ⟨gt, hgt⟩ : ∃ g, w1.heap.size = g := ⟨_, rfl⟩
      obtain ⟨gu, hgu⟩ : ∃ g, w2.heap.size = g := ⟨_, rfl⟩
      obtain ⟨w5, hw5⟩ : ∃ W, w2.alloc (.cells #[.int .u32 t.src, .int .u32 t.dst, .int .u16 t.sp, .int .u16 t.dp] 25) = W := ⟨_, rfl⟩
      rw [hw5, hgt, hgu] at hTe
      rw [hw5, hgt, hgu]
      clear hw5 hgt hgu hB2 hD1 hB1 hT hk HS hr
      --R5
      refine region_as (R := T5) (by kernel_rfl) ?_
      refine wp_region_held_drew (S := Te w a b gt gu t A' n' c' ts) (by kernel_rfl) ?_ (fun hHeld => ?_)
      · exact hTe.drew
      refine listed_as (L := #[false, false, false, false, false, false, false, false, false, false, false, false, false, false, false, false, false, false, false, false, false, false, false, false, false, false, false, false, false, false, false, false, false, false, false]) (by kernel_rfl) ?_
      refine take_bare (i := 0) (some 32) (Go.Op.load 25 (Go.Operand.tmp 9)) 25 #[true, false, false, false, false, false, false, false, false, false, false, false, false, false, false, false, false, false, false, false, false, false, false, false, false, false, false, false, false, false, false, false, false, false, false] (v := (tv t)) hHeld rfl (by kernel_rfl) (by kernel_rfl) (by kernel_rfl) (by kernel_rfl) T5_s T5_f0 T5_c0 (by kernel_rfl) (fun _ _ _ h => h) (fun W hS => run_load_bt (s := 9) (by kernel_rfl) (by kernel_rfl) hS.x) ?_
      try simp only [Act.put, List.setIfInBounds_toArray, List.set_cons_zero, List.set_cons_succ]
      refine take_bare (i := 1) (some 33) (Go.Op.load 25 (Go.Operand.tmp 11)) 25 #[true, true, false, false, false, false, false, false, false, false, false, false, false, false, false, false, false, false, false, false, false, false, false, false, false, false, false, false, false, false, false, false, false, false, false] (v := (tv t)) hHeld rfl (by kernel_rfl) (by kernel_rfl) (by kernel_rfl) (by kernel_rfl) T5_s T5_f1 T5_c1 (by kernel_rfl) (fun _ _ _ h => h) (fun W hS => run_load_bt (s := 11) (by kernel_rfl) (by kernel_rfl) hS.y) ?_
      try simp only [Act.put, List.setIfInBounds_toArray, List.set_cons_zero, List.set_cons_succ]
      refine take_bare (i := 2) (some 34) (Go.Op.binOp Go.BinOp.neq 25 (Go.Operand.tmp 32) (Go.Operand.tmp 33) 25) 4 #[true, true, true, false, false, false, false, false, false, false, false, false, false, false, false, false, false, false, false, false, false, false, false, false, false, false, false, false, false, false, false, false, false, false, false] (v := (.bool false)) hHeld rfl (by kernel_rfl) (by kernel_rfl) (by kernel_rfl) (by kernel_rfl) T5_s T5_f2 T5_c2 (by kernel_rfl) (fun _ _ _ h => h) (fun W hS => run_neq25 (s := 32) (t := 33) t t false (by kernel_rfl) (by kernel_rfl) (by kernel_rfl) (by simp) W) ?_
      try simp only [Act.put, List.setIfInBounds_toArray, List.set_cons_zero, List.set_cons_succ]
      refine take_bare (i := 3) (some 35) (Go.Op.move (Go.Operand.tmp 34)) 4 #[true, true, true, true, false, false, false, false, false, false, false, false, false, false, false, false, false, false, false, false, false, false, false, false, false, false, false, false, false, false, false, false, false, false, false] (v := ?_) hHeld rfl (by kernel_rfl) (by kernel_rfl) (by kernel_rfl) (by kernel_rfl) T5_s T5_f3 T5_c3 (by kernel_rfl) (fun _ _ _ h => h) ?hya3_4 ?_
      case hya3_4 => intro w hSw; clear hSw; go_simp; try with_reducible rfl
      try simp only [Act.put, List.setIfInBounds_toArray, List.set_cons_zero, List.set_cons_succ]
      refine take_bare (i := 4) (some 36) (Go.Op.move (Go.Operand.tmp 10)) 29 #[true, true, true, true, true, false, false, false, false, false, false, false, false, false, false, false, false, false, false, false, false, false, false, false, false, false, false, false, false, false, false, false, false, false, false] (v := ?_) hHeld rfl (by kernel_rfl) (by kernel_rfl) (by kernel_rfl) (by kernel_rfl) T5_s T5_f4 T5_c4 (by kernel_rfl) (fun _ _ _ h => h) ?hya4_5 ?_
      case hya4_5 => intro w hSw; clear hSw; go_simp; try with_reducible rfl
      try simp only [Act.put, List.setIfInBounds_toArray, List.set_cons_zero, List.set_cons_succ]
      refine take_bare (i := 5) (some 37) (Go.Op.move (Go.Operand.tmp 12)) 29 #[true, true, true, true, true, true, false, false, false, false, false, false, false, false, false, false, false, false, false, false, false, false, false, false, false, false, false, false, false, false, false, false, false, false, false] (v := ?_) hHeld rfl (by kernel_rfl) (by kernel_rfl) (by kernel_rfl) (by kernel_rfl) T5_s T5_f5 T5_c5 (by kernel_rfl) (fun _ _ _ h => h) ?hya5_6 ?_
      case hya5_6 => intro w hSw; clear hSw; go_simp; try with_reducible rfl
      try simp only [Act.put, List.setIfInBounds_toArray, List.set_cons_zero, List.set_cons_succ]
      refine take_bare (i := 6) (some 38) (Go.Op.binOp Go.BinOp.neq 29 (Go.Operand.tmp 36) (Go.Operand.tmp 37) 29) 4 #[true, true, true, true, true, true, true, false, false, false, false, false, false, false, false, false, false, false, false, false, false, false, false, false, false, false, false, false, false, false, false, false, false, false, false] (v := ?_) hHeld rfl (by kernel_rfl) (by kernel_rfl) (by kernel_rfl) (by kernel_rfl) T5_s T5_f6 T5_c6 (by kernel_rfl) (fun _ _ _ h => h) ?hya6_7 ?_
      case hya6_7 => intro w hSw; clear hSw; go_simp; try with_reducible rfl
      try simp only [Act.put, List.setIfInBounds_toArray, List.set_cons_zero, List.set_cons_succ]
      refine take_bare (i := 7) (some 39) (Go.Op.pick (Go.Operand.tmp 35) (Go.Operand.const (Go.Value.bool true)) (Go.Operand.tmp 38)) 4 #[true, true, true, true, true, true, true, true, false, false, false, false, false, false, false, false, false, false, false, false, false, false, false, false, false, false, false, false, false, false, false, false, false, false, false] (v := ?_) hHeld rfl (by kernel_rfl) (by kernel_rfl) (by kernel_rfl) (by kernel_rfl) T5_s T5_f7 T5_c7 (by kernel_rfl) (fun _ _ _ h => h) ?hya7_8 ?_
      case hya7_8 => intro w hSw; clear hSw; go_simp; try with_reducible rfl
      try simp only [Act.put, List.setIfInBounds_toArray, List.set_cons_zero, List.set_cons_succ]
      refine take_bare (i := 8) (some 40) (Go.Op.move (Go.Operand.tmp 39)) 4 #[true, true, true, true, true, true, true, true, true, false, false, false, false, false, false, false, false, false, false, false, false, false, false, false, false, false, false, false, false, false, false, false, false, false, false] (v := ?_) hHeld rfl (by kernel_rfl) (by kernel_rfl) (by kernel_rfl) (by kernel_rfl) T5_s T5_f8 T5_c8 (by kernel_rfl) (fun _ _ _ h => h) ?hya8_9 ?_
      case hya8_9 => intro w hSw; clear hSw; go_simp; try with_reducible rfl
      try simp only [Act.put, List.setIfInBounds_toArray, List.set_cons_zero, List.set_cons_succ]
      refine take_bare (i := 9) (some 41) (Go.Op.load 25 (Go.Operand.tmp 4)) 25 #[true, true, true, true, true, true, true, true, true, true, false, false, false, false, false, false, false, false, false, false, false, false, false, false, false, false, false, false, false, false, false, false, false, false, false] (v := (tv a)) hHeld rfl (by kernel_rfl) (by kernel_rfl) (by kernel_rfl) (by kernel_rfl) T5_s T5_f9 T5_c9 (by kernel_rfl) (fun _ _ _ h => h) (fun W hS => run_load_bt (s := 4) (by kernel_rfl) (by kernel_rfl) hS.duo.a) ?_
      try simp only [Act.put, List.setIfInBounds_toArray, List.set_cons_zero, List.set_cons_succ]
      refine take_bare (i := 12) (some 44) (Go.Op.load 25 (Go.Operand.tmp 4)) 25 #[true, true, true, true, true, true, true, true, true, true, false, false, true, false, false, false, false, false, false, false, false, false, false, false, false, false, false, false, false, false, false, false, false, false, false] (v := (tv a)) hHeld rfl (by kernel_rfl) (by kernel_rfl) (by kernel_rfl) (by kernel_rfl) T5_s T5_f12 T5_c12 (by kernel_rfl) (fun _ _ _ h => h) (fun W hS => run_load_bt (s := 4) (by kernel_rfl) (by kernel_rfl) hS.duo.a) ?_
      try simp only [Act.put, List.setIfInBounds_toArray, List.set_cons_zero, List.set_cons_succ]
      refine step_bare (i := 10) (some 42) (Go.Op.call { callee := Go.Callee.value (Go.Operand.func 11), args := #[Go.Operand.tmp 41], argTypes := #[25] }) 26 #[true, true, true, true, true, true, true, true, true, true, true, false, true, false, false, false, false, false, false, false, false, false, false, false, false, false, false, false, false, false, false, false, false, false, false] T5_r10 rfl (by kernel_rfl) (by kernel_rfl) (by kernel_rfl) (by kernel_rfl) (by kernel_rfl) (fun K hK => ?_)
      go_simp
      (with_reducible refine (bytes_any a _ ha).mono ?_)
      rintro e w10 ⟨⟨v10, rfl, hown10⟩, hB10⟩
      obtain ⟨A10, c10, rfl, hs10⟩ := Sl.own hown10
      go_simp
      refine hK.out _ _ ?_ (fun hHeld => ?_)
      · exact hHeld.next hB10
      clear hK K
      try simp only [Act.put, List.setIfInBounds_toArray, List.set_cons_zero, List.set_cons_succ]
      refine anyH_mono (S' := fun W => Te w a b gt gu t A' n' c' ts W ∧ Sl W w10.heap.size A10 12 c10 ((bytesT a).map vb) ∧ w10.heap.size ≤ W.heap.size) (fun _ h => h.1) _ _ _ _ ?_
      replace hHeld := And.intro hHeld (And.intro hs10 (Nat.le_refl w10.heap.size))
      refine take_bare (i := 11) (some 43) (Go.Op.convert 26 9 (Go.Operand.tmp 42)) 9 #[true, true, true, true, true, true, true, true, true, true, true, true, true, false, false, false, false, false, false, false, false, false, false, false, false, false, false, false, false, false, false, false, false, false, false] (v := (.string (strOfNums (bytesT a)))) hHeld rfl (by kernel_rfl) (by kernel_rfl) (by kernel_rfl) (by kernel_rfl) T5_s T5_f11 T5_c11 (by kernel_rfl) (fun _ _ _ h => h) (fun W hS => run_conv (s := 42) (by kernel_rfl) (by kernel_rfl) hS.2.1 (by omega)) ?_
      try simp only [Act.put, List.setIfInBounds_toArray, List.set_cons_zero, List.set_cons_succ]
      refine step_bare (i := 13) (some 45) (Go.Op.call { callee := Go.Callee.value (Go.Operand.func 12), args := #[Go.Operand.tmp 44], argTypes := #[25] }) 26 #[true, true, true, true, true, true, true, true, true, true, true, true, true, true, false, false, false, false, false, false, false, false, false, false, false, false, false, false, false, false, false, false, false, false, false] T5_r13 rfl (by kernel_rfl) (by kernel_rfl) (by kernel_rfl) (by kernel_rfl) (by kernel_rfl) (fun K hK => ?_)
      go_simp
      (with_reducible refine (refRow_any a _ ha).mono ?_)
      rintro e w13 ⟨⟨v13, rfl, hown13⟩, hB13⟩
      obtain ⟨A13, c13, rfl, hs13⟩ := Sl.own hown13
      go_simp
      refine hK.out _ _ ?_ (fun hHeld => ?_)
      · exact ⟨hHeld.1.next hB13, hHeld.2.1.below (hB13.mono hHeld.2.2), Nat.le_trans hHeld.2.2 hB13.size⟩
      clear hK K
      try simp only [Act.put, List.setIfInBounds_toArray, List.set_cons_zero, List.set_cons_succ]
      refine step_bare (i := 14) (some 46) (Go.Op.convert 26 9 (Go.Operand.tmp 45)) 9 #[true, true, true, true, true, true, true, true, true, true, true, true, true, true, true, false, false, false, false, false, false, false, false, false, false, false, false, false, false, false, false, false, false, false, false] T5_r14 rfl (by kernel_rfl) (by kernel_rfl) (by kernel_rfl) (by kernel_rfl) (by kernel_rfl) (fun K hK => ?_)
      have cy := run_str hs13 (by omega)
      go_simp
      refine hK.out _ _ ?_ (fun hHeld => ?_)
      · exact hHeld
      clear hK K
      try simp only [Act.put, List.setIfInBounds_toArray, List.set_cons_zero, List.set_cons_succ]
      refine take_bare (i := 15) (some 47) (Go.Op.binOp Go.BinOp.neq 9 (Go.Operand.tmp 43) (Go.Operand.tmp 46) 9) 4 #[true, true, true, true, true, true, true, true, true, true, true, true, true, true, true, true, false, false, false, false, false, false, false, false, false, false, false, false, false, false, false, false, false, false, false] (v := (.bool false)) hHeld rfl (by kernel_rfl) (by kernel_rfl) (by kernel_rfl) (by kernel_rfl) T5_s T5_f15 T5_c15 (by kernel_rfl) (fun _ _ _ h => h) (fun W hS => run_neq_str (s := 43) (t := 46) (strOfNums (bytesT a)) (by kernel_rfl) (by kernel_rfl) (by kernel_rfl) W) ?_
      try simp only [Act.put, List.setIfInBounds_toArray, List.set_cons_zero, List.set_cons_succ]
      refine take_bare (i := 16) (some 48) (Go.Op.pick (Go.Operand.tmp 40) (Go.Operand.const (Go.Value.bool true)) (Go.Operand.tmp 47)) 4 #[true, true, true, true, true, true, true, true, true, true, true, true, true, true, true, true, true, false, false, false, false, false, false, false, false, false, false, false, false, false, false, false, false, false, false] (v := ?_) hHeld rfl (by kernel_rfl) (by kernel_rfl) (by kernel_rfl) (by kernel_rfl) T5_s T5_f16 T5_c16 (by kernel_rfl) (fun _ _ _ h => h) ?hya16_14 ?_
      case hya16_14 => intro w hSw; clear hSw; go_simp; try with_reducible rfl
      try simp only [Act.put, List.setIfInBounds_toArray, List.set_cons_zero, List.set_cons_succ]
      refine take_bare (i := 17) (some 49) (Go.Op.move (Go.Operand.tmp 48)) 4 #[true, true, true, true, true, true, true, true, true, true, true, true, true, true, true, true, true, true, false, false, false, false, false, false, false, false, false, false, false, false, false, false, false, false, false] (v := ?_) hHeld rfl (by kernel_rfl) (by kernel_rfl) (by kernel_rfl) (by kernel_rfl) T5_s T5_f17 T5_c17 (by kernel_rfl) (fun _ _ _ h => h) ?hya17_15 ?_
      case hya17_15 => intro w hSw; clear hSw; go_simp; try with_reducible rfl
      try simp only [Act.put, List.setIfInBounds_toArray, List.set_cons_zero, List.set_cons_succ]
      refine take_bare (i := 18) (some 50) (Go.Op.load 25 (Go.Operand.tmp 4)) 25 #[true, true, true, true, true, true, true, true, true, true, true, true, true, true, true, true, true, true, true, false, false, false, false, false, false, false, false, false, false, false, false, false, false, false, false] (v := (tv a)) hHeld rfl (by kernel_rfl) (by kernel_rfl) (by kernel_rfl) (by kernel_rfl) T5_s T5_f18 T5_c18 (by kernel_rfl) (fun _ _ _ h => h) (fun W hS => run_load_bt (s := 4) (by kernel_rfl) (by kernel_rfl) hS.1.duo.a) ?_
      try simp only [Act.put, List.setIfInBounds_toArray, List.set_cons_zero, List.set_cons_succ]
      refine take_bare (i := 19) (some 51) (Go.Op.load 25 (Go.Operand.tmp 5)) 25 #[true, true, true, true, true, true, true, true, true, true, true, true, true, true, true, true, true, true, true, true, false, false, false, false, false, false, false, false, false, false, false, false, false, false, false] (v := (tv b)) hHeld rfl (by kernel_rfl) (by kernel_rfl) (by kernel_rfl) (by kernel_rfl) T5_s T5_f19 T5_c19 (by kernel_rfl) (fun _ _ _ h => h) (fun W hS => run_load_bt (s := 5) (by kernel_rfl) (by kernel_rfl) hS.1.duo.b) ?_
      try simp only [Act.put, List.setIfInBounds_toArray, List.set_cons_zero, List.set_cons_succ]
      refine take_bare (i := 21) (some 53) (Go.Op.load 25 (Go.Operand.tmp 4)) 25 #[true, true, true, true, true, true, true, true, true, true, true, true, true, true, true, true, true, true, true, true, false, true, false, false, false, false, false, false, false, false, false, false, false, false, false] (v := (tv a)) hHeld rfl (by kernel_rfl) (by kernel_rfl) (by kernel_rfl) (by kernel_rfl) T5_s T5_f21 T5_c21 (by kernel_rfl) (fun _ _ _ h => h) (fun W hS => run_load_bt (s := 4) (by kernel_rfl) (by kernel_rfl) hS.1.duo.a) ?_
      try simp only [Act.put, List.setIfInBounds_toArray, List.set_cons_zero, List.set_cons_succ]
      refine take_bare (i := 22) (some 54) (Go.Op.load 25 (Go.Operand.tmp 5)) 25 #[true, true, true, true, true, true, true, true, true, true, true, true, true, true, true, true, true, true, true, true, false, true, true, false, false, false, false, false, false, false, false, false, false, false, false] (v := (tv b)) hHeld rfl (by kernel_rfl) (by kernel_rfl) (by kernel_rfl) (by kernel_rfl) T5_s T5_f22 T5_c22 (by kernel_rfl) (fun _ _ _ h => h) (fun W hS => run_load_bt (s := 5) (by kernel_rfl) (by kernel_rfl) hS.1.duo.b) ?_
      try simp only [Act.put, List.setIfInBounds_toArray, List.set_cons_zero, List.set_cons_succ]
      refine step_bare (i := 20) (some 52) (Go.Op.call { callee := Go.Callee.value (Go.Operand.func 13), args := #[Go.Operand.tmp 50, Go.Operand.tmp 51], argTypes := #[25, 25] }) 3 #[true, true, true, true, true, true, true, true, true, true, true, true, true, true, true, true, true, true, true, true, true, true, true, false, false, false, false, false, false, false, false, false, false, false, false] T5_r20 rfl (by kernel_rfl) (by kernel_rfl) (by kernel_rfl) (by kernel_rfl) (by kernel_rfl) (fun K hK => ?_)
      go_simp
      (with_reducible refine (cmp_any a b _).mono ?_)
      rintro e w20 ⟨rfl, hB20⟩
      go_simp
      refine hK.out _ _ ?_ (fun hHeld => ?_)
      · exact ⟨hHeld.1.next hB20, hHeld.2.1.below (hB20.mono hHeld.2.2), Nat.le_trans hHeld.2.2 hB20.size⟩
      clear hK K
      try simp only [Act.put, List.setIfInBounds_toArray, List.set_cons_zero, List.set_cons_succ]
      refine step_bare (i := 23) (some 55) (Go.Op.call { callee := Go.Callee.value (Go.Operand.func 14), args := #[Go.Operand.tmp 53, Go.Operand.tmp 54], argTypes := #[25, 25] }) 3 #[true, true, true, true, true, true, true, true, true, true, true, true, true, true, true, true, true, true, true, true, true, true, true, true, false, false, false, false, false, false, false, false, false, false, false] T5_r23 rfl (by kernel_rfl) (by kernel_rfl) (by kernel_rfl) (by kernel_rfl) (by kernel_rfl) (fun K hK => ?_)
      go_simp
      (with_reducible refine (refCmp_any a b _ ha hb).mono ?_)
      rintro e w23 ⟨rfl, hB23⟩
      go_simp
      refine hK.out _ _ ?_ (fun hHeld => ?_)
      · exact ⟨hHeld.1.next hB23, hHeld.2.1.below (hB23.mono hHeld.2.2), Nat.le_trans hHeld.2.2 hB23.size⟩
      clear hK K
      try simp only [Act.put, List.setIfInBounds_toArray, List.set_cons_zero, List.set_cons_succ]
      refine take_bare (i := 24) (some 56) (Go.Op.binOp Go.BinOp.neq 3 (Go.Operand.tmp 52) (Go.Operand.tmp 55) 3) 4 #[true, true, true, true, true, true, true, true, true, true, true, true, true, true, true, true, true, true, true, true, true, true, true, true, true, false, false, false, false, false, false, false, false, false, false] (v := ?_) hHeld rfl (by kernel_rfl) (by kernel_rfl) (by kernel_rfl) (by kernel_rfl) T5_s T5_f24 T5_c24 (by kernel_rfl) (fun _ _ _ h => h) ?hya24_20 ?_
      case hya24_20 => intro w hSw; clear hSw; go_simp; try with_reducible rfl
      try simp only [Act.put, List.setIfInBounds_toArray, List.set_cons_zero, List.set_cons_succ]
      refine take_bare (i := 25) (some 57) (Go.Op.pick (Go.Operand.tmp 49) (Go.Operand.const (Go.Value.bool true)) (Go.Operand.tmp 56)) 4 #[true, true, true, true, true, true, true, true, true, true, true, true, true, true, true, true, true, true, true, true, true, true, true, true, true, true, false, false, false, false, false, false, false, false, false] (v := ?_) hHeld rfl (by kernel_rfl) (by kernel_rfl) (by kernel_rfl) (by kernel_rfl) T5_s T5_f25 T5_c25 (by kernel_rfl) (fun _ _ _ h => h) ?hya25_21 ?_
      case hya25_21 => intro w hSw; clear hSw; go_simp; try with_reducible rfl
      try simp only [Act.put, List.setIfInBounds_toArray, List.set_cons_zero, List.set_cons_succ]
      refine take_bare (i := 26) (some 58) (Go.Op.move (Go.Operand.tmp 57)) 4 #[true, true, true, true, true, true, true, true, true, true, true, true, true, true, true, true, true, true, true, true, true, true, true, true, true, true, true, false, false, false, false, false, false, false, false] (v := ?_) hHeld rfl (by kernel_rfl) (by kernel_rfl) (by kernel_rfl) (by kernel_rfl) T5_s T5_f26 T5_c26 (by kernel_rfl) (fun _ _ _ h => h) ?hya26_22 ?_
      case hya26_22 => intro w hSw; clear hSw; go_simp; try with_reducible rfl
      try simp only [Act.put, List.setIfInBounds_toArray, List.set_cons_zero, List.set_cons_succ]
      refine take_bare (i := 27) (some 59) (Go.Op.load 25 (Go.Operand.tmp 4)) 25 #[true, true, true, true, true, true, true, true, true, true, true, true, true, true, true, true, true, true, true, true, true, true, true, true, true, true, true, true, false, false, false, false, false, false, false] (v := (tv a)) hHeld rfl (by kernel_rfl) (by kernel_rfl) (by kernel_rfl) (by kernel_rfl) T5_s T5_f27 T5_c27 (by kernel_rfl) (fun _ _ _ h => h) (fun W hS => run_load_bt (s := 4) (by kernel_rfl) (by kernel_rfl) hS.1.duo.a) ?_
      try simp only [Act.put, List.setIfInBounds_toArray, List.set_cons_zero, List.set_cons_succ]
      refine take_bare (i := 28) (some 60) (Go.Op.load 25 (Go.Operand.tmp 5)) 25 #[true, true, true, true, true, true, true, true, true, true, true, true, true, true, true, true, true, true, true, true, true, true, true, true, true, true, true, true, true, false, false, false, false, false, false] (v := (tv b)) hHeld rfl (by kernel_rfl) (by kernel_rfl) (by kernel_rfl) (by kernel_rfl) T5_s T5_f28 T5_c28 (by kernel_rfl) (fun _ _ _ h => h) (fun W hS => run_load_bt (s := 5) (by kernel_rfl) (by kernel_rfl) hS.1.duo.b) ?_
      try simp only [Act.put, List.setIfInBounds_toArray, List.set_cons_zero, List.set_cons_succ]
      refine take_bare (i := 30) (some 62) (Go.Op.load 25 (Go.Operand.tmp 4)) 25 #[true, true, true, true, true, true, true, true, true, true, true, true, true, true, true, true, true, true, true, true, true, true, true, true, true, true, true, true, true, false, true, false, false, false, false] (v := (tv a)) hHeld rfl (by kernel_rfl) (by kernel_rfl) (by kernel_rfl) (by kernel_rfl) T5_s T5_f30 T5_c30 (by kernel_rfl) (fun _ _ _ h => h) (fun W hS => run_load_bt (s := 4) (by kernel_rfl) (by kernel_rfl) hS.1.duo.a) ?_
      try simp only [Act.put, List.setIfInBounds_toArray, List.set_cons_zero, List.set_cons_succ]
      refine take_bare (i := 31) (some 63) (Go.Op.load 25 (Go.Operand.tmp 5)) 25 #[true, true, true, true, true, true, true, true, true, true, true, true, true, true, true, true, true, true, true, true, true, true, true, true, true, true, true, true, true, false, true, true, false, false, false] (v := (tv b)) hHeld rfl (by kernel_rfl) (by kernel_rfl) (by kernel_rfl) (by kernel_rfl) T5_s T5_f31 T5_c31 (by kernel_rfl) (fun _ _ _ h => h) (fun W hS => run_load_bt (s := 5) (by kernel_rfl) (by kernel_rfl) hS.1.duo.b) ?_
      try simp only [Act.put, List.setIfInBounds_toArray, List.set_cons_zero, List.set_cons_succ]
      refine step_bare (i := 29) (some 61) (Go.Op.call { callee := Go.Callee.value (Go.Operand.func 15), args := #[Go.Operand.tmp 59, Go.Operand.tmp 60], argTypes := #[25, 25] }) 4 #[true, true, true, true, true, true, true, true, true, true, true, true, true, true, true, true, true, true, true, true, true, true, true, true, true, true, true, true, true, true, true, true, false, false, false] T5_r29 rfl (by kernel_rfl) (by kernel_rfl) (by kernel_rfl) (by kernel_rfl) (by kernel_rfl) (fun K hK => ?_)
      go_simp
      (with_reducible refine (less_any a b _).mono ?_)
      rintro e w29 ⟨rfl, hB29⟩
      go_simp
      refine hK.out _ _ ?_ (fun hHeld => ?_)
      · exact ⟨hHeld.1.next hB29, hHeld.2.1.below (hB29.mono hHeld.2.2), Nat.le_trans hHeld.2.2 hB29.size⟩
      clear hK K
      try simp only [Act.put, List.setIfInBounds_toArray, List.set_cons_zero, List.set_cons_succ]
      refine step_bare (i := 32) (some 64) (Go.Op.call { callee := Go.Callee.value (Go.Operand.func 16), args := #[Go.Operand.tmp 62, Go.Operand.tmp 63], argTypes := #[25, 25] }) 4 #[true, true, true, true, true, true, true, true, true, true, true, true, true, true, true, true, true, true, true, true, true, true, true, true, true, true, true, true, true, true, true, true, true, false, false] T5_r32 rfl (by kernel_rfl) (by kernel_rfl) (by kernel_rfl) (by kernel_rfl) (by kernel_rfl) (fun K hK => ?_)
      go_simp
      (with_reducible refine (refLess_any a b _ ha hb).mono ?_)
      rintro e w32 ⟨rfl, hB32⟩
      go_simp
      refine hK.out _ _ ?_ (fun hHeld => ?_)
      · exact ⟨hHeld.1.next hB32, hHeld.2.1.below (hB32.mono hHeld.2.2), Nat.le_trans hHeld.2.2 hB32.size⟩
      clear hK K
      try simp only [Act.put, List.setIfInBounds_toArray, List.set_cons_zero, List.set_cons_succ]
      refine take_bare (i := 33) (some 65) (Go.Op.binOp Go.BinOp.neq 4 (Go.Operand.tmp 61) (Go.Operand.tmp 64) 4) 4 #[true, true, true, true, true, true, true, true, true, true, true, true, true, true, true, true, true, true, true, true, true, true, true, true, true, true, true, true, true, true, true, true, true, true, false] (v := (.bool false)) hHeld rfl (by kernel_rfl) (by kernel_rfl) (by kernel_rfl) (by kernel_rfl) T5_s T5_f33 T5_c33 (by kernel_rfl) (fun _ _ _ h => h) (fun W hS => run_neq_same (s := 61) (t := 64) (decide (cmpT a b < 0)) (by kernel_rfl) (by kernel_rfl) (by kernel_rfl) W) ?_
      try simp only [Act.put, List.setIfInBounds_toArray, List.set_cons_zero, List.set_cons_succ]
      refine take_bare (i := 34) (some 66) (Go.Op.pick (Go.Operand.tmp 58) (Go.Operand.const (Go.Value.bool true)) (Go.Operand.tmp 65)) 4 #[true, true, true, true, true, true, true, true, true, true, true, true, true, true, true, true, true, true, true, true, true, true, true, true, true, true, true, true, true, true, true, true, true, true, true] (v := ?_) hHeld rfl (by kernel_rfl) (by kernel_rfl) (by kernel_rfl) (by kernel_rfl) T5_s T5_f34 T5_c34 (by kernel_rfl) (fun _ _ _ h => h) ?hya34_28 ?_
      case hya34_28 => intro w hSw; clear hSw; go_simp; try with_reducible rfl
      try simp only [Act.put, List.setIfInBounds_toArray, List.set_cons_zero, List.set_cons_succ]
      refine wpAnyH_done (by kernel_rfl) ?_ _
      try simp only [Act.put, List.setIfInBounds_toArray, List.set_cons_zero, List.set_cons_succ]
      replace hHeld := hHeld.1
      go_wp2_with fail
      --ENDR5
      --R7
      refine region_as (R := T7) (by kernel_rfl) ?_
      refine wp_region_held_drew (S := Te w a b gt gu t A' n' c' ts) (by kernel_rfl) ?_ (fun hHeld => ?_)
      · exact hHeld.drew
      refine listed_as (L := #[false, false, false, false, false, false, false, false, false, false, false, false, false, false, false, false, false, false, false, false, false, false, false]) (by kernel_rfl) ?_
      refine take_bare (i := 0) (some 67) (Go.Op.load 25 (Go.Operand.tmp 4)) 25 #[true, false, false, false, false, false, false, false, false, false, false, false, false, false, false, false, false, false, false, false, false, false, false] (v := (tv a)) hHeld rfl (by kernel_rfl) (by kernel_rfl) (by kernel_rfl) (by kernel_rfl) T7_s T7_f0 T7_c0 (by kernel_rfl) (fun _ _ _ h => h) (fun W hS => run_load_bt (s := 4) (by kernel_rfl) (by kernel_rfl) hS.duo.a) ?_
      try simp only [Act.put, List.setIfInBounds_toArray, List.set_cons_zero, List.set_cons_succ]
      refine take_bare (i := 2) (some 69) (Go.Op.load 25 (Go.Operand.tmp 4)) 25 #[true, false, true, false, false, false, false, false, false, false, false, false, false, false, false, false, false, false, false, false, false, false, false] (v := (tv a)) hHeld rfl (by kernel_rfl) (by kernel_rfl) (by kernel_rfl) (by kernel_rfl) T7_s T7_f2 T7_c2 (by kernel_rfl) (fun _ _ _ h => h) (fun W hS => run_load_bt (s := 4) (by kernel_rfl) (by kernel_rfl) hS.duo.a) ?_
      try simp only [Act.put, List.setIfInBounds_toArray, List.set_cons_zero, List.set_cons_succ]
      refine step_bare (i := 1) (some 68) (Go.Op.call { callee := Go.Callee.value (Go.Operand.func 17), args := #[Go.Operand.tmp 67], argTypes := #[25] }) 25 #[true, true, true, false, false, false, false, false, false, false, false, false, false, false, false, false, false, false, false, false, false, false, false] T7_r1 rfl (by kernel_rfl) (by kernel_rfl) (by kernel_rfl) (by kernel_rfl) (by kernel_rfl) (fun K hK => ?_)
      go_simp
      (with_reducible refine (back_any a _).mono ?_)
      rintro e w1 ⟨rfl, hB1⟩
      go_simp
      refine hK.out _ _ ?_ (fun hHeld => ?_)
      · exact hHeld.next hB1
      clear hK K
      try simp only [Act.put, List.setIfInBounds_toArray, List.set_cons_zero, List.set_cons_succ]
      refine step_bare (i := 3) (some 70) (Go.Op.call { callee := Go.Callee.value (Go.Operand.func 18), args := #[Go.Operand.tmp 69], argTypes := #[25] }) 25 #[true, true, true, true, false, false, false, false, false, false, false, false, false, false, false, false, false, false, false, false, false, false, false] T7_r3 rfl (by kernel_rfl) (by kernel_rfl) (by kernel_rfl) (by kernel_rfl) (by kernel_rfl) (fun K hK => ?_)
      go_simp
      (with_reducible refine (refBack_any a _).mono ?_)
      rintro e w3 ⟨rfl, hB3⟩
      go_simp
      refine hK.out _ _ ?_ (fun hHeld => ?_)
      · exact hHeld.next hB3
      clear hK K
      try simp only [Act.put, List.setIfInBounds_toArray, List.set_cons_zero, List.set_cons_succ]
      refine take_bare (i := 4) (some 71) (Go.Op.binOp Go.BinOp.eql 25 (Go.Operand.tmp 68) (Go.Operand.tmp 70) 25) 4 #[true, true, true, true, true, false, false, false, false, false, false, false, false, false, false, false, false, false, false, false, false, false, false] (v := (.bool true)) hHeld rfl (by kernel_rfl) (by kernel_rfl) (by kernel_rfl) (by kernel_rfl) T7_s T7_f4 T7_c4 (by kernel_rfl) (fun _ _ _ h => h) (fun W hS => run_eq25 (s := 68) (t := 70) (backT a) (backT a) true (by kernel_rfl) (by kernel_rfl) (by kernel_rfl) (by simp) W) ?_
      try simp only [Act.put, List.setIfInBounds_toArray, List.set_cons_zero, List.set_cons_succ]
      refine take_bare (i := 5) (some 72) (Go.Op.move (Go.Operand.tmp 71)) 4 #[true, true, true, true, true, true, false, false, false, false, false, false, false, false, false, false, false, false, false, false, false, false, false] (v := ?_) hHeld rfl (by kernel_rfl) (by kernel_rfl) (by kernel_rfl) (by kernel_rfl) T7_s T7_f5 T7_c5 (by kernel_rfl) (fun _ _ _ h => h) ?hyb5_4 ?_
      case hyb5_4 => intro w hSw; clear hSw; go_simp; try with_reducible rfl
      try simp only [Act.put, List.setIfInBounds_toArray, List.set_cons_zero, List.set_cons_succ]
      refine take_bare (i := 6) (some 73) (Go.Op.load 25 (Go.Operand.tmp 4)) 25 #[true, true, true, true, true, true, true, false, false, false, false, false, false, false, false, false, false, false, false, false, false, false, false] (v := (tv a)) hHeld rfl (by kernel_rfl) (by kernel_rfl) (by kernel_rfl) (by kernel_rfl) T7_s T7_f6 T7_c6 (by kernel_rfl) (fun _ _ _ h => h) (fun W hS => run_load_bt (s := 4) (by kernel_rfl) (by kernel_rfl) hS.duo.a) ?_
      try simp only [Act.put, List.setIfInBounds_toArray, List.set_cons_zero, List.set_cons_succ]
      refine take_bare (i := 8) (some 75) (Go.Op.load 25 (Go.Operand.tmp 4)) 25 #[true, true, true, true, true, true, true, false, true, false, false, false, false, false, false, false, false, false, false, false, false, false, false] (v := (tv a)) hHeld rfl (by kernel_rfl) (by kernel_rfl) (by kernel_rfl) (by kernel_rfl) T7_s T7_f8 T7_c8 (by kernel_rfl) (fun _ _ _ h => h) (fun W hS => run_load_bt (s := 4) (by kernel_rfl) (by kernel_rfl) hS.duo.a) ?_
      try simp only [Act.put, List.setIfInBounds_toArray, List.set_cons_zero, List.set_cons_succ]
      refine step_bare (i := 7) (some 74) (Go.Op.call { callee := Go.Callee.value (Go.Operand.func 19), args := #[Go.Operand.tmp 73], argTypes := #[25] }) 9 #[true, true, true, true, true, true, true, true, true, false, false, false, false, false, false, false, false, false, false, false, false, false, false] T7_r7 rfl (by kernel_rfl) (by kernel_rfl) (by kernel_rfl) (by kernel_rfl) (by kernel_rfl) (fun K hK => ?_)
      go_simp
      (with_reducible refine (text_any a _ ha (hHeld.duo.tab ht)).mono ?_)
      rintro e w7 ⟨rfl, hB7⟩
      go_simp
      refine hK.out _ _ ?_ (fun hHeld => ?_)
      · exact hHeld.next hB7
      clear hK K
      try simp only [Act.put, List.setIfInBounds_toArray, List.set_cons_zero, List.set_cons_succ]
      refine step_bare (i := 9) (some 76) (Go.Op.call { callee := Go.Callee.value (Go.Operand.func 20), args := #[Go.Operand.tmp 75], argTypes := #[25] }) 9 #[true, true, true, true, true, true, true, true, true, true, false, false, false, false, false, false, false, false, false, false, false, false, false] T7_r9 rfl (by kernel_rfl) (by kernel_rfl) (by kernel_rfl) (by kernel_rfl) (by kernel_rfl) (fun K hK => ?_)
      go_simp
      (with_reducible refine (refText_any a _ ha).mono ?_)
      rintro e w9 ⟨rfl, hB9⟩
      go_simp
      refine hK.out _ _ ?_ (fun hHeld => ?_)
      · exact hHeld.next hB9
      clear hK K
      try simp only [Act.put, List.setIfInBounds_toArray, List.set_cons_zero, List.set_cons_succ]
      refine take_bare (i := 10) (some 77) (Go.Op.binOp Go.BinOp.eql 9 (Go.Operand.tmp 74) (Go.Operand.tmp 76) 9) 4 #[true, true, true, true, true, true, true, true, true, true, true, false, false, false, false, false, false, false, false, false, false, false, false] (v := (.bool true)) hHeld rfl (by kernel_rfl) (by kernel_rfl) (by kernel_rfl) (by kernel_rfl) T7_s T7_f10 T7_c10 (by kernel_rfl) (fun _ _ _ h => h) (fun W hS => run_eq_str (s := 74) (t := 76) ⟨(textT a).toArray⟩ ⟨(textT a).toArray⟩ true (by kernel_rfl) (by kernel_rfl) (by kernel_rfl) (by simp) W) ?_
      try simp only [Act.put, List.setIfInBounds_toArray, List.set_cons_zero, List.set_cons_succ]
      refine take_bare (i := 11) (some 78) (Go.Op.pick (Go.Operand.tmp 72) (Go.Operand.tmp 77) (Go.Operand.const (Go.Value.bool false))) 4 #[true, true, true, true, true, true, true, true, true, true, true, true, false, false, false, false, false, false, false, false, false, false, false] (v := ?_) hHeld rfl (by kernel_rfl) (by kernel_rfl) (by kernel_rfl) (by kernel_rfl) T7_s T7_f11 T7_c11 (by kernel_rfl) (fun _ _ _ h => h) ?hyb11_8 ?_
      case hyb11_8 => intro w hSw; clear hSw; go_simp; try with_reducible rfl
      try simp only [Act.put, List.setIfInBounds_toArray, List.set_cons_zero, List.set_cons_succ]
      refine take_bare (i := 12) (some 79) (Go.Op.move (Go.Operand.tmp 78)) 4 #[true, true, true, true, true, true, true, true, true, true, true, true, true, false, false, false, false, false, false, false, false, false, false] (v := ?_) hHeld rfl (by kernel_rfl) (by kernel_rfl) (by kernel_rfl) (by kernel_rfl) T7_s T7_f12 T7_c12 (by kernel_rfl) (fun _ _ _ h => h) ?hyb12_9 ?_
      case hyb12_9 => intro w hSw; clear hSw; go_simp; try with_reducible rfl
      try simp only [Act.put, List.setIfInBounds_toArray, List.set_cons_zero, List.set_cons_succ]
      refine take_bare (i := 13) (some 80) (Go.Op.move (Go.Operand.tmp 3)) 27 #[true, true, true, true, true, true, true, true, true, true, true, true, true, true, false, false, false, false, false, false, false, false, false] (v := ?_) hHeld rfl (by kernel_rfl) (by kernel_rfl) (by kernel_rfl) (by kernel_rfl) T7_s T7_f13 T7_c13 (by kernel_rfl) (fun _ _ _ h => h) ?hyb13_10 ?_
      case hyb13_10 => intro w hSw; clear hSw; go_simp; try with_reducible rfl
      try simp only [Act.put, List.setIfInBounds_toArray, List.set_cons_zero, List.set_cons_succ]
      refine take_bare (i := 15) (some 82) (Go.Op.move (Go.Operand.tmp 3)) 27 #[true, true, true, true, true, true, true, true, true, true, true, true, true, true, false, true, false, false, false, false, false, false, false] (v := ?_) hHeld rfl (by kernel_rfl) (by kernel_rfl) (by kernel_rfl) (by kernel_rfl) T7_s T7_f15 T7_c15 (by kernel_rfl) (fun _ _ _ h => h) ?hyb15_11 ?_
      case hyb15_11 => intro w hSw; clear hSw; go_simp; try with_reducible rfl
      try simp only [Act.put, List.setIfInBounds_toArray, List.set_cons_zero, List.set_cons_succ]
      refine step_bare (i := 14) (some 81) (Go.Op.call { callee := Go.Callee.value (Go.Operand.func 22), args := #[Go.Operand.tmp 80], argTypes := #[27] }) 27 #[true, true, true, true, true, true, true, true, true, true, true, true, true, true, true, true, false, false, false, false, false, false, false] T7_r14 rfl (by kernel_rfl) (by kernel_rfl) (by kernel_rfl) (by kernel_rfl) (by kernel_rfl) (fun K hK => ?_)
      go_simp
      (with_reducible refine (sorted_any A' n' c' ts _ (hHeld.l.more hHeld.duo.below.size) (by omega)).mono ?_)
      rintro e w14 ⟨⟨A14, c14, rfl, ho14⟩, hB14⟩
      go_simp
      refine hK.out _ _ ?_ (fun hHeld => ?_)
      · exact hHeld.next hB14
      clear hK K
      try simp only [Act.put, List.setIfInBounds_toArray, List.set_cons_zero, List.set_cons_succ]
      refine step_bare (i := 16) (some 83) (Go.Op.call { callee := Go.Callee.value (Go.Operand.func 23), args := #[Go.Operand.tmp 82], argTypes := #[27] }) 27 #[true, true, true, true, true, true, true, true, true, true, true, true, true, true, true, true, true, false, false, false, false, false, false] T7_r16 rfl (by kernel_rfl) (by kernel_rfl) (by kernel_rfl) (by kernel_rfl) (by kernel_rfl) (fun K hK => ?_)
      go_simp
      (with_reducible refine (refSorted_any A' n' c' ts _ (hHeld.l.more hHeld.duo.below.size) (by omega) HIN.out).mono ?_)
      rintro e w16 ⟨⟨A16, c16, rfl, ho16⟩, hB16⟩
      have ho14' := (ho14.below hB16).more hB16.size
      go_simp
      refine hK.out _ _ ?_ (fun hHeld => ?_)
      · exact hHeld.next hB16
      clear hK K
      try simp only [Act.put, List.setIfInBounds_toArray, List.set_cons_zero, List.set_cons_succ]
      refine step_bare (i := 17) (some 84) (Go.Op.call { callee := Go.Callee.value (Go.Operand.func 21), args := #[Go.Operand.tmp 81, Go.Operand.tmp 83], argTypes := #[27, 27] }) 4 #[true, true, true, true, true, true, true, true, true, true, true, true, true, true, true, true, true, true, false, false, false, false, false] T7_r17 rfl (by kernel_rfl) (by kernel_rfl) (by kernel_rfl) (by kernel_rfl) (by kernel_rfl) (fun K hK => ?_)
      go_simp
      (with_reducible refine (all_val A14 A16 n' n' c14 c16 (sortT ts) (sortT ts) true _ ho14' ho16 (by simp)).mono ?_)
      rintro e w17 ⟨rfl, hB17⟩
      go_simp
      refine hK.out _ _ ?_ (fun hHeld => ?_)
      · exact hHeld.next hB17
      clear hK K
      try simp only [Act.put, List.setIfInBounds_toArray, List.set_cons_zero, List.set_cons_succ]
      refine take_bare (i := 18) (some 85) (Go.Op.pick (Go.Operand.tmp 79) (Go.Operand.tmp 84) (Go.Operand.const (Go.Value.bool false))) 4 #[true, true, true, true, true, true, true, true, true, true, true, true, true, true, true, true, true, true, true, false, false, false, false] (v := ?_) hHeld rfl (by kernel_rfl) (by kernel_rfl) (by kernel_rfl) (by kernel_rfl) T7_s T7_f18 T7_c18 (by kernel_rfl) (fun _ _ _ h => h) ?hyb18_12 ?_
      case hyb18_12 => intro w hSw; clear hSw; go_simp; try with_reducible rfl
      try simp only [Act.put, List.setIfInBounds_toArray, List.set_cons_zero, List.set_cons_succ]
      refine take_bare (i := 19) (some 86) (Go.Op.move (Go.Operand.tmp 85)) 4 #[true, true, true, true, true, true, true, true, true, true, true, true, true, true, true, true, true, true, true, true, false, false, false] (v := ?_) hHeld rfl (by kernel_rfl) (by kernel_rfl) (by kernel_rfl) (by kernel_rfl) T7_s T7_f19 T7_c19 (by kernel_rfl) (fun _ _ _ h => h) ?hyb19_13 ?_
      case hyb19_13 => intro w hSw; clear hSw; go_simp; try with_reducible rfl
      try simp only [Act.put, List.setIfInBounds_toArray, List.set_cons_zero, List.set_cons_succ]
      refine step_bare (i := 20) (some 87) (Go.Op.call { callee := Go.Callee.value (Go.Operand.func 8), args := #[], argTypes := #[] }) 4 #[true, true, true, true, true, true, true, true, true, true, true, true, true, true, true, true, true, true, true, true, true, false, false] T7_r20 rfl (by kernel_rfl) (by kernel_rfl) (by kernel_rfl) (by kernel_rfl) (by kernel_rfl) (fun K hK => ?_)
      go_simp
      (with_reducible refine (wakes_any _ (hHeld.duo.tab ht)).mono ?_)
      rintro e w20 ⟨rfl, hB20⟩
      go_simp
      refine hK.out _ _ ?_ (fun hHeld => ?_)
      · exact hHeld.next hB20
      clear hK K
      try simp only [Act.put, List.setIfInBounds_toArray, List.set_cons_zero, List.set_cons_succ]
      refine take_bare (i := 21) (some 88) (Go.Op.pick (Go.Operand.tmp 86) (Go.Operand.tmp 87) (Go.Operand.const (Go.Value.bool false))) 4 #[true, true, true, true, true, true, true, true, true, true, true, true, true, true, true, true, true, true, true, true, true, true, false] (v := ?_) hHeld rfl (by kernel_rfl) (by kernel_rfl) (by kernel_rfl) (by kernel_rfl) T7_s T7_f21 T7_c21 (by kernel_rfl) (fun _ _ _ h => h) ?hyb21_14 ?_
      case hyb21_14 => intro w hSw; clear hSw; go_simp; try with_reducible rfl
      try simp only [Act.put, List.setIfInBounds_toArray, List.set_cons_zero, List.set_cons_succ]
      refine take_bare (i := 22) (some 8) (Go.Op.assign (Go.Operand.tmp 88)) 4 #[true, true, true, true, true, true, true, true, true, true, true, true, true, true, true, true, true, true, true, true, true, true, true] (v := ?_) hHeld rfl (by kernel_rfl) (by kernel_rfl) (by kernel_rfl) (by kernel_rfl) T7_s T7_f22 T7_c22 (by kernel_rfl) (fun _ _ _ h => h) ?hyb22_15 ?_
      case hyb22_15 => intro w hSw; clear hSw; go_simp; try with_reducible rfl
      try simp only [Act.put, List.setIfInBounds_toArray, List.set_cons_zero, List.set_cons_succ]
      refine wpAnyH_done (by kernel_rfl) ?_ _
      try simp only [Act.put, List.setIfInBounds_toArray, List.set_cons_zero, List.set_cons_succ]
      go_wp2
      go_ret
      exact ⟨rfl, hHeld.duo.below⟩
      --ENDR7
end Go.Proofs.YtdlpkphbgbffpaaDoor
