/-
  The walk of the statements' wakes.
-/
import Derived.Test.YtigpdkbfailadaaRows
import Derived.Test.YtigpdkbfailadaaAppend
import Derived.Test.YtigpdkbfailadaaTail
import Derived.Shelf.Abstract
import Derived.Shelf.RegionOpen
import Derived.WalkKit
import Derived.OwnWalkIn
import Derived.TacticsInMore
import Derived.LoopNIn
import Derived.LoopIn
import Derived.WalkMore
import Derived.ScopeJumps
import Derived.Lib.Hide
import Derived.WalkSpells
import Derived.WalkLawsBesides
import Derived.Deep.QuietTactic
import Derived.BigQuiet
import Derived.Laws.Rows
import Derived.Test.YtigpdkbfailadaaMems
import Derived.Test.YtigpdkbfailadaaLeave
namespace Go.Proofs.Ytigpdkbfailadaa
open Go Go.RowKit Go.Shelf
set_option linter.unusedSimpArgs false
set_option linter.unusedVariables false
attribute [local go_sem] Oper.semAt_some

def ofL (l : List Int) : Mm := fun i => l.getD i 0
def mA : Mm := ofL [1, 0, 0, 0, 0, 0, 0, 0, 0]
def mB : Mm := ofL [1, 1, 0, 0, 0, 0, 0, 0, 0]
def mC : Mm := ofL [2, 1, 0, 0, 0, 0, 0, 0, 0]
def mD : Mm := ofL [2, 1, 0, 0, 0, 0, 0, 0, 1]
def mK : Mm := ofL [2, 1, 0, 0, 0, 0, 0, 0, 3]

theorem mv_congr {a b : Mm} (h : ∀ j, j < 9 → a j = b j) : mv a = mv b := by
  simp only [mv, h 0 (by omega), h 1 (by omega), h 2 (by omega), h 3 (by omega), h 4 (by omega), h 5 (by omega), h 6 (by omega), h 7 (by omega), h 8 (by omega)]
theorem deed_val {f : Mm → Nat → Mm × Int} {m : Mm} {k id : Int} {m' : Mm} {v : Int} (h : (∀ j, j < 9 → (deedM f m k id).1 j = m' j) ∧ (deedM f m k id).2 = v) : (Value.tuple #[mv (deedM f m k id).1, .int .i64 (deedM f m k id).2]) = .tuple #[mv m', .int .i64 v] := by
  rw [mv_congr h.1, h.2]
theorem add_val (m : Mm) (k id : Int) (m' : Mm) (v : Int) (h : (∀ j, j < 9 → (deedM addF m k id).1 j = m' j) ∧ (deedM addF m k id).2 = v) (w : World) : Calls Try.prog 7 #[mv m, nv k id] w fun e W' => e = .returned (.tuple #[mv m', .int .i64 v]) ∧ Below w.heap.size w W' := deed_val h ▸ add_any m k id w
theorem kill_val (m : Mm) (k id : Int) (m' : Mm) (v : Int) (h : (∀ j, j < 9 → (deedM killF m k id).1 j = m' j) ∧ (deedM killF m k id).2 = v) (w : World) : Calls Try.prog 11 #[mv m, nv k id] w fun e W' => e = .returned (.tuple #[mv m', .int .i64 v]) ∧ Below w.heap.size w W' := deed_val h ▸ kill_any m k id w
theorem leave_val (m : Mm) (id : Int) (m' : Mm) (v : Int) (h : (∀ j, j < 9 → (deedM leaveF m 2 id).1 j = m' j) ∧ (deedM leaveF m 2 id).2 = v) (w : World) : Calls Try.prog 9 #[mv m, .int .i64 id] w fun e W' => e = .returned (.tuple #[mv m', .int .i64 v]) ∧ Below w.heap.size w W' := deed_val h ▸ leave_any m id w
theorem state_val (m : Mm) (k id : Int) (s : Int) (ok : Bool) (h : stateM m k id = (s, ok)) (w : World) : Calls Try.prog 13 #[mv m, nv k id] w fun e W' => e = .returned (.tuple #[.int .u8 s, .bool ok]) ∧ Below w.heap.size w W' := by
  have := state_any m k id w
  rwa [h] at this
theorem backends_val (m : Mm) (b : Nat) (h : bitsTo m 0 thereS 6 = b) (w : World) : Calls Try.prog 19 #[mv m] w fun e W' => e = .returned (.int .u8 (b : Nat)) ∧ Below w.heap.size w W' := h ▸ backends_any m w
theorem takers_val (m : Mm) (b : Nat) (h : bitsTo m 0 aliveS 6 = b) (w : World) : Calls Try.prog 21 #[mv m] w fun e W' => e = .returned (.int .u8 (b : Nat)) ∧ Below w.heap.size w W' := h ▸ takers_any m w
theorem muxes_val (m : Mm) (b : Nat) (h : bitsTo m 6 thereS 3 = b) (w : World) : Calls Try.prog 23 #[mv m] w fun e W' => e = .returned (.int .u8 (b : Nat)) ∧ Below w.heap.size w W' := h ▸ muxes_any m w

set_option maxRecDepth 100000 in
set_option maxHeartbeats 8000000 in
theorem wakes_any (w : World) : Calls Try.prog 25 #[] w fun e W' => e = .returned (.bool true) ∧ Below w.heap.size w W' := by
  go_enter Try.func25, Try.ntmps25
  go_wp2_with fail
  refine (new_any _).mono ?_
  rintro e w0 ⟨rfl, hB0⟩
  have hT0 : Below w.heap.size w w0 := hB0
  go_wp2_with fail
  refine (add_val zeroM 2 0 mA 0 (by decide) _).mono ?_
  rintro e w1 ⟨rfl, hB1⟩
  have hT1 : Below w.heap.size w w1 := (hT0).trans (hB1.mono hT0.size)
  go_wp2_with fail
  refine (add_val mA 2 1 mB 0 (by decide) _).mono ?_
  rintro e w2 ⟨rfl, hB2⟩
  have hT2 : Below w.heap.size w w2 := (hT1.alloc hT1.size _).trans (hB2.mono (hT1.alloc hT1.size _).size)
  go_wp2_with fail
  refine (leave_val mB 0 mC 0 (by decide) _).mono ?_
  rintro e w3 ⟨rfl, hB3⟩
  have hT3 : Below w.heap.size w w3 := (hT2.alloc hT2.size _).trans (hB3.mono (hT2.alloc hT2.size _).size)
  go_wp2_with fail
  refine (leave_val mC 1 zeroM 200 (by decide) _).mono ?_
  rintro e w4 ⟨rfl, hB4⟩
  have hT4 : Below w.heap.size w w4 := (hT3.alloc hT3.size _).trans (hB4.mono (hT3.alloc hT3.size _).size)
  have hC := (Mx.new w3 mC).below hB4 (Mx.new w3 mC).lt
  obtain ⟨q1_0, q1_1, q1_2, q1_3, q1_4, q1_5, q1_6, q1_7, q1_8⟩ := hC.cs
  have ql1 := hC.lt
  go_wp2_with fail
  refine (leave_val mC 0 zeroM 202 (by decide) _).mono ?_
  clear q1_0 q1_1 q1_2 q1_3 q1_4 q1_5 q1_6 q1_7 q1_8 ql1
  rintro e w5 ⟨rfl, hB5⟩
  have hT5 : Below w.heap.size w w5 := (hT4.alloc hT4.size _).trans (hB5.mono (hT4.alloc hT4.size _).size)
  replace hC := (hC.alloc _).below hB5 (hC.alloc _).lt
  obtain ⟨q2_0, q2_1, q2_2, q2_3, q2_4, q2_5, q2_6, q2_7, q2_8⟩ := hC.cs
  have ql2 := hC.lt
  go_wp2_with fail
  refine (add_val mC 1 2 mD 0 (by decide) _).mono ?_
  clear q2_0 q2_1 q2_2 q2_3 q2_4 q2_5 q2_6 q2_7 q2_8 ql2
  rintro e w6 ⟨rfl, hB6⟩
  have hT6 : Below w.heap.size w w6 := (hT5.alloc hT5.size _).trans (hB6.mono (hT5.alloc hT5.size _).size)
  replace hC := (hC.alloc _).below hB6 (hC.alloc _).lt
  go_wp2_with fail
  refine (add_val mD 1 2 zeroM 201 (by decide) _).mono ?_
  rintro e w7 ⟨rfl, hB7⟩
  have hT7 : Below w.heap.size w w7 := (hT6.alloc hT6.size _).trans (hB7.mono (hT6.alloc hT6.size _).size)
  replace hC := (hC.alloc _).below hB7 (hC.alloc _).lt
  have hD := (Mx.new w6 mD).below hB7 (Mx.new w6 mD).lt
  obtain ⟨q3_0, q3_1, q3_2, q3_3, q3_4, q3_5, q3_6, q3_7, q3_8⟩ := hD.cs
  have ql3 := hD.lt
  go_wp2_with fail
  refine (kill_val mD 1 2 mK 0 (by decide) _).mono ?_
  clear q3_0 q3_1 q3_2 q3_3 q3_4 q3_5 q3_6 q3_7 q3_8 ql3
  rintro e w8 ⟨rfl, hB8⟩
  have hT8 : Below w.heap.size w w8 := (hT7.alloc hT7.size _).trans (hB8.mono (hT7.alloc hT7.size _).size)
  replace hC := (hC.alloc _).below hB8 (hC.alloc _).lt
  replace hD := (hD.alloc _).below hB8 (hD.alloc _).lt
  go_wp2_with fail
  refine (kill_val mK 1 2 zeroM 202 (by decide) _).mono ?_
  rintro e w9 ⟨rfl, hB9⟩
  have hT9 : Below w.heap.size w w9 := (hT8.alloc hT8.size _).trans (hB9.mono (hT8.alloc hT8.size _).size)
  replace hC := (hC.alloc _).below hB9 (hC.alloc _).lt
  replace hD := (hD.alloc _).below hB9 (hD.alloc _).lt
  have hK := (Mx.new w8 mK).below hB9 (Mx.new w8 mK).lt
  obtain ⟨q4_0, q4_1, q4_2, q4_3, q4_4, q4_5, q4_6, q4_7, q4_8⟩ := hD.cs
  have ql4 := hD.lt
  go_wp2_with fail
  refine (add_val mD 3 0 zeroM 2 (by decide) _).mono ?_
  clear q4_0 q4_1 q4_2 q4_3 q4_4 q4_5 q4_6 q4_7 q4_8 ql4
  rintro e w10 ⟨rfl, hB10⟩
  have hT10 : Below w.heap.size w w10 := (hT9.alloc hT9.size _).trans (hB10.mono (hT9.alloc hT9.size _).size)
  replace hC := (hC.alloc _).below hB10 (hC.alloc _).lt
  replace hD := (hD.alloc _).below hB10 (hD.alloc _).lt
  replace hK := (hK.alloc _).below hB10 (hK.alloc _).lt
  obtain ⟨q5_0, q5_1, q5_2, q5_3, q5_4, q5_5, q5_6, q5_7, q5_8⟩ := hC.cs
  have ql5 := hC.lt
  go_wp2_with fail
  refine (state_val mC 2 0 2 true (by decide) _).mono ?_
  clear q5_0 q5_1 q5_2 q5_3 q5_4 q5_5 q5_6 q5_7 q5_8 ql5
  rintro e w11 ⟨rfl, hB11⟩
  have hT11 : Below w.heap.size w w11 := (hT10.alloc hT10.size _).trans (hB11.mono (hT10.alloc hT10.size _).size)
  replace hC := (hC.alloc _).below hB11 (hC.alloc _).lt
  replace hD := (hD.alloc _).below hB11 (hD.alloc _).lt
  replace hK := (hK.alloc _).below hB11 (hK.alloc _).lt
  obtain ⟨q6_0, q6_1, q6_2, q6_3, q6_4, q6_5, q6_6, q6_7, q6_8⟩ := hC.cs
  have ql6 := hC.lt
  go_wp2_with fail
  refine (backends_val mC 3 (by decide) _).mono ?_
  clear q6_0 q6_1 q6_2 q6_3 q6_4 q6_5 q6_6 q6_7 q6_8 ql6
  rintro e w12 ⟨rfl, hB12⟩
  have hT12 : Below w.heap.size w w12 := hT11.trans (hB12.mono hT11.size)
  replace hC := hC.below hB12 hC.lt
  replace hD := hD.below hB12 hD.lt
  replace hK := hK.below hB12 hK.lt
  obtain ⟨q7_0, q7_1, q7_2, q7_3, q7_4, q7_5, q7_6, q7_7, q7_8⟩ := hC.cs
  have ql7 := hC.lt
  go_wp2_with fail
  refine (takers_val mC 2 (by decide) _).mono ?_
  clear q7_0 q7_1 q7_2 q7_3 q7_4 q7_5 q7_6 q7_7 q7_8 ql7
  rintro e w13 ⟨rfl, hB13⟩
  have hT13 : Below w.heap.size w w13 := hT12.trans (hB13.mono hT12.size)
  replace hC := hC.below hB13 hC.lt
  replace hD := hD.below hB13 hD.lt
  replace hK := hK.below hB13 hK.lt
  obtain ⟨q8_0, q8_1, q8_2, q8_3, q8_4, q8_5, q8_6, q8_7, q8_8⟩ := hD.cs
  have ql8 := hD.lt
  go_wp2_with fail
  refine (muxes_val mD 4 (by decide) _).mono ?_
  clear q8_0 q8_1 q8_2 q8_3 q8_4 q8_5 q8_6 q8_7 q8_8 ql8
  rintro e w14 ⟨rfl, hB14⟩
  have hT14 : Below w.heap.size w w14 := hT13.trans (hB14.mono hT13.size)
  replace hC := hC.below hB14 hC.lt
  replace hD := hD.below hB14 hD.lt
  replace hK := hK.below hB14 hK.lt
  obtain ⟨q9_0, q9_1, q9_2, q9_3, q9_4, q9_5, q9_6, q9_7, q9_8⟩ := hK.cs
  have ql9 := hK.lt
  go_wp2_with fail
  refine (muxes_val mK 0 (by decide) _).mono ?_
  clear q9_0 q9_1 q9_2 q9_3 q9_4 q9_5 q9_6 q9_7 q9_8 ql9
  rintro e w15 ⟨rfl, hB15⟩
  have hT15 : Below w.heap.size w w15 := hT14.trans (hB15.mono hT14.size)
  replace hC := hC.below hB15 hC.lt
  replace hD := hD.below hB15 hD.lt
  replace hK := hK.below hB15 hK.lt
  obtain ⟨q10_0, q10_1, q10_2, q10_3, q10_4, q10_5, q10_6, q10_7, q10_8⟩ := hD.cs
  have ql10 := hD.lt
  go_wp2_with fail
  refine (right_val mD true (by decide) _).mono ?_
  clear q10_0 q10_1 q10_2 q10_3 q10_4 q10_5 q10_6 q10_7 q10_8 ql10
  rintro e w16 ⟨rfl, hB16⟩
  have hT16 : Below w.heap.size w w16 := hT15.trans (hB16.mono hT15.size)
  replace hC := hC.below hB16 hC.lt
  replace hD := hD.below hB16 hD.lt
  replace hK := hK.below hB16 hK.lt
  go_wp2
  go_ret
  exact ⟨rfl, hT16⟩
end Go.Proofs.Ytigpdkbfailadaa
