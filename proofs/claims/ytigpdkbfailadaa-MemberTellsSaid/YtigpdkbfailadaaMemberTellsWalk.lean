/-
  The walk of the statement MemberTells (its drawn region printed by gen-tells20.py).
-/
import Derived.Test.YtigpdkbfailadaaRows
import Derived.Test.YtigpdkbfailadaaAppend
import Derived.Test.YtigpdkbfailadaaTail
import Derived.Shelf.Abstract
import Derived.Shelf.RegionOpen
import Derived.WalkKit
import Derived.OwnWalkIn
import Derived.TacticsInMore
import Derived.LoopNIn
import Derived.LoopIn
import Derived.WalkMore
import Derived.ScopeJumps
import Derived.Lib.Hide
import Derived.WalkSpells
import Derived.WalkLawsBesides
import Derived.Deep.QuietTactic
import Derived.BigQuiet
import Derived.Laws.Rows
import Derived.Test.YtigpdkbfailadaaMems
import Derived.Test.YtigpdkbfailadaaTake
import Derived.Test.YtigpdkbfailadaaSame
namespace Go.Proofs.Ytigpdkbfailadaa
open Go Go.RowKit Go.Shelf
set_option linter.unusedSimpArgs false
set_option linter.unusedVariables false
attribute [local go_sem] Oper.semAt_some

/-- The operations of the great statement. -/
noncomputable def R11 : Array Oper := opsOf Try.f3 11
theorem R11_s : Region.noSelect R11 = true := by kernel_rfl
theorem R11_f0 : Region.free .any R11 #[false, false, false, false, false, false, false, false, false, false, false, false, false, false, false, false, false, false, false, false, false, false, false, false, false, false, false, false, false, false] 0 = true := by kernel_rfl
theorem R11_c0 : (Region.ready .any R11 #[false, false, false, false, false, false, false, false, false, false, false, false, false, false, false, false, false, false, false, false, false, false, false, false, false, false, false, false, false, false]).contains 0 = true := by kernel_rfl
theorem R11_f2 : Region.free .any R11 #[true, false, false, false, false, false, false, false, false, false, false, false, false, false, false, false, false, false, false, false, false, false, false, false, false, false, false, false, false, false] 2 = true := by kernel_rfl
theorem R11_c2 : (Region.ready .any R11 #[true, false, false, false, false, false, false, false, false, false, false, false, false, false, false, false, false, false, false, false, false, false, false, false, false, false, false, false, false, false]).contains 2 = true := by kernel_rfl
theorem R11_r1 : Region.ready .any R11 #[true, false, true, false, false, false, false, false, false, false, false, false, false, false, false, false, false, false, false, false, false, false, false, false, false, false, false, false, false, false] = [1] := by kernel_rfl
theorem R11_r3 : Region.ready .any R11 #[true, true, true, false, false, false, false, false, false, false, false, false, false, false, false, false, false, false, false, false, false, false, false, false, false, false, false, false, false, false] = [3] := by kernel_rfl
theorem R11_f4 : Region.free .any R11 #[true, true, true, true, false, false, false, false, false, false, false, false, false, false, false, false, false, false, false, false, false, false, false, false, false, false, false, false, false, false] 4 = true := by kernel_rfl
theorem R11_c4 : (Region.ready .any R11 #[true, true, true, true, false, false, false, false, false, false, false, false, false, false, false, false, false, false, false, false, false, false, false, false, false, false, false, false, false, false]).contains 4 = true := by kernel_rfl
theorem R11_f5 : Region.free .any R11 #[true, true, true, true, true, false, false, false, false, false, false, false, false, false, false, false, false, false, false, false, false, false, false, false, false, false, false, false, false, false] 5 = true := by kernel_rfl
theorem R11_c5 : (Region.ready .any R11 #[true, true, true, true, true, false, false, false, false, false, false, false, false, false, false, false, false, false, false, false, false, false, false, false, false, false, false, false, false, false]).contains 5 = true := by kernel_rfl
theorem R11_f6 : Region.free .any R11 #[true, true, true, true, true, true, false, false, false, false, false, false, false, false, false, false, false, false, false, false, false, false, false, false, false, false, false, false, false, false] 6 = true := by kernel_rfl
theorem R11_c6 : (Region.ready .any R11 #[true, true, true, true, true, true, false, false, false, false, false, false, false, false, false, false, false, false, false, false, false, false, false, false, false, false, false, false, false, false]).contains 6 = true := by kernel_rfl
theorem R11_f8 : Region.free .any R11 #[true, true, true, true, true, true, true, false, false, false, false, false, false, false, false, false, false, false, false, false, false, false, false, false, false, false, false, false, false, false] 8 = true := by kernel_rfl
theorem R11_c8 : (Region.ready .any R11 #[true, true, true, true, true, true, true, false, false, false, false, false, false, false, false, false, false, false, false, false, false, false, false, false, false, false, false, false, false, false]).contains 8 = true := by kernel_rfl
theorem R11_r7 : Region.ready .any R11 #[true, true, true, true, true, true, true, false, true, false, false, false, false, false, false, false, false, false, false, false, false, false, false, false, false, false, false, false, false, false] = [7] := by kernel_rfl
theorem R11_r9 : Region.ready .any R11 #[true, true, true, true, true, true, true, true, true, false, false, false, false, false, false, false, false, false, false, false, false, false, false, false, false, false, false, false, false, false] = [9] := by kernel_rfl
theorem R11_f10 : Region.free .any R11 #[true, true, true, true, true, true, true, true, true, true, false, false, false, false, false, false, false, false, false, false, false, false, false, false, false, false, false, false, false, false] 10 = true := by kernel_rfl
theorem R11_c10 : (Region.ready .any R11 #[true, true, true, true, true, true, true, true, true, true, false, false, false, false, false, false, false, false, false, false, false, false, false, false, false, false, false, false, false, false]).contains 10 = true := by kernel_rfl
theorem R11_f11 : Region.free .any R11 #[true, true, true, true, true, true, true, true, true, true, true, false, false, false, false, false, false, false, false, false, false, false, false, false, false, false, false, false, false, false] 11 = true := by kernel_rfl
theorem R11_c11 : (Region.ready .any R11 #[true, true, true, true, true, true, true, true, true, true, true, false, false, false, false, false, false, false, false, false, false, false, false, false, false, false, false, false, false, false]).contains 11 = true := by kernel_rfl
theorem R11_f12 : Region.free .any R11 #[true, true, true, true, true, true, true, true, true, true, true, true, false, false, false, false, false, false, false, false, false, false, false, false, false, false, false, false, false, false] 12 = true := by kernel_rfl
theorem R11_c12 : (Region.ready .any R11 #[true, true, true, true, true, true, true, true, true, true, true, true, false, false, false, false, false, false, false, false, false, false, false, false, false, false, false, false, false, false]).contains 12 = true := by kernel_rfl
theorem R11_f13 : Region.free .any R11 #[true, true, true, true, true, true, true, true, true, true, true, true, true, false, false, false, false, false, false, false, false, false, false, false, false, false, false, false, false, false] 13 = true := by kernel_rfl
theorem R11_c13 : (Region.ready .any R11 #[true, true, true, true, true, true, true, true, true, true, true, true, true, false, false, false, false, false, false, false, false, false, false, false, false, false, false, false, false, false]).contains 13 = true := by kernel_rfl
theorem R11_f15 : Region.free .any R11 #[true, true, true, true, true, true, true, true, true, true, true, true, true, true, false, false, false, false, false, false, false, false, false, false, false, false, false, false, false, false] 15 = true := by kernel_rfl
theorem R11_c15 : (Region.ready .any R11 #[true, true, true, true, true, true, true, true, true, true, true, true, true, true, false, false, false, false, false, false, false, false, false, false, false, false, false, false, false, false]).contains 15 = true := by kernel_rfl
theorem R11_r14 : Region.ready .any R11 #[true, true, true, true, true, true, true, true, true, true, true, true, true, true, false, true, false, false, false, false, false, false, false, false, false, false, false, false, false, false] = [14] := by kernel_rfl
theorem R11_r16 : Region.ready .any R11 #[true, true, true, true, true, true, true, true, true, true, true, true, true, true, true, true, false, false, false, false, false, false, false, false, false, false, false, false, false, false] = [16] := by kernel_rfl
theorem R11_f17 : Region.free .any R11 #[true, true, true, true, true, true, true, true, true, true, true, true, true, true, true, true, true, false, false, false, false, false, false, false, false, false, false, false, false, false] 17 = true := by kernel_rfl
theorem R11_c17 : (Region.ready .any R11 #[true, true, true, true, true, true, true, true, true, true, true, true, true, true, true, true, true, false, false, false, false, false, false, false, false, false, false, false, false, false]).contains 17 = true := by kernel_rfl
theorem R11_f18 : Region.free .any R11 #[true, true, true, true, true, true, true, true, true, true, true, true, true, true, true, true, true, true, false, false, false, false, false, false, false, false, false, false, false, false] 18 = true := by kernel_rfl
theorem R11_c18 : (Region.ready .any R11 #[true, true, true, true, true, true, true, true, true, true, true, true, true, true, true, true, true, true, false, false, false, false, false, false, false, false, false, false, false, false]).contains 18 = true := by kernel_rfl
theorem R11_f19 : Region.free .any R11 #[true, true, true, true, true, true, true, true, true, true, true, true, true, true, true, true, true, true, true, false, false, false, false, false, false, false, false, false, false, false] 19 = true := by kernel_rfl
theorem R11_c19 : (Region.ready .any R11 #[true, true, true, true, true, true, true, true, true, true, true, true, true, true, true, true, true, true, true, false, false, false, false, false, false, false, false, false, false, false]).contains 19 = true := by kernel_rfl
theorem R11_f20 : Region.free .any R11 #[true, true, true, true, true, true, true, true, true, true, true, true, true, true, true, true, true, true, true, true, false, false, false, false, false, false, false, false, false, false] 20 = true := by kernel_rfl
theorem R11_c20 : (Region.ready .any R11 #[true, true, true, true, true, true, true, true, true, true, true, true, true, true, true, true, true, true, true, true, false, false, false, false, false, false, false, false, false, false]).contains 20 = true := by kernel_rfl
theorem R11_f22 : Region.free .any R11 #[true, true, true, true, true, true, true, true, true, true, true, true, true, true, true, true, true, true, true, true, true, false, false, false, false, false, false, false, false, false] 22 = true := by kernel_rfl
theorem R11_c22 : (Region.ready .any R11 #[true, true, true, true, true, true, true, true, true, true, true, true, true, true, true, true, true, true, true, true, true, false, false, false, false, false, false, false, false, false]).contains 22 = true := by kernel_rfl
theorem R11_r21 : Region.ready .any R11 #[true, true, true, true, true, true, true, true, true, true, true, true, true, true, true, true, true, true, true, true, true, false, true, false, false, false, false, false, false, false] = [21] := by kernel_rfl
theorem R11_r23 : Region.ready .any R11 #[true, true, true, true, true, true, true, true, true, true, true, true, true, true, true, true, true, true, true, true, true, true, true, false, false, false, false, false, false, false] = [23] := by kernel_rfl
theorem R11_f24 : Region.free .any R11 #[true, true, true, true, true, true, true, true, true, true, true, true, true, true, true, true, true, true, true, true, true, true, true, true, false, false, false, false, false, false] 24 = true := by kernel_rfl
theorem R11_c24 : (Region.ready .any R11 #[true, true, true, true, true, true, true, true, true, true, true, true, true, true, true, true, true, true, true, true, true, true, true, true, false, false, false, false, false, false]).contains 24 = true := by kernel_rfl
theorem R11_f25 : Region.free .any R11 #[true, true, true, true, true, true, true, true, true, true, true, true, true, true, true, true, true, true, true, true, true, true, true, true, true, false, false, false, false, false] 25 = true := by kernel_rfl
theorem R11_c25 : (Region.ready .any R11 #[true, true, true, true, true, true, true, true, true, true, true, true, true, true, true, true, true, true, true, true, true, true, true, true, true, false, false, false, false, false]).contains 25 = true := by kernel_rfl
theorem R11_f26 : Region.free .any R11 #[true, true, true, true, true, true, true, true, true, true, true, true, true, true, true, true, true, true, true, true, true, true, true, true, true, true, false, false, false, false] 26 = true := by kernel_rfl
theorem R11_c26 : (Region.ready .any R11 #[true, true, true, true, true, true, true, true, true, true, true, true, true, true, true, true, true, true, true, true, true, true, true, true, true, true, false, false, false, false]).contains 26 = true := by kernel_rfl
theorem R11_r27 : Region.ready .any R11 #[true, true, true, true, true, true, true, true, true, true, true, true, true, true, true, true, true, true, true, true, true, true, true, true, true, true, true, false, false, false] = [27] := by kernel_rfl
theorem R11_f28 : Region.free .any R11 #[true, true, true, true, true, true, true, true, true, true, true, true, true, true, true, true, true, true, true, true, true, true, true, true, true, true, true, true, false, false] 28 = true := by kernel_rfl
theorem R11_c28 : (Region.ready .any R11 #[true, true, true, true, true, true, true, true, true, true, true, true, true, true, true, true, true, true, true, true, true, true, true, true, true, true, true, true, false, false]).contains 28 = true := by kernel_rfl
theorem R11_f29 : Region.free .any R11 #[true, true, true, true, true, true, true, true, true, true, true, true, true, true, true, true, true, true, true, true, true, true, true, true, true, true, true, true, true, false] 29 = true := by kernel_rfl
theorem R11_c29 : (Region.ready .any R11 #[true, true, true, true, true, true, true, true, true, true, true, true, true, true, true, true, true, true, true, true, true, true, true, true, true, true, true, true, true, false]).contains 29 = true := by kernel_rfl

set_option maxRecDepth 100000 in
set_option maxHeartbeats 8000000 in
theorem memberTells_any (m : Mm) (k id n : Int) (w : World) : Calls Try.prog 3 #[mv m, nv k id, .int .i64 n] w fun e W' => e = .returned (.bool true) ∧ Below w.heap.size w W' := by
  have hM : Mx ((w.alloc (.cells (mcells m) 25)).alloc (.cells #[.int .u8 k, .int .i64 id] 27)) w.heap.size m := (Mx.new w m).alloc _
  have hN : Nx ((w.alloc (.cells (mcells m) 25)).alloc (.cells #[.int .u8 k, .int .i64 id] 27)) (w.heap.size + 1) k id := by
    have h := World.alloc_heap_new (w.alloc (.cells (mcells m) 25)) (.cells #[.int .u8 k, .int .i64 id] 27)
    rw [World.size_alloc] at h
    exact h
  have hT : Below w.heap.size w ((w.alloc (.cells (mcells m) 25)).alloc (.cells #[.int .u8 k, .int .i64 id] 27)) := ((Below.refl _ w).alloc (Nat.le_refl _) _).alloc (by simp) _
  have HA := hide (fun W => add_any m k id W)
  have HRA := hide (fun W => refAdd_any m k id W)
  have HK := hide (fun W => kill_any m k id W)
  have HRK := hide (fun W => refKill_any m k id W)
  have HL := hide (fun W => leave_any m n W)
  have HRL := hide (fun W => refLeave_any m n W)
  have HS := hide (fun W => state_any m k id W)
  have HRS := hide (fun W => refState_any m k id W)
  obtain ⟨⟨mA, vA⟩, hd⟩ : ∃ d, deedM addF m k id = d := ⟨_, rfl⟩
  rw [hd] at HA HRA
  clear hd
  obtain ⟨⟨mK, vK⟩, hd⟩ : ∃ d, deedM killF m k id = d := ⟨_, rfl⟩
  rw [hd] at HK HRK
  clear hd
  obtain ⟨⟨mL, vL⟩, hd⟩ : ∃ d, deedM leaveF m 2 n = d := ⟨_, rfl⟩
  rw [hd] at HL HRL
  clear hd
  obtain ⟨⟨s, ok⟩, hd⟩ : ∃ d, stateM m k id = d := ⟨_, rfl⟩
  rw [hd] at HS HRS
  clear hd
  have E22 := eq22
  have E23 := eq23
  go_enter Try.func3, Try.ntmps3
  go_wp2_with fail
  refine (HA.out _).mono ?_
  rintro e w1 ⟨rfl, hB1⟩
  replace hM := hM.below hB1 hM.lt
  replace hN := hN.below hB1 hN.lt
  replace hT := hT.trans (hB1.mono (by simp; omega))
  obtain ⟨q0, q1, q2, q3, q4, q5, q6, q7, q8⟩ := hM.cs
  have n0 := hN.c0
  have n1 := hN.c1
  have ql := hM.lt
  have nl := hN.lt
  go_wp2_with fail
  refine (HRA.out _).mono ?_
  clear q0 q1 q2 q3 q4 q5 q6 q7 q8
  clear n0 n1 ql nl
  rintro e w2 ⟨rfl, hB2⟩
  replace hM := (hM.alloc _).below hB2 (hM.alloc _).lt
  replace hN := (hN.alloc _).below hB2 (hN.alloc _).lt
  have hR1 := (Mx.new w1 mA).below hB2 (Mx.new w1 mA).lt
  replace hT := (hT.alloc hT.size _).trans (hB2.mono (hT.alloc hT.size _).size)
  obtain ⟨q0, q1, q2, q3, q4, q5, q6, q7, q8⟩ := hM.cs
  have n0 := hN.c0
  have n1 := hN.c1
  have ql := hM.lt
  have nl := hN.lt
  go_wp2_with fail
  refine (HL.out _).mono ?_
  clear q0 q1 q2 q3 q4 q5 q6 q7 q8
  clear n0 n1 ql nl
  rintro e w3 ⟨rfl, hB3⟩
  replace hM := (hM.alloc _).below hB3 (hM.alloc _).lt
  replace hN := (hN.alloc _).below hB3 (hN.alloc _).lt
  replace hR1 := (hR1.alloc _).below hB3 (hR1.alloc _).lt
  have hR2 := (Mx.new w2 mA).below hB3 (Mx.new w2 mA).lt
  replace hT := (hT.alloc hT.size _).trans (hB3.mono (hT.alloc hT.size _).size)
  obtain ⟨q0, q1, q2, q3, q4, q5, q6, q7, q8⟩ := hM.cs
  have n0 := hN.c0
  have n1 := hN.c1
  have ql := hM.lt
  have nl := hN.lt
  go_wp2_with fail
  refine (HRL.out _).mono ?_
  clear q0 q1 q2 q3 q4 q5 q6 q7 q8
  clear n0 n1 ql nl
  rintro e w4 ⟨rfl, hB4⟩
  replace hM := (hM.alloc _).below hB4 (hM.alloc _).lt
  replace hN := (hN.alloc _).below hB4 (hN.alloc _).lt
  replace hR1 := (hR1.alloc _).below hB4 (hR1.alloc _).lt
  replace hR2 := (hR2.alloc _).below hB4 (hR2.alloc _).lt
  have hR3 := (Mx.new w3 mL).below hB4 (Mx.new w3 mL).lt
  replace hT := (hT.alloc hT.size _).trans (hB4.mono (hT.alloc hT.size _).size)
  obtain ⟨q0, q1, q2, q3, q4, q5, q6, q7, q8⟩ := hM.cs
  have n0 := hN.c0
  have n1 := hN.c1
  have ql := hM.lt
  have nl := hN.lt
  go_wp2_with fail
  refine (HK.out _).mono ?_
  clear q0 q1 q2 q3 q4 q5 q6 q7 q8
  clear n0 n1 ql nl
  rintro e w5 ⟨rfl, hB5⟩
  replace hM := (hM.alloc _).below hB5 (hM.alloc _).lt
  replace hN := (hN.alloc _).below hB5 (hN.alloc _).lt
  replace hR1 := (hR1.alloc _).below hB5 (hR1.alloc _).lt
  replace hR2 := (hR2.alloc _).below hB5 (hR2.alloc _).lt
  replace hR3 := (hR3.alloc _).below hB5 (hR3.alloc _).lt
  have hR4 := (Mx.new w4 mL).below hB5 (Mx.new w4 mL).lt
  replace hT := (hT.alloc hT.size _).trans (hB5.mono (hT.alloc hT.size _).size)
  obtain ⟨q0, q1, q2, q3, q4, q5, q6, q7, q8⟩ := hM.cs
  have n0 := hN.c0
  have n1 := hN.c1
  have ql := hM.lt
  have nl := hN.lt
  go_wp2_with fail
  refine (HRK.out _).mono ?_
  clear q0 q1 q2 q3 q4 q5 q6 q7 q8
  clear n0 n1 ql nl
  rintro e w6 ⟨rfl, hB6⟩
  replace hM := (hM.alloc _).below hB6 (hM.alloc _).lt
  replace hN := (hN.alloc _).below hB6 (hN.alloc _).lt
  replace hR1 := (hR1.alloc _).below hB6 (hR1.alloc _).lt
  replace hR2 := (hR2.alloc _).below hB6 (hR2.alloc _).lt
  replace hR3 := (hR3.alloc _).below hB6 (hR3.alloc _).lt
  replace hR4 := (hR4.alloc _).below hB6 (hR4.alloc _).lt
  have hR5 := (Mx.new w5 mK).below hB6 (Mx.new w5 mK).lt
  replace hT := (hT.alloc hT.size _).trans (hB6.mono (hT.alloc hT.size _).size)
  obtain ⟨q0, q1, q2, q3, q4, q5, q6, q7, q8⟩ := hM.cs
  have n0 := hN.c0
  have n1 := hN.c1
  have ql := hM.lt
  have nl := hN.lt
  go_wp2_with fail
  refine (HS.out _).mono ?_
  clear q0 q1 q2 q3 q4 q5 q6 q7 q8
  clear n0 n1 ql nl
  rintro e w7 ⟨rfl, hB7⟩
  replace hM := (hM.alloc _).below hB7 (hM.alloc _).lt
  replace hN := (hN.alloc _).below hB7 (hN.alloc _).lt
  replace hR1 := (hR1.alloc _).below hB7 (hR1.alloc _).lt
  replace hR2 := (hR2.alloc _).below hB7 (hR2.alloc _).lt
  replace hR3 := (hR3.alloc _).below hB7 (hR3.alloc _).lt
  replace hR4 := (hR4.alloc _).below hB7 (hR4.alloc _).lt
  replace hR5 := (hR5.alloc _).below hB7 (hR5.alloc _).lt
  have hR6 := (Mx.new w6 mK).below hB7 (Mx.new w6 mK).lt
  replace hT := (hT.alloc hT.size _).trans (hB7.mono (hT.alloc hT.size _).size)
  obtain ⟨q0, q1, q2, q3, q4, q5, q6, q7, q8⟩ := hM.cs
  have n0 := hN.c0
  have n1 := hN.c1
  have ql := hM.lt
  have nl := hN.lt
  go_wp2_with fail
  refine (HRS.out _).mono ?_
  clear q0 q1 q2 q3 q4 q5 q6 q7 q8
  clear n0 n1 ql nl
  rintro e w8 ⟨rfl, hB8⟩
  replace hM := (hM).below hB8 (hM).lt
  replace hN := (hN).below hB8 (hN).lt
  replace hR1 := (hR1).below hB8 (hR1).lt
  replace hR2 := (hR2).below hB8 (hR2).lt
  replace hR3 := (hR3).below hB8 (hR3).lt
  replace hR4 := (hR4).below hB8 (hR4).lt
  replace hR5 := (hR5).below hB8 (hR5).lt
  replace hR6 := (hR6).below hB8 (hR6).lt
  replace hT := hT.trans (hB8.mono hT.size)
  obtain ⟨q0, q1, q2, q3, q4, q5, q6, q7, q8⟩ := hM.cs
  have n0 := hN.c0
  have n1 := hN.c1
  have ql := hM.lt
  have nl := hN.lt
  obtain ⟨r0_0, r0_1, r0_2, r0_3, r0_4, r0_5, r0_6, r0_7, r0_8⟩ := hR1.cs
  obtain ⟨r1_0, r1_1, r1_2, r1_3, r1_4, r1_5, r1_6, r1_7, r1_8⟩ := hR2.cs
  obtain ⟨r2_0, r2_1, r2_2, r2_3, r2_4, r2_5, r2_6, r2_7, r2_8⟩ := hR3.cs
  obtain ⟨r3_0, r3_1, r3_2, r3_3, r3_4, r3_5, r3_6, r3_7, r3_8⟩ := hR4.cs
  obtain ⟨r4_0, r4_1, r4_2, r4_3, r4_4, r4_5, r4_6, r4_7, r4_8⟩ := hR5.cs
  obtain ⟨r5_0, r5_1, r5_2, r5_3, r5_4, r5_5, r5_6, r5_7, r5_8⟩ := hR6.cs
  go_wp2_with fail
  refine (new_any _).mono ?_
  clear r0_0 r0_1 r0_2 r0_3 r0_4 r0_5 r0_6 r0_7 r0_8
  clear r1_0 r1_1 r1_2 r1_3 r1_4 r1_5 r1_6 r1_7 r1_8
  clear r2_0 r2_1 r2_2 r2_3 r2_4 r2_5 r2_6 r2_7 r2_8
  clear r3_0 r3_1 r3_2 r3_3 r3_4 r3_5 r3_6 r3_7 r3_8
  clear r4_0 r4_1 r4_2 r4_3 r4_4 r4_5 r4_6 r4_7 r4_8
  clear r5_0 r5_1 r5_2 r5_3 r5_4 r5_5 r5_6 r5_7 r5_8
  clear q0 q1 q2 q3 q4 q5 q6 q7 q8
  clear n0 n1 ql nl
  rintro e w9 ⟨rfl, hB9⟩
  replace hM := hM.below hB9 hM.lt
  replace hT := hT.trans (hB9.mono hT.size)
  go_wp2_with fail
  refine (refNew_any _).mono ?_
  rintro e w10 ⟨rfl, hB10⟩
  replace hM := hM.below hB10 hM.lt
  replace hT := hT.trans (hB10.mono hT.size)
  go_wp2_with fail
  replace hM : Mh m w w10 := ⟨hM, hT⟩
  refine region_as (R := R11) (by kernel_rfl) ?_
  refine wp_region_held_drew (S := Mh m w) (by kernel_rfl) ?_ (fun hHeld => ?_)
  · exact hM.drewN 1
  refine listed_as (L := #[false, false, false, false, false, false, false, false, false, false, false, false, false, false, false, false, false, false, false, false, false, false, false, false, false, false, false, false, false, false]) (by kernel_rfl) ?_
  refine take_bare (i := 0) (some 114) (Go.Op.load 25 (Go.Operand.tmp 3)) 25 #[true, false, false, false, false, false, false, false, false, false, false, false, false, false, false, false, false, false, false, false, false, false, false, false, false, false, false, false, false, false] (v := (mv m)) hHeld rfl (by kernel_rfl) (by kernel_rfl) (by kernel_rfl) (by kernel_rfl) R11_s R11_f0 R11_c0 (by kernel_rfl) (fun _ _ _ h => h) (fun W hS => run_load_mx (s := 3) (by kernel_rfl) (by kernel_rfl) hS.1) ?_
  try simp only [Act.put, List.setIfInBounds_toArray, List.set_cons_zero, List.set_cons_succ]
  refine take_bare (i := 2) (some 116) (Go.Op.load 25 (Go.Operand.tmp 3)) 25 #[true, false, true, false, false, false, false, false, false, false, false, false, false, false, false, false, false, false, false, false, false, false, false, false, false, false, false, false, false, false] (v := (mv m)) hHeld rfl (by kernel_rfl) (by kernel_rfl) (by kernel_rfl) (by kernel_rfl) R11_s R11_f2 R11_c2 (by kernel_rfl) (fun _ _ _ h => h) (fun W hS => run_load_mx (s := 3) (by kernel_rfl) (by kernel_rfl) hS.1) ?_
  try simp only [Act.put, List.setIfInBounds_toArray, List.set_cons_zero, List.set_cons_succ]
  refine step_bare (i := 1) (some 115) (Go.Op.call { callee := Go.Callee.value (Go.Operand.func 17), args := #[Go.Operand.tmp 114], argTypes := #[25] }) 4 #[true, true, true, false, false, false, false, false, false, false, false, false, false, false, false, false, false, false, false, false, false, false, false, false, false, false, false, false, false, false] R11_r1 rfl (by kernel_rfl) (by kernel_rfl) (by kernel_rfl) (by kernel_rfl) (by kernel_rfl) (fun K hK => ?_)
  go_simp
  (with_reducible refine (right_any m _).mono ?_)
  rintro e v1 ⟨rfl, hC1⟩
  go_simp
  refine hK.out _ _ ?_ (fun hHeld => ?_)
  · exact hHeld.below hC1
  clear hK K
  try simp only [Act.put, List.setIfInBounds_toArray, List.set_cons_zero, List.set_cons_succ]
  refine step_bare (i := 3) (some 117) (Go.Op.call { callee := Go.Callee.value (Go.Operand.func 18), args := #[Go.Operand.tmp 116], argTypes := #[25] }) 4 #[true, true, true, true, false, false, false, false, false, false, false, false, false, false, false, false, false, false, false, false, false, false, false, false, false, false, false, false, false, false] R11_r3 rfl (by kernel_rfl) (by kernel_rfl) (by kernel_rfl) (by kernel_rfl) (by kernel_rfl) (fun K hK => ?_)
  go_simp
  (with_reducible refine (refRight_any m _).mono ?_)
  rintro e v3 ⟨rfl, hC3⟩
  go_simp
  refine hK.out _ _ ?_ (fun hHeld => ?_)
  · exact hHeld.below hC3
  clear hK K
  try simp only [Act.put, List.setIfInBounds_toArray, List.set_cons_zero, List.set_cons_succ]
  refine take_bare (i := 4) (some 118) (Go.Op.binOp Go.BinOp.eql 4 (Go.Operand.tmp 115) (Go.Operand.tmp 117) 4) 4 #[true, true, true, true, true, false, false, false, false, false, false, false, false, false, false, false, false, false, false, false, false, false, false, false, false, false, false, false, false, false] (v := ?_) hHeld rfl (by kernel_rfl) (by kernel_rfl) (by kernel_rfl) (by kernel_rfl) R11_s R11_f4 R11_c4 (by kernel_rfl) (fun _ _ _ h => h) ?hyt4_3 ?_
  case hyt4_3 => intro w hSw; clear hSw; go_simp; try with_reducible rfl
  try simp only [Act.put, List.setIfInBounds_toArray, List.set_cons_zero, List.set_cons_succ]
  refine take_bare (i := 5) (some 119) (Go.Op.move (Go.Operand.tmp 118)) 4 #[true, true, true, true, true, true, false, false, false, false, false, false, false, false, false, false, false, false, false, false, false, false, false, false, false, false, false, false, false, false] (v := ?_) hHeld rfl (by kernel_rfl) (by kernel_rfl) (by kernel_rfl) (by kernel_rfl) R11_s R11_f5 R11_c5 (by kernel_rfl) (fun _ _ _ h => h) ?hyt5_4 ?_
  case hyt5_4 => intro w hSw; clear hSw; go_simp; try with_reducible rfl
  try simp only [Act.put, List.setIfInBounds_toArray, List.set_cons_zero, List.set_cons_succ]
  refine take_bare (i := 6) (some 120) (Go.Op.load 25 (Go.Operand.tmp 3)) 25 #[true, true, true, true, true, true, true, false, false, false, false, false, false, false, false, false, false, false, false, false, false, false, false, false, false, false, false, false, false, false] (v := (mv m)) hHeld rfl (by kernel_rfl) (by kernel_rfl) (by kernel_rfl) (by kernel_rfl) R11_s R11_f6 R11_c6 (by kernel_rfl) (fun _ _ _ h => h) (fun W hS => run_load_mx (s := 3) (by kernel_rfl) (by kernel_rfl) hS.1) ?_
  try simp only [Act.put, List.setIfInBounds_toArray, List.set_cons_zero, List.set_cons_succ]
  refine take_bare (i := 8) (some 122) (Go.Op.load 25 (Go.Operand.tmp 3)) 25 #[true, true, true, true, true, true, true, false, true, false, false, false, false, false, false, false, false, false, false, false, false, false, false, false, false, false, false, false, false, false] (v := (mv m)) hHeld rfl (by kernel_rfl) (by kernel_rfl) (by kernel_rfl) (by kernel_rfl) R11_s R11_f8 R11_c8 (by kernel_rfl) (fun _ _ _ h => h) (fun W hS => run_load_mx (s := 3) (by kernel_rfl) (by kernel_rfl) hS.1) ?_
  try simp only [Act.put, List.setIfInBounds_toArray, List.set_cons_zero, List.set_cons_succ]
  refine step_bare (i := 7) (some 121) (Go.Op.call { callee := Go.Callee.value (Go.Operand.func 19), args := #[Go.Operand.tmp 120], argTypes := #[25] }) 5 #[true, true, true, true, true, true, true, true, true, false, false, false, false, false, false, false, false, false, false, false, false, false, false, false, false, false, false, false, false, false] R11_r7 rfl (by kernel_rfl) (by kernel_rfl) (by kernel_rfl) (by kernel_rfl) (by kernel_rfl) (fun K hK => ?_)
  go_simp
  (with_reducible refine (backends_any m _).mono ?_)
  rintro e v7 ⟨rfl, hC7⟩
  go_simp
  refine hK.out _ _ ?_ (fun hHeld => ?_)
  · exact hHeld.below hC7
  clear hK K
  try simp only [Act.put, List.setIfInBounds_toArray, List.set_cons_zero, List.set_cons_succ]
  refine step_bare (i := 9) (some 123) (Go.Op.call { callee := Go.Callee.value (Go.Operand.func 20), args := #[Go.Operand.tmp 122], argTypes := #[25] }) 5 #[true, true, true, true, true, true, true, true, true, true, false, false, false, false, false, false, false, false, false, false, false, false, false, false, false, false, false, false, false, false] R11_r9 rfl (by kernel_rfl) (by kernel_rfl) (by kernel_rfl) (by kernel_rfl) (by kernel_rfl) (fun K hK => ?_)
  go_simp
  (with_reducible refine (refBackends_any m _).mono ?_)
  rintro e v9 ⟨rfl, hC9⟩
  go_simp
  refine hK.out _ _ ?_ (fun hHeld => ?_)
  · exact hHeld.below hC9
  clear hK K
  try simp only [Act.put, List.setIfInBounds_toArray, List.set_cons_zero, List.set_cons_succ]
  refine take_bare (i := 10) (some 124) (Go.Op.binOp Go.BinOp.eql 5 (Go.Operand.tmp 121) (Go.Operand.tmp 123) 5) 4 #[true, true, true, true, true, true, true, true, true, true, true, false, false, false, false, false, false, false, false, false, false, false, false, false, false, false, false, false, false, false] (v := ?_) hHeld rfl (by kernel_rfl) (by kernel_rfl) (by kernel_rfl) (by kernel_rfl) R11_s R11_f10 R11_c10 (by kernel_rfl) (fun _ _ _ h => h) ?hyt10_7 ?_
  case hyt10_7 => intro w hSw; clear hSw; go_simp; try with_reducible rfl
  try simp only [Act.put, List.setIfInBounds_toArray, List.set_cons_zero, List.set_cons_succ]
  refine take_bare (i := 11) (some 125) (Go.Op.pick (Go.Operand.tmp 119) (Go.Operand.tmp 124) (Go.Operand.const (Go.Value.bool false))) 4 #[true, true, true, true, true, true, true, true, true, true, true, true, false, false, false, false, false, false, false, false, false, false, false, false, false, false, false, false, false, false] (v := ?_) hHeld rfl (by kernel_rfl) (by kernel_rfl) (by kernel_rfl) (by kernel_rfl) R11_s R11_f11 R11_c11 (by kernel_rfl) (fun _ _ _ h => h) ?hyt11_8 ?_
  case hyt11_8 => intro w hSw; clear hSw; go_simp; try with_reducible rfl
  try simp only [Act.put, List.setIfInBounds_toArray, List.set_cons_zero, List.set_cons_succ]
  refine take_bare (i := 12) (some 126) (Go.Op.move (Go.Operand.tmp 125)) 4 #[true, true, true, true, true, true, true, true, true, true, true, true, true, false, false, false, false, false, false, false, false, false, false, false, false, false, false, false, false, false] (v := ?_) hHeld rfl (by kernel_rfl) (by kernel_rfl) (by kernel_rfl) (by kernel_rfl) R11_s R11_f12 R11_c12 (by kernel_rfl) (fun _ _ _ h => h) ?hyt12_9 ?_
  case hyt12_9 => intro w hSw; clear hSw; go_simp; try with_reducible rfl
  try simp only [Act.put, List.setIfInBounds_toArray, List.set_cons_zero, List.set_cons_succ]
  refine take_bare (i := 13) (some 127) (Go.Op.load 25 (Go.Operand.tmp 3)) 25 #[true, true, true, true, true, true, true, true, true, true, true, true, true, true, false, false, false, false, false, false, false, false, false, false, false, false, false, false, false, false] (v := (mv m)) hHeld rfl (by kernel_rfl) (by kernel_rfl) (by kernel_rfl) (by kernel_rfl) R11_s R11_f13 R11_c13 (by kernel_rfl) (fun _ _ _ h => h) (fun W hS => run_load_mx (s := 3) (by kernel_rfl) (by kernel_rfl) hS.1) ?_
  try simp only [Act.put, List.setIfInBounds_toArray, List.set_cons_zero, List.set_cons_succ]
  refine take_bare (i := 15) (some 129) (Go.Op.load 25 (Go.Operand.tmp 3)) 25 #[true, true, true, true, true, true, true, true, true, true, true, true, true, true, false, true, false, false, false, false, false, false, false, false, false, false, false, false, false, false] (v := (mv m)) hHeld rfl (by kernel_rfl) (by kernel_rfl) (by kernel_rfl) (by kernel_rfl) R11_s R11_f15 R11_c15 (by kernel_rfl) (fun _ _ _ h => h) (fun W hS => run_load_mx (s := 3) (by kernel_rfl) (by kernel_rfl) hS.1) ?_
  try simp only [Act.put, List.setIfInBounds_toArray, List.set_cons_zero, List.set_cons_succ]
  refine step_bare (i := 14) (some 128) (Go.Op.call { callee := Go.Callee.value (Go.Operand.func 21), args := #[Go.Operand.tmp 127], argTypes := #[25] }) 5 #[true, true, true, true, true, true, true, true, true, true, true, true, true, true, true, true, false, false, false, false, false, false, false, false, false, false, false, false, false, false] R11_r14 rfl (by kernel_rfl) (by kernel_rfl) (by kernel_rfl) (by kernel_rfl) (by kernel_rfl) (fun K hK => ?_)
  go_simp
  (with_reducible refine (takers_any m _).mono ?_)
  rintro e v14 ⟨rfl, hC14⟩
  go_simp
  refine hK.out _ _ ?_ (fun hHeld => ?_)
  · exact hHeld.below hC14
  clear hK K
  try simp only [Act.put, List.setIfInBounds_toArray, List.set_cons_zero, List.set_cons_succ]
  refine step_bare (i := 16) (some 130) (Go.Op.call { callee := Go.Callee.value (Go.Operand.func 22), args := #[Go.Operand.tmp 129], argTypes := #[25] }) 5 #[true, true, true, true, true, true, true, true, true, true, true, true, true, true, true, true, true, false, false, false, false, false, false, false, false, false, false, false, false, false] R11_r16 rfl (by kernel_rfl) (by kernel_rfl) (by kernel_rfl) (by kernel_rfl) (by kernel_rfl) (fun K hK => ?_)
  go_simp
  (with_reducible refine (refTakers_any m _).mono ?_)
  rintro e v16 ⟨rfl, hC16⟩
  go_simp
  refine hK.out _ _ ?_ (fun hHeld => ?_)
  · exact hHeld.below hC16
  clear hK K
  try simp only [Act.put, List.setIfInBounds_toArray, List.set_cons_zero, List.set_cons_succ]
  refine take_bare (i := 17) (some 131) (Go.Op.binOp Go.BinOp.eql 5 (Go.Operand.tmp 128) (Go.Operand.tmp 130) 5) 4 #[true, true, true, true, true, true, true, true, true, true, true, true, true, true, true, true, true, true, false, false, false, false, false, false, false, false, false, false, false, false] (v := ?_) hHeld rfl (by kernel_rfl) (by kernel_rfl) (by kernel_rfl) (by kernel_rfl) R11_s R11_f17 R11_c17 (by kernel_rfl) (fun _ _ _ h => h) ?hyt17_12 ?_
  case hyt17_12 => intro w hSw; clear hSw; go_simp; try with_reducible rfl
  try simp only [Act.put, List.setIfInBounds_toArray, List.set_cons_zero, List.set_cons_succ]
  refine take_bare (i := 18) (some 132) (Go.Op.pick (Go.Operand.tmp 126) (Go.Operand.tmp 131) (Go.Operand.const (Go.Value.bool false))) 4 #[true, true, true, true, true, true, true, true, true, true, true, true, true, true, true, true, true, true, true, false, false, false, false, false, false, false, false, false, false, false] (v := ?_) hHeld rfl (by kernel_rfl) (by kernel_rfl) (by kernel_rfl) (by kernel_rfl) R11_s R11_f18 R11_c18 (by kernel_rfl) (fun _ _ _ h => h) ?hyt18_13 ?_
  case hyt18_13 => intro w hSw; clear hSw; go_simp; try with_reducible rfl
  try simp only [Act.put, List.setIfInBounds_toArray, List.set_cons_zero, List.set_cons_succ]
  refine take_bare (i := 19) (some 133) (Go.Op.move (Go.Operand.tmp 132)) 4 #[true, true, true, true, true, true, true, true, true, true, true, true, true, true, true, true, true, true, true, true, false, false, false, false, false, false, false, false, false, false] (v := ?_) hHeld rfl (by kernel_rfl) (by kernel_rfl) (by kernel_rfl) (by kernel_rfl) R11_s R11_f19 R11_c19 (by kernel_rfl) (fun _ _ _ h => h) ?hyt19_14 ?_
  case hyt19_14 => intro w hSw; clear hSw; go_simp; try with_reducible rfl
  try simp only [Act.put, List.setIfInBounds_toArray, List.set_cons_zero, List.set_cons_succ]
  refine take_bare (i := 20) (some 134) (Go.Op.load 25 (Go.Operand.tmp 3)) 25 #[true, true, true, true, true, true, true, true, true, true, true, true, true, true, true, true, true, true, true, true, true, false, false, false, false, false, false, false, false, false] (v := (mv m)) hHeld rfl (by kernel_rfl) (by kernel_rfl) (by kernel_rfl) (by kernel_rfl) R11_s R11_f20 R11_c20 (by kernel_rfl) (fun _ _ _ h => h) (fun W hS => run_load_mx (s := 3) (by kernel_rfl) (by kernel_rfl) hS.1) ?_
  try simp only [Act.put, List.setIfInBounds_toArray, List.set_cons_zero, List.set_cons_succ]
  refine take_bare (i := 22) (some 136) (Go.Op.load 25 (Go.Operand.tmp 3)) 25 #[true, true, true, true, true, true, true, true, true, true, true, true, true, true, true, true, true, true, true, true, true, false, true, false, false, false, false, false, false, false] (v := (mv m)) hHeld rfl (by kernel_rfl) (by kernel_rfl) (by kernel_rfl) (by kernel_rfl) R11_s R11_f22 R11_c22 (by kernel_rfl) (fun _ _ _ h => h) (fun W hS => run_load_mx (s := 3) (by kernel_rfl) (by kernel_rfl) hS.1) ?_
  try simp only [Act.put, List.setIfInBounds_toArray, List.set_cons_zero, List.set_cons_succ]
  refine step_bare (i := 21) (some 135) (Go.Op.call { callee := Go.Callee.value (Go.Operand.func 23), args := #[Go.Operand.tmp 134], argTypes := #[25] }) 5 #[true, true, true, true, true, true, true, true, true, true, true, true, true, true, true, true, true, true, true, true, true, true, true, false, false, false, false, false, false, false] R11_r21 rfl (by kernel_rfl) (by kernel_rfl) (by kernel_rfl) (by kernel_rfl) (by kernel_rfl) (fun K hK => ?_)
  go_simp
  (with_reducible refine (muxes_any m _).mono ?_)
  rintro e v21 ⟨rfl, hC21⟩
  go_simp
  refine hK.out _ _ ?_ (fun hHeld => ?_)
  · exact hHeld.below hC21
  clear hK K
  try simp only [Act.put, List.setIfInBounds_toArray, List.set_cons_zero, List.set_cons_succ]
  refine step_bare (i := 23) (some 137) (Go.Op.call { callee := Go.Callee.value (Go.Operand.func 24), args := #[Go.Operand.tmp 136], argTypes := #[25] }) 5 #[true, true, true, true, true, true, true, true, true, true, true, true, true, true, true, true, true, true, true, true, true, true, true, true, false, false, false, false, false, false] R11_r23 rfl (by kernel_rfl) (by kernel_rfl) (by kernel_rfl) (by kernel_rfl) (by kernel_rfl) (fun K hK => ?_)
  go_simp
  (with_reducible refine (refMuxes_any m _).mono ?_)
  rintro e v23 ⟨rfl, hC23⟩
  go_simp
  refine hK.out _ _ ?_ (fun hHeld => ?_)
  · exact hHeld.below hC23
  clear hK K
  try simp only [Act.put, List.setIfInBounds_toArray, List.set_cons_zero, List.set_cons_succ]
  refine take_bare (i := 24) (some 138) (Go.Op.binOp Go.BinOp.eql 5 (Go.Operand.tmp 135) (Go.Operand.tmp 137) 5) 4 #[true, true, true, true, true, true, true, true, true, true, true, true, true, true, true, true, true, true, true, true, true, true, true, true, true, false, false, false, false, false] (v := ?_) hHeld rfl (by kernel_rfl) (by kernel_rfl) (by kernel_rfl) (by kernel_rfl) R11_s R11_f24 R11_c24 (by kernel_rfl) (fun _ _ _ h => h) ?hyt24_17 ?_
  case hyt24_17 => intro w hSw; clear hSw; go_simp; try with_reducible rfl
  try simp only [Act.put, List.setIfInBounds_toArray, List.set_cons_zero, List.set_cons_succ]
  refine take_bare (i := 25) (some 139) (Go.Op.pick (Go.Operand.tmp 133) (Go.Operand.tmp 138) (Go.Operand.const (Go.Value.bool false))) 4 #[true, true, true, true, true, true, true, true, true, true, true, true, true, true, true, true, true, true, true, true, true, true, true, true, true, true, false, false, false, false] (v := ?_) hHeld rfl (by kernel_rfl) (by kernel_rfl) (by kernel_rfl) (by kernel_rfl) R11_s R11_f25 R11_c25 (by kernel_rfl) (fun _ _ _ h => h) ?hyt25_18 ?_
  case hyt25_18 => intro w hSw; clear hSw; go_simp; try with_reducible rfl
  try simp only [Act.put, List.setIfInBounds_toArray, List.set_cons_zero, List.set_cons_succ]
  refine take_bare (i := 26) (some 140) (Go.Op.move (Go.Operand.tmp 139)) 4 #[true, true, true, true, true, true, true, true, true, true, true, true, true, true, true, true, true, true, true, true, true, true, true, true, true, true, true, false, false, false] (v := ?_) hHeld rfl (by kernel_rfl) (by kernel_rfl) (by kernel_rfl) (by kernel_rfl) R11_s R11_f26 R11_c26 (by kernel_rfl) (fun _ _ _ h => h) ?hyt26_19 ?_
  case hyt26_19 => intro w hSw; clear hSw; go_simp; try with_reducible rfl
  try simp only [Act.put, List.setIfInBounds_toArray, List.set_cons_zero, List.set_cons_succ]
  refine step_bare (i := 27) (some 141) (Go.Op.call { callee := Go.Callee.value (Go.Operand.func 25), args := #[], argTypes := #[] }) 4 #[true, true, true, true, true, true, true, true, true, true, true, true, true, true, true, true, true, true, true, true, true, true, true, true, true, true, true, true, false, false] R11_r27 rfl (by kernel_rfl) (by kernel_rfl) (by kernel_rfl) (by kernel_rfl) (by kernel_rfl) (fun K hK => ?_)
  go_simp
  (with_reducible refine (wakes_any _).mono ?_)
  rintro e v27 ⟨rfl, hC27⟩
  go_simp
  refine hK.out _ _ ?_ (fun hHeld => ?_)
  · exact hHeld.below hC27
  clear hK K
  try simp only [Act.put, List.setIfInBounds_toArray, List.set_cons_zero, List.set_cons_succ]
  refine take_bare (i := 28) (some 142) (Go.Op.pick (Go.Operand.tmp 140) (Go.Operand.tmp 141) (Go.Operand.const (Go.Value.bool false))) 4 #[true, true, true, true, true, true, true, true, true, true, true, true, true, true, true, true, true, true, true, true, true, true, true, true, true, true, true, true, true, false] (v := ?_) hHeld rfl (by kernel_rfl) (by kernel_rfl) (by kernel_rfl) (by kernel_rfl) R11_s R11_f28 R11_c28 (by kernel_rfl) (fun _ _ _ h => h) ?hyt28_20 ?_
  case hyt28_20 => intro w hSw; clear hSw; go_simp; try with_reducible rfl
  try simp only [Act.put, List.setIfInBounds_toArray, List.set_cons_zero, List.set_cons_succ]
  refine take_bare (i := 29) (some 6) (Go.Op.assign (Go.Operand.tmp 142)) 4 #[true, true, true, true, true, true, true, true, true, true, true, true, true, true, true, true, true, true, true, true, true, true, true, true, true, true, true, true, true, true] (v := ?_) hHeld rfl (by kernel_rfl) (by kernel_rfl) (by kernel_rfl) (by kernel_rfl) R11_s R11_f29 R11_c29 (by kernel_rfl) (fun _ _ _ h => h) ?hyt29_21 ?_
  case hyt29_21 => intro w hSw; clear hSw; go_simp; try with_reducible rfl
  try simp only [Act.put, List.setIfInBounds_toArray, List.set_cons_zero, List.set_cons_succ]
  refine wpAnyH_done (by kernel_rfl) ?_ _
  try simp only [Act.put, List.setIfInBounds_toArray, List.set_cons_zero, List.set_cons_succ]
  go_wp2
  go_ret
  exact ⟨rfl, hHeld.2⟩
end Go.Proofs.Ytigpdkbfailadaa
