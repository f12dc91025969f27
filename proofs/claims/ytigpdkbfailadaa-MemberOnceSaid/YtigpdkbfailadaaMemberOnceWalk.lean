/-
  The walk of the statement MemberOnce (its cases printed by gen-once20.py).
-/
import Derived.Test.YtigpdkbfailadaaRows
import Derived.Test.YtigpdkbfailadaaAppend
import Derived.Test.YtigpdkbfailadaaTail
import Derived.Shelf.Abstract
import Derived.Shelf.RegionOpen
import Derived.WalkKit
import Derived.OwnWalkIn
import Derived.TacticsInMore
import Derived.LoopNIn
import Derived.LoopIn
import Derived.WalkMore
import Derived.ScopeJumps
import Derived.Lib.Hide
import Derived.WalkSpells
import Derived.WalkLawsBesides
import Derived.Deep.QuietTactic
import Derived.BigQuiet
import Derived.Laws.Rows
import Derived.Test.YtigpdkbfailadaaMems
import Derived.Test.YtigpdkbfailadaaSame
import Derived.Deep.DeepCutAuto
namespace Go.Proofs.Ytigpdkbfailadaa
open Go Go.RowKit Go.Shelf
set_option linter.unusedSimpArgs false
set_option linter.unusedVariables false
attribute [local go_sem] Oper.semAt_some

theorem rightM_at {m : Mm} (h : rightM m = true) {i : Nat} (hi : i < 9) : okAt i (m i) = true := by
  unfold rightM at h
  rw [List.all_eq_true] at h
  exact h i (List.mem_range.2 hi)
theorem rightM_upd {m : Mm} (h : rightM m = true) {i : Nat} {s : Int} (hs : okAt i s = true) : rightM (upd m i s) = true := by
  unfold rightM
  rw [List.all_eq_true]
  intro j hj
  by_cases e : j = i
  · subst e; simp [upd, hs]
  · have : upd m i s j = m j := by unfold upd; rw [if_neg e]
    rw [this]
    exact rightM_at h (List.mem_range.1 hj)
theorem okAt_alive (i : Nat) : okAt i 1 = true := by unfold okAt; simp
theorem okAt_dead (i : Nat) : okAt i 3 = true := by unfold okAt; simp
theorem upd_same (m : Mm) (i : Nat) (s : Int) : upd m i s i = s := by unfold upd; rw [if_pos rfl]
theorem add_is {m : Mm} {k id : Int} {d : Mm × Int} (h : deedM addF m k id = d) (w : World) : Calls Try.prog 7 #[mv m, nv k id] w fun e W' => e = .returned (.tuple #[mv d.1, .int .i64 d.2]) ∧ Below w.heap.size w W' := h ▸ add_any m k id w
theorem kill_is {m : Mm} {k id : Int} {d : Mm × Int} (h : deedM killF m k id = d) (w : World) : Calls Try.prog 11 #[mv m, nv k id] w fun e W' => e = .returned (.tuple #[mv d.1, .int .i64 d.2]) ∧ Below w.heap.size w W' := h ▸ kill_any m k id w
theorem leave_is {m : Mm} {id : Int} {d : Mm × Int} (h : deedM leaveF m 2 id = d) (w : World) : Calls Try.prog 9 #[mv m, .int .i64 id] w fun e W' => e = .returned (.tuple #[mv d.1, .int .i64 d.2]) ∧ Below w.heap.size w W' := h ▸ leave_any m id w
theorem state_is {m : Mm} {k id : Int} {d : Int × Bool} (h : stateM m k id = d) (w : World) : Calls Try.prog 13 #[mv m, nv k id] w fun e W' => e = .returned (.tuple #[.int .u8 d.1, .bool d.2]) ∧ Below w.heap.size w W' := h ▸ state_any m k id w

/-- Members and a node in their variables. -/
structure Duo (m : Mm) (k id : Int) (w W : World) : Prop where
  mx : Mx W w.heap.size m
  nx : Nx W (w.heap.size + 1) k id
  bl : Below w.heap.size w W
theorem duo (w : World) (m : Mm) (k id : Int) : Duo m k id w ((w.alloc (.cells (mcells m) 25)).alloc (.cells #[.int .u8 k, .int .i64 id] 27)) := by
  have h := World.alloc_heap_new (w.alloc (.cells (mcells m) 25)) (.cells #[.int .u8 k, .int .i64 id] 27)
  rw [World.size_alloc] at h
  exact ⟨(Mx.new w m).alloc _, h, ((Below.refl _ w).alloc (Nat.le_refl _) _).alloc (by simp) _⟩
section
variable {m : Mm} {k id : Int} {w W W' : World}
theorem Duo.below (h : Duo m k id w W) (hB : Below W.heap.size W W') : Duo m k id w W' := ⟨h.mx.below hB h.mx.lt, h.nx.below hB h.nx.lt, h.bl.trans (hB.mono h.bl.size)⟩
theorem Duo.alloc (h : Duo m k id w W) (o : Obj) : Duo m k id w (W.alloc o) := ⟨h.mx.alloc o, h.nx.alloc o, h.bl.alloc h.bl.size o⟩
theorem Nx.far9 {g g' : Nat} (h : Nx W g k id) (hne : g ≠ g') (m' : Mm) : Nx (put9 W g' m') g k id :=
  ((((((((h.far (p := ⟨g', 0, none⟩) hne _).far (p := ⟨g', 1, none⟩) hne _).far (p := ⟨g', 2, none⟩) hne _).far (p := ⟨g', 3, none⟩) hne _).far (p := ⟨g', 4, none⟩) hne _).far (p := ⟨g', 5, none⟩) hne _).far (p := ⟨g', 6, none⟩) hne _).far (p := ⟨g', 7, none⟩) hne _).far (p := ⟨g', 8, none⟩) hne _
theorem Duo.put (h : Duo m k id w W) (m' : Mm) : Duo m' k id w (put9 W w.heap.size m') := ⟨put9_mx h.mx m', h.nx.far9 (by simp) m', put9_below h.bl (Nat.le_refl _) m'⟩
theorem Duo.cs (h : Duo m k id w W) : (W.cell? ⟨w.heap.size, 0, none⟩ = some (u8v (m 0)) ∧ W.cell? ⟨w.heap.size, 1, none⟩ = some (u8v (m 1)) ∧ W.cell? ⟨w.heap.size, 2, none⟩ = some (u8v (m 2)) ∧ W.cell? ⟨w.heap.size, 3, none⟩ = some (u8v (m 3)) ∧ W.cell? ⟨w.heap.size, 4, none⟩ = some (u8v (m 4)) ∧
    W.cell? ⟨w.heap.size, 5, none⟩ = some (u8v (m 5)) ∧ W.cell? ⟨w.heap.size, 6, none⟩ = some (u8v (m 6)) ∧ W.cell? ⟨w.heap.size, 7, none⟩ = some (u8v (m 7)) ∧ W.cell? ⟨w.heap.size, 8, none⟩ = some (u8v (m 8))) ∧
    (W.cell? ⟨w.heap.size + 1, 0, none⟩ = some (.int .u8 k) ∧ W.cell? ⟨w.heap.size + 1, 1, none⟩ = some (.int .i64 id)) ∧ w.heap.size < W.heap.size ∧ w.heap.size + 1 < W.heap.size := ⟨h.mx.cs, ⟨h.nx.c0, h.nx.c1⟩, h.mx.lt, h.nx.lt⟩
theorem Duo.fs (h : Duo m k id w W) : W.frozen? ⟨w.heap.size, 0, none⟩ = false ∧ W.frozen? ⟨w.heap.size, 1, none⟩ = false ∧ W.frozen? ⟨w.heap.size, 2, none⟩ = false ∧ W.frozen? ⟨w.heap.size, 3, none⟩ = false ∧ W.frozen? ⟨w.heap.size, 4, none⟩ = false ∧
    W.frozen? ⟨w.heap.size, 5, none⟩ = false ∧ W.frozen? ⟨w.heap.size, 6, none⟩ = false ∧ W.frozen? ⟨w.heap.size, 7, none⟩ = false ∧ W.frozen? ⟨w.heap.size, 8, none⟩ = false :=
  ⟨h.mx.fz 0, h.mx.fz 1, h.mx.fz 2, h.mx.fz 3, h.mx.fz 4, h.mx.fz 5, h.mx.fz 6, h.mx.fz 7, h.mx.fz 8⟩
end

set_option maxRecDepth 100000 in
set_option maxHeartbeats 4000000 in
theorem once_1_0 (m : Mm) (id : Int) (i : Nat) (hx : idx 1 id = some i) (hr : rightM m = true) (hs : m i = 0) (w : World) : Calls Try.prog 5 #[mv m, nv 1 id] w fun e W' => e = .returned (.bool true) ∧ Below w.heap.size w W' := by
  have d1 : stateM m 1 id = (0, true) := by unfold stateM; rw [hx, ← hs]
  obtain ⟨M, hMe⟩ : ∃ M, upd m i 1 = M := ⟨_, rfl⟩
  have hMr : rightM M = true := by rw [← hMe]; exact rightM_upd hr (okAt_alive i)
  have hMi : M i = 1 := by rw [← hMe]; exact upd_same m i 1
  have d2 : deedM addF m 1 id = (M, 0) := by rw [deedM_some hx hr]; unfold addF; rw [if_pos hs, hMe]
  clear hMe
  have d3 : deedM addF M 1 id = (zeroM, 201) := by rw [deedM_some hx hMr]; unfold addF; rw [if_neg (by omega)]
  obtain ⟨K, hKe⟩ : ∃ K, upd M i 3 = K := ⟨_, rfl⟩
  have hKr : rightM K = true := by rw [← hKe]; exact rightM_upd hMr (okAt_dead i)
  have hKi : K i = 3 := by rw [← hKe]; exact upd_same M i 3
  have d4 : deedM killF M 1 id = (K, 0) := by rw [deedM_some hx hMr]; unfold killF; rw [if_pos (by omega), hKe]
  clear hKe
  have d5 : deedM killF K 1 id = (zeroM, 202) := by rw [deedM_some hx hKr]; unfold killF; rw [if_neg (by omega)]
  have d6 : deedM addF K 1 id = (zeroM, 201) := by rw [deedM_some hx hKr]; unfold addF; rw [if_neg (by omega)]
  obtain ⟨⟨mL, vL⟩, d7⟩ : ∃ d, deedM leaveF K 2 id = d := ⟨_, rfl⟩
  have C0 := hide (fun W => refRight_val m true hr W)
  have C1 := hide (fun W => state_is d1 W)
  have C2 := hide (fun W => add_is d2 W)
  have C3 := hide (fun W => add_is d3 W)
  have C4 := hide (fun W => kill_is d4 W)
  have C5 := hide (fun W => kill_is d5 W)
  have C6 := hide (fun W => add_is d6 W)
  have C7 := hide (fun W => leave_is d7 W)
  clear d5 d6 d7 hKr hKi
  clear d1 d2 d3 d4 hs hr hx hMr hMi
  have D := duo w m 1 id
  go_enter Try.func5, Try.ntmps5
  go_wp2_with fail
  refine (C0.out _).mono ?_
  rintro e w0 ⟨rfl, hB0⟩
  replace D := (D).below hB0
  obtain ⟨⟨a0, a1, a2, a3, a4, a5, a6, a7, a8⟩, ⟨n0, n1⟩, l0, l1⟩ := D.cs
  go_wp2_with fail
  refine (C1.out _).mono ?_
  clear a0 a1 a2 a3 a4 a5 a6 a7 a8 n0 n1 l0 l1
  rintro e w1 ⟨rfl, hB1⟩
  replace D := (D).below hB1
  obtain ⟨⟨a0, a1, a2, a3, a4, a5, a6, a7, a8⟩, ⟨n0, n1⟩, l0, l1⟩ := D.cs
  go_wp2_with fail
  refine (C2.out _).mono ?_
  clear a0 a1 a2 a3 a4 a5 a6 a7 a8 n0 n1 l0 l1
  rintro e w2 ⟨rfl, hB2⟩
  replace D := (D).below hB2
  obtain ⟨⟨a0, a1, a2, a3, a4, a5, a6, a7, a8⟩, ⟨n0, n1⟩, l0, l1⟩ := D.cs
  obtain ⟨f0, f1, f2, f3, f4, f5, f6, f7, f8⟩ := D.fs
  go_upto_region 12 with (fail)
  obtain ⟨w2p, hw2⟩ : ∃ w', put9 w2 w.heap.size M = w' := ⟨_, rfl⟩
  have D2 : Duo M 1 id w w2p := hw2 ▸ D.put M
  unfold put9 at hw2
  rw [hw2]
  clear hw2 D f0 f1 f2 f3 f4 f5 f6 f7 f8
  clear a0 a1 a2 a3 a4 a5 a6 a7 a8 n0 n1 l0 l1
  have D := D2
  clear D2
  obtain ⟨⟨a0, a1, a2, a3, a4, a5, a6, a7, a8⟩, ⟨n0, n1⟩, l0, l1⟩ := D.cs
  go_wp2_with fail
  refine (C3.out _).mono ?_
  clear a0 a1 a2 a3 a4 a5 a6 a7 a8 n0 n1 l0 l1
  rintro e w3 ⟨rfl, hB3⟩
  replace D := (D.alloc _).below hB3
  obtain ⟨⟨a0, a1, a2, a3, a4, a5, a6, a7, a8⟩, ⟨n0, n1⟩, l0, l1⟩ := D.cs
  go_wp2_with fail
  refine (C4.out _).mono ?_
  clear a0 a1 a2 a3 a4 a5 a6 a7 a8 n0 n1 l0 l1
  rintro e w4 ⟨rfl, hB4⟩
  replace D := (D.alloc _).below hB4
  obtain ⟨⟨a0, a1, a2, a3, a4, a5, a6, a7, a8⟩, ⟨n0, n1⟩, l0, l1⟩ := D.cs
  go_wp2_with fail
  refine (C5.out _).mono ?_
  clear a0 a1 a2 a3 a4 a5 a6 a7 a8 n0 n1 l0 l1
  rintro e w5 ⟨rfl, hB5⟩
  replace D := (D.alloc _).below hB5
  obtain ⟨⟨a0, a1, a2, a3, a4, a5, a6, a7, a8⟩, ⟨n0, n1⟩, l0, l1⟩ := D.cs
  have hK := (Mx.new w4 K).below hB5 (Mx.new w4 K).lt
  obtain ⟨q0, q1, q2, q3, q4, q5, q6, q7, q8⟩ := hK.cs
  have ql := hK.lt
  go_wp2_with fail
  refine (C6.out _).mono ?_
  clear a0 a1 a2 a3 a4 a5 a6 a7 a8 n0 n1 l0 l1
  clear q0 q1 q2 q3 q4 q5 q6 q7 q8 ql
  rintro e w6 ⟨rfl, hB6⟩
  replace D := (D.alloc _).below hB6
  replace hK := (hK.alloc _).below hB6 (hK.alloc _).lt
  obtain ⟨⟨a0, a1, a2, a3, a4, a5, a6, a7, a8⟩, ⟨n0, n1⟩, l0, l1⟩ := D.cs
  obtain ⟨q0, q1, q2, q3, q4, q5, q6, q7, q8⟩ := hK.cs
  have ql := hK.lt
  go_wp2_with fail
  refine (C7.out _).mono ?_
  clear a0 a1 a2 a3 a4 a5 a6 a7 a8 n0 n1 l0 l1
  clear q0 q1 q2 q3 q4 q5 q6 q7 q8 ql
  rintro e w7 ⟨rfl, hB7⟩
  replace D := (D.alloc _).below hB7
  obtain ⟨⟨a0, a1, a2, a3, a4, a5, a6, a7, a8⟩, ⟨n0, n1⟩, l0, l1⟩ := D.cs
  go_wp2_with fail
  refine (wakes_any _).mono ?_
  clear a0 a1 a2 a3 a4 a5 a6 a7 a8 n0 n1 l0 l1
  rintro e w8 ⟨rfl, hB8⟩
  replace D := (D.alloc _).below hB8
  go_wp2
  go_ret
  exact ⟨rfl, D.bl⟩

set_option maxRecDepth 100000 in
set_option maxHeartbeats 4000000 in
theorem once_1_1 (m : Mm) (id : Int) (i : Nat) (hx : idx 1 id = some i) (hr : rightM m = true) (hs : m i = 1) (w : World) : Calls Try.prog 5 #[mv m, nv 1 id] w fun e W' => e = .returned (.bool true) ∧ Below w.heap.size w W' := by
  have d1 : stateM m 1 id = (1, true) := by unfold stateM; rw [hx, ← hs]
  have d2 : deedM addF m 1 id = (zeroM, 201) := by rw [deedM_some hx hr]; unfold addF; rw [if_neg (by omega)]
  have d3 : deedM addF m 1 id = (zeroM, 201) := by rw [deedM_some hx hr]; unfold addF; rw [if_neg (by omega)]
  obtain ⟨K, hKe⟩ : ∃ K, upd m i 3 = K := ⟨_, rfl⟩
  have hKr : rightM K = true := by rw [← hKe]; exact rightM_upd hr (okAt_dead i)
  have hKi : K i = 3 := by rw [← hKe]; exact upd_same m i 3
  have d4 : deedM killF m 1 id = (K, 0) := by rw [deedM_some hx hr]; unfold killF; rw [if_pos (by omega), hKe]
  clear hKe
  have d5 : deedM killF K 1 id = (zeroM, 202) := by rw [deedM_some hx hKr]; unfold killF; rw [if_neg (by omega)]
  have d6 : deedM addF K 1 id = (zeroM, 201) := by rw [deedM_some hx hKr]; unfold addF; rw [if_neg (by omega)]
  obtain ⟨⟨mL, vL⟩, d7⟩ : ∃ d, deedM leaveF K 2 id = d := ⟨_, rfl⟩
  have C0 := hide (fun W => refRight_val m true hr W)
  have C1 := hide (fun W => state_is d1 W)
  have C2 := hide (fun W => add_is d2 W)
  have C3 := hide (fun W => add_is d3 W)
  have C4 := hide (fun W => kill_is d4 W)
  have C5 := hide (fun W => kill_is d5 W)
  have C6 := hide (fun W => add_is d6 W)
  have C7 := hide (fun W => leave_is d7 W)
  clear d5 d6 d7 hKr hKi
  clear d1 d2 d3 d4 hs hr hx
  have D := duo w m 1 id
  go_enter Try.func5, Try.ntmps5
  go_wp2_with fail
  refine (C0.out _).mono ?_
  rintro e w0 ⟨rfl, hB0⟩
  replace D := (D).below hB0
  obtain ⟨⟨a0, a1, a2, a3, a4, a5, a6, a7, a8⟩, ⟨n0, n1⟩, l0, l1⟩ := D.cs
  go_wp2_with fail
  refine (C1.out _).mono ?_
  clear a0 a1 a2 a3 a4 a5 a6 a7 a8 n0 n1 l0 l1
  rintro e w1 ⟨rfl, hB1⟩
  replace D := (D).below hB1
  obtain ⟨⟨a0, a1, a2, a3, a4, a5, a6, a7, a8⟩, ⟨n0, n1⟩, l0, l1⟩ := D.cs
  go_wp2_with fail
  refine (C2.out _).mono ?_
  clear a0 a1 a2 a3 a4 a5 a6 a7 a8 n0 n1 l0 l1
  rintro e w2 ⟨rfl, hB2⟩
  replace D := (D).below hB2
  obtain ⟨⟨a0, a1, a2, a3, a4, a5, a6, a7, a8⟩, ⟨n0, n1⟩, l0, l1⟩ := D.cs
  go_wp2_with fail
  refine (C3.out _).mono ?_
  clear a0 a1 a2 a3 a4 a5 a6 a7 a8 n0 n1 l0 l1
  rintro e w3 ⟨rfl, hB3⟩
  replace D := (D.alloc _).below hB3
  obtain ⟨⟨a0, a1, a2, a3, a4, a5, a6, a7, a8⟩, ⟨n0, n1⟩, l0, l1⟩ := D.cs
  go_wp2_with fail
  refine (C4.out _).mono ?_
  clear a0 a1 a2 a3 a4 a5 a6 a7 a8 n0 n1 l0 l1
  rintro e w4 ⟨rfl, hB4⟩
  replace D := (D.alloc _).below hB4
  obtain ⟨⟨a0, a1, a2, a3, a4, a5, a6, a7, a8⟩, ⟨n0, n1⟩, l0, l1⟩ := D.cs
  go_wp2_with fail
  refine (C5.out _).mono ?_
  clear a0 a1 a2 a3 a4 a5 a6 a7 a8 n0 n1 l0 l1
  rintro e w5 ⟨rfl, hB5⟩
  replace D := (D.alloc _).below hB5
  obtain ⟨⟨a0, a1, a2, a3, a4, a5, a6, a7, a8⟩, ⟨n0, n1⟩, l0, l1⟩ := D.cs
  have hK := (Mx.new w4 K).below hB5 (Mx.new w4 K).lt
  obtain ⟨q0, q1, q2, q3, q4, q5, q6, q7, q8⟩ := hK.cs
  have ql := hK.lt
  go_wp2_with fail
  refine (C6.out _).mono ?_
  clear a0 a1 a2 a3 a4 a5 a6 a7 a8 n0 n1 l0 l1
  clear q0 q1 q2 q3 q4 q5 q6 q7 q8 ql
  rintro e w6 ⟨rfl, hB6⟩
  replace D := (D.alloc _).below hB6
  replace hK := (hK.alloc _).below hB6 (hK.alloc _).lt
  obtain ⟨⟨a0, a1, a2, a3, a4, a5, a6, a7, a8⟩, ⟨n0, n1⟩, l0, l1⟩ := D.cs
  obtain ⟨q0, q1, q2, q3, q4, q5, q6, q7, q8⟩ := hK.cs
  have ql := hK.lt
  go_wp2_with fail
  refine (C7.out _).mono ?_
  clear a0 a1 a2 a3 a4 a5 a6 a7 a8 n0 n1 l0 l1
  clear q0 q1 q2 q3 q4 q5 q6 q7 q8 ql
  rintro e w7 ⟨rfl, hB7⟩
  replace D := (D.alloc _).below hB7
  obtain ⟨⟨a0, a1, a2, a3, a4, a5, a6, a7, a8⟩, ⟨n0, n1⟩, l0, l1⟩ := D.cs
  go_wp2_with fail
  refine (wakes_any _).mono ?_
  clear a0 a1 a2 a3 a4 a5 a6 a7 a8 n0 n1 l0 l1
  rintro e w8 ⟨rfl, hB8⟩
  replace D := (D.alloc _).below hB8
  go_wp2
  go_ret
  exact ⟨rfl, D.bl⟩

set_option maxRecDepth 100000 in
set_option maxHeartbeats 4000000 in
theorem once_1_2 (m : Mm) (id : Int) (i : Nat) (hx : idx 1 id = some i) (hr : rightM m = true) (hs : m i = 2) (w : World) : Calls Try.prog 5 #[mv m, nv 1 id] w fun e W' => e = .returned (.bool true) ∧ Below w.heap.size w W' := by
  have d1 : stateM m 1 id = (2, true) := by unfold stateM; rw [hx, ← hs]
  have d2 : deedM addF m 1 id = (zeroM, 201) := by rw [deedM_some hx hr]; unfold addF; rw [if_neg (by omega)]
  have d3 : deedM addF m 1 id = (zeroM, 201) := by rw [deedM_some hx hr]; unfold addF; rw [if_neg (by omega)]
  obtain ⟨K, hKe⟩ : ∃ K, upd m i 3 = K := ⟨_, rfl⟩
  have hKr : rightM K = true := by rw [← hKe]; exact rightM_upd hr (okAt_dead i)
  have hKi : K i = 3 := by rw [← hKe]; exact upd_same m i 3
  have d4 : deedM killF m 1 id = (K, 0) := by rw [deedM_some hx hr]; unfold killF; rw [if_pos (by omega), hKe]
  clear hKe
  have d5 : deedM killF K 1 id = (zeroM, 202) := by rw [deedM_some hx hKr]; unfold killF; rw [if_neg (by omega)]
  have d6 : deedM addF K 1 id = (zeroM, 201) := by rw [deedM_some hx hKr]; unfold addF; rw [if_neg (by omega)]
  obtain ⟨⟨mL, vL⟩, d7⟩ : ∃ d, deedM leaveF K 2 id = d := ⟨_, rfl⟩
  have C0 := hide (fun W => refRight_val m true hr W)
  have C1 := hide (fun W => state_is d1 W)
  have C2 := hide (fun W => add_is d2 W)
  have C3 := hide (fun W => add_is d3 W)
  have C4 := hide (fun W => kill_is d4 W)
  have C5 := hide (fun W => kill_is d5 W)
  have C6 := hide (fun W => add_is d6 W)
  have C7 := hide (fun W => leave_is d7 W)
  clear d5 d6 d7 hKr hKi
  clear d1 d2 d3 d4 hs hr hx
  have D := duo w m 1 id
  go_enter Try.func5, Try.ntmps5
  go_wp2_with fail
  refine (C0.out _).mono ?_
  rintro e w0 ⟨rfl, hB0⟩
  replace D := (D).below hB0
  obtain ⟨⟨a0, a1, a2, a3, a4, a5, a6, a7, a8⟩, ⟨n0, n1⟩, l0, l1⟩ := D.cs
  go_wp2_with fail
  refine (C1.out _).mono ?_
  clear a0 a1 a2 a3 a4 a5 a6 a7 a8 n0 n1 l0 l1
  rintro e w1 ⟨rfl, hB1⟩
  replace D := (D).below hB1
  obtain ⟨⟨a0, a1, a2, a3, a4, a5, a6, a7, a8⟩, ⟨n0, n1⟩, l0, l1⟩ := D.cs
  go_wp2_with fail
  refine (C2.out _).mono ?_
  clear a0 a1 a2 a3 a4 a5 a6 a7 a8 n0 n1 l0 l1
  rintro e w2 ⟨rfl, hB2⟩
  replace D := (D).below hB2
  obtain ⟨⟨a0, a1, a2, a3, a4, a5, a6, a7, a8⟩, ⟨n0, n1⟩, l0, l1⟩ := D.cs
  go_wp2_with fail
  refine (C3.out _).mono ?_
  clear a0 a1 a2 a3 a4 a5 a6 a7 a8 n0 n1 l0 l1
  rintro e w3 ⟨rfl, hB3⟩
  replace D := (D.alloc _).below hB3
  obtain ⟨⟨a0, a1, a2, a3, a4, a5, a6, a7, a8⟩, ⟨n0, n1⟩, l0, l1⟩ := D.cs
  go_wp2_with fail
  refine (C4.out _).mono ?_
  clear a0 a1 a2 a3 a4 a5 a6 a7 a8 n0 n1 l0 l1
  rintro e w4 ⟨rfl, hB4⟩
  replace D := (D.alloc _).below hB4
  obtain ⟨⟨a0, a1, a2, a3, a4, a5, a6, a7, a8⟩, ⟨n0, n1⟩, l0, l1⟩ := D.cs
  go_wp2_with fail
  refine (C5.out _).mono ?_
  clear a0 a1 a2 a3 a4 a5 a6 a7 a8 n0 n1 l0 l1
  rintro e w5 ⟨rfl, hB5⟩
  replace D := (D.alloc _).below hB5
  obtain ⟨⟨a0, a1, a2, a3, a4, a5, a6, a7, a8⟩, ⟨n0, n1⟩, l0, l1⟩ := D.cs
  have hK := (Mx.new w4 K).below hB5 (Mx.new w4 K).lt
  obtain ⟨q0, q1, q2, q3, q4, q5, q6, q7, q8⟩ := hK.cs
  have ql := hK.lt
  go_wp2_with fail
  refine (C6.out _).mono ?_
  clear a0 a1 a2 a3 a4 a5 a6 a7 a8 n0 n1 l0 l1
  clear q0 q1 q2 q3 q4 q5 q6 q7 q8 ql
  rintro e w6 ⟨rfl, hB6⟩
  replace D := (D.alloc _).below hB6
  replace hK := (hK.alloc _).below hB6 (hK.alloc _).lt
  obtain ⟨⟨a0, a1, a2, a3, a4, a5, a6, a7, a8⟩, ⟨n0, n1⟩, l0, l1⟩ := D.cs
  obtain ⟨q0, q1, q2, q3, q4, q5, q6, q7, q8⟩ := hK.cs
  have ql := hK.lt
  go_wp2_with fail
  refine (C7.out _).mono ?_
  clear a0 a1 a2 a3 a4 a5 a6 a7 a8 n0 n1 l0 l1
  clear q0 q1 q2 q3 q4 q5 q6 q7 q8 ql
  rintro e w7 ⟨rfl, hB7⟩
  replace D := (D.alloc _).below hB7
  obtain ⟨⟨a0, a1, a2, a3, a4, a5, a6, a7, a8⟩, ⟨n0, n1⟩, l0, l1⟩ := D.cs
  go_wp2_with fail
  refine (wakes_any _).mono ?_
  clear a0 a1 a2 a3 a4 a5 a6 a7 a8 n0 n1 l0 l1
  rintro e w8 ⟨rfl, hB8⟩
  replace D := (D.alloc _).below hB8
  go_wp2
  go_ret
  exact ⟨rfl, D.bl⟩

set_option maxRecDepth 100000 in
set_option maxHeartbeats 4000000 in
theorem once_1_3 (m : Mm) (id : Int) (i : Nat) (hx : idx 1 id = some i) (hr : rightM m = true) (hs : m i = 3) (w : World) : Calls Try.prog 5 #[mv m, nv 1 id] w fun e W' => e = .returned (.bool true) ∧ Below w.heap.size w W' := by
  have d1 : stateM m 1 id = (3, true) := by unfold stateM; rw [hx, ← hs]
  have d2 : deedM addF m 1 id = (zeroM, 201) := by rw [deedM_some hx hr]; unfold addF; rw [if_neg (by omega)]
  have d3 : deedM addF m 1 id = (zeroM, 201) := by rw [deedM_some hx hr]; unfold addF; rw [if_neg (by omega)]
  have d4 : deedM killF m 1 id = (zeroM, 202) := by rw [deedM_some hx hr]; unfold killF; rw [if_neg (by omega)]
  have C0 := hide (fun W => refRight_val m true hr W)
  have C1 := hide (fun W => state_is d1 W)
  have C2 := hide (fun W => add_is d2 W)
  have C3 := hide (fun W => add_is d3 W)
  have C4 := hide (fun W => kill_is d4 W)
  clear d1 d2 d3 d4 hs hr hx
  have D := duo w m 1 id
  go_enter Try.func5, Try.ntmps5
  go_wp2_with fail
  refine (C0.out _).mono ?_
  rintro e w0 ⟨rfl, hB0⟩
  replace D := (D).below hB0
  obtain ⟨⟨a0, a1, a2, a3, a4, a5, a6, a7, a8⟩, ⟨n0, n1⟩, l0, l1⟩ := D.cs
  go_wp2_with fail
  refine (C1.out _).mono ?_
  clear a0 a1 a2 a3 a4 a5 a6 a7 a8 n0 n1 l0 l1
  rintro e w1 ⟨rfl, hB1⟩
  replace D := (D).below hB1
  obtain ⟨⟨a0, a1, a2, a3, a4, a5, a6, a7, a8⟩, ⟨n0, n1⟩, l0, l1⟩ := D.cs
  go_wp2_with fail
  refine (C2.out _).mono ?_
  clear a0 a1 a2 a3 a4 a5 a6 a7 a8 n0 n1 l0 l1
  rintro e w2 ⟨rfl, hB2⟩
  replace D := (D).below hB2
  obtain ⟨⟨a0, a1, a2, a3, a4, a5, a6, a7, a8⟩, ⟨n0, n1⟩, l0, l1⟩ := D.cs
  go_wp2_with fail
  refine (C3.out _).mono ?_
  clear a0 a1 a2 a3 a4 a5 a6 a7 a8 n0 n1 l0 l1
  rintro e w3 ⟨rfl, hB3⟩
  replace D := (D.alloc _).below hB3
  obtain ⟨⟨a0, a1, a2, a3, a4, a5, a6, a7, a8⟩, ⟨n0, n1⟩, l0, l1⟩ := D.cs
  go_wp2_with fail
  refine (C4.out _).mono ?_
  clear a0 a1 a2 a3 a4 a5 a6 a7 a8 n0 n1 l0 l1
  rintro e w4 ⟨rfl, hB4⟩
  replace D := (D.alloc _).below hB4
  obtain ⟨⟨a0, a1, a2, a3, a4, a5, a6, a7, a8⟩, ⟨n0, n1⟩, l0, l1⟩ := D.cs
  go_wp2_with fail
  refine (wakes_any _).mono ?_
  clear a0 a1 a2 a3 a4 a5 a6 a7 a8 n0 n1 l0 l1
  rintro e w5 ⟨rfl, hB5⟩
  replace D := (D.alloc _).below hB5
  go_wp2
  go_ret
  exact ⟨rfl, D.bl⟩

set_option maxRecDepth 100000 in
set_option maxHeartbeats 4000000 in
theorem once_2_0 (m : Mm) (id : Int) (i : Nat) (hx : idx 2 id = some i) (hr : rightM m = true) (hs : m i = 0) (w : World) : Calls Try.prog 5 #[mv m, nv 2 id] w fun e W' => e = .returned (.bool true) ∧ Below w.heap.size w W' := by
  have d1 : stateM m 2 id = (0, true) := by unfold stateM; rw [hx, ← hs]
  obtain ⟨M, hMe⟩ : ∃ M, upd m i 1 = M := ⟨_, rfl⟩
  have hMr : rightM M = true := by rw [← hMe]; exact rightM_upd hr (okAt_alive i)
  have hMi : M i = 1 := by rw [← hMe]; exact upd_same m i 1
  have d2 : deedM addF m 2 id = (M, 0) := by rw [deedM_some hx hr]; unfold addF; rw [if_pos hs, hMe]
  clear hMe
  have d3 : deedM addF M 2 id = (zeroM, 201) := by rw [deedM_some hx hMr]; unfold addF; rw [if_neg (by omega)]
  obtain ⟨K, hKe⟩ : ∃ K, upd M i 3 = K := ⟨_, rfl⟩
  have hKr : rightM K = true := by rw [← hKe]; exact rightM_upd hMr (okAt_dead i)
  have hKi : K i = 3 := by rw [← hKe]; exact upd_same M i 3
  have d4 : deedM killF M 2 id = (K, 0) := by rw [deedM_some hx hMr]; unfold killF; rw [if_pos (by omega), hKe]
  clear hKe
  have d5 : deedM killF K 2 id = (zeroM, 202) := by rw [deedM_some hx hKr]; unfold killF; rw [if_neg (by omega)]
  have d6 : deedM addF K 2 id = (zeroM, 201) := by rw [deedM_some hx hKr]; unfold addF; rw [if_neg (by omega)]
  have d7 : deedM leaveF K 2 id = (zeroM, 202) := by rw [deedM_some hx hKr]; unfold leaveF; rw [if_neg (by omega)]
  have C0 := hide (fun W => refRight_val m true hr W)
  have C1 := hide (fun W => state_is d1 W)
  have C2 := hide (fun W => add_is d2 W)
  have C3 := hide (fun W => add_is d3 W)
  have C4 := hide (fun W => kill_is d4 W)
  have C5 := hide (fun W => kill_is d5 W)
  have C6 := hide (fun W => add_is d6 W)
  have C7 := hide (fun W => leave_is d7 W)
  clear d5 d6 d7 hKr hKi
  clear d1 d2 d3 d4 hs hr hx hMr hMi
  have D := duo w m 2 id
  go_enter Try.func5, Try.ntmps5
  go_wp2_with fail
  refine (C0.out _).mono ?_
  rintro e w0 ⟨rfl, hB0⟩
  replace D := (D).below hB0
  obtain ⟨⟨a0, a1, a2, a3, a4, a5, a6, a7, a8⟩, ⟨n0, n1⟩, l0, l1⟩ := D.cs
  go_wp2_with fail
  refine (C1.out _).mono ?_
  clear a0 a1 a2 a3 a4 a5 a6 a7 a8 n0 n1 l0 l1
  rintro e w1 ⟨rfl, hB1⟩
  replace D := (D).below hB1
  obtain ⟨⟨a0, a1, a2, a3, a4, a5, a6, a7, a8⟩, ⟨n0, n1⟩, l0, l1⟩ := D.cs
  go_wp2_with fail
  refine (C2.out _).mono ?_
  clear a0 a1 a2 a3 a4 a5 a6 a7 a8 n0 n1 l0 l1
  rintro e w2 ⟨rfl, hB2⟩
  replace D := (D).below hB2
  obtain ⟨⟨a0, a1, a2, a3, a4, a5, a6, a7, a8⟩, ⟨n0, n1⟩, l0, l1⟩ := D.cs
  obtain ⟨f0, f1, f2, f3, f4, f5, f6, f7, f8⟩ := D.fs
  go_upto_region 12 with (fail)
  obtain ⟨w2p, hw2⟩ : ∃ w', put9 w2 w.heap.size M = w' := ⟨_, rfl⟩
  have D2 : Duo M 2 id w w2p := hw2 ▸ D.put M
  unfold put9 at hw2
  rw [hw2]
  clear hw2 D f0 f1 f2 f3 f4 f5 f6 f7 f8
  clear a0 a1 a2 a3 a4 a5 a6 a7 a8 n0 n1 l0 l1
  have D := D2
  clear D2
  obtain ⟨⟨a0, a1, a2, a3, a4, a5, a6, a7, a8⟩, ⟨n0, n1⟩, l0, l1⟩ := D.cs
  go_wp2_with fail
  refine (C3.out _).mono ?_
  clear a0 a1 a2 a3 a4 a5 a6 a7 a8 n0 n1 l0 l1
  rintro e w3 ⟨rfl, hB3⟩
  replace D := (D.alloc _).below hB3
  obtain ⟨⟨a0, a1, a2, a3, a4, a5, a6, a7, a8⟩, ⟨n0, n1⟩, l0, l1⟩ := D.cs
  go_wp2_with fail
  refine (C4.out _).mono ?_
  clear a0 a1 a2 a3 a4 a5 a6 a7 a8 n0 n1 l0 l1
  rintro e w4 ⟨rfl, hB4⟩
  replace D := (D.alloc _).below hB4
  obtain ⟨⟨a0, a1, a2, a3, a4, a5, a6, a7, a8⟩, ⟨n0, n1⟩, l0, l1⟩ := D.cs
  go_wp2_with fail
  refine (C5.out _).mono ?_
  clear a0 a1 a2 a3 a4 a5 a6 a7 a8 n0 n1 l0 l1
  rintro e w5 ⟨rfl, hB5⟩
  replace D := (D.alloc _).below hB5
  obtain ⟨⟨a0, a1, a2, a3, a4, a5, a6, a7, a8⟩, ⟨n0, n1⟩, l0, l1⟩ := D.cs
  have hK := (Mx.new w4 K).below hB5 (Mx.new w4 K).lt
  obtain ⟨q0, q1, q2, q3, q4, q5, q6, q7, q8⟩ := hK.cs
  have ql := hK.lt
  go_wp2_with fail
  refine (C6.out _).mono ?_
  clear a0 a1 a2 a3 a4 a5 a6 a7 a8 n0 n1 l0 l1
  clear q0 q1 q2 q3 q4 q5 q6 q7 q8 ql
  rintro e w6 ⟨rfl, hB6⟩
  replace D := (D.alloc _).below hB6
  replace hK := (hK.alloc _).below hB6 (hK.alloc _).lt
  obtain ⟨⟨a0, a1, a2, a3, a4, a5, a6, a7, a8⟩, ⟨n0, n1⟩, l0, l1⟩ := D.cs
  obtain ⟨q0, q1, q2, q3, q4, q5, q6, q7, q8⟩ := hK.cs
  have ql := hK.lt
  go_wp2_with fail
  refine (C7.out _).mono ?_
  clear a0 a1 a2 a3 a4 a5 a6 a7 a8 n0 n1 l0 l1
  clear q0 q1 q2 q3 q4 q5 q6 q7 q8 ql
  rintro e w7 ⟨rfl, hB7⟩
  replace D := (D.alloc _).below hB7
  obtain ⟨⟨a0, a1, a2, a3, a4, a5, a6, a7, a8⟩, ⟨n0, n1⟩, l0, l1⟩ := D.cs
  go_wp2_with fail
  refine (wakes_any _).mono ?_
  clear a0 a1 a2 a3 a4 a5 a6 a7 a8 n0 n1 l0 l1
  rintro e w8 ⟨rfl, hB8⟩
  replace D := (D.alloc _).below hB8
  go_wp2
  go_ret
  exact ⟨rfl, D.bl⟩

set_option maxRecDepth 100000 in
set_option maxHeartbeats 4000000 in
theorem once_2_1 (m : Mm) (id : Int) (i : Nat) (hx : idx 2 id = some i) (hr : rightM m = true) (hs : m i = 1) (w : World) : Calls Try.prog 5 #[mv m, nv 2 id] w fun e W' => e = .returned (.bool true) ∧ Below w.heap.size w W' := by
  have d1 : stateM m 2 id = (1, true) := by unfold stateM; rw [hx, ← hs]
  have d2 : deedM addF m 2 id = (zeroM, 201) := by rw [deedM_some hx hr]; unfold addF; rw [if_neg (by omega)]
  have d3 : deedM addF m 2 id = (zeroM, 201) := by rw [deedM_some hx hr]; unfold addF; rw [if_neg (by omega)]
  obtain ⟨K, hKe⟩ : ∃ K, upd m i 3 = K := ⟨_, rfl⟩
  have hKr : rightM K = true := by rw [← hKe]; exact rightM_upd hr (okAt_dead i)
  have hKi : K i = 3 := by rw [← hKe]; exact upd_same m i 3
  have d4 : deedM killF m 2 id = (K, 0) := by rw [deedM_some hx hr]; unfold killF; rw [if_pos (by omega), hKe]
  clear hKe
  have d5 : deedM killF K 2 id = (zeroM, 202) := by rw [deedM_some hx hKr]; unfold killF; rw [if_neg (by omega)]
  have d6 : deedM addF K 2 id = (zeroM, 201) := by rw [deedM_some hx hKr]; unfold addF; rw [if_neg (by omega)]
  have d7 : deedM leaveF K 2 id = (zeroM, 202) := by rw [deedM_some hx hKr]; unfold leaveF; rw [if_neg (by omega)]
  have C0 := hide (fun W => refRight_val m true hr W)
  have C1 := hide (fun W => state_is d1 W)
  have C2 := hide (fun W => add_is d2 W)
  have C3 := hide (fun W => add_is d3 W)
  have C4 := hide (fun W => kill_is d4 W)
  have C5 := hide (fun W => kill_is d5 W)
  have C6 := hide (fun W => add_is d6 W)
  have C7 := hide (fun W => leave_is d7 W)
  clear d5 d6 d7 hKr hKi
  clear d1 d2 d3 d4 hs hr hx
  have D := duo w m 2 id
  go_enter Try.func5, Try.ntmps5
  go_wp2_with fail
  refine (C0.out _).mono ?_
  rintro e w0 ⟨rfl, hB0⟩
  replace D := (D).below hB0
  obtain ⟨⟨a0, a1, a2, a3, a4, a5, a6, a7, a8⟩, ⟨n0, n1⟩, l0, l1⟩ := D.cs
  go_wp2_with fail
  refine (C1.out _).mono ?_
  clear a0 a1 a2 a3 a4 a5 a6 a7 a8 n0 n1 l0 l1
  rintro e w1 ⟨rfl, hB1⟩
  replace D := (D).below hB1
  obtain ⟨⟨a0, a1, a2, a3, a4, a5, a6, a7, a8⟩, ⟨n0, n1⟩, l0, l1⟩ := D.cs
  go_wp2_with fail
  refine (C2.out _).mono ?_
  clear a0 a1 a2 a3 a4 a5 a6 a7 a8 n0 n1 l0 l1
  rintro e w2 ⟨rfl, hB2⟩
  replace D := (D).below hB2
  obtain ⟨⟨a0, a1, a2, a3, a4, a5, a6, a7, a8⟩, ⟨n0, n1⟩, l0, l1⟩ := D.cs
  go_wp2_with fail
  refine (C3.out _).mono ?_
  clear a0 a1 a2 a3 a4 a5 a6 a7 a8 n0 n1 l0 l1
  rintro e w3 ⟨rfl, hB3⟩
  replace D := (D.alloc _).below hB3
  obtain ⟨⟨a0, a1, a2, a3, a4, a5, a6, a7, a8⟩, ⟨n0, n1⟩, l0, l1⟩ := D.cs
  go_wp2_with fail
  refine (C4.out _).mono ?_
  clear a0 a1 a2 a3 a4 a5 a6 a7 a8 n0 n1 l0 l1
  rintro e w4 ⟨rfl, hB4⟩
  replace D := (D.alloc _).below hB4
  obtain ⟨⟨a0, a1, a2, a3, a4, a5, a6, a7, a8⟩, ⟨n0, n1⟩, l0, l1⟩ := D.cs
  go_wp2_with fail
  refine (C5.out _).mono ?_
  clear a0 a1 a2 a3 a4 a5 a6 a7 a8 n0 n1 l0 l1
  rintro e w5 ⟨rfl, hB5⟩
  replace D := (D.alloc _).below hB5
  obtain ⟨⟨a0, a1, a2, a3, a4, a5, a6, a7, a8⟩, ⟨n0, n1⟩, l0, l1⟩ := D.cs
  have hK := (Mx.new w4 K).below hB5 (Mx.new w4 K).lt
  obtain ⟨q0, q1, q2, q3, q4, q5, q6, q7, q8⟩ := hK.cs
  have ql := hK.lt
  go_wp2_with fail
  refine (C6.out _).mono ?_
  clear a0 a1 a2 a3 a4 a5 a6 a7 a8 n0 n1 l0 l1
  clear q0 q1 q2 q3 q4 q5 q6 q7 q8 ql
  rintro e w6 ⟨rfl, hB6⟩
  replace D := (D.alloc _).below hB6
  replace hK := (hK.alloc _).below hB6 (hK.alloc _).lt
  obtain ⟨⟨a0, a1, a2, a3, a4, a5, a6, a7, a8⟩, ⟨n0, n1⟩, l0, l1⟩ := D.cs
  obtain ⟨q0, q1, q2, q3, q4, q5, q6, q7, q8⟩ := hK.cs
  have ql := hK.lt
  go_wp2_with fail
  refine (C7.out _).mono ?_
  clear a0 a1 a2 a3 a4 a5 a6 a7 a8 n0 n1 l0 l1
  clear q0 q1 q2 q3 q4 q5 q6 q7 q8 ql
  rintro e w7 ⟨rfl, hB7⟩
  replace D := (D.alloc _).below hB7
  obtain ⟨⟨a0, a1, a2, a3, a4, a5, a6, a7, a8⟩, ⟨n0, n1⟩, l0, l1⟩ := D.cs
  go_wp2_with fail
  refine (wakes_any _).mono ?_
  clear a0 a1 a2 a3 a4 a5 a6 a7 a8 n0 n1 l0 l1
  rintro e w8 ⟨rfl, hB8⟩
  replace D := (D.alloc _).below hB8
  go_wp2
  go_ret
  exact ⟨rfl, D.bl⟩

set_option maxRecDepth 100000 in
set_option maxHeartbeats 4000000 in
theorem once_2_2 (m : Mm) (id : Int) (i : Nat) (hx : idx 2 id = some i) (hr : rightM m = true) (hs : m i = 2) (w : World) : Calls Try.prog 5 #[mv m, nv 2 id] w fun e W' => e = .returned (.bool true) ∧ Below w.heap.size w W' := by
  have d1 : stateM m 2 id = (2, true) := by unfold stateM; rw [hx, ← hs]
  have d2 : deedM addF m 2 id = (zeroM, 201) := by rw [deedM_some hx hr]; unfold addF; rw [if_neg (by omega)]
  have d3 : deedM addF m 2 id = (zeroM, 201) := by rw [deedM_some hx hr]; unfold addF; rw [if_neg (by omega)]
  obtain ⟨K, hKe⟩ : ∃ K, upd m i 3 = K := ⟨_, rfl⟩
  have hKr : rightM K = true := by rw [← hKe]; exact rightM_upd hr (okAt_dead i)
  have hKi : K i = 3 := by rw [← hKe]; exact upd_same m i 3
  have d4 : deedM killF m 2 id = (K, 0) := by rw [deedM_some hx hr]; unfold killF; rw [if_pos (by omega), hKe]
  clear hKe
  have d5 : deedM killF K 2 id = (zeroM, 202) := by rw [deedM_some hx hKr]; unfold killF; rw [if_neg (by omega)]
  have d6 : deedM addF K 2 id = (zeroM, 201) := by rw [deedM_some hx hKr]; unfold addF; rw [if_neg (by omega)]
  have d7 : deedM leaveF K 2 id = (zeroM, 202) := by rw [deedM_some hx hKr]; unfold leaveF; rw [if_neg (by omega)]
  have C0 := hide (fun W => refRight_val m true hr W)
  have C1 := hide (fun W => state_is d1 W)
  have C2 := hide (fun W => add_is d2 W)
  have C3 := hide (fun W => add_is d3 W)
  have C4 := hide (fun W => kill_is d4 W)
  have C5 := hide (fun W => kill_is d5 W)
  have C6 := hide (fun W => add_is d6 W)
  have C7 := hide (fun W => leave_is d7 W)
  clear d5 d6 d7 hKr hKi
  clear d1 d2 d3 d4 hs hr hx
  have D := duo w m 2 id
  go_enter Try.func5, Try.ntmps5
  go_wp2_with fail
  refine (C0.out _).mono ?_
  rintro e w0 ⟨rfl, hB0⟩
  replace D := (D).below hB0
  obtain ⟨⟨a0, a1, a2, a3, a4, a5, a6, a7, a8⟩, ⟨n0, n1⟩, l0, l1⟩ := D.cs
  go_wp2_with fail
  refine (C1.out _).mono ?_
  clear a0 a1 a2 a3 a4 a5 a6 a7 a8 n0 n1 l0 l1
  rintro e w1 ⟨rfl, hB1⟩
  replace D := (D).below hB1
  obtain ⟨⟨a0, a1, a2, a3, a4, a5, a6, a7, a8⟩, ⟨n0, n1⟩, l0, l1⟩ := D.cs
  go_wp2_with fail
  refine (C2.out _).mono ?_
  clear a0 a1 a2 a3 a4 a5 a6 a7 a8 n0 n1 l0 l1
  rintro e w2 ⟨rfl, hB2⟩
  replace D := (D).below hB2
  obtain ⟨⟨a0, a1, a2, a3, a4, a5, a6, a7, a8⟩, ⟨n0, n1⟩, l0, l1⟩ := D.cs
  go_wp2_with fail
  refine (C3.out _).mono ?_
  clear a0 a1 a2 a3 a4 a5 a6 a7 a8 n0 n1 l0 l1
  rintro e w3 ⟨rfl, hB3⟩
  replace D := (D.alloc _).below hB3
  obtain ⟨⟨a0, a1, a2, a3, a4, a5, a6, a7, a8⟩, ⟨n0, n1⟩, l0, l1⟩ := D.cs
  go_wp2_with fail
  refine (C4.out _).mono ?_
  clear a0 a1 a2 a3 a4 a5 a6 a7 a8 n0 n1 l0 l1
  rintro e w4 ⟨rfl, hB4⟩
  replace D := (D.alloc _).below hB4
  obtain ⟨⟨a0, a1, a2, a3, a4, a5, a6, a7, a8⟩, ⟨n0, n1⟩, l0, l1⟩ := D.cs
  go_wp2_with fail
  refine (C5.out _).mono ?_
  clear a0 a1 a2 a3 a4 a5 a6 a7 a8 n0 n1 l0 l1
  rintro e w5 ⟨rfl, hB5⟩
  replace D := (D.alloc _).below hB5
  obtain ⟨⟨a0, a1, a2, a3, a4, a5, a6, a7, a8⟩, ⟨n0, n1⟩, l0, l1⟩ := D.cs
  have hK := (Mx.new w4 K).below hB5 (Mx.new w4 K).lt
  obtain ⟨q0, q1, q2, q3, q4, q5, q6, q7, q8⟩ := hK.cs
  have ql := hK.lt
  go_wp2_with fail
  refine (C6.out _).mono ?_
  clear a0 a1 a2 a3 a4 a5 a6 a7 a8 n0 n1 l0 l1
  clear q0 q1 q2 q3 q4 q5 q6 q7 q8 ql
  rintro e w6 ⟨rfl, hB6⟩
  replace D := (D.alloc _).below hB6
  replace hK := (hK.alloc _).below hB6 (hK.alloc _).lt
  obtain ⟨⟨a0, a1, a2, a3, a4, a5, a6, a7, a8⟩, ⟨n0, n1⟩, l0, l1⟩ := D.cs
  obtain ⟨q0, q1, q2, q3, q4, q5, q6, q7, q8⟩ := hK.cs
  have ql := hK.lt
  go_wp2_with fail
  refine (C7.out _).mono ?_
  clear a0 a1 a2 a3 a4 a5 a6 a7 a8 n0 n1 l0 l1
  clear q0 q1 q2 q3 q4 q5 q6 q7 q8 ql
  rintro e w7 ⟨rfl, hB7⟩
  replace D := (D.alloc _).below hB7
  obtain ⟨⟨a0, a1, a2, a3, a4, a5, a6, a7, a8⟩, ⟨n0, n1⟩, l0, l1⟩ := D.cs
  go_wp2_with fail
  refine (wakes_any _).mono ?_
  clear a0 a1 a2 a3 a4 a5 a6 a7 a8 n0 n1 l0 l1
  rintro e w8 ⟨rfl, hB8⟩
  replace D := (D.alloc _).below hB8
  go_wp2
  go_ret
  exact ⟨rfl, D.bl⟩

set_option maxRecDepth 100000 in
set_option maxHeartbeats 4000000 in
theorem once_2_3 (m : Mm) (id : Int) (i : Nat) (hx : idx 2 id = some i) (hr : rightM m = true) (hs : m i = 3) (w : World) : Calls Try.prog 5 #[mv m, nv 2 id] w fun e W' => e = .returned (.bool true) ∧ Below w.heap.size w W' := by
  have d1 : stateM m 2 id = (3, true) := by unfold stateM; rw [hx, ← hs]
  have d2 : deedM addF m 2 id = (zeroM, 201) := by rw [deedM_some hx hr]; unfold addF; rw [if_neg (by omega)]
  have d3 : deedM addF m 2 id = (zeroM, 201) := by rw [deedM_some hx hr]; unfold addF; rw [if_neg (by omega)]
  have d4 : deedM killF m 2 id = (zeroM, 202) := by rw [deedM_some hx hr]; unfold killF; rw [if_neg (by omega)]
  have C0 := hide (fun W => refRight_val m true hr W)
  have C1 := hide (fun W => state_is d1 W)
  have C2 := hide (fun W => add_is d2 W)
  have C3 := hide (fun W => add_is d3 W)
  have C4 := hide (fun W => kill_is d4 W)
  clear d1 d2 d3 d4 hs hr hx
  have D := duo w m 2 id
  go_enter Try.func5, Try.ntmps5
  go_wp2_with fail
  refine (C0.out _).mono ?_
  rintro e w0 ⟨rfl, hB0⟩
  replace D := (D).below hB0
  obtain ⟨⟨a0, a1, a2, a3, a4, a5, a6, a7, a8⟩, ⟨n0, n1⟩, l0, l1⟩ := D.cs
  go_wp2_with fail
  refine (C1.out _).mono ?_
  clear a0 a1 a2 a3 a4 a5 a6 a7 a8 n0 n1 l0 l1
  rintro e w1 ⟨rfl, hB1⟩
  replace D := (D).below hB1
  obtain ⟨⟨a0, a1, a2, a3, a4, a5, a6, a7, a8⟩, ⟨n0, n1⟩, l0, l1⟩ := D.cs
  go_wp2_with fail
  refine (C2.out _).mono ?_
  clear a0 a1 a2 a3 a4 a5 a6 a7 a8 n0 n1 l0 l1
  rintro e w2 ⟨rfl, hB2⟩
  replace D := (D).below hB2
  obtain ⟨⟨a0, a1, a2, a3, a4, a5, a6, a7, a8⟩, ⟨n0, n1⟩, l0, l1⟩ := D.cs
  go_wp2_with fail
  refine (C3.out _).mono ?_
  clear a0 a1 a2 a3 a4 a5 a6 a7 a8 n0 n1 l0 l1
  rintro e w3 ⟨rfl, hB3⟩
  replace D := (D.alloc _).below hB3
  obtain ⟨⟨a0, a1, a2, a3, a4, a5, a6, a7, a8⟩, ⟨n0, n1⟩, l0, l1⟩ := D.cs
  go_wp2_with fail
  refine (C4.out _).mono ?_
  clear a0 a1 a2 a3 a4 a5 a6 a7 a8 n0 n1 l0 l1
  rintro e w4 ⟨rfl, hB4⟩
  replace D := (D.alloc _).below hB4
  obtain ⟨⟨a0, a1, a2, a3, a4, a5, a6, a7, a8⟩, ⟨n0, n1⟩, l0, l1⟩ := D.cs
  go_wp2_with fail
  refine (wakes_any _).mono ?_
  clear a0 a1 a2 a3 a4 a5 a6 a7 a8 n0 n1 l0 l1
  rintro e w5 ⟨rfl, hB5⟩
  replace D := (D.alloc _).below hB5
  go_wp2
  go_ret
  exact ⟨rfl, D.bl⟩

set_option maxRecDepth 100000 in
set_option maxHeartbeats 4000000 in
theorem memberOnce_any (m : Mm) (hm : ∀ i, i < 9 → 0 ≤ m i) (k id : Int) (w : World) : Calls Try.prog 5 #[mv m, nv k id] w fun e W' => e = .returned (.bool true) ∧ Below w.heap.size w W' := by
  cases hr : rightM m with
  | false =>
    have C0 := hide (fun W => refRight_val m false hr W)
    have D := duo w m k id
    clear hr hm
    go_enter Try.func5, Try.ntmps5
    go_wp2_with fail
    refine (C0.out _).mono ?_
    rintro e w0 ⟨rfl, hB0⟩
    replace D := D.below hB0
    go_wp2_with fail
    refine (wakes_any _).mono ?_
    rintro e w1 ⟨rfl, hB1⟩
    replace D := D.below hB1
    go_wp2
    go_ret
    exact ⟨rfl, D.bl⟩
  | true =>
    cases hx : idx k id with
    | none =>
      have d1 : stateM m k id = (0, false) := by unfold stateM; rw [hx]
      have C0 := hide (fun W => refRight_val m true hr W)
      have C1 := hide (fun W => state_is d1 W)
      have C2 := hide (fun W => add_is (deedM_none (f := addF) (m := m) hx) W)
      have C3 := hide (fun W => kill_is (deedM_none (f := killF) (m := m) hx) W)
      have D := duo w m k id
      clear hr hm hx d1
      go_enter Try.func5, Try.ntmps5
      go_wp2_with fail
      refine (C0.out _).mono ?_
      rintro e w0 ⟨rfl, hB0⟩
      replace D := (D).below hB0
      obtain ⟨⟨a0, a1, a2, a3, a4, a5, a6, a7, a8⟩, ⟨n0, n1⟩, l0, l1⟩ := D.cs
      go_wp2_with fail
      refine (C1.out _).mono ?_
      clear a0 a1 a2 a3 a4 a5 a6 a7 a8 n0 n1 l0 l1
      rintro e w1 ⟨rfl, hB1⟩
      replace D := (D).below hB1
      obtain ⟨⟨a0, a1, a2, a3, a4, a5, a6, a7, a8⟩, ⟨n0, n1⟩, l0, l1⟩ := D.cs
      go_wp2_with fail
      refine (C2.out _).mono ?_
      clear a0 a1 a2 a3 a4 a5 a6 a7 a8 n0 n1 l0 l1
      rintro e w2 ⟨rfl, hB2⟩
      replace D := (D).below hB2
      obtain ⟨⟨a0, a1, a2, a3, a4, a5, a6, a7, a8⟩, ⟨n0, n1⟩, l0, l1⟩ := D.cs
      go_wp2_with fail
      refine (C3.out _).mono ?_
      clear a0 a1 a2 a3 a4 a5 a6 a7 a8 n0 n1 l0 l1
      rintro e w3 ⟨rfl, hB3⟩
      replace D := (D.alloc _).below hB3
      obtain ⟨⟨a0, a1, a2, a3, a4, a5, a6, a7, a8⟩, ⟨n0, n1⟩, l0, l1⟩ := D.cs
      go_wp2_with fail
      refine (wakes_any _).mono ?_
      clear a0 a1 a2 a3 a4 a5 a6 a7 a8 n0 n1 l0 l1
      rintro e w5 ⟨rfl, hB5⟩
      replace D := (D.alloc _).below hB5
      go_wp2
      go_ret
      exact ⟨rfl, D.bl⟩
    | some i =>
      have hi := idx_lt hx
      have h0 := hm i hi
      have h1 := rightM_at hr hi
      have h4 : m i < 4 := by
        unfold okAt at h1
        simp only [Bool.and_eq_true, decide_eq_true_eq] at h1
        exact h1.1
      have hk : k = 1 ∨ k = 2 := by
        rcases idx_some hx with ⟨h, _⟩ | ⟨h, _⟩
        · exact .inl h
        · exact .inr h
      have hs : m i = 0 ∨ m i = 1 ∨ m i = 2 ∨ m i = 3 := by omega
      rcases hk with rfl | rfl <;> rcases hs with hs | hs | hs | hs
      · exact once_1_0 m id i hx hr hs w
      · exact once_1_1 m id i hx hr hs w
      · exact once_1_2 m id i hx hr hs w
      · exact once_1_3 m id i hx hr hs w
      · exact once_2_0 m id i hx hr hs w
      · exact once_2_1 m id i hx hr hs w
      · exact once_2_2 m id i hx hr hs w
      · exact once_2_3 m id i hx hr hs w
end Go.Proofs.Ytigpdkbfailadaa
