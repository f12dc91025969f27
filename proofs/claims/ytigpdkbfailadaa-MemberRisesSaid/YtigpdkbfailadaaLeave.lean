/-
  The walks of Leave, member's and the document's.
-/
import Derived.Test.YtigpdkbfailadaaRows
import Derived.Test.YtigpdkbfailadaaAppend
import Derived.Test.YtigpdkbfailadaaTail
import Derived.Shelf.Abstract
import Derived.Shelf.RegionOpen
import Derived.WalkKit
import Derived.OwnWalkIn
import Derived.TacticsInMore
import Derived.LoopNIn
import Derived.LoopIn
import Derived.WalkMore
import Derived.ScopeJumps
import Derived.Lib.Hide
import Derived.WalkSpells
import Derived.WalkLawsBesides
import Derived.Deep.QuietTactic
import Derived.BigQuiet
import Derived.Laws.Rows
import Derived.Test.YtigpdkbfailadaaMems
import Derived.Test.YtigpdkbfailadaaLeave1
namespace Go.Proofs.Ytigpdkbfailadaa
open Go Go.RowKit Go.Shelf
set_option linter.unusedSimpArgs false
set_option linter.unusedVariables false
attribute [local go_sem] Oper.semAt_some

/-- Members, a number and room for members, each in a block. -/
structure Trl (m : Mm) (id : Int) (w W : World) : Prop where
  mx : Mx W w.heap.size m
  bx : Boxed W (w.heap.size + 1) 3 (.int .i64 id)
  zx : Mx W (w.heap.size + 1 + 1) zeroM
  bl : Below w.heap.size w W
theorem trl (w : World) (m : Mm) (id : Int) : Trl m id w (((w.alloc (.cells (mcells m) 25)).alloc (.cells #[.int .i64 id] 3)).alloc (.cells zcells 25)) := by
  have h1 := Boxed.new (w.alloc (.cells (mcells m) 25)) 3 (.int .i64 id)
  rw [World.size_alloc] at h1
  refine ⟨((Mx.new w m).alloc _).alloc _, h1.alloc _, Mx.newAt (by simp) zeroM, ((((Below.refl _ w).alloc (Nat.le_refl _) _).alloc (by simp) _).alloc (by simp; omega) _)⟩
section
variable {m : Mm} {id : Int} {w W W' : World}
theorem Trl.below (h : Trl m id w W) (hB : Below W.heap.size W W') : Trl m id w W' := ⟨h.mx.below hB h.mx.lt, (hB.block _ h.bx.lt).trans h.bx, h.zx.below hB h.zx.lt, h.bl.trans (hB.mono h.bl.size)⟩
/-- What the walk is told of it. -/
theorem Trl.cs (h : Trl m id w W) : (W.cell? ⟨w.heap.size, 0, none⟩ = some (u8v (m 0)) ∧ W.cell? ⟨w.heap.size, 1, none⟩ = some (u8v (m 1)) ∧ W.cell? ⟨w.heap.size, 2, none⟩ = some (u8v (m 2)) ∧ W.cell? ⟨w.heap.size, 3, none⟩ = some (u8v (m 3)) ∧ W.cell? ⟨w.heap.size, 4, none⟩ = some (u8v (m 4)) ∧
    W.cell? ⟨w.heap.size, 5, none⟩ = some (u8v (m 5)) ∧ W.cell? ⟨w.heap.size, 6, none⟩ = some (u8v (m 6)) ∧ W.cell? ⟨w.heap.size, 7, none⟩ = some (u8v (m 7)) ∧ W.cell? ⟨w.heap.size, 8, none⟩ = some (u8v (m 8))) ∧
    W.cell? ⟨w.heap.size + 1, 0, none⟩ = some (.int .i64 id) ∧
    (W.cell? ⟨w.heap.size + 1 + 1, 0, none⟩ = some (.int .u8 0) ∧ W.cell? ⟨w.heap.size + 1 + 1, 1, none⟩ = some (.int .u8 0) ∧ W.cell? ⟨w.heap.size + 1 + 1, 2, none⟩ = some (.int .u8 0) ∧ W.cell? ⟨w.heap.size + 1 + 1, 3, none⟩ = some (.int .u8 0) ∧ W.cell? ⟨w.heap.size + 1 + 1, 4, none⟩ = some (.int .u8 0) ∧
    W.cell? ⟨w.heap.size + 1 + 1, 5, none⟩ = some (.int .u8 0) ∧ W.cell? ⟨w.heap.size + 1 + 1, 6, none⟩ = some (.int .u8 0) ∧ W.cell? ⟨w.heap.size + 1 + 1, 7, none⟩ = some (.int .u8 0) ∧ W.cell? ⟨w.heap.size + 1 + 1, 8, none⟩ = some (.int .u8 0)) ∧
    (W.frozen? ⟨w.heap.size + 1 + 1, 0, none⟩ = false ∧ W.frozen? ⟨w.heap.size + 1 + 1, 1, none⟩ = false ∧ W.frozen? ⟨w.heap.size + 1 + 1, 2, none⟩ = false ∧ W.frozen? ⟨w.heap.size + 1 + 1, 3, none⟩ = false ∧ W.frozen? ⟨w.heap.size + 1 + 1, 4, none⟩ = false ∧
    W.frozen? ⟨w.heap.size + 1 + 1, 5, none⟩ = false ∧ W.frozen? ⟨w.heap.size + 1 + 1, 6, none⟩ = false ∧ W.frozen? ⟨w.heap.size + 1 + 1, 7, none⟩ = false ∧ W.frozen? ⟨w.heap.size + 1 + 1, 8, none⟩ = false) :=
  ⟨h.mx.cs, h.bx.cell, h.zx.cs, ⟨h.zx.fz 0, h.zx.fz 1, h.zx.fz 2, h.zx.fz 3, h.zx.fz 4, h.zx.fz 5, h.zx.fz 6, h.zx.fz 7, h.zx.fz 8⟩⟩
end

set_option maxHeartbeats 2000000 in
theorem leave_any (m : Mm) (id : Int) (w : World) : Calls Try.prog 9 #[mv m, .int .i64 id] w fun e W' => e = .returned (.tuple #[mv (deedM leaveF m 2 id).1, .int .i64 (deedM leaveF m 2 id).2]) ∧ Below w.heap.size w W' := by
  have T0 := trl w m id
  obtain ⟨⟨m', v⟩, hd⟩ : ∃ d, deedM leaveF m 2 id = d := ⟨_, rfl⟩
  obtain ⟨t, ht⟩ : ∃ t, bitsTo m 0 aliveS 6 = t := ⟨_, rfl⟩
  have HT := hide (fun W => ht ▸ takers_any m W)
  have HC := hide (fun (W : World) (gt gi : Nat) h1 h2 => hd ▸ turn29_any m id gt gi t W h1 h2 ht.symm)
  rw [hd]
  clear hd ht
  go_enter Try.func9, Try.ntmps9
  go_wp2_with (first | (go_at_call 21; refine (HT.out _).mono ?_; rintro e w1 ⟨rfl, hB1⟩; have T1 := T0.below hB1; have T2 := T1.below ((Below.refl w1.heap.size w1).alloc (Nat.le_refl _) (.cells #[.int .u8 (t : Nat)] 5)); have hbt := Boxed.new w1 5 (.int .u8 (t : Nat)); obtain ⟨⟨a0, a1, a2, a3, a4, a5, a6, a7, a8⟩, n0, ⟨z0, z1, z2, z3, z4, z5, z6, z7, z8⟩, ⟨f0, f1, f2, f3, f4, f5, f6, f7, f8⟩⟩ := T2.cs) | (go_at_call 26; refine (HC.out _ _ _ hbt T2.bx).mono ?_; clear a0 a1 a2 a3 a4 a5 a6 a7 a8 n0 z0 z1 z2 z3 z4 z5 z6 z7 z8 f0 f1 f2 f3 f4 f5 f6 f7 f8; rintro e w3 ⟨rfl, hB3⟩; have T3 := T2.below hB3; obtain ⟨⟨a0, a1, a2, a3, a4, a5, a6, a7, a8⟩, n0, ⟨z0, z1, z2, z3, z4, z5, z6, z7, z8⟩, ⟨f0, f1, f2, f3, f4, f5, f6, f7, f8⟩⟩ := T3.cs))
  exact bodyPost_ret (results_mx2 rfl _ _ _ m' _ rfl rfl (put9_mx T3.zx m')) rfl ⟨rfl, put9_below T3.bl (by omega) m'⟩

/-- Members, room for members and a backend's node, each in a block. -/
structure Tro (m : Mm) (id : Int) (w W : World) : Prop where
  mx : Mx W w.heap.size m
  nx : Nx W (w.heap.size + 1 + 1) 2 id
  zx : Mx W (w.heap.size + 1) zeroM
  bl : Below w.heap.size w W
theorem tro (w : World) (m : Mm) (id : Int) : Tro m id w (((w.alloc (.cells (mcells m) 25)).alloc (.cells zcells 25)).alloc (.cells #[.int .u8 2, .int .i64 id] 27)) := by
  have h1 : Nx (((w.alloc (.cells (mcells m) 25)).alloc (.cells zcells 25)).alloc (.cells #[.int .u8 2, .int .i64 id] 27)) (w.heap.size + 1 + 1) 2 id := by
    have h := World.alloc_heap_new ((w.alloc (.cells (mcells m) 25)).alloc (.cells zcells 25)) (.cells #[.int .u8 2, .int .i64 id] 27)
    rw [World.size_alloc, World.size_alloc] at h
    exact h
  refine ⟨((Mx.new w m).alloc _).alloc _, h1, (Mx.newAt (by simp) zeroM).alloc _, ((((Below.refl _ w).alloc (Nat.le_refl _) _).alloc (by simp) _).alloc (by simp; omega) _)⟩
section
variable {m : Mm} {id : Int} {w W W' : World}
theorem Tro.below (h : Tro m id w W) (hB : Below W.heap.size W W') : Tro m id w W' := ⟨h.mx.below hB h.mx.lt, h.nx.below hB h.nx.lt, h.zx.below hB h.zx.lt, h.bl.trans (hB.mono h.bl.size)⟩
/-- What the walk is told of it. -/
theorem Tro.cs (h : Tro m id w W) : (W.cell? ⟨w.heap.size, 0, none⟩ = some (u8v (m 0)) ∧ W.cell? ⟨w.heap.size, 1, none⟩ = some (u8v (m 1)) ∧ W.cell? ⟨w.heap.size, 2, none⟩ = some (u8v (m 2)) ∧ W.cell? ⟨w.heap.size, 3, none⟩ = some (u8v (m 3)) ∧ W.cell? ⟨w.heap.size, 4, none⟩ = some (u8v (m 4)) ∧
    W.cell? ⟨w.heap.size, 5, none⟩ = some (u8v (m 5)) ∧ W.cell? ⟨w.heap.size, 6, none⟩ = some (u8v (m 6)) ∧ W.cell? ⟨w.heap.size, 7, none⟩ = some (u8v (m 7)) ∧ W.cell? ⟨w.heap.size, 8, none⟩ = some (u8v (m 8))) ∧
    (W.cell? ⟨w.heap.size + 1 + 1, 0, none⟩ = some (.int .u8 2) ∧ W.cell? ⟨w.heap.size + 1 + 1, 1, none⟩ = some (.int .i64 id)) ∧
    (W.cell? ⟨w.heap.size + 1, 0, none⟩ = some (.int .u8 0) ∧ W.cell? ⟨w.heap.size + 1, 1, none⟩ = some (.int .u8 0) ∧ W.cell? ⟨w.heap.size + 1, 2, none⟩ = some (.int .u8 0) ∧ W.cell? ⟨w.heap.size + 1, 3, none⟩ = some (.int .u8 0) ∧ W.cell? ⟨w.heap.size + 1, 4, none⟩ = some (.int .u8 0) ∧
    W.cell? ⟨w.heap.size + 1, 5, none⟩ = some (.int .u8 0) ∧ W.cell? ⟨w.heap.size + 1, 6, none⟩ = some (.int .u8 0) ∧ W.cell? ⟨w.heap.size + 1, 7, none⟩ = some (.int .u8 0) ∧ W.cell? ⟨w.heap.size + 1, 8, none⟩ = some (.int .u8 0)) ∧
    (W.frozen? ⟨w.heap.size + 1, 0, none⟩ = false ∧ W.frozen? ⟨w.heap.size + 1, 1, none⟩ = false ∧ W.frozen? ⟨w.heap.size + 1, 2, none⟩ = false ∧ W.frozen? ⟨w.heap.size + 1, 3, none⟩ = false ∧ W.frozen? ⟨w.heap.size + 1, 4, none⟩ = false ∧
    W.frozen? ⟨w.heap.size + 1, 5, none⟩ = false ∧ W.frozen? ⟨w.heap.size + 1, 6, none⟩ = false ∧ W.frozen? ⟨w.heap.size + 1, 7, none⟩ = false ∧ W.frozen? ⟨w.heap.size + 1, 8, none⟩ = false) :=
  ⟨h.mx.cs, ⟨h.nx.c0, h.nx.c1⟩, h.zx.cs, ⟨h.zx.fz 0, h.zx.fz 1, h.zx.fz 2, h.zx.fz 3, h.zx.fz 4, h.zx.fz 5, h.zx.fz 6, h.zx.fz 7, h.zx.fz 8⟩⟩
end

theorem refTakers_val (m : Mm) (t : Nat) (ht : bitsTo m 0 aliveS 6 = t) (w : World) : Calls Try.prog 22 #[mv m] w fun e W' => e = .returned (.int .u8 (t : Nat)) ∧ Below w.heap.size w W' := ht ▸ refTakers_any m w

set_option maxHeartbeats 4000000 in
theorem refLeave_any (m : Mm) (id : Int) (w : World) : Calls Try.prog 10 #[mv m, .int .i64 id] w fun e W' => e = .returned (.tuple #[mv (deedM leaveF m 2 id).1, .int .i64 (deedM leaveF m 2 id).2]) ∧ Below w.heap.size w W' := by
  have T0 := tro w m id
  cases hx : idx 2 id with
  | none =>
    rw [deedM_none hx]
    go_enter Try.func10, Try.ntmps10
    go_wp2_with (go_at_call 14; refine (refState_none hx m _).mono ?_; rintro e hB1w ⟨rfl, hB1⟩; have T1 := T0.below hB1; obtain ⟨⟨a0, a1, a2, a3, a4, a5, a6, a7, a8⟩, ⟨n0, n1⟩, ⟨z0, z1, z2, z3, z4, z5, z6, z7, z8⟩, ⟨f0, f1, f2, f3, f4, f5, f6, f7, f8⟩⟩ := T1.cs)
    exact bodyPost_ret (results_mx2 rfl _ _ _ zeroM _ rfl rfl (put9_mx T1.zx zeroM)) rfl ⟨rfl, put9_below T1.bl (by omega) zeroM⟩
  | some i =>
    cases hr : rightM m with
    | false =>
      rw [deedM_wrong hx hr]
      go_enter Try.func10, Try.ntmps10
      go_wp2_with (first | (go_at_call 14; refine (refState_some hx m _).mono ?_; rintro e hB1w ⟨rfl, hB1⟩; have T1 := T0.below hB1; obtain ⟨⟨a0, a1, a2, a3, a4, a5, a6, a7, a8⟩, ⟨n0, n1⟩, ⟨z0, z1, z2, z3, z4, z5, z6, z7, z8⟩, ⟨f0, f1, f2, f3, f4, f5, f6, f7, f8⟩⟩ := T1.cs) | (go_at_call 18; refine (refRight_val m _ hr _).mono ?_; clear a0 a1 a2 a3 a4 a5 a6 a7 a8 n0 n1 z0 z1 z2 z3 z4 z5 z6 z7 z8 f0 f1 f2 f3 f4 f5 f6 f7 f8; rintro e hB2w ⟨rfl, hB2⟩; have T2 := T1.below hB2; obtain ⟨⟨a0, a1, a2, a3, a4, a5, a6, a7, a8⟩, ⟨n0, n1⟩, ⟨z0, z1, z2, z3, z4, z5, z6, z7, z8⟩, ⟨f0, f1, f2, f3, f4, f5, f6, f7, f8⟩⟩ := T2.cs))
      exact bodyPost_ret (results_mx2 rfl _ _ _ zeroM _ rfl rfl (put9_mx T2.zx zeroM)) rfl ⟨rfl, put9_below T2.bl (by omega) zeroM⟩
    | true =>
      rw [deedM_some hx hr]
      obtain ⟨s, hs⟩ : ∃ s, m i = s := ⟨_, rfl⟩
      have ST := hide (fun W => hs ▸ refState_some hx m W)
      have HS := hide hs
      clear hs
      by_cases h1 : s = 1
      · have hw := hide (fun W => refWith_any hx m 2 W)
        have hl : leaveF m i = if bitsTo (upd m i 2) 0 aliveS 6 = 0 then (zeroM, 200) else (upd m i 2, 0) := by unfold leaveF; rw [if_pos (by rw [HS.out]; exact h1)]
        rw [hl]
        obtain ⟨m2, hm2⟩ : ∃ m2, upd m i 2 = m2 := ⟨_, rfl⟩
        obtain ⟨t, ht⟩ : ∃ t, bitsTo m2 0 aliveS 6 = t := ⟨_, rfl⟩
        have HTK := hide (fun W => refTakers_val m2 t ht W)
        rw [hm2, ht]
        have HW := hide (fun W => hm2 ▸ hw.out W)
        subst h1
        clear hm2 ht hl hw
        by_cases hz : t = 0
        · subst hz
          rw [if_pos rfl]
          go_enter Try.func10, Try.ntmps10
          go_wp2_with (first | (go_at_call 14; refine (ST.out _).mono ?_; rintro e hB1w ⟨rfl, hB1⟩; have T1 := T0.below hB1; obtain ⟨⟨a0, a1, a2, a3, a4, a5, a6, a7, a8⟩, ⟨n0, n1⟩, ⟨z0, z1, z2, z3, z4, z5, z6, z7, z8⟩, ⟨f0, f1, f2, f3, f4, f5, f6, f7, f8⟩⟩ := T1.cs) | (go_at_call 18; refine (refRight_val m _ hr _).mono ?_; clear a0 a1 a2 a3 a4 a5 a6 a7 a8 n0 n1 z0 z1 z2 z3 z4 z5 z6 z7 z8 f0 f1 f2 f3 f4 f5 f6 f7 f8; rintro e hB2w ⟨rfl, hB2⟩; have T2 := T1.below hB2; obtain ⟨⟨a0, a1, a2, a3, a4, a5, a6, a7, a8⟩, ⟨n0, n1⟩, ⟨z0, z1, z2, z3, z4, z5, z6, z7, z8⟩, ⟨f0, f1, f2, f3, f4, f5, f6, f7, f8⟩⟩ := T2.cs) | (go_at_call 28; refine (HW.out _).mono ?_; clear a0 a1 a2 a3 a4 a5 a6 a7 a8 n0 n1 z0 z1 z2 z3 z4 z5 z6 z7 z8 f0 f1 f2 f3 f4 f5 f6 f7 f8; rintro e hB3w ⟨rfl, hB3⟩; have T3 := T2.below hB3; obtain ⟨⟨a0, a1, a2, a3, a4, a5, a6, a7, a8⟩, ⟨n0, n1⟩, ⟨z0, z1, z2, z3, z4, z5, z6, z7, z8⟩, ⟨f0, f1, f2, f3, f4, f5, f6, f7, f8⟩⟩ := T3.cs) | (go_at_call 22; refine (HTK.out _).mono ?_; clear a0 a1 a2 a3 a4 a5 a6 a7 a8 n0 n1 z0 z1 z2 z3 z4 z5 z6 z7 z8 f0 f1 f2 f3 f4 f5 f6 f7 f8; rintro e w5 ⟨rfl, hB5⟩; have T5 := (T3.below ((Below.refl _ hB3w).alloc (Nat.le_refl _) _)).below hB5; have hm5 := (Mx.new hB3w m2).below hB5 (Mx.new hB3w m2).lt; obtain ⟨⟨a0, a1, a2, a3, a4, a5, a6, a7, a8⟩, ⟨n0, n1⟩, ⟨z0, z1, z2, z3, z4, z5, z6, z7, z8⟩, ⟨f0, f1, f2, f3, f4, f5, f6, f7, f8⟩⟩ := T5.cs; obtain ⟨b0, b1, b2, b3, b4, b5, b6, b7, b8⟩ := hm5.cs))
          exact bodyPost_ret (results_mx2 rfl _ _ _ zeroM _ rfl rfl (put9_mx T5.zx zeroM)) rfl ⟨rfl, put9_below T5.bl (by omega) zeroM⟩
        · rw [if_neg hz]
          have hz' : ((t : Int) == 0) = false := by simp; omega
          go_enter Try.func10, Try.ntmps10
          go_wp2_with (first | (go_at_call 14; refine (ST.out _).mono ?_; rintro e hB1w ⟨rfl, hB1⟩; have T1 := T0.below hB1; obtain ⟨⟨a0, a1, a2, a3, a4, a5, a6, a7, a8⟩, ⟨n0, n1⟩, ⟨z0, z1, z2, z3, z4, z5, z6, z7, z8⟩, ⟨f0, f1, f2, f3, f4, f5, f6, f7, f8⟩⟩ := T1.cs) | (go_at_call 18; refine (refRight_val m _ hr _).mono ?_; clear a0 a1 a2 a3 a4 a5 a6 a7 a8 n0 n1 z0 z1 z2 z3 z4 z5 z6 z7 z8 f0 f1 f2 f3 f4 f5 f6 f7 f8; rintro e hB2w ⟨rfl, hB2⟩; have T2 := T1.below hB2; obtain ⟨⟨a0, a1, a2, a3, a4, a5, a6, a7, a8⟩, ⟨n0, n1⟩, ⟨z0, z1, z2, z3, z4, z5, z6, z7, z8⟩, ⟨f0, f1, f2, f3, f4, f5, f6, f7, f8⟩⟩ := T2.cs) | (go_at_call 28; refine (HW.out _).mono ?_; clear a0 a1 a2 a3 a4 a5 a6 a7 a8 n0 n1 z0 z1 z2 z3 z4 z5 z6 z7 z8 f0 f1 f2 f3 f4 f5 f6 f7 f8; rintro e hB3w ⟨rfl, hB3⟩; have T3 := T2.below hB3; obtain ⟨⟨a0, a1, a2, a3, a4, a5, a6, a7, a8⟩, ⟨n0, n1⟩, ⟨z0, z1, z2, z3, z4, z5, z6, z7, z8⟩, ⟨f0, f1, f2, f3, f4, f5, f6, f7, f8⟩⟩ := T3.cs) | (go_at_call 22; refine (HTK.out _).mono ?_; clear a0 a1 a2 a3 a4 a5 a6 a7 a8 n0 n1 z0 z1 z2 z3 z4 z5 z6 z7 z8 f0 f1 f2 f3 f4 f5 f6 f7 f8; rintro e w5 ⟨rfl, hB5⟩; have T5 := (T3.below ((Below.refl _ hB3w).alloc (Nat.le_refl _) _)).below hB5; have hm5 := (Mx.new hB3w m2).below hB5 (Mx.new hB3w m2).lt; obtain ⟨⟨a0, a1, a2, a3, a4, a5, a6, a7, a8⟩, ⟨n0, n1⟩, ⟨z0, z1, z2, z3, z4, z5, z6, z7, z8⟩, ⟨f0, f1, f2, f3, f4, f5, f6, f7, f8⟩⟩ := T5.cs; obtain ⟨b0, b1, b2, b3, b4, b5, b6, b7, b8⟩ := hm5.cs))
          exact bodyPost_ret (results_mx2 rfl _ _ _ m2 _ rfl rfl (put9_mx T5.zx m2)) rfl ⟨rfl, put9_below T5.bl (by omega) m2⟩
      · rw [show leaveF m i = (zeroM, 202) from by unfold leaveF; rw [HS.out, if_neg h1]]
        have e1 : (s != 1) = true := by simp [h1]
        clear h1
        go_enter Try.func10, Try.ntmps10
        go_wp2_with (first | (go_at_call 14; refine (ST.out _).mono ?_; rintro e hB1w ⟨rfl, hB1⟩; have T1 := T0.below hB1; obtain ⟨⟨a0, a1, a2, a3, a4, a5, a6, a7, a8⟩, ⟨n0, n1⟩, ⟨z0, z1, z2, z3, z4, z5, z6, z7, z8⟩, ⟨f0, f1, f2, f3, f4, f5, f6, f7, f8⟩⟩ := T1.cs) | (go_at_call 18; refine (refRight_val m _ hr _).mono ?_; clear a0 a1 a2 a3 a4 a5 a6 a7 a8 n0 n1 z0 z1 z2 z3 z4 z5 z6 z7 z8 f0 f1 f2 f3 f4 f5 f6 f7 f8; rintro e hB2w ⟨rfl, hB2⟩; have T2 := T1.below hB2; obtain ⟨⟨a0, a1, a2, a3, a4, a5, a6, a7, a8⟩, ⟨n0, n1⟩, ⟨z0, z1, z2, z3, z4, z5, z6, z7, z8⟩, ⟨f0, f1, f2, f3, f4, f5, f6, f7, f8⟩⟩ := T2.cs))
        exact bodyPost_ret (results_mx2 rfl _ _ _ zeroM _ rfl rfl (put9_mx T2.zx zeroM)) rfl ⟨rfl, put9_below T2.bl (by omega) zeroM⟩
end Go.Proofs.Ytigpdkbfailadaa
