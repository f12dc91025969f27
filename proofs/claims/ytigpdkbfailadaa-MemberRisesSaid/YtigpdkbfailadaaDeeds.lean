/-
  Deeds: what they make of members; the walks of the document's Add and Kill, of member's turn under the two.
-/
import Derived.Test.YtigpdkbfailadaaRows
import Derived.Test.YtigpdkbfailadaaAppend
import Derived.Test.YtigpdkbfailadaaTail
import Derived.Shelf.Abstract
import Derived.Shelf.RegionOpen
import Derived.WalkKit
import Derived.OwnWalkIn
import Derived.TacticsInMore
import Derived.LoopNIn
import Derived.LoopIn
import Derived.WalkMore
import Derived.ScopeJumps
import Derived.Lib.Hide
import Derived.WalkSpells
import Derived.WalkLawsBesides
import Derived.Deep.QuietTactic
import Derived.BigQuiet
import Derived.Laws.Rows
import Derived.Test.YtigpdkbfailadaaMems
import Derived.Test.YtigpdkbfailadaaWith
namespace Go.Proofs.Ytigpdkbfailadaa
open Go Go.RowKit Go.Shelf
set_option linter.unusedSimpArgs false
set_option linter.unusedVariables false
attribute [local go_sem] Oper.semAt_some

/-- What a deed makes of members: the members, or none and a number. -/
def deedM (f : Mm → Nat → Mm × Int) (m : Mm) (k id : Int) : Mm × Int :=
  match idx k id with
  | none => (zeroM, 2)
  | some i => if rightM m then f m i else (zeroM, 2)
def addF (m : Mm) (i : Nat) : Mm × Int := if m i = 0 then (upd m i 1, 0) else (zeroM, 201)
def killF (m : Mm) (i : Nat) : Mm × Int := if m i = 1 ∨ m i = 2 then (upd m i 3, 0) else (zeroM, 202)
def leaveF (m : Mm) (i : Nat) : Mm × Int := if m i = 1 then (if bitsTo (upd m i 2) 0 aliveS 6 = 0 then (zeroM, 200) else (upd m i 2, 0)) else (zeroM, 202)
theorem deedM_none {f : Mm → Nat → Mm × Int} {m : Mm} {k id : Int} (h : idx k id = none) : deedM f m k id = (zeroM, 2) := by unfold deedM; rw [h]
theorem deedM_wrong {f : Mm → Nat → Mm × Int} {m : Mm} {k id : Int} {i : Nat} (h : idx k id = some i) (hr : rightM m = false) : deedM f m k id = (zeroM, 2) := by unfold deedM; rw [h]; simp [hr]
theorem deedM_some {f : Mm → Nat → Mm × Int} {m : Mm} {k id : Int} {i : Nat} (h : idx k id = some i) (hr : rightM m = true) : deedM f m k id = f m i := by unfold deedM; rw [h]; simp [hr]

theorem deed_end {fn : Func} {p q : Tmp} (hr : fn.results = #[.cell p 25, .tmp q]) (ts : Array Value) (m' : Mm) (v : Value) {m : Mm} {k id : Int} {w W : World} (T : Tri m k id w W) (hp : ts.getD p undef = .pointer (some ⟨w.heap.size + 1 + 1, 0, none⟩)) (hq : ts.getD q undef = v) :
    bodyPost Try.prog fn (fun e W' => e = .returned (.tuple #[mv m', v]) ∧ Below w.heap.size w W') .ret { tmps := ts, defers := [] } (put9 W (w.heap.size + 1 + 1) m') :=
  bodyPost_ret (results_mx2 hr ts _ _ m' v hp hq (put9_mx T.zx m')) rfl ⟨rfl, put9_below T.bl (by omega) m'⟩

theorem refRight_val (m : Mm) (v : Bool) (hv : rightM m = v) (w : World) : Calls Try.prog 18 #[mv m] w fun e W' => e = .returned (.bool v) ∧ Below w.heap.size w W' := hv ▸ refRight_any m w
theorem right_val (m : Mm) (v : Bool) (hv : rightM m = v) (w : World) : Calls Try.prog 17 #[mv m] w fun e W' => e = .returned (.bool v) ∧ Below w.heap.size w W' := hv ▸ right_any m w

set_option maxHeartbeats 4000000 in
theorem refAdd_any (m : Mm) (k id : Int) (w : World) : Calls Try.prog 8 #[mv m, nv k id] w fun e W' => e = .returned (.tuple #[mv (deedM addF m k id).1, .int .i64 (deedM addF m k id).2]) ∧ Below w.heap.size w W' := by
  have T0 := tri w m k id
  cases hx : idx k id with
  | none =>
    rw [deedM_none hx]
    go_enter Try.func8, Try.ntmps8
    go_wp2_with (go_at_call 14; refine (refState_none hx m _).mono ?_; rintro e hB1w ⟨rfl, hB1⟩; have T1 := T0.below hB1; obtain ⟨⟨a0, a1, a2, a3, a4, a5, a6, a7, a8⟩, ⟨n0, n1⟩, ⟨z0, z1, z2, z3, z4, z5, z6, z7, z8⟩, ⟨f0, f1, f2, f3, f4, f5, f6, f7, f8⟩⟩ := T1.cs)
    exact deed_end rfl _ zeroM _ T1 rfl rfl
  | some i =>
    cases hr : rightM m with
    | false =>
      rw [deedM_wrong hx hr]
      go_enter Try.func8, Try.ntmps8
      go_wp2_with (first | (go_at_call 14; refine (refState_some hx m _).mono ?_; rintro e hB1w ⟨rfl, hB1⟩; have T1 := T0.below hB1; obtain ⟨⟨a0, a1, a2, a3, a4, a5, a6, a7, a8⟩, ⟨n0, n1⟩, ⟨z0, z1, z2, z3, z4, z5, z6, z7, z8⟩, ⟨f0, f1, f2, f3, f4, f5, f6, f7, f8⟩⟩ := T1.cs) | (go_at_call 18; refine (refRight_val m _ hr _).mono ?_; clear a0 a1 a2 a3 a4 a5 a6 a7 a8 n0 n1 z0 z1 z2 z3 z4 z5 z6 z7 z8 f0 f1 f2 f3 f4 f5 f6 f7 f8; rintro e hB2w ⟨rfl, hB2⟩; have T2 := T1.below hB2; obtain ⟨⟨a0, a1, a2, a3, a4, a5, a6, a7, a8⟩, ⟨n0, n1⟩, ⟨z0, z1, z2, z3, z4, z5, z6, z7, z8⟩, ⟨f0, f1, f2, f3, f4, f5, f6, f7, f8⟩⟩ := T2.cs))
      exact deed_end rfl _ zeroM _ T2 rfl rfl
    | true =>
      rw [deedM_some hx hr]
      obtain ⟨s, hs⟩ : ∃ s, m i = s := ⟨_, rfl⟩
      have ST := hide (fun W => hs ▸ refState_some hx m W)
      have HS := hide hs
      clear hs
      by_cases h0 : s = 0
      · rw [show addF m i = (upd m i 1, 0) from by unfold addF; rw [HS.out, if_pos h0]]
        subst h0
        go_enter Try.func8, Try.ntmps8
        go_wp2_with (first | (go_at_call 14; refine (ST.out _).mono ?_; rintro e hB1w ⟨rfl, hB1⟩; have T1 := T0.below hB1; obtain ⟨⟨a0, a1, a2, a3, a4, a5, a6, a7, a8⟩, ⟨n0, n1⟩, ⟨z0, z1, z2, z3, z4, z5, z6, z7, z8⟩, ⟨f0, f1, f2, f3, f4, f5, f6, f7, f8⟩⟩ := T1.cs) | (go_at_call 18; refine (refRight_val m _ hr _).mono ?_; clear a0 a1 a2 a3 a4 a5 a6 a7 a8 n0 n1 z0 z1 z2 z3 z4 z5 z6 z7 z8 f0 f1 f2 f3 f4 f5 f6 f7 f8; rintro e hB2w ⟨rfl, hB2⟩; have T2 := T1.below hB2; obtain ⟨⟨a0, a1, a2, a3, a4, a5, a6, a7, a8⟩, ⟨n0, n1⟩, ⟨z0, z1, z2, z3, z4, z5, z6, z7, z8⟩, ⟨f0, f1, f2, f3, f4, f5, f6, f7, f8⟩⟩ := T2.cs) | (go_at_call 28; refine (refWith_any hx m 1 _).mono ?_; clear a0 a1 a2 a3 a4 a5 a6 a7 a8 n0 n1 z0 z1 z2 z3 z4 z5 z6 z7 z8 f0 f1 f2 f3 f4 f5 f6 f7 f8; rintro e hB3w ⟨rfl, hB3⟩; have T3 := T2.below hB3; obtain ⟨⟨a0, a1, a2, a3, a4, a5, a6, a7, a8⟩, ⟨n0, n1⟩, ⟨z0, z1, z2, z3, z4, z5, z6, z7, z8⟩, ⟨f0, f1, f2, f3, f4, f5, f6, f7, f8⟩⟩ := T3.cs))
        exact deed_end rfl _ (upd m i 1) _ T3 rfl rfl
      · rw [show addF m i = (zeroM, 201) from by unfold addF; rw [HS.out, if_neg h0]]
        have e0 : (s != 0) = true := by simp [h0]
        have e1 : (s == 0) = false := by simp [h0]
        clear h0
        go_enter Try.func8, Try.ntmps8
        go_wp2_with (first | (go_at_call 14; refine (ST.out _).mono ?_; rintro e hB1w ⟨rfl, hB1⟩; have T1 := T0.below hB1; obtain ⟨⟨a0, a1, a2, a3, a4, a5, a6, a7, a8⟩, ⟨n0, n1⟩, ⟨z0, z1, z2, z3, z4, z5, z6, z7, z8⟩, ⟨f0, f1, f2, f3, f4, f5, f6, f7, f8⟩⟩ := T1.cs) | (go_at_call 18; refine (refRight_val m _ hr _).mono ?_; clear a0 a1 a2 a3 a4 a5 a6 a7 a8 n0 n1 z0 z1 z2 z3 z4 z5 z6 z7 z8 f0 f1 f2 f3 f4 f5 f6 f7 f8; rintro e hB2w ⟨rfl, hB2⟩; have T2 := T1.below hB2; obtain ⟨⟨a0, a1, a2, a3, a4, a5, a6, a7, a8⟩, ⟨n0, n1⟩, ⟨z0, z1, z2, z3, z4, z5, z6, z7, z8⟩, ⟨f0, f1, f2, f3, f4, f5, f6, f7, f8⟩⟩ := T2.cs))
        exact deed_end rfl _ zeroM _ T2 rfl rfl

set_option maxHeartbeats 4000000 in
theorem refKill_any (m : Mm) (k id : Int) (w : World) : Calls Try.prog 12 #[mv m, nv k id] w fun e W' => e = .returned (.tuple #[mv (deedM killF m k id).1, .int .i64 (deedM killF m k id).2]) ∧ Below w.heap.size w W' := by
  have T0 := tri w m k id
  cases hx : idx k id with
  | none =>
    rw [deedM_none hx]
    go_enter Try.func12, Try.ntmps12
    go_wp2_with (go_at_call 14; refine (refState_none hx m _).mono ?_; rintro e hB1w ⟨rfl, hB1⟩; have T1 := T0.below hB1; obtain ⟨⟨a0, a1, a2, a3, a4, a5, a6, a7, a8⟩, ⟨n0, n1⟩, ⟨z0, z1, z2, z3, z4, z5, z6, z7, z8⟩, ⟨f0, f1, f2, f3, f4, f5, f6, f7, f8⟩⟩ := T1.cs)
    exact deed_end rfl _ zeroM _ T1 rfl rfl
  | some i =>
    cases hr : rightM m with
    | false =>
      rw [deedM_wrong hx hr]
      go_enter Try.func12, Try.ntmps12
      go_wp2_with (first | (go_at_call 14; refine (refState_some hx m _).mono ?_; rintro e hB1w ⟨rfl, hB1⟩; have T1 := T0.below hB1; obtain ⟨⟨a0, a1, a2, a3, a4, a5, a6, a7, a8⟩, ⟨n0, n1⟩, ⟨z0, z1, z2, z3, z4, z5, z6, z7, z8⟩, ⟨f0, f1, f2, f3, f4, f5, f6, f7, f8⟩⟩ := T1.cs) | (go_at_call 18; refine (refRight_val m _ hr _).mono ?_; clear a0 a1 a2 a3 a4 a5 a6 a7 a8 n0 n1 z0 z1 z2 z3 z4 z5 z6 z7 z8 f0 f1 f2 f3 f4 f5 f6 f7 f8; rintro e hB2w ⟨rfl, hB2⟩; have T2 := T1.below hB2; obtain ⟨⟨a0, a1, a2, a3, a4, a5, a6, a7, a8⟩, ⟨n0, n1⟩, ⟨z0, z1, z2, z3, z4, z5, z6, z7, z8⟩, ⟨f0, f1, f2, f3, f4, f5, f6, f7, f8⟩⟩ := T2.cs))
      exact deed_end rfl _ zeroM _ T2 rfl rfl
    | true =>
      rw [deedM_some hx hr]
      obtain ⟨s, hs⟩ : ∃ s, m i = s := ⟨_, rfl⟩
      have ST := hide (fun W => hs ▸ refState_some hx m W)
      have HS := hide hs
      clear hs
      rcases (show s = 1 ∨ s = 2 ∨ (s ≠ 1 ∧ s ≠ 2) by omega) with h1 | h2 | ⟨h1, h2⟩
      · rw [show killF m i = (upd m i 3, 0) from by unfold killF; rw [HS.out, if_pos (by omega)]]
        subst h1
        go_enter Try.func12, Try.ntmps12
        go_wp2_with (first | (go_at_call 14; refine (ST.out _).mono ?_; rintro e hB1w ⟨rfl, hB1⟩; have T1 := T0.below hB1; obtain ⟨⟨a0, a1, a2, a3, a4, a5, a6, a7, a8⟩, ⟨n0, n1⟩, ⟨z0, z1, z2, z3, z4, z5, z6, z7, z8⟩, ⟨f0, f1, f2, f3, f4, f5, f6, f7, f8⟩⟩ := T1.cs) | (go_at_call 18; refine (refRight_val m _ hr _).mono ?_; clear a0 a1 a2 a3 a4 a5 a6 a7 a8 n0 n1 z0 z1 z2 z3 z4 z5 z6 z7 z8 f0 f1 f2 f3 f4 f5 f6 f7 f8; rintro e hB2w ⟨rfl, hB2⟩; have T2 := T1.below hB2; obtain ⟨⟨a0, a1, a2, a3, a4, a5, a6, a7, a8⟩, ⟨n0, n1⟩, ⟨z0, z1, z2, z3, z4, z5, z6, z7, z8⟩, ⟨f0, f1, f2, f3, f4, f5, f6, f7, f8⟩⟩ := T2.cs) | (go_at_call 28; refine (refWith_any hx m 3 _).mono ?_; clear a0 a1 a2 a3 a4 a5 a6 a7 a8 n0 n1 z0 z1 z2 z3 z4 z5 z6 z7 z8 f0 f1 f2 f3 f4 f5 f6 f7 f8; rintro e hB3w ⟨rfl, hB3⟩; have T3 := T2.below hB3; obtain ⟨⟨a0, a1, a2, a3, a4, a5, a6, a7, a8⟩, ⟨n0, n1⟩, ⟨z0, z1, z2, z3, z4, z5, z6, z7, z8⟩, ⟨f0, f1, f2, f3, f4, f5, f6, f7, f8⟩⟩ := T3.cs))
        exact deed_end rfl _ (upd m i 3) _ T3 rfl rfl
      · rw [show killF m i = (upd m i 3, 0) from by unfold killF; rw [HS.out, if_pos (by omega)]]
        subst h2
        go_enter Try.func12, Try.ntmps12
        go_wp2_with (first | (go_at_call 14; refine (ST.out _).mono ?_; rintro e hB1w ⟨rfl, hB1⟩; have T1 := T0.below hB1; obtain ⟨⟨a0, a1, a2, a3, a4, a5, a6, a7, a8⟩, ⟨n0, n1⟩, ⟨z0, z1, z2, z3, z4, z5, z6, z7, z8⟩, ⟨f0, f1, f2, f3, f4, f5, f6, f7, f8⟩⟩ := T1.cs) | (go_at_call 18; refine (refRight_val m _ hr _).mono ?_; clear a0 a1 a2 a3 a4 a5 a6 a7 a8 n0 n1 z0 z1 z2 z3 z4 z5 z6 z7 z8 f0 f1 f2 f3 f4 f5 f6 f7 f8; rintro e hB2w ⟨rfl, hB2⟩; have T2 := T1.below hB2; obtain ⟨⟨a0, a1, a2, a3, a4, a5, a6, a7, a8⟩, ⟨n0, n1⟩, ⟨z0, z1, z2, z3, z4, z5, z6, z7, z8⟩, ⟨f0, f1, f2, f3, f4, f5, f6, f7, f8⟩⟩ := T2.cs) | (go_at_call 28; refine (refWith_any hx m 3 _).mono ?_; clear a0 a1 a2 a3 a4 a5 a6 a7 a8 n0 n1 z0 z1 z2 z3 z4 z5 z6 z7 z8 f0 f1 f2 f3 f4 f5 f6 f7 f8; rintro e hB3w ⟨rfl, hB3⟩; have T3 := T2.below hB3; obtain ⟨⟨a0, a1, a2, a3, a4, a5, a6, a7, a8⟩, ⟨n0, n1⟩, ⟨z0, z1, z2, z3, z4, z5, z6, z7, z8⟩, ⟨f0, f1, f2, f3, f4, f5, f6, f7, f8⟩⟩ := T3.cs))
        exact deed_end rfl _ (upd m i 3) _ T3 rfl rfl
      · rw [show killF m i = (zeroM, 202) from by unfold killF; rw [HS.out, if_neg (by omega)]]
        have e1 : (s != 1) = true := by simp [h1]
        have e2 : (s != 2) = true := by simp [h2]
        clear h2
        go_enter Try.func12, Try.ntmps12
        go_wp2_with (first | (go_at_call 14; refine (ST.out _).mono ?_; rintro e hB1w ⟨rfl, hB1⟩; have T1 := T0.below hB1; obtain ⟨⟨a0, a1, a2, a3, a4, a5, a6, a7, a8⟩, ⟨n0, n1⟩, ⟨z0, z1, z2, z3, z4, z5, z6, z7, z8⟩, ⟨f0, f1, f2, f3, f4, f5, f6, f7, f8⟩⟩ := T1.cs) | (go_at_call 18; refine (refRight_val m _ hr _).mono ?_; clear a0 a1 a2 a3 a4 a5 a6 a7 a8 n0 n1 z0 z1 z2 z3 z4 z5 z6 z7 z8 f0 f1 f2 f3 f4 f5 f6 f7 f8; rintro e hB2w ⟨rfl, hB2⟩; have T2 := T1.below hB2; obtain ⟨⟨a0, a1, a2, a3, a4, a5, a6, a7, a8⟩, ⟨n0, n1⟩, ⟨z0, z1, z2, z3, z4, z5, z6, z7, z8⟩, ⟨f0, f1, f2, f3, f4, f5, f6, f7, f8⟩⟩ := T2.cs))
        exact deed_end rfl _ zeroM _ T2 rfl rfl

set_option maxHeartbeats 4000000 in
theorem turn27_any (m : Mm) (k id : Int) (w : World) : Calls Try.prog 26 #[mv m, nv k id, .func (.func 27) #[] #[]] w fun e W' => e = .returned (.tuple #[mv (deedM addF m k id).1, .int .i64 (deedM addF m k id).2]) ∧ Below w.heap.size w W' := by
  have T0 := tri w m k id
  cases hx : idx k id with
  | none =>
    rw [deedM_none hx]
    go_enter Try.func26, Try.ntmps26
    go_wp2_with (first | (go_at_call 31; refine (place_none _ k id hx _).mono ?_; rintro e hB1w ⟨rfl, hB1⟩; have T1 := T0.below hB1; obtain ⟨⟨a0, a1, a2, a3, a4, a5, a6, a7, a8⟩, ⟨n0, n1⟩, ⟨z0, z1, z2, z3, z4, z5, z6, z7, z8⟩, ⟨f0, f1, f2, f3, f4, f5, f6, f7, f8⟩⟩ := T1.cs) | (go_at_call 15; refine (new_any _).mono ?_; clear a0 a1 a2 a3 a4 a5 a6 a7 a8 n0 n1 z0 z1 z2 z3 z4 z5 z6 z7 z8 f0 f1 f2 f3 f4 f5 f6 f7 f8; rintro e hB2w ⟨rfl, hB2⟩; have T2 := T1.below hB2; obtain ⟨⟨a0, a1, a2, a3, a4, a5, a6, a7, a8⟩, ⟨n0, n1⟩, ⟨z0, z1, z2, z3, z4, z5, z6, z7, z8⟩, ⟨f0, f1, f2, f3, f4, f5, f6, f7, f8⟩⟩ := T2.cs))
    exact deed_end rfl _ zeroM _ T2 rfl rfl
  | some i =>
    have hi := idx_lt hx
    cases hr : rightM m with
    | false =>
      rw [deedM_wrong hx hr]
      go_enter Try.func26, Try.ntmps26
      go_wp2_with (first | (go_at_call 31; refine (place_some _ i k id hx _).mono ?_; rintro e hB1w ⟨rfl, hB1⟩; have T1 := T0.below hB1; obtain ⟨⟨a0, a1, a2, a3, a4, a5, a6, a7, a8⟩, ⟨n0, n1⟩, ⟨z0, z1, z2, z3, z4, z5, z6, z7, z8⟩, ⟨f0, f1, f2, f3, f4, f5, f6, f7, f8⟩⟩ := T1.cs) | (go_at_call 17; refine (right_val m _ hr _).mono ?_; clear a0 a1 a2 a3 a4 a5 a6 a7 a8 n0 n1 z0 z1 z2 z3 z4 z5 z6 z7 z8 f0 f1 f2 f3 f4 f5 f6 f7 f8; rintro e hB2w ⟨rfl, hB2⟩; have T2 := T1.below hB2; obtain ⟨⟨a0, a1, a2, a3, a4, a5, a6, a7, a8⟩, ⟨n0, n1⟩, ⟨z0, z1, z2, z3, z4, z5, z6, z7, z8⟩, ⟨f0, f1, f2, f3, f4, f5, f6, f7, f8⟩⟩ := T2.cs) | (go_at_call 15; refine (new_any _).mono ?_; clear a0 a1 a2 a3 a4 a5 a6 a7 a8 n0 n1 z0 z1 z2 z3 z4 z5 z6 z7 z8 f0 f1 f2 f3 f4 f5 f6 f7 f8; rintro e hB3w ⟨rfl, hB3⟩; have T3 := T2.below hB3; obtain ⟨⟨a0, a1, a2, a3, a4, a5, a6, a7, a8⟩, ⟨n0, n1⟩, ⟨z0, z1, z2, z3, z4, z5, z6, z7, z8⟩, ⟨f0, f1, f2, f3, f4, f5, f6, f7, f8⟩⟩ := T3.cs))
      exact deed_end rfl _ zeroM _ T3 rfl rfl
    | true =>
      rw [deedM_some hx hr]
      by_cases h0 : m i = 0
      · rw [show addF m i = (upd m i 1, 0) from by unfold addF; rw [if_pos h0]]
        go_enter Try.func26, Try.ntmps26
        go_wp2_with (first | (go_at_call 31; refine (place_some _ i k id hx _).mono ?_; rintro e hB1w ⟨rfl, hB1⟩; have T1 := T0.below hB1; obtain ⟨⟨a0, a1, a2, a3, a4, a5, a6, a7, a8⟩, ⟨n0, n1⟩, ⟨z0, z1, z2, z3, z4, z5, z6, z7, z8⟩, ⟨f0, f1, f2, f3, f4, f5, f6, f7, f8⟩⟩ := T1.cs) | (go_at_call 17; refine (right_val m _ hr _).mono ?_; clear a0 a1 a2 a3 a4 a5 a6 a7 a8 n0 n1 z0 z1 z2 z3 z4 z5 z6 z7 z8 f0 f1 f2 f3 f4 f5 f6 f7 f8; rintro e hB2w ⟨rfl, hB2⟩; have T2 := T1.below hB2; obtain ⟨⟨a0, a1, a2, a3, a4, a5, a6, a7, a8⟩, ⟨n0, n1⟩, ⟨z0, z1, z2, z3, z4, z5, z6, z7, z8⟩, ⟨f0, f1, f2, f3, f4, f5, f6, f7, f8⟩⟩ := T2.cs) | (go_at_call 27; refine (add1_ok _ i m _ T2.mx hi h0).mono ?_; clear a0 a1 a2 a3 a4 a5 a6 a7 a8 n0 n1 z0 z1 z2 z3 z4 z5 z6 z7 z8 f0 f1 f2 f3 f4 f5 f6 f7 f8; rintro e w9 ⟨rfl, hw9⟩; have T3 : Tri (upd m i 1) k id w w9 := hw9 ▸ T2.set hi 1; clear hw9; obtain ⟨⟨a0, a1, a2, a3, a4, a5, a6, a7, a8⟩, ⟨n0, n1⟩, ⟨z0, z1, z2, z3, z4, z5, z6, z7, z8⟩, ⟨f0, f1, f2, f3, f4, f5, f6, f7, f8⟩⟩ := T3.cs))
        exact deed_end rfl _ (upd m i 1) _ T3 rfl rfl
      · rw [show addF m i = (zeroM, 201) from by unfold addF; rw [if_neg h0]]
        have e0 : (m i == 0) = false := by simp [h0]
        have E0 := hide e0
        clear e0 h0
        go_enter Try.func26, Try.ntmps26
        go_wp2_with (first | (go_at_call 31; refine (place_some _ i k id hx _).mono ?_; rintro e hB1w ⟨rfl, hB1⟩; have T1 := T0.below hB1; obtain ⟨⟨a0, a1, a2, a3, a4, a5, a6, a7, a8⟩, ⟨n0, n1⟩, ⟨z0, z1, z2, z3, z4, z5, z6, z7, z8⟩, ⟨f0, f1, f2, f3, f4, f5, f6, f7, f8⟩⟩ := T1.cs) | (go_at_call 17; refine (right_val m _ hr _).mono ?_; clear a0 a1 a2 a3 a4 a5 a6 a7 a8 n0 n1 z0 z1 z2 z3 z4 z5 z6 z7 z8 f0 f1 f2 f3 f4 f5 f6 f7 f8; rintro e hB2w ⟨rfl, hB2⟩; have T2 := T1.below hB2; obtain ⟨⟨a0, a1, a2, a3, a4, a5, a6, a7, a8⟩, ⟨n0, n1⟩, ⟨z0, z1, z2, z3, z4, z5, z6, z7, z8⟩, ⟨f0, f1, f2, f3, f4, f5, f6, f7, f8⟩⟩ := T2.cs) | (go_at_call 27; refine (add1_no _ i m _ T2.mx hi E0.out).mono ?_; rintro e w9 ⟨rfl, rfl⟩) | (go_at_call 15; refine (new_any _).mono ?_; clear a0 a1 a2 a3 a4 a5 a6 a7 a8 n0 n1 z0 z1 z2 z3 z4 z5 z6 z7 z8 f0 f1 f2 f3 f4 f5 f6 f7 f8; rintro e hB3w ⟨rfl, hB3⟩; have T3 := T2.below hB3; obtain ⟨⟨a0, a1, a2, a3, a4, a5, a6, a7, a8⟩, ⟨n0, n1⟩, ⟨z0, z1, z2, z3, z4, z5, z6, z7, z8⟩, ⟨f0, f1, f2, f3, f4, f5, f6, f7, f8⟩⟩ := T3.cs))
        exact deed_end rfl _ zeroM _ T3 rfl rfl

set_option maxHeartbeats 4000000 in
theorem turn30_any (m : Mm) (k id : Int) (w : World) : Calls Try.prog 26 #[mv m, nv k id, .func (.func 30) #[] #[]] w fun e W' => e = .returned (.tuple #[mv (deedM killF m k id).1, .int .i64 (deedM killF m k id).2]) ∧ Below w.heap.size w W' := by
  have T0 := tri w m k id
  cases hx : idx k id with
  | none =>
    rw [deedM_none hx]
    go_enter Try.func26, Try.ntmps26
    go_wp2_with (first | (go_at_call 31; refine (place_none _ k id hx _).mono ?_; rintro e hB1w ⟨rfl, hB1⟩; have T1 := T0.below hB1; obtain ⟨⟨a0, a1, a2, a3, a4, a5, a6, a7, a8⟩, ⟨n0, n1⟩, ⟨z0, z1, z2, z3, z4, z5, z6, z7, z8⟩, ⟨f0, f1, f2, f3, f4, f5, f6, f7, f8⟩⟩ := T1.cs) | (go_at_call 15; refine (new_any _).mono ?_; clear a0 a1 a2 a3 a4 a5 a6 a7 a8 n0 n1 z0 z1 z2 z3 z4 z5 z6 z7 z8 f0 f1 f2 f3 f4 f5 f6 f7 f8; rintro e hB2w ⟨rfl, hB2⟩; have T2 := T1.below hB2; obtain ⟨⟨a0, a1, a2, a3, a4, a5, a6, a7, a8⟩, ⟨n0, n1⟩, ⟨z0, z1, z2, z3, z4, z5, z6, z7, z8⟩, ⟨f0, f1, f2, f3, f4, f5, f6, f7, f8⟩⟩ := T2.cs))
    exact deed_end rfl _ zeroM _ T2 rfl rfl
  | some i =>
    have hi := idx_lt hx
    cases hr : rightM m with
    | false =>
      rw [deedM_wrong hx hr]
      go_enter Try.func26, Try.ntmps26
      go_wp2_with (first | (go_at_call 31; refine (place_some _ i k id hx _).mono ?_; rintro e hB1w ⟨rfl, hB1⟩; have T1 := T0.below hB1; obtain ⟨⟨a0, a1, a2, a3, a4, a5, a6, a7, a8⟩, ⟨n0, n1⟩, ⟨z0, z1, z2, z3, z4, z5, z6, z7, z8⟩, ⟨f0, f1, f2, f3, f4, f5, f6, f7, f8⟩⟩ := T1.cs) | (go_at_call 17; refine (right_val m _ hr _).mono ?_; clear a0 a1 a2 a3 a4 a5 a6 a7 a8 n0 n1 z0 z1 z2 z3 z4 z5 z6 z7 z8 f0 f1 f2 f3 f4 f5 f6 f7 f8; rintro e hB2w ⟨rfl, hB2⟩; have T2 := T1.below hB2; obtain ⟨⟨a0, a1, a2, a3, a4, a5, a6, a7, a8⟩, ⟨n0, n1⟩, ⟨z0, z1, z2, z3, z4, z5, z6, z7, z8⟩, ⟨f0, f1, f2, f3, f4, f5, f6, f7, f8⟩⟩ := T2.cs) | (go_at_call 15; refine (new_any _).mono ?_; clear a0 a1 a2 a3 a4 a5 a6 a7 a8 n0 n1 z0 z1 z2 z3 z4 z5 z6 z7 z8 f0 f1 f2 f3 f4 f5 f6 f7 f8; rintro e hB3w ⟨rfl, hB3⟩; have T3 := T2.below hB3; obtain ⟨⟨a0, a1, a2, a3, a4, a5, a6, a7, a8⟩, ⟨n0, n1⟩, ⟨z0, z1, z2, z3, z4, z5, z6, z7, z8⟩, ⟨f0, f1, f2, f3, f4, f5, f6, f7, f8⟩⟩ := T3.cs))
      exact deed_end rfl _ zeroM _ T3 rfl rfl
    | true =>
      rw [deedM_some hx hr]
      rcases (show m i = 1 ∨ m i = 2 ∨ (m i ≠ 1 ∧ m i ≠ 2) by omega) with h1 | h2 | ⟨h1, h2⟩
      · rw [show killF m i = (upd m i 3, 0) from by unfold killF; rw [if_pos (by omega)]]
        go_enter Try.func26, Try.ntmps26
        go_wp2_with (first | (go_at_call 31; refine (place_some _ i k id hx _).mono ?_; rintro e hB1w ⟨rfl, hB1⟩; have T1 := T0.below hB1; obtain ⟨⟨a0, a1, a2, a3, a4, a5, a6, a7, a8⟩, ⟨n0, n1⟩, ⟨z0, z1, z2, z3, z4, z5, z6, z7, z8⟩, ⟨f0, f1, f2, f3, f4, f5, f6, f7, f8⟩⟩ := T1.cs) | (go_at_call 17; refine (right_val m _ hr _).mono ?_; clear a0 a1 a2 a3 a4 a5 a6 a7 a8 n0 n1 z0 z1 z2 z3 z4 z5 z6 z7 z8 f0 f1 f2 f3 f4 f5 f6 f7 f8; rintro e hB2w ⟨rfl, hB2⟩; have T2 := T1.below hB2; obtain ⟨⟨a0, a1, a2, a3, a4, a5, a6, a7, a8⟩, ⟨n0, n1⟩, ⟨z0, z1, z2, z3, z4, z5, z6, z7, z8⟩, ⟨f0, f1, f2, f3, f4, f5, f6, f7, f8⟩⟩ := T2.cs) | (go_at_call 30; refine (kill1a_ok _ i m _ T2.mx hi h1).mono ?_; clear a0 a1 a2 a3 a4 a5 a6 a7 a8 n0 n1 z0 z1 z2 z3 z4 z5 z6 z7 z8 f0 f1 f2 f3 f4 f5 f6 f7 f8; rintro e w9 ⟨rfl, hw9⟩; have T3 : Tri (upd m i 3) k id w w9 := hw9 ▸ T2.set hi 3; clear hw9; obtain ⟨⟨a0, a1, a2, a3, a4, a5, a6, a7, a8⟩, ⟨n0, n1⟩, ⟨z0, z1, z2, z3, z4, z5, z6, z7, z8⟩, ⟨f0, f1, f2, f3, f4, f5, f6, f7, f8⟩⟩ := T3.cs))
        exact deed_end rfl _ (upd m i 3) _ T3 rfl rfl
      · rw [show killF m i = (upd m i 3, 0) from by unfold killF; rw [if_pos (by omega)]]
        go_enter Try.func26, Try.ntmps26
        go_wp2_with (first | (go_at_call 31; refine (place_some _ i k id hx _).mono ?_; rintro e hB1w ⟨rfl, hB1⟩; have T1 := T0.below hB1; obtain ⟨⟨a0, a1, a2, a3, a4, a5, a6, a7, a8⟩, ⟨n0, n1⟩, ⟨z0, z1, z2, z3, z4, z5, z6, z7, z8⟩, ⟨f0, f1, f2, f3, f4, f5, f6, f7, f8⟩⟩ := T1.cs) | (go_at_call 17; refine (right_val m _ hr _).mono ?_; clear a0 a1 a2 a3 a4 a5 a6 a7 a8 n0 n1 z0 z1 z2 z3 z4 z5 z6 z7 z8 f0 f1 f2 f3 f4 f5 f6 f7 f8; rintro e hB2w ⟨rfl, hB2⟩; have T2 := T1.below hB2; obtain ⟨⟨a0, a1, a2, a3, a4, a5, a6, a7, a8⟩, ⟨n0, n1⟩, ⟨z0, z1, z2, z3, z4, z5, z6, z7, z8⟩, ⟨f0, f1, f2, f3, f4, f5, f6, f7, f8⟩⟩ := T2.cs) | (go_at_call 30; refine (kill1b_ok _ i m _ T2.mx hi h2).mono ?_; clear a0 a1 a2 a3 a4 a5 a6 a7 a8 n0 n1 z0 z1 z2 z3 z4 z5 z6 z7 z8 f0 f1 f2 f3 f4 f5 f6 f7 f8; rintro e w9 ⟨rfl, hw9⟩; have T3 : Tri (upd m i 3) k id w w9 := hw9 ▸ T2.set hi 3; clear hw9; obtain ⟨⟨a0, a1, a2, a3, a4, a5, a6, a7, a8⟩, ⟨n0, n1⟩, ⟨z0, z1, z2, z3, z4, z5, z6, z7, z8⟩, ⟨f0, f1, f2, f3, f4, f5, f6, f7, f8⟩⟩ := T3.cs))
        exact deed_end rfl _ (upd m i 3) _ T3 rfl rfl
      · rw [show killF m i = (zeroM, 202) from by unfold killF; rw [if_neg (by omega)]]
        have e1 : (m i == 1) = false := by simp [h1]
        have e2 : (m i == 2) = false := by simp [h2]
        have E1 := hide e1
        have E2 := hide e2
        clear e1 e2 h1 h2
        go_enter Try.func26, Try.ntmps26
        go_wp2_with (first | (go_at_call 31; refine (place_some _ i k id hx _).mono ?_; rintro e hB1w ⟨rfl, hB1⟩; have T1 := T0.below hB1; obtain ⟨⟨a0, a1, a2, a3, a4, a5, a6, a7, a8⟩, ⟨n0, n1⟩, ⟨z0, z1, z2, z3, z4, z5, z6, z7, z8⟩, ⟨f0, f1, f2, f3, f4, f5, f6, f7, f8⟩⟩ := T1.cs) | (go_at_call 17; refine (right_val m _ hr _).mono ?_; clear a0 a1 a2 a3 a4 a5 a6 a7 a8 n0 n1 z0 z1 z2 z3 z4 z5 z6 z7 z8 f0 f1 f2 f3 f4 f5 f6 f7 f8; rintro e hB2w ⟨rfl, hB2⟩; have T2 := T1.below hB2; obtain ⟨⟨a0, a1, a2, a3, a4, a5, a6, a7, a8⟩, ⟨n0, n1⟩, ⟨z0, z1, z2, z3, z4, z5, z6, z7, z8⟩, ⟨f0, f1, f2, f3, f4, f5, f6, f7, f8⟩⟩ := T2.cs) | (go_at_call 30; refine (kill1_no _ i m _ T2.mx hi E1.out E2.out).mono ?_; rintro e w9 ⟨rfl, rfl⟩) | (go_at_call 15; refine (new_any _).mono ?_; clear a0 a1 a2 a3 a4 a5 a6 a7 a8 n0 n1 z0 z1 z2 z3 z4 z5 z6 z7 z8 f0 f1 f2 f3 f4 f5 f6 f7 f8; rintro e hB3w ⟨rfl, hB3⟩; have T3 := T2.below hB3; obtain ⟨⟨a0, a1, a2, a3, a4, a5, a6, a7, a8⟩, ⟨n0, n1⟩, ⟨z0, z1, z2, z3, z4, z5, z6, z7, z8⟩, ⟨f0, f1, f2, f3, f4, f5, f6, f7, f8⟩⟩ := T3.cs))
        exact deed_end rfl _ zeroM _ T3 rfl rfl
end Go.Proofs.Ytigpdkbfailadaa
