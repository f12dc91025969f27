/-
  The walks of member's Add, Kill and State, and of turn under Leave's closure.
-/
import Derived.Test.YtigpdkbfailadaaRows
import Derived.Test.YtigpdkbfailadaaAppend
import Derived.Test.YtigpdkbfailadaaTail
import Derived.Shelf.Abstract
import Derived.Shelf.RegionOpen
import Derived.WalkKit
import Derived.OwnWalkIn
import Derived.TacticsInMore
import Derived.LoopNIn
import Derived.LoopIn
import Derived.WalkMore
import Derived.ScopeJumps
import Derived.Lib.Hide
import Derived.WalkSpells
import Derived.WalkLawsBesides
import Derived.Deep.QuietTactic
import Derived.BigQuiet
import Derived.Laws.Rows
import Derived.Test.YtigpdkbfailadaaMems
import Derived.Test.YtigpdkbfailadaaDeeds
namespace Go.Proofs.Ytigpdkbfailadaa
open Go Go.RowKit Go.Shelf
set_option linter.unusedSimpArgs false
set_option linter.unusedVariables false
attribute [local go_sem] Oper.semAt_some

set_option maxHeartbeats 1000000 in
theorem add_any (m : Mm) (k id : Int) (w : World) : Calls Try.prog 7 #[mv m, nv k id] w fun e W' => e = .returned (.tuple #[mv (deedM addF m k id).1, .int .i64 (deedM addF m k id).2]) ∧ Below w.heap.size w W' := by
  have T0 := tri w m k id
  have HC := hide (fun W => turn27_any m k id W)
  obtain ⟨⟨m', v⟩, hd⟩ : ∃ d, deedM addF m k id = d := ⟨_, rfl⟩
  rw [hd] at HC ⊢
  clear hd
  go_enter Try.func7, Try.ntmps7
  go_wp2_with (go_at_call 26; refine (HC.out _).mono ?_; rintro e w1 ⟨rfl, hB1⟩; have T1 := T0.below hB1; obtain ⟨⟨a0, a1, a2, a3, a4, a5, a6, a7, a8⟩, ⟨n0, n1⟩, ⟨z0, z1, z2, z3, z4, z5, z6, z7, z8⟩, ⟨f0, f1, f2, f3, f4, f5, f6, f7, f8⟩⟩ := T1.cs)
  exact deed_end rfl _ m' _ T1 rfl rfl

set_option maxHeartbeats 1000000 in
theorem kill_any (m : Mm) (k id : Int) (w : World) : Calls Try.prog 11 #[mv m, nv k id] w fun e W' => e = .returned (.tuple #[mv (deedM killF m k id).1, .int .i64 (deedM killF m k id).2]) ∧ Below w.heap.size w W' := by
  have T0 := tri w m k id
  have HC := hide (fun W => turn30_any m k id W)
  obtain ⟨⟨m', v⟩, hd⟩ : ∃ d, deedM killF m k id = d := ⟨_, rfl⟩
  rw [hd] at HC ⊢
  clear hd
  go_enter Try.func11, Try.ntmps11
  go_wp2_with (go_at_call 26; refine (HC.out _).mono ?_; rintro e w1 ⟨rfl, hB1⟩; have T1 := T0.below hB1; obtain ⟨⟨a0, a1, a2, a3, a4, a5, a6, a7, a8⟩, ⟨n0, n1⟩, ⟨z0, z1, z2, z3, z4, z5, z6, z7, z8⟩, ⟨f0, f1, f2, f3, f4, f5, f6, f7, f8⟩⟩ := T1.cs)
  exact deed_end rfl _ m' _ T1 rfl rfl

theorem state_some {k id : Int} {i : Nat} (h : idx k id = some i) (m : Mm) (w : World) : Calls Try.prog 13 #[mv m, nv k id] w fun e W' => e = .returned (.tuple #[u8v (m i), .bool true]) ∧ Below w.heap.size w W' := by
  have hi := idx_lt h
  have HT := hide (fun W => place_some w.heap.size i k id h W)
  have hm : Mx ((w.alloc (.cells (mcells m) 25)).alloc (.cells #[.int .u8 k, .int .i64 id] 27)) w.heap.size m := (Mx.new w m).alloc _
  have hB0 : Below w.heap.size w ((w.alloc (.cells (mcells m) 25)).alloc (.cells #[.int .u8 k, .int .i64 id] 27)) := ((Below.refl _ w).alloc (Nat.le_refl _) _).alloc (by simp) _
  clear h
  go_enter Try.func13, Try.ntmps13
  go_wp2_with (go_at_call 31; refine (HT.out _).mono ?_; rintro e w1 ⟨rfl, hB1⟩; have hc := (hm.below hB1 hm.lt).at_ hi)
  go_ret2
  exact ⟨rfl, hB0.trans (hB1.mono (by simp; omega))⟩
theorem state_none {k id : Int} (h : idx k id = none) (m : Mm) (w : World) : Calls Try.prog 13 #[mv m, nv k id] w fun e W' => e = .returned (.tuple #[.int .u8 0, .bool false]) ∧ Below w.heap.size w W' := by
  have HT := hide (fun W => place_none w.heap.size k id h W)
  have hB0 : Below w.heap.size w ((w.alloc (.cells (mcells m) 25)).alloc (.cells #[.int .u8 k, .int .i64 id] 27)) := ((Below.refl _ w).alloc (Nat.le_refl _) _).alloc (by simp) _
  clear h
  go_enter Try.func13, Try.ntmps13
  go_wp2_with (go_at_call 31; refine (HT.out _).mono ?_; rintro e w1 ⟨rfl, hB1⟩)
  go_ret2
  exact ⟨rfl, hB0.trans (hB1.mono (by simp; omega))⟩

/-- A state, and whether there is one. -/
def stateM (m : Mm) (k id : Int) : Int × Bool := match idx k id with | none => (0, false) | some i => (m i, true)
theorem state_any (m : Mm) (k id : Int) (w : World) : Calls Try.prog 13 #[mv m, nv k id] w fun e W' => e = .returned (.tuple #[.int .u8 (stateM m k id).1, .bool (stateM m k id).2]) ∧ Below w.heap.size w W' := by
  unfold stateM
  cases h : idx k id with
  | none => exact state_none h m w
  | some i => exact state_some h m w
theorem refState_any (m : Mm) (k id : Int) (w : World) : Calls Try.prog 14 #[mv m, nv k id] w fun e W' => e = .returned (.tuple #[.int .u8 (stateM m k id).1, .bool (stateM m k id).2]) ∧ Below w.heap.size w W' := by
  unfold stateM
  cases h : idx k id with
  | none => exact refState_none h m w
  | some i => exact refState_some h m w

theorem Tri.drewN {m : Mm} {k id : Int} {w W : World} (h : Tri m k id w W) (q : Nat) : Tri m k id w (W.drewN q) := ⟨h.mx, h.nx, h.zx, below_drewN h.bl q⟩
/-! Leave. -/
theorem bitsTo_upd (m : Mm) (p : Int → Bool) (i : Nat) (s : Int) (h : p (m i) = true) (hs : p s = false) : ∀ n : Nat, i < n → bitsTo m 0 p n = bitsTo (upd m i s) 0 p n + 2 ^ i
  | 0, hn => absurd hn (by omega)
  | n + 1, hn => by
    simp only [bitsTo, Nat.zero_add]
    rcases Nat.lt_or_ge i n with hlt | hge
    · rw [bitsTo_upd m p i s h hs n hlt]
      have e : upd m i s n = m n := by unfold upd; rw [if_neg (by omega)]
      rw [e]
      omega
    · obtain rfl : i = n := by omega
      have e : upd m i s i = s := by unfold upd; rw [if_pos rfl]
      rw [e, h, hs]
      have hsame : ∀ j : Nat, j ≤ i → bitsTo m 0 p j = bitsTo (upd m i s) 0 p j := by
        intro j
        induction j with
        | zero => intro _; rfl
        | succ j ih =>
          intro hj
          simp only [bitsTo, Nat.zero_add]
          rw [ih (by omega)]
          have e : upd m i s j = m j := by unfold upd; rw [if_neg (by omega)]
          rw [e]
      rw [hsame i (Nat.le_refl _)]
      simp
theorem last_taker (m : Mm) (i : Nat) (hi : i < 6) (h : m i = 1) : (bitsTo m 0 aliveS 6 = 2 ^ i) ↔ (bitsTo (upd m i 2) 0 aliveS 6 = 0) := by
  have := bitsTo_upd m aliveS i 2 (by rw [h]; rfl) rfl 6 hi
  omega

/-- Leave's closure. -/
theorem leave1_gone (g i gt gi : Nat) (m : Mm) (w : World) (hm : Mx w g m) (hi : i < 9) (h0 : (m i != 1) = true) :
    Calls Try.prog 29 #[.pointer (some ⟨g, i, none⟩), .pointer (some ⟨gt, 0, none⟩), .pointer (some ⟨gi, 0, none⟩)] w fun e w' => e = .returned (.int .i64 202) ∧ Below w.heap.size w w' := by
  have c0 := hm.at_ hi
  go_enter Try.func29, Try.ntmps29
  go_wp2
  go_ret
  exact ⟨rfl, Below.refl _ _⟩
theorem shl_bit (i t : Nat) (hi : i < 6) (v : Bool) (hv : decide (t = 2 ^ i) = v) : ((t : Int) == 2 ^ i % 256) = v := by
  have hp := pow_small i hi
  have e : (2 : Int) ^ i = ((2 ^ i : Nat) : Int) := by simp
  rw [e, ← hv, Bool.eq_iff_iff]
  simp
  omega
set_option maxHeartbeats 1000000 in
theorem leave1_last (g i gt gi t : Nat) (m : Mm) (w : World) (hm : Mx w g m) (hi : i < 6) (h0 : m i = 1) (ht : Boxed w gt 5 (.int .u8 t)) (hid : Boxed w gi 3 (.int .i64 (i : Nat))) (hl : decide (t = 2 ^ i) = true) :
    Calls Try.prog 29 #[.pointer (some ⟨g, i, none⟩), .pointer (some ⟨gt, 0, none⟩), .pointer (some ⟨gi, 0, none⟩)] w fun e w' => e = .returned (.int .i64 200) ∧ Below w.heap.size w w' := by
  have c0 := hm.at_ (show i < 9 by omega)
  have c1 := ht.cell
  have c2 := hid.cell
  rw [h0] at c0
  have hz : (0 : Int) ≤ (i : Int) := by omega
  have HP := shl_bit i t hi _ hl
  clear hl h0
  go_enter Try.func29, Try.ntmps29
  go_wp2
  go_quiet (fail)
  go_wp2
  go_ret
  exact ⟨rfl, below_drewN (Below.refl _ _) nq⟩
set_option maxHeartbeats 1000000 in
theorem leave1_ok (g i gt gi t : Nat) (m : Mm) (w : World) (hm : Mx w g m) (hi : i < 6) (h0 : m i = 1) (ht : Boxed w gt 5 (.int .u8 t)) (hid : Boxed w gi 3 (.int .i64 (i : Nat))) (hl : decide (t = 2 ^ i) = false) :
    Calls Try.prog 29 #[.pointer (some ⟨g, i, none⟩), .pointer (some ⟨gt, 0, none⟩), .pointer (some ⟨gi, 0, none⟩)] w fun e w' => e = .returned (.int .i64 0) ∧ ∃ q, w' = (w.drewN q).setCell ⟨g, i, none⟩ (.int .u8 2) := by
  have c0 := hm.at_ (show i < 9 by omega)
  have f0 := hm.fz i
  have c1 := ht.cell
  have c2 := hid.cell
  rw [h0] at c0
  have hz : (0 : Int) ≤ (i : Int) := by omega
  have HP := shl_bit i t hi _ hl
  clear hl h0
  go_enter Try.func29, Try.ntmps29
  go_wp2
  go_quiet (fail)
  go_wp2
  go_ret
  exact ⟨rfl, nq, rfl⟩

theorem idx_two {id : Int} {i : Nat} (h : idx 2 id = some i) : i < 6 ∧ id = (i : Nat) := by
  rcases idx_some h with ⟨h, _⟩ | ⟨_, n, rfl, hn, rfl⟩
  · omega
  · exact ⟨hn, rfl⟩

set_option maxHeartbeats 4000000 in
theorem turn29_any (m : Mm) (id : Int) (gt gi t : Nat) (w : World) (ht : Boxed w gt 5 (.int .u8 t)) (hid : Boxed w gi 3 (.int .i64 id)) (hl : t = bitsTo m 0 aliveS 6) :
    Calls Try.prog 26 #[mv m, nv 2 id, .func (.func 29) #[] #[.pointer (some ⟨gt, 0, none⟩), .pointer (some ⟨gi, 0, none⟩)]] w fun e W' => e = .returned (.tuple #[mv (deedM leaveF m 2 id).1, .int .i64 (deedM leaveF m 2 id).2]) ∧ Below w.heap.size w W' := by
  have T0 := tri w m 2 id
  have HL := hide hl
  clear hl
  cases hx : idx 2 id with
  | none =>
    rw [deedM_none hx]
    go_enter Try.func26, Try.ntmps26
    go_wp2_with (first | (go_at_call 31; refine (place_none _ 2 id hx _).mono ?_; rintro e hB1w ⟨rfl, hB1⟩; have T1 := T0.below hB1; obtain ⟨⟨a0, a1, a2, a3, a4, a5, a6, a7, a8⟩, ⟨n0, n1⟩, ⟨z0, z1, z2, z3, z4, z5, z6, z7, z8⟩, ⟨f0, f1, f2, f3, f4, f5, f6, f7, f8⟩⟩ := T1.cs) | (go_at_call 15; refine (new_any _).mono ?_; clear a0 a1 a2 a3 a4 a5 a6 a7 a8 n0 n1 z0 z1 z2 z3 z4 z5 z6 z7 z8 f0 f1 f2 f3 f4 f5 f6 f7 f8; rintro e hB2w ⟨rfl, hB2⟩; have T2 := T1.below hB2; obtain ⟨⟨a0, a1, a2, a3, a4, a5, a6, a7, a8⟩, ⟨n0, n1⟩, ⟨z0, z1, z2, z3, z4, z5, z6, z7, z8⟩, ⟨f0, f1, f2, f3, f4, f5, f6, f7, f8⟩⟩ := T2.cs))
    exact deed_end rfl _ zeroM _ T2 rfl rfl
  | some i =>
    obtain ⟨hi, rfl⟩ := idx_two hx
    have hi9 : i < 9 := by omega
    have HB := hide (fun (W : World) (T : Tri m 2 (i : Nat) w W) => (show Boxed W gt 5 (.int .u8 t) ∧ Boxed W gi 3 (.int .i64 (i : Nat)) from ⟨(T.bl.block gt ht.lt).trans ht, (T.bl.block gi hid.lt).trans hid⟩))
    cases hr : rightM m with
    | false =>
      rw [deedM_wrong hx hr]
      go_enter Try.func26, Try.ntmps26
      go_wp2_with (first | (go_at_call 31; refine (place_some _ i 2 _ hx _).mono ?_; rintro e hB1w ⟨rfl, hB1⟩; have T1 := T0.below hB1; obtain ⟨⟨a0, a1, a2, a3, a4, a5, a6, a7, a8⟩, ⟨n0, n1⟩, ⟨z0, z1, z2, z3, z4, z5, z6, z7, z8⟩, ⟨f0, f1, f2, f3, f4, f5, f6, f7, f8⟩⟩ := T1.cs) | (go_at_call 17; refine (right_val m _ hr _).mono ?_; clear a0 a1 a2 a3 a4 a5 a6 a7 a8 n0 n1 z0 z1 z2 z3 z4 z5 z6 z7 z8 f0 f1 f2 f3 f4 f5 f6 f7 f8; rintro e hB2w ⟨rfl, hB2⟩; have T2 := T1.below hB2; obtain ⟨⟨a0, a1, a2, a3, a4, a5, a6, a7, a8⟩, ⟨n0, n1⟩, ⟨z0, z1, z2, z3, z4, z5, z6, z7, z8⟩, ⟨f0, f1, f2, f3, f4, f5, f6, f7, f8⟩⟩ := T2.cs) | (go_at_call 15; refine (new_any _).mono ?_; clear a0 a1 a2 a3 a4 a5 a6 a7 a8 n0 n1 z0 z1 z2 z3 z4 z5 z6 z7 z8 f0 f1 f2 f3 f4 f5 f6 f7 f8; rintro e hB3w ⟨rfl, hB3⟩; have T3 := T2.below hB3; obtain ⟨⟨a0, a1, a2, a3, a4, a5, a6, a7, a8⟩, ⟨n0, n1⟩, ⟨z0, z1, z2, z3, z4, z5, z6, z7, z8⟩, ⟨f0, f1, f2, f3, f4, f5, f6, f7, f8⟩⟩ := T3.cs))
      exact deed_end rfl _ zeroM _ T3 rfl rfl
    | true =>
      rw [deedM_some hx hr]
      by_cases h1 : m i = 1
      · by_cases hz : bitsTo (upd m i 2) 0 aliveS 6 = 0
        · rw [show leaveF m i = (zeroM, 200) from by unfold leaveF; rw [if_pos h1, if_pos hz]]
          have hl' : decide (t = 2 ^ i) = true := by rw [HL.out, decide_eq_true_eq]; exact (last_taker m i hi h1).2 hz
          have HLL := hide hl'
          have H1 := hide h1
          clear hl' hz h1
          go_enter Try.func26, Try.ntmps26
          go_wp2_with (first | (go_at_call 31; refine (place_some _ i 2 _ hx _).mono ?_; rintro e hB1w ⟨rfl, hB1⟩; have T1 := T0.below hB1; obtain ⟨⟨a0, a1, a2, a3, a4, a5, a6, a7, a8⟩, ⟨n0, n1⟩, ⟨z0, z1, z2, z3, z4, z5, z6, z7, z8⟩, ⟨f0, f1, f2, f3, f4, f5, f6, f7, f8⟩⟩ := T1.cs) | (go_at_call 17; refine (right_val m _ hr _).mono ?_; clear a0 a1 a2 a3 a4 a5 a6 a7 a8 n0 n1 z0 z1 z2 z3 z4 z5 z6 z7 z8 f0 f1 f2 f3 f4 f5 f6 f7 f8; rintro e hB2w ⟨rfl, hB2⟩; have T2 := T1.below hB2; obtain ⟨⟨a0, a1, a2, a3, a4, a5, a6, a7, a8⟩, ⟨n0, n1⟩, ⟨z0, z1, z2, z3, z4, z5, z6, z7, z8⟩, ⟨f0, f1, f2, f3, f4, f5, f6, f7, f8⟩⟩ := T2.cs) | (go_at_call 29; refine (leave1_last _ i gt gi t m _ T2.mx hi H1.out (HB.out _ T2).1 (HB.out _ T2).2 HLL.out).mono ?_; clear a0 a1 a2 a3 a4 a5 a6 a7 a8 n0 n1 z0 z1 z2 z3 z4 z5 z6 z7 z8 f0 f1 f2 f3 f4 f5 f6 f7 f8; rintro e hB3w ⟨rfl, hB3⟩; have T3 := T2.below hB3; obtain ⟨⟨a0, a1, a2, a3, a4, a5, a6, a7, a8⟩, ⟨n0, n1⟩, ⟨z0, z1, z2, z3, z4, z5, z6, z7, z8⟩, ⟨f0, f1, f2, f3, f4, f5, f6, f7, f8⟩⟩ := T3.cs) | (go_at_call 15; refine (new_any _).mono ?_; clear a0 a1 a2 a3 a4 a5 a6 a7 a8 n0 n1 z0 z1 z2 z3 z4 z5 z6 z7 z8 f0 f1 f2 f3 f4 f5 f6 f7 f8; rintro e hB4w ⟨rfl, hB4⟩; have T4 := T3.below hB4; obtain ⟨⟨a0, a1, a2, a3, a4, a5, a6, a7, a8⟩, ⟨n0, n1⟩, ⟨z0, z1, z2, z3, z4, z5, z6, z7, z8⟩, ⟨f0, f1, f2, f3, f4, f5, f6, f7, f8⟩⟩ := T4.cs))
          exact deed_end rfl _ zeroM _ T4 rfl rfl
        · rw [show leaveF m i = (upd m i 2, 0) from by unfold leaveF; rw [if_pos h1, if_neg hz]]
          have hl' : decide (t = 2 ^ i) = false := by rw [HL.out, decide_eq_false_iff_not]; exact fun h => hz ((last_taker m i hi h1).1 h)
          have HLL := hide hl'
          have H1 := hide h1
          clear hl' hz h1
          go_enter Try.func26, Try.ntmps26
          go_wp2_with (first | (go_at_call 31; refine (place_some _ i 2 _ hx _).mono ?_; rintro e hB1w ⟨rfl, hB1⟩; have T1 := T0.below hB1; obtain ⟨⟨a0, a1, a2, a3, a4, a5, a6, a7, a8⟩, ⟨n0, n1⟩, ⟨z0, z1, z2, z3, z4, z5, z6, z7, z8⟩, ⟨f0, f1, f2, f3, f4, f5, f6, f7, f8⟩⟩ := T1.cs) | (go_at_call 17; refine (right_val m _ hr _).mono ?_; clear a0 a1 a2 a3 a4 a5 a6 a7 a8 n0 n1 z0 z1 z2 z3 z4 z5 z6 z7 z8 f0 f1 f2 f3 f4 f5 f6 f7 f8; rintro e hB2w ⟨rfl, hB2⟩; have T2 := T1.below hB2; obtain ⟨⟨a0, a1, a2, a3, a4, a5, a6, a7, a8⟩, ⟨n0, n1⟩, ⟨z0, z1, z2, z3, z4, z5, z6, z7, z8⟩, ⟨f0, f1, f2, f3, f4, f5, f6, f7, f8⟩⟩ := T2.cs) | (go_at_call 29; refine (leave1_ok _ i gt gi t m _ T2.mx hi H1.out (HB.out _ T2).1 (HB.out _ T2).2 HLL.out).mono ?_; clear a0 a1 a2 a3 a4 a5 a6 a7 a8 n0 n1 z0 z1 z2 z3 z4 z5 z6 z7 z8 f0 f1 f2 f3 f4 f5 f6 f7 f8; rintro e w9 ⟨rfl, q, hw9⟩; have T3 : Tri (upd m i 2) 2 (i : Nat) w w9 := hw9 ▸ (T2.drewN q).set hi9 2; clear hw9; obtain ⟨⟨a0, a1, a2, a3, a4, a5, a6, a7, a8⟩, ⟨n0, n1⟩, ⟨z0, z1, z2, z3, z4, z5, z6, z7, z8⟩, ⟨f0, f1, f2, f3, f4, f5, f6, f7, f8⟩⟩ := T3.cs))
          exact deed_end rfl _ (upd m i 2) _ T3 rfl rfl
      · rw [show leaveF m i = (zeroM, 202) from by unfold leaveF; rw [if_neg h1]]
        have e1 : (m i != 1) = true := by simp [h1]
        have E1 := hide e1
        clear e1 h1
        go_enter Try.func26, Try.ntmps26
        go_wp2_with (first | (go_at_call 31; refine (place_some _ i 2 _ hx _).mono ?_; rintro e hB1w ⟨rfl, hB1⟩; have T1 := T0.below hB1; obtain ⟨⟨a0, a1, a2, a3, a4, a5, a6, a7, a8⟩, ⟨n0, n1⟩, ⟨z0, z1, z2, z3, z4, z5, z6, z7, z8⟩, ⟨f0, f1, f2, f3, f4, f5, f6, f7, f8⟩⟩ := T1.cs) | (go_at_call 17; refine (right_val m _ hr _).mono ?_; clear a0 a1 a2 a3 a4 a5 a6 a7 a8 n0 n1 z0 z1 z2 z3 z4 z5 z6 z7 z8 f0 f1 f2 f3 f4 f5 f6 f7 f8; rintro e hB2w ⟨rfl, hB2⟩; have T2 := T1.below hB2; obtain ⟨⟨a0, a1, a2, a3, a4, a5, a6, a7, a8⟩, ⟨n0, n1⟩, ⟨z0, z1, z2, z3, z4, z5, z6, z7, z8⟩, ⟨f0, f1, f2, f3, f4, f5, f6, f7, f8⟩⟩ := T2.cs) | (go_at_call 29; refine (leave1_gone _ i gt gi m _ T2.mx hi9 E1.out).mono ?_; clear a0 a1 a2 a3 a4 a5 a6 a7 a8 n0 n1 z0 z1 z2 z3 z4 z5 z6 z7 z8 f0 f1 f2 f3 f4 f5 f6 f7 f8; rintro e hB3w ⟨rfl, hB3⟩; have T3 := T2.below hB3; obtain ⟨⟨a0, a1, a2, a3, a4, a5, a6, a7, a8⟩, ⟨n0, n1⟩, ⟨z0, z1, z2, z3, z4, z5, z6, z7, z8⟩, ⟨f0, f1, f2, f3, f4, f5, f6, f7, f8⟩⟩ := T3.cs) | (go_at_call 15; refine (new_any _).mono ?_; clear a0 a1 a2 a3 a4 a5 a6 a7 a8 n0 n1 z0 z1 z2 z3 z4 z5 z6 z7 z8 f0 f1 f2 f3 f4 f5 f6 f7 f8; rintro e hB4w ⟨rfl, hB4⟩; have T4 := T3.below hB4; obtain ⟨⟨a0, a1, a2, a3, a4, a5, a6, a7, a8⟩, ⟨n0, n1⟩, ⟨z0, z1, z2, z3, z4, z5, z6, z7, z8⟩, ⟨f0, f1, f2, f3, f4, f5, f6, f7, f8⟩⟩ := T4.cs))
        exact deed_end rfl _ zeroM _ T4 rfl rfl
end Go.Proofs.Ytigpdkbfailadaa
