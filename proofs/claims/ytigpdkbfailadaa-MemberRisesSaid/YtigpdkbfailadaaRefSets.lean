/-
  The walks of the document's Right and of its sets.
-/
import Derived.Test.YtigpdkbfailadaaRows
import Derived.Test.YtigpdkbfailadaaAppend
import Derived.Test.YtigpdkbfailadaaTail
import Derived.Shelf.Abstract
import Derived.Shelf.RegionOpen
import Derived.WalkKit
import Derived.OwnWalkIn
import Derived.TacticsInMore
import Derived.LoopNIn
import Derived.LoopIn
import Derived.WalkMore
import Derived.ScopeJumps
import Derived.Lib.Hide
import Derived.WalkSpells
import Derived.WalkLawsBesides
import Derived.Deep.QuietTactic
import Derived.BigQuiet
import Derived.Laws.Rows
import Derived.Test.YtigpdkbfailadaaMems
import Derived.Test.YtigpdkbfailadaaRef
namespace Go.Proofs.Ytigpdkbfailadaa
open Go Go.RowKit Go.Shelf
set_option linter.unusedSimpArgs false
set_option linter.unusedVariables false
attribute [local go_sem] Oper.semAt_some

theorem rightM_iff (m : Mm) : rightM m = true ↔ (∀ j, j < 6 → okAt j (m j) = true) ∧ (∀ j, j < 3 → okAt (6 + j) (m (6 + j)) = true) := by
  unfold rightM
  rw [List.all_eq_true]
  constructor
  · intro h
    exact ⟨fun j hj => h j (List.mem_range.2 (by omega)), fun j hj => h (6 + j) (List.mem_range.2 (by omega))⟩
  · rintro ⟨h1, h2⟩ i hi
    rw [List.mem_range] at hi
    rcases Nat.lt_or_ge i 6 with h | h
    · exact h1 i h
    · have := h2 (i - 6) (by omega)
      rwa [show 6 + (i - 6) = i by omega] at this

set_option maxHeartbeats 1000000 in
theorem refRight_any (m : Mm) (w : World) : Calls Try.prog 18 #[mv m] w fun e W' => e = .returned (.bool (rightM m)) ∧ Below w.heap.size w W' := by
  have hm := Mx.new w m
  have hB : Below w.heap.size w (w.alloc (.cells (mcells m) 25)) := (Below.refl _ w).alloc (Nat.le_refl _) _
  go_enter Try.func18, Try.ntmps18
  go_wp2
  go_loop [3] (fun i => ∃ k : Nat, k ≤ 6 ∧ i = .int .i64 k ∧ ∀ j, j < k → okAt j (m j) = true) (fun i => 6 - (intOf i).toNat)
  case atStart => exact ⟨0, Nat.zero_le _, rfl, fun j h => (by omega)⟩
  case round =>
    obtain ⟨k, hk, rfl, hok⟩ := hrel
    have HO := hide hok
    clear hok
    by_cases hlt : k < 6
    · have hc := hm.at_ (i := k) (by omega)
      obtain ⟨s, hs⟩ : ∃ s, m k = s := ⟨_, rfl⟩
      rw [hs] at hc
      have HS := hide hs
      clear hs
      by_cases h4 : s < 4
      · have ho : okAt k s = true := by unfold okAt; simp [h4, hlt]
        have HY := hide ho
        clear ho
        go_wp2
        go_round
        case rel => exact ⟨k + 1, by omega, by go_num, fun j hj => by
          rcases Nat.lt_or_ge j k with h | h
          · exact HO.out j h
          · obtain rfl : j = k := by omega
            rw [HS.out]
            exact HY.out⟩
        case measure => simp [intOf]; omega
      · have ho : rightM m = false := rightM_no (i := k) (by omega) (by rw [HS.out]; unfold okAt; simp [h4])
        have HN := hide ho
        clear ho
        go_wp2
        go_ret
        exact ⟨ret_bool HN.out.symm, hB⟩
    · obtain rfl : k = 6 := by omega
      go_wp2
      go_loop [4] (fun i => ∃ k : Nat, k ≤ 3 ∧ i = .int .i64 k ∧ ∀ j, j < k → okAt (6 + j) (m (6 + j)) = true) (fun i => 3 - (intOf i).toNat)
      case atStart => exact ⟨0, Nat.zero_le _, rfl, fun j h => (by omega)⟩
      case round =>
        obtain ⟨k, hk, rfl, hok⟩ := hrel
        have HO2 := hide hok
        clear hok
        by_cases hlt : k < 3
        · have hc := hm.at_ (i := 6 + k) (by omega)
          obtain ⟨s, hs⟩ : ∃ s, m (6 + k) = s := ⟨_, rfl⟩
          rw [hs] at hc
          have HS := hide hs
          clear hs
          by_cases h4 : s < 4
          · by_cases h2 : s = 2
            · have ho : rightM m = false := rightM_no (i := 6 + k) (by omega) (by rw [HS.out]; unfold okAt; simp [h2])
              have HN := hide ho
              subst h2
              clear ho
              go_wp2
              go_ret
              exact ⟨ret_bool HN.out.symm, hB⟩
            · have ho : okAt (6 + k) s = true := by unfold okAt; simp [h4, h2]
              have HY := hide ho
              have e2 : (s == 2) = false := by simp [h2]
              clear ho h2
              go_wp2
              go_round
              case rel => exact ⟨k + 1, by omega, by go_num, fun j hj => by
                rcases Nat.lt_or_ge j k with h | h
                · exact HO2.out j h
                · obtain rfl : j = k := by omega
                  rw [HS.out]
                  exact HY.out⟩
              case measure => simp [intOf]; omega
          · have ho : rightM m = false := rightM_no (i := 6 + k) (by omega) (by rw [HS.out]; unfold okAt; simp [h4])
            have HN := hide ho
            clear ho
            go_wp2
            go_ret
            exact ⟨ret_bool HN.out.symm, hB⟩
        · obtain rfl : k = 3 := by omega
          have ho := (rightM_iff m).2 ⟨HO.out, HO2.out⟩
          have HN := hide ho
          clear ho
          go_wp2
          go_ret
          exact ⟨ret_bool HN.out.symm, hB⟩

theorem pow_small (k : Nat) (h : k < 6) : 1 ≤ 2 ^ k ∧ 2 ^ k ≤ 32 := by
  rcases (show k = 0 ∨ k = 1 ∨ k = 2 ∨ k = 3 ∨ k = 4 ∨ k = 5 by omega) with rfl | rfl | rfl | rfl | rfl | rfl <;> simp

set_option maxHeartbeats 1000000 in
theorem refBackends_any (m : Mm) (w : World) : Calls Try.prog 20 #[mv m] w fun e W' => e = .returned (.int .u8 (bitsTo m 0 thereS 6 : Nat)) ∧ Below w.heap.size w W' := by
  have hm := Mx.new w m
  have hB : Below w.heap.size w (w.alloc (.cells (mcells m) 25)) := (Below.refl _ w).alloc (Nat.le_refl _) _
  go_enter Try.func20, Try.ntmps20
  go_wp2
  go_loop [3, 4] (fun o i => ∃ k b : Nat, k ≤ 6 ∧ i = .int .i64 k ∧ o = .int .i64 b ∧ b = bitsTo m 0 thereS k ∧ b < 2 ^ k) (fun _ i => 6 - (intOf i).toNat)
  case atStart => exact ⟨0, 0, Nat.zero_le _, rfl, rfl, rfl, by simp⟩
  case round =>
    obtain ⟨k, b, hk, rfl, rfl, hb, hb2⟩ := hrel
    have HB := hide hb
    clear hb
    by_cases hlt : k < 6
    · have hc := hm.at_ (i := 0 + k) (by omega)
      obtain ⟨s, hs⟩ : ∃ s, m (0 + k) = s := ⟨_, rfl⟩
      rw [hs, Nat.zero_add] at hc
      have HN := hide (show bitsTo m 0 thereS (k + 1) = b + if thereS s then 2 ^ k else 0 from by rw [HB.out, ← hs]; rfl)
      clear hs
      have hp := pow_small k (by omega)
      have hb64 : b < 64 := by omega
      have HP := hide hb2
      have hk0 : (0 : Int) ≤ (k : Int) := by omega
      clear hb2
      by_cases h1 : s = 1
      · subst h1
        have hy : thereS 1 = true := by rfl
        have HY := hide hy
        clear hy
        have hpw : (2 : Int) ^ k = ((2 ^ k : Nat) : Int) := by simp
        obtain ⟨q, hq⟩ : ∃ q : Nat, 2 ^ k = q := ⟨_, rfl⟩
        rw [hq] at hp hpw
        have HQ := hide hq
        clear hq
        go_wp2
        go_round
        case rel => exact ⟨k + 1, b + q, by omega, by go_num, by go_num, by rw [HN.out, HY.out, if_pos rfl, HQ.out], by rw [Nat.pow_succ, HQ.out]; have := HP.out; rw [HQ.out] at this; omega⟩
        case measure => simp [intOf]; omega
      · have e1 : (s == 1) = false := by simp [h1]
        by_cases h2 : s = 2
        · subst h2
          clear h1
          have hy : thereS 2 = true := by rfl
          have HY := hide hy
          clear hy
          have hpw : (2 : Int) ^ k = ((2 ^ k : Nat) : Int) := by simp
          obtain ⟨q, hq⟩ : ∃ q : Nat, 2 ^ k = q := ⟨_, rfl⟩
          rw [hq] at hp hpw
          have HQ := hide hq
          clear hq
          go_wp2
          go_round
          case rel => exact ⟨k + 1, b + q, by omega, by go_num, by go_num, by rw [HN.out, HY.out, if_pos rfl, HQ.out], by rw [Nat.pow_succ, HQ.out]; have := HP.out; rw [HQ.out] at this; omega⟩
          case measure => simp [intOf]; omega
        · have e2 : (s == 2) = false := by simp [h2]
          have hy : thereS s = false := by simp [thereS, h1, h2]
          clear h1 h2
          have HY := hide hy
          clear hy
          go_wp2
          go_round
          case rel => exact ⟨k + 1, b, by omega, by go_num, rfl, by rw [HN.out, HY.out]; simp, by rw [Nat.pow_succ]; have := HP.out; omega⟩
          case measure => simp [intOf]; omega
    · obtain rfl : k = 6 := by omega
      have hb256 : b < 256 := by have : 2 ^ 6 = 64 := rfl; omega
      have HBB := HB.out
      clear hb2
      go_wp2
      go_ret
      rw [← HBB]
      exact ⟨ret_int (by first | rfl | (rw [IntKind.wrap_u8']; omega)), hB⟩

set_option maxHeartbeats 1000000 in
theorem refTakers_any (m : Mm) (w : World) : Calls Try.prog 22 #[mv m] w fun e W' => e = .returned (.int .u8 (bitsTo m 0 aliveS 6 : Nat)) ∧ Below w.heap.size w W' := by
  have hm := Mx.new w m
  have hB : Below w.heap.size w (w.alloc (.cells (mcells m) 25)) := (Below.refl _ w).alloc (Nat.le_refl _) _
  go_enter Try.func22, Try.ntmps22
  go_wp2
  go_loop [3, 4] (fun o i => ∃ k b : Nat, k ≤ 6 ∧ i = .int .i64 k ∧ o = .int .i64 b ∧ b = bitsTo m 0 aliveS k ∧ b < 2 ^ k) (fun _ i => 6 - (intOf i).toNat)
  case atStart => exact ⟨0, 0, Nat.zero_le _, rfl, rfl, rfl, by simp⟩
  case round =>
    obtain ⟨k, b, hk, rfl, rfl, hb, hb2⟩ := hrel
    have HB := hide hb
    clear hb
    by_cases hlt : k < 6
    · have hc := hm.at_ (i := 0 + k) (by omega)
      obtain ⟨s, hs⟩ : ∃ s, m (0 + k) = s := ⟨_, rfl⟩
      rw [hs, Nat.zero_add] at hc
      have HN := hide (show bitsTo m 0 aliveS (k + 1) = b + if aliveS s then 2 ^ k else 0 from by rw [HB.out, ← hs]; rfl)
      clear hs
      have hp := pow_small k (by omega)
      have hb64 : b < 64 := by omega
      have HP := hide hb2
      have hk0 : (0 : Int) ≤ (k : Int) := by omega
      clear hb2
      by_cases h1 : s = 1
      · subst h1
        have hy : aliveS 1 = true := by rfl
        have HY := hide hy
        clear hy
        have hpw : (2 : Int) ^ k = ((2 ^ k : Nat) : Int) := by simp
        obtain ⟨q, hq⟩ : ∃ q : Nat, 2 ^ k = q := ⟨_, rfl⟩
        rw [hq] at hp hpw
        have HQ := hide hq
        clear hq
        go_wp2
        go_round
        case rel => exact ⟨k + 1, b + q, by omega, by go_num, by go_num, by rw [HN.out, HY.out, if_pos rfl, HQ.out], by rw [Nat.pow_succ, HQ.out]; have := HP.out; rw [HQ.out] at this; omega⟩
        case measure => simp [intOf]; omega
      · have e1 : (s == 1) = false := by simp [h1]
        have hy : aliveS s = false := by simp [aliveS, h1]
        clear h1
        have HY := hide hy
        clear hy
        go_wp2
        go_round
        case rel => exact ⟨k + 1, b, by omega, by go_num, rfl, by rw [HN.out, HY.out]; simp, by rw [Nat.pow_succ]; have := HP.out; omega⟩
        case measure => simp [intOf]; omega
    · obtain rfl : k = 6 := by omega
      have hb256 : b < 256 := by have : 2 ^ 6 = 64 := rfl; omega
      have HBB := HB.out
      clear hb2
      go_wp2
      go_ret
      rw [← HBB]
      exact ⟨ret_int (by first | rfl | (rw [IntKind.wrap_u8']; omega)), hB⟩

set_option maxHeartbeats 1000000 in
theorem refMuxes_any (m : Mm) (w : World) : Calls Try.prog 24 #[mv m] w fun e W' => e = .returned (.int .u8 (bitsTo m 6 thereS 3 : Nat)) ∧ Below w.heap.size w W' := by
  have hm := Mx.new w m
  have hB : Below w.heap.size w (w.alloc (.cells (mcells m) 25)) := (Below.refl _ w).alloc (Nat.le_refl _) _
  go_enter Try.func24, Try.ntmps24
  go_wp2
  go_loop [3, 4] (fun o i => ∃ k b : Nat, k ≤ 3 ∧ i = .int .i64 k ∧ o = .int .i64 b ∧ b = bitsTo m 6 thereS k ∧ b < 2 ^ k) (fun _ i => 3 - (intOf i).toNat)
  case atStart => exact ⟨0, 0, Nat.zero_le _, rfl, rfl, rfl, by simp⟩
  case round =>
    obtain ⟨k, b, hk, rfl, rfl, hb, hb2⟩ := hrel
    have HB := hide hb
    clear hb
    by_cases hlt : k < 3
    · have hc := hm.at_ (i := 6 + k) (by omega)
      obtain ⟨s, hs⟩ : ∃ s, m (6 + k) = s := ⟨_, rfl⟩
      rw [hs] at hc
      have HN := hide (show bitsTo m 6 thereS (k + 1) = b + if thereS s then 2 ^ k else 0 from by rw [HB.out, ← hs]; rfl)
      clear hs
      have hp := pow_small k (by omega)
      have hb64 : b < 64 := by omega
      have HP := hide hb2
      have hk0 : (0 : Int) ≤ (k : Int) := by omega
      clear hb2
      by_cases h1 : s = 1
      · subst h1
        have hy : thereS 1 = true := by rfl
        have HY := hide hy
        clear hy
        have hpw : (2 : Int) ^ k = ((2 ^ k : Nat) : Int) := by simp
        obtain ⟨q, hq⟩ : ∃ q : Nat, 2 ^ k = q := ⟨_, rfl⟩
        rw [hq] at hp hpw
        have HQ := hide hq
        clear hq
        go_wp2
        go_round
        case rel => exact ⟨k + 1, b + q, by omega, by go_num, by go_num, by rw [HN.out, HY.out, if_pos rfl, HQ.out], by rw [Nat.pow_succ, HQ.out]; have := HP.out; rw [HQ.out] at this; omega⟩
        case measure => simp [intOf]; omega
      · have e1 : (s == 1) = false := by simp [h1]
        by_cases h2 : s = 2
        · subst h2
          clear h1
          have hy : thereS 2 = true := by rfl
          have HY := hide hy
          clear hy
          have hpw : (2 : Int) ^ k = ((2 ^ k : Nat) : Int) := by simp
          obtain ⟨q, hq⟩ : ∃ q : Nat, 2 ^ k = q := ⟨_, rfl⟩
          rw [hq] at hp hpw
          have HQ := hide hq
          clear hq
          go_wp2
          go_round
          case rel => exact ⟨k + 1, b + q, by omega, by go_num, by go_num, by rw [HN.out, HY.out, if_pos rfl, HQ.out], by rw [Nat.pow_succ, HQ.out]; have := HP.out; rw [HQ.out] at this; omega⟩
          case measure => simp [intOf]; omega
        · have e2 : (s == 2) = false := by simp [h2]
          have hy : thereS s = false := by simp [thereS, h1, h2]
          clear h1 h2
          have HY := hide hy
          clear hy
          go_wp2
          go_round
          case rel => exact ⟨k + 1, b, by omega, by go_num, rfl, by rw [HN.out, HY.out]; simp, by rw [Nat.pow_succ]; have := HP.out; omega⟩
          case measure => simp [intOf]; omega
    · obtain rfl : k = 3 := by omega
      have hb256 : b < 256 := by have : 2 ^ 3 = 8 := rfl; omega
      have HBB := HB.out
      clear hb2
      go_wp2
      go_ret
      rw [← HBB]
      exact ⟨ret_int (by first | rfl | (rw [IntKind.wrap_u8']; omega)), hB⟩
end Go.Proofs.Ytigpdkbfailadaa
