/-
  The walk of the statement MemberSets (its cases printed by gen-sets20.py).
-/
import Derived.Test.YtigpdkbfailadaaRows
import Derived.Test.YtigpdkbfailadaaAppend
import Derived.Test.YtigpdkbfailadaaTail
import Derived.Shelf.Abstract
import Derived.Shelf.RegionOpen
import Derived.WalkKit
import Derived.OwnWalkIn
import Derived.TacticsInMore
import Derived.LoopNIn
import Derived.LoopIn
import Derived.WalkMore
import Derived.ScopeJumps
import Derived.Lib.Hide
import Derived.WalkSpells
import Derived.WalkLawsBesides
import Derived.Deep.QuietTactic
import Derived.BigQuiet
import Derived.Laws.Rows
import Derived.Test.YtigpdkbfailadaaMems
import Derived.Test.YtigpdkbfailadaaSame
namespace Go.Proofs.Ytigpdkbfailadaa
open Go Go.RowKit Go.Shelf
set_option linter.unusedSimpArgs false
set_option linter.unusedVariables false
attribute [local go_sem] Oper.semAt_some

/-- One of some bits. -/
theorem and6 : ∀ (p0 p1 p2 p3 p4 p5 : Bool) (i : Fin 8), (bits .and .u8 (((((((0 + if p0 then 2 ^ 0 else 0) + if p1 then 2 ^ 1 else 0) + if p2 then 2 ^ 2 else 0) + if p3 then 2 ^ 3 else 0) + if p4 then 2 ^ 4 else 0) + if p5 then 2 ^ 5 else 0 : Nat) : Int) ((2 : Int) ^ i.val % 256) != 0) = [p0, p1, p2, p3, p4, p5].getD i.val false := by
  decide +kernel
theorem and3 : ∀ (p0 p1 p2 : Bool) (i : Fin 8), (bits .and .u8 ((((0 + if p0 then 2 ^ 0 else 0) + if p1 then 2 ^ 1 else 0) + if p2 then 2 ^ 2 else 0 : Nat) : Int) ((2 : Int) ^ i.val % 256) != 0) = [p0, p1, p2].getD i.val false := by
  decide +kernel
theorem and_bits6 (m : Mm) (p : Int → Bool) (i : Nat) (hi : i < 8) : (bits .and .u8 (bitsTo m 0 p 6 : Nat) ((2 : Int) ^ i % 256) != 0) = (decide (i < 6) && p (m i)) := by
  have h := and6 (p (m (0 + 0))) (p (m (0 + 1))) (p (m (0 + 2))) (p (m (0 + 3))) (p (m (0 + 4))) (p (m (0 + 5))) ⟨i, hi⟩
  refine h.trans ?_
  rcases (show i = 0 ∨ i = 1 ∨ i = 2 ∨ i = 3 ∨ i = 4 ∨ i = 5 ∨ i = 6 ∨ i = 7 by omega) with rfl | rfl | rfl | rfl | rfl | rfl | rfl | rfl <;> simp
theorem and_bits3 (m : Mm) (p : Int → Bool) (i : Nat) (hi : i < 8) : (bits .and .u8 (bitsTo m 6 p 3 : Nat) ((2 : Int) ^ i % 256) != 0) = (decide (i < 3) && p (m (6 + i))) := by
  have h := and3 (p (m (6 + 0))) (p (m (6 + 1))) (p (m (6 + 2))) ⟨i, hi⟩
  refine h.trans ?_
  rcases (show i = 0 ∨ i = 1 ∨ i = 2 ∨ i = 3 ∨ i = 4 ∨ i = 5 ∨ i = 6 ∨ i = 7 by omega) with rfl | rfl | rfl | rfl | rfl | rfl | rfl | rfl <;> simp

theorem idx_one_nat (i : Nat) : idx 1 (i : Nat) = if i < 3 then some (6 + i) else none := by
  unfold idx
  by_cases h : i < 3
  · rw [if_pos rfl, if_pos (by omega), if_pos h]; simp
  · rw [if_pos rfl, if_neg (by omega), if_neg h]
theorem idx_two_nat (i : Nat) : idx 2 (i : Nat) = if i < 6 then some i else none := by
  unfold idx
  by_cases h : i < 6
  · rw [if_neg (by omega), if_pos rfl, if_pos (by omega), if_pos h]; simp
  · rw [if_neg (by omega), if_pos rfl, if_neg (by omega), if_neg h]

set_option maxHeartbeats 2000000 in
theorem sets_a11 (m : Mm) (i : Nat) (h1 : 0 ≤ i) (h2 : i < 3) (s : Int) (hs : m i = s) (hq : s = 1) (t : Int) (ht : m (6 + i) = t) (hr : t = 1) (w : World) : Calls Try.prog 6 #[mv m, .int .i64 (i : Nat)] w fun e W' => e = .returned (.bool true) ∧ Below w.heap.size w W' := by
  have HS := hide (fun W => (show idx 2 (i : Nat) = some i from by rw [idx_two_nat, if_pos (by omega)]) |> fun h => state_some h m W)
  rw [hs] at HS
  have HT := hide (fun W => (show idx 1 (i : Nat) = some (6 + i) from by rw [idx_one_nat, if_pos (by omega)]) |> fun h => state_some h m W)
  rw [ht] at HT
  have HbB := hide (show (bits .and .u8 (bitsTo m 0 thereS 6 : Nat) ((2 : Int) ^ i % 256) != 0) = true from by rw [and_bits6 m thereS i (by omega), hs]; first | (simp [thereS, hq]; done) | (simp [thereS, hq]; omega))
  have HbT := hide (show (bits .and .u8 (bitsTo m 0 aliveS 6 : Nat) ((2 : Int) ^ i % 256) != 0) = true from by rw [and_bits6 m aliveS i (by omega), hs]; first | (simp [aliveS, hq]; done) | (simp [aliveS, hq]; omega))
  have HbM := hide (show (bits .and .u8 (bitsTo m 6 thereS 3 : Nat) ((2 : Int) ^ i % 256) != 0) = true from by rw [and_bits3 m thereS i (by omega), ht]; first | (simp [thereS, hr]; done) | (simp [thereS, hr]; omega))
  have HB := hide (fun W => backends_any m W)
  have HK := hide (fun W => takers_any m W)
  have HX := hide (fun W => muxes_any m W)
  obtain ⟨B, hB'⟩ : ∃ B, bitsTo m 0 thereS 6 = B := ⟨_, rfl⟩
  rw [hB'] at HbB HB
  clear hB'
  obtain ⟨T, hT'⟩ : ∃ T, bitsTo m 0 aliveS 6 = T := ⟨_, rfl⟩
  rw [hT'] at HbT HK
  clear hT'
  obtain ⟨M, hM'⟩ : ∃ M, bitsTo m 6 thereS 3 = M := ⟨_, rfl⟩
  rw [hM'] at HbM HX
  clear hM'
  have hi0 : (0 : Int) ≤ (i : Int) := by omega
  have hi7 : (i : Int) ≤ 7 := by omega
  have hi6 : decide (i < 6) = true := by simp; omega
  have hi3 : decide (i < 3) = true := by simp; omega
  have hj6 : (i : Int) < 6 := by omega
  have hj3 : (i : Int) < 3 := by omega
  clear hs
  subst hq
  clear ht
  subst hr
  clear h1 h2
  go_enter Try.func6, Try.ntmps6
  have hM := Mx.new w m
  have hT : Below w.heap.size w (w.alloc (.cells (mcells m) 25)) := (Below.refl _ w).alloc (Nat.le_refl _) _
  go_wp2_with fail
  refine (HS.out _).mono ?_
  rintro e w0 ⟨rfl, hB0⟩
  replace hM := hM.below hB0 hM.lt
  replace hT := hT.trans (hB0.mono hT.size)
  obtain ⟨q0, q1, q2, q3, q4, q5, q6, q7, q8⟩ := hM.cs
  go_wp2_with fail
  refine (HT.out _).mono ?_
  clear q0 q1 q2 q3 q4 q5 q6 q7 q8
  rintro e w1 ⟨rfl, hB1⟩
  replace hM := hM.below hB1 hM.lt
  replace hT := hT.trans (hB1.mono hT.size)
  obtain ⟨q0, q1, q2, q3, q4, q5, q6, q7, q8⟩ := hM.cs
  have b1 := HbB.out
  have b2 := HbT.out
  have b3 := HbM.out
  go_wp2_with fail
  refine (HB.out _).mono ?_
  clear q0 q1 q2 q3 q4 q5 q6 q7 q8
  rintro e w2 ⟨rfl, hB2⟩
  replace hM := hM.below hB2 hM.lt
  replace hT := hT.trans (hB2.mono hT.size)
  obtain ⟨q0, q1, q2, q3, q4, q5, q6, q7, q8⟩ := hM.cs
  go_wp2_with fail
  refine (HK.out _).mono ?_
  clear q0 q1 q2 q3 q4 q5 q6 q7 q8
  rintro e w3 ⟨rfl, hB3⟩
  replace hM := hM.below hB3 hM.lt
  replace hT := hT.trans (hB3.mono hT.size)
  obtain ⟨q0, q1, q2, q3, q4, q5, q6, q7, q8⟩ := hM.cs
  go_wp2_with fail
  refine (HX.out _).mono ?_
  clear q0 q1 q2 q3 q4 q5 q6 q7 q8
  rintro e w4 ⟨rfl, hB4⟩
  replace hM := hM.below hB4 hM.lt
  replace hT := hT.trans (hB4.mono hT.size)
  go_wp2_with fail
  refine (wakes_any _).mono ?_
  rintro e w5 ⟨rfl, hB5⟩
  replace hM := hM.below hB5 hM.lt
  replace hT := hT.trans (hB5.mono hT.size)
  go_wp2
  go_ret
  exact ⟨rfl, hT⟩

set_option maxHeartbeats 2000000 in
theorem sets_a12 (m : Mm) (i : Nat) (h1 : 0 ≤ i) (h2 : i < 3) (s : Int) (hs : m i = s) (hq : s = 1) (t : Int) (ht : m (6 + i) = t) (hr : t = 2) (w : World) : Calls Try.prog 6 #[mv m, .int .i64 (i : Nat)] w fun e W' => e = .returned (.bool true) ∧ Below w.heap.size w W' := by
  have HS := hide (fun W => (show idx 2 (i : Nat) = some i from by rw [idx_two_nat, if_pos (by omega)]) |> fun h => state_some h m W)
  rw [hs] at HS
  have HT := hide (fun W => (show idx 1 (i : Nat) = some (6 + i) from by rw [idx_one_nat, if_pos (by omega)]) |> fun h => state_some h m W)
  rw [ht] at HT
  have HbB := hide (show (bits .and .u8 (bitsTo m 0 thereS 6 : Nat) ((2 : Int) ^ i % 256) != 0) = true from by rw [and_bits6 m thereS i (by omega), hs]; first | (simp [thereS, hq]; done) | (simp [thereS, hq]; omega))
  have HbT := hide (show (bits .and .u8 (bitsTo m 0 aliveS 6 : Nat) ((2 : Int) ^ i % 256) != 0) = true from by rw [and_bits6 m aliveS i (by omega), hs]; first | (simp [aliveS, hq]; done) | (simp [aliveS, hq]; omega))
  have HbM := hide (show (bits .and .u8 (bitsTo m 6 thereS 3 : Nat) ((2 : Int) ^ i % 256) != 0) = true from by rw [and_bits3 m thereS i (by omega), ht]; first | (simp [thereS, hr]; done) | (simp [thereS, hr]; omega))
  have HB := hide (fun W => backends_any m W)
  have HK := hide (fun W => takers_any m W)
  have HX := hide (fun W => muxes_any m W)
  obtain ⟨B, hB'⟩ : ∃ B, bitsTo m 0 thereS 6 = B := ⟨_, rfl⟩
  rw [hB'] at HbB HB
  clear hB'
  obtain ⟨T, hT'⟩ : ∃ T, bitsTo m 0 aliveS 6 = T := ⟨_, rfl⟩
  rw [hT'] at HbT HK
  clear hT'
  obtain ⟨M, hM'⟩ : ∃ M, bitsTo m 6 thereS 3 = M := ⟨_, rfl⟩
  rw [hM'] at HbM HX
  clear hM'
  have hi0 : (0 : Int) ≤ (i : Int) := by omega
  have hi7 : (i : Int) ≤ 7 := by omega
  have hi6 : decide (i < 6) = true := by simp; omega
  have hi3 : decide (i < 3) = true := by simp; omega
  have hj6 : (i : Int) < 6 := by omega
  have hj3 : (i : Int) < 3 := by omega
  clear hs
  subst hq
  clear ht
  subst hr
  clear h1 h2
  go_enter Try.func6, Try.ntmps6
  have hM := Mx.new w m
  have hT : Below w.heap.size w (w.alloc (.cells (mcells m) 25)) := (Below.refl _ w).alloc (Nat.le_refl _) _
  go_wp2_with fail
  refine (HS.out _).mono ?_
  rintro e w0 ⟨rfl, hB0⟩
  replace hM := hM.below hB0 hM.lt
  replace hT := hT.trans (hB0.mono hT.size)
  obtain ⟨q0, q1, q2, q3, q4, q5, q6, q7, q8⟩ := hM.cs
  go_wp2_with fail
  refine (HT.out _).mono ?_
  clear q0 q1 q2 q3 q4 q5 q6 q7 q8
  rintro e w1 ⟨rfl, hB1⟩
  replace hM := hM.below hB1 hM.lt
  replace hT := hT.trans (hB1.mono hT.size)
  obtain ⟨q0, q1, q2, q3, q4, q5, q6, q7, q8⟩ := hM.cs
  have b1 := HbB.out
  have b2 := HbT.out
  have b3 := HbM.out
  go_wp2_with fail
  refine (HB.out _).mono ?_
  clear q0 q1 q2 q3 q4 q5 q6 q7 q8
  rintro e w2 ⟨rfl, hB2⟩
  replace hM := hM.below hB2 hM.lt
  replace hT := hT.trans (hB2.mono hT.size)
  obtain ⟨q0, q1, q2, q3, q4, q5, q6, q7, q8⟩ := hM.cs
  go_wp2_with fail
  refine (HK.out _).mono ?_
  clear q0 q1 q2 q3 q4 q5 q6 q7 q8
  rintro e w3 ⟨rfl, hB3⟩
  replace hM := hM.below hB3 hM.lt
  replace hT := hT.trans (hB3.mono hT.size)
  obtain ⟨q0, q1, q2, q3, q4, q5, q6, q7, q8⟩ := hM.cs
  go_wp2_with fail
  refine (HX.out _).mono ?_
  clear q0 q1 q2 q3 q4 q5 q6 q7 q8
  rintro e w4 ⟨rfl, hB4⟩
  replace hM := hM.below hB4 hM.lt
  replace hT := hT.trans (hB4.mono hT.size)
  go_wp2_with fail
  refine (wakes_any _).mono ?_
  rintro e w5 ⟨rfl, hB5⟩
  replace hM := hM.below hB5 hM.lt
  replace hT := hT.trans (hB5.mono hT.size)
  go_wp2
  go_ret
  exact ⟨rfl, hT⟩

set_option maxHeartbeats 2000000 in
theorem sets_a1o (m : Mm) (i : Nat) (h1 : 0 ≤ i) (h2 : i < 3) (s : Int) (hs : m i = s) (hq : s = 1) (t : Int) (ht : m (6 + i) = t) (hr1 : t ≠ 1) (hr2 : t ≠ 2) (w : World) : Calls Try.prog 6 #[mv m, .int .i64 (i : Nat)] w fun e W' => e = .returned (.bool true) ∧ Below w.heap.size w W' := by
  have HS := hide (fun W => (show idx 2 (i : Nat) = some i from by rw [idx_two_nat, if_pos (by omega)]) |> fun h => state_some h m W)
  rw [hs] at HS
  have HT := hide (fun W => (show idx 1 (i : Nat) = some (6 + i) from by rw [idx_one_nat, if_pos (by omega)]) |> fun h => state_some h m W)
  rw [ht] at HT
  have HbB := hide (show (bits .and .u8 (bitsTo m 0 thereS 6 : Nat) ((2 : Int) ^ i % 256) != 0) = true from by rw [and_bits6 m thereS i (by omega), hs]; first | (simp [thereS, hq]; done) | (simp [thereS, hq]; omega))
  have HbT := hide (show (bits .and .u8 (bitsTo m 0 aliveS 6 : Nat) ((2 : Int) ^ i % 256) != 0) = true from by rw [and_bits6 m aliveS i (by omega), hs]; first | (simp [aliveS, hq]; done) | (simp [aliveS, hq]; omega))
  have HbM := hide (show (bits .and .u8 (bitsTo m 6 thereS 3 : Nat) ((2 : Int) ^ i % 256) != 0) = false from by rw [and_bits3 m thereS i (by omega), ht]; first | (simp [thereS, hr1, hr2]; done) | (simp [thereS, hr1, hr2]; omega))
  have HB := hide (fun W => backends_any m W)
  have HK := hide (fun W => takers_any m W)
  have HX := hide (fun W => muxes_any m W)
  obtain ⟨B, hB'⟩ : ∃ B, bitsTo m 0 thereS 6 = B := ⟨_, rfl⟩
  rw [hB'] at HbB HB
  clear hB'
  obtain ⟨T, hT'⟩ : ∃ T, bitsTo m 0 aliveS 6 = T := ⟨_, rfl⟩
  rw [hT'] at HbT HK
  clear hT'
  obtain ⟨M, hM'⟩ : ∃ M, bitsTo m 6 thereS 3 = M := ⟨_, rfl⟩
  rw [hM'] at HbM HX
  clear hM'
  have hi0 : (0 : Int) ≤ (i : Int) := by omega
  have hi7 : (i : Int) ≤ 7 := by omega
  have hi6 : decide (i < 6) = true := by simp; omega
  have hi3 : decide (i < 3) = true := by simp; omega
  have hj6 : (i : Int) < 6 := by omega
  have hj3 : (i : Int) < 3 := by omega
  clear hs
  subst hq
  clear ht
  have g1 : (t == 1) = false := by simp [hr1]
  have g2 : (t == 2) = false := by simp [hr2]
  clear hr1 hr2
  clear h1 h2
  go_enter Try.func6, Try.ntmps6
  have hM := Mx.new w m
  have hT : Below w.heap.size w (w.alloc (.cells (mcells m) 25)) := (Below.refl _ w).alloc (Nat.le_refl _) _
  go_wp2_with fail
  refine (HS.out _).mono ?_
  rintro e w0 ⟨rfl, hB0⟩
  replace hM := hM.below hB0 hM.lt
  replace hT := hT.trans (hB0.mono hT.size)
  obtain ⟨q0, q1, q2, q3, q4, q5, q6, q7, q8⟩ := hM.cs
  go_wp2_with fail
  refine (HT.out _).mono ?_
  clear q0 q1 q2 q3 q4 q5 q6 q7 q8
  rintro e w1 ⟨rfl, hB1⟩
  replace hM := hM.below hB1 hM.lt
  replace hT := hT.trans (hB1.mono hT.size)
  obtain ⟨q0, q1, q2, q3, q4, q5, q6, q7, q8⟩ := hM.cs
  have b1 := HbB.out
  have b2 := HbT.out
  have b3 := HbM.out
  go_wp2_with fail
  refine (HB.out _).mono ?_
  clear q0 q1 q2 q3 q4 q5 q6 q7 q8
  rintro e w2 ⟨rfl, hB2⟩
  replace hM := hM.below hB2 hM.lt
  replace hT := hT.trans (hB2.mono hT.size)
  obtain ⟨q0, q1, q2, q3, q4, q5, q6, q7, q8⟩ := hM.cs
  go_wp2_with fail
  refine (HK.out _).mono ?_
  clear q0 q1 q2 q3 q4 q5 q6 q7 q8
  rintro e w3 ⟨rfl, hB3⟩
  replace hM := hM.below hB3 hM.lt
  replace hT := hT.trans (hB3.mono hT.size)
  obtain ⟨q0, q1, q2, q3, q4, q5, q6, q7, q8⟩ := hM.cs
  go_wp2_with fail
  refine (HX.out _).mono ?_
  clear q0 q1 q2 q3 q4 q5 q6 q7 q8
  rintro e w4 ⟨rfl, hB4⟩
  replace hM := hM.below hB4 hM.lt
  replace hT := hT.trans (hB4.mono hT.size)
  go_wp2_with fail
  refine (wakes_any _).mono ?_
  rintro e w5 ⟨rfl, hB5⟩
  replace hM := hM.below hB5 hM.lt
  replace hT := hT.trans (hB5.mono hT.size)
  go_wp2
  go_ret
  exact ⟨rfl, hT⟩

set_option maxHeartbeats 2000000 in
theorem sets_a21 (m : Mm) (i : Nat) (h1 : 0 ≤ i) (h2 : i < 3) (s : Int) (hs : m i = s) (hq : s = 2) (t : Int) (ht : m (6 + i) = t) (hr : t = 1) (w : World) : Calls Try.prog 6 #[mv m, .int .i64 (i : Nat)] w fun e W' => e = .returned (.bool true) ∧ Below w.heap.size w W' := by
  have HS := hide (fun W => (show idx 2 (i : Nat) = some i from by rw [idx_two_nat, if_pos (by omega)]) |> fun h => state_some h m W)
  rw [hs] at HS
  have HT := hide (fun W => (show idx 1 (i : Nat) = some (6 + i) from by rw [idx_one_nat, if_pos (by omega)]) |> fun h => state_some h m W)
  rw [ht] at HT
  have HbB := hide (show (bits .and .u8 (bitsTo m 0 thereS 6 : Nat) ((2 : Int) ^ i % 256) != 0) = true from by rw [and_bits6 m thereS i (by omega), hs]; first | (simp [thereS, hq]; done) | (simp [thereS, hq]; omega))
  have HbT := hide (show (bits .and .u8 (bitsTo m 0 aliveS 6 : Nat) ((2 : Int) ^ i % 256) != 0) = false from by rw [and_bits6 m aliveS i (by omega), hs]; first | (simp [aliveS, hq]; done) | (simp [aliveS, hq]; omega))
  have HbM := hide (show (bits .and .u8 (bitsTo m 6 thereS 3 : Nat) ((2 : Int) ^ i % 256) != 0) = true from by rw [and_bits3 m thereS i (by omega), ht]; first | (simp [thereS, hr]; done) | (simp [thereS, hr]; omega))
  have HB := hide (fun W => backends_any m W)
  have HK := hide (fun W => takers_any m W)
  have HX := hide (fun W => muxes_any m W)
  obtain ⟨B, hB'⟩ : ∃ B, bitsTo m 0 thereS 6 = B := ⟨_, rfl⟩
  rw [hB'] at HbB HB
  clear hB'
  obtain ⟨T, hT'⟩ : ∃ T, bitsTo m 0 aliveS 6 = T := ⟨_, rfl⟩
  rw [hT'] at HbT HK
  clear hT'
  obtain ⟨M, hM'⟩ : ∃ M, bitsTo m 6 thereS 3 = M := ⟨_, rfl⟩
  rw [hM'] at HbM HX
  clear hM'
  have hi0 : (0 : Int) ≤ (i : Int) := by omega
  have hi7 : (i : Int) ≤ 7 := by omega
  have hi6 : decide (i < 6) = true := by simp; omega
  have hi3 : decide (i < 3) = true := by simp; omega
  have hj6 : (i : Int) < 6 := by omega
  have hj3 : (i : Int) < 3 := by omega
  clear hs
  subst hq
  clear ht
  subst hr
  clear h1 h2
  go_enter Try.func6, Try.ntmps6
  have hM := Mx.new w m
  have hT : Below w.heap.size w (w.alloc (.cells (mcells m) 25)) := (Below.refl _ w).alloc (Nat.le_refl _) _
  go_wp2_with fail
  refine (HS.out _).mono ?_
  rintro e w0 ⟨rfl, hB0⟩
  replace hM := hM.below hB0 hM.lt
  replace hT := hT.trans (hB0.mono hT.size)
  obtain ⟨q0, q1, q2, q3, q4, q5, q6, q7, q8⟩ := hM.cs
  go_wp2_with fail
  refine (HT.out _).mono ?_
  clear q0 q1 q2 q3 q4 q5 q6 q7 q8
  rintro e w1 ⟨rfl, hB1⟩
  replace hM := hM.below hB1 hM.lt
  replace hT := hT.trans (hB1.mono hT.size)
  obtain ⟨q0, q1, q2, q3, q4, q5, q6, q7, q8⟩ := hM.cs
  have b1 := HbB.out
  have b2 := HbT.out
  have b3 := HbM.out
  go_wp2_with fail
  refine (HB.out _).mono ?_
  clear q0 q1 q2 q3 q4 q5 q6 q7 q8
  rintro e w2 ⟨rfl, hB2⟩
  replace hM := hM.below hB2 hM.lt
  replace hT := hT.trans (hB2.mono hT.size)
  obtain ⟨q0, q1, q2, q3, q4, q5, q6, q7, q8⟩ := hM.cs
  go_wp2_with fail
  refine (HK.out _).mono ?_
  clear q0 q1 q2 q3 q4 q5 q6 q7 q8
  rintro e w3 ⟨rfl, hB3⟩
  replace hM := hM.below hB3 hM.lt
  replace hT := hT.trans (hB3.mono hT.size)
  obtain ⟨q0, q1, q2, q3, q4, q5, q6, q7, q8⟩ := hM.cs
  go_wp2_with fail
  refine (HX.out _).mono ?_
  clear q0 q1 q2 q3 q4 q5 q6 q7 q8
  rintro e w4 ⟨rfl, hB4⟩
  replace hM := hM.below hB4 hM.lt
  replace hT := hT.trans (hB4.mono hT.size)
  go_wp2_with fail
  refine (wakes_any _).mono ?_
  rintro e w5 ⟨rfl, hB5⟩
  replace hM := hM.below hB5 hM.lt
  replace hT := hT.trans (hB5.mono hT.size)
  go_wp2
  go_ret
  exact ⟨rfl, hT⟩

set_option maxHeartbeats 2000000 in
theorem sets_a22 (m : Mm) (i : Nat) (h1 : 0 ≤ i) (h2 : i < 3) (s : Int) (hs : m i = s) (hq : s = 2) (t : Int) (ht : m (6 + i) = t) (hr : t = 2) (w : World) : Calls Try.prog 6 #[mv m, .int .i64 (i : Nat)] w fun e W' => e = .returned (.bool true) ∧ Below w.heap.size w W' := by
  have HS := hide (fun W => (show idx 2 (i : Nat) = some i from by rw [idx_two_nat, if_pos (by omega)]) |> fun h => state_some h m W)
  rw [hs] at HS
  have HT := hide (fun W => (show idx 1 (i : Nat) = some (6 + i) from by rw [idx_one_nat, if_pos (by omega)]) |> fun h => state_some h m W)
  rw [ht] at HT
  have HbB := hide (show (bits .and .u8 (bitsTo m 0 thereS 6 : Nat) ((2 : Int) ^ i % 256) != 0) = true from by rw [and_bits6 m thereS i (by omega), hs]; first | (simp [thereS, hq]; done) | (simp [thereS, hq]; omega))
  have HbT := hide (show (bits .and .u8 (bitsTo m 0 aliveS 6 : Nat) ((2 : Int) ^ i % 256) != 0) = false from by rw [and_bits6 m aliveS i (by omega), hs]; first | (simp [aliveS, hq]; done) | (simp [aliveS, hq]; omega))
  have HbM := hide (show (bits .and .u8 (bitsTo m 6 thereS 3 : Nat) ((2 : Int) ^ i % 256) != 0) = true from by rw [and_bits3 m thereS i (by omega), ht]; first | (simp [thereS, hr]; done) | (simp [thereS, hr]; omega))
  have HB := hide (fun W => backends_any m W)
  have HK := hide (fun W => takers_any m W)
  have HX := hide (fun W => muxes_any m W)
  obtain ⟨B, hB'⟩ : ∃ B, bitsTo m 0 thereS 6 = B := ⟨_, rfl⟩
  rw [hB'] at HbB HB
  clear hB'
  obtain ⟨T, hT'⟩ : ∃ T, bitsTo m 0 aliveS 6 = T := ⟨_, rfl⟩
  rw [hT'] at HbT HK
  clear hT'
  obtain ⟨M, hM'⟩ : ∃ M, bitsTo m 6 thereS 3 = M := ⟨_, rfl⟩
  rw [hM'] at HbM HX
  clear hM'
  have hi0 : (0 : Int) ≤ (i : Int) := by omega
  have hi7 : (i : Int) ≤ 7 := by omega
  have hi6 : decide (i < 6) = true := by simp; omega
  have hi3 : decide (i < 3) = true := by simp; omega
  have hj6 : (i : Int) < 6 := by omega
  have hj3 : (i : Int) < 3 := by omega
  clear hs
  subst hq
  clear ht
  subst hr
  clear h1 h2
  go_enter Try.func6, Try.ntmps6
  have hM := Mx.new w m
  have hT : Below w.heap.size w (w.alloc (.cells (mcells m) 25)) := (Below.refl _ w).alloc (Nat.le_refl _) _
  go_wp2_with fail
  refine (HS.out _).mono ?_
  rintro e w0 ⟨rfl, hB0⟩
  replace hM := hM.below hB0 hM.lt
  replace hT := hT.trans (hB0.mono hT.size)
  obtain ⟨q0, q1, q2, q3, q4, q5, q6, q7, q8⟩ := hM.cs
  go_wp2_with fail
  refine (HT.out _).mono ?_
  clear q0 q1 q2 q3 q4 q5 q6 q7 q8
  rintro e w1 ⟨rfl, hB1⟩
  replace hM := hM.below hB1 hM.lt
  replace hT := hT.trans (hB1.mono hT.size)
  obtain ⟨q0, q1, q2, q3, q4, q5, q6, q7, q8⟩ := hM.cs
  have b1 := HbB.out
  have b2 := HbT.out
  have b3 := HbM.out
  go_wp2_with fail
  refine (HB.out _).mono ?_
  clear q0 q1 q2 q3 q4 q5 q6 q7 q8
  rintro e w2 ⟨rfl, hB2⟩
  replace hM := hM.below hB2 hM.lt
  replace hT := hT.trans (hB2.mono hT.size)
  obtain ⟨q0, q1, q2, q3, q4, q5, q6, q7, q8⟩ := hM.cs
  go_wp2_with fail
  refine (HK.out _).mono ?_
  clear q0 q1 q2 q3 q4 q5 q6 q7 q8
  rintro e w3 ⟨rfl, hB3⟩
  replace hM := hM.below hB3 hM.lt
  replace hT := hT.trans (hB3.mono hT.size)
  obtain ⟨q0, q1, q2, q3, q4, q5, q6, q7, q8⟩ := hM.cs
  go_wp2_with fail
  refine (HX.out _).mono ?_
  clear q0 q1 q2 q3 q4 q5 q6 q7 q8
  rintro e w4 ⟨rfl, hB4⟩
  replace hM := hM.below hB4 hM.lt
  replace hT := hT.trans (hB4.mono hT.size)
  go_wp2_with fail
  refine (wakes_any _).mono ?_
  rintro e w5 ⟨rfl, hB5⟩
  replace hM := hM.below hB5 hM.lt
  replace hT := hT.trans (hB5.mono hT.size)
  go_wp2
  go_ret
  exact ⟨rfl, hT⟩

set_option maxHeartbeats 2000000 in
theorem sets_a2o (m : Mm) (i : Nat) (h1 : 0 ≤ i) (h2 : i < 3) (s : Int) (hs : m i = s) (hq : s = 2) (t : Int) (ht : m (6 + i) = t) (hr1 : t ≠ 1) (hr2 : t ≠ 2) (w : World) : Calls Try.prog 6 #[mv m, .int .i64 (i : Nat)] w fun e W' => e = .returned (.bool true) ∧ Below w.heap.size w W' := by
  have HS := hide (fun W => (show idx 2 (i : Nat) = some i from by rw [idx_two_nat, if_pos (by omega)]) |> fun h => state_some h m W)
  rw [hs] at HS
  have HT := hide (fun W => (show idx 1 (i : Nat) = some (6 + i) from by rw [idx_one_nat, if_pos (by omega)]) |> fun h => state_some h m W)
  rw [ht] at HT
  have HbB := hide (show (bits .and .u8 (bitsTo m 0 thereS 6 : Nat) ((2 : Int) ^ i % 256) != 0) = true from by rw [and_bits6 m thereS i (by omega), hs]; first | (simp [thereS, hq]; done) | (simp [thereS, hq]; omega))
  have HbT := hide (show (bits .and .u8 (bitsTo m 0 aliveS 6 : Nat) ((2 : Int) ^ i % 256) != 0) = false from by rw [and_bits6 m aliveS i (by omega), hs]; first | (simp [aliveS, hq]; done) | (simp [aliveS, hq]; omega))
  have HbM := hide (show (bits .and .u8 (bitsTo m 6 thereS 3 : Nat) ((2 : Int) ^ i % 256) != 0) = false from by rw [and_bits3 m thereS i (by omega), ht]; first | (simp [thereS, hr1, hr2]; done) | (simp [thereS, hr1, hr2]; omega))
  have HB := hide (fun W => backends_any m W)
  have HK := hide (fun W => takers_any m W)
  have HX := hide (fun W => muxes_any m W)
  obtain ⟨B, hB'⟩ : ∃ B, bitsTo m 0 thereS 6 = B := ⟨_, rfl⟩
  rw [hB'] at HbB HB
  clear hB'
  obtain ⟨T, hT'⟩ : ∃ T, bitsTo m 0 aliveS 6 = T := ⟨_, rfl⟩
  rw [hT'] at HbT HK
  clear hT'
  obtain ⟨M, hM'⟩ : ∃ M, bitsTo m 6 thereS 3 = M := ⟨_, rfl⟩
  rw [hM'] at HbM HX
  clear hM'
  have hi0 : (0 : Int) ≤ (i : Int) := by omega
  have hi7 : (i : Int) ≤ 7 := by omega
  have hi6 : decide (i < 6) = true := by simp; omega
  have hi3 : decide (i < 3) = true := by simp; omega
  have hj6 : (i : Int) < 6 := by omega
  have hj3 : (i : Int) < 3 := by omega
  clear hs
  subst hq
  clear ht
  have g1 : (t == 1) = false := by simp [hr1]
  have g2 : (t == 2) = false := by simp [hr2]
  clear hr1 hr2
  clear h1 h2
  go_enter Try.func6, Try.ntmps6
  have hM := Mx.new w m
  have hT : Below w.heap.size w (w.alloc (.cells (mcells m) 25)) := (Below.refl _ w).alloc (Nat.le_refl _) _
  go_wp2_with fail
  refine (HS.out _).mono ?_
  rintro e w0 ⟨rfl, hB0⟩
  replace hM := hM.below hB0 hM.lt
  replace hT := hT.trans (hB0.mono hT.size)
  obtain ⟨q0, q1, q2, q3, q4, q5, q6, q7, q8⟩ := hM.cs
  go_wp2_with fail
  refine (HT.out _).mono ?_
  clear q0 q1 q2 q3 q4 q5 q6 q7 q8
  rintro e w1 ⟨rfl, hB1⟩
  replace hM := hM.below hB1 hM.lt
  replace hT := hT.trans (hB1.mono hT.size)
  obtain ⟨q0, q1, q2, q3, q4, q5, q6, q7, q8⟩ := hM.cs
  have b1 := HbB.out
  have b2 := HbT.out
  have b3 := HbM.out
  go_wp2_with fail
  refine (HB.out _).mono ?_
  clear q0 q1 q2 q3 q4 q5 q6 q7 q8
  rintro e w2 ⟨rfl, hB2⟩
  replace hM := hM.below hB2 hM.lt
  replace hT := hT.trans (hB2.mono hT.size)
  obtain ⟨q0, q1, q2, q3, q4, q5, q6, q7, q8⟩ := hM.cs
  go_wp2_with fail
  refine (HK.out _).mono ?_
  clear q0 q1 q2 q3 q4 q5 q6 q7 q8
  rintro e w3 ⟨rfl, hB3⟩
  replace hM := hM.below hB3 hM.lt
  replace hT := hT.trans (hB3.mono hT.size)
  obtain ⟨q0, q1, q2, q3, q4, q5, q6, q7, q8⟩ := hM.cs
  go_wp2_with fail
  refine (HX.out _).mono ?_
  clear q0 q1 q2 q3 q4 q5 q6 q7 q8
  rintro e w4 ⟨rfl, hB4⟩
  replace hM := hM.below hB4 hM.lt
  replace hT := hT.trans (hB4.mono hT.size)
  go_wp2_with fail
  refine (wakes_any _).mono ?_
  rintro e w5 ⟨rfl, hB5⟩
  replace hM := hM.below hB5 hM.lt
  replace hT := hT.trans (hB5.mono hT.size)
  go_wp2
  go_ret
  exact ⟨rfl, hT⟩

set_option maxHeartbeats 2000000 in
theorem sets_ao1 (m : Mm) (i : Nat) (h1 : 0 ≤ i) (h2 : i < 3) (s : Int) (hs : m i = s) (hq1 : s ≠ 1) (hq2 : s ≠ 2) (t : Int) (ht : m (6 + i) = t) (hr : t = 1) (w : World) : Calls Try.prog 6 #[mv m, .int .i64 (i : Nat)] w fun e W' => e = .returned (.bool true) ∧ Below w.heap.size w W' := by
  have HS := hide (fun W => (show idx 2 (i : Nat) = some i from by rw [idx_two_nat, if_pos (by omega)]) |> fun h => state_some h m W)
  rw [hs] at HS
  have HT := hide (fun W => (show idx 1 (i : Nat) = some (6 + i) from by rw [idx_one_nat, if_pos (by omega)]) |> fun h => state_some h m W)
  rw [ht] at HT
  have HbB := hide (show (bits .and .u8 (bitsTo m 0 thereS 6 : Nat) ((2 : Int) ^ i % 256) != 0) = false from by rw [and_bits6 m thereS i (by omega), hs]; first | (simp [thereS, hq1, hq2]; done) | (simp [thereS, hq1, hq2]; omega))
  have HbT := hide (show (bits .and .u8 (bitsTo m 0 aliveS 6 : Nat) ((2 : Int) ^ i % 256) != 0) = false from by rw [and_bits6 m aliveS i (by omega), hs]; first | (simp [aliveS, hq1, hq2]; done) | (simp [aliveS, hq1, hq2]; omega))
  have HbM := hide (show (bits .and .u8 (bitsTo m 6 thereS 3 : Nat) ((2 : Int) ^ i % 256) != 0) = true from by rw [and_bits3 m thereS i (by omega), ht]; first | (simp [thereS, hr]; done) | (simp [thereS, hr]; omega))
  have HB := hide (fun W => backends_any m W)
  have HK := hide (fun W => takers_any m W)
  have HX := hide (fun W => muxes_any m W)
  obtain ⟨B, hB'⟩ : ∃ B, bitsTo m 0 thereS 6 = B := ⟨_, rfl⟩
  rw [hB'] at HbB HB
  clear hB'
  obtain ⟨T, hT'⟩ : ∃ T, bitsTo m 0 aliveS 6 = T := ⟨_, rfl⟩
  rw [hT'] at HbT HK
  clear hT'
  obtain ⟨M, hM'⟩ : ∃ M, bitsTo m 6 thereS 3 = M := ⟨_, rfl⟩
  rw [hM'] at HbM HX
  clear hM'
  have hi0 : (0 : Int) ≤ (i : Int) := by omega
  have hi7 : (i : Int) ≤ 7 := by omega
  have hi6 : decide (i < 6) = true := by simp; omega
  have hi3 : decide (i < 3) = true := by simp; omega
  have hj6 : (i : Int) < 6 := by omega
  have hj3 : (i : Int) < 3 := by omega
  clear hs
  have e1 : (s == 1) = false := by simp [hq1]
  have e2 : (s == 2) = false := by simp [hq2]
  clear hq1 hq2
  clear ht
  subst hr
  clear h1 h2
  go_enter Try.func6, Try.ntmps6
  have hM := Mx.new w m
  have hT : Below w.heap.size w (w.alloc (.cells (mcells m) 25)) := (Below.refl _ w).alloc (Nat.le_refl _) _
  go_wp2_with fail
  refine (HS.out _).mono ?_
  rintro e w0 ⟨rfl, hB0⟩
  replace hM := hM.below hB0 hM.lt
  replace hT := hT.trans (hB0.mono hT.size)
  obtain ⟨q0, q1, q2, q3, q4, q5, q6, q7, q8⟩ := hM.cs
  go_wp2_with fail
  refine (HT.out _).mono ?_
  clear q0 q1 q2 q3 q4 q5 q6 q7 q8
  rintro e w1 ⟨rfl, hB1⟩
  replace hM := hM.below hB1 hM.lt
  replace hT := hT.trans (hB1.mono hT.size)
  obtain ⟨q0, q1, q2, q3, q4, q5, q6, q7, q8⟩ := hM.cs
  have b1 := HbB.out
  have b2 := HbT.out
  have b3 := HbM.out
  go_wp2_with fail
  refine (HB.out _).mono ?_
  clear q0 q1 q2 q3 q4 q5 q6 q7 q8
  rintro e w2 ⟨rfl, hB2⟩
  replace hM := hM.below hB2 hM.lt
  replace hT := hT.trans (hB2.mono hT.size)
  obtain ⟨q0, q1, q2, q3, q4, q5, q6, q7, q8⟩ := hM.cs
  go_wp2_with fail
  refine (HK.out _).mono ?_
  clear q0 q1 q2 q3 q4 q5 q6 q7 q8
  rintro e w3 ⟨rfl, hB3⟩
  replace hM := hM.below hB3 hM.lt
  replace hT := hT.trans (hB3.mono hT.size)
  obtain ⟨q0, q1, q2, q3, q4, q5, q6, q7, q8⟩ := hM.cs
  go_wp2_with fail
  refine (HX.out _).mono ?_
  clear q0 q1 q2 q3 q4 q5 q6 q7 q8
  rintro e w4 ⟨rfl, hB4⟩
  replace hM := hM.below hB4 hM.lt
  replace hT := hT.trans (hB4.mono hT.size)
  go_wp2_with fail
  refine (wakes_any _).mono ?_
  rintro e w5 ⟨rfl, hB5⟩
  replace hM := hM.below hB5 hM.lt
  replace hT := hT.trans (hB5.mono hT.size)
  go_wp2
  go_ret
  exact ⟨rfl, hT⟩

set_option maxHeartbeats 2000000 in
theorem sets_ao2 (m : Mm) (i : Nat) (h1 : 0 ≤ i) (h2 : i < 3) (s : Int) (hs : m i = s) (hq1 : s ≠ 1) (hq2 : s ≠ 2) (t : Int) (ht : m (6 + i) = t) (hr : t = 2) (w : World) : Calls Try.prog 6 #[mv m, .int .i64 (i : Nat)] w fun e W' => e = .returned (.bool true) ∧ Below w.heap.size w W' := by
  have HS := hide (fun W => (show idx 2 (i : Nat) = some i from by rw [idx_two_nat, if_pos (by omega)]) |> fun h => state_some h m W)
  rw [hs] at HS
  have HT := hide (fun W => (show idx 1 (i : Nat) = some (6 + i) from by rw [idx_one_nat, if_pos (by omega)]) |> fun h => state_some h m W)
  rw [ht] at HT
  have HbB := hide (show (bits .and .u8 (bitsTo m 0 thereS 6 : Nat) ((2 : Int) ^ i % 256) != 0) = false from by rw [and_bits6 m thereS i (by omega), hs]; first | (simp [thereS, hq1, hq2]; done) | (simp [thereS, hq1, hq2]; omega))
  have HbT := hide (show (bits .and .u8 (bitsTo m 0 aliveS 6 : Nat) ((2 : Int) ^ i % 256) != 0) = false from by rw [and_bits6 m aliveS i (by omega), hs]; first | (simp [aliveS, hq1, hq2]; done) | (simp [aliveS, hq1, hq2]; omega))
  have HbM := hide (show (bits .and .u8 (bitsTo m 6 thereS 3 : Nat) ((2 : Int) ^ i % 256) != 0) = true from by rw [and_bits3 m thereS i (by omega), ht]; first | (simp [thereS, hr]; done) | (simp [thereS, hr]; omega))
  have HB := hide (fun W => backends_any m W)
  have HK := hide (fun W => takers_any m W)
  have HX := hide (fun W => muxes_any m W)
  obtain ⟨B, hB'⟩ : ∃ B, bitsTo m 0 thereS 6 = B := ⟨_, rfl⟩
  rw [hB'] at HbB HB
  clear hB'
  obtain ⟨T, hT'⟩ : ∃ T, bitsTo m 0 aliveS 6 = T := ⟨_, rfl⟩
  rw [hT'] at HbT HK
  clear hT'
  obtain ⟨M, hM'⟩ : ∃ M, bitsTo m 6 thereS 3 = M := ⟨_, rfl⟩
  rw [hM'] at HbM HX
  clear hM'
  have hi0 : (0 : Int) ≤ (i : Int) := by omega
  have hi7 : (i : Int) ≤ 7 := by omega
  have hi6 : decide (i < 6) = true := by simp; omega
  have hi3 : decide (i < 3) = true := by simp; omega
  have hj6 : (i : Int) < 6 := by omega
  have hj3 : (i : Int) < 3 := by omega
  clear hs
  have e1 : (s == 1) = false := by simp [hq1]
  have e2 : (s == 2) = false := by simp [hq2]
  clear hq1 hq2
  clear ht
  subst hr
  clear h1 h2
  go_enter Try.func6, Try.ntmps6
  have hM := Mx.new w m
  have hT : Below w.heap.size w (w.alloc (.cells (mcells m) 25)) := (Below.refl _ w).alloc (Nat.le_refl _) _
  go_wp2_with fail
  refine (HS.out _).mono ?_
  rintro e w0 ⟨rfl, hB0⟩
  replace hM := hM.below hB0 hM.lt
  replace hT := hT.trans (hB0.mono hT.size)
  obtain ⟨q0, q1, q2, q3, q4, q5, q6, q7, q8⟩ := hM.cs
  go_wp2_with fail
  refine (HT.out _).mono ?_
  clear q0 q1 q2 q3 q4 q5 q6 q7 q8
  rintro e w1 ⟨rfl, hB1⟩
  replace hM := hM.below hB1 hM.lt
  replace hT := hT.trans (hB1.mono hT.size)
  obtain ⟨q0, q1, q2, q3, q4, q5, q6, q7, q8⟩ := hM.cs
  have b1 := HbB.out
  have b2 := HbT.out
  have b3 := HbM.out
  go_wp2_with fail
  refine (HB.out _).mono ?_
  clear q0 q1 q2 q3 q4 q5 q6 q7 q8
  rintro e w2 ⟨rfl, hB2⟩
  replace hM := hM.below hB2 hM.lt
  replace hT := hT.trans (hB2.mono hT.size)
  obtain ⟨q0, q1, q2, q3, q4, q5, q6, q7, q8⟩ := hM.cs
  go_wp2_with fail
  refine (HK.out _).mono ?_
  clear q0 q1 q2 q3 q4 q5 q6 q7 q8
  rintro e w3 ⟨rfl, hB3⟩
  replace hM := hM.below hB3 hM.lt
  replace hT := hT.trans (hB3.mono hT.size)
  obtain ⟨q0, q1, q2, q3, q4, q5, q6, q7, q8⟩ := hM.cs
  go_wp2_with fail
  refine (HX.out _).mono ?_
  clear q0 q1 q2 q3 q4 q5 q6 q7 q8
  rintro e w4 ⟨rfl, hB4⟩
  replace hM := hM.below hB4 hM.lt
  replace hT := hT.trans (hB4.mono hT.size)
  go_wp2_with fail
  refine (wakes_any _).mono ?_
  rintro e w5 ⟨rfl, hB5⟩
  replace hM := hM.below hB5 hM.lt
  replace hT := hT.trans (hB5.mono hT.size)
  go_wp2
  go_ret
  exact ⟨rfl, hT⟩

set_option maxHeartbeats 2000000 in
theorem sets_aoo (m : Mm) (i : Nat) (h1 : 0 ≤ i) (h2 : i < 3) (s : Int) (hs : m i = s) (hq1 : s ≠ 1) (hq2 : s ≠ 2) (t : Int) (ht : m (6 + i) = t) (hr1 : t ≠ 1) (hr2 : t ≠ 2) (w : World) : Calls Try.prog 6 #[mv m, .int .i64 (i : Nat)] w fun e W' => e = .returned (.bool true) ∧ Below w.heap.size w W' := by
  have HS := hide (fun W => (show idx 2 (i : Nat) = some i from by rw [idx_two_nat, if_pos (by omega)]) |> fun h => state_some h m W)
  rw [hs] at HS
  have HT := hide (fun W => (show idx 1 (i : Nat) = some (6 + i) from by rw [idx_one_nat, if_pos (by omega)]) |> fun h => state_some h m W)
  rw [ht] at HT
  have HbB := hide (show (bits .and .u8 (bitsTo m 0 thereS 6 : Nat) ((2 : Int) ^ i % 256) != 0) = false from by rw [and_bits6 m thereS i (by omega), hs]; first | (simp [thereS, hq1, hq2]; done) | (simp [thereS, hq1, hq2]; omega))
  have HbT := hide (show (bits .and .u8 (bitsTo m 0 aliveS 6 : Nat) ((2 : Int) ^ i % 256) != 0) = false from by rw [and_bits6 m aliveS i (by omega), hs]; first | (simp [aliveS, hq1, hq2]; done) | (simp [aliveS, hq1, hq2]; omega))
  have HbM := hide (show (bits .and .u8 (bitsTo m 6 thereS 3 : Nat) ((2 : Int) ^ i % 256) != 0) = false from by rw [and_bits3 m thereS i (by omega), ht]; first | (simp [thereS, hr1, hr2]; done) | (simp [thereS, hr1, hr2]; omega))
  have HB := hide (fun W => backends_any m W)
  have HK := hide (fun W => takers_any m W)
  have HX := hide (fun W => muxes_any m W)
  obtain ⟨B, hB'⟩ : ∃ B, bitsTo m 0 thereS 6 = B := ⟨_, rfl⟩
  rw [hB'] at HbB HB
  clear hB'
  obtain ⟨T, hT'⟩ : ∃ T, bitsTo m 0 aliveS 6 = T := ⟨_, rfl⟩
  rw [hT'] at HbT HK
  clear hT'
  obtain ⟨M, hM'⟩ : ∃ M, bitsTo m 6 thereS 3 = M := ⟨_, rfl⟩
  rw [hM'] at HbM HX
  clear hM'
  have hi0 : (0 : Int) ≤ (i : Int) := by omega
  have hi7 : (i : Int) ≤ 7 := by omega
  have hi6 : decide (i < 6) = true := by simp; omega
  have hi3 : decide (i < 3) = true := by simp; omega
  have hj6 : (i : Int) < 6 := by omega
  have hj3 : (i : Int) < 3 := by omega
  clear hs
  have e1 : (s == 1) = false := by simp [hq1]
  have e2 : (s == 2) = false := by simp [hq2]
  clear hq1 hq2
  clear ht
  have g1 : (t == 1) = false := by simp [hr1]
  have g2 : (t == 2) = false := by simp [hr2]
  clear hr1 hr2
  clear h1 h2
  go_enter Try.func6, Try.ntmps6
  have hM := Mx.new w m
  have hT : Below w.heap.size w (w.alloc (.cells (mcells m) 25)) := (Below.refl _ w).alloc (Nat.le_refl _) _
  go_wp2_with fail
  refine (HS.out _).mono ?_
  rintro e w0 ⟨rfl, hB0⟩
  replace hM := hM.below hB0 hM.lt
  replace hT := hT.trans (hB0.mono hT.size)
  obtain ⟨q0, q1, q2, q3, q4, q5, q6, q7, q8⟩ := hM.cs
  go_wp2_with fail
  refine (HT.out _).mono ?_
  clear q0 q1 q2 q3 q4 q5 q6 q7 q8
  rintro e w1 ⟨rfl, hB1⟩
  replace hM := hM.below hB1 hM.lt
  replace hT := hT.trans (hB1.mono hT.size)
  obtain ⟨q0, q1, q2, q3, q4, q5, q6, q7, q8⟩ := hM.cs
  have b1 := HbB.out
  have b2 := HbT.out
  have b3 := HbM.out
  go_wp2_with fail
  refine (HB.out _).mono ?_
  clear q0 q1 q2 q3 q4 q5 q6 q7 q8
  rintro e w2 ⟨rfl, hB2⟩
  replace hM := hM.below hB2 hM.lt
  replace hT := hT.trans (hB2.mono hT.size)
  obtain ⟨q0, q1, q2, q3, q4, q5, q6, q7, q8⟩ := hM.cs
  go_wp2_with fail
  refine (HK.out _).mono ?_
  clear q0 q1 q2 q3 q4 q5 q6 q7 q8
  rintro e w3 ⟨rfl, hB3⟩
  replace hM := hM.below hB3 hM.lt
  replace hT := hT.trans (hB3.mono hT.size)
  obtain ⟨q0, q1, q2, q3, q4, q5, q6, q7, q8⟩ := hM.cs
  go_wp2_with fail
  refine (HX.out _).mono ?_
  clear q0 q1 q2 q3 q4 q5 q6 q7 q8
  rintro e w4 ⟨rfl, hB4⟩
  replace hM := hM.below hB4 hM.lt
  replace hT := hT.trans (hB4.mono hT.size)
  go_wp2_with fail
  refine (wakes_any _).mono ?_
  rintro e w5 ⟨rfl, hB5⟩
  replace hM := hM.below hB5 hM.lt
  replace hT := hT.trans (hB5.mono hT.size)
  go_wp2
  go_ret
  exact ⟨rfl, hT⟩

set_option maxHeartbeats 2000000 in
theorem sets_b1 (m : Mm) (i : Nat) (h1 : 3 ≤ i) (h2 : i < 6) (s : Int) (hs : m i = s) (hq : s = 1) (w : World) : Calls Try.prog 6 #[mv m, .int .i64 (i : Nat)] w fun e W' => e = .returned (.bool true) ∧ Below w.heap.size w W' := by
  have HS := hide (fun W => (show idx 2 (i : Nat) = some i from by rw [idx_two_nat, if_pos (by omega)]) |> fun h => state_some h m W)
  rw [hs] at HS
  have HT := hide (fun W => (show idx 1 (i : Nat) = none from by rw [idx_one_nat, if_neg (by omega)]) |> fun h => state_none h m W)
  have HbB := hide (show (bits .and .u8 (bitsTo m 0 thereS 6 : Nat) ((2 : Int) ^ i % 256) != 0) = true from by rw [and_bits6 m thereS i (by omega), hs]; first | (simp [thereS, hq]; done) | (simp [thereS, hq]; omega))
  have HbT := hide (show (bits .and .u8 (bitsTo m 0 aliveS 6 : Nat) ((2 : Int) ^ i % 256) != 0) = true from by rw [and_bits6 m aliveS i (by omega), hs]; first | (simp [aliveS, hq]; done) | (simp [aliveS, hq]; omega))
  have HbM := hide (show (bits .and .u8 (bitsTo m 6 thereS 3 : Nat) ((2 : Int) ^ i % 256) != 0) = false from by rw [and_bits3 m thereS i (by omega)]; first | (simp; done) | (simp; omega))
  have HB := hide (fun W => backends_any m W)
  have HK := hide (fun W => takers_any m W)
  have HX := hide (fun W => muxes_any m W)
  obtain ⟨B, hB'⟩ : ∃ B, bitsTo m 0 thereS 6 = B := ⟨_, rfl⟩
  rw [hB'] at HbB HB
  clear hB'
  obtain ⟨T, hT'⟩ : ∃ T, bitsTo m 0 aliveS 6 = T := ⟨_, rfl⟩
  rw [hT'] at HbT HK
  clear hT'
  obtain ⟨M, hM'⟩ : ∃ M, bitsTo m 6 thereS 3 = M := ⟨_, rfl⟩
  rw [hM'] at HbM HX
  clear hM'
  have hi0 : (0 : Int) ≤ (i : Int) := by omega
  have hi7 : (i : Int) ≤ 7 := by omega
  have hi6 : decide (i < 6) = true := by simp; omega
  have hi3 : decide (i < 3) = false := by simp; omega
  have hj6 : (i : Int) < 6 := by omega
  have hj3 : ¬ (i : Int) < 3 := by omega
  clear hs
  subst hq
  clear h1 h2
  go_enter Try.func6, Try.ntmps6
  have hM := Mx.new w m
  have hT : Below w.heap.size w (w.alloc (.cells (mcells m) 25)) := (Below.refl _ w).alloc (Nat.le_refl _) _
  go_wp2_with fail
  refine (HS.out _).mono ?_
  rintro e w0 ⟨rfl, hB0⟩
  replace hM := hM.below hB0 hM.lt
  replace hT := hT.trans (hB0.mono hT.size)
  obtain ⟨q0, q1, q2, q3, q4, q5, q6, q7, q8⟩ := hM.cs
  go_wp2_with fail
  refine (HT.out _).mono ?_
  clear q0 q1 q2 q3 q4 q5 q6 q7 q8
  rintro e w1 ⟨rfl, hB1⟩
  replace hM := hM.below hB1 hM.lt
  replace hT := hT.trans (hB1.mono hT.size)
  obtain ⟨q0, q1, q2, q3, q4, q5, q6, q7, q8⟩ := hM.cs
  have b1 := HbB.out
  have b2 := HbT.out
  have b3 := HbM.out
  go_wp2_with fail
  refine (HB.out _).mono ?_
  clear q0 q1 q2 q3 q4 q5 q6 q7 q8
  rintro e w2 ⟨rfl, hB2⟩
  replace hM := hM.below hB2 hM.lt
  replace hT := hT.trans (hB2.mono hT.size)
  obtain ⟨q0, q1, q2, q3, q4, q5, q6, q7, q8⟩ := hM.cs
  go_wp2_with fail
  refine (HK.out _).mono ?_
  clear q0 q1 q2 q3 q4 q5 q6 q7 q8
  rintro e w3 ⟨rfl, hB3⟩
  replace hM := hM.below hB3 hM.lt
  replace hT := hT.trans (hB3.mono hT.size)
  obtain ⟨q0, q1, q2, q3, q4, q5, q6, q7, q8⟩ := hM.cs
  go_wp2_with fail
  refine (HX.out _).mono ?_
  clear q0 q1 q2 q3 q4 q5 q6 q7 q8
  rintro e w4 ⟨rfl, hB4⟩
  replace hM := hM.below hB4 hM.lt
  replace hT := hT.trans (hB4.mono hT.size)
  go_wp2_with fail
  refine (wakes_any _).mono ?_
  rintro e w5 ⟨rfl, hB5⟩
  replace hM := hM.below hB5 hM.lt
  replace hT := hT.trans (hB5.mono hT.size)
  go_wp2
  go_ret
  exact ⟨rfl, hT⟩

set_option maxHeartbeats 2000000 in
theorem sets_b2 (m : Mm) (i : Nat) (h1 : 3 ≤ i) (h2 : i < 6) (s : Int) (hs : m i = s) (hq : s = 2) (w : World) : Calls Try.prog 6 #[mv m, .int .i64 (i : Nat)] w fun e W' => e = .returned (.bool true) ∧ Below w.heap.size w W' := by
  have HS := hide (fun W => (show idx 2 (i : Nat) = some i from by rw [idx_two_nat, if_pos (by omega)]) |> fun h => state_some h m W)
  rw [hs] at HS
  have HT := hide (fun W => (show idx 1 (i : Nat) = none from by rw [idx_one_nat, if_neg (by omega)]) |> fun h => state_none h m W)
  have HbB := hide (show (bits .and .u8 (bitsTo m 0 thereS 6 : Nat) ((2 : Int) ^ i % 256) != 0) = true from by rw [and_bits6 m thereS i (by omega), hs]; first | (simp [thereS, hq]; done) | (simp [thereS, hq]; omega))
  have HbT := hide (show (bits .and .u8 (bitsTo m 0 aliveS 6 : Nat) ((2 : Int) ^ i % 256) != 0) = false from by rw [and_bits6 m aliveS i (by omega), hs]; first | (simp [aliveS, hq]; done) | (simp [aliveS, hq]; omega))
  have HbM := hide (show (bits .and .u8 (bitsTo m 6 thereS 3 : Nat) ((2 : Int) ^ i % 256) != 0) = false from by rw [and_bits3 m thereS i (by omega)]; first | (simp; done) | (simp; omega))
  have HB := hide (fun W => backends_any m W)
  have HK := hide (fun W => takers_any m W)
  have HX := hide (fun W => muxes_any m W)
  obtain ⟨B, hB'⟩ : ∃ B, bitsTo m 0 thereS 6 = B := ⟨_, rfl⟩
  rw [hB'] at HbB HB
  clear hB'
  obtain ⟨T, hT'⟩ : ∃ T, bitsTo m 0 aliveS 6 = T := ⟨_, rfl⟩
  rw [hT'] at HbT HK
  clear hT'
  obtain ⟨M, hM'⟩ : ∃ M, bitsTo m 6 thereS 3 = M := ⟨_, rfl⟩
  rw [hM'] at HbM HX
  clear hM'
  have hi0 : (0 : Int) ≤ (i : Int) := by omega
  have hi7 : (i : Int) ≤ 7 := by omega
  have hi6 : decide (i < 6) = true := by simp; omega
  have hi3 : decide (i < 3) = false := by simp; omega
  have hj6 : (i : Int) < 6 := by omega
  have hj3 : ¬ (i : Int) < 3 := by omega
  clear hs
  subst hq
  clear h1 h2
  go_enter Try.func6, Try.ntmps6
  have hM := Mx.new w m
  have hT : Below w.heap.size w (w.alloc (.cells (mcells m) 25)) := (Below.refl _ w).alloc (Nat.le_refl _) _
  go_wp2_with fail
  refine (HS.out _).mono ?_
  rintro e w0 ⟨rfl, hB0⟩
  replace hM := hM.below hB0 hM.lt
  replace hT := hT.trans (hB0.mono hT.size)
  obtain ⟨q0, q1, q2, q3, q4, q5, q6, q7, q8⟩ := hM.cs
  go_wp2_with fail
  refine (HT.out _).mono ?_
  clear q0 q1 q2 q3 q4 q5 q6 q7 q8
  rintro e w1 ⟨rfl, hB1⟩
  replace hM := hM.below hB1 hM.lt
  replace hT := hT.trans (hB1.mono hT.size)
  obtain ⟨q0, q1, q2, q3, q4, q5, q6, q7, q8⟩ := hM.cs
  have b1 := HbB.out
  have b2 := HbT.out
  have b3 := HbM.out
  go_wp2_with fail
  refine (HB.out _).mono ?_
  clear q0 q1 q2 q3 q4 q5 q6 q7 q8
  rintro e w2 ⟨rfl, hB2⟩
  replace hM := hM.below hB2 hM.lt
  replace hT := hT.trans (hB2.mono hT.size)
  obtain ⟨q0, q1, q2, q3, q4, q5, q6, q7, q8⟩ := hM.cs
  go_wp2_with fail
  refine (HK.out _).mono ?_
  clear q0 q1 q2 q3 q4 q5 q6 q7 q8
  rintro e w3 ⟨rfl, hB3⟩
  replace hM := hM.below hB3 hM.lt
  replace hT := hT.trans (hB3.mono hT.size)
  obtain ⟨q0, q1, q2, q3, q4, q5, q6, q7, q8⟩ := hM.cs
  go_wp2_with fail
  refine (HX.out _).mono ?_
  clear q0 q1 q2 q3 q4 q5 q6 q7 q8
  rintro e w4 ⟨rfl, hB4⟩
  replace hM := hM.below hB4 hM.lt
  replace hT := hT.trans (hB4.mono hT.size)
  go_wp2_with fail
  refine (wakes_any _).mono ?_
  rintro e w5 ⟨rfl, hB5⟩
  replace hM := hM.below hB5 hM.lt
  replace hT := hT.trans (hB5.mono hT.size)
  go_wp2
  go_ret
  exact ⟨rfl, hT⟩

set_option maxHeartbeats 2000000 in
theorem sets_bo (m : Mm) (i : Nat) (h1 : 3 ≤ i) (h2 : i < 6) (s : Int) (hs : m i = s) (hq1 : s ≠ 1) (hq2 : s ≠ 2) (w : World) : Calls Try.prog 6 #[mv m, .int .i64 (i : Nat)] w fun e W' => e = .returned (.bool true) ∧ Below w.heap.size w W' := by
  have HS := hide (fun W => (show idx 2 (i : Nat) = some i from by rw [idx_two_nat, if_pos (by omega)]) |> fun h => state_some h m W)
  rw [hs] at HS
  have HT := hide (fun W => (show idx 1 (i : Nat) = none from by rw [idx_one_nat, if_neg (by omega)]) |> fun h => state_none h m W)
  have HbB := hide (show (bits .and .u8 (bitsTo m 0 thereS 6 : Nat) ((2 : Int) ^ i % 256) != 0) = false from by rw [and_bits6 m thereS i (by omega), hs]; first | (simp [thereS, hq1, hq2]; done) | (simp [thereS, hq1, hq2]; omega))
  have HbT := hide (show (bits .and .u8 (bitsTo m 0 aliveS 6 : Nat) ((2 : Int) ^ i % 256) != 0) = false from by rw [and_bits6 m aliveS i (by omega), hs]; first | (simp [aliveS, hq1, hq2]; done) | (simp [aliveS, hq1, hq2]; omega))
  have HbM := hide (show (bits .and .u8 (bitsTo m 6 thereS 3 : Nat) ((2 : Int) ^ i % 256) != 0) = false from by rw [and_bits3 m thereS i (by omega)]; first | (simp; done) | (simp; omega))
  have HB := hide (fun W => backends_any m W)
  have HK := hide (fun W => takers_any m W)
  have HX := hide (fun W => muxes_any m W)
  obtain ⟨B, hB'⟩ : ∃ B, bitsTo m 0 thereS 6 = B := ⟨_, rfl⟩
  rw [hB'] at HbB HB
  clear hB'
  obtain ⟨T, hT'⟩ : ∃ T, bitsTo m 0 aliveS 6 = T := ⟨_, rfl⟩
  rw [hT'] at HbT HK
  clear hT'
  obtain ⟨M, hM'⟩ : ∃ M, bitsTo m 6 thereS 3 = M := ⟨_, rfl⟩
  rw [hM'] at HbM HX
  clear hM'
  have hi0 : (0 : Int) ≤ (i : Int) := by omega
  have hi7 : (i : Int) ≤ 7 := by omega
  have hi6 : decide (i < 6) = true := by simp; omega
  have hi3 : decide (i < 3) = false := by simp; omega
  have hj6 : (i : Int) < 6 := by omega
  have hj3 : ¬ (i : Int) < 3 := by omega
  clear hs
  have e1 : (s == 1) = false := by simp [hq1]
  have e2 : (s == 2) = false := by simp [hq2]
  clear hq1 hq2
  clear h1 h2
  go_enter Try.func6, Try.ntmps6
  have hM := Mx.new w m
  have hT : Below w.heap.size w (w.alloc (.cells (mcells m) 25)) := (Below.refl _ w).alloc (Nat.le_refl _) _
  go_wp2_with fail
  refine (HS.out _).mono ?_
  rintro e w0 ⟨rfl, hB0⟩
  replace hM := hM.below hB0 hM.lt
  replace hT := hT.trans (hB0.mono hT.size)
  obtain ⟨q0, q1, q2, q3, q4, q5, q6, q7, q8⟩ := hM.cs
  go_wp2_with fail
  refine (HT.out _).mono ?_
  clear q0 q1 q2 q3 q4 q5 q6 q7 q8
  rintro e w1 ⟨rfl, hB1⟩
  replace hM := hM.below hB1 hM.lt
  replace hT := hT.trans (hB1.mono hT.size)
  obtain ⟨q0, q1, q2, q3, q4, q5, q6, q7, q8⟩ := hM.cs
  have b1 := HbB.out
  have b2 := HbT.out
  have b3 := HbM.out
  go_wp2_with fail
  refine (HB.out _).mono ?_
  clear q0 q1 q2 q3 q4 q5 q6 q7 q8
  rintro e w2 ⟨rfl, hB2⟩
  replace hM := hM.below hB2 hM.lt
  replace hT := hT.trans (hB2.mono hT.size)
  obtain ⟨q0, q1, q2, q3, q4, q5, q6, q7, q8⟩ := hM.cs
  go_wp2_with fail
  refine (HK.out _).mono ?_
  clear q0 q1 q2 q3 q4 q5 q6 q7 q8
  rintro e w3 ⟨rfl, hB3⟩
  replace hM := hM.below hB3 hM.lt
  replace hT := hT.trans (hB3.mono hT.size)
  obtain ⟨q0, q1, q2, q3, q4, q5, q6, q7, q8⟩ := hM.cs
  go_wp2_with fail
  refine (HX.out _).mono ?_
  clear q0 q1 q2 q3 q4 q5 q6 q7 q8
  rintro e w4 ⟨rfl, hB4⟩
  replace hM := hM.below hB4 hM.lt
  replace hT := hT.trans (hB4.mono hT.size)
  go_wp2_with fail
  refine (wakes_any _).mono ?_
  rintro e w5 ⟨rfl, hB5⟩
  replace hM := hM.below hB5 hM.lt
  replace hT := hT.trans (hB5.mono hT.size)
  go_wp2
  go_ret
  exact ⟨rfl, hT⟩

set_option maxHeartbeats 2000000 in
theorem sets_c (m : Mm) (i : Nat) (h1 : 6 ≤ i) (h2 : i < 8) (w : World) : Calls Try.prog 6 #[mv m, .int .i64 (i : Nat)] w fun e W' => e = .returned (.bool true) ∧ Below w.heap.size w W' := by
  have HS := hide (fun W => (show idx 2 (i : Nat) = none from by rw [idx_two_nat, if_neg (by omega)]) |> fun h => state_none h m W)
  have HT := hide (fun W => (show idx 1 (i : Nat) = none from by rw [idx_one_nat, if_neg (by omega)]) |> fun h => state_none h m W)
  have HbB := hide (show (bits .and .u8 (bitsTo m 0 thereS 6 : Nat) ((2 : Int) ^ i % 256) != 0) = false from by rw [and_bits6 m thereS i (by omega)]; first | (simp; done) | (simp; omega))
  have HbT := hide (show (bits .and .u8 (bitsTo m 0 aliveS 6 : Nat) ((2 : Int) ^ i % 256) != 0) = false from by rw [and_bits6 m aliveS i (by omega)]; first | (simp; done) | (simp; omega))
  have HbM := hide (show (bits .and .u8 (bitsTo m 6 thereS 3 : Nat) ((2 : Int) ^ i % 256) != 0) = false from by rw [and_bits3 m thereS i (by omega)]; first | (simp; done) | (simp; omega))
  have HB := hide (fun W => backends_any m W)
  have HK := hide (fun W => takers_any m W)
  have HX := hide (fun W => muxes_any m W)
  obtain ⟨B, hB'⟩ : ∃ B, bitsTo m 0 thereS 6 = B := ⟨_, rfl⟩
  rw [hB'] at HbB HB
  clear hB'
  obtain ⟨T, hT'⟩ : ∃ T, bitsTo m 0 aliveS 6 = T := ⟨_, rfl⟩
  rw [hT'] at HbT HK
  clear hT'
  obtain ⟨M, hM'⟩ : ∃ M, bitsTo m 6 thereS 3 = M := ⟨_, rfl⟩
  rw [hM'] at HbM HX
  clear hM'
  have hi0 : (0 : Int) ≤ (i : Int) := by omega
  have hi7 : (i : Int) ≤ 7 := by omega
  have hi6 : decide (i < 6) = false := by simp; omega
  have hi3 : decide (i < 3) = false := by simp; omega
  have hj6 : ¬ (i : Int) < 6 := by omega
  have hj3 : ¬ (i : Int) < 3 := by omega
  clear h1 h2
  go_enter Try.func6, Try.ntmps6
  have hM := Mx.new w m
  have hT : Below w.heap.size w (w.alloc (.cells (mcells m) 25)) := (Below.refl _ w).alloc (Nat.le_refl _) _
  go_wp2_with fail
  refine (HS.out _).mono ?_
  rintro e w0 ⟨rfl, hB0⟩
  replace hM := hM.below hB0 hM.lt
  replace hT := hT.trans (hB0.mono hT.size)
  obtain ⟨q0, q1, q2, q3, q4, q5, q6, q7, q8⟩ := hM.cs
  go_wp2_with fail
  refine (HT.out _).mono ?_
  clear q0 q1 q2 q3 q4 q5 q6 q7 q8
  rintro e w1 ⟨rfl, hB1⟩
  replace hM := hM.below hB1 hM.lt
  replace hT := hT.trans (hB1.mono hT.size)
  obtain ⟨q0, q1, q2, q3, q4, q5, q6, q7, q8⟩ := hM.cs
  have b1 := HbB.out
  have b2 := HbT.out
  have b3 := HbM.out
  go_wp2_with fail
  refine (HB.out _).mono ?_
  clear q0 q1 q2 q3 q4 q5 q6 q7 q8
  rintro e w2 ⟨rfl, hB2⟩
  replace hM := hM.below hB2 hM.lt
  replace hT := hT.trans (hB2.mono hT.size)
  obtain ⟨q0, q1, q2, q3, q4, q5, q6, q7, q8⟩ := hM.cs
  go_wp2_with fail
  refine (HK.out _).mono ?_
  clear q0 q1 q2 q3 q4 q5 q6 q7 q8
  rintro e w3 ⟨rfl, hB3⟩
  replace hM := hM.below hB3 hM.lt
  replace hT := hT.trans (hB3.mono hT.size)
  obtain ⟨q0, q1, q2, q3, q4, q5, q6, q7, q8⟩ := hM.cs
  go_wp2_with fail
  refine (HX.out _).mono ?_
  clear q0 q1 q2 q3 q4 q5 q6 q7 q8
  rintro e w4 ⟨rfl, hB4⟩
  replace hM := hM.below hB4 hM.lt
  replace hT := hT.trans (hB4.mono hT.size)
  go_wp2_with fail
  refine (wakes_any _).mono ?_
  rintro e w5 ⟨rfl, hB5⟩
  replace hM := hM.below hB5 hM.lt
  replace hT := hT.trans (hB5.mono hT.size)
  go_wp2
  go_ret
  exact ⟨rfl, hT⟩

theorem memberSets_any (m : Mm) (i : Int) (w : World) : Calls Try.prog 6 #[mv m, .int .i64 i] w fun e W' => e = .returned (.bool true) ∧ Below w.heap.size w W' := by
  by_cases hlo : i < 0
  · go_enter Try.func6, Try.ntmps6
    go_wp2_with (go_at_call 25; refine (wakes_any _).mono ?_; rintro e w1 ⟨rfl, hB1⟩)
    go_ret
    exact ⟨rfl, ((Below.refl _ w).alloc (Nat.le_refl _) _).trans (hB1.mono (by simp))⟩
  by_cases hhi : 7 < i
  · go_enter Try.func6, Try.ntmps6
    go_wp2_with (go_at_call 25; refine (wakes_any _).mono ?_; rintro e w1 ⟨rfl, hB1⟩)
    go_ret
    exact ⟨rfl, ((Below.refl _ w).alloc (Nat.le_refl _) _).trans (hB1.mono (by simp))⟩
  obtain ⟨i, rfl⟩ := Int.eq_ofNat_of_zero_le (Int.not_lt.1 hlo)
  have tri : ∀ s : Int, s = 1 ∨ s = 2 ∨ (s ≠ 1 ∧ s ≠ 2) := fun s => by omega
  rcases (show i < 3 ∨ (3 ≤ i ∧ i < 6) ∨ (6 ≤ i ∧ i < 8) by omega) with h | ⟨h1, h2⟩ | ⟨h1, h2⟩
  · rcases tri (m i) with hs | hs | ⟨hs1, hs2⟩ <;> rcases tri (m (6 + i)) with ht | ht | ⟨ht1, ht2⟩
    · exact sets_a11 m i (Nat.zero_le _) h _ rfl hs _ rfl ht w
    · exact sets_a12 m i (Nat.zero_le _) h _ rfl hs _ rfl ht w
    · exact sets_a1o m i (Nat.zero_le _) h _ rfl hs _ rfl ht1 ht2 w
    · exact sets_a21 m i (Nat.zero_le _) h _ rfl hs _ rfl ht w
    · exact sets_a22 m i (Nat.zero_le _) h _ rfl hs _ rfl ht w
    · exact sets_a2o m i (Nat.zero_le _) h _ rfl hs _ rfl ht1 ht2 w
    · exact sets_ao1 m i (Nat.zero_le _) h _ rfl hs1 hs2 _ rfl ht w
    · exact sets_ao2 m i (Nat.zero_le _) h _ rfl hs1 hs2 _ rfl ht w
    · exact sets_aoo m i (Nat.zero_le _) h _ rfl hs1 hs2 _ rfl ht1 ht2 w
  · rcases tri (m i) with hs | hs | ⟨hs1, hs2⟩
    · exact sets_b1 m i h1 h2 _ rfl hs w
    · exact sets_b2 m i h1 h2 _ rfl hs w
    · exact sets_bo m i h1 h2 _ rfl hs1 hs2 w
  · exact sets_c m i h1 h2 w
end Go.Proofs.Ytigpdkbfailadaa
