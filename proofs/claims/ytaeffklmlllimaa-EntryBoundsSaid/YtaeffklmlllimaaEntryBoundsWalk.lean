/-
  The walk of the statement EntryBounds.
-/
import Derived.Test.YtaeffklmlllimaaRows
import Derived.Test.YtaeffklmlllimaaAppend
import Derived.Test.YtaeffklmlllimaaTail
import Derived.Shelf.Abstract
import Derived.Shelf.RegionOpen
import Derived.WalkKit
import Derived.OwnWalkIn
import Derived.TacticsInMore
import Derived.LoopNIn
import Derived.LoopIn
import Derived.WalkMore
import Derived.ScopeJumps
import Derived.Lib.Hide
import Derived.WalkSpells
import Derived.WalkLawsBesides
import Derived.Deep.QuietTactic
import Derived.BigQuiet
import Derived.Laws.Rows
import Derived.Test.YtaeffklmlllimaaWakes
namespace Go.Proofs.Ytaeffklmlllimaa
open Go Go.RowKit Go.Shelf
set_option linter.unusedSimpArgs false
set_option linter.unusedVariables false
attribute [local go_sem] Oper.semAt_some

set_option maxHeartbeats 2000000 in
theorem entryBounds_any (w : World) (a : Ent) (n : Int) (hn : (Lit.int .i64 n).wf = true) : Calls Try.prog 6 #[ev a, .int .i64 n] w fun e W' => e = .returned (.bool true) ∧ Below w.heap.size w W' := by
  go_enter Try.func6, Try.ntmps6
  by_cases hok : rightB a = true ∧ 1 ≤ n ∧ n ≤ 1000
  · obtain ⟨hr, h1, h2⟩ := hok
    go_wp2_with (first | (go_at_call 8; refine (right_val a _ hr _).mono ?_; rintro e w2 ⟨rfl, hB3⟩) | (go_at_call 7; refine (wakes_any _).mono ?_; rintro e w3 ⟨rfl, hB4⟩))
    have m0 : rightB ⟨5 + n, a.prev, a.gen, a.tick⟩ = false := by unfold rightB; simp only [decide_eq_false_iff_not]; intro h; obtain ⟨_, _, _, _, g1, g2, g3, g4, g5⟩ := h; split at g5 <;> omega
    have m1 : rightB ⟨-1 - n, a.prev, a.gen, a.tick⟩ = false := by unfold rightB; simp only [decide_eq_false_iff_not]; intro h; obtain ⟨_, _, _, _, g1, g2, g3, g4, g5⟩ := h; split at g5 <;> omega
    have m2 : rightB ⟨a.cur, -1 - n, a.gen, a.tick⟩ = false := by unfold rightB; simp only [decide_eq_false_iff_not]; intro h; obtain ⟨_, _, _, _, g1, g2, g3, g4, g5⟩ := h; split at g5 <;> omega
    have m3 : rightB ⟨a.cur, a.prev, -n, a.tick⟩ = false := by unfold rightB; simp only [decide_eq_false_iff_not]; intro h; obtain ⟨g1, g2, g3, g4, _⟩ := h; omega
    have m4 : rightB ⟨a.cur, a.prev, 2147483647 + n, a.tick⟩ = false := by unfold rightB; simp only [decide_eq_false_iff_not]; intro h; obtain ⟨g1, g2, g3, g4, _⟩ := h; omega
    have m5 : rightB ⟨a.cur, a.prev, a.gen, 1099511627776 + n⟩ = false := by unfold rightB; simp only [decide_eq_false_iff_not]; intro h; obtain ⟨g1, g2, g3, g4, _⟩ := h; omega
    have m6 : rightB ⟨n % 6, n % 6, a.gen, a.tick⟩ = false := by unfold rightB; simp only [decide_eq_false_iff_not]; intro h; obtain ⟨_, _, _, _, g1, g2, g3, g4, g5⟩ := h; split at g5 <;> omega
    have hx2 : Bx w2 w.heap.size a := (Bx.new w _ _ _ _).below hB3 (by simp)
    have hB5 : Below w.heap.size w w2 := ((Below.refl w.heap.size w).alloc (Nat.le_refl _) _).trans (hB3.mono (by simp))
    go_loopw [5] (fun i wr => ∃ k : Nat, k ≤ 7 ∧ i = .int .i64 k ∧ Bx wr w.heap.size a ∧ Below w.heap.size w wr) (fun i _ => 7 - (intOf i).toNat)
    case atStart => exact ⟨0, by omega, rfl, hx2, hB5⟩
    case round =>
      obtain ⟨k, hk, rfl, hx, hB⟩ := hrel
      have c0 := hx.c0
      have c1 := hx.c1
      have c2 := hx.c2
      have c3 := hx.c3
      have hlt := hx.lt
      rcases (show k = 0 ∨ k = 1 ∨ k = 2 ∨ k = 3 ∨ k = 4 ∨ k = 5 ∨ k = 6 ∨ k = 7 by omega) with rfl | rfl | rfl | rfl | rfl | rfl | rfl | rfl
      · go_wp2_with (go_at_call 8; refine (right_val ⟨5 + n, a.prev, a.gen, a.tick⟩ _ m0 _).mono ?_; rintro e w3 ⟨rfl, hB4⟩)
        refine ⟨⟨1, by omega, by go_num, hx.below ?_ hx.lt, hB.trans ?_⟩, by simp [intOf]⟩
        · exact ((Below.refl _ wr).alloc (Nat.le_refl _) _).trans (hB4.mono (by simp))
        · exact (((Below.refl _ wr).alloc (Nat.le_refl _) _).trans (hB4.mono (by simp))).mono hB.size
      · go_wp2_with (go_at_call 8; refine (right_val ⟨-1 - n, a.prev, a.gen, a.tick⟩ _ m1 _).mono ?_; rintro e w3 ⟨rfl, hB4⟩)
        refine ⟨⟨2, by omega, by go_num, hx.below ?_ hx.lt, hB.trans ?_⟩, by simp [intOf]⟩
        · exact ((Below.refl _ wr).alloc (Nat.le_refl _) _).trans (hB4.mono (by simp))
        · exact (((Below.refl _ wr).alloc (Nat.le_refl _) _).trans (hB4.mono (by simp))).mono hB.size
      · go_wp2_with (go_at_call 8; refine (right_val ⟨a.cur, -1 - n, a.gen, a.tick⟩ _ m2 _).mono ?_; rintro e w3 ⟨rfl, hB4⟩)
        refine ⟨⟨3, by omega, by go_num, hx.below ?_ hx.lt, hB.trans ?_⟩, by simp [intOf]⟩
        · exact ((Below.refl _ wr).alloc (Nat.le_refl _) _).trans (hB4.mono (by simp))
        · exact (((Below.refl _ wr).alloc (Nat.le_refl _) _).trans (hB4.mono (by simp))).mono hB.size
      · go_wp2_with (go_at_call 8; refine (right_val ⟨a.cur, a.prev, -n, a.tick⟩ _ m3 _).mono ?_; rintro e w3 ⟨rfl, hB4⟩)
        refine ⟨⟨4, by omega, by go_num, hx.below ?_ hx.lt, hB.trans ?_⟩, by simp [intOf]⟩
        · exact ((Below.refl _ wr).alloc (Nat.le_refl _) _).trans (hB4.mono (by simp))
        · exact (((Below.refl _ wr).alloc (Nat.le_refl _) _).trans (hB4.mono (by simp))).mono hB.size
      · go_wp2_with (go_at_call 8; refine (right_val ⟨a.cur, a.prev, 2147483647 + n, a.tick⟩ _ m4 _).mono ?_; rintro e w3 ⟨rfl, hB4⟩)
        refine ⟨⟨5, by omega, by go_num, hx.below ?_ hx.lt, hB.trans ?_⟩, by simp [intOf]⟩
        · exact ((Below.refl _ wr).alloc (Nat.le_refl _) _).trans (hB4.mono (by simp))
        · exact (((Below.refl _ wr).alloc (Nat.le_refl _) _).trans (hB4.mono (by simp))).mono hB.size
      · go_wp2_with (go_at_call 8; refine (right_val ⟨a.cur, a.prev, a.gen, 1099511627776 + n⟩ _ m5 _).mono ?_; rintro e w3 ⟨rfl, hB4⟩)
        refine ⟨⟨6, by omega, by go_num, hx.below ?_ hx.lt, hB.trans ?_⟩, by simp [intOf]⟩
        · exact ((Below.refl _ wr).alloc (Nat.le_refl _) _).trans (hB4.mono (by simp))
        · exact (((Below.refl _ wr).alloc (Nat.le_refl _) _).trans (hB4.mono (by simp))).mono hB.size
      · go_wp2_with (go_at_call 8; refine (right_val ⟨n % 6, n % 6, a.gen, a.tick⟩ _ m6 _).mono ?_; rintro e w3 ⟨rfl, hB4⟩)
        refine ⟨⟨7, by omega, by go_num, hx.below ?_ hx.lt, hB.trans ?_⟩, by simp [intOf]⟩
        · exact ((Below.refl _ wr).alloc (Nat.le_refl _) _).trans (hB4.mono (by simp))
        · exact (((Below.refl _ wr).alloc (Nat.le_refl _) _).trans (hB4.mono (by simp))).mono hB.size
      · go_wp2_with (go_at_call 7; refine (wakes_any _).mono ?_; rintro e w3 ⟨rfl, hB4⟩)
        go_ret
        exact ⟨rfl, hB.trans (hB4.mono hB.size)⟩
  · have hcase : rightB a = false ∨ (rightB a = true ∧ n < 1) ∨ (rightB a = true ∧ ¬ n < 1 ∧ 1000 < n) := by
      cases hr : rightB a
      · exact .inl rfl
      · by_cases h1 : n < 1
        · exact .inr (.inl ⟨rfl, h1⟩)
        · exact .inr (.inr ⟨rfl, h1, Int.not_le.1 fun h2 => hok ⟨hr, Int.not_lt.1 h1, h2⟩⟩)
    clear hok
    rcases hcase with hr | ⟨hr, h1⟩ | ⟨hr, h1, h2⟩
    all_goals
      go_wp2_with (first | (go_at_call 8; refine (right_val a _ hr _).mono ?_; rintro e w2 ⟨rfl, hB3⟩) | (go_at_call 7; refine (wakes_any _).mono ?_; rintro e w3 ⟨rfl, hB4⟩))
      go_ret
      exact ⟨rfl, ((Below.refl _ w).alloc (Nat.le_refl _) _).trans ((hB3.mono (by simp)).trans (hB4.mono (by have := hB3.size; simp at this; omega)))⟩
end Go.Proofs.Ytaeffklmlllimaa
