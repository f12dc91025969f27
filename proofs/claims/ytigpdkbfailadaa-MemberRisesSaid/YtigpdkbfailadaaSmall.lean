/-
  The walks of member's smallest functions.
-/
import Derived.Test.YtigpdkbfailadaaRows
import Derived.Test.YtigpdkbfailadaaAppend
import Derived.Test.YtigpdkbfailadaaTail
import Derived.Shelf.Abstract
import Derived.Shelf.RegionOpen
import Derived.WalkKit
import Derived.OwnWalkIn
import Derived.TacticsInMore
import Derived.LoopNIn
import Derived.LoopIn
import Derived.WalkMore
import Derived.ScopeJumps
import Derived.Lib.Hide
import Derived.WalkSpells
import Derived.WalkLawsBesides
import Derived.Deep.QuietTactic
import Derived.BigQuiet
import Derived.Laws.Rows
import Derived.Test.YtigpdkbfailadaaMems
namespace Go.Proofs.Ytigpdkbfailadaa
open Go Go.RowKit Go.Shelf
set_option linter.unusedSimpArgs false
set_option linter.unusedVariables false
attribute [local go_sem] Oper.semAt_some

/-- Where a kind's states lie, and how many. -/
def loOf (k : Int) : Nat := if k = 1 then 6 else 0
def cntOf (k : Int) : Nat := if k = 1 then 3 else 6

theorem states_any (m : Mm) (k : Int) (w : World) :
    Calls Try.prog 33 #[mv m, .int .u8 k] w fun e w' => e = .returned (.func (.func 37) #[] #[.pointer (some ⟨w.heap.size + 1, 0, none⟩)]) ∧ Mx w' w.heap.size m ∧ Boxed w' (w.heap.size + 1) 59 (.slice (some ⟨w.heap.size, loOf k, none⟩) (cntOf k) (cntOf k)) ∧ Below w.heap.size w w' := by
  by_cases hk : k = 1
  · subst hk
    go_enter Try.func33, Try.ntmps33
    go_wp2
    go_ret
    refine ⟨rfl, (Mx.new w m).alloc _, ?_, ((Below.refl _ w).alloc (Nat.le_refl _) _).alloc (by simp) _⟩
    have h := Boxed.new (w.alloc (.cells (mcells m) 25)) 59 (.slice (some ⟨w.heap.size, 6, none⟩) 3 3)
    rw [World.size_alloc] at h
    exact h
  · have hk' : (k == 1) = false := by simp [hk]
    have HK := Lib.hid hk
    clear hk
    go_enter Try.func33, Try.ntmps33
    go_wp2
    go_ret
    refine ⟨rfl, (Mx.new w m).alloc _, ?_, ((Below.refl _ w).alloc (Nat.le_refl _) _).alloc (by simp) _⟩
    rw [show loOf k = 0 from by unfold loOf; rw [if_neg HK.out], show cntOf k = 6 from by unfold cntOf; rw [if_neg HK.out]]
    have h := Boxed.new (w.alloc (.cells (mcells m) 25)) 59 (.slice (some ⟨w.heap.size, 0, none⟩) 6 6)
    rw [World.size_alloc] at h
    exact h
theorem idx_some {k id : Int} {i : Nat} (h : idx k id = some i) : (k = 1 ∧ ∃ n : Nat, id = n ∧ n < 3 ∧ i = 6 + n) ∨ (k = 2 ∧ ∃ n : Nat, id = n ∧ n < 6 ∧ i = n) := by
  unfold idx at h
  split at h
  · split at h
    · cases h; exact .inl ⟨by assumption, id.toNat, by omega, by omega, rfl⟩
    · cases h
  · split at h
    · split at h
      · cases h; exact .inr ⟨by assumption, id.toNat, by omega, by omega, rfl⟩
      · cases h
    · cases h
theorem idx_none {k id : Int} (h : idx k id = none) : id < 0 ∨ (0 ≤ id ∧ k = 1 ∧ 3 ≤ id) ∨ (0 ≤ id ∧ k = 2 ∧ 6 ≤ id) ∨ (0 ≤ id ∧ k ≠ 1 ∧ k ≠ 2) := by
  unfold idx at h
  split at h
  · split at h
    · cases h
    · omega
  · split at h
    · split at h
      · cases h
      · omega
    · omega
theorem place_some (g i : Nat) (k id : Int) (h : idx k id = some i) (w : World) :
    Calls Try.prog 31 #[.pointer (some ⟨g, 0, none⟩), nv k id] w fun e w' => e = .returned (.pointer (some ⟨g, i, none⟩)) ∧ Below w.heap.size w w' := by
  rcases idx_some h with ⟨rfl, n, rfl, hn, rfl⟩ | ⟨rfl, n, rfl, hn, rfl⟩
  · clear h
    have h0 : decide ((n : Int) < 0) = false := by simp
    have h3 : (n : Int) < 3 := by omega
    go_enter Try.func31, Try.ntmps31
    go_wp2
    go_quiet (fail)
    go_wp2
    go_ret
    exact ⟨rfl, below_drewN ((Below.refl _ w).alloc (Nat.le_refl _) _) nq⟩
  · clear h
    have h0 : decide ((i : Int) < 0) = false := by simp
    have h3 : (i : Int) < 6 := by omega
    go_enter Try.func31, Try.ntmps31
    go_wp2
    go_quiet (fail)
    go_wp2
    go_ret
    exact ⟨rfl, below_drewN ((Below.refl _ w).alloc (Nat.le_refl _) _) nq⟩
theorem place_none (g : Nat) (k id : Int) (h : idx k id = none) (w : World) :
    Calls Try.prog 31 #[.pointer (some ⟨g, 0, none⟩), nv k id] w fun e w' => e = .returned (.pointer none) ∧ Below w.heap.size w w' := by
  rcases idx_none h with h1 | ⟨h0, rfl, h1⟩ | ⟨h0, rfl, h1⟩ | ⟨h0, h1, h2⟩
  · clear h
    go_enter Try.func31, Try.ntmps31
    go_wp2
    go_ret
    exact ⟨rfl, (Below.refl _ w).alloc (Nat.le_refl _) _⟩
  · clear h
    have n0 : ¬ id < 0 := by omega
    go_enter Try.func31, Try.ntmps31
    go_wp2
    go_ret
    exact ⟨rfl, (Below.refl _ w).alloc (Nat.le_refl _) _⟩
  · clear h
    have n0 : ¬ id < 0 := by omega
    go_enter Try.func31, Try.ntmps31
    go_wp2
    go_ret
    exact ⟨rfl, (Below.refl _ w).alloc (Nat.le_refl _) _⟩
  · clear h
    have n0 : ¬ id < 0 := by omega
    have k1 : (k == 1) = false := by simp [h1]
    have k2 : (k == 2) = false := by simp [h2]
    clear h1 h2
    go_enter Try.func31, Try.ntmps31
    go_wp2
    go_ret
    exact ⟨rfl, (Below.refl _ w).alloc (Nat.le_refl _) _⟩
theorem add1_ok (g i : Nat) (m : Mm) (w : World) (hm : Mx w g m) (hi : i < 9) (h0 : m i = 0) :
    Calls Try.prog 27 #[.pointer (some ⟨g, i, none⟩)] w fun e w' => e = .returned (.int .i64 0) ∧ w' = w.setCell ⟨g, i, none⟩ (.int .u8 1) := by
  have c0 := hm.at_ hi
  have f0 := hm.fz i
  rw [h0] at c0
  clear h0
  go_enter Try.func27, Try.ntmps27
  go_wp2
  go_ret
  exact ⟨rfl, rfl⟩
theorem add1_no (g i : Nat) (m : Mm) (w : World) (hm : Mx w g m) (hi : i < 9) (h0 : (m i == 0) = false) :
    Calls Try.prog 27 #[.pointer (some ⟨g, i, none⟩)] w fun e w' => e = .returned (.int .i64 201) ∧ w' = w := by
  have c0 := hm.at_ hi
  have f0 := hm.fz i
  go_enter Try.func27, Try.ntmps27
  go_wp2
  go_ret
  exact ⟨rfl, rfl⟩
theorem kill1a_ok (g i : Nat) (m : Mm) (w : World) (hm : Mx w g m) (hi : i < 9) (h0 : m i = 1) :
    Calls Try.prog 30 #[.pointer (some ⟨g, i, none⟩)] w fun e w' => e = .returned (.int .i64 0) ∧ w' = w.setCell ⟨g, i, none⟩ (.int .u8 3) := by
  have c0 := hm.at_ hi
  have f0 := hm.fz i
  rw [h0] at c0
  clear h0
  go_enter Try.func30, Try.ntmps30
  go_wp2
  go_ret
  exact ⟨rfl, rfl⟩
theorem kill1b_ok (g i : Nat) (m : Mm) (w : World) (hm : Mx w g m) (hi : i < 9) (h0 : m i = 2) :
    Calls Try.prog 30 #[.pointer (some ⟨g, i, none⟩)] w fun e w' => e = .returned (.int .i64 0) ∧ w' = w.setCell ⟨g, i, none⟩ (.int .u8 3) := by
  have c0 := hm.at_ hi
  have f0 := hm.fz i
  rw [h0] at c0
  clear h0
  go_enter Try.func30, Try.ntmps30
  go_wp2
  go_ret
  exact ⟨rfl, rfl⟩
theorem kill1_no (g i : Nat) (m : Mm) (w : World) (hm : Mx w g m) (hi : i < 9) (h0 : (m i == 1) = false) (h1 : (m i == 2) = false) :
    Calls Try.prog 30 #[.pointer (some ⟨g, i, none⟩)] w fun e w' => e = .returned (.int .i64 202) ∧ w' = w := by
  have c0 := hm.at_ hi
  have f0 := hm.fz i
  have n0 : (m i != 1) = true := by simp at h0 ⊢; exact h0
  have n1 : (m i != 2) = true := by simp at h1 ⊢; exact h1
  have d0 : ¬ m i = 1 := by simpa using h0
  clear h0 h1
  go_enter Try.func30, Try.ntmps30
  go_wp2
  go_ret
  exact ⟨rfl, rfl⟩
theorem there_any (s : Int) (w : World) : Calls Try.prog 35 #[.int .u8 s] w fun e w' => e = .returned (.bool (thereS s)) ∧ w = w' := by
  go_enter Try.func35, Try.ntmps35
  go_wp2
  all_goals
    go_ret
    exact ⟨ret_bool (by rw [Bool.eq_iff_iff]; simp_all [thereS]), rfl⟩
theorem alive_any (s : Int) (w : World) : Calls Try.prog 36 #[.int .u8 s] w fun e w' => e = .returned (.bool (aliveS s)) ∧ w = w' := by
  go_enter Try.func36, Try.ntmps36
  go_wp2
  go_ret
  exact ⟨ret_bool (by simp [aliveS, Bool.beq_eq_decide_eq]; try rfl), rfl⟩
theorem new_any (w : World) : Calls Try.prog 15 #[] w fun e W' => e = .returned (mv zeroM) ∧ Below w.heap.size w W' := by
  go_enter Try.func15, Try.ntmps15
  go_wp2
  refine bodyPost_ret (v := mv zeroM) (by simp [results, Try.f15, go_sem, zeroM]) rfl ?_
  exact ⟨rfl, ((Below.refl _ w).alloc (Nat.le_refl _) _)⟩
theorem refNew_any (w : World) : Calls Try.prog 16 #[] w fun e W' => e = .returned (mv zeroM) ∧ Below w.heap.size w W' := by
  go_enter Try.func16, Try.ntmps16
  go_wp2
  refine bodyPost_ret (v := mv zeroM) (by simp [results, Try.f16, go_sem, zeroM]) rfl ?_
  exact ⟨rfl, ((Below.refl _ w).alloc (Nat.le_refl _) _)⟩
end Go.Proofs.Ytigpdkbfailadaa
