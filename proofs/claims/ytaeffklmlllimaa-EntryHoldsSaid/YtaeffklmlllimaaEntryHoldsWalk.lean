/-
  The walk of the statement EntryHolds.
-/
import Derived.Test.YtaeffklmlllimaaRows
import Derived.Test.YtaeffklmlllimaaAppend
import Derived.Test.YtaeffklmlllimaaTail
import Derived.Shelf.Abstract
import Derived.Shelf.RegionOpen
import Derived.WalkKit
import Derived.OwnWalkIn
import Derived.TacticsInMore
import Derived.LoopNIn
import Derived.LoopIn
import Derived.WalkMore
import Derived.ScopeJumps
import Derived.Lib.Hide
import Derived.WalkSpells
import Derived.WalkLawsBesides
import Derived.Deep.QuietTactic
import Derived.BigQuiet
import Derived.Laws.Rows
import Derived.Test.YtaeffklmlllimaaWakes
namespace Go.Proofs.Ytaeffklmlllimaa
open Go Go.RowKit Go.Shelf
set_option linter.unusedSimpArgs false
attribute [local go_sem] Oper.semAt_some

theorem holders_right {e : Ent} (h : rightB e = true) : ((holdersL e = [] ∧ e.cur = -1 ∧ e.prev = -1) ∨ (holdersL e = [e.cur] ∧ e.cur ≠ -1 ∧ e.prev = -1) ∨ (holdersL e = [e.cur, e.prev] ∧ e.cur ≠ -1 ∧ e.prev ≠ -1 ∧ e.prev ≠ e.cur)) ∧ ∀ x ∈ holdersL e, 0 ≤ x ∧ x < 6 := by
  unfold rightB at h
  simp only [decide_eq_true_eq] at h
  obtain ⟨_, _, _, _, h1, h2, h3, h4, h5⟩ := h
  unfold holdersL firstH
  by_cases hc : e.cur = -1
  · rw [if_pos hc] at h5
    simp [hc, h5]
  · rw [if_neg hc] at h5
    by_cases hp : e.prev = -1
    · simp [hc, hp]
      omega
    · simp [hc, hp, h5]
      omega

set_option maxHeartbeats 2000000 in
theorem entryHolds_any (w : World) (a : Ent) : Calls Try.prog 5 #[ev a] w fun e W' => e = .returned (.bool true) ∧ Below w.heap.size w W' := by
  have hle := holdersL_le a
  obtain ⟨l, hl⟩ : ∃ l, holdersL a = l := ⟨_, rfl⟩
  obtain ⟨m, hm⟩ : ∃ m, l.length = m := ⟨_, rfl⟩
  rw [hl, hm] at hle
  have HLL := hide hl
  have HM := hide hm
  go_enter Try.func5, Try.ntmps5
  cases hr : rightB a
  · clear hl hm
    go_wp2_with (first | (go_at_call 17; refine (holders_val a l m HM.out HLL.out _).mono ?_; rintro e w1 ⟨⟨A, c, rfl, hs⟩, hB1⟩; have hx1 : Bx w1 w.heap.size a := (Bx.new w _ _ _ _).below hB1 (by simp); have c0 := hx1.c0; have c1 := hx1.c1; have c2 := hx1.c2; have c3 := hx1.c3; have hB2 : Below w.heap.size w w1 := ((Below.refl w.heap.size w).alloc (Nat.le_refl _) _).trans (hB1.mono (by simp))) | (go_at_call 8; refine (right_val a _ hr _).mono ?_; rintro e w2 ⟨rfl, hB3⟩) | (go_at_call 7; refine (wakes_any _).mono ?_; rintro e w3 ⟨rfl, hB4⟩))
    go_ret
    exact ⟨rfl, hB2.trans ((hB3.trans (hB4.mono hB3.size)).mono hB2.size)⟩
  · obtain ⟨hcase, hrange⟩ := holders_right hr
    rw [hl] at hcase hrange
    have HC := hide hcase
    have HR := hide hrange
    clear hl hm hcase hrange
    go_wp2_with (first | (go_at_call 17; refine (holders_val a l m HM.out HLL.out _).mono ?_; rintro e w1 ⟨⟨A, c, rfl, hs⟩, hB1⟩; have hx1 : Bx w1 w.heap.size a := (Bx.new w _ _ _ _).below hB1 (by simp); have c0 := hx1.c0; have c1 := hx1.c1; have c2 := hx1.c2; have c3 := hx1.c3; have hB2 : Below w.heap.size w w1 := ((Below.refl w.heap.size w).alloc (Nat.le_refl _) _).trans (hB1.mono (by simp))) | (go_at_call 8; refine (right_val a _ hr _).mono ?_; rintro e w2 ⟨rfl, hB3⟩) | (go_at_call 7; refine (wakes_any _).mono ?_; rintro e w3 ⟨rfl, hB4⟩))
    have hs2 := hs.below hB3
    have hB5 : Below w.heap.size w w2 := hB2.trans (hB3.mono hB2.size)
    have hx2 := hx1.below hB3 hx1.lt
    have hm63 : m ≤ 9223372036854775807 := by omega
    clear c0 c1 c2 c3
    have c0 := hx2.c0
    have c1 := hx2.c1
    have c2 := hx2.c2
    have c3 := hx2.c3
    go_loopw [4] (fun i wr => ∃ k d : Nat, k ≤ m ∧ i = .int .i64 k ∧ wr = w2.drewN d) (fun i _ => m - (intOf i).toNat)
    case atStart => exact ⟨0, 0, Nat.zero_le _, rfl, rfl⟩
    case round =>
      obtain ⟨k, d, hk, rfl, rfl⟩ := hrel
      by_cases hlt : k < m
      · obtain ⟨b, off, rfl, hb, hc⟩ := hs2.at_ (by omega)
        obtain ⟨x, hx⟩ : ∃ x, l[k]? = some x := ⟨l[k]'(by rw [HM.out]; exact hlt), List.getElem?_eq_getElem _⟩
        obtain ⟨y, hy⟩ : ∃ y, l[0]? = some y := ⟨l[0]'(by rw [HM.out]; omega), List.getElem?_eq_getElem _⟩
        have cx := hc k (vi x) (by simp [hx])
        have cy := hc 0 (vi y) (by simp [hy])
        rw [Nat.add_zero] at cy
        have hxr := HR.out x (List.mem_of_getElem? hx)
        have hlt' : (k : Int) < (m : Int) := by omega
        have h0 : (0 : Int) ≤ (k : Int) := by omega
        have h0m : (0 : Int) < (m : Int) := by omega
        have hx0 : decide (x < 0) = false := by simp; omega
        have hx6 : decide (6 ≤ x) = false := by simp; omega
        have HXY := hide (show 0 < k → x ≠ y from fun hk0 => by
          rcases HC.out with ⟨rfl, _⟩ | ⟨rfl, _⟩ | ⟨rfl, _, _, hne⟩
          · simp at hx
          · have : k = 0 := by have := (List.getElem?_eq_some_iff.1 hx).1; simp at this; omega
            omega
          · have : k = 1 := by have := (List.getElem?_eq_some_iff.1 hx).1; simp at this; omega
            subst this
            simp at hx hy
            omega)
        clear hc hx hy hxr
        rcases Nat.eq_zero_or_pos k with hk0 | hk0
        · have hkk : decide (0 < k) = false := by simp; omega
          have HK := hide hk0
          clear hk0
          go_wp2
          go_quiet (fail)
          go_wp2
          go_roundw
          case rel => exact ⟨k + 1, _, by omega, by go_num, rfl⟩
          case measure => simp [intOf]; omega
        · have hkk : (0 : Int) < (k : Int) := by omega
          have hxy : (x == y) = false := by simp; exact HXY.out hk0
          go_wp2
          go_quiet (fail)
          go_wp2
          go_roundw
          case rel => exact ⟨k + 1, _, by omega, by go_num, rfl⟩
          case measure => simp [intOf]; omega
      · obtain rfl : k = m := by omega
        have HK := HC.out
        have hml := HM.out
        clear HC HR hs hs2
        rcases HK with ⟨hL, hc, hp⟩ | ⟨hL, hc, hp⟩ | ⟨hL, hc, hp, _⟩
        · rw [hL] at hml
          obtain rfl : k = 0 := hml.symm
          have e1 : (a.cur == -1) = true := by simp [hc]
          have hmv : decide (a.prev ≠ -1) = false := by simp [hp]
          clear hL hc hp hml HLL HM
          go_wp2_with (first | (go_at_call 19; refine (moving_val a _ hmv _).mono ?_; rintro e w4 ⟨rfl, hB4⟩; have hx4 := (hx2.drewN d).below hB4 hx2.lt; have d0 := hx4.c0) | (go_at_call 7; refine (wakes_any _).mono ?_; rintro e w5 ⟨rfl, hB6⟩))
          go_ret
          exact ⟨rfl, (below_drewN hB5 d).trans ((hB4.trans (hB6.mono hB4.size)).mono hB5.size)⟩
        · rw [hL] at hml
          obtain rfl : k = 1 := hml.symm
          have e1 : (a.cur == -1) = false := by simp [hc]
          have hmv : decide (a.prev ≠ -1) = false := by simp [hp]
          clear hL hc hp hml HLL HM
          go_wp2_with (first | (go_at_call 19; refine (moving_val a _ hmv _).mono ?_; rintro e w4 ⟨rfl, hB4⟩; have hx4 := (hx2.drewN d).below hB4 hx2.lt; have d0 := hx4.c0) | (go_at_call 7; refine (wakes_any _).mono ?_; rintro e w5 ⟨rfl, hB6⟩))
          go_ret
          exact ⟨rfl, (below_drewN hB5 d).trans ((hB4.trans (hB6.mono hB4.size)).mono hB5.size)⟩
        · rw [hL] at hml
          obtain rfl : k = 2 := hml.symm
          have e1 : (a.cur == -1) = false := by simp [hc]
          have hmv : decide (a.prev ≠ -1) = true := by simp [hp]
          clear hL hc hp hml HLL HM
          go_wp2_with (first | (go_at_call 19; refine (moving_val a _ hmv _).mono ?_; rintro e w4 ⟨rfl, hB4⟩; have hx4 := (hx2.drewN d).below hB4 hx2.lt; have d0 := hx4.c0) | (go_at_call 7; refine (wakes_any _).mono ?_; rintro e w5 ⟨rfl, hB6⟩))
          go_ret
          exact ⟨rfl, (below_drewN hB5 d).trans ((hB4.trans (hB6.mono hB4.size)).mono hB5.size)⟩
end Go.Proofs.Ytaeffklmlllimaa
