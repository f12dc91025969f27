/-
  The walk of the statement SumWords.
-/
import Derived.Test.YtkanbnfiblbkpaaWakes
import Derived.Test.YtkanbnfiblbkpaaAppend
namespace Go.Proofs.Ytkanbnfiblbkpaa
open Go Go.RowKit Go.Shelf

theorem infoU8 : (Try.prog.info? 5).map (fun i => (i.zero, i.size, i.bytes)) = some (some (.int .u8 0), 1, 1) := by kernel_rfl

set_option maxHeartbeats 400000 in
theorem sumWords_great (A : Option Addr) (n c : Nat) (hn : 3000 < n) (w : World) :
    Calls Try.prog 6 #[.slice A n c] w fun e W' => e = .returned (.bool true) ∧ Below w.heap.size w W' := by
  go_enter Try.func6, Try.ntmps6
  go_wp2_with (go_at_call 7; refine (wakes_any _).mono ?_; rintro e w' ⟨rfl, hB⟩)
  go_ret
  exact ⟨rfl, hB⟩

set_option maxHeartbeats 4000000 in
theorem sumWords_small (A : Option Addr) (n c : Nat) (hn : n ≤ 3000) (bs : List Nat) (hbs : ∀ x ∈ bs, x < 256) (w : World) (hs : Sl w w.heap.size A n c (bs.map vb)) :
    Calls Try.prog 6 #[.slice A n c] w fun e W' => e = .returned (.bool true) ∧ Below w.heap.size w W' := by
  have hlen : bs.length = n := by simpa using hs.1
  have HL := hide hlen
  clear hlen
  obtain ⟨i0, hi, hz0, hz1, hz2⟩ := info_parts infoU8
  go_enter Try.func6, Try.ntmps6
  go_wp2_with fail
  refine (Words_any _ n c bs hbs (by omega) _ hs).mono ?_
  rintro e w1 ⟨⟨A1, c1, rfl, hs1⟩, hB1⟩
  go_wp2_with fail
  refine (sum_any _ n c bs hbs (by omega) _ ((hs.below hB1).more hB1.size)).mono ?_
  rintro e w2 ⟨rfl, hB2⟩
  have hB2' : Below w.heap.size w w2 := hB1.trans (hB2.mono hB1.size)
  have hs2 := hs1.below hB2
  clear hB2
  go_wp2_with fail
  refine (fold_val _ _ _ _ (wordsOf bs) (can (wsum bs) : Nat) rfl (wordsOf_lt bs hbs) (by omega) _ hs2).mono ?_
  rintro e w3 ⟨rfl, rfl⟩
  go_wp2_with fail
  obtain ⟨N, hN⟩ : ∃ N, N = (n + 1) / 2 := ⟨_, rfl⟩
  have HNn : Hid (N = (n + 1) / 2) := hN
  clear hN
  go_loopw [4] (fun i wr => ∃ k m : Nat, k ≤ (n + 1) / 2 ∧ i = .int .i64 k ∧ wr = w2.drewN m) (fun i _ => (n + 1) / 2 - (intOf i).toNat)
  case atStart => exact ⟨0, 0, Nat.zero_le _, rfl, rfl⟩
  case round =>
    obtain ⟨k, m, hk, rfl, rfl⟩ := hrel
    by_cases hlt : k < (n + 1) / 2
    · obtain ⟨b, off, rfl, hb, hc⟩ := hs.at_ (by omega)
      obtain ⟨b1, off1, rfl, hb1, hc1⟩ := hs2.at_ (by omega)
      obtain ⟨x, hx⟩ : ∃ x, bs[2 * k]? = some x := ⟨bs[2 * k]'(by rw [HL.out]; omega), List.getElem?_eq_getElem _⟩
      have hx8 : x < 256 := hbs x (List.mem_of_getElem? hx)
      have hz := wordsOf_get bs k (by rw [HL.out]; exact hlt)
      have hzl : k < (wordsOf bs).length := by rw [wordsOf_length, HL.out]; exact hlt
      have hz' : (wordsOf bs)[k]? = some ((wordsOf bs)[k]?.getD 0) := by rw [List.getElem?_eq_getElem hzl]; rfl
      rw [hz, hx] at hz'
      have cx : w2.cell? ⟨b, off + 2 * k, none⟩ = some (vb x) := (hB2'.cell (p := ⟨b, off + 2 * k, none⟩) hb).trans (hc (2 * k) (vb x) (by simp [hx]))
      have hk1 : (k : Int) < ((n : Int) + 1) / 2 := by omega
      by_cases h2 : 2 * k + 1 < n
      · obtain ⟨y, hy⟩ : ∃ y, bs[2 * k + 1]? = some y := ⟨bs[2 * k + 1]'(by rw [HL.out]; omega), List.getElem?_eq_getElem _⟩
        have hy8 : y < 256 := hbs y (List.mem_of_getElem? hy)
        rw [hy] at hz'
        have cz := hc1 k (vw (256 * x + y)) (by simp [hz'])
        have cy : w2.cell? ⟨b, off + (2 * k + 1), none⟩ = some (vb y) := (hB2'.cell (p := ⟨b, off + (2 * k + 1), none⟩) hb).trans (hc (2 * k + 1) (vb y) (by simp [hy]))
        clear hc hc1 hx hz hzl hz' hy
        obtain ⟨z, hzz⟩ : ∃ z : Nat, z = 256 * x + y := ⟨_, rfl⟩
        rw [← hzz] at cz
        have t1 : (IntKind.u8.wrap ((z : Int) / 256) != (x : Int)) = false := by rw [IntKind.wrap_u8']; simp; omega
        have t2 : (IntKind.u8.wrap (z : Int) != (y : Int)) = false := by rw [IntKind.wrap_u8']; simp; omega
        clear hzz
        go_wp2
        have q1 : IntKind.i64.wrap (2 * (k : Int)) = 2 * (k : Int) := IntWalk.i64_in _ (by omega)
        have q2 : (0 : Int) ≤ 2 * (k : Int) := by omega
        have q3 : (2 * (k : Int)).toNat = 2 * k := by omega
        have q4 : 2 * (k : Int) < (n : Int) := by omega
        go_quiet (fail)
        clear q1 q2 q3 q4
        go_wp2
        go_roundw
        case rel => exact ⟨k + 1, _, by omega, by go_num, rfl⟩
        case measure => simp [intOf]; omega
      · rw [show bs[2 * k + 1]? = none from List.getElem?_eq_none (by rw [HL.out]; omega)] at hz'
        have cz := hc1 k (vw (256 * x)) (by simp [hz'])
        clear hc hc1 hx hz hzl hz'
        obtain ⟨z, hzz⟩ : ∃ z : Nat, z = 256 * x := ⟨_, rfl⟩
        rw [← hzz] at cz
        have t1 : (IntKind.u8.wrap ((z : Int) / 256) != (x : Int)) = false := by rw [IntKind.wrap_u8']; simp; omega
        have t2 : (IntKind.u8.wrap (z : Int) != 0) = false := by rw [IntKind.wrap_u8']; simp; omega
        clear hzz
        go_wp2
        have q1 : IntKind.i64.wrap (2 * (k : Int)) = 2 * (k : Int) := IntWalk.i64_in _ (by omega)
        have q2 : (0 : Int) ≤ 2 * (k : Int) := by omega
        have q3 : (2 * (k : Int)).toNat = 2 * k := by omega
        have q4 : 2 * (k : Int) < (n : Int) := by omega
        go_quiet (fail)
        clear q1 q2 q3 q4
        go_wp2
        go_roundw
        case rel => exact ⟨k + 1, _, by omega, by go_num, rfl⟩
        case measure => simp [intOf]; omega
    · obtain rfl : k = (n + 1) / 2 := by omega
      clear hs2
      have hBm : Below w.heap.size w (w2.drewN m) := below_drewN hB2' m
      obtain ⟨w3, hw3⟩ : ∃ w3, w2.drewN m = w3 := ⟨_, rfl⟩
      rw [hw3] at hBm ⊢
      clear hw3
      have hsm : Sl w3 w.heap.size A n c (bs.map vb) := hs.below hBm
      have hzm := hBm.size
      have hown := World.ownsRow_lit (base := w.heap.size) (e := 5) (size := 1) w3 #[] 0 hzm (Nat.zero_le _) rfl
      have hone : ∀ u ∈ bs.map vb, u.oneCell' = true := by intro u hu; simp at hu; obtain ⟨x, _, rfl⟩ := hu; rfl
      have hB4 : ∀ {v4 w4}, (w3.alloc (.cells #[] 5)).grownBy w4 v4 → (∀ k, v4 = some k → w.heap.size ≤ k) → Below w.heap.size w w4 := fun hg hr => (hBm.alloc hzm _).grown hg (by simp; omega) hr
      go_wp2_with (first | (at_builtin; refine wpList_append_sl _ rfl (.tmp 66) (.tmp 67) _ rfl w.heap.size 5 i0 (.int .u8 0) 1 Try.underlying22 hi hz0 hz1 hz2 rfl (.slice (some ⟨w3.heap.size, 0, none⟩) 0 0) 0 [] rfl hown w.heap.size A n c (bs.map vb) rfl (hsm.alloc hzm _) hone (by unfold maxLen; omega) (by omega) (by simp; omega) ?_; intro v4 w4 hown4 hg4 hat4; simp only [Nat.zero_add, List.nil_append] at hown4; have hbw4 := hB4 hg4 (fun k e => by simp [Value.ownBlock] at e; omega); have hz4 := hbw4.size) | (at_builtin; refine wpList_append_sl _ rfl (.tmp 68) (.tmp 69) _ rfl w.heap.size 5 i0 (.int .u8 0) 1 Try.underlying22 hi hz0 hz1 hz2 rfl v4 n (bs.map vb) rfl (hown4.alloc _) (w4.heap.size + 1) _ 2 2 [vb 0, vb 0] rfl (Sl.made' w4 _ _ [vb 0, vb 0] 5 rfl rfl (by simp [maxLen])) (by intro u hu; simp at hu; subst hu; rfl) (by unfold maxLen; omega) (by omega) (by simp; omega) ?_; intro v5 w5 hown5 hg5 hat5; have hbw5 : Below w.heap.size w w5 := (hbw4.alloc hz4 _).grown hg5 (by simp; omega) (fun k e => (hown4.lt k e).1); have hz5 := hbw5.size; obtain ⟨A5, c5, rfl, hs5⟩ := Sl.own hown5; have hs5' : Sl w5 w5.heap.size A5 (n + 2) c5 ((bs ++ [0, 0]).map vb) := by simpa using hs5))
      · refine (wakes_any _).mono ?_
        rintro e w8 ⟨rfl, hB8⟩
        go_wp2_with fail
        go_ret
        exact ⟨rfl, hbw5.trans (hB8.mono hz5)⟩
      · have hpar : ¬ (n : Int) % 2 = 1 := by assumption
        have hp2 : bs.length % 2 = 0 := by rw [HL.out]; omega
        clear hpar
        have hev : wsum (bs ++ [0, 0]) = wsum bs := by unfold wsum; rw [wordsOf_two bs 0 0 [] hp2]; simp [wordsOf]
        have hb2 : ∀ x ∈ bs ++ [0, 0], x < 256 := by
          intro x hx
          simp at hx
          rcases hx with h | h
          · exact hbs x h
          · omega
        refine (sum_val _ (n + 2) c5 (bs ++ [0, 0]) (can (wsum bs) : Nat) (by rw [hev]) hb2 (by omega) _ hs5').mono ?_
        rintro e w6 ⟨rfl, hB6⟩
        have hbw6 := hbw5.trans (hB6.mono hz5)
        clear hB6 hev
        go_wp2_with fail
        refine (sum_any _ n c bs hbs (by omega) _ ((hs.below hbw6).more hbw6.size)).mono ?_
        rintro e w7 ⟨rfl, hB7⟩
        have hbw7 := hbw6.trans (hB7.mono hbw6.size)
        clear hB7
        go_wp2_with (go_at_call 7; refine (wakes_any _).mono ?_; rintro e w8 ⟨rfl, hB8⟩)
        go_ret
        exact ⟨rfl, hbw7.trans (hB8.mono hbw7.size)⟩
end Go.Proofs.Ytkanbnfiblbkpaa
