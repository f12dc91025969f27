/-
  The walk of the statement SumChecks.
-/
import Derived.Test.YtkanbnfiblbkpaaWakes
import Derived.Test.YtkanbnfiblbkpaaAppend
import Derived.Deep.RegionWith
namespace Go.Proofs.Ytkanbnfiblbkpaa
open Go Go.RowKit Go.Shelf

set_option maxHeartbeats 400000 in
theorem sumChecks_out (A : Option Addr) (n c : Nat) (hn : n / 2 = 0 ∨ 3000 < n) (hm : n ≤ 9223372036854775807) (at_ bit : Int) (w : World) :
    Calls Try.prog 3 #[.slice A n c, .int .i64 at_, .int .i64 bit] w fun e W' => e = .returned (.bool true) ∧ Below w.heap.size w W' := by
  rcases hn with hn | hn
  · have h0 : ((n : Int) / 2 == 0) = true := by simp; omega
    go_enter Try.func3, Try.ntmps3
    go_wp2_with (go_at_call 7; refine (wakes_any _).mono ?_; rintro e w' ⟨rfl, hB⟩)
    go_ret
    exact ⟨rfl, hB⟩
  · have h0 : ((n : Int) / 2 == 0) = false := by simp; omega
    go_enter Try.func3, Try.ntmps3
    go_wp2_with (go_at_call 7; refine (wakes_any _).mono ?_; rintro e w' ⟨rfl, hB⟩)
    go_ret
    exact ⟨rfl, hB⟩

theorem tmod_gt' (a n : Int) (hn : 0 < n) : -n < a.tmod n := by
  rcases Int.le_total 0 a with h | h
  · have := Int.tmod_nonneg n h
    omega
  · have h1 := (-a).tmod_lt_of_pos hn
    rw [Int.neg_tmod] at h1
    omega

theorem infoU8' : (Try.prog.info? 5).map (fun i => (i.zero, i.size, i.bytes)) = some (some (.int .u8 0), 1, 1) := by kernel_rfl

theorem xor_lt (x i : Nat) (hx : x < 256) (hi : i < 8) : x ^^^ 2 ^ i < 256 :=
  Nat.xor_lt_two_pow (n := 8) hx (show 2 ^ i < 2 ^ 8 from Nat.pow_lt_pow_right (by decide) hi)

theorem xor_val (x i : Nat) (hx : x < 256) (hi : i < 8) : bits BinOp.xor IntKind.u8 (x : Int) (2 ^ i % 256) = ((x ^^^ 2 ^ i : Nat) : Int) := by
  have h2 : 2 ^ i < 256 := show 2 ^ i < 2 ^ 8 from Nat.pow_lt_pow_right (by decide) hi
  have e : ((2 : Int) ^ i % 256) = ((2 ^ i : Nat) : Int) := by
    have : ((2 ^ i : Nat) : Int) = (2 : Int) ^ i := by simp
    rw [← this]
    exact Int.emod_eq_of_lt (Int.natCast_nonneg _) (Int.ofNat_lt.2 h2)
  rw [e, u8_xor_nat x (2 ^ i) hx h2]

/-- A place as the program reckons it. -/
theorem place_of (a : Int) (m : Nat) (hm : 0 < m) : ∃ k : Nat, (a.tmod (m : Int) + (m : Int)) % (m : Int) = (k : Int) ∧ k < m := by
  have h1 := Int.emod_nonneg (a.tmod (m : Int) + (m : Int)) (b := (m : Int)) (by omega)
  have h2 := Int.emod_lt_of_pos (a.tmod (m : Int) + (m : Int)) (b := (m : Int)) (by omega)
  exact ⟨((a.tmod (m : Int) + (m : Int)) % (m : Int)).toNat, by omega, by omega⟩

set_option maxHeartbeats 4000000 in
theorem sumChecks_in (A : Option Addr) (n c : Nat) (hn0 : 0 < n / 2) (hn : n ≤ 3000) (at_ : Int) (_hat : -9223372036854775808 ≤ at_ ∧ at_ ≤ 9223372036854775807) (bit : Int) (_hbit : -9223372036854775808 ≤ bit ∧ bit ≤ 9223372036854775807)
    (bs : List Nat) (hbs : ∀ x ∈ bs, x < 256) (w : World) (hs : Sl w w.heap.size A n c (bs.map vb)) :
    Calls Try.prog 3 #[.slice A n c, .int .i64 at_, .int .i64 bit] w fun e W' => e = .returned (.bool true) ∧ Below w.heap.size w W' := by
  have hlen : bs.length = n := by simpa using hs.1
  have HL := hide hlen
  clear hlen
  obtain ⟨i0, hi, hz0, hz1, hz2⟩ := info_parts infoU8'
  obtain ⟨m, hm⟩ : ∃ m, n / 2 = m := ⟨_, rfl⟩
  have hm2 : (n : Int) / 2 = (m : Int) := by omega
  have hm0 : 0 < m := by omega
  have hmn : 2 * m ≤ n := by omega
  have hnm : n ≤ 2 * m + 1 := by omega
  have HM := hide hm
  clear hm hn0
  have hA1 := at_.tmod_lt_of_pos (b := (m : Int)) (by omega)
  have hA2 := tmod_gt' at_ (m : Int) (by omega)
  obtain ⟨k, hk, hkn⟩ := place_of at_ m hm0
  have hB1 := bit.tmod_lt_of_pos (b := 8 * (n : Int)) (by omega)
  have hB2 := tmod_gt' bit (8 * (n : Int)) (by omega)
  obtain ⟨q, hq, hqn⟩ := place_of bit (8 * n) (by omega)
  have hq' : (bit.tmod (8 * (n : Int)) + 8 * (n : Int)) % (8 * (n : Int)) = (q : Int) := by simpa using hq
  clear hq
  have h0 : ((m : Int) == 0) = false := by simp; omega
  have hown := World.ownsRow_lit (base := w.heap.size) (e := 5) (size := 1) w #[] 0 (Nat.le_refl _) (Nat.zero_le _) rfl
  have hone : ∀ u ∈ bs.map vb, u.oneCell' = true := by intro u hu; simp at hu; obtain ⟨x, _, rfl⟩ := hu; rfl
  go_enter Try.func3, Try.ntmps3
  go_wp2_with (at_builtin; refine wpList_append_sl _ rfl (.tmp 30) (.tmp 31) _ rfl w.heap.size 5 i0 (.int .u8 0) 1 Try.underlying22 hi hz0 hz1 hz2 rfl (.slice (some ⟨w.heap.size, 0, none⟩) 0 0) 0 [] rfl hown w.heap.size _ n c (bs.map vb) rfl (hs.alloc (Nat.le_refl _) _) hone (by unfold maxLen; omega) (by omega) (by simp) ?_; intro v4 w4 hown4 hg4 hat4; simp only [Nat.zero_add, List.nil_append] at hown4; obtain ⟨g, cap, rfl, hg, hgs⟩ := hown4.form (by omega); have hc4 : ∃ u, w4.cell? ⟨g, 2 * k, none⟩ = some u := ⟨_, (hown4.cellAt (2 * k) (by omega)).trans (List.getElem?_eq_getElem (by simp; have := HL.out; omega))⟩; have hc5 : ∃ u, w4.cell? ⟨g, 2 * k + 1, none⟩ = some u := ⟨_, (hown4.cellAt (2 * k + 1) (by omega)).trans (List.getElem?_eq_getElem (by simp; have := HL.out; omega))⟩; obtain ⟨y4, hc4⟩ := hc4; obtain ⟨y5, hc5⟩ := hc5; have hf4 := hown4.frozenAt (2 * k); have hf5 := hown4.frozenAt (2 * k + 1))
  have hB4 : Below w.heap.size w w4 := ((Below.refl w.heap.size w).alloc (Nat.le_refl _) _).grown hg4 (by simp) (fun k e => by simp [Value.ownBlock] at e; omega)
  have hown5 := ((hown4.stored (2 * k) (vb 0)).1.stored (2 * k + 1) (vb 0)).1
  rw [show ((bs.map vb).set (2 * k) (vb 0)).set (2 * k + 1) (vb 0) = ((bs.set (2 * k) 0).set (2 * k + 1) 0).map vb from by rw [List.map_set, List.map_set]] at hown5
  have hB5 : Below w.heap.size w ((w4.setCell ⟨g, 2 * k, none⟩ (vb 0)).setCell ⟨g, 2 * k + 1, none⟩ (vb 0)) := (hB4.setCell (p := ⟨g, 2 * k, none⟩) hg _).setCell (p := ⟨g, 2 * k + 1, none⟩) hg _
  obtain ⟨w5, hw5⟩ : ∃ w5, (w4.setCell ⟨g, 2 * k, none⟩ (vb 0)).setCell ⟨g, 2 * k + 1, none⟩ (vb 0) = w5 := ⟨_, rfl⟩
  rw [hw5] at hown5 hB5
  rw [show ((w4.setCell ⟨g, 2 * k, none⟩ (Value.int IntKind.u8 0)).setCell ⟨g, 2 * k + 1, none⟩ (Value.int IntKind.u8 0)) = w5 from hw5]
  clear hw5 hc4 hc5 hf4 hf5 hown4 hg4 hat4 hB4 hown
  obtain ⟨c0, hc0⟩ : ∃ c0, (bs.set (2 * k) 0).set (2 * k + 1) 0 = c0 := ⟨_, rfl⟩
  have hl0 : c0.length = n := by rw [← hc0]; simp; exact HL.out
  have h00 : c0[2 * k]?.getD 0 = 0 := by
    rw [← hc0, List.getElem?_set_ne (by omega)]
    simp [List.getElem?_set]
    split <;> rfl
  have h01 : c0[2 * k + 1]?.getD 0 = 0 := by
    rw [← hc0]
    simp [List.getElem?_set]
    split <;> rfl
  have hb0 : ∀ x ∈ c0, x < 256 := by
    intro x hx
    rw [← hc0] at hx
    rcases List.mem_or_eq_of_mem_set hx with h | h
    · rcases List.mem_or_eq_of_mem_set h with h | h
      · exact hbs x h
      · omega
    · omega
  rw [hc0] at hown5
  clear hc0
  have hfull := check_full c0 (2 * k) (by omega) (by omega) h00 h01
  obtain ⟨K, hK⟩ : ∃ K, 65535 - can (wsum c0) = K := ⟨_, rfl⟩
  rw [hK] at hfull
  have C := hide (fun (W : World) (h : Sl W W.heap.size (some ⟨g, 0, none⟩) n cap (c0.map vb)) => check_any _ n cap c0 hb0 (by omega) W h)
  rw [hK] at C
  have hK16 : K < 65536 := by omega
  clear hK
  have L0 := hide hl0
  clear hl0 h00 h01
  refine (C.out _ (Sl.own' hown5)).mono ?_
  rintro e w6 ⟨rfl, hB6⟩
  have hown6 := ownsRow_below hown5 hB6
  have hB6' := hB5.trans (hB6.mono hB5.size)
  clear hB6 hown5 hB5 C
  obtain ⟨hi', hhi⟩ : ∃ a : Nat, a = K / 256 := ⟨_, rfl⟩
  obtain ⟨lo', hlo⟩ : ∃ a : Nat, a = K % 256 := ⟨_, rfl⟩
  rw [← hhi, ← hlo] at hfull
  have e1 : (K : Int) / 256 = (hi' : Int) := by omega
  have e2 : IntKind.u8.wrap (K : Int) = (lo' : Int) := by rw [IntKind.wrap_u8']; omega
  have hi8 : hi' < 256 := by omega
  have lo8 : lo' < 256 := by omega
  clear hhi hlo
  have hc4 : ∃ u, w6.cell? ⟨g, 2 * k, none⟩ = some u := ⟨_, (hown6.cellAt (2 * k) (by omega)).trans (List.getElem?_eq_getElem (by simp; have := L0.out; omega))⟩
  have hc5 : ∃ u, w6.cell? ⟨g, 2 * k + 1, none⟩ = some u := ⟨_, (hown6.cellAt (2 * k + 1) (by omega)).trans (List.getElem?_eq_getElem (by simp; have := L0.out; omega))⟩
  obtain ⟨z4, hc4⟩ := hc4
  obtain ⟨z5, hc5⟩ := hc5
  have hf4 := hown6.frozenAt (2 * k)
  have hf5 := hown6.frozenAt (2 * k + 1)
  have HF := hide hfull
  clear hfull
  go_wp2_with fail
  have hown7 := ((hown6.stored (2 * k) (vb hi')).1.stored (2 * k + 1) (vb lo')).1
  rw [show ((c0.map vb).set (2 * k) (vb hi')).set (2 * k + 1) (vb lo') = ((c0.set (2 * k) hi').set (2 * k + 1) lo').map vb from by rw [List.map_set, List.map_set]] at hown7
  have hB7 : Below w.heap.size w ((w6.setCell ⟨g, 2 * k, none⟩ (vb hi')).setCell ⟨g, 2 * k + 1, none⟩ (vb lo')) := (hB6'.setCell (p := ⟨g, 2 * k, none⟩) hg _).setCell (p := ⟨g, 2 * k + 1, none⟩) hg _
  obtain ⟨w7, hw7⟩ : ∃ w7, (w6.setCell ⟨g, 2 * k, none⟩ (vb hi')).setCell ⟨g, 2 * k + 1, none⟩ (vb lo') = w7 := ⟨_, rfl⟩
  rw [hw7] at hown7 hB7
  rw [show ((w6.setCell ⟨g, 2 * k, none⟩ (Value.int IntKind.u8 hi')).setCell ⟨g, 2 * k + 1, none⟩ (Value.int IntKind.u8 lo')) = w7 from hw7]
  clear hw7 hc4 hc5 hf4 hf5 hown6 hB6'
  obtain ⟨c1, hc1⟩ : ∃ c1, (c0.set (2 * k) hi').set (2 * k + 1) lo' = c1 := ⟨_, rfl⟩
  have hl1 : c1.length = n := by rw [← hc1]; simp; exact L0.out
  have hb1 : ∀ x ∈ c1, x < 256 := by
    intro x hx
    rw [← hc1] at hx
    rcases List.mem_or_eq_of_mem_set hx with h | h
    · rcases List.mem_or_eq_of_mem_set h with h | h
      · exact hb0 x h
      · omega
    · omega
  rw [hc1] at hown7 HF
  clear hc1
  have L1 := hide hl1
  clear hl1
  have R := hide (fun (W : World) (h : Sl W W.heap.size (some ⟨g, 0, none⟩) n cap (c1.map vb)) => right_val _ n cap c1 true (by rw [HF.out]; rfl) hb1 (by omega) W h)
  refine (R.out _ (Sl.own' hown7)).mono ?_
  rintro e w8 ⟨rfl, hB8⟩
  have hown8 := ownsRow_below hown7 hB8
  have hB8' := hB7.trans (hB8.mono hB7.size)
  clear hB8 hown7 hB7 R e1 e2
  have hq8 : q / 8 < n := by omega
  obtain ⟨x, hx⟩ : ∃ x, c1[q / 8]? = some x := ⟨c1[q / 8]'(by rw [L1.out]; exact hq8), List.getElem?_eq_getElem _⟩
  have hx8 : x < 256 := hb1 x (List.mem_of_getElem? hx)
  have hcx : w8.cell? ⟨g, q / 8, none⟩ = some (vb x) := (hown8.cellAt (q / 8) (by omega)).trans (by simp [hx])
  have hfx := hown8.frozenAt (q / 8)
  have hturn := bit_turned c1 (q / 8) (q % 8) x (by rw [L1.out]; exact hq8) (by rw [hx]; rfl) hx8 (by omega) HF.out
  have HT := hide hturn
  clear hturn hx
  go_wp2_with fail
  have hy8 := xor_lt x (q % 8) hx8 (by omega)
  have hv : bits BinOp.xor IntKind.u8 (x : Int) (2 ^ (q % 8) % 256) = ((x ^^^ 2 ^ (q % 8) : Nat) : Int) := xor_val x (q % 8) hx8 (by omega)
  rw [hv]
  obtain ⟨y, hy⟩ : ∃ y, x ^^^ 2 ^ (q % 8) = y := ⟨_, rfl⟩
  rw [hy] at HT hy8 ⊢
  clear hv hy
  have hown9 := (hown8.stored (q / 8) (vb y)).1
  rw [show (c1.map vb).set (q / 8) (vb y) = (c1.set (q / 8) y).map vb from by rw [List.map_set]] at hown9
  have hB9 : Below w.heap.size w (w8.setCell ⟨g, q / 8, none⟩ (vb y)) := hB8'.setCell (p := ⟨g, q / 8, none⟩) hg _
  obtain ⟨w9, hw9⟩ : ∃ w9, w8.setCell ⟨g, q / 8, none⟩ (vb y) = w9 := ⟨_, rfl⟩
  rw [hw9] at hown9 hB9
  rw [show w8.setCell ⟨g, q / 8, none⟩ (Value.int IntKind.u8 y) = w9 from hw9]
  clear hw9 hcx hfx hown8 hB8'
  have hb2 : ∀ x ∈ c1.set (q / 8) y, x < 256 := by
    intro z hz
    rcases List.mem_or_eq_of_mem_set hz with h | h
    · exact hb1 z h
    · omega
  refine (right_val _ n cap (c1.set (q / 8) y) false (by simpa using HT.out) hb2 (by omega) _ (Sl.own' hown9)).mono ?_
  rintro e w10 ⟨rfl, hB10⟩
  have hB10' := hB9.trans (hB10.mono hB9.size)
  clear hB10 hown9 hB9
  go_wp2_with fail
  refine (wakes_any _).mono ?_
  rintro e w11 ⟨rfl, hB11⟩
  go_wp2_with fail
  go_ret
  exact ⟨rfl, hB10'.trans (hB11.mono hB10'.size)⟩
end Go.Proofs.Ytkanbnfiblbkpaa
