/-
  The plain law of order: tuples are ordered as their bytes are.
-/
import Derived.Test.YtdlpkphbgbffpaaDoorWakes
namespace Go.Proofs.YtdlpkphbgbffpaaDoor
open Go Go.RowKit Go.Shelf
/-- One row of numbers stands ahead of another. -/
def blt : List Int → List Int → Bool
  | _, [] => false
  | [], _ :: _ => true
  | a :: x, b :: y => decide (a < b) || (decide (a = b) && blt x y)
theorem pow256_pos (k : Nat) : (0 : Int) < 256 ^ k := Int.pow_pos (by decide)
theorem mod_split (x : Int) (k : Nat) : x % 256 ^ (k + 1) = x / 256 ^ k % 256 * 256 ^ k + x % 256 ^ k := by
  have hp := pow256_pos k
  have h1 : x = 256 ^ k * (x / 256 ^ k) + x % 256 ^ k := (Int.mul_ediv_add_emod x (256 ^ k)).symm
  have h2 : x / 256 ^ k = 256 * (x / 256 ^ k / 256) + x / 256 ^ k % 256 := (Int.mul_ediv_add_emod _ 256).symm
  have h3 : 0 ≤ x % 256 ^ k := Int.emod_nonneg _ (by omega)
  have h4 : x % 256 ^ k < 256 ^ k := Int.emod_lt_of_pos _ hp
  generalize x / 256 ^ k = q at *
  generalize x % 256 ^ k = r at *
  generalize q / 256 = u at *
  have h5 : 0 ≤ q % 256 := Int.emod_nonneg _ (by decide)
  have h6 : q % 256 < 256 := Int.emod_lt_of_pos _ (by decide)
  generalize q % 256 = d at *
  subst h1 h2
  rw [Int.pow_succ]
  generalize (256 : Int) ^ k = p at *
  have e : p * (256 * u + d) + r = (d * p + r) + (p * 256) * u := by
    rw [Int.mul_add, Int.mul_comm p d, ← Int.mul_assoc]; omega
  rw [e, Int.add_mul_emod_self_left]
  refine Int.emod_eq_of_lt (Int.add_nonneg (Int.mul_nonneg h5 (by omega)) h3) ?_
  have h7 : d * p ≤ 255 * p := Int.mul_le_mul_of_nonneg_right (by omega) (by omega)
  omega
theorem digit_lt {p d e r s : Int} (hp : 0 < p) (r0 : 0 ≤ r) (r1 : r < p) (s0 : 0 ≤ s) (s1 : s < p) : d * p + r < e * p + s ↔ d < e ∨ d = e ∧ r < s := by
  constructor
  · intro h
    rcases Int.lt_trichotomy d e with h1 | h1 | h1
    · exact .inl h1
    · subst h1
      exact .inr ⟨rfl, by omega⟩
    · have : (e + 1) * p ≤ d * p := Int.mul_le_mul_of_nonneg_right (by omega) (by omega)
      rw [Int.add_mul] at this
      omega
  · rintro (h | ⟨rfl, h⟩)
    · have : (d + 1) * p ≤ e * p := Int.mul_le_mul_of_nonneg_right (by omega) (by omega)
      rw [Int.add_mul] at this
      omega
    · omega
theorem digit_eq {p d e r s : Int} (hp : 0 < p) (r0 : 0 ≤ r) (r1 : r < p) (s0 : 0 ≤ s) (s1 : s < p) : d * p + r = e * p + s ↔ d = e ∧ r = s := by
  have h1 := digit_lt (d := d) (e := e) hp r0 r1 s0 s1
  have h2 := digit_lt (d := e) (e := d) hp s0 s1 r0 r1
  constructor
  · intro h
    omega
  · rintro ⟨rfl, rfl⟩
    rfl
theorem blt_bytesL (x y : Int) : ∀ (k : Nat) (r s : List Int), blt (bytesL x k ++ r) (bytesL y k ++ s) = (decide (x % 256 ^ k < y % 256 ^ k) || (decide (x % 256 ^ k = y % 256 ^ k) && blt r s))
  | 0, r, s => by simp [bytesL]
  | k + 1, r, s => by
    have hp := pow256_pos k
    have a0 : 0 ≤ x % 256 ^ k := Int.emod_nonneg _ (by omega)
    have a1 : x % 256 ^ k < 256 ^ k := Int.emod_lt_of_pos _ hp
    have b0 : 0 ≤ y % 256 ^ k := Int.emod_nonneg _ (by omega)
    have b1 : y % 256 ^ k < 256 ^ k := Int.emod_lt_of_pos _ hp
    have hl := digit_lt (d := x / 256 ^ k % 256) (e := y / 256 ^ k % 256) hp a0 a1 b0 b1
    have he := digit_eq (d := x / 256 ^ k % 256) (e := y / 256 ^ k % 256) hp a0 a1 b0 b1
    rw [← mod_split, ← mod_split] at hl he
    simp only [bytesL, List.cons_append, blt]
    rw [blt_bytesL x y k r s, Bool.eq_iff_iff]
    simp only [Bool.or_eq_true, Bool.and_eq_true, decide_eq_true_eq, hl, he]
    grind
theorem mod4 {x : Int} (h0 : 0 ≤ x) (h1 : x < 4294967296) : x % 256 ^ 4 = x := Int.emod_eq_of_lt h0 h1
theorem mod2 {x : Int} (h0 : 0 ≤ x) (h1 : x < 65536) : x % 256 ^ 2 = x := Int.emod_eq_of_lt h0 h1
theorem bytesT_eq (t : Tup) : bytesT t = bytesL t.src 4 ++ (bytesL t.dst 4 ++ (bytesL t.sp 2 ++ (bytesL t.dp 2 ++ []))) := rfl
instance (a b : Tup) : Decidable (ltT a b) := by unfold ltT; infer_instance
theorem blt_bytesT {a b : Tup} (ha : a.In) (hb : b.In) : blt (bytesT a) (bytesT b) = decide (ltT a b) := by
  obtain ⟨⟨a1, a2⟩, ⟨a3, a4⟩, ⟨a5, a6⟩, ⟨a7, a8⟩⟩ := ha
  obtain ⟨⟨b1, b2⟩, ⟨b3, b4⟩, ⟨b5, b6⟩, ⟨b7, b8⟩⟩ := hb
  rw [bytesT_eq, bytesT_eq, blt_bytesL, blt_bytesL, blt_bytesL, blt_bytesL, mod4 a1 a2, mod4 b1 b2, mod4 a3 a4, mod4 b3 b4, mod2 a5 a6, mod2 b5 b6, mod2 a7 a8, mod2 b7 b8]
  rw [Bool.eq_iff_iff, decide_eq_true_iff]
  simp only [ltT, blt, Bool.and_false, Bool.or_false, Bool.or_eq_true, Bool.and_eq_true, decide_eq_true_eq]
theorem blt_irrefl : ∀ l : List Int, blt l l = false
  | [] => rfl
  | x :: l => by simp [blt, blt_irrefl l]
theorem bytesT_inj {a b : Tup} (ha : a.In) (hb : b.In) : bytesT a = bytesT b ↔ a = b := by
  constructor
  · intro h
    have h1 := blt_bytesT ha hb
    have h2 := blt_bytesT hb ha
    rw [h, blt_irrefl] at h1 h2
    exact parts_all a b ((ltOf_false a b).2 (by simpa using h1.symm)) ((ltOf_false b a).2 (by simpa using h2.symm))
  · rintro rfl
    rfl
/-! ### The strings -/
theorem str_list (xs : List Int) : (strOfNums xs).toList = xs.map fun n => UInt8.ofNat n.toNat := by
  rw [ByteArray.toList_eq]
  rfl
theorem u8_lt {a b : Int} (a0 : 0 ≤ a) (a1 : a < 256) (b0 : 0 ≤ b) (b1 : b < 256) : (UInt8.ofNat a.toNat < UInt8.ofNat b.toNat) ↔ a < b := by
  rw [UInt8.lt_iff_toNat_lt, UInt8.toNat_ofNat', UInt8.toNat_ofNat']
  omega
theorem u8_eq {a b : Int} (a0 : 0 ≤ a) (a1 : a < 256) (b0 : 0 ≤ b) (b1 : b < 256) : (UInt8.ofNat a.toNat = UInt8.ofNat b.toNat) ↔ a = b := by
  rw [← UInt8.toNat_inj, UInt8.toNat_ofNat', UInt8.toNat_ofNat']
  omega
theorem bytesLess_map : ∀ (xs ys : List Int), isB8 xs → isB8 ys → Op.bytesLess (xs.map fun n => UInt8.ofNat n.toNat) (ys.map fun n => UInt8.ofNat n.toNat) = blt xs ys
  | xs, [], _, _ => by cases xs <;> rfl
  | [], y :: ys, _, _ => rfl
  | x :: xs, y :: ys, hx, hy => by
    obtain ⟨x0, x1⟩ := hx x (by simp)
    obtain ⟨y0, y1⟩ := hy y (by simp)
    have ih := bytesLess_map xs ys (fun z h => hx z (by simp [h])) (fun z h => hy z (by simp [h]))
    simp only [List.map_cons, Op.bytesLess, blt, ih]
    have h1 := u8_lt x0 x1 y0 y1
    have h2 := u8_eq x0 x1 y0 y1
    have e : (UInt8.ofNat x.toNat == UInt8.ofNat y.toNat) = decide (x = y) := by
      rw [Bool.eq_iff_iff, beq_iff_eq, decide_eq_true_eq, h2]
    rw [e, decide_eq_decide.2 h1]
theorem map_inj_b8 : ∀ (xs ys : List Int), isB8 xs → isB8 ys → ((xs.map fun n => UInt8.ofNat n.toNat) = (ys.map fun n => UInt8.ofNat n.toNat) ↔ xs = ys)
  | [], [], _, _ => by simp
  | [], _ :: _, _, _ => by simp
  | _ :: _, [], _, _ => by simp
  | x :: xs, y :: ys, hx, hy => by
    obtain ⟨x0, x1⟩ := hx x (by simp)
    obtain ⟨y0, y1⟩ := hy y (by simp)
    have ih := map_inj_b8 xs ys (fun z h => hx z (by simp [h])) (fun z h => hy z (by simp [h]))
    simp only [List.map_cons, List.cons.injEq, ih, u8_eq x0 x1 y0 y1]
theorem str_less {xs ys : List Int} (hx : isB8 xs) (hy : isB8 ys) : Op.bytesLess (strOfNums xs).toList (strOfNums ys).toList = blt xs ys := by rw [str_list, str_list, bytesLess_map xs ys hx hy]
theorem str_eq {xs ys : List Int} (hx : isB8 xs) (hy : isB8 ys) : ((strOfNums xs).toList == (strOfNums ys).toList) = decide (xs = ys) := by
  rw [str_list, str_list, Bool.eq_iff_iff, beq_iff_eq, decide_eq_true_eq, map_inj_b8 xs ys hx hy]
/-! ### cmpT -/
theorem cmpI_neg (a b : Int) : cmpI b a = -cmpI a b := by unfold cmpI; split <;> split <;> (try split) <;> omega
theorem cmpI_cases (a b : Int) : (cmpI a b = -1 ∧ a < b) ∨ (cmpI a b = 0 ∧ a = b) ∨ (cmpI a b = 1 ∧ b < a) := by unfold cmpI; split <;> (try split) <;> omega
theorem cmpT_cases (a b : Tup) : (cmpT a b = -1 ∧ ltT a b ∧ cmpT b a = 1) ∨ (cmpT a b = 0 ∧ a = b ∧ cmpT b a = 0) ∨ (cmpT a b = 1 ∧ ltT b a ∧ cmpT b a = -1) := by
  obtain ⟨a1, a2, a3, a4⟩ := a
  obtain ⟨b1, b2, b3, b4⟩ := b
  simp only [cmpT, orL, ltT, Tup.mk.injEq, cmpI_neg a1 b1, cmpI_neg a2 b2, cmpI_neg a3 b3, cmpI_neg a4 b4]
  have h1 := cmpI_cases a1 b1
  have h2 := cmpI_cases a2 b2
  have h3 := cmpI_cases a3 b3
  have h4 := cmpI_cases a4 b4
  rcases h1 with ⟨e1, h1⟩ | ⟨e1, h1⟩ | ⟨e1, h1⟩ <;> rw [e1]
  · simp; omega
  · simp only [if_true, Int.neg_zero]
    rcases h2 with ⟨e2, h2⟩ | ⟨e2, h2⟩ | ⟨e2, h2⟩ <;> rw [e2]
    · simp; omega
    · simp only [if_true, Int.neg_zero]
      rcases h3 with ⟨e3, h3⟩ | ⟨e3, h3⟩ | ⟨e3, h3⟩ <;> rw [e3]
      · simp; omega
      · simp only [if_true, Int.neg_zero]
        rcases h4 with ⟨e4, h4⟩ | ⟨e4, h4⟩ | ⟨e4, h4⟩ <;> rw [e4] <;> simp <;> omega
      · simp; omega
    · simp; omega
  · simp; omega
theorem ltT_trans {a b c : Tup} (h : ltT a b) (k : ltT b c) : ltT a c := by unfold ltT at *; omega
theorem backT_backT (a : Tup) : backT (backT a) = a := rfl
end Go.Proofs.YtdlpkphbgbffpaaDoor
