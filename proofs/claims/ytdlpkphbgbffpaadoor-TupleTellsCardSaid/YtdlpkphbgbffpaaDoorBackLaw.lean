/-
  The plain law: what is taken of a tuple's bytes is the tuple, and bytes that are taken are the tuple's bytes.
-/
import Derived.Test.YtdlpkphbgbffpaaDoorOrd
namespace Go.Proofs.YtdlpkphbgbffpaaDoor
open Go Go.RowKit Go.Shelf
theorem numL_append : ∀ (l m : List Int) (n : Int), numL n (l ++ m) = numL (numL n l) m
  | [], _, _ => rfl
  | x :: l, m, n => by rw [List.cons_append, numL, numL, numL_append l m]
theorem numL_bytesL (x : Int) : ∀ (k : Nat) (n : Int), numL n (bytesL x k) = n * 256 ^ k + x % 256 ^ k
  | 0, n => by simp [bytesL, numL]
  | k + 1, n => by
    rw [bytesL, numL, numL_bytesL x k, mod_split, Int.pow_succ]
    generalize (256 : Int) ^ k = p
    generalize x / p % 256 = d
    rw [Int.add_mul, Int.mul_assoc, Int.mul_comm 256 p, Int.add_assoc]
theorem take_bytes {a : Tup} (ha : a.In) : takeT (bytesT a) = (a, 0) := by
  obtain ⟨⟨a1, a2⟩, ⟨a3, a4⟩, ⟨a5, a6⟩, ⟨a7, a8⟩⟩ := ha
  have hl := bytesT_length a
  have l4 := fun x => bytesL_length x 4
  have l2 := fun x => bytesL_length x 2
  unfold takeT
  rw [hl, if_neg (by omega), if_neg (by omega)]
  have e1 : (bytesT a).take 4 = bytesL a.src 4 := by rw [bytesT_eq, List.take_left' (l4 _)]
  have e2 : ((bytesT a).drop 4).take 4 = bytesL a.dst 4 := by rw [bytesT_eq, List.drop_left' (l4 _), List.take_left' (l4 _)]
  have e3 : ((bytesT a).drop 8).take 2 = bytesL a.sp 2 := by
    rw [bytesT_eq, show (8 : Nat) = 4 + 4 from rfl, ← List.drop_drop, List.drop_left' (l4 _), List.drop_left' (l4 _), List.take_left' (l2 _)]
  have e4 : (bytesT a).drop 10 = bytesL a.dp 2 := by
    rw [bytesT_eq, show (10 : Nat) = 4 + (4 + 2) from rfl, ← List.drop_drop, ← List.drop_drop, List.drop_left' (l4 _), List.drop_left' (l4 _), List.drop_left' (l2 _), List.append_nil]
  rw [e1, e2, e3, e4, numL_bytesL, numL_bytesL, numL_bytesL, numL_bytesL, mod4 a1 a2, mod4 a3 a4, mod2 a5 a6, mod2 a7 a8]
  simp
theorem bytesL_num4 {a b c d : Int} (ha : 0 ≤ a ∧ a < 256) (hb : 0 ≤ b ∧ b < 256) (hc : 0 ≤ c ∧ c < 256) (hd : 0 ≤ d ∧ d < 256) : bytesL (numL 0 [a, b, c, d]) 4 = [a, b, c, d] := by
  simp only [numL, bytesL, show (256 : Int) ^ 3 = 16777216 from rfl, show (256 : Int) ^ 2 = 65536 from rfl, show (256 : Int) ^ 1 = 256 from rfl, show (256 : Int) ^ 0 = 1 from rfl, List.cons.injEq, and_true]
  omega
theorem bytesL_num2 {a b : Int} (ha : 0 ≤ a ∧ a < 256) (hb : 0 ≤ b ∧ b < 256) : bytesL (numL 0 [a, b]) 2 = [a, b] := by
  simp only [numL, bytesL, show (256 : Int) ^ 1 = 256 from rfl, show (256 : Int) ^ 0 = 1 from rfl, List.cons.injEq, and_true]
  omega
theorem num4_in {a b c d : Int} (ha : 0 ≤ a ∧ a < 256) (hb : 0 ≤ b ∧ b < 256) (hc : 0 ≤ c ∧ c < 256) (hd : 0 ≤ d ∧ d < 256) : 0 ≤ numL 0 [a, b, c, d] ∧ numL 0 [a, b, c, d] < 4294967296 := by
  simp only [numL]
  omega
theorem num2_in' {a b : Int} (ha : 0 ≤ a ∧ a < 256) (hb : 0 ≤ b ∧ b < 256) : 0 ≤ numL 0 [a, b] ∧ numL 0 [a, b] < 65536 := by
  simp only [numL]
  omega
theorem bytes_take {bs : List Int} (hb : isB8 bs) (hl : bs.length = 12) : (takeT bs).2 = 0 ∧ (takeT bs).1.In ∧ bytesT (takeT bs).1 = bs := by
  match bs, hl with
  | [b0, b1, b2, b3, b4, b5, b6, b7, b8, b9, b10, b11], _ =>
    have h := fun x hx => hb x hx
    have h0 := h b0 (by simp)
    have h1 := h b1 (by simp)
    have h2 := h b2 (by simp)
    have h3 := h b3 (by simp)
    have h4 := h b4 (by simp)
    have h5 := h b5 (by simp)
    have h6 := h b6 (by simp)
    have h7 := h b7 (by simp)
    have h8 := h b8 (by simp)
    have h9 := h b9 (by simp)
    have h10 := h b10 (by simp)
    have h11 := h b11 (by simp)
    have e : takeT [b0, b1, b2, b3, b4, b5, b6, b7, b8, b9, b10, b11] = (⟨numL 0 [b0, b1, b2, b3], numL 0 [b4, b5, b6, b7], numL 0 [b8, b9], numL 0 [b10, b11]⟩, 0) := by
      unfold takeT
      rw [if_neg (by simp), if_neg (by simp)]
      rfl
    rw [e]
    refine ⟨rfl, ⟨num4_in h0 h1 h2 h3, num4_in h4 h5 h6 h7, num2_in' h8 h9, num2_in' h10 h11⟩, ?_⟩
    rw [bytesT_eq]
    simp only [bytesL_num4 h0 h1 h2 h3, bytesL_num4 h4 h5 h6 h7, bytesL_num2 h8 h9, bytesL_num2 h10 h11]
    rfl
theorem take_less {bs : List Int} (h : bs.length < 12) : takeT bs = (zeroT, 61) := by unfold takeT; rw [if_pos h]
theorem take_more {bs : List Int} (h : 12 < bs.length) : takeT bs = (zeroT, 60) := by unfold takeT; rw [if_neg (by omega), if_pos h]
end Go.Proofs.YtdlpkphbgbffpaaDoor
