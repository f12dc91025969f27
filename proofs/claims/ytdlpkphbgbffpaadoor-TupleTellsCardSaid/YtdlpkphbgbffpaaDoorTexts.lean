/-
  The plain law of texts: two tuples have one text just if they are one; what a text is made of.
-/
import Derived.Test.YtdlpkphbgbffpaaDoorEnd
namespace Go.Proofs.YtdlpkphbgbffpaaDoor
open Go Go.RowKit Go.Shelf
/-- A digit. -/
def isD (c : UInt8) : Prop := 48 ≤ c.toNat ∧ c.toNat ≤ 57
/-- The number that digits spell. -/
def valD (l : List UInt8) : Nat := l.foldl (fun n c => n * 10 + (c.toNat - 48)) 0
theorem dig_of {i : Nat} (h : i < 10) : (UInt8.ofNat (48 + i)).toNat = 48 + i := by rw [UInt8.toNat_ofNat']; omega
theorem dec_digits : ∀ u : Nat, (∀ c ∈ Lib.decDigits u, isD c) ∧ valD (Lib.decDigits u) = u := by
  intro u
  induction u using Nat.strongRecOn with
  | _ u ih =>
    by_cases h : u < 10
    · rw [Lib.decDigits_one h]
      refine ⟨fun c hc => ?_, ?_⟩
      · rw [List.mem_singleton] at hc
        subst hc
        rw [isD, dig_of h]
        omega
      · simp [valD]; omega
    · obtain ⟨h1, h2⟩ := ih (u / 10) (by omega)
      rw [Lib.decDigits, dif_neg h]
      refine ⟨fun c hc => ?_, ?_⟩
      · rw [List.mem_append, List.mem_singleton] at hc
        rcases hc with hc | rfl
        · exact h1 c hc
        · rw [isD, dig_of (by omega)]
          omega
      · unfold valD at h2 ⊢
        rw [List.foldl_append, h2]
        simp
        omega
theorem itoa_digits {n : Int} (h : 0 ≤ n) : ∀ c ∈ Lib.itoa n, isD c := by
  obtain ⟨u, rfl⟩ := Int.eq_ofNat_of_zero_le h
  rw [Lib.itoa_nonneg]
  exact (dec_digits u).1
theorem itoa_inj {n m : Int} (h : 0 ≤ n) (k : 0 ≤ m) (e : Lib.itoa n = Lib.itoa m) : n = m := by
  obtain ⟨u, rfl⟩ := Int.eq_ofNat_of_zero_le h
  obtain ⟨v, rfl⟩ := Int.eq_ofNat_of_zero_le k
  rw [Lib.itoa_nonneg, Lib.itoa_nonneg] at e
  have h1 := (dec_digits u).2
  rw [e, (dec_digits v).2] at h1
  rw [h1]
theorem cut_eq {c d : UInt8} (hc : ¬ isD c) (hd : ¬ isD d) : ∀ {xs ys r s : List UInt8}, (∀ x ∈ xs, isD x) → (∀ y ∈ ys, isD y) → xs ++ c :: r = ys ++ d :: s → xs = ys ∧ r = s
  | [], [], r, s, _, _, e => by simp at e; exact ⟨rfl, e.2⟩
  | [], y :: ys, r, s, _, hy, e => by
    simp at e
    exact absurd (hy y (by simp)) (e.1 ▸ hc)
  | x :: xs, [], r, s, hx, _, e => by
    simp at e
    exact absurd (hx x (by simp)) (e.1 ▸ hd)
  | x :: xs, y :: ys, r, s, hx, hy, e => by
    simp at e
    obtain ⟨h1, h2⟩ := cut_eq hc hd (fun z h => hx z (by simp [h])) (fun z h => hy z (by simp [h])) e.2
    exact ⟨by rw [e.1, h1], h2⟩
theorem n46 : ¬ isD 46 := by unfold isD; decide
theorem n58 : ¬ isD 58 := by unfold isD; decide
theorem n62 : ¬ isD 62 := by unfold isD; decide
theorem endT_eq (a p : Int) (r : List UInt8) : endT a p ++ r = Lib.itoa (a / 256 ^ 3 % 256) ++ 46 :: (Lib.itoa (a / 256 ^ 2 % 256) ++ 46 :: (Lib.itoa (a / 256 ^ 1 % 256) ++ 46 :: (Lib.itoa (a / 256 ^ 0 % 256) ++ 58 :: (Lib.itoa p ++ r)))) := by
  simp [endT, octs]
theorem addr_eq {x y : Int} (x0 : 0 ≤ x) (x1 : x < 4294967296) (y0 : 0 ≤ y) (y1 : y < 4294967296) (h3 : x / 256 ^ 3 % 256 = y / 256 ^ 3 % 256) (h2 : x / 256 ^ 2 % 256 = y / 256 ^ 2 % 256) (h1 : x / 256 ^ 1 % 256 = y / 256 ^ 1 % 256) (h0 : x / 256 ^ 0 % 256 = y / 256 ^ 0 % 256) : x = y := by
  simp only [show (256 : Int) ^ 3 = 16777216 from rfl, show (256 : Int) ^ 2 = 65536 from rfl, show (256 : Int) ^ 1 = 256 from rfl, show (256 : Int) ^ 0 = 1 from rfl] at *
  omega
theorem mod256 (x : Int) : 0 ≤ x % 256 := Int.emod_nonneg _ (by decide)
theorem textT_inj {a b : Tup} (ha : a.In) (hb : b.In) : textT a = textT b ↔ a = b := by
  constructor
  · intro h
    obtain ⟨⟨a1, a2⟩, ⟨a3, a4⟩, ⟨a5, a6⟩, ⟨a7, a8⟩⟩ := ha
    obtain ⟨⟨b1, b2⟩, ⟨b3, b4⟩, ⟨b5, b6⟩, ⟨b7, b8⟩⟩ := hb
    have D : ∀ x : Int, ∀ c ∈ Lib.itoa (x % 256), isD c := fun x => itoa_digits (mod256 x)
    unfold textT at h
    rw [endT_eq, endT_eq] at h
    obtain ⟨e1, h⟩ := cut_eq n46 n46 (D _) (D _) h
    obtain ⟨e2, h⟩ := cut_eq n46 n46 (D _) (D _) h
    obtain ⟨e3, h⟩ := cut_eq n46 n46 (D _) (D _) h
    obtain ⟨e4, h⟩ := cut_eq n58 n58 (D _) (D _) h
    obtain ⟨e5, h⟩ := cut_eq n62 n62 (itoa_digits a5) (itoa_digits b5) h
    rw [← List.append_nil (endT a.dst a.dp), ← List.append_nil (endT b.dst b.dp), endT_eq, endT_eq] at h
    obtain ⟨f1, h⟩ := cut_eq n46 n46 (D _) (D _) h
    obtain ⟨f2, h⟩ := cut_eq n46 n46 (D _) (D _) h
    obtain ⟨f3, h⟩ := cut_eq n46 n46 (D _) (D _) h
    obtain ⟨f4, h⟩ := cut_eq n58 n58 (D _) (D _) h
    rw [List.append_nil, List.append_nil] at h
    have I : ∀ {x y : Int}, Lib.itoa (x % 256) = Lib.itoa (y % 256) → x % 256 = y % 256 := fun e => itoa_inj (mod256 _) (mod256 _) e
    have g1 := addr_eq a1 a2 b1 b2 (I e1) (I e2) (I e3) (I e4)
    have g2 := addr_eq a3 a4 b3 b4 (I f1) (I f2) (I f3) (I f4)
    have g3 := itoa_inj a5 b5 e5
    have g4 := itoa_inj a7 b7 h
    obtain ⟨_, _, _, _⟩ := a
    obtain ⟨_, _, _, _⟩ := b
    simp only at g1 g2 g3 g4
    subst g1 g2 g3 g4
    rfl
  · rintro rfl
    rfl
theorem count_digits {l : List UInt8} (h : ∀ c ∈ l, isD c) {d : UInt8} (hd : ¬ isD d) : l.count d = 0 := List.count_eq_zero.2 fun hm => hd (h d hm)
theorem textT_counts {a : Tup} (ha : a.In) : (textT a).count 46 = 6 ∧ (textT a).count 58 = 2 ∧ (textT a).count 62 = 1 ∧ ∀ c ∈ textT a, c = 46 ∨ c = 58 ∨ c = 62 ∨ isD c := by
  obtain ⟨⟨a1, a2⟩, ⟨a3, a4⟩, ⟨a5, a6⟩, ⟨a7, a8⟩⟩ := ha
  have D : ∀ x : Int, ∀ c ∈ Lib.itoa (x % 256), isD c := fun x => itoa_digits (mod256 x)
  have P := itoa_digits a5
  have Q := itoa_digits a7
  have e : textT a = Lib.itoa (a.src / 256 ^ 3 % 256) ++ 46 :: (Lib.itoa (a.src / 256 ^ 2 % 256) ++ 46 :: (Lib.itoa (a.src / 256 ^ 1 % 256) ++ 46 :: (Lib.itoa (a.src / 256 ^ 0 % 256) ++ 58 :: (Lib.itoa a.sp ++ 62 :: (Lib.itoa (a.dst / 256 ^ 3 % 256) ++ 46 :: (Lib.itoa (a.dst / 256 ^ 2 % 256) ++ 46 :: (Lib.itoa (a.dst / 256 ^ 1 % 256) ++ 46 :: (Lib.itoa (a.dst / 256 ^ 0 % 256) ++ 58 :: Lib.itoa a.dp)))))))) := by
    unfold textT
    rw [endT_eq]
    have := endT_eq a.dst a.dp []
    rw [List.append_nil, List.append_nil] at this
    rw [this]
  have z : ∀ {d : UInt8}, ¬ isD d → ∀ x : Int, (Lib.itoa (x % 256)).count d = 0 := fun hd x => count_digits (D x) hd
  rw [e]
  refine ⟨?_, ?_, ?_, ?_⟩
  · simp only [List.count_append, List.count_cons, z n46, count_digits P n46, count_digits Q n46]; rfl
  · simp only [List.count_append, List.count_cons, z n58, count_digits P n58, count_digits Q n58]; rfl
  · simp only [List.count_append, List.count_cons, z n62, count_digits P n62, count_digits Q n62]; rfl
  · intro c hc
    simp only [List.mem_append, List.mem_cons] at hc
    have D' := fun x => D x c
    have P' := P c
    have Q' := Q c
    grind
end Go.Proofs.YtdlpkphbgbffpaaDoor
