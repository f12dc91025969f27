/-
  The walks of Less and of both numbers.
-/
import Derived.Test.YtdlpkphbgbffpaaDoorCmp
import Derived.Laws.BitsAllLaws
namespace Go.Proofs.YtdlpkphbgbffpaaDoor
open Go Go.RowKit Go.Shelf
set_option linter.unusedSimpArgs false
set_option linter.unusedVariables false
attribute [local go_sem] Oper.semAt_some
theorem less_any (a b : Tup) (w : World) : Calls Tryd.prog 15 #[tv a, tv b] w fun e W' => e = .returned (.bool (decide (cmpT a b < 0))) ∧ Below w.heap.size w W' := by
  have c1 := hide (fun W => cmp_any a b W)
  obtain ⟨x1, h1⟩ : ∃ x, cmpT a b = x := ⟨_, rfl⟩
  rw [h1] at c1
  rw [h1]
  clear h1
  go_enter Tryd.func15, Tryd.ntmps15
  go_wp2_with fail
  refine (c1.out _).mono ?_
  rintro e w1 ⟨rfl, hB1⟩
  go_wp2
  go_ret
  exact ⟨rfl, ((((Below.refl _ w).alloc (Nat.le_refl _) _).alloc (by simp) _).trans (hB1.mono (by simp; omega)))⟩
abbrev vb (x : Int) : Value := .int .u8 x
/-- The number that bytes spell, the first the highest. -/
def numL (n : Int) : List Int → Int
  | [] => n
  | x :: l => numL (n * 256 + x) l
theorem pow256 : ∀ k, k < 5 → (256 : Int) ^ k ≤ 4294967296 := by decide
theorem refNumber_any (A : Option Addr) (n c B : Nat) (l : List Int) (w : World) (hs : Sl w B A n c (l.map vb)) (h4 : n ≤ 4) (hl : ∀ x ∈ l, 0 ≤ x ∧ x < 256) : Calls Tryd.prog 26 #[.slice A n c] w fun e w' => e = .returned (vi (numL 0 l)) ∧ w = w' := by
  have hlen : l.length = n := by simpa using hs.1
  have HL := hide hlen
  clear hlen
  go_enter Tryd.func26, Tryd.ntmps26
  go_wp2
  go_loop [3, 4] (fun v i => ∃ (k : Nat) (m : Int), k ≤ n ∧ i = .int .i64 k ∧ v = .int .i64 m ∧ 0 ≤ m ∧ m < 256 ^ k ∧ numL 0 l = numL m (l.drop k)) (fun v i => n - (intOf i).toNat)
  case atStart => exact ⟨0, 0, Nat.zero_le _, rfl, rfl, by omega, by decide, rfl⟩
  case round =>
    obtain ⟨k, m, hk, rfl, rfl, hm0, hm1, hor⟩ := hrel
    have HO := hide hor
    clear hor
    have hm2 : m ≤ 4294967296 := by
      have h1 := pow256 k (by omega)
      omega
    by_cases hlt : k < n
    · obtain ⟨b, off, rfl, hb, hc⟩ := hs.at_ (by omega)
      obtain ⟨x, hx⟩ : ∃ x, l[k]? = some x := ⟨l[k]'(by rw [HL.out]; exact hlt), List.getElem?_eq_getElem _⟩
      have cx := hc k (vb x) (by simp [hx])
      have hxr := hl x (List.mem_of_getElem? hx)
      have hd : l.drop k = x :: l.drop (k + 1) := by
        obtain ⟨h1, h2⟩ := List.getElem?_eq_some_iff.1 hx
        rw [← h2]; exact List.drop_eq_getElem_cons h1
      have HD := hide hd
      have hm3 : m * 256 + x < 256 ^ (k + 1) := by rw [Int.pow_succ]; omega
      have HM := hide hm3
      clear hc hx hd hm3
      go_wp2
      go_round
      case rel => exact ⟨k + 1, m * 256 + x, by omega, by go_num, by go_num, by omega, HM.out, by rw [HO.out, HD.out]; rfl⟩
      case measure => simp [intOf]; omega
    · obtain rfl : k = n := by omega
      go_wp2
      go_ret
      exact ⟨ret_int (by rw [HO.out, List.drop_eq_nil_of_le (by rw [HL.out]; omega)]; rfl), rfl⟩
theorem number_any (A : Option Addr) (n c B : Nat) (l : List Int) (w : World) (hs : Sl w B A n c (l.map vb)) (h4 : n ≤ 4) (hl : ∀ x ∈ l, 0 ≤ x ∧ x < 256) : Calls Tryd.prog 25 #[.slice A n c] w fun e w' => e = .returned (.int .u32 (numL 0 l)) ∧ w = w' := by
  have hlen : l.length = n := by simpa using hs.1
  have HL := hide hlen
  clear hlen
  go_enter Tryd.func25, Tryd.ntmps25
  go_wp2
  go_loop [2, 4, 7] (fun v z i => ∃ (k : Nat) (m : Int), k ≤ n ∧ i = .int .i64 k ∧ v = .int .u32 m ∧ 0 ≤ m ∧ m < 256 ^ k ∧ numL 0 l = numL m (l.drop k)) (fun v z i => n - (intOf i).toNat)
  case atStart => exact ⟨0, 0, Nat.zero_le _, rfl, rfl, by omega, by decide, rfl⟩
  case round =>
    obtain ⟨k, m, hk, rfl, rfl, hm0, hm1, hor⟩ := hrel
    have HO := hide hor
    clear hor
    have hm2 : m ≤ 4294967296 := by
      have h1 := pow256 k (by omega)
      omega
    by_cases hlt : k < n
    · obtain ⟨b, off, rfl, hb, hc⟩ := hs.at_ (by omega)
      obtain ⟨x, hx⟩ : ∃ x, l[k]? = some x := ⟨l[k]'(by rw [HL.out]; exact hlt), List.getElem?_eq_getElem _⟩
      have cx := hc k (vb x) (by simp [hx])
      have hxr := hl x (List.mem_of_getElem? hx)
      have hd : l.drop k = x :: l.drop (k + 1) := by
        obtain ⟨h1, h2⟩ := List.getElem?_eq_some_iff.1 hx
        rw [← h2]; exact List.drop_eq_getElem_cons h1
      have HD := hide hd
      have hm3 : m * 256 + x < 256 ^ (k + 1) := by rw [Int.pow_succ]; omega
      have HM := hide hm3
      have hm4 : m * 256 < 4294967296 := by
        have h1 := pow256 (k + 1) (by omega)
        omega
      have es : IntKind.u32.wrap (m * 2 ^ (8 : Int).toNat) = m * 256 := by
        rw [IntKind.wrap_u32']
        show m * 256 % _ = _
        omega
      have eo : bits .or .u32 (m * 256) x = m * 256 + x := by
        rw [u32_or _ _ (by omega) (by omega) (by omega) (by omega), nat_join 8 _ _ (by omega) (by omega)]
        omega
      have ex : IntKind.u32.wrap x = x := by rw [IntKind.wrap_u32']; omega
      clear hc hx hd hm3
      go_wp2
      go_round
      case rel => exact ⟨k + 1, m * 256 + x, by omega, by go_num, by go_num, by omega, HM.out, by rw [HO.out, HD.out]; rfl⟩
      case measure => simp [intOf]; omega
    · obtain rfl : k = n := by omega
      go_wp2
      go_ret
      exact ⟨ret_int (by rw [HO.out, List.drop_eq_nil_of_le (by rw [HL.out]; omega)]; rfl), rfl⟩
end Go.Proofs.YtdlpkphbgbffpaaDoor
