/-
  The walk of the document's example.
-/
import Derived.Test.YtkanbnfiblbkpaaSums
namespace Go.Proofs.Ytkanbnfiblbkpaa
open Go Go.RowKit Go.Shelf

theorem fold_val (A : Option Addr) (n c B : Nat) (l : List Nat) (v : Int) (hv : ((can l.sum : Nat) : Int) = v) (hl : ∀ x ∈ l, x < 65536) (hn : n ≤ 1000000) (w : World) (hs : Sl w B A n c (l.map vw)) :
    Calls Try.prog 10 #[.slice A n c] w fun e w' => e = .returned (.int .u16 v) ∧ w = w' := hv ▸ fold_any A n c B l hl hn w hs
theorem sum_val (A : Option Addr) (n c : Nat) (bs : List Nat) (v : Int) (hv : ((can (wsum bs) : Nat) : Int) = v) (hbs : ∀ x ∈ bs, x < 256) (hn : n ≤ 1000000) (w : World) (hs : Sl w w.heap.size A n c (bs.map vb)) :
    Calls Try.prog 13 #[.slice A n c] w fun e W' => e = .returned (.int .u16 v) ∧ Below w.heap.size w W' := hv ▸ sum_any A n c bs hbs hn w hs
theorem check_val (A : Option Addr) (n c : Nat) (bs : List Nat) (v : Int) (hv : ((65535 - can (wsum bs) : Nat) : Int) = v) (hbs : ∀ x ∈ bs, x < 256) (hn : n ≤ 1000000) (w : World) (hs : Sl w w.heap.size A n c (bs.map vb)) :
    Calls Try.prog 8 #[.slice A n c] w fun e W' => e = .returned (.int .u16 v) ∧ Below w.heap.size w W' := hv ▸ check_any A n c bs hbs hn w hs
theorem right_val (A : Option Addr) (n c : Nat) (bs : List Nat) (v : Bool) (hv : decide (can (wsum bs) = 65535) = v) (hbs : ∀ x ∈ bs, x < 256) (hn : n ≤ 1000000) (w : World) (hs : Sl w w.heap.size A n c (bs.map vb)) :
    Calls Try.prog 9 #[.slice A n c] w fun e W' => e = .returned (.bool v) ∧ Below w.heap.size w W' := hv ▸ right_any A n c bs hbs hn w hs
theorem change_val (check old now v : Int) (c o m : Nat) (e1 : (c : Int) = check) (e2 : (o : Int) = old) (e3 : (m : Int) = now) (hv : ((65535 - can ((65535 - c) + (65535 - o) + m) : Nat) : Int) = v) (hc : c < 65536) (ho : o < 65536) (hn : m < 65536) (w : World) :
    Calls Try.prog 11 #[.int .u16 check, .int .u16 old, .int .u16 now] w fun e W' => e = .returned (.int .u16 v) ∧ Below w.heap.size w W' := by
  subst e1 e2 e3 hv
  exact change_any c o m hc ho hn w

def b8 : List Nat := [0, 1, 242, 3, 244, 245, 246, 247]

/-- The world behind the literal of eight bytes. -/
def w8 (w : World) : World := w.alloc (.cells #[.int .u8 0, .int .u8 1, .int .u8 242, .int .u8 3, .int .u8 244, .int .u8 245, .int .u8 246, .int .u8 247] 5)
theorem w8_size (w : World) : (w8 w).heap.size = w.heap.size + 1 := World.size_alloc _ _

theorem b8_later {w w' : World} (hB : Below (w.heap.size + 1) (w8 w) w') : Sl w' w'.heap.size (some ⟨w.heap.size, 0, none⟩) 8 8 (b8.map vb) := by
  have h := Sl.made' w w.heap.size 8 [.int .u8 0, .int .u8 1, .int .u8 242, .int .u8 3, .int .u8 244, .int .u8 245, .int .u8 246, .int .u8 247] 5 rfl rfl (by simp [maxLen])
  exact (Sl.below (vs := b8.map vb) h hB).more (by have := hB.size; rw [w8_size] at this; exact this)

set_option maxHeartbeats 4000000 in
theorem wakes_any (w : World) : Calls Try.prog 7 #[] w fun e W' => e = .returned (.bool true) ∧ Below w.heap.size w W' := by
  go_enter Try.func7, Try.ntmps7
  go_wp2_with fail
  refine (fold_val _ 2 2 (w.heap.size + 1 + 1) [65535, 1] 1 (by decide) (by decide) (by omega) _ ?h1).mono ?_
  case h1 => exact Sl.made' _ _ _ [vw 65535, vw 1] 24 (by simp) rfl (by simp [maxLen])
  rintro e w1 ⟨rfl, rfl⟩
  go_wp2_with fail
  refine (fold_val _ 0 0 0 [] 0 (by decide) (by decide) (by omega) _ ?h2).mono ?_
  case h2 => exact Sl.nil _ _
  rintro e w1 ⟨rfl, rfl⟩
  go_wp2_with fail
  refine (sum_val _ 8 8 b8 56818 (by decide) (by decide) (by omega) _ ?h3).mono ?_
  case h3 => exact b8_later ((Below.refl (w.heap.size + 1) (w8 w)).alloc (by rw [w8_size]; omega) _)
  rintro e w2 ⟨rfl, hB⟩
  have hB2 : Below (w.heap.size + 1) (w8 w) w2 := ((Below.refl (w.heap.size + 1) (w8 w)).alloc (by rw [w8_size]; omega) _).trans (hB.mono (by simp))
  clear hB
  go_wp2_with fail
  refine (check_val _ 8 8 b8 8717 (by decide) (by decide) (by omega) _ ?h4).mono ?_
  case h4 => exact b8_later hB2
  rintro e w3 ⟨rfl, hB⟩
  have hB3 := hB2.trans (hB.mono (by have := hB2.size; rw [w8_size] at this; exact this))
  clear hB hB2
  go_wp2_with fail
  refine (right_val _ 8 8 b8 false (by decide) (by decide) (by omega) _ ?h5).mono ?_
  case h5 => exact b8_later hB3
  rintro e w4 ⟨rfl, hB⟩
  have hB4 := hB3.trans (hB.mono (by have := hB3.size; rw [w8_size] at this; exact this))
  clear hB hB3
  go_wp2_with fail
  refine (right_val _ 4 4 [18, 52, 237, 203] true (by decide) (by decide) (by omega) _ ?h6).mono ?_
  case h6 => exact (Sl.made' _ _ _ [vb 18, vb 52, vb 237, vb 203] 5 rfl rfl (by simp [maxLen])).more (by simp)
  rintro e w5 ⟨rfl, hB⟩
  have hz4 := hB4.size
  rw [w8_size] at hz4
  have hB5 : Below (w.heap.size + 1) (w8 w) w5 := (hB4.alloc hz4 _).trans (hB.mono (by simp; omega))
  clear hB hB4
  go_wp2_with fail
  refine (Words_any _ 3 3 [1, 2, 3] (by decide) (by omega) _ ?h7).mono ?_
  case h7 => exact (Sl.made' _ _ _ [vb 1, vb 2, vb 3] 5 rfl rfl (by simp [maxLen])).more (by simp)
  rintro e w6 ⟨⟨A6, c6, rfl, hs6⟩, hB⟩
  have hz5 := hB5.size
  rw [w8_size] at hz5
  have hB6 : Below (w.heap.size + 1) (w8 w) w6 := (hB5.alloc hz5 _).trans (hB.mono (by simp; omega))
  clear hB hB5
  go_wp2_with fail
  have hz6 := hB6.size
  rw [w8_size] at hz6
  refine (same_eq _ _ 2 c6 2 w6.heap.size (w6.heap.size + 1) [258, 768] _ ?h8 ?h9).mono ?_
  case h8 => exact hs6.alloc (Nat.le_refl _) _
  case h9 => exact Sl.made' _ _ _ [vw 258, vw 768] 24 rfl rfl (by simp [maxLen])
  rintro e w7 ⟨rfl, k, rfl⟩
  have hB7 : Below (w.heap.size + 1) (w8 w) ((w6.alloc (Obj.cells #[Value.int IntKind.u16 258, Value.int IntKind.u16 768] 24)).drewN k) := below_drewN (hB6.alloc hz6 _) k
  clear hB6
  go_wp2_with fail
  refine (change_val 8717 61955 61956 8716 8717 61955 61956 rfl rfl rfl (by decide) (by decide) (by decide) (by decide) _).mono ?_
  rintro e w8' ⟨rfl, hB⟩
  have hB8 : Below (w.heap.size + 1) (w8 w) w8' := hB7.trans (hB.mono (by simp; omega))
  clear hB hB7
  go_wp2_with fail
  go_ret
  exact ⟨rfl, ((Below.refl _ _).alloc (Nat.le_refl _) _).trans (hB8.mono (by omega))⟩
end Go.Proofs.Ytkanbnfiblbkpaa
