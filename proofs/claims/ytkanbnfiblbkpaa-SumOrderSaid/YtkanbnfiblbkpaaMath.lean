/-
  The plain arithmetic of sums: no program in sight. 'can s' is what folding the carries of s comes to.
-/
namespace Go.Proofs.Ytkanbnfiblbkpaa

/-- What carrying round comes to. -/
def can (s : Nat) : Nat := if s = 0 then 0 else (s - 1) % 65535 + 1

theorem can_lt (s : Nat) : can s < 65536 := by unfold can; split <;> omega
theorem can_zero : can 0 = 0 := rfl
theorem can_small (s : Nat) (h : s < 65536) : can s = s := by unfold can; split <;> omega
theorem can_fold (s : Nat) (h : 65536 ≤ s) : can (s % 65536 + s / 65536) = can s := by
  unfold can
  rw [if_neg (by omega), if_neg (by omega)]
  omega
theorem can_eq_zero (s : Nat) : can s = 0 ↔ s = 0 := by unfold can; split <;> omega
theorem can_add (a b : Nat) : can (can a + b) = can (a + b) := by
  unfold can
  repeat' split
  all_goals omega
theorem can_full (s : Nat) : can s = 65535 ↔ 0 < s ∧ s % 65535 = 0 := by
  unfold can
  split <;> omega

/-- The words of bytes. -/
def wordsOf : List Nat → List Nat
  | a :: b :: r => (256 * a + b) :: wordsOf r
  | [a] => [256 * a]
  | [] => []

theorem wordsOf_length : ∀ bs : List Nat, (wordsOf bs).length = (bs.length + 1) / 2
  | [] => rfl
  | [_] => by simp [wordsOf]
  | a :: b :: r => by
    simp only [wordsOf, List.length_cons, wordsOf_length r]
    omega

theorem wordsOf_get : ∀ (bs : List Nat) (i : Nat), i < (bs.length + 1) / 2 → (wordsOf bs)[i]?.getD 0 = 256 * bs[2 * i]?.getD 0 + bs[2 * i + 1]?.getD 0
  | [], i, h => by simp at h
  | [a], i, h => by
    have : i = 0 := by simp at h; omega
    subst this
    simp [wordsOf]
  | a :: b :: r, 0, _ => by simp [wordsOf]
  | a :: b :: r, i + 1, h => by
    have := wordsOf_get r i (by simp at h; omega)
    simp only [wordsOf, List.getElem?_cons_succ, this]
    have e1 : 2 * (i + 1) = 2 * i + 1 + 1 := by omega
    rw [e1]
    simp only [List.getElem?_cons_succ]

theorem wordsOf_lt : ∀ (bs : List Nat), (∀ x ∈ bs, x < 256) → ∀ x ∈ wordsOf bs, x < 65536
  | [], _, x, h => by simp [wordsOf] at h
  | [a], hb, x, h => by
    have := hb a (by simp)
    simp [wordsOf] at h
    omega
  | a :: b :: r, hb, x, h => by
    have h1 := hb a (by simp)
    have h2 := hb b (by simp)
    simp only [wordsOf, List.mem_cons] at h
    rcases h with rfl | h
    · omega
    · exact wordsOf_lt r (fun y hy => hb y (by simp [hy])) x h

/-- The words of the first 2k bytes are the first k words. -/
theorem wordsOf_two (bs : List Nat) (a b : Nat) (r : List Nat) (h : bs.length % 2 = 0) : wordsOf (bs ++ a :: b :: r) = wordsOf bs ++ (256 * a + b) :: wordsOf r := by
  match bs, h with
  | [], _ => rfl
  | [_], h => simp at h
  | x :: y :: s, h =>
    have := wordsOf_two s a b r (by simp at h; omega)
    simp only [List.cons_append, wordsOf, this]

/-- The sum of the words of bytes, each byte by its place. -/
def wsum (bs : List Nat) : Nat := (wordsOf bs).sum

/-- How much a byte at a place weighs. -/
def wt (i : Nat) : Nat := if i % 2 = 0 then 256 else 1

theorem wsum_set : ∀ (bs : List Nat) (i v : Nat), i < bs.length → wsum (bs.set i v) + wt i * bs[i]?.getD 0 = wsum bs + wt i * v
  | [], i, _, h => by simp at h
  | [a], i, v, h => by
    have : i = 0 := by simp at h; omega
    subst this
    simp [wsum, wordsOf, wt]
    omega
  | a :: b :: r, 0, v, _ => by
    simp [wsum, wordsOf, wt]
    omega
  | a :: b :: r, 1, v, _ => by
    simp [wsum, wordsOf, wt]
    omega
  | a :: b :: r, i + 2, v, h => by
    have := wsum_set r i v (by simp at h; omega)
    have hw : wt (i + 2) = wt i := by simp [wt]
    rw [hw]
    simp only [wsum, List.set_cons_succ, wordsOf, List.sum_cons, List.getElem?_cons_succ] at this ⊢
    omega

theorem wsum_le : ∀ (bs : List Nat), (∀ x ∈ bs, x < 256) → wsum bs ≤ 65535 * bs.length
  | [], _ => by simp [wsum, wordsOf]
  | [a], h => by have := h a (by simp); simp [wsum, wordsOf]; omega
  | a :: b :: r, h => by
    have h1 := h a (by simp)
    have h2 := h b (by simp)
    have h3 := wsum_le r (fun y hy => h y (by simp [hy]))
    simp only [wsum, wordsOf, List.sum_cons, List.length_cons] at h3 ⊢
    omega

theorem sum_le : ∀ (l : List Nat), (∀ x ∈ l, x < 65536) → l.sum ≤ 65535 * l.length
  | [], _ => by simp
  | a :: r, h => by
    have h1 := h a (by simp)
    have h3 := sum_le r (fun y hy => h y (by simp [hy]))
    simp only [List.sum_cons, List.length_cons]
    omega

theorem sum_set : ∀ (l : List Nat) (i v : Nat), i < l.length → (l.set i v).sum + l[i]?.getD 0 = l.sum + v
  | [], i, _, h => by simp at h
  | a :: r, 0, v, _ => by simp; omega
  | a :: r, i + 1, v, h => by
    have := sum_set r i v (by simp at h; omega)
    simp only [List.set_cons_succ, List.sum_cons, List.getElem?_cons_succ]
    omega

theorem sum_swap (l : List Nat) (i k : Nat) (hi : i < l.length) (hk : k < l.length) :
    ((l.set i (l[k]?.getD 0)).set k (l[i]?.getD 0)).sum = l.sum := by
  have h1 := sum_set l i (l[k]?.getD 0) hi
  have h2 := sum_set (l.set i (l[k]?.getD 0)) k (l[i]?.getD 0) (by simpa using hk)
  by_cases e : i = k
  · subst e
    simp [hi] at h1 h2 ⊢
  · have h3 : (l.set i (l[k]?.getD 0))[k]?.getD 0 = l[k]?.getD 0 := by rw [List.getElem?_set_ne e]
    rw [h3] at h2
    omega

theorem sum_zero : ∀ (l : List Nat), l.sum = 0 ↔ ∀ x ∈ l, x = 0
  | [] => by simp
  | a :: r => by
    have := sum_zero r
    simp only [List.sum_cons, List.mem_cons, forall_eq_or_imp, Nat.add_eq_zero_iff, this]

theorem xor_bit : ∀ (x : Fin 256) (i : Fin 8), ((x.val ^^^ 2 ^ i.val) = x.val + 2 ^ i.val) ∨ ((x.val ^^^ 2 ^ i.val) + 2 ^ i.val = x.val) := by decide +kernel

/-- Bytes whose sum is full: with a bit of one byte turned it is not. -/
theorem bit_turned (bs : List Nat) (j i x : Nat) (hj : j < bs.length) (hx : bs[j]?.getD 0 = x) (hx8 : x < 256) (hi : i < 8) (h : can (wsum bs) = 65535) :
    can (wsum (bs.set j (x ^^^ 2 ^ i))) ≠ 65535 := by
  have hs := wsum_set bs j (x ^^^ 2 ^ i) hj
  rw [hx] at hs
  have hb := xor_bit ⟨x, hx8⟩ ⟨i, hi⟩
  simp only at hb
  rw [can_full] at h
  rw [Ne, can_full]
  generalize x ^^^ 2 ^ i = y at *
  generalize wsum (bs.set j y) = t at *
  generalize wsum bs = s at *
  have hi8 : i = 0 ∨ i = 1 ∨ i = 2 ∨ i = 3 ∨ i = 4 ∨ i = 5 ∨ i = 6 ∨ i = 7 := by omega
  unfold wt at hs
  split at hs <;> rcases hi8 with rfl | rfl | rfl | rfl | rfl | rfl | rfl | rfl <;> simp at hb <;> omega

/-- The check laid at an even place where two bytes are 0 makes the sum full. -/
theorem check_full (bs : List Nat) (at_ : Nat) (he : at_ % 2 = 0) (hl : at_ + 1 < bs.length) (h0 : bs[at_]?.getD 0 = 0) (h1 : bs[at_ + 1]?.getD 0 = 0) :
    can (wsum ((bs.set at_ ((65535 - can (wsum bs)) / 256)).set (at_ + 1) ((65535 - can (wsum bs)) % 256))) = 65535 := by
  have hs := wsum_set bs at_ ((65535 - can (wsum bs)) / 256) (by omega)
  have hs' := wsum_set (bs.set at_ ((65535 - can (wsum bs)) / 256)) (at_ + 1) ((65535 - can (wsum bs)) % 256) (by simpa using hl)
  have h3 : (bs.set at_ ((65535 - can (wsum bs)) / 256))[at_ + 1]?.getD 0 = 0 := by rw [List.getElem?_set_ne (by omega)]; exact h1
  rw [h3] at hs'
  rw [h0] at hs
  have w1 : wt at_ = 256 := by simp [wt, he]
  have w2 : wt (at_ + 1) = 1 := by unfold wt; rw [if_neg (by omega)]
  rw [w1] at hs
  rw [w2] at hs'
  have hc := can_lt (wsum bs)
  have hz := can_eq_zero (wsum bs)
  rw [can_full]
  have hdef : can (wsum bs) = if wsum bs = 0 then 0 else (wsum bs - 1) % 65535 + 1 := rfl
  generalize can (wsum bs) = k at *
  generalize wsum bs = s at *
  generalize wsum _ = t at *
  generalize wsum _ = u at *
  split at hdef <;> omega

/-- A word changed: Change's check is that of the new words. -/
theorem change_ok (s t old now : Nat) (ho : old < 65536) (hn : now < 65536) (hos : old ≤ s) (ht : t + old = s + now) (htp : 0 < t) :
    65535 - can ((65535 - (65535 - can s)) + (65535 - old) + now) = 65535 - can t := by
  have h1 := can_lt s
  have h2 := can_lt t
  have e : can ((65535 - (65535 - can s)) + (65535 - old) + now) = can t := by
    have e0 : (65535 - (65535 - can s)) + (65535 - old) + now = can s + (65535 - old + now) := by omega
    rw [e0, can_add]
    unfold can
    rw [if_neg (by omega), if_neg (by omega)]
    omega
  rw [e]

end Go.Proofs.Ytkanbnfiblbkpaa
