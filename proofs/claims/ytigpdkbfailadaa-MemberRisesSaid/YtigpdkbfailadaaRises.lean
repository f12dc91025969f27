/-
  What deeds do to members, the plain law.
-/
import Derived.Test.YtigpdkbfailadaaSame
import Derived.Test.YtigpdkbfailadaaDeedsIn
namespace Go.Proofs.Ytigpdkbfailadaa
open Go Go.RowKit Go.Shelf
set_option linter.unusedVariables false

theorem rightM_at' {m : Mm} (h : rightM m = true) {i : Nat} (hi : i < 9) : okAt i (m i) = true := by
  unfold rightM at h
  rw [List.all_eq_true] at h
  exact h i (List.mem_range.2 hi)
theorem rightM_upd' {m : Mm} (h : rightM m = true) {i : Nat} {s : Int} (hs : okAt i s = true) : rightM (upd m i s) = true := by
  unfold rightM
  rw [List.all_eq_true]
  intro j hj
  by_cases e : j = i
  · subst e; simp [upd, hs]
  · have : upd m i s j = m j := by unfold upd; rw [if_neg e]
    rw [this]
    exact rightM_at' h (List.mem_range.1 hj)

/-- What a deed makes. -/
def doD (m : Mm) (e : Deed) : Mm × Int :=
  if e.act = 0 then deedM addF m e.kind e.id else if e.act = 1 then deedM leaveF m 2 e.id else deedM killF m e.kind e.id

/-- One state, and one alone, has risen. -/
structure Rise (m o : Mm) (i : Nat) (s : Int) : Prop where
  lt : i < 9
  is : o = upd m i s
  up : m i < s
  right : rightM o = true

theorem aliveSum_pos (m : Mm) (p : Int → Bool) (lo : Nat) : ∀ n : Nat, bitsTo m lo p n ≠ 0 ↔ ∃ j, j < n ∧ p (m (lo + j)) = true
  | 0 => by simp [bitsTo]
  | n + 1 => by
    have ih := aliveSum_pos m p lo n
    have hp : 0 < 2 ^ n := Nat.pow_pos (by omega)
    simp only [bitsTo]
    cases h : p (m (lo + n))
    · simp only [Bool.false_eq_true, if_false, Nat.add_zero]
      rw [ih]
      constructor
      · rintro ⟨j, hj, hpj⟩; exact ⟨j, by omega, hpj⟩
      · rintro ⟨j, hj, hpj⟩
        rcases Nat.lt_or_ge j n with h1 | h1
        · exact ⟨j, h1, hpj⟩
        · obtain rfl : j = n := by omega
          rw [h] at hpj; cases hpj
    · simp only [if_true]
      exact ⟨fun _ => ⟨n, by omega, h⟩, fun _ => by omega⟩

theorem add_rise {m o : Mm} {k id : Int} (hr : rightM m = true) (h : deedM addF m k id = (o, 0)) : ∃ i, Rise m o i 1 ∧ (bitsTo m 0 aliveS 6 ≠ 0 → bitsTo o 0 aliveS 6 ≠ 0) := by
  cases hx : idx k id with
  | none => rw [deedM_none hx] at h; cases h
  | some i =>
    rw [deedM_some hx hr] at h
    unfold addF at h
    split at h
    · rename_i h0
      cases h
      refine ⟨i, ⟨idx_lt hx, rfl, by omega, rightM_upd' hr (by unfold okAt; simp)⟩, fun ht => ?_⟩
      rw [aliveSum_pos] at ht ⊢
      obtain ⟨j, hj, hp⟩ := ht
      refine ⟨j, hj, ?_⟩
      by_cases e : 0 + j = i
      · unfold upd; rw [if_pos e]; rfl
      · unfold upd; rw [if_neg e]; exact hp
    · cases h
theorem leave_rise {m o : Mm} {id : Int} (hr : rightM m = true) (h : deedM leaveF m 2 id = (o, 0)) : ∃ i, Rise m o i 2 ∧ bitsTo o 0 aliveS 6 ≠ 0 := by
  cases hx : idx 2 id with
  | none => rw [deedM_none hx] at h; cases h
  | some i =>
    rw [deedM_some hx hr] at h
    unfold leaveF at h
    split at h
    · rename_i h1
      split at h
      · cases h
      · rename_i hz
        cases h
        have h6 : i < 6 := by
          rcases idx_some hx with ⟨h, _⟩ | ⟨_, n, _, hn, rfl⟩
          · omega
          · exact hn
        exact ⟨i, ⟨idx_lt hx, rfl, by omega, rightM_upd' hr (by unfold okAt; simp [h6])⟩, hz⟩
    · cases h
theorem kill_rise {m o : Mm} {k id : Int} (hr : rightM m = true) (h : deedM killF m k id = (o, 0)) : ∃ i, Rise m o i 3 := by
  cases hx : idx k id with
  | none => rw [deedM_none hx] at h; cases h
  | some i =>
    rw [deedM_some hx hr] at h
    unfold killF at h
    split at h
    · cases h
      exact ⟨i, ⟨idx_lt hx, rfl, by omega, rightM_upd' hr (by unfold okAt; simp)⟩⟩
    · cases h
theorem do_rise {m o : Mm} {e : Deed} (hr : rightM m = true) (h : doD m e = (o, 0)) : ∃ i s, Rise m o i s ∧ ((e.act = 0 ∨ e.act = 1) → bitsTo m 0 aliveS 6 ≠ 0 → bitsTo o 0 aliveS 6 ≠ 0) := by
  unfold doD at h
  split at h
  · obtain ⟨i, h1, h2⟩ := add_rise hr h
    exact ⟨i, 1, h1, fun _ => h2⟩
  · split at h
    · obtain ⟨i, h1, h2⟩ := leave_rise hr h
      exact ⟨i, 2, h1, fun _ _ => h2⟩
    · obtain ⟨i, h1⟩ := kill_rise hr h
      exact ⟨i, 3, h1, fun h => by omega⟩
theorem deed_no {f : Mm → Nat → Mm × Int} (hf : ∀ m i, (f m i).2 ≠ 0 → (f m i).1 = zeroM) {m o : Mm} {k id v : Int} (h : deedM f m k id = (o, v)) (hv : v ≠ 0) : o = zeroM := by
  unfold deedM at h
  split at h
  · cases h; rfl
  · split at h
    · have := hf m _ (by rw [h]; exact hv)
      rw [h] at this
      exact this
    · cases h; rfl
theorem do_no {m o : Mm} {e : Deed} {v : Int} (h : doD m e = (o, v)) (hv : v ≠ 0) : o = zeroM := by
  unfold doD at h
  split at h
  · exact deed_no (fun m i => by unfold addF; split <;> simp) h hv
  · split at h
    · exact deed_no (fun m i => by unfold leaveF; split; · split <;> simp
                                   · simp) h hv
    · exact deed_no (fun m i => by unfold killF; split <;> simp) h hv

/-- Who takes is there. -/
theorem andNot6 : ∀ (p0 p1 p2 p3 p4 p5 r0 r1 r2 r3 r4 r5 : Bool), bits .andNot .u8 (((((((0 + if p0 then 2 ^ 0 else 0) + if p1 then 2 ^ 1 else 0) + if p2 then 2 ^ 2 else 0) + if p3 then 2 ^ 3 else 0) + if p4 then 2 ^ 4 else 0) + if p5 then 2 ^ 5 else 0 : Nat) : Int) (((((((0 + if (p0 || r0) then 2 ^ 0 else 0) + if (p1 || r1) then 2 ^ 1 else 0) + if (p2 || r2) then 2 ^ 2 else 0) + if (p3 || r3) then 2 ^ 3 else 0) + if (p4 || r4) then 2 ^ 4 else 0) + if (p5 || r5) then 2 ^ 5 else 0 : Nat) : Int) = 0 := by
  decide +kernel
theorem takers_there (m : Mm) : bits .andNot .u8 (bitsTo m 0 aliveS 6 : Nat) (bitsTo m 0 thereS 6 : Nat) = 0 :=
  andNot6 (aliveS (m (0 + 0))) (aliveS (m (0 + 1))) (aliveS (m (0 + 2))) (aliveS (m (0 + 3))) (aliveS (m (0 + 4))) (aliveS (m (0 + 5))) (decide (m (0 + 0) = 2)) (decide (m (0 + 1) = 2)) (decide (m (0 + 2) = 2)) (decide (m (0 + 3) = 2)) (decide (m (0 + 4) = 2)) (decide (m (0 + 5) = 2))
end Go.Proofs.Ytigpdkbfailadaa
