/-
  Two tuples compared; the document's All.
-/
import Derived.Test.YtdlpkphbgbffpaaDoorTups
import Derived.Laws.StructEq
namespace Go.Proofs.YtdlpkphbgbffpaaDoor
open Go Go.RowKit Go.Shelf
set_option linter.unusedSimpArgs false
set_option linter.unusedVariables false
attribute [local go_sem] Oper.semAt_some
theorem eq25 (x y : Tup) (w : World) : (Op.equalIn 10000 25 (tv x) (tv y)).run Tryd.prog w = .ok (decide (x = y)) w := by
  have hS : Tryd.prog.underlying 25 = some (.struct (Tryd.prog.fieldsOf 25)) := by kernel_rfl
  have hp : Tryd.prog.stoodInHeld 25 = false := by kernel_rfl
  have u22 := Tryd.underlying22
  have a22 := Tryd.isAgg22
  have z22 := Tryd.sizeOf22
  have u23 := Tryd.underlying23
  have a23 := Tryd.isAgg23
  have z23 := Tryd.sizeOf23
  rw [show (10000 : Nat) = 9999 + 1 from rfl, run_equalIn_struct w 9999 25 _ _ hS hp]
  simp only [Program.fieldsOf, Tryd.underlying25]
  go_simp
  obtain ⟨a, b, c, d⟩ := x
  obtain ⟨a', b', c', d'⟩ := y
  by_cases h1 : a = a' <;> by_cases h2 : b = b' <;> by_cases h3 : c = c' <;> by_cases h4 : d = d' <;> simp [h1, h2, h3, h4]
theorem below_drewN {B : Nat} {A C : World} (h : Below B A C) (k : Nat) : Below B A (C.drewN k) := ⟨h.os, h.tape, h.output, h.size, h.block⟩
theorem neq25 (x y : Tup) (w : World) : (binOp .neq 25 (tv x) (tv y)).run Tryd.prog w = .ok (.bool (!decide (x = y))) w := by
  rw [run_neq_struct, eq25]
  rfl
theorem eql25 (x y : Tup) (w : World) : (binOp .eql 25 (tv x) (tv y)).run Tryd.prog w = .ok (.bool (decide (x = y))) w := by
  rw [run_eql_struct, eq25]
  rfl
theorem take_eq_succ {xs ys : List Tup} {k : Nat} {x y : Tup} (h : xs.take k = ys.take k) (hx : xs[k]? = some x) (hy : ys[k]? = some y) : xs.take (k + 1) = ys.take (k + 1) ↔ x = y := by
  rw [List.take_add_one, List.take_add_one, hx, hy, h]
  simp
theorem ne_of_at {xs ys : List Tup} {k : Nat} {x y : Tup} (hx : xs[k]? = some x) (hy : ys[k]? = some y) (hne : x ≠ y) : xs ≠ ys := by
  rintro rfl
  rw [hx] at hy
  exact hne (Option.some.inj hy)
set_option maxRecDepth 100000 in
set_option maxHeartbeats 1000000 in
theorem all_any (A A' : Option Addr) (n n' c c' : Nat) (xs ys : List Tup) (w : World) (hs : Ts w w.heap.size A n c xs) (ht : Ts w w.heap.size A' n' c' ys) :
    Calls Tryd.prog 21 #[.slice A n c, .slice A' n' c'] w fun e W' => e = .returned (.bool (decide (xs = ys))) ∧ Below w.heap.size w W' := by
  have hl := hs.1
  have hl' := ht.1
  have hn63 := hs.n63
  have hn63' := ht.n63
  have HL := hide hl
  have HL' := hide hl'
  clear hl hl'
  go_enter Tryd.func21, Tryd.ntmps21
  by_cases hnn : n = n'
  · subst hnn
    go_wp2
    go_loopw [5] (fun i wr => ∃ k : Nat, k ≤ n ∧ i = .int .i64 k ∧ xs.take k = ys.take k ∧ Below w.heap.size w wr) (fun i _ => n - (intOf i).toNat)
    case atStart => exact ⟨0, Nat.zero_le _, rfl, rfl, Below.refl _ _⟩
    case round =>
      obtain ⟨k, hk, rfl, hEq, hB⟩ := hrel
      have HE := hide hEq
      clear hEq
      by_cases hlt : k < n
      · obtain ⟨b, off, x, rfl, hb, hx, c0, c1, c2, c3⟩ := (hs.below hB).at_ hlt
        obtain ⟨b', off', y, rfl, hb', hy, d0, d1, d2, d3⟩ := (ht.below hB).at_ hlt
        have HX := hide hx
        have HY := hide hy
        clear hx hy
        by_cases he : x = y
        · have hd : ∀ W, (binOp .neq 25 (tv x) (tv y)).run Tryd.prog W = .ok (.bool false) W := fun W => by rw [neq25]; simp [he]
          have HE2 := hide he
          clear he
          have hlt' : (k : Int) < (n : Int) := by omega
          have h0 : (0 : Int) ≤ (k : Int) := by omega
          go_wp2
          go_quiet (fail)
          go_wp2
          go_roundw
          case rel => exact ⟨k + 1, by omega, by go_num, (take_eq_succ HE.out HX.out HY.out).2 HE2.out, below_drewN hB _⟩
          case measure => simp [intOf]; omega
        · have hd : ∀ W, (binOp .neq 25 (tv x) (tv y)).run Tryd.prog W = .ok (.bool true) W := fun W => by rw [neq25]; simp [he]
          have HE2 := hide he
          clear he
          have hlt' : (k : Int) < (n : Int) := by omega
          have h0 : (0 : Int) ≤ (k : Int) := by omega
          go_wp2
          go_quiet (fail)
          go_wp2
          go_ret
          exact ⟨ret_bool (by rw [decide_eq_false (ne_of_at HX.out HY.out HE2.out)]), below_drewN hB _⟩
      · obtain rfl : k = n := by omega
        go_wp2
        go_ret
        refine ⟨ret_bool ?_, hB⟩
        symm
        rw [decide_eq_true_iff]
        have h := HE.out
        rwa [List.take_of_length_le (by rw [HL.out]; omega), List.take_of_length_le (by rw [HL'.out]; omega)] at h
  · have hn' : (n : Int) ≠ (n' : Int) := by omega
    go_wp2
    go_ret
    refine ⟨ret_bool ?_, Below.refl _ _⟩
    symm
    rw [decide_eq_false_iff_not]
    rintro rfl
    exact hnn (HL.out.symm.trans HL'.out)
end Go.Proofs.YtdlpkphbgbffpaaDoor
