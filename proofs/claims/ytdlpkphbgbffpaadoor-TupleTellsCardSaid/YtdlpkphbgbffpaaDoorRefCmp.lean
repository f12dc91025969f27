/-
  The walks of the document's Cmp and Less.
-/
import Derived.Test.YtdlpkphbgbffpaaDoorRefRow
import Derived.Test.YtdlpkphbgbffpaaDoorTupleTextsWalk
import Derived.Test.YtdlpkphbgbffpaaDoorOrd
namespace Go.Proofs.YtdlpkphbgbffpaaDoor
open Go Go.RowKit Go.Shelf
set_option linter.unusedSimpArgs false
set_option linter.unusedVariables false
attribute [local go_sem] Oper.semAt_some
theorem blt_at : ∀ {xs ys : List Int} {k : Nat} {x y : Int}, xs.take k = ys.take k → xs[k]? = some x → ys[k]? = some y → x < y → blt xs ys = true
  | [], _, _, _, _, _, hx, _, _ => by simp at hx
  | _ :: _, [], _, _, _, _, _, hy, _ => by simp at hy
  | a :: xs, b :: ys, 0, x, y, _, hx, hy, h => by
    simp at hx hy
    subst hx hy
    simp [blt, h]
  | a :: xs, b :: ys, k + 1, x, y, ht, hx, hy, h => by
    simp at ht hx hy
    have ih := blt_at ht.2 hx hy h
    simp [blt, ht.1, ih]
theorem cmpT_of_lt {a b : Tup} (h : ltT a b) : cmpT a b = -1 := by
  rcases cmpT_cases a b with ⟨e, _, _⟩ | ⟨_, e, _⟩ | ⟨_, k, _⟩
  · exact e
  · subst e; unfold ltT at h; omega
  · unfold ltT at *; omega
theorem cmpT_of_gt {a b : Tup} (h : ltT b a) : cmpT a b = 1 := by
  rcases cmpT_cases a b with ⟨_, k, _⟩ | ⟨_, e, _⟩ | ⟨e, _, _⟩
  · unfold ltT at *; omega
  · subst e; unfold ltT at h; omega
  · exact e
theorem cmpT_refl (a : Tup) : cmpT a a = 0 := by
  rcases cmpT_cases a a with ⟨_, k, _⟩ | ⟨e, _, _⟩ | ⟨_, k, _⟩
  · unfold ltT at k; omega
  · exact e
  · unfold ltT at k; omega
/-- The operations of Cmp's first statement. -/
noncomputable def J1 : Array Oper := opsOf Tryd.f14 1
--FACTS
theorem J1_s : Region.noSelect J1 = true := by kernel_rfl
theorem J1_f0 : Region.free .any J1 #[false, false, false, false, false, false] 0 = true := by kernel_rfl
theorem J1_c0 : (Region.ready .any J1 #[false, false, false, false, false, false]).contains 0 = true := by kernel_rfl
theorem J1_f2 : Region.free .any J1 #[true, false, false, false, false, false] 2 = true := by kernel_rfl
theorem J1_c2 : (Region.ready .any J1 #[true, false, false, false, false, false]).contains 2 = true := by kernel_rfl
theorem J1_r1 : Region.ready .any J1 #[true, false, true, false, false, false] = [1] := by kernel_rfl
theorem J1_r3 : Region.ready .any J1 #[true, true, true, false, false, false] = [3] := by kernel_rfl
theorem J1_f4 : Region.free .any J1 #[true, true, true, true, false, false] 4 = true := by kernel_rfl
theorem J1_c4 : (Region.ready .any J1 #[true, true, true, true, false, false]).contains 4 = true := by kernel_rfl
theorem J1_f5 : Region.free .any J1 #[true, true, true, true, true, false] 5 = true := by kernel_rfl
theorem J1_c5 : (Region.ready .any J1 #[true, true, true, true, true, false]).contains 5 = true := by kernel_rfl
--ENDFACTS
set_option maxRecDepth 100000 in
set_option maxHeartbeats 4000000 in
theorem refCmp_any (a b : Tup) (w : World) (ha : a.In) (hb : b.In) : Calls Tryd.prog 14 #[tv a, tv b] w fun e W' => e = .returned (vi (cmpT a b)) ∧ Below w.heap.size w W' := by
  have hL := hide (And.intro (blt_bytesT ha hb) (blt_bytesT hb ha))
  have hI := hide (bytesT_inj ha hb)
  have xl := hide (bytesT_length a)
  have yl := hide (bytesT_length b)
  have HA := hide ha
  have HB := hide hb
  go_enter Tryd.func14, Tryd.ntmps14
  go_wp2
  obtain ⟨W0, hW0⟩ : ∃ W0, (w.alloc (.cells #[.int .u32 a.src, .int .u32 a.dst, .int .u16 a.sp, .int .u16 a.dp] 25)).alloc (.cells #[.int .u32 b.src, .int .u32 b.dst, .int .u16 b.sp, .int .u16 b.dp] 25) = W0 := ⟨_, rfl⟩
  have hT : Duo w a b W0 := hW0 ▸ Duo.start w a b
  rw [hW0]
  clear hW0
  --R1
  refine region_as (R := J1) (by kernel_rfl) ?_
  refine wp_region_held_drew (S := Duo w a b) (by kernel_rfl) ?_ (fun hHeld => ?_)
  · exact hT.drew
  refine listed_as (L := #[false, false, false, false, false, false]) (by kernel_rfl) ?_
  refine take_bare (i := 0) (some 8) (Go.Op.load 25 (Go.Operand.tmp 2)) 25 #[true, false, false, false, false, false] (v := (tv a)) hHeld rfl (by kernel_rfl) (by kernel_rfl) (by kernel_rfl) (by kernel_rfl) J1_s J1_f0 J1_c0 (by kernel_rfl) (fun _ _ _ h => h) (fun W hS => run_load_bt (s := 2) (by kernel_rfl) (by kernel_rfl) hS.a) ?_
  try simp only [Act.put, List.setIfInBounds_toArray, List.set_cons_zero, List.set_cons_succ]
  refine take_bare (i := 2) (some 10) (Go.Op.load 25 (Go.Operand.tmp 3)) 25 #[true, false, true, false, false, false] (v := (tv b)) hHeld rfl (by kernel_rfl) (by kernel_rfl) (by kernel_rfl) (by kernel_rfl) J1_s J1_f2 J1_c2 (by kernel_rfl) (fun _ _ _ h => h) (fun W hS => run_load_bt (s := 3) (by kernel_rfl) (by kernel_rfl) hS.b) ?_
  try simp only [Act.put, List.setIfInBounds_toArray, List.set_cons_zero, List.set_cons_succ]
  refine step_bare (i := 1) (some 9) (Go.Op.call { callee := Go.Callee.value (Go.Operand.func 12), args := #[Go.Operand.tmp 8], argTypes := #[25] }) 26 #[true, true, true, false, false, false] J1_r1 rfl (by kernel_rfl) (by kernel_rfl) (by kernel_rfl) (by kernel_rfl) (by kernel_rfl) (fun K hK => ?_)
  go_simp
  (with_reducible refine (refRow_any a _ HA.out).mono ?_)
  rintro e w1 ⟨⟨v1, rfl, hown1⟩, hB1⟩
  obtain ⟨A1, c1, rfl, hs1⟩ := Sl.own hown1
  go_simp
  refine hK.out _ _ ?_ (fun hHeld => ?_)
  · exact hHeld.next hB1
  clear hK K
  try simp only [Act.put, List.setIfInBounds_toArray, List.set_cons_zero, List.set_cons_succ]
  refine step_bare (i := 3) (some 11) (Go.Op.call { callee := Go.Callee.value (Go.Operand.func 12), args := #[Go.Operand.tmp 10], argTypes := #[25] }) 26 #[true, true, true, true, false, false] J1_r3 rfl (by kernel_rfl) (by kernel_rfl) (by kernel_rfl) (by kernel_rfl) (by kernel_rfl) (fun K hK => ?_)
  go_simp
  (with_reducible refine (refRow_any b _ HB.out).mono ?_)
  rintro e w3 ⟨⟨v3, rfl, hown3⟩, hB3⟩
  obtain ⟨A3, c3, rfl, hs3⟩ := Sl.own hown3
  go_simp
  have hs1' := (hs1.below hB3).more hB3.size
  refine hK.out _ _ ?_ (fun hHeld => ?_)
  · exact hHeld.next hB3
  clear hK K
  try simp only [Act.put, List.setIfInBounds_toArray, List.set_cons_zero, List.set_cons_succ]
  refine take_bare (i := 4) (some 5) (Go.Op.assign (Go.Operand.tmp 9)) 26 #[true, true, true, true, true, false] (v := ?_) hHeld rfl (by kernel_rfl) (by kernel_rfl) (by kernel_rfl) (by kernel_rfl) J1_s J1_f4 J1_c4 (by kernel_rfl) (fun _ _ _ h => h) ?hya4_3 ?_
  case hya4_3 => intro w hSw; clear hSw; go_simp; try with_reducible rfl
  try simp only [Act.put, List.setIfInBounds_toArray, List.set_cons_zero, List.set_cons_succ]
  refine take_bare (i := 5) (some 6) (Go.Op.assign (Go.Operand.tmp 11)) 26 #[true, true, true, true, true, true] (v := ?_) hHeld rfl (by kernel_rfl) (by kernel_rfl) (by kernel_rfl) (by kernel_rfl) J1_s J1_f5 J1_c5 (by kernel_rfl) (fun _ _ _ h => h) ?hya5_4 ?_
  case hya5_4 => intro w hSw; clear hSw; go_simp; try with_reducible rfl
  try simp only [Act.put, List.setIfInBounds_toArray, List.set_cons_zero, List.set_cons_succ]
  refine wpAnyH_done (by kernel_rfl) ?_ _
  try simp only [Act.put, List.setIfInBounds_toArray, List.set_cons_zero, List.set_cons_succ]
  obtain ⟨xs, hxs⟩ : ∃ xs, bytesT a = xs := ⟨_, rfl⟩
  obtain ⟨ys, hys⟩ : ∃ ys, bytesT b = ys := ⟨_, rfl⟩
  rw [hxs] at hs1' hL hI xl
  rw [hys] at hs3 hL hI yl
  have hbel := hHeld.below
  clear hxs hys hs1 hown1 hown3 hB1 hB3 hT hHeld
  go_wp2
  go_loopw [7] (fun i wr => ∃ k : Nat, k ≤ 12 ∧ i = .int .i64 k ∧ xs.take k = ys.take k ∧ Sl wr w3.heap.size A1 12 c1 (xs.map vb) ∧ Sl wr w3.heap.size A3 12 c3 (ys.map vb) ∧ Below w.heap.size w wr ∧ w3.heap.size ≤ wr.heap.size) (fun i _ => 12 - (intOf i).toNat)
  case atStart => exact ⟨0, by omega, rfl, rfl, hs1', hs3, hbel, Nat.le_refl _⟩
  case round =>
    obtain ⟨k, hk, rfl, hEq, hsx, hsy, hB, hle⟩ := hrel
    have HE := hide hEq
    clear hEq
    by_cases hlt : k < 12
    · obtain ⟨b1, off, rfl, hb1, hc⟩ := hsx.at_ (by omega)
      obtain ⟨b2, off', rfl, hb2, hd⟩ := hsy.at_ (by omega)
      obtain ⟨x, hx⟩ : ∃ x, xs[k]? = some x := ⟨xs[k]'(by rw [xl.out]; exact hlt), List.getElem?_eq_getElem _⟩
      obtain ⟨y, hy⟩ : ∃ y, ys[k]? = some y := ⟨ys[k]'(by rw [yl.out]; exact hlt), List.getElem?_eq_getElem _⟩
      have cx := hc k (vb x) (by simp [hx])
      have cy := hd k (vb y) (by simp [hy])
      have HX := hide hx
      have HY := hide hy
      clear hc hd hx hy
      have g1 : (k : Int) < 12 := by omega
      have g2 : (0 : Int) ≤ (k : Int) := by omega
      rcases Int.lt_trichotomy x y with hxy | hxy | hxy
      · go_wp2
        go_quiet (fail)
        go_wp2
        go_ret
        exact ⟨ret_int (by rw [cmpT_of_lt (of_decide_eq_true (hL.out.1.symm.trans (blt_at HE.out HX.out HY.out hxy)))]), below_drewN hB _⟩
      · subst hxy
        go_wp2
        go_quiet (fail)
        go_wp2
        go_quiet (fail)
        go_wp2
        go_roundw
        case rel => exact ⟨k + 1, by omega, by go_num, by rw [List.take_add_one, List.take_add_one, HE.out, HX.out, HY.out], hsx.drewN _, hsy.drewN _, below_drewN hB _, hle⟩
        case measure => simp [intOf]; omega
      · go_wp2
        go_quiet (fail)
        go_wp2
        go_quiet (fail)
        go_wp2
        go_ret
        exact ⟨ret_int (by rw [cmpT_of_gt (of_decide_eq_true (hL.out.2.symm.trans (blt_at HE.out.symm HY.out HX.out hxy)))]), below_drewN (below_drewN hB _) _⟩
    · obtain rfl : k = 12 := by omega
      go_wp2
      go_ret
      refine ⟨ret_int ?_, hB⟩
      have h := HE.out
      rw [List.take_of_length_le (by rw [xl.out]; omega), List.take_of_length_le (by rw [yl.out]; omega)] at h
      rw [hI.out.1 h, cmpT_refl]
theorem refLess_any (a b : Tup) (w : World) (ha : a.In) (hb : b.In) : Calls Tryd.prog 16 #[tv a, tv b] w fun e W' => e = .returned (.bool (decide (cmpT a b < 0))) ∧ Below w.heap.size w W' := by
  have c1 := hide (fun W => refCmp_any a b W ha hb)
  obtain ⟨x1, h1⟩ : ∃ x, cmpT a b = x := ⟨_, rfl⟩
  rw [h1] at c1
  rw [h1]
  clear h1
  go_enter Tryd.func16, Tryd.ntmps16
  go_wp2_with fail
  refine (c1.out _).mono ?_
  rintro e w1 ⟨rfl, hB1⟩
  go_wp2
  go_ret
  exact ⟨rfl, ((((Below.refl _ w).alloc (Nat.le_refl _) _).alloc (by simp) _).trans (hB1.mono (by simp; omega)))⟩
end Go.Proofs.YtdlpkphbgbffpaaDoor
