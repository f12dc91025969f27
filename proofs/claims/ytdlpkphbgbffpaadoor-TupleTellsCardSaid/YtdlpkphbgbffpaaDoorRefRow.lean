/-
  The walk of the document's Bytes.
-/
import Derived.Test.YtdlpkphbgbffpaaDoorRefText
namespace Go.Proofs.YtdlpkphbgbffpaaDoor
open Go Go.RowKit Go.Shelf
set_option linter.unusedSimpArgs false
set_option linter.unusedVariables false
attribute [local go_sem] Oper.semAt_some
theorem On.grown {w W W' : World} {g : Nat} {t : Tup} {base size n : Nat} {v : Value} {xs : List Value} (h : On w g t W) (hown : W.ownsRow w.heap.size 5 1 v n xs) (hg : W.grownBy W' v.ownBlock) : On w g t W' :=
  ⟨h.t.kept hg (h.t.not_row hown), h.below.grown hg h.below.size (ownBlock_ge hown)⟩
theorem refBytes4 (x : Int) (w : World) (h0 : 0 ≤ x) (h1 : x < 4294967296) : Calls Tryd.prog 28 #[vi x, vi 4] w fun e W' => (∃ v, e = .returned v ∧ W'.ownsRow w.heap.size 5 1 v 4 ((bytesL x 4).map vb)) ∧ Below w.heap.size w W' := refBytes_any x 4 w (by omega) h0 h1
theorem refBytes2 (x : Int) (w : World) (h0 : 0 ≤ x) (h1 : x < 4294967296) : Calls Tryd.prog 28 #[vi x, vi 2] w fun e W' => (∃ v, e = .returned v ∧ W'.ownsRow w.heap.size 5 1 v 2 ((bytesL x 2).map vb)) ∧ Below w.heap.size w W' := refBytes_any x 2 w (by omega) h0 h1
/-- The operations of Bytes' statements. -/
noncomputable def K1 : Array Oper := opsOf Tryd.f12 1
noncomputable def K2 : Array Oper := opsOf Tryd.f12 2
--FACTS
theorem K1_s : Region.noSelect K1 = true := by kernel_rfl
theorem K1_f0 : Region.free .any K1 #[false, false, false, false, false, false, false, false, false, false] 0 = true := by kernel_rfl
theorem K1_c0 : (Region.ready .any K1 #[false, false, false, false, false, false, false, false, false, false]).contains 0 = true := by kernel_rfl
theorem K1_f1 : Region.free .any K1 #[true, false, false, false, false, false, false, false, false, false] 1 = true := by kernel_rfl
theorem K1_c1 : (Region.ready .any K1 #[true, false, false, false, false, false, false, false, false, false]).contains 1 = true := by kernel_rfl
theorem K1_f2 : Region.free .any K1 #[true, true, false, false, false, false, false, false, false, false] 2 = true := by kernel_rfl
theorem K1_c2 : (Region.ready .any K1 #[true, true, false, false, false, false, false, false, false, false]).contains 2 = true := by kernel_rfl
theorem K1_f4 : Region.free .any K1 #[true, true, true, false, false, false, false, false, false, false] 4 = true := by kernel_rfl
theorem K1_c4 : (Region.ready .any K1 #[true, true, true, false, false, false, false, false, false, false]).contains 4 = true := by kernel_rfl
theorem K1_f5 : Region.free .any K1 #[true, true, true, false, true, false, false, false, false, false] 5 = true := by kernel_rfl
theorem K1_c5 : (Region.ready .any K1 #[true, true, true, false, true, false, false, false, false, false]).contains 5 = true := by kernel_rfl
theorem K1_f6 : Region.free .any K1 #[true, true, true, false, true, true, false, false, false, false] 6 = true := by kernel_rfl
theorem K1_c6 : (Region.ready .any K1 #[true, true, true, false, true, true, false, false, false, false]).contains 6 = true := by kernel_rfl
theorem K1_r3 : Region.ready .any K1 #[true, true, true, false, true, true, true, false, false, false] = [3] := by kernel_rfl
theorem K1_r7 : Region.ready .any K1 #[true, true, true, true, true, true, true, false, false, false] = [7] := by kernel_rfl
theorem K1_r8 : Region.ready .any K1 #[true, true, true, true, true, true, true, true, false, false] = [8] := by kernel_rfl
theorem K1_f9 : Region.free .any K1 #[true, true, true, true, true, true, true, true, true, false] 9 = true := by kernel_rfl
theorem K1_c9 : (Region.ready .any K1 #[true, true, true, true, true, true, true, true, true, false]).contains 9 = true := by kernel_rfl
theorem K2_s : Region.noSelect K2 = true := by kernel_rfl
theorem K2_f0 : Region.free .any K2 #[false, false, false, false, false, false, false, false, false, false, false, false] 0 = true := by kernel_rfl
theorem K2_c0 : (Region.ready .any K2 #[false, false, false, false, false, false, false, false, false, false, false, false]).contains 0 = true := by kernel_rfl
theorem K2_f1 : Region.free .any K2 #[true, false, false, false, false, false, false, false, false, false, false, false] 1 = true := by kernel_rfl
theorem K2_c1 : (Region.ready .any K2 #[true, false, false, false, false, false, false, false, false, false, false, false]).contains 1 = true := by kernel_rfl
theorem K2_f2 : Region.free .any K2 #[true, true, false, false, false, false, false, false, false, false, false, false] 2 = true := by kernel_rfl
theorem K2_c2 : (Region.ready .any K2 #[true, true, false, false, false, false, false, false, false, false, false, false]).contains 2 = true := by kernel_rfl
theorem K2_f3 : Region.free .any K2 #[true, true, true, false, false, false, false, false, false, false, false, false] 3 = true := by kernel_rfl
theorem K2_c3 : (Region.ready .any K2 #[true, true, true, false, false, false, false, false, false, false, false, false]).contains 3 = true := by kernel_rfl
theorem K2_f6 : Region.free .any K2 #[true, true, true, true, false, false, false, false, false, false, false, false] 6 = true := by kernel_rfl
theorem K2_c6 : (Region.ready .any K2 #[true, true, true, true, false, false, false, false, false, false, false, false]).contains 6 = true := by kernel_rfl
theorem K2_f7 : Region.free .any K2 #[true, true, true, true, false, false, true, false, false, false, false, false] 7 = true := by kernel_rfl
theorem K2_c7 : (Region.ready .any K2 #[true, true, true, true, false, false, true, false, false, false, false, false]).contains 7 = true := by kernel_rfl
theorem K2_f8 : Region.free .any K2 #[true, true, true, true, false, false, true, true, false, false, false, false] 8 = true := by kernel_rfl
theorem K2_c8 : (Region.ready .any K2 #[true, true, true, true, false, false, true, true, false, false, false, false]).contains 8 = true := by kernel_rfl
theorem K2_r4 : Region.ready .any K2 #[true, true, true, true, false, false, true, true, true, false, false, false] = [4] := by kernel_rfl
theorem K2_r5 : Region.ready .any K2 #[true, true, true, true, true, false, true, true, true, false, false, false] = [5] := by kernel_rfl
theorem K2_r9 : Region.ready .any K2 #[true, true, true, true, true, true, true, true, true, false, false, false] = [9] := by kernel_rfl
theorem K2_r10 : Region.ready .any K2 #[true, true, true, true, true, true, true, true, true, true, false, false] = [10] := by kernel_rfl
theorem K2_f11 : Region.free .any K2 #[true, true, true, true, true, true, true, true, true, true, true, false] 11 = true := by kernel_rfl
theorem K2_c11 : (Region.ready .any K2 #[true, true, true, true, true, true, true, true, true, true, true, false]).contains 11 = true := by kernel_rfl
--ENDFACTS
set_option maxRecDepth 100000 in
set_option maxHeartbeats 4000000 in
theorem refRow_any (t : Tup) (w : World) (ht : t.In) : Calls Tryd.prog 12 #[tv t] w fun e W' => (∃ v, e = .returned v ∧ W'.ownsRow w.heap.size 5 1 v 12 ((bytesT t).map vb)) ∧ Below w.heap.size w W' := by
  obtain ⟨⟨hs0, hs1⟩, ⟨hd0, hd1⟩, ⟨hp0, hp1⟩, ⟨hq0, hq1⟩⟩ := ht
  obtain ⟨i0, hi, hz0, hz1, hz2⟩ := info_parts infoU8
  have ln := fun x k => bytesL_length x k
  have oneC : ∀ l : List Int, ∀ u ∈ l.map vb, u.oneCell' = true := fun l u hu => by
    obtain ⟨y, _, rfl⟩ := List.mem_map.1 hu
    rfl
  have v1 : IntKind.i64.wrap t.src = t.src := by simp [IntKind.wrap, IntKind.bits, IntKind.signed]; omega
  have v2 : IntKind.i64.wrap t.dst = t.dst := by simp [IntKind.wrap, IntKind.bits, IntKind.signed]; omega
  have v3 : IntKind.i64.wrap t.sp = t.sp := by simp [IntKind.wrap, IntKind.bits, IntKind.signed]; omega
  have v4 : IntKind.i64.wrap t.dp = t.dp := by simp [IntKind.wrap, IntKind.bits, IntKind.signed]; omega
  go_enter Tryd.func12, Tryd.ntmps12
  go_wp2
  obtain ⟨W0, hW0⟩ : ∃ W0, w.alloc (.cells #[.int .u32 t.src, .int .u32 t.dst, .int .u16 t.sp, .int .u16 t.dp] 25) = W0 := ⟨_, rfl⟩
  have hA : Bt W0 w.heap.size t := hW0 ▸ Bt.new w t
  have hW : Below w.heap.size w W0 := hW0 ▸ (Below.refl _ w).alloc (Nat.le_refl _) _
  rw [hW0]
  clear hW0
  --R12
  refine region_as (R := K1) (by kernel_rfl) ?_
  refine wp_region_held_drew (S := On w w.heap.size t) (by kernel_rfl) ?_ (fun hHeld => ?_)
  · exact (On.mk hA hW).drew
  refine listed_as (L := #[false, false, false, false, false, false, false, false, false, false]) (by kernel_rfl) ?_
  refine take_bare (i := 0) (some 4) (Go.Op.fieldAddr 25 (Go.Operand.tmp 1) 0) 0 #[true, false, false, false, false, false, false, false, false, false] (v := ?_) hHeld rfl (by kernel_rfl) (by kernel_rfl) (by kernel_rfl) (by kernel_rfl) K1_s K1_f0 K1_c0 (by kernel_rfl) (fun _ _ _ h => h) ?hya0_1 ?_
  case hya0_1 => intro w hSw; clear hSw; go_simp; try with_reducible rfl
  try simp only [Act.put, List.setIfInBounds_toArray, List.set_cons_zero, List.set_cons_succ]
  refine take_bare (i := 1) (some 5) (Go.Op.load 22 (Go.Operand.tmp 4)) 22 #[true, true, false, false, false, false, false, false, false, false] (v := (.int .u32 t.src)) hHeld rfl (by kernel_rfl) (by kernel_rfl) (by kernel_rfl) (by kernel_rfl) K1_s K1_f1 K1_c1 (by kernel_rfl) (fun _ _ _ h => h) (fun W hS => run_loadc (T := 22) (s := 4) (by kernel_rfl) (by kernel_rfl) (by kernel_rfl) hS.t.c0) ?_
  try simp only [Act.put, List.setIfInBounds_toArray, List.set_cons_zero, List.set_cons_succ]
  refine take_bare (i := 2) (some 6) (Go.Op.convert 22 3 (Go.Operand.tmp 5)) 3 #[true, true, true, false, false, false, false, false, false, false] (v := ?_) hHeld rfl (by kernel_rfl) (by kernel_rfl) (by kernel_rfl) (by kernel_rfl) K1_s K1_f2 K1_c2 (by kernel_rfl) (fun _ _ _ h => h) ?hya2_3 ?_
  case hya2_3 => intro w hSw; clear hSw; go_simp; try with_reducible rfl
  try simp only [Act.put, List.setIfInBounds_toArray, List.set_cons_zero, List.set_cons_succ]
  refine take_bare (i := 4) (some 8) (Go.Op.fieldAddr 25 (Go.Operand.tmp 1) 1) 0 #[true, true, true, false, true, false, false, false, false, false] (v := ?_) hHeld rfl (by kernel_rfl) (by kernel_rfl) (by kernel_rfl) (by kernel_rfl) K1_s K1_f4 K1_c4 (by kernel_rfl) (fun _ _ _ h => h) ?hya4_4 ?_
  case hya4_4 => intro w hSw; clear hSw; go_simp; try with_reducible rfl
  try simp only [Act.put, List.setIfInBounds_toArray, List.set_cons_zero, List.set_cons_succ]
  refine take_bare (i := 5) (some 9) (Go.Op.load 22 (Go.Operand.tmp 8)) 22 #[true, true, true, false, true, true, false, false, false, false] (v := (.int .u32 t.dst)) hHeld rfl (by kernel_rfl) (by kernel_rfl) (by kernel_rfl) (by kernel_rfl) K1_s K1_f5 K1_c5 (by kernel_rfl) (fun _ _ _ h => h) (fun W hS => run_loadc (T := 22) (s := 8) (by kernel_rfl) (by kernel_rfl) (by kernel_rfl) hS.t.c1) ?_
  try simp only [Act.put, List.setIfInBounds_toArray, List.set_cons_zero, List.set_cons_succ]
  refine take_bare (i := 6) (some 10) (Go.Op.convert 22 3 (Go.Operand.tmp 9)) 3 #[true, true, true, false, true, true, true, false, false, false] (v := ?_) hHeld rfl (by kernel_rfl) (by kernel_rfl) (by kernel_rfl) (by kernel_rfl) K1_s K1_f6 K1_c6 (by kernel_rfl) (fun _ _ _ h => h) ?hya6_6 ?_
  case hya6_6 => intro w hSw; clear hSw; go_simp; try with_reducible rfl
  try simp only [Act.put, List.setIfInBounds_toArray, List.set_cons_zero, List.set_cons_succ]
  refine step_bare (i := 3) (some 7) (Go.Op.call { callee := Go.Callee.value (Go.Operand.func 28), args := #[Go.Operand.tmp 6, Go.Operand.const (Go.Value.int Go.IntKind.i64 4)], argTypes := #[3, 3] }) 26 #[true, true, true, true, true, true, true, false, false, false] K1_r3 rfl (by kernel_rfl) (by kernel_rfl) (by kernel_rfl) (by kernel_rfl) (by kernel_rfl) (fun K hK => ?_)
  go_simp
  (with_reducible refine (refBytes4 t.src _ hs0 (by omega)).mono ?_)
  rintro e w3 ⟨⟨v3, rfl, hown3⟩, hB3⟩
  obtain ⟨A3, c3, rfl, hs3⟩ := Sl.own hown3
  replace hown3 := ownsRow_base hown3 hHeld.below.size
  go_simp
  refine hK.out _ _ ?_ (fun hHeld => ?_)
  · exact hHeld.next hB3
  clear hK K
  try simp only [Act.put, List.setIfInBounds_toArray, List.set_cons_zero, List.set_cons_succ]
  refine step_bare (i := 7) (some 11) (Go.Op.call { callee := Go.Callee.value (Go.Operand.func 28), args := #[Go.Operand.tmp 10, Go.Operand.const (Go.Value.int Go.IntKind.i64 4)], argTypes := #[3, 3] }) 26 #[true, true, true, true, true, true, true, true, false, false] K1_r7 rfl (by kernel_rfl) (by kernel_rfl) (by kernel_rfl) (by kernel_rfl) (by kernel_rfl) (fun K hK => ?_)
  go_simp
  (with_reducible refine (refBytes4 t.dst _ hd0 (by omega)).mono ?_)
  rintro e w7 ⟨⟨v7, rfl, hown7⟩, hB7⟩
  obtain ⟨A7, c7, rfl, hs7⟩ := Sl.own hown7
  replace hown7 := ownsRow_base hown7 hHeld.below.size
  replace hown3 := ownsRow_below hown3 hB7
  go_simp
  refine hK.out _ _ ?_ (fun hHeld => ?_)
  · exact hHeld.next hB7
  clear hK K
  try simp only [Act.put, List.setIfInBounds_toArray, List.set_cons_zero, List.set_cons_succ]
  refine step_bare (i := 8) (some 12) (Go.Op.call { callee := Go.Callee.builtin Go.Builtin.append, args := #[Go.Operand.tmp 7, Go.Operand.tmp 11], argTypes := #[26, 26] }) 26 #[true, true, true, true, true, true, true, true, true, false] K1_r8 rfl (by kernel_rfl) (by kernel_rfl) (by kernel_rfl) (by kernel_rfl) (by kernel_rfl) (fun K hK => ?_)
  refine wp_append_sl _ (.tmp 7) (.tmp 11) 26 rfl w.heap.size 5 i0 (.int .u8 0) 1 Tryd.underlying26 hi hz0 hz1 hz2 rfl (.slice A3 4 c3) 4 ((bytesL t.src 4).map vb) (by rfl) hown3 _ A7 4 c7 _ (by rfl) hs7 (oneC _) (by unfold maxLen; omega) (by omega) hHeld.below.size ?_
  intro v8 w8 hown8 hgr8 _
  have hOn8 := hHeld.grown (base := 0) (size := 0) hown3 hgr8
  obtain ⟨A8, c8, rfl, hs8⟩ := Sl.own hown8
  refine hK.out _ _ ?_ (fun hHeld => ?_)
  · exact hOn8
  clear hK K
  try simp only [Act.put, List.setIfInBounds_toArray, List.set_cons_zero, List.set_cons_succ]
  refine take_bare (i := 9) (some 3) (Go.Op.assign (Go.Operand.tmp 12)) 26 #[true, true, true, true, true, true, true, true, true, true] (v := ?_) hHeld rfl (by kernel_rfl) (by kernel_rfl) (by kernel_rfl) (by kernel_rfl) K1_s K1_f9 K1_c9 (by kernel_rfl) (fun _ _ _ h => h) ?hya9_7 ?_
  case hya9_7 => intro w hSw; clear hSw; go_simp; try with_reducible rfl
  try simp only [Act.put, List.setIfInBounds_toArray, List.set_cons_zero, List.set_cons_succ]
  refine wpAnyH_done (by kernel_rfl) ?_ _
  try simp only [Act.put, List.setIfInBounds_toArray, List.set_cons_zero, List.set_cons_succ]
  clear hs3 hs7 hown3 hown7
  go_wp2
  have hown8d : w8.drew.ownsRow w.heap.size 5 1 (.slice A8 8 c8) 8 ((bytesL t.src 4).map vb ++ (bytesL t.dst 4).map vb) := hown8
  refine region_as (R := K2) (by kernel_rfl) ?_
  refine wp_region_held_drew (S := On w w.heap.size t) (by kernel_rfl) ?_ (fun hHeld => ?_)
  · exact hHeld.drew
  refine listed_as (L := #[false, false, false, false, false, false, false, false, false, false, false, false]) (by kernel_rfl) ?_
  refine take_bare (i := 0) (some 13) (Go.Op.move (Go.Operand.tmp 3)) 26 #[true, false, false, false, false, false, false, false, false, false, false, false] (v := ?_) hHeld rfl (by kernel_rfl) (by kernel_rfl) (by kernel_rfl) (by kernel_rfl) K2_s K2_f0 K2_c0 (by kernel_rfl) (fun _ _ _ h => h) ?hyb0_1 ?_
  case hyb0_1 => intro w hSw; clear hSw; go_simp; try with_reducible rfl
  try simp only [Act.put, List.setIfInBounds_toArray, List.set_cons_zero, List.set_cons_succ]
  refine take_bare (i := 1) (some 14) (Go.Op.fieldAddr 25 (Go.Operand.tmp 1) 2) 0 #[true, true, false, false, false, false, false, false, false, false, false, false] (v := ?_) hHeld rfl (by kernel_rfl) (by kernel_rfl) (by kernel_rfl) (by kernel_rfl) K2_s K2_f1 K2_c1 (by kernel_rfl) (fun _ _ _ h => h) ?hyb1_2 ?_
  case hyb1_2 => intro w hSw; clear hSw; go_simp; try with_reducible rfl
  try simp only [Act.put, List.setIfInBounds_toArray, List.set_cons_zero, List.set_cons_succ]
  refine take_bare (i := 2) (some 15) (Go.Op.load 23 (Go.Operand.tmp 14)) 23 #[true, true, true, false, false, false, false, false, false, false, false, false] (v := (.int .u16 t.sp)) hHeld rfl (by kernel_rfl) (by kernel_rfl) (by kernel_rfl) (by kernel_rfl) K2_s K2_f2 K2_c2 (by kernel_rfl) (fun _ _ _ h => h) (fun W hS => run_loadc (T := 23) (s := 14) (by kernel_rfl) (by kernel_rfl) (by kernel_rfl) hS.t.c2) ?_
  try simp only [Act.put, List.setIfInBounds_toArray, List.set_cons_zero, List.set_cons_succ]
  refine take_bare (i := 3) (some 16) (Go.Op.convert 23 3 (Go.Operand.tmp 15)) 3 #[true, true, true, true, false, false, false, false, false, false, false, false] (v := ?_) hHeld rfl (by kernel_rfl) (by kernel_rfl) (by kernel_rfl) (by kernel_rfl) K2_s K2_f3 K2_c3 (by kernel_rfl) (fun _ _ _ h => h) ?hyb3_4 ?_
  case hyb3_4 => intro w hSw; clear hSw; go_simp; try with_reducible rfl
  try simp only [Act.put, List.setIfInBounds_toArray, List.set_cons_zero, List.set_cons_succ]
  refine take_bare (i := 6) (some 19) (Go.Op.fieldAddr 25 (Go.Operand.tmp 1) 3) 0 #[true, true, true, true, false, false, true, false, false, false, false, false] (v := ?_) hHeld rfl (by kernel_rfl) (by kernel_rfl) (by kernel_rfl) (by kernel_rfl) K2_s K2_f6 K2_c6 (by kernel_rfl) (fun _ _ _ h => h) ?hyb6_5 ?_
  case hyb6_5 => intro w hSw; clear hSw; go_simp; try with_reducible rfl
  try simp only [Act.put, List.setIfInBounds_toArray, List.set_cons_zero, List.set_cons_succ]
  refine take_bare (i := 7) (some 20) (Go.Op.load 23 (Go.Operand.tmp 19)) 23 #[true, true, true, true, false, false, true, true, false, false, false, false] (v := (.int .u16 t.dp)) hHeld rfl (by kernel_rfl) (by kernel_rfl) (by kernel_rfl) (by kernel_rfl) K2_s K2_f7 K2_c7 (by kernel_rfl) (fun _ _ _ h => h) (fun W hS => run_loadc (T := 23) (s := 19) (by kernel_rfl) (by kernel_rfl) (by kernel_rfl) hS.t.c3) ?_
  try simp only [Act.put, List.setIfInBounds_toArray, List.set_cons_zero, List.set_cons_succ]
  refine take_bare (i := 8) (some 21) (Go.Op.convert 23 3 (Go.Operand.tmp 20)) 3 #[true, true, true, true, false, false, true, true, true, false, false, false] (v := ?_) hHeld rfl (by kernel_rfl) (by kernel_rfl) (by kernel_rfl) (by kernel_rfl) K2_s K2_f8 K2_c8 (by kernel_rfl) (fun _ _ _ h => h) ?hyb8_7 ?_
  case hyb8_7 => intro w hSw; clear hSw; go_simp; try with_reducible rfl
  try simp only [Act.put, List.setIfInBounds_toArray, List.set_cons_zero, List.set_cons_succ]
  refine step_bare (i := 4) (some 17) (Go.Op.call { callee := Go.Callee.value (Go.Operand.func 28), args := #[Go.Operand.tmp 16, Go.Operand.const (Go.Value.int Go.IntKind.i64 2)], argTypes := #[3, 3] }) 26 #[true, true, true, true, true, false, true, true, true, false, false, false] K2_r4 rfl (by kernel_rfl) (by kernel_rfl) (by kernel_rfl) (by kernel_rfl) (by kernel_rfl) (fun K hK => ?_)
  go_simp
  (with_reducible refine (refBytes2 t.sp _ hp0 (by omega)).mono ?_)
  rintro e w4 ⟨⟨v4, rfl, hown4⟩, hB4⟩
  obtain ⟨A4, c4, rfl, hs4⟩ := Sl.own hown4
  replace hown4 := ownsRow_base hown4 hHeld.below.size
  have hown8' := ownsRow_below hown8d hB4
  go_simp
  refine hK.out _ _ ?_ (fun hHeld => ?_)
  · exact hHeld.next hB4
  clear hK K
  try simp only [Act.put, List.setIfInBounds_toArray, List.set_cons_zero, List.set_cons_succ]
  refine step_bare (i := 5) (some 18) (Go.Op.call { callee := Go.Callee.builtin Go.Builtin.append, args := #[Go.Operand.tmp 13, Go.Operand.tmp 17], argTypes := #[26, 26] }) 26 #[true, true, true, true, true, true, true, true, true, false, false, false] K2_r5 rfl (by kernel_rfl) (by kernel_rfl) (by kernel_rfl) (by kernel_rfl) (by kernel_rfl) (fun K hK => ?_)
  refine wp_append_sl _ (.tmp 13) (.tmp 17) 26 rfl w.heap.size 5 i0 (.int .u8 0) 1 Tryd.underlying26 hi hz0 hz1 hz2 rfl (.slice A8 8 c8) 8 ((bytesL t.src 4).map vb ++ (bytesL t.dst 4).map vb) (by rfl) hown8' _ A4 2 c4 _ (by rfl) hs4 (oneC _) (by unfold maxLen; omega) (by omega) hHeld.below.size ?_
  intro v5 w5 hown5 hgr5 _
  have hOn5 := hHeld.grown (base := 0) (size := 0) hown8' hgr5
  obtain ⟨A5, c5, rfl, hs5⟩ := Sl.own hown5
  refine hK.out _ _ ?_ (fun hHeld => ?_)
  · exact hOn5
  clear hK K
  try simp only [Act.put, List.setIfInBounds_toArray, List.set_cons_zero, List.set_cons_succ]
  refine step_bare (i := 9) (some 22) (Go.Op.call { callee := Go.Callee.value (Go.Operand.func 28), args := #[Go.Operand.tmp 21, Go.Operand.const (Go.Value.int Go.IntKind.i64 2)], argTypes := #[3, 3] }) 26 #[true, true, true, true, true, true, true, true, true, true, false, false] K2_r9 rfl (by kernel_rfl) (by kernel_rfl) (by kernel_rfl) (by kernel_rfl) (by kernel_rfl) (fun K hK => ?_)
  go_simp
  (with_reducible refine (refBytes2 t.dp _ hq0 (by omega)).mono ?_)
  rintro e w9 ⟨⟨v9, rfl, hown9⟩, hB9⟩
  obtain ⟨A9, c9, rfl, hs9⟩ := Sl.own hown9
  replace hown9 := ownsRow_base hown9 hHeld.below.size
  have hown5' := ownsRow_below hown5 hB9
  go_simp
  refine hK.out _ _ ?_ (fun hHeld => ?_)
  · exact hHeld.next hB9
  clear hK K
  try simp only [Act.put, List.setIfInBounds_toArray, List.set_cons_zero, List.set_cons_succ]
  refine step_bare (i := 10) (some 23) (Go.Op.call { callee := Go.Callee.builtin Go.Builtin.append, args := #[Go.Operand.tmp 18, Go.Operand.tmp 22], argTypes := #[26, 26] }) 26 #[true, true, true, true, true, true, true, true, true, true, true, false] K2_r10 rfl (by kernel_rfl) (by kernel_rfl) (by kernel_rfl) (by kernel_rfl) (by kernel_rfl) (fun K hK => ?_)
  refine wp_append_sl _ (.tmp 18) (.tmp 22) 26 rfl w.heap.size 5 i0 (.int .u8 0) 1 Tryd.underlying26 hi hz0 hz1 hz2 rfl (.slice A5 (8 + 2) c5) 10 ((bytesL t.src 4).map vb ++ (bytesL t.dst 4).map vb ++ (bytesL t.sp 2).map vb) (by rfl) hown5' _ A9 2 c9 _ (by rfl) hs9 (oneC _) (by unfold maxLen; omega) (by omega) hHeld.below.size ?_
  intro v10 w10 hown10 hgr10 _
  have hOn10 := hHeld.grown (base := 0) (size := 0) hown5' hgr10
  obtain ⟨A10, c10, rfl, hs10⟩ := Sl.own hown10
  refine hK.out _ _ ?_ (fun hHeld => ?_)
  · exact hOn10
  clear hK K
  try simp only [Act.put, List.setIfInBounds_toArray, List.set_cons_zero, List.set_cons_succ]
  refine take_bare (i := 11) (some 2) (Go.Op.assign (Go.Operand.tmp 23)) 26 #[true, true, true, true, true, true, true, true, true, true, true, true] (v := ?_) hHeld rfl (by kernel_rfl) (by kernel_rfl) (by kernel_rfl) (by kernel_rfl) K2_s K2_f11 K2_c11 (by kernel_rfl) (fun _ _ _ h => h) ?hyb11_8 ?_
  case hyb11_8 => intro w hSw; clear hSw; go_simp; try with_reducible rfl
  try simp only [Act.put, List.setIfInBounds_toArray, List.set_cons_zero, List.set_cons_succ]
  refine wpAnyH_done (by kernel_rfl) ?_ _
  try simp only [Act.put, List.setIfInBounds_toArray, List.set_cons_zero, List.set_cons_succ]
  go_wp2
  go_ret
  refine ⟨⟨_, rfl, ?_⟩, hHeld.below⟩
  have e : (bytesT t).map vb = (bytesL t.src 4).map vb ++ (bytesL t.dst 4).map vb ++ (bytesL t.sp 2).map vb ++ (bytesL t.dp 2).map vb := by rw [bytesT]; simp [bytesOf, num, many]
  rw [e]
  exact hown10
end Go.Proofs.YtdlpkphbgbffpaaDoor
