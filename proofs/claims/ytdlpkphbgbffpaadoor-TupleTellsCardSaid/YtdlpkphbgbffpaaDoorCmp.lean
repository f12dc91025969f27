/-
  The walks of Back, Or and Cmp.
-/
import Derived.Test.YtdlpkphbgbffpaaDoorSmall
import Derived.StillTailTactics
import Derived.Outline
import Derived.Lib.AppendIntMem
namespace Go.Proofs.YtdlpkphbgbffpaaDoor
open Go Go.RowKit Go.Shelf
set_option linter.unusedSimpArgs false
set_option linter.unusedVariables false
attribute [local go_sem] Oper.semAt_some

theorem back_any (t : Tup) (w : World) : Calls Tryd.prog 17 #[tv t] w fun e W' => e = .returned (tv (backT t)) ∧ Below w.heap.size w W' := by
  go_enter Tryd.func17, Tryd.ntmps17
  go_wp2
  all_goals
    refine bodyPost_ret (v := tv (backT t)) (by simp [results, Tryd.f17, go_sem, backT, *]) rfl ?_
    exact ⟨rfl, (((Below.refl _ w).alloc (Nat.le_refl _) _).alloc (by simp) _).alloc (by simp; omega) _⟩
abbrev vi (x : Int) : Value := .int .i64 x
/-- The first that is not 0. -/
def orL : List Int → Int
  | [] => 0
  | x :: l => if x = 0 then orL l else x
theorem or_any (A : Option Addr) (n c B : Nat) (l : List Int) (w : World) (hs : Sl w B A n c (l.map vi)) : Calls Tryd.prog 29 #[.slice A n c] w fun e w' => e = .returned (vi (orL l)) ∧ w = w' := by
  have hlen : l.length = n := by simpa using hs.1
  have hn63 : n ≤ 9223372036854775807 := by have h1 := hs.2.1; have h2 := hs.2.2.1; unfold maxLen at h2; omega
  have HL := hide hlen
  clear hlen
  go_enter Tryd.func29, Tryd.ntmps29
  go_wp2
  go_loop [8] (fun i => ∃ k : Nat, k ≤ n ∧ i = .int .i64 k ∧ orL l = orL (l.drop k)) (fun i => n - (intOf i).toNat)
  case atStart => exact ⟨0, Nat.zero_le _, rfl, rfl⟩
  case round =>
    obtain ⟨k, hk, rfl, hor⟩ := hrel
    have HO := hide hor
    clear hor
    by_cases hlt : k < n
    · obtain ⟨b, off, rfl, hb, hc⟩ := hs.at_ (by omega)
      obtain ⟨x, hx⟩ : ∃ x, l[k]? = some x := ⟨l[k]'(by rw [HL.out]; exact hlt), List.getElem?_eq_getElem _⟩
      have cx := hc k (vi x) (by simp [hx])
      have hd : l.drop k = x :: l.drop (k + 1) := by
        obtain ⟨h1, h2⟩ := List.getElem?_eq_some_iff.1 hx
        rw [← h2]; exact List.drop_eq_getElem_cons h1
      have HD := hide hd
      clear hc hx hd
      by_cases h0 : x = 0
      · subst h0
        go_wp2
        go_round
        case rel => exact ⟨k + 1, by omega, by go_num, by rw [HO.out, HD.out]; rfl⟩
        case measure => simp [intOf]; omega
      · have e0 : (x != 0) = true := by simp [h0]
        have H0 := hide h0
        clear h0
        go_wp2
        go_ret
        exact ⟨ret_int (by rw [HO.out, HD.out]; unfold orL; rw [if_neg H0.out]), rfl⟩
    · obtain rfl : k = n := by omega
      go_wp2
      go_ret
      exact ⟨ret_int (by rw [HO.out, List.drop_eq_nil_of_le (by rw [HL.out]; omega)]; rfl), rfl⟩
/-- A block that holds a tuple. -/
def Bt (W : World) (g : Nat) (t : Tup) : Prop := W.heap[g]? = some (.cells #[.int .u32 t.src, .int .u32 t.dst, .int .u16 t.sp, .int .u16 t.dp] 25 (0, 0))
section
variable {W W' : World} {g : Nat} {t : Tup}
theorem Bt.lt (h : Bt W g t) : g < W.heap.size := (Array.getElem?_eq_some_iff.1 h).1
theorem Bt.c0 (h : Bt W g t) : W.cell? ⟨g, 0, none⟩ = some (.int .u32 t.src) := cell_of_row W g 0 _ 25 (0, 0) h
theorem Bt.c1 (h : Bt W g t) : W.cell? ⟨g, 1, none⟩ = some (.int .u32 t.dst) := cell_of_row W g 1 _ 25 (0, 0) h
theorem Bt.c2 (h : Bt W g t) : W.cell? ⟨g, 2, none⟩ = some (.int .u16 t.sp) := cell_of_row W g 2 _ 25 (0, 0) h
theorem Bt.c3 (h : Bt W g t) : W.cell? ⟨g, 3, none⟩ = some (.int .u16 t.dp) := cell_of_row W g 3 _ 25 (0, 0) h
theorem Bt.fz (h : Bt W g t) (i : Nat) : W.frozen? ⟨g, i, none⟩ = false := by
  unfold Bt at h
  simp [World.frozen?, h]
theorem Bt.new (w : World) (t : Tup) : Bt (w.alloc (.cells #[.int .u32 t.src, .int .u32 t.dst, .int .u16 t.sp, .int .u16 t.dp] 25)) w.heap.size t := World.alloc_heap_new w _
theorem Bt.alloc (h : Bt W g t) (o : Obj) : Bt (W.alloc o) g t := (Below.heap_alloc W o g h.lt).trans h
theorem Bt.below {B : Nat} (h : Bt W g t) (hb : Below B W W') (hg : g < B) : Bt W' g t := (hb.block g hg).trans h
theorem Bt.drewN (h : Bt W g t) (k : Nat) : Bt (W.drewN k) g t := h
end
/-- How two tuples are ordered. -/
def cmpT (a b : Tup) : Int := orL [cmpI a.src b.src, cmpI a.dst b.dst, cmpI a.sp b.sp, cmpI a.dp b.dp]
set_option maxRecDepth 100000 in
set_option maxHeartbeats 1000000 in
theorem cmp_lays (a b : Tup) (w : World) : Calls Tryd.prog 13 #[tv a, tv b] w fun e W' => e = .returned (vi (cmpT a b)) ∧ ∃ q os, W' = Sort.grow (w.drewN q) os := by
  unfold cmpT
  have c1 := hide (fun W => cmp32_any a.src b.src W)
  have c2 := hide (fun W => cmp32_any a.dst b.dst W)
  have c3 := hide (fun W => cmp16_any a.sp b.sp W)
  have c4 := hide (fun W => cmp16_any a.dp b.dp W)
  obtain ⟨x1, h1⟩ : ∃ x, cmpI a.src b.src = x := ⟨_, rfl⟩
  obtain ⟨x2, h2⟩ : ∃ x, cmpI a.dst b.dst = x := ⟨_, rfl⟩
  obtain ⟨x3, h3⟩ : ∃ x, cmpI a.sp b.sp = x := ⟨_, rfl⟩
  obtain ⟨x4, h4⟩ : ∃ x, cmpI a.dp b.dp = x := ⟨_, rfl⟩
  rw [h1] at c1
  rw [h2] at c2
  rw [h3] at c3
  rw [h4] at c4
  rw [h1, h2, h3, h4]
  clear h1 h2 h3 h4
  go_enter Tryd.func13, Tryd.ntmps13
  go_wp2
  obtain ⟨W0, hW0⟩ : ∃ W0, (w.alloc (.cells #[.int .u32 a.src, .int .u32 a.dst, .int .u16 a.sp, .int .u16 a.dp] 25)).alloc (.cells #[.int .u32 b.src, .int .u32 b.dst, .int .u16 b.sp, .int .u16 b.dp] 25) = W0 := ⟨_, rfl⟩
  have hA : Bt W0 w.heap.size a := hW0 ▸ (Bt.new w a).alloc _
  have hBb : Bt W0 (w.heap.size + 1) b := by
    have h := Bt.new (w.alloc (.cells #[.int .u32 a.src, .int .u32 a.dst, .int .u16 a.sp, .int .u16 a.dp] 25)) b
    rw [World.size_alloc, hW0] at h
    exact h
  have hW : ∃ os, W0 = Sort.grow w os := ⟨_, by rw [← hW0, Sort.alloc_eq_grow, Sort.alloc_eq_grow, Sort.grow_grow]⟩
  rw [hW0]
  have a0 := hA.c0
  have a1 := hA.c1
  have a2 := hA.c2
  have a3 := hA.c3
  have b0 := hBb.c0
  have b1 := hBb.c1
  have b2 := hBb.c2
  have b3 := hBb.c3
  clear hW0 hA hBb
  refine wp_region_still_tail 20 (by kernel_rfl) (by kernel_rfl) ?_
  simp only [List.take_succ_cons, List.take_zero, List.drop_succ_cons, List.drop_zero]
  iterate 4 still_step
  still_call ((c1.out _).mono fun e w' h => ⟨h.1, h.2.symm⟩)
  iterate 4 still_step
  still_call ((c2.out _).mono fun e w' h => ⟨h.1, h.2.symm⟩)
  iterate 4 still_step
  still_call ((c3.out _).mono fun e w' h => ⟨h.1, h.2.symm⟩)
  iterate 4 still_step
  still_call ((c4.out _).mono fun e w' h => ⟨h.1, h.2.symm⟩)
  refine wpStill_nil ?_
  go_wp2_with fail
  refine (or_any _ 4 4 (W0.heap.size + 1) [x1, x2, x3, x4] _ ?_).mono ?_
  · exact (Sl.made' W0 _ 4 [vi x1, vi x2, vi x3, vi x4] 3 rfl rfl (by simp [maxLen])).drew
  rintro e w1 ⟨rfl, rfl⟩
  go_wp2
  go_ret
  obtain ⟨os, rfl⟩ := hW
  exact ⟨rfl, 1, _, by rw [Sort.alloc_eq_grow, Sort.grow_grow]; rfl⟩
theorem cmp_any (a b : Tup) (w : World) : Calls Tryd.prog 13 #[tv a, tv b] w fun e W' => e = .returned (vi (cmpT a b)) ∧ Below w.heap.size w W' :=
  (cmp_lays a b w).mono fun _ _ ⟨he, q, os, hw⟩ => ⟨he, hw ▸ Lib.below_grow _ w (Nat.le_refl _) q os⟩
end Go.Proofs.YtdlpkphbgbffpaaDoor
