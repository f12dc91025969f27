/-
  The walk of the document's Take.
-/
import Derived.Test.YtdlpkphbgbffpaaDoorTakes
namespace Go.Proofs.YtdlpkphbgbffpaaDoor
open Go Go.RowKit Go.Shelf
set_option linter.unusedSimpArgs false
set_option linter.unusedVariables false
attribute [local go_sem] Oper.semAt_some
theorem num4_lt {l : List Int} (h : isB8 l) (hl : l.length = 4) : 0 ≤ numL 0 l ∧ numL 0 l < 4294967296 := by
  have := numL_in l 0 0 h (by omega) (by decide)
  rw [hl] at this
  exact this
set_option maxRecDepth 100000 in
set_option maxHeartbeats 4000000 in
theorem refTake_any (A : Option Addr) (n c B : Nat) (bs : List Int) (w : World) (hs : Sl w B A n c (bs.map vb)) (hB : B ≤ w.heap.size) (hb : isB8 bs) :
    Calls Tryd.prog 10 #[.slice A n c] w fun e W' => e = .returned (.tuple #[tv (takeT bs).1, .int .i64 (takeT bs).2]) ∧ Below w.heap.size w W' := by
  have hlen : bs.length = n := by simpa using hs.1
  have HL := hide hlen
  clear hlen
  go_enter Tryd.func10, Tryd.ntmps10
  have bz := Bt.new w zeroT
  have hBz : Below w.heap.size w (w.alloc (.cells #[.int .u32 0, .int .u32 0, .int .u16 0, .int .u16 0] 25)) := (Below.refl _ w).alloc (Nat.le_refl _) _
  obtain ⟨W1, hW1⟩ : ∃ W1, w.alloc (.cells #[.int .u32 0, .int .u32 0, .int .u16 0, .int .u16 0] 25) = W1 := ⟨_, rfl⟩
  have hbz : Bt W1 w.heap.size zeroT := hW1 ▸ bz
  clear bz
  have z0 := hbz.c0
  have z1 := hbz.c1
  have z2 := hbz.c2
  have z3 := hbz.c3
  have y0 := hbz.fz 0
  have y1 := hbz.fz 1
  have y2 := hbz.fz 2
  have y3 := hbz.fz 3
  simp only [zeroT] at z0 z1 z2 z3
  rw [hW1] at hBz
  rcases Nat.lt_trichotomy n 12 with h12 | h12 | h12
  · have hT := hide (show takeT bs = (zeroT, 61) from by unfold takeT; rw [HL.out, if_pos h12])
    go_wp2
    have hb5 : Bt ((((W1.setCell ⟨w.heap.size, 0, none⟩ (.int .u32 0)).setCell ⟨w.heap.size, 1, none⟩ (.int .u32 0)).setCell ⟨w.heap.size, 2, none⟩ (.int .u16 0)).setCell ⟨w.heap.size, 3, none⟩ (.int .u16 0)) w.heap.size ⟨0, 0, 0, 0⟩ := setBt (s := ⟨0, 0, 0, 0⟩) hbz
    have hB5 : Below w.heap.size w ((((W1.setCell ⟨w.heap.size, 0, none⟩ (.int .u32 0)).setCell ⟨w.heap.size, 1, none⟩ (.int .u32 0)).setCell ⟨w.heap.size, 2, none⟩ (.int .u16 0)).setCell ⟨w.heap.size, 3, none⟩ (.int .u16 0)) := (((((hBz).setCell (p := ⟨w.heap.size, 0, none⟩) (Nat.le_refl _) (.int .u32 0)).setCell (p := ⟨w.heap.size, 1, none⟩) (Nat.le_refl _) (.int .u32 0)).setCell (p := ⟨w.heap.size, 2, none⟩) (Nat.le_refl _) (.int .u16 0)).setCell (p := ⟨w.heap.size, 3, none⟩) (Nat.le_refl _) (.int .u16 0))
    obtain ⟨W5, hW5⟩ : ∃ W5, ((((W1.setCell ⟨w.heap.size, 0, none⟩ (.int .u32 0)).setCell ⟨w.heap.size, 1, none⟩ (.int .u32 0)).setCell ⟨w.heap.size, 2, none⟩ (.int .u16 0)).setCell ⟨w.heap.size, 3, none⟩ (.int .u16 0)) = W5 := ⟨_, rfl⟩
    rw [hW5] at hb5 hB5
    first | rw [hW5] | (show bodyPost _ _ _ _ _ ((((W1.setCell ⟨w.heap.size, 0, none⟩ (.int .u32 0)).setCell ⟨w.heap.size, 1, none⟩ (.int .u32 0)).setCell ⟨w.heap.size, 2, none⟩ (.int .u16 0)).setCell ⟨w.heap.size, 3, none⟩ (.int .u16 0)); rw [hW5])
    clear hW5
    have x0 := hb5.c0
    have x1 := hb5.c1
    have x2 := hb5.c2
    have x3 := hb5.c3
    simp only at x0 x1 x2 x3
    refine bodyPost_ret (v := .tuple #[tv ⟨0, 0, 0, 0⟩, .int .i64 61]) (by simp [results, Tryd.f10, go_sem, x0, x1, x2, x3]) rfl ?_
    exact ⟨by rw [hT.out]; rfl, hB5⟩
  · subst h12
    obtain ⟨b, off, rfl, hbB, _⟩ := hs.at_ (by omega)
    have hc := hs.2.1
    have hcm := hs.2.2.1
    have hs1 := hs.take (k := 4) (by omega)
    have hs2 := (hs.cut (k := 4) (by omega)).take (k := 4) (by omega)
    have hs3 := (hs.cut (k := 8) (by omega)).take (k := 2) (by omega)
    have hs4 := hs.cut (k := 10) (by omega)
    clear hs
    have b1 : isB8 (bs.take 4) := fun x hx => hb x (List.mem_of_mem_take hx)
    have b2 : isB8 ((bs.drop 4).take 4) := fun x hx => hb x (List.mem_of_mem_drop (List.mem_of_mem_take hx))
    have b3 : isB8 ((bs.drop 8).take 2) := fun x hx => hb x (List.mem_of_mem_drop (List.mem_of_mem_take hx))
    have b4 : isB8 (bs.drop 10) := fun x hx => hb x (List.mem_of_mem_drop hx)
    have e4 : c ≠ 4 := by omega
    have e8 : c ≠ 8 := by omega
    have e10 : c ≠ 10 := by omega
    have f1 := (hs1.below (hBz.mono hB)).drew
    have f2 := (hs2.below (hBz.mono hB)).drew
    have f3 := (hs3.below (hBz.mono hB)).drew
    have f4 := (hs4.below (hBz.mono hB)).drew
    rw [← List.map_take] at f1
    rw [← List.map_drop, ← List.map_take] at f2 f3
    rw [← List.map_drop] at f4
    obtain ⟨n1, hn1⟩ : ∃ n, numL 0 (bs.take 4) = n := ⟨_, rfl⟩
    obtain ⟨n2, hn2⟩ : ∃ n, numL 0 ((bs.drop 4).take 4) = n := ⟨_, rfl⟩
    obtain ⟨n3, hn3⟩ : ∃ n, numL 0 ((bs.drop 8).take 2) = n := ⟨_, rfl⟩
    obtain ⟨n4, hn4⟩ : ∃ n, numL 0 (bs.drop 10) = n := ⟨_, rfl⟩
    have k1 := num4_lt b1 (by simp [HL.out])
    have k2 := num4_lt b2 (by simp [HL.out])
    have k3 := num2_in b3 (by simp [HL.out])
    have k4 := num2_in b4 (by simp [HL.out])
    rw [hn1] at k1
    rw [hn2] at k2
    rw [hn3] at k3
    rw [hn4] at k4
    have v1 : IntKind.u32.wrap n1 = n1 := by simp [IntKind.wrap, IntKind.bits, IntKind.signed]; omega
    have v2 : IntKind.u32.wrap n2 = n2 := by simp [IntKind.wrap, IntKind.bits, IntKind.signed]; omega
    have v3 : IntKind.u16.wrap n3 = n3 := by simp [IntKind.wrap, IntKind.bits, IntKind.signed]; omega
    have v4 : IntKind.u16.wrap n4 = n4 := by simp [IntKind.wrap, IntKind.bits, IntKind.signed]; omega
    have hT := hide (show takeT bs = (⟨n1, n2, n3, n4⟩, 0) from by
      unfold takeT
      rw [HL.out, if_neg (by omega), if_neg (by omega), hn1, hn2, hn3, hn4])
    go_wp2
    refine wp_region_any (by kernel_rfl) ?_
    change wpAny _ _ _ _ _ _ _ (World.drew _)
    refine take_slot (i := 0) (some 12) #[true, false, false, false, false, false, false, false, false, false, false, false, false, false, false, false, false, false, false] (v := ?_) rfl (by kernel_rfl) (by kernel_rfl) (by kernel_rfl) (by kernel_rfl) (by kernel_rfl) (fun _ _ _ h => h) (Or.inl ⟨by kernel_rfl, ?hya0_1⟩) ?hra0_1
    case hya0_1 => intro w; go_simp; try with_reducible rfl
    refine take_slot (i := 1) (some 13) #[true, true, false, false, false, false, false, false, false, false, false, false, false, false, false, false, false, false, false] (v := .slice (some ⟨b, off, none⟩) 4 c) rfl (by kernel_rfl) (by kernel_rfl) (by kernel_rfl) (by kernel_rfl) (by kernel_rfl) (fun _ _ _ h => h) (Or.inl ⟨by kernel_rfl, ?hya1_2⟩) ?_
    case hya1_2 => intro w; go_simp; try (first | rfl | (intro hh; omega))
    refine take_slot (i := 4) (some 16) #[true, true, false, false, true, false, false, false, false, false, false, false, false, false, false, false, false, false, false] (v := ?_) rfl (by kernel_rfl) (by kernel_rfl) (by kernel_rfl) (by kernel_rfl) (by kernel_rfl) (fun _ _ _ h => h) (Or.inl ⟨by kernel_rfl, ?hya4_3⟩) ?hra4_3
    case hya4_3 => intro w; go_simp; try with_reducible rfl
    refine take_slot (i := 5) (some 17) #[true, true, false, false, true, true, false, false, false, false, false, false, false, false, false, false, false, false, false] (v := .slice (some ⟨b, off + 4, none⟩) 4 (c - 4)) rfl (by kernel_rfl) (by kernel_rfl) (by kernel_rfl) (by kernel_rfl) (by kernel_rfl) (fun _ _ _ h => h) (Or.inl ⟨by kernel_rfl, ?hya5_4⟩) ?_
    case hya5_4 => intro w; go_simp; try (first | rfl | (intro hh; omega))
    refine take_slot (i := 8) (some 20) #[true, true, false, false, true, true, false, false, true, false, false, false, false, false, false, false, false, false, false] (v := ?_) rfl (by kernel_rfl) (by kernel_rfl) (by kernel_rfl) (by kernel_rfl) (by kernel_rfl) (fun _ _ _ h => h) (Or.inl ⟨by kernel_rfl, ?hya8_5⟩) ?hra8_5
    case hya8_5 => intro w; go_simp; try with_reducible rfl
    refine take_slot (i := 9) (some 21) #[true, true, false, false, true, true, false, false, true, true, false, false, false, false, false, false, false, false, false] (v := .slice (some ⟨b, off + 8, none⟩) 2 (c - 8)) rfl (by kernel_rfl) (by kernel_rfl) (by kernel_rfl) (by kernel_rfl) (by kernel_rfl) (fun _ _ _ h => h) (Or.inl ⟨by kernel_rfl, ?hya9_6⟩) ?_
    case hya9_6 => intro w; go_simp; try (first | rfl | (intro hh; omega))
    refine take_slot (i := 12) (some 24) #[true, true, false, false, true, true, false, false, true, true, false, false, true, false, false, false, false, false, false] (v := ?_) rfl (by kernel_rfl) (by kernel_rfl) (by kernel_rfl) (by kernel_rfl) (by kernel_rfl) (fun _ _ _ h => h) (Or.inl ⟨by kernel_rfl, ?hya12_7⟩) ?hra12_7
    case hya12_7 => intro w; go_simp; try with_reducible rfl
    refine take_slot (i := 13) (some 25) #[true, true, false, false, true, true, false, false, true, true, false, false, true, true, false, false, false, false, false] (v := .slice (some ⟨b, off + 10, none⟩) 2 (c - 10)) rfl (by kernel_rfl) (by kernel_rfl) (by kernel_rfl) (by kernel_rfl) (by kernel_rfl) (fun _ _ _ h => h) (Or.inl ⟨by kernel_rfl, ?hya13_8⟩) ?_
    case hya13_8 => intro w; go_simp; try (first | rfl | (intro hh; omega))
    refine wpAny_ready (rs := [2]) (by kernel_rfl) (by simp) ?_
    refine AllReady.cons rfl (fun K hK => ?_) AllReady.nil
    try simp only [Act.put, List.setIfInBounds_toArray, List.set_cons_zero, List.set_cons_succ]
    go_simp
    (with_reducible refine (refNumber_any _ 4 c B (bs.take 4) _ ?_ (by omega) ?_).mono ?_)
    · exact f1
    · exact b1
    rintro e w7 ⟨rfl, rfl⟩
    go_simp
    refine hK _ _ ?_
    clear hK K
    refine take_slot (i := 3) (some 15) #[true, true, true, true, true, true, false, false, true, true, false, false, true, true, false, false, false, false, false] (v := .int .u32 n1) rfl (by kernel_rfl) (by kernel_rfl) (by kernel_rfl) (by kernel_rfl) (by kernel_rfl) (fun _ _ _ h => h) (Or.inl ⟨by kernel_rfl, ?hya3_9⟩) ?_
    case hya3_9 => intro w; go_simp; try (first | rfl | (intro hh; omega))
    refine wpAny_ready (rs := [6]) (by kernel_rfl) (by simp) ?_
    refine AllReady.cons rfl (fun K hK => ?_) AllReady.nil
    try simp only [Act.put, List.setIfInBounds_toArray, List.set_cons_zero, List.set_cons_succ]
    go_simp
    (with_reducible refine (refNumber_any _ 4 (c - 4) B ((bs.drop 4).take 4) _ ?_ (by omega) ?_).mono ?_)
    · exact f2
    · exact b2
    rintro e w7 ⟨rfl, rfl⟩
    go_simp
    refine hK _ _ ?_
    clear hK K
    refine take_slot (i := 7) (some 19) #[true, true, true, true, true, true, true, true, true, true, false, false, true, true, false, false, false, false, false] (v := .int .u32 n2) rfl (by kernel_rfl) (by kernel_rfl) (by kernel_rfl) (by kernel_rfl) (by kernel_rfl) (fun _ _ _ h => h) (Or.inl ⟨by kernel_rfl, ?hya7_10⟩) ?_
    case hya7_10 => intro w; go_simp; try (first | rfl | (intro hh; omega))
    refine wpAny_ready (rs := [10]) (by kernel_rfl) (by simp) ?_
    refine AllReady.cons rfl (fun K hK => ?_) AllReady.nil
    try simp only [Act.put, List.setIfInBounds_toArray, List.set_cons_zero, List.set_cons_succ]
    go_simp
    (with_reducible refine (refNumber_any _ 2 (c - 8) B ((bs.drop 8).take 2) _ ?_ (by omega) ?_).mono ?_)
    · exact f3
    · exact b3
    rintro e w7 ⟨rfl, rfl⟩
    go_simp
    refine hK _ _ ?_
    clear hK K
    refine take_slot (i := 11) (some 23) #[true, true, true, true, true, true, true, true, true, true, true, true, true, true, false, false, false, false, false] (v := .int .u16 n3) rfl (by kernel_rfl) (by kernel_rfl) (by kernel_rfl) (by kernel_rfl) (by kernel_rfl) (fun _ _ _ h => h) (Or.inl ⟨by kernel_rfl, ?hya11_11⟩) ?_
    case hya11_11 => intro w; go_simp; try (first | rfl | (intro hh; omega))
    refine wpAny_ready (rs := [14]) (by kernel_rfl) (by simp) ?_
    refine AllReady.cons rfl (fun K hK => ?_) AllReady.nil
    try simp only [Act.put, List.setIfInBounds_toArray, List.set_cons_zero, List.set_cons_succ]
    go_simp
    (with_reducible refine (refNumber_any _ 2 (c - 10) B (bs.drop 10) _ ?_ (by omega) ?_).mono ?_)
    · exact f4
    · exact b4
    rintro e w7 ⟨rfl, rfl⟩
    go_simp
    refine hK _ _ ?_
    clear hK K
    refine take_slot (i := 15) (some 27) #[true, true, true, true, true, true, true, true, true, true, true, true, true, true, true, true, false, false, false] (v := .int .u16 n4) rfl (by kernel_rfl) (by kernel_rfl) (by kernel_rfl) (by kernel_rfl) (by kernel_rfl) (fun _ _ _ h => h) (Or.inl ⟨by kernel_rfl, ?hya15_12⟩) ?_
    case hya15_12 => intro w; go_simp; try (first | rfl | (intro hh; omega))
    refine take_slot (i := 16) (some 28) #[true, true, true, true, true, true, true, true, true, true, true, true, true, true, true, true, true, false, false] (v := .agg #[.int .u32 n1, .int .u32 n2, .int .u16 n3, .int .u16 n4]) rfl (by kernel_rfl) (by kernel_rfl) (by kernel_rfl) (by kernel_rfl) (by kernel_rfl) (fun _ _ _ h => h) (Or.inl ⟨by kernel_rfl, ?hya16_13⟩) ?_
    case hya16_13 => intro w; go_simp; try (first | rfl | (intro hh; omega))
    refine wpAny_ready (rs := [17]) (by kernel_rfl) (by simp) ?_
    refine AllReady.cons rfl (fun K hK => ?_) AllReady.nil
    try simp only [Act.put, List.setIfInBounds_toArray, List.set_cons_zero, List.set_cons_succ]
    go_simp
    refine hK _ _ ?_
    clear hK K
    refine take_slot (i := 18) (some 3) #[true, true, true, true, true, true, true, true, true, true, true, true, true, true, true, true, true, true, true] (v := ?_) rfl (by kernel_rfl) (by kernel_rfl) (by kernel_rfl) (by kernel_rfl) (by kernel_rfl) (fun _ _ _ h => h) (Or.inl ⟨by kernel_rfl, ?hya18_14⟩) ?hra18_14
    case hya18_14 => intro w; go_simp; try with_reducible rfl
    refine wpAny_done (by kernel_rfl) ?_ _
    try simp only [Act.put, List.setIfInBounds_toArray, List.set_cons_zero, List.set_cons_succ]
    go_wp2
    have hb5 : Bt ((((W1.setCell ⟨w.heap.size, 0, none⟩ (.int .u32 n1)).setCell ⟨w.heap.size, 1, none⟩ (.int .u32 n2)).setCell ⟨w.heap.size, 2, none⟩ (.int .u16 n3)).setCell ⟨w.heap.size, 3, none⟩ (.int .u16 n4)).drew w.heap.size ⟨n1, n2, n3, n4⟩ := setBt (s := ⟨n1, n2, n3, n4⟩) hbz
    have hB5 : Below w.heap.size w ((((W1.setCell ⟨w.heap.size, 0, none⟩ (.int .u32 n1)).setCell ⟨w.heap.size, 1, none⟩ (.int .u32 n2)).setCell ⟨w.heap.size, 2, none⟩ (.int .u16 n3)).setCell ⟨w.heap.size, 3, none⟩ (.int .u16 n4)).drew := (((((hBz).setCell (p := ⟨w.heap.size, 0, none⟩) (Nat.le_refl _) (.int .u32 n1)).setCell (p := ⟨w.heap.size, 1, none⟩) (Nat.le_refl _) (.int .u32 n2)).setCell (p := ⟨w.heap.size, 2, none⟩) (Nat.le_refl _) (.int .u16 n3)).setCell (p := ⟨w.heap.size, 3, none⟩) (Nat.le_refl _) (.int .u16 n4)).drew
    obtain ⟨W5, hW5⟩ : ∃ W5, ((((W1.setCell ⟨w.heap.size, 0, none⟩ (.int .u32 n1)).setCell ⟨w.heap.size, 1, none⟩ (.int .u32 n2)).setCell ⟨w.heap.size, 2, none⟩ (.int .u16 n3)).setCell ⟨w.heap.size, 3, none⟩ (.int .u16 n4)).drew = W5 := ⟨_, rfl⟩
    rw [hW5] at hb5 hB5
    first | rw [hW5] | (show bodyPost _ _ _ _ _ ((((W1.setCell ⟨w.heap.size, 0, none⟩ (.int .u32 n1)).setCell ⟨w.heap.size, 1, none⟩ (.int .u32 n2)).setCell ⟨w.heap.size, 2, none⟩ (.int .u16 n3)).setCell ⟨w.heap.size, 3, none⟩ (.int .u16 n4)).drew; rw [hW5])
    clear hW5
    have x0 := hb5.c0
    have x1 := hb5.c1
    have x2 := hb5.c2
    have x3 := hb5.c3
    simp only at x0 x1 x2 x3
    refine bodyPost_ret (v := .tuple #[tv ⟨n1, n2, n3, n4⟩, .int .i64 0]) (by simp [results, Tryd.f10, go_sem, x0, x1, x2, x3]) rfl ?_
    exact ⟨by rw [hT.out], hB5⟩
  · have hT := hide (show takeT bs = (zeroT, 60) from by unfold takeT; rw [HL.out, if_neg (by omega), if_pos h12])
    go_wp2
    have hb5 : Bt ((((W1.setCell ⟨w.heap.size, 0, none⟩ (.int .u32 0)).setCell ⟨w.heap.size, 1, none⟩ (.int .u32 0)).setCell ⟨w.heap.size, 2, none⟩ (.int .u16 0)).setCell ⟨w.heap.size, 3, none⟩ (.int .u16 0)) w.heap.size ⟨0, 0, 0, 0⟩ := setBt (s := ⟨0, 0, 0, 0⟩) hbz
    have hB5 : Below w.heap.size w ((((W1.setCell ⟨w.heap.size, 0, none⟩ (.int .u32 0)).setCell ⟨w.heap.size, 1, none⟩ (.int .u32 0)).setCell ⟨w.heap.size, 2, none⟩ (.int .u16 0)).setCell ⟨w.heap.size, 3, none⟩ (.int .u16 0)) := (((((hBz).setCell (p := ⟨w.heap.size, 0, none⟩) (Nat.le_refl _) (.int .u32 0)).setCell (p := ⟨w.heap.size, 1, none⟩) (Nat.le_refl _) (.int .u32 0)).setCell (p := ⟨w.heap.size, 2, none⟩) (Nat.le_refl _) (.int .u16 0)).setCell (p := ⟨w.heap.size, 3, none⟩) (Nat.le_refl _) (.int .u16 0))
    obtain ⟨W5, hW5⟩ : ∃ W5, ((((W1.setCell ⟨w.heap.size, 0, none⟩ (.int .u32 0)).setCell ⟨w.heap.size, 1, none⟩ (.int .u32 0)).setCell ⟨w.heap.size, 2, none⟩ (.int .u16 0)).setCell ⟨w.heap.size, 3, none⟩ (.int .u16 0)) = W5 := ⟨_, rfl⟩
    rw [hW5] at hb5 hB5
    first | rw [hW5] | (show bodyPost _ _ _ _ _ ((((W1.setCell ⟨w.heap.size, 0, none⟩ (.int .u32 0)).setCell ⟨w.heap.size, 1, none⟩ (.int .u32 0)).setCell ⟨w.heap.size, 2, none⟩ (.int .u16 0)).setCell ⟨w.heap.size, 3, none⟩ (.int .u16 0)); rw [hW5])
    clear hW5
    have x0 := hb5.c0
    have x1 := hb5.c1
    have x2 := hb5.c2
    have x3 := hb5.c3
    simp only at x0 x1 x2 x3
    refine bodyPost_ret (v := .tuple #[tv ⟨0, 0, 0, 0⟩, .int .i64 60]) (by simp [results, Tryd.f10, go_sem, x0, x1, x2, x3]) rfl ?_
    exact ⟨by rw [hT.out]; rfl, hB5⟩
end Go.Proofs.YtdlpkphbgbffpaaDoor
