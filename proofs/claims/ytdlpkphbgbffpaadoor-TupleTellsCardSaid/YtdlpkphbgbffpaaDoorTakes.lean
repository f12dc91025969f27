/-
  A tuple taken out of bytes.
-/
import Derived.Test.YtdlpkphbgbffpaaDoorTups
import Derived.Test.YtdlpkphbgbffpaaDoorTake
import Derived.Test.YtdlpkphbgbffpaaDoorNumber
namespace Go.Proofs.YtdlpkphbgbffpaaDoor
open Go Go.RowKit Go.Shelf
set_option linter.unusedSimpArgs false
set_option linter.unusedVariables false
attribute [local go_sem] Oper.semAt_some
def zeroT : Tup := ⟨0, 0, 0, 0⟩
/-- What is taken of bytes: a tuple, and what is amiss. -/
def takeT (bs : List Int) : Tup × Int :=
  if bs.length < 12 then (zeroT, 61) else if 12 < bs.length then (zeroT, 60) else (⟨numL 0 (bs.take 4), numL 0 ((bs.drop 4).take 4), numL 0 ((bs.drop 8).take 2), numL 0 (bs.drop 10)⟩, 0)
def isB8 (bs : List Int) : Prop := ∀ x ∈ bs, 0 ≤ x ∧ x < 256
theorem numL_in : ∀ (l : List Int) (n : Int) (k : Nat), isB8 l → 0 ≤ n → n < 256 ^ k → 0 ≤ numL n l ∧ numL n l < 256 ^ (k + l.length)
  | [], n, k, _, h0, h1 => ⟨h0, by simpa [numL] using h1⟩
  | x :: l, n, k, hl, h0, h1 => by
    have hx := hl x (by simp)
    have := numL_in l (n * 256 + x) (k + 1) (fun y hy => hl y (by simp [hy])) (by omega) (by rw [Int.pow_succ]; omega)
    rw [numL, List.length_cons, show k + (l.length + 1) = k + 1 + l.length by omega]
    exact this
theorem num2_in {l : List Int} (h : isB8 l) (hl : l.length = 2) : 0 ≤ numL 0 l ∧ numL 0 l < 65536 := by
  have := numL_in l 0 0 h (by omega) (by decide)
  rw [hl] at this
  exact this
theorem setBt12 {W : World} {g : Nat} {t : Tup} {a b : Int} (h : Bt W g t) : Bt ((W.setCell ⟨g, 0, none⟩ (.int .u32 a)).setCell ⟨g, 1, none⟩ (.int .u32 b)) g ⟨a, b, t.sp, t.dp⟩ := by
  unfold Bt at h ⊢
  simp [World.setCell, Array.getElem?_modify, h]
theorem setBt34 {W : World} {g : Nat} {t : Tup} {a b : Int} (h : Bt W g t) : Bt ((W.setCell ⟨g, 2, none⟩ (.int .u16 a)).setCell ⟨g, 3, none⟩ (.int .u16 b)) g ⟨t.src, t.dst, a, b⟩ := by
  unfold Bt at h ⊢
  simp [World.setCell, Array.getElem?_modify, h]
theorem setBt {W : World} {g : Nat} {t s : Tup} (h : Bt W g t) : Bt ((((W.setCell ⟨g, 0, none⟩ (.int .u32 s.src)).setCell ⟨g, 1, none⟩ (.int .u32 s.dst)).setCell ⟨g, 2, none⟩ (.int .u16 s.sp)).setCell ⟨g, 3, none⟩ (.int .u16 s.dp)) g s := by
  unfold Bt at h ⊢
  simp [World.setCell, Array.getElem?_modify, h]
def TakeJ (A : Option Addr) (n c : Nat) (r : Int) (w : World) (a' : Act) (W : World) : Prop :=
  ∃ u1 u4 u5 u6 u7 u8 u9, a' = { tmps := #[.slice A n c, u1, .pointer (some ⟨w.heap.size, 0, none⟩), .int .i64 r, u4, u5, u6, u7, u8, u9, undef, undef, undef, undef, undef, undef, undef, undef, undef, undef, undef, undef, undef, undef, undef, undef, undef, undef, undef, undef, undef], defers := [] } ∧ W = w.alloc (.cells #[.int .u32 0, .int .u32 0, .int .u16 0, .int .u16 0] 25)
set_option maxRecDepth 100000 in
set_option maxHeartbeats 2000000 in
theorem take_any (A : Option Addr) (n c B : Nat) (bs : List Int) (w : World) (hs : Sl w B A n c (bs.map vb)) (hB : B ≤ w.heap.size) (hb : isB8 bs) :
    Calls Tryd.prog 9 #[.slice A n c] w fun e W' => e = .returned (.tuple #[tv (takeT bs).1, .int .i64 (takeT bs).2]) ∧ Below w.heap.size w W' := by
  have hlen : bs.length = n := by simpa using hs.1
  have HL := hide hlen
  clear hlen
  go_enter Tryd.func9, Tryd.ntmps9
  have bz := Bt.new w zeroT
  have z0 := bz.c0
  have z1 := bz.c1
  have z2 := bz.c2
  have z3 := bz.c3
  have hBz : Below w.heap.size w (w.alloc (.cells #[.int .u32 0, .int .u32 0, .int .u16 0, .int .u16 0] 25)) := (Below.refl _ w).alloc (Nat.le_refl _) _
  simp only [zeroT] at z0 z1 z2 z3
  rcases Nat.lt_trichotomy n 12 with h12 | h12 | h12
  · have hT := hide (show takeT bs = (zeroT, 61) from by unfold takeT; rw [HL.out, if_pos h12])
    go_wp2
    refine wp_scope_jumps 0 (TakeJ A n c 61 w) (fun _ _ => 0) rfl ?_ ?_
    · go_wp2
      refine wp_goto ?_
      exact And.intro rfl ⟨_, _, _, _, _, _, _, rfl, rfl⟩
    · rintro a' W ⟨u1, u4, u5, u6, u7, u8, u9, rfl, rfl⟩
      go_wp2
      simp only [Exit.jump]
      refine bodyPost_ret (v := .tuple #[tv zeroT, .int .i64 61]) (by simp [results, Tryd.f9, go_sem, z0, z1, z2, z3, zeroT]) rfl ?_
      exact ⟨by rw [hT.out], hBz⟩
  · subst h12
    obtain ⟨b, off, rfl, hbB, _⟩ := hs.at_ (by omega)
    have hc := hs.2.1
    have hcm := hs.2.2.1
    have hs1 := hs.take (k := 4) (by omega)
    have hs2 := (hs.cut (k := 4) (by omega)).take (k := 4) (by omega)
    have hs3 := (hs.cut (k := 8) (by omega)).take (k := 2) (by omega)
    have hs4 := hs.cut (k := 10) (by omega)
    clear hs
    have b1 : isB8 (bs.take 4) := fun x hx => hb x (List.mem_of_mem_take hx)
    have b2 : isB8 ((bs.drop 4).take 4) := fun x hx => hb x (List.mem_of_mem_drop (List.mem_of_mem_take hx))
    have b3 : isB8 ((bs.drop 8).take 2) := fun x hx => hb x (List.mem_of_mem_drop (List.mem_of_mem_take hx))
    have b4 : isB8 (bs.drop 10) := fun x hx => hb x (List.mem_of_mem_drop hx)
    have e4 : c ≠ 4 := by omega
    have e8 : c ≠ 8 := by omega
    have e10 : c ≠ 10 := by omega
    go_wp2
    refine wp_scope_jumps 0 (fun _ _ => False) (fun _ _ => 0) rfl ?_ ?_
    · go_wp2
      obtain ⟨W1, hW1⟩ : ∃ W1, w.alloc (.cells #[.int .u32 0, .int .u32 0, .int .u16 0, .int .u16 0] 25) = W1 := ⟨_, rfl⟩
      have hbz : Bt W1 w.heap.size zeroT := hW1 ▸ bz
      rw [hW1] at hBz ⊢
      clear z0 z1 z2 z3 bz hW1
      have z0 := hbz.c0
      have z1 := hbz.c1
      have z2 := hbz.c2
      have z3 := hbz.c3
      have y0 := hbz.fz 0
      have y1 := hbz.fz 1
      have y2 := hbz.fz 2
      have y3 := hbz.fz 3
      simp only [zeroT] at z0 z1 z2 z3
      have f1 := (hs1.below (hBz.mono hB)).drew
      have f2 := (hs2.below (hBz.mono hB)).drew
      rw [← List.map_take] at f1
      rw [← List.map_drop, ← List.map_take] at f2
      --R56
      refine wp_region_any (by kernel_rfl) ?_
      change wpAny _ _ _ _ _ _ _ (World.drew _)
      refine take_slot (i := 0) (some 10) #[true, false, false, false, false, false, false, false, false, false] (v := ?_) rfl (by kernel_rfl) (by kernel_rfl) (by kernel_rfl) (by kernel_rfl) (by kernel_rfl) (fun _ _ _ h => h) (Or.inl ⟨by kernel_rfl, ?hya0_1⟩) ?hra0_1
      case hya0_1 => intro w; go_simp; try with_reducible rfl
      refine take_slot (i := 1) (some 11) #[true, true, false, false, false, false, false, false, false, false] (v := .slice (some ⟨b, off, none⟩) 4 c) rfl (by kernel_rfl) (by kernel_rfl) (by kernel_rfl) (by kernel_rfl) (by kernel_rfl) (fun _ _ _ h => h) (Or.inl ⟨by kernel_rfl, ?hya1_2⟩) ?_
      case hya1_2 => intro w; go_simp; try (first | rfl | (intro hh; omega))
      refine take_slot (i := 3) (some 13) #[true, true, false, true, false, false, false, false, false, false] (v := ?_) rfl (by kernel_rfl) (by kernel_rfl) (by kernel_rfl) (by kernel_rfl) (by kernel_rfl) (fun _ _ _ h => h) (Or.inl ⟨by kernel_rfl, ?hya3_3⟩) ?hra3_3
      case hya3_3 => intro w; go_simp; try with_reducible rfl
      refine take_slot (i := 4) (some 14) #[true, true, false, true, true, false, false, false, false, false] (v := .slice (some ⟨b, off + 4, none⟩) 4 (c - 4)) rfl (by kernel_rfl) (by kernel_rfl) (by kernel_rfl) (by kernel_rfl) (by kernel_rfl) (fun _ _ _ h => h) (Or.inl ⟨by kernel_rfl, ?hya4_4⟩) ?_
      case hya4_4 => intro w; go_simp; try (first | rfl | (intro hh; omega))
      refine wpAny_ready (rs := [2]) (by kernel_rfl) (by simp) ?_
      refine AllReady.cons rfl (fun K hK => ?_) AllReady.nil
      try simp only [Act.put, List.setIfInBounds_toArray, List.set_cons_zero, List.set_cons_succ]
      go_simp
      (with_reducible refine (number_any _ 4 c B (bs.take 4) _ ?_ (by omega) ?_).mono ?_)
      · exact f1
      · exact b1
      rintro e w7 ⟨rfl, rfl⟩
      go_simp
      refine hK _ _ ?_
      clear hK K
      refine take_slot (i := 6) (some 16) #[true, true, true, true, true, false, true, false, false, false] (v := ?_) rfl (by kernel_rfl) (by kernel_rfl) (by kernel_rfl) (by kernel_rfl) (by kernel_rfl) (fun _ _ _ h => h) (Or.inl ⟨by kernel_rfl, ?hya6_5⟩) ?hra6_5
      case hya6_5 => intro w; go_simp; try with_reducible rfl
      refine wpAny_ready (rs := [5]) (by kernel_rfl) (by simp) ?_
      refine AllReady.cons rfl (fun K hK => ?_) AllReady.nil
      try simp only [Act.put, List.setIfInBounds_toArray, List.set_cons_zero, List.set_cons_succ]
      go_simp
      (with_reducible refine (number_any _ 4 (c - 4) B ((bs.drop 4).take 4) _ ?_ (by omega) ?_).mono ?_)
      · exact f2
      · exact b2
      rintro e w7 ⟨rfl, rfl⟩
      go_simp
      refine hK _ _ ?_
      clear hK K
      refine wpAny_ready (rs := [7]) (by kernel_rfl) (by simp) ?_
      refine AllReady.cons rfl (fun K hK => ?_) AllReady.nil
      try simp only [Act.put, List.setIfInBounds_toArray, List.set_cons_zero, List.set_cons_succ]
      go_simp
      refine hK _ _ ?_
      clear hK K
      refine take_slot (i := 8) (some 17) #[true, true, true, true, true, true, true, true, true, false] (v := ?_) rfl (by kernel_rfl) (by kernel_rfl) (by kernel_rfl) (by kernel_rfl) (by kernel_rfl) (fun _ _ _ h => h) (Or.inl ⟨by kernel_rfl, ?hya8_6⟩) ?hra8_6
      case hya8_6 => intro w; go_simp; try with_reducible rfl
      refine wpAny_ready (rs := [9]) (by kernel_rfl) (by simp) ?_
      refine AllReady.cons rfl (fun K hK => ?_) AllReady.nil
      try simp only [Act.put, List.setIfInBounds_toArray, List.set_cons_zero, List.set_cons_succ]
      go_simp
      refine hK _ _ ?_
      clear hK K
      refine wpAny_done (by kernel_rfl) ?_ _
      try simp only [Act.put, List.setIfInBounds_toArray, List.set_cons_zero, List.set_cons_succ]
      obtain ⟨n1, hn1⟩ : ∃ n, numL 0 (bs.take 4) = n := ⟨_, rfl⟩
      obtain ⟨n2, hn2⟩ : ∃ n, numL 0 ((bs.drop 4).take 4) = n := ⟨_, rfl⟩
      rw [hn1, hn2]
      have hN1 := hide hn1
      have hN2 := hide hn2
      have hbt : Bt ((W1.setCell ⟨w.heap.size, 0, none⟩ (.int .u32 n1)).setCell ⟨w.heap.size, 1, none⟩ (.int .u32 n2)).drew w.heap.size ⟨n1, n2, 0, 0⟩ := setBt12 hbz
      have hB2 : Below w.heap.size w ((W1.setCell ⟨w.heap.size, 0, none⟩ (.int .u32 n1)).setCell ⟨w.heap.size, 1, none⟩ (.int .u32 n2)).drew := ((hBz.setCell (p := ⟨w.heap.size, 0, none⟩) (Nat.le_refl _) _).setCell (p := ⟨w.heap.size, 1, none⟩) (Nat.le_refl _) _).drew
      obtain ⟨W2, hW2⟩ : ∃ W2, ((W1.setCell ⟨w.heap.size, 0, none⟩ (.int .u32 n1)).setCell ⟨w.heap.size, 1, none⟩ (.int .u32 n2)).drew = W2 := ⟨_, rfl⟩
      rw [hW2] at hbt hB2 ⊢
      clear hW2 z0 z1 z2 z3 y0 y1 y2 y3 f1 f2 hbz hBz hn1 hn2
      have z0 := hbt.c0
      have z1 := hbt.c1
      have z2 := hbt.c2
      have z3 := hbt.c3
      have y0 := hbt.fz 0
      have y1 := hbt.fz 1
      have y2 := hbt.fz 2
      have y3 := hbt.fz 3
      simp only at z0 z1 z2 z3
      have f3 := (hs3.below (hB2.mono hB)).drew
      have f4 := (hs4.below (hB2.mono hB)).drew
      rw [← List.map_drop, ← List.map_take] at f3
      rw [← List.map_drop] at f4
      obtain ⟨n3, hn3⟩ : ∃ n, numL 0 ((bs.drop 8).take 2) = n := ⟨_, rfl⟩
      obtain ⟨n4, hn4⟩ : ∃ n, numL 0 (bs.drop 10) = n := ⟨_, rfl⟩
      have k3 := num2_in b3 (by simp [HL.out])
      have k4 := num2_in b4 (by simp [HL.out])
      rw [hn3] at k3
      rw [hn4] at k4
      have v3 : IntKind.u16.wrap n3 = n3 := by simp [IntKind.wrap, IntKind.bits, IntKind.signed]; omega
      have v4 : IntKind.u16.wrap n4 = n4 := by simp [IntKind.wrap, IntKind.bits, IntKind.signed]; omega
      go_wp2
      refine wp_region_any (by kernel_rfl) ?_
      change wpAny _ _ _ _ _ _ _ (World.drew _)
      refine take_slot (i := 0) (some 18) #[true, false, false, false, false, false, false, false, false, false, false, false] (v := ?_) rfl (by kernel_rfl) (by kernel_rfl) (by kernel_rfl) (by kernel_rfl) (by kernel_rfl) (fun _ _ _ h => h) (Or.inl ⟨by kernel_rfl, ?hyb0_1⟩) ?hrb0_1
      case hyb0_1 => intro w; go_simp; try with_reducible rfl
      refine take_slot (i := 1) (some 19) #[true, true, false, false, false, false, false, false, false, false, false, false] (v := .slice (some ⟨b, off + 8, none⟩) 2 (c - 8)) rfl (by kernel_rfl) (by kernel_rfl) (by kernel_rfl) (by kernel_rfl) (by kernel_rfl) (fun _ _ _ h => h) (Or.inl ⟨by kernel_rfl, ?hyb1_2⟩) ?_
      case hyb1_2 => intro w; go_simp; try (first | rfl | (intro hh; omega))
      refine take_slot (i := 4) (some 22) #[true, true, false, false, true, false, false, false, false, false, false, false] (v := ?_) rfl (by kernel_rfl) (by kernel_rfl) (by kernel_rfl) (by kernel_rfl) (by kernel_rfl) (fun _ _ _ h => h) (Or.inl ⟨by kernel_rfl, ?hyb4_3⟩) ?hrb4_3
      case hyb4_3 => intro w; go_simp; try with_reducible rfl
      refine take_slot (i := 5) (some 23) #[true, true, false, false, true, true, false, false, false, false, false, false] (v := .slice (some ⟨b, off + 10, none⟩) 2 (c - 10)) rfl (by kernel_rfl) (by kernel_rfl) (by kernel_rfl) (by kernel_rfl) (by kernel_rfl) (fun _ _ _ h => h) (Or.inl ⟨by kernel_rfl, ?hyb5_4⟩) ?_
      case hyb5_4 => intro w; go_simp; try (first | rfl | (intro hh; omega))
      refine wpAny_ready (rs := [2]) (by kernel_rfl) (by simp) ?_
      refine AllReady.cons rfl (fun K hK => ?_) AllReady.nil
      try simp only [Act.put, List.setIfInBounds_toArray, List.set_cons_zero, List.set_cons_succ]
      go_simp
      (with_reducible refine (number_any _ 2 (c - 8) B ((bs.drop 8).take 2) _ ?_ (by omega) ?_).mono ?_)
      · exact f3
      · exact b3
      rintro e w7 ⟨rfl, rfl⟩
      go_simp
      refine hK _ _ ?_
      clear hK K
      refine take_slot (i := 3) (some 21) #[true, true, true, true, true, true, false, false, false, false, false, false] (v := .int .u16 n3) rfl (by kernel_rfl) (by kernel_rfl) (by kernel_rfl) (by kernel_rfl) (by kernel_rfl) (fun _ _ _ h => h) (Or.inl ⟨by kernel_rfl, ?hyb3_5⟩) ?_
      case hyb3_5 => intro w; go_simp; try (first | rfl | (intro hh; omega))
      refine take_slot (i := 8) (some 26) #[true, true, true, true, true, true, false, false, true, false, false, false] (v := ?_) rfl (by kernel_rfl) (by kernel_rfl) (by kernel_rfl) (by kernel_rfl) (by kernel_rfl) (fun _ _ _ h => h) (Or.inl ⟨by kernel_rfl, ?hyb8_6⟩) ?hrb8_6
      case hyb8_6 => intro w; go_simp; try with_reducible rfl
      refine wpAny_ready (rs := [6]) (by kernel_rfl) (by simp) ?_
      refine AllReady.cons rfl (fun K hK => ?_) AllReady.nil
      try simp only [Act.put, List.setIfInBounds_toArray, List.set_cons_zero, List.set_cons_succ]
      go_simp
      (with_reducible refine (number_any _ 2 (c - 10) B (bs.drop 10) _ ?_ (by omega) ?_).mono ?_)
      · exact f4
      · exact b4
      rintro e w7 ⟨rfl, rfl⟩
      go_simp
      refine hK _ _ ?_
      clear hK K
      refine take_slot (i := 7) (some 25) #[true, true, true, true, true, true, true, true, true, false, false, false] (v := .int .u16 n4) rfl (by kernel_rfl) (by kernel_rfl) (by kernel_rfl) (by kernel_rfl) (by kernel_rfl) (fun _ _ _ h => h) (Or.inl ⟨by kernel_rfl, ?hyb7_7⟩) ?_
      case hyb7_7 => intro w; go_simp; try (first | rfl | (intro hh; omega))
      refine wpAny_ready (rs := [9]) (by kernel_rfl) (by simp) ?_
      refine AllReady.cons rfl (fun K hK => ?_) AllReady.nil
      try simp only [Act.put, List.setIfInBounds_toArray, List.set_cons_zero, List.set_cons_succ]
      go_simp
      refine hK _ _ ?_
      clear hK K
      refine take_slot (i := 10) (some 27) #[true, true, true, true, true, true, true, true, true, true, true, false] (v := ?_) rfl (by kernel_rfl) (by kernel_rfl) (by kernel_rfl) (by kernel_rfl) (by kernel_rfl) (fun _ _ _ h => h) (Or.inl ⟨by kernel_rfl, ?hyb10_8⟩) ?hrb10_8
      case hyb10_8 => intro w; go_simp; try with_reducible rfl
      refine wpAny_ready (rs := [11]) (by kernel_rfl) (by simp) ?_
      refine AllReady.cons rfl (fun K hK => ?_) AllReady.nil
      try simp only [Act.put, List.setIfInBounds_toArray, List.set_cons_zero, List.set_cons_succ]
      go_simp
      refine hK _ _ ?_
      clear hK K
      refine wpAny_done (by kernel_rfl) ?_ _
      try simp only [Act.put, List.setIfInBounds_toArray, List.set_cons_zero, List.set_cons_succ]
      --END56
      have hb3 := setBt34 (a := n3) (b := n4) hbt
      have hB3 := ((hB2.setCell (p := ⟨w.heap.size, 2, none⟩) (Nat.le_refl _) (.int .u16 n3)).setCell (p := ⟨w.heap.size, 3, none⟩) (Nat.le_refl _) (.int .u16 n4)).drew
      have hT : takeT bs = (⟨n1, n2, n3, n4⟩, 0) := by
        unfold takeT
        rw [HL.out, if_neg (by omega), if_neg (by omega), hN1.out, hN2.out, hn3, hn4]
      have HT := hide hT
      clear hT
      have hb4 : Bt ((W2.setCell ⟨w.heap.size, 2, none⟩ (.int .u16 n3)).setCell ⟨w.heap.size, 3, none⟩ (.int .u16 n4)).drew w.heap.size ⟨n1, n2, n3, n4⟩ := hb3
      obtain ⟨W3, hW3⟩ : ∃ W3, ((W2.setCell ⟨w.heap.size, 2, none⟩ (.int .u16 n3)).setCell ⟨w.heap.size, 3, none⟩ (.int .u16 n4)).drew = W3 := ⟨_, rfl⟩
      rw [hW3] at hb4 hB3 ⊢
      clear hW3 hb3 hB2 hbt z0 z1 z2 z3 y0 y1 y2 y3 f3 f4 hn3 hn4 v3 v4
      have z0 := hb4.c0
      have z1 := hb4.c1
      have z2 := hb4.c2
      have z3 := hb4.c3
      have y0 := hb4.fz 0
      have y1 := hb4.fz 1
      have y2 := hb4.fz 2
      have y3 := hb4.fz 3
      simp only at z0 z1 z2 z3
      go_wp2
      simp only [Exit.jump]
      have hb5 := setBt (s := ⟨n1, n2, n3, n4⟩) hb4
      have hB5 := (((hB3.setCell (p := ⟨w.heap.size, 0, none⟩) (Nat.le_refl _) (.int .u32 n1)).setCell (p := ⟨w.heap.size, 1, none⟩) (Nat.le_refl _) (.int .u32 n2)).setCell (p := ⟨w.heap.size, 2, none⟩) (Nat.le_refl _) (.int .u16 n3)).setCell (p := ⟨w.heap.size, 3, none⟩) (Nat.le_refl _) (.int .u16 n4)
      simp only at hb5
      obtain ⟨W5, hW5⟩ : ∃ W5, (((W3.setCell ⟨w.heap.size, 0, none⟩ (.int .u32 n1)).setCell ⟨w.heap.size, 1, none⟩ (.int .u32 n2)).setCell ⟨w.heap.size, 2, none⟩ (.int .u16 n3)).setCell ⟨w.heap.size, 3, none⟩ (.int .u16 n4) = W5 := ⟨_, rfl⟩
      rw [hW5] at hb5 hB5 ⊢
      have x0 := hb5.c0
      have x1 := hb5.c1
      have x2 := hb5.c2
      have x3 := hb5.c3
      simp only at x0 x1 x2 x3
      refine bodyPost_ret (v := .tuple #[tv ⟨n1, n2, n3, n4⟩, .int .i64 0]) (by simp [results, Tryd.f9, go_sem, x0, x1, x2, x3]) rfl ?_
      exact ⟨by rw [HT.out], hB5⟩
    · intro _ _ h
      exact h.elim
  · have hT := hide (show takeT bs = (zeroT, 60) from by unfold takeT; rw [HL.out, if_neg (by omega), if_pos h12])
    go_wp2
    refine wp_scope_jumps 0 (TakeJ A n c 60 w) (fun _ _ => 0) rfl ?_ ?_
    · go_wp2
      refine wp_goto ?_
      exact And.intro rfl ⟨_, _, _, _, _, _, _, rfl, rfl⟩
    · rintro a' W ⟨u1, u4, u5, u6, u7, u8, u9, rfl, rfl⟩
      go_wp2
      simp only [Exit.jump]
      refine bodyPost_ret (v := .tuple #[tv zeroT, .int .i64 60]) (by simp [results, Tryd.f9, go_sem, z0, z1, z2, z3, zeroT]) rfl ?_
      exact ⟨by rw [hT.out], hBz⟩
end Go.Proofs.YtdlpkphbgbffpaaDoor
