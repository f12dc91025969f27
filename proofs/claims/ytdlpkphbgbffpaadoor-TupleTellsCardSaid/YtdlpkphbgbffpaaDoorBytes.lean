/-
  A tuple's bytes.
-/
import Derived.Test.YtdlpkphbgbffpaaDoorParts
import Derived.Test.YtdlpkphbgbffpaaDoorRefBytes
namespace Go.Proofs.YtdlpkphbgbffpaaDoor
open Go Go.RowKit Go.Shelf
set_option linter.unusedSimpArgs false
set_option linter.unusedVariables false
attribute [local go_sem] Oper.semAt_some
/-- The bytes of some of a tuple's numbers. -/
def bytesOf (t : Tup) (l : List Nat) : List Int := l.flatMap fun k => bytesL (num t k) (many k)
/-- A tuple's bytes. -/
def bytesT (t : Tup) : List Int := bytesOf t [0, 1, 2, 3]
theorem bytesOf_length (t : Tup) : ∀ l : List Nat, (bytesOf t l).length ≤ 4 * l.length
  | [] => by simp [bytesOf]
  | k :: l => by
    have h := bytesOf_length t l
    have h2 := (many_in k).2
    simp only [bytesOf, List.flatMap_cons, List.length_append, bytesL_length, List.length_cons] at h ⊢
    omega
theorem bytesT_length (t : Tup) : (bytesT t).length = 12 := by simp [bytesT, bytesOf, bytesL_length, many]
/-- Where the row and the slice's variable lie. -/
def Row (B bb gp : Nat) (t : Tup) (xs : List Int) (W : World) : Prop :=
  (∃ v, Boxed W bb 26 v ∧ W.ownsRow B 5 1 v xs.length (xs.map vb)) ∧ Bt W gp t ∧ B ≤ W.heap.size
theorem Bt.kept {W W' : World} {g : Nat} {t : Tup} {row : Option Nat} (h : Bt W g t) (hg : W.grownBy W' row) (hne : some g ≠ row) : Bt W' g t := (hg.block g h.lt hne).trans h
theorem Bt.not_row {W : World} {g : Nat} {t : Tup} (h : Bt W g t) {base size k : Nat} {v : Value} {xs : List Value} (hr : W.ownsRow base 5 size v k xs) : some g ≠ v.ownBlock := by
  rcases hr.2 with ⟨rfl, _⟩ | ⟨g', cap, cur, rfl, _, hgb, _⟩
  · simp [Value.ownBlock]
  · intro e'
    obtain rfl : g = g' := by simpa [Value.ownBlock] using e'
    have := (show W.heap[g]? = _ from h).symm.trans hgb
    simp at this
theorem Bt.far {W : World} {g bb : Nat} {t : Tup} (h : Bt W g t) (hne : g ≠ bb) (v : Value) : Bt (W.setCell ⟨bb, 0, none⟩ v) g t := (Below.heap_setCell _ _ _ _ hne).trans h
theorem row_appended {W w1 : World} {B bb gp k m : Nat} {t : Tup} {v v' : Value} {xs ys : List Value} {tmp : Obj} (hv : Boxed W bb 26 v) (hrow : W.ownsRow B 5 1 v k xs) (hgp : Bt W gp t) (hBW : B ≤ W.heap.size) (hB : B ≤ bb) (hne : gp ≠ bb)
    (hown' : w1.ownsRow B 5 1 v' m ys) (hgrow : (W.alloc tmp).grownBy w1 v.ownBlock) :
    Boxed w1 bb 26 v ∧ Boxed (w1.setCell ⟨bb, 0, none⟩ v') bb 26 v' ∧ (w1.setCell ⟨bb, 0, none⟩ v').ownsRow B 5 1 v' m ys ∧ KeepsOthers W (w1.setCell ⟨bb, 0, none⟩ v') ∧ Below B W (w1.setCell ⟨bb, 0, none⟩ v') ∧ Bt (w1.setCell ⟨bb, 0, none⟩ v') gp t := by
  obtain ⟨h1, h2, h3, h4, h5⟩ := hv.appended (by decide) hrow hBW hB hown' hgrow
  exact ⟨h1, h2, h3, h4, h5, ((hgp.alloc tmp).kept hgrow (hgp.not_row hrow)).far hne v'⟩
theorem below_of_grown {A B : World} (h : A.grownBy B none) : Below A.heap.size A B := ⟨h.os, h.tape, h.output, h.size, fun i hi => h.block i hi (by simp)⟩
set_option maxRecDepth 100000 in
set_option maxHeartbeats 2000000 in
theorem bytes_any (t : Tup) (w : World) (ht : t.In) :
    Calls Tryd.prog 11 #[tv t] w fun e W' => (∃ v, e = .returned v ∧ W'.ownsRow w.heap.size 5 1 v 12 ((bytesT t).map vb)) ∧ Below w.heap.size w W' := by
  refine (callsIn_wide (n := 10)).1 ?_
  refine callsIn_of_wp_marks Tryd.func11 rfl trivial ?_ rfl
  simp only [Tryd.ntmps11, List.size_toArray, List.length_cons, List.length_nil, Nat.reduceAdd, Nat.reduceSub, Array.replicate_succ, Array.replicate_zero, List.push_toArray, List.append_toArray, List.nil_append, List.cons_append]
  obtain ⟨i0, hi, hz0, hz1, hz2⟩ := info_parts infoU8
  gi_wp2_with (gi_at_make; refine wpListIn_make_own _ rfl _ _ 26 rfl w.heap.size 5 i0 (.int .u8 0) 1 Tryd.underlying26 hi hz0 hz1 .i64 .i64 12 12 rfl rfl rfl (by omega) (by simp [maxLen]) (by simp) ?_)
  intro w1 hown1 hgr1
  have hBx := (Bt.new w t).below (below_of_grown hgr1) (by simp)
  have hsz1 := hgr1.size
  have hB1 : Below w.heap.size w w1 := ((Below.refl _ w).alloc (Nat.le_refl _) _).trans ((below_of_grown hgr1).mono (by simp))
  simp only [World.size_alloc] at hown1 hsz1
  clear hgr1
  have c0 := hBx.c0
  have c1 := hBx.c1
  have c2 := hBx.c2
  have c3 := hBx.c3
  have hlt := hBx.lt
  gi_wp2_with (refine ⟨trivial, ?_⟩; gi_at_call 27; refine (callsIn_wide.2 (parts_any _ _)).mono ?_; rintro e w' ⟨rfl, rfl⟩)
  have hbb : Boxed ((w1.alloc (.cells #[.slice (some ⟨w.heap.size + 1, 0, none⟩) 0 12] 26)).alloc (.cells #[.int .u32 t.src, .int .u32 t.dst, .int .u16 t.sp, .int .u16 t.dp] 25)) w1.heap.size 26 (.slice (some ⟨w.heap.size + 1, 0, none⟩) 0 12) := (Boxed.new w1 26 _).alloc _
  have hgp := Bt.new (w1.alloc (.cells #[.slice (some ⟨w.heap.size + 1, 0, none⟩) 0 12] 26)) t
  rw [World.size_alloc] at hgp
  have hown2 := (hown1.alloc (.cells #[.slice (some ⟨w.heap.size + 1, 0, none⟩) 0 12] 26)).alloc (.cells #[.int .u32 t.src, .int .u32 t.dst, .int .u16 t.sp, .int .u16 t.dp] 25)
  have hB2 : Below w.heap.size w ((w1.alloc (.cells #[.slice (some ⟨w.heap.size + 1, 0, none⟩) 0 12] 26)).alloc (.cells #[.int .u32 t.src, .int .u32 t.dst, .int .u16 t.sp, .int .u16 t.dp] 25)) := (hB1.alloc hB1.size _).alloc (by simp; omega) _
  obtain ⟨W2, hW2⟩ : ∃ W2, ((w1.alloc (.cells #[.slice (some ⟨w.heap.size + 1, 0, none⟩) 0 12] 26)).alloc (.cells #[.int .u32 t.src, .int .u32 t.dst, .int .u16 t.sp, .int .u16 t.dp] 25)) = W2 := ⟨_, rfl⟩
  have hsz2 : W2.heap.size = w1.heap.size + 2 := by rw [← hW2]; simp
  rw [hW2] at hbb hgp hown2 hB2 ⊢
  clear hW2 hown1 hB1 c0 c1 c2 c3 hBx hlt
  obtain ⟨bb, hbbe⟩ : ∃ bb, w1.heap.size = bb := ⟨_, rfl⟩
  rw [hbbe] at hbb hgp hsz2 hsz1 ⊢
  clear hbbe
  refine wpIn_rangeFunc_ownH rfl (by omega) (gf := 38) (lb := #[.pointer (some ⟨bb + 1, 0, none⟩)]) rfl trivial (enters_of Tryd.func38 (by kernel_rfl) rfl)
    (parts_stops (bb + 1) t ht W2 hgp)
    (fun h k => k.trans h) (fun W l o o' hl h h1 h2 => World.putObj_heap_other (by omega)) (Below.refl _ _) (fun _ => rfl)
    (fun pre W => Row w.heap.size bb (bb + 1) t (bytesOf t pre) W ∧ Below w.heap.size w W ∧ W2.heap.size ≤ W.heap.size)
    (fun _ _ _ => False)
    ?own (fun _ _ _ _ _ hs _ _ => hs)
    ⟨⟨⟨_, hbb, hown2⟩, hgp, hB2.size⟩, hB2, Nat.le_refl _⟩
    (fun x a' W => a' = { tmps := #[tv t, .pointer (some ⟨w.heap.size, 0, none⟩), .slice none 0 0, .pointer (some ⟨bb, 0, none⟩), .int .u32 (num t x), .int .i64 (many x), .slice (some ⟨w.heap.size + 1, 0, none⟩) 0 12, tv t, .func (.func 38) #[] #[.pointer (some ⟨bb + 1, 0, none⟩)], .int .u32 (num t x), .int .i64 (many x), undef, undef, undef, undef, undef, undef, undef, undef, undef, undef, undef, undef, undef, undef, undef], defers := [] }) ?ownx ?assign ?body ?done ?stop
  case own =>
    rintro s X Y row ⟨⟨⟨v, h1, h2⟩, h3, h4⟩, hB, hX⟩ hg hrow
    have hr : ∀ r, row = some r → ∃ o : Obj, X.heap[r]? = some o ∧ o.isCells = false := fun r e => (hrow r e).2
    have no : ∀ (k : Nat) (o : Obj), X.heap[k]? = some o → o.isCells = true → some k ≠ row := by
      intro k o ho hc e
      obtain ⟨o', ho', hc'⟩ := hr k e.symm
      rw [ho] at ho'
      cases ho'
      rw [hc] at hc'
      cases hc'
    refine ⟨⟨⟨v, h1.kept hg (no _ _ h1 rfl), h2.kept hg ?_⟩, h3.kept hg (no _ _ h3 rfl), Nat.le_trans h4 hg.size⟩, hB.grown hg hB.size (fun k e => by have := (hrow k e).1; omega), Nat.le_trans hX hg.size⟩
    rcases h2.2 with ⟨rfl, _⟩ | ⟨g, cap, cur, rfl, _, hgb, _⟩
    · exact .inl rfl
    · exact .inr (no _ _ hgb rfl)
  case ownx =>
    rintro x a' _ X Y row ha hg hrow
    exact ha
  case assign =>
    rintro l pre x W K ⟨h1, hB, hX⟩ hK
    have hK' := hide hK
    clear hK
    gi_wp2
    exact hK'.out _ _ (KeepsFrom.refl _ _) rfl ⟨h1, hB, hX⟩ rfl
  case body =>
    rintro l pre x a' W hl hloop ⟨h1, hB, hX⟩ ha hN
    subst ha
    clear hloop hbb hgp hown2 hB2
    obtain ⟨hx0, hx1⟩ := num_in ht x
    obtain ⟨hm0, hm1⟩ := many_in x
    have hlen := bytesOf_length t pre
    have HS := hide (show bytesOf t (pre ++ [x]) = bytesOf t pre ++ bytesL (num t x) (many x) from by simp [bytesOf])
    obtain ⟨y, hy⟩ : ∃ y, num t x = y := ⟨_, rfl⟩
    obtain ⟨m, hm⟩ : ∃ m, many x = m := ⟨_, rfl⟩
    rw [hy] at hx0 hx1 HS ⊢
    rw [hm] at hm0 hm1 HS ⊢
    clear hy hm
    gi_wp2
    gi_loopw [5] (fun i wr => ∃ (k : Nat) (ys : List Int), k ≤ m ∧ i = .int .i64 ((k : Int) - 1) ∧ bytesL y m = ys ++ bytesL y k ∧ Row w.heap.size bb (bb + 1) t (bytesOf t pre ++ ys) wr ∧ KeepsFrom W2.heap.size W wr ∧ Below w.heap.size W wr) (fun i _ => (intOf i + 1).toNat)
    case atStart => exact ⟨m, [], by omega, by go_num, rfl, by simpa using h1, KeepsFrom.refl _ _, Below.refl _ _⟩
    case round =>
      obtain ⟨k, ys, hk, rfl, hys, hrow, hkf, hbw⟩ := hrel
      have hyl : ys.length + k = m := by
        have := congrArg List.length hys
        simp only [List.length_append, bytesL_length] at this
        omega
      have HY := hide hys
      clear hys
      rcases Nat.eq_zero_or_pos k with rfl | hpos
      · gi_wp2
        have b3 := hrow.2.1
        refine ⟨hkf, b3.trans h1.2.1.symm, ⟨?_, hB.trans hbw, Nat.le_trans hX hbw.size⟩⟩
        rw [HS.out, HY.out]
        simpa [bytesL] using hrow
      · obtain ⟨⟨v, b1, b2⟩, b3, b4⟩ := hrow
        have hll : (bytesOf t pre ++ ys).length ≤ 100 := by rw [List.length_append]; omega
        obtain ⟨xs, hxe⟩ : ∃ xs, bytesOf t pre ++ ys = xs := ⟨_, rfl⟩
        rw [hxe] at b2 hll
        have HXE := hide hxe
        clear hxe
        obtain ⟨nx, hnx⟩ : ∃ n, xs.length = n := ⟨_, rfl⟩
        rw [hnx] at b2 hll
        have HN := hide hnx
        clear hnx
        have b1' : Boxed wr.drew bb 26 v := b1
        have b2' : wr.drew.ownsRow w.heap.size 5 1 v nx (xs.map vb) := b2
        have b3' : Bt wr.drew (bb + 1) t := b3
        have y0 := b1.cell
        have hbb0 : w.heap.size ≤ bb := by omega
        have hne : bb + 1 ≠ bb := by omega
        have hblt := b1.lt
        rcases (show k = 1 ∨ k = 2 ∨ k = 3 ∨ k = 4 by omega) with rfl | rfl | rfl | rfl
        · have ei : ((1 : Nat) : Int) - 1 = 0 := rfl
          rw [ei]
          gi_wp2
          refine regionIn_any (wide_round _ _) (wideRows_round _ _) (fun ⟨_, _, h⟩ => h) (by kernel_rfl) (by kernel_rfl) ?_
          change wpAny _ _ _ _ _ _ _ (World.drew _)
          refine take_slot (i := 1) (some 18) #[false, true, false, false, false, false, false, false, false] (v := ?_) rfl (by kernel_rfl) (by kernel_rfl) (by kernel_rfl) (by kernel_rfl) (by kernel_rfl) (by intro _ _ _ h; exact h) (Or.inl ⟨by kernel_rfl, ?hyr11_1⟩) ?hrr11_1
          case hyr11_1 => intro w; go_simp; try with_reducible rfl
          refine take_slot (i := 2) (some 19) #[false, true, true, false, false, false, false, false, false] (v := ?_) rfl (by kernel_rfl) (by kernel_rfl) (by kernel_rfl) (by kernel_rfl) (by kernel_rfl) (by intro _ _ _ h; exact h) (Or.inl ⟨by kernel_rfl, ?hyr12_2⟩) ?hrr12_2
          case hyr12_2 => intro w; go_simp; try with_reducible rfl
          refine take_slot (i := 3) (some 20) #[false, true, true, true, false, false, false, false, false] (v := .int .i64 0) rfl (by kernel_rfl) (by kernel_rfl) (by kernel_rfl) (by kernel_rfl) (by kernel_rfl) (by intro _ _ _ h; exact h) (Or.inl ⟨by kernel_rfl, ?hyr13_3⟩) ?_
          case hyr13_3 => intro w; go_simp; try rfl
          refine take_slot (i := 4) (some 21) #[false, true, true, true, true, false, false, false, false] (v := .int .u32 (y)) rfl (by kernel_rfl) (by kernel_rfl) (by kernel_rfl) (by kernel_rfl) (by kernel_rfl) (by intro _ _ _ h; exact h) (Or.inl ⟨by kernel_rfl, ?hyr14_4⟩) ?_
          case hyr14_4 => intro w; go_simp; try rfl
          refine take_slot (i := 5) (some 22) #[false, true, true, true, true, true, false, false, false] (v := .int .u8 ((y) % 256)) rfl (by kernel_rfl) (by kernel_rfl) (by kernel_rfl) (by kernel_rfl) (by kernel_rfl) (by intro _ _ _ h; exact h) (Or.inl ⟨by kernel_rfl, ?hyr15_5⟩) ?_
          case hyr15_5 => intro w; go_simp; try rfl
          refine wpAny_ready (rs := [0, 6]) (by kernel_rfl) (by simp) ?_
          refine AllReady.cons rfl (fun K hK => ?_) ?_
          · try simp only [Act.put, List.setIfInBounds_toArray, List.set_cons_zero, List.set_cons_succ]
            go_simp
            refine hK _ _ ?_
            clear hK K
            refine wpAny_ready (rs := [6]) (by kernel_rfl) (by simp) ?_
            refine AllReady.cons rfl (fun K hK => ?_) AllReady.nil
            try simp only [Act.put, List.setIfInBounds_toArray, List.set_cons_zero, List.set_cons_succ]
            go_simp
            refine hK _ _ ?_
            clear hK K
            refine wpAny_ready (rs := [7]) (by kernel_rfl) (by simp) ?_
            refine AllReady.cons rfl (fun K hK => ?_) AllReady.nil
            try simp only [Act.put, List.setIfInBounds_toArray, List.set_cons_zero, List.set_cons_succ]
            refine (if_pos (by kernel_rfl)).mpr (wp_append_sl _ (.tmp 17) (.tmp 23) 26 rfl w.heap.size 5 i0 (.int .u8 0) 1 Tryd.underlying26 hi hz0 hz1 hz2 rfl v nx (xs.map vb) (by rfl) (show World.ownsRow (wr.alloc (.cells #[vb (y % 256)] 5)).drew w.heap.size 5 1 v _ _ from b2.alloc _) (wr.heap.size + 1) (some ⟨wr.heap.size, 0, none⟩) 1 1 [vb (y % 256)] (by rfl) (Sl.made' wr _ _ [vb (y % 256)] 5 rfl rfl (by simp [maxLen])).drew (by intro u hu; simp at hu; subst hu; rfl) (by unfold maxLen; omega) (by omega) (by simp; omega) ?_)
            intro v' w4 hown4 hgr4 _
            obtain ⟨A4, cp4, rfl, _⟩ := Sl.own hown4
            obtain ⟨f1, f2, f3, f4, f5, f6⟩ := row_appended b1' b2' b3' b4 hbb0 hne hown4 (show (wr.drew.alloc (.cells #[vb (y % 256)] 5)).grownBy w4 _ from hgr4)
            have f10 := f1.cell
            have f1z := f1.frozen
            refine hK _ _ ?_
            clear hK K
            refine wpAny_ready (rs := [8]) (by kernel_rfl) (by simp) ?_
            refine AllReady.cons rfl (fun K hK => ?_) AllReady.nil
            try simp only [Act.put, List.setIfInBounds_toArray, List.set_cons_zero, List.set_cons_succ]
            go_simp
            refine hK _ _ ?_
            clear hK K
            refine wpAny_done (by kernel_rfl) ?_ _
            try simp only [Act.put, List.setIfInBounds_toArray, List.set_cons_zero, List.set_cons_succ]
            gi_wp2
            refine ⟨?_, by simp [intOf]⟩
            refine ⟨0, ys ++ [y % 256], by omega, by go_num, by rw [HY.out, List.append_assoc]; simp [bytesL], ⟨⟨_, f2, by rw [← List.append_assoc, HXE.out, List.length_append, HN.out, List.map_append]; exact f3⟩, f6, Nat.le_trans b4 f4.size⟩, hkf.trans ((KeepsOthers.drew wr).trans f4 |>.from _), hbw.trans ((Below.refl _ wr).drew.trans f5)⟩
          refine AllReady.cons rfl (fun K hK => ?_) AllReady.nil
          try simp only [Act.put, List.setIfInBounds_toArray, List.set_cons_zero, List.set_cons_succ]
          go_simp
          refine hK _ _ ?_
          clear hK K
          refine wpAny_ready (rs := [0]) (by kernel_rfl) (by simp) ?_
          refine AllReady.cons rfl (fun K hK => ?_) AllReady.nil
          try simp only [Act.put, List.setIfInBounds_toArray, List.set_cons_zero, List.set_cons_succ]
          have y0a := (b1'.alloc (.cells #[vb (y % 256)] 5)).cell
          go_simp
          refine hK _ _ ?_
          clear hK K
          refine wpAny_ready (rs := [7]) (by kernel_rfl) (by simp) ?_
          refine AllReady.cons rfl (fun K hK => ?_) AllReady.nil
          try simp only [Act.put, List.setIfInBounds_toArray, List.set_cons_zero, List.set_cons_succ]
          refine (if_pos (by kernel_rfl)).mpr (wp_append_sl _ (.tmp 17) (.tmp 23) 26 rfl w.heap.size 5 i0 (.int .u8 0) 1 Tryd.underlying26 hi hz0 hz1 hz2 rfl v nx (xs.map vb) (by rfl) (show World.ownsRow (wr.alloc (.cells #[vb (y % 256)] 5)).drew w.heap.size 5 1 v _ _ from b2.alloc _) (wr.heap.size + 1) (some ⟨wr.heap.size, 0, none⟩) 1 1 [vb (y % 256)] (by rfl) (Sl.made' wr _ _ [vb (y % 256)] 5 rfl rfl (by simp [maxLen])).drew (by intro u hu; simp at hu; subst hu; rfl) (by unfold maxLen; omega) (by omega) (by simp; omega) ?_)
          intro v' w4 hown4 hgr4 _
          obtain ⟨A4, cp4, rfl, _⟩ := Sl.own hown4
          obtain ⟨f1, f2, f3, f4, f5, f6⟩ := row_appended b1' b2' b3' b4 hbb0 hne hown4 (show (wr.drew.alloc (.cells #[vb (y % 256)] 5)).grownBy w4 _ from hgr4)
          have f10 := f1.cell
          have f1z := f1.frozen
          refine hK _ _ ?_
          clear hK K
          refine wpAny_ready (rs := [8]) (by kernel_rfl) (by simp) ?_
          refine AllReady.cons rfl (fun K hK => ?_) AllReady.nil
          try simp only [Act.put, List.setIfInBounds_toArray, List.set_cons_zero, List.set_cons_succ]
          go_simp
          refine hK _ _ ?_
          clear hK K
          refine wpAny_done (by kernel_rfl) ?_ _
          try simp only [Act.put, List.setIfInBounds_toArray, List.set_cons_zero, List.set_cons_succ]
          gi_wp2
          refine ⟨?_, by simp [intOf]⟩
          refine ⟨0, ys ++ [y % 256], by omega, by go_num, by rw [HY.out, List.append_assoc]; simp [bytesL], ⟨⟨_, f2, by rw [← List.append_assoc, HXE.out, List.length_append, HN.out, List.map_append]; exact f3⟩, f6, Nat.le_trans b4 f4.size⟩, hkf.trans ((KeepsOthers.drew wr).trans f4 |>.from _), hbw.trans ((Below.refl _ wr).drew.trans f5)⟩
        · have ei : ((2 : Nat) : Int) - 1 = 1 := rfl
          rw [ei]
          gi_wp2
          refine regionIn_any (wide_round _ _) (wideRows_round _ _) (fun ⟨_, _, h⟩ => h) (by kernel_rfl) (by kernel_rfl) ?_
          change wpAny _ _ _ _ _ _ _ (World.drew _)
          refine take_slot (i := 1) (some 18) #[false, true, false, false, false, false, false, false, false] (v := ?_) rfl (by kernel_rfl) (by kernel_rfl) (by kernel_rfl) (by kernel_rfl) (by kernel_rfl) (by intro _ _ _ h; exact h) (Or.inl ⟨by kernel_rfl, ?hyr21_1⟩) ?hrr21_1
          case hyr21_1 => intro w; go_simp; try with_reducible rfl
          refine take_slot (i := 2) (some 19) #[false, true, true, false, false, false, false, false, false] (v := ?_) rfl (by kernel_rfl) (by kernel_rfl) (by kernel_rfl) (by kernel_rfl) (by kernel_rfl) (by intro _ _ _ h; exact h) (Or.inl ⟨by kernel_rfl, ?hyr22_2⟩) ?hrr22_2
          case hyr22_2 => intro w; go_simp; try with_reducible rfl
          refine take_slot (i := 3) (some 20) #[false, true, true, true, false, false, false, false, false] (v := .int .i64 8) rfl (by kernel_rfl) (by kernel_rfl) (by kernel_rfl) (by kernel_rfl) (by kernel_rfl) (by intro _ _ _ h; exact h) (Or.inl ⟨by kernel_rfl, ?hyr23_3⟩) ?_
          case hyr23_3 => intro w; go_simp; try rfl
          refine take_slot (i := 4) (some 21) #[false, true, true, true, true, false, false, false, false] (v := .int .u32 (y / 256)) rfl (by kernel_rfl) (by kernel_rfl) (by kernel_rfl) (by kernel_rfl) (by kernel_rfl) (by intro _ _ _ h; exact h) (Or.inl ⟨by kernel_rfl, ?hyr24_4⟩) ?_
          case hyr24_4 => intro w; go_simp; try rfl
          refine take_slot (i := 5) (some 22) #[false, true, true, true, true, true, false, false, false] (v := .int .u8 ((y / 256) % 256)) rfl (by kernel_rfl) (by kernel_rfl) (by kernel_rfl) (by kernel_rfl) (by kernel_rfl) (by intro _ _ _ h; exact h) (Or.inl ⟨by kernel_rfl, ?hyr25_5⟩) ?_
          case hyr25_5 => intro w; go_simp; try rfl
          refine wpAny_ready (rs := [0, 6]) (by kernel_rfl) (by simp) ?_
          refine AllReady.cons rfl (fun K hK => ?_) ?_
          · try simp only [Act.put, List.setIfInBounds_toArray, List.set_cons_zero, List.set_cons_succ]
            go_simp
            refine hK _ _ ?_
            clear hK K
            refine wpAny_ready (rs := [6]) (by kernel_rfl) (by simp) ?_
            refine AllReady.cons rfl (fun K hK => ?_) AllReady.nil
            try simp only [Act.put, List.setIfInBounds_toArray, List.set_cons_zero, List.set_cons_succ]
            go_simp
            refine hK _ _ ?_
            clear hK K
            refine wpAny_ready (rs := [7]) (by kernel_rfl) (by simp) ?_
            refine AllReady.cons rfl (fun K hK => ?_) AllReady.nil
            try simp only [Act.put, List.setIfInBounds_toArray, List.set_cons_zero, List.set_cons_succ]
            refine (if_pos (by kernel_rfl)).mpr (wp_append_sl _ (.tmp 17) (.tmp 23) 26 rfl w.heap.size 5 i0 (.int .u8 0) 1 Tryd.underlying26 hi hz0 hz1 hz2 rfl v nx (xs.map vb) (by rfl) (show World.ownsRow (wr.alloc (.cells #[vb (y / 256 % 256)] 5)).drew w.heap.size 5 1 v _ _ from b2.alloc _) (wr.heap.size + 1) (some ⟨wr.heap.size, 0, none⟩) 1 1 [vb (y / 256 % 256)] (by rfl) (Sl.made' wr _ _ [vb (y / 256 % 256)] 5 rfl rfl (by simp [maxLen])).drew (by intro u hu; simp at hu; subst hu; rfl) (by unfold maxLen; omega) (by omega) (by simp; omega) ?_)
            intro v' w4 hown4 hgr4 _
            obtain ⟨A4, cp4, rfl, _⟩ := Sl.own hown4
            obtain ⟨f1, f2, f3, f4, f5, f6⟩ := row_appended b1' b2' b3' b4 hbb0 hne hown4 (show (wr.drew.alloc (.cells #[vb (y / 256 % 256)] 5)).grownBy w4 _ from hgr4)
            have f10 := f1.cell
            have f1z := f1.frozen
            refine hK _ _ ?_
            clear hK K
            refine wpAny_ready (rs := [8]) (by kernel_rfl) (by simp) ?_
            refine AllReady.cons rfl (fun K hK => ?_) AllReady.nil
            try simp only [Act.put, List.setIfInBounds_toArray, List.set_cons_zero, List.set_cons_succ]
            go_simp
            refine hK _ _ ?_
            clear hK K
            refine wpAny_done (by kernel_rfl) ?_ _
            try simp only [Act.put, List.setIfInBounds_toArray, List.set_cons_zero, List.set_cons_succ]
            gi_wp2
            refine ⟨?_, by simp [intOf]⟩
            refine ⟨1, ys ++ [y / 256 % 256], by omega, by go_num, by rw [HY.out, List.append_assoc]; simp [bytesL], ⟨⟨_, f2, by rw [← List.append_assoc, HXE.out, List.length_append, HN.out, List.map_append]; exact f3⟩, f6, Nat.le_trans b4 f4.size⟩, hkf.trans ((KeepsOthers.drew wr).trans f4 |>.from _), hbw.trans ((Below.refl _ wr).drew.trans f5)⟩
          refine AllReady.cons rfl (fun K hK => ?_) AllReady.nil
          try simp only [Act.put, List.setIfInBounds_toArray, List.set_cons_zero, List.set_cons_succ]
          go_simp
          refine hK _ _ ?_
          clear hK K
          refine wpAny_ready (rs := [0]) (by kernel_rfl) (by simp) ?_
          refine AllReady.cons rfl (fun K hK => ?_) AllReady.nil
          try simp only [Act.put, List.setIfInBounds_toArray, List.set_cons_zero, List.set_cons_succ]
          have y0a := (b1'.alloc (.cells #[vb (y / 256 % 256)] 5)).cell
          go_simp
          refine hK _ _ ?_
          clear hK K
          refine wpAny_ready (rs := [7]) (by kernel_rfl) (by simp) ?_
          refine AllReady.cons rfl (fun K hK => ?_) AllReady.nil
          try simp only [Act.put, List.setIfInBounds_toArray, List.set_cons_zero, List.set_cons_succ]
          refine (if_pos (by kernel_rfl)).mpr (wp_append_sl _ (.tmp 17) (.tmp 23) 26 rfl w.heap.size 5 i0 (.int .u8 0) 1 Tryd.underlying26 hi hz0 hz1 hz2 rfl v nx (xs.map vb) (by rfl) (show World.ownsRow (wr.alloc (.cells #[vb (y / 256 % 256)] 5)).drew w.heap.size 5 1 v _ _ from b2.alloc _) (wr.heap.size + 1) (some ⟨wr.heap.size, 0, none⟩) 1 1 [vb (y / 256 % 256)] (by rfl) (Sl.made' wr _ _ [vb (y / 256 % 256)] 5 rfl rfl (by simp [maxLen])).drew (by intro u hu; simp at hu; subst hu; rfl) (by unfold maxLen; omega) (by omega) (by simp; omega) ?_)
          intro v' w4 hown4 hgr4 _
          obtain ⟨A4, cp4, rfl, _⟩ := Sl.own hown4
          obtain ⟨f1, f2, f3, f4, f5, f6⟩ := row_appended b1' b2' b3' b4 hbb0 hne hown4 (show (wr.drew.alloc (.cells #[vb (y / 256 % 256)] 5)).grownBy w4 _ from hgr4)
          have f10 := f1.cell
          have f1z := f1.frozen
          refine hK _ _ ?_
          clear hK K
          refine wpAny_ready (rs := [8]) (by kernel_rfl) (by simp) ?_
          refine AllReady.cons rfl (fun K hK => ?_) AllReady.nil
          try simp only [Act.put, List.setIfInBounds_toArray, List.set_cons_zero, List.set_cons_succ]
          go_simp
          refine hK _ _ ?_
          clear hK K
          refine wpAny_done (by kernel_rfl) ?_ _
          try simp only [Act.put, List.setIfInBounds_toArray, List.set_cons_zero, List.set_cons_succ]
          gi_wp2
          refine ⟨?_, by simp [intOf]⟩
          refine ⟨1, ys ++ [y / 256 % 256], by omega, by go_num, by rw [HY.out, List.append_assoc]; simp [bytesL], ⟨⟨_, f2, by rw [← List.append_assoc, HXE.out, List.length_append, HN.out, List.map_append]; exact f3⟩, f6, Nat.le_trans b4 f4.size⟩, hkf.trans ((KeepsOthers.drew wr).trans f4 |>.from _), hbw.trans ((Below.refl _ wr).drew.trans f5)⟩
        · have ei : ((3 : Nat) : Int) - 1 = 2 := rfl
          rw [ei]
          gi_wp2
          refine regionIn_any (wide_round _ _) (wideRows_round _ _) (fun ⟨_, _, h⟩ => h) (by kernel_rfl) (by kernel_rfl) ?_
          change wpAny _ _ _ _ _ _ _ (World.drew _)
          refine take_slot (i := 1) (some 18) #[false, true, false, false, false, false, false, false, false] (v := ?_) rfl (by kernel_rfl) (by kernel_rfl) (by kernel_rfl) (by kernel_rfl) (by kernel_rfl) (by intro _ _ _ h; exact h) (Or.inl ⟨by kernel_rfl, ?hyr31_1⟩) ?hrr31_1
          case hyr31_1 => intro w; go_simp; try with_reducible rfl
          refine take_slot (i := 2) (some 19) #[false, true, true, false, false, false, false, false, false] (v := ?_) rfl (by kernel_rfl) (by kernel_rfl) (by kernel_rfl) (by kernel_rfl) (by kernel_rfl) (by intro _ _ _ h; exact h) (Or.inl ⟨by kernel_rfl, ?hyr32_2⟩) ?hrr32_2
          case hyr32_2 => intro w; go_simp; try with_reducible rfl
          refine take_slot (i := 3) (some 20) #[false, true, true, true, false, false, false, false, false] (v := .int .i64 16) rfl (by kernel_rfl) (by kernel_rfl) (by kernel_rfl) (by kernel_rfl) (by kernel_rfl) (by intro _ _ _ h; exact h) (Or.inl ⟨by kernel_rfl, ?hyr33_3⟩) ?_
          case hyr33_3 => intro w; go_simp; try rfl
          refine take_slot (i := 4) (some 21) #[false, true, true, true, true, false, false, false, false] (v := .int .u32 (y / 65536)) rfl (by kernel_rfl) (by kernel_rfl) (by kernel_rfl) (by kernel_rfl) (by kernel_rfl) (by intro _ _ _ h; exact h) (Or.inl ⟨by kernel_rfl, ?hyr34_4⟩) ?_
          case hyr34_4 => intro w; go_simp; try rfl
          refine take_slot (i := 5) (some 22) #[false, true, true, true, true, true, false, false, false] (v := .int .u8 ((y / 65536) % 256)) rfl (by kernel_rfl) (by kernel_rfl) (by kernel_rfl) (by kernel_rfl) (by kernel_rfl) (by intro _ _ _ h; exact h) (Or.inl ⟨by kernel_rfl, ?hyr35_5⟩) ?_
          case hyr35_5 => intro w; go_simp; try rfl
          refine wpAny_ready (rs := [0, 6]) (by kernel_rfl) (by simp) ?_
          refine AllReady.cons rfl (fun K hK => ?_) ?_
          · try simp only [Act.put, List.setIfInBounds_toArray, List.set_cons_zero, List.set_cons_succ]
            go_simp
            refine hK _ _ ?_
            clear hK K
            refine wpAny_ready (rs := [6]) (by kernel_rfl) (by simp) ?_
            refine AllReady.cons rfl (fun K hK => ?_) AllReady.nil
            try simp only [Act.put, List.setIfInBounds_toArray, List.set_cons_zero, List.set_cons_succ]
            go_simp
            refine hK _ _ ?_
            clear hK K
            refine wpAny_ready (rs := [7]) (by kernel_rfl) (by simp) ?_
            refine AllReady.cons rfl (fun K hK => ?_) AllReady.nil
            try simp only [Act.put, List.setIfInBounds_toArray, List.set_cons_zero, List.set_cons_succ]
            refine (if_pos (by kernel_rfl)).mpr (wp_append_sl _ (.tmp 17) (.tmp 23) 26 rfl w.heap.size 5 i0 (.int .u8 0) 1 Tryd.underlying26 hi hz0 hz1 hz2 rfl v nx (xs.map vb) (by rfl) (show World.ownsRow (wr.alloc (.cells #[vb (y / 65536 % 256)] 5)).drew w.heap.size 5 1 v _ _ from b2.alloc _) (wr.heap.size + 1) (some ⟨wr.heap.size, 0, none⟩) 1 1 [vb (y / 65536 % 256)] (by rfl) (Sl.made' wr _ _ [vb (y / 65536 % 256)] 5 rfl rfl (by simp [maxLen])).drew (by intro u hu; simp at hu; subst hu; rfl) (by unfold maxLen; omega) (by omega) (by simp; omega) ?_)
            intro v' w4 hown4 hgr4 _
            obtain ⟨A4, cp4, rfl, _⟩ := Sl.own hown4
            obtain ⟨f1, f2, f3, f4, f5, f6⟩ := row_appended b1' b2' b3' b4 hbb0 hne hown4 (show (wr.drew.alloc (.cells #[vb (y / 65536 % 256)] 5)).grownBy w4 _ from hgr4)
            have f10 := f1.cell
            have f1z := f1.frozen
            refine hK _ _ ?_
            clear hK K
            refine wpAny_ready (rs := [8]) (by kernel_rfl) (by simp) ?_
            refine AllReady.cons rfl (fun K hK => ?_) AllReady.nil
            try simp only [Act.put, List.setIfInBounds_toArray, List.set_cons_zero, List.set_cons_succ]
            go_simp
            refine hK _ _ ?_
            clear hK K
            refine wpAny_done (by kernel_rfl) ?_ _
            try simp only [Act.put, List.setIfInBounds_toArray, List.set_cons_zero, List.set_cons_succ]
            gi_wp2
            refine ⟨?_, by simp [intOf]⟩
            refine ⟨2, ys ++ [y / 65536 % 256], by omega, by go_num, by rw [HY.out, List.append_assoc]; simp [bytesL], ⟨⟨_, f2, by rw [← List.append_assoc, HXE.out, List.length_append, HN.out, List.map_append]; exact f3⟩, f6, Nat.le_trans b4 f4.size⟩, hkf.trans ((KeepsOthers.drew wr).trans f4 |>.from _), hbw.trans ((Below.refl _ wr).drew.trans f5)⟩
          refine AllReady.cons rfl (fun K hK => ?_) AllReady.nil
          try simp only [Act.put, List.setIfInBounds_toArray, List.set_cons_zero, List.set_cons_succ]
          go_simp
          refine hK _ _ ?_
          clear hK K
          refine wpAny_ready (rs := [0]) (by kernel_rfl) (by simp) ?_
          refine AllReady.cons rfl (fun K hK => ?_) AllReady.nil
          try simp only [Act.put, List.setIfInBounds_toArray, List.set_cons_zero, List.set_cons_succ]
          have y0a := (b1'.alloc (.cells #[vb (y / 65536 % 256)] 5)).cell
          go_simp
          refine hK _ _ ?_
          clear hK K
          refine wpAny_ready (rs := [7]) (by kernel_rfl) (by simp) ?_
          refine AllReady.cons rfl (fun K hK => ?_) AllReady.nil
          try simp only [Act.put, List.setIfInBounds_toArray, List.set_cons_zero, List.set_cons_succ]
          refine (if_pos (by kernel_rfl)).mpr (wp_append_sl _ (.tmp 17) (.tmp 23) 26 rfl w.heap.size 5 i0 (.int .u8 0) 1 Tryd.underlying26 hi hz0 hz1 hz2 rfl v nx (xs.map vb) (by rfl) (show World.ownsRow (wr.alloc (.cells #[vb (y / 65536 % 256)] 5)).drew w.heap.size 5 1 v _ _ from b2.alloc _) (wr.heap.size + 1) (some ⟨wr.heap.size, 0, none⟩) 1 1 [vb (y / 65536 % 256)] (by rfl) (Sl.made' wr _ _ [vb (y / 65536 % 256)] 5 rfl rfl (by simp [maxLen])).drew (by intro u hu; simp at hu; subst hu; rfl) (by unfold maxLen; omega) (by omega) (by simp; omega) ?_)
          intro v' w4 hown4 hgr4 _
          obtain ⟨A4, cp4, rfl, _⟩ := Sl.own hown4
          obtain ⟨f1, f2, f3, f4, f5, f6⟩ := row_appended b1' b2' b3' b4 hbb0 hne hown4 (show (wr.drew.alloc (.cells #[vb (y / 65536 % 256)] 5)).grownBy w4 _ from hgr4)
          have f10 := f1.cell
          have f1z := f1.frozen
          refine hK _ _ ?_
          clear hK K
          refine wpAny_ready (rs := [8]) (by kernel_rfl) (by simp) ?_
          refine AllReady.cons rfl (fun K hK => ?_) AllReady.nil
          try simp only [Act.put, List.setIfInBounds_toArray, List.set_cons_zero, List.set_cons_succ]
          go_simp
          refine hK _ _ ?_
          clear hK K
          refine wpAny_done (by kernel_rfl) ?_ _
          try simp only [Act.put, List.setIfInBounds_toArray, List.set_cons_zero, List.set_cons_succ]
          gi_wp2
          refine ⟨?_, by simp [intOf]⟩
          refine ⟨2, ys ++ [y / 65536 % 256], by omega, by go_num, by rw [HY.out, List.append_assoc]; simp [bytesL], ⟨⟨_, f2, by rw [← List.append_assoc, HXE.out, List.length_append, HN.out, List.map_append]; exact f3⟩, f6, Nat.le_trans b4 f4.size⟩, hkf.trans ((KeepsOthers.drew wr).trans f4 |>.from _), hbw.trans ((Below.refl _ wr).drew.trans f5)⟩
        · have ei : ((4 : Nat) : Int) - 1 = 3 := rfl
          rw [ei]
          gi_wp2
          refine regionIn_any (wide_round _ _) (wideRows_round _ _) (fun ⟨_, _, h⟩ => h) (by kernel_rfl) (by kernel_rfl) ?_
          change wpAny _ _ _ _ _ _ _ (World.drew _)
          refine take_slot (i := 1) (some 18) #[false, true, false, false, false, false, false, false, false] (v := ?_) rfl (by kernel_rfl) (by kernel_rfl) (by kernel_rfl) (by kernel_rfl) (by kernel_rfl) (by intro _ _ _ h; exact h) (Or.inl ⟨by kernel_rfl, ?hyr41_1⟩) ?hrr41_1
          case hyr41_1 => intro w; go_simp; try with_reducible rfl
          refine take_slot (i := 2) (some 19) #[false, true, true, false, false, false, false, false, false] (v := ?_) rfl (by kernel_rfl) (by kernel_rfl) (by kernel_rfl) (by kernel_rfl) (by kernel_rfl) (by intro _ _ _ h; exact h) (Or.inl ⟨by kernel_rfl, ?hyr42_2⟩) ?hrr42_2
          case hyr42_2 => intro w; go_simp; try with_reducible rfl
          refine take_slot (i := 3) (some 20) #[false, true, true, true, false, false, false, false, false] (v := .int .i64 24) rfl (by kernel_rfl) (by kernel_rfl) (by kernel_rfl) (by kernel_rfl) (by kernel_rfl) (by intro _ _ _ h; exact h) (Or.inl ⟨by kernel_rfl, ?hyr43_3⟩) ?_
          case hyr43_3 => intro w; go_simp; try rfl
          refine take_slot (i := 4) (some 21) #[false, true, true, true, true, false, false, false, false] (v := .int .u32 (y / 16777216)) rfl (by kernel_rfl) (by kernel_rfl) (by kernel_rfl) (by kernel_rfl) (by kernel_rfl) (by intro _ _ _ h; exact h) (Or.inl ⟨by kernel_rfl, ?hyr44_4⟩) ?_
          case hyr44_4 => intro w; go_simp; try rfl
          refine take_slot (i := 5) (some 22) #[false, true, true, true, true, true, false, false, false] (v := .int .u8 ((y / 16777216) % 256)) rfl (by kernel_rfl) (by kernel_rfl) (by kernel_rfl) (by kernel_rfl) (by kernel_rfl) (by intro _ _ _ h; exact h) (Or.inl ⟨by kernel_rfl, ?hyr45_5⟩) ?_
          case hyr45_5 => intro w; go_simp; try rfl
          refine wpAny_ready (rs := [0, 6]) (by kernel_rfl) (by simp) ?_
          refine AllReady.cons rfl (fun K hK => ?_) ?_
          · try simp only [Act.put, List.setIfInBounds_toArray, List.set_cons_zero, List.set_cons_succ]
            go_simp
            refine hK _ _ ?_
            clear hK K
            refine wpAny_ready (rs := [6]) (by kernel_rfl) (by simp) ?_
            refine AllReady.cons rfl (fun K hK => ?_) AllReady.nil
            try simp only [Act.put, List.setIfInBounds_toArray, List.set_cons_zero, List.set_cons_succ]
            go_simp
            refine hK _ _ ?_
            clear hK K
            refine wpAny_ready (rs := [7]) (by kernel_rfl) (by simp) ?_
            refine AllReady.cons rfl (fun K hK => ?_) AllReady.nil
            try simp only [Act.put, List.setIfInBounds_toArray, List.set_cons_zero, List.set_cons_succ]
            refine (if_pos (by kernel_rfl)).mpr (wp_append_sl _ (.tmp 17) (.tmp 23) 26 rfl w.heap.size 5 i0 (.int .u8 0) 1 Tryd.underlying26 hi hz0 hz1 hz2 rfl v nx (xs.map vb) (by rfl) (show World.ownsRow (wr.alloc (.cells #[vb (y / 16777216 % 256)] 5)).drew w.heap.size 5 1 v _ _ from b2.alloc _) (wr.heap.size + 1) (some ⟨wr.heap.size, 0, none⟩) 1 1 [vb (y / 16777216 % 256)] (by rfl) (Sl.made' wr _ _ [vb (y / 16777216 % 256)] 5 rfl rfl (by simp [maxLen])).drew (by intro u hu; simp at hu; subst hu; rfl) (by unfold maxLen; omega) (by omega) (by simp; omega) ?_)
            intro v' w4 hown4 hgr4 _
            obtain ⟨A4, cp4, rfl, _⟩ := Sl.own hown4
            obtain ⟨f1, f2, f3, f4, f5, f6⟩ := row_appended b1' b2' b3' b4 hbb0 hne hown4 (show (wr.drew.alloc (.cells #[vb (y / 16777216 % 256)] 5)).grownBy w4 _ from hgr4)
            have f10 := f1.cell
            have f1z := f1.frozen
            refine hK _ _ ?_
            clear hK K
            refine wpAny_ready (rs := [8]) (by kernel_rfl) (by simp) ?_
            refine AllReady.cons rfl (fun K hK => ?_) AllReady.nil
            try simp only [Act.put, List.setIfInBounds_toArray, List.set_cons_zero, List.set_cons_succ]
            go_simp
            refine hK _ _ ?_
            clear hK K
            refine wpAny_done (by kernel_rfl) ?_ _
            try simp only [Act.put, List.setIfInBounds_toArray, List.set_cons_zero, List.set_cons_succ]
            gi_wp2
            refine ⟨?_, by simp [intOf]⟩
            refine ⟨3, ys ++ [y / 16777216 % 256], by omega, by go_num, by rw [HY.out, List.append_assoc]; simp [bytesL], ⟨⟨_, f2, by rw [← List.append_assoc, HXE.out, List.length_append, HN.out, List.map_append]; exact f3⟩, f6, Nat.le_trans b4 f4.size⟩, hkf.trans ((KeepsOthers.drew wr).trans f4 |>.from _), hbw.trans ((Below.refl _ wr).drew.trans f5)⟩
          refine AllReady.cons rfl (fun K hK => ?_) AllReady.nil
          try simp only [Act.put, List.setIfInBounds_toArray, List.set_cons_zero, List.set_cons_succ]
          go_simp
          refine hK _ _ ?_
          clear hK K
          refine wpAny_ready (rs := [0]) (by kernel_rfl) (by simp) ?_
          refine AllReady.cons rfl (fun K hK => ?_) AllReady.nil
          try simp only [Act.put, List.setIfInBounds_toArray, List.set_cons_zero, List.set_cons_succ]
          have y0a := (b1'.alloc (.cells #[vb (y / 16777216 % 256)] 5)).cell
          go_simp
          refine hK _ _ ?_
          clear hK K
          refine wpAny_ready (rs := [7]) (by kernel_rfl) (by simp) ?_
          refine AllReady.cons rfl (fun K hK => ?_) AllReady.nil
          try simp only [Act.put, List.setIfInBounds_toArray, List.set_cons_zero, List.set_cons_succ]
          refine (if_pos (by kernel_rfl)).mpr (wp_append_sl _ (.tmp 17) (.tmp 23) 26 rfl w.heap.size 5 i0 (.int .u8 0) 1 Tryd.underlying26 hi hz0 hz1 hz2 rfl v nx (xs.map vb) (by rfl) (show World.ownsRow (wr.alloc (.cells #[vb (y / 16777216 % 256)] 5)).drew w.heap.size 5 1 v _ _ from b2.alloc _) (wr.heap.size + 1) (some ⟨wr.heap.size, 0, none⟩) 1 1 [vb (y / 16777216 % 256)] (by rfl) (Sl.made' wr _ _ [vb (y / 16777216 % 256)] 5 rfl rfl (by simp [maxLen])).drew (by intro u hu; simp at hu; subst hu; rfl) (by unfold maxLen; omega) (by omega) (by simp; omega) ?_)
          intro v' w4 hown4 hgr4 _
          obtain ⟨A4, cp4, rfl, _⟩ := Sl.own hown4
          obtain ⟨f1, f2, f3, f4, f5, f6⟩ := row_appended b1' b2' b3' b4 hbb0 hne hown4 (show (wr.drew.alloc (.cells #[vb (y / 16777216 % 256)] 5)).grownBy w4 _ from hgr4)
          have f10 := f1.cell
          have f1z := f1.frozen
          refine hK _ _ ?_
          clear hK K
          refine wpAny_ready (rs := [8]) (by kernel_rfl) (by simp) ?_
          refine AllReady.cons rfl (fun K hK => ?_) AllReady.nil
          try simp only [Act.put, List.setIfInBounds_toArray, List.set_cons_zero, List.set_cons_succ]
          go_simp
          refine hK _ _ ?_
          clear hK K
          refine wpAny_done (by kernel_rfl) ?_ _
          try simp only [Act.put, List.setIfInBounds_toArray, List.set_cons_zero, List.set_cons_succ]
          gi_wp2
          refine ⟨?_, by simp [intOf]⟩
          refine ⟨3, ys ++ [y / 16777216 % 256], by omega, by go_num, by rw [HY.out, List.append_assoc]; simp [bytesL], ⟨⟨_, f2, by rw [← List.append_assoc, HXE.out, List.length_append, HN.out, List.map_append]; exact f3⟩, f6, Nat.le_trans b4 f4.size⟩, hkf.trans ((KeepsOthers.drew wr).trans f4 |>.from _), hbw.trans ((Below.refl _ wr).drew.trans f5)⟩
  case done =>
    rintro D ys W hD rfl ⟨⟨⟨v, h1, h2⟩, h3, h4⟩, hB, hX⟩ hK
    have y0 := h1.cell
    gi_wp2
    refine ⟨by simp, .inl ⟨_, _, rfl, run_takeDeferred hK, ?_⟩⟩
    have hown := ownsRow_putObj h2 (.deferred none) hK rfl
    exact ⟨v, by simp [results, Tryd.f11, go_sem], ⟨⟨v, rfl, by rw [← bytesT_length t]; exact hown⟩, hB.trans (belowK_b (w := w) (Nat.le_refl _) _ D _ _ (by omega) hK rfl rfl)⟩⟩
  case stop =>
    rintro D c pre W _ _ h _
    exact h.elim
end Go.Proofs.YtdlpkphbgbffpaaDoor
