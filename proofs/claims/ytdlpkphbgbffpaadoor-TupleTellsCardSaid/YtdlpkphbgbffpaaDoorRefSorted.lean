/-
  The walk of the document's Sorted.
-/
import Derived.Test.YtdlpkphbgbffpaaDoorRefCmp
import Derived.Test.YtdlpkphbgbffpaaDoorInsert
import Derived.Test.YtdlpkphbgbffpaaDoorTupleSortsWalk
namespace Go.Proofs.YtdlpkphbgbffpaaDoor
open Go Go.RowKit Go.Shelf
set_option linter.unusedSimpArgs false
set_option linter.unusedVariables false
attribute [local go_sem] Oper.semAt_some
theorem refLess_val (a b : Tup) (v : Bool) (hv : decide (cmpT a b < 0) = v) (ha : a.In) (hb : b.In) (w : World) : Calls Tryd.prog 16 #[tv a, tv b] w fun e W' => e = .returned (.bool v) ∧ Below w.heap.size w W' := hv ▸ refLess_any a b w ha hb
theorem Ts.one (w : World) (x : Tup) : Ts (w.alloc (.cells #[.int .u32 x.src, .int .u32 x.dst, .int .u16 x.sp, .int .u16 x.dp] 25)) (w.heap.size + 1) (some ⟨w.heap.size, 0, none⟩) 1 1 [x] := by
  refine ⟨rfl, Nat.le_refl _, by unfold maxLen; omega, fun _ => ⟨w.heap.size, 0, rfl, by omega, fun j e he => ?_⟩⟩
  have hh := World.alloc_heap_new w (.cells #[.int .u32 x.src, .int .u32 x.dst, .int .u16 x.sp, .int .u16 x.dp] 25)
  rcases j with _ | j
  · cases he
    exact ⟨cell_of_row _ _ 0 _ 25 (0, 0) hh, cell_of_row _ _ 1 _ 25 (0, 0) hh, cell_of_row _ _ 2 _ 25 (0, 0) hh, cell_of_row _ _ 3 _ 25 (0, 0) hh⟩
  · simp at he
theorem below_allocN {W : World} {B : Nat} (h : B ≤ W.heap.size) (k : Nat) (o : Obj) : Below B W ((W.drewN k).alloc o) := (below_drewN (Below.refl _ W) k).alloc h o
theorem Ts.cut_end {W : World} {B : Nat} {A A' : Option Addr} {i k : Nat} {os : List Tup} (h : Ts W B A i k os) : Ts W B A' (i - k) 0 (os.drop k) := by
  have h1 := h.1
  have h2 := h.2.1
  exact ⟨by simp; omega, by omega, Nat.zero_le _, fun h0 => absurd h0 (by omega)⟩
theorem Ts.cut {W : World} {B b off i c k : Nat} {os : List Tup} (h : Ts W B (some ⟨b, off, none⟩) i c os) (hk : k ≤ i) : Ts W B (some ⟨b, off + k * 4, none⟩) (i - k) (c - k) (os.drop k) := by
  have h1 := h.1
  have h2 := h.2.1
  have h3 := h.2.2.1
  refine ⟨by simp; omega, by omega, by omega, fun h0 => ?_⟩
  obtain ⟨b', off', e, hb, hc⟩ := h.2.2.2 (by omega)
  cases e
  refine ⟨b, off + k * 4, rfl, hb, fun j t ht => ?_⟩
  rw [List.getElem?_drop] at ht
  have := hc (k + j) t ht
  rwa [show off + k * 4 + j * 4 = off + (k + j) * 4 by omega]
theorem Ts.cut_if {W : World} {B b off i c k : Nat} {os : List Tup} (h : Ts W B (some ⟨b, off, none⟩) i c os) (hk : k ≤ i) : Ts W B (if c = k then some ⟨b, off, none⟩ else some ⟨b, off + k * 4, none⟩) (i - k) (c - k) (os.drop k) := by
  split
  · rename_i e
    subst e
    rw [Nat.sub_self]
    exact h.cut_end
  · exact h.cut hk
theorem Own.ts' {W : World} {base : Nat} {v : Value} {os : List Tup} (h : Own W base v os) : ∃ A c, v = .slice A os.length c ∧ Ts W W.heap.size A os.length c os ∧ (A = none ∧ c = 0 ∨ ∃ g, A = some ⟨g, 0, none⟩) := by
  obtain ⟨A, c, e, ht⟩ := h.ts
  refine ⟨A, c, e, ht, ?_⟩
  rcases h.2 with ⟨e1, h0⟩ | ⟨g, cap, cur, e1, _⟩
  · obtain ⟨h1, _, h3⟩ := Value.slice.inj (e.symm.trans e1)
    exact Or.inl ⟨h1, h3⟩
  · obtain ⟨h1, _, h3⟩ := Value.slice.inj (e.symm.trans e1)
    exact Or.inr ⟨g, h1⟩
/-- What is held while a place is looked for. -/
structure Lo (w w1 : World) (A A' : Option Addr) (n i c c' : Nat) (ts os : List Tup) (W : World) : Prop where
  ts : Ts W w.heap.size A n c ts
  os : Ts W w1.heap.size A' i c' os
  below : Below w1.heap.size w1 W
theorem Lo.le {w w1 W : World} {A A' : Option Addr} {n i c c' : Nat} {ts os : List Tup} (h : Lo w w1 A A' n i c c' ts os W) : w1.heap.size ≤ W.heap.size := h.below.size
theorem Lo.next {w w1 W W' : World} {A A' : Option Addr} {n i c c' : Nat} {ts os : List Tup} (hw : w.heap.size ≤ w1.heap.size) (h : Lo w w1 A A' n i c c' ts os W) (hb : Below W.heap.size W W') : Lo w w1 A A' n i c c' ts os W' :=
  ⟨h.ts.below (hb.mono (Nat.le_trans hw h.le)), h.os.below (hb.mono h.le), h.below.trans (hb.mono h.le)⟩
theorem Lo.drew {w w1 W : World} {A A' : Option Addr} {n i c c' : Nat} {ts os : List Tup} (h : Lo w w1 A A' n i c c' ts os W) : Lo w w1 A A' n i c c' ts os W.drew := ⟨h.ts, h.os, (h.below).drew⟩
theorem Lo.drewN {w w1 W : World} {A A' : Option Addr} {n i c c' : Nat} {ts os : List Tup} (h : Lo w w1 A A' n i c c' ts os W) (k : Nat) : Lo w w1 A A' n i c c' ts os (W.drewN k) := ⟨h.ts, h.os, below_drewN h.below k⟩
/-- The operations of Sorted's test. -/
noncomputable def V6 : Array Oper := opsOf Tryd.f23 6
--FACTS
theorem V6_s : Region.noSelect V6 = true := by kernel_rfl
theorem V6_f0 : Region.free .any V6 #[false, false, false, false, false, false, false, false, false, false, false, false, false, false] 0 = true := by kernel_rfl
theorem V6_c0 : (Region.ready .any V6 #[false, false, false, false, false, false, false, false, false, false, false, false, false, false]).contains 0 = true := by kernel_rfl
theorem V6_f1 : Region.free .any V6 #[true, false, false, false, false, false, false, false, false, false, false, false, false, false] 1 = true := by kernel_rfl
theorem V6_c1 : (Region.ready .any V6 #[true, false, false, false, false, false, false, false, false, false, false, false, false, false]).contains 1 = true := by kernel_rfl
theorem V6_f2 : Region.free .any V6 #[true, true, false, false, false, false, false, false, false, false, false, false, false, false] 2 = true := by kernel_rfl
theorem V6_c2 : (Region.ready .any V6 #[true, true, false, false, false, false, false, false, false, false, false, false, false, false]).contains 2 = true := by kernel_rfl
theorem V6_f3 : Region.free .any V6 #[true, true, true, false, false, false, false, false, false, false, false, false, false, false] 3 = true := by kernel_rfl
theorem V6_c3 : (Region.ready .any V6 #[true, true, true, false, false, false, false, false, false, false, false, false, false, false]).contains 3 = true := by kernel_rfl
theorem V6_f4 : Region.free .any V6 #[true, true, true, true, false, false, false, false, false, false, false, false, false, false] 4 = true := by kernel_rfl
theorem V6_c4 : (Region.ready .any V6 #[true, true, true, true, false, false, false, false, false, false, false, false, false, false]).contains 4 = true := by kernel_rfl
theorem V6_f5 : Region.free .any V6 #[true, true, true, true, true, false, false, false, false, false, false, false, false, false] 5 = true := by kernel_rfl
theorem V6_c5 : (Region.ready .any V6 #[true, true, true, true, true, false, false, false, false, false, false, false, false, false]).contains 5 = true := by kernel_rfl
theorem V6_f6 : Region.free .any V6 #[true, true, true, true, true, true, false, false, false, false, false, false, false, false] 6 = true := by kernel_rfl
theorem V6_c6 : (Region.ready .any V6 #[true, true, true, true, true, true, false, false, false, false, false, false, false, false]).contains 6 = true := by kernel_rfl
theorem V6_f7 : Region.free .any V6 #[true, true, true, true, true, true, true, false, false, false, false, false, false, false] 7 = true := by kernel_rfl
theorem V6_c7 : (Region.ready .any V6 #[true, true, true, true, true, true, true, false, false, false, false, false, false, false]).contains 7 = true := by kernel_rfl
theorem V6_f8 : Region.free .any V6 #[true, true, true, true, true, true, true, true, false, false, false, false, false, false] 8 = true := by kernel_rfl
theorem V6_c8 : (Region.ready .any V6 #[true, true, true, true, true, true, true, true, false, false, false, false, false, false]).contains 8 = true := by kernel_rfl
theorem V6_f9 : Region.free .any V6 #[true, true, true, true, true, true, true, true, true, false, false, false, false, false] 9 = true := by kernel_rfl
theorem V6_c9 : (Region.ready .any V6 #[true, true, true, true, true, true, true, true, true, false, false, false, false, false]).contains 9 = true := by kernel_rfl
theorem V6_f10 : Region.free .any V6 #[true, true, true, true, true, true, true, true, true, true, false, false, false, false] 10 = true := by kernel_rfl
theorem V6_c10 : (Region.ready .any V6 #[true, true, true, true, true, true, true, true, true, true, false, false, false, false]).contains 10 = true := by kernel_rfl
theorem V6_f11 : Region.free .any V6 #[true, true, true, true, true, true, true, true, true, true, true, false, false, false] 11 = true := by kernel_rfl
theorem V6_c11 : (Region.ready .any V6 #[true, true, true, true, true, true, true, true, true, true, true, false, false, false]).contains 11 = true := by kernel_rfl
theorem V6_r12 : Region.ready .any V6 #[true, true, true, true, true, true, true, true, true, true, true, true, false, false] = [12] := by kernel_rfl
theorem V6_f13 : Region.free .any V6 #[true, true, true, true, true, true, true, true, true, true, true, true, true, false] 13 = true := by kernel_rfl
theorem V6_c13 : (Region.ready .any V6 #[true, true, true, true, true, true, true, true, true, true, true, true, true, false]).contains 13 = true := by kernel_rfl
--ENDFACTS
set_option maxRecDepth 100000 in
set_option maxHeartbeats 8000000 in
theorem refSorted_any (A : Option Addr) (n c : Nat) (ts : List Tup) (w : World) (hs : Ts w w.heap.size A n c ts) (hn60 : n ≤ 60) (hin : ∀ t ∈ ts, t.In) :
    Calls Tryd.prog 23 #[.slice A n c] w fun e w' => (∃ A' c', e = .returned (.slice A' n c') ∧ Ts w' w'.heap.size A' n c' (sortT ts)) ∧ Below w.heap.size w w' := by
  have hlen : ts.length = n := hs.1
  have HL := hide hlen
  have HIN := hide hin
  clear hlen hin
  go_enter Tryd.func23, Tryd.ntmps23
  go_wp2
  go_loopw [3, 4] (fun o i wr => ∃ (k : Nat) (os : List Tup), k ≤ n ∧ i = .int .i64 k ∧ os.length = k ∧ Own wr w.heap.size o os ∧ os.Perm (ts.take k) ∧ os.Pairwise (fun a b => leT a b = true) ∧ Below w.heap.size w wr) (fun _ i _ => n - (intOf i).toNat)
  case atStart => exact ⟨0, [], Nat.zero_le _, rfl, rfl, World.ownsRow_nil _ _ _ _, by simp, by simp, Below.refl _ _⟩
  case round =>
    rename World => wr0
    obtain ⟨i, os, hi, rfl, hol, hown, hperm, hsort, hB⟩ := hrel
    have HP := hide hperm
    have HO := hide hsort
    have HOL := hide hol
    clear hperm hsort
    obtain ⟨A', c', rfl, hos, hA⟩ := hown.ts'
    have HA := hide hA
    clear hA
    rw [hol] at hown hos ⊢
    clear hol
    by_cases hlt : i < n
    · obtain ⟨b, off, x, rfl, hbl, hx, e0, e1, e2, e3⟩ := (hs.below hB).at_ hlt
      have hxin := hide (HIN.out x (List.mem_of_getElem? hx))
      have osin := hide (fun (j : Nat) (t : Tup) (h : os[j]? = some t) => HIN.out t (List.mem_of_mem_take (HP.out.subset (List.mem_of_getElem? h))))
      have HX := hide hx
      have hLo : Lo w wr0 (some ⟨b, off, none⟩) A' n i c c' ts os wr0 := ⟨hs.below hB, hos, Below.refl _ _⟩
      have hws := hB.size
      have HXAT := hide (show ∀ W, Lo w wr0 (some ⟨b, off, none⟩) A' n i c c' ts os W → At4 W b (off + i * 4) x from fun W h => h.ts.at' HX.out)
      have fin : Hid (∀ (k : Nat) (v : Value) (wr W : World), k ≤ i → (∀ j t, k ≤ j → os[j]? = some t → ltT x t) → (∀ t, 0 < k → os[k - 1]? = some t → ¬ ltT x t) → w.heap.size ≤ wr.heap.size → Own W wr.heap.size v (os.take k ++ [x] ++ os.drop k) → Below w.heap.size w W → ∃ (q : Nat) (os' : List Tup), q ≤ n ∧ Value.int .i64 ((i : Int) + 1) = .int .i64 q ∧ os'.length = q ∧ Own W w.heap.size v os' ∧ os'.Perm (ts.take q) ∧ os'.Pairwise (fun a b => leT a b = true) ∧ Below w.heap.size w W) := by
        refine hide ?_
        intro k v wr W hk h1 h2 hwr ho hB
        have hol := HOL.out
        refine ⟨i + 1, _, by omega, by simp, ?_, ownsRow_base ho hwr, insert_perm HP.out HX.out, insert_sorted (by omega) HO.out h1 h2, hB⟩
        simp
        omega
      clear hx e0 e1 e2 e3
      go_wp2
      go_loopw [5] (fun kk wk => ∃ k : Nat, k ≤ i ∧ kk = .int .i64 k ∧ (∀ j t, k ≤ j → os[j]? = some t → ltT x t) ∧ Lo w wr0 (some ⟨b, off, none⟩) A' n i c c' ts os wk) (fun kk _ => (intOf kk).toNat)
      case atStart => exact ⟨i, Nat.le_refl _, rfl, fun j t hj h => by have := (List.getElem?_eq_some_iff.1 h).1; rw [HOL.out] at this; omega, hLo⟩
      case round =>
        obtain ⟨k, hk, rfl, hgt, hLk⟩ := hrel
        have HG := hide hgt
        clear hgt
        rcases k with _ | j
        · obtain ⟨c0, c1, c2, c3⟩ := HXAT.out _ hLk
          rcases HA.out with ⟨rfl, rfl⟩ | ⟨g, rfl⟩
          · go_wp2
            go_quiet (fail)
            go_wp2_with (first | (at_builtin; refine wpList_append_ts rfl (.tmp 36) (.tmp 41) rfl rfl (wr.heap.size) (.slice none 0 0) [] rfl (World.ownsRow_nil _ _ _ _) (wr.heap.size + 1) _ _ _ [x] rfl (Ts.one _ x) (by simp) (by simp) ?_; intro v1 w1 hown1 hB1 hle1; have hBw := ((below_drewN (Below.refl _ wr) _).alloc (Nat.le_refl _) _).trans hB1; have hL1 := hLk.next hws hBw) | (at_builtin; refine wpList_append_ts rfl (.tmp 43) (.tmp 46) rfl rfl (wr.heap.size) v1 _ rfl hown1 wr0.heap.size _ _ _ os rfl hL1.os (by have := HOL.out; simp; omega) hBw.size ?_; intro v2 w2 hown2 hB2 hle2))
            exact ⟨fin.out 0 v2 wr w2 (Nat.zero_le _) (fun j t hj h => HG.out j t hj h) (fun t h => absurd h (by omega)) (Nat.le_trans hws hLk.le) hown2 (hB.trans ((hLk.below.mono hws).trans ((hBw.trans hB2).mono (Nat.le_trans hws hLk.le)))), by simp [intOf]; omega⟩
          · go_wp2
            go_quiet (fail)
            go_wp2_with (first | (at_builtin; refine wpList_append_ts rfl (.tmp 36) (.tmp 41) rfl rfl (wr.heap.size) (.slice none 0 0) [] rfl (World.ownsRow_nil _ _ _ _) (wr.heap.size + 1) _ _ _ [x] rfl (Ts.one _ x) (by simp) (by simp) ?_; intro v1 w1 hown1 hB1 hle1; have hBw := ((below_drewN (Below.refl _ wr) _).alloc (Nat.le_refl _) _).trans hB1; have hL1 := hLk.next hws hBw) | (at_builtin; refine wpList_append_ts rfl (.tmp 43) (.tmp 46) rfl rfl (wr.heap.size) v1 _ rfl hown1 wr0.heap.size _ _ _ os rfl hL1.os (by have := HOL.out; simp; omega) hBw.size ?_; intro v2 w2 hown2 hB2 hle2))
            exact ⟨fin.out 0 v2 wr w2 (Nat.zero_le _) (fun j t hj h => HG.out j t hj h) (fun t h => absurd h (by omega)) (Nat.le_trans hws hLk.le) hown2 (hB.trans ((hLk.below.mono hws).trans ((hBw.trans hB2).mono (Nat.le_trans hws hLk.le)))), by simp [intOf]; omega⟩
        · obtain ⟨b', off', y, rfl, hbl', hy, e0, e1, e2, e3⟩ := hLk.os.at_ (show j < i by omega)
          have HY := hide hy
          have hyin := hide (osin.out j y hy)
          have ej : ((j + 1 : Nat) : Int) = (j : Int) + 1 := by omega
          rw [ej]
          have hin' : i < n := hlt
          clear hy e0 e1 e2 e3
          by_cases hc : ltT x y
          · have hdec : decide (cmpT x y < 0) = true := decide_eq_true ((cmpT_lt x y).2 hc)
            go_wp2
            --R6true
            refine region_as (R := V6) (by kernel_rfl) ?_
            refine wp_region_held_drew (S := Lo w wr0 (some ⟨b, off, none⟩) (some ⟨b', off', none⟩) n i c c' ts os) (by kernel_rfl) ?_ (fun hHeld => ?_)
            · exact hLk.drew
            refine listed_as (L := #[false, false, false, false, false, false, false, false, false, false, false, false, false, false]) (by kernel_rfl) ?_
            refine take_bare (i := 0) (some 15) (Go.Op.move (Go.Operand.tmp 5)) 3 #[true, false, false, false, false, false, false, false, false, false, false, false, false, false] (v := ?_) hHeld rfl (by kernel_rfl) (by kernel_rfl) (by kernel_rfl) (by kernel_rfl) V6_s V6_f0 V6_c0 (by kernel_rfl) (fun _ _ _ h => h) ?hyat0_1 ?_
            case hyat0_1 => intro w hSw; clear hSw; go_simp; try with_reducible rfl
            try simp only [Act.put, List.setIfInBounds_toArray, List.set_cons_zero, List.set_cons_succ]
            refine take_bare (i := 1) (some 16) (Go.Op.binOp Go.BinOp.gtr 3 (Go.Operand.tmp 15) (Go.Operand.const (Go.Value.int Go.IntKind.i64 0)) 3) 4 #[true, true, false, false, false, false, false, false, false, false, false, false, false, false] (v := ?_) hHeld rfl (by kernel_rfl) (by kernel_rfl) (by kernel_rfl) (by kernel_rfl) V6_s V6_f1 V6_c1 (by kernel_rfl) (fun _ _ _ h => h) ?hyat1_2 ?_
            case hyat1_2 => intro w hSw; clear hSw; go_simp; try with_reducible rfl
            try simp only [Act.put, List.setIfInBounds_toArray, List.set_cons_zero, List.set_cons_succ]
            refine take_bare (i := 2) (some 17) (Go.Op.move (Go.Operand.tmp 16)) 4 #[true, true, true, false, false, false, false, false, false, false, false, false, false, false] (v := ?_) hHeld rfl (by kernel_rfl) (by kernel_rfl) (by kernel_rfl) (by kernel_rfl) V6_s V6_f2 V6_c2 (by kernel_rfl) (fun _ _ _ h => h) ?hyat2_3 ?_
            case hyat2_3 => intro w hSw; clear hSw; go_simp; try with_reducible rfl
            try simp only [Act.put, List.setIfInBounds_toArray, List.set_cons_zero, List.set_cons_succ]
            refine take_bare (i := 3) (some 18) (Go.Op.move (Go.Operand.tmp 0)) 27 #[true, true, true, true, false, false, false, false, false, false, false, false, false, false] (v := ?_) hHeld rfl (by kernel_rfl) (by kernel_rfl) (by kernel_rfl) (by kernel_rfl) V6_s V6_f3 V6_c3 (by kernel_rfl) (fun _ _ _ h => h) ?hyat3_4 ?_
            case hyat3_4 => intro w hSw; clear hSw; go_simp; try with_reducible rfl
            try simp only [Act.put, List.setIfInBounds_toArray, List.set_cons_zero, List.set_cons_succ]
            refine take_bare (i := 4) (some 19) (Go.Op.move (Go.Operand.tmp 4)) 3 #[true, true, true, true, true, false, false, false, false, false, false, false, false, false] (v := ?_) hHeld rfl (by kernel_rfl) (by kernel_rfl) (by kernel_rfl) (by kernel_rfl) V6_s V6_f4 V6_c4 (by kernel_rfl) (fun _ _ _ h => h) ?hyat4_5 ?_
            case hyat4_5 => intro w hSw; clear hSw; go_simp; try with_reducible rfl
            try simp only [Act.put, List.setIfInBounds_toArray, List.set_cons_zero, List.set_cons_succ]
            refine take_bare (i := 5) (some 20) (Go.Op.indexAddr 27 (Go.Operand.tmp 18) (Go.Operand.tmp 19)) 0 #[true, true, true, true, true, true, false, false, false, false, false, false, false, false] (v := (.pointer (some ⟨b, off + i * 4, none⟩))) hHeld rfl (by kernel_rfl) (by kernel_rfl) (by kernel_rfl) (by kernel_rfl) V6_s V6_f5 V6_c5 (by kernel_rfl) (fun _ _ _ h => h) (fun W hS => run_idx (s := 18) (t := 19) (n := n) (c := c) i (i : Int) (by kernel_rfl) (by kernel_rfl) (by kernel_rfl) rfl (by omega) W) ?_
            try simp only [Act.put, List.setIfInBounds_toArray, List.set_cons_zero, List.set_cons_succ]
            refine take_bare (i := 6) (some 21) (Go.Op.load 25 (Go.Operand.tmp 20)) 25 #[true, true, true, true, true, true, true, false, false, false, false, false, false, false] (v := (tv x)) hHeld rfl (by kernel_rfl) (by kernel_rfl) (by kernel_rfl) (by kernel_rfl) V6_s V6_f6 V6_c6 (by kernel_rfl) (fun _ _ _ h => h) (fun W hS => run_load_at (s := 20) (by kernel_rfl) (by kernel_rfl) (HXAT.out _ hS)) ?_
            try simp only [Act.put, List.setIfInBounds_toArray, List.set_cons_zero, List.set_cons_succ]
            refine take_bare (i := 7) (some 22) (Go.Op.move (Go.Operand.tmp 3)) 27 #[true, true, true, true, true, true, true, true, false, false, false, false, false, false] (v := ?_) hHeld rfl (by kernel_rfl) (by kernel_rfl) (by kernel_rfl) (by kernel_rfl) V6_s V6_f7 V6_c7 (by kernel_rfl) (fun _ _ _ h => h) ?hyat7_8 ?_
            case hyat7_8 => intro w hSw; clear hSw; go_simp; try with_reducible rfl
            try simp only [Act.put, List.setIfInBounds_toArray, List.set_cons_zero, List.set_cons_succ]
            refine take_bare (i := 8) (some 23) (Go.Op.move (Go.Operand.tmp 5)) 3 #[true, true, true, true, true, true, true, true, true, false, false, false, false, false] (v := ?_) hHeld rfl (by kernel_rfl) (by kernel_rfl) (by kernel_rfl) (by kernel_rfl) V6_s V6_f8 V6_c8 (by kernel_rfl) (fun _ _ _ h => h) ?hyat8_9 ?_
            case hyat8_9 => intro w hSw; clear hSw; go_simp; try with_reducible rfl
            try simp only [Act.put, List.setIfInBounds_toArray, List.set_cons_zero, List.set_cons_succ]
            refine take_bare (i := 9) (some 24) (Go.Op.binOp Go.BinOp.sub 3 (Go.Operand.tmp 23) (Go.Operand.const (Go.Value.int Go.IntKind.i64 1)) 3) 3 #[true, true, true, true, true, true, true, true, true, true, false, false, false, false] (v := (.int .i64 (j : Int))) hHeld rfl (by kernel_rfl) (by kernel_rfl) (by kernel_rfl) (by kernel_rfl) V6_s V6_f9 V6_c9 (by kernel_rfl) (fun _ _ _ h => h) (fun W hS => run_pred (s := 23) j (by kernel_rfl) (by kernel_rfl) (by omega) W) ?_
            try simp only [Act.put, List.setIfInBounds_toArray, List.set_cons_zero, List.set_cons_succ]
            refine take_bare (i := 10) (some 25) (Go.Op.indexAddr 27 (Go.Operand.tmp 22) (Go.Operand.tmp 24)) 0 #[true, true, true, true, true, true, true, true, true, true, true, false, false, false] (v := (.pointer (some ⟨b', off' + j * 4, none⟩))) hHeld rfl (by kernel_rfl) (by kernel_rfl) (by kernel_rfl) (by kernel_rfl) V6_s V6_f10 V6_c10 (by kernel_rfl) (fun _ _ _ h => h) (fun W hS => run_idx (s := 22) (t := 24) (n := i) (c := c') j (j : Int) (by kernel_rfl) (by kernel_rfl) (by kernel_rfl) rfl (by omega) W) ?_
            try simp only [Act.put, List.setIfInBounds_toArray, List.set_cons_zero, List.set_cons_succ]
            refine take_bare (i := 11) (some 26) (Go.Op.load 25 (Go.Operand.tmp 25)) 25 #[true, true, true, true, true, true, true, true, true, true, true, true, false, false] (v := (tv y)) hHeld rfl (by kernel_rfl) (by kernel_rfl) (by kernel_rfl) (by kernel_rfl) V6_s V6_f11 V6_c11 (by kernel_rfl) (fun _ _ _ h => h) (fun W hS => run_load_at (s := 25) (by kernel_rfl) (by kernel_rfl) (hS.os.at' HY.out)) ?_
            try simp only [Act.put, List.setIfInBounds_toArray, List.set_cons_zero, List.set_cons_succ]
            refine step_bare (i := 12) (some 27) (Go.Op.call { callee := Go.Callee.value (Go.Operand.func 16), args := #[Go.Operand.tmp 21, Go.Operand.tmp 26], argTypes := #[25, 25] }) 4 #[true, true, true, true, true, true, true, true, true, true, true, true, true, false] V6_r12 rfl (by kernel_rfl) (by kernel_rfl) (by kernel_rfl) (by kernel_rfl) (by kernel_rfl) (fun K hK => ?_)
            go_simp
            (with_reducible refine (refLess_val x y true hdec hxin.out hyin.out _).mono ?_)
            rintro e w36 ⟨rfl, hB36⟩
            go_simp
            refine hK.out _ _ ?_ (fun hHeld => ?_)
            · exact hHeld.next hws hB36
            clear hK K
            try simp only [Act.put, List.setIfInBounds_toArray, List.set_cons_zero, List.set_cons_succ]
            refine take_bare (i := 13) (some 28) (Go.Op.pick (Go.Operand.tmp 17) (Go.Operand.tmp 27) (Go.Operand.const (Go.Value.bool false))) 4 #[true, true, true, true, true, true, true, true, true, true, true, true, true, true] (v := ?_) hHeld rfl (by kernel_rfl) (by kernel_rfl) (by kernel_rfl) (by kernel_rfl) V6_s V6_f13 V6_c13 (by kernel_rfl) (fun _ _ _ h => h) ?hyat13_13 ?_
            case hyat13_13 => intro w hSw; clear hSw; go_simp; try with_reducible rfl
            try simp only [Act.put, List.setIfInBounds_toArray, List.set_cons_zero, List.set_cons_succ]
            refine wpAnyH_done (by kernel_rfl) ?_ _
            try simp only [Act.put, List.setIfInBounds_toArray, List.set_cons_zero, List.set_cons_succ]
            --E6true
            go_wp2
            refine ⟨⟨j, by omega, by go_num, ?_, hHeld⟩, by simp [intOf]⟩
            intro q t hq ht
            rcases Nat.eq_or_lt_of_le hq with rfl | hq
            · obtain rfl : y = t := Option.some.inj (HY.out.symm.trans ht)
              exact hc
            · exact HG.out q t hq ht
          · have HC := hide hc
            have hdec : decide (cmpT x y < 0) = false := decide_eq_false fun h => hc ((cmpT_lt x y).1 h)
            go_wp2
            --R6false
            refine region_as (R := V6) (by kernel_rfl) ?_
            refine wp_region_held_drew (S := Lo w wr0 (some ⟨b, off, none⟩) (some ⟨b', off', none⟩) n i c c' ts os) (by kernel_rfl) ?_ (fun hHeld => ?_)
            · exact hLk.drew
            refine listed_as (L := #[false, false, false, false, false, false, false, false, false, false, false, false, false, false]) (by kernel_rfl) ?_
            refine take_bare (i := 0) (some 15) (Go.Op.move (Go.Operand.tmp 5)) 3 #[true, false, false, false, false, false, false, false, false, false, false, false, false, false] (v := ?_) hHeld rfl (by kernel_rfl) (by kernel_rfl) (by kernel_rfl) (by kernel_rfl) V6_s V6_f0 V6_c0 (by kernel_rfl) (fun _ _ _ h => h) ?hyaf0_1 ?_
            case hyaf0_1 => intro w hSw; clear hSw; go_simp; try with_reducible rfl
            try simp only [Act.put, List.setIfInBounds_toArray, List.set_cons_zero, List.set_cons_succ]
            refine take_bare (i := 1) (some 16) (Go.Op.binOp Go.BinOp.gtr 3 (Go.Operand.tmp 15) (Go.Operand.const (Go.Value.int Go.IntKind.i64 0)) 3) 4 #[true, true, false, false, false, false, false, false, false, false, false, false, false, false] (v := ?_) hHeld rfl (by kernel_rfl) (by kernel_rfl) (by kernel_rfl) (by kernel_rfl) V6_s V6_f1 V6_c1 (by kernel_rfl) (fun _ _ _ h => h) ?hyaf1_2 ?_
            case hyaf1_2 => intro w hSw; clear hSw; go_simp; try with_reducible rfl
            try simp only [Act.put, List.setIfInBounds_toArray, List.set_cons_zero, List.set_cons_succ]
            refine take_bare (i := 2) (some 17) (Go.Op.move (Go.Operand.tmp 16)) 4 #[true, true, true, false, false, false, false, false, false, false, false, false, false, false] (v := ?_) hHeld rfl (by kernel_rfl) (by kernel_rfl) (by kernel_rfl) (by kernel_rfl) V6_s V6_f2 V6_c2 (by kernel_rfl) (fun _ _ _ h => h) ?hyaf2_3 ?_
            case hyaf2_3 => intro w hSw; clear hSw; go_simp; try with_reducible rfl
            try simp only [Act.put, List.setIfInBounds_toArray, List.set_cons_zero, List.set_cons_succ]
            refine take_bare (i := 3) (some 18) (Go.Op.move (Go.Operand.tmp 0)) 27 #[true, true, true, true, false, false, false, false, false, false, false, false, false, false] (v := ?_) hHeld rfl (by kernel_rfl) (by kernel_rfl) (by kernel_rfl) (by kernel_rfl) V6_s V6_f3 V6_c3 (by kernel_rfl) (fun _ _ _ h => h) ?hyaf3_4 ?_
            case hyaf3_4 => intro w hSw; clear hSw; go_simp; try with_reducible rfl
            try simp only [Act.put, List.setIfInBounds_toArray, List.set_cons_zero, List.set_cons_succ]
            refine take_bare (i := 4) (some 19) (Go.Op.move (Go.Operand.tmp 4)) 3 #[true, true, true, true, true, false, false, false, false, false, false, false, false, false] (v := ?_) hHeld rfl (by kernel_rfl) (by kernel_rfl) (by kernel_rfl) (by kernel_rfl) V6_s V6_f4 V6_c4 (by kernel_rfl) (fun _ _ _ h => h) ?hyaf4_5 ?_
            case hyaf4_5 => intro w hSw; clear hSw; go_simp; try with_reducible rfl
            try simp only [Act.put, List.setIfInBounds_toArray, List.set_cons_zero, List.set_cons_succ]
            refine take_bare (i := 5) (some 20) (Go.Op.indexAddr 27 (Go.Operand.tmp 18) (Go.Operand.tmp 19)) 0 #[true, true, true, true, true, true, false, false, false, false, false, false, false, false] (v := (.pointer (some ⟨b, off + i * 4, none⟩))) hHeld rfl (by kernel_rfl) (by kernel_rfl) (by kernel_rfl) (by kernel_rfl) V6_s V6_f5 V6_c5 (by kernel_rfl) (fun _ _ _ h => h) (fun W hS => run_idx (s := 18) (t := 19) (n := n) (c := c) i (i : Int) (by kernel_rfl) (by kernel_rfl) (by kernel_rfl) rfl (by omega) W) ?_
            try simp only [Act.put, List.setIfInBounds_toArray, List.set_cons_zero, List.set_cons_succ]
            refine take_bare (i := 6) (some 21) (Go.Op.load 25 (Go.Operand.tmp 20)) 25 #[true, true, true, true, true, true, true, false, false, false, false, false, false, false] (v := (tv x)) hHeld rfl (by kernel_rfl) (by kernel_rfl) (by kernel_rfl) (by kernel_rfl) V6_s V6_f6 V6_c6 (by kernel_rfl) (fun _ _ _ h => h) (fun W hS => run_load_at (s := 20) (by kernel_rfl) (by kernel_rfl) (HXAT.out _ hS)) ?_
            try simp only [Act.put, List.setIfInBounds_toArray, List.set_cons_zero, List.set_cons_succ]
            refine take_bare (i := 7) (some 22) (Go.Op.move (Go.Operand.tmp 3)) 27 #[true, true, true, true, true, true, true, true, false, false, false, false, false, false] (v := ?_) hHeld rfl (by kernel_rfl) (by kernel_rfl) (by kernel_rfl) (by kernel_rfl) V6_s V6_f7 V6_c7 (by kernel_rfl) (fun _ _ _ h => h) ?hyaf7_8 ?_
            case hyaf7_8 => intro w hSw; clear hSw; go_simp; try with_reducible rfl
            try simp only [Act.put, List.setIfInBounds_toArray, List.set_cons_zero, List.set_cons_succ]
            refine take_bare (i := 8) (some 23) (Go.Op.move (Go.Operand.tmp 5)) 3 #[true, true, true, true, true, true, true, true, true, false, false, false, false, false] (v := ?_) hHeld rfl (by kernel_rfl) (by kernel_rfl) (by kernel_rfl) (by kernel_rfl) V6_s V6_f8 V6_c8 (by kernel_rfl) (fun _ _ _ h => h) ?hyaf8_9 ?_
            case hyaf8_9 => intro w hSw; clear hSw; go_simp; try with_reducible rfl
            try simp only [Act.put, List.setIfInBounds_toArray, List.set_cons_zero, List.set_cons_succ]
            refine take_bare (i := 9) (some 24) (Go.Op.binOp Go.BinOp.sub 3 (Go.Operand.tmp 23) (Go.Operand.const (Go.Value.int Go.IntKind.i64 1)) 3) 3 #[true, true, true, true, true, true, true, true, true, true, false, false, false, false] (v := (.int .i64 (j : Int))) hHeld rfl (by kernel_rfl) (by kernel_rfl) (by kernel_rfl) (by kernel_rfl) V6_s V6_f9 V6_c9 (by kernel_rfl) (fun _ _ _ h => h) (fun W hS => run_pred (s := 23) j (by kernel_rfl) (by kernel_rfl) (by omega) W) ?_
            try simp only [Act.put, List.setIfInBounds_toArray, List.set_cons_zero, List.set_cons_succ]
            refine take_bare (i := 10) (some 25) (Go.Op.indexAddr 27 (Go.Operand.tmp 22) (Go.Operand.tmp 24)) 0 #[true, true, true, true, true, true, true, true, true, true, true, false, false, false] (v := (.pointer (some ⟨b', off' + j * 4, none⟩))) hHeld rfl (by kernel_rfl) (by kernel_rfl) (by kernel_rfl) (by kernel_rfl) V6_s V6_f10 V6_c10 (by kernel_rfl) (fun _ _ _ h => h) (fun W hS => run_idx (s := 22) (t := 24) (n := i) (c := c') j (j : Int) (by kernel_rfl) (by kernel_rfl) (by kernel_rfl) rfl (by omega) W) ?_
            try simp only [Act.put, List.setIfInBounds_toArray, List.set_cons_zero, List.set_cons_succ]
            refine take_bare (i := 11) (some 26) (Go.Op.load 25 (Go.Operand.tmp 25)) 25 #[true, true, true, true, true, true, true, true, true, true, true, true, false, false] (v := (tv y)) hHeld rfl (by kernel_rfl) (by kernel_rfl) (by kernel_rfl) (by kernel_rfl) V6_s V6_f11 V6_c11 (by kernel_rfl) (fun _ _ _ h => h) (fun W hS => run_load_at (s := 25) (by kernel_rfl) (by kernel_rfl) (hS.os.at' HY.out)) ?_
            try simp only [Act.put, List.setIfInBounds_toArray, List.set_cons_zero, List.set_cons_succ]
            refine step_bare (i := 12) (some 27) (Go.Op.call { callee := Go.Callee.value (Go.Operand.func 16), args := #[Go.Operand.tmp 21, Go.Operand.tmp 26], argTypes := #[25, 25] }) 4 #[true, true, true, true, true, true, true, true, true, true, true, true, true, false] V6_r12 rfl (by kernel_rfl) (by kernel_rfl) (by kernel_rfl) (by kernel_rfl) (by kernel_rfl) (fun K hK => ?_)
            go_simp
            (with_reducible refine (refLess_val x y false hdec hxin.out hyin.out _).mono ?_)
            rintro e w36 ⟨rfl, hB36⟩
            go_simp
            refine hK.out _ _ ?_ (fun hHeld => ?_)
            · exact hHeld.next hws hB36
            clear hK K
            try simp only [Act.put, List.setIfInBounds_toArray, List.set_cons_zero, List.set_cons_succ]
            refine take_bare (i := 13) (some 28) (Go.Op.pick (Go.Operand.tmp 17) (Go.Operand.tmp 27) (Go.Operand.const (Go.Value.bool false))) 4 #[true, true, true, true, true, true, true, true, true, true, true, true, true, true] (v := ?_) hHeld rfl (by kernel_rfl) (by kernel_rfl) (by kernel_rfl) (by kernel_rfl) V6_s V6_f13 V6_c13 (by kernel_rfl) (fun _ _ _ h => h) ?hyaf13_13 ?_
            case hyaf13_13 => intro w hSw; clear hSw; go_simp; try with_reducible rfl
            try simp only [Act.put, List.setIfInBounds_toArray, List.set_cons_zero, List.set_cons_succ]
            refine wpAnyH_done (by kernel_rfl) ?_ _
            try simp only [Act.put, List.setIfInBounds_toArray, List.set_cons_zero, List.set_cons_succ]
            --E6false
            obtain ⟨k, hkj⟩ : ∃ k, k = j + 1 := ⟨_, rfl⟩
            have ek : (j : Int) + 1 = (k : Int) := by omega
            rw [ek]
            have hkc : k ≤ c' := by have := hos.2.1; omega
            have g1 : (k : Int) ≤ (c' : Int) := by omega
            have g2 : (0 : Int) ≤ (k : Int) := by omega
            have g3 : (k : Int) ≤ (i : Int) := by omega
            have HKJ := hide hkj
            clear ek hkj ej hdec hc
            go_wp2_with (first | (at_builtin; refine wpList_append_ts rfl (.tmp 31) (.tmp 34) rfl rfl w36.heap.size (.slice none 0 0) [] rfl (World.ownsRow_nil _ _ _ _) wr0.heap.size _ _ _ (os.take k) rfl (hHeld.os.take (by omega)) (by have := HOL.out; simp; omega) (Nat.le_refl _) ?_; intro v0 w0 hown0 hB0 hle0; have hL2 := hHeld.next hws hB0; obtain ⟨c0, c1, c2, c3⟩ := HXAT.out _ hL2) | (at_builtin; refine wpList_append_ts rfl (.tmp 36) (.tmp 41) rfl rfl w36.heap.size v0 _ rfl (hown0.alloc _) (w0.heap.size + 1) _ _ _ [x] rfl (Ts.one _ x) (by have := HOL.out; simp; omega) (Nat.le_trans hle0 (by simp)) ?_; intro v1 w1 hown1 hB1 hle1; have hBw := hB0.trans (((Below.refl _ w0).alloc hle0 _).trans hB1); have hL3 := hHeld.next hws hBw) | (at_builtin; refine wpList_append_ts rfl (.tmp 43) (.tmp 46) rfl rfl w36.heap.size v1 _ rfl hown1 wr0.heap.size _ _ _ (os.drop k) rfl (hL3.os.cut_if (by omega)) (by have := HOL.out; simp; omega) hBw.size ?_; intro v2 w2 hown2 hB2 hle2))
            refine ⟨fin.out k v2 w36 w2 (by omega) (fun q t hq h => HG.out q t (by have := HKJ.out; omega) h) (fun t _ h => ?_) (Nat.le_trans hws hHeld.le) hown2 (hB.trans ((hHeld.below.mono hws).trans ((hBw.trans hB2).mono (Nat.le_trans hws hHeld.le)))), by simp [intOf]; omega⟩
            have e : k - 1 = j := by have := HKJ.out; omega
            rw [e] at h
            obtain rfl : y = t := Option.some.inj (HY.out.symm.trans h)
            exact HC.out
    · obtain rfl : i = n := by omega
      have hsort : sortT ts = os := sort_unique (HP.out.trans (by rw [List.take_of_length_le (by rw [HL.out]; omega)])) HO.out
      rw [← hsort] at hos
      go_wp2
      go_ret
      exact ⟨⟨A', c', rfl, hos⟩, hB⟩
end Go.Proofs.YtdlpkphbgbffpaaDoor
