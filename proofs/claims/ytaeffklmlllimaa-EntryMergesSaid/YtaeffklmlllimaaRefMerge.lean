/-
  Merging: what it is, and the walk of the document's Merge (its drawn region printed by gen-refmerge.py).
-/
import Derived.Test.YtaeffklmlllimaaRows
import Derived.Test.YtaeffklmlllimaaAppend
import Derived.Test.YtaeffklmlllimaaTail
import Derived.Shelf.Abstract
import Derived.Shelf.RegionOpen
import Derived.WalkKit
import Derived.OwnWalkIn
import Derived.TacticsInMore
import Derived.LoopNIn
import Derived.LoopIn
import Derived.WalkMore
import Derived.ScopeJumps
import Derived.Lib.Hide
import Derived.WalkSpells
import Derived.WalkLawsBesides
import Derived.Deep.QuietTactic
import Derived.BigQuiet
import Derived.Laws.Rows
import Derived.Test.YtaeffklmlllimaaEnts
import Derived.Test.YtaeffklmlllimaaTake
namespace Go.Proofs.Ytaeffklmlllimaa
open Go Go.RowKit Go.Shelf
set_option linter.unusedSimpArgs false
attribute [local go_sem] Oper.semAt_some

theorem At4.below {W W' : World} {B b o : Nat} {e : Ent} (h : At4 W b o e) (hB : Below B W W') (hb : b < B) : At4 W' b o e := h.keep fun p hp => hB.cell (by omega)

/-- One step of merging. -/
def mstep (s : Ent × Bool) (x : Ent) : Ent × Bool := if rightB x && (!s.2 || decide (s.1.gen < x.gen)) then (x, true) else s
def mergeS (es : List Ent) : Ent × Bool := es.foldl mstep (noneE, false)
def mergeL (es : List Ent) : Ent := (mergeS es).1

theorem mergeS_next (es : List Ent) {k : Nat} {x : Ent} (h : es[k]? = some x) : mergeS (es.take (k + 1)) = mstep (mergeS (es.take k)) x := by
  unfold mergeS
  rw [List.take_add_one, h]
  simp

theorem setBx {W : World} {g : Nat} {x e : Ent} (h : Bx W g x) :
    Bx ((((W.setCell ⟨g, 0, none⟩ (.int .i64 e.cur)).setCell ⟨g, 1, none⟩ (.int .i64 e.prev)).setCell ⟨g, 2, none⟩ (.int .i64 e.gen)).setCell ⟨g, 3, none⟩ (.int .i64 e.tick)) g e := by
  unfold Bx at h ⊢
  simp [World.setCell, Array.getElem?_modify, h]

theorem refRight_val (a : Ent) (v : Bool) (hv : rightB a = v) (w : World) : Calls Try.prog 9 #[ev a] w fun e W' => e = .returned (.bool v) ∧ Below w.heap.size w W' := hv ▸ refRight_any a w
theorem right_val (a : Ent) (v : Bool) (hv : rightB a = v) (w : World) : Calls Try.prog 8 #[ev a] w fun e W' => e = .returned (.bool v) ∧ Below w.heap.size w W' := hv ▸ right_any a w
theorem newer_val (a b : Ent) (v : Bool) (hv : decide (b.gen < a.gen) = v) (w : World) : Calls Try.prog 10 #[ev a, ev b] w fun e W' => e = .returned (.bool v) ∧ Below w.heap.size w W' := hv ▸ newer_any a b w
theorem refNewer_val (a b : Ent) (v : Bool) (hv : decide (b.gen < a.gen) = v) (w : World) : Calls Try.prog 11 #[ev a, ev b] w fun e W' => e = .returned (.bool v) ∧ Below w.heap.size w W' := hv ▸ refNewer_any a b w
theorem moving_val (a : Ent) (v : Bool) (hv : decide (a.prev ≠ -1) = v) (w : World) : Calls Try.prog 19 #[ev a] w fun e W' => e = .returned (.bool v) ∧ Below w.heap.size w W' := hv ▸ moving_any a w
theorem refMoving_val (a : Ent) (v : Bool) (hv : decide (a.prev ≠ -1) = v) (w : World) : Calls Try.prog 20 #[ev a] w fun e W' => e = .returned (.bool v) ∧ Below w.heap.size w W' := hv ▸ refMoving_any a w

set_option maxHeartbeats 400000 in
theorem refMerge_any (A : Option Addr) (n c : Nat) (es : List Ent) (w : World) (hs : Se w w.heap.size A n c es) :
    Calls Try.prog 13 #[.slice A n c] w fun e W' => e = .returned (ev (mergeL es)) ∧ Below w.heap.size w W' := by
  have hlen : es.length = n := hs.1
  have hn63 := hs.n63
  have HL := hide hlen
  clear hlen
  go_enter Try.func13, Try.ntmps13
  go_wp2_with fail
  refine (refNone_val _).mono ?_
  rintro e w1 ⟨rfl, hB1⟩
  have bx0 : Bx w1 w.heap.size ⟨0, 0, 0, 0⟩ := (Bx.new w 0 0 0 0).below hB1 (by simp)
  have hB2 : Below w.heap.size w w1 := ((Below.refl w.heap.size w).alloc (Nat.le_refl _) _).trans (hB1.mono (by simp))
  clear hB1
  have hlt0 := bx0.lt
  go_wp2
  go_loopw [4, 5] (fun s i wr => ∃ k : Nat, k ≤ n ∧ i = .int .i64 k ∧ s = .bool (mergeS (es.take k)).2 ∧ Bx wr w1.heap.size (mergeS (es.take k)).1 ∧ Bx wr w.heap.size ⟨0, 0, 0, 0⟩ ∧ Below w.heap.size w wr) (fun _ i _ => n - (intOf i).toNat)
  case atStart => exact ⟨0, Nat.zero_le _, rfl, rfl, Bx.new w1 (-1) (-1) 0 0, bx0.alloc _, hB2.alloc (by omega) _⟩
  case round =>
    obtain ⟨k, hk, rfl, rfl, bx, by0, hB⟩ := hrel
    by_cases hlt : k < n
    · obtain ⟨b, off, x, rfl, hb, hx, a4⟩ := (hs.below hB).at_ hlt
      have HT := hide (mergeS_next es hx)
      clear hx
      obtain ⟨⟨y, f⟩, hy⟩ : ∃ y, mergeS (es.take k) = y := ⟨_, rfl⟩
      rw [hy] at HT bx ⊢
      clear hy
      simp only at bx ⊢
      unfold mstep at HT
      simp only at HT
      have hlt2 : (k : Int) < (n : Int) := by omega
      have h0 : (0 : Int) ≤ (k : Int) := by omega
      obtain ⟨c0, c1, c2, c3⟩ := a4
      have hw1 : w.heap.size ≤ w1.heap.size := by omega
      cases hr : rightB x
      · go_wp2
        refine wp_region_any (by kernel_rfl) ?_
        change wpAny _ _ _ _ _ _ _ (World.drew _)
        refine take_slot (i := 0) (some 13) #[true, false, false, false, false, false, false, false, false, false, false, false, false, false, false, false, false] (v := ?_) rfl (by kernel_rfl) (by kernel_rfl) (by kernel_rfl) (by kernel_rfl) (by kernel_rfl) (fun _ _ _ h => h) (Or.inl ⟨by kernel_rfl, ?hya0_1⟩) ?hra0_1
        case hya0_1 => intro w; go_simp; try with_reducible rfl
        refine take_slot (i := 1) (some 14) #[true, true, false, false, false, false, false, false, false, false, false, false, false, false, false, false, false] (v := ?_) rfl (by kernel_rfl) (by kernel_rfl) (by kernel_rfl) (by kernel_rfl) (by kernel_rfl) (fun _ _ _ h => h) (Or.inl ⟨by kernel_rfl, ?hya1_2⟩) ?hra1_2
        case hya1_2 => intro w; go_simp; try with_reducible rfl
        refine take_slot (i := 2) (some 15) #[true, true, true, false, false, false, false, false, false, false, false, false, false, false, false, false, false] (v := ?_) rfl (by kernel_rfl) (by kernel_rfl) (by kernel_rfl) (by kernel_rfl) (by kernel_rfl) (fun _ _ _ h => h) (Or.inl ⟨by kernel_rfl, ?hya2_3⟩) ?hra2_3
        case hya2_3 => intro w; go_simp; try with_reducible rfl
        refine wpAny_ready (rs := [3]) (by kernel_rfl) (by simp) ?_
        refine AllReady.cons rfl (fun K hK => ?_) AllReady.nil
        try simp only [Act.put, List.setIfInBounds_toArray, List.set_cons_zero, List.set_cons_succ]
        go_simp
        refine hK _ _ ?_
        clear hK K
        refine wpAny_ready (rs := [4]) (by kernel_rfl) (by simp) ?_
        refine AllReady.cons rfl (fun K hK => ?_) AllReady.nil
        try simp only [Act.put, List.setIfInBounds_toArray, List.set_cons_zero, List.set_cons_succ]
        go_simp
        (with_reducible refine (refRight_val _ _ hr _).mono ?_)
        rintro e w2 ⟨rfl, hB2⟩
        go_simp
        have hB2 : Below wr.heap.size wr w2 := (Below.refl _ wr).drew.trans hB2
        have hB4 : Below w.heap.size w w2 := hB.trans (hB2.mono hB.size)
        have bx2 : Bx w2 w1.heap.size y := bx.below hB2 bx.lt
        have by2 : Bx w2 w.heap.size ⟨0, 0, 0, 0⟩ := by0.below hB2 by0.lt
        obtain ⟨d0, d1, d2, d3⟩ : At4 w2 b (off + k * 4) x := At4.below ⟨c0, c1, c2, c3⟩ hB2 (by have := hB.size; show b < wr.heap.size; omega)
        have e0 := bx2.c0
        have e1 := bx2.c1
        have e2 := bx2.c2
        have e3 := bx2.c3
        refine hK _ _ ?_
        clear hK K
        refine take_slot (i := 5) (some 18) #[true, true, true, true, true, true, false, false, false, false, false, false, false, false, false, false, false] (v := ?_) rfl (by kernel_rfl) (by kernel_rfl) (by kernel_rfl) (by kernel_rfl) (by kernel_rfl) (fun _ _ _ h => h) (Or.inl ⟨by kernel_rfl, ?hya5_4⟩) ?hra5_4
        case hya5_4 => intro w; go_simp; try with_reducible rfl
        refine take_slot (i := 6) (some 19) #[true, true, true, true, true, true, true, false, false, false, false, false, false, false, false, false, false] (v := undef) rfl (by kernel_rfl) (by kernel_rfl) (by kernel_rfl) (by kernel_rfl) (by kernel_rfl) (fun _ _ _ h => h) (Or.inr ⟨by kernel_rfl, rfl⟩) ?_
        refine take_slot (i := 7) (some 20) #[true, true, true, true, true, true, true, true, false, false, false, false, false, false, false, false, false] (v := undef) rfl (by kernel_rfl) (by kernel_rfl) (by kernel_rfl) (by kernel_rfl) (by kernel_rfl) (fun _ _ _ h => h) (Or.inr ⟨by kernel_rfl, rfl⟩) ?_
        refine take_slot (i := 8) (some 21) #[true, true, true, true, true, true, true, true, true, false, false, false, false, false, false, false, false] (v := undef) rfl (by kernel_rfl) (by kernel_rfl) (by kernel_rfl) (by kernel_rfl) (by kernel_rfl) (fun _ _ _ h => h) (Or.inr ⟨by kernel_rfl, rfl⟩) ?_
        refine take_slot (i := 9) (some 22) #[true, true, true, true, true, true, true, true, true, true, false, false, false, false, false, false, false] (v := undef) rfl (by kernel_rfl) (by kernel_rfl) (by kernel_rfl) (by kernel_rfl) (by kernel_rfl) (fun _ _ _ h => h) (Or.inr ⟨by kernel_rfl, rfl⟩) ?_
        refine take_slot (i := 10) (some 23) #[true, true, true, true, true, true, true, true, true, true, true, false, false, false, false, false, false] (v := undef) rfl (by kernel_rfl) (by kernel_rfl) (by kernel_rfl) (by kernel_rfl) (by kernel_rfl) (fun _ _ _ h => h) (Or.inr ⟨by kernel_rfl, rfl⟩) ?_
        refine take_slot (i := 11) (some 24) #[true, true, true, true, true, true, true, true, true, true, true, true, false, false, false, false, false] (v := undef) rfl (by kernel_rfl) (by kernel_rfl) (by kernel_rfl) (by kernel_rfl) (by kernel_rfl) (fun _ _ _ h => h) (Or.inr ⟨by kernel_rfl, rfl⟩) ?_
        refine take_slot (i := 12) (some 25) #[true, true, true, true, true, true, true, true, true, true, true, true, true, false, false, false, false] (v := undef) rfl (by kernel_rfl) (by kernel_rfl) (by kernel_rfl) (by kernel_rfl) (by kernel_rfl) (fun _ _ _ h => h) (Or.inr ⟨by kernel_rfl, rfl⟩) ?_
        refine take_slot (i := 13) (some 26) #[true, true, true, true, true, true, true, true, true, true, true, true, true, true, false, false, false] (v := undef) rfl (by kernel_rfl) (by kernel_rfl) (by kernel_rfl) (by kernel_rfl) (by kernel_rfl) (fun _ _ _ h => h) (Or.inr ⟨by kernel_rfl, rfl⟩) ?_
        refine take_slot (i := 14) (some 27) #[true, true, true, true, true, true, true, true, true, true, true, true, true, true, true, false, false] (v := undef) rfl (by kernel_rfl) (by kernel_rfl) (by kernel_rfl) (by kernel_rfl) (by kernel_rfl) (fun _ _ _ h => h) (Or.inr ⟨by kernel_rfl, rfl⟩) ?_
        refine take_slot (i := 15) (some 28) #[true, true, true, true, true, true, true, true, true, true, true, true, true, true, true, true, false] (v := undef) rfl (by kernel_rfl) (by kernel_rfl) (by kernel_rfl) (by kernel_rfl) (by kernel_rfl) (fun _ _ _ h => h) (Or.inr ⟨by kernel_rfl, rfl⟩) ?_
        refine take_slot (i := 16) (some 29) #[true, true, true, true, true, true, true, true, true, true, true, true, true, true, true, true, true] (v := ?_) rfl (by kernel_rfl) (by kernel_rfl) (by kernel_rfl) (by kernel_rfl) (by kernel_rfl) (fun _ _ _ h => h) (Or.inl ⟨by kernel_rfl, ?hya16_15⟩) ?hra16_15
        case hya16_15 => intro w; go_simp; try with_reducible rfl
        refine wpAny_done (by kernel_rfl) ?_ _
        try simp only [Act.put, List.setIfInBounds_toArray, List.set_cons_zero, List.set_cons_succ]
        go_wp2
        refine ⟨⟨k + 1, by omega, by go_num, by rw [HT.out]; first | rfl | simp [hr], by rw [HT.out]; first | exact bx2 | (simp [hr]; exact bx2), by2, hB4⟩, by simp [intOf]; omega⟩
      · cases f with
        | false =>
          go_wp2
          refine wp_region_any (by kernel_rfl) ?_
          change wpAny _ _ _ _ _ _ _ (World.drew _)
          refine take_slot (i := 0) (some 13) #[true, false, false, false, false, false, false, false, false, false, false, false, false, false, false, false, false] (v := ?_) rfl (by kernel_rfl) (by kernel_rfl) (by kernel_rfl) (by kernel_rfl) (by kernel_rfl) (fun _ _ _ h => h) (Or.inl ⟨by kernel_rfl, ?hyb0_1⟩) ?hrb0_1
          case hyb0_1 => intro w; go_simp; try with_reducible rfl
          refine take_slot (i := 1) (some 14) #[true, true, false, false, false, false, false, false, false, false, false, false, false, false, false, false, false] (v := ?_) rfl (by kernel_rfl) (by kernel_rfl) (by kernel_rfl) (by kernel_rfl) (by kernel_rfl) (fun _ _ _ h => h) (Or.inl ⟨by kernel_rfl, ?hyb1_2⟩) ?hrb1_2
          case hyb1_2 => intro w; go_simp; try with_reducible rfl
          refine take_slot (i := 2) (some 15) #[true, true, true, false, false, false, false, false, false, false, false, false, false, false, false, false, false] (v := ?_) rfl (by kernel_rfl) (by kernel_rfl) (by kernel_rfl) (by kernel_rfl) (by kernel_rfl) (fun _ _ _ h => h) (Or.inl ⟨by kernel_rfl, ?hyb2_3⟩) ?hrb2_3
          case hyb2_3 => intro w; go_simp; try with_reducible rfl
          refine wpAny_ready (rs := [3]) (by kernel_rfl) (by simp) ?_
          refine AllReady.cons rfl (fun K hK => ?_) AllReady.nil
          try simp only [Act.put, List.setIfInBounds_toArray, List.set_cons_zero, List.set_cons_succ]
          go_simp
          refine hK _ _ ?_
          clear hK K
          refine wpAny_ready (rs := [4]) (by kernel_rfl) (by simp) ?_
          refine AllReady.cons rfl (fun K hK => ?_) AllReady.nil
          try simp only [Act.put, List.setIfInBounds_toArray, List.set_cons_zero, List.set_cons_succ]
          go_simp
          (with_reducible refine (refRight_val _ _ hr _).mono ?_)
          rintro e w2 ⟨rfl, hB2⟩
          go_simp
          have hB2 : Below wr.heap.size wr w2 := (Below.refl _ wr).drew.trans hB2
          have hB4 : Below w.heap.size w w2 := hB.trans (hB2.mono hB.size)
          have bx2 : Bx w2 w1.heap.size y := bx.below hB2 bx.lt
          have by2 : Bx w2 w.heap.size ⟨0, 0, 0, 0⟩ := by0.below hB2 by0.lt
          obtain ⟨d0, d1, d2, d3⟩ : At4 w2 b (off + k * 4) x := At4.below ⟨c0, c1, c2, c3⟩ hB2 (by have := hB.size; show b < wr.heap.size; omega)
          have e0 := bx2.c0
          have e1 := bx2.c1
          have e2 := bx2.c2
          have e3 := bx2.c3
          refine hK _ _ ?_
          clear hK K
          refine take_slot (i := 5) (some 18) #[true, true, true, true, true, true, false, false, false, false, false, false, false, false, false, false, false] (v := ?_) rfl (by kernel_rfl) (by kernel_rfl) (by kernel_rfl) (by kernel_rfl) (by kernel_rfl) (fun _ _ _ h => h) (Or.inl ⟨by kernel_rfl, ?hyb5_4⟩) ?hrb5_4
          case hyb5_4 => intro w; go_simp; try with_reducible rfl
          refine take_slot (i := 6) (some 19) #[true, true, true, true, true, true, true, false, false, false, false, false, false, false, false, false, false] (v := ?_) rfl (by kernel_rfl) (by kernel_rfl) (by kernel_rfl) (by kernel_rfl) (by kernel_rfl) (fun _ _ _ h => h) (Or.inl ⟨by kernel_rfl, ?hyb6_5⟩) ?hrb6_5
          case hyb6_5 => intro w; go_simp; try with_reducible rfl
          refine take_slot (i := 7) (some 20) #[true, true, true, true, true, true, true, true, false, false, false, false, false, false, false, false, false] (v := ?_) rfl (by kernel_rfl) (by kernel_rfl) (by kernel_rfl) (by kernel_rfl) (by kernel_rfl) (fun _ _ _ h => h) (Or.inl ⟨by kernel_rfl, ?hyb7_6⟩) ?hrb7_6
          case hyb7_6 => intro w; go_simp; try with_reducible rfl
          refine take_slot (i := 8) (some 21) #[true, true, true, true, true, true, true, true, true, false, false, false, false, false, false, false, false] (v := ?_) rfl (by kernel_rfl) (by kernel_rfl) (by kernel_rfl) (by kernel_rfl) (by kernel_rfl) (fun _ _ _ h => h) (Or.inl ⟨by kernel_rfl, ?hyb8_7⟩) ?hrb8_7
          case hyb8_7 => intro w; go_simp; try with_reducible rfl
          refine take_slot (i := 9) (some 22) #[true, true, true, true, true, true, true, true, true, true, false, false, false, false, false, false, false] (v := undef) rfl (by kernel_rfl) (by kernel_rfl) (by kernel_rfl) (by kernel_rfl) (by kernel_rfl) (fun _ _ _ h => h) (Or.inr ⟨by kernel_rfl, rfl⟩) ?_
          refine take_slot (i := 10) (some 23) #[true, true, true, true, true, true, true, true, true, true, true, false, false, false, false, false, false] (v := undef) rfl (by kernel_rfl) (by kernel_rfl) (by kernel_rfl) (by kernel_rfl) (by kernel_rfl) (fun _ _ _ h => h) (Or.inr ⟨by kernel_rfl, rfl⟩) ?_
          refine take_slot (i := 11) (some 24) #[true, true, true, true, true, true, true, true, true, true, true, true, false, false, false, false, false] (v := undef) rfl (by kernel_rfl) (by kernel_rfl) (by kernel_rfl) (by kernel_rfl) (by kernel_rfl) (fun _ _ _ h => h) (Or.inr ⟨by kernel_rfl, rfl⟩) ?_
          refine take_slot (i := 12) (some 25) #[true, true, true, true, true, true, true, true, true, true, true, true, true, false, false, false, false] (v := undef) rfl (by kernel_rfl) (by kernel_rfl) (by kernel_rfl) (by kernel_rfl) (by kernel_rfl) (fun _ _ _ h => h) (Or.inr ⟨by kernel_rfl, rfl⟩) ?_
          refine take_slot (i := 13) (some 26) #[true, true, true, true, true, true, true, true, true, true, true, true, true, true, false, false, false] (v := undef) rfl (by kernel_rfl) (by kernel_rfl) (by kernel_rfl) (by kernel_rfl) (by kernel_rfl) (fun _ _ _ h => h) (Or.inr ⟨by kernel_rfl, rfl⟩) ?_
          refine take_slot (i := 14) (some 27) #[true, true, true, true, true, true, true, true, true, true, true, true, true, true, true, false, false] (v := undef) rfl (by kernel_rfl) (by kernel_rfl) (by kernel_rfl) (by kernel_rfl) (by kernel_rfl) (fun _ _ _ h => h) (Or.inr ⟨by kernel_rfl, rfl⟩) ?_
          refine take_slot (i := 15) (some 28) #[true, true, true, true, true, true, true, true, true, true, true, true, true, true, true, true, false] (v := ?_) rfl (by kernel_rfl) (by kernel_rfl) (by kernel_rfl) (by kernel_rfl) (by kernel_rfl) (fun _ _ _ h => h) (Or.inl ⟨by kernel_rfl, ?hyb15_14⟩) ?hrb15_14
          case hyb15_14 => intro w; go_simp; try with_reducible rfl
          refine take_slot (i := 16) (some 29) #[true, true, true, true, true, true, true, true, true, true, true, true, true, true, true, true, true] (v := ?_) rfl (by kernel_rfl) (by kernel_rfl) (by kernel_rfl) (by kernel_rfl) (by kernel_rfl) (fun _ _ _ h => h) (Or.inl ⟨by kernel_rfl, ?hyb16_15⟩) ?hrb16_15
          case hyb16_15 => intro w; go_simp; try with_reducible rfl
          refine wpAny_done (by kernel_rfl) ?_ _
          try simp only [Act.put, List.setIfInBounds_toArray, List.set_cons_zero, List.set_cons_succ]
          have fz0 := bx2.fz 0
          have fz1 := bx2.fz 1
          have fz2 := bx2.fz 2
          have fz3 := bx2.fz 3
          go_wp2
          refine ⟨⟨k + 1, by omega, by go_num, by rw [HT.out]; simp [hr], ?_, ?_, ?_⟩, by simp [intOf]; omega⟩
          · rw [HT.out]; simp [hr]; exact setBx bx2
          · exact (((by2.far (p := ⟨w1.heap.size, 0, none⟩) (by simp; omega) _).far (p := ⟨w1.heap.size, 1, none⟩) (by simp; omega) _).far (p := ⟨w1.heap.size, 2, none⟩) (by simp; omega) _).far (p := ⟨w1.heap.size, 3, none⟩) (by simp; omega) _
          · exact (((hB4.setCell (p := ⟨w1.heap.size, 0, none⟩) hw1 _).setCell (p := ⟨w1.heap.size, 1, none⟩) hw1 _).setCell (p := ⟨w1.heap.size, 2, none⟩) hw1 _).setCell (p := ⟨w1.heap.size, 3, none⟩) hw1 _
        | true =>
          cases hnw : decide (y.gen < x.gen)
          · go_wp2
            refine wp_region_any (by kernel_rfl) ?_
            change wpAny _ _ _ _ _ _ _ (World.drew _)
            refine take_slot (i := 0) (some 13) #[true, false, false, false, false, false, false, false, false, false, false, false, false, false, false, false, false] (v := ?_) rfl (by kernel_rfl) (by kernel_rfl) (by kernel_rfl) (by kernel_rfl) (by kernel_rfl) (fun _ _ _ h => h) (Or.inl ⟨by kernel_rfl, ?hyc0_1⟩) ?hrc0_1
            case hyc0_1 => intro w; go_simp; try with_reducible rfl
            refine take_slot (i := 1) (some 14) #[true, true, false, false, false, false, false, false, false, false, false, false, false, false, false, false, false] (v := ?_) rfl (by kernel_rfl) (by kernel_rfl) (by kernel_rfl) (by kernel_rfl) (by kernel_rfl) (fun _ _ _ h => h) (Or.inl ⟨by kernel_rfl, ?hyc1_2⟩) ?hrc1_2
            case hyc1_2 => intro w; go_simp; try with_reducible rfl
            refine take_slot (i := 2) (some 15) #[true, true, true, false, false, false, false, false, false, false, false, false, false, false, false, false, false] (v := ?_) rfl (by kernel_rfl) (by kernel_rfl) (by kernel_rfl) (by kernel_rfl) (by kernel_rfl) (fun _ _ _ h => h) (Or.inl ⟨by kernel_rfl, ?hyc2_3⟩) ?hrc2_3
            case hyc2_3 => intro w; go_simp; try with_reducible rfl
            refine wpAny_ready (rs := [3]) (by kernel_rfl) (by simp) ?_
            refine AllReady.cons rfl (fun K hK => ?_) AllReady.nil
            try simp only [Act.put, List.setIfInBounds_toArray, List.set_cons_zero, List.set_cons_succ]
            go_simp
            refine hK _ _ ?_
            clear hK K
            refine wpAny_ready (rs := [4]) (by kernel_rfl) (by simp) ?_
            refine AllReady.cons rfl (fun K hK => ?_) AllReady.nil
            try simp only [Act.put, List.setIfInBounds_toArray, List.set_cons_zero, List.set_cons_succ]
            go_simp
            (with_reducible refine (refRight_val _ _ hr _).mono ?_)
            rintro e w2 ⟨rfl, hB2⟩
            go_simp
            have hB2 : Below wr.heap.size wr w2 := (Below.refl _ wr).drew.trans hB2
            have hB4 : Below w.heap.size w w2 := hB.trans (hB2.mono hB.size)
            have bx2 : Bx w2 w1.heap.size y := bx.below hB2 bx.lt
            have by2 : Bx w2 w.heap.size ⟨0, 0, 0, 0⟩ := by0.below hB2 by0.lt
            obtain ⟨d0, d1, d2, d3⟩ : At4 w2 b (off + k * 4) x := At4.below ⟨c0, c1, c2, c3⟩ hB2 (by have := hB.size; show b < wr.heap.size; omega)
            have e0 := bx2.c0
            have e1 := bx2.c1
            have e2 := bx2.c2
            have e3 := bx2.c3
            refine hK _ _ ?_
            clear hK K
            refine take_slot (i := 5) (some 18) #[true, true, true, true, true, true, false, false, false, false, false, false, false, false, false, false, false] (v := ?_) rfl (by kernel_rfl) (by kernel_rfl) (by kernel_rfl) (by kernel_rfl) (by kernel_rfl) (fun _ _ _ h => h) (Or.inl ⟨by kernel_rfl, ?hyc5_4⟩) ?hrc5_4
            case hyc5_4 => intro w; go_simp; try with_reducible rfl
            refine take_slot (i := 6) (some 19) #[true, true, true, true, true, true, true, false, false, false, false, false, false, false, false, false, false] (v := ?_) rfl (by kernel_rfl) (by kernel_rfl) (by kernel_rfl) (by kernel_rfl) (by kernel_rfl) (fun _ _ _ h => h) (Or.inl ⟨by kernel_rfl, ?hyc6_5⟩) ?hrc6_5
            case hyc6_5 => intro w; go_simp; try with_reducible rfl
            refine take_slot (i := 7) (some 20) #[true, true, true, true, true, true, true, true, false, false, false, false, false, false, false, false, false] (v := ?_) rfl (by kernel_rfl) (by kernel_rfl) (by kernel_rfl) (by kernel_rfl) (by kernel_rfl) (fun _ _ _ h => h) (Or.inl ⟨by kernel_rfl, ?hyc7_6⟩) ?hrc7_6
            case hyc7_6 => intro w; go_simp; try with_reducible rfl
            refine take_slot (i := 8) (some 21) #[true, true, true, true, true, true, true, true, true, false, false, false, false, false, false, false, false] (v := ?_) rfl (by kernel_rfl) (by kernel_rfl) (by kernel_rfl) (by kernel_rfl) (by kernel_rfl) (fun _ _ _ h => h) (Or.inl ⟨by kernel_rfl, ?hyc8_7⟩) ?hrc8_7
            case hyc8_7 => intro w; go_simp; try with_reducible rfl
            refine take_slot (i := 9) (some 22) #[true, true, true, true, true, true, true, true, true, true, false, false, false, false, false, false, false] (v := ?_) rfl (by kernel_rfl) (by kernel_rfl) (by kernel_rfl) (by kernel_rfl) (by kernel_rfl) (fun _ _ _ h => h) (Or.inl ⟨by kernel_rfl, ?hyc9_8⟩) ?hrc9_8
            case hyc9_8 => intro w; go_simp; try with_reducible rfl
            refine take_slot (i := 10) (some 23) #[true, true, true, true, true, true, true, true, true, true, true, false, false, false, false, false, false] (v := ?_) rfl (by kernel_rfl) (by kernel_rfl) (by kernel_rfl) (by kernel_rfl) (by kernel_rfl) (fun _ _ _ h => h) (Or.inl ⟨by kernel_rfl, ?hyc10_9⟩) ?hrc10_9
            case hyc10_9 => intro w; go_simp; try with_reducible rfl
            refine take_slot (i := 11) (some 24) #[true, true, true, true, true, true, true, true, true, true, true, true, false, false, false, false, false] (v := ?_) rfl (by kernel_rfl) (by kernel_rfl) (by kernel_rfl) (by kernel_rfl) (by kernel_rfl) (fun _ _ _ h => h) (Or.inl ⟨by kernel_rfl, ?hyc11_10⟩) ?hrc11_10
            case hyc11_10 => intro w; go_simp; try with_reducible rfl
            refine wpAny_ready (rs := [12, 13]) (by kernel_rfl) (by simp) ?_
            refine AllReady.cons rfl (fun K hK => ?_) ?_
            · try simp only [Act.put, List.setIfInBounds_toArray, List.set_cons_zero, List.set_cons_succ]
              go_simp
              refine hK _ _ ?_
              clear hK K
              refine wpAny_ready (rs := [13]) (by kernel_rfl) (by simp) ?_
              refine AllReady.cons rfl (fun K hK => ?_) AllReady.nil
              try simp only [Act.put, List.setIfInBounds_toArray, List.set_cons_zero, List.set_cons_succ]
              go_simp
              refine hK _ _ ?_
              clear hK K
              refine wpAny_ready (rs := [14]) (by kernel_rfl) (by simp) ?_
              refine AllReady.cons rfl (fun K hK => ?_) AllReady.nil
              try simp only [Act.put, List.setIfInBounds_toArray, List.set_cons_zero, List.set_cons_succ]
              go_simp
              (with_reducible refine (refNewer_val _ _ _ hnw _).mono ?_)
              rintro e w3 ⟨rfl, hB3⟩
              go_simp
              have hB5 : Below w.heap.size w w3 := hB4.trans (hB3.mono hB4.size)
              have bx3 : Bx w3 w1.heap.size y := bx2.below hB3 bx2.lt
              have by3 : Bx w3 w.heap.size ⟨0, 0, 0, 0⟩ := by2.below hB3 by2.lt
              obtain ⟨f0, f1, f2, f3⟩ : At4 w3 b (off + k * 4) x := At4.below ⟨d0, d1, d2, d3⟩ hB3 (by have := hB4.size; show b < w2.heap.size; omega)
              have g0 := bx3.c0
              have g1 := bx3.c1
              have g2 := bx3.c2
              have g3 := bx3.c3
              refine hK _ _ ?_
              clear hK K
              refine take_slot (i := 15) (some 28) #[true, true, true, true, true, true, true, true, true, true, true, true, true, true, true, true, false] (v := ?_) rfl (by kernel_rfl) (by kernel_rfl) (by kernel_rfl) (by kernel_rfl) (by kernel_rfl) (fun _ _ _ h => h) (Or.inl ⟨by kernel_rfl, ?hyc15_11⟩) ?hrc15_11
              case hyc15_11 => intro w; go_simp; try with_reducible rfl
              refine take_slot (i := 16) (some 29) #[true, true, true, true, true, true, true, true, true, true, true, true, true, true, true, true, true] (v := ?_) rfl (by kernel_rfl) (by kernel_rfl) (by kernel_rfl) (by kernel_rfl) (by kernel_rfl) (fun _ _ _ h => h) (Or.inl ⟨by kernel_rfl, ?hyc16_12⟩) ?hrc16_12
              case hyc16_12 => intro w; go_simp; try with_reducible rfl
              refine wpAny_done (by kernel_rfl) ?_ _
              try simp only [Act.put, List.setIfInBounds_toArray, List.set_cons_zero, List.set_cons_succ]
              go_wp2
              refine ⟨⟨k + 1, by omega, by go_num, by rw [HT.out]; first | rfl | simp [hr, hnw], by rw [HT.out]; first | exact bx3 | (simp [hr, hnw]; exact bx3), by3, hB5⟩, by simp [intOf]; omega⟩
            refine AllReady.cons rfl (fun K hK => ?_) ?_
            · try simp only [Act.put, List.setIfInBounds_toArray, List.set_cons_zero, List.set_cons_succ]
              go_simp
              refine hK _ _ ?_
              clear hK K
              refine wpAny_ready (rs := [12]) (by kernel_rfl) (by simp) ?_
              refine AllReady.cons rfl (fun K hK => ?_) AllReady.nil
              try simp only [Act.put, List.setIfInBounds_toArray, List.set_cons_zero, List.set_cons_succ]
              go_simp
              refine hK _ _ ?_
              clear hK K
              refine wpAny_ready (rs := [14]) (by kernel_rfl) (by simp) ?_
              refine AllReady.cons rfl (fun K hK => ?_) AllReady.nil
              try simp only [Act.put, List.setIfInBounds_toArray, List.set_cons_zero, List.set_cons_succ]
              go_simp
              (with_reducible refine (refNewer_val _ _ _ hnw _).mono ?_)
              rintro e w3 ⟨rfl, hB3⟩
              go_simp
              have hB5 : Below w.heap.size w w3 := hB4.trans (hB3.mono hB4.size)
              have bx3 : Bx w3 w1.heap.size y := bx2.below hB3 bx2.lt
              have by3 : Bx w3 w.heap.size ⟨0, 0, 0, 0⟩ := by2.below hB3 by2.lt
              obtain ⟨f0, f1, f2, f3⟩ : At4 w3 b (off + k * 4) x := At4.below ⟨d0, d1, d2, d3⟩ hB3 (by have := hB4.size; show b < w2.heap.size; omega)
              have g0 := bx3.c0
              have g1 := bx3.c1
              have g2 := bx3.c2
              have g3 := bx3.c3
              refine hK _ _ ?_
              clear hK K
              refine take_slot (i := 15) (some 28) #[true, true, true, true, true, true, true, true, true, true, true, true, true, true, true, true, false] (v := ?_) rfl (by kernel_rfl) (by kernel_rfl) (by kernel_rfl) (by kernel_rfl) (by kernel_rfl) (fun _ _ _ h => h) (Or.inl ⟨by kernel_rfl, ?hyc15_13⟩) ?hrc15_13
              case hyc15_13 => intro w; go_simp; try with_reducible rfl
              refine take_slot (i := 16) (some 29) #[true, true, true, true, true, true, true, true, true, true, true, true, true, true, true, true, true] (v := ?_) rfl (by kernel_rfl) (by kernel_rfl) (by kernel_rfl) (by kernel_rfl) (by kernel_rfl) (fun _ _ _ h => h) (Or.inl ⟨by kernel_rfl, ?hyc16_14⟩) ?hrc16_14
              case hyc16_14 => intro w; go_simp; try with_reducible rfl
              refine wpAny_done (by kernel_rfl) ?_ _
              try simp only [Act.put, List.setIfInBounds_toArray, List.set_cons_zero, List.set_cons_succ]
              go_wp2
              refine ⟨⟨k + 1, by omega, by go_num, by rw [HT.out]; first | rfl | simp [hr, hnw], by rw [HT.out]; first | exact bx3 | (simp [hr, hnw]; exact bx3), by3, hB5⟩, by simp [intOf]; omega⟩
            exact AllReady.nil
          · go_wp2
            refine wp_region_any (by kernel_rfl) ?_
            change wpAny _ _ _ _ _ _ _ (World.drew _)
            refine take_slot (i := 0) (some 13) #[true, false, false, false, false, false, false, false, false, false, false, false, false, false, false, false, false] (v := ?_) rfl (by kernel_rfl) (by kernel_rfl) (by kernel_rfl) (by kernel_rfl) (by kernel_rfl) (fun _ _ _ h => h) (Or.inl ⟨by kernel_rfl, ?hyd0_1⟩) ?hrd0_1
            case hyd0_1 => intro w; go_simp; try with_reducible rfl
            refine take_slot (i := 1) (some 14) #[true, true, false, false, false, false, false, false, false, false, false, false, false, false, false, false, false] (v := ?_) rfl (by kernel_rfl) (by kernel_rfl) (by kernel_rfl) (by kernel_rfl) (by kernel_rfl) (fun _ _ _ h => h) (Or.inl ⟨by kernel_rfl, ?hyd1_2⟩) ?hrd1_2
            case hyd1_2 => intro w; go_simp; try with_reducible rfl
            refine take_slot (i := 2) (some 15) #[true, true, true, false, false, false, false, false, false, false, false, false, false, false, false, false, false] (v := ?_) rfl (by kernel_rfl) (by kernel_rfl) (by kernel_rfl) (by kernel_rfl) (by kernel_rfl) (fun _ _ _ h => h) (Or.inl ⟨by kernel_rfl, ?hyd2_3⟩) ?hrd2_3
            case hyd2_3 => intro w; go_simp; try with_reducible rfl
            refine wpAny_ready (rs := [3]) (by kernel_rfl) (by simp) ?_
            refine AllReady.cons rfl (fun K hK => ?_) AllReady.nil
            try simp only [Act.put, List.setIfInBounds_toArray, List.set_cons_zero, List.set_cons_succ]
            go_simp
            refine hK _ _ ?_
            clear hK K
            refine wpAny_ready (rs := [4]) (by kernel_rfl) (by simp) ?_
            refine AllReady.cons rfl (fun K hK => ?_) AllReady.nil
            try simp only [Act.put, List.setIfInBounds_toArray, List.set_cons_zero, List.set_cons_succ]
            go_simp
            (with_reducible refine (refRight_val _ _ hr _).mono ?_)
            rintro e w2 ⟨rfl, hB2⟩
            go_simp
            have hB2 : Below wr.heap.size wr w2 := (Below.refl _ wr).drew.trans hB2
            have hB4 : Below w.heap.size w w2 := hB.trans (hB2.mono hB.size)
            have bx2 : Bx w2 w1.heap.size y := bx.below hB2 bx.lt
            have by2 : Bx w2 w.heap.size ⟨0, 0, 0, 0⟩ := by0.below hB2 by0.lt
            obtain ⟨d0, d1, d2, d3⟩ : At4 w2 b (off + k * 4) x := At4.below ⟨c0, c1, c2, c3⟩ hB2 (by have := hB.size; show b < wr.heap.size; omega)
            have e0 := bx2.c0
            have e1 := bx2.c1
            have e2 := bx2.c2
            have e3 := bx2.c3
            refine hK _ _ ?_
            clear hK K
            refine take_slot (i := 5) (some 18) #[true, true, true, true, true, true, false, false, false, false, false, false, false, false, false, false, false] (v := ?_) rfl (by kernel_rfl) (by kernel_rfl) (by kernel_rfl) (by kernel_rfl) (by kernel_rfl) (fun _ _ _ h => h) (Or.inl ⟨by kernel_rfl, ?hyd5_4⟩) ?hrd5_4
            case hyd5_4 => intro w; go_simp; try with_reducible rfl
            refine take_slot (i := 6) (some 19) #[true, true, true, true, true, true, true, false, false, false, false, false, false, false, false, false, false] (v := ?_) rfl (by kernel_rfl) (by kernel_rfl) (by kernel_rfl) (by kernel_rfl) (by kernel_rfl) (fun _ _ _ h => h) (Or.inl ⟨by kernel_rfl, ?hyd6_5⟩) ?hrd6_5
            case hyd6_5 => intro w; go_simp; try with_reducible rfl
            refine take_slot (i := 7) (some 20) #[true, true, true, true, true, true, true, true, false, false, false, false, false, false, false, false, false] (v := ?_) rfl (by kernel_rfl) (by kernel_rfl) (by kernel_rfl) (by kernel_rfl) (by kernel_rfl) (fun _ _ _ h => h) (Or.inl ⟨by kernel_rfl, ?hyd7_6⟩) ?hrd7_6
            case hyd7_6 => intro w; go_simp; try with_reducible rfl
            refine take_slot (i := 8) (some 21) #[true, true, true, true, true, true, true, true, true, false, false, false, false, false, false, false, false] (v := ?_) rfl (by kernel_rfl) (by kernel_rfl) (by kernel_rfl) (by kernel_rfl) (by kernel_rfl) (fun _ _ _ h => h) (Or.inl ⟨by kernel_rfl, ?hyd8_7⟩) ?hrd8_7
            case hyd8_7 => intro w; go_simp; try with_reducible rfl
            refine take_slot (i := 9) (some 22) #[true, true, true, true, true, true, true, true, true, true, false, false, false, false, false, false, false] (v := ?_) rfl (by kernel_rfl) (by kernel_rfl) (by kernel_rfl) (by kernel_rfl) (by kernel_rfl) (fun _ _ _ h => h) (Or.inl ⟨by kernel_rfl, ?hyd9_8⟩) ?hrd9_8
            case hyd9_8 => intro w; go_simp; try with_reducible rfl
            refine take_slot (i := 10) (some 23) #[true, true, true, true, true, true, true, true, true, true, true, false, false, false, false, false, false] (v := ?_) rfl (by kernel_rfl) (by kernel_rfl) (by kernel_rfl) (by kernel_rfl) (by kernel_rfl) (fun _ _ _ h => h) (Or.inl ⟨by kernel_rfl, ?hyd10_9⟩) ?hrd10_9
            case hyd10_9 => intro w; go_simp; try with_reducible rfl
            refine take_slot (i := 11) (some 24) #[true, true, true, true, true, true, true, true, true, true, true, true, false, false, false, false, false] (v := ?_) rfl (by kernel_rfl) (by kernel_rfl) (by kernel_rfl) (by kernel_rfl) (by kernel_rfl) (fun _ _ _ h => h) (Or.inl ⟨by kernel_rfl, ?hyd11_10⟩) ?hrd11_10
            case hyd11_10 => intro w; go_simp; try with_reducible rfl
            refine wpAny_ready (rs := [12, 13]) (by kernel_rfl) (by simp) ?_
            refine AllReady.cons rfl (fun K hK => ?_) ?_
            · try simp only [Act.put, List.setIfInBounds_toArray, List.set_cons_zero, List.set_cons_succ]
              go_simp
              refine hK _ _ ?_
              clear hK K
              refine wpAny_ready (rs := [13]) (by kernel_rfl) (by simp) ?_
              refine AllReady.cons rfl (fun K hK => ?_) AllReady.nil
              try simp only [Act.put, List.setIfInBounds_toArray, List.set_cons_zero, List.set_cons_succ]
              go_simp
              refine hK _ _ ?_
              clear hK K
              refine wpAny_ready (rs := [14]) (by kernel_rfl) (by simp) ?_
              refine AllReady.cons rfl (fun K hK => ?_) AllReady.nil
              try simp only [Act.put, List.setIfInBounds_toArray, List.set_cons_zero, List.set_cons_succ]
              go_simp
              (with_reducible refine (refNewer_val _ _ _ hnw _).mono ?_)
              rintro e w3 ⟨rfl, hB3⟩
              go_simp
              have hB5 : Below w.heap.size w w3 := hB4.trans (hB3.mono hB4.size)
              have bx3 : Bx w3 w1.heap.size y := bx2.below hB3 bx2.lt
              have by3 : Bx w3 w.heap.size ⟨0, 0, 0, 0⟩ := by2.below hB3 by2.lt
              obtain ⟨f0, f1, f2, f3⟩ : At4 w3 b (off + k * 4) x := At4.below ⟨d0, d1, d2, d3⟩ hB3 (by have := hB4.size; show b < w2.heap.size; omega)
              have g0 := bx3.c0
              have g1 := bx3.c1
              have g2 := bx3.c2
              have g3 := bx3.c3
              refine hK _ _ ?_
              clear hK K
              refine take_slot (i := 15) (some 28) #[true, true, true, true, true, true, true, true, true, true, true, true, true, true, true, true, false] (v := ?_) rfl (by kernel_rfl) (by kernel_rfl) (by kernel_rfl) (by kernel_rfl) (by kernel_rfl) (fun _ _ _ h => h) (Or.inl ⟨by kernel_rfl, ?hyd15_11⟩) ?hrd15_11
              case hyd15_11 => intro w; go_simp; try with_reducible rfl
              refine take_slot (i := 16) (some 29) #[true, true, true, true, true, true, true, true, true, true, true, true, true, true, true, true, true] (v := ?_) rfl (by kernel_rfl) (by kernel_rfl) (by kernel_rfl) (by kernel_rfl) (by kernel_rfl) (fun _ _ _ h => h) (Or.inl ⟨by kernel_rfl, ?hyd16_12⟩) ?hrd16_12
              case hyd16_12 => intro w; go_simp; try with_reducible rfl
              refine wpAny_done (by kernel_rfl) ?_ _
              try simp only [Act.put, List.setIfInBounds_toArray, List.set_cons_zero, List.set_cons_succ]
              have fz0 := bx3.fz 0
              have fz1 := bx3.fz 1
              have fz2 := bx3.fz 2
              have fz3 := bx3.fz 3
              go_wp2
              refine ⟨⟨k + 1, by omega, by go_num, by rw [HT.out]; simp [hr, hnw], ?_, ?_, ?_⟩, by simp [intOf]; omega⟩
              · rw [HT.out]; simp [hr, hnw]; exact setBx bx3
              · exact (((by3.far (p := ⟨w1.heap.size, 0, none⟩) (by simp; omega) _).far (p := ⟨w1.heap.size, 1, none⟩) (by simp; omega) _).far (p := ⟨w1.heap.size, 2, none⟩) (by simp; omega) _).far (p := ⟨w1.heap.size, 3, none⟩) (by simp; omega) _
              · exact (((hB5.setCell (p := ⟨w1.heap.size, 0, none⟩) hw1 _).setCell (p := ⟨w1.heap.size, 1, none⟩) hw1 _).setCell (p := ⟨w1.heap.size, 2, none⟩) hw1 _).setCell (p := ⟨w1.heap.size, 3, none⟩) hw1 _
            refine AllReady.cons rfl (fun K hK => ?_) ?_
            · try simp only [Act.put, List.setIfInBounds_toArray, List.set_cons_zero, List.set_cons_succ]
              go_simp
              refine hK _ _ ?_
              clear hK K
              refine wpAny_ready (rs := [12]) (by kernel_rfl) (by simp) ?_
              refine AllReady.cons rfl (fun K hK => ?_) AllReady.nil
              try simp only [Act.put, List.setIfInBounds_toArray, List.set_cons_zero, List.set_cons_succ]
              go_simp
              refine hK _ _ ?_
              clear hK K
              refine wpAny_ready (rs := [14]) (by kernel_rfl) (by simp) ?_
              refine AllReady.cons rfl (fun K hK => ?_) AllReady.nil
              try simp only [Act.put, List.setIfInBounds_toArray, List.set_cons_zero, List.set_cons_succ]
              go_simp
              (with_reducible refine (refNewer_val _ _ _ hnw _).mono ?_)
              rintro e w3 ⟨rfl, hB3⟩
              go_simp
              have hB5 : Below w.heap.size w w3 := hB4.trans (hB3.mono hB4.size)
              have bx3 : Bx w3 w1.heap.size y := bx2.below hB3 bx2.lt
              have by3 : Bx w3 w.heap.size ⟨0, 0, 0, 0⟩ := by2.below hB3 by2.lt
              obtain ⟨f0, f1, f2, f3⟩ : At4 w3 b (off + k * 4) x := At4.below ⟨d0, d1, d2, d3⟩ hB3 (by have := hB4.size; show b < w2.heap.size; omega)
              have g0 := bx3.c0
              have g1 := bx3.c1
              have g2 := bx3.c2
              have g3 := bx3.c3
              refine hK _ _ ?_
              clear hK K
              refine take_slot (i := 15) (some 28) #[true, true, true, true, true, true, true, true, true, true, true, true, true, true, true, true, false] (v := ?_) rfl (by kernel_rfl) (by kernel_rfl) (by kernel_rfl) (by kernel_rfl) (by kernel_rfl) (fun _ _ _ h => h) (Or.inl ⟨by kernel_rfl, ?hyd15_13⟩) ?hrd15_13
              case hyd15_13 => intro w; go_simp; try with_reducible rfl
              refine take_slot (i := 16) (some 29) #[true, true, true, true, true, true, true, true, true, true, true, true, true, true, true, true, true] (v := ?_) rfl (by kernel_rfl) (by kernel_rfl) (by kernel_rfl) (by kernel_rfl) (by kernel_rfl) (fun _ _ _ h => h) (Or.inl ⟨by kernel_rfl, ?hyd16_14⟩) ?hrd16_14
              case hyd16_14 => intro w; go_simp; try with_reducible rfl
              refine wpAny_done (by kernel_rfl) ?_ _
              try simp only [Act.put, List.setIfInBounds_toArray, List.set_cons_zero, List.set_cons_succ]
              have fz0 := bx3.fz 0
              have fz1 := bx3.fz 1
              have fz2 := bx3.fz 2
              have fz3 := bx3.fz 3
              go_wp2
              refine ⟨⟨k + 1, by omega, by go_num, by rw [HT.out]; simp [hr, hnw], ?_, ?_, ?_⟩, by simp [intOf]; omega⟩
              · rw [HT.out]; simp [hr, hnw]; exact setBx bx3
              · exact (((by3.far (p := ⟨w1.heap.size, 0, none⟩) (by simp; omega) _).far (p := ⟨w1.heap.size, 1, none⟩) (by simp; omega) _).far (p := ⟨w1.heap.size, 2, none⟩) (by simp; omega) _).far (p := ⟨w1.heap.size, 3, none⟩) (by simp; omega) _
              · exact (((hB5.setCell (p := ⟨w1.heap.size, 0, none⟩) hw1 _).setCell (p := ⟨w1.heap.size, 1, none⟩) hw1 _).setCell (p := ⟨w1.heap.size, 2, none⟩) hw1 _).setCell (p := ⟨w1.heap.size, 3, none⟩) hw1 _
            exact AllReady.nil
    · obtain rfl : k = n := by omega
      have ht : es.take k = es := List.take_of_length_le (by rw [HL.out]; omega)
      rw [ht] at bx ⊢
      have e0 := bx.c0
      have e1 := bx.c1
      have e2 := bx.c2
      have e3 := bx.c3
      have z0 := by0.c0
      have z1 := by0.c1
      have z2 := by0.c2
      have z3 := by0.c3
      have fz0 := by0.fz 0
      have fz1 := by0.fz 1
      have fz2 := by0.fz 2
      have fz3 := by0.fz 3
      have hl := by0.lt
      go_wp2
      have h := setBx (e := mergeL es) by0
      have hBz := (((hB.setCell (p := ⟨w.heap.size, 0, none⟩) (Nat.le_refl _) (.int .i64 (mergeL es).cur)).setCell (p := ⟨w.heap.size, 1, none⟩) (Nat.le_refl _) (.int .i64 (mergeL es).prev)).setCell (p := ⟨w.heap.size, 2, none⟩) (Nat.le_refl _) (.int .i64 (mergeL es).gen)).setCell (p := ⟨w.heap.size, 3, none⟩) (Nat.le_refl _) (.int .i64 (mergeL es).tick)
      obtain ⟨W5, hW5⟩ : ∃ W5, (((wr.setCell ⟨w.heap.size, 0, none⟩ (.int .i64 (mergeL es).cur)).setCell ⟨w.heap.size, 1, none⟩ (.int .i64 (mergeL es).prev)).setCell ⟨w.heap.size, 2, none⟩ (.int .i64 (mergeL es).gen)).setCell ⟨w.heap.size, 3, none⟩ (.int .i64 (mergeL es).tick) = W5 := ⟨_, rfl⟩
      rw [hW5] at h hBz
      show bodyPost _ _ _ _ _ ((((wr.setCell ⟨w.heap.size, 0, none⟩ (.int .i64 (mergeL es).cur)).setCell ⟨w.heap.size, 1, none⟩ (.int .i64 (mergeL es).prev)).setCell ⟨w.heap.size, 2, none⟩ (.int .i64 (mergeL es).gen)).setCell ⟨w.heap.size, 3, none⟩ (.int .i64 (mergeL es).tick))
      rw [hW5]
      have y0 := h.c0
      have y1 := h.c1
      have y2 := h.c2
      have y3 := h.c3
      refine bodyPost_ret (v := ev (mergeL es)) (by simp [results, Try.f13, go_sem, y0, y1, y2, y3]) rfl ?_
      exact ⟨rfl, hBz⟩
end Go.Proofs.Ytaeffklmlllimaa
