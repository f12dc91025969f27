/-
  The walk of TupleSorts.
-/
import Derived.Test.YtdlpkphbgbffpaaDoorWakes
namespace Go.Proofs.YtdlpkphbgbffpaaDoor
open Go Go.RowKit Go.Shelf
set_option linter.unusedSimpArgs false
set_option linter.unusedVariables false
attribute [local go_sem] Oper.semAt_some
/-- How often a tuple stands among tuples. -/
def cnt (l : List Tup) (y : Tup) : Nat := (l.filter fun x => decide (x = y)).length
theorem cnt_le (l : List Tup) (y : Tup) : cnt l y ≤ l.length := List.length_filter_le _ _
theorem cnt_next {l : List Tup} {k : Nat} {x : Tup} (h : l[k]? = some x) (y : Tup) : cnt (l.take (k + 1)) y = cnt (l.take k) y + if x = y then 1 else 0 := by
  unfold cnt
  rw [List.take_add_one, h, List.filter_append, List.length_append]
  by_cases e : x = y <;> simp [e]
theorem cnt_perm {l m : List Tup} (h : l.Perm m) (y : Tup) : cnt l y = cnt m y := (h.filter _).length_eq
theorem sort_length (ts : List Tup) : (sortT ts).length = ts.length := (sort_perm ts).length_eq
theorem sort_step {ts : List Tup} {i : Nat} {x y : Tup} (hx : (sortT ts)[i]? = some x) (hy : (sortT ts)[i + 1]? = some y) : ¬ ltT y x := by
  have h := List.pairwise_iff_getElem.1 (sort_pairwise ts)
  obtain ⟨h1, rfl⟩ := List.getElem?_eq_some_iff.1 hx
  obtain ⟨h2, rfl⟩ := List.getElem?_eq_some_iff.1 hy
  exact (leT_iff _ _).1 (h i (i + 1) h1 h2 (by omega))
/-- What is held through the loops. -/
structure So (w w1 : World) (A A' : Option Addr) (n c c' : Nat) (ts us : List Tup) (W : World) : Prop where
  ts : Ts W w.heap.size A n c ts
  us : Ts W w1.heap.size A' n c' us
  below : Below w.heap.size w W
  le : w1.heap.size ≤ W.heap.size
theorem So.next {w w1 W W' : World} {A A' : Option Addr} {n c c' : Nat} {ts us : List Tup} (h : So w w1 A A' n c c' ts us W) (hb : Below W.heap.size W W') : So w w1 A A' n c c' ts us W' :=
  ⟨h.ts.below (hb.mono h.below.size), h.us.below (hb.mono h.le), h.below.trans (hb.mono h.below.size), Nat.le_trans h.le hb.size⟩
theorem So.drew {w w1 W : World} {A A' : Option Addr} {n c c' : Nat} {ts us : List Tup} (h : So w w1 A A' n c c' ts us W) : So w w1 A A' n c c' ts us W.drew := h.next (Below.refl _ W).drew
theorem So.drewN {w w1 W : World} {A A' : Option Addr} {n c c' : Nat} {ts us : List Tup} (h : So w w1 A A' n c c' ts us W) (k : Nat) : So w w1 A A' n c c' ts us (W.drewN k) := h.next (below_drewN (Below.refl _ W) k)
theorem run_load_at {a : Act} {s : Tmp} {g i : Nat} {t : Tup} {W : World} {o : Oper} (ho : o.op = .load 25 (.tmp s)) (hs : a.tmps.getD s undef = .pointer (some ⟨g, i, none⟩)) (hb : At4 W g i t) : (execOp a.eval o).run Tryd.prog W = .ok (.value (tv t)) W := by
  obtain ⟨c0, c1, c2, c3⟩ := hb
  have hs' : a.tmps[s]?.getD undef = .pointer (some ⟨g, i, none⟩) := by simpa using hs
  unfold execOp
  simp [ho, Act.eval, hs', go_sem, c0, c1, c2, c3]
theorem run_idx {a : Act} {s t : Tmp} {b off n c : Nat} {o : Oper} (i : Nat) (v : Int) (ho : o.op = .indexAddr 27 (.tmp s) (.tmp t)) (hs : a.tmps.getD s undef = .slice (some ⟨b, off, none⟩) n c) (ht : a.tmps.getD t undef = .int .i64 v) (hv : v = i) (hi : i < n) (W : World) : (execOp a.eval o).run Tryd.prog W = .ok (.value (.pointer (some ⟨b, off + i * 4, none⟩))) W := by
  subst hv
  have hs' : a.tmps[s]?.getD undef = .slice (some ⟨b, off, none⟩) n c := by simpa using hs
  have ht' : a.tmps[t]?.getD undef = .int .i64 i := by simpa using ht
  have h1 : (i : Int) < (n : Int) := by omega
  have u := Tryd.underlying27
  have z := Tryd.sizeOf25
  have z' := Tryd.isAgg25
  unfold execOp
  simp only [ho, Act.eval, hs', ht', go_sem]
  go_simp
theorem run_pred {a : Act} {s : Tmp} {o : Oper} (j : Nat) (ho : o.op = .binOp .sub 3 (.tmp s) (.const (.int .i64 1)) 3) (hs : a.tmps.getD s undef = .int .i64 ((j : Int) + 1)) (hj : j < 1000) (W : World) : (execOp a.eval o).run Tryd.prog W = .ok (.value (.int .i64 (j : Int))) W := by
  have hs' : a.tmps[s]?.getD undef = .int .i64 ((j : Int) + 1) := by simpa using hs
  unfold execOp
  simp only [ho, Act.eval, go_sem]
  go_simp
  simp [IntKind.wrap, IntKind.bits, IntKind.signed]
  omega
/-- Where a tuple of a slice lies. -/
theorem Ts.at' {W : World} {B b off n c : Nat} {ts : List Tup} (h : Ts W B (some ⟨b, off, none⟩) n c ts) {k : Nat} {t : Tup} (ht : ts[k]? = some t) : At4 W b (off + k * 4) t := by
  obtain ⟨b', off', e, _, hc⟩ := h.2.2.2 (by have := (List.getElem?_eq_some_iff.1 ht).1; have := h.1; omega)
  cases e
  exact hc k t ht
/-- The operations of TupleSorts' test. -/
noncomputable def Z17 : Array Oper := opsOf Tryd.f7 17
--FACTS
theorem Z17_s : Region.noSelect Z17 = true := by kernel_rfl
theorem Z17_f0 : Region.free .any Z17 #[false, false, false, false, false, false, false, false, false, false, false, false, false, false, false, false, false, false, false] 0 = true := by kernel_rfl
theorem Z17_c0 : (Region.ready .any Z17 #[false, false, false, false, false, false, false, false, false, false, false, false, false, false, false, false, false, false, false]).contains 0 = true := by kernel_rfl
theorem Z17_f1 : Region.free .any Z17 #[true, false, false, false, false, false, false, false, false, false, false, false, false, false, false, false, false, false, false] 1 = true := by kernel_rfl
theorem Z17_c1 : (Region.ready .any Z17 #[true, false, false, false, false, false, false, false, false, false, false, false, false, false, false, false, false, false, false]).contains 1 = true := by kernel_rfl
theorem Z17_f2 : Region.free .any Z17 #[true, true, false, false, false, false, false, false, false, false, false, false, false, false, false, false, false, false, false] 2 = true := by kernel_rfl
theorem Z17_c2 : (Region.ready .any Z17 #[true, true, false, false, false, false, false, false, false, false, false, false, false, false, false, false, false, false, false]).contains 2 = true := by kernel_rfl
theorem Z17_f3 : Region.free .any Z17 #[true, true, true, false, false, false, false, false, false, false, false, false, false, false, false, false, false, false, false] 3 = true := by kernel_rfl
theorem Z17_c3 : (Region.ready .any Z17 #[true, true, true, false, false, false, false, false, false, false, false, false, false, false, false, false, false, false, false]).contains 3 = true := by kernel_rfl
theorem Z17_f4 : Region.free .any Z17 #[true, true, true, true, false, false, false, false, false, false, false, false, false, false, false, false, false, false, false] 4 = true := by kernel_rfl
theorem Z17_c4 : (Region.ready .any Z17 #[true, true, true, true, false, false, false, false, false, false, false, false, false, false, false, false, false, false, false]).contains 4 = true := by kernel_rfl
theorem Z17_f5 : Region.free .any Z17 #[true, true, true, true, true, false, false, false, false, false, false, false, false, false, false, false, false, false, false] 5 = true := by kernel_rfl
theorem Z17_c5 : (Region.ready .any Z17 #[true, true, true, true, true, false, false, false, false, false, false, false, false, false, false, false, false, false, false]).contains 5 = true := by kernel_rfl
theorem Z17_f6 : Region.free .any Z17 #[true, true, true, true, true, true, false, false, false, false, false, false, false, false, false, false, false, false, false] 6 = true := by kernel_rfl
theorem Z17_c6 : (Region.ready .any Z17 #[true, true, true, true, true, true, false, false, false, false, false, false, false, false, false, false, false, false, false]).contains 6 = true := by kernel_rfl
theorem Z17_f7 : Region.free .any Z17 #[true, true, true, true, true, true, true, false, false, false, false, false, false, false, false, false, false, false, false] 7 = true := by kernel_rfl
theorem Z17_c7 : (Region.ready .any Z17 #[true, true, true, true, true, true, true, false, false, false, false, false, false, false, false, false, false, false, false]).contains 7 = true := by kernel_rfl
theorem Z17_f8 : Region.free .any Z17 #[true, true, true, true, true, true, true, true, false, false, false, false, false, false, false, false, false, false, false] 8 = true := by kernel_rfl
theorem Z17_c8 : (Region.ready .any Z17 #[true, true, true, true, true, true, true, true, false, false, false, false, false, false, false, false, false, false, false]).contains 8 = true := by kernel_rfl
theorem Z17_f9 : Region.free .any Z17 #[true, true, true, true, true, true, true, true, true, false, false, false, false, false, false, false, false, false, false] 9 = true := by kernel_rfl
theorem Z17_c9 : (Region.ready .any Z17 #[true, true, true, true, true, true, true, true, true, false, false, false, false, false, false, false, false, false, false]).contains 9 = true := by kernel_rfl
theorem Z17_f10 : Region.free .any Z17 #[true, true, true, true, true, true, true, true, true, true, false, false, false, false, false, false, false, false, false] 10 = true := by kernel_rfl
theorem Z17_c10 : (Region.ready .any Z17 #[true, true, true, true, true, true, true, true, true, true, false, false, false, false, false, false, false, false, false]).contains 10 = true := by kernel_rfl
theorem Z17_f11 : Region.free .any Z17 #[true, true, true, true, true, true, true, true, true, true, true, false, false, false, false, false, false, false, false] 11 = true := by kernel_rfl
theorem Z17_c11 : (Region.ready .any Z17 #[true, true, true, true, true, true, true, true, true, true, true, false, false, false, false, false, false, false, false]).contains 11 = true := by kernel_rfl
theorem Z17_f12 : Region.free .any Z17 #[true, true, true, true, true, true, true, true, true, true, true, true, false, false, false, false, false, false, false] 12 = true := by kernel_rfl
theorem Z17_c12 : (Region.ready .any Z17 #[true, true, true, true, true, true, true, true, true, true, true, true, false, false, false, false, false, false, false]).contains 12 = true := by kernel_rfl
theorem Z17_f13 : Region.free .any Z17 #[true, true, true, true, true, true, true, true, true, true, true, true, true, false, false, false, false, false, false] 13 = true := by kernel_rfl
theorem Z17_c13 : (Region.ready .any Z17 #[true, true, true, true, true, true, true, true, true, true, true, true, true, false, false, false, false, false, false]).contains 13 = true := by kernel_rfl
theorem Z17_f14 : Region.free .any Z17 #[true, true, true, true, true, true, true, true, true, true, true, true, true, true, false, false, false, false, false] 14 = true := by kernel_rfl
theorem Z17_c14 : (Region.ready .any Z17 #[true, true, true, true, true, true, true, true, true, true, true, true, true, true, false, false, false, false, false]).contains 14 = true := by kernel_rfl
theorem Z17_f15 : Region.free .any Z17 #[true, true, true, true, true, true, true, true, true, true, true, true, true, true, true, false, false, false, false] 15 = true := by kernel_rfl
theorem Z17_c15 : (Region.ready .any Z17 #[true, true, true, true, true, true, true, true, true, true, true, true, true, true, true, false, false, false, false]).contains 15 = true := by kernel_rfl
theorem Z17_r16 : Region.ready .any Z17 #[true, true, true, true, true, true, true, true, true, true, true, true, true, true, true, true, false, false, false] = [16] := by kernel_rfl
theorem Z17_f17 : Region.free .any Z17 #[true, true, true, true, true, true, true, true, true, true, true, true, true, true, true, true, true, false, false] 17 = true := by kernel_rfl
theorem Z17_c17 : (Region.ready .any Z17 #[true, true, true, true, true, true, true, true, true, true, true, true, true, true, true, true, true, false, false]).contains 17 = true := by kernel_rfl
theorem Z17_f18 : Region.free .any Z17 #[true, true, true, true, true, true, true, true, true, true, true, true, true, true, true, true, true, true, false] 18 = true := by kernel_rfl
theorem Z17_c18 : (Region.ready .any Z17 #[true, true, true, true, true, true, true, true, true, true, true, true, true, true, true, true, true, true, false]).contains 18 = true := by kernel_rfl
--ENDFACTS
set_option maxRecDepth 100000 in
set_option maxHeartbeats 8000000 in
theorem tupleSorts_any (A : Option Addr) (n c : Nat) (ts : List Tup) (w : World) (ht : Tab w.heap.size w) (hs : Ts w w.heap.size A n c ts) (_hin : ∀ t ∈ ts, t.In) : Calls Tryd.prog 7 #[.slice A n c] w fun e W' => e = .returned (.bool true) ∧ Below w.heap.size w W' := by
  have hn63 := hs.n63
  have HS := hide hs
  have hlen : ts.length = n := hs.1
  clear hs
  go_enter Tryd.func7, Tryd.ntmps7
  by_cases h60 : 60 < n
  · go_wp2_with fail
    refine (wakes_any _ ht).mono ?_
    rintro e w1 ⟨rfl, hB1⟩
    go_wp2
    go_ret
    exact ⟨rfl, hB1⟩
  · go_wp2_with fail
    refine (sorted_any A n c ts w HS.out (by omega)).mono ?_
    rintro e w1 ⟨⟨A', c', rfl, hus⟩, hB1⟩
    have hSo : So w w1 A A' n c c' ts (sortT ts) w1 := ⟨HS.out.below hB1, hus, hB1, Nat.le_refl _⟩
    have hul : (sortT ts).length = n := by rw [sort_length, hlen]
    have hperm := hide (sort_perm ts)
    have hstep := hide (fun (i : Nat) (x y : Tup) (hx : (sortT ts)[i]? = some x) (hy : (sortT ts)[i + 1]? = some y) => sort_step hx hy)
    obtain ⟨us, hus0⟩ : ∃ us, sortT ts = us := ⟨_, rfl⟩
    rw [hus0] at hul hperm hstep hSo
    have HU := hide hul
    have HL := hide hlen
    clear hus hus0 hul hlen HS hB1
    go_wp2
    go_loopw [4] (fun i wr => ∃ k : Nat, k ≤ n ∧ i = .int .i64 k ∧ So w w1 A A' n c c' ts us wr) (fun i _ => n - (intOf i).toNat)
    case atStart => exact ⟨0, Nat.zero_le _, rfl, hSo⟩
    case round =>
      obtain ⟨i, hi, rfl, hSi⟩ := hrel
      by_cases hlt : i < n
      · obtain ⟨y, hy⟩ : ∃ y, us[i]? = some y := ⟨us[i]'(by rw [HU.out]; exact hlt), List.getElem?_eq_getElem _⟩
        have HY := hide hy
        clear hy
        go_wp2
        go_loopw [5, 6, 7] (fun a m j wj => ∃ k : Nat, k ≤ n ∧ j = .int .i64 k ∧ a = .int .i64 (cnt (ts.take k) y : Nat) ∧ m = .int .i64 (cnt (us.take k) y : Nat) ∧ So w w1 A A' n c c' ts us wj) (fun a m j _ => n - (intOf j).toNat)
        case atStart => exact ⟨0, Nat.zero_le _, rfl, by simp [cnt], by simp [cnt], hSi⟩
        case round =>
          obtain ⟨k, hk, rfl, rfl, rfl, hSk⟩ := hrel
          by_cases hkn : k < n
          · obtain ⟨b, off, x, rfl, hb, hx, c0, c1, c2, c3⟩ := hSk.ts.at_ hkn
            obtain ⟨b', off', z, rfl, hb', hz, d0, d1, d2, d3⟩ := hSk.us.at_ hkn
            obtain ⟨b2, off2, y2, e2, hb2, hy2, f0, f1, f2, f3⟩ := hSk.us.at_ hlt
            cases e2
            obtain rfl : y2 = y := Option.some.inj (hy2.symm.trans HY.out)
            have n1 := hide (cnt_next hx y2)
            have n2 := hide (cnt_next hz y2)
            have q1 : cnt (ts.take k) y2 ≤ 60 := Nat.le_trans (cnt_le _ _) (by rw [List.length_take]; omega)
            have q2 : cnt (us.take k) y2 ≤ 60 := Nat.le_trans (cnt_le _ _) (by rw [List.length_take]; omega)
            obtain ⟨x1, ex1⟩ : ∃ x, cnt (ts.take k) y2 = x := ⟨_, rfl⟩
            obtain ⟨x2, ex2⟩ : ∃ x, cnt (us.take k) y2 = x := ⟨_, rfl⟩
            rw [ex1] at n1 q1 ⊢
            rw [ex2] at n2 q2 ⊢
            clear hx hz hy2 ex1 ex2
            have g1 : (k : Int) < (n : Int) := by omega
            have g2 : (0 : Int) ≤ (k : Int) := by omega
            have g3 : (i : Int) < (n : Int) := by omega
            have g4 : (0 : Int) ≤ (i : Int) := by omega
            by_cases e1 : x = y2
            · by_cases e3 : z = y2
              · skip
                have hd : ∀ W, (binOp .eql 25 (tv x) (tv y2)).run Tryd.prog W = .ok (.bool true) W := fun W => by rw [eql25]; simp [e1]
                have he : ∀ W, (binOp .eql 25 (tv z) (tv y2)).run Tryd.prog W = .ok (.bool true) W := fun W => by rw [eql25]; simp [e3]
                rw [if_pos e1] at n1
                rw [if_pos e3] at n2
                clear e1 e3
                go_wp2
                go_quiet (fail)
                go_wp2
                go_quiet (fail)
                go_wp2
                refine ⟨⟨k + 1, by omega, by go_num, by rw [n1.out]; simp, by rw [n2.out]; simp, hSk.drewN _⟩, by simp [intOf]; omega⟩
              · skip
                have hd : ∀ W, (binOp .eql 25 (tv x) (tv y2)).run Tryd.prog W = .ok (.bool true) W := fun W => by rw [eql25]; simp [e1]
                have he : ∀ W, (binOp .eql 25 (tv z) (tv y2)).run Tryd.prog W = .ok (.bool false) W := fun W => by rw [eql25]; simp [e3]
                rw [if_pos e1] at n1
                rw [if_neg e3] at n2
                clear e1 e3
                go_wp2
                go_quiet (fail)
                go_wp2
                go_quiet (fail)
                go_wp2
                refine ⟨⟨k + 1, by omega, by go_num, by rw [n1.out]; simp, by rw [n2.out]; simp, hSk.drewN _⟩, by simp [intOf]; omega⟩
            · by_cases e3 : z = y2
              · skip
                have hd : ∀ W, (binOp .eql 25 (tv x) (tv y2)).run Tryd.prog W = .ok (.bool false) W := fun W => by rw [eql25]; simp [e1]
                have he : ∀ W, (binOp .eql 25 (tv z) (tv y2)).run Tryd.prog W = .ok (.bool true) W := fun W => by rw [eql25]; simp [e3]
                rw [if_neg e1] at n1
                rw [if_pos e3] at n2
                clear e1 e3
                go_wp2
                go_quiet (fail)
                go_wp2
                go_quiet (fail)
                go_wp2
                refine ⟨⟨k + 1, by omega, by go_num, by rw [n1.out]; simp, by rw [n2.out]; simp, hSk.drewN _⟩, by simp [intOf]; omega⟩
              · skip
                have hd : ∀ W, (binOp .eql 25 (tv x) (tv y2)).run Tryd.prog W = .ok (.bool false) W := fun W => by rw [eql25]; simp [e1]
                have he : ∀ W, (binOp .eql 25 (tv z) (tv y2)).run Tryd.prog W = .ok (.bool false) W := fun W => by rw [eql25]; simp [e3]
                rw [if_neg e1] at n1
                rw [if_neg e3] at n2
                clear e1 e3
                go_wp2
                go_quiet (fail)
                go_wp2
                go_quiet (fail)
                go_wp2
                refine ⟨⟨k + 1, by omega, by go_num, by rw [n1.out]; simp, by rw [n2.out]; simp, hSk.drewN _⟩, by simp [intOf]; omega⟩
          · obtain rfl : n = k := by omega
            rw [List.take_of_length_le (by rw [HL.out]; omega), List.take_of_length_le (by rw [HU.out]; omega), cnt_perm hperm.out y]
            obtain ⟨x1, ex1⟩ : ∃ x, cnt ts y = x := ⟨_, rfl⟩
            rw [ex1]
            clear ex1
            rcases Nat.eq_zero_or_pos i with rfl | hpos
            · have hn0 : (0 : Int) ≤ 0 := by omega
              go_wp2
              go_quiet (fail)
              go_wp2
              refine ⟨⟨1, by omega, rfl, hSk.drewN _⟩, by simp [intOf]; omega⟩
            · obtain ⟨j, rfl⟩ : ∃ j, i = j + 1 := ⟨i - 1, by omega⟩
              obtain ⟨b', off', x, rfl, _, hx, _⟩ := hSk.us.at_ (show j < n by omega)
              have hy := HY.out
              have hle : decide (cmpT y x < 0) = false := decide_eq_false fun h => hstep.out j x y hx hy ((cmpT_lt y x).1 h)
              have hSj := hSk
              have ej : ((j + 1 : Nat) : Int) = (j : Int) + 1 := by omega
              have hj60 : j + 1 < n := by omega
              rw [ej]
              go_wp2
              --R17
              refine region_as (R := Z17) (by kernel_rfl) ?_
              refine wp_region_held_drew (S := So w w1 A (some ⟨b', off', none⟩) n c c' ts us) (by kernel_rfl) ?_ (fun hHeld => ?_)
              · exact hSj.drew
              refine listed_as (L := #[false, false, false, false, false, false, false, false, false, false, false, false, false, false, false, false, false, false, false]) (by kernel_rfl) ?_
              refine take_bare (i := 0) (some 53) (Go.Op.move (Go.Operand.tmp 5)) 3 #[true, false, false, false, false, false, false, false, false, false, false, false, false, false, false, false, false, false, false] (v := ?_) hHeld rfl (by kernel_rfl) (by kernel_rfl) (by kernel_rfl) (by kernel_rfl) Z17_s Z17_f0 Z17_c0 (by kernel_rfl) (fun _ _ _ h => h) ?hya0_1 ?_
              case hya0_1 => intro w hSw; clear hSw; go_simp; try with_reducible rfl
              try simp only [Act.put, List.setIfInBounds_toArray, List.set_cons_zero, List.set_cons_succ]
              refine take_bare (i := 1) (some 54) (Go.Op.move (Go.Operand.tmp 6)) 3 #[true, true, false, false, false, false, false, false, false, false, false, false, false, false, false, false, false, false, false] (v := ?_) hHeld rfl (by kernel_rfl) (by kernel_rfl) (by kernel_rfl) (by kernel_rfl) Z17_s Z17_f1 Z17_c1 (by kernel_rfl) (fun _ _ _ h => h) ?hya1_2 ?_
              case hya1_2 => intro w hSw; clear hSw; go_simp; try with_reducible rfl
              try simp only [Act.put, List.setIfInBounds_toArray, List.set_cons_zero, List.set_cons_succ]
              refine take_bare (i := 2) (some 55) (Go.Op.binOp Go.BinOp.neq 3 (Go.Operand.tmp 53) (Go.Operand.tmp 54) 3) 4 #[true, true, true, false, false, false, false, false, false, false, false, false, false, false, false, false, false, false, false] (v := ?_) hHeld rfl (by kernel_rfl) (by kernel_rfl) (by kernel_rfl) (by kernel_rfl) Z17_s Z17_f2 Z17_c2 (by kernel_rfl) (fun _ _ _ h => h) ?hya2_3 ?_
              case hya2_3 => intro w hSw; clear hSw; go_simp; try with_reducible rfl
              try simp only [Act.put, List.setIfInBounds_toArray, List.set_cons_zero, List.set_cons_succ]
              refine take_bare (i := 3) (some 56) (Go.Op.move (Go.Operand.tmp 55)) 4 #[true, true, true, true, false, false, false, false, false, false, false, false, false, false, false, false, false, false, false] (v := ?_) hHeld rfl (by kernel_rfl) (by kernel_rfl) (by kernel_rfl) (by kernel_rfl) Z17_s Z17_f3 Z17_c3 (by kernel_rfl) (fun _ _ _ h => h) ?hya3_4 ?_
              case hya3_4 => intro w hSw; clear hSw; go_simp; try with_reducible rfl
              try simp only [Act.put, List.setIfInBounds_toArray, List.set_cons_zero, List.set_cons_succ]
              refine take_bare (i := 4) (some 57) (Go.Op.move (Go.Operand.tmp 4)) 3 #[true, true, true, true, true, false, false, false, false, false, false, false, false, false, false, false, false, false, false] (v := ?_) hHeld rfl (by kernel_rfl) (by kernel_rfl) (by kernel_rfl) (by kernel_rfl) Z17_s Z17_f4 Z17_c4 (by kernel_rfl) (fun _ _ _ h => h) ?hya4_5 ?_
              case hya4_5 => intro w hSw; clear hSw; go_simp; try with_reducible rfl
              try simp only [Act.put, List.setIfInBounds_toArray, List.set_cons_zero, List.set_cons_succ]
              refine take_bare (i := 5) (some 58) (Go.Op.binOp Go.BinOp.gtr 3 (Go.Operand.tmp 57) (Go.Operand.const (Go.Value.int Go.IntKind.i64 0)) 3) 4 #[true, true, true, true, true, true, false, false, false, false, false, false, false, false, false, false, false, false, false] (v := ?_) hHeld rfl (by kernel_rfl) (by kernel_rfl) (by kernel_rfl) (by kernel_rfl) Z17_s Z17_f5 Z17_c5 (by kernel_rfl) (fun _ _ _ h => h) ?hya5_6 ?_
              case hya5_6 => intro w hSw; clear hSw; go_simp; try with_reducible rfl
              try simp only [Act.put, List.setIfInBounds_toArray, List.set_cons_zero, List.set_cons_succ]
              refine take_bare (i := 6) (some 59) (Go.Op.move (Go.Operand.tmp 58)) 4 #[true, true, true, true, true, true, true, false, false, false, false, false, false, false, false, false, false, false, false] (v := ?_) hHeld rfl (by kernel_rfl) (by kernel_rfl) (by kernel_rfl) (by kernel_rfl) Z17_s Z17_f6 Z17_c6 (by kernel_rfl) (fun _ _ _ h => h) ?hya6_7 ?_
              case hya6_7 => intro w hSw; clear hSw; go_simp; try with_reducible rfl
              try simp only [Act.put, List.setIfInBounds_toArray, List.set_cons_zero, List.set_cons_succ]
              refine take_bare (i := 7) (some 60) (Go.Op.move (Go.Operand.tmp 3)) 27 #[true, true, true, true, true, true, true, true, false, false, false, false, false, false, false, false, false, false, false] (v := ?_) hHeld rfl (by kernel_rfl) (by kernel_rfl) (by kernel_rfl) (by kernel_rfl) Z17_s Z17_f7 Z17_c7 (by kernel_rfl) (fun _ _ _ h => h) ?hya7_8 ?_
              case hya7_8 => intro w hSw; clear hSw; go_simp; try with_reducible rfl
              try simp only [Act.put, List.setIfInBounds_toArray, List.set_cons_zero, List.set_cons_succ]
              refine take_bare (i := 8) (some 61) (Go.Op.move (Go.Operand.tmp 4)) 3 #[true, true, true, true, true, true, true, true, true, false, false, false, false, false, false, false, false, false, false] (v := ?_) hHeld rfl (by kernel_rfl) (by kernel_rfl) (by kernel_rfl) (by kernel_rfl) Z17_s Z17_f8 Z17_c8 (by kernel_rfl) (fun _ _ _ h => h) ?hya8_9 ?_
              case hya8_9 => intro w hSw; clear hSw; go_simp; try with_reducible rfl
              try simp only [Act.put, List.setIfInBounds_toArray, List.set_cons_zero, List.set_cons_succ]
              refine take_bare (i := 9) (some 62) (Go.Op.indexAddr 27 (Go.Operand.tmp 60) (Go.Operand.tmp 61)) 0 #[true, true, true, true, true, true, true, true, true, true, false, false, false, false, false, false, false, false, false] (v := (.pointer (some ⟨b', off' + (j + 1) * 4, none⟩))) hHeld rfl (by kernel_rfl) (by kernel_rfl) (by kernel_rfl) (by kernel_rfl) Z17_s Z17_f9 Z17_c9 (by kernel_rfl) (fun _ _ _ h => h) (fun W hS => run_idx (s := 60) (t := 61) (n := n) (c := c') (j + 1) ((j : Int) + 1) (by kernel_rfl) (by kernel_rfl) (by kernel_rfl) (by omega) (by omega) W) ?_
              try simp only [Act.put, List.setIfInBounds_toArray, List.set_cons_zero, List.set_cons_succ]
              refine take_bare (i := 10) (some 63) (Go.Op.load 25 (Go.Operand.tmp 62)) 25 #[true, true, true, true, true, true, true, true, true, true, true, false, false, false, false, false, false, false, false] (v := (tv y)) hHeld rfl (by kernel_rfl) (by kernel_rfl) (by kernel_rfl) (by kernel_rfl) Z17_s Z17_f10 Z17_c10 (by kernel_rfl) (fun _ _ _ h => h) (fun W hS => run_load_at (s := 62) (by kernel_rfl) (by kernel_rfl) (hS.us.at' hy)) ?_
              try simp only [Act.put, List.setIfInBounds_toArray, List.set_cons_zero, List.set_cons_succ]
              refine take_bare (i := 11) (some 64) (Go.Op.move (Go.Operand.tmp 3)) 27 #[true, true, true, true, true, true, true, true, true, true, true, true, false, false, false, false, false, false, false] (v := ?_) hHeld rfl (by kernel_rfl) (by kernel_rfl) (by kernel_rfl) (by kernel_rfl) Z17_s Z17_f11 Z17_c11 (by kernel_rfl) (fun _ _ _ h => h) ?hya11_12 ?_
              case hya11_12 => intro w hSw; clear hSw; go_simp; try with_reducible rfl
              try simp only [Act.put, List.setIfInBounds_toArray, List.set_cons_zero, List.set_cons_succ]
              refine take_bare (i := 12) (some 65) (Go.Op.move (Go.Operand.tmp 4)) 3 #[true, true, true, true, true, true, true, true, true, true, true, true, true, false, false, false, false, false, false] (v := ?_) hHeld rfl (by kernel_rfl) (by kernel_rfl) (by kernel_rfl) (by kernel_rfl) Z17_s Z17_f12 Z17_c12 (by kernel_rfl) (fun _ _ _ h => h) ?hya12_13 ?_
              case hya12_13 => intro w hSw; clear hSw; go_simp; try with_reducible rfl
              try simp only [Act.put, List.setIfInBounds_toArray, List.set_cons_zero, List.set_cons_succ]
              refine take_bare (i := 13) (some 66) (Go.Op.binOp Go.BinOp.sub 3 (Go.Operand.tmp 65) (Go.Operand.const (Go.Value.int Go.IntKind.i64 1)) 3) 3 #[true, true, true, true, true, true, true, true, true, true, true, true, true, true, false, false, false, false, false] (v := (.int .i64 (j : Int))) hHeld rfl (by kernel_rfl) (by kernel_rfl) (by kernel_rfl) (by kernel_rfl) Z17_s Z17_f13 Z17_c13 (by kernel_rfl) (fun _ _ _ h => h) (fun W hS => run_pred (s := 65) j (by kernel_rfl) (by kernel_rfl) (by omega) W) ?_
              try simp only [Act.put, List.setIfInBounds_toArray, List.set_cons_zero, List.set_cons_succ]
              refine take_bare (i := 14) (some 67) (Go.Op.indexAddr 27 (Go.Operand.tmp 64) (Go.Operand.tmp 66)) 0 #[true, true, true, true, true, true, true, true, true, true, true, true, true, true, true, false, false, false, false] (v := (.pointer (some ⟨b', off' + j * 4, none⟩))) hHeld rfl (by kernel_rfl) (by kernel_rfl) (by kernel_rfl) (by kernel_rfl) Z17_s Z17_f14 Z17_c14 (by kernel_rfl) (fun _ _ _ h => h) (fun W hS => run_idx (s := 64) (t := 66) (n := n) (c := c') j (j : Int) (by kernel_rfl) (by kernel_rfl) (by kernel_rfl) rfl (by omega) W) ?_
              try simp only [Act.put, List.setIfInBounds_toArray, List.set_cons_zero, List.set_cons_succ]
              refine take_bare (i := 15) (some 68) (Go.Op.load 25 (Go.Operand.tmp 67)) 25 #[true, true, true, true, true, true, true, true, true, true, true, true, true, true, true, true, false, false, false] (v := (tv x)) hHeld rfl (by kernel_rfl) (by kernel_rfl) (by kernel_rfl) (by kernel_rfl) Z17_s Z17_f15 Z17_c15 (by kernel_rfl) (fun _ _ _ h => h) (fun W hS => run_load_at (s := 67) (by kernel_rfl) (by kernel_rfl) (hS.us.at' hx)) ?_
              try simp only [Act.put, List.setIfInBounds_toArray, List.set_cons_zero, List.set_cons_succ]
              refine step_bare (i := 16) (some 69) (Go.Op.call { callee := Go.Callee.value (Go.Operand.func 15), args := #[Go.Operand.tmp 63, Go.Operand.tmp 68], argTypes := #[25, 25] }) 4 #[true, true, true, true, true, true, true, true, true, true, true, true, true, true, true, true, true, false, false] Z17_r16 rfl (by kernel_rfl) (by kernel_rfl) (by kernel_rfl) (by kernel_rfl) (by kernel_rfl) (fun K hK => ?_)
              go_simp
              (with_reducible refine (less_val y x false hle _).mono ?_)
              rintro e w36 ⟨rfl, hB36⟩
              go_simp
              refine hK.out _ _ ?_ (fun hHeld => ?_)
              · exact hHeld.next hB36
              clear hK K
              try simp only [Act.put, List.setIfInBounds_toArray, List.set_cons_zero, List.set_cons_succ]
              refine take_bare (i := 17) (some 70) (Go.Op.pick (Go.Operand.tmp 59) (Go.Operand.tmp 69) (Go.Operand.const (Go.Value.bool false))) 4 #[true, true, true, true, true, true, true, true, true, true, true, true, true, true, true, true, true, true, false] (v := ?_) hHeld rfl (by kernel_rfl) (by kernel_rfl) (by kernel_rfl) (by kernel_rfl) Z17_s Z17_f17 Z17_c17 (by kernel_rfl) (fun _ _ _ h => h) ?hya17_17 ?_
              case hya17_17 => intro w hSw; clear hSw; go_simp; try with_reducible rfl
              try simp only [Act.put, List.setIfInBounds_toArray, List.set_cons_zero, List.set_cons_succ]
              refine take_bare (i := 18) (some 71) (Go.Op.pick (Go.Operand.tmp 56) (Go.Operand.const (Go.Value.bool true)) (Go.Operand.tmp 70)) 4 #[true, true, true, true, true, true, true, true, true, true, true, true, true, true, true, true, true, true, true] (v := ?_) hHeld rfl (by kernel_rfl) (by kernel_rfl) (by kernel_rfl) (by kernel_rfl) Z17_s Z17_f18 Z17_c18 (by kernel_rfl) (fun _ _ _ h => h) ?hya18_18 ?_
              case hya18_18 => intro w hSw; clear hSw; go_simp; try with_reducible rfl
              try simp only [Act.put, List.setIfInBounds_toArray, List.set_cons_zero, List.set_cons_succ]
              refine wpAnyH_done (by kernel_rfl) ?_ _
              try simp only [Act.put, List.setIfInBounds_toArray, List.set_cons_zero, List.set_cons_succ]
              go_wp2
              refine ⟨⟨j + 1 + 1, by omega, by go_num, hHeld⟩, by simp [intOf]; omega⟩
      · obtain rfl : i = n := by omega
        go_wp2_with fail
        refine (wakes_any _ (Lib.tabBelow_of_tabIs (ht _ hSi.below))).mono ?_
        rintro e w2 ⟨rfl, hB2⟩
        go_wp2
        go_ret
        exact ⟨rfl, hSi.below.trans (hB2.mono hSi.below.size)⟩
end Go.Proofs.YtdlpkphbgbffpaaDoor
