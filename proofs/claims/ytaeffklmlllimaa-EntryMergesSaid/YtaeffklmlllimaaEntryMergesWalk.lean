/-
  The walk of the statement EntryMerges (its drawn regions printed by gen-merges.py).
-/
import Derived.Test.YtaeffklmlllimaaMergesBox
namespace Go.Proofs.Ytaeffklmlllimaa
open Go Go.RowKit Go.Shelf
set_option linter.unusedSimpArgs false
set_option linter.unusedVariables false
attribute [local go_sem] Oper.semAt_some

/-- The operations of region 14. -/
noncomputable def M14 : Array Oper := opsOf Try.f4 14
theorem M14_s : Region.noSelect M14 = true := by kernel_rfl
theorem M14_f0 : Region.free .any M14 #[false, false, false, false, false, false, false] 0 = true := by kernel_rfl
theorem M14_c0 : (Region.ready .any M14 #[false, false, false, false, false, false, false]).contains 0 = true := by kernel_rfl
theorem M14_r1 : Region.ready .any M14 #[true, false, false, false, false, false, false] = [1] := by kernel_rfl
theorem M14_f2 : Region.free .any M14 #[true, true, false, false, false, false, false] 2 = true := by kernel_rfl
theorem M14_c2 : (Region.ready .any M14 #[true, true, false, false, false, false, false]).contains 2 = true := by kernel_rfl
theorem M14_f3 : Region.free .any M14 #[true, true, true, false, false, false, false] 3 = true := by kernel_rfl
theorem M14_c3 : (Region.ready .any M14 #[true, true, true, false, false, false, false]).contains 3 = true := by kernel_rfl
theorem M14_r4 : Region.ready .any M14 #[true, true, true, true, false, false, false] = [4] := by kernel_rfl
theorem M14_f5 : Region.free .any M14 #[true, true, true, true, true, false, false] 5 = true := by kernel_rfl
theorem M14_c5 : (Region.ready .any M14 #[true, true, true, true, true, false, false]).contains 5 = true := by kernel_rfl
theorem M14_f6 : Region.free .any M14 #[true, true, true, true, true, true, false] 6 = true := by kernel_rfl
theorem M14_c6 : (Region.ready .any M14 #[true, true, true, true, true, true, false]).contains 6 = true := by kernel_rfl
/-- The operations of region 18. -/
noncomputable def M18 : Array Oper := opsOf Try.f4 18
theorem M18_s : Region.noSelect M18 = true := by kernel_rfl
theorem M18_f0 : Region.free .any M18 #[false, false, false, false, false, false, false, false, false, false, false, false, false, false, false, false, false, false, false, false, false] 0 = true := by kernel_rfl
theorem M18_c0 : (Region.ready .any M18 #[false, false, false, false, false, false, false, false, false, false, false, false, false, false, false, false, false, false, false, false, false]).contains 0 = true := by kernel_rfl
theorem M18_f7 : Region.free .any M18 #[true, false, false, false, false, false, false, false, false, false, false, false, false, false, false, false, false, false, false, false, false] 7 = true := by kernel_rfl
theorem M18_c7 : (Region.ready .any M18 #[true, false, false, false, false, false, false, false, false, false, false, false, false, false, false, false, false, false, false, false, false]).contains 7 = true := by kernel_rfl
theorem M18_f2 : Region.free .any M18 #[true, false, false, false, false, false, false, true, false, false, false, false, false, false, false, false, false, false, false, false, false] 2 = true := by kernel_rfl
theorem M18_c2 : (Region.ready .any M18 #[true, false, false, false, false, false, false, true, false, false, false, false, false, false, false, false, false, false, false, false, false]).contains 2 = true := by kernel_rfl
theorem M18_f3 : Region.free .any M18 #[true, false, true, false, false, false, false, true, false, false, false, false, false, false, false, false, false, false, false, false, false] 3 = true := by kernel_rfl
theorem M18_c3 : (Region.ready .any M18 #[true, false, true, false, false, false, false, true, false, false, false, false, false, false, false, false, false, false, false, false, false]).contains 3 = true := by kernel_rfl
theorem M18_f4 : Region.free .any M18 #[true, false, true, true, false, false, false, true, false, false, false, false, false, false, false, false, false, false, false, false, false] 4 = true := by kernel_rfl
theorem M18_c4 : (Region.ready .any M18 #[true, false, true, true, false, false, false, true, false, false, false, false, false, false, false, false, false, false, false, false, false]).contains 4 = true := by kernel_rfl
theorem M18_r1 : Region.ready .any M18 #[true, false, true, true, true, false, false, true, false, false, false, false, false, false, false, false, false, false, false, false, false] = [1] := by kernel_rfl
theorem M18_r5 : Region.ready .any M18 #[true, true, true, true, true, false, false, true, false, false, false, false, false, false, false, false, false, false, false, false, false] = [5] := by kernel_rfl
theorem M18_r6 : Region.ready .any M18 #[true, true, true, true, true, true, false, true, false, false, false, false, false, false, false, false, false, false, false, false, false] = [6] := by kernel_rfl
theorem M18_f8 : Region.free .any M18 #[true, true, true, true, true, true, true, true, false, false, false, false, false, false, false, false, false, false, false, false, false] 8 = true := by kernel_rfl
theorem M18_c8 : (Region.ready .any M18 #[true, true, true, true, true, true, true, true, false, false, false, false, false, false, false, false, false, false, false, false, false]).contains 8 = true := by kernel_rfl
theorem M18_f9 : Region.free .any M18 #[true, true, true, true, true, true, true, true, true, false, false, false, false, false, false, false, false, false, false, false, false] 9 = true := by kernel_rfl
theorem M18_c9 : (Region.ready .any M18 #[true, true, true, true, true, true, true, true, true, false, false, false, false, false, false, false, false, false, false, false, false]).contains 9 = true := by kernel_rfl
theorem M18_f10 : Region.free .any M18 #[true, true, true, true, true, true, true, true, true, true, false, false, false, false, false, false, false, false, false, false, false] 10 = true := by kernel_rfl
theorem M18_c10 : (Region.ready .any M18 #[true, true, true, true, true, true, true, true, true, true, false, false, false, false, false, false, false, false, false, false, false]).contains 10 = true := by kernel_rfl
theorem M18_f11 : Region.free .any M18 #[true, true, true, true, true, true, true, true, true, true, true, false, false, false, false, false, false, false, false, false, false] 11 = true := by kernel_rfl
theorem M18_c11 : (Region.ready .any M18 #[true, true, true, true, true, true, true, true, true, true, true, false, false, false, false, false, false, false, false, false, false]).contains 11 = true := by kernel_rfl
theorem M18_f14 : Region.free .any M18 #[true, true, true, true, true, true, true, true, true, true, true, true, false, false, false, false, false, false, false, false, false] 14 = true := by kernel_rfl
theorem M18_c14 : (Region.ready .any M18 #[true, true, true, true, true, true, true, true, true, true, true, true, false, false, false, false, false, false, false, false, false]).contains 14 = true := by kernel_rfl
theorem M18_r12 : Region.ready .any M18 #[true, true, true, true, true, true, true, true, true, true, true, true, false, false, true, false, false, false, false, false, false] = [12] := by kernel_rfl
theorem M18_r13 : Region.ready .any M18 #[true, true, true, true, true, true, true, true, true, true, true, true, true, false, true, false, false, false, false, false, false] = [13] := by kernel_rfl
theorem M18_f15 : Region.free .any M18 #[true, true, true, true, true, true, true, true, true, true, true, true, true, true, true, false, false, false, false, false, false] 15 = true := by kernel_rfl
theorem M18_c15 : (Region.ready .any M18 #[true, true, true, true, true, true, true, true, true, true, true, true, true, true, true, false, false, false, false, false, false]).contains 15 = true := by kernel_rfl
theorem M18_f16 : Region.free .any M18 #[true, true, true, true, true, true, true, true, true, true, true, true, true, true, true, true, false, false, false, false, false] 16 = true := by kernel_rfl
theorem M18_c16 : (Region.ready .any M18 #[true, true, true, true, true, true, true, true, true, true, true, true, true, true, true, true, false, false, false, false, false]).contains 16 = true := by kernel_rfl
theorem M18_f17 : Region.free .any M18 #[true, true, true, true, true, true, true, true, true, true, true, true, true, true, true, true, true, false, false, false, false] 17 = true := by kernel_rfl
theorem M18_c17 : (Region.ready .any M18 #[true, true, true, true, true, true, true, true, true, true, true, true, true, true, true, true, true, false, false, false, false]).contains 17 = true := by kernel_rfl
theorem M18_r18 : Region.ready .any M18 #[true, true, true, true, true, true, true, true, true, true, true, true, true, true, true, true, true, true, false, false, false] = [18] := by kernel_rfl
theorem M18_f19 : Region.free .any M18 #[true, true, true, true, true, true, true, true, true, true, true, true, true, true, true, true, true, true, true, false, false] 19 = true := by kernel_rfl
theorem M18_c19 : (Region.ready .any M18 #[true, true, true, true, true, true, true, true, true, true, true, true, true, true, true, true, true, true, true, false, false]).contains 19 = true := by kernel_rfl
theorem M18_f20 : Region.free .any M18 #[true, true, true, true, true, true, true, true, true, true, true, true, true, true, true, true, true, true, true, true, false] 20 = true := by kernel_rfl
theorem M18_c20 : (Region.ready .any M18 #[true, true, true, true, true, true, true, true, true, true, true, true, true, true, true, true, true, true, true, true, false]).contains 20 = true := by kernel_rfl
set_option maxRecDepth 100000 in
set_option maxHeartbeats 16000000 in
theorem entryMerges_any (w : World) (A : Option Addr) (n c : Nat) (es : List Ent) (hs : Se w w.heap.size A n c es) (at_ : Int) (hat : (Lit.int .i64 at_).wf = true) :
    Calls Try.prog 4 #[.slice A n c, .int .i64 at_] w fun e W' => e = .returned (.bool true) ∧ Below w.heap.size w W' := by
  have hlen : es.length = n := hs.1
  have hn63 := hs.n63
  have HL := hide hlen
  clear hlen
  go_enter Try.func4, Try.ntmps4
  by_cases hn : 60 < n
  · go_wp2_with (go_at_call 7; refine (wakes_any _).mono ?_; rintro e w' ⟨rfl, hB⟩)
    go_ret
    exact ⟨rfl, hB⟩
  · go_upto_region 3 with (fail)
    go_cut [1] (fun s wx => ∃ k : Nat, k ≤ n ∧ s = .int .i64 k ∧ w = wx)
    case first =>
      go_wp2_with fail
      all_goals go_meet
      · exact ⟨n, Nat.le_refl _, rfl, rfl⟩
      · exact ⟨0, Nat.zero_le _, rfl, rfl⟩
      · have h1 : (if at_ < 0 then 0 else at_) ≤ (n : Int) := by assumption
        have h0 : 0 ≤ at_ := by assumption
        rw [if_neg (by omega)] at h1
        exact ⟨at_.toNat, by omega, by rw [Int.toNat_of_nonneg h0], rfl⟩
    case rest =>
      obtain ⟨k0, hk0, rfl, rfl⟩ := hcut
      go_wp2_with fail
      refine (merge_any A n c es _ hs).mono ?_
      obtain ⟨m, hm⟩ : ∃ m, mergeL es = m := ⟨_, rfl⟩
      have HM := hide hm
      rw [hm]
      clear hm
      rintro e w1 ⟨rfl, hB1⟩
      have hx1 : Bx (w1.alloc (.cells #[.int .i64 m.cur, .int .i64 m.prev, .int .i64 m.gen, .int .i64 m.tick] 23)) w1.heap.size m := Bx.new w1 _ _ _ _
      have hB2 : Below w.heap.size w (w1.alloc (.cells #[.int .i64 m.cur, .int .i64 m.prev, .int .i64 m.gen, .int .i64 m.tick] 23)) := hB1.alloc hB1.size _
      go_wp2_with fail
      go_loopw [6, 7] (fun s i wr => ∃ k : Nat, k ≤ n ∧ i = .int .i64 k ∧ s = .bool (someG m.gen (es.take k)) ∧ Bx wr w1.heap.size m ∧ Below w.heap.size w wr) (fun _ i _ => n - (intOf i).toNat)
      case atStart => exact ⟨0, Nat.zero_le _, rfl, rfl, hx1, hB2⟩
      case round =>
        obtain ⟨k, hk, rfl, rfl, hx, hB⟩ := hrel
        by_cases hlt : k < n
        · obtain ⟨b, off, x, rfl, hb, hxk, c0, c1, c2, c3⟩ := (hs.below hB).at_ hlt
          have hnext := someG_next m.gen es hxk
          have hle : rightB x = true → x.gen ≤ m.gen := fun hr => HM.out ▸ merge_le es hxk hr
          have hfst : rightB x = true → someG m.gen (es.take k) = false → x.gen = m.gen → x = m := fun hr hn hg => by
            rw [← HM.out] at hn hg ⊢
            exact merge_first es hxk hr hn hg
          have HN := hide hnext
          have HLE := hide hle
          have HF := hide hfst
          have HX := hide hxk
          clear hnext hle hfst hxk
          obtain ⟨sg, hsg⟩ : ∃ sg, someG m.gen (es.take k) = sg := ⟨_, rfl⟩
          rw [hsg] at HN HF ⊢
          clear hsg
          cases hr : rightB x
          · have HR := hide hr
            go_wp2_with (go_at_call 9; refine (refRight_val x _ hr _).mono ?_; rintro e w2 ⟨rfl, hB3⟩)
            go_roundw
            case rel => exact ⟨k + 1, by omega, by go_num, by rw [HN.out, HR.out]; simp, hx.below hB3 hx.lt, hB.trans (hB3.mono hB.size)⟩
            case measure => simp [intOf]; omega
          · have hle := HLE.out hr
            have HR := hide hr
            go_wp2_with (go_at_call 9; refine (refRight_val x _ hr _).mono ?_; rintro e w2 ⟨rfl, hB3⟩; have hx3 := hx.below hB3 hx.lt; have e0 := hx3.c0; have e1 := hx3.c1; have e2 := hx3.c2; have e3 := hx3.c3; obtain ⟨b', off', x', hA', hb', hxk', d0, d1, d2, d3⟩ := ((hs.below (hB.trans (hB3.mono hB.size))).at_ hlt); cases hA'; cases (HX.out.symm.trans hxk'))
            have hx3f : Below w.heap.size w w2 := hB.trans (hB3.mono hB.size)
            have hd : decide (m.gen < x.gen) = false := by simp; omega
            clear hle hr
            cases sg
            · by_cases hg : x.gen = m.gen
              · obtain rfl := HF.out HR.out rfl hg
                have HG := hide hg
                clear hg
                go_quiet (fail)
                go_wp2
                go_quiet (fail)
                go_wp2
                go_roundw
                case rel => exact ⟨k + 1, by omega, by go_num, by rw [HN.out]; simp [HR.out, HG.out], hx3.drewN _, below_drewN hx3f _⟩
                case measure => simp [intOf]; omega
              · have hg' : (x.gen == m.gen) = false := by simp [hg]
                have HG := hide hg
                clear hg
                go_quiet (fail)
                go_wp2
                go_quiet (fail)
                go_wp2
                go_roundw
                case rel => exact ⟨k + 1, by omega, by go_num, by rw [HN.out]; simp [HR.out, HG.out], hx3.drewN _, below_drewN hx3f _⟩
                case measure => simp [intOf]; omega
            · go_quiet (fail)
              go_wp2
              go_quiet (fail)
              go_wp2
              go_roundw
              case rel => exact ⟨k + 1, by omega, by go_num, by rw [HN.out]; simp, hx3.drewN _, below_drewN hx3f _⟩
              case measure => simp [intOf]; omega
        · obtain rfl : k = n := by omega
          rw [List.take_of_length_le (by rw [HL.out]; omega)]
          cases hsg : someG m.gen es
          · have HSG := hide hsg
            have hnone : m = noneE := by
              have h := someG_none es
              rw [HM.out] at h
              exact h hsg
            clear hsg
            subst hnone
            have c0 := hx.c0
            have c1 := hx.c1
            have c2 := hx.c2
            have c3 := hx.c3
            go_wp2
            have hT : Hd noneE w1.heap.size w wr := ⟨hx, hB⟩
            refine region_as (R := M14) (by kernel_rfl) ?_
            refine wp_region_held_drew (S := Hd noneE w1.heap.size w) (by kernel_rfl) ?_ (fun hHeld => ?_)
            · exact hT.drewN 1
            refine listed_as (L := #[false, false, false, false, false, false, false]) (by kernel_rfl) ?_
            refine take_bare (i := 0) (some 76) (Go.Op.load 23 (Go.Operand.tmp 5)) 23 #[true, false, false, false, false, false, false] (v := (.agg #[.int .i64 (-1), .int .i64 (-1), .int .i64 0, .int .i64 0])) hHeld rfl (by kernel_rfl) (by kernel_rfl) (by kernel_rfl) (by kernel_rfl) M14_s M14_f0 M14_c0 (by kernel_rfl) (fun _ _ _ h => h) (fun W hS => run_load_bx (s := 5) (by kernel_rfl) (by kernel_rfl) hS.1) ?_
            try simp only [Act.put, List.setIfInBounds_toArray, List.set_cons_zero, List.set_cons_succ]
            refine step_bare (i := 1) (some 77) (Go.Op.call { callee := Go.Callee.value (Go.Operand.func 14), args := #[], argTypes := #[] }) 23 #[true, true, false, false, false, false, false] M14_r1 rfl (by kernel_rfl) (by kernel_rfl) (by kernel_rfl) (by kernel_rfl) (by kernel_rfl) (fun K hK => ?_)
            go_simp
            (with_reducible refine (none_val _).mono ?_)
            rintro e w1 ⟨rfl, hB1⟩
            go_simp
            refine hK.out _ _ ?_ (fun hHeld => ?_)
            · exact hHeld.below hB1
            clear hK K
            try simp only [Act.put, List.setIfInBounds_toArray, List.set_cons_zero, List.set_cons_succ]
            refine take_bare (i := 2) (some 78) (Go.Op.binOp Go.BinOp.eql 23 (Go.Operand.tmp 76) (Go.Operand.tmp 77) 23) 4 #[true, true, true, false, false, false, false] (v := ?_) hHeld rfl (by kernel_rfl) (by kernel_rfl) (by kernel_rfl) (by kernel_rfl) M14_s M14_f2 M14_c2 (by kernel_rfl) (fun _ _ _ h => h) ?hyr142_2 ?_
            case hyr142_2 => intro w hSw; clear hSw; go_simp; try with_reducible rfl
            try simp only [Act.put, List.setIfInBounds_toArray, List.set_cons_zero, List.set_cons_succ]
            refine take_bare (i := 3) (some 79) (Go.Op.move (Go.Operand.tmp 78)) 4 #[true, true, true, true, false, false, false] (v := ?_) hHeld rfl (by kernel_rfl) (by kernel_rfl) (by kernel_rfl) (by kernel_rfl) M14_s M14_f3 M14_c3 (by kernel_rfl) (fun _ _ _ h => h) ?hyr143_3 ?_
            case hyr143_3 => intro w hSw; clear hSw; go_simp; try with_reducible rfl
            try simp only [Act.put, List.setIfInBounds_toArray, List.set_cons_zero, List.set_cons_succ]
            refine step_bare (i := 4) (some 80) (Go.Op.call { callee := Go.Callee.value (Go.Operand.func 7), args := #[], argTypes := #[] }) 4 #[true, true, true, true, true, false, false] M14_r4 rfl (by kernel_rfl) (by kernel_rfl) (by kernel_rfl) (by kernel_rfl) (by kernel_rfl) (fun K hK => ?_)
            go_simp
            (with_reducible refine (wakes_any _).mono ?_)
            rintro e w4 ⟨rfl, hB4⟩
            go_simp
            refine hK.out _ _ ?_ (fun hHeld => ?_)
            · exact hHeld.below hB4
            clear hK K
            try simp only [Act.put, List.setIfInBounds_toArray, List.set_cons_zero, List.set_cons_succ]
            refine take_bare (i := 5) (some 81) (Go.Op.pick (Go.Operand.tmp 79) (Go.Operand.tmp 80) (Go.Operand.const (Go.Value.bool false))) 4 #[true, true, true, true, true, true, false] (v := ?_) hHeld rfl (by kernel_rfl) (by kernel_rfl) (by kernel_rfl) (by kernel_rfl) M14_s M14_f5 M14_c5 (by kernel_rfl) (fun _ _ _ h => h) ?hyr145_4 ?_
            case hyr145_4 => intro w hSw; clear hSw; go_simp; try with_reducible rfl
            try simp only [Act.put, List.setIfInBounds_toArray, List.set_cons_zero, List.set_cons_succ]
            refine take_bare (i := 6) (some 4) (Go.Op.assign (Go.Operand.tmp 81)) 4 #[true, true, true, true, true, true, true] (v := ?_) hHeld rfl (by kernel_rfl) (by kernel_rfl) (by kernel_rfl) (by kernel_rfl) M14_s M14_f6 M14_c6 (by kernel_rfl) (fun _ _ _ h => h) ?hyr146_5 ?_
            case hyr146_5 => intro w hSw; clear hSw; go_simp; try with_reducible rfl
            try simp only [Act.put, List.setIfInBounds_toArray, List.set_cons_zero, List.set_cons_succ]
            refine wpAnyH_done (by kernel_rfl) ?_ _
            try simp only [Act.put, List.setIfInBounds_toArray, List.set_cons_zero, List.set_cons_succ]
            go_wp2
            go_ret
            exact ⟨rfl, hHeld.2⟩
          · have hsome := someG_some es hsg
            have hk1 : 0 < k := by
              rcases Nat.eq_zero_or_pos k with h0 | h0
              · exfalso
                have hl := HL.out
                rw [h0] at hl
                rw [List.eq_nil_of_length_eq_zero hl] at hsg
                cases hsg
              · exact h0
            obtain ⟨b, off, x0, rfl, hb, _, _⟩ := hs.at_ hk1
            have HS := hide hsome
            clear hsg hsome
            have hT : Hd m w1.heap.size w wr := ⟨hx, hB⟩
            have HC := hide (fun (W : World) (h : Hd m w1.heap.size w W) => ((hs.below h.2).cutIf hk0).more h.2.size)
            have HTK := hide (fun (W : World) (h : Hd m w1.heap.size w W) => ((hs.below h.2).take hk0).more h.2.size)
            have hlt1 := hx.lt
            have hlt2 := hB1.size
            clear hx hB
            have hkc : k ≤ c := hs.2.1
            have hk0c : k0 ≤ c := Nat.le_trans hk0 hkc
            have hc63 : c ≤ 9223372036854775807 := by have := hs.2.2.1; unfold maxLen at this; omega
            have z0 : (0 : Int) ≤ (k0 : Int) := by omega
            have z1 : (k0 : Int) ≤ (c : Int) := by omega
            have z2 : (k0 : Int) ≤ (k : Int) := by omega
            have z3 : (k : Int) ≤ (c : Int) := by omega
            go_upto_region 15 with (fail)
            go_cut [8, 9] (fun s8 s9 wx => ∃ g8 g9, s8 = .pointer (some ⟨g8, 0, none⟩) ∧ s9 = .pointer (some ⟨g9, 0, none⟩) ∧ Bx wx g8 (mergeL (es.take k0)) ∧ Bx wx g9 (mergeL (es.drop k0)) ∧ Hd m w1.heap.size w wx)
            case first =>
              go_region_held3 (fun W => Hd m w1.heap.size w W) (((repeat' (first | (with_reducible exact hT) | (with_reducible refine Hd.drew ?_) | (with_reducible refine Hd.alloc ?_ _) | (with_reducible refine Hd.far ?_ ?_ ?_ _) | (with_reducible refine Hd.below ?_ (by with_reducible assumption)))); all_goals (have h3 := hB3.size; have h7 := hB7.size; simp at h3 h7; simp; omega)))
                (first
                  | ((with_reducible refine (merge_any _ _ _ _ _ (HTK.out _ (by assumption))).mono ?_); rintro e w3 ⟨rfl, hB3⟩; obtain ⟨hc3, hf3⟩ := bcell hB3; (try have zwrw3 : wr.heap.size < w3.heap.size := (by have h3 := hB3.size; simp at h3; omega)); (try have zwr_1w3 : wr.heap.size + 1 < w3.heap.size := (by have h3 := hB3.size; simp at h3; omega)); go_simp)
                  | ((with_reducible refine (merge_any _ _ _ _ _ (HC.out _ (by assumption))).mono ?_); rintro e w7 ⟨rfl, hB7⟩; obtain ⟨hc7, hf7⟩ := bcell hB7; (try have zwrw7 : wr.heap.size < w7.heap.size := (by have h3 := hB3.size; have h7 := hB7.size; simp at h3 h7; omega)); (try have zwr_1w7 : wr.heap.size + 1 < w7.heap.size := (by have h3 := hB3.size; have h7 := hB7.size; simp at h3 h7; omega)); (try have zw3w7 : w3.heap.size < w7.heap.size := (by have h7 := hB7.size; simp at h7; omega)); (try have zw3_1w7 : w3.heap.size + 1 < w7.heap.size := (by have h7 := hB7.size; simp at h7; omega)); (try have zwrp : wr.heap.size < w3.heap.size + 1 := (by have h3 := hB3.size; simp at h3; omega)); go_simp))
              all_goals
                simp only [Exit.then]
                refine (‹∀ (a' : Act) (w' : World), Met _ a' w' → _› _ _ ?_)
                go_meet
                refine ⟨_, _, rfl, rfl, ?_, ?_, ?_⟩
                rotate_left 2
                · (repeat' (first | (with_reducible exact hT) | (with_reducible refine Hd.drew ?_) | (with_reducible refine Hd.alloc ?_ _) | (with_reducible refine Hd.far ?_ ?_ ?_ _) | (with_reducible refine Hd.below ?_ (by with_reducible assumption)))); all_goals (have h3 := hB3.size; have h7 := hB7.size; simp at h3 h7; simp; omega)
                all_goals
                  (repeat' (first | (with_reducible exact Bx.new4 _ _) | (with_reducible exact Bx.zero _) | (with_reducible exact Bx.zero5 _ _) | (with_reducible exact Bx.new5 _ _ _) | ((with_reducible refine Bx.newAt ?_); (simp; done)) | (with_reducible refine Bx.put ?_) | (with_reducible refine Bx.far ?_ ?_ _) | (with_reducible refine Bx.alloc ?_ _) | (with_reducible refine Bx.drew ?_) | (with_reducible refine Bx.below ?_ (by with_reducible assumption) ?_)))
                  all_goals first | (simp; done) | (have h3 := hB3.size; have h7 := hB7.size; simp at h3 h7; (try simp); omega)
            case rest =>
              obtain ⟨g8, g9, rfl, rfl, h8, h9, hT2⟩ := hcut
              have hsc := (hs.below hT2.2).take hk0
              cases hq : (es.take k0).any rightB
              · have hrest : mergeL (es.drop k0) = m := (merge_rest es k0 hq).trans HM.out
                rw [hrest] at h9
                have S1 := hide (some1_any _ _ _ wc.heap.size _ wc (hsc.more hT2.2.size) (Nat.le_refl _))
                rw [hq] at S1
                have HQ := hide hq
                clear hrest hq hsc
                go_wp2_with fail
                refine S1.out.mono ?_
                rintro e w16 ⟨rfl, hB16⟩
                have x9 := h9.below hB16 h9.lt
                have x5 := hT2.1.below hB16 hT2.1.lt
                have hT3 := hT2.below hB16
                have a0 := x9.c0
                have a1 := x9.c1
                have a2 := x9.c2
                have a3 := x9.c3
                have b0 := x5.c0
                have b1 := x5.c1
                have b2 := x5.c2
                have b3 := x5.c3
                go_wp2_with (go_at_call 7; refine (wakes_any _).mono ?_; rintro e w17 ⟨rfl, hB17⟩)
                go_ret
                exact ⟨rfl, (hT3.below hB17).2⟩
              · have hhead : mergeL (mergeL (es.take k0) :: es.drop k0) = m := (merge_head es k0 hq).trans HM.out
                have htwice : mergeL [m, m] = m := HM.out ▸ merge_twice es HS.out
                have S1 := hide (some1_any _ _ _ wc.heap.size _ wc (hsc.more hT2.2.size) (Nat.le_refl _))
                rw [hq] at S1
                have HH := hide hhead
                have HW := hide htwice
                clear hhead htwice hq hsc
                go_wp2_with fail
                refine S1.out.mono ?_
                rintro e w16 ⟨rfl, hB16⟩
                have hT3 : Hd2 (mergeL (es.take k0)) g8 m w1.heap.size w w16 := ⟨h8.below hB16 h8.lt, hT2.below hB16⟩
                have HSE := hide (fun (W : World) (h : Hd2 (mergeL (es.take k0)) g8 m w1.heap.size w W) => ((hs.below h.2.2).cutIf hk0).more h.2.2.size)
                obtain ⟨hd, hhd⟩ : ∃ hd, mergeL (es.take k0) = hd := ⟨_, rfl⟩
                rw [hhd] at hT3 HSE HH
                clear hhd S1 h8 h9 hT2 hB16 HTK HC hT
                have hm60 : k - k0 ≤ 60 := by omega
                have hadr : ∃ b' off', (if c = k0 then some (⟨b, off, none⟩ : Addr) else some ⟨b, off + k0 * 4, none⟩) = some ⟨b', off', none⟩ := by
                  split
                  · exact ⟨_, _, rfl⟩
                  · exact ⟨_, _, rfl⟩
                obtain ⟨AD, hAD⟩ : ∃ AD, (if c = k0 then some (⟨b, off, none⟩ : Addr) else some ⟨b, off + k0 * 4, none⟩) = AD := ⟨_, rfl⟩
                rw [hAD] at HSE hadr
                have HAD := hide hAD
                clear hAD
                go_wp2_with fail
                refine region_as (R := M18) (by kernel_rfl) ?_
                refine wp_region_held_drew (S := Hd2 hd g8 m w1.heap.size w) (by kernel_rfl) ?_ (fun hHeld => ?_)
                · exact hT3.drewN 1
                refine listed_as (L := #[false, false, false, false, false, false, false, false, false, false, false, false, false, false, false, false, false, false, false, false, false]) (by kernel_rfl) ?_
                refine take_bare (i := 0) (some 101) (Go.Op.load 23 (Go.Operand.tmp 8)) 23 #[true, false, false, false, false, false, false, false, false, false, false, false, false, false, false, false, false, false, false, false, false] (v := (ev hd)) hHeld rfl (by kernel_rfl) (by kernel_rfl) (by kernel_rfl) (by kernel_rfl) M18_s M18_f0 M18_c0 (by kernel_rfl) (fun _ _ _ h => h) (fun W hS => run_load_bx (s := 8) (by kernel_rfl) (by kernel_rfl) hS.1) ?_
                try simp only [Act.put, List.setIfInBounds_toArray, List.set_cons_zero, List.set_cons_succ]
                refine take_bare (i := 7) (some 108) (Go.Op.load 23 (Go.Operand.tmp 5)) 23 #[true, false, false, false, false, false, false, true, false, false, false, false, false, false, false, false, false, false, false, false, false] (v := (ev m)) hHeld rfl (by kernel_rfl) (by kernel_rfl) (by kernel_rfl) (by kernel_rfl) M18_s M18_f7 M18_c7 (by kernel_rfl) (fun _ _ _ h => h) (fun W hS => run_load_bx (s := 5) (by kernel_rfl) (by kernel_rfl) hS.2.1) ?_
                try simp only [Act.put, List.setIfInBounds_toArray, List.set_cons_zero, List.set_cons_succ]
                refine take_bare (i := 2) (some 103) (Go.Op.move (Go.Operand.tmp 0)) 24 #[true, false, true, false, false, false, false, true, false, false, false, false, false, false, false, false, false, false, false, false, false] (v := ?_) hHeld rfl (by kernel_rfl) (by kernel_rfl) (by kernel_rfl) (by kernel_rfl) M18_s M18_f2 M18_c2 (by kernel_rfl) (fun _ _ _ h => h) ?hyr182_3 ?_
                case hyr182_3 => intro w hSw; clear hSw; go_simp; try with_reducible rfl
                try simp only [Act.put, List.setIfInBounds_toArray, List.set_cons_zero, List.set_cons_succ]
                refine take_bare (i := 3) (some 104) (Go.Op.move (Go.Operand.tmp 1)) 3 #[true, false, true, true, false, false, false, true, false, false, false, false, false, false, false, false, false, false, false, false, false] (v := ?_) hHeld rfl (by kernel_rfl) (by kernel_rfl) (by kernel_rfl) (by kernel_rfl) M18_s M18_f3 M18_c3 (by kernel_rfl) (fun _ _ _ h => h) ?hyr183_4 ?_
                case hyr183_4 => intro w hSw; clear hSw; go_simp; try with_reducible rfl
                try simp only [Act.put, List.setIfInBounds_toArray, List.set_cons_zero, List.set_cons_succ]
                refine take_bare (i := 4) (some 105) (Go.Op.slice 24 (Go.Operand.tmp 103) (some (Go.Operand.tmp 104)) none none) 24 #[true, false, true, true, true, false, false, true, false, false, false, false, false, false, false, false, false, false, false, false, false] (v := (.slice AD (k - k0) (c - k0))) hHeld rfl (by kernel_rfl) (by kernel_rfl) (by kernel_rfl) (by kernel_rfl) M18_s M18_f4 M18_c4 (by kernel_rfl) (fun _ _ _ h => h) (fun W hS => by go_simp; rw [HAD.out]) ?_
                try simp only [Act.put, List.setIfInBounds_toArray, List.set_cons_zero, List.set_cons_succ]
                refine step_bare (i := 1) (some 102) (Go.Op.buildSlice 24 1 #[(0, Go.Operand.tmp 101)]) 24 #[true, true, true, true, true, false, false, true, false, false, false, false, false, false, false, false, false, false, false, false, false] M18_r1 rfl (by kernel_rfl) (by kernel_rfl) (by kernel_rfl) (by kernel_rfl) (by kernel_rfl) (fun K hK => ?_)
                go_simp
                have hH1 := hHeld
                refine hK.out _ _ ?_ (fun hHeld => ?_)
                · exact hHeld.alloc _
                clear hK K
                try simp only [Act.put, List.setIfInBounds_toArray, List.set_cons_zero, List.set_cons_succ]
                refine step_bare (i := 5) (some 106) (Go.Op.call { callee := Go.Callee.builtin Go.Builtin.append, args := #[Go.Operand.tmp 102, Go.Operand.tmp 105], argTypes := #[24, 24] }) 24 #[true, true, true, true, true, true, false, true, false, false, false, false, false, false, false, false, false, false, false, false, false] M18_r5 rfl (by kernel_rfl) (by kernel_rfl) (by kernel_rfl) (by kernel_rfl) (by kernel_rfl) (fun K hK => ?_)
                refine wp_append_ents (.tmp 102) (.tmp 105) rfl hd w16.heap.size rfl (World.ownsRow_lit _ _ 1 (Nat.le_refl _) (by simp [maxLen]) rfl) AD (k - k0) (c - k0) _ (es.drop k0) rfl hadr (HSE.out _ hHeld) hm60 (by simp) ?_
                intro A5 c5 w5 hs5 hB5
                refine hK.out _ _ ?_ (fun hHeld => ?_)
                · exact hHeld.belowAt hB5 hH1.1.lt hH1.2.1.lt hH1.2.2.size
                clear hK K
                try simp only [Act.put, List.setIfInBounds_toArray, List.set_cons_zero, List.set_cons_succ]
                refine step_bare (i := 6) (some 107) (Go.Op.call { callee := Go.Callee.value (Go.Operand.func 12), args := #[Go.Operand.tmp 106], argTypes := #[24] }) 23 #[true, true, true, true, true, true, true, true, false, false, false, false, false, false, false, false, false, false, false, false, false] M18_r6 rfl (by kernel_rfl) (by kernel_rfl) (by kernel_rfl) (by kernel_rfl) (by kernel_rfl) (fun K hK => ?_)
                go_simp
                (with_reducible refine (merge_val _ _ _ (hd :: es.drop k0) (ev m) (congrArg ev HH.out) _ hs5).mono ?_)
                rintro e w6 ⟨rfl, hB6⟩
                go_simp
                refine hK.out _ _ ?_ (fun hHeld => ?_)
                · exact hHeld.below hB6
                clear hK K
                try simp only [Act.put, List.setIfInBounds_toArray, List.set_cons_zero, List.set_cons_succ]
                refine take_bare (i := 8) (some 109) (Go.Op.binOp Go.BinOp.eql 23 (Go.Operand.tmp 107) (Go.Operand.tmp 108) 23) 4 #[true, true, true, true, true, true, true, true, true, false, false, false, false, false, false, false, false, false, false, false, false] (v := ?_) hHeld rfl (by kernel_rfl) (by kernel_rfl) (by kernel_rfl) (by kernel_rfl) M18_s M18_f8 M18_c8 (by kernel_rfl) (fun _ _ _ h => h) ?hyr188_6 ?_
                case hyr188_6 => intro w hSw; clear hSw; go_simp; try with_reducible rfl
                try simp only [Act.put, List.setIfInBounds_toArray, List.set_cons_zero, List.set_cons_succ]
                refine take_bare (i := 9) (some 110) (Go.Op.move (Go.Operand.tmp 109)) 4 #[true, true, true, true, true, true, true, true, true, true, false, false, false, false, false, false, false, false, false, false, false] (v := ?_) hHeld rfl (by kernel_rfl) (by kernel_rfl) (by kernel_rfl) (by kernel_rfl) M18_s M18_f9 M18_c9 (by kernel_rfl) (fun _ _ _ h => h) ?hyr189_7 ?_
                case hyr189_7 => intro w hSw; clear hSw; go_simp; try with_reducible rfl
                try simp only [Act.put, List.setIfInBounds_toArray, List.set_cons_zero, List.set_cons_succ]
                refine take_bare (i := 10) (some 111) (Go.Op.load 23 (Go.Operand.tmp 5)) 23 #[true, true, true, true, true, true, true, true, true, true, true, false, false, false, false, false, false, false, false, false, false] (v := (ev m)) hHeld rfl (by kernel_rfl) (by kernel_rfl) (by kernel_rfl) (by kernel_rfl) M18_s M18_f10 M18_c10 (by kernel_rfl) (fun _ _ _ h => h) (fun W hS => run_load_bx (s := 5) (by kernel_rfl) (by kernel_rfl) hS.2.1) ?_
                try simp only [Act.put, List.setIfInBounds_toArray, List.set_cons_zero, List.set_cons_succ]
                refine take_bare (i := 11) (some 112) (Go.Op.load 23 (Go.Operand.tmp 5)) 23 #[true, true, true, true, true, true, true, true, true, true, true, true, false, false, false, false, false, false, false, false, false] (v := (ev m)) hHeld rfl (by kernel_rfl) (by kernel_rfl) (by kernel_rfl) (by kernel_rfl) M18_s M18_f11 M18_c11 (by kernel_rfl) (fun _ _ _ h => h) (fun W hS => run_load_bx (s := 5) (by kernel_rfl) (by kernel_rfl) hS.2.1) ?_
                try simp only [Act.put, List.setIfInBounds_toArray, List.set_cons_zero, List.set_cons_succ]
                refine take_bare (i := 14) (some 115) (Go.Op.load 23 (Go.Operand.tmp 5)) 23 #[true, true, true, true, true, true, true, true, true, true, true, true, false, false, true, false, false, false, false, false, false] (v := (ev m)) hHeld rfl (by kernel_rfl) (by kernel_rfl) (by kernel_rfl) (by kernel_rfl) M18_s M18_f14 M18_c14 (by kernel_rfl) (fun _ _ _ h => h) (fun W hS => run_load_bx (s := 5) (by kernel_rfl) (by kernel_rfl) hS.2.1) ?_
                try simp only [Act.put, List.setIfInBounds_toArray, List.set_cons_zero, List.set_cons_succ]
                refine step_bare (i := 12) (some 113) (Go.Op.buildSlice 24 2 #[(0, Go.Operand.tmp 111), (1, Go.Operand.tmp 112)]) 24 #[true, true, true, true, true, true, true, true, true, true, true, true, true, false, true, false, false, false, false, false, false] M18_r12 rfl (by kernel_rfl) (by kernel_rfl) (by kernel_rfl) (by kernel_rfl) (by kernel_rfl) (fun K hK => ?_)
                go_simp
                refine hK.out _ _ ?_ (fun hHeld => ?_)
                · exact hHeld.alloc _
                clear hK K
                try simp only [Act.put, List.setIfInBounds_toArray, List.set_cons_zero, List.set_cons_succ]
                refine step_bare (i := 13) (some 114) (Go.Op.call { callee := Go.Callee.value (Go.Operand.func 12), args := #[Go.Operand.tmp 113], argTypes := #[24] }) 23 #[true, true, true, true, true, true, true, true, true, true, true, true, true, true, true, false, false, false, false, false, false] M18_r13 rfl (by kernel_rfl) (by kernel_rfl) (by kernel_rfl) (by kernel_rfl) (by kernel_rfl) (fun K hK => ?_)
                go_simp
                (with_reducible refine (merge_val _ 2 2 [m, m] (ev m) (congrArg ev HW.out) _ ?_).mono ?_)
                · exact (Se.made _ _ 2 [m, m] _ rfl (by simp) rfl (by simp [maxLen])).more (by simp)
                rintro e w13 ⟨rfl, hB13⟩
                go_simp
                refine hK.out _ _ ?_ (fun hHeld => ?_)
                · exact hHeld.below hB13
                clear hK K
                try simp only [Act.put, List.setIfInBounds_toArray, List.set_cons_zero, List.set_cons_succ]
                refine take_bare (i := 15) (some 116) (Go.Op.binOp Go.BinOp.eql 23 (Go.Operand.tmp 114) (Go.Operand.tmp 115) 23) 4 #[true, true, true, true, true, true, true, true, true, true, true, true, true, true, true, true, false, false, false, false, false] (v := ?_) hHeld rfl (by kernel_rfl) (by kernel_rfl) (by kernel_rfl) (by kernel_rfl) M18_s M18_f15 M18_c15 (by kernel_rfl) (fun _ _ _ h => h) ?hyr1815_11 ?_
                case hyr1815_11 => intro w hSw; clear hSw; go_simp; try with_reducible rfl
                try simp only [Act.put, List.setIfInBounds_toArray, List.set_cons_zero, List.set_cons_succ]
                refine take_bare (i := 16) (some 117) (Go.Op.pick (Go.Operand.tmp 110) (Go.Operand.tmp 116) (Go.Operand.const (Go.Value.bool false))) 4 #[true, true, true, true, true, true, true, true, true, true, true, true, true, true, true, true, true, false, false, false, false] (v := ?_) hHeld rfl (by kernel_rfl) (by kernel_rfl) (by kernel_rfl) (by kernel_rfl) M18_s M18_f16 M18_c16 (by kernel_rfl) (fun _ _ _ h => h) ?hyr1816_12 ?_
                case hyr1816_12 => intro w hSw; clear hSw; go_simp; try with_reducible rfl
                try simp only [Act.put, List.setIfInBounds_toArray, List.set_cons_zero, List.set_cons_succ]
                refine take_bare (i := 17) (some 118) (Go.Op.move (Go.Operand.tmp 117)) 4 #[true, true, true, true, true, true, true, true, true, true, true, true, true, true, true, true, true, true, false, false, false] (v := ?_) hHeld rfl (by kernel_rfl) (by kernel_rfl) (by kernel_rfl) (by kernel_rfl) M18_s M18_f17 M18_c17 (by kernel_rfl) (fun _ _ _ h => h) ?hyr1817_13 ?_
                case hyr1817_13 => intro w hSw; clear hSw; go_simp; try with_reducible rfl
                try simp only [Act.put, List.setIfInBounds_toArray, List.set_cons_zero, List.set_cons_succ]
                refine step_bare (i := 18) (some 119) (Go.Op.call { callee := Go.Callee.value (Go.Operand.func 7), args := #[], argTypes := #[] }) 4 #[true, true, true, true, true, true, true, true, true, true, true, true, true, true, true, true, true, true, true, false, false] M18_r18 rfl (by kernel_rfl) (by kernel_rfl) (by kernel_rfl) (by kernel_rfl) (by kernel_rfl) (fun K hK => ?_)
                go_simp
                (with_reducible refine (wakes_any _).mono ?_)
                rintro e w18 ⟨rfl, hB18⟩
                go_simp
                refine hK.out _ _ ?_ (fun hHeld => ?_)
                · exact hHeld.below hB18
                clear hK K
                try simp only [Act.put, List.setIfInBounds_toArray, List.set_cons_zero, List.set_cons_succ]
                refine take_bare (i := 19) (some 120) (Go.Op.pick (Go.Operand.tmp 118) (Go.Operand.tmp 119) (Go.Operand.const (Go.Value.bool false))) 4 #[true, true, true, true, true, true, true, true, true, true, true, true, true, true, true, true, true, true, true, true, false] (v := ?_) hHeld rfl (by kernel_rfl) (by kernel_rfl) (by kernel_rfl) (by kernel_rfl) M18_s M18_f19 M18_c19 (by kernel_rfl) (fun _ _ _ h => h) ?hyr1819_14 ?_
                case hyr1819_14 => intro w hSw; clear hSw; go_simp; try with_reducible rfl
                try simp only [Act.put, List.setIfInBounds_toArray, List.set_cons_zero, List.set_cons_succ]
                refine take_bare (i := 20) (some 4) (Go.Op.assign (Go.Operand.tmp 120)) 4 #[true, true, true, true, true, true, true, true, true, true, true, true, true, true, true, true, true, true, true, true, true] (v := ?_) hHeld rfl (by kernel_rfl) (by kernel_rfl) (by kernel_rfl) (by kernel_rfl) M18_s M18_f20 M18_c20 (by kernel_rfl) (fun _ _ _ h => h) ?hyr1820_15 ?_
                case hyr1820_15 => intro w hSw; clear hSw; go_simp; try with_reducible rfl
                try simp only [Act.put, List.setIfInBounds_toArray, List.set_cons_zero, List.set_cons_succ]
                refine wpAnyH_done (by kernel_rfl) ?_ _
                try simp only [Act.put, List.setIfInBounds_toArray, List.set_cons_zero, List.set_cons_succ]
                go_wp2
                go_ret
                exact ⟨rfl, hHeld.2.2⟩
end Go.Proofs.Ytaeffklmlllimaa
