/-
  The walk of member.Right: a range over a function in a loop, left by a goto.
-/
import Derived.Test.YtigpdkbfailadaaRows
import Derived.Test.YtigpdkbfailadaaAppend
import Derived.Test.YtigpdkbfailadaaTail
import Derived.Shelf.Abstract
import Derived.Shelf.RegionOpen
import Derived.WalkKit
import Derived.OwnWalkIn
import Derived.TacticsInMore
import Derived.LoopNIn
import Derived.LoopIn
import Derived.WalkMore
import Derived.ScopeJumps
import Derived.Lib.Hide
import Derived.WalkSpells
import Derived.WalkLawsBesides
import Derived.Deep.QuietTactic
import Derived.BigQuiet
import Derived.Laws.Rows
import Derived.Test.YtigpdkbfailadaaMems
import Derived.Test.YtigpdkbfailadaaThose
namespace Go.Proofs.Ytigpdkbfailadaa
open Go Go.RowKit Go.Shelf
set_option linter.unusedSimpArgs false
set_option linter.unusedVariables false
attribute [local go_sem] Oper.semAt_some

/-- The marks of loops that are through. -/
def mk (D : Nat) : Deferred := { target := .collected D, args := #[] }
def Marked (n0 : Nat) (ds : List Deferred) (W : World) : Prop := ∃ l : List Nat, ds = l.map mk ∧ l.Nodup ∧ ∀ D ∈ l, n0 ≤ D ∧ W.heap[D]? = some (.deferred (some []))

theorem Marked.below {n0 : Nat} {ds : List Deferred} {W W' : World} (h : Marked n0 ds W) (hB : Below W.heap.size W W') : Marked n0 ds W' := by
  obtain ⟨l, rfl, hn, hl⟩ := h
  exact ⟨l, rfl, hn, fun D hD => ⟨(hl D hD).1, (hB.block D (Array.getElem?_eq_some_iff.1 (hl D hD).2).1).trans (hl D hD).2⟩⟩
theorem Marked.push {n0 : Nat} {ds : List Deferred} {W W' : World} (h : Marked n0 ds W) (hB : Below W.heap.size W W') {D : Nat} (hD : W.heap.size ≤ D) (hn0 : n0 ≤ D) (hK : W'.heap[D]? = some (.deferred (some []))) : Marked n0 (mk D :: ds) W' := by
  obtain ⟨l, rfl, hn, hl⟩ := h
  refine ⟨D :: l, rfl, List.nodup_cons.2 ⟨fun hm => ?_, hn⟩, fun D' hD' => ?_⟩
  · have := (Array.getElem?_eq_some_iff.1 (hl D hm).2).1
    omega
  · rcases List.mem_cons.1 hD' with rfl | hm
    · exact ⟨hn0, hK⟩
    · exact ⟨(hl D' hm).1, (hB.block D' (Array.getElem?_eq_some_iff.1 (hl D' hm).2).1).trans (hl D' hm).2⟩

/-- Leaving a function that has such marks. -/
theorem leave_marked {fn : Func} {ts : Array Value} {v : Value} {w : World} (hres : ∀ W : World, (results fn ts).run Try.prog W = .ok v W) : ∀ (l : List Nat) (W : World), l.Nodup → (∀ D ∈ l, w.heap.size ≤ D ∧ W.heap[D]? = some (.deferred (some []))) → Below w.heap.size w W →
    LeavesInM Fence.wide 10 Try.prog fn ts (fun e W' => e = .returned v ∧ Below w.heap.size w W') (l.map mk) .returning W
  | [], W, _, _, hB => ⟨v, hres W, rfl, hB⟩
  | D :: l, W, hn, hl, hB => by
    obtain ⟨h1, h2⟩ := List.nodup_cons.1 hn
    have hK := (hl D (by simp)).2
    refine ⟨by simp, .inl ⟨D, _, rfl, run_takeDeferred hK, ?_⟩⟩
    refine leave_marked hres l _ h2 (fun D' hD' => ⟨(hl D' (by simp [hD'])).1, ?_⟩) (hB.trans (belowK_b (w := w) (Nat.le_refl _) W D _ _ (hl D (by simp)).1 hK rfl rfl))
    exact (World.putObj_heap_other (fun e => h1 (by rw [← e]; exact hD'))).trans (hl D' (by simp [hD'])).2

theorem rightM_no {m : Mm} {i : Nat} (hi : i < 9) (h : okAt i (m i) = false) : rightM m = false := by
  unfold rightM
  rw [List.all_eq_false]
  exact ⟨i, List.mem_range.2 hi, by simp [h]⟩

def RightJm (m : Mm) (w : World) (a' : Act) (W : World) : Prop := a'.tmps.size = 27 ∧ rightM m = false ∧ Below w.heap.size w W ∧ Marked w.heap.size a'.defers W

set_option maxRecDepth 100000 in
set_option maxHeartbeats 2000000 in
theorem right_any (m : Mm) (w : World) : Calls Try.prog 17 #[mv m] w fun e W' => e = .returned (.bool (rightM m)) ∧ Below w.heap.size w W' := by
  refine (callsIn_wide (n := 10)).1 ?_
  refine callsIn_of_wp_marks Try.func17 rfl trivial ?_ rfl
  simp only [Try.ntmps17, List.size_toArray, List.length_cons, List.length_nil, Nat.reduceAdd, Nat.reduceSub, Array.replicate_succ, Array.replicate_zero, List.push_toArray, List.append_toArray, List.nil_append, List.cons_append]
  refine wpIn_wide.2 ?_
  have i0 : ∀ w : World, (Instr.index 53 (.agg #[.int .u8 1, .int .u8 2]) (.int .i64 0)).run Try.prog w = .ok (.int .u8 1) w := fun _ => by kernel_rfl
  have i1 : ∀ w : World, (Instr.index 53 (.agg #[.int .u8 1, .int .u8 2]) (.int .i64 1)).run Try.prog w = .ok (.int .u8 2) w := fun _ => by kernel_rfl
  go_wp2
  refine wp_scope_jumps 0 (RightJm m w) (fun _ _ => 0) rfl ?_ ?_
  · go_wp2
    go_outline
    refine wp_loop (fun a W => ∃ (k : Nat) (i u4 u6 u9 u10 u11 u12 u13 u14 u15 u16 u17 u18 u19 u20 u21 u22 u23 u24 u25 u26 : Value) (ds : List Deferred), k ≤ 2 ∧ i = .int .i64 (k : Int) ∧ a = { tmps := #[mv m, .pointer (some ⟨w.heap.size, 0, none⟩), .bool false, undef, u4, undef, u6, .agg #[.int .u8 1, .int .u8 2], i, u9, u10, u11, u12, u13, u14, u15, u16, u17, u18, u19, u20, u21, u22, u23, u24, u25, u26], defers := ds } ∧ Marked w.heap.size ds W ∧ Mx W w.heap.size m ∧ Below w.heap.size w W ∧ (1 ≤ k → ∀ j, j < 3 → okAt (6 + j) (m (6 + j)) = true) ∧ (2 ≤ k → ∀ j, j < 6 → okAt j (m j) = true)) (fun a _ => 2 - (intOf (a.tmps.getD 8 undef)).toNat) ?start ?round
    case start => exact ⟨0, _, undef, undef, undef, undef, undef, undef, undef, undef, undef, undef, undef, undef, undef, undef, undef, undef, undef, undef, undef, undef, [], by omega, rfl, rfl, ⟨[], rfl, List.nodup_nil, fun D h => by cases h⟩, Mx.new w m, (Below.refl _ w).alloc (Nat.le_refl _) _, fun h => by omega, fun h => by omega⟩
    case round =>
      rintro a W ⟨k, _, u4, u6, u9, u10, u11, u12, u13, u14, u15, u16, u17, u18, u19, u20, u21, u22, u23, u24, u25, u26, ds, hk, rfl, rfl, hM, hm, hB, hr1, hr2⟩
      have H1 := hide hr1
      have H2 := hide hr2
      clear hr1 hr2
      by_cases hlt : k < 2
      · obtain ⟨kd, lo, cn, hkd, hlo, hcn, hix, hlc⟩ : ∃ (kd : Int) (lo cn : Nat), kd = (k : Int) + 1 ∧ loOf kd = lo ∧ cntOf kd = cn ∧ (∀ w : World, (Instr.index 53 (.agg #[.int .u8 1, .int .u8 2]) (.int .i64 k)).run Try.prog w = .ok (.int .u8 kd) w) ∧ ((k = 0 ∧ lo = 6 ∧ cn = 3) ∨ (k = 1 ∧ lo = 0 ∧ cn = 6)) := by
          rcases (show k = 0 ∨ k = 1 by omega) with rfl | rfl
          · exact ⟨1, 6, 3, rfl, rfl, rfl, i0, .inl ⟨rfl, rfl, rfl⟩⟩
          · exact ⟨2, 0, 6, rfl, rfl, rfl, i1, .inr ⟨rfl, rfl, rfl⟩⟩
        have HK := hide hkd
        have HLO := hide hlo
        have HCN := hide hcn
        have HLC := hide hlc
        have hlc9 : lo + cn ≤ 9 := by omega
        clear hkd hlo hcn hlc i0 i1
        have hk0 : (0 : Int) ≤ (k : Int) := by omega
        have hk2 : (k : Int) < 2 := by omega
        obtain ⟨c0, c1, c2, c3, c4, c5, c6, c7, c8⟩ := hm.cs
        have hgl := hm.lt
        go_wp2_with (go_at_call 33; refine (states_any m kd _).mono ?_; rintro e w1 ⟨rfl, hm1, hb1, hB1⟩)
        have hbk : Boxed w1 W.heap.size 5 (.int .u8 kd) := (hB1.block W.heap.size (by simp)).trans (Boxed.new W 5 _)
        rw [HLO.out, HCN.out] at hb1
        simp only [World.size_alloc, Nat.add_assoc, Nat.reduceAdd] at hm1 hb1 hB1
        have hB2 : Below W.heap.size W w1 := ((Below.refl _ W).alloc (Nat.le_refl _) _).trans (hB1.mono (by omega))
        have hlt1 := hb1.lt
        obtain ⟨G, hG⟩ : ∃ G, W.heap.size = G := ⟨_, rfl⟩
        rw [hG] at hm1 hb1 hbk hB1 hlt1
        simp only [hG, Nat.add_assoc, Nat.reduceAdd]
        have HG := hide hG
        clear c0 c1 c2 c3 c4 c5 c6 c7 c8 hG hix
        refine (wpIn_wide (n := 10)).1 ?_
        refine wpIn_rangeFunc_B rfl (by omega) (gf := 37) (lb := #[.pointer (some ⟨G + 2, 0, none⟩)]) rfl trivial (enters_of Try.func37 (by kernel_rfl) rfl)
          (row := none) (fun r e => by cases e)
          (states_stops (G + 2) (G + 1) lo cn m hlc9 w1 hb1 hm1)
          Keep2.trans (Keep2.put (by omega) (by omega)) (Below.refl _ _) (fun _ => rfl)
          (fun pre W' => (∀ j, j < pre.length → okAt (lo + j) (m (lo + j)) = true) ∧ Below w1.heap.size w1 W')
          (fun c pre W' => c = .goto 0 ∧ rightM m = false ∧ Below w1.heap.size w1 W')
          (fun s X Y row hs hg hr => ⟨hs.1, hs.2.grown hg hs.2.size (fun k e => by have := (hr k e).1; omega)⟩)
          (fun c s X Y row hs hg hr => ⟨hs.1, hs.2.1, hs.2.2.grown hg hs.2.2.size (fun k e => by have := (hr k e).1; omega)⟩)
          (fun s X Y hs hg => ⟨hs.1, hs.2.grown hg hs.2.size (fun k e => by cases e)⟩)
          (fun c s X Y hs hg => ⟨hs.1, hs.2.1, hs.2.2.grown hg hs.2.2.size (fun k e => by cases e)⟩)
          ⟨fun j h => (by simp at h), Below.refl _ _⟩
          (fun x => { tmps := #[mv m, .pointer (some ⟨w.heap.size, 0, none⟩), .bool false, undef, .pointer (some ⟨G, 0, none⟩), undef, u8v x.2, .agg #[.int .u8 1, .int .u8 2], .int .i64 k, .bool true, .int .u8 kd, mv m, .int .u8 kd, .func (.func 37) #[] #[.pointer (some ⟨G + 2, 0, none⟩)], .int .i64 (x.1 : Int), u8v x.2, u16, u17, u18, u19, u20, u21, u22, u23, u24, u25, u26], defers := [] }) ?assign ?body ?done ?stop
        case assign =>
          intro l x W K hK
          gi_wp2
          exact hK
        case body =>
          rintro l pre x W' ⟨hok, hBB⟩ ⟨hlt3, hpre, rfl⟩
          have hck := Boxed.cell (show Boxed W' G 5 (.int .u8 kd) from (hBB.block G (by omega)).trans hbk)
          obtain ⟨j, hj⟩ : ∃ j, pre.length = j := ⟨_, rfl⟩
          rw [hj] at hlt3 hok ⊢
          have HJ := hide hj
          clear hj hpre
          have HN := hide (show ∀ s, (pre ++ [(j, s)]).length = j + 1 from fun s => by rw [List.length_append, HJ.out]; rfl)
          have HO := hide hok
          obtain ⟨s, hs⟩ : ∃ s, m (lo + j) = s := ⟨_, rfl⟩
          rw [hs]
          have HS := hide hs
          have hcase : (4 ≤ s ∧ okAt (lo + j) s = false) ∨ (s < 4 ∧ s = 2 ∧ kd = 1 ∧ okAt (lo + j) s = false) ∨ (s < 4 ∧ s = 2 ∧ kd ≠ 1 ∧ okAt (lo + j) s = true) ∨ (s < 4 ∧ s ≠ 2 ∧ okAt (lo + j) s = true) := by
            have hk := HK.out
            have hc := HLC.out
            unfold okAt
            by_cases h4 : s < 4
            · by_cases h2 : s = 2
              · rcases hc with ⟨rfl, rfl, rfl⟩ | ⟨rfl, rfl, rfl⟩
                · refine .inr (.inl ⟨h4, h2, by omega, ?_⟩)
                  simp [h2]
                · refine .inr (.inr (.inl ⟨h4, h2, by omega, ?_⟩))
                  have : j < 6 := hlt3
                  simp [h2, this]
              · refine .inr (.inr (.inr ⟨h4, h2, ?_⟩))
                simp [h4, h2]
            · refine .inl ⟨by omega, ?_⟩
              simp [h4]
          have hyes : okAt (lo + j) s = true → ∀ i, i < j + 1 → okAt (lo + i) (m (lo + i)) = true := by
            intro h i hi
            rcases Nat.lt_or_ge i j with hij | hij
            · exact HO.out i hij
            · obtain rfl : i = j := by omega
              rw [HS.out]
              exact h
          have hnot : okAt (lo + j) s = false → rightM m = false := fun h => rightM_no (i := lo + j) (by omega) (by rw [HS.out]; exact h)
          have HY := hide hyes
          have HT := hide hnot
          clear hyes hnot hok hs
          rcases hcase with ⟨h4, ho⟩ | ⟨h4, rfl, rfl, ho⟩ | ⟨h4, rfl, hk1, ho⟩ | ⟨h4, h2, ho⟩
          · have HOk := hide ho
            have h4' : ¬ s < 4 := by omega
            clear ho
            gi_wp2
            refine wpIn_goto ?_
            simp only [Exit.inBlock, Exit.then]
            exact ⟨(KeepsOthers.refl _).from _, rfl, HT.out HOk.out, hBB⟩
          · have HOk := hide ho
            clear ho
            gi_wp2
            refine wpIn_goto ?_
            simp only [Exit.inBlock, Exit.then]
            exact ⟨(KeepsOthers.refl _).from _, rfl, HT.out HOk.out, hBB⟩
          · have e1 : (kd == 1) = false := by simp [hk1]
            have HOk := hide ho
            clear ho hk1
            gi_wp2
            refine ⟨(KeepsOthers.refl _).from _, Keep2.refl _ _ _, ?_, hBB⟩
            rw [HN.out]
            exact HY.out HOk.out
          · have e2 : (s == 2) = false := by simp [h2]
            have HOk := hide ho
            clear ho h2
            gi_wp2
            refine ⟨(KeepsOthers.refl _).from _, Keep2.refl _ _ _, ?_, hBB⟩
            rw [HN.out]
            exact HY.out HOk.out
        case done =>
          rintro D ys W' hD rfl ⟨hok, hBB⟩ hK
          have hok' := hide hok
          have hMD : Marked w.heap.size (mk D :: ds) W' := hM.push (hB2.trans (hBB.mono (by rw [HG.out]; omega))) (by rw [HG.out]; omega) (by have := hB.size; have := HG.out; omega) hK
          have hmD : Mx W' w.heap.size m := hm.below (hB2.trans (hBB.mono (by rw [HG.out]; omega))) hgl
          have hBD : Below w.heap.size w W' := hB.trans ((hB2.trans (hBB.mono (by rw [HG.out]; omega))).mono hB.size)
          clear hok
          go_wp2
          refine ⟨⟨k + 1, _, _, _, _, _, _, _, _, _, _, _, _, _, _, _, _, _, _, _, _, _, mk D :: ds, by omega, by go_num, rfl, hMD, hmD, hBD, fun _ => ?_, fun _ => ?_⟩, ?_⟩
          · intro j hj
            rcases HLC.out with ⟨rfl, rfl, rfl⟩ | ⟨rfl, rfl, rfl⟩
            · exact hok'.out j (by rw [st_length]; exact hj)
            · exact H1.out (by omega) j hj
          · intro j hj
            rcases HLC.out with ⟨rfl, rfl, rfl⟩ | ⟨rfl, rfl, rfl⟩
            · omega
            · have := hok'.out j (by rw [st_length]; exact hj)
              rwa [Nat.zero_add] at this
          · simp [intOf]; omega
        case stop =>
          rintro D c pre W' hD _ ⟨rfl, hr, hBB⟩ hK
          have hMD : Marked w.heap.size (mk D :: ds) W' := hM.push (hB2.trans (hBB.mono (by rw [HG.out]; omega))) (by rw [HG.out]; omega) (by have := hB.size; have := HG.out; omega) hK
          have hBD : Below w.heap.size w W' := hB.trans ((hB2.trans (hBB.mono (by rw [HG.out]; omega))).mono hB.size)
          have HR := hide hr
          clear hr
          refine wpIn_goto ?_
          simp only [Exit.inBlock, Exit.then, Exit.jump]
          exact And.intro rfl ⟨rfl, HR.out, hBD, hMD⟩
      · obtain rfl : k = 2 := by omega
        have hall : rightM m = true := by
          unfold rightM
          rw [List.all_eq_true]
          intro i hi
          rw [List.mem_range] at hi
          rcases Nat.lt_or_ge i 6 with h | h
          · exact H2.out (by omega) i h
          · have := H1.out (by omega) (i - 6) (by omega)
            rwa [show 6 + (i - 6) = i by omega] at this
        have HA := hide hall
        clear hall
        go_wp2
        simp only [Exit.jump]
        obtain ⟨l, rfl, hnd, hl⟩ := hM
        have h : ∀ ts : Array Value, ts.getD 2 undef = .bool true → LeavesInM Fence.wide 10 Try.prog Try.f17 ts (fun e W' => e = .returned (.bool (rightM m)) ∧ Below w.heap.size w W') (l.map mk) .returning W := fun ts hts => by
          rw [HA.out]
          exact leave_marked (fun W => by rw [← hts]; exact results_tmp rfl _ _ _) l W hnd hl hB
        exact h _ rfl
  · rintro ⟨ts, ds⟩ W ⟨hsz, hr, hB, hM⟩
    simp only at hsz hM
    have HR := hide hr
    clear hr
    go_wp2
    simp only [Exit.jump]
    obtain ⟨l, rfl, hnd, hl⟩ := hM
    have h : ∀ ts : Array Value, ts.getD 2 undef = .bool false → LeavesInM Fence.wide 10 Try.prog Try.f17 ts (fun e W' => e = .returned (.bool (rightM m)) ∧ Below w.heap.size w W') (l.map mk) .returning W := fun ts hts => by
      rw [HR.out]
      exact leave_marked (fun W => by rw [← hts]; exact results_tmp rfl _ _ _) l W hnd hl hB
    exact h _ (by simp [hsz])
end Go.Proofs.Ytigpdkbfailadaa
