/-
  The walks of the two Holders, and of the document's Ints.
-/
import Derived.Test.YtaeffklmlllimaaRows
import Derived.Test.YtaeffklmlllimaaAppend
import Derived.Test.YtaeffklmlllimaaTail
import Derived.Shelf.Abstract
import Derived.Shelf.RegionOpen
import Derived.WalkKit
import Derived.OwnWalkIn
import Derived.TacticsInMore
import Derived.LoopNIn
import Derived.LoopIn
import Derived.WalkMore
import Derived.ScopeJumps
import Derived.Lib.Hide
import Derived.WalkSpells
import Derived.WalkLawsBesides
import Derived.Deep.QuietTactic
import Derived.BigQuiet
import Derived.Laws.Rows
import Derived.Test.YtaeffklmlllimaaRefMerge
namespace Go.Proofs.Ytaeffklmlllimaa
open Go Go.RowKit Go.Shelf
attribute [local go_sem] Oper.semAt_some

abbrev vi (x : Int) : Value := .int .i64 x
/-- Who holds. -/
def firstH (e : Ent) : List Int := if e.cur = -1 then [] else [e.cur]
def holdersL (e : Ent) : List Int := firstH e ++ if e.prev = -1 then [] else [e.prev]
theorem infoI64 : (Try.prog.info? 3).map (fun i => (i.zero, i.size, i.bytes)) = some (some (.int .i64 0), 1, 8) := by kernel_rfl
theorem holdersL_le (e : Ent) : (holdersL e).length ≤ 2 := by unfold holdersL firstH; split <;> split <;> simp

theorem ownBlock_ge {W : World} {base n : Nat} {e : TypeId} {v : Value} {xs : List Value} (h : W.ownsRow base e 1 v n xs) : ∀ k, v.ownBlock = some k → base ≤ k := by
  intro k hk
  rcases h.2 with ⟨rfl, rfl⟩ | ⟨g, cap, cur, rfl, _, hgb, _⟩
  · simp [Value.ownBlock] at hk
  · have : g = k := by simpa [Value.ownBlock] using hk
    omega

/-- append of one number, laid as a literal, onto a row of the call's own. -/
theorem wpList_append_one {W : World} {ops : Array Oper} {rest : List Oper} {o : Oper} {a : Act} {Q : Exit → Act → World → Prop} (y : Int) (base n g : Nat) (xs : List Value) (v : Value) (s x : Operand) (hgd : o.guard = none)
    (ho : o.op = .call { callee := .builtin .append, args := #[s, x], argTypes := #[31, 31] }) (_hot : o.type = 31) (hs : a.eval s = v) (hg : W.heap.size = g) (hx : a.eval x = .slice (some ⟨g, 0, none⟩) 1 1)
    (hown : W.ownsRow base 3 1 v n xs) (hn : n ≤ 1000) (hbase : base ≤ W.heap.size)
    (h : ∀ v' w', w'.ownsRow base 3 1 v' (n + 1) (xs ++ [vi y]) → Below base W w' → wpList Try.prog ops Q rest (a.put o.dst v') w') :
    wpList Try.prog ops Q (o :: rest) a (W.alloc (.cells #[.int .i64 y] 3)) := by
  obtain ⟨i0, hi, hz0, hz1, hz2⟩ := info_parts infoI64
  subst hg
  refine wpList_append_sl _ hgd s x 31 ho base 3 i0 (.int .i64 0) 8 Try.underlying31 hi hz0 hz1 hz2 rfl v n xs hs (hown.alloc _) (W.heap.size + 1) (some ⟨W.heap.size, 0, none⟩) 1 1 [vi y] hx
    (Sl.made' W _ _ [vi y] 3 rfl rfl (by simp [maxLen])) (by intro u hu; simp at hu; subst hu; rfl) (by unfold maxLen; omega) (by omega) (by simp; omega) ?_
  intro v' w' hown' hg' _
  exact h v' w' hown' (((Below.refl base W).alloc hbase _).grown hg' (by simp; omega) (ownBlock_ge hown))

set_option maxHeartbeats 1000000 in
theorem refHolders_any (a : Ent) (w : World) : Calls Try.prog 18 #[ev a] w fun e W' => (∃ A' c', e = .returned (.slice A' (holdersL a).length c') ∧ Sl W' W'.heap.size A' (holdersL a).length c' ((holdersL a).map vi)) ∧ Below w.heap.size w W' := by
  go_enter Try.func18, Try.ntmps18
  have hB0 : Below w.heap.size w (w.alloc (.cells #[.int .i64 a.cur, .int .i64 a.prev, .int .i64 a.gen, .int .i64 a.tick] 23)) := (Below.refl _ w).alloc (Nat.le_refl _) _
  have hx0 : Bx (w.alloc (.cells #[.int .i64 a.cur, .int .i64 a.prev, .int .i64 a.gen, .int .i64 a.tick] 23)) w.heap.size a := Bx.new w _ _ _ _
  have hz0 : (w.alloc (.cells #[.int .i64 a.cur, .int .i64 a.prev, .int .i64 a.gen, .int .i64 a.tick] 23)).heap.size = w.heap.size + 1 := by simp
  by_cases h1 : a.cur = -1 <;> by_cases h2 : a.prev = -1
  · have e1 : (a.cur != -1) = false := by simp [h1]
    have e2 : (a.prev != -1) = false := by simp [h2]
    have hL : holdersL a = [] := by unfold holdersL firstH; simp [h1, h2]
    rw [hL]
    clear h1 h2 hL
    go_wp2
    go_ret
    exact ⟨⟨_, _, rfl, Sl.nil _ _⟩, hB0⟩
  · have e1 : (a.cur != -1) = false := by simp [h1]
    have e2 : (a.prev != -1) = true := by simp [h2]
    have hL : holdersL a = [a.prev] := by unfold holdersL firstH; simp [h1, h2]
    rw [hL]
    clear h1 h2 hL
    go_wp2_with (at_builtin; refine wpList_append_one a.prev (w.heap.size + 1) 0 (w.heap.size + 1) [] (.slice none 0 0) (.tmp 15) (.tmp 18) rfl rfl rfl rfl (World.size_alloc _ _) rfl (World.ownsRow_nil _ _ _ _) (by omega) (by simp) ?_; intro v1 w1 hown1 hB1)
    go_ret
    obtain ⟨A1, c1, rfl, hs1⟩ := Sl.own hown1
    exact ⟨⟨_, _, rfl, hs1⟩, hB0.trans (hB1.mono (by omega))⟩
  · have e1 : (a.cur != -1) = true := by simp [h1]
    have e2 : (a.prev != -1) = false := by simp [h2]
    have hL : holdersL a = [a.cur] := by unfold holdersL firstH; simp [h1, h2]
    rw [hL]
    clear h1 h2 hL
    go_wp2_with (at_builtin; refine wpList_append_one a.cur (w.heap.size + 1) 0 (w.heap.size + 1) [] (.slice none 0 0) (.tmp 7) (.tmp 10) rfl rfl rfl rfl (World.size_alloc _ _) rfl (World.ownsRow_nil _ _ _ _) (by omega) (by simp) ?_; intro v1 w1 hown1 hB1; have hb1 : Bx w1 w.heap.size a := hx0.below hB1 (by omega); have c0 := hb1.c0; have c1 := hb1.c1)
    go_ret
    obtain ⟨A1, c1, rfl, hs1⟩ := Sl.own hown1
    exact ⟨⟨_, _, rfl, hs1⟩, hB0.trans (hB1.mono (by omega))⟩
  · have e1 : (a.cur != -1) = true := by simp [h1]
    have e2 : (a.prev != -1) = true := by simp [h2]
    have hL : holdersL a = [a.cur, a.prev] := by unfold holdersL firstH; simp [h1, h2]
    rw [hL]
    clear h1 h2 hL
    go_wp2_with (at_builtin; first | (refine wpList_append_one a.cur (w.heap.size + 1) 0 (w.heap.size + 1) [] (.slice none 0 0) (.tmp 7) (.tmp 10) rfl rfl rfl rfl (World.size_alloc _ _) rfl (World.ownsRow_nil _ _ _ _) (by omega) (by simp) ?_; intro v1 w1 hown1 hB1; have hb1 : Bx w1 w.heap.size a := hx0.below hB1 (by omega); have c0 := hb1.c0; have c1 := hb1.c1) | (refine wpList_append_one a.prev (w.heap.size + 1) 1 w1.heap.size [vi a.cur] v1 (.tmp 15) (.tmp 18) rfl rfl rfl rfl rfl rfl hown1 (by omega) (by have := hB1.size; omega) ?_; intro v2 w2 hown2 hB2))
    go_ret
    obtain ⟨A1, c1, rfl, hs1⟩ := Sl.own hown2
    exact ⟨⟨_, _, rfl, hs1⟩, hB0.trans ((hB1.trans hB2).mono (by omega))⟩

set_option maxHeartbeats 2000000 in
theorem holders_any (a : Ent) (w : World) : Calls Try.prog 17 #[ev a] w fun e W' => (∃ A' c', e = .returned (.slice A' (holdersL a).length c') ∧ Sl W' W'.heap.size A' (holdersL a).length c' ((holdersL a).map vi)) ∧ Below w.heap.size w W' := by
  go_enter Try.func17, Try.ntmps17
  have hB0 : Below w.heap.size w (w.alloc (.cells #[.int .i64 a.cur, .int .i64 a.prev, .int .i64 a.gen, .int .i64 a.tick] 23)) := (Below.refl _ w).alloc (Nat.le_refl _) _
  have hz0 : (w.alloc (.cells #[.int .i64 a.cur, .int .i64 a.prev, .int .i64 a.gen, .int .i64 a.tick] 23)).heap.size = w.heap.size + 1 := by simp
  have i0 : ∀ w : World, (Instr.index 42 (.agg #[.int .i64 a.cur, .int .i64 a.prev]) (.int .i64 0)).run Try.prog w = .ok (.int .i64 a.cur) w := fun _ => by kernel_rfl
  have i1 : ∀ w : World, (Instr.index 42 (.agg #[.int .i64 a.cur, .int .i64 a.prev]) (.int .i64 1)).run Try.prog w = .ok (.int .i64 a.prev) w := fun _ => by kernel_rfl
  go_wp2
  go_loopw [2, 4, 10] (fun v i m wr => ∃ (k : Nat) (xs : List Int), k ≤ 2 ∧ m = .int .i64 k ∧ xs = (if k = 0 then [] else if k = 1 then firstH a else holdersL a) ∧ wr.ownsRow (w.heap.size + 1) 3 1 v xs.length (xs.map vi) ∧ Below w.heap.size w wr ∧ w.heap.size + 1 ≤ wr.heap.size) (fun _ _ m _ => 2 - (intOf m).toNat)
  case atStart => exact ⟨0, [], by omega, rfl, rfl, World.ownsRow_nil _ _ _ _, hB0, by omega⟩
  case round =>
    obtain ⟨k, xs, hk, rfl, hxs, hown, hB, hsz⟩ := hrel
    have HX := hide hxs
    clear hxs
    rcases Nat.lt_or_ge k 2 with hlt | hge
    · have hxl : xs.length ≤ 1 := by
        rw [HX.out]
        rcases (show k = 0 ∨ k = 1 by omega) with rfl | rfl
        · simp
        · simp [firstH]; split <;> simp
      rcases (show k = 0 ∨ k = 1 by omega) with rfl | rfl
      · by_cases h1 : a.cur = -1
        · have e1 : (a.cur != -1) = false := by simp [h1]
          have hF : firstH a = xs := by rw [HX.out]; unfold firstH; simp [h1]
          have HF := hide hF
          clear h1 hF
          go_wp2
          refine ⟨⟨1, xs, by omega, by go_num, by simp [HF.out], hown, hB, hsz⟩, by simp [intOf]⟩
        · have e1 : (a.cur != -1) = true := by simp [h1]
          have hF : firstH a = xs ++ [a.cur] := by rw [HX.out]; unfold firstH; simp [h1]
          have HF := hide hF
          clear h1 hF
          go_wp2_with (at_builtin; refine wpList_append_one a.cur (w.heap.size + 1) xs.length wr.heap.size (xs.map vi) u2 (.tmp 15) (.tmp 17) rfl rfl rfl rfl rfl rfl hown (by omega) (by omega) ?_; intro v1 w1 hown1 hB1)
          refine ⟨⟨1, xs ++ [a.cur], by omega, by go_num, by simp [HF.out], by simpa using hown1, hB.trans (hB1.mono (by omega)), by have := hB1.size; omega⟩, by simp [intOf]⟩
      · by_cases h1 : a.prev = -1
        · have e1 : (a.prev != -1) = false := by simp [h1]
          have hF : holdersL a = xs := by rw [HX.out]; unfold holdersL; simp [h1]
          have HF := hide hF
          clear h1 hF
          go_wp2
          refine ⟨⟨2, xs, by omega, by go_num, by simp [HF.out], hown, hB, hsz⟩, by simp [intOf]⟩
        · have e1 : (a.prev != -1) = true := by simp [h1]
          have hF : holdersL a = xs ++ [a.prev] := by rw [HX.out]; unfold holdersL; simp [h1]
          have HF := hide hF
          clear h1 hF
          go_wp2_with (at_builtin; refine wpList_append_one a.prev (w.heap.size + 1) xs.length wr.heap.size (xs.map vi) u2 (.tmp 15) (.tmp 17) rfl rfl rfl rfl rfl rfl hown (by omega) (by omega) ?_; intro v1 w1 hown1 hB1)
          refine ⟨⟨2, xs ++ [a.prev], by omega, by go_num, by simp [HF.out], by simpa using hown1, hB.trans (hB1.mono (by omega)), by have := hB1.size; omega⟩, by simp [intOf]⟩
    · obtain rfl : k = 2 := by omega
      have hF : xs = holdersL a := by rw [HX.out]; simp
      subst hF
      obtain ⟨A1, c1, rfl, hs1⟩ := Sl.own hown
      go_wp2
      go_ret
      exact ⟨⟨_, _, rfl, hs1⟩, hB⟩

set_option maxHeartbeats 2000000 in
/-- The same numbers? -/
theorem ints_any (A A' : Option Addr) (n c n' c' B B' : Nat) (l l' : List Int) (w : World) (hs : Sl w B A n c (l.map vi)) (hs' : Sl w B' A' n' c' (l'.map vi)) :
    Calls Try.prog 16 #[.slice A n c, .slice A' n' c'] w fun e w' => e = .returned (.bool (decide (l = l'))) ∧ ∃ k, w' = w.drewN k := by
  have hn63 : n ≤ 9223372036854775807 := by have h1 := hs.2.1; have h2 := hs.2.2.1; unfold maxLen at h2; omega
  have hlen : l.length = n := by simpa using hs.1
  have hlen' : l'.length = n' := by simpa using hs'.1
  have HL := hide hlen
  have HL' := hide hlen'
  clear hlen hlen'
  go_enter Try.func16, Try.ntmps16
  by_cases hne : n = n'
  · subst hne
    go_wp2
    go_loopw [5] (fun i wr => ∃ k m : Nat, k ≤ n ∧ i = .int .i64 k ∧ l.take k = l'.take k ∧ wr = w.drewN m) (fun i _ => n - (intOf i).toNat)
    case atStart => exact ⟨0, 0, Nat.zero_le _, rfl, rfl, rfl⟩
    case round =>
      obtain ⟨k, m, hk, rfl, htk, rfl⟩ := hrel
      have HT := hide htk
      clear htk
      by_cases hlt : k < n
      · obtain ⟨b, off, rfl, hb, hc⟩ := hs.at_ (by omega)
        obtain ⟨b', off', rfl, hb', hc'⟩ := hs'.at_ (by omega)
        obtain ⟨x, hx⟩ : ∃ x, l[k]? = some x := ⟨l[k]'(by rw [HL.out]; exact hlt), List.getElem?_eq_getElem _⟩
        obtain ⟨y, hy⟩ : ∃ y, l'[k]? = some y := ⟨l'[k]'(by rw [HL'.out]; exact hlt), List.getElem?_eq_getElem _⟩
        have cx := hc k (vi x) (by simp [hx])
        have cx' := hc' k (vi y) (by simp [hy])
        have hlt' : (k : Int) < (n : Int) := by omega
        have h0 : (0 : Int) ≤ (k : Int) := by omega
        have HX := hide hx
        have HY := hide hy
        clear hc hc' hx hy
        by_cases hxy : x = y
        · subst hxy
          have HN := hide (show l.take (k + 1) = l'.take (k + 1) from by rw [List.take_add_one, List.take_add_one, HT.out, HX.out, HY.out])
          go_wp2
          go_quiet (fail)
          go_wp2
          go_roundw
          case rel => exact ⟨k + 1, _, by omega, by go_num, HN.out, rfl⟩
          case measure => simp [intOf]; omega
        · have hbb : (x != y) = true := by simp [hxy]
          have HD := hide (show l ≠ l' from fun e => hxy (by have h1 := HX.out; rw [e, HY.out] at h1; exact (Option.some.inj h1).symm))
          clear hxy
          go_wp2
          go_quiet (fail)
          go_wp2
          go_ret
          exact ⟨ret_bool (by symm; rw [decide_eq_false_iff_not]; exact HD.out), _, World.drewN_drewN ..⟩
      · obtain rfl : k = n := by omega
        go_wp2
        go_ret
        refine ⟨ret_bool (by symm; rw [decide_eq_true_eq]; have h := HT.out; rwa [List.take_of_length_le (by rw [HL.out]; omega), List.take_of_length_le (by rw [HL'.out]; omega)] at h), _, rfl⟩
  · have HD := hide (show l ≠ l' from fun e => hne (by rw [← HL.out, ← HL'.out, e]))
    have h1 : ((n : Int) != (n' : Int)) = true := by simp; omega
    go_wp2
    go_ret
    exact ⟨ret_bool (by symm; rw [decide_eq_false_iff_not]; exact HD.out), 0, rfl⟩
end Go.Proofs.Ytaeffklmlllimaa
