/-
  The contracts of sum's functions, and of the document's Same.
-/
import Derived.Test.YtkanbnfiblbkpaaWords
import Derived.Deep.QuietTactic
import Derived.BigQuiet
import Derived.Maps.AppendAt
namespace Go.Proofs.Ytkanbnfiblbkpaa
open Go Go.RowKit Go.Shelf
attribute [local go_sem] Oper.semAt_some

set_option maxHeartbeats 1000000 in
/-- Fold. -/
theorem fold_any (A : Option Addr) (n c B : Nat) (l : List Nat) (hl : ∀ x ∈ l, x < 65536) (hn : n ≤ 1000000) (w : World) (hs : Sl w B A n c (l.map vw)) :
    Calls Try.prog 10 #[.slice A n c] w fun e w' => e = .returned (.int .u16 (can l.sum)) ∧ w = w' := by
  have hlen : l.length = n := by simpa using hs.1
  have HL := hide hlen
  clear hlen
  go_enter Try.func10, Try.ntmps10
  go_wp2
  go_loop [3, 8] (fun t i => ∃ k : Nat, k ≤ n ∧ i = .int .i64 k ∧ t = .int .u64 ((l.take k).sum : Nat)) (fun _ i => n - (intOf i).toNat)
  case atStart => exact ⟨0, Nat.zero_le _, rfl, rfl⟩
  case round =>
    obtain ⟨k, hk, rfl, rfl⟩ := hrel
    by_cases hlt : k < n
    · obtain ⟨b, off, rfl, hb, hc⟩ := hs.at_ (by omega)
      have hx : ∃ x, l[k]? = some x := ⟨l[k]'(by rw [HL.out]; exact hlt), List.getElem?_eq_getElem _⟩
      obtain ⟨x, hx⟩ := hx
      have cx := hc k (vw x) (by simp [hx])
      have hx16 : x < 65536 := hl x (List.mem_of_getElem? hx)
      have hsum : (l.take (k + 1)).sum = (l.take k).sum + x := by rw [List.take_add_one, hx]; simp
      have hle := sum_le (l.take k) (fun y hy => hl y (List.mem_of_mem_take hy))
      have hlk : (l.take k).length ≤ k := List.length_take_le _ _
      have HS := hide hsum
      clear hc hx hsum
      generalize (l.take k).sum = t at *
      go_wp2
      go_round
      case rel => exact ⟨k + 1, by omega, by go_num, by rw [HS.out]; go_num⟩
      case measure => simp [intOf]; omega
    · obtain rfl : k = n := by omega
      have hle := sum_le l hl
      have HT := hide (show (l.take k).sum = l.sum from by rw [List.take_of_length_le (by rw [HL.out]; omega)])
      generalize (l.take k).sum = t at *
      go_wp2_with (go_at_call 15; refine (carried_any _ (by have h1 := HT.out; have h2 := HL.out; omega) _).mono ?_; rintro e w' ⟨rfl, rfl⟩)
      go_ret
      exact ⟨ret_int (by rw [HT.out]), rfl⟩

set_option maxHeartbeats 1000000 in
/-- Same, of the same words. -/
theorem same_eq (A A' : Option Addr) (n c c' B B' : Nat) (l : List Nat) (w : World) (hs : Sl w B A n c (l.map vw)) (hs' : Sl w B' A' n c' (l.map vw)) :
    Calls Try.prog 14 #[.slice A n c, .slice A' n c'] w fun e w' => e = .returned (.bool true) ∧ ∃ k, w' = w.drewN k := by
  have hn63 : n ≤ 9223372036854775807 := by have h1 := hs.2.1; have h2 := hs.2.2.1; unfold maxLen at h2; omega
  have hlen : l.length = n := by simpa using hs.1
  have HL := hide hlen
  clear hlen
  go_enter Try.func14, Try.ntmps14
  go_wp2
  go_loopw [5] (fun i wr => ∃ k m : Nat, k ≤ n ∧ i = .int .i64 k ∧ wr = w.drewN m) (fun i _ => n - (intOf i).toNat)
  case atStart => exact ⟨0, 0, Nat.zero_le _, rfl, rfl⟩
  case round =>
    obtain ⟨k, m, hk, rfl, rfl⟩ := hrel
    by_cases hlt : k < n
    · obtain ⟨b, off, rfl, hb, hc⟩ := hs.at_ (by omega)
      obtain ⟨b', off', rfl, hb', hc'⟩ := hs'.at_ (by omega)
      obtain ⟨x, hx⟩ : ∃ x, l[k]? = some x := ⟨l[k]'(by rw [HL.out]; exact hlt), List.getElem?_eq_getElem _⟩
      have cx := hc k (vw x) (by simp [hx])
      have cx' := hc' k (vw x) (by simp [hx])
      have hlt' : (k : Int) < (n : Int) := by omega
      have h0 : (0 : Int) ≤ (k : Int) := by omega
      clear hc hc' hx
      go_wp2
      go_quiet (fail)
      go_wp2
      go_roundw
      case rel => exact ⟨k + 1, _, by omega, by go_num, rfl⟩
      case measure => simp [intOf]; omega
    · obtain rfl : k = n := by omega
      go_wp2
      go_ret
      exact ⟨rfl, _, rfl⟩

theorem infoU16 : (Try.prog.info? 24).map (fun i => (i.zero, i.size, i.bytes)) = some (some (.int .u16 0), 1, 2) := by kernel_rfl

set_option maxRecDepth 100000 in
set_option maxHeartbeats 2000000 in
/-- Sum. -/
theorem sum_any (A : Option Addr) (n c : Nat) (bs : List Nat) (hbs : ∀ x ∈ bs, x < 256) (hn : n ≤ 1000000) (w : World) (hs : Sl w w.heap.size A n c (bs.map vb)) :
    Calls Try.prog 13 #[.slice A n c] w fun e W' => e = .returned (.int .u16 (can (wsum bs))) ∧ Below w.heap.size w W' := by
  have hlen : bs.length = n := by simpa using hs.1
  refine (callsIn_wide (n := 10)).1 ?_
  refine callsIn_of_wp_marks Try.func13 rfl trivial ?_ rfl
  simp only [Try.ntmps13, List.size_toArray, List.length_cons, List.length_nil, Nat.reduceAdd, Nat.reduceSub, Array.replicate_succ, Array.replicate_zero, List.push_toArray, List.append_toArray, List.nil_append, List.cons_append]
  gi_wp2_with (refine ⟨trivial, ?_⟩; gi_at_call 16; refine (callsIn_wide.2 (words_any _ _ _ _)).mono ?_; rintro e w' ⟨rfl, rfl⟩)
  have bN := Boxed.new w 36 (.int .u64 0)
  have bS := Boxed.new (w.alloc (.cells #[.int .u64 0] 36)) 22 (.slice A n c)
  rw [World.size_alloc] at bS
  have bN' := bN.alloc (.cells #[.slice A n c] 22)
  have hB0 : Below w.heap.size w ((w.alloc (.cells #[.int .u64 0] 36)).alloc (.cells #[.slice A n c] 22)) := ((Below.refl _ w).alloc (Nat.le_refl _) _).alloc (by simp) _
  have hs0 : Sl ((w.alloc (.cells #[.int .u64 0] 36)).alloc (.cells #[.slice A n c] 22)) w.heap.size A n c (bs.map vb) := hs.below hB0
  have hsz : ((w.alloc (.cells #[.int .u64 0] 36)).alloc (.cells #[.slice A n c] 22)).heap.size = w.heap.size + 2 := by simp
  have hle := wsum_le bs hbs
  subst hlen
  obtain ⟨w2, hw2⟩ : ∃ w2, ((w.alloc (.cells #[.int .u64 0] 36)).alloc (.cells #[.slice A bs.length c] 22)) = w2 := ⟨_, rfl⟩
  rw [hw2] at bS bN' hB0 hs0 hsz ⊢
  clear hw2
  refine wpIn_rangeFunc_B rfl (by omega) (gf := 17) (lb := #[.pointer (some ⟨w.heap.size + 1, 0, none⟩)]) rfl trivial (enters_of Try.func17 (by kernel_rfl) rfl)
    (row := some (w.heap.size + 1)) (fun r e => by cases e; omega)
    (words_stops (w.heap.size + 1) w.heap.size bs hbs (by omega) w2 A c bS hs0 hB0.size)
    KeepsRow.trans (KeepsRow.put hB0.size (fun r e => by cases e; omega)) (Below.refl _ _) (fun _ => rfl)
    (fun pre W => Boxed W w.heap.size 36 (.int .u64 (pre.sum : Nat)) ∧ Below w.heap.size w W)
    (fun _ _ _ => False)
    (fun s X Y row hs hg hr => ⟨hs.1.kept hg (fun e => by have := (hr _ e.symm).1; omega), hs.2.grown hg hs.2.size (fun k e => by have := (hr k e).1; omega)⟩)
    (fun _ _ _ _ _ hs _ _ => hs)
    (fun s X Y hs hg => ⟨hs.1.kept hg (by simp), hs.2.grown hg hs.2.size (fun k e => by cases e; omega)⟩)
    (fun _ _ _ _ hs _ => hs)
    ⟨bN', hB0⟩
    (fun x => { tmps := #[.slice A bs.length c, undef, .int .u16 0, .pointer (some ⟨w.heap.size, 0, none⟩), vw x, .slice A bs.length c, .func (.func 17) #[] #[.pointer (some ⟨w.heap.size + 1, 0, none⟩)], vw x, undef, undef, undef, undef, undef, undef], defers := [] }) ?assign ?body ?done ?stop
  case assign =>
    intro l x W K hK
    gi_wp2
    exact hK
  case body =>
    rintro l pre x W ⟨hb, hB⟩ hT
    have hc := hb.cell
    have hf := hb.frozen
    obtain ⟨hx, hps⟩ : x < 65536 ∧ pre.sum + x ≤ wsum bs := by
      obtain ⟨q, hq⟩ := hT
      refine ⟨wordsOf_lt bs hbs x (by rw [← hq]; simp), ?_⟩
      unfold wsum
      rw [← hq]
      simp
    have HS := hide (show (pre ++ [x]).sum = pre.sum + x from by simp)
    clear hT
    gi_wp2
    exact ⟨(KeepsOthers.setCell _ _ _).from _, ⟨(Below.refl w.heap.size W).setCell (p := ⟨w.heap.size, 0, none⟩) (Nat.le_refl _) _, fun r e => by cases e; exact Below.heap_setCell _ _ _ _ (by simp)⟩, by rw [HS.out, Int.natCast_add]; exact hb.set _, hB.setCell (p := ⟨w.heap.size, 0, none⟩) (Nat.le_refl _) _⟩
  case done =>
    rintro D ys W hD rfl ⟨hb, hB⟩ hK
    have hc := hb.cell
    gi_wp2_with (refine ⟨trivial, ?_⟩; gi_at_call 15; refine (callsIn_wide.2 (carried_any _ (by unfold wsum at hle; omega) _)).mono ?_; rintro e w' ⟨rfl, rfl⟩)
    refine ⟨by simp, .inl ⟨_, _, rfl, run_takeDeferred hK, ?_⟩⟩
    exact ⟨_, results_tmp rfl _ _ _, rfl, hB.trans (belowK_b (w := w) (Nat.le_refl _) W D _ _ (by omega) hK rfl rfl)⟩
  case stop =>
    rintro D c pre W _ _ h _
    exact h.elim

theorem xor_all (x : Nat) (h : x < 65536) : 65535 ^^^ x = 65535 - x := by
  apply Nat.eq_of_testBit_eq
  intro i
  have h1 : (65535 - x).testBit i = (decide (i < 16) && !x.testBit i) := by
    have := Nat.testBit_two_pow_sub_succ (n := 16) (x := x) (by simpa using h) i
    rw [← this]
    congr 1
    omega
  have h2 : Nat.testBit 65535 i = decide (i < 16) := Nat.testBit_two_pow_sub_one (n := 16) (i := i)
  have h3 : 16 ≤ i → x.testBit i = false := fun hi => Nat.testBit_lt_two_pow (Nat.lt_of_lt_of_le h (show 2 ^ 16 ≤ 2 ^ i from Nat.pow_le_pow_right (by decide) hi))
  rw [Nat.testBit_xor, h1, h2]
  by_cases hi : i < 16
  · simp [hi]
  · simp [hi, h3 (by omega)]

theorem u16_compl (x : Nat) (h : x < 65536) : bits BinOp.xor IntKind.u16 IntKind.u16.max (x : Int) = ((65535 - x : Nat) : Int) := by
  have h1 : IntKind.u16.max = ((65535 : Nat) : Int) := by decide
  rw [h1, u16_xor_nat 65535 x (by omega) h, xor_all x h]

set_option maxHeartbeats 400000 in
theorem check_any (A : Option Addr) (n c : Nat) (bs : List Nat) (hbs : ∀ x ∈ bs, x < 256) (hn : n ≤ 1000000) (w : World) (hs : Sl w w.heap.size A n c (bs.map vb)) :
    Calls Try.prog 8 #[.slice A n c] w fun e W' => e = .returned (.int .u16 (65535 - can (wsum bs) : Nat)) ∧ Below w.heap.size w W' := by
  have hc := can_lt (wsum bs)
  go_enter Try.func8, Try.ntmps8
  go_wp2_with (go_at_call 13; refine (sum_any _ _ _ bs hbs hn _ hs).mono ?_; rintro e w' ⟨rfl, hB⟩)
  go_ret
  exact ⟨ret_int (u16_compl _ hc), hB⟩

set_option maxHeartbeats 400000 in
theorem right_any (A : Option Addr) (n c : Nat) (bs : List Nat) (hbs : ∀ x ∈ bs, x < 256) (hn : n ≤ 1000000) (w : World) (hs : Sl w w.heap.size A n c (bs.map vb)) :
    Calls Try.prog 9 #[.slice A n c] w fun e W' => e = .returned (.bool (decide (can (wsum bs) = 65535))) ∧ Below w.heap.size w W' := by
  have hc := can_lt (wsum bs)
  go_enter Try.func9, Try.ntmps9
  go_wp2_with (go_at_call 8; refine (check_any _ _ _ bs hbs hn _ hs).mono ?_; rintro e w' ⟨rfl, hB⟩)
  go_ret
  exact ⟨ret_bool (by rw [Bool.eq_iff_iff]; simp; omega), hB⟩

set_option maxHeartbeats 400000 in
theorem change_any (check old now : Nat) (hc : check < 65536) (ho : old < 65536) (hn : now < 65536) (w : World) :
    Calls Try.prog 11 #[vw check, vw old, vw now] w fun e W' => e = .returned (.int .u16 (65535 - can ((65535 - check) + (65535 - old) + now) : Nat)) ∧ Below w.heap.size w W' := by
  have e1 := u16_compl check hc
  have e2 := u16_compl old ho
  go_enter Try.func11, Try.ntmps11
  go_wp2_with fail
  refine (fold_any _ 3 3 (w.heap.size + 1) [65535 - check, 65535 - old, now] (by intro x hx; simp at hx; omega) (by omega) _ (Sl.made w [vw (65535 - check), vw (65535 - old), vw now] 24 (by simp [maxLen]))).mono ?_
  rintro e w' ⟨rfl, rfl⟩
  have hz : ∃ z, z = can [65535 - check, 65535 - old, now].sum := ⟨_, rfl⟩
  obtain ⟨z, hz⟩ := hz
  rw [← hz]
  have hz16 : z < 65536 := by rw [hz]; exact can_lt _
  have hs : z = can ((65535 - check) + (65535 - old) + now) := by rw [hz]; simp [Nat.add_assoc]
  have HS := hide hs
  clear hs hz
  go_wp2
  go_ret
  exact ⟨ret_int (by rw [← HS.out]; exact u16_compl z hz16), (Below.refl _ _).alloc (Nat.le_refl _) _⟩

set_option maxRecDepth 100000 in
set_option maxHeartbeats 2000000 in
/-- Words. -/
theorem Words_any (A : Option Addr) (n c : Nat) (bs : List Nat) (hbs : ∀ x ∈ bs, x < 256) (hn : n ≤ 1000000) (w : World) (hs : Sl w w.heap.size A n c (bs.map vb)) :
    Calls Try.prog 12 #[.slice A n c] w fun e W' => (∃ A' c', e = .returned (.slice A' ((n + 1) / 2) c') ∧ Sl W' W'.heap.size A' ((n + 1) / 2) c' ((wordsOf bs).map vw)) ∧ Below w.heap.size w W' := by
  have hlen : bs.length = n := by simpa using hs.1
  obtain ⟨i0, hi, hz0, hz1, hz2⟩ := info_parts infoU16
  refine (callsIn_wide (n := 10)).1 ?_
  refine callsIn_of_wp_marks Try.func12 rfl trivial ?_ rfl
  simp only [Try.ntmps12, List.size_toArray, List.length_cons, List.length_nil, Nat.reduceAdd, Nat.reduceSub, Array.replicate_succ, Array.replicate_zero, List.push_toArray, List.append_toArray, List.nil_append, List.cons_append]
  gi_wp2_with (refine ⟨trivial, ?_⟩; gi_at_call 16; refine (callsIn_wide.2 (words_any _ _ _ _)).mono ?_; rintro e w' ⟨rfl, rfl⟩)
  have bN := Boxed.new w 29 (.slice none 0 0)
  have bS := Boxed.new (w.alloc (.cells #[.slice none 0 0] 29)) 22 (.slice A n c)
  rw [World.size_alloc] at bS
  have bN' := bN.alloc (.cells #[.slice A n c] 22)
  have hB0 : Below w.heap.size w ((w.alloc (.cells #[.slice none 0 0] 29)).alloc (.cells #[.slice A n c] 22)) := ((Below.refl _ w).alloc (Nat.le_refl _) _).alloc (by simp) _
  have hs0 : Sl ((w.alloc (.cells #[.slice none 0 0] 29)).alloc (.cells #[.slice A n c] 22)) w.heap.size A n c (bs.map vb) := hs.below hB0
  have hsz : ((w.alloc (.cells #[.slice none 0 0] 29)).alloc (.cells #[.slice A n c] 22)).heap.size = w.heap.size + 2 := by simp
  subst hlen
  obtain ⟨w2, hw2⟩ : ∃ w2, ((w.alloc (.cells #[.slice none 0 0] 29)).alloc (.cells #[.slice A bs.length c] 22)) = w2 := ⟨_, rfl⟩
  rw [hw2] at bS bN' hB0 hs0 hsz ⊢
  clear hw2 bN
  refine wpIn_rangeFunc_B rfl (by omega) (gf := 17) (lb := #[.pointer (some ⟨w.heap.size + 1, 0, none⟩)]) rfl trivial (enters_of Try.func17 (by kernel_rfl) rfl)
    (row := some (w.heap.size + 1)) (fun r e => by cases e; omega)
    (words_stops (w.heap.size + 1) w.heap.size bs hbs (by omega) w2 A c bS hs0 hB0.size)
    KeepsRow.trans (KeepsRow.put hB0.size (fun r e => by cases e; omega)) (Below.refl _ _) (fun _ => rfl)
    (fun pre W => (∃ v, Boxed W w.heap.size 29 v ∧ W.ownsRow (w.heap.size + 2) 24 1 v pre.length (pre.map vw)) ∧ Below w.heap.size w W ∧ w.heap.size + 2 ≤ W.heap.size)
    (fun _ _ _ => False)
    ?own (fun _ _ _ _ _ hs _ _ => hs) ?ownr (fun _ _ _ _ hs _ => hs)
    ⟨⟨_, bN', World.ownsRow_nil _ _ _ _⟩, hB0, by omega⟩
    (fun x => { tmps := #[.slice A bs.length c, undef, .pointer (some ⟨w.heap.size, 0, none⟩), vw x, .slice A bs.length c, .func (.func 17) #[] #[.pointer (some ⟨w.heap.size + 1, 0, none⟩)], vw x, undef, undef, undef, undef, undef], defers := [] }) ?assign ?body ?done ?stop
  case own =>
    rintro s X Y row ⟨⟨v, hv, hr⟩, hB, hX⟩ hg hrow
    refine ⟨⟨v, hv.kept hg (fun e => by have := (hrow _ e.symm).1; omega), hr.kept hg ?_⟩, hB.grown hg (by omega) (fun k e => by have := (hrow k e).1; omega), by have := hg.size; omega⟩
    rcases hr.2 with ⟨rfl, _⟩ | ⟨g, cap, cur, rfl, _, hgb, _⟩
    · exact .inl rfl
    · refine .inr fun e' => ?_
      obtain ⟨_, o, ho, hc⟩ := hrow g (by simpa [Value.ownBlock] using e'.symm)
      rw [hgb] at ho; cases ho; cases hc
  case ownr =>
    rintro s X Y ⟨⟨v, hv, hr⟩, hB, hX⟩ hg
    refine ⟨⟨v, hv.kept hg (by simp), hr.kept hg ?_⟩, hB.grown hg (by omega) (fun k e => by cases e; omega), by have := hg.size; omega⟩
    rcases hr.2 with ⟨rfl, _⟩ | ⟨g, cap, cur, rfl, hgb, _⟩
    · exact .inl rfl
    · refine .inr fun e' => ?_
      have : g = w.heap.size + 1 := by simpa [Value.ownBlock] using e'
      omega
  case assign =>
    intro l x W K hK
    gi_wp2
    exact hK
  case body =>
    rintro l pre x W ⟨⟨v, hb, hrow⟩, hB, hW2⟩ hT
    have hc := hb.cell
    have hpl : pre.length < 1000000 := by
      obtain ⟨q, hq⟩ := hT
      have := wordsOf_length bs
      rw [← hq] at this
      simp at this
      omega
    clear hT
    gi_wp2_with (gi_at_builtin; refine wpListIn_append_own _ rfl _ _ 29 rfl (w.heap.size + 2) 24 i0 (.int .u16 0) 1 2 Try.underlying29 hi hz0 hz1 hz2 rfl (by decide) _ _ _ rfl (hrow.alloc _) ⟨W.heap.size, 0, none⟩ 1 1 [vw x] rfl rfl (cell_one_new _ _ _) (by simp [Value.oneCell']) (by unfold maxLen; omega) (by omega) (by simp; omega) ?_; intro v' w1 hown' hgrow _; obtain ⟨g', cap', rfl⟩ := ownsRow_succ hown'; obtain ⟨hv1, hv2, hr2, hk2, hb2⟩ := hb.appended (by decide) (ownsRow_base hrow (by omega)) (n₀ := w.heap.size) (by omega) (Nat.le_refl _) (ownsRow_base hown' (by omega)) hgrow; have hc1 := hv1.cell; have hf1 := hv1.frozen)
    have hne : some (w.heap.size + 1) ≠ v.ownBlock := by
      intro e
      rcases hrow.2 with ⟨rfl, _⟩ | ⟨g, cap, cur, rfl, hgb, _⟩
      · simp [Value.ownBlock] at e
      · have : w.heap.size + 1 = g := by simpa [Value.ownBlock] using e
        omega
    have hkeep : w1.heap[w.heap.size + 1]? = W.heap[w.heap.size + 1]? := (hgrow.block _ (by simp; omega) hne).trans (Below.heap_alloc _ _ _ (by omega))
    have hrow2 := hown'.kept (grownBy_setCell' w1 w.heap.size (.slice (some ⟨g', 0, none⟩) (pre.length + 1) cap')) (.inr (hv1.not_row (by decide) hown').symm)
    exact ⟨hk2.from _, ⟨hb2, fun r e => by cases e; exact (Below.heap_setCell _ _ _ _ (by simp)).trans hkeep⟩, ⟨_, hv2, by simpa using hrow2⟩, hB.trans hb2, by have := hb2.size; omega⟩
  case done =>
    rintro D ys W hD rfl ⟨⟨v, hb, hrow⟩, hB, hW2⟩ hK
    obtain ⟨A', c', rfl, hsl⟩ := Sl.own hrow
    have hc := hb.cell
    have hf := hb.frozen
    gi_wp2
    have hK' := (KeepsOthers.setCell W ⟨w.heap.size, 0, none⟩ (.slice A' (wordsOf bs).length c')).same D _ hK rfl
    refine ⟨by simp, .inl ⟨_, _, rfl, run_takeDeferred hK', ?_⟩⟩
    have hc5 := cell_kept (World.cell?_setCell_same' W ⟨w.heap.size, 0, none⟩ (.slice A' (wordsOf bs).length c') (by rw [hc]; rfl)) (grownBy_putObj' _ D (.deferred none)) (fun r e => by cases e; exact ⟨_, hK', rfl⟩)
    have hr2 := ownsRow_putObj (hrow.kept (grownBy_setCell' W w.heap.size (.slice A' (wordsOf bs).length c')) (.inr (hb.not_row (by decide) hrow).symm)) (.deferred none) hK' rfl
    refine ⟨.slice A' (wordsOf bs).length c', by simp [results, Try.f12, go_sem, hc5], ⟨A', c', by rw [wordsOf_length], by rw [← wordsOf_length]; exact Sl.own' hr2⟩, (hB.setCell (p := ⟨w.heap.size, 0, none⟩) (Nat.le_refl _) _).trans (belowK_b (w := w) (Nat.le_refl _) _ D _ _ (by omega) hK' rfl rfl)⟩
  case stop =>
    rintro D c pre W _ _ h _
    exact h.elim
end Go.Proofs.Ytkanbnfiblbkpaa
