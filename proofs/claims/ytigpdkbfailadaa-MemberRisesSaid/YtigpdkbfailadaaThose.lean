/-
  The walks of member's sets.
-/
import Derived.Test.YtigpdkbfailadaaRows
import Derived.Test.YtigpdkbfailadaaAppend
import Derived.Test.YtigpdkbfailadaaTail
import Derived.Shelf.Abstract
import Derived.Shelf.RegionOpen
import Derived.WalkKit
import Derived.OwnWalkIn
import Derived.TacticsInMore
import Derived.LoopNIn
import Derived.LoopIn
import Derived.WalkMore
import Derived.ScopeJumps
import Derived.Lib.Hide
import Derived.WalkSpells
import Derived.WalkLawsBesides
import Derived.Deep.QuietTactic
import Derived.BigQuiet
import Derived.Laws.Rows
import Derived.Test.YtigpdkbfailadaaMems
import Derived.Test.YtigpdkbfailadaaStates
import Derived.Laws.BitsAllLaws
import Derived.Maps.AppendAt
namespace Go.Proofs.Ytigpdkbfailadaa
open Go Go.RowKit Go.Shelf
set_option linter.unusedSimpArgs false
set_option linter.unusedVariables false
attribute [local go_sem] Oper.semAt_some

/-- Those whose states are so, by bits. -/
def bitsTo (m : Mm) (lo : Nat) (p : Int → Bool) : Nat → Nat
  | 0 => 0
  | n + 1 => bitsTo m lo p n + if p (m (lo + n)) then 2 ^ n else 0
theorem bitsTo_lt (m : Mm) (lo : Nat) (p : Int → Bool) : ∀ n : Nat, bitsTo m lo p n < 2 ^ n
  | 0 => by simp [bitsTo]
  | n + 1 => by
    have := bitsTo_lt m lo p n
    simp only [bitsTo, Nat.pow_succ]
    split <;> omega
theorem or_bit (k b : Nat) (hk : k < 6) (hb : b < 2 ^ k) : bits .or .u8 (b : Int) ((2 ^ k : Nat) : Int) = ((b + 2 ^ k : Nat) : Int) := by
  have h2 : 2 ^ k ≤ 32 := by
    have := Nat.pow_le_pow_right (n := 2) (by omega) (show k ≤ 5 by omega)
    simpa using this
  rw [u8_or_nat _ _ (by omega) (by omega)]
  congr 1
  have := Nat.two_pow_add_eq_or_of_lt hb 1
  rw [Nat.mul_one] at this
  rw [Nat.or_comm, ← this, Nat.add_comm]

theorem or_bit' (k b : Nat) (hk : k < 6) (hb : b < 2 ^ k) : bits .or .u8 (b : Int) ((2 : Int) ^ k % 256) = ((b + 2 ^ k : Nat) : Int) := by
  rw [← or_bit k b hk hb]
  congr 1
  have h2 : 2 ^ k ≤ 32 := by
    have := Nat.pow_le_pow_right (n := 2) (by omega) (show k ≤ 5 by omega)
    simpa using this
  have e : ((2 ^ k : Nat) : Int) = (2 : Int) ^ k := by simp
  rw [← e]
  omega

set_option maxRecDepth 100000 in
set_option maxHeartbeats 2000000 in
/-- Those that are there. -/
theorem those35_any (m : Mm) (k : Int) (w : World) :
    Calls Try.prog 34 #[mv m, .int .u8 k, .func (.func 35) #[] #[]] w fun e W' => e = .returned (.int .u8 (bitsTo m (loOf k) thereS (cntOf k) : Nat)) ∧ Below w.heap.size w W' := by
  have hlo : loOf k + cntOf k ≤ 9 := by unfold loOf cntOf; split <;> omega
  have hcn : cntOf k ≤ 6 := by unfold cntOf; split <;> omega
  obtain ⟨lo, hlo'⟩ : ∃ lo, loOf k = lo := ⟨_, rfl⟩
  obtain ⟨cn, hcn'⟩ : ∃ cn, cntOf k = cn := ⟨_, rfl⟩
  rw [hlo', hcn'] at hlo ⊢
  rw [hcn'] at hcn
  have HLO := hide hlo'
  have HCN := hide hcn'
  clear hlo' hcn'
  refine (callsIn_wide (n := 10)).1 ?_
  refine callsIn_of_wp_marks Try.func34 rfl trivial ?_ rfl
  simp only [Try.ntmps34, List.size_toArray, List.length_cons, List.length_nil, Nat.reduceAdd, Nat.reduceSub, Array.replicate_succ, Array.replicate_zero, List.push_toArray, List.append_toArray, List.nil_append, List.cons_append]
  gi_wp2_with (refine ⟨trivial, ?_⟩; gi_at_call 33; refine (callsIn_wide.2 (states_any _ _ _)).mono ?_; rintro e w1 ⟨rfl, hm1, hb1, hB1⟩)
  obtain ⟨w0, hw0⟩ : ∃ w0, (((w.alloc (.cells (mcells m) 25)).alloc (.cells #[.func (.func 35) #[] #[]] 58)).alloc (.cells #[.int .u8 0] 5)) = w0 := ⟨_, rfl⟩
  have hsz0 : w0.heap.size = w.heap.size + 3 := by rw [← hw0]; simp
  have bF : Boxed w0 (w.heap.size + 1) 58 (.func (.func 35) #[] #[]) := by
    have h := (Boxed.new (w.alloc (.cells (mcells m) 25)) 58 (.func (.func 35) #[] #[])).alloc (.cells #[.int .u8 0] 5)
    rw [World.size_alloc, hw0] at h
    exact h
  have bN : Boxed w0 (w.heap.size + 2) 5 (.int .u8 0) := by
    have h := Boxed.new ((w.alloc (.cells (mcells m) 25)).alloc (.cells #[.func (.func 35) #[] #[]] 58)) 5 (.int .u8 0)
    rw [World.size_alloc, World.size_alloc, hw0] at h
    exact h
  have hB0 : Below w.heap.size w w0 := by rw [← hw0]; exact (((Below.refl _ w).alloc (Nat.le_refl _) _).alloc (by simp) _).alloc (by simp; omega) _
  rw [hw0] at hm1 hb1 hB1
  rw [hsz0] at hm1 hb1 hB1
  simp only [Nat.add_assoc, Nat.reduceAdd] at hb1 ⊢
  clear hw0
  have bF1 : Boxed w1 (w.heap.size + 1) 58 (.func (.func 35) #[] #[]) := (hB1.block _ (by omega)).trans bF
  have bN1 : Boxed w1 (w.heap.size + 2) 5 (.int .u8 0) := (hB1.block _ (by omega)).trans bN
  have hB2 : Below w.heap.size w w1 := hB0.trans (hB1.mono (by omega))
  have hlt1 := hb1.lt
  rw [HLO.out, HCN.out] at hb1
  clear bF bN hB0 hB1 hsz0
  refine wpIn_rangeFunc_B rfl (by omega) (gf := 37) (lb := #[.pointer (some ⟨w.heap.size + 4, 0, none⟩)]) rfl trivial (enters_of Try.func37 (by kernel_rfl) rfl)
    (row := none) (fun r e => by cases e)
    (states_stops (w.heap.size + 4) (w.heap.size + 3) lo cn m hlo w1 hb1 hm1)
    Keep2.trans (Keep2.put (by omega) (by omega)) (Below.refl _ _) (fun _ => rfl)
    (fun pre W => Boxed W (w.heap.size + 2) 5 (.int .u8 (bitsTo m lo thereS pre.length : Nat)) ∧ Boxed W (w.heap.size + 1) 58 (.func (.func 35) #[] #[]) ∧ Below w.heap.size w W)
    (fun _ _ _ => False)
    (fun s X Y row hs hg hr => ⟨hs.1.kept hg (fun e => by have := (hr _ e.symm).1; omega), hs.2.1.kept hg (fun e => by have := (hr _ e.symm).1; omega), hs.2.2.grown hg hs.2.2.size (fun k e => by have := (hr k e).1; omega)⟩)
    (fun _ _ _ _ _ hs _ _ => hs)
    (fun s X Y hs hg => ⟨hs.1.kept hg (by simp), hs.2.1.kept hg (by simp), hs.2.2.grown hg hs.2.2.size (fun k e => by cases e)⟩)
    (fun _ _ _ _ hs _ => hs)
    ⟨bN1, bF1, hB2⟩
    (fun x => { tmps := #[mv m, .int .u8 k, .func (.func 35) #[] #[], .pointer (some ⟨w.heap.size, 0, none⟩), undef, .pointer (some ⟨w.heap.size + 1, 0, none⟩), .pointer (some ⟨w.heap.size + 2, 0, none⟩), .int .i64 (x.1 : Int), u8v x.2, mv m, .int .u8 k, .func (.func 37) #[] #[.pointer (some ⟨w.heap.size + 4, 0, none⟩)], .int .i64 (x.1 : Int), u8v x.2, undef, undef, undef, undef, undef, undef, undef, undef], defers := [] }) ?assign ?body ?done ?stop
  case assign =>
    intro l x W K hK
    gi_wp2
    exact hK
  case body =>
    rintro l pre x W ⟨hb, hf, hB⟩ ⟨hlt, hpre, rfl⟩
    have c1 := hf.cell
    have c2 := hb.cell
    have f2 := hb.frozen
    obtain ⟨j, hj⟩ : ∃ j, pre.length = j := ⟨_, rfl⟩
    rw [hj] at hlt hb c2 ⊢
    have HJ := hide hj
    clear hj hpre
    have hlen : ∀ s, (pre ++ [(j, s)]).length = j + 1 := fun s => by rw [List.length_append, HJ.out]; rfl
    have HL := hide hlen
    clear hlen
    have hbl := bitsTo_lt m lo thereS j
    have HB := hide (show bitsTo m lo thereS (j + 1) = bitsTo m lo thereS j + if thereS (m (lo + j)) then 2 ^ j else 0 from rfl)
    obtain ⟨s, hs⟩ : ∃ s, m (lo + j) = s := ⟨_, rfl⟩
    obtain ⟨bt, hbt⟩ : ∃ bt, bitsTo m lo thereS j = bt := ⟨_, rfl⟩
    rw [hs, hbt] at HB
    rw [hbt] at hbl hb c2
    rw [hs]
    cases hp : thereS s
    · have HP := hide hp
      have HA := hide (show Calls Try.prog 35 #[.int .u8 s] W (fun e w' => e = .returned (.bool false) ∧ W = w') from hp ▸ there_any s W)
      clear hp hbt hs
      gi_wp2_with (refine ⟨trivial, ?_⟩; gi_at_call 35; refine (CallsIn.inRound l (callsIn_wide.2 HA.out)).mono ?_; rintro e w3 ⟨rfl, rfl⟩)
      refine ⟨(KeepsOthers.refl _).from _, Keep2.refl _ _ _, ?_, hf, hB⟩
      rw [HL.out, HB.out, HP.out]
      exact hb
    · have HP := hide hp
      have HA := hide (show Calls Try.prog 35 #[.int .u8 s] W (fun e w' => e = .returned (.bool true) ∧ W = w') from hp ▸ there_any s W)
      clear hp hbt hs
      have hmix : Try.prog.follows .mixedOrders = true := by kernel_rfl
      have hj0 : (0 : Int) ≤ (j : Int) := by omega
      have hj6 : (j : Int) < 6 := by omega
      gi_wp2_with (refine ⟨trivial, ?_⟩; gi_at_call 35; refine (CallsIn.inRound l (callsIn_wide.2 HA.out)).mono ?_; rintro e w3 ⟨rfl, rfl⟩)
      refine wpIn_region_still_tail (wide_round _ _) 4 (by kernel_rfl) (by kernel_rfl) ?_
      simp only [List.take_succ_cons, List.take_zero, List.drop_succ_cons, List.drop_zero]
      iterate 4 still_step
      refine wpStill_nil ?_
      gi_wp2
      refine ⟨((KeepsOthers.setCell W _ _).trans (KeepsOthers.drew _)).from _, ⟨Below.heap_setCell _ _ _ _ (by simp), Below.heap_setCell _ _ _ _ (by simp)⟩, ?_, hf.other (B' := w.heap.size + 2) (by omega) _, (hB.setCell (p := ⟨w.heap.size + 2, 0, none⟩) (by simp) _).drew⟩
      rw [HL.out, HB.out, HP.out, if_pos rfl, or_bit' j bt (by omega) hbl]
      exact hb.set _
  case done =>
    rintro D ys W hD rfl ⟨hb, hf, hB⟩ hK
    rw [st_length] at hb
    have hc := hb.cell
    have hfz := hb.frozen
    gi_wp2
    have hK' := (KeepsOthers.setCell W ⟨w.heap.size + 2, 0, none⟩ (.int .u8 (bitsTo m lo thereS cn : Nat))).same D _ hK rfl
    refine ⟨by simp, .inl ⟨_, _, rfl, run_takeDeferred hK', ?_⟩⟩
    have hc5 := cell_kept (World.cell?_setCell_same' W ⟨w.heap.size + 2, 0, none⟩ (.int .u8 (bitsTo m lo thereS cn : Nat)) (by rw [hc]; rfl)) (grownBy_putObj' _ D (.deferred none)) (fun r e => by cases e; exact ⟨_, hK', rfl⟩)
    exact ⟨.int .u8 (bitsTo m lo thereS cn : Nat), by simp [results, Try.f34, go_sem, hc5], rfl, (hB.setCell (p := ⟨w.heap.size + 2, 0, none⟩) (by simp) _).trans (belowK_b (w := w) (Nat.le_refl _) _ D _ _ (by omega) hK' rfl rfl)⟩
  case stop =>
    rintro D c pre W _ _ h _
    exact h.elim
set_option maxRecDepth 100000 in
set_option maxHeartbeats 2000000 in
/-- Those that are alive. -/
theorem those36_any (m : Mm) (k : Int) (w : World) :
    Calls Try.prog 34 #[mv m, .int .u8 k, .func (.func 36) #[] #[]] w fun e W' => e = .returned (.int .u8 (bitsTo m (loOf k) aliveS (cntOf k) : Nat)) ∧ Below w.heap.size w W' := by
  have hlo : loOf k + cntOf k ≤ 9 := by unfold loOf cntOf; split <;> omega
  have hcn : cntOf k ≤ 6 := by unfold cntOf; split <;> omega
  obtain ⟨lo, hlo'⟩ : ∃ lo, loOf k = lo := ⟨_, rfl⟩
  obtain ⟨cn, hcn'⟩ : ∃ cn, cntOf k = cn := ⟨_, rfl⟩
  rw [hlo', hcn'] at hlo ⊢
  rw [hcn'] at hcn
  have HLO := hide hlo'
  have HCN := hide hcn'
  clear hlo' hcn'
  refine (callsIn_wide (n := 10)).1 ?_
  refine callsIn_of_wp_marks Try.func34 rfl trivial ?_ rfl
  simp only [Try.ntmps34, List.size_toArray, List.length_cons, List.length_nil, Nat.reduceAdd, Nat.reduceSub, Array.replicate_succ, Array.replicate_zero, List.push_toArray, List.append_toArray, List.nil_append, List.cons_append]
  gi_wp2_with (refine ⟨trivial, ?_⟩; gi_at_call 33; refine (callsIn_wide.2 (states_any _ _ _)).mono ?_; rintro e w1 ⟨rfl, hm1, hb1, hB1⟩)
  obtain ⟨w0, hw0⟩ : ∃ w0, (((w.alloc (.cells (mcells m) 25)).alloc (.cells #[.func (.func 36) #[] #[]] 58)).alloc (.cells #[.int .u8 0] 5)) = w0 := ⟨_, rfl⟩
  have hsz0 : w0.heap.size = w.heap.size + 3 := by rw [← hw0]; simp
  have bF : Boxed w0 (w.heap.size + 1) 58 (.func (.func 36) #[] #[]) := by
    have h := (Boxed.new (w.alloc (.cells (mcells m) 25)) 58 (.func (.func 36) #[] #[])).alloc (.cells #[.int .u8 0] 5)
    rw [World.size_alloc, hw0] at h
    exact h
  have bN : Boxed w0 (w.heap.size + 2) 5 (.int .u8 0) := by
    have h := Boxed.new ((w.alloc (.cells (mcells m) 25)).alloc (.cells #[.func (.func 36) #[] #[]] 58)) 5 (.int .u8 0)
    rw [World.size_alloc, World.size_alloc, hw0] at h
    exact h
  have hB0 : Below w.heap.size w w0 := by rw [← hw0]; exact (((Below.refl _ w).alloc (Nat.le_refl _) _).alloc (by simp) _).alloc (by simp; omega) _
  rw [hw0] at hm1 hb1 hB1
  rw [hsz0] at hm1 hb1 hB1
  simp only [Nat.add_assoc, Nat.reduceAdd] at hb1 ⊢
  clear hw0
  have bF1 : Boxed w1 (w.heap.size + 1) 58 (.func (.func 36) #[] #[]) := (hB1.block _ (by omega)).trans bF
  have bN1 : Boxed w1 (w.heap.size + 2) 5 (.int .u8 0) := (hB1.block _ (by omega)).trans bN
  have hB2 : Below w.heap.size w w1 := hB0.trans (hB1.mono (by omega))
  have hlt1 := hb1.lt
  rw [HLO.out, HCN.out] at hb1
  clear bF bN hB0 hB1 hsz0
  refine wpIn_rangeFunc_B rfl (by omega) (gf := 37) (lb := #[.pointer (some ⟨w.heap.size + 4, 0, none⟩)]) rfl trivial (enters_of Try.func37 (by kernel_rfl) rfl)
    (row := none) (fun r e => by cases e)
    (states_stops (w.heap.size + 4) (w.heap.size + 3) lo cn m hlo w1 hb1 hm1)
    Keep2.trans (Keep2.put (by omega) (by omega)) (Below.refl _ _) (fun _ => rfl)
    (fun pre W => Boxed W (w.heap.size + 2) 5 (.int .u8 (bitsTo m lo aliveS pre.length : Nat)) ∧ Boxed W (w.heap.size + 1) 58 (.func (.func 36) #[] #[]) ∧ Below w.heap.size w W)
    (fun _ _ _ => False)
    (fun s X Y row hs hg hr => ⟨hs.1.kept hg (fun e => by have := (hr _ e.symm).1; omega), hs.2.1.kept hg (fun e => by have := (hr _ e.symm).1; omega), hs.2.2.grown hg hs.2.2.size (fun k e => by have := (hr k e).1; omega)⟩)
    (fun _ _ _ _ _ hs _ _ => hs)
    (fun s X Y hs hg => ⟨hs.1.kept hg (by simp), hs.2.1.kept hg (by simp), hs.2.2.grown hg hs.2.2.size (fun k e => by cases e)⟩)
    (fun _ _ _ _ hs _ => hs)
    ⟨bN1, bF1, hB2⟩
    (fun x => { tmps := #[mv m, .int .u8 k, .func (.func 36) #[] #[], .pointer (some ⟨w.heap.size, 0, none⟩), undef, .pointer (some ⟨w.heap.size + 1, 0, none⟩), .pointer (some ⟨w.heap.size + 2, 0, none⟩), .int .i64 (x.1 : Int), u8v x.2, mv m, .int .u8 k, .func (.func 37) #[] #[.pointer (some ⟨w.heap.size + 4, 0, none⟩)], .int .i64 (x.1 : Int), u8v x.2, undef, undef, undef, undef, undef, undef, undef, undef], defers := [] }) ?assign ?body ?done ?stop
  case assign =>
    intro l x W K hK
    gi_wp2
    exact hK
  case body =>
    rintro l pre x W ⟨hb, hf, hB⟩ ⟨hlt, hpre, rfl⟩
    have c1 := hf.cell
    have c2 := hb.cell
    have f2 := hb.frozen
    obtain ⟨j, hj⟩ : ∃ j, pre.length = j := ⟨_, rfl⟩
    rw [hj] at hlt hb c2 ⊢
    have HJ := hide hj
    clear hj hpre
    have hlen : ∀ s, (pre ++ [(j, s)]).length = j + 1 := fun s => by rw [List.length_append, HJ.out]; rfl
    have HL := hide hlen
    clear hlen
    have hbl := bitsTo_lt m lo aliveS j
    have HB := hide (show bitsTo m lo aliveS (j + 1) = bitsTo m lo aliveS j + if aliveS (m (lo + j)) then 2 ^ j else 0 from rfl)
    obtain ⟨s, hs⟩ : ∃ s, m (lo + j) = s := ⟨_, rfl⟩
    obtain ⟨bt, hbt⟩ : ∃ bt, bitsTo m lo aliveS j = bt := ⟨_, rfl⟩
    rw [hs, hbt] at HB
    rw [hbt] at hbl hb c2
    rw [hs]
    cases hp : aliveS s
    · have HP := hide hp
      have HA := hide (show Calls Try.prog 36 #[.int .u8 s] W (fun e w' => e = .returned (.bool false) ∧ W = w') from hp ▸ alive_any s W)
      clear hp hbt hs
      gi_wp2_with (refine ⟨trivial, ?_⟩; gi_at_call 36; refine (CallsIn.inRound l (callsIn_wide.2 HA.out)).mono ?_; rintro e w3 ⟨rfl, rfl⟩)
      refine ⟨(KeepsOthers.refl _).from _, Keep2.refl _ _ _, ?_, hf, hB⟩
      rw [HL.out, HB.out, HP.out]
      exact hb
    · have HP := hide hp
      have HA := hide (show Calls Try.prog 36 #[.int .u8 s] W (fun e w' => e = .returned (.bool true) ∧ W = w') from hp ▸ alive_any s W)
      clear hp hbt hs
      have hmix : Try.prog.follows .mixedOrders = true := by kernel_rfl
      have hj0 : (0 : Int) ≤ (j : Int) := by omega
      have hj6 : (j : Int) < 6 := by omega
      gi_wp2_with (refine ⟨trivial, ?_⟩; gi_at_call 36; refine (CallsIn.inRound l (callsIn_wide.2 HA.out)).mono ?_; rintro e w3 ⟨rfl, rfl⟩)
      refine wpIn_region_still_tail (wide_round _ _) 4 (by kernel_rfl) (by kernel_rfl) ?_
      simp only [List.take_succ_cons, List.take_zero, List.drop_succ_cons, List.drop_zero]
      iterate 4 still_step
      refine wpStill_nil ?_
      gi_wp2
      refine ⟨((KeepsOthers.setCell W _ _).trans (KeepsOthers.drew _)).from _, ⟨Below.heap_setCell _ _ _ _ (by simp), Below.heap_setCell _ _ _ _ (by simp)⟩, ?_, hf.other (B' := w.heap.size + 2) (by omega) _, (hB.setCell (p := ⟨w.heap.size + 2, 0, none⟩) (by simp) _).drew⟩
      rw [HL.out, HB.out, HP.out, if_pos rfl, or_bit' j bt (by omega) hbl]
      exact hb.set _
  case done =>
    rintro D ys W hD rfl ⟨hb, hf, hB⟩ hK
    rw [st_length] at hb
    have hc := hb.cell
    have hfz := hb.frozen
    gi_wp2
    have hK' := (KeepsOthers.setCell W ⟨w.heap.size + 2, 0, none⟩ (.int .u8 (bitsTo m lo aliveS cn : Nat))).same D _ hK rfl
    refine ⟨by simp, .inl ⟨_, _, rfl, run_takeDeferred hK', ?_⟩⟩
    have hc5 := cell_kept (World.cell?_setCell_same' W ⟨w.heap.size + 2, 0, none⟩ (.int .u8 (bitsTo m lo aliveS cn : Nat)) (by rw [hc]; rfl)) (grownBy_putObj' _ D (.deferred none)) (fun r e => by cases e; exact ⟨_, hK', rfl⟩)
    exact ⟨.int .u8 (bitsTo m lo aliveS cn : Nat), by simp [results, Try.f34, go_sem, hc5], rfl, (hB.setCell (p := ⟨w.heap.size + 2, 0, none⟩) (by simp) _).trans (belowK_b (w := w) (Nat.le_refl _) _ D _ _ (by omega) hK' rfl rfl)⟩
  case stop =>
    rintro D c pre W _ _ h _
    exact h.elim

theorem backends_any (m : Mm) (w : World) : Calls Try.prog 19 #[mv m] w fun e W' => e = .returned (.int .u8 (bitsTo m 0 thereS 6 : Nat)) ∧ Below w.heap.size w W' := by
  go_enter Try.func19, Try.ntmps19
  go_wp2_with fail
  refine (those35_any m 2 _).mono ?_
  rintro e w1 ⟨rfl, hB⟩
  go_wp2
  go_ret
  exact ⟨rfl, ((Below.refl _ w).alloc (Nat.le_refl _) _).trans (hB.mono (by simp))⟩
theorem takers_any (m : Mm) (w : World) : Calls Try.prog 21 #[mv m] w fun e W' => e = .returned (.int .u8 (bitsTo m 0 aliveS 6 : Nat)) ∧ Below w.heap.size w W' := by
  go_enter Try.func21, Try.ntmps21
  go_wp2_with fail
  refine (those36_any m 2 _).mono ?_
  rintro e w1 ⟨rfl, hB⟩
  go_wp2
  go_ret
  exact ⟨rfl, ((Below.refl _ w).alloc (Nat.le_refl _) _).trans (hB.mono (by simp))⟩
theorem muxes_any (m : Mm) (w : World) : Calls Try.prog 23 #[mv m] w fun e W' => e = .returned (.int .u8 (bitsTo m 6 thereS 3 : Nat)) ∧ Below w.heap.size w W' := by
  go_enter Try.func23, Try.ntmps23
  go_wp2_with fail
  refine (those35_any m 1 _).mono ?_
  rintro e w1 ⟨rfl, hB⟩
  go_wp2
  go_ret
  exact ⟨rfl, ((Below.refl _ w).alloc (Nat.le_refl _) _).trans (hB.mono (by simp))⟩
end Go.Proofs.Ytigpdkbfailadaa
