/-
  The walk of the statement SumOrder.
-/
import Derived.Test.YtkanbnfiblbkpaaWakes
import Derived.Test.YtkanbnfiblbkpaaAppend
import Derived.Deep.RegionLaw
import Derived.Deep.DeepMust
import Derived.Deep.QuietTactic
import Derived.BigQuiet
import Derived.BigRegion
namespace Go.Proofs.Ytkanbnfiblbkpaa
open Go Go.RowKit Go.Shelf

set_option maxHeartbeats 400000 in
theorem sumOrder_out (A : Option Addr) (n c : Nat) (hn : n = 0 ∨ 2000 < n) (i k : Int) (w : World) :
    Calls Try.prog 4 #[.slice A n c, .int .i64 i, .int .i64 k] w fun e W' => e = .returned (.bool true) ∧ Below w.heap.size w W' := by
  rcases hn with rfl | hn
  · go_enter Try.func4, Try.ntmps4
    go_wp2_with fail
    refine (fold_val _ 0 0 0 [] 0 (by decide) (by decide) (by omega) _ ?h2).mono ?_
    case h2 => exact Sl.nil _ _
    rintro e w1 ⟨rfl, rfl⟩
    go_wp2_with (go_at_call 7; refine (wakes_any _).mono ?_; rintro e w' ⟨rfl, hB⟩)
    go_ret
    exact ⟨rfl, hB⟩
  · have h0 : ((n : Int) == 0) = false := by simp; omega
    go_enter Try.func4, Try.ntmps4
    go_wp2_with fail
    refine (fold_val _ 0 0 0 [] 0 (by decide) (by decide) (by omega) _ ?h3).mono ?_
    case h3 => exact Sl.nil _ _
    rintro e w1 ⟨rfl, rfl⟩
    go_wp2_with (go_at_call 7; refine (wakes_any _).mono ?_; rintro e w' ⟨rfl, hB⟩)
    go_ret
    exact ⟨rfl, hB⟩

theorem tmod_gt (a n : Int) (hn : 0 < n) : -n < a.tmod n := by
  rcases Int.le_total 0 a with h | h
  · have := Int.tmod_nonneg n h
    omega
  · have h1 := (-a).tmod_lt_of_pos hn
    rw [Int.neg_tmod] at h1
    omega

/-- Are all 0? -/
def allZero (l : List Nat) : Bool := l.all (· == 0)

/-- A place as the program reckons it, inside a region. -/
theorem place_in (a : Int) (n : Nat) (hn : 0 < n) (hm : n ≤ 2000) : ∃ k : Nat, IntKind.i64.wrap (a.tmod (n : Int) + (n : Int)) = a.tmod (n : Int) + (n : Int) ∧ (a.tmod (n : Int) + (n : Int)).tmod (n : Int) = (k : Int) ∧ k < n := by
  have hA1 := a.tmod_lt_of_pos (b := (n : Int)) (by omega)
  have hA2 := tmod_gt a (n : Int) (by omega)
  have h1 := Int.emod_nonneg (a.tmod (n : Int) + (n : Int)) (b := (n : Int)) (by omega)
  have h2 := Int.emod_lt_of_pos (a.tmod (n : Int) + (n : Int)) (b := (n : Int)) (by omega)
  have e : (a.tmod (n : Int) + (n : Int)).tmod (n : Int) = (a.tmod (n : Int) + (n : Int)) % (n : Int) := Int.tmod_eq_emod_of_nonneg (by omega)
  exact ⟨((a.tmod (n : Int) + (n : Int)) % (n : Int)).toNat, IntWalk.i64_in _ (by omega), by omega, by omega⟩

set_option maxHeartbeats 4000000 in
theorem sumOrder_in (A : Option Addr) (n c : Nat) (hn0 : 0 < n) (hn : n ≤ 2000) (i k : Int)
    (l : List Nat) (hl : ∀ x ∈ l, x < 65536) (w : World) (hs : Sl w w.heap.size A n c (l.map vw)) :
    Calls Try.prog 4 #[.slice A n c, .int .i64 i, .int .i64 k] w fun e W' => e = .returned (.bool true) ∧ Below w.heap.size w W' := by
  have hlen : l.length = n := by simpa using hs.1
  have HL := hide hlen
  clear hlen
  obtain ⟨i0, hi, hz0, hz1, hz2⟩ := info_parts infoU16
  obtain ⟨b, off, rfl, hb, hc⟩ := hs.at_ hn0
  obtain ⟨p, hp1, hp2, hpn⟩ := place_in i n hn0 hn
  obtain ⟨q, hq1, hq2, hqn⟩ := place_in k n hn0 hn
  have P1 := hide hp1
  have P2 := hide hp2
  have Q1 := hide hq1
  have Q2 := hide hq2
  clear hp1 hp2 hq1 hq2
  have h0 : ((n : Int) == 0) = false := by simp; omega
  have h00 : ((n : Int) == 0) = false := by simp; omega
  have hone : ∀ u ∈ l.map vw, u.oneCell' = true := by intro u hu; simp at hu; obtain ⟨x, _, rfl⟩ := hu; rfl
  go_enter Try.func4, Try.ntmps4
  go_wp2
  have p1 := P1.out
  have p2 := P2.out
  have q1 := Q1.out
  have q2 := Q2.out
  go_quiet (fail)
  clear p1 p2 q1 q2
  have hB0 : Below w.heap.size w (w.drewN nq) := below_drewN (Below.refl _ _) nq
  have hs0 : Sl (w.drewN nq) w.heap.size (some ⟨b, off, none⟩) n c (l.map vw) := hs
  obtain ⟨w0, hw0⟩ : ∃ w0, w.drewN nq = w0 := ⟨_, rfl⟩
  rw [hw0] at hB0 hs0 ⊢
  clear hw0
  have hz0' := hB0.size
  have hcan := can_lt l.sum
  have F := hide (fun (W : World) (h : Sl W w.heap.size (some ⟨b, off, none⟩) n c (l.map vw)) => fold_any _ n c _ l hl (by omega) W h)
  obtain ⟨z, hz⟩ : ∃ z, can l.sum = z := ⟨_, rfl⟩
  rw [hz] at F hcan
  have HZ := hide hz
  clear hz
  have hown := World.ownsRow_lit (base := w.heap.size) (e := 24) (size := 1) w0 #[] 0 hz0' (Nat.zero_le _) rfl
  go_wp2_with fail
  refine (F.out _ hs0).mono ?_
  rintro e w1 ⟨rfl, rfl⟩
  go_wp2_with (at_builtin; refine wpList_append_sl _ rfl (.tmp 41) (.tmp 42) _ rfl w.heap.size 24 i0 (.int .u16 0) 2 Try.underlying29 hi hz0 hz1 hz2 rfl (.slice (some ⟨w0.heap.size, 0, none⟩) 0 0) 0 [] rfl hown w.heap.size _ n c (l.map vw) rfl (hs0.alloc hz0' _) hone (by unfold maxLen; omega) (by omega) (by simp; omega) ?_; intro v4 w4 hown4 hg4 hat4; simp only [Nat.zero_add, List.nil_append] at hown4; obtain ⟨g, cap, rfl, hg, hgs⟩ := hown4.form hn0)
  have hB4 : Below w.heap.size w w4 := (hB0.alloc hz0' _).grown hg4 (by simp; omega) (fun k e => by simp [Value.ownBlock] at e; omega)
  have hs4 : Sl w4 w.heap.size (some ⟨b, off, none⟩) n c (l.map vw) := hs.below hB4
  obtain ⟨x, hx⟩ : ∃ x, l[p]? = some x := ⟨l[p]'(by rw [HL.out]; exact hpn), List.getElem?_eq_getElem _⟩
  obtain ⟨y, hy⟩ : ∃ y, l[q]? = some y := ⟨l[q]'(by rw [HL.out]; exact hqn), List.getElem?_eq_getElem _⟩
  have hcp : w4.cell? ⟨g, p, none⟩ = some (vw x) := (hown4.cellAt p (by omega)).trans (by simp [hx])
  have hcq : w4.cell? ⟨g, q, none⟩ = some (vw y) := (hown4.cellAt q (by omega)).trans (by simp [hy])
  have hfp := hown4.frozenAt p
  have hfq := hown4.frozenAt q
  have HX := hide hx
  have HY := hide hy
  clear hx hy hown hg4 hat4 hB0 hs0 hz0'
  have p0 : (0 : Int) ≤ (p : Int) := by omega
  have p1 : (p : Int) < (n : Int) := by omega
  have q0 : (0 : Int) ≤ (q : Int) := by omega
  have q1 : (q : Int) < (n : Int) := by omega
  obtain ⟨v', hcq'⟩ := cell?_setCell_some (w := w4) (p := ⟨g, p, none⟩) (x := vw y) (q := ⟨g, q, none⟩) (v := vw y) hcq
  go_region
  have hown5 := ((hown4.stored p (vw y)).1.stored q (vw x)).1
  rw [show ((l.map vw).set p (vw y)).set q (vw x) = ((l.set p y).set q x).map vw from by rw [List.map_set, List.map_set]] at hown5
  have hB5 : Below w.heap.size w ((w4.setCell ⟨g, p, none⟩ (vw y)).setCell ⟨g, q, none⟩ (vw x)) := (hB4.setCell (p := ⟨g, p, none⟩) hg _).setCell (p := ⟨g, q, none⟩) hg _
  obtain ⟨w5, hw5⟩ : ∃ w5, (w4.setCell ⟨g, p, none⟩ (vw y)).setCell ⟨g, q, none⟩ (vw x) = w5 := ⟨_, rfl⟩
  rw [hw5] at hown5 hB5
  rw [show ((w4.setCell ⟨g, p, none⟩ (Value.int IntKind.u16 y)).setCell ⟨g, q, none⟩ (Value.int IntKind.u16 x)) = w5 from hw5]
  have hs5 : Sl w5 w.heap.size (some ⟨b, off, none⟩) n c (l.map vw) := hs.below hB5
  have hown5' : w5.drew.ownsRow w.heap.size 24 1 (.slice (some ⟨g, 0, none⟩) n cap) n (((l.set p y).set q x).map vw) := hown5
  have hB5' : Below w.heap.size w w5.drew := hB5.drew
  have hs5' : Sl w5.drew w.heap.size (some ⟨b, off, none⟩) n c (l.map vw) := hs5
  obtain ⟨w6, hw6⟩ : ∃ w6, w5.drew = w6 := ⟨_, rfl⟩
  rw [hw6] at hown5' hB5' hs5' ⊢
  clear hw5 hw6 hown5 hB5 hs5 hown4 hcp hcq hcq' hfp hfq hs4 hB4
  have hsum := sum_swap l p q (by rw [HL.out]; exact hpn) (by rw [HL.out]; exact hqn)
  rw [HX.out, HY.out] at hsum
  have hx16 : x < 65536 := hl x (List.mem_of_getElem? HX.out)
  have hy16 : y < 65536 := hl y (List.mem_of_getElem? HY.out)
  have hol : ∀ u ∈ (l.set p y).set q x, u < 65536 := by
    intro u hu
    rcases List.mem_or_eq_of_mem_set hu with h | h
    · rcases List.mem_or_eq_of_mem_set h with h | h
      · exact hl u h
      · omega
    · omega
  obtain ⟨o, ho⟩ : ∃ o, (l.set p y).set q x = o := ⟨_, rfl⟩
  simp only [Option.getD_some] at hsum
  rw [ho] at hsum hown5' hol
  have HS := hide hsum
  clear hsum ho
  have hc6 : ∀ j, j < n → w6.cell? ⟨b, off + j, none⟩ = some (vw (l[j]?.getD 0)) := by
    intro j hj
    obtain ⟨b', off', e, _, hcc⟩ := hs5'.at_ hn0
    cases e
    refine hcc j _ ?_
    rw [List.getElem?_map, List.getElem?_eq_getElem (by rw [HL.out]; exact hj)]
    rfl
  have HC := hide hc6
  clear hc6 hc
  go_wp2
  go_loop [10, 11] (fun s i => ∃ j : Nat, j ≤ n ∧ i = .int .i64 j ∧ s = .bool (allZero (l.take j))) (fun _ i => n - (intOf i).toNat)
  case atStart => exact ⟨0, Nat.zero_le _, rfl, rfl⟩
  case round =>
    obtain ⟨j, hj, rfl, rfl⟩ := hrel
    by_cases hlt : j < n
    · have hoj : l[j]? = some (l[j]?.getD 0) := by rw [List.getElem?_eq_getElem (by rw [HL.out]; exact hlt)]; rfl
      have htk : allZero (l.take (j + 1)) = (allZero (l.take j) && (l[j]?.getD 0 == 0)) := by
        unfold allZero
        rw [List.take_add_one, hoj]
        simp
      have HT := hide htk
      have hcj := HC.out j hlt
      clear hoj htk
      obtain ⟨u, hu⟩ : ∃ u, l[j]?.getD 0 = u := ⟨_, rfl⟩
      rw [hu] at HT hcj
      clear hu
      cases hb0 : allZero (l.take j)
      · go_wp2
        go_round
        case rel => exact ⟨j + 1, by omega, by go_num, by rw [HT.out, hb0]; rfl⟩
        case measure => simp [intOf]; omega
      · go_wp2
        go_round
        case rel => exact ⟨j + 1, by omega, by go_num, by rw [HT.out, hb0]; congr 1; rw [Bool.eq_iff_iff]; simp⟩
        case measure => simp [intOf]; omega
    · have hjn : j = n := by omega
      have hall : allZero (l.take j) = allZero l := by rw [List.take_of_length_le (by rw [HL.out]; omega)]
      rw [hall]
      clear hall
      have JN := hide hjn
      have hzz : allZero l = ((z : Int) == 0) := by
        have h1 := sum_zero l
        have h2 := can_eq_zero l.sum
        rw [HZ.out] at h2
        rw [Bool.eq_iff_iff]
        unfold allZero
        simp only [List.all_eq_true, beq_iff_eq]
        constructor
        · intro h
          have := h2.2 (h1.2 h)
          omega
        · intro h
          exact h1.1 (h2.1 (by omega))
      rw [hzz]
      clear hzz hjn
      have hpc : p ≤ c := by have := hs.2.1; omega
      have hpn' : p ≤ n := by omega
      have hnc : n ≤ c := hs.2.1
      have z16 := hcan
      have Fo := hide (fun (W : World) (B : Nat) (h : Sl W B (some ⟨g, 0, none⟩) n cap (o.map vw)) => fold_val _ n cap B o (z : Int) (by rw [HS.out, HZ.out]) hol (by omega) W h)
      have hta : ∀ u ∈ l.take p, u < 65536 := fun u hu => hl u (List.mem_of_mem_take hu)
      have htb : ∀ u ∈ l.drop p, u < 65536 := fun u hu => hl u (List.mem_of_mem_drop hu)
      have Fa := hide (fun (W : World) (A : Option Addr) (h : Sl W w.heap.size A p c ((l.take p).map vw)) => fold_any _ p c _ (l.take p) hta (by omega) W h)
      have Fb := hide (fun (W : World) (A : Option Addr) (h : Sl W w.heap.size A (n - p) (c - p) ((l.drop p).map vw)) => fold_any _ (n - p) (c - p) _ (l.drop p) htb (by omega) W h)
      have hsp : can (can (l.take p).sum + can (l.drop p).sum) = z := by
        rw [can_add, Nat.add_comm, can_add, Nat.add_comm, ← List.sum_append, List.take_append_drop, HZ.out]
      have h1l := can_lt (l.take p).sum
      have h2l := can_lt (l.drop p).sum
      obtain ⟨z1, hz1⟩ : ∃ z1, can (l.take p).sum = z1 := ⟨_, rfl⟩
      obtain ⟨z2, hz2⟩ : ∃ z2, can (l.drop p).sum = z2 := ⟨_, rfl⟩
      rw [hz1] at Fa hsp h1l
      rw [hz2] at Fb hsp h2l
      have Fs := hide (fun (W : World) (B : Nat) (A : Option Addr) (h : Sl W B A 2 2 ([z1, z2].map vw)) => fold_val _ 2 2 B [z1, z2] (z : Int) (by rw [← hsp]; simp) (by intro u hu; simp at hu; omega) (by omega) W h)
      have Ft := hide (fun (W : World) (B : Nat) (A : Option Addr) (cc : Nat) (h : Sl W B A (n + 1) cc ((o ++ [0]).map vw)) => fold_val _ (n + 1) cc B (o ++ [0]) (z : Int) (by rw [List.sum_append, HS.out]; simp [HZ.out]) (by intro u hu; simp at hu; rcases hu with h | h; exact hol u h; omega) (by omega) W h)
      have HZ1 := hide hz1
      have HZ2 := hide hz2
      clear hz1 hz2 hsp hta htb
      have hso6 := Sl.own' hown5'
      have hzb : ((z : Int) == (z : Int)) = true := by simp
      have hzbb : (((z : Int) == 0) == ((z : Int) == 0)) = true := by simp
      have hsa : Sl w6 w.heap.size (some ⟨b, off, none⟩) p c ((l.take p).map vw) := by rw [List.map_take]; exact hs5'.take hpn'
      have hsb : Sl w6 w.heap.size (if c = p then some ⟨b, off, none⟩ else some ⟨b, off + p, none⟩) (n - p) (c - p) ((l.drop p).map vw) := by rw [List.map_drop]; exact hs5'.cutIf hpn'
      have h6 := hB5'.size
      go_wp2
      refine wp_region_any (by kernel_rfl) ?_
      change wpAny _ _ _ _ _ _ _ (World.drew _)
      refine wpAny_take (i := 0) (v := ?_) rfl (by kernel_rfl) (by kernel_rfl) (by kernel_rfl) (fun _ _ _ h => h) (Or.inl ⟨by kernel_rfl, ?hyr0⟩) ?hrr0
      case hyr0 => intro w; go_simp; try with_reducible rfl
      refine wpAny_take (i := 2) (v := ?_) rfl (by kernel_rfl) (by kernel_rfl) (by kernel_rfl) (fun _ _ _ h => h) (Or.inl ⟨by kernel_rfl, ?hyr2⟩) ?hrr2
      case hyr2 => intro w; go_simp; try with_reducible rfl
      refine wpAny_ready (rs := [1]) (by kernel_rfl) (by simp) ?_
      refine AllReady.cons rfl (fun K hK => ?_) AllReady.nil
      go_simp
      (with_reducible refine (Fo.out _ w6.heap.size ?_).mono ?_)
      · exact hso6
      rintro e w7 ⟨rfl, rfl⟩
      go_simp
      refine hK _ _ ?_
      clear hK K
      refine wpAny_take (i := 3) (v := ?_) rfl (by kernel_rfl) (by kernel_rfl) (by kernel_rfl) (fun _ _ _ h => h) (Or.inl ⟨by kernel_rfl, ?hyr3⟩) ?hrr3
      case hyr3 => intro w; go_simp; try with_reducible rfl
      refine wpAny_take (i := 4) (v := ?_) rfl (by kernel_rfl) (by kernel_rfl) (by kernel_rfl) (fun _ _ _ h => h) (Or.inl ⟨by kernel_rfl, ?hyr4⟩) ?hrr4
      case hyr4 => intro w; go_simp; try with_reducible rfl
      refine wpAny_take (i := 5) (v := ?_) rfl (by kernel_rfl) (by kernel_rfl) (by kernel_rfl) (fun _ _ _ h => h) (Or.inl ⟨by kernel_rfl, ?hyr5⟩) ?hrr5
      case hyr5 => intro w; go_simp; try with_reducible rfl
      refine wpAny_take (i := 6) (v := ?_) rfl (by kernel_rfl) (by kernel_rfl) (by kernel_rfl) (fun _ _ _ h => h) (Or.inl ⟨by kernel_rfl, ?hyr6⟩) ?hrr6
      case hyr6 => intro w; go_simp; try with_reducible rfl
      refine wpAny_take (i := 7) (v := ?_) rfl (by kernel_rfl) (by kernel_rfl) (by kernel_rfl) (fun _ _ _ h => h) (Or.inl ⟨by kernel_rfl, ?hyr7⟩) ?hrr7
      case hyr7 => intro w; go_simp; try with_reducible rfl
      refine wpAny_take (i := 9) (v := ?_) rfl (by kernel_rfl) (by kernel_rfl) (by kernel_rfl) (fun _ _ _ h => h) (Or.inl ⟨by kernel_rfl, ?hyr9⟩) ?hrr9
      case hyr9 => intro w; go_simp; try with_reducible rfl
      refine wpAny_take (i := 10) (v := ?_) rfl (by kernel_rfl) (by kernel_rfl) (by kernel_rfl) (fun _ _ _ h => h) (Or.inl ⟨by kernel_rfl, ?hyr10⟩) ?hrr10
      case hyr10 => intro w; go_simp; try with_reducible rfl
      refine wpAny_take (i := 11) (v := ?_) rfl (by kernel_rfl) (by kernel_rfl) (by kernel_rfl) (fun _ _ _ h => h) (Or.inl ⟨by kernel_rfl, ?hyr11⟩) ?hrr11
      case hyr11 => intro w; go_simp; try with_reducible rfl
      refine wpAny_take (i := 15) (v := ?_) rfl (by kernel_rfl) (by kernel_rfl) (by kernel_rfl) (fun _ _ _ h => h) (Or.inl ⟨by kernel_rfl, ?hyr15⟩) ?hrr15
      case hyr15 => intro w; go_simp; try with_reducible rfl
      refine wpAny_ready (rs := [8]) (by kernel_rfl) (by simp) ?_
      refine AllReady.cons rfl (fun K hK => ?_) AllReady.nil
      go_simp
      (with_reducible refine (Fa.out _ _ ?_).mono ?_)
      · exact hsa
      rintro e w7 ⟨rfl, rfl⟩
      go_simp
      refine hK _ _ ?_
      clear hK K
      refine wpAny_ready (rs := [12]) (by kernel_rfl) (by simp) ?_
      refine AllReady.cons rfl (fun K hK => ?_) AllReady.nil
      go_simp
      (with_reducible refine (Fb.out _ _ ?_).mono ?_)
      · exact hsb
      rintro e w7 ⟨rfl, rfl⟩
      go_simp
      refine hK _ _ ?_
      clear hK K
      refine wpAny_ready (rs := [13]) (by kernel_rfl) (by simp) ?_
      refine AllReady.cons rfl (fun K hK => ?_) AllReady.nil
      go_simp
      refine hK _ _ ?_
      clear hK K
      refine wpAny_ready (rs := [14]) (by kernel_rfl) (by simp) ?_
      refine AllReady.cons rfl (fun K hK => ?_) AllReady.nil
      go_simp
      (with_reducible refine (Fs.out _ (w6.heap.size + 1) _ ?_).mono ?_)
      · exact Sl.made' w6 _ _ [vw z1, vw z2] 24 rfl rfl (by simp [maxLen])
      rintro e w7 ⟨rfl, rfl⟩
      go_simp
      refine hK _ _ ?_
      clear hK K
      refine wpAny_take (i := 16) (v := ?_) rfl (by kernel_rfl) (by kernel_rfl) (by kernel_rfl) (fun _ _ _ h => h) (Or.inl ⟨by kernel_rfl, ?hyr16⟩) ?hrr16
      case hyr16 => intro w; go_simp; try with_reducible rfl
      refine wpAny_take (i := 17) (v := ?_) rfl (by kernel_rfl) (by kernel_rfl) (by kernel_rfl) (fun _ _ _ h => h) (Or.inl ⟨by kernel_rfl, ?hyr17⟩) ?hrr17
      case hyr17 => intro w; go_simp; try with_reducible rfl
      refine wpAny_take (i := 18) (v := ?_) rfl (by kernel_rfl) (by kernel_rfl) (by kernel_rfl) (fun _ _ _ h => h) (Or.inl ⟨by kernel_rfl, ?hyr18⟩) ?hrr18
      case hyr18 => intro w; go_simp; try with_reducible rfl
      refine wpAny_take (i := 19) (v := ?_) rfl (by kernel_rfl) (by kernel_rfl) (by kernel_rfl) (fun _ _ _ h => h) (Or.inl ⟨by kernel_rfl, ?hyr19⟩) ?hrr19
      case hyr19 => intro w; go_simp; try with_reducible rfl
      refine wpAny_take (i := 23) (v := ?_) rfl (by kernel_rfl) (by kernel_rfl) (by kernel_rfl) (fun _ _ _ h => h) (Or.inl ⟨by kernel_rfl, ?hyr23⟩) ?hrr23
      case hyr23 => intro w; go_simp; try with_reducible rfl
      refine wpAny_ready (rs := [20]) (by kernel_rfl) (by simp) ?_
      refine AllReady.cons rfl (fun K hK => ?_) AllReady.nil
      go_simp
      refine hK _ _ ?_
      clear hK K
      refine wpAny_ready (rs := [21]) (by kernel_rfl) (by simp) ?_
      refine AllReady.cons rfl (fun K hK => ?_) AllReady.nil
      refine step_append_sl _ (by kernel_rfl) (.tmp 90) (.tmp 91) 29 rfl w.heap.size 24 i0 (.int .u16 0) 2 Try.underlying29 hi hz0 hz1 hz2 rfl (.slice (some ⟨g, 0, none⟩) n cap) n (o.map vw) (by kernel_rfl) ?happ1 (w6.heap.size + 1 + 1) (some ⟨w6.heap.size + 1, 0, none⟩) 1 1 [vw 0] (by kernel_rfl) ?happ2 ?happ3 (by unfold maxLen; omega) (by omega) (by simp; omega) ?happ4
      case happ1 => exact (hown5'.alloc (.cells #[.int .u16 z1, .int .u16 z2] 24)).alloc (.cells #[.int .u16 0] 24)
      case happ2 => exact Sl.made' (w6.alloc (.cells #[.int .u16 z1, .int .u16 z2] 24)) _ _ [vw 0] 24 (World.size_alloc _ _) rfl (by simp [maxLen])
      case happ3 => intro u hu; simp at hu; subst hu; rfl
      intro v7 w7 hown7 hg7 hat7
      have hB7 : Below w.heap.size w w7 := (((hB5'.alloc h6 (.cells #[.int .u16 z1, .int .u16 z2] 24)).alloc (by simp; omega) (.cells #[.int .u16 0] 24)).drew).grown hg7 (by simp; omega) (fun k e => by simp [Value.ownBlock] at e; omega)
      obtain ⟨A7, c7, rfl, hs7⟩ := Sl.own hown7
      have hs7' : Sl w7 w7.heap.size A7 (n + 1) c7 ((o ++ [0]).map vw) := by rw [List.map_append]; exact hs7
      refine hK _ _ ?_
      clear hK K
      refine wpAny_ready (rs := [22]) (by kernel_rfl) (by simp) ?_
      refine AllReady.cons rfl (fun K hK => ?_) AllReady.nil
      go_simp
      (with_reducible refine (Ft.out _ w7.heap.size _ _ ?_).mono ?_)
      · exact hs7'
      rintro e w7 ⟨rfl, rfl⟩
      go_simp
      refine hK _ _ ?_
      clear hK K
      refine wpAny_take (i := 24) (v := ?_) rfl (by kernel_rfl) (by kernel_rfl) (by kernel_rfl) (fun _ _ _ h => h) (Or.inl ⟨by kernel_rfl, ?hyr24⟩) ?hrr24
      case hyr24 => intro w; go_simp; try with_reducible rfl
      refine wpAny_take (i := 25) (v := ?_) rfl (by kernel_rfl) (by kernel_rfl) (by kernel_rfl) (fun _ _ _ h => h) (Or.inl ⟨by kernel_rfl, ?hyr25⟩) ?hrr25
      case hyr25 => intro w; go_simp; try with_reducible rfl
      refine wpAny_take (i := 26) (v := ?_) rfl (by kernel_rfl) (by kernel_rfl) (by kernel_rfl) (fun _ _ _ h => h) (Or.inl ⟨by kernel_rfl, ?hyr26⟩) ?hrr26
      case hyr26 => intro w; go_simp; try with_reducible rfl
      refine wpAny_take (i := 27) (v := ?_) rfl (by kernel_rfl) (by kernel_rfl) (by kernel_rfl) (fun _ _ _ h => h) (Or.inl ⟨by kernel_rfl, ?hyr27⟩) ?hrr27
      case hyr27 => intro w; go_simp; try with_reducible rfl
      refine wpAny_take (i := 28) (v := ?_) rfl (by kernel_rfl) (by kernel_rfl) (by kernel_rfl) (fun _ _ _ h => h) (Or.inl ⟨by kernel_rfl, ?hyr28⟩) ?hrr28
      case hyr28 => intro w; go_simp; try with_reducible rfl
      refine wpAny_take (i := 29) (v := ?_) rfl (by kernel_rfl) (by kernel_rfl) (by kernel_rfl) (fun _ _ _ h => h) (Or.inl ⟨by kernel_rfl, ?hyr29⟩) ?hrr29
      case hyr29 => intro w; go_simp; try with_reducible rfl
      refine wpAny_take (i := 30) (v := ?_) rfl (by kernel_rfl) (by kernel_rfl) (by kernel_rfl) (fun _ _ _ h => h) (Or.inl ⟨by kernel_rfl, ?hyr30⟩) ?hrr30
      case hyr30 => intro w; go_simp; try with_reducible rfl
      refine wpAny_take (i := 31) (v := ?_) rfl (by kernel_rfl) (by kernel_rfl) (by kernel_rfl) (fun _ _ _ h => h) (Or.inl ⟨by kernel_rfl, ?hyr31⟩) ?hrr31
      case hyr31 => intro w; go_simp; try with_reducible rfl
      refine wpAny_take (i := 32) (v := ?_) rfl (by kernel_rfl) (by kernel_rfl) (by kernel_rfl) (fun _ _ _ h => h) (Or.inl ⟨by kernel_rfl, ?hyr32⟩) ?hrr32
      case hyr32 => intro w; go_simp; try with_reducible rfl
      refine wpAny_ready (rs := [33]) (by kernel_rfl) (by simp) ?_
      refine AllReady.cons rfl (fun K hK => ?_) AllReady.nil
      go_simp
      refine (wakes_any _).mono ?_
      rintro e w8 ⟨rfl, hB8⟩
      go_simp
      refine hK _ _ ?_
      clear hK K
      refine wpAny_take (i := 34) (v := ?_) rfl (by kernel_rfl) (by kernel_rfl) (by kernel_rfl) (fun _ _ _ h => h) (Or.inl ⟨by kernel_rfl, ?hyr34⟩) ?hrr34
      case hyr34 => intro w; go_simp; try with_reducible rfl
      refine wpAny_take (i := 35) (v := ?_) rfl (by kernel_rfl) (by kernel_rfl) (by kernel_rfl) (fun _ _ _ h => h) (Or.inl ⟨by kernel_rfl, ?hyr35⟩) ?hrr35
      case hyr35 => intro w; go_simp; try with_reducible rfl
      refine wpAny_done (by kernel_rfl) ?_ _
      have hB9 : Below w.heap.size w w8 := hB7.trans (hB8.mono hB7.size)
      go_wp2
      go_ret
      exact ⟨rfl, hB9⟩
end Go.Proofs.Ytkanbnfiblbkpaa
