/-
  The walk of the statement SumChange.
-/
import Derived.Test.YtkanbnfiblbkpaaWakes
import Derived.Test.YtkanbnfiblbkpaaAppend
import Derived.Deep.RegionWith
import Derived.Deep.DeepMust
namespace Go.Proofs.Ytkanbnfiblbkpaa
open Go Go.RowKit Go.Shelf

set_option maxHeartbeats 400000 in
theorem sumChange_out (A : Option Addr) (n c : Nat) (hn : n = 0 ∨ 2000 < n) (at_ now : Int) (w : World) :
    Calls Try.prog 5 #[.slice A n c, .int .i64 at_, .int .u16 now] w fun e W' => e = .returned (.bool true) ∧ Below w.heap.size w W' := by
  rcases hn with rfl | hn
  · go_enter Try.func5, Try.ntmps5
    go_wp2_with (go_at_call 7; refine (wakes_any _).mono ?_; rintro e w' ⟨rfl, hB⟩)
    go_ret
    exact ⟨rfl, hB⟩
  · have h0 : ((n : Int) == 0) = false := by simp; omega
    go_enter Try.func5, Try.ntmps5
    go_wp2_with (go_at_call 7; refine (wakes_any _).mono ?_; rintro e w' ⟨rfl, hB⟩)
    go_ret
    exact ⟨rfl, hB⟩

theorem tmod_gt (a n : Int) (hn : 0 < n) : -n < a.tmod n := by
  rcases Int.le_total 0 a with h | h
  · have := Int.tmod_nonneg n h
    omega
  · have h1 := (-a).tmod_lt_of_pos hn
    rw [Int.neg_tmod] at h1
    omega

/-- Is one of the first k not 0? -/
def anyOf (l : List Nat) : Bool := l.any (· != 0)

set_option maxHeartbeats 4000000 in
theorem sumChange_in (A : Option Addr) (n c : Nat) (hn0 : 0 < n) (hn : n ≤ 2000) (at_ : Int) (_hat : -9223372036854775808 ≤ at_ ∧ at_ ≤ 9223372036854775807) (now : Nat) (hnow : now < 65536)
    (l : List Nat) (hl : ∀ x ∈ l, x < 65536) (w : World) (hs : Sl w w.heap.size A n c (l.map vw)) :
    Calls Try.prog 5 #[.slice A n c, .int .i64 at_, vw now] w fun e W' => e = .returned (.bool true) ∧ Below w.heap.size w W' := by
  have hlen : l.length = n := by simpa using hs.1
  have HL := hide hlen
  clear hlen
  obtain ⟨i0, hi, hz0, hz1, hz2⟩ := info_parts infoU16
  obtain ⟨b, off, rfl, hb, hc⟩ := hs.at_ hn0
  have hA1 := at_.tmod_lt_of_pos (b := (n : Int)) (by omega)
  have hA2 := tmod_gt at_ (n : Int) (by omega)
  obtain ⟨k, hk, hkn⟩ : ∃ k : Nat, (at_.tmod (n : Int) + (n : Int)) % (n : Int) = (k : Int) ∧ k < n := by
    have h1 := Int.emod_nonneg (at_.tmod (n : Int) + (n : Int)) (b := (n : Int)) (by omega)
    have h2 := Int.emod_lt_of_pos (at_.tmod (n : Int) + (n : Int)) (b := (n : Int)) (by omega)
    exact ⟨((at_.tmod (n : Int) + (n : Int)) % (n : Int)).toNat, by omega, by omega⟩
  obtain ⟨x, hx⟩ : ∃ x, l[k]? = some x := ⟨l[k]'(by rw [HL.out]; exact hkn), List.getElem?_eq_getElem _⟩
  have HX := hide hx
  have hx16 : x < 65536 := hl x (List.mem_of_getElem? hx)
  have hcx : w.cell? ⟨b, off + k, none⟩ = some (vw x) := hc k _ (by simp [hx])
  clear hx hc
  have h0 : ((n : Int) == 0) = false := by simp; omega
  have hown := World.ownsRow_lit (base := w.heap.size) (e := 24) (size := 1) w #[] 0 (Nat.le_refl _) (Nat.zero_le _) rfl
  have hone : ∀ u ∈ l.map vw, u.oneCell' = true := by intro u hu; simp at hu; obtain ⟨x, _, rfl⟩ := hu; rfl
  go_enter Try.func5, Try.ntmps5
  go_wp2_with (at_builtin; refine wpList_append_sl _ rfl (.tmp 27) (.tmp 28) _ rfl w.heap.size 24 i0 (.int .u16 0) 2 Try.underlying29 hi hz0 hz1 hz2 rfl (.slice (some ⟨w.heap.size, 0, none⟩) 0 0) 0 [] rfl hown w.heap.size _ n c (l.map vw) rfl (hs.alloc (Nat.le_refl _) _) hone (by unfold maxLen; omega) (by omega) (by simp) ?_; intro v4 w4 hown4 hg4 hat4; simp only [Nat.zero_add, List.nil_append] at hown4; obtain ⟨g, cap, rfl, hg, hgs⟩ := hown4.form hn0; have hc4 : w4.cell? ⟨g, k, none⟩ = some (vw x) := (hown4.cellAt k (by omega)).trans (by simp [HX.out]); have hf4 := hown4.frozenAt k)
  have hB4 : Below w.heap.size w w4 := ((Below.refl w.heap.size w).alloc (Nat.le_refl _) _).grown hg4 (by simp) (fun k e => by simp [Value.ownBlock] at e; omega)
  have hst := hown4.stored k (vw now)
  rw [show (l.map vw).set k (vw now) = (l.set k now).map vw from by rw [List.map_set]] at hst
  have hB5 : Below w.heap.size w (w4.setCell ⟨g, k, none⟩ (vw now)) := hB4.setCell (p := ⟨g, k, none⟩) hg _
  obtain ⟨w5, hw5⟩ : ∃ w5, w4.setCell ⟨g, k, none⟩ (vw now) = w5 := ⟨_, rfl⟩
  rw [hw5] at hst hB5
  have hown5 := hst.1
  have hsum := sum_set l k now (by rw [HL.out]; exact hkn)
  rw [HX.out] at hsum
  have hol : ∀ y ∈ l.set k now, y < 65536 := by
    intro y hy
    rcases List.mem_or_eq_of_mem_set hy with h | h
    · exact hl y h
    · omega
  have hoz := sum_zero (l.set k now)
  have hol2 : (l.set k now).length = n := by rw [List.length_set, HL.out]
  have hso := Sl.own' hown5
  have hsl5 : Sl w5 w.heap.size (some ⟨b, off, none⟩) n c (l.map vw) := hs.below hB5
  have hcx5 : w5.cell? ⟨b, off + k, none⟩ = some (vw x) := (hB5.cell (p := ⟨b, off + k, none⟩) hb).trans hcx
  have HS := hide hsum
  have HZ := hide hoz
  have HO := hide hol2
  have hco : ∀ j, j < n → w5.cell? ⟨g, j, none⟩ = some (vw ((l.set k now)[j]?.getD 0)) := by
    intro j hj
    rw [hown5.cellAt j (by omega), List.getElem?_map, List.getElem?_eq_getElem (by rw [HO.out]; exact hj)]
    rfl
  obtain ⟨o, ho⟩ : ∃ o, l.set k now = o := ⟨_, rfl⟩
  rw [ho] at hown5 hol hso HS HZ HO hco
  have HC := hide hco
  show Code.wp _ _ _ _ (w4.setCell ⟨g, k, none⟩ (vw now))
  rw [hw5]
  clear hst hsum hoz hol2 ho hw5 hco hc4 hf4 hown4 hg4 hat4 hB4 hcx hown
  go_loop [9, 10] (fun s i => ∃ j : Nat, j ≤ n ∧ i = .int .i64 j ∧ s = .bool (anyOf (o.take j))) (fun _ i => n - (intOf i).toNat)
  case atStart => exact ⟨0, Nat.zero_le _, rfl, rfl⟩
  case round =>
    obtain ⟨j, hj, rfl, rfl⟩ := hrel
    by_cases hlt : j < n
    · have hoj : o[j]? = some (o[j]?.getD 0) := by rw [List.getElem?_eq_getElem (by rw [HO.out]; exact hlt)]; rfl
      have htk : anyOf (o.take (j + 1)) = (anyOf (o.take j) || (o[j]?.getD 0 != 0)) := by
        unfold anyOf
        rw [List.take_add_one, hoj]
        simp
      have HT := hide htk
      have hcj := HC.out j hlt
      clear hoj htk
      obtain ⟨y, hy⟩ : ∃ y, o[j]?.getD 0 = y := ⟨_, rfl⟩
      rw [hy] at HT hcj
      clear hy
      cases hb0 : anyOf (o.take j)
      · go_wp2
        go_round
        case rel => exact ⟨j + 1, by omega, by go_num, by rw [HT.out, hb0]; congr 1; rw [Bool.eq_iff_iff]; simp⟩
        case measure => simp [intOf]; omega
      · go_wp2
        go_round
        case rel => exact ⟨j + 1, by omega, by go_num, by rw [HT.out, hb0]; rfl⟩
        case measure => simp [intOf]; omega
    · obtain rfl : j = n := by omega
      have hany : anyOf (o.take j) = anyOf o := by rw [List.take_of_length_le (by rw [HO.out]; omega)]
      rw [hany]
      clear hany
      cases hao : anyOf o
      · have hz : o.sum = 0 := HZ.out.2 (fun y hy => by
          unfold anyOf at hao
          rw [List.any_eq_false] at hao
          simpa using hao y hy)
        have HZ0 := hide hz
        have HA := hide hao
        clear hz hao
        go_wp2_with fail
        refine (fold_val _ j cap _ o 0 (by rw [HZ0.out]; rfl) hol (by omega) _ hso).mono ?_
        rintro e w6 ⟨rfl, rfl⟩
        go_wp2_with fail
        refine (wakes_any _).mono ?_
        rintro e w8 ⟨rfl, hB8⟩
        go_wp2_with fail
        go_ret
        exact ⟨rfl, hB5.trans (hB8.mono hB5.size)⟩
      · have hpos : 0 < o.sum := by
          rcases Nat.eq_zero_or_pos o.sum with h | h
          · exfalso
            have hz := HZ.out.1 h
            unfold anyOf at hao
            rw [List.any_eq_true] at hao
            obtain ⟨y, hy, hne⟩ := hao
            simp [hz y hy] at hne
          · exact h
        have hch := change_ok l.sum o.sum x now hx16 hnow (by have := sum_set l k 0 (by rw [HL.out]; exact hkn); rw [HX.out] at this; simp at this; omega) (by have := HS.out; simp at this; omega) hpos
        have hcl := can_lt l.sum
        have hco := can_lt o.sum
        have hjj : j ≤ 1000000 := by omega
        have F1 := hide (fun (W : World) (h : Sl W w.heap.size (some ⟨b, off, none⟩) j c (l.map vw)) => fold_any _ j c _ l hl hjj W h)
        have F2 := hide (fun (W : World) (B : Nat) (h : Sl W B (some ⟨g, 0, none⟩) j cap (o.map vw)) => fold_any _ j cap _ o hol hjj W h)
        have C := hide (fun W : World => change_any (65535 - can l.sum) x now (by omega) hx16 hnow W)
        rw [hch] at C
        have e1 := u16_compl _ hcl
        have e2 := u16_compl _ hco
        obtain ⟨z1, hz1⟩ : ∃ z1, can l.sum = z1 := ⟨_, rfl⟩
        obtain ⟨z2, hz2⟩ : ∃ z2, can o.sum = z2 := ⟨_, rfl⟩
        obtain ⟨v1, hv1⟩ : ∃ v1, 65535 - can l.sum = v1 := ⟨_, rfl⟩
        obtain ⟨v2, hv2⟩ : ∃ v2, 65535 - can o.sum = v2 := ⟨_, rfl⟩
        rw [hv1] at e1 C
        rw [hv2] at e2 C
        rw [hz1] at e1 F1
        rw [hz2] at e2 F2
        clear hch hao hz1 hz2 hv1 hv2 hcl hco
        have hkj : (k : Int) < (j : Int) := by omega
        have hk0 : (0 : Int) ≤ (k : Int) := by omega
        have hsig : IntKind.u16.signed = false := rfl
        go_wp2
        go_region_with (first | (go_at_call_of 10 b; refine (F1.out _ ?_).mono ?_; exact hsl5; rintro e w6 ⟨rfl, rfl⟩) | (go_at_call 11; go_must (refine (C.out _).mono ?_); rintro e w6 ⟨rfl, hB6⟩; have hso6 := hso.drew.below hB6) | (go_at_call_of 10 g; refine (F2.out _ w5.heap.size ?_).mono ?_; exact hso6; rintro e w7 ⟨rfl, rfl⟩) | (go_at_call 7; refine (wakes_any _).mono ?_; rintro e w8 ⟨rfl, hB8⟩; have hB9 : Below w.heap.size w w8 := (hB5.drew.trans ((hB6.trans (hB8.mono hB6.size)).mono hB5.size))))
        all_goals
          go_wp2
          go_ret
          exact ⟨rfl, hB9⟩
end Go.Proofs.Ytkanbnfiblbkpaa
