/-
  The walks of the document's decimal, end and Text.
-/
import Derived.Test.YtdlpkphbgbffpaaDoorRefBytes
import Derived.Test.YtdlpkphbgbffpaaDoorTexts
import Derived.Test.YtdlpkphbgbffpaaDoorWakes
namespace Go.Proofs.YtdlpkphbgbffpaaDoor
open Go Go.RowKit Go.Shelf
set_option linter.unusedSimpArgs false
set_option linter.unusedVariables false
attribute [local go_sem] Oper.semAt_some
theorem dec_len (u : Nat) (h : u < 4294967296) : (Lib.decDigits u).length ≤ 21 := by
  have := itoa_len (u : Int) (by omega) (by omega)
  rwa [Lib.itoa_nonneg] at this
theorem strOne (x : Nat) (h : x < 10) : strOfNums [48 + (x : Int)] = ⟨(Lib.decDigits x).toArray⟩ := by
  rw [Lib.decDigits_one h]
  unfold strOfNums
  simp only [List.map_cons, List.map_nil]
  rw [show (48 + (x : Int)).toNat = 48 + x by omega]
theorem str_app (l m : List UInt8) : (⟨l.toArray⟩ : ByteArray) ++ ⟨m.toArray⟩ = ⟨(l ++ m).toArray⟩ := by
  apply ByteArray.ext
  simp
set_option maxRecDepth 100000 in
set_option maxHeartbeats 1000000 in
theorem decimal_any : ∀ (u : Nat) (w : World), u < 4294967296 → Calls Tryd.prog 44 #[vi u] w fun e W' => e = .returned (.string ⟨(Lib.decDigits u).toArray⟩) ∧ Below w.heap.size w W' := by
  intro u
  induction u using Nat.strongRecOn with
  | _ u ih =>
    intro w hu
    by_cases h : u < 10
    · clear ih
      go_enter Tryd.func44, Tryd.ntmps44
      have h0 : (0 : Int) ≤ (u : Int) := by omega
      have h1 : (u : Int) < 10 := by omega
      have hs : Sl (w.alloc (.cells #[vb (48 + (u : Int))] 5)) (w.heap.size + 1) (some ⟨w.heap.size, 0, none⟩) 1 1 ([48 + (u : Int)].map vb) := Sl.made' w _ _ [vb (48 + (u : Int))] 5 rfl rfl (by simp [maxLen])
      have hc := run_str hs (by omega)
      rw [strOne u h] at hc
      go_wp2
      go_ret
      exact ⟨rfl, (Below.refl _ w).alloc (Nat.le_refl _) _⟩
    · have h1 := ih (u / 10) (by omega)
      have h2 := ih (u % 10) (by omega)
      have l1 := dec_len (u / 10) (by omega)
      have l2 := dec_len (u % 10) (by omega)
      have e : Lib.decDigits u = Lib.decDigits (u / 10) ++ Lib.decDigits (u % 10) := by
        rw [Lib.decDigits_one (show u % 10 < 10 by omega), Lib.decDigits, dif_neg h]
      have H1 := hide (fun W => (h1 W (by omega)))
      have H2 := hide (fun W => (h2 W (by omega)))
      rw [show vi ((u / 10 : Nat) : Int) = vi ((u : Int) / 10) from by rw [Int.natCast_ediv]; rfl] at H1
      rw [show vi ((u % 10 : Nat) : Int) = vi ((u : Int) % 10) from by rw [Int.natCast_emod]; rfl] at H2
      have HE := hide e
      clear ih h1 h2 e
      go_enter Tryd.func44, Tryd.ntmps44
      have g0 : ¬ ((u : Int) < 10) := by omega
      go_wp2_with fail
      refine (H1.out _).mono ?_
      rintro e w1 ⟨rfl, hB1⟩
      go_wp2_with fail
      refine (H2.out _).mono ?_
      rintro e w2 ⟨rfl, hB2⟩
      go_wp2
      go_ret
      refine ⟨?_, hB1.trans (hB2.mono hB1.size)⟩
      rw [HE.out, ← str_app]
      rfl
/-- The text so far: the highest `k` of a number's four bytes. -/
def front (x : Int) : Nat → List UInt8
  | 0 => []
  | k + 1 => (if k = 0 then [] else front x k ++ [46]) ++ Lib.itoa (x / 256 ^ (3 - k) % 256)
theorem front_len (x : Int) : ∀ k, (front x k).length ≤ 22 * k
  | 0 => by simp [front]
  | k + 1 => by
    have h1 := front_len x k
    have h2 := itoa_len (x / 256 ^ (3 - k) % 256) (mod256 _) (by have := Int.emod_lt_of_pos (x / 256 ^ (3 - k)) (show (0 : Int) < 256 by decide); omega)
    simp only [front, List.length_append]
    split <;> simp <;> omega
theorem front_four (x : Int) : front x 4 = octs x 4 := by simp [front, octs]
theorem itoa_dec {x : Int} (h : 0 ≤ x) : Lib.itoa x = Lib.decDigits x.toNat := by
  obtain ⟨u, rfl⟩ := Int.eq_ofNat_of_zero_le h
  rw [Lib.itoa_nonneg]
  rfl
theorem decimal_int (x : Int) (h0 : 0 ≤ x) (h1 : x < 4294967296) (w : World) : Calls Tryd.prog 44 #[vi x] w fun e W' => e = .returned (.string ⟨(Lib.itoa x).toArray⟩) ∧ Below w.heap.size w W' := by
  obtain ⟨u, rfl⟩ := Int.eq_ofNat_of_zero_le h0
  rw [Lib.itoa_nonneg]
  exact decimal_any u w (by omega)
set_option maxRecDepth 100000 in
set_option maxHeartbeats 1000000 in
theorem refEnd_any (x p : Int) (w : World) (h0 : 0 ≤ x) (h1 : x < 4294967296) (p0 : 0 ≤ p) (p1 : p < 65536) :
    Calls Tryd.prog 35 #[.int .u32 x, .int .u16 p] w fun e W' => e = .returned (.string ⟨(endT x p).toArray⟩) ∧ Below w.heap.size w W' := by
  have lp := itoa_len p p0 (by omega)
  go_enter Tryd.func35, Tryd.ntmps35
  go_wp2_with fail
  refine (refBytes_any x 4 w (by omega) h0 h1).mono ?_
  rintro e w1 ⟨⟨v, rfl, hown⟩, hB1⟩
  obtain ⟨A, c, rfl, hs⟩ := Sl.own hown
  clear hown
  go_wp2
  go_loopw [6, 7] (fun o i wr => ∃ k : Nat, k ≤ 4 ∧ i = .int .i64 k ∧ o = .string ⟨(front x k).toArray⟩ ∧ Below w.heap.size w wr ∧ Sl wr w1.heap.size A 4 c ((bytesL x 4).map vb) ∧ w1.heap.size ≤ wr.heap.size) (fun _ i _ => 4 - (intOf i).toNat)
  case atStart => exact ⟨0, by omega, rfl, rfl, hB1, hs, Nat.le_refl _⟩
  case round =>
    obtain ⟨k, hk, rfl, rfl, hB, hsl, hle⟩ := hrel
    have fl := front_len x k
    by_cases hlt : k < 4
    · obtain ⟨b, off, rfl, hb, hc⟩ := hsl.at_ (by omega)
      obtain ⟨d, hd⟩ : ∃ d, d = x / 256 ^ (3 - k) % 256 := ⟨_, rfl⟩
      have d0 : 0 ≤ d := hd ▸ mod256 _
      have d1 : d < 256 := by rw [hd]; exact Int.emod_lt_of_pos _ (by decide)
      have cx : wr.cell? ⟨b, off + k, none⟩ = some (vb d) := hc k (vb d) (by
        rw [hd]
        rcases (show k = 0 ∨ k = 1 ∨ k = 2 ∨ k = 3 by omega) with rfl | rfl | rfl | rfl <;> rfl)
      have ld := itoa_len d d0 (by omega)
      have HF := hide (show front x (k + 1) = (if k = 0 then [] else front x k ++ [46]) ++ Lib.itoa d from by rw [hd]; rfl)
      clear hc hd
      have g1 : (k : Int) < 4 := by omega
      have g2 : (0 : Int) ≤ (k : Int) := by omega
      have fin : ∀ w2, Below wr.heap.size wr w2 → (Below w.heap.size w w2 ∧ Sl w2 w1.heap.size (some ⟨b, off, none⟩) 4 c ((bytesL x 4).map vb) ∧ w1.heap.size ≤ w2.heap.size) := fun w2 h => ⟨hB.trans (h.mono hB.size), hsl.below (h.mono hle), Nat.le_trans hle h.size⟩
      rcases Nat.eq_zero_or_pos k with rfl | hpos
      · have cx0 : wr.cell? ⟨b, off, none⟩ = some (vb d) := by simpa using cx
        have hf0 : front x 0 = [] := rfl
        rw [hf0]
        go_wp2_with fail
        refine (decimal_int d d0 (by omega) _).mono ?_
        rintro e w2 ⟨rfl, hB2⟩
        go_wp2
        refine ⟨⟨1, by omega, rfl, ?_, fin _ hB2⟩, by simp [intOf]⟩
        rw [HF.out, if_pos trivial, ← str_app]
      · go_wp2_with fail
        refine (decimal_int d d0 (by omega) _).mono ?_
        rintro e w2 ⟨rfl, hB2⟩
        go_wp2
        refine ⟨⟨k + 1, by omega, by go_num, ?_, fin _ hB2⟩, by simp [intOf]; omega⟩
        rw [HF.out, if_neg (by omega), ← str_app, ← str_app]
    · obtain rfl : k = 4 := by omega
      go_wp2_with fail
      refine (decimal_int p p0 (by omega) _).mono ?_
      rintro e w2 ⟨rfl, hB2⟩
      go_wp2
      go_ret
      refine ⟨?_, hB.trans (hB2.mono hB.size)⟩
      rw [endT, ← front_four, show (58 : UInt8) :: Lib.itoa p = [58] ++ Lib.itoa p from rfl, ← List.append_assoc, ← str_app, ← str_app]
      rfl
/-- A tuple in a block of the call's own. -/
structure On (w : World) (g : Nat) (t : Tup) (W : World) : Prop where
  t : Bt W g t
  below : Below w.heap.size w W
theorem On.next {w W W' : World} {g : Nat} {t : Tup} (h : On w g t W) (hb : Below W.heap.size W W') : On w g t W' := ⟨h.t.below hb h.t.lt, h.below.trans (hb.mono h.below.size)⟩
theorem On.drew {w W : World} {g : Nat} {t : Tup} (h : On w g t W) : On w g t W.drew := h.next (Below.refl _ W).drew
theorem run_loadc {a : Act} {s : Tmp} {g i : Nat} {T : TypeId} {v : Value} {W : World} {o : Oper} (ho : o.op = .load T (.tmp s)) (hs : a.tmps.getD s undef = .pointer (some ⟨g, i, none⟩)) (hT : (isAgg T).run Tryd.prog W = .ok false W) (hc : W.cell? ⟨g, i, none⟩ = some v) : (execOp a.eval o).run Tryd.prog W = .ok (.value v) W := by
  have hs' : a.tmps[s]?.getD undef = .pointer (some ⟨g, i, none⟩) := by simpa using hs
  unfold execOp
  simp [ho, Act.eval, hs', go_sem, hT, hc]
theorem run_cat {a : Act} {X Y : Operand} {o : Oper} (l m : List UInt8) (ho : o.op = .binOp .add 9 X Y 9) (hX : a.eval X = .string ⟨l.toArray⟩) (hY : a.eval Y = .string ⟨m.toArray⟩) (h : l.length + m.length ≤ 1000) (W : World) : (execOp a.eval o).run Tryd.prog W = .ok (.value (.string ⟨(l ++ m).toArray⟩)) W := by
  have hr := run_string_add_sum (P := Tryd.prog) (w := W) ⟨l.toArray⟩ ⟨m.toArray⟩ (by simp only [strSize]; omega)
  rw [str_app] at hr
  generalize a.eval = ρ at hX hY
  unfold execOp
  simp [ho, hX, hY, go_sem, hr, Sem.run_bind]
/-- The operations of Text's statement. -/
noncomputable def T1 : Array Oper := opsOf Tryd.f20 1
--FACTS
theorem T1_s : Region.noSelect T1 = true := by kernel_rfl
theorem T1_f0 : Region.free .any T1 #[false, false, false, false, false, false, false, false, false, false, false, false, false] 0 = true := by kernel_rfl
theorem T1_c0 : (Region.ready .any T1 #[false, false, false, false, false, false, false, false, false, false, false, false, false]).contains 0 = true := by kernel_rfl
theorem T1_f1 : Region.free .any T1 #[true, false, false, false, false, false, false, false, false, false, false, false, false] 1 = true := by kernel_rfl
theorem T1_c1 : (Region.ready .any T1 #[true, false, false, false, false, false, false, false, false, false, false, false, false]).contains 1 = true := by kernel_rfl
theorem T1_f2 : Region.free .any T1 #[true, true, false, false, false, false, false, false, false, false, false, false, false] 2 = true := by kernel_rfl
theorem T1_c2 : (Region.ready .any T1 #[true, true, false, false, false, false, false, false, false, false, false, false, false]).contains 2 = true := by kernel_rfl
theorem T1_f3 : Region.free .any T1 #[true, true, true, false, false, false, false, false, false, false, false, false, false] 3 = true := by kernel_rfl
theorem T1_c3 : (Region.ready .any T1 #[true, true, true, false, false, false, false, false, false, false, false, false, false]).contains 3 = true := by kernel_rfl
theorem T1_f6 : Region.free .any T1 #[true, true, true, true, false, false, false, false, false, false, false, false, false] 6 = true := by kernel_rfl
theorem T1_c6 : (Region.ready .any T1 #[true, true, true, true, false, false, false, false, false, false, false, false, false]).contains 6 = true := by kernel_rfl
theorem T1_f7 : Region.free .any T1 #[true, true, true, true, false, false, true, false, false, false, false, false, false] 7 = true := by kernel_rfl
theorem T1_c7 : (Region.ready .any T1 #[true, true, true, true, false, false, true, false, false, false, false, false, false]).contains 7 = true := by kernel_rfl
theorem T1_f8 : Region.free .any T1 #[true, true, true, true, false, false, true, true, false, false, false, false, false] 8 = true := by kernel_rfl
theorem T1_c8 : (Region.ready .any T1 #[true, true, true, true, false, false, true, true, false, false, false, false, false]).contains 8 = true := by kernel_rfl
theorem T1_f9 : Region.free .any T1 #[true, true, true, true, false, false, true, true, true, false, false, false, false] 9 = true := by kernel_rfl
theorem T1_c9 : (Region.ready .any T1 #[true, true, true, true, false, false, true, true, true, false, false, false, false]).contains 9 = true := by kernel_rfl
theorem T1_r4 : Region.ready .any T1 #[true, true, true, true, false, false, true, true, true, true, false, false, false] = [4] := by kernel_rfl
theorem T1_f5 : Region.free .any T1 #[true, true, true, true, true, false, true, true, true, true, false, false, false] 5 = true := by kernel_rfl
theorem T1_c5 : (Region.ready .any T1 #[true, true, true, true, true, false, true, true, true, true, false, false, false]).contains 5 = true := by kernel_rfl
theorem T1_r10 : Region.ready .any T1 #[true, true, true, true, true, true, true, true, true, true, false, false, false] = [10] := by kernel_rfl
theorem T1_f11 : Region.free .any T1 #[true, true, true, true, true, true, true, true, true, true, true, false, false] 11 = true := by kernel_rfl
theorem T1_c11 : (Region.ready .any T1 #[true, true, true, true, true, true, true, true, true, true, true, false, false]).contains 11 = true := by kernel_rfl
theorem T1_f12 : Region.free .any T1 #[true, true, true, true, true, true, true, true, true, true, true, true, false] 12 = true := by kernel_rfl
theorem T1_c12 : (Region.ready .any T1 #[true, true, true, true, true, true, true, true, true, true, true, true, false]).contains 12 = true := by kernel_rfl
--ENDFACTS
set_option maxRecDepth 100000 in
set_option maxHeartbeats 4000000 in
theorem refText_any (t : Tup) (w : World) (ht : t.In) : Calls Tryd.prog 20 #[tv t] w fun e W' => e = .returned (.string ⟨(textT t).toArray⟩) ∧ Below w.heap.size w W' := by
  obtain ⟨⟨hs0, hs1⟩, ⟨hd0, hd1⟩, ⟨hp0, hp1⟩, ⟨hq0, hq1⟩⟩ := ht
  have l1 := endT_len t.src t.sp hp0 hp1
  have l2 := endT_len t.dst t.dp hq0 hq1
  go_enter Tryd.func20, Tryd.ntmps20
  go_wp2
  obtain ⟨W0, hW0⟩ : ∃ W0, w.alloc (.cells #[.int .u32 t.src, .int .u32 t.dst, .int .u16 t.sp, .int .u16 t.dp] 25) = W0 := ⟨_, rfl⟩
  have hA : Bt W0 w.heap.size t := hW0 ▸ Bt.new w t
  have hW : Below w.heap.size w W0 := hW0 ▸ (Below.refl _ w).alloc (Nat.le_refl _) _
  rw [hW0]
  clear hW0
  --R1
  refine region_as (R := T1) (by kernel_rfl) ?_
  refine wp_region_held_drew (S := On w w.heap.size t) (by kernel_rfl) ?_ (fun hHeld => ?_)
  · exact (On.mk hA hW).drew
  refine listed_as (L := #[false, false, false, false, false, false, false, false, false, false, false, false, false]) (by kernel_rfl) ?_
  refine take_bare (i := 0) (some 3) (Go.Op.fieldAddr 25 (Go.Operand.tmp 1) 0) 0 #[true, false, false, false, false, false, false, false, false, false, false, false, false] (v := ?_) hHeld rfl (by kernel_rfl) (by kernel_rfl) (by kernel_rfl) (by kernel_rfl) T1_s T1_f0 T1_c0 (by kernel_rfl) (fun _ _ _ h => h) ?hya0_1 ?_
  case hya0_1 => intro w hSw; clear hSw; go_simp; try with_reducible rfl
  try simp only [Act.put, List.setIfInBounds_toArray, List.set_cons_zero, List.set_cons_succ]
  refine take_bare (i := 1) (some 4) (Go.Op.load 22 (Go.Operand.tmp 3)) 22 #[true, true, false, false, false, false, false, false, false, false, false, false, false] (v := (.int .u32 t.src)) hHeld rfl (by kernel_rfl) (by kernel_rfl) (by kernel_rfl) (by kernel_rfl) T1_s T1_f1 T1_c1 (by kernel_rfl) (fun _ _ _ h => h) (fun W hS => run_loadc (T := 22) (s := 3) (by kernel_rfl) (by kernel_rfl) (by kernel_rfl) hS.t.c0) ?_
  try simp only [Act.put, List.setIfInBounds_toArray, List.set_cons_zero, List.set_cons_succ]
  refine take_bare (i := 2) (some 5) (Go.Op.fieldAddr 25 (Go.Operand.tmp 1) 2) 0 #[true, true, true, false, false, false, false, false, false, false, false, false, false] (v := ?_) hHeld rfl (by kernel_rfl) (by kernel_rfl) (by kernel_rfl) (by kernel_rfl) T1_s T1_f2 T1_c2 (by kernel_rfl) (fun _ _ _ h => h) ?hya2_3 ?_
  case hya2_3 => intro w hSw; clear hSw; go_simp; try with_reducible rfl
  try simp only [Act.put, List.setIfInBounds_toArray, List.set_cons_zero, List.set_cons_succ]
  refine take_bare (i := 3) (some 6) (Go.Op.load 23 (Go.Operand.tmp 5)) 23 #[true, true, true, true, false, false, false, false, false, false, false, false, false] (v := (.int .u16 t.sp)) hHeld rfl (by kernel_rfl) (by kernel_rfl) (by kernel_rfl) (by kernel_rfl) T1_s T1_f3 T1_c3 (by kernel_rfl) (fun _ _ _ h => h) (fun W hS => run_loadc (T := 23) (s := 5) (by kernel_rfl) (by kernel_rfl) (by kernel_rfl) hS.t.c2) ?_
  try simp only [Act.put, List.setIfInBounds_toArray, List.set_cons_zero, List.set_cons_succ]
  refine take_bare (i := 6) (some 9) (Go.Op.fieldAddr 25 (Go.Operand.tmp 1) 1) 0 #[true, true, true, true, false, false, true, false, false, false, false, false, false] (v := ?_) hHeld rfl (by kernel_rfl) (by kernel_rfl) (by kernel_rfl) (by kernel_rfl) T1_s T1_f6 T1_c6 (by kernel_rfl) (fun _ _ _ h => h) ?hya6_5 ?_
  case hya6_5 => intro w hSw; clear hSw; go_simp; try with_reducible rfl
  try simp only [Act.put, List.setIfInBounds_toArray, List.set_cons_zero, List.set_cons_succ]
  refine take_bare (i := 7) (some 10) (Go.Op.load 22 (Go.Operand.tmp 9)) 22 #[true, true, true, true, false, false, true, true, false, false, false, false, false] (v := (.int .u32 t.dst)) hHeld rfl (by kernel_rfl) (by kernel_rfl) (by kernel_rfl) (by kernel_rfl) T1_s T1_f7 T1_c7 (by kernel_rfl) (fun _ _ _ h => h) (fun W hS => run_loadc (T := 22) (s := 9) (by kernel_rfl) (by kernel_rfl) (by kernel_rfl) hS.t.c1) ?_
  try simp only [Act.put, List.setIfInBounds_toArray, List.set_cons_zero, List.set_cons_succ]
  refine take_bare (i := 8) (some 11) (Go.Op.fieldAddr 25 (Go.Operand.tmp 1) 3) 0 #[true, true, true, true, false, false, true, true, true, false, false, false, false] (v := ?_) hHeld rfl (by kernel_rfl) (by kernel_rfl) (by kernel_rfl) (by kernel_rfl) T1_s T1_f8 T1_c8 (by kernel_rfl) (fun _ _ _ h => h) ?hya8_7 ?_
  case hya8_7 => intro w hSw; clear hSw; go_simp; try with_reducible rfl
  try simp only [Act.put, List.setIfInBounds_toArray, List.set_cons_zero, List.set_cons_succ]
  refine take_bare (i := 9) (some 12) (Go.Op.load 23 (Go.Operand.tmp 11)) 23 #[true, true, true, true, false, false, true, true, true, true, false, false, false] (v := (.int .u16 t.dp)) hHeld rfl (by kernel_rfl) (by kernel_rfl) (by kernel_rfl) (by kernel_rfl) T1_s T1_f9 T1_c9 (by kernel_rfl) (fun _ _ _ h => h) (fun W hS => run_loadc (T := 23) (s := 11) (by kernel_rfl) (by kernel_rfl) (by kernel_rfl) hS.t.c3) ?_
  try simp only [Act.put, List.setIfInBounds_toArray, List.set_cons_zero, List.set_cons_succ]
  refine step_bare (i := 4) (some 7) (Go.Op.call { callee := Go.Callee.value (Go.Operand.func 35), args := #[Go.Operand.tmp 4, Go.Operand.tmp 6], argTypes := #[22, 23] }) 9 #[true, true, true, true, true, false, true, true, true, true, false, false, false] T1_r4 rfl (by kernel_rfl) (by kernel_rfl) (by kernel_rfl) (by kernel_rfl) (by kernel_rfl) (fun K hK => ?_)
  go_simp
  (with_reducible refine (refEnd_any t.src t.sp _ hs0 hs1 hp0 hp1).mono ?_)
  rintro e w4 ⟨rfl, hB4⟩
  go_simp
  refine hK.out _ _ ?_ (fun hHeld => ?_)
  · exact hHeld.next hB4
  clear hK K
  try simp only [Act.put, List.setIfInBounds_toArray, List.set_cons_zero, List.set_cons_succ]
  refine take_bare (i := 5) (some 8) (Go.Op.binOp Go.BinOp.add 9 (Go.Operand.tmp 7) (Go.Operand.const (Go.Value.string { data := #[62] })) 9) 9 #[true, true, true, true, true, true, true, true, true, true, false, false, false] (v := (.string ⟨(endT t.src t.sp ++ [62]).toArray⟩)) hHeld rfl (by kernel_rfl) (by kernel_rfl) (by kernel_rfl) (by kernel_rfl) T1_s T1_f5 T1_c5 (by kernel_rfl) (fun _ _ _ h => h) (fun W hS => run_cat (X := .tmp 7) (Y := .const (.string ⟨#[62]⟩)) _ [62] (by kernel_rfl) (by kernel_rfl) (by kernel_rfl) (by simp; omega) W) ?_
  try simp only [Act.put, List.setIfInBounds_toArray, List.set_cons_zero, List.set_cons_succ]
  refine step_bare (i := 10) (some 13) (Go.Op.call { callee := Go.Callee.value (Go.Operand.func 35), args := #[Go.Operand.tmp 10, Go.Operand.tmp 12], argTypes := #[22, 23] }) 9 #[true, true, true, true, true, true, true, true, true, true, true, false, false] T1_r10 rfl (by kernel_rfl) (by kernel_rfl) (by kernel_rfl) (by kernel_rfl) (by kernel_rfl) (fun K hK => ?_)
  go_simp
  (with_reducible refine (refEnd_any t.dst t.dp _ hd0 hd1 hq0 hq1).mono ?_)
  rintro e w10 ⟨rfl, hB10⟩
  go_simp
  refine hK.out _ _ ?_ (fun hHeld => ?_)
  · exact hHeld.next hB10
  clear hK K
  try simp only [Act.put, List.setIfInBounds_toArray, List.set_cons_zero, List.set_cons_succ]
  refine take_bare (i := 11) (some 14) (Go.Op.binOp Go.BinOp.add 9 (Go.Operand.tmp 8) (Go.Operand.tmp 13) 9) 9 #[true, true, true, true, true, true, true, true, true, true, true, true, false] (v := (.string ⟨(endT t.src t.sp ++ [62] ++ endT t.dst t.dp).toArray⟩)) hHeld rfl (by kernel_rfl) (by kernel_rfl) (by kernel_rfl) (by kernel_rfl) T1_s T1_f11 T1_c11 (by kernel_rfl) (fun _ _ _ h => h) (fun W hS => run_cat (X := .tmp 8) (Y := .tmp 13) (endT t.src t.sp ++ [62]) _ (by kernel_rfl) (by kernel_rfl) (by kernel_rfl) (by simp; omega) W) ?_
  try simp only [Act.put, List.setIfInBounds_toArray, List.set_cons_zero, List.set_cons_succ]
  refine take_bare (i := 12) (some 2) (Go.Op.assign (Go.Operand.tmp 14)) 9 #[true, true, true, true, true, true, true, true, true, true, true, true, true] (v := ?_) hHeld rfl (by kernel_rfl) (by kernel_rfl) (by kernel_rfl) (by kernel_rfl) T1_s T1_f12 T1_c12 (by kernel_rfl) (fun _ _ _ h => h) ?hya12_11 ?_
  case hya12_11 => intro w hSw; clear hSw; go_simp; try with_reducible rfl
  try simp only [Act.put, List.setIfInBounds_toArray, List.set_cons_zero, List.set_cons_succ]
  refine wpAnyH_done (by kernel_rfl) ?_ _
  try simp only [Act.put, List.setIfInBounds_toArray, List.set_cons_zero, List.set_cons_succ]
  go_wp2
  go_ret
  refine ⟨?_, hHeld.below⟩
  rw [textT, show (62 : UInt8) :: endT t.dst t.dp = [62] ++ endT t.dst t.dp from rfl, ← List.append_assoc]
  rfl
end Go.Proofs.YtdlpkphbgbffpaaDoor
