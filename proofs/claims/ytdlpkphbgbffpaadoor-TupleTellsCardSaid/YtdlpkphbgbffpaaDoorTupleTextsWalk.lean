/-
  The walk of TupleTexts.
-/
import Derived.Test.YtdlpkphbgbffpaaDoorTexts
import Derived.Test.YtdlpkphbgbffpaaDoorWakes
namespace Go.Proofs.YtdlpkphbgbffpaaDoor
open Go Go.RowKit Go.Shelf
set_option linter.unusedSimpArgs false
set_option linter.unusedVariables false
attribute [local go_sem] Oper.semAt_some
/-- Two tuples that lie in blocks of the call's own. -/
structure Duo (w : World) (a b : Tup) (W : World) : Prop where
  a : Bt W w.heap.size a
  b : Bt W (w.heap.size + 1) b
  below : Below w.heap.size w W
section
variable {w W W' : World} {a b : Tup}
theorem Duo.next (h : Duo w a b W) (hb : Below W.heap.size W W') : Duo w a b W' := ⟨h.a.below hb h.a.lt, h.b.below hb h.b.lt, h.below.trans (hb.mono h.below.size)⟩
theorem Duo.alloc (h : Duo w a b W) (o : Obj) : Duo w a b (W.alloc o) := h.next ((Below.refl _ W).alloc (Nat.le_refl _) o)
theorem Duo.drew (h : Duo w a b W) : Duo w a b W.drew := h.next (Below.refl _ W).drew
theorem Duo.tab (h : Duo w a b W) (ht : Tab w.heap.size w) : Tab W.heap.size W := Lib.tabBelow_of_tabIs (ht _ h.below)
theorem Duo.cs (h : Duo w a b W) : (W.cell? ⟨w.heap.size, 0, none⟩ = some (.int .u32 a.src) ∧ W.cell? ⟨w.heap.size, 1, none⟩ = some (.int .u32 a.dst) ∧ W.cell? ⟨w.heap.size, 2, none⟩ = some (.int .u16 a.sp) ∧ W.cell? ⟨w.heap.size, 3, none⟩ = some (.int .u16 a.dp)) ∧
    (W.cell? ⟨w.heap.size + 1, 0, none⟩ = some (.int .u32 b.src) ∧ W.cell? ⟨w.heap.size + 1, 1, none⟩ = some (.int .u32 b.dst) ∧ W.cell? ⟨w.heap.size + 1, 2, none⟩ = some (.int .u16 b.sp) ∧ W.cell? ⟨w.heap.size + 1, 3, none⟩ = some (.int .u16 b.dp)) :=
  ⟨⟨h.a.c0, h.a.c1, h.a.c2, h.a.c3⟩, ⟨h.b.c0, h.b.c1, h.b.c2, h.b.c3⟩⟩
theorem Duo.start (w : World) (a b : Tup) : Duo w a b ((w.alloc (.cells #[.int .u32 a.src, .int .u32 a.dst, .int .u16 a.sp, .int .u16 a.dp] 25)).alloc (.cells #[.int .u32 b.src, .int .u32 b.dst, .int .u16 b.sp, .int .u16 b.dp] 25)) := by
  refine ⟨(Bt.new w a).alloc _, ?_, ((Below.refl _ w).alloc (Nat.le_refl _) _).alloc (by simp) _⟩
  have h := Bt.new (w.alloc (.cells #[.int .u32 a.src, .int .u32 a.dst, .int .u16 a.sp, .int .u16 a.dp] 25)) b
  rwa [World.size_alloc] at h
end
/-- 's[k]' of a text. -/
theorem run_at (l : List UInt8) (k : Nat) (c : UInt8) (h : l[k]? = some c) (W : World) : (Instr.index 9 (.string ⟨l.toArray⟩) (.int .i64 (k : Int))).run Tryd.prog W = .ok (.int .u8 (c.toNat : Int)) W := by
  obtain ⟨hk, rfl⟩ := List.getElem?_eq_some_iff.1 h
  rw [run_index_string W 9 _ .i64 k Tryd.underlying9, dif_pos ⟨by omega, by show (k : Int) < ((l.toArray.size : Nat) : Int); simp; omega⟩]
  rfl
theorem count_next {l : List UInt8} {k : Nat} {c : UInt8} (h : l[k]? = some c) (d : UInt8) : (l.take (k + 1)).count d = (l.take k).count d + if c = d then 1 else 0 := by
  rw [List.take_add_one, h, List.count_append]
  simp [List.count_singleton]
theorem run_eq_str {a : Act} {s t : Tmp} {o : Oper} (x y : ByteArray) (v : Bool) (ho : o.op = .binOp .eql 9 (.tmp s) (.tmp t) 9) (hs : a.tmps.getD s undef = .string x) (ht : a.tmps.getD t undef = .string y) (hv : (x.toList == y.toList) = v) (W : World) : (execOp a.eval o).run Tryd.prog W = .ok (.value (.bool v)) W := by
  have hs' : a.tmps[s]?.getD undef = .string x := by simpa using hs
  have ht' : a.tmps[t]?.getD undef = .string y := by simpa using ht
  unfold execOp
  simp [ho, Act.eval, hs', ht', go_sem, hv]
theorem run_eq_same {a : Act} {s t : Tmp} {o : Oper} (v : Bool) (ho : o.op = .binOp .eql 4 (.tmp s) (.tmp t) 4) (hs : a.tmps.getD s undef = .bool v) (ht : a.tmps.getD t undef = .bool v) (W : World) : (execOp a.eval o).run Tryd.prog W = .ok (.value (.bool true)) W := by
  have hs' : a.tmps[s]?.getD undef = .bool v := by simpa using hs
  have ht' : a.tmps[t]?.getD undef = .bool v := by simpa using ht
  unfold execOp
  simp [ho, Act.eval, hs', ht', go_sem]
/-- The operations of TupleTexts' last statement. -/
noncomputable def X14 : Array Oper := opsOf Tryd.f6 14
--FACTS
theorem X14_s : Region.noSelect X14 = true := by kernel_rfl
theorem X14_f0 : Region.free .any X14 #[false, false, false, false, false, false, false, false, false, false, false, false, false, false, false, false, false, false, false, false, false, false, false, false] 0 = true := by kernel_rfl
theorem X14_c0 : (Region.ready .any X14 #[false, false, false, false, false, false, false, false, false, false, false, false, false, false, false, false, false, false, false, false, false, false, false, false]).contains 0 = true := by kernel_rfl
theorem X14_f1 : Region.free .any X14 #[true, false, false, false, false, false, false, false, false, false, false, false, false, false, false, false, false, false, false, false, false, false, false, false] 1 = true := by kernel_rfl
theorem X14_c1 : (Region.ready .any X14 #[true, false, false, false, false, false, false, false, false, false, false, false, false, false, false, false, false, false, false, false, false, false, false, false]).contains 1 = true := by kernel_rfl
theorem X14_f2 : Region.free .any X14 #[true, true, false, false, false, false, false, false, false, false, false, false, false, false, false, false, false, false, false, false, false, false, false, false] 2 = true := by kernel_rfl
theorem X14_c2 : (Region.ready .any X14 #[true, true, false, false, false, false, false, false, false, false, false, false, false, false, false, false, false, false, false, false, false, false, false, false]).contains 2 = true := by kernel_rfl
theorem X14_f3 : Region.free .any X14 #[true, true, true, false, false, false, false, false, false, false, false, false, false, false, false, false, false, false, false, false, false, false, false, false] 3 = true := by kernel_rfl
theorem X14_c3 : (Region.ready .any X14 #[true, true, true, false, false, false, false, false, false, false, false, false, false, false, false, false, false, false, false, false, false, false, false, false]).contains 3 = true := by kernel_rfl
theorem X14_f4 : Region.free .any X14 #[true, true, true, true, false, false, false, false, false, false, false, false, false, false, false, false, false, false, false, false, false, false, false, false] 4 = true := by kernel_rfl
theorem X14_c4 : (Region.ready .any X14 #[true, true, true, true, false, false, false, false, false, false, false, false, false, false, false, false, false, false, false, false, false, false, false, false]).contains 4 = true := by kernel_rfl
theorem X14_f5 : Region.free .any X14 #[true, true, true, true, true, false, false, false, false, false, false, false, false, false, false, false, false, false, false, false, false, false, false, false] 5 = true := by kernel_rfl
theorem X14_c5 : (Region.ready .any X14 #[true, true, true, true, true, false, false, false, false, false, false, false, false, false, false, false, false, false, false, false, false, false, false, false]).contains 5 = true := by kernel_rfl
theorem X14_f6 : Region.free .any X14 #[true, true, true, true, true, true, false, false, false, false, false, false, false, false, false, false, false, false, false, false, false, false, false, false] 6 = true := by kernel_rfl
theorem X14_c6 : (Region.ready .any X14 #[true, true, true, true, true, true, false, false, false, false, false, false, false, false, false, false, false, false, false, false, false, false, false, false]).contains 6 = true := by kernel_rfl
theorem X14_f7 : Region.free .any X14 #[true, true, true, true, true, true, true, false, false, false, false, false, false, false, false, false, false, false, false, false, false, false, false, false] 7 = true := by kernel_rfl
theorem X14_c7 : (Region.ready .any X14 #[true, true, true, true, true, true, true, false, false, false, false, false, false, false, false, false, false, false, false, false, false, false, false, false]).contains 7 = true := by kernel_rfl
theorem X14_f8 : Region.free .any X14 #[true, true, true, true, true, true, true, true, false, false, false, false, false, false, false, false, false, false, false, false, false, false, false, false] 8 = true := by kernel_rfl
theorem X14_c8 : (Region.ready .any X14 #[true, true, true, true, true, true, true, true, false, false, false, false, false, false, false, false, false, false, false, false, false, false, false, false]).contains 8 = true := by kernel_rfl
theorem X14_f9 : Region.free .any X14 #[true, true, true, true, true, true, true, true, true, false, false, false, false, false, false, false, false, false, false, false, false, false, false, false] 9 = true := by kernel_rfl
theorem X14_c9 : (Region.ready .any X14 #[true, true, true, true, true, true, true, true, true, false, false, false, false, false, false, false, false, false, false, false, false, false, false, false]).contains 9 = true := by kernel_rfl
theorem X14_f10 : Region.free .any X14 #[true, true, true, true, true, true, true, true, true, true, false, false, false, false, false, false, false, false, false, false, false, false, false, false] 10 = true := by kernel_rfl
theorem X14_c10 : (Region.ready .any X14 #[true, true, true, true, true, true, true, true, true, true, false, false, false, false, false, false, false, false, false, false, false, false, false, false]).contains 10 = true := by kernel_rfl
theorem X14_f11 : Region.free .any X14 #[true, true, true, true, true, true, true, true, true, true, true, false, false, false, false, false, false, false, false, false, false, false, false, false] 11 = true := by kernel_rfl
theorem X14_c11 : (Region.ready .any X14 #[true, true, true, true, true, true, true, true, true, true, true, false, false, false, false, false, false, false, false, false, false, false, false, false]).contains 11 = true := by kernel_rfl
theorem X14_f12 : Region.free .any X14 #[true, true, true, true, true, true, true, true, true, true, true, true, false, false, false, false, false, false, false, false, false, false, false, false] 12 = true := by kernel_rfl
theorem X14_c12 : (Region.ready .any X14 #[true, true, true, true, true, true, true, true, true, true, true, true, false, false, false, false, false, false, false, false, false, false, false, false]).contains 12 = true := by kernel_rfl
theorem X14_f15 : Region.free .any X14 #[true, true, true, true, true, true, true, true, true, true, true, true, true, false, false, false, false, false, false, false, false, false, false, false] 15 = true := by kernel_rfl
theorem X14_c15 : (Region.ready .any X14 #[true, true, true, true, true, true, true, true, true, true, true, true, true, false, false, false, false, false, false, false, false, false, false, false]).contains 15 = true := by kernel_rfl
theorem X14_f16 : Region.free .any X14 #[true, true, true, true, true, true, true, true, true, true, true, true, true, false, false, true, false, false, false, false, false, false, false, false] 16 = true := by kernel_rfl
theorem X14_c16 : (Region.ready .any X14 #[true, true, true, true, true, true, true, true, true, true, true, true, true, false, false, true, false, false, false, false, false, false, false, false]).contains 16 = true := by kernel_rfl
theorem X14_f17 : Region.free .any X14 #[true, true, true, true, true, true, true, true, true, true, true, true, true, false, false, true, true, false, false, false, false, false, false, false] 17 = true := by kernel_rfl
theorem X14_c17 : (Region.ready .any X14 #[true, true, true, true, true, true, true, true, true, true, true, true, true, false, false, true, true, false, false, false, false, false, false, false]).contains 17 = true := by kernel_rfl
theorem X14_r13 : Region.ready .any X14 #[true, true, true, true, true, true, true, true, true, true, true, true, true, false, false, true, true, true, false, false, false, false, false, false] = [13] := by kernel_rfl
theorem X14_f14 : Region.free .any X14 #[true, true, true, true, true, true, true, true, true, true, true, true, true, true, false, true, true, true, false, false, false, false, false, false] 14 = true := by kernel_rfl
theorem X14_c14 : (Region.ready .any X14 #[true, true, true, true, true, true, true, true, true, true, true, true, true, true, false, true, true, true, false, false, false, false, false, false]).contains 14 = true := by kernel_rfl
theorem X14_f18 : Region.free .any X14 #[true, true, true, true, true, true, true, true, true, true, true, true, true, true, true, true, true, true, false, false, false, false, false, false] 18 = true := by kernel_rfl
theorem X14_c18 : (Region.ready .any X14 #[true, true, true, true, true, true, true, true, true, true, true, true, true, true, true, true, true, true, false, false, false, false, false, false]).contains 18 = true := by kernel_rfl
theorem X14_f19 : Region.free .any X14 #[true, true, true, true, true, true, true, true, true, true, true, true, true, true, true, true, true, true, true, false, false, false, false, false] 19 = true := by kernel_rfl
theorem X14_c19 : (Region.ready .any X14 #[true, true, true, true, true, true, true, true, true, true, true, true, true, true, true, true, true, true, true, false, false, false, false, false]).contains 19 = true := by kernel_rfl
theorem X14_f20 : Region.free .any X14 #[true, true, true, true, true, true, true, true, true, true, true, true, true, true, true, true, true, true, true, true, false, false, false, false] 20 = true := by kernel_rfl
theorem X14_c20 : (Region.ready .any X14 #[true, true, true, true, true, true, true, true, true, true, true, true, true, true, true, true, true, true, true, true, false, false, false, false]).contains 20 = true := by kernel_rfl
theorem X14_r21 : Region.ready .any X14 #[true, true, true, true, true, true, true, true, true, true, true, true, true, true, true, true, true, true, true, true, true, false, false, false] = [21] := by kernel_rfl
theorem X14_f22 : Region.free .any X14 #[true, true, true, true, true, true, true, true, true, true, true, true, true, true, true, true, true, true, true, true, true, true, false, false] 22 = true := by kernel_rfl
theorem X14_c22 : (Region.ready .any X14 #[true, true, true, true, true, true, true, true, true, true, true, true, true, true, true, true, true, true, true, true, true, true, false, false]).contains 22 = true := by kernel_rfl
theorem X14_f23 : Region.free .any X14 #[true, true, true, true, true, true, true, true, true, true, true, true, true, true, true, true, true, true, true, true, true, true, true, false] 23 = true := by kernel_rfl
theorem X14_c23 : (Region.ready .any X14 #[true, true, true, true, true, true, true, true, true, true, true, true, true, true, true, true, true, true, true, true, true, true, true, false]).contains 23 = true := by kernel_rfl
--ENDFACTS
set_option maxRecDepth 100000 in
set_option maxHeartbeats 8000000 in
theorem tupleTexts_any (a b : Tup) (w : World) (ht : Tab w.heap.size w) (ha : a.In) (hb : b.In) : Calls Tryd.prog 6 #[tv a, tv b] w fun e W' => e = .returned (.bool true) ∧ Below w.heap.size w W' := by
  go_enter Tryd.func6, Tryd.ntmps6
  go_wp2_with fail
  obtain ⟨W0, hW0⟩ : ∃ W0, (w.alloc (.cells #[.int .u32 a.src, .int .u32 a.dst, .int .u16 a.sp, .int .u16 a.dp] 25)).alloc (.cells #[.int .u32 b.src, .int .u32 b.dst, .int .u16 b.sp, .int .u16 b.dp] 25) = W0 := ⟨_, rfl⟩
  have hT : Duo w a b W0 := hW0 ▸ Duo.start w a b
  rw [hW0]
  clear hW0
  refine (text_any a _ ha (hT.tab ht)).mono ?_
  rintro e w1 ⟨rfl, hB1⟩
  have hT1 := hT.next hB1
  clear hB1 hT
  obtain ⟨l, hl⟩ : ∃ l, textT a = l := ⟨_, rfl⟩
  obtain ⟨q1, q2, q3, q4⟩ := textT_counts ha
  have hinj := textT_inj ha hb
  have hll : l.length ≤ 300 := by
    obtain ⟨_, _, ⟨p0, p1⟩, ⟨r0, r1⟩⟩ := ha
    have h1 := endT_len a.src a.sp p0 p1
    have h2 := endT_len a.dst a.dp r0 r1
    rw [← hl]
    simp only [textT, List.length_append, List.length_cons]
    omega
  rw [hl] at q1 q2 q3 q4 hinj ⊢
  clear hl
  obtain ⟨sx, hsx⟩ : ∃ sx : ByteArray, (⟨l.toArray⟩ : ByteArray) = sx := ⟨_, rfl⟩
  have hn : sx.size = l.length := by rw [← hsx]; rfl
  have hat : ∀ (k : Nat) (c : UInt8), l[k]? = some c → ∀ W, (Instr.index 9 (.string sx) (.int .i64 (k : Int))).run Tryd.prog W = .ok (.int .u8 (c.toNat : Int)) W := fun k c h W => by rw [← hsx]; exact run_at l k c h W
  have HI := hide hat
  have HX := hide hsx
  rw [hsx]
  clear hat hsx
  have Q := hide (And.intro q1 (And.intro q2 (And.intro q3 (And.intro q4 hinj))))
  clear q1 q2 q3 q4 hinj
  go_wp2
  have hL := hide (fun (k : Nat) (h : k ≤ l.length) => (List.length_take_le k l))
  go_loopw [6, 7, 8, 9] (fun d c m i wr => ∃ k : Nat, k ≤ l.length ∧ i = .int .i64 k ∧ d = .int .i64 ((l.take k).count 46 : Nat) ∧ c = .int .i64 ((l.take k).count 58 : Nat) ∧ m = .int .i64 ((l.take k).count 62 : Nat) ∧ wr = w1) (fun d c m i _ => l.length - (intOf i).toNat)
  case atStart => exact ⟨0, Nat.zero_le _, rfl, rfl, rfl, rfl, rfl⟩
  case round =>
    obtain ⟨k, hk, rfl, rfl, rfl, rfl, rfl⟩ := hrel
    by_cases hlt : k < l.length
    · obtain ⟨c, hc⟩ : ∃ c, l[k]? = some c := ⟨l[k], List.getElem?_eq_getElem hlt⟩
      have hx := HI.out k c hc
      have n46 := hide (count_next hc 46)
      have n58 := hide (count_next hc 58)
      have n62 := hide (count_next hc 62)
      have hq := Q.out.2.2.2.1 c (List.mem_of_getElem? hc)
      have b46 : (l.take k).count 46 ≤ 300 := Nat.le_trans List.count_le_length (Nat.le_trans (List.length_take_le' k l) hll)
      have b58 : (l.take k).count 58 ≤ 300 := Nat.le_trans List.count_le_length (Nat.le_trans (List.length_take_le' k l) hll)
      have b62 : (l.take k).count 62 ≤ 300 := Nat.le_trans List.count_le_length (Nat.le_trans (List.length_take_le' k l) hll)
      obtain ⟨x46, e46⟩ : ∃ x, (l.take k).count 46 = x := ⟨_, rfl⟩
      obtain ⟨x58, e58⟩ : ∃ x, (l.take k).count 58 = x := ⟨_, rfl⟩
      obtain ⟨x62, e62⟩ : ∃ x, (l.take k).count 62 = x := ⟨_, rfl⟩
      rw [e46] at n46 b46 ⊢
      rw [e58] at n58 b58 ⊢
      rw [e62] at n62 b62 ⊢
      clear hc hL e46 e58 e62
      rcases hq with rfl | rfl | rfl | ⟨d0, d1⟩
      · simp only [show (46 : UInt8).toNat = 46 from rfl] at hx
        go_wp2
        refine ⟨⟨k + 1, by omega, by go_num, by rw [n46.out]; simp, by rw [n58.out]; simp, by rw [n62.out]; simp, trivial⟩, by simp [intOf]; omega⟩
      · simp only [show (58 : UInt8).toNat = 58 from rfl] at hx
        go_wp2
        refine ⟨⟨k + 1, by omega, by go_num, by rw [n46.out]; simp, by rw [n58.out]; simp, by rw [n62.out]; simp, trivial⟩, by simp [intOf]; omega⟩
      · simp only [show (62 : UInt8).toNat = 62 from rfl] at hx
        go_wp2
        refine ⟨⟨k + 1, by omega, by go_num, by rw [n46.out]; simp, by rw [n58.out]; simp, by rw [n62.out]; simp, trivial⟩, by simp [intOf]; omega⟩
      · have y46 : c ≠ 46 := fun h => by rw [h] at d0; exact absurd d0 (by decide)
        have y58 : c ≠ 58 := fun h => by rw [h] at d1; exact absurd d1 (by decide)
        have y62 : c ≠ 62 := fun h => by rw [h] at d1; exact absurd d1 (by decide)
        obtain ⟨m, hm⟩ : ∃ m : Nat, c.toNat = m := ⟨_, rfl⟩
        rw [hm] at hx d0 d1
        rw [if_neg y46] at n46
        rw [if_neg y58] at n58
        rw [if_neg y62] at n62
        clear y46 y58 y62 hm
        go_wp2
        refine ⟨⟨k + 1, by omega, by go_num, by rw [n46.out]; simp, by rw [n58.out]; simp, by rw [n62.out]; simp, trivial⟩, by simp [intOf]; omega⟩
    · obtain rfl : k = l.length := by omega
      rw [List.take_length, Q.out.1, Q.out.2.1, Q.out.2.2.1]
      have hstr := hide (show (sx.toList == (⟨(textT b).toArray⟩ : ByteArray).toList) = decide (a = b) from by
        rw [← HX.out, ByteArray.toList_eq, ByteArray.toList_eq, Bool.eq_iff_iff, beq_iff_eq, decide_eq_true_iff]
        exact Q.out.2.2.2.2)
      clear hL
      go_wp2
      --R14
      refine region_as (R := X14) (by kernel_rfl) ?_
      refine wp_region_held_drew (S := Duo w a b) (by kernel_rfl) ?_ (fun hHeld => ?_)
      · exact hT1.drew
      refine listed_as (L := #[false, false, false, false, false, false, false, false, false, false, false, false, false, false, false, false, false, false, false, false, false, false, false, false]) (by kernel_rfl) ?_
      refine take_bare (i := 0) (some 50) (Go.Op.move (Go.Operand.tmp 6)) 3 #[true, false, false, false, false, false, false, false, false, false, false, false, false, false, false, false, false, false, false, false, false, false, false, false] (v := ?_) hHeld rfl (by kernel_rfl) (by kernel_rfl) (by kernel_rfl) (by kernel_rfl) X14_s X14_f0 X14_c0 (by kernel_rfl) (fun _ _ _ h => h) ?hya0_1 ?_
      case hya0_1 => intro w hSw; clear hSw; go_simp; try with_reducible rfl
      try simp only [Act.put, List.setIfInBounds_toArray, List.set_cons_zero, List.set_cons_succ]
      refine take_bare (i := 1) (some 51) (Go.Op.binOp Go.BinOp.eql 3 (Go.Operand.tmp 50) (Go.Operand.const (Go.Value.int Go.IntKind.i64 6)) 3) 4 #[true, true, false, false, false, false, false, false, false, false, false, false, false, false, false, false, false, false, false, false, false, false, false, false] (v := ?_) hHeld rfl (by kernel_rfl) (by kernel_rfl) (by kernel_rfl) (by kernel_rfl) X14_s X14_f1 X14_c1 (by kernel_rfl) (fun _ _ _ h => h) ?hya1_2 ?_
      case hya1_2 => intro w hSw; clear hSw; go_simp; try with_reducible rfl
      try simp only [Act.put, List.setIfInBounds_toArray, List.set_cons_zero, List.set_cons_succ]
      refine take_bare (i := 2) (some 52) (Go.Op.move (Go.Operand.tmp 51)) 4 #[true, true, true, false, false, false, false, false, false, false, false, false, false, false, false, false, false, false, false, false, false, false, false, false] (v := ?_) hHeld rfl (by kernel_rfl) (by kernel_rfl) (by kernel_rfl) (by kernel_rfl) X14_s X14_f2 X14_c2 (by kernel_rfl) (fun _ _ _ h => h) ?hya2_3 ?_
      case hya2_3 => intro w hSw; clear hSw; go_simp; try with_reducible rfl
      try simp only [Act.put, List.setIfInBounds_toArray, List.set_cons_zero, List.set_cons_succ]
      refine take_bare (i := 3) (some 53) (Go.Op.move (Go.Operand.tmp 7)) 3 #[true, true, true, true, false, false, false, false, false, false, false, false, false, false, false, false, false, false, false, false, false, false, false, false] (v := ?_) hHeld rfl (by kernel_rfl) (by kernel_rfl) (by kernel_rfl) (by kernel_rfl) X14_s X14_f3 X14_c3 (by kernel_rfl) (fun _ _ _ h => h) ?hya3_4 ?_
      case hya3_4 => intro w hSw; clear hSw; go_simp; try with_reducible rfl
      try simp only [Act.put, List.setIfInBounds_toArray, List.set_cons_zero, List.set_cons_succ]
      refine take_bare (i := 4) (some 54) (Go.Op.binOp Go.BinOp.eql 3 (Go.Operand.tmp 53) (Go.Operand.const (Go.Value.int Go.IntKind.i64 2)) 3) 4 #[true, true, true, true, true, false, false, false, false, false, false, false, false, false, false, false, false, false, false, false, false, false, false, false] (v := ?_) hHeld rfl (by kernel_rfl) (by kernel_rfl) (by kernel_rfl) (by kernel_rfl) X14_s X14_f4 X14_c4 (by kernel_rfl) (fun _ _ _ h => h) ?hya4_5 ?_
      case hya4_5 => intro w hSw; clear hSw; go_simp; try with_reducible rfl
      try simp only [Act.put, List.setIfInBounds_toArray, List.set_cons_zero, List.set_cons_succ]
      refine take_bare (i := 5) (some 55) (Go.Op.pick (Go.Operand.tmp 52) (Go.Operand.tmp 54) (Go.Operand.const (Go.Value.bool false))) 4 #[true, true, true, true, true, true, false, false, false, false, false, false, false, false, false, false, false, false, false, false, false, false, false, false] (v := ?_) hHeld rfl (by kernel_rfl) (by kernel_rfl) (by kernel_rfl) (by kernel_rfl) X14_s X14_f5 X14_c5 (by kernel_rfl) (fun _ _ _ h => h) ?hya5_6 ?_
      case hya5_6 => intro w hSw; clear hSw; go_simp; try with_reducible rfl
      try simp only [Act.put, List.setIfInBounds_toArray, List.set_cons_zero, List.set_cons_succ]
      refine take_bare (i := 6) (some 56) (Go.Op.move (Go.Operand.tmp 55)) 4 #[true, true, true, true, true, true, true, false, false, false, false, false, false, false, false, false, false, false, false, false, false, false, false, false] (v := ?_) hHeld rfl (by kernel_rfl) (by kernel_rfl) (by kernel_rfl) (by kernel_rfl) X14_s X14_f6 X14_c6 (by kernel_rfl) (fun _ _ _ h => h) ?hya6_7 ?_
      case hya6_7 => intro w hSw; clear hSw; go_simp; try with_reducible rfl
      try simp only [Act.put, List.setIfInBounds_toArray, List.set_cons_zero, List.set_cons_succ]
      refine take_bare (i := 7) (some 57) (Go.Op.move (Go.Operand.tmp 8)) 3 #[true, true, true, true, true, true, true, true, false, false, false, false, false, false, false, false, false, false, false, false, false, false, false, false] (v := ?_) hHeld rfl (by kernel_rfl) (by kernel_rfl) (by kernel_rfl) (by kernel_rfl) X14_s X14_f7 X14_c7 (by kernel_rfl) (fun _ _ _ h => h) ?hya7_8 ?_
      case hya7_8 => intro w hSw; clear hSw; go_simp; try with_reducible rfl
      try simp only [Act.put, List.setIfInBounds_toArray, List.set_cons_zero, List.set_cons_succ]
      refine take_bare (i := 8) (some 58) (Go.Op.binOp Go.BinOp.eql 3 (Go.Operand.tmp 57) (Go.Operand.const (Go.Value.int Go.IntKind.i64 1)) 3) 4 #[true, true, true, true, true, true, true, true, true, false, false, false, false, false, false, false, false, false, false, false, false, false, false, false] (v := ?_) hHeld rfl (by kernel_rfl) (by kernel_rfl) (by kernel_rfl) (by kernel_rfl) X14_s X14_f8 X14_c8 (by kernel_rfl) (fun _ _ _ h => h) ?hya8_9 ?_
      case hya8_9 => intro w hSw; clear hSw; go_simp; try with_reducible rfl
      try simp only [Act.put, List.setIfInBounds_toArray, List.set_cons_zero, List.set_cons_succ]
      refine take_bare (i := 9) (some 59) (Go.Op.pick (Go.Operand.tmp 56) (Go.Operand.tmp 58) (Go.Operand.const (Go.Value.bool false))) 4 #[true, true, true, true, true, true, true, true, true, true, false, false, false, false, false, false, false, false, false, false, false, false, false, false] (v := ?_) hHeld rfl (by kernel_rfl) (by kernel_rfl) (by kernel_rfl) (by kernel_rfl) X14_s X14_f9 X14_c9 (by kernel_rfl) (fun _ _ _ h => h) ?hya9_10 ?_
      case hya9_10 => intro w hSw; clear hSw; go_simp; try with_reducible rfl
      try simp only [Act.put, List.setIfInBounds_toArray, List.set_cons_zero, List.set_cons_succ]
      refine take_bare (i := 10) (some 60) (Go.Op.move (Go.Operand.tmp 59)) 4 #[true, true, true, true, true, true, true, true, true, true, true, false, false, false, false, false, false, false, false, false, false, false, false, false] (v := ?_) hHeld rfl (by kernel_rfl) (by kernel_rfl) (by kernel_rfl) (by kernel_rfl) X14_s X14_f10 X14_c10 (by kernel_rfl) (fun _ _ _ h => h) ?hya10_11 ?_
      case hya10_11 => intro w hSw; clear hSw; go_simp; try with_reducible rfl
      try simp only [Act.put, List.setIfInBounds_toArray, List.set_cons_zero, List.set_cons_succ]
      refine take_bare (i := 11) (some 61) (Go.Op.move (Go.Operand.tmp 5)) 9 #[true, true, true, true, true, true, true, true, true, true, true, true, false, false, false, false, false, false, false, false, false, false, false, false] (v := ?_) hHeld rfl (by kernel_rfl) (by kernel_rfl) (by kernel_rfl) (by kernel_rfl) X14_s X14_f11 X14_c11 (by kernel_rfl) (fun _ _ _ h => h) ?hya11_12 ?_
      case hya11_12 => intro w hSw; clear hSw; go_simp; try with_reducible rfl
      try simp only [Act.put, List.setIfInBounds_toArray, List.set_cons_zero, List.set_cons_succ]
      refine take_bare (i := 12) (some 62) (Go.Op.load 25 (Go.Operand.tmp 3)) 25 #[true, true, true, true, true, true, true, true, true, true, true, true, true, false, false, false, false, false, false, false, false, false, false, false] (v := (tv b)) hHeld rfl (by kernel_rfl) (by kernel_rfl) (by kernel_rfl) (by kernel_rfl) X14_s X14_f12 X14_c12 (by kernel_rfl) (fun _ _ _ h => h) (fun W hS => run_load_bt (s := 3) (by kernel_rfl) (by kernel_rfl) hS.b) ?_
      try simp only [Act.put, List.setIfInBounds_toArray, List.set_cons_zero, List.set_cons_succ]
      refine take_bare (i := 15) (some 65) (Go.Op.load 25 (Go.Operand.tmp 2)) 25 #[true, true, true, true, true, true, true, true, true, true, true, true, true, false, false, true, false, false, false, false, false, false, false, false] (v := (tv a)) hHeld rfl (by kernel_rfl) (by kernel_rfl) (by kernel_rfl) (by kernel_rfl) X14_s X14_f15 X14_c15 (by kernel_rfl) (fun _ _ _ h => h) (fun W hS => run_load_bt (s := 2) (by kernel_rfl) (by kernel_rfl) hS.a) ?_
      try simp only [Act.put, List.setIfInBounds_toArray, List.set_cons_zero, List.set_cons_succ]
      refine take_bare (i := 16) (some 66) (Go.Op.load 25 (Go.Operand.tmp 3)) 25 #[true, true, true, true, true, true, true, true, true, true, true, true, true, false, false, true, true, false, false, false, false, false, false, false] (v := (tv b)) hHeld rfl (by kernel_rfl) (by kernel_rfl) (by kernel_rfl) (by kernel_rfl) X14_s X14_f16 X14_c16 (by kernel_rfl) (fun _ _ _ h => h) (fun W hS => run_load_bt (s := 3) (by kernel_rfl) (by kernel_rfl) hS.b) ?_
      try simp only [Act.put, List.setIfInBounds_toArray, List.set_cons_zero, List.set_cons_succ]
      refine take_bare (i := 17) (some 67) (Go.Op.binOp Go.BinOp.eql 25 (Go.Operand.tmp 65) (Go.Operand.tmp 66) 25) 4 #[true, true, true, true, true, true, true, true, true, true, true, true, true, false, false, true, true, true, false, false, false, false, false, false] (v := (.bool (decide (a = b)))) hHeld rfl (by kernel_rfl) (by kernel_rfl) (by kernel_rfl) (by kernel_rfl) X14_s X14_f17 X14_c17 (by kernel_rfl) (fun _ _ _ h => h) (fun W hS => run_eq25 (s := 65) (t := 66) a b (decide (a = b)) (by kernel_rfl) (by kernel_rfl) (by kernel_rfl) rfl W) ?_
      try simp only [Act.put, List.setIfInBounds_toArray, List.set_cons_zero, List.set_cons_succ]
      refine step_bare (i := 13) (some 63) (Go.Op.call { callee := Go.Callee.value (Go.Operand.func 19), args := #[Go.Operand.tmp 62], argTypes := #[25] }) 9 #[true, true, true, true, true, true, true, true, true, true, true, true, true, true, false, true, true, true, false, false, false, false, false, false] X14_r13 rfl (by kernel_rfl) (by kernel_rfl) (by kernel_rfl) (by kernel_rfl) (by kernel_rfl) (fun K hK => ?_)
      go_simp
      (with_reducible refine (text_any b _ hb (hHeld.tab ht)).mono ?_)
      rintro e w33 ⟨rfl, hB33⟩
      go_simp
      refine hK.out _ _ ?_ (fun hHeld => ?_)
      · exact hHeld.next hB33
      clear hK K
      try simp only [Act.put, List.setIfInBounds_toArray, List.set_cons_zero, List.set_cons_succ]
      refine take_bare (i := 14) (some 64) (Go.Op.binOp Go.BinOp.eql 9 (Go.Operand.tmp 61) (Go.Operand.tmp 63) 9) 4 #[true, true, true, true, true, true, true, true, true, true, true, true, true, true, true, true, true, true, false, false, false, false, false, false] (v := (.bool (decide (a = b)))) hHeld rfl (by kernel_rfl) (by kernel_rfl) (by kernel_rfl) (by kernel_rfl) X14_s X14_f14 X14_c14 (by kernel_rfl) (fun _ _ _ h => h) (fun W hS => run_eq_str (s := 61) (t := 63) _ _ (decide (a = b)) (by kernel_rfl) (by kernel_rfl) (by kernel_rfl) hstr.out W) ?_
      try simp only [Act.put, List.setIfInBounds_toArray, List.set_cons_zero, List.set_cons_succ]
      refine take_bare (i := 18) (some 68) (Go.Op.binOp Go.BinOp.eql 4 (Go.Operand.tmp 64) (Go.Operand.tmp 67) 4) 4 #[true, true, true, true, true, true, true, true, true, true, true, true, true, true, true, true, true, true, true, false, false, false, false, false] (v := (.bool true)) hHeld rfl (by kernel_rfl) (by kernel_rfl) (by kernel_rfl) (by kernel_rfl) X14_s X14_f18 X14_c18 (by kernel_rfl) (fun _ _ _ h => h) (fun W hS => run_eq_same (s := 64) (t := 67) (decide (a = b)) (by kernel_rfl) (by kernel_rfl) (by kernel_rfl) W) ?_
      try simp only [Act.put, List.setIfInBounds_toArray, List.set_cons_zero, List.set_cons_succ]
      refine take_bare (i := 19) (some 69) (Go.Op.pick (Go.Operand.tmp 60) (Go.Operand.tmp 68) (Go.Operand.const (Go.Value.bool false))) 4 #[true, true, true, true, true, true, true, true, true, true, true, true, true, true, true, true, true, true, true, true, false, false, false, false] (v := ?_) hHeld rfl (by kernel_rfl) (by kernel_rfl) (by kernel_rfl) (by kernel_rfl) X14_s X14_f19 X14_c19 (by kernel_rfl) (fun _ _ _ h => h) ?hya19_19 ?_
      case hya19_19 => intro w hSw; clear hSw; go_simp; try with_reducible rfl
      try simp only [Act.put, List.setIfInBounds_toArray, List.set_cons_zero, List.set_cons_succ]
      refine take_bare (i := 20) (some 70) (Go.Op.move (Go.Operand.tmp 69)) 4 #[true, true, true, true, true, true, true, true, true, true, true, true, true, true, true, true, true, true, true, true, true, false, false, false] (v := ?_) hHeld rfl (by kernel_rfl) (by kernel_rfl) (by kernel_rfl) (by kernel_rfl) X14_s X14_f20 X14_c20 (by kernel_rfl) (fun _ _ _ h => h) ?hya20_20 ?_
      case hya20_20 => intro w hSw; clear hSw; go_simp; try with_reducible rfl
      try simp only [Act.put, List.setIfInBounds_toArray, List.set_cons_zero, List.set_cons_succ]
      refine step_bare (i := 21) (some 71) (Go.Op.call { callee := Go.Callee.value (Go.Operand.func 8), args := #[], argTypes := #[] }) 4 #[true, true, true, true, true, true, true, true, true, true, true, true, true, true, true, true, true, true, true, true, true, true, false, false] X14_r21 rfl (by kernel_rfl) (by kernel_rfl) (by kernel_rfl) (by kernel_rfl) (by kernel_rfl) (fun K hK => ?_)
      go_simp
      (with_reducible refine (wakes_any _ (hHeld.tab ht)).mono ?_)
      rintro e w41 ⟨rfl, hB41⟩
      go_simp
      refine hK.out _ _ ?_ (fun hHeld => ?_)
      · exact hHeld.next hB41
      clear hK K
      try simp only [Act.put, List.setIfInBounds_toArray, List.set_cons_zero, List.set_cons_succ]
      refine take_bare (i := 22) (some 72) (Go.Op.pick (Go.Operand.tmp 70) (Go.Operand.tmp 71) (Go.Operand.const (Go.Value.bool false))) 4 #[true, true, true, true, true, true, true, true, true, true, true, true, true, true, true, true, true, true, true, true, true, true, true, false] (v := ?_) hHeld rfl (by kernel_rfl) (by kernel_rfl) (by kernel_rfl) (by kernel_rfl) X14_s X14_f22 X14_c22 (by kernel_rfl) (fun _ _ _ h => h) ?hya22_21 ?_
      case hya22_21 => intro w hSw; clear hSw; go_simp; try with_reducible rfl
      try simp only [Act.put, List.setIfInBounds_toArray, List.set_cons_zero, List.set_cons_succ]
      refine take_bare (i := 23) (some 4) (Go.Op.assign (Go.Operand.tmp 72)) 4 #[true, true, true, true, true, true, true, true, true, true, true, true, true, true, true, true, true, true, true, true, true, true, true, true] (v := ?_) hHeld rfl (by kernel_rfl) (by kernel_rfl) (by kernel_rfl) (by kernel_rfl) X14_s X14_f23 X14_c23 (by kernel_rfl) (fun _ _ _ h => h) ?hya23_22 ?_
      case hya23_22 => intro w hSw; clear hSw; go_simp; try with_reducible rfl
      try simp only [Act.put, List.setIfInBounds_toArray, List.set_cons_zero, List.set_cons_succ]
      refine wpAnyH_done (by kernel_rfl) ?_ _
      try simp only [Act.put, List.setIfInBounds_toArray, List.set_cons_zero, List.set_cons_succ]
      go_wp2
      go_ret
      exact ⟨rfl, hHeld.below⟩
end Go.Proofs.YtdlpkphbgbffpaaDoor
