/-
  The walks of end and of Text.
-/
import Derived.Test.YtdlpkphbgbffpaaDoorWrites
import Derived.Test.YtdlpkphbgbffpaaDoorTups
import Derived.Lib.ItoaLen
import Derived.Lib.AppendIntMem
namespace Go.Proofs.YtdlpkphbgbffpaaDoor
open Go Go.RowKit Go.Shelf
set_option linter.unusedSimpArgs false
set_option linter.unusedVariables false
attribute [local go_sem] Oper.semAt_some
abbrev Tab (B : Nat) (w : World) : Prop := Lib.TabBelow Tryd.prog B w "internal/strconv.uint64pow10" .u64 Lib.pow10Tab
/-- The text of an address' lowest `k` bytes. -/
def octs (a : Int) : Nat → List UInt8
  | 0 => []
  | k + 1 => Lib.itoa (a / 256 ^ k % 256) ++ (if k = 0 then [] else [46]) ++ octs a k
def endT (a p : Int) : List UInt8 := octs a 4 ++ 58 :: Lib.itoa p
theorem itoa_len (n : Int) (h0 : 0 ≤ n) (h1 : n < 4294967296) : (Lib.itoa n).length ≤ 21 := Lib.itoa_length_le n (by omega) (by omega)
theorem AtB.grow {B b : Nat} {p : Value} {bs : List Value} {w : World} (h : Lib.BuilderAt 55 5 B b p bs w) (k : Nat) (os : Array Obj) : Lib.BuilderAt 55 5 B b p bs (Sort.grow (w.drewN k) os) := by
  have hlt := h.lt
  obtain ⟨hB, v, hbk, hown, hne⟩ := h
  exact ⟨hB, v, (Lib.heap_grow_old w k os b hlt).trans hbk, Lib.ownsRow_grow hown k os, hne⟩
theorem IsB.grow {B b : Nat} {bs : List Value} {w : World} (h : IsB B b bs w) (k : Nat) (os : Array Obj) : IsB B b bs (Sort.grow (w.drewN k) os) := h.imp (AtB.grow · k os) (AtB.grow · k os)
theorem itoa_any (B b : Nat) (bs : List Value) (n : Int) (h0 : 0 ≤ n) (h1 : n < 4294967296) (w : World) (hb : IsB B b bs w) (ht : Tab B w) (hBw : B ≤ w.heap.size) :
    Calls Tryd.prog 42 #[.int .i64 n] w fun e w' => e = .returned (.string ⟨(Lib.itoa n).toArray⟩) ∧ IsB B b bs w' ∧ Below B w w' :=
  (Tryd.strconv_Itoa n (by omega) (by omega) w ht.here).mono fun _ _ ⟨he, k, os, hw⟩ => ⟨he, hw ▸ hb.grow k os, hw ▸ Lib.below_grow B w hBw k os⟩
theorem u32_and255 (n : Int) (h0 : 0 ≤ n) (h1 : n < 4294967296) : wrap64 (bits .and .u32 n 255) = n % 256 := by
  have h255 : (BitVec.ofInt 32 255).toNat = 2 ^ 8 - 1 := by decide
  have key : (BitVec.ofInt 32 n &&& BitVec.ofInt 32 255).toNat = (n % ((2 ^ 32 : Nat) : Int)).toNat % 2 ^ 8 := by
    rw [BitVec.toNat_and, BitVec.toNat_ofInt, h255, Nat.and_two_pow_sub_one_eq_mod]
  have e : bits .and .u32 n 255 = n % 256 := by
    show IntKind.u32.wrap ((BitVec.ofInt 32 n &&& BitVec.ofInt 32 255).toNat : Nat) = n % 256
    rw [key]
    simp [IntKind.wrap, IntKind.bits, IntKind.signed]
    omega
  rw [e]
  have h2 : 0 ≤ n % 256 := Int.emod_nonneg _ (by decide)
  have h3 : n % 256 < 256 := Int.emod_lt_of_pos _ (by decide)
  simp [wrap64, IntKind.wrap, IntKind.bits, IntKind.signed] <;> omega
theorem strSize (l : List UInt8) : (ByteArray.mk l.toArray).size = l.length := rfl
set_option maxHeartbeats 2000000 in
set_option maxRecDepth 100000 in
theorem end_any (B b : Nat) (bs : List Value) (x p : Int) (w : World) (h : IsB B b bs w) (hlen : bs.length ≤ 500) (hBw : B ≤ w.heap.size) (ht : Tab B w) (h0 : 0 ≤ x) (h1 : x < 4294967296) (p0 : 0 ≤ p) (p1 : p < 65536) :
    Calls Tryd.prog 32 #[.pointer (some ⟨b, 0, none⟩), .int .u32 x, .int .u16 p] w fun e w' => e = .returned (.tuple #[]) ∧ IsB B b (bs ++ Lib.byteCells (endT x p)) w' ∧ Below B w w' := by
  go_enter Tryd.func32, Tryd.ntmps32
  go_wp2
  go_loopw [6] (fun i wr => ∃ (k : Nat) (l : List UInt8), k ≤ 4 ∧ i = .int .i64 (8 * (k : Int) - 8) ∧ octs x 4 = l ++ octs x k ∧ l.length ≤ 22 * (4 - k) ∧ IsB B b (bs ++ Lib.byteCells l) wr ∧ Below B w wr) (fun i _ => (intOf i + 8).toNat)
  case atStart => exact ⟨4, [], by omega, by go_num, rfl, by simp, by simpa [Lib.byteCells] using h, Below.refl B w⟩
  case round =>
    obtain ⟨k, l, hk, rfl, hxs, hll, hib, hB⟩ := hrel
    have HX := hide hxs
    clear hxs
    have hsz := hB.size
    have hbl : (bs ++ Lib.byteCells l).length ≤ 600 := by simp [Lib.byteCells_length]; omega
    have htw := ht.on hB
    rcases Nat.eq_zero_or_pos k with rfl | hpos
    · have il := itoa_len p p0 (by omega)
      go_wp2_with fail
      refine (itoa_any B b (bs ++ Lib.byteCells l) p p0 (by omega) _ hib htw (by omega)).mono ?_
      rintro e w1 ⟨rfl, hib1, hb1⟩
      have hs1 := hb1.size
      go_wp2_with fail
      refine (writeString_any B b (bs ++ Lib.byteCells l) _ _ hib1 (by omega) (by rw [show (({ data := #[58] } : ByteArray) ++ { data := (Lib.itoa p).toArray }).size = 1 + (Lib.itoa p).length from by simp [ByteArray.size_append, strSize]]; omega) (by omega)).mono ?_
      rintro e w2 ⟨rfl, hat, hb2⟩
      go_wp2_with fail
      go_end0
      refine ⟨rfl, ?_, (hB.trans hb1).trans hb2⟩
      have e1 : Lib.strCells ({ data := #[58] } ++ { data := (Lib.itoa p).toArray }) = Lib.byteCells (58 :: Lib.itoa p) := by
        rw [Lib.strCells_eq]; congr 1
      rw [e1, List.append_assoc, ← Lib.byteCells_append] at hat
      refine Or.inr ?_
      unfold endT
      rw [HX.out]
      simpa [octs] using hat
    rcases (show k = 1 ∨ k = 2 ∨ k = 3 ∨ k = 4 by omega) with rfl | rfl | rfl | rfl
    · have ei : 8 * ((1 : Nat) : Int) - 8 = 0 := rfl
      have ed : wrap64 (bits .and .u32 x 255) = x % 256 := u32_and255 _ (by omega) (by omega)
      have hd0 : 0 ≤ x % 256 := by omega
      have hd1 : x % 256 < 256 := by omega
      have il := itoa_len (x % 256) hd0 (by omega)
      rw [ei]
      go_wp2_with fail
      rw [ed]
      refine (itoa_any B b (bs ++ Lib.byteCells l) _ hd0 (by omega) _ hib htw (by omega)).mono ?_
      rintro e w1 ⟨rfl, hib1, hb1⟩
      have hs1 := hb1.size
      go_wp2_with fail
      refine (writeString_any B b (bs ++ Lib.byteCells l) _ _ hib1 (by omega) (by rw [strSize]; omega) (by omega)).mono ?_
      rintro e w2 ⟨rfl, hat, hb2⟩
      have hs2 := hb2.size
      go_wp2_with fail
      refine ⟨⟨0, l ++ Lib.itoa (x % 256), by omega, rfl, by rw [HX.out]; simp [octs], by rw [List.length_append]; omega, Or.inr ?_, (hB.trans hb1).trans hb2⟩, by simp [intOf]⟩
      rw [Lib.strCells_toArray, List.append_assoc, ← Lib.byteCells_append] at hat
      exact hat
    · have ei : 8 * ((2 : Nat) : Int) - 8 = 8 := rfl
      have ed : wrap64 (bits .and .u32 (x / 256) 255) = (x / 256) % 256 := u32_and255 _ (by omega) (by omega)
      have hd0 : 0 ≤ (x / 256) % 256 := by omega
      have hd1 : (x / 256) % 256 < 256 := by omega
      have il := itoa_len ((x / 256) % 256) hd0 (by omega)
      rw [ei]
      go_wp2_with fail
      rw [ed]
      refine (itoa_any B b (bs ++ Lib.byteCells l) _ hd0 (by omega) _ hib htw (by omega)).mono ?_
      rintro e w1 ⟨rfl, hib1, hb1⟩
      have hs1 := hb1.size
      go_wp2_with fail
      refine (writeString_any B b (bs ++ Lib.byteCells l) _ _ hib1 (by omega) (by rw [strSize]; omega) (by omega)).mono ?_
      rintro e w2 ⟨rfl, hat, hb2⟩
      have hs2 := hb2.size
      go_wp2_with fail
      refine (writeByte_any B b (bs ++ Lib.byteCells l ++ Lib.strCells _) _ _ (Or.inr hat) (by simp [Lib.byteCells_length, Lib.strCells_length, strSize]; omega) (by omega)).mono ?_
      rintro e w3 ⟨rfl, hat3, hb3⟩
      have hs3 := hb3.size
      go_wp2_with fail
      refine ⟨⟨1, l ++ (Lib.itoa (x / 256 % 256) ++ [46]), by omega, rfl, by rw [HX.out]; simp [octs], by rw [List.length_append, List.length_append]; simp only [List.length_cons, List.length_nil]; omega, Or.inr ?_, ((hB.trans hb1).trans hb2).trans hb3⟩, by simp [intOf]⟩
      rw [Lib.strCells_toArray, List.append_assoc, List.append_assoc, show [vb 46] = Lib.byteCells [46] from rfl, ← Lib.byteCells_append, ← Lib.byteCells_append] at hat3
      exact hat3
    · have ei : 8 * ((3 : Nat) : Int) - 8 = 16 := rfl
      have ed : wrap64 (bits .and .u32 (x / 65536) 255) = (x / 65536) % 256 := u32_and255 _ (by omega) (by omega)
      have hd0 : 0 ≤ (x / 65536) % 256 := by omega
      have hd1 : (x / 65536) % 256 < 256 := by omega
      have il := itoa_len ((x / 65536) % 256) hd0 (by omega)
      rw [ei]
      go_wp2_with fail
      rw [ed]
      refine (itoa_any B b (bs ++ Lib.byteCells l) _ hd0 (by omega) _ hib htw (by omega)).mono ?_
      rintro e w1 ⟨rfl, hib1, hb1⟩
      have hs1 := hb1.size
      go_wp2_with fail
      refine (writeString_any B b (bs ++ Lib.byteCells l) _ _ hib1 (by omega) (by rw [strSize]; omega) (by omega)).mono ?_
      rintro e w2 ⟨rfl, hat, hb2⟩
      have hs2 := hb2.size
      go_wp2_with fail
      refine (writeByte_any B b (bs ++ Lib.byteCells l ++ Lib.strCells _) _ _ (Or.inr hat) (by simp [Lib.byteCells_length, Lib.strCells_length, strSize]; omega) (by omega)).mono ?_
      rintro e w3 ⟨rfl, hat3, hb3⟩
      have hs3 := hb3.size
      go_wp2_with fail
      refine ⟨⟨2, l ++ (Lib.itoa (x / 65536 % 256) ++ [46]), by omega, rfl, by rw [HX.out]; simp [octs], by rw [List.length_append, List.length_append]; simp only [List.length_cons, List.length_nil]; omega, Or.inr ?_, ((hB.trans hb1).trans hb2).trans hb3⟩, by simp [intOf]⟩
      rw [Lib.strCells_toArray, List.append_assoc, List.append_assoc, show [vb 46] = Lib.byteCells [46] from rfl, ← Lib.byteCells_append, ← Lib.byteCells_append] at hat3
      exact hat3
    · have ei : 8 * ((4 : Nat) : Int) - 8 = 24 := rfl
      have ed : wrap64 (bits .and .u32 (x / 16777216) 255) = (x / 16777216) % 256 := u32_and255 _ (by omega) (by omega)
      have hd0 : 0 ≤ (x / 16777216) % 256 := by omega
      have hd1 : (x / 16777216) % 256 < 256 := by omega
      have il := itoa_len ((x / 16777216) % 256) hd0 (by omega)
      rw [ei]
      go_wp2_with fail
      rw [ed]
      refine (itoa_any B b (bs ++ Lib.byteCells l) _ hd0 (by omega) _ hib htw (by omega)).mono ?_
      rintro e w1 ⟨rfl, hib1, hb1⟩
      have hs1 := hb1.size
      go_wp2_with fail
      refine (writeString_any B b (bs ++ Lib.byteCells l) _ _ hib1 (by omega) (by rw [strSize]; omega) (by omega)).mono ?_
      rintro e w2 ⟨rfl, hat, hb2⟩
      have hs2 := hb2.size
      go_wp2_with fail
      refine (writeByte_any B b (bs ++ Lib.byteCells l ++ Lib.strCells _) _ _ (Or.inr hat) (by simp [Lib.byteCells_length, Lib.strCells_length, strSize]; omega) (by omega)).mono ?_
      rintro e w3 ⟨rfl, hat3, hb3⟩
      have hs3 := hb3.size
      go_wp2_with fail
      refine ⟨⟨3, l ++ (Lib.itoa (x / 16777216 % 256) ++ [46]), by omega, rfl, by rw [HX.out]; simp [octs], by rw [List.length_append, List.length_append]; simp only [List.length_cons, List.length_nil]; omega, Or.inr ?_, ((hB.trans hb1).trans hb2).trans hb3⟩, by simp [intOf]⟩
      rw [Lib.strCells_toArray, List.append_assoc, List.append_assoc, show [vb 46] = Lib.byteCells [46] from rfl, ← Lib.byteCells_append, ← Lib.byteCells_append] at hat3
      exact hat3
theorem itoa_short (n : Int) (h0 : 0 ≤ n) (h1 : n < 4294967296) : (Lib.itoa n).length ≤ 21 := itoa_len n h0 h1
theorem octs_len (a : Int) (k : Nat) : (octs a k).length ≤ 22 * k := by
  induction k with
  | zero => simp [octs]
  | succ k ih =>
    have h := itoa_len (a / 256 ^ k % 256) (by omega) (by omega)
    simp only [octs, List.length_append]
    split <;> simp <;> omega
theorem endT_len (a p : Int) (p0 : 0 ≤ p) (p1 : p < 65536) : (endT a p).length ≤ 120 := by
  have h1 := octs_len a 4
  have h2 := itoa_len p p0 (by omega)
  simp only [endT, List.length_append, List.length_cons]
  omega
/-- A tuple's text. -/
def textT (t : Tup) : List UInt8 := endT t.src t.sp ++ 62 :: endT t.dst t.dp
set_option maxHeartbeats 2000000 in
set_option maxRecDepth 100000 in
theorem text_any (t : Tup) (w : World) (ht : t.In) (htab : Tab w.heap.size w) :
    Calls Tryd.prog 19 #[tv t] w fun e w' => e = .returned (.string ⟨(textT t).toArray⟩) ∧ Below w.heap.size w w' := by
  obtain ⟨⟨hs0, hs1⟩, ⟨hd0, hd1⟩, ⟨hp0, hp1⟩, ⟨hq0, hq1⟩⟩ := ht
  have l1 := endT_len t.src t.sp hp0 hp1
  go_enter Tryd.func19, Tryd.ntmps19
  go_wp2_with fail
  obtain ⟨W0, hW0⟩ : ∃ W0, w.alloc (.cells #[.int .u32 t.src, .int .u32 t.dst, .int .u16 t.sp, .int .u16 t.dp] 25) = W0 := ⟨_, rfl⟩
  have hA : Bt W0 w.heap.size t := hW0 ▸ Bt.new w t
  have hW : Below w.heap.size w W0 := hW0 ▸ (Below.refl _ w).alloc (Nat.le_refl _) _
  have hz : W0.heap.size = w.heap.size + 1 := by rw [← hW0]; simp
  rw [hW0]
  have htab0 : Tab W0.heap.size W0 := Lib.tabBelow_of_tabIs (htab _ hW)
  obtain ⟨W1, hW1⟩ : ∃ W1, W0.alloc (.cells #[.pointer none, .slice none 0 0] 55) = W1 := ⟨_, rfl⟩
  have hb : IsB W0.heap.size (w.heap.size + 1) [] W1 := by
    refine Or.inl ⟨by omega, .slice none 0 0, ?_, World.ownsRow_nil _ _ _ _, by simp [Value.ownBlock]⟩
    rw [← hW1, ← hz]
    exact World.alloc_heap_new W0 _
  have hB1 : Below W0.heap.size W0 W1 := hW1 ▸ (Below.refl _ W0).alloc (Nat.le_refl _) _
  rw [hW1]
  clear hW1 hW0
  have hz1 := hB1.size
  refine (end_any W0.heap.size (w.heap.size + 1) [] t.src t.sp W1 hb (by simp) hz1 (htab0.on hB1) hs0 hs1 hp0 hp1).mono ?_
  rintro e w2 ⟨rfl, hb2, hB2⟩
  have hB2' := hB1.trans hB2
  have hA2 := hA.below hB2' (by omega)
  have hz2 := hB2.size
  have a1 := hA2.c1
  have a3 := hA2.c3
  go_wp2_with fail
  refine (writeByte_any W0.heap.size (w.heap.size + 1) _ 62 w2 hb2 (by simp [Lib.byteCells_length]; omega) (by omega)).mono ?_
  rintro e w3 ⟨rfl, hb3, hB3⟩
  have hB3' := hB2'.trans hB3
  have hA3 := hA.below hB3' (by omega)
  have hz3 := hB3.size
  have a1 := hA3.c1
  have a3 := hA3.c3
  go_wp2_with fail
  refine (end_any W0.heap.size (w.heap.size + 1) _ t.dst t.dp w3 (Or.inr hb3) (by simp [Lib.byteCells_length]; omega) (by omega) (htab0.on hB3') hd0 hd1 hq0 hq1).mono ?_
  rintro e w4 ⟨rfl, hb4, hB4⟩
  have hz4 := hB4.size
  go_wp2_with fail
  have eb : [] ++ Lib.byteCells (endT t.src t.sp) ++ [vb 62] ++ Lib.byteCells (endT t.dst t.dp) = Lib.byteCells (textT t) := by
    rw [show [vb 62] = Lib.byteCells [62] from rfl, List.nil_append, ← Lib.byteCells_append, ← Lib.byteCells_append]
    unfold textT
    simp
  rw [eb] at hb4
  refine (Tryd.Builder_String_any W0.heap.size (w.heap.size + 1) (textT t) w4 hb4 (by omega)).mono ?_
  rintro e w5 ⟨rfl, hB5⟩
  go_wp2
  go_ret
  exact ⟨rfl, hW.trans ((((hB3'.trans hB4).trans hB5)).mono (by omega))⟩
end Go.Proofs.YtdlpkphbgbffpaaDoor
