/-
  The walk of the statements' wakes.
-/
import Derived.Test.YtdlpkphbgbffpaaDoorEnd
import Derived.Test.YtdlpkphbgbffpaaDoorBytes
import Derived.Test.YtdlpkphbgbffpaaDoorTakes
import Derived.Test.YtdlpkphbgbffpaaDoorSorted
import Derived.Test.YtdlpkphbgbffpaaDoorAll
import Derived.Laws.BytesArg
namespace Go.Proofs.YtdlpkphbgbffpaaDoor
open Go Go.RowKit Go.Shelf
set_option linter.unusedSimpArgs false
set_option linter.unusedVariables false
attribute [local go_sem] Oper.semAt_some
theorem oneT_in : oneT.In := by unfold Tup.In; decide
theorem backOne_in : (backT oneT).In := by unfold Tup.In; decide
theorem made13 : (madeCells (Value.int .u8 0).cells (13 * 1)).toList = (List.replicate 13 0).map vb := by kernel_rfl
theorem isB8_bytesL (x : Int) : ∀ k, isB8 (bytesL x k)
  | 0 => fun y h => by simp [bytesL] at h
  | k + 1 => fun y h => by
    rw [bytesL, List.mem_cons] at h
    rcases h with rfl | h
    · omega
    · exact isB8_bytesL x k y h
theorem isB8_bytesT (t : Tup) : isB8 (bytesT t) := fun y h => by
  obtain ⟨k, _, hk⟩ := List.mem_flatMap.1 h
  exact isB8_bytesL _ _ y hk
/-- What wakes holds while it walks. -/
structure Wk (w : World) (gt : Nat) (A : Option Addr) (c : Nat) (W : World) : Prop where
  bt : Bt W gt oneT
  sl : Sl W (gt + 1) A 12 c ((bytesT oneT).map vb)
  below : Below w.heap.size w W
  lt : gt + 1 ≤ W.heap.size
section
variable {w W W' : World} {gt : Nat} {A : Option Addr} {c : Nat}
theorem Wk.next (h : Wk w gt A c W) (hb : Below W.heap.size W W') : Wk w gt A c W' :=
  ⟨h.bt.below hb h.bt.lt, h.sl.below (hb.mono h.lt), h.below.trans (hb.mono h.below.size), Nat.le_trans h.lt hb.size⟩
theorem Wk.alloc (h : Wk w gt A c W) (o : Obj) : Wk w gt A c (W.alloc o) := h.next ((Below.refl _ W).alloc (Nat.le_refl _) o)
theorem Wk.drew (h : Wk w gt A c W) : Wk w gt A c W.drew := h.next (Below.refl _ W).drew
theorem Wk.tab (h : Wk w gt A c W) (ht : Tab w.heap.size w) : Tab W.heap.size W := Lib.tabBelow_of_tabIs (ht _ h.below)
end
/-- Two tuples laid as a slice's row. -/
theorem Ts.two (w : World) (x y : Tup) : Ts (w.alloc (.cells #[.int .u32 x.src, .int .u32 x.dst, .int .u16 x.sp, .int .u16 x.dp, .int .u32 y.src, .int .u32 y.dst, .int .u16 y.sp, .int .u16 y.dp] 25)) (w.heap.size + 1) (some ⟨w.heap.size, 0, none⟩) 2 2 [x, y] := by
  refine ⟨rfl, Nat.le_refl _, by unfold maxLen; omega, fun _ => ⟨w.heap.size, 0, rfl, by omega, fun j e he => ?_⟩⟩
  have hh := World.alloc_heap_new w (.cells #[.int .u32 x.src, .int .u32 x.dst, .int .u16 x.sp, .int .u16 x.dp, .int .u32 y.src, .int .u32 y.dst, .int .u16 y.sp, .int .u16 y.dp] 25)
  rcases j with _ | _ | j
  · cases he
    exact ⟨cell_of_row _ _ 0 _ 25 (0, 0) hh, cell_of_row _ _ 1 _ 25 (0, 0) hh, cell_of_row _ _ 2 _ 25 (0, 0) hh, cell_of_row _ _ 3 _ 25 (0, 0) hh⟩
  · cases he
    exact ⟨cell_of_row _ _ 4 _ 25 (0, 0) hh, cell_of_row _ _ 5 _ 25 (0, 0) hh, cell_of_row _ _ 6 _ 25 (0, 0) hh, cell_of_row _ _ 7 _ 25 (0, 0) hh⟩
  · simp at he
structure Wk2 (w : World) (gt : Nat) (A : Option Addr) (c : Nat) (A' : Option Addr) (c' : Nat) (W0 W : World) : Prop where
  wk : Wk w gt A c W
  ts : Ts W W0.heap.size A' 2 c' [oneT, backT oneT]
  le : W0.heap.size ≤ W.heap.size
section
variable {w W W' W0 : World} {gt : Nat} {A A' : Option Addr} {c c' : Nat}
theorem Wk2.next (h : Wk2 w gt A c A' c' W0 W) (hb : Below W.heap.size W W') : Wk2 w gt A c A' c' W0 W' := ⟨h.wk.next hb, h.ts.below (hb.mono h.le), Nat.le_trans h.le hb.size⟩
theorem Wk2.alloc (h : Wk2 w gt A c A' c' W0 W) (o : Obj) : Wk2 w gt A c A' c' W0 (W.alloc o) := h.next ((Below.refl _ W).alloc (Nat.le_refl _) o)
theorem Wk2.drew (h : Wk2 w gt A c A' c' W0 W) : Wk2 w gt A c A' c' W0 W.drew := h.next (Below.refl _ W).drew
end
/-- 'string(b)' of a slice of bytes. -/
theorem run_str {W : World} {B n c : Nat} {A : Option Addr} {l : List Int} (h : Sl W B A n c (l.map vb)) (hn : 0 < n) : (convert 26 9 (.slice A n c)).run Tryd.prog W = .ok (.string (strOfNums l)) W := by
  have hl : l.length = n := by simpa using h.1
  obtain ⟨b, off, rfl, _, hc⟩ := h.at_ hn
  refine run_convert_bytes_arg W 26 5 Tryd.underlying26 Tryd.underlying5 b off n c l hl (fun i hi => hc i _ ?_) 9 Tryd.underlying9
  have hi' : i < l.length := by omega
  rw [List.getElem?_map, List.getElem?_eq_getElem hi']
  simp [List.getD, List.getElem?_eq_getElem hi']
theorem run_str_one {a : Act} {w W : World} {gt c : Nat} {A : Option Addr} {o : Oper} (ho : o.op = .convert 26 9 (.tmp 30)) (hs : a.tmps.getD 30 undef = .slice A 12 c) (hW : Wk w gt A c W) : (execOp a.eval o).run Tryd.prog W = .ok (.value (.string ⟨#[10, 0, 0, 1, 10, 0, 0, 2, 0, 80, 1, 2]⟩)) W := by
  have h := run_str hW.sl (by omega)
  have hs' : a.tmps[30]?.getD undef = .slice A 12 c := by simpa using hs
  have e : strOfNums (bytesT oneT) = ⟨#[10, 0, 0, 1, 10, 0, 0, 2, 0, 80, 1, 2]⟩ := by decide
  rw [e] at h
  unfold execOp
  simp [ho, Act.eval, hs', go_sem, h]
theorem run_load_bt {a : Act} {s : Tmp} {g : Nat} {t : Tup} {W : World} {o : Oper} (ho : o.op = .load 25 (.tmp s)) (hs : a.tmps.getD s undef = .pointer (some ⟨g, 0, none⟩)) (hb : Bt W g t) : (execOp a.eval o).run Tryd.prog W = .ok (.value (tv t)) W := by
  have c0 := hb.c0
  have c1 := hb.c1
  have c2 := hb.c2
  have c3 := hb.c3
  have hs' : a.tmps[s]?.getD undef = .pointer (some ⟨g, 0, none⟩) := by simpa using hs
  unfold execOp
  simp [ho, Act.eval, hs', go_sem, c0, c1, c2, c3]
theorem run_eq25 {a : Act} {s t : Tmp} {o : Oper} (x y : Tup) (v : Bool) (ho : o.op = .binOp .eql 25 (.tmp s) (.tmp t) 25) (hs : a.tmps.getD s undef = tv x) (ht : a.tmps.getD t undef = tv y) (hv : decide (x = y) = v) (W : World) : (execOp a.eval o).run Tryd.prog W = .ok (.value (.bool v)) W := by
  have hs' : a.tmps[s]?.getD undef = tv x := by simpa using hs
  have ht' : a.tmps[t]?.getD undef = tv y := by simpa using ht
  have h := eql25 x y W
  have hg : (eqGuard .eql 25 (.tmp s) (.tmp t) (tv x) (tv y)).run Tryd.prog W = .ok () W := run_eqGuard_agg W .eql 25 _ _ _ _ (by kernel_rfl)
  rw [hv] at h
  unfold execOp
  simp [ho, Act.eval, hs', ht', h, hg, Sem.run_bind]
theorem itoa_two {i : Nat} (h1 : ¬ i < 10) (h2 : i < 100) : Lib.itoa (i : Int) = [UInt8.ofNat (48 + i / 10), UInt8.ofNat (48 + i % 10)] := by rw [Lib.itoa_nonneg, Lib.decDigits_two h1 h2]
theorem itoa_one {i : Nat} (h : i < 10) : Lib.itoa (i : Int) = [UInt8.ofNat (48 + i)] := by rw [Lib.itoa_nonneg, Lib.decDigits_one h]
theorem it0 : Lib.itoa 0 = [48] := itoa_one (i := 0) (by decide)
theorem it1 : Lib.itoa 1 = [49] := itoa_one (i := 1) (by decide)
theorem it2 : Lib.itoa 2 = [50] := itoa_one (i := 2) (by decide)
theorem it10 : Lib.itoa 10 = [49, 48] := itoa_two (i := 10) (by decide) (by decide)
theorem it80 : Lib.itoa 80 = [56, 48] := itoa_two (i := 80) (by decide) (by decide)
theorem it258 : Lib.itoa 258 = [50, 53, 56] := by
  rw [show (258 : Int) = ((258 : Nat) : Int) from rfl, Lib.itoa_nonneg, Lib.decDigits, dif_neg (by decide), Lib.decDigits_two (by decide) (by decide)]
  rfl
theorem text_one : textT oneT = [49, 48, 46, 48, 46, 48, 46, 49, 58, 56, 48, 62, 49, 48, 46, 48, 46, 48, 46, 50, 58, 50, 53, 56] := by
  simp [textT, endT, octs, oneT, it0, it1, it2, it10, it80, it258]
theorem run_eq_text {a : Act} {o : Oper} (ho : o.op = .binOp .eql 9 (.tmp 52) (.const (.string ⟨#[49, 48, 46, 48, 46, 48, 46, 49, 58, 56, 48, 62, 49, 48, 46, 48, 46, 48, 46, 50, 58, 50, 53, 56]⟩)) 9) (hs : a.tmps.getD 52 undef = .string ⟨(textT oneT).toArray⟩) (W : World) : (execOp a.eval o).run Tryd.prog W = .ok (.value (.bool true)) W := by
  have hs' : a.tmps[52]?.getD undef = .string ⟨(textT oneT).toArray⟩ := by simpa using hs
  rw [text_one] at hs'
  unfold execOp
  simp [ho, Act.eval, hs', go_sem]
theorem run_field_one {a : Act} {o : Oper} (ho : o.op = .field 25 (.tmp 57) 2) (hs : a.tmps.getD 57 undef = tv (backT oneT)) (W : World) : (execOp a.eval o).run Tryd.prog W = .ok (.value (.int .u16 258)) W := by
  have hs' : a.tmps[57]?.getD undef = tv (backT oneT) := by simpa using hs
  have hf : ∀ W, (Instr.field 25 (tv (backT oneT)) 2).run Tryd.prog W = .ok (.int .u16 258) W := fun _ => by kernel_rfl
  unfold execOp
  simp [ho, Act.eval, hs', hf]
theorem less_val (a b : Tup) (v : Bool) (hv : decide (cmpT a b < 0) = v) (w : World) : Calls Tryd.prog 15 #[tv a, tv b] w fun e W' => e = .returned (.bool v) ∧ Below w.heap.size w W' := hv ▸ less_any a b w
theorem cmp_val (a b : Tup) (v : Int) (hv : cmpT a b = v) (w : World) : Calls Tryd.prog 13 #[tv a, tv b] w fun e W' => e = .returned (vi v) ∧ Below w.heap.size w W' := hv ▸ cmp_any a b w
theorem all_val (A A' : Option Addr) (n n' c c' : Nat) (xs ys : List Tup) (v : Bool) (w : World) (hs : Ts w w.heap.size A n c xs) (ht : Ts w w.heap.size A' n' c' ys) (hv : decide (xs = ys) = v) :
    Calls Tryd.prog 21 #[.slice A n c, .slice A' n' c'] w fun e W' => e = .returned (.bool v) ∧ Below w.heap.size w W' := hv ▸ all_any A A' n n' c c' xs ys w hs ht
/-- The operations of wakes' great statement. -/
noncomputable def W6 : Array Oper := opsOf Tryd.f8 6
--FACTS
theorem W6_s : Region.noSelect W6 = true := by kernel_rfl
theorem W6_f0 : Region.free .any W6 #[false, false, false, false, false, false, false, false, false, false, false, false, false, false, false, false, false, false, false, false, false, false, false, false, false, false, false, false, false, false, false, false, false, false, false, false, false, false, false, false, false, false, false, false, false, false, false, false, false, false, false, false] 0 = true := by kernel_rfl
theorem W6_c0 : (Region.ready .any W6 #[false, false, false, false, false, false, false, false, false, false, false, false, false, false, false, false, false, false, false, false, false, false, false, false, false, false, false, false, false, false, false, false, false, false, false, false, false, false, false, false, false, false, false, false, false, false, false, false, false, false, false, false]).contains 0 = true := by kernel_rfl
theorem W6_f1 : Region.free .any W6 #[true, false, false, false, false, false, false, false, false, false, false, false, false, false, false, false, false, false, false, false, false, false, false, false, false, false, false, false, false, false, false, false, false, false, false, false, false, false, false, false, false, false, false, false, false, false, false, false, false, false, false, false] 1 = true := by kernel_rfl
theorem W6_c1 : (Region.ready .any W6 #[true, false, false, false, false, false, false, false, false, false, false, false, false, false, false, false, false, false, false, false, false, false, false, false, false, false, false, false, false, false, false, false, false, false, false, false, false, false, false, false, false, false, false, false, false, false, false, false, false, false, false, false]).contains 1 = true := by kernel_rfl
theorem W6_f2 : Region.free .any W6 #[true, true, false, false, false, false, false, false, false, false, false, false, false, false, false, false, false, false, false, false, false, false, false, false, false, false, false, false, false, false, false, false, false, false, false, false, false, false, false, false, false, false, false, false, false, false, false, false, false, false, false, false] 2 = true := by kernel_rfl
theorem W6_c2 : (Region.ready .any W6 #[true, true, false, false, false, false, false, false, false, false, false, false, false, false, false, false, false, false, false, false, false, false, false, false, false, false, false, false, false, false, false, false, false, false, false, false, false, false, false, false, false, false, false, false, false, false, false, false, false, false, false, false]).contains 2 = true := by kernel_rfl
theorem W6_f3 : Region.free .any W6 #[true, true, true, false, false, false, false, false, false, false, false, false, false, false, false, false, false, false, false, false, false, false, false, false, false, false, false, false, false, false, false, false, false, false, false, false, false, false, false, false, false, false, false, false, false, false, false, false, false, false, false, false] 3 = true := by kernel_rfl
theorem W6_c3 : (Region.ready .any W6 #[true, true, true, false, false, false, false, false, false, false, false, false, false, false, false, false, false, false, false, false, false, false, false, false, false, false, false, false, false, false, false, false, false, false, false, false, false, false, false, false, false, false, false, false, false, false, false, false, false, false, false, false]).contains 3 = true := by kernel_rfl
theorem W6_f4 : Region.free .any W6 #[true, true, true, true, false, false, false, false, false, false, false, false, false, false, false, false, false, false, false, false, false, false, false, false, false, false, false, false, false, false, false, false, false, false, false, false, false, false, false, false, false, false, false, false, false, false, false, false, false, false, false, false] 4 = true := by kernel_rfl
theorem W6_c4 : (Region.ready .any W6 #[true, true, true, true, false, false, false, false, false, false, false, false, false, false, false, false, false, false, false, false, false, false, false, false, false, false, false, false, false, false, false, false, false, false, false, false, false, false, false, false, false, false, false, false, false, false, false, false, false, false, false, false]).contains 4 = true := by kernel_rfl
theorem W6_r5 : Region.ready .any W6 #[true, true, true, true, true, false, false, false, false, false, false, false, false, false, false, false, false, false, false, false, false, false, false, false, false, false, false, false, false, false, false, false, false, false, false, false, false, false, false, false, false, false, false, false, false, false, false, false, false, false, false, false] = [5] := by kernel_rfl
theorem W6_f6 : Region.free .any W6 #[true, true, true, true, true, true, false, false, false, false, false, false, false, false, false, false, false, false, false, false, false, false, false, false, false, false, false, false, false, false, false, false, false, false, false, false, false, false, false, false, false, false, false, false, false, false, false, false, false, false, false, false] 6 = true := by kernel_rfl
theorem W6_c6 : (Region.ready .any W6 #[true, true, true, true, true, true, false, false, false, false, false, false, false, false, false, false, false, false, false, false, false, false, false, false, false, false, false, false, false, false, false, false, false, false, false, false, false, false, false, false, false, false, false, false, false, false, false, false, false, false, false, false]).contains 6 = true := by kernel_rfl
theorem W6_f7 : Region.free .any W6 #[true, true, true, true, true, true, true, false, false, false, false, false, false, false, false, false, false, false, false, false, false, false, false, false, false, false, false, false, false, false, false, false, false, false, false, false, false, false, false, false, false, false, false, false, false, false, false, false, false, false, false, false] 7 = true := by kernel_rfl
theorem W6_c7 : (Region.ready .any W6 #[true, true, true, true, true, true, true, false, false, false, false, false, false, false, false, false, false, false, false, false, false, false, false, false, false, false, false, false, false, false, false, false, false, false, false, false, false, false, false, false, false, false, false, false, false, false, false, false, false, false, false, false]).contains 7 = true := by kernel_rfl
theorem W6_f8 : Region.free .any W6 #[true, true, true, true, true, true, true, true, false, false, false, false, false, false, false, false, false, false, false, false, false, false, false, false, false, false, false, false, false, false, false, false, false, false, false, false, false, false, false, false, false, false, false, false, false, false, false, false, false, false, false, false] 8 = true := by kernel_rfl
theorem W6_c8 : (Region.ready .any W6 #[true, true, true, true, true, true, true, true, false, false, false, false, false, false, false, false, false, false, false, false, false, false, false, false, false, false, false, false, false, false, false, false, false, false, false, false, false, false, false, false, false, false, false, false, false, false, false, false, false, false, false, false]).contains 8 = true := by kernel_rfl
theorem W6_f9 : Region.free .any W6 #[true, true, true, true, true, true, true, true, true, false, false, false, false, false, false, false, false, false, false, false, false, false, false, false, false, false, false, false, false, false, false, false, false, false, false, false, false, false, false, false, false, false, false, false, false, false, false, false, false, false, false, false] 9 = true := by kernel_rfl
theorem W6_c9 : (Region.ready .any W6 #[true, true, true, true, true, true, true, true, true, false, false, false, false, false, false, false, false, false, false, false, false, false, false, false, false, false, false, false, false, false, false, false, false, false, false, false, false, false, false, false, false, false, false, false, false, false, false, false, false, false, false, false]).contains 9 = true := by kernel_rfl
theorem W6_f10 : Region.free .any W6 #[true, true, true, true, true, true, true, true, true, true, false, false, false, false, false, false, false, false, false, false, false, false, false, false, false, false, false, false, false, false, false, false, false, false, false, false, false, false, false, false, false, false, false, false, false, false, false, false, false, false, false, false] 10 = true := by kernel_rfl
theorem W6_c10 : (Region.ready .any W6 #[true, true, true, true, true, true, true, true, true, true, false, false, false, false, false, false, false, false, false, false, false, false, false, false, false, false, false, false, false, false, false, false, false, false, false, false, false, false, false, false, false, false, false, false, false, false, false, false, false, false, false, false]).contains 10 = true := by kernel_rfl
theorem W6_f11 : Region.free .any W6 #[true, true, true, true, true, true, true, true, true, true, true, false, false, false, false, false, false, false, false, false, false, false, false, false, false, false, false, false, false, false, false, false, false, false, false, false, false, false, false, false, false, false, false, false, false, false, false, false, false, false, false, false] 11 = true := by kernel_rfl
theorem W6_c11 : (Region.ready .any W6 #[true, true, true, true, true, true, true, true, true, true, true, false, false, false, false, false, false, false, false, false, false, false, false, false, false, false, false, false, false, false, false, false, false, false, false, false, false, false, false, false, false, false, false, false, false, false, false, false, false, false, false, false]).contains 11 = true := by kernel_rfl
theorem W6_f12 : Region.free .any W6 #[true, true, true, true, true, true, true, true, true, true, true, true, false, false, false, false, false, false, false, false, false, false, false, false, false, false, false, false, false, false, false, false, false, false, false, false, false, false, false, false, false, false, false, false, false, false, false, false, false, false, false, false] 12 = true := by kernel_rfl
theorem W6_c12 : (Region.ready .any W6 #[true, true, true, true, true, true, true, true, true, true, true, true, false, false, false, false, false, false, false, false, false, false, false, false, false, false, false, false, false, false, false, false, false, false, false, false, false, false, false, false, false, false, false, false, false, false, false, false, false, false, false, false]).contains 12 = true := by kernel_rfl
theorem W6_f13 : Region.free .any W6 #[true, true, true, true, true, true, true, true, true, true, true, true, true, false, false, false, false, false, false, false, false, false, false, false, false, false, false, false, false, false, false, false, false, false, false, false, false, false, false, false, false, false, false, false, false, false, false, false, false, false, false, false] 13 = true := by kernel_rfl
theorem W6_c13 : (Region.ready .any W6 #[true, true, true, true, true, true, true, true, true, true, true, true, true, false, false, false, false, false, false, false, false, false, false, false, false, false, false, false, false, false, false, false, false, false, false, false, false, false, false, false, false, false, false, false, false, false, false, false, false, false, false, false]).contains 13 = true := by kernel_rfl
theorem W6_f14 : Region.free .any W6 #[true, true, true, true, true, true, true, true, true, true, true, true, true, true, false, false, false, false, false, false, false, false, false, false, false, false, false, false, false, false, false, false, false, false, false, false, false, false, false, false, false, false, false, false, false, false, false, false, false, false, false, false] 14 = true := by kernel_rfl
theorem W6_c14 : (Region.ready .any W6 #[true, true, true, true, true, true, true, true, true, true, true, true, true, true, false, false, false, false, false, false, false, false, false, false, false, false, false, false, false, false, false, false, false, false, false, false, false, false, false, false, false, false, false, false, false, false, false, false, false, false, false, false]).contains 14 = true := by kernel_rfl
theorem W6_f15 : Region.free .any W6 #[true, true, true, true, true, true, true, true, true, true, true, true, true, true, true, false, false, false, false, false, false, false, false, false, false, false, false, false, false, false, false, false, false, false, false, false, false, false, false, false, false, false, false, false, false, false, false, false, false, false, false, false] 15 = true := by kernel_rfl
theorem W6_c15 : (Region.ready .any W6 #[true, true, true, true, true, true, true, true, true, true, true, true, true, true, true, false, false, false, false, false, false, false, false, false, false, false, false, false, false, false, false, false, false, false, false, false, false, false, false, false, false, false, false, false, false, false, false, false, false, false, false, false]).contains 15 = true := by kernel_rfl
theorem W6_f16 : Region.free .any W6 #[true, true, true, true, true, true, true, true, true, true, true, true, true, true, true, true, false, false, false, false, false, false, false, false, false, false, false, false, false, false, false, false, false, false, false, false, false, false, false, false, false, false, false, false, false, false, false, false, false, false, false, false] 16 = true := by kernel_rfl
theorem W6_c16 : (Region.ready .any W6 #[true, true, true, true, true, true, true, true, true, true, true, true, true, true, true, true, false, false, false, false, false, false, false, false, false, false, false, false, false, false, false, false, false, false, false, false, false, false, false, false, false, false, false, false, false, false, false, false, false, false, false, false]).contains 16 = true := by kernel_rfl
theorem W6_f17 : Region.free .any W6 #[true, true, true, true, true, true, true, true, true, true, true, true, true, true, true, true, true, false, false, false, false, false, false, false, false, false, false, false, false, false, false, false, false, false, false, false, false, false, false, false, false, false, false, false, false, false, false, false, false, false, false, false] 17 = true := by kernel_rfl
theorem W6_c17 : (Region.ready .any W6 #[true, true, true, true, true, true, true, true, true, true, true, true, true, true, true, true, true, false, false, false, false, false, false, false, false, false, false, false, false, false, false, false, false, false, false, false, false, false, false, false, false, false, false, false, false, false, false, false, false, false, false, false]).contains 17 = true := by kernel_rfl
theorem W6_f18 : Region.free .any W6 #[true, true, true, true, true, true, true, true, true, true, true, true, true, true, true, true, true, true, false, false, false, false, false, false, false, false, false, false, false, false, false, false, false, false, false, false, false, false, false, false, false, false, false, false, false, false, false, false, false, false, false, false] 18 = true := by kernel_rfl
theorem W6_c18 : (Region.ready .any W6 #[true, true, true, true, true, true, true, true, true, true, true, true, true, true, true, true, true, true, false, false, false, false, false, false, false, false, false, false, false, false, false, false, false, false, false, false, false, false, false, false, false, false, false, false, false, false, false, false, false, false, false, false]).contains 18 = true := by kernel_rfl
theorem W6_f19 : Region.free .any W6 #[true, true, true, true, true, true, true, true, true, true, true, true, true, true, true, true, true, true, true, false, false, false, false, false, false, false, false, false, false, false, false, false, false, false, false, false, false, false, false, false, false, false, false, false, false, false, false, false, false, false, false, false] 19 = true := by kernel_rfl
theorem W6_c19 : (Region.ready .any W6 #[true, true, true, true, true, true, true, true, true, true, true, true, true, true, true, true, true, true, true, false, false, false, false, false, false, false, false, false, false, false, false, false, false, false, false, false, false, false, false, false, false, false, false, false, false, false, false, false, false, false, false, false]).contains 19 = true := by kernel_rfl
theorem W6_f20 : Region.free .any W6 #[true, true, true, true, true, true, true, true, true, true, true, true, true, true, true, true, true, true, true, true, false, false, false, false, false, false, false, false, false, false, false, false, false, false, false, false, false, false, false, false, false, false, false, false, false, false, false, false, false, false, false, false] 20 = true := by kernel_rfl
theorem W6_c20 : (Region.ready .any W6 #[true, true, true, true, true, true, true, true, true, true, true, true, true, true, true, true, true, true, true, true, false, false, false, false, false, false, false, false, false, false, false, false, false, false, false, false, false, false, false, false, false, false, false, false, false, false, false, false, false, false, false, false]).contains 20 = true := by kernel_rfl
theorem W6_r21 : Region.ready .any W6 #[true, true, true, true, true, true, true, true, true, true, true, true, true, true, true, true, true, true, true, true, true, false, false, false, false, false, false, false, false, false, false, false, false, false, false, false, false, false, false, false, false, false, false, false, false, false, false, false, false, false, false, false] = [21] := by kernel_rfl
theorem W6_r22 : Region.ready .any W6 #[true, true, true, true, true, true, true, true, true, true, true, true, true, true, true, true, true, true, true, true, true, true, false, false, false, false, false, false, false, false, false, false, false, false, false, false, false, false, false, false, false, false, false, false, false, false, false, false, false, false, false, false] = [22] := by kernel_rfl
theorem W6_f23 : Region.free .any W6 #[true, true, true, true, true, true, true, true, true, true, true, true, true, true, true, true, true, true, true, true, true, true, true, false, false, false, false, false, false, false, false, false, false, false, false, false, false, false, false, false, false, false, false, false, false, false, false, false, false, false, false, false] 23 = true := by kernel_rfl
theorem W6_c23 : (Region.ready .any W6 #[true, true, true, true, true, true, true, true, true, true, true, true, true, true, true, true, true, true, true, true, true, true, true, false, false, false, false, false, false, false, false, false, false, false, false, false, false, false, false, false, false, false, false, false, false, false, false, false, false, false, false, false]).contains 23 = true := by kernel_rfl
theorem W6_f24 : Region.free .any W6 #[true, true, true, true, true, true, true, true, true, true, true, true, true, true, true, true, true, true, true, true, true, true, true, true, false, false, false, false, false, false, false, false, false, false, false, false, false, false, false, false, false, false, false, false, false, false, false, false, false, false, false, false] 24 = true := by kernel_rfl
theorem W6_c24 : (Region.ready .any W6 #[true, true, true, true, true, true, true, true, true, true, true, true, true, true, true, true, true, true, true, true, true, true, true, true, false, false, false, false, false, false, false, false, false, false, false, false, false, false, false, false, false, false, false, false, false, false, false, false, false, false, false, false]).contains 24 = true := by kernel_rfl
theorem W6_f25 : Region.free .any W6 #[true, true, true, true, true, true, true, true, true, true, true, true, true, true, true, true, true, true, true, true, true, true, true, true, true, false, false, false, false, false, false, false, false, false, false, false, false, false, false, false, false, false, false, false, false, false, false, false, false, false, false, false] 25 = true := by kernel_rfl
theorem W6_c25 : (Region.ready .any W6 #[true, true, true, true, true, true, true, true, true, true, true, true, true, true, true, true, true, true, true, true, true, true, true, true, true, false, false, false, false, false, false, false, false, false, false, false, false, false, false, false, false, false, false, false, false, false, false, false, false, false, false, false]).contains 25 = true := by kernel_rfl
theorem W6_r26 : Region.ready .any W6 #[true, true, true, true, true, true, true, true, true, true, true, true, true, true, true, true, true, true, true, true, true, true, true, true, true, true, false, false, false, false, false, false, false, false, false, false, false, false, false, false, false, false, false, false, false, false, false, false, false, false, false, false] = [26] := by kernel_rfl
theorem W6_r27 : Region.ready .any W6 #[true, true, true, true, true, true, true, true, true, true, true, true, true, true, true, true, true, true, true, true, true, true, true, true, true, true, true, false, false, false, false, false, false, false, false, false, false, false, false, false, false, false, false, false, false, false, false, false, false, false, false, false] = [27] := by kernel_rfl
theorem W6_f28 : Region.free .any W6 #[true, true, true, true, true, true, true, true, true, true, true, true, true, true, true, true, true, true, true, true, true, true, true, true, true, true, true, true, false, false, false, false, false, false, false, false, false, false, false, false, false, false, false, false, false, false, false, false, false, false, false, false] 28 = true := by kernel_rfl
theorem W6_c28 : (Region.ready .any W6 #[true, true, true, true, true, true, true, true, true, true, true, true, true, true, true, true, true, true, true, true, true, true, true, true, true, true, true, true, false, false, false, false, false, false, false, false, false, false, false, false, false, false, false, false, false, false, false, false, false, false, false, false]).contains 28 = true := by kernel_rfl
theorem W6_f29 : Region.free .any W6 #[true, true, true, true, true, true, true, true, true, true, true, true, true, true, true, true, true, true, true, true, true, true, true, true, true, true, true, true, true, false, false, false, false, false, false, false, false, false, false, false, false, false, false, false, false, false, false, false, false, false, false, false] 29 = true := by kernel_rfl
theorem W6_c29 : (Region.ready .any W6 #[true, true, true, true, true, true, true, true, true, true, true, true, true, true, true, true, true, true, true, true, true, true, true, true, true, true, true, true, true, false, false, false, false, false, false, false, false, false, false, false, false, false, false, false, false, false, false, false, false, false, false, false]).contains 29 = true := by kernel_rfl
theorem W6_f30 : Region.free .any W6 #[true, true, true, true, true, true, true, true, true, true, true, true, true, true, true, true, true, true, true, true, true, true, true, true, true, true, true, true, true, true, false, false, false, false, false, false, false, false, false, false, false, false, false, false, false, false, false, false, false, false, false, false] 30 = true := by kernel_rfl
theorem W6_c30 : (Region.ready .any W6 #[true, true, true, true, true, true, true, true, true, true, true, true, true, true, true, true, true, true, true, true, true, true, true, true, true, true, true, true, true, true, false, false, false, false, false, false, false, false, false, false, false, false, false, false, false, false, false, false, false, false, false, false]).contains 30 = true := by kernel_rfl
theorem W6_f31 : Region.free .any W6 #[true, true, true, true, true, true, true, true, true, true, true, true, true, true, true, true, true, true, true, true, true, true, true, true, true, true, true, true, true, true, true, false, false, false, false, false, false, false, false, false, false, false, false, false, false, false, false, false, false, false, false, false] 31 = true := by kernel_rfl
theorem W6_c31 : (Region.ready .any W6 #[true, true, true, true, true, true, true, true, true, true, true, true, true, true, true, true, true, true, true, true, true, true, true, true, true, true, true, true, true, true, true, false, false, false, false, false, false, false, false, false, false, false, false, false, false, false, false, false, false, false, false, false]).contains 31 = true := by kernel_rfl
theorem W6_r32 : Region.ready .any W6 #[true, true, true, true, true, true, true, true, true, true, true, true, true, true, true, true, true, true, true, true, true, true, true, true, true, true, true, true, true, true, true, true, false, false, false, false, false, false, false, false, false, false, false, false, false, false, false, false, false, false, false, false] = [32] := by kernel_rfl
theorem W6_r33 : Region.ready .any W6 #[true, true, true, true, true, true, true, true, true, true, true, true, true, true, true, true, true, true, true, true, true, true, true, true, true, true, true, true, true, true, true, true, true, false, false, false, false, false, false, false, false, false, false, false, false, false, false, false, false, false, false, false] = [33] := by kernel_rfl
theorem W6_r34 : Region.ready .any W6 #[true, true, true, true, true, true, true, true, true, true, true, true, true, true, true, true, true, true, true, true, true, true, true, true, true, true, true, true, true, true, true, true, true, true, false, false, false, false, false, false, false, false, false, false, false, false, false, false, false, false, false, false] = [34] := by kernel_rfl
theorem W6_r35 : Region.ready .any W6 #[true, true, true, true, true, true, true, true, true, true, true, true, true, true, true, true, true, true, true, true, true, true, true, true, true, true, true, true, true, true, true, true, true, true, true, false, false, false, false, false, false, false, false, false, false, false, false, false, false, false, false, false] = [35] := by kernel_rfl
theorem W6_f36 : Region.free .any W6 #[true, true, true, true, true, true, true, true, true, true, true, true, true, true, true, true, true, true, true, true, true, true, true, true, true, true, true, true, true, true, true, true, true, true, true, true, false, false, false, false, false, false, false, false, false, false, false, false, false, false, false, false] 36 = true := by kernel_rfl
theorem W6_c36 : (Region.ready .any W6 #[true, true, true, true, true, true, true, true, true, true, true, true, true, true, true, true, true, true, true, true, true, true, true, true, true, true, true, true, true, true, true, true, true, true, true, true, false, false, false, false, false, false, false, false, false, false, false, false, false, false, false, false]).contains 36 = true := by kernel_rfl
theorem W6_f37 : Region.free .any W6 #[true, true, true, true, true, true, true, true, true, true, true, true, true, true, true, true, true, true, true, true, true, true, true, true, true, true, true, true, true, true, true, true, true, true, true, true, true, false, false, false, false, false, false, false, false, false, false, false, false, false, false, false] 37 = true := by kernel_rfl
theorem W6_c37 : (Region.ready .any W6 #[true, true, true, true, true, true, true, true, true, true, true, true, true, true, true, true, true, true, true, true, true, true, true, true, true, true, true, true, true, true, true, true, true, true, true, true, true, false, false, false, false, false, false, false, false, false, false, false, false, false, false, false]).contains 37 = true := by kernel_rfl
theorem W6_r38 : Region.ready .any W6 #[true, true, true, true, true, true, true, true, true, true, true, true, true, true, true, true, true, true, true, true, true, true, true, true, true, true, true, true, true, true, true, true, true, true, true, true, true, true, false, false, false, false, false, false, false, false, false, false, false, false, false, false] = [38] := by kernel_rfl
theorem W6_r39 : Region.ready .any W6 #[true, true, true, true, true, true, true, true, true, true, true, true, true, true, true, true, true, true, true, true, true, true, true, true, true, true, true, true, true, true, true, true, true, true, true, true, true, true, true, false, false, false, false, false, false, false, false, false, false, false, false, false] = [39] := by kernel_rfl
theorem W6_r40 : Region.ready .any W6 #[true, true, true, true, true, true, true, true, true, true, true, true, true, true, true, true, true, true, true, true, true, true, true, true, true, true, true, true, true, true, true, true, true, true, true, true, true, true, true, true, false, false, false, false, false, false, false, false, false, false, false, false] = [40] := by kernel_rfl
theorem W6_f41 : Region.free .any W6 #[true, true, true, true, true, true, true, true, true, true, true, true, true, true, true, true, true, true, true, true, true, true, true, true, true, true, true, true, true, true, true, true, true, true, true, true, true, true, true, true, true, false, false, false, false, false, false, false, false, false, false, false] 41 = true := by kernel_rfl
theorem W6_c41 : (Region.ready .any W6 #[true, true, true, true, true, true, true, true, true, true, true, true, true, true, true, true, true, true, true, true, true, true, true, true, true, true, true, true, true, true, true, true, true, true, true, true, true, true, true, true, true, false, false, false, false, false, false, false, false, false, false, false]).contains 41 = true := by kernel_rfl
theorem W6_f42 : Region.free .any W6 #[true, true, true, true, true, true, true, true, true, true, true, true, true, true, true, true, true, true, true, true, true, true, true, true, true, true, true, true, true, true, true, true, true, true, true, true, true, true, true, true, true, true, false, false, false, false, false, false, false, false, false, false] 42 = true := by kernel_rfl
theorem W6_c42 : (Region.ready .any W6 #[true, true, true, true, true, true, true, true, true, true, true, true, true, true, true, true, true, true, true, true, true, true, true, true, true, true, true, true, true, true, true, true, true, true, true, true, true, true, true, true, true, true, false, false, false, false, false, false, false, false, false, false]).contains 42 = true := by kernel_rfl
theorem W6_f43 : Region.free .any W6 #[true, true, true, true, true, true, true, true, true, true, true, true, true, true, true, true, true, true, true, true, true, true, true, true, true, true, true, true, true, true, true, true, true, true, true, true, true, true, true, true, true, true, true, false, false, false, false, false, false, false, false, false] 43 = true := by kernel_rfl
theorem W6_c43 : (Region.ready .any W6 #[true, true, true, true, true, true, true, true, true, true, true, true, true, true, true, true, true, true, true, true, true, true, true, true, true, true, true, true, true, true, true, true, true, true, true, true, true, true, true, true, true, true, true, false, false, false, false, false, false, false, false, false]).contains 43 = true := by kernel_rfl
theorem W6_f44 : Region.free .any W6 #[true, true, true, true, true, true, true, true, true, true, true, true, true, true, true, true, true, true, true, true, true, true, true, true, true, true, true, true, true, true, true, true, true, true, true, true, true, true, true, true, true, true, true, true, false, false, false, false, false, false, false, false] 44 = true := by kernel_rfl
theorem W6_c44 : (Region.ready .any W6 #[true, true, true, true, true, true, true, true, true, true, true, true, true, true, true, true, true, true, true, true, true, true, true, true, true, true, true, true, true, true, true, true, true, true, true, true, true, true, true, true, true, true, true, true, false, false, false, false, false, false, false, false]).contains 44 = true := by kernel_rfl
theorem W6_r45 : Region.ready .any W6 #[true, true, true, true, true, true, true, true, true, true, true, true, true, true, true, true, true, true, true, true, true, true, true, true, true, true, true, true, true, true, true, true, true, true, true, true, true, true, true, true, true, true, true, true, true, false, false, false, false, false, false, false] = [45] := by kernel_rfl
theorem W6_r46 : Region.ready .any W6 #[true, true, true, true, true, true, true, true, true, true, true, true, true, true, true, true, true, true, true, true, true, true, true, true, true, true, true, true, true, true, true, true, true, true, true, true, true, true, true, true, true, true, true, true, true, true, false, false, false, false, false, false] = [46] := by kernel_rfl
theorem W6_r47 : Region.ready .any W6 #[true, true, true, true, true, true, true, true, true, true, true, true, true, true, true, true, true, true, true, true, true, true, true, true, true, true, true, true, true, true, true, true, true, true, true, true, true, true, true, true, true, true, true, true, true, true, true, false, false, false, false, false] = [47] := by kernel_rfl
theorem W6_r48 : Region.ready .any W6 #[true, true, true, true, true, true, true, true, true, true, true, true, true, true, true, true, true, true, true, true, true, true, true, true, true, true, true, true, true, true, true, true, true, true, true, true, true, true, true, true, true, true, true, true, true, true, true, true, false, false, false, false] = [48] := by kernel_rfl
theorem W6_r49 : Region.ready .any W6 #[true, true, true, true, true, true, true, true, true, true, true, true, true, true, true, true, true, true, true, true, true, true, true, true, true, true, true, true, true, true, true, true, true, true, true, true, true, true, true, true, true, true, true, true, true, true, true, true, true, false, false, false] = [49] := by kernel_rfl
theorem W6_f50 : Region.free .any W6 #[true, true, true, true, true, true, true, true, true, true, true, true, true, true, true, true, true, true, true, true, true, true, true, true, true, true, true, true, true, true, true, true, true, true, true, true, true, true, true, true, true, true, true, true, true, true, true, true, true, true, false, false] 50 = true := by kernel_rfl
theorem W6_c50 : (Region.ready .any W6 #[true, true, true, true, true, true, true, true, true, true, true, true, true, true, true, true, true, true, true, true, true, true, true, true, true, true, true, true, true, true, true, true, true, true, true, true, true, true, true, true, true, true, true, true, true, true, true, true, true, true, false, false]).contains 50 = true := by kernel_rfl
theorem W6_f51 : Region.free .any W6 #[true, true, true, true, true, true, true, true, true, true, true, true, true, true, true, true, true, true, true, true, true, true, true, true, true, true, true, true, true, true, true, true, true, true, true, true, true, true, true, true, true, true, true, true, true, true, true, true, true, true, true, false] 51 = true := by kernel_rfl
theorem W6_c51 : (Region.ready .any W6 #[true, true, true, true, true, true, true, true, true, true, true, true, true, true, true, true, true, true, true, true, true, true, true, true, true, true, true, true, true, true, true, true, true, true, true, true, true, true, true, true, true, true, true, true, true, true, true, true, true, true, true, false]).contains 51 = true := by kernel_rfl
--ENDFACTS
set_option maxRecDepth 100000 in
set_option maxHeartbeats 8000000 in
theorem wakes_any (w : World) (ht : Tab w.heap.size w) : Calls Tryd.prog 8 #[] w fun e W' => e = .returned (.bool true) ∧ Below w.heap.size w W' := by
  go_enter Tryd.func8, Tryd.ntmps8
  go_wp2_with fail
  refine (one_any _).mono ?_
  rintro e w1 ⟨rfl, hB1⟩
  go_wp2_with fail
  refine (bytes_any oneT _ oneT_in).mono ?_
  rintro e w2 ⟨⟨v, rfl, hown2⟩, hB2⟩
  have hT2 := hB1.trans (hB2.mono hB1.size)
  obtain ⟨A, c, rfl, hs2⟩ := Sl.own hown2
  go_wp2_with fail
  refine (take_any A 12 c w2.heap.size (bytesT oneT) _ hs2 (Nat.le_refl _) (isB8_bytesT _)).mono ?_
  rintro e w3 ⟨rfl, hB3⟩
  have hk3 : takeT (bytesT oneT) = (oneT, 0) := by decide
  rw [hk3]
  have hT3 := hT2.trans (hB3.mono hT2.size)
  have hs3 := (hs2.below hB3).more hB3.size
  go_wp2_with fail
  have hbt := Bt.new w3 oneT
  have hs4 := (hs3.alloc (Nat.le_refl _) (.cells #[.int .u32 oneT.src, .int .u32 oneT.dst, .int .u16 oneT.sp, .int .u16 oneT.dp] 25)).more (B' := w3.heap.size + 1) (by omega)
  have hT4 := hT3.alloc hT3.size (.cells #[.int .u32 oneT.src, .int .u32 oneT.dst, .int .u16 oneT.sp, .int .u16 oneT.dp] 25)
  refine (take_any none 0 0 0 [] _ (Sl.nil _ _) (Nat.zero_le _) (fun x h => by simp at h)).mono ?_
  rintro e w5 ⟨rfl, hB5⟩
  have hk5 : takeT [] = (zeroT, 61) := by decide
  rw [hk5]
  have hw5 : Wk w w3.heap.size A c w5 := Wk.next (W := w3.alloc (.cells #[.int .u32 oneT.src, .int .u32 oneT.dst, .int .u16 oneT.sp, .int .u16 oneT.dp] 25)) ⟨hbt, hs4, hT4, by simp⟩ hB5
  clear hB1 hB2 hB3 hB5 hT2 hT3 hT4 hs2 hs3 hs4 hown2 hk3 hk5 hbt
  obtain ⟨gt, hgt⟩ : ∃ gt, w3.heap.size = gt := ⟨_, rfl⟩
  rw [hgt] at hw5 ⊢
  clear hgt
  have hsz5 := hw5.below.size
  obtain ⟨i0, hi, hz0, hz1, hz2⟩ := info_parts infoU8
  go_wp2_with (at_make; refine wpList_make_full _ rfl _ _ 26 rfl w.heap.size 5 i0 (.int .u8 0) 1 Tryd.underlying26 hi hz0 hz1 .i64 .i64 13 13 13 rfl rfl rfl rfl (by omega) (by simp [maxLen]) ?mk ?_)
  case mk => simp; omega
  intro w6 hown6 hgr6
  have hw6 := (hw5.alloc _).next (below_of_grown hgr6)
  have hs6 := Sl.own' hown6
  rw [show (madeCells #[Value.int .u8 0] 13).toList = (List.replicate 13 0).map vb from made13] at hs6
  go_wp2_with fail
  refine (take_any _ 13 13 w6.heap.size (List.replicate 13 0) _ hs6 (Nat.le_refl _) (fun x h => by simp at h; omega)).mono ?_
  rintro e w7 ⟨rfl, hB7⟩
  have hk7 : takeT (List.replicate 13 0) = (zeroT, 60) := by decide
  rw [hk7]
  have hw7 := hw6.next hB7
  clear hw5 hw6 hown6 hgr6 hs6 hB7 hsz5
  go_wp2_with fail
  refine (one_any _).mono ?_
  rintro e w8 ⟨rfl, hB8⟩
  have hw8 := (hw7.alloc _).next hB8
  go_wp2_with fail
  refine (back_any oneT _).mono ?_
  rintro e w9 ⟨rfl, hB9⟩
  have hw9 := hw8.next hB9
  go_wp2_with fail
  refine (one_any _).mono ?_
  rintro e w10 ⟨rfl, hB10⟩
  have hw10 := hw9.next hB10
  clear hw7 hw8 hB8 hw9 hB9 hB10
  go_wp2_with fail
  refine (sorted_any _ 2 2 [backT oneT, oneT] _ ((Ts.two w10 (backT oneT) oneT).more (by simp)) (by omega)).mono ?_
  rintro e w11 ⟨⟨A', c', rfl, hts⟩, hB11⟩
  rw [sort_two] at hts
  have hw11 := (hw10.alloc _).next hB11
  clear hw10 hB11
  go_wp2_with fail
  --R6
  refine region_as (R := W6) (by kernel_rfl) ?_
  refine wp_region_held_drew (S := Wk2 w gt A c A' c' w11) (by kernel_rfl) ?_ (fun hHeld => ?_)
  · exact (Wk2.mk hw11 hts (Nat.le_refl _)).drew
  refine listed_as (L := #[false, false, false, false, false, false, false, false, false, false, false, false, false, false, false, false, false, false, false, false, false, false, false, false, false, false, false, false, false, false, false, false, false, false, false, false, false, false, false, false, false, false, false, false, false, false, false, false, false, false, false, false]) (by kernel_rfl) ?_
  refine take_bare (i := 0) (some 30) (Go.Op.move (Go.Operand.tmp 1)) 26 #[true, false, false, false, false, false, false, false, false, false, false, false, false, false, false, false, false, false, false, false, false, false, false, false, false, false, false, false, false, false, false, false, false, false, false, false, false, false, false, false, false, false, false, false, false, false, false, false, false, false, false, false] (v := ?_) hHeld rfl (by kernel_rfl) (by kernel_rfl) (by kernel_rfl) (by kernel_rfl) W6_s W6_f0 W6_c0 (by kernel_rfl) (fun _ _ _ h => h) ?hya0_1 ?_
  case hya0_1 => intro w hSw; clear hSw; go_simp; try with_reducible rfl
  try simp only [Act.put, List.setIfInBounds_toArray, List.set_cons_zero, List.set_cons_succ]
  refine take_bare (i := 1) (some 31) (Go.Op.convert 26 9 (Go.Operand.tmp 30)) 9 #[true, true, false, false, false, false, false, false, false, false, false, false, false, false, false, false, false, false, false, false, false, false, false, false, false, false, false, false, false, false, false, false, false, false, false, false, false, false, false, false, false, false, false, false, false, false, false, false, false, false, false, false] (v := (.string ⟨#[10, 0, 0, 1, 10, 0, 0, 2, 0, 80, 1, 2]⟩)) hHeld rfl (by kernel_rfl) (by kernel_rfl) (by kernel_rfl) (by kernel_rfl) W6_s W6_f1 W6_c1 (by kernel_rfl) (fun _ _ _ h => h) (fun W hS => run_str_one (by kernel_rfl) rfl hS.1) ?_
  try simp only [Act.put, List.setIfInBounds_toArray, List.set_cons_zero, List.set_cons_succ]
  refine take_bare (i := 2) (some 32) (Go.Op.binOp Go.BinOp.eql 9 (Go.Operand.tmp 31) (Go.Operand.const (Go.Value.string { data := #[10, 0, 0, 1, 10, 0, 0, 2, 0, 80, 1, 2] })) 9) 4 #[true, true, true, false, false, false, false, false, false, false, false, false, false, false, false, false, false, false, false, false, false, false, false, false, false, false, false, false, false, false, false, false, false, false, false, false, false, false, false, false, false, false, false, false, false, false, false, false, false, false, false, false] (v := ?_) hHeld rfl (by kernel_rfl) (by kernel_rfl) (by kernel_rfl) (by kernel_rfl) W6_s W6_f2 W6_c2 (by kernel_rfl) (fun _ _ _ h => h) ?hya2_3 ?_
  case hya2_3 => intro w hSw; clear hSw; go_simp; try with_reducible rfl
  try simp only [Act.put, List.setIfInBounds_toArray, List.set_cons_zero, List.set_cons_succ]
  refine take_bare (i := 3) (some 33) (Go.Op.move (Go.Operand.tmp 32)) 4 #[true, true, true, true, false, false, false, false, false, false, false, false, false, false, false, false, false, false, false, false, false, false, false, false, false, false, false, false, false, false, false, false, false, false, false, false, false, false, false, false, false, false, false, false, false, false, false, false, false, false, false, false] (v := ?_) hHeld rfl (by kernel_rfl) (by kernel_rfl) (by kernel_rfl) (by kernel_rfl) W6_s W6_f3 W6_c3 (by kernel_rfl) (fun _ _ _ h => h) ?hya3_4 ?_
  case hya3_4 => intro w hSw; clear hSw; go_simp; try with_reducible rfl
  try simp only [Act.put, List.setIfInBounds_toArray, List.set_cons_zero, List.set_cons_succ]
  refine take_bare (i := 4) (some 34) (Go.Op.load 25 (Go.Operand.tmp 2)) 25 #[true, true, true, true, true, false, false, false, false, false, false, false, false, false, false, false, false, false, false, false, false, false, false, false, false, false, false, false, false, false, false, false, false, false, false, false, false, false, false, false, false, false, false, false, false, false, false, false, false, false, false, false] (v := (tv oneT)) hHeld rfl (by kernel_rfl) (by kernel_rfl) (by kernel_rfl) (by kernel_rfl) W6_s W6_f4 W6_c4 (by kernel_rfl) (fun _ _ _ h => h) (fun W hS => run_load_bt (s := 2) (by kernel_rfl) (by kernel_rfl) hS.1.bt) ?_
  try simp only [Act.put, List.setIfInBounds_toArray, List.set_cons_zero, List.set_cons_succ]
  refine step_bare (i := 5) (some 35) (Go.Op.call { callee := Go.Callee.value (Go.Operand.func 24), args := #[], argTypes := #[] }) 25 #[true, true, true, true, true, true, false, false, false, false, false, false, false, false, false, false, false, false, false, false, false, false, false, false, false, false, false, false, false, false, false, false, false, false, false, false, false, false, false, false, false, false, false, false, false, false, false, false, false, false, false, false] W6_r5 rfl (by kernel_rfl) (by kernel_rfl) (by kernel_rfl) (by kernel_rfl) (by kernel_rfl) (fun K hK => ?_)
  go_simp
  (with_reducible refine (one_any _).mono ?_)
  rintro e w25 ⟨rfl, hB25⟩
  go_simp
  refine hK.out _ _ ?_ (fun hHeld => ?_)
  · exact hHeld.next hB25
  clear hK K
  try simp only [Act.put, List.setIfInBounds_toArray, List.set_cons_zero, List.set_cons_succ]
  refine take_bare (i := 6) (some 36) (Go.Op.binOp Go.BinOp.eql 25 (Go.Operand.tmp 34) (Go.Operand.tmp 35) 25) 4 #[true, true, true, true, true, true, true, false, false, false, false, false, false, false, false, false, false, false, false, false, false, false, false, false, false, false, false, false, false, false, false, false, false, false, false, false, false, false, false, false, false, false, false, false, false, false, false, false, false, false, false, false] (v := (.bool true)) hHeld rfl (by kernel_rfl) (by kernel_rfl) (by kernel_rfl) (by kernel_rfl) W6_s W6_f6 W6_c6 (by kernel_rfl) (fun _ _ _ h => h) (fun W hS => run_eq25 (s := 34) (t := 35) oneT oneT true (by kernel_rfl) (by kernel_rfl) (by kernel_rfl) (by decide) W) ?_
  try simp only [Act.put, List.setIfInBounds_toArray, List.set_cons_zero, List.set_cons_succ]
  refine take_bare (i := 7) (some 37) (Go.Op.pick (Go.Operand.tmp 33) (Go.Operand.tmp 36) (Go.Operand.const (Go.Value.bool false))) 4 #[true, true, true, true, true, true, true, true, false, false, false, false, false, false, false, false, false, false, false, false, false, false, false, false, false, false, false, false, false, false, false, false, false, false, false, false, false, false, false, false, false, false, false, false, false, false, false, false, false, false, false, false] (v := ?_) hHeld rfl (by kernel_rfl) (by kernel_rfl) (by kernel_rfl) (by kernel_rfl) W6_s W6_f7 W6_c7 (by kernel_rfl) (fun _ _ _ h => h) ?hya7_7 ?_
  case hya7_7 => intro w hSw; clear hSw; go_simp; try with_reducible rfl
  try simp only [Act.put, List.setIfInBounds_toArray, List.set_cons_zero, List.set_cons_succ]
  refine take_bare (i := 8) (some 38) (Go.Op.move (Go.Operand.tmp 37)) 4 #[true, true, true, true, true, true, true, true, true, false, false, false, false, false, false, false, false, false, false, false, false, false, false, false, false, false, false, false, false, false, false, false, false, false, false, false, false, false, false, false, false, false, false, false, false, false, false, false, false, false, false, false] (v := ?_) hHeld rfl (by kernel_rfl) (by kernel_rfl) (by kernel_rfl) (by kernel_rfl) W6_s W6_f8 W6_c8 (by kernel_rfl) (fun _ _ _ h => h) ?hya8_8 ?_
  case hya8_8 => intro w hSw; clear hSw; go_simp; try with_reducible rfl
  try simp only [Act.put, List.setIfInBounds_toArray, List.set_cons_zero, List.set_cons_succ]
  refine take_bare (i := 9) (some 39) (Go.Op.move (Go.Operand.tmp 3)) 29 #[true, true, true, true, true, true, true, true, true, true, false, false, false, false, false, false, false, false, false, false, false, false, false, false, false, false, false, false, false, false, false, false, false, false, false, false, false, false, false, false, false, false, false, false, false, false, false, false, false, false, false, false] (v := ?_) hHeld rfl (by kernel_rfl) (by kernel_rfl) (by kernel_rfl) (by kernel_rfl) W6_s W6_f9 W6_c9 (by kernel_rfl) (fun _ _ _ h => h) ?hya9_9 ?_
  case hya9_9 => intro w hSw; clear hSw; go_simp; try with_reducible rfl
  try simp only [Act.put, List.setIfInBounds_toArray, List.set_cons_zero, List.set_cons_succ]
  refine take_bare (i := 10) (some 40) (Go.Op.binOp Go.BinOp.eql 29 (Go.Operand.tmp 39) (Go.Operand.const (Go.Value.int Go.IntKind.i64 0)) 29) 4 #[true, true, true, true, true, true, true, true, true, true, true, false, false, false, false, false, false, false, false, false, false, false, false, false, false, false, false, false, false, false, false, false, false, false, false, false, false, false, false, false, false, false, false, false, false, false, false, false, false, false, false, false] (v := ?_) hHeld rfl (by kernel_rfl) (by kernel_rfl) (by kernel_rfl) (by kernel_rfl) W6_s W6_f10 W6_c10 (by kernel_rfl) (fun _ _ _ h => h) ?hya10_10 ?_
  case hya10_10 => intro w hSw; clear hSw; go_simp; try with_reducible rfl
  try simp only [Act.put, List.setIfInBounds_toArray, List.set_cons_zero, List.set_cons_succ]
  refine take_bare (i := 11) (some 41) (Go.Op.pick (Go.Operand.tmp 38) (Go.Operand.tmp 40) (Go.Operand.const (Go.Value.bool false))) 4 #[true, true, true, true, true, true, true, true, true, true, true, true, false, false, false, false, false, false, false, false, false, false, false, false, false, false, false, false, false, false, false, false, false, false, false, false, false, false, false, false, false, false, false, false, false, false, false, false, false, false, false, false] (v := ?_) hHeld rfl (by kernel_rfl) (by kernel_rfl) (by kernel_rfl) (by kernel_rfl) W6_s W6_f11 W6_c11 (by kernel_rfl) (fun _ _ _ h => h) ?hya11_11 ?_
  case hya11_11 => intro w hSw; clear hSw; go_simp; try with_reducible rfl
  try simp only [Act.put, List.setIfInBounds_toArray, List.set_cons_zero, List.set_cons_succ]
  refine take_bare (i := 12) (some 42) (Go.Op.move (Go.Operand.tmp 41)) 4 #[true, true, true, true, true, true, true, true, true, true, true, true, true, false, false, false, false, false, false, false, false, false, false, false, false, false, false, false, false, false, false, false, false, false, false, false, false, false, false, false, false, false, false, false, false, false, false, false, false, false, false, false] (v := ?_) hHeld rfl (by kernel_rfl) (by kernel_rfl) (by kernel_rfl) (by kernel_rfl) W6_s W6_f12 W6_c12 (by kernel_rfl) (fun _ _ _ h => h) ?hya12_12 ?_
  case hya12_12 => intro w hSw; clear hSw; go_simp; try with_reducible rfl
  try simp only [Act.put, List.setIfInBounds_toArray, List.set_cons_zero, List.set_cons_succ]
  refine take_bare (i := 13) (some 43) (Go.Op.move (Go.Operand.tmp 5)) 29 #[true, true, true, true, true, true, true, true, true, true, true, true, true, true, false, false, false, false, false, false, false, false, false, false, false, false, false, false, false, false, false, false, false, false, false, false, false, false, false, false, false, false, false, false, false, false, false, false, false, false, false, false] (v := ?_) hHeld rfl (by kernel_rfl) (by kernel_rfl) (by kernel_rfl) (by kernel_rfl) W6_s W6_f13 W6_c13 (by kernel_rfl) (fun _ _ _ h => h) ?hya13_13 ?_
  case hya13_13 => intro w hSw; clear hSw; go_simp; try with_reducible rfl
  try simp only [Act.put, List.setIfInBounds_toArray, List.set_cons_zero, List.set_cons_succ]
  refine take_bare (i := 14) (some 44) (Go.Op.binOp Go.BinOp.eql 29 (Go.Operand.tmp 43) (Go.Operand.const (Go.Value.int Go.IntKind.i64 61)) 29) 4 #[true, true, true, true, true, true, true, true, true, true, true, true, true, true, true, false, false, false, false, false, false, false, false, false, false, false, false, false, false, false, false, false, false, false, false, false, false, false, false, false, false, false, false, false, false, false, false, false, false, false, false, false] (v := ?_) hHeld rfl (by kernel_rfl) (by kernel_rfl) (by kernel_rfl) (by kernel_rfl) W6_s W6_f14 W6_c14 (by kernel_rfl) (fun _ _ _ h => h) ?hya14_14 ?_
  case hya14_14 => intro w hSw; clear hSw; go_simp; try with_reducible rfl
  try simp only [Act.put, List.setIfInBounds_toArray, List.set_cons_zero, List.set_cons_succ]
  refine take_bare (i := 15) (some 45) (Go.Op.pick (Go.Operand.tmp 42) (Go.Operand.tmp 44) (Go.Operand.const (Go.Value.bool false))) 4 #[true, true, true, true, true, true, true, true, true, true, true, true, true, true, true, true, false, false, false, false, false, false, false, false, false, false, false, false, false, false, false, false, false, false, false, false, false, false, false, false, false, false, false, false, false, false, false, false, false, false, false, false] (v := ?_) hHeld rfl (by kernel_rfl) (by kernel_rfl) (by kernel_rfl) (by kernel_rfl) W6_s W6_f15 W6_c15 (by kernel_rfl) (fun _ _ _ h => h) ?hya15_15 ?_
  case hya15_15 => intro w hSw; clear hSw; go_simp; try with_reducible rfl
  try simp only [Act.put, List.setIfInBounds_toArray, List.set_cons_zero, List.set_cons_succ]
  refine take_bare (i := 16) (some 46) (Go.Op.move (Go.Operand.tmp 45)) 4 #[true, true, true, true, true, true, true, true, true, true, true, true, true, true, true, true, true, false, false, false, false, false, false, false, false, false, false, false, false, false, false, false, false, false, false, false, false, false, false, false, false, false, false, false, false, false, false, false, false, false, false, false] (v := ?_) hHeld rfl (by kernel_rfl) (by kernel_rfl) (by kernel_rfl) (by kernel_rfl) W6_s W6_f16 W6_c16 (by kernel_rfl) (fun _ _ _ h => h) ?hya16_16 ?_
  case hya16_16 => intro w hSw; clear hSw; go_simp; try with_reducible rfl
  try simp only [Act.put, List.setIfInBounds_toArray, List.set_cons_zero, List.set_cons_succ]
  refine take_bare (i := 17) (some 47) (Go.Op.move (Go.Operand.tmp 7)) 29 #[true, true, true, true, true, true, true, true, true, true, true, true, true, true, true, true, true, true, false, false, false, false, false, false, false, false, false, false, false, false, false, false, false, false, false, false, false, false, false, false, false, false, false, false, false, false, false, false, false, false, false, false] (v := ?_) hHeld rfl (by kernel_rfl) (by kernel_rfl) (by kernel_rfl) (by kernel_rfl) W6_s W6_f17 W6_c17 (by kernel_rfl) (fun _ _ _ h => h) ?hya17_17 ?_
  case hya17_17 => intro w hSw; clear hSw; go_simp; try with_reducible rfl
  try simp only [Act.put, List.setIfInBounds_toArray, List.set_cons_zero, List.set_cons_succ]
  refine take_bare (i := 18) (some 48) (Go.Op.binOp Go.BinOp.eql 29 (Go.Operand.tmp 47) (Go.Operand.const (Go.Value.int Go.IntKind.i64 60)) 29) 4 #[true, true, true, true, true, true, true, true, true, true, true, true, true, true, true, true, true, true, true, false, false, false, false, false, false, false, false, false, false, false, false, false, false, false, false, false, false, false, false, false, false, false, false, false, false, false, false, false, false, false, false, false] (v := ?_) hHeld rfl (by kernel_rfl) (by kernel_rfl) (by kernel_rfl) (by kernel_rfl) W6_s W6_f18 W6_c18 (by kernel_rfl) (fun _ _ _ h => h) ?hya18_18 ?_
  case hya18_18 => intro w hSw; clear hSw; go_simp; try with_reducible rfl
  try simp only [Act.put, List.setIfInBounds_toArray, List.set_cons_zero, List.set_cons_succ]
  refine take_bare (i := 19) (some 49) (Go.Op.pick (Go.Operand.tmp 46) (Go.Operand.tmp 48) (Go.Operand.const (Go.Value.bool false))) 4 #[true, true, true, true, true, true, true, true, true, true, true, true, true, true, true, true, true, true, true, true, false, false, false, false, false, false, false, false, false, false, false, false, false, false, false, false, false, false, false, false, false, false, false, false, false, false, false, false, false, false, false, false] (v := ?_) hHeld rfl (by kernel_rfl) (by kernel_rfl) (by kernel_rfl) (by kernel_rfl) W6_s W6_f19 W6_c19 (by kernel_rfl) (fun _ _ _ h => h) ?hya19_19 ?_
  case hya19_19 => intro w hSw; clear hSw; go_simp; try with_reducible rfl
  try simp only [Act.put, List.setIfInBounds_toArray, List.set_cons_zero, List.set_cons_succ]
  refine take_bare (i := 20) (some 50) (Go.Op.move (Go.Operand.tmp 49)) 4 #[true, true, true, true, true, true, true, true, true, true, true, true, true, true, true, true, true, true, true, true, true, false, false, false, false, false, false, false, false, false, false, false, false, false, false, false, false, false, false, false, false, false, false, false, false, false, false, false, false, false, false, false] (v := ?_) hHeld rfl (by kernel_rfl) (by kernel_rfl) (by kernel_rfl) (by kernel_rfl) W6_s W6_f20 W6_c20 (by kernel_rfl) (fun _ _ _ h => h) ?hya20_20 ?_
  case hya20_20 => intro w hSw; clear hSw; go_simp; try with_reducible rfl
  try simp only [Act.put, List.setIfInBounds_toArray, List.set_cons_zero, List.set_cons_succ]
  refine step_bare (i := 21) (some 51) (Go.Op.call { callee := Go.Callee.value (Go.Operand.func 24), args := #[], argTypes := #[] }) 25 #[true, true, true, true, true, true, true, true, true, true, true, true, true, true, true, true, true, true, true, true, true, true, false, false, false, false, false, false, false, false, false, false, false, false, false, false, false, false, false, false, false, false, false, false, false, false, false, false, false, false, false, false] W6_r21 rfl (by kernel_rfl) (by kernel_rfl) (by kernel_rfl) (by kernel_rfl) (by kernel_rfl) (fun K hK => ?_)
  go_simp
  (with_reducible refine (one_any _).mono ?_)
  rintro e w41 ⟨rfl, hB41⟩
  go_simp
  refine hK.out _ _ ?_ (fun hHeld => ?_)
  · exact hHeld.next hB41
  clear hK K
  try simp only [Act.put, List.setIfInBounds_toArray, List.set_cons_zero, List.set_cons_succ]
  refine step_bare (i := 22) (some 52) (Go.Op.call { callee := Go.Callee.value (Go.Operand.func 19), args := #[Go.Operand.tmp 51], argTypes := #[25] }) 9 #[true, true, true, true, true, true, true, true, true, true, true, true, true, true, true, true, true, true, true, true, true, true, true, false, false, false, false, false, false, false, false, false, false, false, false, false, false, false, false, false, false, false, false, false, false, false, false, false, false, false, false, false] W6_r22 rfl (by kernel_rfl) (by kernel_rfl) (by kernel_rfl) (by kernel_rfl) (by kernel_rfl) (fun K hK => ?_)
  go_simp
  (with_reducible refine (text_any oneT _ oneT_in (hHeld.1.tab ht)).mono ?_)
  rintro e w42 ⟨rfl, hB42⟩
  go_simp
  refine hK.out _ _ ?_ (fun hHeld => ?_)
  · exact hHeld.next hB42
  clear hK K
  try simp only [Act.put, List.setIfInBounds_toArray, List.set_cons_zero, List.set_cons_succ]
  refine take_bare (i := 23) (some 53) (Go.Op.binOp Go.BinOp.eql 9 (Go.Operand.tmp 52) (Go.Operand.const (Go.Value.string { data := #[49, 48, 46, 48, 46, 48, 46, 49, 58, 56, 48, 62, 49, 48, 46, 48, 46, 48, 46, 50, 58, 50, 53, 56] })) 9) 4 #[true, true, true, true, true, true, true, true, true, true, true, true, true, true, true, true, true, true, true, true, true, true, true, true, false, false, false, false, false, false, false, false, false, false, false, false, false, false, false, false, false, false, false, false, false, false, false, false, false, false, false, false] (v := (.bool true)) hHeld rfl (by kernel_rfl) (by kernel_rfl) (by kernel_rfl) (by kernel_rfl) W6_s W6_f23 W6_c23 (by kernel_rfl) (fun _ _ _ h => h) (fun W hS => run_eq_text (by kernel_rfl) (by kernel_rfl) W) ?_
  try simp only [Act.put, List.setIfInBounds_toArray, List.set_cons_zero, List.set_cons_succ]
  refine take_bare (i := 24) (some 54) (Go.Op.pick (Go.Operand.tmp 50) (Go.Operand.tmp 53) (Go.Operand.const (Go.Value.bool false))) 4 #[true, true, true, true, true, true, true, true, true, true, true, true, true, true, true, true, true, true, true, true, true, true, true, true, true, false, false, false, false, false, false, false, false, false, false, false, false, false, false, false, false, false, false, false, false, false, false, false, false, false, false, false] (v := ?_) hHeld rfl (by kernel_rfl) (by kernel_rfl) (by kernel_rfl) (by kernel_rfl) W6_s W6_f24 W6_c24 (by kernel_rfl) (fun _ _ _ h => h) ?hya24_22 ?_
  case hya24_22 => intro w hSw; clear hSw; go_simp; try with_reducible rfl
  try simp only [Act.put, List.setIfInBounds_toArray, List.set_cons_zero, List.set_cons_succ]
  refine take_bare (i := 25) (some 55) (Go.Op.move (Go.Operand.tmp 54)) 4 #[true, true, true, true, true, true, true, true, true, true, true, true, true, true, true, true, true, true, true, true, true, true, true, true, true, true, false, false, false, false, false, false, false, false, false, false, false, false, false, false, false, false, false, false, false, false, false, false, false, false, false, false] (v := ?_) hHeld rfl (by kernel_rfl) (by kernel_rfl) (by kernel_rfl) (by kernel_rfl) W6_s W6_f25 W6_c25 (by kernel_rfl) (fun _ _ _ h => h) ?hya25_23 ?_
  case hya25_23 => intro w hSw; clear hSw; go_simp; try with_reducible rfl
  try simp only [Act.put, List.setIfInBounds_toArray, List.set_cons_zero, List.set_cons_succ]
  refine step_bare (i := 26) (some 56) (Go.Op.call { callee := Go.Callee.value (Go.Operand.func 24), args := #[], argTypes := #[] }) 25 #[true, true, true, true, true, true, true, true, true, true, true, true, true, true, true, true, true, true, true, true, true, true, true, true, true, true, true, false, false, false, false, false, false, false, false, false, false, false, false, false, false, false, false, false, false, false, false, false, false, false, false, false] W6_r26 rfl (by kernel_rfl) (by kernel_rfl) (by kernel_rfl) (by kernel_rfl) (by kernel_rfl) (fun K hK => ?_)
  go_simp
  (with_reducible refine (one_any _).mono ?_)
  rintro e w46 ⟨rfl, hB46⟩
  go_simp
  refine hK.out _ _ ?_ (fun hHeld => ?_)
  · exact hHeld.next hB46
  clear hK K
  try simp only [Act.put, List.setIfInBounds_toArray, List.set_cons_zero, List.set_cons_succ]
  refine step_bare (i := 27) (some 57) (Go.Op.call { callee := Go.Callee.value (Go.Operand.func 17), args := #[Go.Operand.tmp 56], argTypes := #[25] }) 25 #[true, true, true, true, true, true, true, true, true, true, true, true, true, true, true, true, true, true, true, true, true, true, true, true, true, true, true, true, false, false, false, false, false, false, false, false, false, false, false, false, false, false, false, false, false, false, false, false, false, false, false, false] W6_r27 rfl (by kernel_rfl) (by kernel_rfl) (by kernel_rfl) (by kernel_rfl) (by kernel_rfl) (fun K hK => ?_)
  go_simp
  (with_reducible refine (back_any oneT _).mono ?_)
  rintro e w47 ⟨rfl, hB47⟩
  go_simp
  refine hK.out _ _ ?_ (fun hHeld => ?_)
  · exact hHeld.next hB47
  clear hK K
  try simp only [Act.put, List.setIfInBounds_toArray, List.set_cons_zero, List.set_cons_succ]
  refine take_bare (i := 28) (some 58) (Go.Op.field 25 (Go.Operand.tmp 57) 2) 23 #[true, true, true, true, true, true, true, true, true, true, true, true, true, true, true, true, true, true, true, true, true, true, true, true, true, true, true, true, true, false, false, false, false, false, false, false, false, false, false, false, false, false, false, false, false, false, false, false, false, false, false, false] (v := (.int .u16 258)) hHeld rfl (by kernel_rfl) (by kernel_rfl) (by kernel_rfl) (by kernel_rfl) W6_s W6_f28 W6_c28 (by kernel_rfl) (fun _ _ _ h => h) (fun W hS => run_field_one (by kernel_rfl) (by kernel_rfl) W) ?_
  try simp only [Act.put, List.setIfInBounds_toArray, List.set_cons_zero, List.set_cons_succ]
  refine take_bare (i := 29) (some 59) (Go.Op.binOp Go.BinOp.eql 23 (Go.Operand.tmp 58) (Go.Operand.const (Go.Value.int Go.IntKind.u16 258)) 23) 4 #[true, true, true, true, true, true, true, true, true, true, true, true, true, true, true, true, true, true, true, true, true, true, true, true, true, true, true, true, true, true, false, false, false, false, false, false, false, false, false, false, false, false, false, false, false, false, false, false, false, false, false, false] (v := ?_) hHeld rfl (by kernel_rfl) (by kernel_rfl) (by kernel_rfl) (by kernel_rfl) W6_s W6_f29 W6_c29 (by kernel_rfl) (fun _ _ _ h => h) ?hya29_25 ?_
  case hya29_25 => intro w hSw; clear hSw; go_simp; try with_reducible rfl
  try simp only [Act.put, List.setIfInBounds_toArray, List.set_cons_zero, List.set_cons_succ]
  refine take_bare (i := 30) (some 60) (Go.Op.pick (Go.Operand.tmp 55) (Go.Operand.tmp 59) (Go.Operand.const (Go.Value.bool false))) 4 #[true, true, true, true, true, true, true, true, true, true, true, true, true, true, true, true, true, true, true, true, true, true, true, true, true, true, true, true, true, true, true, false, false, false, false, false, false, false, false, false, false, false, false, false, false, false, false, false, false, false, false, false] (v := ?_) hHeld rfl (by kernel_rfl) (by kernel_rfl) (by kernel_rfl) (by kernel_rfl) W6_s W6_f30 W6_c30 (by kernel_rfl) (fun _ _ _ h => h) ?hya30_26 ?_
  case hya30_26 => intro w hSw; clear hSw; go_simp; try with_reducible rfl
  try simp only [Act.put, List.setIfInBounds_toArray, List.set_cons_zero, List.set_cons_succ]
  refine take_bare (i := 31) (some 61) (Go.Op.move (Go.Operand.tmp 60)) 4 #[true, true, true, true, true, true, true, true, true, true, true, true, true, true, true, true, true, true, true, true, true, true, true, true, true, true, true, true, true, true, true, true, false, false, false, false, false, false, false, false, false, false, false, false, false, false, false, false, false, false, false, false] (v := ?_) hHeld rfl (by kernel_rfl) (by kernel_rfl) (by kernel_rfl) (by kernel_rfl) W6_s W6_f31 W6_c31 (by kernel_rfl) (fun _ _ _ h => h) ?hya31_27 ?_
  case hya31_27 => intro w hSw; clear hSw; go_simp; try with_reducible rfl
  try simp only [Act.put, List.setIfInBounds_toArray, List.set_cons_zero, List.set_cons_succ]
  refine step_bare (i := 32) (some 62) (Go.Op.call { callee := Go.Callee.value (Go.Operand.func 24), args := #[], argTypes := #[] }) 25 #[true, true, true, true, true, true, true, true, true, true, true, true, true, true, true, true, true, true, true, true, true, true, true, true, true, true, true, true, true, true, true, true, true, false, false, false, false, false, false, false, false, false, false, false, false, false, false, false, false, false, false, false] W6_r32 rfl (by kernel_rfl) (by kernel_rfl) (by kernel_rfl) (by kernel_rfl) (by kernel_rfl) (fun K hK => ?_)
  go_simp
  (with_reducible refine (one_any _).mono ?_)
  rintro e w52 ⟨rfl, hB52⟩
  go_simp
  refine hK.out _ _ ?_ (fun hHeld => ?_)
  · exact hHeld.next hB52
  clear hK K
  try simp only [Act.put, List.setIfInBounds_toArray, List.set_cons_zero, List.set_cons_succ]
  refine step_bare (i := 33) (some 63) (Go.Op.call { callee := Go.Callee.value (Go.Operand.func 24), args := #[], argTypes := #[] }) 25 #[true, true, true, true, true, true, true, true, true, true, true, true, true, true, true, true, true, true, true, true, true, true, true, true, true, true, true, true, true, true, true, true, true, true, false, false, false, false, false, false, false, false, false, false, false, false, false, false, false, false, false, false] W6_r33 rfl (by kernel_rfl) (by kernel_rfl) (by kernel_rfl) (by kernel_rfl) (by kernel_rfl) (fun K hK => ?_)
  go_simp
  (with_reducible refine (one_any _).mono ?_)
  rintro e w53 ⟨rfl, hB53⟩
  go_simp
  refine hK.out _ _ ?_ (fun hHeld => ?_)
  · exact hHeld.next hB53
  clear hK K
  try simp only [Act.put, List.setIfInBounds_toArray, List.set_cons_zero, List.set_cons_succ]
  refine step_bare (i := 34) (some 64) (Go.Op.call { callee := Go.Callee.value (Go.Operand.func 17), args := #[Go.Operand.tmp 63], argTypes := #[25] }) 25 #[true, true, true, true, true, true, true, true, true, true, true, true, true, true, true, true, true, true, true, true, true, true, true, true, true, true, true, true, true, true, true, true, true, true, true, false, false, false, false, false, false, false, false, false, false, false, false, false, false, false, false, false] W6_r34 rfl (by kernel_rfl) (by kernel_rfl) (by kernel_rfl) (by kernel_rfl) (by kernel_rfl) (fun K hK => ?_)
  go_simp
  (with_reducible refine (back_any oneT _).mono ?_)
  rintro e w54 ⟨rfl, hB54⟩
  go_simp
  refine hK.out _ _ ?_ (fun hHeld => ?_)
  · exact hHeld.next hB54
  clear hK K
  try simp only [Act.put, List.setIfInBounds_toArray, List.set_cons_zero, List.set_cons_succ]
  refine step_bare (i := 35) (some 65) (Go.Op.call { callee := Go.Callee.value (Go.Operand.func 15), args := #[Go.Operand.tmp 62, Go.Operand.tmp 64], argTypes := #[25, 25] }) 4 #[true, true, true, true, true, true, true, true, true, true, true, true, true, true, true, true, true, true, true, true, true, true, true, true, true, true, true, true, true, true, true, true, true, true, true, true, false, false, false, false, false, false, false, false, false, false, false, false, false, false, false, false] W6_r35 rfl (by kernel_rfl) (by kernel_rfl) (by kernel_rfl) (by kernel_rfl) (by kernel_rfl) (fun K hK => ?_)
  go_simp
  (with_reducible refine (less_val oneT (backT oneT) true (by decide) _).mono ?_)
  rintro e w55 ⟨rfl, hB55⟩
  go_simp
  refine hK.out _ _ ?_ (fun hHeld => ?_)
  · exact hHeld.next hB55
  clear hK K
  try simp only [Act.put, List.setIfInBounds_toArray, List.set_cons_zero, List.set_cons_succ]
  refine take_bare (i := 36) (some 66) (Go.Op.pick (Go.Operand.tmp 61) (Go.Operand.tmp 65) (Go.Operand.const (Go.Value.bool false))) 4 #[true, true, true, true, true, true, true, true, true, true, true, true, true, true, true, true, true, true, true, true, true, true, true, true, true, true, true, true, true, true, true, true, true, true, true, true, true, false, false, false, false, false, false, false, false, false, false, false, false, false, false, false] (v := ?_) hHeld rfl (by kernel_rfl) (by kernel_rfl) (by kernel_rfl) (by kernel_rfl) W6_s W6_f36 W6_c36 (by kernel_rfl) (fun _ _ _ h => h) ?hya36_28 ?_
  case hya36_28 => intro w hSw; clear hSw; go_simp; try with_reducible rfl
  try simp only [Act.put, List.setIfInBounds_toArray, List.set_cons_zero, List.set_cons_succ]
  refine take_bare (i := 37) (some 67) (Go.Op.move (Go.Operand.tmp 66)) 4 #[true, true, true, true, true, true, true, true, true, true, true, true, true, true, true, true, true, true, true, true, true, true, true, true, true, true, true, true, true, true, true, true, true, true, true, true, true, true, false, false, false, false, false, false, false, false, false, false, false, false, false, false] (v := ?_) hHeld rfl (by kernel_rfl) (by kernel_rfl) (by kernel_rfl) (by kernel_rfl) W6_s W6_f37 W6_c37 (by kernel_rfl) (fun _ _ _ h => h) ?hya37_29 ?_
  case hya37_29 => intro w hSw; clear hSw; go_simp; try with_reducible rfl
  try simp only [Act.put, List.setIfInBounds_toArray, List.set_cons_zero, List.set_cons_succ]
  refine step_bare (i := 38) (some 68) (Go.Op.call { callee := Go.Callee.value (Go.Operand.func 24), args := #[], argTypes := #[] }) 25 #[true, true, true, true, true, true, true, true, true, true, true, true, true, true, true, true, true, true, true, true, true, true, true, true, true, true, true, true, true, true, true, true, true, true, true, true, true, true, true, false, false, false, false, false, false, false, false, false, false, false, false, false] W6_r38 rfl (by kernel_rfl) (by kernel_rfl) (by kernel_rfl) (by kernel_rfl) (by kernel_rfl) (fun K hK => ?_)
  go_simp
  (with_reducible refine (one_any _).mono ?_)
  rintro e w58 ⟨rfl, hB58⟩
  go_simp
  refine hK.out _ _ ?_ (fun hHeld => ?_)
  · exact hHeld.next hB58
  clear hK K
  try simp only [Act.put, List.setIfInBounds_toArray, List.set_cons_zero, List.set_cons_succ]
  refine step_bare (i := 39) (some 69) (Go.Op.call { callee := Go.Callee.value (Go.Operand.func 24), args := #[], argTypes := #[] }) 25 #[true, true, true, true, true, true, true, true, true, true, true, true, true, true, true, true, true, true, true, true, true, true, true, true, true, true, true, true, true, true, true, true, true, true, true, true, true, true, true, true, false, false, false, false, false, false, false, false, false, false, false, false] W6_r39 rfl (by kernel_rfl) (by kernel_rfl) (by kernel_rfl) (by kernel_rfl) (by kernel_rfl) (fun K hK => ?_)
  go_simp
  (with_reducible refine (one_any _).mono ?_)
  rintro e w59 ⟨rfl, hB59⟩
  go_simp
  refine hK.out _ _ ?_ (fun hHeld => ?_)
  · exact hHeld.next hB59
  clear hK K
  try simp only [Act.put, List.setIfInBounds_toArray, List.set_cons_zero, List.set_cons_succ]
  refine step_bare (i := 40) (some 70) (Go.Op.call { callee := Go.Callee.value (Go.Operand.func 13), args := #[Go.Operand.tmp 68, Go.Operand.tmp 69], argTypes := #[25, 25] }) 3 #[true, true, true, true, true, true, true, true, true, true, true, true, true, true, true, true, true, true, true, true, true, true, true, true, true, true, true, true, true, true, true, true, true, true, true, true, true, true, true, true, true, false, false, false, false, false, false, false, false, false, false, false] W6_r40 rfl (by kernel_rfl) (by kernel_rfl) (by kernel_rfl) (by kernel_rfl) (by kernel_rfl) (fun K hK => ?_)
  go_simp
  (with_reducible refine (cmp_val oneT oneT 0 (by decide) _).mono ?_)
  rintro e w60 ⟨rfl, hB60⟩
  go_simp
  refine hK.out _ _ ?_ (fun hHeld => ?_)
  · exact hHeld.next hB60
  clear hK K
  try simp only [Act.put, List.setIfInBounds_toArray, List.set_cons_zero, List.set_cons_succ]
  refine take_bare (i := 41) (some 71) (Go.Op.binOp Go.BinOp.eql 3 (Go.Operand.tmp 70) (Go.Operand.const (Go.Value.int Go.IntKind.i64 0)) 3) 4 #[true, true, true, true, true, true, true, true, true, true, true, true, true, true, true, true, true, true, true, true, true, true, true, true, true, true, true, true, true, true, true, true, true, true, true, true, true, true, true, true, true, true, false, false, false, false, false, false, false, false, false, false] (v := ?_) hHeld rfl (by kernel_rfl) (by kernel_rfl) (by kernel_rfl) (by kernel_rfl) W6_s W6_f41 W6_c41 (by kernel_rfl) (fun _ _ _ h => h) ?hya41_30 ?_
  case hya41_30 => intro w hSw; clear hSw; go_simp; try with_reducible rfl
  try simp only [Act.put, List.setIfInBounds_toArray, List.set_cons_zero, List.set_cons_succ]
  refine take_bare (i := 42) (some 72) (Go.Op.pick (Go.Operand.tmp 67) (Go.Operand.tmp 71) (Go.Operand.const (Go.Value.bool false))) 4 #[true, true, true, true, true, true, true, true, true, true, true, true, true, true, true, true, true, true, true, true, true, true, true, true, true, true, true, true, true, true, true, true, true, true, true, true, true, true, true, true, true, true, true, false, false, false, false, false, false, false, false, false] (v := ?_) hHeld rfl (by kernel_rfl) (by kernel_rfl) (by kernel_rfl) (by kernel_rfl) W6_s W6_f42 W6_c42 (by kernel_rfl) (fun _ _ _ h => h) ?hya42_31 ?_
  case hya42_31 => intro w hSw; clear hSw; go_simp; try with_reducible rfl
  try simp only [Act.put, List.setIfInBounds_toArray, List.set_cons_zero, List.set_cons_succ]
  refine take_bare (i := 43) (some 73) (Go.Op.move (Go.Operand.tmp 72)) 4 #[true, true, true, true, true, true, true, true, true, true, true, true, true, true, true, true, true, true, true, true, true, true, true, true, true, true, true, true, true, true, true, true, true, true, true, true, true, true, true, true, true, true, true, true, false, false, false, false, false, false, false, false] (v := ?_) hHeld rfl (by kernel_rfl) (by kernel_rfl) (by kernel_rfl) (by kernel_rfl) W6_s W6_f43 W6_c43 (by kernel_rfl) (fun _ _ _ h => h) ?hya43_32 ?_
  case hya43_32 => intro w hSw; clear hSw; go_simp; try with_reducible rfl
  try simp only [Act.put, List.setIfInBounds_toArray, List.set_cons_zero, List.set_cons_succ]
  refine take_bare (i := 44) (some 74) (Go.Op.move (Go.Operand.tmp 8)) 27 #[true, true, true, true, true, true, true, true, true, true, true, true, true, true, true, true, true, true, true, true, true, true, true, true, true, true, true, true, true, true, true, true, true, true, true, true, true, true, true, true, true, true, true, true, true, false, false, false, false, false, false, false] (v := ?_) hHeld rfl (by kernel_rfl) (by kernel_rfl) (by kernel_rfl) (by kernel_rfl) W6_s W6_f44 W6_c44 (by kernel_rfl) (fun _ _ _ h => h) ?hya44_33 ?_
  case hya44_33 => intro w hSw; clear hSw; go_simp; try with_reducible rfl
  try simp only [Act.put, List.setIfInBounds_toArray, List.set_cons_zero, List.set_cons_succ]
  refine step_bare (i := 45) (some 75) (Go.Op.call { callee := Go.Callee.value (Go.Operand.func 24), args := #[], argTypes := #[] }) 25 #[true, true, true, true, true, true, true, true, true, true, true, true, true, true, true, true, true, true, true, true, true, true, true, true, true, true, true, true, true, true, true, true, true, true, true, true, true, true, true, true, true, true, true, true, true, true, false, false, false, false, false, false] W6_r45 rfl (by kernel_rfl) (by kernel_rfl) (by kernel_rfl) (by kernel_rfl) (by kernel_rfl) (fun K hK => ?_)
  go_simp
  (with_reducible refine (one_any _).mono ?_)
  rintro e w65 ⟨rfl, hB65⟩
  go_simp
  refine hK.out _ _ ?_ (fun hHeld => ?_)
  · exact hHeld.next hB65
  clear hK K
  try simp only [Act.put, List.setIfInBounds_toArray, List.set_cons_zero, List.set_cons_succ]
  refine step_bare (i := 46) (some 76) (Go.Op.call { callee := Go.Callee.value (Go.Operand.func 24), args := #[], argTypes := #[] }) 25 #[true, true, true, true, true, true, true, true, true, true, true, true, true, true, true, true, true, true, true, true, true, true, true, true, true, true, true, true, true, true, true, true, true, true, true, true, true, true, true, true, true, true, true, true, true, true, true, false, false, false, false, false] W6_r46 rfl (by kernel_rfl) (by kernel_rfl) (by kernel_rfl) (by kernel_rfl) (by kernel_rfl) (fun K hK => ?_)
  go_simp
  (with_reducible refine (one_any _).mono ?_)
  rintro e w66 ⟨rfl, hB66⟩
  go_simp
  refine hK.out _ _ ?_ (fun hHeld => ?_)
  · exact hHeld.next hB66
  clear hK K
  try simp only [Act.put, List.setIfInBounds_toArray, List.set_cons_zero, List.set_cons_succ]
  refine step_bare (i := 47) (some 77) (Go.Op.call { callee := Go.Callee.value (Go.Operand.func 17), args := #[Go.Operand.tmp 76], argTypes := #[25] }) 25 #[true, true, true, true, true, true, true, true, true, true, true, true, true, true, true, true, true, true, true, true, true, true, true, true, true, true, true, true, true, true, true, true, true, true, true, true, true, true, true, true, true, true, true, true, true, true, true, true, false, false, false, false] W6_r47 rfl (by kernel_rfl) (by kernel_rfl) (by kernel_rfl) (by kernel_rfl) (by kernel_rfl) (fun K hK => ?_)
  go_simp
  (with_reducible refine (back_any oneT _).mono ?_)
  rintro e w67 ⟨rfl, hB67⟩
  go_simp
  refine hK.out _ _ ?_ (fun hHeld => ?_)
  · exact hHeld.next hB67
  clear hK K
  try simp only [Act.put, List.setIfInBounds_toArray, List.set_cons_zero, List.set_cons_succ]
  refine step_bare (i := 48) (some 78) (Go.Op.buildSlice 27 2 #[(0, Go.Operand.tmp 75), (1, Go.Operand.tmp 77)]) 27 #[true, true, true, true, true, true, true, true, true, true, true, true, true, true, true, true, true, true, true, true, true, true, true, true, true, true, true, true, true, true, true, true, true, true, true, true, true, true, true, true, true, true, true, true, true, true, true, true, true, false, false, false] W6_r48 rfl (by kernel_rfl) (by kernel_rfl) (by kernel_rfl) (by kernel_rfl) (by kernel_rfl) (fun K hK => ?_)
  go_simp
  refine hK.out _ _ ?_ (fun hHeld => ?_)
  · exact hHeld.alloc _
  clear hK K
  try simp only [Act.put, List.setIfInBounds_toArray, List.set_cons_zero, List.set_cons_succ]
  refine step_bare (i := 49) (some 79) (Go.Op.call { callee := Go.Callee.value (Go.Operand.func 21), args := #[Go.Operand.tmp 74, Go.Operand.tmp 78], argTypes := #[27, 27] }) 4 #[true, true, true, true, true, true, true, true, true, true, true, true, true, true, true, true, true, true, true, true, true, true, true, true, true, true, true, true, true, true, true, true, true, true, true, true, true, true, true, true, true, true, true, true, true, true, true, true, true, true, false, false] W6_r49 rfl (by kernel_rfl) (by kernel_rfl) (by kernel_rfl) (by kernel_rfl) (by kernel_rfl) (fun K hK => ?_)
  go_simp
  (with_reducible refine (all_val A' _ 2 2 c' 2 [oneT, backT oneT] [oneT, backT oneT] true _ ?_ ?_ (by decide)).mono ?_)
  · exact hHeld.2.more hHeld.3
  · exact (Ts.two _ oneT (backT oneT)).more (by simp)
  rintro e w69 ⟨rfl, hB69⟩
  go_simp
  refine hK.out _ _ ?_ (fun hHeld => ?_)
  · exact hHeld.next hB69
  clear hK K
  try simp only [Act.put, List.setIfInBounds_toArray, List.set_cons_zero, List.set_cons_succ]
  refine take_bare (i := 50) (some 80) (Go.Op.pick (Go.Operand.tmp 73) (Go.Operand.tmp 79) (Go.Operand.const (Go.Value.bool false))) 4 #[true, true, true, true, true, true, true, true, true, true, true, true, true, true, true, true, true, true, true, true, true, true, true, true, true, true, true, true, true, true, true, true, true, true, true, true, true, true, true, true, true, true, true, true, true, true, true, true, true, true, true, false] (v := ?_) hHeld rfl (by kernel_rfl) (by kernel_rfl) (by kernel_rfl) (by kernel_rfl) W6_s W6_f50 W6_c50 (by kernel_rfl) (fun _ _ _ h => h) ?hya50_34 ?_
  case hya50_34 => intro w hSw; clear hSw; go_simp; try with_reducible rfl
  try simp only [Act.put, List.setIfInBounds_toArray, List.set_cons_zero, List.set_cons_succ]
  refine take_bare (i := 51) (some 0) (Go.Op.assign (Go.Operand.tmp 80)) 4 #[true, true, true, true, true, true, true, true, true, true, true, true, true, true, true, true, true, true, true, true, true, true, true, true, true, true, true, true, true, true, true, true, true, true, true, true, true, true, true, true, true, true, true, true, true, true, true, true, true, true, true, true] (v := ?_) hHeld rfl (by kernel_rfl) (by kernel_rfl) (by kernel_rfl) (by kernel_rfl) W6_s W6_f51 W6_c51 (by kernel_rfl) (fun _ _ _ h => h) ?hya51_35 ?_
  case hya51_35 => intro w hSw; clear hSw; go_simp; try with_reducible rfl
  try simp only [Act.put, List.setIfInBounds_toArray, List.set_cons_zero, List.set_cons_succ]
  refine wpAnyH_done (by kernel_rfl) ?_ _
  try simp only [Act.put, List.setIfInBounds_toArray, List.set_cons_zero, List.set_cons_succ]
  go_wp2
  go_ret
  exact ⟨rfl, hHeld.1.below⟩
  --ENDR6
end Go.Proofs.YtdlpkphbgbffpaaDoor
