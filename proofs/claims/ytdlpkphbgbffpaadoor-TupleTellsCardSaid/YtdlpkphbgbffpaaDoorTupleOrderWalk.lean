/-
  The walk of TupleOrder.
-/
import Derived.Test.YtdlpkphbgbffpaaDoorOrd
namespace Go.Proofs.YtdlpkphbgbffpaaDoor
open Go Go.RowKit Go.Shelf
set_option linter.unusedSimpArgs false
set_option linter.unusedVariables false
attribute [local go_sem] Oper.semAt_some
/-- Three tuples that lie in blocks of the call's own. -/
structure Tri (w : World) (a b c : Tup) (W : World) : Prop where
  a : Bt W w.heap.size a
  b : Bt W (w.heap.size + 1) b
  c : Bt W (w.heap.size + 2) c
  below : Below w.heap.size w W
section
variable {w W W' : World} {a b c : Tup}
theorem Tri.next (h : Tri w a b c W) (hb : Below W.heap.size W W') : Tri w a b c W' := ⟨h.a.below hb h.a.lt, h.b.below hb h.b.lt, h.c.below hb h.c.lt, h.below.trans (hb.mono h.below.size)⟩
theorem Tri.alloc (h : Tri w a b c W) (o : Obj) : Tri w a b c (W.alloc o) := h.next ((Below.refl _ W).alloc (Nat.le_refl _) o)
theorem Tri.drew (h : Tri w a b c W) : Tri w a b c W.drew := h.next (Below.refl _ W).drew
theorem Tri.tab (h : Tri w a b c W) (ht : Tab w.heap.size w) : Tab W.heap.size W := Lib.tabBelow_of_tabIs (ht _ h.below)
theorem Tri.cs (h : Tri w a b c W) : (W.cell? ⟨w.heap.size, 0, none⟩ = some (.int .u32 a.src) ∧ W.cell? ⟨w.heap.size, 1, none⟩ = some (.int .u32 a.dst) ∧ W.cell? ⟨w.heap.size, 2, none⟩ = some (.int .u16 a.sp) ∧ W.cell? ⟨w.heap.size, 3, none⟩ = some (.int .u16 a.dp)) ∧
    (W.cell? ⟨w.heap.size + 1, 0, none⟩ = some (.int .u32 b.src) ∧ W.cell? ⟨w.heap.size + 1, 1, none⟩ = some (.int .u32 b.dst) ∧ W.cell? ⟨w.heap.size + 1, 2, none⟩ = some (.int .u16 b.sp) ∧ W.cell? ⟨w.heap.size + 1, 3, none⟩ = some (.int .u16 b.dp)) ∧
    (W.cell? ⟨w.heap.size + 2, 0, none⟩ = some (.int .u32 c.src) ∧ W.cell? ⟨w.heap.size + 2, 1, none⟩ = some (.int .u32 c.dst) ∧ W.cell? ⟨w.heap.size + 2, 2, none⟩ = some (.int .u16 c.sp) ∧ W.cell? ⟨w.heap.size + 2, 3, none⟩ = some (.int .u16 c.dp)) :=
  ⟨⟨h.a.c0, h.a.c1, h.a.c2, h.a.c3⟩, ⟨h.b.c0, h.b.c1, h.b.c2, h.b.c3⟩, ⟨h.c.c0, h.c.c1, h.c.c2, h.c.c3⟩⟩
theorem Tri.start (w : World) (a b c : Tup) : Tri w a b c (((w.alloc (.cells #[.int .u32 a.src, .int .u32 a.dst, .int .u16 a.sp, .int .u16 a.dp] 25)).alloc (.cells #[.int .u32 b.src, .int .u32 b.dst, .int .u16 b.sp, .int .u16 b.dp] 25)).alloc (.cells #[.int .u32 c.src, .int .u32 c.dst, .int .u16 c.sp, .int .u16 c.dp] 25)) := by
  refine ⟨((Bt.new w a).alloc _).alloc _, ?_, ?_, (((Below.refl _ w).alloc (Nat.le_refl _) _).alloc (by simp) _).alloc (by simp; omega) _⟩
  · have h := (Bt.new (w.alloc (.cells #[.int .u32 a.src, .int .u32 a.dst, .int .u16 a.sp, .int .u16 a.dp] 25)) b).alloc (.cells #[.int .u32 c.src, .int .u32 c.dst, .int .u16 c.sp, .int .u16 c.dp] 25)
    rwa [World.size_alloc] at h
  · have h := Bt.new ((w.alloc (.cells #[.int .u32 a.src, .int .u32 a.dst, .int .u16 a.sp, .int .u16 a.dp] 25)).alloc (.cells #[.int .u32 b.src, .int .u32 b.dst, .int .u16 b.sp, .int .u16 b.dp] 25)) c
    rwa [World.size_alloc, World.size_alloc] at h
end
theorem run_conv {a : Act} {s : Tmp} {W : World} {B n c : Nat} {A : Option Addr} {l : List Int} {o : Oper} (ho : o.op = .convert 26 9 (.tmp s)) (hs : a.tmps.getD s undef = .slice A n c) (h : Sl W B A n c (l.map vb)) (hn : 0 < n) : (execOp a.eval o).run Tryd.prog W = .ok (.value (.string (strOfNums l))) W := by
  have hc := run_str h hn
  have hs' : a.tmps[s]?.getD undef = .slice A n c := by simpa using hs
  unfold execOp
  simp [ho, Act.eval, hs', go_sem, hc]
structure Tri2 (w : World) (a b c : Tup) (g : Nat) (W : World) : Prop where
  tri : Tri w a b c W
  o : Bt W g (backT a)
theorem Tri2.next {w W W' : World} {a b c : Tup} {g : Nat} (h : Tri2 w a b c g W) (hb : Below W.heap.size W W') : Tri2 w a b c g W' := ⟨h.tri.next hb, h.o.below hb h.o.lt⟩
theorem Tri2.drew {w W : World} {a b c : Tup} {g : Nat} (h : Tri2 w a b c g W) : Tri2 w a b c g W.drew := h.next (Below.refl _ W).drew
theorem run_load_one {a : Act} {s : Tmp} {g i : Nat} {T : TypeId} {v : Value} {W : World} {o : Oper} (ho : o.op = .load T (.tmp s)) (hs : a.tmps.getD s undef = .pointer (some ⟨g, i, none⟩)) (hT : (isAgg T).run Tryd.prog W = .ok false W) (hc : W.cell? ⟨g, i, none⟩ = some v) : (execOp a.eval o).run Tryd.prog W = .ok (.value v) W := by
  have hs' : a.tmps[s]?.getD undef = .pointer (some ⟨g, i, none⟩) := by simpa using hs
  unfold execOp
  simp [ho, Act.eval, hs', go_sem, hT, hc]
theorem str_lessT {a b : Tup} (ha : a.In) (hb : b.In) : Op.bytesLess (strOfNums (bytesT a)).toList (strOfNums (bytesT b)).toList = decide (ltT a b) := by
  rw [str_less (isB8_bytesT a) (isB8_bytesT b), blt_bytesT ha hb]
theorem str_eqT {a b : Tup} (ha : a.In) (hb : b.In) : ((strOfNums (bytesT a)).toList == (strOfNums (bytesT b)).toList) = decide (a = b) := by
  rw [str_eq (isB8_bytesT a) (isB8_bytesT b)]
  exact decide_eq_decide.2 (bytesT_inj ha hb)
/-- The operations of TupleOrder's first and last statements. -/
noncomputable def O1 : Array Oper := opsOf Tryd.f5 1
noncomputable def O8 : Array Oper := opsOf Tryd.f5 8
--FACTS1
theorem O1_s : Region.noSelect O1 = true := by kernel_rfl
theorem O1_f0 : Region.free .any O1 #[false, false, false, false, false, false, false, false] 0 = true := by kernel_rfl
theorem O1_c0 : (Region.ready .any O1 #[false, false, false, false, false, false, false, false]).contains 0 = true := by kernel_rfl
theorem O1_f3 : Region.free .any O1 #[true, false, false, false, false, false, false, false] 3 = true := by kernel_rfl
theorem O1_c3 : (Region.ready .any O1 #[true, false, false, false, false, false, false, false]).contains 3 = true := by kernel_rfl
theorem O1_r1 : Region.ready .any O1 #[true, false, false, true, false, false, false, false] = [1] := by kernel_rfl
theorem O1_f2 : Region.free .any O1 #[true, true, false, true, false, false, false, false] 2 = true := by kernel_rfl
theorem O1_c2 : (Region.ready .any O1 #[true, true, false, true, false, false, false, false]).contains 2 = true := by kernel_rfl
theorem O1_r4 : Region.ready .any O1 #[true, true, true, true, false, false, false, false] = [4] := by kernel_rfl
theorem O1_f6 : Region.free .any O1 #[true, true, true, true, true, false, false, false] 6 = true := by kernel_rfl
theorem O1_c6 : (Region.ready .any O1 #[true, true, true, true, true, false, false, false]).contains 6 = true := by kernel_rfl
theorem O1_r5 : Region.ready .any O1 #[true, true, true, true, true, false, true, false] = [5] := by kernel_rfl
theorem O1_f7 : Region.free .any O1 #[true, true, true, true, true, true, true, false] 7 = true := by kernel_rfl
theorem O1_c7 : (Region.ready .any O1 #[true, true, true, true, true, true, true, false]).contains 7 = true := by kernel_rfl
--ENDFACTS1
--FACTS8
theorem O8_s : Region.noSelect O8 = true := by kernel_rfl
theorem O8_f0 : Region.free .any O8 #[false, false, false, false, false, false, false, false, false, false, false, false, false, false, false, false, false, false, false, false, false, false] 0 = true := by kernel_rfl
theorem O8_c0 : (Region.ready .any O8 #[false, false, false, false, false, false, false, false, false, false, false, false, false, false, false, false, false, false, false, false, false, false]).contains 0 = true := by kernel_rfl
theorem O8_f2 : Region.free .any O8 #[true, false, false, false, false, false, false, false, false, false, false, false, false, false, false, false, false, false, false, false, false, false] 2 = true := by kernel_rfl
theorem O8_c2 : (Region.ready .any O8 #[true, false, false, false, false, false, false, false, false, false, false, false, false, false, false, false, false, false, false, false, false, false]).contains 2 = true := by kernel_rfl
theorem O8_r1 : Region.ready .any O8 #[true, false, true, false, false, false, false, false, false, false, false, false, false, false, false, false, false, false, false, false, false, false] = [1] := by kernel_rfl
theorem O8_f3 : Region.free .any O8 #[true, true, true, false, false, false, false, false, false, false, false, false, false, false, false, false, false, false, false, false, false, false] 3 = true := by kernel_rfl
theorem O8_c3 : (Region.ready .any O8 #[true, true, true, false, false, false, false, false, false, false, false, false, false, false, false, false, false, false, false, false, false, false]).contains 3 = true := by kernel_rfl
theorem O8_f4 : Region.free .any O8 #[true, true, true, true, false, false, false, false, false, false, false, false, false, false, false, false, false, false, false, false, false, false] 4 = true := by kernel_rfl
theorem O8_c4 : (Region.ready .any O8 #[true, true, true, true, false, false, false, false, false, false, false, false, false, false, false, false, false, false, false, false, false, false]).contains 4 = true := by kernel_rfl
theorem O8_f5 : Region.free .any O8 #[true, true, true, true, true, false, false, false, false, false, false, false, false, false, false, false, false, false, false, false, false, false] 5 = true := by kernel_rfl
theorem O8_c5 : (Region.ready .any O8 #[true, true, true, true, true, false, false, false, false, false, false, false, false, false, false, false, false, false, false, false, false, false]).contains 5 = true := by kernel_rfl
theorem O8_f6 : Region.free .any O8 #[true, true, true, true, true, true, false, false, false, false, false, false, false, false, false, false, false, false, false, false, false, false] 6 = true := by kernel_rfl
theorem O8_c6 : (Region.ready .any O8 #[true, true, true, true, true, true, false, false, false, false, false, false, false, false, false, false, false, false, false, false, false, false]).contains 6 = true := by kernel_rfl
theorem O8_f7 : Region.free .any O8 #[true, true, true, true, true, true, true, false, false, false, false, false, false, false, false, false, false, false, false, false, false, false] 7 = true := by kernel_rfl
theorem O8_c7 : (Region.ready .any O8 #[true, true, true, true, true, true, true, false, false, false, false, false, false, false, false, false, false, false, false, false, false, false]).contains 7 = true := by kernel_rfl
theorem O8_f8 : Region.free .any O8 #[true, true, true, true, true, true, true, true, false, false, false, false, false, false, false, false, false, false, false, false, false, false] 8 = true := by kernel_rfl
theorem O8_c8 : (Region.ready .any O8 #[true, true, true, true, true, true, true, true, false, false, false, false, false, false, false, false, false, false, false, false, false, false]).contains 8 = true := by kernel_rfl
theorem O8_f9 : Region.free .any O8 #[true, true, true, true, true, true, true, true, true, false, false, false, false, false, false, false, false, false, false, false, false, false] 9 = true := by kernel_rfl
theorem O8_c9 : (Region.ready .any O8 #[true, true, true, true, true, true, true, true, true, false, false, false, false, false, false, false, false, false, false, false, false, false]).contains 9 = true := by kernel_rfl
theorem O8_f10 : Region.free .any O8 #[true, true, true, true, true, true, true, true, true, true, false, false, false, false, false, false, false, false, false, false, false, false] 10 = true := by kernel_rfl
theorem O8_c10 : (Region.ready .any O8 #[true, true, true, true, true, true, true, true, true, true, false, false, false, false, false, false, false, false, false, false, false, false]).contains 10 = true := by kernel_rfl
theorem O8_f11 : Region.free .any O8 #[true, true, true, true, true, true, true, true, true, true, true, false, false, false, false, false, false, false, false, false, false, false] 11 = true := by kernel_rfl
theorem O8_c11 : (Region.ready .any O8 #[true, true, true, true, true, true, true, true, true, true, true, false, false, false, false, false, false, false, false, false, false, false]).contains 11 = true := by kernel_rfl
theorem O8_f12 : Region.free .any O8 #[true, true, true, true, true, true, true, true, true, true, true, true, false, false, false, false, false, false, false, false, false, false] 12 = true := by kernel_rfl
theorem O8_c12 : (Region.ready .any O8 #[true, true, true, true, true, true, true, true, true, true, true, true, false, false, false, false, false, false, false, false, false, false]).contains 12 = true := by kernel_rfl
theorem O8_f13 : Region.free .any O8 #[true, true, true, true, true, true, true, true, true, true, true, true, true, false, false, false, false, false, false, false, false, false] 13 = true := by kernel_rfl
theorem O8_c13 : (Region.ready .any O8 #[true, true, true, true, true, true, true, true, true, true, true, true, true, false, false, false, false, false, false, false, false, false]).contains 13 = true := by kernel_rfl
theorem O8_f14 : Region.free .any O8 #[true, true, true, true, true, true, true, true, true, true, true, true, true, true, false, false, false, false, false, false, false, false] 14 = true := by kernel_rfl
theorem O8_c14 : (Region.ready .any O8 #[true, true, true, true, true, true, true, true, true, true, true, true, true, true, false, false, false, false, false, false, false, false]).contains 14 = true := by kernel_rfl
theorem O8_f15 : Region.free .any O8 #[true, true, true, true, true, true, true, true, true, true, true, true, true, true, true, false, false, false, false, false, false, false] 15 = true := by kernel_rfl
theorem O8_c15 : (Region.ready .any O8 #[true, true, true, true, true, true, true, true, true, true, true, true, true, true, true, false, false, false, false, false, false, false]).contains 15 = true := by kernel_rfl
theorem O8_f16 : Region.free .any O8 #[true, true, true, true, true, true, true, true, true, true, true, true, true, true, true, true, false, false, false, false, false, false] 16 = true := by kernel_rfl
theorem O8_c16 : (Region.ready .any O8 #[true, true, true, true, true, true, true, true, true, true, true, true, true, true, true, true, false, false, false, false, false, false]).contains 16 = true := by kernel_rfl
theorem O8_f17 : Region.free .any O8 #[true, true, true, true, true, true, true, true, true, true, true, true, true, true, true, true, true, false, false, false, false, false] 17 = true := by kernel_rfl
theorem O8_c17 : (Region.ready .any O8 #[true, true, true, true, true, true, true, true, true, true, true, true, true, true, true, true, true, false, false, false, false, false]).contains 17 = true := by kernel_rfl
theorem O8_f18 : Region.free .any O8 #[true, true, true, true, true, true, true, true, true, true, true, true, true, true, true, true, true, true, false, false, false, false] 18 = true := by kernel_rfl
theorem O8_c18 : (Region.ready .any O8 #[true, true, true, true, true, true, true, true, true, true, true, true, true, true, true, true, true, true, false, false, false, false]).contains 18 = true := by kernel_rfl
theorem O8_r19 : Region.ready .any O8 #[true, true, true, true, true, true, true, true, true, true, true, true, true, true, true, true, true, true, true, false, false, false] = [19] := by kernel_rfl
theorem O8_f20 : Region.free .any O8 #[true, true, true, true, true, true, true, true, true, true, true, true, true, true, true, true, true, true, true, true, false, false] 20 = true := by kernel_rfl
theorem O8_c20 : (Region.ready .any O8 #[true, true, true, true, true, true, true, true, true, true, true, true, true, true, true, true, true, true, true, true, false, false]).contains 20 = true := by kernel_rfl
theorem O8_f21 : Region.free .any O8 #[true, true, true, true, true, true, true, true, true, true, true, true, true, true, true, true, true, true, true, true, true, false] 21 = true := by kernel_rfl
theorem O8_c21 : (Region.ready .any O8 #[true, true, true, true, true, true, true, true, true, true, true, true, true, true, true, true, true, true, true, true, true, false]).contains 21 = true := by kernel_rfl
--ENDFACTS8
set_option maxRecDepth 100000 in
set_option maxHeartbeats 8000000 in
theorem tupleOrder_any (a b c : Tup) (w : World) (ht : Tab w.heap.size w) (ha : a.In) (hb : b.In) (hc : c.In) : Calls Tryd.prog 5 #[tv a, tv b, tv c] w fun e W' => e = .returned (.bool true) ∧ Below w.heap.size w W' := by
  go_enter Tryd.func5, Tryd.ntmps5
  go_wp2
  obtain ⟨W0, hW0⟩ : ∃ W0, (((w.alloc (.cells #[.int .u32 a.src, .int .u32 a.dst, .int .u16 a.sp, .int .u16 a.dp] 25)).alloc (.cells #[.int .u32 b.src, .int .u32 b.dst, .int .u16 b.sp, .int .u16 b.dp] 25)).alloc (.cells #[.int .u32 c.src, .int .u32 c.dst, .int .u16 c.sp, .int .u16 c.dp] 25)) = W0 := ⟨_, rfl⟩
  have hT : Tri w a b c W0 := hW0 ▸ Tri.start w a b c
  rw [hW0]
  clear hW0
  --R1
  refine region_as (R := O1) (by kernel_rfl) ?_
  refine wp_region_held_drew (S := Tri w a b c) (by kernel_rfl) ?_ (fun hHeld => ?_)
  · exact hT.drew
  refine listed_as (L := #[false, false, false, false, false, false, false, false]) (by kernel_rfl) ?_
  refine take_bare (i := 0) (some 11) (Go.Op.load 25 (Go.Operand.tmp 3)) 25 #[true, false, false, false, false, false, false, false] (v := (tv a)) hHeld rfl (by kernel_rfl) (by kernel_rfl) (by kernel_rfl) (by kernel_rfl) O1_s O1_f0 O1_c0 (by kernel_rfl) (fun _ _ _ h => h) (fun W hS => run_load_bt (s := 3) (by kernel_rfl) (by kernel_rfl) hS.a) ?_
  try simp only [Act.put, List.setIfInBounds_toArray, List.set_cons_zero, List.set_cons_succ]
  refine take_bare (i := 3) (some 14) (Go.Op.load 25 (Go.Operand.tmp 4)) 25 #[true, false, false, true, false, false, false, false] (v := (tv b)) hHeld rfl (by kernel_rfl) (by kernel_rfl) (by kernel_rfl) (by kernel_rfl) O1_s O1_f3 O1_c3 (by kernel_rfl) (fun _ _ _ h => h) (fun W hS => run_load_bt (s := 4) (by kernel_rfl) (by kernel_rfl) hS.b) ?_
  try simp only [Act.put, List.setIfInBounds_toArray, List.set_cons_zero, List.set_cons_succ]
  refine step_bare (i := 1) (some 12) (Go.Op.call { callee := Go.Callee.value (Go.Operand.func 11), args := #[Go.Operand.tmp 11], argTypes := #[25] }) 26 #[true, true, false, true, false, false, false, false] O1_r1 rfl (by kernel_rfl) (by kernel_rfl) (by kernel_rfl) (by kernel_rfl) (by kernel_rfl) (fun K hK => ?_)
  go_simp
  (with_reducible refine (bytes_any a _ ha).mono ?_)
  rintro e w1 ⟨⟨v1, rfl, hown1⟩, hB1⟩
  obtain ⟨A1, c1, rfl, hs1⟩ := Sl.own hown1
  go_simp
  refine hK.out _ _ ?_ (fun hHeld => ?_)
  · exact hHeld.next hB1
  clear hK K
  try simp only [Act.put, List.setIfInBounds_toArray, List.set_cons_zero, List.set_cons_succ]
  refine anyH_mono (S' := fun W => Tri w a b c W ∧ Sl W w1.heap.size A1 12 c1 ((bytesT a).map vb) ∧ w1.heap.size ≤ W.heap.size) (fun _ h => h.1) _ _ _ _ ?_
  replace hHeld := And.intro hHeld (And.intro hs1 (Nat.le_refl w1.heap.size))
  refine take_bare (i := 2) (some 13) (Go.Op.convert 26 9 (Go.Operand.tmp 12)) 9 #[true, true, true, true, false, false, false, false] (v := (.string (strOfNums (bytesT a)))) hHeld rfl (by kernel_rfl) (by kernel_rfl) (by kernel_rfl) (by kernel_rfl) O1_s O1_f2 O1_c2 (by kernel_rfl) (fun _ _ _ h => h) (fun W hS => run_conv (s := 12) (by kernel_rfl) (by kernel_rfl) hS.2.1 (by omega)) ?_
  try simp only [Act.put, List.setIfInBounds_toArray, List.set_cons_zero, List.set_cons_succ]
  refine step_bare (i := 4) (some 15) (Go.Op.call { callee := Go.Callee.value (Go.Operand.func 11), args := #[Go.Operand.tmp 14], argTypes := #[25] }) 26 #[true, true, true, true, true, false, false, false] O1_r4 rfl (by kernel_rfl) (by kernel_rfl) (by kernel_rfl) (by kernel_rfl) (by kernel_rfl) (fun K hK => ?_)
  go_simp
  (with_reducible refine (bytes_any b _ hb).mono ?_)
  rintro e w4 ⟨⟨v4, rfl, hown4⟩, hB4⟩
  obtain ⟨A4, c4, rfl, hs4⟩ := Sl.own hown4
  go_simp
  refine hK.out _ _ ?_ (fun hHeld => ?_)
  · exact ⟨hHeld.1.next hB4, hHeld.2.1.below (hB4.mono hHeld.2.2), Nat.le_trans hHeld.2.2 hB4.size⟩
  clear hK K
  try simp only [Act.put, List.setIfInBounds_toArray, List.set_cons_zero, List.set_cons_succ]
  refine take_bare (i := 6) (some 7) (Go.Op.assign (Go.Operand.tmp 13)) 9 #[true, true, true, true, true, false, true, false] (v := ?_) hHeld rfl (by kernel_rfl) (by kernel_rfl) (by kernel_rfl) (by kernel_rfl) O1_s O1_f6 O1_c6 (by kernel_rfl) (fun _ _ _ h => h) ?hya6_4 ?_
  case hya6_4 => intro w hSw; clear hSw; go_simp; try with_reducible rfl
  try simp only [Act.put, List.setIfInBounds_toArray, List.set_cons_zero, List.set_cons_succ]
  refine step_bare (i := 5) (some 16) (Go.Op.convert 26 9 (Go.Operand.tmp 15)) 9 #[true, true, true, true, true, true, true, false] O1_r5 rfl (by kernel_rfl) (by kernel_rfl) (by kernel_rfl) (by kernel_rfl) (by kernel_rfl) (fun K hK => ?_)
  have cy := run_str hs4 (by omega)
  go_simp
  refine hK.out _ _ ?_ (fun hHeld => ?_)
  · exact hHeld
  clear hK K
  try simp only [Act.put, List.setIfInBounds_toArray, List.set_cons_zero, List.set_cons_succ]
  refine take_bare (i := 7) (some 8) (Go.Op.assign (Go.Operand.tmp 16)) 9 #[true, true, true, true, true, true, true, true] (v := ?_) hHeld rfl (by kernel_rfl) (by kernel_rfl) (by kernel_rfl) (by kernel_rfl) O1_s O1_f7 O1_c7 (by kernel_rfl) (fun _ _ _ h => h) ?hya7_5 ?_
  case hya7_5 => intro w hSw; clear hSw; go_simp; try with_reducible rfl
  try simp only [Act.put, List.setIfInBounds_toArray, List.set_cons_zero, List.set_cons_succ]
  refine wpAnyH_done (by kernel_rfl) ?_ _
  try simp only [Act.put, List.setIfInBounds_toArray, List.set_cons_zero, List.set_cons_succ]
  replace hHeld := hHeld.1
  --ENDR1
  have hless := str_lessT ha hb
  have heq := str_eqT ha hb
  generalize strOfNums (bytesT a) = sx at hless heq ⊢
  generalize strOfNums (bytesT b) = sy at hless heq ⊢
  obtain ⟨⟨a0, a1, a2, a3⟩, ⟨b0, b1, b2, b3⟩, ⟨x0, x1, x2, x3⟩⟩ := hHeld.cs
  go_wp2_with fail
  refine (cmp_any a b _).mono ?_
  rintro e w5 ⟨rfl, hB5⟩
  have hT5 := hHeld.next hB5
  clear a0 a1 a2 a3 b0 b1 b2 b3 x0 x1 x2 x3
  obtain ⟨⟨a0, a1, a2, a3⟩, ⟨b0, b1, b2, b3⟩, ⟨x0, x1, x2, x3⟩⟩ := hT5.cs
  have hirr : ∀ t : Tup, ¬ ltT t t := fun t h => by unfold ltT at h; omega
  have key : ∃ (n : Int) (L E : Bool), cmpT a b = n ∧ cmpT b a = -n ∧ Op.bytesLess sx.toList sy.toList = L ∧ (sx.toList == sy.toList) = E ∧ ((n = -1 ∧ L = true ∧ E = false) ∨ (n = 0 ∧ L = false ∧ E = true) ∨ (n = 1 ∧ L = false ∧ E = false)) := by
    rcases cmpT_cases a b with ⟨e1, l1, e2⟩ | ⟨e1, l1, e2⟩ | ⟨e1, l1, e2⟩
    · refine ⟨-1, true, false, e1, e2, hless.trans (decide_eq_true l1), heq.trans (decide_eq_false fun e => hirr b (by rw [e] at l1; exact l1)), .inl ⟨rfl, rfl, rfl⟩⟩
    · refine ⟨0, false, true, e1, e2, hless.trans (decide_eq_false fun h => hirr b (by rw [l1] at h; exact h)), heq.trans (decide_eq_true l1), .inr (.inl ⟨rfl, rfl, rfl⟩)⟩
    · refine ⟨1, false, false, e1, e2, hless.trans (decide_eq_false fun h => hirr b (ltT_trans l1 h)), heq.trans (decide_eq_false fun e => hirr b (by rw [e] at l1; exact l1)), .inr (.inr ⟨rfl, rfl, rfl⟩)⟩
  obtain ⟨n, L, E, k1, k2, k3, k4, k5⟩ := key
  have hlb : ∀ W, Calls Tryd.prog 15 #[tv a, tv b] W fun e W' => e = .returned (.bool (decide (n < 0))) ∧ Below W.heap.size W W' := fun W => k1 ▸ less_any a b W
  have hcb : ∀ W, Calls Tryd.prog 13 #[tv b, tv a] W fun e W' => e = .returned (vi (-n)) ∧ Below W.heap.size W W' := fun W => k2 ▸ cmp_any b a W
  have HK1 := hide k1
  rw [k1]
  clear k1 k2 hless heq
  rcases k5 with ⟨rfl, rfl, rfl⟩ | ⟨rfl, rfl, rfl⟩ | ⟨rfl, rfl, rfl⟩
  all_goals
    go_wp2_with fail
    refine (hcb _).mono ?_
    rintro e w6 ⟨rfl, hB6⟩
    have hT6 := hT5.next hB6
    clear a0 a1 a2 a3 b0 b1 b2 b3 x0 x1 x2 x3
    obtain ⟨⟨a0, a1, a2, a3⟩, ⟨b0, b1, b2, b3⟩, ⟨x0, x1, x2, x3⟩⟩ := hT6.cs
    go_wp2_with fail
    refine (hlb _).mono ?_
    rintro e w7 ⟨rfl, hB7⟩
    have hT7 := hT6.next hB7
    clear a0 a1 a2 a3 b0 b1 b2 b3 x0 x1 x2 x3
    obtain ⟨⟨a0, a1, a2, a3⟩, ⟨b0, b1, b2, b3⟩, ⟨x0, x1, x2, x3⟩⟩ := hT7.cs
    go_wp2_with fail
    refine (hlb _).mono ?_
    rintro e w8 ⟨rfl, hB8⟩
    have hT8 := hT7.next hB8
    clear a0 a1 a2 a3 b0 b1 b2 b3 x0 x1 x2 x3
    obtain ⟨⟨a0, a1, a2, a3⟩, ⟨b0, b1, b2, b3⟩, ⟨x0, x1, x2, x3⟩⟩ := hT8.cs
    go_wp2_with fail
  --LEAVES
  · by_cases hbc : ltT b c
    · refine (less_val b c true (decide_eq_true ((cmpT_lt b c).2 hbc)) _).mono ?_
      rintro e w9 ⟨rfl, hB9⟩
      have hT9 := hT8.next hB9
      clear a0 a1 a2 a3 b0 b1 b2 b3 x0 x1 x2 x3
      obtain ⟨⟨a0, a1, a2, a3⟩, ⟨b0, b1, b2, b3⟩, ⟨x0, x1, x2, x3⟩⟩ := hT9.cs
      go_wp2_with fail
      have hab : ltT a b := (cmpT_lt a b).1 (by rw [HK1.out]; decide)
      refine (less_val a c true (decide_eq_true ((cmpT_lt a c).2 (ltT_trans hab hbc))) _).mono ?_
      rintro e w10 ⟨rfl, hB10⟩
      have hT10 := hT9.next hB10
      clear a0 a1 a2 a3 b0 b1 b2 b3 x0 x1 x2 x3
      obtain ⟨⟨a0, a1, a2, a3⟩, ⟨b0, b1, b2, b3⟩, ⟨x0, x1, x2, x3⟩⟩ := hT10.cs
      go_wp2_with fail
      refine (back_any a _).mono ?_
      rintro e wo ⟨rfl, hBo⟩
      have hTo := hT10.next hBo
      go_wp2_with fail
      refine region_as (R := O8) (by kernel_rfl) ?_
      refine wp_region_held_drew (S := Tri2 w a b c wo.heap.size) (by kernel_rfl) ?_ (fun hHeld => ?_)
      · exact (Tri2.mk (hTo.alloc _) (Bt.new wo (backT a))).drew
      refine listed_as (L := #[false, false, false, false, false, false, false, false, false, false, false, false, false, false, false, false, false, false, false, false, false, false]) (by kernel_rfl) ?_
      refine take_bare (i := 0) (some 74) (Go.Op.load 25 (Go.Operand.tmp 10)) 25 #[true, false, false, false, false, false, false, false, false, false, false, false, false, false, false, false, false, false, false, false, false, false] (v := (tv (backT a))) hHeld rfl (by kernel_rfl) (by kernel_rfl) (by kernel_rfl) (by kernel_rfl) O8_s O8_f0 O8_c0 (by kernel_rfl) (fun _ _ _ h => h) (fun W hS => run_load_bt (s := 10) (by kernel_rfl) (by kernel_rfl) hS.o) ?_
      try simp only [Act.put, List.setIfInBounds_toArray, List.set_cons_zero, List.set_cons_succ]
      refine take_bare (i := 2) (some 76) (Go.Op.load 25 (Go.Operand.tmp 3)) 25 #[true, false, true, false, false, false, false, false, false, false, false, false, false, false, false, false, false, false, false, false, false, false] (v := (tv a)) hHeld rfl (by kernel_rfl) (by kernel_rfl) (by kernel_rfl) (by kernel_rfl) O8_s O8_f2 O8_c2 (by kernel_rfl) (fun _ _ _ h => h) (fun W hS => run_load_bt (s := 3) (by kernel_rfl) (by kernel_rfl) hS.tri.a) ?_
      try simp only [Act.put, List.setIfInBounds_toArray, List.set_cons_zero, List.set_cons_succ]
      refine step_bare (i := 1) (some 75) (Go.Op.call { callee := Go.Callee.value (Go.Operand.func 17), args := #[Go.Operand.tmp 74], argTypes := #[25] }) 25 #[true, true, true, false, false, false, false, false, false, false, false, false, false, false, false, false, false, false, false, false, false, false] O8_r1 rfl (by kernel_rfl) (by kernel_rfl) (by kernel_rfl) (by kernel_rfl) (by kernel_rfl) (fun K hK => ?_)
      go_simp
      (with_reducible refine (back_any (backT a) _).mono ?_)
      rintro e w21 ⟨rfl, hB21⟩
      go_simp
      refine hK.out _ _ ?_ (fun hHeld => ?_)
      · exact hHeld.next hB21
      clear hK K
      try simp only [Act.put, List.setIfInBounds_toArray, List.set_cons_zero, List.set_cons_succ]
      refine take_bare (i := 3) (some 77) (Go.Op.binOp Go.BinOp.eql 25 (Go.Operand.tmp 75) (Go.Operand.tmp 76) 25) 4 #[true, true, true, true, false, false, false, false, false, false, false, false, false, false, false, false, false, false, false, false, false, false] (v := (.bool true)) hHeld rfl (by kernel_rfl) (by kernel_rfl) (by kernel_rfl) (by kernel_rfl) O8_s O8_f3 O8_c3 (by kernel_rfl) (fun _ _ _ h => h) (fun W hS => run_eq25 (s := 75) (t := 76) (backT (backT a)) a true (by kernel_rfl) (by kernel_rfl) (by kernel_rfl) (decide_eq_true (backT_backT a)) W) ?_
      try simp only [Act.put, List.setIfInBounds_toArray, List.set_cons_zero, List.set_cons_succ]
      refine take_bare (i := 4) (some 78) (Go.Op.move (Go.Operand.tmp 77)) 4 #[true, true, true, true, true, false, false, false, false, false, false, false, false, false, false, false, false, false, false, false, false, false] (v := ?_) hHeld rfl (by kernel_rfl) (by kernel_rfl) (by kernel_rfl) (by kernel_rfl) O8_s O8_f4 O8_c4 (by kernel_rfl) (fun _ _ _ h => h) ?hyb4_4 ?_
      case hyb4_4 => intro w hSw; clear hSw; go_simp; try with_reducible rfl
      try simp only [Act.put, List.setIfInBounds_toArray, List.set_cons_zero, List.set_cons_succ]
      refine take_bare (i := 5) (some 79) (Go.Op.fieldAddr 25 (Go.Operand.tmp 10) 0) 0 #[true, true, true, true, true, true, false, false, false, false, false, false, false, false, false, false, false, false, false, false, false, false] (v := ?_) hHeld rfl (by kernel_rfl) (by kernel_rfl) (by kernel_rfl) (by kernel_rfl) O8_s O8_f5 O8_c5 (by kernel_rfl) (fun _ _ _ h => h) ?hyb5_5 ?_
      case hyb5_5 => intro w hSw; clear hSw; go_simp; try with_reducible rfl
      try simp only [Act.put, List.setIfInBounds_toArray, List.set_cons_zero, List.set_cons_succ]
      refine take_bare (i := 6) (some 80) (Go.Op.load 22 (Go.Operand.tmp 79)) 22 #[true, true, true, true, true, true, true, false, false, false, false, false, false, false, false, false, false, false, false, false, false, false] (v := (.int .u32 a.dst)) hHeld rfl (by kernel_rfl) (by kernel_rfl) (by kernel_rfl) (by kernel_rfl) O8_s O8_f6 O8_c6 (by kernel_rfl) (fun _ _ _ h => h) (fun W hS => run_load_one (T := 22) (s := 79) (by kernel_rfl) (by kernel_rfl) (by kernel_rfl) hS.o.c0) ?_
      try simp only [Act.put, List.setIfInBounds_toArray, List.set_cons_zero, List.set_cons_succ]
      refine take_bare (i := 7) (some 81) (Go.Op.fieldAddr 25 (Go.Operand.tmp 3) 1) 0 #[true, true, true, true, true, true, true, true, false, false, false, false, false, false, false, false, false, false, false, false, false, false] (v := ?_) hHeld rfl (by kernel_rfl) (by kernel_rfl) (by kernel_rfl) (by kernel_rfl) O8_s O8_f7 O8_c7 (by kernel_rfl) (fun _ _ _ h => h) ?hyb7_7 ?_
      case hyb7_7 => intro w hSw; clear hSw; go_simp; try with_reducible rfl
      try simp only [Act.put, List.setIfInBounds_toArray, List.set_cons_zero, List.set_cons_succ]
      refine take_bare (i := 8) (some 82) (Go.Op.load 22 (Go.Operand.tmp 81)) 22 #[true, true, true, true, true, true, true, true, true, false, false, false, false, false, false, false, false, false, false, false, false, false] (v := (.int .u32 a.dst)) hHeld rfl (by kernel_rfl) (by kernel_rfl) (by kernel_rfl) (by kernel_rfl) O8_s O8_f8 O8_c8 (by kernel_rfl) (fun _ _ _ h => h) (fun W hS => run_load_one (T := 22) (s := 81) (by kernel_rfl) (by kernel_rfl) (by kernel_rfl) hS.tri.a.c1) ?_
      try simp only [Act.put, List.setIfInBounds_toArray, List.set_cons_zero, List.set_cons_succ]
      refine take_bare (i := 9) (some 83) (Go.Op.binOp Go.BinOp.eql 22 (Go.Operand.tmp 80) (Go.Operand.tmp 82) 22) 4 #[true, true, true, true, true, true, true, true, true, true, false, false, false, false, false, false, false, false, false, false, false, false] (v := ?_) hHeld rfl (by kernel_rfl) (by kernel_rfl) (by kernel_rfl) (by kernel_rfl) O8_s O8_f9 O8_c9 (by kernel_rfl) (fun _ _ _ h => h) ?hyb9_9 ?_
      case hyb9_9 => intro w hSw; clear hSw; go_simp; try with_reducible rfl
      try simp only [Act.put, List.setIfInBounds_toArray, List.set_cons_zero, List.set_cons_succ]
      refine take_bare (i := 10) (some 84) (Go.Op.pick (Go.Operand.tmp 78) (Go.Operand.tmp 83) (Go.Operand.const (Go.Value.bool false))) 4 #[true, true, true, true, true, true, true, true, true, true, true, false, false, false, false, false, false, false, false, false, false, false] (v := ?_) hHeld rfl (by kernel_rfl) (by kernel_rfl) (by kernel_rfl) (by kernel_rfl) O8_s O8_f10 O8_c10 (by kernel_rfl) (fun _ _ _ h => h) ?hyb10_10 ?_
      case hyb10_10 => intro w hSw; clear hSw; go_simp; try with_reducible rfl
      try simp only [Act.put, List.setIfInBounds_toArray, List.set_cons_zero, List.set_cons_succ]
      refine take_bare (i := 11) (some 85) (Go.Op.move (Go.Operand.tmp 84)) 4 #[true, true, true, true, true, true, true, true, true, true, true, true, false, false, false, false, false, false, false, false, false, false] (v := ?_) hHeld rfl (by kernel_rfl) (by kernel_rfl) (by kernel_rfl) (by kernel_rfl) O8_s O8_f11 O8_c11 (by kernel_rfl) (fun _ _ _ h => h) ?hyb11_11 ?_
      case hyb11_11 => intro w hSw; clear hSw; go_simp; try with_reducible rfl
      try simp only [Act.put, List.setIfInBounds_toArray, List.set_cons_zero, List.set_cons_succ]
      refine take_bare (i := 12) (some 86) (Go.Op.fieldAddr 25 (Go.Operand.tmp 10) 3) 0 #[true, true, true, true, true, true, true, true, true, true, true, true, true, false, false, false, false, false, false, false, false, false] (v := ?_) hHeld rfl (by kernel_rfl) (by kernel_rfl) (by kernel_rfl) (by kernel_rfl) O8_s O8_f12 O8_c12 (by kernel_rfl) (fun _ _ _ h => h) ?hyb12_12 ?_
      case hyb12_12 => intro w hSw; clear hSw; go_simp; try with_reducible rfl
      try simp only [Act.put, List.setIfInBounds_toArray, List.set_cons_zero, List.set_cons_succ]
      refine take_bare (i := 13) (some 87) (Go.Op.load 23 (Go.Operand.tmp 86)) 23 #[true, true, true, true, true, true, true, true, true, true, true, true, true, true, false, false, false, false, false, false, false, false] (v := (.int .u16 a.sp)) hHeld rfl (by kernel_rfl) (by kernel_rfl) (by kernel_rfl) (by kernel_rfl) O8_s O8_f13 O8_c13 (by kernel_rfl) (fun _ _ _ h => h) (fun W hS => run_load_one (T := 23) (s := 86) (by kernel_rfl) (by kernel_rfl) (by kernel_rfl) hS.o.c3) ?_
      try simp only [Act.put, List.setIfInBounds_toArray, List.set_cons_zero, List.set_cons_succ]
      refine take_bare (i := 14) (some 88) (Go.Op.fieldAddr 25 (Go.Operand.tmp 3) 2) 0 #[true, true, true, true, true, true, true, true, true, true, true, true, true, true, true, false, false, false, false, false, false, false] (v := ?_) hHeld rfl (by kernel_rfl) (by kernel_rfl) (by kernel_rfl) (by kernel_rfl) O8_s O8_f14 O8_c14 (by kernel_rfl) (fun _ _ _ h => h) ?hyb14_14 ?_
      case hyb14_14 => intro w hSw; clear hSw; go_simp; try with_reducible rfl
      try simp only [Act.put, List.setIfInBounds_toArray, List.set_cons_zero, List.set_cons_succ]
      refine take_bare (i := 15) (some 89) (Go.Op.load 23 (Go.Operand.tmp 88)) 23 #[true, true, true, true, true, true, true, true, true, true, true, true, true, true, true, true, false, false, false, false, false, false] (v := (.int .u16 a.sp)) hHeld rfl (by kernel_rfl) (by kernel_rfl) (by kernel_rfl) (by kernel_rfl) O8_s O8_f15 O8_c15 (by kernel_rfl) (fun _ _ _ h => h) (fun W hS => run_load_one (T := 23) (s := 88) (by kernel_rfl) (by kernel_rfl) (by kernel_rfl) hS.tri.a.c2) ?_
      try simp only [Act.put, List.setIfInBounds_toArray, List.set_cons_zero, List.set_cons_succ]
      refine take_bare (i := 16) (some 90) (Go.Op.binOp Go.BinOp.eql 23 (Go.Operand.tmp 87) (Go.Operand.tmp 89) 23) 4 #[true, true, true, true, true, true, true, true, true, true, true, true, true, true, true, true, true, false, false, false, false, false] (v := ?_) hHeld rfl (by kernel_rfl) (by kernel_rfl) (by kernel_rfl) (by kernel_rfl) O8_s O8_f16 O8_c16 (by kernel_rfl) (fun _ _ _ h => h) ?hyb16_16 ?_
      case hyb16_16 => intro w hSw; clear hSw; go_simp; try with_reducible rfl
      try simp only [Act.put, List.setIfInBounds_toArray, List.set_cons_zero, List.set_cons_succ]
      refine take_bare (i := 17) (some 91) (Go.Op.pick (Go.Operand.tmp 85) (Go.Operand.tmp 90) (Go.Operand.const (Go.Value.bool false))) 4 #[true, true, true, true, true, true, true, true, true, true, true, true, true, true, true, true, true, true, false, false, false, false] (v := ?_) hHeld rfl (by kernel_rfl) (by kernel_rfl) (by kernel_rfl) (by kernel_rfl) O8_s O8_f17 O8_c17 (by kernel_rfl) (fun _ _ _ h => h) ?hyb17_17 ?_
      case hyb17_17 => intro w hSw; clear hSw; go_simp; try with_reducible rfl
      try simp only [Act.put, List.setIfInBounds_toArray, List.set_cons_zero, List.set_cons_succ]
      refine take_bare (i := 18) (some 92) (Go.Op.move (Go.Operand.tmp 91)) 4 #[true, true, true, true, true, true, true, true, true, true, true, true, true, true, true, true, true, true, true, false, false, false] (v := ?_) hHeld rfl (by kernel_rfl) (by kernel_rfl) (by kernel_rfl) (by kernel_rfl) O8_s O8_f18 O8_c18 (by kernel_rfl) (fun _ _ _ h => h) ?hyb18_18 ?_
      case hyb18_18 => intro w hSw; clear hSw; go_simp; try with_reducible rfl
      try simp only [Act.put, List.setIfInBounds_toArray, List.set_cons_zero, List.set_cons_succ]
      refine step_bare (i := 19) (some 93) (Go.Op.call { callee := Go.Callee.value (Go.Operand.func 8), args := #[], argTypes := #[] }) 4 #[true, true, true, true, true, true, true, true, true, true, true, true, true, true, true, true, true, true, true, true, false, false] O8_r19 rfl (by kernel_rfl) (by kernel_rfl) (by kernel_rfl) (by kernel_rfl) (by kernel_rfl) (fun K hK => ?_)
      go_simp
      (with_reducible refine (wakes_any _ (hHeld.tri.tab ht)).mono ?_)
      rintro e w39 ⟨rfl, hB39⟩
      go_simp
      refine hK.out _ _ ?_ (fun hHeld => ?_)
      · exact hHeld.next hB39
      clear hK K
      try simp only [Act.put, List.setIfInBounds_toArray, List.set_cons_zero, List.set_cons_succ]
      refine take_bare (i := 20) (some 94) (Go.Op.pick (Go.Operand.tmp 92) (Go.Operand.tmp 93) (Go.Operand.const (Go.Value.bool false))) 4 #[true, true, true, true, true, true, true, true, true, true, true, true, true, true, true, true, true, true, true, true, true, false] (v := ?_) hHeld rfl (by kernel_rfl) (by kernel_rfl) (by kernel_rfl) (by kernel_rfl) O8_s O8_f20 O8_c20 (by kernel_rfl) (fun _ _ _ h => h) ?hyb20_19 ?_
      case hyb20_19 => intro w hSw; clear hSw; go_simp; try with_reducible rfl
      try simp only [Act.put, List.setIfInBounds_toArray, List.set_cons_zero, List.set_cons_succ]
      refine take_bare (i := 21) (some 6) (Go.Op.assign (Go.Operand.tmp 94)) 4 #[true, true, true, true, true, true, true, true, true, true, true, true, true, true, true, true, true, true, true, true, true, true] (v := ?_) hHeld rfl (by kernel_rfl) (by kernel_rfl) (by kernel_rfl) (by kernel_rfl) O8_s O8_f21 O8_c21 (by kernel_rfl) (fun _ _ _ h => h) ?hyb21_20 ?_
      case hyb21_20 => intro w hSw; clear hSw; go_simp; try with_reducible rfl
      try simp only [Act.put, List.setIfInBounds_toArray, List.set_cons_zero, List.set_cons_succ]
      refine wpAnyH_done (by kernel_rfl) ?_ _
      try simp only [Act.put, List.setIfInBounds_toArray, List.set_cons_zero, List.set_cons_succ]
      go_wp2
      go_ret
      exact ⟨rfl, hHeld.tri.below⟩
    · refine (less_val b c false (decide_eq_false fun h => hbc ((cmpT_lt b c).1 h)) _).mono ?_
      rintro e w9 ⟨rfl, hB9⟩
      have hT9 := hT8.next hB9
      clear a0 a1 a2 a3 b0 b1 b2 b3 x0 x1 x2 x3
      obtain ⟨⟨a0, a1, a2, a3⟩, ⟨b0, b1, b2, b3⟩, ⟨x0, x1, x2, x3⟩⟩ := hT9.cs
      go_wp2_with fail
      refine (back_any a _).mono ?_
      rintro e wo ⟨rfl, hBo⟩
      have hTo := hT9.next hBo
      go_wp2_with fail
      refine region_as (R := O8) (by kernel_rfl) ?_
      refine wp_region_held_drew (S := Tri2 w a b c wo.heap.size) (by kernel_rfl) ?_ (fun hHeld => ?_)
      · exact (Tri2.mk (hTo.alloc _) (Bt.new wo (backT a))).drew
      refine listed_as (L := #[false, false, false, false, false, false, false, false, false, false, false, false, false, false, false, false, false, false, false, false, false, false]) (by kernel_rfl) ?_
      refine take_bare (i := 0) (some 74) (Go.Op.load 25 (Go.Operand.tmp 10)) 25 #[true, false, false, false, false, false, false, false, false, false, false, false, false, false, false, false, false, false, false, false, false, false] (v := (tv (backT a))) hHeld rfl (by kernel_rfl) (by kernel_rfl) (by kernel_rfl) (by kernel_rfl) O8_s O8_f0 O8_c0 (by kernel_rfl) (fun _ _ _ h => h) (fun W hS => run_load_bt (s := 10) (by kernel_rfl) (by kernel_rfl) hS.o) ?_
      try simp only [Act.put, List.setIfInBounds_toArray, List.set_cons_zero, List.set_cons_succ]
      refine take_bare (i := 2) (some 76) (Go.Op.load 25 (Go.Operand.tmp 3)) 25 #[true, false, true, false, false, false, false, false, false, false, false, false, false, false, false, false, false, false, false, false, false, false] (v := (tv a)) hHeld rfl (by kernel_rfl) (by kernel_rfl) (by kernel_rfl) (by kernel_rfl) O8_s O8_f2 O8_c2 (by kernel_rfl) (fun _ _ _ h => h) (fun W hS => run_load_bt (s := 3) (by kernel_rfl) (by kernel_rfl) hS.tri.a) ?_
      try simp only [Act.put, List.setIfInBounds_toArray, List.set_cons_zero, List.set_cons_succ]
      refine step_bare (i := 1) (some 75) (Go.Op.call { callee := Go.Callee.value (Go.Operand.func 17), args := #[Go.Operand.tmp 74], argTypes := #[25] }) 25 #[true, true, true, false, false, false, false, false, false, false, false, false, false, false, false, false, false, false, false, false, false, false] O8_r1 rfl (by kernel_rfl) (by kernel_rfl) (by kernel_rfl) (by kernel_rfl) (by kernel_rfl) (fun K hK => ?_)
      go_simp
      (with_reducible refine (back_any (backT a) _).mono ?_)
      rintro e w21 ⟨rfl, hB21⟩
      go_simp
      refine hK.out _ _ ?_ (fun hHeld => ?_)
      · exact hHeld.next hB21
      clear hK K
      try simp only [Act.put, List.setIfInBounds_toArray, List.set_cons_zero, List.set_cons_succ]
      refine take_bare (i := 3) (some 77) (Go.Op.binOp Go.BinOp.eql 25 (Go.Operand.tmp 75) (Go.Operand.tmp 76) 25) 4 #[true, true, true, true, false, false, false, false, false, false, false, false, false, false, false, false, false, false, false, false, false, false] (v := (.bool true)) hHeld rfl (by kernel_rfl) (by kernel_rfl) (by kernel_rfl) (by kernel_rfl) O8_s O8_f3 O8_c3 (by kernel_rfl) (fun _ _ _ h => h) (fun W hS => run_eq25 (s := 75) (t := 76) (backT (backT a)) a true (by kernel_rfl) (by kernel_rfl) (by kernel_rfl) (decide_eq_true (backT_backT a)) W) ?_
      try simp only [Act.put, List.setIfInBounds_toArray, List.set_cons_zero, List.set_cons_succ]
      refine take_bare (i := 4) (some 78) (Go.Op.move (Go.Operand.tmp 77)) 4 #[true, true, true, true, true, false, false, false, false, false, false, false, false, false, false, false, false, false, false, false, false, false] (v := ?_) hHeld rfl (by kernel_rfl) (by kernel_rfl) (by kernel_rfl) (by kernel_rfl) O8_s O8_f4 O8_c4 (by kernel_rfl) (fun _ _ _ h => h) ?hyb4_4 ?_
      case hyb4_4 => intro w hSw; clear hSw; go_simp; try with_reducible rfl
      try simp only [Act.put, List.setIfInBounds_toArray, List.set_cons_zero, List.set_cons_succ]
      refine take_bare (i := 5) (some 79) (Go.Op.fieldAddr 25 (Go.Operand.tmp 10) 0) 0 #[true, true, true, true, true, true, false, false, false, false, false, false, false, false, false, false, false, false, false, false, false, false] (v := ?_) hHeld rfl (by kernel_rfl) (by kernel_rfl) (by kernel_rfl) (by kernel_rfl) O8_s O8_f5 O8_c5 (by kernel_rfl) (fun _ _ _ h => h) ?hyb5_5 ?_
      case hyb5_5 => intro w hSw; clear hSw; go_simp; try with_reducible rfl
      try simp only [Act.put, List.setIfInBounds_toArray, List.set_cons_zero, List.set_cons_succ]
      refine take_bare (i := 6) (some 80) (Go.Op.load 22 (Go.Operand.tmp 79)) 22 #[true, true, true, true, true, true, true, false, false, false, false, false, false, false, false, false, false, false, false, false, false, false] (v := (.int .u32 a.dst)) hHeld rfl (by kernel_rfl) (by kernel_rfl) (by kernel_rfl) (by kernel_rfl) O8_s O8_f6 O8_c6 (by kernel_rfl) (fun _ _ _ h => h) (fun W hS => run_load_one (T := 22) (s := 79) (by kernel_rfl) (by kernel_rfl) (by kernel_rfl) hS.o.c0) ?_
      try simp only [Act.put, List.setIfInBounds_toArray, List.set_cons_zero, List.set_cons_succ]
      refine take_bare (i := 7) (some 81) (Go.Op.fieldAddr 25 (Go.Operand.tmp 3) 1) 0 #[true, true, true, true, true, true, true, true, false, false, false, false, false, false, false, false, false, false, false, false, false, false] (v := ?_) hHeld rfl (by kernel_rfl) (by kernel_rfl) (by kernel_rfl) (by kernel_rfl) O8_s O8_f7 O8_c7 (by kernel_rfl) (fun _ _ _ h => h) ?hyb7_7 ?_
      case hyb7_7 => intro w hSw; clear hSw; go_simp; try with_reducible rfl
      try simp only [Act.put, List.setIfInBounds_toArray, List.set_cons_zero, List.set_cons_succ]
      refine take_bare (i := 8) (some 82) (Go.Op.load 22 (Go.Operand.tmp 81)) 22 #[true, true, true, true, true, true, true, true, true, false, false, false, false, false, false, false, false, false, false, false, false, false] (v := (.int .u32 a.dst)) hHeld rfl (by kernel_rfl) (by kernel_rfl) (by kernel_rfl) (by kernel_rfl) O8_s O8_f8 O8_c8 (by kernel_rfl) (fun _ _ _ h => h) (fun W hS => run_load_one (T := 22) (s := 81) (by kernel_rfl) (by kernel_rfl) (by kernel_rfl) hS.tri.a.c1) ?_
      try simp only [Act.put, List.setIfInBounds_toArray, List.set_cons_zero, List.set_cons_succ]
      refine take_bare (i := 9) (some 83) (Go.Op.binOp Go.BinOp.eql 22 (Go.Operand.tmp 80) (Go.Operand.tmp 82) 22) 4 #[true, true, true, true, true, true, true, true, true, true, false, false, false, false, false, false, false, false, false, false, false, false] (v := ?_) hHeld rfl (by kernel_rfl) (by kernel_rfl) (by kernel_rfl) (by kernel_rfl) O8_s O8_f9 O8_c9 (by kernel_rfl) (fun _ _ _ h => h) ?hyb9_9 ?_
      case hyb9_9 => intro w hSw; clear hSw; go_simp; try with_reducible rfl
      try simp only [Act.put, List.setIfInBounds_toArray, List.set_cons_zero, List.set_cons_succ]
      refine take_bare (i := 10) (some 84) (Go.Op.pick (Go.Operand.tmp 78) (Go.Operand.tmp 83) (Go.Operand.const (Go.Value.bool false))) 4 #[true, true, true, true, true, true, true, true, true, true, true, false, false, false, false, false, false, false, false, false, false, false] (v := ?_) hHeld rfl (by kernel_rfl) (by kernel_rfl) (by kernel_rfl) (by kernel_rfl) O8_s O8_f10 O8_c10 (by kernel_rfl) (fun _ _ _ h => h) ?hyb10_10 ?_
      case hyb10_10 => intro w hSw; clear hSw; go_simp; try with_reducible rfl
      try simp only [Act.put, List.setIfInBounds_toArray, List.set_cons_zero, List.set_cons_succ]
      refine take_bare (i := 11) (some 85) (Go.Op.move (Go.Operand.tmp 84)) 4 #[true, true, true, true, true, true, true, true, true, true, true, true, false, false, false, false, false, false, false, false, false, false] (v := ?_) hHeld rfl (by kernel_rfl) (by kernel_rfl) (by kernel_rfl) (by kernel_rfl) O8_s O8_f11 O8_c11 (by kernel_rfl) (fun _ _ _ h => h) ?hyb11_11 ?_
      case hyb11_11 => intro w hSw; clear hSw; go_simp; try with_reducible rfl
      try simp only [Act.put, List.setIfInBounds_toArray, List.set_cons_zero, List.set_cons_succ]
      refine take_bare (i := 12) (some 86) (Go.Op.fieldAddr 25 (Go.Operand.tmp 10) 3) 0 #[true, true, true, true, true, true, true, true, true, true, true, true, true, false, false, false, false, false, false, false, false, false] (v := ?_) hHeld rfl (by kernel_rfl) (by kernel_rfl) (by kernel_rfl) (by kernel_rfl) O8_s O8_f12 O8_c12 (by kernel_rfl) (fun _ _ _ h => h) ?hyb12_12 ?_
      case hyb12_12 => intro w hSw; clear hSw; go_simp; try with_reducible rfl
      try simp only [Act.put, List.setIfInBounds_toArray, List.set_cons_zero, List.set_cons_succ]
      refine take_bare (i := 13) (some 87) (Go.Op.load 23 (Go.Operand.tmp 86)) 23 #[true, true, true, true, true, true, true, true, true, true, true, true, true, true, false, false, false, false, false, false, false, false] (v := (.int .u16 a.sp)) hHeld rfl (by kernel_rfl) (by kernel_rfl) (by kernel_rfl) (by kernel_rfl) O8_s O8_f13 O8_c13 (by kernel_rfl) (fun _ _ _ h => h) (fun W hS => run_load_one (T := 23) (s := 86) (by kernel_rfl) (by kernel_rfl) (by kernel_rfl) hS.o.c3) ?_
      try simp only [Act.put, List.setIfInBounds_toArray, List.set_cons_zero, List.set_cons_succ]
      refine take_bare (i := 14) (some 88) (Go.Op.fieldAddr 25 (Go.Operand.tmp 3) 2) 0 #[true, true, true, true, true, true, true, true, true, true, true, true, true, true, true, false, false, false, false, false, false, false] (v := ?_) hHeld rfl (by kernel_rfl) (by kernel_rfl) (by kernel_rfl) (by kernel_rfl) O8_s O8_f14 O8_c14 (by kernel_rfl) (fun _ _ _ h => h) ?hyb14_14 ?_
      case hyb14_14 => intro w hSw; clear hSw; go_simp; try with_reducible rfl
      try simp only [Act.put, List.setIfInBounds_toArray, List.set_cons_zero, List.set_cons_succ]
      refine take_bare (i := 15) (some 89) (Go.Op.load 23 (Go.Operand.tmp 88)) 23 #[true, true, true, true, true, true, true, true, true, true, true, true, true, true, true, true, false, false, false, false, false, false] (v := (.int .u16 a.sp)) hHeld rfl (by kernel_rfl) (by kernel_rfl) (by kernel_rfl) (by kernel_rfl) O8_s O8_f15 O8_c15 (by kernel_rfl) (fun _ _ _ h => h) (fun W hS => run_load_one (T := 23) (s := 88) (by kernel_rfl) (by kernel_rfl) (by kernel_rfl) hS.tri.a.c2) ?_
      try simp only [Act.put, List.setIfInBounds_toArray, List.set_cons_zero, List.set_cons_succ]
      refine take_bare (i := 16) (some 90) (Go.Op.binOp Go.BinOp.eql 23 (Go.Operand.tmp 87) (Go.Operand.tmp 89) 23) 4 #[true, true, true, true, true, true, true, true, true, true, true, true, true, true, true, true, true, false, false, false, false, false] (v := ?_) hHeld rfl (by kernel_rfl) (by kernel_rfl) (by kernel_rfl) (by kernel_rfl) O8_s O8_f16 O8_c16 (by kernel_rfl) (fun _ _ _ h => h) ?hyb16_16 ?_
      case hyb16_16 => intro w hSw; clear hSw; go_simp; try with_reducible rfl
      try simp only [Act.put, List.setIfInBounds_toArray, List.set_cons_zero, List.set_cons_succ]
      refine take_bare (i := 17) (some 91) (Go.Op.pick (Go.Operand.tmp 85) (Go.Operand.tmp 90) (Go.Operand.const (Go.Value.bool false))) 4 #[true, true, true, true, true, true, true, true, true, true, true, true, true, true, true, true, true, true, false, false, false, false] (v := ?_) hHeld rfl (by kernel_rfl) (by kernel_rfl) (by kernel_rfl) (by kernel_rfl) O8_s O8_f17 O8_c17 (by kernel_rfl) (fun _ _ _ h => h) ?hyb17_17 ?_
      case hyb17_17 => intro w hSw; clear hSw; go_simp; try with_reducible rfl
      try simp only [Act.put, List.setIfInBounds_toArray, List.set_cons_zero, List.set_cons_succ]
      refine take_bare (i := 18) (some 92) (Go.Op.move (Go.Operand.tmp 91)) 4 #[true, true, true, true, true, true, true, true, true, true, true, true, true, true, true, true, true, true, true, false, false, false] (v := ?_) hHeld rfl (by kernel_rfl) (by kernel_rfl) (by kernel_rfl) (by kernel_rfl) O8_s O8_f18 O8_c18 (by kernel_rfl) (fun _ _ _ h => h) ?hyb18_18 ?_
      case hyb18_18 => intro w hSw; clear hSw; go_simp; try with_reducible rfl
      try simp only [Act.put, List.setIfInBounds_toArray, List.set_cons_zero, List.set_cons_succ]
      refine step_bare (i := 19) (some 93) (Go.Op.call { callee := Go.Callee.value (Go.Operand.func 8), args := #[], argTypes := #[] }) 4 #[true, true, true, true, true, true, true, true, true, true, true, true, true, true, true, true, true, true, true, true, false, false] O8_r19 rfl (by kernel_rfl) (by kernel_rfl) (by kernel_rfl) (by kernel_rfl) (by kernel_rfl) (fun K hK => ?_)
      go_simp
      (with_reducible refine (wakes_any _ (hHeld.tri.tab ht)).mono ?_)
      rintro e w39 ⟨rfl, hB39⟩
      go_simp
      refine hK.out _ _ ?_ (fun hHeld => ?_)
      · exact hHeld.next hB39
      clear hK K
      try simp only [Act.put, List.setIfInBounds_toArray, List.set_cons_zero, List.set_cons_succ]
      refine take_bare (i := 20) (some 94) (Go.Op.pick (Go.Operand.tmp 92) (Go.Operand.tmp 93) (Go.Operand.const (Go.Value.bool false))) 4 #[true, true, true, true, true, true, true, true, true, true, true, true, true, true, true, true, true, true, true, true, true, false] (v := ?_) hHeld rfl (by kernel_rfl) (by kernel_rfl) (by kernel_rfl) (by kernel_rfl) O8_s O8_f20 O8_c20 (by kernel_rfl) (fun _ _ _ h => h) ?hyb20_19 ?_
      case hyb20_19 => intro w hSw; clear hSw; go_simp; try with_reducible rfl
      try simp only [Act.put, List.setIfInBounds_toArray, List.set_cons_zero, List.set_cons_succ]
      refine take_bare (i := 21) (some 6) (Go.Op.assign (Go.Operand.tmp 94)) 4 #[true, true, true, true, true, true, true, true, true, true, true, true, true, true, true, true, true, true, true, true, true, true] (v := ?_) hHeld rfl (by kernel_rfl) (by kernel_rfl) (by kernel_rfl) (by kernel_rfl) O8_s O8_f21 O8_c21 (by kernel_rfl) (fun _ _ _ h => h) ?hyb21_20 ?_
      case hyb21_20 => intro w hSw; clear hSw; go_simp; try with_reducible rfl
      try simp only [Act.put, List.setIfInBounds_toArray, List.set_cons_zero, List.set_cons_succ]
      refine wpAnyH_done (by kernel_rfl) ?_ _
      try simp only [Act.put, List.setIfInBounds_toArray, List.set_cons_zero, List.set_cons_succ]
      go_wp2
      go_ret
      exact ⟨rfl, hHeld.tri.below⟩
  · skip
    refine (back_any a _).mono ?_
    rintro e wo ⟨rfl, hBo⟩
    have hTo := hT8.next hBo
    go_wp2_with fail
    refine region_as (R := O8) (by kernel_rfl) ?_
    refine wp_region_held_drew (S := Tri2 w a b c wo.heap.size) (by kernel_rfl) ?_ (fun hHeld => ?_)
    · exact (Tri2.mk (hTo.alloc _) (Bt.new wo (backT a))).drew
    refine listed_as (L := #[false, false, false, false, false, false, false, false, false, false, false, false, false, false, false, false, false, false, false, false, false, false]) (by kernel_rfl) ?_
    refine take_bare (i := 0) (some 74) (Go.Op.load 25 (Go.Operand.tmp 10)) 25 #[true, false, false, false, false, false, false, false, false, false, false, false, false, false, false, false, false, false, false, false, false, false] (v := (tv (backT a))) hHeld rfl (by kernel_rfl) (by kernel_rfl) (by kernel_rfl) (by kernel_rfl) O8_s O8_f0 O8_c0 (by kernel_rfl) (fun _ _ _ h => h) (fun W hS => run_load_bt (s := 10) (by kernel_rfl) (by kernel_rfl) hS.o) ?_
    try simp only [Act.put, List.setIfInBounds_toArray, List.set_cons_zero, List.set_cons_succ]
    refine take_bare (i := 2) (some 76) (Go.Op.load 25 (Go.Operand.tmp 3)) 25 #[true, false, true, false, false, false, false, false, false, false, false, false, false, false, false, false, false, false, false, false, false, false] (v := (tv a)) hHeld rfl (by kernel_rfl) (by kernel_rfl) (by kernel_rfl) (by kernel_rfl) O8_s O8_f2 O8_c2 (by kernel_rfl) (fun _ _ _ h => h) (fun W hS => run_load_bt (s := 3) (by kernel_rfl) (by kernel_rfl) hS.tri.a) ?_
    try simp only [Act.put, List.setIfInBounds_toArray, List.set_cons_zero, List.set_cons_succ]
    refine step_bare (i := 1) (some 75) (Go.Op.call { callee := Go.Callee.value (Go.Operand.func 17), args := #[Go.Operand.tmp 74], argTypes := #[25] }) 25 #[true, true, true, false, false, false, false, false, false, false, false, false, false, false, false, false, false, false, false, false, false, false] O8_r1 rfl (by kernel_rfl) (by kernel_rfl) (by kernel_rfl) (by kernel_rfl) (by kernel_rfl) (fun K hK => ?_)
    go_simp
    (with_reducible refine (back_any (backT a) _).mono ?_)
    rintro e w21 ⟨rfl, hB21⟩
    go_simp
    refine hK.out _ _ ?_ (fun hHeld => ?_)
    · exact hHeld.next hB21
    clear hK K
    try simp only [Act.put, List.setIfInBounds_toArray, List.set_cons_zero, List.set_cons_succ]
    refine take_bare (i := 3) (some 77) (Go.Op.binOp Go.BinOp.eql 25 (Go.Operand.tmp 75) (Go.Operand.tmp 76) 25) 4 #[true, true, true, true, false, false, false, false, false, false, false, false, false, false, false, false, false, false, false, false, false, false] (v := (.bool true)) hHeld rfl (by kernel_rfl) (by kernel_rfl) (by kernel_rfl) (by kernel_rfl) O8_s O8_f3 O8_c3 (by kernel_rfl) (fun _ _ _ h => h) (fun W hS => run_eq25 (s := 75) (t := 76) (backT (backT a)) a true (by kernel_rfl) (by kernel_rfl) (by kernel_rfl) (decide_eq_true (backT_backT a)) W) ?_
    try simp only [Act.put, List.setIfInBounds_toArray, List.set_cons_zero, List.set_cons_succ]
    refine take_bare (i := 4) (some 78) (Go.Op.move (Go.Operand.tmp 77)) 4 #[true, true, true, true, true, false, false, false, false, false, false, false, false, false, false, false, false, false, false, false, false, false] (v := ?_) hHeld rfl (by kernel_rfl) (by kernel_rfl) (by kernel_rfl) (by kernel_rfl) O8_s O8_f4 O8_c4 (by kernel_rfl) (fun _ _ _ h => h) ?hyb4_4 ?_
    case hyb4_4 => intro w hSw; clear hSw; go_simp; try with_reducible rfl
    try simp only [Act.put, List.setIfInBounds_toArray, List.set_cons_zero, List.set_cons_succ]
    refine take_bare (i := 5) (some 79) (Go.Op.fieldAddr 25 (Go.Operand.tmp 10) 0) 0 #[true, true, true, true, true, true, false, false, false, false, false, false, false, false, false, false, false, false, false, false, false, false] (v := ?_) hHeld rfl (by kernel_rfl) (by kernel_rfl) (by kernel_rfl) (by kernel_rfl) O8_s O8_f5 O8_c5 (by kernel_rfl) (fun _ _ _ h => h) ?hyb5_5 ?_
    case hyb5_5 => intro w hSw; clear hSw; go_simp; try with_reducible rfl
    try simp only [Act.put, List.setIfInBounds_toArray, List.set_cons_zero, List.set_cons_succ]
    refine take_bare (i := 6) (some 80) (Go.Op.load 22 (Go.Operand.tmp 79)) 22 #[true, true, true, true, true, true, true, false, false, false, false, false, false, false, false, false, false, false, false, false, false, false] (v := (.int .u32 a.dst)) hHeld rfl (by kernel_rfl) (by kernel_rfl) (by kernel_rfl) (by kernel_rfl) O8_s O8_f6 O8_c6 (by kernel_rfl) (fun _ _ _ h => h) (fun W hS => run_load_one (T := 22) (s := 79) (by kernel_rfl) (by kernel_rfl) (by kernel_rfl) hS.o.c0) ?_
    try simp only [Act.put, List.setIfInBounds_toArray, List.set_cons_zero, List.set_cons_succ]
    refine take_bare (i := 7) (some 81) (Go.Op.fieldAddr 25 (Go.Operand.tmp 3) 1) 0 #[true, true, true, true, true, true, true, true, false, false, false, false, false, false, false, false, false, false, false, false, false, false] (v := ?_) hHeld rfl (by kernel_rfl) (by kernel_rfl) (by kernel_rfl) (by kernel_rfl) O8_s O8_f7 O8_c7 (by kernel_rfl) (fun _ _ _ h => h) ?hyb7_7 ?_
    case hyb7_7 => intro w hSw; clear hSw; go_simp; try with_reducible rfl
    try simp only [Act.put, List.setIfInBounds_toArray, List.set_cons_zero, List.set_cons_succ]
    refine take_bare (i := 8) (some 82) (Go.Op.load 22 (Go.Operand.tmp 81)) 22 #[true, true, true, true, true, true, true, true, true, false, false, false, false, false, false, false, false, false, false, false, false, false] (v := (.int .u32 a.dst)) hHeld rfl (by kernel_rfl) (by kernel_rfl) (by kernel_rfl) (by kernel_rfl) O8_s O8_f8 O8_c8 (by kernel_rfl) (fun _ _ _ h => h) (fun W hS => run_load_one (T := 22) (s := 81) (by kernel_rfl) (by kernel_rfl) (by kernel_rfl) hS.tri.a.c1) ?_
    try simp only [Act.put, List.setIfInBounds_toArray, List.set_cons_zero, List.set_cons_succ]
    refine take_bare (i := 9) (some 83) (Go.Op.binOp Go.BinOp.eql 22 (Go.Operand.tmp 80) (Go.Operand.tmp 82) 22) 4 #[true, true, true, true, true, true, true, true, true, true, false, false, false, false, false, false, false, false, false, false, false, false] (v := ?_) hHeld rfl (by kernel_rfl) (by kernel_rfl) (by kernel_rfl) (by kernel_rfl) O8_s O8_f9 O8_c9 (by kernel_rfl) (fun _ _ _ h => h) ?hyb9_9 ?_
    case hyb9_9 => intro w hSw; clear hSw; go_simp; try with_reducible rfl
    try simp only [Act.put, List.setIfInBounds_toArray, List.set_cons_zero, List.set_cons_succ]
    refine take_bare (i := 10) (some 84) (Go.Op.pick (Go.Operand.tmp 78) (Go.Operand.tmp 83) (Go.Operand.const (Go.Value.bool false))) 4 #[true, true, true, true, true, true, true, true, true, true, true, false, false, false, false, false, false, false, false, false, false, false] (v := ?_) hHeld rfl (by kernel_rfl) (by kernel_rfl) (by kernel_rfl) (by kernel_rfl) O8_s O8_f10 O8_c10 (by kernel_rfl) (fun _ _ _ h => h) ?hyb10_10 ?_
    case hyb10_10 => intro w hSw; clear hSw; go_simp; try with_reducible rfl
    try simp only [Act.put, List.setIfInBounds_toArray, List.set_cons_zero, List.set_cons_succ]
    refine take_bare (i := 11) (some 85) (Go.Op.move (Go.Operand.tmp 84)) 4 #[true, true, true, true, true, true, true, true, true, true, true, true, false, false, false, false, false, false, false, false, false, false] (v := ?_) hHeld rfl (by kernel_rfl) (by kernel_rfl) (by kernel_rfl) (by kernel_rfl) O8_s O8_f11 O8_c11 (by kernel_rfl) (fun _ _ _ h => h) ?hyb11_11 ?_
    case hyb11_11 => intro w hSw; clear hSw; go_simp; try with_reducible rfl
    try simp only [Act.put, List.setIfInBounds_toArray, List.set_cons_zero, List.set_cons_succ]
    refine take_bare (i := 12) (some 86) (Go.Op.fieldAddr 25 (Go.Operand.tmp 10) 3) 0 #[true, true, true, true, true, true, true, true, true, true, true, true, true, false, false, false, false, false, false, false, false, false] (v := ?_) hHeld rfl (by kernel_rfl) (by kernel_rfl) (by kernel_rfl) (by kernel_rfl) O8_s O8_f12 O8_c12 (by kernel_rfl) (fun _ _ _ h => h) ?hyb12_12 ?_
    case hyb12_12 => intro w hSw; clear hSw; go_simp; try with_reducible rfl
    try simp only [Act.put, List.setIfInBounds_toArray, List.set_cons_zero, List.set_cons_succ]
    refine take_bare (i := 13) (some 87) (Go.Op.load 23 (Go.Operand.tmp 86)) 23 #[true, true, true, true, true, true, true, true, true, true, true, true, true, true, false, false, false, false, false, false, false, false] (v := (.int .u16 a.sp)) hHeld rfl (by kernel_rfl) (by kernel_rfl) (by kernel_rfl) (by kernel_rfl) O8_s O8_f13 O8_c13 (by kernel_rfl) (fun _ _ _ h => h) (fun W hS => run_load_one (T := 23) (s := 86) (by kernel_rfl) (by kernel_rfl) (by kernel_rfl) hS.o.c3) ?_
    try simp only [Act.put, List.setIfInBounds_toArray, List.set_cons_zero, List.set_cons_succ]
    refine take_bare (i := 14) (some 88) (Go.Op.fieldAddr 25 (Go.Operand.tmp 3) 2) 0 #[true, true, true, true, true, true, true, true, true, true, true, true, true, true, true, false, false, false, false, false, false, false] (v := ?_) hHeld rfl (by kernel_rfl) (by kernel_rfl) (by kernel_rfl) (by kernel_rfl) O8_s O8_f14 O8_c14 (by kernel_rfl) (fun _ _ _ h => h) ?hyb14_14 ?_
    case hyb14_14 => intro w hSw; clear hSw; go_simp; try with_reducible rfl
    try simp only [Act.put, List.setIfInBounds_toArray, List.set_cons_zero, List.set_cons_succ]
    refine take_bare (i := 15) (some 89) (Go.Op.load 23 (Go.Operand.tmp 88)) 23 #[true, true, true, true, true, true, true, true, true, true, true, true, true, true, true, true, false, false, false, false, false, false] (v := (.int .u16 a.sp)) hHeld rfl (by kernel_rfl) (by kernel_rfl) (by kernel_rfl) (by kernel_rfl) O8_s O8_f15 O8_c15 (by kernel_rfl) (fun _ _ _ h => h) (fun W hS => run_load_one (T := 23) (s := 88) (by kernel_rfl) (by kernel_rfl) (by kernel_rfl) hS.tri.a.c2) ?_
    try simp only [Act.put, List.setIfInBounds_toArray, List.set_cons_zero, List.set_cons_succ]
    refine take_bare (i := 16) (some 90) (Go.Op.binOp Go.BinOp.eql 23 (Go.Operand.tmp 87) (Go.Operand.tmp 89) 23) 4 #[true, true, true, true, true, true, true, true, true, true, true, true, true, true, true, true, true, false, false, false, false, false] (v := ?_) hHeld rfl (by kernel_rfl) (by kernel_rfl) (by kernel_rfl) (by kernel_rfl) O8_s O8_f16 O8_c16 (by kernel_rfl) (fun _ _ _ h => h) ?hyb16_16 ?_
    case hyb16_16 => intro w hSw; clear hSw; go_simp; try with_reducible rfl
    try simp only [Act.put, List.setIfInBounds_toArray, List.set_cons_zero, List.set_cons_succ]
    refine take_bare (i := 17) (some 91) (Go.Op.pick (Go.Operand.tmp 85) (Go.Operand.tmp 90) (Go.Operand.const (Go.Value.bool false))) 4 #[true, true, true, true, true, true, true, true, true, true, true, true, true, true, true, true, true, true, false, false, false, false] (v := ?_) hHeld rfl (by kernel_rfl) (by kernel_rfl) (by kernel_rfl) (by kernel_rfl) O8_s O8_f17 O8_c17 (by kernel_rfl) (fun _ _ _ h => h) ?hyb17_17 ?_
    case hyb17_17 => intro w hSw; clear hSw; go_simp; try with_reducible rfl
    try simp only [Act.put, List.setIfInBounds_toArray, List.set_cons_zero, List.set_cons_succ]
    refine take_bare (i := 18) (some 92) (Go.Op.move (Go.Operand.tmp 91)) 4 #[true, true, true, true, true, true, true, true, true, true, true, true, true, true, true, true, true, true, true, false, false, false] (v := ?_) hHeld rfl (by kernel_rfl) (by kernel_rfl) (by kernel_rfl) (by kernel_rfl) O8_s O8_f18 O8_c18 (by kernel_rfl) (fun _ _ _ h => h) ?hyb18_18 ?_
    case hyb18_18 => intro w hSw; clear hSw; go_simp; try with_reducible rfl
    try simp only [Act.put, List.setIfInBounds_toArray, List.set_cons_zero, List.set_cons_succ]
    refine step_bare (i := 19) (some 93) (Go.Op.call { callee := Go.Callee.value (Go.Operand.func 8), args := #[], argTypes := #[] }) 4 #[true, true, true, true, true, true, true, true, true, true, true, true, true, true, true, true, true, true, true, true, false, false] O8_r19 rfl (by kernel_rfl) (by kernel_rfl) (by kernel_rfl) (by kernel_rfl) (by kernel_rfl) (fun K hK => ?_)
    go_simp
    (with_reducible refine (wakes_any _ (hHeld.tri.tab ht)).mono ?_)
    rintro e w39 ⟨rfl, hB39⟩
    go_simp
    refine hK.out _ _ ?_ (fun hHeld => ?_)
    · exact hHeld.next hB39
    clear hK K
    try simp only [Act.put, List.setIfInBounds_toArray, List.set_cons_zero, List.set_cons_succ]
    refine take_bare (i := 20) (some 94) (Go.Op.pick (Go.Operand.tmp 92) (Go.Operand.tmp 93) (Go.Operand.const (Go.Value.bool false))) 4 #[true, true, true, true, true, true, true, true, true, true, true, true, true, true, true, true, true, true, true, true, true, false] (v := ?_) hHeld rfl (by kernel_rfl) (by kernel_rfl) (by kernel_rfl) (by kernel_rfl) O8_s O8_f20 O8_c20 (by kernel_rfl) (fun _ _ _ h => h) ?hyb20_19 ?_
    case hyb20_19 => intro w hSw; clear hSw; go_simp; try with_reducible rfl
    try simp only [Act.put, List.setIfInBounds_toArray, List.set_cons_zero, List.set_cons_succ]
    refine take_bare (i := 21) (some 6) (Go.Op.assign (Go.Operand.tmp 94)) 4 #[true, true, true, true, true, true, true, true, true, true, true, true, true, true, true, true, true, true, true, true, true, true] (v := ?_) hHeld rfl (by kernel_rfl) (by kernel_rfl) (by kernel_rfl) (by kernel_rfl) O8_s O8_f21 O8_c21 (by kernel_rfl) (fun _ _ _ h => h) ?hyb21_20 ?_
    case hyb21_20 => intro w hSw; clear hSw; go_simp; try with_reducible rfl
    try simp only [Act.put, List.setIfInBounds_toArray, List.set_cons_zero, List.set_cons_succ]
    refine wpAnyH_done (by kernel_rfl) ?_ _
    try simp only [Act.put, List.setIfInBounds_toArray, List.set_cons_zero, List.set_cons_succ]
    go_wp2
    go_ret
    exact ⟨rfl, hHeld.tri.below⟩
  · skip
    refine (back_any a _).mono ?_
    rintro e wo ⟨rfl, hBo⟩
    have hTo := hT8.next hBo
    go_wp2_with fail
    refine region_as (R := O8) (by kernel_rfl) ?_
    refine wp_region_held_drew (S := Tri2 w a b c wo.heap.size) (by kernel_rfl) ?_ (fun hHeld => ?_)
    · exact (Tri2.mk (hTo.alloc _) (Bt.new wo (backT a))).drew
    refine listed_as (L := #[false, false, false, false, false, false, false, false, false, false, false, false, false, false, false, false, false, false, false, false, false, false]) (by kernel_rfl) ?_
    refine take_bare (i := 0) (some 74) (Go.Op.load 25 (Go.Operand.tmp 10)) 25 #[true, false, false, false, false, false, false, false, false, false, false, false, false, false, false, false, false, false, false, false, false, false] (v := (tv (backT a))) hHeld rfl (by kernel_rfl) (by kernel_rfl) (by kernel_rfl) (by kernel_rfl) O8_s O8_f0 O8_c0 (by kernel_rfl) (fun _ _ _ h => h) (fun W hS => run_load_bt (s := 10) (by kernel_rfl) (by kernel_rfl) hS.o) ?_
    try simp only [Act.put, List.setIfInBounds_toArray, List.set_cons_zero, List.set_cons_succ]
    refine take_bare (i := 2) (some 76) (Go.Op.load 25 (Go.Operand.tmp 3)) 25 #[true, false, true, false, false, false, false, false, false, false, false, false, false, false, false, false, false, false, false, false, false, false] (v := (tv a)) hHeld rfl (by kernel_rfl) (by kernel_rfl) (by kernel_rfl) (by kernel_rfl) O8_s O8_f2 O8_c2 (by kernel_rfl) (fun _ _ _ h => h) (fun W hS => run_load_bt (s := 3) (by kernel_rfl) (by kernel_rfl) hS.tri.a) ?_
    try simp only [Act.put, List.setIfInBounds_toArray, List.set_cons_zero, List.set_cons_succ]
    refine step_bare (i := 1) (some 75) (Go.Op.call { callee := Go.Callee.value (Go.Operand.func 17), args := #[Go.Operand.tmp 74], argTypes := #[25] }) 25 #[true, true, true, false, false, false, false, false, false, false, false, false, false, false, false, false, false, false, false, false, false, false] O8_r1 rfl (by kernel_rfl) (by kernel_rfl) (by kernel_rfl) (by kernel_rfl) (by kernel_rfl) (fun K hK => ?_)
    go_simp
    (with_reducible refine (back_any (backT a) _).mono ?_)
    rintro e w21 ⟨rfl, hB21⟩
    go_simp
    refine hK.out _ _ ?_ (fun hHeld => ?_)
    · exact hHeld.next hB21
    clear hK K
    try simp only [Act.put, List.setIfInBounds_toArray, List.set_cons_zero, List.set_cons_succ]
    refine take_bare (i := 3) (some 77) (Go.Op.binOp Go.BinOp.eql 25 (Go.Operand.tmp 75) (Go.Operand.tmp 76) 25) 4 #[true, true, true, true, false, false, false, false, false, false, false, false, false, false, false, false, false, false, false, false, false, false] (v := (.bool true)) hHeld rfl (by kernel_rfl) (by kernel_rfl) (by kernel_rfl) (by kernel_rfl) O8_s O8_f3 O8_c3 (by kernel_rfl) (fun _ _ _ h => h) (fun W hS => run_eq25 (s := 75) (t := 76) (backT (backT a)) a true (by kernel_rfl) (by kernel_rfl) (by kernel_rfl) (decide_eq_true (backT_backT a)) W) ?_
    try simp only [Act.put, List.setIfInBounds_toArray, List.set_cons_zero, List.set_cons_succ]
    refine take_bare (i := 4) (some 78) (Go.Op.move (Go.Operand.tmp 77)) 4 #[true, true, true, true, true, false, false, false, false, false, false, false, false, false, false, false, false, false, false, false, false, false] (v := ?_) hHeld rfl (by kernel_rfl) (by kernel_rfl) (by kernel_rfl) (by kernel_rfl) O8_s O8_f4 O8_c4 (by kernel_rfl) (fun _ _ _ h => h) ?hyb4_4 ?_
    case hyb4_4 => intro w hSw; clear hSw; go_simp; try with_reducible rfl
    try simp only [Act.put, List.setIfInBounds_toArray, List.set_cons_zero, List.set_cons_succ]
    refine take_bare (i := 5) (some 79) (Go.Op.fieldAddr 25 (Go.Operand.tmp 10) 0) 0 #[true, true, true, true, true, true, false, false, false, false, false, false, false, false, false, false, false, false, false, false, false, false] (v := ?_) hHeld rfl (by kernel_rfl) (by kernel_rfl) (by kernel_rfl) (by kernel_rfl) O8_s O8_f5 O8_c5 (by kernel_rfl) (fun _ _ _ h => h) ?hyb5_5 ?_
    case hyb5_5 => intro w hSw; clear hSw; go_simp; try with_reducible rfl
    try simp only [Act.put, List.setIfInBounds_toArray, List.set_cons_zero, List.set_cons_succ]
    refine take_bare (i := 6) (some 80) (Go.Op.load 22 (Go.Operand.tmp 79)) 22 #[true, true, true, true, true, true, true, false, false, false, false, false, false, false, false, false, false, false, false, false, false, false] (v := (.int .u32 a.dst)) hHeld rfl (by kernel_rfl) (by kernel_rfl) (by kernel_rfl) (by kernel_rfl) O8_s O8_f6 O8_c6 (by kernel_rfl) (fun _ _ _ h => h) (fun W hS => run_load_one (T := 22) (s := 79) (by kernel_rfl) (by kernel_rfl) (by kernel_rfl) hS.o.c0) ?_
    try simp only [Act.put, List.setIfInBounds_toArray, List.set_cons_zero, List.set_cons_succ]
    refine take_bare (i := 7) (some 81) (Go.Op.fieldAddr 25 (Go.Operand.tmp 3) 1) 0 #[true, true, true, true, true, true, true, true, false, false, false, false, false, false, false, false, false, false, false, false, false, false] (v := ?_) hHeld rfl (by kernel_rfl) (by kernel_rfl) (by kernel_rfl) (by kernel_rfl) O8_s O8_f7 O8_c7 (by kernel_rfl) (fun _ _ _ h => h) ?hyb7_7 ?_
    case hyb7_7 => intro w hSw; clear hSw; go_simp; try with_reducible rfl
    try simp only [Act.put, List.setIfInBounds_toArray, List.set_cons_zero, List.set_cons_succ]
    refine take_bare (i := 8) (some 82) (Go.Op.load 22 (Go.Operand.tmp 81)) 22 #[true, true, true, true, true, true, true, true, true, false, false, false, false, false, false, false, false, false, false, false, false, false] (v := (.int .u32 a.dst)) hHeld rfl (by kernel_rfl) (by kernel_rfl) (by kernel_rfl) (by kernel_rfl) O8_s O8_f8 O8_c8 (by kernel_rfl) (fun _ _ _ h => h) (fun W hS => run_load_one (T := 22) (s := 81) (by kernel_rfl) (by kernel_rfl) (by kernel_rfl) hS.tri.a.c1) ?_
    try simp only [Act.put, List.setIfInBounds_toArray, List.set_cons_zero, List.set_cons_succ]
    refine take_bare (i := 9) (some 83) (Go.Op.binOp Go.BinOp.eql 22 (Go.Operand.tmp 80) (Go.Operand.tmp 82) 22) 4 #[true, true, true, true, true, true, true, true, true, true, false, false, false, false, false, false, false, false, false, false, false, false] (v := ?_) hHeld rfl (by kernel_rfl) (by kernel_rfl) (by kernel_rfl) (by kernel_rfl) O8_s O8_f9 O8_c9 (by kernel_rfl) (fun _ _ _ h => h) ?hyb9_9 ?_
    case hyb9_9 => intro w hSw; clear hSw; go_simp; try with_reducible rfl
    try simp only [Act.put, List.setIfInBounds_toArray, List.set_cons_zero, List.set_cons_succ]
    refine take_bare (i := 10) (some 84) (Go.Op.pick (Go.Operand.tmp 78) (Go.Operand.tmp 83) (Go.Operand.const (Go.Value.bool false))) 4 #[true, true, true, true, true, true, true, true, true, true, true, false, false, false, false, false, false, false, false, false, false, false] (v := ?_) hHeld rfl (by kernel_rfl) (by kernel_rfl) (by kernel_rfl) (by kernel_rfl) O8_s O8_f10 O8_c10 (by kernel_rfl) (fun _ _ _ h => h) ?hyb10_10 ?_
    case hyb10_10 => intro w hSw; clear hSw; go_simp; try with_reducible rfl
    try simp only [Act.put, List.setIfInBounds_toArray, List.set_cons_zero, List.set_cons_succ]
    refine take_bare (i := 11) (some 85) (Go.Op.move (Go.Operand.tmp 84)) 4 #[true, true, true, true, true, true, true, true, true, true, true, true, false, false, false, false, false, false, false, false, false, false] (v := ?_) hHeld rfl (by kernel_rfl) (by kernel_rfl) (by kernel_rfl) (by kernel_rfl) O8_s O8_f11 O8_c11 (by kernel_rfl) (fun _ _ _ h => h) ?hyb11_11 ?_
    case hyb11_11 => intro w hSw; clear hSw; go_simp; try with_reducible rfl
    try simp only [Act.put, List.setIfInBounds_toArray, List.set_cons_zero, List.set_cons_succ]
    refine take_bare (i := 12) (some 86) (Go.Op.fieldAddr 25 (Go.Operand.tmp 10) 3) 0 #[true, true, true, true, true, true, true, true, true, true, true, true, true, false, false, false, false, false, false, false, false, false] (v := ?_) hHeld rfl (by kernel_rfl) (by kernel_rfl) (by kernel_rfl) (by kernel_rfl) O8_s O8_f12 O8_c12 (by kernel_rfl) (fun _ _ _ h => h) ?hyb12_12 ?_
    case hyb12_12 => intro w hSw; clear hSw; go_simp; try with_reducible rfl
    try simp only [Act.put, List.setIfInBounds_toArray, List.set_cons_zero, List.set_cons_succ]
    refine take_bare (i := 13) (some 87) (Go.Op.load 23 (Go.Operand.tmp 86)) 23 #[true, true, true, true, true, true, true, true, true, true, true, true, true, true, false, false, false, false, false, false, false, false] (v := (.int .u16 a.sp)) hHeld rfl (by kernel_rfl) (by kernel_rfl) (by kernel_rfl) (by kernel_rfl) O8_s O8_f13 O8_c13 (by kernel_rfl) (fun _ _ _ h => h) (fun W hS => run_load_one (T := 23) (s := 86) (by kernel_rfl) (by kernel_rfl) (by kernel_rfl) hS.o.c3) ?_
    try simp only [Act.put, List.setIfInBounds_toArray, List.set_cons_zero, List.set_cons_succ]
    refine take_bare (i := 14) (some 88) (Go.Op.fieldAddr 25 (Go.Operand.tmp 3) 2) 0 #[true, true, true, true, true, true, true, true, true, true, true, true, true, true, true, false, false, false, false, false, false, false] (v := ?_) hHeld rfl (by kernel_rfl) (by kernel_rfl) (by kernel_rfl) (by kernel_rfl) O8_s O8_f14 O8_c14 (by kernel_rfl) (fun _ _ _ h => h) ?hyb14_14 ?_
    case hyb14_14 => intro w hSw; clear hSw; go_simp; try with_reducible rfl
    try simp only [Act.put, List.setIfInBounds_toArray, List.set_cons_zero, List.set_cons_succ]
    refine take_bare (i := 15) (some 89) (Go.Op.load 23 (Go.Operand.tmp 88)) 23 #[true, true, true, true, true, true, true, true, true, true, true, true, true, true, true, true, false, false, false, false, false, false] (v := (.int .u16 a.sp)) hHeld rfl (by kernel_rfl) (by kernel_rfl) (by kernel_rfl) (by kernel_rfl) O8_s O8_f15 O8_c15 (by kernel_rfl) (fun _ _ _ h => h) (fun W hS => run_load_one (T := 23) (s := 88) (by kernel_rfl) (by kernel_rfl) (by kernel_rfl) hS.tri.a.c2) ?_
    try simp only [Act.put, List.setIfInBounds_toArray, List.set_cons_zero, List.set_cons_succ]
    refine take_bare (i := 16) (some 90) (Go.Op.binOp Go.BinOp.eql 23 (Go.Operand.tmp 87) (Go.Operand.tmp 89) 23) 4 #[true, true, true, true, true, true, true, true, true, true, true, true, true, true, true, true, true, false, false, false, false, false] (v := ?_) hHeld rfl (by kernel_rfl) (by kernel_rfl) (by kernel_rfl) (by kernel_rfl) O8_s O8_f16 O8_c16 (by kernel_rfl) (fun _ _ _ h => h) ?hyb16_16 ?_
    case hyb16_16 => intro w hSw; clear hSw; go_simp; try with_reducible rfl
    try simp only [Act.put, List.setIfInBounds_toArray, List.set_cons_zero, List.set_cons_succ]
    refine take_bare (i := 17) (some 91) (Go.Op.pick (Go.Operand.tmp 85) (Go.Operand.tmp 90) (Go.Operand.const (Go.Value.bool false))) 4 #[true, true, true, true, true, true, true, true, true, true, true, true, true, true, true, true, true, true, false, false, false, false] (v := ?_) hHeld rfl (by kernel_rfl) (by kernel_rfl) (by kernel_rfl) (by kernel_rfl) O8_s O8_f17 O8_c17 (by kernel_rfl) (fun _ _ _ h => h) ?hyb17_17 ?_
    case hyb17_17 => intro w hSw; clear hSw; go_simp; try with_reducible rfl
    try simp only [Act.put, List.setIfInBounds_toArray, List.set_cons_zero, List.set_cons_succ]
    refine take_bare (i := 18) (some 92) (Go.Op.move (Go.Operand.tmp 91)) 4 #[true, true, true, true, true, true, true, true, true, true, true, true, true, true, true, true, true, true, true, false, false, false] (v := ?_) hHeld rfl (by kernel_rfl) (by kernel_rfl) (by kernel_rfl) (by kernel_rfl) O8_s O8_f18 O8_c18 (by kernel_rfl) (fun _ _ _ h => h) ?hyb18_18 ?_
    case hyb18_18 => intro w hSw; clear hSw; go_simp; try with_reducible rfl
    try simp only [Act.put, List.setIfInBounds_toArray, List.set_cons_zero, List.set_cons_succ]
    refine step_bare (i := 19) (some 93) (Go.Op.call { callee := Go.Callee.value (Go.Operand.func 8), args := #[], argTypes := #[] }) 4 #[true, true, true, true, true, true, true, true, true, true, true, true, true, true, true, true, true, true, true, true, false, false] O8_r19 rfl (by kernel_rfl) (by kernel_rfl) (by kernel_rfl) (by kernel_rfl) (by kernel_rfl) (fun K hK => ?_)
    go_simp
    (with_reducible refine (wakes_any _ (hHeld.tri.tab ht)).mono ?_)
    rintro e w39 ⟨rfl, hB39⟩
    go_simp
    refine hK.out _ _ ?_ (fun hHeld => ?_)
    · exact hHeld.next hB39
    clear hK K
    try simp only [Act.put, List.setIfInBounds_toArray, List.set_cons_zero, List.set_cons_succ]
    refine take_bare (i := 20) (some 94) (Go.Op.pick (Go.Operand.tmp 92) (Go.Operand.tmp 93) (Go.Operand.const (Go.Value.bool false))) 4 #[true, true, true, true, true, true, true, true, true, true, true, true, true, true, true, true, true, true, true, true, true, false] (v := ?_) hHeld rfl (by kernel_rfl) (by kernel_rfl) (by kernel_rfl) (by kernel_rfl) O8_s O8_f20 O8_c20 (by kernel_rfl) (fun _ _ _ h => h) ?hyb20_19 ?_
    case hyb20_19 => intro w hSw; clear hSw; go_simp; try with_reducible rfl
    try simp only [Act.put, List.setIfInBounds_toArray, List.set_cons_zero, List.set_cons_succ]
    refine take_bare (i := 21) (some 6) (Go.Op.assign (Go.Operand.tmp 94)) 4 #[true, true, true, true, true, true, true, true, true, true, true, true, true, true, true, true, true, true, true, true, true, true] (v := ?_) hHeld rfl (by kernel_rfl) (by kernel_rfl) (by kernel_rfl) (by kernel_rfl) O8_s O8_f21 O8_c21 (by kernel_rfl) (fun _ _ _ h => h) ?hyb21_20 ?_
    case hyb21_20 => intro w hSw; clear hSw; go_simp; try with_reducible rfl
    try simp only [Act.put, List.setIfInBounds_toArray, List.set_cons_zero, List.set_cons_succ]
    refine wpAnyH_done (by kernel_rfl) ?_ _
    try simp only [Act.put, List.setIfInBounds_toArray, List.set_cons_zero, List.set_cons_succ]
    go_wp2
    go_ret
    exact ⟨rfl, hHeld.tri.below⟩
end Go.Proofs.YtdlpkphbgbffpaaDoor
