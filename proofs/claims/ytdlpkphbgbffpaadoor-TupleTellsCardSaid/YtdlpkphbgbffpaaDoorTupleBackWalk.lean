/-
  The walk of TupleBack.
-/
import Derived.Test.YtdlpkphbgbffpaaDoorBackLaw
import Derived.Test.YtdlpkphbgbffpaaDoorTupleTextsWalk
import Derived.Test.YtdlpkphbgbffpaaDoorTupleOrderWalk
namespace Go.Proofs.YtdlpkphbgbffpaaDoor
open Go Go.RowKit Go.Shelf
set_option linter.unusedSimpArgs false
set_option linter.unusedVariables false
attribute [local go_sem] Oper.semAt_some
/-- What TupleBack holds while it walks. -/
structure Bk (w : World) (a b : Tup) (gt : Nat) (t : Tup) (A B C : Option Addr) (c d n e : Nat) (xs ys rs : List Int) (W : World) : Prop where
  duo : Duo w a b W
  t : Bt W gt t
  x : Sl W W.heap.size A 12 c (xs.map vb)
  y : Sl W W.heap.size B 12 d (ys.map vb)
  r : Sl W w.heap.size C n e (rs.map vb)
section
variable {w W W' : World} {a b t : Tup} {gt : Nat} {A B C : Option Addr} {c d n e : Nat} {xs ys rs : List Int}
theorem Bk.next (h : Bk w a b gt t A B C c d n e xs ys rs W) (hb : Below W.heap.size W W') : Bk w a b gt t A B C c d n e xs ys rs W' :=
  ⟨h.duo.next hb, h.t.below hb h.t.lt, (h.x.below hb).more hb.size, (h.y.below hb).more hb.size, h.r.below (hb.mono h.duo.below.size)⟩
theorem Bk.alloc (h : Bk w a b gt t A B C c d n e xs ys rs W) (o : Obj) : Bk w a b gt t A B C c d n e xs ys rs (W.alloc o) := h.next ((Below.refl _ W).alloc (Nat.le_refl _) o)
theorem Bk.drew (h : Bk w a b gt t A B C c d n e xs ys rs W) : Bk w a b gt t A B C c d n e xs ys rs W.drew := h.next (Below.refl _ W).drew
end
theorem run_neq25 {a : Act} {s t : Tmp} {o : Oper} (x y : Tup) (v : Bool) (ho : o.op = .binOp .neq 25 (.tmp s) (.tmp t) 25) (hs : a.tmps.getD s undef = tv x) (ht : a.tmps.getD t undef = tv y) (hv : (!decide (x = y)) = v) (W : World) : (execOp a.eval o).run Tryd.prog W = .ok (.value (.bool v)) W := by
  have hs' : a.tmps[s]?.getD undef = tv x := by simpa using hs
  have ht' : a.tmps[t]?.getD undef = tv y := by simpa using ht
  have h := neq25 x y W
  have hg : (eqGuard .neq 25 (.tmp s) (.tmp t) (tv x) (tv y)).run Tryd.prog W = .ok () W := run_eqGuard_agg W .neq 25 _ _ _ _ (by kernel_rfl)
  rw [hv] at h
  unfold execOp
  simp [ho, Act.eval, hs', ht', h, hg, Sem.run_bind]
theorem run_neq_same {a : Act} {s t : Tmp} {o : Oper} (v : Bool) (ho : o.op = .binOp .neq 4 (.tmp s) (.tmp t) 4) (hs : a.tmps.getD s undef = .bool v) (ht : a.tmps.getD t undef = .bool v) (W : World) : (execOp a.eval o).run Tryd.prog W = .ok (.value (.bool false)) W := by
  have hs' : a.tmps[s]?.getD undef = .bool v := by simpa using hs
  have ht' : a.tmps[t]?.getD undef = .bool v := by simpa using ht
  unfold execOp
  simp [ho, Act.eval, hs', ht', go_sem]
/-- The operations of TupleBack's statements that draw their order. -/
noncomputable def B3 : Array Oper := opsOf Tryd.f4 3
noncomputable def B5 : Array Oper := opsOf Tryd.f4 5
noncomputable def B10 : Array Oper := opsOf Tryd.f4 10
--FACTS
theorem B3_s : Region.noSelect B3 = true := by kernel_rfl
theorem B3_f0 : Region.free .any B3 #[false, false, false, false, false, false] 0 = true := by kernel_rfl
theorem B3_c0 : (Region.ready .any B3 #[false, false, false, false, false, false]).contains 0 = true := by kernel_rfl
theorem B3_f2 : Region.free .any B3 #[true, false, false, false, false, false] 2 = true := by kernel_rfl
theorem B3_c2 : (Region.ready .any B3 #[true, false, false, false, false, false]).contains 2 = true := by kernel_rfl
theorem B3_r1 : Region.ready .any B3 #[true, false, true, false, false, false] = [1] := by kernel_rfl
theorem B3_r3 : Region.ready .any B3 #[true, true, true, false, false, false] = [3] := by kernel_rfl
theorem B3_f4 : Region.free .any B3 #[true, true, true, true, false, false] 4 = true := by kernel_rfl
theorem B3_c4 : (Region.ready .any B3 #[true, true, true, true, false, false]).contains 4 = true := by kernel_rfl
theorem B3_f5 : Region.free .any B3 #[true, true, true, true, true, false] 5 = true := by kernel_rfl
theorem B3_c5 : (Region.ready .any B3 #[true, true, true, true, true, false]).contains 5 = true := by kernel_rfl
theorem B5_s : Region.noSelect B5 = true := by kernel_rfl
theorem B5_f0 : Region.free .any B5 #[false, false, false, false, false, false, false, false, false, false, false, false, false, false, false, false, false, false, false, false, false, false, false] 0 = true := by kernel_rfl
theorem B5_c0 : (Region.ready .any B5 #[false, false, false, false, false, false, false, false, false, false, false, false, false, false, false, false, false, false, false, false, false, false, false]).contains 0 = true := by kernel_rfl
theorem B5_f1 : Region.free .any B5 #[true, false, false, false, false, false, false, false, false, false, false, false, false, false, false, false, false, false, false, false, false, false, false] 1 = true := by kernel_rfl
theorem B5_c1 : (Region.ready .any B5 #[true, false, false, false, false, false, false, false, false, false, false, false, false, false, false, false, false, false, false, false, false, false, false]).contains 1 = true := by kernel_rfl
theorem B5_f2 : Region.free .any B5 #[true, true, false, false, false, false, false, false, false, false, false, false, false, false, false, false, false, false, false, false, false, false, false] 2 = true := by kernel_rfl
theorem B5_c2 : (Region.ready .any B5 #[true, true, false, false, false, false, false, false, false, false, false, false, false, false, false, false, false, false, false, false, false, false, false]).contains 2 = true := by kernel_rfl
theorem B5_f3 : Region.free .any B5 #[true, true, true, false, false, false, false, false, false, false, false, false, false, false, false, false, false, false, false, false, false, false, false] 3 = true := by kernel_rfl
theorem B5_c3 : (Region.ready .any B5 #[true, true, true, false, false, false, false, false, false, false, false, false, false, false, false, false, false, false, false, false, false, false, false]).contains 3 = true := by kernel_rfl
theorem B5_f4 : Region.free .any B5 #[true, true, true, true, false, false, false, false, false, false, false, false, false, false, false, false, false, false, false, false, false, false, false] 4 = true := by kernel_rfl
theorem B5_c4 : (Region.ready .any B5 #[true, true, true, true, false, false, false, false, false, false, false, false, false, false, false, false, false, false, false, false, false, false, false]).contains 4 = true := by kernel_rfl
theorem B5_f5 : Region.free .any B5 #[true, true, true, true, true, false, false, false, false, false, false, false, false, false, false, false, false, false, false, false, false, false, false] 5 = true := by kernel_rfl
theorem B5_c5 : (Region.ready .any B5 #[true, true, true, true, true, false, false, false, false, false, false, false, false, false, false, false, false, false, false, false, false, false, false]).contains 5 = true := by kernel_rfl
theorem B5_f6 : Region.free .any B5 #[true, true, true, true, true, true, false, false, false, false, false, false, false, false, false, false, false, false, false, false, false, false, false] 6 = true := by kernel_rfl
theorem B5_c6 : (Region.ready .any B5 #[true, true, true, true, true, true, false, false, false, false, false, false, false, false, false, false, false, false, false, false, false, false, false]).contains 6 = true := by kernel_rfl
theorem B5_f7 : Region.free .any B5 #[true, true, true, true, true, true, true, false, false, false, false, false, false, false, false, false, false, false, false, false, false, false, false] 7 = true := by kernel_rfl
theorem B5_c7 : (Region.ready .any B5 #[true, true, true, true, true, true, true, false, false, false, false, false, false, false, false, false, false, false, false, false, false, false, false]).contains 7 = true := by kernel_rfl
theorem B5_f8 : Region.free .any B5 #[true, true, true, true, true, true, true, true, false, false, false, false, false, false, false, false, false, false, false, false, false, false, false] 8 = true := by kernel_rfl
theorem B5_c8 : (Region.ready .any B5 #[true, true, true, true, true, true, true, true, false, false, false, false, false, false, false, false, false, false, false, false, false, false, false]).contains 8 = true := by kernel_rfl
theorem B5_f9 : Region.free .any B5 #[true, true, true, true, true, true, true, true, true, false, false, false, false, false, false, false, false, false, false, false, false, false, false] 9 = true := by kernel_rfl
theorem B5_c9 : (Region.ready .any B5 #[true, true, true, true, true, true, true, true, true, false, false, false, false, false, false, false, false, false, false, false, false, false, false]).contains 9 = true := by kernel_rfl
theorem B5_f10 : Region.free .any B5 #[true, true, true, true, true, true, true, true, true, true, false, false, false, false, false, false, false, false, false, false, false, false, false] 10 = true := by kernel_rfl
theorem B5_c10 : (Region.ready .any B5 #[true, true, true, true, true, true, true, true, true, true, false, false, false, false, false, false, false, false, false, false, false, false, false]).contains 10 = true := by kernel_rfl
theorem B5_f11 : Region.free .any B5 #[true, true, true, true, true, true, true, true, true, true, true, false, false, false, false, false, false, false, false, false, false, false, false] 11 = true := by kernel_rfl
theorem B5_c11 : (Region.ready .any B5 #[true, true, true, true, true, true, true, true, true, true, true, false, false, false, false, false, false, false, false, false, false, false, false]).contains 11 = true := by kernel_rfl
theorem B5_f12 : Region.free .any B5 #[true, true, true, true, true, true, true, true, true, true, true, true, false, false, false, false, false, false, false, false, false, false, false] 12 = true := by kernel_rfl
theorem B5_c12 : (Region.ready .any B5 #[true, true, true, true, true, true, true, true, true, true, true, true, false, false, false, false, false, false, false, false, false, false, false]).contains 12 = true := by kernel_rfl
theorem B5_f13 : Region.free .any B5 #[true, true, true, true, true, true, true, true, true, true, true, true, true, false, false, false, false, false, false, false, false, false, false] 13 = true := by kernel_rfl
theorem B5_c13 : (Region.ready .any B5 #[true, true, true, true, true, true, true, true, true, true, true, true, true, false, false, false, false, false, false, false, false, false, false]).contains 13 = true := by kernel_rfl
theorem B5_f14 : Region.free .any B5 #[true, true, true, true, true, true, true, true, true, true, true, true, true, true, false, false, false, false, false, false, false, false, false] 14 = true := by kernel_rfl
theorem B5_c14 : (Region.ready .any B5 #[true, true, true, true, true, true, true, true, true, true, true, true, true, true, false, false, false, false, false, false, false, false, false]).contains 14 = true := by kernel_rfl
theorem B5_f15 : Region.free .any B5 #[true, true, true, true, true, true, true, true, true, true, true, true, true, true, true, false, false, false, false, false, false, false, false] 15 = true := by kernel_rfl
theorem B5_c15 : (Region.ready .any B5 #[true, true, true, true, true, true, true, true, true, true, true, true, true, true, true, false, false, false, false, false, false, false, false]).contains 15 = true := by kernel_rfl
theorem B5_f16 : Region.free .any B5 #[true, true, true, true, true, true, true, true, true, true, true, true, true, true, true, true, false, false, false, false, false, false, false] 16 = true := by kernel_rfl
theorem B5_c16 : (Region.ready .any B5 #[true, true, true, true, true, true, true, true, true, true, true, true, true, true, true, true, false, false, false, false, false, false, false]).contains 16 = true := by kernel_rfl
theorem B5_f17 : Region.free .any B5 #[true, true, true, true, true, true, true, true, true, true, true, true, true, true, true, true, true, false, false, false, false, false, false] 17 = true := by kernel_rfl
theorem B5_c17 : (Region.ready .any B5 #[true, true, true, true, true, true, true, true, true, true, true, true, true, true, true, true, true, false, false, false, false, false, false]).contains 17 = true := by kernel_rfl
theorem B5_f18 : Region.free .any B5 #[true, true, true, true, true, true, true, true, true, true, true, true, true, true, true, true, true, true, false, false, false, false, false] 18 = true := by kernel_rfl
theorem B5_c18 : (Region.ready .any B5 #[true, true, true, true, true, true, true, true, true, true, true, true, true, true, true, true, true, true, false, false, false, false, false]).contains 18 = true := by kernel_rfl
theorem B5_f19 : Region.free .any B5 #[true, true, true, true, true, true, true, true, true, true, true, true, true, true, true, true, true, true, true, false, false, false, false] 19 = true := by kernel_rfl
theorem B5_c19 : (Region.ready .any B5 #[true, true, true, true, true, true, true, true, true, true, true, true, true, true, true, true, true, true, true, false, false, false, false]).contains 19 = true := by kernel_rfl
theorem B5_f20 : Region.free .any B5 #[true, true, true, true, true, true, true, true, true, true, true, true, true, true, true, true, true, true, true, true, false, false, false] 20 = true := by kernel_rfl
theorem B5_c20 : (Region.ready .any B5 #[true, true, true, true, true, true, true, true, true, true, true, true, true, true, true, true, true, true, true, true, false, false, false]).contains 20 = true := by kernel_rfl
theorem B5_f21 : Region.free .any B5 #[true, true, true, true, true, true, true, true, true, true, true, true, true, true, true, true, true, true, true, true, true, false, false] 21 = true := by kernel_rfl
theorem B5_c21 : (Region.ready .any B5 #[true, true, true, true, true, true, true, true, true, true, true, true, true, true, true, true, true, true, true, true, true, false, false]).contains 21 = true := by kernel_rfl
theorem B5_f22 : Region.free .any B5 #[true, true, true, true, true, true, true, true, true, true, true, true, true, true, true, true, true, true, true, true, true, true, false] 22 = true := by kernel_rfl
theorem B5_c22 : (Region.ready .any B5 #[true, true, true, true, true, true, true, true, true, true, true, true, true, true, true, true, true, true, true, true, true, true, false]).contains 22 = true := by kernel_rfl
theorem B10_s : Region.noSelect B10 = true := by kernel_rfl
theorem B10_f0 : Region.free .any B10 #[false, false, false, false, false, false, false, false, false, false, false, false, false, false] 0 = true := by kernel_rfl
theorem B10_c0 : (Region.ready .any B10 #[false, false, false, false, false, false, false, false, false, false, false, false, false, false]).contains 0 = true := by kernel_rfl
theorem B10_f1 : Region.free .any B10 #[true, false, false, false, false, false, false, false, false, false, false, false, false, false] 1 = true := by kernel_rfl
theorem B10_c1 : (Region.ready .any B10 #[true, false, false, false, false, false, false, false, false, false, false, false, false, false]).contains 1 = true := by kernel_rfl
theorem B10_f2 : Region.free .any B10 #[true, true, false, false, false, false, false, false, false, false, false, false, false, false] 2 = true := by kernel_rfl
theorem B10_c2 : (Region.ready .any B10 #[true, true, false, false, false, false, false, false, false, false, false, false, false, false]).contains 2 = true := by kernel_rfl
theorem B10_f3 : Region.free .any B10 #[true, true, true, false, false, false, false, false, false, false, false, false, false, false] 3 = true := by kernel_rfl
theorem B10_c3 : (Region.ready .any B10 #[true, true, true, false, false, false, false, false, false, false, false, false, false, false]).contains 3 = true := by kernel_rfl
theorem B10_f6 : Region.free .any B10 #[true, true, true, true, false, false, false, false, false, false, false, false, false, false] 6 = true := by kernel_rfl
theorem B10_c6 : (Region.ready .any B10 #[true, true, true, true, false, false, false, false, false, false, false, false, false, false]).contains 6 = true := by kernel_rfl
theorem B10_f7 : Region.free .any B10 #[true, true, true, true, false, false, true, false, false, false, false, false, false, false] 7 = true := by kernel_rfl
theorem B10_c7 : (Region.ready .any B10 #[true, true, true, true, false, false, true, false, false, false, false, false, false, false]).contains 7 = true := by kernel_rfl
theorem B10_r4 : Region.ready .any B10 #[true, true, true, true, false, false, true, true, false, false, false, false, false, false] = [4] := by kernel_rfl
theorem B10_r5 : Region.ready .any B10 #[true, true, true, true, true, false, true, true, false, false, false, false, false, false] = [5] := by kernel_rfl
theorem B10_f8 : Region.free .any B10 #[true, true, true, true, true, true, true, true, false, false, false, false, false, false] 8 = true := by kernel_rfl
theorem B10_c8 : (Region.ready .any B10 #[true, true, true, true, true, true, true, true, false, false, false, false, false, false]).contains 8 = true := by kernel_rfl
theorem B10_f9 : Region.free .any B10 #[true, true, true, true, true, true, true, true, true, false, false, false, false, false] 9 = true := by kernel_rfl
theorem B10_c9 : (Region.ready .any B10 #[true, true, true, true, true, true, true, true, true, false, false, false, false, false]).contains 9 = true := by kernel_rfl
theorem B10_f10 : Region.free .any B10 #[true, true, true, true, true, true, true, true, true, true, false, false, false, false] 10 = true := by kernel_rfl
theorem B10_c10 : (Region.ready .any B10 #[true, true, true, true, true, true, true, true, true, true, false, false, false, false]).contains 10 = true := by kernel_rfl
theorem B10_r11 : Region.ready .any B10 #[true, true, true, true, true, true, true, true, true, true, true, false, false, false] = [11] := by kernel_rfl
theorem B10_f12 : Region.free .any B10 #[true, true, true, true, true, true, true, true, true, true, true, true, false, false] 12 = true := by kernel_rfl
theorem B10_c12 : (Region.ready .any B10 #[true, true, true, true, true, true, true, true, true, true, true, true, false, false]).contains 12 = true := by kernel_rfl
theorem B10_f13 : Region.free .any B10 #[true, true, true, true, true, true, true, true, true, true, true, true, true, false] 13 = true := by kernel_rfl
theorem B10_c13 : (Region.ready .any B10 #[true, true, true, true, true, true, true, true, true, true, true, true, true, false]).contains 13 = true := by kernel_rfl
--ENDFACTS
set_option maxRecDepth 100000 in
set_option maxHeartbeats 8000000 in
theorem tupleBack_any (a b : Tup) (A : Option Addr) (n c : Nat) (rs : List Int) (w : World) (ht : Tab w.heap.size w) (ha : a.In) (hb : b.In) (hs : Sl w w.heap.size A n c (rs.map vb)) (hr : isB8 rs) : Calls Tryd.prog 4 #[tv a, tv b, .slice A n c] w fun e W' => e = .returned (.bool true) ∧ Below w.heap.size w W' := by
  have hlen : rs.length = n := by simpa using hs.1
  have HS := hide hs
  have HL := hide hlen
  clear hs hlen
  go_enter Tryd.func4, Tryd.ntmps4
  by_cases h100 : 100 < n
  · go_wp2_with fail
    have hT : Duo w a b ((w.alloc (.cells #[.int .u32 a.src, .int .u32 a.dst, .int .u16 a.sp, .int .u16 a.dp] 25)).alloc (.cells #[.int .u32 b.src, .int .u32 b.dst, .int .u16 b.sp, .int .u16 b.dp] 25)) := Duo.start w a b
    refine (wakes_any _ (hT.tab ht)).mono ?_
    rintro e w1 ⟨rfl, hB1⟩
    go_wp2
    go_ret
    exact ⟨rfl, (hT.next hB1).below⟩
  · go_wp2_with fail
    obtain ⟨W0, hW0⟩ : ∃ W0, (w.alloc (.cells #[.int .u32 a.src, .int .u32 a.dst, .int .u16 a.sp, .int .u16 a.dp] 25)).alloc (.cells #[.int .u32 b.src, .int .u32 b.dst, .int .u16 b.sp, .int .u16 b.dp] 25) = W0 := ⟨_, rfl⟩
    have hT : Duo w a b W0 := hW0 ▸ Duo.start w a b
    rw [hW0]
    clear hW0
    --R3
    refine region_as (R := B3) (by kernel_rfl) ?_
    refine wp_region_held_drew (S := Duo w a b) (by kernel_rfl) ?_ (fun hHeld => ?_)
    · exact hT.drew
    refine listed_as (L := #[false, false, false, false, false, false]) (by kernel_rfl) ?_
    refine take_bare (i := 0) (some 17) (Go.Op.load 25 (Go.Operand.tmp 3)) 25 #[true, false, false, false, false, false] (v := (tv a)) hHeld rfl (by kernel_rfl) (by kernel_rfl) (by kernel_rfl) (by kernel_rfl) B3_s B3_f0 B3_c0 (by kernel_rfl) (fun _ _ _ h => h) (fun W hS => run_load_bt (s := 3) (by kernel_rfl) (by kernel_rfl) hS.a) ?_
    try simp only [Act.put, List.setIfInBounds_toArray, List.set_cons_zero, List.set_cons_succ]
    refine take_bare (i := 2) (some 19) (Go.Op.load 25 (Go.Operand.tmp 4)) 25 #[true, false, true, false, false, false] (v := (tv b)) hHeld rfl (by kernel_rfl) (by kernel_rfl) (by kernel_rfl) (by kernel_rfl) B3_s B3_f2 B3_c2 (by kernel_rfl) (fun _ _ _ h => h) (fun W hS => run_load_bt (s := 4) (by kernel_rfl) (by kernel_rfl) hS.b) ?_
    try simp only [Act.put, List.setIfInBounds_toArray, List.set_cons_zero, List.set_cons_succ]
    refine step_bare (i := 1) (some 18) (Go.Op.call { callee := Go.Callee.value (Go.Operand.func 11), args := #[Go.Operand.tmp 17], argTypes := #[25] }) 26 #[true, true, true, false, false, false] B3_r1 rfl (by kernel_rfl) (by kernel_rfl) (by kernel_rfl) (by kernel_rfl) (by kernel_rfl) (fun K hK => ?_)
    go_simp
    (with_reducible refine (bytes_any a _ ha).mono ?_)
    rintro e w1 ⟨⟨v1, rfl, hown1⟩, hB1⟩
    obtain ⟨A1, c1, rfl, hs1⟩ := Sl.own hown1
    go_simp
    refine hK.out _ _ ?_ (fun hHeld => ?_)
    · exact hHeld.next hB1
    clear hK K
    try simp only [Act.put, List.setIfInBounds_toArray, List.set_cons_zero, List.set_cons_succ]
    refine step_bare (i := 3) (some 20) (Go.Op.call { callee := Go.Callee.value (Go.Operand.func 11), args := #[Go.Operand.tmp 19], argTypes := #[25] }) 26 #[true, true, true, true, false, false] B3_r3 rfl (by kernel_rfl) (by kernel_rfl) (by kernel_rfl) (by kernel_rfl) (by kernel_rfl) (fun K hK => ?_)
    go_simp
    (with_reducible refine (bytes_any b _ hb).mono ?_)
    rintro e w3 ⟨⟨v3, rfl, hown3⟩, hB3⟩
    obtain ⟨A3, c3, rfl, hs3⟩ := Sl.own hown3
    go_simp
    have hs1' := (hs1.below hB3).more hB3.size
    refine hK.out _ _ ?_ (fun hHeld => ?_)
    · exact hHeld.next hB3
    clear hK K
    try simp only [Act.put, List.setIfInBounds_toArray, List.set_cons_zero, List.set_cons_succ]
    refine take_bare (i := 4) (some 7) (Go.Op.assign (Go.Operand.tmp 18)) 26 #[true, true, true, true, true, false] (v := ?_) hHeld rfl (by kernel_rfl) (by kernel_rfl) (by kernel_rfl) (by kernel_rfl) B3_s B3_f4 B3_c4 (by kernel_rfl) (fun _ _ _ h => h) ?hya4_3 ?_
    case hya4_3 => intro w hSw; clear hSw; go_simp; try with_reducible rfl
    try simp only [Act.put, List.setIfInBounds_toArray, List.set_cons_zero, List.set_cons_succ]
    refine take_bare (i := 5) (some 8) (Go.Op.assign (Go.Operand.tmp 20)) 26 #[true, true, true, true, true, true] (v := ?_) hHeld rfl (by kernel_rfl) (by kernel_rfl) (by kernel_rfl) (by kernel_rfl) B3_s B3_f5 B3_c5 (by kernel_rfl) (fun _ _ _ h => h) ?hya5_4 ?_
    case hya5_4 => intro w hSw; clear hSw; go_simp; try with_reducible rfl
    try simp only [Act.put, List.setIfInBounds_toArray, List.set_cons_zero, List.set_cons_succ]
    refine wpAnyH_done (by kernel_rfl) ?_ _
    try simp only [Act.put, List.setIfInBounds_toArray, List.set_cons_zero, List.set_cons_succ]
    have hk1 := take_bytes ha
    go_wp2_with fail
    refine (take_any A1 12 c1 w3.heap.size (bytesT a) _ hs1' (Nat.le_refl _) (isB8_bytesT a)).mono ?_
    rintro e w4 ⟨rfl, hB4⟩
    rw [hk1]
    have hD4 := hHeld.next hB4
    have hBk : Bk w a b w4.heap.size a A1 A3 A c1 c3 n c (bytesT a) (bytesT b) rs (w4.alloc (.cells #[.int .u32 a.src, .int .u32 a.dst, .int .u16 a.sp, .int .u16 a.dp] 25)) :=
      ⟨hD4.alloc _, Bt.new w4 a, (((hs1'.below hB4).more hB4.size).alloc (Nat.le_refl _) _).more (by simp), (((hs3.below hB4).more hB4.size).alloc (Nat.le_refl _) _).more (by simp), (HS.out.below hD4.below).alloc hD4.below.size _⟩
    go_wp2_with fail
    obtain ⟨gt, hgt⟩ : ∃ g, w4.heap.size = g := ⟨_, rfl⟩
    obtain ⟨w5, hw5⟩ : ∃ W, w4.alloc (.cells #[.int .u32 a.src, .int .u32 a.dst, .int .u16 a.sp, .int .u16 a.dp] 25) = W := ⟨_, rfl⟩
    rw [hw5, hgt] at hBk
    rw [hw5, hgt]
    clear hw5 hgt hD4 hB4 hs1' hs1 hs3 hk1
    refine region_as (R := B5) (by kernel_rfl) ?_
    refine wp_region_held_drew (S := Bk w a b gt a A1 A3 A c1 c3 n c (bytesT a) (bytesT b) rs) (by kernel_rfl) ?_ (fun hHeld => ?_)
    · exact hBk.drew
    refine listed_as (L := #[false, false, false, false, false, false, false, false, false, false, false, false, false, false, false, false, false, false, false, false, false, false, false]) (by kernel_rfl) ?_
    refine take_bare (i := 0) (some 26) (Go.Op.move (Go.Operand.tmp 7)) 26 #[true, false, false, false, false, false, false, false, false, false, false, false, false, false, false, false, false, false, false, false, false, false, false] (v := ?_) hHeld rfl (by kernel_rfl) (by kernel_rfl) (by kernel_rfl) (by kernel_rfl) B5_s B5_f0 B5_c0 (by kernel_rfl) (fun _ _ _ h => h) ?hyb0_1 ?_
    case hyb0_1 => intro w hSw; clear hSw; go_simp; try with_reducible rfl
    try simp only [Act.put, List.setIfInBounds_toArray, List.set_cons_zero, List.set_cons_succ]
    refine take_bare (i := 1) (some 27) (Go.Op.call { callee := Go.Callee.builtin Go.Builtin.len, args := #[Go.Operand.tmp 26], argTypes := #[26] }) 3 #[true, true, false, false, false, false, false, false, false, false, false, false, false, false, false, false, false, false, false, false, false, false, false] (v := ?_) hHeld rfl (by kernel_rfl) (by kernel_rfl) (by kernel_rfl) (by kernel_rfl) B5_s B5_f1 B5_c1 (by kernel_rfl) (fun _ _ _ h => h) ?hyb1_2 ?_
    case hyb1_2 => intro w hSw; clear hSw; go_simp; try with_reducible rfl
    try simp only [Act.put, List.setIfInBounds_toArray, List.set_cons_zero, List.set_cons_succ]
    refine take_bare (i := 2) (some 28) (Go.Op.binOp Go.BinOp.neq 3 (Go.Operand.tmp 27) (Go.Operand.const (Go.Value.int Go.IntKind.i64 12)) 3) 4 #[true, true, true, false, false, false, false, false, false, false, false, false, false, false, false, false, false, false, false, false, false, false, false] (v := ?_) hHeld rfl (by kernel_rfl) (by kernel_rfl) (by kernel_rfl) (by kernel_rfl) B5_s B5_f2 B5_c2 (by kernel_rfl) (fun _ _ _ h => h) ?hyb2_3 ?_
    case hyb2_3 => intro w hSw; clear hSw; go_simp; try with_reducible rfl
    try simp only [Act.put, List.setIfInBounds_toArray, List.set_cons_zero, List.set_cons_succ]
    refine take_bare (i := 3) (some 29) (Go.Op.move (Go.Operand.tmp 28)) 4 #[true, true, true, true, false, false, false, false, false, false, false, false, false, false, false, false, false, false, false, false, false, false, false] (v := ?_) hHeld rfl (by kernel_rfl) (by kernel_rfl) (by kernel_rfl) (by kernel_rfl) B5_s B5_f3 B5_c3 (by kernel_rfl) (fun _ _ _ h => h) ?hyb3_4 ?_
    case hyb3_4 => intro w hSw; clear hSw; go_simp; try with_reducible rfl
    try simp only [Act.put, List.setIfInBounds_toArray, List.set_cons_zero, List.set_cons_succ]
    refine take_bare (i := 4) (some 30) (Go.Op.move (Go.Operand.tmp 10)) 29 #[true, true, true, true, true, false, false, false, false, false, false, false, false, false, false, false, false, false, false, false, false, false, false] (v := ?_) hHeld rfl (by kernel_rfl) (by kernel_rfl) (by kernel_rfl) (by kernel_rfl) B5_s B5_f4 B5_c4 (by kernel_rfl) (fun _ _ _ h => h) ?hyb4_5 ?_
    case hyb4_5 => intro w hSw; clear hSw; go_simp; try with_reducible rfl
    try simp only [Act.put, List.setIfInBounds_toArray, List.set_cons_zero, List.set_cons_succ]
    refine take_bare (i := 5) (some 31) (Go.Op.binOp Go.BinOp.neq 29 (Go.Operand.tmp 30) (Go.Operand.const (Go.Value.int Go.IntKind.i64 0)) 29) 4 #[true, true, true, true, true, true, false, false, false, false, false, false, false, false, false, false, false, false, false, false, false, false, false] (v := ?_) hHeld rfl (by kernel_rfl) (by kernel_rfl) (by kernel_rfl) (by kernel_rfl) B5_s B5_f5 B5_c5 (by kernel_rfl) (fun _ _ _ h => h) ?hyb5_6 ?_
    case hyb5_6 => intro w hSw; clear hSw; go_simp; try with_reducible rfl
    try simp only [Act.put, List.setIfInBounds_toArray, List.set_cons_zero, List.set_cons_succ]
    refine take_bare (i := 6) (some 32) (Go.Op.pick (Go.Operand.tmp 29) (Go.Operand.const (Go.Value.bool true)) (Go.Operand.tmp 31)) 4 #[true, true, true, true, true, true, true, false, false, false, false, false, false, false, false, false, false, false, false, false, false, false, false] (v := ?_) hHeld rfl (by kernel_rfl) (by kernel_rfl) (by kernel_rfl) (by kernel_rfl) B5_s B5_f6 B5_c6 (by kernel_rfl) (fun _ _ _ h => h) ?hyb6_7 ?_
    case hyb6_7 => intro w hSw; clear hSw; go_simp; try with_reducible rfl
    try simp only [Act.put, List.setIfInBounds_toArray, List.set_cons_zero, List.set_cons_succ]
    refine take_bare (i := 7) (some 33) (Go.Op.move (Go.Operand.tmp 32)) 4 #[true, true, true, true, true, true, true, true, false, false, false, false, false, false, false, false, false, false, false, false, false, false, false] (v := ?_) hHeld rfl (by kernel_rfl) (by kernel_rfl) (by kernel_rfl) (by kernel_rfl) B5_s B5_f7 B5_c7 (by kernel_rfl) (fun _ _ _ h => h) ?hyb7_8 ?_
    case hyb7_8 => intro w hSw; clear hSw; go_simp; try with_reducible rfl
    try simp only [Act.put, List.setIfInBounds_toArray, List.set_cons_zero, List.set_cons_succ]
    refine take_bare (i := 8) (some 34) (Go.Op.load 25 (Go.Operand.tmp 9)) 25 #[true, true, true, true, true, true, true, true, true, false, false, false, false, false, false, false, false, false, false, false, false, false, false] (v := (tv a)) hHeld rfl (by kernel_rfl) (by kernel_rfl) (by kernel_rfl) (by kernel_rfl) B5_s B5_f8 B5_c8 (by kernel_rfl) (fun _ _ _ h => h) (fun W hS => run_load_bt (s := 9) (by kernel_rfl) (by kernel_rfl) hS.t) ?_
    try simp only [Act.put, List.setIfInBounds_toArray, List.set_cons_zero, List.set_cons_succ]
    refine take_bare (i := 9) (some 35) (Go.Op.load 25 (Go.Operand.tmp 3)) 25 #[true, true, true, true, true, true, true, true, true, true, false, false, false, false, false, false, false, false, false, false, false, false, false] (v := (tv a)) hHeld rfl (by kernel_rfl) (by kernel_rfl) (by kernel_rfl) (by kernel_rfl) B5_s B5_f9 B5_c9 (by kernel_rfl) (fun _ _ _ h => h) (fun W hS => run_load_bt (s := 3) (by kernel_rfl) (by kernel_rfl) hS.duo.a) ?_
    try simp only [Act.put, List.setIfInBounds_toArray, List.set_cons_zero, List.set_cons_succ]
    refine take_bare (i := 10) (some 36) (Go.Op.binOp Go.BinOp.neq 25 (Go.Operand.tmp 34) (Go.Operand.tmp 35) 25) 4 #[true, true, true, true, true, true, true, true, true, true, true, false, false, false, false, false, false, false, false, false, false, false, false] (v := (.bool false)) hHeld rfl (by kernel_rfl) (by kernel_rfl) (by kernel_rfl) (by kernel_rfl) B5_s B5_f10 B5_c10 (by kernel_rfl) (fun _ _ _ h => h) (fun W hS => run_neq25 (s := 34) (t := 35) a a false (by kernel_rfl) (by kernel_rfl) (by kernel_rfl) (by simp) W) ?_
    try simp only [Act.put, List.setIfInBounds_toArray, List.set_cons_zero, List.set_cons_succ]
    refine take_bare (i := 11) (some 37) (Go.Op.pick (Go.Operand.tmp 33) (Go.Operand.const (Go.Value.bool true)) (Go.Operand.tmp 36)) 4 #[true, true, true, true, true, true, true, true, true, true, true, true, false, false, false, false, false, false, false, false, false, false, false] (v := ?_) hHeld rfl (by kernel_rfl) (by kernel_rfl) (by kernel_rfl) (by kernel_rfl) B5_s B5_f11 B5_c11 (by kernel_rfl) (fun _ _ _ h => h) ?hyb11_12 ?_
    case hyb11_12 => intro w hSw; clear hSw; go_simp; try with_reducible rfl
    try simp only [Act.put, List.setIfInBounds_toArray, List.set_cons_zero, List.set_cons_succ]
    refine take_bare (i := 12) (some 38) (Go.Op.move (Go.Operand.tmp 37)) 4 #[true, true, true, true, true, true, true, true, true, true, true, true, true, false, false, false, false, false, false, false, false, false, false] (v := ?_) hHeld rfl (by kernel_rfl) (by kernel_rfl) (by kernel_rfl) (by kernel_rfl) B5_s B5_f12 B5_c12 (by kernel_rfl) (fun _ _ _ h => h) ?hyb12_13 ?_
    case hyb12_13 => intro w hSw; clear hSw; go_simp; try with_reducible rfl
    try simp only [Act.put, List.setIfInBounds_toArray, List.set_cons_zero, List.set_cons_succ]
    refine take_bare (i := 13) (some 39) (Go.Op.move (Go.Operand.tmp 7)) 26 #[true, true, true, true, true, true, true, true, true, true, true, true, true, true, false, false, false, false, false, false, false, false, false] (v := ?_) hHeld rfl (by kernel_rfl) (by kernel_rfl) (by kernel_rfl) (by kernel_rfl) B5_s B5_f13 B5_c13 (by kernel_rfl) (fun _ _ _ h => h) ?hyb13_14 ?_
    case hyb13_14 => intro w hSw; clear hSw; go_simp; try with_reducible rfl
    try simp only [Act.put, List.setIfInBounds_toArray, List.set_cons_zero, List.set_cons_succ]
    refine take_bare (i := 14) (some 40) (Go.Op.convert 26 9 (Go.Operand.tmp 39)) 9 #[true, true, true, true, true, true, true, true, true, true, true, true, true, true, true, false, false, false, false, false, false, false, false] (v := (.string (strOfNums (bytesT a)))) hHeld rfl (by kernel_rfl) (by kernel_rfl) (by kernel_rfl) (by kernel_rfl) B5_s B5_f14 B5_c14 (by kernel_rfl) (fun _ _ _ h => h) (fun W hS => run_conv (s := 39) (by kernel_rfl) (by kernel_rfl) hS.x (by omega)) ?_
    try simp only [Act.put, List.setIfInBounds_toArray, List.set_cons_zero, List.set_cons_succ]
    refine take_bare (i := 15) (some 41) (Go.Op.move (Go.Operand.tmp 8)) 26 #[true, true, true, true, true, true, true, true, true, true, true, true, true, true, true, true, false, false, false, false, false, false, false] (v := ?_) hHeld rfl (by kernel_rfl) (by kernel_rfl) (by kernel_rfl) (by kernel_rfl) B5_s B5_f15 B5_c15 (by kernel_rfl) (fun _ _ _ h => h) ?hyb15_16 ?_
    case hyb15_16 => intro w hSw; clear hSw; go_simp; try with_reducible rfl
    try simp only [Act.put, List.setIfInBounds_toArray, List.set_cons_zero, List.set_cons_succ]
    refine take_bare (i := 16) (some 42) (Go.Op.convert 26 9 (Go.Operand.tmp 41)) 9 #[true, true, true, true, true, true, true, true, true, true, true, true, true, true, true, true, true, false, false, false, false, false, false] (v := (.string (strOfNums (bytesT b)))) hHeld rfl (by kernel_rfl) (by kernel_rfl) (by kernel_rfl) (by kernel_rfl) B5_s B5_f16 B5_c16 (by kernel_rfl) (fun _ _ _ h => h) (fun W hS => run_conv (s := 41) (by kernel_rfl) (by kernel_rfl) hS.y (by omega)) ?_
    try simp only [Act.put, List.setIfInBounds_toArray, List.set_cons_zero, List.set_cons_succ]
    refine take_bare (i := 17) (some 43) (Go.Op.binOp Go.BinOp.eql 9 (Go.Operand.tmp 40) (Go.Operand.tmp 42) 9) 4 #[true, true, true, true, true, true, true, true, true, true, true, true, true, true, true, true, true, true, false, false, false, false, false] (v := (.bool (decide (a = b)))) hHeld rfl (by kernel_rfl) (by kernel_rfl) (by kernel_rfl) (by kernel_rfl) B5_s B5_f17 B5_c17 (by kernel_rfl) (fun _ _ _ h => h) (fun W hS => run_eq_str (s := 40) (t := 42) _ _ (decide (a = b)) (by kernel_rfl) (by kernel_rfl) (by kernel_rfl) (str_eqT ha hb) W) ?_
    try simp only [Act.put, List.setIfInBounds_toArray, List.set_cons_zero, List.set_cons_succ]
    refine take_bare (i := 18) (some 44) (Go.Op.load 25 (Go.Operand.tmp 3)) 25 #[true, true, true, true, true, true, true, true, true, true, true, true, true, true, true, true, true, true, true, false, false, false, false] (v := (tv a)) hHeld rfl (by kernel_rfl) (by kernel_rfl) (by kernel_rfl) (by kernel_rfl) B5_s B5_f18 B5_c18 (by kernel_rfl) (fun _ _ _ h => h) (fun W hS => run_load_bt (s := 3) (by kernel_rfl) (by kernel_rfl) hS.duo.a) ?_
    try simp only [Act.put, List.setIfInBounds_toArray, List.set_cons_zero, List.set_cons_succ]
    refine take_bare (i := 19) (some 45) (Go.Op.load 25 (Go.Operand.tmp 4)) 25 #[true, true, true, true, true, true, true, true, true, true, true, true, true, true, true, true, true, true, true, true, false, false, false] (v := (tv b)) hHeld rfl (by kernel_rfl) (by kernel_rfl) (by kernel_rfl) (by kernel_rfl) B5_s B5_f19 B5_c19 (by kernel_rfl) (fun _ _ _ h => h) (fun W hS => run_load_bt (s := 4) (by kernel_rfl) (by kernel_rfl) hS.duo.b) ?_
    try simp only [Act.put, List.setIfInBounds_toArray, List.set_cons_zero, List.set_cons_succ]
    refine take_bare (i := 20) (some 46) (Go.Op.binOp Go.BinOp.eql 25 (Go.Operand.tmp 44) (Go.Operand.tmp 45) 25) 4 #[true, true, true, true, true, true, true, true, true, true, true, true, true, true, true, true, true, true, true, true, true, false, false] (v := (.bool (decide (a = b)))) hHeld rfl (by kernel_rfl) (by kernel_rfl) (by kernel_rfl) (by kernel_rfl) B5_s B5_f20 B5_c20 (by kernel_rfl) (fun _ _ _ h => h) (fun W hS => run_eq25 (s := 44) (t := 45) a b (decide (a = b)) (by kernel_rfl) (by kernel_rfl) (by kernel_rfl) rfl W) ?_
    try simp only [Act.put, List.setIfInBounds_toArray, List.set_cons_zero, List.set_cons_succ]
    refine take_bare (i := 21) (some 47) (Go.Op.binOp Go.BinOp.neq 4 (Go.Operand.tmp 43) (Go.Operand.tmp 46) 4) 4 #[true, true, true, true, true, true, true, true, true, true, true, true, true, true, true, true, true, true, true, true, true, true, false] (v := (.bool false)) hHeld rfl (by kernel_rfl) (by kernel_rfl) (by kernel_rfl) (by kernel_rfl) B5_s B5_f21 B5_c21 (by kernel_rfl) (fun _ _ _ h => h) (fun W hS => run_neq_same (s := 43) (t := 46) (decide (a = b)) (by kernel_rfl) (by kernel_rfl) (by kernel_rfl) W) ?_
    try simp only [Act.put, List.setIfInBounds_toArray, List.set_cons_zero, List.set_cons_succ]
    refine take_bare (i := 22) (some 48) (Go.Op.pick (Go.Operand.tmp 38) (Go.Operand.const (Go.Value.bool true)) (Go.Operand.tmp 47)) 4 #[true, true, true, true, true, true, true, true, true, true, true, true, true, true, true, true, true, true, true, true, true, true, true] (v := ?_) hHeld rfl (by kernel_rfl) (by kernel_rfl) (by kernel_rfl) (by kernel_rfl) B5_s B5_f22 B5_c22 (by kernel_rfl) (fun _ _ _ h => h) ?hyb22_23 ?_
    case hyb22_23 => intro w hSw; clear hSw; go_simp; try with_reducible rfl
    try simp only [Act.put, List.setIfInBounds_toArray, List.set_cons_zero, List.set_cons_succ]
    refine wpAnyH_done (by kernel_rfl) ?_ _
    try simp only [Act.put, List.setIfInBounds_toArray, List.set_cons_zero, List.set_cons_succ]
    have hlr : n ≤ 100 := by omega
    rcases Nat.lt_trichotomy n 12 with h12 | h12 | h12
    · have hk := take_less (bs := rs) (by rw [HL.out]; exact h12)
      go_wp2_with fail
      refine (take_any A n c w.heap.size rs _ hHeld.r hHeld.duo.below.size hr).mono ?_
      rintro e w6 ⟨rfl, hB6⟩
      rw [hk]
      have hb6 := hHeld.next hB6
      have hbz := Bt.new w6 zeroT
      have z0 := hbz.c0
      have z1 := hbz.c1
      have z2 := hbz.c2
      have z3 := hbz.c3
      simp only [zeroT] at z0 z1 z2 z3
      go_wp2_with fail
      refine (wakes_any _ ((hb6.alloc _).duo.tab ht)).mono ?_
      rintro e w7 ⟨rfl, hB7⟩
      go_wp2
      go_ret
      exact ⟨ret_bool (by rw [Bool.not_eq_true', decide_eq_false_iff_not]; omega), ((hb6.alloc _).next hB7).duo.below⟩
    · subst h12
      obtain ⟨e2, hu, hub⟩ := bytes_take hr HL.out
      obtain ⟨⟨u, f⟩, hk⟩ : ∃ p, takeT rs = p := ⟨_, rfl⟩
      rw [hk] at e2 hu hub
      simp only at e2 hu hub
      have HUB := hide hub
      clear hub
      subst e2
      go_wp2_with fail
      refine (take_any A 12 c w.heap.size rs _ hHeld.r hHeld.duo.below.size hr).mono ?_
      rintro e w6 ⟨rfl, hB6⟩
      rw [hk]
      have hb6 := hHeld.next hB6
      have hBu : Bk w a b gt a A1 A3 A c1 c3 12 c (bytesT a) (bytesT b) rs (w6.alloc (.cells #[.int .u32 u.src, .int .u32 u.dst, .int .u16 u.sp, .int .u16 u.dp] 25)) ∧ Bt (w6.alloc (.cells #[.int .u32 u.src, .int .u32 u.dst, .int .u16 u.sp, .int .u16 u.dp] 25)) w6.heap.size u := ⟨hb6.alloc _, Bt.new w6 u⟩
      go_wp2_with fail
      obtain ⟨gu, hgu⟩ : ∃ g, w6.heap.size = g := ⟨_, rfl⟩
      obtain ⟨w7, hw7⟩ : ∃ W, w6.alloc (.cells #[.int .u32 u.src, .int .u32 u.dst, .int .u16 u.sp, .int .u16 u.dp] 25) = W := ⟨_, rfl⟩
      rw [hw7, hgu] at hBu
      rw [hw7, hgu]
      clear hw7 hgu hB6 hb6
      refine region_as (R := B10) (by kernel_rfl) ?_
      refine wp_region_held_drew (S := fun W => Bk w a b gt a A1 A3 A c1 c3 12 c (bytesT a) (bytesT b) rs W ∧ Bt W gu u) (by kernel_rfl) ?_ (fun hHeld => ?_)
      · exact ⟨hBu.1.drew, hBu.2⟩
      refine listed_as (L := #[false, false, false, false, false, false, false, false, false, false, false, false, false, false]) (by kernel_rfl) ?_
      refine take_bare (i := 0) (some 79) (Go.Op.move (Go.Operand.tmp 12)) 29 #[true, false, false, false, false, false, false, false, false, false, false, false, false, false] (v := ?_) hHeld rfl (by kernel_rfl) (by kernel_rfl) (by kernel_rfl) (by kernel_rfl) B10_s B10_f0 B10_c0 (by kernel_rfl) (fun _ _ _ h => h) ?hyc0_1 ?_
      case hyc0_1 => intro w hSw; clear hSw; go_simp; try with_reducible rfl
      try simp only [Act.put, List.setIfInBounds_toArray, List.set_cons_zero, List.set_cons_succ]
      refine take_bare (i := 1) (some 80) (Go.Op.binOp Go.BinOp.eql 29 (Go.Operand.tmp 79) (Go.Operand.const (Go.Value.int Go.IntKind.i64 0)) 29) 4 #[true, true, false, false, false, false, false, false, false, false, false, false, false, false] (v := ?_) hHeld rfl (by kernel_rfl) (by kernel_rfl) (by kernel_rfl) (by kernel_rfl) B10_s B10_f1 B10_c1 (by kernel_rfl) (fun _ _ _ h => h) ?hyc1_2 ?_
      case hyc1_2 => intro w hSw; clear hSw; go_simp; try with_reducible rfl
      try simp only [Act.put, List.setIfInBounds_toArray, List.set_cons_zero, List.set_cons_succ]
      refine take_bare (i := 2) (some 81) (Go.Op.move (Go.Operand.tmp 80)) 4 #[true, true, true, false, false, false, false, false, false, false, false, false, false, false] (v := ?_) hHeld rfl (by kernel_rfl) (by kernel_rfl) (by kernel_rfl) (by kernel_rfl) B10_s B10_f2 B10_c2 (by kernel_rfl) (fun _ _ _ h => h) ?hyc2_3 ?_
      case hyc2_3 => intro w hSw; clear hSw; go_simp; try with_reducible rfl
      try simp only [Act.put, List.setIfInBounds_toArray, List.set_cons_zero, List.set_cons_succ]
      refine take_bare (i := 3) (some 82) (Go.Op.load 25 (Go.Operand.tmp 11)) 25 #[true, true, true, true, false, false, false, false, false, false, false, false, false, false] (v := (tv u)) hHeld rfl (by kernel_rfl) (by kernel_rfl) (by kernel_rfl) (by kernel_rfl) B10_s B10_f3 B10_c3 (by kernel_rfl) (fun _ _ _ h => h) (fun W hS => run_load_bt (s := 11) (by kernel_rfl) (by kernel_rfl) hS.2) ?_
      try simp only [Act.put, List.setIfInBounds_toArray, List.set_cons_zero, List.set_cons_succ]
      refine take_bare (i := 6) (some 85) (Go.Op.move (Go.Operand.tmp 2)) 26 #[true, true, true, true, false, false, true, false, false, false, false, false, false, false] (v := ?_) hHeld rfl (by kernel_rfl) (by kernel_rfl) (by kernel_rfl) (by kernel_rfl) B10_s B10_f6 B10_c6 (by kernel_rfl) (fun _ _ _ h => h) ?hyc6_5 ?_
      case hyc6_5 => intro w hSw; clear hSw; go_simp; try with_reducible rfl
      try simp only [Act.put, List.setIfInBounds_toArray, List.set_cons_zero, List.set_cons_succ]
      refine take_bare (i := 7) (some 86) (Go.Op.convert 26 9 (Go.Operand.tmp 85)) 9 #[true, true, true, true, false, false, true, true, false, false, false, false, false, false] (v := (.string (strOfNums rs))) hHeld rfl (by kernel_rfl) (by kernel_rfl) (by kernel_rfl) (by kernel_rfl) B10_s B10_f7 B10_c7 (by kernel_rfl) (fun _ _ _ h => h) (fun W hS => run_conv (s := 85) (by kernel_rfl) (by kernel_rfl) hS.1.r (by omega)) ?_
      try simp only [Act.put, List.setIfInBounds_toArray, List.set_cons_zero, List.set_cons_succ]
      refine step_bare (i := 4) (some 83) (Go.Op.call { callee := Go.Callee.value (Go.Operand.func 11), args := #[Go.Operand.tmp 82], argTypes := #[25] }) 26 #[true, true, true, true, true, false, true, true, false, false, false, false, false, false] B10_r4 rfl (by kernel_rfl) (by kernel_rfl) (by kernel_rfl) (by kernel_rfl) (by kernel_rfl) (fun K hK => ?_)
      go_simp
      (with_reducible refine (bytes_any u _ hu).mono ?_)
      rintro e w24 ⟨⟨v24, rfl, hown24⟩, hB24⟩
      obtain ⟨A24, c24, rfl, hs24⟩ := Sl.own hown24
      go_simp
      refine hK.out _ _ ?_ (fun hHeld => ?_)
      · exact ⟨hHeld.1.next hB24, hHeld.2.below hB24 hHeld.2.lt⟩
      clear hK K
      try simp only [Act.put, List.setIfInBounds_toArray, List.set_cons_zero, List.set_cons_succ]
      refine step_bare (i := 5) (some 84) (Go.Op.convert 26 9 (Go.Operand.tmp 83)) 9 #[true, true, true, true, true, true, true, true, false, false, false, false, false, false] B10_r5 rfl (by kernel_rfl) (by kernel_rfl) (by kernel_rfl) (by kernel_rfl) (by kernel_rfl) (fun K hK => ?_)
      have cy := run_str hs24 (by omega)
      go_simp
      refine hK.out _ _ ?_ (fun hHeld => ?_)
      · exact hHeld
      clear hK K
      try simp only [Act.put, List.setIfInBounds_toArray, List.set_cons_zero, List.set_cons_succ]
      refine take_bare (i := 8) (some 87) (Go.Op.binOp Go.BinOp.eql 9 (Go.Operand.tmp 84) (Go.Operand.tmp 86) 9) 4 #[true, true, true, true, true, true, true, true, true, false, false, false, false, false] (v := (.bool true)) hHeld rfl (by kernel_rfl) (by kernel_rfl) (by kernel_rfl) (by kernel_rfl) B10_s B10_f8 B10_c8 (by kernel_rfl) (fun _ _ _ h => h) (fun W hS => run_eq_str (s := 84) (t := 86) (strOfNums (bytesT u)) (strOfNums rs) true (by kernel_rfl) (by kernel_rfl) (by kernel_rfl) (by rw [HUB.out]; simp) W) ?_
      try simp only [Act.put, List.setIfInBounds_toArray, List.set_cons_zero, List.set_cons_succ]
      refine take_bare (i := 9) (some 88) (Go.Op.pick (Go.Operand.tmp 81) (Go.Operand.tmp 87) (Go.Operand.const (Go.Value.bool false))) 4 #[true, true, true, true, true, true, true, true, true, true, false, false, false, false] (v := ?_) hHeld rfl (by kernel_rfl) (by kernel_rfl) (by kernel_rfl) (by kernel_rfl) B10_s B10_f9 B10_c9 (by kernel_rfl) (fun _ _ _ h => h) ?hyc9_8 ?_
      case hyc9_8 => intro w hSw; clear hSw; go_simp; try with_reducible rfl
      try simp only [Act.put, List.setIfInBounds_toArray, List.set_cons_zero, List.set_cons_succ]
      refine take_bare (i := 10) (some 89) (Go.Op.move (Go.Operand.tmp 88)) 4 #[true, true, true, true, true, true, true, true, true, true, true, false, false, false] (v := ?_) hHeld rfl (by kernel_rfl) (by kernel_rfl) (by kernel_rfl) (by kernel_rfl) B10_s B10_f10 B10_c10 (by kernel_rfl) (fun _ _ _ h => h) ?hyc10_9 ?_
      case hyc10_9 => intro w hSw; clear hSw; go_simp; try with_reducible rfl
      try simp only [Act.put, List.setIfInBounds_toArray, List.set_cons_zero, List.set_cons_succ]
      refine step_bare (i := 11) (some 90) (Go.Op.call { callee := Go.Callee.value (Go.Operand.func 8), args := #[], argTypes := #[] }) 4 #[true, true, true, true, true, true, true, true, true, true, true, true, false, false] B10_r11 rfl (by kernel_rfl) (by kernel_rfl) (by kernel_rfl) (by kernel_rfl) (by kernel_rfl) (fun K hK => ?_)
      go_simp
      (with_reducible refine (wakes_any _ (hHeld.1.duo.tab ht)).mono ?_)
      rintro e w31 ⟨rfl, hB31⟩
      go_simp
      refine hK.out _ _ ?_ (fun hHeld => ?_)
      · exact ⟨hHeld.1.next hB31, hHeld.2.below hB31 hHeld.2.lt⟩
      clear hK K
      try simp only [Act.put, List.setIfInBounds_toArray, List.set_cons_zero, List.set_cons_succ]
      refine take_bare (i := 12) (some 91) (Go.Op.pick (Go.Operand.tmp 89) (Go.Operand.tmp 90) (Go.Operand.const (Go.Value.bool false))) 4 #[true, true, true, true, true, true, true, true, true, true, true, true, true, false] (v := ?_) hHeld rfl (by kernel_rfl) (by kernel_rfl) (by kernel_rfl) (by kernel_rfl) B10_s B10_f12 B10_c12 (by kernel_rfl) (fun _ _ _ h => h) ?hyc12_10 ?_
      case hyc12_10 => intro w hSw; clear hSw; go_simp; try with_reducible rfl
      try simp only [Act.put, List.setIfInBounds_toArray, List.set_cons_zero, List.set_cons_succ]
      refine take_bare (i := 13) (some 6) (Go.Op.assign (Go.Operand.tmp 91)) 4 #[true, true, true, true, true, true, true, true, true, true, true, true, true, true] (v := ?_) hHeld rfl (by kernel_rfl) (by kernel_rfl) (by kernel_rfl) (by kernel_rfl) B10_s B10_f13 B10_c13 (by kernel_rfl) (fun _ _ _ h => h) ?hyc13_11 ?_
      case hyc13_11 => intro w hSw; clear hSw; go_simp; try with_reducible rfl
      try simp only [Act.put, List.setIfInBounds_toArray, List.set_cons_zero, List.set_cons_succ]
      refine wpAnyH_done (by kernel_rfl) ?_ _
      try simp only [Act.put, List.setIfInBounds_toArray, List.set_cons_zero, List.set_cons_succ]
      go_wp2
      go_ret
      exact ⟨rfl, hHeld.1.duo.below⟩
    · have hk := take_more (bs := rs) (by rw [HL.out]; exact h12)
      go_wp2_with fail
      refine (take_any A n c w.heap.size rs _ hHeld.r hHeld.duo.below.size hr).mono ?_
      rintro e w6 ⟨rfl, hB6⟩
      rw [hk]
      have hb6 := hHeld.next hB6
      have hbz := Bt.new w6 zeroT
      have z0 := hbz.c0
      have z1 := hbz.c1
      have z2 := hbz.c2
      have z3 := hbz.c3
      simp only [zeroT] at z0 z1 z2 z3
      go_wp2_with fail
      refine (wakes_any _ ((hb6.alloc _).duo.tab ht)).mono ?_
      rintro e w7 ⟨rfl, hB7⟩
      go_wp2
      go_ret
      exact ⟨ret_bool (by rw [Bool.not_eq_true', decide_eq_false_iff_not]; omega), ((hb6.alloc _).next hB7).duo.below⟩
end Go.Proofs.YtdlpkphbgbffpaaDoor
