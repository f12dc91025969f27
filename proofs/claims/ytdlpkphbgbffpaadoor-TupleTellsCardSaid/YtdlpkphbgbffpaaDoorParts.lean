/-
  The iterator over a tuple's numbers.
-/
import Derived.Test.YtdlpkphbgbffpaaDoorTups
import Derived.Test.YtdlpkphbgbffpaaDoorLift
import Derived.RangeFuncKeeps
namespace Go.Proofs.YtdlpkphbgbffpaaDoor
open Go Go.RowKit Go.Shelf
set_option linter.unusedSimpArgs false
set_option linter.unusedVariables false
attribute [local go_sem] Oper.semAt_some
theorem grown_of_below {A B : World} (h : Below A.heap.size A B) : A.grownBy B none := ⟨h.os, h.tape, h.output, h.size, fun i hi _ => h.block i hi⟩
theorem parts_any (t : Tup) (w : World) :
    Calls Tryd.prog 27 #[tv t] w fun e w' => e = .returned (.func (.func 38) #[] #[.pointer (some ⟨w.heap.size, 0, none⟩)]) ∧ w' = w.alloc (.cells #[.int .u32 t.src, .int .u32 t.dst, .int .u16 t.sp, .int .u16 t.dp] 25) := by
  go_enter Tryd.func27, Tryd.ntmps27
  go_wp2
  go_ret
  exact ⟨rfl, rfl⟩
/-- A tuple's k-th number. -/
def num (t : Tup) : Nat → Int
  | 0 => t.src
  | 1 => t.dst
  | 2 => t.sp
  | _ => t.dp
/-- In how many bytes it stands. -/
def many : Nat → Nat
  | 0 => 4
  | 1 => 4
  | _ => 2
theorem num_in {t : Tup} (h : t.In) (k : Nat) : 0 ≤ num t k ∧ num t k < 4294967296 := by
  obtain ⟨⟨a, b⟩, ⟨c, d⟩, ⟨e, f⟩, ⟨x, y⟩⟩ := h
  unfold num
  split <;> omega
theorem many_in (k : Nat) : 1 ≤ many k ∧ many k ≤ 4 := by unfold many; split <;> omega
theorem u32_of_u16 (x : Int) (h0 : 0 ≤ x) (h1 : x < 65536) : IntKind.u32.wrap x = x := by simp [IntKind.wrap, IntKind.bits, IntKind.signed]; omega
set_option maxRecDepth 100000 in
set_option maxHeartbeats 1000000 in
theorem parts1_in (l g : Nat) (t : Tup) (ht : t.In) (J Jx : List Nat → World → Prop) (W : World)
    (hY : ∀ pre x W1, J pre W1 → pre.length < 4 → YieldAt Fence.wide 8 Tryd.prog l #[.int .u32 (num t x), .int .i64 (many x)] W1 fun e W' =>
      (e = .returned (.bool true) ∧ J (pre ++ [x]) W' ∧ W'.heap[g]? = W1.heap[g]?) ∨ (e = .returned (.bool false) ∧ Jx (pre ++ [x]) W'))
    (hb : Bt W g t) (h0 : J [] W) :
    CallsIn Fence.wide 9 Tryd.prog 38 #[.func (.yield l) #[] #[], .pointer (some ⟨g, 0, none⟩)] W fun e W' => (∃ v, e = .returned v) ∧
      ((∃ xs, xs = [0, 1, 2, 3] ∧ J xs W') ∨ (∃ pre, True ∧ Jx pre W')) := by
  obtain ⟨⟨hs0, hs1⟩, ⟨hd0, hd1⟩, ⟨hp0, hp1⟩, ⟨hq0, hq1⟩⟩ := ht
  have c0 := hb.c0
  have c1 := hb.c1
  have c2 := hb.c2
  have c3 := hb.c3
  refine callsIn_of_wp Tryd.func38 rfl trivial ?_ rfl
  simp only [Tryd.ntmps38, List.size_toArray, List.length_cons, List.length_nil, Nat.reduceAdd, Nat.reduceSub, Array.replicate_succ, Array.replicate_zero, List.push_toArray, List.append_toArray, List.nil_append, List.cons_append]
  have HY := hide hY
  clear hY
  have hb0 := hb
  clear hb
  have HY0 : YieldAt Fence.wide 8 Tryd.prog l #[.int .u32 t.src, .int .i64 4] W _ := HY.out [] 0 W h0 (by simp)
  obtain ⟨fn, tmps, assign, body, hy, hR⟩ := HY0
  have hR' := round_bool hR
  clear hR
  gi_wp2_with fail
  refine hR'.mono ?_
  rintro e W1 ⟨t1, rfl, hyes, hno⟩
  clear hR' hy
  cases t1
  · have hx := hno rfl
    clear hyes hno
    gi_wp2
    refine ⟨fun _ h => (by cases h), ?_⟩
    gi_wp2
    refine ⟨fun _ h => (by cases h), ?_⟩
    gi_wp2
    go_end0
    exact ⟨⟨_, rfl⟩, .inr ⟨_, trivial, hx⟩⟩
  obtain ⟨hJ1, hk1⟩ := hyes rfl
  clear hyes hno
  have hb1 : Bt W1 g t := hk1.trans hb0
  have c0 := hb1.c0
  have c1 := hb1.c1
  have c2 := hb1.c2
  have c3 := hb1.c3
  have HY1 : YieldAt Fence.wide 8 Tryd.prog l #[.int .u32 t.dst, .int .i64 4] W1 _ := HY.out _ 1 W1 hJ1 (by simp)
  obtain ⟨fn, tmps, assign, body, hy, hR⟩ := HY1
  have hR' := round_bool hR
  clear hR
  gi_wp2_with fail
  refine hR'.mono ?_
  rintro e W2 ⟨t2, rfl, hyes, hno⟩
  clear hR' hy
  cases t2
  · have hx := hno rfl
    clear hyes hno
    gi_wp2
    refine ⟨fun _ h => (by cases h), ?_⟩
    gi_wp2
    go_end0
    exact ⟨⟨_, rfl⟩, .inr ⟨_, trivial, hx⟩⟩
  obtain ⟨hJ2, hk2⟩ := hyes rfl
  clear hyes hno
  have hb2 : Bt W2 g t := hk2.trans hb1
  have c0 := hb2.c0
  have c1 := hb2.c1
  have c2 := hb2.c2
  have c3 := hb2.c3
  have HY2 : YieldAt Fence.wide 8 Tryd.prog l #[.int .u32 t.sp, .int .i64 2] W2 _ := HY.out _ 2 W2 hJ2 (by simp)
  obtain ⟨fn, tmps, assign, body, hy, hR⟩ := HY2
  have hR' := round_bool hR
  clear hR
  gi_wp2_with fail
  refine hR'.mono ?_
  rintro e W3 ⟨t3, rfl, hyes, hno⟩
  clear hR' hy
  cases t3
  · have hx := hno rfl
    clear hyes hno
    gi_wp2
    refine ⟨fun _ h => (by cases h), ?_⟩
    gi_wp2
    go_end0
    exact ⟨⟨_, rfl⟩, .inr ⟨_, trivial, hx⟩⟩
  obtain ⟨hJ3, hk3⟩ := hyes rfl
  clear hyes hno
  have hb3 : Bt W3 g t := hk3.trans hb2
  have c0 := hb3.c0
  have c1 := hb3.c1
  have c2 := hb3.c2
  have c3 := hb3.c3
  have HY3 : YieldAt Fence.wide 8 Tryd.prog l #[.int .u32 t.dp, .int .i64 2] W3 _ := HY.out _ 3 W3 hJ3 (by simp)
  obtain ⟨fn, tmps, assign, body, hy, hR⟩ := HY3
  have hR' := round_bool hR
  clear hR
  gi_wp2_with fail
  refine hR'.mono ?_
  rintro e W4 ⟨t4, rfl, hyes, hno⟩
  clear hR' hy
  cases t4
  · have hx := hno rfl
    clear hyes hno
    gi_wp2
    go_end0
    exact ⟨⟨_, rfl⟩, .inr ⟨_, trivial, hx⟩⟩
  obtain ⟨hJ4, hk4⟩ := hyes rfl
  clear hyes hno
  have hb4 : Bt W4 g t := hk4.trans hb3
  have c0 := hb4.c0
  have c1 := hb4.c1
  have c2 := hb4.c2
  have c3 := hb4.c3
  gi_wp2
  go_end0
  exact ⟨⟨_, rfl⟩, .inl ⟨_, rfl, hJ4⟩⟩
/-- What 'parts' hands back, as an iterator. -/
theorem parts_stops (g : Nat) (t : Tup) (ht : t.In) (w : World) (hb : Bt w g t) :
    SeqStopsK Fence.wide 9 Tryd.prog 38 #[.pointer (some ⟨g, 0, none⟩)] (fun x : Nat => #[.int .u32 (num t x), .int .i64 (many x)]) (fun A B => B.heap[g]? = A.heap[g]?) (fun xs => xs = [0, 1, 2, 3]) (fun _ => True) 4 w :=
  fun l J Jx W hW hJ hJx hY h0 =>
    parts1_in l g t ht J Jx W hY (hb.below hW hb.lt) h0
end Go.Proofs.YtdlpkphbgbffpaaDoor
