/-
  The walk of the document's bytes.
-/
import Derived.Test.YtdlpkphbgbffpaaDoorNumber
import Derived.Laws.Bits128
namespace Go.Proofs.YtdlpkphbgbffpaaDoor
open Go Go.RowKit Go.Shelf
set_option linter.unusedSimpArgs false
set_option linter.unusedVariables false
attribute [local go_sem] Oper.semAt_some
/-- The lowest `k` bytes of a number, the highest first. -/
def bytesL (x : Int) : Nat → List Int
  | 0 => []
  | k + 1 => x / 256 ^ k % 256 :: bytesL x k
theorem bytesL_length (x : Int) : ∀ k, (bytesL x k).length = k
  | 0 => rfl
  | k + 1 => by simp [bytesL, bytesL_length x k]
theorem i64_and255 (n : Int) : bits .and .i64 n 255 = n % 256 := by
  have h255 : (BitVec.ofInt 64 255).toNat = 2 ^ 8 - 1 := by decide
  have key : (BitVec.ofInt 64 n &&& BitVec.ofInt 64 255).toNat = (n % ((2 ^ 64 : Nat) : Int)).toNat % 2 ^ 8 := by
    rw [BitVec.toNat_and, BitVec.toNat_ofInt, h255, Nat.and_two_pow_sub_one_eq_mod]
  show IntKind.i64.wrap ((BitVec.ofInt 64 n &&& BitVec.ofInt 64 255).toNat : Nat) = n % 256
  rw [key, IntKind.wrap_i64]
  omega
theorem infoU8 : (Tryd.prog.info? 5).map (fun i => (i.zero, i.size, i.bytes)) = some (some (.int .u8 0), 1, 1) := by kernel_rfl
theorem ownBlock_ge {W : World} {base n : Nat} {e : TypeId} {v : Value} {xs : List Value} (h : W.ownsRow base e 1 v n xs) : ∀ k, v.ownBlock = some k → base ≤ k := by
  intro k hk
  rcases h.2 with ⟨rfl, rfl⟩ | ⟨g, cap, cur, rfl, _, hgb, _⟩
  · simp [Value.ownBlock] at hk
  · have : g = k := by simpa [Value.ownBlock] using hk
    omega
/-- append of one byte, laid as a literal, onto a row of the call's own. -/
theorem wpList_append_byte {W : World} {ops : Array Oper} {rest : List Oper} {o : Oper} {a : Act} {Q : Exit → Act → World → Prop} (y : Int) (base n g : Nat) (xs : List Value) (v : Value) (s x : Operand) (hgd : o.guard = none)
    (ho : o.op = .call { callee := .builtin .append, args := #[s, x], argTypes := #[26, 26] }) (_hot : o.type = 26) (hs : a.eval s = v) (hg : W.heap.size = g) (hx : a.eval x = .slice (some ⟨g, 0, none⟩) 1 1)
    (hown : W.ownsRow base 5 1 v n xs) (hn : n ≤ 1000) (hbase : base ≤ W.heap.size)
    (h : ∀ v' w', w'.ownsRow base 5 1 v' (n + 1) (xs ++ [vb y]) → Below base W w' → wpList Tryd.prog ops Q rest (a.put o.dst v') w') :
    wpList Tryd.prog ops Q (o :: rest) a (W.alloc (.cells #[.int .u8 y] 5)) := by
  obtain ⟨i0, hi, hz0, hz1, hz2⟩ := info_parts infoU8
  subst hg
  refine wpList_append_sl _ hgd s x 26 ho base 5 i0 (.int .u8 0) 1 Tryd.underlying26 hi hz0 hz1 hz2 rfl v n xs hs (hown.alloc _) (W.heap.size + 1) (some ⟨W.heap.size, 0, none⟩) 1 1 [vb y] hx
    (Sl.made' W _ _ [vb y] 5 rfl rfl (by simp [maxLen])) (by intro u hu; simp at hu; subst hu; rfl) (by unfold maxLen; omega) (by omega) (by simp; omega) ?_
  intro v' w' hown' hg' _
  exact h v' w' hown' (((Below.refl base W).alloc hbase _).grown hg' (by simp; omega) (ownBlock_ge hown))

set_option maxRecDepth 100000 in
theorem refBytes_any (x : Int) (m : Nat) (w : World) (hm : m ≤ 4) (h0 : 0 ≤ x) (h1 : x < 4294967296) : Calls Tryd.prog 28 #[vi x, vi m] w fun e W' => (∃ v, e = .returned v ∧ W'.ownsRow w.heap.size 5 1 v m ((bytesL x m).map vb)) ∧ Below w.heap.size w W' := by
  go_enter Tryd.func28, Tryd.ntmps28
  go_wp2
  go_loopw [5, 6] (fun v i wr => ∃ (k : Nat) (xs : List Int), k ≤ m ∧ i = .int .i64 ((k : Int) - 1) ∧ bytesL x m = xs ++ bytesL x k ∧ wr.ownsRow w.heap.size 5 1 v xs.length (xs.map vb) ∧ Below w.heap.size w wr ∧ w.heap.size ≤ wr.heap.size) (fun _ i _ => (intOf i + 1).toNat)
  case atStart => exact ⟨m, [], by omega, by go_num, rfl, World.ownsRow_nil _ _ _ _, Below.refl _ w, by omega⟩
  case round =>
    obtain ⟨k, xs, hk, rfl, hxs, hown, hB, hsz⟩ := hrel
    have hxl : xs.length + k = m := by
      have := congrArg List.length hxs
      simp only [List.length_append, bytesL_length] at this
      omega
    have HX := hide hxs
    clear hxs
    rcases Nat.eq_zero_or_pos k with rfl | hpos
    · have how := hown
      obtain ⟨A1, c1, rfl, hs1⟩ := Sl.own hown
      obtain rfl : xs.length = m := by omega
      go_wp2
      go_ret
      exact ⟨⟨_, rfl, by rw [HX.out]; simpa [bytesL] using how⟩, hB⟩
    · have hdo : ∀ (j : Nat) (d : Int), k = j + 1 → d = x / 256 ^ j % 256 → ∀ v1 w1, w1.ownsRow w.heap.size 5 1 v1 (xs.length + 1) (xs.map vb ++ [vb d]) → Below w.heap.size wr w1 → ∃ (k' : Nat) (xs' : List Int), k' ≤ m ∧ .int .i64 ((j : Int) - 1) = Value.int .i64 ((k' : Int) - 1) ∧ bytesL x m = xs' ++ bytesL x k' ∧ w1.ownsRow w.heap.size 5 1 v1 xs'.length (xs'.map vb) ∧ Below w.heap.size w w1 ∧ w.heap.size ≤ w1.heap.size := by
        intro j d hj hd v1 w1 ho hb
        refine ⟨j, xs ++ [d], by omega, rfl, ?_, by simpa using ho, hB.trans hb, by have := hb.size; omega⟩
        rw [HX.out, hj, List.append_assoc, hd]
        rfl
      clear HX
      have hdo' := hide hdo
      clear hdo
      rcases (show k = 1 ∨ k = 2 ∨ k = 3 ∨ k = 4 by omega) with rfl | rfl | rfl | rfl
      · have ei : ((1 : Nat) : Int) - 1 = 0 := rfl
        rw [ei]
        go_wp2_with (at_builtin; refine wpList_append_byte _ w.heap.size xs.length wr.heap.size (xs.map vb) u5 (.tmp 13) (.tmp 21) rfl rfl rfl rfl rfl rfl hown (by omega) (by omega) ?_; intro v1 w1 hown1 hB1)
        refine ⟨hdo'.out 0 _ rfl ?_ _ _ hown1 hB1, by simp [intOf]⟩
        simp [i64_and255]
      · have ei : ((2 : Nat) : Int) - 1 = 1 := rfl
        rw [ei]
        go_wp2_with (at_builtin; refine wpList_append_byte _ w.heap.size xs.length wr.heap.size (xs.map vb) u5 (.tmp 13) (.tmp 21) rfl rfl rfl rfl rfl rfl hown (by omega) (by omega) ?_; intro v1 w1 hown1 hB1)
        refine ⟨hdo'.out 1 _ rfl ?_ _ _ hown1 hB1, by simp [intOf]⟩
        simp [i64_and255]
      · have ei : ((3 : Nat) : Int) - 1 = 2 := rfl
        rw [ei]
        go_wp2_with (at_builtin; refine wpList_append_byte _ w.heap.size xs.length wr.heap.size (xs.map vb) u5 (.tmp 13) (.tmp 21) rfl rfl rfl rfl rfl rfl hown (by omega) (by omega) ?_; intro v1 w1 hown1 hB1)
        refine ⟨hdo'.out 2 _ rfl ?_ _ _ hown1 hB1, by simp [intOf]⟩
        simp [i64_and255]
      · have ei : ((4 : Nat) : Int) - 1 = 3 := rfl
        rw [ei]
        go_wp2_with (at_builtin; refine wpList_append_byte _ w.heap.size xs.length wr.heap.size (xs.map vb) u5 (.tmp 13) (.tmp 21) rfl rfl rfl rfl rfl rfl hown (by omega) (by omega) ?_; intro v1 w1 hown1 hB1)
        refine ⟨hdo'.out 3 _ rfl ?_ _ _ hown1 hB1, by simp [intOf]⟩
        simp [i64_and255]
end Go.Proofs.YtdlpkphbgbffpaaDoor
