/-
  The iterator over states.
-/
import Derived.Test.YtigpdkbfailadaaRows
import Derived.Test.YtigpdkbfailadaaAppend
import Derived.Test.YtigpdkbfailadaaTail
import Derived.Shelf.Abstract
import Derived.Shelf.RegionOpen
import Derived.WalkKit
import Derived.OwnWalkIn
import Derived.TacticsInMore
import Derived.LoopNIn
import Derived.LoopIn
import Derived.WalkMore
import Derived.ScopeJumps
import Derived.Lib.Hide
import Derived.WalkSpells
import Derived.WalkLawsBesides
import Derived.Deep.QuietTactic
import Derived.BigQuiet
import Derived.Laws.Rows
import Derived.Test.YtigpdkbfailadaaMems
import Derived.Test.YtigpdkbfailadaaSmall
namespace Go.Proofs.Ytigpdkbfailadaa
open Go Go.RowKit Go.Shelf
set_option linter.unusedSimpArgs false
set_option linter.unusedVariables false
attribute [local go_sem] Oper.semAt_some

/-- A kind's states, by numbers. -/
def st (m : Mm) (lo n : Nat) : List (Nat × Int) := (List.range n).map fun i => (i, m (lo + i))
theorem st_length (m : Mm) (lo n : Nat) : (st m lo n).length = n := by simp [st]
theorem st_succ (m : Mm) (lo n : Nat) : st m lo (n + 1) = st m lo n ++ [(n, m (lo + n))] := by simp [st, List.range_succ]

/-- What a round is handed. -/
def Next (m : Mm) (lo n : Nat) (pre : List (Nat × Int)) (x : Nat × Int) : Prop := pre.length < n ∧ pre = st m lo pre.length ∧ x = (pre.length, m (lo + pre.length))

/-- What a round keeps: the members and the box of the slice. -/
def Keep2 (g Bs : Nat) (A B : World) : Prop := B.heap[g]? = A.heap[g]? ∧ B.heap[Bs]? = A.heap[Bs]?
theorem Keep2.refl (g Bs : Nat) (A : World) : Keep2 g Bs A A := ⟨rfl, rfl⟩
theorem Keep2.trans {g Bs : Nat} {A B C : World} (h : Keep2 g Bs A B) (k : Keep2 g Bs B C) : Keep2 g Bs A C := ⟨k.1.trans h.1, k.2.trans h.2⟩
theorem Keep2.put {g Bs : Nat} {w : World} (hg : g < w.heap.size) (hB : Bs < w.heap.size) (W : World) (l : Nat) (o o' : Obj) (hl : w.heap.size ≤ l) (_h : W.heap[l]? = some o) (_h1 : o.isCells = false) (_h2 : o.isWalk = false) : Keep2 g Bs W (W.putObj l o') :=
  ⟨World.putObj_heap_other (by omega), World.putObj_heap_other (by omega)⟩
theorem Keep2.below {g Bs n : Nat} {A B : World} (h : Below n A B) (hg : g < n) (hB : Bs < n) : Keep2 g Bs A B := ⟨h.block g hg, h.block Bs hB⟩

set_option maxRecDepth 100000 in
set_option maxHeartbeats 1000000 in
theorem states1_in (l Bs g lo n : Nat) (m : Mm) (hn : lo + n ≤ 9) (J Jx : List (Nat × Int) → World → Prop)
    (hY : ∀ pre x W1, J pre W1 → Next m lo n pre x → YieldAt Fence.wide 8 Try.prog l #[.int .i64 (x.1 : Int), u8v x.2] W1 fun e W' =>
      (e = .returned (.bool true) ∧ J (pre ++ [x]) W' ∧ Keep2 g Bs W1 W') ∨ (e = .returned (.bool false) ∧ Jx (pre ++ [x]) W'))
    (W : World) (hb : Boxed W Bs 59 (.slice (some ⟨g, lo, none⟩) n n)) (hm : Mx W g m) (h0 : J [] W) :
    CallsIn Fence.wide 9 Try.prog 37 #[.func (.yield l) #[] #[], .pointer (some ⟨Bs, 0, none⟩)] W fun e W' => (∃ v, e = .returned v) ∧
      ((∃ xs, xs = st m lo n ∧ J xs W') ∨ (∃ pre, True ∧ Jx pre W')) := by
  have hc := hb.cell
  have n63 : n ≤ 9223372036854775807 := by omega
  refine callsIn_of_wp Try.func37 rfl trivial ?_ rfl
  simp only [Try.ntmps37, List.size_toArray, List.length_cons, List.length_nil, Nat.reduceAdd, Nat.reduceSub, Array.replicate_succ, Array.replicate_zero, List.push_toArray, List.append_toArray, List.nil_append, List.cons_append]
  gi_wp2
  gi_loopw [7] (fun i wr => ∃ k : Nat, k ≤ n ∧ i = .int .i64 k ∧ J (st m lo k) wr ∧ Keep2 g Bs W wr) (fun i _ => n - (intOf i).toNat)
  case atStart => exact ⟨0, Nat.zero_le _, rfl, h0, Keep2.refl _ _ _⟩
  case round =>
    obtain ⟨k, hk, rfl, hJk, hBk⟩ := hrel
    by_cases hlt : k < n
    · have hmk : Mx wr g m := hBk.1.trans hm
      have ck := hmk.at_ (i := lo + k) (by omega)
      have HS := hide (st_succ m lo k)
      obtain ⟨fn, tmps, assign, body, hy, hR⟩ := hY (st m lo k) (k, m (lo + k)) wr hJk ⟨by rw [st_length]; exact hlt, by rw [st_length], by rw [st_length]⟩
      have hR' := round_bool hR
      clear hR
      dsimp only at hy
      gi_wp2
      refine hR'.mono ?_
      rintro e W3 ⟨t, rfl, hyes, hno⟩
      cases t with
      | false =>
        have hx3 := hno rfl
        clear hyes hno
        gi_wp2
        refine bodyPost_ret (results_none rfl _ _ _) rfl ?_
        exact ⟨⟨_, rfl⟩, .inr ⟨_, trivial, hx3⟩⟩
      | true =>
        obtain ⟨hJ3, hk3⟩ := hyes rfl
        clear hyes hno
        gi_wp2
        exact ⟨⟨k + 1, by omega, by go_num, by rw [HS.out]; exact hJ3, hBk.trans hk3⟩, by simp [intOf]; omega⟩
    · obtain rfl : k = n := by omega
      gi_wp2
      go_end0
      exact ⟨⟨_, rfl⟩, .inl ⟨_, rfl, hJk⟩⟩

/-- What 'states' hands back, as an iterator. -/
theorem states_stops (Bs g lo n : Nat) (m : Mm) (hn : lo + n ≤ 9) (w : World) (hb : Boxed w Bs 59 (.slice (some ⟨g, lo, none⟩) n n)) (hm : Mx w g m) :
    SeqStopsB Fence.wide 9 Try.prog 37 #[.pointer (some ⟨Bs, 0, none⟩)] (fun x : Nat × Int => #[.int .i64 (x.1 : Int), u8v x.2]) none (Keep2 g Bs) (fun xs => xs = st m lo n) (fun _ => True) (Next m lo n) w :=
  fun l J Jx W hW _ _ hY h0 =>
    states1_in l Bs g lo n m hn J Jx hY W ((hW.block Bs hb.lt).trans hb) (hm.below hW hm.lt) h0
end Go.Proofs.Ytigpdkbfailadaa
