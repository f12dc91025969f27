/-
  The walk of the iterator over entries that may be.
-/
import Derived.Test.YtaeffklmlllimaaRows
import Derived.Test.YtaeffklmlllimaaAppend
import Derived.Test.YtaeffklmlllimaaTail
import Derived.Shelf.Abstract
import Derived.Shelf.RegionOpen
import Derived.WalkKit
import Derived.OwnWalkIn
import Derived.TacticsInMore
import Derived.LoopNIn
import Derived.LoopIn
import Derived.WalkMore
import Derived.ScopeJumps
import Derived.Lib.Hide
import Derived.WalkSpells
import Derived.WalkLawsBesides
import Derived.Deep.QuietTactic
import Derived.BigQuiet
import Derived.Laws.Rows
import Derived.RangeFuncKeeps
import Derived.Test.YtaeffklmlllimaaRefMerge
namespace Go.Proofs.Ytaeffklmlllimaa
open Go Go.RowKit Go.Shelf
attribute [local go_sem] Oper.semAt_some

theorem grown_of_below {A B : World} (h : Below A.heap.size A B) : A.grownBy B none := ⟨h.os, h.tape, h.output, h.size, fun i hi _ => h.block i hi⟩

theorem fine_any (A : Option Addr) (len cap : Nat) (w : World) :
    Calls Try.prog 24 #[.slice A len cap] w fun e w' => e = .returned (.func (.func 25) #[] #[.pointer (some ⟨w.heap.size, 0, none⟩)]) ∧ w' = w.alloc (.cells #[.slice A len cap] 24) := by
  go_enter Try.func24, Try.ntmps24
  go_wp2
  go_ret
  exact ⟨rfl, rfl⟩

theorem filter_next {es : List Ent} {k : Nat} {x : Ent} (h : es[k]? = some x) : (es.take (k + 1)).filter rightB = (es.take k).filter rightB ++ (if rightB x then [x] else []) := by
  rw [List.take_add_one, h, List.filter_append]
  cases hr : rightB x <;> simp [hr]

set_option maxRecDepth 100000 in
set_option maxHeartbeats 1000000 in
theorem fine1_in (l Bs n₀ : Nat) (es : List Ent) (n c : Nat) (A : Option Addr) (J Jx : List Ent → World → Prop) (W : World)
    (hJ : AbidesFrom W.heap.size J) (_hJx : AbidesFrom W.heap.size Jx)
    (hY : ∀ pre x W1, J pre W1 → pre.length < es.length → YieldAt Fence.wide 8 Try.prog l #[ev x] W1 fun e W' =>
      (e = .returned (.bool true) ∧ J (pre ++ [x]) W' ∧ Below n₀ W1 W') ∨ (e = .returned (.bool false) ∧ Jx (pre ++ [x]) W'))
    (hb : Boxed W Bs 24 (.slice A n c)) (hs : Se W n₀ A n c es) (hn₀ : n₀ ≤ W.heap.size) (h0 : J [] W) :
    CallsIn Fence.wide 9 Try.prog 25 #[.func (.yield l) #[] #[], .pointer (some ⟨Bs, 0, none⟩)] W fun e W' => (∃ v, e = .returned v) ∧
      ((∃ xs, xs = es.filter rightB ∧ J xs W') ∨ (∃ pre, True ∧ Jx pre W')) := by
  have hlen : es.length = n := hs.1
  have hn63 := hs.n63
  have HL := hide hlen
  clear hlen
  have hc := hb.cell
  refine callsIn_of_wp Try.func25 rfl trivial ?_ rfl
  simp only [Try.ntmps25, List.size_toArray, List.length_cons, List.length_nil, Nat.reduceAdd, Nat.reduceSub, Array.replicate_succ, Array.replicate_zero, List.push_toArray, List.append_toArray, List.nil_append, List.cons_append]
  gi_wp2
  gi_loopw [7] (fun i wr => ∃ k : Nat, k ≤ n ∧ i = .int .i64 k ∧ J ((es.take k).filter rightB) wr ∧ Below n₀ W wr) (fun i _ => n - (intOf i).toNat)
  case atStart => exact ⟨0, Nat.zero_le _, rfl, h0, Below.refl _ _⟩
  case round =>
    obtain ⟨k, hk, rfl, hJk, hB⟩ := hrel
    by_cases hlt : k < n
    · obtain ⟨b, off, x, rfl, hbb, hx, c0, c1, c2, c3⟩ := (hs.below hB).at_ hlt
      have HF := hide (filter_next hx)
      clear hx
      have hflen : ((es.take k).filter rightB).length < es.length := by
        have h1 := List.length_filter_le rightB (es.take k)
        have h2 := List.length_take_le k es
        rw [HL.out]
        omega
      have hJ0 := hide (fun (W1 : World) (h : J ((es.take k).filter rightB) W1) => hY _ x W1 h hflen)
      clear hflen
      cases hr : rightB x
      · rw [hr] at HF
        gi_wp2_with (refine ⟨trivial, ?_⟩; gi_at_call 8; refine (callsIn_wide.2 (right_val _ _ hr _)).mono ?_; rintro e w2 ⟨rfl, hB2⟩)
        have hg2 : Below wr.heap.size wr w2 := ((Below.refl _ wr).alloc (Nat.le_refl _) _).trans (hB2.mono (by simp))
        refine ⟨by simp, ?_⟩
        gi_wp2
        refine ⟨⟨k + 1, by omega, by go_num, ?_, hB.trans (hg2.mono (Nat.le_trans hn₀ hB.size))⟩, by simp [intOf]; omega⟩
        rw [HF.out]
        simp only [Bool.false_eq_true, if_false, List.append_nil]
        exact hJ _ _ _ none hJk (grown_of_below hg2) (fun r e => by cases e)
      · rw [hr] at HF
        gi_wp2_with (refine ⟨trivial, ?_⟩; gi_at_call 8; refine (callsIn_wide.2 (right_val _ _ hr _)).mono ?_; rintro e w2 ⟨rfl, hB2⟩; have hg2 : Below wr.heap.size wr w2 := ((Below.refl _ wr).alloc (Nat.le_refl _) _).trans (hB2.mono (by simp)); have hbx : Bx w2 wr.heap.size x := (Bx.new wr _ _ _ _).below hB2 (by simp); have d0 := hbx.c0; have d1 := hbx.c1; have d2 := hbx.c2; have d3 := hbx.c3; obtain ⟨fn, tmps, assign, body, hy, hR⟩ := hJ0.out w2 (hJ _ _ _ none hJk (grown_of_below hg2) (fun r e => by cases e)); have hR' := round_bool hR; clear hR)

        refine hR'.mono ?_
        rintro e W3 ⟨t, rfl, hyes, hno⟩
        cases t with
        | false =>
          have hx3 := hno rfl
          clear hyes hno
          gi_wp2
          refine bodyPost_ret (results_none rfl _ _ _) rfl ?_
          exact ⟨⟨_, rfl⟩, .inr ⟨_, trivial, hx3⟩⟩
        | true =>
          obtain ⟨hJ3, hk3⟩ := hyes rfl
          clear hyes hno
          gi_wp2
          refine ⟨⟨k + 1, by omega, by go_num, ?_, (hB.trans (hg2.mono (Nat.le_trans hn₀ hB.size))).trans hk3⟩, by simp [intOf]; omega⟩
          rw [HF.out]
          exact hJ3
    · obtain rfl : k = n := by omega
      rw [List.take_of_length_le (by rw [HL.out]; omega)] at hJk
      gi_wp2
      go_end0
      exact ⟨⟨_, rfl⟩, .inl ⟨_, rfl, hJk⟩⟩

/-- What 'fine' hands back, as an iterator. -/
theorem fine_stops (Bs n₀ : Nat) (es : List Ent) (n c : Nat) (A : Option Addr) (w : World) (hb : Boxed w Bs 24 (.slice A n c)) (hs : Se w n₀ A n c es) (hn : n₀ ≤ w.heap.size) :
    SeqStopsK Fence.wide 9 Try.prog 25 #[.pointer (some ⟨Bs, 0, none⟩)] (fun x : Ent => #[ev x]) (Below n₀) (fun xs => xs = es.filter rightB) (fun _ => True) es.length w :=
  fun l J Jx W hW hJ hJx hY h0 =>
    fine1_in l Bs n₀ es n c A J Jx W hJ hJx hY ((hW.block Bs hb.lt).trans hb) (hs.below (hW.mono hn)) (Nat.le_trans hn hW.size) h0
end Go.Proofs.Ytaeffklmlllimaa
