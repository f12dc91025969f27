/-
  A region that draws its order, inside the wide fence: operations that only read (or call quietly) come first in whatever order; behind them a tail in one forced order. The kit's 'wp_region_still_tail', inside a fence.
-/
import Derived.StillTailTactics
import Derived.OrdersIn
import Derived.TacticsIn
import Derived.RangeFuncCalls
namespace Go.Proofs.YtdlpkphbgbffpaaDoor
open Go Go.RowKit

variable {P : Program} {ops : Array Oper} {md : Region.Mode} {w : World} {n : Nat} {F : Fence}

/-- What is asked of the fence: it lets every function in, and a plain contract holds inside it. -/
structure Wide (F : Fence) (P : Program) : Prop where
  fn : ∀ f, F.fn f
  depth : F.depth = none
  calls : ∀ (n : Nat) (f : FuncId) (args : Array Value) (w : World) (R : Ending → World → Prop), Calls P f args w R → CallsIn F n P f args w R

theorem wide_wide (P : Program) : Wide Fence.wide P := ⟨fun _ => trivial, rfl, fun _ _ _ _ _ h => callsIn_wide.2 h⟩
theorem wide_round (P : Program) (l : Nat) : Wide (Fence.wide.inRound l) P := ⟨fun _ => trivial, rfl, fun _ _ _ _ _ h => CallsIn.inRound l (callsIn_wide.2 h)⟩

def noDefer (ops : Array Oper) : Bool := ops.toList.all fun o => match o.op with | .defer _ => false | _ => true

theorem noDefer_spec (h : noDefer ops = true) {i : Nat} {o : Oper} (hi : ops[i]? = some o) (c : Call) : o.op ≠ .defer c := by
  intro e
  have hm : o ∈ ops.toList := by
    rw [← Array.getElem?_toList] at hi
    exact List.mem_of_getElem? hi
  have := List.all_eq_true.1 h o hm
  rw [e] at this
  cases this

theorem wpOpIn_of_stOp (hW : Wide F P) (hd : noDefer ops = true) {i : Nat} {a : Act} {K : Act → Prop} {K' : Act → World → Prop} {Q' : Exit → Act → World → Prop} (h : ∀ a, K a → K' a w) (hh : stOp P ops w i K a) :
    wpOpIn F n P ops Q' i K' a w := by
  unfold wpOpIn
  cases hi : ops[i]? with
  | none =>
    unfold stOp at hh
    simp only [hi] at hh
    exact h _ hh
  | some o =>
    simp only []
    obtain ⟨v, hy, hK⟩ := yieldsAt_of_stOp hi hh
    rcases hy with ⟨hw, hv⟩ | ⟨hw, rfl⟩
    · simp only [hw, if_true, Oper.wpIn]
      refine ⟨fun f _ => hW.fn f, ?_⟩
      rw [Oper.semAt_eq F.round a.eval o (noDefer_spec hd hi)]
      rcases hv with hv | ⟨hv, rfl⟩ | ⟨f, args, hv, hc⟩
      · rw [hv]; exact h _ hK
      · rw [hv]; exact h _ hK
      · rw [hv]
        refine ⟨fun hs => by rw [hW.depth] at hs; simp at hs, ?_⟩
        refine (hW.calls _ _ _ _ _ hc).mono ?_
        rintro e w'' ⟨rfl, rfl⟩
        exact h _ hK
    · simp only [hw, Bool.false_eq_true, if_false]
      exact ⟨fun f _ => hW.fn f, h _ hK⟩

theorem wpAnyIn_of_head (hW : Wide F P) (hd : noDefer ops = true) {k g : Nat} {L : Array Bool → Act → Prop} {Q' : Exit → Act → World → Prop} (hL : ∀ listed a, L listed a → wpAnyIn F n P md ops Q' g listed a w) :
    ∀ (f : Nat) (listed : Array Bool) (a : Act), wpAnyL P md ops w k L f listed a → wpAnyIn F n P md ops Q' (f + g) listed a w
  | 0, listed, a, h => by rw [Nat.zero_add]; exact hL _ _ h
  | f + 1, listed, a, h => by
    rw [show f + 1 + g = (f + g) + 1 by omega]
    exact ⟨fun h0 => absurd h0 h.1, fun i hi => wpOpIn_of_stOp hW hd (fun a' h' => wpAnyIn_of_head hW hd hL f _ a' h') (h.2 i hi).2⟩

theorem wpAnyIn_of_seq {Q' : Exit → Act → World → Prop} : ∀ (l : List Oper) (k : Nat) (listed : Array Bool) (a : Act) (w : World), (∀ j, l[j]? = ops[k + j]?) →
    Region.seqB md ops l.length k listed = true → wpListIn F n P ops Q' l a w → wpAnyIn F n P md ops Q' l.length listed a w
  | [], _, _, _, _, _, hB, h => ⟨by simpa [Region.seqB] using hB, h⟩
  | o :: l, k, listed, a, w, hl, hB, h => by
    have h0 : ops[k]? = some o := by simpa using (hl 0).symm
    simp only [List.length_cons, Region.seqB, Bool.and_eq_true, decide_eq_true_eq] at hB
    refine ⟨fun h1 => (by rw [hB.1] at h1; cases h1), fun i hi => ?_⟩
    rw [hB.1] at hi
    have hik : i = k := by simpa using hi
    subst hik
    have hw : wpOpIn F n P ops Q' i (wpListIn F n P ops Q' l) a w := by
      unfold wpOpIn
      simp only [h0]
      exact h
    exact wpOpIn_mono (fun a' w' h' => wpAnyIn_of_seq l (i + 1) _ a' w' (fun j => by have := hl (j + 1); simpa [Nat.add_assoc, Nat.add_comm 1 j] using this) hB.2 h') hw

theorem wpIn_region_still_tail (hW : Wide F P) {id : Nat} {Q : Exit → Act → World → Prop} {a : Act} {l : List Oper} (k : Nat) (hm : P.follows .mixedOrders = true) (hB : (Region.lexTailB .any l.toArray k && noDefer l.toArray) = true)
    (h : wpStill P l.toArray w.drew (fun a' => wpListIn F n P l.toArray Q (l.drop k) a' w.drew) (l.take k) a) : (Code.region id l.toArray true).wpIn F n P Q a w := by
  simp only [Region.lexTailB, Bool.and_eq_true, decide_eq_true_eq] at hB
  obtain ⟨⟨⟨⟨⟨hsel, hn⟩, hs⟩, hc⟩, hlex⟩, hd⟩ := hB
  have hn' : k < l.length := by simpa using hn
  have htl : (l.take k).length = k := by simp; omega
  have hdl : (l.drop k).length = l.toArray.size - k := by simp
  have inv0 : HeadInv .any l.toArray k (Array.replicate l.toArray.size false) :=
    ⟨by simp, fun j oj _ hl => (by rw [getD_replicate_false] at hl; cases hl), fun t _ ht => getD_in (by simpa using ht) (getD_replicate_false _ _)⟩
  have H := wpAnyL_lex (md := .any) (g := l.toArray.size - k) hsel hs hc hn (l.take k) 0 _ a (fun j hj => by
    have hj' : j < k := by rw [htl] at hj; exact hj
    simp [hj']) (by simpa using htl) inv0 (by rw [htl]; exact hlex) h
  refine wpIn_region_any hm ?_
  have := wpAnyIn_of_head (F := F) (n := n) hW hd (Q' := Q) (g := l.toArray.size - k) (fun listed a' hL => by
    have := wpAnyIn_of_seq (F := F) (n := n) (P := P) (md := .any) (Q' := Q) (l.drop k) k listed a' w.drew (fun j => by simp [List.getElem?_drop]) (by rw [hdl]; exact hL.1) hL.2
    rwa [hdl] at this) _ _ _ H
  rw [htl, show k + (l.toArray.size - k) = l.toArray.size by omega] at this
  exact this

end Go.Proofs.YtdlpkphbgbffpaaDoor
