/-
  A region that draws its order, inside a round: what is shown of it in the plain calculus holds there.
-/
import Derived.Test.YtdlpkphbgbffpaaDoorTake
import Derived.Test.YtdlpkphbgbffpaaDoorTail
namespace Go.Proofs.YtdlpkphbgbffpaaDoor
open Go Go.RowKit

variable {P : Program} {ops : Array Oper} {md : Region.Mode} {Q : Exit → Act → World → Prop} {S : World → Prop} {n : Nat} {F : Fence}

/-- Rows of the library go through the fence. -/
def WideRows (F : Fence) (P : Program) : Prop := ∀ (n : Nat) (row : String) (args : Array Value) (w : World) (R : Value → World → Prop), Rows P row args w R → RowsIn F n P row args w R
theorem wideRows_round (P : Program) (l : Nat) : WideRows (Fence.wide.inRound l) P := fun _ _ _ _ _ h c cs _ => by
  obtain ⟨v, w', r, s⟩ := h c cs
  refine ⟨v, w', r, ?_⟩
  rw [fenced_inRound]
  exact stepsIn_wide.2 s

theorem operIn_of_wp (hW : Wide F P) (hR : WideRows F P) {o : Oper} (hd : ∀ c, o.op ≠ .defer c) {a : Act} {w : World} {K : Act → World → Prop} (h : o.wp P a w K Q) : o.wpIn F n P a w K Q := by
  unfold Oper.wp at h
  unfold Oper.wpIn
  refine ⟨fun f _ => hW.fn f, ?_⟩
  rw [Oper.semAt_eq F.round a.eval o hd]
  have hD : F.depth.isSome = true → 1 ≤ n := fun hs => by rw [hW.depth] at hs; cases hs
  generalize (execOp a.eval o).run P w = r at h
  cases r with
  | ok x w' =>
    cases x <;> simp only [Oper.upon, Oper.uponIn] at h ⊢ <;>
      first
        | exact h
        | exact ⟨hD, hW.calls _ _ _ _ _ h⟩
        | exact ⟨hD, hR _ _ _ _ _ h⟩
  | halt x w' => cases x <;> simp only [Oper.upon, Oper.uponIn] at h ⊢ <;> exact h

theorem opIn_of_wp (hW : Wide F P) (hR : WideRows F P) (hL : ¬ LetsOut Q) (hd : noDefer ops = true) {i : Nat} {a : Act} {w : World} {K K' : Act → World → Prop} (hK : ∀ a w, K a w → K' a w) (h : wpOp P ops Q i K a w) : wpOpIn F n P ops Q i K' a w := by
  unfold wpOp at h
  unfold wpOpIn
  cases hi : ops[i]? with
  | none => simp only [hi] at h ⊢; exact hK _ _ h
  | some o =>
    simp only [hi] at h ⊢
    split
    · rename_i hw
      rw [if_pos hw] at h
      exact Oper.wpIn_mono hK (operIn_of_wp hW hR (noDefer_spec hd hi) (h.resolve_right fun x => hL x.2))
    · rename_i hw
      rw [if_neg hw] at h
      exact ⟨fun f _ => hW.fn f, hK _ _ h⟩

theorem anyIn_of_wpAny (hW : Wide F P) (hR : WideRows F P) (hL : ¬ LetsOut Q) (hd : noDefer ops = true) : ∀ (fuel : Nat) (listed : Array Bool) (a : Act) (w : World), wpAny P md ops Q fuel listed a w → wpAnyIn F n P md ops Q fuel listed a w
  | 0, _, _, _, h => h
  | fuel + 1, _, _, _, h => ⟨h.1, fun i hi => opIn_of_wp hW hR hL hd (fun a' w' h' => anyIn_of_wpAny hW hR hL hd fuel _ a' w' h') (h.2 i hi)⟩

theorem regionIn_held (hW : Wide F P) (hR : WideRows F P) (hL : ¬ LetsOut Q) {id : Nat} {a : Act} {w : World} (hd : noDefer ops = true) (hm : P.follows .mixedOrders = true) (hS : S w.drew)
    (h : S w.drew → wpAnyH P .any ops Q S ops.size (Array.replicate ops.size false) a w.drew) : (Code.region id ops true).wpIn F n P Q a w :=
  wpIn_region_any hm (anyIn_of_wpAny hW hR hL hd _ _ _ _ (wpAny_of_held _ _ _ _ (h hS)))
theorem regionIn_any (hW : Wide F P) (hR : WideRows F P) (hL : ¬ LetsOut Q) {id : Nat} {a : Act} {w : World} (hd : noDefer ops = true) (hm : P.follows .mixedOrders = true)
    (h : wpAny P .any ops Q ops.size (Array.replicate ops.size false) a w.drew) : (Code.region id ops true).wpIn F n P Q a w :=
  wpIn_region_any hm (anyIn_of_wpAny hW hR hL hd _ _ _ _ h)
theorem regionIn_as {id : Nat} {b : Bool} {R : Array Oper} {a : Act} {w : World} (h : ops = R) (k : (Code.region id R b).wpIn F n P Q a w) : (Code.region id ops b).wpIn F n P Q a w := h ▸ k
/-- A condition that says more may be held from here on. -/
theorem anyH_mono {S' : World → Prop} (hS : ∀ W, S' W → S W) : ∀ (fuel : Nat) (listed : Array Bool) (a : Act) (w : World), wpAnyH P md ops Q S' fuel listed a w → wpAnyH P md ops Q S fuel listed a w
  | 0, _, _, _, h => h
  | fuel + 1, _, _, _, h => ⟨h.1, fun i hi => wpOp_mono (fun a' w' h' => ⟨hS _ h'.1, anyH_mono hS fuel _ a' w' h'.2⟩) (h.2 i hi)⟩
end Go.Proofs.YtdlpkphbgbffpaaDoor
