/-
  TupleTells returns true for whatever it is handed, and leaves what it was handed as it was.
  Conditions: none beyond the given statement's own (the library's tables, tied to the program's text by the card). The frame was written by a program after the kit's worked rows.
-/
import Derived.Test.YtdlpkphbgbffpaaDoorTupleTellsWalk
import Derived.Test.YtdlpkphbgbffpaaDoorFrame
import Derived.Test.YtdlpkphbgbffpaaDoorCards
import Derived.Test.YtdlpkphbgbffpaaDoorTie
import Derived.SevenTiedAt
import Derived.WalkKit
import Derived.ProofKit
import Derived.OpenShut
import Derived.ShutString
import Derived.ChangeOld
import Derived.ChangeVars
import Derived.JoinedOf
import Derived.JoinedAt
import Derived.RowKitTokens
import Derived.LaidLaws
import Derived.Below
namespace Go.Proofs.YtdlpkphbgbffpaaDoor.tupleTells
open Go.ChangeShapes Go.WideShapes Go.ChangeAt Go.RowKit
set_option linter.unusedVariables false
set_option linter.unusedSimpArgs false
set_option maxRecDepth 100000 in
theorem lifted (os : Os) (started : os.Started) (H : Type) (enc : TypeId × Value → H) :
    ReturnsInHanded {} Tryd.checked os 3 .any (fun w args => (Rows.tupleTellsSpec.pre enc Tryd.prog Tryd.f3 Rows.tupleTellsRow.domain false w args ∧ laidMet Tryd.prog laidL w) ∧ sizedMet enc Tryd.prog Tryd.f3 (OpenSpec.ofChange Rows.tupleTellsSpec) false w args)
      (Rows.tupleTellsSpec.post enc Tryd.prog Tryd.f3 false true false false) := by
  refine returnsInHanded_of_change_and (C := Tryd.checked) (X := fun w _ => laidMet Tryd.prog laidL w) (fun _ _ _ hh h => h.of_heap hh) own started (by kernel_rfl) Tryd.func3
    (ChangeSpec.witness_at (enc := enc) (C := Tryd.checked) (os := os) (X := fun w _ => laidMet Tryd.prog laidL w) false (laidWorld os) #[tv ⟨0, 0, 0, 0⟩, tv ⟨0, 0, 0, 0⟩, .slice none 0 0, .slice none 0 0] 8 rfl (by kernel_rfl) (by kernel_rfl) (by kernel_rfl) (by kernel_rfl) (by kernel_rfl) (laid_met os _)) ?_
  intro W base args ds gs before hval0 hW _ _ hL _
  have hval : ∀ (j : Nat) t v, Tryd.f3.params[j]? = some t → args[j]? = some v → Value.okWide Tryd.prog W .any base t v := hval0
  have hW' := hW
  obtain ⟨p, q, hA0, hV, rfl, hfz, hnd⟩ := hW
  have hA : DataW.TrodAll enc Tryd.prog W 0 (fun _ => true) true Tryd.f3.params.toList args.toList ds p := hA0
  rw [Tryd.params3] at hA hval
  obtain ⟨v0, vs0, d0, ds0, p0, q0, hargs, rfl, rfl, h0, r0⟩ := trodAll_cons hA
  obtain ⟨v1, vs1, d1, ds1, p1, q1, rfl, rfl, rfl, h1, r1⟩ := trodAll_cons r0
  obtain ⟨v2, vs2, d2, ds2, p2, q2, rfl, rfl, rfl, h2, r2⟩ := trodAll_cons r1
  obtain ⟨v3, vs3, d3, ds3, p3, q3, rfl, rfl, rfl, h3, r3⟩ := trodAll_cons r2
  obtain ⟨rfl, rfl, rfl⟩ := trodAll_nil r3
  obtain rfl : args = #[v0, v1, v2, v3] := by cases args; simp_all
  obtain ⟨rfl, rfl⟩ := trodVars_none hV
  have k0 := h0
  have lt0 : ∀ x ∈ p0, x.block < W.heap.size := by obtain ⟨m, hm⟩ := k0; exact DataW.trod_lt m _ _ _ hm
  have k1 := h1
  have lt1 : ∀ x ∈ p1, x.block < W.heap.size := by obtain ⟨m, hm⟩ := k1; exact DataW.trod_lt m _ _ _ hm
  have k2 := h2
  have lt2 : ∀ x ∈ p2, x.block < W.heap.size := by obtain ⟨m, hm⟩ := k2; exact DataW.trod_lt m _ _ _ hm
  have k3 := h3
  have lt3 : ∀ x ∈ p3, x.block < W.heap.size := by obtain ⟨m, hm⟩ := k3; exact DataW.trod_lt m _ _ _ hm
  obtain ⟨a0, rfl, i0⟩ := open_tup (hval 0 25 v0 rfl rfl) h0
  obtain ⟨a1, rfl, i1⟩ := open_tup (hval 1 25 v1 rfl rfl) h1
  obtain ⟨A2, n2, c2, rfl⟩ := okWide_slice Tryd.underlying26 (hval 2 26 v2 rfl rfl)
  obtain ⟨es2, hs2, i2⟩ : ∃ es : List Int, Sl W W.heap.size A2 n2 c2 (es.map vb) ∧ isB8 es := by
    obtain ⟨fuel, hf⟩ := h2
    exact open_row hf
  obtain ⟨A3, n3, c3, rfl⟩ := okWide_slice Tryd.underlying27 (hval 3 27 v3 rfl rfl)
  obtain ⟨es3, hs3, i3⟩ : ∃ es : List Tup, Ts W W.heap.size A3 n3 c3 es ∧ ∀ t ∈ es, t.In := by
    obtain ⟨fuel, hf⟩ := h3
    exact open_tups hf
  clear hA0 hval0
  refine (tupleTells_any a0 a1 A2 n2 c2 es2 A3 n3 c3 es3 W (tab_of_laid hL) i0 i1 hs2 i2 hs3 i3).mono fun e W' ⟨he, bel⟩ => ?_
  subst he
  exact ⟨_, rfl, _, _, _, [], _, [], hW', trodAll_mk1 (shut_bool Tryd.underlying4 _), (trodAll_cons_mk (Below.trod laidOut (by kernel_rfl) (of_decide_eq_true (by kernel_rfl)) k0 bel lt0) (trodAll_cons_mk (Below.trod laidOut (by kernel_rfl) (of_decide_eq_true (by kernel_rfl)) k1 bel lt1) (trodAll_cons_mk (Below.trod laidOut (by kernel_rfl) (of_decide_eq_true (by kernel_rfl)) k2 bel lt2) (trodAll_cons_mk (Below.trod laidOut (by kernel_rfl) (of_decide_eq_true (by kernel_rfl)) k3 bel lt3) trodAll_mk0)))), rfl, bel.frame _, fun h => by cases h⟩

theorem over : Rows.TupleTellsSaid :=
  OpenClaim.holds_of_wide 3 Tryd.f3 rfl rfl rfl rfl rfl rfl rfl ⟨rfl, rfl, rfl, rfl, rfl⟩ rfl rfl rfl rfl rfl (by kernel_rfl) Tryd.func3 (by kernel_rfl)
    (of_decide_eq_true (by kernel_rfl)) (by unfold Func.isWrapper; first | (rw [if_pos (by decide +kernel)]; kernel_rfl) | (rw [if_neg (by decide +kernel)]; exact ⟨rfl, rfl⟩))
    (fun os started H enc _ => lifted os started H enc)

/-- The statement: the tied card. -/
theorem proved : Rows.TupleTellsCardSaid :=
  Claim7.holds_tied_plain_at .later [] [.data, .data, .data] true (true, "74c852a1fc4665a42fa3bd76d982898befeea409a4a0739ba0e33c8899e5642f") false
    over (fun _ h => by cases h) (by kernel_rfl) (fun _ h => by cases h) tupleTells_row_tie rfl ⟨rfl, rfl⟩ (by kernel_rfl) rfl
    (fun f fn hf hfn => by
      obtain rfl : f = 3 := Option.some.inj ((show Tryd.prog.funcNamed "handfast/handfastlaw04.TupleTells" = some 3 by kernel_rfl).symm.trans hf) |>.symm
      obtain rfl : fn = Tryd.f3 := (Option.some.inj (Tryd.func3.symm.trans hfn)).symm
      refine ⟨by kernel_rfl, fun j t ht => ?_⟩
      rw [Tryd.params3] at ht
      match j, ht with
      | 0, ht => (obtain rfl : t = 25 := (by simpa using ht.symm)); exact (show Tryd.prog.wantsStandIn 25 = false by kernel_rfl)
      | 1, ht => (obtain rfl : t = 25 := (by simpa using ht.symm)); exact (show Tryd.prog.wantsStandIn 25 = false by kernel_rfl)
      | 2, ht => (obtain rfl : t = 26 := (by simpa using ht.symm)); exact (show Tryd.prog.wantsStandIn 26 = false by kernel_rfl)
      | 3, ht => (obtain rfl : t = 27 := (by simpa using ht.symm)); exact (show Tryd.prog.wantsStandIn 27 = false by kernel_rfl)
      | _ + 4, ht => (simp at ht))
    (by kernel_rfl)
#print axioms proved
end Go.Proofs.YtdlpkphbgbffpaaDoor.tupleTells
