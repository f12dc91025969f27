/-
  append onto a row of tuples of the call's own; the plain law of insertion.
-/
import Derived.Test.YtdlpkphbgbffpaaDoorSorted
import Derived.Test.YtdlpkphbgbffpaaDoorAppend
namespace Go.Proofs.YtdlpkphbgbffpaaDoor
open Go Go.RowKit Go.Shelf
set_option linter.unusedSimpArgs false
set_option linter.unusedVariables false
attribute [local go_sem] Oper.semAt_some
/-- A row of tuples of the call's own. -/
def Own (W : World) (base : Nat) (v : Value) (os : List Tup) : Prop := W.ownsRow base 25 4 v os.length (os.flatMap encT)
theorem Own.ts {W : World} {base : Nat} {v : Value} {os : List Tup} (h : Own W base v os) : ∃ A c, v = .slice A os.length c ∧ Ts W W.heap.size A os.length c os := by
  rcases h.2 with ⟨rfl, h0⟩ | ⟨g, cap, cur, rfl, hb, hg, hnc, hcm, hcs, htake⟩
  · obtain rfl : os = [] := List.eq_nil_of_length_eq_zero h0
    exact ⟨none, 0, rfl, Ts.nil _ _⟩
  · refine ⟨_, cap, rfl, rfl, hnc, hcm, fun hn => ⟨g, 0, rfl, (Array.getElem?_eq_some_iff.1 hg).1, fun j t hj => At4.of fun i u hu => ?_⟩⟩
    have hi : i < 4 := (List.getElem?_eq_some_iff.1 hu).1
    have hjl := (List.getElem?_eq_some_iff.1 hj).1
    have hf : (os.flatMap encT)[j * 4 + i]? = some u := by
      rw [flat_at, show (j * 4 + i) / 4 = j by omega, show (j * 4 + i) % 4 = i by omega, hj]
      exact hu
    rw [← htake, List.getElem?_take, if_pos (by omega)] at hf
    rw [show 0 + j * 4 + i = j * 4 + i by omega, cell_of_row W g _ cur 25 (0, 0) hg]
    simpa using hf
theorem run_append_none (W : World) (base : Nat) (v : Value) (os : List Tup) (h : Own W base v os) (c : Nat) : (Builtin.append_ #[27, 27] 27 #[v, .slice none 0 c]).run Tryd.prog W = .ok v W := by
  obtain ⟨i0, hi, _, _, _⟩ := info_parts' infoT
  have hu := Tryd.underlying27
  rcases h.2 with ⟨rfl, h0⟩ | ⟨g, cap, cur, rfl, _, _, hnc, _⟩
  · simp [Builtin.append_, run_underlying hu, sizeOf, typeInfo, hi, Builtin.lenOf, Builtin.firstCells]
  · simp [Builtin.append_, run_underlying hu, sizeOf, typeInfo, hi, Builtin.lenOf, Builtin.firstCells, hnc, storeCells]
theorem run_append_ts (W : World) (base : Nat) (v : Value) (os : List Tup) (h : Own W base v os) (B : Nat) (A : Option Addr) (m c : Nat) (ns : List Tup) (hr : Ts W B A m c ns) (hl : os.length + ns.length ≤ 1000) (hbase : base ≤ W.heap.size) :
    ∃ v' w', (Builtin.append_ #[27, 27] 27 #[v, .slice A m c]).run Tryd.prog W = .ok v' w' ∧ Own w' base v' (os ++ ns) ∧ Below base W w' ∧ W.heap.size ≤ w'.heap.size := by
  have hm : ns.length = m := hr.1
  have ge : ∀ k, v.ownBlock = some k → base ≤ k := by
    intro k hk
    rcases h.2 with ⟨rfl, _⟩ | ⟨g, cap, cur, rfl, hgb, _⟩
    · simp [Value.ownBlock] at hk
    · have : g = k := by simpa [Value.ownBlock] using hk
      omega
  rcases A with _ | ad
  · have hm0 : m = 0 := by
      rcases Nat.eq_zero_or_pos m with h0 | h0
      · exact h0
      · obtain ⟨_, _, h, _⟩ := hr.2.2.2 h0
        cases h
    subst hm0
    have hn : ns = [] := List.eq_nil_of_length_eq_zero hm
    subst hn
    exact ⟨v, W, run_append_none W base v os h c, by simpa using h, Below.refl _ _, Nat.le_refl _⟩
  · obtain ⟨i0, hi, hz0, hz1, hz2⟩ := info_parts' infoT
    have hcells : ∀ j u, (ns.flatMap encT)[j]? = some u → W.cell? (ad.add j) = some u := by
      intro j u hj
      have hjl : 0 < m := by
        have := (List.getElem?_eq_some_iff.1 hj).1
        rw [flat_length] at this
        omega
      obtain ⟨b, off, e, _, _⟩ := hr.2.2.2 hjl
      cases e
      have e2 : (⟨b, off, none⟩ : Addr).add j = ⟨b, off + j, none⟩ := by
        unfold Addr.add
        split
        · rename_i h0; subst h0; rfl
        · rfl
      rw [e2]
      exact hr.flat j u hj
    obtain ⟨v', w', hrun, h2, h3, _, h5⟩ := run_append_own_at (P := Tryd.prog) W base 27 27 25 i0 (tv ⟨0, 0, 0, 0⟩) 4 12 Tryd.underlying27 hi hz0 hz1 hz2 rfl (by omega) v os.length (os.flatMap encT) h ad m c (ns.flatMap encT) (by rw [flat_length, hm]) hcells
      (fun u hu => by obtain ⟨t, _, ht⟩ := List.mem_flatMap.1 hu; exact encT_one t u ht) (by unfold maxLen; omega) (by omega) hbase
    refine ⟨v', w', hrun, ?_, (Below.refl base W).grown h3 hbase ge, h3.size⟩
    unfold Own
    rw [List.length_append, List.flatMap_append, hm]
    exact h2
theorem wpList_append_ts {W : World} {ops : Array Oper} {rest : List Oper} {o : Oper} {a : Act} {Q : Exit → Act → World → Prop} (hgd : o.guard = none) (s x : Operand)
    (ho : o.op = .call { callee := .builtin .append, args := #[s, x], argTypes := #[27, 27] }) (hot : o.type = 27)
    (base : Nat) (v : Value) (os : List Tup) (hs : a.eval s = v) (h : Own W base v os) (B : Nat) (A : Option Addr) (m c : Nat) (ns : List Tup) (hx : a.eval x = .slice A m c) (hr : Ts W B A m c ns) (hl : os.length + ns.length ≤ 1000) (hbase : base ≤ W.heap.size)
    (hK : ∀ v' w', Own w' base v' (os ++ ns) → Below base W w' → W.heap.size ≤ w'.heap.size → wpList Tryd.prog ops Q rest (a.put o.dst v') w') : wpList Tryd.prog ops Q (o :: rest) a W := by
  obtain ⟨v', w', hrun, h2, h3, h4⟩ := run_append_ts W base v os h B A m c ns hr hl hbase
  refine wpList_plain hgd fun _ hK' => ?_
  unfold Oper.wp execOp
  simp only [ho, hot, resolve, invoke, builtin, Sem.run_bind, Sem.run_pure, Result.andThen_ok, List.map_toArray, List.map_cons, List.map_nil, hs, hx, hrun]
  exact hK' _ _ (hK v' w' h2 h3 h4)
/-- The tuples in order with one more laid in. -/
theorem insert_sorted {os : List Tup} {x : Tup} {k : Nat} (hk : k ≤ os.length) (hs : os.Pairwise (fun a b => leT a b = true)) (h1 : ∀ j t, k ≤ j → os[j]? = some t → ltT x t) (h2 : ∀ t, 0 < k → os[k - 1]? = some t → ¬ ltT x t) : (os.take k ++ [x] ++ os.drop k).Pairwise (fun a b => leT a b = true) := by
  have hp := List.pairwise_iff_getElem.1 hs
  have lt' : ∀ a ∈ os.take k, ¬ ltT x a := by
    intro a ha
    obtain ⟨j, hj⟩ := List.mem_iff_getElem?.1 ha
    rw [List.getElem?_take] at hj
    split at hj
    · rename_i hjk
      obtain ⟨hj1, rfl⟩ := List.getElem?_eq_some_iff.1 hj
      have hk1 : k - 1 < os.length := by omega
      have h3 := h2 os[k - 1] (by omega) (List.getElem?_eq_getElem hk1)
      rcases Nat.lt_or_ge j (k - 1) with h | h
      · have h4 := (leT_iff _ _).1 (hp j (k - 1) hj1 hk1 h)
        intro h5
        exact h3 (by unfold ltT at *; omega)
      · have : j = k - 1 := by omega
        subst this
        exact h3
    · cases hj
  have gt' : ∀ b ∈ os.drop k, ltT x b := by
    intro b hb
    obtain ⟨j, hj⟩ := List.mem_iff_getElem?.1 hb
    rw [List.getElem?_drop] at hj
    exact h1 (k + j) b (by omega) hj
  rw [List.append_assoc, List.pairwise_append]
  refine ⟨hs.sublist (List.take_sublist _ _), ?_, ?_⟩
  · rw [List.singleton_append, List.pairwise_cons]
    exact ⟨fun b hb => (leT_iff _ _).2 (fun h => by have := gt' b hb; unfold ltT at *; omega), hs.sublist (List.drop_sublist _ _)⟩
  · intro a ha b hb
    rw [List.singleton_append, List.mem_cons] at hb
    rcases hb with rfl | hb
    · exact (leT_iff _ _).2 (lt' a ha)
    · exact (leT_iff _ _).2 (fun h => lt' a ha (by have := gt' b hb; unfold ltT at *; omega))
theorem insert_perm {os ts : List Tup} {x : Tup} {i k : Nat} (hp : os.Perm (ts.take i)) (hx : ts[i]? = some x) : (os.take k ++ [x] ++ os.drop k).Perm (ts.take (i + 1)) := by
  rw [List.take_add_one, hx]
  have h1 : (os.take k ++ [x] ++ os.drop k).Perm (x :: os) := by
    have := List.perm_middle (a := x) (l₁ := os.take k) (l₂ := os.drop k)
    rw [List.take_append_drop] at this
    simpa using this
  refine h1.trans ((List.Perm.cons x hp).trans ?_)
  exact (List.perm_append_singleton x _).symm
end Go.Proofs.YtdlpkphbgbffpaaDoor
