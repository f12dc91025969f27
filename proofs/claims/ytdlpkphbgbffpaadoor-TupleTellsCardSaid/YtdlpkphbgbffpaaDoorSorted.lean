/-
  Tuples sorted: what Sorted hands back.
-/
import Derived.Test.YtdlpkphbgbffpaaDoorTups
import Derived.Test.YtdlpkphbgbffpaaDoorGenShelf
import Derived.Shelf.SlSortCmp.NoneTotal
import Derived.Shelf.SlicesE.Clone
namespace Go.Proofs.YtdlpkphbgbffpaaDoor
open Go Go.RowKit Go.Shelf
set_option linter.unusedSimpArgs false
set_option linter.unusedVariables false
attribute [local go_sem] Oper.semAt_some
instance : Inhabited Tup := ⟨⟨0, 0, 0, 0⟩⟩
theorem cmpLays (blk off size : Nat) (w : World) : CmpLays Tryd.prog 13 #[] encT 4 cmpT blk off size w :=
  fun _ _ _ _ x y => cmp_lays x y _
theorem cmpI_lt (a b : Int) : cmpI a b < 0 ↔ a < b := by unfold cmpI; split <;> (try split) <;> omega
theorem cmpI_zero (a b : Int) : cmpI a b = 0 ↔ a = b := by unfold cmpI; split <;> (try split) <;> omega
/-- One tuple stands ahead of another. -/
def ltT (a b : Tup) : Prop := a.src < b.src ∨ a.src = b.src ∧ (a.dst < b.dst ∨ a.dst = b.dst ∧ (a.sp < b.sp ∨ a.sp = b.sp ∧ a.dp < b.dp))
theorem cmpT_lt (a b : Tup) : cmpT a b < 0 ↔ ltT a b := by
  unfold cmpT ltT
  simp only [orL]
  have h1 := cmpI_lt a.src b.src
  have h2 := cmpI_lt a.dst b.dst
  have h3 := cmpI_lt a.sp b.sp
  have h4 := cmpI_lt a.dp b.dp
  have z1 := cmpI_zero a.src b.src
  have z2 := cmpI_zero a.dst b.dst
  have z3 := cmpI_zero a.sp b.sp
  have z4 := cmpI_zero a.dp b.dp
  split
  · split
    · split
      · split <;> omega
      · omega
    · omega
  · omega
theorem ltOf_true (a b : Tup) : ltOf cmpT a b = true ↔ ltT a b := by
  unfold ltOf
  rw [decide_eq_true_iff]
  exact cmpT_lt a b
theorem ltOf_false (a b : Tup) : ltOf cmpT a b = false ↔ ¬ ltT a b := by
  rw [← ltOf_true, Bool.not_eq_true]
theorem sw : Sort.SWO (ltOf cmpT) where
  irrefl x := by rw [ltOf_false]; unfold ltT; omega
  trans x y z h1 h2 := by rw [ltOf_true] at *; unfold ltT at *; omega
  ntrans x y z h1 h2 := by rw [ltOf_false] at *; unfold ltT at *; omega
theorem parts_all (x y : Tup) (h : ltOf cmpT x y = false) (k : ltOf cmpT y x = false) : x = y := by
  rw [ltOf_false] at h k
  obtain ⟨a, b, c, d⟩ := x
  obtain ⟨a', b', c', d'⟩ := y
  unfold ltT at h k
  simp only at h k
  simp only [Tup.mk.injEq]
  omega
/-- Tuples in order. -/
def sortT (ts : List Tup) : List Tup := ts.mergeSort fun x y => !(ltOf cmpT) y x
theorem infoT : (Tryd.prog.info? 25).map (fun i => (i.zero, i.size, i.bytes)) = some (some (tv ⟨0, 0, 0, 0⟩), 4, 12) := by kernel_rfl
theorem info_parts' {t : TypeId} {z : Value} {s b : Nat} (h : (Tryd.prog.info? t).map (fun i => (i.zero, i.size, i.bytes)) = some (some z, s, b)) : ∃ i0, Tryd.prog.info? t = some i0 ∧ i0.zero = some z ∧ i0.size = s ∧ i0.bytes = b := by
  obtain ⟨i0, hi, he⟩ := Option.map_eq_some_iff.1 h
  simp only [Prod.mk.injEq] at he
  exact ⟨i0, hi, he.1, he.2.1, he.2.2⟩
theorem encT_one (t : Tup) : ∀ v ∈ encT t, v.oneCell' = true := by
  intro v hv
  simp only [encT, List.mem_cons, List.not_mem_nil, or_false] at hv
  rcases hv with rfl | rfl | rfl | rfl <;> rfl
theorem clone_any (B b off n c : Nat) (ts : List Tup) (w : World) (h : Ts w B (some ⟨b, off, none⟩) n c ts) (hn : n ≤ 1000) :
    Calls Tryd.prog 36 #[.slice (some ⟨b, off, none⟩) n c] w fun e w' => ∃ v', e = .returned v' ∧ w'.ownsRow w.heap.size 25 4 v' n (ts.flatMap encT) ∧ v' ≠ .slice none 0 0 ∧ Below w.heap.size w w' := by
  obtain ⟨i0, hi, hz0, hz1, hz2⟩ := info_parts' infoT
  exact AnyE.slices_Clone Tryd.layClone i0 (tv ⟨0, 0, 0, 0⟩) 4 12 hi hz0 hz1 hz2 rfl (by decide) Tryd.sizeOf25 b off n c (ts.flatMap encT) w (by rw [flat_length, h.1]) (by unfold maxLen; omega) (by omega)
    (fun j u hu => h.flat j u hu) (by
      intro u hu
      obtain ⟨t, _, ht⟩ := List.mem_flatMap.1 hu
      exact encT_one t u ht)
theorem flat_get (ts : List Tup) (j : Nat) (hj : j < ts.length * 4) : (ts.flatMap encT)[j]? = some ((Go.Sort.flatK encT 4 ts.toArray)[j]!) := by
  have h1 : j / 4 < ts.length := by omega
  have h2 : j % 4 < 4 := by omega
  rw [flat_at, List.getElem?_eq_getElem h1, Option.bind_some, Go.Sort.get_flatK encT 4 ts.toArray j (by simpa using hj)]
  have e1 : ts.toArray[j / 4]! = ts[j / 4] := by rw [getElem!_pos _ _ (by simpa using h1)]; simp
  rw [e1, getElem!_pos (encT ts[j / 4]) (j % 4) h2, List.getElem?_eq_getElem (show j % 4 < (encT ts[j / 4]).length from h2)]
  rfl
theorem below_putRow (w : World) (g off n : Nat) (d : Array Tup) (os : Array Obj) (hg : g < w.heap.size) : Below g w (sortWorldK encT 4 w g off n d os) := by
  refine ⟨rfl, rfl, rfl, ?_, fun k hk => ?_⟩
  · show w.heap.size ≤ ((w.heap.modify g _) ++ os).size
    simp
  · show ((w.heap.modify g _) ++ os)[k]? = w.heap[k]?
    rw [Array.getElem?_append_left (by simp; omega), Array.getElem?_modify, if_neg (by omega)]
theorem sort_any (g cap : Nat) (ts : List Tup) (cur : Array Value) (w : World) (hg : w.heap[g]? = some (.cells cur 25 (0, 0))) (hl : ts.length ≤ 1000) (hcur : cur.toList.take (ts.length * 4) = ts.flatMap encT) :
    Calls Tryd.prog 37 #[.slice (some ⟨g, 0, none⟩) ts.length cap, .func (.func 13) #[] #[]] w fun e w' => e = .returned (.tuple #[]) ∧ (∀ j t, (sortT ts)[j]? = some t → At4 w' g (0 + j * 4) t) ∧ Below g w w' := by
  have hlt : g < w.heap.size := (Array.getElem?_eq_some_iff.1 hg).1
  have hH : Go.Sort.HoldsK encT 4 w g 0 ts.toArray := by
    intro j hj
    have hj' : j < ts.length * 4 := by simpa using hj
    have h1 := flat_get ts j hj'
    rw [← hcur, List.getElem?_take, if_pos hj'] at h1
    refine ⟨?_, by simp [World.frozen?, hg]⟩
    rw [Nat.zero_add, cell_of_row w g j cur 25 (0, 0) hg]
    simpa using h1
  have hcon := AnyQ.slices_SortFunc_total Tryd.laySort 4 Tryd.isAgg25 Tryd.sizeOf25 encT (fun _ => rfl) encT_one cmpT sw 13 #[] g 0 cap ts.toArray w (enters_of Tryd.func13 (by kernel_rfl) rfl) (cmpLays g 0 _ w) hH hlt (by simp; omega) parts_all
  refine hcon.mono ?_
  rintro e w' ⟨rfl, n, os, rfl⟩
  have hlen : (sortT ts).toArray.size = ts.toArray.size := by simp [sortT]
  have hK := holdsK_sortWorldK_c (enc := encT) (k := 4) (w := w) (blk := g) (off := 0) ts.toArray (sortT ts).toArray n os hH hlt hlen
  refine ⟨rfl, fun j t hj => ?_, below_putRow w g 0 n _ os hlt⟩
  have hjl := (List.getElem?_eq_some_iff.1 hj)
  obtain ⟨hj1, rfl⟩ := hjl
  refine At4.of fun i u hu => ?_
  have hi := (List.getElem?_eq_some_iff.1 hu).1
  have := (hK.cell (i := j) (c := i) (by simpa using hj1) hi).1
  refine this.trans ?_
  have e1 : (sortT ts).toArray[j]! = (sortT ts)[j] := by rw [getElem!_pos _ _ (by simpa using hj1)]; simp
  rw [e1, getElem!_pos (encT (sortT ts)[j]) i hi, ← hu, List.getElem?_eq_getElem hi]
set_option maxRecDepth 100000 in
set_option maxHeartbeats 1000000 in
theorem clone_none (A : Option Addr) (c : Nat) (w : World) : Calls Tryd.prog 36 #[.slice A 0 c] w fun e w' => (∃ A' c', e = .returned (.slice A' 0 c') ∧ c' ≤ maxLen) ∧ Below w.heap.size w w' := by
  obtain ⟨i0, hi, hz0, hz1, hz2⟩ := info_parts' infoT
  have q27 : ∀ (w : World) (a : Option Addr) (n c n' c' : Nat), (binOp .eql 27 (.slice a n c) (.slice none n' c')).run Tryd.prog w = .ok (.bool a.isNone) w := fun w a n c n' c' => Lib.run_eql_slice_nil w _ _ a n c n' c' Tryd.underlying27
  go_enter Tryd.func36, Tryd.ntmps36
  rcases A with _ | a
  · go_wp2
    go_ret
    exact ⟨⟨_, _, rfl, by omega⟩, Below.refl _ _⟩
  · go_wp2_with (at_builtin; refine wpList_append_own _ rfl _ _ 27 rfl w.heap.size 25 i0 (tv ⟨0, 0, 0, 0⟩) 4 12 Tryd.underlying27 hi hz0 hz1 hz2 rfl (by decide) _ _ _ rfl (World.ownsRow_made w #[] 0 (Nat.le_refl _) (Nat.zero_le _) (by simp)) a 0 c [] rfl ?qc1 ?qc2 ?qc3 ?qc4 ?qc5 ?qc6 ?_)
    case qc1 => rfl
    case qc2 => intro j u hj; simp at hj
    case qc3 => intro u hu; simp at hu
    case qc4 => unfold maxLen; omega
    case qc5 => omega
    case qc6 => simp
    intro v' w1 hown hgrow hnil
    obtain ⟨A', c', rfl, hc'⟩ : ∃ A' c', v' = .slice A' 0 c' ∧ c' ≤ maxLen := by
      rcases hown.2 with ⟨rfl, _⟩ | ⟨g, cap, cur, rfl, _, _, _, h, _⟩
      · exact ⟨_, _, rfl, Nat.zero_le _⟩
      · exact ⟨_, _, rfl, h⟩
    go_wp2
    go_ret
    exact ⟨⟨_, _, rfl, hc'⟩, ((Below.refl _ w).alloc (Nat.le_refl _) _).grown hgrow (by simp) (by intro k hk; simp [Value.ownBlock] at hk; omega)⟩
set_option maxRecDepth 100000 in
set_option maxHeartbeats 1000000 in
theorem sorted_any (A : Option Addr) (n c : Nat) (ts : List Tup) (w : World) (h : Ts w w.heap.size A n c ts) (hn : n ≤ 1000) :
    Calls Tryd.prog 22 #[.slice A n c] w fun e w' => (∃ A' c', e = .returned (.slice A' n c') ∧ Ts w' w'.heap.size A' n c' (sortT ts)) ∧ Below w.heap.size w w' := by
  have hl := h.1
  have H := hide h
  go_enter Tryd.func22, Tryd.ntmps22
  rcases Nat.eq_zero_or_pos n with h0 | h0
  · subst h0
    obtain rfl : ts = [] := List.eq_nil_of_length_eq_zero hl
    clear h
    go_wp2_with fail
    refine (clone_none A c w).mono ?_
    rintro e w1 ⟨⟨A', c', rfl, hc'⟩, hB⟩
    go_wp2_with fail
    refine (AnyF.slices_SortFunc_none Tryd.laySort A' c' _ _).mono ?_
    rintro e w2 ⟨rfl, rfl⟩
    go_wp2
    go_ret
    exact ⟨⟨_, _, rfl, by simp [sortT], Nat.zero_le _, hc', fun h => absurd h (by omega)⟩, hB⟩
  · obtain ⟨b, off, rfl, _⟩ := h.2.2.2 h0
    clear h
    go_wp2_with fail
    refine (clone_any _ b off n c ts w H.out hn).mono ?_
    rintro e w1 ⟨v', rfl, hown, hne, hB⟩
    rcases hown.2 with ⟨rfl, _⟩ | ⟨g, cap, cur, rfl, hbase, hgb, hnc, hcm, hcs, htake⟩
    · exact absurd rfl hne
    subst hl
    go_wp2_with fail
    refine (sort_any g cap ts cur w1 hgb hn htake).mono ?_
    rintro e w2 ⟨rfl, hat, hB2⟩
    have hg2 : g < w2.heap.size := Nat.lt_of_lt_of_le (Array.getElem?_eq_some_iff.1 hgb).1 hB2.size
    go_wp2
    go_ret
    exact ⟨⟨_, _, rfl, by simp [sortT], hnc, hcm, fun _ => ⟨g, 0, rfl, hg2, hat⟩⟩, hB.trans (hB2.mono hbase)⟩
def leT (x y : Tup) : Bool := !(ltOf cmpT) y x
theorem leT_iff (x y : Tup) : leT x y = true ↔ ¬ ltT y x := by
  unfold leT
  rw [Bool.not_eq_true', ltOf_false]
theorem sort_pairwise (ts : List Tup) : (sortT ts).Pairwise (fun x y => leT x y = true) :=
  List.pairwise_mergeSort (le := leT) (fun x y z h k => by rw [leT_iff] at *; unfold ltT at *; omega) (fun x y => by
    rw [Bool.or_eq_true, leT_iff, leT_iff]; unfold ltT; omega) ts
theorem sort_perm (ts : List Tup) : (sortT ts).Perm ts := List.mergeSort_perm _ _
theorem leT_antisymm (x y : Tup) (h : leT x y = true) (k : leT y x = true) : x = y := by
  rw [leT_iff] at h k
  exact parts_all x y ((ltOf_false _ _).2 k) ((ltOf_false _ _).2 h)
/-- What is in order, and has the same tuples, is what Sorted tells. -/
theorem sort_unique {us ts : List Tup} (hp : us.Perm ts) (hs : us.Pairwise (fun x y => leT x y = true)) : sortT ts = us :=
  List.Perm.eq_of_pairwise (le := fun x y => leT x y = true) (fun x y _ _ h k => leT_antisymm x y h k) (sort_pairwise ts) hs ((sort_perm ts).trans hp.symm)
theorem sort_two : sortT [backT oneT, oneT] = [oneT, backT oneT] := sort_unique (List.Perm.swap _ _ _) (by decide)
end Go.Proofs.YtdlpkphbgbffpaaDoor
