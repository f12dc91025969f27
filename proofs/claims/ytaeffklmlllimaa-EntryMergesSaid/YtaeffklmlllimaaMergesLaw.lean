/-
  Merging, the plain law: what is merged is one of those that may be, none is newer, of one Gen the first one; merged in parts it is the same.
-/
import Derived.Test.YtaeffklmlllimaaMerge
namespace Go.Proofs.Ytaeffklmlllimaa
open Go Go.RowKit

theorem mergeS_snoc (es : List Ent) (y : Ent) : mergeS (es ++ [y]) = mstep (mergeS es) y := by
  unfold mergeS
  rw [List.foldl_append]
  rfl

/-- What is said of a merging's end. -/
structure Merged (es : List Ent) (s : Ent × Bool) : Prop where
  any : s.2 = es.any rightB
  none : s.2 = false → s.1 = noneE
  right : s.2 = true → rightB s.1 = true ∧ s.1 ∈ es
  newest : s.2 = true → ∀ e ∈ es, rightB e = true → e.gen ≤ s.1.gen
  first : ∀ (i : Nat) (x : Ent), es[i]? = some x → rightB x = true → (∀ e ∈ es.take i, rightB e = true → e.gen ≠ s.1.gen) → x.gen = s.1.gen → x = s.1

theorem merged (es : List Ent) : Merged es (mergeS es) := by
  obtain ⟨l, rfl⟩ : ∃ l : List Ent, es = l.reverse := ⟨es.reverse, by simp⟩
  induction l with
  | nil => exact ⟨rfl, fun _ => rfl, fun h => (by cases h), fun h => (by cases h), fun i x h => (by simp at h)⟩
  | cons y l ih =>
    rw [List.reverse_cons]
    obtain ⟨es, hes⟩ : ∃ es, l.reverse = es := ⟨_, rfl⟩
    rw [hes] at ih ⊢
    rw [mergeS_snoc]
    obtain ⟨h1, h2, h3, h4, h5⟩ := ih
    unfold mstep
    by_cases hc : (rightB y && (!(mergeS es).2 || decide ((mergeS es).1.gen < y.gen))) = true
    · rw [if_pos hc]
      simp only [Bool.and_eq_true, Bool.or_eq_true, Bool.not_eq_true', decide_eq_true_eq] at hc
      obtain ⟨hr, hn⟩ := hc
      refine ⟨by simp [hr], fun h => (by cases h), fun _ => ⟨hr, by simp⟩, fun _ e he hre => ?_, fun i x hx hrx hno hg => ?_⟩
      · simp only [List.mem_append, List.mem_singleton] at he
        rcases he with he | rfl
        · rcases hn with hn | hn
          · exfalso
            rw [h1, List.any_eq_false] at hn
            exact hn e he hre
          · cases hs : (mergeS es).2
            · exfalso
              rw [h1, List.any_eq_false] at hs
              exact hs e he hre
            · have := h4 hs e he hre
              simp only
              omega
        · exact Int.le_refl _
      · simp only at hg ⊢
        rcases Nat.lt_or_ge i es.length with hi | hi
        · exfalso
          rw [List.getElem?_append_left hi] at hx
          have hm := List.mem_of_getElem? hx
          rcases hn with hn | hn
          · rw [h1, List.any_eq_false] at hn
            exact hn x hm hrx
          · cases hs : (mergeS es).2
            · rw [h1, List.any_eq_false] at hs
              exact hs x hm hrx
            · have := h4 hs x hm hrx
              omega
        · rw [List.getElem?_append_right hi] at hx
          have hil : i - es.length = 0 := by
            have := (List.getElem?_eq_some_iff.1 hx).1
            simpa using this
          rw [hil] at hx
          simpa using hx.symm
    · rw [if_neg hc]
      simp only [Bool.and_eq_true, Bool.or_eq_true, Bool.not_eq_true', decide_eq_true_eq, not_and, not_or, Bool.not_eq_false] at hc
      refine ⟨?_, h2, fun h => ⟨(h3 h).1, by simp [(h3 h).2]⟩, fun h e he hre => ?_, fun i x hx hrx hno hg => ?_⟩
      · rw [List.any_append, ← h1]
        cases hr : rightB y
        · simp [hr]
        · have := (hc hr).1
          simp [this]
      · simp only [List.mem_append, List.mem_singleton] at he
        rcases he with he | rfl
        · exact h4 h e he hre
        · have := (hc hre).2
          omega
      · rcases Nat.lt_or_ge i es.length with hi | hi
        · rw [List.getElem?_append_left hi] at hx
          rw [List.take_append_of_le_length (by omega)] at hno
          exact h5 i x hx hrx hno hg
        · rw [List.getElem?_append_right hi] at hx
          have hil : i - es.length = 0 := by
            have := (List.getElem?_eq_some_iff.1 hx).1
            simpa using this
          rw [hil] at hx
          simp only [List.getElem?_cons_zero, Option.some.injEq] at hx
          subst hx
          exfalso
          have hs := (hc hrx).1
          obtain ⟨hb, hm⟩ := h3 hs
          have hie : i = es.length := by omega
          refine hno (mergeS es).1 ?_ hb rfl
          rw [hie]
          simp [hm]

/-- Is there one that may be, of this Gen? -/
def someG (g : Int) (es : List Ent) : Bool := es.any fun e => rightB e && decide (e.gen = g)
theorem someG_next (g : Int) (es : List Ent) {k : Nat} {x : Ent} (h : es[k]? = some x) : someG g (es.take (k + 1)) = (someG g (es.take k) || (rightB x && decide (x.gen = g))) := by
  unfold someG
  rw [List.take_add_one, h]
  simp
theorem someG_none (es : List Ent) (h : someG (mergeL es).gen es = false) : mergeL es = noneE := by
  have m := merged es
  refine m.none ?_
  cases hs : (mergeS es).2
  · rfl
  · exfalso
    obtain ⟨hb, hm⟩ := m.right hs
    unfold someG at h
    rw [List.any_eq_false] at h
    have := h _ hm
    simp [hb, mergeL] at this
theorem someG_some (es : List Ent) {g : Int} (h : someG g es = true) : (mergeS es).2 = true := by
  have m := merged es
  rw [m.any]
  unfold someG at h
  rw [List.any_eq_true] at h ⊢
  obtain ⟨x, hx, hr⟩ := h
  simp only [Bool.and_eq_true] at hr
  exact ⟨x, hx, hr.1⟩
theorem merge_le (es : List Ent) {k : Nat} {x : Ent} (h : es[k]? = some x) (hr : rightB x = true) : x.gen ≤ (mergeL es).gen := by
  have m := merged es
  have hm := List.mem_of_getElem? h
  refine m.newest ?_ x hm hr
  rw [m.any, List.any_eq_true]
  exact ⟨x, hm, hr⟩
theorem merge_first (es : List Ent) {k : Nat} {x : Ent} (h : es[k]? = some x) (hr : rightB x = true) (hn : someG (mergeL es).gen (es.take k) = false) (hg : x.gen = (mergeL es).gen) : x = mergeL es := by
  have m := merged es
  refine m.first k x h hr (fun e he hre hge => ?_) hg
  unfold someG at hn
  rw [List.any_eq_false] at hn
  have := hn e he
  simp [hre, mergeL, hge] at this
theorem mergeS_cut (es : List Ent) (k : Nat) : mergeS es = (es.drop k).foldl mstep (mergeS (es.take k)) := by
  unfold mergeS
  rw [← List.foldl_append, List.take_append_drop]
theorem merge_rest (es : List Ent) (k : Nat) (h : (es.take k).any rightB = false) : mergeL (es.drop k) = mergeL es := by
  have m := merged (es.take k)
  have h2 : (mergeS (es.take k)).2 = false := by rw [m.any, h]
  have h1 := m.none h2
  unfold mergeL
  rw [mergeS_cut es k, show mergeS (es.take k) = (noneE, false) from Prod.ext h1 h2]
  rfl
theorem merge_head (es : List Ent) (k : Nat) (h : (es.take k).any rightB = true) : mergeL (mergeL (es.take k) :: es.drop k) = mergeL es := by
  have m := merged (es.take k)
  have h2 : (mergeS (es.take k)).2 = true := by rw [m.any, h]
  obtain ⟨hb, _⟩ := m.right h2
  have e : mergeS [mergeL (es.take k)] = mergeS (es.take k) := by
    show mstep (noneE, false) (mergeL (es.take k)) = _
    unfold mstep
    rw [if_pos (by simp [mergeL, hb])]
    exact Prod.ext rfl h2.symm
  show (mergeS (mergeL (es.take k) :: es.drop k)).1 = (mergeS es).1
  rw [mergeS_cut es k, mergeS_cut (mergeL (es.take k) :: es.drop k) 1]
  show (List.foldl mstep (mergeS [mergeL (es.take k)]) (es.drop k)).1 = _
  rw [e]
theorem merge_twice (es : List Ent) (h : (mergeS es).2 = true) : mergeL [mergeL es, mergeL es] = mergeL es := by
  obtain ⟨hb, _⟩ := (merged es).right h
  have hb' : rightB (mergeL es) = true := hb
  show (mstep (mstep (noneE, false) (mergeL es)) (mergeL es)).1 = _
  simp [mstep, hb']
end Go.Proofs.Ytaeffklmlllimaa
