/-
  Boxes, cuts and an append of entries: what the walk of EntryMerges leans on.
-/
import Derived.Test.YtaeffklmlllimaaMergesLaw
import Derived.Test.YtaeffklmlllimaaWakes
import Derived.Deep.DeepCutAuto
import Derived.Deep.RegionHeld3
namespace Go.Proofs.Ytaeffklmlllimaa
open Go Go.RowKit Go.Shelf
set_option linter.unusedSimpArgs false
set_option linter.unusedVariables false
attribute [local go_sem] Oper.semAt_some

theorem bcell {W w1 : World} (hb : Below W.heap.size W w1) : (∀ b o, b < W.heap.size → w1.cell? ⟨b, o, none⟩ = W.cell? ⟨b, o, none⟩) ∧ (∀ b o, b < W.heap.size → w1.frozen? ⟨b, o, none⟩ = W.frozen? ⟨b, o, none⟩) :=
  ⟨fun b o h => hb.cell (p := ⟨b, o, none⟩) h, fun b o h => hb.frozen (p := ⟨b, o, none⟩) h⟩
theorem Bx.new4 (w : World) (e : Ent) : Bx (w.alloc (.cells #[.int .i64 e.cur, .int .i64 e.prev, .int .i64 e.gen, .int .i64 e.tick] 23)) w.heap.size e := Bx.new w _ _ _ _
theorem Bx.newAt {w : World} {g : Nat} {e : Ent} (hg : w.heap.size = g) : Bx (w.alloc (.cells #[.int .i64 e.cur, .int .i64 e.prev, .int .i64 e.gen, .int .i64 e.tick] 23)) g e := by
  subst hg
  exact Bx.new w _ _ _ _
theorem Bx.new5 (w : World) (o : Obj) (e : Ent) : Bx ((w.alloc o).alloc (.cells #[.int .i64 e.cur, .int .i64 e.prev, .int .i64 e.gen, .int .i64 e.tick] 23)) (w.heap.size + 1) e := by
  have h := Bx.new4 (w.alloc o) e
  rwa [World.size_alloc] at h
theorem Bx.zero (w : World) : Bx (w.alloc (.cells #[.int .i64 0, .int .i64 0, .int .i64 0, .int .i64 0] 23)) w.heap.size ⟨0, 0, 0, 0⟩ := Bx.new w _ _ _ _
theorem Bx.zero5 (w : World) (o : Obj) : Bx ((w.alloc o).alloc (.cells #[.int .i64 0, .int .i64 0, .int .i64 0, .int .i64 0] 23)) (w.heap.size + 1) ⟨0, 0, 0, 0⟩ := Bx.new5 w o ⟨0, 0, 0, 0⟩
theorem Bx.put {W : World} {g : Nat} {e : Ent} (h : Bx W g ⟨0, 0, 0, 0⟩) : Bx ((((W.setCell ⟨g, 0, none⟩ (.int .i64 e.cur)).setCell ⟨g, 1, none⟩ (.int .i64 e.prev)).setCell ⟨g, 2, none⟩ (.int .i64 e.gen)).setCell ⟨g, 3, none⟩ (.int .i64 e.tick)) g e := setBx h
/-- The merged entry in its variable. -/
def Hd (m : Ent) (g : Nat) (w W : World) : Prop := Bx W g m ∧ Below w.heap.size w W
theorem Hd.alloc {m : Ent} {g : Nat} {w W : World} (h : Hd m g w W) (o : Obj) : Hd m g w (W.alloc o) := ⟨h.1.alloc o, h.2.alloc h.2.size o⟩
theorem Hd.far {m : Ent} {g : Nat} {w W : World} (h : Hd m g w W) {p : Addr} (hp : g ≠ p.block) (hw : w.heap.size ≤ p.block) (u : Value) : Hd m g w (W.setCell p u) := ⟨h.1.far hp u, h.2.setCell hw u⟩
theorem Hd.drew {m : Ent} {g : Nat} {w W : World} (h : Hd m g w W) : Hd m g w W.drew := ⟨h.1.drewN 1, below_drewN h.2 1⟩
theorem Hd.drewN {m : Ent} {g : Nat} {w W : World} (h : Hd m g w W) (k : Nat) : Hd m g w (W.drewN k) := ⟨h.1.drewN k, below_drewN h.2 k⟩
theorem Hd.below {m : Ent} {g : Nat} {w W W' : World} (h : Hd m g w W) (hB : Below W.heap.size W W') : Hd m g w W' := ⟨h.1.below hB h.1.lt, h.2.trans (hB.mono h.2.size)⟩

/-- A cut from k on, as the model spells it. -/
theorem Se.cutIf {W : World} {B b off n c : Nat} {es : List Ent} (h : Se W B (some ⟨b, off, none⟩) n c es) {k : Nat} (hk : k ≤ n) :
    Se W B (if c = k then some ⟨b, off, none⟩ else some ⟨b, off + k * 4, none⟩) (n - k) (c - k) (es.drop k) := by
  by_cases e : c = k
  · rw [if_pos e]
    exact ⟨by rw [List.length_drop, h.1], by have := h.2.1; omega, by have := h.2.2.1; omega, fun hn => by have := h.2.1; omega⟩
  · rw [if_neg e]
    refine ⟨by rw [List.length_drop, h.1], by have := h.2.1; omega, by have := h.2.2.1; omega, fun hn => ?_⟩
    obtain ⟨b', off', e', hb, hc⟩ := h.2.2.2 (by omega)
    cases e'
    refine ⟨b, off + k * 4, rfl, hb, fun j u hu => ?_⟩
    have := hc (k + j) u (by rw [← hu, List.getElem?_drop])
    rwa [Nat.add_mul, ← Nat.add_assoc] at this

/-- .. and the head beside it. -/
def Hd2 (e : Ent) (g8 : Nat) (m : Ent) (g : Nat) (w W : World) : Prop := Bx W g8 e ∧ Hd m g w W
section
variable {e m : Ent} {g8 g : Nat} {w W W' : World}
theorem Hd2.alloc (h : Hd2 e g8 m g w W) (o : Obj) : Hd2 e g8 m g w (W.alloc o) := ⟨h.1.alloc o, h.2.alloc o⟩
theorem Hd2.drewN (h : Hd2 e g8 m g w W) (k : Nat) : Hd2 e g8 m g w (W.drewN k) := ⟨h.1.drewN k, h.2.drewN k⟩
theorem Hd2.below (h : Hd2 e g8 m g w W) (hB : Below W.heap.size W W') : Hd2 e g8 m g w W' := ⟨h.1.below hB h.1.lt, h.2.below hB⟩
theorem Hd2.belowAt (h : Hd2 e g8 m g w W) {B : Nat} (hB : Below B W W') (h8 : g8 < B) (hg : g < B) (hw : w.heap.size ≤ B) : Hd2 e g8 m g w W' := ⟨h.1.below hB h8, h.2.1.below hB hg, h.2.2.trans (hB.mono hw)⟩
end

theorem infoE : (Try.prog.info? 23).map (fun i => (i.zero, i.size, i.bytes)) = some (some (.agg #[.int .i64 0, .int .i64 0, .int .i64 0, .int .i64 0]), 4, 32) := by kernel_rfl

theorem flat_len (es : List Ent) : (es.flatMap Ent.cells).length = es.length * 4 := by
  induction es with
  | nil => rfl
  | cons e es ih => simp only [List.flatMap_cons, List.length_append, ih, List.length_cons, Ent.cells, List.length_nil]; omega
/-- append onto one entry in memory of its own. -/
theorem wp_append_ents {w : World} {o : Oper} {a : Act} {K : Act → World → Prop} {Q : Exit → Act → World → Prop} (s x : Operand) (ho : o.op = .call { callee := .builtin .append, args := #[s, x], argTypes := #[24, 24] })
    (e0 : Ent) (g : Nat) (hs : a.eval s = .slice (some ⟨g, 0, none⟩) 1 1) (hown : w.ownsRow g 23 4 (.slice (some ⟨g, 0, none⟩) 1 1) 1 e0.cells)
    (A : Option Addr) (m c B : Nat) (es : List Ent) (hx : a.eval x = .slice A m c) (hA : ∃ b off, A = some ⟨b, off, none⟩) (hr : Se w B A m c es) (hm : m ≤ 60) (hg : g ≤ w.heap.size)
    (h : ∀ A' c' w', Se w' w'.heap.size A' (1 + m) c' (e0 :: es) → Below g w w' → K (a.put o.dst (.slice A' (1 + m) c')) w') : o.wp Try.prog a w K Q := by
  obtain ⟨i, hi, hz0, hz1, hz2⟩ := info_parts infoE
  obtain ⟨b, off, rfl⟩ := hA
  have hcells : ∀ j u, (es.flatMap Ent.cells)[j]? = some u → w.cell? ((⟨b, off, none⟩ : Addr).add j) = some u := by
    intro j u hu
    have hj := (List.getElem?_eq_some_iff.1 hu).1
    have hl : (es.flatMap Ent.cells).length = es.length * 4 := flat_len es
    rw [hl] at hj
    have hq : j / 4 < es.length := by omega
    obtain ⟨b', off', e', _, hc⟩ := hr.2.2.2 (by rw [← hr.1]; omega)
    cases e'
    obtain ⟨c0, c1, c2, c3⟩ := hc (j / 4) es[j / 4] (List.getElem?_eq_getElem hq)
    have hf := flat_get es (j / 4) (j % 4) es[j / 4] (List.getElem?_eq_getElem hq) (Nat.mod_lt _ (by omega))
    rw [show j / 4 * 4 + j % 4 = j by omega, hu] at hf
    have hadd : (⟨b, off, none⟩ : Addr).add j = ⟨b, off + j / 4 * 4 + j % 4, none⟩ := by
      rw [show off + j / 4 * 4 + j % 4 = off + j by omega]
      unfold Addr.add
      split
      · rename_i h0; subst h0; rfl
      · rfl
    rw [hadd]
    rcases (show j % 4 = 0 ∨ j % 4 = 1 ∨ j % 4 = 2 ∨ j % 4 = 3 by omega) with h4 | h4 | h4 | h4 <;> rw [h4] at hf ⊢ <;> simp only [Ent.cells, List.getElem?_cons_zero, List.getElem?_cons_succ, Option.some.injEq] at hf <;> subst hf <;> assumption
  obtain ⟨v', w', hrun, h2, h3, _, h5⟩ := run_append_own_at (P := Try.prog) w g 24 o.type 23 i _ 4 32 Try.underlying24 hi hz0 hz1 hz2 rfl (by omega) _ 1 e0.cells hown ⟨b, off, none⟩ m c (es.flatMap Ent.cells)
    (by rw [flat_len, hr.1]) hcells (fun u hu => by
      rw [List.mem_flatMap] at hu
      obtain ⟨x, _, hu⟩ := hu
      simp only [Ent.cells, List.mem_cons, List.not_mem_nil, or_false] at hu
      rcases hu with rfl | rfl | rfl | rfl <;> rfl) (by unfold maxLen; omega) (by omega) hg
  have hB : Below g w w' := ⟨h3.os, h3.tape, h3.output, h3.size, fun k hk => h3.block k (by omega) (by simp [Value.ownBlock]; omega)⟩
  rcases h2.2 with ⟨_, h0⟩ | ⟨g', cap, cur, rfl, hg', hgg, hnc, hcm, hcs, htake⟩
  · omega
  · have hS : Se w' w'.heap.size (some ⟨g', 0, none⟩) (1 + m) cap (e0 :: es) := by
      refine ⟨by rw [List.length_cons, hr.1]; omega, hnc, hcm, fun _ => ⟨g', 0, rfl, (Array.getElem?_eq_some_iff.1 hgg).1, fun j e he => ?_⟩⟩
      have key : ∀ i, i < 4 → w'.cell? ⟨g', 0 + j * 4 + i, none⟩ = e.cells[i]? := fun i hi => by
        have hj := (List.getElem?_eq_some_iff.1 he).1
        rw [List.length_cons, hr.1] at hj
        have := h2.cellAt (0 + j * 4 + i) (by omega)
        rw [this, Nat.zero_add]
        exact flat_get (e0 :: es) j i e he hi
      exact ⟨key 0 (by omega), key 1 (by omega), key 2 (by omega), key 3 (by omega)⟩
    unfold Oper.wp execOp
    simp only [ho, resolve, invoke, builtin, Sem.run_bind, Sem.run_pure, Result.andThen_ok, List.map_toArray, List.map_cons, List.map_nil, hs, hx, hrun]
    exact h _ _ _ hS hB

end Go.Proofs.Ytaeffklmlllimaa
