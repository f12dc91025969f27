/-
  The walk of entry.Merge.
-/
import Derived.Test.YtaeffklmlllimaaRows
import Derived.Test.YtaeffklmlllimaaAppend
import Derived.Test.YtaeffklmlllimaaTail
import Derived.Shelf.Abstract
import Derived.Shelf.RegionOpen
import Derived.WalkKit
import Derived.OwnWalkIn
import Derived.TacticsInMore
import Derived.LoopNIn
import Derived.LoopIn
import Derived.WalkMore
import Derived.ScopeJumps
import Derived.Lib.Hide
import Derived.WalkSpells
import Derived.WalkLawsBesides
import Derived.Deep.QuietTactic
import Derived.BigQuiet
import Derived.Laws.Rows
import Derived.Test.YtaeffklmlllimaaFine
namespace Go.Proofs.Ytaeffklmlllimaa
open Go Go.RowKit Go.Shelf
attribute [local go_sem] Oper.semAt_some

/-- One step of merging, of entries that may be. -/
def mst (s : Ent × Bool) (x : Ent) : Ent × Bool := if !s.2 || decide (s.1.gen < x.gen) then (x, true) else s
theorem mergeS_filter (es : List Ent) : (es.filter rightB).foldl mst (noneE, false) = mergeS es := by
  rw [List.foldl_filter]
  unfold mergeS
  congr 1
  funext s x
  unfold mst mstep
  cases rightB x <;> simp

theorem Bx.setBx_at {W : World} {g : Nat} {x e : Ent} (h : Bx W g x) :
    Bx ((((W.setCell ⟨g, 0, none⟩ (.int .i64 e.cur)).setCell ⟨g, 1, none⟩ (.int .i64 e.prev)).setCell ⟨g, 2, none⟩ (.int .i64 e.gen)).setCell ⟨g, 3, none⟩ (.int .i64 e.tick)) g e := setBx h

theorem Bx.kept {W W' : World} {g : Nat} {e : Ent} {row : Option Nat} (h : Bx W g e) (hg : W.grownBy W' row) (hr : ∀ r, row = some r → ∃ o : Obj, W.heap[r]? = some o ∧ o.isCells = false) : Bx W' g e :=
  h.grown hg (fun e' => by obtain ⟨o, ho, hc⟩ := hr g e'.symm; rw [show W.heap[g]? = _ from h] at ho; cases ho; cases hc)

/-- An entry stored into a block. -/
abbrev put4 (W : World) (g : Nat) (e : Ent) : World := (((W.setCell ⟨g, 0, none⟩ (.int .i64 e.cur)).setCell ⟨g, 1, none⟩ (.int .i64 e.prev)).setCell ⟨g, 2, none⟩ (.int .i64 e.gen)).setCell ⟨g, 3, none⟩ (.int .i64 e.tick)
section
variable {W W0 : World} {g g' B : Nat} {e e' : Ent}
theorem put4_bx (h : Bx W g e') : Bx (put4 W g e) g e := setBx h
theorem put4_far (h : Bx W g' e') (hne : g' ≠ g) : Bx (put4 W g e) g' e' := (((h.far (p := ⟨g, 0, none⟩) hne _).far (p := ⟨g, 1, none⟩) hne _).far (p := ⟨g, 2, none⟩) hne _).far (p := ⟨g, 3, none⟩) hne _
theorem put4_below (h : Below B W0 W) (hB : B ≤ g) : Below B W0 (put4 W g e) := (((h.setCell (p := ⟨g, 0, none⟩) hB _).setCell (p := ⟨g, 1, none⟩) hB _).setCell (p := ⟨g, 2, none⟩) hB _).setCell (p := ⟨g, 3, none⟩) hB _
theorem put4_keeps (W : World) (g : Nat) (e : Ent) : KeepsOthers W (put4 W g e) := (((KeepsOthers.setCell _ _ _).trans (KeepsOthers.setCell _ _ _)).trans (KeepsOthers.setCell _ _ _)).trans (KeepsOthers.setCell _ _ _)
theorem put4_boxed {t : TypeId} {v : Value} (h : Boxed W B t v) (hne : B ≠ g) : Boxed (put4 W g e) B t v :=
  (Below.heap_setCell _ _ _ _ hne).trans ((Below.heap_setCell _ _ _ _ hne).trans ((Below.heap_setCell _ _ _ _ hne).trans ((Below.heap_setCell _ _ _ _ hne).trans h)))
theorem put4_size (W : World) (g : Nat) (e : Ent) : (put4 W g e).heap.size = W.heap.size := by simp
end

/-- A struct result that lies in a block. -/
theorem results_bx {fn : Func} {p : Tmp} (h : fn.results = #[.cell p 23]) (ts : Array Value) (W : World) (g : Nat) (e : Ent) (hp : ts.getD p undef = .pointer (some ⟨g, 0, none⟩)) (hb : Bx W g e) :
    (results fn ts).run Try.prog W = .ok (ev e) W := by
  have c0 := hb.c0
  have c1 := hb.c1
  have c2 := hb.c2
  have c3 := hb.c3
  have hp' : ts[p]?.getD undef = .pointer (some ⟨g, 0, none⟩) := by simpa using hp
  simp [results, h, go_sem, hp', c0, c1, c2, c3]

set_option maxRecDepth 100000 in
set_option maxHeartbeats 2000000 in
theorem merge_any (A : Option Addr) (n c : Nat) (es : List Ent) (w : World) (hs : Se w w.heap.size A n c es) :
    Calls Try.prog 12 #[.slice A n c] w fun e W' => e = .returned (ev (mergeL es)) ∧ Below w.heap.size w W' := by
  refine (callsIn_wide (n := 10)).1 ?_
  refine callsIn_of_wp_marks Try.func12 rfl trivial ?_ rfl
  simp only [Try.ntmps12, List.size_toArray, List.length_cons, List.length_nil, Nat.reduceAdd, Nat.reduceSub, Array.replicate_succ, Array.replicate_zero, List.push_toArray, List.append_toArray, List.nil_append, List.cons_append]
  gi_wp2_with (first | (refine ⟨trivial, ?_⟩; gi_at_call 14; refine (callsIn_wide.2 (none_val _)).mono ?_; rintro e w1 ⟨rfl, hB1⟩) | (refine ⟨trivial, ?_⟩; gi_at_call 24; refine (callsIn_wide.2 (fine_any _ _ _ _)).mono ?_; rintro e w' ⟨rfl, rfl⟩))
  have hB2 : Below w.heap.size w w1 := ((Below.refl w.heap.size w).alloc (Nat.le_refl _) _).trans (hB1.mono (by simp))
  have bz1 : Bx w1 w.heap.size ⟨0, 0, 0, 0⟩ := (Bx.new w 0 0 0 0).below hB1 (by simp)
  clear hB1
  have hlt1 := bz1.lt
  have bb : Bx (((w1.alloc (.cells #[.int .i64 (-1), .int .i64 (-1), .int .i64 0, .int .i64 0] 23)).alloc (.cells #[.bool false] 4)).alloc (.cells #[.slice A n c] 24)) w1.heap.size noneE := ((Bx.new w1 (-1) (-1) 0 0).alloc _).alloc _
  have bs := (Boxed.new (w1.alloc (.cells #[.int .i64 (-1), .int .i64 (-1), .int .i64 0, .int .i64 0] 23)) 4 (.bool false)).alloc (.cells #[.slice A n c] 24)
  have bl := Boxed.new ((w1.alloc (.cells #[.int .i64 (-1), .int .i64 (-1), .int .i64 0, .int .i64 0] 23)).alloc (.cells #[.bool false] 4)) 24 (.slice A n c)
  have bz : Bx (((w1.alloc (.cells #[.int .i64 (-1), .int .i64 (-1), .int .i64 0, .int .i64 0] 23)).alloc (.cells #[.bool false] 4)).alloc (.cells #[.slice A n c] 24)) w.heap.size ⟨0, 0, 0, 0⟩ := ((bz1.alloc _).alloc _).alloc _
  have hB0 : Below w.heap.size w (((w1.alloc (.cells #[.int .i64 (-1), .int .i64 (-1), .int .i64 0, .int .i64 0] 23)).alloc (.cells #[.bool false] 4)).alloc (.cells #[.slice A n c] 24)) := ((hB2.alloc hB2.size _).alloc (by simp; omega) _).alloc (by simp; omega) _
  have hsz : (((w1.alloc (.cells #[.int .i64 (-1), .int .i64 (-1), .int .i64 0, .int .i64 0] 23)).alloc (.cells #[.bool false] 4)).alloc (.cells #[.slice A n c] 24)).heap.size = w1.heap.size + 3 := by simp
  simp only [World.size_alloc] at bs bl
  obtain ⟨w2, hw2⟩ : ∃ w2, (((w1.alloc (.cells #[.int .i64 (-1), .int .i64 (-1), .int .i64 0, .int .i64 0] 23)).alloc (.cells #[.bool false] 4)).alloc (.cells #[.slice A n c] 24)) = w2 := ⟨_, rfl⟩
  rw [hw2] at bb bs bl bz hB0 hsz ⊢
  clear hw2 bz1 hB2
  have hs0 : Se w2 w.heap.size A n c es := hs.below hB0
  obtain ⟨g1, hg1⟩ : ∃ g1, g1 = w1.heap.size := ⟨_, rfl⟩
  rw [← hg1] at bb bs bl hsz hlt1 ⊢
  clear hg1
  refine wpIn_rangeFunc_ownH rfl (by omega) (gf := 25) (lb := #[.pointer (some ⟨g1 + 1 + 1, 0, none⟩)]) rfl trivial (enters_of Try.func25 (by kernel_rfl) rfl)
    (fine_stops (g1 + 1 + 1) w.heap.size es n c A w2 bl hs0 hB0.size)
    (fun h k => h.trans k) (fun W l o o' hl h h1 h2 => belowK_b hB0.size W l o o' hl h h1 h2) (Below.refl _ _) (fun _ => rfl)
    (fun pre W => Bx W g1 (pre.foldl mst (noneE, false)).1 ∧ Boxed W (g1 + 1) 4 (.bool (pre.foldl mst (noneE, false)).2) ∧ Bx W w.heap.size ⟨0, 0, 0, 0⟩ ∧ Below w.heap.size w W ∧ w2.heap.size ≤ W.heap.size)
    (fun _ _ _ => False)
    ?own (fun _ _ _ _ _ hs _ _ => hs)
    ⟨bb, bs, bz, hB0, Nat.le_refl _⟩
    (fun x a' W => ∃ g, w2.heap.size ≤ g ∧ Bx W g x ∧ a' = { tmps := #[.slice A n c, undef, .pointer (some ⟨w.heap.size, 0, none⟩), .pointer (some ⟨g1, 0, none⟩), .pointer (some ⟨g1 + 1, 0, none⟩), .pointer (some ⟨g, 0, none⟩), .agg #[.int .i64 (-1), .int .i64 (-1), .int .i64 0, .int .i64 0], .slice A n c, .func (.func 25) #[] #[.pointer (some ⟨g1 + 1 + 1, 0, none⟩)], ev x, undef, undef, undef, undef, undef, undef, undef, undef, undef], defers := [] }) ?ownx ?assign ?body ?done ?stop
  case own =>
    rintro s X Y row ⟨h1, h2, h3, hB, hX⟩ hg hrow
    have hr : ∀ r, row = some r → ∃ o : Obj, X.heap[r]? = some o ∧ o.isCells = false := fun r e => (hrow r e).2
    exact ⟨h1.kept hg hr, h2.kept hg (fun e => by have := (hrow _ e.symm).1; omega), h3.kept hg hr, hB.grown hg hB.size (fun k e => by have := (hrow k e).1; omega), by have := hg.size; omega⟩
  case ownx =>
    rintro x a' _ X Y row ⟨g, hgs, hb, rfl⟩ hg hrow
    exact ⟨g, hgs, hb.kept hg (fun r e => (hrow r e).2), rfl⟩
  case assign =>
    rintro l pre x W K ⟨h1, h2, h3, hB, hX⟩ hK
    have hK' := hide hK
    clear hK
    gi_wp2
    refine hK'.out _ _ ((KeepsOthers.alloc _ _).from _) ((Below.refl _ _).alloc hB.size _) ⟨h1.alloc _, h2.alloc _, h3.alloc _, hB.alloc hB.size _, by simp; omega⟩ ⟨W.heap.size, hX, Bx.new W _ _ _ _, rfl⟩
  case body =>
    rintro l pre x a' W hl hloop ⟨h1, h2, h3, hB, hX⟩ ⟨g, hgs, hb, rfl⟩ hN
    obtain ⟨⟨y, f⟩, hy⟩ : ∃ y, pre.foldl mst (noneE, false) = y := ⟨_, rfl⟩
    have HS := hide (show (pre ++ [x]).foldl mst (noneE, false) = mst (y, f) x from by rw [List.foldl_append, hy]; rfl)
    rw [hy] at h1 h2
    clear hy hN hloop
    simp only at h1 h2
    have y0 := h1.c0
    have y1 := h1.c1
    have y2 := h1.c2
    have y3 := h1.c3
    have x0 := hb.c0
    have x1 := hb.c1
    have x2 := hb.c2
    have x3 := hb.c3
    have s0 := h2.cell
    have hgl := h1.lt
    have hgx := hb.lt
    have hne1 : g1 ≠ w.heap.size := by omega
    have hle1 : w.heap.size ≤ g1 := by omega
    cases f with
    | false =>
      have fz0 := h1.fz 0
      have fz1 := h1.fz 1
      have fz2 := h1.fz 2
      have fz3 := h1.fz 3
      have fs0 := h2.frozen
      have hM : mst (y, false) x = (x, true) := by simp [mst]
      rw [hM] at HS
      gi_wp2
      refine ⟨trivial, ?_⟩
      gi_wp2
      refine ⟨((put4_keeps W g1 x).from _).trans ((KeepsOthers.setCell (put4 W g1 x) ⟨g1 + 1, 0, none⟩ (.bool true)).from _), ?_, ?_, ?_, ?_, ?_, ?_⟩
      · exact (put4_below (g := g1) (e := x) (Below.refl _ W) hle1).setCell (p := ⟨g1 + 1, 0, none⟩) (by simp; omega) (.bool true)
      · rw [HS.out]; exact (put4_bx (e := x) h1).far (p := ⟨g1 + 1, 0, none⟩) (by simp) (.bool true)
      · rw [HS.out]; exact (put4_boxed (g := g1) (e := x) h2 (by omega)).set (.bool true)
      · exact (put4_far (g := g1) (e := x) h3 (by omega)).far (p := ⟨g1 + 1, 0, none⟩) (by simp; omega) (.bool true)
      · exact (put4_below (g := g1) (e := x) hB hle1).setCell (p := ⟨g1 + 1, 0, none⟩) (by simp; omega) (.bool true)
      · simp; exact hX
    | true =>
      cases hnw : decide (y.gen < x.gen)
      · have hM : mst (y, true) x = (y, true) := by unfold mst; simp only [hnw]; rfl
        rw [hM] at HS
        gi_wp2_with (refine ⟨trivial, ?_⟩; gi_at_call 10; refine (CallsIn.inRound l (callsIn_wide.2 (newer_val _ _ _ hnw _))).mono ?_; rintro e w3 ⟨rfl, hB3⟩)
        have hW3 : w2.heap.size ≤ w3.heap.size := Nat.le_trans hX hB3.size
        refine ⟨(KeepsFrom.of_grownBy (grown_of_below hB3) (fun j e => by cases e)), hB3.mono hB.size, ?_, ?_, h3.below hB3 h3.lt, hB.trans (hB3.mono hB.size), hW3⟩
        · rw [HS.out]; exact h1.below hB3 hgl
        · rw [HS.out]; exact (hB3.block _ (by omega)).trans h2
      · have hM : mst (y, true) x = (x, true) := by unfold mst; simp only [hnw]; rfl
        rw [hM] at HS
        gi_wp2_with (refine ⟨trivial, ?_⟩; gi_at_call 10; refine (CallsIn.inRound l (callsIn_wide.2 (newer_val _ _ _ hnw _))).mono ?_; rintro e w3 ⟨rfl, hB3⟩; have h1' := h1.below hB3 hgl; have h2' : Boxed w3 (g1 + 1) 4 (.bool true) := (hB3.block _ (by omega)).trans h2; have hb' := hb.below hB3 hgx; have z0 := hb'.c0; have z1 := hb'.c1; have z2 := hb'.c2; have z3 := hb'.c3; have fz0 := h1'.fz 0; have fz1 := h1'.fz 1; have fz2 := h1'.fz 2; have fz3 := h1'.fz 3; have v0 := h1'.c0; have v1 := h1'.c1; have v2 := h1'.c2; have v3 := h1'.c3; have s0' := h2'.cell; have fs0' := h2'.frozen)
        have hW3 : w2.heap.size ≤ w3.heap.size := Nat.le_trans hX hB3.size
        have hB4 := hB.trans (hB3.mono hB.size)
        refine ⟨((KeepsFrom.of_grownBy (grown_of_below hB3) (fun j e => by cases e)).trans ((put4_keeps w3 g1 x).from _)).trans ((KeepsOthers.setCell (put4 w3 g1 x) ⟨g1 + 1, 0, none⟩ (.bool true)).from _), ?_, ?_, ?_, ?_, ?_, ?_⟩
        · exact (put4_below (g := g1) (e := x) (hB3.mono hB.size) hle1).setCell (p := ⟨g1 + 1, 0, none⟩) (by simp; omega) (.bool true)
        · rw [HS.out]; exact (put4_bx (e := x) h1').far (p := ⟨g1 + 1, 0, none⟩) (by simp) (.bool true)
        · rw [HS.out]; exact (put4_boxed (g := g1) (e := x) h2' (by omega)).set (.bool true)
        · exact (put4_far (g := g1) (e := x) (h3.below hB3 h3.lt) (by omega)).far (p := ⟨g1 + 1, 0, none⟩) (by simp; omega) (.bool true)
        · exact (put4_below (g := g1) (e := x) hB4 hle1).setCell (p := ⟨g1 + 1, 0, none⟩) (by simp; omega) (.bool true)
        · simp; exact hW3
  case done =>
    rintro D ys W hD rfl ⟨h1, h2, h3, hB, hX⟩ hK
    rw [mergeS_filter] at h1
    have y0 := h1.c0
    have y1 := h1.c1
    have y2 := h1.c2
    have y3 := h1.c3
    have fz0 := h3.fz 0
    have fz1 := h3.fz 1
    have fz2 := h3.fz 2
    have fz3 := h3.fz 3
    have z0 := h3.c0
    have z1 := h3.c1
    have z2 := h3.c2
    have z3 := h3.c3
    have hne1 : g1 ≠ w.heap.size := by omega
    gi_wp2
    have hK' := (put4_keeps W w.heap.size (mergeL es)).same D _ hK rfl
    refine ⟨by simp, .inl ⟨_, _, rfl, run_takeDeferred hK', ?_⟩⟩
    have hb := (put4_bx (g := w.heap.size) (e := mergeL es) h3).kept (grownBy_putObj' _ D (.deferred none)) (fun r e => by cases e; exact ⟨_, hK', rfl⟩)
    exact ⟨ev (mergeL es), results_bx (p := 2) rfl _ _ _ _ rfl hb, rfl, (put4_below (g := w.heap.size) (e := mergeL es) hB (Nat.le_refl _)).trans (belowK_b (w := w) (Nat.le_refl _) _ D _ _ (by omega) hK' rfl rfl)⟩
  case stop =>
    rintro D c pre W _ _ h _
    exact h.elim
end Go.Proofs.Ytaeffklmlllimaa
