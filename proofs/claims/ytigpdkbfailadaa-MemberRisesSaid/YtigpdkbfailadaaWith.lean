/-
  Three blocks: members, a node, room for a result; the walk of the document's with.
-/
import Derived.Test.YtigpdkbfailadaaRows
import Derived.Test.YtigpdkbfailadaaAppend
import Derived.Test.YtigpdkbfailadaaTail
import Derived.Shelf.Abstract
import Derived.Shelf.RegionOpen
import Derived.WalkKit
import Derived.OwnWalkIn
import Derived.TacticsInMore
import Derived.LoopNIn
import Derived.LoopIn
import Derived.WalkMore
import Derived.ScopeJumps
import Derived.Lib.Hide
import Derived.WalkSpells
import Derived.WalkLawsBesides
import Derived.Deep.QuietTactic
import Derived.BigQuiet
import Derived.Laws.Rows
import Derived.Test.YtigpdkbfailadaaMems
import Derived.Test.YtigpdkbfailadaaRefSets
namespace Go.Proofs.Ytigpdkbfailadaa
open Go Go.RowKit Go.Shelf
set_option linter.unusedSimpArgs false
set_option linter.unusedVariables false
attribute [local go_sem] Oper.semAt_some

abbrev zcells : Array Value := #[.int .u8 0, .int .u8 0, .int .u8 0, .int .u8 0, .int .u8 0, .int .u8 0, .int .u8 0, .int .u8 0, .int .u8 0]
/-- Members, a node and room for members, each in a block. -/
abbrev laid3 (w : World) (m : Mm) (k id : Int) : World := ((w.alloc (.cells (mcells m) 25)).alloc (.cells #[.int .u8 k, .int .i64 id] 27)).alloc (.cells zcells 25)
structure Tri (m : Mm) (k id : Int) (w W : World) : Prop where
  mx : Mx W w.heap.size m
  nx : Nx W (w.heap.size + 1) k id
  zx : Mx W (w.heap.size + 1 + 1) zeroM
  bl : Below w.heap.size w W
theorem tri (w : World) (m : Mm) (k id : Int) : Tri m k id w (laid3 w m k id) := by
  have h1 : Nx ((w.alloc (.cells (mcells m) 25)).alloc (.cells #[.int .u8 k, .int .i64 id] 27)) (w.heap.size + 1) k id := by
    have h := World.alloc_heap_new (w.alloc (.cells (mcells m) 25)) (.cells #[.int .u8 k, .int .i64 id] 27)
    rw [World.size_alloc] at h
    exact h
  refine ⟨((Mx.new w m).alloc _).alloc _, h1.alloc _, Mx.newAt (by simp) zeroM, ((((Below.refl _ w).alloc (Nat.le_refl _) _).alloc (by simp) _).alloc (by simp; omega) _)⟩
section
variable {m : Mm} {k id : Int} {w W W' : World}
theorem Tri.below (h : Tri m k id w W) (hB : Below W.heap.size W W') : Tri m k id w W' := ⟨h.mx.below hB h.mx.lt, h.nx.below hB h.nx.lt, h.zx.below hB h.zx.lt, h.bl.trans (hB.mono h.bl.size)⟩
theorem Tri.set (h : Tri m k id w W) {i : Nat} (hi : i < 9) (s : Int) : Tri (upd m i s) k id w (W.setCell ⟨w.heap.size, i, none⟩ (u8v s)) :=
  ⟨h.mx.set hi s, h.nx.far (by simp) _, h.zx.far (by simp; omega) _, h.bl.setCell (p := ⟨w.heap.size, i, none⟩) (Nat.le_refl _) _⟩
/-- What the walk is told of it. -/
theorem Tri.cs (h : Tri m k id w W) : (W.cell? ⟨w.heap.size, 0, none⟩ = some (u8v (m 0)) ∧ W.cell? ⟨w.heap.size, 1, none⟩ = some (u8v (m 1)) ∧ W.cell? ⟨w.heap.size, 2, none⟩ = some (u8v (m 2)) ∧ W.cell? ⟨w.heap.size, 3, none⟩ = some (u8v (m 3)) ∧ W.cell? ⟨w.heap.size, 4, none⟩ = some (u8v (m 4)) ∧
    W.cell? ⟨w.heap.size, 5, none⟩ = some (u8v (m 5)) ∧ W.cell? ⟨w.heap.size, 6, none⟩ = some (u8v (m 6)) ∧ W.cell? ⟨w.heap.size, 7, none⟩ = some (u8v (m 7)) ∧ W.cell? ⟨w.heap.size, 8, none⟩ = some (u8v (m 8))) ∧
    (W.cell? ⟨w.heap.size + 1, 0, none⟩ = some (.int .u8 k) ∧ W.cell? ⟨w.heap.size + 1, 1, none⟩ = some (.int .i64 id)) ∧
    (W.cell? ⟨w.heap.size + 1 + 1, 0, none⟩ = some (.int .u8 0) ∧ W.cell? ⟨w.heap.size + 1 + 1, 1, none⟩ = some (.int .u8 0) ∧ W.cell? ⟨w.heap.size + 1 + 1, 2, none⟩ = some (.int .u8 0) ∧ W.cell? ⟨w.heap.size + 1 + 1, 3, none⟩ = some (.int .u8 0) ∧ W.cell? ⟨w.heap.size + 1 + 1, 4, none⟩ = some (.int .u8 0) ∧
    W.cell? ⟨w.heap.size + 1 + 1, 5, none⟩ = some (.int .u8 0) ∧ W.cell? ⟨w.heap.size + 1 + 1, 6, none⟩ = some (.int .u8 0) ∧ W.cell? ⟨w.heap.size + 1 + 1, 7, none⟩ = some (.int .u8 0) ∧ W.cell? ⟨w.heap.size + 1 + 1, 8, none⟩ = some (.int .u8 0)) ∧
    (W.frozen? ⟨w.heap.size + 1 + 1, 0, none⟩ = false ∧ W.frozen? ⟨w.heap.size + 1 + 1, 1, none⟩ = false ∧ W.frozen? ⟨w.heap.size + 1 + 1, 2, none⟩ = false ∧ W.frozen? ⟨w.heap.size + 1 + 1, 3, none⟩ = false ∧ W.frozen? ⟨w.heap.size + 1 + 1, 4, none⟩ = false ∧
    W.frozen? ⟨w.heap.size + 1 + 1, 5, none⟩ = false ∧ W.frozen? ⟨w.heap.size + 1 + 1, 6, none⟩ = false ∧ W.frozen? ⟨w.heap.size + 1 + 1, 7, none⟩ = false ∧ W.frozen? ⟨w.heap.size + 1 + 1, 8, none⟩ = false) :=
  ⟨h.mx.cs, ⟨h.nx.c0, h.nx.c1⟩, h.zx.cs, ⟨h.zx.fz 0, h.zx.fz 1, h.zx.fz 2, h.zx.fz 3, h.zx.fz 4, h.zx.fz 5, h.zx.fz 6, h.zx.fz 7, h.zx.fz 8⟩⟩
end

theorem with_end {fn : Func} (hr : fn.results = #[.cell 6 25]) (ts : Array Value) (m' : Mm) (w W : World) (A : Array Value) (g : Nat) (hg : W.heap.size = g) (hp : ts.getD 6 undef = .pointer (some ⟨g, 0, none⟩)) (hA : A = mcells m') (hB : Below w.heap.size w W) (hw : w.heap.size ≤ W.heap.size) :
    bodyPost Try.prog fn (fun e W' => e = .returned (mv m') ∧ Below w.heap.size w W') .ret { tmps := ts, defers := [] } (W.alloc (.cells A 25)) := by
  subst hA
  exact bodyPost_ret (results_mx1 hr ts _ g m' hp (Mx.newAt hg m')) rfl ⟨rfl, hB.alloc hw _⟩

set_option maxHeartbeats 4000000 in
theorem refWith_any {k id : Int} {i : Nat} (h : idx k id = some i) (m : Mm) (s : Int) (w : World) : Calls Try.prog 28 #[mv m, nv k id, .int .u8 s] w fun e W' => e = .returned (mv (upd m i s)) ∧ Below w.heap.size w W' := by
  rcases idx_some h with ⟨rfl, n, rfl, hn3, rfl⟩ | ⟨rfl, n, rfl, hn3, rfl⟩
  · clear h
    rcases (show n = 0 ∨ n = 1 ∨ n = 2 by omega) with rfl | rfl | rfl
    all_goals
      go_enter Try.func28, Try.ntmps28
      go_wp2
      exact with_end rfl _ _ w _ _ _ (by simp) rfl rfl (((Below.refl _ w).alloc (Nat.le_refl _) _).alloc (by simp) _) (by simp; omega)
  · clear h
    rcases (show i = 0 ∨ i = 1 ∨ i = 2 ∨ i = 3 ∨ i = 4 ∨ i = 5 by omega) with rfl | rfl | rfl | rfl | rfl | rfl
    all_goals
      go_enter Try.func28, Try.ntmps28
      go_wp2
      exact with_end rfl _ _ w _ _ _ (by simp) rfl rfl (((Below.refl _ w).alloc (Nat.le_refl _) _).alloc (by simp) _) (by simp; omega)
end Go.Proofs.Ytigpdkbfailadaa
