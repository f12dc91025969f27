/-
  Nodes in blocks, members as results; the walks of the document's small functions.
-/
import Derived.Test.YtigpdkbfailadaaRows
import Derived.Test.YtigpdkbfailadaaAppend
import Derived.Test.YtigpdkbfailadaaTail
import Derived.Shelf.Abstract
import Derived.Shelf.RegionOpen
import Derived.WalkKit
import Derived.OwnWalkIn
import Derived.TacticsInMore
import Derived.LoopNIn
import Derived.LoopIn
import Derived.WalkMore
import Derived.ScopeJumps
import Derived.Lib.Hide
import Derived.WalkSpells
import Derived.WalkLawsBesides
import Derived.Deep.QuietTactic
import Derived.BigQuiet
import Derived.Laws.Rows
import Derived.Test.YtigpdkbfailadaaMems
import Derived.Test.YtigpdkbfailadaaRight
namespace Go.Proofs.Ytigpdkbfailadaa
open Go Go.RowKit Go.Shelf
set_option linter.unusedSimpArgs false
set_option linter.unusedVariables false
attribute [local go_sem] Oper.semAt_some

/-- A block that holds a node. -/
def Nx (W : World) (g : Nat) (k id : Int) : Prop := W.heap[g]? = some (.cells #[.int .u8 k, .int .i64 id] 27 (0, 0))
section
variable {W W' : World} {g : Nat} {k id : Int}
theorem Nx.lt (h : Nx W g k id) : g < W.heap.size := (Array.getElem?_eq_some_iff.1 h).1
theorem Nx.c0 (h : Nx W g k id) : W.cell? ⟨g, 0, none⟩ = some (.int .u8 k) := cell_of_row W g 0 _ 27 (0, 0) h
theorem Nx.c1 (h : Nx W g k id) : W.cell? ⟨g, 1, none⟩ = some (.int .i64 id) := cell_of_row W g 1 _ 27 (0, 0) h
theorem Nx.below {B : Nat} (h : Nx W g k id) (hb : Below B W W') (hg : g < B) : Nx W' g k id := (hb.block g hg).trans h
theorem Nx.alloc (h : Nx W g k id) (o : Obj) : Nx (W.alloc o) g k id := (Below.heap_alloc W o g h.lt).trans h
theorem Nx.far (h : Nx W g k id) {p : Addr} (hp : g ≠ p.block) (u : Value) : Nx (W.setCell p u) g k id := (Below.heap_setCell W p u g hp).trans h
end

/-- All nine states laid. -/
abbrev put9 (W : World) (g : Nat) (m : Mm) : World :=
  ((((((((W.setCell ⟨g, 0, none⟩ (u8v (m 0))).setCell ⟨g, 1, none⟩ (u8v (m 1))).setCell ⟨g, 2, none⟩ (u8v (m 2))).setCell ⟨g, 3, none⟩ (u8v (m 3))).setCell ⟨g, 4, none⟩ (u8v (m 4))).setCell ⟨g, 5, none⟩ (u8v (m 5))).setCell ⟨g, 6, none⟩ (u8v (m 6))).setCell ⟨g, 7, none⟩ (u8v (m 7))).setCell ⟨g, 8, none⟩ (u8v (m 8))
theorem put9_mx {W : World} {g : Nat} {x : Mm} (h : Mx W g x) (m : Mm) : Mx (put9 W g m) g m := by
  have h9 := ((((((((h.set (i := 0) (by omega) (m 0)).set (i := 1) (by omega) (m 1)).set (i := 2) (by omega) (m 2)).set (i := 3) (by omega) (m 3)).set (i := 4) (by omega) (m 4)).set (i := 5) (by omega) (m 5)).set (i := 6) (by omega) (m 6)).set (i := 7) (by omega) (m 7)).set (i := 8) (by omega) (m 8)
  exact h9
theorem put9_below {W W0 : World} {g B : Nat} (h : Below B W0 W) (hB : B ≤ g) (m : Mm) : Below B W0 (put9 W g m) :=
  ((((((((h.setCell (p := ⟨g, 0, none⟩) hB _).setCell (p := ⟨g, 1, none⟩) hB _).setCell (p := ⟨g, 2, none⟩) hB _).setCell (p := ⟨g, 3, none⟩) hB _).setCell (p := ⟨g, 4, none⟩) hB _).setCell (p := ⟨g, 5, none⟩) hB _).setCell (p := ⟨g, 6, none⟩) hB _).setCell (p := ⟨g, 7, none⟩) hB _).setCell (p := ⟨g, 8, none⟩) hB _

/-- Members as a result, and what goes with them. -/
theorem results_mx2 {fn : Func} {p q : Tmp} (h : fn.results = #[.cell p 25, .tmp q]) (ts : Array Value) (W : World) (g : Nat) (m : Mm) (v : Value) (hp : ts.getD p undef = .pointer (some ⟨g, 0, none⟩)) (hq : ts.getD q undef = v) (hb : Mx W g m) :
    (results fn ts).run Try.prog W = .ok (.tuple #[mv m, v]) W := by
  obtain ⟨c0, c1, c2, c3, c4, c5, c6, c7, c8⟩ := hb.cs
  have hp' : ts[p]?.getD undef = .pointer (some ⟨g, 0, none⟩) := by simpa using hp
  have hq' : ts[q]?.getD undef = v := by simpa using hq
  simp [results, h, go_sem, hp', hq', c0, c1, c2, c3, c4, c5, c6, c7, c8]
theorem results_mx1 {fn : Func} {p : Tmp} (h : fn.results = #[.cell p 25]) (ts : Array Value) (W : World) (g : Nat) (m : Mm) (hp : ts.getD p undef = .pointer (some ⟨g, 0, none⟩)) (hb : Mx W g m) :
    (results fn ts).run Try.prog W = .ok (mv m) W := by
  obtain ⟨c0, c1, c2, c3, c4, c5, c6, c7, c8⟩ := hb.cs
  have hp' : ts[p]?.getD undef = .pointer (some ⟨g, 0, none⟩) := by simpa using hp
  simp [results, h, go_sem, hp', c0, c1, c2, c3, c4, c5, c6, c7, c8]

theorem refThere_some {k id : Int} {i : Nat} (h : idx k id = some i) (w : World) : Calls Try.prog 32 #[nv k id] w fun e W' => e = .returned (.bool true) ∧ Below w.heap.size w W' := by
  rcases idx_some h with ⟨rfl, n, rfl, hn, rfl⟩ | ⟨rfl, n, rfl, hn, rfl⟩
  · clear h
    have h0 : (0 : Int) ≤ (n : Int) := by omega
    have h3 : (n : Int) < 3 := by omega
    go_enter Try.func32, Try.ntmps32
    go_wp2
    go_ret
    exact ⟨rfl, (Below.refl _ w).alloc (Nat.le_refl _) _⟩
  · clear h
    have h0 : (0 : Int) ≤ (i : Int) := by omega
    have h3 : (i : Int) < 6 := by omega
    go_enter Try.func32, Try.ntmps32
    go_wp2
    go_ret
    exact ⟨rfl, (Below.refl _ w).alloc (Nat.le_refl _) _⟩
set_option maxHeartbeats 1000000 in
theorem refThere_none {k id : Int} (h : idx k id = none) (w : World) : Calls Try.prog 32 #[nv k id] w fun e W' => e = .returned (.bool false) ∧ Below w.heap.size w W' := by
  have hcase : (k = 1 ∧ (id < 0 ∨ 3 ≤ id)) ∨ (k = 2 ∧ (id < 0 ∨ 6 ≤ id)) ∨ (k ≠ 1 ∧ k ≠ 2) := by
    rcases idx_none h with h1 | ⟨h0, rfl, h1⟩ | ⟨h0, rfl, h1⟩ | ⟨h0, h1, h2⟩ <;> omega
  clear h
  rcases hcase with ⟨rfl, h | h⟩ | ⟨rfl, h | h⟩ | ⟨h1, h2⟩
  · have h' : ¬ 0 ≤ id := by omega
    go_enter Try.func32, Try.ntmps32
    go_wp2
    go_ret
    exact ⟨rfl, (Below.refl _ w).alloc (Nat.le_refl _) _⟩
  · have h' : 0 ≤ id := by omega
    have d3 : decide (id < 3) = false := by simp; omega
    go_enter Try.func32, Try.ntmps32
    go_wp2
    go_ret
    exact ⟨rfl, (Below.refl _ w).alloc (Nat.le_refl _) _⟩
  · have h' : ¬ 0 ≤ id := by omega
    go_enter Try.func32, Try.ntmps32
    go_wp2
    go_ret
    exact ⟨rfl, (Below.refl _ w).alloc (Nat.le_refl _) _⟩
  · have h' : 0 ≤ id := by omega
    have d3 : decide (id < 6) = false := by simp; omega
    go_enter Try.func32, Try.ntmps32
    go_wp2
    go_ret
    exact ⟨rfl, (Below.refl _ w).alloc (Nat.le_refl _) _⟩
  · have k1 : (k == 1) = false := by simp [h1]
    have k2 : (k == 2) = false := by simp [h2]
    clear h1 h2
    go_enter Try.func32, Try.ntmps32
    go_wp2
    go_ret
    exact ⟨rfl, (Below.refl _ w).alloc (Nat.le_refl _) _⟩

set_option maxHeartbeats 1000000 in
theorem refState_some {k id : Int} {i : Nat} (h : idx k id = some i) (m : Mm) (w : World) : Calls Try.prog 14 #[mv m, nv k id] w fun e W' => e = .returned (.tuple #[u8v (m i), .bool true]) ∧ Below w.heap.size w W' := by
  have hi := idx_lt h
  have HT := hide (fun W => refThere_some h W)
  have hn : Nx ((w.alloc (.cells (mcells m) 25)).alloc (.cells #[.int .u8 k, .int .i64 id] 27)) (w.heap.size + 1) k id := by
    have h := World.alloc_heap_new (w.alloc (.cells (mcells m) 25)) (.cells #[.int .u8 k, .int .i64 id] 27)
    rw [World.size_alloc] at h
    exact h
  have hm : Mx ((w.alloc (.cells (mcells m) 25)).alloc (.cells #[.int .u8 k, .int .i64 id] 27)) w.heap.size m := (Mx.new w m).alloc _
  have hB0 : Below w.heap.size w ((w.alloc (.cells (mcells m) 25)).alloc (.cells #[.int .u8 k, .int .i64 id] 27)) := ((Below.refl _ w).alloc (Nat.le_refl _) _).alloc (by simp) _
  rcases idx_some h with ⟨rfl, n, rfl, hn3, rfl⟩ | ⟨rfl, n, rfl, hn3, rfl⟩
  · clear h
    have h0 : (0 : Int) ≤ (n : Int) := by omega
    have h3 : (n : Int) < 3 := by omega
    go_enter Try.func14, Try.ntmps14
    go_wp2_with (go_at_call 32; refine (HT.out _).mono ?_; rintro e w1 ⟨rfl, hB1⟩; have hn1 := hn.below hB1 hn.lt; have d0 := hn1.c0; have d1 := hn1.c1; have hc := (hm.below hB1 hm.lt).at_ hi)
    go_ret2
    exact ⟨rfl, hB0.trans (hB1.mono (by simp; omega))⟩
  · clear h
    have h0 : (0 : Int) ≤ (i : Int) := by omega
    have h3 : (i : Int) < 6 := by omega
    go_enter Try.func14, Try.ntmps14
    go_wp2_with (go_at_call 32; refine (HT.out _).mono ?_; rintro e w1 ⟨rfl, hB1⟩; have hn1 := hn.below hB1 hn.lt; have d0 := hn1.c0; have d1 := hn1.c1; have hc := (hm.below hB1 hm.lt).at_ hi)
    go_ret2
    exact ⟨rfl, hB0.trans (hB1.mono (by simp; omega))⟩
theorem refState_none {k id : Int} (h : idx k id = none) (m : Mm) (w : World) : Calls Try.prog 14 #[mv m, nv k id] w fun e W' => e = .returned (.tuple #[.int .u8 0, .bool false]) ∧ Below w.heap.size w W' := by
  have HT := hide (fun W => refThere_none h W)
  have hB0 : Below w.heap.size w ((w.alloc (.cells (mcells m) 25)).alloc (.cells #[.int .u8 k, .int .i64 id] 27)) := ((Below.refl _ w).alloc (Nat.le_refl _) _).alloc (by simp) _
  clear h
  go_enter Try.func14, Try.ntmps14
  go_wp2_with (go_at_call 32; refine (HT.out _).mono ?_; rintro e w1 ⟨rfl, hB1⟩)
  go_ret2
  exact ⟨rfl, hB0.trans (hB1.mono (by simp; omega))⟩
end Go.Proofs.Ytigpdkbfailadaa
