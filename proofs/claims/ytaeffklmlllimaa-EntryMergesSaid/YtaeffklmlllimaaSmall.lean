/-
  The walks of entry's small functions, and of the document's.
-/
import Derived.Test.YtaeffklmlllimaaRows
import Derived.Test.YtaeffklmlllimaaAppend
import Derived.Test.YtaeffklmlllimaaTail
import Derived.Shelf.Abstract
import Derived.Shelf.RegionOpen
import Derived.WalkKit
import Derived.OwnWalkIn
import Derived.TacticsInMore
import Derived.LoopNIn
import Derived.LoopIn
import Derived.WalkMore
import Derived.ScopeJumps
import Derived.Lib.Hide
import Derived.WalkSpells
import Derived.WalkLawsBesides
import Derived.Deep.QuietTactic
import Derived.BigQuiet
import Derived.Laws.Rows
namespace Go.Proofs.Ytaeffklmlllimaa
open Go Go.RowKit Go.Shelf
attribute [local go_sem] Oper.semAt_some

structure Ent where
  cur : Int
  prev : Int
  gen : Int
  tick : Int
deriving DecidableEq

def noneE : Ent := ⟨-1, -1, 0, 0⟩
abbrev ev (e : Ent) : Value := .agg #[.int .i64 e.cur, .int .i64 e.prev, .int .i64 e.gen, .int .i64 e.tick]
def Ent.cells (e : Ent) : List Value := [.int .i64 e.cur, .int .i64 e.prev, .int .i64 e.gen, .int .i64 e.tick]

theorem ev_mk (a b c d : Int) : (Value.agg #[.int .i64 a, .int .i64 b, .int .i64 c, .int .i64 d]) = ev ⟨a, b, c, d⟩ := rfl

/-- Which entries may be. -/
def rightB (e : Ent) : Bool :=
  decide (0 ≤ e.gen ∧ e.gen < 2147483648 ∧ 0 ≤ e.tick ∧ e.tick < 1099511627777 ∧ -1 ≤ e.cur ∧ e.cur < 6 ∧ -1 ≤ e.prev ∧ e.prev < 6 ∧ if e.cur = -1 then e.prev = -1 else e.prev ≠ e.cur)

theorem within_any (n lo hi : Int) (w : World) :
    Calls Try.prog 22 #[.int .i64 n, .int .i64 lo, .int .i64 hi] w fun e w' => e = .returned (.bool (decide (lo ≤ n ∧ n < hi))) ∧ w = w' := by
  go_enter Try.func22, Try.ntmps22
  go_wp2
  all_goals
    go_ret
    refine ⟨ret_bool ?_, rfl⟩
    rw [Bool.eq_iff_iff]
    simp
    omega
theorem backend_any (n : Int) (w : World) :
    Calls Try.prog 23 #[.int .i64 n] w fun e w' => e = .returned (.bool (decide (0 ≤ n ∧ n < 6))) ∧ w = w' := by
  go_enter Try.func23, Try.ntmps23
  go_wp2
  all_goals
    go_ret
    refine ⟨ret_bool ?_, rfl⟩
    rw [Bool.eq_iff_iff]
    simp
    omega
theorem none_any (w : World) : Calls Try.prog 14 #[] w fun e W' => e = .returned (ev noneE) ∧ Below w.heap.size w W' := by
  go_enter Try.func14, Try.ntmps14
  go_wp2
  refine bodyPost_ret (v := ev noneE) (by simp [results, Try.f14, go_sem, noneE]) rfl ?_
  refine ⟨rfl, ?_⟩
  exact ((((Below.refl _ w).alloc (Nat.le_refl _) _)))
theorem refNone_any (w : World) : Calls Try.prog 15 #[] w fun e W' => e = .returned (ev noneE) ∧ Below w.heap.size w W' := by
  go_enter Try.func15, Try.ntmps15
  go_wp2
  refine bodyPost_ret (v := ev noneE) (by simp [results, Try.f15, go_sem, noneE]) rfl ?_
  exact ⟨rfl, (Below.refl _ w).alloc (Nat.le_refl _) _⟩
theorem newer_any (a b : Ent) (w : World) : Calls Try.prog 10 #[ev a, ev b] w fun e W' => e = .returned (.bool (decide (b.gen < a.gen))) ∧ Below w.heap.size w W' := by
  go_enter Try.func10, Try.ntmps10
  go_wp2
  go_ret
  exact ⟨rfl, ((Below.refl _ w).alloc (Nat.le_refl _) _).alloc (by simp) _⟩
theorem refNewer_any (a b : Ent) (w : World) : Calls Try.prog 11 #[ev a, ev b] w fun e W' => e = .returned (.bool (decide (b.gen < a.gen))) ∧ Below w.heap.size w W' := by
  go_enter Try.func11, Try.ntmps11
  go_wp2
  go_ret
  exact ⟨rfl, ((Below.refl _ w).alloc (Nat.le_refl _) _).alloc (by simp) _⟩
theorem moving_any (a : Ent) (w : World) : Calls Try.prog 19 #[ev a] w fun e W' => e = .returned (.bool (decide (a.prev ≠ -1))) ∧ Below w.heap.size w W' := by
  go_enter Try.func19, Try.ntmps19
  go_wp2
  go_ret
  exact ⟨ret_bool (by rw [Bool.eq_iff_iff]; simp), ((Below.refl _ w).alloc (Nat.le_refl _) _)⟩
theorem refMoving_any (a : Ent) (w : World) : Calls Try.prog 20 #[ev a] w fun e W' => e = .returned (.bool (decide (a.prev ≠ -1))) ∧ Below w.heap.size w W' := by
  go_enter Try.func20, Try.ntmps20
  go_wp2
  go_ret
  exact ⟨ret_bool (by rw [Bool.eq_iff_iff]; simp), ((Below.refl _ w).alloc (Nat.le_refl _) _)⟩
set_option maxHeartbeats 1000000 in
theorem refRight_any (a : Ent) (w : World) : Calls Try.prog 9 #[ev a] w fun e W' => e = .returned (.bool (rightB a)) ∧ Below w.heap.size w W' := by
  go_enter Try.func9, Try.ntmps9
  go_wp2_with (go_at_call 23; refine (backend_any _ _).mono ?_; rintro e w' ⟨rfl, rfl⟩)
  all_goals
    go_ret
    refine ⟨ret_bool ?_, ((Below.refl _ w).alloc (Nat.le_refl _) _)⟩
    rw [Bool.eq_iff_iff]
    unfold rightB
    simp_all
    omega

/-- A block that holds an entry. -/
def Bx (W : World) (g : Nat) (e : Ent) : Prop := W.heap[g]? = some (.cells #[.int .i64 e.cur, .int .i64 e.prev, .int .i64 e.gen, .int .i64 e.tick] 23 (0, 0))

section
variable {W W' : World} {g : Nat} {e : Ent}
theorem Bx.lt (h : Bx W g e) : g < W.heap.size := (Array.getElem?_eq_some_iff.1 h).1
theorem Bx.c0 (h : Bx W g e) : W.cell? ⟨g, 0, none⟩ = some (.int .i64 e.cur) := cell_of_row W g 0 _ 23 (0, 0) h
theorem Bx.c1 (h : Bx W g e) : W.cell? ⟨g, 1, none⟩ = some (.int .i64 e.prev) := cell_of_row W g 1 _ 23 (0, 0) h
theorem Bx.c2 (h : Bx W g e) : W.cell? ⟨g, 2, none⟩ = some (.int .i64 e.gen) := cell_of_row W g 2 _ 23 (0, 0) h
theorem Bx.c3 (h : Bx W g e) : W.cell? ⟨g, 3, none⟩ = some (.int .i64 e.tick) := cell_of_row W g 3 _ 23 (0, 0) h
theorem Bx.fz (h : Bx W g e) (i : Nat) : W.frozen? ⟨g, i, none⟩ = false := by
  unfold Bx at h
  simp [World.frozen?, h]
theorem Bx.new (w : World) (a b c d : Int) : Bx (w.alloc (.cells #[.int .i64 a, .int .i64 b, .int .i64 c, .int .i64 d] 23)) w.heap.size ⟨a, b, c, d⟩ := World.alloc_heap_new w _
theorem Bx.alloc (h : Bx W g e) (o : Obj) : Bx (W.alloc o) g e := (Below.heap_alloc W o g h.lt).trans h
theorem Bx.drew (h : Bx W g e) : Bx W.drew g e := h
theorem Bx.drewN (h : Bx W g e) (k : Nat) : Bx (W.drewN k) g e := h
theorem Bx.far (h : Bx W g e) {p : Addr} (hp : g ≠ p.block) (u : Value) : Bx (W.setCell p u) g e := (Below.heap_setCell W p u g hp).trans h
theorem Bx.below {B : Nat} (h : Bx W g e) (hb : Below B W W') (hg : g < B) : Bx W' g e := (hb.block g hg).trans h
theorem Bx.grown {row : Option Nat} (h : Bx W g e) (hb : W.grownBy W' row) (hg : some g ≠ row) : Bx W' g e := (hb.block g h.lt hg).trans h
end

theorem none_val (w : World) : Calls Try.prog 14 #[] w fun e W' => e = .returned (.agg #[.int .i64 (-1), .int .i64 (-1), .int .i64 0, .int .i64 0]) ∧ Below w.heap.size w W' := none_any w
theorem refNone_val (w : World) : Calls Try.prog 15 #[] w fun e W' => e = .returned (.agg #[.int .i64 (-1), .int .i64 (-1), .int .i64 0, .int .i64 0]) ∧ Below w.heap.size w W' := refNone_any w

/-- What holds where entry.Right jumps to its label. -/
def RightJ (a : Ent) (w : World) (a' : Act) (w' : World) : Prop :=
  a'.tmps.size = 42 ∧ a'.defers = [] ∧ rightB a = false ∧ Below w.heap.size w w'

set_option maxHeartbeats 1000000 in
theorem right_any (a : Ent) (w : World) : Calls Try.prog 8 #[ev a] w fun e W' => e = .returned (.bool (rightB a)) ∧ Below w.heap.size w W' := by
  go_enter Try.func8, Try.ntmps8
  go_wp2
  refine wp_scope_jumps 0 (RightJ a w) (fun _ _ => 0) rfl ?_ ?_
  · go_wp2_with (first | (go_at_call 22; refine (within_any _ _ _ _).mono ?_; rintro e w' ⟨rfl, rfl⟩) | (go_at_call 14; refine (none_val _).mono ?_; rintro e w2 ⟨rfl, hB⟩; have hx : Bx w2 w.heap.size a := (Bx.new w _ _ _ _).below hB (by simp); have c0 := hx.c0; have c1 := hx.c1; have c2 := hx.c2; have c3 := hx.c3; have hlt := hx.lt; have hB2 : Below w.heap.size w w2 := ((Below.refl w.heap.size w).alloc (Nat.le_refl _) _).trans (hB.mono (by simp))))
    · go_step3
      exact ⟨rfl, rfl, rfl, by unfold rightB; simp_all; omega, (Below.refl _ _).alloc (Nat.le_refl _) _⟩
    · go_step3
      exact ⟨rfl, rfl, rfl, by unfold rightB; simp_all; omega, (Below.refl _ _).alloc (Nat.le_refl _) _⟩
    · go_region
      all_goals go_wp2
      all_goals
        simp only [Exit.jump]
        go_ret
        refine ⟨ret_bool (by rw [Bool.eq_iff_iff]; unfold rightB; simp_all <;> omega), ?_⟩
        exact (hB2.alloc hB2.size _).drew
    · simp only [Exit.jump]
      go_ret
      refine ⟨ret_bool (by rw [Bool.eq_iff_iff]; unfold rightB; simp_all), ?_⟩
      exact hB2.alloc hB2.size _
    · go_step3
      exact ⟨rfl, rfl, rfl, by unfold rightB; simp_all; omega, (Below.refl _ _).alloc (Nat.le_refl _) _⟩
    · go_step3
      exact ⟨rfl, rfl, rfl, by unfold rightB; simp_all; omega, (Below.refl _ _).alloc (Nat.le_refl _) _⟩
  · rintro ⟨ts, ds⟩ w' ⟨hsz, rfl, hr, hB⟩
    simp only at hsz
    go_wp2
    simp only [Exit.jump]
    go_ret
    exact ⟨by rw [hr]; simp [Array.getD, hsz], hB⟩
end Go.Proofs.Ytaeffklmlllimaa
