/-
  The walks of tuple's smallest functions, and of the document's.
-/
import Derived.Test.YtdlpkphbgbffpaaDoorRows
import Derived.Test.YtdlpkphbgbffpaaDoorAppend
import Derived.Test.YtdlpkphbgbffpaaDoorTail
import Derived.Shelf.Abstract
import Derived.Shelf.RegionOpen
import Derived.WalkKit
import Derived.OwnWalkIn
import Derived.TacticsInMore
import Derived.LoopNIn
import Derived.LoopIn
import Derived.WalkMore
import Derived.ScopeJumps
import Derived.Lib.Hide
import Derived.WalkSpells
import Derived.WalkLawsBesides
import Derived.Deep.QuietTactic
import Derived.BigQuiet
import Derived.Laws.Rows
namespace Go.Proofs.YtdlpkphbgbffpaaDoor
open Go Go.RowKit Go.Shelf
set_option linter.unusedSimpArgs false
set_option linter.unusedVariables false
attribute [local go_sem] Oper.semAt_some

structure Tup where
  src : Int
  dst : Int
  sp : Int
  dp : Int
deriving DecidableEq
abbrev tv (t : Tup) : Value := .agg #[.int .u32 t.src, .int .u32 t.dst, .int .u16 t.sp, .int .u16 t.dp]
def oneT : Tup := ⟨167772161, 167772162, 80, 258⟩
def backT (t : Tup) : Tup := ⟨t.dst, t.src, t.dp, t.sp⟩
/-- How two numbers are ordered. -/
def cmpI (a b : Int) : Int := if a < b then -1 else if b < a then 1 else 0

theorem one_any (w : World) : Calls Tryd.prog 24 #[] w fun e W' => e = .returned (tv oneT) ∧ Below w.heap.size w W' := by
  go_enter Tryd.func24, Tryd.ntmps24
  go_wp2
  refine bodyPost_ret (v := tv oneT) (by simp [results, Tryd.f24, go_sem, oneT]) rfl ?_
  exact ⟨rfl, (Below.refl _ w).alloc (Nat.le_refl _) _⟩
theorem refBack_any (t : Tup) (w : World) : Calls Tryd.prog 18 #[tv t] w fun e W' => e = .returned (tv (backT t)) ∧ Below w.heap.size w W' := by
  go_enter Tryd.func18, Tryd.ntmps18
  go_wp2
  refine bodyPost_ret (v := tv (backT t)) (by simp [results, Tryd.f18, go_sem, backT]) rfl ?_
  exact ⟨rfl, ((Below.refl _ w).alloc (Nat.le_refl _) _).alloc (by simp) _⟩
theorem isNaN32 (n : Int) (w : World) : Calls Tryd.prog 39 #[.int .u32 n] w fun e w' => e = .returned (.bool false) ∧ w = w' := by
  go_enter Tryd.func39, Tryd.ntmps39
  go_wp2
  go_ret
  exact ⟨rfl, rfl⟩
theorem isNaN16 (n : Int) (w : World) : Calls Tryd.prog 40 #[.int .u16 n] w fun e w' => e = .returned (.bool false) ∧ w = w' := by
  go_enter Tryd.func40, Tryd.ntmps40
  go_wp2
  go_ret
  exact ⟨rfl, rfl⟩
theorem cmp32_any (a b : Int) (w : World) : Calls Tryd.prog 30 #[.int .u32 a, .int .u32 b] w fun e w' => e = .returned (.int .i64 (cmpI a b)) ∧ w = w' := by
  go_enter Tryd.func30, Tryd.ntmps30
  go_wp2_with (go_at_call 39; refine (isNaN32 _ _).mono ?_; rintro e w' ⟨rfl, rfl⟩)
  all_goals
    go_ret
    exact ⟨ret_int (by unfold cmpI; first | rw [if_pos (by assumption)] | (rw [if_neg (by omega)]; first | rw [if_pos (by assumption)] | rw [if_neg (by omega)])), rfl⟩
theorem cmp16_any (a b : Int) (w : World) : Calls Tryd.prog 31 #[.int .u16 a, .int .u16 b] w fun e w' => e = .returned (.int .i64 (cmpI a b)) ∧ w = w' := by
  go_enter Tryd.func31, Tryd.ntmps31
  go_wp2_with (go_at_call 40; refine (isNaN16 _ _).mono ?_; rintro e w' ⟨rfl, rfl⟩)
  all_goals
    go_ret
    exact ⟨ret_int (by unfold cmpI; first | rw [if_pos (by assumption)] | (rw [if_neg (by omega)]; first | rw [if_pos (by assumption)] | rw [if_neg (by omega)])), rfl⟩
end Go.Proofs.YtdlpkphbgbffpaaDoor
