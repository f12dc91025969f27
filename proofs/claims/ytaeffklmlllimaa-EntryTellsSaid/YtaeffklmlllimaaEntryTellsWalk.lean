/-
  The walk of the statement EntryTells (its drawn region printed by gen-tells.py).
-/
import Derived.Test.YtaeffklmlllimaaRows
import Derived.Test.YtaeffklmlllimaaAppend
import Derived.Test.YtaeffklmlllimaaTail
import Derived.Shelf.Abstract
import Derived.Shelf.RegionOpen
import Derived.WalkKit
import Derived.OwnWalkIn
import Derived.TacticsInMore
import Derived.LoopNIn
import Derived.LoopIn
import Derived.WalkMore
import Derived.ScopeJumps
import Derived.Lib.Hide
import Derived.WalkSpells
import Derived.WalkLawsBesides
import Derived.Deep.QuietTactic
import Derived.BigQuiet
import Derived.Laws.Rows
import Derived.Test.YtaeffklmlllimaaWakes
namespace Go.Proofs.Ytaeffklmlllimaa
open Go Go.RowKit Go.Shelf
set_option linter.unusedSimpArgs false
attribute [local go_sem] Oper.semAt_some

/-- The two entries that came in, each in its variable. -/
def Two (a b : Ent) (w W : World) : Prop := Bx W w.heap.size a ∧ Bx W (w.heap.size + 1) b ∧ Below w.heap.size w W
theorem Two.alloc {a b : Ent} {w W : World} (h : Two a b w W) (o : Obj) : Two a b w (W.alloc o) := ⟨h.1.alloc o, h.2.1.alloc o, h.2.2.alloc h.2.2.size o⟩
theorem Two.drewN {a b : Ent} {w W : World} (h : Two a b w W) (k : Nat) : Two a b w (W.drewN k) := ⟨h.1.drewN k, h.2.1.drewN k, below_drewN h.2.2 k⟩
theorem Two.below {a b : Ent} {w W W' : World} (h : Two a b w W) (hB : Below W.heap.size W W') : Two a b w W' := ⟨h.1.below hB h.1.lt, h.2.1.below hB h.2.1.lt, h.2.2.trans (hB.mono h.2.2.size)⟩

/-- The operations of the great statement. -/
noncomputable def R3 : Array Oper := opsOf Try.f3 3
theorem R3_s : Region.noSelect R3 = true := by kernel_rfl
theorem R3_f0 : Region.free .any R3 #[false, false, false, false, false, false, false, false, false, false, false, false, false, false, false, false, false, false, false, false, false, false, false, false, false, false, false, false, false, false, false, false, false, false, false, false, false, false, false, false, false, false, false, false] 0 = true := by kernel_rfl
theorem R3_c0 : (Region.ready .any R3 #[false, false, false, false, false, false, false, false, false, false, false, false, false, false, false, false, false, false, false, false, false, false, false, false, false, false, false, false, false, false, false, false, false, false, false, false, false, false, false, false, false, false, false, false]).contains 0 = true := by kernel_rfl
theorem R3_f2 : Region.free .any R3 #[true, false, false, false, false, false, false, false, false, false, false, false, false, false, false, false, false, false, false, false, false, false, false, false, false, false, false, false, false, false, false, false, false, false, false, false, false, false, false, false, false, false, false, false] 2 = true := by kernel_rfl
theorem R3_c2 : (Region.ready .any R3 #[true, false, false, false, false, false, false, false, false, false, false, false, false, false, false, false, false, false, false, false, false, false, false, false, false, false, false, false, false, false, false, false, false, false, false, false, false, false, false, false, false, false, false, false]).contains 2 = true := by kernel_rfl
theorem R3_r1 : Region.ready .any R3 #[true, false, true, false, false, false, false, false, false, false, false, false, false, false, false, false, false, false, false, false, false, false, false, false, false, false, false, false, false, false, false, false, false, false, false, false, false, false, false, false, false, false, false, false] = [1] := by kernel_rfl
theorem R3_r3 : Region.ready .any R3 #[true, true, true, false, false, false, false, false, false, false, false, false, false, false, false, false, false, false, false, false, false, false, false, false, false, false, false, false, false, false, false, false, false, false, false, false, false, false, false, false, false, false, false, false] = [3] := by kernel_rfl
theorem R3_f4 : Region.free .any R3 #[true, true, true, true, false, false, false, false, false, false, false, false, false, false, false, false, false, false, false, false, false, false, false, false, false, false, false, false, false, false, false, false, false, false, false, false, false, false, false, false, false, false, false, false] 4 = true := by kernel_rfl
theorem R3_c4 : (Region.ready .any R3 #[true, true, true, true, false, false, false, false, false, false, false, false, false, false, false, false, false, false, false, false, false, false, false, false, false, false, false, false, false, false, false, false, false, false, false, false, false, false, false, false, false, false, false, false]).contains 4 = true := by kernel_rfl
theorem R3_f5 : Region.free .any R3 #[true, true, true, true, true, false, false, false, false, false, false, false, false, false, false, false, false, false, false, false, false, false, false, false, false, false, false, false, false, false, false, false, false, false, false, false, false, false, false, false, false, false, false, false] 5 = true := by kernel_rfl
theorem R3_c5 : (Region.ready .any R3 #[true, true, true, true, true, false, false, false, false, false, false, false, false, false, false, false, false, false, false, false, false, false, false, false, false, false, false, false, false, false, false, false, false, false, false, false, false, false, false, false, false, false, false, false]).contains 5 = true := by kernel_rfl
theorem R3_f6 : Region.free .any R3 #[true, true, true, true, true, true, false, false, false, false, false, false, false, false, false, false, false, false, false, false, false, false, false, false, false, false, false, false, false, false, false, false, false, false, false, false, false, false, false, false, false, false, false, false] 6 = true := by kernel_rfl
theorem R3_c6 : (Region.ready .any R3 #[true, true, true, true, true, true, false, false, false, false, false, false, false, false, false, false, false, false, false, false, false, false, false, false, false, false, false, false, false, false, false, false, false, false, false, false, false, false, false, false, false, false, false, false]).contains 6 = true := by kernel_rfl
theorem R3_f7 : Region.free .any R3 #[true, true, true, true, true, true, true, false, false, false, false, false, false, false, false, false, false, false, false, false, false, false, false, false, false, false, false, false, false, false, false, false, false, false, false, false, false, false, false, false, false, false, false, false] 7 = true := by kernel_rfl
theorem R3_c7 : (Region.ready .any R3 #[true, true, true, true, true, true, true, false, false, false, false, false, false, false, false, false, false, false, false, false, false, false, false, false, false, false, false, false, false, false, false, false, false, false, false, false, false, false, false, false, false, false, false, false]).contains 7 = true := by kernel_rfl
theorem R3_f9 : Region.free .any R3 #[true, true, true, true, true, true, true, true, false, false, false, false, false, false, false, false, false, false, false, false, false, false, false, false, false, false, false, false, false, false, false, false, false, false, false, false, false, false, false, false, false, false, false, false] 9 = true := by kernel_rfl
theorem R3_c9 : (Region.ready .any R3 #[true, true, true, true, true, true, true, true, false, false, false, false, false, false, false, false, false, false, false, false, false, false, false, false, false, false, false, false, false, false, false, false, false, false, false, false, false, false, false, false, false, false, false, false]).contains 9 = true := by kernel_rfl
theorem R3_f10 : Region.free .any R3 #[true, true, true, true, true, true, true, true, false, true, false, false, false, false, false, false, false, false, false, false, false, false, false, false, false, false, false, false, false, false, false, false, false, false, false, false, false, false, false, false, false, false, false, false] 10 = true := by kernel_rfl
theorem R3_c10 : (Region.ready .any R3 #[true, true, true, true, true, true, true, true, false, true, false, false, false, false, false, false, false, false, false, false, false, false, false, false, false, false, false, false, false, false, false, false, false, false, false, false, false, false, false, false, false, false, false, false]).contains 10 = true := by kernel_rfl
theorem R3_r8 : Region.ready .any R3 #[true, true, true, true, true, true, true, true, false, true, true, false, false, false, false, false, false, false, false, false, false, false, false, false, false, false, false, false, false, false, false, false, false, false, false, false, false, false, false, false, false, false, false, false] = [8] := by kernel_rfl
theorem R3_r11 : Region.ready .any R3 #[true, true, true, true, true, true, true, true, true, true, true, false, false, false, false, false, false, false, false, false, false, false, false, false, false, false, false, false, false, false, false, false, false, false, false, false, false, false, false, false, false, false, false, false] = [11] := by kernel_rfl
theorem R3_f12 : Region.free .any R3 #[true, true, true, true, true, true, true, true, true, true, true, true, false, false, false, false, false, false, false, false, false, false, false, false, false, false, false, false, false, false, false, false, false, false, false, false, false, false, false, false, false, false, false, false] 12 = true := by kernel_rfl
theorem R3_c12 : (Region.ready .any R3 #[true, true, true, true, true, true, true, true, true, true, true, true, false, false, false, false, false, false, false, false, false, false, false, false, false, false, false, false, false, false, false, false, false, false, false, false, false, false, false, false, false, false, false, false]).contains 12 = true := by kernel_rfl
theorem R3_f13 : Region.free .any R3 #[true, true, true, true, true, true, true, true, true, true, true, true, true, false, false, false, false, false, false, false, false, false, false, false, false, false, false, false, false, false, false, false, false, false, false, false, false, false, false, false, false, false, false, false] 13 = true := by kernel_rfl
theorem R3_c13 : (Region.ready .any R3 #[true, true, true, true, true, true, true, true, true, true, true, true, true, false, false, false, false, false, false, false, false, false, false, false, false, false, false, false, false, false, false, false, false, false, false, false, false, false, false, false, false, false, false, false]).contains 13 = true := by kernel_rfl
theorem R3_f14 : Region.free .any R3 #[true, true, true, true, true, true, true, true, true, true, true, true, true, true, false, false, false, false, false, false, false, false, false, false, false, false, false, false, false, false, false, false, false, false, false, false, false, false, false, false, false, false, false, false] 14 = true := by kernel_rfl
theorem R3_c14 : (Region.ready .any R3 #[true, true, true, true, true, true, true, true, true, true, true, true, true, true, false, false, false, false, false, false, false, false, false, false, false, false, false, false, false, false, false, false, false, false, false, false, false, false, false, false, false, false, false, false]).contains 14 = true := by kernel_rfl
theorem R3_f15 : Region.free .any R3 #[true, true, true, true, true, true, true, true, true, true, true, true, true, true, true, false, false, false, false, false, false, false, false, false, false, false, false, false, false, false, false, false, false, false, false, false, false, false, false, false, false, false, false, false] 15 = true := by kernel_rfl
theorem R3_c15 : (Region.ready .any R3 #[true, true, true, true, true, true, true, true, true, true, true, true, true, true, true, false, false, false, false, false, false, false, false, false, false, false, false, false, false, false, false, false, false, false, false, false, false, false, false, false, false, false, false, false]).contains 15 = true := by kernel_rfl
theorem R3_f17 : Region.free .any R3 #[true, true, true, true, true, true, true, true, true, true, true, true, true, true, true, true, false, false, false, false, false, false, false, false, false, false, false, false, false, false, false, false, false, false, false, false, false, false, false, false, false, false, false, false] 17 = true := by kernel_rfl
theorem R3_c17 : (Region.ready .any R3 #[true, true, true, true, true, true, true, true, true, true, true, true, true, true, true, true, false, false, false, false, false, false, false, false, false, false, false, false, false, false, false, false, false, false, false, false, false, false, false, false, false, false, false, false]).contains 17 = true := by kernel_rfl
theorem R3_r16 : Region.ready .any R3 #[true, true, true, true, true, true, true, true, true, true, true, true, true, true, true, true, false, true, false, false, false, false, false, false, false, false, false, false, false, false, false, false, false, false, false, false, false, false, false, false, false, false, false, false] = [16] := by kernel_rfl
theorem R3_r18 : Region.ready .any R3 #[true, true, true, true, true, true, true, true, true, true, true, true, true, true, true, true, true, true, false, false, false, false, false, false, false, false, false, false, false, false, false, false, false, false, false, false, false, false, false, false, false, false, false, false] = [18] := by kernel_rfl
theorem R3_f19 : Region.free .any R3 #[true, true, true, true, true, true, true, true, true, true, true, true, true, true, true, true, true, true, true, false, false, false, false, false, false, false, false, false, false, false, false, false, false, false, false, false, false, false, false, false, false, false, false, false] 19 = true := by kernel_rfl
theorem R3_c19 : (Region.ready .any R3 #[true, true, true, true, true, true, true, true, true, true, true, true, true, true, true, true, true, true, true, false, false, false, false, false, false, false, false, false, false, false, false, false, false, false, false, false, false, false, false, false, false, false, false, false]).contains 19 = true := by kernel_rfl
theorem R3_f20 : Region.free .any R3 #[true, true, true, true, true, true, true, true, true, true, true, true, true, true, true, true, true, true, true, true, false, false, false, false, false, false, false, false, false, false, false, false, false, false, false, false, false, false, false, false, false, false, false, false] 20 = true := by kernel_rfl
theorem R3_c20 : (Region.ready .any R3 #[true, true, true, true, true, true, true, true, true, true, true, true, true, true, true, true, true, true, true, true, false, false, false, false, false, false, false, false, false, false, false, false, false, false, false, false, false, false, false, false, false, false, false, false]).contains 20 = true := by kernel_rfl
theorem R3_f21 : Region.free .any R3 #[true, true, true, true, true, true, true, true, true, true, true, true, true, true, true, true, true, true, true, true, true, false, false, false, false, false, false, false, false, false, false, false, false, false, false, false, false, false, false, false, false, false, false, false] 21 = true := by kernel_rfl
theorem R3_c21 : (Region.ready .any R3 #[true, true, true, true, true, true, true, true, true, true, true, true, true, true, true, true, true, true, true, true, true, false, false, false, false, false, false, false, false, false, false, false, false, false, false, false, false, false, false, false, false, false, false, false]).contains 21 = true := by kernel_rfl
theorem R3_r22 : Region.ready .any R3 #[true, true, true, true, true, true, true, true, true, true, true, true, true, true, true, true, true, true, true, true, true, true, false, false, false, false, false, false, false, false, false, false, false, false, false, false, false, false, false, false, false, false, false, false] = [22] := by kernel_rfl
theorem R3_r23 : Region.ready .any R3 #[true, true, true, true, true, true, true, true, true, true, true, true, true, true, true, true, true, true, true, true, true, true, true, false, false, false, false, false, false, false, false, false, false, false, false, false, false, false, false, false, false, false, false, false] = [23] := by kernel_rfl
theorem R3_f24 : Region.free .any R3 #[true, true, true, true, true, true, true, true, true, true, true, true, true, true, true, true, true, true, true, true, true, true, true, true, false, false, false, false, false, false, false, false, false, false, false, false, false, false, false, false, false, false, false, false] 24 = true := by kernel_rfl
theorem R3_c24 : (Region.ready .any R3 #[true, true, true, true, true, true, true, true, true, true, true, true, true, true, true, true, true, true, true, true, true, true, true, true, false, false, false, false, false, false, false, false, false, false, false, false, false, false, false, false, false, false, false, false]).contains 24 = true := by kernel_rfl
theorem R3_f25 : Region.free .any R3 #[true, true, true, true, true, true, true, true, true, true, true, true, true, true, true, true, true, true, true, true, true, true, true, true, true, false, false, false, false, false, false, false, false, false, false, false, false, false, false, false, false, false, false, false] 25 = true := by kernel_rfl
theorem R3_c25 : (Region.ready .any R3 #[true, true, true, true, true, true, true, true, true, true, true, true, true, true, true, true, true, true, true, true, true, true, true, true, true, false, false, false, false, false, false, false, false, false, false, false, false, false, false, false, false, false, false, false]).contains 25 = true := by kernel_rfl
theorem R3_f26 : Region.free .any R3 #[true, true, true, true, true, true, true, true, true, true, true, true, true, true, true, true, true, true, true, true, true, true, true, true, true, true, false, false, false, false, false, false, false, false, false, false, false, false, false, false, false, false, false, false] 26 = true := by kernel_rfl
theorem R3_c26 : (Region.ready .any R3 #[true, true, true, true, true, true, true, true, true, true, true, true, true, true, true, true, true, true, true, true, true, true, true, true, true, true, false, false, false, false, false, false, false, false, false, false, false, false, false, false, false, false, false, false]).contains 26 = true := by kernel_rfl
theorem R3_f27 : Region.free .any R3 #[true, true, true, true, true, true, true, true, true, true, true, true, true, true, true, true, true, true, true, true, true, true, true, true, true, true, true, false, false, false, false, false, false, false, false, false, false, false, false, false, false, false, false, false] 27 = true := by kernel_rfl
theorem R3_c27 : (Region.ready .any R3 #[true, true, true, true, true, true, true, true, true, true, true, true, true, true, true, true, true, true, true, true, true, true, true, true, true, true, true, false, false, false, false, false, false, false, false, false, false, false, false, false, false, false, false, false]).contains 27 = true := by kernel_rfl
theorem R3_f29 : Region.free .any R3 #[true, true, true, true, true, true, true, true, true, true, true, true, true, true, true, true, true, true, true, true, true, true, true, true, true, true, true, true, false, false, false, false, false, false, false, false, false, false, false, false, false, false, false, false] 29 = true := by kernel_rfl
theorem R3_c29 : (Region.ready .any R3 #[true, true, true, true, true, true, true, true, true, true, true, true, true, true, true, true, true, true, true, true, true, true, true, true, true, true, true, true, false, false, false, false, false, false, false, false, false, false, false, false, false, false, false, false]).contains 29 = true := by kernel_rfl
theorem R3_r28 : Region.ready .any R3 #[true, true, true, true, true, true, true, true, true, true, true, true, true, true, true, true, true, true, true, true, true, true, true, true, true, true, true, true, false, true, false, false, false, false, false, false, false, false, false, false, false, false, false, false] = [28] := by kernel_rfl
theorem R3_r30 : Region.ready .any R3 #[true, true, true, true, true, true, true, true, true, true, true, true, true, true, true, true, true, true, true, true, true, true, true, true, true, true, true, true, true, true, false, false, false, false, false, false, false, false, false, false, false, false, false, false] = [30] := by kernel_rfl
theorem R3_r31 : Region.ready .any R3 #[true, true, true, true, true, true, true, true, true, true, true, true, true, true, true, true, true, true, true, true, true, true, true, true, true, true, true, true, true, true, true, false, false, false, false, false, false, false, false, false, false, false, false, false] = [31] := by kernel_rfl
theorem R3_f32 : Region.free .any R3 #[true, true, true, true, true, true, true, true, true, true, true, true, true, true, true, true, true, true, true, true, true, true, true, true, true, true, true, true, true, true, true, true, false, false, false, false, false, false, false, false, false, false, false, false] 32 = true := by kernel_rfl
theorem R3_c32 : (Region.ready .any R3 #[true, true, true, true, true, true, true, true, true, true, true, true, true, true, true, true, true, true, true, true, true, true, true, true, true, true, true, true, true, true, true, true, false, false, false, false, false, false, false, false, false, false, false, false]).contains 32 = true := by kernel_rfl
theorem R3_f33 : Region.free .any R3 #[true, true, true, true, true, true, true, true, true, true, true, true, true, true, true, true, true, true, true, true, true, true, true, true, true, true, true, true, true, true, true, true, true, false, false, false, false, false, false, false, false, false, false, false] 33 = true := by kernel_rfl
theorem R3_c33 : (Region.ready .any R3 #[true, true, true, true, true, true, true, true, true, true, true, true, true, true, true, true, true, true, true, true, true, true, true, true, true, true, true, true, true, true, true, true, true, false, false, false, false, false, false, false, false, false, false, false]).contains 33 = true := by kernel_rfl
theorem R3_f34 : Region.free .any R3 #[true, true, true, true, true, true, true, true, true, true, true, true, true, true, true, true, true, true, true, true, true, true, true, true, true, true, true, true, true, true, true, true, true, true, false, false, false, false, false, false, false, false, false, false] 34 = true := by kernel_rfl
theorem R3_c34 : (Region.ready .any R3 #[true, true, true, true, true, true, true, true, true, true, true, true, true, true, true, true, true, true, true, true, true, true, true, true, true, true, true, true, true, true, true, true, true, true, false, false, false, false, false, false, false, false, false, false]).contains 34 = true := by kernel_rfl
theorem R3_f36 : Region.free .any R3 #[true, true, true, true, true, true, true, true, true, true, true, true, true, true, true, true, true, true, true, true, true, true, true, true, true, true, true, true, true, true, true, true, true, true, true, false, false, false, false, false, false, false, false, false] 36 = true := by kernel_rfl
theorem R3_c36 : (Region.ready .any R3 #[true, true, true, true, true, true, true, true, true, true, true, true, true, true, true, true, true, true, true, true, true, true, true, true, true, true, true, true, true, true, true, true, true, true, true, false, false, false, false, false, false, false, false, false]).contains 36 = true := by kernel_rfl
theorem R3_r35 : Region.ready .any R3 #[true, true, true, true, true, true, true, true, true, true, true, true, true, true, true, true, true, true, true, true, true, true, true, true, true, true, true, true, true, true, true, true, true, true, true, false, true, false, false, false, false, false, false, false] = [35] := by kernel_rfl
theorem R3_r37 : Region.ready .any R3 #[true, true, true, true, true, true, true, true, true, true, true, true, true, true, true, true, true, true, true, true, true, true, true, true, true, true, true, true, true, true, true, true, true, true, true, true, true, false, false, false, false, false, false, false] = [37] := by kernel_rfl
theorem R3_f38 : Region.free .any R3 #[true, true, true, true, true, true, true, true, true, true, true, true, true, true, true, true, true, true, true, true, true, true, true, true, true, true, true, true, true, true, true, true, true, true, true, true, true, true, false, false, false, false, false, false] 38 = true := by kernel_rfl
theorem R3_c38 : (Region.ready .any R3 #[true, true, true, true, true, true, true, true, true, true, true, true, true, true, true, true, true, true, true, true, true, true, true, true, true, true, true, true, true, true, true, true, true, true, true, true, true, true, false, false, false, false, false, false]).contains 38 = true := by kernel_rfl
theorem R3_f39 : Region.free .any R3 #[true, true, true, true, true, true, true, true, true, true, true, true, true, true, true, true, true, true, true, true, true, true, true, true, true, true, true, true, true, true, true, true, true, true, true, true, true, true, true, false, false, false, false, false] 39 = true := by kernel_rfl
theorem R3_c39 : (Region.ready .any R3 #[true, true, true, true, true, true, true, true, true, true, true, true, true, true, true, true, true, true, true, true, true, true, true, true, true, true, true, true, true, true, true, true, true, true, true, true, true, true, true, false, false, false, false, false]).contains 39 = true := by kernel_rfl
theorem R3_f40 : Region.free .any R3 #[true, true, true, true, true, true, true, true, true, true, true, true, true, true, true, true, true, true, true, true, true, true, true, true, true, true, true, true, true, true, true, true, true, true, true, true, true, true, true, true, false, false, false, false] 40 = true := by kernel_rfl
theorem R3_c40 : (Region.ready .any R3 #[true, true, true, true, true, true, true, true, true, true, true, true, true, true, true, true, true, true, true, true, true, true, true, true, true, true, true, true, true, true, true, true, true, true, true, true, true, true, true, true, false, false, false, false]).contains 40 = true := by kernel_rfl
theorem R3_r41 : Region.ready .any R3 #[true, true, true, true, true, true, true, true, true, true, true, true, true, true, true, true, true, true, true, true, true, true, true, true, true, true, true, true, true, true, true, true, true, true, true, true, true, true, true, true, true, false, false, false] = [41] := by kernel_rfl
theorem R3_f42 : Region.free .any R3 #[true, true, true, true, true, true, true, true, true, true, true, true, true, true, true, true, true, true, true, true, true, true, true, true, true, true, true, true, true, true, true, true, true, true, true, true, true, true, true, true, true, true, false, false] 42 = true := by kernel_rfl
theorem R3_c42 : (Region.ready .any R3 #[true, true, true, true, true, true, true, true, true, true, true, true, true, true, true, true, true, true, true, true, true, true, true, true, true, true, true, true, true, true, true, true, true, true, true, true, true, true, true, true, true, true, false, false]).contains 42 = true := by kernel_rfl
theorem R3_f43 : Region.free .any R3 #[true, true, true, true, true, true, true, true, true, true, true, true, true, true, true, true, true, true, true, true, true, true, true, true, true, true, true, true, true, true, true, true, true, true, true, true, true, true, true, true, true, true, true, false] 43 = true := by kernel_rfl
theorem R3_c43 : (Region.ready .any R3 #[true, true, true, true, true, true, true, true, true, true, true, true, true, true, true, true, true, true, true, true, true, true, true, true, true, true, true, true, true, true, true, true, true, true, true, true, true, true, true, true, true, true, true, false]).contains 43 = true := by kernel_rfl

set_option maxHeartbeats 4000000 in
theorem entryTells_any (a b : Ent) (A : Option Addr) (n c : Nat) (es : List Ent) (w : World) (hs : Se w w.heap.size A n c es) :
    Calls Try.prog 3 #[ev a, ev b, .slice A n c] w fun e W' => e = .returned (.bool true) ∧ Below w.heap.size w W' := by
  have hT : Two a b w ((w.alloc (.cells #[.int .i64 a.cur, .int .i64 a.prev, .int .i64 a.gen, .int .i64 a.tick] 23)).alloc (.cells #[.int .i64 b.cur, .int .i64 b.prev, .int .i64 b.gen, .int .i64 b.tick] 23)) := by
    refine ⟨(Bx.new w _ _ _ _).alloc _, ?_, ((Below.refl _ w).alloc (Nat.le_refl _) _).alloc (by simp) _⟩
    have h := Bx.new (w.alloc (.cells #[.int .i64 a.cur, .int .i64 a.prev, .int .i64 a.gen, .int .i64 a.tick] 23)) b.cur b.prev b.gen b.tick
    rw [World.size_alloc] at h
    exact h
  go_enter Try.func3, Try.ntmps3
  by_cases hn : 60 < n
  · go_wp2_with (go_at_call 7; refine (wakes_any _).mono ?_; rintro e w' ⟨rfl, hB⟩)
    go_ret
    exact ⟨rfl, (hT.below hB).2.2⟩
  · go_wp2
    refine region_as (R := R3) (by kernel_rfl) ?_
    refine wp_region_held_drew (S := Two a b w) (by kernel_rfl) ?_ (fun hHeld => ?_)
    · exact hT.drewN 1
    refine listed_as (L := #[false, false, false, false, false, false, false, false, false, false, false, false, false, false, false, false, false, false, false, false, false, false, false, false, false, false, false, false, false, false, false, false, false, false, false, false, false, false, false, false, false, false, false, false]) (by kernel_rfl) ?_
    refine take_bare (i := 0) (some 11) (Go.Op.load 23 (Go.Operand.tmp 3)) 23 #[true, false, false, false, false, false, false, false, false, false, false, false, false, false, false, false, false, false, false, false, false, false, false, false, false, false, false, false, false, false, false, false, false, false, false, false, false, false, false, false, false, false, false, false] (v := (ev a)) hHeld rfl (by kernel_rfl) (by kernel_rfl) (by kernel_rfl) (by kernel_rfl) R3_s R3_f0 R3_c0 (by kernel_rfl) (fun _ _ _ h => h) (fun W hS => run_load_bx (s := 3) (by kernel_rfl) (by kernel_rfl) hS.1) ?_
    try simp only [Act.put, List.setIfInBounds_toArray, List.set_cons_zero, List.set_cons_succ]
    refine take_bare (i := 2) (some 13) (Go.Op.load 23 (Go.Operand.tmp 3)) 23 #[true, false, true, false, false, false, false, false, false, false, false, false, false, false, false, false, false, false, false, false, false, false, false, false, false, false, false, false, false, false, false, false, false, false, false, false, false, false, false, false, false, false, false, false] (v := (ev a)) hHeld rfl (by kernel_rfl) (by kernel_rfl) (by kernel_rfl) (by kernel_rfl) R3_s R3_f2 R3_c2 (by kernel_rfl) (fun _ _ _ h => h) (fun W hS => run_load_bx (s := 3) (by kernel_rfl) (by kernel_rfl) hS.1) ?_
    try simp only [Act.put, List.setIfInBounds_toArray, List.set_cons_zero, List.set_cons_succ]
    refine step_bare (i := 1) (some 12) (Go.Op.call { callee := Go.Callee.value (Go.Operand.func 8), args := #[Go.Operand.tmp 11], argTypes := #[23] }) 4 #[true, true, true, false, false, false, false, false, false, false, false, false, false, false, false, false, false, false, false, false, false, false, false, false, false, false, false, false, false, false, false, false, false, false, false, false, false, false, false, false, false, false, false, false] R3_r1 rfl (by kernel_rfl) (by kernel_rfl) (by kernel_rfl) (by kernel_rfl) (by kernel_rfl) (fun K hK => ?_)
    go_simp
    (with_reducible refine (right_any a _).mono ?_)
    rintro e w1 ⟨rfl, hB1⟩
    go_simp
    refine hK.out _ _ ?_ (fun hHeld => ?_)
    · exact hHeld.below hB1
    clear hK K
    try simp only [Act.put, List.setIfInBounds_toArray, List.set_cons_zero, List.set_cons_succ]
    refine step_bare (i := 3) (some 14) (Go.Op.call { callee := Go.Callee.value (Go.Operand.func 9), args := #[Go.Operand.tmp 13], argTypes := #[23] }) 4 #[true, true, true, true, false, false, false, false, false, false, false, false, false, false, false, false, false, false, false, false, false, false, false, false, false, false, false, false, false, false, false, false, false, false, false, false, false, false, false, false, false, false, false, false] R3_r3 rfl (by kernel_rfl) (by kernel_rfl) (by kernel_rfl) (by kernel_rfl) (by kernel_rfl) (fun K hK => ?_)
    go_simp
    (with_reducible refine (refRight_any a _).mono ?_)
    rintro e w3 ⟨rfl, hB3⟩
    go_simp
    refine hK.out _ _ ?_ (fun hHeld => ?_)
    · exact hHeld.below hB3
    clear hK K
    try simp only [Act.put, List.setIfInBounds_toArray, List.set_cons_zero, List.set_cons_succ]
    refine take_bare (i := 4) (some 15) (Go.Op.binOp Go.BinOp.eql 4 (Go.Operand.tmp 12) (Go.Operand.tmp 14) 4) 4 #[true, true, true, true, true, false, false, false, false, false, false, false, false, false, false, false, false, false, false, false, false, false, false, false, false, false, false, false, false, false, false, false, false, false, false, false, false, false, false, false, false, false, false, false] (v := ?_) hHeld rfl (by kernel_rfl) (by kernel_rfl) (by kernel_rfl) (by kernel_rfl) R3_s R3_f4 R3_c4 (by kernel_rfl) (fun _ _ _ h => h) ?hya4_3 ?_
    case hya4_3 => intro w hSw; clear hSw; go_simp; try with_reducible rfl
    try simp only [Act.put, List.setIfInBounds_toArray, List.set_cons_zero, List.set_cons_succ]
    refine take_bare (i := 5) (some 16) (Go.Op.move (Go.Operand.tmp 15)) 4 #[true, true, true, true, true, true, false, false, false, false, false, false, false, false, false, false, false, false, false, false, false, false, false, false, false, false, false, false, false, false, false, false, false, false, false, false, false, false, false, false, false, false, false, false] (v := ?_) hHeld rfl (by kernel_rfl) (by kernel_rfl) (by kernel_rfl) (by kernel_rfl) R3_s R3_f5 R3_c5 (by kernel_rfl) (fun _ _ _ h => h) ?hya5_4 ?_
    case hya5_4 => intro w hSw; clear hSw; go_simp; try with_reducible rfl
    try simp only [Act.put, List.setIfInBounds_toArray, List.set_cons_zero, List.set_cons_succ]
    refine take_bare (i := 6) (some 17) (Go.Op.load 23 (Go.Operand.tmp 3)) 23 #[true, true, true, true, true, true, true, false, false, false, false, false, false, false, false, false, false, false, false, false, false, false, false, false, false, false, false, false, false, false, false, false, false, false, false, false, false, false, false, false, false, false, false, false] (v := (ev a)) hHeld rfl (by kernel_rfl) (by kernel_rfl) (by kernel_rfl) (by kernel_rfl) R3_s R3_f6 R3_c6 (by kernel_rfl) (fun _ _ _ h => h) (fun W hS => run_load_bx (s := 3) (by kernel_rfl) (by kernel_rfl) hS.1) ?_
    try simp only [Act.put, List.setIfInBounds_toArray, List.set_cons_zero, List.set_cons_succ]
    refine take_bare (i := 7) (some 18) (Go.Op.load 23 (Go.Operand.tmp 4)) 23 #[true, true, true, true, true, true, true, true, false, false, false, false, false, false, false, false, false, false, false, false, false, false, false, false, false, false, false, false, false, false, false, false, false, false, false, false, false, false, false, false, false, false, false, false] (v := (ev b)) hHeld rfl (by kernel_rfl) (by kernel_rfl) (by kernel_rfl) (by kernel_rfl) R3_s R3_f7 R3_c7 (by kernel_rfl) (fun _ _ _ h => h) (fun W hS => run_load_bx (s := 4) (by kernel_rfl) (by kernel_rfl) hS.2.1) ?_
    try simp only [Act.put, List.setIfInBounds_toArray, List.set_cons_zero, List.set_cons_succ]
    refine take_bare (i := 9) (some 20) (Go.Op.load 23 (Go.Operand.tmp 3)) 23 #[true, true, true, true, true, true, true, true, false, true, false, false, false, false, false, false, false, false, false, false, false, false, false, false, false, false, false, false, false, false, false, false, false, false, false, false, false, false, false, false, false, false, false, false] (v := (ev a)) hHeld rfl (by kernel_rfl) (by kernel_rfl) (by kernel_rfl) (by kernel_rfl) R3_s R3_f9 R3_c9 (by kernel_rfl) (fun _ _ _ h => h) (fun W hS => run_load_bx (s := 3) (by kernel_rfl) (by kernel_rfl) hS.1) ?_
    try simp only [Act.put, List.setIfInBounds_toArray, List.set_cons_zero, List.set_cons_succ]
    refine take_bare (i := 10) (some 21) (Go.Op.load 23 (Go.Operand.tmp 4)) 23 #[true, true, true, true, true, true, true, true, false, true, true, false, false, false, false, false, false, false, false, false, false, false, false, false, false, false, false, false, false, false, false, false, false, false, false, false, false, false, false, false, false, false, false, false] (v := (ev b)) hHeld rfl (by kernel_rfl) (by kernel_rfl) (by kernel_rfl) (by kernel_rfl) R3_s R3_f10 R3_c10 (by kernel_rfl) (fun _ _ _ h => h) (fun W hS => run_load_bx (s := 4) (by kernel_rfl) (by kernel_rfl) hS.2.1) ?_
    try simp only [Act.put, List.setIfInBounds_toArray, List.set_cons_zero, List.set_cons_succ]
    refine step_bare (i := 8) (some 19) (Go.Op.call { callee := Go.Callee.value (Go.Operand.func 10), args := #[Go.Operand.tmp 17, Go.Operand.tmp 18], argTypes := #[23, 23] }) 4 #[true, true, true, true, true, true, true, true, true, true, true, false, false, false, false, false, false, false, false, false, false, false, false, false, false, false, false, false, false, false, false, false, false, false, false, false, false, false, false, false, false, false, false, false] R3_r8 rfl (by kernel_rfl) (by kernel_rfl) (by kernel_rfl) (by kernel_rfl) (by kernel_rfl) (fun K hK => ?_)
    go_simp
    (with_reducible refine (newer_any a b _).mono ?_)
    rintro e w8 ⟨rfl, hB8⟩
    go_simp
    refine hK.out _ _ ?_ (fun hHeld => ?_)
    · exact hHeld.below hB8
    clear hK K
    try simp only [Act.put, List.setIfInBounds_toArray, List.set_cons_zero, List.set_cons_succ]
    refine step_bare (i := 11) (some 22) (Go.Op.call { callee := Go.Callee.value (Go.Operand.func 11), args := #[Go.Operand.tmp 20, Go.Operand.tmp 21], argTypes := #[23, 23] }) 4 #[true, true, true, true, true, true, true, true, true, true, true, true, false, false, false, false, false, false, false, false, false, false, false, false, false, false, false, false, false, false, false, false, false, false, false, false, false, false, false, false, false, false, false, false] R3_r11 rfl (by kernel_rfl) (by kernel_rfl) (by kernel_rfl) (by kernel_rfl) (by kernel_rfl) (fun K hK => ?_)
    go_simp
    (with_reducible refine (refNewer_any a b _).mono ?_)
    rintro e w11 ⟨rfl, hB11⟩
    go_simp
    refine hK.out _ _ ?_ (fun hHeld => ?_)
    · exact hHeld.below hB11
    clear hK K
    try simp only [Act.put, List.setIfInBounds_toArray, List.set_cons_zero, List.set_cons_succ]
    refine take_bare (i := 12) (some 23) (Go.Op.binOp Go.BinOp.eql 4 (Go.Operand.tmp 19) (Go.Operand.tmp 22) 4) 4 #[true, true, true, true, true, true, true, true, true, true, true, true, true, false, false, false, false, false, false, false, false, false, false, false, false, false, false, false, false, false, false, false, false, false, false, false, false, false, false, false, false, false, false, false] (v := ?_) hHeld rfl (by kernel_rfl) (by kernel_rfl) (by kernel_rfl) (by kernel_rfl) R3_s R3_f12 R3_c12 (by kernel_rfl) (fun _ _ _ h => h) ?hya12_9 ?_
    case hya12_9 => intro w hSw; clear hSw; go_simp; try with_reducible rfl
    try simp only [Act.put, List.setIfInBounds_toArray, List.set_cons_zero, List.set_cons_succ]
    refine take_bare (i := 13) (some 24) (Go.Op.pick (Go.Operand.tmp 16) (Go.Operand.tmp 23) (Go.Operand.const (Go.Value.bool false))) 4 #[true, true, true, true, true, true, true, true, true, true, true, true, true, true, false, false, false, false, false, false, false, false, false, false, false, false, false, false, false, false, false, false, false, false, false, false, false, false, false, false, false, false, false, false] (v := ?_) hHeld rfl (by kernel_rfl) (by kernel_rfl) (by kernel_rfl) (by kernel_rfl) R3_s R3_f13 R3_c13 (by kernel_rfl) (fun _ _ _ h => h) ?hya13_10 ?_
    case hya13_10 => intro w hSw; clear hSw; go_simp; try with_reducible rfl
    try simp only [Act.put, List.setIfInBounds_toArray, List.set_cons_zero, List.set_cons_succ]
    refine take_bare (i := 14) (some 25) (Go.Op.move (Go.Operand.tmp 24)) 4 #[true, true, true, true, true, true, true, true, true, true, true, true, true, true, true, false, false, false, false, false, false, false, false, false, false, false, false, false, false, false, false, false, false, false, false, false, false, false, false, false, false, false, false, false] (v := ?_) hHeld rfl (by kernel_rfl) (by kernel_rfl) (by kernel_rfl) (by kernel_rfl) R3_s R3_f14 R3_c14 (by kernel_rfl) (fun _ _ _ h => h) ?hya14_11 ?_
    case hya14_11 => intro w hSw; clear hSw; go_simp; try with_reducible rfl
    try simp only [Act.put, List.setIfInBounds_toArray, List.set_cons_zero, List.set_cons_succ]
    refine take_bare (i := 15) (some 26) (Go.Op.move (Go.Operand.tmp 2)) 24 #[true, true, true, true, true, true, true, true, true, true, true, true, true, true, true, true, false, false, false, false, false, false, false, false, false, false, false, false, false, false, false, false, false, false, false, false, false, false, false, false, false, false, false, false] (v := ?_) hHeld rfl (by kernel_rfl) (by kernel_rfl) (by kernel_rfl) (by kernel_rfl) R3_s R3_f15 R3_c15 (by kernel_rfl) (fun _ _ _ h => h) ?hya15_12 ?_
    case hya15_12 => intro w hSw; clear hSw; go_simp; try with_reducible rfl
    try simp only [Act.put, List.setIfInBounds_toArray, List.set_cons_zero, List.set_cons_succ]
    refine take_bare (i := 17) (some 28) (Go.Op.move (Go.Operand.tmp 2)) 24 #[true, true, true, true, true, true, true, true, true, true, true, true, true, true, true, true, false, true, false, false, false, false, false, false, false, false, false, false, false, false, false, false, false, false, false, false, false, false, false, false, false, false, false, false] (v := ?_) hHeld rfl (by kernel_rfl) (by kernel_rfl) (by kernel_rfl) (by kernel_rfl) R3_s R3_f17 R3_c17 (by kernel_rfl) (fun _ _ _ h => h) ?hya17_13 ?_
    case hya17_13 => intro w hSw; clear hSw; go_simp; try with_reducible rfl
    try simp only [Act.put, List.setIfInBounds_toArray, List.set_cons_zero, List.set_cons_succ]
    refine step_bare (i := 16) (some 27) (Go.Op.call { callee := Go.Callee.value (Go.Operand.func 12), args := #[Go.Operand.tmp 26], argTypes := #[24] }) 23 #[true, true, true, true, true, true, true, true, true, true, true, true, true, true, true, true, true, true, false, false, false, false, false, false, false, false, false, false, false, false, false, false, false, false, false, false, false, false, false, false, false, false, false, false] R3_r16 rfl (by kernel_rfl) (by kernel_rfl) (by kernel_rfl) (by kernel_rfl) (by kernel_rfl) (fun K hK => ?_)
    go_simp
    (with_reducible refine (merge_any A n c es _ ?_).mono ?_)
    · exact (hs.below hHeld.2.2).more hHeld.2.2.size
    rintro e w16 ⟨rfl, hB16⟩
    go_simp
    refine hK.out _ _ ?_ (fun hHeld => ?_)
    · exact hHeld.below hB16
    clear hK K
    try simp only [Act.put, List.setIfInBounds_toArray, List.set_cons_zero, List.set_cons_succ]
    refine step_bare (i := 18) (some 29) (Go.Op.call { callee := Go.Callee.value (Go.Operand.func 13), args := #[Go.Operand.tmp 28], argTypes := #[24] }) 23 #[true, true, true, true, true, true, true, true, true, true, true, true, true, true, true, true, true, true, true, false, false, false, false, false, false, false, false, false, false, false, false, false, false, false, false, false, false, false, false, false, false, false, false, false] R3_r18 rfl (by kernel_rfl) (by kernel_rfl) (by kernel_rfl) (by kernel_rfl) (by kernel_rfl) (fun K hK => ?_)
    go_simp
    (with_reducible refine (refMerge_any A n c es _ ?_).mono ?_)
    · exact (hs.below hHeld.2.2).more hHeld.2.2.size
    rintro e w18 ⟨rfl, hB18⟩
    go_simp
    refine hK.out _ _ ?_ (fun hHeld => ?_)
    · exact hHeld.below hB18
    clear hK K
    try simp only [Act.put, List.setIfInBounds_toArray, List.set_cons_zero, List.set_cons_succ]
    refine take_bare (i := 19) (some 30) (Go.Op.binOp Go.BinOp.eql 23 (Go.Operand.tmp 27) (Go.Operand.tmp 29) 23) 4 #[true, true, true, true, true, true, true, true, true, true, true, true, true, true, true, true, true, true, true, true, false, false, false, false, false, false, false, false, false, false, false, false, false, false, false, false, false, false, false, false, false, false, false, false] (v := ?_) hHeld rfl (by kernel_rfl) (by kernel_rfl) (by kernel_rfl) (by kernel_rfl) R3_s R3_f19 R3_c19 (by kernel_rfl) (fun _ _ _ h => h) ?hya19_14 ?_
    case hya19_14 => intro w hSw; clear hSw; go_simp; try with_reducible rfl
    try simp only [Act.put, List.setIfInBounds_toArray, List.set_cons_zero, List.set_cons_succ]
    refine take_bare (i := 20) (some 31) (Go.Op.pick (Go.Operand.tmp 25) (Go.Operand.tmp 30) (Go.Operand.const (Go.Value.bool false))) 4 #[true, true, true, true, true, true, true, true, true, true, true, true, true, true, true, true, true, true, true, true, true, false, false, false, false, false, false, false, false, false, false, false, false, false, false, false, false, false, false, false, false, false, false, false] (v := ?_) hHeld rfl (by kernel_rfl) (by kernel_rfl) (by kernel_rfl) (by kernel_rfl) R3_s R3_f20 R3_c20 (by kernel_rfl) (fun _ _ _ h => h) ?hya20_15 ?_
    case hya20_15 => intro w hSw; clear hSw; go_simp; try with_reducible rfl
    try simp only [Act.put, List.setIfInBounds_toArray, List.set_cons_zero, List.set_cons_succ]
    refine take_bare (i := 21) (some 32) (Go.Op.move (Go.Operand.tmp 31)) 4 #[true, true, true, true, true, true, true, true, true, true, true, true, true, true, true, true, true, true, true, true, true, true, false, false, false, false, false, false, false, false, false, false, false, false, false, false, false, false, false, false, false, false, false, false] (v := ?_) hHeld rfl (by kernel_rfl) (by kernel_rfl) (by kernel_rfl) (by kernel_rfl) R3_s R3_f21 R3_c21 (by kernel_rfl) (fun _ _ _ h => h) ?hya21_16 ?_
    case hya21_16 => intro w hSw; clear hSw; go_simp; try with_reducible rfl
    try simp only [Act.put, List.setIfInBounds_toArray, List.set_cons_zero, List.set_cons_succ]
    refine step_bare (i := 22) (some 33) (Go.Op.call { callee := Go.Callee.value (Go.Operand.func 14), args := #[], argTypes := #[] }) 23 #[true, true, true, true, true, true, true, true, true, true, true, true, true, true, true, true, true, true, true, true, true, true, true, false, false, false, false, false, false, false, false, false, false, false, false, false, false, false, false, false, false, false, false, false] R3_r22 rfl (by kernel_rfl) (by kernel_rfl) (by kernel_rfl) (by kernel_rfl) (by kernel_rfl) (fun K hK => ?_)
    go_simp
    (with_reducible refine (none_any _).mono ?_)
    rintro e w22 ⟨rfl, hB22⟩
    go_simp
    refine hK.out _ _ ?_ (fun hHeld => ?_)
    · exact hHeld.below hB22
    clear hK K
    try simp only [Act.put, List.setIfInBounds_toArray, List.set_cons_zero, List.set_cons_succ]
    refine step_bare (i := 23) (some 34) (Go.Op.call { callee := Go.Callee.value (Go.Operand.func 15), args := #[], argTypes := #[] }) 23 #[true, true, true, true, true, true, true, true, true, true, true, true, true, true, true, true, true, true, true, true, true, true, true, true, false, false, false, false, false, false, false, false, false, false, false, false, false, false, false, false, false, false, false, false] R3_r23 rfl (by kernel_rfl) (by kernel_rfl) (by kernel_rfl) (by kernel_rfl) (by kernel_rfl) (fun K hK => ?_)
    go_simp
    (with_reducible refine (refNone_any _).mono ?_)
    rintro e w23 ⟨rfl, hB23⟩
    go_simp
    refine hK.out _ _ ?_ (fun hHeld => ?_)
    · exact hHeld.below hB23
    clear hK K
    try simp only [Act.put, List.setIfInBounds_toArray, List.set_cons_zero, List.set_cons_succ]
    refine take_bare (i := 24) (some 35) (Go.Op.binOp Go.BinOp.eql 23 (Go.Operand.tmp 33) (Go.Operand.tmp 34) 23) 4 #[true, true, true, true, true, true, true, true, true, true, true, true, true, true, true, true, true, true, true, true, true, true, true, true, true, false, false, false, false, false, false, false, false, false, false, false, false, false, false, false, false, false, false, false] (v := ?_) hHeld rfl (by kernel_rfl) (by kernel_rfl) (by kernel_rfl) (by kernel_rfl) R3_s R3_f24 R3_c24 (by kernel_rfl) (fun _ _ _ h => h) ?hya24_17 ?_
    case hya24_17 => intro w hSw; clear hSw; go_simp; try with_reducible rfl
    try simp only [Act.put, List.setIfInBounds_toArray, List.set_cons_zero, List.set_cons_succ]
    refine take_bare (i := 25) (some 36) (Go.Op.pick (Go.Operand.tmp 32) (Go.Operand.tmp 35) (Go.Operand.const (Go.Value.bool false))) 4 #[true, true, true, true, true, true, true, true, true, true, true, true, true, true, true, true, true, true, true, true, true, true, true, true, true, true, false, false, false, false, false, false, false, false, false, false, false, false, false, false, false, false, false, false] (v := ?_) hHeld rfl (by kernel_rfl) (by kernel_rfl) (by kernel_rfl) (by kernel_rfl) R3_s R3_f25 R3_c25 (by kernel_rfl) (fun _ _ _ h => h) ?hya25_18 ?_
    case hya25_18 => intro w hSw; clear hSw; go_simp; try with_reducible rfl
    try simp only [Act.put, List.setIfInBounds_toArray, List.set_cons_zero, List.set_cons_succ]
    refine take_bare (i := 26) (some 37) (Go.Op.move (Go.Operand.tmp 36)) 4 #[true, true, true, true, true, true, true, true, true, true, true, true, true, true, true, true, true, true, true, true, true, true, true, true, true, true, true, false, false, false, false, false, false, false, false, false, false, false, false, false, false, false, false, false] (v := ?_) hHeld rfl (by kernel_rfl) (by kernel_rfl) (by kernel_rfl) (by kernel_rfl) R3_s R3_f26 R3_c26 (by kernel_rfl) (fun _ _ _ h => h) ?hya26_19 ?_
    case hya26_19 => intro w hSw; clear hSw; go_simp; try with_reducible rfl
    try simp only [Act.put, List.setIfInBounds_toArray, List.set_cons_zero, List.set_cons_succ]
    refine take_bare (i := 27) (some 38) (Go.Op.load 23 (Go.Operand.tmp 3)) 23 #[true, true, true, true, true, true, true, true, true, true, true, true, true, true, true, true, true, true, true, true, true, true, true, true, true, true, true, true, false, false, false, false, false, false, false, false, false, false, false, false, false, false, false, false] (v := (ev a)) hHeld rfl (by kernel_rfl) (by kernel_rfl) (by kernel_rfl) (by kernel_rfl) R3_s R3_f27 R3_c27 (by kernel_rfl) (fun _ _ _ h => h) (fun W hS => run_load_bx (s := 3) (by kernel_rfl) (by kernel_rfl) hS.1) ?_
    try simp only [Act.put, List.setIfInBounds_toArray, List.set_cons_zero, List.set_cons_succ]
    refine take_bare (i := 29) (some 40) (Go.Op.load 23 (Go.Operand.tmp 3)) 23 #[true, true, true, true, true, true, true, true, true, true, true, true, true, true, true, true, true, true, true, true, true, true, true, true, true, true, true, true, false, true, false, false, false, false, false, false, false, false, false, false, false, false, false, false] (v := (ev a)) hHeld rfl (by kernel_rfl) (by kernel_rfl) (by kernel_rfl) (by kernel_rfl) R3_s R3_f29 R3_c29 (by kernel_rfl) (fun _ _ _ h => h) (fun W hS => run_load_bx (s := 3) (by kernel_rfl) (by kernel_rfl) hS.1) ?_
    try simp only [Act.put, List.setIfInBounds_toArray, List.set_cons_zero, List.set_cons_succ]
    refine step_bare (i := 28) (some 39) (Go.Op.call { callee := Go.Callee.value (Go.Operand.func 17), args := #[Go.Operand.tmp 38], argTypes := #[23] }) 31 #[true, true, true, true, true, true, true, true, true, true, true, true, true, true, true, true, true, true, true, true, true, true, true, true, true, true, true, true, true, true, false, false, false, false, false, false, false, false, false, false, false, false, false, false] R3_r28 rfl (by kernel_rfl) (by kernel_rfl) (by kernel_rfl) (by kernel_rfl) (by kernel_rfl) (fun K hK => ?_)
    go_simp
    (with_reducible refine (holders_any a _).mono ?_)
    rintro e w28 ⟨⟨A28, c28, rfl, hs28⟩, hB28⟩
    go_simp
    refine hK.out _ _ ?_ (fun hHeld => ?_)
    · exact hHeld.below hB28
    clear hK K
    try simp only [Act.put, List.setIfInBounds_toArray, List.set_cons_zero, List.set_cons_succ]
    refine step_bare (i := 30) (some 41) (Go.Op.call { callee := Go.Callee.value (Go.Operand.func 18), args := #[Go.Operand.tmp 40], argTypes := #[23] }) 31 #[true, true, true, true, true, true, true, true, true, true, true, true, true, true, true, true, true, true, true, true, true, true, true, true, true, true, true, true, true, true, true, false, false, false, false, false, false, false, false, false, false, false, false, false] R3_r30 rfl (by kernel_rfl) (by kernel_rfl) (by kernel_rfl) (by kernel_rfl) (by kernel_rfl) (fun K hK => ?_)
    go_simp
    (with_reducible refine (refHolders_any a _).mono ?_)
    rintro e w30 ⟨⟨A30, c30, rfl, hs30⟩, hB30⟩
    go_simp
    refine hK.out _ _ ?_ (fun hHeld => ?_)
    · exact hHeld.below hB30
    clear hK K
    try simp only [Act.put, List.setIfInBounds_toArray, List.set_cons_zero, List.set_cons_succ]
    refine step_bare (i := 31) (some 42) (Go.Op.call { callee := Go.Callee.value (Go.Operand.func 16), args := #[Go.Operand.tmp 39, Go.Operand.tmp 41], argTypes := #[31, 31] }) 4 #[true, true, true, true, true, true, true, true, true, true, true, true, true, true, true, true, true, true, true, true, true, true, true, true, true, true, true, true, true, true, true, true, false, false, false, false, false, false, false, false, false, false, false, false] R3_r31 rfl (by kernel_rfl) (by kernel_rfl) (by kernel_rfl) (by kernel_rfl) (by kernel_rfl) (fun K hK => ?_)
    go_simp
    (with_reducible refine (ints_below _ _ _ _ _ _ (holdersL a) (holdersL a) true (by simp) _ ?_ ?_).mono ?_)
    · exact ⟨_, hs28.below hB30⟩
    · exact ⟨_, hs30⟩
    rintro e w31 ⟨rfl, hB31⟩
    go_simp
    refine hK.out _ _ ?_ (fun hHeld => ?_)
    · exact hHeld.below hB31
    clear hK K
    try simp only [Act.put, List.setIfInBounds_toArray, List.set_cons_zero, List.set_cons_succ]
    refine take_bare (i := 32) (some 43) (Go.Op.pick (Go.Operand.tmp 37) (Go.Operand.tmp 42) (Go.Operand.const (Go.Value.bool false))) 4 #[true, true, true, true, true, true, true, true, true, true, true, true, true, true, true, true, true, true, true, true, true, true, true, true, true, true, true, true, true, true, true, true, true, false, false, false, false, false, false, false, false, false, false, false] (v := ?_) hHeld rfl (by kernel_rfl) (by kernel_rfl) (by kernel_rfl) (by kernel_rfl) R3_s R3_f32 R3_c32 (by kernel_rfl) (fun _ _ _ h => h) ?hya32_22 ?_
    case hya32_22 => intro w hSw; clear hSw; go_simp; try with_reducible rfl
    try simp only [Act.put, List.setIfInBounds_toArray, List.set_cons_zero, List.set_cons_succ]
    refine take_bare (i := 33) (some 44) (Go.Op.move (Go.Operand.tmp 43)) 4 #[true, true, true, true, true, true, true, true, true, true, true, true, true, true, true, true, true, true, true, true, true, true, true, true, true, true, true, true, true, true, true, true, true, true, false, false, false, false, false, false, false, false, false, false] (v := ?_) hHeld rfl (by kernel_rfl) (by kernel_rfl) (by kernel_rfl) (by kernel_rfl) R3_s R3_f33 R3_c33 (by kernel_rfl) (fun _ _ _ h => h) ?hya33_23 ?_
    case hya33_23 => intro w hSw; clear hSw; go_simp; try with_reducible rfl
    try simp only [Act.put, List.setIfInBounds_toArray, List.set_cons_zero, List.set_cons_succ]
    refine take_bare (i := 34) (some 45) (Go.Op.load 23 (Go.Operand.tmp 3)) 23 #[true, true, true, true, true, true, true, true, true, true, true, true, true, true, true, true, true, true, true, true, true, true, true, true, true, true, true, true, true, true, true, true, true, true, true, false, false, false, false, false, false, false, false, false] (v := (ev a)) hHeld rfl (by kernel_rfl) (by kernel_rfl) (by kernel_rfl) (by kernel_rfl) R3_s R3_f34 R3_c34 (by kernel_rfl) (fun _ _ _ h => h) (fun W hS => run_load_bx (s := 3) (by kernel_rfl) (by kernel_rfl) hS.1) ?_
    try simp only [Act.put, List.setIfInBounds_toArray, List.set_cons_zero, List.set_cons_succ]
    refine take_bare (i := 36) (some 47) (Go.Op.load 23 (Go.Operand.tmp 3)) 23 #[true, true, true, true, true, true, true, true, true, true, true, true, true, true, true, true, true, true, true, true, true, true, true, true, true, true, true, true, true, true, true, true, true, true, true, false, true, false, false, false, false, false, false, false] (v := (ev a)) hHeld rfl (by kernel_rfl) (by kernel_rfl) (by kernel_rfl) (by kernel_rfl) R3_s R3_f36 R3_c36 (by kernel_rfl) (fun _ _ _ h => h) (fun W hS => run_load_bx (s := 3) (by kernel_rfl) (by kernel_rfl) hS.1) ?_
    try simp only [Act.put, List.setIfInBounds_toArray, List.set_cons_zero, List.set_cons_succ]
    refine step_bare (i := 35) (some 46) (Go.Op.call { callee := Go.Callee.value (Go.Operand.func 19), args := #[Go.Operand.tmp 45], argTypes := #[23] }) 4 #[true, true, true, true, true, true, true, true, true, true, true, true, true, true, true, true, true, true, true, true, true, true, true, true, true, true, true, true, true, true, true, true, true, true, true, true, true, false, false, false, false, false, false, false] R3_r35 rfl (by kernel_rfl) (by kernel_rfl) (by kernel_rfl) (by kernel_rfl) (by kernel_rfl) (fun K hK => ?_)
    go_simp
    (with_reducible refine (moving_any a _).mono ?_)
    rintro e w35 ⟨rfl, hB35⟩
    go_simp
    refine hK.out _ _ ?_ (fun hHeld => ?_)
    · exact hHeld.below hB35
    clear hK K
    try simp only [Act.put, List.setIfInBounds_toArray, List.set_cons_zero, List.set_cons_succ]
    refine step_bare (i := 37) (some 48) (Go.Op.call { callee := Go.Callee.value (Go.Operand.func 20), args := #[Go.Operand.tmp 47], argTypes := #[23] }) 4 #[true, true, true, true, true, true, true, true, true, true, true, true, true, true, true, true, true, true, true, true, true, true, true, true, true, true, true, true, true, true, true, true, true, true, true, true, true, true, false, false, false, false, false, false] R3_r37 rfl (by kernel_rfl) (by kernel_rfl) (by kernel_rfl) (by kernel_rfl) (by kernel_rfl) (fun K hK => ?_)
    go_simp
    (with_reducible refine (refMoving_any a _).mono ?_)
    rintro e w37 ⟨rfl, hB37⟩
    go_simp
    refine hK.out _ _ ?_ (fun hHeld => ?_)
    · exact hHeld.below hB37
    clear hK K
    try simp only [Act.put, List.setIfInBounds_toArray, List.set_cons_zero, List.set_cons_succ]
    refine take_bare (i := 38) (some 49) (Go.Op.binOp Go.BinOp.eql 4 (Go.Operand.tmp 46) (Go.Operand.tmp 48) 4) 4 #[true, true, true, true, true, true, true, true, true, true, true, true, true, true, true, true, true, true, true, true, true, true, true, true, true, true, true, true, true, true, true, true, true, true, true, true, true, true, true, false, false, false, false, false] (v := ?_) hHeld rfl (by kernel_rfl) (by kernel_rfl) (by kernel_rfl) (by kernel_rfl) R3_s R3_f38 R3_c38 (by kernel_rfl) (fun _ _ _ h => h) ?hya38_26 ?_
    case hya38_26 => intro w hSw; clear hSw; go_simp; try with_reducible rfl
    try simp only [Act.put, List.setIfInBounds_toArray, List.set_cons_zero, List.set_cons_succ]
    refine take_bare (i := 39) (some 50) (Go.Op.pick (Go.Operand.tmp 44) (Go.Operand.tmp 49) (Go.Operand.const (Go.Value.bool false))) 4 #[true, true, true, true, true, true, true, true, true, true, true, true, true, true, true, true, true, true, true, true, true, true, true, true, true, true, true, true, true, true, true, true, true, true, true, true, true, true, true, true, false, false, false, false] (v := ?_) hHeld rfl (by kernel_rfl) (by kernel_rfl) (by kernel_rfl) (by kernel_rfl) R3_s R3_f39 R3_c39 (by kernel_rfl) (fun _ _ _ h => h) ?hya39_27 ?_
    case hya39_27 => intro w hSw; clear hSw; go_simp; try with_reducible rfl
    try simp only [Act.put, List.setIfInBounds_toArray, List.set_cons_zero, List.set_cons_succ]
    refine take_bare (i := 40) (some 51) (Go.Op.move (Go.Operand.tmp 50)) 4 #[true, true, true, true, true, true, true, true, true, true, true, true, true, true, true, true, true, true, true, true, true, true, true, true, true, true, true, true, true, true, true, true, true, true, true, true, true, true, true, true, true, false, false, false] (v := ?_) hHeld rfl (by kernel_rfl) (by kernel_rfl) (by kernel_rfl) (by kernel_rfl) R3_s R3_f40 R3_c40 (by kernel_rfl) (fun _ _ _ h => h) ?hya40_28 ?_
    case hya40_28 => intro w hSw; clear hSw; go_simp; try with_reducible rfl
    try simp only [Act.put, List.setIfInBounds_toArray, List.set_cons_zero, List.set_cons_succ]
    refine step_bare (i := 41) (some 52) (Go.Op.call { callee := Go.Callee.value (Go.Operand.func 7), args := #[], argTypes := #[] }) 4 #[true, true, true, true, true, true, true, true, true, true, true, true, true, true, true, true, true, true, true, true, true, true, true, true, true, true, true, true, true, true, true, true, true, true, true, true, true, true, true, true, true, true, false, false] R3_r41 rfl (by kernel_rfl) (by kernel_rfl) (by kernel_rfl) (by kernel_rfl) (by kernel_rfl) (fun K hK => ?_)
    go_simp
    (with_reducible refine (wakes_any _).mono ?_)
    rintro e w41 ⟨rfl, hB41⟩
    go_simp
    refine hK.out _ _ ?_ (fun hHeld => ?_)
    · exact hHeld.below hB41
    clear hK K
    try simp only [Act.put, List.setIfInBounds_toArray, List.set_cons_zero, List.set_cons_succ]
    refine take_bare (i := 42) (some 53) (Go.Op.pick (Go.Operand.tmp 51) (Go.Operand.tmp 52) (Go.Operand.const (Go.Value.bool false))) 4 #[true, true, true, true, true, true, true, true, true, true, true, true, true, true, true, true, true, true, true, true, true, true, true, true, true, true, true, true, true, true, true, true, true, true, true, true, true, true, true, true, true, true, true, false] (v := ?_) hHeld rfl (by kernel_rfl) (by kernel_rfl) (by kernel_rfl) (by kernel_rfl) R3_s R3_f42 R3_c42 (by kernel_rfl) (fun _ _ _ h => h) ?hya42_29 ?_
    case hya42_29 => intro w hSw; clear hSw; go_simp; try with_reducible rfl
    try simp only [Act.put, List.setIfInBounds_toArray, List.set_cons_zero, List.set_cons_succ]
    refine take_bare (i := 43) (some 6) (Go.Op.assign (Go.Operand.tmp 53)) 4 #[true, true, true, true, true, true, true, true, true, true, true, true, true, true, true, true, true, true, true, true, true, true, true, true, true, true, true, true, true, true, true, true, true, true, true, true, true, true, true, true, true, true, true, true] (v := ?_) hHeld rfl (by kernel_rfl) (by kernel_rfl) (by kernel_rfl) (by kernel_rfl) R3_s R3_f43 R3_c43 (by kernel_rfl) (fun _ _ _ h => h) ?hya43_30 ?_
    case hya43_30 => intro w hSw; clear hSw; go_simp; try with_reducible rfl
    try simp only [Act.put, List.setIfInBounds_toArray, List.set_cons_zero, List.set_cons_succ]
    refine wpAnyH_done (by kernel_rfl) ?_ _
    try simp only [Act.put, List.setIfInBounds_toArray, List.set_cons_zero, List.set_cons_succ]
    go_wp2
    go_ret
    exact ⟨rfl, hHeld.2.2⟩
end Go.Proofs.Ytaeffklmlllimaa
