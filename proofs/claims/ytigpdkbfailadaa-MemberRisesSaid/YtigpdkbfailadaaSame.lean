/-
  Members compared; members held in their variable.
-/
import Derived.Test.YtigpdkbfailadaaRows
import Derived.Test.YtigpdkbfailadaaAppend
import Derived.Test.YtigpdkbfailadaaTail
import Derived.Shelf.Abstract
import Derived.Shelf.RegionOpen
import Derived.WalkKit
import Derived.OwnWalkIn
import Derived.TacticsInMore
import Derived.LoopNIn
import Derived.LoopIn
import Derived.WalkMore
import Derived.ScopeJumps
import Derived.Lib.Hide
import Derived.WalkSpells
import Derived.WalkLawsBesides
import Derived.Deep.QuietTactic
import Derived.BigQuiet
import Derived.Laws.Rows
import Derived.Test.YtigpdkbfailadaaMems
import Derived.ChangeKeysEq
import Derived.Test.YtigpdkbfailadaaWakes
namespace Go.Proofs.Ytigpdkbfailadaa
open Go Go.RowKit Go.Shelf
set_option linter.unusedSimpArgs false
set_option linter.unusedVariables false
attribute [local go_sem] Oper.semAt_some

theorem infoU8 : (Try.prog.info? 5).map (fun i => (i.zero, i.size, i.bytes)) = some (some (.int .u8 0), 1, 1) := by kernel_rfl
theorem eq23 (x0 x1 x2 y0 y1 y2 : Int) (w : World) : (Op.equalIn 9999 23 (.agg #[u8v x0, u8v x1, u8v x2]) (.agg #[u8v y0, u8v y1, u8v y2])).run Try.prog w = .ok (x0 == y0 && (x1 == y1 && x2 == y2)) w := by
  obtain ⟨i0, hi, hz0, hz1, hz2⟩ := info_parts infoU8
  rw [run_equalIn_array w 9998 _ _ Try.underlying23 hi]
  have hc : Try.prog.cellsOf 5 = 1 := by kernel_rfl
  rw [hc]
  simp [Op.eqItems, List.range, List.range.loop, go_sem, hi, hz1, run_equalIn_int _ 9997 5 .u8 .u8 _ _ Try.underlying5]
  by_cases h0 : x0 = y0 <;> by_cases h1 : x1 = y1 <;> by_cases h2 : x2 = y2 <;> simp [h0, h1, h2]
theorem eq22 (x0 x1 x2 x3 x4 x5 y0 y1 y2 y3 y4 y5 : Int) (w : World) : (Op.equalIn 9999 22 (.agg #[u8v x0, u8v x1, u8v x2, u8v x3, u8v x4, u8v x5]) (.agg #[u8v y0, u8v y1, u8v y2, u8v y3, u8v y4, u8v y5])).run Try.prog w = .ok (x0 == y0 && (x1 == y1 && (x2 == y2 && (x3 == y3 && (x4 == y4 && x5 == y5))))) w := by
  obtain ⟨i0, hi, hz0, hz1, hz2⟩ := info_parts infoU8
  rw [run_equalIn_array w 9998 _ _ Try.underlying22 hi]
  have hc : Try.prog.cellsOf 5 = 1 := by kernel_rfl
  rw [hc]
  simp [Op.eqItems, List.range, List.range.loop, go_sem, hi, hz1, run_equalIn_int _ 9997 5 .u8 .u8 _ _ Try.underlying5]
  by_cases h0 : x0 = y0
  · by_cases h1 : x1 = y1
    · by_cases h2 : x2 = y2
      · by_cases h3 : x3 = y3
        · by_cases h4 : x4 = y4 <;> by_cases h5 : x5 = y5 <;> simp [h0, h1, h2, h3, h4, h5]
        · simp [h0, h1, h2, h3]
      · simp [h0, h1, h2]
    · simp [h0, h1]
  · simp [h0]

/-- The members that came in, in their variable. -/
def Mh (m : Mm) (w W : World) : Prop := Mx W w.heap.size m ∧ Below w.heap.size w W
theorem Mh.below {m : Mm} {w W W' : World} (h : Mh m w W) (hB : Below W.heap.size W W') : Mh m w W' := ⟨h.1.below hB h.1.lt, h.2.trans (hB.mono h.2.size)⟩
theorem Mh.alloc {m : Mm} {w W : World} (h : Mh m w W) (o : Obj) : Mh m w (W.alloc o) := ⟨h.1.alloc o, h.2.alloc h.2.size o⟩
theorem Mh.drewN {m : Mm} {w W : World} (h : Mh m w W) (k : Nat) : Mh m w (W.drewN k) := ⟨h.1.drewN k, below_drewN h.2 k⟩
theorem run_load_mx {a : Act} {s : Tmp} {g : Nat} {m : Mm} {W : World} {o : Oper} (ho : o.op = .load 25 (.tmp s)) (hs : a.tmps.getD s undef = .pointer (some ⟨g, 0, none⟩)) (hb : Mx W g m) : (execOp a.eval o).run Try.prog W = .ok (.value (mv m)) W := by
  obtain ⟨c0, c1, c2, c3, c4, c5, c6, c7, c8⟩ := hb.cs
  have hs' : a.tmps[s]?.getD undef = .pointer (some ⟨g, 0, none⟩) := by simpa using hs
  unfold execOp
  simp [ho, Act.eval, hs', go_sem, c0, c1, c2, c3, c4, c5, c6, c7, c8]

end Go.Proofs.Ytigpdkbfailadaa
