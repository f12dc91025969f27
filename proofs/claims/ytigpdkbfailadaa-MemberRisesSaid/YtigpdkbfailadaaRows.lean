/-
  No cell of these rows narrows 'for every input' (looked for: loops, veiled, ifaces, maps, wideKeys, modest, calm, conditions, laid).
  DERIVED. THE GIVEN ROWS OF THIS SEAT. 4 by the template 'for every input the law returns true; each argument reads behind the call as it read before'; 0 by the template 'total and deterministic' (their statements: YtigpdkbfailadaaTotals.lean).
  GIVEN WITH THE SEED: the statements are not yours to turn. If you find one false, say at which input.
  Laid BY PROGRAM, IN A SANDBOX (cutbox-rows.mjs): the forced cells as the released guide's own fill.sh prints them over the translation f352cb7d732e5f45… (all of the seat's roots in one cut). By AI agents, Wed Nov 11 2026. No macro, syntax, notation, axiom, sorry.
-/
import Derived.Test.YtigpdkbfailadaaChecked
import GoSem.Claim
import GoSem.ClaimJoined
import GoSem.ClaimMapViews
import Derived.JoinedTies
import Derived.KernelRfl
namespace Go.Proofs.Ytigpdkbfailadaa
/- THE CELL 'sum', in the pinned program and in every row, IS THE sha256 OF THE DUMP (.gsa) THAT YtigpdkbfailadaaProg.lean LOADS. Nothing in Lean hashes anything: it is a label: what it is worth is what the hold of that sum in a sandbox is worth. -/
noncomputable def Try.pinned : Pinned := { name := "ytigpdkbfailadaa", sum := "f352cb7d732e5f45763e95b05de759a82ac96eebc94ba12bfa1b73861cd94c1c", checked := Try.checked }
namespace Rows
def none {H : Type} : Left H := { results := [], args := [] }

/-- 'handfastlaw20.MemberTells': WHATEVER THE INPUT: true; the input reads as it did. -/
def memberTellsSpec : ChangeSpec := { name := "memberTells", fn := fun _ => fun
  | [d1, d2, d3] => { results := [.lit (.bool true)], args := [d1, d2, d3] }
  | _ => none }
def memberTellsRow : OpenClaim := { program := "ytigpdkbfailadaa", sum := "f352cb7d732e5f45763e95b05de759a82ac96eebc94ba12bfa1b73861cd94c1c", func := "handfast/handfastlaw20.MemberTells", spec := "memberTells", unfollowed := true, recurses := true, apart := false }
def MemberTellsSaid : Prop := memberTellsRow.holds Try.pinned (OpenSpec.ofChange memberTellsSpec)

/-- ITS FALSE NEIGHBOUR: 'it returns false'. Refute it at one input. -/
def memberTellsWrong : ChangeSpec := { name := "memberTells", fn := fun _ => fun
  | [d1, d2, d3] => { results := [.lit (.bool false)], args := [d1, d2, d3] }
  | _ => none }
def MemberTellsWrongFalsely : Prop := memberTellsRow.holds Try.pinned (OpenSpec.ofChange memberTellsWrong)

/-- 'handfastlaw20.MemberRises': WHATEVER THE INPUT: true; the input reads as it did. -/
def memberRisesSpec : ChangeSpec := { name := "memberRises", fn := fun _ => fun
  | [d1, d2] => { results := [.lit (.bool true)], args := [d1, d2] }
  | _ => none }
def memberRisesRow : OpenClaim := { program := "ytigpdkbfailadaa", sum := "f352cb7d732e5f45763e95b05de759a82ac96eebc94ba12bfa1b73861cd94c1c", func := "handfast/handfastlaw20.MemberRises", spec := "memberRises", unfollowed := true, recurses := true, apart := false }
def MemberRisesSaid : Prop := memberRisesRow.holds Try.pinned (OpenSpec.ofChange memberRisesSpec)

/-- ITS FALSE NEIGHBOUR: 'it returns false'. Refute it at one input. -/
def memberRisesWrong : ChangeSpec := { name := "memberRises", fn := fun _ => fun
  | [d1, d2] => { results := [.lit (.bool false)], args := [d1, d2] }
  | _ => none }
def MemberRisesWrongFalsely : Prop := memberRisesRow.holds Try.pinned (OpenSpec.ofChange memberRisesWrong)

/-- 'handfastlaw20.MemberOnce': WHATEVER THE INPUT: true; the input reads as it did. -/
def memberOnceSpec : ChangeSpec := { name := "memberOnce", fn := fun _ => fun
  | [d1, d2] => { results := [.lit (.bool true)], args := [d1, d2] }
  | _ => none }
def memberOnceRow : OpenClaim := { program := "ytigpdkbfailadaa", sum := "f352cb7d732e5f45763e95b05de759a82ac96eebc94ba12bfa1b73861cd94c1c", func := "handfast/handfastlaw20.MemberOnce", spec := "memberOnce", unfollowed := true, recurses := true, apart := false }
def MemberOnceSaid : Prop := memberOnceRow.holds Try.pinned (OpenSpec.ofChange memberOnceSpec)

/-- ITS FALSE NEIGHBOUR: 'it returns false'. Refute it at one input. -/
def memberOnceWrong : ChangeSpec := { name := "memberOnce", fn := fun _ => fun
  | [d1, d2] => { results := [.lit (.bool false)], args := [d1, d2] }
  | _ => none }
def MemberOnceWrongFalsely : Prop := memberOnceRow.holds Try.pinned (OpenSpec.ofChange memberOnceWrong)

/-- 'handfastlaw20.MemberSets': WHATEVER THE INPUT: true; the input reads as it did. -/
def memberSetsSpec : ChangeSpec := { name := "memberSets", fn := fun _ => fun
  | [d1, d2] => { results := [.lit (.bool true)], args := [d1, d2] }
  | _ => none }
def memberSetsRow : OpenClaim := { program := "ytigpdkbfailadaa", sum := "f352cb7d732e5f45763e95b05de759a82ac96eebc94ba12bfa1b73861cd94c1c", func := "handfast/handfastlaw20.MemberSets", spec := "memberSets", unfollowed := true, recurses := true, apart := false }
def MemberSetsSaid : Prop := memberSetsRow.holds Try.pinned (OpenSpec.ofChange memberSetsSpec)

/-- ITS FALSE NEIGHBOUR: 'it returns false'. Refute it at one input. -/
def memberSetsWrong : ChangeSpec := { name := "memberSets", fn := fun _ => fun
  | [d1, d2] => { results := [.lit (.bool false)], args := [d1, d2] }
  | _ => none }
def MemberSetsWrongFalsely : Prop := memberSetsRow.holds Try.pinned (OpenSpec.ofChange memberSetsWrong)

/- THE SECOND FORM. 'bulk': how many values and letters a reading holds, each counted each time it is reached (what is shared counts as often as it is met; a slice's spare places count too). A statement '..UptoSaid' is the law's where the arguments, and the package variables that the reading takes, are together of bulk at most 1048576: NARROWER than '..Said'. Prove '..Said' where nothing that the law and all that it calls make is longer than what came in: it says more and counts as full. Else prove '..UptoSaid'. A law counts once. -/
mutual
def uptoBulk {H : Type} : DataW H → Nat
  | .lit (.string bytes) => bytes.length + 1
  | .lit _ => 1
  | .nil => 1
  | .ptr d => uptoBulk d + 1
  | .slice elems spare => uptoBulkAll elems + uptoBulkAll spare + 1
  | .agg parts => uptoBulkAll parts + 1
  | .iface _ d => uptoBulk d + 1
  | .map entries => uptoBulkEntries entries + 1
  | .held _ => 1
def uptoBulkAll {H : Type} : List (DataW H) → Nat
  | [] => 0
  | d :: r => uptoBulk d + uptoBulkAll r
def uptoBulkEntries {H : Type} : List (Lit × DataW H) → Nat
  | [] => 0
  | x :: r => uptoBulkEntry x + uptoBulkEntries r
def uptoBulkEntry {H : Type} : Lit × DataW H → Nat
  | (.string bytes, d) => bytes.length + uptoBulk d + 1
  | (_, d) => uptoBulk d + 1
 end
def uptoSmall : (H : Type) → List (DataW H) → Bool := fun _ ds => decide (uptoBulkAll ds ≤ 1048576)
def OpenSpec.upto (s : _root_.Go.ChangeSpec) : _root_.Go.OpenSpec := { _root_.Go.OpenSpec.ofChange s with cond := some uptoSmall }

/-- 'handfastlaw20.MemberTells', WHERE WHAT IT READS IS OF BULK AT MOST 1048576: true; the input reads as it did. -/
def memberTellsUptoRow : OpenClaim := { program := "ytigpdkbfailadaa", sum := "f352cb7d732e5f45763e95b05de759a82ac96eebc94ba12bfa1b73861cd94c1c", func := "handfast/handfastlaw20.MemberTells", spec := "memberTells", unfollowed := true, recurses := true, apart := false, narrowed := true }
def MemberTellsUptoSaid : Prop := memberTellsUptoRow.holds Try.pinned (OpenSpec.upto memberTellsSpec)

/-- 'handfastlaw20.MemberRises', WHERE WHAT IT READS IS OF BULK AT MOST 1048576: true; the input reads as it did. -/
def memberRisesUptoRow : OpenClaim := { program := "ytigpdkbfailadaa", sum := "f352cb7d732e5f45763e95b05de759a82ac96eebc94ba12bfa1b73861cd94c1c", func := "handfast/handfastlaw20.MemberRises", spec := "memberRises", unfollowed := true, recurses := true, apart := false, narrowed := true }
def MemberRisesUptoSaid : Prop := memberRisesUptoRow.holds Try.pinned (OpenSpec.upto memberRisesSpec)

/-- 'handfastlaw20.MemberOnce', WHERE WHAT IT READS IS OF BULK AT MOST 1048576: true; the input reads as it did. -/
def memberOnceUptoRow : OpenClaim := { program := "ytigpdkbfailadaa", sum := "f352cb7d732e5f45763e95b05de759a82ac96eebc94ba12bfa1b73861cd94c1c", func := "handfast/handfastlaw20.MemberOnce", spec := "memberOnce", unfollowed := true, recurses := true, apart := false, narrowed := true }
def MemberOnceUptoSaid : Prop := memberOnceUptoRow.holds Try.pinned (OpenSpec.upto memberOnceSpec)

/-- 'handfastlaw20.MemberSets', WHERE WHAT IT READS IS OF BULK AT MOST 1048576: true; the input reads as it did. -/
def memberSetsUptoRow : OpenClaim := { program := "ytigpdkbfailadaa", sum := "f352cb7d732e5f45763e95b05de759a82ac96eebc94ba12bfa1b73861cd94c1c", func := "handfast/handfastlaw20.MemberSets", spec := "memberSets", unfollowed := true, recurses := true, apart := false, narrowed := true }
def MemberSetsUptoSaid : Prop := memberSetsUptoRow.holds Try.pinned (OpenSpec.upto memberSetsSpec)

end Rows
end Go.Proofs.Ytigpdkbfailadaa
