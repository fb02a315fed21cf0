/-
  No cell of these rows narrows 'for every input' (looked for: loops, veiled, ifaces, maps, wideKeys, modest, calm, conditions, laid).
  DERIVED. THE GIVEN ROWS OF THIS SEAT. 4 by the template 'for every input the law returns true; each argument reads behind the call as it read before'; 0 by the template 'total and deterministic' (their statements: YtfeddeljlbiniaaGreatTotals.lean).
  GIVEN WITH THE SEED: the statements are not yours to turn. If you find one false, say at which input.
  Laid BY PROGRAM, IN A SANDBOX (cutbox-rows.mjs): the forced cells as the released guide's own fill.sh prints them over the translation d872a80b49202005… (all of the seat's roots in one cut). By AI agents, Wed Nov 11 2026. No macro, syntax, notation, axiom, sorry.
-/
import Derived.Test.YtfeddeljlbiniaaGreatChecked
import GoSem.Claim
import GoSem.ClaimJoined
import GoSem.ClaimMapViews
import Derived.JoinedTies
import Derived.KernelRfl
namespace Go.Proofs.YtfeddeljlbiniaaGreat
/- THE CELL 'sum', in the pinned program and in every row, IS THE sha256 OF THE DUMP (.gsa) THAT YtfeddeljlbiniaaGreatProg.lean LOADS. Nothing in Lean hashes anything: it is a label: what it is worth is what the hold of that sum in a sandbox is worth. -/
noncomputable def Tryz.pinned : Pinned := { name := "ytfeddeljlbiniaagreat", sum := "d872a80b49202005e95e746617e862f53e64fc885028888a01773fc11c358a9b", checked := Tryz.checked }
namespace Rows
def none {H : Type} : Left H := { results := [], args := [] }

/-- 'drayagelaw27.QueryStamps': WHATEVER THE INPUT: true; the input reads as it did. -/
def queryStampsSpec : ChangeSpec := { name := "queryStamps", fn := fun _ => fun
  | [d1, d2, d3] => { results := [.lit (.bool true)], args := [d1, d2, d3] }
  | _ => none }
def queryStampsRow : OpenClaim := { program := "ytfeddeljlbiniaagreat", sum := "d872a80b49202005e95e746617e862f53e64fc885028888a01773fc11c358a9b", func := "drayage/drayagelaw27.QueryStamps", spec := "queryStamps", inPlace := ["slices.overlaps[drayage/api.Job]"], unfollowed := true, recurses := true, apart := false }
def QueryStampsSaid : Prop := queryStampsRow.holds Tryz.pinned (OpenSpec.ofChange queryStampsSpec)

/-- ITS FALSE NEIGHBOUR: 'it returns false'. Refute it at one input. -/
def queryStampsWrong : ChangeSpec := { name := "queryStamps", fn := fun _ => fun
  | [d1, d2, d3] => { results := [.lit (.bool false)], args := [d1, d2, d3] }
  | _ => none }
def QueryStampsWrongFalsely : Prop := queryStampsRow.holds Tryz.pinned (OpenSpec.ofChange queryStampsWrong)

/-- 'drayagelaw31.ReadyTells': WHATEVER THE INPUT: true; the input reads as it did. -/
def readyTellsSpec : ChangeSpec := { name := "readyTells", fn := fun _ => fun
  | [d1, d2] => { results := [.lit (.bool true)], args := [d1, d2] }
  | _ => none }
def readyTellsRow : OpenClaim := { program := "ytfeddeljlbiniaagreat", sum := "d872a80b49202005e95e746617e862f53e64fc885028888a01773fc11c358a9b", func := "drayage/drayagelaw31.ReadyTells", spec := "readyTells", inPlace := ["slices.overlaps[drayage/api.Job]"], unfollowed := true, recurses := true, apart := false }
def ReadyTellsSaid : Prop := readyTellsRow.holds Tryz.pinned (OpenSpec.ofChange readyTellsSpec)

/-- ITS FALSE NEIGHBOUR: 'it returns false'. Refute it at one input. -/
def readyTellsWrong : ChangeSpec := { name := "readyTells", fn := fun _ => fun
  | [d1, d2] => { results := [.lit (.bool false)], args := [d1, d2] }
  | _ => none }
def ReadyTellsWrongFalsely : Prop := readyTellsRow.holds Tryz.pinned (OpenSpec.ofChange readyTellsWrong)

/-- 'drayagelaw30.ClockLast': WHATEVER THE INPUT: true; the input reads as it did. -/
def clockLastSpec : ChangeSpec := { name := "clockLast", fn := fun _ => fun
  | [d1, d2] => { results := [.lit (.bool true)], args := [d1, d2] }
  | _ => none }
def clockLastRow : OpenClaim := { program := "ytfeddeljlbiniaagreat", sum := "d872a80b49202005e95e746617e862f53e64fc885028888a01773fc11c358a9b", func := "drayage/drayagelaw30.ClockLast", spec := "clockLast", inPlace := ["slices.overlaps[drayage/api.Job]"], unfollowed := true, recurses := true, apart := false }
def ClockLastSaid : Prop := clockLastRow.holds Tryz.pinned (OpenSpec.ofChange clockLastSpec)

/-- ITS FALSE NEIGHBOUR: 'it returns false'. Refute it at one input. -/
def clockLastWrong : ChangeSpec := { name := "clockLast", fn := fun _ => fun
  | [d1, d2] => { results := [.lit (.bool false)], args := [d1, d2] }
  | _ => none }
def ClockLastWrongFalsely : Prop := clockLastRow.holds Tryz.pinned (OpenSpec.ofChange clockLastWrong)

/-- 'drayagelaw31.ReadyPlans': WHATEVER THE INPUT: true; the input reads as it did. -/
def readyPlansSpec : ChangeSpec := { name := "readyPlans", fn := fun _ => fun
  | [d1, d2] => { results := [.lit (.bool true)], args := [d1, d2] }
  | _ => none }
def readyPlansRow : OpenClaim := { program := "ytfeddeljlbiniaagreat", sum := "d872a80b49202005e95e746617e862f53e64fc885028888a01773fc11c358a9b", func := "drayage/drayagelaw31.ReadyPlans", spec := "readyPlans", inPlace := ["slices.overlaps[drayage/api.Job]", "slices.overlaps[drayage/api.Step]"], unfollowed := true, recurses := true, apart := false }
def ReadyPlansSaid : Prop := readyPlansRow.holds Tryz.pinned (OpenSpec.ofChange readyPlansSpec)

/-- ITS FALSE NEIGHBOUR: 'it returns false'. Refute it at one input. -/
def readyPlansWrong : ChangeSpec := { name := "readyPlans", fn := fun _ => fun
  | [d1, d2] => { results := [.lit (.bool false)], args := [d1, d2] }
  | _ => none }
def ReadyPlansWrongFalsely : Prop := readyPlansRow.holds Tryz.pinned (OpenSpec.ofChange readyPlansWrong)

/- THE SECOND FORM. 'bulk': how many values and letters a reading holds, each counted each time it is reached (what is shared counts as often as it is met; a slice's spare places count too). A statement '..UptoSaid' is the law's where the arguments, and the package variables that the reading takes, are together of bulk at most 1048576: NARROWER than '..Said'. Prove '..Said' where nothing that the law and all that it calls make is longer than what came in: it says more and counts as full. Else prove '..UptoSaid'. A law counts once. -/
mutual
def uptoBulk {H : Type} : DataW H → Nat
  | .lit (.string bytes) => bytes.length + 1
  | .lit _ => 1
  | .nil => 1
  | .ptr d => uptoBulk d + 1
  | .slice elems spare => uptoBulkAll elems + uptoBulkAll spare + 1
  | .agg parts => uptoBulkAll parts + 1
  | .iface _ d => uptoBulk d + 1
  | .map entries => uptoBulkEntries entries + 1
  | .held _ => 1
def uptoBulkAll {H : Type} : List (DataW H) → Nat
  | [] => 0
  | d :: r => uptoBulk d + uptoBulkAll r
def uptoBulkEntries {H : Type} : List (Lit × DataW H) → Nat
  | [] => 0
  | x :: r => uptoBulkEntry x + uptoBulkEntries r
def uptoBulkEntry {H : Type} : Lit × DataW H → Nat
  | (.string bytes, d) => bytes.length + uptoBulk d + 1
  | (_, d) => uptoBulk d + 1
 end
def uptoSmall : (H : Type) → List (DataW H) → Bool := fun _ ds => decide (uptoBulkAll ds ≤ 1048576)
def OpenSpec.upto (s : _root_.Go.ChangeSpec) : _root_.Go.OpenSpec := { _root_.Go.OpenSpec.ofChange s with cond := some uptoSmall }

/-- 'drayagelaw27.QueryStamps', WHERE WHAT IT READS IS OF BULK AT MOST 1048576: true; the input reads as it did. -/
def queryStampsUptoRow : OpenClaim := { program := "ytfeddeljlbiniaagreat", sum := "d872a80b49202005e95e746617e862f53e64fc885028888a01773fc11c358a9b", func := "drayage/drayagelaw27.QueryStamps", spec := "queryStamps", inPlace := ["slices.overlaps[drayage/api.Job]"], unfollowed := true, recurses := true, apart := false, narrowed := true }
def QueryStampsUptoSaid : Prop := queryStampsUptoRow.holds Tryz.pinned (OpenSpec.upto queryStampsSpec)

/-- 'drayagelaw31.ReadyTells', WHERE WHAT IT READS IS OF BULK AT MOST 1048576: true; the input reads as it did. -/
def readyTellsUptoRow : OpenClaim := { program := "ytfeddeljlbiniaagreat", sum := "d872a80b49202005e95e746617e862f53e64fc885028888a01773fc11c358a9b", func := "drayage/drayagelaw31.ReadyTells", spec := "readyTells", inPlace := ["slices.overlaps[drayage/api.Job]"], unfollowed := true, recurses := true, apart := false, narrowed := true }
def ReadyTellsUptoSaid : Prop := readyTellsUptoRow.holds Tryz.pinned (OpenSpec.upto readyTellsSpec)

/-- 'drayagelaw30.ClockLast', WHERE WHAT IT READS IS OF BULK AT MOST 1048576: true; the input reads as it did. -/
def clockLastUptoRow : OpenClaim := { program := "ytfeddeljlbiniaagreat", sum := "d872a80b49202005e95e746617e862f53e64fc885028888a01773fc11c358a9b", func := "drayage/drayagelaw30.ClockLast", spec := "clockLast", inPlace := ["slices.overlaps[drayage/api.Job]"], unfollowed := true, recurses := true, apart := false, narrowed := true }
def ClockLastUptoSaid : Prop := clockLastUptoRow.holds Tryz.pinned (OpenSpec.upto clockLastSpec)

/-- 'drayagelaw31.ReadyPlans', WHERE WHAT IT READS IS OF BULK AT MOST 1048576: true; the input reads as it did. -/
def readyPlansUptoRow : OpenClaim := { program := "ytfeddeljlbiniaagreat", sum := "d872a80b49202005e95e746617e862f53e64fc885028888a01773fc11c358a9b", func := "drayage/drayagelaw31.ReadyPlans", spec := "readyPlans", inPlace := ["slices.overlaps[drayage/api.Job]", "slices.overlaps[drayage/api.Step]"], unfollowed := true, recurses := true, apart := false, narrowed := true }
def ReadyPlansUptoSaid : Prop := readyPlansUptoRow.holds Tryz.pinned (OpenSpec.upto readyPlansSpec)

end Rows
end Go.Proofs.YtfeddeljlbiniaaGreat
