/-
  No cell of these rows narrows 'for every input' (looked for: loops, veiled, ifaces, maps, wideKeys, modest, calm, conditions, laid).
  DERIVED. THE GIVEN ROWS OF THIS SEAT. 6 by the template 'for every input the law returns true; each argument reads behind the call as it read before'; 0 by the template 'total and deterministic' (their statements: YtcndmfkgdaipaaaGreatTotals.lean).
  GIVEN WITH THE SEED: the statements are not yours to turn. If you find one false, say at which input.
  Laid BY PROGRAM, IN A SANDBOX (cutbox-rows.mjs): the forced cells as the released guide's own fill.sh prints them over the translation 1dd47934639bca28… (all of the seat's roots in one cut). By AI agents, Wed Nov 11 2026. No macro, syntax, notation, axiom, sorry.
-/
import Derived.Test.YtcndmfkgdaipaaaGreatChecked
import GoSem.Claim
import GoSem.ClaimJoined
import GoSem.ClaimMapViews
import Derived.JoinedTies
import Derived.KernelRfl
namespace Go.Proofs.YtcndmfkgdaipaaaGreat
/- THE CELL 'sum', in the pinned program and in every row, IS THE sha256 OF THE DUMP (.gsa) THAT YtcndmfkgdaipaaaGreatProg.lean LOADS. Nothing in Lean hashes anything: it is a label: what it is worth is what the hold of that sum in a sandbox is worth. -/
noncomputable def Tryz.pinned : Pinned := { name := "ytcndmfkgdaipaaagreat", sum := "1dd47934639bca289fa023cf60458a809f76ae905832b413ea98f42538d52816", checked := Tryz.checked }
namespace Rows
def none {H : Type} : Left H := { results := [], args := [] }

/-- 'drayagelaw33.ConserveKeeps': WHATEVER THE INPUT: true; the input reads as it did. -/
def conserveKeepsSpec : ChangeSpec := { name := "conserveKeeps", fn := fun _ => fun
  | [d] => { results := [.lit (.bool true)], args := [d] }
  | _ => none }
def conserveKeepsRow : OpenClaim := { program := "ytcndmfkgdaipaaagreat", sum := "1dd47934639bca289fa023cf60458a809f76ae905832b413ea98f42538d52816", func := "drayage/drayagelaw33.ConserveKeeps", spec := "conserveKeeps", inPlace := ["slices.overlaps[drayage/api.Job]", "slices.overlaps[drayage/api.Step]"], unfollowed := true, recurses := true, apart := false }
def ConserveKeepsSaid : Prop := conserveKeepsRow.holds Tryz.pinned (OpenSpec.ofChange conserveKeepsSpec)

/-- ITS FALSE NEIGHBOUR: 'it returns false'. Refute it at one input. -/
def conserveKeepsWrong : ChangeSpec := { name := "conserveKeeps", fn := fun _ => fun
  | [d] => { results := [.lit (.bool false)], args := [d] }
  | _ => none }
def ConserveKeepsWrongFalsely : Prop := conserveKeepsRow.holds Tryz.pinned (OpenSpec.ofChange conserveKeepsWrong)

/-- 'drayagelaw32.EasyHead': WHATEVER THE INPUT: true; the input reads as it did. -/
def easyHeadSpec : ChangeSpec := { name := "easyHead", fn := fun _ => fun
  | [d] => { results := [.lit (.bool true)], args := [d] }
  | _ => none }
def easyHeadRow : OpenClaim := { program := "ytcndmfkgdaipaaagreat", sum := "1dd47934639bca289fa023cf60458a809f76ae905832b413ea98f42538d52816", func := "drayage/drayagelaw32.EasyHead", spec := "easyHead", inPlace := ["slices.overlaps[drayage/api.Job]", "slices.overlaps[drayage/api.Step]"], unfollowed := true, recurses := true, apart := false }
def EasyHeadSaid : Prop := easyHeadRow.holds Tryz.pinned (OpenSpec.ofChange easyHeadSpec)

/-- ITS FALSE NEIGHBOUR: 'it returns false'. Refute it at one input. -/
def easyHeadWrong : ChangeSpec := { name := "easyHead", fn := fun _ => fun
  | [d] => { results := [.lit (.bool false)], args := [d] }
  | _ => none }
def EasyHeadWrongFalsely : Prop := easyHeadRow.holds Tryz.pinned (OpenSpec.ofChange easyHeadWrong)

/-- 'drayagelaw32.EasySafe': WHATEVER THE INPUT: true; the input reads as it did. -/
def easySafeSpec : ChangeSpec := { name := "easySafe", fn := fun _ => fun
  | [d] => { results := [.lit (.bool true)], args := [d] }
  | _ => none }
def easySafeRow : OpenClaim := { program := "ytcndmfkgdaipaaagreat", sum := "1dd47934639bca289fa023cf60458a809f76ae905832b413ea98f42538d52816", func := "drayage/drayagelaw32.EasySafe", spec := "easySafe", inPlace := ["slices.overlaps[drayage/api.Job]", "slices.overlaps[drayage/api.Step]"], unfollowed := true, recurses := true, apart := false }
def EasySafeSaid : Prop := easySafeRow.holds Tryz.pinned (OpenSpec.ofChange easySafeSpec)

/-- ITS FALSE NEIGHBOUR: 'it returns false'. Refute it at one input. -/
def easySafeWrong : ChangeSpec := { name := "easySafe", fn := fun _ => fun
  | [d] => { results := [.lit (.bool false)], args := [d] }
  | _ => none }
def EasySafeWrongFalsely : Prop := easySafeRow.holds Tryz.pinned (OpenSpec.ofChange easySafeWrong)

/-- 'drayagelaw34.CycleRuns': WHATEVER THE INPUT: true; the input reads as it did. -/
def cycleRunsSpec : ChangeSpec := { name := "cycleRuns", fn := fun _ => fun
  | [d] => { results := [.lit (.bool true)], args := [d] }
  | _ => none }
def cycleRunsRow : OpenClaim := { program := "ytcndmfkgdaipaaagreat", sum := "1dd47934639bca289fa023cf60458a809f76ae905832b413ea98f42538d52816", func := "drayage/drayagelaw34.CycleRuns", spec := "cycleRuns", inPlace := ["slices.overlaps[drayage/api.Job]", "slices.overlaps[drayage/api.Step]"], unfollowed := true, recurses := true, apart := false }
def CycleRunsSaid : Prop := cycleRunsRow.holds Tryz.pinned (OpenSpec.ofChange cycleRunsSpec)

/-- ITS FALSE NEIGHBOUR: 'it returns false'. Refute it at one input. -/
def cycleRunsWrong : ChangeSpec := { name := "cycleRuns", fn := fun _ => fun
  | [d] => { results := [.lit (.bool false)], args := [d] }
  | _ => none }
def CycleRunsWrongFalsely : Prop := cycleRunsRow.holds Tryz.pinned (OpenSpec.ofChange cycleRunsWrong)

/-- 'drayagelaw34.CycleStarts': WHATEVER THE INPUT: true; the input reads as it did. -/
def cycleStartsSpec : ChangeSpec := { name := "cycleStarts", fn := fun _ => fun
  | [d] => { results := [.lit (.bool true)], args := [d] }
  | _ => none }
def cycleStartsRow : OpenClaim := { program := "ytcndmfkgdaipaaagreat", sum := "1dd47934639bca289fa023cf60458a809f76ae905832b413ea98f42538d52816", func := "drayage/drayagelaw34.CycleStarts", spec := "cycleStarts", inPlace := ["slices.overlaps[drayage/api.Job]", "slices.overlaps[drayage/api.Step]"], unfollowed := true, recurses := true, apart := false }
def CycleStartsSaid : Prop := cycleStartsRow.holds Tryz.pinned (OpenSpec.ofChange cycleStartsSpec)

/-- ITS FALSE NEIGHBOUR: 'it returns false'. Refute it at one input. -/
def cycleStartsWrong : ChangeSpec := { name := "cycleStarts", fn := fun _ => fun
  | [d] => { results := [.lit (.bool false)], args := [d] }
  | _ => none }
def CycleStartsWrongFalsely : Prop := cycleStartsRow.holds Tryz.pinned (OpenSpec.ofChange cycleStartsWrong)

/-- 'drayagelaw34.CycleTakes': WHATEVER THE INPUT: true; the input reads as it did. -/
def cycleTakesSpec : ChangeSpec := { name := "cycleTakes", fn := fun _ => fun
  | [d] => { results := [.lit (.bool true)], args := [d] }
  | _ => none }
def cycleTakesRow : OpenClaim := { program := "ytcndmfkgdaipaaagreat", sum := "1dd47934639bca289fa023cf60458a809f76ae905832b413ea98f42538d52816", func := "drayage/drayagelaw34.CycleTakes", spec := "cycleTakes", inPlace := ["slices.overlaps[drayage/api.Job]", "slices.overlaps[drayage/api.Step]"], unfollowed := true, recurses := true, apart := false }
def CycleTakesSaid : Prop := cycleTakesRow.holds Tryz.pinned (OpenSpec.ofChange cycleTakesSpec)

/-- ITS FALSE NEIGHBOUR: 'it returns false'. Refute it at one input. -/
def cycleTakesWrong : ChangeSpec := { name := "cycleTakes", fn := fun _ => fun
  | [d] => { results := [.lit (.bool false)], args := [d] }
  | _ => none }
def CycleTakesWrongFalsely : Prop := cycleTakesRow.holds Tryz.pinned (OpenSpec.ofChange cycleTakesWrong)

/- THE SECOND FORM. 'bulk': how many values and letters a reading holds, each counted each time it is reached (what is shared counts as often as it is met; a slice's spare places count too). A statement '..UptoSaid' is the law's where the arguments, and the package variables that the reading takes, are together of bulk at most 1048576: NARROWER than '..Said'. Prove '..Said' where nothing that the law and all that it calls make is longer than what came in: it says more and counts as full. Else prove '..UptoSaid'. A law counts once. -/
mutual
def uptoBulk {H : Type} : DataW H → Nat
  | .lit (.string bytes) => bytes.length + 1
  | .lit _ => 1
  | .nil => 1
  | .ptr d => uptoBulk d + 1
  | .slice elems spare => uptoBulkAll elems + uptoBulkAll spare + 1
  | .agg parts => uptoBulkAll parts + 1
  | .iface _ d => uptoBulk d + 1
  | .map entries => uptoBulkEntries entries + 1
  | .held _ => 1
def uptoBulkAll {H : Type} : List (DataW H) → Nat
  | [] => 0
  | d :: r => uptoBulk d + uptoBulkAll r
def uptoBulkEntries {H : Type} : List (Lit × DataW H) → Nat
  | [] => 0
  | x :: r => uptoBulkEntry x + uptoBulkEntries r
def uptoBulkEntry {H : Type} : Lit × DataW H → Nat
  | (.string bytes, d) => bytes.length + uptoBulk d + 1
  | (_, d) => uptoBulk d + 1
 end
def uptoSmall : (H : Type) → List (DataW H) → Bool := fun _ ds => decide (uptoBulkAll ds ≤ 1048576)
def OpenSpec.upto (s : _root_.Go.ChangeSpec) : _root_.Go.OpenSpec := { _root_.Go.OpenSpec.ofChange s with cond := some uptoSmall }

/-- 'drayagelaw33.ConserveKeeps', WHERE WHAT IT READS IS OF BULK AT MOST 1048576: true; the input reads as it did. -/
def conserveKeepsUptoRow : OpenClaim := { program := "ytcndmfkgdaipaaagreat", sum := "1dd47934639bca289fa023cf60458a809f76ae905832b413ea98f42538d52816", func := "drayage/drayagelaw33.ConserveKeeps", spec := "conserveKeeps", inPlace := ["slices.overlaps[drayage/api.Job]", "slices.overlaps[drayage/api.Step]"], unfollowed := true, recurses := true, apart := false, narrowed := true }
def ConserveKeepsUptoSaid : Prop := conserveKeepsUptoRow.holds Tryz.pinned (OpenSpec.upto conserveKeepsSpec)

/-- 'drayagelaw32.EasyHead', WHERE WHAT IT READS IS OF BULK AT MOST 1048576: true; the input reads as it did. -/
def easyHeadUptoRow : OpenClaim := { program := "ytcndmfkgdaipaaagreat", sum := "1dd47934639bca289fa023cf60458a809f76ae905832b413ea98f42538d52816", func := "drayage/drayagelaw32.EasyHead", spec := "easyHead", inPlace := ["slices.overlaps[drayage/api.Job]", "slices.overlaps[drayage/api.Step]"], unfollowed := true, recurses := true, apart := false, narrowed := true }
def EasyHeadUptoSaid : Prop := easyHeadUptoRow.holds Tryz.pinned (OpenSpec.upto easyHeadSpec)

/-- 'drayagelaw32.EasySafe', WHERE WHAT IT READS IS OF BULK AT MOST 1048576: true; the input reads as it did. -/
def easySafeUptoRow : OpenClaim := { program := "ytcndmfkgdaipaaagreat", sum := "1dd47934639bca289fa023cf60458a809f76ae905832b413ea98f42538d52816", func := "drayage/drayagelaw32.EasySafe", spec := "easySafe", inPlace := ["slices.overlaps[drayage/api.Job]", "slices.overlaps[drayage/api.Step]"], unfollowed := true, recurses := true, apart := false, narrowed := true }
def EasySafeUptoSaid : Prop := easySafeUptoRow.holds Tryz.pinned (OpenSpec.upto easySafeSpec)

/-- 'drayagelaw34.CycleRuns', WHERE WHAT IT READS IS OF BULK AT MOST 1048576: true; the input reads as it did. -/
def cycleRunsUptoRow : OpenClaim := { program := "ytcndmfkgdaipaaagreat", sum := "1dd47934639bca289fa023cf60458a809f76ae905832b413ea98f42538d52816", func := "drayage/drayagelaw34.CycleRuns", spec := "cycleRuns", inPlace := ["slices.overlaps[drayage/api.Job]", "slices.overlaps[drayage/api.Step]"], unfollowed := true, recurses := true, apart := false, narrowed := true }
def CycleRunsUptoSaid : Prop := cycleRunsUptoRow.holds Tryz.pinned (OpenSpec.upto cycleRunsSpec)

/-- 'drayagelaw34.CycleStarts', WHERE WHAT IT READS IS OF BULK AT MOST 1048576: true; the input reads as it did. -/
def cycleStartsUptoRow : OpenClaim := { program := "ytcndmfkgdaipaaagreat", sum := "1dd47934639bca289fa023cf60458a809f76ae905832b413ea98f42538d52816", func := "drayage/drayagelaw34.CycleStarts", spec := "cycleStarts", inPlace := ["slices.overlaps[drayage/api.Job]", "slices.overlaps[drayage/api.Step]"], unfollowed := true, recurses := true, apart := false, narrowed := true }
def CycleStartsUptoSaid : Prop := cycleStartsUptoRow.holds Tryz.pinned (OpenSpec.upto cycleStartsSpec)

/-- 'drayagelaw34.CycleTakes', WHERE WHAT IT READS IS OF BULK AT MOST 1048576: true; the input reads as it did. -/
def cycleTakesUptoRow : OpenClaim := { program := "ytcndmfkgdaipaaagreat", sum := "1dd47934639bca289fa023cf60458a809f76ae905832b413ea98f42538d52816", func := "drayage/drayagelaw34.CycleTakes", spec := "cycleTakes", inPlace := ["slices.overlaps[drayage/api.Job]", "slices.overlaps[drayage/api.Step]"], unfollowed := true, recurses := true, apart := false, narrowed := true }
def CycleTakesUptoSaid : Prop := cycleTakesUptoRow.holds Tryz.pinned (OpenSpec.upto cycleTakesSpec)

end Rows
end Go.Proofs.YtcndmfkgdaipaaaGreat
