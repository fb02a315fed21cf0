/-
  No cell of these rows narrows 'for every input' (looked for: loops, veiled, ifaces, maps, wideKeys, modest, calm, conditions, laid).
  DERIVED. THE GIVEN ROWS OF THIS SEAT. 6 by the template 'for every input the law returns true; each argument reads behind the call as it read before'; 0 by the template 'total and deterministic' (their statements: YtdfbphphacpkdaaGreatTotals.lean).
  GIVEN WITH THE SEED: the statements are not yours to turn. If you find one false, say at which input.
  Laid BY PROGRAM, IN A SANDBOX (cutbox-rows.mjs): the forced cells as the released guide's own fill.sh prints them over the translation c2e77e318257522a… (all of the seat's roots in one cut). By AI agents, Wed Nov 11 2026. No macro, syntax, notation, axiom, sorry.
-/
import Derived.Test.YtdfbphphacpkdaaGreatChecked
import GoSem.Claim
import GoSem.ClaimJoined
import GoSem.ClaimMapViews
import Derived.JoinedTies
import Derived.KernelRfl
namespace Go.Proofs.YtdfbphphacpkdaaGreat
/- THE CELL 'sum', in the pinned program and in every row, IS THE sha256 OF THE DUMP (.gsa) THAT YtdfbphphacpkdaaGreatProg.lean LOADS. Nothing in Lean hashes anything: it is a label: what it is worth is what the hold of that sum in a sandbox is worth. -/
noncomputable def Tryz.pinned : Pinned := { name := "ytdfbphphacpkdaagreat", sum := "c2e77e318257522a5a7a77ee1f88d705c13148cd8798c61e01b5870affcff18a", checked := Tryz.checked }
namespace Rows
def none {H : Type} : Left H := { results := [], args := [] }

/-- 'drayagelaw31.ReadyPlans': WHATEVER THE INPUT: true; the input reads as it did. -/
def readyPlansSpec : ChangeSpec := { name := "readyPlans", fn := fun _ => fun
  | [d1, d2] => { results := [.lit (.bool true)], args := [d1, d2] }
  | _ => none }
def readyPlansRow : OpenClaim := { program := "ytdfbphphacpkdaagreat", sum := "c2e77e318257522a5a7a77ee1f88d705c13148cd8798c61e01b5870affcff18a", func := "drayage/drayagelaw31.ReadyPlans", spec := "readyPlans", inPlace := ["slices.overlaps[drayage/api.Job]", "slices.overlaps[drayage/api.Step]"], unfollowed := true, recurses := true, apart := false }
def ReadyPlansSaid : Prop := readyPlansRow.holds Tryz.pinned (OpenSpec.ofChange readyPlansSpec)

/-- ITS FALSE NEIGHBOUR: 'it returns false'. Refute it at one input. -/
def readyPlansWrong : ChangeSpec := { name := "readyPlans", fn := fun _ => fun
  | [d1, d2] => { results := [.lit (.bool false)], args := [d1, d2] }
  | _ => none }
def ReadyPlansWrongFalsely : Prop := readyPlansRow.holds Tryz.pinned (OpenSpec.ofChange readyPlansWrong)

/-- 'drayagelaw33.ConserveSafe': WHATEVER THE INPUT: true; the input reads as it did. -/
def conserveSafeSpec : ChangeSpec := { name := "conserveSafe", fn := fun _ => fun
  | [d] => { results := [.lit (.bool true)], args := [d] }
  | _ => none }
def conserveSafeRow : OpenClaim := { program := "ytdfbphphacpkdaagreat", sum := "c2e77e318257522a5a7a77ee1f88d705c13148cd8798c61e01b5870affcff18a", func := "drayage/drayagelaw33.ConserveSafe", spec := "conserveSafe", inPlace := ["slices.overlaps[drayage/api.Job]", "slices.overlaps[drayage/api.Step]"], unfollowed := true, recurses := true, apart := false }
def ConserveSafeSaid : Prop := conserveSafeRow.holds Tryz.pinned (OpenSpec.ofChange conserveSafeSpec)

/-- ITS FALSE NEIGHBOUR: 'it returns false'. Refute it at one input. -/
def conserveSafeWrong : ChangeSpec := { name := "conserveSafe", fn := fun _ => fun
  | [d] => { results := [.lit (.bool false)], args := [d] }
  | _ => none }
def ConserveSafeWrongFalsely : Prop := conserveSafeRow.holds Tryz.pinned (OpenSpec.ofChange conserveSafeWrong)

/-- 'drayagelaw33.ConserveFirst': WHATEVER THE INPUT: true; the input reads as it did. -/
def conserveFirstSpec : ChangeSpec := { name := "conserveFirst", fn := fun _ => fun
  | [d] => { results := [.lit (.bool true)], args := [d] }
  | _ => none }
def conserveFirstRow : OpenClaim := { program := "ytdfbphphacpkdaagreat", sum := "c2e77e318257522a5a7a77ee1f88d705c13148cd8798c61e01b5870affcff18a", func := "drayage/drayagelaw33.ConserveFirst", spec := "conserveFirst", inPlace := ["slices.overlaps[drayage/api.Job]", "slices.overlaps[drayage/api.Step]"], unfollowed := true, recurses := true, apart := false }
def ConserveFirstSaid : Prop := conserveFirstRow.holds Tryz.pinned (OpenSpec.ofChange conserveFirstSpec)

/-- ITS FALSE NEIGHBOUR: 'it returns false'. Refute it at one input. -/
def conserveFirstWrong : ChangeSpec := { name := "conserveFirst", fn := fun _ => fun
  | [d] => { results := [.lit (.bool false)], args := [d] }
  | _ => none }
def ConserveFirstWrongFalsely : Prop := conserveFirstRow.holds Tryz.pinned (OpenSpec.ofChange conserveFirstWrong)

/-- 'drayagelaw33.ConserveKeeps': WHATEVER THE INPUT: true; the input reads as it did. -/
def conserveKeepsSpec : ChangeSpec := { name := "conserveKeeps", fn := fun _ => fun
  | [d] => { results := [.lit (.bool true)], args := [d] }
  | _ => none }
def conserveKeepsRow : OpenClaim := { program := "ytdfbphphacpkdaagreat", sum := "c2e77e318257522a5a7a77ee1f88d705c13148cd8798c61e01b5870affcff18a", func := "drayage/drayagelaw33.ConserveKeeps", spec := "conserveKeeps", inPlace := ["slices.overlaps[drayage/api.Job]", "slices.overlaps[drayage/api.Step]"], unfollowed := true, recurses := true, apart := false }
def ConserveKeepsSaid : Prop := conserveKeepsRow.holds Tryz.pinned (OpenSpec.ofChange conserveKeepsSpec)

/-- ITS FALSE NEIGHBOUR: 'it returns false'. Refute it at one input. -/
def conserveKeepsWrong : ChangeSpec := { name := "conserveKeeps", fn := fun _ => fun
  | [d] => { results := [.lit (.bool false)], args := [d] }
  | _ => none }
def ConserveKeepsWrongFalsely : Prop := conserveKeepsRow.holds Tryz.pinned (OpenSpec.ofChange conserveKeepsWrong)

/-- 'drayagelaw32.EasyHead': WHATEVER THE INPUT: true; the input reads as it did. -/
def easyHeadSpec : ChangeSpec := { name := "easyHead", fn := fun _ => fun
  | [d] => { results := [.lit (.bool true)], args := [d] }
  | _ => none }
def easyHeadRow : OpenClaim := { program := "ytdfbphphacpkdaagreat", sum := "c2e77e318257522a5a7a77ee1f88d705c13148cd8798c61e01b5870affcff18a", func := "drayage/drayagelaw32.EasyHead", spec := "easyHead", inPlace := ["slices.overlaps[drayage/api.Job]", "slices.overlaps[drayage/api.Step]"], unfollowed := true, recurses := true, apart := false }
def EasyHeadSaid : Prop := easyHeadRow.holds Tryz.pinned (OpenSpec.ofChange easyHeadSpec)

/-- ITS FALSE NEIGHBOUR: 'it returns false'. Refute it at one input. -/
def easyHeadWrong : ChangeSpec := { name := "easyHead", fn := fun _ => fun
  | [d] => { results := [.lit (.bool false)], args := [d] }
  | _ => none }
def EasyHeadWrongFalsely : Prop := easyHeadRow.holds Tryz.pinned (OpenSpec.ofChange easyHeadWrong)

/-- 'drayagelaw32.EasySafe': WHATEVER THE INPUT: true; the input reads as it did. -/
def easySafeSpec : ChangeSpec := { name := "easySafe", fn := fun _ => fun
  | [d] => { results := [.lit (.bool true)], args := [d] }
  | _ => none }
def easySafeRow : OpenClaim := { program := "ytdfbphphacpkdaagreat", sum := "c2e77e318257522a5a7a77ee1f88d705c13148cd8798c61e01b5870affcff18a", func := "drayage/drayagelaw32.EasySafe", spec := "easySafe", inPlace := ["slices.overlaps[drayage/api.Job]", "slices.overlaps[drayage/api.Step]"], unfollowed := true, recurses := true, apart := false }
def EasySafeSaid : Prop := easySafeRow.holds Tryz.pinned (OpenSpec.ofChange easySafeSpec)

/-- ITS FALSE NEIGHBOUR: 'it returns false'. Refute it at one input. -/
def easySafeWrong : ChangeSpec := { name := "easySafe", fn := fun _ => fun
  | [d] => { results := [.lit (.bool false)], args := [d] }
  | _ => none }
def EasySafeWrongFalsely : Prop := easySafeRow.holds Tryz.pinned (OpenSpec.ofChange easySafeWrong)

/- THE SECOND FORM. 'bulk': how many values and letters a reading holds, each counted each time it is reached (what is shared counts as often as it is met; a slice's spare places count too). A statement '..UptoSaid' is the law's where the arguments, and the package variables that the reading takes, are together of bulk at most 1048576: NARROWER than '..Said'. Prove '..Said' where nothing that the law and all that it calls make is longer than what came in: it says more and counts as full. Else prove '..UptoSaid'. A law counts once. -/
mutual
def uptoBulk {H : Type} : DataW H → Nat
  | .lit (.string bytes) => bytes.length + 1
  | .lit _ => 1
  | .nil => 1
  | .ptr d => uptoBulk d + 1
  | .slice elems spare => uptoBulkAll elems + uptoBulkAll spare + 1
  | .agg parts => uptoBulkAll parts + 1
  | .iface _ d => uptoBulk d + 1
  | .map entries => uptoBulkEntries entries + 1
  | .held _ => 1
def uptoBulkAll {H : Type} : List (DataW H) → Nat
  | [] => 0
  | d :: r => uptoBulk d + uptoBulkAll r
def uptoBulkEntries {H : Type} : List (Lit × DataW H) → Nat
  | [] => 0
  | x :: r => uptoBulkEntry x + uptoBulkEntries r
def uptoBulkEntry {H : Type} : Lit × DataW H → Nat
  | (.string bytes, d) => bytes.length + uptoBulk d + 1
  | (_, d) => uptoBulk d + 1
 end
def uptoSmall : (H : Type) → List (DataW H) → Bool := fun _ ds => decide (uptoBulkAll ds ≤ 1048576)
def OpenSpec.upto (s : _root_.Go.ChangeSpec) : _root_.Go.OpenSpec := { _root_.Go.OpenSpec.ofChange s with cond := some uptoSmall }

/-- 'drayagelaw31.ReadyPlans', WHERE WHAT IT READS IS OF BULK AT MOST 1048576: true; the input reads as it did. -/
def readyPlansUptoRow : OpenClaim := { program := "ytdfbphphacpkdaagreat", sum := "c2e77e318257522a5a7a77ee1f88d705c13148cd8798c61e01b5870affcff18a", func := "drayage/drayagelaw31.ReadyPlans", spec := "readyPlans", inPlace := ["slices.overlaps[drayage/api.Job]", "slices.overlaps[drayage/api.Step]"], unfollowed := true, recurses := true, apart := false, narrowed := true }
def ReadyPlansUptoSaid : Prop := readyPlansUptoRow.holds Tryz.pinned (OpenSpec.upto readyPlansSpec)

/-- 'drayagelaw33.ConserveSafe', WHERE WHAT IT READS IS OF BULK AT MOST 1048576: true; the input reads as it did. -/
def conserveSafeUptoRow : OpenClaim := { program := "ytdfbphphacpkdaagreat", sum := "c2e77e318257522a5a7a77ee1f88d705c13148cd8798c61e01b5870affcff18a", func := "drayage/drayagelaw33.ConserveSafe", spec := "conserveSafe", inPlace := ["slices.overlaps[drayage/api.Job]", "slices.overlaps[drayage/api.Step]"], unfollowed := true, recurses := true, apart := false, narrowed := true }
def ConserveSafeUptoSaid : Prop := conserveSafeUptoRow.holds Tryz.pinned (OpenSpec.upto conserveSafeSpec)

/-- 'drayagelaw33.ConserveFirst', WHERE WHAT IT READS IS OF BULK AT MOST 1048576: true; the input reads as it did. -/
def conserveFirstUptoRow : OpenClaim := { program := "ytdfbphphacpkdaagreat", sum := "c2e77e318257522a5a7a77ee1f88d705c13148cd8798c61e01b5870affcff18a", func := "drayage/drayagelaw33.ConserveFirst", spec := "conserveFirst", inPlace := ["slices.overlaps[drayage/api.Job]", "slices.overlaps[drayage/api.Step]"], unfollowed := true, recurses := true, apart := false, narrowed := true }
def ConserveFirstUptoSaid : Prop := conserveFirstUptoRow.holds Tryz.pinned (OpenSpec.upto conserveFirstSpec)

/-- 'drayagelaw33.ConserveKeeps', WHERE WHAT IT READS IS OF BULK AT MOST 1048576: true; the input reads as it did. -/
def conserveKeepsUptoRow : OpenClaim := { program := "ytdfbphphacpkdaagreat", sum := "c2e77e318257522a5a7a77ee1f88d705c13148cd8798c61e01b5870affcff18a", func := "drayage/drayagelaw33.ConserveKeeps", spec := "conserveKeeps", inPlace := ["slices.overlaps[drayage/api.Job]", "slices.overlaps[drayage/api.Step]"], unfollowed := true, recurses := true, apart := false, narrowed := true }
def ConserveKeepsUptoSaid : Prop := conserveKeepsUptoRow.holds Tryz.pinned (OpenSpec.upto conserveKeepsSpec)

/-- 'drayagelaw32.EasyHead', WHERE WHAT IT READS IS OF BULK AT MOST 1048576: true; the input reads as it did. -/
def easyHeadUptoRow : OpenClaim := { program := "ytdfbphphacpkdaagreat", sum := "c2e77e318257522a5a7a77ee1f88d705c13148cd8798c61e01b5870affcff18a", func := "drayage/drayagelaw32.EasyHead", spec := "easyHead", inPlace := ["slices.overlaps[drayage/api.Job]", "slices.overlaps[drayage/api.Step]"], unfollowed := true, recurses := true, apart := false, narrowed := true }
def EasyHeadUptoSaid : Prop := easyHeadUptoRow.holds Tryz.pinned (OpenSpec.upto easyHeadSpec)

/-- 'drayagelaw32.EasySafe', WHERE WHAT IT READS IS OF BULK AT MOST 1048576: true; the input reads as it did. -/
def easySafeUptoRow : OpenClaim := { program := "ytdfbphphacpkdaagreat", sum := "c2e77e318257522a5a7a77ee1f88d705c13148cd8798c61e01b5870affcff18a", func := "drayage/drayagelaw32.EasySafe", spec := "easySafe", inPlace := ["slices.overlaps[drayage/api.Job]", "slices.overlaps[drayage/api.Step]"], unfollowed := true, recurses := true, apart := false, narrowed := true }
def EasySafeUptoSaid : Prop := easySafeUptoRow.holds Tryz.pinned (OpenSpec.upto easySafeSpec)

end Rows
end Go.Proofs.YtdfbphphacpkdaaGreat
