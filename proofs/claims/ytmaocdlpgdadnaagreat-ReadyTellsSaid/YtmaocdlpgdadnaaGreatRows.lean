/-
  No cell of these rows narrows 'for every input' (looked for: loops, veiled, ifaces, maps, wideKeys, modest, calm, conditions, laid).
  DERIVED. THE GIVEN ROWS OF THIS SEAT. 4 by the template 'for every input the law returns true; each argument reads behind the call as it read before'; 0 by the template 'total and deterministic' (their statements: YtmaocdlpgdadnaaGreatTotals.lean).
  GIVEN WITH THE SEED: the statements are not yours to turn. If you find one false, say at which input.
  Laid BY PROGRAM, IN A SANDBOX (cutbox-rows.mjs): the forced cells as the released guide's own fill.sh prints them over the translation 8cffca973b57bb54… (all of the seat's roots in one cut). By AI agents, Wed Nov 11 2026. No macro, syntax, notation, axiom, sorry.
-/
import Derived.Test.YtmaocdlpgdadnaaGreatChecked
import GoSem.Claim
import GoSem.ClaimJoined
import GoSem.ClaimMapViews
import Derived.JoinedTies
import Derived.KernelRfl
namespace Go.Proofs.YtmaocdlpgdadnaaGreat
/- THE CELL 'sum', in the pinned program and in every row, IS THE sha256 OF THE DUMP (.gsa) THAT YtmaocdlpgdadnaaGreatProg.lean LOADS. Nothing in Lean hashes anything: it is a label: what it is worth is what the hold of that sum in a sandbox is worth. -/
noncomputable def Tryz.pinned : Pinned := { name := "ytmaocdlpgdadnaagreat", sum := "8cffca973b57bb548684f7d6b2218713650541d1758e9eca1229dc9e476d5135", checked := Tryz.checked }
namespace Rows
def none {H : Type} : Left H := { results := [], args := [] }

/-- 'drayagelaw31.ReadyTells': WHATEVER THE INPUT: true; the input reads as it did. -/
def readyTellsSpec : ChangeSpec := { name := "readyTells", fn := fun _ => fun
  | [d1, d2] => { results := [.lit (.bool true)], args := [d1, d2] }
  | _ => none }
def readyTellsRow : OpenClaim := { program := "ytmaocdlpgdadnaagreat", sum := "8cffca973b57bb548684f7d6b2218713650541d1758e9eca1229dc9e476d5135", func := "drayage/drayagelaw31.ReadyTells", spec := "readyTells", inPlace := ["slices.overlaps[drayage/api.Job]"], unfollowed := true, recurses := true, apart := false }
def ReadyTellsSaid : Prop := readyTellsRow.holds Tryz.pinned (OpenSpec.ofChange readyTellsSpec)

/-- ITS FALSE NEIGHBOUR: 'it returns false'. Refute it at one input. -/
def readyTellsWrong : ChangeSpec := { name := "readyTells", fn := fun _ => fun
  | [d1, d2] => { results := [.lit (.bool false)], args := [d1, d2] }
  | _ => none }
def ReadyTellsWrongFalsely : Prop := readyTellsRow.holds Tryz.pinned (OpenSpec.ofChange readyTellsWrong)

/-- 'drayagelaw31.ReadyPlans': WHATEVER THE INPUT: true; the input reads as it did. -/
def readyPlansSpec : ChangeSpec := { name := "readyPlans", fn := fun _ => fun
  | [d1, d2] => { results := [.lit (.bool true)], args := [d1, d2] }
  | _ => none }
def readyPlansRow : OpenClaim := { program := "ytmaocdlpgdadnaagreat", sum := "8cffca973b57bb548684f7d6b2218713650541d1758e9eca1229dc9e476d5135", func := "drayage/drayagelaw31.ReadyPlans", spec := "readyPlans", inPlace := ["slices.overlaps[drayage/api.Job]", "slices.overlaps[drayage/api.Step]"], unfollowed := true, recurses := true, apart := false }
def ReadyPlansSaid : Prop := readyPlansRow.holds Tryz.pinned (OpenSpec.ofChange readyPlansSpec)

/-- ITS FALSE NEIGHBOUR: 'it returns false'. Refute it at one input. -/
def readyPlansWrong : ChangeSpec := { name := "readyPlans", fn := fun _ => fun
  | [d1, d2] => { results := [.lit (.bool false)], args := [d1, d2] }
  | _ => none }
def ReadyPlansWrongFalsely : Prop := readyPlansRow.holds Tryz.pinned (OpenSpec.ofChange readyPlansWrong)

/-- 'drayagelaw33.ConserveSafe': WHATEVER THE INPUT: true; the input reads as it did. -/
def conserveSafeSpec : ChangeSpec := { name := "conserveSafe", fn := fun _ => fun
  | [d] => { results := [.lit (.bool true)], args := [d] }
  | _ => none }
def conserveSafeRow : OpenClaim := { program := "ytmaocdlpgdadnaagreat", sum := "8cffca973b57bb548684f7d6b2218713650541d1758e9eca1229dc9e476d5135", func := "drayage/drayagelaw33.ConserveSafe", spec := "conserveSafe", inPlace := ["slices.overlaps[drayage/api.Job]", "slices.overlaps[drayage/api.Step]"], unfollowed := true, recurses := true, apart := false }
def ConserveSafeSaid : Prop := conserveSafeRow.holds Tryz.pinned (OpenSpec.ofChange conserveSafeSpec)

/-- ITS FALSE NEIGHBOUR: 'it returns false'. Refute it at one input. -/
def conserveSafeWrong : ChangeSpec := { name := "conserveSafe", fn := fun _ => fun
  | [d] => { results := [.lit (.bool false)], args := [d] }
  | _ => none }
def ConserveSafeWrongFalsely : Prop := conserveSafeRow.holds Tryz.pinned (OpenSpec.ofChange conserveSafeWrong)

/-- 'drayagelaw32.EasyHead': WHATEVER THE INPUT: true; the input reads as it did. -/
def easyHeadSpec : ChangeSpec := { name := "easyHead", fn := fun _ => fun
  | [d] => { results := [.lit (.bool true)], args := [d] }
  | _ => none }
def easyHeadRow : OpenClaim := { program := "ytmaocdlpgdadnaagreat", sum := "8cffca973b57bb548684f7d6b2218713650541d1758e9eca1229dc9e476d5135", func := "drayage/drayagelaw32.EasyHead", spec := "easyHead", inPlace := ["slices.overlaps[drayage/api.Job]", "slices.overlaps[drayage/api.Step]"], unfollowed := true, recurses := true, apart := false }
def EasyHeadSaid : Prop := easyHeadRow.holds Tryz.pinned (OpenSpec.ofChange easyHeadSpec)

/-- ITS FALSE NEIGHBOUR: 'it returns false'. Refute it at one input. -/
def easyHeadWrong : ChangeSpec := { name := "easyHead", fn := fun _ => fun
  | [d] => { results := [.lit (.bool false)], args := [d] }
  | _ => none }
def EasyHeadWrongFalsely : Prop := easyHeadRow.holds Tryz.pinned (OpenSpec.ofChange easyHeadWrong)

/- THE SECOND FORM. 'bulk': how many values and letters a reading holds, each counted each time it is reached (what is shared counts as often as it is met; a slice's spare places count too). A statement '..UptoSaid' is the law's where the arguments, and the package variables that the reading takes, are together of bulk at most 1048576: NARROWER than '..Said'. Prove '..Said' where nothing that the law and all that it calls make is longer than what came in: it says more and counts as full. Else prove '..UptoSaid'. A law counts once. -/
mutual
def uptoBulk {H : Type} : DataW H → Nat
  | .lit (.string bytes) => bytes.length + 1
  | .lit _ => 1
  | .nil => 1
  | .ptr d => uptoBulk d + 1
  | .slice elems spare => uptoBulkAll elems + uptoBulkAll spare + 1
  | .agg parts => uptoBulkAll parts + 1
  | .iface _ d => uptoBulk d + 1
  | .map entries => uptoBulkEntries entries + 1
  | .held _ => 1
def uptoBulkAll {H : Type} : List (DataW H) → Nat
  | [] => 0
  | d :: r => uptoBulk d + uptoBulkAll r
def uptoBulkEntries {H : Type} : List (Lit × DataW H) → Nat
  | [] => 0
  | x :: r => uptoBulkEntry x + uptoBulkEntries r
def uptoBulkEntry {H : Type} : Lit × DataW H → Nat
  | (.string bytes, d) => bytes.length + uptoBulk d + 1
  | (_, d) => uptoBulk d + 1
 end
def uptoSmall : (H : Type) → List (DataW H) → Bool := fun _ ds => decide (uptoBulkAll ds ≤ 1048576)
def OpenSpec.upto (s : _root_.Go.ChangeSpec) : _root_.Go.OpenSpec := { _root_.Go.OpenSpec.ofChange s with cond := some uptoSmall }

/-- 'drayagelaw31.ReadyTells', WHERE WHAT IT READS IS OF BULK AT MOST 1048576: true; the input reads as it did. -/
def readyTellsUptoRow : OpenClaim := { program := "ytmaocdlpgdadnaagreat", sum := "8cffca973b57bb548684f7d6b2218713650541d1758e9eca1229dc9e476d5135", func := "drayage/drayagelaw31.ReadyTells", spec := "readyTells", inPlace := ["slices.overlaps[drayage/api.Job]"], unfollowed := true, recurses := true, apart := false, narrowed := true }
def ReadyTellsUptoSaid : Prop := readyTellsUptoRow.holds Tryz.pinned (OpenSpec.upto readyTellsSpec)

/-- 'drayagelaw31.ReadyPlans', WHERE WHAT IT READS IS OF BULK AT MOST 1048576: true; the input reads as it did. -/
def readyPlansUptoRow : OpenClaim := { program := "ytmaocdlpgdadnaagreat", sum := "8cffca973b57bb548684f7d6b2218713650541d1758e9eca1229dc9e476d5135", func := "drayage/drayagelaw31.ReadyPlans", spec := "readyPlans", inPlace := ["slices.overlaps[drayage/api.Job]", "slices.overlaps[drayage/api.Step]"], unfollowed := true, recurses := true, apart := false, narrowed := true }
def ReadyPlansUptoSaid : Prop := readyPlansUptoRow.holds Tryz.pinned (OpenSpec.upto readyPlansSpec)

/-- 'drayagelaw33.ConserveSafe', WHERE WHAT IT READS IS OF BULK AT MOST 1048576: true; the input reads as it did. -/
def conserveSafeUptoRow : OpenClaim := { program := "ytmaocdlpgdadnaagreat", sum := "8cffca973b57bb548684f7d6b2218713650541d1758e9eca1229dc9e476d5135", func := "drayage/drayagelaw33.ConserveSafe", spec := "conserveSafe", inPlace := ["slices.overlaps[drayage/api.Job]", "slices.overlaps[drayage/api.Step]"], unfollowed := true, recurses := true, apart := false, narrowed := true }
def ConserveSafeUptoSaid : Prop := conserveSafeUptoRow.holds Tryz.pinned (OpenSpec.upto conserveSafeSpec)

/-- 'drayagelaw32.EasyHead', WHERE WHAT IT READS IS OF BULK AT MOST 1048576: true; the input reads as it did. -/
def easyHeadUptoRow : OpenClaim := { program := "ytmaocdlpgdadnaagreat", sum := "8cffca973b57bb548684f7d6b2218713650541d1758e9eca1229dc9e476d5135", func := "drayage/drayagelaw32.EasyHead", spec := "easyHead", inPlace := ["slices.overlaps[drayage/api.Job]", "slices.overlaps[drayage/api.Step]"], unfollowed := true, recurses := true, apart := false, narrowed := true }
def EasyHeadUptoSaid : Prop := easyHeadUptoRow.holds Tryz.pinned (OpenSpec.upto easyHeadSpec)

end Rows
end Go.Proofs.YtmaocdlpgdadnaaGreat
