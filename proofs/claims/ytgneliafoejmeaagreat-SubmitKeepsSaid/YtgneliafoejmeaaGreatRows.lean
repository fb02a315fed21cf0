/-
  No cell of these rows narrows 'for every input' (looked for: loops, veiled, ifaces, maps, wideKeys, modest, calm, conditions, laid).
  DERIVED. THE GIVEN ROWS OF THIS SEAT. 5 by the template 'for every input the law returns true; each argument reads behind the call as it read before'; 0 by the template 'total and deterministic' (their statements: YtgneliafoejmeaaGreatTotals.lean).
  GIVEN WITH THE SEED: the statements are not yours to turn. If you find one false, say at which input.
  Laid BY PROGRAM, IN A SANDBOX (cutbox-rows.mjs): the forced cells as the released guide's own fill.sh prints them over the translation 0e0c4e8d88a42468… (all of the seat's roots in one cut). By AI agents, Wed Nov 11 2026. No macro, syntax, notation, axiom, sorry.
-/
import Derived.Test.YtgneliafoejmeaaGreatChecked
import GoSem.Claim
import GoSem.ClaimJoined
import GoSem.ClaimMapViews
import Derived.JoinedTies
import Derived.KernelRfl
namespace Go.Proofs.YtgneliafoejmeaaGreat
/- THE CELL 'sum', in the pinned program and in every row, IS THE sha256 OF THE DUMP (.gsa) THAT YtgneliafoejmeaaGreatProg.lean LOADS. Nothing in Lean hashes anything: it is a label: what it is worth is what the hold of that sum in a sandbox is worth. -/
noncomputable def Tryz.pinned : Pinned := { name := "ytgneliafoejmeaagreat", sum := "0e0c4e8d88a424685b93b04d2b66a853a26574896b4e79de68bbcaae41c818ee", checked := Tryz.checked }
namespace Rows
def none {H : Type} : Left H := { results := [], args := [] }

/-- 'drayagelaw24.SubmitKeeps': WHATEVER THE INPUT: true; the input reads as it did. -/
def submitKeepsSpec : ChangeSpec := { name := "submitKeeps", fn := fun _ => fun
  | [d1, d2] => { results := [.lit (.bool true)], args := [d1, d2] }
  | _ => none }
def submitKeepsRow : OpenClaim := { program := "ytgneliafoejmeaagreat", sum := "0e0c4e8d88a424685b93b04d2b66a853a26574896b4e79de68bbcaae41c818ee", func := "drayage/drayagelaw24.SubmitKeeps", spec := "submitKeeps", inPlace := ["slices.overlaps[drayage/api.Job]"], unfollowed := true, recurses := true, apart := false }
def SubmitKeepsSaid : Prop := submitKeepsRow.holds Tryz.pinned (OpenSpec.ofChange submitKeepsSpec)

/-- ITS FALSE NEIGHBOUR: 'it returns false'. Refute it at one input. -/
def submitKeepsWrong : ChangeSpec := { name := "submitKeeps", fn := fun _ => fun
  | [d1, d2] => { results := [.lit (.bool false)], args := [d1, d2] }
  | _ => none }
def SubmitKeepsWrongFalsely : Prop := submitKeepsRow.holds Tryz.pinned (OpenSpec.ofChange submitKeepsWrong)

/-- 'drayagelaw26.ShiftBack': WHATEVER THE INPUT: true; the input reads as it did. -/
def shiftBackSpec : ChangeSpec := { name := "shiftBack", fn := fun _ => fun
  | [d1, d2, d3] => { results := [.lit (.bool true)], args := [d1, d2, d3] }
  | _ => none }
def shiftBackRow : OpenClaim := { program := "ytgneliafoejmeaagreat", sum := "0e0c4e8d88a424685b93b04d2b66a853a26574896b4e79de68bbcaae41c818ee", func := "drayage/drayagelaw26.ShiftBack", spec := "shiftBack", inPlace := ["slices.overlaps[drayage/api.Job]"], unfollowed := true, recurses := true, apart := false }
def ShiftBackSaid : Prop := shiftBackRow.holds Tryz.pinned (OpenSpec.ofChange shiftBackSpec)

/-- ITS FALSE NEIGHBOUR: 'it returns false'. Refute it at one input. -/
def shiftBackWrong : ChangeSpec := { name := "shiftBack", fn := fun _ => fun
  | [d1, d2, d3] => { results := [.lit (.bool false)], args := [d1, d2, d3] }
  | _ => none }
def ShiftBackWrongFalsely : Prop := shiftBackRow.holds Tryz.pinned (OpenSpec.ofChange shiftBackWrong)

/-- 'drayagelaw31.ReadyTells': WHATEVER THE INPUT: true; the input reads as it did. -/
def readyTellsSpec : ChangeSpec := { name := "readyTells", fn := fun _ => fun
  | [d1, d2] => { results := [.lit (.bool true)], args := [d1, d2] }
  | _ => none }
def readyTellsRow : OpenClaim := { program := "ytgneliafoejmeaagreat", sum := "0e0c4e8d88a424685b93b04d2b66a853a26574896b4e79de68bbcaae41c818ee", func := "drayage/drayagelaw31.ReadyTells", spec := "readyTells", inPlace := ["slices.overlaps[drayage/api.Job]"], unfollowed := true, recurses := true, apart := false }
def ReadyTellsSaid : Prop := readyTellsRow.holds Tryz.pinned (OpenSpec.ofChange readyTellsSpec)

/-- ITS FALSE NEIGHBOUR: 'it returns false'. Refute it at one input. -/
def readyTellsWrong : ChangeSpec := { name := "readyTells", fn := fun _ => fun
  | [d1, d2] => { results := [.lit (.bool false)], args := [d1, d2] }
  | _ => none }
def ReadyTellsWrongFalsely : Prop := readyTellsRow.holds Tryz.pinned (OpenSpec.ofChange readyTellsWrong)

/-- 'drayagelaw26.ShiftFrees': WHATEVER THE INPUT: true; the input reads as it did. -/
def shiftFreesSpec : ChangeSpec := { name := "shiftFrees", fn := fun _ => fun
  | [d1, d2] => { results := [.lit (.bool true)], args := [d1, d2] }
  | _ => none }
def shiftFreesRow : OpenClaim := { program := "ytgneliafoejmeaagreat", sum := "0e0c4e8d88a424685b93b04d2b66a853a26574896b4e79de68bbcaae41c818ee", func := "drayage/drayagelaw26.ShiftFrees", spec := "shiftFrees", inPlace := ["slices.overlaps[drayage/api.Job]"], unfollowed := true, recurses := true, apart := false }
def ShiftFreesSaid : Prop := shiftFreesRow.holds Tryz.pinned (OpenSpec.ofChange shiftFreesSpec)

/-- ITS FALSE NEIGHBOUR: 'it returns false'. Refute it at one input. -/
def shiftFreesWrong : ChangeSpec := { name := "shiftFrees", fn := fun _ => fun
  | [d1, d2] => { results := [.lit (.bool false)], args := [d1, d2] }
  | _ => none }
def ShiftFreesWrongFalsely : Prop := shiftFreesRow.holds Tryz.pinned (OpenSpec.ofChange shiftFreesWrong)

/-- 'drayagelaw27.QueryStamps': WHATEVER THE INPUT: true; the input reads as it did. -/
def queryStampsSpec : ChangeSpec := { name := "queryStamps", fn := fun _ => fun
  | [d1, d2, d3] => { results := [.lit (.bool true)], args := [d1, d2, d3] }
  | _ => none }
def queryStampsRow : OpenClaim := { program := "ytgneliafoejmeaagreat", sum := "0e0c4e8d88a424685b93b04d2b66a853a26574896b4e79de68bbcaae41c818ee", func := "drayage/drayagelaw27.QueryStamps", spec := "queryStamps", inPlace := ["slices.overlaps[drayage/api.Job]"], unfollowed := true, recurses := true, apart := false }
def QueryStampsSaid : Prop := queryStampsRow.holds Tryz.pinned (OpenSpec.ofChange queryStampsSpec)

/-- ITS FALSE NEIGHBOUR: 'it returns false'. Refute it at one input. -/
def queryStampsWrong : ChangeSpec := { name := "queryStamps", fn := fun _ => fun
  | [d1, d2, d3] => { results := [.lit (.bool false)], args := [d1, d2, d3] }
  | _ => none }
def QueryStampsWrongFalsely : Prop := queryStampsRow.holds Tryz.pinned (OpenSpec.ofChange queryStampsWrong)

/- THE SECOND FORM. 'bulk': how many values and letters a reading holds, each counted each time it is reached (what is shared counts as often as it is met; a slice's spare places count too). A statement '..UptoSaid' is the law's where the arguments, and the package variables that the reading takes, are together of bulk at most 1048576: NARROWER than '..Said'. Prove '..Said' where nothing that the law and all that it calls make is longer than what came in: it says more and counts as full. Else prove '..UptoSaid'. A law counts once. -/
mutual
def uptoBulk {H : Type} : DataW H → Nat
  | .lit (.string bytes) => bytes.length + 1
  | .lit _ => 1
  | .nil => 1
  | .ptr d => uptoBulk d + 1
  | .slice elems spare => uptoBulkAll elems + uptoBulkAll spare + 1
  | .agg parts => uptoBulkAll parts + 1
  | .iface _ d => uptoBulk d + 1
  | .map entries => uptoBulkEntries entries + 1
  | .held _ => 1
def uptoBulkAll {H : Type} : List (DataW H) → Nat
  | [] => 0
  | d :: r => uptoBulk d + uptoBulkAll r
def uptoBulkEntries {H : Type} : List (Lit × DataW H) → Nat
  | [] => 0
  | x :: r => uptoBulkEntry x + uptoBulkEntries r
def uptoBulkEntry {H : Type} : Lit × DataW H → Nat
  | (.string bytes, d) => bytes.length + uptoBulk d + 1
  | (_, d) => uptoBulk d + 1
 end
def uptoSmall : (H : Type) → List (DataW H) → Bool := fun _ ds => decide (uptoBulkAll ds ≤ 1048576)
def OpenSpec.upto (s : _root_.Go.ChangeSpec) : _root_.Go.OpenSpec := { _root_.Go.OpenSpec.ofChange s with cond := some uptoSmall }

/-- 'drayagelaw24.SubmitKeeps', WHERE WHAT IT READS IS OF BULK AT MOST 1048576: true; the input reads as it did. -/
def submitKeepsUptoRow : OpenClaim := { program := "ytgneliafoejmeaagreat", sum := "0e0c4e8d88a424685b93b04d2b66a853a26574896b4e79de68bbcaae41c818ee", func := "drayage/drayagelaw24.SubmitKeeps", spec := "submitKeeps", inPlace := ["slices.overlaps[drayage/api.Job]"], unfollowed := true, recurses := true, apart := false, narrowed := true }
def SubmitKeepsUptoSaid : Prop := submitKeepsUptoRow.holds Tryz.pinned (OpenSpec.upto submitKeepsSpec)

/-- 'drayagelaw26.ShiftBack', WHERE WHAT IT READS IS OF BULK AT MOST 1048576: true; the input reads as it did. -/
def shiftBackUptoRow : OpenClaim := { program := "ytgneliafoejmeaagreat", sum := "0e0c4e8d88a424685b93b04d2b66a853a26574896b4e79de68bbcaae41c818ee", func := "drayage/drayagelaw26.ShiftBack", spec := "shiftBack", inPlace := ["slices.overlaps[drayage/api.Job]"], unfollowed := true, recurses := true, apart := false, narrowed := true }
def ShiftBackUptoSaid : Prop := shiftBackUptoRow.holds Tryz.pinned (OpenSpec.upto shiftBackSpec)

/-- 'drayagelaw31.ReadyTells', WHERE WHAT IT READS IS OF BULK AT MOST 1048576: true; the input reads as it did. -/
def readyTellsUptoRow : OpenClaim := { program := "ytgneliafoejmeaagreat", sum := "0e0c4e8d88a424685b93b04d2b66a853a26574896b4e79de68bbcaae41c818ee", func := "drayage/drayagelaw31.ReadyTells", spec := "readyTells", inPlace := ["slices.overlaps[drayage/api.Job]"], unfollowed := true, recurses := true, apart := false, narrowed := true }
def ReadyTellsUptoSaid : Prop := readyTellsUptoRow.holds Tryz.pinned (OpenSpec.upto readyTellsSpec)

/-- 'drayagelaw26.ShiftFrees', WHERE WHAT IT READS IS OF BULK AT MOST 1048576: true; the input reads as it did. -/
def shiftFreesUptoRow : OpenClaim := { program := "ytgneliafoejmeaagreat", sum := "0e0c4e8d88a424685b93b04d2b66a853a26574896b4e79de68bbcaae41c818ee", func := "drayage/drayagelaw26.ShiftFrees", spec := "shiftFrees", inPlace := ["slices.overlaps[drayage/api.Job]"], unfollowed := true, recurses := true, apart := false, narrowed := true }
def ShiftFreesUptoSaid : Prop := shiftFreesUptoRow.holds Tryz.pinned (OpenSpec.upto shiftFreesSpec)

/-- 'drayagelaw27.QueryStamps', WHERE WHAT IT READS IS OF BULK AT MOST 1048576: true; the input reads as it did. -/
def queryStampsUptoRow : OpenClaim := { program := "ytgneliafoejmeaagreat", sum := "0e0c4e8d88a424685b93b04d2b66a853a26574896b4e79de68bbcaae41c818ee", func := "drayage/drayagelaw27.QueryStamps", spec := "queryStamps", inPlace := ["slices.overlaps[drayage/api.Job]"], unfollowed := true, recurses := true, apart := false, narrowed := true }
def QueryStampsUptoSaid : Prop := queryStampsUptoRow.holds Tryz.pinned (OpenSpec.upto queryStampsSpec)

end Rows
end Go.Proofs.YtgneliafoejmeaaGreat
