/-
  NARROWER THAN 'FOR EVERY INPUT', by the rows' own cells (each row's printed sentence says how): AuditSound: laid.
  DERIVED. THE GIVEN ROWS OF THIS SEAT. 1 by the template 'for every input the law returns true; each argument reads behind the call as it read before'; 0 by the template 'total and deterministic' (their statements: YtffiheekdcaihaaDoorTotals.lean).
  GIVEN WITH THE SEED: the statements are not yours to turn. If you find one false, say at which input.
  Laid BY PROGRAM, IN A SANDBOX (cutbox-rows.mjs): the forced cells as the released guide's own fill.sh prints them over the translation dafbd674b5525474… (all of the seat's roots in one cut). By AI agents, Wed Nov 11 2026. No macro, syntax, notation, axiom, sorry.
-/
import Derived.Test.YtffiheekdcaihaaDoorChecked
import GoSem.Claim
import GoSem.ClaimJoined
import GoSem.ClaimMapViews
import Derived.JoinedTies
import Derived.KernelRfl
namespace Go.Proofs.YtffiheekdcaihaaDoor
/- THE CELL 'sum', in the pinned program and in every row, IS THE sha256 OF THE DUMP (.gsa) THAT YtffiheekdcaihaaDoorProg.lean LOADS. Nothing in Lean hashes anything: it is a label: what it is worth is what the hold of that sum in a sandbox is worth. -/
noncomputable def Tryd.pinned : Pinned := { name := "ytffiheekdcaihaadoor", sum := "dafbd674b55254740927180b42d888153033d0c509bbf942b049a5ae1062e0a5", checked := Tryd.checked }
namespace Rows
def none {H : Type} : Left H := { results := [], args := [] }

/- WHAT THE LISTED PACKAGE-LEVEL VARIABLES READ AS WHEN THE CALL BEGINS. Each datum BY PROGRAM (the guide's laid-datum.mjs) off the statement by which the dump's own 'gosem.cut.vars' lays the variable. In a bare row this is a premise. The card (YtffiheekdcaihaaDoorCards.lean) ties it to the program's text. -/
def laid_drayage_audit_names {H : Type} : DataW H := .agg [.lit (.string []), .lit (.string [110, 111, 100, 101]), .lit (.string [108, 97, 116, 101]), .lit (.string [98, 111, 111, 107, 101, 100]), .lit (.string [106, 111, 98]), .lit (.string [97, 108, 108, 111, 99]), .lit (.string [113, 117, 101, 117, 101]), .lit (.string [117, 115, 101, 114]), .lit (.string [97, 102, 116, 101, 114]), .lit (.string [117, 115, 101])]

/-- 'drayagelaw46.AuditSound': WHATEVER THE INPUT: true; the input reads as it did. -/
def auditSoundSpec : ChangeSpec := { name := "auditSound", fn := fun _ => fun
  | [d] => { results := [.lit (.bool true)], args := [d] }
  | _ => none }
def auditSoundRow : OpenClaim := { program := "ytffiheekdcaihaadoor", sum := "dafbd674b55254740927180b42d888153033d0c509bbf942b049a5ae1062e0a5", func := "drayage/drayagelaw46.AuditSound", spec := "auditSound", unfollowed := true, recurses := true, named := ["drayage/audit.names"], apart := false, laid := [("drayage/audit.names", laid_drayage_audit_names)] }
def AuditSoundSaid : Prop := auditSoundRow.holds Tryd.pinned (OpenSpec.ofChange auditSoundSpec)

/-- ITS FALSE NEIGHBOUR: 'it returns false'. Refute it at one input. -/
def auditSoundWrong : ChangeSpec := { name := "auditSound", fn := fun _ => fun
  | [d] => { results := [.lit (.bool false)], args := [d] }
  | _ => none }
def AuditSoundWrongFalsely : Prop := auditSoundRow.holds Tryd.pinned (OpenSpec.ofChange auditSoundWrong)

/- THE SECOND FORM. 'bulk': how many values and letters a reading holds, each counted each time it is reached (what is shared counts as often as it is met; a slice's spare places count too). A statement '..UptoSaid' is the law's where the arguments, and the package variables that the reading takes, are together of bulk at most 1048576: NARROWER than '..Said'. Prove '..Said' where nothing that the law and all that it calls make is longer than what came in: it says more and counts as full. Else prove '..UptoSaid'. A law counts once. -/
mutual
def uptoBulk {H : Type} : DataW H → Nat
  | .lit (.string bytes) => bytes.length + 1
  | .lit _ => 1
  | .nil => 1
  | .ptr d => uptoBulk d + 1
  | .slice elems spare => uptoBulkAll elems + uptoBulkAll spare + 1
  | .agg parts => uptoBulkAll parts + 1
  | .iface _ d => uptoBulk d + 1
  | .map entries => uptoBulkEntries entries + 1
  | .held _ => 1
def uptoBulkAll {H : Type} : List (DataW H) → Nat
  | [] => 0
  | d :: r => uptoBulk d + uptoBulkAll r
def uptoBulkEntries {H : Type} : List (Lit × DataW H) → Nat
  | [] => 0
  | x :: r => uptoBulkEntry x + uptoBulkEntries r
def uptoBulkEntry {H : Type} : Lit × DataW H → Nat
  | (.string bytes, d) => bytes.length + uptoBulk d + 1
  | (_, d) => uptoBulk d + 1
 end
def uptoSmall : (H : Type) → List (DataW H) → Bool := fun _ ds => decide (uptoBulkAll ds ≤ 1048576)
def OpenSpec.upto (s : _root_.Go.ChangeSpec) : _root_.Go.OpenSpec := { _root_.Go.OpenSpec.ofChange s with cond := some uptoSmall }

/-- 'drayagelaw46.AuditSound', WHERE WHAT IT READS IS OF BULK AT MOST 1048576: true; the input reads as it did. -/
def auditSoundUptoRow : OpenClaim := { program := "ytffiheekdcaihaadoor", sum := "dafbd674b55254740927180b42d888153033d0c509bbf942b049a5ae1062e0a5", func := "drayage/drayagelaw46.AuditSound", spec := "auditSound", unfollowed := true, recurses := true, named := ["drayage/audit.names"], apart := false, laid := [("drayage/audit.names", laid_drayage_audit_names)], narrowed := true }
def AuditSoundUptoSaid : Prop := auditSoundUptoRow.holds Tryd.pinned (OpenSpec.upto auditSoundSpec)

end Rows
end Go.Proofs.YtffiheekdcaihaaDoor
