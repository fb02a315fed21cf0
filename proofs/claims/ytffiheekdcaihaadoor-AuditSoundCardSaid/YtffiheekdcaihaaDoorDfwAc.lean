/- Short names for the printed code. -/
import Derived.Test.YtffiheekdcaihaaDoorDfwOp
set_option linter.all false
namespace Go.Abs
abbrev p (t : Nat) (x : AOp) : AOper := ⟨some t, x, none⟩
abbrev e (x : AOp) : AOper := ⟨none, x, none⟩
abbrev pf (t : Nat) (x : AOp) (g : Nat) : AOper := ⟨some t, x, some (g, false)⟩
abbrev pt (t : Nat) (x : AOp) (g : Nat) : AOper := ⟨some t, x, some (g, true)⟩
abbrev v (t s : Nat) : AOper := ⟨some t, .mov (.t s), none⟩
abbrev ld (t : Nat) (a : Nat) : AOper := ⟨some t, .load none (.t a), none⟩
abbrev ls (t m : Nat) (a : Nat) : AOper := ⟨some t, .load (some m) (.t a), none⟩
abbrev fd (t o a : Nat) : AOper := ⟨some t, .fld o (.t a), none⟩
abbrev sn : D := .c (.lit (.slice none 0 0))
abbrev ci (n : Int) : Operand := .const (.int .i64 n)
abbrev fu (n : Nat) : Opd := .k (.c (.fn (.func n) [] []))
end Go.Abs
