/- The code computes these functions (3). -/
import Derived.Test.YtffiheekdcaihaaDoorTzWalk2
set_option linter.all false
namespace Go.Abs
variable [Gl]
open Go.Proofs
set_option linter.unusedVariables false
set_option maxRecDepth 100000
set_option maxHeartbeats 2000000
noncomputable def S7 (N : Nat) : za1 := [(20, F20 N), (21, F21 N), (22, F22 N), (23, F23 N), (24, F24 N), (25, F25 N), (26, F26 N), (27, F27 N), (28, F28 N), (29, F29 N)]
theorem O7 (N : Nat) : zaO Tryd.prog (zat (S7 N)) := zap (zaj.cons (K20 N) <| zaj.cons (K21 N) <| zaj.cons (K22 N) <| zaj.cons (K23 N) <| zaj.cons (K24 N) <| zaj.cons (K25 N) <| zaj.cons (K26 N) <| zaj.cons (K27 N) <| zaj.cons (K28 N) <| zaj.cons (K29 N) <| zaj.nil)
theorem audit_Check_ok (N : Nat) (p0 : zab) (p1 : zag) (r : ((List zae) × Int)) (h : ze8 N p0 p1 = some r) : za9 Tryd.prog 7 [(ST (zab.enc p0)), (ST (zag.enc p1))] (.tup [(SL zae.enc r.1), I r.2]) := by
  have O := And.intro mix (O7 N)
  refine zan Tryd.func7 (by kernel_rfl) C7 (bl Z) ?_
  unfold ze8 at h
  unfold A7
  dsimp only [zbc]
  refine sq <| rq O <| o (d := (.ptr 0 0 18)) (σ1 := [cm (zab.enc p0)]) (zba Z Z Z Z) Z <| o (d := (.ptr 1 0 9)) (σ1 := [cm (zab.enc p0), cm (zag.enc p1)]) (zba Z Z Z Z) Z <| m Z <| m Z <| nl <| nx <| sq <| rq O <| l (d := (ST (zab.enc p0))) Z <| l (d := (ST (zag.enc p1))) Z <| ?_
  obtain ⟨⟨r1, r2⟩, e3, h⟩ := bs h
  try dsimp only at h
  refine o (d := (.tup [(OP zaa.enc r1), B r2])) (op_call Z Z (zaS Z Z Z (audit_prepare_eq e3) (by cases r1 <;> rfl))) Z <| m Z <| ?_
  cases r1 with
  | none =>
   dsimp only [oel] at h
   refine o (zbw Z Z) Z <| o (zbw Z Z) Z <| m Z <| m Z <| nl <| nx <| sq <| sq <| rq O <| m Z <| o (d := (B (!r2))) (zbA Z Z Z Z) Z <| nl <| nx <| Sem.cond Z (fun c97 => ?_) (fun c97 => ?_)
   ·rw [if_pos c97] at h
    refine sq <| rq O <| m Z <| m Z <| nl <| nx <| Sem.ret mix ?_
    cases h
    exact ⟨.inr Z, _, _, Z, Z, DLe.of_nrm Z⟩
   ·rw [if_neg (zaH c97)] at h
    refine Sem.skip mix <| nx <| sq <| rq O <| m Z <| o (d := (.fn (.func 21) [(.c (.lit (.pointer none)))] [])) (zdz Z Z) Z <| m Z <| o (d := (.fn (.func 22) [(.c (.lit (.pointer none)))] [])) (zdz Z Z) Z <| m Z <| o (d := (.fn (.func 23) [(.c (.lit (.pointer none)))] [])) (zdz Z Z) Z <| m Z <| o (d := (.fn (.func 24) [(.c (.lit (.pointer none)))] [])) (zdz Z Z) Z <| m Z <| o (d := (.fn (.func 25) [(.c (.lit (.pointer none)))] [])) (zdz Z Z) Z <| m Z <| o (d := (.fn (.func 26) [(.c (.lit (.pointer none)))] [])) (zdz Z Z) Z <| m Z <| o (d := (.fn (.func 27) [(.c (.lit (.pointer none)))] [])) (zdz Z Z) Z <| m Z <| o (d := (.fn (.func 28) [(.c (.lit (.pointer none)))] [])) (zdz Z Z) Z <| m Z <| o (d := (.fn (.func 29) [(.c (.lit (.pointer none)))] [])) (zdz Z Z) Z <| o (d := (.sl 2 0 9 1 9)) (σ1 := [cm (zab.enc p0), cm (zag.enc p1), .cells [(.fn (.func 21) [(.c (.lit (.pointer none)))] []), (.fn (.func 22) [(.c (.lit (.pointer none)))] []), (.fn (.func 23) [(.c (.lit (.pointer none)))] []), (.fn (.func 24) [(.c (.lit (.pointer none)))] []), (.fn (.func 25) [(.c (.lit (.pointer none)))] []), (.fn (.func 26) [(.c (.lit (.pointer none)))] []), (.fn (.func 27) [(.c (.lit (.pointer none)))] []), (.fn (.func 28) [(.c (.lit (.pointer none)))] []), (.fn (.func 29) [(.c (.lit (.pointer none)))] [])]]) (op_bslice (by kernel_rfl) Z Z) Z <| m Z <| nl <| nx <| sq <| rq O <| m Z <| nl <| nx <| Sem.own 9 2 Z (d := (OS 2 3 0)) (σ1 := [cm (zab.enc p0), cm (zag.enc p1), .cells [(.fn (.func 21) [(.c (.lit (.pointer none)))] []), (.fn (.func 22) [(.c (.lit (.pointer none)))] []), (.fn (.func 23) [(.c (.lit (.pointer none)))] []), (.fn (.func 24) [(.c (.lit (.pointer none)))] []), (.fn (.func 25) [(.c (.lit (.pointer none)))] []), (.fn (.func 26) [(.c (.lit (.pointer none)))] []), (.fn (.func 27) [(.c (.lit (.pointer none)))] []), (.fn (.func 28) [(.c (.lit (.pointer none)))] []), (.fn (.func 29) [(.c (.lit (.pointer none)))] [])], OB zae.enc ([] : List zae)]) Z Z <| sq <| sq <| rq O <| m Z <| o (d := (I 9)) (op_lenS Z Z Z) Z <| m Z <| nl <| nx <| Sem.block <| Sem.loop 10 <| SemL.succ ?_
    try unfold A7xl1
    refine sq <| rq O <| o (d := (B true)) (bo Z) Z <| nl <| nx <| sq <| Sem.cond Z (fun _ => ?_) (fun hh => by cases hh)
    refine Sem.skip mix <| nx <| sq <| Sem.block <| sq <| rq O <| m Z <| o (d := (.ptr 2 0 9)) (op_idxS Z Z Z Z Z) Z <| l (d := (.fn (.func 21) [(.c (.lit (.pointer none)))] [])) Z <| m Z <| m Z <| nl <| nx <| sq <| rq O <| m Z <| ?_
    cases h
  | some o4 =>
   dsimp only [oel] at h
   refine o (zbw Z Z) Z <| o (zbw Z Z) Z <| m Z <| m Z <| nl <| nx <| sq <| sq <| rq O <| m Z <| o (d := (B (!r2))) (zbA Z Z Z Z) Z <| nl <| nx <| Sem.cond Z (fun c5 => ?_) (fun c5 => ?_)
   ·rw [if_pos c5] at h
    refine sq <| rq O <| m Z <| m Z <| nl <| nx <| Sem.ret mix ?_
    cases h
    exact ⟨.inr Z, _, _, Z, Z, DLe.of_nrm Z⟩
   ·rw [if_neg (zaH c5)] at h
    refine Sem.skip mix <| nx <| sq <| rq O <| m Z <| o (d := (.fn (.func 21) [(.c (.fptr (zaa.enc o4) 0))] [])) (zdz Z Z) Z <| m Z <| o (d := (.fn (.func 22) [(.c (.fptr (zaa.enc o4) 0))] [])) (zdz Z Z) Z <| m Z <| o (d := (.fn (.func 23) [(.c (.fptr (zaa.enc o4) 0))] [])) (zdz Z Z) Z <| m Z <| o (d := (.fn (.func 24) [(.c (.fptr (zaa.enc o4) 0))] [])) (zdz Z Z) Z <| m Z <| o (d := (.fn (.func 25) [(.c (.fptr (zaa.enc o4) 0))] [])) (zdz Z Z) Z <| m Z <| o (d := (.fn (.func 26) [(.c (.fptr (zaa.enc o4) 0))] [])) (zdz Z Z) Z <| m Z <| o (d := (.fn (.func 27) [(.c (.fptr (zaa.enc o4) 0))] [])) (zdz Z Z) Z <| m Z <| o (d := (.fn (.func 28) [(.c (.fptr (zaa.enc o4) 0))] [])) (zdz Z Z) Z <| m Z <| o (d := (.fn (.func 29) [(.c (.fptr (zaa.enc o4) 0))] [])) (zdz Z Z) Z <| o (d := (.sl 2 0 9 1 9)) (σ1 := [cm (zab.enc p0), cm (zag.enc p1), .cells [(.fn (.func 21) [(.c (.fptr (zaa.enc o4) 0))] []), (.fn (.func 22) [(.c (.fptr (zaa.enc o4) 0))] []), (.fn (.func 23) [(.c (.fptr (zaa.enc o4) 0))] []), (.fn (.func 24) [(.c (.fptr (zaa.enc o4) 0))] []), (.fn (.func 25) [(.c (.fptr (zaa.enc o4) 0))] []), (.fn (.func 26) [(.c (.fptr (zaa.enc o4) 0))] []), (.fn (.func 27) [(.c (.fptr (zaa.enc o4) 0))] []), (.fn (.func 28) [(.c (.fptr (zaa.enc o4) 0))] []), (.fn (.func 29) [(.c (.fptr (zaa.enc o4) 0))] [])]]) (op_bslice (by kernel_rfl) Z Z) Z <| m Z <| nl <| nx <| sq <| rq O <| m Z <| nl <| nx <| Sem.own 9 2 Z (d := (OS 2 3 0)) (σ1 := [cm (zab.enc p0), cm (zag.enc p1), .cells [(.fn (.func 21) [(.c (.fptr (zaa.enc o4) 0))] []), (.fn (.func 22) [(.c (.fptr (zaa.enc o4) 0))] []), (.fn (.func 23) [(.c (.fptr (zaa.enc o4) 0))] []), (.fn (.func 24) [(.c (.fptr (zaa.enc o4) 0))] []), (.fn (.func 25) [(.c (.fptr (zaa.enc o4) 0))] []), (.fn (.func 26) [(.c (.fptr (zaa.enc o4) 0))] []), (.fn (.func 27) [(.c (.fptr (zaa.enc o4) 0))] []), (.fn (.func 28) [(.c (.fptr (zaa.enc o4) 0))] []), (.fn (.func 29) [(.c (.fptr (zaa.enc o4) 0))] [])], OB zae.enc ([] : List zae)]) Z Z <| sq <| sq <| rq O <| m Z <| o (d := (I 9)) (op_lenS Z Z Z) Z <| m Z <| nl <| nx <| Sem.block <| Sem.loop 10 <| SemL.succ ?_
    try unfold A7xl1
    refine sq <| rq O <| o (d := (B true)) (bo Z) Z <| nl <| nx <| sq <| Sem.cond Z (fun _ => ?_) (fun hh => by cases hh)
    refine Sem.skip mix <| nx <| sq <| Sem.block <| sq <| rq O <| m Z <| o (d := (.ptr 2 0 9)) (op_idxS Z Z Z Z Z) Z <| l (d := (.fn (.func 21) [(.c (.fptr (zaa.enc o4) 0))] [])) Z <| m Z <| m Z <| nl <| nx <| sq <| rq O <| m Z <| ?_
    obtain ⟨r7, e8, h⟩ := bs h
    refine o (d := (SL zah r7)) (op_callf Z Z (zaS Z Z Z (audit_checker_node_eq e8) Z)) Z <| o (d := (I (r7.length : Int))) (zaA Z) Z <| m Z <| nl <| nx <| Sem.block <| Sem.rounds (V := Int × (List zae)) (fun ((x10, y9) : Int × (List zae)) => [(9, (OS 2 3 y9.length)), (10, (I 0)), (41, (.sl 2 0 9 1 9)), (42, (I 9)), (43, (I 0)), (49, (SL zah r7)), (50, (I (r7.length : Int))), (51, (I x10))]) (fun ((x10, y9) : Int × (List zae)) => [cm (zab.enc p0), cm (zag.enc p1), .cells [(.fn (.func 21) [(.c (.fptr (zaa.enc o4) 0))] []), (.fn (.func 22) [(.c (.fptr (zaa.enc o4) 0))] []), (.fn (.func 23) [(.c (.fptr (zaa.enc o4) 0))] []), (.fn (.func 24) [(.c (.fptr (zaa.enc o4) 0))] []), (.fn (.func 25) [(.c (.fptr (zaa.enc o4) 0))] []), (.fn (.func 26) [(.c (.fptr (zaa.enc o4) 0))] []), (.fn (.func 27) [(.c (.fptr (zaa.enc o4) 0))] []), (.fn (.func 28) [(.c (.fptr (zaa.enc o4) 0))] []), (.fn (.func 29) [(.c (.fptr (zaa.enc o4) 0))] [])], OB zae.enc y9]) (fun k v => zdD N o4 r7 k v.1 v.2 = some r) N (0, ([] : List zae)) h (fun v h => by unfold zdD at h; cases h) ?_ (sE Z (by simp) <| sS Z <| sS Z <| sS Z <| sS Z <| sS Z <| sS Z <| sS Z <| sZ) Z
    intro kL0 v h
    obtain ⟨x10, y9⟩ := v
    try dsimp only at h ⊢
    unfold zdD at h
    try unfold A7xl0
    refine sq <| rq O <| o (d := (B (decide (x10 < (r7.length : Int))))) (bo Z) Z <| nl <| nx <| sq <| Sem.cond Z (fun c11 => ?_) (fun c11 => ?_)
    ·rw [if_pos c11] at h
     refine Sem.skip mix <| nx <| sq <| Sem.block <| sq <| rq O ?_
     obtain ⟨a12, e13, h⟩ := bs h
     refine o (zaF Z Z e13 Z) Z <| o (d := (I a12)) (zal Z Z) Z <| m Z <| nl <| nx <| rq O <| m Z <| m Z <| o (d := (I 1)) (bo Z) Z <| m Z <| o (d := (.agg [I 1, I a12])) (zbB (by kernel_rfl)) Z <| o (d := (OS 2 4 1)) (σ1 := [cm (zab.enc p0), cm (zag.enc p1), .cells [(.fn (.func 21) [(.c (.fptr (zaa.enc o4) 0))] []), (.fn (.func 22) [(.c (.fptr (zaa.enc o4) 0))] []), (.fn (.func 23) [(.c (.fptr (zaa.enc o4) 0))] []), (.fn (.func 24) [(.c (.fptr (zaa.enc o4) 0))] []), (.fn (.func 25) [(.c (.fptr (zaa.enc o4) 0))] []), (.fn (.func 26) [(.c (.fptr (zaa.enc o4) 0))] []), (.fn (.func 27) [(.c (.fptr (zaa.enc o4) 0))] []), (.fn (.func 28) [(.c (.fptr (zaa.enc o4) 0))] []), (.fn (.func 29) [(.c (.fptr (zaa.enc o4) 0))] [])], OB zae.enc y9, OB zae.enc ([({ What := 1, Where := a12 } : zae)] : List zae)]) (zaL (f := zae.enc) (l := ([({ What := 1, Where := a12 } : zae)] : List zae)) (cs := ((([({ What := 1, Where := a12 } : zae)] : List zae)).flatMap zae.enc).map .c) (by kernel_rfl) Z Z (fun _ => Z) Z Z Z) Z <| ?_
     obtain ⟨z14, e15, h⟩ := bs h
     refine o (d := (OS 2 3 z14.length)) (σ1 := [cm (zab.enc p0), cm (zag.enc p1), .cells [(.fn (.func 21) [(.c (.fptr (zaa.enc o4) 0))] []), (.fn (.func 22) [(.c (.fptr (zaa.enc o4) 0))] []), (.fn (.func 23) [(.c (.fptr (zaa.enc o4) 0))] []), (.fn (.func 24) [(.c (.fptr (zaa.enc o4) 0))] []), (.fn (.func 25) [(.c (.fptr (zaa.enc o4) 0))] []), (.fn (.func 26) [(.c (.fptr (zaa.enc o4) 0))] []), (.fn (.func 27) [(.c (.fptr (zaa.enc o4) 0))] []), (.fn (.func 28) [(.c (.fptr (zaa.enc o4) 0))] []), (.fn (.func 29) [(.c (.fptr (zaa.enc o4) 0))] [])], OB zae.enc z14, OB zae.enc ([({ What := 1, Where := a12 } : zae)] : List zae)]) (zcU (f := zae.enc) (fun _ => Z) Z Z Z Z (zeL (fun _ => Z) Z (by simp)) e15 Z Z Z) Z <| m Z <| nl <| nx <| nx <| rq O <| o (d := (I (IntKind.i64.wrap (x10 + 1)))) (bo Z) Z <| m Z <| nl ?_
     exact ⟨((IntKind.i64.wrap (x10 + 1)), z14), h, .cut 4 (bl Z) (bl Z) (sS Z <| sS Z <| sS Z <| sS Z <| sS Z <| sS Z <| sS Z <| sS Z <| sZ) Z (zeN Z (zeN Z (zeN Z (zeN zeP Z))))⟩
    ·rw [if_neg (zaH c11)] at h
     refine Sem.exit mix <| nx <| ⟨_, _, .refl, fun _ => ?_, fun hh => absurd Z hh⟩
     refine nx <| nx <| rq O <| o (d := (I 1)) (bo Z) Z <| m Z <| nl <| nx <| SemL.succ ?_
     try unfold A7xl1
     refine sq <| rq O <| o (d := (B true)) (bo Z) Z <| nl <| nx <| sq <| Sem.cond Z (fun _ => ?_) (fun hh => by cases hh)
     refine Sem.skip mix <| nx <| sq <| Sem.block <| sq <| rq O <| m Z <| o (d := (.ptr 2 1 9)) (op_idxS Z Z Z Z Z) Z <| l (d := (.fn (.func 22) [(.c (.fptr (zaa.enc o4) 0))] [])) Z <| m Z <| m Z <| nl <| nx <| sq <| rq O <| m Z <| ?_
     obtain ⟨r17, e18, h⟩ := bs h
     refine o (d := (SL zah r17)) (op_callf Z Z (zaS Z Z Z (audit_checker_late_eq e18) Z)) Z <| o (d := (I (r17.length : Int))) (zaA Z) Z <| m Z <| nl <| nx <| Sem.block <| Sem.rounds (V := Int × (List zae)) (fun ((x20, y19) : Int × (List zae)) => [(9, (OS 2 3 y19.length)), (10, (I 1)), (41, (.sl 2 0 9 1 9)), (42, (I 9)), (43, (I 1)), (49, (SL zah r17)), (50, (I (r17.length : Int))), (51, (I x20))]) (fun ((x20, y19) : Int × (List zae)) => [cm (zab.enc p0), cm (zag.enc p1), .cells [(.fn (.func 21) [(.c (.fptr (zaa.enc o4) 0))] []), (.fn (.func 22) [(.c (.fptr (zaa.enc o4) 0))] []), (.fn (.func 23) [(.c (.fptr (zaa.enc o4) 0))] []), (.fn (.func 24) [(.c (.fptr (zaa.enc o4) 0))] []), (.fn (.func 25) [(.c (.fptr (zaa.enc o4) 0))] []), (.fn (.func 26) [(.c (.fptr (zaa.enc o4) 0))] []), (.fn (.func 27) [(.c (.fptr (zaa.enc o4) 0))] []), (.fn (.func 28) [(.c (.fptr (zaa.enc o4) 0))] []), (.fn (.func 29) [(.c (.fptr (zaa.enc o4) 0))] [])], OB zae.enc y19]) (fun k v => zdE N o4 r17 k v.1 v.2 = some r) N (0, y9) h (fun v h => by unfold zdE at h; cases h) ?_ (sS Z <| sS Z <| sS Z <| sS Z <| sS Z <| sS Z <| sS Z <| sS Z <| sZ) Z
     intro kL1 v h
     obtain ⟨x20, y19⟩ := v
     try dsimp only at h ⊢
     unfold zdE at h
     try unfold A7xl0
     refine sq <| rq O <| o (d := (B (decide (x20 < (r17.length : Int))))) (bo Z) Z <| nl <| nx <| sq <| Sem.cond Z (fun c21 => ?_) (fun c21 => ?_)
     ·rw [if_pos c21] at h
      refine Sem.skip mix <| nx <| sq <| Sem.block <| sq <| rq O ?_
      obtain ⟨a22, e23, h⟩ := bs h
      refine o (zaF Z Z e23 Z) Z <| o (d := (I a22)) (zal Z Z) Z <| m Z <| nl <| nx <| rq O <| m Z <| m Z <| o (d := (I 2)) (bo Z) Z <| m Z <| o (d := (.agg [I 2, I a22])) (zbB (by kernel_rfl)) Z <| o (d := (OS 2 4 1)) (σ1 := [cm (zab.enc p0), cm (zag.enc p1), .cells [(.fn (.func 21) [(.c (.fptr (zaa.enc o4) 0))] []), (.fn (.func 22) [(.c (.fptr (zaa.enc o4) 0))] []), (.fn (.func 23) [(.c (.fptr (zaa.enc o4) 0))] []), (.fn (.func 24) [(.c (.fptr (zaa.enc o4) 0))] []), (.fn (.func 25) [(.c (.fptr (zaa.enc o4) 0))] []), (.fn (.func 26) [(.c (.fptr (zaa.enc o4) 0))] []), (.fn (.func 27) [(.c (.fptr (zaa.enc o4) 0))] []), (.fn (.func 28) [(.c (.fptr (zaa.enc o4) 0))] []), (.fn (.func 29) [(.c (.fptr (zaa.enc o4) 0))] [])], OB zae.enc y19, OB zae.enc ([({ What := 2, Where := a22 } : zae)] : List zae)]) (zaL (f := zae.enc) (l := ([({ What := 2, Where := a22 } : zae)] : List zae)) (cs := ((([({ What := 2, Where := a22 } : zae)] : List zae)).flatMap zae.enc).map .c) (by kernel_rfl) Z Z (fun _ => Z) Z Z Z) Z <| ?_
      obtain ⟨z24, e25, h⟩ := bs h
      refine o (d := (OS 2 3 z24.length)) (σ1 := [cm (zab.enc p0), cm (zag.enc p1), .cells [(.fn (.func 21) [(.c (.fptr (zaa.enc o4) 0))] []), (.fn (.func 22) [(.c (.fptr (zaa.enc o4) 0))] []), (.fn (.func 23) [(.c (.fptr (zaa.enc o4) 0))] []), (.fn (.func 24) [(.c (.fptr (zaa.enc o4) 0))] []), (.fn (.func 25) [(.c (.fptr (zaa.enc o4) 0))] []), (.fn (.func 26) [(.c (.fptr (zaa.enc o4) 0))] []), (.fn (.func 27) [(.c (.fptr (zaa.enc o4) 0))] []), (.fn (.func 28) [(.c (.fptr (zaa.enc o4) 0))] []), (.fn (.func 29) [(.c (.fptr (zaa.enc o4) 0))] [])], OB zae.enc z24, OB zae.enc ([({ What := 2, Where := a22 } : zae)] : List zae)]) (zcU (f := zae.enc) (fun _ => Z) Z Z Z Z (zeL (fun _ => Z) Z (by simp)) e25 Z Z Z) Z <| m Z <| nl <| nx <| nx <| rq O <| o (d := (I (IntKind.i64.wrap (x20 + 1)))) (bo Z) Z <| m Z <| nl ?_
      exact ⟨((IntKind.i64.wrap (x20 + 1)), z24), h, .cut 4 (bl Z) (bl Z) (sS Z <| sS Z <| sS Z <| sS Z <| sS Z <| sS Z <| sS Z <| sS Z <| sZ) Z (zeN Z (zeN Z (zeN Z (zeN zeP Z))))⟩
     ·rw [if_neg (zaH c21)] at h
      refine Sem.exit mix <| nx <| ⟨_, _, .refl, fun _ => ?_, fun hh => absurd Z hh⟩
      refine nx <| nx <| rq O <| o (d := (I 2)) (bo Z) Z <| m Z <| nl <| nx <| SemL.succ ?_
      try unfold A7xl1
      refine sq <| rq O <| o (d := (B true)) (bo Z) Z <| nl <| nx <| sq <| Sem.cond Z (fun _ => ?_) (fun hh => by cases hh)
      refine Sem.skip mix <| nx <| sq <| Sem.block <| sq <| rq O <| m Z <| o (d := (.ptr 2 2 9)) (op_idxS Z Z Z Z Z) Z <| l (d := (.fn (.func 23) [(.c (.fptr (zaa.enc o4) 0))] [])) Z <| m Z <| m Z <| nl <| nx <| sq <| rq O <| m Z <| ?_
      obtain ⟨r27, e28, h⟩ := bs h
      refine o (d := (SL zah r27)) (op_callf Z Z (zaS Z Z Z (audit_checker_booked_eq e28) Z)) Z <| o (d := (I (r27.length : Int))) (zaA Z) Z <| m Z <| nl <| nx <| Sem.block <| Sem.rounds (V := Int × (List zae)) (fun ((x30, y29) : Int × (List zae)) => [(9, (OS 2 3 y29.length)), (10, (I 2)), (41, (.sl 2 0 9 1 9)), (42, (I 9)), (43, (I 2)), (49, (SL zah r27)), (50, (I (r27.length : Int))), (51, (I x30))]) (fun ((x30, y29) : Int × (List zae)) => [cm (zab.enc p0), cm (zag.enc p1), .cells [(.fn (.func 21) [(.c (.fptr (zaa.enc o4) 0))] []), (.fn (.func 22) [(.c (.fptr (zaa.enc o4) 0))] []), (.fn (.func 23) [(.c (.fptr (zaa.enc o4) 0))] []), (.fn (.func 24) [(.c (.fptr (zaa.enc o4) 0))] []), (.fn (.func 25) [(.c (.fptr (zaa.enc o4) 0))] []), (.fn (.func 26) [(.c (.fptr (zaa.enc o4) 0))] []), (.fn (.func 27) [(.c (.fptr (zaa.enc o4) 0))] []), (.fn (.func 28) [(.c (.fptr (zaa.enc o4) 0))] []), (.fn (.func 29) [(.c (.fptr (zaa.enc o4) 0))] [])], OB zae.enc y29]) (fun k v => zdF N o4 r27 k v.1 v.2 = some r) N (0, y19) h (fun v h => by unfold zdF at h; cases h) ?_ (sS Z <| sS Z <| sS Z <| sS Z <| sS Z <| sS Z <| sS Z <| sS Z <| sZ) Z
      intro kL2 v h
      obtain ⟨x30, y29⟩ := v
      try dsimp only at h ⊢
      unfold zdF at h
      try unfold A7xl0
      refine sq <| rq O <| o (d := (B (decide (x30 < (r27.length : Int))))) (bo Z) Z <| nl <| nx <| sq <| Sem.cond Z (fun c31 => ?_) (fun c31 => ?_)
      ·rw [if_pos c31] at h
       refine Sem.skip mix <| nx <| sq <| Sem.block <| sq <| rq O ?_
       obtain ⟨a32, e33, h⟩ := bs h
       refine o (zaF Z Z e33 Z) Z <| o (d := (I a32)) (zal Z Z) Z <| m Z <| nl <| nx <| rq O <| m Z <| m Z <| o (d := (I 3)) (bo Z) Z <| m Z <| o (d := (.agg [I 3, I a32])) (zbB (by kernel_rfl)) Z <| o (d := (OS 2 4 1)) (σ1 := [cm (zab.enc p0), cm (zag.enc p1), .cells [(.fn (.func 21) [(.c (.fptr (zaa.enc o4) 0))] []), (.fn (.func 22) [(.c (.fptr (zaa.enc o4) 0))] []), (.fn (.func 23) [(.c (.fptr (zaa.enc o4) 0))] []), (.fn (.func 24) [(.c (.fptr (zaa.enc o4) 0))] []), (.fn (.func 25) [(.c (.fptr (zaa.enc o4) 0))] []), (.fn (.func 26) [(.c (.fptr (zaa.enc o4) 0))] []), (.fn (.func 27) [(.c (.fptr (zaa.enc o4) 0))] []), (.fn (.func 28) [(.c (.fptr (zaa.enc o4) 0))] []), (.fn (.func 29) [(.c (.fptr (zaa.enc o4) 0))] [])], OB zae.enc y29, OB zae.enc ([({ What := 3, Where := a32 } : zae)] : List zae)]) (zaL (f := zae.enc) (l := ([({ What := 3, Where := a32 } : zae)] : List zae)) (cs := ((([({ What := 3, Where := a32 } : zae)] : List zae)).flatMap zae.enc).map .c) (by kernel_rfl) Z Z (fun _ => Z) Z Z Z) Z <| ?_
       obtain ⟨z34, e35, h⟩ := bs h
       refine o (d := (OS 2 3 z34.length)) (σ1 := [cm (zab.enc p0), cm (zag.enc p1), .cells [(.fn (.func 21) [(.c (.fptr (zaa.enc o4) 0))] []), (.fn (.func 22) [(.c (.fptr (zaa.enc o4) 0))] []), (.fn (.func 23) [(.c (.fptr (zaa.enc o4) 0))] []), (.fn (.func 24) [(.c (.fptr (zaa.enc o4) 0))] []), (.fn (.func 25) [(.c (.fptr (zaa.enc o4) 0))] []), (.fn (.func 26) [(.c (.fptr (zaa.enc o4) 0))] []), (.fn (.func 27) [(.c (.fptr (zaa.enc o4) 0))] []), (.fn (.func 28) [(.c (.fptr (zaa.enc o4) 0))] []), (.fn (.func 29) [(.c (.fptr (zaa.enc o4) 0))] [])], OB zae.enc z34, OB zae.enc ([({ What := 3, Where := a32 } : zae)] : List zae)]) (zcU (f := zae.enc) (fun _ => Z) Z Z Z Z (zeL (fun _ => Z) Z (by simp)) e35 Z Z Z) Z <| m Z <| nl <| nx <| nx <| rq O <| o (d := (I (IntKind.i64.wrap (x30 + 1)))) (bo Z) Z <| m Z <| nl ?_
       exact ⟨((IntKind.i64.wrap (x30 + 1)), z34), h, .cut 4 (bl Z) (bl Z) (sS Z <| sS Z <| sS Z <| sS Z <| sS Z <| sS Z <| sS Z <| sS Z <| sZ) Z (zeN Z (zeN Z (zeN Z (zeN zeP Z))))⟩
      ·rw [if_neg (zaH c31)] at h
       refine Sem.exit mix <| nx <| ⟨_, _, .refl, fun _ => ?_, fun hh => absurd Z hh⟩
       refine nx <| nx <| rq O <| o (d := (I 3)) (bo Z) Z <| m Z <| nl <| nx <| SemL.succ ?_
       try unfold A7xl1
       refine sq <| rq O <| o (d := (B true)) (bo Z) Z <| nl <| nx <| sq <| Sem.cond Z (fun _ => ?_) (fun hh => by cases hh)
       refine Sem.skip mix <| nx <| sq <| Sem.block <| sq <| rq O <| m Z <| o (d := (.ptr 2 3 9)) (op_idxS Z Z Z Z Z) Z <| l (d := (.fn (.func 24) [(.c (.fptr (zaa.enc o4) 0))] [])) Z <| m Z <| m Z <| nl <| nx <| sq <| rq O <| m Z <| ?_
       obtain ⟨r37, e38, h⟩ := bs h
       refine o (d := (SL zah r37)) (op_callf Z Z (zaS Z Z Z (audit_checker_job_eq e38) Z)) Z <| o (d := (I (r37.length : Int))) (zaA Z) Z <| m Z <| nl <| nx <| Sem.block <| Sem.rounds (V := Int × (List zae)) (fun ((x40, y39) : Int × (List zae)) => [(9, (OS 2 3 y39.length)), (10, (I 3)), (41, (.sl 2 0 9 1 9)), (42, (I 9)), (43, (I 3)), (49, (SL zah r37)), (50, (I (r37.length : Int))), (51, (I x40))]) (fun ((x40, y39) : Int × (List zae)) => [cm (zab.enc p0), cm (zag.enc p1), .cells [(.fn (.func 21) [(.c (.fptr (zaa.enc o4) 0))] []), (.fn (.func 22) [(.c (.fptr (zaa.enc o4) 0))] []), (.fn (.func 23) [(.c (.fptr (zaa.enc o4) 0))] []), (.fn (.func 24) [(.c (.fptr (zaa.enc o4) 0))] []), (.fn (.func 25) [(.c (.fptr (zaa.enc o4) 0))] []), (.fn (.func 26) [(.c (.fptr (zaa.enc o4) 0))] []), (.fn (.func 27) [(.c (.fptr (zaa.enc o4) 0))] []), (.fn (.func 28) [(.c (.fptr (zaa.enc o4) 0))] []), (.fn (.func 29) [(.c (.fptr (zaa.enc o4) 0))] [])], OB zae.enc y39]) (fun k v => zdG N o4 r37 k v.1 v.2 = some r) N (0, y29) h (fun v h => by unfold zdG at h; cases h) ?_ (sS Z <| sS Z <| sS Z <| sS Z <| sS Z <| sS Z <| sS Z <| sS Z <| sZ) Z
       intro kL3 v h
       obtain ⟨x40, y39⟩ := v
       try dsimp only at h ⊢
       unfold zdG at h
       try unfold A7xl0
       refine sq <| rq O <| o (d := (B (decide (x40 < (r37.length : Int))))) (bo Z) Z <| nl <| nx <| sq <| Sem.cond Z (fun c41 => ?_) (fun c41 => ?_)
       ·rw [if_pos c41] at h
        refine Sem.skip mix <| nx <| sq <| Sem.block <| sq <| rq O ?_
        obtain ⟨a42, e43, h⟩ := bs h
        refine o (zaF Z Z e43 Z) Z <| o (d := (I a42)) (zal Z Z) Z <| m Z <| nl <| nx <| rq O <| m Z <| m Z <| o (d := (I 4)) (bo Z) Z <| m Z <| o (d := (.agg [I 4, I a42])) (zbB (by kernel_rfl)) Z <| o (d := (OS 2 4 1)) (σ1 := [cm (zab.enc p0), cm (zag.enc p1), .cells [(.fn (.func 21) [(.c (.fptr (zaa.enc o4) 0))] []), (.fn (.func 22) [(.c (.fptr (zaa.enc o4) 0))] []), (.fn (.func 23) [(.c (.fptr (zaa.enc o4) 0))] []), (.fn (.func 24) [(.c (.fptr (zaa.enc o4) 0))] []), (.fn (.func 25) [(.c (.fptr (zaa.enc o4) 0))] []), (.fn (.func 26) [(.c (.fptr (zaa.enc o4) 0))] []), (.fn (.func 27) [(.c (.fptr (zaa.enc o4) 0))] []), (.fn (.func 28) [(.c (.fptr (zaa.enc o4) 0))] []), (.fn (.func 29) [(.c (.fptr (zaa.enc o4) 0))] [])], OB zae.enc y39, OB zae.enc ([({ What := 4, Where := a42 } : zae)] : List zae)]) (zaL (f := zae.enc) (l := ([({ What := 4, Where := a42 } : zae)] : List zae)) (cs := ((([({ What := 4, Where := a42 } : zae)] : List zae)).flatMap zae.enc).map .c) (by kernel_rfl) Z Z (fun _ => Z) Z Z Z) Z <| ?_
        obtain ⟨z44, e45, h⟩ := bs h
        refine o (d := (OS 2 3 z44.length)) (σ1 := [cm (zab.enc p0), cm (zag.enc p1), .cells [(.fn (.func 21) [(.c (.fptr (zaa.enc o4) 0))] []), (.fn (.func 22) [(.c (.fptr (zaa.enc o4) 0))] []), (.fn (.func 23) [(.c (.fptr (zaa.enc o4) 0))] []), (.fn (.func 24) [(.c (.fptr (zaa.enc o4) 0))] []), (.fn (.func 25) [(.c (.fptr (zaa.enc o4) 0))] []), (.fn (.func 26) [(.c (.fptr (zaa.enc o4) 0))] []), (.fn (.func 27) [(.c (.fptr (zaa.enc o4) 0))] []), (.fn (.func 28) [(.c (.fptr (zaa.enc o4) 0))] []), (.fn (.func 29) [(.c (.fptr (zaa.enc o4) 0))] [])], OB zae.enc z44, OB zae.enc ([({ What := 4, Where := a42 } : zae)] : List zae)]) (zcU (f := zae.enc) (fun _ => Z) Z Z Z Z (zeL (fun _ => Z) Z (by simp)) e45 Z Z Z) Z <| m Z <| nl <| nx <| nx <| rq O <| o (d := (I (IntKind.i64.wrap (x40 + 1)))) (bo Z) Z <| m Z <| nl ?_
        exact ⟨((IntKind.i64.wrap (x40 + 1)), z44), h, .cut 4 (bl Z) (bl Z) (sS Z <| sS Z <| sS Z <| sS Z <| sS Z <| sS Z <| sS Z <| sS Z <| sZ) Z (zeN Z (zeN Z (zeN Z (zeN zeP Z))))⟩
       ·rw [if_neg (zaH c41)] at h
        refine Sem.exit mix <| nx <| ⟨_, _, .refl, fun _ => ?_, fun hh => absurd Z hh⟩
        refine nx <| nx <| rq O <| o (d := (I 4)) (bo Z) Z <| m Z <| nl <| nx <| SemL.succ ?_
        try unfold A7xl1
        refine sq <| rq O <| o (d := (B true)) (bo Z) Z <| nl <| nx <| sq <| Sem.cond Z (fun _ => ?_) (fun hh => by cases hh)
        refine Sem.skip mix <| nx <| sq <| Sem.block <| sq <| rq O <| m Z <| o (d := (.ptr 2 4 9)) (op_idxS Z Z Z Z Z) Z <| l (d := (.fn (.func 25) [(.c (.fptr (zaa.enc o4) 0))] [])) Z <| m Z <| m Z <| nl <| nx <| sq <| rq O <| m Z <| ?_
        obtain ⟨r47, e48, h⟩ := bs h
        refine o (d := (SL zah r47)) (op_callf Z Z (zaS Z Z Z (audit_checker_alloc_eq e48) Z)) Z <| o (d := (I (r47.length : Int))) (zaA Z) Z <| m Z <| nl <| nx <| Sem.block <| Sem.rounds (V := Int × (List zae)) (fun ((x50, y49) : Int × (List zae)) => [(9, (OS 2 3 y49.length)), (10, (I 4)), (41, (.sl 2 0 9 1 9)), (42, (I 9)), (43, (I 4)), (49, (SL zah r47)), (50, (I (r47.length : Int))), (51, (I x50))]) (fun ((x50, y49) : Int × (List zae)) => [cm (zab.enc p0), cm (zag.enc p1), .cells [(.fn (.func 21) [(.c (.fptr (zaa.enc o4) 0))] []), (.fn (.func 22) [(.c (.fptr (zaa.enc o4) 0))] []), (.fn (.func 23) [(.c (.fptr (zaa.enc o4) 0))] []), (.fn (.func 24) [(.c (.fptr (zaa.enc o4) 0))] []), (.fn (.func 25) [(.c (.fptr (zaa.enc o4) 0))] []), (.fn (.func 26) [(.c (.fptr (zaa.enc o4) 0))] []), (.fn (.func 27) [(.c (.fptr (zaa.enc o4) 0))] []), (.fn (.func 28) [(.c (.fptr (zaa.enc o4) 0))] []), (.fn (.func 29) [(.c (.fptr (zaa.enc o4) 0))] [])], OB zae.enc y49]) (fun k v => zdI N o4 r47 k v.1 v.2 = some r) N (0, y39) h (fun v h => by unfold zdI at h; cases h) ?_ (sS Z <| sS Z <| sS Z <| sS Z <| sS Z <| sS Z <| sS Z <| sS Z <| sZ) Z
        intro kL4 v h
        obtain ⟨x50, y49⟩ := v
        try dsimp only at h ⊢
        unfold zdI at h
        try unfold A7xl0
        refine sq <| rq O <| o (d := (B (decide (x50 < (r47.length : Int))))) (bo Z) Z <| nl <| nx <| sq <| Sem.cond Z (fun c51 => ?_) (fun c51 => ?_)
        ·rw [if_pos c51] at h
         refine Sem.skip mix <| nx <| sq <| Sem.block <| sq <| rq O ?_
         obtain ⟨a52, e53, h⟩ := bs h
         refine o (zaF Z Z e53 Z) Z <| o (d := (I a52)) (zal Z Z) Z <| m Z <| nl <| nx <| rq O <| m Z <| m Z <| o (d := (I 5)) (bo Z) Z <| m Z <| o (d := (.agg [I 5, I a52])) (zbB (by kernel_rfl)) Z <| o (d := (OS 2 4 1)) (σ1 := [cm (zab.enc p0), cm (zag.enc p1), .cells [(.fn (.func 21) [(.c (.fptr (zaa.enc o4) 0))] []), (.fn (.func 22) [(.c (.fptr (zaa.enc o4) 0))] []), (.fn (.func 23) [(.c (.fptr (zaa.enc o4) 0))] []), (.fn (.func 24) [(.c (.fptr (zaa.enc o4) 0))] []), (.fn (.func 25) [(.c (.fptr (zaa.enc o4) 0))] []), (.fn (.func 26) [(.c (.fptr (zaa.enc o4) 0))] []), (.fn (.func 27) [(.c (.fptr (zaa.enc o4) 0))] []), (.fn (.func 28) [(.c (.fptr (zaa.enc o4) 0))] []), (.fn (.func 29) [(.c (.fptr (zaa.enc o4) 0))] [])], OB zae.enc y49, OB zae.enc ([({ What := 5, Where := a52 } : zae)] : List zae)]) (zaL (f := zae.enc) (l := ([({ What := 5, Where := a52 } : zae)] : List zae)) (cs := ((([({ What := 5, Where := a52 } : zae)] : List zae)).flatMap zae.enc).map .c) (by kernel_rfl) Z Z (fun _ => Z) Z Z Z) Z <| ?_
         obtain ⟨z54, e55, h⟩ := bs h
         refine o (d := (OS 2 3 z54.length)) (σ1 := [cm (zab.enc p0), cm (zag.enc p1), .cells [(.fn (.func 21) [(.c (.fptr (zaa.enc o4) 0))] []), (.fn (.func 22) [(.c (.fptr (zaa.enc o4) 0))] []), (.fn (.func 23) [(.c (.fptr (zaa.enc o4) 0))] []), (.fn (.func 24) [(.c (.fptr (zaa.enc o4) 0))] []), (.fn (.func 25) [(.c (.fptr (zaa.enc o4) 0))] []), (.fn (.func 26) [(.c (.fptr (zaa.enc o4) 0))] []), (.fn (.func 27) [(.c (.fptr (zaa.enc o4) 0))] []), (.fn (.func 28) [(.c (.fptr (zaa.enc o4) 0))] []), (.fn (.func 29) [(.c (.fptr (zaa.enc o4) 0))] [])], OB zae.enc z54, OB zae.enc ([({ What := 5, Where := a52 } : zae)] : List zae)]) (zcU (f := zae.enc) (fun _ => Z) Z Z Z Z (zeL (fun _ => Z) Z (by simp)) e55 Z Z Z) Z <| m Z <| nl <| nx <| nx <| rq O <| o (d := (I (IntKind.i64.wrap (x50 + 1)))) (bo Z) Z <| m Z <| nl ?_
         exact ⟨((IntKind.i64.wrap (x50 + 1)), z54), h, .cut 4 (bl Z) (bl Z) (sS Z <| sS Z <| sS Z <| sS Z <| sS Z <| sS Z <| sS Z <| sS Z <| sZ) Z (zeN Z (zeN Z (zeN Z (zeN zeP Z))))⟩
        ·rw [if_neg (zaH c51)] at h
         refine Sem.exit mix <| nx <| ⟨_, _, .refl, fun _ => ?_, fun hh => absurd Z hh⟩
         refine nx <| nx <| rq O <| o (d := (I 5)) (bo Z) Z <| m Z <| nl <| nx <| SemL.succ ?_
         try unfold A7xl1
         refine sq <| rq O <| o (d := (B true)) (bo Z) Z <| nl <| nx <| sq <| Sem.cond Z (fun _ => ?_) (fun hh => by cases hh)
         refine Sem.skip mix <| nx <| sq <| Sem.block <| sq <| rq O <| m Z <| o (d := (.ptr 2 5 9)) (op_idxS Z Z Z Z Z) Z <| l (d := (.fn (.func 26) [(.c (.fptr (zaa.enc o4) 0))] [])) Z <| m Z <| m Z <| nl <| nx <| sq <| rq O <| m Z <| ?_
         obtain ⟨r57, e58, h⟩ := bs h
         refine o (d := (SL zah r57)) (op_callf Z Z (zaS Z Z Z (audit_checker_queue_eq e58) Z)) Z <| o (d := (I (r57.length : Int))) (zaA Z) Z <| m Z <| nl <| nx <| Sem.block <| Sem.rounds (V := Int × (List zae)) (fun ((x60, y59) : Int × (List zae)) => [(9, (OS 2 3 y59.length)), (10, (I 5)), (41, (.sl 2 0 9 1 9)), (42, (I 9)), (43, (I 5)), (49, (SL zah r57)), (50, (I (r57.length : Int))), (51, (I x60))]) (fun ((x60, y59) : Int × (List zae)) => [cm (zab.enc p0), cm (zag.enc p1), .cells [(.fn (.func 21) [(.c (.fptr (zaa.enc o4) 0))] []), (.fn (.func 22) [(.c (.fptr (zaa.enc o4) 0))] []), (.fn (.func 23) [(.c (.fptr (zaa.enc o4) 0))] []), (.fn (.func 24) [(.c (.fptr (zaa.enc o4) 0))] []), (.fn (.func 25) [(.c (.fptr (zaa.enc o4) 0))] []), (.fn (.func 26) [(.c (.fptr (zaa.enc o4) 0))] []), (.fn (.func 27) [(.c (.fptr (zaa.enc o4) 0))] []), (.fn (.func 28) [(.c (.fptr (zaa.enc o4) 0))] []), (.fn (.func 29) [(.c (.fptr (zaa.enc o4) 0))] [])], OB zae.enc y59]) (fun k v => zdC N o4 r57 k v.1 v.2 = some r) N (0, y49) h (fun v h => by unfold zdC at h; cases h) ?_ (sS Z <| sS Z <| sS Z <| sS Z <| sS Z <| sS Z <| sS Z <| sS Z <| sZ) Z
         intro kL5 v h
         obtain ⟨x60, y59⟩ := v
         try dsimp only at h ⊢
         unfold zdC at h
         try unfold A7xl0
         refine sq <| rq O <| o (d := (B (decide (x60 < (r57.length : Int))))) (bo Z) Z <| nl <| nx <| sq <| Sem.cond Z (fun c61 => ?_) (fun c61 => ?_)
         ·rw [if_pos c61] at h
          refine Sem.skip mix <| nx <| sq <| Sem.block <| sq <| rq O ?_
          obtain ⟨a62, e63, h⟩ := bs h
          refine o (zaF Z Z e63 Z) Z <| o (d := (I a62)) (zal Z Z) Z <| m Z <| nl <| nx <| rq O <| m Z <| m Z <| o (d := (I 6)) (bo Z) Z <| m Z <| o (d := (.agg [I 6, I a62])) (zbB (by kernel_rfl)) Z <| o (d := (OS 2 4 1)) (σ1 := [cm (zab.enc p0), cm (zag.enc p1), .cells [(.fn (.func 21) [(.c (.fptr (zaa.enc o4) 0))] []), (.fn (.func 22) [(.c (.fptr (zaa.enc o4) 0))] []), (.fn (.func 23) [(.c (.fptr (zaa.enc o4) 0))] []), (.fn (.func 24) [(.c (.fptr (zaa.enc o4) 0))] []), (.fn (.func 25) [(.c (.fptr (zaa.enc o4) 0))] []), (.fn (.func 26) [(.c (.fptr (zaa.enc o4) 0))] []), (.fn (.func 27) [(.c (.fptr (zaa.enc o4) 0))] []), (.fn (.func 28) [(.c (.fptr (zaa.enc o4) 0))] []), (.fn (.func 29) [(.c (.fptr (zaa.enc o4) 0))] [])], OB zae.enc y59, OB zae.enc ([({ What := 6, Where := a62 } : zae)] : List zae)]) (zaL (f := zae.enc) (l := ([({ What := 6, Where := a62 } : zae)] : List zae)) (cs := ((([({ What := 6, Where := a62 } : zae)] : List zae)).flatMap zae.enc).map .c) (by kernel_rfl) Z Z (fun _ => Z) Z Z Z) Z <| ?_
          obtain ⟨z64, e65, h⟩ := bs h
          refine o (d := (OS 2 3 z64.length)) (σ1 := [cm (zab.enc p0), cm (zag.enc p1), .cells [(.fn (.func 21) [(.c (.fptr (zaa.enc o4) 0))] []), (.fn (.func 22) [(.c (.fptr (zaa.enc o4) 0))] []), (.fn (.func 23) [(.c (.fptr (zaa.enc o4) 0))] []), (.fn (.func 24) [(.c (.fptr (zaa.enc o4) 0))] []), (.fn (.func 25) [(.c (.fptr (zaa.enc o4) 0))] []), (.fn (.func 26) [(.c (.fptr (zaa.enc o4) 0))] []), (.fn (.func 27) [(.c (.fptr (zaa.enc o4) 0))] []), (.fn (.func 28) [(.c (.fptr (zaa.enc o4) 0))] []), (.fn (.func 29) [(.c (.fptr (zaa.enc o4) 0))] [])], OB zae.enc z64, OB zae.enc ([({ What := 6, Where := a62 } : zae)] : List zae)]) (zcU (f := zae.enc) (fun _ => Z) Z Z Z Z (zeL (fun _ => Z) Z (by simp)) e65 Z Z Z) Z <| m Z <| nl <| nx <| nx <| rq O <| o (d := (I (IntKind.i64.wrap (x60 + 1)))) (bo Z) Z <| m Z <| nl ?_
          exact ⟨((IntKind.i64.wrap (x60 + 1)), z64), h, .cut 4 (bl Z) (bl Z) (sS Z <| sS Z <| sS Z <| sS Z <| sS Z <| sS Z <| sS Z <| sS Z <| sZ) Z (zeN Z (zeN Z (zeN Z (zeN zeP Z))))⟩
         ·rw [if_neg (zaH c61)] at h
          refine Sem.exit mix <| nx <| ⟨_, _, .refl, fun _ => ?_, fun hh => absurd Z hh⟩
          refine nx <| nx <| rq O <| o (d := (I 6)) (bo Z) Z <| m Z <| nl <| nx <| SemL.succ ?_
          try unfold A7xl1
          refine sq <| rq O <| o (d := (B true)) (bo Z) Z <| nl <| nx <| sq <| Sem.cond Z (fun _ => ?_) (fun hh => by cases hh)
          refine Sem.skip mix <| nx <| sq <| Sem.block <| sq <| rq O <| m Z <| o (d := (.ptr 2 6 9)) (op_idxS Z Z Z Z Z) Z <| l (d := (.fn (.func 27) [(.c (.fptr (zaa.enc o4) 0))] [])) Z <| m Z <| m Z <| nl <| nx <| sq <| rq O <| m Z <| ?_
          obtain ⟨r67, e68, h⟩ := bs h
          refine o (d := (SL zah r67)) (op_callf Z Z (zaS Z Z Z (audit_checker_user_eq e68) Z)) Z <| o (d := (I (r67.length : Int))) (zaA Z) Z <| m Z <| nl <| nx <| Sem.block <| Sem.rounds (V := Int × (List zae)) (fun ((x70, y69) : Int × (List zae)) => [(9, (OS 2 3 y69.length)), (10, (I 6)), (41, (.sl 2 0 9 1 9)), (42, (I 9)), (43, (I 6)), (49, (SL zah r67)), (50, (I (r67.length : Int))), (51, (I x70))]) (fun ((x70, y69) : Int × (List zae)) => [cm (zab.enc p0), cm (zag.enc p1), .cells [(.fn (.func 21) [(.c (.fptr (zaa.enc o4) 0))] []), (.fn (.func 22) [(.c (.fptr (zaa.enc o4) 0))] []), (.fn (.func 23) [(.c (.fptr (zaa.enc o4) 0))] []), (.fn (.func 24) [(.c (.fptr (zaa.enc o4) 0))] []), (.fn (.func 25) [(.c (.fptr (zaa.enc o4) 0))] []), (.fn (.func 26) [(.c (.fptr (zaa.enc o4) 0))] []), (.fn (.func 27) [(.c (.fptr (zaa.enc o4) 0))] []), (.fn (.func 28) [(.c (.fptr (zaa.enc o4) 0))] []), (.fn (.func 29) [(.c (.fptr (zaa.enc o4) 0))] [])], OB zae.enc y69]) (fun k v => zen N o4 r67 k v.1 v.2 = some r) N (0, y59) h (fun v h => by unfold zen at h; cases h) ?_ (sS Z <| sS Z <| sS Z <| sS Z <| sS Z <| sS Z <| sS Z <| sS Z <| sZ) Z
          intro kL6 v h
          obtain ⟨x70, y69⟩ := v
          try dsimp only at h ⊢
          unfold zen at h
          try unfold A7xl0
          refine sq <| rq O <| o (d := (B (decide (x70 < (r67.length : Int))))) (bo Z) Z <| nl <| nx <| sq <| Sem.cond Z (fun c71 => ?_) (fun c71 => ?_)
          ·rw [if_pos c71] at h
           refine Sem.skip mix <| nx <| sq <| Sem.block <| sq <| rq O ?_
           obtain ⟨a72, e73, h⟩ := bs h
           refine o (zaF Z Z e73 Z) Z <| o (d := (I a72)) (zal Z Z) Z <| m Z <| nl <| nx <| rq O <| m Z <| m Z <| o (d := (I 7)) (bo Z) Z <| m Z <| o (d := (.agg [I 7, I a72])) (zbB (by kernel_rfl)) Z <| o (d := (OS 2 4 1)) (σ1 := [cm (zab.enc p0), cm (zag.enc p1), .cells [(.fn (.func 21) [(.c (.fptr (zaa.enc o4) 0))] []), (.fn (.func 22) [(.c (.fptr (zaa.enc o4) 0))] []), (.fn (.func 23) [(.c (.fptr (zaa.enc o4) 0))] []), (.fn (.func 24) [(.c (.fptr (zaa.enc o4) 0))] []), (.fn (.func 25) [(.c (.fptr (zaa.enc o4) 0))] []), (.fn (.func 26) [(.c (.fptr (zaa.enc o4) 0))] []), (.fn (.func 27) [(.c (.fptr (zaa.enc o4) 0))] []), (.fn (.func 28) [(.c (.fptr (zaa.enc o4) 0))] []), (.fn (.func 29) [(.c (.fptr (zaa.enc o4) 0))] [])], OB zae.enc y69, OB zae.enc ([({ What := 7, Where := a72 } : zae)] : List zae)]) (zaL (f := zae.enc) (l := ([({ What := 7, Where := a72 } : zae)] : List zae)) (cs := ((([({ What := 7, Where := a72 } : zae)] : List zae)).flatMap zae.enc).map .c) (by kernel_rfl) Z Z (fun _ => Z) Z Z Z) Z <| ?_
           obtain ⟨z74, e75, h⟩ := bs h
           refine o (d := (OS 2 3 z74.length)) (σ1 := [cm (zab.enc p0), cm (zag.enc p1), .cells [(.fn (.func 21) [(.c (.fptr (zaa.enc o4) 0))] []), (.fn (.func 22) [(.c (.fptr (zaa.enc o4) 0))] []), (.fn (.func 23) [(.c (.fptr (zaa.enc o4) 0))] []), (.fn (.func 24) [(.c (.fptr (zaa.enc o4) 0))] []), (.fn (.func 25) [(.c (.fptr (zaa.enc o4) 0))] []), (.fn (.func 26) [(.c (.fptr (zaa.enc o4) 0))] []), (.fn (.func 27) [(.c (.fptr (zaa.enc o4) 0))] []), (.fn (.func 28) [(.c (.fptr (zaa.enc o4) 0))] []), (.fn (.func 29) [(.c (.fptr (zaa.enc o4) 0))] [])], OB zae.enc z74, OB zae.enc ([({ What := 7, Where := a72 } : zae)] : List zae)]) (zcU (f := zae.enc) (fun _ => Z) Z Z Z Z (zeL (fun _ => Z) Z (by simp)) e75 Z Z Z) Z <| m Z <| nl <| nx <| nx <| rq O <| o (d := (I (IntKind.i64.wrap (x70 + 1)))) (bo Z) Z <| m Z <| nl ?_
           exact ⟨((IntKind.i64.wrap (x70 + 1)), z74), h, .cut 4 (bl Z) (bl Z) (sS Z <| sS Z <| sS Z <| sS Z <| sS Z <| sS Z <| sS Z <| sS Z <| sZ) Z (zeN Z (zeN Z (zeN Z (zeN zeP Z))))⟩
          ·rw [if_neg (zaH c71)] at h
           refine Sem.exit mix <| nx <| ⟨_, _, .refl, fun _ => ?_, fun hh => absurd Z hh⟩
           refine nx <| nx <| rq O <| o (d := (I 7)) (bo Z) Z <| m Z <| nl <| nx <| SemL.succ ?_
           try unfold A7xl1
           refine sq <| rq O <| o (d := (B true)) (bo Z) Z <| nl <| nx <| sq <| Sem.cond Z (fun _ => ?_) (fun hh => by cases hh)
           refine Sem.skip mix <| nx <| sq <| Sem.block <| sq <| rq O <| m Z <| o (d := (.ptr 2 7 9)) (op_idxS Z Z Z Z Z) Z <| l (d := (.fn (.func 28) [(.c (.fptr (zaa.enc o4) 0))] [])) Z <| m Z <| m Z <| nl <| nx <| sq <| rq O <| m Z <| ?_
           obtain ⟨r77, e78, h⟩ := bs h
           refine o (d := (SL zah r77)) (op_callf Z Z (zaS Z Z Z (audit_checker_after_eq e78) Z)) Z <| o (d := (I (r77.length : Int))) (zaA Z) Z <| m Z <| nl <| nx <| Sem.block <| Sem.rounds (V := Int × (List zae)) (fun ((x80, y79) : Int × (List zae)) => [(9, (OS 2 3 y79.length)), (10, (I 7)), (41, (.sl 2 0 9 1 9)), (42, (I 9)), (43, (I 7)), (49, (SL zah r77)), (50, (I (r77.length : Int))), (51, (I x80))]) (fun ((x80, y79) : Int × (List zae)) => [cm (zab.enc p0), cm (zag.enc p1), .cells [(.fn (.func 21) [(.c (.fptr (zaa.enc o4) 0))] []), (.fn (.func 22) [(.c (.fptr (zaa.enc o4) 0))] []), (.fn (.func 23) [(.c (.fptr (zaa.enc o4) 0))] []), (.fn (.func 24) [(.c (.fptr (zaa.enc o4) 0))] []), (.fn (.func 25) [(.c (.fptr (zaa.enc o4) 0))] []), (.fn (.func 26) [(.c (.fptr (zaa.enc o4) 0))] []), (.fn (.func 27) [(.c (.fptr (zaa.enc o4) 0))] []), (.fn (.func 28) [(.c (.fptr (zaa.enc o4) 0))] []), (.fn (.func 29) [(.c (.fptr (zaa.enc o4) 0))] [])], OB zae.enc y79]) (fun k v => zej N o4 r77 k v.1 v.2 = some r) N (0, y69) h (fun v h => by unfold zej at h; cases h) ?_ (sS Z <| sS Z <| sS Z <| sS Z <| sS Z <| sS Z <| sS Z <| sS Z <| sZ) Z
           intro kL7 v h
           obtain ⟨x80, y79⟩ := v
           try dsimp only at h ⊢
           unfold zej at h
           try unfold A7xl0
           refine sq <| rq O <| o (d := (B (decide (x80 < (r77.length : Int))))) (bo Z) Z <| nl <| nx <| sq <| Sem.cond Z (fun c81 => ?_) (fun c81 => ?_)
           ·rw [if_pos c81] at h
            refine Sem.skip mix <| nx <| sq <| Sem.block <| sq <| rq O ?_
            obtain ⟨a82, e83, h⟩ := bs h
            refine o (zaF Z Z e83 Z) Z <| o (d := (I a82)) (zal Z Z) Z <| m Z <| nl <| nx <| rq O <| m Z <| m Z <| o (d := (I 8)) (bo Z) Z <| m Z <| o (d := (.agg [I 8, I a82])) (zbB (by kernel_rfl)) Z <| o (d := (OS 2 4 1)) (σ1 := [cm (zab.enc p0), cm (zag.enc p1), .cells [(.fn (.func 21) [(.c (.fptr (zaa.enc o4) 0))] []), (.fn (.func 22) [(.c (.fptr (zaa.enc o4) 0))] []), (.fn (.func 23) [(.c (.fptr (zaa.enc o4) 0))] []), (.fn (.func 24) [(.c (.fptr (zaa.enc o4) 0))] []), (.fn (.func 25) [(.c (.fptr (zaa.enc o4) 0))] []), (.fn (.func 26) [(.c (.fptr (zaa.enc o4) 0))] []), (.fn (.func 27) [(.c (.fptr (zaa.enc o4) 0))] []), (.fn (.func 28) [(.c (.fptr (zaa.enc o4) 0))] []), (.fn (.func 29) [(.c (.fptr (zaa.enc o4) 0))] [])], OB zae.enc y79, OB zae.enc ([({ What := 8, Where := a82 } : zae)] : List zae)]) (zaL (f := zae.enc) (l := ([({ What := 8, Where := a82 } : zae)] : List zae)) (cs := ((([({ What := 8, Where := a82 } : zae)] : List zae)).flatMap zae.enc).map .c) (by kernel_rfl) Z Z (fun _ => Z) Z Z Z) Z <| ?_
            obtain ⟨z84, e85, h⟩ := bs h
            refine o (d := (OS 2 3 z84.length)) (σ1 := [cm (zab.enc p0), cm (zag.enc p1), .cells [(.fn (.func 21) [(.c (.fptr (zaa.enc o4) 0))] []), (.fn (.func 22) [(.c (.fptr (zaa.enc o4) 0))] []), (.fn (.func 23) [(.c (.fptr (zaa.enc o4) 0))] []), (.fn (.func 24) [(.c (.fptr (zaa.enc o4) 0))] []), (.fn (.func 25) [(.c (.fptr (zaa.enc o4) 0))] []), (.fn (.func 26) [(.c (.fptr (zaa.enc o4) 0))] []), (.fn (.func 27) [(.c (.fptr (zaa.enc o4) 0))] []), (.fn (.func 28) [(.c (.fptr (zaa.enc o4) 0))] []), (.fn (.func 29) [(.c (.fptr (zaa.enc o4) 0))] [])], OB zae.enc z84, OB zae.enc ([({ What := 8, Where := a82 } : zae)] : List zae)]) (zcU (f := zae.enc) (fun _ => Z) Z Z Z Z (zeL (fun _ => Z) Z (by simp)) e85 Z Z Z) Z <| m Z <| nl <| nx <| nx <| rq O <| o (d := (I (IntKind.i64.wrap (x80 + 1)))) (bo Z) Z <| m Z <| nl ?_
            exact ⟨((IntKind.i64.wrap (x80 + 1)), z84), h, .cut 4 (bl Z) (bl Z) (sS Z <| sS Z <| sS Z <| sS Z <| sS Z <| sS Z <| sS Z <| sS Z <| sZ) Z (zeN Z (zeN Z (zeN Z (zeN zeP Z))))⟩
           ·rw [if_neg (zaH c81)] at h
            refine Sem.exit mix <| nx <| ⟨_, _, .refl, fun _ => ?_, fun hh => absurd Z hh⟩
            refine nx <| nx <| rq O <| o (d := (I 8)) (bo Z) Z <| m Z <| nl <| nx <| SemL.succ ?_
            try unfold A7xl1
            refine sq <| rq O <| o (d := (B true)) (bo Z) Z <| nl <| nx <| sq <| Sem.cond Z (fun _ => ?_) (fun hh => by cases hh)
            refine Sem.skip mix <| nx <| sq <| Sem.block <| sq <| rq O <| m Z <| o (d := (.ptr 2 8 9)) (op_idxS Z Z Z Z Z) Z <| l (d := (.fn (.func 29) [(.c (.fptr (zaa.enc o4) 0))] [])) Z <| m Z <| m Z <| nl <| nx <| sq <| rq O <| m Z <| ?_
            obtain ⟨r87, e88, h⟩ := bs h
            refine o (d := (SL zah r87)) (op_callf Z Z (zaS Z Z Z (audit_checker_use_eq e88) Z)) Z <| o (d := (I (r87.length : Int))) (zaA Z) Z <| m Z <| nl <| nx <| Sem.block <| Sem.rounds (V := Int × (List zae)) (fun ((x90, y89) : Int × (List zae)) => [(9, (OS 2 3 y89.length)), (10, (I 8)), (41, (.sl 2 0 9 1 9)), (42, (I 9)), (43, (I 8)), (49, (SL zah r87)), (50, (I (r87.length : Int))), (51, (I x90))]) (fun ((x90, y89) : Int × (List zae)) => [cm (zab.enc p0), cm (zag.enc p1), .cells [(.fn (.func 21) [(.c (.fptr (zaa.enc o4) 0))] []), (.fn (.func 22) [(.c (.fptr (zaa.enc o4) 0))] []), (.fn (.func 23) [(.c (.fptr (zaa.enc o4) 0))] []), (.fn (.func 24) [(.c (.fptr (zaa.enc o4) 0))] []), (.fn (.func 25) [(.c (.fptr (zaa.enc o4) 0))] []), (.fn (.func 26) [(.c (.fptr (zaa.enc o4) 0))] []), (.fn (.func 27) [(.c (.fptr (zaa.enc o4) 0))] []), (.fn (.func 28) [(.c (.fptr (zaa.enc o4) 0))] []), (.fn (.func 29) [(.c (.fptr (zaa.enc o4) 0))] [])], OB zae.enc y89]) (fun k v => zdH N r87 k v.1 v.2 = some r) N (0, y79) h (fun v h => by unfold zdH at h; cases h) ?_ (sS Z <| sS Z <| sS Z <| sS Z <| sS Z <| sS Z <| sS Z <| sS Z <| sZ) Z
            intro kL8 v h
            obtain ⟨x90, y89⟩ := v
            try dsimp only at h ⊢
            unfold zdH at h
            try unfold A7xl0
            refine sq <| rq O <| o (d := (B (decide (x90 < (r87.length : Int))))) (bo Z) Z <| nl <| nx <| sq <| Sem.cond Z (fun c91 => ?_) (fun c91 => ?_)
            ·rw [if_pos c91] at h
             refine Sem.skip mix <| nx <| sq <| Sem.block <| sq <| rq O ?_
             obtain ⟨a92, e93, h⟩ := bs h
             refine o (zaF Z Z e93 Z) Z <| o (d := (I a92)) (zal Z Z) Z <| m Z <| nl <| nx <| rq O <| m Z <| m Z <| o (d := (I 9)) (bo Z) Z <| m Z <| o (d := (.agg [I 9, I a92])) (zbB (by kernel_rfl)) Z <| o (d := (OS 2 4 1)) (σ1 := [cm (zab.enc p0), cm (zag.enc p1), .cells [(.fn (.func 21) [(.c (.fptr (zaa.enc o4) 0))] []), (.fn (.func 22) [(.c (.fptr (zaa.enc o4) 0))] []), (.fn (.func 23) [(.c (.fptr (zaa.enc o4) 0))] []), (.fn (.func 24) [(.c (.fptr (zaa.enc o4) 0))] []), (.fn (.func 25) [(.c (.fptr (zaa.enc o4) 0))] []), (.fn (.func 26) [(.c (.fptr (zaa.enc o4) 0))] []), (.fn (.func 27) [(.c (.fptr (zaa.enc o4) 0))] []), (.fn (.func 28) [(.c (.fptr (zaa.enc o4) 0))] []), (.fn (.func 29) [(.c (.fptr (zaa.enc o4) 0))] [])], OB zae.enc y89, OB zae.enc ([({ What := 9, Where := a92 } : zae)] : List zae)]) (zaL (f := zae.enc) (l := ([({ What := 9, Where := a92 } : zae)] : List zae)) (cs := ((([({ What := 9, Where := a92 } : zae)] : List zae)).flatMap zae.enc).map .c) (by kernel_rfl) Z Z (fun _ => Z) Z Z Z) Z <| ?_
             obtain ⟨z94, e95, h⟩ := bs h
             refine o (d := (OS 2 3 z94.length)) (σ1 := [cm (zab.enc p0), cm (zag.enc p1), .cells [(.fn (.func 21) [(.c (.fptr (zaa.enc o4) 0))] []), (.fn (.func 22) [(.c (.fptr (zaa.enc o4) 0))] []), (.fn (.func 23) [(.c (.fptr (zaa.enc o4) 0))] []), (.fn (.func 24) [(.c (.fptr (zaa.enc o4) 0))] []), (.fn (.func 25) [(.c (.fptr (zaa.enc o4) 0))] []), (.fn (.func 26) [(.c (.fptr (zaa.enc o4) 0))] []), (.fn (.func 27) [(.c (.fptr (zaa.enc o4) 0))] []), (.fn (.func 28) [(.c (.fptr (zaa.enc o4) 0))] []), (.fn (.func 29) [(.c (.fptr (zaa.enc o4) 0))] [])], OB zae.enc z94, OB zae.enc ([({ What := 9, Where := a92 } : zae)] : List zae)]) (zcU (f := zae.enc) (fun _ => Z) Z Z Z Z (zeL (fun _ => Z) Z (by simp)) e95 Z Z Z) Z <| m Z <| nl <| nx <| nx <| rq O <| o (d := (I (IntKind.i64.wrap (x90 + 1)))) (bo Z) Z <| m Z <| nl ?_
             exact ⟨((IntKind.i64.wrap (x90 + 1)), z94), h, .cut 4 (bl Z) (bl Z) (sS Z <| sS Z <| sS Z <| sS Z <| sS Z <| sS Z <| sS Z <| sS Z <| sZ) Z (zeN Z (zeN Z (zeN Z (zeN zeP Z))))⟩
            ·rw [if_neg (zaH c91)] at h
             refine Sem.exit mix <| nx <| ⟨_, _, .refl, fun _ => ?_, fun hh => absurd Z hh⟩
             refine nx <| nx <| rq O <| o (d := (I 9)) (bo Z) Z <| m Z <| nl <| nx <| SemL.succ ?_
             try unfold A7xl1
             refine sq <| rq O <| o (d := (B false)) (bo Z) Z <| nl <| nx <| sq <| Sem.cond Z (fun hh => by cases hh) (fun _ => ?_)
             refine Sem.exit mix <| nx <| ⟨_, _, .refl, fun _ => ?_, fun hh => absurd Z hh⟩
             refine nx <| sq <| rq O <| m Z <| m Z <| m Z <| nl <| nx <| Sem.ret mix ?_
             cases h
             exact ⟨.inr Z, _, _, Z, (frz_tup (zb2 (frz1xown (fun _ => Z) (bl Z) Z Z) (zb2 Z Z))), DLe.of_nrm Z⟩
noncomputable def F7 (N : Nat) : List D → Option D := spec (A := zab × zag) (R := ((List zae) × Int)) (fun a => [(ST (zab.enc a.1)), (ST (zag.enc a.2))]) (fun r => (.tup [(SL zae.enc r.1), I r.2])) (fun a => ze8 N a.1 a.2)
theorem K7 (N : Nat) : ∀ ds r, F7 N ds = some r → za9 Tryd.prog 7 ds r := zav fun a r h => audit_Check_ok N a.1 a.2 r h
theorem audit_Check_eq {N : Nat} {p0 : zab} {p1 : zag} {r : ((List zae) × Int)} (h : ze8 N p0 p1 = some r) : F7 N [(ST (zab.enc p0)), (ST (zag.enc p1))] = some (.tup [(SL zae.enc r.1), I r.2]) := zaw (a := (p0, p1)) (ij2 (zbx zab.inj) (zbx zag.inj)) h
noncomputable def S8 (N : Nat) : za1 := []
theorem O8 (N : Nat) : zaO Tryd.prog (zat (S8 N)) := zap (zaj.nil)
theorem drayageref23xNew_ok (N : Nat) (p0 : zab) (r : zag) (h : ze0 N p0 = some r) : za9 Tryd.prog 8 [(ST (zab.enc p0))] (ST (zag.enc r)) := by
  have O := And.intro mix (O8 N)
  refine zan Tryd.func8 (by kernel_rfl) C8 (bl Z) ?_
  unfold ze0 at h
  unfold A8
  dsimp only [zbc]
  refine sq <| rq O <| o (d := (.ptr 0 0 18)) (σ1 := [cm (zab.enc p0)]) (zba Z Z Z Z) Z <| o (d := (.ptr 1 0 9)) (σ1 := [cm (zab.enc p0), .cells [I 0, I 0, I 0, sn, sn, sn, sn, sn, I 0]]) (zaG Z Z) Z <| nl <| nx <| sq <| rq O <| o (d := (.agg [I 0, I 1, I 1, sn, sn, sn, sn, sn, I 0])) (zbB (by kernel_rfl)) Z <| o (d := (.ptr 2 0 9)) (σ1 := [cm (zab.enc p0), .cells [I 0, I 0, I 0, sn, sn, sn, sn, sn, I 0], .cells [I 0, I 0, I 0, sn, sn, sn, sn, sn, I 0]]) (zaG Z Z) Z <| st (σ1 := [cm (zab.enc p0), .cells [I 0, I 0, I 0, sn, sn, sn, sn, sn, I 0], .cells [I 0, I 1, I 1, sn, sn, sn, sn, sn, I 0]]) Z <| nl <| nx <| sq <| rq O <| o (d := (.ptr 0 3 18)) (zaf Z) Z <| l (d := (I p0.Users)) Z <| ?_
  obtain ⟨z1, e2, h⟩ := bs h
  refine o (d := (OS 1 3 z1.length)) (σ1 := [cm (zab.enc p0), .cells [I 0, I 0, I 0, sn, sn, sn, sn, sn, I 0], .cells [I 0, I 1, I 1, sn, sn, sn, sn, sn, I 0], OB zah z1]) (op_mk (f := zah) (z := (0 : Int)) Z Z Z e2 Z Z Z) Z <| o (d := (.ptr 2 6 9)) (zaf Z) Z <| st (σ1 := [cm (zab.enc p0), .cells [I 0, I 0, I 0, sn, sn, sn, sn, sn, I 0], .cells [I 0, I 1, I 1, sn, sn, sn, (OS 1 3 z1.length), sn, I 0], OB zah z1]) Z <| nl <| nx <| sq <| rq O <| o (d := (.ptr 0 2 18)) (zaf Z) Z <| l (d := (SL zaq.enc p0.Queues)) Z <| o (d := (I (p0.Queues.length : Int))) (zaA Z) Z <| ?_
  obtain ⟨z3, e4, h⟩ := bs h
  refine o (d := (OS 1 4 z3.length)) (σ1 := [cm (zab.enc p0), .cells [I 0, I 0, I 0, sn, sn, sn, sn, sn, I 0], .cells [I 0, I 1, I 1, sn, sn, sn, (OS 1 3 z1.length), sn, I 0], OB zah z1, OB zah z3]) (op_mk (f := zah) (z := (0 : Int)) Z Z Z e4 Z Z Z) Z <| o (d := (.ptr 2 7 9)) (zaf Z) Z <| o (d := (.ptr 2 7 9)) (zaf Z) Z <| st (σ1 := [cm (zab.enc p0), .cells [I 0, I 0, I 0, sn, sn, sn, sn, sn, I 0], .cells [I 0, I 1, I 1, sn, sn, sn, (OS 1 3 z1.length), (OS 1 4 z3.length), I 0], OB zah z1, OB zah z3]) Z <| nl <| nx <| sq <| rq O <| l (d := (.agg [I 0, I 1, I 1, sn, sn, sn, (OS 1 3 z1.length), (OS 1 4 z3.length), I 0])) Z <| st (σ1 := [cm (zab.enc p0), .cells [I 0, I 1, I 1, sn, sn, sn, (OS 1 3 z1.length), (OS 1 4 z3.length), I 0], .cells [I 0, I 1, I 1, sn, sn, sn, (OS 1 3 z1.length), (OS 1 4 z3.length), I 0], OB zah z1, OB zah z3]) Z <| nl <| nx <| Sem.ret mix ?_
  cases h
  exact ⟨.inr Z, _, _, Z, (frz_agg (zb2 Z (zb2 Z (zb2 Z (zb2 Z (zb2 Z (zb2 Z (zb2 (frzC_own (k := 98) (fun _ => Z) (bl Z) Z Z) (zb2 (frzC_own (k := 98) (fun _ => Z) (bl Z) Z Z) (zb2 Z Z)))))))))), DLe.of_nrm Z⟩
noncomputable def F8 (N : Nat) : List D → Option D := spec (A := zab) (R := zag) (fun a => [(ST (zab.enc a))]) (fun r => (ST (zag.enc r))) (fun a => ze0 N a)
theorem K8 (N : Nat) : ∀ ds r, F8 N ds = some r → za9 Tryd.prog 8 ds r := zav fun a r h => drayageref23xNew_ok N a r h
theorem drayageref23xNew_eq {N : Nat} {p0 : zab} {r : zag} (h : ze0 N p0 = some r) : F8 N [(ST (zab.enc p0))] = some (ST (zag.enc r)) := zaw (a := p0) (ij1 (zbx zab.inj)) h
noncomputable def S9 (N : Nat) : za1 := []
theorem O9 (N : Nat) : zaO Tryd.prog (zat (S9 N)) := zap (zaj.nil)
theorem drayageref07xSmall_ok (N : Nat) (r : zab) (h : zdY N = some r) : za9 Tryd.prog 9 [] (ST (zab.enc r)) := by
  have O := And.intro mix (O9 N)
  refine zan Tryd.func9 (by kernel_rfl) C9 (bl Z) ?_
  unfold zdY at h
  unfold A9
  dsimp only [zbc]
  refine sq <| rq O <| o (d := (.ptr 0 0 18)) (σ1 := [.cells [sn, sn, sn, I 0, I 0, I 0, I 0, I 0, I 0, I 0, I 0, I 0, I 0, I 0, I 0, I 0, I 0, I 0]]) (zaG Z Z) Z <| nl <| nx <| sq <| rq O <| o (d := (.agg [sn, sn, sn, I 3, I 0, I 0, I 0, I 0, I 4, I 1, I 12, I 100, I 50, I 5, I 4, I 3, I 6, I 4])) (zbB (by kernel_rfl)) Z <| o (d := (.ptr 1 0 18)) (σ1 := [.cells [sn, sn, sn, I 0, I 0, I 0, I 0, I 0, I 0, I 0, I 0, I 0, I 0, I 0, I 0, I 0, I 0, I 0], .cells [sn, sn, sn, I 0, I 0, I 0, I 0, I 0, I 0, I 0, I 0, I 0, I 0, I 0, I 0, I 0, I 0, I 0]]) (zaG Z Z) Z <| st (σ1 := [.cells [sn, sn, sn, I 0, I 0, I 0, I 0, I 0, I 0, I 0, I 0, I 0, I 0, I 0, I 0, I 0, I 0, I 0], .cells [sn, sn, sn, I 3, I 0, I 0, I 0, I 0, I 4, I 1, I 12, I 100, I 50, I 5, I 4, I 3, I 6, I 4]]) Z <| nl <| nx <| sq <| rq O <| o (d := (.agg [I 4, I 8, I 0, I 1])) (zbB (by kernel_rfl)) Z <| o (d := (.agg [I 8, I 8, I 1, I 0])) (zbB (by kernel_rfl)) Z <| o (d := (OS 4 2 2)) (σ1 := [.cells [sn, sn, sn, I 0, I 0, I 0, I 0, I 0, I 0, I 0, I 0, I 0, I 0, I 0, I 0, I 0, I 0, I 0], .cells [sn, sn, sn, I 3, I 0, I 0, I 0, I 0, I 4, I 1, I 12, I 100, I 50, I 5, I 4, I 3, I 6, I 4], OB zac.enc ([({ Cpu := 4, Mem := 8, Gpu := 0, Lic := 1 } : zac), ({ Cpu := 8, Mem := 8, Gpu := 1, Lic := 0 } : zac)] : List zac)]) (zaL (f := zac.enc) (l := ([({ Cpu := 4, Mem := 8, Gpu := 0, Lic := 1 } : zac), ({ Cpu := 8, Mem := 8, Gpu := 1, Lic := 0 } : zac)] : List zac)) (cs := ((([({ Cpu := 4, Mem := 8, Gpu := 0, Lic := 1 } : zac), ({ Cpu := 8, Mem := 8, Gpu := 1, Lic := 0 } : zac)] : List zac)).flatMap zac.enc).map .c) (by kernel_rfl) Z Z (fun _ => Z) Z Z Z) Z <| o (d := (.ptr 1 0 18)) (zaf Z) Z <| st (σ1 := [.cells [sn, sn, sn, I 0, I 0, I 0, I 0, I 0, I 0, I 0, I 0, I 0, I 0, I 0, I 0, I 0, I 0, I 0], .cells [(OS 4 2 2), sn, sn, I 3, I 0, I 0, I 0, I 0, I 4, I 1, I 12, I 100, I 50, I 5, I 4, I 3, I 6, I 4], OB zac.enc ([({ Cpu := 4, Mem := 8, Gpu := 0, Lic := 1 } : zac), ({ Cpu := 8, Mem := 8, Gpu := 1, Lic := 0 } : zac)] : List zac)]) Z <| nl <| nx <| sq <| rq O <| o (d := (OS 1 3 2)) (σ1 := [.cells [sn, sn, sn, I 0, I 0, I 0, I 0, I 0, I 0, I 0, I 0, I 0, I 0, I 0, I 0, I 0, I 0, I 0], .cells [(OS 4 2 2), sn, sn, I 3, I 0, I 0, I 0, I 0, I 4, I 1, I 12, I 100, I 50, I 5, I 4, I 3, I 6, I 4], OB zac.enc ([({ Cpu := 4, Mem := 8, Gpu := 0, Lic := 1 } : zac), ({ Cpu := 8, Mem := 8, Gpu := 1, Lic := 0 } : zac)] : List zac), OB zah ([0, 1] : List Int)]) (zaL (f := zah) (l := ([0, 1] : List Int)) (cs := ((([0, 1] : List Int)).flatMap zah).map .c) (by kernel_rfl) Z Z (fun _ => Z) Z Z Z) Z <| o (d := (OS 1 4 1)) (σ1 := [.cells [sn, sn, sn, I 0, I 0, I 0, I 0, I 0, I 0, I 0, I 0, I 0, I 0, I 0, I 0, I 0, I 0, I 0], .cells [(OS 4 2 2), sn, sn, I 3, I 0, I 0, I 0, I 0, I 4, I 1, I 12, I 100, I 50, I 5, I 4, I 3, I 6, I 4], OB zac.enc ([({ Cpu := 4, Mem := 8, Gpu := 0, Lic := 1 } : zac), ({ Cpu := 8, Mem := 8, Gpu := 1, Lic := 0 } : zac)] : List zac), OB zah ([0, 1] : List Int), OB zah ([1] : List Int)]) (zaL (f := zah) (l := ([1] : List Int)) (cs := ((([1] : List Int)).flatMap zah).map .c) (by kernel_rfl) Z Z (fun _ => Z) Z Z Z) Z <| o (d := (.sl 5 0 2 1 2)) (σ1 := [.cells [sn, sn, sn, I 0, I 0, I 0, I 0, I 0, I 0, I 0, I 0, I 0, I 0, I 0, I 0, I 0, I 0, I 0], .cells [(OS 4 2 2), sn, sn, I 3, I 0, I 0, I 0, I 0, I 4, I 1, I 12, I 100, I 50, I 5, I 4, I 3, I 6, I 4], OB zac.enc ([({ Cpu := 4, Mem := 8, Gpu := 0, Lic := 1 } : zac), ({ Cpu := 8, Mem := 8, Gpu := 1, Lic := 0 } : zac)] : List zac), OB zah ([0, 1] : List Int), OB zah ([1] : List Int), .cells [(OS 1 3 2), (OS 1 4 1)]]) (op_bslice (by kernel_rfl) Z Z) Z <| o (d := (.ptr 1 1 18)) (zaf Z) Z <| st (σ1 := [.cells [sn, sn, sn, I 0, I 0, I 0, I 0, I 0, I 0, I 0, I 0, I 0, I 0, I 0, I 0, I 0, I 0, I 0], .cells [(OS 4 2 2), (.sl 5 0 2 1 2), sn, I 3, I 0, I 0, I 0, I 0, I 4, I 1, I 12, I 100, I 50, I 5, I 4, I 3, I 6, I 4], OB zac.enc ([({ Cpu := 4, Mem := 8, Gpu := 0, Lic := 1 } : zac), ({ Cpu := 8, Mem := 8, Gpu := 1, Lic := 0 } : zac)] : List zac), OB zah ([0, 1] : List Int), OB zah ([1] : List Int), .cells [(OS 1 3 2), (OS 1 4 1)]]) Z <| nl ?_
  refine nx <| sq <| rq O <| o (d := (.agg [I 0, sn, I 8, I 4, I 3, I 1])) (zbB (by kernel_rfl)) Z <| o (d := (.ptr 6 0 6)) (σ1 := [.cells [sn, sn, sn, I 0, I 0, I 0, I 0, I 0, I 0, I 0, I 0, I 0, I 0, I 0, I 0, I 0, I 0, I 0], .cells [(OS 4 2 2), (.sl 5 0 2 1 2), sn, I 3, I 0, I 0, I 0, I 0, I 4, I 1, I 12, I 100, I 50, I 5, I 4, I 3, I 6, I 4], OB zac.enc ([({ Cpu := 4, Mem := 8, Gpu := 0, Lic := 1 } : zac), ({ Cpu := 8, Mem := 8, Gpu := 1, Lic := 0 } : zac)] : List zac), OB zah ([0, 1] : List Int), OB zah ([1] : List Int), .cells [(OS 1 3 2), (OS 1 4 1)], .cells [I 0, sn, I 0, I 0, I 0, I 0]]) (zaG Z Z) Z <| st (σ1 := [.cells [sn, sn, sn, I 0, I 0, I 0, I 0, I 0, I 0, I 0, I 0, I 0, I 0, I 0, I 0, I 0, I 0, I 0], .cells [(OS 4 2 2), (.sl 5 0 2 1 2), sn, I 3, I 0, I 0, I 0, I 0, I 4, I 1, I 12, I 100, I 50, I 5, I 4, I 3, I 6, I 4], OB zac.enc ([({ Cpu := 4, Mem := 8, Gpu := 0, Lic := 1 } : zac), ({ Cpu := 8, Mem := 8, Gpu := 1, Lic := 0 } : zac)] : List zac), OB zah ([0, 1] : List Int), OB zah ([1] : List Int), .cells [(OS 1 3 2), (OS 1 4 1)], .cells [I 0, sn, I 8, I 4, I 3, I 1]]) Z <| nl <| nx <| sq <| rq O <| o (d := (OS 1 7 2)) (σ1 := [.cells [sn, sn, sn, I 0, I 0, I 0, I 0, I 0, I 0, I 0, I 0, I 0, I 0, I 0, I 0, I 0, I 0, I 0], .cells [(OS 4 2 2), (.sl 5 0 2 1 2), sn, I 3, I 0, I 0, I 0, I 0, I 4, I 1, I 12, I 100, I 50, I 5, I 4, I 3, I 6, I 4], OB zac.enc ([({ Cpu := 4, Mem := 8, Gpu := 0, Lic := 1 } : zac), ({ Cpu := 8, Mem := 8, Gpu := 1, Lic := 0 } : zac)] : List zac), OB zah ([0, 1] : List Int), OB zah ([1] : List Int), .cells [(OS 1 3 2), (OS 1 4 1)], .cells [I 0, sn, I 8, I 4, I 3, I 1], OB zah ([0, 1] : List Int)]) (zaL (f := zah) (l := ([0, 1] : List Int)) (cs := ((([0, 1] : List Int)).flatMap zah).map .c) (by kernel_rfl) Z Z (fun _ => Z) Z Z Z) Z <| o (d := (.agg [I 1, (OS 1 7 2), I 4, I 2, I 2, I 5])) (zbB (by kernel_rfl)) Z <| o (d := (.ptr 8 0 6)) (σ1 := [.cells [sn, sn, sn, I 0, I 0, I 0, I 0, I 0, I 0, I 0, I 0, I 0, I 0, I 0, I 0, I 0, I 0, I 0], .cells [(OS 4 2 2), (.sl 5 0 2 1 2), sn, I 3, I 0, I 0, I 0, I 0, I 4, I 1, I 12, I 100, I 50, I 5, I 4, I 3, I 6, I 4], OB zac.enc ([({ Cpu := 4, Mem := 8, Gpu := 0, Lic := 1 } : zac), ({ Cpu := 8, Mem := 8, Gpu := 1, Lic := 0 } : zac)] : List zac), OB zah ([0, 1] : List Int), OB zah ([1] : List Int), .cells [(OS 1 3 2), (OS 1 4 1)], .cells [I 0, sn, I 8, I 4, I 3, I 1], OB zah ([0, 1] : List Int), .cells [I 0, sn, I 0, I 0, I 0, I 0]]) (zaG Z Z) Z <| st (σ1 := [.cells [sn, sn, sn, I 0, I 0, I 0, I 0, I 0, I 0, I 0, I 0, I 0, I 0, I 0, I 0, I 0, I 0, I 0], .cells [(OS 4 2 2), (.sl 5 0 2 1 2), sn, I 3, I 0, I 0, I 0, I 0, I 4, I 1, I 12, I 100, I 50, I 5, I 4, I 3, I 6, I 4], OB zac.enc ([({ Cpu := 4, Mem := 8, Gpu := 0, Lic := 1 } : zac), ({ Cpu := 8, Mem := 8, Gpu := 1, Lic := 0 } : zac)] : List zac), OB zah ([0, 1] : List Int), OB zah ([1] : List Int), .cells [(OS 1 3 2), (OS 1 4 1)], .cells [I 0, sn, I 8, I 4, I 3, I 1], OB zah ([0, 1] : List Int), .cells [I 1, (OS 1 7 2), I 4, I 2, I 2, I 5]]) Z <| nl <| nx <| sq <| rq O <| l (d := (.agg [I 0, sn, I 8, I 4, I 3, I 1])) Z <| l (d := (.agg [I 1, (OS 1 7 2), I 4, I 2, I 2, I 5])) Z <| o (d := (.sl 9 0 2 6 12)) (σ1 := [.cells [sn, sn, sn, I 0, I 0, I 0, I 0, I 0, I 0, I 0, I 0, I 0, I 0, I 0, I 0, I 0, I 0, I 0], .cells [(OS 4 2 2), (.sl 5 0 2 1 2), sn, I 3, I 0, I 0, I 0, I 0, I 4, I 1, I 12, I 100, I 50, I 5, I 4, I 3, I 6, I 4], OB zac.enc ([({ Cpu := 4, Mem := 8, Gpu := 0, Lic := 1 } : zac), ({ Cpu := 8, Mem := 8, Gpu := 1, Lic := 0 } : zac)] : List zac), OB zah ([0, 1] : List Int), OB zah ([1] : List Int), .cells [(OS 1 3 2), (OS 1 4 1)], .cells [I 0, sn, I 8, I 4, I 3, I 1], OB zah ([0, 1] : List Int), .cells [I 1, (OS 1 7 2), I 4, I 2, I 2, I 5], .cells [I 0, sn, I 8, I 4, I 3, I 1, I 1, (OS 1 7 2), I 4, I 2, I 2, I 5]]) (op_bslice (by kernel_rfl) Z Z) Z <| o (d := (.ptr 1 2 18)) (zaf Z) Z <| st (σ1 := [.cells [sn, sn, sn, I 0, I 0, I 0, I 0, I 0, I 0, I 0, I 0, I 0, I 0, I 0, I 0, I 0, I 0, I 0], .cells [(OS 4 2 2), (.sl 5 0 2 1 2), (.sl 9 0 2 6 12), I 3, I 0, I 0, I 0, I 0, I 4, I 1, I 12, I 100, I 50, I 5, I 4, I 3, I 6, I 4], OB zac.enc ([({ Cpu := 4, Mem := 8, Gpu := 0, Lic := 1 } : zac), ({ Cpu := 8, Mem := 8, Gpu := 1, Lic := 0 } : zac)] : List zac), OB zah ([0, 1] : List Int), OB zah ([1] : List Int), .cells [(OS 1 3 2), (OS 1 4 1)], .cells [I 0, sn, I 8, I 4, I 3, I 1], OB zah ([0, 1] : List Int), .cells [I 1, (OS 1 7 2), I 4, I 2, I 2, I 5], .cells [I 0, sn, I 8, I 4, I 3, I 1, I 1, (OS 1 7 2), I 4, I 2, I 2, I 5]]) Z <| nl ?_
  refine nx <| sq <| rq O <| o (d := (.agg [I 1, I 2, I 10, I 3])) (zbB (by kernel_rfl)) Z <| o (d := (.ptr 1 4 18)) (zaf Z) Z <| st (σ1 := [.cells [sn, sn, sn, I 0, I 0, I 0, I 0, I 0, I 0, I 0, I 0, I 0, I 0, I 0, I 0, I 0, I 0, I 0], .cells [(OS 4 2 2), (.sl 5 0 2 1 2), (.sl 9 0 2 6 12), I 3, I 1, I 2, I 10, I 3, I 4, I 1, I 12, I 100, I 50, I 5, I 4, I 3, I 6, I 4], OB zac.enc ([({ Cpu := 4, Mem := 8, Gpu := 0, Lic := 1 } : zac), ({ Cpu := 8, Mem := 8, Gpu := 1, Lic := 0 } : zac)] : List zac), OB zah ([0, 1] : List Int), OB zah ([1] : List Int), .cells [(OS 1 3 2), (OS 1 4 1)], .cells [I 0, sn, I 8, I 4, I 3, I 1], OB zah ([0, 1] : List Int), .cells [I 1, (OS 1 7 2), I 4, I 2, I 2, I 5], .cells [I 0, sn, I 8, I 4, I 3, I 1, I 1, (OS 1 7 2), I 4, I 2, I 2, I 5]]) Z <| nl <| nx <| sq <| rq O <| l (d := (.agg [(OS 4 2 2), (.sl 5 0 2 1 2), (.sl 9 0 2 6 12), I 3, I 1, I 2, I 10, I 3, I 4, I 1, I 12, I 100, I 50, I 5, I 4, I 3, I 6, I 4])) Z <| st (σ1 := [.cells [(OS 4 2 2), (.sl 5 0 2 1 2), (.sl 9 0 2 6 12), I 3, I 1, I 2, I 10, I 3, I 4, I 1, I 12, I 100, I 50, I 5, I 4, I 3, I 6, I 4], .cells [(OS 4 2 2), (.sl 5 0 2 1 2), (.sl 9 0 2 6 12), I 3, I 1, I 2, I 10, I 3, I 4, I 1, I 12, I 100, I 50, I 5, I 4, I 3, I 6, I 4], OB zac.enc ([({ Cpu := 4, Mem := 8, Gpu := 0, Lic := 1 } : zac), ({ Cpu := 8, Mem := 8, Gpu := 1, Lic := 0 } : zac)] : List zac), OB zah ([0, 1] : List Int), OB zah ([1] : List Int), .cells [(OS 1 3 2), (OS 1 4 1)], .cells [I 0, sn, I 8, I 4, I 3, I 1], OB zah ([0, 1] : List Int), .cells [I 1, (OS 1 7 2), I 4, I 2, I 2, I 5], .cells [I 0, sn, I 8, I 4, I 3, I 1, I 1, (OS 1 7 2), I 4, I 2, I 2, I 5]]) Z <| nl <| nx <| Sem.ret mix ?_
  cases h
  exact ⟨.inr Z, _, _, Z, Z, DLe.of_nrmY Z⟩
noncomputable def F9 (N : Nat) : List D → Option D := spec (A := Unit) (R := zab) (fun a => []) (fun r => (ST (zab.enc r))) (fun a => zdY N)
theorem K9 (N : Nat) : ∀ ds r, F9 N ds = some r → za9 Tryd.prog 9 ds r := zav fun a r h => drayageref07xSmall_ok N r h
theorem drayageref07xSmall_eq {N : Nat} {r : zab} (h : zdY N = some r) : F9 N [] = some (ST (zab.enc r)) := zaw (a := ()) (by
  intro a b h
  rfl) h
noncomputable def S10 (N : Nat) : za1 := []
theorem O10 (N : Nat) : zaO Tryd.prog (zat (S10 N)) := zap (zaj.nil)
theorem drayageref45xFlaws_ok (N : Nat) (p0 : (List zae)) (p1 : (List zae)) (r : Bool) (h : zeG N p0 p1 = some r) : za9 Tryd.prog 10 [(SL zae.enc p0), (SL zae.enc p1)] (B r) := by
  have O := And.intro mix (O10 N)
  refine zan Tryd.func10 (by kernel_rfl) C10 (bl Z) ?_
  unfold zeG at h
  unfold A10
  dsimp only [zbc]
  refine sq <| rq O <| m Z <| nl <| nx <| sq <| sq <| rq O <| m Z <| o (d := (I (p0.length : Int))) (zaA Z) Z <| m Z <| o (d := (I (p1.length : Int))) (zaA Z) Z <| o (d := (B ((p0.length : Int) != (p1.length : Int)))) (bo Z) Z <| nl <| nx <| Sem.cond Z (fun c1 => ?_) (fun c1 => ?_)
  ·rw [if_pos c1] at h
   refine sq <| rq O <| m Z <| nl <| nx <| Sem.ret mix ?_
   cases h
   exact ⟨.inr Z, _, _, Z, Z, DLe.of_nrm Z⟩
  ·rw [if_neg (zaH c1)] at h
   refine Sem.skip mix <| nx <| sq <| sq <| rq O <| m Z <| nl <| nx <| Sem.block <| Sem.rounds (V := Int) (fun (x2 : Int) => [(0, (SL zae.enc p0)), (1, (SL zae.enc p1)), (5, (I x2))]) (fun (x2 : Int) => []) (fun k v => zdP N p0 p1 k v = some r) N 0 h (fun v h => by unfold zdP at h; cases h) ?_ (sS Z <| sS Z <| sS Z <| sZ) Z
   intro kL0 x2 h
   try dsimp only at h ⊢
   unfold zdP at h
   unfold A10xl0
   refine sq <| sq <| rq O <| m Z <| m Z <| o (d := (I (p0.length : Int))) (zaA Z) Z <| o (d := (B (decide (x2 < (p0.length : Int))))) (bo Z) Z <| nl <| nx <| Sem.cond Z (fun c3 => ?_) (fun c3 => ?_)
   ·rw [if_pos c3] at h
    refine Sem.skip mix <| nx <| sq <| Sem.block <| sq <| dq O <| m Z <| m Z <| ?_
    obtain ⟨a4, e5, h⟩ := bs h
    refine o (zaF Z Z e5 Z) Z <| o (d := (ST (zae.enc a4))) (zal Z Z) Z <| m Z <| m Z <| ?_
    obtain ⟨a6, e7, h⟩ := bs h
    refine o (zaF Z Z e7 Z) Z <| o (d := (ST (zae.enc a6))) (zal Z Z) Z <| o (d := (B (!decide (a4 = a6)))) (api_Flaw_neq Z Z) Z <| nl ⟨by kernel_rfl, ?_⟩
    refine nx <| Sem.cond Z (fun c8 => ?_) (fun c8 => ?_)
    ·rw [if_pos c8] at h
     refine sq <| rq O <| m Z <| nl <| nx <| Sem.ret mix <| nx <| nx <| nx ?_
     cases h
     exact ⟨.inr Z, _, _, Z, Z, DLe.of_nrm Z⟩
    ·rw [if_neg (zaH c8)] at h
     refine Sem.skip mix <| nx <| nx <| rq O <| m Z <| o (d := (I (IntKind.i64.wrap (x2 + 1)))) (bo Z) Z <| m Z <| nl ?_
     exact ⟨(IntKind.i64.wrap (x2 + 1)), h, .same (sS Z <| sS Z <| sS Z <| sZ)⟩
   ·rw [if_neg (zaH c3)] at h
    refine Sem.exit mix <| nx <| ⟨_, _, .refl, fun _ => ?_, fun hh => absurd Z hh⟩
    refine nx <| sq <| rq O <| m Z <| nl <| nx <| Sem.ret mix ?_
    cases h
    exact ⟨.inr Z, _, _, Z, Z, DLe.of_nrm Z⟩
noncomputable def F10 (N : Nat) : List D → Option D := spec (A := (List zae) × (List zae)) (R := Bool) (fun a => [(SL zae.enc a.1), (SL zae.enc a.2)]) (fun r => (B r)) (fun a => zeG N a.1 a.2)
theorem K10 (N : Nat) : ∀ ds r, F10 N ds = some r → za9 Tryd.prog 10 ds r := zav fun a r h => drayageref45xFlaws_ok N a.1 a.2 r h
theorem drayageref45xFlaws_eq {N : Nat} {p0 : (List zae)} {p1 : (List zae)} {r : Bool} (h : zeG N p0 p1 = some r) : F10 N [(SL zae.enc p0), (SL zae.enc p1)] = some (B r) := zaw (a := (p0, p1)) (ij2 (zeM zae.inj) (zeM zae.inj)) h
end Go.Abs
