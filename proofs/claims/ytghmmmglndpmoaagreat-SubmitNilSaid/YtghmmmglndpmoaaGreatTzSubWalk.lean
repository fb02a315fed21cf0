/- SubmitNil as a Lean function, and that the code computes it. -/
import Derived.Test.YtghmmmglndpmoaaGreatTzTypes
import Derived.Test.YtghmmmglndpmoaaGreatTzMemo
import Derived.Test.YtghmmmglndpmoaaGreatDfwOwn
namespace Go.Abs
open Go.Proofs
set_option linter.unusedVariables false
set_option maxRecDepth 100000
theorem mix : Tryz.prog.follows .mixedOrders = true := by kernel_rfl

/- drayage/drayageref01.Ints -/
def drayageref01_Ints_l0 (N : Nat) (p0 : (List Int)) (p1 : (List Int)) : Nat → Int → Option Bool
  | 0, _ => none
  | kL0 + 1, x2 =>
    if (decide (x2 < (p0.length : Int))) = true then
      (at? p0 x2).bind fun a4 =>
      (at? p1 x2).bind fun a6 =>
      if (a4 != a6) = true then
        some false
      else
        drayageref01_Ints_l0 N p0 p1 kL0 (IntKind.i64.wrap (x2 + 1))
    else
      some true

def drayageref01_Ints (N : Nat) (p0 : (List Int)) (p1 : (List Int)) : Option Bool :=
  if ((p0.length : Int) != (p1.length : Int)) = true then
    some false
  else
    drayageref01_Ints_l0 N p0 p1 N 0

noncomputable def S28 (N : Nat) : Specs := []
theorem O28 (N : Nat) : OrcOk Tryz.prog (callOrc (S28 N)) := callOrc_ok (SpecsOk.nil)
theorem drayageref01_Ints_ok (N : Nat) (p0 : (List Int)) (p1 : (List Int)) (r : Bool) (h : drayageref01_Ints N p0 p1 = some r) : Pure Tryz.prog 28 [(SL encI p0), (SL encI p1)] (B r) := by
  have O := O28
  refine pure_of_sem Tryz.func28 (by kernel_rfl) C28 (Nat.le_of_ble_eq_true rfl) ?_
  unfold drayageref01_Ints at h
  unfold A28
  dsimp only [zipAL]
  refine Sem.seq ?_
  refine Sem.reg mix (O N) (Trc.op (op_mov rfl) gd_none rfl <| Trc.nil) ?_
  refine ⟨_, _, .refl, ?_⟩
  refine Sem.seq ?_
  refine Sem.seq ?_
  refine Sem.reg mix (O N) (Trc.op (op_mov rfl) gd_none rfl <| Trc.op (d := (I (p0.length : Int))) (op_len rfl) gd_none rfl <| Trc.op (op_mov rfl) gd_none rfl <| Trc.op (d := (I (p1.length : Int))) (op_len rfl) gd_none rfl <| Trc.op (d := (B ((p0.length : Int) != (p1.length : Int)))) (op_bin rfl rfl rfl rfl rfl rfl) gd_none rfl <| Trc.nil) ?_
  refine ⟨_, _, .refl, ?_⟩
  refine Sem.cond rfl (fun c1 => ?_) (fun c1 => ?_)
  · rw [if_pos c1] at h
    refine Sem.seq ?_
    refine Sem.reg mix (O N) (Trc.op (op_mov rfl) gd_none rfl <| Trc.nil) ?_
    refine ⟨_, _, .refl, ?_⟩
    refine Sem.ret mix ?_
    cases h
    exact ⟨.inr rfl, _, _, rfl, rfl, DLe.of_nrm rfl⟩
  · rw [if_neg (ne_t c1)] at h
    refine Sem.skip mix ?_
    refine ⟨_, _, .refl, ?_⟩
    refine Sem.seq ?_
    refine Sem.seq ?_
    refine Sem.reg mix (O N) (Trc.op (op_mov rfl) gd_none rfl <| Trc.nil) ?_
    refine ⟨_, _, .refl, ?_⟩
    refine Sem.block ?_
    refine Sem.rounds (V := Int) (fun (x2 : Int) => [(0, (SL encI p0)), (1, (SL encI p1)), (5, (I x2))]) (fun (x2 : Int) => []) (fun k v => drayageref01_Ints_l0 N p0 p1 k v = some r) N 0 h (fun v h => by unfold drayageref01_Ints_l0 at h; cases h) ?_ (sS rfl <| sS rfl <| sS rfl <| trivial) rfl
    intro kL0 x2 h
    try dsimp only at h ⊢
    unfold drayageref01_Ints_l0 at h
    unfold A28_l0
    refine Sem.seq ?_
    refine Sem.seq ?_
    refine Sem.reg mix (O N) (Trc.op (op_mov rfl) gd_none rfl <| Trc.op (op_mov rfl) gd_none rfl <| Trc.op (d := (I (p0.length : Int))) (op_len rfl) gd_none rfl <| Trc.op (d := (B (decide (x2 < (p0.length : Int))))) (op_bin rfl rfl rfl rfl rfl rfl) gd_none rfl <| Trc.nil) ?_
    refine ⟨_, _, .refl, ?_⟩
    refine Sem.cond rfl (fun c3 => ?_) (fun c3 => ?_)
    · rw [if_pos c3] at h
      refine Sem.skip mix ?_
      refine ⟨_, _, .refl, ?_⟩
      refine Sem.seq ?_
      refine Sem.block ?_
      refine Sem.seq ?_
      obtain ⟨a4, e5, h⟩ := Option.bind_eq_some_iff.1 h
      obtain ⟨a6, e7, h⟩ := Option.bind_eq_some_iff.1 h
      refine Sem.drw mix (O N) (Trc.op (op_mov rfl) gd_none rfl <| Trc.op (op_mov rfl) gd_none rfl <| Trc.op (op_idx rfl rfl e5 rfl) gd_none rfl <| Trc.op (d := (I a4)) (op_loadf rfl rfl) gd_none rfl <| Trc.op (op_mov rfl) gd_none rfl <| Trc.op (op_mov rfl) gd_none rfl <| Trc.op (op_idx rfl rfl e7 rfl) gd_none rfl <| Trc.op (d := (I a6)) (op_loadf rfl rfl) gd_none rfl <| Trc.op (d := (B (a4 != a6))) (op_bin rfl rfl rfl rfl rfl rfl) gd_none rfl <| Trc.nil) (by kernel_rfl) ?_
      refine ⟨_, _, .refl, ?_⟩
      refine Sem.cond rfl (fun c8 => ?_) (fun c8 => ?_)
      · rw [if_pos c8] at h
        refine Sem.seq ?_
        refine Sem.reg mix (O N) (Trc.op (op_mov rfl) gd_none rfl <| Trc.nil) ?_
        refine ⟨_, _, .refl, ?_⟩
        refine Sem.ret mix ?_
        refine ⟨_, _, .refl, ?_⟩
        refine ⟨_, _, .refl, ?_⟩
        refine ⟨_, _, .refl, ?_⟩
        cases h
        exact ⟨.inr rfl, _, _, rfl, rfl, DLe.of_nrm rfl⟩
      · rw [if_neg (ne_t c8)] at h
        refine Sem.skip mix ?_
        refine ⟨_, _, .refl, ?_⟩
        refine ⟨_, _, .refl, ?_⟩
        refine Sem.reg mix (O N) (Trc.op (op_mov rfl) gd_none rfl <| Trc.op (d := (I (IntKind.i64.wrap (x2 + 1)))) (op_bin rfl rfl rfl rfl rfl rfl) gd_none rfl <| Trc.op (op_mov rfl) gd_none rfl <| Trc.nil) ?_
        exact ⟨(IntKind.i64.wrap (x2 + 1)), h, .same (sS rfl <| sS rfl <| sS rfl <| trivial)⟩
    · rw [if_neg (ne_t c3)] at h
      refine Sem.exit mix ?_
      refine ⟨_, _, .refl, ?_⟩
      refine ⟨_, _, .refl, fun _ => ?_, fun hh => absurd rfl hh⟩
      refine ⟨_, _, .refl, ?_⟩
      refine Sem.seq ?_
      refine Sem.reg mix (O N) (Trc.op (op_mov rfl) gd_none rfl <| Trc.nil) ?_
      refine ⟨_, _, .refl, ?_⟩
      refine Sem.ret mix ?_
      cases h
      exact ⟨.inr rfl, _, _, rfl, rfl, DLe.of_nrm rfl⟩
noncomputable def F28 (N : Nat) : List D → Option D := spec (A := (List Int) × (List Int)) (R := Bool) (fun a => [(SL encI a.1), (SL encI a.2)]) (fun r => (B r)) (fun a => drayageref01_Ints N a.1 a.2)
theorem K28 (N : Nat) : ∀ ds r, F28 N ds = some r → Pure Tryz.prog 28 ds r := spec_ok fun a r h => drayageref01_Ints_ok N a.1 a.2 r h
theorem drayageref01_Ints_eq {N : Nat} {p0 : (List Int)} {p1 : (List Int)} {r : Bool} (h : drayageref01_Ints N p0 p1 = some r) : F28 N [(SL encI p0), (SL encI p1)] = some (B r) := spec_eq (a := (p0, p1)) (by
  intro a b h
  obtain ⟨a0, a1⟩ := a
  obtain ⟨b0, b1⟩ := b
  have hh := h
  simp only [List.cons.injEq, and_true] at hh
  obtain ⟨h0, h1⟩ := hh
  have q0 := SL_inj encI_inj h0
  have q1 := SL_inj encI_inj h1
  rw [q0, q1]) h

/- drayage/drayageref09.Same -/
def drayageref09_Same_j0 (N : Nat) (x3 : Bool) : Option Bool :=
  some x3

def drayageref09_Same (N : Nat) (p0 : api_Reply) (p1 : api_Reply) : Option Bool :=
  if (p0.Key == p1.Key) = true then
    if (p0.Err == p1.Err) = true then
      if (p0.Job == p1.Job) = true then
        if (p0.Version == p1.Version) = true then
          (drayageref01_Ints N p0.Nums p1.Nums).bind fun r1 =>
          drayageref09_Same_j0 N r1
        else
          drayageref09_Same_j0 N false
      else
        drayageref09_Same_j0 N false
    else
      drayageref09_Same_j0 N false
  else
    drayageref09_Same_j0 N false

noncomputable def S7 (N : Nat) : Specs := [(28, F28 N)]
theorem O7 (N : Nat) : OrcOk Tryz.prog (callOrc (S7 N)) := callOrc_ok (SpecsOk.cons (K28 N) <| SpecsOk.nil)
theorem drayageref09_Same_ok (N : Nat) (p0 : api_Reply) (p1 : api_Reply) (r : Bool) (h : drayageref09_Same N p0 p1 = some r) : Pure Tryz.prog 7 [(ST (api_Reply.enc p0)), (ST (api_Reply.enc p1))] (B r) := by
  have O := O7
  refine pure_of_sem Tryz.func7 (by kernel_rfl) C7 (Nat.le_of_ble_eq_true rfl) ?_
  unfold drayageref09_Same at h
  unfold A7
  dsimp only [zipAL]
  refine Sem.seq ?_
  refine Sem.reg mix (O N) (Trc.op (d := (.ptr 0 0 5)) (σ1 := [.cells ((api_Reply.enc p0).map .c)]) (op_box rfl rfl rfl rfl) gd_none rfl <| Trc.op (d := (.ptr 1 0 5)) (σ1 := [.cells ((api_Reply.enc p0).map .c), .cells ((api_Reply.enc p1).map .c)]) (op_box rfl rfl rfl rfl) gd_none rfl <| Trc.op (op_mov rfl) gd_none rfl <| Trc.nil) ?_
  refine ⟨_, _, .refl, ?_⟩
  refine Sem.join (fun (x3 : Bool) => [(4, (B x3))]) (fun (x3 : Bool) => [.cells ((api_Reply.enc p0).map .c), .cells ((api_Reply.enc p1).map .c)]) (fun (x3 : Bool) => drayageref09_Same_j0 N  x3 = some r) ?_ ?_
  · intro x3 h
    try dsimp only at h ⊢
    unfold drayageref09_Same_j0 at h
    refine Sem.ret mix ?_
    cases h
    exact ⟨.inr rfl, _, _, rfl, rfl, DLe.of_nrm rfl⟩
  · rcases Bool.eq_false_or_eq_true (p0.Key == p1.Key) with g1 | g1
    · rw [if_pos g1] at h
      rcases Bool.eq_false_or_eq_true (p0.Err == p1.Err) with g2 | g2
      · rw [if_pos g2] at h
        rcases Bool.eq_false_or_eq_true (p0.Job == p1.Job) with g3 | g3
        · rw [if_pos g3] at h
          rcases Bool.eq_false_or_eq_true (p0.Version == p1.Version) with g4 | g4
          · rw [if_pos g4] at h
            obtain ⟨r1, e2, h⟩ := Option.bind_eq_some_iff.1 h
            refine Sem.reg mix (O N) (Trc.op (d := (.ptr 0 0 5)) (op_fld rfl) gd_none rfl <| Trc.op (d := (I p0.Key)) (op_load rfl rfl rfl) gd_none rfl <| Trc.op (d := (.ptr 1 0 5)) (op_fld rfl) gd_none rfl <| Trc.op (d := (I p1.Key)) (op_load rfl rfl rfl) gd_none rfl <| Trc.op (d := (B (p0.Key == p1.Key))) (op_bin rfl rfl rfl rfl rfl rfl) gd_none rfl <| Trc.op (op_mov rfl) gd_none rfl <| Trc.op (d := (.ptr 0 1 5)) (op_fld rfl) (gd_open rfl g1) rfl <| Trc.op (d := (I p0.Err)) (op_load rfl rfl rfl) (gd_open rfl g1) rfl <| Trc.op (d := (.ptr 1 1 5)) (op_fld rfl) (gd_open rfl g1) rfl <| Trc.op (d := (I p1.Err)) (op_load rfl rfl rfl) (gd_open rfl g1) rfl <| Trc.op (d := (B (p0.Err == p1.Err))) (op_bin rfl rfl rfl rfl rfl rfl) (gd_open rfl g1) rfl <| Trc.op (op_pickT rfl g1 rfl) gd_none rfl <| Trc.op (op_mov rfl) gd_none rfl <| Trc.op (d := (.ptr 0 2 5)) (op_fld rfl) (gd_open rfl g2) rfl <| Trc.op (d := (I p0.Job)) (op_load rfl rfl rfl) (gd_open rfl g2) rfl <| Trc.op (d := (.ptr 1 2 5)) (op_fld rfl) (gd_open rfl g2) rfl <| Trc.op (d := (I p1.Job)) (op_load rfl rfl rfl) (gd_open rfl g2) rfl <| Trc.op (d := (B (p0.Job == p1.Job))) (op_bin rfl rfl rfl rfl rfl rfl) (gd_open rfl g2) rfl <| Trc.op (op_pickT rfl g2 rfl) gd_none rfl <| Trc.op (op_mov rfl) gd_none rfl <| Trc.op (d := (.ptr 0 3 5)) (op_fld rfl) (gd_open rfl g3) rfl <| Trc.op (d := (I p0.Version)) (op_load rfl rfl rfl) (gd_open rfl g3) rfl <| Trc.op (d := (.ptr 1 3 5)) (op_fld rfl) (gd_open rfl g3) rfl <| Trc.op (d := (I p1.Version)) (op_load rfl rfl rfl) (gd_open rfl g3) rfl <| Trc.op (d := (B (p0.Version == p1.Version))) (op_bin rfl rfl rfl rfl rfl rfl) (gd_open rfl g3) rfl <| Trc.op (op_pickT rfl g3 rfl) gd_none rfl <| Trc.op (op_mov rfl) gd_none rfl <| Trc.op (d := (.ptr 0 4 5)) (op_fld rfl) (gd_open rfl g4) rfl <| Trc.op (d := (SL encI p0.Nums)) (op_load rfl rfl rfl) (gd_open rfl g4) rfl <| Trc.op (d := (.ptr 1 4 5)) (op_fld rfl) (gd_open rfl g4) rfl <| Trc.op (d := (SL encI p1.Nums)) (op_load rfl rfl rfl) (gd_open rfl g4) rfl <| Trc.op (d := (B r1)) (op_call rfl rfl (callOrc_data rfl rfl rfl (drayageref01_Ints_eq e2) rfl)) (gd_open rfl g4) rfl <| Trc.op (op_pickT rfl g4 rfl) gd_none rfl <| Trc.op (op_mov rfl) gd_none rfl <| Trc.nil) ?_
            exact ⟨r1, h, .same (sS rfl <| trivial)⟩
          · rw [if_neg (ne_t g4)] at h
            refine Sem.reg mix (O N) (Trc.op (d := (.ptr 0 0 5)) (op_fld rfl) gd_none rfl <| Trc.op (d := (I p0.Key)) (op_load rfl rfl rfl) gd_none rfl <| Trc.op (d := (.ptr 1 0 5)) (op_fld rfl) gd_none rfl <| Trc.op (d := (I p1.Key)) (op_load rfl rfl rfl) gd_none rfl <| Trc.op (d := (B (p0.Key == p1.Key))) (op_bin rfl rfl rfl rfl rfl rfl) gd_none rfl <| Trc.op (op_mov rfl) gd_none rfl <| Trc.op (d := (.ptr 0 1 5)) (op_fld rfl) (gd_open rfl g1) rfl <| Trc.op (d := (I p0.Err)) (op_load rfl rfl rfl) (gd_open rfl g1) rfl <| Trc.op (d := (.ptr 1 1 5)) (op_fld rfl) (gd_open rfl g1) rfl <| Trc.op (d := (I p1.Err)) (op_load rfl rfl rfl) (gd_open rfl g1) rfl <| Trc.op (d := (B (p0.Err == p1.Err))) (op_bin rfl rfl rfl rfl rfl rfl) (gd_open rfl g1) rfl <| Trc.op (op_pickT rfl g1 rfl) gd_none rfl <| Trc.op (op_mov rfl) gd_none rfl <| Trc.op (d := (.ptr 0 2 5)) (op_fld rfl) (gd_open rfl g2) rfl <| Trc.op (d := (I p0.Job)) (op_load rfl rfl rfl) (gd_open rfl g2) rfl <| Trc.op (d := (.ptr 1 2 5)) (op_fld rfl) (gd_open rfl g2) rfl <| Trc.op (d := (I p1.Job)) (op_load rfl rfl rfl) (gd_open rfl g2) rfl <| Trc.op (d := (B (p0.Job == p1.Job))) (op_bin rfl rfl rfl rfl rfl rfl) (gd_open rfl g2) rfl <| Trc.op (op_pickT rfl g2 rfl) gd_none rfl <| Trc.op (op_mov rfl) gd_none rfl <| Trc.op (d := (.ptr 0 3 5)) (op_fld rfl) (gd_open rfl g3) rfl <| Trc.op (d := (I p0.Version)) (op_load rfl rfl rfl) (gd_open rfl g3) rfl <| Trc.op (d := (.ptr 1 3 5)) (op_fld rfl) (gd_open rfl g3) rfl <| Trc.op (d := (I p1.Version)) (op_load rfl rfl rfl) (gd_open rfl g3) rfl <| Trc.op (d := (B (p0.Version == p1.Version))) (op_bin rfl rfl rfl rfl rfl rfl) (gd_open rfl g3) rfl <| Trc.op (op_pickT rfl g3 rfl) gd_none rfl <| Trc.op (op_mov rfl) gd_none rfl <| Trc.no (gd_shut rfl g4) rfl <| Trc.no (gd_shut rfl g4) rfl <| Trc.no (gd_shut rfl g4) rfl <| Trc.no (gd_shut rfl g4) rfl <| Trc.no (gd_shut rfl g4) rfl <| Trc.op (op_pickF rfl g4 rfl) gd_none rfl <| Trc.op (op_mov rfl) gd_none rfl <| Trc.nil) ?_
            exact ⟨false, h, .same (sS rfl <| trivial)⟩
        · rw [if_neg (ne_t g3)] at h
          refine Sem.reg mix (O N) (Trc.op (d := (.ptr 0 0 5)) (op_fld rfl) gd_none rfl <| Trc.op (d := (I p0.Key)) (op_load rfl rfl rfl) gd_none rfl <| Trc.op (d := (.ptr 1 0 5)) (op_fld rfl) gd_none rfl <| Trc.op (d := (I p1.Key)) (op_load rfl rfl rfl) gd_none rfl <| Trc.op (d := (B (p0.Key == p1.Key))) (op_bin rfl rfl rfl rfl rfl rfl) gd_none rfl <| Trc.op (op_mov rfl) gd_none rfl <| Trc.op (d := (.ptr 0 1 5)) (op_fld rfl) (gd_open rfl g1) rfl <| Trc.op (d := (I p0.Err)) (op_load rfl rfl rfl) (gd_open rfl g1) rfl <| Trc.op (d := (.ptr 1 1 5)) (op_fld rfl) (gd_open rfl g1) rfl <| Trc.op (d := (I p1.Err)) (op_load rfl rfl rfl) (gd_open rfl g1) rfl <| Trc.op (d := (B (p0.Err == p1.Err))) (op_bin rfl rfl rfl rfl rfl rfl) (gd_open rfl g1) rfl <| Trc.op (op_pickT rfl g1 rfl) gd_none rfl <| Trc.op (op_mov rfl) gd_none rfl <| Trc.op (d := (.ptr 0 2 5)) (op_fld rfl) (gd_open rfl g2) rfl <| Trc.op (d := (I p0.Job)) (op_load rfl rfl rfl) (gd_open rfl g2) rfl <| Trc.op (d := (.ptr 1 2 5)) (op_fld rfl) (gd_open rfl g2) rfl <| Trc.op (d := (I p1.Job)) (op_load rfl rfl rfl) (gd_open rfl g2) rfl <| Trc.op (d := (B (p0.Job == p1.Job))) (op_bin rfl rfl rfl rfl rfl rfl) (gd_open rfl g2) rfl <| Trc.op (op_pickT rfl g2 rfl) gd_none rfl <| Trc.op (op_mov rfl) gd_none rfl <| Trc.no (gd_shut rfl g3) rfl <| Trc.no (gd_shut rfl g3) rfl <| Trc.no (gd_shut rfl g3) rfl <| Trc.no (gd_shut rfl g3) rfl <| Trc.no (gd_shut rfl g3) rfl <| Trc.op (op_pickF rfl g3 rfl) gd_none rfl <| Trc.op (op_mov rfl) gd_none rfl <| Trc.no (gd_shut rfl rfl) rfl <| Trc.no (gd_shut rfl rfl) rfl <| Trc.no (gd_shut rfl rfl) rfl <| Trc.no (gd_shut rfl rfl) rfl <| Trc.no (gd_shut rfl rfl) rfl <| Trc.op (op_pickF rfl rfl rfl) gd_none rfl <| Trc.op (op_mov rfl) gd_none rfl <| Trc.nil) ?_
          exact ⟨false, h, .same (sS rfl <| trivial)⟩
      · rw [if_neg (ne_t g2)] at h
        refine Sem.reg mix (O N) (Trc.op (d := (.ptr 0 0 5)) (op_fld rfl) gd_none rfl <| Trc.op (d := (I p0.Key)) (op_load rfl rfl rfl) gd_none rfl <| Trc.op (d := (.ptr 1 0 5)) (op_fld rfl) gd_none rfl <| Trc.op (d := (I p1.Key)) (op_load rfl rfl rfl) gd_none rfl <| Trc.op (d := (B (p0.Key == p1.Key))) (op_bin rfl rfl rfl rfl rfl rfl) gd_none rfl <| Trc.op (op_mov rfl) gd_none rfl <| Trc.op (d := (.ptr 0 1 5)) (op_fld rfl) (gd_open rfl g1) rfl <| Trc.op (d := (I p0.Err)) (op_load rfl rfl rfl) (gd_open rfl g1) rfl <| Trc.op (d := (.ptr 1 1 5)) (op_fld rfl) (gd_open rfl g1) rfl <| Trc.op (d := (I p1.Err)) (op_load rfl rfl rfl) (gd_open rfl g1) rfl <| Trc.op (d := (B (p0.Err == p1.Err))) (op_bin rfl rfl rfl rfl rfl rfl) (gd_open rfl g1) rfl <| Trc.op (op_pickT rfl g1 rfl) gd_none rfl <| Trc.op (op_mov rfl) gd_none rfl <| Trc.no (gd_shut rfl g2) rfl <| Trc.no (gd_shut rfl g2) rfl <| Trc.no (gd_shut rfl g2) rfl <| Trc.no (gd_shut rfl g2) rfl <| Trc.no (gd_shut rfl g2) rfl <| Trc.op (op_pickF rfl g2 rfl) gd_none rfl <| Trc.op (op_mov rfl) gd_none rfl <| Trc.no (gd_shut rfl rfl) rfl <| Trc.no (gd_shut rfl rfl) rfl <| Trc.no (gd_shut rfl rfl) rfl <| Trc.no (gd_shut rfl rfl) rfl <| Trc.no (gd_shut rfl rfl) rfl <| Trc.op (op_pickF rfl rfl rfl) gd_none rfl <| Trc.op (op_mov rfl) gd_none rfl <| Trc.no (gd_shut rfl rfl) rfl <| Trc.no (gd_shut rfl rfl) rfl <| Trc.no (gd_shut rfl rfl) rfl <| Trc.no (gd_shut rfl rfl) rfl <| Trc.no (gd_shut rfl rfl) rfl <| Trc.op (op_pickF rfl rfl rfl) gd_none rfl <| Trc.op (op_mov rfl) gd_none rfl <| Trc.nil) ?_
        exact ⟨false, h, .same (sS rfl <| trivial)⟩
    · rw [if_neg (ne_t g1)] at h
      refine Sem.reg mix (O N) (Trc.op (d := (.ptr 0 0 5)) (op_fld rfl) gd_none rfl <| Trc.op (d := (I p0.Key)) (op_load rfl rfl rfl) gd_none rfl <| Trc.op (d := (.ptr 1 0 5)) (op_fld rfl) gd_none rfl <| Trc.op (d := (I p1.Key)) (op_load rfl rfl rfl) gd_none rfl <| Trc.op (d := (B (p0.Key == p1.Key))) (op_bin rfl rfl rfl rfl rfl rfl) gd_none rfl <| Trc.op (op_mov rfl) gd_none rfl <| Trc.no (gd_shut rfl g1) rfl <| Trc.no (gd_shut rfl g1) rfl <| Trc.no (gd_shut rfl g1) rfl <| Trc.no (gd_shut rfl g1) rfl <| Trc.no (gd_shut rfl g1) rfl <| Trc.op (op_pickF rfl g1 rfl) gd_none rfl <| Trc.op (op_mov rfl) gd_none rfl <| Trc.no (gd_shut rfl rfl) rfl <| Trc.no (gd_shut rfl rfl) rfl <| Trc.no (gd_shut rfl rfl) rfl <| Trc.no (gd_shut rfl rfl) rfl <| Trc.no (gd_shut rfl rfl) rfl <| Trc.op (op_pickF rfl rfl rfl) gd_none rfl <| Trc.op (op_mov rfl) gd_none rfl <| Trc.no (gd_shut rfl rfl) rfl <| Trc.no (gd_shut rfl rfl) rfl <| Trc.no (gd_shut rfl rfl) rfl <| Trc.no (gd_shut rfl rfl) rfl <| Trc.no (gd_shut rfl rfl) rfl <| Trc.op (op_pickF rfl rfl rfl) gd_none rfl <| Trc.op (op_mov rfl) gd_none rfl <| Trc.no (gd_shut rfl rfl) rfl <| Trc.no (gd_shut rfl rfl) rfl <| Trc.no (gd_shut rfl rfl) rfl <| Trc.no (gd_shut rfl rfl) rfl <| Trc.no (gd_shut rfl rfl) rfl <| Trc.op (op_pickF rfl rfl rfl) gd_none rfl <| Trc.op (op_mov rfl) gd_none rfl <| Trc.nil) ?_
      exact ⟨false, h, .same (sS rfl <| trivial)⟩
noncomputable def F7 (N : Nat) : List D → Option D := spec (A := api_Reply × api_Reply) (R := Bool) (fun a => [(ST (api_Reply.enc a.1)), (ST (api_Reply.enc a.2))]) (fun r => (B r)) (fun a => drayageref09_Same N a.1 a.2)
theorem K7 (N : Nat) : ∀ ds r, F7 N ds = some r → Pure Tryz.prog 7 ds r := spec_ok fun a r h => drayageref09_Same_ok N a.1 a.2 r h
theorem drayageref09_Same_eq {N : Nat} {p0 : api_Reply} {p1 : api_Reply} {r : Bool} (h : drayageref09_Same N p0 p1 = some r) : F7 N [(ST (api_Reply.enc p0)), (ST (api_Reply.enc p1))] = some (B r) := spec_eq (a := (p0, p1)) (by
  intro a b h
  obtain ⟨a0, a1⟩ := a
  obtain ⟨b0, b1⟩ := b
  have hh := h
  simp only [List.cons.injEq, and_true] at hh
  obtain ⟨h0, h1⟩ := hh
  have q0 := ST_inj api_Reply.inj h0
  have q1 := ST_inj api_Reply.inj h1
  rw [q0, q1]) h
def awake24 (N : Nat) : Option Bool := some true
def check_nil (N : Nat) (p0 : Int) (p1 : api_Request) : Option Int := some 1
def do_nil (N : Nat) (p0 : Int) (p1 : api_Request) : Option api_Reply := some { Key := p1.Key, Err := 1, Job := 0, Version := 0, Nums := [] }
noncomputable def F5 (N : Nat) : List D → Option D := spec (A := Unit) (R := Bool) (fun _ => []) (fun r => B r) (fun _ => awake24 N)
theorem K5 (N : Nat) : ∀ ds r, F5 N ds = some r → Pure Tryz.prog 5 ds r := spec_ok fun _ r h => by
  cases h
  exact pure_of_run mach1 runAwake
theorem awake24_eq {N : Nat} {r : Bool} (h : awake24 N = some r) : F5 N [] = some (B r) := spec_eq (a := ()) (fun _ _ _ => rfl) h
noncomputable def F6 (N : Nat) : List D → Option D := spec (A := Int × api_Request) (R := Int) (fun a => [(.c (.lit (.pointer none))), (I a.1), (ST (api_Request.enc a.2))]) (fun r => I r) (fun a => check_nil N a.1 a.2)
set_option maxRecDepth 100000 in
theorem K6 (N : Nat) : ∀ ds r, F6 N ds = some r → Pure Tryz.prog 6 ds r := spec_ok fun a r h => by
  cases h
  exact pure_of_run (wr := []) mach0 (by kernel_rfl)
theorem check_nil_eq {N : Nat} {p0 : Int} {p1 : api_Request} {r : Int} (h : check_nil N p0 p1 = some r) : F6 N [(.c (.lit (.pointer none))), (I p0), (ST (api_Request.enc p1))] = some (I r) := spec_eq (a := (p0, p1)) (by
  intro a b h
  obtain ⟨a0, a1⟩ := a
  obtain ⟨b0, b1⟩ := b
  simp only [List.cons.injEq, and_true, true_and] at h
  rw [I_inj h.1, ST_inj api_Request.inj h.2]) h
noncomputable def F8 (N : Nat) : List D → Option D := spec (A := Int × api_Request) (R := api_Reply) (fun a => [(.c (.lit (.pointer none))), (I a.1), (ST (api_Request.enc a.2))]) (fun r => ST (api_Reply.enc r)) (fun a => do_nil N a.1 a.2)
theorem Pure.le {P : Program} {g : Nat} {ds : List D} {r r' : D} (h : Pure P g ds r) (hl : DLe r r') : Pure P g ds r' :=
  ⟨h.1, fun M Fz w vs R hs hv => (h.2 M Fz w vs R hs hv).mono fun e w' ⟨v, M', Fz', h1, h2, h3, h4⟩ => ⟨v, M', Fz', h1, h2, hl _ _ _ _ _ h3, h4⟩⟩
set_option maxRecDepth 100000 in
theorem K8 (N : Nat) : ∀ ds r, F8 N ds = some r → Pure Tryz.prog 8 ds r := spec_ok fun a r h => by
  cases h
  exact Pure.le (r := .agg [I a.2.Key, I 1, I 0, I 0, .c (.lit (.slice none 0 0))]) (pure_of_run (wr := []) mach0 (by kernel_rfl)) (DLe.of_nrm rfl)
theorem do_nil_eq {N : Nat} {p0 : Int} {p1 : api_Request} {r : api_Reply} (h : do_nil N p0 p1 = some r) : F8 N [(.c (.lit (.pointer none))), (I p0), (ST (api_Request.enc p1))] = some (ST (api_Reply.enc r)) := spec_eq (a := (p0, p1)) (by
  intro a b h
  obtain ⟨a0, a1⟩ := a
  obtain ⟨b0, b1⟩ := b
  simp only [List.cons.injEq, and_true, true_and] at h
  rw [I_inj h.1, ST_inj api_Request.inj h.2]) h
/- drayage/drayagelaw24.SubmitNil -/
def drayagelaw24_SubmitNil_j0 (N : Nat) (x10 : Bool) : Option Bool :=
  some x10

def drayagelaw24_SubmitNil (N : Nat) (p0 : api_Call) : Option Bool :=
  (awake24 N).bind fun r1 =>
  if (!r1) = true then
    some false
  else
    (check_nil N p0.User p0.Request).bind fun r4 =>
    if (r4 == 1) = true then
      (do_nil N p0.User p0.Request).bind fun r6 =>
      (drayageref09_Same N r6 ({ Key := p0.Request.Key, Err := 1, Job := 0, Version := 0, Nums := [] } : api_Reply)).bind fun r8 =>
      drayagelaw24_SubmitNil_j0 N r8
    else
      drayagelaw24_SubmitNil_j0 N false

noncomputable def S3 (N : Nat) : Specs := [(5, F5 N), (6, F6 N), (8, F8 N), (7, F7 N)]
theorem O3 (N : Nat) : OrcOk Tryz.prog (callOrc (S3 N)) := callOrc_ok (SpecsOk.cons (K5 N) <| SpecsOk.cons (K6 N) <| SpecsOk.cons (K8 N) <| SpecsOk.cons (K7 N) <| SpecsOk.nil)
theorem drayagelaw24_SubmitNil_ok (N : Nat) (p0 : api_Call) (r : Bool) (h : drayagelaw24_SubmitNil N p0 = some r) : Pure Tryz.prog 3 [(ST (api_Call.enc p0))] (B r) := by
  have O := O3
  refine pure_of_sem Tryz.func3 (by kernel_rfl) C3 (Nat.le_of_ble_eq_true rfl) ?_
  unfold drayagelaw24_SubmitNil at h
  unfold A3
  dsimp only [zipAL]
  refine Sem.seq ?_
  refine Sem.reg mix (O N) (Trc.op (d := (.ptr 0 0 18)) (σ1 := [.cells ((api_Call.enc p0).map .c)]) (op_box rfl rfl rfl rfl) gd_none rfl <| Trc.op (op_mov rfl) gd_none rfl <| Trc.nil) ?_
  refine ⟨_, _, .refl, ?_⟩
  refine Sem.seq ?_
  refine Sem.seq ?_
  obtain ⟨r1, e2, h⟩ := Option.bind_eq_some_iff.1 h
  refine Sem.reg mix (O N) (Trc.op (d := (B r1)) (op_call rfl rfl (callOrc_data rfl rfl rfl (awake24_eq e2) rfl)) gd_none rfl <| Trc.op (d := (B (!r1))) (op_un rfl rfl rfl rfl) gd_none rfl <| Trc.nil) ?_
  refine ⟨_, _, .refl, ?_⟩
  refine Sem.cond rfl (fun c3 => ?_) (fun c3 => ?_)
  · rw [if_pos c3] at h
    refine Sem.seq ?_
    refine Sem.reg mix (O N) (Trc.op (op_mov rfl) gd_none rfl <| Trc.nil) ?_
    refine ⟨_, _, .refl, ?_⟩
    refine Sem.ret mix ?_
    cases h
    exact ⟨.inr rfl, _, _, rfl, rfl, DLe.of_nrm rfl⟩
  · rw [if_neg (ne_t c3)] at h
    refine Sem.skip mix ?_
    refine ⟨_, _, .refl, ?_⟩
    refine Sem.join (fun (x10 : Bool) => [(2, (B x10))]) (fun (x10 : Bool) => [.cells ((api_Call.enc p0).map .c)]) (fun (x10 : Bool) => drayagelaw24_SubmitNil_j0 N  x10 = some r) ?_ ?_
    · intro x10 h
      try dsimp only at h ⊢
      unfold drayagelaw24_SubmitNil_j0 at h
      refine Sem.ret mix ?_
      cases h
      exact ⟨.inr rfl, _, _, rfl, rfl, DLe.of_nrm rfl⟩
    · obtain ⟨r4, e5, h⟩ := Option.bind_eq_some_iff.1 h
      rcases Bool.eq_false_or_eq_true (r4 == 1) with g1 | g1
      · rw [if_pos g1] at h
        obtain ⟨r6, e7, h⟩ := Option.bind_eq_some_iff.1 h
        obtain ⟨r8, e9, h⟩ := Option.bind_eq_some_iff.1 h
        refine Sem.drw mix (O N) (Trc.op (d := (.ptr 0 0 18)) (op_fld rfl) gd_none rfl <| Trc.op (d := (I p0.User)) (op_load rfl rfl rfl) gd_none rfl <| Trc.op (d := (.ptr 0 1 18)) (op_fld rfl) gd_none rfl <| Trc.op (d := (ST (api_Request.enc p0.Request))) (op_load rfl rfl rfl) gd_none rfl <| Trc.op (d := (I r4)) (op_call rfl rfl (callOrc_data rfl rfl rfl (check_nil_eq e5) rfl)) gd_none rfl <| Trc.op (d := (B (r4 == 1))) (op_bin rfl rfl rfl rfl rfl rfl) gd_none rfl <| Trc.op (op_mov rfl) gd_none rfl <| Trc.op (d := (.ptr 0 0 18)) (op_fld rfl) (gd_open rfl g1) rfl <| Trc.op (d := (I p0.User)) (op_load rfl rfl rfl) (gd_open rfl g1) rfl <| Trc.op (d := (.ptr 0 1 18)) (op_fld rfl) (gd_open rfl g1) rfl <| Trc.op (d := (ST (api_Request.enc p0.Request))) (op_load rfl rfl rfl) (gd_open rfl g1) rfl <| Trc.op (d := (ST (api_Reply.enc r6))) (op_call rfl rfl (callOrc_data rfl rfl rfl (do_nil_eq e7) rfl)) (gd_open rfl g1) rfl <| Trc.op (d := (.ptr 0 1 18)) (op_fld rfl) (gd_open rfl g1) rfl <| Trc.op (d := (.ptr 0 2 18)) (op_fld rfl) (gd_open rfl g1) rfl <| Trc.op (d := (I p0.Request.Key)) (op_load rfl rfl rfl) (gd_open rfl g1) rfl <| Trc.op (d := (.agg [(I p0.Request.Key), (I 1), (I 0), (I 0), (.c (.lit (.slice none 0 0)))])) (op_build rfl) (gd_open rfl g1) rfl <| Trc.op (d := (B r8)) (op_call rfl rfl (callOrc_data rfl rfl rfl (drayageref09_Same_eq e9) rfl)) (gd_open rfl g1) rfl <| Trc.op (op_pickT rfl g1 rfl) gd_none rfl <| Trc.op (op_mov rfl) gd_none rfl <| Trc.nil) (by kernel_rfl) ?_
        exact ⟨r8, h, .same (sS rfl <| trivial)⟩
      · rw [if_neg (ne_t g1)] at h
        refine Sem.drw mix (O N) (Trc.op (d := (.ptr 0 0 18)) (op_fld rfl) gd_none rfl <| Trc.op (d := (I p0.User)) (op_load rfl rfl rfl) gd_none rfl <| Trc.op (d := (.ptr 0 1 18)) (op_fld rfl) gd_none rfl <| Trc.op (d := (ST (api_Request.enc p0.Request))) (op_load rfl rfl rfl) gd_none rfl <| Trc.op (d := (I r4)) (op_call rfl rfl (callOrc_data rfl rfl rfl (check_nil_eq e5) rfl)) gd_none rfl <| Trc.op (d := (B (r4 == 1))) (op_bin rfl rfl rfl rfl rfl rfl) gd_none rfl <| Trc.op (op_mov rfl) gd_none rfl <| Trc.no (gd_shut rfl g1) rfl <| Trc.no (gd_shut rfl g1) rfl <| Trc.no (gd_shut rfl g1) rfl <| Trc.no (gd_shut rfl g1) rfl <| Trc.no (gd_shut rfl g1) rfl <| Trc.no (gd_shut rfl g1) rfl <| Trc.no (gd_shut rfl g1) rfl <| Trc.no (gd_shut rfl g1) rfl <| Trc.no (gd_shut rfl g1) rfl <| Trc.no (gd_shut rfl g1) rfl <| Trc.op (op_pickF rfl g1 rfl) gd_none rfl <| Trc.op (op_mov rfl) gd_none rfl <| Trc.nil) (by kernel_rfl) ?_
        exact ⟨false, h, .same (sS rfl <| trivial)⟩
noncomputable def F3 (N : Nat) : List D → Option D := spec (A := api_Call) (R := Bool) (fun a => [(ST (api_Call.enc a))]) (fun r => (B r)) (fun a => drayagelaw24_SubmitNil N a)
theorem K3 (N : Nat) : ∀ ds r, F3 N ds = some r → Pure Tryz.prog 3 ds r := spec_ok fun a r h => drayagelaw24_SubmitNil_ok N a r h
theorem drayagelaw24_SubmitNil_eq {N : Nat} {p0 : api_Call} {r : Bool} (h : drayagelaw24_SubmitNil N p0 = some r) : F3 N [(ST (api_Call.enc p0))] = some (B r) := spec_eq (a := p0) (by
  intro a b h
  have hh := h
  simp only [List.cons.injEq, and_true] at hh
  have h0 := hh
  have q0 := ST_inj api_Call.inj h0
  exact q0) h

theorem Ints_refl (N : Nat) (h : 0 < N) : drayageref01_Ints N [] [] = some true := by
  obtain ⟨k, rfl⟩ : ∃ k, N = k + 1 := ⟨N - 1, by omega⟩
  simp [drayageref01_Ints, drayageref01_Ints_l0]

theorem law_true (c : api_Call) : drayagelaw24_SubmitNil 1 c = some true := by
  simp [drayagelaw24_SubmitNil, awake24, check_nil, do_nil, drayageref09_Same, drayageref09_Same_j0, Ints_refl, drayagelaw24_SubmitNil_j0]

theorem runLaw (c : api_Call) : Pure Tryz.prog 3 [ST (api_Call.enc c)] (B true) := drayagelaw24_SubmitNil_ok 1 c true (law_true c)
end Go.Abs
