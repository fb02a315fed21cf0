/- The code computes these functions (1). -/
import Derived.Test.YtffiheekdcaihaaDoorTzPure
import Derived.Test.YtffiheekdcaihaaDoorTzAcode
import Derived.Test.YtffiheekdcaihaaDoorDfwSh
set_option linter.all false
namespace Go.Abs
variable [Gl]
open Go.Proofs
set_option linter.unusedVariables false
set_option maxRecDepth 100000
set_option maxHeartbeats 2000000
theorem mix : Tryd.prog.follows .mixedOrders = true := by kernel_rfl
theorem O0 : zaO Tryd.prog (zat []) := zap zaj.nil
theorem api_Flaw_eqv (a b : zae) : zbR Tryd.prog (Op.equalIn 10000 46 (.agg #[.int .i64 a.What, .int .i64 a.Where]) (.agg #[.int .i64 b.What, .int .i64 b.Where])) = some (decide (a = b)) := by
  have h : zbR Tryd.prog (Op.equalIn 10000 46 (.agg #[.int .i64 a.What, .int .i64 a.Where]) (.agg #[.int .i64 b.What, .int .i64 b.Where])) = some (a.What == b.What && (a.Where == b.Where && true)) := eq_agg (d := 9999) Tryd.underlying46 (by kernel_rfl) (eqF_cons Z (by kernel_rfl) (by kernel_rfl) (eq_int (k := .i64) Tryd.underlying3) <| eqF_cons Z (by kernel_rfl) (by kernel_rfl) (eq_int (k := .i64) Tryd.underlying3) <|  eqF_nil)
  rw [h]
  obtain ⟨a0, a1⟩ := a
  obtain ⟨b0, b1⟩ := b
  congr 1
  rw [Bool.eq_iff_iff]
  simp [zae.mk.injEq]
theorem api_Flaw_eql {orc : Orc} {n : Nat} {al : AL} {σ : Heap} {x y : Operand} {t' ty : TypeId} {a b : zae} (h1 : oev al x = some (ST a.enc)) (h2 : oev al y = some (ST b.enc)) : OpR Tryd.prog orc n al σ (.gen (.binOp .eql 46 x y t') ty) (B (decide (a = b))) σ [] :=
  op_bin h1 h2 Z Z (bin_eql (by kernel_rfl) (api_Flaw_eqv a b)) Z
theorem api_Flaw_neq {orc : Orc} {n : Nat} {al : AL} {σ : Heap} {x y : Operand} {t' ty : TypeId} {a b : zae} (h1 : oev al x = some (ST a.enc)) (h2 : oev al y = some (ST b.enc)) : OpR Tryd.prog orc n al σ (.gen (.binOp .neq 46 x y t') ty) (B (!decide (a = b))) σ [] :=
  op_bin h1 h2 Z Z (bin_neq (by kernel_rfl) (api_Flaw_eqv a b)) Z
theorem api_Res_eqv (a b : zac) : zbR Tryd.prog (Op.equalIn 10000 51 (.agg #[.int .i64 a.Cpu, .int .i64 a.Mem, .int .i64 a.Gpu, .int .i64 a.Lic]) (.agg #[.int .i64 b.Cpu, .int .i64 b.Mem, .int .i64 b.Gpu, .int .i64 b.Lic])) = some (decide (a = b)) := by
  have h : zbR Tryd.prog (Op.equalIn 10000 51 (.agg #[.int .i64 a.Cpu, .int .i64 a.Mem, .int .i64 a.Gpu, .int .i64 a.Lic]) (.agg #[.int .i64 b.Cpu, .int .i64 b.Mem, .int .i64 b.Gpu, .int .i64 b.Lic])) = some (a.Cpu == b.Cpu && (a.Mem == b.Mem && (a.Gpu == b.Gpu && (a.Lic == b.Lic && true)))) := eq_agg (d := 9999) Tryd.underlying51 (by kernel_rfl) (eqF_cons Z (by kernel_rfl) (by kernel_rfl) (eq_int (k := .i64) Tryd.underlying3) <| eqF_cons Z (by kernel_rfl) (by kernel_rfl) (eq_int (k := .i64) Tryd.underlying3) <| eqF_cons Z (by kernel_rfl) (by kernel_rfl) (eq_int (k := .i64) Tryd.underlying3) <| eqF_cons Z (by kernel_rfl) (by kernel_rfl) (eq_int (k := .i64) Tryd.underlying3) <|  eqF_nil)
  rw [h]
  obtain ⟨a0, a1, a2, a3⟩ := a
  obtain ⟨b0, b1, b2, b3⟩ := b
  congr 1
  rw [Bool.eq_iff_iff]
  simp [zac.mk.injEq]
theorem api_Res_eql {orc : Orc} {n : Nat} {al : AL} {σ : Heap} {x y : Operand} {t' ty : TypeId} {a b : zac} (h1 : oev al x = some (ST a.enc)) (h2 : oev al y = some (ST b.enc)) : OpR Tryd.prog orc n al σ (.gen (.binOp .eql 51 x y t') ty) (B (decide (a = b))) σ [] :=
  op_bin h1 h2 Z Z (bin_eql (by kernel_rfl) (api_Res_eqv a b)) Z
theorem api_Res_neq {orc : Orc} {n : Nat} {al : AL} {σ : Heap} {x y : Operand} {t' ty : TypeId} {a b : zac} (h1 : oev al x = some (ST a.enc)) (h2 : oev al y = some (ST b.enc)) : OpR Tryd.prog orc n al σ (.gen (.binOp .neq 51 x y t') ty) (B (!decide (a = b))) σ [] :=
  op_bin h1 h2 Z Z (bin_neq (by kernel_rfl) (api_Res_eqv a b)) Z
noncomputable def S76 (N : Nat) : za1 := []
theorem O76 (N : Nat) : zaO Tryd.prog (zat (S76 N)) := zap (zaj.nil)
theorem vec_numbers_ok (N : Nat) (p0 : zac) (r : (Int × Int × Int × Int)) (h : zfp N p0 = some r) : za9 Tryd.prog 76 [(ST (zac.enc p0))] (.agg [I r.1, I r.2.1, I r.2.2.1, I r.2.2.2]) := by
  have O := And.intro mix (O76 N)
  refine zan Tryd.func76 (by kernel_rfl) C76 (bl Z) ?_
  unfold zfp at h
  unfold A76
  dsimp only [zbc]
  refine sq <| rq O <| o (d := (.ptr 0 0 4)) (σ1 := [cm (zac.enc p0)]) (zba Z Z Z Z) Z <| o (d := (.ptr 1 0 4)) (σ1 := [cm (zac.enc p0), .cells [I 0, I 0, I 0, I 0]]) (zaG Z Z) Z <| nl <| nx <| sq <| rq O <| o (d := (.ptr 0 0 4)) (zaf Z) Z <| l (d := (I p0.Cpu)) Z <| o (d := (.ptr 0 1 4)) (zaf Z) Z <| l (d := (I p0.Mem)) Z <| o (d := (.ptr 0 2 4)) (zaf Z) Z <| l (d := (I p0.Gpu)) Z <| o (d := (.ptr 0 3 4)) (zaf Z) Z <| l (d := (I p0.Lic)) Z <| o (d := (.agg [I p0.Cpu, I p0.Mem, I p0.Gpu, I p0.Lic])) (zbB (by kernel_rfl)) Z <| st (σ1 := [cm (zac.enc p0), .cells [I p0.Cpu, I p0.Mem, I p0.Gpu, I p0.Lic]]) Z <| nl <| nx <| Sem.ret mix ?_
  cases h
  exact ⟨.inr Z, _, _, Z, Z, DLe.of_nrm Z⟩
noncomputable def F76 (N : Nat) : List D → Option D := spec (A := zac) (R := (Int × Int × Int × Int)) (fun a => [(ST (zac.enc a))]) (fun r => (.agg [I r.1, I r.2.1, I r.2.2.1, I r.2.2.2])) (fun a => zfp N a)
theorem K76 (N : Nat) : ∀ ds r, F76 N ds = some r → za9 Tryd.prog 76 ds r := zav fun a r h => vec_numbers_ok N a r h
theorem vec_numbers_eq {N : Nat} {p0 : zac} {r : (Int × Int × Int × Int)} (h : zfp N p0 = some r) : F76 N [(ST (zac.enc p0))] = some (.agg [I r.1, I r.2.1, I r.2.2.1, I r.2.2.2]) := zaw (a := p0) (ij1 (zbx zac.inj)) h
noncomputable def S44 (N : Nat) : za1 := [(76, F76 N)]
theorem O44 (N : Nat) : zaO Tryd.prog (zat (S44 N)) := zap (zaj.cons (K76 N) <| zaj.nil)
theorem vec_Right_ok (N : Nat) (p0 : zac) (r : Bool) (h : vec_Right N p0 = some r) : za9 Tryd.prog 44 [(ST (zac.enc p0))] (B r) := by
  have O := And.intro mix (O44 N)
  refine zan Tryd.func44 (by kernel_rfl) C44 (bl Z) ?_
  unfold vec_Right at h
  unfold A44
  dsimp only [zbc]
  refine sq <| rq O <| o (d := (.ptr 0 0 4)) (σ1 := [cm (zac.enc p0)]) (zba Z Z Z Z) Z <| m Z <| nl <| nx <| sq <| sq <| rq O <| l (d := (ST (zac.enc p0))) Z <| ?_
  obtain ⟨r1, e2, h⟩ := bs h
  refine o (d := (.agg [I r1.1, I r1.2.1, I r1.2.2.1, I r1.2.2.2])) (ca (vec_numbers_eq e2) Z) Z <| m Z <| nl <| nx <| Sem.block <| Sem.rounds (V := Int) (fun (x3 : Int) => [(6, (.agg [I r1.1, I r1.2.1, I r1.2.2.1, I r1.2.2.2])), (7, (I x3))]) (fun (x3 : Int) => [cm (zac.enc p0)]) (fun k v => zfg N r1 k v = some r) N 0 h (fun v h => by unfold zfg at h; cases h) ?_ (sS Z <| sS Z <| sZ) Z
  intro kL0 x3 h
  try dsimp only at h ⊢
  unfold zfg at h
  unfold A44xl0
  refine sq <| rq O <| o (d := (B (decide (x3 < 4)))) (bo Z) Z <| nl <| nx <| sq <| Sem.cond Z (fun c4 => ?_) (fun c4 => ?_)
  ·rw [if_pos c4] at h
   refine Sem.skip mix <| nx <| sq <| Sem.block <| sq <| rq O ?_
   obtain ⟨a5, e6, h⟩ := bs h
   refine o (d := (I a5)) (op_aidx (f := fun z => (I z)) (l := [r1.1, r1.2.1, r1.2.2.1, r1.2.2.2]) Z Z e6 Z Z) Z <| m Z <| nl <| nx <| Sem.step [(6, (.agg [I r1.1, I r1.2.1, I r1.2.2.1, I r1.2.2.2])), (7, (I x3)), (15, (B ((decide (a5 < 0)) || (decide (a5 > 1048576)))))] [cm (zac.enc p0)] (rq O ?_) ?_
   ·refine m Z <| o (d := (B (decide (a5 < 0)))) (bo Z) Z <| m Z <| ?_
    rcases bb (decide (a5 < 0)) with g2 | g2
    ·refine TrQ.know (v := true) 12 Z g2 <| TrQ.skipG 2 Z <| pT Z Z <| nl ⟨rfl, .same (sS Z <| sS Z <| sE Z (by rw [g2]; rfl) <| sZ)⟩
    ·refine mo g2 Z <| q (d := (B (decide (a5 > 1048576)))) (bo Z) g2 Z <| pF g2 Z <| nl ⟨rfl, .same (sS Z <| sS Z <| sE Z (by rw [g2]; rfl) <| sZ)⟩
   ·refine Sem.cond Z (fun c7 => ?_) (fun c7 => ?_)
    ·rw [if_pos c7] at h
     refine sq <| rq O <| m Z <| nl <| nx <| Sem.ret mix <| nx <| nx <| nx ?_
     cases h
     exact ⟨.inr Z, _, _, Z, Z, DLe.of_nrm Z⟩
    ·rw [if_neg (zaH c7)] at h
     refine Sem.skip mix <| nx <| nx <| rq O <| o (d := (I (IntKind.i64.wrap (x3 + 1)))) (bo Z) Z <| m Z <| nl ?_
     exact ⟨(IntKind.i64.wrap (x3 + 1)), h, .same (sS Z <| sS Z <| sZ)⟩
  ·rw [if_neg (zaH c4)] at h
   refine Sem.exit mix <| nx <| ⟨_, _, .refl, fun _ => ?_, fun hh => absurd Z hh⟩
   refine nx <| sq <| rq O <| m Z <| nl <| nx <| Sem.ret mix ?_
   cases h
   exact ⟨.inr Z, _, _, Z, Z, DLe.of_nrm Z⟩
noncomputable def F44 (N : Nat) : List D → Option D := spec (A := zac) (R := Bool) (fun a => [(ST (zac.enc a))]) (fun r => (B r)) (fun a => vec_Right N a)
theorem K44 (N : Nat) : ∀ ds r, F44 N ds = some r → za9 Tryd.prog 44 ds r := zav fun a r h => vec_Right_ok N a r h
theorem vec_Right_eq {N : Nat} {p0 : zac} {r : Bool} (h : vec_Right N p0 = some r) : F44 N [(ST (zac.enc p0))] = some (B r) := zaw (a := p0) (ij1 (zbx zac.inj)) h
noncomputable def S91 (N : Nat) : za1 := [(44, F44 N)]
theorem O91 (N : Nat) : zaO Tryd.prog (zat (S91 N)) := zap (zaj.cons (K44 N) <| zaj.nil)
theorem spec_nodesRight_ok (N : Nat) (p0 : zab) (r : Bool) (h : zdO N p0 = some r) : za9 Tryd.prog 91 [(ST (zab.enc p0))] (B r) := by
  have O := And.intro mix (O91 N)
  refine zan Tryd.func91 (by kernel_rfl) C91 (bl Z) ?_
  unfold zdO at h
  unfold A91
  dsimp only [zbc]
  refine sq <| rq O <| o (d := (.ptr 0 0 18)) (σ1 := [cm (zab.enc p0)]) (zba Z Z Z Z) Z <| m Z <| nl <| nx <| sq <| Sem.step [(1, (.ptr 0 0 18)), (14, (B ((decide ((p0.Nodes.length : Int) < 1)) || (decide ((p0.Nodes.length : Int) > 16)))))] [cm (zab.enc p0)] (rq O ?_) ?_
  ·refine o (d := (.ptr 0 0 18)) (zaf Z) Z <| l (d := (SL zac.enc p0.Nodes)) Z <| o (d := (I (p0.Nodes.length : Int))) (zaA Z) Z <| o (d := (B (decide ((p0.Nodes.length : Int) < 1)))) (bo Z) Z <| m Z <| ?_
   rcases bb (decide ((p0.Nodes.length : Int) < 1)) with g1 | g1
   ·refine TrQ.know (v := true) 9 Z g1 <| TrQ.skipG 4 Z <| pT Z Z <| nl ⟨rfl, .same (sS Z <| sE Z (by rw [g1]; rfl) <| sZ)⟩
   ·refine q (d := (.ptr 0 0 18)) (zaf Z) g1 Z <| lo (d := (SL zac.enc p0.Nodes)) g1 Z <| q (d := (I (p0.Nodes.length : Int))) (zaA Z) g1 Z <| q (d := (B (decide ((p0.Nodes.length : Int) > 16)))) (bo Z) g1 Z <| pF g1 Z <| nl ⟨rfl, .same (sS Z <| sE Z (by rw [g1]; rfl) <| sZ)⟩
  ·refine Sem.cond Z (fun c1 => ?_) (fun c1 => ?_)
   ·rw [if_pos c1] at h
    refine sq <| rq O <| m Z <| nl <| nx <| Sem.ret mix ?_
    cases h
    exact ⟨.inr Z, _, _, Z, Z, DLe.of_nrm Z⟩
   ·rw [if_neg (zaH c1)] at h
    refine Sem.skip mix <| nx <| sq <| sq <| rq O <| o (d := (.ptr 0 0 18)) (zaf Z) Z <| l (d := (SL zac.enc p0.Nodes)) Z <| o (d := (I (p0.Nodes.length : Int))) (zaA Z) Z <| m Z <| nl <| nx <| Sem.block <| Sem.rounds (V := Int) (fun (x2 : Int) => [(16, (SL zac.enc p0.Nodes)), (17, (I (p0.Nodes.length : Int))), (18, (I x2))]) (fun (x2 : Int) => [cm (zab.enc p0)]) (fun k v => zc5 N p0 k v = some r) N 0 h (fun v h => by unfold zc5 at h; cases h) ?_ (sS Z <| sS Z <| sS Z <| sZ) Z
    intro kL0 x2 h
    try dsimp only at h ⊢
    unfold zc5 at h
    unfold A91xl0
    refine sq <| rq O <| o (d := (B (decide (x2 < (p0.Nodes.length : Int))))) (bo Z) Z <| nl <| nx <| sq <| Sem.cond Z (fun c3 => ?_) (fun c3 => ?_)
    ·rw [if_pos c3] at h
     refine Sem.skip mix <| nx <| sq <| Sem.block <| sq <| rq O ?_
     obtain ⟨a4, e5, h⟩ := bs h
     refine o (zaF Z Z e5 Z) Z <| o (d := (ST (zac.enc a4))) (zal Z Z) Z <| o (d := (.ptr 1 0 4)) (σ1 := [cm (zab.enc p0), .cells [I 0, I 0, I 0, I 0]]) (zaG Z Z) Z <| st (σ1 := [cm (zab.enc p0), cm (zac.enc a4)]) Z <| nl <| nx <| sq <| rq O <| l (d := (ST (zac.enc a4))) Z <| ?_
     obtain ⟨r6, e7, h⟩ := bs h
     refine o (d := (B r6)) (ca (vec_Right_eq e7) Z) Z <| o (d := (B (!r6))) (zbA Z Z Z Z) Z <| nl <| nx <| Sem.cond Z (fun c8 => ?_) (fun c8 => ?_)
     ·rw [if_pos c8] at h
      refine sq <| rq O <| m Z <| nl <| nx <| Sem.ret mix <| nx <| nx <| nx ?_
      cases h
      exact ⟨.inr Z, _, _, Z, Z, DLe.of_nrm Z⟩
     ·rw [if_neg (zaH c8)] at h
      refine Sem.skip mix <| nx <| nx <| rq O <| o (d := (I (IntKind.i64.wrap (x2 + 1)))) (bo Z) Z <| m Z <| nl ?_
      exact ⟨(IntKind.i64.wrap (x2 + 1)), h, .cut 1 (bl Z) (bl Z) (sS Z <| sS Z <| sS Z <| sZ) Z Z⟩
    ·rw [if_neg (zaH c3)] at h
     refine Sem.exit mix <| nx <| ⟨_, _, .refl, fun _ => ?_, fun hh => absurd Z hh⟩
     refine nx <| sq <| rq O <| m Z <| nl <| nx <| Sem.ret mix ?_
     cases h
     exact ⟨.inr Z, _, _, Z, Z, DLe.of_nrm Z⟩
noncomputable def F91 (N : Nat) : List D → Option D := spec (A := zab) (R := Bool) (fun a => [(ST (zab.enc a))]) (fun r => (B r)) (fun a => zdO N a)
theorem K91 (N : Nat) : ∀ ds r, F91 N ds = some r → za9 Tryd.prog 91 ds r := zav fun a r h => spec_nodesRight_ok N a r h
theorem spec_nodesRight_eq {N : Nat} {p0 : zab} {r : Bool} (h : zdO N p0 = some r) : F91 N [(ST (zab.enc p0))] = some (B r) := zaw (a := p0) (ij1 (zbx zab.inj)) h
noncomputable def S100 (N : Nat) : za1 := []
theorem O100 (N : Nat) : zaO Tryd.prog (zat (S100 N)) := zap (zaj.nil)
theorem spec_ascending_ok (N : Nat) (p0 : (List Int)) (p1 : Int) (r : Bool) (h : zek N p0 p1 = some r) : za9 Tryd.prog 100 [(SL zah p0), I p1] (B r) := by
  have O := And.intro mix (O100 N)
  refine zan Tryd.func100 (by kernel_rfl) C100 (bl Z) ?_
  unfold zek at h
  unfold A100
  dsimp only [zbc]
  refine sq <| rq O <| m Z <| nl <| nx <| sq <| rq O <| m Z <| nl <| nx <| sq <| sq <| rq O <| m Z <| o (d := (I (p0.length : Int))) (zaA Z) Z <| m Z <| nl <| nx <| Sem.block <| Sem.rounds (V := Int × Int) (fun ((x1, x2) : Int × Int) => [(1, (I p1)), (5, (I x1)), (8, (SL zah p0)), (9, (I (p0.length : Int))), (10, (I x2))]) (fun ((x1, x2) : Int × Int) => []) (fun k v => zcT N p0 p1 k v.1 v.2 = some r) N ((-1), 0) h (fun v h => by unfold zcT at h; cases h) ?_ (sS Z <| sS Z <| sS Z <| sS Z <| sS Z <| sZ) Z
  intro kL0 v h
  obtain ⟨x1, x2⟩ := v
  try dsimp only at h ⊢
  unfold zcT at h
  unfold A100xl0
  refine sq <| rq O <| o (d := (B (decide (x2 < (p0.length : Int))))) (bo Z) Z <| nl <| nx <| sq <| Sem.cond Z (fun c3 => ?_) (fun c3 => ?_)
  ·rw [if_pos c3] at h
   refine Sem.skip mix <| nx <| sq <| Sem.block <| sq <| rq O ?_
   obtain ⟨a4, e5, h⟩ := bs h
   refine o (zaF Z Z e5 Z) Z <| o (d := (I a4)) (zal Z Z) Z <| m Z <| nl <| nx <| sq <| Sem.step [(1, (I p1)), (7, (I a4)), (8, (SL zah p0)), (9, (I (p0.length : Int))), (10, (I x2)), (21, (B ((decide (a4 ≤ x1)) || (decide (a4 ≥ p1)))))] [] (rq O ?_) ?_
   ·refine m Z <| m Z <| o (d := (B (decide (a4 ≤ x1)))) (bo Z) Z <| m Z <| ?_
    rcases bb (decide (a4 ≤ x1)) with g2 | g2
    ·refine TrQ.know (v := true) 17 Z g2 <| TrQ.skipG 3 Z <| pT Z Z <| nl ⟨rfl, .same (sS Z <| sS Z <| sS Z <| sS Z <| sS Z <| sE Z (by rw [g2]; rfl) <| sZ)⟩
    ·refine mo g2 Z <| mo g2 Z <| q (d := (B (decide (a4 ≥ p1)))) (bo Z) g2 Z <| pF g2 Z <| nl ⟨rfl, .same (sS Z <| sS Z <| sS Z <| sS Z <| sS Z <| sE Z (by rw [g2]; rfl) <| sZ)⟩
   ·refine Sem.cond Z (fun c6 => ?_) (fun c6 => ?_)
    ·rw [if_pos c6] at h
     refine sq <| rq O <| m Z <| nl <| nx <| Sem.ret mix <| nx <| nx <| nx ?_
     cases h
     exact ⟨.inr Z, _, _, Z, Z, DLe.of_nrm Z⟩
    ·rw [if_neg (zaH c6)] at h
     refine Sem.skip mix <| nx <| rq O <| m Z <| m Z <| nl <| nx <| nx <| rq O <| o (d := (I (IntKind.i64.wrap (x2 + 1)))) (bo Z) Z <| m Z <| nl ?_
     exact ⟨(a4, (IntKind.i64.wrap (x2 + 1))), h, .same (sS Z <| sS Z <| sS Z <| sS Z <| sS Z <| sZ)⟩
  ·rw [if_neg (zaH c3)] at h
   refine Sem.exit mix <| nx <| ⟨_, _, .refl, fun _ => ?_, fun hh => absurd Z hh⟩
   refine nx <| sq <| rq O <| m Z <| nl <| nx <| Sem.ret mix ?_
   cases h
   exact ⟨.inr Z, _, _, Z, Z, DLe.of_nrm Z⟩
noncomputable def F100 (N : Nat) : List D → Option D := spec (A := (List Int) × Int) (R := Bool) (fun a => [(SL zah a.1), I a.2]) (fun r => (B r)) (fun a => zek N a.1 a.2)
theorem K100 (N : Nat) : ∀ ds r, F100 N ds = some r → za9 Tryd.prog 100 ds r := zav fun a r h => spec_ascending_ok N a.1 a.2 r h
theorem spec_ascending_eq {N : Nat} {p0 : (List Int)} {p1 : Int} {r : Bool} (h : zek N p0 p1 = some r) : F100 N [(SL zah p0), I p1] = some (B r) := zaw (a := (p0, p1)) (ij2 (zeM zcf) zev) h
noncomputable def S93 (N : Nat) : za1 := [(100, F100 N)]
theorem O93 (N : Nat) : zaO Tryd.prog (zat (S93 N)) := zap (zaj.cons (K100 N) <| zaj.nil)
theorem spec_partsRight_ok (N : Nat) (p0 : zab) (r : Bool) (h : zdM N p0 = some r) : za9 Tryd.prog 93 [(ST (zab.enc p0))] (B r) := by
  have O := And.intro mix (O93 N)
  refine zan Tryd.func93 (by kernel_rfl) C93 (bl Z) ?_
  unfold zdM at h
  unfold A93
  dsimp only [zbc]
  refine sq <| rq O <| o (d := (.ptr 0 0 18)) (σ1 := [cm (zab.enc p0)]) (zba Z Z Z Z) Z <| m Z <| nl <| nx <| sq <| Sem.step [(1, (.ptr 0 0 18)), (14, (B ((decide ((p0.Parts.length : Int) < 1)) || (decide ((p0.Parts.length : Int) > 8)))))] [cm (zab.enc p0)] (rq O ?_) ?_
  ·refine o (d := (.ptr 0 1 18)) (zaf Z) Z <| l (d := (SL (encL zah) p0.Parts)) Z <| o (d := (I (p0.Parts.length : Int))) (zaA Z) Z <| o (d := (B (decide ((p0.Parts.length : Int) < 1)))) (bo Z) Z <| m Z <| ?_
   rcases bb (decide ((p0.Parts.length : Int) < 1)) with g1 | g1
   ·refine TrQ.know (v := true) 9 Z g1 <| TrQ.skipG 4 Z <| pT Z Z <| nl ⟨rfl, .same (sS Z <| sE Z (by rw [g1]; rfl) <| sZ)⟩
   ·refine q (d := (.ptr 0 1 18)) (zaf Z) g1 Z <| lo (d := (SL (encL zah) p0.Parts)) g1 Z <| q (d := (I (p0.Parts.length : Int))) (zaA Z) g1 Z <| q (d := (B (decide ((p0.Parts.length : Int) > 8)))) (bo Z) g1 Z <| pF g1 Z <| nl ⟨rfl, .same (sS Z <| sE Z (by rw [g1]; rfl) <| sZ)⟩
  ·refine Sem.cond Z (fun c1 => ?_) (fun c1 => ?_)
   ·rw [if_pos c1] at h
    refine sq <| rq O <| m Z <| nl <| nx <| Sem.ret mix ?_
    cases h
    exact ⟨.inr Z, _, _, Z, Z, DLe.of_nrm Z⟩
   ·rw [if_neg (zaH c1)] at h
    refine Sem.skip mix <| nx <| sq <| sq <| rq O <| o (d := (.ptr 0 1 18)) (zaf Z) Z <| l (d := (SL (encL zah) p0.Parts)) Z <| o (d := (I (p0.Parts.length : Int))) (zaA Z) Z <| m Z <| nl <| nx <| Sem.block <| Sem.rounds (V := Int) (fun (x2 : Int) => [(1, (.ptr 0 0 18)), (16, (SL (encL zah) p0.Parts)), (17, (I (p0.Parts.length : Int))), (18, (I x2))]) (fun (x2 : Int) => [cm (zab.enc p0)]) (fun k v => zcc N p0 k v = some r) N 0 h (fun v h => by unfold zcc at h; cases h) ?_ (sS Z <| sS Z <| sS Z <| sS Z <| sZ) Z
    intro kL0 x2 h
    try dsimp only at h ⊢
    unfold zcc at h
    unfold A93xl0
    refine sq <| rq O <| o (d := (B (decide (x2 < (p0.Parts.length : Int))))) (bo Z) Z <| nl <| nx <| sq <| Sem.cond Z (fun c3 => ?_) (fun c3 => ?_)
    ·rw [if_pos c3] at h
     refine Sem.skip mix <| nx <| sq <| Sem.block <| sq <| rq O ?_
     obtain ⟨a4, e5, h⟩ := bs h
     refine o (zaF Z Z e5 Z) Z <| o (d := (SL zah a4)) (zal Z Z) Z <| m Z <| nl <| nx <| Sem.join (fun (x8 : Bool) => [(1, (.ptr 0 0 18)), (16, (SL (encL zah) p0.Parts)), (17, (I (p0.Parts.length : Int))), (18, (I x2)), (32, (B x8))]) (fun (x8 : Bool) => [cm (zab.enc p0)]) (fun (x8 : Bool) => zeJ N x2 (zcc N p0 kL0) x8 = some r) ?_ (rq O ?_)
     ·intro x8 h
      try dsimp only at h ⊢
      unfold zeJ at h
      refine Sem.cond Z (fun c9 => ?_) (fun c9 => ?_)
      ·rw [if_pos c9] at h
       refine sq <| rq O <| m Z <| nl <| nx <| Sem.ret mix <| nx <| nx <| nx ?_
       cases h
       exact ⟨.inr Z, _, _, Z, Z, DLe.of_nrm Z⟩
      ·rw [if_neg (zaH c9)] at h
       refine Sem.skip mix <| nx <| nx <| rq O <| o (d := (I (IntKind.i64.wrap (x2 + 1)))) (bo Z) Z <| m Z <| nl ?_
       exact ⟨(IntKind.i64.wrap (x2 + 1)), h, .same (sS Z <| sS Z <| sS Z <| sS Z <| sZ)⟩
     ·refine m Z <| o (d := (I (a4.length : Int))) (zaA Z) Z <| o (d := (B (decide ((a4.length : Int) < 1)))) (bo Z) Z <| m Z <| ?_
      rcases bb (decide ((a4.length : Int) < 1)) with g3 | g3
      ·rw [if_pos g3] at h
       refine TrQ.know (v := true) 25 Z g3 <| TrQ.skipG 6 Z <| pT Z Z <| nl ?_
       exact ⟨true, h, .same (sS Z <| sS Z <| sS Z <| sS Z <| sS Z <| sZ)⟩
      ·rw [if_neg (zaH g3)] at h
       refine mo g3 Z <| q (d := (.ptr 0 0 18)) (zaf Z) g3 Z <| lo (d := (SL zac.enc p0.Nodes)) g3 Z <| q (d := (I (p0.Nodes.length : Int))) (zaA Z) g3 Z <| ?_
       obtain ⟨r10, e11, h⟩ := bs h
       refine q (d := (B r10)) (ca (spec_ascending_eq e11) Z) g3 Z <| q (d := (B (!r10))) (zbA Z Z Z Z) g3 Z <| pF g3 Z <| nl ?_
       exact ⟨(!r10), h, .same (sS Z <| sS Z <| sS Z <| sS Z <| sS Z <| sZ)⟩
    ·rw [if_neg (zaH c3)] at h
     refine Sem.exit mix <| nx <| ⟨_, _, .refl, fun _ => ?_, fun hh => absurd Z hh⟩
     refine nx <| sq <| rq O <| m Z <| nl <| nx <| Sem.ret mix ?_
     cases h
     exact ⟨.inr Z, _, _, Z, Z, DLe.of_nrm Z⟩
noncomputable def F93 (N : Nat) : List D → Option D := spec (A := zab) (R := Bool) (fun a => [(ST (zab.enc a))]) (fun r => (B r)) (fun a => zdM N a)
theorem K93 (N : Nat) : ∀ ds r, F93 N ds = some r → za9 Tryd.prog 93 ds r := zav fun a r h => spec_partsRight_ok N a r h
theorem spec_partsRight_eq {N : Nat} {p0 : zab} {r : Bool} (h : zdM N p0 = some r) : F93 N [(ST (zab.enc p0))] = some (B r) := zaw (a := p0) (ij1 (zbx zab.inj)) h
noncomputable def S94 (N : Nat) : za1 := []
theorem O94 (N : Nat) : zaO Tryd.prog (zat (S94 N)) := zap (zaj.nil)
theorem spec_within_ok (N : Nat) (p0 : ByteArray) (p1 : Int) (p2 : Int) (p3 : Int) (r : (ByteArray × Int × Int × Int)) (h : zcK N p0 p1 p2 p3 = some r) : za9 Tryd.prog 94 [(.c (.lit (.string p0))), I p1, I p2, I p3] (.agg [(.c (.lit (.string r.1))), (.c (.fn (.func 101) [] [.fptr (zah r.2.1) 0, .fptr (zah r.2.2.1) 0, .fptr (zah r.2.2.2) 0]))]) := by
  have O := And.intro mix (O94 N)
  refine zan Tryd.func94 (by kernel_rfl) C94 (bl Z) ?_
  unfold zcK at h
  unfold A94
  dsimp only [zbc]
  refine sq <| rq O <| o (d := (.ptr 0 0 1)) (σ1 := [.cells [I p1]]) (zba Z Z Z Z) Z <| o (d := (.ptr 1 0 1)) (σ1 := [.cells [I p1], .cells [I p2]]) (zba Z Z Z Z) Z <| o (d := (.ptr 2 0 1)) (σ1 := [.cells [I p1], .cells [I p2], .cells [I p3]]) (zba Z Z Z Z) Z <| o (d := (.ptr 3 0 2)) (σ1 := [.cells [I p1], .cells [I p2], .cells [I p3], .cells [(.c (.lit (.string (⟨#[]⟩ : ByteArray)))), (.c (.lit .nilFunc))]]) (zaG Z Z) Z <| nl <| nx <| sq <| rq O <| m Z <| o (d := (.fn (.func 101) [] [(.ptr 1 0 1), (.ptr 0 0 1), (.ptr 2 0 1)])) (zdz Z Z) Z <| o (d := (.agg [(.c (.lit (.string p0))), (.fn (.func 101) [] [(.ptr 1 0 1), (.ptr 0 0 1), (.ptr 2 0 1)])])) (zbB (by kernel_rfl)) Z <| st (σ1 := [.cells [I p1], .cells [I p2], .cells [I p3], .cells [(.c (.lit (.string p0))), (.fn (.func 101) [] [(.ptr 1 0 1), (.ptr 0 0 1), (.ptr 2 0 1)])]]) Z <| nl <| nx <| Sem.ret mix ?_
  cases h
  exact ⟨.inr Z, _, _, Z, Z, DLe.of_nrm Z⟩
noncomputable def F94 (N : Nat) : List D → Option D := spec (A := ByteArray × Int × Int × Int) (R := (ByteArray × Int × Int × Int)) (fun a => [(.c (.lit (.string a.1))), I a.2.1, I a.2.2.1, I a.2.2.2]) (fun r => (.agg [(.c (.lit (.string r.1))), (.c (.fn (.func 101) [] [.fptr (zah r.2.1) 0, .fptr (zah r.2.2.1) 0, .fptr (zah r.2.2.2) 0]))])) (fun a => zcK N a.1 a.2.1 a.2.2.1 a.2.2.2)
theorem K94 (N : Nat) : ∀ ds r, F94 N ds = some r → za9 Tryd.prog 94 ds r := zav fun a r h => spec_within_ok N a.1 a.2.1 a.2.2.1 a.2.2.2 r h
theorem zc3 {N : Nat} {p0 : ByteArray} {p1 : Int} {p2 : Int} {p3 : Int} {r : (ByteArray × Int × Int × Int)} (h : zcK N p0 p1 p2 p3 = some r) : F94 N [(.c (.lit (.string p0))), I p1, I p2, I p3] = some (.agg [(.c (.lit (.string r.1))), (.c (.fn (.func 101) [] [.fptr (zah r.2.1) 0, .fptr (zah r.2.2.1) 0, .fptr (zah r.2.2.2) 0]))]) := zaw (a := (p0, p1, p2, p3)) (ij4 Sd_inj zev zev zev) h
noncomputable def S96 (N : Nat) : za1 := [(100, F100 N)]
theorem O96 (N : Nat) : zaO Tryd.prog (zat (S96 N)) := zap (zaj.cons (K100 N) <| zaj.nil)
theorem spec_queuesRight_ok (N : Nat) (p0 : zab) (r : Bool) (h : zdf N p0 = some r) : za9 Tryd.prog 96 [(ST (zab.enc p0))] (B r) := by
  have O := And.intro mix (O96 N)
  refine zan Tryd.func96 (by kernel_rfl) C96 (bl Z) ?_
  unfold zdf at h
  unfold A96
  dsimp only [zbc]
  refine sq <| rq O <| o (d := (.ptr 0 0 18)) (σ1 := [cm (zab.enc p0)]) (zba Z Z Z Z) Z <| m Z <| nl <| nx <| sq <| Sem.step [(1, (.ptr 0 0 18)), (16, (B ((decide ((p0.Queues.length : Int) < 1)) || (decide ((p0.Queues.length : Int) > 8)))))] [cm (zab.enc p0)] (rq O ?_) ?_
  ·refine o (d := (.ptr 0 2 18)) (zaf Z) Z <| l (d := (SL zaq.enc p0.Queues)) Z <| o (d := (I (p0.Queues.length : Int))) (zaA Z) Z <| o (d := (B (decide ((p0.Queues.length : Int) < 1)))) (bo Z) Z <| m Z <| ?_
   rcases bb (decide ((p0.Queues.length : Int) < 1)) with g1 | g1
   ·refine TrQ.know (v := true) 11 Z g1 <| TrQ.skipG 4 Z <| pT Z Z <| nl ⟨rfl, .same (sS Z <| sE Z (by rw [g1]; rfl) <| sZ)⟩
   ·refine q (d := (.ptr 0 2 18)) (zaf Z) g1 Z <| lo (d := (SL zaq.enc p0.Queues)) g1 Z <| q (d := (I (p0.Queues.length : Int))) (zaA Z) g1 Z <| q (d := (B (decide ((p0.Queues.length : Int) > 8)))) (bo Z) g1 Z <| pF g1 Z <| nl ⟨rfl, .same (sS Z <| sE Z (by rw [g1]; rfl) <| sZ)⟩
  ·refine Sem.cond Z (fun c1 => ?_) (fun c1 => ?_)
   ·rw [if_pos c1] at h
    refine sq <| rq O <| m Z <| nl <| nx <| Sem.ret mix ?_
    cases h
    exact ⟨.inr Z, _, _, Z, Z, DLe.of_nrm Z⟩
   ·rw [if_neg (zaH c1)] at h
    refine Sem.skip mix <| nx <| sq <| sq <| rq O <| o (d := (.ptr 0 2 18)) (zaf Z) Z <| l (d := (SL zaq.enc p0.Queues)) Z <| o (d := (I (p0.Queues.length : Int))) (zaA Z) Z <| m Z <| nl <| nx <| Sem.block <| Sem.rounds (V := Int) (fun (x2 : Int) => [(1, (.ptr 0 0 18)), (18, (SL zaq.enc p0.Queues)), (19, (I (p0.Queues.length : Int))), (20, (I x2))]) (fun (x2 : Int) => [cm (zab.enc p0)]) (fun k v => za0 N p0 k v = some r) N 0 h (fun v h => by unfold za0 at h; cases h) ?_ (sS Z <| sS Z <| sS Z <| sS Z <| sZ) Z
    intro kL0 x2 h
    try dsimp only at h ⊢
    unfold za0 at h
    unfold A96xl1
    refine sq <| rq O <| o (d := (B (decide (x2 < (p0.Queues.length : Int))))) (bo Z) Z <| nl <| nx <| sq <| Sem.cond Z (fun c3 => ?_) (fun c3 => ?_)
    ·rw [if_pos c3] at h
     refine Sem.skip mix <| nx <| sq <| Sem.block <| sq <| rq O ?_
     obtain ⟨a4, e5, h⟩ := bs h
     refine o (zaF Z Z e5 Z) Z <| o (d := (ST (zaq.enc a4))) (zal Z Z) Z <| o (d := (.ptr 1 0 6)) (σ1 := [cm (zab.enc p0), .cells [I 0, sn, I 0, I 0, I 0, I 0]]) (zaG Z Z) Z <| st (σ1 := [cm (zab.enc p0), cm (zaq.enc a4)]) Z <| nl <| nx <| sq <| Sem.join (fun (x8 : Bool) => [(1, (.ptr 0 0 18)), (4, (.ptr 1 0 6)), (18, (SL zaq.enc p0.Queues)), (19, (I (p0.Queues.length : Int))), (20, (I x2)), (42, (B x8))]) (fun (x8 : Bool) => [cm (zab.enc p0), cm (zaq.enc a4)]) (fun (x8 : Bool) => zdA N x2 a4 (za0 N p0 kL0) x8 = some r) ?_ (rq O ?_)
     ·intro x8 h
      try dsimp only at h ⊢
      unfold zdA at h
      refine Sem.cond Z (fun c9 => ?_) (fun c9 => ?_)
      ·rw [if_pos c9] at h
       refine sq <| rq O <| m Z <| nl <| nx <| Sem.ret mix <| nx <| nx <| nx ?_
       cases h
       exact ⟨.inr Z, _, _, Z, Z, DLe.of_nrm Z⟩
      ·rw [if_neg (zaH c9)] at h
       refine Sem.skip mix <| nx <| sq <| sq <| rq O <| o (d := (.ptr 1 2 6)) (zaf Z) Z <| l (d := (I a4.MaxJobs)) Z <| o (d := (.ptr 1 3 6)) (zaf Z) Z <| l (d := (I a4.MaxRun)) Z <| o (d := (.ptr 1 4 6)) (zaf Z) Z <| l (d := (I a4.MaxUser)) Z <| o (d := (.agg [I a4.MaxJobs, I a4.MaxRun, I a4.MaxUser])) (zbB (by kernel_rfl)) Z <| m Z <| nl <| nx <| Sem.block <| Sem.rounds (V := Int) (fun (x10 : Int) => [(1, (.ptr 0 0 18)), (4, (.ptr 1 0 6)), (18, (SL zaq.enc p0.Queues)), (19, (I (p0.Queues.length : Int))), (20, (I x2)), (49, (.agg [I a4.MaxJobs, I a4.MaxRun, I a4.MaxUser])), (50, (I x10))]) (fun (x10 : Int) => [cm (zab.enc p0), cm (zaq.enc a4)]) (fun k v => zcH N x2 a4 (za0 N p0 kL0) k v = some r) N 0 h (fun v h => by unfold zcH at h; cases h) ?_ (sS Z <| sS Z <| sS Z <| sS Z <| sS Z <| sS Z <| sS Z <| sZ) Z
       intro kL2 x10 h
       try dsimp only at h ⊢
       unfold zcH at h
       unfold A96xl0
       refine sq <| rq O <| o (d := (B (decide (x10 < 3)))) (bo Z) Z <| nl <| nx <| sq <| Sem.cond Z (fun c11 => ?_) (fun c11 => ?_)
       ·rw [if_pos c11] at h
        refine Sem.skip mix <| nx <| sq <| Sem.block <| sq <| rq O ?_
        obtain ⟨a12, e13, h⟩ := bs h
        refine o (d := (I a12)) (op_aidx (f := fun z => (I z)) (l := [a4.MaxJobs, a4.MaxRun, a4.MaxUser]) Z Z e13 Z Z) Z <| m Z <| nl <| nx <| Sem.step [(1, (.ptr 0 0 18)), (4, (.ptr 1 0 6)), (18, (SL zaq.enc p0.Queues)), (19, (I (p0.Queues.length : Int))), (20, (I x2)), (49, (.agg [I a4.MaxJobs, I a4.MaxRun, I a4.MaxUser])), (50, (I x10)), (58, (B ((decide (a12 < 1)) || (decide (a12 > 256)))))] [cm (zab.enc p0), cm (zaq.enc a4)] (rq O ?_) ?_
        ·refine m Z <| o (d := (B (decide (a12 < 1)))) (bo Z) Z <| m Z <| ?_
         rcases bb (decide (a12 < 1)) with g8 | g8
         ·refine TrQ.know (v := true) 55 Z g8 <| TrQ.skipG 2 Z <| pT Z Z <| nl ⟨rfl, .same (sS Z <| sS Z <| sS Z <| sS Z <| sS Z <| sS Z <| sS Z <| sE Z (by rw [g8]; rfl) <| sZ)⟩
         ·refine mo g8 Z <| q (d := (B (decide (a12 > 256)))) (bo Z) g8 Z <| pF g8 Z <| nl ⟨rfl, .same (sS Z <| sS Z <| sS Z <| sS Z <| sS Z <| sS Z <| sS Z <| sE Z (by rw [g8]; rfl) <| sZ)⟩
        ·refine Sem.cond Z (fun c14 => ?_) (fun c14 => ?_)
         ·rw [if_pos c14] at h
          refine sq <| rq O <| m Z <| nl <| nx <| Sem.ret mix <| nx <| nx <| nx <| nx <| nx <| nx ?_
          cases h
          exact ⟨.inr Z, _, _, Z, Z, DLe.of_nrm Z⟩
         ·rw [if_neg (zaH c14)] at h
          refine Sem.skip mix <| nx <| nx <| rq O <| o (d := (I (IntKind.i64.wrap (x10 + 1)))) (bo Z) Z <| m Z <| nl ?_
          exact ⟨(IntKind.i64.wrap (x10 + 1)), h, .same (sS Z <| sS Z <| sS Z <| sS Z <| sS Z <| sS Z <| sS Z <| sZ)⟩
       ·rw [if_neg (zaH c11)] at h
        refine Sem.exit mix <| nx <| ⟨_, _, .refl, fun _ => ?_, fun hh => absurd Z hh⟩
        refine nx <| Sem.step [(1, (.ptr 0 0 18)), (18, (SL zaq.enc p0.Queues)), (19, (I (p0.Queues.length : Int))), (20, (I x2)), (67, (B ((decide (a4.Qos < 0)) || (decide (a4.Qos > 100)))))] [cm (zab.enc p0), cm (zaq.enc a4)] (rq O ?_) ?_
        ·refine o (d := (.ptr 1 5 6)) (zaf Z) Z <| l (d := (I a4.Qos)) Z <| o (d := (B (decide (a4.Qos < 0)))) (bo Z) Z <| m Z <| ?_
         rcases bb (decide (a4.Qos < 0)) with g9 | g9
         ·refine TrQ.know (v := true) 63 Z g9 <| TrQ.skipG 3 Z <| pT Z Z <| nl ⟨rfl, .same (sS Z <| sS Z <| sS Z <| sS Z <| sE Z (by rw [g9]; rfl) <| sZ)⟩
         ·refine q (d := (.ptr 1 5 6)) (zaf Z) g9 Z <| lo (d := (I a4.Qos)) g9 Z <| q (d := (B (decide (a4.Qos > 100)))) (bo Z) g9 Z <| pF g9 Z <| nl ⟨rfl, .same (sS Z <| sS Z <| sS Z <| sS Z <| sE Z (by rw [g9]; rfl) <| sZ)⟩
        ·refine Sem.cond Z (fun c15 => ?_) (fun c15 => ?_)
         ·rw [if_pos c15] at h
          refine sq <| rq O <| m Z <| nl <| nx <| Sem.ret mix <| nx <| nx <| nx ?_
          cases h
          exact ⟨.inr Z, _, _, Z, Z, DLe.of_nrm Z⟩
         ·rw [if_neg (zaH c15)] at h
          refine Sem.skip mix <| nx <| nx <| rq O <| o (d := (I (IntKind.i64.wrap (x2 + 1)))) (bo Z) Z <| m Z <| nl ?_
          exact ⟨(IntKind.i64.wrap (x2 + 1)), h, .cut 1 (bl Z) (bl Z) (sS Z <| sS Z <| sS Z <| sS Z <| sZ) Z Z⟩
     ·refine o (d := (.ptr 1 0 6)) (zaf Z) Z <| l (d := (I a4.Part)) Z <| o (d := (B (decide (a4.Part < 0)))) (bo Z) Z <| m Z <| ?_
      rcases bb (decide (a4.Part < 0)) with g10 | g10
      ·rw [if_pos g10] at h
       refine TrQ.know (v := true) 27 Z g10 <| TrQ.skipG 6 Z <| pT Z Z <| m Z <| TrQ.skipG 6 Z <| pT Z Z <| nl ?_
       exact ⟨true, h, .same (sS Z <| sS Z <| sS Z <| sS Z <| sS Z <| sS Z <| sZ)⟩
      ·rw [if_neg (zaH g10)] at h
       refine q (d := (.ptr 1 0 6)) (zaf Z) g10 Z <| lo (d := (I a4.Part)) g10 Z <| q (d := (.ptr 0 1 18)) (zaf Z) g10 Z <| lo (d := (SL (encL zah) p0.Parts)) g10 Z <| q (d := (I (p0.Parts.length : Int))) (zaA Z) g10 Z <| q (d := (B (decide (a4.Part ≥ (p0.Parts.length : Int))))) (bo Z) g10 Z <| pF g10 Z <| m Z <| ?_
       rcases bb (decide (a4.Part ≥ (p0.Parts.length : Int))) with g11 | g11
       ·rw [if_pos g11] at h
        refine TrQ.know (v := true) 35 Z g11 <| TrQ.skipG 6 Z <| pT Z Z <| nl ?_
        exact ⟨true, h, .same (sS Z <| sS Z <| sS Z <| sS Z <| sS Z <| sS Z <| sZ)⟩
       ·rw [if_neg (zaH g11)] at h
        refine q (d := (.ptr 1 1 6)) (zaf Z) g11 Z <| lo (d := (SL zah a4.Users)) g11 Z <| q (d := (.ptr 0 3 18)) (zaf Z) g11 Z <| lo (d := (I p0.Users)) g11 Z <| ?_
        obtain ⟨r16, e17, h⟩ := bs h
        refine q (d := (B r16)) (ca (spec_ascending_eq e17) Z) g11 Z <| q (d := (B (!r16))) (zbA Z Z Z Z) g11 Z <| pF g11 Z <| nl ?_
        exact ⟨(!r16), h, .same (sS Z <| sS Z <| sS Z <| sS Z <| sS Z <| sS Z <| sZ)⟩
    ·rw [if_neg (zaH c3)] at h
     refine Sem.exit mix <| nx <| ⟨_, _, .refl, fun _ => ?_, fun hh => absurd Z hh⟩
     refine nx <| sq <| rq O <| m Z <| nl <| nx <| Sem.ret mix ?_
     cases h
     exact ⟨.inr Z, _, _, Z, Z, DLe.of_nrm Z⟩
noncomputable def F96 (N : Nat) : List D → Option D := spec (A := zab) (R := Bool) (fun a => [(ST (zab.enc a))]) (fun r => (B r)) (fun a => zdf N a)
theorem K96 (N : Nat) : ∀ ds r, F96 N ds = some r → za9 Tryd.prog 96 ds r := zav fun a r h => spec_queuesRight_ok N a r h
theorem spec_queuesRight_eq {N : Nat} {p0 : zab} {r : Bool} (h : zdf N p0 = some r) : F96 N [(ST (zab.enc p0))] = some (B r) := zaw (a := p0) (ij1 (zbx zab.inj)) h
noncomputable def S98 (N : Nat) : za1 := []
theorem O98 (N : Nat) : zaO Tryd.prog (zat (S98 N)) := zap (zaj.nil)
theorem spec_weightsRight_ok (N : Nat) (p0 : za6) (r : Bool) (h : zer N p0 = some r) : za9 Tryd.prog 98 [(ST (za6.enc p0))] (B r) := by
  have O := And.intro mix (O98 N)
  refine zan Tryd.func98 (by kernel_rfl) C98 (bl Z) ?_
  unfold zer at h
  unfold A98
  dsimp only [zbc]
  refine sq <| rq O <| o (d := (.ptr 0 0 4)) (σ1 := [cm (za6.enc p0)]) (zba Z Z Z Z) Z <| m Z <| nl <| nx <| sq <| sq <| rq O <| o (d := (.ptr 0 0 4)) (zaf Z) Z <| l (d := (I p0.Age)) Z <| o (d := (.ptr 0 1 4)) (zaf Z) Z <| l (d := (I p0.Size)) Z <| o (d := (.ptr 0 2 4)) (zaf Z) Z <| l (d := (I p0.Qos)) Z <| o (d := (.ptr 0 3 4)) (zaf Z) Z <| l (d := (I p0.Share)) Z <| o (d := (.agg [I p0.Age, I p0.Size, I p0.Qos, I p0.Share])) (zbB (by kernel_rfl)) Z <| m Z <| nl <| nx <| Sem.block <| Sem.rounds (V := Int) (fun (x1 : Int) => [(13, (.agg [I p0.Age, I p0.Size, I p0.Qos, I p0.Share])), (14, (I x1))]) (fun (x1 : Int) => [cm (za6.enc p0)]) (fun k v => zcA N p0 k v = some r) N 0 h (fun v h => by unfold zcA at h; cases h) ?_ (sS Z <| sS Z <| sZ) Z
  intro kL0 x1 h
  try dsimp only at h ⊢
  unfold zcA at h
  unfold A98xl0
  refine sq <| rq O <| o (d := (B (decide (x1 < 4)))) (bo Z) Z <| nl <| nx <| sq <| Sem.cond Z (fun c2 => ?_) (fun c2 => ?_)
  ·rw [if_pos c2] at h
   refine Sem.skip mix <| nx <| sq <| Sem.block <| sq <| rq O ?_
   obtain ⟨a3, e4, h⟩ := bs h
   refine o (d := (I a3)) (op_aidx (f := fun z => (I z)) (l := [p0.Age, p0.Size, p0.Qos, p0.Share]) Z Z e4 Z Z) Z <| m Z <| nl <| nx <| Sem.step [(13, (.agg [I p0.Age, I p0.Size, I p0.Qos, I p0.Share])), (14, (I x1)), (22, (B ((decide (a3 < 0)) || (decide (a3 > 1000)))))] [cm (za6.enc p0)] (rq O ?_) ?_
   ·refine m Z <| o (d := (B (decide (a3 < 0)))) (bo Z) Z <| m Z <| ?_
    rcases bb (decide (a3 < 0)) with g2 | g2
    ·refine TrQ.know (v := true) 19 Z g2 <| TrQ.skipG 2 Z <| pT Z Z <| nl ⟨rfl, .same (sS Z <| sS Z <| sE Z (by rw [g2]; rfl) <| sZ)⟩
    ·refine mo g2 Z <| q (d := (B (decide (a3 > 1000)))) (bo Z) g2 Z <| pF g2 Z <| nl ⟨rfl, .same (sS Z <| sS Z <| sE Z (by rw [g2]; rfl) <| sZ)⟩
   ·refine Sem.cond Z (fun c5 => ?_) (fun c5 => ?_)
    ·rw [if_pos c5] at h
     refine sq <| rq O <| m Z <| nl <| nx <| Sem.ret mix <| nx <| nx <| nx ?_
     cases h
     exact ⟨.inr Z, _, _, Z, Z, DLe.of_nrm Z⟩
    ·rw [if_neg (zaH c5)] at h
     refine Sem.skip mix <| nx <| nx <| rq O <| o (d := (I (IntKind.i64.wrap (x1 + 1)))) (bo Z) Z <| m Z <| nl ?_
     exact ⟨(IntKind.i64.wrap (x1 + 1)), h, .same (sS Z <| sS Z <| sZ)⟩
  ·rw [if_neg (zaH c2)] at h
   refine Sem.exit mix <| nx <| ⟨_, _, .refl, fun _ => ?_, fun hh => absurd Z hh⟩
   refine nx <| sq <| rq O <| m Z <| nl <| nx <| Sem.ret mix ?_
   cases h
   exact ⟨.inr Z, _, _, Z, Z, DLe.of_nrm Z⟩
noncomputable def F98 (N : Nat) : List D → Option D := spec (A := za6) (R := Bool) (fun a => [(ST (za6.enc a))]) (fun r => (B r)) (fun a => zer N a)
theorem K98 (N : Nat) : ∀ ds r, F98 N ds = some r → za9 Tryd.prog 98 ds r := zav fun a r h => spec_weightsRight_ok N a r h
theorem spec_weightsRight_eq {N : Nat} {p0 : za6} {r : Bool} (h : zer N p0 = some r) : F98 N [(ST (za6.enc p0))] = some (B r) := zaw (a := p0) (ij1 (zbx za6.inj)) h
noncomputable def S85 (N : Nat) : za1 := [(94, F94 N)]
theorem O85 (N : Nat) : zaO Tryd.prog (zat (S85 N)) := zap (zaj.cons (K94 N) <| zaj.nil)
theorem spec_rules_ok (N : Nat) (p0 : zab) (r : (ByteArray × zab × ByteArray × ByteArray × Int × Int × Int × ByteArray × ByteArray × ByteArray × Int × Int × Int × ByteArray × ByteArray × Int × Int × Int × ByteArray × Int × Int × Int × ByteArray × Int × Int × Int × ByteArray × Int × Int × Int × ByteArray × Int × Int × Int × ByteArray × Int × Int × Int × ByteArray × Int × Int × Int × ByteArray × Int × Int × Int)) (h : spec_rules N p0 = some r) : za9 Tryd.prog 85 [(ST (zab.enc p0))] (.c (.frz false [[.lit (.string r.1), .fn (.func 90) [] [.fptr (zab.enc r.2.1) 0]], [.lit (.string r.2.2.1), .fn (.func 92) [] [.fptr (zab.enc r.2.1) 0]], [.lit (.string r.2.2.2.1), .fn (.func 101) [] [.fptr (zah r.2.2.2.2.1) 0, .fptr (zah r.2.2.2.2.2.1) 0, .fptr (zah r.2.2.2.2.2.2.1) 0]], [.lit (.string r.2.2.2.2.2.2.2.1), .fn (.func 95) [] [.fptr (zab.enc r.2.1) 0]], [.lit (.string r.2.2.2.2.2.2.2.2.1), .fn (.func 97) [] [.fptr (zab.enc r.2.1) 0]], [.lit (.string r.2.2.2.2.2.2.2.2.2.1), .fn (.func 101) [] [.fptr (zah r.2.2.2.2.2.2.2.2.2.2.1) 0, .fptr (zah r.2.2.2.2.2.2.2.2.2.2.2.1) 0, .fptr (zah r.2.2.2.2.2.2.2.2.2.2.2.2.1) 0]], [.lit (.string r.2.2.2.2.2.2.2.2.2.2.2.2.2.1), .fn (.func 99) [] [.fptr (zab.enc r.2.1) 0]], [.lit (.string r.2.2.2.2.2.2.2.2.2.2.2.2.2.2.1), .fn (.func 101) [] [.fptr (zah r.2.2.2.2.2.2.2.2.2.2.2.2.2.2.2.1) 0, .fptr (zah r.2.2.2.2.2.2.2.2.2.2.2.2.2.2.2.2.1) 0, .fptr (zah r.2.2.2.2.2.2.2.2.2.2.2.2.2.2.2.2.2.1) 0]], [.lit (.string r.2.2.2.2.2.2.2.2.2.2.2.2.2.2.2.2.2.2.1), .fn (.func 101) [] [.fptr (zah r.2.2.2.2.2.2.2.2.2.2.2.2.2.2.2.2.2.2.2.1) 0, .fptr (zah r.2.2.2.2.2.2.2.2.2.2.2.2.2.2.2.2.2.2.2.2.1) 0, .fptr (zah r.2.2.2.2.2.2.2.2.2.2.2.2.2.2.2.2.2.2.2.2.2.1) 0]], [.lit (.string r.2.2.2.2.2.2.2.2.2.2.2.2.2.2.2.2.2.2.2.2.2.2.1), .fn (.func 101) [] [.fptr (zah r.2.2.2.2.2.2.2.2.2.2.2.2.2.2.2.2.2.2.2.2.2.2.2.1) 0, .fptr (zah r.2.2.2.2.2.2.2.2.2.2.2.2.2.2.2.2.2.2.2.2.2.2.2.2.1) 0, .fptr (zah r.2.2.2.2.2.2.2.2.2.2.2.2.2.2.2.2.2.2.2.2.2.2.2.2.2.1) 0]], [.lit (.string r.2.2.2.2.2.2.2.2.2.2.2.2.2.2.2.2.2.2.2.2.2.2.2.2.2.2.1), .fn (.func 101) [] [.fptr (zah r.2.2.2.2.2.2.2.2.2.2.2.2.2.2.2.2.2.2.2.2.2.2.2.2.2.2.2.1) 0, .fptr (zah r.2.2.2.2.2.2.2.2.2.2.2.2.2.2.2.2.2.2.2.2.2.2.2.2.2.2.2.2.1) 0, .fptr (zah r.2.2.2.2.2.2.2.2.2.2.2.2.2.2.2.2.2.2.2.2.2.2.2.2.2.2.2.2.2.1) 0]], [.lit (.string r.2.2.2.2.2.2.2.2.2.2.2.2.2.2.2.2.2.2.2.2.2.2.2.2.2.2.2.2.2.2.1), .fn (.func 101) [] [.fptr (zah r.2.2.2.2.2.2.2.2.2.2.2.2.2.2.2.2.2.2.2.2.2.2.2.2.2.2.2.2.2.2.2.1) 0, .fptr (zah r.2.2.2.2.2.2.2.2.2.2.2.2.2.2.2.2.2.2.2.2.2.2.2.2.2.2.2.2.2.2.2.2.1) 0, .fptr (zah r.2.2.2.2.2.2.2.2.2.2.2.2.2.2.2.2.2.2.2.2.2.2.2.2.2.2.2.2.2.2.2.2.2.1) 0]], [.lit (.string r.2.2.2.2.2.2.2.2.2.2.2.2.2.2.2.2.2.2.2.2.2.2.2.2.2.2.2.2.2.2.2.2.2.2.1), .fn (.func 101) [] [.fptr (zah r.2.2.2.2.2.2.2.2.2.2.2.2.2.2.2.2.2.2.2.2.2.2.2.2.2.2.2.2.2.2.2.2.2.2.2.1) 0, .fptr (zah r.2.2.2.2.2.2.2.2.2.2.2.2.2.2.2.2.2.2.2.2.2.2.2.2.2.2.2.2.2.2.2.2.2.2.2.2.1) 0, .fptr (zah r.2.2.2.2.2.2.2.2.2.2.2.2.2.2.2.2.2.2.2.2.2.2.2.2.2.2.2.2.2.2.2.2.2.2.2.2.2.1) 0]], [.lit (.string r.2.2.2.2.2.2.2.2.2.2.2.2.2.2.2.2.2.2.2.2.2.2.2.2.2.2.2.2.2.2.2.2.2.2.2.2.2.2.1), .fn (.func 101) [] [.fptr (zah r.2.2.2.2.2.2.2.2.2.2.2.2.2.2.2.2.2.2.2.2.2.2.2.2.2.2.2.2.2.2.2.2.2.2.2.2.2.2.2.1) 0, .fptr (zah r.2.2.2.2.2.2.2.2.2.2.2.2.2.2.2.2.2.2.2.2.2.2.2.2.2.2.2.2.2.2.2.2.2.2.2.2.2.2.2.2.1) 0, .fptr (zah r.2.2.2.2.2.2.2.2.2.2.2.2.2.2.2.2.2.2.2.2.2.2.2.2.2.2.2.2.2.2.2.2.2.2.2.2.2.2.2.2.2.1) 0]], [.lit (.string r.2.2.2.2.2.2.2.2.2.2.2.2.2.2.2.2.2.2.2.2.2.2.2.2.2.2.2.2.2.2.2.2.2.2.2.2.2.2.2.2.2.2.1), .fn (.func 101) [] [.fptr (zah r.2.2.2.2.2.2.2.2.2.2.2.2.2.2.2.2.2.2.2.2.2.2.2.2.2.2.2.2.2.2.2.2.2.2.2.2.2.2.2.2.2.2.2.1) 0, .fptr (zah r.2.2.2.2.2.2.2.2.2.2.2.2.2.2.2.2.2.2.2.2.2.2.2.2.2.2.2.2.2.2.2.2.2.2.2.2.2.2.2.2.2.2.2.2.1) 0, .fptr (zah r.2.2.2.2.2.2.2.2.2.2.2.2.2.2.2.2.2.2.2.2.2.2.2.2.2.2.2.2.2.2.2.2.2.2.2.2.2.2.2.2.2.2.2.2.2) 0]]])) := by
  have O := And.intro mix (O85 N)
  refine zan Tryd.func85 (by kernel_rfl) C85 (bl Z) ?_
  unfold spec_rules at h
  unfold A85
  dsimp only [zbc]
  refine sq <| rq O <| o (d := (.ptr 0 0 18)) (σ1 := [cm (zab.enc p0)]) (zba Z Z Z Z) Z <| m Z <| nl <| nx <| sq <| dq O <| o (d := (.fn (.func 90) [] [(.ptr 0 0 18)])) (zdz Z Z) Z <| o (d := (.agg [(.c (.lit (.string (⟨#[78, 111, 100, 101, 115]⟩ : ByteArray)))), (.fn (.func 90) [] [(.ptr 0 0 18)])])) (zbB (by kernel_rfl)) Z <| o (d := (.fn (.func 92) [] [(.ptr 0 0 18)])) (zdz Z Z) Z <| o (d := (.agg [(.c (.lit (.string (⟨#[80, 97, 114, 116, 115]⟩ : ByteArray)))), (.fn (.func 92) [] [(.ptr 0 0 18)])])) (zbB (by kernel_rfl)) Z <| o (d := (.ptr 0 3 18)) (zaf Z) Z <| l (d := (I p0.Users)) Z <| ?_
  obtain ⟨⟨r1, r2, r3, r4⟩, e5, h⟩ := bs h
  try dsimp only at h
  refine o (d := (.agg [(.c (.lit (.string r1))), (.c (.fn (.func 101) [] [.fptr (zah r2) 0, .fptr (zah r3) 0, .fptr (zah r4) 0]))])) (ca (zc3 e5) Z) Z <| o (d := (.fn (.func 95) [] [(.ptr 0 0 18)])) (zdz Z Z) Z <| o (d := (.agg [(.c (.lit (.string (⟨#[81, 117, 101, 117, 101, 115]⟩ : ByteArray)))), (.fn (.func 95) [] [(.ptr 0 0 18)])])) (zbB (by kernel_rfl)) Z <| o (d := (.fn (.func 97) [] [(.ptr 0 0 18)])) (zdz Z Z) Z <| o (d := (.agg [(.c (.lit (.string (⟨#[87, 101, 105, 103, 104, 116, 115]⟩ : ByteArray)))), (.fn (.func 97) [] [(.ptr 0 0 18)])])) (zbB (by kernel_rfl)) Z <| o (d := (.ptr 0 8 18)) (zaf Z) Z <| l (d := (I p0.Decay)) Z <| ?_
  obtain ⟨⟨r6, r7, r8, r9⟩, e10, h⟩ := bs h
  try dsimp only at h
  refine o (d := (.agg [(.c (.lit (.string r6))), (.c (.fn (.func 101) [] [.fptr (zah r7) 0, .fptr (zah r8) 0, .fptr (zah r9) 0]))])) (ca (zc3 e10) Z) Z <| o (d := (.fn (.func 99) [] [(.ptr 0 0 18)])) (zdz Z Z) Z <| o (d := (.agg [(.c (.lit (.string (⟨#[77, 111, 100, 101]⟩ : ByteArray)))), (.fn (.func 99) [] [(.ptr 0 0 18)])])) (zbB (by kernel_rfl)) Z <| o (d := (.ptr 0 10 18)) (zaf Z) Z <| l (d := (I p0.Jobs)) Z <| ?_
  obtain ⟨⟨r11, r12, r13, r14⟩, e15, h⟩ := bs h
  try dsimp only at h
  refine o (d := (.agg [(.c (.lit (.string r11))), (.c (.fn (.func 101) [] [.fptr (zah r12) 0, .fptr (zah r13) 0, .fptr (zah r14) 0]))])) (ca (zc3 e15) Z) Z <| o (d := (.ptr 0 11 18)) (zaf Z) Z <| l (d := (I p0.Ids)) Z <| ?_
  obtain ⟨⟨r16, r17, r18, r19⟩, e20, h⟩ := bs h
  try dsimp only at h
  refine o (d := (.agg [(.c (.lit (.string r16))), (.c (.fn (.func 101) [] [.fptr (zah r17) 0, .fptr (zah r18) 0, .fptr (zah r19) 0]))])) (ca (zc3 e20) Z) Z <| o (d := (.ptr 0 12 18)) (zaf Z) Z <| l (d := (I p0.Versions)) Z <| ?_
  obtain ⟨⟨r21, r22, r23, r24⟩, e25, h⟩ := bs h
  try dsimp only at h
  refine o (d := (.agg [(.c (.lit (.string r21))), (.c (.fn (.func 101) [] [.fptr (zah r22) 0, .fptr (zah r23) 0, .fptr (zah r24) 0]))])) (ca (zc3 e25) Z) Z <| o (d := (.ptr 0 13 18)) (zaf Z) Z <| l (d := (I p0.Linger)) Z <| ?_
  obtain ⟨⟨r26, r27, r28, r29⟩, e30, h⟩ := bs h
  try dsimp only at h
  refine o (d := (.agg [(.c (.lit (.string r26))), (.c (.fn (.func 101) [] [.fptr (zah r27) 0, .fptr (zah r28) 0, .fptr (zah r29) 0]))])) (ca (zc3 e30) Z) Z <| o (d := (.ptr 0 14 18)) (zaf Z) Z <| l (d := (I p0.Keep)) Z <| ?_
  obtain ⟨⟨r31, r32, r33, r34⟩, e35, h⟩ := bs h
  try dsimp only at h
  refine o (d := (.agg [(.c (.lit (.string r31))), (.c (.fn (.func 101) [] [.fptr (zah r32) 0, .fptr (zah r33) 0, .fptr (zah r34) 0]))])) (ca (zc3 e35) Z) Z <| o (d := (.ptr 0 15 18)) (zaf Z) Z <| l (d := (I p0.In)) Z <| ?_
  obtain ⟨⟨r36, r37, r38, r39⟩, e40, h⟩ := bs h
  try dsimp only at h
  refine o (d := (.agg [(.c (.lit (.string r36))), (.c (.fn (.func 101) [] [.fptr (zah r37) 0, .fptr (zah r38) 0, .fptr (zah r39) 0]))])) (ca (zc3 e40) Z) Z <| o (d := (.ptr 0 16 18)) (zaf Z) Z <| l (d := (I p0.Out)) Z <| ?_
  obtain ⟨⟨r41, r42, r43, r44⟩, e45, h⟩ := bs h
  try dsimp only at h
  refine o (d := (.agg [(.c (.lit (.string r41))), (.c (.fn (.func 101) [] [.fptr (zah r42) 0, .fptr (zah r43) 0, .fptr (zah r44) 0]))])) (ca (zc3 e45) Z) Z <| o (d := (.ptr 0 17 18)) (zaf Z) Z <| l (d := (I p0.Cache)) Z <| ?_
  obtain ⟨⟨r46, r47, r48, r49⟩, e50, h⟩ := bs h
  try dsimp only at h
  refine o (d := (.agg [(.c (.lit (.string r46))), (.c (.fn (.func 101) [] [.fptr (zah r47) 0, .fptr (zah r48) 0, .fptr (zah r49) 0]))])) (ca (zc3 e50) Z) Z <| o (d := (.sl 1 0 15 2 30)) (σ1 := [cm (zab.enc p0), .cells [(.c (.lit (.string (⟨#[78, 111, 100, 101, 115]⟩ : ByteArray)))), (.fn (.func 90) [] [(.ptr 0 0 18)]), (.c (.lit (.string (⟨#[80, 97, 114, 116, 115]⟩ : ByteArray)))), (.fn (.func 92) [] [(.ptr 0 0 18)]), (.c (.lit (.string r1))), (.c (.fn (.func 101) [] [.fptr (zah r2) 0, .fptr (zah r3) 0, .fptr (zah r4) 0])), (.c (.lit (.string (⟨#[81, 117, 101, 117, 101, 115]⟩ : ByteArray)))), (.fn (.func 95) [] [(.ptr 0 0 18)]), (.c (.lit (.string (⟨#[87, 101, 105, 103, 104, 116, 115]⟩ : ByteArray)))), (.fn (.func 97) [] [(.ptr 0 0 18)]), (.c (.lit (.string r6))), (.c (.fn (.func 101) [] [.fptr (zah r7) 0, .fptr (zah r8) 0, .fptr (zah r9) 0])), (.c (.lit (.string (⟨#[77, 111, 100, 101]⟩ : ByteArray)))), (.fn (.func 99) [] [(.ptr 0 0 18)]), (.c (.lit (.string r11))), (.c (.fn (.func 101) [] [.fptr (zah r12) 0, .fptr (zah r13) 0, .fptr (zah r14) 0])), (.c (.lit (.string r16))), (.c (.fn (.func 101) [] [.fptr (zah r17) 0, .fptr (zah r18) 0, .fptr (zah r19) 0])), (.c (.lit (.string r21))), (.c (.fn (.func 101) [] [.fptr (zah r22) 0, .fptr (zah r23) 0, .fptr (zah r24) 0])), (.c (.lit (.string r26))), (.c (.fn (.func 101) [] [.fptr (zah r27) 0, .fptr (zah r28) 0, .fptr (zah r29) 0])), (.c (.lit (.string r31))), (.c (.fn (.func 101) [] [.fptr (zah r32) 0, .fptr (zah r33) 0, .fptr (zah r34) 0])), (.c (.lit (.string r36))), (.c (.fn (.func 101) [] [.fptr (zah r37) 0, .fptr (zah r38) 0, .fptr (zah r39) 0])), (.c (.lit (.string r41))), (.c (.fn (.func 101) [] [.fptr (zah r42) 0, .fptr (zah r43) 0, .fptr (zah r44) 0])), (.c (.lit (.string r46))), (.c (.fn (.func 101) [] [.fptr (zah r47) 0, .fptr (zah r48) 0, .fptr (zah r49) 0]))]]) (op_bslice (by kernel_rfl) Z Z) Z <| m Z <| nl ⟨by kernel_rfl, ?_⟩
  refine nx <| Sem.ret mix ?_
  cases h
  exact ⟨.inr Z, _, _, Z, Z, DLe.of_nrm Z⟩
noncomputable def F85 (N : Nat) : List D → Option D := spec (A := zab) (R := (ByteArray × zab × ByteArray × ByteArray × Int × Int × Int × ByteArray × ByteArray × ByteArray × Int × Int × Int × ByteArray × ByteArray × Int × Int × Int × ByteArray × Int × Int × Int × ByteArray × Int × Int × Int × ByteArray × Int × Int × Int × ByteArray × Int × Int × Int × ByteArray × Int × Int × Int × ByteArray × Int × Int × Int × ByteArray × Int × Int × Int)) (fun a => [(ST (zab.enc a))]) (fun r => (.c (.frz false [[.lit (.string r.1), .fn (.func 90) [] [.fptr (zab.enc r.2.1) 0]], [.lit (.string r.2.2.1), .fn (.func 92) [] [.fptr (zab.enc r.2.1) 0]], [.lit (.string r.2.2.2.1), .fn (.func 101) [] [.fptr (zah r.2.2.2.2.1) 0, .fptr (zah r.2.2.2.2.2.1) 0, .fptr (zah r.2.2.2.2.2.2.1) 0]], [.lit (.string r.2.2.2.2.2.2.2.1), .fn (.func 95) [] [.fptr (zab.enc r.2.1) 0]], [.lit (.string r.2.2.2.2.2.2.2.2.1), .fn (.func 97) [] [.fptr (zab.enc r.2.1) 0]], [.lit (.string r.2.2.2.2.2.2.2.2.2.1), .fn (.func 101) [] [.fptr (zah r.2.2.2.2.2.2.2.2.2.2.1) 0, .fptr (zah r.2.2.2.2.2.2.2.2.2.2.2.1) 0, .fptr (zah r.2.2.2.2.2.2.2.2.2.2.2.2.1) 0]], [.lit (.string r.2.2.2.2.2.2.2.2.2.2.2.2.2.1), .fn (.func 99) [] [.fptr (zab.enc r.2.1) 0]], [.lit (.string r.2.2.2.2.2.2.2.2.2.2.2.2.2.2.1), .fn (.func 101) [] [.fptr (zah r.2.2.2.2.2.2.2.2.2.2.2.2.2.2.2.1) 0, .fptr (zah r.2.2.2.2.2.2.2.2.2.2.2.2.2.2.2.2.1) 0, .fptr (zah r.2.2.2.2.2.2.2.2.2.2.2.2.2.2.2.2.2.1) 0]], [.lit (.string r.2.2.2.2.2.2.2.2.2.2.2.2.2.2.2.2.2.2.1), .fn (.func 101) [] [.fptr (zah r.2.2.2.2.2.2.2.2.2.2.2.2.2.2.2.2.2.2.2.1) 0, .fptr (zah r.2.2.2.2.2.2.2.2.2.2.2.2.2.2.2.2.2.2.2.2.1) 0, .fptr (zah r.2.2.2.2.2.2.2.2.2.2.2.2.2.2.2.2.2.2.2.2.2.1) 0]], [.lit (.string r.2.2.2.2.2.2.2.2.2.2.2.2.2.2.2.2.2.2.2.2.2.2.1), .fn (.func 101) [] [.fptr (zah r.2.2.2.2.2.2.2.2.2.2.2.2.2.2.2.2.2.2.2.2.2.2.2.1) 0, .fptr (zah r.2.2.2.2.2.2.2.2.2.2.2.2.2.2.2.2.2.2.2.2.2.2.2.2.1) 0, .fptr (zah r.2.2.2.2.2.2.2.2.2.2.2.2.2.2.2.2.2.2.2.2.2.2.2.2.2.1) 0]], [.lit (.string r.2.2.2.2.2.2.2.2.2.2.2.2.2.2.2.2.2.2.2.2.2.2.2.2.2.2.1), .fn (.func 101) [] [.fptr (zah r.2.2.2.2.2.2.2.2.2.2.2.2.2.2.2.2.2.2.2.2.2.2.2.2.2.2.2.1) 0, .fptr (zah r.2.2.2.2.2.2.2.2.2.2.2.2.2.2.2.2.2.2.2.2.2.2.2.2.2.2.2.2.1) 0, .fptr (zah r.2.2.2.2.2.2.2.2.2.2.2.2.2.2.2.2.2.2.2.2.2.2.2.2.2.2.2.2.2.1) 0]], [.lit (.string r.2.2.2.2.2.2.2.2.2.2.2.2.2.2.2.2.2.2.2.2.2.2.2.2.2.2.2.2.2.2.1), .fn (.func 101) [] [.fptr (zah r.2.2.2.2.2.2.2.2.2.2.2.2.2.2.2.2.2.2.2.2.2.2.2.2.2.2.2.2.2.2.2.1) 0, .fptr (zah r.2.2.2.2.2.2.2.2.2.2.2.2.2.2.2.2.2.2.2.2.2.2.2.2.2.2.2.2.2.2.2.2.1) 0, .fptr (zah r.2.2.2.2.2.2.2.2.2.2.2.2.2.2.2.2.2.2.2.2.2.2.2.2.2.2.2.2.2.2.2.2.2.1) 0]], [.lit (.string r.2.2.2.2.2.2.2.2.2.2.2.2.2.2.2.2.2.2.2.2.2.2.2.2.2.2.2.2.2.2.2.2.2.2.1), .fn (.func 101) [] [.fptr (zah r.2.2.2.2.2.2.2.2.2.2.2.2.2.2.2.2.2.2.2.2.2.2.2.2.2.2.2.2.2.2.2.2.2.2.2.1) 0, .fptr (zah r.2.2.2.2.2.2.2.2.2.2.2.2.2.2.2.2.2.2.2.2.2.2.2.2.2.2.2.2.2.2.2.2.2.2.2.2.1) 0, .fptr (zah r.2.2.2.2.2.2.2.2.2.2.2.2.2.2.2.2.2.2.2.2.2.2.2.2.2.2.2.2.2.2.2.2.2.2.2.2.2.1) 0]], [.lit (.string r.2.2.2.2.2.2.2.2.2.2.2.2.2.2.2.2.2.2.2.2.2.2.2.2.2.2.2.2.2.2.2.2.2.2.2.2.2.2.1), .fn (.func 101) [] [.fptr (zah r.2.2.2.2.2.2.2.2.2.2.2.2.2.2.2.2.2.2.2.2.2.2.2.2.2.2.2.2.2.2.2.2.2.2.2.2.2.2.2.1) 0, .fptr (zah r.2.2.2.2.2.2.2.2.2.2.2.2.2.2.2.2.2.2.2.2.2.2.2.2.2.2.2.2.2.2.2.2.2.2.2.2.2.2.2.2.1) 0, .fptr (zah r.2.2.2.2.2.2.2.2.2.2.2.2.2.2.2.2.2.2.2.2.2.2.2.2.2.2.2.2.2.2.2.2.2.2.2.2.2.2.2.2.2.1) 0]], [.lit (.string r.2.2.2.2.2.2.2.2.2.2.2.2.2.2.2.2.2.2.2.2.2.2.2.2.2.2.2.2.2.2.2.2.2.2.2.2.2.2.2.2.2.2.1), .fn (.func 101) [] [.fptr (zah r.2.2.2.2.2.2.2.2.2.2.2.2.2.2.2.2.2.2.2.2.2.2.2.2.2.2.2.2.2.2.2.2.2.2.2.2.2.2.2.2.2.2.2.1) 0, .fptr (zah r.2.2.2.2.2.2.2.2.2.2.2.2.2.2.2.2.2.2.2.2.2.2.2.2.2.2.2.2.2.2.2.2.2.2.2.2.2.2.2.2.2.2.2.2.1) 0, .fptr (zah r.2.2.2.2.2.2.2.2.2.2.2.2.2.2.2.2.2.2.2.2.2.2.2.2.2.2.2.2.2.2.2.2.2.2.2.2.2.2.2.2.2.2.2.2.2) 0]]]))) (fun a => spec_rules N a)
theorem K85 (N : Nat) : ∀ ds r, F85 N ds = some r → za9 Tryd.prog 85 ds r := zav fun a r h => spec_rules_ok N a r h
theorem spec_rules_eq {N : Nat} {p0 : zab} {r : (ByteArray × zab × ByteArray × ByteArray × Int × Int × Int × ByteArray × ByteArray × ByteArray × Int × Int × Int × ByteArray × ByteArray × Int × Int × Int × ByteArray × Int × Int × Int × ByteArray × Int × Int × Int × ByteArray × Int × Int × Int × ByteArray × Int × Int × Int × ByteArray × Int × Int × Int × ByteArray × Int × Int × Int × ByteArray × Int × Int × Int)} (h : spec_rules N p0 = some r) : F85 N [(ST (zab.enc p0))] = some (.c (.frz false [[.lit (.string r.1), .fn (.func 90) [] [.fptr (zab.enc r.2.1) 0]], [.lit (.string r.2.2.1), .fn (.func 92) [] [.fptr (zab.enc r.2.1) 0]], [.lit (.string r.2.2.2.1), .fn (.func 101) [] [.fptr (zah r.2.2.2.2.1) 0, .fptr (zah r.2.2.2.2.2.1) 0, .fptr (zah r.2.2.2.2.2.2.1) 0]], [.lit (.string r.2.2.2.2.2.2.2.1), .fn (.func 95) [] [.fptr (zab.enc r.2.1) 0]], [.lit (.string r.2.2.2.2.2.2.2.2.1), .fn (.func 97) [] [.fptr (zab.enc r.2.1) 0]], [.lit (.string r.2.2.2.2.2.2.2.2.2.1), .fn (.func 101) [] [.fptr (zah r.2.2.2.2.2.2.2.2.2.2.1) 0, .fptr (zah r.2.2.2.2.2.2.2.2.2.2.2.1) 0, .fptr (zah r.2.2.2.2.2.2.2.2.2.2.2.2.1) 0]], [.lit (.string r.2.2.2.2.2.2.2.2.2.2.2.2.2.1), .fn (.func 99) [] [.fptr (zab.enc r.2.1) 0]], [.lit (.string r.2.2.2.2.2.2.2.2.2.2.2.2.2.2.1), .fn (.func 101) [] [.fptr (zah r.2.2.2.2.2.2.2.2.2.2.2.2.2.2.2.1) 0, .fptr (zah r.2.2.2.2.2.2.2.2.2.2.2.2.2.2.2.2.1) 0, .fptr (zah r.2.2.2.2.2.2.2.2.2.2.2.2.2.2.2.2.2.1) 0]], [.lit (.string r.2.2.2.2.2.2.2.2.2.2.2.2.2.2.2.2.2.2.1), .fn (.func 101) [] [.fptr (zah r.2.2.2.2.2.2.2.2.2.2.2.2.2.2.2.2.2.2.2.1) 0, .fptr (zah r.2.2.2.2.2.2.2.2.2.2.2.2.2.2.2.2.2.2.2.2.1) 0, .fptr (zah r.2.2.2.2.2.2.2.2.2.2.2.2.2.2.2.2.2.2.2.2.2.1) 0]], [.lit (.string r.2.2.2.2.2.2.2.2.2.2.2.2.2.2.2.2.2.2.2.2.2.2.1), .fn (.func 101) [] [.fptr (zah r.2.2.2.2.2.2.2.2.2.2.2.2.2.2.2.2.2.2.2.2.2.2.2.1) 0, .fptr (zah r.2.2.2.2.2.2.2.2.2.2.2.2.2.2.2.2.2.2.2.2.2.2.2.2.1) 0, .fptr (zah r.2.2.2.2.2.2.2.2.2.2.2.2.2.2.2.2.2.2.2.2.2.2.2.2.2.1) 0]], [.lit (.string r.2.2.2.2.2.2.2.2.2.2.2.2.2.2.2.2.2.2.2.2.2.2.2.2.2.2.1), .fn (.func 101) [] [.fptr (zah r.2.2.2.2.2.2.2.2.2.2.2.2.2.2.2.2.2.2.2.2.2.2.2.2.2.2.2.1) 0, .fptr (zah r.2.2.2.2.2.2.2.2.2.2.2.2.2.2.2.2.2.2.2.2.2.2.2.2.2.2.2.2.1) 0, .fptr (zah r.2.2.2.2.2.2.2.2.2.2.2.2.2.2.2.2.2.2.2.2.2.2.2.2.2.2.2.2.2.1) 0]], [.lit (.string r.2.2.2.2.2.2.2.2.2.2.2.2.2.2.2.2.2.2.2.2.2.2.2.2.2.2.2.2.2.2.1), .fn (.func 101) [] [.fptr (zah r.2.2.2.2.2.2.2.2.2.2.2.2.2.2.2.2.2.2.2.2.2.2.2.2.2.2.2.2.2.2.2.1) 0, .fptr (zah r.2.2.2.2.2.2.2.2.2.2.2.2.2.2.2.2.2.2.2.2.2.2.2.2.2.2.2.2.2.2.2.2.1) 0, .fptr (zah r.2.2.2.2.2.2.2.2.2.2.2.2.2.2.2.2.2.2.2.2.2.2.2.2.2.2.2.2.2.2.2.2.2.1) 0]], [.lit (.string r.2.2.2.2.2.2.2.2.2.2.2.2.2.2.2.2.2.2.2.2.2.2.2.2.2.2.2.2.2.2.2.2.2.2.1), .fn (.func 101) [] [.fptr (zah r.2.2.2.2.2.2.2.2.2.2.2.2.2.2.2.2.2.2.2.2.2.2.2.2.2.2.2.2.2.2.2.2.2.2.2.1) 0, .fptr (zah r.2.2.2.2.2.2.2.2.2.2.2.2.2.2.2.2.2.2.2.2.2.2.2.2.2.2.2.2.2.2.2.2.2.2.2.2.1) 0, .fptr (zah r.2.2.2.2.2.2.2.2.2.2.2.2.2.2.2.2.2.2.2.2.2.2.2.2.2.2.2.2.2.2.2.2.2.2.2.2.2.1) 0]], [.lit (.string r.2.2.2.2.2.2.2.2.2.2.2.2.2.2.2.2.2.2.2.2.2.2.2.2.2.2.2.2.2.2.2.2.2.2.2.2.2.2.1), .fn (.func 101) [] [.fptr (zah r.2.2.2.2.2.2.2.2.2.2.2.2.2.2.2.2.2.2.2.2.2.2.2.2.2.2.2.2.2.2.2.2.2.2.2.2.2.2.2.1) 0, .fptr (zah r.2.2.2.2.2.2.2.2.2.2.2.2.2.2.2.2.2.2.2.2.2.2.2.2.2.2.2.2.2.2.2.2.2.2.2.2.2.2.2.2.1) 0, .fptr (zah r.2.2.2.2.2.2.2.2.2.2.2.2.2.2.2.2.2.2.2.2.2.2.2.2.2.2.2.2.2.2.2.2.2.2.2.2.2.2.2.2.2.1) 0]], [.lit (.string r.2.2.2.2.2.2.2.2.2.2.2.2.2.2.2.2.2.2.2.2.2.2.2.2.2.2.2.2.2.2.2.2.2.2.2.2.2.2.2.2.2.2.1), .fn (.func 101) [] [.fptr (zah r.2.2.2.2.2.2.2.2.2.2.2.2.2.2.2.2.2.2.2.2.2.2.2.2.2.2.2.2.2.2.2.2.2.2.2.2.2.2.2.2.2.2.2.1) 0, .fptr (zah r.2.2.2.2.2.2.2.2.2.2.2.2.2.2.2.2.2.2.2.2.2.2.2.2.2.2.2.2.2.2.2.2.2.2.2.2.2.2.2.2.2.2.2.2.1) 0, .fptr (zah r.2.2.2.2.2.2.2.2.2.2.2.2.2.2.2.2.2.2.2.2.2.2.2.2.2.2.2.2.2.2.2.2.2.2.2.2.2.2.2.2.2.2.2.2.2) 0]]])) := zaw (a := p0) (ij1 (zbx zab.inj)) h
noncomputable def S90 (N : Nat) : za1 := [(91, F91 N)]
theorem O90 (N : Nat) : zaO Tryd.prog (zat (S90 N)) := zap (zaj.cons (K91 N) <| zaj.nil)
theorem spec_rules_1xok (N : Nat) (p0 : zab) (r : Bool) (h : zfv N p0 = some r) : za9 Tryd.prog 90 [(.c (.fptr (zab.enc p0) 0))] (B r) := by
  have O := And.intro mix (O90 N)
  refine zan Tryd.func90 (by kernel_rfl) C90 (bl Z) ?_
  unfold zfv at h
  unfold A90
  dsimp only [zbc]
  refine sq <| rq O <| m Z <| nl <| nx <| sq <| rq O <| o (d := (ST (zab.enc p0))) (zal Z Z) Z <| ?_
  obtain ⟨r1, e2, h⟩ := bs h
  refine o (d := (B r1)) (ca (spec_nodesRight_eq e2) Z) Z <| m Z <| nl <| nx <| Sem.ret mix ?_
  cases h
  exact ⟨.inr Z, _, _, Z, Z, DLe.of_nrm Z⟩
noncomputable def F90 (N : Nat) : List D → Option D := spec (A := zab) (R := Bool) (fun a => [(.c (.fptr (zab.enc a) 0))]) (fun r => (B r)) (fun a => zfv N a)
theorem K90 (N : Nat) : ∀ ds r, F90 N ds = some r → za9 Tryd.prog 90 ds r := zav fun a r h => spec_rules_1xok N a r h
theorem spec_rules_1xeq {N : Nat} {p0 : zab} {r : Bool} (h : zfv N p0 = some r) : F90 N [(.c (.fptr (zab.enc p0) 0))] = some (B r) := zaw (a := p0) (ij1 (zfi zab.inj)) h
noncomputable def S92 (N : Nat) : za1 := [(93, F93 N)]
theorem O92 (N : Nat) : zaO Tryd.prog (zat (S92 N)) := zap (zaj.cons (K93 N) <| zaj.nil)
theorem spec_rules_2xok (N : Nat) (p0 : zab) (r : Bool) (h : zfx N p0 = some r) : za9 Tryd.prog 92 [(.c (.fptr (zab.enc p0) 0))] (B r) := by
  have O := And.intro mix (O92 N)
  refine zan Tryd.func92 (by kernel_rfl) C92 (bl Z) ?_
  unfold zfx at h
  unfold A92
  dsimp only [zbc]
  refine sq <| rq O <| m Z <| nl <| nx <| sq <| rq O <| o (d := (ST (zab.enc p0))) (zal Z Z) Z <| ?_
  obtain ⟨r1, e2, h⟩ := bs h
  refine o (d := (B r1)) (ca (spec_partsRight_eq e2) Z) Z <| m Z <| nl <| nx <| Sem.ret mix ?_
  cases h
  exact ⟨.inr Z, _, _, Z, Z, DLe.of_nrm Z⟩
noncomputable def F92 (N : Nat) : List D → Option D := spec (A := zab) (R := Bool) (fun a => [(.c (.fptr (zab.enc a) 0))]) (fun r => (B r)) (fun a => zfx N a)
theorem K92 (N : Nat) : ∀ ds r, F92 N ds = some r → za9 Tryd.prog 92 ds r := zav fun a r h => spec_rules_2xok N a r h
theorem spec_rules_2xeq {N : Nat} {p0 : zab} {r : Bool} (h : zfx N p0 = some r) : F92 N [(.c (.fptr (zab.enc p0) 0))] = some (B r) := zaw (a := p0) (ij1 (zfi zab.inj)) h
noncomputable def S101 (N : Nat) : za1 := []
theorem O101 (N : Nat) : zaO Tryd.prog (zat (S101 N)) := zap (zaj.nil)
theorem spec_within_1xok (N : Nat) (p0 : Int) (p1 : Int) (p2 : Int) (r : Bool) (h : zbK N p0 p1 p2 = some r) : za9 Tryd.prog 101 [(.c (.fptr (zah p0) 0)), (.c (.fptr (zah p1) 0)), (.c (.fptr (zah p2) 0))] (B r) := by
  have O := And.intro mix (O101 N)
  refine zan Tryd.func101 (by kernel_rfl) C101 (bl Z) ?_
  unfold zbK at h
  unfold A101
  dsimp only [zbc]
  refine sq <| rq O <| m Z <| nl <| nx <| Sem.step [(3, (B ((decide (p0 ≤ p1)) && (decide (p1 ≤ p2)))))] [] (rq O ?_) ?_
  ·refine o (d := (I p0)) (zal Z Z) Z <| o (d := (I p1)) (zal Z Z) Z <| o (d := (B (decide (p0 ≤ p1)))) (bo Z) Z <| m Z <| ?_
   rcases bb (decide (p0 ≤ p1)) with g1 | g1
   ·refine q (d := (I p1)) (zal Z Z) g1 Z <| q (d := (I p2)) (zal Z Z) g1 Z <| q (d := (B (decide (p1 ≤ p2)))) (bo Z) g1 Z <| pT g1 Z <| m Z <| nl ⟨rfl, .same (sE Z (by rw [g1]; rfl) <| sZ)⟩
   ·refine TrQ.know (v := false) 7 Z g1 <| TrQ.skipG 3 Z <| pF Z Z <| m Z <| nl ⟨rfl, .same (sE Z (by rw [g1]; rfl) <| sZ)⟩
  ·refine Sem.ret mix ?_
   cases h
   exact ⟨.inr Z, _, _, Z, Z, DLe.of_nrm Z⟩
noncomputable def F101 (N : Nat) : List D → Option D := spec (A := Int × Int × Int) (R := Bool) (fun a => [(.c (.fptr (zah a.1) 0)), (.c (.fptr (zah a.2.1) 0)), (.c (.fptr (zah a.2.2) 0))]) (fun r => (B r)) (fun a => zbK N a.1 a.2.1 a.2.2)
theorem K101 (N : Nat) : ∀ ds r, F101 N ds = some r → za9 Tryd.prog 101 ds r := zav fun a r h => spec_within_1xok N a.1 a.2.1 a.2.2 r h
theorem zcp {N : Nat} {p0 : Int} {p1 : Int} {p2 : Int} {r : Bool} (h : zbK N p0 p1 p2 = some r) : F101 N [(.c (.fptr (zah p0) 0)), (.c (.fptr (zah p1) 0)), (.c (.fptr (zah p2) 0))] = some (B r) := zaw (a := (p0, p1, p2)) (ij3 (zfi zcf) (zfi zcf) (zfi zcf)) h
noncomputable def S95 (N : Nat) : za1 := [(96, F96 N)]
theorem O95 (N : Nat) : zaO Tryd.prog (zat (S95 N)) := zap (zaj.cons (K96 N) <| zaj.nil)
theorem spec_rules_3xok (N : Nat) (p0 : zab) (r : Bool) (h : zfy N p0 = some r) : za9 Tryd.prog 95 [(.c (.fptr (zab.enc p0) 0))] (B r) := by
  have O := And.intro mix (O95 N)
  refine zan Tryd.func95 (by kernel_rfl) C95 (bl Z) ?_
  unfold zfy at h
  unfold A95
  dsimp only [zbc]
  refine sq <| rq O <| m Z <| nl <| nx <| sq <| rq O <| o (d := (ST (zab.enc p0))) (zal Z Z) Z <| ?_
  obtain ⟨r1, e2, h⟩ := bs h
  refine o (d := (B r1)) (ca (spec_queuesRight_eq e2) Z) Z <| m Z <| nl <| nx <| Sem.ret mix ?_
  cases h
  exact ⟨.inr Z, _, _, Z, Z, DLe.of_nrm Z⟩
noncomputable def F95 (N : Nat) : List D → Option D := spec (A := zab) (R := Bool) (fun a => [(.c (.fptr (zab.enc a) 0))]) (fun r => (B r)) (fun a => zfy N a)
theorem K95 (N : Nat) : ∀ ds r, F95 N ds = some r → za9 Tryd.prog 95 ds r := zav fun a r h => spec_rules_3xok N a r h
theorem spec_rules_3xeq {N : Nat} {p0 : zab} {r : Bool} (h : zfy N p0 = some r) : F95 N [(.c (.fptr (zab.enc p0) 0))] = some (B r) := zaw (a := p0) (ij1 (zfi zab.inj)) h
noncomputable def S97 (N : Nat) : za1 := [(98, F98 N)]
theorem O97 (N : Nat) : zaO Tryd.prog (zat (S97 N)) := zap (zaj.cons (K98 N) <| zaj.nil)
theorem spec_rules_4xok (N : Nat) (p0 : zab) (r : Bool) (h : zfw N p0 = some r) : za9 Tryd.prog 97 [(.c (.fptr (zab.enc p0) 0))] (B r) := by
  have O := And.intro mix (O97 N)
  refine zan Tryd.func97 (by kernel_rfl) C97 (bl Z) ?_
  unfold zfw at h
  unfold A97
  dsimp only [zbc]
  refine sq <| rq O <| m Z <| nl <| nx <| sq <| rq O <| o (d := (.c (.fptr (zab.enc p0) 4))) (zau Z) Z <| o (d := (ST (za6.enc p0.Weights))) (zal Z Z) Z <| ?_
  obtain ⟨r1, e2, h⟩ := bs h
  refine o (d := (B r1)) (ca (spec_weightsRight_eq e2) Z) Z <| m Z <| nl <| nx <| Sem.ret mix ?_
  cases h
  exact ⟨.inr Z, _, _, Z, Z, DLe.of_nrm Z⟩
noncomputable def F97 (N : Nat) : List D → Option D := spec (A := zab) (R := Bool) (fun a => [(.c (.fptr (zab.enc a) 0))]) (fun r => (B r)) (fun a => zfw N a)
theorem K97 (N : Nat) : ∀ ds r, F97 N ds = some r → za9 Tryd.prog 97 ds r := zav fun a r h => spec_rules_4xok N a r h
theorem spec_rules_4xeq {N : Nat} {p0 : zab} {r : Bool} (h : zfw N p0 = some r) : F97 N [(.c (.fptr (zab.enc p0) 0))] = some (B r) := zaw (a := p0) (ij1 (zfi zab.inj)) h
noncomputable def S99 (N : Nat) : za1 := []
theorem O99 (N : Nat) : zaO Tryd.prog (zat (S99 N)) := zap (zaj.nil)
theorem spec_rules_5xok (N : Nat) (p0 : zab) (r : Bool) (h : zfd N p0 = some r) : za9 Tryd.prog 99 [(.c (.fptr (zab.enc p0) 0))] (B r) := by
  have O := And.intro mix (O99 N)
  refine zan Tryd.func99 (by kernel_rfl) C99 (bl Z) ?_
  unfold zfd at h
  unfold A99
  dsimp only [zbc]
  refine sq <| rq O <| m Z <| nl <| nx <| Sem.step [(1, (B ((p0.Mode == 1) || (p0.Mode == 2))))] [] (rq O ?_) ?_
  ·refine o (d := (.c (.fptr (zab.enc p0) 9))) (zau Z) Z <| o (d := (I p0.Mode)) (zal Z Z) Z <| o (d := (B (p0.Mode == 1))) (bo Z) Z <| m Z <| ?_
   rcases bb (p0.Mode == 1) with g1 | g1
   ·refine TrQ.know (v := true) 5 Z g1 <| TrQ.skipG 3 Z <| pT Z Z <| m Z <| nl ⟨rfl, .same (sE Z (by rw [g1]; rfl) <| sZ)⟩
   ·refine q (d := (.c (.fptr (zab.enc p0) 9))) (zau Z) g1 Z <| q (d := (I p0.Mode)) (zal Z Z) g1 Z <| q (d := (B (p0.Mode == 2))) (bo Z) g1 Z <| pF g1 Z <| m Z <| nl ⟨rfl, .same (sE Z (by rw [g1]; rfl) <| sZ)⟩
  ·refine Sem.ret mix ?_
   cases h
   exact ⟨.inr Z, _, _, Z, Z, DLe.of_nrm Z⟩
noncomputable def F99 (N : Nat) : List D → Option D := spec (A := zab) (R := Bool) (fun a => [(.c (.fptr (zab.enc a) 0))]) (fun r => (B r)) (fun a => zfd N a)
theorem K99 (N : Nat) : ∀ ds r, F99 N ds = some r → za9 Tryd.prog 99 ds r := zav fun a r h => spec_rules_5xok N a r h
theorem spec_rules_5xeq {N : Nat} {p0 : zab} {r : Bool} (h : zfd N p0 = some r) : F99 N [(.c (.fptr (zab.enc p0) 0))] = some (B r) := zaw (a := p0) (ij1 (zfi zab.inj)) h
noncomputable def S72 (N : Nat) : za1 := [(85, F85 N), (90, F90 N), (92, F92 N), (101, F101 N), (95, F95 N), (97, F97 N), (99, F99 N)]
theorem O72 (N : Nat) : zaO Tryd.prog (zat (S72 N)) := zap (zaj.cons (K85 N) <| zaj.cons (K90 N) <| zaj.cons (K92 N) <| zaj.cons (K101 N) <| zaj.cons (K95 N) <| zaj.cons (K97 N) <| zaj.cons (K99 N) <| zaj.nil)
theorem spec_Flaw_ok (N : Nat) (p0 : zab) (r : ByteArray) (h : spec_Flaw N p0 = some r) : za9 Tryd.prog 72 [(ST (zab.enc p0))] (.c (.lit (.string r))) := by
  have O := And.intro mix (O72 N)
  refine zan Tryd.func72 (by kernel_rfl) C72 (bl Z) ?_
  unfold spec_Flaw at h
  unfold A72
  dsimp only [zbc]
  refine sq <| rq O <| o (d := (.ptr 0 0 18)) (σ1 := [cm (zab.enc p0)]) (zba Z Z Z Z) Z <| m Z <| nl <| nx <| sq <| sq <| rq O <| l (d := (ST (zab.enc p0))) Z <| ?_
  obtain ⟨⟨r1, r2, r3, r4, r5, r6, r7, r8, r9, r10, r11, r12, r13, r14, r15, r16, r17, r18, r19, r20, r21, r22, r23, r24, r25, r26, r27, r28, r29, r30, r31, r32, r33, r34, r35, r36, r37, r38, r39, r40, r41, r42, r43, r44, r45, r46⟩, e47, h⟩ := bs h
  try dsimp only at h
  refine o (d := (.c (.frz false [[.lit (.string r1), .fn (.func 90) [] [.fptr (zab.enc r2) 0]], [.lit (.string r3), .fn (.func 92) [] [.fptr (zab.enc r2) 0]], [.lit (.string r4), .fn (.func 101) [] [.fptr (zah r5) 0, .fptr (zah r6) 0, .fptr (zah r7) 0]], [.lit (.string r8), .fn (.func 95) [] [.fptr (zab.enc r2) 0]], [.lit (.string r9), .fn (.func 97) [] [.fptr (zab.enc r2) 0]], [.lit (.string r10), .fn (.func 101) [] [.fptr (zah r11) 0, .fptr (zah r12) 0, .fptr (zah r13) 0]], [.lit (.string r14), .fn (.func 99) [] [.fptr (zab.enc r2) 0]], [.lit (.string r15), .fn (.func 101) [] [.fptr (zah r16) 0, .fptr (zah r17) 0, .fptr (zah r18) 0]], [.lit (.string r19), .fn (.func 101) [] [.fptr (zah r20) 0, .fptr (zah r21) 0, .fptr (zah r22) 0]], [.lit (.string r23), .fn (.func 101) [] [.fptr (zah r24) 0, .fptr (zah r25) 0, .fptr (zah r26) 0]], [.lit (.string r27), .fn (.func 101) [] [.fptr (zah r28) 0, .fptr (zah r29) 0, .fptr (zah r30) 0]], [.lit (.string r31), .fn (.func 101) [] [.fptr (zah r32) 0, .fptr (zah r33) 0, .fptr (zah r34) 0]], [.lit (.string r35), .fn (.func 101) [] [.fptr (zah r36) 0, .fptr (zah r37) 0, .fptr (zah r38) 0]], [.lit (.string r39), .fn (.func 101) [] [.fptr (zah r40) 0, .fptr (zah r41) 0, .fptr (zah r42) 0]], [.lit (.string r43), .fn (.func 101) [] [.fptr (zah r44) 0, .fptr (zah r45) 0, .fptr (zah r46) 0]]]))) (ca (spec_rules_eq e47) Z) Z <| o (d := (I 15)) (op_lenL Z Z) Z <| m Z <| nl <| nx <| Sem.block <| Sem.loop 16 <| SemL.succ ?_
  try unfold A72xl0
  refine sq <| rq O <| o (d := (B true)) (bo Z) Z <| nl <| nx <| sq <| Sem.cond Z (fun _ => ?_) (fun hh => by cases hh)
  refine Sem.skip mix <| nx <| sq <| Sem.block <| sq <| rq O <| o (d := (.c (.fptr [.lit (.string r1), .fn (.func 90) [] [.fptr (zab.enc r2) 0]] 0))) (zfr Z Z Z Z Z) Z <| o (d := (.agg [(.c (.lit (.string r1))), (.c (.fn (.func 90) [] [.fptr (zab.enc r2) 0]))])) (zal Z Z) Z <| o (d := (.ptr 1 0 2)) (σ1 := [cm (zab.enc p0), .cells [(.c (.lit (.string (⟨#[]⟩ : ByteArray)))), (.c (.lit .nilFunc))]]) (zaG Z Z) Z <| st (σ1 := [cm (zab.enc p0), .cells [(.c (.lit (.string r1))), (.c (.fn (.func 90) [] [.fptr (zab.enc r2) 0]))]]) Z <| nl <| nx <| sq <| rq O <| o (d := (.ptr 1 1 2)) (zaf Z) Z <| l (d := (.c (.fn (.func 90) [] [.fptr (zab.enc r2) 0]))) Z <| ?_
  obtain ⟨r49, e50, h⟩ := bs h
  refine o (d := (B r49)) (zez Z Z (zaS Z Z Z (spec_rules_1xeq e50) Z)) Z <| o (d := (B (!r49))) (zbA Z Z Z Z) Z <| nl <| nx <| Sem.cond Z (fun c51 => ?_) (fun c51 => ?_)
  ·rw [if_pos c51] at h
   refine sq <| rq O <| o (d := (.ptr 1 0 2)) (zaf Z) Z <| l (d := (.c (.lit (.string r1)))) Z <| m Z <| nl <| nx <| Sem.ret mix <| nx <| nx <| nx ?_
   cases h
   exact ⟨.inr Z, _, _, Z, Z, DLe.of_nrm Z⟩
  ·rw [if_neg (zaH c51)] at h
   refine Sem.skip mix <| nx <| nx <| rq O <| o (d := (I 1)) (bo Z) Z <| m Z <| nl <| nx <| SemL.succ ?_
   try unfold A72xl0
   refine sq <| rq O <| o (d := (B true)) (bo Z) Z <| nl <| nx <| sq <| Sem.cond Z (fun _ => ?_) (fun hh => by cases hh)
   refine Sem.skip mix <| nx <| sq <| Sem.block <| sq <| rq O <| o (d := (.c (.fptr [.lit (.string r3), .fn (.func 92) [] [.fptr (zab.enc r2) 0]] 0))) (zfr Z Z Z Z Z) Z <| o (d := (.agg [(.c (.lit (.string r3))), (.c (.fn (.func 92) [] [.fptr (zab.enc r2) 0]))])) (zal Z Z) Z <| o (d := (.ptr 2 0 2)) (σ1 := [cm (zab.enc p0), .cells [(.c (.lit (.string r1))), (.c (.fn (.func 90) [] [.fptr (zab.enc r2) 0]))], .cells [(.c (.lit (.string (⟨#[]⟩ : ByteArray)))), (.c (.lit .nilFunc))]]) (zaG Z Z) Z <| st (σ1 := [cm (zab.enc p0), .cells [(.c (.lit (.string r1))), (.c (.fn (.func 90) [] [.fptr (zab.enc r2) 0]))], .cells [(.c (.lit (.string r3))), (.c (.fn (.func 92) [] [.fptr (zab.enc r2) 0]))]]) Z <| nl <| nx <| sq <| rq O <| o (d := (.ptr 2 1 2)) (zaf Z) Z <| l (d := (.c (.fn (.func 92) [] [.fptr (zab.enc r2) 0]))) Z <| ?_
   obtain ⟨r53, e54, h⟩ := bs h
   refine o (d := (B r53)) (zez Z Z (zaS Z Z Z (spec_rules_2xeq e54) Z)) Z <| o (d := (B (!r53))) (zbA Z Z Z Z) Z <| nl <| nx <| Sem.cond Z (fun c55 => ?_) (fun c55 => ?_)
   ·rw [if_pos c55] at h
    refine sq <| rq O <| o (d := (.ptr 2 0 2)) (zaf Z) Z <| l (d := (.c (.lit (.string r3)))) Z <| m Z <| nl <| nx <| Sem.ret mix <| nx <| nx <| nx ?_
    cases h
    exact ⟨.inr Z, _, _, Z, Z, DLe.of_nrm Z⟩
   ·rw [if_neg (zaH c55)] at h
    refine Sem.skip mix <| nx <| nx <| rq O <| o (d := (I 2)) (bo Z) Z <| m Z <| nl <| nx <| SemL.succ ?_
    try unfold A72xl0
    refine sq <| rq O <| o (d := (B true)) (bo Z) Z <| nl <| nx <| sq <| Sem.cond Z (fun _ => ?_) (fun hh => by cases hh)
    refine Sem.skip mix <| nx <| sq <| Sem.block <| sq <| rq O <| o (d := (.c (.fptr [.lit (.string r4), .fn (.func 101) [] [.fptr (zah r5) 0, .fptr (zah r6) 0, .fptr (zah r7) 0]] 0))) (zfr Z Z Z Z Z) Z <| o (d := (.agg [(.c (.lit (.string r4))), (.c (.fn (.func 101) [] [.fptr (zah r5) 0, .fptr (zah r6) 0, .fptr (zah r7) 0]))])) (zal Z Z) Z <| o (d := (.ptr 3 0 2)) (σ1 := [cm (zab.enc p0), .cells [(.c (.lit (.string r1))), (.c (.fn (.func 90) [] [.fptr (zab.enc r2) 0]))], .cells [(.c (.lit (.string r3))), (.c (.fn (.func 92) [] [.fptr (zab.enc r2) 0]))], .cells [(.c (.lit (.string (⟨#[]⟩ : ByteArray)))), (.c (.lit .nilFunc))]]) (zaG Z Z) Z <| st (σ1 := [cm (zab.enc p0), .cells [(.c (.lit (.string r1))), (.c (.fn (.func 90) [] [.fptr (zab.enc r2) 0]))], .cells [(.c (.lit (.string r3))), (.c (.fn (.func 92) [] [.fptr (zab.enc r2) 0]))], .cells [(.c (.lit (.string r4))), (.c (.fn (.func 101) [] [.fptr (zah r5) 0, .fptr (zah r6) 0, .fptr (zah r7) 0]))]]) Z <| nl <| nx <| sq <| rq O <| o (d := (.ptr 3 1 2)) (zaf Z) Z <| l (d := (.c (.fn (.func 101) [] [.fptr (zah r5) 0, .fptr (zah r6) 0, .fptr (zah r7) 0]))) Z <| ?_
    obtain ⟨r57, e58, h⟩ := bs h
    refine o (d := (B r57)) (zez Z Z (zaS Z Z Z (zcp e58) Z)) Z <| o (d := (B (!r57))) (zbA Z Z Z Z) Z <| nl <| nx <| Sem.cond Z (fun c59 => ?_) (fun c59 => ?_)
    ·rw [if_pos c59] at h
     refine sq <| rq O <| o (d := (.ptr 3 0 2)) (zaf Z) Z <| l (d := (.c (.lit (.string r4)))) Z <| m Z <| nl <| nx <| Sem.ret mix <| nx <| nx <| nx ?_
     cases h
     exact ⟨.inr Z, _, _, Z, Z, DLe.of_nrm Z⟩
    ·rw [if_neg (zaH c59)] at h
     refine Sem.skip mix <| nx <| nx <| rq O <| o (d := (I 3)) (bo Z) Z <| m Z <| nl <| nx <| SemL.succ ?_
     try unfold A72xl0
     refine sq <| rq O <| o (d := (B true)) (bo Z) Z <| nl <| nx <| sq <| Sem.cond Z (fun _ => ?_) (fun hh => by cases hh)
     refine Sem.skip mix <| nx <| sq <| Sem.block <| sq <| rq O <| o (d := (.c (.fptr [.lit (.string r8), .fn (.func 95) [] [.fptr (zab.enc r2) 0]] 0))) (zfr Z Z Z Z Z) Z <| o (d := (.agg [(.c (.lit (.string r8))), (.c (.fn (.func 95) [] [.fptr (zab.enc r2) 0]))])) (zal Z Z) Z <| o (d := (.ptr 4 0 2)) (σ1 := [cm (zab.enc p0), .cells [(.c (.lit (.string r1))), (.c (.fn (.func 90) [] [.fptr (zab.enc r2) 0]))], .cells [(.c (.lit (.string r3))), (.c (.fn (.func 92) [] [.fptr (zab.enc r2) 0]))], .cells [(.c (.lit (.string r4))), (.c (.fn (.func 101) [] [.fptr (zah r5) 0, .fptr (zah r6) 0, .fptr (zah r7) 0]))], .cells [(.c (.lit (.string (⟨#[]⟩ : ByteArray)))), (.c (.lit .nilFunc))]]) (zaG Z Z) Z <| st (σ1 := [cm (zab.enc p0), .cells [(.c (.lit (.string r1))), (.c (.fn (.func 90) [] [.fptr (zab.enc r2) 0]))], .cells [(.c (.lit (.string r3))), (.c (.fn (.func 92) [] [.fptr (zab.enc r2) 0]))], .cells [(.c (.lit (.string r4))), (.c (.fn (.func 101) [] [.fptr (zah r5) 0, .fptr (zah r6) 0, .fptr (zah r7) 0]))], .cells [(.c (.lit (.string r8))), (.c (.fn (.func 95) [] [.fptr (zab.enc r2) 0]))]]) Z <| nl <| nx <| sq <| rq O <| o (d := (.ptr 4 1 2)) (zaf Z) Z <| l (d := (.c (.fn (.func 95) [] [.fptr (zab.enc r2) 0]))) Z <| ?_
     obtain ⟨r61, e62, h⟩ := bs h
     refine o (d := (B r61)) (zez Z Z (zaS Z Z Z (spec_rules_3xeq e62) Z)) Z <| o (d := (B (!r61))) (zbA Z Z Z Z) Z <| nl <| nx <| Sem.cond Z (fun c63 => ?_) (fun c63 => ?_)
     ·rw [if_pos c63] at h
      refine sq <| rq O <| o (d := (.ptr 4 0 2)) (zaf Z) Z <| l (d := (.c (.lit (.string r8)))) Z <| m Z <| nl <| nx <| Sem.ret mix <| nx <| nx <| nx ?_
      cases h
      exact ⟨.inr Z, _, _, Z, Z, DLe.of_nrm Z⟩
     ·rw [if_neg (zaH c63)] at h
      refine Sem.skip mix <| nx <| nx <| rq O <| o (d := (I 4)) (bo Z) Z <| m Z <| nl <| nx <| SemL.succ ?_
      try unfold A72xl0
      refine sq <| rq O <| o (d := (B true)) (bo Z) Z <| nl <| nx <| sq <| Sem.cond Z (fun _ => ?_) (fun hh => by cases hh)
      refine Sem.skip mix <| nx <| sq <| Sem.block <| sq <| rq O <| o (d := (.c (.fptr [.lit (.string r9), .fn (.func 97) [] [.fptr (zab.enc r2) 0]] 0))) (zfr Z Z Z Z Z) Z <| o (d := (.agg [(.c (.lit (.string r9))), (.c (.fn (.func 97) [] [.fptr (zab.enc r2) 0]))])) (zal Z Z) Z <| o (d := (.ptr 5 0 2)) (σ1 := [cm (zab.enc p0), .cells [(.c (.lit (.string r1))), (.c (.fn (.func 90) [] [.fptr (zab.enc r2) 0]))], .cells [(.c (.lit (.string r3))), (.c (.fn (.func 92) [] [.fptr (zab.enc r2) 0]))], .cells [(.c (.lit (.string r4))), (.c (.fn (.func 101) [] [.fptr (zah r5) 0, .fptr (zah r6) 0, .fptr (zah r7) 0]))], .cells [(.c (.lit (.string r8))), (.c (.fn (.func 95) [] [.fptr (zab.enc r2) 0]))], .cells [(.c (.lit (.string (⟨#[]⟩ : ByteArray)))), (.c (.lit .nilFunc))]]) (zaG Z Z) Z <| st (σ1 := [cm (zab.enc p0), .cells [(.c (.lit (.string r1))), (.c (.fn (.func 90) [] [.fptr (zab.enc r2) 0]))], .cells [(.c (.lit (.string r3))), (.c (.fn (.func 92) [] [.fptr (zab.enc r2) 0]))], .cells [(.c (.lit (.string r4))), (.c (.fn (.func 101) [] [.fptr (zah r5) 0, .fptr (zah r6) 0, .fptr (zah r7) 0]))], .cells [(.c (.lit (.string r8))), (.c (.fn (.func 95) [] [.fptr (zab.enc r2) 0]))], .cells [(.c (.lit (.string r9))), (.c (.fn (.func 97) [] [.fptr (zab.enc r2) 0]))]]) Z <| nl <| nx <| sq <| rq O <| o (d := (.ptr 5 1 2)) (zaf Z) Z <| l (d := (.c (.fn (.func 97) [] [.fptr (zab.enc r2) 0]))) Z <| ?_
      obtain ⟨r65, e66, h⟩ := bs h
      refine o (d := (B r65)) (zez Z Z (zaS Z Z Z (spec_rules_4xeq e66) Z)) Z <| o (d := (B (!r65))) (zbA Z Z Z Z) Z <| nl <| nx <| Sem.cond Z (fun c67 => ?_) (fun c67 => ?_)
      ·rw [if_pos c67] at h
       refine sq <| rq O <| o (d := (.ptr 5 0 2)) (zaf Z) Z <| l (d := (.c (.lit (.string r9)))) Z <| m Z <| nl <| nx <| Sem.ret mix <| nx <| nx <| nx ?_
       cases h
       exact ⟨.inr Z, _, _, Z, Z, DLe.of_nrm Z⟩
      ·rw [if_neg (zaH c67)] at h
       refine Sem.skip mix <| nx <| nx <| rq O <| o (d := (I 5)) (bo Z) Z <| m Z <| nl <| nx <| SemL.succ ?_
       try unfold A72xl0
       refine sq <| rq O <| o (d := (B true)) (bo Z) Z <| nl <| nx <| sq <| Sem.cond Z (fun _ => ?_) (fun hh => by cases hh)
       refine Sem.skip mix <| nx <| sq <| Sem.block <| sq <| rq O <| o (d := (.c (.fptr [.lit (.string r10), .fn (.func 101) [] [.fptr (zah r11) 0, .fptr (zah r12) 0, .fptr (zah r13) 0]] 0))) (zfr Z Z Z Z Z) Z <| o (d := (.agg [(.c (.lit (.string r10))), (.c (.fn (.func 101) [] [.fptr (zah r11) 0, .fptr (zah r12) 0, .fptr (zah r13) 0]))])) (zal Z Z) Z <| o (d := (.ptr 6 0 2)) (σ1 := [cm (zab.enc p0), .cells [(.c (.lit (.string r1))), (.c (.fn (.func 90) [] [.fptr (zab.enc r2) 0]))], .cells [(.c (.lit (.string r3))), (.c (.fn (.func 92) [] [.fptr (zab.enc r2) 0]))], .cells [(.c (.lit (.string r4))), (.c (.fn (.func 101) [] [.fptr (zah r5) 0, .fptr (zah r6) 0, .fptr (zah r7) 0]))], .cells [(.c (.lit (.string r8))), (.c (.fn (.func 95) [] [.fptr (zab.enc r2) 0]))], .cells [(.c (.lit (.string r9))), (.c (.fn (.func 97) [] [.fptr (zab.enc r2) 0]))], .cells [(.c (.lit (.string (⟨#[]⟩ : ByteArray)))), (.c (.lit .nilFunc))]]) (zaG Z Z) Z <| st (σ1 := [cm (zab.enc p0), .cells [(.c (.lit (.string r1))), (.c (.fn (.func 90) [] [.fptr (zab.enc r2) 0]))], .cells [(.c (.lit (.string r3))), (.c (.fn (.func 92) [] [.fptr (zab.enc r2) 0]))], .cells [(.c (.lit (.string r4))), (.c (.fn (.func 101) [] [.fptr (zah r5) 0, .fptr (zah r6) 0, .fptr (zah r7) 0]))], .cells [(.c (.lit (.string r8))), (.c (.fn (.func 95) [] [.fptr (zab.enc r2) 0]))], .cells [(.c (.lit (.string r9))), (.c (.fn (.func 97) [] [.fptr (zab.enc r2) 0]))], .cells [(.c (.lit (.string r10))), (.c (.fn (.func 101) [] [.fptr (zah r11) 0, .fptr (zah r12) 0, .fptr (zah r13) 0]))]]) Z <| nl <| nx <| sq <| rq O <| o (d := (.ptr 6 1 2)) (zaf Z) Z <| l (d := (.c (.fn (.func 101) [] [.fptr (zah r11) 0, .fptr (zah r12) 0, .fptr (zah r13) 0]))) Z <| ?_
       obtain ⟨r69, e70, h⟩ := bs h
       refine o (d := (B r69)) (zez Z Z (zaS Z Z Z (zcp e70) Z)) Z <| o (d := (B (!r69))) (zbA Z Z Z Z) Z <| nl <| nx <| Sem.cond Z (fun c71 => ?_) (fun c71 => ?_)
       ·rw [if_pos c71] at h
        refine sq <| rq O <| o (d := (.ptr 6 0 2)) (zaf Z) Z <| l (d := (.c (.lit (.string r10)))) Z <| m Z <| nl <| nx <| Sem.ret mix <| nx <| nx <| nx ?_
        cases h
        exact ⟨.inr Z, _, _, Z, Z, DLe.of_nrm Z⟩
       ·rw [if_neg (zaH c71)] at h
        refine Sem.skip mix <| nx <| nx <| rq O <| o (d := (I 6)) (bo Z) Z <| m Z <| nl <| nx <| SemL.succ ?_
        try unfold A72xl0
        refine sq <| rq O <| o (d := (B true)) (bo Z) Z <| nl <| nx <| sq <| Sem.cond Z (fun _ => ?_) (fun hh => by cases hh)
        refine Sem.skip mix <| nx <| sq <| Sem.block <| sq <| rq O <| o (d := (.c (.fptr [.lit (.string r14), .fn (.func 99) [] [.fptr (zab.enc r2) 0]] 0))) (zfr Z Z Z Z Z) Z <| o (d := (.agg [(.c (.lit (.string r14))), (.c (.fn (.func 99) [] [.fptr (zab.enc r2) 0]))])) (zal Z Z) Z <| o (d := (.ptr 7 0 2)) (σ1 := [cm (zab.enc p0), .cells [(.c (.lit (.string r1))), (.c (.fn (.func 90) [] [.fptr (zab.enc r2) 0]))], .cells [(.c (.lit (.string r3))), (.c (.fn (.func 92) [] [.fptr (zab.enc r2) 0]))], .cells [(.c (.lit (.string r4))), (.c (.fn (.func 101) [] [.fptr (zah r5) 0, .fptr (zah r6) 0, .fptr (zah r7) 0]))], .cells [(.c (.lit (.string r8))), (.c (.fn (.func 95) [] [.fptr (zab.enc r2) 0]))], .cells [(.c (.lit (.string r9))), (.c (.fn (.func 97) [] [.fptr (zab.enc r2) 0]))], .cells [(.c (.lit (.string r10))), (.c (.fn (.func 101) [] [.fptr (zah r11) 0, .fptr (zah r12) 0, .fptr (zah r13) 0]))], .cells [(.c (.lit (.string (⟨#[]⟩ : ByteArray)))), (.c (.lit .nilFunc))]]) (zaG Z Z) Z <| st (σ1 := [cm (zab.enc p0), .cells [(.c (.lit (.string r1))), (.c (.fn (.func 90) [] [.fptr (zab.enc r2) 0]))], .cells [(.c (.lit (.string r3))), (.c (.fn (.func 92) [] [.fptr (zab.enc r2) 0]))], .cells [(.c (.lit (.string r4))), (.c (.fn (.func 101) [] [.fptr (zah r5) 0, .fptr (zah r6) 0, .fptr (zah r7) 0]))], .cells [(.c (.lit (.string r8))), (.c (.fn (.func 95) [] [.fptr (zab.enc r2) 0]))], .cells [(.c (.lit (.string r9))), (.c (.fn (.func 97) [] [.fptr (zab.enc r2) 0]))], .cells [(.c (.lit (.string r10))), (.c (.fn (.func 101) [] [.fptr (zah r11) 0, .fptr (zah r12) 0, .fptr (zah r13) 0]))], .cells [(.c (.lit (.string r14))), (.c (.fn (.func 99) [] [.fptr (zab.enc r2) 0]))]]) Z <| nl <| nx <| sq <| rq O <| o (d := (.ptr 7 1 2)) (zaf Z) Z <| l (d := (.c (.fn (.func 99) [] [.fptr (zab.enc r2) 0]))) Z <| ?_
        obtain ⟨r73, e74, h⟩ := bs h
        refine o (d := (B r73)) (zez Z Z (zaS Z Z Z (spec_rules_5xeq e74) Z)) Z <| o (d := (B (!r73))) (zbA Z Z Z Z) Z <| nl <| nx <| Sem.cond Z (fun c75 => ?_) (fun c75 => ?_)
        ·rw [if_pos c75] at h
         refine sq <| rq O <| o (d := (.ptr 7 0 2)) (zaf Z) Z <| l (d := (.c (.lit (.string r14)))) Z <| m Z <| nl <| nx <| Sem.ret mix <| nx <| nx <| nx ?_
         cases h
         exact ⟨.inr Z, _, _, Z, Z, DLe.of_nrm Z⟩
        ·rw [if_neg (zaH c75)] at h
         refine Sem.skip mix <| nx <| nx <| rq O <| o (d := (I 7)) (bo Z) Z <| m Z <| nl <| nx <| SemL.succ ?_
         try unfold A72xl0
         refine sq <| rq O <| o (d := (B true)) (bo Z) Z <| nl <| nx <| sq <| Sem.cond Z (fun _ => ?_) (fun hh => by cases hh)
         refine Sem.skip mix <| nx <| sq <| Sem.block <| sq <| rq O <| o (d := (.c (.fptr [.lit (.string r15), .fn (.func 101) [] [.fptr (zah r16) 0, .fptr (zah r17) 0, .fptr (zah r18) 0]] 0))) (zfr Z Z Z Z Z) Z <| o (d := (.agg [(.c (.lit (.string r15))), (.c (.fn (.func 101) [] [.fptr (zah r16) 0, .fptr (zah r17) 0, .fptr (zah r18) 0]))])) (zal Z Z) Z <| o (d := (.ptr 8 0 2)) (σ1 := [cm (zab.enc p0), .cells [(.c (.lit (.string r1))), (.c (.fn (.func 90) [] [.fptr (zab.enc r2) 0]))], .cells [(.c (.lit (.string r3))), (.c (.fn (.func 92) [] [.fptr (zab.enc r2) 0]))], .cells [(.c (.lit (.string r4))), (.c (.fn (.func 101) [] [.fptr (zah r5) 0, .fptr (zah r6) 0, .fptr (zah r7) 0]))], .cells [(.c (.lit (.string r8))), (.c (.fn (.func 95) [] [.fptr (zab.enc r2) 0]))], .cells [(.c (.lit (.string r9))), (.c (.fn (.func 97) [] [.fptr (zab.enc r2) 0]))], .cells [(.c (.lit (.string r10))), (.c (.fn (.func 101) [] [.fptr (zah r11) 0, .fptr (zah r12) 0, .fptr (zah r13) 0]))], .cells [(.c (.lit (.string r14))), (.c (.fn (.func 99) [] [.fptr (zab.enc r2) 0]))], .cells [(.c (.lit (.string (⟨#[]⟩ : ByteArray)))), (.c (.lit .nilFunc))]]) (zaG Z Z) Z <| st (σ1 := [cm (zab.enc p0), .cells [(.c (.lit (.string r1))), (.c (.fn (.func 90) [] [.fptr (zab.enc r2) 0]))], .cells [(.c (.lit (.string r3))), (.c (.fn (.func 92) [] [.fptr (zab.enc r2) 0]))], .cells [(.c (.lit (.string r4))), (.c (.fn (.func 101) [] [.fptr (zah r5) 0, .fptr (zah r6) 0, .fptr (zah r7) 0]))], .cells [(.c (.lit (.string r8))), (.c (.fn (.func 95) [] [.fptr (zab.enc r2) 0]))], .cells [(.c (.lit (.string r9))), (.c (.fn (.func 97) [] [.fptr (zab.enc r2) 0]))], .cells [(.c (.lit (.string r10))), (.c (.fn (.func 101) [] [.fptr (zah r11) 0, .fptr (zah r12) 0, .fptr (zah r13) 0]))], .cells [(.c (.lit (.string r14))), (.c (.fn (.func 99) [] [.fptr (zab.enc r2) 0]))], .cells [(.c (.lit (.string r15))), (.c (.fn (.func 101) [] [.fptr (zah r16) 0, .fptr (zah r17) 0, .fptr (zah r18) 0]))]]) Z <| nl <| nx <| sq <| rq O <| o (d := (.ptr 8 1 2)) (zaf Z) Z <| l (d := (.c (.fn (.func 101) [] [.fptr (zah r16) 0, .fptr (zah r17) 0, .fptr (zah r18) 0]))) Z <| ?_
         obtain ⟨r77, e78, h⟩ := bs h
         refine o (d := (B r77)) (zez Z Z (zaS Z Z Z (zcp e78) Z)) Z <| o (d := (B (!r77))) (zbA Z Z Z Z) Z <| nl <| nx <| Sem.cond Z (fun c79 => ?_) (fun c79 => ?_)
         ·rw [if_pos c79] at h
          refine sq <| rq O <| o (d := (.ptr 8 0 2)) (zaf Z) Z <| l (d := (.c (.lit (.string r15)))) Z <| m Z <| nl <| nx <| Sem.ret mix <| nx <| nx <| nx ?_
          cases h
          exact ⟨.inr Z, _, _, Z, Z, DLe.of_nrm Z⟩
         ·rw [if_neg (zaH c79)] at h
          refine Sem.skip mix <| nx <| nx <| rq O <| o (d := (I 8)) (bo Z) Z <| m Z <| nl <| nx <| SemL.succ ?_
          try unfold A72xl0
          refine sq <| rq O <| o (d := (B true)) (bo Z) Z <| nl <| nx <| sq <| Sem.cond Z (fun _ => ?_) (fun hh => by cases hh)
          refine Sem.skip mix <| nx <| sq <| Sem.block <| sq <| rq O <| o (d := (.c (.fptr [.lit (.string r19), .fn (.func 101) [] [.fptr (zah r20) 0, .fptr (zah r21) 0, .fptr (zah r22) 0]] 0))) (zfr Z Z Z Z Z) Z <| o (d := (.agg [(.c (.lit (.string r19))), (.c (.fn (.func 101) [] [.fptr (zah r20) 0, .fptr (zah r21) 0, .fptr (zah r22) 0]))])) (zal Z Z) Z <| o (d := (.ptr 9 0 2)) (σ1 := [cm (zab.enc p0), .cells [(.c (.lit (.string r1))), (.c (.fn (.func 90) [] [.fptr (zab.enc r2) 0]))], .cells [(.c (.lit (.string r3))), (.c (.fn (.func 92) [] [.fptr (zab.enc r2) 0]))], .cells [(.c (.lit (.string r4))), (.c (.fn (.func 101) [] [.fptr (zah r5) 0, .fptr (zah r6) 0, .fptr (zah r7) 0]))], .cells [(.c (.lit (.string r8))), (.c (.fn (.func 95) [] [.fptr (zab.enc r2) 0]))], .cells [(.c (.lit (.string r9))), (.c (.fn (.func 97) [] [.fptr (zab.enc r2) 0]))], .cells [(.c (.lit (.string r10))), (.c (.fn (.func 101) [] [.fptr (zah r11) 0, .fptr (zah r12) 0, .fptr (zah r13) 0]))], .cells [(.c (.lit (.string r14))), (.c (.fn (.func 99) [] [.fptr (zab.enc r2) 0]))], .cells [(.c (.lit (.string r15))), (.c (.fn (.func 101) [] [.fptr (zah r16) 0, .fptr (zah r17) 0, .fptr (zah r18) 0]))], .cells [(.c (.lit (.string (⟨#[]⟩ : ByteArray)))), (.c (.lit .nilFunc))]]) (zaG Z Z) Z <| st (σ1 := [cm (zab.enc p0), .cells [(.c (.lit (.string r1))), (.c (.fn (.func 90) [] [.fptr (zab.enc r2) 0]))], .cells [(.c (.lit (.string r3))), (.c (.fn (.func 92) [] [.fptr (zab.enc r2) 0]))], .cells [(.c (.lit (.string r4))), (.c (.fn (.func 101) [] [.fptr (zah r5) 0, .fptr (zah r6) 0, .fptr (zah r7) 0]))], .cells [(.c (.lit (.string r8))), (.c (.fn (.func 95) [] [.fptr (zab.enc r2) 0]))], .cells [(.c (.lit (.string r9))), (.c (.fn (.func 97) [] [.fptr (zab.enc r2) 0]))], .cells [(.c (.lit (.string r10))), (.c (.fn (.func 101) [] [.fptr (zah r11) 0, .fptr (zah r12) 0, .fptr (zah r13) 0]))], .cells [(.c (.lit (.string r14))), (.c (.fn (.func 99) [] [.fptr (zab.enc r2) 0]))], .cells [(.c (.lit (.string r15))), (.c (.fn (.func 101) [] [.fptr (zah r16) 0, .fptr (zah r17) 0, .fptr (zah r18) 0]))], .cells [(.c (.lit (.string r19))), (.c (.fn (.func 101) [] [.fptr (zah r20) 0, .fptr (zah r21) 0, .fptr (zah r22) 0]))]]) Z <| nl <| nx <| sq <| rq O <| o (d := (.ptr 9 1 2)) (zaf Z) Z <| l (d := (.c (.fn (.func 101) [] [.fptr (zah r20) 0, .fptr (zah r21) 0, .fptr (zah r22) 0]))) Z <| ?_
          obtain ⟨r81, e82, h⟩ := bs h
          refine o (d := (B r81)) (zez Z Z (zaS Z Z Z (zcp e82) Z)) Z <| o (d := (B (!r81))) (zbA Z Z Z Z) Z <| nl <| nx <| Sem.cond Z (fun c83 => ?_) (fun c83 => ?_)
          ·rw [if_pos c83] at h
           refine sq <| rq O <| o (d := (.ptr 9 0 2)) (zaf Z) Z <| l (d := (.c (.lit (.string r19)))) Z <| m Z <| nl <| nx <| Sem.ret mix <| nx <| nx <| nx ?_
           cases h
           exact ⟨.inr Z, _, _, Z, Z, DLe.of_nrm Z⟩
          ·rw [if_neg (zaH c83)] at h
           refine Sem.skip mix <| nx <| nx <| rq O <| o (d := (I 9)) (bo Z) Z <| m Z <| nl <| nx <| SemL.succ ?_
           try unfold A72xl0
           refine sq <| rq O <| o (d := (B true)) (bo Z) Z <| nl <| nx <| sq <| Sem.cond Z (fun _ => ?_) (fun hh => by cases hh)
           refine Sem.skip mix <| nx <| sq <| Sem.block <| sq <| rq O <| o (d := (.c (.fptr [.lit (.string r23), .fn (.func 101) [] [.fptr (zah r24) 0, .fptr (zah r25) 0, .fptr (zah r26) 0]] 0))) (zfr Z Z Z Z Z) Z <| o (d := (.agg [(.c (.lit (.string r23))), (.c (.fn (.func 101) [] [.fptr (zah r24) 0, .fptr (zah r25) 0, .fptr (zah r26) 0]))])) (zal Z Z) Z <| o (d := (.ptr 10 0 2)) (σ1 := [cm (zab.enc p0), .cells [(.c (.lit (.string r1))), (.c (.fn (.func 90) [] [.fptr (zab.enc r2) 0]))], .cells [(.c (.lit (.string r3))), (.c (.fn (.func 92) [] [.fptr (zab.enc r2) 0]))], .cells [(.c (.lit (.string r4))), (.c (.fn (.func 101) [] [.fptr (zah r5) 0, .fptr (zah r6) 0, .fptr (zah r7) 0]))], .cells [(.c (.lit (.string r8))), (.c (.fn (.func 95) [] [.fptr (zab.enc r2) 0]))], .cells [(.c (.lit (.string r9))), (.c (.fn (.func 97) [] [.fptr (zab.enc r2) 0]))], .cells [(.c (.lit (.string r10))), (.c (.fn (.func 101) [] [.fptr (zah r11) 0, .fptr (zah r12) 0, .fptr (zah r13) 0]))], .cells [(.c (.lit (.string r14))), (.c (.fn (.func 99) [] [.fptr (zab.enc r2) 0]))], .cells [(.c (.lit (.string r15))), (.c (.fn (.func 101) [] [.fptr (zah r16) 0, .fptr (zah r17) 0, .fptr (zah r18) 0]))], .cells [(.c (.lit (.string r19))), (.c (.fn (.func 101) [] [.fptr (zah r20) 0, .fptr (zah r21) 0, .fptr (zah r22) 0]))], .cells [(.c (.lit (.string (⟨#[]⟩ : ByteArray)))), (.c (.lit .nilFunc))]]) (zaG Z Z) Z <| st (σ1 := [cm (zab.enc p0), .cells [(.c (.lit (.string r1))), (.c (.fn (.func 90) [] [.fptr (zab.enc r2) 0]))], .cells [(.c (.lit (.string r3))), (.c (.fn (.func 92) [] [.fptr (zab.enc r2) 0]))], .cells [(.c (.lit (.string r4))), (.c (.fn (.func 101) [] [.fptr (zah r5) 0, .fptr (zah r6) 0, .fptr (zah r7) 0]))], .cells [(.c (.lit (.string r8))), (.c (.fn (.func 95) [] [.fptr (zab.enc r2) 0]))], .cells [(.c (.lit (.string r9))), (.c (.fn (.func 97) [] [.fptr (zab.enc r2) 0]))], .cells [(.c (.lit (.string r10))), (.c (.fn (.func 101) [] [.fptr (zah r11) 0, .fptr (zah r12) 0, .fptr (zah r13) 0]))], .cells [(.c (.lit (.string r14))), (.c (.fn (.func 99) [] [.fptr (zab.enc r2) 0]))], .cells [(.c (.lit (.string r15))), (.c (.fn (.func 101) [] [.fptr (zah r16) 0, .fptr (zah r17) 0, .fptr (zah r18) 0]))], .cells [(.c (.lit (.string r19))), (.c (.fn (.func 101) [] [.fptr (zah r20) 0, .fptr (zah r21) 0, .fptr (zah r22) 0]))], .cells [(.c (.lit (.string r23))), (.c (.fn (.func 101) [] [.fptr (zah r24) 0, .fptr (zah r25) 0, .fptr (zah r26) 0]))]]) Z <| nl <| nx <| sq <| rq O <| o (d := (.ptr 10 1 2)) (zaf Z) Z <| l (d := (.c (.fn (.func 101) [] [.fptr (zah r24) 0, .fptr (zah r25) 0, .fptr (zah r26) 0]))) Z <| ?_
           obtain ⟨r85, e86, h⟩ := bs h
           refine o (d := (B r85)) (zez Z Z (zaS Z Z Z (zcp e86) Z)) Z <| o (d := (B (!r85))) (zbA Z Z Z Z) Z <| nl <| nx <| Sem.cond Z (fun c87 => ?_) (fun c87 => ?_)
           ·rw [if_pos c87] at h
            refine sq <| rq O <| o (d := (.ptr 10 0 2)) (zaf Z) Z <| l (d := (.c (.lit (.string r23)))) Z <| m Z <| nl <| nx <| Sem.ret mix <| nx <| nx <| nx ?_
            cases h
            exact ⟨.inr Z, _, _, Z, Z, DLe.of_nrm Z⟩
           ·rw [if_neg (zaH c87)] at h
            refine Sem.skip mix <| nx <| nx <| rq O <| o (d := (I 10)) (bo Z) Z <| m Z <| nl <| nx <| SemL.succ ?_
            try unfold A72xl0
            refine sq <| rq O <| o (d := (B true)) (bo Z) Z <| nl <| nx <| sq <| Sem.cond Z (fun _ => ?_) (fun hh => by cases hh)
            refine Sem.skip mix <| nx <| sq <| Sem.block <| sq <| rq O <| o (d := (.c (.fptr [.lit (.string r27), .fn (.func 101) [] [.fptr (zah r28) 0, .fptr (zah r29) 0, .fptr (zah r30) 0]] 0))) (zfr Z Z Z Z Z) Z <| o (d := (.agg [(.c (.lit (.string r27))), (.c (.fn (.func 101) [] [.fptr (zah r28) 0, .fptr (zah r29) 0, .fptr (zah r30) 0]))])) (zal Z Z) Z <| o (d := (.ptr 11 0 2)) (σ1 := [cm (zab.enc p0), .cells [(.c (.lit (.string r1))), (.c (.fn (.func 90) [] [.fptr (zab.enc r2) 0]))], .cells [(.c (.lit (.string r3))), (.c (.fn (.func 92) [] [.fptr (zab.enc r2) 0]))], .cells [(.c (.lit (.string r4))), (.c (.fn (.func 101) [] [.fptr (zah r5) 0, .fptr (zah r6) 0, .fptr (zah r7) 0]))], .cells [(.c (.lit (.string r8))), (.c (.fn (.func 95) [] [.fptr (zab.enc r2) 0]))], .cells [(.c (.lit (.string r9))), (.c (.fn (.func 97) [] [.fptr (zab.enc r2) 0]))], .cells [(.c (.lit (.string r10))), (.c (.fn (.func 101) [] [.fptr (zah r11) 0, .fptr (zah r12) 0, .fptr (zah r13) 0]))], .cells [(.c (.lit (.string r14))), (.c (.fn (.func 99) [] [.fptr (zab.enc r2) 0]))], .cells [(.c (.lit (.string r15))), (.c (.fn (.func 101) [] [.fptr (zah r16) 0, .fptr (zah r17) 0, .fptr (zah r18) 0]))], .cells [(.c (.lit (.string r19))), (.c (.fn (.func 101) [] [.fptr (zah r20) 0, .fptr (zah r21) 0, .fptr (zah r22) 0]))], .cells [(.c (.lit (.string r23))), (.c (.fn (.func 101) [] [.fptr (zah r24) 0, .fptr (zah r25) 0, .fptr (zah r26) 0]))], .cells [(.c (.lit (.string (⟨#[]⟩ : ByteArray)))), (.c (.lit .nilFunc))]]) (zaG Z Z) Z <| st (σ1 := [cm (zab.enc p0), .cells [(.c (.lit (.string r1))), (.c (.fn (.func 90) [] [.fptr (zab.enc r2) 0]))], .cells [(.c (.lit (.string r3))), (.c (.fn (.func 92) [] [.fptr (zab.enc r2) 0]))], .cells [(.c (.lit (.string r4))), (.c (.fn (.func 101) [] [.fptr (zah r5) 0, .fptr (zah r6) 0, .fptr (zah r7) 0]))], .cells [(.c (.lit (.string r8))), (.c (.fn (.func 95) [] [.fptr (zab.enc r2) 0]))], .cells [(.c (.lit (.string r9))), (.c (.fn (.func 97) [] [.fptr (zab.enc r2) 0]))], .cells [(.c (.lit (.string r10))), (.c (.fn (.func 101) [] [.fptr (zah r11) 0, .fptr (zah r12) 0, .fptr (zah r13) 0]))], .cells [(.c (.lit (.string r14))), (.c (.fn (.func 99) [] [.fptr (zab.enc r2) 0]))], .cells [(.c (.lit (.string r15))), (.c (.fn (.func 101) [] [.fptr (zah r16) 0, .fptr (zah r17) 0, .fptr (zah r18) 0]))], .cells [(.c (.lit (.string r19))), (.c (.fn (.func 101) [] [.fptr (zah r20) 0, .fptr (zah r21) 0, .fptr (zah r22) 0]))], .cells [(.c (.lit (.string r23))), (.c (.fn (.func 101) [] [.fptr (zah r24) 0, .fptr (zah r25) 0, .fptr (zah r26) 0]))], .cells [(.c (.lit (.string r27))), (.c (.fn (.func 101) [] [.fptr (zah r28) 0, .fptr (zah r29) 0, .fptr (zah r30) 0]))]]) Z <| nl <| nx <| sq <| rq O <| o (d := (.ptr 11 1 2)) (zaf Z) Z <| l (d := (.c (.fn (.func 101) [] [.fptr (zah r28) 0, .fptr (zah r29) 0, .fptr (zah r30) 0]))) Z <| ?_
            obtain ⟨r89, e90, h⟩ := bs h
            refine o (d := (B r89)) (zez Z Z (zaS Z Z Z (zcp e90) Z)) Z <| o (d := (B (!r89))) (zbA Z Z Z Z) Z <| nl <| nx <| Sem.cond Z (fun c91 => ?_) (fun c91 => ?_)
            ·rw [if_pos c91] at h
             refine sq <| rq O <| o (d := (.ptr 11 0 2)) (zaf Z) Z <| l (d := (.c (.lit (.string r27)))) Z <| m Z <| nl <| nx <| Sem.ret mix <| nx <| nx <| nx ?_
             cases h
             exact ⟨.inr Z, _, _, Z, Z, DLe.of_nrm Z⟩
            ·rw [if_neg (zaH c91)] at h
             refine Sem.skip mix <| nx <| nx <| rq O <| o (d := (I 11)) (bo Z) Z <| m Z <| nl <| nx <| SemL.succ ?_
             try unfold A72xl0
             refine sq <| rq O <| o (d := (B true)) (bo Z) Z <| nl <| nx <| sq <| Sem.cond Z (fun _ => ?_) (fun hh => by cases hh)
             refine Sem.skip mix <| nx <| sq <| Sem.block <| sq <| rq O <| o (d := (.c (.fptr [.lit (.string r31), .fn (.func 101) [] [.fptr (zah r32) 0, .fptr (zah r33) 0, .fptr (zah r34) 0]] 0))) (zfr Z Z Z Z Z) Z <| o (d := (.agg [(.c (.lit (.string r31))), (.c (.fn (.func 101) [] [.fptr (zah r32) 0, .fptr (zah r33) 0, .fptr (zah r34) 0]))])) (zal Z Z) Z <| o (d := (.ptr 12 0 2)) (σ1 := [cm (zab.enc p0), .cells [(.c (.lit (.string r1))), (.c (.fn (.func 90) [] [.fptr (zab.enc r2) 0]))], .cells [(.c (.lit (.string r3))), (.c (.fn (.func 92) [] [.fptr (zab.enc r2) 0]))], .cells [(.c (.lit (.string r4))), (.c (.fn (.func 101) [] [.fptr (zah r5) 0, .fptr (zah r6) 0, .fptr (zah r7) 0]))], .cells [(.c (.lit (.string r8))), (.c (.fn (.func 95) [] [.fptr (zab.enc r2) 0]))], .cells [(.c (.lit (.string r9))), (.c (.fn (.func 97) [] [.fptr (zab.enc r2) 0]))], .cells [(.c (.lit (.string r10))), (.c (.fn (.func 101) [] [.fptr (zah r11) 0, .fptr (zah r12) 0, .fptr (zah r13) 0]))], .cells [(.c (.lit (.string r14))), (.c (.fn (.func 99) [] [.fptr (zab.enc r2) 0]))], .cells [(.c (.lit (.string r15))), (.c (.fn (.func 101) [] [.fptr (zah r16) 0, .fptr (zah r17) 0, .fptr (zah r18) 0]))], .cells [(.c (.lit (.string r19))), (.c (.fn (.func 101) [] [.fptr (zah r20) 0, .fptr (zah r21) 0, .fptr (zah r22) 0]))], .cells [(.c (.lit (.string r23))), (.c (.fn (.func 101) [] [.fptr (zah r24) 0, .fptr (zah r25) 0, .fptr (zah r26) 0]))], .cells [(.c (.lit (.string r27))), (.c (.fn (.func 101) [] [.fptr (zah r28) 0, .fptr (zah r29) 0, .fptr (zah r30) 0]))], .cells [(.c (.lit (.string (⟨#[]⟩ : ByteArray)))), (.c (.lit .nilFunc))]]) (zaG Z Z) Z <| st (σ1 := [cm (zab.enc p0), .cells [(.c (.lit (.string r1))), (.c (.fn (.func 90) [] [.fptr (zab.enc r2) 0]))], .cells [(.c (.lit (.string r3))), (.c (.fn (.func 92) [] [.fptr (zab.enc r2) 0]))], .cells [(.c (.lit (.string r4))), (.c (.fn (.func 101) [] [.fptr (zah r5) 0, .fptr (zah r6) 0, .fptr (zah r7) 0]))], .cells [(.c (.lit (.string r8))), (.c (.fn (.func 95) [] [.fptr (zab.enc r2) 0]))], .cells [(.c (.lit (.string r9))), (.c (.fn (.func 97) [] [.fptr (zab.enc r2) 0]))], .cells [(.c (.lit (.string r10))), (.c (.fn (.func 101) [] [.fptr (zah r11) 0, .fptr (zah r12) 0, .fptr (zah r13) 0]))], .cells [(.c (.lit (.string r14))), (.c (.fn (.func 99) [] [.fptr (zab.enc r2) 0]))], .cells [(.c (.lit (.string r15))), (.c (.fn (.func 101) [] [.fptr (zah r16) 0, .fptr (zah r17) 0, .fptr (zah r18) 0]))], .cells [(.c (.lit (.string r19))), (.c (.fn (.func 101) [] [.fptr (zah r20) 0, .fptr (zah r21) 0, .fptr (zah r22) 0]))], .cells [(.c (.lit (.string r23))), (.c (.fn (.func 101) [] [.fptr (zah r24) 0, .fptr (zah r25) 0, .fptr (zah r26) 0]))], .cells [(.c (.lit (.string r27))), (.c (.fn (.func 101) [] [.fptr (zah r28) 0, .fptr (zah r29) 0, .fptr (zah r30) 0]))], .cells [(.c (.lit (.string r31))), (.c (.fn (.func 101) [] [.fptr (zah r32) 0, .fptr (zah r33) 0, .fptr (zah r34) 0]))]]) Z <| nl <| nx <| sq <| rq O <| o (d := (.ptr 12 1 2)) (zaf Z) Z <| l (d := (.c (.fn (.func 101) [] [.fptr (zah r32) 0, .fptr (zah r33) 0, .fptr (zah r34) 0]))) Z <| ?_
             obtain ⟨r93, e94, h⟩ := bs h
             refine o (d := (B r93)) (zez Z Z (zaS Z Z Z (zcp e94) Z)) Z <| o (d := (B (!r93))) (zbA Z Z Z Z) Z <| nl <| nx <| Sem.cond Z (fun c95 => ?_) (fun c95 => ?_)
             ·rw [if_pos c95] at h
              refine sq <| rq O <| o (d := (.ptr 12 0 2)) (zaf Z) Z <| l (d := (.c (.lit (.string r31)))) Z <| m Z <| nl <| nx <| Sem.ret mix <| nx <| nx <| nx ?_
              cases h
              exact ⟨.inr Z, _, _, Z, Z, DLe.of_nrm Z⟩
             ·rw [if_neg (zaH c95)] at h
              refine Sem.skip mix <| nx <| nx <| rq O <| o (d := (I 12)) (bo Z) Z <| m Z <| nl <| nx <| SemL.succ ?_
              try unfold A72xl0
              refine sq <| rq O <| o (d := (B true)) (bo Z) Z <| nl <| nx <| sq <| Sem.cond Z (fun _ => ?_) (fun hh => by cases hh)
              refine Sem.skip mix <| nx <| sq <| Sem.block <| sq <| rq O <| o (d := (.c (.fptr [.lit (.string r35), .fn (.func 101) [] [.fptr (zah r36) 0, .fptr (zah r37) 0, .fptr (zah r38) 0]] 0))) (zfr Z Z Z Z Z) Z <| o (d := (.agg [(.c (.lit (.string r35))), (.c (.fn (.func 101) [] [.fptr (zah r36) 0, .fptr (zah r37) 0, .fptr (zah r38) 0]))])) (zal Z Z) Z <| o (d := (.ptr 13 0 2)) (σ1 := [cm (zab.enc p0), .cells [(.c (.lit (.string r1))), (.c (.fn (.func 90) [] [.fptr (zab.enc r2) 0]))], .cells [(.c (.lit (.string r3))), (.c (.fn (.func 92) [] [.fptr (zab.enc r2) 0]))], .cells [(.c (.lit (.string r4))), (.c (.fn (.func 101) [] [.fptr (zah r5) 0, .fptr (zah r6) 0, .fptr (zah r7) 0]))], .cells [(.c (.lit (.string r8))), (.c (.fn (.func 95) [] [.fptr (zab.enc r2) 0]))], .cells [(.c (.lit (.string r9))), (.c (.fn (.func 97) [] [.fptr (zab.enc r2) 0]))], .cells [(.c (.lit (.string r10))), (.c (.fn (.func 101) [] [.fptr (zah r11) 0, .fptr (zah r12) 0, .fptr (zah r13) 0]))], .cells [(.c (.lit (.string r14))), (.c (.fn (.func 99) [] [.fptr (zab.enc r2) 0]))], .cells [(.c (.lit (.string r15))), (.c (.fn (.func 101) [] [.fptr (zah r16) 0, .fptr (zah r17) 0, .fptr (zah r18) 0]))], .cells [(.c (.lit (.string r19))), (.c (.fn (.func 101) [] [.fptr (zah r20) 0, .fptr (zah r21) 0, .fptr (zah r22) 0]))], .cells [(.c (.lit (.string r23))), (.c (.fn (.func 101) [] [.fptr (zah r24) 0, .fptr (zah r25) 0, .fptr (zah r26) 0]))], .cells [(.c (.lit (.string r27))), (.c (.fn (.func 101) [] [.fptr (zah r28) 0, .fptr (zah r29) 0, .fptr (zah r30) 0]))], .cells [(.c (.lit (.string r31))), (.c (.fn (.func 101) [] [.fptr (zah r32) 0, .fptr (zah r33) 0, .fptr (zah r34) 0]))], .cells [(.c (.lit (.string (⟨#[]⟩ : ByteArray)))), (.c (.lit .nilFunc))]]) (zaG Z Z) Z <| st (σ1 := [cm (zab.enc p0), .cells [(.c (.lit (.string r1))), (.c (.fn (.func 90) [] [.fptr (zab.enc r2) 0]))], .cells [(.c (.lit (.string r3))), (.c (.fn (.func 92) [] [.fptr (zab.enc r2) 0]))], .cells [(.c (.lit (.string r4))), (.c (.fn (.func 101) [] [.fptr (zah r5) 0, .fptr (zah r6) 0, .fptr (zah r7) 0]))], .cells [(.c (.lit (.string r8))), (.c (.fn (.func 95) [] [.fptr (zab.enc r2) 0]))], .cells [(.c (.lit (.string r9))), (.c (.fn (.func 97) [] [.fptr (zab.enc r2) 0]))], .cells [(.c (.lit (.string r10))), (.c (.fn (.func 101) [] [.fptr (zah r11) 0, .fptr (zah r12) 0, .fptr (zah r13) 0]))], .cells [(.c (.lit (.string r14))), (.c (.fn (.func 99) [] [.fptr (zab.enc r2) 0]))], .cells [(.c (.lit (.string r15))), (.c (.fn (.func 101) [] [.fptr (zah r16) 0, .fptr (zah r17) 0, .fptr (zah r18) 0]))], .cells [(.c (.lit (.string r19))), (.c (.fn (.func 101) [] [.fptr (zah r20) 0, .fptr (zah r21) 0, .fptr (zah r22) 0]))], .cells [(.c (.lit (.string r23))), (.c (.fn (.func 101) [] [.fptr (zah r24) 0, .fptr (zah r25) 0, .fptr (zah r26) 0]))], .cells [(.c (.lit (.string r27))), (.c (.fn (.func 101) [] [.fptr (zah r28) 0, .fptr (zah r29) 0, .fptr (zah r30) 0]))], .cells [(.c (.lit (.string r31))), (.c (.fn (.func 101) [] [.fptr (zah r32) 0, .fptr (zah r33) 0, .fptr (zah r34) 0]))], .cells [(.c (.lit (.string r35))), (.c (.fn (.func 101) [] [.fptr (zah r36) 0, .fptr (zah r37) 0, .fptr (zah r38) 0]))]]) Z <| nl <| nx <| sq <| rq O <| o (d := (.ptr 13 1 2)) (zaf Z) Z <| l (d := (.c (.fn (.func 101) [] [.fptr (zah r36) 0, .fptr (zah r37) 0, .fptr (zah r38) 0]))) Z <| ?_
              obtain ⟨r97, e98, h⟩ := bs h
              refine o (d := (B r97)) (zez Z Z (zaS Z Z Z (zcp e98) Z)) Z <| o (d := (B (!r97))) (zbA Z Z Z Z) Z <| nl <| nx <| Sem.cond Z (fun c99 => ?_) (fun c99 => ?_)
              ·rw [if_pos c99] at h
               refine sq <| rq O <| o (d := (.ptr 13 0 2)) (zaf Z) Z <| l (d := (.c (.lit (.string r35)))) Z <| m Z <| nl <| nx <| Sem.ret mix <| nx <| nx <| nx ?_
               cases h
               exact ⟨.inr Z, _, _, Z, Z, DLe.of_nrm Z⟩
              ·rw [if_neg (zaH c99)] at h
               refine Sem.skip mix <| nx <| nx <| rq O <| o (d := (I 13)) (bo Z) Z <| m Z <| nl <| nx <| SemL.succ ?_
               try unfold A72xl0
               refine sq <| rq O <| o (d := (B true)) (bo Z) Z <| nl <| nx <| sq <| Sem.cond Z (fun _ => ?_) (fun hh => by cases hh)
               refine Sem.skip mix <| nx <| sq <| Sem.block <| sq <| rq O <| o (d := (.c (.fptr [.lit (.string r39), .fn (.func 101) [] [.fptr (zah r40) 0, .fptr (zah r41) 0, .fptr (zah r42) 0]] 0))) (zfr Z Z Z Z Z) Z <| o (d := (.agg [(.c (.lit (.string r39))), (.c (.fn (.func 101) [] [.fptr (zah r40) 0, .fptr (zah r41) 0, .fptr (zah r42) 0]))])) (zal Z Z) Z <| o (d := (.ptr 14 0 2)) (σ1 := [cm (zab.enc p0), .cells [(.c (.lit (.string r1))), (.c (.fn (.func 90) [] [.fptr (zab.enc r2) 0]))], .cells [(.c (.lit (.string r3))), (.c (.fn (.func 92) [] [.fptr (zab.enc r2) 0]))], .cells [(.c (.lit (.string r4))), (.c (.fn (.func 101) [] [.fptr (zah r5) 0, .fptr (zah r6) 0, .fptr (zah r7) 0]))], .cells [(.c (.lit (.string r8))), (.c (.fn (.func 95) [] [.fptr (zab.enc r2) 0]))], .cells [(.c (.lit (.string r9))), (.c (.fn (.func 97) [] [.fptr (zab.enc r2) 0]))], .cells [(.c (.lit (.string r10))), (.c (.fn (.func 101) [] [.fptr (zah r11) 0, .fptr (zah r12) 0, .fptr (zah r13) 0]))], .cells [(.c (.lit (.string r14))), (.c (.fn (.func 99) [] [.fptr (zab.enc r2) 0]))], .cells [(.c (.lit (.string r15))), (.c (.fn (.func 101) [] [.fptr (zah r16) 0, .fptr (zah r17) 0, .fptr (zah r18) 0]))], .cells [(.c (.lit (.string r19))), (.c (.fn (.func 101) [] [.fptr (zah r20) 0, .fptr (zah r21) 0, .fptr (zah r22) 0]))], .cells [(.c (.lit (.string r23))), (.c (.fn (.func 101) [] [.fptr (zah r24) 0, .fptr (zah r25) 0, .fptr (zah r26) 0]))], .cells [(.c (.lit (.string r27))), (.c (.fn (.func 101) [] [.fptr (zah r28) 0, .fptr (zah r29) 0, .fptr (zah r30) 0]))], .cells [(.c (.lit (.string r31))), (.c (.fn (.func 101) [] [.fptr (zah r32) 0, .fptr (zah r33) 0, .fptr (zah r34) 0]))], .cells [(.c (.lit (.string r35))), (.c (.fn (.func 101) [] [.fptr (zah r36) 0, .fptr (zah r37) 0, .fptr (zah r38) 0]))], .cells [(.c (.lit (.string (⟨#[]⟩ : ByteArray)))), (.c (.lit .nilFunc))]]) (zaG Z Z) Z <| st (σ1 := [cm (zab.enc p0), .cells [(.c (.lit (.string r1))), (.c (.fn (.func 90) [] [.fptr (zab.enc r2) 0]))], .cells [(.c (.lit (.string r3))), (.c (.fn (.func 92) [] [.fptr (zab.enc r2) 0]))], .cells [(.c (.lit (.string r4))), (.c (.fn (.func 101) [] [.fptr (zah r5) 0, .fptr (zah r6) 0, .fptr (zah r7) 0]))], .cells [(.c (.lit (.string r8))), (.c (.fn (.func 95) [] [.fptr (zab.enc r2) 0]))], .cells [(.c (.lit (.string r9))), (.c (.fn (.func 97) [] [.fptr (zab.enc r2) 0]))], .cells [(.c (.lit (.string r10))), (.c (.fn (.func 101) [] [.fptr (zah r11) 0, .fptr (zah r12) 0, .fptr (zah r13) 0]))], .cells [(.c (.lit (.string r14))), (.c (.fn (.func 99) [] [.fptr (zab.enc r2) 0]))], .cells [(.c (.lit (.string r15))), (.c (.fn (.func 101) [] [.fptr (zah r16) 0, .fptr (zah r17) 0, .fptr (zah r18) 0]))], .cells [(.c (.lit (.string r19))), (.c (.fn (.func 101) [] [.fptr (zah r20) 0, .fptr (zah r21) 0, .fptr (zah r22) 0]))], .cells [(.c (.lit (.string r23))), (.c (.fn (.func 101) [] [.fptr (zah r24) 0, .fptr (zah r25) 0, .fptr (zah r26) 0]))], .cells [(.c (.lit (.string r27))), (.c (.fn (.func 101) [] [.fptr (zah r28) 0, .fptr (zah r29) 0, .fptr (zah r30) 0]))], .cells [(.c (.lit (.string r31))), (.c (.fn (.func 101) [] [.fptr (zah r32) 0, .fptr (zah r33) 0, .fptr (zah r34) 0]))], .cells [(.c (.lit (.string r35))), (.c (.fn (.func 101) [] [.fptr (zah r36) 0, .fptr (zah r37) 0, .fptr (zah r38) 0]))], .cells [(.c (.lit (.string r39))), (.c (.fn (.func 101) [] [.fptr (zah r40) 0, .fptr (zah r41) 0, .fptr (zah r42) 0]))]]) Z <| nl <| nx <| sq <| rq O <| o (d := (.ptr 14 1 2)) (zaf Z) Z <| l (d := (.c (.fn (.func 101) [] [.fptr (zah r40) 0, .fptr (zah r41) 0, .fptr (zah r42) 0]))) Z <| ?_
               obtain ⟨r101, e102, h⟩ := bs h
               refine o (d := (B r101)) (zez Z Z (zaS Z Z Z (zcp e102) Z)) Z <| o (d := (B (!r101))) (zbA Z Z Z Z) Z <| nl <| nx <| Sem.cond Z (fun c103 => ?_) (fun c103 => ?_)
               ·rw [if_pos c103] at h
                refine sq <| rq O <| o (d := (.ptr 14 0 2)) (zaf Z) Z <| l (d := (.c (.lit (.string r39)))) Z <| m Z <| nl <| nx <| Sem.ret mix <| nx <| nx <| nx ?_
                cases h
                exact ⟨.inr Z, _, _, Z, Z, DLe.of_nrm Z⟩
               ·rw [if_neg (zaH c103)] at h
                refine Sem.skip mix <| nx <| nx <| rq O <| o (d := (I 14)) (bo Z) Z <| m Z <| nl <| nx <| SemL.succ ?_
                try unfold A72xl0
                refine sq <| rq O <| o (d := (B true)) (bo Z) Z <| nl <| nx <| sq <| Sem.cond Z (fun _ => ?_) (fun hh => by cases hh)
                refine Sem.skip mix <| nx <| sq <| Sem.block <| sq <| rq O <| o (d := (.c (.fptr [.lit (.string r43), .fn (.func 101) [] [.fptr (zah r44) 0, .fptr (zah r45) 0, .fptr (zah r46) 0]] 0))) (zfr Z Z Z Z Z) Z <| o (d := (.agg [(.c (.lit (.string r43))), (.c (.fn (.func 101) [] [.fptr (zah r44) 0, .fptr (zah r45) 0, .fptr (zah r46) 0]))])) (zal Z Z) Z <| o (d := (.ptr 15 0 2)) (σ1 := [cm (zab.enc p0), .cells [(.c (.lit (.string r1))), (.c (.fn (.func 90) [] [.fptr (zab.enc r2) 0]))], .cells [(.c (.lit (.string r3))), (.c (.fn (.func 92) [] [.fptr (zab.enc r2) 0]))], .cells [(.c (.lit (.string r4))), (.c (.fn (.func 101) [] [.fptr (zah r5) 0, .fptr (zah r6) 0, .fptr (zah r7) 0]))], .cells [(.c (.lit (.string r8))), (.c (.fn (.func 95) [] [.fptr (zab.enc r2) 0]))], .cells [(.c (.lit (.string r9))), (.c (.fn (.func 97) [] [.fptr (zab.enc r2) 0]))], .cells [(.c (.lit (.string r10))), (.c (.fn (.func 101) [] [.fptr (zah r11) 0, .fptr (zah r12) 0, .fptr (zah r13) 0]))], .cells [(.c (.lit (.string r14))), (.c (.fn (.func 99) [] [.fptr (zab.enc r2) 0]))], .cells [(.c (.lit (.string r15))), (.c (.fn (.func 101) [] [.fptr (zah r16) 0, .fptr (zah r17) 0, .fptr (zah r18) 0]))], .cells [(.c (.lit (.string r19))), (.c (.fn (.func 101) [] [.fptr (zah r20) 0, .fptr (zah r21) 0, .fptr (zah r22) 0]))], .cells [(.c (.lit (.string r23))), (.c (.fn (.func 101) [] [.fptr (zah r24) 0, .fptr (zah r25) 0, .fptr (zah r26) 0]))], .cells [(.c (.lit (.string r27))), (.c (.fn (.func 101) [] [.fptr (zah r28) 0, .fptr (zah r29) 0, .fptr (zah r30) 0]))], .cells [(.c (.lit (.string r31))), (.c (.fn (.func 101) [] [.fptr (zah r32) 0, .fptr (zah r33) 0, .fptr (zah r34) 0]))], .cells [(.c (.lit (.string r35))), (.c (.fn (.func 101) [] [.fptr (zah r36) 0, .fptr (zah r37) 0, .fptr (zah r38) 0]))], .cells [(.c (.lit (.string r39))), (.c (.fn (.func 101) [] [.fptr (zah r40) 0, .fptr (zah r41) 0, .fptr (zah r42) 0]))], .cells [(.c (.lit (.string (⟨#[]⟩ : ByteArray)))), (.c (.lit .nilFunc))]]) (zaG Z Z) Z <| st (σ1 := [cm (zab.enc p0), .cells [(.c (.lit (.string r1))), (.c (.fn (.func 90) [] [.fptr (zab.enc r2) 0]))], .cells [(.c (.lit (.string r3))), (.c (.fn (.func 92) [] [.fptr (zab.enc r2) 0]))], .cells [(.c (.lit (.string r4))), (.c (.fn (.func 101) [] [.fptr (zah r5) 0, .fptr (zah r6) 0, .fptr (zah r7) 0]))], .cells [(.c (.lit (.string r8))), (.c (.fn (.func 95) [] [.fptr (zab.enc r2) 0]))], .cells [(.c (.lit (.string r9))), (.c (.fn (.func 97) [] [.fptr (zab.enc r2) 0]))], .cells [(.c (.lit (.string r10))), (.c (.fn (.func 101) [] [.fptr (zah r11) 0, .fptr (zah r12) 0, .fptr (zah r13) 0]))], .cells [(.c (.lit (.string r14))), (.c (.fn (.func 99) [] [.fptr (zab.enc r2) 0]))], .cells [(.c (.lit (.string r15))), (.c (.fn (.func 101) [] [.fptr (zah r16) 0, .fptr (zah r17) 0, .fptr (zah r18) 0]))], .cells [(.c (.lit (.string r19))), (.c (.fn (.func 101) [] [.fptr (zah r20) 0, .fptr (zah r21) 0, .fptr (zah r22) 0]))], .cells [(.c (.lit (.string r23))), (.c (.fn (.func 101) [] [.fptr (zah r24) 0, .fptr (zah r25) 0, .fptr (zah r26) 0]))], .cells [(.c (.lit (.string r27))), (.c (.fn (.func 101) [] [.fptr (zah r28) 0, .fptr (zah r29) 0, .fptr (zah r30) 0]))], .cells [(.c (.lit (.string r31))), (.c (.fn (.func 101) [] [.fptr (zah r32) 0, .fptr (zah r33) 0, .fptr (zah r34) 0]))], .cells [(.c (.lit (.string r35))), (.c (.fn (.func 101) [] [.fptr (zah r36) 0, .fptr (zah r37) 0, .fptr (zah r38) 0]))], .cells [(.c (.lit (.string r39))), (.c (.fn (.func 101) [] [.fptr (zah r40) 0, .fptr (zah r41) 0, .fptr (zah r42) 0]))], .cells [(.c (.lit (.string r43))), (.c (.fn (.func 101) [] [.fptr (zah r44) 0, .fptr (zah r45) 0, .fptr (zah r46) 0]))]]) Z <| nl <| nx <| sq <| rq O <| o (d := (.ptr 15 1 2)) (zaf Z) Z <| l (d := (.c (.fn (.func 101) [] [.fptr (zah r44) 0, .fptr (zah r45) 0, .fptr (zah r46) 0]))) Z <| ?_
                obtain ⟨r105, e106, h⟩ := bs h
                refine o (d := (B r105)) (zez Z Z (zaS Z Z Z (zcp e106) Z)) Z <| o (d := (B (!r105))) (zbA Z Z Z Z) Z <| nl <| nx <| Sem.cond Z (fun c107 => ?_) (fun c107 => ?_)
                ·rw [if_pos c107] at h
                 refine sq <| rq O <| o (d := (.ptr 15 0 2)) (zaf Z) Z <| l (d := (.c (.lit (.string r43)))) Z <| m Z <| nl <| nx <| Sem.ret mix <| nx <| nx <| nx ?_
                 cases h
                 exact ⟨.inr Z, _, _, Z, Z, DLe.of_nrm Z⟩
                ·rw [if_neg (zaH c107)] at h
                 refine Sem.skip mix <| nx <| nx <| rq O <| o (d := (I 15)) (bo Z) Z <| m Z <| nl <| nx <| SemL.succ ?_
                 try unfold A72xl0
                 refine sq <| rq O <| o (d := (B false)) (bo Z) Z <| nl <| nx <| sq <| Sem.cond Z (fun hh => by cases hh) (fun _ => ?_)
                 refine Sem.exit mix <| nx <| ⟨_, _, .refl, fun _ => ?_, fun hh => absurd Z hh⟩
                 refine nx <| sq <| rq O <| m Z <| nl <| nx <| Sem.ret mix ?_
                 cases h
                 exact ⟨.inr Z, _, _, Z, Z, DLe.of_nrm Z⟩
noncomputable def F72 (N : Nat) : List D → Option D := spec (A := zab) (R := ByteArray) (fun a => [(ST (zab.enc a))]) (fun r => (.c (.lit (.string r)))) (fun a => spec_Flaw N a)
theorem K72 (N : Nat) : ∀ ds r, F72 N ds = some r → za9 Tryd.prog 72 ds r := zav fun a r h => spec_Flaw_ok N a r h
theorem spec_Flaw_eq {N : Nat} {p0 : zab} {r : ByteArray} (h : spec_Flaw N p0 = some r) : F72 N [(ST (zab.enc p0))] = some (.c (.lit (.string r))) := zaw (a := p0) (ij1 (zbx zab.inj)) h
noncomputable def S42 (N : Nat) : za1 := [(72, F72 N)]
theorem O42 (N : Nat) : zaO Tryd.prog (zat (S42 N)) := zap (zaj.cons (K72 N) <| zaj.nil)
theorem spec_Right_ok (N : Nat) (p0 : zab) (r : Bool) (h : spec_Right N p0 = some r) : za9 Tryd.prog 42 [(ST (zab.enc p0))] (B r) := by
  have O := And.intro mix (O42 N)
  refine zan Tryd.func42 (by kernel_rfl) C42 (bl Z) ?_
  unfold spec_Right at h
  unfold A42
  dsimp only [zbc]
  refine sq <| rq O <| o (d := (.ptr 0 0 18)) (σ1 := [cm (zab.enc p0)]) (zba Z Z Z Z) Z <| m Z <| nl <| nx <| sq <| rq O <| l (d := (ST (zab.enc p0))) Z <| ?_
  obtain ⟨r1, e2, h⟩ := bs h
  refine o (d := (.c (.lit (.string r1)))) (ca (spec_Flaw_eq e2) Z) Z <| o (d := (B (r1.toList == (⟨#[]⟩ : ByteArray).toList))) (bo Z) Z <| m Z <| nl <| nx <| Sem.ret mix ?_
  cases h
  exact ⟨.inr Z, _, _, Z, Z, DLe.of_nrm Z⟩
noncomputable def F42 (N : Nat) : List D → Option D := spec (A := zab) (R := Bool) (fun a => [(ST (zab.enc a))]) (fun r => (B r)) (fun a => spec_Right N a)
theorem K42 (N : Nat) : ∀ ds r, F42 N ds = some r → za9 Tryd.prog 42 ds r := zav fun a r h => spec_Right_ok N a r h
theorem spec_Right_eq {N : Nat} {p0 : zab} {r : Bool} (h : spec_Right N p0 = some r) : F42 N [(ST (zab.enc p0))] = some (B r) := zaw (a := p0) (ij1 (zbx zab.inj)) h
noncomputable def S73 (N : Nat) : za1 := []
theorem O73 (N : Nat) : zaO Tryd.prog (zat (S73 N)) := zap (zaj.nil)
theorem job_within_ok (N : Nat) (p0 : Int) (p1 : Int) (p2 : Int) (r : Bool) (h : zcZ N p0 p1 p2 = some r) : za9 Tryd.prog 73 [I p0, I p1, I p2] (B r) := by
  have O := And.intro mix (O73 N)
  refine zan Tryd.func73 (by kernel_rfl) C73 (bl Z) ?_
  unfold zcZ at h
  unfold A73
  dsimp only [zbc]
  refine sq <| rq O <| m Z <| nl <| nx <| Sem.step [(6, (B ((decide (p1 ≤ p0)) && (decide (p0 ≤ p2)))))] [] (rq O ?_) ?_
  ·refine m Z <| m Z <| o (d := (B (decide (p1 ≤ p0)))) (bo Z) Z <| m Z <| ?_
   rcases bb (decide (p1 ≤ p0)) with g1 | g1
   ·refine mo g1 Z <| mo g1 Z <| q (d := (B (decide (p0 ≤ p2)))) (bo Z) g1 Z <| pT g1 Z <| m Z <| nl ⟨rfl, .same (sE Z (by rw [g1]; rfl) <| sZ)⟩
   ·refine TrQ.know (v := false) 10 Z g1 <| TrQ.skipG 3 Z <| pF Z Z <| m Z <| nl ⟨rfl, .same (sE Z (by rw [g1]; rfl) <| sZ)⟩
  ·refine Sem.ret mix ?_
   cases h
   exact ⟨.inr Z, _, _, Z, Z, DLe.of_nrm Z⟩
noncomputable def F73 (N : Nat) : List D → Option D := spec (A := Int × Int × Int) (R := Bool) (fun a => [I a.1, I a.2.1, I a.2.2]) (fun r => (B r)) (fun a => zcZ N a.1 a.2.1 a.2.2)
theorem K73 (N : Nat) : ∀ ds r, F73 N ds = some r → za9 Tryd.prog 73 ds r := zav fun a r h => job_within_ok N a.1 a.2.1 a.2.2 r h
theorem zc6 {N : Nat} {p0 : Int} {p1 : Int} {p2 : Int} {r : Bool} (h : zcZ N p0 p1 p2 = some r) : F73 N [I p0, I p1, I p2] = some (B r) := zaw (a := (p0, p1, p2)) (ij3 zev zev zev) h
noncomputable def S74 (N : Nat) : za1 := [(73, F73 N)]
theorem O74 (N : Nat) : zaO Tryd.prog (zat (S74 N)) := zap (zaj.cons (K73 N) <| zaj.nil)
theorem job_afterRight_ok (N : Nat) (p0 : zad) (r : Bool) (h : zei N p0 = some r) : za9 Tryd.prog 74 [(ST (zad.enc p0))] (B r) := by
  have O := And.intro mix (O74 N)
  refine zan Tryd.func74 (by kernel_rfl) C74 (bl Z) ?_
  unfold zei at h
  unfold A74
  dsimp only [zbc]
  refine sq <| rq O <| o (d := (.ptr 0 0 18)) (σ1 := [cm (zad.enc p0)]) (zba Z Z Z Z) Z <| m Z <| nl <| nx <| sq <| sq <| rq O <| o (d := (.ptr 0 9 18)) (zaf Z) Z <| l (d := (SL za4.enc p0.After)) Z <| o (d := (I (p0.After.length : Int))) (zaA Z) Z <| o (d := (B (decide ((p0.After.length : Int) > 4)))) (bo Z) Z <| nl <| nx <| Sem.cond Z (fun c1 => ?_) (fun c1 => ?_)
  ·rw [if_pos c1] at h
   refine sq <| rq O <| m Z <| nl <| nx <| Sem.ret mix ?_
   cases h
   exact ⟨.inr Z, _, _, Z, Z, DLe.of_nrm Z⟩
  ·rw [if_neg (zaH c1)] at h
   refine Sem.skip mix <| nx <| sq <| sq <| rq O <| o (d := (.ptr 0 9 18)) (zaf Z) Z <| l (d := (SL za4.enc p0.After)) Z <| o (d := (I (p0.After.length : Int))) (zaA Z) Z <| m Z <| nl <| nx <| Sem.block <| Sem.rounds (V := Int) (fun (x2 : Int) => [(1, (.ptr 0 0 18)), (10, (SL za4.enc p0.After)), (11, (I (p0.After.length : Int))), (12, (I x2))]) (fun (x2 : Int) => [cm (zad.enc p0)]) (fun k v => zdx N p0 k v = some r) N 0 h (fun v h => by unfold zdx at h; cases h) ?_ (sS Z <| sS Z <| sS Z <| sS Z <| sZ) Z
   intro kL0 x2 h
   try dsimp only at h ⊢
   unfold zdx at h
   unfold A74xl0
   refine sq <| rq O <| o (d := (B (decide (x2 < (p0.After.length : Int))))) (bo Z) Z <| nl <| nx <| sq <| Sem.cond Z (fun c3 => ?_) (fun c3 => ?_)
   ·rw [if_pos c3] at h
    refine Sem.skip mix <| nx <| sq <| Sem.block <| sq <| rq O ?_
    obtain ⟨a4, e5, h⟩ := bs h
    refine o (zaF Z Z e5 Z) Z <| o (d := (ST (za4.enc a4))) (zal Z Z) Z <| o (d := (.ptr 1 0 2)) (σ1 := [cm (zad.enc p0), .cells [I 0, B false]]) (zaG Z Z) Z <| st (σ1 := [cm (zad.enc p0), cm (za4.enc a4)]) Z <| nl <| nx <| sq <| rq O <| o (d := (.ptr 1 0 2)) (zaf Z) Z <| l (d := (I a4.Job)) Z <| o (d := (.ptr 0 0 18)) (zaf Z) Z <| l (d := (I p0.Id)) Z <| o (d := (I (IntKind.i64.wrap (p0.Id - 1)))) (bo Z) Z <| ?_
    obtain ⟨r6, e7, h⟩ := bs h
    refine o (d := (B r6)) (ca (zc6 e7) Z) Z <| o (d := (B (!r6))) (zbA Z Z Z Z) Z <| nl <| nx <| Sem.cond Z (fun c8 => ?_) (fun c8 => ?_)
    ·rw [if_pos c8] at h
     refine sq <| rq O <| m Z <| nl <| nx <| Sem.ret mix <| nx <| nx <| nx ?_
     cases h
     exact ⟨.inr Z, _, _, Z, Z, DLe.of_nrm Z⟩
    ·rw [if_neg (zaH c8)] at h
     refine Sem.skip mix <| nx <| nx <| rq O <| o (d := (I (IntKind.i64.wrap (x2 + 1)))) (bo Z) Z <| m Z <| nl ?_
     exact ⟨(IntKind.i64.wrap (x2 + 1)), h, .cut 1 (bl Z) (bl Z) (sS Z <| sS Z <| sS Z <| sS Z <| sZ) Z Z⟩
   ·rw [if_neg (zaH c3)] at h
    refine Sem.exit mix <| nx <| ⟨_, _, .refl, fun _ => ?_, fun hh => absurd Z hh⟩
    refine nx <| sq <| rq O <| m Z <| nl <| nx <| Sem.ret mix ?_
    cases h
    exact ⟨.inr Z, _, _, Z, Z, DLe.of_nrm Z⟩
noncomputable def F74 (N : Nat) : List D → Option D := spec (A := zad) (R := Bool) (fun a => [(ST (zad.enc a))]) (fun r => (B r)) (fun a => zei N a)
theorem K74 (N : Nat) : ∀ ds r, F74 N ds = some r → za9 Tryd.prog 74 ds r := zav fun a r h => job_afterRight_ok N a r h
theorem job_afterRight_eq {N : Nat} {p0 : zad} {r : Bool} (h : zei N p0 = some r) : F74 N [(ST (zad.enc p0))] = some (B r) := zaw (a := p0) (ij1 (zbx zad.inj)) h
noncomputable def S52 (N : Nat) : za1 := []
theorem O52 (N : Nat) : zaO Tryd.prog (zat (S52 N)) := zap (zaj.nil)
theorem life_Over_ok (N : Nat) (p0 : Int) (r : Bool) (h : life_Over N p0 = some r) : za9 Tryd.prog 52 [I p0] (B r) := by
  have O := And.intro mix (O52 N)
  refine zan Tryd.func52 (by kernel_rfl) C52 (bl Z) ?_
  unfold life_Over at h
  unfold A52
  dsimp only [zbc]
  refine sq <| rq O <| m Z <| nl <| nx <| Sem.step [(2, (B ((p0 == 5) || (p0 == 6))))] [] (rq O ?_) ?_
  ·refine m Z <| o (d := (B (p0 == 5))) (bo Z) Z <| m Z <| ?_
   rcases bb (p0 == 5) with g1 | g1
   ·refine TrQ.know (v := true) 5 Z g1 <| TrQ.skipG 2 Z <| pT Z Z <| m Z <| nl ⟨rfl, .same (sE Z (by rw [g1]; rfl) <| sZ)⟩
   ·refine mo g1 Z <| q (d := (B (p0 == 6))) (bo Z) g1 Z <| pF g1 Z <| m Z <| nl ⟨rfl, .same (sE Z (by rw [g1]; rfl) <| sZ)⟩
  ·refine Sem.ret mix ?_
   cases h
   exact ⟨.inr Z, _, _, Z, Z, DLe.of_nrm Z⟩
noncomputable def F52 (N : Nat) : List D → Option D := spec (A := Int) (R := Bool) (fun a => [I a]) (fun r => (B r)) (fun a => life_Over N a)
theorem K52 (N : Nat) : ∀ ds r, F52 N ds = some r → za9 Tryd.prog 52 ds r := zav fun a r h => life_Over_ok N a r h
theorem life_Over_eq {N : Nat} {p0 : Int} {r : Bool} (h : life_Over N p0 = some r) : F52 N [I p0] = some (B r) := zaw (a := p0) (ij1 zev) h
noncomputable def S86 (N : Nat) : za1 := []
theorem O86 (N : Nat) : zaO Tryd.prog (zat (S86 N)) := zap (zaj.nil)
theorem life_Name_ok (N : Nat) (p0 : Int) (r : ByteArray) (h : life_Name N p0 = some r) : za9 Tryd.prog 86 [I p0] (.c (.lit (.string r))) := by
  have O := And.intro mix (O86 N)
  refine zan Tryd.func86 (by kernel_rfl) C86 (bl Z) ?_
  unfold life_Name at h
  unfold A86
  dsimp only [zbc]
  refine sq <| rq O <| m Z <| nl <| nx <| sq <| sq <| rq O <| m Z <| nl <| nx <| Sem.block <| sq <| rq O <| o (d := (B (p0 == 1))) (bo Z) Z <| m Z <| nl <| nx <| Sem.cond Z (fun c1 => ?_) (fun c1 => ?_)
  ·rw [if_pos c1] at h
   refine sq <| rq O <| m Z <| nl <| nx <| Sem.ret mix <| nx ?_
   cases h
   exact ⟨.inr Z, _, _, Z, Z, DLe.of_nrm Z⟩
  ·rw [if_neg (zaH c1)] at h
   refine sq <| rq O <| o (d := (B (p0 == 2))) (bo Z) Z <| m Z <| nl <| nx <| Sem.cond Z (fun c2 => ?_) (fun c2 => ?_)
   ·rw [if_pos c2] at h
    refine sq <| rq O <| m Z <| nl <| nx <| Sem.ret mix <| nx ?_
    cases h
    exact ⟨.inr Z, _, _, Z, Z, DLe.of_nrm Z⟩
   ·rw [if_neg (zaH c2)] at h
    refine sq <| rq O <| o (d := (B (p0 == 3))) (bo Z) Z <| m Z <| nl <| nx <| Sem.cond Z (fun c3 => ?_) (fun c3 => ?_)
    ·rw [if_pos c3] at h
     refine sq <| rq O <| m Z <| nl <| nx <| Sem.ret mix <| nx ?_
     cases h
     exact ⟨.inr Z, _, _, Z, Z, DLe.of_nrm Z⟩
    ·rw [if_neg (zaH c3)] at h
     refine sq <| rq O <| o (d := (B (p0 == 4))) (bo Z) Z <| m Z <| nl <| nx <| Sem.cond Z (fun c4 => ?_) (fun c4 => ?_)
     ·rw [if_pos c4] at h
      refine sq <| rq O <| m Z <| nl <| nx <| Sem.ret mix <| nx ?_
      cases h
      exact ⟨.inr Z, _, _, Z, Z, DLe.of_nrm Z⟩
     ·rw [if_neg (zaH c4)] at h
      refine sq <| rq O <| o (d := (B (p0 == 5))) (bo Z) Z <| m Z <| nl <| nx <| Sem.cond Z (fun c5 => ?_) (fun c5 => ?_)
      ·rw [if_pos c5] at h
       refine sq <| rq O <| m Z <| nl <| nx <| Sem.ret mix <| nx ?_
       cases h
       exact ⟨.inr Z, _, _, Z, Z, DLe.of_nrm Z⟩
      ·rw [if_neg (zaH c5)] at h
       refine sq <| rq O <| o (d := (B (p0 == 6))) (bo Z) Z <| m Z <| nl <| nx <| Sem.cond Z (fun c6 => ?_) (fun c6 => ?_)
       ·rw [if_pos c6] at h
        refine sq <| rq O <| m Z <| nl <| nx <| Sem.ret mix <| nx ?_
        cases h
        exact ⟨.inr Z, _, _, Z, Z, DLe.of_nrm Z⟩
       ·rw [if_neg (zaH c6)] at h
        refine Sem.skip mix <| nx <| nx <| sq <| rq O <| m Z <| nl <| nx <| Sem.ret mix ?_
        cases h
        exact ⟨.inr Z, _, _, Z, Z, DLe.of_nrm Z⟩
noncomputable def F86 (N : Nat) : List D → Option D := spec (A := Int) (R := ByteArray) (fun a => [I a]) (fun r => (.c (.lit (.string r)))) (fun a => life_Name N a)
theorem K86 (N : Nat) : ∀ ds r, F86 N ds = some r → za9 Tryd.prog 86 ds r := zav fun a r h => life_Name_ok N a r h
theorem life_Name_eq {N : Nat} {p0 : Int} {r : ByteArray} (h : life_Name N p0 = some r) : F86 N [I p0] = some (.c (.lit (.string r))) := zaw (a := p0) (ij1 zev) h
noncomputable def S87 (N : Nat) : za1 := []
theorem O87 (N : Nat) : zaO Tryd.prog (zat (S87 N)) := zap (zaj.nil)
theorem life_Waits_ok (N : Nat) (p0 : Int) (r : Bool) (h : life_Waits N p0 = some r) : za9 Tryd.prog 87 [I p0] (B r) := by
  have O := And.intro mix (O87 N)
  refine zan Tryd.func87 (by kernel_rfl) C87 (bl Z) ?_
  unfold life_Waits at h
  unfold A87
  dsimp only [zbc]
  refine sq <| rq O <| m Z <| nl <| nx <| Sem.step [(2, (B ((p0 == 1) || (p0 == 2))))] [] (rq O ?_) ?_
  ·refine m Z <| o (d := (B (p0 == 1))) (bo Z) Z <| m Z <| ?_
   rcases bb (p0 == 1) with g1 | g1
   ·refine TrQ.know (v := true) 5 Z g1 <| TrQ.skipG 2 Z <| pT Z Z <| m Z <| nl ⟨rfl, .same (sE Z (by rw [g1]; rfl) <| sZ)⟩
   ·refine mo g1 Z <| q (d := (B (p0 == 2))) (bo Z) g1 Z <| pF g1 Z <| m Z <| nl ⟨rfl, .same (sE Z (by rw [g1]; rfl) <| sZ)⟩
  ·refine Sem.ret mix ?_
   cases h
   exact ⟨.inr Z, _, _, Z, Z, DLe.of_nrm Z⟩
noncomputable def F87 (N : Nat) : List D → Option D := spec (A := Int) (R := Bool) (fun a => [I a]) (fun r => (B r)) (fun a => life_Waits N a)
theorem K87 (N : Nat) : ∀ ds r, F87 N ds = some r → za9 Tryd.prog 87 ds r := zav fun a r h => life_Waits_ok N a r h
theorem life_Waits_eq {N : Nat} {p0 : Int} {r : Bool} (h : life_Waits N p0 = some r) : F87 N [I p0] = some (B r) := zaw (a := p0) (ij1 zev) h
noncomputable def S75 (N : Nat) : za1 := [(86, F86 N), (87, F87 N), (52, F52 N)]
theorem O75 (N : Nat) : zaO Tryd.prog (zat (S75 N)) := zap (zaj.cons (K86 N) <| zaj.cons (K87 N) <| zaj.cons (K52 N) <| zaj.nil)
theorem job_stateRight_ok (N : Nat) (p0 : zad) (r : Bool) (h : zeK N p0 = some r) : za9 Tryd.prog 75 [(ST (zad.enc p0))] (B r) := by
  have O := And.intro mix (O75 N)
  refine zan Tryd.func75 (by kernel_rfl) C75 (bl Z) ?_
  unfold zeK at h
  unfold A75
  dsimp only [zbc]
  refine sq <| rq O <| o (d := (.ptr 0 0 18)) (σ1 := [cm (zad.enc p0)]) (zba Z Z Z Z) Z <| m Z <| nl <| nx <| sq <| Sem.block <| sq <| rq O <| o (d := (.ptr 0 10 18)) (zaf Z) Z <| l (d := (I p0.State)) Z <| ?_
  obtain ⟨r1, e2, h⟩ := bs h
  refine o (d := (.c (.lit (.string r1)))) (ca (life_Name_eq e2) Z) Z <| o (d := (B (r1.toList == (⟨#[]⟩ : ByteArray).toList))) (bo Z) Z <| m Z <| nl <| nx <| Sem.cond Z (fun c3 => ?_) (fun c3 => ?_)
  ·rw [if_pos c3] at h
   refine sq <| rq O <| m Z <| nl <| nx <| Sem.ret mix <| nx ?_
   cases h
   exact ⟨.inr Z, _, _, Z, Z, DLe.of_nrm Z⟩
  ·rw [if_neg (zaH c3)] at h
   refine Sem.join (fun (x6 : Bool) => [(1, (.ptr 0 0 18)), (8, (B x6))]) (fun (x6 : Bool) => [cm (zad.enc p0)]) (fun (x6 : Bool) => zet N p0 x6 = some r) ?_ (rq O ?_)
   ·intro x6 h
    try dsimp only at h ⊢
    unfold zet at h
    refine Sem.cond Z (fun c7 => ?_) (fun c7 => ?_)
    ·rw [if_pos c7] at h
     refine sq <| rq O <| m Z <| nl <| nx <| Sem.ret mix <| nx ?_
     cases h
     exact ⟨.inr Z, _, _, Z, Z, DLe.of_nrm Z⟩
    ·rw [if_neg (zaH c7)] at h
     refine Sem.join (fun (x10 : Bool) => [(1, (.ptr 0 0 18)), (17, (B x10))]) (fun (x10 : Bool) => [cm (zad.enc p0)]) (fun (x10 : Bool) => zes N p0 x10 = some r) ?_ (rq O ?_)
     ·intro x10 h
      try dsimp only at h ⊢
      unfold zes at h
      refine Sem.cond Z (fun c11 => ?_) (fun c11 => ?_)
      ·rw [if_pos c11] at h
       refine sq <| rq O <| m Z <| nl <| nx <| Sem.ret mix <| nx ?_
       cases h
       exact ⟨.inr Z, _, _, Z, Z, DLe.of_nrm Z⟩
      ·rw [if_neg (zaH c11)] at h
       refine Sem.step [(1, (.ptr 0 0 18)), (27, (B (p0.Ok && ((p0.State != 4) && (p0.State != 5)))))] [cm (zad.enc p0)] (rq O ?_) ?_
       ·refine o (d := (.ptr 0 11 18)) (zaf Z) Z <| l (d := (B p0.Ok)) Z <| m Z <| ?_
        rcases bb p0.Ok with g1 | g1
        ·refine q (d := (.ptr 0 10 18)) (zaf Z) g1 Z <| lo (d := (I p0.State)) g1 Z <| q (d := (B (p0.State != 4))) (bo Z) g1 Z <| pT g1 Z <| m Z <| ?_
         rcases bb (p0.State != 4) with g2 | g2
         ·refine q (d := (.ptr 0 10 18)) (zaf Z) g2 Z <| lo (d := (I p0.State)) g2 Z <| q (d := (B (p0.State != 5))) (bo Z) g2 Z <| pT g2 Z <| m Z <| nl ⟨rfl, .same (sS Z <| sE Z (by rw [g1, g2]; rfl) <| sZ)⟩
         ·refine TrQ.know (v := false) 35 Z g2 <| TrQ.skipG 3 Z <| pF Z Z <| m Z <| nl ⟨rfl, .same (sS Z <| sE Z (by rw [g1, g2]; rfl) <| sZ)⟩
        ·refine TrQ.know (v := false) 30 Z g1 <| TrQ.skipG 3 Z <| pF Z Z <| m Z <| TrQ.skipG 3 Z <| pF Z Z <| m Z <| nl ⟨rfl, .same (sS Z <| sE Z (by rw [g1]; rfl) <| sZ)⟩
       ·refine Sem.cond Z (fun c12 => ?_) (fun c12 => ?_)
        ·rw [if_pos c12] at h
         refine sq <| rq O <| m Z <| nl <| nx <| Sem.ret mix <| nx ?_
         cases h
         exact ⟨.inr Z, _, _, Z, Z, DLe.of_nrm Z⟩
        ·rw [if_neg (zaH c12)] at h
         refine Sem.step [(40, (B (p0.Kill && ((p0.State != 4) && (p0.State != 6)))))] [cm (zad.enc p0)] (rq O ?_) ?_
         ·refine o (d := (.ptr 0 12 18)) (zaf Z) Z <| l (d := (B p0.Kill)) Z <| m Z <| ?_
          rcases bb p0.Kill with g3 | g3
          ·refine q (d := (.ptr 0 10 18)) (zaf Z) g3 Z <| lo (d := (I p0.State)) g3 Z <| q (d := (B (p0.State != 4))) (bo Z) g3 Z <| pT g3 Z <| m Z <| ?_
           rcases bb (p0.State != 4) with g4 | g4
           ·refine q (d := (.ptr 0 10 18)) (zaf Z) g4 Z <| lo (d := (I p0.State)) g4 Z <| q (d := (B (p0.State != 6))) (bo Z) g4 Z <| pT g4 Z <| m Z <| nl ⟨rfl, .same (sE Z (by rw [g3, g4]; rfl) <| sZ)⟩
           ·refine TrQ.know (v := false) 48 Z g4 <| TrQ.skipG 3 Z <| pF Z Z <| m Z <| nl ⟨rfl, .same (sE Z (by rw [g3, g4]; rfl) <| sZ)⟩
          ·refine TrQ.know (v := false) 43 Z g3 <| TrQ.skipG 3 Z <| pF Z Z <| m Z <| TrQ.skipG 3 Z <| pF Z Z <| m Z <| nl ⟨rfl, .same (sE Z (by rw [g3]; rfl) <| sZ)⟩
         ·refine Sem.cond Z (fun c13 => ?_) (fun c13 => ?_)
          ·rw [if_pos c13] at h
           refine sq <| rq O <| m Z <| nl <| nx <| Sem.ret mix <| nx ?_
           cases h
           exact ⟨.inr Z, _, _, Z, Z, DLe.of_nrm Z⟩
          ·rw [if_neg (zaH c13)] at h
           refine Sem.skip mix <| nx <| nx <| sq <| rq O <| m Z <| nl <| nx <| Sem.ret mix ?_
           cases h
           exact ⟨.inr Z, _, _, Z, Z, DLe.of_nrm Z⟩
     ·refine o (d := (.ptr 0 16 18)) (zaf Z) Z <| l (d := (I p0.End)) Z <| o (d := (B (p0.End != 0))) (bo Z) Z <| m Z <| ?_
      rcases bb (p0.End != 0) with g5 | g5
      ·rw [if_pos g5] at h
       refine q (d := (.ptr 0 10 18)) (zaf Z) g5 Z <| lo (d := (I p0.State)) g5 Z <| ?_
       obtain ⟨r14, e15, h⟩ := bs h
       refine q (d := (B r14)) (ca (life_Over_eq e15) Z) g5 Z <| q (d := (B (!r14))) (zbA Z Z Z Z) g5 Z <| pT g5 Z <| m Z <| nl ?_
       exact ⟨(!r14), h, .same (sS Z <| sS Z <| sZ)⟩
      ·rw [if_neg (zaH g5)] at h
       refine TrQ.know (v := false) 21 Z g5 <| TrQ.skipG 4 Z <| pF Z Z <| m Z <| nl ?_
       exact ⟨false, h, .same (sS Z <| sS Z <| sZ)⟩
   ·refine o (d := (.ptr 0 15 18)) (zaf Z) Z <| l (d := (I p0.Start)) Z <| o (d := (B (p0.Start != 0))) (bo Z) Z <| m Z <| ?_
    rcases bb (p0.Start != 0) with g6 | g6
    ·rw [if_pos g6] at h
     refine q (d := (.ptr 0 10 18)) (zaf Z) g6 Z <| lo (d := (I p0.State)) g6 Z <| ?_
     obtain ⟨r16, e17, h⟩ := bs h
     refine q (d := (B r16)) (ca (life_Waits_eq e17) Z) g6 Z <| pT g6 Z <| m Z <| nl ?_
     exact ⟨r16, h, .same (sS Z <| sS Z <| sZ)⟩
    ·rw [if_neg (zaH g6)] at h
     refine TrQ.know (v := false) 12 Z g6 <| TrQ.skipG 3 Z <| pF Z Z <| m Z <| nl ?_
     exact ⟨false, h, .same (sS Z <| sS Z <| sZ)⟩
noncomputable def F75 (N : Nat) : List D → Option D := spec (A := zad) (R := Bool) (fun a => [(ST (zad.enc a))]) (fun r => (B r)) (fun a => zeK N a)
theorem K75 (N : Nat) : ∀ ds r, F75 N ds = some r → za9 Tryd.prog 75 ds r := zav fun a r h => job_stateRight_ok N a r h
theorem job_stateRight_eq {N : Nat} {p0 : zad} {r : Bool} (h : zeK N p0 = some r) : F75 N [(ST (zad.enc p0))] = some (B r) := zaw (a := p0) (ij1 (zbx zad.inj)) h
noncomputable def S43 (N : Nat) : za1 := [(73, F73 N), (44, F44 N), (74, F74 N), (75, F75 N)]
theorem O43 (N : Nat) : zaO Tryd.prog (zat (S43 N)) := zap (zaj.cons (K73 N) <| zaj.cons (K44 N) <| zaj.cons (K74 N) <| zaj.cons (K75 N) <| zaj.nil)
theorem job_Right_ok (N : Nat) (p0 : zad) (r : Bool) (h : job_Right N p0 = some r) : za9 Tryd.prog 43 [(ST (zad.enc p0))] (B r) := by
  have O := And.intro mix (O43 N)
  refine zan Tryd.func43 (by kernel_rfl) C43 (bl Z) ?_
  unfold job_Right at h
  unfold A43
  dsimp only [zbc]
  refine sq <| rq O <| o (d := (.ptr 0 0 18)) (σ1 := [cm (zad.enc p0)]) (zba Z Z Z Z) Z <| m Z <| nl <| nx <| Sem.join (fun (x27 : Bool) => [(2, (B x27))]) (fun (x27 : Bool) => [cm (zad.enc p0)]) (fun (x27 : Bool) => zbT N  x27 = some r) ?_ (rq O ?_)
  ·intro x27 h
   try dsimp only at h ⊢
   unfold zbT at h
   refine Sem.ret mix ?_
   cases h
   exact ⟨.inr Z, _, _, Z, Z, DLe.of_nrm Z⟩
  ·refine o (d := (.ptr 0 0 18)) (zaf Z) Z <| l (d := (I p0.Id)) Z <| ?_
   obtain ⟨r28, e29, h⟩ := bs h
   refine o (d := (B r28)) (ca (zc6 e29) Z) Z <| m Z <| ?_
   rcases bb r28 with g1 | g1
   ·rw [if_pos g1] at h
    refine q (d := (.ptr 0 1 18)) (zaf Z) g1 Z <| lo (d := (I p0.User)) g1 Z <| ?_
    obtain ⟨r30, e31, h⟩ := bs h
    refine q (d := (B r30)) (ca (zc6 e31) Z) g1 Z <| pT g1 Z <| m Z <| ?_
    rcases bb r30 with g2 | g2
    ·rw [if_pos g2] at h
     refine q (d := (.ptr 0 2 18)) (zaf Z) g2 Z <| lo (d := (I p0.Queue)) g2 Z <| ?_
     obtain ⟨r32, e33, h⟩ := bs h
     refine q (d := (B r32)) (ca (zc6 e33) Z) g2 Z <| pT g2 Z <| m Z <| ?_
     rcases bb r32 with g3 | g3
     ·rw [if_pos g3] at h
      refine q (d := (.ptr 0 3 18)) (zaf Z) g3 Z <| lo (d := (I p0.Many)) g3 Z <| ?_
      obtain ⟨r34, e35, h⟩ := bs h
      refine q (d := (B r34)) (ca (zc6 e35) Z) g3 Z <| pT g3 Z <| m Z <| ?_
      rcases bb r34 with g4 | g4
      ·rw [if_pos g4] at h
       refine q (d := (.ptr 0 4 18)) (zaf Z) g4 Z <| lo (d := (ST (zac.enc p0.Need))) g4 Z <| ?_
       obtain ⟨r36, e37, h⟩ := bs h
       refine q (d := (B r36)) (ca (vec_Right_eq e37) Z) g4 Z <| pT g4 Z <| m Z <| ?_
       rcases bb r36 with g5 | g5
       ·rw [if_pos g5] at h
        refine q (d := (.ptr 0 4 18)) (zaf Z) g5 Z <| lo (d := (ST (zac.enc p0.Need))) g5 Z <| q (d := (.agg [I 0, I 0, I 0, I 0])) (zbB (by kernel_rfl)) g5 Z <| q (d := (B (!decide (p0.Need = ({ Cpu := 0, Mem := 0, Gpu := 0, Lic := 0 } : zac))))) (api_Res_neq (a := p0.Need) (b := ({ Cpu := 0, Mem := 0, Gpu := 0, Lic := 0 } : zac)) Z Z) g5 Z <| pT g5 Z <| m Z <| ?_
        rcases bb (!decide (p0.Need = ({ Cpu := 0, Mem := 0, Gpu := 0, Lic := 0 } : zac))) with g6 | g6
        ·rw [if_pos g6] at h
         refine q (d := (.ptr 0 8 18)) (zaf Z) g6 Z <| lo (d := (I p0.Wall)) g6 Z <| ?_
         obtain ⟨r38, e39, h⟩ := bs h
         refine q (d := (B r38)) (ca (zc6 e39) Z) g6 Z <| pT g6 Z <| m Z <| ?_
         rcases bb r38 with g7 | g7
         ·rw [if_pos g7] at h
          refine lo (d := (ST (zad.enc p0))) g7 Z <| ?_
          obtain ⟨r40, e41, h⟩ := bs h
          refine q (d := (B r40)) (ca (job_afterRight_eq e41) Z) g7 Z <| pT g7 Z <| m Z <| ?_
          rcases bb r40 with g8 | g8
          ·rw [if_pos g8] at h
           refine q (d := (.ptr 0 13 18)) (zaf Z) g8 Z <| lo (d := (I p0.Version)) g8 Z <| ?_
           obtain ⟨r42, e43, h⟩ := bs h
           refine q (d := (B r42)) (ca (zc6 e43) Z) g8 Z <| pT g8 Z <| m Z <| ?_
           rcases bb r42 with g9 | g9
           ·rw [if_pos g9] at h
            refine q (d := (.ptr 0 14 18)) (zaf Z) g9 Z <| lo (d := (I p0.Born)) g9 Z <| ?_
            obtain ⟨r44, e45, h⟩ := bs h
            refine q (d := (B r44)) (ca (zc6 e45) Z) g9 Z <| pT g9 Z <| m Z <| ?_
            rcases bb r44 with g10 | g10
            ·rw [if_pos g10] at h
             refine q (d := (.ptr 0 15 18)) (zaf Z) g10 Z <| lo (d := (I p0.Start)) g10 Z <| ?_
             obtain ⟨r46, e47, h⟩ := bs h
             refine q (d := (B r46)) (ca (zc6 e47) Z) g10 Z <| pT g10 Z <| m Z <| ?_
             rcases bb r46 with g11 | g11
             ·rw [if_pos g11] at h
              refine q (d := (.ptr 0 16 18)) (zaf Z) g11 Z <| lo (d := (I p0.End)) g11 Z <| ?_
              obtain ⟨r48, e49, h⟩ := bs h
              refine q (d := (B r48)) (ca (zc6 e49) Z) g11 Z <| pT g11 Z <| m Z <| ?_
              rcases bb r48 with g12 | g12
              ·rw [if_pos g12] at h
               refine q (d := (.ptr 0 17 18)) (zaf Z) g12 Z <| lo (d := (I p0.Array)) g12 Z <| q (d := (.ptr 0 0 18)) (zaf Z) g12 Z <| lo (d := (I p0.Id)) g12 Z <| ?_
               obtain ⟨r50, e51, h⟩ := bs h
               refine q (d := (B r50)) (ca (zc6 e51) Z) g12 Z <| pT g12 Z <| m Z <| ?_
               rcases bb r50 with g13 | g13
               ·rw [if_pos g13] at h
                refine lo (d := (ST (zad.enc p0))) g13 Z <| ?_
                obtain ⟨r52, e53, h⟩ := bs h
                refine q (d := (B r52)) (ca (job_stateRight_eq e53) Z) g13 Z <| pT g13 Z <| m Z <| nl ?_
                exact ⟨r52, h, .same (sS Z <| sZ)⟩
               ·rw [if_neg (zaH g13)] at h
                refine TrQ.know (v := false) 68 Z g13 <| TrQ.skipG 2 Z <| pF Z Z <| m Z <| nl ?_
                exact ⟨false, h, .same (sS Z <| sZ)⟩
              ·rw [if_neg (zaH g12)] at h
               refine TrQ.know (v := false) 61 Z g12 <| TrQ.skipG 5 Z <| pF Z Z <| m Z <| TrQ.skipG 2 Z <| pF Z Z <| m Z <| nl ?_
               exact ⟨false, h, .same (sS Z <| sZ)⟩
             ·rw [if_neg (zaH g11)] at h
              refine TrQ.know (v := false) 56 Z g11 <| TrQ.skipG 3 Z <| pF Z Z <| m Z <| TrQ.skipG 5 Z <| pF Z Z <| m Z <| TrQ.skipG 2 Z <| pF Z Z <| m Z <| nl ?_
              exact ⟨false, h, .same (sS Z <| sZ)⟩
            ·rw [if_neg (zaH g10)] at h
             refine TrQ.know (v := false) 51 Z g10 <| TrQ.skipG 3 Z <| pF Z Z <| m Z <| TrQ.skipG 3 Z <| pF Z Z <| m Z <| TrQ.skipG 5 Z <| pF Z Z <| m Z <| TrQ.skipG 2 Z <| pF Z Z <| m Z <| nl ?_
             exact ⟨false, h, .same (sS Z <| sZ)⟩
           ·rw [if_neg (zaH g9)] at h
            refine TrQ.know (v := false) 46 Z g9 <| TrQ.skipG 3 Z <| pF Z Z <| m Z <| TrQ.skipG 3 Z <| pF Z Z <| m Z <| TrQ.skipG 3 Z <| pF Z Z <| m Z <| TrQ.skipG 5 Z <| pF Z Z <| m Z <| TrQ.skipG 2 Z <| pF Z Z <| m Z <| nl ?_
            exact ⟨false, h, .same (sS Z <| sZ)⟩
          ·rw [if_neg (zaH g8)] at h
           refine TrQ.know (v := false) 41 Z g8 <| TrQ.skipG 3 Z <| pF Z Z <| m Z <| TrQ.skipG 3 Z <| pF Z Z <| m Z <| TrQ.skipG 3 Z <| pF Z Z <| m Z <| TrQ.skipG 3 Z <| pF Z Z <| m Z <| TrQ.skipG 5 Z <| pF Z Z <| m Z <| TrQ.skipG 2 Z <| pF Z Z <| m Z <| nl ?_
           exact ⟨false, h, .same (sS Z <| sZ)⟩
         ·rw [if_neg (zaH g7)] at h
          refine TrQ.know (v := false) 37 Z g7 <| TrQ.skipG 2 Z <| pF Z Z <| m Z <| TrQ.skipG 3 Z <| pF Z Z <| m Z <| TrQ.skipG 3 Z <| pF Z Z <| m Z <| TrQ.skipG 3 Z <| pF Z Z <| m Z <| TrQ.skipG 3 Z <| pF Z Z <| m Z <| TrQ.skipG 5 Z <| pF Z Z <| m Z <| TrQ.skipG 2 Z <| pF Z Z <| m Z <| nl ?_
          exact ⟨false, h, .same (sS Z <| sZ)⟩
        ·rw [if_neg (zaH g6)] at h
         refine TrQ.know (v := false) 32 Z g6 <| TrQ.skipG 3 Z <| pF Z Z <| m Z <| TrQ.skipG 2 Z <| pF Z Z <| m Z <| TrQ.skipG 3 Z <| pF Z Z <| m Z <| TrQ.skipG 3 Z <| pF Z Z <| m Z <| TrQ.skipG 3 Z <| pF Z Z <| m Z <| TrQ.skipG 3 Z <| pF Z Z <| m Z <| TrQ.skipG 5 Z <| pF Z Z <| m Z <| TrQ.skipG 2 Z <| pF Z Z <| m Z <| nl ?_
         exact ⟨false, h, .same (sS Z <| sZ)⟩
       ·rw [if_neg (zaH g5)] at h
        refine TrQ.know (v := false) 26 Z g5 <| TrQ.skipG 4 Z <| pF Z Z <| m Z <| TrQ.skipG 3 Z <| pF Z Z <| m Z <| TrQ.skipG 2 Z <| pF Z Z <| m Z <| TrQ.skipG 3 Z <| pF Z Z <| m Z <| TrQ.skipG 3 Z <| pF Z Z <| m Z <| TrQ.skipG 3 Z <| pF Z Z <| m Z <| TrQ.skipG 3 Z <| pF Z Z <| m Z <| TrQ.skipG 5 Z <| pF Z Z <| m Z <| TrQ.skipG 2 Z <| pF Z Z <| m Z <| nl ?_
        exact ⟨false, h, .same (sS Z <| sZ)⟩
      ·rw [if_neg (zaH g4)] at h
       refine TrQ.know (v := false) 21 Z g4 <| TrQ.skipG 3 Z <| pF Z Z <| m Z <| TrQ.skipG 4 Z <| pF Z Z <| m Z <| TrQ.skipG 3 Z <| pF Z Z <| m Z <| TrQ.skipG 2 Z <| pF Z Z <| m Z <| TrQ.skipG 3 Z <| pF Z Z <| m Z <| TrQ.skipG 3 Z <| pF Z Z <| m Z <| TrQ.skipG 3 Z <| pF Z Z <| m Z <| TrQ.skipG 3 Z <| pF Z Z <| m Z <| TrQ.skipG 5 Z <| pF Z Z <| m Z <| TrQ.skipG 2 Z <| pF Z Z <| m Z <| nl ?_
       exact ⟨false, h, .same (sS Z <| sZ)⟩
     ·rw [if_neg (zaH g3)] at h
      refine TrQ.know (v := false) 16 Z g3 <| TrQ.skipG 3 Z <| pF Z Z <| m Z <| TrQ.skipG 3 Z <| pF Z Z <| m Z <| TrQ.skipG 4 Z <| pF Z Z <| m Z <| TrQ.skipG 3 Z <| pF Z Z <| m Z <| TrQ.skipG 2 Z <| pF Z Z <| m Z <| TrQ.skipG 3 Z <| pF Z Z <| m Z <| TrQ.skipG 3 Z <| pF Z Z <| m Z <| TrQ.skipG 3 Z <| pF Z Z <| m Z <| TrQ.skipG 3 Z <| pF Z Z <| m Z <| TrQ.skipG 5 Z <| pF Z Z <| m Z <| TrQ.skipG 2 Z <| pF Z Z <| m Z <| nl ?_
      exact ⟨false, h, .same (sS Z <| sZ)⟩
    ·rw [if_neg (zaH g2)] at h
     refine TrQ.know (v := false) 11 Z g2 <| TrQ.skipG 3 Z <| pF Z Z <| m Z <| TrQ.skipG 3 Z <| pF Z Z <| m Z <| TrQ.skipG 3 Z <| pF Z Z <| m Z <| TrQ.skipG 4 Z <| pF Z Z <| m Z <| TrQ.skipG 3 Z <| pF Z Z <| m Z <| TrQ.skipG 2 Z <| pF Z Z <| m Z <| TrQ.skipG 3 Z <| pF Z Z <| m Z <| TrQ.skipG 3 Z <| pF Z Z <| m Z <| TrQ.skipG 3 Z <| pF Z Z <| m Z <| TrQ.skipG 3 Z <| pF Z Z <| m Z <| TrQ.skipG 5 Z <| pF Z Z <| m Z <| TrQ.skipG 2 Z <| pF Z Z <| m Z <| nl ?_
     exact ⟨false, h, .same (sS Z <| sZ)⟩
   ·rw [if_neg (zaH g1)] at h
    refine TrQ.know (v := false) 6 Z g1 <| TrQ.skipG 3 Z <| pF Z Z <| m Z <| TrQ.skipG 3 Z <| pF Z Z <| m Z <| TrQ.skipG 3 Z <| pF Z Z <| m Z <| TrQ.skipG 3 Z <| pF Z Z <| m Z <| TrQ.skipG 4 Z <| pF Z Z <| m Z <| TrQ.skipG 3 Z <| pF Z Z <| m Z <| TrQ.skipG 2 Z <| pF Z Z <| m Z <| TrQ.skipG 3 Z <| pF Z Z <| m Z <| TrQ.skipG 3 Z <| pF Z Z <| m Z <| TrQ.skipG 3 Z <| pF Z Z <| m Z <| TrQ.skipG 3 Z <| pF Z Z <| m Z <| TrQ.skipG 5 Z <| pF Z Z <| m Z <| TrQ.skipG 2 Z <| pF Z Z <| m Z <| nl ?_
    exact ⟨false, h, .same (sS Z <| sZ)⟩
noncomputable def F43 (N : Nat) : List D → Option D := spec (A := zad) (R := Bool) (fun a => [(ST (zad.enc a))]) (fun r => (B r)) (fun a => job_Right N a)
theorem K43 (N : Nat) : ∀ ds r, F43 N ds = some r → za9 Tryd.prog 43 ds r := zav fun a r h => job_Right_ok N a r h
theorem job_Right_eq {N : Nat} {p0 : zad} {r : Bool} (h : job_Right N p0 = some r) : F43 N [(ST (zad.enc p0))] = some (B r) := zaw (a := p0) (ij1 (zbx zad.inj)) h
noncomputable def S45 (N : Nat) : za1 := []
theorem O45 (N : Nat) : zaO Tryd.prog (zat (S45 N)) := zap (zaj.nil)
theorem place_Right_ok (N : Nat) (p0 : (List zak)) (p1 : Int) (r : Bool) (h : zfs N p0 p1 = some r) : za9 Tryd.prog 45 [(SL zak.enc p0), I p1] (B r) := by
  have O := And.intro mix (O45 N)
  refine zan Tryd.func45 (by kernel_rfl) C45 (bl Z) ?_
  unfold zfs at h
  unfold A45
  dsimp only [zbc]
  refine sq <| rq O <| m Z <| nl <| nx <| sq <| rq O <| m Z <| nl <| nx <| sq <| sq <| rq O <| m Z <| o (d := (I (p0.length : Int))) (zaA Z) Z <| m Z <| nl <| nx <| Sem.block <| Sem.rounds (V := Int × Int) (fun ((x1, x2) : Int × Int) => [(1, (I p1)), (5, (I x1)), (8, (SL zak.enc p0)), (9, (I (p0.length : Int))), (10, (I x2))]) (fun ((x1, x2) : Int × Int) => []) (fun k v => zem N p0 p1 k v.1 v.2 = some r) N ((-1), 0) h (fun v h => by unfold zem at h; cases h) ?_ (sS Z <| sS Z <| sS Z <| sS Z <| sS Z <| sZ) Z
  intro kL0 v h
  obtain ⟨x1, x2⟩ := v
  try dsimp only at h ⊢
  unfold zem at h
  unfold A45xl0
  refine sq <| rq O <| o (d := (B (decide (x2 < (p0.length : Int))))) (bo Z) Z <| nl <| nx <| sq <| Sem.cond Z (fun c3 => ?_) (fun c3 => ?_)
  ·rw [if_pos c3] at h
   refine Sem.skip mix <| nx <| sq <| Sem.block <| sq <| rq O ?_
   obtain ⟨a4, e5, h⟩ := bs h
   refine o (zaF Z Z e5 Z) Z <| o (d := (ST (zak.enc a4))) (zal Z Z) Z <| o (d := (.ptr 0 0 2)) (σ1 := [.cells [I 0, I 0]]) (zaG Z Z) Z <| st (σ1 := [cm (zak.enc a4)]) Z <| nl <| nx <| sq <| Sem.step [(1, (I p1)), (7, (.ptr 0 0 2)), (8, (SL zak.enc p0)), (9, (I (p0.length : Int))), (10, (I x2)), (33, (B ((decide (a4.Node ≤ x1)) || ((decide (a4.Node ≥ p1)) || ((decide (a4.Many < 1)) || (decide (a4.Many > 64)))))))] [cm (zak.enc a4)] (rq O ?_) ?_
   ·refine o (d := (.ptr 0 0 2)) (zaf Z) Z <| l (d := (I a4.Node)) Z <| m Z <| o (d := (B (decide (a4.Node ≤ x1)))) (bo Z) Z <| m Z <| ?_
    rcases bb (decide (a4.Node ≤ x1)) with g4 | g4
    ·refine TrQ.know (v := true) 18 Z g4 <| TrQ.skipG 4 Z <| pT Z Z <| m Z <| TrQ.skipG 3 Z <| pT Z Z <| m Z <| TrQ.skipG 3 Z <| pT Z Z <| nl ⟨rfl, .same (sS Z <| sS Z <| sS Z <| sS Z <| sS Z <| sE Z (by rw [g4]; rfl) <| sZ)⟩
    ·refine q (d := (.ptr 0 0 2)) (zaf Z) g4 Z <| lo (d := (I a4.Node)) g4 Z <| mo g4 Z <| q (d := (B (decide (a4.Node ≥ p1)))) (bo Z) g4 Z <| pF g4 Z <| m Z <| ?_
     rcases bb (decide (a4.Node ≥ p1)) with g5 | g5
     ·refine TrQ.know (v := true) 24 Z g5 <| TrQ.skipG 3 Z <| pT Z Z <| m Z <| TrQ.skipG 3 Z <| pT Z Z <| nl ⟨rfl, .same (sS Z <| sS Z <| sS Z <| sS Z <| sS Z <| sE Z (by rw [g4, g5]; rfl) <| sZ)⟩
     ·refine q (d := (.ptr 0 1 2)) (zaf Z) g5 Z <| lo (d := (I a4.Many)) g5 Z <| q (d := (B (decide (a4.Many < 1)))) (bo Z) g5 Z <| pF g5 Z <| m Z <| ?_
      rcases bb (decide (a4.Many < 1)) with g6 | g6
      ·refine TrQ.know (v := true) 29 Z g6 <| TrQ.skipG 3 Z <| pT Z Z <| nl ⟨rfl, .same (sS Z <| sS Z <| sS Z <| sS Z <| sS Z <| sE Z (by rw [g4, g5, g6]; rfl) <| sZ)⟩
      ·refine q (d := (.ptr 0 1 2)) (zaf Z) g6 Z <| lo (d := (I a4.Many)) g6 Z <| q (d := (B (decide (a4.Many > 64)))) (bo Z) g6 Z <| pF g6 Z <| nl ⟨rfl, .same (sS Z <| sS Z <| sS Z <| sS Z <| sS Z <| sE Z (by rw [g4, g5, g6]; rfl) <| sZ)⟩
   ·refine Sem.cond Z (fun c6 => ?_) (fun c6 => ?_)
    ·rw [if_pos c6] at h
     refine sq <| rq O <| m Z <| nl <| nx <| Sem.ret mix <| nx <| nx <| nx ?_
     cases h
     exact ⟨.inr Z, _, _, Z, Z, DLe.of_nrm Z⟩
    ·rw [if_neg (zaH c6)] at h
     refine Sem.skip mix <| nx <| rq O <| o (d := (.ptr 0 0 2)) (zaf Z) Z <| l (d := (I a4.Node)) Z <| m Z <| nl <| nx <| nx <| rq O <| o (d := (I (IntKind.i64.wrap (x2 + 1)))) (bo Z) Z <| m Z <| nl ?_
     exact ⟨(a4.Node, (IntKind.i64.wrap (x2 + 1))), h, .cut 0 (bl Z) (bl Z) (sS Z <| sS Z <| sS Z <| sS Z <| sS Z <| sZ) Z Z⟩
  ·rw [if_neg (zaH c3)] at h
   refine Sem.exit mix <| nx <| ⟨_, _, .refl, fun _ => ?_, fun hh => absurd Z hh⟩
   refine nx <| sq <| rq O <| m Z <| nl <| nx <| Sem.ret mix ?_
   cases h
   exact ⟨.inr Z, _, _, Z, Z, DLe.of_nrm Z⟩
noncomputable def F45 (N : Nat) : List D → Option D := spec (A := (List zak) × Int) (R := Bool) (fun a => [(SL zak.enc a.1), I a.2]) (fun r => (B r)) (fun a => zfs N a.1 a.2)
theorem K45 (N : Nat) : ∀ ds r, F45 N ds = some r → za9 Tryd.prog 45 ds r := zav fun a r h => place_Right_ok N a.1 a.2 r h
theorem place_Right_eq {N : Nat} {p0 : (List zak)} {p1 : Int} {r : Bool} (h : zfs N p0 p1 = some r) : F45 N [(SL zak.enc p0), I p1] = some (B r) := zaw (a := (p0, p1)) (ij2 (zeM zak.inj) zev) h
noncomputable def S20 (N : Nat) : za1 := [(42, F42 N), (43, F43 N), (44, F44 N), (45, F45 N)]
theorem O20 (N : Nat) : zaO Tryd.prog (zat (S20 N)) := zap (zaj.cons (K42 N) <| zaj.cons (K43 N) <| zaj.cons (K44 N) <| zaj.cons (K45 N) <| zaj.nil)
theorem audit_prepare_ok (N : Nat) (p0 : zab) (p1 : zag) (r : ((Option zaa) × Bool)) (h : zeY N p0 p1 = some r) : za9 Tryd.prog 20 [(ST (zab.enc p0)), (ST (zag.enc p1))] (.tup [(OP zaa.enc r.1), (B r.2)]) := by
  have O := And.intro mix (O20 N)
  refine zan Tryd.func20 (by kernel_rfl) C20 (bl Z) ?_
  unfold zeY at h
  unfold A20
  dsimp only [zbc]
  refine sq <| rq O <| o (d := (.ptr 0 0 18)) (σ1 := [cm (zab.enc p0)]) (zba Z Z Z Z) Z <| o (d := (.ptr 1 0 9)) (σ1 := [cm (zab.enc p0), cm (zag.enc p1)]) (zba Z Z Z Z) Z <| m Z <| m Z <| nl <| nx <| sq <| sq <| rq O <| l (d := (ST (zab.enc p0))) Z <| ?_
  obtain ⟨r1, e2, h⟩ := bs h
  refine o (d := (B r1)) (ca (spec_Right_eq e2) Z) Z <| o (d := (B (!r1))) (zbA Z Z Z Z) Z <| nl <| nx <| Sem.cond Z (fun c3 => ?_) (fun c3 => ?_)
  ·rw [if_pos c3] at h
   refine sq <| rq O <| m Z <| m Z <| nl <| nx <| Sem.ret mix ?_
   cases h
   exact ⟨.inr Z, _, _, Z, Z, DLe.of_nrm Z⟩
  ·rw [if_neg (zaH c3)] at h
   refine Sem.skip mix <| nx <| sq <| rq O <| l (d := (ST (zab.enc p0))) Z <| l (d := (ST (zag.enc p1))) Z <| o (d := (.mp 2)) (σ1 := [cm (zab.enc p0), cm (zag.enc p1), MB (fun (z : Int) => (I z)) ([] : List (Int × Int))]) (op_mkmap (g := (fun (z : Int) => (I z))) Z Z) Z <| o (d := (.mp 3)) (σ1 := [cm (zab.enc p0), cm (zag.enc p1), MB (fun (z : Int) => (I z)) ([] : List (Int × Int)), MB (fun (z : (List Int)) => (SL zah z)) ([] : List (Int × (List Int)))]) (op_mkmap (g := (fun (z : (List Int)) => (SL zah z))) Z Z) Z <| o (d := (.agg [(SL zac.enc p0.Nodes), (SL (encL zah) p0.Parts), (SL zaq.enc p0.Queues), I p0.Users, I p0.Weights.Age, I p0.Weights.Size, I p0.Weights.Qos, I p0.Weights.Share, I p0.Decay, I p0.Mode, I p0.Jobs, I p0.Ids, I p0.Versions, I p0.Linger, I p0.Keep, I p0.In, I p0.Out, I p0.Cache, I p1.Now, I p1.Next, I p1.Book, (SL zad.enc p1.Jobs), (SL zai.enc p1.Allocs), (SL zam.enc p1.Books), (SL zah p1.Use), (SL zah p1.Stamps.Queues), I p1.Stamps.Nodes, (.mp 2), (.mp 3)])) (zbB (by kernel_rfl)) Z <| o (d := (.ptr 4 0 29)) (σ1 := [cm (zab.enc p0), cm (zag.enc p1), MB (fun (z : Int) => (I z)) ([] : List (Int × Int)), MB (fun (z : (List Int)) => (SL zah z)) ([] : List (Int × (List Int))), .cells [(SL zac.enc p0.Nodes), (SL (encL zah) p0.Parts), (SL zaq.enc p0.Queues), I p0.Users, I p0.Weights.Age, I p0.Weights.Size, I p0.Weights.Qos, I p0.Weights.Share, I p0.Decay, I p0.Mode, I p0.Jobs, I p0.Ids, I p0.Versions, I p0.Linger, I p0.Keep, I p0.In, I p0.Out, I p0.Cache, I p1.Now, I p1.Next, I p1.Book, (SL zad.enc p1.Jobs), (SL zai.enc p1.Allocs), (SL zam.enc p1.Books), (SL zah p1.Use), (SL zah p1.Stamps.Queues), I p1.Stamps.Nodes, (.mp 2), (.mp 3)]]) (zba Z Z Z Z) Z <| m Z <| nl <| nx <| sq <| sq <| rq O <| o (d := (.ptr 1 3 9)) (zaf Z) Z <| l (d := (SL zad.enc p1.Jobs)) Z <| o (d := (I (p1.Jobs.length : Int))) (zaA Z) Z <| m Z <| nl <| nx <| Sem.block <| Sem.rounds (V := Int × (List (Int × Int))) (fun ((x5, y4) : Int × (List (Int × Int))) => [(2, (.ptr 0 0 18)), (3, (.ptr 1 0 9)), (6, (.ptr 4 0 29)), (23, (SL zad.enc p1.Jobs)), (24, (I (p1.Jobs.length : Int))), (25, (I x5))]) (fun ((x5, y4) : Int × (List (Int × Int))) => [cm (zab.enc p0), cm (zag.enc p1), MB (fun (z : Int) => (I z)) y4, MB (fun (z : (List Int)) => (SL zah z)) ([] : List (Int × (List Int))), .cells [(SL zac.enc p0.Nodes), (SL (encL zah) p0.Parts), (SL zaq.enc p0.Queues), I p0.Users, I p0.Weights.Age, I p0.Weights.Size, I p0.Weights.Qos, I p0.Weights.Share, I p0.Decay, I p0.Mode, I p0.Jobs, I p0.Ids, I p0.Versions, I p0.Linger, I p0.Keep, I p0.In, I p0.Out, I p0.Cache, I p1.Now, I p1.Next, I p1.Book, (SL zad.enc p1.Jobs), (SL zai.enc p1.Allocs), (SL zam.enc p1.Books), (SL zah p1.Use), (SL zah p1.Stamps.Queues), I p1.Stamps.Nodes, (.mp 2), (.mp 3)]]) (fun k v => zd8 N p0 p1 k v.1 v.2 = some r) N (0, ([] : List (Int × Int))) h (fun v h => by unfold zd8 at h; cases h) ?_ (sS Z <| sS Z <| sS Z <| sS Z <| sS Z <| sS Z <| sZ) Z
   intro kL0 v h
   obtain ⟨x5, y4⟩ := v
   try dsimp only at h ⊢
   unfold zd8 at h
   unfold A20xl0
   refine sq <| rq O <| o (d := (B (decide (x5 < (p1.Jobs.length : Int))))) (bo Z) Z <| nl <| nx <| sq <| Sem.cond Z (fun c6 => ?_) (fun c6 => ?_)
   ·rw [if_pos c6] at h
    refine Sem.skip mix <| nx <| sq <| Sem.block <| sq <| rq O <| m Z <| ?_
    obtain ⟨a7, e8, h⟩ := bs h
    refine o (zaF Z Z e8 Z) Z <| o (d := (ST (zad.enc a7))) (zal Z Z) Z <| o (d := (.ptr 5 0 18)) (σ1 := [cm (zab.enc p0), cm (zag.enc p1), MB (fun (z : Int) => (I z)) y4, MB (fun (z : (List Int)) => (SL zah z)) ([] : List (Int × (List Int))), .cells [(SL zac.enc p0.Nodes), (SL (encL zah) p0.Parts), (SL zaq.enc p0.Queues), I p0.Users, I p0.Weights.Age, I p0.Weights.Size, I p0.Weights.Qos, I p0.Weights.Share, I p0.Decay, I p0.Mode, I p0.Jobs, I p0.Ids, I p0.Versions, I p0.Linger, I p0.Keep, I p0.In, I p0.Out, I p0.Cache, I p1.Now, I p1.Next, I p1.Book, (SL zad.enc p1.Jobs), (SL zai.enc p1.Allocs), (SL zam.enc p1.Books), (SL zah p1.Use), (SL zah p1.Stamps.Queues), I p1.Stamps.Nodes, (.mp 2), (.mp 3)], .cells [I 0, I 0, I 0, I 0, I 0, I 0, I 0, I 0, I 0, sn, I 0, B false, B false, I 0, I 0, I 0, I 0, I 0]]) (zaG Z Z) Z <| m Z <| st (σ1 := [cm (zab.enc p0), cm (zag.enc p1), MB (fun (z : Int) => (I z)) y4, MB (fun (z : (List Int)) => (SL zah z)) ([] : List (Int × (List Int))), .cells [(SL zac.enc p0.Nodes), (SL (encL zah) p0.Parts), (SL zaq.enc p0.Queues), I p0.Users, I p0.Weights.Age, I p0.Weights.Size, I p0.Weights.Qos, I p0.Weights.Share, I p0.Decay, I p0.Mode, I p0.Jobs, I p0.Ids, I p0.Versions, I p0.Linger, I p0.Keep, I p0.In, I p0.Out, I p0.Cache, I p1.Now, I p1.Next, I p1.Book, (SL zad.enc p1.Jobs), (SL zai.enc p1.Allocs), (SL zam.enc p1.Books), (SL zah p1.Use), (SL zah p1.Stamps.Queues), I p1.Stamps.Nodes, (.mp 2), (.mp 3)], cm (zad.enc a7)]) Z <| nl <| nx <| sq <| sq <| dq O <| m Z <| o (d := (.ptr 4 0 29)) (zfl Z) Z <| o (d := (.ptr 4 27 29)) (zaf Z) Z <| l (d := (.mp 2)) Z <| o (d := (.ptr 5 0 18)) (zaf Z) Z <| l (d := (I a7.Id)) Z <| ?_
    cases g2 : mget y4 a7.Id with
    | none =>
     rw [g2] at h
     dsimp only [oel] at h
     refine o (d := (.tup [I 0, B false])) (op_lookN (g := (fun (z : Int) => (I z))) Z Z Z g2 Z) Z <| m Z <| o (zbw Z Z) Z <| o (zbw Z Z) Z <| m Z <| m Z <| nl ⟨by kernel_rfl, ?_⟩
     refine nx <| sq <| rq O <| m Z <| m Z <| lo (d := (ST (zad.enc a7))) Z Z <| ?_
     obtain ⟨r13, e14, h⟩ := bs h
     refine q (d := (B r13)) (ca (job_Right_eq e14) Z) Z Z <| q (d := (B (!r13))) (zbA Z Z Z Z) Z Z <| pF Z Z <| nl <| nx <| Sem.cond Z (fun c15 => ?_) (fun c15 => ?_)
     ·rw [if_pos c15] at h
      refine sq <| rq O <| m Z <| m Z <| nl <| nx <| Sem.ret mix <| nx <| nx <| nx ?_
      cases h
      exact ⟨.inr Z, _, _, Z, Z, DLe.of_nrm Z⟩
     ·rw [if_neg (zaH c15)] at h
      refine Sem.skip mix <| nx <| dq O <| m Z <| o (d := (.ptr 4 0 29)) (zfl Z) Z <| o (d := (.ptr 4 27 29)) (zaf Z) Z <| l (d := (.mp 2)) Z <| o (d := (.ptr 5 0 18)) (zaf Z) Z <| l (d := (I a7.Id)) Z <| m Z <| TrQ.eff (σ1 := [cm (zab.enc p0), cm (zag.enc p1), MB (fun (z : Int) => (I z)) (mset y4 a7.Id x5), MB (fun (z : (List Int)) => (SL zah z)) ([] : List (Int × (List Int))), .cells [(SL zac.enc p0.Nodes), (SL (encL zah) p0.Parts), (SL zaq.enc p0.Queues), I p0.Users, I p0.Weights.Age, I p0.Weights.Size, I p0.Weights.Qos, I p0.Weights.Share, I p0.Decay, I p0.Mode, I p0.Jobs, I p0.Ids, I p0.Versions, I p0.Linger, I p0.Keep, I p0.In, I p0.Out, I p0.Cache, I p1.Now, I p1.Next, I p1.Book, (SL zad.enc p1.Jobs), (SL zai.enc p1.Allocs), (SL zam.enc p1.Books), (SL zah p1.Use), (SL zah p1.Stamps.Queues), I p1.Stamps.Nodes, (.mp 2), (.mp 3)], cm (zad.enc a7)]) (op_upd (g := (fun (z : Int) => (I z))) Z Z Z Z Z) gd_none Z <| nl ⟨by kernel_rfl, ?_⟩
      refine nx <| nx <| rq O <| o (d := (I (IntKind.i64.wrap (x5 + 1)))) (bo Z) Z <| m Z <| nl ?_
      exact ⟨((IntKind.i64.wrap (x5 + 1)), (mset y4 a7.Id x5)), h, .cut 5 (bl Z) (bl Z) (sS Z <| sS Z <| sS Z <| sS Z <| sS Z <| sS Z <| sZ) Z (zeN Z (zeN Z (zeN lowMB (zeN lowMB (zeN Z Z)))))⟩
    | some o9 =>
     rw [g2] at h
     dsimp only [oel] at h
     refine o (d := (.tup [I o9, B true])) (op_look (g := (fun (z : Int) => (I z))) Z Z Z g2 Z) Z <| m Z <| o (zbw Z Z) Z <| o (zbw Z Z) Z <| m Z <| m Z <| nl ⟨by kernel_rfl, ?_⟩
     refine nx <| sq <| rq O <| m Z <| m Z <| TrQ.skipG 3 Z <| pT Z Z <| nl <| nx <| Sem.cond Z (fun _ => ?_) (fun hh => by cases hh)
     refine sq <| rq O <| m Z <| m Z <| nl <| nx <| Sem.ret mix <| nx <| nx <| nx ?_
     cases h
     exact ⟨.inr Z, _, _, Z, Z, DLe.of_nrm Z⟩
   ·rw [if_neg (zaH c6)] at h
    refine Sem.exit mix <| nx <| ⟨_, _, .refl, fun _ => ?_, fun hh => absurd Z hh⟩
    refine nx <| sq <| sq <| rq O <| o (d := (.ptr 1 4 9)) (zaf Z) Z <| l (d := (SL zai.enc p1.Allocs)) Z <| o (d := (I (p1.Allocs.length : Int))) (zaA Z) Z <| m Z <| nl <| nx <| Sem.block <| Sem.rounds (V := Int × (List (Int × (List Int)))) (fun ((x17, y16) : Int × (List (Int × (List Int)))) => [(2, (.ptr 0 0 18)), (6, (.ptr 4 0 29)), (55, (SL zai.enc p1.Allocs)), (56, (I (p1.Allocs.length : Int))), (57, (I x17))]) (fun ((x17, y16) : Int × (List (Int × (List Int)))) => [cm (zab.enc p0), cm (zag.enc p1), MB (fun (z : Int) => (I z)) y4, MB (fun (z : (List Int)) => (SL zah z)) y16, .cells [(SL zac.enc p0.Nodes), (SL (encL zah) p0.Parts), (SL zaq.enc p0.Queues), I p0.Users, I p0.Weights.Age, I p0.Weights.Size, I p0.Weights.Qos, I p0.Weights.Share, I p0.Decay, I p0.Mode, I p0.Jobs, I p0.Ids, I p0.Versions, I p0.Linger, I p0.Keep, I p0.In, I p0.Out, I p0.Cache, I p1.Now, I p1.Next, I p1.Book, (SL zad.enc p1.Jobs), (SL zai.enc p1.Allocs), (SL zam.enc p1.Books), (SL zah p1.Use), (SL zah p1.Stamps.Queues), I p1.Stamps.Nodes, (.mp 2), (.mp 3)]]) (fun k v => zcr N p0 p1 y4 k v.1 v.2 = some r) N (0, ([] : List (Int × (List Int)))) h (fun v h => by unfold zcr at h; cases h) ?_ (sS Z <| sS Z <| sS Z <| sS Z <| sS Z <| sZ) Z
    intro kL1 v h
    obtain ⟨x17, y16⟩ := v
    try dsimp only at h ⊢
    unfold zcr at h
    unfold A20xl1
    refine sq <| rq O <| o (d := (B (decide (x17 < (p1.Allocs.length : Int))))) (bo Z) Z <| nl <| nx <| sq <| Sem.cond Z (fun c18 => ?_) (fun c18 => ?_)
    ·rw [if_pos c18] at h
     refine Sem.skip mix <| nx <| sq <| Sem.block <| sq <| rq O <| m Z <| ?_
     obtain ⟨a19, e20, h⟩ := bs h
     refine o (zaF Z Z e20 Z) Z <| o (d := (ST (zai.enc a19))) (zal Z Z) Z <| o (d := (.ptr 5 0 6)) (σ1 := [cm (zab.enc p0), cm (zag.enc p1), MB (fun (z : Int) => (I z)) y4, MB (fun (z : (List Int)) => (SL zah z)) y16, .cells [(SL zac.enc p0.Nodes), (SL (encL zah) p0.Parts), (SL zaq.enc p0.Queues), I p0.Users, I p0.Weights.Age, I p0.Weights.Size, I p0.Weights.Qos, I p0.Weights.Share, I p0.Decay, I p0.Mode, I p0.Jobs, I p0.Ids, I p0.Versions, I p0.Linger, I p0.Keep, I p0.In, I p0.Out, I p0.Cache, I p1.Now, I p1.Next, I p1.Book, (SL zad.enc p1.Jobs), (SL zai.enc p1.Allocs), (SL zam.enc p1.Books), (SL zah p1.Use), (SL zah p1.Stamps.Queues), I p1.Stamps.Nodes, (.mp 2), (.mp 3)], .cells [I 0, I 0, I 0, I 0, I 0, sn]]) (zaG Z Z) Z <| m Z <| st (σ1 := [cm (zab.enc p0), cm (zag.enc p1), MB (fun (z : Int) => (I z)) y4, MB (fun (z : (List Int)) => (SL zah z)) y16, .cells [(SL zac.enc p0.Nodes), (SL (encL zah) p0.Parts), (SL zaq.enc p0.Queues), I p0.Users, I p0.Weights.Age, I p0.Weights.Size, I p0.Weights.Qos, I p0.Weights.Share, I p0.Decay, I p0.Mode, I p0.Jobs, I p0.Ids, I p0.Versions, I p0.Linger, I p0.Keep, I p0.In, I p0.Out, I p0.Cache, I p1.Now, I p1.Next, I p1.Book, (SL zad.enc p1.Jobs), (SL zai.enc p1.Allocs), (SL zam.enc p1.Books), (SL zah p1.Use), (SL zah p1.Stamps.Queues), I p1.Stamps.Nodes, (.mp 2), (.mp 3)], cm (zai.enc a19)]) Z <| nl <| nx <| sq <| Sem.join (fun (x25 : Bool) => [(2, (.ptr 0 0 18)), (6, (.ptr 4 0 29)), (11, (I x17)), (12, (.ptr 5 0 6)), (55, (SL zai.enc p1.Allocs)), (56, (I (p1.Allocs.length : Int))), (57, (I x17)), (74, (B x25))]) (fun (x25 : Bool) => [cm (zab.enc p0), cm (zag.enc p1), MB (fun (z : Int) => (I z)) y4, MB (fun (z : (List Int)) => (SL zah z)) y16, .cells [(SL zac.enc p0.Nodes), (SL (encL zah) p0.Parts), (SL zaq.enc p0.Queues), I p0.Users, I p0.Weights.Age, I p0.Weights.Size, I p0.Weights.Qos, I p0.Weights.Share, I p0.Decay, I p0.Mode, I p0.Jobs, I p0.Ids, I p0.Versions, I p0.Linger, I p0.Keep, I p0.In, I p0.Out, I p0.Cache, I p1.Now, I p1.Next, I p1.Book, (SL zad.enc p1.Jobs), (SL zai.enc p1.Allocs), (SL zam.enc p1.Books), (SL zah p1.Use), (SL zah p1.Stamps.Queues), I p1.Stamps.Nodes, (.mp 2), (.mp 3)], cm (zai.enc a19)]) (fun (x25 : Bool) => ze2 N y16 x17 a19 (zcr N p0 p1 y4 kL1) x25 = some r) ?_ (rq O ?_)
     ·intro x25 h
      try dsimp only at h ⊢
      unfold ze2 at h
      refine Sem.cond Z (fun c26 => ?_) (fun c26 => ?_)
      ·rw [if_pos c26] at h
       refine sq <| rq O <| m Z <| m Z <| nl <| nx <| Sem.ret mix <| nx <| nx <| nx ?_
       cases h
       exact ⟨.inr Z, _, _, Z, Z, DLe.of_nrm Z⟩
      ·rw [if_neg (zaH c26)] at h
       refine Sem.skip mix <| nx <| Sem.drwNQ O.1 O.2 <| m Z <| o (d := (.ptr 4 0 29)) (zfl Z) Z <| o (d := (.ptr 4 28 29)) (zaf Z) Z <| l (d := (.mp 3)) Z <| o (d := (.ptr 5 0 6)) (zaf Z) Z <| l (d := (I a19.Job)) Z <| m Z <| o (d := (.ptr 4 0 29)) (zfl Z) Z <| o (d := (.ptr 4 28 29)) (zaf Z) Z <| l (d := (.mp 3)) Z <| o (d := (.ptr 5 0 6)) (zaf Z) Z <| l (d := (I a19.Job)) Z <| ?_
       cases g5 : mget y16 a19.Job with
       | none =>
        rw [g5] at h
        dsimp only [oel] at h
        refine o (d := sn) (op_lookN (g := (fun (z : (List Int)) => (SL zah z))) Z Z Z g5 Z) Z <| m Z <| o (d := (OS 1 6 1)) (σ1 := [cm (zab.enc p0), cm (zag.enc p1), MB (fun (z : Int) => (I z)) y4, MB (fun (z : (List Int)) => (SL zah z)) y16, .cells [(SL zac.enc p0.Nodes), (SL (encL zah) p0.Parts), (SL zaq.enc p0.Queues), I p0.Users, I p0.Weights.Age, I p0.Weights.Size, I p0.Weights.Qos, I p0.Weights.Share, I p0.Decay, I p0.Mode, I p0.Jobs, I p0.Ids, I p0.Versions, I p0.Linger, I p0.Keep, I p0.In, I p0.Out, I p0.Cache, I p1.Now, I p1.Next, I p1.Book, (SL zad.enc p1.Jobs), (SL zai.enc p1.Allocs), (SL zam.enc p1.Books), (SL zah p1.Use), (SL zah p1.Stamps.Queues), I p1.Stamps.Nodes, (.mp 2), (.mp 3)], cm (zai.enc a19), OB zah ([x17] : List Int)]) (zaL (f := zah) (l := ([x17] : List Int)) (cs := ((([x17] : List Int)).flatMap zah).map .c) (by kernel_rfl) Z Z (fun _ => Z) Z Z Z) Z <| o (d := (OS 1 7 1)) (σ1 := [cm (zab.enc p0), cm (zag.enc p1), MB (fun (z : Int) => (I z)) y4, MB (fun (z : (List Int)) => (SL zah z)) y16, .cells [(SL zac.enc p0.Nodes), (SL (encL zah) p0.Parts), (SL zaq.enc p0.Queues), I p0.Users, I p0.Weights.Age, I p0.Weights.Size, I p0.Weights.Qos, I p0.Weights.Share, I p0.Decay, I p0.Mode, I p0.Jobs, I p0.Ids, I p0.Versions, I p0.Linger, I p0.Keep, I p0.In, I p0.Out, I p0.Cache, I p1.Now, I p1.Next, I p1.Book, (SL zad.enc p1.Jobs), (SL zai.enc p1.Allocs), (SL zam.enc p1.Books), (SL zah p1.Use), (SL zah p1.Stamps.Queues), I p1.Stamps.Nodes, (.mp 2), (.mp 3)], cm (zai.enc a19), OB zah ([x17] : List Int), OB zah ([x17] : List Int)]) (op_appendN (f := zah) (m := ([x17] : List Int)) Z Z (zeL (fun _ => Z) Z (by simp)) Z Z Z Z Z) Z <| TrQ.eff (σ1 := [cm (zab.enc p0), cm (zag.enc p1), MB (fun (z : Int) => (I z)) y4, .map (mbE (fun (z : (List Int)) => (SL zah z)) 0 y16 ++ [(.int .i64 a19.Job, (OS 1 7 1), y16.length)]) (y16.length + 1), .cells [(SL zac.enc p0.Nodes), (SL (encL zah) p0.Parts), (SL zaq.enc p0.Queues), I p0.Users, I p0.Weights.Age, I p0.Weights.Size, I p0.Weights.Qos, I p0.Weights.Share, I p0.Decay, I p0.Mode, I p0.Jobs, I p0.Ids, I p0.Versions, I p0.Linger, I p0.Keep, I p0.In, I p0.Out, I p0.Cache, I p1.Now, I p1.Next, I p1.Book, (SL zad.enc p1.Jobs), (SL zai.enc p1.Allocs), (SL zam.enc p1.Books), (SL zah p1.Use), (SL zah p1.Stamps.Queues), I p1.Stamps.Nodes, (.mp 2), (.mp 3)], cm (zai.enc a19), OB zah ([x17] : List Int), OB zah ([x17] : List Int)]) (op_updP (g := (fun (z : (List Int)) => (SL zah z))) Z Z Z Z g5 Z) gd_none Z <| nl ⟨by kernel_rfl, ?_⟩
        refine nx <| nx <| Sem.freeze (f := zah) (l := ([x17] : List Int)) (F := (SL zah ([x17] : List Int))) (fun _ => Z) (bl Z) 3 _ (MB (fun (z : (List Int)) => (SL zah z)) (mset y16 a19.Job ([x17] : List Int))) [cm (zab.enc p0), cm (zag.enc p1), MB (fun (z : Int) => (I z)) y4, .map (mbE (fun (z : (List Int)) => (SL zah z)) 0 y16 ++ [(.int .i64 a19.Job, (OS 1 7 1), y16.length)]) (y16.length + 1), .cells [(SL zac.enc p0.Nodes), (SL (encL zah) p0.Parts), (SL zaq.enc p0.Queues), I p0.Users, I p0.Weights.Age, I p0.Weights.Size, I p0.Weights.Qos, I p0.Weights.Share, I p0.Decay, I p0.Mode, I p0.Jobs, I p0.Ids, I p0.Versions, I p0.Linger, I p0.Keep, I p0.In, I p0.Out, I p0.Cache, I p1.Now, I p1.Next, I p1.Book, (SL zad.enc p1.Jobs), (SL zai.enc p1.Allocs), (SL zam.enc p1.Books), (SL zah p1.Use), (SL zah p1.Stamps.Queues), I p1.Stamps.Nodes, (.mp 2), (.mp 3)], cm (zai.enc a19), OB zah ([x17] : List Int)] Z Z (DLe.of_nrm Z) (obFz_push g5 Z) Z <| rq O <| o (d := (I (IntKind.i64.wrap (x17 + 1)))) (bo Z) Z <| m Z <| nl ?_
        exact ⟨((IntKind.i64.wrap (x17 + 1)), (mset y16 a19.Job ([x17] : List Int))), h, .cut 5 (bl Z) (bl Z) (sS Z <| sS Z <| sS Z <| sS Z <| sS Z <| sZ) Z (zeN Z (zeN Z (zeN lowMB (zeN lowMB (zeN Z Z)))))⟩
       | some o27 =>
        rw [g5] at h
        dsimp only [oel] at h
        refine o (d := (SL zah o27)) (op_look (g := (fun (z : (List Int)) => (SL zah z))) Z Z Z g5 Z) Z <| m Z <| o (d := (OS 1 6 1)) (σ1 := [cm (zab.enc p0), cm (zag.enc p1), MB (fun (z : Int) => (I z)) y4, MB (fun (z : (List Int)) => (SL zah z)) y16, .cells [(SL zac.enc p0.Nodes), (SL (encL zah) p0.Parts), (SL zaq.enc p0.Queues), I p0.Users, I p0.Weights.Age, I p0.Weights.Size, I p0.Weights.Qos, I p0.Weights.Share, I p0.Decay, I p0.Mode, I p0.Jobs, I p0.Ids, I p0.Versions, I p0.Linger, I p0.Keep, I p0.In, I p0.Out, I p0.Cache, I p1.Now, I p1.Next, I p1.Book, (SL zad.enc p1.Jobs), (SL zai.enc p1.Allocs), (SL zam.enc p1.Books), (SL zah p1.Use), (SL zah p1.Stamps.Queues), I p1.Stamps.Nodes, (.mp 2), (.mp 3)], cm (zai.enc a19), OB zah ([x17] : List Int)]) (zaL (f := zah) (l := ([x17] : List Int)) (cs := ((([x17] : List Int)).flatMap zah).map .c) (by kernel_rfl) Z Z (fun _ => Z) Z Z Z) Z <| ?_
        cases h
     ·refine o (d := (.ptr 5 1 6)) (zaf Z) Z <| l (d := (ST (zac.enc a19.Need))) Z <| ?_
      obtain ⟨r28, e29, h⟩ := bs h
      refine o (d := (B r28)) (ca (vec_Right_eq e29) Z) Z <| o (d := (B (!r28))) (zbA Z Z Z Z) Z <| m Z <| ?_
      rcases bb (!r28) with g6 | g6
      ·rw [if_pos g6] at h
       refine TrQ.know (v := true) 66 Z g6 <| TrQ.skipG 7 Z <| pT Z Z <| nl ?_
       exact ⟨true, h, .same (sS Z <| sS Z <| sS Z <| sS Z <| sS Z <| sS Z <| sS Z <| sS Z <| sZ)⟩
      ·rw [if_neg (zaH g6)] at h
       refine q (d := (.ptr 5 5 6)) (zaf Z) g6 Z <| lo (d := (SL zak.enc a19.Shares)) g6 Z <| q (d := (.ptr 0 0 18)) (zaf Z) g6 Z <| lo (d := (SL zac.enc p0.Nodes)) g6 Z <| q (d := (I (p0.Nodes.length : Int))) (zaA Z) g6 Z <| ?_
       obtain ⟨r30, e31, h⟩ := bs h
       refine q (d := (B r30)) (ca (place_Right_eq e31) Z) g6 Z <| q (d := (B (!r30))) (zbA Z Z Z Z) g6 Z <| pF g6 Z <| nl ?_
       exact ⟨(!r30), h, .same (sS Z <| sS Z <| sS Z <| sS Z <| sS Z <| sS Z <| sS Z <| sS Z <| sZ)⟩
    ·rw [if_neg (zaH c18)] at h
     refine Sem.exit mix <| nx <| ⟨_, _, .refl, fun _ => ?_, fun hh => absurd Z hh⟩
     refine nx <| sq <| rq O <| m Z <| m Z <| m Z <| nl <| nx <| Sem.ret mix ?_
     cases h
     exact ⟨.inr Z, _, _, Z, (frz_tup (zb2 (frz1xptr Z (zb2 Z (zb2 Z (zb2 Z (zb2 Z (zb2 Z (zb2 Z (zb2 Z (zb2 Z (zb2 Z (zb2 Z (zb2 Z (zb2 Z (zb2 Z (zb2 Z (zb2 Z (zb2 Z (zb2 Z (zb2 Z (zb2 Z (zb2 Z (zb2 Z (zb2 Z (zb2 Z (zb2 Z (zb2 Z (zb2 Z (zb2 Z (zb2 (frzC_mp (g := (fun (z : Int) => .lit (.int .i64 z))) (k := 97) Z) (zb2 (frzC_mp (g := (fun (z : (List Int)) => .frz false (z.map zah))) (k := 97) Z) Z)))))))))))))))))))))))))))))) (zb2 Z Z))), DLe.of_nrm Z⟩
noncomputable def F20 (N : Nat) : List D → Option D := spec (A := zab × zag) (R := ((Option zaa) × Bool)) (fun a => [(ST (zab.enc a.1)), (ST (zag.enc a.2))]) (fun r => (.tup [(OP zaa.enc r.1), (B r.2)])) (fun a => zeY N a.1 a.2)
theorem K20 (N : Nat) : ∀ ds r, F20 N ds = some r → za9 Tryd.prog 20 ds r := zav fun a r h => audit_prepare_ok N a.1 a.2 r h
theorem audit_prepare_eq {N : Nat} {p0 : zab} {p1 : zag} {r : ((Option zaa) × Bool)} (h : zeY N p0 p1 = some r) : F20 N [(ST (zab.enc p0)), (ST (zag.enc p1))] = some (.tup [(OP zaa.enc r.1), (B r.2)]) := zaw (a := (p0, p1)) (ij2 (zbx zab.inj) (zbx zag.inj)) h
end Go.Abs
