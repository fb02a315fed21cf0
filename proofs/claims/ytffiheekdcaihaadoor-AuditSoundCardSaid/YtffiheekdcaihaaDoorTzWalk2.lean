/- The code computes these functions (2). -/
import Derived.Test.YtffiheekdcaihaaDoorTzWalk1
set_option linter.all false
namespace Go.Abs
variable [Gl]
open Go.Proofs
set_option linter.unusedVariables false
set_option maxRecDepth 100000
set_option maxHeartbeats 2000000
noncomputable def S46 (N : Nat) : za1 := [(76, F76 N)]
theorem O46 (N : Nat) : zaO Tryd.prog (zat (S46 N)) := zap (zaj.cons (K76 N) <| zaj.nil)
theorem vec_Fits_ok (N : Nat) (p0 : zac) (p1 : zac) (r : Bool) (h : vec_Fits N p0 p1 = some r) : za9 Tryd.prog 46 [(ST (zac.enc p0)), (ST (zac.enc p1))] (B r) := by
  have O := And.intro mix (O46 N)
  refine zan Tryd.func46 (by kernel_rfl) C46 (bl Z) ?_
  unfold vec_Fits at h
  unfold A46
  dsimp only [zbc]
  refine sq <| rq O <| o (d := (.ptr 0 0 4)) (σ1 := [cm (zac.enc p0)]) (zba Z Z Z Z) Z <| o (d := (.ptr 1 0 4)) (σ1 := [cm (zac.enc p0), cm (zac.enc p1)]) (zba Z Z Z Z) Z <| m Z <| nl <| nx <| sq <| dq O <| l (d := (ST (zac.enc p0))) Z <| ?_
  obtain ⟨r1, e2, h⟩ := bs h
  refine o (d := (.agg [I r1.1, I r1.2.1, I r1.2.2.1, I r1.2.2.2])) (ca (vec_numbers_eq e2) Z) Z <| l (d := (ST (zac.enc p1))) Z <| ?_
  obtain ⟨r3, e4, h⟩ := bs h
  refine o (d := (.agg [I r3.1, I r3.2.1, I r3.2.2.1, I r3.2.2.2])) (ca (vec_numbers_eq e4) Z) Z <| o (d := (.ptr 2 0 4)) (σ1 := [cm (zac.enc p0), cm (zac.enc p1), .cells [I 0, I 0, I 0, I 0]]) (zaG Z Z) Z <| o (d := (.ptr 3 0 4)) (σ1 := [cm (zac.enc p0), cm (zac.enc p1), .cells [I 0, I 0, I 0, I 0], .cells [I 0, I 0, I 0, I 0]]) (zaG Z Z) Z <| st (σ1 := [cm (zac.enc p0), cm (zac.enc p1), .cells [I r1.1, I r1.2.1, I r1.2.2.1, I r1.2.2.2], .cells [I 0, I 0, I 0, I 0]]) Z <| st (σ1 := [cm (zac.enc p0), cm (zac.enc p1), .cells [I r1.1, I r1.2.1, I r1.2.2.1, I r1.2.2.2], .cells [I r3.1, I r3.2.1, I r3.2.2.1, I r3.2.2.2]]) Z <| nl ⟨by kernel_rfl, ?_⟩
  refine nx <| sq <| sq <| rq O <| m Z <| nl <| nx <| Sem.block <| Sem.rounds (V := Int) (fun (x5 : Int) => [(5, (.ptr 2 0 4)), (6, (.ptr 3 0 4)), (12, (I x5))]) (fun (x5 : Int) => [cm (zac.enc p0), cm (zac.enc p1), .cells [I r1.1, I r1.2.1, I r1.2.2.1, I r1.2.2.2], .cells [I r3.1, I r3.2.1, I r3.2.2.1, I r3.2.2.2]]) (fun k v => zeX N r1 r3 k v = some r) N 0 h (fun v h => by unfold zeX at h; cases h) ?_ (sS Z <| sS Z <| sS Z <| sZ) Z
  intro kL0 x5 h
  try dsimp only at h ⊢
  unfold zeX at h
  unfold A46xl0
  refine sq <| rq O <| o (d := (B (decide (x5 < 4)))) (bo Z) Z <| nl <| nx <| sq <| Sem.cond Z (fun c6 => ?_) (fun c6 => ?_)
  ·rw [if_pos c6] at h
   refine Sem.skip mix <| nx <| sq <| Sem.block <| sq <| rq O <| m Z <| m Z <| nl <| nx <| sq <| dq O <| m Z <| ?_
   obtain ⟨a7, e8, h⟩ := bs h
   refine o (d := (.ptr 2 (0 + x5.toNat * 1) 4)) (op_idxA (l := [r1.1, r1.2.1, r1.2.2.1, r1.2.2.2]) Z Z e8 Z Z) Z <| o (d := (I a7)) (op_loadA (f := fun z => (I z)) (l := [r1.1, r1.2.1, r1.2.2.1, r1.2.2.2]) Z Z Z Z e8) Z <| m Z <| ?_
   obtain ⟨a9, e10, h⟩ := bs h
   refine o (d := (.ptr 3 (0 + x5.toNat * 1) 4)) (op_idxA (l := [r3.1, r3.2.1, r3.2.2.1, r3.2.2.2]) Z Z e10 Z Z) Z <| o (d := (I a9)) (op_loadA (f := fun z => (I z)) (l := [r3.1, r3.2.1, r3.2.2.1, r3.2.2.2]) Z Z Z Z e10) Z <| o (d := (B (decide (a7 > a9)))) (bo Z) Z <| nl ⟨by kernel_rfl, ?_⟩
   refine nx <| Sem.cond Z (fun c11 => ?_) (fun c11 => ?_)
   ·rw [if_pos c11] at h
    refine sq <| rq O <| m Z <| nl <| nx <| Sem.ret mix <| nx <| nx <| nx ?_
    cases h
    exact ⟨.inr Z, _, _, Z, Z, DLe.of_nrm Z⟩
   ·rw [if_neg (zaH c11)] at h
    refine Sem.skip mix <| nx <| nx <| rq O <| o (d := (I (IntKind.i64.wrap (x5 + 1)))) (bo Z) Z <| m Z <| nl ?_
    exact ⟨(IntKind.i64.wrap (x5 + 1)), h, .same (sS Z <| sS Z <| sS Z <| sZ)⟩
  ·rw [if_neg (zaH c6)] at h
   refine Sem.exit mix <| nx <| ⟨_, _, .refl, fun _ => ?_, fun hh => absurd Z hh⟩
   refine nx <| sq <| rq O <| m Z <| nl <| nx <| Sem.ret mix ?_
   cases h
   exact ⟨.inr Z, _, _, Z, Z, DLe.of_nrm Z⟩
noncomputable def F46 (N : Nat) : List D → Option D := spec (A := zac × zac) (R := Bool) (fun a => [(ST (zac.enc a.1)), (ST (zac.enc a.2))]) (fun r => (B r)) (fun a => vec_Fits N a.1 a.2)
theorem K46 (N : Nat) : ∀ ds r, F46 N ds = some r → za9 Tryd.prog 46 ds r := zav fun a r h => vec_Fits_ok N a.1 a.2 r h
theorem vec_Fits_eq {N : Nat} {p0 : zac} {p1 : zac} {r : Bool} (h : vec_Fits N p0 p1 = some r) : F46 N [(ST (zac.enc p0)), (ST (zac.enc p1))] = some (B r) := zaw (a := (p0, p1)) (ij2 (zbx zac.inj) (zbx zac.inj)) h
noncomputable def S21 (N : Nat) : za1 := [(46, F46 N)]
theorem O21 (N : Nat) : zaO Tryd.prog (zat (S21 N)) := zap (zaj.cons (K46 N) <| zaj.nil)
theorem audit_checker_node_ok (N : Nat) (p0 : zaa) (r : (List Int)) (h : zcB N p0 = some r) : za9 Tryd.prog 21 [(.c (.fptr (zaa.enc p0) 0))] (SL zah r) := by
  have O := And.intro mix (O21 N)
  refine zan Tryd.func21 (by kernel_rfl) C21 (bl Z) ?_
  unfold zcB at h
  unfold A21
  dsimp only [zbc]
  refine sq <| rq O <| m Z <| nl <| nx <| sq <| rq O <| m Z <| o (d := (.c (.fptr (zaa.enc p0) 0))) (zbo Z) Z <| o (d := (.c (.fptr (zaa.enc p0) 0))) (zau Z) Z <| o (d := (.c (.fptr (zaa.enc p0) 0))) (zau Z) Z <| o (d := (SL zac.enc p0.f_s.Nodes)) (zal Z Z) Z <| o (d := (I (p0.f_s.Nodes.length : Int))) (zaA Z) Z <| ?_
  obtain ⟨z1, e2, h⟩ := bs h
  refine o (d := (OS 4 0 z1.length)) (σ1 := [OB zac.enc z1]) (op_mk (f := zac.enc) (z := ({ Cpu := 0, Mem := 0, Gpu := 0, Lic := 0 } : zac)) Z Z Z e2 Z Z Z) Z <| m Z <| nl <| nx <| sq <| sq <| rq O <| m Z <| o (d := (.c (.fptr (zaa.enc p0) 0))) (zbo Z) Z <| o (d := (.c (.fptr (zaa.enc p0) 18))) (zau Z) Z <| o (d := (.c (.fptr (zaa.enc p0) 22))) (zau Z) Z <| o (d := (SL zai.enc p0.f_st.Allocs)) (zal Z Z) Z <| o (d := (I (p0.f_st.Allocs.length : Int))) (zaA Z) Z <| m Z <| nl <| nx <| Sem.block <| Sem.rounds (V := Int × (List zac)) (fun ((x4, y3) : Int × (List zac)) => [(0, (.c (.fptr (zaa.enc p0) 0))), (3, (OS 4 0 y3.length)), (23, (SL zai.enc p0.f_st.Allocs)), (24, (I (p0.f_st.Allocs.length : Int))), (25, (I x4))]) (fun ((x4, y3) : Int × (List zac)) => [OB zac.enc y3]) (fun k v => zbs N p0 k v.1 v.2 = some r) N (0, z1) h (fun v h => by unfold zbs at h; cases h) ?_ (sS Z <| sS Z <| sS Z <| sS Z <| sS Z <| sZ) Z
  intro kL0 v h
  obtain ⟨x4, y3⟩ := v
  try dsimp only at h ⊢
  unfold zbs at h
  unfold A21xl1
  refine sq <| rq O <| o (d := (B (decide (x4 < (p0.f_st.Allocs.length : Int))))) (bo Z) Z <| nl <| nx <| sq <| Sem.cond Z (fun c5 => ?_) (fun c5 => ?_)
  ·rw [if_pos c5] at h
   refine Sem.skip mix <| nx <| sq <| Sem.block <| sq <| rq O ?_
   obtain ⟨a6, e7, h⟩ := bs h
   refine o (zaF Z Z e7 Z) Z <| o (d := (ST (zai.enc a6))) (zal Z Z) Z <| o (d := (.ptr 1 0 6)) (σ1 := [OB zac.enc y3, .cells [I 0, I 0, I 0, I 0, I 0, sn]]) (zaG Z Z) Z <| st (σ1 := [OB zac.enc y3, cm (zai.enc a6)]) Z <| nl <| nx <| sq <| rq O <| o (d := (.ptr 1 5 6)) (zaf Z) Z <| l (d := (SL zak.enc a6.Shares)) Z <| o (d := (I (a6.Shares.length : Int))) (zaA Z) Z <| m Z <| nl <| nx <| Sem.block <| Sem.rounds (V := Int × (List zac)) (fun ((x9, y8) : Int × (List zac)) => [(0, (.c (.fptr (zaa.enc p0) 0))), (3, (OS 4 0 y8.length)), (5, (.ptr 1 0 6)), (23, (SL zai.enc p0.f_st.Allocs)), (24, (I (p0.f_st.Allocs.length : Int))), (25, (I x4)), (30, (SL zak.enc a6.Shares)), (31, (I (a6.Shares.length : Int))), (32, (I x9))]) (fun ((x9, y8) : Int × (List zac)) => [OB zac.enc y8, cm (zai.enc a6)]) (fun k v => zbU N x4 a6 (zbs N p0 kL0) k v.1 v.2 = some r) N (0, y3) h (fun v h => by unfold zbU at h; cases h) ?_ (sS Z <| sS Z <| sS Z <| sS Z <| sS Z <| sS Z <| sS Z <| sS Z <| sS Z <| sZ) Z
   intro kL1 v h
   obtain ⟨x9, y8⟩ := v
   try dsimp only at h ⊢
   unfold zbU at h
   unfold A21xl0
   refine sq <| rq O <| o (d := (B (decide (x9 < (a6.Shares.length : Int))))) (bo Z) Z <| nl <| nx <| sq <| Sem.cond Z (fun c10 => ?_) (fun c10 => ?_)
   ·rw [if_pos c10] at h
    refine Sem.skip mix <| nx <| sq <| Sem.block <| sq <| rq O ?_
    obtain ⟨a11, e12, h⟩ := bs h
    refine o (zaF Z Z e12 Z) Z <| o (d := (ST (zak.enc a11))) (zal Z Z) Z <| o (d := (.ptr 2 0 2)) (σ1 := [OB zac.enc y8, cm (zai.enc a6), .cells [I 0, I 0]]) (zaG Z Z) Z <| st (σ1 := [OB zac.enc y8, cm (zai.enc a6), cm (zak.enc a11)]) Z <| nl <| nx <| sq <| rq O <| m Z <| o (d := (.ptr 2 0 2)) (zaf Z) Z <| l (d := (I a11.Node)) Z <| ?_
    obtain ⟨a13, e14, h⟩ := bs h
    refine o (d := (.ptr 0 (a11.Node.toNat * 4) (y8.length * 4))) (ze5 (f := zac.enc) (fun _ => Z) Z Z Z Z e14) Z <| m Z <| nl <| nx <| sq <| dq O <| m Z <| o (d := (.ptr 0 (a11.Node.toNat * 4) (y8.length * 4))) (zfl Z) Z <| o (d := (.ptr 0 (a11.Node.toNat * 4) (y8.length * 4))) (zaf Z) Z <| o (d := (I a13.Cpu)) (op_loade (f := zac.enc) (o := 0) (fun _ => Z) Z Z Z Z (at_get e14) Z) Z <| o (d := (.ptr 1 1 6)) (zaf Z) Z <| o (d := (.ptr 1 1 6)) (zaf Z) Z <| l (d := (I a6.Need.Cpu)) Z <| o (d := (.ptr 2 1 2)) (zaf Z) Z <| l (d := (I a11.Many)) Z <| o (d := (I (IntKind.i64.wrap (a6.Need.Cpu * a11.Many)))) (bo Z) Z <| o (d := (I (IntKind.i64.wrap (a13.Cpu + (IntKind.i64.wrap (a6.Need.Cpu * a11.Many)))))) (bo Z) Z <| o (d := (.ptr 0 (a11.Node.toNat * 4) (y8.length * 4))) (zfl Z) Z <| o (d := (.ptr 0 (a11.Node.toNat * 4) (y8.length * 4))) (zaf Z) Z <| TrQ.eff (σ1 := [OB zac.enc (y8.set a11.Node.toNat ({ Cpu := (IntKind.i64.wrap (a13.Cpu + (IntKind.i64.wrap (a6.Need.Cpu * a11.Many)))), Mem := a13.Mem, Gpu := a13.Gpu, Lic := a13.Lic } : zac)), cm (zai.enc a6), cm (zak.enc a11)]) (op_storee (f := zac.enc) (o := 0) (a' := ({ Cpu := (IntKind.i64.wrap (a13.Cpu + (IntKind.i64.wrap (a6.Need.Cpu * a11.Many)))), Mem := a13.Mem, Gpu := a13.Gpu, Lic := a13.Lic } : zac)) (xs := [.lit (.int .i64 (IntKind.i64.wrap (a13.Cpu + (IntKind.i64.wrap (a6.Need.Cpu * a11.Many)))))]) (fun _ => Z) Z Z Z Z (at_get e14) Z Z Z Z Z Z Z) gd_none (wrE (f := zac.enc) (esz := 4) (fun _ => Z) Z Z (by simp) Z) <| nl ⟨by kernel_rfl, ?_⟩
    refine nx <| sq <| dq O <| m Z <| o (d := (.ptr 0 (a11.Node.toNat * 4) (y8.length * 4))) (zfl Z) Z <| o (d := (.ptr 0 (a11.Node.toNat * 4 + 1) (y8.length * 4))) (zaf Z) Z <| o (d := (I a13.Mem)) (op_loade (f := zac.enc) (o := 1) (fun _ => Z) Z Z Z (by simp) (get_set (at_get e14)) Z) Z <| o (d := (.ptr 1 1 6)) (zaf Z) Z <| o (d := (.ptr 1 2 6)) (zaf Z) Z <| l (d := (I a6.Need.Mem)) Z <| o (d := (.ptr 2 1 2)) (zaf Z) Z <| l (d := (I a11.Many)) Z <| o (d := (I (IntKind.i64.wrap (a6.Need.Mem * a11.Many)))) (bo Z) Z <| o (d := (I (IntKind.i64.wrap (a13.Mem + (IntKind.i64.wrap (a6.Need.Mem * a11.Many)))))) (bo Z) Z <| o (d := (.ptr 0 (a11.Node.toNat * 4) (y8.length * 4))) (zfl Z) Z <| o (d := (.ptr 0 (a11.Node.toNat * 4 + 1) (y8.length * 4))) (zaf Z) Z <| TrQ.eff (σ1 := [OB zac.enc (y8.set a11.Node.toNat ({ Cpu := (IntKind.i64.wrap (a13.Cpu + (IntKind.i64.wrap (a6.Need.Cpu * a11.Many)))), Mem := (IntKind.i64.wrap (a13.Mem + (IntKind.i64.wrap (a6.Need.Mem * a11.Many)))), Gpu := a13.Gpu, Lic := a13.Lic } : zac)), cm (zai.enc a6), cm (zak.enc a11)]) (op_storee (f := zac.enc) (o := 1) (a' := ({ Cpu := (IntKind.i64.wrap (a13.Cpu + (IntKind.i64.wrap (a6.Need.Cpu * a11.Many)))), Mem := (IntKind.i64.wrap (a13.Mem + (IntKind.i64.wrap (a6.Need.Mem * a11.Many)))), Gpu := a13.Gpu, Lic := a13.Lic } : zac)) (xs := [.lit (.int .i64 (IntKind.i64.wrap (a13.Mem + (IntKind.i64.wrap (a6.Need.Mem * a11.Many)))))]) (fun _ => Z) Z Z Z (by simp) (get_set (at_get e14)) Z Z Z Z Z set_set' Z) gd_none (wrE (f := zac.enc) (esz := 4) (fun _ => Z) Z Z (by simp) Z) <| nl ⟨by kernel_rfl, ?_⟩
    refine nx <| sq <| dq O <| m Z <| o (d := (.ptr 0 (a11.Node.toNat * 4) (y8.length * 4))) (zfl Z) Z <| o (d := (.ptr 0 (a11.Node.toNat * 4 + 2) (y8.length * 4))) (zaf Z) Z <| o (d := (I a13.Gpu)) (op_loade (f := zac.enc) (o := 2) (fun _ => Z) Z Z Z (by simp) (get_set (at_get e14)) Z) Z <| o (d := (.ptr 1 1 6)) (zaf Z) Z <| o (d := (.ptr 1 3 6)) (zaf Z) Z <| l (d := (I a6.Need.Gpu)) Z <| o (d := (.ptr 2 1 2)) (zaf Z) Z <| l (d := (I a11.Many)) Z <| o (d := (I (IntKind.i64.wrap (a6.Need.Gpu * a11.Many)))) (bo Z) Z <| o (d := (I (IntKind.i64.wrap (a13.Gpu + (IntKind.i64.wrap (a6.Need.Gpu * a11.Many)))))) (bo Z) Z <| o (d := (.ptr 0 (a11.Node.toNat * 4) (y8.length * 4))) (zfl Z) Z <| o (d := (.ptr 0 (a11.Node.toNat * 4 + 2) (y8.length * 4))) (zaf Z) Z <| TrQ.eff (σ1 := [OB zac.enc (y8.set a11.Node.toNat ({ Cpu := (IntKind.i64.wrap (a13.Cpu + (IntKind.i64.wrap (a6.Need.Cpu * a11.Many)))), Mem := (IntKind.i64.wrap (a13.Mem + (IntKind.i64.wrap (a6.Need.Mem * a11.Many)))), Gpu := (IntKind.i64.wrap (a13.Gpu + (IntKind.i64.wrap (a6.Need.Gpu * a11.Many)))), Lic := a13.Lic } : zac)), cm (zai.enc a6), cm (zak.enc a11)]) (op_storee (f := zac.enc) (o := 2) (a' := ({ Cpu := (IntKind.i64.wrap (a13.Cpu + (IntKind.i64.wrap (a6.Need.Cpu * a11.Many)))), Mem := (IntKind.i64.wrap (a13.Mem + (IntKind.i64.wrap (a6.Need.Mem * a11.Many)))), Gpu := (IntKind.i64.wrap (a13.Gpu + (IntKind.i64.wrap (a6.Need.Gpu * a11.Many)))), Lic := a13.Lic } : zac)) (xs := [.lit (.int .i64 (IntKind.i64.wrap (a13.Gpu + (IntKind.i64.wrap (a6.Need.Gpu * a11.Many)))))]) (fun _ => Z) Z Z Z (by simp) (get_set (at_get e14)) Z Z Z Z Z set_set' Z) gd_none (wrE (f := zac.enc) (esz := 4) (fun _ => Z) Z Z (by simp) Z) <| nl ⟨by kernel_rfl, ?_⟩
    refine nx <| dq O <| m Z <| o (d := (.ptr 0 (a11.Node.toNat * 4) (y8.length * 4))) (zfl Z) Z <| o (d := (.ptr 0 (a11.Node.toNat * 4 + 3) (y8.length * 4))) (zaf Z) Z <| o (d := (I a13.Lic)) (op_loade (f := zac.enc) (o := 3) (fun _ => Z) Z Z Z (by simp) (get_set (at_get e14)) Z) Z <| o (d := (.ptr 1 1 6)) (zaf Z) Z <| o (d := (.ptr 1 4 6)) (zaf Z) Z <| l (d := (I a6.Need.Lic)) Z <| o (d := (.ptr 2 1 2)) (zaf Z) Z <| l (d := (I a11.Many)) Z <| o (d := (I (IntKind.i64.wrap (a6.Need.Lic * a11.Many)))) (bo Z) Z <| o (d := (I (IntKind.i64.wrap (a13.Lic + (IntKind.i64.wrap (a6.Need.Lic * a11.Many)))))) (bo Z) Z <| o (d := (.ptr 0 (a11.Node.toNat * 4) (y8.length * 4))) (zfl Z) Z <| o (d := (.ptr 0 (a11.Node.toNat * 4 + 3) (y8.length * 4))) (zaf Z) Z <| TrQ.eff (σ1 := [OB zac.enc (y8.set a11.Node.toNat ({ Cpu := (IntKind.i64.wrap (a13.Cpu + (IntKind.i64.wrap (a6.Need.Cpu * a11.Many)))), Mem := (IntKind.i64.wrap (a13.Mem + (IntKind.i64.wrap (a6.Need.Mem * a11.Many)))), Gpu := (IntKind.i64.wrap (a13.Gpu + (IntKind.i64.wrap (a6.Need.Gpu * a11.Many)))), Lic := (IntKind.i64.wrap (a13.Lic + (IntKind.i64.wrap (a6.Need.Lic * a11.Many)))) } : zac)), cm (zai.enc a6), cm (zak.enc a11)]) (op_storee (f := zac.enc) (o := 3) (a' := ({ Cpu := (IntKind.i64.wrap (a13.Cpu + (IntKind.i64.wrap (a6.Need.Cpu * a11.Many)))), Mem := (IntKind.i64.wrap (a13.Mem + (IntKind.i64.wrap (a6.Need.Mem * a11.Many)))), Gpu := (IntKind.i64.wrap (a13.Gpu + (IntKind.i64.wrap (a6.Need.Gpu * a11.Many)))), Lic := (IntKind.i64.wrap (a13.Lic + (IntKind.i64.wrap (a6.Need.Lic * a11.Many)))) } : zac)) (xs := [.lit (.int .i64 (IntKind.i64.wrap (a13.Lic + (IntKind.i64.wrap (a6.Need.Lic * a11.Many)))))]) (fun _ => Z) Z Z Z (by simp) (get_set (at_get e14)) Z Z Z Z Z set_set' Z) gd_none (wrE (f := zac.enc) (esz := 4) (fun _ => Z) Z Z (by simp) Z) <| nl ⟨by kernel_rfl, ?_⟩
    refine nx <| nx <| rq O <| o (d := (I (IntKind.i64.wrap (x9 + 1)))) (bo Z) Z <| m Z <| nl ?_
    exact ⟨((IntKind.i64.wrap (x9 + 1)), (y8.set a11.Node.toNat ({ Cpu := (IntKind.i64.wrap (a13.Cpu + (IntKind.i64.wrap (a6.Need.Cpu * a11.Many)))), Mem := (IntKind.i64.wrap (a13.Mem + (IntKind.i64.wrap (a6.Need.Mem * a11.Many)))), Gpu := (IntKind.i64.wrap (a13.Gpu + (IntKind.i64.wrap (a6.Need.Gpu * a11.Many)))), Lic := (IntKind.i64.wrap (a13.Lic + (IntKind.i64.wrap (a6.Need.Lic * a11.Many)))) } : zac))), h, .cut 2 (bl Z) (bl Z) (sS Z <| sE Z (by simp) <| sS Z <| sS Z <| sS Z <| sS Z <| sS Z <| sS Z <| sS Z <| sZ) Z (zeN zeP (zeN Z Z))⟩
   ·rw [if_neg (zaH c10)] at h
    refine Sem.exit mix <| nx <| ⟨_, _, .refl, fun _ => ?_, fun hh => absurd Z hh⟩
    refine nx <| nx <| rq O <| o (d := (I (IntKind.i64.wrap (x4 + 1)))) (bo Z) Z <| m Z <| nl ?_
    exact ⟨((IntKind.i64.wrap (x4 + 1)), y8), h, .cut 1 (bl Z) (bl Z) (sS Z <| sS Z <| sS Z <| sS Z <| sS Z <| sZ) Z (zeN zeP Z)⟩
  ·rw [if_neg (zaH c5)] at h
   refine Sem.exit mix <| nx <| ⟨_, _, .refl, fun _ => ?_, fun hh => absurd Z hh⟩
   refine nx <| sq <| rq O <| m Z <| nl <| nx <| Sem.own 9 1 Z (d := (OS 1 1 0)) (σ1 := [OB zac.enc y3, OB zah ([] : List Int)]) Z Z <| sq <| sq <| rq O <| m Z <| o (d := (I (y3.length : Int))) (op_len_own (f := zac.enc) (fun _ => Z) Z Z Z) Z <| m Z <| nl <| nx <| Sem.block <| Sem.rounds (V := Int × (List Int)) (fun ((x16, y15) : Int × (List Int)) => [(0, (.c (.fptr (zaa.enc p0) 0))), (9, (OS 1 1 y15.length)), (94, (OS 4 0 y3.length)), (95, (I (y3.length : Int))), (96, (I x16))]) (fun ((x16, y15) : Int × (List Int)) => [OB zac.enc y3, OB zah y15]) (fun k v => zbt N p0 y3 k v.1 v.2 = some r) N (0, ([] : List Int)) h (fun v h => by unfold zbt at h; cases h) ?_ (sS Z <| sE Z (by simp) <| sS Z <| sS Z <| sS Z <| sZ) Z
   intro kL2 v h
   obtain ⟨x16, y15⟩ := v
   try dsimp only at h ⊢
   unfold zbt at h
   unfold A21xl2
   refine sq <| rq O <| o (d := (B (decide (x16 < (y3.length : Int))))) (bo Z) Z <| nl <| nx <| sq <| Sem.cond Z (fun c17 => ?_) (fun c17 => ?_)
   ·rw [if_pos c17] at h
    refine Sem.skip mix <| nx <| Sem.join (fun (y18 : (List Int)) => [(0, (.c (.fptr (zaa.enc p0) 0))), (9, (OS 1 1 y18.length)), (94, (OS 4 0 y3.length)), (95, (I (y3.length : Int))), (96, (I x16))]) (fun (y18 : (List Int)) => [OB zac.enc y3, OB zah y18]) (fun (y18 : (List Int)) => zdR N x16 (zbt N p0 y3 kL2) y18 = some r) ?_ ?_
    ·intro y18 h
     try dsimp only at h ⊢
     unfold zdR at h
     refine rq O <| o (d := (I (IntKind.i64.wrap (x16 + 1)))) (bo Z) Z <| m Z <| nl ?_
     exact ⟨((IntKind.i64.wrap (x16 + 1)), y18), h, .same (sS Z <| sS Z <| sS Z <| sS Z <| sS Z <| sZ)⟩
    ·refine Sem.block <| sq <| rq O <| m Z <| ?_
     obtain ⟨a19, e20, h⟩ := bs h
     refine o (d := (.ptr 0 (x16.toNat * 4) (y3.length * 4))) (ze5 (f := zac.enc) (fun _ => Z) Z Z Z Z e20) Z <| o (d := (ST (zac.enc a19))) (op_loade (f := zac.enc) (o := 0) (fun _ => Z) Z Z Z Z (at_get e20) Z) Z <| o (d := (.ptr 2 0 4)) (σ1 := [OB zac.enc y3, OB zah y15, .cells [I 0, I 0, I 0, I 0]]) (zaG Z Z) Z <| m Z <| st (σ1 := [OB zac.enc y3, OB zah y15, cm (zac.enc a19)]) Z <| nl <| nx <| sq <| dq O <| l (d := (ST (zac.enc a19))) Z <| m Z <| o (d := (.c (.fptr (zaa.enc p0) 0))) (zbo Z) Z <| o (d := (.c (.fptr (zaa.enc p0) 0))) (zau Z) Z <| o (d := (.c (.fptr (zaa.enc p0) 0))) (zau Z) Z <| o (d := (SL zac.enc p0.f_s.Nodes)) (zal Z Z) Z <| m Z <| ?_
     obtain ⟨a21, e22, h⟩ := bs h
     refine o (zaF Z Z e22 Z) Z <| o (d := (ST (zac.enc a21))) (zal Z Z) Z <| ?_
     obtain ⟨r23, e24, h⟩ := bs h
     refine o (d := (B r23)) (ca (vec_Fits_eq e24) Z) Z <| o (d := (B (!r23))) (zbA Z Z Z Z) Z <| nl ⟨by kernel_rfl, ?_⟩
     refine nx <| Sem.cond Z (fun c25 => ?_) (fun c25 => ?_)
     ·rw [if_pos c25] at h
      refine rq O <| m Z <| m Z <| o (d := (OS 1 3 1)) (σ1 := [OB zac.enc y3, OB zah y15, cm (zac.enc a19), OB zah ([x16] : List Int)]) (zaL (f := zah) (l := ([x16] : List Int)) (cs := ((([x16] : List Int)).flatMap zah).map .c) (by kernel_rfl) Z Z (fun _ => Z) Z Z Z) Z <| ?_
      obtain ⟨z26, e27, h⟩ := bs h
      refine o (d := (OS 1 1 z26.length)) (σ1 := [OB zac.enc y3, OB zah z26, cm (zac.enc a19), OB zah ([x16] : List Int)]) (zcU (f := zah) (fun _ => Z) Z Z Z Z (zeL (fun _ => Z) Z (by simp)) e27 Z Z Z) Z <| m Z <| nl <| nx ?_
      exact ⟨z26, h, .cut 2 (bl Z) (bl Z) (sS Z <| sS Z <| sS Z <| sS Z <| sS Z <| sZ) Z (zeN zeP (zeN zeP Z))⟩
     ·rw [if_neg (zaH c25)] at h
      refine Sem.skip mix <| nx ?_
      exact ⟨y15, h, .cut 2 (bl Z) (bl Z) (sS Z <| sS Z <| sS Z <| sS Z <| sS Z <| sZ) Z (zeN zeP (zeN zeP Z))⟩
   ·rw [if_neg (zaH c17)] at h
    refine Sem.exit mix <| nx <| ⟨_, _, .refl, fun _ => ?_, fun hh => absurd Z hh⟩
    refine nx <| sq <| rq O <| m Z <| m Z <| nl <| nx <| Sem.ret mix ?_
    cases h
    exact ⟨.inr Z, _, _, Z, (frz_own (fun _ => Z) (bl Z) Z Z), DLe.of_nrm Z⟩
noncomputable def F21 (N : Nat) : List D → Option D := spec (A := zaa) (R := (List Int)) (fun a => [(.c (.fptr (zaa.enc a) 0))]) (fun r => (SL zah r)) (fun a => zcB N a)
theorem K21 (N : Nat) : ∀ ds r, F21 N ds = some r → za9 Tryd.prog 21 ds r := zav fun a r h => audit_checker_node_ok N a r h
theorem audit_checker_node_eq {N : Nat} {p0 : zaa} {r : (List Int)} (h : zcB N p0 = some r) : F21 N [(.c (.fptr (zaa.enc p0) 0))] = some (SL zah r) := zaw (a := p0) (ij1 (zfi zaa.inj)) h
noncomputable def S47 (N : Nat) : za1 := []
theorem O47 (N : Nat) : zaO Tryd.prog (zat (S47 N)) := zap (zaj.nil)
theorem life_Has_ok (N : Nat) (p0 : Int) (r : Bool) (h : zeQ N p0 = some r) : za9 Tryd.prog 47 [I p0] (B r) := by
  have O := And.intro mix (O47 N)
  refine zan Tryd.func47 (by kernel_rfl) C47 (bl Z) ?_
  unfold zeQ at h
  unfold A47
  dsimp only [zbc]
  refine sq <| rq O <| m Z <| nl <| nx <| Sem.step [(2, (B ((p0 == 3) || (p0 == 4))))] [] (rq O ?_) ?_
  ·refine m Z <| o (d := (B (p0 == 3))) (bo Z) Z <| m Z <| ?_
   rcases bb (p0 == 3) with g1 | g1
   ·refine TrQ.know (v := true) 5 Z g1 <| TrQ.skipG 2 Z <| pT Z Z <| m Z <| nl ⟨rfl, .same (sE Z (by rw [g1]; rfl) <| sZ)⟩
   ·refine mo g1 Z <| q (d := (B (p0 == 4))) (bo Z) g1 Z <| pF g1 Z <| m Z <| nl ⟨rfl, .same (sE Z (by rw [g1]; rfl) <| sZ)⟩
  ·refine Sem.ret mix ?_
   cases h
   exact ⟨.inr Z, _, _, Z, Z, DLe.of_nrm Z⟩
noncomputable def F47 (N : Nat) : List D → Option D := spec (A := Int) (R := Bool) (fun a => [I a]) (fun r => (B r)) (fun a => zeQ N a)
theorem K47 (N : Nat) : ∀ ds r, F47 N ds = some r → za9 Tryd.prog 47 ds r := zav fun a r h => life_Has_ok N a r h
theorem zfa {N : Nat} {p0 : Int} {r : Bool} (h : zeQ N p0 = some r) : F47 N [I p0] = some (B r) := zaw (a := p0) (ij1 zev) h
noncomputable def S48 (N : Nat) : za1 := [(43, F43 N), (47, F47 N)]
theorem O48 (N : Nat) : zaO Tryd.prog (zat (S48 N)) := zap (zaj.cons (K43 N) <| zaj.cons (K47 N) <| zaj.nil)
theorem job_Until_ok (N : Nat) (p0 : zad) (r : Int) (h : job_Until N p0 = some r) : za9 Tryd.prog 48 [(ST (zad.enc p0))] (I r) := by
  have O := And.intro mix (O48 N)
  refine zan Tryd.func48 (by kernel_rfl) C48 (bl Z) ?_
  unfold job_Until at h
  unfold A48
  dsimp only [zbc]
  refine sq <| rq O <| o (d := (.ptr 0 0 18)) (σ1 := [cm (zad.enc p0)]) (zba Z Z Z Z) Z <| m Z <| nl <| nx <| sq <| Sem.join (fun (x5 : Bool) => [(1, (.ptr 0 0 18)), (11, (B x5))]) (fun (x5 : Bool) => [cm (zad.enc p0)]) (fun (x5 : Bool) => job_Until_j0 N p0 x5 = some r) ?_ (rq O ?_)
  ·intro x5 h
   try dsimp only at h ⊢
   unfold job_Until_j0 at h
   refine Sem.cond Z (fun c6 => ?_) (fun c6 => ?_)
   ·rw [if_pos c6] at h
    refine sq <| rq O <| m Z <| nl <| nx <| Sem.ret mix ?_
    cases h
    exact ⟨.inr Z, _, _, Z, Z, DLe.of_nrm Z⟩
   ·rw [if_neg (zaH c6)] at h
    refine Sem.skip mix <| nx <| sq <| rq O <| o (d := (.ptr 0 15 18)) (zaf Z) Z <| l (d := (I p0.Start)) Z <| o (d := (.ptr 0 8 18)) (zaf Z) Z <| l (d := (I p0.Wall)) Z <| o (d := (I (IntKind.i64.wrap (p0.Start + p0.Wall)))) (bo Z) Z <| m Z <| nl <| nx <| Sem.ret mix ?_
    cases h
    exact ⟨.inr Z, _, _, Z, Z, DLe.of_nrm Z⟩
  ·refine l (d := (ST (zad.enc p0))) Z <| ?_
   obtain ⟨r7, e8, h⟩ := bs h
   refine o (d := (B r7)) (ca (job_Right_eq e8) Z) Z <| o (d := (B (!r7))) (zbA Z Z Z Z) Z <| m Z <| ?_
   rcases bb (!r7) with g1 | g1
   ·rw [if_pos g1] at h
    refine TrQ.know (v := true) 6 Z g1 <| TrQ.skipG 4 Z <| pT Z Z <| nl ?_
    exact ⟨true, h, .same (sS Z <| sS Z <| sZ)⟩
   ·rw [if_neg (zaH g1)] at h
    refine q (d := (.ptr 0 10 18)) (zaf Z) g1 Z <| lo (d := (I p0.State)) g1 Z <| ?_
    obtain ⟨r9, e10, h⟩ := bs h
    refine q (d := (B r9)) (ca (zfa e10) Z) g1 Z <| q (d := (B (!r9))) (zbA Z Z Z Z) g1 Z <| pF g1 Z <| nl ?_
    exact ⟨(!r9), h, .same (sS Z <| sS Z <| sZ)⟩
noncomputable def F48 (N : Nat) : List D → Option D := spec (A := zad) (R := Int) (fun a => [(ST (zad.enc a))]) (fun r => (I r)) (fun a => job_Until N a)
theorem K48 (N : Nat) : ∀ ds r, F48 N ds = some r → za9 Tryd.prog 48 ds r := zav fun a r h => job_Until_ok N a r h
theorem job_Until_eq {N : Nat} {p0 : zad} {r : Int} (h : job_Until N p0 = some r) : F48 N [(ST (zad.enc p0))] = some (I r) := zaw (a := p0) (ij1 (zbx zad.inj)) h
noncomputable def S22 (N : Nat) : za1 := [(47, F47 N), (48, F48 N)]
theorem O22 (N : Nat) : zaO Tryd.prog (zat (S22 N)) := zap (zaj.cons (K47 N) <| zaj.cons (K48 N) <| zaj.nil)
theorem audit_checker_late_ok (N : Nat) (p0 : zaa) (r : (List Int)) (h : zda N p0 = some r) : za9 Tryd.prog 22 [(.c (.fptr (zaa.enc p0) 0))] (SL zah r) := by
  have O := And.intro mix (O22 N)
  refine zan Tryd.func22 (by kernel_rfl) C22 (bl Z) ?_
  unfold zda at h
  unfold A22
  dsimp only [zbc]
  refine sq <| rq O <| m Z <| nl <| nx <| sq <| rq O <| m Z <| nl <| nx <| Sem.own 3 1 Z (d := (OS 1 0 0)) (σ1 := [OB zah ([] : List Int)]) Z Z <| sq <| sq <| rq O <| m Z <| o (d := (.c (.fptr (zaa.enc p0) 0))) (zbo Z) Z <| o (d := (.c (.fptr (zaa.enc p0) 18))) (zau Z) Z <| o (d := (.c (.fptr (zaa.enc p0) 21))) (zau Z) Z <| o (d := (SL zad.enc p0.f_st.Jobs)) (zal Z Z) Z <| o (d := (I (p0.f_st.Jobs.length : Int))) (zaA Z) Z <| m Z <| nl <| nx <| Sem.block <| Sem.rounds (V := Int × (List Int)) (fun ((x2, y1) : Int × (List Int)) => [(0, (.c (.fptr (zaa.enc p0) 0))), (3, (OS 1 0 y1.length)), (10, (SL zad.enc p0.f_st.Jobs)), (11, (I (p0.f_st.Jobs.length : Int))), (12, (I x2))]) (fun ((x2, y1) : Int × (List Int)) => [OB zah y1]) (fun k v => za7 N p0 k v.1 v.2 = some r) N (0, ([] : List Int)) h (fun v h => by unfold za7 at h; cases h) ?_ (sS Z <| sE Z (by simp) <| sS Z <| sS Z <| sS Z <| sZ) Z
  intro kL0 v h
  obtain ⟨x2, y1⟩ := v
  try dsimp only at h ⊢
  unfold za7 at h
  unfold A22xl0
  refine sq <| rq O <| o (d := (B (decide (x2 < (p0.f_st.Jobs.length : Int))))) (bo Z) Z <| nl <| nx <| sq <| Sem.cond Z (fun c3 => ?_) (fun c3 => ?_)
  ·rw [if_pos c3] at h
   refine Sem.skip mix <| nx <| Sem.join (fun (y4 : (List Int)) => [(0, (.c (.fptr (zaa.enc p0) 0))), (3, (OS 1 0 y4.length)), (10, (SL zad.enc p0.f_st.Jobs)), (11, (I (p0.f_st.Jobs.length : Int))), (12, (I x2))]) (fun (y4 : (List Int)) => [OB zah y4]) (fun (y4 : (List Int)) => zdQ N x2 (za7 N p0 kL0) y4 = some r) ?_ ?_
   ·intro y4 h
    try dsimp only at h ⊢
    unfold zdQ at h
    refine rq O <| o (d := (I (IntKind.i64.wrap (x2 + 1)))) (bo Z) Z <| m Z <| nl ?_
    exact ⟨((IntKind.i64.wrap (x2 + 1)), y4), h, .same (sS Z <| sS Z <| sS Z <| sS Z <| sS Z <| sZ)⟩
   ·refine Sem.block <| sq <| rq O ?_
    obtain ⟨a5, e6, h⟩ := bs h
    refine o (zaF Z Z e6 Z) Z <| o (d := (ST (zad.enc a5))) (zal Z Z) Z <| o (d := (.ptr 1 0 18)) (σ1 := [OB zah y1, .cells [I 0, I 0, I 0, I 0, I 0, I 0, I 0, I 0, I 0, sn, I 0, B false, B false, I 0, I 0, I 0, I 0, I 0]]) (zaG Z Z) Z <| st (σ1 := [OB zah y1, cm (zad.enc a5)]) Z <| nl <| nx <| Sem.join (fun (x11 : Bool) => [(0, (.c (.fptr (zaa.enc p0) 0))), (3, (OS 1 0 y1.length)), (5, (.ptr 1 0 18)), (10, (SL zad.enc p0.f_st.Jobs)), (11, (I (p0.f_st.Jobs.length : Int))), (12, (I x2)), (28, (B x11))]) (fun (x11 : Bool) => [OB zah y1, cm (zad.enc a5)]) (fun (x11 : Bool) => zdJ N y1 x2 a5 (za7 N p0 kL0) x11 = some r) ?_ (dq O ?_)
    ·intro x11 h
     try dsimp only at h ⊢
     unfold zdJ at h
     refine Sem.cond Z (fun c12 => ?_) (fun c12 => ?_)
     ·rw [if_pos c12] at h
      refine rq O <| m Z <| o (d := (.ptr 1 0 18)) (zaf Z) Z <| l (d := (I a5.Id)) Z <| o (d := (OS 1 2 1)) (σ1 := [OB zah y1, cm (zad.enc a5), OB zah ([a5.Id] : List Int)]) (zaL (f := zah) (l := ([a5.Id] : List Int)) (cs := ((([a5.Id] : List Int)).flatMap zah).map .c) (by kernel_rfl) Z Z (fun _ => Z) Z Z Z) Z <| ?_
      obtain ⟨z13, e14, h⟩ := bs h
      refine o (d := (OS 1 0 z13.length)) (σ1 := [OB zah z13, cm (zad.enc a5), OB zah ([a5.Id] : List Int)]) (zcU (f := zah) (fun _ => Z) Z Z Z Z (zeL (fun _ => Z) Z (by simp)) e14 Z Z Z) Z <| m Z <| nl <| nx ?_
      exact ⟨z13, h, .cut 1 (bl Z) (bl Z) (sS Z <| sS Z <| sS Z <| sS Z <| sS Z <| sZ) Z (zeN zeP Z)⟩
     ·rw [if_neg (zaH c12)] at h
      refine Sem.skip mix <| nx ?_
      exact ⟨y1, h, .cut 1 (bl Z) (bl Z) (sS Z <| sS Z <| sS Z <| sS Z <| sS Z <| sZ) Z (zeN zeP Z)⟩
    ·refine o (d := (.ptr 1 10 18)) (zaf Z) Z <| l (d := (I a5.State)) Z <| ?_
     obtain ⟨r15, e16, h⟩ := bs h
     refine o (d := (B r15)) (ca (zfa e16) Z) Z <| m Z <| ?_
     rcases bb r15 with g4 | g4
     ·rw [if_pos g4] at h
      refine lo (d := (ST (zad.enc a5))) g4 Z <| ?_
      obtain ⟨r17, e18, h⟩ := bs h
      refine q (d := (I r17)) (ca (job_Until_eq e18) Z) g4 Z <| mo g4 Z <| q (d := (.c (.fptr (zaa.enc p0) 0))) (zbo Z) g4 Z <| q (d := (.c (.fptr (zaa.enc p0) 18))) (zau Z) g4 Z <| q (d := (.c (.fptr (zaa.enc p0) 18))) (zau Z) g4 Z <| q (d := (I p0.f_st.Now)) (zal Z Z) g4 Z <| q (d := (B (decide (r17 ≤ p0.f_st.Now)))) (bo Z) g4 Z <| pT g4 Z <| nl ⟨by kernel_rfl, ?_⟩
      exact ⟨(decide (r17 ≤ p0.f_st.Now)), h, .same (sS Z <| sS Z <| sS Z <| sS Z <| sS Z <| sS Z <| sS Z <| sZ)⟩
     ·rw [if_neg (zaH g4)] at h
      refine TrQ.know (v := false) 19 Z g4 <| TrQ.skipG 8 Z <| pF Z Z <| nl ⟨by kernel_rfl, ?_⟩
      exact ⟨false, h, .same (sS Z <| sS Z <| sS Z <| sS Z <| sS Z <| sS Z <| sS Z <| sZ)⟩
  ·rw [if_neg (zaH c3)] at h
   refine Sem.exit mix <| nx <| ⟨_, _, .refl, fun _ => ?_, fun hh => absurd Z hh⟩
   refine nx <| sq <| rq O <| m Z <| m Z <| nl <| nx <| Sem.ret mix ?_
   cases h
   exact ⟨.inr Z, _, _, Z, (frz_own (fun _ => Z) (bl Z) Z Z), DLe.of_nrm Z⟩
noncomputable def F22 (N : Nat) : List D → Option D := spec (A := zaa) (R := (List Int)) (fun a => [(.c (.fptr (zaa.enc a) 0))]) (fun r => (SL zah r)) (fun a => zda N a)
theorem K22 (N : Nat) : ∀ ds r, F22 N ds = some r → za9 Tryd.prog 22 ds r := zav fun a r h => audit_checker_late_ok N a r h
theorem audit_checker_late_eq {N : Nat} {p0 : zaa} {r : (List Int)} (h : zda N p0 = some r) : F22 N [(.c (.fptr (zaa.enc p0) 0))] = some (SL zah r) := zaw (a := p0) (ij1 (zfi zaa.inj)) h
noncomputable def S23 (N : Nat) : za1 := [(47, F47 N), (48, F48 N)]
theorem O23 (N : Nat) : zaO Tryd.prog (zat (S23 N)) := zap (zaj.cons (K47 N) <| zaj.cons (K48 N) <| zaj.nil)
theorem audit_checker_booked_ok (N : Nat) (p0 : zaa) (r : (List Int)) (h : zb8 N p0 = some r) : za9 Tryd.prog 23 [(.c (.fptr (zaa.enc p0) 0))] (SL zah r) := by
  have O := And.intro mix (O23 N)
  refine zan Tryd.func23 (by kernel_rfl) C23 (bl Z) ?_
  unfold zb8 at h
  unfold A23
  dsimp only [zbc]
  refine sq <| rq O <| m Z <| nl <| nx <| sq <| rq O <| m Z <| o (d := (.c (.fptr (zaa.enc p0) 0))) (zbo Z) Z <| o (d := (.c (.fptr (zaa.enc p0) 0))) (zau Z) Z <| o (d := (.c (.fptr (zaa.enc p0) 0))) (zau Z) Z <| o (d := (SL zac.enc p0.f_s.Nodes)) (zal Z Z) Z <| o (d := (I (p0.f_s.Nodes.length : Int))) (zaA Z) Z <| ?_
  obtain ⟨z1, e2, h⟩ := bs h
  refine o (d := (OS 1 0 z1.length)) (σ1 := [OB zah z1]) (op_mk (f := zah) (z := (0 : Int)) Z Z Z e2 Z Z Z) Z <| m Z <| nl <| nx <| sq <| sq <| rq O <| m Z <| o (d := (.c (.fptr (zaa.enc p0) 0))) (zbo Z) Z <| o (d := (.c (.fptr (zaa.enc p0) 18))) (zau Z) Z <| o (d := (.c (.fptr (zaa.enc p0) 22))) (zau Z) Z <| o (d := (SL zai.enc p0.f_st.Allocs)) (zal Z Z) Z <| o (d := (I (p0.f_st.Allocs.length : Int))) (zaA Z) Z <| m Z <| nl <| nx <| Sem.block <| Sem.rounds (V := Int × (List Int)) (fun ((x4, y3) : Int × (List Int)) => [(0, (.c (.fptr (zaa.enc p0) 0))), (3, (OS 1 0 y3.length)), (24, (SL zai.enc p0.f_st.Allocs)), (25, (I (p0.f_st.Allocs.length : Int))), (26, (I x4))]) (fun ((x4, y3) : Int × (List Int)) => [OB zah y3]) (fun k v => zaB N p0 k v.1 v.2 = some r) N (0, z1) h (fun v h => by unfold zaB at h; cases h) ?_ (sS Z <| sS Z <| sS Z <| sS Z <| sS Z <| sZ) Z
  intro kL0 v h
  obtain ⟨x4, y3⟩ := v
  try dsimp only at h ⊢
  unfold zaB at h
  unfold A23xl1
  refine sq <| rq O <| o (d := (B (decide (x4 < (p0.f_st.Allocs.length : Int))))) (bo Z) Z <| nl <| nx <| sq <| Sem.cond Z (fun c5 => ?_) (fun c5 => ?_)
  ·rw [if_pos c5] at h
   refine Sem.skip mix <| nx <| Sem.join (fun (y6 : (List Int)) => [(0, (.c (.fptr (zaa.enc p0) 0))), (3, (OS 1 0 y6.length)), (24, (SL zai.enc p0.f_st.Allocs)), (25, (I (p0.f_st.Allocs.length : Int))), (26, (I x4))]) (fun (y6 : (List Int)) => [OB zah y6]) (fun (y6 : (List Int)) => zbZ N x4 (zaB N p0 kL0) y6 = some r) ?_ ?_
   ·intro y6 h
    try dsimp only at h ⊢
    unfold zbZ at h
    refine rq O <| o (d := (I (IntKind.i64.wrap (x4 + 1)))) (bo Z) Z <| m Z <| nl ?_
    exact ⟨((IntKind.i64.wrap (x4 + 1)), y6), h, .same (sS Z <| sS Z <| sS Z <| sS Z <| sS Z <| sZ)⟩
   ·refine Sem.block <| sq <| rq O ?_
    obtain ⟨a7, e8, h⟩ := bs h
    refine o (zaF Z Z e8 Z) Z <| o (d := (ST (zai.enc a7))) (zal Z Z) Z <| o (d := (.ptr 1 0 6)) (σ1 := [OB zah y3, .cells [I 0, I 0, I 0, I 0, I 0, sn]]) (zaG Z Z) Z <| st (σ1 := [OB zah y3, cm (zai.enc a7)]) Z <| nl <| nx <| sq <| dq O <| m Z <| o (d := (.c (.fptr (zaa.enc p0) 0))) (zbo Z) Z <| o (d := (.c (.fptr (zaa.enc p0) 27))) (zau Z) Z <| o (d := (FM (fun (z : Int) => .lit (.int .i64 z)) p0.f_jobs)) (zal Z Z) Z <| o (d := (.ptr 1 0 6)) (zaf Z) Z <| l (d := (I a7.Job)) Z <| ?_
    cases g10 : mget p0.f_jobs a7.Job with
    | none =>
     rw [g10] at h
     dsimp only [oel] at h
     refine o (d := (.tup [I 0, B false])) (op_lookFN (g := (fun (z : Int) => .lit (.int .i64 z))) Z Z g10 Z) Z <| m Z <| o (zbw Z Z) Z <| o (zbw Z Z) Z <| m Z <| m Z <| nl ⟨by kernel_rfl, ?_⟩
     refine nx <| sq <| Sem.join (fun (x37 : Bool) => [(0, (.c (.fptr (zaa.enc p0) 0))), (3, (OS 1 0 y3.length)), (5, (.ptr 1 0 6)), (6, (I 0)), (24, (SL zai.enc p0.f_st.Allocs)), (25, (I (p0.f_st.Allocs.length : Int))), (26, (I x4)), (54, (B x37))]) (fun (x37 : Bool) => [OB zah y3, cm (zai.enc a7)]) (fun (x37 : Bool) => zef N p0 y3 x4 a7 (zaB N p0 kL0) x37 = some r) ?_ (rq O ?_)
     ·intro x37 h
      try dsimp only at h ⊢
      unfold zef at h
      refine Sem.cond Z (fun c38 => ?_) (fun c38 => ?_)
      ·rw [if_pos c38] at h
       refine Sem.exit mix <| ⟨_, _, .refl, fun _ => ?_, fun hh => absurd Z hh⟩
       exact ⟨y3, h, .cut 1 (bl Z) (bl Z) (sS Z <| sS Z <| sS Z <| sS Z <| sS Z <| sZ) Z (zeN zeP Z)⟩
      ·rw [if_neg (zaH c38)] at h
       refine Sem.skip mix <| nx <| sq <| rq O <| o (d := (.ptr 1 5 6)) (zaf Z) Z <| l (d := (SL zak.enc a7.Shares)) Z <| o (d := (I (a7.Shares.length : Int))) (zaA Z) Z <| m Z <| nl <| nx <| Sem.block <| Sem.rounds (V := Int × (List Int)) (fun ((x40, y39) : Int × (List Int)) => [(0, (.c (.fptr (zaa.enc p0) 0))), (3, (OS 1 0 y39.length)), (6, (I 0)), (24, (SL zai.enc p0.f_st.Allocs)), (25, (I (p0.f_st.Allocs.length : Int))), (26, (I x4)), (56, (SL zak.enc a7.Shares)), (57, (I (a7.Shares.length : Int))), (58, (I x40))]) (fun ((x40, y39) : Int × (List Int)) => [OB zah y39, cm (zai.enc a7)]) (fun k v => zc9 N p0 x4 a7 (zaB N p0 kL0) k v.1 v.2 = some r) N (0, y3) h (fun v h => by unfold zc9 at h; cases h) ?_ (sS Z <| sS Z <| sS Z <| sS Z <| sS Z <| sS Z <| sS Z <| sS Z <| sS Z <| sZ) Z
       intro kL5 v h
       obtain ⟨x40, y39⟩ := v
       try dsimp only at h ⊢
       unfold zc9 at h
       unfold A23xl0
       refine sq <| rq O <| o (d := (B (decide (x40 < (a7.Shares.length : Int))))) (bo Z) Z <| nl <| nx <| sq <| Sem.cond Z (fun c41 => ?_) (fun c41 => ?_)
       ·rw [if_pos c41] at h
        refine Sem.skip mix <| nx <| sq <| Sem.block <| sq <| rq O ?_
        obtain ⟨a42, e43, h⟩ := bs h
        refine o (zaF Z Z e43 Z) Z <| o (d := (ST (zak.enc a42))) (zal Z Z) Z <| o (d := (.ptr 2 0 2)) (σ1 := [OB zah y39, cm (zai.enc a7), .cells [I 0, I 0]]) (zaG Z Z) Z <| st (σ1 := [OB zah y39, cm (zai.enc a7), cm (zak.enc a42)]) Z <| nl <| nx <| dq O <| m Z <| o (d := (.ptr 2 0 2)) (zaf Z) Z <| l (d := (I a42.Node)) Z <| m Z <| o (d := (.ptr 2 0 2)) (zaf Z) Z <| l (d := (I a42.Node)) Z <| ?_
        obtain ⟨a44, e45, h⟩ := bs h
        refine o (d := (.ptr 0 (a42.Node.toNat * 1) (y39.length * 1))) (ze5 (f := zah) (fun _ => Z) Z Z Z Z e45) Z <| o (d := (I a44)) (op_loade (f := zah) (o := 0) (fun _ => Z) Z Z Z Z (at_get e45) Z) Z <| m Z <| o (d := (.c (.fptr (zaa.enc p0) 0))) (zbo Z) Z <| o (d := (.c (.fptr (zaa.enc p0) 18))) (zau Z) Z <| o (d := (.c (.fptr (zaa.enc p0) 21))) (zau Z) Z <| o (d := (SL zad.enc p0.f_st.Jobs)) (zal Z Z) Z <| m Z <| ?_
        obtain ⟨a46, e47, h⟩ := bs h
        refine o (zaF Z Z e47 Z) Z <| o (d := (ST (zad.enc a46))) (zal Z Z) Z <| ?_
        obtain ⟨r48, e49, h⟩ := bs h
        refine o (d := (I r48)) (ca (job_Until_eq e49) Z) Z <| o (d := (I (if r48 > a44 then r48 else a44))) (op_call_gen (by kernel_rfl)) Z <| ?_
        obtain ⟨a50, e51, h⟩ := bs h
        refine o (d := (.ptr 0 (a42.Node.toNat * 1) (y39.length * 1))) (ze5 (f := zah) (fun _ => Z) Z Z Z Z e51) Z <| TrQ.eff (σ1 := [OB zah (y39.set a42.Node.toNat (if r48 > a44 then r48 else a44)), cm (zai.enc a7), cm (zak.enc a42)]) (op_storee (f := zah) (o := 0) (a' := (if r48 > a44 then r48 else a44)) (xs := [.lit (.int .i64 (if r48 > a44 then r48 else a44))]) (fun _ => Z) Z Z Z Z (at_get e51) Z Z Z Z Z Z Z) gd_none (wrE (f := zah) (esz := 1) (fun _ => Z) Z Z (by simp) Z) <| nl ⟨by kernel_rfl, ?_⟩
        refine nx <| nx <| rq O <| o (d := (I (IntKind.i64.wrap (x40 + 1)))) (bo Z) Z <| m Z <| nl ?_
        exact ⟨((IntKind.i64.wrap (x40 + 1)), (y39.set a42.Node.toNat (if r48 > a44 then r48 else a44))), h, .cut 2 (bl Z) (bl Z) (sS Z <| sE Z (by simp) <| sS Z <| sS Z <| sS Z <| sS Z <| sS Z <| sS Z <| sS Z <| sZ) Z (zeN zeP (zeN Z Z))⟩
       ·rw [if_neg (zaH c41)] at h
        refine Sem.exit mix <| nx <| ⟨_, _, .refl, fun _ => ?_, fun hh => absurd Z hh⟩
        refine nx ?_
        exact ⟨y39, h, .cut 1 (bl Z) (bl Z) (sS Z <| sS Z <| sS Z <| sS Z <| sS Z <| sZ) Z (zeN zeP Z)⟩
     ·refine m Z <| o (d := (B (!false))) (zbA Z Z Z Z) Z <| m Z <| ?_
      rcases bb (!false) with g12 | g12
      ·rw [if_pos g12] at h
       refine TrQ.know (v := true) 42 Z g12 <| TrQ.skipG 11 Z <| pT Z Z <| nl ?_
       exact ⟨true, h, .same (sS Z <| sS Z <| sS Z <| sS Z <| sS Z <| sS Z <| sS Z <| sS Z <| sZ)⟩
      ·rw [if_neg (zaH g12)] at h
       refine mo g12 Z <| q (d := (.c (.fptr (zaa.enc p0) 0))) (zbo Z) g12 Z <| q (d := (.c (.fptr (zaa.enc p0) 18))) (zau Z) g12 Z <| q (d := (.c (.fptr (zaa.enc p0) 21))) (zau Z) g12 Z <| q (d := (SL zad.enc p0.f_st.Jobs)) (zal Z Z) g12 Z <| mo g12 Z <| ?_
       obtain ⟨a52, e53, h⟩ := bs h
       refine q (zaF Z Z e53 Z) g12 Z <| q (d := (.c (.fptr (zad.enc a52) 10))) (zau Z) g12 Z <| q (d := (I a52.State)) (zal Z Z) g12 Z <| ?_
       obtain ⟨r54, e55, h⟩ := bs h
       refine q (d := (B r54)) (ca (zfa e55) Z) g12 Z <| q (d := (B (!r54))) (zbA Z Z Z Z) g12 Z <| pF g12 Z <| nl ?_
       exact ⟨(!r54), h, .same (sS Z <| sS Z <| sS Z <| sS Z <| sS Z <| sS Z <| sS Z <| sS Z <| sZ)⟩
    | some o9 =>
     rw [g10] at h
     dsimp only [oel] at h
     refine o (d := (.tup [I o9, B true])) (op_lookF (g := (fun (z : Int) => .lit (.int .i64 z))) Z Z g10 Z) Z <| m Z <| o (zbw Z Z) Z <| o (zbw Z Z) Z <| m Z <| m Z <| nl ⟨by kernel_rfl, ?_⟩
     refine nx <| sq <| Sem.join (fun (x14 : Bool) => [(0, (.c (.fptr (zaa.enc p0) 0))), (3, (OS 1 0 y3.length)), (5, (.ptr 1 0 6)), (6, (I o9)), (24, (SL zai.enc p0.f_st.Allocs)), (25, (I (p0.f_st.Allocs.length : Int))), (26, (I x4)), (54, (B x14))]) (fun (x14 : Bool) => [OB zah y3, cm (zai.enc a7)]) (fun (x14 : Bool) => zc8 N p0 y3 x4 a7 o9 (zaB N p0 kL0) x14 = some r) ?_ (rq O ?_)
     ·intro x14 h
      try dsimp only at h ⊢
      unfold zc8 at h
      refine Sem.cond Z (fun c15 => ?_) (fun c15 => ?_)
      ·rw [if_pos c15] at h
       refine Sem.exit mix <| ⟨_, _, .refl, fun _ => ?_, fun hh => absurd Z hh⟩
       exact ⟨y3, h, .cut 1 (bl Z) (bl Z) (sS Z <| sS Z <| sS Z <| sS Z <| sS Z <| sZ) Z (zeN zeP Z)⟩
      ·rw [if_neg (zaH c15)] at h
       refine Sem.skip mix <| nx <| sq <| rq O <| o (d := (.ptr 1 5 6)) (zaf Z) Z <| l (d := (SL zak.enc a7.Shares)) Z <| o (d := (I (a7.Shares.length : Int))) (zaA Z) Z <| m Z <| nl <| nx <| Sem.block <| Sem.rounds (V := Int × (List Int)) (fun ((x17, y16) : Int × (List Int)) => [(0, (.c (.fptr (zaa.enc p0) 0))), (3, (OS 1 0 y16.length)), (6, (I o9)), (24, (SL zai.enc p0.f_st.Allocs)), (25, (I (p0.f_st.Allocs.length : Int))), (26, (I x4)), (56, (SL zak.enc a7.Shares)), (57, (I (a7.Shares.length : Int))), (58, (I x17))]) (fun ((x17, y16) : Int × (List Int)) => [OB zah y16, cm (zai.enc a7)]) (fun k v => zbF N p0 x4 a7 o9 (zaB N p0 kL0) k v.1 v.2 = some r) N (0, y3) h (fun v h => by unfold zbF at h; cases h) ?_ (sS Z <| sS Z <| sS Z <| sS Z <| sS Z <| sS Z <| sS Z <| sS Z <| sS Z <| sZ) Z
       intro kL3 v h
       obtain ⟨x17, y16⟩ := v
       try dsimp only at h ⊢
       unfold zbF at h
       unfold A23xl0
       refine sq <| rq O <| o (d := (B (decide (x17 < (a7.Shares.length : Int))))) (bo Z) Z <| nl <| nx <| sq <| Sem.cond Z (fun c18 => ?_) (fun c18 => ?_)
       ·rw [if_pos c18] at h
        refine Sem.skip mix <| nx <| sq <| Sem.block <| sq <| rq O ?_
        obtain ⟨a19, e20, h⟩ := bs h
        refine o (zaF Z Z e20 Z) Z <| o (d := (ST (zak.enc a19))) (zal Z Z) Z <| o (d := (.ptr 2 0 2)) (σ1 := [OB zah y16, cm (zai.enc a7), .cells [I 0, I 0]]) (zaG Z Z) Z <| st (σ1 := [OB zah y16, cm (zai.enc a7), cm (zak.enc a19)]) Z <| nl <| nx <| dq O <| m Z <| o (d := (.ptr 2 0 2)) (zaf Z) Z <| l (d := (I a19.Node)) Z <| m Z <| o (d := (.ptr 2 0 2)) (zaf Z) Z <| l (d := (I a19.Node)) Z <| ?_
        obtain ⟨a21, e22, h⟩ := bs h
        refine o (d := (.ptr 0 (a19.Node.toNat * 1) (y16.length * 1))) (ze5 (f := zah) (fun _ => Z) Z Z Z Z e22) Z <| o (d := (I a21)) (op_loade (f := zah) (o := 0) (fun _ => Z) Z Z Z Z (at_get e22) Z) Z <| m Z <| o (d := (.c (.fptr (zaa.enc p0) 0))) (zbo Z) Z <| o (d := (.c (.fptr (zaa.enc p0) 18))) (zau Z) Z <| o (d := (.c (.fptr (zaa.enc p0) 21))) (zau Z) Z <| o (d := (SL zad.enc p0.f_st.Jobs)) (zal Z Z) Z <| m Z <| ?_
        obtain ⟨a23, e24, h⟩ := bs h
        refine o (zaF Z Z e24 Z) Z <| o (d := (ST (zad.enc a23))) (zal Z Z) Z <| ?_
        obtain ⟨r25, e26, h⟩ := bs h
        refine o (d := (I r25)) (ca (job_Until_eq e26) Z) Z <| o (d := (I (if r25 > a21 then r25 else a21))) (op_call_gen (by kernel_rfl)) Z <| ?_
        obtain ⟨a27, e28, h⟩ := bs h
        refine o (d := (.ptr 0 (a19.Node.toNat * 1) (y16.length * 1))) (ze5 (f := zah) (fun _ => Z) Z Z Z Z e28) Z <| TrQ.eff (σ1 := [OB zah (y16.set a19.Node.toNat (if r25 > a21 then r25 else a21)), cm (zai.enc a7), cm (zak.enc a19)]) (op_storee (f := zah) (o := 0) (a' := (if r25 > a21 then r25 else a21)) (xs := [.lit (.int .i64 (if r25 > a21 then r25 else a21))]) (fun _ => Z) Z Z Z Z (at_get e28) Z Z Z Z Z Z Z) gd_none (wrE (f := zah) (esz := 1) (fun _ => Z) Z Z (by simp) Z) <| nl ⟨by kernel_rfl, ?_⟩
        refine nx <| nx <| rq O <| o (d := (I (IntKind.i64.wrap (x17 + 1)))) (bo Z) Z <| m Z <| nl ?_
        exact ⟨((IntKind.i64.wrap (x17 + 1)), (y16.set a19.Node.toNat (if r25 > a21 then r25 else a21))), h, .cut 2 (bl Z) (bl Z) (sS Z <| sE Z (by simp) <| sS Z <| sS Z <| sS Z <| sS Z <| sS Z <| sS Z <| sS Z <| sZ) Z (zeN zeP (zeN Z Z))⟩
       ·rw [if_neg (zaH c18)] at h
        refine Sem.exit mix <| nx <| ⟨_, _, .refl, fun _ => ?_, fun hh => absurd Z hh⟩
        refine nx ?_
        exact ⟨y16, h, .cut 1 (bl Z) (bl Z) (sS Z <| sS Z <| sS Z <| sS Z <| sS Z <| sZ) Z (zeN zeP Z)⟩
     ·refine m Z <| o (d := (B (!true))) (zbA Z Z Z Z) Z <| m Z <| ?_
      rcases bb (!true) with g11 | g11
      ·rw [if_pos g11] at h
       refine TrQ.know (v := true) 42 Z g11 <| TrQ.skipG 11 Z <| pT Z Z <| nl ?_
       exact ⟨true, h, .same (sS Z <| sS Z <| sS Z <| sS Z <| sS Z <| sS Z <| sS Z <| sS Z <| sZ)⟩
      ·rw [if_neg (zaH g11)] at h
       refine mo g11 Z <| q (d := (.c (.fptr (zaa.enc p0) 0))) (zbo Z) g11 Z <| q (d := (.c (.fptr (zaa.enc p0) 18))) (zau Z) g11 Z <| q (d := (.c (.fptr (zaa.enc p0) 21))) (zau Z) g11 Z <| q (d := (SL zad.enc p0.f_st.Jobs)) (zal Z Z) g11 Z <| mo g11 Z <| ?_
       obtain ⟨a29, e30, h⟩ := bs h
       refine q (zaF Z Z e30 Z) g11 Z <| q (d := (.c (.fptr (zad.enc a29) 10))) (zau Z) g11 Z <| q (d := (I a29.State)) (zal Z Z) g11 Z <| ?_
       obtain ⟨r31, e32, h⟩ := bs h
       refine q (d := (B r31)) (ca (zfa e32) Z) g11 Z <| q (d := (B (!r31))) (zbA Z Z Z Z) g11 Z <| pF g11 Z <| nl ?_
       exact ⟨(!r31), h, .same (sS Z <| sS Z <| sS Z <| sS Z <| sS Z <| sS Z <| sS Z <| sS Z <| sZ)⟩
  ·rw [if_neg (zaH c5)] at h
   refine Sem.exit mix <| nx <| ⟨_, _, .refl, fun _ => ?_, fun hh => absurd Z hh⟩
   refine nx <| sq <| rq O <| m Z <| nl <| nx <| Sem.own 10 1 Z (d := (OS 1 1 0)) (σ1 := [OB zah y3, OB zah ([] : List Int)]) Z Z <| sq <| sq <| rq O <| m Z <| o (d := (.c (.fptr (zaa.enc p0) 0))) (zbo Z) Z <| o (d := (.c (.fptr (zaa.enc p0) 18))) (zau Z) Z <| o (d := (.c (.fptr (zaa.enc p0) 23))) (zau Z) Z <| o (d := (SL zam.enc p0.f_st.Books)) (zal Z Z) Z <| o (d := (I (p0.f_st.Books.length : Int))) (zaA Z) Z <| m Z <| nl <| nx <| Sem.block <| Sem.rounds (V := Int × (List Int)) (fun ((x57, y56) : Int × (List Int)) => [(3, (OS 1 0 y3.length)), (10, (OS 1 1 y56.length)), (87, (SL zam.enc p0.f_st.Books)), (88, (I (p0.f_st.Books.length : Int))), (89, (I x57))]) (fun ((x57, y56) : Int × (List Int)) => [OB zah y3, OB zah y56]) (fun k v => zaP N p0 y3 k v.1 v.2 = some r) N (0, ([] : List Int)) h (fun v h => by unfold zaP at h; cases h) ?_ (sS Z <| sE Z (by simp) <| sS Z <| sS Z <| sS Z <| sZ) Z
   intro kL6 v h
   obtain ⟨x57, y56⟩ := v
   try dsimp only at h ⊢
   unfold zaP at h
   unfold A23xl2
   refine sq <| rq O <| o (d := (B (decide (x57 < (p0.f_st.Books.length : Int))))) (bo Z) Z <| nl <| nx <| sq <| Sem.cond Z (fun c58 => ?_) (fun c58 => ?_)
   ·rw [if_pos c58] at h
    refine Sem.skip mix <| nx <| Sem.join (fun (y59 : (List Int)) => [(3, (OS 1 0 y3.length)), (10, (OS 1 1 y59.length)), (87, (SL zam.enc p0.f_st.Books)), (88, (I (p0.f_st.Books.length : Int))), (89, (I x57))]) (fun (y59 : (List Int)) => [OB zah y3, OB zah y59]) (fun (y59 : (List Int)) => zdc N x57 (zaP N p0 y3 kL6) y59 = some r) ?_ ?_
    ·intro y59 h
     try dsimp only at h ⊢
     unfold zdc at h
     refine rq O <| o (d := (I (IntKind.i64.wrap (x57 + 1)))) (bo Z) Z <| m Z <| nl ?_
     exact ⟨((IntKind.i64.wrap (x57 + 1)), y59), h, .same (sS Z <| sS Z <| sS Z <| sS Z <| sS Z <| sZ)⟩
    ·refine Sem.block <| sq <| rq O ?_
     obtain ⟨a60, e61, h⟩ := bs h
     refine o (zaF Z Z e61 Z) Z <| o (d := (ST (zam.enc a60))) (zal Z Z) Z <| o (d := (.ptr 2 0 4)) (σ1 := [OB zah y3, OB zah y56, .cells [I 0, I 0, I 0, I 0]]) (zaG Z Z) Z <| st (σ1 := [OB zah y3, OB zah y56, cm (zam.enc a60)]) Z <| nl <| nx <| Sem.join (fun (x66 : Bool) => [(3, (OS 1 0 y3.length)), (10, (OS 1 1 y56.length)), (12, (.ptr 2 0 4)), (87, (SL zam.enc p0.f_st.Books)), (88, (I (p0.f_st.Books.length : Int))), (89, (I x57)), (120, (B x66))]) (fun (x66 : Bool) => [OB zah y3, OB zah y56, cm (zam.enc a60)]) (fun (x66 : Bool) => zb0 N y56 x57 a60 (zaP N p0 y3 kL6) x66 = some r) ?_ (dq O ?_)
     ·intro x66 h
      try dsimp only at h ⊢
      unfold zb0 at h
      refine Sem.cond Z (fun c67 => ?_) (fun c67 => ?_)
      ·rw [if_pos c67] at h
       refine rq O <| m Z <| o (d := (.ptr 2 0 4)) (zaf Z) Z <| l (d := (I a60.Id)) Z <| o (d := (OS 1 3 1)) (σ1 := [OB zah y3, OB zah y56, cm (zam.enc a60), OB zah ([a60.Id] : List Int)]) (zaL (f := zah) (l := ([a60.Id] : List Int)) (cs := ((([a60.Id] : List Int)).flatMap zah).map .c) (by kernel_rfl) Z Z (fun _ => Z) Z Z Z) Z <| ?_
       obtain ⟨z68, e69, h⟩ := bs h
       refine o (d := (OS 1 1 z68.length)) (σ1 := [OB zah y3, OB zah z68, cm (zam.enc a60), OB zah ([a60.Id] : List Int)]) (zcU (f := zah) (fun _ => Z) Z Z Z Z (zeL (fun _ => Z) Z (by simp)) e69 Z Z Z) Z <| m Z <| nl <| nx ?_
       exact ⟨z68, h, .cut 2 (bl Z) (bl Z) (sS Z <| sS Z <| sS Z <| sS Z <| sS Z <| sZ) Z (zeN zeP (zeN zeP Z))⟩
      ·rw [if_neg (zaH c67)] at h
       refine Sem.skip mix <| nx ?_
       exact ⟨y56, h, .cut 2 (bl Z) (bl Z) (sS Z <| sS Z <| sS Z <| sS Z <| sS Z <| sZ) Z (zeN zeP (zeN zeP Z))⟩
     ·refine o (d := (.ptr 2 1 4)) (zaf Z) Z <| l (d := (I a60.Node)) Z <| o (d := (B (decide (a60.Node ≥ 0)))) (bo Z) Z <| m Z <| ?_
      rcases bb (decide (a60.Node ≥ 0)) with g22 | g22
      ·rw [if_pos g22] at h
       refine q (d := (.ptr 2 1 4)) (zaf Z) g22 Z <| lo (d := (I a60.Node)) g22 Z <| mo g22 Z <| q (d := (I (y3.length : Int))) (op_len_own (f := zah) (fun _ => Z) Z Z Z) g22 Z <| q (d := (B (decide (a60.Node < (y3.length : Int))))) (bo Z) g22 Z <| pT g22 Z <| m Z <| ?_
       rcases bb (decide (a60.Node < (y3.length : Int))) with g23 | g23
       ·rw [if_pos g23] at h
        refine mo g23 Z <| q (d := (.ptr 2 1 4)) (zaf Z) g23 Z <| lo (d := (I a60.Node)) g23 Z <| ?_
        obtain ⟨a70, e71, h⟩ := bs h
        refine q (d := (.ptr 0 (a60.Node.toNat * 1) (y3.length * 1))) (ze5 (f := zah) (fun _ => Z) Z Z Z Z e71) g23 Z <| q (d := (I a70)) (op_loade (f := zah) (o := 0) (fun _ => Z) Z Z Z Z (at_get e71) Z) g23 Z <| q (d := (B (decide (a70 > 0)))) (bo Z) g23 Z <| pT g23 Z <| m Z <| ?_
        rcases bb (decide (a70 > 0)) with g24 | g24
        ·rw [if_pos g24] at h
         refine mo g24 Z <| q (d := (.ptr 2 1 4)) (zaf Z) g24 Z <| lo (d := (I a60.Node)) g24 Z <| ?_
         obtain ⟨a72, e73, h⟩ := bs h
         refine q (d := (.ptr 0 (a60.Node.toNat * 1) (y3.length * 1))) (ze5 (f := zah) (fun _ => Z) Z Z Z Z e73) g24 Z <| q (d := (I a72)) (op_loade (f := zah) (o := 0) (fun _ => Z) Z Z Z Z (at_get e73) Z) g24 Z <| q (d := (.ptr 2 2 4)) (zaf Z) g24 Z <| lo (d := (I a60.From)) g24 Z <| q (d := (B (decide (a72 > a60.From)))) (bo Z) g24 Z <| pT g24 Z <| nl ⟨by kernel_rfl, ?_⟩
         exact ⟨(decide (a72 > a60.From)), h, .same (sS Z <| sS Z <| sS Z <| sS Z <| sS Z <| sS Z <| sS Z <| sZ)⟩
        ·rw [if_neg (zaH g24)] at h
         refine TrQ.know (v := false) 111 Z g24 <| TrQ.skipG 8 Z <| pF Z Z <| nl ⟨by kernel_rfl, ?_⟩
         exact ⟨false, h, .same (sS Z <| sS Z <| sS Z <| sS Z <| sS Z <| sS Z <| sS Z <| sZ)⟩
       ·rw [if_neg (zaH g23)] at h
        refine TrQ.know (v := false) 103 Z g23 <| TrQ.skipG 6 Z <| pF Z Z <| m Z <| TrQ.skipG 8 Z <| pF Z Z <| nl ⟨by kernel_rfl, ?_⟩
        exact ⟨false, h, .same (sS Z <| sS Z <| sS Z <| sS Z <| sS Z <| sS Z <| sS Z <| sZ)⟩
      ·rw [if_neg (zaH g22)] at h
       refine TrQ.know (v := false) 96 Z g22 <| TrQ.skipG 5 Z <| pF Z Z <| m Z <| TrQ.skipG 6 Z <| pF Z Z <| m Z <| TrQ.skipG 8 Z <| pF Z Z <| nl ⟨by kernel_rfl, ?_⟩
       exact ⟨false, h, .same (sS Z <| sS Z <| sS Z <| sS Z <| sS Z <| sS Z <| sS Z <| sZ)⟩
   ·rw [if_neg (zaH c58)] at h
    refine Sem.exit mix <| nx <| ⟨_, _, .refl, fun _ => ?_, fun hh => absurd Z hh⟩
    refine nx <| sq <| rq O <| m Z <| m Z <| nl <| nx <| Sem.ret mix ?_
    cases h
    exact ⟨.inr Z, _, _, Z, (frz_own (fun _ => Z) (bl Z) Z Z), DLe.of_nrm Z⟩
noncomputable def F23 (N : Nat) : List D → Option D := spec (A := zaa) (R := (List Int)) (fun a => [(.c (.fptr (zaa.enc a) 0))]) (fun r => (SL zah r)) (fun a => zb8 N a)
theorem K23 (N : Nat) : ∀ ds r, F23 N ds = some r → za9 Tryd.prog 23 ds r := zav fun a r h => audit_checker_booked_ok N a r h
theorem audit_checker_booked_eq {N : Nat} {p0 : zaa} {r : (List Int)} (h : zb8 N p0 = some r) : F23 N [(.c (.fptr (zaa.enc p0) 0))] = some (SL zah r) := zaw (a := p0) (ij1 (zfi zaa.inj)) h
noncomputable def S88 (N : Nat) : za1 := []
theorem O88 (N : Nat) : zaO Tryd.prog (zat (S88 N)) := zap (zaj.nil)
theorem nat_Hold_int_ok (N : Nat) (p0 : Int) (p1 : Int) (p2 : Int) (r : Int) (h : ze9 N p0 p1 p2 = some r) : za9 Tryd.prog 88 [I p0, I p1, I p2] (I r) := by
  have O := And.intro mix (O88 N)
  refine zan Tryd.func88 (by kernel_rfl) C88 (bl Z) ?_
  unfold ze9 at h
  unfold A88
  dsimp only [zbc]
  refine sq <| rq O <| m Z <| nl <| nx <| sq <| sq <| rq O <| m Z <| m Z <| o (d := (B (decide (p0 < p1)))) (bo Z) Z <| nl <| nx <| Sem.cond Z (fun c1 => ?_) (fun c1 => ?_)
  ·rw [if_pos c1] at h
   refine sq <| rq O <| m Z <| m Z <| nl <| nx <| Sem.ret mix ?_
   cases h
   exact ⟨.inr Z, _, _, Z, Z, DLe.of_nrm Z⟩
  ·rw [if_neg (zaH c1)] at h
   refine Sem.skip mix <| nx <| sq <| sq <| rq O <| m Z <| m Z <| o (d := (B (decide (p0 > p2)))) (bo Z) Z <| nl <| nx <| Sem.cond Z (fun c2 => ?_) (fun c2 => ?_)
   ·rw [if_pos c2] at h
    refine sq <| rq O <| m Z <| m Z <| nl <| nx <| Sem.ret mix ?_
    cases h
    exact ⟨.inr Z, _, _, Z, Z, DLe.of_nrm Z⟩
   ·rw [if_neg (zaH c2)] at h
    refine Sem.skip mix <| nx <| sq <| rq O <| m Z <| m Z <| nl <| nx <| Sem.ret mix ?_
    cases h
    exact ⟨.inr Z, _, _, Z, Z, DLe.of_nrm Z⟩
noncomputable def F88 (N : Nat) : List D → Option D := spec (A := Int × Int × Int) (R := Int) (fun a => [I a.1, I a.2.1, I a.2.2]) (fun r => (I r)) (fun a => ze9 N a.1 a.2.1 a.2.2)
theorem K88 (N : Nat) : ∀ ds r, F88 N ds = some r → za9 Tryd.prog 88 ds r := zav fun a r h => nat_Hold_int_ok N a.1 a.2.1 a.2.2 r h
theorem nat_Hold_int_eq {N : Nat} {p0 : Int} {p1 : Int} {p2 : Int} {r : Int} (h : ze9 N p0 p1 p2 = some r) : F88 N [I p0, I p1, I p2] = some (I r) := zaw (a := (p0, p1, p2)) (ij3 zev zev zev) h
noncomputable def S77 (N : Nat) : za1 := [(88, F88 N)]
theorem O77 (N : Nat) : zaO Tryd.prog (zat (S77 N)) := zap (zaj.cons (K88 N) <| zaj.nil)
theorem place_Total_ok (N : Nat) (p0 : (List zak)) (r : Int) (h : place_Total N p0 = some r) : za9 Tryd.prog 77 [(SL zak.enc p0)] (I r) := by
  have O := And.intro mix (O77 N)
  refine zan Tryd.func77 (by kernel_rfl) C77 (bl Z) ?_
  unfold place_Total at h
  unfold A77
  dsimp only [zbc]
  refine sq <| rq O <| m Z <| nl <| nx <| sq <| rq O <| m Z <| nl <| nx <| sq <| sq <| rq O <| m Z <| o (d := (I (p0.length : Int))) (zaA Z) Z <| m Z <| nl <| nx <| Sem.block <| Sem.rounds (V := Int × Int) (fun ((x1, x2) : Int × Int) => [(3, (I x1)), (6, (SL zak.enc p0)), (7, (I (p0.length : Int))), (8, (I x2))]) (fun ((x1, x2) : Int × Int) => []) (fun k v => zeo N p0 k v.1 v.2 = some r) N (0, 0) h (fun v h => by unfold zeo at h; cases h) ?_ (sS Z <| sS Z <| sS Z <| sS Z <| sZ) Z
  intro kL0 v h
  obtain ⟨x1, x2⟩ := v
  try dsimp only at h ⊢
  unfold zeo at h
  unfold A77xl0
  refine sq <| rq O <| o (d := (B (decide (x2 < (p0.length : Int))))) (bo Z) Z <| nl <| nx <| sq <| Sem.cond Z (fun c3 => ?_) (fun c3 => ?_)
  ·rw [if_pos c3] at h
   refine Sem.skip mix <| nx <| sq <| Sem.block <| sq <| rq O ?_
   obtain ⟨a4, e5, h⟩ := bs h
   refine o (zaF Z Z e5 Z) Z <| o (d := (ST (zak.enc a4))) (zal Z Z) Z <| o (d := (.ptr 0 0 2)) (σ1 := [.cells [I 0, I 0]]) (zaG Z Z) Z <| st (σ1 := [cm (zak.enc a4)]) Z <| nl <| nx <| rq O <| m Z <| o (d := (.ptr 0 1 2)) (zaf Z) Z <| l (d := (I a4.Many)) Z <| ?_
   obtain ⟨r6, e7, h⟩ := bs h
   refine o (d := (I r6)) (ca (nat_Hold_int_eq e7) Z) Z <| o (d := (I (IntKind.i64.wrap (x1 + r6)))) (bo Z) Z <| m Z <| nl <| nx <| nx <| rq O <| o (d := (I (IntKind.i64.wrap (x2 + 1)))) (bo Z) Z <| m Z <| nl ?_
   exact ⟨((IntKind.i64.wrap (x1 + r6)), (IntKind.i64.wrap (x2 + 1))), h, .cut 0 (bl Z) (bl Z) (sS Z <| sS Z <| sS Z <| sS Z <| sZ) Z Z⟩
  ·rw [if_neg (zaH c3)] at h
   refine Sem.exit mix <| nx <| ⟨_, _, .refl, fun _ => ?_, fun hh => absurd Z hh⟩
   refine nx <| sq <| rq O <| m Z <| m Z <| nl <| nx <| Sem.ret mix ?_
   cases h
   exact ⟨.inr Z, _, _, Z, Z, DLe.of_nrm Z⟩
noncomputable def F77 (N : Nat) : List D → Option D := spec (A := (List zak)) (R := Int) (fun a => [(SL zak.enc a)]) (fun r => (I r)) (fun a => place_Total N a)
theorem K77 (N : Nat) : ∀ ds r, F77 N ds = some r → za9 Tryd.prog 77 ds r := zav fun a r h => place_Total_ok N a r h
theorem place_Total_eq {N : Nat} {p0 : (List zak)} {r : Int} (h : place_Total N p0 = some r) : F77 N [(SL zak.enc p0)] = some (I r) := zaw (a := p0) (ij1 (zeM zak.inj)) h
noncomputable def S89 (N : Nat) : za1 := []
theorem O89 (N : Nat) : zaO Tryd.prog (zat (S89 N)) := zap (zaj.nil)
theorem slices_Index_Lint_int_ok (N : Nat) (p0 : (List Int)) (p1 : Int) (r : Int) (h : zc0 N p0 p1 = some r) : za9 Tryd.prog 89 [(SL zah p0), I p1] (I r) := by
  have O := And.intro mix (O89 N)
  refine zan Tryd.func89 (by kernel_rfl) C89 (bl Z) ?_
  unfold zc0 at h
  unfold A89
  dsimp only [zbc]
  refine sq <| rq O <| m Z <| nl <| nx <| sq <| sq <| rq O <| m Z <| o (d := (I (p0.length : Int))) (zaA Z) Z <| m Z <| nl <| nx <| Sem.block <| Sem.rounds (V := Int) (fun (x1 : Int) => [(0, (SL zah p0)), (1, (I p1)), (7, (I (p0.length : Int))), (8, (I x1))]) (fun (x1 : Int) => []) (fun k v => zce N p0 p1 k v = some r) N 0 h (fun v h => by unfold zce at h; cases h) ?_ (sS Z <| sS Z <| sS Z <| sS Z <| sZ) Z
  intro kL0 x1 h
  try dsimp only at h ⊢
  unfold zce at h
  unfold A89xl0
  refine sq <| rq O <| o (d := (B (decide (x1 < (p0.length : Int))))) (bo Z) Z <| nl <| nx <| sq <| Sem.cond Z (fun c2 => ?_) (fun c2 => ?_)
  ·rw [if_pos c2] at h
   refine Sem.skip mix <| nx <| sq <| Sem.block <| sq <| rq O <| m Z <| m Z <| nl <| nx <| sq <| rq O <| m Z <| m Z <| m Z <| ?_
   obtain ⟨a3, e4, h⟩ := bs h
   refine o (zaF Z Z e4 Z) Z <| o (d := (I a3)) (zal Z Z) Z <| o (d := (B (p1 == a3))) (bo Z) Z <| nl <| nx <| Sem.cond Z (fun c5 => ?_) (fun c5 => ?_)
   ·rw [if_pos c5] at h
    refine sq <| rq O <| m Z <| m Z <| nl <| nx <| Sem.ret mix <| nx <| nx <| nx ?_
    cases h
    exact ⟨.inr Z, _, _, Z, Z, DLe.of_nrm Z⟩
   ·rw [if_neg (zaH c5)] at h
    refine Sem.skip mix <| nx <| nx <| rq O <| o (d := (I (IntKind.i64.wrap (x1 + 1)))) (bo Z) Z <| m Z <| nl ?_
    exact ⟨(IntKind.i64.wrap (x1 + 1)), h, .same (sS Z <| sS Z <| sS Z <| sS Z <| sZ)⟩
  ·rw [if_neg (zaH c2)] at h
   refine Sem.exit mix <| nx <| ⟨_, _, .refl, fun _ => ?_, fun hh => absurd Z hh⟩
   refine nx <| sq <| rq O <| m Z <| nl <| nx <| Sem.ret mix ?_
   cases h
   exact ⟨.inr Z, _, _, Z, Z, DLe.of_nrm Z⟩
noncomputable def F89 (N : Nat) : List D → Option D := spec (A := (List Int) × Int) (R := Int) (fun a => [(SL zah a.1), I a.2]) (fun r => (I r)) (fun a => zc0 N a.1 a.2)
theorem K89 (N : Nat) : ∀ ds r, F89 N ds = some r → za9 Tryd.prog 89 ds r := zav fun a r h => slices_Index_Lint_int_ok N a.1 a.2 r h
theorem slices_Index_Lint_int_eq {N : Nat} {p0 : (List Int)} {p1 : Int} {r : Int} (h : zc0 N p0 p1 = some r) : F89 N [(SL zah p0), I p1] = some (I r) := zaw (a := (p0, p1)) (ij2 (zeM zcf) zev) h
noncomputable def S78 (N : Nat) : za1 := [(89, F89 N)]
theorem O78 (N : Nat) : zaO Tryd.prog (zat (S78 N)) := zap (zaj.cons (K89 N) <| zaj.nil)
theorem slices_Contains_Lint_int_ok (N : Nat) (p0 : (List Int)) (p1 : Int) (r : Bool) (h : zbM N p0 p1 = some r) : za9 Tryd.prog 78 [(SL zah p0), I p1] (B r) := by
  have O := And.intro mix (O78 N)
  refine zan Tryd.func78 (by kernel_rfl) C78 (bl Z) ?_
  unfold zbM at h
  unfold A78
  dsimp only [zbc]
  refine sq <| rq O <| m Z <| nl <| nx <| sq <| rq O <| m Z <| m Z <| ?_
  obtain ⟨r1, e2, h⟩ := bs h
  refine o (d := (I r1)) (ca (slices_Index_Lint_int_eq e2) Z) Z <| o (d := (B (decide (r1 ≥ 0)))) (bo Z) Z <| m Z <| nl <| nx <| Sem.ret mix ?_
  cases h
  exact ⟨.inr Z, _, _, Z, Z, DLe.of_nrm Z⟩
noncomputable def F78 (N : Nat) : List D → Option D := spec (A := (List Int) × Int) (R := Bool) (fun a => [(SL zah a.1), I a.2]) (fun r => (B r)) (fun a => zbM N a.1 a.2)
theorem K78 (N : Nat) : ∀ ds r, F78 N ds = some r → za9 Tryd.prog 78 ds r := zav fun a r h => slices_Contains_Lint_int_ok N a.1 a.2 r h
theorem slices_Contains_Lint_int_eq {N : Nat} {p0 : (List Int)} {p1 : Int} {r : Bool} (h : zbM N p0 p1 = some r) : F78 N [(SL zah p0), I p1] = some (B r) := zaw (a := (p0, p1)) (ij2 (zeM zcf) zev) h
noncomputable def S49 (N : Nat) : za1 := [(47, F47 N), (77, F77 N), (78, F78 N)]
theorem O49 (N : Nat) : zaO Tryd.prog (zat (S49 N)) := zap (zaj.cons (K47 N) <| zaj.cons (K77 N) <| zaj.cons (K78 N) <| zaj.nil)
theorem audit_checker_right_ok (N : Nat) (p0 : zaa) (p1 : zad) (r : Bool) (h : zcG N p0 p1 = some r) : za9 Tryd.prog 49 [(.c (.fptr (zaa.enc p0) 0)), (ST (zad.enc p1))] (B r) := by
  have O := And.intro mix (O49 N)
  refine zan Tryd.func49 (by kernel_rfl) C49 (bl Z) ?_
  unfold zcG at h
  unfold A49
  dsimp only [zbc]
  refine sq <| rq O <| o (d := (.ptr 0 0 18)) (σ1 := [cm (zad.enc p1)]) (zba Z Z Z Z) Z <| m Z <| nl <| nx <| sq <| dq O <| m Z <| o (d := (.c (.fptr (zaa.enc p0) 0))) (zbo Z) Z <| o (d := (.c (.fptr (zaa.enc p0) 28))) (zau Z) Z <| o (d := (FM (fun (z : (List Int)) => .frz false (z.map zah)) p0.f_allocs)) (zal Z Z) Z <| o (d := (.ptr 0 0 18)) (zaf Z) Z <| l (d := (I p1.Id)) Z <| ?_
  cases g1 : mget p0.f_allocs p1.Id with
  | none =>
   rw [g1] at h
   dsimp only [oel] at h
   refine o (d := sn) (op_lookFN (g := (fun (z : (List Int)) => .frz false (z.map zah))) Z Z g1 Z) Z <| m Z <| nl ⟨by kernel_rfl, ?_⟩
   refine nx <| sq <| sq <| rq O <| o (d := (.ptr 0 10 18)) (zaf Z) Z <| l (d := (I p1.State)) Z <| ?_
   obtain ⟨r27, e28, h⟩ := bs h
   refine o (d := (B r27)) (ca (zfa e28) Z) Z <| o (d := (B (!r27))) (zbA Z Z Z Z) Z <| nl <| nx <| Sem.cond Z (fun c29 => ?_) (fun c29 => ?_)
   ·rw [if_pos c29] at h
    refine sq <| rq O <| m Z <| o (op_len0 Z) Z <| o (d := (B (0 == 0))) (bo Z) Z <| m Z <| nl <| nx <| Sem.ret mix ?_
    cases h
    exact ⟨.inr Z, _, _, Z, Z, DLe.of_nrm Z⟩
   ·rw [if_neg (zaH c29)] at h
    refine Sem.skip mix <| nx <| sq <| Sem.step [(0, (.c (.fptr (zaa.enc p0) 0))), (3, (.ptr 0 0 18)), (5, sn), (37, (B ((0 != 1) || (decide (p1.Queue ≥ (p0.f_s.Queues.length : Int))))))] [cm (zad.enc p1)] (dq O ?_) ?_
    ·refine m Z <| o (op_len0 Z) Z <| o (d := (B (0 != 1))) (bo Z) Z <| m Z <| ?_
     rcases bb (0 != 1) with g4 | g4
     ·refine TrQ.know (v := true) 27 Z g4 <| TrQ.skipG 9 Z <| pT Z Z <| nl ⟨by kernel_rfl, ⟨rfl, .same (sS Z <| sS Z <| sS Z <| sE Z (by rw [g4]; rfl) <| sZ)⟩⟩
     ·refine q (d := (.ptr 0 2 18)) (zaf Z) g4 Z <| lo (d := (I p1.Queue)) g4 Z <| mo g4 Z <| q (d := (.c (.fptr (zaa.enc p0) 0))) (zbo Z) g4 Z <| q (d := (.c (.fptr (zaa.enc p0) 0))) (zau Z) g4 Z <| q (d := (.c (.fptr (zaa.enc p0) 2))) (zau Z) g4 Z <| q (d := (SL zaq.enc p0.f_s.Queues)) (zal Z Z) g4 Z <| q (d := (I (p0.f_s.Queues.length : Int))) (zaA Z) g4 Z <| q (d := (B (decide (p1.Queue ≥ (p0.f_s.Queues.length : Int))))) (bo Z) g4 Z <| pF g4 Z <| nl ⟨by kernel_rfl, ⟨rfl, .same (sS Z <| sS Z <| sS Z <| sE Z (by rw [g4]; rfl) <| sZ)⟩⟩
    ·refine Sem.cond Z (fun c30 => ?_) (fun c30 => ?_)
     ·rw [if_pos c30] at h
      refine sq <| rq O <| m Z <| nl <| nx <| Sem.ret mix ?_
      cases h
      exact ⟨.inr Z, _, _, Z, Z, DLe.of_nrm Z⟩
     ·rw [if_neg (zaH c30)] at h
      refine Sem.skip mix <| nx <| sq <| dq O <| m Z <| o (d := (.c (.fptr (zaa.enc p0) 0))) (zbo Z) Z <| o (d := (.c (.fptr (zaa.enc p0) 18))) (zau Z) Z <| o (d := (.c (.fptr (zaa.enc p0) 22))) (zau Z) Z <| o (d := (SL zai.enc p0.f_st.Allocs)) (zal Z Z) Z <| m Z <| ?_
      cases h
  | some o1 =>
   rw [g1] at h
   dsimp only [oel] at h
   refine o (d := (SL zah o1)) (op_lookF (g := (fun (z : (List Int)) => .frz false (z.map zah))) Z Z g1 Z) Z <| m Z <| nl ⟨by kernel_rfl, ?_⟩
   refine nx <| sq <| sq <| rq O <| o (d := (.ptr 0 10 18)) (zaf Z) Z <| l (d := (I p1.State)) Z <| ?_
   obtain ⟨r2, e3, h⟩ := bs h
   refine o (d := (B r2)) (ca (zfa e3) Z) Z <| o (d := (B (!r2))) (zbA Z Z Z Z) Z <| nl <| nx <| Sem.cond Z (fun c4 => ?_) (fun c4 => ?_)
   ·rw [if_pos c4] at h
    refine sq <| rq O <| m Z <| o (d := (I (o1.length : Int))) (zaA Z) Z <| o (d := (B ((o1.length : Int) == 0))) (bo Z) Z <| m Z <| nl <| nx <| Sem.ret mix ?_
    cases h
    exact ⟨.inr Z, _, _, Z, Z, DLe.of_nrm Z⟩
   ·rw [if_neg (zaH c4)] at h
    refine Sem.skip mix <| nx <| sq <| Sem.step [(0, (.c (.fptr (zaa.enc p0) 0))), (3, (.ptr 0 0 18)), (5, (SL zah o1)), (37, (B (((o1.length : Int) != 1) || (decide (p1.Queue ≥ (p0.f_s.Queues.length : Int))))))] [cm (zad.enc p1)] (dq O ?_) ?_
    ·refine m Z <| o (d := (I (o1.length : Int))) (zaA Z) Z <| o (d := (B ((o1.length : Int) != 1))) (bo Z) Z <| m Z <| ?_
     rcases bb ((o1.length : Int) != 1) with g2 | g2
     ·refine TrQ.know (v := true) 27 Z g2 <| TrQ.skipG 9 Z <| pT Z Z <| nl ⟨by kernel_rfl, ⟨rfl, .same (sS Z <| sS Z <| sS Z <| sE Z (by rw [g2]; rfl) <| sZ)⟩⟩
     ·refine q (d := (.ptr 0 2 18)) (zaf Z) g2 Z <| lo (d := (I p1.Queue)) g2 Z <| mo g2 Z <| q (d := (.c (.fptr (zaa.enc p0) 0))) (zbo Z) g2 Z <| q (d := (.c (.fptr (zaa.enc p0) 0))) (zau Z) g2 Z <| q (d := (.c (.fptr (zaa.enc p0) 2))) (zau Z) g2 Z <| q (d := (SL zaq.enc p0.f_s.Queues)) (zal Z Z) g2 Z <| q (d := (I (p0.f_s.Queues.length : Int))) (zaA Z) g2 Z <| q (d := (B (decide (p1.Queue ≥ (p0.f_s.Queues.length : Int))))) (bo Z) g2 Z <| pF g2 Z <| nl ⟨by kernel_rfl, ⟨rfl, .same (sS Z <| sS Z <| sS Z <| sE Z (by rw [g2]; rfl) <| sZ)⟩⟩
    ·refine Sem.cond Z (fun c5 => ?_) (fun c5 => ?_)
     ·rw [if_pos c5] at h
      refine sq <| rq O <| m Z <| nl <| nx <| Sem.ret mix ?_
      cases h
      exact ⟨.inr Z, _, _, Z, Z, DLe.of_nrm Z⟩
     ·rw [if_neg (zaH c5)] at h
      refine Sem.skip mix <| nx <| sq <| dq O <| m Z <| o (d := (.c (.fptr (zaa.enc p0) 0))) (zbo Z) Z <| o (d := (.c (.fptr (zaa.enc p0) 18))) (zau Z) Z <| o (d := (.c (.fptr (zaa.enc p0) 22))) (zau Z) Z <| o (d := (SL zai.enc p0.f_st.Allocs)) (zal Z Z) Z <| m Z <| ?_
      obtain ⟨a6, e7, h⟩ := bs h
      refine o (zaF Z Z e7 Z) Z <| o (d := (I a6)) (zal Z Z) Z <| ?_
      obtain ⟨a8, e9, h⟩ := bs h
      refine o (zaF Z Z e9 Z) Z <| o (d := (ST (zai.enc a8))) (zal Z Z) Z <| o (d := (.ptr 1 0 6)) (σ1 := [cm (zad.enc p1), .cells [I 0, I 0, I 0, I 0, I 0, sn]]) (zaG Z Z) Z <| st (σ1 := [cm (zad.enc p1), cm (zai.enc a8)]) Z <| nl ⟨by kernel_rfl, ?_⟩
      refine nx <| sq <| Sem.join (fun (x12 : Bool) => [(0, (.c (.fptr (zaa.enc p0) 0))), (3, (.ptr 0 0 18)), (6, (.ptr 1 0 6)), (60, (B x12))]) (fun (x12 : Bool) => [cm (zad.enc p1), cm (zai.enc a8)]) (fun (x12 : Bool) => zdi N p0 p1 a8 x12 = some r) ?_ (dq O ?_)
      ·intro x12 h
       try dsimp only at h ⊢
       unfold zdi at h
       refine Sem.cond Z (fun c13 => ?_) (fun c13 => ?_)
       ·rw [if_pos c13] at h
        refine sq <| rq O <| m Z <| nl <| nx <| Sem.ret mix ?_
        cases h
        exact ⟨.inr Z, _, _, Z, Z, DLe.of_nrm Z⟩
       ·rw [if_neg (zaH c13)] at h
        refine Sem.skip mix <| nx <| sq <| dq O <| m Z <| o (d := (.c (.fptr (zaa.enc p0) 0))) (zbo Z) Z <| o (d := (.c (.fptr (zaa.enc p0) 0))) (zau Z) Z <| o (d := (.c (.fptr (zaa.enc p0) 1))) (zau Z) Z <| o (d := (SL (encL zah) p0.f_s.Parts)) (zal Z Z) Z <| m Z <| o (d := (.c (.fptr (zaa.enc p0) 0))) (zbo Z) Z <| o (d := (.c (.fptr (zaa.enc p0) 0))) (zau Z) Z <| o (d := (.c (.fptr (zaa.enc p0) 2))) (zau Z) Z <| o (d := (SL zaq.enc p0.f_s.Queues)) (zal Z Z) Z <| o (d := (.ptr 0 2 18)) (zaf Z) Z <| l (d := (I p1.Queue)) Z <| ?_
        obtain ⟨a14, e15, h⟩ := bs h
        refine o (zaF Z Z e15 Z) Z <| o (d := (.c (.fptr (zaq.enc a14) 0))) (zau Z) Z <| o (d := (I a14.Part)) (zal Z Z) Z <| ?_
        obtain ⟨a16, e17, h⟩ := bs h
        refine o (zaF Z Z e17 Z) Z <| o (d := (SL zah a16)) (zal Z Z) Z <| m Z <| nl ⟨by kernel_rfl, ?_⟩
        refine nx <| sq <| sq <| rq O <| o (d := (.ptr 1 5 6)) (zaf Z) Z <| l (d := (SL zak.enc a8.Shares)) Z <| o (d := (I (a8.Shares.length : Int))) (zaA Z) Z <| m Z <| nl <| nx <| Sem.block <| Sem.rounds (V := Int) (fun (x18 : Int) => [(7, (SL zah a16)), (79, (SL zak.enc a8.Shares)), (80, (I (a8.Shares.length : Int))), (81, (I x18))]) (fun (x18 : Int) => [cm (zad.enc p1), cm (zai.enc a8)]) (fun k v => zbJ N a8 a16 k v = some r) N 0 h (fun v h => by unfold zbJ at h; cases h) ?_ (sS Z <| sS Z <| sS Z <| sS Z <| sZ) Z
        intro kL1 x18 h
        try dsimp only at h ⊢
        unfold zbJ at h
        unfold A49xl0
        refine sq <| rq O <| o (d := (B (decide (x18 < (a8.Shares.length : Int))))) (bo Z) Z <| nl <| nx <| sq <| Sem.cond Z (fun c19 => ?_) (fun c19 => ?_)
        ·rw [if_pos c19] at h
         refine Sem.skip mix <| nx <| sq <| Sem.block <| sq <| rq O ?_
         obtain ⟨a20, e21, h⟩ := bs h
         refine o (zaF Z Z e21 Z) Z <| o (d := (ST (zak.enc a20))) (zal Z Z) Z <| o (d := (.ptr 2 0 2)) (σ1 := [cm (zad.enc p1), cm (zai.enc a8), .cells [I 0, I 0]]) (zaG Z Z) Z <| st (σ1 := [cm (zad.enc p1), cm (zai.enc a8), cm (zak.enc a20)]) Z <| nl <| nx <| sq <| rq O <| m Z <| o (d := (.ptr 2 0 2)) (zaf Z) Z <| l (d := (I a20.Node)) Z <| ?_
         obtain ⟨r22, e23, h⟩ := bs h
         refine o (d := (B r22)) (ca (slices_Contains_Lint_int_eq e23) Z) Z <| o (d := (B (!r22))) (zbA Z Z Z Z) Z <| nl <| nx <| Sem.cond Z (fun c24 => ?_) (fun c24 => ?_)
         ·rw [if_pos c24] at h
          refine sq <| rq O <| m Z <| nl <| nx <| Sem.ret mix <| nx <| nx <| nx ?_
          cases h
          exact ⟨.inr Z, _, _, Z, Z, DLe.of_nrm Z⟩
         ·rw [if_neg (zaH c24)] at h
          refine Sem.skip mix <| nx <| nx <| rq O <| o (d := (I (IntKind.i64.wrap (x18 + 1)))) (bo Z) Z <| m Z <| nl ?_
          exact ⟨(IntKind.i64.wrap (x18 + 1)), h, .cut 2 (bl Z) (bl Z) (sS Z <| sS Z <| sS Z <| sS Z <| sZ) Z Z⟩
        ·rw [if_neg (zaH c19)] at h
         refine Sem.exit mix <| nx <| ⟨_, _, .refl, fun _ => ?_, fun hh => absurd Z hh⟩
         refine nx <| sq <| rq O <| m Z <| nl <| nx <| Sem.ret mix ?_
         cases h
         exact ⟨.inr Z, _, _, Z, Z, DLe.of_nrm Z⟩
      ·refine o (d := (.ptr 1 1 6)) (zaf Z) Z <| l (d := (ST (zac.enc a8.Need))) Z <| o (d := (.ptr 0 4 18)) (zaf Z) Z <| l (d := (ST (zac.enc p1.Need))) Z <| o (d := (B (!decide (a8.Need = p1.Need)))) (api_Res_neq Z Z) Z <| m Z <| ?_
       rcases bb (!decide (a8.Need = p1.Need)) with g3 | g3
       ·rw [if_pos g3] at h
        refine TrQ.know (v := true) 53 Z g3 <| TrQ.skipG 6 Z <| pT Z Z <| nl ⟨by kernel_rfl, ?_⟩
        exact ⟨true, h, .same (sS Z <| sS Z <| sS Z <| sS Z <| sZ)⟩
       ·rw [if_neg (zaH g3)] at h
        refine q (d := (.ptr 1 5 6)) (zaf Z) g3 Z <| lo (d := (SL zak.enc a8.Shares)) g3 Z <| ?_
        obtain ⟨r25, e26, h⟩ := bs h
        refine q (d := (I r25)) (ca (place_Total_eq e26) Z) g3 Z <| q (d := (.ptr 0 3 18)) (zaf Z) g3 Z <| lo (d := (I p1.Many)) g3 Z <| q (d := (B (r25 != p1.Many))) (bo Z) g3 Z <| pF g3 Z <| nl ⟨by kernel_rfl, ?_⟩
        exact ⟨(r25 != p1.Many), h, .same (sS Z <| sS Z <| sS Z <| sS Z <| sZ)⟩
noncomputable def F49 (N : Nat) : List D → Option D := spec (A := zaa × zad) (R := Bool) (fun a => [(.c (.fptr (zaa.enc a.1) 0)), (ST (zad.enc a.2))]) (fun r => (B r)) (fun a => zcG N a.1 a.2)
theorem K49 (N : Nat) : ∀ ds r, F49 N ds = some r → za9 Tryd.prog 49 ds r := zav fun a r h => audit_checker_right_ok N a.1 a.2 r h
theorem audit_checker_right_eq {N : Nat} {p0 : zaa} {p1 : zad} {r : Bool} (h : zcG N p0 p1 = some r) : F49 N [(.c (.fptr (zaa.enc p0) 0)), (ST (zad.enc p1))] = some (B r) := zaw (a := (p0, p1)) (ij2 (zfi zaa.inj) (zbx zad.inj)) h
noncomputable def S24 (N : Nat) : za1 := [(49, F49 N)]
theorem O24 (N : Nat) : zaO Tryd.prog (zat (S24 N)) := zap (zaj.cons (K49 N) <| zaj.nil)
theorem audit_checker_job_ok (N : Nat) (p0 : zaa) (r : (List Int)) (h : zdp N p0 = some r) : za9 Tryd.prog 24 [(.c (.fptr (zaa.enc p0) 0))] (SL zah r) := by
  have O := And.intro mix (O24 N)
  refine zan Tryd.func24 (by kernel_rfl) C24 (bl Z) ?_
  unfold zdp at h
  unfold A24
  dsimp only [zbc]
  refine sq <| rq O <| m Z <| nl <| nx <| sq <| rq O <| m Z <| nl <| nx <| Sem.own 3 1 Z (d := (OS 1 0 0)) (σ1 := [OB zah ([] : List Int)]) Z Z <| sq <| sq <| rq O <| m Z <| o (d := (.c (.fptr (zaa.enc p0) 0))) (zbo Z) Z <| o (d := (.c (.fptr (zaa.enc p0) 18))) (zau Z) Z <| o (d := (.c (.fptr (zaa.enc p0) 21))) (zau Z) Z <| o (d := (SL zad.enc p0.f_st.Jobs)) (zal Z Z) Z <| o (d := (I (p0.f_st.Jobs.length : Int))) (zaA Z) Z <| m Z <| nl <| nx <| Sem.block <| Sem.rounds (V := Int × (List Int)) (fun ((x2, y1) : Int × (List Int)) => [(0, (.c (.fptr (zaa.enc p0) 0))), (3, (OS 1 0 y1.length)), (10, (SL zad.enc p0.f_st.Jobs)), (11, (I (p0.f_st.Jobs.length : Int))), (12, (I x2))]) (fun ((x2, y1) : Int × (List Int)) => [OB zah y1]) (fun k v => zbz N p0 k v.1 v.2 = some r) N (0, ([] : List Int)) h (fun v h => by unfold zbz at h; cases h) ?_ (sS Z <| sE Z (by simp) <| sS Z <| sS Z <| sS Z <| sZ) Z
  intro kL0 v h
  obtain ⟨x2, y1⟩ := v
  try dsimp only at h ⊢
  unfold zbz at h
  unfold A24xl0
  refine sq <| rq O <| o (d := (B (decide (x2 < (p0.f_st.Jobs.length : Int))))) (bo Z) Z <| nl <| nx <| sq <| Sem.cond Z (fun c3 => ?_) (fun c3 => ?_)
  ·rw [if_pos c3] at h
   refine Sem.skip mix <| nx <| Sem.join (fun (y4 : (List Int)) => [(0, (.c (.fptr (zaa.enc p0) 0))), (3, (OS 1 0 y4.length)), (10, (SL zad.enc p0.f_st.Jobs)), (11, (I (p0.f_st.Jobs.length : Int))), (12, (I x2))]) (fun (y4 : (List Int)) => [OB zah y4]) (fun (y4 : (List Int)) => zed N x2 (zbz N p0 kL0) y4 = some r) ?_ ?_
   ·intro y4 h
    try dsimp only at h ⊢
    unfold zed at h
    refine rq O <| o (d := (I (IntKind.i64.wrap (x2 + 1)))) (bo Z) Z <| m Z <| nl ?_
    exact ⟨((IntKind.i64.wrap (x2 + 1)), y4), h, .same (sS Z <| sS Z <| sS Z <| sS Z <| sS Z <| sZ)⟩
   ·refine Sem.block <| sq <| rq O ?_
    obtain ⟨a5, e6, h⟩ := bs h
    refine o (zaF Z Z e6 Z) Z <| o (d := (ST (zad.enc a5))) (zal Z Z) Z <| o (d := (.ptr 1 0 18)) (σ1 := [OB zah y1, .cells [I 0, I 0, I 0, I 0, I 0, I 0, I 0, I 0, I 0, sn, I 0, B false, B false, I 0, I 0, I 0, I 0, I 0]]) (zaG Z Z) Z <| st (σ1 := [OB zah y1, cm (zad.enc a5)]) Z <| nl <| nx <| sq <| rq O <| m Z <| l (d := (ST (zad.enc a5))) Z <| ?_
    obtain ⟨r7, e8, h⟩ := bs h
    refine o (d := (B r7)) (ca (audit_checker_right_eq e8) Z) Z <| o (d := (B (!r7))) (zbA Z Z Z Z) Z <| nl <| nx <| Sem.cond Z (fun c9 => ?_) (fun c9 => ?_)
    ·rw [if_pos c9] at h
     refine rq O <| m Z <| o (d := (.ptr 1 0 18)) (zaf Z) Z <| l (d := (I a5.Id)) Z <| o (d := (OS 1 2 1)) (σ1 := [OB zah y1, cm (zad.enc a5), OB zah ([a5.Id] : List Int)]) (zaL (f := zah) (l := ([a5.Id] : List Int)) (cs := ((([a5.Id] : List Int)).flatMap zah).map .c) (by kernel_rfl) Z Z (fun _ => Z) Z Z Z) Z <| ?_
     obtain ⟨z10, e11, h⟩ := bs h
     refine o (d := (OS 1 0 z10.length)) (σ1 := [OB zah z10, cm (zad.enc a5), OB zah ([a5.Id] : List Int)]) (zcU (f := zah) (fun _ => Z) Z Z Z Z (zeL (fun _ => Z) Z (by simp)) e11 Z Z Z) Z <| m Z <| nl <| nx ?_
     exact ⟨z10, h, .cut 1 (bl Z) (bl Z) (sS Z <| sS Z <| sS Z <| sS Z <| sS Z <| sZ) Z (zeN zeP Z)⟩
    ·rw [if_neg (zaH c9)] at h
     refine Sem.skip mix <| nx ?_
     exact ⟨y1, h, .cut 1 (bl Z) (bl Z) (sS Z <| sS Z <| sS Z <| sS Z <| sS Z <| sZ) Z (zeN zeP Z)⟩
  ·rw [if_neg (zaH c3)] at h
   refine Sem.exit mix <| nx <| ⟨_, _, .refl, fun _ => ?_, fun hh => absurd Z hh⟩
   refine nx <| sq <| rq O <| m Z <| m Z <| nl <| nx <| Sem.ret mix ?_
   cases h
   exact ⟨.inr Z, _, _, Z, (frz_own (fun _ => Z) (bl Z) Z Z), DLe.of_nrm Z⟩
noncomputable def F24 (N : Nat) : List D → Option D := spec (A := zaa) (R := (List Int)) (fun a => [(.c (.fptr (zaa.enc a) 0))]) (fun r => (SL zah r)) (fun a => zdp N a)
theorem K24 (N : Nat) : ∀ ds r, F24 N ds = some r → za9 Tryd.prog 24 ds r := zav fun a r h => audit_checker_job_ok N a r h
theorem audit_checker_job_eq {N : Nat} {p0 : zaa} {r : (List Int)} (h : zdp N p0 = some r) : F24 N [(.c (.fptr (zaa.enc p0) 0))] = some (SL zah r) := zaw (a := p0) (ij1 (zfi zaa.inj)) h
noncomputable def S25 (N : Nat) : za1 := []
theorem O25 (N : Nat) : zaO Tryd.prog (zat (S25 N)) := zap (zaj.nil)
theorem audit_checker_alloc_ok (N : Nat) (p0 : zaa) (r : (List Int)) (h : zcO N p0 = some r) : za9 Tryd.prog 25 [(.c (.fptr (zaa.enc p0) 0))] (SL zah r) := by
  have O := And.intro mix (O25 N)
  refine zan Tryd.func25 (by kernel_rfl) C25 (bl Z) ?_
  unfold zcO at h
  unfold A25
  dsimp only [zbc]
  refine sq <| rq O <| m Z <| nl <| nx <| sq <| rq O <| m Z <| nl <| nx <| Sem.own 3 1 Z (d := (OS 1 0 0)) (σ1 := [OB zah ([] : List Int)]) Z Z <| sq <| sq <| rq O <| m Z <| o (d := (.c (.fptr (zaa.enc p0) 0))) (zbo Z) Z <| o (d := (.c (.fptr (zaa.enc p0) 18))) (zau Z) Z <| o (d := (.c (.fptr (zaa.enc p0) 22))) (zau Z) Z <| o (d := (SL zai.enc p0.f_st.Allocs)) (zal Z Z) Z <| o (d := (I (p0.f_st.Allocs.length : Int))) (zaA Z) Z <| m Z <| nl <| nx <| Sem.block <| Sem.rounds (V := Int × (List Int)) (fun ((x2, y1) : Int × (List Int)) => [(0, (.c (.fptr (zaa.enc p0) 0))), (3, (OS 1 0 y1.length)), (12, (SL zai.enc p0.f_st.Allocs)), (13, (I (p0.f_st.Allocs.length : Int))), (14, (I x2))]) (fun ((x2, y1) : Int × (List Int)) => [OB zah y1]) (fun k v => zaV N p0 k v.1 v.2 = some r) N (0, ([] : List Int)) h (fun v h => by unfold zaV at h; cases h) ?_ (sS Z <| sE Z (by simp) <| sS Z <| sS Z <| sS Z <| sZ) Z
  intro kL0 v h
  obtain ⟨x2, y1⟩ := v
  try dsimp only at h ⊢
  unfold zaV at h
  unfold A25xl0
  refine sq <| rq O <| o (d := (B (decide (x2 < (p0.f_st.Allocs.length : Int))))) (bo Z) Z <| nl <| nx <| sq <| Sem.cond Z (fun c3 => ?_) (fun c3 => ?_)
  ·rw [if_pos c3] at h
   refine Sem.skip mix <| nx <| Sem.join (fun (y4 : (List Int)) => [(0, (.c (.fptr (zaa.enc p0) 0))), (3, (OS 1 0 y4.length)), (12, (SL zai.enc p0.f_st.Allocs)), (13, (I (p0.f_st.Allocs.length : Int))), (14, (I x2))]) (fun (y4 : (List Int)) => [OB zah y4]) (fun (y4 : (List Int)) => zb9 N x2 (zaV N p0 kL0) y4 = some r) ?_ ?_
   ·intro y4 h
    try dsimp only at h ⊢
    unfold zb9 at h
    refine rq O <| o (d := (I (IntKind.i64.wrap (x2 + 1)))) (bo Z) Z <| m Z <| nl ?_
    exact ⟨((IntKind.i64.wrap (x2 + 1)), y4), h, .same (sS Z <| sS Z <| sS Z <| sS Z <| sS Z <| sZ)⟩
   ·refine Sem.block <| sq <| rq O ?_
    obtain ⟨a5, e6, h⟩ := bs h
    refine o (zaF Z Z e6 Z) Z <| o (d := (ST (zai.enc a5))) (zal Z Z) Z <| o (d := (.ptr 1 0 6)) (σ1 := [OB zah y1, .cells [I 0, I 0, I 0, I 0, I 0, sn]]) (zaG Z Z) Z <| st (σ1 := [OB zah y1, cm (zai.enc a5)]) Z <| nl <| nx <| sq <| dq O <| m Z <| o (d := (.c (.fptr (zaa.enc p0) 0))) (zbo Z) Z <| o (d := (.c (.fptr (zaa.enc p0) 27))) (zau Z) Z <| o (d := (FM (fun (z : Int) => .lit (.int .i64 z)) p0.f_jobs)) (zal Z Z) Z <| o (d := (.ptr 1 0 6)) (zaf Z) Z <| l (d := (I a5.Job)) Z <| ?_
    cases g4 : mget p0.f_jobs a5.Job with
    | none =>
     rw [g4] at h
     dsimp only [oel] at h
     refine o (d := (.tup [I 0, B false])) (op_lookFN (g := (fun (z : Int) => .lit (.int .i64 z))) Z Z g4 Z) Z <| m Z <| o (zbw Z Z) Z <| o (zbw Z Z) Z <| m Z <| m Z <| nl ⟨by kernel_rfl, ?_⟩
     refine nx <| sq <| rq O <| m Z <| o (d := (B (!false))) (zbA Z Z Z Z) Z <| nl <| nx <| Sem.cond Z (fun c11 => ?_) (fun c11 => ?_)
     ·rw [if_pos c11] at h
      refine rq O <| m Z <| o (d := (.ptr 1 0 6)) (zaf Z) Z <| l (d := (I a5.Job)) Z <| o (d := (OS 1 2 1)) (σ1 := [OB zah y1, cm (zai.enc a5), OB zah ([a5.Job] : List Int)]) (zaL (f := zah) (l := ([a5.Job] : List Int)) (cs := ((([a5.Job] : List Int)).flatMap zah).map .c) (by kernel_rfl) Z Z (fun _ => Z) Z Z Z) Z <| ?_
      obtain ⟨z12, e13, h⟩ := bs h
      refine o (d := (OS 1 0 z12.length)) (σ1 := [OB zah z12, cm (zai.enc a5), OB zah ([a5.Job] : List Int)]) (zcU (f := zah) (fun _ => Z) Z Z Z Z (zeL (fun _ => Z) Z (by simp)) e13 Z Z Z) Z <| m Z <| nl <| nx ?_
      exact ⟨z12, h, .cut 1 (bl Z) (bl Z) (sS Z <| sS Z <| sS Z <| sS Z <| sS Z <| sZ) Z (zeN zeP Z)⟩
     ·rw [if_neg (zaH c11)] at h
      refine Sem.skip mix <| nx ?_
      exact ⟨y1, h, .cut 1 (bl Z) (bl Z) (sS Z <| sS Z <| sS Z <| sS Z <| sS Z <| sZ) Z (zeN zeP Z)⟩
    | some o7 =>
     rw [g4] at h
     dsimp only [oel] at h
     refine o (d := (.tup [I o7, B true])) (op_lookF (g := (fun (z : Int) => .lit (.int .i64 z))) Z Z g4 Z) Z <| m Z <| o (zbw Z Z) Z <| o (zbw Z Z) Z <| m Z <| m Z <| nl ⟨by kernel_rfl, ?_⟩
     refine nx <| sq <| rq O <| m Z <| o (d := (B (!true))) (zbA Z Z Z Z) Z <| nl <| nx <| Sem.cond Z (fun c8 => ?_) (fun c8 => ?_)
     ·rw [if_pos c8] at h
      refine rq O <| m Z <| o (d := (.ptr 1 0 6)) (zaf Z) Z <| l (d := (I a5.Job)) Z <| o (d := (OS 1 2 1)) (σ1 := [OB zah y1, cm (zai.enc a5), OB zah ([a5.Job] : List Int)]) (zaL (f := zah) (l := ([a5.Job] : List Int)) (cs := ((([a5.Job] : List Int)).flatMap zah).map .c) (by kernel_rfl) Z Z (fun _ => Z) Z Z Z) Z <| ?_
      obtain ⟨z9, e10, h⟩ := bs h
      refine o (d := (OS 1 0 z9.length)) (σ1 := [OB zah z9, cm (zai.enc a5), OB zah ([a5.Job] : List Int)]) (zcU (f := zah) (fun _ => Z) Z Z Z Z (zeL (fun _ => Z) Z (by simp)) e10 Z Z Z) Z <| m Z <| nl <| nx ?_
      exact ⟨z9, h, .cut 1 (bl Z) (bl Z) (sS Z <| sS Z <| sS Z <| sS Z <| sS Z <| sZ) Z (zeN zeP Z)⟩
     ·rw [if_neg (zaH c8)] at h
      refine Sem.skip mix <| nx ?_
      exact ⟨y1, h, .cut 1 (bl Z) (bl Z) (sS Z <| sS Z <| sS Z <| sS Z <| sS Z <| sZ) Z (zeN zeP Z)⟩
  ·rw [if_neg (zaH c3)] at h
   refine Sem.exit mix <| nx <| ⟨_, _, .refl, fun _ => ?_, fun hh => absurd Z hh⟩
   refine nx <| sq <| rq O <| m Z <| m Z <| nl <| nx <| Sem.ret mix ?_
   cases h
   exact ⟨.inr Z, _, _, Z, (frz_own (fun _ => Z) (bl Z) Z Z), DLe.of_nrm Z⟩
noncomputable def F25 (N : Nat) : List D → Option D := spec (A := zaa) (R := (List Int)) (fun a => [(.c (.fptr (zaa.enc a) 0))]) (fun r => (SL zah r)) (fun a => zcO N a)
theorem K25 (N : Nat) : ∀ ds r, F25 N ds = some r → za9 Tryd.prog 25 ds r := zav fun a r h => audit_checker_alloc_ok N a r h
theorem audit_checker_alloc_eq {N : Nat} {p0 : zaa} {r : (List Int)} (h : zcO N p0 = some r) : F25 N [(.c (.fptr (zaa.enc p0) 0))] = some (SL zah r) := zaw (a := p0) (ij1 (zfi zaa.inj)) h
noncomputable def S80 (N : Nat) : za1 := [(47, F47 N)]
theorem O80 (N : Nat) : zaO Tryd.prog (zat (S80 N)) := zap (zaj.cons (K47 N) <| zaj.nil)
theorem quota_Having_1xok (N : Nat) (p0 : zad) (p1 : Int) (r : Bool) (h : ze4 N p0 p1 = some r) : za9 Tryd.prog 80 [(ST (zad.enc p0)), (.c (.fptr (zah p1) 0))] (B r) := by
  have O := And.intro mix (O80 N)
  refine zan Tryd.func80 (by kernel_rfl) C80 (bl Z) ?_
  unfold ze4 at h
  unfold A80
  dsimp only [zbc]
  refine sq <| rq O <| o (d := (.ptr 0 0 18)) (σ1 := [cm (zad.enc p0)]) (zba Z Z Z Z) Z <| m Z <| nl <| nx <| Sem.join (fun (x3 : Bool) => [(3, (B x3))]) (fun (x3 : Bool) => [cm (zad.enc p0)]) (fun (x3 : Bool) => zeU N  x3 = some r) ?_ (rq O ?_)
  ·intro x3 h
   try dsimp only at h ⊢
   unfold zeU at h
   refine Sem.ret mix ?_
   cases h
   exact ⟨.inr Z, _, _, Z, Z, DLe.of_nrm Z⟩
  ·refine o (d := (.ptr 0 2 18)) (zaf Z) Z <| l (d := (I p0.Queue)) Z <| o (d := (I p1)) (zal Z Z) Z <| o (d := (B (p0.Queue == p1))) (bo Z) Z <| m Z <| ?_
   rcases bb (p0.Queue == p1) with g1 | g1
   ·rw [if_pos g1] at h
    refine q (d := (.ptr 0 10 18)) (zaf Z) g1 Z <| lo (d := (I p0.State)) g1 Z <| ?_
    obtain ⟨r4, e5, h⟩ := bs h
    refine q (d := (B r4)) (ca (zfa e5) Z) g1 Z <| pT g1 Z <| m Z <| nl ?_
    exact ⟨r4, h, .same (sS Z <| sZ)⟩
   ·rw [if_neg (zaH g1)] at h
    refine TrQ.know (v := false) 8 Z g1 <| TrQ.skipG 3 Z <| pF Z Z <| m Z <| nl ?_
    exact ⟨false, h, .same (sS Z <| sZ)⟩
noncomputable def F80 (N : Nat) : List D → Option D := spec (A := zad × Int) (R := Bool) (fun a => [(ST (zad.enc a.1)), (.c (.fptr (zah a.2) 0))]) (fun r => (B r)) (fun a => ze4 N a.1 a.2)
theorem K80 (N : Nat) : ∀ ds r, F80 N ds = some r → za9 Tryd.prog 80 ds r := zav fun a r h => quota_Having_1xok N a.1 a.2 r h
theorem quota_Having_1xeq {N : Nat} {p0 : zad} {p1 : Int} {r : Bool} (h : ze4 N p0 p1 = some r) : F80 N [(ST (zad.enc p0)), (.c (.fptr (zah p1) 0))] = some (B r) := zaw (a := (p0, p1)) (ij2 (zbx zad.inj) (zfi zcf)) h
noncomputable def S79s80 (N : Nat) : za1 := [(80, F80 N)]
theorem O79s80 (N : Nat) : zaO Tryd.prog (zat (S79s80 N)) := zap (zaj.cons (K80 N) <| zaj.nil)
theorem quota_count__quota_Having_1xok (N : Nat) (p0 : (List zad)) (p1c0 : Int) (r : Int) (h : zbN N p0 p1c0 = some r) : za9 Tryd.prog 79 [(SL zad.enc p0), (.c (.fn (.func 80) [] [.fptr (zah p1c0) 0]))] (I r) := by
  have O := And.intro mix (O79s80 N)
  refine zan Tryd.func79 (by kernel_rfl) C79 (bl Z) ?_
  unfold zbN at h
  unfold A79
  dsimp only [zbc]
  refine sq <| rq O <| m Z <| nl <| nx <| sq <| rq O <| m Z <| nl <| nx <| sq <| sq <| rq O <| m Z <| o (d := (I (p0.length : Int))) (zaA Z) Z <| m Z <| nl <| nx <| Sem.block <| Sem.rounds (V := Int × Int) (fun ((x1, x2) : Int × Int) => [(1, (.c (.fn (.func 80) [] [.fptr (zah p1c0) 0]))), (5, (I x1)), (8, (SL zad.enc p0)), (9, (I (p0.length : Int))), (10, (I x2))]) (fun ((x1, x2) : Int × Int) => []) (fun k v => zaM N p0 p1c0 k v.1 v.2 = some r) N (0, 0) h (fun v h => by unfold zaM at h; cases h) ?_ (sS Z <| sS Z <| sS Z <| sS Z <| sS Z <| sZ) Z
  intro kL0 v h
  obtain ⟨x1, x2⟩ := v
  try dsimp only at h ⊢
  unfold zaM at h
  unfold A79xl0
  refine sq <| rq O <| o (d := (B (decide (x2 < (p0.length : Int))))) (bo Z) Z <| nl <| nx <| sq <| Sem.cond Z (fun c3 => ?_) (fun c3 => ?_)
  ·rw [if_pos c3] at h
   refine Sem.skip mix <| nx <| Sem.join (fun (x4 : Int) => [(1, (.c (.fn (.func 80) [] [.fptr (zah p1c0) 0]))), (5, (I x4)), (8, (SL zad.enc p0)), (9, (I (p0.length : Int))), (10, (I x2))]) (fun (x4 : Int) => []) (fun (x4 : Int) => zbQ N x2 (zaM N p0 p1c0 kL0) x4 = some r) ?_ ?_
   ·intro x4 h
    try dsimp only at h ⊢
    unfold zbQ at h
    refine rq O <| o (d := (I (IntKind.i64.wrap (x2 + 1)))) (bo Z) Z <| m Z <| nl ?_
    exact ⟨(x4, (IntKind.i64.wrap (x2 + 1))), h, .same (sS Z <| sS Z <| sS Z <| sS Z <| sS Z <| sZ)⟩
   ·refine Sem.block <| sq <| rq O ?_
    obtain ⟨a5, e6, h⟩ := bs h
    refine o (zaF Z Z e6 Z) Z <| o (d := (ST (zad.enc a5))) (zal Z Z) Z <| o (d := (.ptr 0 0 18)) (σ1 := [.cells [I 0, I 0, I 0, I 0, I 0, I 0, I 0, I 0, I 0, sn, I 0, B false, B false, I 0, I 0, I 0, I 0, I 0]]) (zaG Z Z) Z <| st (σ1 := [cm (zad.enc a5)]) Z <| nl <| nx <| sq <| rq O <| m Z <| l (d := (ST (zad.enc a5))) Z <| ?_
    obtain ⟨r7, e8, h⟩ := bs h
    refine o (d := (B r7)) (zez Z Z (zaS Z Z Z (quota_Having_1xeq e8) Z)) Z <| nl <| nx <| Sem.cond Z (fun c9 => ?_) (fun c9 => ?_)
    ·rw [if_pos c9] at h
     refine rq O <| m Z <| o (d := (I (IntKind.i64.wrap (x1 + 1)))) (bo Z) Z <| m Z <| nl <| nx ?_
     exact ⟨(IntKind.i64.wrap (x1 + 1)), h, .cut 0 (bl Z) (bl Z) (sS Z <| sS Z <| sS Z <| sS Z <| sS Z <| sZ) Z Z⟩
    ·rw [if_neg (zaH c9)] at h
     refine Sem.skip mix <| nx ?_
     exact ⟨x1, h, .cut 0 (bl Z) (bl Z) (sS Z <| sS Z <| sS Z <| sS Z <| sS Z <| sZ) Z Z⟩
  ·rw [if_neg (zaH c3)] at h
   refine Sem.exit mix <| nx <| ⟨_, _, .refl, fun _ => ?_, fun hh => absurd Z hh⟩
   refine nx <| sq <| rq O <| m Z <| m Z <| nl <| nx <| Sem.ret mix ?_
   cases h
   exact ⟨.inr Z, _, _, Z, Z, DLe.of_nrm Z⟩
noncomputable def F79s80 (N : Nat) : List D → Option D := spec (A := (List zad) × Int) (R := Int) (fun a => [(SL zad.enc a.1), (.c (.fn (.func 80) [] [.fptr (zah a.2) 0]))]) (fun r => (I r)) (fun a => zbN N a.1 a.2)
theorem K79s80 (N : Nat) : ∀ ds r, F79s80 N ds = some r → za9 Tryd.prog 79 ds r := zav fun a r h => quota_count__quota_Having_1xok N a.1 a.2 r h
theorem quota_count__quota_Having_1xeq {N : Nat} {p0 : (List zad)} {p1c0 : Int} {r : Int} (h : zbN N p0 p1c0 = some r) : F79s80 N [(SL zad.enc p0), (.c (.fn (.func 80) [] [.fptr (zah p1c0) 0]))] = some (I r) := zaw (a := (p0, p1c0)) (by
  intro a b h
  obtain ⟨a0, a1⟩ := a
  obtain ⟨b0, b1⟩ := b
  have hh := h
  simp only [List.cons.injEq, and_true] at hh
  obtain ⟨h0, h1⟩ := hh
  have q0 := zeM zad.inj h0
  have q1 := h1
  simp only [D.c.injEq, C.fn.injEq, List.cons.injEq, C.fptr.injEq, true_and, and_true] at q1
  have q1a := q1
  have qq1a := zcf q1a
  rw [q0, qq1a]) h
noncomputable def S50 (N : Nat) : za1 := [(79, F79s80 N)]
theorem O50 (N : Nat) : zaO Tryd.prog (zat (S50 N)) := zap (zaj.cons (K79s80 N) <| zaj.nil)
theorem quota_Having_ok (N : Nat) (p0 : (List zad)) (p1 : Int) (r : Int) (h : zfe N p0 p1 = some r) : za9 Tryd.prog 50 [(SL zad.enc p0), I p1] (I r) := by
  have O := And.intro mix (O50 N)
  refine zan Tryd.func50 (by kernel_rfl) C50 (bl Z) ?_
  unfold zfe at h
  unfold A50
  dsimp only [zbc]
  refine sq <| rq O <| o (d := (.ptr 0 0 1)) (σ1 := [.cells [I p1]]) (zba Z Z Z Z) Z <| m Z <| nl <| nx <| sq <| rq O <| m Z <| o (d := (.fn (.func 80) [] [(.ptr 0 0 1)])) (zdz Z Z) Z <| ?_
  obtain ⟨r1, e2, h⟩ := bs h
  refine o (d := (I r1)) (op_call Z Z (callOrc_lend Z Z (zb2 Z (zb2 Z Z)) Z (quota_count__quota_Having_1xeq e2) Z)) Z <| m Z <| nl <| nx <| Sem.ret mix ?_
  cases h
  exact ⟨.inr Z, _, _, Z, Z, DLe.of_nrm Z⟩
noncomputable def F50 (N : Nat) : List D → Option D := spec (A := (List zad) × Int) (R := Int) (fun a => [(SL zad.enc a.1), I a.2]) (fun r => (I r)) (fun a => zfe N a.1 a.2)
theorem K50 (N : Nat) : ∀ ds r, F50 N ds = some r → za9 Tryd.prog 50 ds r := zav fun a r h => quota_Having_ok N a.1 a.2 r h
theorem quota_Having_eq {N : Nat} {p0 : (List zad)} {p1 : Int} {r : Int} (h : zfe N p0 p1 = some r) : F50 N [(SL zad.enc p0), I p1] = some (I r) := zaw (a := (p0, p1)) (ij2 (zeM zad.inj) zev) h
noncomputable def S26 (N : Nat) : za1 := [(50, F50 N)]
theorem O26 (N : Nat) : zaO Tryd.prog (zat (S26 N)) := zap (zaj.cons (K50 N) <| zaj.nil)
theorem audit_checker_queue_ok (N : Nat) (p0 : zaa) (r : (List Int)) (h : zcQ N p0 = some r) : za9 Tryd.prog 26 [(.c (.fptr (zaa.enc p0) 0))] (SL zah r) := by
  have O := And.intro mix (O26 N)
  refine zan Tryd.func26 (by kernel_rfl) C26 (bl Z) ?_
  unfold zcQ at h
  unfold A26
  dsimp only [zbc]
  refine sq <| rq O <| m Z <| nl <| nx <| sq <| rq O <| m Z <| nl <| nx <| Sem.own 3 1 Z (d := (OS 1 0 0)) (σ1 := [OB zah ([] : List Int)]) Z Z <| sq <| sq <| rq O <| m Z <| o (d := (.c (.fptr (zaa.enc p0) 0))) (zbo Z) Z <| o (d := (.c (.fptr (zaa.enc p0) 0))) (zau Z) Z <| o (d := (.c (.fptr (zaa.enc p0) 2))) (zau Z) Z <| o (d := (SL zaq.enc p0.f_s.Queues)) (zal Z Z) Z <| o (d := (I (p0.f_s.Queues.length : Int))) (zaA Z) Z <| m Z <| nl <| nx <| Sem.block <| Sem.rounds (V := Int × (List Int)) (fun ((x2, y1) : Int × (List Int)) => [(0, (.c (.fptr (zaa.enc p0) 0))), (3, (OS 1 0 y1.length)), (10, (SL zaq.enc p0.f_s.Queues)), (11, (I (p0.f_s.Queues.length : Int))), (12, (I x2))]) (fun ((x2, y1) : Int × (List Int)) => [OB zah y1]) (fun k v => zbg N p0 k v.1 v.2 = some r) N (0, ([] : List Int)) h (fun v h => by unfold zbg at h; cases h) ?_ (sS Z <| sE Z (by simp) <| sS Z <| sS Z <| sS Z <| sZ) Z
  intro kL0 v h
  obtain ⟨x2, y1⟩ := v
  try dsimp only at h ⊢
  unfold zbg at h
  unfold A26xl0
  refine sq <| rq O <| o (d := (B (decide (x2 < (p0.f_s.Queues.length : Int))))) (bo Z) Z <| nl <| nx <| sq <| Sem.cond Z (fun c3 => ?_) (fun c3 => ?_)
  ·rw [if_pos c3] at h
   refine Sem.skip mix <| nx <| Sem.join (fun (y4 : (List Int)) => [(0, (.c (.fptr (zaa.enc p0) 0))), (3, (OS 1 0 y4.length)), (10, (SL zaq.enc p0.f_s.Queues)), (11, (I (p0.f_s.Queues.length : Int))), (12, (I x2))]) (fun (y4 : (List Int)) => [OB zah y4]) (fun (y4 : (List Int)) => zdh N x2 (zbg N p0 kL0) y4 = some r) ?_ ?_
   ·intro y4 h
    try dsimp only at h ⊢
    unfold zdh at h
    refine rq O <| o (d := (I (IntKind.i64.wrap (x2 + 1)))) (bo Z) Z <| m Z <| nl ?_
    exact ⟨((IntKind.i64.wrap (x2 + 1)), y4), h, .same (sS Z <| sS Z <| sS Z <| sS Z <| sS Z <| sZ)⟩
   ·refine Sem.block <| sq <| rq O <| m Z <| ?_
    obtain ⟨a5, e6, h⟩ := bs h
    refine o (zaF Z Z e6 Z) Z <| o (d := (ST (zaq.enc a5))) (zal Z Z) Z <| o (d := (.ptr 1 0 6)) (σ1 := [OB zah y1, .cells [I 0, sn, I 0, I 0, I 0, I 0]]) (zaG Z Z) Z <| m Z <| st (σ1 := [OB zah y1, cm (zaq.enc a5)]) Z <| nl <| nx <| sq <| dq O <| m Z <| o (d := (.c (.fptr (zaa.enc p0) 0))) (zbo Z) Z <| o (d := (.c (.fptr (zaa.enc p0) 18))) (zau Z) Z <| o (d := (.c (.fptr (zaa.enc p0) 21))) (zau Z) Z <| o (d := (SL zad.enc p0.f_st.Jobs)) (zal Z Z) Z <| m Z <| ?_
    obtain ⟨r7, e8, h⟩ := bs h
    refine o (d := (I r7)) (ca (quota_Having_eq e8) Z) Z <| o (d := (.ptr 1 3 6)) (zaf Z) Z <| l (d := (I a5.MaxRun)) Z <| o (d := (B (decide (r7 > a5.MaxRun)))) (bo Z) Z <| nl ⟨by kernel_rfl, ?_⟩
    refine nx <| Sem.cond Z (fun c9 => ?_) (fun c9 => ?_)
    ·rw [if_pos c9] at h
     refine rq O <| m Z <| m Z <| o (d := (OS 1 2 1)) (σ1 := [OB zah y1, cm (zaq.enc a5), OB zah ([x2] : List Int)]) (zaL (f := zah) (l := ([x2] : List Int)) (cs := ((([x2] : List Int)).flatMap zah).map .c) (by kernel_rfl) Z Z (fun _ => Z) Z Z Z) Z <| ?_
     obtain ⟨z10, e11, h⟩ := bs h
     refine o (d := (OS 1 0 z10.length)) (σ1 := [OB zah z10, cm (zaq.enc a5), OB zah ([x2] : List Int)]) (zcU (f := zah) (fun _ => Z) Z Z Z Z (zeL (fun _ => Z) Z (by simp)) e11 Z Z Z) Z <| m Z <| nl <| nx ?_
     exact ⟨z10, h, .cut 1 (bl Z) (bl Z) (sS Z <| sS Z <| sS Z <| sS Z <| sS Z <| sZ) Z (zeN zeP Z)⟩
    ·rw [if_neg (zaH c9)] at h
     refine Sem.skip mix <| nx ?_
     exact ⟨y1, h, .cut 1 (bl Z) (bl Z) (sS Z <| sS Z <| sS Z <| sS Z <| sS Z <| sZ) Z (zeN zeP Z)⟩
  ·rw [if_neg (zaH c3)] at h
   refine Sem.exit mix <| nx <| ⟨_, _, .refl, fun _ => ?_, fun hh => absurd Z hh⟩
   refine nx <| sq <| rq O <| m Z <| m Z <| nl <| nx <| Sem.ret mix ?_
   cases h
   exact ⟨.inr Z, _, _, Z, (frz_own (fun _ => Z) (bl Z) Z Z), DLe.of_nrm Z⟩
noncomputable def F26 (N : Nat) : List D → Option D := spec (A := zaa) (R := (List Int)) (fun a => [(.c (.fptr (zaa.enc a) 0))]) (fun r => (SL zah r)) (fun a => zcQ N a)
theorem K26 (N : Nat) : ∀ ds r, F26 N ds = some r → za9 Tryd.prog 26 ds r := zav fun a r h => audit_checker_queue_ok N a r h
theorem audit_checker_queue_eq {N : Nat} {p0 : zaa} {r : (List Int)} (h : zcQ N p0 = some r) : F26 N [(.c (.fptr (zaa.enc p0) 0))] = some (SL zah r) := zaw (a := p0) (ij1 (zfi zaa.inj)) h
noncomputable def S81 (N : Nat) : za1 := [(47, F47 N)]
theorem O81 (N : Nat) : zaO Tryd.prog (zat (S81 N)) := zap (zaj.cons (K47 N) <| zaj.nil)
theorem quota_Of_1xok (N : Nat) (p0 : zad) (p1 : Int) (p2 : Int) (r : Bool) (h : quota_Of_1 N p0 p1 p2 = some r) : za9 Tryd.prog 81 [(ST (zad.enc p0)), (.c (.fptr (zah p1) 0)), (.c (.fptr (zah p2) 0))] (B r) := by
  have O := And.intro mix (O81 N)
  refine zan Tryd.func81 (by kernel_rfl) C81 (bl Z) ?_
  unfold quota_Of_1 at h
  unfold A81
  dsimp only [zbc]
  refine sq <| rq O <| o (d := (.ptr 0 0 18)) (σ1 := [cm (zad.enc p0)]) (zba Z Z Z Z) Z <| m Z <| nl <| nx <| Sem.join (fun (x3 : Bool) => [(4, (B x3))]) (fun (x3 : Bool) => [cm (zad.enc p0)]) (fun (x3 : Bool) => zfh N  x3 = some r) ?_ (rq O ?_)
  ·intro x3 h
   try dsimp only at h ⊢
   unfold zfh at h
   refine Sem.ret mix ?_
   cases h
   exact ⟨.inr Z, _, _, Z, Z, DLe.of_nrm Z⟩
  ·refine o (d := (.ptr 0 2 18)) (zaf Z) Z <| l (d := (I p0.Queue)) Z <| o (d := (I p1)) (zal Z Z) Z <| o (d := (B (p0.Queue == p1))) (bo Z) Z <| m Z <| ?_
   rcases bb (p0.Queue == p1) with g1 | g1
   ·rw [if_pos g1] at h
    refine q (d := (.ptr 0 1 18)) (zaf Z) g1 Z <| lo (d := (I p0.User)) g1 Z <| q (d := (I p2)) (zal Z Z) g1 Z <| q (d := (B (p0.User == p2))) (bo Z) g1 Z <| pT g1 Z <| m Z <| ?_
    rcases bb (p0.User == p2) with g2 | g2
    ·rw [if_pos g2] at h
     refine q (d := (.ptr 0 10 18)) (zaf Z) g2 Z <| lo (d := (I p0.State)) g2 Z <| ?_
     obtain ⟨r4, e5, h⟩ := bs h
     refine q (d := (B r4)) (ca (zfa e5) Z) g2 Z <| pT g2 Z <| m Z <| nl ?_
     exact ⟨r4, h, .same (sS Z <| sZ)⟩
    ·rw [if_neg (zaH g2)] at h
     refine TrQ.know (v := false) 15 Z g2 <| TrQ.skipG 3 Z <| pF Z Z <| m Z <| nl ?_
     exact ⟨false, h, .same (sS Z <| sZ)⟩
   ·rw [if_neg (zaH g1)] at h
    refine TrQ.know (v := false) 9 Z g1 <| TrQ.skipG 4 Z <| pF Z Z <| m Z <| TrQ.skipG 3 Z <| pF Z Z <| m Z <| nl ?_
    exact ⟨false, h, .same (sS Z <| sZ)⟩
noncomputable def F81 (N : Nat) : List D → Option D := spec (A := zad × Int × Int) (R := Bool) (fun a => [(ST (zad.enc a.1)), (.c (.fptr (zah a.2.1) 0)), (.c (.fptr (zah a.2.2) 0))]) (fun r => (B r)) (fun a => quota_Of_1 N a.1 a.2.1 a.2.2)
theorem K81 (N : Nat) : ∀ ds r, F81 N ds = some r → za9 Tryd.prog 81 ds r := zav fun a r h => quota_Of_1xok N a.1 a.2.1 a.2.2 r h
theorem quota_Of_1xeq {N : Nat} {p0 : zad} {p1 : Int} {p2 : Int} {r : Bool} (h : quota_Of_1 N p0 p1 p2 = some r) : F81 N [(ST (zad.enc p0)), (.c (.fptr (zah p1) 0)), (.c (.fptr (zah p2) 0))] = some (B r) := zaw (a := (p0, p1, p2)) (ij3 (zbx zad.inj) (zfi zcf) (zfi zcf)) h
noncomputable def S79s81 (N : Nat) : za1 := [(81, F81 N)]
theorem O79s81 (N : Nat) : zaO Tryd.prog (zat (S79s81 N)) := zap (zaj.cons (K81 N) <| zaj.nil)
theorem quota_count__quota_Of_1xok (N : Nat) (p0 : (List zad)) (p1c0 : Int) (p1c1 : Int) (r : Int) (h : zct N p0 p1c0 p1c1 = some r) : za9 Tryd.prog 79 [(SL zad.enc p0), (.c (.fn (.func 81) [] [.fptr (zah p1c0) 0, .fptr (zah p1c1) 0]))] (I r) := by
  have O := And.intro mix (O79s81 N)
  refine zan Tryd.func79 (by kernel_rfl) C79 (bl Z) ?_
  unfold zct at h
  unfold A79
  dsimp only [zbc]
  refine sq <| rq O <| m Z <| nl <| nx <| sq <| rq O <| m Z <| nl <| nx <| sq <| sq <| rq O <| m Z <| o (d := (I (p0.length : Int))) (zaA Z) Z <| m Z <| nl <| nx <| Sem.block <| Sem.rounds (V := Int × Int) (fun ((x1, x2) : Int × Int) => [(1, (.c (.fn (.func 81) [] [.fptr (zah p1c0) 0, .fptr (zah p1c1) 0]))), (5, (I x1)), (8, (SL zad.enc p0)), (9, (I (p0.length : Int))), (10, (I x2))]) (fun ((x1, x2) : Int × Int) => []) (fun k v => zaT N p0 p1c0 p1c1 k v.1 v.2 = some r) N (0, 0) h (fun v h => by unfold zaT at h; cases h) ?_ (sS Z <| sS Z <| sS Z <| sS Z <| sS Z <| sZ) Z
  intro kL0 v h
  obtain ⟨x1, x2⟩ := v
  try dsimp only at h ⊢
  unfold zaT at h
  unfold A79xl0
  refine sq <| rq O <| o (d := (B (decide (x2 < (p0.length : Int))))) (bo Z) Z <| nl <| nx <| sq <| Sem.cond Z (fun c3 => ?_) (fun c3 => ?_)
  ·rw [if_pos c3] at h
   refine Sem.skip mix <| nx <| Sem.join (fun (x4 : Int) => [(1, (.c (.fn (.func 81) [] [.fptr (zah p1c0) 0, .fptr (zah p1c1) 0]))), (5, (I x4)), (8, (SL zad.enc p0)), (9, (I (p0.length : Int))), (10, (I x2))]) (fun (x4 : Int) => []) (fun (x4 : Int) => zcv N x2 (zaT N p0 p1c0 p1c1 kL0) x4 = some r) ?_ ?_
   ·intro x4 h
    try dsimp only at h ⊢
    unfold zcv at h
    refine rq O <| o (d := (I (IntKind.i64.wrap (x2 + 1)))) (bo Z) Z <| m Z <| nl ?_
    exact ⟨(x4, (IntKind.i64.wrap (x2 + 1))), h, .same (sS Z <| sS Z <| sS Z <| sS Z <| sS Z <| sZ)⟩
   ·refine Sem.block <| sq <| rq O ?_
    obtain ⟨a5, e6, h⟩ := bs h
    refine o (zaF Z Z e6 Z) Z <| o (d := (ST (zad.enc a5))) (zal Z Z) Z <| o (d := (.ptr 0 0 18)) (σ1 := [.cells [I 0, I 0, I 0, I 0, I 0, I 0, I 0, I 0, I 0, sn, I 0, B false, B false, I 0, I 0, I 0, I 0, I 0]]) (zaG Z Z) Z <| st (σ1 := [cm (zad.enc a5)]) Z <| nl <| nx <| sq <| rq O <| m Z <| l (d := (ST (zad.enc a5))) Z <| ?_
    obtain ⟨r7, e8, h⟩ := bs h
    refine o (d := (B r7)) (zez Z Z (zaS Z Z Z (quota_Of_1xeq e8) Z)) Z <| nl <| nx <| Sem.cond Z (fun c9 => ?_) (fun c9 => ?_)
    ·rw [if_pos c9] at h
     refine rq O <| m Z <| o (d := (I (IntKind.i64.wrap (x1 + 1)))) (bo Z) Z <| m Z <| nl <| nx ?_
     exact ⟨(IntKind.i64.wrap (x1 + 1)), h, .cut 0 (bl Z) (bl Z) (sS Z <| sS Z <| sS Z <| sS Z <| sS Z <| sZ) Z Z⟩
    ·rw [if_neg (zaH c9)] at h
     refine Sem.skip mix <| nx ?_
     exact ⟨x1, h, .cut 0 (bl Z) (bl Z) (sS Z <| sS Z <| sS Z <| sS Z <| sS Z <| sZ) Z Z⟩
  ·rw [if_neg (zaH c3)] at h
   refine Sem.exit mix <| nx <| ⟨_, _, .refl, fun _ => ?_, fun hh => absurd Z hh⟩
   refine nx <| sq <| rq O <| m Z <| m Z <| nl <| nx <| Sem.ret mix ?_
   cases h
   exact ⟨.inr Z, _, _, Z, Z, DLe.of_nrm Z⟩
noncomputable def F79s81 (N : Nat) : List D → Option D := spec (A := (List zad) × Int × Int) (R := Int) (fun a => [(SL zad.enc a.1), (.c (.fn (.func 81) [] [.fptr (zah a.2.1) 0, .fptr (zah a.2.2) 0]))]) (fun r => (I r)) (fun a => zct N a.1 a.2.1 a.2.2)
theorem K79s81 (N : Nat) : ∀ ds r, F79s81 N ds = some r → za9 Tryd.prog 79 ds r := zav fun a r h => quota_count__quota_Of_1xok N a.1 a.2.1 a.2.2 r h
theorem quota_count__quota_Of_1xeq {N : Nat} {p0 : (List zad)} {p1c0 : Int} {p1c1 : Int} {r : Int} (h : zct N p0 p1c0 p1c1 = some r) : F79s81 N [(SL zad.enc p0), (.c (.fn (.func 81) [] [.fptr (zah p1c0) 0, .fptr (zah p1c1) 0]))] = some (I r) := zaw (a := (p0, p1c0, p1c1)) (by
  intro a b h
  obtain ⟨a0, a1, a2⟩ := a
  obtain ⟨b0, b1, b2⟩ := b
  have hh := h
  simp only [List.cons.injEq, and_true] at hh
  obtain ⟨h0, h1⟩ := hh
  have q0 := zeM zad.inj h0
  have q1 := h1
  simp only [D.c.injEq, C.fn.injEq, List.cons.injEq, C.fptr.injEq, true_and, and_true] at q1
  obtain ⟨q1a, q1b⟩ := q1
  have qq1a := zcf q1a
  have qq1b := zcf q1b
  rw [q0, qq1a, qq1b]) h
noncomputable def S51 (N : Nat) : za1 := [(79, F79s81 N)]
theorem O51 (N : Nat) : zaO Tryd.prog (zat (S51 N)) := zap (zaj.cons (K79s81 N) <| zaj.nil)
theorem quota_Of_ok (N : Nat) (p0 : (List zad)) (p1 : Int) (p2 : Int) (r : Int) (h : quota_Of N p0 p1 p2 = some r) : za9 Tryd.prog 51 [(SL zad.enc p0), I p1, I p2] (I r) := by
  have O := And.intro mix (O51 N)
  refine zan Tryd.func51 (by kernel_rfl) C51 (bl Z) ?_
  unfold quota_Of at h
  unfold A51
  dsimp only [zbc]
  refine sq <| rq O <| o (d := (.ptr 0 0 1)) (σ1 := [.cells [I p1]]) (zba Z Z Z Z) Z <| o (d := (.ptr 1 0 1)) (σ1 := [.cells [I p1], .cells [I p2]]) (zba Z Z Z Z) Z <| m Z <| nl <| nx <| sq <| rq O <| m Z <| o (d := (.fn (.func 81) [] [(.ptr 0 0 1), (.ptr 1 0 1)])) (zdz Z Z) Z <| ?_
  obtain ⟨r1, e2, h⟩ := bs h
  refine o (d := (I r1)) (op_call Z Z (callOrc_lend Z Z (zb2 Z (zb2 Z Z)) Z (quota_count__quota_Of_1xeq e2) Z)) Z <| m Z <| nl <| nx <| Sem.ret mix ?_
  cases h
  exact ⟨.inr Z, _, _, Z, Z, DLe.of_nrm Z⟩
noncomputable def F51 (N : Nat) : List D → Option D := spec (A := (List zad) × Int × Int) (R := Int) (fun a => [(SL zad.enc a.1), I a.2.1, I a.2.2]) (fun r => (I r)) (fun a => quota_Of N a.1 a.2.1 a.2.2)
theorem K51 (N : Nat) : ∀ ds r, F51 N ds = some r → za9 Tryd.prog 51 ds r := zav fun a r h => quota_Of_ok N a.1 a.2.1 a.2.2 r h
theorem quota_Of_eq {N : Nat} {p0 : (List zad)} {p1 : Int} {p2 : Int} {r : Int} (h : quota_Of N p0 p1 p2 = some r) : F51 N [(SL zad.enc p0), I p1, I p2] = some (I r) := zaw (a := (p0, p1, p2)) (ij3 (zeM zad.inj) zev zev) h
noncomputable def S27 (N : Nat) : za1 := [(51, F51 N)]
theorem O27 (N : Nat) : zaO Tryd.prog (zat (S27 N)) := zap (zaj.cons (K51 N) <| zaj.nil)
theorem audit_checker_user_ok (N : Nat) (p0 : zaa) (r : (List Int)) (h : zdT N p0 = some r) : za9 Tryd.prog 27 [(.c (.fptr (zaa.enc p0) 0))] (SL zah r) := by
  have O := And.intro mix (O27 N)
  refine zan Tryd.func27 (by kernel_rfl) C27 (bl Z) ?_
  unfold zdT at h
  unfold A27
  dsimp only [zbc]
  refine sq <| rq O <| m Z <| nl <| nx <| sq <| rq O <| m Z <| nl <| nx <| Sem.own 3 1 Z (d := (OS 1 0 0)) (σ1 := [OB zah ([] : List Int)]) Z Z <| sq <| sq <| rq O <| m Z <| o (d := (.c (.fptr (zaa.enc p0) 0))) (zbo Z) Z <| o (d := (.c (.fptr (zaa.enc p0) 0))) (zau Z) Z <| o (d := (.c (.fptr (zaa.enc p0) 2))) (zau Z) Z <| o (d := (SL zaq.enc p0.f_s.Queues)) (zal Z Z) Z <| o (d := (I (p0.f_s.Queues.length : Int))) (zaA Z) Z <| m Z <| nl <| nx <| Sem.block <| Sem.rounds (V := Int × (List Int)) (fun ((x2, y1) : Int × (List Int)) => [(0, (.c (.fptr (zaa.enc p0) 0))), (3, (OS 1 0 y1.length)), (11, (SL zaq.enc p0.f_s.Queues)), (12, (I (p0.f_s.Queues.length : Int))), (13, (I x2))]) (fun ((x2, y1) : Int × (List Int)) => [OB zah y1]) (fun k v => zbn N p0 k v.1 v.2 = some r) N (0, ([] : List Int)) h (fun v h => by unfold zbn at h; cases h) ?_ (sS Z <| sE Z (by simp) <| sS Z <| sS Z <| sS Z <| sZ) Z
  intro kL0 v h
  obtain ⟨x2, y1⟩ := v
  try dsimp only at h ⊢
  unfold zbn at h
  unfold A27xl1
  refine sq <| rq O <| o (d := (B (decide (x2 < (p0.f_s.Queues.length : Int))))) (bo Z) Z <| nl <| nx <| sq <| Sem.cond Z (fun c3 => ?_) (fun c3 => ?_)
  ·rw [if_pos c3] at h
   refine Sem.skip mix <| nx <| Sem.join (fun (y4 : (List Int)) => [(0, (.c (.fptr (zaa.enc p0) 0))), (3, (OS 1 0 y4.length)), (11, (SL zaq.enc p0.f_s.Queues)), (12, (I (p0.f_s.Queues.length : Int))), (13, (I x2))]) (fun (y4 : (List Int)) => [OB zah y4]) (fun (y4 : (List Int)) => zcV N x2 (zbn N p0 kL0) y4 = some r) ?_ ?_
   ·intro y4 h
    try dsimp only at h ⊢
    unfold zcV at h
    refine rq O <| o (d := (I (IntKind.i64.wrap (x2 + 1)))) (bo Z) Z <| m Z <| nl ?_
    exact ⟨((IntKind.i64.wrap (x2 + 1)), y4), h, .same (sS Z <| sS Z <| sS Z <| sS Z <| sS Z <| sZ)⟩
   ·refine Sem.block <| sq <| rq O <| m Z <| ?_
    obtain ⟨a5, e6, h⟩ := bs h
    refine o (zaF Z Z e6 Z) Z <| o (d := (ST (zaq.enc a5))) (zal Z Z) Z <| o (d := (.ptr 1 0 6)) (σ1 := [OB zah y1, .cells [I 0, sn, I 0, I 0, I 0, I 0]]) (zaG Z Z) Z <| m Z <| st (σ1 := [OB zah y1, cm (zaq.enc a5)]) Z <| nl <| nx <| sq <| rq O <| m Z <| nl <| nx <| Sem.block <| Sem.rounds (V := Int) (fun (x7 : Int) => [(0, (.c (.fptr (zaa.enc p0) 0))), (3, (OS 1 0 y1.length)), (4, (I x2)), (5, (.ptr 1 0 6)), (11, (SL zaq.enc p0.f_s.Queues)), (12, (I (p0.f_s.Queues.length : Int))), (13, (I x2)), (18, (I x7))]) (fun (x7 : Int) => [OB zah y1, cm (zaq.enc a5)]) (fun k v => zch N p0 y1 x2 a5 (zbn N p0 kL0) k v = some r) N 0 h (fun v h => by unfold zch at h; cases h) ?_ (sS Z <| sS Z <| sS Z <| sS Z <| sS Z <| sS Z <| sS Z <| sS Z <| sZ) Z
    intro kL2 x7 h
    try dsimp only at h ⊢
    unfold zch at h
    unfold A27xl0
    refine sq <| rq O <| o (d := (B (decide (x7 < 8)))) (bo Z) Z <| nl <| nx <| sq <| Sem.cond Z (fun c8 => ?_) (fun c8 => ?_)
    ·rw [if_pos c8] at h
     refine Sem.skip mix <| nx <| sq <| Sem.block <| sq <| rq O <| m Z <| m Z <| nl <| nx <| sq <| dq O <| m Z <| o (d := (.c (.fptr (zaa.enc p0) 0))) (zbo Z) Z <| o (d := (.c (.fptr (zaa.enc p0) 18))) (zau Z) Z <| o (d := (.c (.fptr (zaa.enc p0) 21))) (zau Z) Z <| o (d := (SL zad.enc p0.f_st.Jobs)) (zal Z Z) Z <| m Z <| m Z <| ?_
     obtain ⟨r9, e10, h⟩ := bs h
     refine o (d := (I r9)) (ca (quota_Of_eq e10) Z) Z <| o (d := (.ptr 1 4 6)) (zaf Z) Z <| l (d := (I a5.MaxUser)) Z <| o (d := (B (decide (r9 > a5.MaxUser)))) (bo Z) Z <| nl ⟨by kernel_rfl, ?_⟩
     refine nx <| Sem.cond Z (fun c11 => ?_) (fun c11 => ?_)
     ·rw [if_pos c11] at h
      refine sq <| rq O <| m Z <| m Z <| o (d := (OS 1 2 1)) (σ1 := [OB zah y1, cm (zaq.enc a5), OB zah ([x2] : List Int)]) (zaL (f := zah) (l := ([x2] : List Int)) (cs := ((([x2] : List Int)).flatMap zah).map .c) (by kernel_rfl) Z Z (fun _ => Z) Z Z Z) Z <| ?_
      obtain ⟨z12, e13, h⟩ := bs h
      refine o (d := (OS 1 0 z12.length)) (σ1 := [OB zah z12, cm (zaq.enc a5), OB zah ([x2] : List Int)]) (zcU (f := zah) (fun _ => Z) Z Z Z Z (zeL (fun _ => Z) Z (by simp)) e13 Z Z Z) Z <| m Z <| nl <| nx <| Sem.exit mix <| ⟨_, _, .refl, fun hh => absurd hh (by decide), fun _ => ?_⟩
      refine nx <| ⟨_, _, .refl, fun _ => ?_, fun hh => absurd Z hh⟩
      refine nx ?_
      exact ⟨z12, h, .cut 1 (bl Z) (bl Z) (sS Z <| sS Z <| sS Z <| sS Z <| sS Z <| sZ) Z (zeN zeP Z)⟩
     ·rw [if_neg (zaH c11)] at h
      refine Sem.skip mix <| nx <| nx <| rq O <| o (d := (I (IntKind.i64.wrap (x7 + 1)))) (bo Z) Z <| m Z <| nl ?_
      exact ⟨(IntKind.i64.wrap (x7 + 1)), h, .same (sS Z <| sS Z <| sS Z <| sS Z <| sS Z <| sS Z <| sS Z <| sS Z <| sZ)⟩
    ·rw [if_neg (zaH c8)] at h
     refine Sem.exit mix <| nx <| ⟨_, _, .refl, fun _ => ?_, fun hh => absurd Z hh⟩
     refine nx ?_
     exact ⟨y1, h, .cut 1 (bl Z) (bl Z) (sS Z <| sS Z <| sS Z <| sS Z <| sS Z <| sZ) Z (zeN zeP Z)⟩
  ·rw [if_neg (zaH c3)] at h
   refine Sem.exit mix <| nx <| ⟨_, _, .refl, fun _ => ?_, fun hh => absurd Z hh⟩
   refine nx <| sq <| rq O <| m Z <| m Z <| nl <| nx <| Sem.ret mix ?_
   cases h
   exact ⟨.inr Z, _, _, Z, (frz_own (fun _ => Z) (bl Z) Z Z), DLe.of_nrm Z⟩
noncomputable def F27 (N : Nat) : List D → Option D := spec (A := zaa) (R := (List Int)) (fun a => [(.c (.fptr (zaa.enc a) 0))]) (fun r => (SL zah r)) (fun a => zdT N a)
theorem K27 (N : Nat) : ∀ ds r, F27 N ds = some r → za9 Tryd.prog 27 ds r := zav fun a r h => audit_checker_user_ok N a r h
theorem audit_checker_user_eq {N : Nat} {p0 : zaa} {r : (List Int)} (h : zdT N p0 = some r) : F27 N [(.c (.fptr (zaa.enc p0) 0))] = some (SL zah r) := zaw (a := p0) (ij1 (zfi zaa.inj)) h
noncomputable def S54 (N : Nat) : za1 := []
theorem O54 (N : Nat) : zaO Tryd.prog (zat (S54 N)) := zap (zaj.nil)
theorem audit_checker_after_1xok (N : Nat) (p0 : za4) (p1 : zaa) (r : Bool) (h : zcW N p0 p1 = some r) : za9 Tryd.prog 54 [(ST (za4.enc p0)), (.c (.fptr ((encP zaa.enc) p1) 0))] (B r) := by
  have O := And.intro mix (O54 N)
  refine zan Tryd.func54 (by kernel_rfl) C54 (bl Z) ?_
  unfold zcW at h
  unfold A54
  dsimp only [zbc]
  refine sq <| rq O <| o (d := (.ptr 0 0 2)) (σ1 := [cm (za4.enc p0)]) (zba Z Z Z Z) Z <| m Z <| nl <| nx <| sq <| dq O <| o (d := (.c (.fptr (zaa.enc p1) 0))) (zal Z Z) Z <| o (d := (.c (.fptr (zaa.enc p1) 0))) (zbo Z) Z <| o (d := (.c (.fptr (zaa.enc p1) 27))) (zau Z) Z <| o (d := (FM (fun (z : Int) => .lit (.int .i64 z)) p1.f_jobs)) (zal Z Z) Z <| o (d := (.ptr 0 0 2)) (zaf Z) Z <| l (d := (I p0.Job)) Z <| ?_
  cases g1 : mget p1.f_jobs p0.Job with
  | none =>
   rw [g1] at h
   dsimp only [oel] at h
   refine o (d := (.tup [I 0, B false])) (op_lookFN (g := (fun (z : Int) => .lit (.int .i64 z))) Z Z g1 Z) Z <| m Z <| o (zbw Z Z) Z <| o (zbw Z Z) Z <| m Z <| m Z <| nl ⟨by kernel_rfl, ?_⟩
   refine nx <| sq <| rq O <| m Z <| o (d := (B (!false))) (zbA Z Z Z Z) Z <| m Z <| nl <| nx <| Sem.ret mix ?_
   cases h
   exact ⟨.inr Z, _, _, Z, Z, DLe.of_nrm Z⟩
  | some o1 =>
   rw [g1] at h
   dsimp only [oel] at h
   refine o (d := (.tup [I o1, B true])) (op_lookF (g := (fun (z : Int) => .lit (.int .i64 z))) Z Z g1 Z) Z <| m Z <| o (zbw Z Z) Z <| o (zbw Z Z) Z <| m Z <| m Z <| nl ⟨by kernel_rfl, ?_⟩
   refine nx <| sq <| rq O <| m Z <| o (d := (B (!true))) (zbA Z Z Z Z) Z <| m Z <| nl <| nx <| Sem.ret mix ?_
   cases h
   exact ⟨.inr Z, _, _, Z, Z, DLe.of_nrm Z⟩
noncomputable def F54 (N : Nat) : List D → Option D := spec (A := za4 × zaa) (R := Bool) (fun a => [(ST (za4.enc a.1)), (.c (.fptr ((encP zaa.enc) a.2) 0))]) (fun r => (B r)) (fun a => zcW N a.1 a.2)
theorem K54 (N : Nat) : ∀ ds r, F54 N ds = some r → za9 Tryd.prog 54 ds r := zav fun a r h => audit_checker_after_1xok N a.1 a.2 r h
theorem audit_checker_after_1xeq {N : Nat} {p0 : za4} {p1 : zaa} {r : Bool} (h : zcW N p0 p1 = some r) : F54 N [(ST (za4.enc p0)), (.c (.fptr ((encP zaa.enc) p1) 0))] = some (B r) := zaw (a := (p0, p1)) (ij2 (zbx za4.inj) (zfi (encP_inj zaa.inj))) h
noncomputable def S82s54 (N : Nat) : za1 := [(54, F54 N)]
theorem O82s54 (N : Nat) : zaO Tryd.prog (zat (S82s54 N)) := zap (zaj.cons (K54 N) <| zaj.nil)
theorem zdm (N : Nat) (p0 : (List za4)) (p1c0 : zaa) (r : Int) (h : zay N p0 p1c0 = some r) : za9 Tryd.prog 82 [(SL za4.enc p0), (.c (.fn (.func 54) [] [.fptr ((encP zaa.enc) p1c0) 0]))] (I r) := by
  have O := And.intro mix (O82s54 N)
  refine zan Tryd.func82 (by kernel_rfl) C82 (bl Z) ?_
  unfold zay at h
  unfold A82
  dsimp only [zbc]
  refine sq <| rq O <| m Z <| nl <| nx <| sq <| sq <| rq O <| m Z <| o (d := (I (p0.length : Int))) (zaA Z) Z <| m Z <| nl <| nx <| Sem.block <| Sem.rounds (V := Int) (fun (x1 : Int) => [(0, (SL za4.enc p0)), (1, (.c (.fn (.func 54) [] [.fptr ((encP zaa.enc) p1c0) 0]))), (7, (I (p0.length : Int))), (8, (I x1))]) (fun (x1 : Int) => []) (fun k v => zas N p0 p1c0 k v = some r) N 0 h (fun v h => by unfold zas at h; cases h) ?_ (sS Z <| sS Z <| sS Z <| sS Z <| sZ) Z
  intro kL0 x1 h
  try dsimp only at h ⊢
  unfold zas at h
  unfold A82xl0
  refine sq <| rq O <| o (d := (B (decide (x1 < (p0.length : Int))))) (bo Z) Z <| nl <| nx <| sq <| Sem.cond Z (fun c2 => ?_) (fun c2 => ?_)
  ·rw [if_pos c2] at h
   refine Sem.skip mix <| nx <| sq <| Sem.block <| sq <| rq O <| m Z <| m Z <| nl <| nx <| sq <| rq O <| m Z <| m Z <| m Z <| ?_
   obtain ⟨a3, e4, h⟩ := bs h
   refine o (zaF Z Z e4 Z) Z <| o (d := (ST (za4.enc a3))) (zal Z Z) Z <| ?_
   obtain ⟨r5, e6, h⟩ := bs h
   refine o (d := (B r5)) (zez Z Z (zaS Z Z Z (audit_checker_after_1xeq e6) Z)) Z <| nl <| nx <| Sem.cond Z (fun c7 => ?_) (fun c7 => ?_)
   ·rw [if_pos c7] at h
    refine sq <| rq O <| m Z <| m Z <| nl <| nx <| Sem.ret mix <| nx <| nx <| nx ?_
    cases h
    exact ⟨.inr Z, _, _, Z, Z, DLe.of_nrm Z⟩
   ·rw [if_neg (zaH c7)] at h
    refine Sem.skip mix <| nx <| nx <| rq O <| o (d := (I (IntKind.i64.wrap (x1 + 1)))) (bo Z) Z <| m Z <| nl ?_
    exact ⟨(IntKind.i64.wrap (x1 + 1)), h, .same (sS Z <| sS Z <| sS Z <| sS Z <| sZ)⟩
  ·rw [if_neg (zaH c2)] at h
   refine Sem.exit mix <| nx <| ⟨_, _, .refl, fun _ => ?_, fun hh => absurd Z hh⟩
   refine nx <| sq <| rq O <| m Z <| nl <| nx <| Sem.ret mix ?_
   cases h
   exact ⟨.inr Z, _, _, Z, Z, DLe.of_nrm Z⟩
noncomputable def F82s54 (N : Nat) : List D → Option D := spec (A := (List za4) × zaa) (R := Int) (fun a => [(SL za4.enc a.1), (.c (.fn (.func 54) [] [.fptr ((encP zaa.enc) a.2) 0]))]) (fun r => (I r)) (fun a => zay N a.1 a.2)
theorem K82s54 (N : Nat) : ∀ ds r, F82s54 N ds = some r → za9 Tryd.prog 82 ds r := zav fun a r h => zdm N a.1 a.2 r h
theorem zdw {N : Nat} {p0 : (List za4)} {p1c0 : zaa} {r : Int} (h : zay N p0 p1c0 = some r) : F82s54 N [(SL za4.enc p0), (.c (.fn (.func 54) [] [.fptr ((encP zaa.enc) p1c0) 0]))] = some (I r) := zaw (a := (p0, p1c0)) (by
  intro a b h
  obtain ⟨a0, a1⟩ := a
  obtain ⟨b0, b1⟩ := b
  have hh := h
  simp only [List.cons.injEq, and_true] at hh
  obtain ⟨h0, h1⟩ := hh
  have q0 := zeM za4.inj h0
  have q1 := h1
  simp only [D.c.injEq, C.fn.injEq, List.cons.injEq, C.fptr.injEq, true_and, and_true] at q1
  have q1a := q1
  have qq1a := (encP_inj zaa.inj) q1a
  rw [q0, qq1a]) h
noncomputable def S53s54 (N : Nat) : za1 := [(82, F82s54 N)]
theorem O53s54 (N : Nat) : zaO Tryd.prog (zat (S53s54 N)) := zap (zaj.cons (K82s54 N) <| zaj.nil)
theorem zdd (N : Nat) (p0 : (List za4)) (p1c0 : zaa) (r : Bool) (h : zax N p0 p1c0 = some r) : za9 Tryd.prog 53 [(SL za4.enc p0), (.c (.fn (.func 54) [] [.fptr ((encP zaa.enc) p1c0) 0]))] (B r) := by
  have O := And.intro mix (O53s54 N)
  refine zan Tryd.func53 (by kernel_rfl) C53 (bl Z) ?_
  unfold zax at h
  unfold A53
  dsimp only [zbc]
  refine sq <| rq O <| m Z <| nl <| nx <| sq <| rq O <| m Z <| m Z <| ?_
  obtain ⟨r1, e2, h⟩ := bs h
  refine o (d := (I r1)) (ca (zdw e2) Z) Z <| o (d := (B (decide (r1 ≥ 0)))) (bo Z) Z <| m Z <| nl <| nx <| Sem.ret mix ?_
  cases h
  exact ⟨.inr Z, _, _, Z, Z, DLe.of_nrm Z⟩
noncomputable def F53s54 (N : Nat) : List D → Option D := spec (A := (List za4) × zaa) (R := Bool) (fun a => [(SL za4.enc a.1), (.c (.fn (.func 54) [] [.fptr ((encP zaa.enc) a.2) 0]))]) (fun r => (B r)) (fun a => zax N a.1 a.2)
theorem K53s54 (N : Nat) : ∀ ds r, F53s54 N ds = some r → za9 Tryd.prog 53 ds r := zav fun a r h => zdd N a.1 a.2 r h
theorem zde {N : Nat} {p0 : (List za4)} {p1c0 : zaa} {r : Bool} (h : zax N p0 p1c0 = some r) : F53s54 N [(SL za4.enc p0), (.c (.fn (.func 54) [] [.fptr ((encP zaa.enc) p1c0) 0]))] = some (B r) := zaw (a := (p0, p1c0)) (by
  intro a b h
  obtain ⟨a0, a1⟩ := a
  obtain ⟨b0, b1⟩ := b
  have hh := h
  simp only [List.cons.injEq, and_true] at hh
  obtain ⟨h0, h1⟩ := hh
  have q0 := zeM za4.inj h0
  have q1 := h1
  simp only [D.c.injEq, C.fn.injEq, List.cons.injEq, C.fptr.injEq, true_and, and_true] at q1
  have q1a := q1
  have qq1a := (encP_inj zaa.inj) q1a
  rw [q0, qq1a]) h
noncomputable def S28 (N : Nat) : za1 := [(52, F52 N), (53, F53s54 N)]
theorem O28 (N : Nat) : zaO Tryd.prog (zat (S28 N)) := zap (zaj.cons (K52 N) <| zaj.cons (K53s54 N) <| zaj.nil)
theorem audit_checker_after_ok (N : Nat) (p0 : zaa) (r : (List Int)) (h : zdk N p0 = some r) : za9 Tryd.prog 28 [(.c (.fptr (zaa.enc p0) 0))] (SL zah r) := by
  have O := And.intro mix (O28 N)
  refine zan Tryd.func28 (by kernel_rfl) C28 (bl Z) ?_
  unfold zdk at h
  unfold A28
  dsimp only [zbc]
  refine sq <| rq O <| o (d := (.ptr 0 0 1)) (σ1 := [.cells [(.c (.fptr (zaa.enc p0) 0))]]) (zba Z Z Z Z) Z <| m Z <| nl <| nx <| sq <| rq O <| m Z <| nl <| nx <| Sem.own 3 1 Z (d := (OS 1 1 0)) (σ1 := [.cells [(.c (.fptr (zaa.enc p0) 0))], OB zah ([] : List Int)]) Z Z <| sq <| sq <| rq O <| l (d := (.c (.fptr (zaa.enc p0) 0))) Z <| o (d := (.c (.fptr (zaa.enc p0) 0))) (zbo Z) Z <| o (d := (.c (.fptr (zaa.enc p0) 18))) (zau Z) Z <| o (d := (.c (.fptr (zaa.enc p0) 21))) (zau Z) Z <| o (d := (SL zad.enc p0.f_st.Jobs)) (zal Z Z) Z <| o (d := (I (p0.f_st.Jobs.length : Int))) (zaA Z) Z <| m Z <| nl <| nx <| Sem.block <| Sem.rounds (V := Int × (List Int)) (fun ((x2, y1) : Int × (List Int)) => [(1, (.ptr 0 0 1)), (3, (OS 1 1 y1.length)), (10, (SL zad.enc p0.f_st.Jobs)), (11, (I (p0.f_st.Jobs.length : Int))), (12, (I x2))]) (fun ((x2, y1) : Int × (List Int)) => [.cells [(.c (.fptr (zaa.enc p0) 0))], OB zah y1]) (fun k v => zaZ N p0 k v.1 v.2 = some r) N (0, ([] : List Int)) h (fun v h => by unfold zaZ at h; cases h) ?_ (sS Z <| sE Z (by simp) <| sS Z <| sS Z <| sS Z <| sZ) Z
  intro kL0 v h
  obtain ⟨x2, y1⟩ := v
  try dsimp only at h ⊢
  unfold zaZ at h
  unfold A28xl0
  refine sq <| rq O <| o (d := (B (decide (x2 < (p0.f_st.Jobs.length : Int))))) (bo Z) Z <| nl <| nx <| sq <| Sem.cond Z (fun c3 => ?_) (fun c3 => ?_)
  ·rw [if_pos c3] at h
   refine Sem.skip mix <| nx <| Sem.join (fun (y4 : (List Int)) => [(1, (.ptr 0 0 1)), (3, (OS 1 1 y4.length)), (10, (SL zad.enc p0.f_st.Jobs)), (11, (I (p0.f_st.Jobs.length : Int))), (12, (I x2))]) (fun (y4 : (List Int)) => [.cells [(.c (.fptr (zaa.enc p0) 0))], OB zah y4]) (fun (y4 : (List Int)) => zcC N x2 (zaZ N p0 kL0) y4 = some r) ?_ ?_
   ·intro y4 h
    try dsimp only at h ⊢
    unfold zcC at h
    refine rq O <| o (d := (I (IntKind.i64.wrap (x2 + 1)))) (bo Z) Z <| m Z <| nl ?_
    exact ⟨((IntKind.i64.wrap (x2 + 1)), y4), h, .same (sS Z <| sS Z <| sS Z <| sS Z <| sS Z <| sZ)⟩
   ·refine Sem.block <| sq <| rq O ?_
    obtain ⟨a5, e6, h⟩ := bs h
    refine o (zaF Z Z e6 Z) Z <| o (d := (ST (zad.enc a5))) (zal Z Z) Z <| o (d := (.ptr 2 0 18)) (σ1 := [.cells [(.c (.fptr (zaa.enc p0) 0))], OB zah y1, .cells [I 0, I 0, I 0, I 0, I 0, I 0, I 0, I 0, I 0, sn, I 0, B false, B false, I 0, I 0, I 0, I 0, I 0]]) (zaG Z Z) Z <| st (σ1 := [.cells [(.c (.fptr (zaa.enc p0) 0))], OB zah y1, cm (zad.enc a5)]) Z <| nl <| nx <| sq <| sq <| rq O <| o (d := (.ptr 2 10 18)) (zaf Z) Z <| l (d := (I a5.State)) Z <| ?_
    obtain ⟨r7, e8, h⟩ := bs h
    refine o (d := (B r7)) (ca (life_Over_eq e8) Z) Z <| nl <| nx <| Sem.cond Z (fun c9 => ?_) (fun c9 => ?_)
    ·rw [if_pos c9] at h
     refine Sem.exit mix <| ⟨_, _, .refl, fun _ => ?_, fun hh => absurd Z hh⟩
     exact ⟨y1, h, .cut 2 (bl Z) (bl Z) (sS Z <| sS Z <| sS Z <| sS Z <| sS Z <| sZ) Z (zeN Z (zeN zeP Z))⟩
    ·rw [if_neg (zaH c9)] at h
     refine Sem.skip mix <| nx <| sq <| rq O <| o (d := (.ptr 2 9 18)) (zaf Z) Z <| l (d := (SL za4.enc a5.After)) Z <| o (d := (.fn (.func 54) [] [(.ptr 0 0 1)])) (zdz Z Z) Z <| ?_
     obtain ⟨r10, e11, h⟩ := bs h
     refine o (d := (B r10)) (op_call Z Z (callOrc_lend Z Z (zb2 Z (zb2 Z Z)) Z (zde e11) Z)) Z <| nl <| nx <| Sem.cond Z (fun c12 => ?_) (fun c12 => ?_)
     ·rw [if_pos c12] at h
      refine rq O <| m Z <| o (d := (.ptr 2 0 18)) (zaf Z) Z <| l (d := (I a5.Id)) Z <| o (d := (OS 1 3 1)) (σ1 := [.cells [(.c (.fptr (zaa.enc p0) 0))], OB zah y1, cm (zad.enc a5), OB zah ([a5.Id] : List Int)]) (zaL (f := zah) (l := ([a5.Id] : List Int)) (cs := ((([a5.Id] : List Int)).flatMap zah).map .c) (by kernel_rfl) Z Z (fun _ => Z) Z Z Z) Z <| ?_
      obtain ⟨z13, e14, h⟩ := bs h
      refine o (d := (OS 1 1 z13.length)) (σ1 := [.cells [(.c (.fptr (zaa.enc p0) 0))], OB zah z13, cm (zad.enc a5), OB zah ([a5.Id] : List Int)]) (zcU (f := zah) (fun _ => Z) Z Z Z Z (zeL (fun _ => Z) Z (by simp)) e14 Z Z Z) Z <| m Z <| nl <| nx ?_
      exact ⟨z13, h, .cut 2 (bl Z) (bl Z) (sS Z <| sS Z <| sS Z <| sS Z <| sS Z <| sZ) Z (zeN Z (zeN zeP Z))⟩
     ·rw [if_neg (zaH c12)] at h
      refine Sem.skip mix <| nx ?_
      exact ⟨y1, h, .cut 2 (bl Z) (bl Z) (sS Z <| sS Z <| sS Z <| sS Z <| sS Z <| sZ) Z (zeN Z (zeN zeP Z))⟩
  ·rw [if_neg (zaH c3)] at h
   refine Sem.exit mix <| nx <| ⟨_, _, .refl, fun _ => ?_, fun hh => absurd Z hh⟩
   refine nx <| sq <| rq O <| m Z <| m Z <| nl <| nx <| Sem.ret mix ?_
   cases h
   exact ⟨.inr Z, _, _, Z, (frz_own (fun _ => Z) (bl Z) Z Z), DLe.of_nrm Z⟩
noncomputable def F28 (N : Nat) : List D → Option D := spec (A := zaa) (R := (List Int)) (fun a => [(.c (.fptr (zaa.enc a) 0))]) (fun r => (SL zah r)) (fun a => zdk N a)
theorem K28 (N : Nat) : ∀ ds r, F28 N ds = some r → za9 Tryd.prog 28 ds r := zav fun a r h => audit_checker_after_ok N a r h
theorem audit_checker_after_eq {N : Nat} {p0 : zaa} {r : (List Int)} (h : zdk N p0 = some r) : F28 N [(.c (.fptr (zaa.enc p0) 0))] = some (SL zah r) := zaw (a := p0) (ij1 (zfi zaa.inj)) h
noncomputable def S55 (N : Nat) : za1 := []
theorem O55 (N : Nat) : zaO Tryd.prog (zat (S55 N)) := zap (zaj.nil)
theorem share_Right_ok (N : Nat) (p0 : (List Int)) (r : Bool) (h : share_Right N p0 = some r) : za9 Tryd.prog 55 [(SL zah p0)] (B r) := by
  have O := And.intro mix (O55 N)
  refine zan Tryd.func55 (by kernel_rfl) C55 (bl Z) ?_
  unfold share_Right at h
  unfold A55
  dsimp only [zbc]
  refine sq <| rq O <| m Z <| nl <| nx <| sq <| sq <| rq O <| m Z <| o (d := (I (p0.length : Int))) (zaA Z) Z <| m Z <| nl <| nx <| Sem.block <| Sem.rounds (V := Int) (fun (x1 : Int) => [(5, (SL zah p0)), (6, (I (p0.length : Int))), (7, (I x1))]) (fun (x1 : Int) => []) (fun k v => zdB N p0 k v = some r) N 0 h (fun v h => by unfold zdB at h; cases h) ?_ (sS Z <| sS Z <| sS Z <| sZ) Z
  intro kL0 x1 h
  try dsimp only at h ⊢
  unfold zdB at h
  unfold A55xl0
  refine sq <| rq O <| o (d := (B (decide (x1 < (p0.length : Int))))) (bo Z) Z <| nl <| nx <| sq <| Sem.cond Z (fun c2 => ?_) (fun c2 => ?_)
  ·rw [if_pos c2] at h
   refine Sem.skip mix <| nx <| sq <| Sem.block <| sq <| rq O ?_
   obtain ⟨a3, e4, h⟩ := bs h
   refine o (zaF Z Z e4 Z) Z <| o (d := (I a3)) (zal Z Z) Z <| m Z <| nl <| nx <| Sem.step [(5, (SL zah p0)), (6, (I (p0.length : Int))), (7, (I x1)), (16, (B ((decide (a3 < 0)) || (decide (a3 > 1099511627776)))))] [] (rq O ?_) ?_
   ·refine m Z <| o (d := (B (decide (a3 < 0)))) (bo Z) Z <| m Z <| ?_
    rcases bb (decide (a3 < 0)) with g2 | g2
    ·refine TrQ.know (v := true) 13 Z g2 <| TrQ.skipG 2 Z <| pT Z Z <| nl ⟨rfl, .same (sS Z <| sS Z <| sS Z <| sE Z (by rw [g2]; rfl) <| sZ)⟩
    ·refine mo g2 Z <| q (d := (B (decide (a3 > 1099511627776)))) (bo Z) g2 Z <| pF g2 Z <| nl ⟨rfl, .same (sS Z <| sS Z <| sS Z <| sE Z (by rw [g2]; rfl) <| sZ)⟩
   ·refine Sem.cond Z (fun c5 => ?_) (fun c5 => ?_)
    ·rw [if_pos c5] at h
     refine sq <| rq O <| m Z <| nl <| nx <| Sem.ret mix <| nx <| nx <| nx ?_
     cases h
     exact ⟨.inr Z, _, _, Z, Z, DLe.of_nrm Z⟩
    ·rw [if_neg (zaH c5)] at h
     refine Sem.skip mix <| nx <| nx <| rq O <| o (d := (I (IntKind.i64.wrap (x1 + 1)))) (bo Z) Z <| m Z <| nl ?_
     exact ⟨(IntKind.i64.wrap (x1 + 1)), h, .same (sS Z <| sS Z <| sS Z <| sZ)⟩
  ·rw [if_neg (zaH c2)] at h
   refine Sem.exit mix <| nx <| ⟨_, _, .refl, fun _ => ?_, fun hh => absurd Z hh⟩
   refine nx <| sq <| rq O <| m Z <| nl <| nx <| Sem.ret mix ?_
   cases h
   exact ⟨.inr Z, _, _, Z, Z, DLe.of_nrm Z⟩
noncomputable def F55 (N : Nat) : List D → Option D := spec (A := (List Int)) (R := Bool) (fun a => [(SL zah a)]) (fun r => (B r)) (fun a => share_Right N a)
theorem K55 (N : Nat) : ∀ ds r, F55 N ds = some r → za9 Tryd.prog 55 ds r := zav fun a r h => share_Right_ok N a r h
theorem share_Right_eq {N : Nat} {p0 : (List Int)} {r : Bool} (h : share_Right N p0 = some r) : F55 N [(SL zah p0)] = some (B r) := zaw (a := p0) (ij1 (zeM zcf)) h
noncomputable def S29 (N : Nat) : za1 := [(55, F55 N)]
theorem O29 (N : Nat) : zaO Tryd.prog (zat (S29 N)) := zap (zaj.cons (K55 N) <| zaj.nil)
theorem audit_checker_use_ok (N : Nat) (p0 : zaa) (r : (List Int)) (h : zdv N p0 = some r) : za9 Tryd.prog 29 [(.c (.fptr (zaa.enc p0) 0))] (SL zah r) := by
  have O := And.intro mix (O29 N)
  refine zan Tryd.func29 (by kernel_rfl) C29 (bl Z) ?_
  unfold zdv at h
  unfold A29
  dsimp only [zbc]
  refine sq <| rq O <| m Z <| nl <| nx <| sq <| rq O <| m Z <| nl <| nx <| Sem.own 3 1 Z (d := (OS 1 0 0)) (σ1 := [OB zah ([] : List Int)]) Z Z <| sq <| sq <| rq O <| m Z <| o (d := (.c (.fptr (zaa.enc p0) 0))) (zbo Z) Z <| o (d := (.c (.fptr (zaa.enc p0) 0))) (zau Z) Z <| o (d := (.c (.fptr (zaa.enc p0) 3))) (zau Z) Z <| o (d := (I p0.f_s.Users)) (zal Z Z) Z <| m Z <| nl <| nx <| Sem.block <| Sem.rounds (V := Int × (List Int)) (fun ((x2, y1) : Int × (List Int)) => [(0, (.c (.fptr (zaa.enc p0) 0))), (3, (OS 1 0 y1.length)), (9, (I p0.f_s.Users)), (10, (I x2))]) (fun ((x2, y1) : Int × (List Int)) => [OB zah y1]) (fun k v => zbk N p0 k v.1 v.2 = some r) N (0, ([] : List Int)) h (fun v h => by unfold zbk at h; cases h) ?_ (sS Z <| sE Z (by simp) <| sS Z <| sS Z <| sZ) Z
  intro kL0 v h
  obtain ⟨x2, y1⟩ := v
  try dsimp only at h ⊢
  unfold zbk at h
  unfold A29xl0
  refine sq <| rq O <| o (d := (B (decide (x2 < p0.f_s.Users)))) (bo Z) Z <| nl <| nx <| sq <| Sem.cond Z (fun c3 => ?_) (fun c3 => ?_)
  ·rw [if_pos c3] at h
   refine Sem.skip mix <| nx <| Sem.join (fun (y4 : (List Int)) => [(0, (.c (.fptr (zaa.enc p0) 0))), (3, (OS 1 0 y4.length)), (9, (I p0.f_s.Users)), (10, (I x2))]) (fun (y4 : (List Int)) => [OB zah y4]) (fun (y4 : (List Int)) => zeb N x2 (zbk N p0 kL0) y4 = some r) ?_ ?_
   ·intro y4 h
    try dsimp only at h ⊢
    unfold zeb at h
    refine rq O <| o (d := (I (IntKind.i64.wrap (x2 + 1)))) (bo Z) Z <| m Z <| nl ?_
    exact ⟨((IntKind.i64.wrap (x2 + 1)), y4), h, .same (sS Z <| sS Z <| sS Z <| sS Z <| sZ)⟩
   ·refine Sem.block <| sq <| rq O <| m Z <| m Z <| nl <| nx <| Sem.join (fun (x9 : Bool) => [(0, (.c (.fptr (zaa.enc p0) 0))), (3, (OS 1 0 y1.length)), (4, (I x2)), (9, (I p0.f_s.Users)), (10, (I x2)), (33, (B x9))]) (fun (x9 : Bool) => [OB zah y1]) (fun (x9 : Bool) => zec N y1 x2 (zbk N p0 kL0) x9 = some r) ?_ (rq O ?_)
    ·intro x9 h
     try dsimp only at h ⊢
     unfold zec at h
     refine Sem.cond Z (fun c10 => ?_) (fun c10 => ?_)
     ·rw [if_pos c10] at h
      refine rq O <| m Z <| m Z <| o (d := (OS 1 1 1)) (σ1 := [OB zah y1, OB zah ([x2] : List Int)]) (zaL (f := zah) (l := ([x2] : List Int)) (cs := ((([x2] : List Int)).flatMap zah).map .c) (by kernel_rfl) Z Z (fun _ => Z) Z Z Z) Z <| ?_
      obtain ⟨z11, e12, h⟩ := bs h
      refine o (d := (OS 1 0 z11.length)) (σ1 := [OB zah z11, OB zah ([x2] : List Int)]) (zcU (f := zah) (fun _ => Z) Z Z Z Z (zeL (fun _ => Z) Z (by simp)) e12 Z Z Z) Z <| m Z <| nl <| nx ?_
      exact ⟨z11, h, .cut 1 (bl Z) (bl Z) (sS Z <| sS Z <| sS Z <| sS Z <| sZ) Z (zeN zeP Z)⟩
     ·rw [if_neg (zaH c10)] at h
      refine Sem.skip mix <| nx ?_
      exact ⟨y1, h, .same (sS Z <| sS Z <| sS Z <| sS Z <| sZ)⟩
    ·refine m Z <| m Z <| o (d := (.c (.fptr (zaa.enc p0) 0))) (zbo Z) Z <| o (d := (.c (.fptr (zaa.enc p0) 18))) (zau Z) Z <| o (d := (.c (.fptr (zaa.enc p0) 24))) (zau Z) Z <| o (d := (SL zah p0.f_st.Use)) (zal Z Z) Z <| o (d := (I (p0.f_st.Use.length : Int))) (zaA Z) Z <| o (d := (B (decide (x2 ≥ (p0.f_st.Use.length : Int))))) (bo Z) Z <| m Z <| ?_
     rcases bb (decide (x2 ≥ (p0.f_st.Use.length : Int))) with g4 | g4
     ·rw [if_pos g4] at h
      refine TrQ.know (v := true) 21 Z g4 <| TrQ.skipG 11 Z <| pT Z Z <| nl ?_
      exact ⟨true, h, .same (sS Z <| sS Z <| sS Z <| sS Z <| sS Z <| sS Z <| sZ)⟩
     ·rw [if_neg (zaH g4)] at h
      refine mo g4 Z <| q (d := (.c (.fptr (zaa.enc p0) 0))) (zbo Z) g4 Z <| q (d := (.c (.fptr (zaa.enc p0) 18))) (zau Z) g4 Z <| q (d := (.c (.fptr (zaa.enc p0) 24))) (zau Z) g4 Z <| q (d := (SL zah p0.f_st.Use)) (zal Z Z) g4 Z <| mo g4 Z <| mo g4 Z <| q (d := (I (IntKind.i64.wrap (x2 + 1)))) (bo Z) g4 Z <| ?_
      obtain ⟨z13, e14, h⟩ := bs h
      refine q (d := (SL zah z13)) (op_slc (f := zah) (fun _ => Z) Z Z Z e14) g4 Z <| ?_
      obtain ⟨r15, e16, h⟩ := bs h
      refine q (d := (B r15)) (ca (share_Right_eq e16) Z) g4 Z <| q (d := (B (!r15))) (zbA Z Z Z Z) g4 Z <| pF g4 Z <| nl ?_
      exact ⟨(!r15), h, .same (sS Z <| sS Z <| sS Z <| sS Z <| sS Z <| sS Z <| sZ)⟩
  ·rw [if_neg (zaH c3)] at h
   refine Sem.exit mix <| nx <| ⟨_, _, .refl, fun _ => ?_, fun hh => absurd Z hh⟩
   refine nx <| sq <| rq O <| m Z <| m Z <| nl <| nx <| Sem.ret mix ?_
   cases h
   exact ⟨.inr Z, _, _, Z, (frz_own (fun _ => Z) (bl Z) Z Z), DLe.of_nrm Z⟩
noncomputable def F29 (N : Nat) : List D → Option D := spec (A := zaa) (R := (List Int)) (fun a => [(.c (.fptr (zaa.enc a) 0))]) (fun r => (SL zah r)) (fun a => zdv N a)
theorem K29 (N : Nat) : ∀ ds r, F29 N ds = some r → za9 Tryd.prog 29 ds r := zav fun a r h => audit_checker_use_ok N a r h
theorem audit_checker_use_eq {N : Nat} {p0 : zaa} {r : (List Int)} (h : zdv N p0 = some r) : F29 N [(.c (.fptr (zaa.enc p0) 0))] = some (SL zah r) := zaw (a := p0) (ij1 (zfi zaa.inj)) h
end Go.Abs
