/- The code computes these functions (4). -/
import Derived.Test.YtffiheekdcaihaaDoorTzWalk3
import Derived.Test.YtffiheekdcaihaaDoorTzHand
set_option linter.all false
namespace Go.Abs
open Go.Proofs
set_option linter.unusedVariables false
set_option maxRecDepth 100000
set_option maxHeartbeats 2000000
noncomputable def F11 (N : Nat) : List D → Option D := spec (A := Int) (R := ByteArray) (fun a => [I a]) (fun r => (.c (.lit (.string r)))) (fun a => audit_Name N a)
theorem K11 (N : Nat) : ∀ ds r, F11 N ds = some r → za9 Tryd.prog 11 ds r := zav fun a r h => audit_Name_ok N a r h
theorem audit_Name_eq {N : Nat} {p0 : Int} {r : ByteArray} (h : audit_Name N p0 = some r) : F11 N [I p0] = some (.c (.lit (.string r))) := zaw (a := p0) (ij1 zev) h
noncomputable def S4 (N : Nat) : za1 := [(9, F9 N), (8, F8 N), (7, F7 N), (10, F10 N), (11, F11 N)]
theorem O4 (N : Nat) : zaO Tryd.prog (zat (S4 N)) := zap (zaj.cons (K9 N) <| zaj.cons (K8 N) <| zaj.cons (K7 N) <| zaj.cons (K10 N) <| zaj.cons (K11 N) <| zaj.nil)
theorem drayagelaw46xawake_ok (N : Nat) (r : Bool) (h : zd3 N = some r) : za9 Tryd.prog 4 [] (B r) := by
  have O := And.intro mix (O4 N)
  refine zan Tryd.func4 (by kernel_rfl) C4 (bl Z) ?_
  unfold zd3 at h
  unfold A4
  dsimp only [zbc]
  refine sq <| rq O <| m Z <| nl <| nx <| sq <| rq O ?_
  obtain ⟨r1, e2, h⟩ := bs h
  refine o (d := (ST (zab.enc r1))) (ca (drayageref07xSmall_eq e2) Z) Z <| ?_
  obtain ⟨r3, e4, h⟩ := bs h
  refine o (d := (ST (zag.enc r3))) (ca (drayageref23xNew_eq e4) Z) Z <| o (d := (.ptr 0 0 9)) (σ1 := [.cells [I 0, I 0, I 0, sn, sn, sn, sn, sn, I 0]]) (zaG Z Z) Z <| st (σ1 := [cm (zag.enc r3)]) Z <| nl <| nx <| sq <| rq O <| o (d := (.agg [I 1, I 0, I 0, I 0])) (zbB (by kernel_rfl)) Z <| o (d := (.agg [I 1, I 0, I 0, I 1, I 1, I 0, I 0, I 0, I 9, sn, I 3, B false, B false, I 2, I 0, I 0, I 0, I 0])) (zbB (by kernel_rfl)) Z <| o (d := (.sl 1 0 1 18 18)) (σ1 := [cm (zag.enc r3), .cells [I 1, I 0, I 0, I 1, I 1, I 0, I 0, I 0, I 9, sn, I 3, B false, B false, I 2, I 0, I 0, I 0, I 0]]) (op_bslice (by kernel_rfl) Z Z) Z <| o (d := (.ptr 0 3 9)) (zaf Z) Z <| st (σ1 := [.cells [I r3.Now, I r3.Next, I r3.Book, (.sl 1 0 1 18 18), (SL zai.enc r3.Allocs), (SL zam.enc r3.Books), (SL zah r3.Use), (SL zah r3.Stamps.Queues), I r3.Stamps.Nodes], .cells [I 1, I 0, I 0, I 1, I 1, I 0, I 0, I 0, I 9, sn, I 3, B false, B false, I 2, I 0, I 0, I 0, I 0]]) Z <| nl <| nx <| Sem.freeze (f := (fun (z : zad) => ([.lit (.int .i64 z.Id), .lit (.int .i64 z.User), .lit (.int .i64 z.Queue), .lit (.int .i64 z.Many), .lit (.int .i64 z.Need.Cpu), .lit (.int .i64 z.Need.Mem), .lit (.int .i64 z.Need.Gpu), .lit (.int .i64 z.Need.Lic), .lit (.int .i64 z.Wall), .lit (.slice none 0 0), .lit (.int .i64 z.State), .lit (.bool z.Ok), .lit (.bool z.Kill), .lit (.int .i64 z.Version), .lit (.int .i64 z.Born), .lit (.int .i64 z.Start), .lit (.int .i64 z.End), .lit (.int .i64 z.Array)] : List C))) (l := ([({ Id := 1, User := 0, Queue := 0, Many := 1, Need := ({ Cpu := 1, Mem := 0, Gpu := 0, Lic := 0 } : zac), Wall := 9, After := [], State := 3, Ok := false, Kill := false, Version := 2, Born := 0, Start := 0, End := 0, Array := 0 } : zad)] : List zad)) (F := (SL zad.enc ([({ Id := 1, User := 0, Queue := 0, Many := 1, Need := ({ Cpu := 1, Mem := 0, Gpu := 0, Lic := 0 } : zac), Wall := 9, After := [], State := 3, Ok := false, Kill := false, Version := 2, Born := 0, Start := 0, End := 0, Array := 0 } : zad)] : List zad))) (fun _ => Z) (bl Z) 0 _ (.cells [I r3.Now, I r3.Next, I r3.Book, (SL zad.enc ([({ Id := 1, User := 0, Queue := 0, Many := 1, Need := ({ Cpu := 1, Mem := 0, Gpu := 0, Lic := 0 } : zac), Wall := 9, After := [], State := 3, Ok := false, Kill := false, Version := 2, Born := 0, Start := 0, End := 0, Array := 0 } : zad)] : List zad)), (SL zai.enc r3.Allocs), (SL zam.enc r3.Books), (SL zah r3.Use), (SL zah r3.Stamps.Queues), I r3.Stamps.Nodes]) [.cells [I r3.Now, I r3.Next, I r3.Book, (.sl 1 0 1 18 18), (SL zai.enc r3.Allocs), (SL zam.enc r3.Books), (SL zah r3.Use), (SL zah r3.Stamps.Queues), I r3.Stamps.Nodes]] Z Z (DLe.of_nrmY Z) (obFz_cells ⟨.inl Z, ⟨.inl Z, ⟨.inl Z, ⟨.inr ⟨rfl, Z⟩, ⟨.inl Z, ⟨.inl Z, ⟨.inl Z, ⟨.inl Z, ⟨.inl Z, True.intro⟩⟩⟩⟩⟩⟩⟩⟩⟩) Z <| sq <| rq O <| o (d := (.ptr 0 1 9)) (zaf Z) Z <| st (σ1 := [.cells [I r3.Now, I 2, I r3.Book, (SL zad.enc ([({ Id := 1, User := 0, Queue := 0, Many := 1, Need := ({ Cpu := 1, Mem := 0, Gpu := 0, Lic := 0 } : zac), Wall := 9, After := [], State := 3, Ok := false, Kill := false, Version := 2, Born := 0, Start := 0, End := 0, Array := 0 } : zad)] : List zad)), (SL zai.enc r3.Allocs), (SL zam.enc r3.Books), (SL zah r3.Use), (SL zah r3.Stamps.Queues), I r3.Stamps.Nodes], .gone (([({ Id := 1, User := 0, Queue := 0, Many := 1, Need := ({ Cpu := 1, Mem := 0, Gpu := 0, Lic := 0 } : zac), Wall := 9, After := [], State := 3, Ok := false, Kill := false, Version := 2, Born := 0, Start := 0, End := 0, Array := 0 } : zad)] : List zad).length * 18 + 1)]) Z <| nl <| nx <| sq <| dq O ?_
  obtain ⟨r5, e6, h⟩ := bs h
  refine o (d := (ST (zab.enc r5))) (ca (drayageref07xSmall_eq e6) Z) Z <| l (d := (.agg [I r3.Now, I 2, I r3.Book, (SL zad.enc ([({ Id := 1, User := 0, Queue := 0, Many := 1, Need := ({ Cpu := 1, Mem := 0, Gpu := 0, Lic := 0 } : zac), Wall := 9, After := [], State := 3, Ok := false, Kill := false, Version := 2, Born := 0, Start := 0, End := 0, Array := 0 } : zad)] : List zad)), (SL zai.enc r3.Allocs), (SL zam.enc r3.Books), (SL zah r3.Use), (SL zah r3.Stamps.Queues), I r3.Stamps.Nodes])) Z <| ?_
  obtain ⟨⟨r7, r8⟩, e9, h⟩ := bs h
  try dsimp only at h
  refine o (d := (.tup [(SL zae.enc r7), I r8])) (ca (audit_Check_eq e9) Z) Z <| m Z <| o (zbw Z Z) Z <| o (zbw Z Z) Z <| m Z <| m Z <| nl ⟨by kernel_rfl, ?_⟩
  refine nx <| Sem.join (fun (x14 : Bool) => [(0, (B x14))]) (fun (x14 : Bool) => [.cells [I r3.Now, I 2, I r3.Book, (SL zad.enc ([({ Id := 1, User := 0, Queue := 0, Many := 1, Need := ({ Cpu := 1, Mem := 0, Gpu := 0, Lic := 0 } : zac), Wall := 9, After := [], State := 3, Ok := false, Kill := false, Version := 2, Born := 0, Start := 0, End := 0, Array := 0 } : zad)] : List zad)), (SL zai.enc r3.Allocs), (SL zam.enc r3.Books), (SL zah r3.Use), (SL zah r3.Stamps.Queues), I r3.Stamps.Nodes], .gone (([({ Id := 1, User := 0, Queue := 0, Many := 1, Need := ({ Cpu := 1, Mem := 0, Gpu := 0, Lic := 0 } : zac), Wall := 9, After := [], State := 3, Ok := false, Kill := false, Version := 2, Born := 0, Start := 0, End := 0, Array := 0 } : zad)] : List zad).length * 18 + 1)]) (fun (x14 : Bool) => zdK N  x14 = some r) ?_ (rq O ?_)
  ·intro x14 h
   try dsimp only at h ⊢
   unfold zdK at h
   refine Sem.ret mix ?_
   cases h
   exact ⟨.inr Z, _, _, Z, Z, DLe.of_nrmY Z⟩
  ·refine m Z <| o (d := (B (r8 == 0))) (bo Z) Z <| m Z <| ?_
   rcases bb (r8 == 0) with g1 | g1
   ·rw [if_pos g1] at h
    refine mo g1 Z <| q (d := (.agg [I 4, I 1])) (zbB (by kernel_rfl)) g1 Z <| q (d := (OS 2 2 1)) (σ1 := [.cells [I r3.Now, I 2, I r3.Book, (SL zad.enc ([({ Id := 1, User := 0, Queue := 0, Many := 1, Need := ({ Cpu := 1, Mem := 0, Gpu := 0, Lic := 0 } : zac), Wall := 9, After := [], State := 3, Ok := false, Kill := false, Version := 2, Born := 0, Start := 0, End := 0, Array := 0 } : zad)] : List zad)), (SL zai.enc r3.Allocs), (SL zam.enc r3.Books), (SL zah r3.Use), (SL zah r3.Stamps.Queues), I r3.Stamps.Nodes], .gone (([({ Id := 1, User := 0, Queue := 0, Many := 1, Need := ({ Cpu := 1, Mem := 0, Gpu := 0, Lic := 0 } : zac), Wall := 9, After := [], State := 3, Ok := false, Kill := false, Version := 2, Born := 0, Start := 0, End := 0, Array := 0 } : zad)] : List zad).length * 18 + 1), OB zae.enc ([({ What := 4, Where := 1 } : zae)] : List zae)]) (zaL (f := zae.enc) (l := ([({ What := 4, Where := 1 } : zae)] : List zae)) (cs := ((([({ What := 4, Where := 1 } : zae)] : List zae)).flatMap zae.enc).map .c) (by kernel_rfl) Z Z (fun _ => Z) Z Z Z) g1 Z <| ?_
    obtain ⟨r15, e16, h⟩ := bs h
    refine q (d := (B r15)) (op_call Z Z (callOrc_lend Z Z (zb2 Z (zb2 (frz_own (fun _ => Z) (bl Z) Z (by simp)) Z)) Z (drayageref45xFlaws_eq e16) Z)) g1 Z <| pT g1 Z <| m Z <| ?_
    rcases bb r15 with g2 | g2
    ·rw [if_pos g2] at h
     obtain ⟨r17, e18, h⟩ := bs h
     refine q (d := (.c (.lit (.string r17)))) (ca (audit_Name_eq e18) Z) g2 Z <| q (d := (B (r17.toList == (⟨#[106, 111, 98]⟩ : ByteArray).toList))) (bo Z) g2 Z <| pT g2 Z <| m Z <| nl ?_
     exact ⟨(r17.toList == (⟨#[106, 111, 98]⟩ : ByteArray).toList), h, .cut 2 (bl Z) (bl Z) (sS Z <| sZ) Z Z⟩
    ·rw [if_neg (zaH g2)] at h
     refine TrQ.know (v := false) 25 Z g2 <| TrQ.skipG 2 Z <| pF Z Z <| m Z <| nl ?_
     exact ⟨false, h, .cut 2 (bl Z) (bl Z) (sS Z <| sZ) Z Z⟩
   ·rw [if_neg (zaH g1)] at h
    refine TrQ.know (v := false) 19 Z g1 <| TrQ.skipG 4 Z <| pF Z Z <| m Z <| TrQ.skipG 2 Z <| pF Z Z <| m Z <| nl ?_
    exact ⟨false, h, .same (sS Z <| sZ)⟩
noncomputable def F4 (N : Nat) : List D → Option D := spec (A := Unit) (R := Bool) (fun a => []) (fun r => (B r)) (fun a => zd3 N)
theorem K4 (N : Nat) : ∀ ds r, F4 N ds = some r → za9 Tryd.prog 4 ds r := zav fun a r h => drayagelaw46xawake_ok N r h
theorem drayagelaw46xawake_eq {N : Nat} {r : Bool} (h : zd3 N = some r) : F4 N [] = some (B r) := zaw (a := ()) (by
  intro a b h
  rfl) h
noncomputable def S12 (N : Nat) : za1 := []
theorem O12 (N : Nat) : zaO Tryd.prog (zat (S12 N)) := zap (zaj.nil)
theorem drayagelaw07xFew_ok (N : Nat) (p0 : zab) (r : Bool) (h : zd6 N p0 = some r) : za9 Tryd.prog 12 [(ST (zab.enc p0))] (B r) := by
  have O := And.intro mix (O12 N)
  refine zan Tryd.func12 (by kernel_rfl) C12 (bl Z) ?_
  unfold zd6 at h
  unfold A12
  dsimp only [zbc]
  refine sq <| rq O <| o (d := (.ptr 0 0 18)) (σ1 := [cm (zab.enc p0)]) (zba Z Z Z Z) Z <| m Z <| nl <| nx <| sq <| Sem.step [(1, (.ptr 0 0 18)), (22, (B ((decide ((p0.Nodes.length : Int) > 40)) || ((decide ((p0.Parts.length : Int) > 20)) || (decide ((p0.Queues.length : Int) > 20))))))] [cm (zab.enc p0)] (rq O ?_) ?_
  ·refine o (d := (.ptr 0 0 18)) (zaf Z) Z <| l (d := (SL zac.enc p0.Nodes)) Z <| o (d := (I (p0.Nodes.length : Int))) (zaA Z) Z <| o (d := (B (decide ((p0.Nodes.length : Int) > 40)))) (bo Z) Z <| m Z <| ?_
   rcases bb (decide ((p0.Nodes.length : Int) > 40)) with g1 | g1
   ·refine TrQ.know (v := true) 11 Z g1 <| TrQ.skipG 4 Z <| pT Z Z <| m Z <| TrQ.skipG 4 Z <| pT Z Z <| nl ⟨rfl, .same (sS Z <| sE Z (by rw [g1]; rfl) <| sZ)⟩
   ·refine q (d := (.ptr 0 1 18)) (zaf Z) g1 Z <| lo (d := (SL (encL zah) p0.Parts)) g1 Z <| q (d := (I (p0.Parts.length : Int))) (zaA Z) g1 Z <| q (d := (B (decide ((p0.Parts.length : Int) > 20)))) (bo Z) g1 Z <| pF g1 Z <| m Z <| ?_
    rcases bb (decide ((p0.Parts.length : Int) > 20)) with g2 | g2
    ·refine TrQ.know (v := true) 17 Z g2 <| TrQ.skipG 4 Z <| pT Z Z <| nl ⟨rfl, .same (sS Z <| sE Z (by rw [g1, g2]; rfl) <| sZ)⟩
    ·refine q (d := (.ptr 0 2 18)) (zaf Z) g2 Z <| lo (d := (SL zaq.enc p0.Queues)) g2 Z <| q (d := (I (p0.Queues.length : Int))) (zaA Z) g2 Z <| q (d := (B (decide ((p0.Queues.length : Int) > 20)))) (bo Z) g2 Z <| pF g2 Z <| nl ⟨rfl, .same (sS Z <| sE Z (by rw [g1, g2]; rfl) <| sZ)⟩
  ·refine Sem.cond Z (fun c1 => ?_) (fun c1 => ?_)
   ·rw [if_pos c1] at h
    refine sq <| rq O <| m Z <| nl <| nx <| Sem.ret mix ?_
    cases h
    exact ⟨.inr Z, _, _, Z, Z, DLe.of_nrm Z⟩
   ·rw [if_neg (zaH c1)] at h
    refine Sem.skip mix <| nx <| sq <| sq <| rq O <| o (d := (.ptr 0 1 18)) (zaf Z) Z <| l (d := (SL (encL zah) p0.Parts)) Z <| o (d := (I (p0.Parts.length : Int))) (zaA Z) Z <| m Z <| nl <| nx <| Sem.block <| Sem.rounds (V := Int) (fun (x2 : Int) => [(1, (.ptr 0 0 18)), (24, (SL (encL zah) p0.Parts)), (25, (I (p0.Parts.length : Int))), (26, (I x2))]) (fun (x2 : Int) => [cm (zab.enc p0)]) (fun k v => zcI N p0 k v = some r) N 0 h (fun v h => by unfold zcI at h; cases h) ?_ (sS Z <| sS Z <| sS Z <| sS Z <| sZ) Z
    intro kL0 x2 h
    try dsimp only at h ⊢
    unfold zcI at h
    unfold A12xl0
    refine sq <| rq O <| o (d := (B (decide (x2 < (p0.Parts.length : Int))))) (bo Z) Z <| nl <| nx <| sq <| Sem.cond Z (fun c3 => ?_) (fun c3 => ?_)
    ·rw [if_pos c3] at h
     refine Sem.skip mix <| nx <| sq <| Sem.block <| sq <| rq O ?_
     obtain ⟨a4, e5, h⟩ := bs h
     refine o (zaF Z Z e5 Z) Z <| o (d := (SL zah a4)) (zal Z Z) Z <| m Z <| nl <| nx <| sq <| rq O <| m Z <| o (d := (I (a4.length : Int))) (zaA Z) Z <| o (d := (B (decide ((a4.length : Int) > 40)))) (bo Z) Z <| nl <| nx <| Sem.cond Z (fun c6 => ?_) (fun c6 => ?_)
     ·rw [if_pos c6] at h
      refine sq <| rq O <| m Z <| nl <| nx <| Sem.ret mix <| nx <| nx <| nx ?_
      cases h
      exact ⟨.inr Z, _, _, Z, Z, DLe.of_nrm Z⟩
     ·rw [if_neg (zaH c6)] at h
      refine Sem.skip mix <| nx <| nx <| rq O <| o (d := (I (IntKind.i64.wrap (x2 + 1)))) (bo Z) Z <| m Z <| nl ?_
      exact ⟨(IntKind.i64.wrap (x2 + 1)), h, .same (sS Z <| sS Z <| sS Z <| sS Z <| sZ)⟩
    ·rw [if_neg (zaH c3)] at h
     refine Sem.exit mix <| nx <| ⟨_, _, .refl, fun _ => ?_, fun hh => absurd Z hh⟩
     refine nx <| sq <| sq <| rq O <| o (d := (.ptr 0 2 18)) (zaf Z) Z <| l (d := (SL zaq.enc p0.Queues)) Z <| o (d := (I (p0.Queues.length : Int))) (zaA Z) Z <| m Z <| nl <| nx <| Sem.block <| Sem.rounds (V := Int) (fun (x7 : Int) => [(35, (SL zaq.enc p0.Queues)), (36, (I (p0.Queues.length : Int))), (37, (I x7))]) (fun (x7 : Int) => [cm (zab.enc p0)]) (fun k v => zck N p0 k v = some r) N 0 h (fun v h => by unfold zck at h; cases h) ?_ (sS Z <| sS Z <| sS Z <| sZ) Z
     intro kL1 x7 h
     try dsimp only at h ⊢
     unfold zck at h
     unfold A12xl1
     refine sq <| rq O <| o (d := (B (decide (x7 < (p0.Queues.length : Int))))) (bo Z) Z <| nl <| nx <| sq <| Sem.cond Z (fun c8 => ?_) (fun c8 => ?_)
     ·rw [if_pos c8] at h
      refine Sem.skip mix <| nx <| sq <| Sem.block <| sq <| rq O ?_
      obtain ⟨a9, e10, h⟩ := bs h
      refine o (zaF Z Z e10 Z) Z <| o (d := (ST (zaq.enc a9))) (zal Z Z) Z <| o (d := (.ptr 1 0 6)) (σ1 := [cm (zab.enc p0), .cells [I 0, sn, I 0, I 0, I 0, I 0]]) (zaG Z Z) Z <| st (σ1 := [cm (zab.enc p0), cm (zaq.enc a9)]) Z <| nl <| nx <| sq <| rq O <| o (d := (.ptr 1 1 6)) (zaf Z) Z <| l (d := (SL zah a9.Users)) Z <| o (d := (I (a9.Users.length : Int))) (zaA Z) Z <| o (d := (B (decide ((a9.Users.length : Int) > 40)))) (bo Z) Z <| nl <| nx <| Sem.cond Z (fun c11 => ?_) (fun c11 => ?_)
      ·rw [if_pos c11] at h
       refine sq <| rq O <| m Z <| nl <| nx <| Sem.ret mix <| nx <| nx <| nx ?_
       cases h
       exact ⟨.inr Z, _, _, Z, Z, DLe.of_nrm Z⟩
      ·rw [if_neg (zaH c11)] at h
       refine Sem.skip mix <| nx <| nx <| rq O <| o (d := (I (IntKind.i64.wrap (x7 + 1)))) (bo Z) Z <| m Z <| nl ?_
       exact ⟨(IntKind.i64.wrap (x7 + 1)), h, .cut 1 (bl Z) (bl Z) (sS Z <| sS Z <| sS Z <| sZ) Z Z⟩
     ·rw [if_neg (zaH c8)] at h
      refine Sem.exit mix <| nx <| ⟨_, _, .refl, fun _ => ?_, fun hh => absurd Z hh⟩
      refine nx <| sq <| rq O <| m Z <| nl <| nx <| Sem.ret mix ?_
      cases h
      exact ⟨.inr Z, _, _, Z, Z, DLe.of_nrm Z⟩
noncomputable def F12 (N : Nat) : List D → Option D := spec (A := zab) (R := Bool) (fun a => [(ST (zab.enc a))]) (fun r => (B r)) (fun a => zd6 N a)
theorem K12 (N : Nat) : ∀ ds r, F12 N ds = some r → za9 Tryd.prog 12 ds r := zav fun a r h => drayagelaw07xFew_ok N a r h
theorem drayagelaw07xFew_eq {N : Nat} {p0 : zab} {r : Bool} (h : zd6 N p0 = some r) : F12 N [(ST (zab.enc p0))] = some (B r) := zaw (a := p0) (ij1 (zbx zab.inj)) h
noncomputable def S13 (N : Nat) : za1 := []
theorem O13 (N : Nat) : zaO Tryd.prog (zat (S13 N)) := zap (zaj.nil)
theorem drayagelaw17xFew_ok (N : Nat) (p0 : (List zad)) (r : Bool) (h : zd7 N p0 = some r) : za9 Tryd.prog 13 [(SL zad.enc p0)] (B r) := by
  have O := And.intro mix (O13 N)
  refine zan Tryd.func13 (by kernel_rfl) C13 (bl Z) ?_
  unfold zd7 at h
  unfold A13
  dsimp only [zbc]
  refine sq <| rq O <| m Z <| nl <| nx <| sq <| sq <| rq O <| m Z <| o (d := (I (p0.length : Int))) (zaA Z) Z <| o (d := (B (decide ((p0.length : Int) > 30)))) (bo Z) Z <| nl <| nx <| Sem.cond Z (fun c1 => ?_) (fun c1 => ?_)
  ·rw [if_pos c1] at h
   refine sq <| rq O <| m Z <| nl <| nx <| Sem.ret mix ?_
   cases h
   exact ⟨.inr Z, _, _, Z, Z, DLe.of_nrm Z⟩
  ·rw [if_neg (zaH c1)] at h
   refine Sem.skip mix <| nx <| sq <| sq <| rq O <| m Z <| o (d := (I (p0.length : Int))) (zaA Z) Z <| m Z <| nl <| nx <| Sem.block <| Sem.rounds (V := Int) (fun (x2 : Int) => [(8, (SL zad.enc p0)), (9, (I (p0.length : Int))), (10, (I x2))]) (fun (x2 : Int) => []) (fun k v => zcP N p0 k v = some r) N 0 h (fun v h => by unfold zcP at h; cases h) ?_ (sS Z <| sS Z <| sS Z <| sZ) Z
   intro kL0 x2 h
   try dsimp only at h ⊢
   unfold zcP at h
   unfold A13xl0
   refine sq <| rq O <| o (d := (B (decide (x2 < (p0.length : Int))))) (bo Z) Z <| nl <| nx <| sq <| Sem.cond Z (fun c3 => ?_) (fun c3 => ?_)
   ·rw [if_pos c3] at h
    refine Sem.skip mix <| nx <| sq <| Sem.block <| sq <| rq O ?_
    obtain ⟨a4, e5, h⟩ := bs h
    refine o (zaF Z Z e5 Z) Z <| o (d := (ST (zad.enc a4))) (zal Z Z) Z <| o (d := (.ptr 0 0 18)) (σ1 := [.cells [I 0, I 0, I 0, I 0, I 0, I 0, I 0, I 0, I 0, sn, I 0, B false, B false, I 0, I 0, I 0, I 0, I 0]]) (zaG Z Z) Z <| st (σ1 := [cm (zad.enc a4)]) Z <| nl <| nx <| sq <| rq O <| o (d := (.ptr 0 9 18)) (zaf Z) Z <| l (d := (SL za4.enc a4.After)) Z <| o (d := (I (a4.After.length : Int))) (zaA Z) Z <| o (d := (B (decide ((a4.After.length : Int) > 10)))) (bo Z) Z <| nl <| nx <| Sem.cond Z (fun c6 => ?_) (fun c6 => ?_)
    ·rw [if_pos c6] at h
     refine sq <| rq O <| m Z <| nl <| nx <| Sem.ret mix <| nx <| nx <| nx ?_
     cases h
     exact ⟨.inr Z, _, _, Z, Z, DLe.of_nrm Z⟩
    ·rw [if_neg (zaH c6)] at h
     refine Sem.skip mix <| nx <| nx <| rq O <| o (d := (I (IntKind.i64.wrap (x2 + 1)))) (bo Z) Z <| m Z <| nl ?_
     exact ⟨(IntKind.i64.wrap (x2 + 1)), h, .cut 0 (bl Z) (bl Z) (sS Z <| sS Z <| sS Z <| sZ) Z Z⟩
   ·rw [if_neg (zaH c3)] at h
    refine Sem.exit mix <| nx <| ⟨_, _, .refl, fun _ => ?_, fun hh => absurd Z hh⟩
    refine nx <| sq <| rq O <| m Z <| nl <| nx <| Sem.ret mix ?_
    cases h
    exact ⟨.inr Z, _, _, Z, Z, DLe.of_nrm Z⟩
noncomputable def F13 (N : Nat) : List D → Option D := spec (A := (List zad)) (R := Bool) (fun a => [(SL zad.enc a)]) (fun r => (B r)) (fun a => zd7 N a)
theorem K13 (N : Nat) : ∀ ds r, F13 N ds = some r → za9 Tryd.prog 13 ds r := zav fun a r h => drayagelaw17xFew_ok N a r h
theorem drayagelaw17xFew_eq {N : Nat} {p0 : (List zad)} {r : Bool} (h : zd7 N p0 = some r) : F13 N [(SL zad.enc p0)] = some (B r) := zaw (a := p0) (ij1 (zeM zad.inj)) h
noncomputable def S5 (N : Nat) : za1 := [(12, F12 N), (13, F13 N)]
theorem O5 (N : Nat) : zaO Tryd.prog (zat (S5 N)) := zap (zaj.cons (K12 N) <| zaj.cons (K13 N) <| zaj.nil)
theorem drayagelaw23xFew_ok (N : Nat) (p0 : zab) (p1 : zag) (r : Bool) (h : zd9 N p0 p1 = some r) : za9 Tryd.prog 5 [(ST (zab.enc p0)), (ST (zag.enc p1))] (B r) := by
  have O := And.intro mix (O5 N)
  refine zan Tryd.func5 (by kernel_rfl) C5 (bl Z) ?_
  unfold zd9 at h
  unfold A5
  dsimp only [zbc]
  refine sq <| rq O <| o (d := (.ptr 0 0 18)) (σ1 := [cm (zab.enc p0)]) (zba Z Z Z Z) Z <| o (d := (.ptr 1 0 9)) (σ1 := [cm (zab.enc p0), cm (zag.enc p1)]) (zba Z Z Z Z) Z <| m Z <| nl <| nx <| sq <| Sem.join (fun (x5 : Bool) => [(3, (.ptr 1 0 9)), (40, (B x5))]) (fun (x5 : Bool) => [cm (zab.enc p0), cm (zag.enc p1)]) (fun (x5 : Bool) => zbX N p1 x5 = some r) ?_ (rq O ?_)
  ·intro x5 h
   try dsimp only at h ⊢
   unfold zbX at h
   refine Sem.cond Z (fun c6 => ?_) (fun c6 => ?_)
   ·rw [if_pos c6] at h
    refine sq <| rq O <| m Z <| nl <| nx <| Sem.ret mix ?_
    cases h
    exact ⟨.inr Z, _, _, Z, Z, DLe.of_nrm Z⟩
   ·rw [if_neg (zaH c6)] at h
    refine Sem.skip mix <| nx <| sq <| sq <| rq O <| o (d := (.ptr 1 4 9)) (zaf Z) Z <| l (d := (SL zai.enc p1.Allocs)) Z <| o (d := (I (p1.Allocs.length : Int))) (zaA Z) Z <| m Z <| nl <| nx <| Sem.block <| Sem.rounds (V := Int) (fun (x7 : Int) => [(42, (SL zai.enc p1.Allocs)), (43, (I (p1.Allocs.length : Int))), (44, (I x7))]) (fun (x7 : Int) => [cm (zab.enc p0), cm (zag.enc p1)]) (fun k v => zcN N p1 k v = some r) N 0 h (fun v h => by unfold zcN at h; cases h) ?_ (sS Z <| sS Z <| sS Z <| sZ) Z
    intro kL1 x7 h
    try dsimp only at h ⊢
    unfold zcN at h
    unfold A5xl0
    refine sq <| rq O <| o (d := (B (decide (x7 < (p1.Allocs.length : Int))))) (bo Z) Z <| nl <| nx <| sq <| Sem.cond Z (fun c8 => ?_) (fun c8 => ?_)
    ·rw [if_pos c8] at h
     refine Sem.skip mix <| nx <| sq <| Sem.block <| sq <| rq O ?_
     obtain ⟨a9, e10, h⟩ := bs h
     refine o (zaF Z Z e10 Z) Z <| o (d := (ST (zai.enc a9))) (zal Z Z) Z <| o (d := (.ptr 2 0 6)) (σ1 := [cm (zab.enc p0), cm (zag.enc p1), .cells [I 0, I 0, I 0, I 0, I 0, sn]]) (zaG Z Z) Z <| st (σ1 := [cm (zab.enc p0), cm (zag.enc p1), cm (zai.enc a9)]) Z <| nl <| nx <| sq <| rq O <| o (d := (.ptr 2 5 6)) (zaf Z) Z <| l (d := (SL zak.enc a9.Shares)) Z <| o (d := (I (a9.Shares.length : Int))) (zaA Z) Z <| o (d := (B (decide ((a9.Shares.length : Int) > 40)))) (bo Z) Z <| nl <| nx <| Sem.cond Z (fun c11 => ?_) (fun c11 => ?_)
     ·rw [if_pos c11] at h
      refine sq <| rq O <| m Z <| nl <| nx <| Sem.ret mix <| nx <| nx <| nx ?_
      cases h
      exact ⟨.inr Z, _, _, Z, Z, DLe.of_nrm Z⟩
     ·rw [if_neg (zaH c11)] at h
      refine Sem.skip mix <| nx <| nx <| rq O <| o (d := (I (IntKind.i64.wrap (x7 + 1)))) (bo Z) Z <| m Z <| nl ?_
      exact ⟨(IntKind.i64.wrap (x7 + 1)), h, .cut 2 (bl Z) (bl Z) (sS Z <| sS Z <| sS Z <| sZ) Z Z⟩
    ·rw [if_neg (zaH c8)] at h
     refine Sem.exit mix <| nx <| ⟨_, _, .refl, fun _ => ?_, fun hh => absurd Z hh⟩
     refine nx <| sq <| rq O <| m Z <| nl <| nx <| Sem.ret mix ?_
     cases h
     exact ⟨.inr Z, _, _, Z, Z, DLe.of_nrm Z⟩
  ·refine l (d := (ST (zab.enc p0))) Z <| ?_
   obtain ⟨r12, e13, h⟩ := bs h
   refine o (d := (B r12)) (ca (drayagelaw07xFew_eq e13) Z) Z <| o (d := (B (!r12))) (zbA Z Z Z Z) Z <| m Z <| ?_
   rcases bb (!r12) with g1 | g1
   ·rw [if_pos g1] at h
    refine TrQ.know (v := true) 10 Z g1 <| TrQ.skipG 4 Z <| pT Z Z <| m Z <| TrQ.skipG 4 Z <| pT Z Z <| m Z <| TrQ.skipG 4 Z <| pT Z Z <| m Z <| TrQ.skipG 4 Z <| pT Z Z <| m Z <| TrQ.skipG 5 Z <| pT Z Z <| nl ?_
    exact ⟨true, h, .same (sS Z <| sS Z <| sZ)⟩
   ·rw [if_neg (zaH g1)] at h
    refine q (d := (.ptr 1 3 9)) (zaf Z) g1 Z <| lo (d := (SL zad.enc p1.Jobs)) g1 Z <| ?_
    obtain ⟨r14, e15, h⟩ := bs h
    refine q (d := (B r14)) (ca (drayagelaw17xFew_eq e15) Z) g1 Z <| q (d := (B (!r14))) (zbA Z Z Z Z) g1 Z <| pF g1 Z <| m Z <| ?_
    rcases bb (!r14) with g2 | g2
    ·rw [if_pos g2] at h
     refine TrQ.know (v := true) 16 Z g2 <| TrQ.skipG 4 Z <| pT Z Z <| m Z <| TrQ.skipG 4 Z <| pT Z Z <| m Z <| TrQ.skipG 4 Z <| pT Z Z <| m Z <| TrQ.skipG 5 Z <| pT Z Z <| nl ?_
     exact ⟨true, h, .same (sS Z <| sS Z <| sZ)⟩
    ·rw [if_neg (zaH g2)] at h
     refine q (d := (.ptr 1 4 9)) (zaf Z) g2 Z <| lo (d := (SL zai.enc p1.Allocs)) g2 Z <| q (d := (I (p1.Allocs.length : Int))) (zaA Z) g2 Z <| q (d := (B (decide ((p1.Allocs.length : Int) > 40)))) (bo Z) g2 Z <| pF g2 Z <| m Z <| ?_
     rcases bb (decide ((p1.Allocs.length : Int) > 40)) with g3 | g3
     ·rw [if_pos g3] at h
      refine TrQ.know (v := true) 22 Z g3 <| TrQ.skipG 4 Z <| pT Z Z <| m Z <| TrQ.skipG 4 Z <| pT Z Z <| m Z <| TrQ.skipG 5 Z <| pT Z Z <| nl ?_
      exact ⟨true, h, .same (sS Z <| sS Z <| sZ)⟩
     ·rw [if_neg (zaH g3)] at h
      refine q (d := (.ptr 1 5 9)) (zaf Z) g3 Z <| lo (d := (SL zam.enc p1.Books)) g3 Z <| q (d := (I (p1.Books.length : Int))) (zaA Z) g3 Z <| q (d := (B (decide ((p1.Books.length : Int) > 20)))) (bo Z) g3 Z <| pF g3 Z <| m Z <| ?_
      rcases bb (decide ((p1.Books.length : Int) > 20)) with g4 | g4
      ·rw [if_pos g4] at h
       refine TrQ.know (v := true) 28 Z g4 <| TrQ.skipG 4 Z <| pT Z Z <| m Z <| TrQ.skipG 5 Z <| pT Z Z <| nl ?_
       exact ⟨true, h, .same (sS Z <| sS Z <| sZ)⟩
      ·rw [if_neg (zaH g4)] at h
       refine q (d := (.ptr 1 6 9)) (zaf Z) g4 Z <| lo (d := (SL zah p1.Use)) g4 Z <| q (d := (I (p1.Use.length : Int))) (zaA Z) g4 Z <| q (d := (B (decide ((p1.Use.length : Int) > 20)))) (bo Z) g4 Z <| pF g4 Z <| m Z <| ?_
       rcases bb (decide ((p1.Use.length : Int) > 20)) with g5 | g5
       ·rw [if_pos g5] at h
        refine TrQ.know (v := true) 34 Z g5 <| TrQ.skipG 5 Z <| pT Z Z <| nl ?_
        exact ⟨true, h, .same (sS Z <| sS Z <| sZ)⟩
       ·rw [if_neg (zaH g5)] at h
        refine q (d := (.ptr 1 7 9)) (zaf Z) g5 Z <| q (d := (.ptr 1 7 9)) (zaf Z) g5 Z <| lo (d := (SL zah p1.Stamps.Queues)) g5 Z <| q (d := (I (p1.Stamps.Queues.length : Int))) (zaA Z) g5 Z <| q (d := (B (decide ((p1.Stamps.Queues.length : Int) > 20)))) (bo Z) g5 Z <| pF g5 Z <| nl ?_
        exact ⟨(decide ((p1.Stamps.Queues.length : Int) > 20)), h, .same (sS Z <| sS Z <| sZ)⟩
noncomputable def F5 (N : Nat) : List D → Option D := spec (A := zab × zag) (R := Bool) (fun a => [(ST (zab.enc a.1)), (ST (zag.enc a.2))]) (fun r => (B r)) (fun a => zd9 N a.1 a.2)
theorem K5 (N : Nat) : ∀ ds r, F5 N ds = some r → za9 Tryd.prog 5 ds r := zav fun a r h => drayagelaw23xFew_ok N a.1 a.2 r h
theorem drayagelaw23xFew_eq {N : Nat} {p0 : zab} {p1 : zag} {r : Bool} (h : zd9 N p0 p1 = some r) : F5 N [(ST (zab.enc p0)), (ST (zag.enc p1))] = some (B r) := zaw (a := (p0, p1)) (ij2 (zbx zab.inj) (zbx zag.inj)) h
noncomputable def S56 (N : Nat) : za1 := []
theorem O56 (N : Nat) : zaO Tryd.prog (zat (S56 N)) := zap (zaj.nil)
theorem drayageref07xin_ok (N : Nat) (p0 : Int) (p1 : Int) (p2 : Int) (r : Bool) (h : zaE N p0 p1 p2 = some r) : za9 Tryd.prog 56 [I p0, I p1, I p2] (B r) := by
  have O := And.intro mix (O56 N)
  refine zan Tryd.func56 (by kernel_rfl) C56 (bl Z) ?_
  unfold zaE at h
  unfold A56
  dsimp only [zbc]
  refine sq <| rq O <| m Z <| nl <| nx <| Sem.step [(6, (B ((decide (p1 ≤ p0)) && (decide (p0 ≤ p2)))))] [] (rq O ?_) ?_
  ·refine m Z <| m Z <| o (d := (B (decide (p1 ≤ p0)))) (bo Z) Z <| m Z <| ?_
   rcases bb (decide (p1 ≤ p0)) with g1 | g1
   ·refine mo g1 Z <| mo g1 Z <| q (d := (B (decide (p0 ≤ p2)))) (bo Z) g1 Z <| pT g1 Z <| m Z <| nl ⟨rfl, .same (sE Z (by rw [g1]; rfl) <| sZ)⟩
   ·refine TrQ.know (v := false) 10 Z g1 <| TrQ.skipG 3 Z <| pF Z Z <| m Z <| nl ⟨rfl, .same (sE Z (by rw [g1]; rfl) <| sZ)⟩
  ·refine Sem.ret mix ?_
   cases h
   exact ⟨.inr Z, _, _, Z, Z, DLe.of_nrm Z⟩
noncomputable def F56 (N : Nat) : List D → Option D := spec (A := Int × Int × Int) (R := Bool) (fun a => [I a.1, I a.2.1, I a.2.2]) (fun r => (B r)) (fun a => zaE N a.1 a.2.1 a.2.2)
theorem K56 (N : Nat) : ∀ ds r, F56 N ds = some r → za9 Tryd.prog 56 ds r := zav fun a r h => drayageref07xin_ok N a.1 a.2.1 a.2.2 r h
theorem zaD {N : Nat} {p0 : Int} {p1 : Int} {p2 : Int} {r : Bool} (h : zaE N p0 p1 p2 = some r) : F56 N [I p0, I p1, I p2] = some (B r) := zaw (a := (p0, p1, p2)) (ij3 zev zev zev) h
noncomputable def S60 (N : Nat) : za1 := []
theorem O60 (N : Nat) : zaO Tryd.prog (zat (S60 N)) := zap (zaj.nil)
theorem drayageref02xright_ok (N : Nat) (p0 : Int) (r : Bool) (h : zcd N p0 = some r) : za9 Tryd.prog 60 [I p0] (B r) := by
  have O := And.intro mix (O60 N)
  refine zan Tryd.func60 (by kernel_rfl) C60 (bl Z) ?_
  unfold zcd at h
  unfold A60
  dsimp only [zbc]
  refine sq <| rq O <| m Z <| nl <| nx <| Sem.step [(2, (B ((decide (p0 ≥ 0)) && (decide (p0 ≤ 1048576)))))] [] (rq O ?_) ?_
  ·refine m Z <| o (d := (B (decide (p0 ≥ 0)))) (bo Z) Z <| m Z <| ?_
   rcases bb (decide (p0 ≥ 0)) with g1 | g1
   ·refine mo g1 Z <| q (d := (B (decide (p0 ≤ 1048576)))) (bo Z) g1 Z <| pT g1 Z <| m Z <| nl ⟨rfl, .same (sE Z (by rw [g1]; rfl) <| sZ)⟩
   ·refine TrQ.know (v := false) 5 Z g1 <| TrQ.skipG 2 Z <| pF Z Z <| m Z <| nl ⟨rfl, .same (sE Z (by rw [g1]; rfl) <| sZ)⟩
  ·refine Sem.ret mix ?_
   cases h
   exact ⟨.inr Z, _, _, Z, Z, DLe.of_nrm Z⟩
noncomputable def F60 (N : Nat) : List D → Option D := spec (A := Int) (R := Bool) (fun a => [I a]) (fun r => (B r)) (fun a => zcd N a)
theorem K60 (N : Nat) : ∀ ds r, F60 N ds = some r → za9 Tryd.prog 60 ds r := zav fun a r h => drayageref02xright_ok N a r h
theorem zeH {N : Nat} {p0 : Int} {r : Bool} (h : zcd N p0 = some r) : F60 N [I p0] = some (B r) := zaw (a := p0) (ij1 zev) h
noncomputable def S33 (N : Nat) : za1 := [(60, F60 N)]
theorem O33 (N : Nat) : zaO Tryd.prog (zat (S33 N)) := zap (zaj.cons (K60 N) <| zaj.nil)
theorem drayageref02xRight_ok (N : Nat) (p0 : zac) (r : Bool) (h : zbd N p0 = some r) : za9 Tryd.prog 33 [(ST (zac.enc p0))] (B r) := by
  have O := And.intro mix (O33 N)
  refine zan Tryd.func33 (by kernel_rfl) C33 (bl Z) ?_
  unfold zbd at h
  unfold A33
  dsimp only [zbc]
  refine sq <| rq O <| o (d := (.ptr 0 0 4)) (σ1 := [cm (zac.enc p0)]) (zba Z Z Z Z) Z <| m Z <| nl <| nx <| Sem.join (fun (x9 : Bool) => [(2, (B x9))]) (fun (x9 : Bool) => [cm (zac.enc p0)]) (fun (x9 : Bool) => zci N  x9 = some r) ?_ (rq O ?_)
  ·intro x9 h
   try dsimp only at h ⊢
   unfold zci at h
   refine Sem.ret mix ?_
   cases h
   exact ⟨.inr Z, _, _, Z, Z, DLe.of_nrm Z⟩
  ·refine o (d := (.ptr 0 0 4)) (zaf Z) Z <| l (d := (I p0.Cpu)) Z <| ?_
   obtain ⟨r10, e11, h⟩ := bs h
   refine o (d := (B r10)) (ca (zeH e11) Z) Z <| m Z <| ?_
   rcases bb r10 with g1 | g1
   ·rw [if_pos g1] at h
    refine q (d := (.ptr 0 1 4)) (zaf Z) g1 Z <| lo (d := (I p0.Mem)) g1 Z <| ?_
    obtain ⟨r12, e13, h⟩ := bs h
    refine q (d := (B r12)) (ca (zeH e13) Z) g1 Z <| pT g1 Z <| m Z <| ?_
    rcases bb r12 with g2 | g2
    ·rw [if_pos g2] at h
     refine q (d := (.ptr 0 2 4)) (zaf Z) g2 Z <| lo (d := (I p0.Gpu)) g2 Z <| ?_
     obtain ⟨r14, e15, h⟩ := bs h
     refine q (d := (B r14)) (ca (zeH e15) Z) g2 Z <| pT g2 Z <| m Z <| ?_
     rcases bb r14 with g3 | g3
     ·rw [if_pos g3] at h
      refine q (d := (.ptr 0 3 4)) (zaf Z) g3 Z <| lo (d := (I p0.Lic)) g3 Z <| ?_
      obtain ⟨r16, e17, h⟩ := bs h
      refine q (d := (B r16)) (ca (zeH e17) Z) g3 Z <| pT g3 Z <| m Z <| nl ?_
      exact ⟨r16, h, .same (sS Z <| sZ)⟩
     ·rw [if_neg (zaH g3)] at h
      refine TrQ.know (v := false) 16 Z g3 <| TrQ.skipG 3 Z <| pF Z Z <| m Z <| nl ?_
      exact ⟨false, h, .same (sS Z <| sZ)⟩
    ·rw [if_neg (zaH g2)] at h
     refine TrQ.know (v := false) 11 Z g2 <| TrQ.skipG 3 Z <| pF Z Z <| m Z <| TrQ.skipG 3 Z <| pF Z Z <| m Z <| nl ?_
     exact ⟨false, h, .same (sS Z <| sZ)⟩
   ·rw [if_neg (zaH g1)] at h
    refine TrQ.know (v := false) 6 Z g1 <| TrQ.skipG 3 Z <| pF Z Z <| m Z <| TrQ.skipG 3 Z <| pF Z Z <| m Z <| TrQ.skipG 3 Z <| pF Z Z <| m Z <| nl ?_
    exact ⟨false, h, .same (sS Z <| sZ)⟩
noncomputable def F33 (N : Nat) : List D → Option D := spec (A := zac) (R := Bool) (fun a => [(ST (zac.enc a))]) (fun r => (B r)) (fun a => zbd N a)
theorem K33 (N : Nat) : ∀ ds r, F33 N ds = some r → za9 Tryd.prog 33 ds r := zav fun a r h => drayageref02xRight_ok N a r h
theorem zcR {N : Nat} {p0 : zac} {r : Bool} (h : zbd N p0 = some r) : F33 N [(ST (zac.enc p0))] = some (B r) := zaw (a := p0) (ij1 (zbx zac.inj)) h
noncomputable def S57 (N : Nat) : za1 := [(33, F33 N), (56, F56 N)]
theorem O57 (N : Nat) : zaO Tryd.prog (zat (S57 N)) := zap (zaj.cons (K33 N) <| zaj.cons (K56 N) <| zaj.nil)
theorem drayageref07xnodes_ok (N : Nat) (p0 : zab) (r : Bool) (h : zdW N p0 = some r) : za9 Tryd.prog 57 [(ST (zab.enc p0))] (B r) := by
  have O := And.intro mix (O57 N)
  refine zan Tryd.func57 (by kernel_rfl) C57 (bl Z) ?_
  unfold zdW at h
  unfold A57
  dsimp only [zbc]
  refine sq <| rq O <| o (d := (.ptr 0 0 18)) (σ1 := [cm (zab.enc p0)]) (zba Z Z Z Z) Z <| m Z <| nl <| nx <| sq <| sq <| rq O <| m Z <| nl <| nx <| Sem.block <| Sem.rounds (V := Int) (fun (x1 : Int) => [(1, (.ptr 0 0 18)), (3, (I x1))]) (fun (x1 : Int) => [cm (zab.enc p0)]) (fun k v => zcn N p0 k v = some r) N 0 h (fun v h => by unfold zcn at h; cases h) ?_ (sS Z <| sS Z <| sZ) Z
  intro kL0 x1 h
  try dsimp only at h ⊢
  unfold zcn at h
  unfold A57xl0
  refine sq <| sq <| rq O <| m Z <| o (d := (.ptr 0 0 18)) (zaf Z) Z <| l (d := (SL zac.enc p0.Nodes)) Z <| o (d := (I (p0.Nodes.length : Int))) (zaA Z) Z <| o (d := (B (decide (x1 < (p0.Nodes.length : Int))))) (bo Z) Z <| nl <| nx <| Sem.cond Z (fun c2 => ?_) (fun c2 => ?_)
  ·rw [if_pos c2] at h
   refine Sem.skip mix <| nx <| sq <| Sem.block <| sq <| rq O <| o (d := (.ptr 0 0 18)) (zaf Z) Z <| l (d := (SL zac.enc p0.Nodes)) Z <| m Z <| ?_
   obtain ⟨a3, e4, h⟩ := bs h
   refine o (zaF Z Z e4 Z) Z <| o (d := (ST (zac.enc a3))) (zal Z Z) Z <| ?_
   obtain ⟨r5, e6, h⟩ := bs h
   refine o (d := (B r5)) (ca (zcR e6) Z) Z <| o (d := (B (!r5))) (zbA Z Z Z Z) Z <| nl <| nx <| Sem.cond Z (fun c7 => ?_) (fun c7 => ?_)
   ·rw [if_pos c7] at h
    refine sq <| rq O <| m Z <| nl <| nx <| Sem.ret mix <| nx <| nx <| nx ?_
    cases h
    exact ⟨.inr Z, _, _, Z, Z, DLe.of_nrm Z⟩
   ·rw [if_neg (zaH c7)] at h
    refine Sem.skip mix <| nx <| nx <| rq O <| m Z <| o (d := (I (IntKind.i64.wrap (x1 + 1)))) (bo Z) Z <| m Z <| nl ?_
    exact ⟨(IntKind.i64.wrap (x1 + 1)), h, .same (sS Z <| sS Z <| sZ)⟩
  ·rw [if_neg (zaH c2)] at h
   refine Sem.exit mix <| nx <| ⟨_, _, .refl, fun _ => ?_, fun hh => absurd Z hh⟩
   refine nx <| sq <| rq O <| o (d := (.ptr 0 0 18)) (zaf Z) Z <| l (d := (SL zac.enc p0.Nodes)) Z <| o (d := (I (p0.Nodes.length : Int))) (zaA Z) Z <| ?_
   obtain ⟨r8, e9, h⟩ := bs h
   refine o (d := (B r8)) (ca (zaD e9) Z) Z <| m Z <| nl <| nx <| Sem.ret mix ?_
   cases h
   exact ⟨.inr Z, _, _, Z, Z, DLe.of_nrm Z⟩
noncomputable def F57 (N : Nat) : List D → Option D := spec (A := zab) (R := Bool) (fun a => [(ST (zab.enc a))]) (fun r => (B r)) (fun a => zdW N a)
theorem K57 (N : Nat) : ∀ ds r, F57 N ds = some r → za9 Tryd.prog 57 ds r := zav fun a r h => drayageref07xnodes_ok N a r h
theorem drayageref07xnodes_eq {N : Nat} {p0 : zab} {r : Bool} (h : zdW N p0 = some r) : F57 N [(ST (zab.enc p0))] = some (B r) := zaw (a := p0) (ij1 (zbx zab.inj)) h
noncomputable def S83 (N : Nat) : za1 := []
theorem O83 (N : Nat) : zaO Tryd.prog (zat (S83 N)) := zap (zaj.nil)
theorem drayageref07xRising_ok (N : Nat) (p0 : (List Int)) (p1 : Int) (r : Bool) (h : zcL N p0 p1 = some r) : za9 Tryd.prog 83 [(SL zah p0), I p1] (B r) := by
  have O := And.intro mix (O83 N)
  refine zan Tryd.func83 (by kernel_rfl) C83 (bl Z) ?_
  unfold zcL at h
  unfold A83
  dsimp only [zbc]
  refine sq <| rq O <| m Z <| nl <| nx <| sq <| sq <| rq O <| m Z <| nl <| nx <| Sem.block <| Sem.rounds (V := Int) (fun (x1 : Int) => [(0, (SL zah p0)), (1, (I p1)), (5, (I x1))]) (fun (x1 : Int) => []) (fun k v => zaY N p0 p1 k v = some r) N 0 h (fun v h => by unfold zaY at h; cases h) ?_ (sS Z <| sS Z <| sS Z <| sZ) Z
  intro kL0 x1 h
  try dsimp only at h ⊢
  unfold zaY at h
  unfold A83xl0
  refine sq <| sq <| rq O <| m Z <| m Z <| o (d := (I (p0.length : Int))) (zaA Z) Z <| o (d := (B (decide (x1 < (p0.length : Int))))) (bo Z) Z <| nl <| nx <| Sem.cond Z (fun c2 => ?_) (fun c2 => ?_)
  ·rw [if_pos c2] at h
   refine Sem.skip mix <| nx <| sq <| Sem.block <| Sem.join (fun (x11 : Bool) => [(0, (SL zah p0)), (1, (I p1)), (5, (I x1)), (40, (B x11))]) (fun (x11 : Bool) => []) (fun (x11 : Bool) => zca N x1 (zaY N p0 p1 kL0) x11 = some r) ?_ (dq O ?_)
   ·intro x11 h
    try dsimp only at h ⊢
    unfold zca at h
    refine Sem.cond Z (fun c12 => ?_) (fun c12 => ?_)
    ·rw [if_pos c12] at h
     refine sq <| rq O <| m Z <| nl <| nx <| Sem.ret mix <| nx <| nx <| nx ?_
     cases h
     exact ⟨.inr Z, _, _, Z, Z, DLe.of_nrm Z⟩
    ·rw [if_neg (zaH c12)] at h
     refine Sem.skip mix <| nx <| nx <| rq O <| m Z <| o (d := (I (IntKind.i64.wrap (x1 + 1)))) (bo Z) Z <| m Z <| nl ?_
     exact ⟨(IntKind.i64.wrap (x1 + 1)), h, .same (sS Z <| sS Z <| sS Z <| sZ)⟩
   ·refine m Z <| m Z <| ?_
    obtain ⟨a13, e14, h⟩ := bs h
    refine o (zaF Z Z e14 Z) Z <| o (d := (I a13)) (zal Z Z) Z <| o (d := (B (decide (a13 < 0)))) (bo Z) Z <| m Z <| ?_
    rcases bb (decide (a13 < 0)) with g4 | g4
    ·rw [if_pos g4] at h
     refine TrQ.know (v := true) 17 Z g4 <| TrQ.skipG 6 Z <| pT Z Z <| m Z <| TrQ.skipG 14 Z <| pT Z Z <| nl ⟨by kernel_rfl, ?_⟩
     exact ⟨true, h, .same (sS Z <| sS Z <| sS Z <| sS Z <| sZ)⟩
    ·rw [if_neg (zaH g4)] at h
     refine mo g4 Z <| mo g4 Z <| ?_
     obtain ⟨a15, e16, h⟩ := bs h
     refine q (zaF Z Z e16 Z) g4 Z <| q (d := (I a15)) (zal Z Z) g4 Z <| mo g4 Z <| q (d := (B (decide (a15 ≥ p1)))) (bo Z) g4 Z <| pF g4 Z <| m Z <| ?_
     rcases bb (decide (a15 ≥ p1)) with g5 | g5
     ·rw [if_pos g5] at h
      refine TrQ.know (v := true) 25 Z g5 <| TrQ.skipG 14 Z <| pT Z Z <| nl ⟨by kernel_rfl, ?_⟩
      exact ⟨true, h, .same (sS Z <| sS Z <| sS Z <| sS Z <| sZ)⟩
     ·rw [if_neg (zaH g5)] at h
      refine mo g5 Z <| q (d := (B (decide (x1 > 0)))) (bo Z) g5 Z <| mo g5 Z <| ?_
      rcases bb (decide (x1 > 0)) with g6 | g6
      ·rw [if_pos g6] at h
       refine mo g6 Z <| mo g6 Z <| q (d := (I (IntKind.i64.wrap (x1 - 1)))) (bo Z) g6 Z <| ?_
       obtain ⟨a17, e18, h⟩ := bs h
       refine q (zaF Z Z e18 Z) g6 Z <| q (d := (I a17)) (zal Z Z) g6 Z <| mo g6 Z <| mo g6 Z <| ?_
       obtain ⟨a19, e20, h⟩ := bs h
       refine q (zaF Z Z e20 Z) g6 Z <| q (d := (I a19)) (zal Z Z) g6 Z <| q (d := (B (decide (a17 ≥ a19)))) (bo Z) g6 Z <| q (zeT Z g6 Z) g5 Z <| pF g5 Z <| nl ⟨by kernel_rfl, ?_⟩
       exact ⟨(decide (a17 ≥ a19)), h, .same (sS Z <| sS Z <| sS Z <| sS Z <| sZ)⟩
      ·rw [if_neg (zaH g6)] at h
       refine TrQ.know (v := false) 28 Z g6 <| TrQ.skipG 10 Z <| q (ze7 Z Z Z) g5 Z <| pF g5 Z <| nl ⟨by kernel_rfl, ?_⟩
       exact ⟨false, h, .same (sS Z <| sS Z <| sS Z <| sS Z <| sZ)⟩
  ·rw [if_neg (zaH c2)] at h
   refine Sem.exit mix <| nx <| ⟨_, _, .refl, fun _ => ?_, fun hh => absurd Z hh⟩
   refine nx <| sq <| rq O <| m Z <| nl <| nx <| Sem.ret mix ?_
   cases h
   exact ⟨.inr Z, _, _, Z, Z, DLe.of_nrm Z⟩
noncomputable def F83 (N : Nat) : List D → Option D := spec (A := (List Int) × Int) (R := Bool) (fun a => [(SL zah a.1), I a.2]) (fun r => (B r)) (fun a => zcL N a.1 a.2)
theorem K83 (N : Nat) : ∀ ds r, F83 N ds = some r → za9 Tryd.prog 83 ds r := zav fun a r h => drayageref07xRising_ok N a.1 a.2 r h
theorem drayageref07xRising_eq {N : Nat} {p0 : (List Int)} {p1 : Int} {r : Bool} (h : zcL N p0 p1 = some r) : F83 N [(SL zah p0), I p1] = some (B r) := zaw (a := (p0, p1)) (ij2 (zeM zcf) zev) h
noncomputable def S58 (N : Nat) : za1 := [(83, F83 N), (56, F56 N)]
theorem O58 (N : Nat) : zaO Tryd.prog (zat (S58 N)) := zap (zaj.cons (K83 N) <| zaj.cons (K56 N) <| zaj.nil)
theorem drayageref07xparts_ok (N : Nat) (p0 : zab) (r : Bool) (h : zdV N p0 = some r) : za9 Tryd.prog 58 [(ST (zab.enc p0))] (B r) := by
  have O := And.intro mix (O58 N)
  refine zan Tryd.func58 (by kernel_rfl) C58 (bl Z) ?_
  unfold zdV at h
  unfold A58
  dsimp only [zbc]
  refine sq <| rq O <| o (d := (.ptr 0 0 18)) (σ1 := [cm (zab.enc p0)]) (zba Z Z Z Z) Z <| m Z <| nl <| nx <| sq <| sq <| rq O <| m Z <| nl <| nx <| Sem.block <| Sem.rounds (V := Int) (fun (x1 : Int) => [(1, (.ptr 0 0 18)), (3, (I x1))]) (fun (x1 : Int) => [cm (zab.enc p0)]) (fun k v => zbD N p0 k v = some r) N 0 h (fun v h => by unfold zbD at h; cases h) ?_ (sS Z <| sS Z <| sZ) Z
  intro kL0 x1 h
  try dsimp only at h ⊢
  unfold zbD at h
  unfold A58xl0
  refine sq <| sq <| rq O <| m Z <| o (d := (.ptr 0 1 18)) (zaf Z) Z <| l (d := (SL (encL zah) p0.Parts)) Z <| o (d := (I (p0.Parts.length : Int))) (zaA Z) Z <| o (d := (B (decide (x1 < (p0.Parts.length : Int))))) (bo Z) Z <| nl <| nx <| Sem.cond Z (fun c2 => ?_) (fun c2 => ?_)
  ·rw [if_pos c2] at h
   refine Sem.skip mix <| nx <| sq <| Sem.block <| Sem.join (fun (x9 : Bool) => [(1, (.ptr 0 0 18)), (3, (I x1)), (29, (B x9))]) (fun (x9 : Bool) => [cm (zab.enc p0)]) (fun (x9 : Bool) => zdL N x1 (zbD N p0 kL0) x9 = some r) ?_ (dq O ?_)
   ·intro x9 h
    try dsimp only at h ⊢
    unfold zdL at h
    refine Sem.cond Z (fun c10 => ?_) (fun c10 => ?_)
    ·rw [if_pos c10] at h
     refine sq <| rq O <| m Z <| nl <| nx <| Sem.ret mix <| nx <| nx <| nx ?_
     cases h
     exact ⟨.inr Z, _, _, Z, Z, DLe.of_nrm Z⟩
    ·rw [if_neg (zaH c10)] at h
     refine Sem.skip mix <| nx <| nx <| rq O <| m Z <| o (d := (I (IntKind.i64.wrap (x1 + 1)))) (bo Z) Z <| m Z <| nl ?_
     exact ⟨(IntKind.i64.wrap (x1 + 1)), h, .same (sS Z <| sS Z <| sZ)⟩
   ·refine o (d := (.ptr 0 1 18)) (zaf Z) Z <| l (d := (SL (encL zah) p0.Parts)) Z <| m Z <| ?_
    obtain ⟨a11, e12, h⟩ := bs h
    refine o (zaF Z Z e12 Z) Z <| o (d := (SL zah a11)) (zal Z Z) Z <| o (d := (I (a11.length : Int))) (zaA Z) Z <| o (d := (B (decide ((a11.length : Int) < 1)))) (bo Z) Z <| m Z <| ?_
    rcases bb (decide ((a11.length : Int) < 1)) with g2 | g2
    ·rw [if_pos g2] at h
     refine TrQ.know (v := true) 18 Z g2 <| TrQ.skipG 10 Z <| pT Z Z <| nl ⟨by kernel_rfl, ?_⟩
     exact ⟨true, h, .same (sS Z <| sS Z <| sS Z <| sZ)⟩
    ·rw [if_neg (zaH g2)] at h
     refine q (d := (.ptr 0 1 18)) (zaf Z) g2 Z <| lo (d := (SL (encL zah) p0.Parts)) g2 Z <| mo g2 Z <| ?_
     obtain ⟨a13, e14, h⟩ := bs h
     refine q (zaF Z Z e14 Z) g2 Z <| q (d := (SL zah a13)) (zal Z Z) g2 Z <| q (d := (.ptr 0 0 18)) (zaf Z) g2 Z <| lo (d := (SL zac.enc p0.Nodes)) g2 Z <| q (d := (I (p0.Nodes.length : Int))) (zaA Z) g2 Z <| ?_
     obtain ⟨r15, e16, h⟩ := bs h
     refine q (d := (B r15)) (ca (drayageref07xRising_eq e16) Z) g2 Z <| q (d := (B (!r15))) (zbA Z Z Z Z) g2 Z <| pF g2 Z <| nl ⟨by kernel_rfl, ?_⟩
     exact ⟨(!r15), h, .same (sS Z <| sS Z <| sS Z <| sZ)⟩
  ·rw [if_neg (zaH c2)] at h
   refine Sem.exit mix <| nx <| ⟨_, _, .refl, fun _ => ?_, fun hh => absurd Z hh⟩
   refine nx <| sq <| rq O <| o (d := (.ptr 0 1 18)) (zaf Z) Z <| l (d := (SL (encL zah) p0.Parts)) Z <| o (d := (I (p0.Parts.length : Int))) (zaA Z) Z <| ?_
   obtain ⟨r17, e18, h⟩ := bs h
   refine o (d := (B r17)) (ca (zaD e18) Z) Z <| m Z <| nl <| nx <| Sem.ret mix ?_
   cases h
   exact ⟨.inr Z, _, _, Z, Z, DLe.of_nrm Z⟩
noncomputable def F58 (N : Nat) : List D → Option D := spec (A := zab) (R := Bool) (fun a => [(ST (zab.enc a))]) (fun r => (B r)) (fun a => zdV N a)
theorem K58 (N : Nat) : ∀ ds r, F58 N ds = some r → za9 Tryd.prog 58 ds r := zav fun a r h => drayageref07xparts_ok N a r h
theorem drayageref07xparts_eq {N : Nat} {p0 : zab} {r : Bool} (h : zdV N p0 = some r) : F58 N [(ST (zab.enc p0))] = some (B r) := zaw (a := p0) (ij1 (zbx zab.inj)) h
noncomputable def S59 (N : Nat) : za1 := [(83, F83 N), (56, F56 N)]
theorem O59 (N : Nat) : zaO Tryd.prog (zat (S59 N)) := zap (zaj.cons (K83 N) <| zaj.cons (K56 N) <| zaj.nil)
theorem drayageref07xqueues_ok (N : Nat) (p0 : zab) (r : Bool) (h : zdt N p0 = some r) : za9 Tryd.prog 59 [(ST (zab.enc p0))] (B r) := by
  have O := And.intro mix (O59 N)
  refine zan Tryd.func59 (by kernel_rfl) C59 (bl Z) ?_
  unfold zdt at h
  unfold A59
  dsimp only [zbc]
  refine sq <| rq O <| o (d := (.ptr 0 0 18)) (σ1 := [cm (zab.enc p0)]) (zba Z Z Z Z) Z <| m Z <| nl <| nx <| sq <| sq <| rq O <| m Z <| nl <| nx <| Sem.block <| Sem.rounds (V := Int) (fun (x1 : Int) => [(1, (.ptr 0 0 18)), (3, (I x1))]) (fun (x1 : Int) => [cm (zab.enc p0)]) (fun k v => zaN N p0 k v = some r) N 0 h (fun v h => by unfold zaN at h; cases h) ?_ (sS Z <| sS Z <| sZ) Z
  intro kL0 x1 h
  try dsimp only at h ⊢
  unfold zaN at h
  unfold A59xl0
  refine sq <| sq <| rq O <| m Z <| o (d := (.ptr 0 2 18)) (zaf Z) Z <| l (d := (SL zaq.enc p0.Queues)) Z <| o (d := (I (p0.Queues.length : Int))) (zaA Z) Z <| o (d := (B (decide (x1 < (p0.Queues.length : Int))))) (bo Z) Z <| nl <| nx <| Sem.cond Z (fun c2 => ?_) (fun c2 => ?_)
  ·rw [if_pos c2] at h
   refine Sem.skip mix <| nx <| sq <| Sem.block <| sq <| rq O <| o (d := (.ptr 0 2 18)) (zaf Z) Z <| l (d := (SL zaq.enc p0.Queues)) Z <| m Z <| ?_
   obtain ⟨a3, e4, h⟩ := bs h
   refine o (zaF Z Z e4 Z) Z <| o (d := (ST (zaq.enc a3))) (zal Z Z) Z <| o (d := (.ptr 1 0 6)) (σ1 := [cm (zab.enc p0), .cells [I 0, sn, I 0, I 0, I 0, I 0]]) (zaG Z Z) Z <| st (σ1 := [cm (zab.enc p0), cm (zaq.enc a3)]) Z <| nl <| nx <| Sem.join (fun (x15 : Bool) => [(1, (.ptr 0 0 18)), (3, (I x1)), (59, (B x15))]) (fun (x15 : Bool) => [cm (zab.enc p0), cm (zaq.enc a3)]) (fun (x15 : Bool) => zbf N x1 (zaN N p0 kL0) x15 = some r) ?_ (rq O ?_)
   ·intro x15 h
    try dsimp only at h ⊢
    unfold zbf at h
    refine Sem.cond Z (fun c16 => ?_) (fun c16 => ?_)
    ·rw [if_pos c16] at h
     refine sq <| rq O <| m Z <| nl <| nx <| Sem.ret mix <| nx <| nx <| nx ?_
     cases h
     exact ⟨.inr Z, _, _, Z, Z, DLe.of_nrm Z⟩
    ·rw [if_neg (zaH c16)] at h
     refine Sem.skip mix <| nx <| nx <| rq O <| m Z <| o (d := (I (IntKind.i64.wrap (x1 + 1)))) (bo Z) Z <| m Z <| nl ?_
     exact ⟨(IntKind.i64.wrap (x1 + 1)), h, .cut 1 (bl Z) (bl Z) (sS Z <| sS Z <| sZ) Z Z⟩
   ·refine o (d := (.ptr 1 0 6)) (zaf Z) Z <| l (d := (I a3.Part)) Z <| o (d := (B (decide (a3.Part < 0)))) (bo Z) Z <| m Z <| ?_
    rcases bb (decide (a3.Part < 0)) with g7 | g7
    ·rw [if_pos g7] at h
     refine TrQ.know (v := true) 20 Z g7 <| TrQ.skipG 6 Z <| pT Z Z <| m Z <| TrQ.skipG 6 Z <| pT Z Z <| m Z <| TrQ.skipG 4 Z <| pT Z Z <| m Z <| TrQ.skipG 4 Z <| pT Z Z <| m Z <| TrQ.skipG 4 Z <| pT Z Z <| m Z <| TrQ.skipG 4 Z <| pT Z Z <| nl ?_
     exact ⟨true, h, .same (sS Z <| sS Z <| sS Z <| sZ)⟩
    ·rw [if_neg (zaH g7)] at h
     refine q (d := (.ptr 1 0 6)) (zaf Z) g7 Z <| lo (d := (I a3.Part)) g7 Z <| q (d := (.ptr 0 1 18)) (zaf Z) g7 Z <| lo (d := (SL (encL zah) p0.Parts)) g7 Z <| q (d := (I (p0.Parts.length : Int))) (zaA Z) g7 Z <| q (d := (B (decide (a3.Part ≥ (p0.Parts.length : Int))))) (bo Z) g7 Z <| pF g7 Z <| m Z <| ?_
     rcases bb (decide (a3.Part ≥ (p0.Parts.length : Int))) with g8 | g8
     ·rw [if_pos g8] at h
      refine TrQ.know (v := true) 28 Z g8 <| TrQ.skipG 6 Z <| pT Z Z <| m Z <| TrQ.skipG 4 Z <| pT Z Z <| m Z <| TrQ.skipG 4 Z <| pT Z Z <| m Z <| TrQ.skipG 4 Z <| pT Z Z <| m Z <| TrQ.skipG 4 Z <| pT Z Z <| nl ?_
      exact ⟨true, h, .same (sS Z <| sS Z <| sS Z <| sZ)⟩
     ·rw [if_neg (zaH g8)] at h
      refine q (d := (.ptr 1 1 6)) (zaf Z) g8 Z <| lo (d := (SL zah a3.Users)) g8 Z <| q (d := (.ptr 0 3 18)) (zaf Z) g8 Z <| lo (d := (I p0.Users)) g8 Z <| ?_
      obtain ⟨r17, e18, h⟩ := bs h
      refine q (d := (B r17)) (ca (drayageref07xRising_eq e18) Z) g8 Z <| q (d := (B (!r17))) (zbA Z Z Z Z) g8 Z <| pF g8 Z <| m Z <| ?_
      rcases bb (!r17) with g9 | g9
      ·rw [if_pos g9] at h
       refine TrQ.know (v := true) 36 Z g9 <| TrQ.skipG 4 Z <| pT Z Z <| m Z <| TrQ.skipG 4 Z <| pT Z Z <| m Z <| TrQ.skipG 4 Z <| pT Z Z <| m Z <| TrQ.skipG 4 Z <| pT Z Z <| nl ?_
       exact ⟨true, h, .same (sS Z <| sS Z <| sS Z <| sZ)⟩
      ·rw [if_neg (zaH g9)] at h
       refine q (d := (.ptr 1 2 6)) (zaf Z) g9 Z <| lo (d := (I a3.MaxJobs)) g9 Z <| ?_
       obtain ⟨r19, e20, h⟩ := bs h
       refine q (d := (B r19)) (ca (zaD e20) Z) g9 Z <| q (d := (B (!r19))) (zbA Z Z Z Z) g9 Z <| pF g9 Z <| m Z <| ?_
       rcases bb (!r19) with g10 | g10
       ·rw [if_pos g10] at h
        refine TrQ.know (v := true) 42 Z g10 <| TrQ.skipG 4 Z <| pT Z Z <| m Z <| TrQ.skipG 4 Z <| pT Z Z <| m Z <| TrQ.skipG 4 Z <| pT Z Z <| nl ?_
        exact ⟨true, h, .same (sS Z <| sS Z <| sS Z <| sZ)⟩
       ·rw [if_neg (zaH g10)] at h
        refine q (d := (.ptr 1 3 6)) (zaf Z) g10 Z <| lo (d := (I a3.MaxRun)) g10 Z <| ?_
        obtain ⟨r21, e22, h⟩ := bs h
        refine q (d := (B r21)) (ca (zaD e22) Z) g10 Z <| q (d := (B (!r21))) (zbA Z Z Z Z) g10 Z <| pF g10 Z <| m Z <| ?_
        rcases bb (!r21) with g11 | g11
        ·rw [if_pos g11] at h
         refine TrQ.know (v := true) 48 Z g11 <| TrQ.skipG 4 Z <| pT Z Z <| m Z <| TrQ.skipG 4 Z <| pT Z Z <| nl ?_
         exact ⟨true, h, .same (sS Z <| sS Z <| sS Z <| sZ)⟩
        ·rw [if_neg (zaH g11)] at h
         refine q (d := (.ptr 1 4 6)) (zaf Z) g11 Z <| lo (d := (I a3.MaxUser)) g11 Z <| ?_
         obtain ⟨r23, e24, h⟩ := bs h
         refine q (d := (B r23)) (ca (zaD e24) Z) g11 Z <| q (d := (B (!r23))) (zbA Z Z Z Z) g11 Z <| pF g11 Z <| m Z <| ?_
         rcases bb (!r23) with g12 | g12
         ·rw [if_pos g12] at h
          refine TrQ.know (v := true) 54 Z g12 <| TrQ.skipG 4 Z <| pT Z Z <| nl ?_
          exact ⟨true, h, .same (sS Z <| sS Z <| sS Z <| sZ)⟩
         ·rw [if_neg (zaH g12)] at h
          refine q (d := (.ptr 1 5 6)) (zaf Z) g12 Z <| lo (d := (I a3.Qos)) g12 Z <| ?_
          obtain ⟨r25, e26, h⟩ := bs h
          refine q (d := (B r25)) (ca (zaD e26) Z) g12 Z <| q (d := (B (!r25))) (zbA Z Z Z Z) g12 Z <| pF g12 Z <| nl ?_
          exact ⟨(!r25), h, .same (sS Z <| sS Z <| sS Z <| sZ)⟩
  ·rw [if_neg (zaH c2)] at h
   refine Sem.exit mix <| nx <| ⟨_, _, .refl, fun _ => ?_, fun hh => absurd Z hh⟩
   refine nx <| sq <| rq O <| o (d := (.ptr 0 2 18)) (zaf Z) Z <| l (d := (SL zaq.enc p0.Queues)) Z <| o (d := (I (p0.Queues.length : Int))) (zaA Z) Z <| ?_
   obtain ⟨r27, e28, h⟩ := bs h
   refine o (d := (B r27)) (ca (zaD e28) Z) Z <| m Z <| nl <| nx <| Sem.ret mix ?_
   cases h
   exact ⟨.inr Z, _, _, Z, Z, DLe.of_nrm Z⟩
noncomputable def F59 (N : Nat) : List D → Option D := spec (A := zab) (R := Bool) (fun a => [(ST (zab.enc a))]) (fun r => (B r)) (fun a => zdt N a)
theorem K59 (N : Nat) : ∀ ds r, F59 N ds = some r → za9 Tryd.prog 59 ds r := zav fun a r h => drayageref07xqueues_ok N a r h
theorem drayageref07xqueues_eq {N : Nat} {p0 : zab} {r : Bool} (h : zdt N p0 = some r) : F59 N [(ST (zab.enc p0))] = some (B r) := zaw (a := p0) (ij1 (zbx zab.inj)) h
noncomputable def S30 (N : Nat) : za1 := [(56, F56 N), (57, F57 N), (58, F58 N), (59, F59 N)]
theorem O30 (N : Nat) : zaO Tryd.prog (zat (S30 N)) := zap (zaj.cons (K56 N) <| zaj.cons (K57 N) <| zaj.cons (K58 N) <| zaj.cons (K59 N) <| zaj.nil)
theorem drayageref07xFlaw_ok (N : Nat) (p0 : zab) (r : ByteArray) (h : zdq N p0 = some r) : za9 Tryd.prog 30 [(ST (zab.enc p0))] (.c (.lit (.string r))) := by
  have O := And.intro mix (O30 N)
  refine zan Tryd.func30 (by kernel_rfl) C30 (bl Z) ?_
  unfold zdq at h
  unfold A30
  dsimp only [zbc]
  refine sq <| rq O <| o (d := (.ptr 0 0 18)) (σ1 := [cm (zab.enc p0)]) (zba Z Z Z Z) Z <| m Z <| nl <| nx <| sq <| rq O <| o (d := (.ptr 0 4 18)) (zaf Z) Z <| l (d := (ST (za6.enc p0.Weights))) Z <| o (d := (.ptr 1 0 4)) (σ1 := [cm (zab.enc p0), .cells [I 0, I 0, I 0, I 0]]) (zaG Z Z) Z <| st (σ1 := [cm (zab.enc p0), cm (za6.enc p0.Weights)]) Z <| nl <| nx <| Sem.join (fun (x9 : Bool) => [(1, (.ptr 0 0 18)), (4, (B x9))]) (fun (x9 : Bool) => [cm (zab.enc p0), cm (za6.enc p0.Weights)]) (fun (x9 : Bool) => zb5 N p0 x9 = some r) ?_ (rq O ?_)
  ·intro x9 h
   try dsimp only at h ⊢
   unfold zb5 at h
   refine sq <| rq O <| o (d := (OS 1 2 15)) (σ1 := [cm (zab.enc p0), cm (za6.enc p0.Weights), OB encS ([(⟨#[78, 111, 100, 101, 115]⟩ : ByteArray), (⟨#[80, 97, 114, 116, 115]⟩ : ByteArray), (⟨#[85, 115, 101, 114, 115]⟩ : ByteArray), (⟨#[81, 117, 101, 117, 101, 115]⟩ : ByteArray), (⟨#[87, 101, 105, 103, 104, 116, 115]⟩ : ByteArray), (⟨#[68, 101, 99, 97, 121]⟩ : ByteArray), (⟨#[77, 111, 100, 101]⟩ : ByteArray), (⟨#[74, 111, 98, 115]⟩ : ByteArray), (⟨#[73, 100, 115]⟩ : ByteArray), (⟨#[86, 101, 114, 115, 105, 111, 110, 115]⟩ : ByteArray), (⟨#[76, 105, 110, 103, 101, 114]⟩ : ByteArray), (⟨#[75, 101, 101, 112]⟩ : ByteArray), (⟨#[73, 110]⟩ : ByteArray), (⟨#[79, 117, 116]⟩ : ByteArray), (⟨#[67, 97, 99, 104, 101]⟩ : ByteArray)] : List ByteArray)]) (zaL (f := encS) (l := ([(⟨#[78, 111, 100, 101, 115]⟩ : ByteArray), (⟨#[80, 97, 114, 116, 115]⟩ : ByteArray), (⟨#[85, 115, 101, 114, 115]⟩ : ByteArray), (⟨#[81, 117, 101, 117, 101, 115]⟩ : ByteArray), (⟨#[87, 101, 105, 103, 104, 116, 115]⟩ : ByteArray), (⟨#[68, 101, 99, 97, 121]⟩ : ByteArray), (⟨#[77, 111, 100, 101]⟩ : ByteArray), (⟨#[74, 111, 98, 115]⟩ : ByteArray), (⟨#[73, 100, 115]⟩ : ByteArray), (⟨#[86, 101, 114, 115, 105, 111, 110, 115]⟩ : ByteArray), (⟨#[76, 105, 110, 103, 101, 114]⟩ : ByteArray), (⟨#[75, 101, 101, 112]⟩ : ByteArray), (⟨#[73, 110]⟩ : ByteArray), (⟨#[79, 117, 116]⟩ : ByteArray), (⟨#[67, 97, 99, 104, 101]⟩ : ByteArray)] : List ByteArray)) (cs := ((([(⟨#[78, 111, 100, 101, 115]⟩ : ByteArray), (⟨#[80, 97, 114, 116, 115]⟩ : ByteArray), (⟨#[85, 115, 101, 114, 115]⟩ : ByteArray), (⟨#[81, 117, 101, 117, 101, 115]⟩ : ByteArray), (⟨#[87, 101, 105, 103, 104, 116, 115]⟩ : ByteArray), (⟨#[68, 101, 99, 97, 121]⟩ : ByteArray), (⟨#[77, 111, 100, 101]⟩ : ByteArray), (⟨#[74, 111, 98, 115]⟩ : ByteArray), (⟨#[73, 100, 115]⟩ : ByteArray), (⟨#[86, 101, 114, 115, 105, 111, 110, 115]⟩ : ByteArray), (⟨#[76, 105, 110, 103, 101, 114]⟩ : ByteArray), (⟨#[75, 101, 101, 112]⟩ : ByteArray), (⟨#[73, 110]⟩ : ByteArray), (⟨#[79, 117, 116]⟩ : ByteArray), (⟨#[67, 97, 99, 104, 101]⟩ : ByteArray)] : List ByteArray)).flatMap encS).map .c) (by kernel_rfl) Z Z (fun _ => Z) Z Z Z) Z <| m Z <| nl <| nx <| sq <| dq O <| l (d := (ST (zab.enc p0))) Z <| ?_
   obtain ⟨r10, e11, h⟩ := bs h
   refine o (d := (B r10)) (ca (drayageref07xnodes_eq e11) Z) Z <| l (d := (ST (zab.enc p0))) Z <| ?_
   obtain ⟨r12, e13, h⟩ := bs h
   refine o (d := (B r12)) (ca (drayageref07xparts_eq e13) Z) Z <| o (d := (.ptr 0 3 18)) (zaf Z) Z <| l (d := (I p0.Users)) Z <| ?_
   obtain ⟨r14, e15, h⟩ := bs h
   refine o (d := (B r14)) (ca (zaD e15) Z) Z <| l (d := (ST (zab.enc p0))) Z <| ?_
   obtain ⟨r16, e17, h⟩ := bs h
   refine o (d := (B r16)) (ca (drayageref07xqueues_eq e17) Z) Z <| m Z <| o (d := (.ptr 0 8 18)) (zaf Z) Z <| l (d := (I p0.Decay)) Z <| ?_
   obtain ⟨r18, e19, h⟩ := bs h
   refine o (d := (B r18)) (ca (zaD e19) Z) Z <| o (d := (.ptr 0 9 18)) (zaf Z) Z <| l (d := (I p0.Mode)) Z <| ?_
   obtain ⟨r20, e21, h⟩ := bs h
   refine o (d := (B r20)) (ca (zaD e21) Z) Z <| o (d := (.ptr 0 10 18)) (zaf Z) Z <| l (d := (I p0.Jobs)) Z <| ?_
   obtain ⟨r22, e23, h⟩ := bs h
   refine o (d := (B r22)) (ca (zaD e23) Z) Z <| o (d := (.ptr 0 11 18)) (zaf Z) Z <| l (d := (I p0.Ids)) Z <| ?_
   obtain ⟨r24, e25, h⟩ := bs h
   refine o (d := (B r24)) (ca (zaD e25) Z) Z <| o (d := (.ptr 0 12 18)) (zaf Z) Z <| l (d := (I p0.Versions)) Z <| ?_
   obtain ⟨r26, e27, h⟩ := bs h
   refine o (d := (B r26)) (ca (zaD e27) Z) Z <| o (d := (.ptr 0 13 18)) (zaf Z) Z <| l (d := (I p0.Linger)) Z <| ?_
   obtain ⟨r28, e29, h⟩ := bs h
   refine o (d := (B r28)) (ca (zaD e29) Z) Z <| o (d := (.ptr 0 14 18)) (zaf Z) Z <| l (d := (I p0.Keep)) Z <| ?_
   obtain ⟨r30, e31, h⟩ := bs h
   refine o (d := (B r30)) (ca (zaD e31) Z) Z <| o (d := (.ptr 0 15 18)) (zaf Z) Z <| l (d := (I p0.In)) Z <| ?_
   obtain ⟨r32, e33, h⟩ := bs h
   refine o (d := (B r32)) (ca (zaD e33) Z) Z <| o (d := (.ptr 0 16 18)) (zaf Z) Z <| l (d := (I p0.Out)) Z <| ?_
   obtain ⟨r34, e35, h⟩ := bs h
   refine o (d := (B r34)) (ca (zaD e35) Z) Z <| o (d := (.ptr 0 17 18)) (zaf Z) Z <| l (d := (I p0.Cache)) Z <| ?_
   obtain ⟨r36, e37, h⟩ := bs h
   refine o (d := (B r36)) (ca (zaD e37) Z) Z <| o (d := (OS 1 3 15)) (σ1 := [cm (zab.enc p0), cm (za6.enc p0.Weights), OB encS ([(⟨#[78, 111, 100, 101, 115]⟩ : ByteArray), (⟨#[80, 97, 114, 116, 115]⟩ : ByteArray), (⟨#[85, 115, 101, 114, 115]⟩ : ByteArray), (⟨#[81, 117, 101, 117, 101, 115]⟩ : ByteArray), (⟨#[87, 101, 105, 103, 104, 116, 115]⟩ : ByteArray), (⟨#[68, 101, 99, 97, 121]⟩ : ByteArray), (⟨#[77, 111, 100, 101]⟩ : ByteArray), (⟨#[74, 111, 98, 115]⟩ : ByteArray), (⟨#[73, 100, 115]⟩ : ByteArray), (⟨#[86, 101, 114, 115, 105, 111, 110, 115]⟩ : ByteArray), (⟨#[76, 105, 110, 103, 101, 114]⟩ : ByteArray), (⟨#[75, 101, 101, 112]⟩ : ByteArray), (⟨#[73, 110]⟩ : ByteArray), (⟨#[79, 117, 116]⟩ : ByteArray), (⟨#[67, 97, 99, 104, 101]⟩ : ByteArray)] : List ByteArray), OB encB ([r10, r12, r14, r16, x9, r18, r20, r22, r24, r26, r28, r30, r32, r34, r36] : List Bool)]) (zaL (f := encB) (l := ([r10, r12, r14, r16, x9, r18, r20, r22, r24, r26, r28, r30, r32, r34, r36] : List Bool)) (cs := ((([r10, r12, r14, r16, x9, r18, r20, r22, r24, r26, r28, r30, r32, r34, r36] : List Bool)).flatMap encB).map .c) (by kernel_rfl) Z Z (fun _ => Z) Z Z Z) Z <| m Z <| nl ⟨by kernel_rfl, ?_⟩
   refine nx <| sq <| sq <| rq O <| m Z <| nl <| nx <| Sem.block <| Sem.rounds (V := Int) (fun (x38 : Int) => [(5, (OS 1 2 (([(⟨#[78, 111, 100, 101, 115]⟩ : ByteArray), (⟨#[80, 97, 114, 116, 115]⟩ : ByteArray), (⟨#[85, 115, 101, 114, 115]⟩ : ByteArray), (⟨#[81, 117, 101, 117, 101, 115]⟩ : ByteArray), (⟨#[87, 101, 105, 103, 104, 116, 115]⟩ : ByteArray), (⟨#[68, 101, 99, 97, 121]⟩ : ByteArray), (⟨#[77, 111, 100, 101]⟩ : ByteArray), (⟨#[74, 111, 98, 115]⟩ : ByteArray), (⟨#[73, 100, 115]⟩ : ByteArray), (⟨#[86, 101, 114, 115, 105, 111, 110, 115]⟩ : ByteArray), (⟨#[76, 105, 110, 103, 101, 114]⟩ : ByteArray), (⟨#[75, 101, 101, 112]⟩ : ByteArray), (⟨#[73, 110]⟩ : ByteArray), (⟨#[79, 117, 116]⟩ : ByteArray), (⟨#[67, 97, 99, 104, 101]⟩ : ByteArray)] : List ByteArray).length))), (6, (OS 1 3 (([r10, r12, r14, r16, x9, r18, r20, r22, r24, r26, r28, r30, r32, r34, r36] : List Bool).length))), (7, (I x38))]) (fun (x38 : Int) => [cm (zab.enc p0), cm (za6.enc p0.Weights), OB encS ([(⟨#[78, 111, 100, 101, 115]⟩ : ByteArray), (⟨#[80, 97, 114, 116, 115]⟩ : ByteArray), (⟨#[85, 115, 101, 114, 115]⟩ : ByteArray), (⟨#[81, 117, 101, 117, 101, 115]⟩ : ByteArray), (⟨#[87, 101, 105, 103, 104, 116, 115]⟩ : ByteArray), (⟨#[68, 101, 99, 97, 121]⟩ : ByteArray), (⟨#[77, 111, 100, 101]⟩ : ByteArray), (⟨#[74, 111, 98, 115]⟩ : ByteArray), (⟨#[73, 100, 115]⟩ : ByteArray), (⟨#[86, 101, 114, 115, 105, 111, 110, 115]⟩ : ByteArray), (⟨#[76, 105, 110, 103, 101, 114]⟩ : ByteArray), (⟨#[75, 101, 101, 112]⟩ : ByteArray), (⟨#[73, 110]⟩ : ByteArray), (⟨#[79, 117, 116]⟩ : ByteArray), (⟨#[67, 97, 99, 104, 101]⟩ : ByteArray)] : List ByteArray), OB encB ([r10, r12, r14, r16, x9, r18, r20, r22, r24, r26, r28, r30, r32, r34, r36] : List Bool)]) (fun k v => zb6 N x9 r10 r12 r14 r16 r18 r20 r22 r24 r26 r28 r30 r32 r34 r36 k v = some r) N 0 h (fun v h => by unfold zb6 at h; cases h) ?_ (sE Z (by simp) <| sE Z (by simp) <| sS Z <| sZ) Z
   intro kL1 x38 h
   try dsimp only at h ⊢
   unfold zb6 at h
   unfold A30xl0
   refine sq <| sq <| rq O <| m Z <| o (d := (B (decide (x38 < 15)))) (bo Z) Z <| nl <| nx <| Sem.cond Z (fun c39 => ?_) (fun c39 => ?_)
   ·rw [if_pos c39] at h
    refine Sem.skip mix <| nx <| sq <| Sem.block <| sq <| rq O <| m Z <| m Z <| ?_
    obtain ⟨a40, e41, h⟩ := bs h
    refine o (d := (.ptr 3 (x38.toNat * 1) ((([r10, r12, r14, r16, x9, r18, r20, r22, r24, r26, r28, r30, r32, r34, r36] : List Bool).length) * 1))) (ze5 (f := encB) (fun _ => Z) Z Z Z Z e41) Z <| o (d := (B a40)) (op_loade (f := encB) (o := 0) (fun _ => Z) Z Z Z Z (at_get e41) Z) Z <| o (d := (B (!a40))) (zbA Z Z Z Z) Z <| nl <| nx <| Sem.cond Z (fun c42 => ?_) (fun c42 => ?_)
    ·rw [if_pos c42] at h
     refine sq <| rq O <| m Z <| m Z <| ?_
     obtain ⟨a43, e44, h⟩ := bs h
     refine o (d := (.ptr 2 (x38.toNat * 1) ((([(⟨#[78, 111, 100, 101, 115]⟩ : ByteArray), (⟨#[80, 97, 114, 116, 115]⟩ : ByteArray), (⟨#[85, 115, 101, 114, 115]⟩ : ByteArray), (⟨#[81, 117, 101, 117, 101, 115]⟩ : ByteArray), (⟨#[87, 101, 105, 103, 104, 116, 115]⟩ : ByteArray), (⟨#[68, 101, 99, 97, 121]⟩ : ByteArray), (⟨#[77, 111, 100, 101]⟩ : ByteArray), (⟨#[74, 111, 98, 115]⟩ : ByteArray), (⟨#[73, 100, 115]⟩ : ByteArray), (⟨#[86, 101, 114, 115, 105, 111, 110, 115]⟩ : ByteArray), (⟨#[76, 105, 110, 103, 101, 114]⟩ : ByteArray), (⟨#[75, 101, 101, 112]⟩ : ByteArray), (⟨#[73, 110]⟩ : ByteArray), (⟨#[79, 117, 116]⟩ : ByteArray), (⟨#[67, 97, 99, 104, 101]⟩ : ByteArray)] : List ByteArray).length) * 1))) (ze5 (f := encS) (fun _ => Z) Z Z Z Z e44) Z <| o (d := (.c (.lit (.string a43)))) (op_loade (f := encS) (o := 0) (fun _ => Z) Z Z Z Z (at_get e44) Z) Z <| m Z <| nl <| nx <| Sem.ret mix <| nx <| nx <| nx ?_
     cases h
     exact ⟨.inr Z, _, _, Z, Z, DLe.of_nrm Z⟩
    ·rw [if_neg (zaH c42)] at h
     refine Sem.skip mix <| nx <| nx <| rq O <| m Z <| o (d := (I (IntKind.i64.wrap (x38 + 1)))) (bo Z) Z <| m Z <| nl ?_
     exact ⟨(IntKind.i64.wrap (x38 + 1)), h, .same (sS Z <| sS Z <| sS Z <| sZ)⟩
   ·rw [if_neg (zaH c39)] at h
    refine Sem.exit mix <| nx <| ⟨_, _, .refl, fun _ => ?_, fun hh => absurd Z hh⟩
    refine nx <| sq <| rq O <| m Z <| nl <| nx <| Sem.ret mix ?_
    cases h
    exact ⟨.inr Z, _, _, Z, Z, DLe.of_nrm Z⟩
  ·refine o (d := (.ptr 1 0 4)) (zaf Z) Z <| l (d := (I p0.Weights.Age)) Z <| ?_
   obtain ⟨r45, e46, h⟩ := bs h
   refine o (d := (B r45)) (ca (zaD e46) Z) Z <| m Z <| ?_
   rcases bb r45 with g1 | g1
   ·rw [if_pos g1] at h
    refine q (d := (.ptr 1 1 4)) (zaf Z) g1 Z <| lo (d := (I p0.Weights.Size)) g1 Z <| ?_
    obtain ⟨r47, e48, h⟩ := bs h
    refine q (d := (B r47)) (ca (zaD e48) Z) g1 Z <| pT g1 Z <| m Z <| ?_
    rcases bb r47 with g2 | g2
    ·rw [if_pos g2] at h
     refine q (d := (.ptr 1 2 4)) (zaf Z) g2 Z <| lo (d := (I p0.Weights.Qos)) g2 Z <| ?_
     obtain ⟨r49, e50, h⟩ := bs h
     refine q (d := (B r49)) (ca (zaD e50) Z) g2 Z <| pT g2 Z <| m Z <| ?_
     rcases bb r49 with g3 | g3
     ·rw [if_pos g3] at h
      refine q (d := (.ptr 1 3 4)) (zaf Z) g3 Z <| lo (d := (I p0.Weights.Share)) g3 Z <| ?_
      obtain ⟨r51, e52, h⟩ := bs h
      refine q (d := (B r51)) (ca (zaD e52) Z) g3 Z <| pT g3 Z <| m Z <| nl ?_
      exact ⟨r51, h, .same (sS Z <| sS Z <| sZ)⟩
     ·rw [if_neg (zaH g3)] at h
      refine TrQ.know (v := false) 23 Z g3 <| TrQ.skipG 3 Z <| pF Z Z <| m Z <| nl ?_
      exact ⟨false, h, .same (sS Z <| sS Z <| sZ)⟩
    ·rw [if_neg (zaH g2)] at h
     refine TrQ.know (v := false) 18 Z g2 <| TrQ.skipG 3 Z <| pF Z Z <| m Z <| TrQ.skipG 3 Z <| pF Z Z <| m Z <| nl ?_
     exact ⟨false, h, .same (sS Z <| sS Z <| sZ)⟩
   ·rw [if_neg (zaH g1)] at h
    refine TrQ.know (v := false) 13 Z g1 <| TrQ.skipG 3 Z <| pF Z Z <| m Z <| TrQ.skipG 3 Z <| pF Z Z <| m Z <| TrQ.skipG 3 Z <| pF Z Z <| m Z <| nl ?_
    exact ⟨false, h, .same (sS Z <| sS Z <| sZ)⟩
noncomputable def F30 (N : Nat) : List D → Option D := spec (A := zab) (R := ByteArray) (fun a => [(ST (zab.enc a))]) (fun r => (.c (.lit (.string r)))) (fun a => zdq N a)
theorem K30 (N : Nat) : ∀ ds r, F30 N ds = some r → za9 Tryd.prog 30 ds r := zav fun a r h => drayageref07xFlaw_ok N a r h
theorem drayageref07xFlaw_eq {N : Nat} {p0 : zab} {r : ByteArray} (h : zdq N p0 = some r) : F30 N [(ST (zab.enc p0))] = some (.c (.lit (.string r))) := zaw (a := p0) (ij1 (zbx zab.inj)) h
noncomputable def S14 (N : Nat) : za1 := [(30, F30 N)]
theorem O14 (N : Nat) : zaO Tryd.prog (zat (S14 N)) := zap (zaj.cons (K30 N) <| zaj.nil)
theorem drayageref07xRight_ok (N : Nat) (p0 : zab) (r : Bool) (h : zc7 N p0 = some r) : za9 Tryd.prog 14 [(ST (zab.enc p0))] (B r) := by
  have O := And.intro mix (O14 N)
  refine zan Tryd.func14 (by kernel_rfl) C14 (bl Z) ?_
  unfold zc7 at h
  unfold A14
  dsimp only [zbc]
  refine sq <| rq O <| o (d := (.ptr 0 0 18)) (σ1 := [cm (zab.enc p0)]) (zba Z Z Z Z) Z <| m Z <| nl <| nx <| sq <| rq O <| l (d := (ST (zab.enc p0))) Z <| ?_
  obtain ⟨r1, e2, h⟩ := bs h
  refine o (d := (.c (.lit (.string r1)))) (ca (drayageref07xFlaw_eq e2) Z) Z <| o (d := (B (r1.toList == (⟨#[]⟩ : ByteArray).toList))) (bo Z) Z <| m Z <| nl <| nx <| Sem.ret mix ?_
  cases h
  exact ⟨.inr Z, _, _, Z, Z, DLe.of_nrm Z⟩
noncomputable def F14 (N : Nat) : List D → Option D := spec (A := zab) (R := Bool) (fun a => [(ST (zab.enc a))]) (fun r => (B r)) (fun a => zc7 N a)
theorem K14 (N : Nat) : ∀ ds r, F14 N ds = some r → za9 Tryd.prog 14 ds r := zav fun a r h => drayageref07xRight_ok N a r h
theorem drayageref07xRight_eq {N : Nat} {p0 : zab} {r : Bool} (h : zc7 N p0 = some r) : F14 N [(ST (zab.enc p0))] = some (B r) := zaw (a := p0) (ij1 (zbx zab.inj)) h
noncomputable def S15 (N : Nat) : za1 := []
theorem O15 (N : Nat) : zaO Tryd.prog (zat (S15 N)) := zap (zaj.nil)
theorem drayageref05xRight_ok (N : Nat) (p0 : Int) (r : Bool) (h : zbv N p0 = some r) : za9 Tryd.prog 15 [I p0] (B r) := by
  have O := And.intro mix (O15 N)
  refine zan Tryd.func15 (by kernel_rfl) C15 (bl Z) ?_
  unfold zbv at h
  unfold A15
  dsimp only [zbc]
  refine sq <| rq O <| m Z <| nl <| nx <| Sem.step [(2, (B ((decide (p0 ≥ 0)) && (decide (p0 ≤ 281474976710656)))))] [] (rq O ?_) ?_
  ·refine m Z <| o (d := (B (decide (p0 ≥ 0)))) (bo Z) Z <| m Z <| ?_
   rcases bb (decide (p0 ≥ 0)) with g1 | g1
   ·refine mo g1 Z <| q (d := (B (decide (p0 ≤ 281474976710656)))) (bo Z) g1 Z <| pT g1 Z <| m Z <| nl ⟨rfl, .same (sE Z (by rw [g1]; rfl) <| sZ)⟩
   ·refine TrQ.know (v := false) 5 Z g1 <| TrQ.skipG 2 Z <| pF Z Z <| m Z <| nl ⟨rfl, .same (sE Z (by rw [g1]; rfl) <| sZ)⟩
  ·refine Sem.ret mix ?_
   cases h
   exact ⟨.inr Z, _, _, Z, Z, DLe.of_nrm Z⟩
noncomputable def F15 (N : Nat) : List D → Option D := spec (A := Int) (R := Bool) (fun a => [I a]) (fun r => (B r)) (fun a => zbv N a)
theorem K15 (N : Nat) : ∀ ds r, F15 N ds = some r → za9 Tryd.prog 15 ds r := zav fun a r h => drayageref05xRight_ok N a r h
theorem zeI {N : Nat} {p0 : Int} {r : Bool} (h : zbv N p0 = some r) : F15 N [I p0] = some (B r) := zaw (a := p0) (ij1 zev) h
noncomputable def S31 (N : Nat) : za1 := []
theorem O31 (N : Nat) : zaO Tryd.prog (zat (S31 N)) := zap (zaj.nil)
theorem drayageref17xFind_ok (N : Nat) (p0 : (List zad)) (p1 : Int) (r : Int) (h : zb3 N p0 p1 = some r) : za9 Tryd.prog 31 [(SL zad.enc p0), I p1] (I r) := by
  have O := And.intro mix (O31 N)
  refine zan Tryd.func31 (by kernel_rfl) C31 (bl Z) ?_
  unfold zb3 at h
  unfold A31
  dsimp only [zbc]
  refine sq <| rq O <| m Z <| nl <| nx <| sq <| sq <| rq O <| m Z <| nl <| nx <| Sem.block <| Sem.rounds (V := Int) (fun (x1 : Int) => [(0, (SL zad.enc p0)), (1, (I p1)), (5, (I x1))]) (fun (x1 : Int) => []) (fun k v => zcy N p0 p1 k v = some r) N 0 h (fun v h => by unfold zcy at h; cases h) ?_ (sS Z <| sS Z <| sS Z <| sZ) Z
  intro kL0 x1 h
  try dsimp only at h ⊢
  unfold zcy at h
  unfold A31xl0
  refine sq <| sq <| rq O <| m Z <| m Z <| o (d := (I (p0.length : Int))) (zaA Z) Z <| o (d := (B (decide (x1 < (p0.length : Int))))) (bo Z) Z <| nl <| nx <| Sem.cond Z (fun c2 => ?_) (fun c2 => ?_)
  ·rw [if_pos c2] at h
   refine Sem.skip mix <| nx <| sq <| Sem.block <| sq <| rq O <| m Z <| m Z <| ?_
   obtain ⟨a3, e4, h⟩ := bs h
   refine o (zaF Z Z e4 Z) Z <| o (d := (.c (.fptr (zad.enc a3) 0))) (zau Z) Z <| o (d := (I a3.Id)) (zal Z Z) Z <| m Z <| o (d := (B (a3.Id == p1))) (bo Z) Z <| nl <| nx <| Sem.cond Z (fun c5 => ?_) (fun c5 => ?_)
   ·rw [if_pos c5] at h
    refine sq <| rq O <| m Z <| m Z <| nl <| nx <| Sem.ret mix <| nx <| nx <| nx ?_
    cases h
    exact ⟨.inr Z, _, _, Z, Z, DLe.of_nrm Z⟩
   ·rw [if_neg (zaH c5)] at h
    refine Sem.skip mix <| nx <| nx <| rq O <| m Z <| o (d := (I (IntKind.i64.wrap (x1 + 1)))) (bo Z) Z <| m Z <| nl ?_
    exact ⟨(IntKind.i64.wrap (x1 + 1)), h, .same (sS Z <| sS Z <| sS Z <| sZ)⟩
  ·rw [if_neg (zaH c2)] at h
   refine Sem.exit mix <| nx <| ⟨_, _, .refl, fun _ => ?_, fun hh => absurd Z hh⟩
   refine nx <| sq <| rq O <| m Z <| nl <| nx <| Sem.ret mix ?_
   cases h
   exact ⟨.inr Z, _, _, Z, Z, DLe.of_nrm Z⟩
noncomputable def F31 (N : Nat) : List D → Option D := spec (A := (List zad) × Int) (R := Int) (fun a => [(SL zad.enc a.1), I a.2]) (fun r => (I r)) (fun a => zb3 N a.1 a.2)
theorem K31 (N : Nat) : ∀ ds r, F31 N ds = some r → za9 Tryd.prog 31 ds r := zav fun a r h => drayageref17xFind_ok N a.1 a.2 r h
theorem zeR {N : Nat} {p0 : (List zad)} {p1 : Int} {r : Int} (h : zb3 N p0 p1 = some r) : F31 N [(SL zad.enc p0), I p1] = some (I r) := zaw (a := (p0, p1)) (ij2 (zeM zad.inj) zev) h
noncomputable def S32 (N : Nat) : za1 := []
theorem O32 (N : Nat) : zaO Tryd.prog (zat (S32 N)) := zap (zaj.nil)
theorem drayageref11xRight_ok (N : Nat) (p0 : (List zak)) (p1 : Int) (r : Bool) (h : zcb N p0 p1 = some r) : za9 Tryd.prog 32 [(SL zak.enc p0), I p1] (B r) := by
  have O := And.intro mix (O32 N)
  refine zan Tryd.func32 (by kernel_rfl) C32 (bl Z) ?_
  unfold zcb at h
  unfold A32
  dsimp only [zbc]
  refine sq <| rq O <| m Z <| nl <| nx <| sq <| sq <| rq O <| m Z <| nl <| nx <| Sem.block <| Sem.rounds (V := Int) (fun (x1 : Int) => [(0, (SL zak.enc p0)), (1, (I p1)), (5, (I x1))]) (fun (x1 : Int) => []) (fun k v => zaU N p0 p1 k v = some r) N 0 h (fun v h => by unfold zaU at h; cases h) ?_ (sS Z <| sS Z <| sS Z <| sZ) Z
  intro kL0 x1 h
  try dsimp only at h ⊢
  unfold zaU at h
  unfold A32xl0
  refine sq <| sq <| rq O <| m Z <| m Z <| o (d := (I (p0.length : Int))) (zaA Z) Z <| o (d := (B (decide (x1 < (p0.length : Int))))) (bo Z) Z <| nl <| nx <| Sem.cond Z (fun c2 => ?_) (fun c2 => ?_)
  ·rw [if_pos c2] at h
   refine Sem.skip mix <| nx <| sq <| Sem.block <| Sem.join (fun (x15 : Bool) => [(0, (SL zak.enc p0)), (1, (I p1)), (5, (I x1)), (60, (B x15))]) (fun (x15 : Bool) => []) (fun (x15 : Bool) => zbC N x1 (zaU N p0 p1 kL0) x15 = some r) ?_ (dq O ?_)
   ·intro x15 h
    try dsimp only at h ⊢
    unfold zbC at h
    refine Sem.cond Z (fun c16 => ?_) (fun c16 => ?_)
    ·rw [if_pos c16] at h
     refine sq <| rq O <| m Z <| nl <| nx <| Sem.ret mix <| nx <| nx <| nx ?_
     cases h
     exact ⟨.inr Z, _, _, Z, Z, DLe.of_nrm Z⟩
    ·rw [if_neg (zaH c16)] at h
     refine Sem.skip mix <| nx <| nx <| rq O <| m Z <| o (d := (I (IntKind.i64.wrap (x1 + 1)))) (bo Z) Z <| m Z <| nl ?_
     exact ⟨(IntKind.i64.wrap (x1 + 1)), h, .same (sS Z <| sS Z <| sS Z <| sZ)⟩
   ·refine m Z <| m Z <| ?_
    obtain ⟨a17, e18, h⟩ := bs h
    refine o (zaF Z Z e18 Z) Z <| o (d := (.c (.fptr (zak.enc a17) 0))) (zau Z) Z <| o (d := (I a17.Node)) (zal Z Z) Z <| o (d := (B (decide (a17.Node < 0)))) (bo Z) Z <| m Z <| ?_
    rcases bb (decide (a17.Node < 0)) with g6 | g6
    ·rw [if_pos g6] at h
     refine TrQ.know (v := true) 18 Z g6 <| TrQ.skipG 7 Z <| pT Z Z <| m Z <| TrQ.skipG 6 Z <| pT Z Z <| m Z <| TrQ.skipG 6 Z <| pT Z Z <| m Z <| TrQ.skipG 16 Z <| pT Z Z <| nl ⟨by kernel_rfl, ?_⟩
     exact ⟨true, h, .same (sS Z <| sS Z <| sS Z <| sS Z <| sZ)⟩
    ·rw [if_neg (zaH g6)] at h
     refine mo g6 Z <| mo g6 Z <| ?_
     obtain ⟨a19, e20, h⟩ := bs h
     refine q (zaF Z Z e20 Z) g6 Z <| q (d := (.c (.fptr (zak.enc a19) 0))) (zau Z) g6 Z <| q (d := (I a19.Node)) (zal Z Z) g6 Z <| mo g6 Z <| q (d := (B (decide (a19.Node ≥ p1)))) (bo Z) g6 Z <| pF g6 Z <| m Z <| ?_
     rcases bb (decide (a19.Node ≥ p1)) with g7 | g7
     ·rw [if_pos g7] at h
      refine TrQ.know (v := true) 27 Z g7 <| TrQ.skipG 6 Z <| pT Z Z <| m Z <| TrQ.skipG 6 Z <| pT Z Z <| m Z <| TrQ.skipG 16 Z <| pT Z Z <| nl ⟨by kernel_rfl, ?_⟩
      exact ⟨true, h, .same (sS Z <| sS Z <| sS Z <| sS Z <| sZ)⟩
     ·rw [if_neg (zaH g7)] at h
      refine mo g7 Z <| mo g7 Z <| ?_
      obtain ⟨a21, e22, h⟩ := bs h
      refine q (zaF Z Z e22 Z) g7 Z <| q (d := (.c (.fptr (zak.enc a21) 1))) (zau Z) g7 Z <| q (d := (I a21.Many)) (zal Z Z) g7 Z <| q (d := (B (decide (a21.Many < 1)))) (bo Z) g7 Z <| pF g7 Z <| m Z <| ?_
      rcases bb (decide (a21.Many < 1)) with g8 | g8
      ·rw [if_pos g8] at h
       refine TrQ.know (v := true) 35 Z g8 <| TrQ.skipG 6 Z <| pT Z Z <| m Z <| TrQ.skipG 16 Z <| pT Z Z <| nl ⟨by kernel_rfl, ?_⟩
       exact ⟨true, h, .same (sS Z <| sS Z <| sS Z <| sS Z <| sZ)⟩
      ·rw [if_neg (zaH g8)] at h
       refine mo g8 Z <| mo g8 Z <| ?_
       obtain ⟨a23, e24, h⟩ := bs h
       refine q (zaF Z Z e24 Z) g8 Z <| q (d := (.c (.fptr (zak.enc a23) 1))) (zau Z) g8 Z <| q (d := (I a23.Many)) (zal Z Z) g8 Z <| q (d := (B (decide (a23.Many > 64)))) (bo Z) g8 Z <| pF g8 Z <| m Z <| ?_
       rcases bb (decide (a23.Many > 64)) with g9 | g9
       ·rw [if_pos g9] at h
        refine TrQ.know (v := true) 43 Z g9 <| TrQ.skipG 16 Z <| pT Z Z <| nl ⟨by kernel_rfl, ?_⟩
        exact ⟨true, h, .same (sS Z <| sS Z <| sS Z <| sS Z <| sZ)⟩
       ·rw [if_neg (zaH g9)] at h
        refine mo g9 Z <| q (d := (B (decide (x1 > 0)))) (bo Z) g9 Z <| mo g9 Z <| ?_
        rcases bb (decide (x1 > 0)) with g10 | g10
        ·rw [if_pos g10] at h
         refine mo g10 Z <| mo g10 Z <| q (d := (I (IntKind.i64.wrap (x1 - 1)))) (bo Z) g10 Z <| ?_
         obtain ⟨a25, e26, h⟩ := bs h
         refine q (zaF Z Z e26 Z) g10 Z <| q (d := (.c (.fptr (zak.enc a25) 0))) (zau Z) g10 Z <| q (d := (I a25.Node)) (zal Z Z) g10 Z <| mo g10 Z <| mo g10 Z <| ?_
         obtain ⟨a27, e28, h⟩ := bs h
         refine q (zaF Z Z e28 Z) g10 Z <| q (d := (.c (.fptr (zak.enc a27) 0))) (zau Z) g10 Z <| q (d := (I a27.Node)) (zal Z Z) g10 Z <| q (d := (B (decide (a25.Node ≥ a27.Node)))) (bo Z) g10 Z <| q (zeT Z g10 Z) g9 Z <| pF g9 Z <| nl ⟨by kernel_rfl, ?_⟩
         exact ⟨(decide (a25.Node ≥ a27.Node)), h, .same (sS Z <| sS Z <| sS Z <| sS Z <| sZ)⟩
        ·rw [if_neg (zaH g10)] at h
         refine TrQ.know (v := false) 46 Z g10 <| TrQ.skipG 12 Z <| q (ze7 Z Z Z) g9 Z <| pF g9 Z <| nl ⟨by kernel_rfl, ?_⟩
         exact ⟨false, h, .same (sS Z <| sS Z <| sS Z <| sS Z <| sZ)⟩
  ·rw [if_neg (zaH c2)] at h
   refine Sem.exit mix <| nx <| ⟨_, _, .refl, fun _ => ?_, fun hh => absurd Z hh⟩
   refine nx <| sq <| rq O <| m Z <| nl <| nx <| Sem.ret mix ?_
   cases h
   exact ⟨.inr Z, _, _, Z, Z, DLe.of_nrm Z⟩
noncomputable def F32 (N : Nat) : List D → Option D := spec (A := (List zak) × Int) (R := Bool) (fun a => [(SL zak.enc a.1), I a.2]) (fun r => (B r)) (fun a => zcb N a.1 a.2)
theorem K32 (N : Nat) : ∀ ds r, F32 N ds = some r → za9 Tryd.prog 32 ds r := zav fun a r h => drayageref11xRight_ok N a.1 a.2 r h
theorem zff {N : Nat} {p0 : (List zak)} {p1 : Int} {r : Bool} (h : zcb N p0 p1 = some r) : F32 N [(SL zak.enc p0), I p1] = some (B r) := zaw (a := (p0, p1)) (ij2 (zeM zak.inj) zev) h
noncomputable def S61 (N : Nat) : za1 := []
theorem O61 (N : Nat) : zaO Tryd.prog (zat (S61 N)) := zap (zaj.nil)
theorem drayageref02xAdd_ok (N : Nat) (p0 : zac) (p1 : zac) (r : zac) (h : zcq N p0 p1 = some r) : za9 Tryd.prog 61 [(ST (zac.enc p0)), (ST (zac.enc p1))] (ST (zac.enc r)) := by
  have O := And.intro mix (O61 N)
  refine zan Tryd.func61 (by kernel_rfl) C61 (bl Z) ?_
  unfold zcq at h
  unfold A61
  dsimp only [zbc]
  refine sq <| rq O <| o (d := (.ptr 0 0 4)) (σ1 := [cm (zac.enc p0)]) (zba Z Z Z Z) Z <| o (d := (.ptr 1 0 4)) (σ1 := [cm (zac.enc p0), cm (zac.enc p1)]) (zba Z Z Z Z) Z <| o (d := (.ptr 2 0 4)) (σ1 := [cm (zac.enc p0), cm (zac.enc p1), .cells [I 0, I 0, I 0, I 0]]) (zaG Z Z) Z <| nl <| nx <| sq <| rq O <| o (d := (.ptr 0 0 4)) (zaf Z) Z <| l (d := (I p0.Cpu)) Z <| o (d := (.ptr 1 0 4)) (zaf Z) Z <| l (d := (I p1.Cpu)) Z <| o (d := (I (IntKind.i64.wrap (p0.Cpu + p1.Cpu)))) (bo Z) Z <| o (d := (.ptr 0 1 4)) (zaf Z) Z <| l (d := (I p0.Mem)) Z <| o (d := (.ptr 1 1 4)) (zaf Z) Z <| l (d := (I p1.Mem)) Z <| o (d := (I (IntKind.i64.wrap (p0.Mem + p1.Mem)))) (bo Z) Z <| o (d := (.ptr 0 2 4)) (zaf Z) Z <| l (d := (I p0.Gpu)) Z <| o (d := (.ptr 1 2 4)) (zaf Z) Z <| l (d := (I p1.Gpu)) Z <| o (d := (I (IntKind.i64.wrap (p0.Gpu + p1.Gpu)))) (bo Z) Z <| o (d := (.ptr 0 3 4)) (zaf Z) Z <| l (d := (I p0.Lic)) Z <| o (d := (.ptr 1 3 4)) (zaf Z) Z <| l (d := (I p1.Lic)) Z <| o (d := (I (IntKind.i64.wrap (p0.Lic + p1.Lic)))) (bo Z) Z <| o (d := (.agg [(I (IntKind.i64.wrap (p0.Cpu + p1.Cpu))), (I (IntKind.i64.wrap (p0.Mem + p1.Mem))), (I (IntKind.i64.wrap (p0.Gpu + p1.Gpu))), (I (IntKind.i64.wrap (p0.Lic + p1.Lic)))])) (zbB (by kernel_rfl)) Z <| st (σ1 := [cm (zac.enc p0), cm (zac.enc p1), .cells [(I (IntKind.i64.wrap (p0.Cpu + p1.Cpu))), (I (IntKind.i64.wrap (p0.Mem + p1.Mem))), (I (IntKind.i64.wrap (p0.Gpu + p1.Gpu))), (I (IntKind.i64.wrap (p0.Lic + p1.Lic)))]]) Z <| nl <| nx <| Sem.ret mix ?_
  cases h
  exact ⟨.inr Z, _, _, Z, Z, DLe.of_nrm Z⟩
noncomputable def F61 (N : Nat) : List D → Option D := spec (A := zac × zac) (R := zac) (fun a => [(ST (zac.enc a.1)), (ST (zac.enc a.2))]) (fun r => (ST (zac.enc r))) (fun a => zcq N a.1 a.2)
theorem K61 (N : Nat) : ∀ ds r, F61 N ds = some r → za9 Tryd.prog 61 ds r := zav fun a r h => drayageref02xAdd_ok N a.1 a.2 r h
theorem zfq {N : Nat} {p0 : zac} {p1 : zac} {r : zac} (h : zcq N p0 p1 = some r) : F61 N [(ST (zac.enc p0)), (ST (zac.enc p1))] = some (ST (zac.enc r)) := zaw (a := (p0, p1)) (ij2 (zbx zac.inj) (zbx zac.inj)) h
noncomputable def S62 (N : Nat) : za1 := [(61, F61 N)]
theorem O62 (N : Nat) : zaO Tryd.prog (zat (S62 N)) := zap (zaj.cons (K61 N) <| zaj.nil)
theorem drayageref11xTimes_ok (N : Nat) (p0 : zac) (p1 : Int) (r : zac) (h : zdZ N p0 p1 = some r) : za9 Tryd.prog 62 [(ST (zac.enc p0)), I p1] (ST (zac.enc r)) := by
  have O := And.intro mix (O62 N)
  refine zan Tryd.func62 (by kernel_rfl) C62 (bl Z) ?_
  unfold zdZ at h
  unfold A62
  dsimp only [zbc]
  refine sq <| rq O <| o (d := (.ptr 0 0 4)) (σ1 := [cm (zac.enc p0)]) (zba Z Z Z Z) Z <| o (d := (.ptr 1 0 4)) (σ1 := [cm (zac.enc p0), .cells [I 0, I 0, I 0, I 0]]) (zaG Z Z) Z <| nl <| nx <| sq <| rq O <| o (d := (.agg [I 0, I 0, I 0, I 0])) (zbB (by kernel_rfl)) Z <| o (d := (.ptr 2 0 4)) (σ1 := [cm (zac.enc p0), .cells [I 0, I 0, I 0, I 0], .cells [I 0, I 0, I 0, I 0]]) (zaG Z Z) Z <| st (σ1 := [cm (zac.enc p0), .cells [I 0, I 0, I 0, I 0], .cells [I 0, I 0, I 0, I 0]]) Z <| nl <| nx <| sq <| sq <| rq O <| m Z <| nl <| nx <| Sem.block <| Sem.rounds (V := Int × zac) (fun ((x2, y1) : Int × zac) => [(1, (I p1)), (2, (.ptr 0 0 4)), (4, (.ptr 1 0 4)), (5, (.ptr 2 0 4)), (6, (I x2))]) (fun ((x2, y1) : Int × zac) => [cm (zac.enc p0), .cells [I 0, I 0, I 0, I 0], cm (zac.enc y1)]) (fun k v => zcj N p0 p1 k v.1 v.2 = some r) N (0, ({ Cpu := 0, Mem := 0, Gpu := 0, Lic := 0 } : zac)) h (fun v h => by unfold zcj at h; cases h) ?_ (sS Z <| sS Z <| sS Z <| sS Z <| sS Z <| sZ) Z
  intro kL0 v h
  obtain ⟨x2, y1⟩ := v
  try dsimp only at h ⊢
  unfold zcj at h
  unfold A62xl0
  refine sq <| sq <| rq O <| m Z <| m Z <| o (d := (B (decide (x2 < p1)))) (bo Z) Z <| nl <| nx <| Sem.cond Z (fun c3 => ?_) (fun c3 => ?_)
  ·rw [if_pos c3] at h
   refine Sem.skip mix <| nx <| sq <| Sem.block <| rq O <| l (d := (ST (zac.enc y1))) Z <| l (d := (ST (zac.enc p0))) Z <| ?_
   obtain ⟨r4, e5, h⟩ := bs h
   refine o (d := (ST (zac.enc r4))) (ca (zfq e5) Z) Z <| st (σ1 := [cm (zac.enc p0), .cells [I 0, I 0, I 0, I 0], cm (zac.enc r4)]) Z <| nl <| nx <| nx <| rq O <| m Z <| o (d := (I (IntKind.i64.wrap (x2 + 1)))) (bo Z) Z <| m Z <| nl ?_
   exact ⟨((IntKind.i64.wrap (x2 + 1)), r4), h, .same (sS Z <| sS Z <| sS Z <| sS Z <| sS Z <| sZ)⟩
  ·rw [if_neg (zaH c3)] at h
   refine Sem.exit mix <| nx <| ⟨_, _, .refl, fun _ => ?_, fun hh => absurd Z hh⟩
   refine nx <| sq <| rq O <| l (d := (ST (zac.enc y1))) Z <| st (σ1 := [cm (zac.enc p0), cm (zac.enc y1), cm (zac.enc y1)]) Z <| nl <| nx <| Sem.ret mix ?_
   cases h
   exact ⟨.inr Z, _, _, Z, Z, DLe.of_nrm Z⟩
noncomputable def F62 (N : Nat) : List D → Option D := spec (A := zac × Int) (R := zac) (fun a => [(ST (zac.enc a.1)), I a.2]) (fun r => (ST (zac.enc r))) (fun a => zdZ N a.1 a.2)
theorem K62 (N : Nat) : ∀ ds r, F62 N ds = some r → za9 Tryd.prog 62 ds r := zav fun a r h => drayageref11xTimes_ok N a.1 a.2 r h
theorem drayageref11xTimes_eq {N : Nat} {p0 : zac} {p1 : Int} {r : zac} (h : zdZ N p0 p1 = some r) : F62 N [(ST (zac.enc p0)), I p1] = some (ST (zac.enc r)) := zaw (a := (p0, p1)) (ij2 (zbx zac.inj) zev) h
noncomputable def S63 (N : Nat) : za1 := []
theorem O63 (N : Nat) : zaO Tryd.prog (zat (S63 N)) := zap (zaj.nil)
theorem drayageref11xOn_ok (N : Nat) (p0 : (List zak)) (p1 : Int) (r : Int) (h : zex N p0 p1 = some r) : za9 Tryd.prog 63 [(SL zak.enc p0), I p1] (I r) := by
  have O := And.intro mix (O63 N)
  refine zan Tryd.func63 (by kernel_rfl) C63 (bl Z) ?_
  unfold zex at h
  unfold A63
  dsimp only [zbc]
  refine sq <| rq O <| m Z <| nl <| nx <| sq <| rq O <| m Z <| nl <| nx <| sq <| sq <| rq O <| m Z <| nl <| nx <| Sem.block <| Sem.rounds (V := Int × Int) (fun ((x1, x2) : Int × Int) => [(0, (SL zak.enc p0)), (1, (I p1)), (5, (I x1)), (6, (I x2))]) (fun ((x1, x2) : Int × Int) => []) (fun k v => zbO N p0 p1 k v.1 v.2 = some r) N (0, 0) h (fun v h => by unfold zbO at h; cases h) ?_ (sS Z <| sS Z <| sS Z <| sS Z <| sZ) Z
  intro kL0 v h
  obtain ⟨x1, x2⟩ := v
  try dsimp only at h ⊢
  unfold zbO at h
  unfold A63xl0
  refine sq <| sq <| rq O <| m Z <| m Z <| o (d := (I (p0.length : Int))) (zaA Z) Z <| o (d := (B (decide (x2 < (p0.length : Int))))) (bo Z) Z <| nl <| nx <| Sem.cond Z (fun c3 => ?_) (fun c3 => ?_)
  ·rw [if_pos c3] at h
   refine Sem.skip mix <| nx <| Sem.join (fun (x4 : Int) => [(0, (SL zak.enc p0)), (1, (I p1)), (5, (I x4)), (6, (I x2))]) (fun (x4 : Int) => []) (fun (x4 : Int) => zeF N x2 (zbO N p0 p1 kL0) x4 = some r) ?_ ?_
   ·intro x4 h
    try dsimp only at h ⊢
    unfold zeF at h
    refine rq O <| m Z <| o (d := (I (IntKind.i64.wrap (x2 + 1)))) (bo Z) Z <| m Z <| nl ?_
    exact ⟨(x4, (IntKind.i64.wrap (x2 + 1))), h, .same (sS Z <| sS Z <| sS Z <| sS Z <| sZ)⟩
   ·refine Sem.block <| sq <| rq O <| m Z <| m Z <| ?_
    obtain ⟨a5, e6, h⟩ := bs h
    refine o (zaF Z Z e6 Z) Z <| o (d := (.c (.fptr (zak.enc a5) 0))) (zau Z) Z <| o (d := (I a5.Node)) (zal Z Z) Z <| m Z <| o (d := (B (a5.Node == p1))) (bo Z) Z <| nl <| nx <| Sem.cond Z (fun c7 => ?_) (fun c7 => ?_)
    ·rw [if_pos c7] at h
     refine rq O <| m Z <| m Z <| m Z <| ?_
     obtain ⟨a8, e9, h⟩ := bs h
     refine o (zaF Z Z e9 Z) Z <| o (d := (.c (.fptr (zak.enc a8) 1))) (zau Z) Z <| o (d := (I a8.Many)) (zal Z Z) Z <| o (d := (I (IntKind.i64.wrap (x1 + a8.Many)))) (bo Z) Z <| m Z <| nl <| nx ?_
     exact ⟨(IntKind.i64.wrap (x1 + a8.Many)), h, .same (sS Z <| sS Z <| sS Z <| sS Z <| sZ)⟩
    ·rw [if_neg (zaH c7)] at h
     refine Sem.skip mix <| nx ?_
     exact ⟨x1, h, .same (sS Z <| sS Z <| sS Z <| sS Z <| sZ)⟩
  ·rw [if_neg (zaH c3)] at h
   refine Sem.exit mix <| nx <| ⟨_, _, .refl, fun _ => ?_, fun hh => absurd Z hh⟩
   refine nx <| sq <| rq O <| m Z <| m Z <| nl <| nx <| Sem.ret mix ?_
   cases h
   exact ⟨.inr Z, _, _, Z, Z, DLe.of_nrm Z⟩
noncomputable def F63 (N : Nat) : List D → Option D := spec (A := (List zak) × Int) (R := Int) (fun a => [(SL zak.enc a.1), I a.2]) (fun r => (I r)) (fun a => zex N a.1 a.2)
theorem K63 (N : Nat) : ∀ ds r, F63 N ds = some r → za9 Tryd.prog 63 ds r := zav fun a r h => drayageref11xOn_ok N a.1 a.2 r h
theorem drayageref11xOn_eq {N : Nat} {p0 : (List zak)} {p1 : Int} {r : Int} (h : zex N p0 p1 = some r) : F63 N [(SL zak.enc p0), I p1] = some (I r) := zaw (a := (p0, p1)) (ij2 (zeM zak.inj) zev) h
noncomputable def S64 (N : Nat) : za1 := []
theorem O64 (N : Nat) : zaO Tryd.prog (zat (S64 N)) := zap (zaj.nil)
theorem drayageref02xFits_ok (N : Nat) (p0 : zac) (p1 : zac) (r : Bool) (h : zbL N p0 p1 = some r) : za9 Tryd.prog 64 [(ST (zac.enc p0)), (ST (zac.enc p1))] (B r) := by
  have O := And.intro mix (O64 N)
  refine zan Tryd.func64 (by kernel_rfl) C64 (bl Z) ?_
  unfold zbL at h
  unfold A64
  dsimp only [zbc]
  refine sq <| rq O <| o (d := (.ptr 0 0 4)) (σ1 := [cm (zac.enc p0)]) (zba Z Z Z Z) Z <| o (d := (.ptr 1 0 4)) (σ1 := [cm (zac.enc p0), cm (zac.enc p1)]) (zba Z Z Z Z) Z <| m Z <| nl <| nx <| Sem.step [(4, (B ((decide (p0.Cpu ≤ p1.Cpu)) && ((decide (p0.Mem ≤ p1.Mem)) && ((decide (p0.Gpu ≤ p1.Gpu)) && (decide (p0.Lic ≤ p1.Lic)))))))] [cm (zac.enc p0), cm (zac.enc p1)] (rq O ?_) ?_
  ·refine o (d := (.ptr 0 0 4)) (zaf Z) Z <| l (d := (I p0.Cpu)) Z <| o (d := (.ptr 1 0 4)) (zaf Z) Z <| l (d := (I p1.Cpu)) Z <| o (d := (B (decide (p0.Cpu ≤ p1.Cpu)))) (bo Z) Z <| m Z <| ?_
   rcases bb (decide (p0.Cpu ≤ p1.Cpu)) with g1 | g1
   ·refine q (d := (.ptr 0 1 4)) (zaf Z) g1 Z <| lo (d := (I p0.Mem)) g1 Z <| q (d := (.ptr 1 1 4)) (zaf Z) g1 Z <| lo (d := (I p1.Mem)) g1 Z <| q (d := (B (decide (p0.Mem ≤ p1.Mem)))) (bo Z) g1 Z <| pT g1 Z <| m Z <| ?_
    rcases bb (decide (p0.Mem ≤ p1.Mem)) with g2 | g2
    ·refine q (d := (.ptr 0 2 4)) (zaf Z) g2 Z <| lo (d := (I p0.Gpu)) g2 Z <| q (d := (.ptr 1 2 4)) (zaf Z) g2 Z <| lo (d := (I p1.Gpu)) g2 Z <| q (d := (B (decide (p0.Gpu ≤ p1.Gpu)))) (bo Z) g2 Z <| pT g2 Z <| m Z <| ?_
     rcases bb (decide (p0.Gpu ≤ p1.Gpu)) with g3 | g3
     ·refine q (d := (.ptr 0 3 4)) (zaf Z) g3 Z <| lo (d := (I p0.Lic)) g3 Z <| q (d := (.ptr 1 3 4)) (zaf Z) g3 Z <| lo (d := (I p1.Lic)) g3 Z <| q (d := (B (decide (p0.Lic ≤ p1.Lic)))) (bo Z) g3 Z <| pT g3 Z <| m Z <| nl ⟨rfl, .same (sE Z (by rw [g1, g2, g3]; rfl) <| sZ)⟩
     ·refine TrQ.know (v := false) 24 Z g3 <| TrQ.skipG 5 Z <| pF Z Z <| m Z <| nl ⟨rfl, .same (sE Z (by rw [g1, g2, g3]; rfl) <| sZ)⟩
    ·refine TrQ.know (v := false) 17 Z g2 <| TrQ.skipG 5 Z <| pF Z Z <| m Z <| TrQ.skipG 5 Z <| pF Z Z <| m Z <| nl ⟨rfl, .same (sE Z (by rw [g1, g2]; rfl) <| sZ)⟩
   ·refine TrQ.know (v := false) 10 Z g1 <| TrQ.skipG 5 Z <| pF Z Z <| m Z <| TrQ.skipG 5 Z <| pF Z Z <| m Z <| TrQ.skipG 5 Z <| pF Z Z <| m Z <| nl ⟨rfl, .same (sE Z (by rw [g1]; rfl) <| sZ)⟩
  ·refine Sem.ret mix ?_
   cases h
   exact ⟨.inr Z, _, _, Z, Z, DLe.of_nrm Z⟩
noncomputable def F64 (N : Nat) : List D → Option D := spec (A := zac × zac) (R := Bool) (fun a => [(ST (zac.enc a.1)), (ST (zac.enc a.2))]) (fun r => (B r)) (fun a => zbL N a.1 a.2)
theorem K64 (N : Nat) : ∀ ds r, F64 N ds = some r → za9 Tryd.prog 64 ds r := zav fun a r h => drayageref02xFits_ok N a.1 a.2 r h
theorem zeS {N : Nat} {p0 : zac} {p1 : zac} {r : Bool} (h : zbL N p0 p1 = some r) : F64 N [(ST (zac.enc p0)), (ST (zac.enc p1))] = some (B r) := zaw (a := (p0, p1)) (ij2 (zbx zac.inj) (zbx zac.inj)) h
noncomputable def S65 (N : Nat) : za1 := []
theorem O65 (N : Nat) : zaO Tryd.prog (zat (S65 N)) := zap (zaj.nil)
theorem drayageref02xSub_ok (N : Nat) (p0 : zac) (p1 : zac) (r : zac) (h : zeD N p0 p1 = some r) : za9 Tryd.prog 65 [(ST (zac.enc p0)), (ST (zac.enc p1))] (ST (zac.enc r)) := by
  have O := And.intro mix (O65 N)
  refine zan Tryd.func65 (by kernel_rfl) C65 (bl Z) ?_
  unfold zeD at h
  unfold A65
  dsimp only [zbc]
  refine sq <| rq O <| o (d := (.ptr 0 0 4)) (σ1 := [cm (zac.enc p0)]) (zba Z Z Z Z) Z <| o (d := (.ptr 1 0 4)) (σ1 := [cm (zac.enc p0), cm (zac.enc p1)]) (zba Z Z Z Z) Z <| o (d := (.ptr 2 0 4)) (σ1 := [cm (zac.enc p0), cm (zac.enc p1), .cells [I 0, I 0, I 0, I 0]]) (zaG Z Z) Z <| nl <| nx <| sq <| rq O <| o (d := (.ptr 0 0 4)) (zaf Z) Z <| l (d := (I p0.Cpu)) Z <| o (d := (.ptr 1 0 4)) (zaf Z) Z <| l (d := (I p1.Cpu)) Z <| o (d := (I (IntKind.i64.wrap (p0.Cpu - p1.Cpu)))) (bo Z) Z <| o (d := (.ptr 0 1 4)) (zaf Z) Z <| l (d := (I p0.Mem)) Z <| o (d := (.ptr 1 1 4)) (zaf Z) Z <| l (d := (I p1.Mem)) Z <| o (d := (I (IntKind.i64.wrap (p0.Mem - p1.Mem)))) (bo Z) Z <| o (d := (.ptr 0 2 4)) (zaf Z) Z <| l (d := (I p0.Gpu)) Z <| o (d := (.ptr 1 2 4)) (zaf Z) Z <| l (d := (I p1.Gpu)) Z <| o (d := (I (IntKind.i64.wrap (p0.Gpu - p1.Gpu)))) (bo Z) Z <| o (d := (.ptr 0 3 4)) (zaf Z) Z <| l (d := (I p0.Lic)) Z <| o (d := (.ptr 1 3 4)) (zaf Z) Z <| l (d := (I p1.Lic)) Z <| o (d := (I (IntKind.i64.wrap (p0.Lic - p1.Lic)))) (bo Z) Z <| o (d := (.agg [(I (IntKind.i64.wrap (p0.Cpu - p1.Cpu))), (I (IntKind.i64.wrap (p0.Mem - p1.Mem))), (I (IntKind.i64.wrap (p0.Gpu - p1.Gpu))), (I (IntKind.i64.wrap (p0.Lic - p1.Lic)))])) (zbB (by kernel_rfl)) Z <| st (σ1 := [cm (zac.enc p0), cm (zac.enc p1), .cells [(I (IntKind.i64.wrap (p0.Cpu - p1.Cpu))), (I (IntKind.i64.wrap (p0.Mem - p1.Mem))), (I (IntKind.i64.wrap (p0.Gpu - p1.Gpu))), (I (IntKind.i64.wrap (p0.Lic - p1.Lic)))]]) Z <| nl <| nx <| Sem.ret mix ?_
  cases h
  exact ⟨.inr Z, _, _, Z, Z, DLe.of_nrm Z⟩
noncomputable def F65 (N : Nat) : List D → Option D := spec (A := zac × zac) (R := zac) (fun a => [(ST (zac.enc a.1)), (ST (zac.enc a.2))]) (fun r => (ST (zac.enc r))) (fun a => zeD N a.1 a.2)
theorem K65 (N : Nat) : ∀ ds r, F65 N ds = some r → za9 Tryd.prog 65 ds r := zav fun a r h => drayageref02xSub_ok N a.1 a.2 r h
theorem drayageref02xSub_eq {N : Nat} {p0 : zac} {p1 : zac} {r : zac} (h : zeD N p0 p1 = some r) : F65 N [(ST (zac.enc p0)), (ST (zac.enc p1))] = some (ST (zac.enc r)) := zaw (a := (p0, p1)) (ij2 (zbx zac.inj) (zbx zac.inj)) h
noncomputable def S34 (N : Nat) : za1 := [(63, F63 N), (62, F62 N), (61, F61 N), (64, F64 N), (65, F65 N)]
theorem O34 (N : Nat) : zaO Tryd.prog (zat (S34 N)) := zap (zaj.cons (K63 N) <| zaj.cons (K62 N) <| zaj.cons (K61 N) <| zaj.cons (K64 N) <| zaj.cons (K65 N) <| zaj.nil)
theorem drayageref14xLeft_ok (N : Nat) (p0 : (List zac)) (p1 : (List zai)) (r : ((List zac) × Bool)) (h : zeq N p0 p1 = some r) : za9 Tryd.prog 34 [(SL zac.enc p0), (SL zai.enc p1)] (.tup [(SL zac.enc r.1), (B r.2)]) := by
  have O := And.intro mix (O34 N)
  refine zan Tryd.func34 (by kernel_rfl) C34 (bl Z) ?_
  unfold zeq at h
  unfold A34
  dsimp only [zbc]
  refine sq <| rq O <| m Z <| m Z <| nl <| nx <| sq <| rq O <| m Z <| nl <| nx <| Sem.own 6 4 Z (d := (OS 4 0 0)) (σ1 := [OB zac.enc ([] : List zac)]) Z Z <| sq <| rq O <| m Z <| nl <| nx <| sq <| sq <| rq O <| m Z <| nl <| nx <| Sem.block <| Sem.rounds (V := Bool × Int × (List zac)) (fun ((x2, x3, y1) : Bool × Int × (List zac)) => [(0, (SL zac.enc p0)), (1, (SL zai.enc p1)), (6, (OS 4 0 y1.length)), (7, (B x2)), (8, (I x3))]) (fun ((x2, x3, y1) : Bool × Int × (List zac)) => [OB zac.enc y1]) (fun k v => zbj N p0 p1 k v.1 v.2.1 v.2.2 = some r) N (true, 0, ([] : List zac)) h (fun v h => by unfold zbj at h; cases h) ?_ (sS Z <| sS Z <| sE Z (by simp) <| sS Z <| sS Z <| sZ) Z
  intro kL0 v h
  obtain ⟨x2, x3, y1⟩ := v
  try dsimp only at h ⊢
  unfold zbj at h
  unfold A34xl1
  refine sq <| sq <| rq O <| m Z <| m Z <| o (d := (I (p0.length : Int))) (zaA Z) Z <| o (d := (B (decide (x3 < (p0.length : Int))))) (bo Z) Z <| nl <| nx <| Sem.cond Z (fun c4 => ?_) (fun c4 => ?_)
  ·rw [if_pos c4] at h
   refine Sem.skip mix <| nx <| sq <| Sem.block <| sq <| rq O <| o (d := (.agg [I 0, I 0, I 0, I 0])) (zbB (by kernel_rfl)) Z <| o (d := (.ptr 1 0 4)) (σ1 := [OB zac.enc y1, .cells [I 0, I 0, I 0, I 0]]) (zaG Z Z) Z <| st (σ1 := [OB zac.enc y1, .cells [I 0, I 0, I 0, I 0]]) Z <| nl <| nx <| sq <| sq <| rq O <| m Z <| nl <| nx <| Sem.block <| Sem.rounds (V := Int × zac) (fun ((x6, y5) : Int × zac) => [(0, (SL zac.enc p0)), (1, (SL zai.enc p1)), (6, (OS 4 0 y1.length)), (7, (B x2)), (8, (I x3)), (9, (.ptr 1 0 4)), (10, (I x6))]) (fun ((x6, y5) : Int × zac) => [OB zac.enc y1, cm (zac.enc y5)]) (fun k v => zb7 N p0 p1 y1 x2 x3 (zbj N p0 p1 kL0) k v.1 v.2 = some r) N (0, ({ Cpu := 0, Mem := 0, Gpu := 0, Lic := 0 } : zac)) h (fun v h => by unfold zb7 at h; cases h) ?_ (sS Z <| sS Z <| sS Z <| sS Z <| sS Z <| sS Z <| sS Z <| sZ) Z
   intro kL1 v h
   obtain ⟨x6, y5⟩ := v
   try dsimp only at h ⊢
   unfold zb7 at h
   unfold A34xl0
   refine sq <| sq <| rq O <| m Z <| m Z <| o (d := (I (p1.length : Int))) (zaA Z) Z <| o (d := (B (decide (x6 < (p1.length : Int))))) (bo Z) Z <| nl <| nx <| Sem.cond Z (fun c7 => ?_) (fun c7 => ?_)
   ·rw [if_pos c7] at h
    refine Sem.skip mix <| nx <| sq <| Sem.block <| dq O <| l (d := (ST (zac.enc y5))) Z <| m Z <| m Z <| ?_
    obtain ⟨a8, e9, h⟩ := bs h
    refine o (zaF Z Z e9 Z) Z <| o (d := (.c (.fptr (zai.enc a8) 1))) (zau Z) Z <| o (d := (ST (zac.enc a8.Need))) (zal Z Z) Z <| m Z <| m Z <| ?_
    obtain ⟨a10, e11, h⟩ := bs h
    refine o (zaF Z Z e11 Z) Z <| o (d := (.c (.fptr (zai.enc a10) 5))) (zau Z) Z <| o (d := (SL zak.enc a10.Shares)) (zal Z Z) Z <| m Z <| ?_
    obtain ⟨r12, e13, h⟩ := bs h
    refine o (d := (I r12)) (ca (drayageref11xOn_eq e13) Z) Z <| ?_
    obtain ⟨r14, e15, h⟩ := bs h
    refine o (d := (ST (zac.enc r14))) (ca (drayageref11xTimes_eq e15) Z) Z <| ?_
    obtain ⟨r16, e17, h⟩ := bs h
    refine o (d := (ST (zac.enc r16))) (ca (zfq e17) Z) Z <| st (σ1 := [OB zac.enc y1, cm (zac.enc r16)]) Z <| nl ⟨by kernel_rfl, ?_⟩
    refine nx <| nx <| rq O <| m Z <| o (d := (I (IntKind.i64.wrap (x6 + 1)))) (bo Z) Z <| m Z <| nl ?_
    exact ⟨((IntKind.i64.wrap (x6 + 1)), r16), h, .same (sS Z <| sS Z <| sS Z <| sS Z <| sS Z <| sS Z <| sS Z <| sZ)⟩
   ·rw [if_neg (zaH c7)] at h
    refine Sem.exit mix <| nx <| ⟨_, _, .refl, fun _ => ?_, fun hh => absurd Z hh⟩
    refine nx <| Sem.join (fun (x22 : Bool) => [(0, (SL zac.enc p0)), (1, (SL zai.enc p1)), (6, (OS 4 0 y1.length)), (7, (B x22)), (8, (I x3)), (9, (.ptr 1 0 4))]) (fun (x22 : Bool) => [OB zac.enc y1, cm (zac.enc y5)]) (fun (x22 : Bool) => zee N p0 y1 x3 y5 (zbj N p0 p1 kL0) x22 = some r) ?_ (dq O ?_)
    ·intro x22 h
     try dsimp only at h ⊢
     unfold zee at h
     refine dq O <| m Z <| m Z <| m Z <| ?_
     obtain ⟨a23, e24, h⟩ := bs h
     refine o (zaF Z Z e24 Z) Z <| o (d := (ST (zac.enc a23))) (zal Z Z) Z <| l (d := (ST (zac.enc y5))) Z <| ?_
     obtain ⟨r25, e26, h⟩ := bs h
     refine o (d := (ST (zac.enc r25))) (ca (drayageref02xSub_eq e26) Z) Z <| o (d := (OS 4 2 1)) (σ1 := [OB zac.enc y1, cm (zac.enc y5), OB zac.enc ([r25] : List zac)]) (zaL (f := zac.enc) (l := ([r25] : List zac)) (cs := ((([r25] : List zac)).flatMap zac.enc).map .c) (by kernel_rfl) Z Z (fun _ => Z) Z Z Z) Z <| ?_
     obtain ⟨z27, e28, h⟩ := bs h
     refine o (d := (OS 4 0 z27.length)) (σ1 := [OB zac.enc z27, cm (zac.enc y5), OB zac.enc ([r25] : List zac)]) (zcU (f := zac.enc) (fun _ => Z) Z Z Z Z (zeL (fun _ => Z) Z (by simp)) e28 Z Z Z) Z <| m Z <| nl ⟨by kernel_rfl, ?_⟩
     refine nx <| nx <| rq O <| m Z <| o (d := (I (IntKind.i64.wrap (x3 + 1)))) (bo Z) Z <| m Z <| nl ?_
     exact ⟨(x22, (IntKind.i64.wrap (x3 + 1)), z27), h, .cut 1 (bl Z) (bl Z) (sS Z <| sS Z <| sS Z <| sS Z <| sS Z <| sZ) Z (zeN zeP Z)⟩
    ·refine m Z <| m Z <| ?_
     rcases bb x2 with g1 | g1
     ·rw [if_pos g1] at h
      refine lo (d := (ST (zac.enc y5))) g1 Z <| mo g1 Z <| mo g1 Z <| ?_
      obtain ⟨a29, e30, h⟩ := bs h
      refine q (zaF Z Z e30 Z) g1 Z <| q (d := (ST (zac.enc a29))) (zal Z Z) g1 Z <| ?_
      obtain ⟨r31, e32, h⟩ := bs h
      refine q (d := (B r31)) (ca (zeS e32) Z) g1 Z <| pT g1 Z <| m Z <| nl ⟨by kernel_rfl, ?_⟩
      exact ⟨r31, h, .same (sS Z <| sS Z <| sS Z <| sS Z <| sS Z <| sS Z <| sZ)⟩
     ·rw [if_neg (zaH g1)] at h
      refine TrQ.know (v := false) 40 Z g1 <| TrQ.skipG 6 Z <| pF Z Z <| m Z <| nl ⟨by kernel_rfl, ?_⟩
      exact ⟨false, h, .same (sS Z <| sS Z <| sS Z <| sS Z <| sS Z <| sS Z <| sZ)⟩
  ·rw [if_neg (zaH c4)] at h
   refine Sem.exit mix <| nx <| ⟨_, _, .refl, fun _ => ?_, fun hh => absurd Z hh⟩
   refine nx <| sq <| rq O <| m Z <| m Z <| m Z <| m Z <| nl <| nx <| Sem.ret mix ?_
   cases h
   exact ⟨.inr Z, _, _, Z, (frz_tup (zb2 (frz1xown (fun _ => Z) (bl Z) Z Z) (zb2 Z Z))), DLe.of_nrm Z⟩
noncomputable def F34 (N : Nat) : List D → Option D := spec (A := (List zac) × (List zai)) (R := ((List zac) × Bool)) (fun a => [(SL zac.enc a.1), (SL zai.enc a.2)]) (fun r => (.tup [(SL zac.enc r.1), (B r.2)])) (fun a => zeq N a.1 a.2)
theorem K34 (N : Nat) : ∀ ds r, F34 N ds = some r → za9 Tryd.prog 34 ds r := zav fun a r h => drayageref14xLeft_ok N a.1 a.2 r h
theorem drayageref14xLeft_eq {N : Nat} {p0 : (List zac)} {p1 : (List zai)} {r : ((List zac) × Bool)} (h : zeq N p0 p1 = some r) : F34 N [(SL zac.enc p0), (SL zai.enc p1)] = some (.tup [(SL zac.enc r.1), (B r.2)]) := zaw (a := (p0, p1)) (ij2 (zeM zac.inj) (zeM zai.inj)) h
noncomputable def S16 (N : Nat) : za1 := [(31, F31 N), (32, F32 N), (33, F33 N), (34, F34 N)]
theorem O16 (N : Nat) : zaO Tryd.prog (zat (S16 N)) := zap (zaj.cons (K31 N) <| zaj.cons (K32 N) <| zaj.cons (K33 N) <| zaj.cons (K34 N) <| zaj.nil)
theorem drayageref23xallocs_ok (N : Nat) (p0 : zab) (p1 : zag) (r : Bool) (h : zdu N p0 p1 = some r) : za9 Tryd.prog 16 [(ST (zab.enc p0)), (ST (zag.enc p1))] (B r) := by
  have O := And.intro mix (O16 N)
  refine zan Tryd.func16 (by kernel_rfl) C16 (bl Z) ?_
  unfold zdu at h
  unfold A16
  dsimp only [zbc]
  refine sq <| rq O <| o (d := (.ptr 0 0 18)) (σ1 := [cm (zab.enc p0)]) (zba Z Z Z Z) Z <| o (d := (.ptr 1 0 9)) (σ1 := [cm (zab.enc p0), cm (zag.enc p1)]) (zba Z Z Z Z) Z <| m Z <| nl <| nx <| sq <| sq <| rq O <| m Z <| nl <| nx <| Sem.block <| Sem.rounds (V := Int) (fun (x1 : Int) => [(2, (.ptr 0 0 18)), (3, (.ptr 1 0 9)), (5, (I x1))]) (fun (x1 : Int) => [cm (zab.enc p0), cm (zag.enc p1)]) (fun k v => zaz N p0 p1 k v = some r) N 0 h (fun v h => by unfold zaz at h; cases h) ?_ (sS Z <| sS Z <| sS Z <| sZ) Z
  intro kL0 x1 h
  try dsimp only at h ⊢
  unfold zaz at h
  unfold A16xl0
  refine sq <| sq <| rq O <| m Z <| o (d := (.ptr 1 4 9)) (zaf Z) Z <| l (d := (SL zai.enc p1.Allocs)) Z <| o (d := (I (p1.Allocs.length : Int))) (zaA Z) Z <| o (d := (B (decide (x1 < (p1.Allocs.length : Int))))) (bo Z) Z <| nl <| nx <| Sem.cond Z (fun c2 => ?_) (fun c2 => ?_)
  ·rw [if_pos c2] at h
   refine Sem.skip mix <| nx <| sq <| Sem.block <| sq <| rq O <| o (d := (.ptr 1 4 9)) (zaf Z) Z <| l (d := (SL zai.enc p1.Allocs)) Z <| m Z <| ?_
   obtain ⟨a3, e4, h⟩ := bs h
   refine o (zaF Z Z e4 Z) Z <| o (d := (ST (zai.enc a3))) (zal Z Z) Z <| o (d := (.ptr 2 0 6)) (σ1 := [cm (zab.enc p0), cm (zag.enc p1), .cells [I 0, I 0, I 0, I 0, I 0, sn]]) (zaG Z Z) Z <| st (σ1 := [cm (zab.enc p0), cm (zag.enc p1), cm (zai.enc a3)]) Z <| nl <| nx <| Sem.join (fun (x13 : Bool) => [(2, (.ptr 0 0 18)), (3, (.ptr 1 0 9)), (5, (I x1)), (57, (B x13))]) (fun (x13 : Bool) => [cm (zab.enc p0), cm (zag.enc p1), cm (zai.enc a3)]) (fun (x13 : Bool) => zaI N x1 (zaz N p0 p1 kL0) x13 = some r) ?_ (dq O ?_)
   ·intro x13 h
    try dsimp only at h ⊢
    unfold zaI at h
    refine Sem.cond Z (fun c14 => ?_) (fun c14 => ?_)
    ·rw [if_pos c14] at h
     refine sq <| rq O <| m Z <| nl <| nx <| Sem.ret mix <| nx <| nx <| nx ?_
     cases h
     exact ⟨.inr Z, _, _, Z, Z, DLe.of_nrm Z⟩
    ·rw [if_neg (zaH c14)] at h
     refine Sem.skip mix <| nx <| nx <| rq O <| m Z <| o (d := (I (IntKind.i64.wrap (x1 + 1)))) (bo Z) Z <| m Z <| nl ?_
     exact ⟨(IntKind.i64.wrap (x1 + 1)), h, .cut 2 (bl Z) (bl Z) (sS Z <| sS Z <| sS Z <| sZ) Z Z⟩
   ·refine m Z <| o (d := (B (decide (x1 > 0)))) (bo Z) Z <| m Z <| ?_
    rcases bb (decide (x1 > 0)) with g7 | g7
    ·rw [if_pos g7] at h
     refine q (d := (.ptr 1 4 9)) (zaf Z) g7 Z <| lo (d := (SL zai.enc p1.Allocs)) g7 Z <| mo g7 Z <| q (d := (I (IntKind.i64.wrap (x1 - 1)))) (bo Z) g7 Z <| ?_
     obtain ⟨a15, e16, h⟩ := bs h
     refine q (zaF Z Z e16 Z) g7 Z <| q (d := (.c (.fptr (zai.enc a15) 0))) (zau Z) g7 Z <| q (d := (I a15.Job)) (zal Z Z) g7 Z <| q (d := (.ptr 2 0 6)) (zaf Z) g7 Z <| lo (d := (I a3.Job)) g7 Z <| q (d := (B (decide (a15.Job ≥ a3.Job)))) (bo Z) g7 Z <| pT g7 Z <| m Z <| ?_
     rcases bb (decide (a15.Job ≥ a3.Job)) with g8 | g8
     ·rw [if_pos g8] at h
      refine TrQ.know (v := true) 35 Z g8 <| TrQ.skipG 6 Z <| pT Z Z <| m Z <| TrQ.skipG 7 Z <| pT Z Z <| m Z <| TrQ.skipG 4 Z <| pT Z Z <| nl ⟨by kernel_rfl, ?_⟩
      exact ⟨true, h, .same (sS Z <| sS Z <| sS Z <| sS Z <| sZ)⟩
     ·rw [if_neg (zaH g8)] at h
      refine q (d := (.ptr 1 3 9)) (zaf Z) g8 Z <| lo (d := (SL zad.enc p1.Jobs)) g8 Z <| q (d := (.ptr 2 0 6)) (zaf Z) g8 Z <| lo (d := (I a3.Job)) g8 Z <| ?_
      obtain ⟨r17, e18, h⟩ := bs h
      refine q (d := (I r17)) (ca (zeR e18) Z) g8 Z <| q (d := (B (decide (r17 < 0)))) (bo Z) g8 Z <| pF g8 Z <| m Z <| ?_
      rcases bb (decide (r17 < 0)) with g9 | g9
      ·rw [if_pos g9] at h
       refine TrQ.know (v := true) 43 Z g9 <| TrQ.skipG 7 Z <| pT Z Z <| m Z <| TrQ.skipG 4 Z <| pT Z Z <| nl ⟨by kernel_rfl, ?_⟩
       exact ⟨true, h, .same (sS Z <| sS Z <| sS Z <| sS Z <| sZ)⟩
      ·rw [if_neg (zaH g9)] at h
       refine q (d := (.ptr 2 5 6)) (zaf Z) g9 Z <| lo (d := (SL zak.enc a3.Shares)) g9 Z <| q (d := (.ptr 0 0 18)) (zaf Z) g9 Z <| lo (d := (SL zac.enc p0.Nodes)) g9 Z <| q (d := (I (p0.Nodes.length : Int))) (zaA Z) g9 Z <| ?_
       obtain ⟨r19, e20, h⟩ := bs h
       refine q (d := (B r19)) (ca (zff e20) Z) g9 Z <| q (d := (B (!r19))) (zbA Z Z Z Z) g9 Z <| pF g9 Z <| m Z <| ?_
       rcases bb (!r19) with g10 | g10
       ·rw [if_pos g10] at h
        refine TrQ.know (v := true) 52 Z g10 <| TrQ.skipG 4 Z <| pT Z Z <| nl ⟨by kernel_rfl, ?_⟩
        exact ⟨true, h, .same (sS Z <| sS Z <| sS Z <| sS Z <| sZ)⟩
       ·rw [if_neg (zaH g10)] at h
        refine q (d := (.ptr 2 1 6)) (zaf Z) g10 Z <| lo (d := (ST (zac.enc a3.Need))) g10 Z <| ?_
        obtain ⟨r21, e22, h⟩ := bs h
        refine q (d := (B r21)) (ca (zcR e22) Z) g10 Z <| q (d := (B (!r21))) (zbA Z Z Z Z) g10 Z <| pF g10 Z <| nl ⟨by kernel_rfl, ?_⟩
        exact ⟨(!r21), h, .same (sS Z <| sS Z <| sS Z <| sS Z <| sZ)⟩
    ·rw [if_neg (zaH g7)] at h
     refine TrQ.know (v := false) 23 Z g7 <| TrQ.skipG 10 Z <| pF Z Z <| m Z <| q (d := (.ptr 1 3 9)) (zaf Z) Z Z <| lo (d := (SL zad.enc p1.Jobs)) Z Z <| q (d := (.ptr 2 0 6)) (zaf Z) Z Z <| lo (d := (I a3.Job)) Z Z <| ?_
     obtain ⟨r23, e24, h⟩ := bs h
     refine q (d := (I r23)) (ca (zeR e24) Z) Z Z <| q (d := (B (decide (r23 < 0)))) (bo Z) Z Z <| pF Z Z <| m Z <| ?_
     rcases bb (decide (r23 < 0)) with g11 | g11
     ·rw [if_pos g11] at h
      refine TrQ.know (v := true) 43 Z g11 <| TrQ.skipG 7 Z <| pT Z Z <| m Z <| TrQ.skipG 4 Z <| pT Z Z <| nl ⟨by kernel_rfl, ?_⟩
      exact ⟨true, h, .same (sS Z <| sS Z <| sS Z <| sS Z <| sZ)⟩
     ·rw [if_neg (zaH g11)] at h
      refine q (d := (.ptr 2 5 6)) (zaf Z) g11 Z <| lo (d := (SL zak.enc a3.Shares)) g11 Z <| q (d := (.ptr 0 0 18)) (zaf Z) g11 Z <| lo (d := (SL zac.enc p0.Nodes)) g11 Z <| q (d := (I (p0.Nodes.length : Int))) (zaA Z) g11 Z <| ?_
      obtain ⟨r25, e26, h⟩ := bs h
      refine q (d := (B r25)) (ca (zff e26) Z) g11 Z <| q (d := (B (!r25))) (zbA Z Z Z Z) g11 Z <| pF g11 Z <| m Z <| ?_
      rcases bb (!r25) with g12 | g12
      ·rw [if_pos g12] at h
       refine TrQ.know (v := true) 52 Z g12 <| TrQ.skipG 4 Z <| pT Z Z <| nl ⟨by kernel_rfl, ?_⟩
       exact ⟨true, h, .same (sS Z <| sS Z <| sS Z <| sS Z <| sZ)⟩
      ·rw [if_neg (zaH g12)] at h
       refine q (d := (.ptr 2 1 6)) (zaf Z) g12 Z <| lo (d := (ST (zac.enc a3.Need))) g12 Z <| ?_
       obtain ⟨r27, e28, h⟩ := bs h
       refine q (d := (B r27)) (ca (zcR e28) Z) g12 Z <| q (d := (B (!r27))) (zbA Z Z Z Z) g12 Z <| pF g12 Z <| nl ⟨by kernel_rfl, ?_⟩
       exact ⟨(!r27), h, .same (sS Z <| sS Z <| sS Z <| sS Z <| sZ)⟩
  ·rw [if_neg (zaH c2)] at h
   refine Sem.exit mix <| nx <| ⟨_, _, .refl, fun _ => ?_, fun hh => absurd Z hh⟩
   refine nx <| sq <| rq O <| o (d := (.ptr 0 0 18)) (zaf Z) Z <| l (d := (SL zac.enc p0.Nodes)) Z <| o (d := (.ptr 1 4 9)) (zaf Z) Z <| l (d := (SL zai.enc p1.Allocs)) Z <| ?_
   obtain ⟨⟨r29, r30⟩, e31, h⟩ := bs h
   try dsimp only at h
   refine o (d := (.tup [(SL zac.enc r29), B r30])) (ca (drayageref14xLeft_eq e31) Z) Z <| m Z <| o (zbw Z Z) Z <| o (zbw Z Z) Z <| m Z <| m Z <| nl <| nx <| sq <| rq O <| m Z <| m Z <| nl <| nx <| Sem.ret mix ?_
   cases h
   exact ⟨.inr Z, _, _, Z, Z, DLe.of_nrm Z⟩
noncomputable def F16 (N : Nat) : List D → Option D := spec (A := zab × zag) (R := Bool) (fun a => [(ST (zab.enc a.1)), (ST (zag.enc a.2))]) (fun r => (B r)) (fun a => zdu N a.1 a.2)
theorem K16 (N : Nat) : ∀ ds r, F16 N ds = some r → za9 Tryd.prog 16 ds r := zav fun a r h => drayageref23xallocs_ok N a.1 a.2 r h
theorem drayageref23xallocs_eq {N : Nat} {p0 : zab} {p1 : zag} {r : Bool} (h : zdu N p0 p1 = some r) : F16 N [(ST (zab.enc p0)), (ST (zag.enc p1))] = some (B r) := zaw (a := (p0, p1)) (ij2 (zbx zab.inj) (zbx zag.inj)) h
noncomputable def S35 (N : Nat) : za1 := [(31, F31 N), (63, F63 N)]
theorem O35 (N : Nat) : zaO Tryd.prog (zat (S35 N)) := zap (zaj.cons (K31 N) <| zaj.cons (K63 N) <| zaj.nil)
theorem drayageref23xTaken_ok (N : Nat) (p0 : zag) (p1 : Int) (p2 : Int) (r : Bool) (h : zdU N p0 p1 p2 = some r) : za9 Tryd.prog 35 [(ST (zag.enc p0)), I p1, I p2] (B r) := by
  have O := And.intro mix (O35 N)
  refine zan Tryd.func35 (by kernel_rfl) C35 (bl Z) ?_
  unfold zdU at h
  unfold A35
  dsimp only [zbc]
  refine sq <| rq O <| o (d := (.ptr 0 0 9)) (σ1 := [cm (zag.enc p0)]) (zba Z Z Z Z) Z <| m Z <| nl <| nx <| sq <| sq <| rq O <| m Z <| nl <| nx <| Sem.block <| Sem.rounds (V := Int) (fun (x1 : Int) => [(1, (I p1)), (2, (I p2)), (3, (.ptr 0 0 9)), (7, (I x1))]) (fun (x1 : Int) => [cm (zag.enc p0)]) (fun k v => zbp N p0 p1 p2 k v = some r) N 0 h (fun v h => by unfold zbp at h; cases h) ?_ (sS Z <| sS Z <| sS Z <| sS Z <| sZ) Z
  intro kL0 x1 h
  try dsimp only at h ⊢
  unfold zbp at h
  unfold A35xl0
  refine sq <| sq <| rq O <| m Z <| o (d := (.ptr 0 4 9)) (zaf Z) Z <| l (d := (SL zai.enc p0.Allocs)) Z <| o (d := (I (p0.Allocs.length : Int))) (zaA Z) Z <| o (d := (B (decide (x1 < (p0.Allocs.length : Int))))) (bo Z) Z <| nl <| nx <| Sem.cond Z (fun c2 => ?_) (fun c2 => ?_)
  ·rw [if_pos c2] at h
   refine Sem.skip mix <| nx <| sq <| Sem.block <| sq <| dq O <| o (d := (.ptr 0 3 9)) (zaf Z) Z <| l (d := (SL zad.enc p0.Jobs)) Z <| o (d := (.ptr 0 4 9)) (zaf Z) Z <| l (d := (SL zai.enc p0.Allocs)) Z <| m Z <| ?_
   obtain ⟨a3, e4, h⟩ := bs h
   refine o (zaF Z Z e4 Z) Z <| o (d := (.c (.fptr (zai.enc a3) 0))) (zau Z) Z <| o (d := (I a3.Job)) (zal Z Z) Z <| ?_
   obtain ⟨r5, e6, h⟩ := bs h
   refine o (d := (I r5)) (ca (zeR e6) Z) Z <| m Z <| nl ⟨by kernel_rfl, ?_⟩
   refine nx <| Sem.join (fun (x15 : Bool) => [(1, (I p1)), (2, (I p2)), (3, (.ptr 0 0 9)), (7, (I x1)), (54, (B x15))]) (fun (x15 : Bool) => [cm (zag.enc p0)]) (fun (x15 : Bool) => zc1 N x1 (zbp N p0 p1 p2 kL0) x15 = some r) ?_ (dq O ?_)
   ·intro x15 h
    try dsimp only at h ⊢
    unfold zc1 at h
    refine Sem.cond Z (fun c16 => ?_) (fun c16 => ?_)
    ·rw [if_pos c16] at h
     refine sq <| rq O <| m Z <| nl <| nx <| Sem.ret mix <| nx <| nx <| nx ?_
     cases h
     exact ⟨.inr Z, _, _, Z, Z, DLe.of_nrm Z⟩
    ·rw [if_neg (zaH c16)] at h
     refine Sem.skip mix <| nx <| nx <| rq O <| m Z <| o (d := (I (IntKind.i64.wrap (x1 + 1)))) (bo Z) Z <| m Z <| nl ?_
     exact ⟨(IntKind.i64.wrap (x1 + 1)), h, .same (sS Z <| sS Z <| sS Z <| sS Z <| sZ)⟩
   ·refine m Z <| o (d := (B (decide (r5 ≥ 0)))) (bo Z) Z <| m Z <| ?_
    rcases bb (decide (r5 ≥ 0)) with g3 | g3
    ·rw [if_pos g3] at h
     refine q (d := (.ptr 0 4 9)) (zaf Z) g3 Z <| lo (d := (SL zai.enc p0.Allocs)) g3 Z <| mo g3 Z <| ?_
     obtain ⟨a17, e18, h⟩ := bs h
     refine q (zaF Z Z e18 Z) g3 Z <| q (d := (.c (.fptr (zai.enc a17) 5))) (zau Z) g3 Z <| q (d := (SL zak.enc a17.Shares)) (zal Z Z) g3 Z <| mo g3 Z <| ?_
     obtain ⟨r19, e20, h⟩ := bs h
     refine q (d := (I r19)) (ca (drayageref11xOn_eq e20) Z) g3 Z <| q (d := (B (decide (r19 > 0)))) (bo Z) g3 Z <| pT g3 Z <| m Z <| ?_
     rcases bb (decide (r19 > 0)) with g4 | g4
     ·rw [if_pos g4] at h
      refine q (d := (.ptr 0 3 9)) (zaf Z) g4 Z <| lo (d := (SL zad.enc p0.Jobs)) g4 Z <| mo g4 Z <| ?_
      obtain ⟨a21, e22, h⟩ := bs h
      refine q (zaF Z Z e22 Z) g4 Z <| q (d := (.c (.fptr (zad.enc a21) 15))) (zau Z) g4 Z <| q (d := (I a21.Start)) (zal Z Z) g4 Z <| q (d := (.ptr 0 3 9)) (zaf Z) g4 Z <| lo (d := (SL zad.enc p0.Jobs)) g4 Z <| mo g4 Z <| ?_
      obtain ⟨a23, e24, h⟩ := bs h
      refine q (zaF Z Z e24 Z) g4 Z <| q (d := (.c (.fptr (zad.enc a23) 8))) (zau Z) g4 Z <| q (d := (I a23.Wall)) (zal Z Z) g4 Z <| q (d := (I (IntKind.i64.wrap (a21.Start + a23.Wall)))) (bo Z) g4 Z <| mo g4 Z <| q (d := (B (decide ((IntKind.i64.wrap (a21.Start + a23.Wall)) > p2)))) (bo Z) g4 Z <| pT g4 Z <| nl ⟨by kernel_rfl, ?_⟩
      exact ⟨(decide ((IntKind.i64.wrap (a21.Start + a23.Wall)) > p2)), h, .same (sS Z <| sS Z <| sS Z <| sS Z <| sS Z <| sZ)⟩
     ·rw [if_neg (zaH g4)] at h
      refine TrQ.know (v := false) 38 Z g4 <| TrQ.skipG 15 Z <| pF Z Z <| nl ⟨by kernel_rfl, ?_⟩
      exact ⟨false, h, .same (sS Z <| sS Z <| sS Z <| sS Z <| sS Z <| sZ)⟩
    ·rw [if_neg (zaH g3)] at h
     refine TrQ.know (v := false) 27 Z g3 <| TrQ.skipG 9 Z <| pF Z Z <| m Z <| TrQ.skipG 15 Z <| pF Z Z <| nl ⟨by kernel_rfl, ?_⟩
     exact ⟨false, h, .same (sS Z <| sS Z <| sS Z <| sS Z <| sS Z <| sZ)⟩
  ·rw [if_neg (zaH c2)] at h
   refine Sem.exit mix <| nx <| ⟨_, _, .refl, fun _ => ?_, fun hh => absurd Z hh⟩
   refine nx <| sq <| rq O <| m Z <| nl <| nx <| Sem.ret mix ?_
   cases h
   exact ⟨.inr Z, _, _, Z, Z, DLe.of_nrm Z⟩
noncomputable def F35 (N : Nat) : List D → Option D := spec (A := zag × Int × Int) (R := Bool) (fun a => [(ST (zag.enc a.1)), I a.2.1, I a.2.2]) (fun r => (B r)) (fun a => zdU N a.1 a.2.1 a.2.2)
theorem K35 (N : Nat) : ∀ ds r, F35 N ds = some r → za9 Tryd.prog 35 ds r := zav fun a r h => drayageref23xTaken_ok N a.1 a.2.1 a.2.2 r h
theorem drayageref23xTaken_eq {N : Nat} {p0 : zag} {p1 : Int} {p2 : Int} {r : Bool} (h : zdU N p0 p1 p2 = some r) : F35 N [(ST (zag.enc p0)), I p1, I p2] = some (B r) := zaw (a := (p0, p1, p2)) (ij3 (zbx zag.inj) zev zev) h
noncomputable def S66 (N : Nat) : za1 := [(15, F15 N)]
theorem O66 (N : Nat) : zaO Tryd.prog (zat (S66 N)) := zap (zaj.cons (K15 N) <| zaj.nil)
theorem drayageref12xOne_ok (N : Nat) (p0 : zam) (p1 : Int) (r : Bool) (h : zd4 N p0 p1 = some r) : za9 Tryd.prog 66 [(ST (zam.enc p0)), I p1] (B r) := by
  have O := And.intro mix (O66 N)
  refine zan Tryd.func66 (by kernel_rfl) C66 (bl Z) ?_
  unfold zd4 at h
  unfold A66
  dsimp only [zbc]
  refine sq <| rq O <| o (d := (.ptr 0 0 4)) (σ1 := [cm (zam.enc p0)]) (zba Z Z Z Z) Z <| m Z <| nl <| nx <| Sem.join (fun (x3 : Bool) => [(4, (B x3))]) (fun (x3 : Bool) => [cm (zam.enc p0)]) (fun (x3 : Bool) => zbH N  x3 = some r) ?_ (rq O ?_)
  ·intro x3 h
   try dsimp only at h ⊢
   unfold zbH at h
   refine Sem.ret mix ?_
   cases h
   exact ⟨.inr Z, _, _, Z, Z, DLe.of_nrm Z⟩
  ·refine o (d := (.ptr 0 0 4)) (zaf Z) Z <| l (d := (I p0.Id)) Z <| o (d := (B (decide (p0.Id > 0)))) (bo Z) Z <| m Z <| ?_
   rcases bb (decide (p0.Id > 0)) with g1 | g1
   ·rw [if_pos g1] at h
    refine q (d := (.ptr 0 0 4)) (zaf Z) g1 Z <| lo (d := (I p0.Id)) g1 Z <| ?_
    obtain ⟨r4, e5, h⟩ := bs h
    refine q (d := (B r4)) (ca (zeI e5) Z) g1 Z <| pT g1 Z <| m Z <| ?_
    rcases bb r4 with g2 | g2
    ·rw [if_pos g2] at h
     refine q (d := (.ptr 0 1 4)) (zaf Z) g2 Z <| lo (d := (I p0.Node)) g2 Z <| q (d := (B (decide (p0.Node ≥ 0)))) (bo Z) g2 Z <| pT g2 Z <| m Z <| ?_
     rcases bb (decide (p0.Node ≥ 0)) with g3 | g3
     ·rw [if_pos g3] at h
      refine q (d := (.ptr 0 1 4)) (zaf Z) g3 Z <| lo (d := (I p0.Node)) g3 Z <| mo g3 Z <| q (d := (B (decide (p0.Node < p1)))) (bo Z) g3 Z <| pT g3 Z <| m Z <| ?_
      rcases bb (decide (p0.Node < p1)) with g4 | g4
      ·rw [if_pos g4] at h
       refine q (d := (.ptr 0 2 4)) (zaf Z) g4 Z <| lo (d := (I p0.From)) g4 Z <| q (d := (B (decide (p0.From ≥ 0)))) (bo Z) g4 Z <| pT g4 Z <| m Z <| ?_
       rcases bb (decide (p0.From ≥ 0)) with g5 | g5
       ·rw [if_pos g5] at h
        refine q (d := (.ptr 0 3 4)) (zaf Z) g5 Z <| lo (d := (I p0.To)) g5 Z <| q (d := (.ptr 0 2 4)) (zaf Z) g5 Z <| lo (d := (I p0.From)) g5 Z <| q (d := (B (decide (p0.To > p0.From)))) (bo Z) g5 Z <| pT g5 Z <| m Z <| ?_
        rcases bb (decide (p0.To > p0.From)) with g6 | g6
        ·rw [if_pos g6] at h
         refine q (d := (.ptr 0 3 4)) (zaf Z) g6 Z <| lo (d := (I p0.To)) g6 Z <| q (d := (B (decide (p0.To ≤ 1099511627776)))) (bo Z) g6 Z <| pT g6 Z <| m Z <| nl ?_
         exact ⟨(decide (p0.To ≤ 1099511627776)), h, .same (sS Z <| sZ)⟩
        ·rw [if_neg (zaH g6)] at h
         refine TrQ.know (v := false) 36 Z g6 <| TrQ.skipG 3 Z <| pF Z Z <| m Z <| nl ?_
         exact ⟨false, h, .same (sS Z <| sZ)⟩
       ·rw [if_neg (zaH g5)] at h
        refine TrQ.know (v := false) 29 Z g5 <| TrQ.skipG 5 Z <| pF Z Z <| m Z <| TrQ.skipG 3 Z <| pF Z Z <| m Z <| nl ?_
        exact ⟨false, h, .same (sS Z <| sZ)⟩
      ·rw [if_neg (zaH g4)] at h
       refine TrQ.know (v := false) 24 Z g4 <| TrQ.skipG 3 Z <| pF Z Z <| m Z <| TrQ.skipG 5 Z <| pF Z Z <| m Z <| TrQ.skipG 3 Z <| pF Z Z <| m Z <| nl ?_
       exact ⟨false, h, .same (sS Z <| sZ)⟩
     ·rw [if_neg (zaH g3)] at h
      refine TrQ.know (v := false) 18 Z g3 <| TrQ.skipG 4 Z <| pF Z Z <| m Z <| TrQ.skipG 3 Z <| pF Z Z <| m Z <| TrQ.skipG 5 Z <| pF Z Z <| m Z <| TrQ.skipG 3 Z <| pF Z Z <| m Z <| nl ?_
      exact ⟨false, h, .same (sS Z <| sZ)⟩
    ·rw [if_neg (zaH g2)] at h
     refine TrQ.know (v := false) 13 Z g2 <| TrQ.skipG 3 Z <| pF Z Z <| m Z <| TrQ.skipG 4 Z <| pF Z Z <| m Z <| TrQ.skipG 3 Z <| pF Z Z <| m Z <| TrQ.skipG 5 Z <| pF Z Z <| m Z <| TrQ.skipG 3 Z <| pF Z Z <| m Z <| nl ?_
     exact ⟨false, h, .same (sS Z <| sZ)⟩
   ·rw [if_neg (zaH g1)] at h
    refine TrQ.know (v := false) 8 Z g1 <| TrQ.skipG 3 Z <| pF Z Z <| m Z <| TrQ.skipG 3 Z <| pF Z Z <| m Z <| TrQ.skipG 4 Z <| pF Z Z <| m Z <| TrQ.skipG 3 Z <| pF Z Z <| m Z <| TrQ.skipG 5 Z <| pF Z Z <| m Z <| TrQ.skipG 3 Z <| pF Z Z <| m Z <| nl ?_
    exact ⟨false, h, .same (sS Z <| sZ)⟩
noncomputable def F66 (N : Nat) : List D → Option D := spec (A := zam × Int) (R := Bool) (fun a => [(ST (zam.enc a.1)), I a.2]) (fun r => (B r)) (fun a => zd4 N a.1 a.2)
theorem K66 (N : Nat) : ∀ ds r, F66 N ds = some r → za9 Tryd.prog 66 ds r := zav fun a r h => drayageref12xOne_ok N a.1 a.2 r h
theorem drayageref12xOne_eq {N : Nat} {p0 : zam} {p1 : Int} {r : Bool} (h : zd4 N p0 p1 = some r) : F66 N [(ST (zam.enc p0)), I p1] = some (B r) := zaw (a := (p0, p1)) (ij2 (zbx zam.inj) zev) h
noncomputable def S67 (N : Nat) : za1 := []
theorem O67 (N : Nat) : zaO Tryd.prog (zat (S67 N)) := zap (zaj.nil)
theorem drayageref12xMeets_ok (N : Nat) (p0 : (List zam)) (p1 : Int) (p2 : Int) (p3 : Int) (r : Bool) (h : zd1 N p0 p1 p2 p3 = some r) : za9 Tryd.prog 67 [(SL zam.enc p0), I p1, I p2, I p3] (B r) := by
  have O := And.intro mix (O67 N)
  refine zan Tryd.func67 (by kernel_rfl) C67 (bl Z) ?_
  unfold zd1 at h
  unfold A67
  dsimp only [zbc]
  refine sq <| rq O <| m Z <| nl <| nx <| sq <| sq <| rq O <| m Z <| nl <| nx <| Sem.block <| Sem.rounds (V := Int) (fun (x1 : Int) => [(0, (SL zam.enc p0)), (1, (I p1)), (2, (I p2)), (3, (I p3)), (9, (I x1))]) (fun (x1 : Int) => []) (fun k v => zcm N p0 p1 p2 p3 k v = some r) N 0 h (fun v h => by unfold zcm at h; cases h) ?_ (sS Z <| sS Z <| sS Z <| sS Z <| sS Z <| sZ) Z
  intro kL0 x1 h
  try dsimp only at h ⊢
  unfold zcm at h
  unfold A67xl0
  refine sq <| sq <| rq O <| m Z <| m Z <| o (d := (I (p0.length : Int))) (zaA Z) Z <| o (d := (B (decide (x1 < (p0.length : Int))))) (bo Z) Z <| nl <| nx <| Sem.cond Z (fun c2 => ?_) (fun c2 => ?_)
  ·rw [if_pos c2] at h
   refine Sem.skip mix <| nx <| sq <| Sem.block <| sq <| rq O <| m Z <| m Z <| ?_
   obtain ⟨a3, e4, h⟩ := bs h
   refine o (zaF Z Z e4 Z) Z <| o (d := (ST (zam.enc a3))) (zal Z Z) Z <| o (d := (.ptr 0 0 4)) (σ1 := [.cells [I 0, I 0, I 0, I 0]]) (zaG Z Z) Z <| st (σ1 := [cm (zam.enc a3)]) Z <| nl <| nx <| Sem.step [(0, (SL zam.enc p0)), (1, (I p1)), (2, (I p2)), (3, (I p3)), (9, (I x1)), (48, (B ((a3.Node == p1) && ((decide (a3.From < a3.To)) && ((decide (p2 < p3)) && ((decide (a3.From < p3)) && (decide (p2 < a3.To))))))))] [cm (zam.enc a3)] (rq O ?_) ?_
   ·refine o (d := (.ptr 0 1 4)) (zaf Z) Z <| l (d := (I a3.Node)) Z <| m Z <| o (d := (B (a3.Node == p1))) (bo Z) Z <| m Z <| ?_
    rcases bb (a3.Node == p1) with g5 | g5
    ·refine q (d := (.ptr 0 2 4)) (zaf Z) g5 Z <| lo (d := (I a3.From)) g5 Z <| q (d := (.ptr 0 3 4)) (zaf Z) g5 Z <| lo (d := (I a3.To)) g5 Z <| q (d := (B (decide (a3.From < a3.To)))) (bo Z) g5 Z <| pT g5 Z <| m Z <| ?_
     rcases bb (decide (a3.From < a3.To)) with g6 | g6
     ·refine mo g6 Z <| mo g6 Z <| q (d := (B (decide (p2 < p3)))) (bo Z) g6 Z <| pT g6 Z <| m Z <| ?_
      rcases bb (decide (p2 < p3)) with g7 | g7
      ·refine q (d := (.ptr 0 2 4)) (zaf Z) g7 Z <| lo (d := (I a3.From)) g7 Z <| mo g7 Z <| q (d := (B (decide (a3.From < p3)))) (bo Z) g7 Z <| pT g7 Z <| m Z <| ?_
       rcases bb (decide (a3.From < p3)) with g8 | g8
       ·refine mo g8 Z <| q (d := (.ptr 0 3 4)) (zaf Z) g8 Z <| lo (d := (I a3.To)) g8 Z <| q (d := (B (decide (p2 < a3.To)))) (bo Z) g8 Z <| pT g8 Z <| nl ⟨rfl, .same (sS Z <| sS Z <| sS Z <| sS Z <| sS Z <| sE Z (by rw [g5, g6, g7, g8]; rfl) <| sZ)⟩
       ·refine TrQ.know (v := false) 43 Z g8 <| TrQ.skipG 4 Z <| pF Z Z <| nl ⟨rfl, .same (sS Z <| sS Z <| sS Z <| sS Z <| sS Z <| sE Z (by rw [g5, g6, g7, g8]; rfl) <| sZ)⟩
      ·refine TrQ.know (v := false) 37 Z g7 <| TrQ.skipG 4 Z <| pF Z Z <| m Z <| TrQ.skipG 4 Z <| pF Z Z <| nl ⟨rfl, .same (sS Z <| sS Z <| sS Z <| sS Z <| sS Z <| sE Z (by rw [g5, g6, g7]; rfl) <| sZ)⟩
     ·refine TrQ.know (v := false) 32 Z g6 <| TrQ.skipG 3 Z <| pF Z Z <| m Z <| TrQ.skipG 4 Z <| pF Z Z <| m Z <| TrQ.skipG 4 Z <| pF Z Z <| nl ⟨rfl, .same (sS Z <| sS Z <| sS Z <| sS Z <| sS Z <| sE Z (by rw [g5, g6]; rfl) <| sZ)⟩
    ·refine TrQ.know (v := false) 25 Z g5 <| TrQ.skipG 5 Z <| pF Z Z <| m Z <| TrQ.skipG 3 Z <| pF Z Z <| m Z <| TrQ.skipG 4 Z <| pF Z Z <| m Z <| TrQ.skipG 4 Z <| pF Z Z <| nl ⟨rfl, .same (sS Z <| sS Z <| sS Z <| sS Z <| sS Z <| sE Z (by rw [g5]; rfl) <| sZ)⟩
   ·refine Sem.cond Z (fun c5 => ?_) (fun c5 => ?_)
    ·rw [if_pos c5] at h
     refine sq <| rq O <| m Z <| nl <| nx <| Sem.ret mix <| nx <| nx <| nx ?_
     cases h
     exact ⟨.inr Z, _, _, Z, Z, DLe.of_nrm Z⟩
    ·rw [if_neg (zaH c5)] at h
     refine Sem.skip mix <| nx <| nx <| rq O <| m Z <| o (d := (I (IntKind.i64.wrap (x1 + 1)))) (bo Z) Z <| m Z <| nl ?_
     exact ⟨(IntKind.i64.wrap (x1 + 1)), h, .cut 0 (bl Z) (bl Z) (sS Z <| sS Z <| sS Z <| sS Z <| sS Z <| sZ) Z Z⟩
  ·rw [if_neg (zaH c2)] at h
   refine Sem.exit mix <| nx <| ⟨_, _, .refl, fun _ => ?_, fun hh => absurd Z hh⟩
   refine nx <| sq <| rq O <| m Z <| nl <| nx <| Sem.ret mix ?_
   cases h
   exact ⟨.inr Z, _, _, Z, Z, DLe.of_nrm Z⟩
noncomputable def F67 (N : Nat) : List D → Option D := spec (A := (List zam) × Int × Int × Int) (R := Bool) (fun a => [(SL zam.enc a.1), I a.2.1, I a.2.2.1, I a.2.2.2]) (fun r => (B r)) (fun a => zd1 N a.1 a.2.1 a.2.2.1 a.2.2.2)
theorem K67 (N : Nat) : ∀ ds r, F67 N ds = some r → za9 Tryd.prog 67 ds r := zav fun a r h => drayageref12xMeets_ok N a.1 a.2.1 a.2.2.1 a.2.2.2 r h
theorem drayageref12xMeets_eq {N : Nat} {p0 : (List zam)} {p1 : Int} {p2 : Int} {p3 : Int} {r : Bool} (h : zd1 N p0 p1 p2 p3 = some r) : F67 N [(SL zam.enc p0), I p1, I p2, I p3] = some (B r) := zaw (a := (p0, p1, p2, p3)) (ij4 (zeM zam.inj) zev zev zev) h
noncomputable def S36 (N : Nat) : za1 := [(66, F66 N), (67, F67 N)]
theorem O36 (N : Nat) : zaO Tryd.prog (zat (S36 N)) := zap (zaj.cons (K66 N) <| zaj.cons (K67 N) <| zaj.nil)
theorem drayageref12xRight_ok (N : Nat) (p0 : (List zam)) (p1 : Int) (r : Bool) (h : zdX N p0 p1 = some r) : za9 Tryd.prog 36 [(SL zam.enc p0), I p1] (B r) := by
  have O := And.intro mix (O36 N)
  refine zan Tryd.func36 (by kernel_rfl) C36 (bl Z) ?_
  unfold zdX at h
  unfold A36
  dsimp only [zbc]
  refine sq <| rq O <| m Z <| nl <| nx <| sq <| sq <| rq O <| m Z <| nl <| nx <| Sem.block <| Sem.rounds (V := Int) (fun (x1 : Int) => [(0, (SL zam.enc p0)), (1, (I p1)), (5, (I x1))]) (fun (x1 : Int) => []) (fun k v => zbE N p0 p1 k v = some r) N 0 h (fun v h => by unfold zbE at h; cases h) ?_ (sS Z <| sS Z <| sS Z <| sZ) Z
  intro kL0 x1 h
  try dsimp only at h ⊢
  unfold zbE at h
  unfold A36xl1
  refine sq <| sq <| rq O <| m Z <| m Z <| o (d := (I (p0.length : Int))) (zaA Z) Z <| o (d := (B (decide (x1 < (p0.length : Int))))) (bo Z) Z <| nl <| nx <| Sem.cond Z (fun c2 => ?_) (fun c2 => ?_)
  ·rw [if_pos c2] at h
   refine Sem.skip mix <| nx <| sq <| Sem.block <| sq <| sq <| rq O <| m Z <| m Z <| ?_
   obtain ⟨a3, e4, h⟩ := bs h
   refine o (zaF Z Z e4 Z) Z <| o (d := (ST (zam.enc a3))) (zal Z Z) Z <| m Z <| ?_
   obtain ⟨r5, e6, h⟩ := bs h
   refine o (d := (B r5)) (ca (drayageref12xOne_eq e6) Z) Z <| o (d := (B (!r5))) (zbA Z Z Z Z) Z <| nl <| nx <| Sem.cond Z (fun c7 => ?_) (fun c7 => ?_)
   ·rw [if_pos c7] at h
    refine sq <| rq O <| m Z <| nl <| nx <| Sem.ret mix <| nx <| nx <| nx ?_
    cases h
    exact ⟨.inr Z, _, _, Z, Z, DLe.of_nrm Z⟩
   ·rw [if_neg (zaH c7)] at h
    refine Sem.skip mix <| nx <| sq <| rq O <| m Z <| nl <| nx <| Sem.block <| Sem.rounds (V := Int) (fun (x8 : Int) => [(0, (SL zam.enc p0)), (1, (I p1)), (5, (I x1)), (6, (I x8))]) (fun (x8 : Int) => []) (fun k v => zbG N p0 x1 (zbE N p0 p1 kL0) k v = some r) N 0 h (fun v h => by unfold zbG at h; cases h) ?_ (sS Z <| sS Z <| sS Z <| sS Z <| sZ) Z
    intro kL1 x8 h
    try dsimp only at h ⊢
    unfold zbG at h
    unfold A36xl0
    refine sq <| sq <| rq O <| m Z <| m Z <| o (d := (B (decide (x8 < x1)))) (bo Z) Z <| nl <| nx <| Sem.cond Z (fun c9 => ?_) (fun c9 => ?_)
    ·rw [if_pos c9] at h
     refine Sem.skip mix <| nx <| sq <| Sem.block <| Sem.join (fun (x24 : Bool) => [(0, (SL zam.enc p0)), (1, (I p1)), (5, (I x1)), (6, (I x8)), (58, (B x24))]) (fun (x24 : Bool) => []) (fun (x24 : Bool) => zdN N x8 (zbG N p0 x1 (zbE N p0 p1 kL0) kL1) x24 = some r) ?_ (dq O ?_)
     ·intro x24 h
      try dsimp only at h ⊢
      unfold zdN at h
      refine Sem.cond Z (fun c25 => ?_) (fun c25 => ?_)
      ·rw [if_pos c25] at h
       refine sq <| rq O <| m Z <| nl <| nx <| Sem.ret mix <| nx <| nx <| nx <| nx <| nx <| nx ?_
       cases h
       exact ⟨.inr Z, _, _, Z, Z, DLe.of_nrm Z⟩
      ·rw [if_neg (zaH c25)] at h
       refine Sem.skip mix <| nx <| nx <| rq O <| m Z <| o (d := (I (IntKind.i64.wrap (x8 + 1)))) (bo Z) Z <| m Z <| nl ?_
       exact ⟨(IntKind.i64.wrap (x8 + 1)), h, .same (sS Z <| sS Z <| sS Z <| sS Z <| sZ)⟩
     ·refine m Z <| m Z <| ?_
      obtain ⟨a26, e27, h⟩ := bs h
      refine o (zaF Z Z e27 Z) Z <| o (d := (.c (.fptr (zam.enc a26) 0))) (zau Z) Z <| o (d := (I a26.Id)) (zal Z Z) Z <| m Z <| m Z <| ?_
      obtain ⟨a28, e29, h⟩ := bs h
      refine o (zaF Z Z e29 Z) Z <| o (d := (.c (.fptr (zam.enc a28) 0))) (zau Z) Z <| o (d := (I a28.Id)) (zal Z Z) Z <| o (d := (B (decide (a26.Id ≥ a28.Id)))) (bo Z) Z <| m Z <| ?_
      rcases bb (decide (a26.Id ≥ a28.Id)) with g4 | g4
      ·rw [if_pos g4] at h
       refine TrQ.know (v := true) 36 Z g4 <| TrQ.skipG 21 Z <| pT Z Z <| nl ⟨by kernel_rfl, ?_⟩
       exact ⟨true, h, .same (sS Z <| sS Z <| sS Z <| sS Z <| sS Z <| sZ)⟩
      ·rw [if_neg (zaH g4)] at h
       refine mo g4 Z <| mo g4 Z <| mo g4 Z <| q (d := (I (IntKind.i64.wrap (x8 + 1)))) (bo Z) g4 Z <| ?_
       obtain ⟨z30, e31, h⟩ := bs h
       refine q (d := (SL zam.enc z30)) (op_slc (f := zam.enc) (fun _ => Z) Z Z Z e31) g4 Z <| mo g4 Z <| mo g4 Z <| ?_
       obtain ⟨a32, e33, h⟩ := bs h
       refine q (zaF Z Z e33 Z) g4 Z <| q (d := (.c (.fptr (zam.enc a32) 1))) (zau Z) g4 Z <| q (d := (I a32.Node)) (zal Z Z) g4 Z <| mo g4 Z <| mo g4 Z <| ?_
       obtain ⟨a34, e35, h⟩ := bs h
       refine q (zaF Z Z e35 Z) g4 Z <| q (d := (.c (.fptr (zam.enc a34) 2))) (zau Z) g4 Z <| q (d := (I a34.From)) (zal Z Z) g4 Z <| mo g4 Z <| mo g4 Z <| ?_
       obtain ⟨a36, e37, h⟩ := bs h
       refine q (zaF Z Z e37 Z) g4 Z <| q (d := (.c (.fptr (zam.enc a36) 3))) (zau Z) g4 Z <| q (d := (I a36.To)) (zal Z Z) g4 Z <| ?_
       obtain ⟨r38, e39, h⟩ := bs h
       refine q (d := (B r38)) (ca (drayageref12xMeets_eq e39) Z) g4 Z <| pF g4 Z <| nl ⟨by kernel_rfl, ?_⟩
       exact ⟨r38, h, .same (sS Z <| sS Z <| sS Z <| sS Z <| sS Z <| sZ)⟩
    ·rw [if_neg (zaH c9)] at h
     refine Sem.exit mix <| nx <| ⟨_, _, .refl, fun _ => ?_, fun hh => absurd Z hh⟩
     refine nx <| nx <| rq O <| m Z <| o (d := (I (IntKind.i64.wrap (x1 + 1)))) (bo Z) Z <| m Z <| nl ?_
     exact ⟨(IntKind.i64.wrap (x1 + 1)), h, .same (sS Z <| sS Z <| sS Z <| sZ)⟩
  ·rw [if_neg (zaH c2)] at h
   refine Sem.exit mix <| nx <| ⟨_, _, .refl, fun _ => ?_, fun hh => absurd Z hh⟩
   refine nx <| sq <| rq O <| m Z <| o (d := (I (p0.length : Int))) (zaA Z) Z <| o (d := (B (decide ((p0.length : Int) ≤ 16)))) (bo Z) Z <| m Z <| nl <| nx <| Sem.ret mix ?_
   cases h
   exact ⟨.inr Z, _, _, Z, Z, DLe.of_nrm Z⟩
noncomputable def F36 (N : Nat) : List D → Option D := spec (A := (List zam) × Int) (R := Bool) (fun a => [(SL zam.enc a.1), I a.2]) (fun r => (B r)) (fun a => zdX N a.1 a.2)
theorem K36 (N : Nat) : ∀ ds r, F36 N ds = some r → za9 Tryd.prog 36 ds r := zav fun a r h => drayageref12xRight_ok N a.1 a.2 r h
theorem drayageref12xRight_eq {N : Nat} {p0 : (List zam)} {p1 : Int} {r : Bool} (h : zdX N p0 p1 = some r) : F36 N [(SL zam.enc p0), I p1] = some (B r) := zaw (a := (p0, p1)) (ij2 (zeM zam.inj) zev) h
noncomputable def S17 (N : Nat) : za1 := [(35, F35 N), (36, F36 N)]
theorem O17 (N : Nat) : zaO Tryd.prog (zat (S17 N)) := zap (zaj.cons (K35 N) <| zaj.cons (K36 N) <| zaj.nil)
theorem drayageref23xbooks_ok (N : Nat) (p0 : zab) (p1 : zag) (r : Bool) (h : zd0 N p0 p1 = some r) : za9 Tryd.prog 17 [(ST (zab.enc p0)), (ST (zag.enc p1))] (B r) := by
  have O := And.intro mix (O17 N)
  refine zan Tryd.func17 (by kernel_rfl) C17 (bl Z) ?_
  unfold zd0 at h
  unfold A17
  dsimp only [zbc]
  refine sq <| rq O <| o (d := (.ptr 0 0 18)) (σ1 := [cm (zab.enc p0)]) (zba Z Z Z Z) Z <| o (d := (.ptr 1 0 9)) (σ1 := [cm (zab.enc p0), cm (zag.enc p1)]) (zba Z Z Z Z) Z <| m Z <| nl <| nx <| sq <| sq <| rq O <| m Z <| nl <| nx <| Sem.block <| Sem.rounds (V := Int) (fun (x1 : Int) => [(2, (.ptr 0 0 18)), (3, (.ptr 1 0 9)), (5, (I x1))]) (fun (x1 : Int) => [cm (zab.enc p0), cm (zag.enc p1)]) (fun k v => zbq N p0 p1 k v = some r) N 0 h (fun v h => by unfold zbq at h; cases h) ?_ (sS Z <| sS Z <| sS Z <| sZ) Z
  intro kL0 x1 h
  try dsimp only at h ⊢
  unfold zbq at h
  unfold A17xl0
  refine sq <| sq <| rq O <| m Z <| o (d := (.ptr 1 5 9)) (zaf Z) Z <| l (d := (SL zam.enc p1.Books)) Z <| o (d := (I (p1.Books.length : Int))) (zaA Z) Z <| o (d := (B (decide (x1 < (p1.Books.length : Int))))) (bo Z) Z <| nl <| nx <| Sem.cond Z (fun c2 => ?_) (fun c2 => ?_)
  ·rw [if_pos c2] at h
   refine Sem.skip mix <| nx <| sq <| Sem.block <| sq <| rq O <| o (d := (.ptr 1 5 9)) (zaf Z) Z <| l (d := (SL zam.enc p1.Books)) Z <| m Z <| ?_
   obtain ⟨a3, e4, h⟩ := bs h
   refine o (zaF Z Z e4 Z) Z <| o (d := (ST (zam.enc a3))) (zal Z Z) Z <| o (d := (.ptr 2 0 4)) (σ1 := [cm (zab.enc p0), cm (zag.enc p1), .cells [I 0, I 0, I 0, I 0]]) (zaG Z Z) Z <| st (σ1 := [cm (zab.enc p0), cm (zag.enc p1), cm (zam.enc a3)]) Z <| nl <| nx <| Sem.join (fun (x7 : Bool) => [(2, (.ptr 0 0 18)), (3, (.ptr 1 0 9)), (5, (I x1)), (38, (B x7))]) (fun (x7 : Bool) => [cm (zab.enc p0), cm (zag.enc p1), cm (zam.enc a3)]) (fun (x7 : Bool) => zcS N x1 (zbq N p0 p1 kL0) x7 = some r) ?_ (rq O ?_)
   ·intro x7 h
    try dsimp only at h ⊢
    unfold zcS at h
    refine Sem.cond Z (fun c8 => ?_) (fun c8 => ?_)
    ·rw [if_pos c8] at h
     refine sq <| rq O <| m Z <| nl <| nx <| Sem.ret mix <| nx <| nx <| nx ?_
     cases h
     exact ⟨.inr Z, _, _, Z, Z, DLe.of_nrm Z⟩
    ·rw [if_neg (zaH c8)] at h
     refine Sem.skip mix <| nx <| nx <| rq O <| m Z <| o (d := (I (IntKind.i64.wrap (x1 + 1)))) (bo Z) Z <| m Z <| nl ?_
     exact ⟨(IntKind.i64.wrap (x1 + 1)), h, .cut 2 (bl Z) (bl Z) (sS Z <| sS Z <| sS Z <| sZ) Z Z⟩
   ·refine o (d := (.ptr 2 0 4)) (zaf Z) Z <| l (d := (I a3.Id)) Z <| o (d := (.ptr 1 2 9)) (zaf Z) Z <| l (d := (I p1.Book)) Z <| o (d := (B (decide (a3.Id ≥ p1.Book)))) (bo Z) Z <| m Z <| ?_
    rcases bb (decide (a3.Id ≥ p1.Book)) with g3 | g3
    ·rw [if_pos g3] at h
     refine TrQ.know (v := true) 24 Z g3 <| TrQ.skipG 5 Z <| pT Z Z <| m Z <| TrQ.skipG 6 Z <| pT Z Z <| nl ?_
     exact ⟨true, h, .same (sS Z <| sS Z <| sS Z <| sS Z <| sZ)⟩
    ·rw [if_neg (zaH g3)] at h
     refine q (d := (.ptr 2 3 4)) (zaf Z) g3 Z <| lo (d := (I a3.To)) g3 Z <| q (d := (.ptr 1 0 9)) (zaf Z) g3 Z <| lo (d := (I p1.Now)) g3 Z <| q (d := (B (decide (a3.To ≤ p1.Now)))) (bo Z) g3 Z <| pF g3 Z <| m Z <| ?_
     rcases bb (decide (a3.To ≤ p1.Now)) with g4 | g4
     ·rw [if_pos g4] at h
      refine TrQ.know (v := true) 31 Z g4 <| TrQ.skipG 6 Z <| pT Z Z <| nl ?_
      exact ⟨true, h, .same (sS Z <| sS Z <| sS Z <| sS Z <| sZ)⟩
     ·rw [if_neg (zaH g4)] at h
      refine lo (d := (ST (zag.enc p1))) g4 Z <| q (d := (.ptr 2 1 4)) (zaf Z) g4 Z <| lo (d := (I a3.Node)) g4 Z <| q (d := (.ptr 2 2 4)) (zaf Z) g4 Z <| lo (d := (I a3.From)) g4 Z <| ?_
      obtain ⟨r9, e10, h⟩ := bs h
      refine q (d := (B r9)) (ca (drayageref23xTaken_eq e10) Z) g4 Z <| pF g4 Z <| nl ?_
      exact ⟨r9, h, .same (sS Z <| sS Z <| sS Z <| sS Z <| sZ)⟩
  ·rw [if_neg (zaH c2)] at h
   refine Sem.exit mix <| nx <| ⟨_, _, .refl, fun _ => ?_, fun hh => absurd Z hh⟩
   refine nx <| sq <| rq O <| o (d := (.ptr 1 5 9)) (zaf Z) Z <| l (d := (SL zam.enc p1.Books)) Z <| o (d := (.ptr 0 0 18)) (zaf Z) Z <| l (d := (SL zac.enc p0.Nodes)) Z <| o (d := (I (p0.Nodes.length : Int))) (zaA Z) Z <| ?_
   obtain ⟨r11, e12, h⟩ := bs h
   refine o (d := (B r11)) (ca (drayageref12xRight_eq e12) Z) Z <| m Z <| nl <| nx <| Sem.ret mix ?_
   cases h
   exact ⟨.inr Z, _, _, Z, Z, DLe.of_nrm Z⟩
noncomputable def F17 (N : Nat) : List D → Option D := spec (A := zab × zag) (R := Bool) (fun a => [(ST (zab.enc a.1)), (ST (zag.enc a.2))]) (fun r => (B r)) (fun a => zd0 N a.1 a.2)
theorem K17 (N : Nat) : ∀ ds r, F17 N ds = some r → za9 Tryd.prog 17 ds r := zav fun a r h => drayageref23xbooks_ok N a.1 a.2 r h
theorem drayageref23xbooks_eq {N : Nat} {p0 : zab} {p1 : zag} {r : Bool} (h : zd0 N p0 p1 = some r) : F17 N [(ST (zab.enc p0)), (ST (zag.enc p1))] = some (B r) := zaw (a := (p0, p1)) (ij2 (zbx zab.inj) (zbx zag.inj)) h
noncomputable def S18 (N : Nat) : za1 := []
theorem O18 (N : Nat) : zaO Tryd.prog (zat (S18 N)) := zap (zaj.nil)
theorem drayageref23xUse_ok (N : Nat) (p0 : (List Int)) (p1 : Int) (r : Bool) (h : zeB N p0 p1 = some r) : za9 Tryd.prog 18 [(SL zah p0), I p1] (B r) := by
  have O := And.intro mix (O18 N)
  refine zan Tryd.func18 (by kernel_rfl) C18 (bl Z) ?_
  unfold zeB at h
  unfold A18
  dsimp only [zbc]
  refine sq <| rq O <| m Z <| nl <| nx <| sq <| sq <| rq O <| m Z <| nl <| nx <| Sem.block <| Sem.rounds (V := Int) (fun (x1 : Int) => [(0, (SL zah p0)), (1, (I p1)), (5, (I x1))]) (fun (x1 : Int) => []) (fun k v => zb1 N p0 p1 k v = some r) N 0 h (fun v h => by unfold zb1 at h; cases h) ?_ (sS Z <| sS Z <| sS Z <| sZ) Z
  intro kL0 x1 h
  try dsimp only at h ⊢
  unfold zb1 at h
  unfold A18xl0
  refine sq <| sq <| rq O <| m Z <| m Z <| o (d := (I (p0.length : Int))) (zaA Z) Z <| o (d := (B (decide (x1 < (p0.length : Int))))) (bo Z) Z <| nl <| nx <| Sem.cond Z (fun c2 => ?_) (fun c2 => ?_)
  ·rw [if_pos c2] at h
   refine Sem.skip mix <| nx <| sq <| Sem.block <| Sem.join (fun (x7 : Bool) => [(0, (SL zah p0)), (1, (I p1)), (5, (I x1)), (23, (B x7))]) (fun (x7 : Bool) => []) (fun (x7 : Bool) => zew N x1 (zb1 N p0 p1 kL0) x7 = some r) ?_ (rq O ?_)
   ·intro x7 h
    try dsimp only at h ⊢
    unfold zew at h
    refine Sem.cond Z (fun c8 => ?_) (fun c8 => ?_)
    ·rw [if_pos c8] at h
     refine sq <| rq O <| m Z <| nl <| nx <| Sem.ret mix <| nx <| nx <| nx ?_
     cases h
     exact ⟨.inr Z, _, _, Z, Z, DLe.of_nrm Z⟩
    ·rw [if_neg (zaH c8)] at h
     refine Sem.skip mix <| nx <| nx <| rq O <| m Z <| o (d := (I (IntKind.i64.wrap (x1 + 1)))) (bo Z) Z <| m Z <| nl ?_
     exact ⟨(IntKind.i64.wrap (x1 + 1)), h, .same (sS Z <| sS Z <| sS Z <| sZ)⟩
   ·refine m Z <| m Z <| ?_
    obtain ⟨a9, e10, h⟩ := bs h
    refine o (zaF Z Z e10 Z) Z <| o (d := (I a9)) (zal Z Z) Z <| o (d := (B (decide (a9 < 0)))) (bo Z) Z <| m Z <| ?_
    rcases bb (decide (a9 < 0)) with g2 | g2
    ·rw [if_pos g2] at h
     refine TrQ.know (v := true) 17 Z g2 <| TrQ.skipG 5 Z <| pT Z Z <| nl ?_
     exact ⟨true, h, .same (sS Z <| sS Z <| sS Z <| sS Z <| sZ)⟩
    ·rw [if_neg (zaH g2)] at h
     refine mo g2 Z <| mo g2 Z <| ?_
     obtain ⟨a11, e12, h⟩ := bs h
     refine q (zaF Z Z e12 Z) g2 Z <| q (d := (I a11)) (zal Z Z) g2 Z <| q (d := (B (decide (a11 > 1099511627776)))) (bo Z) g2 Z <| pF g2 Z <| nl ?_
     exact ⟨(decide (a11 > 1099511627776)), h, .same (sS Z <| sS Z <| sS Z <| sS Z <| sZ)⟩
  ·rw [if_neg (zaH c2)] at h
   refine Sem.exit mix <| nx <| ⟨_, _, .refl, fun _ => ?_, fun hh => absurd Z hh⟩
   refine nx <| sq <| rq O <| m Z <| o (d := (I (p0.length : Int))) (zaA Z) Z <| m Z <| o (d := (B ((p0.length : Int) == p1))) (bo Z) Z <| m Z <| nl <| nx <| Sem.ret mix ?_
   cases h
   exact ⟨.inr Z, _, _, Z, Z, DLe.of_nrm Z⟩
noncomputable def F18 (N : Nat) : List D → Option D := spec (A := (List Int) × Int) (R := Bool) (fun a => [(SL zah a.1), I a.2]) (fun r => (B r)) (fun a => zeB N a.1 a.2)
theorem K18 (N : Nat) : ∀ ds r, F18 N ds = some r → za9 Tryd.prog 18 ds r := zav fun a r h => drayageref23xUse_ok N a.1 a.2 r h
theorem drayageref23xUse_eq {N : Nat} {p0 : (List Int)} {p1 : Int} {r : Bool} (h : zeB N p0 p1 = some r) : F18 N [(SL zah p0), I p1] = some (B r) := zaw (a := (p0, p1)) (ij2 (zeM zcf) zev) h
noncomputable def S68 (N : Nat) : za1 := []
theorem O68 (N : Nat) : zaO Tryd.prog (zat (S68 N)) := zap (zaj.nil)
theorem drayageref16xin_ok (N : Nat) (p0 : Int) (p1 : Int) (p2 : Int) (r : Bool) (h : za3 N p0 p1 p2 = some r) : za9 Tryd.prog 68 [I p0, I p1, I p2] (B r) := by
  have O := And.intro mix (O68 N)
  refine zan Tryd.func68 (by kernel_rfl) C68 (bl Z) ?_
  unfold za3 at h
  unfold A68
  dsimp only [zbc]
  refine sq <| rq O <| m Z <| nl <| nx <| Sem.step [(6, (B ((decide (p1 ≤ p0)) && (decide (p0 ≤ p2)))))] [] (rq O ?_) ?_
  ·refine m Z <| m Z <| o (d := (B (decide (p1 ≤ p0)))) (bo Z) Z <| m Z <| ?_
   rcases bb (decide (p1 ≤ p0)) with g1 | g1
   ·refine mo g1 Z <| mo g1 Z <| q (d := (B (decide (p0 ≤ p2)))) (bo Z) g1 Z <| pT g1 Z <| m Z <| nl ⟨rfl, .same (sE Z (by rw [g1]; rfl) <| sZ)⟩
   ·refine TrQ.know (v := false) 10 Z g1 <| TrQ.skipG 3 Z <| pF Z Z <| m Z <| nl ⟨rfl, .same (sE Z (by rw [g1]; rfl) <| sZ)⟩
  ·refine Sem.ret mix ?_
   cases h
   exact ⟨.inr Z, _, _, Z, Z, DLe.of_nrm Z⟩
noncomputable def F68 (N : Nat) : List D → Option D := spec (A := Int × Int × Int) (R := Bool) (fun a => [I a.1, I a.2.1, I a.2.2]) (fun r => (B r)) (fun a => za3 N a.1 a.2.1 a.2.2)
theorem K68 (N : Nat) : ∀ ds r, F68 N ds = some r → za9 Tryd.prog 68 ds r := zav fun a r h => drayageref16xin_ok N a.1 a.2.1 a.2.2 r h
theorem zbu {N : Nat} {p0 : Int} {p1 : Int} {p2 : Int} {r : Bool} (h : za3 N p0 p1 p2 = some r) : F68 N [I p0, I p1, I p2] = some (B r) := zaw (a := (p0, p1, p2)) (ij3 zev zev zev) h
end Go.Abs
