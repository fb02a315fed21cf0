/- The code computes these functions (5). -/
import Derived.Test.YtffiheekdcaihaaDoorTzWalk4
set_option linter.all false
namespace Go.Abs
open Go.Proofs
set_option linter.unusedVariables false
set_option maxRecDepth 100000
set_option maxHeartbeats 2000000
noncomputable def S37 (N : Nat) : za1 := [(68, F68 N), (33, F33 N), (64, F64 N)]
theorem O37 (N : Nat) : zaO Tryd.prog (zat (S37 N)) := zap (zaj.cons (K68 N) <| zaj.cons (K33 N) <| zaj.cons (K64 N) <| zaj.nil)
theorem drayageref16xRight_ok (N : Nat) (p0 : zad) (r : Bool) (h : zdS N p0 = some r) : za9 Tryd.prog 37 [(ST (zad.enc p0))] (B r) := by
  have O := And.intro mix (O37 N)
  refine zan Tryd.func37 (by kernel_rfl) C37 (bl Z) ?_
  unfold zdS at h
  unfold A37
  dsimp only [zbc]
  refine sq <| rq O <| o (d := (.ptr 0 0 18)) (σ1 := [cm (zad.enc p0)]) (zba Z Z Z Z) Z <| m Z <| nl <| nx <| sq <| sq <| rq O <| m Z <| nl <| nx <| Sem.block <| Sem.rounds (V := Int) (fun (x1 : Int) => [(1, (.ptr 0 0 18)), (3, (I x1))]) (fun (x1 : Int) => [cm (zad.enc p0)]) (fun k v => zco N p0 k v = some r) N 0 h (fun v h => by unfold zco at h; cases h) ?_ (sS Z <| sS Z <| sZ) Z
  intro kL0 x1 h
  try dsimp only at h ⊢
  unfold zco at h
  unfold A37xl0
  refine sq <| sq <| rq O <| m Z <| o (d := (.ptr 0 9 18)) (zaf Z) Z <| l (d := (SL za4.enc p0.After)) Z <| o (d := (I (p0.After.length : Int))) (zaA Z) Z <| o (d := (B (decide (x1 < (p0.After.length : Int))))) (bo Z) Z <| nl <| nx <| Sem.cond Z (fun c2 => ?_) (fun c2 => ?_)
  ·rw [if_pos c2] at h
   refine Sem.skip mix <| nx <| sq <| Sem.block <| sq <| dq O <| o (d := (.ptr 0 9 18)) (zaf Z) Z <| l (d := (SL za4.enc p0.After)) Z <| m Z <| ?_
   obtain ⟨a3, e4, h⟩ := bs h
   refine o (zaF Z Z e4 Z) Z <| o (d := (.c (.fptr (za4.enc a3) 0))) (zau Z) Z <| o (d := (I a3.Job)) (zal Z Z) Z <| o (d := (.ptr 0 0 18)) (zaf Z) Z <| l (d := (I p0.Id)) Z <| o (d := (I (IntKind.i64.wrap (p0.Id - 1)))) (bo Z) Z <| ?_
   obtain ⟨r5, e6, h⟩ := bs h
   refine o (d := (B r5)) (ca (zbu e6) Z) Z <| o (d := (B (!r5))) (zbA Z Z Z Z) Z <| nl ⟨by kernel_rfl, ?_⟩
   refine nx <| Sem.cond Z (fun c7 => ?_) (fun c7 => ?_)
   ·rw [if_pos c7] at h
    refine sq <| rq O <| m Z <| nl <| nx <| Sem.ret mix <| nx <| nx <| nx ?_
    cases h
    exact ⟨.inr Z, _, _, Z, Z, DLe.of_nrm Z⟩
   ·rw [if_neg (zaH c7)] at h
    refine Sem.skip mix <| nx <| nx <| rq O <| m Z <| o (d := (I (IntKind.i64.wrap (x1 + 1)))) (bo Z) Z <| m Z <| nl ?_
    exact ⟨(IntKind.i64.wrap (x1 + 1)), h, .same (sS Z <| sS Z <| sZ)⟩
  ·rw [if_neg (zaH c2)] at h
   refine Sem.exit mix <| nx <| ⟨_, _, .refl, fun _ => ?_, fun hh => absurd Z hh⟩
   refine nx <| sq <| Sem.join (fun (x20 : Bool) => [(1, (.ptr 0 0 18)), (61, (B x20))]) (fun (x20 : Bool) => [cm (zad.enc p0)]) (fun (x20 : Bool) => zaJ N p0 x20 = some r) ?_ (rq O ?_)
   ·intro x20 h
    try dsimp only at h ⊢
    unfold zaJ at h
    refine Sem.cond Z (fun c21 => ?_) (fun c21 => ?_)
    ·rw [if_pos c21] at h
     refine sq <| rq O <| m Z <| nl <| nx <| Sem.ret mix ?_
     cases h
     exact ⟨.inr Z, _, _, Z, Z, DLe.of_nrm Z⟩
    ·rw [if_neg (zaH c21)] at h
     refine Sem.skip mix <| nx <| sq <| Sem.join (fun (x30 : Bool) => [(1, (.ptr 0 0 18)), (85, (B x30))]) (fun (x30 : Bool) => [cm (zad.enc p0)]) (fun (x30 : Bool) => zbm N p0 x30 = some r) ?_ (rq O ?_)
     ·intro x30 h
      try dsimp only at h ⊢
      unfold zbm at h
      refine Sem.cond Z (fun c31 => ?_) (fun c31 => ?_)
      ·rw [if_pos c31] at h
       refine sq <| rq O <| m Z <| nl <| nx <| Sem.ret mix ?_
       cases h
       exact ⟨.inr Z, _, _, Z, Z, DLe.of_nrm Z⟩
      ·rw [if_neg (zaH c31)] at h
       refine Sem.skip mix <| nx <| sq <| Sem.join (fun (x38 : Bool) => [(1, (.ptr 0 0 18)), (101, (B x38))]) (fun (x38 : Bool) => [cm (zad.enc p0)]) (fun (x38 : Bool) => zbP N p0 x38 = some r) ?_ (rq O ?_)
       ·intro x38 h
        try dsimp only at h ⊢
        unfold zbP at h
        refine Sem.cond Z (fun c39 => ?_) (fun c39 => ?_)
        ·rw [if_pos c39] at h
         refine sq <| rq O <| m Z <| nl <| nx <| Sem.ret mix ?_
         cases h
         exact ⟨.inr Z, _, _, Z, Z, DLe.of_nrm Z⟩
        ·rw [if_neg (zaH c39)] at h
         refine Sem.skip mix <| nx <| sq <| Sem.step [(1, (.ptr 0 0 18)), (119, (B (if (decide (p0.State ≤ 2)) = true then ((p0.Start != 0) || ((decide (p0.State ≤ 4)) && (p0.End != 0))) else ((decide (p0.State ≤ 4)) && (p0.End != 0)))))] [cm (zad.enc p0)] (rq O ?_) ?_
         ·refine o (d := (.ptr 0 10 18)) (zaf Z) Z <| l (d := (I p0.State)) Z <| o (d := (B (decide (p0.State ≤ 2)))) (bo Z) Z <| m Z <| ?_
          rcases bb (decide (p0.State ≤ 2)) with g1 | g1
          ·refine q (d := (.ptr 0 15 18)) (zaf Z) g1 Z <| lo (d := (I p0.Start)) g1 Z <| q (d := (B (p0.Start != 0))) (bo Z) g1 Z <| pT g1 Z <| m Z <| ?_
           rcases bb (p0.Start != 0) with g2 | g2
           ·refine TrQ.know (v := true) 110 Z g2 <| TrQ.skipG 8 Z <| pT Z Z <| nl ⟨rfl, .same (sS Z <| sE Z (by rw [g1, g2]; rfl) <| sZ)⟩
           ·refine q (d := (.ptr 0 10 18)) (zaf Z) g2 Z <| lo (d := (I p0.State)) g2 Z <| q (d := (B (decide (p0.State ≤ 4)))) (bo Z) g2 Z <| mo g2 Z <| ?_
            rcases bb (decide (p0.State ≤ 4)) with g3 | g3
            ·refine q (d := (.ptr 0 16 18)) (zaf Z) g3 Z <| lo (d := (I p0.End)) g3 Z <| q (d := (B (p0.End != 0))) (bo Z) g3 Z <| q (zeT Z g3 Z) g2 Z <| pF g2 Z <| nl ⟨rfl, .same (sS Z <| sE Z (by rw [g1, g2, g3]; rfl) <| sZ)⟩
            ·refine TrQ.know (v := false) 114 Z g3 <| TrQ.skipG 3 Z <| q (ze7 Z Z Z) g2 Z <| pF g2 Z <| nl ⟨rfl, .same (sS Z <| sE Z (by rw [g1, g2, g3]; rfl) <| sZ)⟩
          ·refine TrQ.know (v := false) 105 Z g1 <| TrQ.skipG 3 Z <| pF Z Z <| m Z <| q (d := (.ptr 0 10 18)) (zaf Z) Z Z <| lo (d := (I p0.State)) Z Z <| q (d := (B (decide (p0.State ≤ 4)))) (bo Z) Z Z <| mo Z Z <| ?_
           rcases bb (decide (p0.State ≤ 4)) with g4 | g4
           ·refine q (d := (.ptr 0 16 18)) (zaf Z) g4 Z <| lo (d := (I p0.End)) g4 Z <| q (d := (B (p0.End != 0))) (bo Z) g4 Z <| q (zeT Z g4 Z) Z Z <| pF Z Z <| nl ⟨rfl, .same (sS Z <| sE Z (by rw [g1, g4]; rfl) <| sZ)⟩
           ·refine TrQ.know (v := false) 114 Z g4 <| TrQ.skipG 3 Z <| q (ze7 Z Z Z) Z Z <| pF Z Z <| nl ⟨rfl, .same (sS Z <| sE Z (by rw [g1, g4]; rfl) <| sZ)⟩
         ·refine Sem.cond Z (fun c40 => ?_) (fun c40 => ?_)
          ·rw [if_pos c40] at h
           refine sq <| rq O <| m Z <| nl <| nx <| Sem.ret mix ?_
           cases h
           exact ⟨.inr Z, _, _, Z, Z, DLe.of_nrm Z⟩
          ·rw [if_neg (zaH c40)] at h
           refine Sem.skip mix <| nx <| Sem.step [(2, (B (if (!p0.Ok) = true then ((!p0.Kill) || ((p0.State == 4) || (p0.State == 6))) else ((p0.State == 4) || ((p0.State == 5) && ((!p0.Kill) || (p0.State == 6)))))))] [cm (zad.enc p0)] (rq O ?_) ?_
           ·refine o (d := (.ptr 0 11 18)) (zaf Z) Z <| l (d := (B p0.Ok)) Z <| o (d := (B (!p0.Ok))) (zbA Z Z Z Z) Z <| m Z <| ?_
            rcases bb (!p0.Ok) with g5 | g5
            ·refine TrQ.know (v := true) 123 Z g5 <| TrQ.skipG 3 Z <| pT Z Z <| m Z <| TrQ.skipG 3 Z <| pT Z Z <| m Z <| q (d := (.ptr 0 12 18)) (zaf Z) Z Z <| lo (d := (B p0.Kill)) Z Z <| q (d := (B (!p0.Kill))) (zbA Z Z Z Z) Z Z <| mo Z Z <| ?_
             rcases bb (!p0.Kill) with g6 | g6
             ·refine TrQ.know (v := true) 137 Z g6 <| TrQ.skipG 3 Z <| q (zeT Z Z Z) Z Z <| mo Z Z <| TrQ.skipG 3 Z <| q (zeT Z Z Z) Z Z <| pT Z Z <| m Z <| nl ⟨rfl, .same (sE Z (by rw [g5, g6]; rfl) <| sZ)⟩
             ·refine q (d := (.ptr 0 10 18)) (zaf Z) g6 Z <| lo (d := (I p0.State)) g6 Z <| q (d := (B (p0.State == 4))) (bo Z) g6 Z <| q (ze7 Z g6 Z) Z Z <| mo Z Z <| ?_
              rcases bb (p0.State == 4) with g7 | g7
              ·refine TrQ.know (v := true) 142 Z g7 <| TrQ.skipG 3 Z <| q (zeT Z Z Z) Z Z <| pT Z Z <| m Z <| nl ⟨rfl, .same (sE Z (by rw [g5, g6, g7]; rfl) <| sZ)⟩
              ·refine q (d := (.ptr 0 10 18)) (zaf Z) g7 Z <| lo (d := (I p0.State)) g7 Z <| q (d := (B (p0.State == 6))) (bo Z) g7 Z <| q (ze7 Z g7 Z) Z Z <| pT Z Z <| m Z <| nl ⟨rfl, .same (sE Z (by rw [g5, g6, g7]; rfl) <| sZ)⟩
            ·refine q (d := (.ptr 0 10 18)) (zaf Z) g5 Z <| lo (d := (I p0.State)) g5 Z <| q (d := (B (p0.State == 4))) (bo Z) g5 Z <| pF g5 Z <| m Z <| ?_
             rcases bb (p0.State == 4) with g8 | g8
             ·refine TrQ.know (v := true) 128 Z g8 <| TrQ.skipG 3 Z <| pT Z Z <| m Z <| q (d := (.ptr 0 12 18)) (zaf Z) Z Z <| lo (d := (B p0.Kill)) Z Z <| q (d := (B (!p0.Kill))) (zbA Z Z Z Z) Z Z <| mo Z Z <| ?_
              rcases bb (!p0.Kill) with g9 | g9
              ·refine TrQ.know (v := true) 137 Z g9 <| TrQ.skipG 3 Z <| q (zeT Z Z Z) Z Z <| mo Z Z <| TrQ.skipG 3 Z <| q (zeT Z Z Z) Z Z <| pT Z Z <| m Z <| nl ⟨rfl, .same (sE Z (by rw [g5, g8, g9]; rfl) <| sZ)⟩
              ·refine q (d := (.ptr 0 10 18)) (zaf Z) g9 Z <| lo (d := (I p0.State)) g9 Z <| q (d := (B (p0.State == 4))) (bo Z) g9 Z <| q (ze7 Z g9 Z) Z Z <| mo Z Z <| TrQ.know (v := true) 142 Z g8 <| TrQ.skipG 3 Z <| q (zeT Z Z Z) Z Z <| pT Z Z <| m Z <| nl ⟨rfl, .same (sE Z (by rw [g5, g8, g9]; rfl) <| sZ)⟩
             ·refine q (d := (.ptr 0 10 18)) (zaf Z) g8 Z <| lo (d := (I p0.State)) g8 Z <| q (d := (B (p0.State == 5))) (bo Z) g8 Z <| pF g8 Z <| m Z <| ?_
              rcases bb (p0.State == 5) with g10 | g10
              ·refine q (d := (.ptr 0 12 18)) (zaf Z) g10 Z <| lo (d := (B p0.Kill)) g10 Z <| q (d := (B (!p0.Kill))) (zbA Z Z Z Z) g10 Z <| mo g10 Z <| ?_
               rcases bb (!p0.Kill) with g11 | g11
               ·refine TrQ.know (v := true) 137 Z g11 <| TrQ.skipG 3 Z <| q (zeT Z Z Z) g10 Z <| mo g10 Z <| TrQ.skipG 3 Z <| q (zeT Z Z Z) g10 Z <| pT g10 Z <| m Z <| nl ⟨rfl, .same (sE Z (by rw [g5, g8, g10, g11]; rfl) <| sZ)⟩
               ·refine q (d := (.ptr 0 10 18)) (zaf Z) g11 Z <| lo (d := (I p0.State)) g11 Z <| q (d := (B (p0.State == 4))) (bo Z) g11 Z <| q (ze7 Z g11 Z) g10 Z <| mo g10 Z <| q (d := (.ptr 0 10 18)) (zaf Z) g8 Z <| lo (d := (I p0.State)) g8 Z <| q (d := (B (p0.State == 6))) (bo Z) g8 Z <| q (ze7 Z g8 Z) g10 Z <| pT g10 Z <| m Z <| nl ⟨rfl, .same (sE Z (by rw [g5, g8, g10, g11]; rfl) <| sZ)⟩
              ·refine TrQ.know (v := false) 133 Z g10 <| TrQ.skipG 13 Z <| pF Z Z <| m Z <| nl ⟨rfl, .same (sE Z (by rw [g5, g8, g10]; rfl) <| sZ)⟩
           ·refine Sem.ret mix ?_
            cases h
            exact ⟨.inr Z, _, _, Z, Z, DLe.of_nrm Z⟩
       ·refine o (d := (.ptr 0 14 18)) (zaf Z) Z <| l (d := (I p0.Born)) Z <| ?_
        obtain ⟨r41, e42, h⟩ := bs h
        refine o (d := (B r41)) (ca (zbu e42) Z) Z <| o (d := (B (!r41))) (zbA Z Z Z Z) Z <| m Z <| ?_
        rcases bb (!r41) with g12 | g12
        ·rw [if_pos g12] at h
         refine TrQ.know (v := true) 90 Z g12 <| TrQ.skipG 4 Z <| pT Z Z <| m Z <| TrQ.skipG 4 Z <| pT Z Z <| nl ?_
         exact ⟨true, h, .same (sS Z <| sS Z <| sZ)⟩
        ·rw [if_neg (zaH g12)] at h
         refine q (d := (.ptr 0 15 18)) (zaf Z) g12 Z <| lo (d := (I p0.Start)) g12 Z <| ?_
         obtain ⟨r43, e44, h⟩ := bs h
         refine q (d := (B r43)) (ca (zbu e44) Z) g12 Z <| q (d := (B (!r43))) (zbA Z Z Z Z) g12 Z <| pF g12 Z <| m Z <| ?_
         rcases bb (!r43) with g13 | g13
         ·rw [if_pos g13] at h
          refine TrQ.know (v := true) 96 Z g13 <| TrQ.skipG 4 Z <| pT Z Z <| nl ?_
          exact ⟨true, h, .same (sS Z <| sS Z <| sZ)⟩
         ·rw [if_neg (zaH g13)] at h
          refine q (d := (.ptr 0 16 18)) (zaf Z) g13 Z <| lo (d := (I p0.End)) g13 Z <| ?_
          obtain ⟨r45, e46, h⟩ := bs h
          refine q (d := (B r45)) (ca (zbu e46) Z) g13 Z <| q (d := (B (!r45))) (zbA Z Z Z Z) g13 Z <| pF g13 Z <| nl ?_
          exact ⟨(!r45), h, .same (sS Z <| sS Z <| sZ)⟩
     ·refine o (d := (.ptr 0 8 18)) (zaf Z) Z <| l (d := (I p0.Wall)) Z <| ?_
      obtain ⟨r47, e48, h⟩ := bs h
      refine o (d := (B r47)) (ca (zbu e48) Z) Z <| o (d := (B (!r47))) (zbA Z Z Z Z) Z <| m Z <| ?_
      rcases bb (!r47) with g14 | g14
      ·rw [if_pos g14] at h
       refine TrQ.know (v := true) 66 Z g14 <| TrQ.skipG 4 Z <| pT Z Z <| m Z <| TrQ.skipG 4 Z <| pT Z Z <| m Z <| TrQ.skipG 6 Z <| pT Z Z <| nl ?_
       exact ⟨true, h, .same (sS Z <| sS Z <| sZ)⟩
      ·rw [if_neg (zaH g14)] at h
       refine q (d := (.ptr 0 10 18)) (zaf Z) g14 Z <| lo (d := (I p0.State)) g14 Z <| ?_
       obtain ⟨r49, e50, h⟩ := bs h
       refine q (d := (B r49)) (ca (zbu e50) Z) g14 Z <| q (d := (B (!r49))) (zbA Z Z Z Z) g14 Z <| pF g14 Z <| m Z <| ?_
       rcases bb (!r49) with g15 | g15
       ·rw [if_pos g15] at h
        refine TrQ.know (v := true) 72 Z g15 <| TrQ.skipG 4 Z <| pT Z Z <| m Z <| TrQ.skipG 6 Z <| pT Z Z <| nl ?_
        exact ⟨true, h, .same (sS Z <| sS Z <| sZ)⟩
       ·rw [if_neg (zaH g15)] at h
        refine q (d := (.ptr 0 13 18)) (zaf Z) g15 Z <| lo (d := (I p0.Version)) g15 Z <| ?_
        obtain ⟨r51, e52, h⟩ := bs h
        refine q (d := (B r51)) (ca (zbu e52) Z) g15 Z <| q (d := (B (!r51))) (zbA Z Z Z Z) g15 Z <| pF g15 Z <| m Z <| ?_
        rcases bb (!r51) with g16 | g16
        ·rw [if_pos g16] at h
         refine TrQ.know (v := true) 78 Z g16 <| TrQ.skipG 6 Z <| pT Z Z <| nl ?_
         exact ⟨true, h, .same (sS Z <| sS Z <| sZ)⟩
        ·rw [if_neg (zaH g16)] at h
         refine q (d := (.ptr 0 17 18)) (zaf Z) g16 Z <| lo (d := (I p0.Array)) g16 Z <| q (d := (.ptr 0 0 18)) (zaf Z) g16 Z <| lo (d := (I p0.Id)) g16 Z <| ?_
         obtain ⟨r53, e54, h⟩ := bs h
         refine q (d := (B r53)) (ca (zbu e54) Z) g16 Z <| q (d := (B (!r53))) (zbA Z Z Z Z) g16 Z <| pF g16 Z <| nl ?_
         exact ⟨(!r53), h, .same (sS Z <| sS Z <| sZ)⟩
   ·refine o (d := (.ptr 0 9 18)) (zaf Z) Z <| l (d := (SL za4.enc p0.After)) Z <| o (d := (I (p0.After.length : Int))) (zaA Z) Z <| o (d := (B (decide ((p0.After.length : Int) > 4)))) (bo Z) Z <| m Z <| ?_
    rcases bb (decide ((p0.After.length : Int) > 4)) with g17 | g17
    ·rw [if_pos g17] at h
     refine TrQ.know (v := true) 26 Z g17 <| TrQ.skipG 4 Z <| pT Z Z <| m Z <| TrQ.skipG 4 Z <| pT Z Z <| m Z <| TrQ.skipG 4 Z <| pT Z Z <| m Z <| TrQ.skipG 4 Z <| pT Z Z <| m Z <| TrQ.skipG 4 Z <| pT Z Z <| m Z <| TrQ.skipG 4 Z <| pT Z Z <| nl ?_
     exact ⟨true, h, .same (sS Z <| sS Z <| sZ)⟩
    ·rw [if_neg (zaH g17)] at h
     refine q (d := (.ptr 0 0 18)) (zaf Z) g17 Z <| lo (d := (I p0.Id)) g17 Z <| ?_
     obtain ⟨r55, e56, h⟩ := bs h
     refine q (d := (B r55)) (ca (zbu e56) Z) g17 Z <| q (d := (B (!r55))) (zbA Z Z Z Z) g17 Z <| pF g17 Z <| m Z <| ?_
     rcases bb (!r55) with g18 | g18
     ·rw [if_pos g18] at h
      refine TrQ.know (v := true) 32 Z g18 <| TrQ.skipG 4 Z <| pT Z Z <| m Z <| TrQ.skipG 4 Z <| pT Z Z <| m Z <| TrQ.skipG 4 Z <| pT Z Z <| m Z <| TrQ.skipG 4 Z <| pT Z Z <| m Z <| TrQ.skipG 4 Z <| pT Z Z <| nl ?_
      exact ⟨true, h, .same (sS Z <| sS Z <| sZ)⟩
     ·rw [if_neg (zaH g18)] at h
      refine q (d := (.ptr 0 1 18)) (zaf Z) g18 Z <| lo (d := (I p0.User)) g18 Z <| ?_
      obtain ⟨r57, e58, h⟩ := bs h
      refine q (d := (B r57)) (ca (zbu e58) Z) g18 Z <| q (d := (B (!r57))) (zbA Z Z Z Z) g18 Z <| pF g18 Z <| m Z <| ?_
      rcases bb (!r57) with g19 | g19
      ·rw [if_pos g19] at h
       refine TrQ.know (v := true) 38 Z g19 <| TrQ.skipG 4 Z <| pT Z Z <| m Z <| TrQ.skipG 4 Z <| pT Z Z <| m Z <| TrQ.skipG 4 Z <| pT Z Z <| m Z <| TrQ.skipG 4 Z <| pT Z Z <| nl ?_
       exact ⟨true, h, .same (sS Z <| sS Z <| sZ)⟩
      ·rw [if_neg (zaH g19)] at h
       refine q (d := (.ptr 0 2 18)) (zaf Z) g19 Z <| lo (d := (I p0.Queue)) g19 Z <| ?_
       obtain ⟨r59, e60, h⟩ := bs h
       refine q (d := (B r59)) (ca (zbu e60) Z) g19 Z <| q (d := (B (!r59))) (zbA Z Z Z Z) g19 Z <| pF g19 Z <| m Z <| ?_
       rcases bb (!r59) with g20 | g20
       ·rw [if_pos g20] at h
        refine TrQ.know (v := true) 44 Z g20 <| TrQ.skipG 4 Z <| pT Z Z <| m Z <| TrQ.skipG 4 Z <| pT Z Z <| m Z <| TrQ.skipG 4 Z <| pT Z Z <| nl ?_
        exact ⟨true, h, .same (sS Z <| sS Z <| sZ)⟩
       ·rw [if_neg (zaH g20)] at h
        refine q (d := (.ptr 0 3 18)) (zaf Z) g20 Z <| lo (d := (I p0.Many)) g20 Z <| ?_
        obtain ⟨r61, e62, h⟩ := bs h
        refine q (d := (B r61)) (ca (zbu e62) Z) g20 Z <| q (d := (B (!r61))) (zbA Z Z Z Z) g20 Z <| pF g20 Z <| m Z <| ?_
        rcases bb (!r61) with g21 | g21
        ·rw [if_pos g21] at h
         refine TrQ.know (v := true) 50 Z g21 <| TrQ.skipG 4 Z <| pT Z Z <| m Z <| TrQ.skipG 4 Z <| pT Z Z <| nl ?_
         exact ⟨true, h, .same (sS Z <| sS Z <| sZ)⟩
        ·rw [if_neg (zaH g21)] at h
         refine q (d := (.ptr 0 4 18)) (zaf Z) g21 Z <| lo (d := (ST (zac.enc p0.Need))) g21 Z <| ?_
         obtain ⟨r63, e64, h⟩ := bs h
         refine q (d := (B r63)) (ca (zcR e64) Z) g21 Z <| q (d := (B (!r63))) (zbA Z Z Z Z) g21 Z <| pF g21 Z <| m Z <| ?_
         rcases bb (!r63) with g22 | g22
         ·rw [if_pos g22] at h
          refine TrQ.know (v := true) 56 Z g22 <| TrQ.skipG 4 Z <| pT Z Z <| nl ?_
          exact ⟨true, h, .same (sS Z <| sS Z <| sZ)⟩
         ·rw [if_neg (zaH g22)] at h
          refine q (d := (.ptr 0 4 18)) (zaf Z) g22 Z <| lo (d := (ST (zac.enc p0.Need))) g22 Z <| q (d := (.agg [I 0, I 0, I 0, I 0])) (zbB (by kernel_rfl)) g22 Z <| ?_
          obtain ⟨r65, e66, h⟩ := bs h
          refine q (d := (B r65)) (ca (zeS e66) Z) g22 Z <| pF g22 Z <| nl ?_
          exact ⟨r65, h, .same (sS Z <| sS Z <| sZ)⟩
noncomputable def F37 (N : Nat) : List D → Option D := spec (A := zad) (R := Bool) (fun a => [(ST (zad.enc a))]) (fun r => (B r)) (fun a => zdS N a)
theorem K37 (N : Nat) : ∀ ds r, F37 N ds = some r → za9 Tryd.prog 37 ds r := zav fun a r h => drayageref16xRight_ok N a r h
theorem drayageref16xRight_eq {N : Nat} {p0 : zad} {r : Bool} (h : zdS N p0 = some r) : F37 N [(ST (zad.enc p0))] = some (B r) := zaw (a := p0) (ij1 (zbx zad.inj)) h
noncomputable def S38 (N : Nat) : za1 := []
theorem O38 (N : Nat) : zaO Tryd.prog (zat (S38 N)) := zap (zaj.nil)
theorem drayageref14xFind_ok (N : Nat) (p0 : (List zai)) (p1 : Int) (r : Int) (h : zep N p0 p1 = some r) : za9 Tryd.prog 38 [(SL zai.enc p0), I p1] (I r) := by
  have O := And.intro mix (O38 N)
  refine zan Tryd.func38 (by kernel_rfl) C38 (bl Z) ?_
  unfold zep at h
  unfold A38
  dsimp only [zbc]
  refine sq <| rq O <| m Z <| nl <| nx <| sq <| sq <| rq O <| m Z <| nl <| nx <| Sem.block <| Sem.rounds (V := Int) (fun (x1 : Int) => [(0, (SL zai.enc p0)), (1, (I p1)), (5, (I x1))]) (fun (x1 : Int) => []) (fun k v => zcz N p0 p1 k v = some r) N 0 h (fun v h => by unfold zcz at h; cases h) ?_ (sS Z <| sS Z <| sS Z <| sZ) Z
  intro kL0 x1 h
  try dsimp only at h ⊢
  unfold zcz at h
  unfold A38xl0
  refine sq <| sq <| rq O <| m Z <| m Z <| o (d := (I (p0.length : Int))) (zaA Z) Z <| o (d := (B (decide (x1 < (p0.length : Int))))) (bo Z) Z <| nl <| nx <| Sem.cond Z (fun c2 => ?_) (fun c2 => ?_)
  ·rw [if_pos c2] at h
   refine Sem.skip mix <| nx <| sq <| Sem.block <| sq <| rq O <| m Z <| m Z <| ?_
   obtain ⟨a3, e4, h⟩ := bs h
   refine o (zaF Z Z e4 Z) Z <| o (d := (.c (.fptr (zai.enc a3) 0))) (zau Z) Z <| o (d := (I a3.Job)) (zal Z Z) Z <| m Z <| o (d := (B (a3.Job == p1))) (bo Z) Z <| nl <| nx <| Sem.cond Z (fun c5 => ?_) (fun c5 => ?_)
   ·rw [if_pos c5] at h
    refine sq <| rq O <| m Z <| m Z <| nl <| nx <| Sem.ret mix <| nx <| nx <| nx ?_
    cases h
    exact ⟨.inr Z, _, _, Z, Z, DLe.of_nrm Z⟩
   ·rw [if_neg (zaH c5)] at h
    refine Sem.skip mix <| nx <| nx <| rq O <| m Z <| o (d := (I (IntKind.i64.wrap (x1 + 1)))) (bo Z) Z <| m Z <| nl ?_
    exact ⟨(IntKind.i64.wrap (x1 + 1)), h, .same (sS Z <| sS Z <| sS Z <| sZ)⟩
  ·rw [if_neg (zaH c2)] at h
   refine Sem.exit mix <| nx <| ⟨_, _, .refl, fun _ => ?_, fun hh => absurd Z hh⟩
   refine nx <| sq <| rq O <| m Z <| nl <| nx <| Sem.ret mix ?_
   cases h
   exact ⟨.inr Z, _, _, Z, Z, DLe.of_nrm Z⟩
noncomputable def F38 (N : Nat) : List D → Option D := spec (A := (List zai) × Int) (R := Int) (fun a => [(SL zai.enc a.1), I a.2]) (fun r => (I r)) (fun a => zep N a.1 a.2)
theorem K38 (N : Nat) : ∀ ds r, F38 N ds = some r → za9 Tryd.prog 38 ds r := zav fun a r h => drayageref14xFind_ok N a.1 a.2 r h
theorem drayageref14xFind_eq {N : Nat} {p0 : (List zai)} {p1 : Int} {r : Int} (h : zep N p0 p1 = some r) : F38 N [(SL zai.enc p0), I p1] = some (I r) := zaw (a := (p0, p1)) (ij2 (zeM zai.inj) zev) h
noncomputable def S39 (N : Nat) : za1 := []
theorem O39 (N : Nat) : zaO Tryd.prog (zat (S39 N)) := zap (zaj.nil)
theorem drayageref23xHas_ok (N : Nat) (p0 : zad) (r : Bool) (h : zdg N p0 = some r) : za9 Tryd.prog 39 [(ST (zad.enc p0))] (B r) := by
  have O := And.intro mix (O39 N)
  refine zan Tryd.func39 (by kernel_rfl) C39 (bl Z) ?_
  unfold zdg at h
  unfold A39
  dsimp only [zbc]
  refine sq <| rq O <| o (d := (.ptr 0 0 18)) (σ1 := [cm (zad.enc p0)]) (zba Z Z Z Z) Z <| m Z <| nl <| nx <| Sem.step [(2, (B ((p0.State == 3) || (p0.State == 4))))] [cm (zad.enc p0)] (rq O ?_) ?_
  ·refine o (d := (.ptr 0 10 18)) (zaf Z) Z <| l (d := (I p0.State)) Z <| o (d := (B (p0.State == 3))) (bo Z) Z <| m Z <| ?_
   rcases bb (p0.State == 3) with g1 | g1
   ·refine TrQ.know (v := true) 6 Z g1 <| TrQ.skipG 3 Z <| pT Z Z <| m Z <| nl ⟨rfl, .same (sE Z (by rw [g1]; rfl) <| sZ)⟩
   ·refine q (d := (.ptr 0 10 18)) (zaf Z) g1 Z <| lo (d := (I p0.State)) g1 Z <| q (d := (B (p0.State == 4))) (bo Z) g1 Z <| pF g1 Z <| m Z <| nl ⟨rfl, .same (sE Z (by rw [g1]; rfl) <| sZ)⟩
  ·refine Sem.ret mix ?_
   cases h
   exact ⟨.inr Z, _, _, Z, Z, DLe.of_nrm Z⟩
noncomputable def F39 (N : Nat) : List D → Option D := spec (A := zad) (R := Bool) (fun a => [(ST (zad.enc a))]) (fun r => (B r)) (fun a => zdg N a)
theorem K39 (N : Nat) : ∀ ds r, F39 N ds = some r → za9 Tryd.prog 39 ds r := zav fun a r h => drayageref23xHas_ok N a r h
theorem drayageref23xHas_eq {N : Nat} {p0 : zad} {r : Bool} (h : zdg N p0 = some r) : F39 N [(ST (zad.enc p0))] = some (B r) := zaw (a := p0) (ij1 (zbx zad.inj)) h
noncomputable def S84 (N : Nat) : za1 := [(33, F33 N), (64, F64 N), (61, F61 N)]
theorem O84 (N : Nat) : zaO Tryd.prog (zat (S84 N)) := zap (zaj.cons (K33 N) <| zaj.cons (K64 N) <| zaj.cons (K61 N) <| zaj.nil)
theorem drayageref02xCount_ok (N : Nat) (p0 : zac) (p1 : zac) (r : Int) (h : zdb N p0 p1 = some r) : za9 Tryd.prog 84 [(ST (zac.enc p0)), (ST (zac.enc p1))] (I r) := by
  have O := And.intro mix (O84 N)
  refine zan Tryd.func84 (by kernel_rfl) C84 (bl Z) ?_
  unfold zdb at h
  unfold A84
  dsimp only [zbc]
  refine sq <| rq O <| o (d := (.ptr 0 0 4)) (σ1 := [cm (zac.enc p0)]) (zba Z Z Z Z) Z <| o (d := (.ptr 1 0 4)) (σ1 := [cm (zac.enc p0), cm (zac.enc p1)]) (zba Z Z Z Z) Z <| m Z <| nl <| nx <| sq <| Sem.join (fun (x7 : Bool) => [(2, (.ptr 0 0 4)), (3, (.ptr 1 0 4)), (19, (B x7))]) (fun (x7 : Bool) => [cm (zac.enc p0), cm (zac.enc p1)]) (fun (x7 : Bool) => zcl N p0 p1 x7 = some r) ?_ (rq O ?_)
  ·intro x7 h
   try dsimp only at h ⊢
   unfold zcl at h
   refine Sem.cond Z (fun c8 => ?_) (fun c8 => ?_)
   ·rw [if_pos c8] at h
    refine sq <| rq O <| m Z <| nl <| nx <| Sem.ret mix ?_
    cases h
    exact ⟨.inr Z, _, _, Z, Z, DLe.of_nrm Z⟩
   ·rw [if_neg (zaH c8)] at h
    refine Sem.skip mix <| nx <| sq <| rq O <| m Z <| nl <| nx <| sq <| rq O <| l (d := (ST (zac.enc p1))) Z <| o (d := (.ptr 2 0 4)) (σ1 := [cm (zac.enc p0), cm (zac.enc p1), .cells [I 0, I 0, I 0, I 0]]) (zaG Z Z) Z <| st (σ1 := [cm (zac.enc p0), cm (zac.enc p1), cm (zac.enc p1)]) Z <| nl <| nx <| sq <| Sem.block <| Sem.rounds (V := Int × zac) (fun ((x10, y9) : Int × zac) => [(2, (.ptr 0 0 4)), (3, (.ptr 1 0 4)), (5, (I x10)), (6, (.ptr 2 0 4))]) (fun ((x10, y9) : Int × zac) => [cm (zac.enc p0), cm (zac.enc p1), cm (zac.enc y9)]) (fun k v => zbl N p0 p1 k v.1 v.2 = some r) N (0, p1) h (fun v h => by unfold zbl at h; cases h) ?_ (sS Z <| sS Z <| sS Z <| sS Z <| sZ) Z
    intro kL1 v h
    obtain ⟨x10, y9⟩ := v
    try dsimp only at h ⊢
    unfold zbl at h
    unfold A84xl0
    refine sq <| Sem.join (fun (x13 : Bool) => [(2, (.ptr 0 0 4)), (3, (.ptr 1 0 4)), (5, (I x10)), (6, (.ptr 2 0 4)), (27, (B x13))]) (fun (x13 : Bool) => [cm (zac.enc p0), cm (zac.enc p1), cm (zac.enc y9)]) (fun (x13 : Bool) => zcY N p1 y9 x10 (zbl N p0 p1 kL1) x13 = some r) ?_ (rq O ?_)
    ·intro x13 h
     try dsimp only at h ⊢
     unfold zcY at h
     refine Sem.cond Z (fun c14 => ?_) (fun c14 => ?_)
     ·rw [if_pos c14] at h
      refine Sem.skip mix <| nx <| Sem.block <| sq <| rq O <| m Z <| o (d := (I (IntKind.i64.wrap (x10 + 1)))) (bo Z) Z <| m Z <| nl <| nx <| rq O <| l (d := (ST (zac.enc y9))) Z <| l (d := (ST (zac.enc p1))) Z <| ?_
      obtain ⟨r15, e16, h⟩ := bs h
      refine o (d := (ST (zac.enc r15))) (ca (zfq e16) Z) Z <| st (σ1 := [cm (zac.enc p0), cm (zac.enc p1), cm (zac.enc r15)]) Z <| nl <| nx ?_
      exact ⟨((IntKind.i64.wrap (x10 + 1)), r15), h, .same (sS Z <| sS Z <| sS Z <| sS Z <| sZ)⟩
     ·rw [if_neg (zaH c14)] at h
      refine Sem.exit mix <| nx <| ⟨_, _, .refl, fun _ => ?_, fun hh => absurd Z hh⟩
      refine nx <| sq <| rq O <| m Z <| m Z <| nl <| nx <| Sem.ret mix ?_
      cases h
      exact ⟨.inr Z, _, _, Z, Z, DLe.of_nrm Z⟩
    ·refine m Z <| o (d := (B (decide (x10 < 64)))) (bo Z) Z <| m Z <| ?_
     rcases bb (decide (x10 < 64)) with g2 | g2
     ·rw [if_pos g2] at h
      refine lo (d := (ST (zac.enc y9))) g2 Z <| lo (d := (ST (zac.enc p0))) g2 Z <| ?_
      obtain ⟨r17, e18, h⟩ := bs h
      refine q (d := (B r17)) (ca (zeS e18) Z) g2 Z <| pT g2 Z <| nl ?_
      exact ⟨r17, h, .same (sS Z <| sS Z <| sS Z <| sS Z <| sS Z <| sZ)⟩
     ·rw [if_neg (zaH g2)] at h
      refine TrQ.know (v := false) 23 Z g2 <| TrQ.skipG 3 Z <| pF Z Z <| nl ?_
      exact ⟨false, h, .same (sS Z <| sS Z <| sS Z <| sS Z <| sS Z <| sZ)⟩
  ·refine l (d := (ST (zac.enc p0))) Z <| ?_
   obtain ⟨r19, e20, h⟩ := bs h
   refine o (d := (B r19)) (ca (zcR e20) Z) Z <| o (d := (B (!r19))) (zbA Z Z Z Z) Z <| m Z <| ?_
   rcases bb (!r19) with g3 | g3
   ·rw [if_pos g3] at h
    refine TrQ.know (v := true) 10 Z g3 <| TrQ.skipG 3 Z <| pT Z Z <| m Z <| TrQ.skipG 3 Z <| pT Z Z <| nl ?_
    exact ⟨true, h, .same (sS Z <| sS Z <| sS Z <| sZ)⟩
   ·rw [if_neg (zaH g3)] at h
    refine lo (d := (ST (zac.enc p1))) g3 Z <| ?_
    obtain ⟨r21, e22, h⟩ := bs h
    refine q (d := (B r21)) (ca (zcR e22) Z) g3 Z <| q (d := (B (!r21))) (zbA Z Z Z Z) g3 Z <| pF g3 Z <| m Z <| ?_
    rcases bb (!r21) with g4 | g4
    ·rw [if_pos g4] at h
     refine TrQ.know (v := true) 15 Z g4 <| TrQ.skipG 3 Z <| pT Z Z <| nl ?_
     exact ⟨true, h, .same (sS Z <| sS Z <| sS Z <| sZ)⟩
    ·rw [if_neg (zaH g4)] at h
     refine lo (d := (ST (zac.enc p1))) g4 Z <| q (d := (.agg [I 0, I 0, I 0, I 0])) (zbB (by kernel_rfl)) g4 Z <| ?_
     obtain ⟨r23, e24, h⟩ := bs h
     refine q (d := (B r23)) (ca (zeS e24) Z) g4 Z <| pF g4 Z <| nl ?_
     exact ⟨r23, h, .same (sS Z <| sS Z <| sS Z <| sZ)⟩
noncomputable def F84 (N : Nat) : List D → Option D := spec (A := zac × zac) (R := Int) (fun a => [(ST (zac.enc a.1)), (ST (zac.enc a.2))]) (fun r => (I r)) (fun a => zdb N a.1 a.2)
theorem K84 (N : Nat) : ∀ ds r, F84 N ds = some r → za9 Tryd.prog 84 ds r := zav fun a r h => drayageref02xCount_ok N a.1 a.2 r h
theorem drayageref02xCount_eq {N : Nat} {p0 : zac} {p1 : zac} {r : Int} (h : zdb N p0 p1 = some r) : F84 N [(ST (zac.enc p0)), (ST (zac.enc p1))] = some (I r) := zaw (a := (p0, p1)) (ij2 (zbx zac.inj) (zbx zac.inj)) h
noncomputable def S69 (N : Nat) : za1 := [(84, F84 N)]
theorem O69 (N : Nat) : zaO Tryd.prog (zat (S69 N)) := zap (zaj.cons (K84 N) <| zaj.nil)
theorem drayageref07xRoom_ok (N : Nat) (p0 : zab) (p1 : Int) (p2 : zac) (r : Int) (h : zdj N p0 p1 p2 = some r) : za9 Tryd.prog 69 [(ST (zab.enc p0)), I p1, (ST (zac.enc p2))] (I r) := by
  have O := And.intro mix (O69 N)
  refine zan Tryd.func69 (by kernel_rfl) C69 (bl Z) ?_
  unfold zdj at h
  unfold A69
  dsimp only [zbc]
  refine sq <| rq O <| o (d := (.ptr 0 0 18)) (σ1 := [cm (zab.enc p0)]) (zba Z Z Z Z) Z <| o (d := (.ptr 1 0 4)) (σ1 := [cm (zab.enc p0), cm (zac.enc p2)]) (zba Z Z Z Z) Z <| m Z <| nl <| nx <| sq <| Sem.step [(1, (I p1)), (3, (.ptr 0 0 18)), (5, (.ptr 1 0 4)), (17, (B ((decide (p1 < 0)) || (decide (p1 ≥ (p0.Parts.length : Int))))))] [cm (zab.enc p0), cm (zac.enc p2)] (rq O ?_) ?_
  ·refine m Z <| o (d := (B (decide (p1 < 0)))) (bo Z) Z <| m Z <| ?_
   rcases bb (decide (p1 < 0)) with g1 | g1
   ·refine TrQ.know (v := true) 11 Z g1 <| TrQ.skipG 5 Z <| pT Z Z <| nl ⟨rfl, .same (sS Z <| sS Z <| sS Z <| sE Z (by rw [g1]; rfl) <| sZ)⟩
   ·refine mo g1 Z <| q (d := (.ptr 0 1 18)) (zaf Z) g1 Z <| lo (d := (SL (encL zah) p0.Parts)) g1 Z <| q (d := (I (p0.Parts.length : Int))) (zaA Z) g1 Z <| q (d := (B (decide (p1 ≥ (p0.Parts.length : Int))))) (bo Z) g1 Z <| pF g1 Z <| nl ⟨rfl, .same (sS Z <| sS Z <| sS Z <| sE Z (by rw [g1]; rfl) <| sZ)⟩
  ·refine Sem.cond Z (fun c1 => ?_) (fun c1 => ?_)
   ·rw [if_pos c1] at h
    refine sq <| rq O <| m Z <| nl <| nx <| Sem.ret mix ?_
    cases h
    exact ⟨.inr Z, _, _, Z, Z, DLe.of_nrm Z⟩
   ·rw [if_neg (zaH c1)] at h
    refine Sem.skip mix <| nx <| sq <| rq O <| m Z <| nl <| nx <| sq <| sq <| rq O <| m Z <| nl <| nx <| Sem.block <| Sem.rounds (V := Int × Int) (fun ((x2, x3) : Int × Int) => [(1, (I p1)), (3, (.ptr 0 0 18)), (5, (.ptr 1 0 4)), (7, (I x2)), (8, (I x3))]) (fun ((x2, x3) : Int × Int) => [cm (zab.enc p0), cm (zac.enc p2)]) (fun k v => zb4 N p0 p1 p2 k v.1 v.2 = some r) N (0, 0) h (fun v h => by unfold zb4 at h; cases h) ?_ (sS Z <| sS Z <| sS Z <| sS Z <| sS Z <| sZ) Z
    intro kL0 v h
    obtain ⟨x2, x3⟩ := v
    try dsimp only at h ⊢
    unfold zb4 at h
    unfold A69xl0
    refine sq <| sq <| rq O <| m Z <| o (d := (.ptr 0 1 18)) (zaf Z) Z <| l (d := (SL (encL zah) p0.Parts)) Z <| m Z <| ?_
    obtain ⟨a4, e5, h⟩ := bs h
    refine o (zaF Z Z e5 Z) Z <| o (d := (SL zah a4)) (zal Z Z) Z <| o (d := (I (a4.length : Int))) (zaA Z) Z <| o (d := (B (decide (x3 < (a4.length : Int))))) (bo Z) Z <| nl <| nx <| Sem.cond Z (fun c6 => ?_) (fun c6 => ?_)
    ·rw [if_pos c6] at h
     refine Sem.skip mix <| nx <| sq <| Sem.block <| dq O <| m Z <| o (d := (.ptr 0 0 18)) (zaf Z) Z <| l (d := (SL zac.enc p0.Nodes)) Z <| o (d := (.ptr 0 1 18)) (zaf Z) Z <| l (d := (SL (encL zah) p0.Parts)) Z <| m Z <| ?_
     obtain ⟨a7, e8, h⟩ := bs h
     refine o (zaF Z Z e8 Z) Z <| o (d := (SL zah a7)) (zal Z Z) Z <| m Z <| ?_
     obtain ⟨a9, e10, h⟩ := bs h
     refine o (zaF Z Z e10 Z) Z <| o (d := (I a9)) (zal Z Z) Z <| ?_
     obtain ⟨a11, e12, h⟩ := bs h
     refine o (zaF Z Z e12 Z) Z <| o (d := (ST (zac.enc a11))) (zal Z Z) Z <| l (d := (ST (zac.enc p2))) Z <| ?_
     obtain ⟨r13, e14, h⟩ := bs h
     refine o (d := (I r13)) (ca (drayageref02xCount_eq e14) Z) Z <| o (d := (I (IntKind.i64.wrap (x2 + r13)))) (bo Z) Z <| m Z <| nl ⟨by kernel_rfl, ?_⟩
     refine nx <| nx <| rq O <| m Z <| o (d := (I (IntKind.i64.wrap (x3 + 1)))) (bo Z) Z <| m Z <| nl ?_
     exact ⟨((IntKind.i64.wrap (x2 + r13)), (IntKind.i64.wrap (x3 + 1))), h, .same (sS Z <| sS Z <| sS Z <| sS Z <| sS Z <| sZ)⟩
    ·rw [if_neg (zaH c6)] at h
     refine Sem.exit mix <| nx <| ⟨_, _, .refl, fun _ => ?_, fun hh => absurd Z hh⟩
     refine nx <| sq <| rq O <| m Z <| m Z <| nl <| nx <| Sem.ret mix ?_
     cases h
     exact ⟨.inr Z, _, _, Z, Z, DLe.of_nrm Z⟩
noncomputable def F69 (N : Nat) : List D → Option D := spec (A := zab × Int × zac) (R := Int) (fun a => [(ST (zab.enc a.1)), I a.2.1, (ST (zac.enc a.2.2))]) (fun r => (I r)) (fun a => zdj N a.1 a.2.1 a.2.2)
theorem K69 (N : Nat) : ∀ ds r, F69 N ds = some r → za9 Tryd.prog 69 ds r := zav fun a r h => drayageref07xRoom_ok N a.1 a.2.1 a.2.2 r h
theorem drayageref07xRoom_eq {N : Nat} {p0 : zab} {p1 : Int} {p2 : zac} {r : Int} (h : zdj N p0 p1 p2 = some r) : F69 N [(ST (zab.enc p0)), I p1, (ST (zac.enc p2))] = some (I r) := zaw (a := (p0, p1, p2)) (ij3 (zbx zab.inj) zev (zbx zac.inj)) h
noncomputable def S40 (N : Nat) : za1 := [(69, F69 N)]
theorem O40 (N : Nat) : zaO Tryd.prog (zat (S40 N)) := zap (zaj.cons (K69 N) <| zaj.nil)
theorem drayageref07xFits_ok (N : Nat) (p0 : zab) (p1 : Int) (p2 : Int) (p3 : zac) (r : Bool) (h : zdo N p0 p1 p2 p3 = some r) : za9 Tryd.prog 40 [(ST (zab.enc p0)), I p1, I p2, (ST (zac.enc p3))] (B r) := by
  have O := And.intro mix (O40 N)
  refine zan Tryd.func40 (by kernel_rfl) C40 (bl Z) ?_
  unfold zdo at h
  unfold A40
  dsimp only [zbc]
  refine sq <| rq O <| o (d := (.ptr 0 0 18)) (σ1 := [cm (zab.enc p0)]) (zba Z Z Z Z) Z <| o (d := (.ptr 1 0 4)) (σ1 := [cm (zab.enc p0), cm (zac.enc p3)]) (zba Z Z Z Z) Z <| m Z <| nl <| nx <| Sem.join (fun (x5 : Bool) => [(8, (B x5))]) (fun (x5 : Bool) => [cm (zab.enc p0), cm (zac.enc p3)]) (fun (x5 : Bool) => zcx N  x5 = some r) ?_ (dq O ?_)
  ·intro x5 h
   try dsimp only at h ⊢
   unfold zcx at h
   refine Sem.ret mix ?_
   cases h
   exact ⟨.inr Z, _, _, Z, Z, DLe.of_nrm Z⟩
  ·refine m Z <| o (d := (B (decide (p1 ≥ 0)))) (bo Z) Z <| m Z <| ?_
   rcases bb (decide (p1 ≥ 0)) with g1 | g1
   ·rw [if_pos g1] at h
    refine mo g1 Z <| q (d := (.ptr 0 2 18)) (zaf Z) g1 Z <| lo (d := (SL zaq.enc p0.Queues)) g1 Z <| q (d := (I (p0.Queues.length : Int))) (zaA Z) g1 Z <| q (d := (B (decide (p1 < (p0.Queues.length : Int))))) (bo Z) g1 Z <| pT g1 Z <| m Z <| ?_
    rcases bb (decide (p1 < (p0.Queues.length : Int))) with g2 | g2
    ·rw [if_pos g2] at h
     refine mo g2 Z <| q (d := (B (decide (p2 ≥ 1)))) (bo Z) g2 Z <| pT g2 Z <| m Z <| ?_
     rcases bb (decide (p2 ≥ 1)) with g3 | g3
     ·rw [if_pos g3] at h
      refine lo (d := (ST (zab.enc p0))) g3 Z <| q (d := (.ptr 0 2 18)) (zaf Z) g3 Z <| lo (d := (SL zaq.enc p0.Queues)) g3 Z <| mo g3 Z <| ?_
      obtain ⟨a6, e7, h⟩ := bs h
      refine q (zaF Z Z e7 Z) g3 Z <| q (d := (.c (.fptr (zaq.enc a6) 0))) (zau Z) g3 Z <| q (d := (I a6.Part)) (zal Z Z) g3 Z <| lo (d := (ST (zac.enc p3))) g3 Z <| ?_
      obtain ⟨r8, e9, h⟩ := bs h
      refine q (d := (I r8)) (ca (drayageref07xRoom_eq e9) Z) g3 Z <| mo g3 Z <| q (d := (B (decide (r8 ≥ p2)))) (bo Z) g3 Z <| pT g3 Z <| m Z <| nl ⟨by kernel_rfl, ?_⟩
      exact ⟨(decide (r8 ≥ p2)), h, .same (sS Z <| sZ)⟩
     ·rw [if_neg (zaH g3)] at h
      refine TrQ.know (v := false) 22 Z g3 <| TrQ.skipG 11 Z <| pF Z Z <| m Z <| nl ⟨by kernel_rfl, ?_⟩
      exact ⟨false, h, .same (sS Z <| sZ)⟩
    ·rw [if_neg (zaH g2)] at h
     refine TrQ.know (v := false) 18 Z g2 <| TrQ.skipG 2 Z <| pF Z Z <| m Z <| TrQ.skipG 11 Z <| pF Z Z <| m Z <| nl ⟨by kernel_rfl, ?_⟩
     exact ⟨false, h, .same (sS Z <| sZ)⟩
   ·rw [if_neg (zaH g1)] at h
    refine TrQ.know (v := false) 11 Z g1 <| TrQ.skipG 5 Z <| pF Z Z <| m Z <| TrQ.skipG 2 Z <| pF Z Z <| m Z <| TrQ.skipG 11 Z <| pF Z Z <| m Z <| nl ⟨by kernel_rfl, ?_⟩
    exact ⟨false, h, .same (sS Z <| sZ)⟩
noncomputable def F40 (N : Nat) : List D → Option D := spec (A := zab × Int × Int × zac) (R := Bool) (fun a => [(ST (zab.enc a.1)), I a.2.1, I a.2.2.1, (ST (zac.enc a.2.2.2))]) (fun r => (B r)) (fun a => zdo N a.1 a.2.1 a.2.2.1 a.2.2.2)
theorem K40 (N : Nat) : ∀ ds r, F40 N ds = some r → za9 Tryd.prog 40 ds r := zav fun a r h => drayageref07xFits_ok N a.1 a.2.1 a.2.2.1 a.2.2.2 r h
theorem drayageref07xFits_eq {N : Nat} {p0 : zab} {p1 : Int} {p2 : Int} {p3 : zac} {r : Bool} (h : zdo N p0 p1 p2 p3 = some r) : F40 N [(ST (zab.enc p0)), I p1, I p2, (ST (zac.enc p3))] = some (B r) := zaw (a := (p0, p1, p2, p3)) (ij4 (zbx zab.inj) zev zev (zbx zac.inj)) h
noncomputable def S70 (N : Nat) : za1 := []
theorem O70 (N : Nat) : zaO Tryd.prog (zat (S70 N)) := zap (zaj.nil)
theorem drayageref11xTotal_ok (N : Nat) (p0 : (List zak)) (r : Int) (h : zd2 N p0 = some r) : za9 Tryd.prog 70 [(SL zak.enc p0)] (I r) := by
  have O := And.intro mix (O70 N)
  refine zan Tryd.func70 (by kernel_rfl) C70 (bl Z) ?_
  unfold zd2 at h
  unfold A70
  dsimp only [zbc]
  refine sq <| rq O <| m Z <| nl <| nx <| sq <| rq O <| m Z <| nl <| nx <| sq <| sq <| rq O <| m Z <| nl <| nx <| Sem.block <| Sem.rounds (V := Int × Int) (fun ((x1, x2) : Int × Int) => [(0, (SL zak.enc p0)), (3, (I x1)), (4, (I x2))]) (fun ((x1, x2) : Int × Int) => []) (fun k v => za2 N p0 k v.1 v.2 = some r) N (0, 0) h (fun v h => by unfold za2 at h; cases h) ?_ (sS Z <| sS Z <| sS Z <| sZ) Z
  intro kL0 v h
  obtain ⟨x1, x2⟩ := v
  try dsimp only at h ⊢
  unfold za2 at h
  unfold A70xl0
  refine sq <| sq <| rq O <| m Z <| m Z <| o (d := (I (p0.length : Int))) (zaA Z) Z <| o (d := (B (decide (x2 < (p0.length : Int))))) (bo Z) Z <| nl <| nx <| Sem.cond Z (fun c3 => ?_) (fun c3 => ?_)
  ·rw [if_pos c3] at h
   refine Sem.skip mix <| nx <| Sem.join (fun (x4 : Int) => [(0, (SL zak.enc p0)), (3, (I x4)), (4, (I x2))]) (fun (x4 : Int) => []) (fun (x4 : Int) => zcX N x2 (za2 N p0 kL0) x4 = some r) ?_ ?_
   ·intro x4 h
    try dsimp only at h ⊢
    unfold zcX at h
    refine rq O <| m Z <| o (d := (I (IntKind.i64.wrap (x2 + 1)))) (bo Z) Z <| m Z <| nl ?_
    exact ⟨(x4, (IntKind.i64.wrap (x2 + 1))), h, .same (sS Z <| sS Z <| sS Z <| sZ)⟩
   ·refine Sem.block <| sq <| rq O <| m Z <| m Z <| ?_
    obtain ⟨a5, e6, h⟩ := bs h
    refine o (zaF Z Z e6 Z) Z <| o (d := (.c (.fptr (zak.enc a5) 1))) (zau Z) Z <| o (d := (I a5.Many)) (zal Z Z) Z <| o (d := (B (decide (a5.Many > 64)))) (bo Z) Z <| nl <| nx <| Sem.cond Z (fun c7 => ?_) (fun c7 => ?_)
    ·rw [if_pos c7] at h
     refine rq O <| m Z <| o (d := (I (IntKind.i64.wrap (x1 + 64)))) (bo Z) Z <| m Z <| nl <| nx ?_
     exact ⟨(IntKind.i64.wrap (x1 + 64)), h, .same (sS Z <| sS Z <| sS Z <| sZ)⟩
    ·rw [if_neg (zaH c7)] at h
     refine sq <| rq O <| m Z <| m Z <| ?_
     obtain ⟨a8, e9, h⟩ := bs h
     refine o (zaF Z Z e9 Z) Z <| o (d := (.c (.fptr (zak.enc a8) 1))) (zau Z) Z <| o (d := (I a8.Many)) (zal Z Z) Z <| o (d := (B (decide (a8.Many > 0)))) (bo Z) Z <| nl <| nx <| Sem.cond Z (fun c10 => ?_) (fun c10 => ?_)
     ·rw [if_pos c10] at h
      refine rq O <| m Z <| m Z <| m Z <| ?_
      obtain ⟨a11, e12, h⟩ := bs h
      refine o (zaF Z Z e12 Z) Z <| o (d := (.c (.fptr (zak.enc a11) 1))) (zau Z) Z <| o (d := (I a11.Many)) (zal Z Z) Z <| o (d := (I (IntKind.i64.wrap (x1 + a11.Many)))) (bo Z) Z <| m Z <| nl <| nx ?_
      exact ⟨(IntKind.i64.wrap (x1 + a11.Many)), h, .same (sS Z <| sS Z <| sS Z <| sZ)⟩
     ·rw [if_neg (zaH c10)] at h
      refine Sem.skip mix <| nx ?_
      exact ⟨x1, h, .same (sS Z <| sS Z <| sS Z <| sZ)⟩
  ·rw [if_neg (zaH c3)] at h
   refine Sem.exit mix <| nx <| ⟨_, _, .refl, fun _ => ?_, fun hh => absurd Z hh⟩
   refine nx <| sq <| rq O <| m Z <| m Z <| nl <| nx <| Sem.ret mix ?_
   cases h
   exact ⟨.inr Z, _, _, Z, Z, DLe.of_nrm Z⟩
noncomputable def F70 (N : Nat) : List D → Option D := spec (A := (List zak)) (R := Int) (fun a => [(SL zak.enc a)]) (fun r => (I r)) (fun a => zd2 N a)
theorem K70 (N : Nat) : ∀ ds r, F70 N ds = some r → za9 Tryd.prog 70 ds r := zav fun a r h => drayageref11xTotal_ok N a r h
theorem drayageref11xTotal_eq {N : Nat} {p0 : (List zak)} {r : Int} (h : zd2 N p0 = some r) : F70 N [(SL zak.enc p0)] = some (I r) := zaw (a := p0) (ij1 (zeM zak.inj)) h
noncomputable def S71 (N : Nat) : za1 := []
theorem O71 (N : Nat) : zaO Tryd.prog (zat (S71 N)) := zap (zaj.nil)
theorem drayageref01xHas_ok (N : Nat) (p0 : (List Int)) (p1 : Int) (r : Bool) (h : zeC N p0 p1 = some r) : za9 Tryd.prog 71 [(SL zah p0), I p1] (B r) := by
  have O := And.intro mix (O71 N)
  refine zan Tryd.func71 (by kernel_rfl) C71 (bl Z) ?_
  unfold zeC at h
  unfold A71
  dsimp only [zbc]
  refine sq <| rq O <| m Z <| nl <| nx <| sq <| sq <| rq O <| m Z <| nl <| nx <| Sem.block <| Sem.rounds (V := Int) (fun (x1 : Int) => [(0, (SL zah p0)), (1, (I p1)), (5, (I x1))]) (fun (x1 : Int) => []) (fun k v => zcE N p0 p1 k v = some r) N 0 h (fun v h => by unfold zcE at h; cases h) ?_ (sS Z <| sS Z <| sS Z <| sZ) Z
  intro kL0 x1 h
  try dsimp only at h ⊢
  unfold zcE at h
  unfold A71xl0
  refine sq <| sq <| rq O <| m Z <| m Z <| o (d := (I (p0.length : Int))) (zaA Z) Z <| o (d := (B (decide (x1 < (p0.length : Int))))) (bo Z) Z <| nl <| nx <| Sem.cond Z (fun c2 => ?_) (fun c2 => ?_)
  ·rw [if_pos c2] at h
   refine Sem.skip mix <| nx <| sq <| Sem.block <| sq <| rq O <| m Z <| m Z <| ?_
   obtain ⟨a3, e4, h⟩ := bs h
   refine o (zaF Z Z e4 Z) Z <| o (d := (I a3)) (zal Z Z) Z <| m Z <| o (d := (B (a3 == p1))) (bo Z) Z <| nl <| nx <| Sem.cond Z (fun c5 => ?_) (fun c5 => ?_)
   ·rw [if_pos c5] at h
    refine sq <| rq O <| m Z <| nl <| nx <| Sem.ret mix <| nx <| nx <| nx ?_
    cases h
    exact ⟨.inr Z, _, _, Z, Z, DLe.of_nrm Z⟩
   ·rw [if_neg (zaH c5)] at h
    refine Sem.skip mix <| nx <| nx <| rq O <| m Z <| o (d := (I (IntKind.i64.wrap (x1 + 1)))) (bo Z) Z <| m Z <| nl ?_
    exact ⟨(IntKind.i64.wrap (x1 + 1)), h, .same (sS Z <| sS Z <| sS Z <| sZ)⟩
  ·rw [if_neg (zaH c2)] at h
   refine Sem.exit mix <| nx <| ⟨_, _, .refl, fun _ => ?_, fun hh => absurd Z hh⟩
   refine nx <| sq <| rq O <| m Z <| nl <| nx <| Sem.ret mix ?_
   cases h
   exact ⟨.inr Z, _, _, Z, Z, DLe.of_nrm Z⟩
noncomputable def F71 (N : Nat) : List D → Option D := spec (A := (List Int) × Int) (R := Bool) (fun a => [(SL zah a.1), I a.2]) (fun r => (B r)) (fun a => zeC N a.1 a.2)
theorem K71 (N : Nat) : ∀ ds r, F71 N ds = some r → za9 Tryd.prog 71 ds r := zav fun a r h => drayageref01xHas_ok N a.1 a.2 r h
theorem drayageref01xHas_eq {N : Nat} {p0 : (List Int)} {p1 : Int} {r : Bool} (h : zeC N p0 p1 = some r) : F71 N [(SL zah p0), I p1] = some (B r) := zaw (a := (p0, p1)) (ij2 (zeM zcf) zev) h
noncomputable def S41 (N : Nat) : za1 := [(32, F32 N), (70, F70 N), (71, F71 N)]
theorem O41 (N : Nat) : zaO Tryd.prog (zat (S41 N)) := zap (zaj.cons (K32 N) <| zaj.cons (K70 N) <| zaj.cons (K71 N) <| zaj.nil)
theorem drayageref23xMine_ok (N : Nat) (p0 : zab) (p1 : zad) (p2 : (List zak)) (r : Bool) (h : zdn N p0 p1 p2 = some r) : za9 Tryd.prog 41 [(ST (zab.enc p0)), (ST (zad.enc p1)), (SL zak.enc p2)] (B r) := by
  have O := And.intro mix (O41 N)
  refine zan Tryd.func41 (by kernel_rfl) C41 (bl Z) ?_
  unfold zdn at h
  unfold A41
  dsimp only [zbc]
  refine sq <| rq O <| o (d := (.ptr 0 0 18)) (σ1 := [cm (zab.enc p0)]) (zba Z Z Z Z) Z <| o (d := (.ptr 1 0 18)) (σ1 := [cm (zab.enc p0), cm (zad.enc p1)]) (zba Z Z Z Z) Z <| m Z <| nl <| nx <| sq <| Sem.join (fun (x5 : Bool) => [(2, (SL zak.enc p2)), (3, (.ptr 0 0 18)), (4, (.ptr 1 0 18)), (34, (B x5))]) (fun (x5 : Bool) => [cm (zab.enc p0), cm (zad.enc p1)]) (fun (x5 : Bool) => zby N p0 p1 p2 x5 = some r) ?_ (dq O ?_)
  ·intro x5 h
   try dsimp only at h ⊢
   unfold zby at h
   refine Sem.cond Z (fun c6 => ?_) (fun c6 => ?_)
   ·rw [if_pos c6] at h
    refine sq <| rq O <| m Z <| nl <| nx <| Sem.ret mix ?_
    cases h
    exact ⟨.inr Z, _, _, Z, Z, DLe.of_nrm Z⟩
   ·rw [if_neg (zaH c6)] at h
    refine Sem.skip mix <| nx <| sq <| dq O <| o (d := (.ptr 0 1 18)) (zaf Z) Z <| l (d := (SL (encL zah) p0.Parts)) Z <| o (d := (.ptr 0 2 18)) (zaf Z) Z <| l (d := (SL zaq.enc p0.Queues)) Z <| o (d := (.ptr 1 2 18)) (zaf Z) Z <| l (d := (I p1.Queue)) Z <| ?_
    obtain ⟨a7, e8, h⟩ := bs h
    refine o (zaF Z Z e8 Z) Z <| o (d := (.c (.fptr (zaq.enc a7) 0))) (zau Z) Z <| o (d := (I a7.Part)) (zal Z Z) Z <| ?_
    obtain ⟨a9, e10, h⟩ := bs h
    refine o (zaF Z Z e10 Z) Z <| o (d := (SL zah a9)) (zal Z Z) Z <| m Z <| nl ⟨by kernel_rfl, ?_⟩
    refine nx <| sq <| sq <| rq O <| m Z <| nl <| nx <| Sem.block <| Sem.rounds (V := Int) (fun (x11 : Int) => [(2, (SL zak.enc p2)), (7, (SL zah a9)), (8, (I x11))]) (fun (x11 : Int) => [cm (zab.enc p0), cm (zad.enc p1)]) (fun k v => zcw N p2 a9 k v = some r) N 0 h (fun v h => by unfold zcw at h; cases h) ?_ (sS Z <| sS Z <| sS Z <| sZ) Z
    intro kL1 x11 h
    try dsimp only at h ⊢
    unfold zcw at h
    unfold A41xl0
    refine sq <| sq <| rq O <| m Z <| m Z <| o (d := (I (p2.length : Int))) (zaA Z) Z <| o (d := (B (decide (x11 < (p2.length : Int))))) (bo Z) Z <| nl <| nx <| Sem.cond Z (fun c12 => ?_) (fun c12 => ?_)
    ·rw [if_pos c12] at h
     refine Sem.skip mix <| nx <| sq <| Sem.block <| sq <| rq O <| m Z <| m Z <| m Z <| ?_
     obtain ⟨a13, e14, h⟩ := bs h
     refine o (zaF Z Z e14 Z) Z <| o (d := (.c (.fptr (zak.enc a13) 0))) (zau Z) Z <| o (d := (I a13.Node)) (zal Z Z) Z <| ?_
     obtain ⟨r15, e16, h⟩ := bs h
     refine o (d := (B r15)) (ca (drayageref01xHas_eq e16) Z) Z <| o (d := (B (!r15))) (zbA Z Z Z Z) Z <| nl <| nx <| Sem.cond Z (fun c17 => ?_) (fun c17 => ?_)
     ·rw [if_pos c17] at h
      refine sq <| rq O <| m Z <| nl <| nx <| Sem.ret mix <| nx <| nx <| nx ?_
      cases h
      exact ⟨.inr Z, _, _, Z, Z, DLe.of_nrm Z⟩
     ·rw [if_neg (zaH c17)] at h
      refine Sem.skip mix <| nx <| nx <| rq O <| m Z <| o (d := (I (IntKind.i64.wrap (x11 + 1)))) (bo Z) Z <| m Z <| nl ?_
      exact ⟨(IntKind.i64.wrap (x11 + 1)), h, .same (sS Z <| sS Z <| sS Z <| sZ)⟩
    ·rw [if_neg (zaH c12)] at h
     refine Sem.exit mix <| nx <| ⟨_, _, .refl, fun _ => ?_, fun hh => absurd Z hh⟩
     refine nx <| sq <| rq O <| m Z <| nl <| nx <| Sem.ret mix ?_
     cases h
     exact ⟨.inr Z, _, _, Z, Z, DLe.of_nrm Z⟩
  ·refine m Z <| o (d := (.ptr 0 0 18)) (zaf Z) Z <| l (d := (SL zac.enc p0.Nodes)) Z <| o (d := (I (p0.Nodes.length : Int))) (zaA Z) Z <| ?_
   obtain ⟨r18, e19, h⟩ := bs h
   refine o (d := (B r18)) (ca (zff e19) Z) Z <| o (d := (B (!r18))) (zbA Z Z Z Z) Z <| m Z <| ?_
   rcases bb (!r18) with g1 | g1
   ·rw [if_pos g1] at h
    refine TrQ.know (v := true) 15 Z g1 <| TrQ.skipG 5 Z <| pT Z Z <| m Z <| TrQ.skipG 3 Z <| pT Z Z <| m Z <| TrQ.skipG 6 Z <| pT Z Z <| nl ⟨by kernel_rfl, ?_⟩
    exact ⟨true, h, .same (sS Z <| sS Z <| sS Z <| sS Z <| sZ)⟩
   ·rw [if_neg (zaH g1)] at h
    refine mo g1 Z <| ?_
    obtain ⟨r20, e21, h⟩ := bs h
    refine q (d := (I r20)) (ca (drayageref11xTotal_eq e21) Z) g1 Z <| q (d := (.ptr 1 3 18)) (zaf Z) g1 Z <| lo (d := (I p1.Many)) g1 Z <| q (d := (B (r20 != p1.Many))) (bo Z) g1 Z <| pF g1 Z <| m Z <| ?_
    rcases bb (r20 != p1.Many) with g2 | g2
    ·rw [if_pos g2] at h
     refine TrQ.know (v := true) 22 Z g2 <| TrQ.skipG 3 Z <| pT Z Z <| m Z <| TrQ.skipG 6 Z <| pT Z Z <| nl ⟨by kernel_rfl, ?_⟩
     exact ⟨true, h, .same (sS Z <| sS Z <| sS Z <| sS Z <| sZ)⟩
    ·rw [if_neg (zaH g2)] at h
     refine q (d := (.ptr 1 2 18)) (zaf Z) g2 Z <| lo (d := (I p1.Queue)) g2 Z <| q (d := (B (decide (p1.Queue < 0)))) (bo Z) g2 Z <| pF g2 Z <| m Z <| ?_
     rcases bb (decide (p1.Queue < 0)) with g3 | g3
     ·rw [if_pos g3] at h
      refine TrQ.know (v := true) 27 Z g3 <| TrQ.skipG 6 Z <| pT Z Z <| nl ⟨by kernel_rfl, ?_⟩
      exact ⟨true, h, .same (sS Z <| sS Z <| sS Z <| sS Z <| sZ)⟩
     ·rw [if_neg (zaH g3)] at h
      refine q (d := (.ptr 1 2 18)) (zaf Z) g3 Z <| lo (d := (I p1.Queue)) g3 Z <| q (d := (.ptr 0 2 18)) (zaf Z) g3 Z <| lo (d := (SL zaq.enc p0.Queues)) g3 Z <| q (d := (I (p0.Queues.length : Int))) (zaA Z) g3 Z <| q (d := (B (decide (p1.Queue ≥ (p0.Queues.length : Int))))) (bo Z) g3 Z <| pF g3 Z <| nl ⟨by kernel_rfl, ?_⟩
      exact ⟨(decide (p1.Queue ≥ (p0.Queues.length : Int))), h, .same (sS Z <| sS Z <| sS Z <| sS Z <| sZ)⟩
noncomputable def F41 (N : Nat) : List D → Option D := spec (A := zab × zad × (List zak)) (R := Bool) (fun a => [(ST (zab.enc a.1)), (ST (zad.enc a.2.1)), (SL zak.enc a.2.2)]) (fun r => (B r)) (fun a => zdn N a.1 a.2.1 a.2.2)
theorem K41 (N : Nat) : ∀ ds r, F41 N ds = some r → za9 Tryd.prog 41 ds r := zav fun a r h => drayageref23xMine_ok N a.1 a.2.1 a.2.2 r h
theorem drayageref23xMine_eq {N : Nat} {p0 : zab} {p1 : zad} {p2 : (List zak)} {r : Bool} (h : zdn N p0 p1 p2 = some r) : F41 N [(ST (zab.enc p0)), (ST (zad.enc p1)), (SL zak.enc p2)] = some (B r) := zaw (a := (p0, p1, p2)) (ij3 (zbx zab.inj) (zbx zad.inj) (zeM zak.inj)) h
noncomputable def S19 (N : Nat) : za1 := [(37, F37 N), (38, F38 N), (39, F39 N), (31, F31 N), (40, F40 N), (41, F41 N)]
theorem O19 (N : Nat) : zaO Tryd.prog (zat (S19 N)) := zap (zaj.cons (K37 N) <| zaj.cons (K38 N) <| zaj.cons (K39 N) <| zaj.cons (K31 N) <| zaj.cons (K40 N) <| zaj.cons (K41 N) <| zaj.nil)
theorem drayageref23xjob_ok (N : Nat) (p0 : zab) (p1 : zag) (p2 : zad) (r : Bool) (h : zea N p0 p1 p2 = some r) : za9 Tryd.prog 19 [(ST (zab.enc p0)), (ST (zag.enc p1)), (ST (zad.enc p2))] (B r) := by
  have O := And.intro mix (O19 N)
  refine zan Tryd.func19 (by kernel_rfl) C19 (bl Z) ?_
  unfold zea at h
  unfold A19
  dsimp only [zbc]
  refine sq <| rq O <| o (d := (.ptr 0 0 18)) (σ1 := [cm (zab.enc p0)]) (zba Z Z Z Z) Z <| o (d := (.ptr 1 0 9)) (σ1 := [cm (zab.enc p0), cm (zag.enc p1)]) (zba Z Z Z Z) Z <| o (d := (.ptr 2 0 18)) (σ1 := [cm (zab.enc p0), cm (zag.enc p1), cm (zad.enc p2)]) (zba Z Z Z Z) Z <| m Z <| nl <| nx <| sq <| Sem.join (fun (x3 : Bool) => [(3, (.ptr 0 0 18)), (4, (.ptr 1 0 9)), (5, (.ptr 2 0 18)), (55, (B x3))]) (fun (x3 : Bool) => [cm (zab.enc p0), cm (zag.enc p1), cm (zad.enc p2)]) (fun (x3 : Bool) => zaQ N p0 p1 p2 x3 = some r) ?_ (rq O ?_)
  ·intro x3 h
   try dsimp only at h ⊢
   unfold zaQ at h
   refine Sem.cond Z (fun c4 => ?_) (fun c4 => ?_)
   ·rw [if_pos c4] at h
    refine sq <| rq O <| m Z <| nl <| nx <| Sem.ret mix ?_
    cases h
    exact ⟨.inr Z, _, _, Z, Z, DLe.of_nrm Z⟩
   ·rw [if_neg (zaH c4)] at h
    refine Sem.skip mix <| nx <| sq <| rq O <| m Z <| nl <| nx <| Sem.join (fun (x5 : Int) => [(3, (.ptr 0 0 18)), (4, (.ptr 1 0 9)), (5, (.ptr 2 0 18)), (7, (I x5))]) (fun (x5 : Int) => [cm (zab.enc p0), cm (zag.enc p1), cm (zad.enc p2)]) (fun (x5 : Int) => zdr N p0 p1 p2 x5 = some r) ?_ ?_
    ·intro x5 h
     try dsimp only at h ⊢
     unfold zdr at h
     refine Sem.join (fun (x6 : Int) => [(3, (.ptr 0 0 18)), (4, (.ptr 1 0 9)), (5, (.ptr 2 0 18)), (7, (I x6))]) (fun (x6 : Int) => [cm (zab.enc p0), cm (zag.enc p1), cm (zad.enc p2)]) (fun (x6 : Int) => zdy N p0 p1 p2 x6 = some r) ?_ ?_
     ·intro x6 h
      try dsimp only at h ⊢
      unfold zdy at h
      refine Sem.join (fun (x7 : Int) => [(3, (.ptr 0 0 18)), (4, (.ptr 1 0 9)), (5, (.ptr 2 0 18)), (7, (I x7))]) (fun (x7 : Int) => [cm (zab.enc p0), cm (zag.enc p1), cm (zad.enc p2)]) (fun (x7 : Int) => zdl N p0 p1 p2 x7 = some r) ?_ ?_
      ·intro x7 h
       try dsimp only at h ⊢
       unfold zdl at h
       refine sq <| rq O <| o (d := (.ptr 1 4 9)) (zaf Z) Z <| l (d := (SL zai.enc p1.Allocs)) Z <| o (d := (.ptr 2 0 18)) (zaf Z) Z <| l (d := (I p2.Id)) Z <| ?_
       obtain ⟨r8, e9, h⟩ := bs h
       refine o (d := (I r8)) (ca (drayageref14xFind_eq e9) Z) Z <| m Z <| nl <| nx <| sq <| Sem.join (fun (x12 : Bool) => [(3, (.ptr 0 0 18)), (4, (.ptr 1 0 9)), (5, (.ptr 2 0 18)), (8, (I r8)), (83, (B x12))]) (fun (x12 : Bool) => [cm (zab.enc p0), cm (zag.enc p1), cm (zad.enc p2)]) (fun (x12 : Bool) => zds N p0 p1 p2 r8 x12 = some r) ?_ (rq O ?_)
       ·intro x12 h
        try dsimp only at h ⊢
        unfold zds at h
        refine Sem.cond Z (fun c13 => ?_) (fun c13 => ?_)
        ·rw [if_pos c13] at h
         refine sq <| rq O <| m Z <| nl <| nx <| Sem.ret mix ?_
         cases h
         exact ⟨.inr Z, _, _, Z, Z, DLe.of_nrm Z⟩
        ·rw [if_neg (zaH c13)] at h
         refine Sem.skip mix <| nx <| sq <| sq <| rq O <| o (d := (.ptr 2 10 18)) (zaf Z) Z <| l (d := (I p2.State)) Z <| o (d := (B (decide (p2.State ≥ 5)))) (bo Z) Z <| nl <| nx <| Sem.cond Z (fun c14 => ?_) (fun c14 => ?_)
         ·rw [if_pos c14] at h
          refine sq <| rq O <| m Z <| nl <| nx <| Sem.ret mix ?_
          cases h
          exact ⟨.inr Z, _, _, Z, Z, DLe.of_nrm Z⟩
         ·rw [if_neg (zaH c14)] at h
          refine Sem.skip mix <| nx <| sq <| sq <| rq O <| m Z <| nl <| nx <| Sem.block <| Sem.rounds (V := Int) (fun (x15 : Int) => [(3, (.ptr 0 0 18)), (4, (.ptr 1 0 9)), (5, (.ptr 2 0 18)), (8, (I r8)), (9, (I x15))]) (fun (x15 : Int) => [cm (zab.enc p0), cm (zag.enc p1), cm (zad.enc p2)]) (fun k v => zcM N p0 p1 p2 r8 k v = some r) N 0 h (fun v h => by unfold zcM at h; cases h) ?_ (sS Z <| sS Z <| sS Z <| sS Z <| sS Z <| sZ) Z
          intro kL5 x15 h
          try dsimp only at h ⊢
          unfold zcM at h
          unfold A19xl0
          refine sq <| sq <| rq O <| m Z <| o (d := (.ptr 2 9 18)) (zaf Z) Z <| l (d := (SL za4.enc p2.After)) Z <| o (d := (I (p2.After.length : Int))) (zaA Z) Z <| o (d := (B (decide (x15 < (p2.After.length : Int))))) (bo Z) Z <| nl <| nx <| Sem.cond Z (fun c16 => ?_) (fun c16 => ?_)
          ·rw [if_pos c16] at h
           refine Sem.skip mix <| nx <| sq <| Sem.block <| sq <| dq O <| o (d := (.ptr 1 3 9)) (zaf Z) Z <| l (d := (SL zad.enc p1.Jobs)) Z <| o (d := (.ptr 2 9 18)) (zaf Z) Z <| l (d := (SL za4.enc p2.After)) Z <| m Z <| ?_
           obtain ⟨a17, e18, h⟩ := bs h
           refine o (zaF Z Z e18 Z) Z <| o (d := (.c (.fptr (za4.enc a17) 0))) (zau Z) Z <| o (d := (I a17.Job)) (zal Z Z) Z <| ?_
           obtain ⟨r19, e20, h⟩ := bs h
           refine o (d := (I r19)) (ca (zeR e20) Z) Z <| o (d := (B (decide (r19 < 0)))) (bo Z) Z <| nl ⟨by kernel_rfl, ?_⟩
           refine nx <| Sem.cond Z (fun c21 => ?_) (fun c21 => ?_)
           ·rw [if_pos c21] at h
            refine sq <| rq O <| m Z <| nl <| nx <| Sem.ret mix <| nx <| nx <| nx ?_
            cases h
            exact ⟨.inr Z, _, _, Z, Z, DLe.of_nrm Z⟩
           ·rw [if_neg (zaH c21)] at h
            refine Sem.skip mix <| nx <| nx <| rq O <| m Z <| o (d := (I (IntKind.i64.wrap (x15 + 1)))) (bo Z) Z <| m Z <| nl ?_
            exact ⟨(IntKind.i64.wrap (x15 + 1)), h, .same (sS Z <| sS Z <| sS Z <| sS Z <| sS Z <| sZ)⟩
          ·rw [if_neg (zaH c16)] at h
           refine Sem.exit mix <| nx <| ⟨_, _, .refl, fun _ => ?_, fun hh => absurd Z hh⟩
           refine nx <| sq <| sq <| rq O <| l (d := (ST (zab.enc p0))) Z <| o (d := (.ptr 2 2 18)) (zaf Z) Z <| l (d := (I p2.Queue)) Z <| o (d := (.ptr 2 3 18)) (zaf Z) Z <| l (d := (I p2.Many)) Z <| o (d := (.ptr 2 4 18)) (zaf Z) Z <| l (d := (ST (zac.enc p2.Need))) Z <| ?_
           obtain ⟨r22, e23, h⟩ := bs h
           refine o (d := (B r22)) (ca (drayageref07xFits_eq e23) Z) Z <| o (d := (B (!r22))) (zbA Z Z Z Z) Z <| nl <| nx <| Sem.cond Z (fun c24 => ?_) (fun c24 => ?_)
           ·rw [if_pos c24] at h
            refine sq <| rq O <| m Z <| nl <| nx <| Sem.ret mix ?_
            cases h
            exact ⟨.inr Z, _, _, Z, Z, DLe.of_nrm Z⟩
           ·rw [if_neg (zaH c24)] at h
            refine Sem.skip mix <| nx <| Sem.join (fun (x33 : Bool) => [(6, (B x33))]) (fun (x33 : Bool) => [cm (zab.enc p0), cm (zag.enc p1), cm (zad.enc p2)]) (fun (x33 : Bool) => zbI N  x33 = some r) ?_ (dq O ?_)
            ·intro x33 h
             try dsimp only at h ⊢
             unfold zbI at h
             refine Sem.ret mix ?_
             cases h
             exact ⟨.inr Z, _, _, Z, Z, DLe.of_nrm Z⟩
            ·refine l (d := (ST (zad.enc p2))) Z <| ?_
             obtain ⟨r34, e35, h⟩ := bs h
             refine o (d := (B r34)) (ca (drayageref23xHas_eq e35) Z) Z <| o (d := (B (!r34))) (zbA Z Z Z Z) Z <| m Z <| ?_
             rcases bb (!r34) with g1 | g1
             ·rw [if_pos g1] at h
              refine TrQ.know (v := true) 116 Z g1 <| TrQ.skipG 30 Z <| pT Z Z <| m Z <| nl ⟨by kernel_rfl, ?_⟩
              exact ⟨true, h, .same (sS Z <| sZ)⟩
             ·rw [if_neg (zaH g1)] at h
              refine q (d := (.ptr 1 0 9)) (zaf Z) g1 Z <| lo (d := (I p1.Now)) g1 Z <| q (d := (.ptr 2 15 18)) (zaf Z) g1 Z <| lo (d := (I p2.Start)) g1 Z <| q (d := (.ptr 2 8 18)) (zaf Z) g1 Z <| lo (d := (I p2.Wall)) g1 Z <| q (d := (I (IntKind.i64.wrap (p2.Start + p2.Wall)))) (bo Z) g1 Z <| q (d := (B (decide (p1.Now < (IntKind.i64.wrap (p2.Start + p2.Wall)))))) (bo Z) g1 Z <| mo g1 Z <| ?_
              rcases bb (decide (p1.Now < (IntKind.i64.wrap (p2.Start + p2.Wall)))) with g2 | g2
              ·rw [if_pos g2] at h
               refine q (d := (.ptr 1 4 9)) (zaf Z) g2 Z <| lo (d := (SL zai.enc p1.Allocs)) g2 Z <| mo g2 Z <| ?_
               obtain ⟨a36, e37, h⟩ := bs h
               refine q (zaF Z Z e37 Z) g2 Z <| q (d := (.c (.fptr (zai.enc a36) 1))) (zau Z) g2 Z <| q (d := (ST (zac.enc a36.Need))) (zal Z Z) g2 Z <| q (d := (.ptr 2 4 18)) (zaf Z) g2 Z <| lo (d := (ST (zac.enc p2.Need))) g2 Z <| q (d := (B (decide (a36.Need = p2.Need)))) (api_Res_eql Z Z) g2 Z <| q (zeT Z g2 Z) g1 Z <| mo g1 Z <| ?_
               rcases bb (decide (a36.Need = p2.Need)) with g3 | g3
               ·rw [if_pos g3] at h
                refine lo (d := (ST (zab.enc p0))) g3 Z <| lo (d := (ST (zad.enc p2))) g3 Z <| q (d := (.ptr 1 4 9)) (zaf Z) g3 Z <| lo (d := (SL zai.enc p1.Allocs)) g3 Z <| mo g3 Z <| ?_
                obtain ⟨a38, e39, h⟩ := bs h
                refine q (zaF Z Z e39 Z) g3 Z <| q (d := (.c (.fptr (zai.enc a38) 5))) (zau Z) g3 Z <| q (d := (SL zak.enc a38.Shares)) (zal Z Z) g3 Z <| ?_
                obtain ⟨r40, e41, h⟩ := bs h
                refine q (d := (B r40)) (ca (drayageref23xMine_eq e41) Z) g3 Z <| q (zeT Z g3 Z) g1 Z <| pF g1 Z <| m Z <| nl ⟨by kernel_rfl, ?_⟩
                exact ⟨r40, h, .same (sS Z <| sZ)⟩
               ·rw [if_neg (zaH g3)] at h
                refine TrQ.know (v := false) 136 Z g3 <| TrQ.skipG 9 Z <| q (ze7 Z Z Z) g1 Z <| pF g1 Z <| m Z <| nl ⟨by kernel_rfl, ?_⟩
                exact ⟨false, h, .same (sS Z <| sZ)⟩
              ·rw [if_neg (zaH g2)] at h
               refine TrQ.know (v := false) 125 Z g2 <| TrQ.skipG 9 Z <| q (ze7 Z Z Z) g1 Z <| mo g1 Z <| TrQ.skipG 9 Z <| q (ze7 Z Z Z) g1 Z <| pF g1 Z <| m Z <| nl ⟨by kernel_rfl, ?_⟩
               exact ⟨false, h, .same (sS Z <| sZ)⟩
       ·refine o (d := (.ptr 2 13 18)) (zaf Z) Z <| l (d := (I p2.Version)) Z <| o (d := (.ptr 0 12 18)) (zaf Z) Z <| l (d := (I p0.Versions)) Z <| m Z <| o (d := (I (IntKind.i64.wrap (p0.Versions + x7)))) (bo Z) Z <| o (d := (B (decide (p2.Version > (IntKind.i64.wrap (p0.Versions + x7)))))) (bo Z) Z <| m Z <| ?_
        rcases bb (decide (p2.Version > (IntKind.i64.wrap (p0.Versions + x7)))) with g4 | g4
        ·rw [if_pos g4] at h
         refine TrQ.know (v := true) 77 Z g4 <| TrQ.skipG 5 Z <| pT Z Z <| nl ?_
         exact ⟨true, h, .same (sS Z <| sS Z <| sS Z <| sS Z <| sS Z <| sZ)⟩
        ·rw [if_neg (zaH g4)] at h
         refine mo g4 Z <| q (d := (B (decide (r8 ≥ 0)))) (bo Z) g4 Z <| lo (d := (ST (zad.enc p2))) g4 Z <| ?_
         obtain ⟨r42, e43, h⟩ := bs h
         refine q (d := (B r42)) (ca (drayageref23xHas_eq e43) Z) g4 Z <| q (d := (B (!((decide (r8 ≥ 0)) == r42)))) (op_bin Z Z Z Z (bin_neqB Tryd.underlying4) Z) g4 Z <| pF g4 Z <| nl ?_
         exact ⟨(!((decide (r8 ≥ 0)) == r42)), h, .same (sS Z <| sS Z <| sS Z <| sS Z <| sS Z <| sZ)⟩
      ·refine sq <| rq O <| o (d := (.ptr 2 10 18)) (zaf Z) Z <| l (d := (I p2.State)) Z <| o (d := (B (decide (p2.State ≥ 5)))) (bo Z) Z <| nl <| nx <| Sem.cond Z (fun c44 => ?_) (fun c44 => ?_)
       ·rw [if_pos c44] at h
        refine rq O <| m Z <| nl ?_
        exact ⟨3, h, .same (sS Z <| sS Z <| sS Z <| sS Z <| sZ)⟩
       ·rw [if_neg (zaH c44)] at h
        refine Sem.skip mix ?_
        exact ⟨x6, h, .same (sS Z <| sS Z <| sS Z <| sS Z <| sZ)⟩
     ·refine sq <| rq O <| o (d := (.ptr 2 10 18)) (zaf Z) Z <| l (d := (I p2.State)) Z <| o (d := (B (p2.State == 4))) (bo Z) Z <| nl <| nx <| Sem.cond Z (fun c45 => ?_) (fun c45 => ?_)
      ·rw [if_pos c45] at h
       refine rq O <| m Z <| nl ?_
       exact ⟨2, h, .same (sS Z <| sS Z <| sS Z <| sS Z <| sZ)⟩
      ·rw [if_neg (zaH c45)] at h
       refine Sem.skip mix ?_
       exact ⟨x5, h, .same (sS Z <| sS Z <| sS Z <| sS Z <| sZ)⟩
    ·refine sq <| rq O <| o (d := (.ptr 2 10 18)) (zaf Z) Z <| l (d := (I p2.State)) Z <| o (d := (B (p2.State == 3))) (bo Z) Z <| nl <| nx <| Sem.cond Z (fun c46 => ?_) (fun c46 => ?_)
     ·rw [if_pos c46] at h
      refine rq O <| m Z <| nl ?_
      exact ⟨1, h, .same (sS Z <| sS Z <| sS Z <| sS Z <| sZ)⟩
     ·rw [if_neg (zaH c46)] at h
      refine Sem.skip mix ?_
      exact ⟨0, h, .same (sS Z <| sS Z <| sS Z <| sS Z <| sZ)⟩
  ·refine l (d := (ST (zad.enc p2))) Z <| ?_
   obtain ⟨r47, e48, h⟩ := bs h
   refine o (d := (B r47)) (ca (drayageref16xRight_eq e48) Z) Z <| o (d := (B (!r47))) (zbA Z Z Z Z) Z <| m Z <| ?_
   rcases bb (!r47) with g5 | g5
   ·rw [if_pos g5] at h
    refine TrQ.know (v := true) 13 Z g5 <| TrQ.skipG 5 Z <| pT Z Z <| m Z <| TrQ.skipG 5 Z <| pT Z Z <| m Z <| TrQ.skipG 6 Z <| pT Z Z <| m Z <| TrQ.skipG 5 Z <| pT Z Z <| m Z <| TrQ.skipG 5 Z <| pT Z Z <| m Z <| TrQ.skipG 5 Z <| pT Z Z <| nl ?_
    exact ⟨true, h, .same (sS Z <| sS Z <| sS Z <| sS Z <| sZ)⟩
   ·rw [if_neg (zaH g5)] at h
    refine q (d := (.ptr 2 0 18)) (zaf Z) g5 Z <| lo (d := (I p2.Id)) g5 Z <| q (d := (.ptr 1 1 9)) (zaf Z) g5 Z <| lo (d := (I p1.Next)) g5 Z <| q (d := (B (decide (p2.Id ≥ p1.Next)))) (bo Z) g5 Z <| pF g5 Z <| m Z <| ?_
    rcases bb (decide (p2.Id ≥ p1.Next)) with g6 | g6
    ·rw [if_pos g6] at h
     refine TrQ.know (v := true) 20 Z g6 <| TrQ.skipG 5 Z <| pT Z Z <| m Z <| TrQ.skipG 6 Z <| pT Z Z <| m Z <| TrQ.skipG 5 Z <| pT Z Z <| m Z <| TrQ.skipG 5 Z <| pT Z Z <| m Z <| TrQ.skipG 5 Z <| pT Z Z <| nl ?_
     exact ⟨true, h, .same (sS Z <| sS Z <| sS Z <| sS Z <| sZ)⟩
    ·rw [if_neg (zaH g6)] at h
     refine q (d := (.ptr 2 1 18)) (zaf Z) g6 Z <| lo (d := (I p2.User)) g6 Z <| q (d := (.ptr 0 3 18)) (zaf Z) g6 Z <| lo (d := (I p0.Users)) g6 Z <| q (d := (B (decide (p2.User ≥ p0.Users)))) (bo Z) g6 Z <| pF g6 Z <| m Z <| ?_
     rcases bb (decide (p2.User ≥ p0.Users)) with g7 | g7
     ·rw [if_pos g7] at h
      refine TrQ.know (v := true) 27 Z g7 <| TrQ.skipG 6 Z <| pT Z Z <| m Z <| TrQ.skipG 5 Z <| pT Z Z <| m Z <| TrQ.skipG 5 Z <| pT Z Z <| m Z <| TrQ.skipG 5 Z <| pT Z Z <| nl ?_
      exact ⟨true, h, .same (sS Z <| sS Z <| sS Z <| sS Z <| sZ)⟩
     ·rw [if_neg (zaH g7)] at h
      refine q (d := (.ptr 2 2 18)) (zaf Z) g7 Z <| lo (d := (I p2.Queue)) g7 Z <| q (d := (.ptr 0 2 18)) (zaf Z) g7 Z <| lo (d := (SL zaq.enc p0.Queues)) g7 Z <| q (d := (I (p0.Queues.length : Int))) (zaA Z) g7 Z <| q (d := (B (decide (p2.Queue ≥ (p0.Queues.length : Int))))) (bo Z) g7 Z <| pF g7 Z <| m Z <| ?_
      rcases bb (decide (p2.Queue ≥ (p0.Queues.length : Int))) with g8 | g8
      ·rw [if_pos g8] at h
       refine TrQ.know (v := true) 35 Z g8 <| TrQ.skipG 5 Z <| pT Z Z <| m Z <| TrQ.skipG 5 Z <| pT Z Z <| m Z <| TrQ.skipG 5 Z <| pT Z Z <| nl ?_
       exact ⟨true, h, .same (sS Z <| sS Z <| sS Z <| sS Z <| sZ)⟩
      ·rw [if_neg (zaH g8)] at h
       refine q (d := (.ptr 2 14 18)) (zaf Z) g8 Z <| lo (d := (I p2.Born)) g8 Z <| q (d := (.ptr 1 0 9)) (zaf Z) g8 Z <| lo (d := (I p1.Now)) g8 Z <| q (d := (B (decide (p2.Born > p1.Now)))) (bo Z) g8 Z <| pF g8 Z <| m Z <| ?_
       rcases bb (decide (p2.Born > p1.Now)) with g9 | g9
       ·rw [if_pos g9] at h
        refine TrQ.know (v := true) 42 Z g9 <| TrQ.skipG 5 Z <| pT Z Z <| m Z <| TrQ.skipG 5 Z <| pT Z Z <| nl ?_
        exact ⟨true, h, .same (sS Z <| sS Z <| sS Z <| sS Z <| sZ)⟩
       ·rw [if_neg (zaH g9)] at h
        refine q (d := (.ptr 2 15 18)) (zaf Z) g9 Z <| lo (d := (I p2.Start)) g9 Z <| q (d := (.ptr 1 0 9)) (zaf Z) g9 Z <| lo (d := (I p1.Now)) g9 Z <| q (d := (B (decide (p2.Start > p1.Now)))) (bo Z) g9 Z <| pF g9 Z <| m Z <| ?_
        rcases bb (decide (p2.Start > p1.Now)) with g10 | g10
        ·rw [if_pos g10] at h
         refine TrQ.know (v := true) 49 Z g10 <| TrQ.skipG 5 Z <| pT Z Z <| nl ?_
         exact ⟨true, h, .same (sS Z <| sS Z <| sS Z <| sS Z <| sZ)⟩
        ·rw [if_neg (zaH g10)] at h
         refine q (d := (.ptr 2 16 18)) (zaf Z) g10 Z <| lo (d := (I p2.End)) g10 Z <| q (d := (.ptr 1 0 9)) (zaf Z) g10 Z <| lo (d := (I p1.Now)) g10 Z <| q (d := (B (decide (p2.End > p1.Now)))) (bo Z) g10 Z <| pF g10 Z <| nl ?_
         exact ⟨(decide (p2.End > p1.Now)), h, .same (sS Z <| sS Z <| sS Z <| sS Z <| sZ)⟩
noncomputable def F19 (N : Nat) : List D → Option D := spec (A := zab × zag × zad) (R := Bool) (fun a => [(ST (zab.enc a.1)), (ST (zag.enc a.2.1)), (ST (zad.enc a.2.2))]) (fun r => (B r)) (fun a => zea N a.1 a.2.1 a.2.2)
theorem K19 (N : Nat) : ∀ ds r, F19 N ds = some r → za9 Tryd.prog 19 ds r := zav fun a r h => drayageref23xjob_ok N a.1 a.2.1 a.2.2 r h
theorem drayageref23xjob_eq {N : Nat} {p0 : zab} {p1 : zag} {p2 : zad} {r : Bool} (h : zea N p0 p1 p2 = some r) : F19 N [(ST (zab.enc p0)), (ST (zag.enc p1)), (ST (zad.enc p2))] = some (B r) := zaw (a := (p0, p1, p2)) (ij3 (zbx zab.inj) (zbx zag.inj) (zbx zad.inj)) h
noncomputable def S6 (N : Nat) : za1 := [(14, F14 N), (15, F15 N), (16, F16 N), (17, F17 N), (18, F18 N), (19, F19 N)]
theorem O6 (N : Nat) : zaO Tryd.prog (zat (S6 N)) := zap (zaj.cons (K14 N) <| zaj.cons (K15 N) <| zaj.cons (K16 N) <| zaj.cons (K17 N) <| zaj.cons (K18 N) <| zaj.cons (K19 N) <| zaj.nil)
theorem drayageref23xSound_ok (N : Nat) (p0 : zab) (p1 : zag) (r : Bool) (h : zc4 N p0 p1 = some r) : za9 Tryd.prog 6 [(ST (zab.enc p0)), (ST (zag.enc p1))] (B r) := by
  have O := And.intro mix (O6 N)
  refine zan Tryd.func6 (by kernel_rfl) C6 (bl Z) ?_
  unfold zc4 at h
  unfold A6
  dsimp only [zbc]
  refine sq <| rq O <| o (d := (.ptr 0 0 18)) (σ1 := [cm (zab.enc p0)]) (zba Z Z Z Z) Z <| o (d := (.ptr 1 0 9)) (σ1 := [cm (zab.enc p0), cm (zag.enc p1)]) (zba Z Z Z Z) Z <| m Z <| nl <| nx <| sq <| Sem.join (fun (x5 : Bool) => [(2, (.ptr 0 0 18)), (3, (.ptr 1 0 9)), (43, (B x5))]) (fun (x5 : Bool) => [cm (zab.enc p0), cm (zag.enc p1)]) (fun (x5 : Bool) => zaK N p0 p1 x5 = some r) ?_ (rq O ?_)
  ·intro x5 h
   try dsimp only at h ⊢
   unfold zaK at h
   refine Sem.cond Z (fun c6 => ?_) (fun c6 => ?_)
   ·rw [if_pos c6] at h
    refine sq <| rq O <| m Z <| nl <| nx <| Sem.ret mix ?_
    cases h
    exact ⟨.inr Z, _, _, Z, Z, DLe.of_nrm Z⟩
   ·rw [if_neg (zaH c6)] at h
    refine Sem.skip mix <| nx <| sq <| Sem.join (fun (x15 : Bool) => [(2, (.ptr 0 0 18)), (3, (.ptr 1 0 9)), (86, (B x15))]) (fun (x15 : Bool) => [cm (zab.enc p0), cm (zag.enc p1)]) (fun (x15 : Bool) => zaR N p0 p1 x15 = some r) ?_ (rq O ?_)
    ·intro x15 h
     try dsimp only at h ⊢
     unfold zaR at h
     refine Sem.cond Z (fun c16 => ?_) (fun c16 => ?_)
     ·rw [if_pos c16] at h
      refine sq <| rq O <| m Z <| nl <| nx <| Sem.ret mix ?_
      cases h
      exact ⟨.inr Z, _, _, Z, Z, DLe.of_nrm Z⟩
     ·rw [if_neg (zaH c16)] at h
      refine Sem.skip mix <| nx <| sq <| sq <| rq O <| m Z <| nl <| nx <| Sem.block <| Sem.rounds (V := Int) (fun (x17 : Int) => [(2, (.ptr 0 0 18)), (3, (.ptr 1 0 9)), (5, (I x17))]) (fun (x17 : Int) => [cm (zab.enc p0), cm (zag.enc p1)]) (fun k v => zcg N p0 p1 k v = some r) N 0 h (fun v h => by unfold zcg at h; cases h) ?_ (sS Z <| sS Z <| sS Z <| sZ) Z
      intro kL2 x17 h
      try dsimp only at h ⊢
      unfold zcg at h
      unfold A6xl0
      refine sq <| sq <| rq O <| m Z <| o (d := (.ptr 1 7 9)) (zaf Z) Z <| o (d := (.ptr 1 7 9)) (zaf Z) Z <| l (d := (SL zah p1.Stamps.Queues)) Z <| o (d := (I (p1.Stamps.Queues.length : Int))) (zaA Z) Z <| o (d := (B (decide (x17 < (p1.Stamps.Queues.length : Int))))) (bo Z) Z <| nl <| nx <| Sem.cond Z (fun c18 => ?_) (fun c18 => ?_)
      ·rw [if_pos c18] at h
       refine Sem.skip mix <| nx <| sq <| Sem.block <| sq <| rq O <| o (d := (.ptr 1 7 9)) (zaf Z) Z <| o (d := (.ptr 1 7 9)) (zaf Z) Z <| l (d := (SL zah p1.Stamps.Queues)) Z <| m Z <| ?_
       obtain ⟨a19, e20, h⟩ := bs h
       refine o (zaF Z Z e20 Z) Z <| o (d := (I a19)) (zal Z Z) Z <| ?_
       obtain ⟨r21, e22, h⟩ := bs h
       refine o (d := (B r21)) (ca (zeI e22) Z) Z <| o (d := (B (!r21))) (zbA Z Z Z Z) Z <| nl <| nx <| Sem.cond Z (fun c23 => ?_) (fun c23 => ?_)
       ·rw [if_pos c23] at h
        refine sq <| rq O <| m Z <| nl <| nx <| Sem.ret mix <| nx <| nx <| nx ?_
        cases h
        exact ⟨.inr Z, _, _, Z, Z, DLe.of_nrm Z⟩
       ·rw [if_neg (zaH c23)] at h
        refine Sem.skip mix <| nx <| nx <| rq O <| m Z <| o (d := (I (IntKind.i64.wrap (x17 + 1)))) (bo Z) Z <| m Z <| nl ?_
        exact ⟨(IntKind.i64.wrap (x17 + 1)), h, .same (sS Z <| sS Z <| sS Z <| sZ)⟩
      ·rw [if_neg (zaH c18)] at h
       refine Sem.exit mix <| nx <| ⟨_, _, .refl, fun _ => ?_, fun hh => absurd Z hh⟩
       refine nx <| sq <| sq <| rq O <| m Z <| nl <| nx <| Sem.block <| Sem.rounds (V := Int) (fun (x24 : Int) => [(2, (.ptr 0 0 18)), (3, (.ptr 1 0 9)), (6, (I x24))]) (fun (x24 : Int) => [cm (zab.enc p0), cm (zag.enc p1)]) (fun k v => za8 N p0 p1 k v = some r) N 0 h (fun v h => by unfold za8 at h; cases h) ?_ (sS Z <| sS Z <| sS Z <| sZ) Z
       intro kL3 x24 h
       try dsimp only at h ⊢
       unfold za8 at h
       unfold A6xl1
       refine sq <| sq <| rq O <| m Z <| o (d := (.ptr 1 3 9)) (zaf Z) Z <| l (d := (SL zad.enc p1.Jobs)) Z <| o (d := (I (p1.Jobs.length : Int))) (zaA Z) Z <| o (d := (B (decide (x24 < (p1.Jobs.length : Int))))) (bo Z) Z <| nl <| nx <| Sem.cond Z (fun c25 => ?_) (fun c25 => ?_)
       ·rw [if_pos c25] at h
        refine Sem.skip mix <| nx <| sq <| Sem.block <| Sem.join (fun (x34 : Bool) => [(2, (.ptr 0 0 18)), (3, (.ptr 1 0 9)), (6, (I x24)), (138, (B x34))]) (fun (x34 : Bool) => [cm (zab.enc p0), cm (zag.enc p1)]) (fun (x34 : Bool) => zbS N x24 (za8 N p0 p1 kL3) x34 = some r) ?_ (dq O ?_)
        ·intro x34 h
         try dsimp only at h ⊢
         unfold zbS at h
         refine Sem.cond Z (fun c35 => ?_) (fun c35 => ?_)
         ·rw [if_pos c35] at h
          refine sq <| rq O <| m Z <| nl <| nx <| Sem.ret mix <| nx <| nx <| nx ?_
          cases h
          exact ⟨.inr Z, _, _, Z, Z, DLe.of_nrm Z⟩
         ·rw [if_neg (zaH c35)] at h
          refine Sem.skip mix <| nx <| nx <| rq O <| m Z <| o (d := (I (IntKind.i64.wrap (x24 + 1)))) (bo Z) Z <| m Z <| nl ?_
          exact ⟨(IntKind.i64.wrap (x24 + 1)), h, .same (sS Z <| sS Z <| sS Z <| sZ)⟩
        ·refine l (d := (ST (zab.enc p0))) Z <| l (d := (ST (zag.enc p1))) Z <| o (d := (.ptr 1 3 9)) (zaf Z) Z <| l (d := (SL zad.enc p1.Jobs)) Z <| m Z <| ?_
         obtain ⟨a36, e37, h⟩ := bs h
         refine o (zaF Z Z e37 Z) Z <| o (d := (ST (zad.enc a36))) (zal Z Z) Z <| ?_
         obtain ⟨r38, e39, h⟩ := bs h
         refine o (d := (B r38)) (ca (drayageref23xjob_eq e39) Z) Z <| o (d := (B (!r38))) (zbA Z Z Z Z) Z <| m Z <| ?_
         rcases bb (!r38) with g3 | g3
         ·rw [if_pos g3] at h
          refine TrQ.know (v := true) 119 Z g3 <| TrQ.skipG 18 Z <| pT Z Z <| nl ⟨by kernel_rfl, ?_⟩
          exact ⟨true, h, .same (sS Z <| sS Z <| sS Z <| sS Z <| sZ)⟩
         ·rw [if_neg (zaH g3)] at h
          refine mo g3 Z <| q (d := (B (decide (x24 > 0)))) (bo Z) g3 Z <| mo g3 Z <| ?_
          rcases bb (decide (x24 > 0)) with g4 | g4
          ·rw [if_pos g4] at h
           refine q (d := (.ptr 1 3 9)) (zaf Z) g4 Z <| lo (d := (SL zad.enc p1.Jobs)) g4 Z <| mo g4 Z <| q (d := (I (IntKind.i64.wrap (x24 - 1)))) (bo Z) g4 Z <| ?_
           obtain ⟨a40, e41, h⟩ := bs h
           refine q (zaF Z Z e41 Z) g4 Z <| q (d := (.c (.fptr (zad.enc a40) 0))) (zau Z) g4 Z <| q (d := (I a40.Id)) (zal Z Z) g4 Z <| q (d := (.ptr 1 3 9)) (zaf Z) g4 Z <| lo (d := (SL zad.enc p1.Jobs)) g4 Z <| mo g4 Z <| ?_
           obtain ⟨a42, e43, h⟩ := bs h
           refine q (zaF Z Z e43 Z) g4 Z <| q (d := (.c (.fptr (zad.enc a42) 0))) (zau Z) g4 Z <| q (d := (I a42.Id)) (zal Z Z) g4 Z <| q (d := (B (decide (a40.Id ≥ a42.Id)))) (bo Z) g4 Z <| q (zeT Z g4 Z) g3 Z <| pF g3 Z <| nl ⟨by kernel_rfl, ?_⟩
           exact ⟨(decide (a40.Id ≥ a42.Id)), h, .same (sS Z <| sS Z <| sS Z <| sS Z <| sZ)⟩
          ·rw [if_neg (zaH g4)] at h
           refine TrQ.know (v := false) 122 Z g4 <| TrQ.skipG 14 Z <| q (ze7 Z Z Z) g3 Z <| pF g3 Z <| nl ⟨by kernel_rfl, ?_⟩
           exact ⟨false, h, .same (sS Z <| sS Z <| sS Z <| sS Z <| sZ)⟩
       ·rw [if_neg (zaH c25)] at h
        refine Sem.exit mix <| nx <| ⟨_, _, .refl, fun _ => ?_, fun hh => absurd Z hh⟩
        refine nx <| sq <| rq O <| m Z <| nl <| nx <| Sem.ret mix ?_
        cases h
        exact ⟨.inr Z, _, _, Z, Z, DLe.of_nrm Z⟩
    ·refine o (d := (.ptr 1 3 9)) (zaf Z) Z <| l (d := (SL zad.enc p1.Jobs)) Z <| o (d := (I (p1.Jobs.length : Int))) (zaA Z) Z <| o (d := (.ptr 0 10 18)) (zaf Z) Z <| l (d := (I p0.Jobs)) Z <| o (d := (B (decide ((p1.Jobs.length : Int) > p0.Jobs)))) (bo Z) Z <| m Z <| ?_
     rcases bb (decide ((p1.Jobs.length : Int) > p0.Jobs)) with g5 | g5
     ·rw [if_pos g5] at h
      refine TrQ.know (v := true) 50 Z g5 <| TrQ.skipG 4 Z <| pT Z Z <| m Z <| TrQ.skipG 4 Z <| pT Z Z <| m Z <| TrQ.skipG 6 Z <| pT Z Z <| m Z <| TrQ.skipG 8 Z <| pT Z Z <| m Z <| TrQ.skipG 5 Z <| pT Z Z <| nl ?_
      exact ⟨true, h, .same (sS Z <| sS Z <| sS Z <| sZ)⟩
     ·rw [if_neg (zaH g5)] at h
      refine lo (d := (ST (zab.enc p0))) g5 Z <| lo (d := (ST (zag.enc p1))) g5 Z <| ?_
      obtain ⟨r44, e45, h⟩ := bs h
      refine q (d := (B r44)) (ca (drayageref23xallocs_eq e45) Z) g5 Z <| q (d := (B (!r44))) (zbA Z Z Z Z) g5 Z <| pF g5 Z <| m Z <| ?_
      rcases bb (!r44) with g6 | g6
      ·rw [if_pos g6] at h
       refine TrQ.know (v := true) 56 Z g6 <| TrQ.skipG 4 Z <| pT Z Z <| m Z <| TrQ.skipG 6 Z <| pT Z Z <| m Z <| TrQ.skipG 8 Z <| pT Z Z <| m Z <| TrQ.skipG 5 Z <| pT Z Z <| nl ?_
       exact ⟨true, h, .same (sS Z <| sS Z <| sS Z <| sZ)⟩
      ·rw [if_neg (zaH g6)] at h
       refine lo (d := (ST (zab.enc p0))) g6 Z <| lo (d := (ST (zag.enc p1))) g6 Z <| ?_
       obtain ⟨r46, e47, h⟩ := bs h
       refine q (d := (B r46)) (ca (drayageref23xbooks_eq e47) Z) g6 Z <| q (d := (B (!r46))) (zbA Z Z Z Z) g6 Z <| pF g6 Z <| m Z <| ?_
       rcases bb (!r46) with g7 | g7
       ·rw [if_pos g7] at h
        refine TrQ.know (v := true) 62 Z g7 <| TrQ.skipG 6 Z <| pT Z Z <| m Z <| TrQ.skipG 8 Z <| pT Z Z <| m Z <| TrQ.skipG 5 Z <| pT Z Z <| nl ?_
        exact ⟨true, h, .same (sS Z <| sS Z <| sS Z <| sZ)⟩
       ·rw [if_neg (zaH g7)] at h
        refine q (d := (.ptr 1 6 9)) (zaf Z) g7 Z <| lo (d := (SL zah p1.Use)) g7 Z <| q (d := (.ptr 0 3 18)) (zaf Z) g7 Z <| lo (d := (I p0.Users)) g7 Z <| ?_
        obtain ⟨r48, e49, h⟩ := bs h
        refine q (d := (B r48)) (ca (drayageref23xUse_eq e49) Z) g7 Z <| q (d := (B (!r48))) (zbA Z Z Z Z) g7 Z <| pF g7 Z <| m Z <| ?_
        rcases bb (!r48) with g8 | g8
        ·rw [if_pos g8] at h
         refine TrQ.know (v := true) 70 Z g8 <| TrQ.skipG 8 Z <| pT Z Z <| m Z <| TrQ.skipG 5 Z <| pT Z Z <| nl ?_
         exact ⟨true, h, .same (sS Z <| sS Z <| sS Z <| sZ)⟩
        ·rw [if_neg (zaH g8)] at h
         refine q (d := (.ptr 1 7 9)) (zaf Z) g8 Z <| q (d := (.ptr 1 7 9)) (zaf Z) g8 Z <| lo (d := (SL zah p1.Stamps.Queues)) g8 Z <| q (d := (I (p1.Stamps.Queues.length : Int))) (zaA Z) g8 Z <| q (d := (.ptr 0 2 18)) (zaf Z) g8 Z <| lo (d := (SL zaq.enc p0.Queues)) g8 Z <| q (d := (I (p0.Queues.length : Int))) (zaA Z) g8 Z <| q (d := (B ((p1.Stamps.Queues.length : Int) != (p0.Queues.length : Int)))) (bo Z) g8 Z <| pF g8 Z <| m Z <| ?_
         rcases bb ((p1.Stamps.Queues.length : Int) != (p0.Queues.length : Int)) with g9 | g9
         ·rw [if_pos g9] at h
          refine TrQ.know (v := true) 80 Z g9 <| TrQ.skipG 5 Z <| pT Z Z <| nl ?_
          exact ⟨true, h, .same (sS Z <| sS Z <| sS Z <| sZ)⟩
         ·rw [if_neg (zaH g9)] at h
          refine q (d := (.ptr 1 7 9)) (zaf Z) g9 Z <| q (d := (.ptr 1 8 9)) (zaf Z) g9 Z <| lo (d := (I p1.Stamps.Nodes)) g9 Z <| ?_
          obtain ⟨r50, e51, h⟩ := bs h
          refine q (d := (B r50)) (ca (zeI e51) Z) g9 Z <| q (d := (B (!r50))) (zbA Z Z Z Z) g9 Z <| pF g9 Z <| nl ?_
          exact ⟨(!r50), h, .same (sS Z <| sS Z <| sS Z <| sZ)⟩
  ·refine l (d := (ST (zab.enc p0))) Z <| ?_
   obtain ⟨r52, e53, h⟩ := bs h
   refine o (d := (B r52)) (ca (drayageref07xRight_eq e53) Z) Z <| o (d := (B (!r52))) (zbA Z Z Z Z) Z <| m Z <| ?_
   rcases bb (!r52) with g10 | g10
   ·rw [if_pos g10] at h
    refine TrQ.know (v := true) 10 Z g10 <| TrQ.skipG 3 Z <| pT Z Z <| m Z <| TrQ.skipG 3 Z <| pT Z Z <| m Z <| TrQ.skipG 3 Z <| pT Z Z <| m Z <| TrQ.skipG 6 Z <| pT Z Z <| m Z <| TrQ.skipG 3 Z <| pT Z Z <| m Z <| TrQ.skipG 4 Z <| pT Z Z <| nl ?_
    exact ⟨true, h, .same (sS Z <| sS Z <| sS Z <| sZ)⟩
   ·rw [if_neg (zaH g10)] at h
    refine q (d := (.ptr 1 0 9)) (zaf Z) g10 Z <| lo (d := (I p1.Now)) g10 Z <| q (d := (B (decide (p1.Now < 0)))) (bo Z) g10 Z <| pF g10 Z <| m Z <| ?_
    rcases bb (decide (p1.Now < 0)) with g11 | g11
    ·rw [if_pos g11] at h
     refine TrQ.know (v := true) 15 Z g11 <| TrQ.skipG 3 Z <| pT Z Z <| m Z <| TrQ.skipG 3 Z <| pT Z Z <| m Z <| TrQ.skipG 6 Z <| pT Z Z <| m Z <| TrQ.skipG 3 Z <| pT Z Z <| m Z <| TrQ.skipG 4 Z <| pT Z Z <| nl ?_
     exact ⟨true, h, .same (sS Z <| sS Z <| sS Z <| sZ)⟩
    ·rw [if_neg (zaH g11)] at h
     refine q (d := (.ptr 1 0 9)) (zaf Z) g11 Z <| lo (d := (I p1.Now)) g11 Z <| q (d := (B (decide (p1.Now > 1099511627776)))) (bo Z) g11 Z <| pF g11 Z <| m Z <| ?_
     rcases bb (decide (p1.Now > 1099511627776)) with g12 | g12
     ·rw [if_pos g12] at h
      refine TrQ.know (v := true) 20 Z g12 <| TrQ.skipG 3 Z <| pT Z Z <| m Z <| TrQ.skipG 6 Z <| pT Z Z <| m Z <| TrQ.skipG 3 Z <| pT Z Z <| m Z <| TrQ.skipG 4 Z <| pT Z Z <| nl ?_
      exact ⟨true, h, .same (sS Z <| sS Z <| sS Z <| sZ)⟩
     ·rw [if_neg (zaH g12)] at h
      refine q (d := (.ptr 1 1 9)) (zaf Z) g12 Z <| lo (d := (I p1.Next)) g12 Z <| q (d := (B (decide (p1.Next < 1)))) (bo Z) g12 Z <| pF g12 Z <| m Z <| ?_
      rcases bb (decide (p1.Next < 1)) with g13 | g13
      ·rw [if_pos g13] at h
       refine TrQ.know (v := true) 25 Z g13 <| TrQ.skipG 6 Z <| pT Z Z <| m Z <| TrQ.skipG 3 Z <| pT Z Z <| m Z <| TrQ.skipG 4 Z <| pT Z Z <| nl ?_
       exact ⟨true, h, .same (sS Z <| sS Z <| sS Z <| sZ)⟩
      ·rw [if_neg (zaH g13)] at h
       refine q (d := (.ptr 1 1 9)) (zaf Z) g13 Z <| lo (d := (I p1.Next)) g13 Z <| q (d := (.ptr 0 11 18)) (zaf Z) g13 Z <| lo (d := (I p0.Ids)) g13 Z <| q (d := (I (IntKind.i64.wrap (p0.Ids + 1)))) (bo Z) g13 Z <| q (d := (B (decide (p1.Next > (IntKind.i64.wrap (p0.Ids + 1)))))) (bo Z) g13 Z <| pF g13 Z <| m Z <| ?_
       rcases bb (decide (p1.Next > (IntKind.i64.wrap (p0.Ids + 1)))) with g14 | g14
       ·rw [if_pos g14] at h
        refine TrQ.know (v := true) 33 Z g14 <| TrQ.skipG 3 Z <| pT Z Z <| m Z <| TrQ.skipG 4 Z <| pT Z Z <| nl ?_
        exact ⟨true, h, .same (sS Z <| sS Z <| sS Z <| sZ)⟩
       ·rw [if_neg (zaH g14)] at h
        refine q (d := (.ptr 1 2 9)) (zaf Z) g14 Z <| lo (d := (I p1.Book)) g14 Z <| q (d := (B (decide (p1.Book < 1)))) (bo Z) g14 Z <| pF g14 Z <| m Z <| ?_
        rcases bb (decide (p1.Book < 1)) with g15 | g15
        ·rw [if_pos g15] at h
         refine TrQ.know (v := true) 38 Z g15 <| TrQ.skipG 4 Z <| pT Z Z <| nl ?_
         exact ⟨true, h, .same (sS Z <| sS Z <| sS Z <| sZ)⟩
        ·rw [if_neg (zaH g15)] at h
         refine q (d := (.ptr 1 2 9)) (zaf Z) g15 Z <| lo (d := (I p1.Book)) g15 Z <| ?_
         obtain ⟨r54, e55, h⟩ := bs h
         refine q (d := (B r54)) (ca (zeI e55) Z) g15 Z <| q (d := (B (!r54))) (zbA Z Z Z Z) g15 Z <| pF g15 Z <| nl ?_
         exact ⟨(!r54), h, .same (sS Z <| sS Z <| sS Z <| sZ)⟩
noncomputable def F6 (N : Nat) : List D → Option D := spec (A := zab × zag) (R := Bool) (fun a => [(ST (zab.enc a.1)), (ST (zag.enc a.2))]) (fun r => (B r)) (fun a => zc4 N a.1 a.2)
theorem K6 (N : Nat) : ∀ ds r, F6 N ds = some r → za9 Tryd.prog 6 ds r := zav fun a r h => drayageref23xSound_ok N a.1 a.2 r h
theorem drayageref23xSound_eq {N : Nat} {p0 : zab} {p1 : zag} {r : Bool} (h : zc4 N p0 p1 = some r) : F6 N [(ST (zab.enc p0)), (ST (zag.enc p1))] = some (B r) := zaw (a := (p0, p1)) (ij2 (zbx zab.inj) (zbx zag.inj)) h
noncomputable def S3 (N : Nat) : za1 := [(4, F4 N), (5, F5 N), (6, F6 N), (7, F7 N)]
theorem O3 (N : Nat) : zaO Tryd.prog (zat (S3 N)) := zap (zaj.cons (K4 N) <| zaj.cons (K5 N) <| zaj.cons (K6 N) <| zaj.cons (K7 N) <| zaj.nil)
theorem zfj (N : Nat) (p0 : zaC) (r : Bool) (h : zbW N p0 = some r) : za9 Tryd.prog 3 [(ST (zaC.enc p0))] (B r) := by
  have O := And.intro mix (O3 N)
  refine zan Tryd.func3 (by kernel_rfl) C3 (bl Z) ?_
  unfold zbW at h
  unfold A3
  dsimp only [zbc]
  refine sq <| rq O <| o (d := (.ptr 0 0 27)) (σ1 := [cm (zaC.enc p0)]) (zba Z Z Z Z) Z <| m Z <| nl <| nx <| sq <| sq <| rq O ?_
  obtain ⟨r1, e2, h⟩ := bs h
  refine o (d := (B r1)) (ca (drayagelaw46xawake_eq e2) Z) Z <| o (d := (B (!r1))) (zbA Z Z Z Z) Z <| nl <| nx <| Sem.cond Z (fun c3 => ?_) (fun c3 => ?_)
  ·rw [if_pos c3] at h
   refine sq <| rq O <| m Z <| nl <| nx <| Sem.ret mix ?_
   cases h
   exact ⟨.inr Z, _, _, Z, Z, DLe.of_nrm Z⟩
  ·rw [if_neg (zaH c3)] at h
   refine Sem.skip mix <| nx <| sq <| Sem.join (fun (x8 : Bool) => [(1, (.ptr 0 0 27)), (22, (B x8))]) (fun (x8 : Bool) => [cm (zaC.enc p0)]) (fun (x8 : Bool) => zbV N p0 x8 = some r) ?_ (rq O ?_)
   ·intro x8 h
    try dsimp only at h ⊢
    unfold zbV at h
    refine Sem.cond Z (fun c9 => ?_) (fun c9 => ?_)
    ·rw [if_pos c9] at h
     refine sq <| rq O <| m Z <| nl <| nx <| Sem.ret mix ?_
     cases h
     exact ⟨.inr Z, _, _, Z, Z, DLe.of_nrm Z⟩
    ·rw [if_neg (zaH c9)] at h
     refine Sem.skip mix <| nx <| sq <| rq O <| o (d := (.ptr 0 0 27)) (zaf Z) Z <| l (d := (ST (zab.enc p0.S))) Z <| o (d := (.ptr 0 18 27)) (zaf Z) Z <| l (d := (ST (zag.enc p0.St))) Z <| ?_
     obtain ⟨⟨r10, r11⟩, e12, h⟩ := bs h
     try dsimp only at h
     refine o (d := (.tup [(SL zae.enc r10), I r11])) (ca (audit_Check_eq e12) Z) Z <| m Z <| o (zbw Z Z) Z <| o (zbw Z Z) Z <| m Z <| m Z <| nl <| nx <| sq <| sq <| rq O <| m Z <| o (d := (I (r10.length : Int))) (zaA Z) Z <| m Z <| nl <| nx <| Sem.block <| Sem.rounds (V := Int) (fun (x13 : Int) => [(4, (I r11)), (31, (SL zae.enc r10)), (32, (I (r10.length : Int))), (33, (I x13))]) (fun (x13 : Int) => [cm (zaC.enc p0)]) (fun k v => zbi N r10 r11 k v = some r) N 0 h (fun v h => by unfold zbi at h; cases h) ?_ (sS Z <| sS Z <| sS Z <| sS Z <| sZ) Z
     intro kL1 x13 h
     try dsimp only at h ⊢
     unfold zbi at h
     unfold A3xl0
     refine sq <| rq O <| o (d := (B (decide (x13 < (r10.length : Int))))) (bo Z) Z <| nl <| nx <| sq <| Sem.cond Z (fun c14 => ?_) (fun c14 => ?_)
     ·rw [if_pos c14] at h
      refine Sem.skip mix <| nx <| sq <| Sem.block <| sq <| rq O ?_
      obtain ⟨a15, e16, h⟩ := bs h
      refine o (zaF Z Z e16 Z) Z <| o (d := (ST (zae.enc a15))) (zal Z Z) Z <| o (d := (.ptr 1 0 2)) (σ1 := [cm (zaC.enc p0), .cells [I 0, I 0]]) (zaG Z Z) Z <| st (σ1 := [cm (zaC.enc p0), cm (zae.enc a15)]) Z <| nl <| nx <| Sem.step [(4, (I r11)), (31, (SL zae.enc r10)), (32, (I (r10.length : Int))), (33, (I x13)), (44, (B ((a15.What != 6) && (a15.What != 7))))] [cm (zaC.enc p0), cm (zae.enc a15)] (rq O ?_) ?_
      ·refine o (d := (.ptr 1 0 2)) (zaf Z) Z <| l (d := (I a15.What)) Z <| o (d := (B (a15.What != 6))) (bo Z) Z <| m Z <| ?_
       rcases bb (a15.What != 6) with g2 | g2
       ·refine q (d := (.ptr 1 0 2)) (zaf Z) g2 Z <| lo (d := (I a15.What)) g2 Z <| q (d := (B (a15.What != 7))) (bo Z) g2 Z <| pT g2 Z <| nl ⟨rfl, .same (sS Z <| sS Z <| sS Z <| sS Z <| sE Z (by rw [g2]; rfl) <| sZ)⟩
       ·refine TrQ.know (v := false) 40 Z g2 <| TrQ.skipG 3 Z <| pF Z Z <| nl ⟨rfl, .same (sS Z <| sS Z <| sS Z <| sS Z <| sE Z (by rw [g2]; rfl) <| sZ)⟩
      ·refine Sem.cond Z (fun c17 => ?_) (fun c17 => ?_)
       ·rw [if_pos c17] at h
        refine sq <| rq O <| m Z <| nl <| nx <| Sem.ret mix <| nx <| nx <| nx ?_
        cases h
        exact ⟨.inr Z, _, _, Z, Z, DLe.of_nrm Z⟩
       ·rw [if_neg (zaH c17)] at h
        refine Sem.skip mix <| nx <| nx <| rq O <| o (d := (I (IntKind.i64.wrap (x13 + 1)))) (bo Z) Z <| m Z <| nl ?_
        exact ⟨(IntKind.i64.wrap (x13 + 1)), h, .cut 1 (bl Z) (bl Z) (sS Z <| sS Z <| sS Z <| sS Z <| sZ) Z Z⟩
     ·rw [if_neg (zaH c14)] at h
      refine Sem.exit mix <| nx <| ⟨_, _, .refl, fun _ => ?_, fun hh => absurd Z hh⟩
      refine nx <| sq <| rq O <| m Z <| o (d := (B (r11 == 0))) (bo Z) Z <| m Z <| nl <| nx <| Sem.ret mix ?_
      cases h
      exact ⟨.inr Z, _, _, Z, Z, DLe.of_nrm Z⟩
   ·refine o (d := (.ptr 0 0 27)) (zaf Z) Z <| l (d := (ST (zab.enc p0.S))) Z <| o (d := (.ptr 0 18 27)) (zaf Z) Z <| l (d := (ST (zag.enc p0.St))) Z <| ?_
    obtain ⟨r18, e19, h⟩ := bs h
    refine o (d := (B r18)) (ca (drayagelaw23xFew_eq e19) Z) Z <| o (d := (B (!r18))) (zbA Z Z Z Z) Z <| m Z <| ?_
    rcases bb (!r18) with g3 | g3
    ·rw [if_pos g3] at h
     refine TrQ.know (v := true) 15 Z g3 <| TrQ.skipG 6 Z <| pT Z Z <| nl ?_
     exact ⟨true, h, .same (sS Z <| sS Z <| sZ)⟩
    ·rw [if_neg (zaH g3)] at h
     refine q (d := (.ptr 0 0 27)) (zaf Z) g3 Z <| lo (d := (ST (zab.enc p0.S))) g3 Z <| q (d := (.ptr 0 18 27)) (zaf Z) g3 Z <| lo (d := (ST (zag.enc p0.St))) g3 Z <| ?_
     obtain ⟨r20, e21, h⟩ := bs h
     refine q (d := (B r20)) (ca (drayageref23xSound_eq e21) Z) g3 Z <| q (d := (B (!r20))) (zbA Z Z Z Z) g3 Z <| pF g3 Z <| nl ?_
     exact ⟨(!r20), h, .same (sS Z <| sS Z <| sZ)⟩
noncomputable def F3 (N : Nat) : List D → Option D := spec (A := zaC) (R := Bool) (fun a => [(ST (zaC.enc a))]) (fun r => (B r)) (fun a => zbW N a)
theorem K3 (N : Nat) : ∀ ds r, F3 N ds = some r → za9 Tryd.prog 3 ds r := zav fun a r h => zfj N a r h
theorem drayagelaw46xAuditSound_eq {N : Nat} {p0 : zaC} {r : Bool} (h : zbW N p0 = some r) : F3 N [(ST (zaC.enc p0))] = some (B r) := zaw (a := p0) (ij1 (zbx zaC.inj)) h
end Go.Abs
