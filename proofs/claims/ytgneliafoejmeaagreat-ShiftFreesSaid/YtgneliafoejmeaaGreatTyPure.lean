/- The program's functions of data, as Lean functions. -/
import Derived.Test.YtgneliafoejmeaaGreatTyTypes
set_option linter.all false
set_option maxRecDepth 100000
noncomputable section
namespace Go.Abs
variable [Gl]
def drayageref07xSmall (N:Nat):Option (zad):=
  some ({ Nodes:=([({ Cpu:=4,Mem:=8,Gpu:=0,Lic:=1 }:zaa),({ Cpu:=8,Mem:=8,Gpu:=1,Lic:=0 }:zaa)]:List zaa),Parts:=([([0,1]:List Int),([1]:List Int)]:List (List Int)),Queues:=([({ Part:=0,Users:=[],MaxJobs:=8,MaxRun:=4,MaxUser:=3,Qos:=1 }:zaJ),({ Part:=1,Users:=([0,1]:List Int),MaxJobs:=4,MaxRun:=2,MaxUser:=2,Qos:=5 }:zaJ)]:List zaJ),Users:=3,Weights:=({ Age:=1,Size:=2,Qos:=10,Share:=3 }:zbc),Decay:=4,Mode:=1,Jobs:=12,Ids:=100,Versions:=50,Linger:=5,Keep:=4,In:=3,Out:=6,Cache:=4 }:zad)
def vec_numbers (N:Nat) (p0:zaa):Option ((Int×Int×Int×Int)):=
  some (p0.Cpu,p0.Mem,p0.Gpu,p0.Lic)
def zbH (N:Nat) (p0:zaa):Option (Bool):=
  (vec_numbers N p0).bind fun r1=>
  lpX (fun f3 (x2:Int)=>
    if (decide (x2<4))=true then
      (at? [r1.1,r1.2.1,r1.2.2.1,r1.2.2.2] x2).bind fun a4=>
      if ((decide (a4<0)) || (decide (a4 > 1048576)))=true then
        some false
      else
        f3 (IntKind.i64.wrap (x2+1))
    else
      some true) N 0
def spec_nodesRight (N:Nat) (p0:zad):Option (Bool):=
  if ((decide ((p0.Nodes.length:Int)<1)) || (decide ((p0.Nodes.length:Int) > 16)))=true then
    some false
  else
    lpX (fun f2 (x1:Int)=>
      if (decide (x1<(p0.Nodes.length:Int)))=true then
        (at? p0.Nodes x1).bind fun a3=>
        (zbH N a3).bind fun r4=>
        if (!r4)=true then
          some false
        else
          f2 (IntKind.i64.wrap (x1+1))
      else
        some true) N 0
def zdz (N:Nat) (p0:(List Int)) (p1:Int):Option (Bool):=
  lpX (fun f2 (x1:Int×Int)=>
    if (decide (x1.2<(p0.length:Int)))=true then
      (at? p0 x1.2).bind fun a3=>
      if ((decide (a3≤x1.1)) || (decide (a3≥p1)))=true then
        some false
      else
        f2 (a3,(IntKind.i64.wrap (x1.2+1)))
    else
      some true) N ((-1),0)
def spec_partsRight (N:Nat) (p0:zad):Option (Bool):=
  if ((decide ((p0.Parts.length:Int)<1)) || (decide ((p0.Parts.length:Int) > 8)))=true then
    some false
  else
    lpX (fun f2 (x1:Int)=>
      if (decide (x1<(p0.Parts.length:Int)))=true then
        (at? p0.Parts x1).bind fun a3=>
        jn (fun (x4:Bool)=>
          if x4=true then
            some false
          else
            f2 (IntKind.i64.wrap (x1+1))) fun j5=>
        if (decide ((a3.length:Int)<1))=true then
        j5 true
        else
        (zdz N a3 (p0.Nodes.length:Int)).bind fun r6=>
        j5 (!r6)
      else
        some true) N 0
def zdM (N:Nat) (p0:zad):Option (Bool):=
  if ((decide ((p0.Queues.length:Int)<1)) || (decide ((p0.Queues.length:Int) > 8)))=true then
    some false
  else
    lpX (fun f2 (x1:Int)=>
      if (decide (x1<(p0.Queues.length:Int)))=true then
        (at? p0.Queues x1).bind fun a3=>
        jn (fun (x4:Bool)=>
          if x4=true then
            some false
          else
            lpX (fun f7 (x6:Int)=>
              if (decide (x6<3))=true then
                (at? [a3.MaxJobs,a3.MaxRun,a3.MaxUser] x6).bind fun a8=>
                if ((decide (a8<1)) || (decide (a8 > 256)))=true then
                  some false
                else
                  f7 (IntKind.i64.wrap (x6+1))
              else
                if ((decide (a3.Qos<0)) || (decide (a3.Qos > 100)))=true then
                  some false
                else
                  f2 (IntKind.i64.wrap (x1+1))) N 0) fun j5=>
        if ((decide (a3.Part<0)) || (decide (a3.Part≥(p0.Parts.length:Int))))=true then
        j5 true
        else
        (zdz N a3.Users p0.Users).bind fun r9=>
        j5 (!r9)
      else
        some true) N 0
def zdm (N:Nat) (p0:zbc):Option (Bool):=
  lpX (fun f2 (x1:Int)=>
    if (decide (x1<4))=true then
      (at? [p0.Age,p0.Size,p0.Qos,p0.Share] x1).bind fun a3=>
      if ((decide (a3<0)) || (decide (a3 > 1000)))=true then
        some false
      else
        f2 (IntKind.i64.wrap (x1+1))
    else
      some true) N 0
def spec_Flaw (N:Nat) (p0:zad):Option (ByteArray):=
  (
    (spec_nodesRight N p0).bind fun r1=>
    some r1).bind fun x2=>
  if (!x2)=true then
    some (⟨#[78,111,100,101,115]⟩:ByteArray)
  else
    (
      (spec_partsRight N p0).bind fun r3=>
      some r3).bind fun x4=>
    if (!x4)=true then
      some (⟨#[80,97,114,116,115]⟩:ByteArray)
    else
      (
        some ((decide (1≤p0.Users))&&(decide (p0.Users≤8)))).bind fun x5=>
      if (!x5)=true then
        some (⟨#[85,115,101,114,115]⟩:ByteArray)
      else
        (
          (zdM N p0).bind fun r6=>
          some r6).bind fun x7=>
        if (!x7)=true then
          some (⟨#[81,117,101,117,101,115]⟩:ByteArray)
        else
          (
            (zdm N p0.Weights).bind fun r8=>
            some r8).bind fun x9=>
          if (!x9)=true then
            some (⟨#[87,101,105,103,104,116,115]⟩:ByteArray)
          else
            (
              some ((decide (1≤p0.Decay))&&(decide (p0.Decay≤16)))).bind fun x10=>
            if (!x10)=true then
              some (⟨#[68,101,99,97,121]⟩:ByteArray)
            else
              (
                some ((p0.Mode == 1) || (p0.Mode == 2))).bind fun x11=>
              if (!x11)=true then
                some (⟨#[77,111,100,101]⟩:ByteArray)
              else
                (
                  some ((decide (1≤p0.Jobs))&&(decide (p0.Jobs≤256)))).bind fun x12=>
                if (!x12)=true then
                  some (⟨#[74,111,98,115]⟩:ByteArray)
                else
                  (
                    some ((decide (1≤p0.Ids))&&(decide (p0.Ids≤1048576)))).bind fun x13=>
                  if (!x13)=true then
                    some (⟨#[73,100,115]⟩:ByteArray)
                  else
                    (
                      some ((decide (1≤p0.Versions))&&(decide (p0.Versions≤65536)))).bind fun x14=>
                    if (!x14)=true then
                      some (⟨#[86,101,114,115,105,111,110,115]⟩:ByteArray)
                    else
                      (
                        some ((decide (0≤p0.Linger))&&(decide (p0.Linger≤65536)))).bind fun x15=>
                      if (!x15)=true then
                        some (⟨#[76,105,110,103,101,114]⟩:ByteArray)
                      else
                        (
                          some ((decide (1≤p0.Keep))&&(decide (p0.Keep≤16)))).bind fun x16=>
                        if (!x16)=true then
                          some (⟨#[75,101,101,112]⟩:ByteArray)
                        else
                          (
                            some ((decide (1≤p0.In))&&(decide (p0.In≤8)))).bind fun x17=>
                          if (!x17)=true then
                            some (⟨#[73,110]⟩:ByteArray)
                          else
                            (
                              some ((decide (1≤p0.Out))&&(decide (p0.Out≤16)))).bind fun x18=>
                            if (!x18)=true then
                              some (⟨#[79,117,116]⟩:ByteArray)
                            else
                              (
                                some ((decide (0≤p0.Cache))&&(decide (p0.Cache≤16)))).bind fun x19=>
                              if (!x19)=true then
                                some (⟨#[67,97,99,104,101]⟩:ByteArray)
                              else
                                some (⟨#[]⟩:ByteArray)
def zbV (N:Nat) (p0:zad):Option (Bool):=
  (spec_Flaw N p0).bind fun r1=>
  some (r1.toList == (⟨#[]⟩:ByteArray).toList)
def table_New_of79d (N:Nat) (i0:Int):Option (Unit ⊕ (Int)):=
  if ((decide (i0<1)) || (decide (i0 > 256)))=true then
    some (Sum.inl ())
  else
    some (Sum.inr i0)
def zaw (N:Nat) (p0:(List zaa)):Option ((List zaa)):=app? [] p0
def zcA (N:Nat) (i0:zad):Option (Unit ⊕ (List (Int×zac)×(List zaa))):=
  (zbV N i0).bind fun r1=>
  if (!r1)=true then
    some (Sum.inl ())
  else
    (zaw N i0.Nodes).bind fun r2=>
    some (Sum.inr (([]:List (Int×zac)),r2))
def zbK (N:Nat) (a0:(List (List Int))):Option ((List (List Int))):=app? [] a0
def zaQ (N:Nat) (p0:(List Int)):Option ((List Int)):=app? [] p0
def zaV (N:Nat) (a0:(List zaJ)):Option ((List zaJ)):=app? [] a0
def zcC (N:Nat) (p0:zad):Option (zad):=
  (zaw N p0.Nodes).bind fun r1=>
  (zbK N p0.Parts).bind fun x2=>
  lpX (fun f4 (x3:Int×List (List Int))=>
    if (decide (x3.1<(x2.length:Int)))=true then
      (at? x3.2 x3.1).bind fun a5=>
      (zaQ N a5).bind fun r6=>
      (at? x3.2 x3.1).bind fun a7=>
      f4 ((IntKind.i64.wrap (x3.1+1)),(x3.2.set x3.1.toNat r6))
    else
      (zaV N p0.Queues).bind fun x8=>
      lpX (fun f10 (x9:Int×List zaJ)=>
        if (decide (x9.1<(x8.length:Int)))=true then
          (at? x9.2 x9.1).bind fun a11=>
          (zaQ N a11.Users).bind fun r12=>
          (at? x9.2 x9.1).bind fun a13=>
          f10 ((IntKind.i64.wrap (x9.1+1)),(x9.2.set x9.1.toNat ({ Part:=a13.Part,Users:=r12,MaxJobs:=a13.MaxJobs,MaxRun:=a13.MaxRun,MaxUser:=a13.MaxUser,Qos:=a13.Qos }:zaJ)))
        else
          some ({ Nodes:=r1,Parts:=x3.2,Queues:=x9.2,Users:=p0.Users,Weights:=p0.Weights,Decay:=p0.Decay,Mode:=p0.Mode,Jobs:=p0.Jobs,Ids:=p0.Ids,Versions:=p0.Versions,Linger:=p0.Linger,Keep:=p0.Keep,In:=p0.In,Out:=p0.Out,Cache:=p0.Cache }:zad)) N (0,x8)) N (0,x2)
def zdZ (N:Nat) (p0:Int) (p1:Int) (p2:Int):Option (Int):=
  if (decide (p0<p1))=true then
    some p1
  else
    if (decide (p0 > p2))=true then
      some p2
    else
      some p0
def share_New (N:Nat) (p0:Int):Option ((List Int)):=
  (zdZ N p0 0 8).bind fun r1=>
  (mk? (0:Int) r1 r1).bind fun z2=>
  some z2
def zc2 (N:Nat) (i0:zad):Option (Unit ⊕ (List Int×List (Int×zac)×(List zaa)×(List (List Int))×(List zaJ)×Int×Int×Int×Int×Int×Int×Int×Int×Int×Int×Int×Int×Int×Int×Int×Int×Int×Int×(List Int)×Int×Int×(List zaa))):=
  (zbV N i0).bind fun r1=>
  if (!r1)=true then
    some (Sum.inl ())
  else
    (table_New_of79d N i0.Jobs).bind fun x2=>
    match x2 with
    | .inl x3 =>
      some (Sum.inl ())
    | .inr x4 =>
      (zcA N i0).bind fun x5=>
      match x5 with
      | .inl x6 =>
        some (Sum.inl ())
      | .inr x7 =>
        (zcC N i0).bind fun r8=>
        (share_New N i0.Users).bind fun r9=>
        (mk? (0:Int) (i0.Queues.length:Int) (i0.Queues.length:Int)).bind fun z10=>
        some (Sum.inr (z10,x7.1,r8.Nodes,r8.Parts,r8.Queues,r8.Users,r8.Weights.Age,r8.Weights.Size,r8.Weights.Qos,r8.Weights.Share,r8.Decay,r8.Mode,r8.Jobs,r8.Ids,r8.Versions,r8.Linger,r8.Keep,r8.In,r8.Out,r8.Cache,0,1,1,r9,0,x4,x7.2))
def store_Store_Put_oe980 (N:Nat):Option ((Int)):=
  some 1
def store_Store_Start_odcef (N:Nat):Option ((Int)):=
  some 1
def shift_Check_o43bf (N:Nat):Option ((Int)):=
  some 1
def zba (N:Nat) (p0:Int) (p1:Int):Option (zbo):=
  some ({ Key:=p0,Err:=p1,Job:=0,Version:=0,Nums:=[] }:zbo)
def zbZ (N:Nat):Option ((zae×Bool)):=
  some (({ Id:=0,User:=0,Queue:=0,Many:=0,Need:=({ Cpu:=0,Mem:=0,Gpu:=0,Lic:=0 }:zaa),Wall:=0,After:=[],State:=0,Ok:=false,Kill:=false,Version:=0,Born:=0,Start:=0,End:=0,Array:=0 }:zae),false)
def store_Store_Edit_o1c7a (N:Nat):Option ((Int)):=
  some 1
def shift_move_o939f (N:Nat):Option ((Int)):=
  (store_Store_Edit_o1c7a N).bind fun x1=>
  some x1
def store_Store_Step_o456f (N:Nat):Option ((Int)):=
  some 1
def shift_requeue_ob18c (N:Nat):Option ((Int)):=
  (store_Store_Step_o456f N).bind fun x1=>
  some x1
def shift_Do_oa917 (N:Nat) (i0:zaB):Option ((zbo)):=
  (shift_Check_o43bf N).bind fun x1=>
  if (x1 != 0)=true then
    (zba N i0.Key x1).bind fun r2=>
    some r2
  else
    (
      if (i0.Kind == 7)=true then
        some (Sum.inl true)
      else
        if (i0.Kind == 6)=true then
          some (Sum.inr (Sum.inl true))
        else
          some (Sum.inr (Sum.inr false))).bind fun x3=>
    match x3 with
    | .inl x4 =>
      (zbZ N).bind fun x6=>
      (shift_move_o939f N).bind fun x7=>
      if (x7 != 0)=true then
        (zba N i0.Key x7).bind fun r8=>
        some r8
      else
        some ({ Key:=i0.Key,Err:=0,Job:=x6.1.Id,Version:=(IntKind.i64.wrap (x6.1.Version+1)),Nums:=[] }:zbo)
    | .inr x5 =>
      match x5 with
      | .inl x9 =>
        (zbZ N).bind fun x11=>
        (shift_requeue_ob18c N).bind fun x12=>
        if (x12 != 0)=true then
          (zba N i0.Key x12).bind fun r13=>
          some r13
        else
          some ({ Key:=i0.Key,Err:=0,Job:=x11.1.Id,Version:=(IntKind.i64.wrap (x11.1.Version+1)),Nums:=[] }:zbo)
      | .inr x10 =>
        (zbZ N).bind fun x14=>
        none
def store_Store_State_o9e3c (N:Nat):Option ((zag)):=
  some ({ Now:=0,Next:=0,Book:=0,Jobs:=[],Allocs:=[],Books:=[],Use:=[],Stamps:=({ Queues:=[],Nodes:=0 }:api_Stamps) }:zag)
def zbg (N:Nat) (p0:Int) (p1:Int) (p2:Int):Option (Bool):=
  some ((decide (p1≤p0))&&(decide (p0≤p2)))
def job_afterRight (N:Nat) (p0:zae):Option (Bool):=
  if (decide ((p0.After.length:Int) > 4))=true then
    some false
  else
    lpX (fun f2 (x1:Int)=>
      if (decide (x1<(p0.After.length:Int)))=true then
        (at? p0.After x1).bind fun a3=>
        (zbg N a3.Job 1 (IntKind.i64.wrap (p0.Id-1))).bind fun r4=>
        if (!r4)=true then
          some false
        else
          f2 (IntKind.i64.wrap (x1+1))
      else
        some true) N 0
def life_Name (N:Nat) (p0:Int):Option (ByteArray):=
  if (p0 == 1)=true then
    some (⟨#[113,117,101,117,101,100]⟩:ByteArray)
  else
    if (p0 == 2)=true then
      some (⟨#[104,101,108,100]⟩:ByteArray)
    else
      if (p0 == 3)=true then
        some (⟨#[114,117,110,110,105,110,103]⟩:ByteArray)
      else
        if (p0 == 4)=true then
          some (⟨#[101,120,105,116,105,110,103]⟩:ByteArray)
        else
          if (p0 == 5)=true then
            some (⟨#[99,111,109,112,108,101,116,101,100]⟩:ByteArray)
          else
            if (p0 == 6)=true then
              some (⟨#[99,97,110,99,101,108,108,101,100]⟩:ByteArray)
            else
              some (⟨#[]⟩:ByteArray)
def zbT (N:Nat) (p0:Int):Option (Bool):=
  some ((p0 == 1) || (p0 == 2))
def zdE (N:Nat) (p0:Int):Option (Bool):=
  some ((p0 == 5) || (p0 == 6))
def job_stateRight (N:Nat) (p0:zae):Option (Bool):=
  (life_Name N p0.State).bind fun r1=>
  if (r1.toList == (⟨#[]⟩:ByteArray).toList)=true then
    some false
  else
    jn (fun (x2:Bool)=>
      if x2=true then
        some false
      else
        jn (fun (x4:Bool)=>
          if x4=true then
            some false
          else
            if ((p0.Ok&&(p0.State != 4))&&(p0.State != 5))=true then
              some false
            else
              if ((p0.Kill&&(p0.State != 4))&&(p0.State != 6))=true then
                some false
              else
                some true) fun j5=>
        if (p0.End != 0)=true then
        (zdE N p0.State).bind fun r6=>
        j5 (!r6)
        else
        j5 false) fun j3=>
    if (p0.Start != 0)=true then
    (zbT N p0.State).bind fun r7=>
    j3 r7
    else
    j3 false
def zc6 (N:Nat) (p0:zae):Option (Bool):=
  (zbg N p0.Id 1 1048576).bind fun r1=>
  if r1=true then
  (zbg N p0.User 0 7).bind fun r2=>
  if r2=true then
  (zbg N p0.Queue 0 7).bind fun r3=>
  if r3=true then
  (zbg N p0.Many 1 64).bind fun r4=>
  if r4=true then
  (zbH N p0.Need).bind fun r5=>
  if (r5&&(!(zaa.beq p0.Need ({ Cpu:=0,Mem:=0,Gpu:=0,Lic:=0 }:zaa))))=true then
  (zbg N p0.Wall 1 65536).bind fun r6=>
  if r6=true then
  (job_afterRight N p0).bind fun r7=>
  if r7=true then
  (zbg N p0.Version 1 281474976710656).bind fun r8=>
  if r8=true then
  (zbg N p0.Born 0 1099511627776).bind fun r9=>
  if r9=true then
  (zbg N p0.Start 0 1099511627776).bind fun r10=>
  if r10=true then
  (zbg N p0.End 0 1099511627776).bind fun r11=>
  if r11=true then
  (zbg N p0.Array 0 p0.Id).bind fun r12=>
  if r12=true then
  (job_stateRight N p0).bind fun r13=>
  some r13
  else
  some false
  else
  some false
  else
  some false
  else
  some false
  else
  some false
  else
  some false
  else
  some false
  else
  some false
  else
  some false
  else
  some false
  else
  some false
  else
  some false
def zaK (N:Nat) (p0:(List api_Dep)):Option ((List api_Dep)):=app? [] p0
def table_own (N:Nat) (p0:zae):Option (zae):=
  (zaK N p0.After).bind fun r1=>
  some ({ Id:=p0.Id,User:=p0.User,Queue:=p0.Queue,Many:=p0.Many,Need:=p0.Need,Wall:=p0.Wall,After:=r1,State:=p0.State,Ok:=p0.Ok,Kill:=p0.Kill,Version:=p0.Version,Born:=p0.Born,Start:=p0.Start,End:=p0.End,Array:=p0.Array }:zae)
def zcG (N:Nat) (i0:Int):Option ((List zae×Int×Bool)):=
  (
    lpX (fun f2 (x1:Int×Int)=>
      if (decide (x1.1<x1.2))=true then
        (
          (at? ([]:List zae) (IntKind.i64.wrap (Int.fdiv (IntKind.u64.wrap (IntKind.i64.wrap (x1.1+x1.2))) (2 ^ 1)))).bind fun a3=>
          some (decide (a3.Id≥i0))).bind fun x4=>
        if (!x4)=true then
          f2 ((IntKind.i64.wrap ((IntKind.i64.wrap (Int.fdiv (IntKind.u64.wrap (IntKind.i64.wrap (x1.1+x1.2))) (2 ^ 1)))+1)),x1.2)
        else
          f2 (x1.1,(IntKind.i64.wrap (Int.fdiv (IntKind.u64.wrap (IntKind.i64.wrap (x1.1+x1.2))) (2 ^ 1))))
      else
        some (([]:List zae),x1.1)) N (0,0)).bind fun x5=>
  if (decide (x5.2<(x5.1.length:Int)))=true then
  (at? x5.1 x5.2).bind fun a6=>
  some (x5.1,x5.2,(a6.Id == i0))
  else
  some (x5.1,x5.2,false)
def zaF (N:Nat) (i0:List zae) (i1:List zae) (i2:Int):Option ((List zae)):=
  (slice? i0 i2 (i0.length:Int)).bind fun z1=>
  if ((i1.length:Int) == 0)=true then
    some i0
  else
    if (i2 == (i0.length:Int))=true then
      (app? i0 i1).bind fun z2=>
      some z2
    else
      none
def table_Table_Put_o39f5 (N:Nat) (i0:zae) (i1:Int):Option (Unit ⊕ (List zae×Int)):=
  (zc6 N i0).bind fun r1=>
  if (!r1)=true then
    some (Sum.inl ())
  else
    (zcG N i0.Id).bind fun x2=>
    if x2.2.2=true then
      some (Sum.inr (x2.1,31))
    else
      if ((x2.1.length:Int) == i1)=true then
        some (Sum.inr (x2.1,35))
      else
        (table_own N i0).bind fun r3=>
        (zaF N x2.1 ([r3]:List zae) x2.2.1).bind fun x4=>
        some (Sum.inr (x4,0))
def zdP (N:Nat) (p0:Int):Option (Int):=
  if (decide (p0≥281474976710656))=true then
    some 0
  else
    some (IntKind.i64.wrap (p0+1))
def zaH (N:Nat) (i0:List Int) (i1:Int):Option ((List Int)):=
  if ((decide (i1≥0))&&(decide (i1<(i0.length:Int))))=true then
    (at? i0 i1).bind fun a1=>
    (zdP N a1).bind fun r2=>
    (at? i0 i1).bind fun a3=>
    some (i0.set i1.toNat r2)
  else
    some i0
def store_Store_Put_o925b (N:Nat) (i0:List Int) (i1:zae) (i2:Int) (i3:Int) (i4:Int):Option ((List Int×Int×Int) ⊕ (List Int×List zae×Int×Int)):=
  (zc6 N i1).bind fun r1=>
  if ((((!r1) || (i1.State != 1)) || (i1.Id != i3)) || (i1.Version != 1))=true then
    some (Sum.inl (i0,2,i3))
  else
    if (decide (i3 > i2))=true then
      some (Sum.inl (i0,36,i3))
    else
      (table_Table_Put_o39f5 N i1 i4).bind fun x2=>
      match x2 with
      | .inl x3 =>
        some (Sum.inl (i0,2,i3))
      | .inr x4 =>
        if (x4.2 != 0)=true then
          some (Sum.inr (i0,x4.1,x4.2,i3))
        else
          (zaH N i0 i1.Queue).bind fun x5=>
          some (Sum.inr (x5,x4.1,0,(IntKind.i64.wrap (i3+1))))
def table_Table_Get_o9a4c (N:Nat) (i0:Int):Option ((List zae×zae×Bool)):=
  (zcG N i0).bind fun x1=>
  if (!x1.2.2)=true then
    some (x1.1,({ Id:=0,User:=0,Queue:=0,Many:=0,Need:=({ Cpu:=0,Mem:=0,Gpu:=0,Lic:=0 }:zaa),Wall:=0,After:=[],State:=0,Ok:=false,Kill:=false,Version:=0,Born:=0,Start:=0,End:=0,Array:=0 }:zae),false)
  else
    (at? x1.1 x1.2.1).bind fun a2=>
    (table_own N a2).bind fun r3=>
    some (x1.1,r3,true)
def place_Right (N:Nat) (p0:(List zaj)) (p1:Int):Option (Bool):=
  lpX (fun f2 (x1:Int×Int)=>
    if (decide (x1.2<(p0.length:Int)))=true then
      (at? p0 x1.2).bind fun a3=>
      if ((((decide (a3.Node≤x1.1)) || (decide (a3.Node≥p1))) || (decide (a3.Many<1))) || (decide (a3.Many > 64)))=true then
        some false
      else
        f2 (a3.Node,(IntKind.i64.wrap (x1.2+1)))
    else
      some true) N ((-1),0)
def place_Total (N:Nat) (p0:(List zaj)):Option (Int):=
  lpX (fun f2 (x1:Int×Int)=>
    if (decide (x1.2<(p0.length:Int)))=true then
      (at? p0 x1.2).bind fun a3=>
      (zdZ N a3.Many 0 64).bind fun r4=>
      f2 ((IntKind.i64.wrap (x1.1+r4)),(IntKind.i64.wrap (x1.2+1)))
    else
      some x1.1) N (0,0)
def zcW (N:Nat) (p0:(List Int)) (p1:Int):Option (Int):=
  lpX (fun f2 (x1:Int)=>
    if (decide (x1<(p0.length:Int)))=true then
      (at? p0 x1).bind fun a3=>
      if (p1 == a3)=true then
        some x1
      else
        f2 (IntKind.i64.wrap (x1+1))
    else
      some (-1)) N 0
def za3 (N:Nat) (p0:(List Int)) (p1:Int):Option (Bool):=
  (zcW N p0 p1).bind fun r1=>
  some (decide (r1≥0))
def store_suits (N:Nat) (p0:zad) (p1:zae) (p2:(List zaj)):Option (Bool):=
  jn (fun (x1:Bool)=>
    if x1=true then
      some false
    else
      if ((decide (p1.Queue<0)) || (decide (p1.Queue≥(p0.Queues.length:Int))))=true then
        some false
      else
        (at? p0.Queues p1.Queue).bind fun a3=>
        (at? p0.Parts a3.Part).bind fun a4=>
        lpX (fun f6 (x5:Int)=>
          if (decide (x5<(p2.length:Int)))=true then
            (at? p2 x5).bind fun a7=>
            (za3 N a4 a7.Node).bind fun r8=>
            if (!r8)=true then
              some false
            else
              f6 (IntKind.i64.wrap (x5+1))
          else
            some true) N 0) fun j2=>
  (place_Right N p2 (p0.Nodes.length:Int)).bind fun r9=>
  if (!r9)=true then
  j2 true
  else
  (place_Total N p2).bind fun r10=>
  j2 (r10 != p1.Many)
def life_Has (N:Nat) (p0:Int):Option (Bool):=
  some ((p0 == 3) || (p0 == 4))
def life_Next (N:Nat) (p0:Int) (p1:Int):Option (Int×Bool):=
  if ((p1 == 1)&&(p0 == 1))=true then
    some (2,true)
  else
    if ((p1 == 2)&&(p0 == 2))=true then
      some (1,true)
    else
      if ((p1 == 3)&&(p0 == 1))=true then
        some (3,true)
      else
        if ((p1 == 4)&&(p0 == 3))=true then
          some (1,true)
        else
          if ((p1 == 5)&&(p0 == 3))=true then
            some (4,true)
          else
            if ((p1 == 6)&&(p0 == 3))=true then
              some (4,true)
            else
              jn (fun (x1:Bool)=>
                if x1=true then
                  some (6,true)
                else
                  jn (fun (x3:Bool)=>
                    if x3=true then
                      some (5,true)
                    else
                      if ((p1 == 8)&&(p0 == 4))=true then
                        some (6,true)
                      else
                        some (0,false)) fun j4=>
                  if (p1 == 7)=true then
                  (life_Has N p0).bind fun r5=>
                  j4 r5
                  else
                  j4 false) fun j2=>
              if (p1 == 6)=true then
              (zbT N p0).bind fun r6=>
              j2 r6
              else
              j2 false
def job_Step (N:Nat) (p0:zae) (p1:Int) (p2:Int) (p3:Bool):Option (zae×Int):=
  jn (fun (x1:Bool)=>
    if x1=true then
      some (({ Id:=0,User:=0,Queue:=0,Many:=0,Need:=({ Cpu:=0,Mem:=0,Gpu:=0,Lic:=0 }:zaa),Wall:=0,After:=[],State:=0,Ok:=false,Kill:=false,Version:=0,Born:=0,Start:=0,End:=0,Array:=0 }:zae),2)
    else
      (life_Next N p0.State p1).bind fun r3=>
      if (!r3.2)=true then
        some (({ Id:=0,User:=0,Queue:=0,Many:=0,Need:=({ Cpu:=0,Mem:=0,Gpu:=0,Lic:=0 }:zaa),Wall:=0,After:=[],State:=0,Ok:=false,Kill:=false,Version:=0,Born:=0,Start:=0,End:=0,Array:=0 }:zae),31)
      else
        if (p0.Version == 281474976710656)=true then
          some (({ Id:=0,User:=0,Queue:=0,Many:=0,Need:=({ Cpu:=0,Mem:=0,Gpu:=0,Lic:=0 }:zaa),Wall:=0,After:=[],State:=0,Ok:=false,Kill:=false,Version:=0,Born:=0,Start:=0,End:=0,Array:=0 }:zae),41)
        else
          (zaK N p0.After).bind fun r4=>
          jn (fun (x5:Bool×Bool×Int)=>
            jn (fun (x7:Int)=>
              some (({ Id:=p0.Id,User:=p0.User,Queue:=p0.Queue,Many:=p0.Many,Need:=p0.Need,Wall:=p0.Wall,After:=r4,State:=r3.1,Ok:=x5.1,Kill:=x5.2.1,Version:=(IntKind.i64.wrap (p0.Version+1)),Born:=p0.Born,Start:=x5.2.2,End:=x7,Array:=p0.Array }:zae),0)) fun j8=>
            (zdE N r3.1).bind fun r9=>
            if r9=true then
              j8 p2
            else
              j8 p0.End) fun j6=>
          jn (fun (x10:Bool)=>
            j6 (false,x10,p0.Start)) fun j11=>
          if (p1 == 3)=true then
            j6 (p0.Ok,p0.Kill,p2)
          else
            if (p1 == 4)=true then
              j6 (p0.Ok,p0.Kill,0)
            else
              if (p1 == 5)=true then
                j6 (p3,p0.Kill,p0.Start)
              else
                if (p1 == 6)=true then
                  j6 (false,true,p0.Start)
                else
                  if (p1 == 7)=true then
                    if (p0.State != 3)=true then
                      j6 (p0.Ok,false,p0.Start)
                    else
                      j11 false
                  else
                    if (p1 == 8)=true then
                      j11 p0.Kill
                    else
                      j6 (p0.Ok,p0.Kill,p0.Start)) fun j2=>
  (zc6 N p0).bind fun r12=>
  if (!r12)=true then
  j2 true
  else
  (zbg N p2 0 1099511627776).bind fun r13=>
  j2 (!r13)
def zaq (N:Nat) (a0:(List zaa)):Option ((List zaa)):=app? [] a0
def zbd (N:Nat) (i0:zaa):Option (((Int×Int)×(Int×Int))):=
  some ((i0.Cpu,i0.Mem),(i0.Gpu,i0.Lic))
def vec_join_o7a26 (N:Nat) (i0:Int×Int) (i1:Int×Int):Option ((zaa)):=
  (fint? i0.1).bind fun q1=>
  (fint? i0.2).bind fun q2=>
  (fint? i1.1).bind fun q3=>
  (fint? i1.2).bind fun q4=>
  some ({ Cpu:=q1,Mem:=q2,Gpu:=q3,Lic:=q4 }:zaa)
def zbU (N:Nat) (i0:Int×Int) (i1:Int×Int):Option ((zaa×Int)):=
  (vec_join_o7a26 N (i0.1,i0.2) (i1.1,i1.2)).bind fun x1=>
  (zbH N x1).bind fun r2=>
  if (!r2)=true then
    some (({ Cpu:=0,Mem:=0,Gpu:=0,Lic:=0 }:zaa),20)
  else
    some (x1,0)
def vec_Times (N:Nat) (p0:zaa) (p1:Int):Option (zaa×Int):=
  (zbH N p0).bind fun r1=>
  if ((!r1) || (decide (p1<0)))=true then
    some (({ Cpu:=0,Mem:=0,Gpu:=0,Lic:=0 }:zaa),2)
  else
    if (zaa.beq p0 ({ Cpu:=0,Mem:=0,Gpu:=0,Lic:=0 }:zaa))=true then
      some (({ Cpu:=0,Mem:=0,Gpu:=0,Lic:=0 }:zaa),0)
    else
      if (decide (p1 > 1048576))=true then
        some (({ Cpu:=0,Mem:=0,Gpu:=0,Lic:=0 }:zaa),20)
      else
        (zbd N p0).bind fun x2=>
        (fmul? x2.1.1 p1).bind fun u3=>
        (fmul? x2.1.2 p1).bind fun v4=>
        (fmul? x2.2.1 p1).bind fun u5=>
        (fmul? x2.2.2 p1).bind fun v6=>
        (zbU N (u3,v4) (u5,v6)).bind fun x7=>
        some (x7.1,x7.2)
def vec_Sub (N:Nat) (p0:zaa) (p1:zaa):Option (zaa×Int):=
  jn (fun (x1:Bool)=>
    if x1=true then
      some (({ Cpu:=0,Mem:=0,Gpu:=0,Lic:=0 }:zaa),2)
    else
      (zbd N p0).bind fun x3=>
      (zbd N p1).bind fun x4=>
      (fdif? x3.1.1 x4.1.1).bind fun u5=>
      (fdif? x3.1.2 x4.1.2).bind fun v6=>
      (fdif? x3.2.1 x4.2.1).bind fun u7=>
      (fdif? x3.2.2 x4.2.2).bind fun v8=>
      (zbU N (u5,v6) (u7,v8)).bind fun x9=>
      some (x9.1,x9.2)) fun j2=>
  (zbH N p0).bind fun r10=>
  if (!r10)=true then
  j2 true
  else
  (zbH N p1).bind fun r11=>
  j2 (!r11)
def zdr (N:Nat) (i0:List zaj) (i1:Int) (i2:Int) (i3:Int) (i4:Int) (i5:(List zaa)):Option (((List zaa)×Int)):=
  (zaq N i5).bind fun x1=>
  lpX (fun f3 (x2:Int×List zaa)=>
    if (decide (x2.1<(i0.length:Int)))=true then
      (at? i0 x2.1).bind fun a4=>
      (vec_Times N ({ Cpu:=i1,Mem:=i2,Gpu:=i3,Lic:=i4 }:zaa) a4.Many).bind fun r5=>
      if (r5.2 != 0)=true then
        some ([],r5.2)
      else
        (at? x2.2 a4.Node).bind fun a6=>
        (vec_Sub N a6 r5.1).bind fun r7=>
        (at? x2.2 a4.Node).bind fun a8=>
        if (r7.2 != 0)=true then
          some ([],r7.2)
        else
          f3 ((IntKind.i64.wrap (x2.1+1)),(x2.2.set a4.Node.toNat r7.1))
    else
      some (x2.2,0)) N (0,x1)
def za9 (N:Nat) (p0:(List zaj)):Option ((List zaj)):=app? [] p0
def ledger_own (N:Nat) (p0:zac):Option (zac):=
  (za9 N p0.Shares).bind fun r1=>
  some ({ Job:=p0.Job,Need:=p0.Need,Shares:=r1 }:zac)
def zbF (N:Nat) (a0:(List zaj)):Option ((List zaj)):=app? [] a0
def ledger_own_oae3c (N:Nat) (i0:List zaj) (i1:Int) (i2:Int) (i3:Int) (i4:Int) (i5:Int):Option ((zac)):=
  (zbF N i0).bind fun x1=>
  some ({ Job:=i1,Need:=({ Cpu:=i2,Mem:=i3,Gpu:=i4,Lic:=i5 }:zaa),Shares:=x1 }:zac)
def zcm (N:Nat) (i0:List zaj) (i1:List (Int×zac)) (i2:Int) (i3:Int) (i4:Int) (i5:Int) (i6:Int) (i7:(List zaa)):Option ((List (Int×zac)×Int×(List zaa))):=
  jn (fun (x1:Bool)=>
    if x1=true then
      some (i1,2,i7)
    else
      oel (mget i1 i2) (
        (zdr N i0 i3 i4 i5 i6 i7).bind fun x4=>
        if (x4.2 != 0)=true then
          some (i1,x4.2,i7)
        else
          (ledger_own_oae3c N i0 i2 i3 i4 i5 i6).bind fun x5=>
          some ((mset i1 i2 x5),0,x4.1)) fun v3=>
      some (i1,31,i7)) fun j2=>
  if (((decide (i2<1)) || (decide (i2 > 1048576))) || ((i0.length:Int) == 0))=true then
  j2 true
  else
  (place_Right N i0 (i7.length:Int)).bind fun r6=>
  if (!r6)=true then
  j2 true
  else
  (zbH N ({ Cpu:=i3,Mem:=i4,Gpu:=i5,Lic:=i6 }:zaa)).bind fun r7=>
  j2 (!r7)
def zar (N:Nat) (i0:List zae) (i1:Int):Option ((Int×Bool)):=
  (
    lpX (fun f2 (x1:Int×Int)=>
      if (decide (x1.1<x1.2))=true then
        (
          (at? i0 (IntKind.i64.wrap (Int.fdiv (IntKind.u64.wrap (IntKind.i64.wrap (x1.1+x1.2))) (2 ^ 1)))).bind fun a3=>
          some (decide (a3.Id≥i1))).bind fun x4=>
        if (!x4)=true then
          f2 ((IntKind.i64.wrap ((IntKind.i64.wrap (Int.fdiv (IntKind.u64.wrap (IntKind.i64.wrap (x1.1+x1.2))) (2 ^ 1)))+1)),x1.2)
        else
          f2 (x1.1,(IntKind.i64.wrap (Int.fdiv (IntKind.u64.wrap (IntKind.i64.wrap (x1.1+x1.2))) (2 ^ 1))))
      else
        some x1.1) N (0,(i0.length:Int))).bind fun x5=>
  if (decide (x5<(i0.length:Int)))=true then
  (at? i0 x5).bind fun a6=>
  some (x5,(a6.Id == i1))
  else
  some (x5,false)
def zbX (N:Nat) (i0:List zae) (i1:zae):Option ((List zae×Int)):=
  (zc6 N i1).bind fun r1=>
  if (!r1)=true then
    some (i0,2)
  else
    (zar N i0 i1.Id).bind fun x2=>
    if (!x2.2)=true then
      some (i0,30)
    else
      (table_own N i1).bind fun r3=>
      (at? i0 x2.1).bind fun a4=>
      some ((i0.set x2.1.toNat r3),0)
def zau (N:Nat) (i0:List Int) (i1:List zae) (i2:zae) (i3:zae):Option ((List zae×List Int×Int)):=
  (zbX N i1 i3).bind fun x1=>
  if (x1.2 != 0)=true then
    some (x1.1,i0,x1.2)
  else
    (zaH N i0 i2.Queue).bind fun x2=>
    jn (fun (x3:List Int)=>
      some (x1.1,x3,0)) fun j4=>
    if (i3.Queue != i2.Queue)=true then
      (zaH N x2 i3.Queue).bind fun x5=>
      j4 x5
    else
      j4 x2
def store_Store_Start_o5330 (N:Nat) (i0:List zaj) (i1:List Int) (i2:List (Int×zac)) (i3:Int) (i4:(List zaa)) (i5:(List (List Int))) (i6:(List zaJ)) (i7:Int) (i8:Int) (i9:Int) (i10:Int) (i11:Int) (i12:Int) (i13:Int) (i14:Int) (i15:Int) (i16:Int) (i17:Int) (i18:Int) (i19:Int) (i20:Int) (i21:Int) (i22:Int) (i23:Int) (i24:(List zaa)):Option ((List (Int×zac)×List Int×List zae×Int×(List zaa)×Int)):=
  (table_Table_Get_o9a4c N i3).bind fun x1=>
  if (!x1.2.2)=true then
    some (i2,i1,x1.1,30,i24,i23)
  else
    if (x1.2.1.State != 1)=true then
      some (i2,i1,x1.1,31,i24,i23)
    else
      (store_suits N ({ Nodes:=i4,Parts:=i5,Queues:=i6,Users:=i7,Weights:=({ Age:=i8,Size:=i9,Qos:=i10,Share:=i11 }:zbc),Decay:=i12,Mode:=i13,Jobs:=i14,Ids:=i15,Versions:=i16,Linger:=i17,Keep:=i18,In:=i19,Out:=i20,Cache:=i21 }:zad) x1.2.1 i0).bind fun r2=>
      if (!r2)=true then
        some (i2,i1,x1.1,2,i24,i23)
      else
        (job_Step N x1.2.1 3 i22 false).bind fun r3=>
        if (r3.2 != 0)=true then
          some (i2,i1,x1.1,r3.2,i24,i23)
        else
          (zcm N i0 i2 i3 x1.2.1.Need.Cpu x1.2.1.Need.Mem x1.2.1.Need.Gpu x1.2.1.Need.Lic i24).bind fun x4=>
          if (x4.2.1 != 0)=true then
            some (x4.1,i1,x1.1,x4.2.1,x4.2.2,i23)
          else
            (zdP N i23).bind fun r5=>
            (zau N i1 x1.1 x1.2.1 r3.1).bind fun x6=>
            some (x4.1,x6.2.1,x6.1,x6.2.2,x4.2.2,r5)
def zas (N:Nat) (i0:(List zaa)) (i1:(List (List Int))) (i2:(List zaJ)) (i3:Int) (i4:Int) (i5:Int) (i6:Int) (i7:Int) (i8:Int) (i9:Int) (i10:Int) (i11:Int) (i12:Int) (i13:Int) (i14:Int) (i15:Int) (i16:Int) (i17:Int):Option ((zad)):=
  (zcC N ({ Nodes:=i0,Parts:=i1,Queues:=i2,Users:=i3,Weights:=({ Age:=i4,Size:=i5,Qos:=i6,Share:=i7 }:zbc),Decay:=i8,Mode:=i9,Jobs:=i10,Ids:=i11,Versions:=i12,Linger:=i13,Keep:=i14,In:=i15,Out:=i16,Cache:=i17 }:zad)).bind fun r1=>
  some r1
def zaz (N:Nat) (i0:List zae) (i1:Int):Option ((zae×Bool)):=
  (zar N i0 i1).bind fun x1=>
  if (!x1.2)=true then
    some (({ Id:=0,User:=0,Queue:=0,Many:=0,Need:=({ Cpu:=0,Mem:=0,Gpu:=0,Lic:=0 }:zaa),Wall:=0,After:=[],State:=0,Ok:=false,Kill:=false,Version:=0,Born:=0,Start:=0,End:=0,Array:=0 }:zae),false)
  else
    (at? i0 x1.1).bind fun a2=>
    (table_own N a2).bind fun r3=>
    some (r3,true)
def zak (N:Nat) (i0:List zae) (i1:Int):Option ((zae×Bool)):=
  (zaz N i0 i1).bind fun x1=>
  some (x1.1,x1.2)
def spec_Allowed (N:Nat) (p0:zad) (p1:Int) (p2:Int):Option (Bool):=
  (zbV N p0).bind fun r1=>
  if (((((!r1) || (decide (p1<0))) || (decide (p1≥(p0.Queues.length:Int)))) || (decide (p2<0))) || (decide (p2≥p0.Users)))=true then
    some false
  else
    (at? p0.Queues p1).bind fun a2=>
    if ((a2.Users.length:Int) == 0)=true then
    some true
    else
    (za3 N a2.Users p2).bind fun r3=>
    some r3
def vec_Count (N:Nat) (p0:zaa) (p1:zaa):Option (Int):=
  jn (fun (x1:Bool)=>
    if x1=true then
      some 0
    else
      (vec_numbers N p0).bind fun r3=>
      (vec_numbers N p1).bind fun r4=>
      lpX (fun f6 (x5:Int×Int)=>
        if (decide (x5.2<4))=true then
          jn (fun (x7:Int)=>
            f6 (x7,(IntKind.i64.wrap (x5.2+1)))) fun j8=>
          (at? [r4.1,r4.2.1,r4.2.2.1,r4.2.2.2] x5.2).bind fun a9=>
          (at? [r4.1,r4.2.1,r4.2.2.1,r4.2.2.2] x5.2).bind fun a10=>
          if (decide (a10 > 0))=true then
            (at? [r3.1,r3.2.1,r3.2.2.1,r3.2.2.2] x5.2).bind fun a11=>
            (at? [r3.1,r3.2.1,r3.2.2.1,r3.2.2.2] x5.2).bind fun a12=>
            (at? [r4.1,r4.2.1,r4.2.2.1,r4.2.2.2] x5.2).bind fun a13=>
            (at? [r4.1,r4.2.1,r4.2.2.1,r4.2.2.2] x5.2).bind fun a14=>
            (quo? .i64 a12 a14).bind fun q15=>
            j8 (if q15<x5.1 then q15 else x5.1)
          else
            j8 x5.1
        else
          some x5.1) N (64,0)) fun j2=>
  (zbH N p0).bind fun r16=>
  if (!r16)=true then
  j2 true
  else
  (zbH N p1).bind fun r17=>
  j2 ((!r17) || (zaa.beq p1 ({ Cpu:=0,Mem:=0,Gpu:=0,Lic:=0 }:zaa)))
def spec_Room (N:Nat) (p0:zad) (p1:Int) (p2:zaa):Option (Int):=
  (zbV N p0).bind fun r1=>
  if (((!r1) || (decide (p1<0))) || (decide (p1≥(p0.Parts.length:Int))))=true then
    some 0
  else
    (at? p0.Parts p1).bind fun a2=>
    lpX (fun f4 (x3:Int×Int)=>
      if (decide (x3.2<(a2.length:Int)))=true then
        (at? a2 x3.2).bind fun a5=>
        (at? p0.Nodes a5).bind fun a6=>
        (vec_Count N a6 p2).bind fun r7=>
        f4 ((IntKind.i64.wrap (x3.1+r7)),(IntKind.i64.wrap (x3.2+1)))
      else
        some x3.1) N (0,0)
def spec_Fits (N:Nat) (p0:zad) (p1:Int) (p2:Int) (p3:zaa):Option (Bool):=
  (zbV N p0).bind fun r1=>
  if ((((!r1) || (decide (p1<0))) || (decide (p1≥(p0.Queues.length:Int)))) || (decide (p2<1)))=true then
    some false
  else
    (at? p0.Queues p1).bind fun a2=>
    (spec_Room N p0 a2.Part p3).bind fun r3=>
    some (decide (r3≥p2))
def zbk (N:Nat) (a0:(List zae)):Option ((List zae)):=app? [] a0
def zbv (N:Nat) (i0:List zae):Option (((List zae))):=
  (zbk N i0).bind fun x1=>
  lpX (fun f3 (x2:Int×List zae)=>
    if (decide (x2.1<(x1.length:Int)))=true then
      (at? x2.2 x2.1).bind fun a4=>
      (table_own N a4).bind fun r5=>
      (at? x2.2 x2.1).bind fun a6=>
      f3 ((IntKind.i64.wrap (x2.1+1)),(x2.2.set x2.1.toNat r5))
    else
      some x2.2) N (0,x1)
def zaI (N:Nat) (i0:List (Int×zac)):Option (((List zac))):=
  (keysI (fun k=>k) i0).bind fun x1=>
  lpX (fun f3 (x2:Int×List zac)=>
    if (decide (x2.1<(x1.length:Int)))=true then
      (at? x1 x2.1).bind fun a4=>
      oel (mget i0 a4) (
        (ledger_own N ({ Job:=0,Need:=({ Cpu:=0,Mem:=0,Gpu:=0,Lic:=0 }:zaa),Shares:=[] }:zac)).bind fun r6=>
        (app? x2.2 ([r6]:List zac)).bind fun z7=>
        f3 ((IntKind.i64.wrap (x2.1+1)),z7)) fun v5=>
      (ledger_own N v5).bind fun r8=>
      (app? x2.2 ([r8]:List zac)).bind fun z9=>
      f3 ((IntKind.i64.wrap (x2.1+1)),z9)
    else
      some x2.2) N (0,([]:List zac))
def zat (N:Nat) (p0:(List zah)):Option ((List zah)):=app? [] p0
def za5 (N:Nat) (a0:(List Int)):Option ((List Int)):=app? [] a0
def zbf (N:Nat) (i0:List Int) (i1:List zae) (i2:List (Int×zac)) (i3:Int) (i4:Int) (i5:Int) (i6:(List Int)) (i7:Int):Option ((zag)):=
  (zbv N i1).bind fun x1=>
  (zaI N i2).bind fun x2=>
  (zat N []).bind fun r3=>
  (zaQ N i6).bind fun r4=>
  (za5 N i0).bind fun x5=>
  some ({ Now:=i3,Next:=i4,Book:=i5,Jobs:=x1,Allocs:=x2,Books:=r3,Use:=r4,Stamps:=({ Queues:=x5,Nodes:=i7 }:api_Stamps) }:zag)
def quota_known (N:Nat) (p0:zad) (p1:Int):Option (Bool):=
  if ((decide (p1≥0))&&(decide (p1<(p0.Queues.length:Int))))=true then
  (zbV N p0).bind fun r1=>
  some r1
  else
  some false
def quota_Waiting (N:Nat) (p0:(List zae)) (p1:Int):Option (Int):=
  (
    lpX (fun f2 (x1:Int×Int)=>
      if (decide (x1.2<(p0.length:Int)))=true then
        jn (fun (x3:Int)=>
          f2 (x3,(IntKind.i64.wrap (x1.2+1)))) fun j4=>
        (at? p0 x1.2).bind fun a5=>
        (
          if (a5.Queue == p1)=true then
          (zbT N a5.State).bind fun r6=>
          some r6
          else
          some false).bind fun x7=>
        if x7=true then
          j4 (IntKind.i64.wrap (x1.1+1))
        else
          j4 x1.1
      else
        some x1.1) N (0,0)).bind fun x8=>
  some x8
def quota_Room (N:Nat) (p0:zad) (p1:(List zae)) (p2:Int) (p3:Int):Option (Bool):=
  (quota_known N p0 p2).bind fun r1=>
  if (((!r1) || (decide (p3<0))) || (decide (p3 > 256)))=true then
    some false
  else
    (quota_Waiting N p1 p2).bind fun r2=>
    (at? p0.Queues p2).bind fun a3=>
    some (decide ((IntKind.i64.wrap (r2+p3))≤a3.MaxJobs))
def shift_checkMove_o8607 (N:Nat) (i0:List Int) (i1:List zae) (i2:List (Int×zac)) (i3:zae) (i4:zaB) (i5:(List zaa)) (i6:(List (List Int))) (i7:(List zaJ)) (i8:Int) (i9:Int) (i10:Int) (i11:Int) (i12:Int) (i13:Int) (i14:Int) (i15:Int) (i16:Int) (i17:Int) (i18:Int) (i19:Int) (i20:Int) (i21:Int) (i22:Int) (i23:Int) (i24:Int) (i25:Int) (i26:(List Int)) (i27:Int):Option ((Int)):=
  (zas N i5 i6 i7 i8 i9 i10 i11 i12 i13 i14 i15 i16 i17 i18 i19 i20 i21 i22).bind fun x1=>
  (zbT N i3.State).bind fun r2=>
  if (!r2)=true then
    some 31
  else
    if ((decide (i4.Queue<0)) || (decide (i4.Queue≥(x1.Queues.length:Int))))=true then
      some 30
    else
      (spec_Allowed N x1 i4.Queue i3.User).bind fun r3=>
      if (!r3)=true then
        some 33
      else
        (spec_Fits N x1 i4.Queue i3.Many i3.Need).bind fun r4=>
        if (!r4)=true then
          some 37
        else
          jn (fun (x5:Bool)=>
            if x5=true then
              some 34
            else
              some 0) fun j6=>
          if (i4.Queue != i3.Queue)=true then
          (zbf N i0 i1 i2 i23 i24 i25 i26 i27).bind fun x7=>
          (quota_Room N x1 x7.Jobs i4.Queue 1).bind fun r8=>
          j6 (!r8)
          else
          j6 false
def zdV (N:Nat) (i0:List Int) (i1:List zae) (i2:List (Int×zac)) (i3:zae) (i4:(List zaa)) (i5:(List (List Int))) (i6:(List zaJ)) (i7:Int) (i8:Int) (i9:Int) (i10:Int) (i11:Int) (i12:Int) (i13:Int) (i14:Int) (i15:Int) (i16:Int) (i17:Int) (i18:Int) (i19:Int) (i20:Int) (i21:Int) (i22:Int) (i23:Int) (i24:Int) (i25:(List Int)) (i26:Int):Option ((Int)):=
  if (i3.State != 3)=true then
    some 31
  else
    (zas N i4 i5 i6 i7 i8 i9 i10 i11 i12 i13 i14 i15 i16 i17 i18 i19 i20 i21).bind fun x1=>
    (zbf N i0 i1 i2 i22 i23 i24 i25 i26).bind fun x2=>
    (quota_Room N x1 x2.Jobs i3.Queue 1).bind fun r3=>
    if (!r3)=true then
      some 34
    else
      some 0
def shift_Check_o46c4 (N:Nat) (i0:List Int) (i1:List zae) (i2:List (Int×zac)) (i3:Int) (i4:zaB) (i5:(List zaa)) (i6:(List (List Int))) (i7:(List zaJ)) (i8:Int) (i9:Int) (i10:Int) (i11:Int) (i12:Int) (i13:Int) (i14:Int) (i15:Int) (i16:Int) (i17:Int) (i18:Int) (i19:Int) (i20:Int) (i21:Int) (i22:Int) (i23:Int) (i24:Int) (i25:Int) (i26:(List Int)) (i27:Int):Option ((Int)):=
  (zas N i5 i6 i7 i8 i9 i10 i11 i12 i13 i14 i15 i16 i17 i18 i19 i20 i21 i22).bind fun x1=>
  (
    if (i4.Kind == 7)=true then
      some (Sum.inl true)
    else
      if (i4.Kind == 6)=true then
        some (Sum.inr (Sum.inl true))
      else
        some (Sum.inr (Sum.inr false))).bind fun x2=>
  match x2 with
  | .inl x3 =>
    if (((!x3) || (decide (i3<0))) || (decide (i3≥x1.Users)))=true then
      some 2
    else
      (zak N i1 i4.Job).bind fun x5=>
      if (!x5.2)=true then
        some 30
      else
        if ((i3 != x5.1.User)&&(i3 != 0))=true then
          some 33
        else
          if ((i4.Version != 0)&&(i4.Version != x5.1.Version))=true then
            some 32
          else
            (shift_checkMove_o8607 N i0 i1 i2 x5.1 i4 i5 i6 i7 i8 i9 i10 i11 i12 i13 i14 i15 i16 i17 i18 i19 i20 i21 i22 i23 i24 i25 i26 i27).bind fun x6=>
            if (x6 != 0)=true then
              some x6
            else
              if (decide (x5.1.Version≥x1.Versions))=true then
                some 41
              else
                some 0
  | .inr x4 =>
    match x4 with
    | .inl x7 =>
      if (((!x7) || (decide (i3<0))) || (decide (i3≥x1.Users)))=true then
        some 2
      else
        (zak N i1 i4.Job).bind fun x9=>
        if (!x9.2)=true then
          some 30
        else
          if ((i3 != x9.1.User)&&(i3 != 0))=true then
            some 33
          else
            if ((i4.Version != 0)&&(i4.Version != x9.1.Version))=true then
              some 32
            else
              (zdV N i0 i1 i2 x9.1 i5 i6 i7 i8 i9 i10 i11 i12 i13 i14 i15 i16 i17 i18 i19 i20 i21 i22 i23 i24 i25 i26 i27).bind fun x10=>
              if (x10 != 0)=true then
                some x10
              else
                if (decide (x9.1.Version≥x1.Versions))=true then
                  some 41
                else
                  some 0
    | .inr x8 =>
      if (((!x8) || (decide (i3<0))) || (decide (i3≥x1.Users)))=true then
        some 2
      else
        (zak N i1 i4.Job).bind fun x11=>
        if (!x11.2)=true then
          some 30
        else
          if ((i3 != x11.1.User)&&(i3 != 0))=true then
            some 33
          else
            if ((i4.Version != 0)&&(i4.Version != x11.1.Version))=true then
              some 32
            else
              none
def zcF (N:Nat) (i0:List Int) (i1:List zae) (i2:zae):Option ((List Int×List zae×Int)):=
  (zaz N i1 i2.Id).bind fun x1=>
  if (!x1.2)=true then
    some (i0,i1,30)
  else
    (zc6 N i2).bind fun r2=>
    if (!r2)=true then
      some (i0,i1,2)
    else
      jn (fun (x3:Bool)=>
        if x3=true then
          some (i0,i1,31)
        else
          (zau N i0 i1 x1.1 i2).bind fun x5=>
          some (x5.2.1,x5.1,x5.2.2)) fun j4=>
      (zbT N x1.1.State).bind fun r6=>
      if (!r6)=true then
      j4 true
      else
      (zbT N i2.State).bind fun r7=>
      j4 (!r7)
def zdI (N:Nat) (i0:List Int) (i1:List zae) (i2:zae) (i3:zaB):Option ((List Int×List zae×Int)):=
  (zcF N i0 i1 ({ Id:=i2.Id,User:=i2.User,Queue:=i3.Queue,Many:=i2.Many,Need:=i2.Need,Wall:=i2.Wall,After:=i2.After,State:=i2.State,Ok:=i2.Ok,Kill:=i2.Kill,Version:=(IntKind.i64.wrap (i2.Version+1)),Born:=i2.Born,Start:=i2.Start,End:=i2.End,Array:=i2.Array }:zae)).bind fun x1=>
  some (x1.1,x1.2.1,x1.2.2)
def vec_Add (N:Nat) (p0:zaa) (p1:zaa):Option (zaa×Int):=
  jn (fun (x1:Bool)=>
    if x1=true then
      some (({ Cpu:=0,Mem:=0,Gpu:=0,Lic:=0 }:zaa),2)
    else
      (zbd N p0).bind fun x3=>
      (zbd N p1).bind fun x4=>
      (fsum? x3.1.1 x4.1.1).bind fun u5=>
      (fsum? x3.1.2 x4.1.2).bind fun v6=>
      (fsum? x3.2.1 x4.2.1).bind fun u7=>
      (fsum? x3.2.2 x4.2.2).bind fun v8=>
      (zbU N (u5,v6) (u7,v8)).bind fun x9=>
      some (x9.1,x9.2)) fun j2=>
  (zbH N p0).bind fun r10=>
  if (!r10)=true then
  j2 true
  else
  (zbH N p1).bind fun r11=>
  j2 (!r11)
def zbl (N:Nat) (i0:zac) (i1:(List zaa)):Option (((List zaa)×Int)):=
  (zaq N i1).bind fun x1=>
  lpX (fun f3 (x2:Int×List zaa)=>
    if (decide (x2.1<(i0.Shares.length:Int)))=true then
      (at? i0.Shares x2.1).bind fun a4=>
      (vec_Times N i0.Need a4.Many).bind fun r5=>
      if (r5.2 != 0)=true then
        some ([],r5.2)
      else
        (at? x2.2 a4.Node).bind fun a6=>
        (vec_Add N a6 r5.1).bind fun r7=>
        (at? x2.2 a4.Node).bind fun a8=>
        if (r7.2 != 0)=true then
          some ([],r7.2)
        else
          f3 ((IntKind.i64.wrap (x2.1+1)),(x2.2.set a4.Node.toNat r7.1))
    else
      some (x2.2,0)) N (0,x1)
def zby (N:Nat) (i0:List (Int×zac)) (i1:Int) (i2:(List zaa)):Option ((List (Int×zac)×Int×(List zaa))):=
  oel (mget i0 i1) (
    some (i0,30,i2)) fun v1=>
  (zbl N v1 i2).bind fun x2=>
  if (x2.2 != 0)=true then
    some (i0,x2.2,i2)
  else
    some ((mdel i0 i1),0,x2.1)
def zbn (N:Nat) (i0:List Int) (i1:List zae) (i2:List (Int×zac)) (i3:Int) (i4:Int) (i5:Bool) (i6:Int) (i7:Int) (i8:(List zaa)):Option ((List Int×List zae×List (Int×zac)×Int×Int×(List zaa))):=
  (zaz N i1 i3).bind fun x1=>
  if (!x1.2)=true then
    some (i0,i1,i2,30,i7,i8)
  else
    if (i4 == 3)=true then
      some (i0,i1,i2,31,i7,i8)
    else
      (job_Step N x1.1 i4 i6 i5).bind fun r2=>
      if (r2.2 != 0)=true then
        some (i0,i1,i2,r2.2,i7,i8)
      else
        (zau N i0 i1 x1.1 r2.1).bind fun x3=>
        if (x3.2.2 != 0)=true then
          some (x3.2.1,x3.1,i2,x3.2.2,i7,i8)
        else
          jn (fun (x4:Int×(List zaa)×List (Int×zac))=>
            some (x3.2.1,x3.1,x4.2.2,0,x4.1,x4.2.1)) fun j5=>
          jn (fun (x6:Bool)=>
            if x6=true then
              (zby N i2 i3 i8).bind fun x8=>
              (zdP N i7).bind fun r9=>
              j5 (r9,x8.2.2,x8.1)
            else
              j5 (i7,i8,i2)) fun j7=>
          (life_Has N x1.1.State).bind fun r10=>
          if r10=true then
          (life_Has N r2.1.State).bind fun r11=>
          j7 (!r11)
          else
          j7 false
def zbL (N:Nat) (i0:List Int) (i1:List zae) (i2:List (Int×zac)) (i3:zae) (i4:Int) (i5:Int) (i6:(List zaa)):Option ((List Int×List zae×List (Int×zac)×Int×Int×(List zaa))):=
  (zbn N i0 i1 i2 i3.Id 4 false i4 i5 i6).bind fun x1=>
  some (x1.1,x1.2.1,x1.2.2.1,x1.2.2.2.1,x1.2.2.2.2.1,x1.2.2.2.2.2)
def shift_Do_ofd76 (N:Nat) (i0:List Int) (i1:List zae) (i2:List (Int×zac)) (i3:Int) (i4:zaB) (i5:(List zaa)) (i6:(List (List Int))) (i7:(List zaJ)) (i8:Int) (i9:Int) (i10:Int) (i11:Int) (i12:Int) (i13:Int) (i14:Int) (i15:Int) (i16:Int) (i17:Int) (i18:Int) (i19:Int) (i20:Int) (i21:Int) (i22:Int) (i23:Int) (i24:Int) (i25:Int) (i26:(List Int)) (i27:Int) (i28:(List zaa)):Option ((List Int×List zae×List (Int×zac)×zbo×Int×(List zaa))):=
  (shift_Check_o46c4 N i0 i1 i2 i3 i4 i5 i6 i7 i8 i9 i10 i11 i12 i13 i14 i15 i16 i17 i18 i19 i20 i21 i22 i23 i24 i25 i26 i27).bind fun x1=>
  if (x1 != 0)=true then
    (zba N i4.Key x1).bind fun r2=>
    some (i0,i1,i2,r2,i27,i28)
  else
    (
      if (i4.Kind == 7)=true then
        some (Sum.inl true)
      else
        if (i4.Kind == 6)=true then
          some (Sum.inr (Sum.inl true))
        else
          some (Sum.inr (Sum.inr false))).bind fun x3=>
    match x3 with
    | .inl x4 =>
      (zak N i1 i4.Job).bind fun x6=>
      (zdI N i0 i1 x6.1 i4).bind fun x7=>
      if (x7.2.2 != 0)=true then
        (zba N i4.Key x7.2.2).bind fun r8=>
        some (x7.1,x7.2.1,i2,r8,i27,i28)
      else
        some (x7.1,x7.2.1,i2,({ Key:=i4.Key,Err:=0,Job:=x6.1.Id,Version:=(IntKind.i64.wrap (x6.1.Version+1)),Nums:=[] }:zbo),i27,i28)
    | .inr x5 =>
      match x5 with
      | .inl x9 =>
        (zak N i1 i4.Job).bind fun x11=>
        (zbL N i0 i1 i2 x11.1 i23 i27 i28).bind fun x12=>
        if (x12.2.2.2.1 != 0)=true then
          (zba N i4.Key x12.2.2.2.1).bind fun r13=>
          some (x12.1,x12.2.1,x12.2.2.1,r13,x12.2.2.2.2.1,x12.2.2.2.2.2)
        else
          some (x12.1,x12.2.1,x12.2.2.1,({ Key:=i4.Key,Err:=0,Job:=x11.1.Id,Version:=(IntKind.i64.wrap (x11.1.Version+1)),Nums:=[] }:zbo),x12.2.2.2.2.1,x12.2.2.2.2.2)
      | .inr x10 =>
        (zak N i1 i4.Job).bind fun x14=>
        none
def zbG (N:Nat) (p0:(List Int)) (p1:(List Int)):Option (Bool):=
  if ((p0.length:Int) != (p1.length:Int))=true then
    some false
  else
    lpX (fun f2 (x1:Int)=>
      if (decide (x1<(p0.length:Int)))=true then
        (at? p0 x1).bind fun a3=>
        (at? p1 x1).bind fun a4=>
        if (a3 != a4)=true then
          some false
        else
          f2 (IntKind.i64.wrap (x1+1))
      else
        some true) N 0
def drayageref09xSame (N:Nat) (p0:zbo) (p1:zbo):Option (Bool):=
  if ((((p0.Key == p1.Key)&&(p0.Err == p1.Err))&&(p0.Job == p1.Job))&&(p0.Version == p1.Version))=true then
  (zbG N p0.Nums p1.Nums).bind fun r1=>
  some r1
  else
  some false
def store_Store_Start_obd85 (N:Nat) (i0:List zaj) (i1:List Int) (i2:List zae) (i3:List (Int×zac)) (i4:Int) (i5:(List zaa)) (i6:(List (List Int))) (i7:(List zaJ)) (i8:Int) (i9:Int) (i10:Int) (i11:Int) (i12:Int) (i13:Int) (i14:Int) (i15:Int) (i16:Int) (i17:Int) (i18:Int) (i19:Int) (i20:Int) (i21:Int) (i22:Int) (i23:Int) (i24:Int) (i25:(List zaa)):Option ((List (Int×zac)×List Int×List zae×Int×(List zaa)×Int)):=
  (zaz N i2 i4).bind fun x1=>
  if (!x1.2)=true then
    some (i3,i1,i2,30,i25,i24)
  else
    if (x1.1.State != 1)=true then
      some (i3,i1,i2,31,i25,i24)
    else
      (store_suits N ({ Nodes:=i5,Parts:=i6,Queues:=i7,Users:=i8,Weights:=({ Age:=i9,Size:=i10,Qos:=i11,Share:=i12 }:zbc),Decay:=i13,Mode:=i14,Jobs:=i15,Ids:=i16,Versions:=i17,Linger:=i18,Keep:=i19,In:=i20,Out:=i21,Cache:=i22 }:zad) x1.1 i0).bind fun r2=>
      if (!r2)=true then
        some (i3,i1,i2,2,i25,i24)
      else
        (job_Step N x1.1 3 i23 false).bind fun r3=>
        if (r3.2 != 0)=true then
          some (i3,i1,i2,r3.2,i25,i24)
        else
          (zcm N i0 i3 i4 x1.1.Need.Cpu x1.1.Need.Mem x1.1.Need.Gpu x1.1.Need.Lic i25).bind fun x4=>
          if (x4.2.1 != 0)=true then
            some (x4.1,i1,i2,x4.2.1,x4.2.2,i24)
          else
            (zdP N i24).bind fun r5=>
            (zau N i1 i2 x1.1 r3.1).bind fun x6=>
            some (x4.1,x6.2.1,x6.1,x6.2.2,x4.2.2,r5)
def drayagelaw26xawake (N:Nat):Option (Bool):=
  (drayageref07xSmall N).bind fun r1=>
  (zc2 N r1).bind fun x2=>
  match x2 with
  | .inl x3 =>
    (store_Store_Put_oe980 N).bind fun x5=>
    (store_Store_Start_odcef N).bind fun x6=>
    (shift_Do_oa917 N ({ Kind:=6,Key:=2,Job:=1,Version:=0,Queue:=0,Many:=0,Need:=({ Cpu:=0,Mem:=0,Gpu:=0,Lic:=0 }:zaa),Wall:=0,Tasks:=0,After:=[],Node:=0,From:=0,To:=0,Id:=0 }:zaB)).bind fun x7=>
    (store_Store_State_o9e3c N).bind fun x8=>
    some false
  | .inr x4 =>
    (store_Store_Put_o925b N x4.1 ({ Id:=1,User:=1,Queue:=0,Many:=1,Need:=({ Cpu:=1,Mem:=0,Gpu:=0,Lic:=0 }:zaa),Wall:=5,After:=[],State:=1,Ok:=false,Kill:=false,Version:=1,Born:=0,Start:=0,End:=0,Array:=0 }:zae) x4.2.2.2.2.2.2.2.2.2.2.2.2.2.1 x4.2.2.2.2.2.2.2.2.2.2.2.2.2.2.2.2.2.2.2.2.2.1 x4.2.2.2.2.2.2.2.2.2.2.2.2.2.2.2.2.2.2.2.2.2.2.2.2.2.1).bind fun x9=>
    match x9 with
    | .inl x10 =>
      (store_Store_Start_o5330 N ([({ Node:=1,Many:=1 }:zaj)]:List zaj) x10.1 x4.2.1 1 x4.2.2.1 x4.2.2.2.1 x4.2.2.2.2.1 x4.2.2.2.2.2.1 x4.2.2.2.2.2.2.1 x4.2.2.2.2.2.2.2.1 x4.2.2.2.2.2.2.2.2.1 x4.2.2.2.2.2.2.2.2.2.1 x4.2.2.2.2.2.2.2.2.2.2.1 x4.2.2.2.2.2.2.2.2.2.2.2.1 x4.2.2.2.2.2.2.2.2.2.2.2.2.1 x4.2.2.2.2.2.2.2.2.2.2.2.2.2.1 x4.2.2.2.2.2.2.2.2.2.2.2.2.2.2.1 x4.2.2.2.2.2.2.2.2.2.2.2.2.2.2.2.1 x4.2.2.2.2.2.2.2.2.2.2.2.2.2.2.2.2.1 x4.2.2.2.2.2.2.2.2.2.2.2.2.2.2.2.2.2.1 x4.2.2.2.2.2.2.2.2.2.2.2.2.2.2.2.2.2.2.1 x4.2.2.2.2.2.2.2.2.2.2.2.2.2.2.2.2.2.2.2.1 x4.2.2.2.2.2.2.2.2.2.2.2.2.2.2.2.2.2.2.2.2.1 x4.2.2.2.2.2.2.2.2.2.2.2.2.2.2.2.2.2.2.2.2.2.2.2.2.1 x4.2.2.2.2.2.2.2.2.2.2.2.2.2.2.2.2.2.2.2.2.2.2.2.2.2.2).bind fun x12=>
      (shift_Do_ofd76 N x12.2.1 x12.2.2.1 x12.1 1 ({ Kind:=6,Key:=2,Job:=1,Version:=0,Queue:=0,Many:=0,Need:=({ Cpu:=0,Mem:=0,Gpu:=0,Lic:=0 }:zaa),Wall:=0,Tasks:=0,After:=[],Node:=0,From:=0,To:=0,Id:=0 }:zaB) x4.2.2.1 x4.2.2.2.1 x4.2.2.2.2.1 x4.2.2.2.2.2.1 x4.2.2.2.2.2.2.1 x4.2.2.2.2.2.2.2.1 x4.2.2.2.2.2.2.2.2.1 x4.2.2.2.2.2.2.2.2.2.1 x4.2.2.2.2.2.2.2.2.2.2.1 x4.2.2.2.2.2.2.2.2.2.2.2.1 x4.2.2.2.2.2.2.2.2.2.2.2.2.1 x4.2.2.2.2.2.2.2.2.2.2.2.2.2.1 x4.2.2.2.2.2.2.2.2.2.2.2.2.2.2.1 x4.2.2.2.2.2.2.2.2.2.2.2.2.2.2.2.1 x4.2.2.2.2.2.2.2.2.2.2.2.2.2.2.2.2.1 x4.2.2.2.2.2.2.2.2.2.2.2.2.2.2.2.2.2.1 x4.2.2.2.2.2.2.2.2.2.2.2.2.2.2.2.2.2.2.1 x4.2.2.2.2.2.2.2.2.2.2.2.2.2.2.2.2.2.2.2.1 x4.2.2.2.2.2.2.2.2.2.2.2.2.2.2.2.2.2.2.2.2.1 x10.2.2 x4.2.2.2.2.2.2.2.2.2.2.2.2.2.2.2.2.2.2.2.2.2.2.1 x4.2.2.2.2.2.2.2.2.2.2.2.2.2.2.2.2.2.2.2.2.2.2.2.1 x12.2.2.2.2.2 x12.2.2.2.2.1).bind fun x13=>
      (zbf N x13.1 x13.2.1 x13.2.2.1 x4.2.2.2.2.2.2.2.2.2.2.2.2.2.2.2.2.2.2.2.2.1 x10.2.2 x4.2.2.2.2.2.2.2.2.2.2.2.2.2.2.2.2.2.2.2.2.2.2.1 x4.2.2.2.2.2.2.2.2.2.2.2.2.2.2.2.2.2.2.2.2.2.2.2.1 x13.2.2.2.2.1).bind fun x14=>
      if (x12.2.2.2.1 == 0)=true then
      (drayageref09xSame N x13.2.2.2.1 ({ Key:=2,Err:=0,Job:=1,Version:=3,Nums:=[] }:zbo)).bind fun r15=>
      if ((r15&&((x14.Allocs.length:Int) == 0))&&((x14.Jobs.length:Int) == 1))=true then
      (at? x14.Jobs 0).bind fun a16=>
      some (a16.State == 1)
      else
      some false
      else
      some false
    | .inr x11 =>
      (store_Store_Start_obd85 N ([({ Node:=1,Many:=1 }:zaj)]:List zaj) x11.1 x11.2.1 x4.2.1 1 x4.2.2.1 x4.2.2.2.1 x4.2.2.2.2.1 x4.2.2.2.2.2.1 x4.2.2.2.2.2.2.1 x4.2.2.2.2.2.2.2.1 x4.2.2.2.2.2.2.2.2.1 x4.2.2.2.2.2.2.2.2.2.1 x4.2.2.2.2.2.2.2.2.2.2.1 x4.2.2.2.2.2.2.2.2.2.2.2.1 x4.2.2.2.2.2.2.2.2.2.2.2.2.1 x4.2.2.2.2.2.2.2.2.2.2.2.2.2.1 x4.2.2.2.2.2.2.2.2.2.2.2.2.2.2.1 x4.2.2.2.2.2.2.2.2.2.2.2.2.2.2.2.1 x4.2.2.2.2.2.2.2.2.2.2.2.2.2.2.2.2.1 x4.2.2.2.2.2.2.2.2.2.2.2.2.2.2.2.2.2.1 x4.2.2.2.2.2.2.2.2.2.2.2.2.2.2.2.2.2.2.1 x4.2.2.2.2.2.2.2.2.2.2.2.2.2.2.2.2.2.2.2.1 x4.2.2.2.2.2.2.2.2.2.2.2.2.2.2.2.2.2.2.2.2.1 x4.2.2.2.2.2.2.2.2.2.2.2.2.2.2.2.2.2.2.2.2.2.2.2.2.1 x4.2.2.2.2.2.2.2.2.2.2.2.2.2.2.2.2.2.2.2.2.2.2.2.2.2.2).bind fun x17=>
      (shift_Do_ofd76 N x17.2.1 x17.2.2.1 x17.1 1 ({ Kind:=6,Key:=2,Job:=1,Version:=0,Queue:=0,Many:=0,Need:=({ Cpu:=0,Mem:=0,Gpu:=0,Lic:=0 }:zaa),Wall:=0,Tasks:=0,After:=[],Node:=0,From:=0,To:=0,Id:=0 }:zaB) x4.2.2.1 x4.2.2.2.1 x4.2.2.2.2.1 x4.2.2.2.2.2.1 x4.2.2.2.2.2.2.1 x4.2.2.2.2.2.2.2.1 x4.2.2.2.2.2.2.2.2.1 x4.2.2.2.2.2.2.2.2.2.1 x4.2.2.2.2.2.2.2.2.2.2.1 x4.2.2.2.2.2.2.2.2.2.2.2.1 x4.2.2.2.2.2.2.2.2.2.2.2.2.1 x4.2.2.2.2.2.2.2.2.2.2.2.2.2.1 x4.2.2.2.2.2.2.2.2.2.2.2.2.2.2.1 x4.2.2.2.2.2.2.2.2.2.2.2.2.2.2.2.1 x4.2.2.2.2.2.2.2.2.2.2.2.2.2.2.2.2.1 x4.2.2.2.2.2.2.2.2.2.2.2.2.2.2.2.2.2.1 x4.2.2.2.2.2.2.2.2.2.2.2.2.2.2.2.2.2.2.1 x4.2.2.2.2.2.2.2.2.2.2.2.2.2.2.2.2.2.2.2.1 x4.2.2.2.2.2.2.2.2.2.2.2.2.2.2.2.2.2.2.2.2.1 x11.2.2.2 x4.2.2.2.2.2.2.2.2.2.2.2.2.2.2.2.2.2.2.2.2.2.2.1 x4.2.2.2.2.2.2.2.2.2.2.2.2.2.2.2.2.2.2.2.2.2.2.2.1 x17.2.2.2.2.2 x17.2.2.2.2.1).bind fun x18=>
      (zbf N x18.1 x18.2.1 x18.2.2.1 x4.2.2.2.2.2.2.2.2.2.2.2.2.2.2.2.2.2.2.2.2.1 x11.2.2.2 x4.2.2.2.2.2.2.2.2.2.2.2.2.2.2.2.2.2.2.2.2.2.2.1 x4.2.2.2.2.2.2.2.2.2.2.2.2.2.2.2.2.2.2.2.2.2.2.2.1 x18.2.2.2.2.1).bind fun x19=>
      if (x17.2.2.2.1 == 0)=true then
      (drayageref09xSame N x18.2.2.2.1 ({ Key:=2,Err:=0,Job:=1,Version:=3,Nums:=[] }:zbo)).bind fun r20=>
      if ((r20&&((x19.Allocs.length:Int) == 0))&&((x19.Jobs.length:Int) == 1))=true then
      (at? x19.Jobs 0).bind fun a21=>
      some (a21.State == 1)
      else
      some false
      else
      some false
def zdK (N:Nat) (p0:zad):Option (Bool):=
  if (((decide ((p0.Nodes.length:Int) > 40)) || (decide ((p0.Parts.length:Int) > 20))) || (decide ((p0.Queues.length:Int) > 20)))=true then
    some false
  else
    lpX (fun f2 (x1:Int)=>
      if (decide (x1<(p0.Parts.length:Int)))=true then
        (at? p0.Parts x1).bind fun a3=>
        if (decide ((a3.length:Int) > 40))=true then
          some false
        else
          f2 (IntKind.i64.wrap (x1+1))
      else
        lpX (fun f5 (x4:Int)=>
          if (decide (x4<(p0.Queues.length:Int)))=true then
            (at? p0.Queues x4).bind fun a6=>
            if (decide ((a6.Users.length:Int) > 40))=true then
              some false
            else
              f5 (IntKind.i64.wrap (x4+1))
          else
            some true) N 0) N 0
def zdO (N:Nat) (p0:(List zae)):Option (Bool):=
  if (decide ((p0.length:Int) > 30))=true then
    some false
  else
    lpX (fun f2 (x1:Int)=>
      if (decide (x1<(p0.length:Int)))=true then
        (at? p0 x1).bind fun a3=>
        if (decide ((a3.After.length:Int) > 10))=true then
          some false
        else
          f2 (IntKind.i64.wrap (x1+1))
      else
        some true) N 0
def zdN (N:Nat) (p0:zad) (p1:zag):Option (Bool):=
  jn (fun (x1:Bool)=>
    if x1=true then
      some false
    else
      lpX (fun f4 (x3:Int)=>
        if (decide (x3<(p1.Allocs.length:Int)))=true then
          (at? p1.Allocs x3).bind fun a5=>
          if (decide ((a5.Shares.length:Int) > 40))=true then
            some false
          else
            f4 (IntKind.i64.wrap (x3+1))
        else
          some true) N 0) fun j2=>
  (zdK N p0).bind fun r6=>
  if (!r6)=true then
  j2 true
  else
  (zdO N p1.Jobs).bind fun r7=>
  j2 (((((!r7) || (decide ((p1.Allocs.length:Int) > 40))) || (decide ((p1.Books.length:Int) > 20))) || (decide ((p1.Use.length:Int) > 20))) || (decide ((p1.Stamps.Queues.length:Int) > 20)))
def zcr (N:Nat) (p0:Int) (p1:Int) (p2:Int):Option (Bool):=
  some ((decide (p1≤p0))&&(decide (p0≤p2)))
def store_numbers (N:Nat) (p0:zad) (p1:zag):Option (Bool):=
  (zcr N p1.Now 0 1099511627776).bind fun r1=>
  if r1=true then
  (zcr N p1.Next 1 (IntKind.i64.wrap (p0.Ids+1))).bind fun r2=>
  if r2=true then
  (zcr N p1.Book 1 281474976710656).bind fun r3=>
  some r3
  else
  some false
  else
  some false
def store_extra (N:Nat) (p0:Int):Option (Int):=
  if (p0 == 3)=true then
    some 1
  else
    if (p0 == 4)=true then
      some 2
    else
      (zdE N p0).bind fun r1=>
      if r1=true then
        some 3
      else
        some 0
def store_jobs (N:Nat) (p0:zad) (p1:zag):Option (Bool):=
  if (decide ((p1.Jobs.length:Int) > p0.Jobs))=true then
    some false
  else
    lpX (fun f2 (x1:Int×Int)=>
      if (decide (x1.2<(p1.Jobs.length:Int)))=true then
        (at? p1.Jobs x1.2).bind fun a3=>
        (zc6 N a3).bind fun r4=>
        if (((!r4) || (decide (a3.Id≤x1.1))) || (decide (a3.Id≥p1.Next)))=true then
          some false
        else
          if ((decide (a3.User≥p0.Users)) || (decide (a3.Queue≥(p0.Queues.length:Int))))=true then
            some false
          else
            jn (fun (x5:Bool)=>
              if x5=true then
                some false
              else
                f2 (a3.Id,(IntKind.i64.wrap (x1.2+1)))) fun j6=>
            if (decide ((if a3.End > (if a3.Start > a3.Born then a3.Start else a3.Born) then a3.End else (if a3.Start > a3.Born then a3.Start else a3.Born)) > p1.Now))=true then
            j6 true
            else
            (store_extra N a3.State).bind fun r7=>
            j6 (decide (a3.Version > (IntKind.i64.wrap (p0.Versions+r7))))
      else
        some true) N (0,0)
def store_find_1 (N:Nat) (p0:zae) (p1:Int):Option (Int):=
  some (IntKind.i64.wrap (p0.Id-p1))
def zao (N:Nat) (p0:(List zae)) (p1:Int):Option (Int×Bool):=
  lpX (fun f2 (x1:Int×Int)=>
    if (decide (x1.1<x1.2))=true then
      (at? p0 (IntKind.i64.wrap (Int.fdiv (IntKind.u64.wrap (IntKind.i64.wrap (x1.1+x1.2))) (2 ^ 1)))).bind fun a3=>
      (store_find_1 N a3 p1).bind fun r4=>
      if (decide (r4<0))=true then
        f2 ((IntKind.i64.wrap ((IntKind.i64.wrap (Int.fdiv (IntKind.u64.wrap (IntKind.i64.wrap (x1.1+x1.2))) (2 ^ 1)))+1)),x1.2)
      else
        f2 (x1.1,(IntKind.i64.wrap (Int.fdiv (IntKind.u64.wrap (IntKind.i64.wrap (x1.1+x1.2))) (2 ^ 1))))
    else
      if (decide (x1.1<(p0.length:Int)))=true then
      (at? p0 x1.1).bind fun a5=>
      (store_find_1 N a5 p1).bind fun r6=>
      some (x1.1,(r6 == 0))
      else
      some (x1.1,false)) N (0,(p0.length:Int))
def store_find (N:Nat) (p0:(List zae)) (p1:Int):Option (Int×Bool):=
  (zao N p0 p1).bind fun r1=>
  some (r1.1,r1.2)
def store_waiting (N:Nat) (p0:zad) (p1:zag):Option (Bool):=
  lpX (fun f2 (x1:Int)=>
    if (decide (x1<(p1.Jobs.length:Int)))=true then
      jn (fun (x3:Unit)=>
        f2 (IntKind.i64.wrap (x1+1))) fun j4=>
      (at? p1.Jobs x1).bind fun a5=>
      (zdE N a5.State).bind fun r6=>
      if r6=true then
        j4 ()
      else
        (spec_Fits N p0 a5.Queue a5.Many a5.Need).bind fun r7=>
        if (!r7)=true then
          some false
        else
          lpX (fun f9 (x8:Int)=>
            if (decide (x8<(a5.After.length:Int)))=true then
              (at? a5.After x8).bind fun a10=>
              (store_find N p1.Jobs a10.Job).bind fun r11=>
              if (!r11.2)=true then
                some false
              else
                f9 (IntKind.i64.wrap (x8+1))
            else
              j4 ()) N 0
    else
      some true) N 0
def zbm (N:Nat) (i0:zac) (i1:(List zaa)):Option (((List zaa)×Int)):=
  (zaq N i1).bind fun x1=>
  lpX (fun f3 (x2:Int×List zaa)=>
    if (decide (x2.1<(i0.Shares.length:Int)))=true then
      (at? i0.Shares x2.1).bind fun a4=>
      (vec_Times N i0.Need a4.Many).bind fun r5=>
      if (r5.2 != 0)=true then
        some ([],r5.2)
      else
        (at? x2.2 a4.Node).bind fun a6=>
        (vec_Sub N a6 r5.1).bind fun r7=>
        (at? x2.2 a4.Node).bind fun a8=>
        if (r7.2 != 0)=true then
          some ([],r7.2)
        else
          f3 ((IntKind.i64.wrap (x2.1+1)),(x2.2.set a4.Node.toNat r7.1))
    else
      some (x2.2,0)) N (0,x1)
def za1 (N:Nat) (i0:List (Int×zac)) (i1:zac) (i2:(List zaa)):Option ((List (Int×zac)×Int×(List zaa))):=
  jn (fun (x1:Bool)=>
    if x1=true then
      some (i0,2,i2)
    else
      oel (mget i0 i1.Job) (
        (zbm N i1 i2).bind fun x4=>
        if (x4.2 != 0)=true then
          some (i0,x4.2,i2)
        else
          (ledger_own N i1).bind fun r5=>
          some ((mset i0 i1.Job r5),0,x4.1)) fun v3=>
      some (i0,31,i2)) fun j2=>
  if (((decide (i1.Job<1)) || (decide (i1.Job > 1048576))) || ((i1.Shares.length:Int) == 0))=true then
  j2 true
  else
  (place_Right N i1.Shares (i2.length:Int)).bind fun r6=>
  if (!r6)=true then
  j2 true
  else
  (zbH N i1.Need).bind fun r7=>
  j2 (!r7)
def zdi (N:Nat) (p0:zad) (p1:zag):Option (Bool):=
  (zcA N p0).bind fun x1=>
  match x1 with
  | .inl x2 =>
    some false
  | .inr x3 =>
    lpX (fun f5 (x4:(List zac)×Int×(List zaa)×List (Int×zac))=>
      if (decide (x4.2.1<(p1.Jobs.length:Int)))=true then
        jn (fun (x6:(List zac)×(List zaa)×List (Int×zac))=>
          f5 (x6.1,(IntKind.i64.wrap (x4.2.1+1)),x6.2.1,x6.2.2)) fun j7=>
        (at? p1.Jobs x4.2.1).bind fun a8=>
        (life_Has N a8.State).bind fun r9=>
        if (!r9)=true then
          j7 (x4.1,x4.2.2.1,x4.2.2.2)
        else
          if ((decide ((IntKind.i64.wrap (a8.Start+a8.Wall))≤p1.Now)) || ((x4.1.length:Int) == 0))=true then
            some false
          else
            (at? x4.1 0).bind fun a10=>
            (slice? x4.1 1 (x4.1.length:Int)).bind fun z11=>
            jn (fun (x12:Bool×(List zaa)×List (Int×zac))=>
              if x12.1=true then
                some false
              else
                j7 (z11,x12.2.1,x12.2.2)) fun j13=>
            if ((a10.Job != a8.Id) || (!(zaa.beq a10.Need a8.Need)))=true then
            j13 (true,x4.2.2.1,x4.2.2.2)
            else
            (store_suits N p0 a8 a10.Shares).bind fun r14=>
            if (!r14)=true then
            j13 (true,x4.2.2.1,x4.2.2.2)
            else
            (za1 N x4.2.2.2 a10 x4.2.2.1).bind fun x15=>
            j13 ((x15.2.1 != 0),x15.2.2,x15.1)
      else
        some ((x4.1.length:Int) == 0)) N (p1.Allocs,0,x3.2,x3.1)
def book_whole (N:Nat) (p0:zah) (p1:Int):Option (Bool):=
  some (((((((decide (p0.Id≥1))&&(decide (p0.Id≤281474976710656)))&&(decide (p0.Node≥0)))&&(decide (p0.Node<p1)))&&(decide (p0.From≥0)))&&(decide (p0.From<p0.To)))&&(decide (p0.To≤1099511627776)))
def book_Meets (N:Nat) (p0:(List zah)) (p1:Int) (p2:Int) (p3:Int):Option (Bool):=
  lpX (fun f2 (x1:Int)=>
    if (decide (x1<(p0.length:Int)))=true then
      (at? p0 x1).bind fun a3=>
      if ((a3.Node == p1)&&(decide ((if p2 > a3.From then p2 else a3.From)<(if p3<a3.To then p3 else a3.To))))=true then
        some true
      else
        f2 (IntKind.i64.wrap (x1+1))
    else
      some false) N 0
def book_Right (N:Nat) (p0:(List zah)) (p1:Int):Option (Bool):=
  if (decide ((p0.length:Int) > 16))=true then
    some false
  else
    lpX (fun f2 (x1:Int)=>
      if (decide (x1<(p0.length:Int)))=true then
        (at? p0 x1).bind fun a3=>
        jn (fun (x4:Bool)=>
          if x4=true then
            some false
          else
            f2 (IntKind.i64.wrap (x1+1))) fun j5=>
        (book_whole N a3 p1).bind fun r6=>
        if (!r6)=true then
        j5 true
        else
        if (decide (x1 > 0))=true then
        (at? p0 (IntKind.i64.wrap (x1-1))).bind fun a7=>
        if (decide (a3.Id≤a7.Id))=true then
        j5 true
        else
        (slice? p0 0 x1).bind fun z8=>
        (book_Meets N z8 a3.Node a3.From a3.To).bind fun r9=>
        j5 r9
        else
        (slice? p0 0 x1).bind fun z10=>
        (book_Meets N z10 a3.Node a3.From a3.To).bind fun r11=>
        j5 r11
      else
        some true) N 0
def store_bookings (N:Nat) (p0:zad) (p1:zag):Option (Bool):=
  (book_Right N p1.Books (p0.Nodes.length:Int)).bind fun r1=>
  if (!r1)=true then
    some false
  else
    lpX (fun f3 (x2:Int)=>
      if (decide (x2<(p1.Books.length:Int)))=true then
        (at? p1.Books x2).bind fun a4=>
        if ((decide (a4.Id≥p1.Book)) || (decide (a4.To≤p1.Now)))=true then
          some false
        else
          f3 (IntKind.i64.wrap (x2+1))
      else
        lpX (fun f6 (x5:Int)=>
          if (decide (x5<(p1.Allocs.length:Int)))=true then
            (at? p1.Allocs x5).bind fun a7=>
            (store_find N p1.Jobs a7.Job).bind fun r8=>
            if (!r8.2)=true then
              some false
            else
              lpX (fun f10 (x9:Int)=>
                if (decide (x9<(a7.Shares.length:Int)))=true then
                  (at? a7.Shares x9).bind fun a11=>
                  (at? p1.Jobs r8.1).bind fun a12=>
                  (at? p1.Jobs r8.1).bind fun a13=>
                  (book_Meets N p1.Books a11.Node p1.Now (IntKind.i64.wrap (a12.Start+a13.Wall))).bind fun r14=>
                  if r14=true then
                    some false
                  else
                    f10 (IntKind.i64.wrap (x9+1))
                else
                  f6 (IntKind.i64.wrap (x5+1))) N 0
          else
            some true) N 0) N 0
def share_Right (N:Nat) (p0:(List Int)):Option (Bool):=
  lpX (fun f2 (x1:Int)=>
    if (decide (x1<(p0.length:Int)))=true then
      (at? p0 x1).bind fun a3=>
      if ((decide (a3<0)) || (decide (a3 > 1099511627776)))=true then
        some false
      else
        f2 (IntKind.i64.wrap (x1+1))
    else
      some true) N 0
def store_usage (N:Nat) (p0:zad) (p1:zag):Option (Bool):=
  jn (fun (x1:Bool)=>
    if x1=true then
      some false
    else
      jn (fun (x3:Bool)=>
        if x3=true then
          some false
        else
          lpX (fun f6 (x5:Int)=>
            if (decide (x5<(p1.Stamps.Queues.length:Int)))=true then
              (at? p1.Stamps.Queues x5).bind fun a7=>
              (zcr N a7 0 281474976710656).bind fun r8=>
              if (!r8)=true then
                some false
              else
                f6 (IntKind.i64.wrap (x5+1))
            else
              some true) N 0) fun j4=>
      if ((p1.Stamps.Queues.length:Int) != (p0.Queues.length:Int))=true then
      j4 true
      else
      (zcr N p1.Stamps.Nodes 0 281474976710656).bind fun r9=>
      j4 (!r9)) fun j2=>
  if ((p1.Use.length:Int) != p0.Users)=true then
  j2 true
  else
  (share_Right N p1.Use).bind fun r10=>
  j2 (!r10)
def store_Sound (N:Nat) (p0:zad) (p1:zag):Option (Bool):=
  (zbV N p0).bind fun r1=>
  if r1=true then
  (store_numbers N p0 p1).bind fun r2=>
  if r2=true then
  (store_jobs N p0 p1).bind fun r3=>
  if r3=true then
  (store_waiting N p0 p1).bind fun r4=>
  if r4=true then
  (zdi N p0 p1).bind fun r5=>
  if r5=true then
  (store_bookings N p0 p1).bind fun r6=>
  if r6=true then
  (store_usage N p0 p1).bind fun r7=>
  some r7
  else
  some false
  else
  some false
  else
  some false
  else
  some false
  else
  some false
  else
  some false
def zbY (N:Nat) (i0:List zae) (i1:zae) (i2:Int):Option ((List zae×Int)):=
  (zc6 N i1).bind fun r1=>
  if (!r1)=true then
    some (i0,2)
  else
    (zar N i0 i1.Id).bind fun x2=>
    if x2.2=true then
      some (i0,31)
    else
      if ((i0.length:Int) == i2)=true then
        some (i0,35)
      else
        (table_own N i1).bind fun r3=>
        (zaF N i0 ([r3]:List zae) x2.1).bind fun x4=>
        some (x4,0)
def zaM (N:Nat) (a0:(List zah)):Option ((List zah)):=app? [] a0
def zaY (N:Nat) (a0:(List Int)):Option ((List Int)):=app? [] a0
def zcD (N:Nat) (i0:zad) (i1:zag):Option ((Int) ⊕ (List Int×List zae×List (Int×zac)×(List zaa)×(List (List Int))×(List zaJ)×Int×Int×Int×Int×Int×Int×Int×Int×Int×Int×Int×Int×Int×Int×Int×Int×Int×Int×(List zah)×(List Int)×Int×Int×(List zaa))):=
  (store_Sound N i0 i1).bind fun r1=>
  if (!r1)=true then
    some (Sum.inl 2)
  else
    (zc2 N i0).bind fun x2=>
    match x2 with
    | .inl x3 =>
      some (Sum.inl 2)
    | .inr x4 =>
      lpX (fun f6 (x5:Int×List zae)=>
        if (decide (x5.1<(i1.Jobs.length:Int)))=true then
          (at? i1.Jobs x5.1).bind fun a7=>
          (zbY N x5.2 a7 x4.2.2.2.2.2.2.2.2.2.2.2.2.2.2.2.2.2.2.2.2.2.2.2.2.2.1).bind fun x8=>
          if (x8.2 != 0)=true then
            some (Sum.inl x8.2)
          else
            f6 ((IntKind.i64.wrap (x5.1+1)),x8.1)
        else
          lpX (fun f10 (x9:Int×(List zaa)×List (Int×zac))=>
            if (decide (x9.1<(i1.Allocs.length:Int)))=true then
              (at? i1.Allocs x9.1).bind fun a11=>
              (za1 N x9.2.2 a11 x9.2.1).bind fun x12=>
              if (x12.2.1 != 0)=true then
                some (Sum.inl x12.2.1)
              else
                f10 ((IntKind.i64.wrap (x9.1+1)),x12.2.2,x12.1)
            else
              (zaM N i1.Books).bind fun x13=>
              (zaY N i1.Use).bind fun x14=>
              (zaY N i1.Stamps.Queues).bind fun x15=>
              some (Sum.inr (x15,x5.2,x9.2.2,x4.2.2.1,x4.2.2.2.1,x4.2.2.2.2.1,x4.2.2.2.2.2.1,x4.2.2.2.2.2.2.1,x4.2.2.2.2.2.2.2.1,x4.2.2.2.2.2.2.2.2.1,x4.2.2.2.2.2.2.2.2.2.1,x4.2.2.2.2.2.2.2.2.2.2.1,x4.2.2.2.2.2.2.2.2.2.2.2.1,x4.2.2.2.2.2.2.2.2.2.2.2.2.1,x4.2.2.2.2.2.2.2.2.2.2.2.2.2.1,x4.2.2.2.2.2.2.2.2.2.2.2.2.2.2.1,x4.2.2.2.2.2.2.2.2.2.2.2.2.2.2.2.1,x4.2.2.2.2.2.2.2.2.2.2.2.2.2.2.2.2.1,x4.2.2.2.2.2.2.2.2.2.2.2.2.2.2.2.2.2.1,x4.2.2.2.2.2.2.2.2.2.2.2.2.2.2.2.2.2.2.1,x4.2.2.2.2.2.2.2.2.2.2.2.2.2.2.2.2.2.2.2.1,i1.Now,i1.Next,i1.Book,x13,x14,i1.Stamps.Nodes,x4.2.2.2.2.2.2.2.2.2.2.2.2.2.2.2.2.2.2.2.2.2.2.2.2.2.1,x9.2.1))) N (0,x4.2.2.2.2.2.2.2.2.2.2.2.2.2.2.2.2.2.2.2.2.2.2.2.2.2.2,x4.2.1)) N (0,([]:List zae))
def zai (N:Nat) (p0:Int) (p1:Int) (p2:Int):Option (Bool):=
  some ((decide (p1≤p0))&&(decide (p0≤p2)))
def zbA (N:Nat) (p0:Int):Option (Bool):=
  some ((decide (p0≥0))&&(decide (p0≤1048576)))
def zaE (N:Nat) (p0:zaa):Option (Bool):=
  (zbA N p0.Cpu).bind fun r1=>
  if r1=true then
  (zbA N p0.Mem).bind fun r2=>
  if r2=true then
  (zbA N p0.Gpu).bind fun r3=>
  if r3=true then
  (zbA N p0.Lic).bind fun r4=>
  some r4
  else
  some false
  else
  some false
  else
  some false
def zb9 (N:Nat) (p0:zad):Option (Bool):=
  lpX (fun f2 (x1:Int)=>
    if (decide (x1<(p0.Nodes.length:Int)))=true then
      (at? p0.Nodes x1).bind fun a3=>
      (zaE N a3).bind fun r4=>
      if (!r4)=true then
        some false
      else
        f2 (IntKind.i64.wrap (x1+1))
    else
      (zai N (p0.Nodes.length:Int) 1 16).bind fun r5=>
      some r5) N 0
def zbJ (N:Nat) (p0:(List Int)) (p1:Int):Option (Bool):=
  lpX (fun f2 (x1:Int)=>
    if (decide (x1<(p0.length:Int)))=true then
      jn (fun (x3:Bool)=>
        if x3=true then
          some false
        else
          f2 (IntKind.i64.wrap (x1+1))) fun j4=>
      (at? p0 x1).bind fun a5=>
      if (decide (a5<0))=true then
      j4 true
      else
      (at? p0 x1).bind fun a6=>
      if (decide (a6≥p1))=true then
      j4 true
      else
      if (decide (x1 > 0))=true then
      (at? p0 (IntKind.i64.wrap (x1-1))).bind fun a7=>
      (at? p0 x1).bind fun a8=>
      j4 (decide (a7≥a8))
      else
      j4 false
    else
      some true) N 0
def zb7 (N:Nat) (p0:zad):Option (Bool):=
  lpX (fun f2 (x1:Int)=>
    if (decide (x1<(p0.Parts.length:Int)))=true then
      jn (fun (x3:Bool)=>
        if x3=true then
          some false
        else
          f2 (IntKind.i64.wrap (x1+1))) fun j4=>
      (at? p0.Parts x1).bind fun a5=>
      if (decide ((a5.length:Int)<1))=true then
      j4 true
      else
      (at? p0.Parts x1).bind fun a6=>
      (zbJ N a6 (p0.Nodes.length:Int)).bind fun r7=>
      j4 (!r7)
    else
      (zai N (p0.Parts.length:Int) 1 8).bind fun r8=>
      some r8) N 0
def zbI (N:Nat) (p0:zad):Option (Bool):=
  lpX (fun f2 (x1:Int)=>
    if (decide (x1<(p0.Queues.length:Int)))=true then
      (at? p0.Queues x1).bind fun a3=>
      jn (fun (x4:Bool)=>
        if x4=true then
          some false
        else
          f2 (IntKind.i64.wrap (x1+1))) fun j5=>
      if ((decide (a3.Part<0)) || (decide (a3.Part≥(p0.Parts.length:Int))))=true then
      j5 true
      else
      (zbJ N a3.Users p0.Users).bind fun r6=>
      if (!r6)=true then
      j5 true
      else
      (zai N a3.MaxJobs 1 256).bind fun r7=>
      if (!r7)=true then
      j5 true
      else
      (zai N a3.MaxRun 1 256).bind fun r8=>
      if (!r8)=true then
      j5 true
      else
      (zai N a3.MaxUser 1 256).bind fun r9=>
      if (!r9)=true then
      j5 true
      else
      (zai N a3.Qos 0 100).bind fun r10=>
      j5 (!r10)
    else
      (zai N (p0.Queues.length:Int) 1 8).bind fun r11=>
      some r11) N 0
def drayageref07xFlaw (N:Nat) (p0:zad):Option (ByteArray):=
  jn (fun (x1:Bool)=>
    (zb9 N p0).bind fun r3=>
    (zb7 N p0).bind fun r4=>
    (zai N p0.Users 1 8).bind fun r5=>
    (zbI N p0).bind fun r6=>
    (zai N p0.Decay 1 16).bind fun r7=>
    (zai N p0.Mode 1 2).bind fun r8=>
    (zai N p0.Jobs 1 256).bind fun r9=>
    (zai N p0.Ids 1 1048576).bind fun r10=>
    (zai N p0.Versions 1 65536).bind fun r11=>
    (zai N p0.Linger 0 65536).bind fun r12=>
    (zai N p0.Keep 1 16).bind fun r13=>
    (zai N p0.In 1 8).bind fun r14=>
    (zai N p0.Out 1 16).bind fun r15=>
    (zai N p0.Cache 0 16).bind fun r16=>
    lpX (fun f18 (x17:Int)=>
      if (decide (x17<15))=true then
        (at? ([r3,r4,r5,r6,x1,r7,r8,r9,r10,r11,r12,r13,r14,r15,r16]:List Bool) x17).bind fun a19=>
        if (!a19)=true then
          (at? ([(⟨#[78,111,100,101,115]⟩:ByteArray),(⟨#[80,97,114,116,115]⟩:ByteArray),(⟨#[85,115,101,114,115]⟩:ByteArray),(⟨#[81,117,101,117,101,115]⟩:ByteArray),(⟨#[87,101,105,103,104,116,115]⟩:ByteArray),(⟨#[68,101,99,97,121]⟩:ByteArray),(⟨#[77,111,100,101]⟩:ByteArray),(⟨#[74,111,98,115]⟩:ByteArray),(⟨#[73,100,115]⟩:ByteArray),(⟨#[86,101,114,115,105,111,110,115]⟩:ByteArray),(⟨#[76,105,110,103,101,114]⟩:ByteArray),(⟨#[75,101,101,112]⟩:ByteArray),(⟨#[73,110]⟩:ByteArray),(⟨#[79,117,116]⟩:ByteArray),(⟨#[67,97,99,104,101]⟩:ByteArray)]:List ByteArray) x17).bind fun a20=>
          some a20
        else
          f18 (IntKind.i64.wrap (x17+1))
      else
        some (⟨#[]⟩:ByteArray)) N 0) fun j2=>
  (zai N p0.Weights.Age 0 1000).bind fun r21=>
  if r21=true then
  (zai N p0.Weights.Size 0 1000).bind fun r22=>
  if r22=true then
  (zai N p0.Weights.Qos 0 1000).bind fun r23=>
  if r23=true then
  (zai N p0.Weights.Share 0 1000).bind fun r24=>
  j2 r24
  else
  j2 false
  else
  j2 false
  else
  j2 false
def zb8 (N:Nat) (p0:zad):Option (Bool):=
  (drayageref07xFlaw N p0).bind fun r1=>
  some (r1.toList == (⟨#[]⟩:ByteArray).toList)
def zaW (N:Nat) (p0:Int):Option (Bool):=
  some ((decide (p0≥0))&&(decide (p0≤281474976710656)))
def za4 (N:Nat) (p0:(List zae)) (p1:Int):Option (Int):=
  lpX (fun f2 (x1:Int)=>
    if (decide (x1<(p0.length:Int)))=true then
      (at? p0 x1).bind fun a3=>
      if (a3.Id == p1)=true then
        some x1
      else
        f2 (IntKind.i64.wrap (x1+1))
    else
      some (-1)) N 0
def za8 (N:Nat) (p0:(List zaj)) (p1:Int):Option (Bool):=
  lpX (fun f2 (x1:Int)=>
    if (decide (x1<(p0.length:Int)))=true then
      jn (fun (x3:Bool)=>
        if x3=true then
          some false
        else
          f2 (IntKind.i64.wrap (x1+1))) fun j4=>
      (at? p0 x1).bind fun a5=>
      if (decide (a5.Node<0))=true then
      j4 true
      else
      (at? p0 x1).bind fun a6=>
      if (decide (a6.Node≥p1))=true then
      j4 true
      else
      (at? p0 x1).bind fun a7=>
      if (decide (a7.Many<1))=true then
      j4 true
      else
      (at? p0 x1).bind fun a8=>
      if (decide (a8.Many > 64))=true then
      j4 true
      else
      if (decide (x1 > 0))=true then
      (at? p0 (IntKind.i64.wrap (x1-1))).bind fun a9=>
      (at? p0 x1).bind fun a10=>
      j4 (decide (a9.Node≥a10.Node))
      else
      j4 false
    else
      some true) N 0
def zcj (N:Nat) (p0:(List zaj)) (p1:Int):Option (Int):=
  lpX (fun f2 (x1:Int×Int)=>
    if (decide (x1.2<(p0.length:Int)))=true then
      jn (fun (x3:Int)=>
        f2 (x3,(IntKind.i64.wrap (x1.2+1)))) fun j4=>
      (at? p0 x1.2).bind fun a5=>
      if (a5.Node == p1)=true then
        (at? p0 x1.2).bind fun a6=>
        j4 (IntKind.i64.wrap (x1.1+a6.Many))
      else
        j4 x1.1
    else
      some x1.1) N (0,0)
def zaR (N:Nat) (p0:zaa) (p1:zaa):Option (zaa):=
  some ({ Cpu:=(IntKind.i64.wrap (p0.Cpu+p1.Cpu)),Mem:=(IntKind.i64.wrap (p0.Mem+p1.Mem)),Gpu:=(IntKind.i64.wrap (p0.Gpu+p1.Gpu)),Lic:=(IntKind.i64.wrap (p0.Lic+p1.Lic)) }:zaa)
def zb1 (N:Nat) (p0:zaa) (p1:Int):Option (zaa):=
  lpX (fun f2 (x1:Int×Int×Int×Int×Int)=>
    if (decide (x1.1<p1))=true then
      (zaR N ({ Cpu:=x1.2.1,Mem:=x1.2.2.1,Gpu:=x1.2.2.2.1,Lic:=x1.2.2.2.2 }:zaa) p0).bind fun r3=>
      f2 ((IntKind.i64.wrap (x1.1+1)),r3.Cpu,r3.Mem,r3.Gpu,r3.Lic)
    else
      some ({ Cpu:=x1.2.1,Mem:=x1.2.2.1,Gpu:=x1.2.2.2.1,Lic:=x1.2.2.2.2 }:zaa)) N (0,0,0,0,0)
def zav (N:Nat) (p0:zaa) (p1:zaa):Option (Bool):=
  some ((((decide (p0.Cpu≤p1.Cpu))&&(decide (p0.Mem≤p1.Mem)))&&(decide (p0.Gpu≤p1.Gpu)))&&(decide (p0.Lic≤p1.Lic)))
def drayageref02xSub (N:Nat) (p0:zaa) (p1:zaa):Option (zaa):=
  some ({ Cpu:=(IntKind.i64.wrap (p0.Cpu-p1.Cpu)),Mem:=(IntKind.i64.wrap (p0.Mem-p1.Mem)),Gpu:=(IntKind.i64.wrap (p0.Gpu-p1.Gpu)),Lic:=(IntKind.i64.wrap (p0.Lic-p1.Lic)) }:zaa)
def zdg (N:Nat) (p0:(List zaa)) (p1:(List zac)):Option ((List zaa)×Bool):=
  lpX (fun f2 (x1:Bool×Int×List zaa)=>
    if (decide (x1.2.1<(p0.length:Int)))=true then
      lpX (fun f4 (x3:Int×Int×Int×Int×Int)=>
        if (decide (x3.1<(p1.length:Int)))=true then
          (at? p1 x3.1).bind fun a5=>
          (at? p1 x3.1).bind fun a6=>
          (zcj N a6.Shares x1.2.1).bind fun r7=>
          (zb1 N a5.Need r7).bind fun r8=>
          (zaR N ({ Cpu:=x3.2.1,Mem:=x3.2.2.1,Gpu:=x3.2.2.2.1,Lic:=x3.2.2.2.2 }:zaa) r8).bind fun r9=>
          f4 ((IntKind.i64.wrap (x3.1+1)),r9.Cpu,r9.Mem,r9.Gpu,r9.Lic)
        else
          jn (fun (x10:Bool)=>
            (at? p0 x1.2.1).bind fun a12=>
            (drayageref02xSub N a12 ({ Cpu:=x3.2.1,Mem:=x3.2.2.1,Gpu:=x3.2.2.2.1,Lic:=x3.2.2.2.2 }:zaa)).bind fun r13=>
            (app? x1.2.2 ([r13]:List zaa)).bind fun z14=>
            f2 (x10,(IntKind.i64.wrap (x1.2.1+1)),z14)) fun j11=>
          if x1.1=true then
          (at? p0 x1.2.1).bind fun a15=>
          (zav N ({ Cpu:=x3.2.1,Mem:=x3.2.2.1,Gpu:=x3.2.2.2.1,Lic:=x3.2.2.2.2 }:zaa) a15).bind fun r16=>
          j11 r16
          else
          j11 false) N (0,0,0,0,0)
    else
      some (x1.2.2,x1.1)) N (true,0,([]:List zaa))
def zcu (N:Nat) (p0:zad) (p1:zag):Option (Bool):=
  lpX (fun f2 (x1:Int)=>
    if (decide (x1<(p1.Allocs.length:Int)))=true then
      (at? p1.Allocs x1).bind fun a3=>
      jn (fun (x4:Bool)=>
        if x4=true then
          some false
        else
          f2 (IntKind.i64.wrap (x1+1))) fun j5=>
      if (decide (x1 > 0))=true then
      (at? p1.Allocs (IntKind.i64.wrap (x1-1))).bind fun a6=>
      if (decide (a6.Job≥a3.Job))=true then
      j5 true
      else
      (za4 N p1.Jobs a3.Job).bind fun r7=>
      if (decide (r7<0))=true then
      j5 true
      else
      (za8 N a3.Shares (p0.Nodes.length:Int)).bind fun r8=>
      if (!r8)=true then
      j5 true
      else
      (zaE N a3.Need).bind fun r9=>
      j5 (!r9)
      else
      (za4 N p1.Jobs a3.Job).bind fun r10=>
      if (decide (r10<0))=true then
      j5 true
      else
      (za8 N a3.Shares (p0.Nodes.length:Int)).bind fun r11=>
      if (!r11)=true then
      j5 true
      else
      (zaE N a3.Need).bind fun r12=>
      j5 (!r12)
    else
      (zdg N p0.Nodes p1.Allocs).bind fun r13=>
      some r13.2) N 0
def zcK (N:Nat) (p0:zag) (p1:Int) (p2:Int):Option (Bool):=
  lpX (fun f2 (x1:Int)=>
    if (decide (x1<(p0.Allocs.length:Int)))=true then
      (at? p0.Allocs x1).bind fun a3=>
      (za4 N p0.Jobs a3.Job).bind fun r4=>
      jn (fun (x5:Bool)=>
        if x5=true then
          some true
        else
          f2 (IntKind.i64.wrap (x1+1))) fun j6=>
      if (decide (r4≥0))=true then
      (at? p0.Allocs x1).bind fun a7=>
      (zcj N a7.Shares p1).bind fun r8=>
      if (decide (r8 > 0))=true then
      (at? p0.Jobs r4).bind fun a9=>
      (at? p0.Jobs r4).bind fun a10=>
      j6 (decide ((IntKind.i64.wrap (a9.Start+a10.Wall)) > p2))
      else
      j6 false
      else
      j6 false
    else
      some false) N 0
def zdF (N:Nat) (p0:zah) (p1:Int):Option (Bool):=
  if (decide (p0.Id > 0))=true then
  (zaW N p0.Id).bind fun r1=>
  some (((((r1&&(decide (p0.Node≥0)))&&(decide (p0.Node<p1)))&&(decide (p0.From≥0)))&&(decide (p0.To > p0.From)))&&(decide (p0.To≤1099511627776)))
  else
  some false
def zcH (N:Nat) (p0:(List zah)) (p1:Int) (p2:Int) (p3:Int):Option (Bool):=
  lpX (fun f2 (x1:Int)=>
    if (decide (x1<(p0.length:Int)))=true then
      (at? p0 x1).bind fun a3=>
      if (((((a3.Node == p1)&&(decide (a3.From<a3.To)))&&(decide (p2<p3)))&&(decide (a3.From<p3)))&&(decide (p2<a3.To)))=true then
        some true
      else
        f2 (IntKind.i64.wrap (x1+1))
    else
      some false) N 0
def zcP (N:Nat) (p0:(List zah)) (p1:Int):Option (Bool):=
  lpX (fun f2 (x1:Int)=>
    if (decide (x1<(p0.length:Int)))=true then
      (at? p0 x1).bind fun a3=>
      (zdF N a3 p1).bind fun r4=>
      if (!r4)=true then
        some false
      else
        lpX (fun f6 (x5:Int)=>
          if (decide (x5<x1))=true then
            jn (fun (x7:Bool)=>
              if x7=true then
                some false
              else
                f6 (IntKind.i64.wrap (x5+1))) fun j8=>
            (at? p0 x5).bind fun a9=>
            (at? p0 x1).bind fun a10=>
            if (decide (a9.Id≥a10.Id))=true then
            j8 true
            else
            (slice? p0 x5 (IntKind.i64.wrap (x5+1))).bind fun z11=>
            (at? p0 x1).bind fun a12=>
            (at? p0 x1).bind fun a13=>
            (at? p0 x1).bind fun a14=>
            (zcH N z11 a12.Node a13.From a14.To).bind fun r15=>
            j8 r15
          else
            f2 (IntKind.i64.wrap (x1+1))) N 0
    else
      some (decide ((p0.length:Int)≤16))) N 0
def zcM (N:Nat) (p0:zad) (p1:zag):Option (Bool):=
  lpX (fun f2 (x1:Int)=>
    if (decide (x1<(p1.Books.length:Int)))=true then
      (at? p1.Books x1).bind fun a3=>
      jn (fun (x4:Bool)=>
        if x4=true then
          some false
        else
          f2 (IntKind.i64.wrap (x1+1))) fun j5=>
      if ((decide (a3.Id≥p1.Book)) || (decide (a3.To≤p1.Now)))=true then
      j5 true
      else
      (zcK N p1 a3.Node a3.From).bind fun r6=>
      j5 r6
    else
      (zcP N p1.Books (p0.Nodes.length:Int)).bind fun r7=>
      some r7) N 0
def zdL (N:Nat) (p0:(List Int)) (p1:Int):Option (Bool):=
  lpX (fun f2 (x1:Int)=>
    if (decide (x1<(p0.length:Int)))=true then
      jn (fun (x3:Bool)=>
        if x3=true then
          some false
        else
          f2 (IntKind.i64.wrap (x1+1))) fun j4=>
      (at? p0 x1).bind fun a5=>
      if (decide (a5<0))=true then
      j4 true
      else
      (at? p0 x1).bind fun a6=>
      j4 (decide (a6 > 1099511627776))
    else
      some ((p0.length:Int) == p1)) N 0
def zaA (N:Nat) (p0:Int) (p1:Int) (p2:Int):Option (Bool):=
  some ((decide (p1≤p0))&&(decide (p0≤p2)))
def zcL (N:Nat) (p0:zae):Option (Bool):=
  lpX (fun f2 (x1:Int)=>
    if (decide (x1<(p0.After.length:Int)))=true then
      (at? p0.After x1).bind fun a3=>
      (zaA N a3.Job 1 (IntKind.i64.wrap (p0.Id-1))).bind fun r4=>
      if (!r4)=true then
        some false
      else
        f2 (IntKind.i64.wrap (x1+1))
    else
      jn (fun (x5:Bool)=>
        if x5=true then
          some false
        else
          jn (fun (x7:Bool)=>
            if x7=true then
              some false
            else
              jn (fun (x9:Bool)=>
                if x9=true then
                  some false
                else
                  jn (fun (x11:Bool)=>
                    if x11=true then
                      some false
                    else
                      if (((!p0.Ok) || (p0.State == 4)) || (p0.State == 5))=true then
                      some (((!p0.Kill) || (p0.State == 4)) || (p0.State == 6))
                      else
                      some false) fun j12=>
                  if ((decide (p0.State≤2))&&(p0.Start != 0))=true then
                  j12 true
                  else
                  j12 ((decide (p0.State≤4))&&(p0.End != 0))) fun j10=>
              (zaA N p0.Born 0 1099511627776).bind fun r13=>
              if (!r13)=true then
              j10 true
              else
              (zaA N p0.Start 0 1099511627776).bind fun r14=>
              if (!r14)=true then
              j10 true
              else
              (zaA N p0.End 0 1099511627776).bind fun r15=>
              j10 (!r15)) fun j8=>
          (zaA N p0.Wall 1 65536).bind fun r16=>
          if (!r16)=true then
          j8 true
          else
          (zaA N p0.State 1 6).bind fun r17=>
          if (!r17)=true then
          j8 true
          else
          (zaA N p0.Version 1 281474976710656).bind fun r18=>
          if (!r18)=true then
          j8 true
          else
          (zaA N p0.Array 0 p0.Id).bind fun r19=>
          j8 (!r19)) fun j6=>
      if (decide ((p0.After.length:Int) > 4))=true then
      j6 true
      else
      (zaA N p0.Id 1 1048576).bind fun r20=>
      if (!r20)=true then
      j6 true
      else
      (zaA N p0.User 0 7).bind fun r21=>
      if (!r21)=true then
      j6 true
      else
      (zaA N p0.Queue 0 7).bind fun r22=>
      if (!r22)=true then
      j6 true
      else
      (zaA N p0.Many 1 64).bind fun r23=>
      if (!r23)=true then
      j6 true
      else
      (zaE N p0.Need).bind fun r24=>
      if (!r24)=true then
      j6 true
      else
      (zav N p0.Need ({ Cpu:=0,Mem:=0,Gpu:=0,Lic:=0 }:zaa)).bind fun r25=>
      j6 r25) N 0
def zck (N:Nat) (p0:(List zac)) (p1:Int):Option (Int):=
  lpX (fun f2 (x1:Int)=>
    if (decide (x1<(p0.length:Int)))=true then
      (at? p0 x1).bind fun a3=>
      if (a3.Job == p1)=true then
        some x1
      else
        f2 (IntKind.i64.wrap (x1+1))
    else
      some (-1)) N 0
def zdJ (N:Nat) (p0:zae):Option (Bool):=
  some ((p0.State == 3) || (p0.State == 4))
def zb3 (N:Nat) (p0:zaa) (p1:zaa):Option (Int):=
  jn (fun (x1:Bool)=>
    if x1=true then
      some 0
    else
      lpX (fun f4 (x3:Int×Int×Int×Int×Int)=>
        jn (fun (x5:Bool)=>
          if x5=true then
            (zaR N ({ Cpu:=x3.2.1,Mem:=x3.2.2.1,Gpu:=x3.2.2.2.1,Lic:=x3.2.2.2.2 }:zaa) p1).bind fun r7=>
            f4 ((IntKind.i64.wrap (x3.1+1)),r7.Cpu,r7.Mem,r7.Gpu,r7.Lic)
          else
            some x3.1) fun j6=>
        if (decide (x3.1<64))=true then
        (zav N ({ Cpu:=x3.2.1,Mem:=x3.2.2.1,Gpu:=x3.2.2.2.1,Lic:=x3.2.2.2.2 }:zaa) p0).bind fun r8=>
        j6 r8
        else
        j6 false) N (0,p1.Cpu,p1.Mem,p1.Gpu,p1.Lic)) fun j2=>
  (zaE N p0).bind fun r9=>
  if (!r9)=true then
  j2 true
  else
  (zaE N p1).bind fun r10=>
  if (!r10)=true then
  j2 true
  else
  (zav N p1 ({ Cpu:=0,Mem:=0,Gpu:=0,Lic:=0 }:zaa)).bind fun r11=>
  j2 r11
def drayageref07xRoom (N:Nat) (p0:zad) (p1:Int) (p2:zaa):Option (Int):=
  if ((decide (p1<0)) || (decide (p1≥(p0.Parts.length:Int))))=true then
    some 0
  else
    lpX (fun f2 (x1:Int×Int)=>
      (at? p0.Parts p1).bind fun a3=>
      if (decide (x1.2<(a3.length:Int)))=true then
        (at? p0.Parts p1).bind fun a4=>
        (at? a4 x1.2).bind fun a5=>
        (at? p0.Nodes a5).bind fun a6=>
        (zb3 N a6 p2).bind fun r7=>
        f2 ((IntKind.i64.wrap (x1.1+r7)),(IntKind.i64.wrap (x1.2+1)))
      else
        some x1.1) N (0,0)
def zcl (N:Nat) (p0:zad) (p1:Int) (p2:Int) (p3:zaa):Option (Bool):=
  if (((decide (p1≥0))&&(decide (p1<(p0.Queues.length:Int))))&&(decide (p2≥1)))=true then
  (at? p0.Queues p1).bind fun a1=>
  (drayageref07xRoom N p0 a1.Part p3).bind fun r2=>
  some (decide (r2≥p2))
  else
  some false
def zcJ (N:Nat) (p0:(List zaj)):Option (Int):=
  lpX (fun f2 (x1:Int×Int)=>
    if (decide (x1.2<(p0.length:Int)))=true then
      jn (fun (x3:Int)=>
        f2 (x3,(IntKind.i64.wrap (x1.2+1)))) fun j4=>
      (at? p0 x1.2).bind fun a5=>
      if (decide (a5.Many > 64))=true then
        j4 (IntKind.i64.wrap (x1.1+64))
      else
        (at? p0 x1.2).bind fun a6=>
        if (decide (a6.Many > 0))=true then
          (at? p0 x1.2).bind fun a7=>
          j4 (IntKind.i64.wrap (x1.1+a7.Many))
        else
          j4 x1.1
    else
      some x1.1) N (0,0)
def zdH (N:Nat) (p0:(List Int)) (p1:Int):Option (Bool):=
  lpX (fun f2 (x1:Int)=>
    if (decide (x1<(p0.length:Int)))=true then
      (at? p0 x1).bind fun a3=>
      if (a3 == p1)=true then
        some true
      else
        f2 (IntKind.i64.wrap (x1+1))
    else
      some false) N 0
def zdb (N:Nat) (p0:zad) (p1:zae) (p2:(List zaj)):Option (Bool):=
  jn (fun (x1:Bool)=>
    if x1=true then
      some false
    else
      (at? p0.Queues p1.Queue).bind fun a3=>
      (at? p0.Parts a3.Part).bind fun a4=>
      lpX (fun f6 (x5:Int)=>
        if (decide (x5<(p2.length:Int)))=true then
          (at? p2 x5).bind fun a7=>
          (zdH N a4 a7.Node).bind fun r8=>
          if (!r8)=true then
            some false
          else
            f6 (IntKind.i64.wrap (x5+1))
        else
          some true) N 0) fun j2=>
  (za8 N p2 (p0.Nodes.length:Int)).bind fun r9=>
  if (!r9)=true then
  j2 true
  else
  (zcJ N p2).bind fun r10=>
  j2 (((r10 != p1.Many) || (decide (p1.Queue<0))) || (decide (p1.Queue≥(p0.Queues.length:Int))))
def zdG (N:Nat) (p0:zad) (p1:zag) (p2:zae):Option (Bool):=
  (zcL N p2).bind fun r1=>
  if (((((((!r1) || (decide (p2.Id≥p1.Next))) || (decide (p2.User≥p0.Users))) || (decide (p2.Queue≥(p0.Queues.length:Int)))) || (decide (p2.Born > p1.Now))) || (decide (p2.Start > p1.Now))) || (decide (p2.End > p1.Now)))=true then
    some false
  else
    jn (fun (x2:Int)=>
      jn (fun (x4:Int)=>
        jn (fun (x6:Int)=>
          (zck N p1.Allocs p2.Id).bind fun r8=>
          jn (fun (x9:Bool)=>
            if x9=true then
              some false
            else
              if (decide (p2.State≥5))=true then
                some true
              else
                lpX (fun f12 (x11:Int)=>
                  if (decide (x11<(p2.After.length:Int)))=true then
                    (at? p2.After x11).bind fun a13=>
                    (za4 N p1.Jobs a13.Job).bind fun r14=>
                    if (decide (r14<0))=true then
                      some false
                    else
                      f12 (IntKind.i64.wrap (x11+1))
                  else
                    (zcl N p0 p2.Queue p2.Many p2.Need).bind fun r15=>
                    if (!r15)=true then
                      some false
                    else
                      (zdJ N p2).bind fun r16=>
                      if (!r16)=true then
                      some true
                      else
                      if (decide (p1.Now<(IntKind.i64.wrap (p2.Start+p2.Wall))))=true then
                      (at? p1.Allocs r8).bind fun a17=>
                      if (zaa.beq a17.Need p2.Need)=true then
                      (at? p1.Allocs r8).bind fun a18=>
                      (zdb N p0 p2 a18.Shares).bind fun r19=>
                      some r19
                      else
                      some false
                      else
                      some false) N 0) fun j10=>
          if (decide (p2.Version > (IntKind.i64.wrap (p0.Versions+x6))))=true then
          j10 true
          else
          (zdJ N p2).bind fun r20=>
          j10 (!((decide (r8≥0)) == r20))) fun j7=>
        if (decide (p2.State≥5))=true then
          j7 3
        else
          j7 x4) fun j5=>
      if (p2.State == 4)=true then
        j5 2
      else
        j5 x2) fun j3=>
    if (p2.State == 3)=true then
      j3 1
    else
      j3 0
def zbW (N:Nat) (p0:zad) (p1:zag):Option (Bool):=
  jn (fun (x1:Bool)=>
    if x1=true then
      some false
    else
      jn (fun (x3:Bool)=>
        if x3=true then
          some false
        else
          lpX (fun f6 (x5:Int)=>
            if (decide (x5<(p1.Stamps.Queues.length:Int)))=true then
              (at? p1.Stamps.Queues x5).bind fun a7=>
              (zaW N a7).bind fun r8=>
              if (!r8)=true then
                some false
              else
                f6 (IntKind.i64.wrap (x5+1))
            else
              lpX (fun f10 (x9:Int)=>
                if (decide (x9<(p1.Jobs.length:Int)))=true then
                  jn (fun (x11:Bool)=>
                    if x11=true then
                      some false
                    else
                      f10 (IntKind.i64.wrap (x9+1))) fun j12=>
                  (at? p1.Jobs x9).bind fun a13=>
                  (zdG N p0 p1 a13).bind fun r14=>
                  if (!r14)=true then
                  j12 true
                  else
                  if (decide (x9 > 0))=true then
                  (at? p1.Jobs (IntKind.i64.wrap (x9-1))).bind fun a15=>
                  (at? p1.Jobs x9).bind fun a16=>
                  j12 (decide (a15.Id≥a16.Id))
                  else
                  j12 false
                else
                  some true) N 0) N 0) fun j4=>
      if (decide ((p1.Jobs.length:Int) > p0.Jobs))=true then
      j4 true
      else
      (zcu N p0 p1).bind fun r17=>
      if (!r17)=true then
      j4 true
      else
      (zcM N p0 p1).bind fun r18=>
      if (!r18)=true then
      j4 true
      else
      (zdL N p1.Use p0.Users).bind fun r19=>
      if ((!r19) || ((p1.Stamps.Queues.length:Int) != (p0.Queues.length:Int)))=true then
      j4 true
      else
      (zaW N p1.Stamps.Nodes).bind fun r20=>
      j4 (!r20)) fun j2=>
  (zb8 N p0).bind fun r21=>
  if ((((((!r21) || (decide (p1.Now<0))) || (decide (p1.Now > 1099511627776))) || (decide (p1.Next<1))) || (decide (p1.Next > (IntKind.i64.wrap (p0.Ids+1))))) || (decide (p1.Book<1)))=true then
  j2 true
  else
  (zaW N p1.Book).bind fun r22=>
  j2 (!r22)
def zay (N:Nat) (i0:List Int) (i1:List zae) (i2:List (Int×zac)) (i3:Int) (i4:Int) (i5:Int) (i6:(List zah)) (i7:(List Int)) (i8:Int):Option ((zag)):=
  (zbv N i1).bind fun x1=>
  (zaI N i2).bind fun x2=>
  (zat N i6).bind fun r3=>
  (zaQ N i7).bind fun r4=>
  (za5 N i0).bind fun x5=>
  some ({ Now:=i3,Next:=i4,Book:=i5,Jobs:=x1,Allocs:=x2,Books:=r3,Use:=r4,Stamps:=({ Queues:=x5,Nodes:=i8 }:api_Stamps) }:zag)
def zdf (N:Nat) (p0:zae) (p1:zae):Option (Bool):=
  if ((p0.After.length:Int) != (p1.After.length:Int))=true then
    some false
  else
    lpX (fun f2 (x1:Int)=>
      if (decide (x1<(p0.After.length:Int)))=true then
        (at? p0.After x1).bind fun a3=>
        (at? p1.After x1).bind fun a4=>
        if (!(api_Dep.beq a3 a4))=true then
          some false
        else
          f2 (IntKind.i64.wrap (x1+1))
      else
        some ((((((((((((((p0.Id == p1.Id)&&(p0.User == p1.User))&&(p0.Queue == p1.Queue))&&(p0.Many == p1.Many))&&(zaa.beq p0.Need p1.Need))&&(p0.Wall == p1.Wall))&&(p0.State == p1.State))&&(p0.Ok == p1.Ok))&&(p0.Kill == p1.Kill))&&(p0.Version == p1.Version))&&(p0.Born == p1.Born))&&(p0.Start == p1.Start))&&(p0.End == p1.End))&&(p0.Array == p1.Array))) N 0
def zdl (N:Nat) (p0:(List zae)) (p1:(List zae)):Option (Bool):=
  if ((p0.length:Int) != (p1.length:Int))=true then
    some false
  else
    lpX (fun f2 (x1:Int)=>
      if (decide (x1<(p0.length:Int)))=true then
        (at? p0 x1).bind fun a3=>
        (at? p1 x1).bind fun a4=>
        (zdf N a3 a4).bind fun r5=>
        if (!r5)=true then
          some false
        else
          f2 (IntKind.i64.wrap (x1+1))
      else
        some true) N 0
def zdj (N:Nat) (p0:(List zaj)) (p1:(List zaj)):Option (Bool):=
  if ((p0.length:Int) != (p1.length:Int))=true then
    some false
  else
    lpX (fun f2 (x1:Int)=>
      if (decide (x1<(p0.length:Int)))=true then
        (at? p0 x1).bind fun a3=>
        (at? p1 x1).bind fun a4=>
        if (!(zaj.beq a3 a4))=true then
          some false
        else
          f2 (IntKind.i64.wrap (x1+1))
      else
        some true) N 0
def zdd (N:Nat) (p0:(List zac)) (p1:(List zac)):Option (Bool):=
  if ((p0.length:Int) != (p1.length:Int))=true then
    some false
  else
    lpX (fun f2 (x1:Int)=>
      if (decide (x1<(p0.length:Int)))=true then
        jn (fun (x3:Bool)=>
          if x3=true then
            some false
          else
            f2 (IntKind.i64.wrap (x1+1))) fun j4=>
        (at? p0 x1).bind fun a5=>
        (at? p1 x1).bind fun a6=>
        if (a5.Job != a6.Job)=true then
        j4 true
        else
        (at? p0 x1).bind fun a7=>
        (at? p1 x1).bind fun a8=>
        if (!(zaa.beq a7.Need a8.Need))=true then
        j4 true
        else
        (at? p0 x1).bind fun a9=>
        (at? p1 x1).bind fun a10=>
        (zdj N a9.Shares a10.Shares).bind fun r11=>
        j4 (!r11)
      else
        some true) N 0
def zdk (N:Nat) (p0:(List zah)) (p1:(List zah)):Option (Bool):=
  if ((p0.length:Int) != (p1.length:Int))=true then
    some false
  else
    lpX (fun f2 (x1:Int)=>
      if (decide (x1<(p0.length:Int)))=true then
        (at? p0 x1).bind fun a3=>
        (at? p1 x1).bind fun a4=>
        if (!(zah.beq a3 a4))=true then
          some false
        else
          f2 (IntKind.i64.wrap (x1+1))
      else
        some true) N 0
def zdh (N:Nat) (p0:zag) (p1:zag):Option (Bool):=
  if (((p0.Now == p1.Now)&&(p0.Next == p1.Next))&&(p0.Book == p1.Book))=true then
  (zdl N p0.Jobs p1.Jobs).bind fun r1=>
  if r1=true then
  (zdd N p0.Allocs p1.Allocs).bind fun r2=>
  if r2=true then
  (zdk N p0.Books p1.Books).bind fun r3=>
  if r3=true then
  (zbG N p0.Use p1.Use).bind fun r4=>
  if r4=true then
  (zbG N p0.Stamps.Queues p1.Stamps.Queues).bind fun r5=>
  some (r5&&(p0.Stamps.Nodes == p1.Stamps.Nodes))
  else
  some false
  else
  some false
  else
  some false
  else
  some false
  else
  some false
def za2 (N:Nat) (i0:zad) (i1:zag):Option ((Bool) ⊕ (List Int×List zae×List (Int×zac)×Bool×(List zaa)×(List (List Int))×(List zaJ)×Int×Int×Int×Int×Int×Int×Int×Int×Int×Int×Int×Int×Int×Int×Int×Int×Int×Int×(List zah)×(List Int)×Int×Int×(List zaa))):=
  (zcD N i0 i1).bind fun x1=>
  match x1 with
  | .inl x2 =>
    (zbW N i0 i1).bind fun r4=>
    if (!r4)=true then
      some (Sum.inl (x2 == 2))
    else
      some (Sum.inl false)
  | .inr x3 =>
    (zbW N i0 i1).bind fun r5=>
    if (!r5)=true then
      some (Sum.inl false)
    else
      (zay N x3.1 x3.2.1 x3.2.2.1 x3.2.2.2.2.2.2.2.2.2.2.2.2.2.2.2.2.2.2.2.2.2.1 x3.2.2.2.2.2.2.2.2.2.2.2.2.2.2.2.2.2.2.2.2.2.2.1 x3.2.2.2.2.2.2.2.2.2.2.2.2.2.2.2.2.2.2.2.2.2.2.2.1 x3.2.2.2.2.2.2.2.2.2.2.2.2.2.2.2.2.2.2.2.2.2.2.2.2.1 x3.2.2.2.2.2.2.2.2.2.2.2.2.2.2.2.2.2.2.2.2.2.2.2.2.2.1 x3.2.2.2.2.2.2.2.2.2.2.2.2.2.2.2.2.2.2.2.2.2.2.2.2.2.2.1).bind fun x6=>
      (zdh N x6 i1).bind fun r7=>
      some (Sum.inr (x3.1,x3.2.1,x3.2.2.1,r7,x3.2.2.2.1,x3.2.2.2.2.1,x3.2.2.2.2.2.1,x3.2.2.2.2.2.2.1,x3.2.2.2.2.2.2.2.1,x3.2.2.2.2.2.2.2.2.1,x3.2.2.2.2.2.2.2.2.2.1,x3.2.2.2.2.2.2.2.2.2.2.1,x3.2.2.2.2.2.2.2.2.2.2.2.1,x3.2.2.2.2.2.2.2.2.2.2.2.2.1,x3.2.2.2.2.2.2.2.2.2.2.2.2.2.1,x3.2.2.2.2.2.2.2.2.2.2.2.2.2.2.1,x3.2.2.2.2.2.2.2.2.2.2.2.2.2.2.2.1,x3.2.2.2.2.2.2.2.2.2.2.2.2.2.2.2.2.1,x3.2.2.2.2.2.2.2.2.2.2.2.2.2.2.2.2.2.1,x3.2.2.2.2.2.2.2.2.2.2.2.2.2.2.2.2.2.2.1,x3.2.2.2.2.2.2.2.2.2.2.2.2.2.2.2.2.2.2.2.1,x3.2.2.2.2.2.2.2.2.2.2.2.2.2.2.2.2.2.2.2.2.1,x3.2.2.2.2.2.2.2.2.2.2.2.2.2.2.2.2.2.2.2.2.2.1,x3.2.2.2.2.2.2.2.2.2.2.2.2.2.2.2.2.2.2.2.2.2.2.1,x3.2.2.2.2.2.2.2.2.2.2.2.2.2.2.2.2.2.2.2.2.2.2.2.1,x3.2.2.2.2.2.2.2.2.2.2.2.2.2.2.2.2.2.2.2.2.2.2.2.2.1,x3.2.2.2.2.2.2.2.2.2.2.2.2.2.2.2.2.2.2.2.2.2.2.2.2.2.1,x3.2.2.2.2.2.2.2.2.2.2.2.2.2.2.2.2.2.2.2.2.2.2.2.2.2.2.1,x3.2.2.2.2.2.2.2.2.2.2.2.2.2.2.2.2.2.2.2.2.2.2.2.2.2.2.2.1,x3.2.2.2.2.2.2.2.2.2.2.2.2.2.2.2.2.2.2.2.2.2.2.2.2.2.2.2.2))
def zci (N:Nat) (i0:(List zaa)):Option (((List zaa))):=
  (zaw N i0).bind fun r1=>
  some r1
def zbp (N:Nat) (i0:(List zaa)):Option (((List zaa))):=
  (zci N i0).bind fun x1=>
  some x1
def shift_checkMove_od0f9 (N:Nat) (i0:List Int) (i1:List zae) (i2:List (Int×zac)) (i3:zae) (i4:zaB) (i5:(List zaa)) (i6:(List (List Int))) (i7:(List zaJ)) (i8:Int) (i9:Int) (i10:Int) (i11:Int) (i12:Int) (i13:Int) (i14:Int) (i15:Int) (i16:Int) (i17:Int) (i18:Int) (i19:Int) (i20:Int) (i21:Int) (i22:Int) (i23:Int) (i24:Int) (i25:Int) (i26:(List zah)) (i27:(List Int)) (i28:Int):Option ((Int)):=
  (zas N i5 i6 i7 i8 i9 i10 i11 i12 i13 i14 i15 i16 i17 i18 i19 i20 i21 i22).bind fun x1=>
  (zbT N i3.State).bind fun r2=>
  if (!r2)=true then
    some 31
  else
    if ((decide (i4.Queue<0)) || (decide (i4.Queue≥(x1.Queues.length:Int))))=true then
      some 30
    else
      (spec_Allowed N x1 i4.Queue i3.User).bind fun r3=>
      if (!r3)=true then
        some 33
      else
        (spec_Fits N x1 i4.Queue i3.Many i3.Need).bind fun r4=>
        if (!r4)=true then
          some 37
        else
          jn (fun (x5:Bool)=>
            if x5=true then
              some 34
            else
              some 0) fun j6=>
          if (i4.Queue != i3.Queue)=true then
          (zay N i0 i1 i2 i23 i24 i25 i26 i27 i28).bind fun x7=>
          (quota_Room N x1 x7.Jobs i4.Queue 1).bind fun r8=>
          j6 (!r8)
          else
          j6 false
def zcg (N:Nat) (i0:List Int) (i1:List zae) (i2:List (Int×zac)) (i3:zae) (i4:(List zaa)) (i5:(List (List Int))) (i6:(List zaJ)) (i7:Int) (i8:Int) (i9:Int) (i10:Int) (i11:Int) (i12:Int) (i13:Int) (i14:Int) (i15:Int) (i16:Int) (i17:Int) (i18:Int) (i19:Int) (i20:Int) (i21:Int) (i22:Int) (i23:Int) (i24:Int) (i25:(List zah)) (i26:(List Int)) (i27:Int):Option ((Int)):=
  if (i3.State != 3)=true then
    some 31
  else
    (zas N i4 i5 i6 i7 i8 i9 i10 i11 i12 i13 i14 i15 i16 i17 i18 i19 i20 i21).bind fun x1=>
    (zay N i0 i1 i2 i22 i23 i24 i25 i26 i27).bind fun x2=>
    (quota_Room N x1 x2.Jobs i3.Queue 1).bind fun r3=>
    if (!r3)=true then
      some 34
    else
      some 0
def zde (N:Nat) (i0:List Int) (i1:List zae) (i2:List (Int×zac)) (i3:Int) (i4:zaB) (i5:(List zaa)) (i6:(List (List Int))) (i7:(List zaJ)) (i8:Int) (i9:Int) (i10:Int) (i11:Int) (i12:Int) (i13:Int) (i14:Int) (i15:Int) (i16:Int) (i17:Int) (i18:Int) (i19:Int) (i20:Int) (i21:Int) (i22:Int) (i23:Int) (i24:Int) (i25:Int) (i26:(List zah)) (i27:(List Int)) (i28:Int):Option ((Int)):=
  (zas N i5 i6 i7 i8 i9 i10 i11 i12 i13 i14 i15 i16 i17 i18 i19 i20 i21 i22).bind fun x1=>
  (
    if (i4.Kind == 7)=true then
      some (Sum.inl true)
    else
      if (i4.Kind == 6)=true then
        some (Sum.inr (Sum.inl true))
      else
        some (Sum.inr (Sum.inr false))).bind fun x2=>
  match x2 with
  | .inl x3 =>
    if (((!x3) || (decide (i3<0))) || (decide (i3≥x1.Users)))=true then
      some 2
    else
      (zak N i1 i4.Job).bind fun x5=>
      if (!x5.2)=true then
        some 30
      else
        if ((i3 != x5.1.User)&&(i3 != 0))=true then
          some 33
        else
          if ((i4.Version != 0)&&(i4.Version != x5.1.Version))=true then
            some 32
          else
            (shift_checkMove_od0f9 N i0 i1 i2 x5.1 i4 i5 i6 i7 i8 i9 i10 i11 i12 i13 i14 i15 i16 i17 i18 i19 i20 i21 i22 i23 i24 i25 i26 i27 i28).bind fun x6=>
            if (x6 != 0)=true then
              some x6
            else
              if (decide (x5.1.Version≥x1.Versions))=true then
                some 41
              else
                some 0
  | .inr x4 =>
    match x4 with
    | .inl x7 =>
      if (((!x7) || (decide (i3<0))) || (decide (i3≥x1.Users)))=true then
        some 2
      else
        (zak N i1 i4.Job).bind fun x9=>
        if (!x9.2)=true then
          some 30
        else
          if ((i3 != x9.1.User)&&(i3 != 0))=true then
            some 33
          else
            if ((i4.Version != 0)&&(i4.Version != x9.1.Version))=true then
              some 32
            else
              (zcg N i0 i1 i2 x9.1 i5 i6 i7 i8 i9 i10 i11 i12 i13 i14 i15 i16 i17 i18 i19 i20 i21 i22 i23 i24 i25 i26 i27 i28).bind fun x10=>
              if (x10 != 0)=true then
                some x10
              else
                if (decide (x9.1.Version≥x1.Versions))=true then
                  some 41
                else
                  some 0
    | .inr x8 =>
      if (((!x8) || (decide (i3<0))) || (decide (i3≥x1.Users)))=true then
        some 2
      else
        (zak N i1 i4.Job).bind fun x11=>
        if (!x11.2)=true then
          some 30
        else
          if ((i3 != x11.1.User)&&(i3 != 0))=true then
            some 33
          else
            if ((i4.Version != 0)&&(i4.Version != x11.1.Version))=true then
              some 32
            else
              none
def shift_Do_o56b6 (N:Nat) (i0:List Int) (i1:List zae) (i2:List (Int×zac)) (i3:Int) (i4:zaB) (i5:(List zaa)) (i6:(List (List Int))) (i7:(List zaJ)) (i8:Int) (i9:Int) (i10:Int) (i11:Int) (i12:Int) (i13:Int) (i14:Int) (i15:Int) (i16:Int) (i17:Int) (i18:Int) (i19:Int) (i20:Int) (i21:Int) (i22:Int) (i23:Int) (i24:Int) (i25:Int) (i26:(List zah)) (i27:(List Int)) (i28:Int) (i29:(List zaa)):Option ((List Int×List zae×List (Int×zac)×zbo×Int×(List zaa))):=
  (zde N i0 i1 i2 i3 i4 i5 i6 i7 i8 i9 i10 i11 i12 i13 i14 i15 i16 i17 i18 i19 i20 i21 i22 i23 i24 i25 i26 i27 i28).bind fun x1=>
  if (x1 != 0)=true then
    (zba N i4.Key x1).bind fun r2=>
    some (i0,i1,i2,r2,i28,i29)
  else
    (
      if (i4.Kind == 7)=true then
        some (Sum.inl true)
      else
        if (i4.Kind == 6)=true then
          some (Sum.inr (Sum.inl true))
        else
          some (Sum.inr (Sum.inr false))).bind fun x3=>
    match x3 with
    | .inl x4 =>
      (zak N i1 i4.Job).bind fun x6=>
      (zdI N i0 i1 x6.1 i4).bind fun x7=>
      if (x7.2.2 != 0)=true then
        (zba N i4.Key x7.2.2).bind fun r8=>
        some (x7.1,x7.2.1,i2,r8,i28,i29)
      else
        some (x7.1,x7.2.1,i2,({ Key:=i4.Key,Err:=0,Job:=x6.1.Id,Version:=(IntKind.i64.wrap (x6.1.Version+1)),Nums:=[] }:zbo),i28,i29)
    | .inr x5 =>
      match x5 with
      | .inl x9 =>
        (zak N i1 i4.Job).bind fun x11=>
        (zbL N i0 i1 i2 x11.1 i23 i28 i29).bind fun x12=>
        if (x12.2.2.2.1 != 0)=true then
          (zba N i4.Key x12.2.2.2.1).bind fun r13=>
          some (x12.1,x12.2.1,x12.2.2.1,r13,x12.2.2.2.2.1,x12.2.2.2.2.2)
        else
          some (x12.1,x12.2.1,x12.2.2.1,({ Key:=i4.Key,Err:=0,Job:=x11.1.Id,Version:=(IntKind.i64.wrap (x11.1.Version+1)),Nums:=[] }:zbo),x12.2.2.2.2.1,x12.2.2.2.2.2)
      | .inr x10 =>
        (zak N i1 i4.Job).bind fun x14=>
        none
def zcv (N:Nat) (p0:zcI) (p1:Int):Option (Bool):=
  (drayagelaw26xawake N).bind fun r1=>
  if (!r1)=true then
    some false
  else
    (zdN N p0.S p0.St).bind fun r2=>
    if (!r2)=true then
      some true
    else
      (za2 N p0.S p0.St).bind fun x3=>
      match x3 with
      | .inl x4 =>
        some x4
      | .inr x5 =>
        if (bif (!x5.2.2.2.1) then true else false)=true then
          some x5.2.2.2.1
        else
          (zbp N x5.2.2.2.2.2.2.2.2.2.2.2.2.2.2.2.2.2.2.2.2.2.2.2.2.2.2.2.2.2).bind fun x6=>
          (shift_Do_o56b6 N x5.1 x5.2.1 x5.2.2.1 0 ({ Kind:=6,Key:=0,Job:=p1,Version:=0,Queue:=0,Many:=0,Need:=({ Cpu:=0,Mem:=0,Gpu:=0,Lic:=0 }:zaa),Wall:=0,Tasks:=0,After:=[],Node:=0,From:=0,To:=0,Id:=0 }:zaB) x5.2.2.2.2.1 x5.2.2.2.2.2.1 x5.2.2.2.2.2.2.1 x5.2.2.2.2.2.2.2.1 x5.2.2.2.2.2.2.2.2.1 x5.2.2.2.2.2.2.2.2.2.1 x5.2.2.2.2.2.2.2.2.2.2.1 x5.2.2.2.2.2.2.2.2.2.2.2.1 x5.2.2.2.2.2.2.2.2.2.2.2.2.1 x5.2.2.2.2.2.2.2.2.2.2.2.2.2.1 x5.2.2.2.2.2.2.2.2.2.2.2.2.2.2.1 x5.2.2.2.2.2.2.2.2.2.2.2.2.2.2.2.1 x5.2.2.2.2.2.2.2.2.2.2.2.2.2.2.2.2.1 x5.2.2.2.2.2.2.2.2.2.2.2.2.2.2.2.2.2.1 x5.2.2.2.2.2.2.2.2.2.2.2.2.2.2.2.2.2.2.1 x5.2.2.2.2.2.2.2.2.2.2.2.2.2.2.2.2.2.2.2.1 x5.2.2.2.2.2.2.2.2.2.2.2.2.2.2.2.2.2.2.2.2.1 x5.2.2.2.2.2.2.2.2.2.2.2.2.2.2.2.2.2.2.2.2.2.1 x5.2.2.2.2.2.2.2.2.2.2.2.2.2.2.2.2.2.2.2.2.2.2.1 x5.2.2.2.2.2.2.2.2.2.2.2.2.2.2.2.2.2.2.2.2.2.2.2.1 x5.2.2.2.2.2.2.2.2.2.2.2.2.2.2.2.2.2.2.2.2.2.2.2.2.1 x5.2.2.2.2.2.2.2.2.2.2.2.2.2.2.2.2.2.2.2.2.2.2.2.2.2.1 x5.2.2.2.2.2.2.2.2.2.2.2.2.2.2.2.2.2.2.2.2.2.2.2.2.2.2.1 x5.2.2.2.2.2.2.2.2.2.2.2.2.2.2.2.2.2.2.2.2.2.2.2.2.2.2.2.1 x5.2.2.2.2.2.2.2.2.2.2.2.2.2.2.2.2.2.2.2.2.2.2.2.2.2.2.2.2.2).bind fun x7=>
          (zbp N x7.2.2.2.2.2).bind fun x8=>
          (zck N p0.St.Allocs p1).bind fun r9=>
          jn (fun (x10:Bool)=>
            if x10=true then
              some false
            else
              lpX (fun f13 (x12:Int)=>
                if (decide (x12<(x6.length:Int)))=true then
                  jn (fun (x14:Int×Int×Int×Int)=>
                    (at? x6 x12).bind fun a16=>
                    (zaR N a16 ({ Cpu:=x14.1,Mem:=x14.2.1,Gpu:=x14.2.2.1,Lic:=x14.2.2.2 }:zaa)).bind fun r17=>
                    (at? x8 x12).bind fun a18=>
                    if (!(zaa.beq r17 a18))=true then
                      some false
                    else
                      f13 (IntKind.i64.wrap (x12+1))) fun j15=>
                  if (x7.2.2.2.1.Err == 0)=true then
                    (at? p0.St.Allocs r9).bind fun a19=>
                    (at? p0.St.Allocs r9).bind fun a20=>
                    (zcj N a20.Shares x12).bind fun r21=>
                    (zb1 N a19.Need r21).bind fun r22=>
                    j15 (r22.Cpu,r22.Mem,r22.Gpu,r22.Lic)
                  else
                    j15 (0,0,0,0)
                else
                  some true) N 0) fun j11=>
          if ((x6.length:Int) != (x8.length:Int))=true then
          j11 true
          else
          j11 ((x7.2.2.2.1.Err == 0)&&(decide (r9<0)))
end Go.Abs
