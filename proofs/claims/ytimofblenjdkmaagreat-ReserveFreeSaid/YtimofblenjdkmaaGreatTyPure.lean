/- The program's functions of data, as Lean functions. -/
import Derived.Test.YtimofblenjdkmaaGreatTyTypes
set_option linter.all false
set_option maxRecDepth 100000
noncomputable section
namespace Go.Abs
variable [Gl]
def drayageref07xSmall (N:Nat):Option (zad):=
  some ({ Nodes:=([({ Cpu:=4,Mem:=8,Gpu:=0,Lic:=1 }:zaa),({ Cpu:=8,Mem:=8,Gpu:=1,Lic:=0 }:zaa)]:List zaa),Parts:=([([0,1]:List Int),([1]:List Int)]:List (List Int)),Queues:=([({ Part:=0,Users:=[],MaxJobs:=8,MaxRun:=4,MaxUser:=3,Qos:=1 }:zao),({ Part:=1,Users:=([0,1]:List Int),MaxJobs:=4,MaxRun:=2,MaxUser:=2,Qos:=5 }:zao)]:List zao),Users:=3,Weights:=({ Age:=1,Size:=2,Qos:=10,Share:=3 }:zaI),Decay:=4,Mode:=1,Jobs:=12,Ids:=100,Versions:=50,Linger:=5,Keep:=4,In:=3,Out:=6,Cache:=4 }:zad)
def vec_numbers (N:Nat) (p0:zaa):Option ((Int×Int×Int×Int)):=
  some (p0.Cpu,p0.Mem,p0.Gpu,p0.Lic)
def zce (N:Nat) (p0:zaa):Option (Bool):=
  (vec_numbers N p0).bind fun r1=>
  lpX (fun f3 (x2:Int)=>
    if (decide (x2<4))=true then
      (at? [r1.1,r1.2.1,r1.2.2.1,r1.2.2.2] x2).bind fun a4=>
      if ((decide (a4<0)) || (decide (a4 > 1048576)))=true then
        some false
      else
        f3 (IntKind.i64.wrap (x2+1))
    else
      some true) N 0
def spec_nodesRight (N:Nat) (p0:zad):Option (Bool):=
  if ((decide ((p0.Nodes.length:Int)<1)) || (decide ((p0.Nodes.length:Int) > 16)))=true then
    some false
  else
    lpX (fun f2 (x1:Int)=>
      if (decide (x1<(p0.Nodes.length:Int)))=true then
        (at? p0.Nodes x1).bind fun a3=>
        (zce N a3).bind fun r4=>
        if (!r4)=true then
          some false
        else
          f2 (IntKind.i64.wrap (x1+1))
      else
        some true) N 0
def zc8 (N:Nat) (p0:(List Int)) (p1:Int):Option (Bool):=
  lpX (fun f2 (x1:Int×Int)=>
    if (decide (x1.2<(p0.length:Int)))=true then
      (at? p0 x1.2).bind fun a3=>
      if ((decide (a3≤x1.1)) || (decide (a3≥p1)))=true then
        some false
      else
        f2 (a3,(IntKind.i64.wrap (x1.2+1)))
    else
      some true) N ((-1),0)
def spec_partsRight (N:Nat) (p0:zad):Option (Bool):=
  if ((decide ((p0.Parts.length:Int)<1)) || (decide ((p0.Parts.length:Int) > 8)))=true then
    some false
  else
    lpX (fun f2 (x1:Int)=>
      if (decide (x1<(p0.Parts.length:Int)))=true then
        (at? p0.Parts x1).bind fun a3=>
        jn (fun (x4:Bool)=>
          if x4=true then
            some false
          else
            f2 (IntKind.i64.wrap (x1+1))) fun j5=>
        if (decide ((a3.length:Int)<1))=true then
        j5 true
        else
        (zc8 N a3 (p0.Nodes.length:Int)).bind fun r6=>
        j5 (!r6)
      else
        some true) N 0
def zdf (N:Nat) (p0:zad):Option (Bool):=
  if ((decide ((p0.Queues.length:Int)<1)) || (decide ((p0.Queues.length:Int) > 8)))=true then
    some false
  else
    lpX (fun f2 (x1:Int)=>
      if (decide (x1<(p0.Queues.length:Int)))=true then
        (at? p0.Queues x1).bind fun a3=>
        jn (fun (x4:Bool)=>
          if x4=true then
            some false
          else
            lpX (fun f7 (x6:Int)=>
              if (decide (x6<3))=true then
                (at? [a3.MaxJobs,a3.MaxRun,a3.MaxUser] x6).bind fun a8=>
                if ((decide (a8<1)) || (decide (a8 > 256)))=true then
                  some false
                else
                  f7 (IntKind.i64.wrap (x6+1))
              else
                if ((decide (a3.Qos<0)) || (decide (a3.Qos > 100)))=true then
                  some false
                else
                  f2 (IntKind.i64.wrap (x1+1))) N 0) fun j5=>
        if ((decide (a3.Part<0)) || (decide (a3.Part≥(p0.Parts.length:Int))))=true then
        j5 true
        else
        (zc8 N a3.Users p0.Users).bind fun r9=>
        j5 (!r9)
      else
        some true) N 0
def zcL (N:Nat) (p0:zaI):Option (Bool):=
  lpX (fun f2 (x1:Int)=>
    if (decide (x1<4))=true then
      (at? [p0.Age,p0.Size,p0.Qos,p0.Share] x1).bind fun a3=>
      if ((decide (a3<0)) || (decide (a3 > 1000)))=true then
        some false
      else
        f2 (IntKind.i64.wrap (x1+1))
    else
      some true) N 0
def spec_Flaw (N:Nat) (p0:zad):Option (ByteArray):=
  (
    (spec_nodesRight N p0).bind fun r1=>
    some r1).bind fun x2=>
  if (!x2)=true then
    some (⟨#[78,111,100,101,115]⟩:ByteArray)
  else
    (
      (spec_partsRight N p0).bind fun r3=>
      some r3).bind fun x4=>
    if (!x4)=true then
      some (⟨#[80,97,114,116,115]⟩:ByteArray)
    else
      (
        some ((decide (1≤p0.Users))&&(decide (p0.Users≤8)))).bind fun x5=>
      if (!x5)=true then
        some (⟨#[85,115,101,114,115]⟩:ByteArray)
      else
        (
          (zdf N p0).bind fun r6=>
          some r6).bind fun x7=>
        if (!x7)=true then
          some (⟨#[81,117,101,117,101,115]⟩:ByteArray)
        else
          (
            (zcL N p0.Weights).bind fun r8=>
            some r8).bind fun x9=>
          if (!x9)=true then
            some (⟨#[87,101,105,103,104,116,115]⟩:ByteArray)
          else
            (
              some ((decide (1≤p0.Decay))&&(decide (p0.Decay≤16)))).bind fun x10=>
            if (!x10)=true then
              some (⟨#[68,101,99,97,121]⟩:ByteArray)
            else
              (
                some ((p0.Mode == 1) || (p0.Mode == 2))).bind fun x11=>
              if (!x11)=true then
                some (⟨#[77,111,100,101]⟩:ByteArray)
              else
                (
                  some ((decide (1≤p0.Jobs))&&(decide (p0.Jobs≤256)))).bind fun x12=>
                if (!x12)=true then
                  some (⟨#[74,111,98,115]⟩:ByteArray)
                else
                  (
                    some ((decide (1≤p0.Ids))&&(decide (p0.Ids≤1048576)))).bind fun x13=>
                  if (!x13)=true then
                    some (⟨#[73,100,115]⟩:ByteArray)
                  else
                    (
                      some ((decide (1≤p0.Versions))&&(decide (p0.Versions≤65536)))).bind fun x14=>
                    if (!x14)=true then
                      some (⟨#[86,101,114,115,105,111,110,115]⟩:ByteArray)
                    else
                      (
                        some ((decide (0≤p0.Linger))&&(decide (p0.Linger≤65536)))).bind fun x15=>
                      if (!x15)=true then
                        some (⟨#[76,105,110,103,101,114]⟩:ByteArray)
                      else
                        (
                          some ((decide (1≤p0.Keep))&&(decide (p0.Keep≤16)))).bind fun x16=>
                        if (!x16)=true then
                          some (⟨#[75,101,101,112]⟩:ByteArray)
                        else
                          (
                            some ((decide (1≤p0.In))&&(decide (p0.In≤8)))).bind fun x17=>
                          if (!x17)=true then
                            some (⟨#[73,110]⟩:ByteArray)
                          else
                            (
                              some ((decide (1≤p0.Out))&&(decide (p0.Out≤16)))).bind fun x18=>
                            if (!x18)=true then
                              some (⟨#[79,117,116]⟩:ByteArray)
                            else
                              (
                                some ((decide (0≤p0.Cache))&&(decide (p0.Cache≤16)))).bind fun x19=>
                              if (!x19)=true then
                                some (⟨#[67,97,99,104,101]⟩:ByteArray)
                              else
                                some (⟨#[]⟩:ByteArray)
def zcN (N:Nat) (p0:zad):Option (Bool):=
  (spec_Flaw N p0).bind fun r1=>
  some (r1.toList == (⟨#[]⟩:ByteArray).toList)
def table_New_o7369 (N:Nat) (a0:Int):Option (Unit ⊕ (Int)):=
  if ((decide (a0<1)) || (decide (a0 > 256)))=true then
    some (Sum.inl ())
  else
    some (Sum.inr a0)
def zaD (N:Nat) (p0:(List zaa)):Option ((List zaa)):=app? [] p0
def zcd (N:Nat) (a0:zad):Option (Unit ⊕ (List (Int×zaf)×(List zaa))):=
  (zcN N a0).bind fun r1=>
  if (!r1)=true then
    some (Sum.inl ())
  else
    (zaD N a0.Nodes).bind fun r2=>
    some (Sum.inr (([]:List (Int×zaf)),r2))
def zby (N:Nat) (a0:(List (List Int))):Option ((List (List Int))):=app? [] a0
def zax (N:Nat) (p0:(List Int)):Option ((List Int)):=app? [] p0
def zaJ (N:Nat) (a0:(List zao)):Option ((List zao)):=app? [] a0
def zbR (N:Nat) (p0:zad):Option (zad):=
  (zaD N p0.Nodes).bind fun r1=>
  (zby N p0.Parts).bind fun x2=>
  lpX (fun f4 (x3:Int×List (List Int))=>
    if (decide (x3.1<(x2.length:Int)))=true then
      (at? x3.2 x3.1).bind fun a5=>
      (zax N a5).bind fun r6=>
      (at? x3.2 x3.1).bind fun a7=>
      f4 ((IntKind.i64.wrap (x3.1+1)),(x3.2.set x3.1.toNat r6))
    else
      (zaJ N p0.Queues).bind fun x8=>
      lpX (fun f10 (x9:Int×List zao)=>
        if (decide (x9.1<(x8.length:Int)))=true then
          (at? x9.2 x9.1).bind fun a11=>
          (zax N a11.Users).bind fun r12=>
          (at? x9.2 x9.1).bind fun a13=>
          f10 ((IntKind.i64.wrap (x9.1+1)),(x9.2.set x9.1.toNat ({ Part:=a13.Part,Users:=r12,MaxJobs:=a13.MaxJobs,MaxRun:=a13.MaxRun,MaxUser:=a13.MaxUser,Qos:=a13.Qos }:zao)))
        else
          some ({ Nodes:=r1,Parts:=x3.2,Queues:=x9.2,Users:=p0.Users,Weights:=p0.Weights,Decay:=p0.Decay,Mode:=p0.Mode,Jobs:=p0.Jobs,Ids:=p0.Ids,Versions:=p0.Versions,Linger:=p0.Linger,Keep:=p0.Keep,In:=p0.In,Out:=p0.Out,Cache:=p0.Cache }:zad)) N (0,x8)) N (0,x2)
def zdr (N:Nat) (p0:Int) (p1:Int) (p2:Int):Option (Int):=
  if (decide (p0<p1))=true then
    some p1
  else
    if (decide (p0 > p2))=true then
      some p2
    else
      some p0
def share_New (N:Nat) (p0:Int):Option ((List Int)):=
  (zdr N p0 0 8).bind fun r1=>
  (mk? (0:Int) r1 r1).bind fun z2=>
  some z2
def zbB (N:Nat) (a0:zad):Option (Unit ⊕ (List (Int×zaf)×(List zaa)×(List (List Int))×(List zao)×Int×Int×Int×Int×Int×Int×Int×Int×Int×Int×Int×Int×Int×Int×Int×Int×Int×Int×(List Int)×(List Int)×Int×Int×(List zaa))):=
  (zcN N a0).bind fun r1=>
  if (!r1)=true then
    some (Sum.inl ())
  else
    (table_New_o7369 N a0.Jobs).bind fun x2=>
    match x2 with
    | .inl x3 =>
      some (Sum.inl ())
    | .inr x4 =>
      (zcd N a0).bind fun x5=>
      match x5 with
      | .inl x6 =>
        some (Sum.inl ())
      | .inr x7 =>
        (zbR N a0).bind fun r8=>
        (share_New N a0.Users).bind fun r9=>
        (mk? (0:Int) (a0.Queues.length:Int) (a0.Queues.length:Int)).bind fun z10=>
        some (Sum.inr (x7.1,r8.Nodes,r8.Parts,r8.Queues,r8.Users,r8.Weights.Age,r8.Weights.Size,r8.Weights.Qos,r8.Weights.Share,r8.Decay,r8.Mode,r8.Jobs,r8.Ids,r8.Versions,r8.Linger,r8.Keep,r8.In,r8.Out,r8.Cache,0,1,1,r9,z10,0,x4,x7.2))
def zaB (N:Nat) (a0:List (Int×zaf)) (a1:Int) (a2:Int) (a3:Int) (a4:Int) (a5:Int) (a6:Int) (a7:Int) (a8:Int) (a9:Int) (a10:Int) (a11:Int) (a12:Int) (a13:Int) (a14:Int) (a15:Int) (a16:(List zbS)) (a17:Int) (a18:Int) (a19:Int) (a20:Int) (a21:Int) (a22:(List zaa)) (a23:(List (List Int))) (a24:(List zao)) (a25:Int) (a26:Int) (a27:Int) (a28:Int) (a29:Int) (a30:Int) (a31:Int) (a32:Int) (a33:Int) (a34:Int) (a35:Int) (a36:Int) (a37:Int) (a38:Int) (a39:Int) (a40:Int) (a41:Int) (a42:Int) (a43:(List Int)) (a44:(List Int)) (a45:Int) (a46:Int) (a47:(List zaa)):Option ((Int)):=
  if (a2 == 0)=true then
    some a1
  else
    some a2
def zch (N:Nat) (a0:List (Int×zaf)) (a1:(List zaa)) (a2:(List (List Int))) (a3:(List zao)) (a4:Int) (a5:Int) (a6:Int) (a7:Int) (a8:Int) (a9:Int) (a10:Int) (a11:Int) (a12:Int) (a13:Int) (a14:Int) (a15:Int) (a16:Int) (a17:Int) (a18:Int) (a19:Int) (a20:Int) (a21:Int) (a22:(List Int)) (a23:(List Int)) (a24:Int) (a25:Int) (a26:(List zaa)):Option ((zad)):=
  (zbR N ({ Nodes:=a1,Parts:=a2,Queues:=a3,Users:=a4,Weights:=({ Age:=a5,Size:=a6,Qos:=a7,Share:=a8 }:zaI),Decay:=a9,Mode:=a10,Jobs:=a11,Ids:=a12,Versions:=a13,Linger:=a14,Keep:=a15,In:=a16,Out:=a17,Cache:=a18 }:zad)).bind fun r1=>
  some r1
def zc2 (N:Nat) (a0:List (Int×zaf)) (a1:Int) (a2:Int) (a3:Int) (a4:Int) (a5:Int) (a6:Int) (a7:Int) (a8:Int) (a9:Int) (a10:Int) (a11:Int) (a12:Int) (a13:Int) (a14:Int) (a15:(List zbS)) (a16:Int) (a17:Int) (a18:Int) (a19:Int) (a20:Int) (a21:(List zaa)) (a22:(List (List Int))) (a23:(List zao)) (a24:Int) (a25:Int) (a26:Int) (a27:Int) (a28:Int) (a29:Int) (a30:Int) (a31:Int) (a32:Int) (a33:Int) (a34:Int) (a35:Int) (a36:Int) (a37:Int) (a38:Int) (a39:Int) (a40:Int) (a41:Int) (a42:(List Int)) (a43:(List Int)) (a44:Int) (a45:Int) (a46:(List zaa)):Option ((Int)):=
  jn (fun (x1:Int)=>
    jn (fun (x3:Int)=>
      if (a2 != 0)=true then
        (zaB N a0 33 x3 a2 a3 a4 a5 a6 a7 a8 a9 a10 a11 a12 a13 a14 a15 a16 a17 a18 a19 a20 a21 a22 a23 a24 a25 a26 a27 a28 a29 a30 a31 a32 a33 a34 a35 a36 a37 a38 a39 a40 a41 a42 a43 a44 a45 a46).bind fun x5=>
        some x5
      else
        some x3) fun j4=>
    jn (fun (x6:Bool)=>
      if x6=true then
        (zaB N a0 2 x1 a2 a3 a4 a5 a6 a7 a8 a9 a10 a11 a12 a13 a14 a15 a16 a17 a18 a19 a20 a21 a22 a23 a24 a25 a26 a27 a28 a29 a30 a31 a32 a33 a34 a35 a36 a37 a38 a39 a40 a41 a42 a43 a44 a45 a46).bind fun x8=>
        j4 x8
      else
        j4 x1) fun j7=>
    if (decide (a2<0))=true then
    j7 true
    else
    (zch N a0 a21 a22 a23 a24 a25 a26 a27 a28 a29 a30 a31 a32 a33 a34 a35 a36 a37 a38 a39 a40 a41 a42 a43 a44 a45 a46).bind fun x9=>
    j7 (decide (a2≥x9.Users))) fun j2=>
  if ((a3 != 11)&&(a3 != 12))=true then
    (zaB N a0 2 a1 a2 a3 a4 a5 a6 a7 a8 a9 a10 a11 a12 a13 a14 a15 a16 a17 a18 a19 a20 a21 a22 a23 a24 a25 a26 a27 a28 a29 a30 a31 a32 a33 a34 a35 a36 a37 a38 a39 a40 a41 a42 a43 a44 a45 a46).bind fun x10=>
    j2 x10
  else
    j2 a1
def zcf (N:Nat) (p0:(List zac)) (p1:Int) (p2:Int) (p3:Int):Option (Bool):=
  lpX (fun f2 (x1:Int)=>
    if (decide (x1<(p0.length:Int)))=true then
      (at? p0 x1).bind fun a3=>
      if ((a3.Node == p1)&&(decide ((if p2 > a3.From then p2 else a3.From)<(if p3<a3.To then p3 else a3.To))))=true then
        some true
      else
        f2 (IntKind.i64.wrap (x1+1))
    else
      some false) N 0
def zaY (N:Nat) (p0:(List zak)):Option ((List zak)):=app? [] p0
def ledger_own (N:Nat) (p0:zaf):Option (zaf):=
  (zaY N p0.Shares).bind fun r1=>
  some ({ Job:=p0.Job,Need:=p0.Need,Shares:=r1 }:zaf)
def zas (N:Nat) (a0:List (Int×zaf)) (a1:(List zaa)):Option (((List zaf))):=
  (keysI (fun k=>k) a0).bind fun x1=>
  lpX (fun f3 (x2:Int×List zaf)=>
    if (decide (x2.1<(x1.length:Int)))=true then
      (at? x1 x2.1).bind fun a4=>
      oel (mget a0 a4) (
        (ledger_own N ({ Job:=0,Need:=({ Cpu:=0,Mem:=0,Gpu:=0,Lic:=0 }:zaa),Shares:=[] }:zaf)).bind fun r6=>
        (app? x2.2 ([r6]:List zaf)).bind fun z7=>
        f3 ((IntKind.i64.wrap (x2.1+1)),z7)) fun v5=>
      (ledger_own N v5).bind fun r8=>
      (app? x2.2 ([r8]:List zaf)).bind fun z9=>
      f3 ((IntKind.i64.wrap (x2.1+1)),z9)
    else
      some x2.2) N (0,([]:List zaf))
def zbn (N:Nat) (p0:(List zbS)):Option ((List zbS)):=app? [] p0
def table_own (N:Nat) (p0:zah):Option (zah):=
  (zbn N p0.After).bind fun r1=>
  some ({ Id:=p0.Id,User:=p0.User,Queue:=p0.Queue,Many:=p0.Many,Need:=p0.Need,Wall:=p0.Wall,After:=r1,State:=p0.State,Ok:=p0.Ok,Kill:=p0.Kill,Version:=p0.Version,Born:=p0.Born,Start:=p0.Start,End:=p0.End,Array:=p0.Array }:zah)
def zbb (N:Nat) (a0:List zah) (a1:Int) (a2:Int):Option ((Int×Bool)):=
  (
    lpX (fun f2 (x1:Int×Int)=>
      if (decide (x1.1<x1.2))=true then
        (
          (at? a0 (IntKind.i64.wrap (Int.fdiv (IntKind.u64.wrap (IntKind.i64.wrap (x1.1+x1.2))) (2 ^ 1)))).bind fun a3=>
          some (decide (a3.Id≥a1))).bind fun x4=>
        if (!x4)=true then
          f2 ((IntKind.i64.wrap ((IntKind.i64.wrap (Int.fdiv (IntKind.u64.wrap (IntKind.i64.wrap (x1.1+x1.2))) (2 ^ 1)))+1)),x1.2)
        else
          f2 (x1.1,(IntKind.i64.wrap (Int.fdiv (IntKind.u64.wrap (IntKind.i64.wrap (x1.1+x1.2))) (2 ^ 1))))
      else
        some x1.1) N (0,(a0.length:Int))).bind fun x5=>
  if (decide (x5<(a0.length:Int)))=true then
  (at? a0 x5).bind fun a6=>
  some (x5,(a6.Id == a1))
  else
  some (x5,false)
def table_Table_Get_o6536 (N:Nat) (a0:List zah) (a1:Int) (a2:Int):Option ((zah×Bool)):=
  (zbb N a0 a1 a2).bind fun x1=>
  if (!x1.2)=true then
    some (({ Id:=0,User:=0,Queue:=0,Many:=0,Need:=({ Cpu:=0,Mem:=0,Gpu:=0,Lic:=0 }:zaa),Wall:=0,After:=[],State:=0,Ok:=false,Kill:=false,Version:=0,Born:=0,Start:=0,End:=0,Array:=0 }:zah),false)
  else
    (at? a0 x1.1).bind fun a2=>
    (table_own N a2).bind fun r3=>
    some (r3,true)
def store_Store_taken_o0d36 (N:Nat) (a0:List (Int×zaf)) (a1:Int) (a2:Int) (a3:(List zaa)) (a4:(List (List Int))) (a5:(List zao)) (a6:Int) (a7:Int) (a8:Int) (a9:Int) (a10:Int) (a11:Int) (a12:Int) (a13:Int) (a14:Int) (a15:Int) (a16:Int) (a17:Int) (a18:Int) (a19:Int) (a20:Int) (a21:Int) (a22:Int) (a23:Int) (a24:(List Int)) (a25:(List Int)) (a26:Int) (a27:Int) (a28:(List zaa)):Option ((Bool×(List zah))):=
  (zas N a0 a28).bind fun x1=>
  lpX (fun f3 (x2:Int)=>
    if (decide (x2<(x1.length:Int)))=true then
      jn (fun (x4:Unit)=>
        f3 (IntKind.i64.wrap (x2+1))) fun j5=>
      (at? x1 x2).bind fun a6=>
      (table_Table_Get_o6536 N ([]:List zah) a6.Job a27).bind fun x7=>
      if ((!x7.2) || (decide ((IntKind.i64.wrap (x7.1.Start+x7.1.Wall))≤a2)))=true then
        j5 ()
      else
        (
          (
            lpX (fun f9 (x8:Int)=>
              if (decide (x8<(a6.Shares.length:Int)))=true then
                (at? a6.Shares x8).bind fun a10=>
                (
                  some (a10.Node == a1)).bind fun x11=>
                if x11=true then
                  some x8
                else
                  f9 (IntKind.i64.wrap (x8+1))
              else
                some (-1)) N 0).bind fun x12=>
          some (decide (x12≥0))).bind fun x13=>
        if x13=true then
          some (true,([]:List zah))
        else
          j5 ()
    else
      some (false,([]:List zah))) N 0
def book_whole (N:Nat) (p0:zac) (p1:Int):Option (Bool):=
  some (((((((decide (p0.Id≥1))&&(decide (p0.Id≤281474976710656)))&&(decide (p0.Node≥0)))&&(decide (p0.Node<p1)))&&(decide (p0.From≥0)))&&(decide (p0.From<p0.To)))&&(decide (p0.To≤1099511627776)))
def book_Right (N:Nat) (p0:(List zac)) (p1:Int):Option (Bool):=
  if (decide ((p0.length:Int) > 16))=true then
    some false
  else
    lpX (fun f2 (x1:Int)=>
      if (decide (x1<(p0.length:Int)))=true then
        (at? p0 x1).bind fun a3=>
        jn (fun (x4:Bool)=>
          if x4=true then
            some false
          else
            f2 (IntKind.i64.wrap (x1+1))) fun j5=>
        (book_whole N a3 p1).bind fun r6=>
        if (!r6)=true then
        j5 true
        else
        if (decide (x1 > 0))=true then
        (at? p0 (IntKind.i64.wrap (x1-1))).bind fun a7=>
        if (decide (a3.Id≤a7.Id))=true then
        j5 true
        else
        (slice? p0 0 x1).bind fun z8=>
        (zcf N z8 a3.Node a3.From a3.To).bind fun r9=>
        j5 r9
        else
        (slice? p0 0 x1).bind fun z10=>
        (zcf N z10 a3.Node a3.From a3.To).bind fun r11=>
        j5 r11
      else
        some true) N 0
def book_Add (N:Nat) (p0:(List zac)) (p1:Int) (p2:zac):Option ((List zac)×Int):=
  jn (fun (x1:Bool)=>
    if x1=true then
      some ([],2)
    else
      if ((p0.length:Int) == 16)=true then
        some ([],3)
      else
        jn (fun (x3:Bool)=>
          if x3=true then
            some ([],31)
          else
            (zcf N p0 p2.Node p2.From p2.To).bind fun r5=>
            if r5=true then
              some ([],39)
            else
              (mk? ({ Id:=0,Node:=0,From:=0,To:=0 }:zac) (IntKind.i64.wrap ((p0.length:Int)+1)) (IntKind.i64.wrap ((p0.length:Int)+1))).bind fun z6=>
              (at? (cpL z6 p0 0 z6.length) (p0.length:Int)).bind fun a7=>
              some (((cpL z6 p0 0 z6.length).set (p0.length:Int).toNat p2),0)) fun j4=>
        if (decide ((p0.length:Int) > 0))=true then
        (at? p0 (IntKind.i64.wrap ((p0.length:Int)-1))).bind fun a8=>
        j4 (decide (p2.Id≤a8.Id))
        else
        j4 false) fun j2=>
  (book_Right N p0 p1).bind fun r9=>
  if (!r9)=true then
  j2 true
  else
  (book_whole N p2 p1).bind fun r10=>
  j2 (!r10)
def zc4 (N:Nat) (a0:List (Int×zaf)) (a1:Int) (a2:Int) (a3:Int) (a4:(List zaa)) (a5:(List (List Int))) (a6:(List zao)) (a7:Int) (a8:Int) (a9:Int) (a10:Int) (a11:Int) (a12:Int) (a13:Int) (a14:Int) (a15:Int) (a16:Int) (a17:Int) (a18:Int) (a19:Int) (a20:Int) (a21:Int) (a22:Int) (a23:Int) (a24:Int) (a25:(List Int)) (a26:(List Int)) (a27:Int) (a28:Int) (a29:(List zaa)):Option ((Int×Int×(List zah)×Int×(List zac))):=
  if (((((decide (a1<0)) || (decide (a1≥(a4.length:Int)))) || (decide (a2<a22))) || (decide (a3≤a2))) || (decide (a3 > 1099511627776)))=true then
    some (0,2,[],a24,[])
  else
    if (decide (a24≥281474976710656))=true then
      some (0,3,[],a24,[])
    else
      jn (fun (x1:Bool×(List zah))=>
        if x1.1=true then
          some (0,39,x1.2,a24,[])
        else
          (book_Add N [] (a4.length:Int) ({ Id:=a24,Node:=a1,From:=a2,To:=a3 }:zac)).bind fun r3=>
          if (r3.2 != 0)=true then
            some (0,r3.2,x1.2,a24,[])
          else
            some (a24,0,x1.2,(IntKind.i64.wrap (a24+1)),r3.1)) fun j2=>
      (zcf N [] a1 a2 a3).bind fun r4=>
      if r4=true then
      j2 (true,[])
      else
      (store_Store_taken_o0d36 N a0 a1 a2 a4 a5 a6 a7 a8 a9 a10 a11 a12 a13 a14 a15 a16 a17 a18 a19 a20 a21 a22 a23 a24 a25 a26 a27 a28 a29).bind fun x5=>
      j2 (x5.1,x5.2)
def zaj (N:Nat) (a0:List (Int×zaf)) (a1:Int) (a2:Int) (a3:Int) (a4:Int) (a5:Int) (a6:Int) (a7:Int) (a8:Int) (a9:Int) (a10:Int) (a11:Int) (a12:Int) (a13:Int) (a14:Int) (a15:Int) (a16:(List zbS)) (a17:Int) (a18:Int) (a19:Int) (a20:Int) (a21:Int) (a22:(List zaa)) (a23:(List (List Int))) (a24:(List zao)) (a25:Int) (a26:Int) (a27:Int) (a28:Int) (a29:Int) (a30:Int) (a31:Int) (a32:Int) (a33:Int) (a34:Int) (a35:Int) (a36:Int) (a37:Int) (a38:Int) (a39:Int) (a40:Int) (a41:Int) (a42:Int) (a43:(List zac)) (a44:(List Int)) (a45:(List Int)) (a46:Int) (a47:Int) (a48:(List zah)) (a49:(List zaa)):Option ((Int)):=
  if (a2 == 0)=true then
    some a1
  else
    some a2
def zcB (N:Nat) (a0:List (Int×zaf)) (a1:Int) (a2:Int) (a3:Int) (a4:Int) (a5:Int) (a6:Int) (a7:Int) (a8:Int) (a9:Int) (a10:Int) (a11:Int) (a12:Int) (a13:Int) (a14:Int) (a15:(List zbS)) (a16:Int) (a17:Int) (a18:Int) (a19:Int) (a20:Int) (a21:(List zaa)) (a22:(List (List Int))) (a23:(List zao)) (a24:Int) (a25:Int) (a26:Int) (a27:Int) (a28:Int) (a29:Int) (a30:Int) (a31:Int) (a32:Int) (a33:Int) (a34:Int) (a35:Int) (a36:Int) (a37:Int) (a38:Int) (a39:Int) (a40:Int) (a41:Int) (a42:(List Int)) (a43:(List Int)) (a44:Int) (a45:Int) (a46:(List zaa)):Option ((Int×Int×Int×(List zac)×(List zah))):=
  jn (fun (x1:Bool)=>
    if x1=true then
      (zaB N a0 30 a1 a2 a3 a4 a5 a6 a7 a8 a9 a10 a11 a12 a13 a14 a15 a16 a17 a18 a19 a20 a21 a22 a23 a24 a25 a26 a27 a28 a29 a30 a31 a32 a33 a34 a35 a36 a37 a38 a39 a40 a41 a42 a43 a44 a45 a46).bind fun x3=>
      some (x3,a20,a41,[],[])
    else
      if (decide (a18 > 1099511627776))=true then
        (zaB N a0 38 a1 a2 a3 a4 a5 a6 a7 a8 a9 a10 a11 a12 a13 a14 a15 a16 a17 a18 a19 a20 a21 a22 a23 a24 a25 a26 a27 a28 a29 a30 a31 a32 a33 a34 a35 a36 a37 a38 a39 a40 a41 a42 a43 a44 a45 a46).bind fun x4=>
        some (x4,a20,a41,[],[])
      else
        (zc4 N a0 a16 a17 a18 a21 a22 a23 a24 a25 a26 a27 a28 a29 a30 a31 a32 a33 a34 a35 a36 a37 a38 a39 a40 a41 a42 a43 a44 a45 a46).bind fun x5=>
        (zaj N a0 x5.2.1 a1 a2 a3 a4 a5 a6 a7 a8 a9 a10 a11 a12 a13 a14 a15 a16 a17 a18 a19 x5.1 a21 a22 a23 a24 a25 a26 a27 a28 a29 a30 a31 a32 a33 a34 a35 a36 a37 a38 a39 a40 x5.2.2.2.1 x5.2.2.2.2 a42 a43 a44 a45 x5.2.2.1 a46).bind fun x6=>
        some (x6,x5.1,x5.2.2.2.1,x5.2.2.2.2,x5.2.2.1)) fun j2=>
  if (decide (a16<0))=true then
  j2 true
  else
  (zch N a0 a21 a22 a23 a24 a25 a26 a27 a28 a29 a30 a31 a32 a33 a34 a35 a36 a37 a38 a39 a40 a41 a42 a43 a44 a45 a46).bind fun x7=>
  j2 (decide (a16≥(x7.Nodes.length:Int)))
def book_Drop (N:Nat) (p0:(List zac)) (p1:Int):Option ((List zac)×Int):=
  lpX (fun f2 (x1:Int)=>
    if (decide (x1<(p0.length:Int)))=true then
      (at? p0 x1).bind fun a3=>
      if (a3.Id == p1)=true then
        (mk? ({ Id:=0,Node:=0,From:=0,To:=0 }:zac) (IntKind.i64.wrap ((p0.length:Int)-1)) (IntKind.i64.wrap ((p0.length:Int)-1))).bind fun z4=>
        (slice? p0 0 x1).bind fun z5=>
        (slice? (cpL z4 z5 0 z4.length) x1 ((cpL z4 z5 0 z4.length).length:Int)).bind fun z6=>
        (slice? p0 (IntKind.i64.wrap (x1+1)) (p0.length:Int)).bind fun z7=>
        some ((cpL (cpL z4 z5 0 z4.length) z7 x1.toNat (((cpL z4 z5 0 z4.length).length:Int).toNat-x1.toNat)),0)
      else
        f2 (IntKind.i64.wrap (x1+1))
    else
      some ([],30)) N 0
def zcz (N:Nat) (a0:List (Int×zaf)) (a1:Int) (a2:(List zaa)) (a3:(List (List Int))) (a4:(List zao)) (a5:Int) (a6:Int) (a7:Int) (a8:Int) (a9:Int) (a10:Int) (a11:Int) (a12:Int) (a13:Int) (a14:Int) (a15:Int) (a16:Int) (a17:Int) (a18:Int) (a19:Int) (a20:Int) (a21:Int) (a22:Int) (a23:(List Int)) (a24:(List Int)) (a25:Int) (a26:Int) (a27:(List zaa)):Option ((Int×(List zac))):=
  (book_Drop N [] a1).bind fun r1=>
  if (r1.2 != 0)=true then
    some (r1.2,[])
  else
    some (0,r1.1)
def zcW (N:Nat) (a0:List (Int×zaf)) (a1:Int) (a2:Int) (a3:Int) (a4:Int) (a5:Int) (a6:Int) (a7:Int) (a8:Int) (a9:Int) (a10:Int) (a11:Int) (a12:Int) (a13:Int) (a14:Int) (a15:Int) (a16:(List zbS)) (a17:Int) (a18:Int) (a19:Int) (a20:Int) (a21:Int) (a22:(List zaa)) (a23:(List (List Int))) (a24:(List zao)) (a25:Int) (a26:Int) (a27:Int) (a28:Int) (a29:Int) (a30:Int) (a31:Int) (a32:Int) (a33:Int) (a34:Int) (a35:Int) (a36:Int) (a37:Int) (a38:Int) (a39:Int) (a40:Int) (a41:Int) (a42:Int) (a43:(List zac)) (a44:(List Int)) (a45:(List Int)) (a46:Int) (a47:Int) (a48:(List zaa)):Option ((Int)):=
  if (a2 == 0)=true then
    some a1
  else
    some a2
def zcc (N:Nat) (a0:List (Int×zaf)) (a1:Int) (a2:Int) (a3:Int) (a4:Int) (a5:Int) (a6:Int) (a7:Int) (a8:Int) (a9:Int) (a10:Int) (a11:Int) (a12:Int) (a13:Int) (a14:Int) (a15:(List zbS)) (a16:Int) (a17:Int) (a18:Int) (a19:Int) (a20:Int) (a21:(List zaa)) (a22:(List (List Int))) (a23:(List zao)) (a24:Int) (a25:Int) (a26:Int) (a27:Int) (a28:Int) (a29:Int) (a30:Int) (a31:Int) (a32:Int) (a33:Int) (a34:Int) (a35:Int) (a36:Int) (a37:Int) (a38:Int) (a39:Int) (a40:Int) (a41:Int) (a42:(List Int)) (a43:(List Int)) (a44:Int) (a45:Int) (a46:(List zaa)):Option ((Int×Int×(List zac))):=
  (zcz N a0 a19 a21 a22 a23 a24 a25 a26 a27 a28 a29 a30 a31 a32 a33 a34 a35 a36 a37 a38 a39 a40 a41 a42 a43 a44 a45 a46).bind fun x1=>
  (zcW N a0 x1.1 a1 a2 a3 a4 a5 a6 a7 a8 a9 a10 a11 a12 a13 a14 a15 a16 a17 a18 a19 a19 a21 a22 a23 a24 a25 a26 a27 a28 a29 a30 a31 a32 a33 a34 a35 a36 a37 a38 a39 a40 a41 x1.2 a42 a43 a44 a45 a46).bind fun x2=>
  some (x2,a19,x1.2)
def zcO (N:Nat) (p0:Int) (p1:Int):Option (za9):=
  some ({ Key:=p0,Err:=p1,Job:=0,Version:=0,Nums:=[] }:za9)
def reserve_Do_o2212 (N:Nat) (a0:List (Int×zaf)) (a1:Int) (a2:zaG) (a3:(List zaa)) (a4:(List (List Int))) (a5:(List zao)) (a6:Int) (a7:Int) (a8:Int) (a9:Int) (a10:Int) (a11:Int) (a12:Int) (a13:Int) (a14:Int) (a15:Int) (a16:Int) (a17:Int) (a18:Int) (a19:Int) (a20:Int) (a21:Int) (a22:Int) (a23:Int) (a24:(List Int)) (a25:(List Int)) (a26:Int) (a27:Int) (a28:(List zaa)):Option ((za9×Int×(List zac)×(List zah))):=
  (zc2 N a0 0 a1 a2.Kind a2.Key a2.Job a2.Version a2.Queue a2.Many a2.Need.Cpu a2.Need.Mem a2.Need.Gpu a2.Need.Lic a2.Wall a2.Tasks a2.After a2.Node a2.From a2.To a2.Id 0 a3 a4 a5 a6 a7 a8 a9 a10 a11 a12 a13 a14 a15 a16 a17 a18 a19 a20 a21 a22 a23 a24 a25 a26 a27 a28).bind fun x1=>
  jn (fun (x2:Int×(List zac)×(List zah)×Int×Int)=>
    if (x2.2.2.2.1 != 0)=true then
      (zcO N a2.Key x2.2.2.2.1).bind fun r4=>
      some (r4,x2.1,x2.2.1,x2.2.2.1)
    else
      some (({ Key:=a2.Key,Err:=0,Job:=x2.2.2.2.2,Version:=0,Nums:=[] }:za9),x2.1,x2.2.1,x2.2.2.1)) fun j3=>
  if (x1 == 0)=true then
    if (a2.Kind == 11)=true then
      (zcB N a0 x1 a1 a2.Kind a2.Key a2.Job a2.Version a2.Queue a2.Many a2.Need.Cpu a2.Need.Mem a2.Need.Gpu a2.Need.Lic a2.Wall a2.Tasks a2.After a2.Node a2.From a2.To a2.Id 0 a3 a4 a5 a6 a7 a8 a9 a10 a11 a12 a13 a14 a15 a16 a17 a18 a19 a20 a21 a22 a23 a24 a25 a26 a27 a28).bind fun x5=>
      j3 (x5.2.2.1,x5.2.2.2.1,x5.2.2.2.2,x5.1,x5.2.1)
    else
      if (a2.Kind == 12)=true then
        (zcc N a0 x1 a1 a2.Kind a2.Key a2.Job a2.Version a2.Queue a2.Many a2.Need.Cpu a2.Need.Mem a2.Need.Gpu a2.Need.Lic a2.Wall a2.Tasks a2.After a2.Node a2.From a2.To a2.Id 0 a3 a4 a5 a6 a7 a8 a9 a10 a11 a12 a13 a14 a15 a16 a17 a18 a19 a20 a21 a22 a23 a24 a25 a26 a27 a28).bind fun x6=>
        j3 (a23,x6.2.2,[],x6.1,x6.2.1)
      else
        j3 (a23,[],[],x1,0)
  else
    j3 (a23,[],[],x1,0)
def zba (N:Nat) (a0:List (Int×zaf)) (a1:(List zaa)) (a2:(List (List Int))) (a3:(List zao)) (a4:Int) (a5:Int) (a6:Int) (a7:Int) (a8:Int) (a9:Int) (a10:Int) (a11:Int) (a12:Int) (a13:Int) (a14:Int) (a15:Int) (a16:Int) (a17:Int) (a18:Int) (a19:Int) (a20:Int) (a21:Int) (a22:(List zac)) (a23:(List Int)) (a24:(List Int)) (a25:Int) (a26:Int) (a27:(List zah)) (a28:(List zaa)):Option ((zad)):=
  (zbR N ({ Nodes:=a1,Parts:=a2,Queues:=a3,Users:=a4,Weights:=({ Age:=a5,Size:=a6,Qos:=a7,Share:=a8 }:zaI),Decay:=a9,Mode:=a10,Jobs:=a11,Ids:=a12,Versions:=a13,Linger:=a14,Keep:=a15,In:=a16,Out:=a17,Cache:=a18 }:zad)).bind fun r1=>
  some r1
def zbg (N:Nat) (a0:List (Int×zaf)) (a1:Int) (a2:Int) (a3:Int) (a4:Int) (a5:Int) (a6:Int) (a7:Int) (a8:Int) (a9:Int) (a10:Int) (a11:Int) (a12:Int) (a13:Int) (a14:Int) (a15:(List zbS)) (a16:Int) (a17:Int) (a18:Int) (a19:Int) (a20:Int) (a21:(List zaa)) (a22:(List (List Int))) (a23:(List zao)) (a24:Int) (a25:Int) (a26:Int) (a27:Int) (a28:Int) (a29:Int) (a30:Int) (a31:Int) (a32:Int) (a33:Int) (a34:Int) (a35:Int) (a36:Int) (a37:Int) (a38:Int) (a39:Int) (a40:Int) (a41:Int) (a42:(List zac)) (a43:(List Int)) (a44:(List Int)) (a45:Int) (a46:Int) (a47:(List zah)) (a48:(List zaa)):Option ((Int)):=
  jn (fun (x1:Int)=>
    jn (fun (x3:Int)=>
      if (a2 != 0)=true then
        (zaj N a0 33 x3 a2 a3 a4 a5 a6 a7 a8 a9 a10 a11 a12 a13 a14 a15 a16 a17 a18 a19 a20 a21 a22 a23 a24 a25 a26 a27 a28 a29 a30 a31 a32 a33 a34 a35 a36 a37 a38 a39 a40 a41 a42 a43 a44 a45 a46 a47 a48).bind fun x5=>
        some x5
      else
        some x3) fun j4=>
    jn (fun (x6:Bool)=>
      if x6=true then
        (zaj N a0 2 x1 a2 a3 a4 a5 a6 a7 a8 a9 a10 a11 a12 a13 a14 a15 a16 a17 a18 a19 a20 a21 a22 a23 a24 a25 a26 a27 a28 a29 a30 a31 a32 a33 a34 a35 a36 a37 a38 a39 a40 a41 a42 a43 a44 a45 a46 a47 a48).bind fun x8=>
        j4 x8
      else
        j4 x1) fun j7=>
    if (decide (a2<0))=true then
    j7 true
    else
    (zba N a0 a21 a22 a23 a24 a25 a26 a27 a28 a29 a30 a31 a32 a33 a34 a35 a36 a37 a38 a39 a40 a41 a42 a43 a44 a45 a46 a47 a48).bind fun x9=>
    j7 (decide (a2≥x9.Users))) fun j2=>
  if ((a3 != 11)&&(a3 != 12))=true then
    (zaj N a0 2 a1 a2 a3 a4 a5 a6 a7 a8 a9 a10 a11 a12 a13 a14 a15 a16 a17 a18 a19 a20 a21 a22 a23 a24 a25 a26 a27 a28 a29 a30 a31 a32 a33 a34 a35 a36 a37 a38 a39 a40 a41 a42 a43 a44 a45 a46 a47 a48).bind fun x10=>
    j2 x10
  else
    j2 a1
def zbC (N:Nat) (a0:Int) (a1:Int) (a2:(List zah)):Option ((Int×Bool)):=
  (
    lpX (fun f2 (x1:Int×Int)=>
      if (decide (x1.1<x1.2))=true then
        (
          (at? a2 (IntKind.i64.wrap (Int.fdiv (IntKind.u64.wrap (IntKind.i64.wrap (x1.1+x1.2))) (2 ^ 1)))).bind fun a3=>
          some (decide (a3.Id≥a0))).bind fun x4=>
        if (!x4)=true then
          f2 ((IntKind.i64.wrap ((IntKind.i64.wrap (Int.fdiv (IntKind.u64.wrap (IntKind.i64.wrap (x1.1+x1.2))) (2 ^ 1)))+1)),x1.2)
        else
          f2 (x1.1,(IntKind.i64.wrap (Int.fdiv (IntKind.u64.wrap (IntKind.i64.wrap (x1.1+x1.2))) (2 ^ 1))))
      else
        some x1.1) N (0,(a2.length:Int))).bind fun x5=>
  if (decide (x5<(a2.length:Int)))=true then
  (at? a2 x5).bind fun a6=>
  some (x5,(a6.Id == a0))
  else
  some (x5,false)
def zbJ (N:Nat) (a0:Int) (a1:Int) (a2:(List zah)):Option ((zah×Bool)):=
  (zbC N a0 a1 a2).bind fun x1=>
  if (!x1.2)=true then
    some (({ Id:=0,User:=0,Queue:=0,Many:=0,Need:=({ Cpu:=0,Mem:=0,Gpu:=0,Lic:=0 }:zaa),Wall:=0,After:=[],State:=0,Ok:=false,Kill:=false,Version:=0,Born:=0,Start:=0,End:=0,Array:=0 }:zah),false)
  else
    (at? a2 x1.1).bind fun a2=>
    (table_own N a2).bind fun r3=>
    some (r3,true)
def zbq (N:Nat) (a0:List (Int×zaf)) (a1:Int) (a2:Int) (a3:(List zaa)) (a4:(List (List Int))) (a5:(List zao)) (a6:Int) (a7:Int) (a8:Int) (a9:Int) (a10:Int) (a11:Int) (a12:Int) (a13:Int) (a14:Int) (a15:Int) (a16:Int) (a17:Int) (a18:Int) (a19:Int) (a20:Int) (a21:Int) (a22:Int) (a23:Int) (a24:(List zac)) (a25:(List Int)) (a26:(List Int)) (a27:Int) (a28:Int) (a29:(List zah)) (a30:(List zaa)):Option ((Bool)):=
  (zas N a0 a30).bind fun x1=>
  lpX (fun f3 (x2:Int)=>
    if (decide (x2<(x1.length:Int)))=true then
      jn (fun (x4:Unit)=>
        f3 (IntKind.i64.wrap (x2+1))) fun j5=>
      (at? x1 x2).bind fun a6=>
      (zbJ N a6.Job a28 a29).bind fun x7=>
      if ((!x7.2) || (decide ((IntKind.i64.wrap (x7.1.Start+x7.1.Wall))≤a2)))=true then
        j5 ()
      else
        (
          (
            lpX (fun f9 (x8:Int)=>
              if (decide (x8<(a6.Shares.length:Int)))=true then
                (at? a6.Shares x8).bind fun a10=>
                (
                  some (a10.Node == a1)).bind fun x11=>
                if x11=true then
                  some x8
                else
                  f9 (IntKind.i64.wrap (x8+1))
              else
                some (-1)) N 0).bind fun x12=>
          some (decide (x12≥0))).bind fun x13=>
        if x13=true then
          some true
        else
          j5 ()
    else
      some false) N 0
def zaN (N:Nat) (a0:List (Int×zaf)) (a1:Int) (a2:Int) (a3:Int) (a4:(List zaa)) (a5:(List (List Int))) (a6:(List zao)) (a7:Int) (a8:Int) (a9:Int) (a10:Int) (a11:Int) (a12:Int) (a13:Int) (a14:Int) (a15:Int) (a16:Int) (a17:Int) (a18:Int) (a19:Int) (a20:Int) (a21:Int) (a22:Int) (a23:Int) (a24:Int) (a25:(List zac)) (a26:(List Int)) (a27:(List Int)) (a28:Int) (a29:Int) (a30:(List zah)) (a31:(List zaa)):Option ((Int×Int×Int×(List zac))):=
  if (((((decide (a1<0)) || (decide (a1≥(a4.length:Int)))) || (decide (a2<a22))) || (decide (a3≤a2))) || (decide (a3 > 1099511627776)))=true then
    some (0,2,a24,a25)
  else
    if ((decide ((a25.length:Int)≥16)) || (decide (a24≥281474976710656)))=true then
      some (0,3,a24,a25)
    else
      jn (fun (x1:Bool)=>
        if x1=true then
          some (0,39,a24,a25)
        else
          (book_Add N a25 (a4.length:Int) ({ Id:=a24,Node:=a1,From:=a2,To:=a3 }:zac)).bind fun r3=>
          if (r3.2 != 0)=true then
            some (0,r3.2,a24,a25)
          else
            some (a24,0,(IntKind.i64.wrap (a24+1)),r3.1)) fun j2=>
      (zcf N a25 a1 a2 a3).bind fun r4=>
      if r4=true then
      j2 true
      else
      (zbq N a0 a1 a2 a4 a5 a6 a7 a8 a9 a10 a11 a12 a13 a14 a15 a16 a17 a18 a19 a20 a21 a22 a23 a24 a25 a26 a27 a28 a29 a30 a31).bind fun x5=>
      j2 x5
def zaZ (N:Nat) (a0:List (Int×zaf)) (a1:Int) (a2:Int) (a3:Int) (a4:Int) (a5:Int) (a6:Int) (a7:Int) (a8:Int) (a9:Int) (a10:Int) (a11:Int) (a12:Int) (a13:Int) (a14:Int) (a15:(List zbS)) (a16:Int) (a17:Int) (a18:Int) (a19:Int) (a20:Int) (a21:(List zaa)) (a22:(List (List Int))) (a23:(List zao)) (a24:Int) (a25:Int) (a26:Int) (a27:Int) (a28:Int) (a29:Int) (a30:Int) (a31:Int) (a32:Int) (a33:Int) (a34:Int) (a35:Int) (a36:Int) (a37:Int) (a38:Int) (a39:Int) (a40:Int) (a41:Int) (a42:(List zac)) (a43:(List Int)) (a44:(List Int)) (a45:Int) (a46:Int) (a47:(List zah)) (a48:(List zaa)):Option ((Int×Int×Int×(List zac))):=
  jn (fun (x1:Bool)=>
    if x1=true then
      (zaj N a0 30 a1 a2 a3 a4 a5 a6 a7 a8 a9 a10 a11 a12 a13 a14 a15 a16 a17 a18 a19 a20 a21 a22 a23 a24 a25 a26 a27 a28 a29 a30 a31 a32 a33 a34 a35 a36 a37 a38 a39 a40 a41 a42 a43 a44 a45 a46 a47 a48).bind fun x3=>
      some (x3,a20,a41,a42)
    else
      if (decide (a18 > 1099511627776))=true then
        (zaj N a0 38 a1 a2 a3 a4 a5 a6 a7 a8 a9 a10 a11 a12 a13 a14 a15 a16 a17 a18 a19 a20 a21 a22 a23 a24 a25 a26 a27 a28 a29 a30 a31 a32 a33 a34 a35 a36 a37 a38 a39 a40 a41 a42 a43 a44 a45 a46 a47 a48).bind fun x4=>
        some (x4,a20,a41,a42)
      else
        (zaN N a0 a16 a17 a18 a21 a22 a23 a24 a25 a26 a27 a28 a29 a30 a31 a32 a33 a34 a35 a36 a37 a38 a39 a40 a41 a42 a43 a44 a45 a46 a47 a48).bind fun x5=>
        (zaj N a0 x5.2.1 a1 a2 a3 a4 a5 a6 a7 a8 a9 a10 a11 a12 a13 a14 a15 a16 a17 a18 a19 x5.1 a21 a22 a23 a24 a25 a26 a27 a28 a29 a30 a31 a32 a33 a34 a35 a36 a37 a38 a39 a40 x5.2.2.1 x5.2.2.2 a43 a44 a45 a46 a47 a48).bind fun x6=>
        some (x6,x5.1,x5.2.2.1,x5.2.2.2)) fun j2=>
  if (decide (a16<0))=true then
  j2 true
  else
  (zba N a0 a21 a22 a23 a24 a25 a26 a27 a28 a29 a30 a31 a32 a33 a34 a35 a36 a37 a38 a39 a40 a41 a42 a43 a44 a45 a46 a47 a48).bind fun x7=>
  j2 (decide (a16≥(x7.Nodes.length:Int)))
def zbw (N:Nat) (a0:List (Int×zaf)) (a1:Int) (a2:(List zaa)) (a3:(List (List Int))) (a4:(List zao)) (a5:Int) (a6:Int) (a7:Int) (a8:Int) (a9:Int) (a10:Int) (a11:Int) (a12:Int) (a13:Int) (a14:Int) (a15:Int) (a16:Int) (a17:Int) (a18:Int) (a19:Int) (a20:Int) (a21:Int) (a22:Int) (a23:(List zac)) (a24:(List Int)) (a25:(List Int)) (a26:Int) (a27:Int) (a28:(List zah)) (a29:(List zaa)):Option ((Int×(List zac))):=
  (book_Drop N a23 a1).bind fun r1=>
  if (r1.2 != 0)=true then
    some (r1.2,a23)
  else
    some (0,r1.1)
def zbp (N:Nat) (a0:List (Int×zaf)) (a1:Int) (a2:Int) (a3:Int) (a4:Int) (a5:Int) (a6:Int) (a7:Int) (a8:Int) (a9:Int) (a10:Int) (a11:Int) (a12:Int) (a13:Int) (a14:Int) (a15:(List zbS)) (a16:Int) (a17:Int) (a18:Int) (a19:Int) (a20:Int) (a21:(List zaa)) (a22:(List (List Int))) (a23:(List zao)) (a24:Int) (a25:Int) (a26:Int) (a27:Int) (a28:Int) (a29:Int) (a30:Int) (a31:Int) (a32:Int) (a33:Int) (a34:Int) (a35:Int) (a36:Int) (a37:Int) (a38:Int) (a39:Int) (a40:Int) (a41:Int) (a42:(List zac)) (a43:(List Int)) (a44:(List Int)) (a45:Int) (a46:Int) (a47:(List zah)) (a48:(List zaa)):Option ((Int×Int×(List zac))):=
  (zbw N a0 a19 a21 a22 a23 a24 a25 a26 a27 a28 a29 a30 a31 a32 a33 a34 a35 a36 a37 a38 a39 a40 a41 a42 a43 a44 a45 a46 a47 a48).bind fun x1=>
  (zaj N a0 x1.1 a1 a2 a3 a4 a5 a6 a7 a8 a9 a10 a11 a12 a13 a14 a15 a16 a17 a18 a19 a19 a21 a22 a23 a24 a25 a26 a27 a28 a29 a30 a31 a32 a33 a34 a35 a36 a37 a38 a39 a40 a41 x1.2 a43 a44 a45 a46 a47 a48).bind fun x2=>
  some (x2,a19,x1.2)
def za3 (N:Nat) (a0:List (Int×zaf)) (a1:Int) (a2:zaG) (a3:(List zaa)) (a4:(List (List Int))) (a5:(List zao)) (a6:Int) (a7:Int) (a8:Int) (a9:Int) (a10:Int) (a11:Int) (a12:Int) (a13:Int) (a14:Int) (a15:Int) (a16:Int) (a17:Int) (a18:Int) (a19:Int) (a20:Int) (a21:Int) (a22:Int) (a23:Int) (a24:(List zac)) (a25:(List Int)) (a26:(List Int)) (a27:Int) (a28:Int) (a29:(List zah)) (a30:(List zaa)):Option ((za9×Int×(List zac))):=
  (zbg N a0 0 a1 a2.Kind a2.Key a2.Job a2.Version a2.Queue a2.Many a2.Need.Cpu a2.Need.Mem a2.Need.Gpu a2.Need.Lic a2.Wall a2.Tasks a2.After a2.Node a2.From a2.To a2.Id 0 a3 a4 a5 a6 a7 a8 a9 a10 a11 a12 a13 a14 a15 a16 a17 a18 a19 a20 a21 a22 a23 a24 a25 a26 a27 a28 a29 a30).bind fun x1=>
  jn (fun (x2:Int×(List zac)×Int×Int)=>
    if (x2.2.2.1 != 0)=true then
      (zcO N a2.Key x2.2.2.1).bind fun r4=>
      some (r4,x2.1,x2.2.1)
    else
      some (({ Key:=a2.Key,Err:=0,Job:=x2.2.2.2,Version:=0,Nums:=[] }:za9),x2.1,x2.2.1)) fun j3=>
  if (x1 == 0)=true then
    if (a2.Kind == 11)=true then
      (zaZ N a0 x1 a1 a2.Kind a2.Key a2.Job a2.Version a2.Queue a2.Many a2.Need.Cpu a2.Need.Mem a2.Need.Gpu a2.Need.Lic a2.Wall a2.Tasks a2.After a2.Node a2.From a2.To a2.Id 0 a3 a4 a5 a6 a7 a8 a9 a10 a11 a12 a13 a14 a15 a16 a17 a18 a19 a20 a21 a22 a23 a24 a25 a26 a27 a28 a29 a30).bind fun x5=>
      j3 (x5.2.2.1,x5.2.2.2,x5.1,x5.2.1)
    else
      if (a2.Kind == 12)=true then
        (zbp N a0 x1 a1 a2.Kind a2.Key a2.Job a2.Version a2.Queue a2.Many a2.Need.Cpu a2.Need.Mem a2.Need.Gpu a2.Need.Lic a2.Wall a2.Tasks a2.After a2.Node a2.From a2.To a2.Id 0 a3 a4 a5 a6 a7 a8 a9 a10 a11 a12 a13 a14 a15 a16 a17 a18 a19 a20 a21 a22 a23 a24 a25 a26 a27 a28 a29 a30).bind fun x6=>
        j3 (a23,x6.2.2,x6.1,x6.2.1)
      else
        j3 (a23,a24,x1,0)
  else
    j3 (a23,a24,x1,0)
def zbv (N:Nat) (p0:(List Int)) (p1:(List Int)):Option (Bool):=
  if ((p0.length:Int) != (p1.length:Int))=true then
    some false
  else
    lpX (fun f2 (x1:Int)=>
      if (decide (x1<(p0.length:Int)))=true then
        (at? p0 x1).bind fun a3=>
        (at? p1 x1).bind fun a4=>
        if (a3 != a4)=true then
          some false
        else
          f2 (IntKind.i64.wrap (x1+1))
      else
        some true) N 0
def zbs (N:Nat) (p0:za9) (p1:za9):Option (Bool):=
  if ((((p0.Key == p1.Key)&&(p0.Err == p1.Err))&&(p0.Job == p1.Job))&&(p0.Version == p1.Version))=true then
  (zbv N p0.Nums p1.Nums).bind fun r1=>
  some r1
  else
  some false
def drayagelaw28xawake (N:Nat):Option (Bool):=
  (drayageref07xSmall N).bind fun r1=>
  (zbB N r1).bind fun x2=>
  match x2 with
  | .inl x3 =>
    some false
  | .inr x4 =>
    (reserve_Do_o2212 N x4.1 1 ({ Kind:=11,Key:=2,Job:=0,Version:=0,Queue:=0,Many:=0,Need:=({ Cpu:=0,Mem:=0,Gpu:=0,Lic:=0 }:zaa),Wall:=0,Tasks:=0,After:=[],Node:=1,From:=3,To:=5,Id:=0 }:zaG) x4.2.1 x4.2.2.1 x4.2.2.2.1 x4.2.2.2.2.1 x4.2.2.2.2.2.1 x4.2.2.2.2.2.2.1 x4.2.2.2.2.2.2.2.1 x4.2.2.2.2.2.2.2.2.1 x4.2.2.2.2.2.2.2.2.2.1 x4.2.2.2.2.2.2.2.2.2.2.1 x4.2.2.2.2.2.2.2.2.2.2.2.1 x4.2.2.2.2.2.2.2.2.2.2.2.2.1 x4.2.2.2.2.2.2.2.2.2.2.2.2.2.1 x4.2.2.2.2.2.2.2.2.2.2.2.2.2.2.1 x4.2.2.2.2.2.2.2.2.2.2.2.2.2.2.2.1 x4.2.2.2.2.2.2.2.2.2.2.2.2.2.2.2.2.1 x4.2.2.2.2.2.2.2.2.2.2.2.2.2.2.2.2.2.1 x4.2.2.2.2.2.2.2.2.2.2.2.2.2.2.2.2.2.2.1 x4.2.2.2.2.2.2.2.2.2.2.2.2.2.2.2.2.2.2.2.1 x4.2.2.2.2.2.2.2.2.2.2.2.2.2.2.2.2.2.2.2.2.1 x4.2.2.2.2.2.2.2.2.2.2.2.2.2.2.2.2.2.2.2.2.2.1 x4.2.2.2.2.2.2.2.2.2.2.2.2.2.2.2.2.2.2.2.2.2.2.1 x4.2.2.2.2.2.2.2.2.2.2.2.2.2.2.2.2.2.2.2.2.2.2.2.1 x4.2.2.2.2.2.2.2.2.2.2.2.2.2.2.2.2.2.2.2.2.2.2.2.2.1 x4.2.2.2.2.2.2.2.2.2.2.2.2.2.2.2.2.2.2.2.2.2.2.2.2.2.1 x4.2.2.2.2.2.2.2.2.2.2.2.2.2.2.2.2.2.2.2.2.2.2.2.2.2.2).bind fun x5=>
    if (x5.1.Err == 33)=true then
    (za3 N x4.1 0 ({ Kind:=11,Key:=2,Job:=0,Version:=0,Queue:=0,Many:=0,Need:=({ Cpu:=0,Mem:=0,Gpu:=0,Lic:=0 }:zaa),Wall:=0,Tasks:=0,After:=[],Node:=1,From:=3,To:=5,Id:=0 }:zaG) x4.2.1 x4.2.2.1 x4.2.2.2.1 x4.2.2.2.2.1 x4.2.2.2.2.2.1 x4.2.2.2.2.2.2.1 x4.2.2.2.2.2.2.2.1 x4.2.2.2.2.2.2.2.2.1 x4.2.2.2.2.2.2.2.2.2.1 x4.2.2.2.2.2.2.2.2.2.2.1 x4.2.2.2.2.2.2.2.2.2.2.2.1 x4.2.2.2.2.2.2.2.2.2.2.2.2.1 x4.2.2.2.2.2.2.2.2.2.2.2.2.2.1 x4.2.2.2.2.2.2.2.2.2.2.2.2.2.2.1 x4.2.2.2.2.2.2.2.2.2.2.2.2.2.2.2.1 x4.2.2.2.2.2.2.2.2.2.2.2.2.2.2.2.2.1 x4.2.2.2.2.2.2.2.2.2.2.2.2.2.2.2.2.2.1 x4.2.2.2.2.2.2.2.2.2.2.2.2.2.2.2.2.2.2.1 x4.2.2.2.2.2.2.2.2.2.2.2.2.2.2.2.2.2.2.2.1 x4.2.2.2.2.2.2.2.2.2.2.2.2.2.2.2.2.2.2.2.2.1 x5.2.1 x5.2.2.1 x4.2.2.2.2.2.2.2.2.2.2.2.2.2.2.2.2.2.2.2.2.2.2.1 x4.2.2.2.2.2.2.2.2.2.2.2.2.2.2.2.2.2.2.2.2.2.2.2.1 x4.2.2.2.2.2.2.2.2.2.2.2.2.2.2.2.2.2.2.2.2.2.2.2.2.1 x4.2.2.2.2.2.2.2.2.2.2.2.2.2.2.2.2.2.2.2.2.2.2.2.2.2.1 x5.2.2.2 x4.2.2.2.2.2.2.2.2.2.2.2.2.2.2.2.2.2.2.2.2.2.2.2.2.2.2).bind fun x6=>
    (zbs N x6.1 ({ Key:=2,Err:=0,Job:=1,Version:=0,Nums:=[] }:za9)).bind fun r7=>
    some r7
    else
    some false
def zdh (N:Nat) (p0:zad):Option (Bool):=
  if (((decide ((p0.Nodes.length:Int) > 40)) || (decide ((p0.Parts.length:Int) > 20))) || (decide ((p0.Queues.length:Int) > 20)))=true then
    some false
  else
    lpX (fun f2 (x1:Int)=>
      if (decide (x1<(p0.Parts.length:Int)))=true then
        (at? p0.Parts x1).bind fun a3=>
        if (decide ((a3.length:Int) > 40))=true then
          some false
        else
          f2 (IntKind.i64.wrap (x1+1))
      else
        lpX (fun f5 (x4:Int)=>
          if (decide (x4<(p0.Queues.length:Int)))=true then
            (at? p0.Queues x4).bind fun a6=>
            if (decide ((a6.Users.length:Int) > 40))=true then
              some false
            else
              f5 (IntKind.i64.wrap (x4+1))
          else
            some true) N 0) N 0
def zde (N:Nat) (p0:(List zah)):Option (Bool):=
  if (decide ((p0.length:Int) > 30))=true then
    some false
  else
    lpX (fun f2 (x1:Int)=>
      if (decide (x1<(p0.length:Int)))=true then
        (at? p0 x1).bind fun a3=>
        if (decide ((a3.After.length:Int) > 10))=true then
          some false
        else
          f2 (IntKind.i64.wrap (x1+1))
      else
        some true) N 0
def zdc (N:Nat) (p0:zad) (p1:zag):Option (Bool):=
  jn (fun (x1:Bool)=>
    if x1=true then
      some false
    else
      lpX (fun f4 (x3:Int)=>
        if (decide (x3<(p1.Allocs.length:Int)))=true then
          (at? p1.Allocs x3).bind fun a5=>
          if (decide ((a5.Shares.length:Int) > 40))=true then
            some false
          else
            f4 (IntKind.i64.wrap (x3+1))
        else
          some true) N 0) fun j2=>
  (zdh N p0).bind fun r6=>
  if (!r6)=true then
  j2 true
  else
  (zde N p1.Jobs).bind fun r7=>
  j2 (((((!r7) || (decide ((p1.Allocs.length:Int) > 40))) || (decide ((p1.Books.length:Int) > 20))) || (decide ((p1.Use.length:Int) > 20))) || (decide ((p1.Stamps.Queues.length:Int) > 20)))
def zdm (N:Nat) (p0:(List api_Call)):Option (Bool):=
  if (decide ((p0.length:Int) > 12))=true then
    some false
  else
    lpX (fun f2 (x1:Int)=>
      if (decide (x1<(p0.length:Int)))=true then
        (at? p0 x1).bind fun a3=>
        if (decide ((a3.Request.After.length:Int) > 20))=true then
          some false
        else
          f2 (IntKind.i64.wrap (x1+1))
      else
        some true) N 0
def zb2 (N:Nat) (p0:Int) (p1:Int) (p2:Int):Option (Bool):=
  some ((decide (p1≤p0))&&(decide (p0≤p2)))
def store_numbers (N:Nat) (p0:zad) (p1:zag):Option (Bool):=
  (zb2 N p1.Now 0 1099511627776).bind fun r1=>
  if r1=true then
  (zb2 N p1.Next 1 (IntKind.i64.wrap (p0.Ids+1))).bind fun r2=>
  if r2=true then
  (zb2 N p1.Book 1 281474976710656).bind fun r3=>
  some r3
  else
  some false
  else
  some false
def zbk (N:Nat) (p0:Int) (p1:Int) (p2:Int):Option (Bool):=
  some ((decide (p1≤p0))&&(decide (p0≤p2)))
def job_afterRight (N:Nat) (p0:zah):Option (Bool):=
  if (decide ((p0.After.length:Int) > 4))=true then
    some false
  else
    lpX (fun f2 (x1:Int)=>
      if (decide (x1<(p0.After.length:Int)))=true then
        (at? p0.After x1).bind fun a3=>
        (zbk N a3.Job 1 (IntKind.i64.wrap (p0.Id-1))).bind fun r4=>
        if (!r4)=true then
          some false
        else
          f2 (IntKind.i64.wrap (x1+1))
      else
        some true) N 0
def life_Name (N:Nat) (p0:Int):Option (ByteArray):=
  if (p0 == 1)=true then
    some (⟨#[113,117,101,117,101,100]⟩:ByteArray)
  else
    if (p0 == 2)=true then
      some (⟨#[104,101,108,100]⟩:ByteArray)
    else
      if (p0 == 3)=true then
        some (⟨#[114,117,110,110,105,110,103]⟩:ByteArray)
      else
        if (p0 == 4)=true then
          some (⟨#[101,120,105,116,105,110,103]⟩:ByteArray)
        else
          if (p0 == 5)=true then
            some (⟨#[99,111,109,112,108,101,116,101,100]⟩:ByteArray)
          else
            if (p0 == 6)=true then
              some (⟨#[99,97,110,99,101,108,108,101,100]⟩:ByteArray)
            else
              some (⟨#[]⟩:ByteArray)
def life_Waits (N:Nat) (p0:Int):Option (Bool):=
  some ((p0 == 1) || (p0 == 2))
def life_Over (N:Nat) (p0:Int):Option (Bool):=
  some ((p0 == 5) || (p0 == 6))
def job_stateRight (N:Nat) (p0:zah):Option (Bool):=
  (life_Name N p0.State).bind fun r1=>
  if (r1.toList == (⟨#[]⟩:ByteArray).toList)=true then
    some false
  else
    jn (fun (x2:Bool)=>
      if x2=true then
        some false
      else
        jn (fun (x4:Bool)=>
          if x4=true then
            some false
          else
            if ((p0.Ok&&(p0.State != 4))&&(p0.State != 5))=true then
              some false
            else
              if ((p0.Kill&&(p0.State != 4))&&(p0.State != 6))=true then
                some false
              else
                some true) fun j5=>
        if (p0.End != 0)=true then
        (life_Over N p0.State).bind fun r6=>
        j5 (!r6)
        else
        j5 false) fun j3=>
    if (p0.Start != 0)=true then
    (life_Waits N p0.State).bind fun r7=>
    j3 r7
    else
    j3 false
def job_Right (N:Nat) (p0:zah):Option (Bool):=
  (zbk N p0.Id 1 1048576).bind fun r1=>
  if r1=true then
  (zbk N p0.User 0 7).bind fun r2=>
  if r2=true then
  (zbk N p0.Queue 0 7).bind fun r3=>
  if r3=true then
  (zbk N p0.Many 1 64).bind fun r4=>
  if r4=true then
  (zce N p0.Need).bind fun r5=>
  if (r5&&(!(zaa.beq p0.Need ({ Cpu:=0,Mem:=0,Gpu:=0,Lic:=0 }:zaa))))=true then
  (zbk N p0.Wall 1 65536).bind fun r6=>
  if r6=true then
  (job_afterRight N p0).bind fun r7=>
  if r7=true then
  (zbk N p0.Version 1 281474976710656).bind fun r8=>
  if r8=true then
  (zbk N p0.Born 0 1099511627776).bind fun r9=>
  if r9=true then
  (zbk N p0.Start 0 1099511627776).bind fun r10=>
  if r10=true then
  (zbk N p0.End 0 1099511627776).bind fun r11=>
  if r11=true then
  (zbk N p0.Array 0 p0.Id).bind fun r12=>
  if r12=true then
  (job_stateRight N p0).bind fun r13=>
  some r13
  else
  some false
  else
  some false
  else
  some false
  else
  some false
  else
  some false
  else
  some false
  else
  some false
  else
  some false
  else
  some false
  else
  some false
  else
  some false
  else
  some false
def store_extra (N:Nat) (p0:Int):Option (Int):=
  if (p0 == 3)=true then
    some 1
  else
    if (p0 == 4)=true then
      some 2
    else
      (life_Over N p0).bind fun r1=>
      if r1=true then
        some 3
      else
        some 0
def store_jobs (N:Nat) (p0:zad) (p1:zag):Option (Bool):=
  if (decide ((p1.Jobs.length:Int) > p0.Jobs))=true then
    some false
  else
    lpX (fun f2 (x1:Int×Int)=>
      if (decide (x1.2<(p1.Jobs.length:Int)))=true then
        (at? p1.Jobs x1.2).bind fun a3=>
        (job_Right N a3).bind fun r4=>
        if (((!r4) || (decide (a3.Id≤x1.1))) || (decide (a3.Id≥p1.Next)))=true then
          some false
        else
          if ((decide (a3.User≥p0.Users)) || (decide (a3.Queue≥(p0.Queues.length:Int))))=true then
            some false
          else
            jn (fun (x5:Bool)=>
              if x5=true then
                some false
              else
                f2 (a3.Id,(IntKind.i64.wrap (x1.2+1)))) fun j6=>
            if (decide ((if a3.End > (if a3.Start > a3.Born then a3.Start else a3.Born) then a3.End else (if a3.Start > a3.Born then a3.Start else a3.Born)) > p1.Now))=true then
            j6 true
            else
            (store_extra N a3.State).bind fun r7=>
            j6 (decide (a3.Version > (IntKind.i64.wrap (p0.Versions+r7))))
      else
        some true) N (0,0)
def vec_Count (N:Nat) (p0:zaa) (p1:zaa):Option (Int):=
  jn (fun (x1:Bool)=>
    if x1=true then
      some 0
    else
      (vec_numbers N p0).bind fun r3=>
      (vec_numbers N p1).bind fun r4=>
      lpX (fun f6 (x5:Int×Int)=>
        if (decide (x5.2<4))=true then
          jn (fun (x7:Int)=>
            f6 (x7,(IntKind.i64.wrap (x5.2+1)))) fun j8=>
          (at? [r4.1,r4.2.1,r4.2.2.1,r4.2.2.2] x5.2).bind fun a9=>
          (at? [r4.1,r4.2.1,r4.2.2.1,r4.2.2.2] x5.2).bind fun a10=>
          if (decide (a10 > 0))=true then
            (at? [r3.1,r3.2.1,r3.2.2.1,r3.2.2.2] x5.2).bind fun a11=>
            (at? [r3.1,r3.2.1,r3.2.2.1,r3.2.2.2] x5.2).bind fun a12=>
            (at? [r4.1,r4.2.1,r4.2.2.1,r4.2.2.2] x5.2).bind fun a13=>
            (at? [r4.1,r4.2.1,r4.2.2.1,r4.2.2.2] x5.2).bind fun a14=>
            (quo? .i64 a12 a14).bind fun q15=>
            j8 (if q15<x5.1 then q15 else x5.1)
          else
            j8 x5.1
        else
          some x5.1) N (64,0)) fun j2=>
  (zce N p0).bind fun r16=>
  if (!r16)=true then
  j2 true
  else
  (zce N p1).bind fun r17=>
  j2 ((!r17) || (zaa.beq p1 ({ Cpu:=0,Mem:=0,Gpu:=0,Lic:=0 }:zaa)))
def spec_Room (N:Nat) (p0:zad) (p1:Int) (p2:zaa):Option (Int):=
  (zcN N p0).bind fun r1=>
  if (((!r1) || (decide (p1<0))) || (decide (p1≥(p0.Parts.length:Int))))=true then
    some 0
  else
    (at? p0.Parts p1).bind fun a2=>
    lpX (fun f4 (x3:Int×Int)=>
      if (decide (x3.2<(a2.length:Int)))=true then
        (at? a2 x3.2).bind fun a5=>
        (at? p0.Nodes a5).bind fun a6=>
        (vec_Count N a6 p2).bind fun r7=>
        f4 ((IntKind.i64.wrap (x3.1+r7)),(IntKind.i64.wrap (x3.2+1)))
      else
        some x3.1) N (0,0)
def spec_Fits (N:Nat) (p0:zad) (p1:Int) (p2:Int) (p3:zaa):Option (Bool):=
  (zcN N p0).bind fun r1=>
  if ((((!r1) || (decide (p1<0))) || (decide (p1≥(p0.Queues.length:Int)))) || (decide (p2<1)))=true then
    some false
  else
    (at? p0.Queues p1).bind fun a2=>
    (spec_Room N p0 a2.Part p3).bind fun r3=>
    some (decide (r3≥p2))
def store_find_1 (N:Nat) (p0:zah) (p1:Int):Option (Int):=
  some (IntKind.i64.wrap (p0.Id-p1))
def zan (N:Nat) (p0:(List zah)) (p1:Int):Option (Int×Bool):=
  lpX (fun f2 (x1:Int×Int)=>
    if (decide (x1.1<x1.2))=true then
      (at? p0 (IntKind.i64.wrap (Int.fdiv (IntKind.u64.wrap (IntKind.i64.wrap (x1.1+x1.2))) (2 ^ 1)))).bind fun a3=>
      (store_find_1 N a3 p1).bind fun r4=>
      if (decide (r4<0))=true then
        f2 ((IntKind.i64.wrap ((IntKind.i64.wrap (Int.fdiv (IntKind.u64.wrap (IntKind.i64.wrap (x1.1+x1.2))) (2 ^ 1)))+1)),x1.2)
      else
        f2 (x1.1,(IntKind.i64.wrap (Int.fdiv (IntKind.u64.wrap (IntKind.i64.wrap (x1.1+x1.2))) (2 ^ 1))))
    else
      if (decide (x1.1<(p0.length:Int)))=true then
      (at? p0 x1.1).bind fun a5=>
      (store_find_1 N a5 p1).bind fun r6=>
      some (x1.1,(r6 == 0))
      else
      some (x1.1,false)) N (0,(p0.length:Int))
def store_find (N:Nat) (p0:(List zah)) (p1:Int):Option (Int×Bool):=
  (zan N p0 p1).bind fun r1=>
  some (r1.1,r1.2)
def store_waiting (N:Nat) (p0:zad) (p1:zag):Option (Bool):=
  lpX (fun f2 (x1:Int)=>
    if (decide (x1<(p1.Jobs.length:Int)))=true then
      jn (fun (x3:Unit)=>
        f2 (IntKind.i64.wrap (x1+1))) fun j4=>
      (at? p1.Jobs x1).bind fun a5=>
      (life_Over N a5.State).bind fun r6=>
      if r6=true then
        j4 ()
      else
        (spec_Fits N p0 a5.Queue a5.Many a5.Need).bind fun r7=>
        if (!r7)=true then
          some false
        else
          lpX (fun f9 (x8:Int)=>
            if (decide (x8<(a5.After.length:Int)))=true then
              (at? a5.After x8).bind fun a10=>
              (store_find N p1.Jobs a10.Job).bind fun r11=>
              if (!r11.2)=true then
                some false
              else
                f9 (IntKind.i64.wrap (x8+1))
            else
              j4 ()) N 0
    else
      some true) N 0
def life_Has (N:Nat) (p0:Int):Option (Bool):=
  some ((p0 == 3) || (p0 == 4))
def place_Right (N:Nat) (p0:(List zak)) (p1:Int):Option (Bool):=
  lpX (fun f2 (x1:Int×Int)=>
    if (decide (x1.2<(p0.length:Int)))=true then
      (at? p0 x1.2).bind fun a3=>
      if ((((decide (a3.Node≤x1.1)) || (decide (a3.Node≥p1))) || (decide (a3.Many<1))) || (decide (a3.Many > 64)))=true then
        some false
      else
        f2 (a3.Node,(IntKind.i64.wrap (x1.2+1)))
    else
      some true) N ((-1),0)
def place_Total (N:Nat) (p0:(List zak)):Option (Int):=
  lpX (fun f2 (x1:Int×Int)=>
    if (decide (x1.2<(p0.length:Int)))=true then
      (at? p0 x1.2).bind fun a3=>
      (zdr N a3.Many 0 64).bind fun r4=>
      f2 ((IntKind.i64.wrap (x1.1+r4)),(IntKind.i64.wrap (x1.2+1)))
    else
      some x1.1) N (0,0)
def zcx (N:Nat) (p0:(List Int)) (p1:Int):Option (Int):=
  lpX (fun f2 (x1:Int)=>
    if (decide (x1<(p0.length:Int)))=true then
      (at? p0 x1).bind fun a3=>
      if (p1 == a3)=true then
        some x1
      else
        f2 (IntKind.i64.wrap (x1+1))
    else
      some (-1)) N 0
def zbj (N:Nat) (p0:(List Int)) (p1:Int):Option (Bool):=
  (zcx N p0 p1).bind fun r1=>
  some (decide (r1≥0))
def store_suits (N:Nat) (p0:zad) (p1:zah) (p2:(List zak)):Option (Bool):=
  jn (fun (x1:Bool)=>
    if x1=true then
      some false
    else
      if ((decide (p1.Queue<0)) || (decide (p1.Queue≥(p0.Queues.length:Int))))=true then
        some false
      else
        (at? p0.Queues p1.Queue).bind fun a3=>
        (at? p0.Parts a3.Part).bind fun a4=>
        lpX (fun f6 (x5:Int)=>
          if (decide (x5<(p2.length:Int)))=true then
            (at? p2 x5).bind fun a7=>
            (zbj N a4 a7.Node).bind fun r8=>
            if (!r8)=true then
              some false
            else
              f6 (IntKind.i64.wrap (x5+1))
          else
            some true) N 0) fun j2=>
  (place_Right N p2 (p0.Nodes.length:Int)).bind fun r9=>
  if (!r9)=true then
  j2 true
  else
  (place_Total N p2).bind fun r10=>
  j2 (r10 != p1.Many)
def za1 (N:Nat) (a0:(List zaa)):Option ((List zaa)):=app? [] a0
def zbU (N:Nat) (a0:zaa):Option (((Int×Int)×(Int×Int))):=
  some ((a0.Cpu,a0.Mem),(a0.Gpu,a0.Lic))
def vec_join_o07ab (N:Nat) (a0:Int×Int) (a1:Int×Int):Option ((zaa)):=
  (fint? a0.1).bind fun q1=>
  (fint? a0.2).bind fun q2=>
  (fint? a1.1).bind fun q3=>
  (fint? a1.2).bind fun q4=>
  some ({ Cpu:=q1,Mem:=q2,Gpu:=q3,Lic:=q4 }:zaa)
def zb9 (N:Nat) (a0:Int×Int) (a1:Int×Int):Option ((zaa×Int)):=
  (vec_join_o07ab N (a0.1,a0.2) (a1.1,a1.2)).bind fun x1=>
  (zce N x1).bind fun r2=>
  if (!r2)=true then
    some (({ Cpu:=0,Mem:=0,Gpu:=0,Lic:=0 }:zaa),20)
  else
    some (x1,0)
def vec_Times (N:Nat) (p0:zaa) (p1:Int):Option (zaa×Int):=
  (zce N p0).bind fun r1=>
  if ((!r1) || (decide (p1<0)))=true then
    some (({ Cpu:=0,Mem:=0,Gpu:=0,Lic:=0 }:zaa),2)
  else
    if (zaa.beq p0 ({ Cpu:=0,Mem:=0,Gpu:=0,Lic:=0 }:zaa))=true then
      some (({ Cpu:=0,Mem:=0,Gpu:=0,Lic:=0 }:zaa),0)
    else
      if (decide (p1 > 1048576))=true then
        some (({ Cpu:=0,Mem:=0,Gpu:=0,Lic:=0 }:zaa),20)
      else
        (zbU N p0).bind fun x2=>
        (fmul? x2.1.1 p1).bind fun u3=>
        (fmul? x2.1.2 p1).bind fun v4=>
        (fmul? x2.2.1 p1).bind fun u5=>
        (fmul? x2.2.2 p1).bind fun v6=>
        (zb9 N (u3,v4) (u5,v6)).bind fun x7=>
        some (x7.1,x7.2)
def vec_Sub (N:Nat) (p0:zaa) (p1:zaa):Option (zaa×Int):=
  jn (fun (x1:Bool)=>
    if x1=true then
      some (({ Cpu:=0,Mem:=0,Gpu:=0,Lic:=0 }:zaa),2)
    else
      (zbU N p0).bind fun x3=>
      (zbU N p1).bind fun x4=>
      (fdif? x3.1.1 x4.1.1).bind fun u5=>
      (fdif? x3.1.2 x4.1.2).bind fun v6=>
      (fdif? x3.2.1 x4.2.1).bind fun u7=>
      (fdif? x3.2.2 x4.2.2).bind fun v8=>
      (zb9 N (u5,v6) (u7,v8)).bind fun x9=>
      some (x9.1,x9.2)) fun j2=>
  (zce N p0).bind fun r10=>
  if (!r10)=true then
  j2 true
  else
  (zce N p1).bind fun r11=>
  j2 (!r11)
def za8 (N:Nat) (a0:List (Int×zaf)) (a1:zaf) (a2:(List zaa)):Option (((List zaa)×Int)):=
  (za1 N a2).bind fun x1=>
  lpX (fun f3 (x2:Int×List zaa)=>
    if (decide (x2.1<(a1.Shares.length:Int)))=true then
      (at? a1.Shares x2.1).bind fun a4=>
      (vec_Times N a1.Need a4.Many).bind fun r5=>
      if (r5.2 != 0)=true then
        some ([],r5.2)
      else
        (at? x2.2 a4.Node).bind fun a6=>
        (vec_Sub N a6 r5.1).bind fun r7=>
        (at? x2.2 a4.Node).bind fun a8=>
        if (r7.2 != 0)=true then
          some ([],r7.2)
        else
          f3 ((IntKind.i64.wrap (x2.1+1)),(x2.2.set a4.Node.toNat r7.1))
    else
      some (x2.2,0)) N (0,x1)
def zaT (N:Nat) (a0:List (Int×zaf)) (a1:zaf) (a2:(List zaa)):Option ((List (Int×zaf)×Int×(List zaa))):=
  jn (fun (x1:Bool)=>
    if x1=true then
      some (a0,2,a2)
    else
      oel (mget a0 a1.Job) (
        (za8 N a0 a1 a2).bind fun x4=>
        if (x4.2 != 0)=true then
          some (a0,x4.2,a2)
        else
          (ledger_own N a1).bind fun r5=>
          some ((mset a0 a1.Job r5),0,x4.1)) fun v3=>
      some (a0,31,a2)) fun j2=>
  if (((decide (a1.Job<1)) || (decide (a1.Job > 1048576))) || ((a1.Shares.length:Int) == 0))=true then
  j2 true
  else
  (place_Right N a1.Shares (a2.length:Int)).bind fun r6=>
  if (!r6)=true then
  j2 true
  else
  (zce N a1.Need).bind fun r7=>
  j2 (!r7)
def zcS (N:Nat) (p0:zad) (p1:zag):Option (Bool):=
  (zcd N p0).bind fun x1=>
  match x1 with
  | .inl x2 =>
    some false
  | .inr x3 =>
    lpX (fun f5 (x4:(List zaf)×Int×(List zaa)×List (Int×zaf))=>
      if (decide (x4.2.1<(p1.Jobs.length:Int)))=true then
        jn (fun (x6:(List zaf)×(List zaa)×List (Int×zaf))=>
          f5 (x6.1,(IntKind.i64.wrap (x4.2.1+1)),x6.2.1,x6.2.2)) fun j7=>
        (at? p1.Jobs x4.2.1).bind fun a8=>
        (life_Has N a8.State).bind fun r9=>
        if (!r9)=true then
          j7 (x4.1,x4.2.2.1,x4.2.2.2)
        else
          if ((decide ((IntKind.i64.wrap (a8.Start+a8.Wall))≤p1.Now)) || ((x4.1.length:Int) == 0))=true then
            some false
          else
            (at? x4.1 0).bind fun a10=>
            (slice? x4.1 1 (x4.1.length:Int)).bind fun z11=>
            jn (fun (x12:Bool×(List zaa)×List (Int×zaf))=>
              if x12.1=true then
                some false
              else
                j7 (z11,x12.2.1,x12.2.2)) fun j13=>
            if ((a10.Job != a8.Id) || (!(zaa.beq a10.Need a8.Need)))=true then
            j13 (true,x4.2.2.1,x4.2.2.2)
            else
            (store_suits N p0 a8 a10.Shares).bind fun r14=>
            if (!r14)=true then
            j13 (true,x4.2.2.1,x4.2.2.2)
            else
            (zaT N x4.2.2.2 a10 x4.2.2.1).bind fun x15=>
            j13 ((x15.2.1 != 0),x15.2.2,x15.1)
      else
        some ((x4.1.length:Int) == 0)) N (p1.Allocs,0,x3.2,x3.1)
def store_bookings (N:Nat) (p0:zad) (p1:zag):Option (Bool):=
  (book_Right N p1.Books (p0.Nodes.length:Int)).bind fun r1=>
  if (!r1)=true then
    some false
  else
    lpX (fun f3 (x2:Int)=>
      if (decide (x2<(p1.Books.length:Int)))=true then
        (at? p1.Books x2).bind fun a4=>
        if ((decide (a4.Id≥p1.Book)) || (decide (a4.To≤p1.Now)))=true then
          some false
        else
          f3 (IntKind.i64.wrap (x2+1))
      else
        lpX (fun f6 (x5:Int)=>
          if (decide (x5<(p1.Allocs.length:Int)))=true then
            (at? p1.Allocs x5).bind fun a7=>
            (store_find N p1.Jobs a7.Job).bind fun r8=>
            if (!r8.2)=true then
              some false
            else
              lpX (fun f10 (x9:Int)=>
                if (decide (x9<(a7.Shares.length:Int)))=true then
                  (at? a7.Shares x9).bind fun a11=>
                  (at? p1.Jobs r8.1).bind fun a12=>
                  (at? p1.Jobs r8.1).bind fun a13=>
                  (zcf N p1.Books a11.Node p1.Now (IntKind.i64.wrap (a12.Start+a13.Wall))).bind fun r14=>
                  if r14=true then
                    some false
                  else
                    f10 (IntKind.i64.wrap (x9+1))
                else
                  f6 (IntKind.i64.wrap (x5+1))) N 0
          else
            some true) N 0) N 0
def share_Right (N:Nat) (p0:(List Int)):Option (Bool):=
  lpX (fun f2 (x1:Int)=>
    if (decide (x1<(p0.length:Int)))=true then
      (at? p0 x1).bind fun a3=>
      if ((decide (a3<0)) || (decide (a3 > 1099511627776)))=true then
        some false
      else
        f2 (IntKind.i64.wrap (x1+1))
    else
      some true) N 0
def store_usage (N:Nat) (p0:zad) (p1:zag):Option (Bool):=
  jn (fun (x1:Bool)=>
    if x1=true then
      some false
    else
      jn (fun (x3:Bool)=>
        if x3=true then
          some false
        else
          lpX (fun f6 (x5:Int)=>
            if (decide (x5<(p1.Stamps.Queues.length:Int)))=true then
              (at? p1.Stamps.Queues x5).bind fun a7=>
              (zb2 N a7 0 281474976710656).bind fun r8=>
              if (!r8)=true then
                some false
              else
                f6 (IntKind.i64.wrap (x5+1))
            else
              some true) N 0) fun j4=>
      if ((p1.Stamps.Queues.length:Int) != (p0.Queues.length:Int))=true then
      j4 true
      else
      (zb2 N p1.Stamps.Nodes 0 281474976710656).bind fun r9=>
      j4 (!r9)) fun j2=>
  if ((p1.Use.length:Int) != p0.Users)=true then
  j2 true
  else
  (share_Right N p1.Use).bind fun r10=>
  j2 (!r10)
def store_Sound (N:Nat) (p0:zad) (p1:zag):Option (Bool):=
  (zcN N p0).bind fun r1=>
  if r1=true then
  (store_numbers N p0 p1).bind fun r2=>
  if r2=true then
  (store_jobs N p0 p1).bind fun r3=>
  if r3=true then
  (store_waiting N p0 p1).bind fun r4=>
  if r4=true then
  (zcS N p0 p1).bind fun r5=>
  if r5=true then
  (store_bookings N p0 p1).bind fun r6=>
  if r6=true then
  (store_usage N p0 p1).bind fun r7=>
  some r7
  else
  some false
  else
  some false
  else
  some false
  else
  some false
  else
  some false
  else
  some false
def zaM (N:Nat) (a0:List zah) (a1:List zah) (a2:Int):Option ((List zah)):=
  (slice? a0 a2 (a0.length:Int)).bind fun z1=>
  if ((a1.length:Int) == 0)=true then
    some a0
  else
    if (a2 == (a0.length:Int))=true then
      (app? a0 a1).bind fun z2=>
      some z2
    else
      none
def zbG (N:Nat) (a0:List zah) (a1:zah) (a2:Int):Option ((List zah×Int)):=
  (job_Right N a1).bind fun r1=>
  if (!r1)=true then
    some (a0,2)
  else
    (zbb N a0 a1.Id a2).bind fun x2=>
    if x2.2=true then
      some (a0,31)
    else
      if ((a0.length:Int) == a2)=true then
        some (a0,35)
      else
        (table_own N a1).bind fun r3=>
        (zaM N a0 ([r3]:List zah) x2.1).bind fun x4=>
        some (x4,0)
def zaq (N:Nat) (p0:(List zac)):Option ((List zac)):=app? [] p0
def zcg (N:Nat) (a0:zad) (a1:zag):Option ((Int) ⊕ (List (Int×zaf)×(List zaa)×(List (List Int))×(List zao)×Int×Int×Int×Int×Int×Int×Int×Int×Int×Int×Int×Int×Int×Int×Int×Int×Int×Int×(List zac)×(List Int)×(List Int)×Int×Int×(List zah)×(List zaa))):=
  (store_Sound N a0 a1).bind fun r1=>
  if (!r1)=true then
    some (Sum.inl 2)
  else
    (zbB N a0).bind fun x2=>
    match x2 with
    | .inl x3 =>
      some (Sum.inl 2)
    | .inr x4 =>
      lpX (fun f6 (x5:Int×List zah)=>
        if (decide (x5.1<(a1.Jobs.length:Int)))=true then
          (at? a1.Jobs x5.1).bind fun a7=>
          (zbG N x5.2 a7 x4.2.2.2.2.2.2.2.2.2.2.2.2.2.2.2.2.2.2.2.2.2.2.2.2.2.1).bind fun x8=>
          if (x8.2 != 0)=true then
            some (Sum.inl x8.2)
          else
            f6 ((IntKind.i64.wrap (x5.1+1)),x8.1)
        else
          lpX (fun f10 (x9:Int×(List zaa)×List (Int×zaf))=>
            if (decide (x9.1<(a1.Allocs.length:Int)))=true then
              (at? a1.Allocs x9.1).bind fun a11=>
              (zaT N x9.2.2 a11 x9.2.1).bind fun x12=>
              if (x12.2.1 != 0)=true then
                some (Sum.inl x12.2.1)
              else
                f10 ((IntKind.i64.wrap (x9.1+1)),x12.2.2,x12.1)
            else
              (zaq N a1.Books).bind fun r13=>
              (zax N a1.Use).bind fun r14=>
              (zax N a1.Stamps.Queues).bind fun r15=>
              some (Sum.inr (x9.2.2,x4.2.1,x4.2.2.1,x4.2.2.2.1,x4.2.2.2.2.1,x4.2.2.2.2.2.1,x4.2.2.2.2.2.2.1,x4.2.2.2.2.2.2.2.1,x4.2.2.2.2.2.2.2.2.1,x4.2.2.2.2.2.2.2.2.2.1,x4.2.2.2.2.2.2.2.2.2.2.1,x4.2.2.2.2.2.2.2.2.2.2.2.1,x4.2.2.2.2.2.2.2.2.2.2.2.2.1,x4.2.2.2.2.2.2.2.2.2.2.2.2.2.1,x4.2.2.2.2.2.2.2.2.2.2.2.2.2.2.1,x4.2.2.2.2.2.2.2.2.2.2.2.2.2.2.2.1,x4.2.2.2.2.2.2.2.2.2.2.2.2.2.2.2.2.1,x4.2.2.2.2.2.2.2.2.2.2.2.2.2.2.2.2.2.1,x4.2.2.2.2.2.2.2.2.2.2.2.2.2.2.2.2.2.2.1,a1.Now,a1.Next,a1.Book,r13,r14,r15,a1.Stamps.Nodes,x4.2.2.2.2.2.2.2.2.2.2.2.2.2.2.2.2.2.2.2.2.2.2.2.2.2.1,x5.2,x9.2.1))) N (0,x4.2.2.2.2.2.2.2.2.2.2.2.2.2.2.2.2.2.2.2.2.2.2.2.2.2.2,x4.1)) N (0,([]:List zah))
def zai (N:Nat) (p0:Int) (p1:Int) (p2:Int):Option (Bool):=
  some ((decide (p1≤p0))&&(decide (p0≤p2)))
def zbi (N:Nat) (p0:Int):Option (Bool):=
  some ((decide (p0≥0))&&(decide (p0≤1048576)))
def zay (N:Nat) (p0:zaa):Option (Bool):=
  (zbi N p0.Cpu).bind fun r1=>
  if r1=true then
  (zbi N p0.Mem).bind fun r2=>
  if r2=true then
  (zbi N p0.Gpu).bind fun r3=>
  if r3=true then
  (zbi N p0.Lic).bind fun r4=>
  some r4
  else
  some false
  else
  some false
  else
  some false
def zck (N:Nat) (p0:zad):Option (Bool):=
  lpX (fun f2 (x1:Int)=>
    if (decide (x1<(p0.Nodes.length:Int)))=true then
      (at? p0.Nodes x1).bind fun a3=>
      (zay N a3).bind fun r4=>
      if (!r4)=true then
        some false
      else
        f2 (IntKind.i64.wrap (x1+1))
    else
      (zai N (p0.Nodes.length:Int) 1 16).bind fun r5=>
      some r5) N 0
def zbz (N:Nat) (p0:(List Int)) (p1:Int):Option (Bool):=
  lpX (fun f2 (x1:Int)=>
    if (decide (x1<(p0.length:Int)))=true then
      jn (fun (x3:Bool)=>
        if x3=true then
          some false
        else
          f2 (IntKind.i64.wrap (x1+1))) fun j4=>
      (at? p0 x1).bind fun a5=>
      if (decide (a5<0))=true then
      j4 true
      else
      (at? p0 x1).bind fun a6=>
      if (decide (a6≥p1))=true then
      j4 true
      else
      if (decide (x1 > 0))=true then
      (at? p0 (IntKind.i64.wrap (x1-1))).bind fun a7=>
      (at? p0 x1).bind fun a8=>
      j4 (decide (a7≥a8))
      else
      j4 false
    else
      some true) N 0
def zcn (N:Nat) (p0:zad):Option (Bool):=
  lpX (fun f2 (x1:Int)=>
    if (decide (x1<(p0.Parts.length:Int)))=true then
      jn (fun (x3:Bool)=>
        if x3=true then
          some false
        else
          f2 (IntKind.i64.wrap (x1+1))) fun j4=>
      (at? p0.Parts x1).bind fun a5=>
      if (decide ((a5.length:Int)<1))=true then
      j4 true
      else
      (at? p0.Parts x1).bind fun a6=>
      (zbz N a6 (p0.Nodes.length:Int)).bind fun r7=>
      j4 (!r7)
    else
      (zai N (p0.Parts.length:Int) 1 8).bind fun r8=>
      some r8) N 0
def zb5 (N:Nat) (p0:zad):Option (Bool):=
  lpX (fun f2 (x1:Int)=>
    if (decide (x1<(p0.Queues.length:Int)))=true then
      (at? p0.Queues x1).bind fun a3=>
      jn (fun (x4:Bool)=>
        if x4=true then
          some false
        else
          f2 (IntKind.i64.wrap (x1+1))) fun j5=>
      if ((decide (a3.Part<0)) || (decide (a3.Part≥(p0.Parts.length:Int))))=true then
      j5 true
      else
      (zbz N a3.Users p0.Users).bind fun r6=>
      if (!r6)=true then
      j5 true
      else
      (zai N a3.MaxJobs 1 256).bind fun r7=>
      if (!r7)=true then
      j5 true
      else
      (zai N a3.MaxRun 1 256).bind fun r8=>
      if (!r8)=true then
      j5 true
      else
      (zai N a3.MaxUser 1 256).bind fun r9=>
      if (!r9)=true then
      j5 true
      else
      (zai N a3.Qos 0 100).bind fun r10=>
      j5 (!r10)
    else
      (zai N (p0.Queues.length:Int) 1 8).bind fun r11=>
      some r11) N 0
def drayageref07xFlaw (N:Nat) (p0:zad):Option (ByteArray):=
  jn (fun (x1:Bool)=>
    (zck N p0).bind fun r3=>
    (zcn N p0).bind fun r4=>
    (zai N p0.Users 1 8).bind fun r5=>
    (zb5 N p0).bind fun r6=>
    (zai N p0.Decay 1 16).bind fun r7=>
    (zai N p0.Mode 1 2).bind fun r8=>
    (zai N p0.Jobs 1 256).bind fun r9=>
    (zai N p0.Ids 1 1048576).bind fun r10=>
    (zai N p0.Versions 1 65536).bind fun r11=>
    (zai N p0.Linger 0 65536).bind fun r12=>
    (zai N p0.Keep 1 16).bind fun r13=>
    (zai N p0.In 1 8).bind fun r14=>
    (zai N p0.Out 1 16).bind fun r15=>
    (zai N p0.Cache 0 16).bind fun r16=>
    lpX (fun f18 (x17:Int)=>
      if (decide (x17<15))=true then
        (at? ([r3,r4,r5,r6,x1,r7,r8,r9,r10,r11,r12,r13,r14,r15,r16]:List Bool) x17).bind fun a19=>
        if (!a19)=true then
          (at? ([(⟨#[78,111,100,101,115]⟩:ByteArray),(⟨#[80,97,114,116,115]⟩:ByteArray),(⟨#[85,115,101,114,115]⟩:ByteArray),(⟨#[81,117,101,117,101,115]⟩:ByteArray),(⟨#[87,101,105,103,104,116,115]⟩:ByteArray),(⟨#[68,101,99,97,121]⟩:ByteArray),(⟨#[77,111,100,101]⟩:ByteArray),(⟨#[74,111,98,115]⟩:ByteArray),(⟨#[73,100,115]⟩:ByteArray),(⟨#[86,101,114,115,105,111,110,115]⟩:ByteArray),(⟨#[76,105,110,103,101,114]⟩:ByteArray),(⟨#[75,101,101,112]⟩:ByteArray),(⟨#[73,110]⟩:ByteArray),(⟨#[79,117,116]⟩:ByteArray),(⟨#[67,97,99,104,101]⟩:ByteArray)]:List ByteArray) x17).bind fun a20=>
          some a20
        else
          f18 (IntKind.i64.wrap (x17+1))
      else
        some (⟨#[]⟩:ByteArray)) N 0) fun j2=>
  (zai N p0.Weights.Age 0 1000).bind fun r21=>
  if r21=true then
  (zai N p0.Weights.Size 0 1000).bind fun r22=>
  if r22=true then
  (zai N p0.Weights.Qos 0 1000).bind fun r23=>
  if r23=true then
  (zai N p0.Weights.Share 0 1000).bind fun r24=>
  j2 r24
  else
  j2 false
  else
  j2 false
  else
  j2 false
def zcq (N:Nat) (p0:zad):Option (Bool):=
  (drayageref07xFlaw N p0).bind fun r1=>
  some (r1.toList == (⟨#[]⟩:ByteArray).toList)
def zaL (N:Nat) (p0:Int):Option (Bool):=
  some ((decide (p0≥0))&&(decide (p0≤281474976710656)))
def zaR (N:Nat) (p0:(List zah)) (p1:Int):Option (Int):=
  lpX (fun f2 (x1:Int)=>
    if (decide (x1<(p0.length:Int)))=true then
      (at? p0 x1).bind fun a3=>
      if (a3.Id == p1)=true then
        some x1
      else
        f2 (IntKind.i64.wrap (x1+1))
    else
      some (-1)) N 0
def za2 (N:Nat) (p0:(List zak)) (p1:Int):Option (Bool):=
  lpX (fun f2 (x1:Int)=>
    if (decide (x1<(p0.length:Int)))=true then
      jn (fun (x3:Bool)=>
        if x3=true then
          some false
        else
          f2 (IntKind.i64.wrap (x1+1))) fun j4=>
      (at? p0 x1).bind fun a5=>
      if (decide (a5.Node<0))=true then
      j4 true
      else
      (at? p0 x1).bind fun a6=>
      if (decide (a6.Node≥p1))=true then
      j4 true
      else
      (at? p0 x1).bind fun a7=>
      if (decide (a7.Many<1))=true then
      j4 true
      else
      (at? p0 x1).bind fun a8=>
      if (decide (a8.Many > 64))=true then
      j4 true
      else
      if (decide (x1 > 0))=true then
      (at? p0 (IntKind.i64.wrap (x1-1))).bind fun a9=>
      (at? p0 x1).bind fun a10=>
      j4 (decide (a9.Node≥a10.Node))
      else
      j4 false
    else
      some true) N 0
def zcw (N:Nat) (p0:(List zak)) (p1:Int):Option (Int):=
  lpX (fun f2 (x1:Int×Int)=>
    if (decide (x1.2<(p0.length:Int)))=true then
      jn (fun (x3:Int)=>
        f2 (x3,(IntKind.i64.wrap (x1.2+1)))) fun j4=>
      (at? p0 x1.2).bind fun a5=>
      if (a5.Node == p1)=true then
        (at? p0 x1.2).bind fun a6=>
        j4 (IntKind.i64.wrap (x1.1+a6.Many))
      else
        j4 x1.1
    else
      some x1.1) N (0,0)
def zbo (N:Nat) (p0:zaa) (p1:zaa):Option (zaa):=
  some ({ Cpu:=(IntKind.i64.wrap (p0.Cpu+p1.Cpu)),Mem:=(IntKind.i64.wrap (p0.Mem+p1.Mem)),Gpu:=(IntKind.i64.wrap (p0.Gpu+p1.Gpu)),Lic:=(IntKind.i64.wrap (p0.Lic+p1.Lic)) }:zaa)
def zci (N:Nat) (p0:zaa) (p1:Int):Option (zaa):=
  lpX (fun f2 (x1:Int×Int×Int×Int×Int)=>
    if (decide (x1.1<p1))=true then
      (zbo N ({ Cpu:=x1.2.1,Mem:=x1.2.2.1,Gpu:=x1.2.2.2.1,Lic:=x1.2.2.2.2 }:zaa) p0).bind fun r3=>
      f2 ((IntKind.i64.wrap (x1.1+1)),r3.Cpu,r3.Mem,r3.Gpu,r3.Lic)
    else
      some ({ Cpu:=x1.2.1,Mem:=x1.2.2.1,Gpu:=x1.2.2.2.1,Lic:=x1.2.2.2.2 }:zaa)) N (0,0,0,0,0)
def zau (N:Nat) (p0:zaa) (p1:zaa):Option (Bool):=
  some ((((decide (p0.Cpu≤p1.Cpu))&&(decide (p0.Mem≤p1.Mem)))&&(decide (p0.Gpu≤p1.Gpu)))&&(decide (p0.Lic≤p1.Lic)))
def drayageref02xSub (N:Nat) (p0:zaa) (p1:zaa):Option (zaa):=
  some ({ Cpu:=(IntKind.i64.wrap (p0.Cpu-p1.Cpu)),Mem:=(IntKind.i64.wrap (p0.Mem-p1.Mem)),Gpu:=(IntKind.i64.wrap (p0.Gpu-p1.Gpu)),Lic:=(IntKind.i64.wrap (p0.Lic-p1.Lic)) }:zaa)
def zcR (N:Nat) (p0:(List zaa)) (p1:(List zaf)):Option ((List zaa)×Bool):=
  lpX (fun f2 (x1:Bool×Int×List zaa)=>
    if (decide (x1.2.1<(p0.length:Int)))=true then
      lpX (fun f4 (x3:Int×Int×Int×Int×Int)=>
        if (decide (x3.1<(p1.length:Int)))=true then
          (at? p1 x3.1).bind fun a5=>
          (at? p1 x3.1).bind fun a6=>
          (zcw N a6.Shares x1.2.1).bind fun r7=>
          (zci N a5.Need r7).bind fun r8=>
          (zbo N ({ Cpu:=x3.2.1,Mem:=x3.2.2.1,Gpu:=x3.2.2.2.1,Lic:=x3.2.2.2.2 }:zaa) r8).bind fun r9=>
          f4 ((IntKind.i64.wrap (x3.1+1)),r9.Cpu,r9.Mem,r9.Gpu,r9.Lic)
        else
          jn (fun (x10:Bool)=>
            (at? p0 x1.2.1).bind fun a12=>
            (drayageref02xSub N a12 ({ Cpu:=x3.2.1,Mem:=x3.2.2.1,Gpu:=x3.2.2.2.1,Lic:=x3.2.2.2.2 }:zaa)).bind fun r13=>
            (app? x1.2.2 ([r13]:List zaa)).bind fun z14=>
            f2 (x10,(IntKind.i64.wrap (x1.2.1+1)),z14)) fun j11=>
          if x1.1=true then
          (at? p0 x1.2.1).bind fun a15=>
          (zau N ({ Cpu:=x3.2.1,Mem:=x3.2.2.1,Gpu:=x3.2.2.2.1,Lic:=x3.2.2.2.2 }:zaa) a15).bind fun r16=>
          j11 r16
          else
          j11 false) N (0,0,0,0,0)
    else
      some (x1.2.2,x1.1)) N (true,0,([]:List zaa))
def zb8 (N:Nat) (p0:zad) (p1:zag):Option (Bool):=
  lpX (fun f2 (x1:Int)=>
    if (decide (x1<(p1.Allocs.length:Int)))=true then
      (at? p1.Allocs x1).bind fun a3=>
      jn (fun (x4:Bool)=>
        if x4=true then
          some false
        else
          f2 (IntKind.i64.wrap (x1+1))) fun j5=>
      if (decide (x1 > 0))=true then
      (at? p1.Allocs (IntKind.i64.wrap (x1-1))).bind fun a6=>
      if (decide (a6.Job≥a3.Job))=true then
      j5 true
      else
      (zaR N p1.Jobs a3.Job).bind fun r7=>
      if (decide (r7<0))=true then
      j5 true
      else
      (za2 N a3.Shares (p0.Nodes.length:Int)).bind fun r8=>
      if (!r8)=true then
      j5 true
      else
      (zay N a3.Need).bind fun r9=>
      j5 (!r9)
      else
      (zaR N p1.Jobs a3.Job).bind fun r10=>
      if (decide (r10<0))=true then
      j5 true
      else
      (za2 N a3.Shares (p0.Nodes.length:Int)).bind fun r11=>
      if (!r11)=true then
      j5 true
      else
      (zay N a3.Need).bind fun r12=>
      j5 (!r12)
    else
      (zcR N p0.Nodes p1.Allocs).bind fun r13=>
      some r13.2) N 0
def zaX (N:Nat) (p0:zag) (p1:Int) (p2:Int):Option (Bool):=
  lpX (fun f2 (x1:Int)=>
    if (decide (x1<(p0.Allocs.length:Int)))=true then
      (at? p0.Allocs x1).bind fun a3=>
      (zaR N p0.Jobs a3.Job).bind fun r4=>
      jn (fun (x5:Bool)=>
        if x5=true then
          some true
        else
          f2 (IntKind.i64.wrap (x1+1))) fun j6=>
      if (decide (r4≥0))=true then
      (at? p0.Allocs x1).bind fun a7=>
      (zcw N a7.Shares p1).bind fun r8=>
      if (decide (r8 > 0))=true then
      (at? p0.Jobs r4).bind fun a9=>
      (at? p0.Jobs r4).bind fun a10=>
      j6 (decide ((IntKind.i64.wrap (a9.Start+a10.Wall)) > p2))
      else
      j6 false
      else
      j6 false
    else
      some false) N 0
def zdl (N:Nat) (p0:zac) (p1:Int):Option (Bool):=
  if (decide (p0.Id > 0))=true then
  (zaL N p0.Id).bind fun r1=>
  some (((((r1&&(decide (p0.Node≥0)))&&(decide (p0.Node<p1)))&&(decide (p0.From≥0)))&&(decide (p0.To > p0.From)))&&(decide (p0.To≤1099511627776)))
  else
  some false
def zaz (N:Nat) (p0:(List zac)) (p1:Int) (p2:Int) (p3:Int):Option (Bool):=
  lpX (fun f2 (x1:Int)=>
    if (decide (x1<(p0.length:Int)))=true then
      (at? p0 x1).bind fun a3=>
      if (((((a3.Node == p1)&&(decide (a3.From<a3.To)))&&(decide (p2<p3)))&&(decide (a3.From<p3)))&&(decide (p2<a3.To)))=true then
        some true
      else
        f2 (IntKind.i64.wrap (x1+1))
    else
      some false) N 0
def zco (N:Nat) (p0:(List zac)) (p1:Int):Option (Bool):=
  lpX (fun f2 (x1:Int)=>
    if (decide (x1<(p0.length:Int)))=true then
      (at? p0 x1).bind fun a3=>
      (zdl N a3 p1).bind fun r4=>
      if (!r4)=true then
        some false
      else
        lpX (fun f6 (x5:Int)=>
          if (decide (x5<x1))=true then
            jn (fun (x7:Bool)=>
              if x7=true then
                some false
              else
                f6 (IntKind.i64.wrap (x5+1))) fun j8=>
            (at? p0 x5).bind fun a9=>
            (at? p0 x1).bind fun a10=>
            if (decide (a9.Id≥a10.Id))=true then
            j8 true
            else
            (slice? p0 x5 (IntKind.i64.wrap (x5+1))).bind fun z11=>
            (at? p0 x1).bind fun a12=>
            (at? p0 x1).bind fun a13=>
            (at? p0 x1).bind fun a14=>
            (zaz N z11 a12.Node a13.From a14.To).bind fun r15=>
            j8 r15
          else
            f2 (IntKind.i64.wrap (x1+1))) N 0
    else
      some (decide ((p0.length:Int)≤16))) N 0
def zcp (N:Nat) (p0:zad) (p1:zag):Option (Bool):=
  lpX (fun f2 (x1:Int)=>
    if (decide (x1<(p1.Books.length:Int)))=true then
      (at? p1.Books x1).bind fun a3=>
      jn (fun (x4:Bool)=>
        if x4=true then
          some false
        else
          f2 (IntKind.i64.wrap (x1+1))) fun j5=>
      if ((decide (a3.Id≥p1.Book)) || (decide (a3.To≤p1.Now)))=true then
      j5 true
      else
      (zaX N p1 a3.Node a3.From).bind fun r6=>
      j5 r6
    else
      (zco N p1.Books (p0.Nodes.length:Int)).bind fun r7=>
      some r7) N 0
def zdj (N:Nat) (p0:(List Int)) (p1:Int):Option (Bool):=
  lpX (fun f2 (x1:Int)=>
    if (decide (x1<(p0.length:Int)))=true then
      jn (fun (x3:Bool)=>
        if x3=true then
          some false
        else
          f2 (IntKind.i64.wrap (x1+1))) fun j4=>
      (at? p0 x1).bind fun a5=>
      if (decide (a5<0))=true then
      j4 true
      else
      (at? p0 x1).bind fun a6=>
      j4 (decide (a6 > 1099511627776))
    else
      some ((p0.length:Int) == p1)) N 0
def zav (N:Nat) (p0:Int) (p1:Int) (p2:Int):Option (Bool):=
  some ((decide (p1≤p0))&&(decide (p0≤p2)))
def zcj (N:Nat) (p0:zah):Option (Bool):=
  lpX (fun f2 (x1:Int)=>
    if (decide (x1<(p0.After.length:Int)))=true then
      (at? p0.After x1).bind fun a3=>
      (zav N a3.Job 1 (IntKind.i64.wrap (p0.Id-1))).bind fun r4=>
      if (!r4)=true then
        some false
      else
        f2 (IntKind.i64.wrap (x1+1))
    else
      jn (fun (x5:Bool)=>
        if x5=true then
          some false
        else
          jn (fun (x7:Bool)=>
            if x7=true then
              some false
            else
              jn (fun (x9:Bool)=>
                if x9=true then
                  some false
                else
                  jn (fun (x11:Bool)=>
                    if x11=true then
                      some false
                    else
                      if (((!p0.Ok) || (p0.State == 4)) || (p0.State == 5))=true then
                      some (((!p0.Kill) || (p0.State == 4)) || (p0.State == 6))
                      else
                      some false) fun j12=>
                  if ((decide (p0.State≤2))&&(p0.Start != 0))=true then
                  j12 true
                  else
                  j12 ((decide (p0.State≤4))&&(p0.End != 0))) fun j10=>
              (zav N p0.Born 0 1099511627776).bind fun r13=>
              if (!r13)=true then
              j10 true
              else
              (zav N p0.Start 0 1099511627776).bind fun r14=>
              if (!r14)=true then
              j10 true
              else
              (zav N p0.End 0 1099511627776).bind fun r15=>
              j10 (!r15)) fun j8=>
          (zav N p0.Wall 1 65536).bind fun r16=>
          if (!r16)=true then
          j8 true
          else
          (zav N p0.State 1 6).bind fun r17=>
          if (!r17)=true then
          j8 true
          else
          (zav N p0.Version 1 281474976710656).bind fun r18=>
          if (!r18)=true then
          j8 true
          else
          (zav N p0.Array 0 p0.Id).bind fun r19=>
          j8 (!r19)) fun j6=>
      if (decide ((p0.After.length:Int) > 4))=true then
      j6 true
      else
      (zav N p0.Id 1 1048576).bind fun r20=>
      if (!r20)=true then
      j6 true
      else
      (zav N p0.User 0 7).bind fun r21=>
      if (!r21)=true then
      j6 true
      else
      (zav N p0.Queue 0 7).bind fun r22=>
      if (!r22)=true then
      j6 true
      else
      (zav N p0.Many 1 64).bind fun r23=>
      if (!r23)=true then
      j6 true
      else
      (zay N p0.Need).bind fun r24=>
      if (!r24)=true then
      j6 true
      else
      (zau N p0.Need ({ Cpu:=0,Mem:=0,Gpu:=0,Lic:=0 }:zaa)).bind fun r25=>
      j6 r25) N 0
def zcQ (N:Nat) (p0:(List zaf)) (p1:Int):Option (Int):=
  lpX (fun f2 (x1:Int)=>
    if (decide (x1<(p0.length:Int)))=true then
      (at? p0 x1).bind fun a3=>
      if (a3.Job == p1)=true then
        some x1
      else
        f2 (IntKind.i64.wrap (x1+1))
    else
      some (-1)) N 0
def zdk (N:Nat) (p0:zah):Option (Bool):=
  some ((p0.State == 3) || (p0.State == 4))
def zbL (N:Nat) (p0:zaa) (p1:zaa):Option (Int):=
  jn (fun (x1:Bool)=>
    if x1=true then
      some 0
    else
      lpX (fun f4 (x3:Int×Int×Int×Int×Int)=>
        jn (fun (x5:Bool)=>
          if x5=true then
            (zbo N ({ Cpu:=x3.2.1,Mem:=x3.2.2.1,Gpu:=x3.2.2.2.1,Lic:=x3.2.2.2.2 }:zaa) p1).bind fun r7=>
            f4 ((IntKind.i64.wrap (x3.1+1)),r7.Cpu,r7.Mem,r7.Gpu,r7.Lic)
          else
            some x3.1) fun j6=>
        if (decide (x3.1<64))=true then
        (zau N ({ Cpu:=x3.2.1,Mem:=x3.2.2.1,Gpu:=x3.2.2.2.1,Lic:=x3.2.2.2.2 }:zaa) p0).bind fun r8=>
        j6 r8
        else
        j6 false) N (0,p1.Cpu,p1.Mem,p1.Gpu,p1.Lic)) fun j2=>
  (zay N p0).bind fun r9=>
  if (!r9)=true then
  j2 true
  else
  (zay N p1).bind fun r10=>
  if (!r10)=true then
  j2 true
  else
  (zau N p1 ({ Cpu:=0,Mem:=0,Gpu:=0,Lic:=0 }:zaa)).bind fun r11=>
  j2 r11
def drayageref07xRoom (N:Nat) (p0:zad) (p1:Int) (p2:zaa):Option (Int):=
  if ((decide (p1<0)) || (decide (p1≥(p0.Parts.length:Int))))=true then
    some 0
  else
    lpX (fun f2 (x1:Int×Int)=>
      (at? p0.Parts p1).bind fun a3=>
      if (decide (x1.2<(a3.length:Int)))=true then
        (at? p0.Parts p1).bind fun a4=>
        (at? a4 x1.2).bind fun a5=>
        (at? p0.Nodes a5).bind fun a6=>
        (zbL N a6 p2).bind fun r7=>
        f2 ((IntKind.i64.wrap (x1.1+r7)),(IntKind.i64.wrap (x1.2+1)))
      else
        some x1.1) N (0,0)
def zbV (N:Nat) (p0:zad) (p1:Int) (p2:Int) (p3:zaa):Option (Bool):=
  if (((decide (p1≥0))&&(decide (p1<(p0.Queues.length:Int))))&&(decide (p2≥1)))=true then
  (at? p0.Queues p1).bind fun a1=>
  (drayageref07xRoom N p0 a1.Part p3).bind fun r2=>
  some (decide (r2≥p2))
  else
  some false
def zcm (N:Nat) (p0:(List zak)):Option (Int):=
  lpX (fun f2 (x1:Int×Int)=>
    if (decide (x1.2<(p0.length:Int)))=true then
      jn (fun (x3:Int)=>
        f2 (x3,(IntKind.i64.wrap (x1.2+1)))) fun j4=>
      (at? p0 x1.2).bind fun a5=>
      if (decide (a5.Many > 64))=true then
        j4 (IntKind.i64.wrap (x1.1+64))
      else
        (at? p0 x1.2).bind fun a6=>
        if (decide (a6.Many > 0))=true then
          (at? p0 x1.2).bind fun a7=>
          j4 (IntKind.i64.wrap (x1.1+a7.Many))
        else
          j4 x1.1
    else
      some x1.1) N (0,0)
def zdd (N:Nat) (p0:(List Int)) (p1:Int):Option (Bool):=
  lpX (fun f2 (x1:Int)=>
    if (decide (x1<(p0.length:Int)))=true then
      (at? p0 x1).bind fun a3=>
      if (a3 == p1)=true then
        some true
      else
        f2 (IntKind.i64.wrap (x1+1))
    else
      some false) N 0
def zcM (N:Nat) (p0:zad) (p1:zah) (p2:(List zak)):Option (Bool):=
  jn (fun (x1:Bool)=>
    if x1=true then
      some false
    else
      (at? p0.Queues p1.Queue).bind fun a3=>
      (at? p0.Parts a3.Part).bind fun a4=>
      lpX (fun f6 (x5:Int)=>
        if (decide (x5<(p2.length:Int)))=true then
          (at? p2 x5).bind fun a7=>
          (zdd N a4 a7.Node).bind fun r8=>
          if (!r8)=true then
            some false
          else
            f6 (IntKind.i64.wrap (x5+1))
        else
          some true) N 0) fun j2=>
  (za2 N p2 (p0.Nodes.length:Int)).bind fun r9=>
  if (!r9)=true then
  j2 true
  else
  (zcm N p2).bind fun r10=>
  j2 (((r10 != p1.Many) || (decide (p1.Queue<0))) || (decide (p1.Queue≥(p0.Queues.length:Int))))
def zdi (N:Nat) (p0:zad) (p1:zag) (p2:zah):Option (Bool):=
  (zcj N p2).bind fun r1=>
  if (((((((!r1) || (decide (p2.Id≥p1.Next))) || (decide (p2.User≥p0.Users))) || (decide (p2.Queue≥(p0.Queues.length:Int)))) || (decide (p2.Born > p1.Now))) || (decide (p2.Start > p1.Now))) || (decide (p2.End > p1.Now)))=true then
    some false
  else
    jn (fun (x2:Int)=>
      jn (fun (x4:Int)=>
        jn (fun (x6:Int)=>
          (zcQ N p1.Allocs p2.Id).bind fun r8=>
          jn (fun (x9:Bool)=>
            if x9=true then
              some false
            else
              if (decide (p2.State≥5))=true then
                some true
              else
                lpX (fun f12 (x11:Int)=>
                  if (decide (x11<(p2.After.length:Int)))=true then
                    (at? p2.After x11).bind fun a13=>
                    (zaR N p1.Jobs a13.Job).bind fun r14=>
                    if (decide (r14<0))=true then
                      some false
                    else
                      f12 (IntKind.i64.wrap (x11+1))
                  else
                    (zbV N p0 p2.Queue p2.Many p2.Need).bind fun r15=>
                    if (!r15)=true then
                      some false
                    else
                      (zdk N p2).bind fun r16=>
                      if (!r16)=true then
                      some true
                      else
                      if (decide (p1.Now<(IntKind.i64.wrap (p2.Start+p2.Wall))))=true then
                      (at? p1.Allocs r8).bind fun a17=>
                      if (zaa.beq a17.Need p2.Need)=true then
                      (at? p1.Allocs r8).bind fun a18=>
                      (zcM N p0 p2 a18.Shares).bind fun r19=>
                      some r19
                      else
                      some false
                      else
                      some false) N 0) fun j10=>
          if (decide (p2.Version > (IntKind.i64.wrap (p0.Versions+x6))))=true then
          j10 true
          else
          (zdk N p2).bind fun r20=>
          j10 (!((decide (r8≥0)) == r20))) fun j7=>
        if (decide (p2.State≥5))=true then
          j7 3
        else
          j7 x4) fun j5=>
      if (p2.State == 4)=true then
        j5 2
      else
        j5 x2) fun j3=>
    if (p2.State == 3)=true then
      j3 1
    else
      j3 0
def zbN (N:Nat) (p0:zad) (p1:zag):Option (Bool):=
  jn (fun (x1:Bool)=>
    if x1=true then
      some false
    else
      jn (fun (x3:Bool)=>
        if x3=true then
          some false
        else
          lpX (fun f6 (x5:Int)=>
            if (decide (x5<(p1.Stamps.Queues.length:Int)))=true then
              (at? p1.Stamps.Queues x5).bind fun a7=>
              (zaL N a7).bind fun r8=>
              if (!r8)=true then
                some false
              else
                f6 (IntKind.i64.wrap (x5+1))
            else
              lpX (fun f10 (x9:Int)=>
                if (decide (x9<(p1.Jobs.length:Int)))=true then
                  jn (fun (x11:Bool)=>
                    if x11=true then
                      some false
                    else
                      f10 (IntKind.i64.wrap (x9+1))) fun j12=>
                  (at? p1.Jobs x9).bind fun a13=>
                  (zdi N p0 p1 a13).bind fun r14=>
                  if (!r14)=true then
                  j12 true
                  else
                  if (decide (x9 > 0))=true then
                  (at? p1.Jobs (IntKind.i64.wrap (x9-1))).bind fun a15=>
                  (at? p1.Jobs x9).bind fun a16=>
                  j12 (decide (a15.Id≥a16.Id))
                  else
                  j12 false
                else
                  some true) N 0) N 0) fun j4=>
      if (decide ((p1.Jobs.length:Int) > p0.Jobs))=true then
      j4 true
      else
      (zb8 N p0 p1).bind fun r17=>
      if (!r17)=true then
      j4 true
      else
      (zcp N p0 p1).bind fun r18=>
      if (!r18)=true then
      j4 true
      else
      (zdj N p1.Use p0.Users).bind fun r19=>
      if ((!r19) || ((p1.Stamps.Queues.length:Int) != (p0.Queues.length:Int)))=true then
      j4 true
      else
      (zaL N p1.Stamps.Nodes).bind fun r20=>
      j4 (!r20)) fun j2=>
  (zcq N p0).bind fun r21=>
  if ((((((!r21) || (decide (p1.Now<0))) || (decide (p1.Now > 1099511627776))) || (decide (p1.Next<1))) || (decide (p1.Next > (IntKind.i64.wrap (p0.Ids+1))))) || (decide (p1.Book<1)))=true then
  j2 true
  else
  (zaL N p1.Book).bind fun r22=>
  j2 (!r22)
def za0 (N:Nat) (a0:(List zah)):Option ((List zah)):=app? [] a0
def zbQ (N:Nat) (a0:Int) (a1:(List zah)):Option (((List zah))):=
  (za0 N a1).bind fun x1=>
  lpX (fun f3 (x2:Int×List zah)=>
    if (decide (x2.1<(x1.length:Int)))=true then
      (at? x2.2 x2.1).bind fun a4=>
      (table_own N a4).bind fun r5=>
      (at? x2.2 x2.1).bind fun a6=>
      f3 ((IntKind.i64.wrap (x2.1+1)),(x2.2.set x2.1.toNat r5))
    else
      some x2.2) N (0,x1)
def zaw (N:Nat) (a0:List (Int×zaf)) (a1:(List zaa)) (a2:(List (List Int))) (a3:(List zao)) (a4:Int) (a5:Int) (a6:Int) (a7:Int) (a8:Int) (a9:Int) (a10:Int) (a11:Int) (a12:Int) (a13:Int) (a14:Int) (a15:Int) (a16:Int) (a17:Int) (a18:Int) (a19:Int) (a20:Int) (a21:Int) (a22:(List zac)) (a23:(List Int)) (a24:(List Int)) (a25:Int) (a26:Int) (a27:(List zah)) (a28:(List zaa)):Option ((zag)):=
  (zbQ N a26 a27).bind fun x1=>
  (zas N a0 a28).bind fun x2=>
  (zaq N a22).bind fun r3=>
  (zax N a23).bind fun r4=>
  (zax N a24).bind fun r5=>
  some ({ Now:=a19,Next:=a20,Book:=a21,Jobs:=x1,Allocs:=x2,Books:=r3,Use:=r4,Stamps:=({ Queues:=r5,Nodes:=a25 }:api_Stamps) }:zag)
def zcJ (N:Nat) (p0:zah) (p1:zah):Option (Bool):=
  if ((p0.After.length:Int) != (p1.After.length:Int))=true then
    some false
  else
    lpX (fun f2 (x1:Int)=>
      if (decide (x1<(p0.After.length:Int)))=true then
        (at? p0.After x1).bind fun a3=>
        (at? p1.After x1).bind fun a4=>
        if (!(zbS.beq a3 a4))=true then
          some false
        else
          f2 (IntKind.i64.wrap (x1+1))
      else
        some ((((((((((((((p0.Id == p1.Id)&&(p0.User == p1.User))&&(p0.Queue == p1.Queue))&&(p0.Many == p1.Many))&&(zaa.beq p0.Need p1.Need))&&(p0.Wall == p1.Wall))&&(p0.State == p1.State))&&(p0.Ok == p1.Ok))&&(p0.Kill == p1.Kill))&&(p0.Version == p1.Version))&&(p0.Born == p1.Born))&&(p0.Start == p1.Start))&&(p0.End == p1.End))&&(p0.Array == p1.Array))) N 0
def zcI (N:Nat) (p0:(List zah)) (p1:(List zah)):Option (Bool):=
  if ((p0.length:Int) != (p1.length:Int))=true then
    some false
  else
    lpX (fun f2 (x1:Int)=>
      if (decide (x1<(p0.length:Int)))=true then
        (at? p0 x1).bind fun a3=>
        (at? p1 x1).bind fun a4=>
        (zcJ N a3 a4).bind fun r5=>
        if (!r5)=true then
          some false
        else
          f2 (IntKind.i64.wrap (x1+1))
      else
        some true) N 0
def zcU (N:Nat) (p0:(List zak)) (p1:(List zak)):Option (Bool):=
  if ((p0.length:Int) != (p1.length:Int))=true then
    some false
  else
    lpX (fun f2 (x1:Int)=>
      if (decide (x1<(p0.length:Int)))=true then
        (at? p0 x1).bind fun a3=>
        (at? p1 x1).bind fun a4=>
        if (!(zak.beq a3 a4))=true then
          some false
        else
          f2 (IntKind.i64.wrap (x1+1))
      else
        some true) N 0
def zcV (N:Nat) (p0:(List zaf)) (p1:(List zaf)):Option (Bool):=
  if ((p0.length:Int) != (p1.length:Int))=true then
    some false
  else
    lpX (fun f2 (x1:Int)=>
      if (decide (x1<(p0.length:Int)))=true then
        jn (fun (x3:Bool)=>
          if x3=true then
            some false
          else
            f2 (IntKind.i64.wrap (x1+1))) fun j4=>
        (at? p0 x1).bind fun a5=>
        (at? p1 x1).bind fun a6=>
        if (a5.Job != a6.Job)=true then
        j4 true
        else
        (at? p0 x1).bind fun a7=>
        (at? p1 x1).bind fun a8=>
        if (!(zaa.beq a7.Need a8.Need))=true then
        j4 true
        else
        (at? p0 x1).bind fun a9=>
        (at? p1 x1).bind fun a10=>
        (zcU N a9.Shares a10.Shares).bind fun r11=>
        j4 (!r11)
      else
        some true) N 0
def zcP (N:Nat) (p0:(List zac)) (p1:(List zac)):Option (Bool):=
  if ((p0.length:Int) != (p1.length:Int))=true then
    some false
  else
    lpX (fun f2 (x1:Int)=>
      if (decide (x1<(p0.length:Int)))=true then
        (at? p0 x1).bind fun a3=>
        (at? p1 x1).bind fun a4=>
        if (!(zac.beq a3 a4))=true then
          some false
        else
          f2 (IntKind.i64.wrap (x1+1))
      else
        some true) N 0
def zaQ (N:Nat) (p0:zag) (p1:zag):Option (Bool):=
  if (((p0.Now == p1.Now)&&(p0.Next == p1.Next))&&(p0.Book == p1.Book))=true then
  (zcI N p0.Jobs p1.Jobs).bind fun r1=>
  if r1=true then
  (zcV N p0.Allocs p1.Allocs).bind fun r2=>
  if r2=true then
  (zcP N p0.Books p1.Books).bind fun r3=>
  if r3=true then
  (zbv N p0.Use p1.Use).bind fun r4=>
  if r4=true then
  (zbv N p0.Stamps.Queues p1.Stamps.Queues).bind fun r5=>
  some (r5&&(p0.Stamps.Nodes == p1.Stamps.Nodes))
  else
  some false
  else
  some false
  else
  some false
  else
  some false
  else
  some false
def zaS (N:Nat) (a0:zad) (a1:zag):Option ((Bool) ⊕ (List (Int×zaf)×Bool×(List zaa)×(List (List Int))×(List zao)×Int×Int×Int×Int×Int×Int×Int×Int×Int×Int×Int×Int×Int×Int×Int×Int×Int×Int×(List zac)×(List Int)×(List Int)×Int×Int×(List zah)×(List zaa))):=
  (zcg N a0 a1).bind fun x1=>
  match x1 with
  | .inl x2 =>
    (zbN N a0 a1).bind fun r4=>
    if (!r4)=true then
      some (Sum.inl (x2 == 2))
    else
      some (Sum.inl false)
  | .inr x3 =>
    (zbN N a0 a1).bind fun r5=>
    if (!r5)=true then
      some (Sum.inl false)
    else
      (zaw N x3.1 x3.2.1 x3.2.2.1 x3.2.2.2.1 x3.2.2.2.2.1 x3.2.2.2.2.2.1 x3.2.2.2.2.2.2.1 x3.2.2.2.2.2.2.2.1 x3.2.2.2.2.2.2.2.2.1 x3.2.2.2.2.2.2.2.2.2.1 x3.2.2.2.2.2.2.2.2.2.2.1 x3.2.2.2.2.2.2.2.2.2.2.2.1 x3.2.2.2.2.2.2.2.2.2.2.2.2.1 x3.2.2.2.2.2.2.2.2.2.2.2.2.2.1 x3.2.2.2.2.2.2.2.2.2.2.2.2.2.2.1 x3.2.2.2.2.2.2.2.2.2.2.2.2.2.2.2.1 x3.2.2.2.2.2.2.2.2.2.2.2.2.2.2.2.2.1 x3.2.2.2.2.2.2.2.2.2.2.2.2.2.2.2.2.2.1 x3.2.2.2.2.2.2.2.2.2.2.2.2.2.2.2.2.2.2.1 x3.2.2.2.2.2.2.2.2.2.2.2.2.2.2.2.2.2.2.2.1 x3.2.2.2.2.2.2.2.2.2.2.2.2.2.2.2.2.2.2.2.2.1 x3.2.2.2.2.2.2.2.2.2.2.2.2.2.2.2.2.2.2.2.2.2.1 x3.2.2.2.2.2.2.2.2.2.2.2.2.2.2.2.2.2.2.2.2.2.2.1 x3.2.2.2.2.2.2.2.2.2.2.2.2.2.2.2.2.2.2.2.2.2.2.2.1 x3.2.2.2.2.2.2.2.2.2.2.2.2.2.2.2.2.2.2.2.2.2.2.2.2.1 x3.2.2.2.2.2.2.2.2.2.2.2.2.2.2.2.2.2.2.2.2.2.2.2.2.2.1 x3.2.2.2.2.2.2.2.2.2.2.2.2.2.2.2.2.2.2.2.2.2.2.2.2.2.2.1 x3.2.2.2.2.2.2.2.2.2.2.2.2.2.2.2.2.2.2.2.2.2.2.2.2.2.2.2.1 x3.2.2.2.2.2.2.2.2.2.2.2.2.2.2.2.2.2.2.2.2.2.2.2.2.2.2.2.2).bind fun x6=>
      (zaQ N x6 a1).bind fun r7=>
      some (Sum.inr (x3.1,r7,x3.2.1,x3.2.2.1,x3.2.2.2.1,x3.2.2.2.2.1,x3.2.2.2.2.2.1,x3.2.2.2.2.2.2.1,x3.2.2.2.2.2.2.2.1,x3.2.2.2.2.2.2.2.2.1,x3.2.2.2.2.2.2.2.2.2.1,x3.2.2.2.2.2.2.2.2.2.2.1,x3.2.2.2.2.2.2.2.2.2.2.2.1,x3.2.2.2.2.2.2.2.2.2.2.2.2.1,x3.2.2.2.2.2.2.2.2.2.2.2.2.2.1,x3.2.2.2.2.2.2.2.2.2.2.2.2.2.2.1,x3.2.2.2.2.2.2.2.2.2.2.2.2.2.2.2.1,x3.2.2.2.2.2.2.2.2.2.2.2.2.2.2.2.2.1,x3.2.2.2.2.2.2.2.2.2.2.2.2.2.2.2.2.2.1,x3.2.2.2.2.2.2.2.2.2.2.2.2.2.2.2.2.2.2.1,x3.2.2.2.2.2.2.2.2.2.2.2.2.2.2.2.2.2.2.2.1,x3.2.2.2.2.2.2.2.2.2.2.2.2.2.2.2.2.2.2.2.2.1,x3.2.2.2.2.2.2.2.2.2.2.2.2.2.2.2.2.2.2.2.2.2.1,x3.2.2.2.2.2.2.2.2.2.2.2.2.2.2.2.2.2.2.2.2.2.2.1,x3.2.2.2.2.2.2.2.2.2.2.2.2.2.2.2.2.2.2.2.2.2.2.2.1,x3.2.2.2.2.2.2.2.2.2.2.2.2.2.2.2.2.2.2.2.2.2.2.2.2.1,x3.2.2.2.2.2.2.2.2.2.2.2.2.2.2.2.2.2.2.2.2.2.2.2.2.2.1,x3.2.2.2.2.2.2.2.2.2.2.2.2.2.2.2.2.2.2.2.2.2.2.2.2.2.2.1,x3.2.2.2.2.2.2.2.2.2.2.2.2.2.2.2.2.2.2.2.2.2.2.2.2.2.2.2.1,x3.2.2.2.2.2.2.2.2.2.2.2.2.2.2.2.2.2.2.2.2.2.2.2.2.2.2.2.2))
def reserve_Do_oca7a (N:Nat) (a0:Int) (a1:zaG):Option ((za9)):=
  (zcO N a1.Key 1).bind fun r1=>
  some r1
def zb3 (N:Nat):Option ((zag)):=
  some ({ Now:=0,Next:=0,Book:=0,Jobs:=[],Allocs:=[],Books:=[],Use:=[],Stamps:=({ Queues:=[],Nodes:=0 }:api_Stamps) }:zag)
def zbX (N:Nat) (p0:zcr) (p1:api_Call):Option (Bool):=
  (drayagelaw28xawake N).bind fun r1=>
  if (!r1)=true then
    some false
  else
    jn (fun (x2:Bool)=>
      if x2=true then
        some true
      else
        (zaS N p0.S p0.St).bind fun x4=>
        match x4 with
        | .inl x5 =>
          if (bif (!x5) then true else true)=true then
            some x5
          else
            (reserve_Do_oca7a N p1.User p1.Request).bind fun x7=>
            (zb3 N).bind fun x8=>
            if (x7.Err != 0)=true then
              (zaQ N x8 p0.St).bind fun r9=>
              some r9
            else
              jn (fun (x10:Bool)=>
                if x10=true then
                  some false
                else
                  (reserve_Do_oca7a N 0 ({ Kind:=12,Key:=1,Job:=0,Version:=0,Queue:=0,Many:=0,Need:=({ Cpu:=0,Mem:=0,Gpu:=0,Lic:=0 }:zaa),Wall:=0,Tasks:=0,After:=[],Node:=0,From:=0,To:=0,Id:=x7.Job }:zaG)).bind fun x12=>
                  (zb3 N).bind fun x13=>
                  (zbs N x12 ({ Key:=1,Err:=0,Job:=x7.Job,Version:=0,Nums:=[] }:za9)).bind fun r14=>
                  if r14=true then
                  (zaQ N ({ Now:=x13.Now,Next:=x13.Next,Book:=p0.St.Book,Jobs:=x13.Jobs,Allocs:=x13.Allocs,Books:=x13.Books,Use:=x13.Use,Stamps:=x13.Stamps }:zag) p0.St).bind fun r15=>
                  some r15
                  else
                  some false) fun j11=>
              if (p1.User != 0)=true then
              j11 true
              else
              (zaX N x8 p1.Request.Node p1.Request.From).bind fun r16=>
              if r16=true then
              j11 true
              else
              (zaz N p0.St.Books p1.Request.Node p1.Request.From p1.Request.To).bind fun r17=>
              if r17=true then
              j11 true
              else
              (zaz N x8.Books p1.Request.Node p1.Request.From p1.Request.To).bind fun r18=>
              j11 (!r18)
        | .inr x6 =>
          if (bif (!x6.2.1) then true else false)=true then
            some x6.2.1
          else
            (za3 N x6.1 p1.User p1.Request x6.2.2.1 x6.2.2.2.1 x6.2.2.2.2.1 x6.2.2.2.2.2.1 x6.2.2.2.2.2.2.1 x6.2.2.2.2.2.2.2.1 x6.2.2.2.2.2.2.2.2.1 x6.2.2.2.2.2.2.2.2.2.1 x6.2.2.2.2.2.2.2.2.2.2.1 x6.2.2.2.2.2.2.2.2.2.2.2.1 x6.2.2.2.2.2.2.2.2.2.2.2.2.1 x6.2.2.2.2.2.2.2.2.2.2.2.2.2.1 x6.2.2.2.2.2.2.2.2.2.2.2.2.2.2.1 x6.2.2.2.2.2.2.2.2.2.2.2.2.2.2.2.1 x6.2.2.2.2.2.2.2.2.2.2.2.2.2.2.2.2.1 x6.2.2.2.2.2.2.2.2.2.2.2.2.2.2.2.2.2.1 x6.2.2.2.2.2.2.2.2.2.2.2.2.2.2.2.2.2.2.1 x6.2.2.2.2.2.2.2.2.2.2.2.2.2.2.2.2.2.2.2.1 x6.2.2.2.2.2.2.2.2.2.2.2.2.2.2.2.2.2.2.2.2.1 x6.2.2.2.2.2.2.2.2.2.2.2.2.2.2.2.2.2.2.2.2.2.1 x6.2.2.2.2.2.2.2.2.2.2.2.2.2.2.2.2.2.2.2.2.2.2.1 x6.2.2.2.2.2.2.2.2.2.2.2.2.2.2.2.2.2.2.2.2.2.2.2.1 x6.2.2.2.2.2.2.2.2.2.2.2.2.2.2.2.2.2.2.2.2.2.2.2.2.1 x6.2.2.2.2.2.2.2.2.2.2.2.2.2.2.2.2.2.2.2.2.2.2.2.2.2.1 x6.2.2.2.2.2.2.2.2.2.2.2.2.2.2.2.2.2.2.2.2.2.2.2.2.2.2.1 x6.2.2.2.2.2.2.2.2.2.2.2.2.2.2.2.2.2.2.2.2.2.2.2.2.2.2.2.1 x6.2.2.2.2.2.2.2.2.2.2.2.2.2.2.2.2.2.2.2.2.2.2.2.2.2.2.2.2.1 x6.2.2.2.2.2.2.2.2.2.2.2.2.2.2.2.2.2.2.2.2.2.2.2.2.2.2.2.2.2).bind fun x19=>
            (zaw N x6.1 x6.2.2.1 x6.2.2.2.1 x6.2.2.2.2.1 x6.2.2.2.2.2.1 x6.2.2.2.2.2.2.1 x6.2.2.2.2.2.2.2.1 x6.2.2.2.2.2.2.2.2.1 x6.2.2.2.2.2.2.2.2.2.1 x6.2.2.2.2.2.2.2.2.2.2.1 x6.2.2.2.2.2.2.2.2.2.2.2.1 x6.2.2.2.2.2.2.2.2.2.2.2.2.1 x6.2.2.2.2.2.2.2.2.2.2.2.2.2.1 x6.2.2.2.2.2.2.2.2.2.2.2.2.2.2.1 x6.2.2.2.2.2.2.2.2.2.2.2.2.2.2.2.1 x6.2.2.2.2.2.2.2.2.2.2.2.2.2.2.2.2.1 x6.2.2.2.2.2.2.2.2.2.2.2.2.2.2.2.2.2.1 x6.2.2.2.2.2.2.2.2.2.2.2.2.2.2.2.2.2.2.1 x6.2.2.2.2.2.2.2.2.2.2.2.2.2.2.2.2.2.2.2.1 x6.2.2.2.2.2.2.2.2.2.2.2.2.2.2.2.2.2.2.2.2.1 x6.2.2.2.2.2.2.2.2.2.2.2.2.2.2.2.2.2.2.2.2.2.1 x19.2.1 x19.2.2 x6.2.2.2.2.2.2.2.2.2.2.2.2.2.2.2.2.2.2.2.2.2.2.2.2.1 x6.2.2.2.2.2.2.2.2.2.2.2.2.2.2.2.2.2.2.2.2.2.2.2.2.2.1 x6.2.2.2.2.2.2.2.2.2.2.2.2.2.2.2.2.2.2.2.2.2.2.2.2.2.2.1 x6.2.2.2.2.2.2.2.2.2.2.2.2.2.2.2.2.2.2.2.2.2.2.2.2.2.2.2.1 x6.2.2.2.2.2.2.2.2.2.2.2.2.2.2.2.2.2.2.2.2.2.2.2.2.2.2.2.2.1 x6.2.2.2.2.2.2.2.2.2.2.2.2.2.2.2.2.2.2.2.2.2.2.2.2.2.2.2.2.2).bind fun x20=>
            if (x19.1.Err != 0)=true then
              (zaQ N x20 p0.St).bind fun r21=>
              some r21
            else
              jn (fun (x22:Bool)=>
                if x22=true then
                  some false
                else
                  (za3 N x6.1 0 ({ Kind:=12,Key:=1,Job:=0,Version:=0,Queue:=0,Many:=0,Need:=({ Cpu:=0,Mem:=0,Gpu:=0,Lic:=0 }:zaa),Wall:=0,Tasks:=0,After:=[],Node:=0,From:=0,To:=0,Id:=x19.1.Job }:zaG) x6.2.2.1 x6.2.2.2.1 x6.2.2.2.2.1 x6.2.2.2.2.2.1 x6.2.2.2.2.2.2.1 x6.2.2.2.2.2.2.2.1 x6.2.2.2.2.2.2.2.2.1 x6.2.2.2.2.2.2.2.2.2.1 x6.2.2.2.2.2.2.2.2.2.2.1 x6.2.2.2.2.2.2.2.2.2.2.2.1 x6.2.2.2.2.2.2.2.2.2.2.2.2.1 x6.2.2.2.2.2.2.2.2.2.2.2.2.2.1 x6.2.2.2.2.2.2.2.2.2.2.2.2.2.2.1 x6.2.2.2.2.2.2.2.2.2.2.2.2.2.2.2.1 x6.2.2.2.2.2.2.2.2.2.2.2.2.2.2.2.2.1 x6.2.2.2.2.2.2.2.2.2.2.2.2.2.2.2.2.2.1 x6.2.2.2.2.2.2.2.2.2.2.2.2.2.2.2.2.2.2.1 x6.2.2.2.2.2.2.2.2.2.2.2.2.2.2.2.2.2.2.2.1 x6.2.2.2.2.2.2.2.2.2.2.2.2.2.2.2.2.2.2.2.2.1 x6.2.2.2.2.2.2.2.2.2.2.2.2.2.2.2.2.2.2.2.2.2.1 x19.2.1 x19.2.2 x6.2.2.2.2.2.2.2.2.2.2.2.2.2.2.2.2.2.2.2.2.2.2.2.2.1 x6.2.2.2.2.2.2.2.2.2.2.2.2.2.2.2.2.2.2.2.2.2.2.2.2.2.1 x6.2.2.2.2.2.2.2.2.2.2.2.2.2.2.2.2.2.2.2.2.2.2.2.2.2.2.1 x6.2.2.2.2.2.2.2.2.2.2.2.2.2.2.2.2.2.2.2.2.2.2.2.2.2.2.2.1 x6.2.2.2.2.2.2.2.2.2.2.2.2.2.2.2.2.2.2.2.2.2.2.2.2.2.2.2.2.1 x6.2.2.2.2.2.2.2.2.2.2.2.2.2.2.2.2.2.2.2.2.2.2.2.2.2.2.2.2.2).bind fun x24=>
                  (zaw N x6.1 x6.2.2.1 x6.2.2.2.1 x6.2.2.2.2.1 x6.2.2.2.2.2.1 x6.2.2.2.2.2.2.1 x6.2.2.2.2.2.2.2.1 x6.2.2.2.2.2.2.2.2.1 x6.2.2.2.2.2.2.2.2.2.1 x6.2.2.2.2.2.2.2.2.2.2.1 x6.2.2.2.2.2.2.2.2.2.2.2.1 x6.2.2.2.2.2.2.2.2.2.2.2.2.1 x6.2.2.2.2.2.2.2.2.2.2.2.2.2.1 x6.2.2.2.2.2.2.2.2.2.2.2.2.2.2.1 x6.2.2.2.2.2.2.2.2.2.2.2.2.2.2.2.1 x6.2.2.2.2.2.2.2.2.2.2.2.2.2.2.2.2.1 x6.2.2.2.2.2.2.2.2.2.2.2.2.2.2.2.2.2.1 x6.2.2.2.2.2.2.2.2.2.2.2.2.2.2.2.2.2.2.1 x6.2.2.2.2.2.2.2.2.2.2.2.2.2.2.2.2.2.2.2.1 x6.2.2.2.2.2.2.2.2.2.2.2.2.2.2.2.2.2.2.2.2.1 x6.2.2.2.2.2.2.2.2.2.2.2.2.2.2.2.2.2.2.2.2.2.1 x24.2.1 x24.2.2 x6.2.2.2.2.2.2.2.2.2.2.2.2.2.2.2.2.2.2.2.2.2.2.2.2.1 x6.2.2.2.2.2.2.2.2.2.2.2.2.2.2.2.2.2.2.2.2.2.2.2.2.2.1 x6.2.2.2.2.2.2.2.2.2.2.2.2.2.2.2.2.2.2.2.2.2.2.2.2.2.2.1 x6.2.2.2.2.2.2.2.2.2.2.2.2.2.2.2.2.2.2.2.2.2.2.2.2.2.2.2.1 x6.2.2.2.2.2.2.2.2.2.2.2.2.2.2.2.2.2.2.2.2.2.2.2.2.2.2.2.2.1 x6.2.2.2.2.2.2.2.2.2.2.2.2.2.2.2.2.2.2.2.2.2.2.2.2.2.2.2.2.2).bind fun x25=>
                  (zbs N x24.1 ({ Key:=1,Err:=0,Job:=x19.1.Job,Version:=0,Nums:=[] }:za9)).bind fun r26=>
                  if r26=true then
                  (zaQ N ({ Now:=x25.Now,Next:=x25.Next,Book:=p0.St.Book,Jobs:=x25.Jobs,Allocs:=x25.Allocs,Books:=x25.Books,Use:=x25.Use,Stamps:=x25.Stamps }:zag) p0.St).bind fun r27=>
                  some r27
                  else
                  some false) fun j23=>
              if (p1.User != 0)=true then
              j23 true
              else
              (zaX N x20 p1.Request.Node p1.Request.From).bind fun r28=>
              if r28=true then
              j23 true
              else
              (zaz N p0.St.Books p1.Request.Node p1.Request.From p1.Request.To).bind fun r29=>
              if r29=true then
              j23 true
              else
              (zaz N x20.Books p1.Request.Node p1.Request.From p1.Request.To).bind fun r30=>
              j23 (!r30)) fun j3=>
    (zdc N p0.S p0.St).bind fun r31=>
    if (!r31)=true then
    j3 true
    else
    (zdm N ([p1]:List api_Call)).bind fun r32=>
    j3 ((!r32) || (p1.Request.Kind != 11))
end Go.Abs
