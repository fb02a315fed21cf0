/- The program's types. -/
import Derived.Test.YtcndmfkgdaipaaaGreatFwG
import Derived.Test.YtcndmfkgdaipaaaGreatFwH
set_option linter.all false
set_option maxRecDepth 100000
noncomputable section
namespace Go.Abs
variable[Gl]
@[ext] structure aE where
 bF:Int
 Mem:Int
 bJ:Int
 bL:Int
 deriving DecidableEq,Inhabited
def aE.beq(a b:aE):Bool:=(a.bF == b.bF&&(a.Mem == b.Mem&&(a.bJ == b.bJ&&(a.bL == b.bL&&true))))
@[ext] structure zT where
 Part:Int
 aT:(List Int)
 jM:Int
 jx:Int
 eO:Int
 f_:Int
 deriving DecidableEq,Inhabited
@[ext] structure Lx where
 mG:Int
 de:Int
 f_:Int
 bW:Int
 deriving DecidableEq,Inhabited
def Lx.beq(a b:Lx):Bool:=(a.mG == b.mG&&(a.de == b.de&&(a.f_ == b.f_&&(a.bW == b.bW&&true))))
@[ext] structure a_ where
 aj:(List aE)
 aH:(List (List Int))
 am:(List zT)
 aT:Int
 aq:Lx
 cj:Int
 Mode:Int
 ai:Int
 kX:Int
 aI:Int
 br:Int
 dm:Int
 In:Int
 Out:Int
 ce:Int
 deriving DecidableEq,Inhabited
@[ext] structure Gt where
 aS:Int
 Ok:Bool
 deriving DecidableEq,Inhabited
def Gt.beq(a b:Gt):Bool:=(a.aS == b.aS&&(a.Ok == b.Ok&&true))
@[ext] structure aJ where
 Id:Int
 ca:Int
 Queue:Int
 aM:Int
 ay:aE
 aR:Int
 aF:(List Gt)
 State:Int
 Ok:Bool
 cL:Bool
 aK:Int
 cQ:Int
 Start:Int
 End:Int
 Array:Int
 deriving DecidableEq,Inhabited
@[ext] structure cO where
 Node:Int
 aM:Int
 deriving DecidableEq,Inhabited
def cO.beq(a b:cO):Bool:=(a.Node == b.Node&&(a.aM == b.aM&&true))
@[ext] structure bG where
 aS:Int
 ay:aE
 ae:(List cO)
 deriving DecidableEq,Inhabited
@[ext] structure iH where
 Id:Int
 Node:Int
 bQ:Int
 To:Int
 deriving DecidableEq,Inhabited
def iH.beq(a b:iH):Bool:=(a.Id == b.Id&&(a.Node == b.Node&&(a.bQ == b.bQ&&(a.To == b.To&&true))))
@[ext] structure VX where
 am:(List Int)
 aj:Int
 deriving DecidableEq,Inhabited
@[ext] structure bZ where
 aQ:Int
 Next:Int
 cR:Int
 ai:(List aJ)
 ah:(List bG)
 aA:(List iH)
 gz:(List Int)
 az:VX
 deriving DecidableEq,Inhabited
@[ext] structure zc1 where
 S:a_
 St:bZ
 deriving DecidableEq,Inhabited
@[ext] structure CK where
 Ma:Int
 WG:(List aJ)
 deriving DecidableEq,Inhabited
@[ext] structure jN where
 aS:Int
 At:Int
 ae:(List cO)
 deriving DecidableEq,Inhabited
@[ext] structure Wi where
 aS:Int
 dx:Int
 aF:Int
 deriving DecidableEq,Inhabited
def Wi.beq(a b:Wi):Bool:=(a.aS == b.aS&&(a.dx == b.dx&&(a.aF == b.aF&&true)))
@[ext] structure zdR where
 Started:(List jN)
 jI:(List jN)
 rk:Wi
 deriving DecidableEq,Inhabited
@[ext] structure jC where
 ay:aE
 ae:(List cO)
 pa:Int
 deriving DecidableEq,Inhabited
@[ext] structure bY where
 At:Int
 cw:aE
 deriving DecidableEq,Inhabited
def bY.beq(a b:bY):Bool:=(a.At == b.At&&(aE.beq a.cw b.cw&&true))
@[ext] structure BO where
 ff:Int
 cG:(List (List Int))
 cH:(List (List bY))
 deriving DecidableEq,Inhabited
@[ext] structure kj where
 aQ:Int
 gz:(List Int)
 deriving DecidableEq,Inhabited
@[ext] structure BZ where
 bQ:Int
 To:Int
 ay:aE
 ae:(List cO)
 deriving DecidableEq,Inhabited
@[ext] structure gR where
 S:a_
 aQ:Int
 L:(List BZ)
 aA:(List iH)
 deriving DecidableEq,Inhabited
@[ext] structure Cw where
 Part:Int
 aM:Int
 ay:aE
 aR:Int
 deriving DecidableEq,Inhabited
def Cw.beq(a b:Cw):Bool:=(a.Part == b.Part&&(a.aM == b.aM&&(aE.beq a.ay b.ay&&(a.aR == b.aR&&true))))
def tyT:Nat->Type
 |0=>aE
 |1=>Int
 |2=>(List Int)
 |3=>zT
 |4=>Gt
 |5=>aJ
 |6=>cO
 |7=>bG
 |8=>iH
 |9=>zc1
 |10=>a_
 |11=>(Int×Int×Int×Int)
 |12=>Lx
 |13=>CK
 |14=>jN
 |15=>zdR
 |16=>bZ
 |17=>jC
 |18=>bY
 |19=>(List bY)
 |20=>BO
 |21=>kj
 |22=>(Int×Int×Int)
 |23=>ByteArray
 |24=>Bool
 |25=>(Int×Int)
 |26=>BZ
 |27=>gR
 |28=>Cw
 |_=>Bool
abbrev iD:CC:=.int .i64
def tyF:Nat->List CC
 |0=>[iD,iD,iD,iD]
 |1=>[iD]
 |2=>[.sl 1]
 |3=>[iD,.sl 1,iD,iD,iD,iD]
 |4=>[iD,.bool]
 |5=>[iD,iD,iD,iD,iD,iD,iD,iD,iD,.sl 4,iD,.bool,.bool,iD,iD,iD,iD,iD]
 |6=>[iD,iD]
 |7=>[iD,iD,iD,iD,iD,.sl 6]
 |8=>[iD,iD,iD,iD]
 |9=>[.sl 0,.sl 2,.sl 3,iD,iD,iD,iD,iD,iD,iD,iD,iD,iD,iD,iD,iD,iD,iD,iD,iD,iD,.sl 5,.sl 7,.sl 8,.sl 1,.sl 1,iD]
 |10=>[.sl 0,.sl 2,.sl 3,iD,iD,iD,iD,iD,iD,iD,iD,iD,iD,iD,iD,iD,iD,iD]
 |11|12=>[iD,iD,iD,iD]
 |13=>[iD,.sl 5]
 |14=>[iD,iD,.sl 6]
 |15=>[.sl 14,.sl 14,iD,iD,iD]
 |16=>[iD,iD,iD,.sl 5,.sl 7,.sl 8,.sl 1,.sl 1,iD]
 |17=>[iD,iD,iD,iD,.sl 6,iD]
 |18=>[iD,iD,iD,iD,iD]
 |19=>[.sl 18]
 |20=>[iD,.sl 2,.sl 19]
 |21=>[iD,.sl 1]
 |22=>[iD,iD,iD]
 |23=>[.str]
 |24=>[.bool]
 |25=>[iD,iD]
 |26=>[iD,iD,iD,iD,iD,iD,.sl 6]
 |27=>[.sl 0,.sl 2,.sl 3,iD,iD,iD,iD,iD,iD,iD,iD,iD,iD,iD,iD,iD,iD,iD,iD,.sl 26,.sl 8]
 |28=>[iD,iD,iD,iD,iD,iD,iD]
 |_=>[.bool]
set_option maxHeartbeats 4000000 in
noncomputable instance ty:Ty where
 T:=tyT
 fl:=tyF
 prj:=λi=>match i with
  |0=>λx=>(x.bF,x.Mem,x.bJ,x.bL,())
  |1|2=>λx=>(x,())
  |3=>λx=>(x.Part,x.aT,x.jM,x.jx,x.eO,x.f_,())
  |4=>λx=>(x.aS,x.Ok,())
  |5=>λx=>(x.Id,x.ca,x.Queue,x.aM,x.ay.bF,x.ay.Mem,x.ay.bJ,x.ay.bL,x.aR,x.aF,x.State,x.Ok,x.cL,x.aK,x.cQ,x.Start,x.End,x.Array,())
  |6=>λx=>(x.Node,x.aM,())
  |7=>λx=>(x.aS,x.ay.bF,x.ay.Mem,x.ay.bJ,x.ay.bL,x.ae,())
  |8=>λx=>(x.Id,x.Node,x.bQ,x.To,())
  |9=>λx=>(x.S.aj,x.S.aH,x.S.am,x.S.aT,x.S.aq.mG,x.S.aq.de,x.S.aq.f_,x.S.aq.bW,x.S.cj,x.S.Mode,x.S.ai,x.S.kX,x.S.aI,x.S.br,x.S.dm,x.S.In,x.S.Out,x.S.ce,x.St.aQ,x.St.Next,x.St.cR,x.St.ai,x.St.ah,x.St.aA,x.St.gz,x.St.az.am,x.St.az.aj,())
  |10=>λx=>(x.aj,x.aH,x.am,x.aT,x.aq.mG,x.aq.de,x.aq.f_,x.aq.bW,x.cj,x.Mode,x.ai,x.kX,x.aI,x.br,x.dm,x.In,x.Out,x.ce,())
  |11=>λx=>(x.1,x.2.1,x.2.2.1,x.2.2.2,())
  |12=>λx=>(x.mG,x.de,x.f_,x.bW,())
  |13=>λx=>(x.Ma,x.WG,())
  |14=>λx=>(x.aS,x.At,x.ae,())
  |15=>λx=>(x.Started,x.jI,x.rk.aS,x.rk.dx,x.rk.aF,())
  |16=>λx=>(x.aQ,x.Next,x.cR,x.ai,x.ah,x.aA,x.gz,x.az.am,x.az.aj,())
  |17=>λx=>(x.ay.bF,x.ay.Mem,x.ay.bJ,x.ay.bL,x.ae,x.pa,())
  |18=>λx=>(x.At,x.cw.bF,x.cw.Mem,x.cw.bJ,x.cw.bL,())
  |19=>λx=>(x,())
  |20=>λx=>(x.ff,x.cG,x.cH,())
  |21=>λx=>(x.aQ,x.gz,())
  |22=>λx=>(x.1,x.2.1,x.2.2,())
  |23|24=>λx=>(x,())
  |25=>λx=>(x.1,x.2,())
  |26=>λx=>(x.bQ,x.To,x.ay.bF,x.ay.Mem,x.ay.bJ,x.ay.bL,x.ae,())
  |27=>λx=>(x.S.aj,x.S.aH,x.S.am,x.S.aT,x.S.aq.mG,x.S.aq.de,x.S.aq.f_,x.S.aq.bW,x.S.cj,x.S.Mode,x.S.ai,x.S.kX,x.S.aI,x.S.br,x.S.dm,x.S.In,x.S.Out,x.S.ce,x.aQ,x.L,x.aA,())
  |28=>λx=>(x.Part,x.aM,x.ay.bF,x.ay.Mem,x.ay.bJ,x.ay.bL,x.aR,())
  |_+29=>λx=>(x,())
 mkt:=λi=>match i with
  |0=>λx=>({ bF:=x.1,Mem:=x.2.1,bJ:=x.2.2.1,bL:=x.2.2.2.1 }:aE)
  |1|2=>λx=>x.1
  |3=>λx=>({ Part:=x.1,aT:=x.2.1,jM:=x.2.2.1,jx:=x.2.2.2.1,eO:=x.2.2.2.2.1,f_:=x.2.2.2.2.2.1 }:zT)
  |4=>λx=>({ aS:=x.1,Ok:=x.2.1 }:Gt)
  |5=>λx=>({ Id:=x.1,ca:=x.2.1,Queue:=x.2.2.1,aM:=x.2.2.2.1,ay:=({ bF:=x.2.2.2.2.1,Mem:=x.2.2.2.2.2.1,bJ:=x.2.2.2.2.2.2.1,bL:=x.2.2.2.2.2.2.2.1 }:aE),aR:=x.2.2.2.2.2.2.2.2.1,aF:=x.2.2.2.2.2.2.2.2.2.1,State:=x.2.2.2.2.2.2.2.2.2.2.1,Ok:=x.2.2.2.2.2.2.2.2.2.2.2.1,cL:=x.2.2.2.2.2.2.2.2.2.2.2.2.1,aK:=x.2.2.2.2.2.2.2.2.2.2.2.2.2.1,cQ:=x.2.2.2.2.2.2.2.2.2.2.2.2.2.2.1,Start:=x.2.2.2.2.2.2.2.2.2.2.2.2.2.2.2.1,End:=x.2.2.2.2.2.2.2.2.2.2.2.2.2.2.2.2.1,Array:=x.2.2.2.2.2.2.2.2.2.2.2.2.2.2.2.2.2.1 }:aJ)
  |6=>λx=>({ Node:=x.1,aM:=x.2.1 }:cO)
  |7=>λx=>({ aS:=x.1,ay:=({ bF:=x.2.1,Mem:=x.2.2.1,bJ:=x.2.2.2.1,bL:=x.2.2.2.2.1 }:aE),ae:=x.2.2.2.2.2.1 }:bG)
  |8=>λx=>({ Id:=x.1,Node:=x.2.1,bQ:=x.2.2.1,To:=x.2.2.2.1 }:iH)
  |9=>λx=>({ S:=({ aj:=x.1,aH:=x.2.1,am:=x.2.2.1,aT:=x.2.2.2.1,aq:=({ mG:=x.2.2.2.2.1,de:=x.2.2.2.2.2.1,f_:=x.2.2.2.2.2.2.1,bW:=x.2.2.2.2.2.2.2.1 }:Lx),cj:=x.2.2.2.2.2.2.2.2.1,Mode:=x.2.2.2.2.2.2.2.2.2.1,ai:=x.2.2.2.2.2.2.2.2.2.2.1,kX:=x.2.2.2.2.2.2.2.2.2.2.2.1,aI:=x.2.2.2.2.2.2.2.2.2.2.2.2.1,br:=x.2.2.2.2.2.2.2.2.2.2.2.2.2.1,dm:=x.2.2.2.2.2.2.2.2.2.2.2.2.2.2.1,In:=x.2.2.2.2.2.2.2.2.2.2.2.2.2.2.2.1,Out:=x.2.2.2.2.2.2.2.2.2.2.2.2.2.2.2.2.1,ce:=x.2.2.2.2.2.2.2.2.2.2.2.2.2.2.2.2.2.1 }:a_),St:=({ aQ:=x.2.2.2.2.2.2.2.2.2.2.2.2.2.2.2.2.2.2.1,Next:=x.2.2.2.2.2.2.2.2.2.2.2.2.2.2.2.2.2.2.2.1,cR:=x.2.2.2.2.2.2.2.2.2.2.2.2.2.2.2.2.2.2.2.2.1,ai:=x.2.2.2.2.2.2.2.2.2.2.2.2.2.2.2.2.2.2.2.2.2.1,ah:=x.2.2.2.2.2.2.2.2.2.2.2.2.2.2.2.2.2.2.2.2.2.2.1,aA:=x.2.2.2.2.2.2.2.2.2.2.2.2.2.2.2.2.2.2.2.2.2.2.2.1,gz:=x.2.2.2.2.2.2.2.2.2.2.2.2.2.2.2.2.2.2.2.2.2.2.2.2.1,az:=({ am:=x.2.2.2.2.2.2.2.2.2.2.2.2.2.2.2.2.2.2.2.2.2.2.2.2.2.1,aj:=x.2.2.2.2.2.2.2.2.2.2.2.2.2.2.2.2.2.2.2.2.2.2.2.2.2.2.1 }:VX) }:bZ) }:zc1)
  |10=>λx=>({ aj:=x.1,aH:=x.2.1,am:=x.2.2.1,aT:=x.2.2.2.1,aq:=({ mG:=x.2.2.2.2.1,de:=x.2.2.2.2.2.1,f_:=x.2.2.2.2.2.2.1,bW:=x.2.2.2.2.2.2.2.1 }:Lx),cj:=x.2.2.2.2.2.2.2.2.1,Mode:=x.2.2.2.2.2.2.2.2.2.1,ai:=x.2.2.2.2.2.2.2.2.2.2.1,kX:=x.2.2.2.2.2.2.2.2.2.2.2.1,aI:=x.2.2.2.2.2.2.2.2.2.2.2.2.1,br:=x.2.2.2.2.2.2.2.2.2.2.2.2.2.1,dm:=x.2.2.2.2.2.2.2.2.2.2.2.2.2.2.1,In:=x.2.2.2.2.2.2.2.2.2.2.2.2.2.2.2.1,Out:=x.2.2.2.2.2.2.2.2.2.2.2.2.2.2.2.2.1,ce:=x.2.2.2.2.2.2.2.2.2.2.2.2.2.2.2.2.2.1 }:a_)
  |11=>λx=>(x.1,x.2.1,x.2.2.1,x.2.2.2.1)
  |12=>λx=>({ mG:=x.1,de:=x.2.1,f_:=x.2.2.1,bW:=x.2.2.2.1 }:Lx)
  |13=>λx=>({ Ma:=x.1,WG:=x.2.1 }:CK)
  |14=>λx=>({ aS:=x.1,At:=x.2.1,ae:=x.2.2.1 }:jN)
  |15=>λx=>({ Started:=x.1,jI:=x.2.1,rk:=({ aS:=x.2.2.1,dx:=x.2.2.2.1,aF:=x.2.2.2.2.1 }:Wi) }:zdR)
  |16=>λx=>({ aQ:=x.1,Next:=x.2.1,cR:=x.2.2.1,ai:=x.2.2.2.1,ah:=x.2.2.2.2.1,aA:=x.2.2.2.2.2.1,gz:=x.2.2.2.2.2.2.1,az:=({ am:=x.2.2.2.2.2.2.2.1,aj:=x.2.2.2.2.2.2.2.2.1 }:VX) }:bZ)
  |17=>λx=>({ ay:=({ bF:=x.1,Mem:=x.2.1,bJ:=x.2.2.1,bL:=x.2.2.2.1 }:aE),ae:=x.2.2.2.2.1,pa:=x.2.2.2.2.2.1 }:jC)
  |18=>λx=>({ At:=x.1,cw:=({ bF:=x.2.1,Mem:=x.2.2.1,bJ:=x.2.2.2.1,bL:=x.2.2.2.2.1 }:aE) }:bY)
  |19=>λx=>x.1
  |20=>λx=>({ ff:=x.1,cG:=x.2.1,cH:=x.2.2.1 }:BO)
  |21=>λx=>({ aQ:=x.1,gz:=x.2.1 }:kj)
  |22=>λx=>(x.1,x.2.1,x.2.2.1)
  |23|24=>λx=>x.1
  |25=>λx=>(x.1,x.2.1)
  |26=>λx=>({ bQ:=x.1,To:=x.2.1,ay:=({ bF:=x.2.2.1,Mem:=x.2.2.2.1,bJ:=x.2.2.2.2.1,bL:=x.2.2.2.2.2.1 }:aE),ae:=x.2.2.2.2.2.2.1 }:BZ)
  |27=>λx=>({ S:=({ aj:=x.1,aH:=x.2.1,am:=x.2.2.1,aT:=x.2.2.2.1,aq:=({ mG:=x.2.2.2.2.1,de:=x.2.2.2.2.2.1,f_:=x.2.2.2.2.2.2.1,bW:=x.2.2.2.2.2.2.2.1 }:Lx),cj:=x.2.2.2.2.2.2.2.2.1,Mode:=x.2.2.2.2.2.2.2.2.2.1,ai:=x.2.2.2.2.2.2.2.2.2.2.1,kX:=x.2.2.2.2.2.2.2.2.2.2.2.1,aI:=x.2.2.2.2.2.2.2.2.2.2.2.2.1,br:=x.2.2.2.2.2.2.2.2.2.2.2.2.2.1,dm:=x.2.2.2.2.2.2.2.2.2.2.2.2.2.2.1,In:=x.2.2.2.2.2.2.2.2.2.2.2.2.2.2.2.1,Out:=x.2.2.2.2.2.2.2.2.2.2.2.2.2.2.2.2.1,ce:=x.2.2.2.2.2.2.2.2.2.2.2.2.2.2.2.2.2.1 }:a_),aQ:=x.2.2.2.2.2.2.2.2.2.2.2.2.2.2.2.2.2.2.1,L:=x.2.2.2.2.2.2.2.2.2.2.2.2.2.2.2.2.2.2.2.1,aA:=x.2.2.2.2.2.2.2.2.2.2.2.2.2.2.2.2.2.2.2.2.1 }:gR)
  |28=>λx=>({ Part:=x.1,aM:=x.2.1,ay:=({ bF:=x.2.2.1,Mem:=x.2.2.2.1,bJ:=x.2.2.2.2.1,bL:=x.2.2.2.2.2.1 }:aE),aR:=x.2.2.2.2.2.2.1 }:Cw)
  |_+29=>λx=>x.1
 mp:=λi=>match i with
  |0|1|2|3|4|5|6|7|8|9|10|11|12|13|14|15|16|17|18|19|20|21|22|23|24|25|26|27|28|_+29=>λ_=>rfl
 pm:=λi=>match i with
  |0|1|2|3|4|5|6|7|8|9|10|11|12|13|14|15|16|17|18|19|20|21|22|23|24|25|26|27|28|_+29=>λ_=>rfl
 dn:=λi j h=>match i with
  |0|1|2|3|4|5|6|7|8|9|10|11|12|13|14|15|16|17|18|19|20|21|22|23|24|25|26|27|28|_+29=>zN rfl h
 ps:=λi=>match i with
  |0|1|2|3|4|5|6|7|8|9|10|11|12|13|14|15|16|17|18|19|20|21|22|23|24|25|26|27|28|_+29=>Nat.succ_pos _
end Go.Abs
