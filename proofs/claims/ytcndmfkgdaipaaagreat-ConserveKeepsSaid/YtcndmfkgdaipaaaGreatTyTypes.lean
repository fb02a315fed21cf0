/- The program's types. -/
import Derived.Test.YtcndmfkgdaipaaaGreatFwG
set_option linter.all false
set_option maxRecDepth 100000
noncomputable section
namespace Go.Abs
variable[Gl]
@[ext] structure aC where
 bP:Int
 Mem:Int
 bS:Int
 bT:Int
 deriving DecidableEq,Inhabited
def aC.beq(a b:aC):Bool:=(a.bP == b.bP&&(a.Mem == b.Mem&&(a.bS == b.bS&&(a.bT == b.bT&&true))))
@[ext] structure AY where
 Part:Int
 aO:(List Int)
 jM:Int
 nN:Int
 iI:Int
 eR:Int
 deriving DecidableEq,Inhabited
@[ext] structure HN where
 jb:Int
 cH:Int
 eR:Int
 bB:Int
 deriving DecidableEq,Inhabited
def HN.beq(a b:HN):Bool:=(a.jb == b.jb&&(a.cH == b.cH&&(a.eR == b.eR&&(a.bB == b.bB&&true))))
@[ext] structure bo where
 am:(List aC)
 aF:(List (List Int))
 aq:(List AY)
 aO:Int
 ah:HN
 bJ:Int
 Mode:Int
 aj:Int
 gU:Int
 aE:Int
 aW:Int
 cP:Int
 In:Int
 Out:Int
 bI:Int
 deriving DecidableEq,Inhabited
@[ext] structure dZ where
 bj:Int
 Ok:Bool
 deriving DecidableEq,Inhabited
def dZ.beq(a b:dZ):Bool:=(a.bj == b.bj&&(a.Ok == b.Ok&&true))
@[ext] structure aL where
 Id:Int
 c_:Int
 Queue:Int
 aK:Int
 az:aC
 aU:Int
 aI:(List dZ)
 State:Int
 Ok:Bool
 dD:Bool
 aQ:Int
 dF:Int
 Start:Int
 End:Int
 Array:Int
 deriving DecidableEq,Inhabited
@[ext] structure cU where
 Node:Int
 aK:Int
 deriving DecidableEq,Inhabited
def cU.beq(a b:cU):Bool:=(a.Node == b.Node&&(a.aK == b.aK&&true))
@[ext] structure ce where
 bj:Int
 az:aC
 ae:(List cU)
 deriving DecidableEq,Inhabited
@[ext] structure kX where
 Id:Int
 Node:Int
 bK:Int
 To:Int
 deriving DecidableEq,Inhabited
def kX.beq(a b:kX):Bool:=(a.Id == b.Id&&(a.Node == b.Node&&(a.bK == b.bK&&(a.To == b.To&&true))))
@[ext] structure sq where
 aq:(List Int)
 am:Int
 deriving DecidableEq,Inhabited
@[ext] structure cz where
 aT:Int
 Next:Int
 eo:Int
 aj:(List aL)
 ai:(List ce)
 ay:(List kX)
 oF:(List Int)
 aG:sq
 deriving DecidableEq,Inhabited
@[ext] structure zdO where
 S:bo
 St:cz
 deriving DecidableEq,Inhabited
@[ext] structure Cj where
 MU:Int
 Xd:(List aL)
 deriving DecidableEq,Inhabited
@[ext] structure dt where
 bj:Int
 At:Int
 ae:(List cU)
 deriving DecidableEq,Inhabited
@[ext] structure bO where
 At:Int
 cy:aC
 deriving DecidableEq,Inhabited
def bO.beq(a b:bO):Bool:=(a.At == b.At&&(aC.beq a.cy b.cy&&true))
@[ext] structure zL where
 f_now:Int
 Tm:(List (List Int))
 Tz:(List (List bO))
 deriving DecidableEq,Inhabited
@[ext] structure zbm where
 jE:dt
 dK:aL
 deriving DecidableEq,Inhabited
@[ext] structure fx where
 bj:Int
 qh:Int
 aI:Int
 deriving DecidableEq,Inhabited
def fx.beq(a b:fx):Bool:=(a.bj == b.bj&&(a.qh == b.qh&&(a.aI == b.aI&&true)))
@[ext] structure zek where
 Started:(List dt)
 dv:(List dt)
 Fi:fx
 deriving DecidableEq,Inhabited
@[ext] structure jQ where
 az:aC
 ae:(List cU)
 oO:Int
 deriving DecidableEq,Inhabited
@[ext] structure kc where
 aT:Int
 oF:(List Int)
 deriving DecidableEq,Inhabited
@[ext] structure oA where
 bK:Int
 To:Int
 az:aC
 ae:(List cU)
 deriving DecidableEq,Inhabited
@[ext] structure fo where
 S:bo
 aT:Int
 L:(List oA)
 ay:(List kX)
 deriving DecidableEq,Inhabited
@[ext] structure A_ where
 Part:Int
 aK:Int
 az:aC
 aU:Int
 deriving DecidableEq,Inhabited
def A_.beq(a b:A_):Bool:=(a.Part == b.Part&&(a.aK == b.aK&&(aC.beq a.az b.az&&(a.aU == b.aU&&true))))
def tyT:Nat->Type
 |0=>aC
 |1=>Int
 |2=>(List Int)
 |3=>AY
 |4=>dZ
 |5=>aL
 |6=>cU
 |7=>ce
 |8=>kX
 |9=>zdO
 |10=>bo
 |11=>(Int×Int×Int×Int)
 |12=>HN
 |13=>Cj
 |14=>dt
 |15=>bO
 |16=>(List bO)
 |17=>zL
 |18=>zbm
 |19=>zek
 |20=>cz
 |21=>jQ
 |22=>kc
 |23=>(Int×Int×Int)
 |24=>ByteArray
 |25=>Bool
 |26=>oA
 |27=>fo
 |28=>A_
 |_=>Bool
abbrev iD:CC:=.int .i64
def tyF:Nat->List CC
 |0=>[iD,iD,iD,iD]
 |1=>[iD]
 |2=>[.sl 1]
 |3=>[iD,.sl 1,iD,iD,iD,iD]
 |4=>[iD,.bool]
 |5=>[iD,iD,iD,iD,iD,iD,iD,iD,iD,.sl 4,iD,.bool,.bool,iD,iD,iD,iD,iD]
 |6=>[iD,iD]
 |7=>[iD,iD,iD,iD,iD,.sl 6]
 |8=>[iD,iD,iD,iD]
 |9=>[.sl 0,.sl 2,.sl 3,iD,iD,iD,iD,iD,iD,iD,iD,iD,iD,iD,iD,iD,iD,iD,iD,iD,iD,.sl 5,.sl 7,.sl 8,.sl 1,.sl 1,iD]
 |10=>[.sl 0,.sl 2,.sl 3,iD,iD,iD,iD,iD,iD,iD,iD,iD,iD,iD,iD,iD,iD,iD]
 |11=>[iD,iD,iD,iD]
 |12=>[iD,iD,iD,iD]
 |13=>[iD,.sl 5]
 |14=>[iD,iD,.sl 6]
 |15=>[iD,iD,iD,iD,iD]
 |16=>[.sl 15]
 |17=>[iD,.sl 2,.sl 16]
 |18=>[iD,iD,.sl 6,iD,iD,iD,iD,iD,iD,iD,iD,iD,.sl 4,iD,.bool,.bool,iD,iD,iD,iD,iD]
 |19=>[.sl 14,.sl 14,iD,iD,iD]
 |20=>[iD,iD,iD,.sl 5,.sl 7,.sl 8,.sl 1,.sl 1,iD]
 |21=>[iD,iD,iD,iD,.sl 6,iD]
 |22=>[iD,.sl 1]
 |23=>[iD,iD,iD]
 |24=>[.str]
 |25=>[.bool]
 |26=>[iD,iD,iD,iD,iD,iD,.sl 6]
 |27=>[.sl 0,.sl 2,.sl 3,iD,iD,iD,iD,iD,iD,iD,iD,iD,iD,iD,iD,iD,iD,iD,iD,.sl 26,.sl 8]
 |28=>[iD,iD,iD,iD,iD,iD,iD]
 |_=>[.bool]
set_option maxHeartbeats 4000000 in
noncomputable instance ty:Ty where
 T:=tyT
 fl:=tyF
 prj:=λi=>match i with
  |0=>λx=>(x.bP,x.Mem,x.bS,x.bT,())
  |1=>λx=>(x,())
  |2=>λx=>(x,())
  |3=>λx=>(x.Part,x.aO,x.jM,x.nN,x.iI,x.eR,())
  |4=>λx=>(x.bj,x.Ok,())
  |5=>λx=>(x.Id,x.c_,x.Queue,x.aK,x.az.bP,x.az.Mem,x.az.bS,x.az.bT,x.aU,x.aI,x.State,x.Ok,x.dD,x.aQ,x.dF,x.Start,x.End,x.Array,())
  |6=>λx=>(x.Node,x.aK,())
  |7=>λx=>(x.bj,x.az.bP,x.az.Mem,x.az.bS,x.az.bT,x.ae,())
  |8=>λx=>(x.Id,x.Node,x.bK,x.To,())
  |9=>λx=>(x.S.am,x.S.aF,x.S.aq,x.S.aO,x.S.ah.jb,x.S.ah.cH,x.S.ah.eR,x.S.ah.bB,x.S.bJ,x.S.Mode,x.S.aj,x.S.gU,x.S.aE,x.S.aW,x.S.cP,x.S.In,x.S.Out,x.S.bI,x.St.aT,x.St.Next,x.St.eo,x.St.aj,x.St.ai,x.St.ay,x.St.oF,x.St.aG.aq,x.St.aG.am,())
  |10=>λx=>(x.am,x.aF,x.aq,x.aO,x.ah.jb,x.ah.cH,x.ah.eR,x.ah.bB,x.bJ,x.Mode,x.aj,x.gU,x.aE,x.aW,x.cP,x.In,x.Out,x.bI,())
  |11=>λx=>(x.1,x.2.1,x.2.2.1,x.2.2.2,())
  |12=>λx=>(x.jb,x.cH,x.eR,x.bB,())
  |13=>λx=>(x.MU,x.Xd,())
  |14=>λx=>(x.bj,x.At,x.ae,())
  |15=>λx=>(x.At,x.cy.bP,x.cy.Mem,x.cy.bS,x.cy.bT,())
  |16=>λx=>(x,())
  |17=>λx=>(x.f_now,x.Tm,x.Tz,())
  |18=>λx=>(x.jE.bj,x.jE.At,x.jE.ae,x.dK.Id,x.dK.c_,x.dK.Queue,x.dK.aK,x.dK.az.bP,x.dK.az.Mem,x.dK.az.bS,x.dK.az.bT,x.dK.aU,x.dK.aI,x.dK.State,x.dK.Ok,x.dK.dD,x.dK.aQ,x.dK.dF,x.dK.Start,x.dK.End,x.dK.Array,())
  |19=>λx=>(x.Started,x.dv,x.Fi.bj,x.Fi.qh,x.Fi.aI,())
  |20=>λx=>(x.aT,x.Next,x.eo,x.aj,x.ai,x.ay,x.oF,x.aG.aq,x.aG.am,())
  |21=>λx=>(x.az.bP,x.az.Mem,x.az.bS,x.az.bT,x.ae,x.oO,())
  |22=>λx=>(x.aT,x.oF,())
  |23=>λx=>(x.1,x.2.1,x.2.2,())
  |24=>λx=>(x,())
  |25=>λx=>(x,())
  |26=>λx=>(x.bK,x.To,x.az.bP,x.az.Mem,x.az.bS,x.az.bT,x.ae,())
  |27=>λx=>(x.S.am,x.S.aF,x.S.aq,x.S.aO,x.S.ah.jb,x.S.ah.cH,x.S.ah.eR,x.S.ah.bB,x.S.bJ,x.S.Mode,x.S.aj,x.S.gU,x.S.aE,x.S.aW,x.S.cP,x.S.In,x.S.Out,x.S.bI,x.aT,x.L,x.ay,())
  |28=>λx=>(x.Part,x.aK,x.az.bP,x.az.Mem,x.az.bS,x.az.bT,x.aU,())
  |_+29=>λx=>(x,())
 mkt:=λi=>match i with
  |0=>λx=>({ bP:=x.1,Mem:=x.2.1,bS:=x.2.2.1,bT:=x.2.2.2.1 }:aC)
  |1=>λx=>x.1
  |2=>λx=>x.1
  |3=>λx=>({ Part:=x.1,aO:=x.2.1,jM:=x.2.2.1,nN:=x.2.2.2.1,iI:=x.2.2.2.2.1,eR:=x.2.2.2.2.2.1 }:AY)
  |4=>λx=>({ bj:=x.1,Ok:=x.2.1 }:dZ)
  |5=>λx=>({ Id:=x.1,c_:=x.2.1,Queue:=x.2.2.1,aK:=x.2.2.2.1,az:=({ bP:=x.2.2.2.2.1,Mem:=x.2.2.2.2.2.1,bS:=x.2.2.2.2.2.2.1,bT:=x.2.2.2.2.2.2.2.1 }:aC),aU:=x.2.2.2.2.2.2.2.2.1,aI:=x.2.2.2.2.2.2.2.2.2.1,State:=x.2.2.2.2.2.2.2.2.2.2.1,Ok:=x.2.2.2.2.2.2.2.2.2.2.2.1,dD:=x.2.2.2.2.2.2.2.2.2.2.2.2.1,aQ:=x.2.2.2.2.2.2.2.2.2.2.2.2.2.1,dF:=x.2.2.2.2.2.2.2.2.2.2.2.2.2.2.1,Start:=x.2.2.2.2.2.2.2.2.2.2.2.2.2.2.2.1,End:=x.2.2.2.2.2.2.2.2.2.2.2.2.2.2.2.2.1,Array:=x.2.2.2.2.2.2.2.2.2.2.2.2.2.2.2.2.2.1 }:aL)
  |6=>λx=>({ Node:=x.1,aK:=x.2.1 }:cU)
  |7=>λx=>({ bj:=x.1,az:=({ bP:=x.2.1,Mem:=x.2.2.1,bS:=x.2.2.2.1,bT:=x.2.2.2.2.1 }:aC),ae:=x.2.2.2.2.2.1 }:ce)
  |8=>λx=>({ Id:=x.1,Node:=x.2.1,bK:=x.2.2.1,To:=x.2.2.2.1 }:kX)
  |9=>λx=>({ S:=({ am:=x.1,aF:=x.2.1,aq:=x.2.2.1,aO:=x.2.2.2.1,ah:=({ jb:=x.2.2.2.2.1,cH:=x.2.2.2.2.2.1,eR:=x.2.2.2.2.2.2.1,bB:=x.2.2.2.2.2.2.2.1 }:HN),bJ:=x.2.2.2.2.2.2.2.2.1,Mode:=x.2.2.2.2.2.2.2.2.2.1,aj:=x.2.2.2.2.2.2.2.2.2.2.1,gU:=x.2.2.2.2.2.2.2.2.2.2.2.1,aE:=x.2.2.2.2.2.2.2.2.2.2.2.2.1,aW:=x.2.2.2.2.2.2.2.2.2.2.2.2.2.1,cP:=x.2.2.2.2.2.2.2.2.2.2.2.2.2.2.1,In:=x.2.2.2.2.2.2.2.2.2.2.2.2.2.2.2.1,Out:=x.2.2.2.2.2.2.2.2.2.2.2.2.2.2.2.2.1,bI:=x.2.2.2.2.2.2.2.2.2.2.2.2.2.2.2.2.2.1 }:bo),St:=({ aT:=x.2.2.2.2.2.2.2.2.2.2.2.2.2.2.2.2.2.2.1,Next:=x.2.2.2.2.2.2.2.2.2.2.2.2.2.2.2.2.2.2.2.1,eo:=x.2.2.2.2.2.2.2.2.2.2.2.2.2.2.2.2.2.2.2.2.1,aj:=x.2.2.2.2.2.2.2.2.2.2.2.2.2.2.2.2.2.2.2.2.2.1,ai:=x.2.2.2.2.2.2.2.2.2.2.2.2.2.2.2.2.2.2.2.2.2.2.1,ay:=x.2.2.2.2.2.2.2.2.2.2.2.2.2.2.2.2.2.2.2.2.2.2.2.1,oF:=x.2.2.2.2.2.2.2.2.2.2.2.2.2.2.2.2.2.2.2.2.2.2.2.2.1,aG:=({ aq:=x.2.2.2.2.2.2.2.2.2.2.2.2.2.2.2.2.2.2.2.2.2.2.2.2.2.1,am:=x.2.2.2.2.2.2.2.2.2.2.2.2.2.2.2.2.2.2.2.2.2.2.2.2.2.2.1 }:sq) }:cz) }:zdO)
  |10=>λx=>({ am:=x.1,aF:=x.2.1,aq:=x.2.2.1,aO:=x.2.2.2.1,ah:=({ jb:=x.2.2.2.2.1,cH:=x.2.2.2.2.2.1,eR:=x.2.2.2.2.2.2.1,bB:=x.2.2.2.2.2.2.2.1 }:HN),bJ:=x.2.2.2.2.2.2.2.2.1,Mode:=x.2.2.2.2.2.2.2.2.2.1,aj:=x.2.2.2.2.2.2.2.2.2.2.1,gU:=x.2.2.2.2.2.2.2.2.2.2.2.1,aE:=x.2.2.2.2.2.2.2.2.2.2.2.2.1,aW:=x.2.2.2.2.2.2.2.2.2.2.2.2.2.1,cP:=x.2.2.2.2.2.2.2.2.2.2.2.2.2.2.1,In:=x.2.2.2.2.2.2.2.2.2.2.2.2.2.2.2.1,Out:=x.2.2.2.2.2.2.2.2.2.2.2.2.2.2.2.2.1,bI:=x.2.2.2.2.2.2.2.2.2.2.2.2.2.2.2.2.2.1 }:bo)
  |11=>λx=>(x.1,x.2.1,x.2.2.1,x.2.2.2.1)
  |12=>λx=>({ jb:=x.1,cH:=x.2.1,eR:=x.2.2.1,bB:=x.2.2.2.1 }:HN)
  |13=>λx=>({ MU:=x.1,Xd:=x.2.1 }:Cj)
  |14=>λx=>({ bj:=x.1,At:=x.2.1,ae:=x.2.2.1 }:dt)
  |15=>λx=>({ At:=x.1,cy:=({ bP:=x.2.1,Mem:=x.2.2.1,bS:=x.2.2.2.1,bT:=x.2.2.2.2.1 }:aC) }:bO)
  |16=>λx=>x.1
  |17=>λx=>({ f_now:=x.1,Tm:=x.2.1,Tz:=x.2.2.1 }:zL)
  |18=>λx=>({ jE:=({ bj:=x.1,At:=x.2.1,ae:=x.2.2.1 }:dt),dK:=({ Id:=x.2.2.2.1,c_:=x.2.2.2.2.1,Queue:=x.2.2.2.2.2.1,aK:=x.2.2.2.2.2.2.1,az:=({ bP:=x.2.2.2.2.2.2.2.1,Mem:=x.2.2.2.2.2.2.2.2.1,bS:=x.2.2.2.2.2.2.2.2.2.1,bT:=x.2.2.2.2.2.2.2.2.2.2.1 }:aC),aU:=x.2.2.2.2.2.2.2.2.2.2.2.1,aI:=x.2.2.2.2.2.2.2.2.2.2.2.2.1,State:=x.2.2.2.2.2.2.2.2.2.2.2.2.2.1,Ok:=x.2.2.2.2.2.2.2.2.2.2.2.2.2.2.1,dD:=x.2.2.2.2.2.2.2.2.2.2.2.2.2.2.2.1,aQ:=x.2.2.2.2.2.2.2.2.2.2.2.2.2.2.2.2.1,dF:=x.2.2.2.2.2.2.2.2.2.2.2.2.2.2.2.2.2.1,Start:=x.2.2.2.2.2.2.2.2.2.2.2.2.2.2.2.2.2.2.1,End:=x.2.2.2.2.2.2.2.2.2.2.2.2.2.2.2.2.2.2.2.1,Array:=x.2.2.2.2.2.2.2.2.2.2.2.2.2.2.2.2.2.2.2.2.1 }:aL) }:zbm)
  |19=>λx=>({ Started:=x.1,dv:=x.2.1,Fi:=({ bj:=x.2.2.1,qh:=x.2.2.2.1,aI:=x.2.2.2.2.1 }:fx) }:zek)
  |20=>λx=>({ aT:=x.1,Next:=x.2.1,eo:=x.2.2.1,aj:=x.2.2.2.1,ai:=x.2.2.2.2.1,ay:=x.2.2.2.2.2.1,oF:=x.2.2.2.2.2.2.1,aG:=({ aq:=x.2.2.2.2.2.2.2.1,am:=x.2.2.2.2.2.2.2.2.1 }:sq) }:cz)
  |21=>λx=>({ az:=({ bP:=x.1,Mem:=x.2.1,bS:=x.2.2.1,bT:=x.2.2.2.1 }:aC),ae:=x.2.2.2.2.1,oO:=x.2.2.2.2.2.1 }:jQ)
  |22=>λx=>({ aT:=x.1,oF:=x.2.1 }:kc)
  |23=>λx=>(x.1,x.2.1,x.2.2.1)
  |24=>λx=>x.1
  |25=>λx=>x.1
  |26=>λx=>({ bK:=x.1,To:=x.2.1,az:=({ bP:=x.2.2.1,Mem:=x.2.2.2.1,bS:=x.2.2.2.2.1,bT:=x.2.2.2.2.2.1 }:aC),ae:=x.2.2.2.2.2.2.1 }:oA)
  |27=>λx=>({ S:=({ am:=x.1,aF:=x.2.1,aq:=x.2.2.1,aO:=x.2.2.2.1,ah:=({ jb:=x.2.2.2.2.1,cH:=x.2.2.2.2.2.1,eR:=x.2.2.2.2.2.2.1,bB:=x.2.2.2.2.2.2.2.1 }:HN),bJ:=x.2.2.2.2.2.2.2.2.1,Mode:=x.2.2.2.2.2.2.2.2.2.1,aj:=x.2.2.2.2.2.2.2.2.2.2.1,gU:=x.2.2.2.2.2.2.2.2.2.2.2.1,aE:=x.2.2.2.2.2.2.2.2.2.2.2.2.1,aW:=x.2.2.2.2.2.2.2.2.2.2.2.2.2.1,cP:=x.2.2.2.2.2.2.2.2.2.2.2.2.2.2.1,In:=x.2.2.2.2.2.2.2.2.2.2.2.2.2.2.2.1,Out:=x.2.2.2.2.2.2.2.2.2.2.2.2.2.2.2.2.1,bI:=x.2.2.2.2.2.2.2.2.2.2.2.2.2.2.2.2.2.1 }:bo),aT:=x.2.2.2.2.2.2.2.2.2.2.2.2.2.2.2.2.2.2.1,L:=x.2.2.2.2.2.2.2.2.2.2.2.2.2.2.2.2.2.2.2.1,ay:=x.2.2.2.2.2.2.2.2.2.2.2.2.2.2.2.2.2.2.2.2.1 }:fo)
  |28=>λx=>({ Part:=x.1,aK:=x.2.1,az:=({ bP:=x.2.2.1,Mem:=x.2.2.2.1,bS:=x.2.2.2.2.1,bT:=x.2.2.2.2.2.1 }:aC),aU:=x.2.2.2.2.2.2.1 }:A_)
  |_+29=>λx=>x.1
 mp:=λi=>match i with
  |0=>λ_=>rfl
  |1=>λ_=>rfl
  |2=>λ_=>rfl
  |3=>λ_=>rfl
  |4=>λ_=>rfl
  |5=>λ_=>rfl
  |6=>λ_=>rfl
  |7=>λ_=>rfl
  |8=>λ_=>rfl
  |9=>λ_=>rfl
  |10=>λ_=>rfl
  |11=>λ_=>rfl
  |12=>λ_=>rfl
  |13=>λ_=>rfl
  |14=>λ_=>rfl
  |15=>λ_=>rfl
  |16=>λ_=>rfl
  |17=>λ_=>rfl
  |18=>λ_=>rfl
  |19=>λ_=>rfl
  |20=>λ_=>rfl
  |21=>λ_=>rfl
  |22=>λ_=>rfl
  |23=>λ_=>rfl
  |24=>λ_=>rfl
  |25=>λ_=>rfl
  |26=>λ_=>rfl
  |27=>λ_=>rfl
  |28=>λ_=>rfl
  |_+29=>λ_=>rfl
 pm:=λi=>match i with
  |0=>λ_=>rfl
  |1=>λ_=>rfl
  |2=>λ_=>rfl
  |3=>λ_=>rfl
  |4=>λ_=>rfl
  |5=>λ_=>rfl
  |6=>λ_=>rfl
  |7=>λ_=>rfl
  |8=>λ_=>rfl
  |9=>λ_=>rfl
  |10=>λ_=>rfl
  |11=>λ_=>rfl
  |12=>λ_=>rfl
  |13=>λ_=>rfl
  |14=>λ_=>rfl
  |15=>λ_=>rfl
  |16=>λ_=>rfl
  |17=>λ_=>rfl
  |18=>λ_=>rfl
  |19=>λ_=>rfl
  |20=>λ_=>rfl
  |21=>λ_=>rfl
  |22=>λ_=>rfl
  |23=>λ_=>rfl
  |24=>λ_=>rfl
  |25=>λ_=>rfl
  |26=>λ_=>rfl
  |27=>λ_=>rfl
  |28=>λ_=>rfl
  |_+29=>λ_=>rfl
 dn:=λi j h=>match i with
  |0=>zt rfl h
  |1=>zt rfl h
  |2=>zt rfl h
  |3=>zt rfl h
  |4=>zt rfl h
  |5=>zt rfl h
  |6=>zt rfl h
  |7=>zt rfl h
  |8=>zt rfl h
  |9=>zt rfl h
  |10=>zt rfl h
  |11=>zt rfl h
  |12=>zt rfl h
  |13=>zt rfl h
  |14=>zt rfl h
  |15=>zt rfl h
  |16=>zt rfl h
  |17=>zt rfl h
  |18=>zt rfl h
  |19=>zt rfl h
  |20=>zt rfl h
  |21=>zt rfl h
  |22=>zt rfl h
  |23=>zt rfl h
  |24=>zt rfl h
  |25=>zt rfl h
  |26=>zt rfl h
  |27=>zt rfl h
  |28=>zt rfl h
  |_+29=>zt rfl h
 ps:=λi=>match i with
  |0=>Nat.succ_pos _
  |1=>Nat.succ_pos _
  |2=>Nat.succ_pos _
  |3=>Nat.succ_pos _
  |4=>Nat.succ_pos _
  |5=>Nat.succ_pos _
  |6=>Nat.succ_pos _
  |7=>Nat.succ_pos _
  |8=>Nat.succ_pos _
  |9=>Nat.succ_pos _
  |10=>Nat.succ_pos _
  |11=>Nat.succ_pos _
  |12=>Nat.succ_pos _
  |13=>Nat.succ_pos _
  |14=>Nat.succ_pos _
  |15=>Nat.succ_pos _
  |16=>Nat.succ_pos _
  |17=>Nat.succ_pos _
  |18=>Nat.succ_pos _
  |19=>Nat.succ_pos _
  |20=>Nat.succ_pos _
  |21=>Nat.succ_pos _
  |22=>Nat.succ_pos _
  |23=>Nat.succ_pos _
  |24=>Nat.succ_pos _
  |25=>Nat.succ_pos _
  |26=>Nat.succ_pos _
  |27=>Nat.succ_pos _
  |28=>Nat.succ_pos _
  |_+29=>Nat.succ_pos _
end Go.Abs
