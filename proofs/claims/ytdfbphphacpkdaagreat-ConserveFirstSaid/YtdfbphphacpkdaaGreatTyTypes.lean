/- The program's types. -/
import Derived.Test.YtdfbphphacpkdaaGreatFwG
set_option linter.all false
set_option maxRecDepth 100000
noncomputable section
namespace Go.Abs
variable[Gl]
@[ext] structure aC where
 bK:Int
 Mem:Int
 bM:Int
 bO:Int
 deriving DecidableEq,Inhabited
def aC.beq(a b:aC):Bool:=(a.bK == b.bK&&(a.Mem == b.Mem&&(a.bM == b.bM&&(a.bO == b.bO&&true))))
@[ext] structure BJ where
 Part:Int
 aR:(List Int)
 jx:Int
 mJ:Int
 im:Int
 fB:Int
 deriving DecidableEq,Inhabited
@[ext] structure JY where
 kN:Int
 cK:Int
 fB:Int
 bI:Int
 deriving DecidableEq,Inhabited
def JY.beq(a b:JY):Bool:=(a.kN == b.kN&&(a.cK == b.cK&&(a.fB == b.fB&&(a.bI == b.bI&&true))))
@[ext] structure bn where
 am:(List aC)
 aG:(List (List Int))
 aq:(List BJ)
 aR:Int
 ai:JY
 bR:Int
 Mode:Int
 aj:Int
 jX:Int
 aF:Int
 bg:Int
 cX:Int
 In:Int
 Out:Int
 bQ:Int
 deriving DecidableEq,Inhabited
@[ext] structure dS where
 bj:Int
 Ok:Bool
 deriving DecidableEq,Inhabited
def dS.beq(a b:dS):Bool:=(a.bj == b.bj&&(a.Ok == b.Ok&&true))
@[ext] structure aM where
 Id:Int
 cU:Int
 Queue:Int
 aK:Int
 ay:aC
 aW:Int
 aI:(List dS)
 State:Int
 Ok:Bool
 dw:Bool
 aO:Int
 dB:Int
 Start:Int
 End:Int
 Array:Int
 deriving DecidableEq,Inhabited
@[ext] structure cW where
 Node:Int
 aK:Int
 deriving DecidableEq,Inhabited
def cW.beq(a b:cW):Bool:=(a.Node == b.Node&&(a.aK == b.aK&&true))
@[ext] structure ca where
 bj:Int
 ay:aC
 ae:(List cW)
 deriving DecidableEq,Inhabited
@[ext] structure lL where
 Id:Int
 Node:Int
 bJ:Int
 To:Int
 deriving DecidableEq,Inhabited
def lL.beq(a b:lL):Bool:=(a.Id == b.Id&&(a.Node == b.Node&&(a.bJ == b.bJ&&(a.To == b.To&&true))))
@[ext] structure rD where
 aq:(List Int)
 am:Int
 deriving DecidableEq,Inhabited
@[ext] structure cw where
 aX:Int
 Next:Int
 dV:Int
 aj:(List aM)
 ah:(List ca)
 az:(List lL)
 nR:(List Int)
 aE:rD
 deriving DecidableEq,Inhabited
@[ext] structure zdC where
 S:bn
 St:cw
 deriving DecidableEq,Inhabited
@[ext] structure BN where
 Na:Int
 Yn:(List aM)
 deriving DecidableEq,Inhabited
@[ext] structure gX where
 bj:Int
 At:Int
 ae:(List cW)
 deriving DecidableEq,Inhabited
@[ext] structure bP where
 At:Int
 cj:aC
 deriving DecidableEq,Inhabited
def bP.beq(a b:bP):Bool:=(a.At == b.At&&(aC.beq a.cj b.cj&&true))
@[ext] structure Af where
 f_now:Int
 QK:(List (List Int))
 QY:(List (List bP))
 deriving DecidableEq,Inhabited
@[ext] structure zbj where
 lu:gX
 dD:aM
 deriving DecidableEq,Inhabited
@[ext] structure fe where
 bj:Int
 pJ:Int
 aI:Int
 deriving DecidableEq,Inhabited
def fe.beq(a b:fe):Bool:=(a.bj == b.bj&&(a.pJ == b.pJ&&(a.aI == b.aI&&true)))
@[ext] structure zen where
 Started:(List gX)
 dm:(List gX)
 Ed:fe
 deriving DecidableEq,Inhabited
@[ext] structure jt where
 ay:aC
 ae:(List cW)
 oK:Int
 deriving DecidableEq,Inhabited
@[ext] structure kj where
 aX:Int
 nR:(List Int)
 deriving DecidableEq,Inhabited
@[ext] structure Ba where
 bJ:Int
 To:Int
 ay:aC
 ae:(List cW)
 deriving DecidableEq,Inhabited
@[ext] structure iE where
 S:bn
 aX:Int
 L:(List Ba)
 az:(List lL)
 deriving DecidableEq,Inhabited
@[ext] structure AI where
 Part:Int
 aK:Int
 ay:aC
 aW:Int
 deriving DecidableEq,Inhabited
def AI.beq(a b:AI):Bool:=(a.Part == b.Part&&(a.aK == b.aK&&(aC.beq a.ay b.ay&&(a.aW == b.aW&&true))))
def tyT:Nat->Type
 |0=>aC
 |1=>Int
 |2=>(List Int)
 |3=>BJ
 |4=>dS
 |5=>aM
 |6=>cW
 |7=>ca
 |8=>lL
 |9=>zdC
 |10=>bn
 |11=>(Int×Int×Int×Int)
 |12=>JY
 |13=>BN
 |14=>gX
 |15=>bP
 |16=>(List bP)
 |17=>Af
 |18=>zbj
 |19=>zen
 |20=>cw
 |21=>jt
 |22=>kj
 |23=>(Int×Int×Int)
 |24=>ByteArray
 |25=>Bool
 |26=>Ba
 |27=>iE
 |28=>AI
 |_=>Bool
def tyF:Nat->List CC
 |0=>[.int .i64,.int .i64,.int .i64,.int .i64]
 |1=>[.int .i64]
 |2=>[.sl 1]
 |3=>[.int .i64,.sl 1,.int .i64,.int .i64,.int .i64,.int .i64]
 |4=>[.int .i64,.bool]
 |5=>[.int .i64,.int .i64,.int .i64,.int .i64,.int .i64,.int .i64,.int .i64,.int .i64,.int .i64,.sl 4,.int .i64,.bool,.bool,.int .i64,.int .i64,.int .i64,.int .i64,.int .i64]
 |6=>[.int .i64,.int .i64]
 |7=>[.int .i64,.int .i64,.int .i64,.int .i64,.int .i64,.sl 6]
 |8=>[.int .i64,.int .i64,.int .i64,.int .i64]
 |9=>[.sl 0,.sl 2,.sl 3,.int .i64,.int .i64,.int .i64,.int .i64,.int .i64,.int .i64,.int .i64,.int .i64,.int .i64,.int .i64,.int .i64,.int .i64,.int .i64,.int .i64,.int .i64,.int .i64,.int .i64,.int .i64,.sl 5,.sl 7,.sl 8,.sl 1,.sl 1,.int .i64]
 |10=>[.sl 0,.sl 2,.sl 3,.int .i64,.int .i64,.int .i64,.int .i64,.int .i64,.int .i64,.int .i64,.int .i64,.int .i64,.int .i64,.int .i64,.int .i64,.int .i64,.int .i64,.int .i64]
 |11=>[.int .i64,.int .i64,.int .i64,.int .i64]
 |12=>[.int .i64,.int .i64,.int .i64,.int .i64]
 |13=>[.int .i64,.sl 5]
 |14=>[.int .i64,.int .i64,.sl 6]
 |15=>[.int .i64,.int .i64,.int .i64,.int .i64,.int .i64]
 |16=>[.sl 15]
 |17=>[.int .i64,.sl 2,.sl 16]
 |18=>[.int .i64,.int .i64,.sl 6,.int .i64,.int .i64,.int .i64,.int .i64,.int .i64,.int .i64,.int .i64,.int .i64,.int .i64,.sl 4,.int .i64,.bool,.bool,.int .i64,.int .i64,.int .i64,.int .i64,.int .i64]
 |19=>[.sl 14,.sl 14,.int .i64,.int .i64,.int .i64]
 |20=>[.int .i64,.int .i64,.int .i64,.sl 5,.sl 7,.sl 8,.sl 1,.sl 1,.int .i64]
 |21=>[.int .i64,.int .i64,.int .i64,.int .i64,.sl 6,.int .i64]
 |22=>[.int .i64,.sl 1]
 |23=>[.int .i64,.int .i64,.int .i64]
 |24=>[.str]
 |25=>[.bool]
 |26=>[.int .i64,.int .i64,.int .i64,.int .i64,.int .i64,.int .i64,.sl 6]
 |27=>[.sl 0,.sl 2,.sl 3,.int .i64,.int .i64,.int .i64,.int .i64,.int .i64,.int .i64,.int .i64,.int .i64,.int .i64,.int .i64,.int .i64,.int .i64,.int .i64,.int .i64,.int .i64,.int .i64,.sl 26,.sl 8]
 |28=>[.int .i64,.int .i64,.int .i64,.int .i64,.int .i64,.int .i64,.int .i64]
 |_=>[.bool]
set_option maxHeartbeats 4000000 in
noncomputable instance ty:Ty where
 T:=tyT
 fl:=tyF
 prj:=λi=>match i with
  |0=>λx=>(x.bK,x.Mem,x.bM,x.bO,())
  |1=>λx=>(x,())
  |2=>λx=>(x,())
  |3=>λx=>(x.Part,x.aR,x.jx,x.mJ,x.im,x.fB,())
  |4=>λx=>(x.bj,x.Ok,())
  |5=>λx=>(x.Id,x.cU,x.Queue,x.aK,x.ay.bK,x.ay.Mem,x.ay.bM,x.ay.bO,x.aW,x.aI,x.State,x.Ok,x.dw,x.aO,x.dB,x.Start,x.End,x.Array,())
  |6=>λx=>(x.Node,x.aK,())
  |7=>λx=>(x.bj,x.ay.bK,x.ay.Mem,x.ay.bM,x.ay.bO,x.ae,())
  |8=>λx=>(x.Id,x.Node,x.bJ,x.To,())
  |9=>λx=>(x.S.am,x.S.aG,x.S.aq,x.S.aR,x.S.ai.kN,x.S.ai.cK,x.S.ai.fB,x.S.ai.bI,x.S.bR,x.S.Mode,x.S.aj,x.S.jX,x.S.aF,x.S.bg,x.S.cX,x.S.In,x.S.Out,x.S.bQ,x.St.aX,x.St.Next,x.St.dV,x.St.aj,x.St.ah,x.St.az,x.St.nR,x.St.aE.aq,x.St.aE.am,())
  |10=>λx=>(x.am,x.aG,x.aq,x.aR,x.ai.kN,x.ai.cK,x.ai.fB,x.ai.bI,x.bR,x.Mode,x.aj,x.jX,x.aF,x.bg,x.cX,x.In,x.Out,x.bQ,())
  |11=>λx=>(x.1,x.2.1,x.2.2.1,x.2.2.2,())
  |12=>λx=>(x.kN,x.cK,x.fB,x.bI,())
  |13=>λx=>(x.Na,x.Yn,())
  |14=>λx=>(x.bj,x.At,x.ae,())
  |15=>λx=>(x.At,x.cj.bK,x.cj.Mem,x.cj.bM,x.cj.bO,())
  |16=>λx=>(x,())
  |17=>λx=>(x.f_now,x.QK,x.QY,())
  |18=>λx=>(x.lu.bj,x.lu.At,x.lu.ae,x.dD.Id,x.dD.cU,x.dD.Queue,x.dD.aK,x.dD.ay.bK,x.dD.ay.Mem,x.dD.ay.bM,x.dD.ay.bO,x.dD.aW,x.dD.aI,x.dD.State,x.dD.Ok,x.dD.dw,x.dD.aO,x.dD.dB,x.dD.Start,x.dD.End,x.dD.Array,())
  |19=>λx=>(x.Started,x.dm,x.Ed.bj,x.Ed.pJ,x.Ed.aI,())
  |20=>λx=>(x.aX,x.Next,x.dV,x.aj,x.ah,x.az,x.nR,x.aE.aq,x.aE.am,())
  |21=>λx=>(x.ay.bK,x.ay.Mem,x.ay.bM,x.ay.bO,x.ae,x.oK,())
  |22=>λx=>(x.aX,x.nR,())
  |23=>λx=>(x.1,x.2.1,x.2.2,())
  |24=>λx=>(x,())
  |25=>λx=>(x,())
  |26=>λx=>(x.bJ,x.To,x.ay.bK,x.ay.Mem,x.ay.bM,x.ay.bO,x.ae,())
  |27=>λx=>(x.S.am,x.S.aG,x.S.aq,x.S.aR,x.S.ai.kN,x.S.ai.cK,x.S.ai.fB,x.S.ai.bI,x.S.bR,x.S.Mode,x.S.aj,x.S.jX,x.S.aF,x.S.bg,x.S.cX,x.S.In,x.S.Out,x.S.bQ,x.aX,x.L,x.az,())
  |28=>λx=>(x.Part,x.aK,x.ay.bK,x.ay.Mem,x.ay.bM,x.ay.bO,x.aW,())
  |_+29=>λx=>(x,())
 mkt:=λi=>match i with
  |0=>λx=>({ bK:=x.1,Mem:=x.2.1,bM:=x.2.2.1,bO:=x.2.2.2.1 }:aC)
  |1=>λx=>x.1
  |2=>λx=>x.1
  |3=>λx=>({ Part:=x.1,aR:=x.2.1,jx:=x.2.2.1,mJ:=x.2.2.2.1,im:=x.2.2.2.2.1,fB:=x.2.2.2.2.2.1 }:BJ)
  |4=>λx=>({ bj:=x.1,Ok:=x.2.1 }:dS)
  |5=>λx=>({ Id:=x.1,cU:=x.2.1,Queue:=x.2.2.1,aK:=x.2.2.2.1,ay:=({ bK:=x.2.2.2.2.1,Mem:=x.2.2.2.2.2.1,bM:=x.2.2.2.2.2.2.1,bO:=x.2.2.2.2.2.2.2.1 }:aC),aW:=x.2.2.2.2.2.2.2.2.1,aI:=x.2.2.2.2.2.2.2.2.2.1,State:=x.2.2.2.2.2.2.2.2.2.2.1,Ok:=x.2.2.2.2.2.2.2.2.2.2.2.1,dw:=x.2.2.2.2.2.2.2.2.2.2.2.2.1,aO:=x.2.2.2.2.2.2.2.2.2.2.2.2.2.1,dB:=x.2.2.2.2.2.2.2.2.2.2.2.2.2.2.1,Start:=x.2.2.2.2.2.2.2.2.2.2.2.2.2.2.2.1,End:=x.2.2.2.2.2.2.2.2.2.2.2.2.2.2.2.2.1,Array:=x.2.2.2.2.2.2.2.2.2.2.2.2.2.2.2.2.2.1 }:aM)
  |6=>λx=>({ Node:=x.1,aK:=x.2.1 }:cW)
  |7=>λx=>({ bj:=x.1,ay:=({ bK:=x.2.1,Mem:=x.2.2.1,bM:=x.2.2.2.1,bO:=x.2.2.2.2.1 }:aC),ae:=x.2.2.2.2.2.1 }:ca)
  |8=>λx=>({ Id:=x.1,Node:=x.2.1,bJ:=x.2.2.1,To:=x.2.2.2.1 }:lL)
  |9=>λx=>({ S:=({ am:=x.1,aG:=x.2.1,aq:=x.2.2.1,aR:=x.2.2.2.1,ai:=({ kN:=x.2.2.2.2.1,cK:=x.2.2.2.2.2.1,fB:=x.2.2.2.2.2.2.1,bI:=x.2.2.2.2.2.2.2.1 }:JY),bR:=x.2.2.2.2.2.2.2.2.1,Mode:=x.2.2.2.2.2.2.2.2.2.1,aj:=x.2.2.2.2.2.2.2.2.2.2.1,jX:=x.2.2.2.2.2.2.2.2.2.2.2.1,aF:=x.2.2.2.2.2.2.2.2.2.2.2.2.1,bg:=x.2.2.2.2.2.2.2.2.2.2.2.2.2.1,cX:=x.2.2.2.2.2.2.2.2.2.2.2.2.2.2.1,In:=x.2.2.2.2.2.2.2.2.2.2.2.2.2.2.2.1,Out:=x.2.2.2.2.2.2.2.2.2.2.2.2.2.2.2.2.1,bQ:=x.2.2.2.2.2.2.2.2.2.2.2.2.2.2.2.2.2.1 }:bn),St:=({ aX:=x.2.2.2.2.2.2.2.2.2.2.2.2.2.2.2.2.2.2.1,Next:=x.2.2.2.2.2.2.2.2.2.2.2.2.2.2.2.2.2.2.2.1,dV:=x.2.2.2.2.2.2.2.2.2.2.2.2.2.2.2.2.2.2.2.2.1,aj:=x.2.2.2.2.2.2.2.2.2.2.2.2.2.2.2.2.2.2.2.2.2.1,ah:=x.2.2.2.2.2.2.2.2.2.2.2.2.2.2.2.2.2.2.2.2.2.2.1,az:=x.2.2.2.2.2.2.2.2.2.2.2.2.2.2.2.2.2.2.2.2.2.2.2.1,nR:=x.2.2.2.2.2.2.2.2.2.2.2.2.2.2.2.2.2.2.2.2.2.2.2.2.1,aE:=({ aq:=x.2.2.2.2.2.2.2.2.2.2.2.2.2.2.2.2.2.2.2.2.2.2.2.2.2.1,am:=x.2.2.2.2.2.2.2.2.2.2.2.2.2.2.2.2.2.2.2.2.2.2.2.2.2.2.1 }:rD) }:cw) }:zdC)
  |10=>λx=>({ am:=x.1,aG:=x.2.1,aq:=x.2.2.1,aR:=x.2.2.2.1,ai:=({ kN:=x.2.2.2.2.1,cK:=x.2.2.2.2.2.1,fB:=x.2.2.2.2.2.2.1,bI:=x.2.2.2.2.2.2.2.1 }:JY),bR:=x.2.2.2.2.2.2.2.2.1,Mode:=x.2.2.2.2.2.2.2.2.2.1,aj:=x.2.2.2.2.2.2.2.2.2.2.1,jX:=x.2.2.2.2.2.2.2.2.2.2.2.1,aF:=x.2.2.2.2.2.2.2.2.2.2.2.2.1,bg:=x.2.2.2.2.2.2.2.2.2.2.2.2.2.1,cX:=x.2.2.2.2.2.2.2.2.2.2.2.2.2.2.1,In:=x.2.2.2.2.2.2.2.2.2.2.2.2.2.2.2.1,Out:=x.2.2.2.2.2.2.2.2.2.2.2.2.2.2.2.2.1,bQ:=x.2.2.2.2.2.2.2.2.2.2.2.2.2.2.2.2.2.1 }:bn)
  |11=>λx=>(x.1,x.2.1,x.2.2.1,x.2.2.2.1)
  |12=>λx=>({ kN:=x.1,cK:=x.2.1,fB:=x.2.2.1,bI:=x.2.2.2.1 }:JY)
  |13=>λx=>({ Na:=x.1,Yn:=x.2.1 }:BN)
  |14=>λx=>({ bj:=x.1,At:=x.2.1,ae:=x.2.2.1 }:gX)
  |15=>λx=>({ At:=x.1,cj:=({ bK:=x.2.1,Mem:=x.2.2.1,bM:=x.2.2.2.1,bO:=x.2.2.2.2.1 }:aC) }:bP)
  |16=>λx=>x.1
  |17=>λx=>({ f_now:=x.1,QK:=x.2.1,QY:=x.2.2.1 }:Af)
  |18=>λx=>({ lu:=({ bj:=x.1,At:=x.2.1,ae:=x.2.2.1 }:gX),dD:=({ Id:=x.2.2.2.1,cU:=x.2.2.2.2.1,Queue:=x.2.2.2.2.2.1,aK:=x.2.2.2.2.2.2.1,ay:=({ bK:=x.2.2.2.2.2.2.2.1,Mem:=x.2.2.2.2.2.2.2.2.1,bM:=x.2.2.2.2.2.2.2.2.2.1,bO:=x.2.2.2.2.2.2.2.2.2.2.1 }:aC),aW:=x.2.2.2.2.2.2.2.2.2.2.2.1,aI:=x.2.2.2.2.2.2.2.2.2.2.2.2.1,State:=x.2.2.2.2.2.2.2.2.2.2.2.2.2.1,Ok:=x.2.2.2.2.2.2.2.2.2.2.2.2.2.2.1,dw:=x.2.2.2.2.2.2.2.2.2.2.2.2.2.2.2.1,aO:=x.2.2.2.2.2.2.2.2.2.2.2.2.2.2.2.2.1,dB:=x.2.2.2.2.2.2.2.2.2.2.2.2.2.2.2.2.2.1,Start:=x.2.2.2.2.2.2.2.2.2.2.2.2.2.2.2.2.2.2.1,End:=x.2.2.2.2.2.2.2.2.2.2.2.2.2.2.2.2.2.2.2.1,Array:=x.2.2.2.2.2.2.2.2.2.2.2.2.2.2.2.2.2.2.2.2.1 }:aM) }:zbj)
  |19=>λx=>({ Started:=x.1,dm:=x.2.1,Ed:=({ bj:=x.2.2.1,pJ:=x.2.2.2.1,aI:=x.2.2.2.2.1 }:fe) }:zen)
  |20=>λx=>({ aX:=x.1,Next:=x.2.1,dV:=x.2.2.1,aj:=x.2.2.2.1,ah:=x.2.2.2.2.1,az:=x.2.2.2.2.2.1,nR:=x.2.2.2.2.2.2.1,aE:=({ aq:=x.2.2.2.2.2.2.2.1,am:=x.2.2.2.2.2.2.2.2.1 }:rD) }:cw)
  |21=>λx=>({ ay:=({ bK:=x.1,Mem:=x.2.1,bM:=x.2.2.1,bO:=x.2.2.2.1 }:aC),ae:=x.2.2.2.2.1,oK:=x.2.2.2.2.2.1 }:jt)
  |22=>λx=>({ aX:=x.1,nR:=x.2.1 }:kj)
  |23=>λx=>(x.1,x.2.1,x.2.2.1)
  |24=>λx=>x.1
  |25=>λx=>x.1
  |26=>λx=>({ bJ:=x.1,To:=x.2.1,ay:=({ bK:=x.2.2.1,Mem:=x.2.2.2.1,bM:=x.2.2.2.2.1,bO:=x.2.2.2.2.2.1 }:aC),ae:=x.2.2.2.2.2.2.1 }:Ba)
  |27=>λx=>({ S:=({ am:=x.1,aG:=x.2.1,aq:=x.2.2.1,aR:=x.2.2.2.1,ai:=({ kN:=x.2.2.2.2.1,cK:=x.2.2.2.2.2.1,fB:=x.2.2.2.2.2.2.1,bI:=x.2.2.2.2.2.2.2.1 }:JY),bR:=x.2.2.2.2.2.2.2.2.1,Mode:=x.2.2.2.2.2.2.2.2.2.1,aj:=x.2.2.2.2.2.2.2.2.2.2.1,jX:=x.2.2.2.2.2.2.2.2.2.2.2.1,aF:=x.2.2.2.2.2.2.2.2.2.2.2.2.1,bg:=x.2.2.2.2.2.2.2.2.2.2.2.2.2.1,cX:=x.2.2.2.2.2.2.2.2.2.2.2.2.2.2.1,In:=x.2.2.2.2.2.2.2.2.2.2.2.2.2.2.2.1,Out:=x.2.2.2.2.2.2.2.2.2.2.2.2.2.2.2.2.1,bQ:=x.2.2.2.2.2.2.2.2.2.2.2.2.2.2.2.2.2.1 }:bn),aX:=x.2.2.2.2.2.2.2.2.2.2.2.2.2.2.2.2.2.2.1,L:=x.2.2.2.2.2.2.2.2.2.2.2.2.2.2.2.2.2.2.2.1,az:=x.2.2.2.2.2.2.2.2.2.2.2.2.2.2.2.2.2.2.2.2.1 }:iE)
  |28=>λx=>({ Part:=x.1,aK:=x.2.1,ay:=({ bK:=x.2.2.1,Mem:=x.2.2.2.1,bM:=x.2.2.2.2.1,bO:=x.2.2.2.2.2.1 }:aC),aW:=x.2.2.2.2.2.2.1 }:AI)
  |_+29=>λx=>x.1
 mp:=λi=>match i with
  |0=>λ_=>rfl
  |1=>λ_=>rfl
  |2=>λ_=>rfl
  |3=>λ_=>rfl
  |4=>λ_=>rfl
  |5=>λ_=>rfl
  |6=>λ_=>rfl
  |7=>λ_=>rfl
  |8=>λ_=>rfl
  |9=>λ_=>rfl
  |10=>λ_=>rfl
  |11=>λ_=>rfl
  |12=>λ_=>rfl
  |13=>λ_=>rfl
  |14=>λ_=>rfl
  |15=>λ_=>rfl
  |16=>λ_=>rfl
  |17=>λ_=>rfl
  |18=>λ_=>rfl
  |19=>λ_=>rfl
  |20=>λ_=>rfl
  |21=>λ_=>rfl
  |22=>λ_=>rfl
  |23=>λ_=>rfl
  |24=>λ_=>rfl
  |25=>λ_=>rfl
  |26=>λ_=>rfl
  |27=>λ_=>rfl
  |28=>λ_=>rfl
  |_+29=>λ_=>rfl
 pm:=λi=>match i with
  |0=>λ_=>rfl
  |1=>λ_=>rfl
  |2=>λ_=>rfl
  |3=>λ_=>rfl
  |4=>λ_=>rfl
  |5=>λ_=>rfl
  |6=>λ_=>rfl
  |7=>λ_=>rfl
  |8=>λ_=>rfl
  |9=>λ_=>rfl
  |10=>λ_=>rfl
  |11=>λ_=>rfl
  |12=>λ_=>rfl
  |13=>λ_=>rfl
  |14=>λ_=>rfl
  |15=>λ_=>rfl
  |16=>λ_=>rfl
  |17=>λ_=>rfl
  |18=>λ_=>rfl
  |19=>λ_=>rfl
  |20=>λ_=>rfl
  |21=>λ_=>rfl
  |22=>λ_=>rfl
  |23=>λ_=>rfl
  |24=>λ_=>rfl
  |25=>λ_=>rfl
  |26=>λ_=>rfl
  |27=>λ_=>rfl
  |28=>λ_=>rfl
  |_+29=>λ_=>rfl
 dn:=λi j h=>match i with
  |0=>yM rfl h
  |1=>yM rfl h
  |2=>yM rfl h
  |3=>yM rfl h
  |4=>yM rfl h
  |5=>yM rfl h
  |6=>yM rfl h
  |7=>yM rfl h
  |8=>yM rfl h
  |9=>yM rfl h
  |10=>yM rfl h
  |11=>yM rfl h
  |12=>yM rfl h
  |13=>yM rfl h
  |14=>yM rfl h
  |15=>yM rfl h
  |16=>yM rfl h
  |17=>yM rfl h
  |18=>yM rfl h
  |19=>yM rfl h
  |20=>yM rfl h
  |21=>yM rfl h
  |22=>yM rfl h
  |23=>yM rfl h
  |24=>yM rfl h
  |25=>yM rfl h
  |26=>yM rfl h
  |27=>yM rfl h
  |28=>yM rfl h
  |_+29=>yM rfl h
 ps:=λi=>match i with
  |0=>Nat.succ_pos _
  |1=>Nat.succ_pos _
  |2=>Nat.succ_pos _
  |3=>Nat.succ_pos _
  |4=>Nat.succ_pos _
  |5=>Nat.succ_pos _
  |6=>Nat.succ_pos _
  |7=>Nat.succ_pos _
  |8=>Nat.succ_pos _
  |9=>Nat.succ_pos _
  |10=>Nat.succ_pos _
  |11=>Nat.succ_pos _
  |12=>Nat.succ_pos _
  |13=>Nat.succ_pos _
  |14=>Nat.succ_pos _
  |15=>Nat.succ_pos _
  |16=>Nat.succ_pos _
  |17=>Nat.succ_pos _
  |18=>Nat.succ_pos _
  |19=>Nat.succ_pos _
  |20=>Nat.succ_pos _
  |21=>Nat.succ_pos _
  |22=>Nat.succ_pos _
  |23=>Nat.succ_pos _
  |24=>Nat.succ_pos _
  |25=>Nat.succ_pos _
  |26=>Nat.succ_pos _
  |27=>Nat.succ_pos _
  |28=>Nat.succ_pos _
  |_+29=>Nat.succ_pos _
end Go.Abs
