/- The program's types. -/
import Derived.Test.YtdfbphphacpkdaaGreatFwG
set_option linter.all false
set_option maxRecDepth 100000
noncomputable section
namespace Go.Abs
variable[Gl]
@[ext] structure aE where
 bL:Int
 Mem:Int
 bO:Int
 bR:Int
 deriving DecidableEq,Inhabited
def aE.beq(a b:aE):Bool:=(a.bL == b.bL&&(a.Mem == b.Mem&&(a.bO == b.bO&&(a.bR == b.bR&&true))))
@[ext] structure Ce where
 Part:Int
 aU:(List Int)
 jG:Int
 jp:Int
 eV:Int
 gy:Int
 deriving DecidableEq,Inhabited
@[ext] structure Kw where
 nV:Int
 cZ:Int
 gy:Int
 bZ:Int
 deriving DecidableEq,Inhabited
def Kw.beq(a b:Kw):Bool:=(a.nV == b.nV&&(a.cZ == b.cZ&&(a.gy == b.gy&&(a.bZ == b.bZ&&true))))
@[ext] structure bm where
 am:(List aE)
 aH:(List (List Int))
 aj:(List Ce)
 aU:Int
 aq:Kw
 cr:Int
 Mode:Int
 ai:Int
 lc:Int
 aI:Int
 bx:Int
 dw:Int
 In:Int
 Out:Int
 cq:Int
 deriving DecidableEq,Inhabited
@[ext] structure Of where
 aV:Int
 Ok:Bool
 deriving DecidableEq,Inhabited
def Of.beq(a b:Of):Bool:=(a.aV == b.aV&&(a.Ok == b.Ok&&true))
@[ext] structure aK where
 Id:Int
 cw:Int
 Queue:Int
 aL:Int
 az:aE
 aW:Int
 aF:(List Of)
 State:Int
 Ok:Bool
 dt:Bool
 aN:Int
 dy:Int
 Start:Int
 End:Int
 Array:Int
 deriving DecidableEq,Inhabited
@[ext] structure cV where
 Node:Int
 aL:Int
 deriving DecidableEq,Inhabited
def cV.beq(a b:cV):Bool:=(a.Node == b.Node&&(a.aL == b.aL&&true))
@[ext] structure bF where
 aV:Int
 az:aE
 ae:(List cV)
 deriving DecidableEq,Inhabited
@[ext] structure gM where
 Id:Int
 Node:Int
 bN:Int
 To:Int
 deriving DecidableEq,Inhabited
def gM.beq(a b:gM):Bool:=(a.Id == b.Id&&(a.Node == b.Node&&(a.bN == b.bN&&(a.To == b.To&&true))))
@[ext] structure Vy where
 aj:(List Int)
 am:Int
 deriving DecidableEq,Inhabited
@[ext] structure cf where
 aR:Int
 Next:Int
 cX:Int
 ai:(List aK)
 ah:(List bF)
 ay:(List gM)
 gF:(List Int)
 aA:Vy
 deriving DecidableEq,Inhabited
@[ext] structure zdQ where
 S:bm
 St:cf
 deriving DecidableEq,Inhabited
@[ext] structure BY where
 NR:Int
 XG:(List aK)
 deriving DecidableEq,Inhabited
@[ext] structure gS where
 aV:Int
 At:Int
 ae:(List cV)
 deriving DecidableEq,Inhabited
@[ext] structure bW where
 At:Int
 cu:aE
 deriving DecidableEq,Inhabited
def bW.beq(a b:bW):Bool:=(a.At == b.At&&(aE.beq a.cu b.cu&&true))
@[ext] structure Ad where
 f_now:Int
 SS:(List (List Int))
 Sz:(List (List bW))
 deriving DecidableEq,Inhabited
@[ext] structure zbm where
 kZ:gS
 dF:aK
 deriving DecidableEq,Inhabited
@[ext] structure VD where
 aV:Int
 mh:Int
 aF:Int
 deriving DecidableEq,Inhabited
def VD.beq(a b:VD):Bool:=(a.aV == b.aV&&(a.mh == b.mh&&(a.aF == b.aF&&true)))
@[ext] structure zet where
 Started:(List gS)
 eR:(List gS)
 Cu:VD
 deriving DecidableEq,Inhabited
@[ext] structure jy where
 az:aE
 ae:(List cV)
 ou:Int
 deriving DecidableEq,Inhabited
@[ext] structure kf where
 aR:Int
 gF:(List Int)
 deriving DecidableEq,Inhabited
@[ext] structure Bf where
 bN:Int
 To:Int
 az:aE
 ae:(List cV)
 deriving DecidableEq,Inhabited
@[ext] structure iB where
 S:bm
 aR:Int
 L:(List Bf)
 ay:(List gM)
 deriving DecidableEq,Inhabited
@[ext] structure AM where
 Part:Int
 aL:Int
 az:aE
 aW:Int
 deriving DecidableEq,Inhabited
def AM.beq(a b:AM):Bool:=(a.Part == b.Part&&(a.aL == b.aL&&(aE.beq a.az b.az&&(a.aW == b.aW&&true))))
def tyT:Nat->Type
 |0=>aE
 |1=>Int
 |2=>(List Int)
 |3=>Ce
 |4=>Of
 |5=>aK
 |6=>cV
 |7=>bF
 |8=>gM
 |9=>zdQ
 |10=>bm
 |11=>(Int×Int×Int×Int)
 |12=>Kw
 |13=>BY
 |14=>gS
 |15=>bW
 |16=>(List bW)
 |17=>Ad
 |18=>zbm
 |19=>zet
 |20=>cf
 |21=>jy
 |22=>kf
 |23=>(Int×Int×Int)
 |24=>ByteArray
 |25=>Bool
 |26=>(Int×Int)
 |27=>Bf
 |28=>iB
 |29=>AM
 |_=>Bool
def tyF:Nat->List CC
 |0=>[.int .i64,.int .i64,.int .i64,.int .i64]
 |1=>[.int .i64]
 |2=>[.sl 1]
 |3=>[.int .i64,.sl 1,.int .i64,.int .i64,.int .i64,.int .i64]
 |4=>[.int .i64,.bool]
 |5=>[.int .i64,.int .i64,.int .i64,.int .i64,.int .i64,.int .i64,.int .i64,.int .i64,.int .i64,.sl 4,.int .i64,.bool,.bool,.int .i64,.int .i64,.int .i64,.int .i64,.int .i64]
 |6=>[.int .i64,.int .i64]
 |7=>[.int .i64,.int .i64,.int .i64,.int .i64,.int .i64,.sl 6]
 |8=>[.int .i64,.int .i64,.int .i64,.int .i64]
 |9=>[.sl 0,.sl 2,.sl 3,.int .i64,.int .i64,.int .i64,.int .i64,.int .i64,.int .i64,.int .i64,.int .i64,.int .i64,.int .i64,.int .i64,.int .i64,.int .i64,.int .i64,.int .i64,.int .i64,.int .i64,.int .i64,.sl 5,.sl 7,.sl 8,.sl 1,.sl 1,.int .i64]
 |10=>[.sl 0,.sl 2,.sl 3,.int .i64,.int .i64,.int .i64,.int .i64,.int .i64,.int .i64,.int .i64,.int .i64,.int .i64,.int .i64,.int .i64,.int .i64,.int .i64,.int .i64,.int .i64]
 |11=>[.int .i64,.int .i64,.int .i64,.int .i64]
 |12=>[.int .i64,.int .i64,.int .i64,.int .i64]
 |13=>[.int .i64,.sl 5]
 |14=>[.int .i64,.int .i64,.sl 6]
 |15=>[.int .i64,.int .i64,.int .i64,.int .i64,.int .i64]
 |16=>[.sl 15]
 |17=>[.int .i64,.sl 2,.sl 16]
 |18=>[.int .i64,.int .i64,.sl 6,.int .i64,.int .i64,.int .i64,.int .i64,.int .i64,.int .i64,.int .i64,.int .i64,.int .i64,.sl 4,.int .i64,.bool,.bool,.int .i64,.int .i64,.int .i64,.int .i64,.int .i64]
 |19=>[.sl 14,.sl 14,.int .i64,.int .i64,.int .i64]
 |20=>[.int .i64,.int .i64,.int .i64,.sl 5,.sl 7,.sl 8,.sl 1,.sl 1,.int .i64]
 |21=>[.int .i64,.int .i64,.int .i64,.int .i64,.sl 6,.int .i64]
 |22=>[.int .i64,.sl 1]
 |23=>[.int .i64,.int .i64,.int .i64]
 |24=>[.str]
 |25=>[.bool]
 |26=>[.int .i64,.int .i64]
 |27=>[.int .i64,.int .i64,.int .i64,.int .i64,.int .i64,.int .i64,.sl 6]
 |28=>[.sl 0,.sl 2,.sl 3,.int .i64,.int .i64,.int .i64,.int .i64,.int .i64,.int .i64,.int .i64,.int .i64,.int .i64,.int .i64,.int .i64,.int .i64,.int .i64,.int .i64,.int .i64,.int .i64,.sl 27,.sl 8]
 |29=>[.int .i64,.int .i64,.int .i64,.int .i64,.int .i64,.int .i64,.int .i64]
 |_=>[.bool]
set_option maxHeartbeats 4000000 in
noncomputable instance ty:Ty where
 T:=tyT
 fl:=tyF
 prj:=λi=>match i with
  |0=>λx=>(x.bL,x.Mem,x.bO,x.bR,())
  |1=>λx=>(x,())
  |2=>λx=>(x,())
  |3=>λx=>(x.Part,x.aU,x.jG,x.jp,x.eV,x.gy,())
  |4=>λx=>(x.aV,x.Ok,())
  |5=>λx=>(x.Id,x.cw,x.Queue,x.aL,x.az.bL,x.az.Mem,x.az.bO,x.az.bR,x.aW,x.aF,x.State,x.Ok,x.dt,x.aN,x.dy,x.Start,x.End,x.Array,())
  |6=>λx=>(x.Node,x.aL,())
  |7=>λx=>(x.aV,x.az.bL,x.az.Mem,x.az.bO,x.az.bR,x.ae,())
  |8=>λx=>(x.Id,x.Node,x.bN,x.To,())
  |9=>λx=>(x.S.am,x.S.aH,x.S.aj,x.S.aU,x.S.aq.nV,x.S.aq.cZ,x.S.aq.gy,x.S.aq.bZ,x.S.cr,x.S.Mode,x.S.ai,x.S.lc,x.S.aI,x.S.bx,x.S.dw,x.S.In,x.S.Out,x.S.cq,x.St.aR,x.St.Next,x.St.cX,x.St.ai,x.St.ah,x.St.ay,x.St.gF,x.St.aA.aj,x.St.aA.am,())
  |10=>λx=>(x.am,x.aH,x.aj,x.aU,x.aq.nV,x.aq.cZ,x.aq.gy,x.aq.bZ,x.cr,x.Mode,x.ai,x.lc,x.aI,x.bx,x.dw,x.In,x.Out,x.cq,())
  |11=>λx=>(x.1,x.2.1,x.2.2.1,x.2.2.2,())
  |12=>λx=>(x.nV,x.cZ,x.gy,x.bZ,())
  |13=>λx=>(x.NR,x.XG,())
  |14=>λx=>(x.aV,x.At,x.ae,())
  |15=>λx=>(x.At,x.cu.bL,x.cu.Mem,x.cu.bO,x.cu.bR,())
  |16=>λx=>(x,())
  |17=>λx=>(x.f_now,x.SS,x.Sz,())
  |18=>λx=>(x.kZ.aV,x.kZ.At,x.kZ.ae,x.dF.Id,x.dF.cw,x.dF.Queue,x.dF.aL,x.dF.az.bL,x.dF.az.Mem,x.dF.az.bO,x.dF.az.bR,x.dF.aW,x.dF.aF,x.dF.State,x.dF.Ok,x.dF.dt,x.dF.aN,x.dF.dy,x.dF.Start,x.dF.End,x.dF.Array,())
  |19=>λx=>(x.Started,x.eR,x.Cu.aV,x.Cu.mh,x.Cu.aF,())
  |20=>λx=>(x.aR,x.Next,x.cX,x.ai,x.ah,x.ay,x.gF,x.aA.aj,x.aA.am,())
  |21=>λx=>(x.az.bL,x.az.Mem,x.az.bO,x.az.bR,x.ae,x.ou,())
  |22=>λx=>(x.aR,x.gF,())
  |23=>λx=>(x.1,x.2.1,x.2.2,())
  |24=>λx=>(x,())
  |25=>λx=>(x,())
  |26=>λx=>(x.1,x.2,())
  |27=>λx=>(x.bN,x.To,x.az.bL,x.az.Mem,x.az.bO,x.az.bR,x.ae,())
  |28=>λx=>(x.S.am,x.S.aH,x.S.aj,x.S.aU,x.S.aq.nV,x.S.aq.cZ,x.S.aq.gy,x.S.aq.bZ,x.S.cr,x.S.Mode,x.S.ai,x.S.lc,x.S.aI,x.S.bx,x.S.dw,x.S.In,x.S.Out,x.S.cq,x.aR,x.L,x.ay,())
  |29=>λx=>(x.Part,x.aL,x.az.bL,x.az.Mem,x.az.bO,x.az.bR,x.aW,())
  |_+30=>λx=>(x,())
 mkt:=λi=>match i with
  |0=>λx=>({ bL:=x.1,Mem:=x.2.1,bO:=x.2.2.1,bR:=x.2.2.2.1 }:aE)
  |1=>λx=>x.1
  |2=>λx=>x.1
  |3=>λx=>({ Part:=x.1,aU:=x.2.1,jG:=x.2.2.1,jp:=x.2.2.2.1,eV:=x.2.2.2.2.1,gy:=x.2.2.2.2.2.1 }:Ce)
  |4=>λx=>({ aV:=x.1,Ok:=x.2.1 }:Of)
  |5=>λx=>({ Id:=x.1,cw:=x.2.1,Queue:=x.2.2.1,aL:=x.2.2.2.1,az:=({ bL:=x.2.2.2.2.1,Mem:=x.2.2.2.2.2.1,bO:=x.2.2.2.2.2.2.1,bR:=x.2.2.2.2.2.2.2.1 }:aE),aW:=x.2.2.2.2.2.2.2.2.1,aF:=x.2.2.2.2.2.2.2.2.2.1,State:=x.2.2.2.2.2.2.2.2.2.2.1,Ok:=x.2.2.2.2.2.2.2.2.2.2.2.1,dt:=x.2.2.2.2.2.2.2.2.2.2.2.2.1,aN:=x.2.2.2.2.2.2.2.2.2.2.2.2.2.1,dy:=x.2.2.2.2.2.2.2.2.2.2.2.2.2.2.1,Start:=x.2.2.2.2.2.2.2.2.2.2.2.2.2.2.2.1,End:=x.2.2.2.2.2.2.2.2.2.2.2.2.2.2.2.2.1,Array:=x.2.2.2.2.2.2.2.2.2.2.2.2.2.2.2.2.2.1 }:aK)
  |6=>λx=>({ Node:=x.1,aL:=x.2.1 }:cV)
  |7=>λx=>({ aV:=x.1,az:=({ bL:=x.2.1,Mem:=x.2.2.1,bO:=x.2.2.2.1,bR:=x.2.2.2.2.1 }:aE),ae:=x.2.2.2.2.2.1 }:bF)
  |8=>λx=>({ Id:=x.1,Node:=x.2.1,bN:=x.2.2.1,To:=x.2.2.2.1 }:gM)
  |9=>λx=>({ S:=({ am:=x.1,aH:=x.2.1,aj:=x.2.2.1,aU:=x.2.2.2.1,aq:=({ nV:=x.2.2.2.2.1,cZ:=x.2.2.2.2.2.1,gy:=x.2.2.2.2.2.2.1,bZ:=x.2.2.2.2.2.2.2.1 }:Kw),cr:=x.2.2.2.2.2.2.2.2.1,Mode:=x.2.2.2.2.2.2.2.2.2.1,ai:=x.2.2.2.2.2.2.2.2.2.2.1,lc:=x.2.2.2.2.2.2.2.2.2.2.2.1,aI:=x.2.2.2.2.2.2.2.2.2.2.2.2.1,bx:=x.2.2.2.2.2.2.2.2.2.2.2.2.2.1,dw:=x.2.2.2.2.2.2.2.2.2.2.2.2.2.2.1,In:=x.2.2.2.2.2.2.2.2.2.2.2.2.2.2.2.1,Out:=x.2.2.2.2.2.2.2.2.2.2.2.2.2.2.2.2.1,cq:=x.2.2.2.2.2.2.2.2.2.2.2.2.2.2.2.2.2.1 }:bm),St:=({ aR:=x.2.2.2.2.2.2.2.2.2.2.2.2.2.2.2.2.2.2.1,Next:=x.2.2.2.2.2.2.2.2.2.2.2.2.2.2.2.2.2.2.2.1,cX:=x.2.2.2.2.2.2.2.2.2.2.2.2.2.2.2.2.2.2.2.2.1,ai:=x.2.2.2.2.2.2.2.2.2.2.2.2.2.2.2.2.2.2.2.2.2.1,ah:=x.2.2.2.2.2.2.2.2.2.2.2.2.2.2.2.2.2.2.2.2.2.2.1,ay:=x.2.2.2.2.2.2.2.2.2.2.2.2.2.2.2.2.2.2.2.2.2.2.2.1,gF:=x.2.2.2.2.2.2.2.2.2.2.2.2.2.2.2.2.2.2.2.2.2.2.2.2.1,aA:=({ aj:=x.2.2.2.2.2.2.2.2.2.2.2.2.2.2.2.2.2.2.2.2.2.2.2.2.2.1,am:=x.2.2.2.2.2.2.2.2.2.2.2.2.2.2.2.2.2.2.2.2.2.2.2.2.2.2.1 }:Vy) }:cf) }:zdQ)
  |10=>λx=>({ am:=x.1,aH:=x.2.1,aj:=x.2.2.1,aU:=x.2.2.2.1,aq:=({ nV:=x.2.2.2.2.1,cZ:=x.2.2.2.2.2.1,gy:=x.2.2.2.2.2.2.1,bZ:=x.2.2.2.2.2.2.2.1 }:Kw),cr:=x.2.2.2.2.2.2.2.2.1,Mode:=x.2.2.2.2.2.2.2.2.2.1,ai:=x.2.2.2.2.2.2.2.2.2.2.1,lc:=x.2.2.2.2.2.2.2.2.2.2.2.1,aI:=x.2.2.2.2.2.2.2.2.2.2.2.2.1,bx:=x.2.2.2.2.2.2.2.2.2.2.2.2.2.1,dw:=x.2.2.2.2.2.2.2.2.2.2.2.2.2.2.1,In:=x.2.2.2.2.2.2.2.2.2.2.2.2.2.2.2.1,Out:=x.2.2.2.2.2.2.2.2.2.2.2.2.2.2.2.2.1,cq:=x.2.2.2.2.2.2.2.2.2.2.2.2.2.2.2.2.2.1 }:bm)
  |11=>λx=>(x.1,x.2.1,x.2.2.1,x.2.2.2.1)
  |12=>λx=>({ nV:=x.1,cZ:=x.2.1,gy:=x.2.2.1,bZ:=x.2.2.2.1 }:Kw)
  |13=>λx=>({ NR:=x.1,XG:=x.2.1 }:BY)
  |14=>λx=>({ aV:=x.1,At:=x.2.1,ae:=x.2.2.1 }:gS)
  |15=>λx=>({ At:=x.1,cu:=({ bL:=x.2.1,Mem:=x.2.2.1,bO:=x.2.2.2.1,bR:=x.2.2.2.2.1 }:aE) }:bW)
  |16=>λx=>x.1
  |17=>λx=>({ f_now:=x.1,SS:=x.2.1,Sz:=x.2.2.1 }:Ad)
  |18=>λx=>({ kZ:=({ aV:=x.1,At:=x.2.1,ae:=x.2.2.1 }:gS),dF:=({ Id:=x.2.2.2.1,cw:=x.2.2.2.2.1,Queue:=x.2.2.2.2.2.1,aL:=x.2.2.2.2.2.2.1,az:=({ bL:=x.2.2.2.2.2.2.2.1,Mem:=x.2.2.2.2.2.2.2.2.1,bO:=x.2.2.2.2.2.2.2.2.2.1,bR:=x.2.2.2.2.2.2.2.2.2.2.1 }:aE),aW:=x.2.2.2.2.2.2.2.2.2.2.2.1,aF:=x.2.2.2.2.2.2.2.2.2.2.2.2.1,State:=x.2.2.2.2.2.2.2.2.2.2.2.2.2.1,Ok:=x.2.2.2.2.2.2.2.2.2.2.2.2.2.2.1,dt:=x.2.2.2.2.2.2.2.2.2.2.2.2.2.2.2.1,aN:=x.2.2.2.2.2.2.2.2.2.2.2.2.2.2.2.2.1,dy:=x.2.2.2.2.2.2.2.2.2.2.2.2.2.2.2.2.2.1,Start:=x.2.2.2.2.2.2.2.2.2.2.2.2.2.2.2.2.2.2.1,End:=x.2.2.2.2.2.2.2.2.2.2.2.2.2.2.2.2.2.2.2.1,Array:=x.2.2.2.2.2.2.2.2.2.2.2.2.2.2.2.2.2.2.2.2.1 }:aK) }:zbm)
  |19=>λx=>({ Started:=x.1,eR:=x.2.1,Cu:=({ aV:=x.2.2.1,mh:=x.2.2.2.1,aF:=x.2.2.2.2.1 }:VD) }:zet)
  |20=>λx=>({ aR:=x.1,Next:=x.2.1,cX:=x.2.2.1,ai:=x.2.2.2.1,ah:=x.2.2.2.2.1,ay:=x.2.2.2.2.2.1,gF:=x.2.2.2.2.2.2.1,aA:=({ aj:=x.2.2.2.2.2.2.2.1,am:=x.2.2.2.2.2.2.2.2.1 }:Vy) }:cf)
  |21=>λx=>({ az:=({ bL:=x.1,Mem:=x.2.1,bO:=x.2.2.1,bR:=x.2.2.2.1 }:aE),ae:=x.2.2.2.2.1,ou:=x.2.2.2.2.2.1 }:jy)
  |22=>λx=>({ aR:=x.1,gF:=x.2.1 }:kf)
  |23=>λx=>(x.1,x.2.1,x.2.2.1)
  |24=>λx=>x.1
  |25=>λx=>x.1
  |26=>λx=>(x.1,x.2.1)
  |27=>λx=>({ bN:=x.1,To:=x.2.1,az:=({ bL:=x.2.2.1,Mem:=x.2.2.2.1,bO:=x.2.2.2.2.1,bR:=x.2.2.2.2.2.1 }:aE),ae:=x.2.2.2.2.2.2.1 }:Bf)
  |28=>λx=>({ S:=({ am:=x.1,aH:=x.2.1,aj:=x.2.2.1,aU:=x.2.2.2.1,aq:=({ nV:=x.2.2.2.2.1,cZ:=x.2.2.2.2.2.1,gy:=x.2.2.2.2.2.2.1,bZ:=x.2.2.2.2.2.2.2.1 }:Kw),cr:=x.2.2.2.2.2.2.2.2.1,Mode:=x.2.2.2.2.2.2.2.2.2.1,ai:=x.2.2.2.2.2.2.2.2.2.2.1,lc:=x.2.2.2.2.2.2.2.2.2.2.2.1,aI:=x.2.2.2.2.2.2.2.2.2.2.2.2.1,bx:=x.2.2.2.2.2.2.2.2.2.2.2.2.2.1,dw:=x.2.2.2.2.2.2.2.2.2.2.2.2.2.2.1,In:=x.2.2.2.2.2.2.2.2.2.2.2.2.2.2.2.1,Out:=x.2.2.2.2.2.2.2.2.2.2.2.2.2.2.2.2.1,cq:=x.2.2.2.2.2.2.2.2.2.2.2.2.2.2.2.2.2.1 }:bm),aR:=x.2.2.2.2.2.2.2.2.2.2.2.2.2.2.2.2.2.2.1,L:=x.2.2.2.2.2.2.2.2.2.2.2.2.2.2.2.2.2.2.2.1,ay:=x.2.2.2.2.2.2.2.2.2.2.2.2.2.2.2.2.2.2.2.2.1 }:iB)
  |29=>λx=>({ Part:=x.1,aL:=x.2.1,az:=({ bL:=x.2.2.1,Mem:=x.2.2.2.1,bO:=x.2.2.2.2.1,bR:=x.2.2.2.2.2.1 }:aE),aW:=x.2.2.2.2.2.2.1 }:AM)
  |_+30=>λx=>x.1
 mp:=λi=>match i with
  |0=>λ_=>rfl
  |1=>λ_=>rfl
  |2=>λ_=>rfl
  |3=>λ_=>rfl
  |4=>λ_=>rfl
  |5=>λ_=>rfl
  |6=>λ_=>rfl
  |7=>λ_=>rfl
  |8=>λ_=>rfl
  |9=>λ_=>rfl
  |10=>λ_=>rfl
  |11=>λ_=>rfl
  |12=>λ_=>rfl
  |13=>λ_=>rfl
  |14=>λ_=>rfl
  |15=>λ_=>rfl
  |16=>λ_=>rfl
  |17=>λ_=>rfl
  |18=>λ_=>rfl
  |19=>λ_=>rfl
  |20=>λ_=>rfl
  |21=>λ_=>rfl
  |22=>λ_=>rfl
  |23=>λ_=>rfl
  |24=>λ_=>rfl
  |25=>λ_=>rfl
  |26=>λ_=>rfl
  |27=>λ_=>rfl
  |28=>λ_=>rfl
  |29=>λ_=>rfl
  |_+30=>λ_=>rfl
 pm:=λi=>match i with
  |0=>λ_=>rfl
  |1=>λ_=>rfl
  |2=>λ_=>rfl
  |3=>λ_=>rfl
  |4=>λ_=>rfl
  |5=>λ_=>rfl
  |6=>λ_=>rfl
  |7=>λ_=>rfl
  |8=>λ_=>rfl
  |9=>λ_=>rfl
  |10=>λ_=>rfl
  |11=>λ_=>rfl
  |12=>λ_=>rfl
  |13=>λ_=>rfl
  |14=>λ_=>rfl
  |15=>λ_=>rfl
  |16=>λ_=>rfl
  |17=>λ_=>rfl
  |18=>λ_=>rfl
  |19=>λ_=>rfl
  |20=>λ_=>rfl
  |21=>λ_=>rfl
  |22=>λ_=>rfl
  |23=>λ_=>rfl
  |24=>λ_=>rfl
  |25=>λ_=>rfl
  |26=>λ_=>rfl
  |27=>λ_=>rfl
  |28=>λ_=>rfl
  |29=>λ_=>rfl
  |_+30=>λ_=>rfl
 dn:=λi j h=>match i with
  |0=>yi rfl h
  |1=>yi rfl h
  |2=>yi rfl h
  |3=>yi rfl h
  |4=>yi rfl h
  |5=>yi rfl h
  |6=>yi rfl h
  |7=>yi rfl h
  |8=>yi rfl h
  |9=>yi rfl h
  |10=>yi rfl h
  |11=>yi rfl h
  |12=>yi rfl h
  |13=>yi rfl h
  |14=>yi rfl h
  |15=>yi rfl h
  |16=>yi rfl h
  |17=>yi rfl h
  |18=>yi rfl h
  |19=>yi rfl h
  |20=>yi rfl h
  |21=>yi rfl h
  |22=>yi rfl h
  |23=>yi rfl h
  |24=>yi rfl h
  |25=>yi rfl h
  |26=>yi rfl h
  |27=>yi rfl h
  |28=>yi rfl h
  |29=>yi rfl h
  |_+30=>yi rfl h
 ps:=λi=>match i with
  |0=>Nat.succ_pos _
  |1=>Nat.succ_pos _
  |2=>Nat.succ_pos _
  |3=>Nat.succ_pos _
  |4=>Nat.succ_pos _
  |5=>Nat.succ_pos _
  |6=>Nat.succ_pos _
  |7=>Nat.succ_pos _
  |8=>Nat.succ_pos _
  |9=>Nat.succ_pos _
  |10=>Nat.succ_pos _
  |11=>Nat.succ_pos _
  |12=>Nat.succ_pos _
  |13=>Nat.succ_pos _
  |14=>Nat.succ_pos _
  |15=>Nat.succ_pos _
  |16=>Nat.succ_pos _
  |17=>Nat.succ_pos _
  |18=>Nat.succ_pos _
  |19=>Nat.succ_pos _
  |20=>Nat.succ_pos _
  |21=>Nat.succ_pos _
  |22=>Nat.succ_pos _
  |23=>Nat.succ_pos _
  |24=>Nat.succ_pos _
  |25=>Nat.succ_pos _
  |26=>Nat.succ_pos _
  |27=>Nat.succ_pos _
  |28=>Nat.succ_pos _
  |29=>Nat.succ_pos _
  |_+30=>Nat.succ_pos _
end Go.Abs
