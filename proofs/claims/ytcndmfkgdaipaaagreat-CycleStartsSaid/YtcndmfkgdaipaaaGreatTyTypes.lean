/- The program's types. -/
import Derived.Test.YtcndmfkgdaipaaaGreatFwG
import Derived.Test.YtcndmfkgdaipaaaGreatFwH
set_option linter.all false
set_option maxRecDepth 100000
noncomputable section
namespace Go.Abs
variable[Gl]
@[ext] structure aF where
 bI:Int
 Mem:Int
 bM:Int
 bR:Int
 deriving DecidableEq,Inhabited
def aF.beq(a b:aF):Bool:=(a.bI == b.bI&&(a.Mem == b.Mem&&(a.bM == b.bM&&(a.bR == b.bR&&true))))
@[ext] structure yG where
 Part:Int
 aP:(List Int)
 jG:Int
 mE:Int
 hY:Int
 dL:Int
 deriving DecidableEq,Inhabited
@[ext] structure PJ where
 fM:Int
 cu:Int
 dL:Int
 br:Int
 deriving DecidableEq,Inhabited
def PJ.beq(a b:PJ):Bool:=(a.fM == b.fM&&(a.cu == b.cu&&(a.dL == b.dL&&(a.br == b.br&&true))))
@[ext] structure aX where
 am:(List aF)
 aG:(List (List Int))
 aq:(List yG)
 aP:Int
 ae:PJ
 bN:Int
 Mode:Int
 ah:Int
 iN:Int
 aI:Int
 bg:Int
 cV:Int
 In:Int
 Out:Int
 bO:Int
 deriving DecidableEq,Inhabited
@[ext] structure FB where
 bj:Int
 Ok:Bool
 deriving DecidableEq,Inhabited
def FB.beq(a b:FB):Bool:=(a.bj == b.bj&&(a.Ok == b.Ok&&true))
@[ext] structure aJ where
 Id:Int
 bL:Int
 Queue:Int
 aL:Int
 ay:aF
 aR:Int
 aE:(List FB)
 State:Int
 Ok:Bool
 cH:Bool
 aK:Int
 cA:Int
 Start:Int
 End:Int
 Array:Int
 deriving DecidableEq,Inhabited
@[ext] structure dk where
 Node:Int
 aL:Int
 deriving DecidableEq,Inhabited
def dk.beq(a b:dk):Bool:=(a.Node == b.Node&&(a.aL == b.aL&&true))
@[ext] structure bW where
 bj:Int
 ay:aF
 aj:(List dk)
 deriving DecidableEq,Inhabited
@[ext] structure kH where
 Id:Int
 Node:Int
 bT:Int
 To:Int
 deriving DecidableEq,Inhabited
def kH.beq(a b:kH):Bool:=(a.Id == b.Id&&(a.Node == b.Node&&(a.bT == b.bT&&(a.To == b.To&&true))))
@[ext] structure mO where
 aq:(List Int)
 am:Int
 deriving DecidableEq,Inhabited
@[ext] structure bZ where
 aO:Int
 Next:Int
 dr:Int
 ah:(List aJ)
 ai:(List bW)
 aA:(List kH)
 eJ:(List Int)
 az:mO
 deriving DecidableEq,Inhabited
@[ext] structure zdP where
 S:aX
 St:bZ
 deriving DecidableEq,Inhabited
@[ext] structure BT where
 NM:Int
 YR:(List aJ)
 deriving DecidableEq,Inhabited
@[ext] structure iO where
 bj:Int
 At:Int
 aj:(List dk)
 deriving DecidableEq,Inhabited
@[ext] structure Wd where
 bj:Int
 du:Int
 aE:Int
 deriving DecidableEq,Inhabited
def Wd.beq(a b:Wd):Bool:=(a.bj == b.bj&&(a.du == b.du&&(a.aE == b.aE&&true)))
@[ext] structure Xs where
 Started:(List iO)
 fK:(List iO)
 AF:Wd
 deriving DecidableEq,Inhabited
@[ext] structure jB where
 ay:aF
 aj:(List dk)
 nM:Int
 deriving DecidableEq,Inhabited
@[ext] structure bS where
 At:Int
 cy:aF
 deriving DecidableEq,Inhabited
def bS.beq(a b:bS):Bool:=(a.At == b.At&&(aF.beq a.cy b.cy&&true))
@[ext] structure Bg where
 fC:Int
 cM:(List (List Int))
 cK:(List (List bS))
 deriving DecidableEq,Inhabited
@[ext] structure kg where
 aO:Int
 eJ:(List Int)
 deriving DecidableEq,Inhabited
@[ext] structure zcI where
 zI:iO
 d_:aJ
 deriving DecidableEq,Inhabited
@[ext] structure zcK where
 aO:Int
 eJ:(List Int)
 deriving DecidableEq,Inhabited
@[ext] structure EG where
 bT:Int
 To:Int
 ay:aF
 aj:(List dk)
 deriving DecidableEq,Inhabited
@[ext] structure jS where
 S:aX
 aO:Int
 L:(List EG)
 aA:(List kH)
 deriving DecidableEq,Inhabited
@[ext] structure CJ where
 Part:Int
 aL:Int
 ay:aF
 aR:Int
 deriving DecidableEq,Inhabited
def CJ.beq(a b:CJ):Bool:=(a.Part == b.Part&&(a.aL == b.aL&&(aF.beq a.ay b.ay&&(a.aR == b.aR&&true))))
def tyT:Nat->Type
 |0=>aF
 |1=>Int
 |2=>(List Int)
 |3=>yG
 |4=>FB
 |5=>aJ
 |6=>dk
 |7=>bW
 |8=>kH
 |9=>zdP
 |10=>aX
 |11=>(Int×Int×Int×Int)
 |12=>PJ
 |13=>BT
 |14=>bZ
 |15=>iO
 |16=>Xs
 |17=>jB
 |18=>bS
 |19=>(List bS)
 |20=>Bg
 |21=>kg
 |22=>(Int×Int×Int)
 |23=>zcI
 |24=>ByteArray
 |25=>Bool
 |26=>zcK
 |27=>EG
 |28=>jS
 |29=>CJ
 |_=>Bool
abbrev iD:CC:=.int .i64
def tyF:Nat->List CC
 |0=>[iD,iD,iD,iD]
 |1=>[iD]
 |2=>[.sl 1]
 |3=>[iD,.sl 1,iD,iD,iD,iD]
 |4=>[iD,.bool]
 |5=>[iD,iD,iD,iD,iD,iD,iD,iD,iD,.sl 4,iD,.bool,.bool,iD,iD,iD,iD,iD]
 |6=>[iD,iD]
 |7=>[iD,iD,iD,iD,iD,.sl 6]
 |8=>[iD,iD,iD,iD]
 |9=>[.sl 0,.sl 2,.sl 3,iD,iD,iD,iD,iD,iD,iD,iD,iD,iD,iD,iD,iD,iD,iD,iD,iD,iD,.sl 5,.sl 7,.sl 8,.sl 1,.sl 1,iD]
 |10=>[.sl 0,.sl 2,.sl 3,iD,iD,iD,iD,iD,iD,iD,iD,iD,iD,iD,iD,iD,iD,iD]
 |11|12=>[iD,iD,iD,iD]
 |13=>[iD,.sl 5]
 |14=>[iD,iD,iD,.sl 5,.sl 7,.sl 8,.sl 1,.sl 1,iD]
 |15=>[iD,iD,.sl 6]
 |16=>[.sl 15,.sl 15,iD,iD,iD]
 |17=>[iD,iD,iD,iD,.sl 6,iD]
 |18=>[iD,iD,iD,iD,iD]
 |19=>[.sl 18]
 |20=>[iD,.sl 2,.sl 19]
 |21=>[iD,.sl 1]
 |22=>[iD,iD,iD]
 |23=>[iD,iD,.sl 6,iD,iD,iD,iD,iD,iD,iD,iD,iD,.sl 4,iD,.bool,.bool,iD,iD,iD,iD,iD]
 |24=>[.str]
 |25=>[.bool]
 |26=>[iD,.sl 1]
 |27=>[iD,iD,iD,iD,iD,iD,.sl 6]
 |28=>[.sl 0,.sl 2,.sl 3,iD,iD,iD,iD,iD,iD,iD,iD,iD,iD,iD,iD,iD,iD,iD,iD,.sl 27,.sl 8]
 |29=>[iD,iD,iD,iD,iD,iD,iD]
 |_=>[.bool]
set_option maxHeartbeats 4000000 in
noncomputable instance ty:Ty where
 T:=tyT
 fl:=tyF
 prj:=λi=>match i with
  |0=>λx=>(x.bI,x.Mem,x.bM,x.bR,())
  |1|2=>λx=>(x,())
  |3=>λx=>(x.Part,x.aP,x.jG,x.mE,x.hY,x.dL,())
  |4=>λx=>(x.bj,x.Ok,())
  |5=>λx=>(x.Id,x.bL,x.Queue,x.aL,x.ay.bI,x.ay.Mem,x.ay.bM,x.ay.bR,x.aR,x.aE,x.State,x.Ok,x.cH,x.aK,x.cA,x.Start,x.End,x.Array,())
  |6=>λx=>(x.Node,x.aL,())
  |7=>λx=>(x.bj,x.ay.bI,x.ay.Mem,x.ay.bM,x.ay.bR,x.aj,())
  |8=>λx=>(x.Id,x.Node,x.bT,x.To,())
  |9=>λx=>(x.S.am,x.S.aG,x.S.aq,x.S.aP,x.S.ae.fM,x.S.ae.cu,x.S.ae.dL,x.S.ae.br,x.S.bN,x.S.Mode,x.S.ah,x.S.iN,x.S.aI,x.S.bg,x.S.cV,x.S.In,x.S.Out,x.S.bO,x.St.aO,x.St.Next,x.St.dr,x.St.ah,x.St.ai,x.St.aA,x.St.eJ,x.St.az.aq,x.St.az.am,())
  |10=>λx=>(x.am,x.aG,x.aq,x.aP,x.ae.fM,x.ae.cu,x.ae.dL,x.ae.br,x.bN,x.Mode,x.ah,x.iN,x.aI,x.bg,x.cV,x.In,x.Out,x.bO,())
  |11=>λx=>(x.1,x.2.1,x.2.2.1,x.2.2.2,())
  |12=>λx=>(x.fM,x.cu,x.dL,x.br,())
  |13=>λx=>(x.NM,x.YR,())
  |14=>λx=>(x.aO,x.Next,x.dr,x.ah,x.ai,x.aA,x.eJ,x.az.aq,x.az.am,())
  |15=>λx=>(x.bj,x.At,x.aj,())
  |16=>λx=>(x.Started,x.fK,x.AF.bj,x.AF.du,x.AF.aE,())
  |17=>λx=>(x.ay.bI,x.ay.Mem,x.ay.bM,x.ay.bR,x.aj,x.nM,())
  |18=>λx=>(x.At,x.cy.bI,x.cy.Mem,x.cy.bM,x.cy.bR,())
  |19=>λx=>(x,())
  |20=>λx=>(x.fC,x.cM,x.cK,())
  |21=>λx=>(x.aO,x.eJ,())
  |22=>λx=>(x.1,x.2.1,x.2.2,())
  |23=>λx=>(x.zI.bj,x.zI.At,x.zI.aj,x.d_.Id,x.d_.bL,x.d_.Queue,x.d_.aL,x.d_.ay.bI,x.d_.ay.Mem,x.d_.ay.bM,x.d_.ay.bR,x.d_.aR,x.d_.aE,x.d_.State,x.d_.Ok,x.d_.cH,x.d_.aK,x.d_.cA,x.d_.Start,x.d_.End,x.d_.Array,())
  |24|25=>λx=>(x,())
  |26=>λx=>(x.aO,x.eJ,())
  |27=>λx=>(x.bT,x.To,x.ay.bI,x.ay.Mem,x.ay.bM,x.ay.bR,x.aj,())
  |28=>λx=>(x.S.am,x.S.aG,x.S.aq,x.S.aP,x.S.ae.fM,x.S.ae.cu,x.S.ae.dL,x.S.ae.br,x.S.bN,x.S.Mode,x.S.ah,x.S.iN,x.S.aI,x.S.bg,x.S.cV,x.S.In,x.S.Out,x.S.bO,x.aO,x.L,x.aA,())
  |29=>λx=>(x.Part,x.aL,x.ay.bI,x.ay.Mem,x.ay.bM,x.ay.bR,x.aR,())
  |_+30=>λx=>(x,())
 mkt:=λi=>match i with
  |0=>λx=>({ bI:=x.1,Mem:=x.2.1,bM:=x.2.2.1,bR:=x.2.2.2.1 }:aF)
  |1|2=>λx=>x.1
  |3=>λx=>({ Part:=x.1,aP:=x.2.1,jG:=x.2.2.1,mE:=x.2.2.2.1,hY:=x.2.2.2.2.1,dL:=x.2.2.2.2.2.1 }:yG)
  |4=>λx=>({ bj:=x.1,Ok:=x.2.1 }:FB)
  |5=>λx=>({ Id:=x.1,bL:=x.2.1,Queue:=x.2.2.1,aL:=x.2.2.2.1,ay:=({ bI:=x.2.2.2.2.1,Mem:=x.2.2.2.2.2.1,bM:=x.2.2.2.2.2.2.1,bR:=x.2.2.2.2.2.2.2.1 }:aF),aR:=x.2.2.2.2.2.2.2.2.1,aE:=x.2.2.2.2.2.2.2.2.2.1,State:=x.2.2.2.2.2.2.2.2.2.2.1,Ok:=x.2.2.2.2.2.2.2.2.2.2.2.1,cH:=x.2.2.2.2.2.2.2.2.2.2.2.2.1,aK:=x.2.2.2.2.2.2.2.2.2.2.2.2.2.1,cA:=x.2.2.2.2.2.2.2.2.2.2.2.2.2.2.1,Start:=x.2.2.2.2.2.2.2.2.2.2.2.2.2.2.2.1,End:=x.2.2.2.2.2.2.2.2.2.2.2.2.2.2.2.2.1,Array:=x.2.2.2.2.2.2.2.2.2.2.2.2.2.2.2.2.2.1 }:aJ)
  |6=>λx=>({ Node:=x.1,aL:=x.2.1 }:dk)
  |7=>λx=>({ bj:=x.1,ay:=({ bI:=x.2.1,Mem:=x.2.2.1,bM:=x.2.2.2.1,bR:=x.2.2.2.2.1 }:aF),aj:=x.2.2.2.2.2.1 }:bW)
  |8=>λx=>({ Id:=x.1,Node:=x.2.1,bT:=x.2.2.1,To:=x.2.2.2.1 }:kH)
  |9=>λx=>({ S:=({ am:=x.1,aG:=x.2.1,aq:=x.2.2.1,aP:=x.2.2.2.1,ae:=({ fM:=x.2.2.2.2.1,cu:=x.2.2.2.2.2.1,dL:=x.2.2.2.2.2.2.1,br:=x.2.2.2.2.2.2.2.1 }:PJ),bN:=x.2.2.2.2.2.2.2.2.1,Mode:=x.2.2.2.2.2.2.2.2.2.1,ah:=x.2.2.2.2.2.2.2.2.2.2.1,iN:=x.2.2.2.2.2.2.2.2.2.2.2.1,aI:=x.2.2.2.2.2.2.2.2.2.2.2.2.1,bg:=x.2.2.2.2.2.2.2.2.2.2.2.2.2.1,cV:=x.2.2.2.2.2.2.2.2.2.2.2.2.2.2.1,In:=x.2.2.2.2.2.2.2.2.2.2.2.2.2.2.2.1,Out:=x.2.2.2.2.2.2.2.2.2.2.2.2.2.2.2.2.1,bO:=x.2.2.2.2.2.2.2.2.2.2.2.2.2.2.2.2.2.1 }:aX),St:=({ aO:=x.2.2.2.2.2.2.2.2.2.2.2.2.2.2.2.2.2.2.1,Next:=x.2.2.2.2.2.2.2.2.2.2.2.2.2.2.2.2.2.2.2.1,dr:=x.2.2.2.2.2.2.2.2.2.2.2.2.2.2.2.2.2.2.2.2.1,ah:=x.2.2.2.2.2.2.2.2.2.2.2.2.2.2.2.2.2.2.2.2.2.1,ai:=x.2.2.2.2.2.2.2.2.2.2.2.2.2.2.2.2.2.2.2.2.2.2.1,aA:=x.2.2.2.2.2.2.2.2.2.2.2.2.2.2.2.2.2.2.2.2.2.2.2.1,eJ:=x.2.2.2.2.2.2.2.2.2.2.2.2.2.2.2.2.2.2.2.2.2.2.2.2.1,az:=({ aq:=x.2.2.2.2.2.2.2.2.2.2.2.2.2.2.2.2.2.2.2.2.2.2.2.2.2.1,am:=x.2.2.2.2.2.2.2.2.2.2.2.2.2.2.2.2.2.2.2.2.2.2.2.2.2.2.1 }:mO) }:bZ) }:zdP)
  |10=>λx=>({ am:=x.1,aG:=x.2.1,aq:=x.2.2.1,aP:=x.2.2.2.1,ae:=({ fM:=x.2.2.2.2.1,cu:=x.2.2.2.2.2.1,dL:=x.2.2.2.2.2.2.1,br:=x.2.2.2.2.2.2.2.1 }:PJ),bN:=x.2.2.2.2.2.2.2.2.1,Mode:=x.2.2.2.2.2.2.2.2.2.1,ah:=x.2.2.2.2.2.2.2.2.2.2.1,iN:=x.2.2.2.2.2.2.2.2.2.2.2.1,aI:=x.2.2.2.2.2.2.2.2.2.2.2.2.1,bg:=x.2.2.2.2.2.2.2.2.2.2.2.2.2.1,cV:=x.2.2.2.2.2.2.2.2.2.2.2.2.2.2.1,In:=x.2.2.2.2.2.2.2.2.2.2.2.2.2.2.2.1,Out:=x.2.2.2.2.2.2.2.2.2.2.2.2.2.2.2.2.1,bO:=x.2.2.2.2.2.2.2.2.2.2.2.2.2.2.2.2.2.1 }:aX)
  |11=>λx=>(x.1,x.2.1,x.2.2.1,x.2.2.2.1)
  |12=>λx=>({ fM:=x.1,cu:=x.2.1,dL:=x.2.2.1,br:=x.2.2.2.1 }:PJ)
  |13=>λx=>({ NM:=x.1,YR:=x.2.1 }:BT)
  |14=>λx=>({ aO:=x.1,Next:=x.2.1,dr:=x.2.2.1,ah:=x.2.2.2.1,ai:=x.2.2.2.2.1,aA:=x.2.2.2.2.2.1,eJ:=x.2.2.2.2.2.2.1,az:=({ aq:=x.2.2.2.2.2.2.2.1,am:=x.2.2.2.2.2.2.2.2.1 }:mO) }:bZ)
  |15=>λx=>({ bj:=x.1,At:=x.2.1,aj:=x.2.2.1 }:iO)
  |16=>λx=>({ Started:=x.1,fK:=x.2.1,AF:=({ bj:=x.2.2.1,du:=x.2.2.2.1,aE:=x.2.2.2.2.1 }:Wd) }:Xs)
  |17=>λx=>({ ay:=({ bI:=x.1,Mem:=x.2.1,bM:=x.2.2.1,bR:=x.2.2.2.1 }:aF),aj:=x.2.2.2.2.1,nM:=x.2.2.2.2.2.1 }:jB)
  |18=>λx=>({ At:=x.1,cy:=({ bI:=x.2.1,Mem:=x.2.2.1,bM:=x.2.2.2.1,bR:=x.2.2.2.2.1 }:aF) }:bS)
  |19=>λx=>x.1
  |20=>λx=>({ fC:=x.1,cM:=x.2.1,cK:=x.2.2.1 }:Bg)
  |21=>λx=>({ aO:=x.1,eJ:=x.2.1 }:kg)
  |22=>λx=>(x.1,x.2.1,x.2.2.1)
  |23=>λx=>({ zI:=({ bj:=x.1,At:=x.2.1,aj:=x.2.2.1 }:iO),d_:=({ Id:=x.2.2.2.1,bL:=x.2.2.2.2.1,Queue:=x.2.2.2.2.2.1,aL:=x.2.2.2.2.2.2.1,ay:=({ bI:=x.2.2.2.2.2.2.2.1,Mem:=x.2.2.2.2.2.2.2.2.1,bM:=x.2.2.2.2.2.2.2.2.2.1,bR:=x.2.2.2.2.2.2.2.2.2.2.1 }:aF),aR:=x.2.2.2.2.2.2.2.2.2.2.2.1,aE:=x.2.2.2.2.2.2.2.2.2.2.2.2.1,State:=x.2.2.2.2.2.2.2.2.2.2.2.2.2.1,Ok:=x.2.2.2.2.2.2.2.2.2.2.2.2.2.2.1,cH:=x.2.2.2.2.2.2.2.2.2.2.2.2.2.2.2.1,aK:=x.2.2.2.2.2.2.2.2.2.2.2.2.2.2.2.2.1,cA:=x.2.2.2.2.2.2.2.2.2.2.2.2.2.2.2.2.2.1,Start:=x.2.2.2.2.2.2.2.2.2.2.2.2.2.2.2.2.2.2.1,End:=x.2.2.2.2.2.2.2.2.2.2.2.2.2.2.2.2.2.2.2.1,Array:=x.2.2.2.2.2.2.2.2.2.2.2.2.2.2.2.2.2.2.2.2.1 }:aJ) }:zcI)
  |24|25=>λx=>x.1
  |26=>λx=>({ aO:=x.1,eJ:=x.2.1 }:zcK)
  |27=>λx=>({ bT:=x.1,To:=x.2.1,ay:=({ bI:=x.2.2.1,Mem:=x.2.2.2.1,bM:=x.2.2.2.2.1,bR:=x.2.2.2.2.2.1 }:aF),aj:=x.2.2.2.2.2.2.1 }:EG)
  |28=>λx=>({ S:=({ am:=x.1,aG:=x.2.1,aq:=x.2.2.1,aP:=x.2.2.2.1,ae:=({ fM:=x.2.2.2.2.1,cu:=x.2.2.2.2.2.1,dL:=x.2.2.2.2.2.2.1,br:=x.2.2.2.2.2.2.2.1 }:PJ),bN:=x.2.2.2.2.2.2.2.2.1,Mode:=x.2.2.2.2.2.2.2.2.2.1,ah:=x.2.2.2.2.2.2.2.2.2.2.1,iN:=x.2.2.2.2.2.2.2.2.2.2.2.1,aI:=x.2.2.2.2.2.2.2.2.2.2.2.2.1,bg:=x.2.2.2.2.2.2.2.2.2.2.2.2.2.1,cV:=x.2.2.2.2.2.2.2.2.2.2.2.2.2.2.1,In:=x.2.2.2.2.2.2.2.2.2.2.2.2.2.2.2.1,Out:=x.2.2.2.2.2.2.2.2.2.2.2.2.2.2.2.2.1,bO:=x.2.2.2.2.2.2.2.2.2.2.2.2.2.2.2.2.2.1 }:aX),aO:=x.2.2.2.2.2.2.2.2.2.2.2.2.2.2.2.2.2.2.1,L:=x.2.2.2.2.2.2.2.2.2.2.2.2.2.2.2.2.2.2.2.1,aA:=x.2.2.2.2.2.2.2.2.2.2.2.2.2.2.2.2.2.2.2.2.1 }:jS)
  |29=>λx=>({ Part:=x.1,aL:=x.2.1,ay:=({ bI:=x.2.2.1,Mem:=x.2.2.2.1,bM:=x.2.2.2.2.1,bR:=x.2.2.2.2.2.1 }:aF),aR:=x.2.2.2.2.2.2.1 }:CJ)
  |_+30=>λx=>x.1
 mp:=λi=>match i with
  |0|1|2|3|4|5|6|7|8|9|10|11|12|13|14|15|16|17|18|19|20|21|22|23|24|25|26|27|28|29|_+30=>λ_=>rfl
 pm:=λi=>match i with
  |0|1|2|3|4|5|6|7|8|9|10|11|12|13|14|15|16|17|18|19|20|21|22|23|24|25|26|27|28|29|_+30=>λ_=>rfl
 dn:=λi j h=>match i with
  |0|1|2|3|4|5|6|7|8|9|10|11|12|13|14|15|16|17|18|19|20|21|22|23|24|25|26|27|28|29|_+30=>zd rfl h
 ps:=λi=>match i with
  |0|1|2|3|4|5|6|7|8|9|10|11|12|13|14|15|16|17|18|19|20|21|22|23|24|25|26|27|28|29|_+30=>Nat.succ_pos _
end Go.Abs
