/- The program's types. -/
import Derived.Test.YtcndmfkgdaipaaaGreatFwG
import Derived.Test.YtcndmfkgdaipaaaGreatFwH
set_option linter.all false
set_option maxRecDepth 100000
noncomputable section
namespace Go.Abs
variable[Gl]
@[ext] structure aD where
 bA:Int
 Mem:Int
 bE:Int
 bG:Int
 deriving DecidableEq,Inhabited
def aD.beq(a b:aD):Bool:=(a.bA == b.bA&&(a.Mem == b.Mem&&(a.bE == b.bE&&(a.bG == b.bG&&true))))
@[ext] structure xL where
 Part:Int
 aR:(List Int)
 jv:Int
 l_:Int
 ig:Int
 fC:Int
 deriving DecidableEq,Inhabited
@[ext] structure Pt where
 kF:Int
 cT:Int
 fC:Int
 bL:Int
 deriving DecidableEq,Inhabited
def Pt.beq(a b:Pt):Bool:=(a.kF == b.kF&&(a.cT == b.cT&&(a.fC == b.fC&&(a.bL == b.bL&&true))))
@[ext] structure bm where
 ai:(List aD)
 aH:(List (List Int))
 aq:(List xL)
 aR:Int
 am:Pt
 bS:Int
 Mode:Int
 aj:Int
 jG:Int
 aI:Int
 bo:Int
 dg:Int
 In:Int
 Out:Int
 bT:Int
 deriving DecidableEq,Inhabited
@[ext] structure Hg where
 aW:Int
 Ok:Bool
 deriving DecidableEq,Inhabited
def Hg.beq(a b:Hg):Bool:=(a.aW == b.aW&&(a.Ok == b.Ok&&true))
@[ext] structure aM where
 Id:Int
 cu:Int
 Queue:Int
 aL:Int
 ay:aD
 aO:Int
 aF:(List Hg)
 State:Int
 Ok:Bool
 cG:Bool
 aJ:Int
 cI:Int
 Start:Int
 End:Int
 Array:Int
 deriving DecidableEq,Inhabited
@[ext] structure dj where
 Node:Int
 aL:Int
 deriving DecidableEq,Inhabited
def dj.beq(a b:dj):Bool:=(a.Node == b.Node&&(a.aL == b.aL&&true))
@[ext] structure bV where
 aW:Int
 ay:aD
 ah:(List dj)
 deriving DecidableEq,Inhabited
@[ext] structure kw where
 Id:Int
 Node:Int
 bO:Int
 To:Int
 deriving DecidableEq,Inhabited
def kw.beq(a b:kw):Bool:=(a.Id == b.Id&&(a.Node == b.Node&&(a.bO == b.bO&&(a.To == b.To&&true))))
@[ext] structure lT where
 aq:(List Int)
 ai:Int
 deriving DecidableEq,Inhabited
@[ext] structure ca where
 aX:Int
 Next:Int
 dE:Int
 aj:(List aM)
 ae:(List bV)
 aB:(List kw)
 kH:(List Int)
 az:lT
 deriving DecidableEq,Inhabited
@[ext] structure zdF where
 S:bm
 St:ca
 deriving DecidableEq,Inhabited
@[ext] structure Bp where
 MM:Int
 Xt:(List aM)
 deriving DecidableEq,Inhabited
@[ext] structure fY where
 aW:Int
 At:Int
 ah:(List dj)
 deriving DecidableEq,Inhabited
@[ext] structure UY where
 aW:Int
 dk:Int
 aF:Int
 deriving DecidableEq,Inhabited
def UY.beq(a b:UY):Bool:=(a.aW == b.aW&&(a.dk == b.dk&&(a.aF == b.aF&&true)))
@[ext] structure Vu where
 Started:(List fY)
 fE:(List fY)
 zd:UY
 deriving DecidableEq,Inhabited
@[ext] structure ju where
 ay:aD
 ah:(List dj)
 n_:Int
 deriving DecidableEq,Inhabited
@[ext] structure bM where
 At:Int
 cq:aD
 deriving DecidableEq,Inhabited
def bM.beq(a b:bM):Bool:=(a.At == b.At&&(aD.beq a.cq b.cq&&true))
@[ext] structure AD where
 fo:Int
 cE:(List (List Int))
 cH:(List (List bM))
 deriving DecidableEq,Inhabited
@[ext] structure ke where
 aX:Int
 kH:(List Int)
 deriving DecidableEq,Inhabited
@[ext] structure zcA where
 zZ:fY
 dW:aM
 deriving DecidableEq,Inhabited
@[ext] structure D_ where
 bO:Int
 To:Int
 ay:aD
 ah:(List dj)
 deriving DecidableEq,Inhabited
@[ext] structure jt where
 S:bm
 aX:Int
 L:(List D_)
 aB:(List kw)
 deriving DecidableEq,Inhabited
@[ext] structure AB where
 Part:Int
 aL:Int
 ay:aD
 aO:Int
 deriving DecidableEq,Inhabited
def AB.beq(a b:AB):Bool:=(a.Part == b.Part&&(a.aL == b.aL&&(aD.beq a.ay b.ay&&(a.aO == b.aO&&true))))
def tyT:Nat->Type
 |0=>aD
 |1=>Int
 |2=>(List Int)
 |3=>xL
 |4=>Hg
 |5=>aM
 |6=>dj
 |7=>bV
 |8=>kw
 |9=>zdF
 |10=>bm
 |11=>(Int×Int×Int×Int)
 |12=>Pt
 |13=>Bp
 |14=>ca
 |15=>fY
 |16=>Vu
 |17=>ju
 |18=>bM
 |19=>(List bM)
 |20=>AD
 |21=>ke
 |22=>(Int×Int×Int)
 |23=>zcA
 |24=>ByteArray
 |25=>Bool
 |26=>D_
 |27=>jt
 |28=>AB
 |_=>Bool
abbrev iD:CC:=.int .i64
def tyF:Nat->List CC
 |0=>[iD,iD,iD,iD]
 |1=>[iD]
 |2=>[.sl 1]
 |3=>[iD,.sl 1,iD,iD,iD,iD]
 |4=>[iD,.bool]
 |5=>[iD,iD,iD,iD,iD,iD,iD,iD,iD,.sl 4,iD,.bool,.bool,iD,iD,iD,iD,iD]
 |6=>[iD,iD]
 |7=>[iD,iD,iD,iD,iD,.sl 6]
 |8=>[iD,iD,iD,iD]
 |9=>[.sl 0,.sl 2,.sl 3,iD,iD,iD,iD,iD,iD,iD,iD,iD,iD,iD,iD,iD,iD,iD,iD,iD,iD,.sl 5,.sl 7,.sl 8,.sl 1,.sl 1,iD]
 |10=>[.sl 0,.sl 2,.sl 3,iD,iD,iD,iD,iD,iD,iD,iD,iD,iD,iD,iD,iD,iD,iD]
 |11|12=>[iD,iD,iD,iD]
 |13=>[iD,.sl 5]
 |14=>[iD,iD,iD,.sl 5,.sl 7,.sl 8,.sl 1,.sl 1,iD]
 |15=>[iD,iD,.sl 6]
 |16=>[.sl 15,.sl 15,iD,iD,iD]
 |17=>[iD,iD,iD,iD,.sl 6,iD]
 |18=>[iD,iD,iD,iD,iD]
 |19=>[.sl 18]
 |20=>[iD,.sl 2,.sl 19]
 |21=>[iD,.sl 1]
 |22=>[iD,iD,iD]
 |23=>[iD,iD,.sl 6,iD,iD,iD,iD,iD,iD,iD,iD,iD,.sl 4,iD,.bool,.bool,iD,iD,iD,iD,iD]
 |24=>[.str]
 |25=>[.bool]
 |26=>[iD,iD,iD,iD,iD,iD,.sl 6]
 |27=>[.sl 0,.sl 2,.sl 3,iD,iD,iD,iD,iD,iD,iD,iD,iD,iD,iD,iD,iD,iD,iD,iD,.sl 26,.sl 8]
 |28=>[iD,iD,iD,iD,iD,iD,iD]
 |_=>[.bool]
set_option maxHeartbeats 4000000 in
noncomputable instance ty:Ty where
 T:=tyT
 fl:=tyF
 prj:=λi=>match i with
  |0=>λx=>(x.bA,x.Mem,x.bE,x.bG,())
  |1|2=>λx=>(x,())
  |3=>λx=>(x.Part,x.aR,x.jv,x.l_,x.ig,x.fC,())
  |4=>λx=>(x.aW,x.Ok,())
  |5=>λx=>(x.Id,x.cu,x.Queue,x.aL,x.ay.bA,x.ay.Mem,x.ay.bE,x.ay.bG,x.aO,x.aF,x.State,x.Ok,x.cG,x.aJ,x.cI,x.Start,x.End,x.Array,())
  |6=>λx=>(x.Node,x.aL,())
  |7=>λx=>(x.aW,x.ay.bA,x.ay.Mem,x.ay.bE,x.ay.bG,x.ah,())
  |8=>λx=>(x.Id,x.Node,x.bO,x.To,())
  |9=>λx=>(x.S.ai,x.S.aH,x.S.aq,x.S.aR,x.S.am.kF,x.S.am.cT,x.S.am.fC,x.S.am.bL,x.S.bS,x.S.Mode,x.S.aj,x.S.jG,x.S.aI,x.S.bo,x.S.dg,x.S.In,x.S.Out,x.S.bT,x.St.aX,x.St.Next,x.St.dE,x.St.aj,x.St.ae,x.St.aB,x.St.kH,x.St.az.aq,x.St.az.ai,())
  |10=>λx=>(x.ai,x.aH,x.aq,x.aR,x.am.kF,x.am.cT,x.am.fC,x.am.bL,x.bS,x.Mode,x.aj,x.jG,x.aI,x.bo,x.dg,x.In,x.Out,x.bT,())
  |11=>λx=>(x.1,x.2.1,x.2.2.1,x.2.2.2,())
  |12=>λx=>(x.kF,x.cT,x.fC,x.bL,())
  |13=>λx=>(x.MM,x.Xt,())
  |14=>λx=>(x.aX,x.Next,x.dE,x.aj,x.ae,x.aB,x.kH,x.az.aq,x.az.ai,())
  |15=>λx=>(x.aW,x.At,x.ah,())
  |16=>λx=>(x.Started,x.fE,x.zd.aW,x.zd.dk,x.zd.aF,())
  |17=>λx=>(x.ay.bA,x.ay.Mem,x.ay.bE,x.ay.bG,x.ah,x.n_,())
  |18=>λx=>(x.At,x.cq.bA,x.cq.Mem,x.cq.bE,x.cq.bG,())
  |19=>λx=>(x,())
  |20=>λx=>(x.fo,x.cE,x.cH,())
  |21=>λx=>(x.aX,x.kH,())
  |22=>λx=>(x.1,x.2.1,x.2.2,())
  |23=>λx=>(x.zZ.aW,x.zZ.At,x.zZ.ah,x.dW.Id,x.dW.cu,x.dW.Queue,x.dW.aL,x.dW.ay.bA,x.dW.ay.Mem,x.dW.ay.bE,x.dW.ay.bG,x.dW.aO,x.dW.aF,x.dW.State,x.dW.Ok,x.dW.cG,x.dW.aJ,x.dW.cI,x.dW.Start,x.dW.End,x.dW.Array,())
  |24|25=>λx=>(x,())
  |26=>λx=>(x.bO,x.To,x.ay.bA,x.ay.Mem,x.ay.bE,x.ay.bG,x.ah,())
  |27=>λx=>(x.S.ai,x.S.aH,x.S.aq,x.S.aR,x.S.am.kF,x.S.am.cT,x.S.am.fC,x.S.am.bL,x.S.bS,x.S.Mode,x.S.aj,x.S.jG,x.S.aI,x.S.bo,x.S.dg,x.S.In,x.S.Out,x.S.bT,x.aX,x.L,x.aB,())
  |28=>λx=>(x.Part,x.aL,x.ay.bA,x.ay.Mem,x.ay.bE,x.ay.bG,x.aO,())
  |_+29=>λx=>(x,())
 mkt:=λi=>match i with
  |0=>λx=>({ bA:=x.1,Mem:=x.2.1,bE:=x.2.2.1,bG:=x.2.2.2.1 }:aD)
  |1|2=>λx=>x.1
  |3=>λx=>({ Part:=x.1,aR:=x.2.1,jv:=x.2.2.1,l_:=x.2.2.2.1,ig:=x.2.2.2.2.1,fC:=x.2.2.2.2.2.1 }:xL)
  |4=>λx=>({ aW:=x.1,Ok:=x.2.1 }:Hg)
  |5=>λx=>({ Id:=x.1,cu:=x.2.1,Queue:=x.2.2.1,aL:=x.2.2.2.1,ay:=({ bA:=x.2.2.2.2.1,Mem:=x.2.2.2.2.2.1,bE:=x.2.2.2.2.2.2.1,bG:=x.2.2.2.2.2.2.2.1 }:aD),aO:=x.2.2.2.2.2.2.2.2.1,aF:=x.2.2.2.2.2.2.2.2.2.1,State:=x.2.2.2.2.2.2.2.2.2.2.1,Ok:=x.2.2.2.2.2.2.2.2.2.2.2.1,cG:=x.2.2.2.2.2.2.2.2.2.2.2.2.1,aJ:=x.2.2.2.2.2.2.2.2.2.2.2.2.2.1,cI:=x.2.2.2.2.2.2.2.2.2.2.2.2.2.2.1,Start:=x.2.2.2.2.2.2.2.2.2.2.2.2.2.2.2.1,End:=x.2.2.2.2.2.2.2.2.2.2.2.2.2.2.2.2.1,Array:=x.2.2.2.2.2.2.2.2.2.2.2.2.2.2.2.2.2.1 }:aM)
  |6=>λx=>({ Node:=x.1,aL:=x.2.1 }:dj)
  |7=>λx=>({ aW:=x.1,ay:=({ bA:=x.2.1,Mem:=x.2.2.1,bE:=x.2.2.2.1,bG:=x.2.2.2.2.1 }:aD),ah:=x.2.2.2.2.2.1 }:bV)
  |8=>λx=>({ Id:=x.1,Node:=x.2.1,bO:=x.2.2.1,To:=x.2.2.2.1 }:kw)
  |9=>λx=>({ S:=({ ai:=x.1,aH:=x.2.1,aq:=x.2.2.1,aR:=x.2.2.2.1,am:=({ kF:=x.2.2.2.2.1,cT:=x.2.2.2.2.2.1,fC:=x.2.2.2.2.2.2.1,bL:=x.2.2.2.2.2.2.2.1 }:Pt),bS:=x.2.2.2.2.2.2.2.2.1,Mode:=x.2.2.2.2.2.2.2.2.2.1,aj:=x.2.2.2.2.2.2.2.2.2.2.1,jG:=x.2.2.2.2.2.2.2.2.2.2.2.1,aI:=x.2.2.2.2.2.2.2.2.2.2.2.2.1,bo:=x.2.2.2.2.2.2.2.2.2.2.2.2.2.1,dg:=x.2.2.2.2.2.2.2.2.2.2.2.2.2.2.1,In:=x.2.2.2.2.2.2.2.2.2.2.2.2.2.2.2.1,Out:=x.2.2.2.2.2.2.2.2.2.2.2.2.2.2.2.2.1,bT:=x.2.2.2.2.2.2.2.2.2.2.2.2.2.2.2.2.2.1 }:bm),St:=({ aX:=x.2.2.2.2.2.2.2.2.2.2.2.2.2.2.2.2.2.2.1,Next:=x.2.2.2.2.2.2.2.2.2.2.2.2.2.2.2.2.2.2.2.1,dE:=x.2.2.2.2.2.2.2.2.2.2.2.2.2.2.2.2.2.2.2.2.1,aj:=x.2.2.2.2.2.2.2.2.2.2.2.2.2.2.2.2.2.2.2.2.2.1,ae:=x.2.2.2.2.2.2.2.2.2.2.2.2.2.2.2.2.2.2.2.2.2.2.1,aB:=x.2.2.2.2.2.2.2.2.2.2.2.2.2.2.2.2.2.2.2.2.2.2.2.1,kH:=x.2.2.2.2.2.2.2.2.2.2.2.2.2.2.2.2.2.2.2.2.2.2.2.2.1,az:=({ aq:=x.2.2.2.2.2.2.2.2.2.2.2.2.2.2.2.2.2.2.2.2.2.2.2.2.2.1,ai:=x.2.2.2.2.2.2.2.2.2.2.2.2.2.2.2.2.2.2.2.2.2.2.2.2.2.2.1 }:lT) }:ca) }:zdF)
  |10=>λx=>({ ai:=x.1,aH:=x.2.1,aq:=x.2.2.1,aR:=x.2.2.2.1,am:=({ kF:=x.2.2.2.2.1,cT:=x.2.2.2.2.2.1,fC:=x.2.2.2.2.2.2.1,bL:=x.2.2.2.2.2.2.2.1 }:Pt),bS:=x.2.2.2.2.2.2.2.2.1,Mode:=x.2.2.2.2.2.2.2.2.2.1,aj:=x.2.2.2.2.2.2.2.2.2.2.1,jG:=x.2.2.2.2.2.2.2.2.2.2.2.1,aI:=x.2.2.2.2.2.2.2.2.2.2.2.2.1,bo:=x.2.2.2.2.2.2.2.2.2.2.2.2.2.1,dg:=x.2.2.2.2.2.2.2.2.2.2.2.2.2.2.1,In:=x.2.2.2.2.2.2.2.2.2.2.2.2.2.2.2.1,Out:=x.2.2.2.2.2.2.2.2.2.2.2.2.2.2.2.2.1,bT:=x.2.2.2.2.2.2.2.2.2.2.2.2.2.2.2.2.2.1 }:bm)
  |11=>λx=>(x.1,x.2.1,x.2.2.1,x.2.2.2.1)
  |12=>λx=>({ kF:=x.1,cT:=x.2.1,fC:=x.2.2.1,bL:=x.2.2.2.1 }:Pt)
  |13=>λx=>({ MM:=x.1,Xt:=x.2.1 }:Bp)
  |14=>λx=>({ aX:=x.1,Next:=x.2.1,dE:=x.2.2.1,aj:=x.2.2.2.1,ae:=x.2.2.2.2.1,aB:=x.2.2.2.2.2.1,kH:=x.2.2.2.2.2.2.1,az:=({ aq:=x.2.2.2.2.2.2.2.1,ai:=x.2.2.2.2.2.2.2.2.1 }:lT) }:ca)
  |15=>λx=>({ aW:=x.1,At:=x.2.1,ah:=x.2.2.1 }:fY)
  |16=>λx=>({ Started:=x.1,fE:=x.2.1,zd:=({ aW:=x.2.2.1,dk:=x.2.2.2.1,aF:=x.2.2.2.2.1 }:UY) }:Vu)
  |17=>λx=>({ ay:=({ bA:=x.1,Mem:=x.2.1,bE:=x.2.2.1,bG:=x.2.2.2.1 }:aD),ah:=x.2.2.2.2.1,n_:=x.2.2.2.2.2.1 }:ju)
  |18=>λx=>({ At:=x.1,cq:=({ bA:=x.2.1,Mem:=x.2.2.1,bE:=x.2.2.2.1,bG:=x.2.2.2.2.1 }:aD) }:bM)
  |19=>λx=>x.1
  |20=>λx=>({ fo:=x.1,cE:=x.2.1,cH:=x.2.2.1 }:AD)
  |21=>λx=>({ aX:=x.1,kH:=x.2.1 }:ke)
  |22=>λx=>(x.1,x.2.1,x.2.2.1)
  |23=>λx=>({ zZ:=({ aW:=x.1,At:=x.2.1,ah:=x.2.2.1 }:fY),dW:=({ Id:=x.2.2.2.1,cu:=x.2.2.2.2.1,Queue:=x.2.2.2.2.2.1,aL:=x.2.2.2.2.2.2.1,ay:=({ bA:=x.2.2.2.2.2.2.2.1,Mem:=x.2.2.2.2.2.2.2.2.1,bE:=x.2.2.2.2.2.2.2.2.2.1,bG:=x.2.2.2.2.2.2.2.2.2.2.1 }:aD),aO:=x.2.2.2.2.2.2.2.2.2.2.2.1,aF:=x.2.2.2.2.2.2.2.2.2.2.2.2.1,State:=x.2.2.2.2.2.2.2.2.2.2.2.2.2.1,Ok:=x.2.2.2.2.2.2.2.2.2.2.2.2.2.2.1,cG:=x.2.2.2.2.2.2.2.2.2.2.2.2.2.2.2.1,aJ:=x.2.2.2.2.2.2.2.2.2.2.2.2.2.2.2.2.1,cI:=x.2.2.2.2.2.2.2.2.2.2.2.2.2.2.2.2.2.1,Start:=x.2.2.2.2.2.2.2.2.2.2.2.2.2.2.2.2.2.2.1,End:=x.2.2.2.2.2.2.2.2.2.2.2.2.2.2.2.2.2.2.2.1,Array:=x.2.2.2.2.2.2.2.2.2.2.2.2.2.2.2.2.2.2.2.2.1 }:aM) }:zcA)
  |24|25=>λx=>x.1
  |26=>λx=>({ bO:=x.1,To:=x.2.1,ay:=({ bA:=x.2.2.1,Mem:=x.2.2.2.1,bE:=x.2.2.2.2.1,bG:=x.2.2.2.2.2.1 }:aD),ah:=x.2.2.2.2.2.2.1 }:D_)
  |27=>λx=>({ S:=({ ai:=x.1,aH:=x.2.1,aq:=x.2.2.1,aR:=x.2.2.2.1,am:=({ kF:=x.2.2.2.2.1,cT:=x.2.2.2.2.2.1,fC:=x.2.2.2.2.2.2.1,bL:=x.2.2.2.2.2.2.2.1 }:Pt),bS:=x.2.2.2.2.2.2.2.2.1,Mode:=x.2.2.2.2.2.2.2.2.2.1,aj:=x.2.2.2.2.2.2.2.2.2.2.1,jG:=x.2.2.2.2.2.2.2.2.2.2.2.1,aI:=x.2.2.2.2.2.2.2.2.2.2.2.2.1,bo:=x.2.2.2.2.2.2.2.2.2.2.2.2.2.1,dg:=x.2.2.2.2.2.2.2.2.2.2.2.2.2.2.1,In:=x.2.2.2.2.2.2.2.2.2.2.2.2.2.2.2.1,Out:=x.2.2.2.2.2.2.2.2.2.2.2.2.2.2.2.2.1,bT:=x.2.2.2.2.2.2.2.2.2.2.2.2.2.2.2.2.2.1 }:bm),aX:=x.2.2.2.2.2.2.2.2.2.2.2.2.2.2.2.2.2.2.1,L:=x.2.2.2.2.2.2.2.2.2.2.2.2.2.2.2.2.2.2.2.1,aB:=x.2.2.2.2.2.2.2.2.2.2.2.2.2.2.2.2.2.2.2.2.1 }:jt)
  |28=>λx=>({ Part:=x.1,aL:=x.2.1,ay:=({ bA:=x.2.2.1,Mem:=x.2.2.2.1,bE:=x.2.2.2.2.1,bG:=x.2.2.2.2.2.1 }:aD),aO:=x.2.2.2.2.2.2.1 }:AB)
  |_+29=>λx=>x.1
 mp:=λi=>match i with
  |0|1|2|3|4|5|6|7|8|9|10|11|12|13|14|15|16|17|18|19|20|21|22|23|24|25|26|27|28|_+29=>λ_=>rfl
 pm:=λi=>match i with
  |0|1|2|3|4|5|6|7|8|9|10|11|12|13|14|15|16|17|18|19|20|21|22|23|24|25|26|27|28|_+29=>λ_=>rfl
 dn:=λi j h=>match i with
  |0|1|2|3|4|5|6|7|8|9|10|11|12|13|14|15|16|17|18|19|20|21|22|23|24|25|26|27|28|_+29=>yA rfl h
 ps:=λi=>match i with
  |0|1|2|3|4|5|6|7|8|9|10|11|12|13|14|15|16|17|18|19|20|21|22|23|24|25|26|27|28|_+29=>Nat.succ_pos _
end Go.Abs
