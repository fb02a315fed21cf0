/- The program's types. -/
import Derived.Test.YtcndmfkgdaipaaaGreatFwG
import Derived.Test.YtcndmfkgdaipaaaGreatFwH
set_option linter.all false
set_option maxRecDepth 100000
open _root_ renaming Bool->Μ,DecidableEq->ξ,Inhabited->ν,Int->Ζ,List->Β
noncomputable section
namespace Go.Abs
variable[Gl]
@[ext] structure aI where
 bQ:Ζ
 Mem:Ζ
 bU:Ζ
 bX:Ζ
 deriving ξ,ν
def aI.beq(a b:aI):Μ:=(a.bQ == b.bQ&&(a.Mem == b.Mem&&(a.bU == b.bU&&(a.bX == b.bX&&true))))
@[ext] structure ya where
 Part:Ζ
 aS:(Β Ζ)
 jX:Ζ
 jJ:Ζ
 ff:Ζ
 dE:Ζ
 deriving ξ,ν
@[ext] structure MO where
 eH:Ζ
 ce:Ζ
 dE:Ζ
 bg:Ζ
 deriving ξ,ν
def MO.beq(a b:MO):Μ:=(a.eH == b.eH&&(a.ce == b.ce&&(a.dE == b.dE&&(a.bg == b.bg&&true))))
@[ext] structure aW where
 aq:(Β aI)
 aH:(Β (Β Ζ))
 am:(Β ya)
 aS:Ζ
 ae:MO
 bE:Ζ
 Mode:Ζ
 ah:Ζ
 fD:Ζ
 aF:Ζ
 aV:Ζ
 cK:Ζ
 In:Ζ
 Out:Ζ
 bF:Ζ
 deriving ξ,ν
@[ext] structure HW where
 aU:Ζ
 Ok:Μ
 deriving ξ,ν
def HW.beq(a b:HW):Μ:=(a.aU == b.aU&&(a.Ok == b.Ok&&true))
@[ext] structure aJ where
 Id:Ζ
 bJ:Ζ
 Queue:Ζ
 aN:Ζ
 aA:aI
 aR:Ζ
 aE:(Β HW)
 State:Ζ
 Ok:Μ
 cO:Μ
 aL:Ζ
 cJ:Ζ
 Start:Ζ
 End:Ζ
 Array:Ζ
 deriving ξ,ν
@[ext] structure dj where
 Node:Ζ
 aN:Ζ
 deriving ξ,ν
def dj.beq(a b:dj):Μ:=(a.Node == b.Node&&(a.aN == b.aN&&true))
@[ext] structure bL where
 aU:Ζ
 aA:aI
 aj:(Β dj)
 deriving ξ,ν
@[ext] structure fE where
 Id:Ζ
 Node:Ζ
 bT:Ζ
 To:Ζ
 deriving ξ,ν
def fE.beq(a b:fE):Μ:=(a.Id == b.Id&&(a.Node == b.Node&&(a.bT == b.bT&&(a.To == b.To&&true))))
@[ext] structure LA where
 am:(Β Ζ)
 aq:Ζ
 deriving ξ,ν
@[ext] structure bC where
 aM:Ζ
 Next:Ζ
 cw:Ζ
 ah:(Β aJ)
 ai:(Β bL)
 ay:(Β fE)
 dx:(Β Ζ)
 au:LA
 deriving ξ,ν
@[ext] structure zeu where
 S:aW
 St:bC
 deriving ξ,ν
@[ext] structure DY where
 Oy:Ζ
 Zp:(Β aJ)
 deriving ξ,ν
@[ext] structure dG where
 aU:Ζ
 At:Ζ
 aj:(Β dj)
 deriving ξ,ν
@[ext] structure Nl where
 aU:Ζ
 cH:Ζ
 aE:Ζ
 deriving ξ,ν
def Nl.beq(a b:Nl):Μ:=(a.aU == b.aU&&(a.cH == b.cH&&(a.aE == b.aE&&true)))
@[ext] structure Np where
 Started:(Β dG)
 cW:(Β dG)
 nz:Nl
 deriving ξ,ν
@[ext] structure kg where
 aA:aI
 aj:(Β dj)
 pL:Ζ
 deriving ξ,ν
@[ext] structure bV where
 At:Ζ
 cI:aI
 deriving ξ,ν
def bV.beq(a b:bV):Μ:=(a.At == b.At&&(aI.beq a.cI b.cI&&true))
@[ext] structure CN where
 fO:Ζ
 cX:(Β (Β Ζ))
 cU:(Β (Β bV))
 deriving ξ,ν
@[ext] structure kZ where
 aM:Ζ
 dx:(Β Ζ)
 deriving ξ,ν
@[ext] structure zc9 where
 Bw:dG
 eK:aJ
 deriving ξ,ν
@[ext] structure zc5 where
 aM:Ζ
 dx:(Β Ζ)
 deriving ξ,ν
@[ext] structure qG where
 bT:Ζ
 To:Ζ
 aA:aI
 aj:(Β dj)
 deriving ξ,ν
@[ext] structure eY where
 S:aW
 aM:Ζ
 L:(Β qG)
 ay:(Β fE)
 deriving ξ,ν
@[ext] structure Ch where
 Part:Ζ
 aN:Ζ
 aA:aI
 aR:Ζ
 deriving ξ,ν
def Ch.beq(a b:Ch):Μ:=(a.Part == b.Part&&(a.aN == b.aN&&(aI.beq a.aA b.aA&&(a.aR == b.aR&&true))))
def tyT:Nat->Type|0=>aI|1=>Ζ|2=>(Β Ζ)|3=>ya|4=>HW|5=>aJ|6=>dj|7=>bL|8=>fE|9=>zeu|10=>aW|11=>(Ζ×Ζ×Ζ×Ζ)|12=>MO|13=>DY|14=>bC|15=>dG|16=>Np|17=>kg|18=>bV|19=>(Β bV)|20=>CN|21=>kZ|22=>(Ζ×Ζ×Ζ)|23=>zc9|24=>ByteArray|25=>Μ|26=>zc5|27=>(Ζ×Ζ)|28=>qG|29=>eY|30=>Ch|_=>Μ
abbrev iD:CC:=.int .i64
def tyF:Nat->Β CC|0=>[iD,iD,iD,iD]|1=>[iD]|2=>[.sl 1]|3=>[iD,.sl 1,iD,iD,iD,iD]|4=>[iD,.bool]|5=>[iD,iD,iD,iD,iD,iD,iD,iD,iD,.sl 4,iD,.bool,.bool,iD,iD,iD,iD,iD]|6=>[iD,iD]|7=>[iD,iD,iD,iD,iD,.sl 6]|8=>[iD,iD,iD,iD]|9=>[.sl 0,.sl 2,.sl 3,iD,iD,iD,iD,iD,iD,iD,iD,iD,iD,iD,iD,iD,iD,iD,iD,iD,iD,.sl 5,.sl 7,.sl 8,.sl 1,.sl 1,iD]|10=>[.sl 0,.sl 2,.sl 3,iD,iD,iD,iD,iD,iD,iD,iD,iD,iD,iD,iD,iD,iD,iD]|11|12=>[iD,iD,iD,iD]|13=>[iD,.sl 5]|14=>[iD,iD,iD,.sl 5,.sl 7,.sl 8,.sl 1,.sl 1,iD]|15=>[iD,iD,.sl 6]|16=>[.sl 15,.sl 15,iD,iD,iD]|17=>[iD,iD,iD,iD,.sl 6,iD]|18=>[iD,iD,iD,iD,iD]|19=>[.sl 18]|20=>[iD,.sl 2,.sl 19]|21=>[iD,.sl 1]|22=>[iD,iD,iD]|23=>[iD,iD,.sl 6,iD,iD,iD,iD,iD,iD,iD,iD,iD,.sl 4,iD,.bool,.bool,iD,iD,iD,iD,iD]|24=>[.str]|25=>[.bool]|26=>[iD,.sl 1]|27=>[iD,iD]|28=>[iD,iD,iD,iD,iD,iD,.sl 6]|29=>[.sl 0,.sl 2,.sl 3,iD,iD,iD,iD,iD,iD,iD,iD,iD,iD,iD,iD,iD,iD,iD,iD,.sl 28,.sl 8]|30=>[iD,iD,iD,iD,iD,iD,iD]|_=>[.bool]
set_option maxHeartbeats 4000000 in
noncomputable instance ty:Ty where
 T:=tyT
 fl:=tyF
 prj:=λi=>match i with
  |0=>λx=>(x.bQ,x.Mem,x.bU,x.bX,())
  |1|2=>λx=>(x,())
  |3=>λx=>(x.Part,x.aS,x.jX,x.jJ,x.ff,x.dE,())
  |4=>λx=>(x.aU,x.Ok,())
  |5=>λx=>(x.Id,x.bJ,x.Queue,x.aN,x.aA.bQ,x.aA.Mem,x.aA.bU,x.aA.bX,x.aR,x.aE,x.State,x.Ok,x.cO,x.aL,x.cJ,x.Start,x.End,x.Array,())
  |6=>λx=>(x.Node,x.aN,())
  |7=>λx=>(x.aU,x.aA.bQ,x.aA.Mem,x.aA.bU,x.aA.bX,x.aj,())
  |8=>λx=>(x.Id,x.Node,x.bT,x.To,())
  |9=>λx=>(x.S.aq,x.S.aH,x.S.am,x.S.aS,x.S.ae.eH,x.S.ae.ce,x.S.ae.dE,x.S.ae.bg,x.S.bE,x.S.Mode,x.S.ah,x.S.fD,x.S.aF,x.S.aV,x.S.cK,x.S.In,x.S.Out,x.S.bF,x.St.aM,x.St.Next,x.St.cw,x.St.ah,x.St.ai,x.St.ay,x.St.dx,x.St.au.am,x.St.au.aq,())
  |10=>λx=>(x.aq,x.aH,x.am,x.aS,x.ae.eH,x.ae.ce,x.ae.dE,x.ae.bg,x.bE,x.Mode,x.ah,x.fD,x.aF,x.aV,x.cK,x.In,x.Out,x.bF,())
  |11=>λx=>(x.1,x.2.1,x.2.2.1,x.2.2.2,())
  |12=>λx=>(x.eH,x.ce,x.dE,x.bg,())
  |13=>λx=>(x.Oy,x.Zp,())
  |14=>λx=>(x.aM,x.Next,x.cw,x.ah,x.ai,x.ay,x.dx,x.au.am,x.au.aq,())
  |15=>λx=>(x.aU,x.At,x.aj,())
  |16=>λx=>(x.Started,x.cW,x.nz.aU,x.nz.cH,x.nz.aE,())
  |17=>λx=>(x.aA.bQ,x.aA.Mem,x.aA.bU,x.aA.bX,x.aj,x.pL,())
  |18=>λx=>(x.At,x.cI.bQ,x.cI.Mem,x.cI.bU,x.cI.bX,())
  |19=>λx=>(x,())
  |20=>λx=>(x.fO,x.cX,x.cU,())
  |21=>λx=>(x.aM,x.dx,())
  |22=>λx=>(x.1,x.2.1,x.2.2,())
  |23=>λx=>(x.Bw.aU,x.Bw.At,x.Bw.aj,x.eK.Id,x.eK.bJ,x.eK.Queue,x.eK.aN,x.eK.aA.bQ,x.eK.aA.Mem,x.eK.aA.bU,x.eK.aA.bX,x.eK.aR,x.eK.aE,x.eK.State,x.eK.Ok,x.eK.cO,x.eK.aL,x.eK.cJ,x.eK.Start,x.eK.End,x.eK.Array,())
  |24|25=>λx=>(x,())
  |26=>λx=>(x.aM,x.dx,())
  |27=>λx=>(x.1,x.2,())
  |28=>λx=>(x.bT,x.To,x.aA.bQ,x.aA.Mem,x.aA.bU,x.aA.bX,x.aj,())
  |29=>λx=>(x.S.aq,x.S.aH,x.S.am,x.S.aS,x.S.ae.eH,x.S.ae.ce,x.S.ae.dE,x.S.ae.bg,x.S.bE,x.S.Mode,x.S.ah,x.S.fD,x.S.aF,x.S.aV,x.S.cK,x.S.In,x.S.Out,x.S.bF,x.aM,x.L,x.ay,())
  |30=>λx=>(x.Part,x.aN,x.aA.bQ,x.aA.Mem,x.aA.bU,x.aA.bX,x.aR,())
  |_+31=>λx=>(x,())
 mkt:=λi=>match i with
  |0=>λx=>({ bQ:=x.1,Mem:=x.2.1,bU:=x.2.2.1,bX:=x.2.2.2.1 }:aI)
  |1|2=>λx=>x.1
  |3=>λx=>({ Part:=x.1,aS:=x.2.1,jX:=x.2.2.1,jJ:=x.2.2.2.1,ff:=x.2.2.2.2.1,dE:=x.2.2.2.2.2.1 }:ya)
  |4=>λx=>({ aU:=x.1,Ok:=x.2.1 }:HW)
  |5=>λx=>({ Id:=x.1,bJ:=x.2.1,Queue:=x.2.2.1,aN:=x.2.2.2.1,aA:=({ bQ:=x.2.2.2.2.1,Mem:=x.2.2.2.2.2.1,bU:=x.2.2.2.2.2.2.1,bX:=x.2.2.2.2.2.2.2.1 }:aI),aR:=x.2.2.2.2.2.2.2.2.1,aE:=x.2.2.2.2.2.2.2.2.2.1,State:=x.2.2.2.2.2.2.2.2.2.2.1,Ok:=x.2.2.2.2.2.2.2.2.2.2.2.1,cO:=x.2.2.2.2.2.2.2.2.2.2.2.2.1,aL:=x.2.2.2.2.2.2.2.2.2.2.2.2.2.1,cJ:=x.2.2.2.2.2.2.2.2.2.2.2.2.2.2.1,Start:=x.2.2.2.2.2.2.2.2.2.2.2.2.2.2.2.1,End:=x.2.2.2.2.2.2.2.2.2.2.2.2.2.2.2.2.1,Array:=x.2.2.2.2.2.2.2.2.2.2.2.2.2.2.2.2.2.1 }:aJ)
  |6=>λx=>({ Node:=x.1,aN:=x.2.1 }:dj)
  |7=>λx=>({ aU:=x.1,aA:=({ bQ:=x.2.1,Mem:=x.2.2.1,bU:=x.2.2.2.1,bX:=x.2.2.2.2.1 }:aI),aj:=x.2.2.2.2.2.1 }:bL)
  |8=>λx=>({ Id:=x.1,Node:=x.2.1,bT:=x.2.2.1,To:=x.2.2.2.1 }:fE)
  |9=>λx=>({ S:=({ aq:=x.1,aH:=x.2.1,am:=x.2.2.1,aS:=x.2.2.2.1,ae:=({ eH:=x.2.2.2.2.1,ce:=x.2.2.2.2.2.1,dE:=x.2.2.2.2.2.2.1,bg:=x.2.2.2.2.2.2.2.1 }:MO),bE:=x.2.2.2.2.2.2.2.2.1,Mode:=x.2.2.2.2.2.2.2.2.2.1,ah:=x.2.2.2.2.2.2.2.2.2.2.1,fD:=x.2.2.2.2.2.2.2.2.2.2.2.1,aF:=x.2.2.2.2.2.2.2.2.2.2.2.2.1,aV:=x.2.2.2.2.2.2.2.2.2.2.2.2.2.1,cK:=x.2.2.2.2.2.2.2.2.2.2.2.2.2.2.1,In:=x.2.2.2.2.2.2.2.2.2.2.2.2.2.2.2.1,Out:=x.2.2.2.2.2.2.2.2.2.2.2.2.2.2.2.2.1,bF:=x.2.2.2.2.2.2.2.2.2.2.2.2.2.2.2.2.2.1 }:aW),St:=({ aM:=x.2.2.2.2.2.2.2.2.2.2.2.2.2.2.2.2.2.2.1,Next:=x.2.2.2.2.2.2.2.2.2.2.2.2.2.2.2.2.2.2.2.1,cw:=x.2.2.2.2.2.2.2.2.2.2.2.2.2.2.2.2.2.2.2.2.1,ah:=x.2.2.2.2.2.2.2.2.2.2.2.2.2.2.2.2.2.2.2.2.2.1,ai:=x.2.2.2.2.2.2.2.2.2.2.2.2.2.2.2.2.2.2.2.2.2.2.1,ay:=x.2.2.2.2.2.2.2.2.2.2.2.2.2.2.2.2.2.2.2.2.2.2.2.1,dx:=x.2.2.2.2.2.2.2.2.2.2.2.2.2.2.2.2.2.2.2.2.2.2.2.2.1,au:=({ am:=x.2.2.2.2.2.2.2.2.2.2.2.2.2.2.2.2.2.2.2.2.2.2.2.2.2.1,aq:=x.2.2.2.2.2.2.2.2.2.2.2.2.2.2.2.2.2.2.2.2.2.2.2.2.2.2.1 }:LA) }:bC) }:zeu)
  |10=>λx=>({ aq:=x.1,aH:=x.2.1,am:=x.2.2.1,aS:=x.2.2.2.1,ae:=({ eH:=x.2.2.2.2.1,ce:=x.2.2.2.2.2.1,dE:=x.2.2.2.2.2.2.1,bg:=x.2.2.2.2.2.2.2.1 }:MO),bE:=x.2.2.2.2.2.2.2.2.1,Mode:=x.2.2.2.2.2.2.2.2.2.1,ah:=x.2.2.2.2.2.2.2.2.2.2.1,fD:=x.2.2.2.2.2.2.2.2.2.2.2.1,aF:=x.2.2.2.2.2.2.2.2.2.2.2.2.1,aV:=x.2.2.2.2.2.2.2.2.2.2.2.2.2.1,cK:=x.2.2.2.2.2.2.2.2.2.2.2.2.2.2.1,In:=x.2.2.2.2.2.2.2.2.2.2.2.2.2.2.2.1,Out:=x.2.2.2.2.2.2.2.2.2.2.2.2.2.2.2.2.1,bF:=x.2.2.2.2.2.2.2.2.2.2.2.2.2.2.2.2.2.1 }:aW)
  |11=>λx=>(x.1,x.2.1,x.2.2.1,x.2.2.2.1)
  |12=>λx=>({ eH:=x.1,ce:=x.2.1,dE:=x.2.2.1,bg:=x.2.2.2.1 }:MO)
  |13=>λx=>({ Oy:=x.1,Zp:=x.2.1 }:DY)
  |14=>λx=>({ aM:=x.1,Next:=x.2.1,cw:=x.2.2.1,ah:=x.2.2.2.1,ai:=x.2.2.2.2.1,ay:=x.2.2.2.2.2.1,dx:=x.2.2.2.2.2.2.1,au:=({ am:=x.2.2.2.2.2.2.2.1,aq:=x.2.2.2.2.2.2.2.2.1 }:LA) }:bC)
  |15=>λx=>({ aU:=x.1,At:=x.2.1,aj:=x.2.2.1 }:dG)
  |16=>λx=>({ Started:=x.1,cW:=x.2.1,nz:=({ aU:=x.2.2.1,cH:=x.2.2.2.1,aE:=x.2.2.2.2.1 }:Nl) }:Np)
  |17=>λx=>({ aA:=({ bQ:=x.1,Mem:=x.2.1,bU:=x.2.2.1,bX:=x.2.2.2.1 }:aI),aj:=x.2.2.2.2.1,pL:=x.2.2.2.2.2.1 }:kg)
  |18=>λx=>({ At:=x.1,cI:=({ bQ:=x.2.1,Mem:=x.2.2.1,bU:=x.2.2.2.1,bX:=x.2.2.2.2.1 }:aI) }:bV)
  |19=>λx=>x.1
  |20=>λx=>({ fO:=x.1,cX:=x.2.1,cU:=x.2.2.1 }:CN)
  |21=>λx=>({ aM:=x.1,dx:=x.2.1 }:kZ)
  |22=>λx=>(x.1,x.2.1,x.2.2.1)
  |23=>λx=>({ Bw:=({ aU:=x.1,At:=x.2.1,aj:=x.2.2.1 }:dG),eK:=({ Id:=x.2.2.2.1,bJ:=x.2.2.2.2.1,Queue:=x.2.2.2.2.2.1,aN:=x.2.2.2.2.2.2.1,aA:=({ bQ:=x.2.2.2.2.2.2.2.1,Mem:=x.2.2.2.2.2.2.2.2.1,bU:=x.2.2.2.2.2.2.2.2.2.1,bX:=x.2.2.2.2.2.2.2.2.2.2.1 }:aI),aR:=x.2.2.2.2.2.2.2.2.2.2.2.1,aE:=x.2.2.2.2.2.2.2.2.2.2.2.2.1,State:=x.2.2.2.2.2.2.2.2.2.2.2.2.2.1,Ok:=x.2.2.2.2.2.2.2.2.2.2.2.2.2.2.1,cO:=x.2.2.2.2.2.2.2.2.2.2.2.2.2.2.2.1,aL:=x.2.2.2.2.2.2.2.2.2.2.2.2.2.2.2.2.1,cJ:=x.2.2.2.2.2.2.2.2.2.2.2.2.2.2.2.2.2.1,Start:=x.2.2.2.2.2.2.2.2.2.2.2.2.2.2.2.2.2.2.1,End:=x.2.2.2.2.2.2.2.2.2.2.2.2.2.2.2.2.2.2.2.1,Array:=x.2.2.2.2.2.2.2.2.2.2.2.2.2.2.2.2.2.2.2.2.1 }:aJ) }:zc9)
  |24|25=>λx=>x.1
  |26=>λx=>({ aM:=x.1,dx:=x.2.1 }:zc5)
  |27=>λx=>(x.1,x.2.1)
  |28=>λx=>({ bT:=x.1,To:=x.2.1,aA:=({ bQ:=x.2.2.1,Mem:=x.2.2.2.1,bU:=x.2.2.2.2.1,bX:=x.2.2.2.2.2.1 }:aI),aj:=x.2.2.2.2.2.2.1 }:qG)
  |29=>λx=>({ S:=({ aq:=x.1,aH:=x.2.1,am:=x.2.2.1,aS:=x.2.2.2.1,ae:=({ eH:=x.2.2.2.2.1,ce:=x.2.2.2.2.2.1,dE:=x.2.2.2.2.2.2.1,bg:=x.2.2.2.2.2.2.2.1 }:MO),bE:=x.2.2.2.2.2.2.2.2.1,Mode:=x.2.2.2.2.2.2.2.2.2.1,ah:=x.2.2.2.2.2.2.2.2.2.2.1,fD:=x.2.2.2.2.2.2.2.2.2.2.2.1,aF:=x.2.2.2.2.2.2.2.2.2.2.2.2.1,aV:=x.2.2.2.2.2.2.2.2.2.2.2.2.2.1,cK:=x.2.2.2.2.2.2.2.2.2.2.2.2.2.2.1,In:=x.2.2.2.2.2.2.2.2.2.2.2.2.2.2.2.1,Out:=x.2.2.2.2.2.2.2.2.2.2.2.2.2.2.2.2.1,bF:=x.2.2.2.2.2.2.2.2.2.2.2.2.2.2.2.2.2.1 }:aW),aM:=x.2.2.2.2.2.2.2.2.2.2.2.2.2.2.2.2.2.2.1,L:=x.2.2.2.2.2.2.2.2.2.2.2.2.2.2.2.2.2.2.2.1,ay:=x.2.2.2.2.2.2.2.2.2.2.2.2.2.2.2.2.2.2.2.2.1 }:eY)
  |30=>λx=>({ Part:=x.1,aN:=x.2.1,aA:=({ bQ:=x.2.2.1,Mem:=x.2.2.2.1,bU:=x.2.2.2.2.1,bX:=x.2.2.2.2.2.1 }:aI),aR:=x.2.2.2.2.2.2.1 }:Ch)
  |_+31=>λx=>x.1
 mp:=λi=>match i with
  |0|1|2|3|4|5|6|7|8|9|10|11|12|13|14|15|16|17|18|19|20|21|22|23|24|25|26|27|28|29|30|_+31=>λ_=>rfl
 pm:=λi=>match i with
  |0|1|2|3|4|5|6|7|8|9|10|11|12|13|14|15|16|17|18|19|20|21|22|23|24|25|26|27|28|29|30|_+31=>λ_=>rfl
 dn:=λi j h=>match i with
  |0|1|2|3|4|5|6|7|8|9|10|11|12|13|14|15|16|17|18|19|20|21|22|23|24|25|26|27|28|29|30|_+31=>zP rfl h
 ps:=λi=>match i with
  |0|1|2|3|4|5|6|7|8|9|10|11|12|13|14|15|16|17|18|19|20|21|22|23|24|25|26|27|28|29|30|_+31=>Nat.succ_pos _
end Go.Abs
