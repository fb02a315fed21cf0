/- The program's types. -/
import Derived.Test.YtcndmfkgdaipaaaGreatFwG
import Derived.Test.YtcndmfkgdaipaaaGreatFwH
set_option linter.all false
set_option maxRecDepth 100000
noncomputable section
namespace Go.Abs
variable[Gl]
@[ext] structure aE where
 bG:Int
 Mem:Int
 bK:Int
 bM:Int
 deriving DecidableEq,Inhabited
def aE.beq(a b:aE):Bool:=(a.bG == b.bG&&(a.Mem == b.Mem&&(a.bK == b.bK&&(a.bM == b.bM&&true))))
@[ext] structure Bh where
 Part:Int
 aU:(List Int)
 jy:Int
 kQ:Int
 fA:Int
 fH:Int
 deriving DecidableEq,Inhabited
@[ext] structure LR where
 lj:Int
 cW:Int
 fH:Int
 bQ:Int
 deriving DecidableEq,Inhabited
def LR.beq(a b:LR):Bool:=(a.lj == b.lj&&(a.cW == b.cW&&(a.fH == b.fH&&(a.bQ == b.bQ&&true))))
@[ext] structure bg where
 aj:(List aE)
 aH:(List (List Int))
 aq:(List Bh)
 aU:Int
 am:LR
 bW:Int
 Mode:Int
 ah:Int
 kf:Int
 aI:Int
 bp:Int
 dk:Int
 In:Int
 Out:Int
 bV:Int
 deriving DecidableEq,Inhabited
@[ext] structure Ht where
 aW:Int
 Ok:Bool
 deriving DecidableEq,Inhabited
def Ht.beq(a b:Ht):Bool:=(a.aW == b.aW&&(a.Ok == b.Ok&&true))
@[ext] structure aJ where
 Id:Int
 cw:Int
 Queue:Int
 aK:Int
 aw:aE
 aQ:Int
 aF:(List Ht)
 State:Int
 Ok:Bool
 cQ:Bool
 aL:Int
 cT:Int
 Start:Int
 End:Int
 Array:Int
 deriving DecidableEq,Inhabited
@[ext] structure cM where
 Node:Int
 aK:Int
 deriving DecidableEq,Inhabited
def cM.beq(a b:cM):Bool:=(a.Node == b.Node&&(a.aK == b.aK&&true))
@[ext] structure bO where
 aW:Int
 aw:aE
 ai:(List cM)
 deriving DecidableEq,Inhabited
@[ext] structure iN where
 Id:Int
 Node:Int
 bJ:Int
 To:Int
 deriving DecidableEq,Inhabited
def iN.beq(a b:iN):Bool:=(a.Id == b.Id&&(a.Node == b.Node&&(a.bJ == b.bJ&&(a.To == b.To&&true))))
@[ext] structure zdO where
 aq:(List Int)
 aj:Int
 deriving DecidableEq,Inhabited
@[ext] structure bT where
 aP:Int
 Next:Int
 dw:Int
 ah:(List aJ)
 ae:(List bO)
 az:(List iN)
 jA:(List Int)
 aB:zdO
 deriving DecidableEq,Inhabited
@[ext] structure zcY where
 S:bg
 St:bT
 deriving DecidableEq,Inhabited
@[ext] structure CY where
 Ol:Int
 Yg:(List aJ)
 deriving DecidableEq,Inhabited
@[ext] structure gD where
 aW:Int
 At:Int
 ai:(List cM)
 deriving DecidableEq,Inhabited
@[ext] structure UA where
 aW:Int
 c_:Int
 aF:Int
 deriving DecidableEq,Inhabited
def UA.beq(a b:UA):Bool:=(a.aW == b.aW&&(a.c_ == b.c_&&(a.aF == b.aF&&true)))
@[ext] structure zdJ where
 Started:(List gD)
 jH:(List gD)
 sM:UA
 deriving DecidableEq,Inhabited
@[ext] structure jJ where
 aw:aE
 ai:(List cM)
 pc:Int
 deriving DecidableEq,Inhabited
@[ext] structure bP where
 At:Int
 cz:aE
 deriving DecidableEq,Inhabited
def bP.beq(a b:bP):Bool:=(a.At == b.At&&(aE.beq a.cz b.cz&&true))
@[ext] structure Cg where
 fq:Int
 cH:(List (List Int))
 cI:(List (List bP))
 deriving DecidableEq,Inhabited
@[ext] structure jO where
 aP:Int
 jA:(List Int)
 deriving DecidableEq,Inhabited
@[ext] structure qp where
 bJ:Int
 To:Int
 aw:aE
 ai:(List cM)
 deriving DecidableEq,Inhabited
@[ext] structure fi where
 S:bg
 aP:Int
 L:(List qp)
 az:(List iN)
 deriving DecidableEq,Inhabited
@[ext] structure Bb where
 Part:Int
 aK:Int
 aw:aE
 aQ:Int
 deriving DecidableEq,Inhabited
def Bb.beq(a b:Bb):Bool:=(a.Part == b.Part&&(a.aK == b.aK&&(aE.beq a.aw b.aw&&(a.aQ == b.aQ&&true))))
def tyT:Nat->Type
 |0=>aE
 |1=>Int
 |2=>(List Int)
 |3=>Bh
 |4=>Ht
 |5=>aJ
 |6=>cM
 |7=>bO
 |8=>iN
 |9=>zcY
 |10=>bg
 |11=>(Int×Int×Int×Int)
 |12=>LR
 |13=>CY
 |14=>gD
 |15=>zdJ
 |16=>bT
 |17=>jJ
 |18=>bP
 |19=>(List bP)
 |20=>Cg
 |21=>jO
 |22=>(Int×Int×Int)
 |23=>ByteArray
 |24=>Bool
 |25=>(Int×Int)
 |26=>qp
 |27=>fi
 |28=>Bb
 |_=>Bool
abbrev iD:CC:=.int .i64
def tyF:Nat->List CC
 |0=>[iD,iD,iD,iD]
 |1=>[iD]
 |2=>[.sl 1]
 |3=>[iD,.sl 1,iD,iD,iD,iD]
 |4=>[iD,.bool]
 |5=>[iD,iD,iD,iD,iD,iD,iD,iD,iD,.sl 4,iD,.bool,.bool,iD,iD,iD,iD,iD]
 |6=>[iD,iD]
 |7=>[iD,iD,iD,iD,iD,.sl 6]
 |8=>[iD,iD,iD,iD]
 |9=>[.sl 0,.sl 2,.sl 3,iD,iD,iD,iD,iD,iD,iD,iD,iD,iD,iD,iD,iD,iD,iD,iD,iD,iD,.sl 5,.sl 7,.sl 8,.sl 1,.sl 1,iD]
 |10=>[.sl 0,.sl 2,.sl 3,iD,iD,iD,iD,iD,iD,iD,iD,iD,iD,iD,iD,iD,iD,iD]
 |11|12=>[iD,iD,iD,iD]
 |13=>[iD,.sl 5]
 |14=>[iD,iD,.sl 6]
 |15=>[.sl 14,.sl 14,iD,iD,iD]
 |16=>[iD,iD,iD,.sl 5,.sl 7,.sl 8,.sl 1,.sl 1,iD]
 |17=>[iD,iD,iD,iD,.sl 6,iD]
 |18=>[iD,iD,iD,iD,iD]
 |19=>[.sl 18]
 |20=>[iD,.sl 2,.sl 19]
 |21=>[iD,.sl 1]
 |22=>[iD,iD,iD]
 |23=>[.str]
 |24=>[.bool]
 |25=>[iD,iD]
 |26=>[iD,iD,iD,iD,iD,iD,.sl 6]
 |27=>[.sl 0,.sl 2,.sl 3,iD,iD,iD,iD,iD,iD,iD,iD,iD,iD,iD,iD,iD,iD,iD,iD,.sl 26,.sl 8]
 |28=>[iD,iD,iD,iD,iD,iD,iD]
 |_=>[.bool]
set_option maxHeartbeats 4000000 in
noncomputable instance ty:Ty where
 T:=tyT
 fl:=tyF
 prj:=λi=>match i with
  |0=>λx=>(x.bG,x.Mem,x.bK,x.bM,())
  |1|2=>λx=>(x,())
  |3=>λx=>(x.Part,x.aU,x.jy,x.kQ,x.fA,x.fH,())
  |4=>λx=>(x.aW,x.Ok,())
  |5=>λx=>(x.Id,x.cw,x.Queue,x.aK,x.aw.bG,x.aw.Mem,x.aw.bK,x.aw.bM,x.aQ,x.aF,x.State,x.Ok,x.cQ,x.aL,x.cT,x.Start,x.End,x.Array,())
  |6=>λx=>(x.Node,x.aK,())
  |7=>λx=>(x.aW,x.aw.bG,x.aw.Mem,x.aw.bK,x.aw.bM,x.ai,())
  |8=>λx=>(x.Id,x.Node,x.bJ,x.To,())
  |9=>λx=>(x.S.aj,x.S.aH,x.S.aq,x.S.aU,x.S.am.lj,x.S.am.cW,x.S.am.fH,x.S.am.bQ,x.S.bW,x.S.Mode,x.S.ah,x.S.kf,x.S.aI,x.S.bp,x.S.dk,x.S.In,x.S.Out,x.S.bV,x.St.aP,x.St.Next,x.St.dw,x.St.ah,x.St.ae,x.St.az,x.St.jA,x.St.aB.aq,x.St.aB.aj,())
  |10=>λx=>(x.aj,x.aH,x.aq,x.aU,x.am.lj,x.am.cW,x.am.fH,x.am.bQ,x.bW,x.Mode,x.ah,x.kf,x.aI,x.bp,x.dk,x.In,x.Out,x.bV,())
  |11=>λx=>(x.1,x.2.1,x.2.2.1,x.2.2.2,())
  |12=>λx=>(x.lj,x.cW,x.fH,x.bQ,())
  |13=>λx=>(x.Ol,x.Yg,())
  |14=>λx=>(x.aW,x.At,x.ai,())
  |15=>λx=>(x.Started,x.jH,x.sM.aW,x.sM.c_,x.sM.aF,())
  |16=>λx=>(x.aP,x.Next,x.dw,x.ah,x.ae,x.az,x.jA,x.aB.aq,x.aB.aj,())
  |17=>λx=>(x.aw.bG,x.aw.Mem,x.aw.bK,x.aw.bM,x.ai,x.pc,())
  |18=>λx=>(x.At,x.cz.bG,x.cz.Mem,x.cz.bK,x.cz.bM,())
  |19=>λx=>(x,())
  |20=>λx=>(x.fq,x.cH,x.cI,())
  |21=>λx=>(x.aP,x.jA,())
  |22=>λx=>(x.1,x.2.1,x.2.2,())
  |23|24=>λx=>(x,())
  |25=>λx=>(x.1,x.2,())
  |26=>λx=>(x.bJ,x.To,x.aw.bG,x.aw.Mem,x.aw.bK,x.aw.bM,x.ai,())
  |27=>λx=>(x.S.aj,x.S.aH,x.S.aq,x.S.aU,x.S.am.lj,x.S.am.cW,x.S.am.fH,x.S.am.bQ,x.S.bW,x.S.Mode,x.S.ah,x.S.kf,x.S.aI,x.S.bp,x.S.dk,x.S.In,x.S.Out,x.S.bV,x.aP,x.L,x.az,())
  |28=>λx=>(x.Part,x.aK,x.aw.bG,x.aw.Mem,x.aw.bK,x.aw.bM,x.aQ,())
  |_+29=>λx=>(x,())
 mkt:=λi=>match i with
  |0=>λx=>({ bG:=x.1,Mem:=x.2.1,bK:=x.2.2.1,bM:=x.2.2.2.1 }:aE)
  |1|2=>λx=>x.1
  |3=>λx=>({ Part:=x.1,aU:=x.2.1,jy:=x.2.2.1,kQ:=x.2.2.2.1,fA:=x.2.2.2.2.1,fH:=x.2.2.2.2.2.1 }:Bh)
  |4=>λx=>({ aW:=x.1,Ok:=x.2.1 }:Ht)
  |5=>λx=>({ Id:=x.1,cw:=x.2.1,Queue:=x.2.2.1,aK:=x.2.2.2.1,aw:=({ bG:=x.2.2.2.2.1,Mem:=x.2.2.2.2.2.1,bK:=x.2.2.2.2.2.2.1,bM:=x.2.2.2.2.2.2.2.1 }:aE),aQ:=x.2.2.2.2.2.2.2.2.1,aF:=x.2.2.2.2.2.2.2.2.2.1,State:=x.2.2.2.2.2.2.2.2.2.2.1,Ok:=x.2.2.2.2.2.2.2.2.2.2.2.1,cQ:=x.2.2.2.2.2.2.2.2.2.2.2.2.1,aL:=x.2.2.2.2.2.2.2.2.2.2.2.2.2.1,cT:=x.2.2.2.2.2.2.2.2.2.2.2.2.2.2.1,Start:=x.2.2.2.2.2.2.2.2.2.2.2.2.2.2.2.1,End:=x.2.2.2.2.2.2.2.2.2.2.2.2.2.2.2.2.1,Array:=x.2.2.2.2.2.2.2.2.2.2.2.2.2.2.2.2.2.1 }:aJ)
  |6=>λx=>({ Node:=x.1,aK:=x.2.1 }:cM)
  |7=>λx=>({ aW:=x.1,aw:=({ bG:=x.2.1,Mem:=x.2.2.1,bK:=x.2.2.2.1,bM:=x.2.2.2.2.1 }:aE),ai:=x.2.2.2.2.2.1 }:bO)
  |8=>λx=>({ Id:=x.1,Node:=x.2.1,bJ:=x.2.2.1,To:=x.2.2.2.1 }:iN)
  |9=>λx=>({ S:=({ aj:=x.1,aH:=x.2.1,aq:=x.2.2.1,aU:=x.2.2.2.1,am:=({ lj:=x.2.2.2.2.1,cW:=x.2.2.2.2.2.1,fH:=x.2.2.2.2.2.2.1,bQ:=x.2.2.2.2.2.2.2.1 }:LR),bW:=x.2.2.2.2.2.2.2.2.1,Mode:=x.2.2.2.2.2.2.2.2.2.1,ah:=x.2.2.2.2.2.2.2.2.2.2.1,kf:=x.2.2.2.2.2.2.2.2.2.2.2.1,aI:=x.2.2.2.2.2.2.2.2.2.2.2.2.1,bp:=x.2.2.2.2.2.2.2.2.2.2.2.2.2.1,dk:=x.2.2.2.2.2.2.2.2.2.2.2.2.2.2.1,In:=x.2.2.2.2.2.2.2.2.2.2.2.2.2.2.2.1,Out:=x.2.2.2.2.2.2.2.2.2.2.2.2.2.2.2.2.1,bV:=x.2.2.2.2.2.2.2.2.2.2.2.2.2.2.2.2.2.1 }:bg),St:=({ aP:=x.2.2.2.2.2.2.2.2.2.2.2.2.2.2.2.2.2.2.1,Next:=x.2.2.2.2.2.2.2.2.2.2.2.2.2.2.2.2.2.2.2.1,dw:=x.2.2.2.2.2.2.2.2.2.2.2.2.2.2.2.2.2.2.2.2.1,ah:=x.2.2.2.2.2.2.2.2.2.2.2.2.2.2.2.2.2.2.2.2.2.1,ae:=x.2.2.2.2.2.2.2.2.2.2.2.2.2.2.2.2.2.2.2.2.2.2.1,az:=x.2.2.2.2.2.2.2.2.2.2.2.2.2.2.2.2.2.2.2.2.2.2.2.1,jA:=x.2.2.2.2.2.2.2.2.2.2.2.2.2.2.2.2.2.2.2.2.2.2.2.2.1,aB:=({ aq:=x.2.2.2.2.2.2.2.2.2.2.2.2.2.2.2.2.2.2.2.2.2.2.2.2.2.1,aj:=x.2.2.2.2.2.2.2.2.2.2.2.2.2.2.2.2.2.2.2.2.2.2.2.2.2.2.1 }:zdO) }:bT) }:zcY)
  |10=>λx=>({ aj:=x.1,aH:=x.2.1,aq:=x.2.2.1,aU:=x.2.2.2.1,am:=({ lj:=x.2.2.2.2.1,cW:=x.2.2.2.2.2.1,fH:=x.2.2.2.2.2.2.1,bQ:=x.2.2.2.2.2.2.2.1 }:LR),bW:=x.2.2.2.2.2.2.2.2.1,Mode:=x.2.2.2.2.2.2.2.2.2.1,ah:=x.2.2.2.2.2.2.2.2.2.2.1,kf:=x.2.2.2.2.2.2.2.2.2.2.2.1,aI:=x.2.2.2.2.2.2.2.2.2.2.2.2.1,bp:=x.2.2.2.2.2.2.2.2.2.2.2.2.2.1,dk:=x.2.2.2.2.2.2.2.2.2.2.2.2.2.2.1,In:=x.2.2.2.2.2.2.2.2.2.2.2.2.2.2.2.1,Out:=x.2.2.2.2.2.2.2.2.2.2.2.2.2.2.2.2.1,bV:=x.2.2.2.2.2.2.2.2.2.2.2.2.2.2.2.2.2.1 }:bg)
  |11=>λx=>(x.1,x.2.1,x.2.2.1,x.2.2.2.1)
  |12=>λx=>({ lj:=x.1,cW:=x.2.1,fH:=x.2.2.1,bQ:=x.2.2.2.1 }:LR)
  |13=>λx=>({ Ol:=x.1,Yg:=x.2.1 }:CY)
  |14=>λx=>({ aW:=x.1,At:=x.2.1,ai:=x.2.2.1 }:gD)
  |15=>λx=>({ Started:=x.1,jH:=x.2.1,sM:=({ aW:=x.2.2.1,c_:=x.2.2.2.1,aF:=x.2.2.2.2.1 }:UA) }:zdJ)
  |16=>λx=>({ aP:=x.1,Next:=x.2.1,dw:=x.2.2.1,ah:=x.2.2.2.1,ae:=x.2.2.2.2.1,az:=x.2.2.2.2.2.1,jA:=x.2.2.2.2.2.2.1,aB:=({ aq:=x.2.2.2.2.2.2.2.1,aj:=x.2.2.2.2.2.2.2.2.1 }:zdO) }:bT)
  |17=>λx=>({ aw:=({ bG:=x.1,Mem:=x.2.1,bK:=x.2.2.1,bM:=x.2.2.2.1 }:aE),ai:=x.2.2.2.2.1,pc:=x.2.2.2.2.2.1 }:jJ)
  |18=>λx=>({ At:=x.1,cz:=({ bG:=x.2.1,Mem:=x.2.2.1,bK:=x.2.2.2.1,bM:=x.2.2.2.2.1 }:aE) }:bP)
  |19=>λx=>x.1
  |20=>λx=>({ fq:=x.1,cH:=x.2.1,cI:=x.2.2.1 }:Cg)
  |21=>λx=>({ aP:=x.1,jA:=x.2.1 }:jO)
  |22=>λx=>(x.1,x.2.1,x.2.2.1)
  |23|24=>λx=>x.1
  |25=>λx=>(x.1,x.2.1)
  |26=>λx=>({ bJ:=x.1,To:=x.2.1,aw:=({ bG:=x.2.2.1,Mem:=x.2.2.2.1,bK:=x.2.2.2.2.1,bM:=x.2.2.2.2.2.1 }:aE),ai:=x.2.2.2.2.2.2.1 }:qp)
  |27=>λx=>({ S:=({ aj:=x.1,aH:=x.2.1,aq:=x.2.2.1,aU:=x.2.2.2.1,am:=({ lj:=x.2.2.2.2.1,cW:=x.2.2.2.2.2.1,fH:=x.2.2.2.2.2.2.1,bQ:=x.2.2.2.2.2.2.2.1 }:LR),bW:=x.2.2.2.2.2.2.2.2.1,Mode:=x.2.2.2.2.2.2.2.2.2.1,ah:=x.2.2.2.2.2.2.2.2.2.2.1,kf:=x.2.2.2.2.2.2.2.2.2.2.2.1,aI:=x.2.2.2.2.2.2.2.2.2.2.2.2.1,bp:=x.2.2.2.2.2.2.2.2.2.2.2.2.2.1,dk:=x.2.2.2.2.2.2.2.2.2.2.2.2.2.2.1,In:=x.2.2.2.2.2.2.2.2.2.2.2.2.2.2.2.1,Out:=x.2.2.2.2.2.2.2.2.2.2.2.2.2.2.2.2.1,bV:=x.2.2.2.2.2.2.2.2.2.2.2.2.2.2.2.2.2.1 }:bg),aP:=x.2.2.2.2.2.2.2.2.2.2.2.2.2.2.2.2.2.2.1,L:=x.2.2.2.2.2.2.2.2.2.2.2.2.2.2.2.2.2.2.2.1,az:=x.2.2.2.2.2.2.2.2.2.2.2.2.2.2.2.2.2.2.2.2.1 }:fi)
  |28=>λx=>({ Part:=x.1,aK:=x.2.1,aw:=({ bG:=x.2.2.1,Mem:=x.2.2.2.1,bK:=x.2.2.2.2.1,bM:=x.2.2.2.2.2.1 }:aE),aQ:=x.2.2.2.2.2.2.1 }:Bb)
  |_+29=>λx=>x.1
 mp:=λi=>match i with
  |0|1|2|3|4|5|6|7|8|9|10|11|12|13|14|15|16|17|18|19|20|21|22|23|24|25|26|27|28|_+29=>λ_=>rfl
 pm:=λi=>match i with
  |0|1|2|3|4|5|6|7|8|9|10|11|12|13|14|15|16|17|18|19|20|21|22|23|24|25|26|27|28|_+29=>λ_=>rfl
 dn:=λi j h=>match i with
  |0|1|2|3|4|5|6|7|8|9|10|11|12|13|14|15|16|17|18|19|20|21|22|23|24|25|26|27|28|_+29=>Ag rfl h
 ps:=λi=>match i with
  |0|1|2|3|4|5|6|7|8|9|10|11|12|13|14|15|16|17|18|19|20|21|22|23|24|25|26|27|28|_+29=>Nat.succ_pos _
end Go.Abs
