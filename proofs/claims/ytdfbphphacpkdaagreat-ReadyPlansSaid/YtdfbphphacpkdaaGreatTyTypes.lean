/- The program's types. -/
import Derived.Test.YtdfbphphacpkdaaGreatFwG
import Derived.Test.YtdfbphphacpkdaaGreatFwH
set_option linter.all false
set_option maxRecDepth 100000
noncomputable section
namespace Go.Abs
variable[Gl]
@[ext] structure aA where
 br:Int
 Mem:Int
 bx:Int
 bD:Int
 deriving DecidableEq,Inhabited
def aA.beq(a b:aA):Bool:=(a.br == b.br&&(a.Mem == b.Mem&&(a.bx == b.bx&&(a.bD == b.bD&&true))))
@[ext] structure CX where
 Part:Int
 aU:(List Int)
 iA:Int
 kG:Int
 fJ:Int
 lS:Int
 deriving DecidableEq,Inhabited
@[ext] structure Lj where
 uD:Int
 ee:Int
 lS:Int
 cB:Int
 deriving DecidableEq,Inhabited
def Lj.beq(a b:Lj):Bool:=(a.uD == b.uD&&(a.ee == b.ee&&(a.lS == b.lS&&(a.cB == b.cB&&true))))
@[ext] structure bq where
 aq:(List aA)
 aF:(List (List Int))
 am:(List CX)
 aU:Int
 av:Lj
 cE:Int
 Mode:Int
 aw:Int
 qy:Int
 aL:Int
 bR:Int
 fh:Int
 In:Int
 Out:Int
 cG:Int
 deriving DecidableEq,Inhabited
@[ext] structure Fq where
 bC:Int
 Ok:Bool
 deriving DecidableEq,Inhabited
def Fq.beq(a b:Fq):Bool:=(a.bC == b.bC&&(a.Ok == b.Ok&&true))
@[ext] structure a_ where
 Id:Int
 gI:Int
 Queue:Int
 aJ:Int
 az:aA
 bm:Int
 aP:(List Fq)
 State:Int
 Ok:Bool
 jg:Bool
 bO:Int
 fT:Int
 Start:Int
 End:Int
 Array:Int
 deriving DecidableEq,Inhabited
@[ext] structure dq where
 Node:Int
 aJ:Int
 deriving DecidableEq,Inhabited
def dq.beq(a b:dq):Bool:=(a.Node == b.Node&&(a.aJ == b.aJ&&true))
@[ext] structure cN where
 bC:Int
 az:aA
 ah:(List dq)
 deriving DecidableEq,Inhabited
@[ext] structure lE where
 Id:Int
 Node:Int
 bH:Int
 To:Int
 deriving DecidableEq,Inhabited
def lE.beq(a b:lE):Bool:=(a.Id == b.Id&&(a.Node == b.Node&&(a.bH == b.bH&&(a.To == b.To&&true))))
@[ext] structure pr where
 am:(List Int)
 aq:Int
 deriving DecidableEq,Inhabited
@[ext] structure cM where
 bz:Int
 Next:Int
 kf:Int
 aw:(List a_)
 ai:(List cN)
 ay:(List lE)
 uU:(List Int)
 aS:pr
 deriving DecidableEq,Inhabited
@[ext] structure zdy where
 S:bq
 St:cM
 deriving DecidableEq,Inhabited
@[ext] structure yU where
 Ii:Int
 UC:(List a_)
 deriving DecidableEq,Inhabited
@[ext] structure sG where
 bz:Int
 uU:(List Int)
 deriving DecidableEq,Inhabited
@[ext] structure zn where
 bC:Int
 At:Int
 ah:(List dq)
 deriving DecidableEq,Inhabited
@[ext] structure iC where
 az:aA
 ah:(List dq)
 me:Int
 deriving DecidableEq,Inhabited
@[ext] structure bF where
 At:Int
 bQ:aA
 deriving DecidableEq,Inhabited
def bF.beq(a b:bF):Bool:=(a.At == b.At&&(aA.beq a.bQ b.bQ&&true))
@[ext] structure xq where
 ZT:Int
 Oq:(List (List Int))
 Ov:(List (List bF))
 deriving DecidableEq,Inhabited
@[ext] structure Ci where
 bH:Int
 To:Int
 az:aA
 ah:(List dq)
 deriving DecidableEq,Inhabited
@[ext] structure kj where
 S:bq
 bz:Int
 L:(List Ci)
 ay:(List lE)
 deriving DecidableEq,Inhabited
@[ext] structure CD where
 Part:Int
 aJ:Int
 az:aA
 bm:Int
 deriving DecidableEq,Inhabited
def CD.beq(a b:CD):Bool:=(a.Part == b.Part&&(a.aJ == b.aJ&&(aA.beq a.az b.az&&(a.bm == b.bm&&true))))
def tyT:Nat->Type
 |0=>aA
 |1=>Int
 |2=>(List Int)
 |3=>CX
 |4=>Fq
 |5=>a_
 |6=>dq
 |7=>cN
 |8=>lE
 |9=>zdy
 |10=>bq
 |11=>(Int×Int×Int×Int)
 |12=>Lj
 |13=>yU
 |14=>cM
 |15=>sG
 |16=>(Int×Int×Int)
 |17=>ByteArray
 |18=>Bool
 |19=>zn
 |20=>iC
 |21=>bF
 |22=>(List bF)
 |23=>xq
 |24=>Ci
 |25=>kj
 |26=>CD
 |_=>Bool
def tyF:Nat->List CC
 |0=>[.int .i64,.int .i64,.int .i64,.int .i64]
 |1=>[.int .i64]
 |2=>[.sl 1]
 |3=>[.int .i64,.sl 1,.int .i64,.int .i64,.int .i64,.int .i64]
 |4=>[.int .i64,.bool]
 |5=>[.int .i64,.int .i64,.int .i64,.int .i64,.int .i64,.int .i64,.int .i64,.int .i64,.int .i64,.sl 4,.int .i64,.bool,.bool,.int .i64,.int .i64,.int .i64,.int .i64,.int .i64]
 |6=>[.int .i64,.int .i64]
 |7=>[.int .i64,.int .i64,.int .i64,.int .i64,.int .i64,.sl 6]
 |8=>[.int .i64,.int .i64,.int .i64,.int .i64]
 |9=>[.sl 0,.sl 2,.sl 3,.int .i64,.int .i64,.int .i64,.int .i64,.int .i64,.int .i64,.int .i64,.int .i64,.int .i64,.int .i64,.int .i64,.int .i64,.int .i64,.int .i64,.int .i64,.int .i64,.int .i64,.int .i64,.sl 5,.sl 7,.sl 8,.sl 1,.sl 1,.int .i64]
 |10=>[.sl 0,.sl 2,.sl 3,.int .i64,.int .i64,.int .i64,.int .i64,.int .i64,.int .i64,.int .i64,.int .i64,.int .i64,.int .i64,.int .i64,.int .i64,.int .i64,.int .i64,.int .i64]
 |11=>[.int .i64,.int .i64,.int .i64,.int .i64]
 |12=>[.int .i64,.int .i64,.int .i64,.int .i64]
 |13=>[.int .i64,.sl 5]
 |14=>[.int .i64,.int .i64,.int .i64,.sl 5,.sl 7,.sl 8,.sl 1,.sl 1,.int .i64]
 |15=>[.int .i64,.sl 1]
 |16=>[.int .i64,.int .i64,.int .i64]
 |17=>[.str]
 |18=>[.bool]
 |19=>[.int .i64,.int .i64,.sl 6]
 |20=>[.int .i64,.int .i64,.int .i64,.int .i64,.sl 6,.int .i64]
 |21=>[.int .i64,.int .i64,.int .i64,.int .i64,.int .i64]
 |22=>[.sl 21]
 |23=>[.int .i64,.sl 2,.sl 22]
 |24=>[.int .i64,.int .i64,.int .i64,.int .i64,.int .i64,.int .i64,.sl 6]
 |25=>[.sl 0,.sl 2,.sl 3,.int .i64,.int .i64,.int .i64,.int .i64,.int .i64,.int .i64,.int .i64,.int .i64,.int .i64,.int .i64,.int .i64,.int .i64,.int .i64,.int .i64,.int .i64,.int .i64,.sl 24,.sl 8]
 |26=>[.int .i64,.int .i64,.int .i64,.int .i64,.int .i64,.int .i64,.int .i64]
 |_=>[.bool]
set_option maxHeartbeats 4000000 in
noncomputable instance ty:Ty where
 T:=tyT
 fl:=tyF
 prj:=λi=>match i with
  |0=>λx=>(x.br,x.Mem,x.bx,x.bD,())
  |1=>λx=>(x,())
  |2=>λx=>(x,())
  |3=>λx=>(x.Part,x.aU,x.iA,x.kG,x.fJ,x.lS,())
  |4=>λx=>(x.bC,x.Ok,())
  |5=>λx=>(x.Id,x.gI,x.Queue,x.aJ,x.az.br,x.az.Mem,x.az.bx,x.az.bD,x.bm,x.aP,x.State,x.Ok,x.jg,x.bO,x.fT,x.Start,x.End,x.Array,())
  |6=>λx=>(x.Node,x.aJ,())
  |7=>λx=>(x.bC,x.az.br,x.az.Mem,x.az.bx,x.az.bD,x.ah,())
  |8=>λx=>(x.Id,x.Node,x.bH,x.To,())
  |9=>λx=>(x.S.aq,x.S.aF,x.S.am,x.S.aU,x.S.av.uD,x.S.av.ee,x.S.av.lS,x.S.av.cB,x.S.cE,x.S.Mode,x.S.aw,x.S.qy,x.S.aL,x.S.bR,x.S.fh,x.S.In,x.S.Out,x.S.cG,x.St.bz,x.St.Next,x.St.kf,x.St.aw,x.St.ai,x.St.ay,x.St.uU,x.St.aS.am,x.St.aS.aq,())
  |10=>λx=>(x.aq,x.aF,x.am,x.aU,x.av.uD,x.av.ee,x.av.lS,x.av.cB,x.cE,x.Mode,x.aw,x.qy,x.aL,x.bR,x.fh,x.In,x.Out,x.cG,())
  |11=>λx=>(x.1,x.2.1,x.2.2.1,x.2.2.2,())
  |12=>λx=>(x.uD,x.ee,x.lS,x.cB,())
  |13=>λx=>(x.Ii,x.UC,())
  |14=>λx=>(x.bz,x.Next,x.kf,x.aw,x.ai,x.ay,x.uU,x.aS.am,x.aS.aq,())
  |15=>λx=>(x.bz,x.uU,())
  |16=>λx=>(x.1,x.2.1,x.2.2,())
  |17=>λx=>(x,())
  |18=>λx=>(x,())
  |19=>λx=>(x.bC,x.At,x.ah,())
  |20=>λx=>(x.az.br,x.az.Mem,x.az.bx,x.az.bD,x.ah,x.me,())
  |21=>λx=>(x.At,x.bQ.br,x.bQ.Mem,x.bQ.bx,x.bQ.bD,())
  |22=>λx=>(x,())
  |23=>λx=>(x.ZT,x.Oq,x.Ov,())
  |24=>λx=>(x.bH,x.To,x.az.br,x.az.Mem,x.az.bx,x.az.bD,x.ah,())
  |25=>λx=>(x.S.aq,x.S.aF,x.S.am,x.S.aU,x.S.av.uD,x.S.av.ee,x.S.av.lS,x.S.av.cB,x.S.cE,x.S.Mode,x.S.aw,x.S.qy,x.S.aL,x.S.bR,x.S.fh,x.S.In,x.S.Out,x.S.cG,x.bz,x.L,x.ay,())
  |26=>λx=>(x.Part,x.aJ,x.az.br,x.az.Mem,x.az.bx,x.az.bD,x.bm,())
  |_+27=>λx=>(x,())
 mkt:=λi=>match i with
  |0=>λx=>({ br:=x.1,Mem:=x.2.1,bx:=x.2.2.1,bD:=x.2.2.2.1 }:aA)
  |1=>λx=>x.1
  |2=>λx=>x.1
  |3=>λx=>({ Part:=x.1,aU:=x.2.1,iA:=x.2.2.1,kG:=x.2.2.2.1,fJ:=x.2.2.2.2.1,lS:=x.2.2.2.2.2.1 }:CX)
  |4=>λx=>({ bC:=x.1,Ok:=x.2.1 }:Fq)
  |5=>λx=>({ Id:=x.1,gI:=x.2.1,Queue:=x.2.2.1,aJ:=x.2.2.2.1,az:=({ br:=x.2.2.2.2.1,Mem:=x.2.2.2.2.2.1,bx:=x.2.2.2.2.2.2.1,bD:=x.2.2.2.2.2.2.2.1 }:aA),bm:=x.2.2.2.2.2.2.2.2.1,aP:=x.2.2.2.2.2.2.2.2.2.1,State:=x.2.2.2.2.2.2.2.2.2.2.1,Ok:=x.2.2.2.2.2.2.2.2.2.2.2.1,jg:=x.2.2.2.2.2.2.2.2.2.2.2.2.1,bO:=x.2.2.2.2.2.2.2.2.2.2.2.2.2.1,fT:=x.2.2.2.2.2.2.2.2.2.2.2.2.2.2.1,Start:=x.2.2.2.2.2.2.2.2.2.2.2.2.2.2.2.1,End:=x.2.2.2.2.2.2.2.2.2.2.2.2.2.2.2.2.1,Array:=x.2.2.2.2.2.2.2.2.2.2.2.2.2.2.2.2.2.1 }:a_)
  |6=>λx=>({ Node:=x.1,aJ:=x.2.1 }:dq)
  |7=>λx=>({ bC:=x.1,az:=({ br:=x.2.1,Mem:=x.2.2.1,bx:=x.2.2.2.1,bD:=x.2.2.2.2.1 }:aA),ah:=x.2.2.2.2.2.1 }:cN)
  |8=>λx=>({ Id:=x.1,Node:=x.2.1,bH:=x.2.2.1,To:=x.2.2.2.1 }:lE)
  |9=>λx=>({ S:=({ aq:=x.1,aF:=x.2.1,am:=x.2.2.1,aU:=x.2.2.2.1,av:=({ uD:=x.2.2.2.2.1,ee:=x.2.2.2.2.2.1,lS:=x.2.2.2.2.2.2.1,cB:=x.2.2.2.2.2.2.2.1 }:Lj),cE:=x.2.2.2.2.2.2.2.2.1,Mode:=x.2.2.2.2.2.2.2.2.2.1,aw:=x.2.2.2.2.2.2.2.2.2.2.1,qy:=x.2.2.2.2.2.2.2.2.2.2.2.1,aL:=x.2.2.2.2.2.2.2.2.2.2.2.2.1,bR:=x.2.2.2.2.2.2.2.2.2.2.2.2.2.1,fh:=x.2.2.2.2.2.2.2.2.2.2.2.2.2.2.1,In:=x.2.2.2.2.2.2.2.2.2.2.2.2.2.2.2.1,Out:=x.2.2.2.2.2.2.2.2.2.2.2.2.2.2.2.2.1,cG:=x.2.2.2.2.2.2.2.2.2.2.2.2.2.2.2.2.2.1 }:bq),St:=({ bz:=x.2.2.2.2.2.2.2.2.2.2.2.2.2.2.2.2.2.2.1,Next:=x.2.2.2.2.2.2.2.2.2.2.2.2.2.2.2.2.2.2.2.1,kf:=x.2.2.2.2.2.2.2.2.2.2.2.2.2.2.2.2.2.2.2.2.1,aw:=x.2.2.2.2.2.2.2.2.2.2.2.2.2.2.2.2.2.2.2.2.2.1,ai:=x.2.2.2.2.2.2.2.2.2.2.2.2.2.2.2.2.2.2.2.2.2.2.1,ay:=x.2.2.2.2.2.2.2.2.2.2.2.2.2.2.2.2.2.2.2.2.2.2.2.1,uU:=x.2.2.2.2.2.2.2.2.2.2.2.2.2.2.2.2.2.2.2.2.2.2.2.2.1,aS:=({ am:=x.2.2.2.2.2.2.2.2.2.2.2.2.2.2.2.2.2.2.2.2.2.2.2.2.2.1,aq:=x.2.2.2.2.2.2.2.2.2.2.2.2.2.2.2.2.2.2.2.2.2.2.2.2.2.2.1 }:pr) }:cM) }:zdy)
  |10=>λx=>({ aq:=x.1,aF:=x.2.1,am:=x.2.2.1,aU:=x.2.2.2.1,av:=({ uD:=x.2.2.2.2.1,ee:=x.2.2.2.2.2.1,lS:=x.2.2.2.2.2.2.1,cB:=x.2.2.2.2.2.2.2.1 }:Lj),cE:=x.2.2.2.2.2.2.2.2.1,Mode:=x.2.2.2.2.2.2.2.2.2.1,aw:=x.2.2.2.2.2.2.2.2.2.2.1,qy:=x.2.2.2.2.2.2.2.2.2.2.2.1,aL:=x.2.2.2.2.2.2.2.2.2.2.2.2.1,bR:=x.2.2.2.2.2.2.2.2.2.2.2.2.2.1,fh:=x.2.2.2.2.2.2.2.2.2.2.2.2.2.2.1,In:=x.2.2.2.2.2.2.2.2.2.2.2.2.2.2.2.1,Out:=x.2.2.2.2.2.2.2.2.2.2.2.2.2.2.2.2.1,cG:=x.2.2.2.2.2.2.2.2.2.2.2.2.2.2.2.2.2.1 }:bq)
  |11=>λx=>(x.1,x.2.1,x.2.2.1,x.2.2.2.1)
  |12=>λx=>({ uD:=x.1,ee:=x.2.1,lS:=x.2.2.1,cB:=x.2.2.2.1 }:Lj)
  |13=>λx=>({ Ii:=x.1,UC:=x.2.1 }:yU)
  |14=>λx=>({ bz:=x.1,Next:=x.2.1,kf:=x.2.2.1,aw:=x.2.2.2.1,ai:=x.2.2.2.2.1,ay:=x.2.2.2.2.2.1,uU:=x.2.2.2.2.2.2.1,aS:=({ am:=x.2.2.2.2.2.2.2.1,aq:=x.2.2.2.2.2.2.2.2.1 }:pr) }:cM)
  |15=>λx=>({ bz:=x.1,uU:=x.2.1 }:sG)
  |16=>λx=>(x.1,x.2.1,x.2.2.1)
  |17=>λx=>x.1
  |18=>λx=>x.1
  |19=>λx=>({ bC:=x.1,At:=x.2.1,ah:=x.2.2.1 }:zn)
  |20=>λx=>({ az:=({ br:=x.1,Mem:=x.2.1,bx:=x.2.2.1,bD:=x.2.2.2.1 }:aA),ah:=x.2.2.2.2.1,me:=x.2.2.2.2.2.1 }:iC)
  |21=>λx=>({ At:=x.1,bQ:=({ br:=x.2.1,Mem:=x.2.2.1,bx:=x.2.2.2.1,bD:=x.2.2.2.2.1 }:aA) }:bF)
  |22=>λx=>x.1
  |23=>λx=>({ ZT:=x.1,Oq:=x.2.1,Ov:=x.2.2.1 }:xq)
  |24=>λx=>({ bH:=x.1,To:=x.2.1,az:=({ br:=x.2.2.1,Mem:=x.2.2.2.1,bx:=x.2.2.2.2.1,bD:=x.2.2.2.2.2.1 }:aA),ah:=x.2.2.2.2.2.2.1 }:Ci)
  |25=>λx=>({ S:=({ aq:=x.1,aF:=x.2.1,am:=x.2.2.1,aU:=x.2.2.2.1,av:=({ uD:=x.2.2.2.2.1,ee:=x.2.2.2.2.2.1,lS:=x.2.2.2.2.2.2.1,cB:=x.2.2.2.2.2.2.2.1 }:Lj),cE:=x.2.2.2.2.2.2.2.2.1,Mode:=x.2.2.2.2.2.2.2.2.2.1,aw:=x.2.2.2.2.2.2.2.2.2.2.1,qy:=x.2.2.2.2.2.2.2.2.2.2.2.1,aL:=x.2.2.2.2.2.2.2.2.2.2.2.2.1,bR:=x.2.2.2.2.2.2.2.2.2.2.2.2.2.1,fh:=x.2.2.2.2.2.2.2.2.2.2.2.2.2.2.1,In:=x.2.2.2.2.2.2.2.2.2.2.2.2.2.2.2.1,Out:=x.2.2.2.2.2.2.2.2.2.2.2.2.2.2.2.2.1,cG:=x.2.2.2.2.2.2.2.2.2.2.2.2.2.2.2.2.2.1 }:bq),bz:=x.2.2.2.2.2.2.2.2.2.2.2.2.2.2.2.2.2.2.1,L:=x.2.2.2.2.2.2.2.2.2.2.2.2.2.2.2.2.2.2.2.1,ay:=x.2.2.2.2.2.2.2.2.2.2.2.2.2.2.2.2.2.2.2.2.1 }:kj)
  |26=>λx=>({ Part:=x.1,aJ:=x.2.1,az:=({ br:=x.2.2.1,Mem:=x.2.2.2.1,bx:=x.2.2.2.2.1,bD:=x.2.2.2.2.2.1 }:aA),bm:=x.2.2.2.2.2.2.1 }:CD)
  |_+27=>λx=>x.1
 mp:=λi=>match i with
  |0=>λ_=>rfl
  |1=>λ_=>rfl
  |2=>λ_=>rfl
  |3=>λ_=>rfl
  |4=>λ_=>rfl
  |5=>λ_=>rfl
  |6=>λ_=>rfl
  |7=>λ_=>rfl
  |8=>λ_=>rfl
  |9=>λ_=>rfl
  |10=>λ_=>rfl
  |11=>λ_=>rfl
  |12=>λ_=>rfl
  |13=>λ_=>rfl
  |14=>λ_=>rfl
  |15=>λ_=>rfl
  |16=>λ_=>rfl
  |17=>λ_=>rfl
  |18=>λ_=>rfl
  |19=>λ_=>rfl
  |20=>λ_=>rfl
  |21=>λ_=>rfl
  |22=>λ_=>rfl
  |23=>λ_=>rfl
  |24=>λ_=>rfl
  |25=>λ_=>rfl
  |26=>λ_=>rfl
  |_+27=>λ_=>rfl
 pm:=λi=>match i with
  |0=>λ_=>rfl
  |1=>λ_=>rfl
  |2=>λ_=>rfl
  |3=>λ_=>rfl
  |4=>λ_=>rfl
  |5=>λ_=>rfl
  |6=>λ_=>rfl
  |7=>λ_=>rfl
  |8=>λ_=>rfl
  |9=>λ_=>rfl
  |10=>λ_=>rfl
  |11=>λ_=>rfl
  |12=>λ_=>rfl
  |13=>λ_=>rfl
  |14=>λ_=>rfl
  |15=>λ_=>rfl
  |16=>λ_=>rfl
  |17=>λ_=>rfl
  |18=>λ_=>rfl
  |19=>λ_=>rfl
  |20=>λ_=>rfl
  |21=>λ_=>rfl
  |22=>λ_=>rfl
  |23=>λ_=>rfl
  |24=>λ_=>rfl
  |25=>λ_=>rfl
  |26=>λ_=>rfl
  |_+27=>λ_=>rfl
 dn:=λi j h=>match i with
  |0=>xO rfl h
  |1=>xO rfl h
  |2=>xO rfl h
  |3=>xO rfl h
  |4=>xO rfl h
  |5=>xO rfl h
  |6=>xO rfl h
  |7=>xO rfl h
  |8=>xO rfl h
  |9=>xO rfl h
  |10=>xO rfl h
  |11=>xO rfl h
  |12=>xO rfl h
  |13=>xO rfl h
  |14=>xO rfl h
  |15=>xO rfl h
  |16=>xO rfl h
  |17=>xO rfl h
  |18=>xO rfl h
  |19=>xO rfl h
  |20=>xO rfl h
  |21=>xO rfl h
  |22=>xO rfl h
  |23=>xO rfl h
  |24=>xO rfl h
  |25=>xO rfl h
  |26=>xO rfl h
  |_+27=>xO rfl h
 ps:=λi=>match i with
  |0=>Nat.succ_pos _
  |1=>Nat.succ_pos _
  |2=>Nat.succ_pos _
  |3=>Nat.succ_pos _
  |4=>Nat.succ_pos _
  |5=>Nat.succ_pos _
  |6=>Nat.succ_pos _
  |7=>Nat.succ_pos _
  |8=>Nat.succ_pos _
  |9=>Nat.succ_pos _
  |10=>Nat.succ_pos _
  |11=>Nat.succ_pos _
  |12=>Nat.succ_pos _
  |13=>Nat.succ_pos _
  |14=>Nat.succ_pos _
  |15=>Nat.succ_pos _
  |16=>Nat.succ_pos _
  |17=>Nat.succ_pos _
  |18=>Nat.succ_pos _
  |19=>Nat.succ_pos _
  |20=>Nat.succ_pos _
  |21=>Nat.succ_pos _
  |22=>Nat.succ_pos _
  |23=>Nat.succ_pos _
  |24=>Nat.succ_pos _
  |25=>Nat.succ_pos _
  |26=>Nat.succ_pos _
  |_+27=>Nat.succ_pos _
end Go.Abs
