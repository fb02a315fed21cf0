/- The program's types. -/
import Derived.Test.YtidhdalhpjapaaaGreatDoorFwG
set_option linter.all false
set_option maxRecDepth 100000
noncomputable section
namespace Go.Abs
instance glT:Gl where
 ok Fz w:=Fz 0/\∀(j:Nat)(v:Value),([.int .i64 0,.int .i64 0,.int .i64 (-1),.int .i64 1,.int .i64 2,.int .i64 6]:List Value)[j]? = some v->w.cell? ⟨0,j,none⟩=some v/\v.oneCell'=true
 mono:=λh ⟨b,d⟩=>⟨(h 0 b).1,λj v a=>by rw[zQ (h 0 b).2];exact d j v a⟩
 Zs g:=match g with | 0=>[.int .i64 0,.int .i64 0,.int .i64 (-1),.int .i64 1,.int .i64 2,.int .i64 6] | _+1=>[]
 ZD:=λg j v h a=>by
  match g with
  |0=>exact ⟨h.1,h.2 j v a⟩
  |g+1=>cases a
@[ext] structure aJ where
 bP:Int
 Mem:Int
 bS:Int
 b_:Int
 deriving DecidableEq,Inhabited
def aJ.beq(a b:aJ):Bool:=(a.bP == b.bP&&(a.Mem == b.Mem&&(a.bS == b.bS&&(a.b_ == b.b_&&true))))
@[ext] structure sG where
 Part:Int
 aG:(List Int)
 dS:Int
 nY:Int
 je:Int
 jT:Int
 deriving DecidableEq,Inhabited
@[ext] structure KN where
 pF:Int
 dh:Int
 jT:Int
 bX:Int
 deriving DecidableEq,Inhabited
def KN.beq(a b:KN):Bool:=(a.pF == b.pF&&(a.dh == b.dh&&(a.jT == b.jT&&(a.bX == b.bX&&true))))
@[ext] structure aU where
 am:(List aJ)
 aQ:(List (List Int))
 ah:(List sG)
 aG:Int
 ar:KN
 bZ:Int
 Mode:Int
 ae:Int
 eJ:Int
 aB:Int
 bC:Int
 dg:Int
 In:Int
 Out:Int
 bW:Int
 deriving DecidableEq,Inhabited
@[ext] structure xH where
 aK:Int
 Ok:Bool
 deriving DecidableEq,Inhabited
def xH.beq(a b:xH):Bool:=(a.aK == b.aK&&(a.Ok == b.Ok&&true))
@[ext] structure aF where
 Id:Int
 az:Int
 Queue:Int
 aD:Int
 au:aJ
 aN:Int
 ay:(List xH)
 State:Int
 Ok:Bool
 bG:Bool
 ab:Int
 bI:Int
 Start:Int
 End:Int
 Array:Int
 deriving DecidableEq,Inhabited
@[ext] structure lz where
 Node:Int
 aD:Int
 deriving DecidableEq,Inhabited
def lz.beq(a b:lz):Bool:=(a.Node == b.Node&&(a.aD == b.aD&&true))
@[ext] structure bp where
 aK:Int
 au:aJ
 an:(List lz)
 deriving DecidableEq,Inhabited
@[ext] structure cg where
 Id:Int
 Node:Int
 bE:Int
 To:Int
 deriving DecidableEq,Inhabited
def cg.beq(a b:cg):Bool:=(a.Id == b.Id&&(a.Node == b.Node&&(a.bE == b.bE&&(a.To == b.To&&true))))
@[ext] structure EN where
 ah:(List Int)
 am:Int
 deriving DecidableEq,Inhabited
@[ext] structure bj where
 bF:Int
 Next:Int
 aO:Int
 ae:(List aF)
 ai:(List bp)
 aC:(List cg)
 dl:(List Int)
 aj:EN
 deriving DecidableEq,Inhabited
@[ext] structure zdX where
 S:aU
 St:bj
 deriving DecidableEq,Inhabited
@[ext] structure dw where
 Kind:Int
 Key:Int
 aK:Int
 ab:Int
 Queue:Int
 aD:Int
 au:aJ
 aN:Int
 aS:Int
 ay:(List xH)
 Node:Int
 bE:Int
 To:Int
 Id:Int
 deriving DecidableEq,Inhabited
@[ext] structure pB where
 az:Int
 aa:dw
 deriving DecidableEq,Inhabited
@[ext] structure AA where
 JC:Int
 SN:(List aF)
 deriving DecidableEq,Inhabited
@[ext] structure eC where
 Key:Int
 ko:Int
 aK:Int
 ab:Int
 cP:(List Int)
 deriving DecidableEq,Inhabited
@[ext] structure Ib where
 dC:Nat
 deriving DecidableEq,Inhabited
@[ext] structure eV where
 Bc:Int
 deriving DecidableEq,Inhabited
def eV.beq(a b:eV):Bool:=(a.Bc == b.Bc&&true)
@[ext] structure np where
 gT:aU
 jg:bj
 SW:Int
 iz:dw
 deriving DecidableEq,Inhabited
def tyT:Nat->Type
 |0=>aJ
 |1=>Int
 |2=>(List Int)
 |3=>sG
 |4=>xH
 |5=>aF
 |6=>lz
 |7=>bp
 |8=>cg
 |9=>zdX
 |10=>pB
 |11=>aU
 |12=>(Int×Int×Int×Int)
 |13=>KN
 |14=>AA
 |15=>eC
 |16=>Ib
 |17=>dw
 |18=>eV
 |19=>bj
 |20=>np
 |21=>ByteArray
 |22=>Bool
 |23=>(Int×Int)
 |24=>(Int×Int×Int)
 |_=>Bool
def tyF:Nat->List CC
 |0=>[.int .i64,.int .i64,.int .i64,.int .i64]
 |1=>[.int .i64]
 |2=>[.sl 1]
 |3=>[.int .i64,.sl 1,.int .i64,.int .i64,.int .i64,.int .i64]
 |4=>[.int .i64,.bool]
 |5=>[.int .i64,.int .i64,.int .i64,.int .i64,.int .i64,.int .i64,.int .i64,.int .i64,.int .i64,.sl 4,.int .i64,.bool,.bool,.int .i64,.int .i64,.int .i64,.int .i64,.int .i64]
 |6=>[.int .i64,.int .i64]
 |7=>[.int .i64,.int .i64,.int .i64,.int .i64,.int .i64,.sl 6]
 |8=>[.int .i64,.int .i64,.int .i64,.int .i64]
 |9=>[.sl 0,.sl 2,.sl 3,.int .i64,.int .i64,.int .i64,.int .i64,.int .i64,.int .i64,.int .i64,.int .i64,.int .i64,.int .i64,.int .i64,.int .i64,.int .i64,.int .i64,.int .i64,.int .i64,.int .i64,.int .i64,.sl 5,.sl 7,.sl 8,.sl 1,.sl 1,.int .i64]
 |10=>[.int .i64,.int .i64,.int .i64,.int .i64,.int .i64,.int .i64,.int .i64,.int .i64,.int .i64,.int .i64,.int .i64,.int .i64,.int .i64,.sl 4,.int .i64,.int .i64,.int .i64,.int .i64]
 |11=>[.sl 0,.sl 2,.sl 3,.int .i64,.int .i64,.int .i64,.int .i64,.int .i64,.int .i64,.int .i64,.int .i64,.int .i64,.int .i64,.int .i64,.int .i64,.int .i64,.int .i64,.int .i64]
 |12=>[.int .i64,.int .i64,.int .i64,.int .i64]
 |13=>[.int .i64,.int .i64,.int .i64,.int .i64]
 |14=>[.int .i64,.sl 5]
 |15=>[.int .i64,.int .i64,.int .i64,.int .i64,.sl 1]
 |16=>[.fk [56,57,58,59,60]]
 |17=>[.int .i64,.int .i64,.int .i64,.int .i64,.int .i64,.int .i64,.int .i64,.int .i64,.int .i64,.int .i64,.int .i64,.int .i64,.sl 4,.int .i64,.int .i64,.int .i64,.int .i64]
 |18=>[.int .i64]
 |19=>[.int .i64,.int .i64,.int .i64,.sl 5,.sl 7,.sl 8,.sl 1,.sl 1,.int .i64]
 |20=>[.sl 0,.sl 2,.sl 3,.int .i64,.int .i64,.int .i64,.int .i64,.int .i64,.int .i64,.int .i64,.int .i64,.int .i64,.int .i64,.int .i64,.int .i64,.int .i64,.int .i64,.int .i64,.int .i64,.int .i64,.int .i64,.sl 5,.sl 7,.sl 8,.sl 1,.sl 1,.int .i64,.int .i64,.int .i64,.int .i64,.int .i64,.int .i64,.int .i64,.int .i64,.int .i64,.int .i64,.int .i64,.int .i64,.int .i64,.int .i64,.sl 4,.int .i64,.int .i64,.int .i64,.int .i64]
 |21=>[.str]
 |22=>[.bool]
 |23=>[.int .i64,.int .i64]
 |24=>[.int .i64,.int .i64,.int .i64]
 |_=>[.bool]
noncomputable instance ty:Ty where
 T:=tyT
 fl:=tyF
 Zv:=λi=>match i with
  |0=>λx=>(x.bP,x.Mem,x.bS,x.b_,())
  |1=>λx=>(x,())
  |2=>λx=>(x,())
  |3=>λx=>(x.Part,x.aG,x.dS,x.nY,x.je,x.jT,())
  |4=>λx=>(x.aK,x.Ok,())
  |5=>λx=>(x.Id,x.az,x.Queue,x.aD,x.au.bP,x.au.Mem,x.au.bS,x.au.b_,x.aN,x.ay,x.State,x.Ok,x.bG,x.ab,x.bI,x.Start,x.End,x.Array,())
  |6=>λx=>(x.Node,x.aD,())
  |7=>λx=>(x.aK,x.au.bP,x.au.Mem,x.au.bS,x.au.b_,x.an,())
  |8=>λx=>(x.Id,x.Node,x.bE,x.To,())
  |9=>λx=>(x.S.am,x.S.aQ,x.S.ah,x.S.aG,x.S.ar.pF,x.S.ar.dh,x.S.ar.jT,x.S.ar.bX,x.S.bZ,x.S.Mode,x.S.ae,x.S.eJ,x.S.aB,x.S.bC,x.S.dg,x.S.In,x.S.Out,x.S.bW,x.St.bF,x.St.Next,x.St.aO,x.St.ae,x.St.ai,x.St.aC,x.St.dl,x.St.aj.ah,x.St.aj.am,())
  |10=>λx=>(x.az,x.aa.Kind,x.aa.Key,x.aa.aK,x.aa.ab,x.aa.Queue,x.aa.aD,x.aa.au.bP,x.aa.au.Mem,x.aa.au.bS,x.aa.au.b_,x.aa.aN,x.aa.aS,x.aa.ay,x.aa.Node,x.aa.bE,x.aa.To,x.aa.Id,())
  |11=>λx=>(x.am,x.aQ,x.ah,x.aG,x.ar.pF,x.ar.dh,x.ar.jT,x.ar.bX,x.bZ,x.Mode,x.ae,x.eJ,x.aB,x.bC,x.dg,x.In,x.Out,x.bW,())
  |12=>λx=>(x.1,x.2.1,x.2.2.1,x.2.2.2,())
  |13=>λx=>(x.pF,x.dh,x.jT,x.bX,())
  |14=>λx=>(x.JC,x.SN,())
  |15=>λx=>(x.Key,x.ko,x.aK,x.ab,x.cP,())
  |16=>λx=>(x.dC,())
  |17=>λx=>(x.Kind,x.Key,x.aK,x.ab,x.Queue,x.aD,x.au.bP,x.au.Mem,x.au.bS,x.au.b_,x.aN,x.aS,x.ay,x.Node,x.bE,x.To,x.Id,())
  |18=>λx=>(x.Bc,())
  |19=>λx=>(x.bF,x.Next,x.aO,x.ae,x.ai,x.aC,x.dl,x.aj.ah,x.aj.am,())
  |20=>λx=>(x.gT.am,x.gT.aQ,x.gT.ah,x.gT.aG,x.gT.ar.pF,x.gT.ar.dh,x.gT.ar.jT,x.gT.ar.bX,x.gT.bZ,x.gT.Mode,x.gT.ae,x.gT.eJ,x.gT.aB,x.gT.bC,x.gT.dg,x.gT.In,x.gT.Out,x.gT.bW,x.jg.bF,x.jg.Next,x.jg.aO,x.jg.ae,x.jg.ai,x.jg.aC,x.jg.dl,x.jg.aj.ah,x.jg.aj.am,x.SW,x.iz.Kind,x.iz.Key,x.iz.aK,x.iz.ab,x.iz.Queue,x.iz.aD,x.iz.au.bP,x.iz.au.Mem,x.iz.au.bS,x.iz.au.b_,x.iz.aN,x.iz.aS,x.iz.ay,x.iz.Node,x.iz.bE,x.iz.To,x.iz.Id,())
  |21=>λx=>(x,())
  |22=>λx=>(x,())
  |23=>λx=>(x.1,x.2,())
  |24=>λx=>(x.1,x.2.1,x.2.2,())
  |_+25=>λx=>(x,())
 Za:=λi=>match i with
  |0=>λx=>({ bP:=x.1,Mem:=x.2.1,bS:=x.2.2.1,b_:=x.2.2.2.1 }:aJ)
  |1=>λx=>x.1
  |2=>λx=>x.1
  |3=>λx=>({ Part:=x.1,aG:=x.2.1,dS:=x.2.2.1,nY:=x.2.2.2.1,je:=x.2.2.2.2.1,jT:=x.2.2.2.2.2.1 }:sG)
  |4=>λx=>({ aK:=x.1,Ok:=x.2.1 }:xH)
  |5=>λx=>({ Id:=x.1,az:=x.2.1,Queue:=x.2.2.1,aD:=x.2.2.2.1,au:=({ bP:=x.2.2.2.2.1,Mem:=x.2.2.2.2.2.1,bS:=x.2.2.2.2.2.2.1,b_:=x.2.2.2.2.2.2.2.1 }:aJ),aN:=x.2.2.2.2.2.2.2.2.1,ay:=x.2.2.2.2.2.2.2.2.2.1,State:=x.2.2.2.2.2.2.2.2.2.2.1,Ok:=x.2.2.2.2.2.2.2.2.2.2.2.1,bG:=x.2.2.2.2.2.2.2.2.2.2.2.2.1,ab:=x.2.2.2.2.2.2.2.2.2.2.2.2.2.1,bI:=x.2.2.2.2.2.2.2.2.2.2.2.2.2.2.1,Start:=x.2.2.2.2.2.2.2.2.2.2.2.2.2.2.2.1,End:=x.2.2.2.2.2.2.2.2.2.2.2.2.2.2.2.2.1,Array:=x.2.2.2.2.2.2.2.2.2.2.2.2.2.2.2.2.2.1 }:aF)
  |6=>λx=>({ Node:=x.1,aD:=x.2.1 }:lz)
  |7=>λx=>({ aK:=x.1,au:=({ bP:=x.2.1,Mem:=x.2.2.1,bS:=x.2.2.2.1,b_:=x.2.2.2.2.1 }:aJ),an:=x.2.2.2.2.2.1 }:bp)
  |8=>λx=>({ Id:=x.1,Node:=x.2.1,bE:=x.2.2.1,To:=x.2.2.2.1 }:cg)
  |9=>λx=>({ S:=({ am:=x.1,aQ:=x.2.1,ah:=x.2.2.1,aG:=x.2.2.2.1,ar:=({ pF:=x.2.2.2.2.1,dh:=x.2.2.2.2.2.1,jT:=x.2.2.2.2.2.2.1,bX:=x.2.2.2.2.2.2.2.1 }:KN),bZ:=x.2.2.2.2.2.2.2.2.1,Mode:=x.2.2.2.2.2.2.2.2.2.1,ae:=x.2.2.2.2.2.2.2.2.2.2.1,eJ:=x.2.2.2.2.2.2.2.2.2.2.2.1,aB:=x.2.2.2.2.2.2.2.2.2.2.2.2.1,bC:=x.2.2.2.2.2.2.2.2.2.2.2.2.2.1,dg:=x.2.2.2.2.2.2.2.2.2.2.2.2.2.2.1,In:=x.2.2.2.2.2.2.2.2.2.2.2.2.2.2.2.1,Out:=x.2.2.2.2.2.2.2.2.2.2.2.2.2.2.2.2.1,bW:=x.2.2.2.2.2.2.2.2.2.2.2.2.2.2.2.2.2.1 }:aU),St:=({ bF:=x.2.2.2.2.2.2.2.2.2.2.2.2.2.2.2.2.2.2.1,Next:=x.2.2.2.2.2.2.2.2.2.2.2.2.2.2.2.2.2.2.2.1,aO:=x.2.2.2.2.2.2.2.2.2.2.2.2.2.2.2.2.2.2.2.2.1,ae:=x.2.2.2.2.2.2.2.2.2.2.2.2.2.2.2.2.2.2.2.2.2.1,ai:=x.2.2.2.2.2.2.2.2.2.2.2.2.2.2.2.2.2.2.2.2.2.2.1,aC:=x.2.2.2.2.2.2.2.2.2.2.2.2.2.2.2.2.2.2.2.2.2.2.2.1,dl:=x.2.2.2.2.2.2.2.2.2.2.2.2.2.2.2.2.2.2.2.2.2.2.2.2.1,aj:=({ ah:=x.2.2.2.2.2.2.2.2.2.2.2.2.2.2.2.2.2.2.2.2.2.2.2.2.2.1,am:=x.2.2.2.2.2.2.2.2.2.2.2.2.2.2.2.2.2.2.2.2.2.2.2.2.2.2.1 }:EN) }:bj) }:zdX)
  |10=>λx=>({ az:=x.1,aa:=({ Kind:=x.2.1,Key:=x.2.2.1,aK:=x.2.2.2.1,ab:=x.2.2.2.2.1,Queue:=x.2.2.2.2.2.1,aD:=x.2.2.2.2.2.2.1,au:=({ bP:=x.2.2.2.2.2.2.2.1,Mem:=x.2.2.2.2.2.2.2.2.1,bS:=x.2.2.2.2.2.2.2.2.2.1,b_:=x.2.2.2.2.2.2.2.2.2.2.1 }:aJ),aN:=x.2.2.2.2.2.2.2.2.2.2.2.1,aS:=x.2.2.2.2.2.2.2.2.2.2.2.2.1,ay:=x.2.2.2.2.2.2.2.2.2.2.2.2.2.1,Node:=x.2.2.2.2.2.2.2.2.2.2.2.2.2.2.1,bE:=x.2.2.2.2.2.2.2.2.2.2.2.2.2.2.2.1,To:=x.2.2.2.2.2.2.2.2.2.2.2.2.2.2.2.2.1,Id:=x.2.2.2.2.2.2.2.2.2.2.2.2.2.2.2.2.2.1 }:dw) }:pB)
  |11=>λx=>({ am:=x.1,aQ:=x.2.1,ah:=x.2.2.1,aG:=x.2.2.2.1,ar:=({ pF:=x.2.2.2.2.1,dh:=x.2.2.2.2.2.1,jT:=x.2.2.2.2.2.2.1,bX:=x.2.2.2.2.2.2.2.1 }:KN),bZ:=x.2.2.2.2.2.2.2.2.1,Mode:=x.2.2.2.2.2.2.2.2.2.1,ae:=x.2.2.2.2.2.2.2.2.2.2.1,eJ:=x.2.2.2.2.2.2.2.2.2.2.2.1,aB:=x.2.2.2.2.2.2.2.2.2.2.2.2.1,bC:=x.2.2.2.2.2.2.2.2.2.2.2.2.2.1,dg:=x.2.2.2.2.2.2.2.2.2.2.2.2.2.2.1,In:=x.2.2.2.2.2.2.2.2.2.2.2.2.2.2.2.1,Out:=x.2.2.2.2.2.2.2.2.2.2.2.2.2.2.2.2.1,bW:=x.2.2.2.2.2.2.2.2.2.2.2.2.2.2.2.2.2.1 }:aU)
  |12=>λx=>(x.1,x.2.1,x.2.2.1,x.2.2.2.1)
  |13=>λx=>({ pF:=x.1,dh:=x.2.1,jT:=x.2.2.1,bX:=x.2.2.2.1 }:KN)
  |14=>λx=>({ JC:=x.1,SN:=x.2.1 }:AA)
  |15=>λx=>({ Key:=x.1,ko:=x.2.1,aK:=x.2.2.1,ab:=x.2.2.2.1,cP:=x.2.2.2.2.1 }:eC)
  |16=>λx=>({ dC:=x.1 }:Ib)
  |17=>λx=>({ Kind:=x.1,Key:=x.2.1,aK:=x.2.2.1,ab:=x.2.2.2.1,Queue:=x.2.2.2.2.1,aD:=x.2.2.2.2.2.1,au:=({ bP:=x.2.2.2.2.2.2.1,Mem:=x.2.2.2.2.2.2.2.1,bS:=x.2.2.2.2.2.2.2.2.1,b_:=x.2.2.2.2.2.2.2.2.2.1 }:aJ),aN:=x.2.2.2.2.2.2.2.2.2.2.1,aS:=x.2.2.2.2.2.2.2.2.2.2.2.1,ay:=x.2.2.2.2.2.2.2.2.2.2.2.2.1,Node:=x.2.2.2.2.2.2.2.2.2.2.2.2.2.1,bE:=x.2.2.2.2.2.2.2.2.2.2.2.2.2.2.1,To:=x.2.2.2.2.2.2.2.2.2.2.2.2.2.2.2.1,Id:=x.2.2.2.2.2.2.2.2.2.2.2.2.2.2.2.2.1 }:dw)
  |18=>λx=>({ Bc:=x.1 }:eV)
  |19=>λx=>({ bF:=x.1,Next:=x.2.1,aO:=x.2.2.1,ae:=x.2.2.2.1,ai:=x.2.2.2.2.1,aC:=x.2.2.2.2.2.1,dl:=x.2.2.2.2.2.2.1,aj:=({ ah:=x.2.2.2.2.2.2.2.1,am:=x.2.2.2.2.2.2.2.2.1 }:EN) }:bj)
  |20=>λx=>({ gT:=({ am:=x.1,aQ:=x.2.1,ah:=x.2.2.1,aG:=x.2.2.2.1,ar:=({ pF:=x.2.2.2.2.1,dh:=x.2.2.2.2.2.1,jT:=x.2.2.2.2.2.2.1,bX:=x.2.2.2.2.2.2.2.1 }:KN),bZ:=x.2.2.2.2.2.2.2.2.1,Mode:=x.2.2.2.2.2.2.2.2.2.1,ae:=x.2.2.2.2.2.2.2.2.2.2.1,eJ:=x.2.2.2.2.2.2.2.2.2.2.2.1,aB:=x.2.2.2.2.2.2.2.2.2.2.2.2.1,bC:=x.2.2.2.2.2.2.2.2.2.2.2.2.2.1,dg:=x.2.2.2.2.2.2.2.2.2.2.2.2.2.2.1,In:=x.2.2.2.2.2.2.2.2.2.2.2.2.2.2.2.1,Out:=x.2.2.2.2.2.2.2.2.2.2.2.2.2.2.2.2.1,bW:=x.2.2.2.2.2.2.2.2.2.2.2.2.2.2.2.2.2.1 }:aU),jg:=({ bF:=x.2.2.2.2.2.2.2.2.2.2.2.2.2.2.2.2.2.2.1,Next:=x.2.2.2.2.2.2.2.2.2.2.2.2.2.2.2.2.2.2.2.1,aO:=x.2.2.2.2.2.2.2.2.2.2.2.2.2.2.2.2.2.2.2.2.1,ae:=x.2.2.2.2.2.2.2.2.2.2.2.2.2.2.2.2.2.2.2.2.2.1,ai:=x.2.2.2.2.2.2.2.2.2.2.2.2.2.2.2.2.2.2.2.2.2.2.1,aC:=x.2.2.2.2.2.2.2.2.2.2.2.2.2.2.2.2.2.2.2.2.2.2.2.1,dl:=x.2.2.2.2.2.2.2.2.2.2.2.2.2.2.2.2.2.2.2.2.2.2.2.2.1,aj:=({ ah:=x.2.2.2.2.2.2.2.2.2.2.2.2.2.2.2.2.2.2.2.2.2.2.2.2.2.1,am:=x.2.2.2.2.2.2.2.2.2.2.2.2.2.2.2.2.2.2.2.2.2.2.2.2.2.2.1 }:EN) }:bj),SW:=x.2.2.2.2.2.2.2.2.2.2.2.2.2.2.2.2.2.2.2.2.2.2.2.2.2.2.2.1,iz:=({ Kind:=x.2.2.2.2.2.2.2.2.2.2.2.2.2.2.2.2.2.2.2.2.2.2.2.2.2.2.2.2.1,Key:=x.2.2.2.2.2.2.2.2.2.2.2.2.2.2.2.2.2.2.2.2.2.2.2.2.2.2.2.2.2.1,aK:=x.2.2.2.2.2.2.2.2.2.2.2.2.2.2.2.2.2.2.2.2.2.2.2.2.2.2.2.2.2.2.1,ab:=x.2.2.2.2.2.2.2.2.2.2.2.2.2.2.2.2.2.2.2.2.2.2.2.2.2.2.2.2.2.2.2.1,Queue:=x.2.2.2.2.2.2.2.2.2.2.2.2.2.2.2.2.2.2.2.2.2.2.2.2.2.2.2.2.2.2.2.2.1,aD:=x.2.2.2.2.2.2.2.2.2.2.2.2.2.2.2.2.2.2.2.2.2.2.2.2.2.2.2.2.2.2.2.2.2.1,au:=({ bP:=x.2.2.2.2.2.2.2.2.2.2.2.2.2.2.2.2.2.2.2.2.2.2.2.2.2.2.2.2.2.2.2.2.2.2.1,Mem:=x.2.2.2.2.2.2.2.2.2.2.2.2.2.2.2.2.2.2.2.2.2.2.2.2.2.2.2.2.2.2.2.2.2.2.2.1,bS:=x.2.2.2.2.2.2.2.2.2.2.2.2.2.2.2.2.2.2.2.2.2.2.2.2.2.2.2.2.2.2.2.2.2.2.2.2.1,b_:=x.2.2.2.2.2.2.2.2.2.2.2.2.2.2.2.2.2.2.2.2.2.2.2.2.2.2.2.2.2.2.2.2.2.2.2.2.2.1 }:aJ),aN:=x.2.2.2.2.2.2.2.2.2.2.2.2.2.2.2.2.2.2.2.2.2.2.2.2.2.2.2.2.2.2.2.2.2.2.2.2.2.2.1,aS:=x.2.2.2.2.2.2.2.2.2.2.2.2.2.2.2.2.2.2.2.2.2.2.2.2.2.2.2.2.2.2.2.2.2.2.2.2.2.2.2.1,ay:=x.2.2.2.2.2.2.2.2.2.2.2.2.2.2.2.2.2.2.2.2.2.2.2.2.2.2.2.2.2.2.2.2.2.2.2.2.2.2.2.2.1,Node:=x.2.2.2.2.2.2.2.2.2.2.2.2.2.2.2.2.2.2.2.2.2.2.2.2.2.2.2.2.2.2.2.2.2.2.2.2.2.2.2.2.2.1,bE:=x.2.2.2.2.2.2.2.2.2.2.2.2.2.2.2.2.2.2.2.2.2.2.2.2.2.2.2.2.2.2.2.2.2.2.2.2.2.2.2.2.2.2.1,To:=x.2.2.2.2.2.2.2.2.2.2.2.2.2.2.2.2.2.2.2.2.2.2.2.2.2.2.2.2.2.2.2.2.2.2.2.2.2.2.2.2.2.2.2.1,Id:=x.2.2.2.2.2.2.2.2.2.2.2.2.2.2.2.2.2.2.2.2.2.2.2.2.2.2.2.2.2.2.2.2.2.2.2.2.2.2.2.2.2.2.2.2.1 }:dw) }:np)
  |21=>λx=>x.1
  |22=>λx=>x.1
  |23=>λx=>(x.1,x.2.1)
  |24=>λx=>(x.1,x.2.1,x.2.2.1)
  |_+25=>λx=>x.1
 mp:=λi=>match i with
  |0=>λ_=>rfl
  |1=>λ_=>rfl
  |2=>λ_=>rfl
  |3=>λ_=>rfl
  |4=>λ_=>rfl
  |5=>λ_=>rfl
  |6=>λ_=>rfl
  |7=>λ_=>rfl
  |8=>λ_=>rfl
  |9=>λ_=>rfl
  |10=>λ_=>rfl
  |11=>λ_=>rfl
  |12=>λ_=>rfl
  |13=>λ_=>rfl
  |14=>λ_=>rfl
  |15=>λ_=>rfl
  |16=>λ_=>rfl
  |17=>λ_=>rfl
  |18=>λ_=>rfl
  |19=>λ_=>rfl
  |20=>λ_=>rfl
  |21=>λ_=>rfl
  |22=>λ_=>rfl
  |23=>λ_=>rfl
  |24=>λ_=>rfl
  |_+25=>λ_=>rfl
 pm:=λi=>match i with
  |0=>λ_=>rfl
  |1=>λ_=>rfl
  |2=>λ_=>rfl
  |3=>λ_=>rfl
  |4=>λ_=>rfl
  |5=>λ_=>rfl
  |6=>λ_=>rfl
  |7=>λ_=>rfl
  |8=>λ_=>rfl
  |9=>λ_=>rfl
  |10=>λ_=>rfl
  |11=>λ_=>rfl
  |12=>λ_=>rfl
  |13=>λ_=>rfl
  |14=>λ_=>rfl
  |15=>λ_=>rfl
  |16=>λ_=>rfl
  |17=>λ_=>rfl
  |18=>λ_=>rfl
  |19=>λ_=>rfl
  |20=>λ_=>rfl
  |21=>λ_=>rfl
  |22=>λ_=>rfl
  |23=>λ_=>rfl
  |24=>λ_=>rfl
  |_+25=>λ_=>rfl
 dn:=λi j h=>match i with
  |0=>Ab rfl h
  |1=>Ab rfl h
  |2=>Ab rfl h
  |3=>Ab rfl h
  |4=>Ab rfl h
  |5=>Ab rfl h
  |6=>Ab rfl h
  |7=>Ab rfl h
  |8=>Ab rfl h
  |9=>Ab rfl h
  |10=>Ab rfl h
  |11=>Ab rfl h
  |12=>Ab rfl h
  |13=>Ab rfl h
  |14=>Ab rfl h
  |15=>Ab rfl h
  |16=>Ab rfl h
  |17=>Ab rfl h
  |18=>Ab rfl h
  |19=>Ab rfl h
  |20=>Ab rfl h
  |21=>Ab rfl h
  |22=>Ab rfl h
  |23=>Ab rfl h
  |24=>Ab rfl h
  |_+25=>Ab rfl h
 ps:=λi=>match i with
  |0=>Nat.succ_pos _
  |1=>Nat.succ_pos _
  |2=>Nat.succ_pos _
  |3=>Nat.succ_pos _
  |4=>Nat.succ_pos _
  |5=>Nat.succ_pos _
  |6=>Nat.succ_pos _
  |7=>Nat.succ_pos _
  |8=>Nat.succ_pos _
  |9=>Nat.succ_pos _
  |10=>Nat.succ_pos _
  |11=>Nat.succ_pos _
  |12=>Nat.succ_pos _
  |13=>Nat.succ_pos _
  |14=>Nat.succ_pos _
  |15=>Nat.succ_pos _
  |16=>Nat.succ_pos _
  |17=>Nat.succ_pos _
  |18=>Nat.succ_pos _
  |19=>Nat.succ_pos _
  |20=>Nat.succ_pos _
  |21=>Nat.succ_pos _
  |22=>Nat.succ_pos _
  |23=>Nat.succ_pos _
  |24=>Nat.succ_pos _
  |_+25=>Nat.succ_pos _
end Go.Abs
