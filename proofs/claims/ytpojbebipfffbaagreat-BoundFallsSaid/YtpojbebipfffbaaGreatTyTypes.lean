/- The program's types. -/
import Derived.Test.YtpojbebipfffbaaGreatFwG
import Derived.Test.YtpojbebipfffbaaGreatFwH
set_option linter.all false
set_option maxRecDepth 100000
open _root_ renaming Bool->Λ,DecidableEq->μ,Inhabited->ξ,Int->Η,List->Β
noncomputable section
namespace Go.Abs
variable[Gl]
@[ext] structure aE where
 bS:Η
 Mem:Η
 bU:Η
 bW:Η
 deriving μ,ξ
def aE.beq(a b:aE):Λ:=(a.bS == b.bS&&(a.Mem == b.Mem&&(a.bU == b.bU&&(a.bW == b.bW&&true))))
@[ext] structure uN where
 Part:Η
 aX:(Β Η)
 ki:Η
 nU:Η
 jb:Η
 gO:Η
 deriving μ,ξ
@[ext] structure UC where
 mg:Η
 dt:Η
 gO:Η
 bX:Η
 deriving μ,ξ
def UC.beq(a b:UC):Λ:=(a.mg == b.mg&&(a.dt == b.dt&&(a.gO == b.gO&&(a.bX == b.bX&&true))))
@[ext] structure bj where
 aj:(Β aE)
 aJ:(Β (Β Η))
 am:(Β uN)
 aX:Η
 aq:UC
 ce:Η
 Mode:Η
 ae:Η
 kD:Η
 aK:Η
 bx:Η
 dB:Η
 In:Η
 Out:Η
 cn:Η
 deriving μ,ξ
@[ext] structure Ja where
 aZ:Η
 Ok:Λ
 deriving μ,ξ
def Ja.beq(a b:Ja):Λ:=(a.aZ == b.aZ&&(a.Ok == b.Ok&&true))
@[ext] structure aH where
 Id:Η
 cu:Η
 Queue:Η
 aQ:Η
 aB:aE
 aS:Η
 aF:(Β Ja)
 State:Η
 Ok:Λ
 cM:Λ
 aM:Η
 cV:Η
 Start:Η
 End:Η
 Array:Η
 deriving μ,ξ
@[ext] structure dD where
 Node:Η
 aQ:Η
 deriving μ,ξ
def dD.beq(a b:dD):Λ:=(a.Node == b.Node&&(a.aQ == b.aQ&&true))
@[ext] structure bo where
 aZ:Η
 aB:aE
 ai:(Β dD)
 deriving μ,ξ
@[ext] structure dL where
 Id:Η
 Node:Η
 cd:Η
 To:Η
 deriving μ,ξ
def dL.beq(a b:dL):Λ:=(a.Id == b.Id&&(a.Node == b.Node&&(a.cd == b.cd&&(a.To == b.To&&true))))
@[ext] structure tj where
 am:(Β Η)
 aj:Η
 deriving μ,ξ
@[ext] structure bO where
 aL:Η
 Next:Η
 cI:Η
 ae:(Β aH)
 ah:(Β bo)
 aA:(Β dL)
 fC:(Β Η)
 ar:tj
 deriving μ,ξ
@[ext] structure zd9 where
 S:bj
 St:bO
 deriving μ,ξ
@[ext] structure DZ where
 Pn:Η
 f_jobs:(Β aH)
 deriving μ,ξ
@[ext] structure kl where
 aB:aE
 ai:(Β dD)
 pP:Η
 deriving μ,ξ
@[ext] structure bV where
 At:Η
 cz:aE
 deriving μ,ξ
def bV.beq(a b:bV):Λ:=(a.At == b.At&&(aE.beq a.cz b.cz&&true))
@[ext] structure Cy where
 fR:Η
 cU:(Β (Β Η))
 cT:(Β (Β bV))
 deriving μ,ξ
@[ext] structure kB where
 aL:Η
 fC:(Β Η)
 deriving μ,ξ
@[ext] structure jp where
 aZ:Η
 At:Η
 ai:(Β dD)
 deriving μ,ξ
@[ext] structure fi where
 aZ:Η
 eo:Η
 aF:Η
 deriving μ,ξ
def fi.beq(a b:fi):Λ:=(a.aZ == b.aZ&&(a.eo == b.eo&&(a.aF == b.aF&&true)))
@[ext] structure zeM where
 Started:(Β jp)
 iW:(Β jp)
 CL:fi
 deriving μ,ξ
@[ext] structure zc8 where
 Bo:jp
 eT:aH
 deriving μ,ξ
def tyT:Nat->Type|0=>aE|1=>Η|2=>(Β Η)|3=>uN|4=>Ja|5=>aH|6=>dD|7=>bo|8=>dL|9=>zd9|10=>bj|11=>(Η×Η×Η×Η)|12=>UC|13=>DZ|14=>bO|15=>kl|16=>bV|17=>(Β bV)|18=>Cy|19=>kB|20=>(Η×Η×Η)|21=>jp|22=>zeM|23=>zc8|24=>ByteArray|25|_=>Λ
abbrev g7:CC:=.int .i64
def tyF:Nat->Β CC|0=>[g7,g7,g7,g7]|1=>[g7]|2=>[.sl 1]|3=>[g7,.sl 1,g7,g7,g7,g7]|4=>[g7,.bool]|5=>[g7,g7,g7,g7,g7,g7,g7,g7,g7,.sl 4,g7,.bool,.bool,g7,g7,g7,g7,g7]|6=>[g7,g7]|7=>[g7,g7,g7,g7,g7,.sl 6]|8=>[g7,g7,g7,g7]|9=>[.sl 0,.sl 2,.sl 3,g7,g7,g7,g7,g7,g7,g7,g7,g7,g7,g7,g7,g7,g7,g7,g7,g7,g7,.sl 5,.sl 7,.sl 8,.sl 1,.sl 1,g7]|10=>[.sl 0,.sl 2,.sl 3,g7,g7,g7,g7,g7,g7,g7,g7,g7,g7,g7,g7,g7,g7,g7]|11|12=>[g7,g7,g7,g7]|13=>[g7,.sl 5]|14=>[g7,g7,g7,.sl 5,.sl 7,.sl 8,.sl 1,.sl 1,g7]|15=>[g7,g7,g7,g7,.sl 6,g7]|16=>[g7,g7,g7,g7,g7]|17=>[.sl 16]|18=>[g7,.sl 2,.sl 17]|19=>[g7,.sl 1]|20=>[g7,g7,g7]|21=>[g7,g7,.sl 6]|22=>[.sl 21,.sl 21,g7,g7,g7]|23=>[g7,g7,.sl 6,g7,g7,g7,g7,g7,g7,g7,g7,g7,.sl 4,g7,.bool,.bool,g7,g7,g7,g7,g7]|24=>[.str]|25|_=>[.bool]
set_option maxHeartbeats 4000000 in
noncomputable instance ty:Ty where
 T:=tyT
 fl:=tyF
 prj:=λi=>match i with
  |0=>λx=>(x.bS,x.Mem,x.bU,x.bW,())
  |1|2=>λx=>(x,())
  |3=>λx=>(x.Part,x.aX,x.ki,x.nU,x.jb,x.gO,())
  |4=>λx=>(x.aZ,x.Ok,())
  |5=>λx=>(x.Id,x.cu,x.Queue,x.aQ,x.aB.bS,x.aB.Mem,x.aB.bU,x.aB.bW,x.aS,x.aF,x.State,x.Ok,x.cM,x.aM,x.cV,x.Start,x.End,x.Array,())
  |6=>λx=>(x.Node,x.aQ,())
  |7=>λx=>(x.aZ,x.aB.bS,x.aB.Mem,x.aB.bU,x.aB.bW,x.ai,())
  |8=>λx=>(x.Id,x.Node,x.cd,x.To,())
  |9=>λx=>(x.S.aj,x.S.aJ,x.S.am,x.S.aX,x.S.aq.mg,x.S.aq.dt,x.S.aq.gO,x.S.aq.bX,x.S.ce,x.S.Mode,x.S.ae,x.S.kD,x.S.aK,x.S.bx,x.S.dB,x.S.In,x.S.Out,x.S.cn,x.St.aL,x.St.Next,x.St.cI,x.St.ae,x.St.ah,x.St.aA,x.St.fC,x.St.ar.am,x.St.ar.aj,())
  |10=>λx=>(x.aj,x.aJ,x.am,x.aX,x.aq.mg,x.aq.dt,x.aq.gO,x.aq.bX,x.ce,x.Mode,x.ae,x.kD,x.aK,x.bx,x.dB,x.In,x.Out,x.cn,())
  |11=>λx=>(x.1,x.2.1,x.2.2.1,x.2.2.2,())
  |12=>λx=>(x.mg,x.dt,x.gO,x.bX,())
  |13=>λx=>(x.Pn,x.f_jobs,())
  |14=>λx=>(x.aL,x.Next,x.cI,x.ae,x.ah,x.aA,x.fC,x.ar.am,x.ar.aj,())
  |15=>λx=>(x.aB.bS,x.aB.Mem,x.aB.bU,x.aB.bW,x.ai,x.pP,())
  |16=>λx=>(x.At,x.cz.bS,x.cz.Mem,x.cz.bU,x.cz.bW,())
  |17=>λx=>(x,())
  |18=>λx=>(x.fR,x.cU,x.cT,())
  |19=>λx=>(x.aL,x.fC,())
  |20=>λx=>(x.1,x.2.1,x.2.2,())
  |21=>λx=>(x.aZ,x.At,x.ai,())
  |22=>λx=>(x.Started,x.iW,x.CL.aZ,x.CL.eo,x.CL.aF,())
  |23=>λx=>(x.Bo.aZ,x.Bo.At,x.Bo.ai,x.eT.Id,x.eT.cu,x.eT.Queue,x.eT.aQ,x.eT.aB.bS,x.eT.aB.Mem,x.eT.aB.bU,x.eT.aB.bW,x.eT.aS,x.eT.aF,x.eT.State,x.eT.Ok,x.eT.cM,x.eT.aM,x.eT.cV,x.eT.Start,x.eT.End,x.eT.Array,())
  |24|25|_+26=>λx=>(x,())
 mkt:=λi=>match i with
  |0=>λx=>({ bS:=x.1,Mem:=x.2.1,bU:=x.2.2.1,bW:=x.2.2.2.1 }:aE)
  |1|2=>λx=>x.1
  |3=>λx=>({ Part:=x.1,aX:=x.2.1,ki:=x.2.2.1,nU:=x.2.2.2.1,jb:=x.2.2.2.2.1,gO:=x.2.2.2.2.2.1 }:uN)
  |4=>λx=>({ aZ:=x.1,Ok:=x.2.1 }:Ja)
  |5=>λx=>({ Id:=x.1,cu:=x.2.1,Queue:=x.2.2.1,aQ:=x.2.2.2.1,aB:=({ bS:=x.2.2.2.2.1,Mem:=x.2.2.2.2.2.1,bU:=x.2.2.2.2.2.2.1,bW:=x.2.2.2.2.2.2.2.1 }:aE),aS:=x.2.2.2.2.2.2.2.2.1,aF:=x.2.2.2.2.2.2.2.2.2.1,State:=x.2.2.2.2.2.2.2.2.2.2.1,Ok:=x.2.2.2.2.2.2.2.2.2.2.2.1,cM:=x.2.2.2.2.2.2.2.2.2.2.2.2.1,aM:=x.2.2.2.2.2.2.2.2.2.2.2.2.2.1,cV:=x.2.2.2.2.2.2.2.2.2.2.2.2.2.2.1,Start:=x.2.2.2.2.2.2.2.2.2.2.2.2.2.2.2.1,End:=x.2.2.2.2.2.2.2.2.2.2.2.2.2.2.2.2.1,Array:=x.2.2.2.2.2.2.2.2.2.2.2.2.2.2.2.2.2.1 }:aH)
  |6=>λx=>({ Node:=x.1,aQ:=x.2.1 }:dD)
  |7=>λx=>({ aZ:=x.1,aB:=({ bS:=x.2.1,Mem:=x.2.2.1,bU:=x.2.2.2.1,bW:=x.2.2.2.2.1 }:aE),ai:=x.2.2.2.2.2.1 }:bo)
  |8=>λx=>({ Id:=x.1,Node:=x.2.1,cd:=x.2.2.1,To:=x.2.2.2.1 }:dL)
  |9=>λx=>({ S:=({ aj:=x.1,aJ:=x.2.1,am:=x.2.2.1,aX:=x.2.2.2.1,aq:=({ mg:=x.2.2.2.2.1,dt:=x.2.2.2.2.2.1,gO:=x.2.2.2.2.2.2.1,bX:=x.2.2.2.2.2.2.2.1 }:UC),ce:=x.2.2.2.2.2.2.2.2.1,Mode:=x.2.2.2.2.2.2.2.2.2.1,ae:=x.2.2.2.2.2.2.2.2.2.2.1,kD:=x.2.2.2.2.2.2.2.2.2.2.2.1,aK:=x.2.2.2.2.2.2.2.2.2.2.2.2.1,bx:=x.2.2.2.2.2.2.2.2.2.2.2.2.2.1,dB:=x.2.2.2.2.2.2.2.2.2.2.2.2.2.2.1,In:=x.2.2.2.2.2.2.2.2.2.2.2.2.2.2.2.1,Out:=x.2.2.2.2.2.2.2.2.2.2.2.2.2.2.2.2.1,cn:=x.2.2.2.2.2.2.2.2.2.2.2.2.2.2.2.2.2.1 }:bj),St:=({ aL:=x.2.2.2.2.2.2.2.2.2.2.2.2.2.2.2.2.2.2.1,Next:=x.2.2.2.2.2.2.2.2.2.2.2.2.2.2.2.2.2.2.2.1,cI:=x.2.2.2.2.2.2.2.2.2.2.2.2.2.2.2.2.2.2.2.2.1,ae:=x.2.2.2.2.2.2.2.2.2.2.2.2.2.2.2.2.2.2.2.2.2.1,ah:=x.2.2.2.2.2.2.2.2.2.2.2.2.2.2.2.2.2.2.2.2.2.2.1,aA:=x.2.2.2.2.2.2.2.2.2.2.2.2.2.2.2.2.2.2.2.2.2.2.2.1,fC:=x.2.2.2.2.2.2.2.2.2.2.2.2.2.2.2.2.2.2.2.2.2.2.2.2.1,ar:=({ am:=x.2.2.2.2.2.2.2.2.2.2.2.2.2.2.2.2.2.2.2.2.2.2.2.2.2.1,aj:=x.2.2.2.2.2.2.2.2.2.2.2.2.2.2.2.2.2.2.2.2.2.2.2.2.2.2.1 }:tj) }:bO) }:zd9)
  |10=>λx=>({ aj:=x.1,aJ:=x.2.1,am:=x.2.2.1,aX:=x.2.2.2.1,aq:=({ mg:=x.2.2.2.2.1,dt:=x.2.2.2.2.2.1,gO:=x.2.2.2.2.2.2.1,bX:=x.2.2.2.2.2.2.2.1 }:UC),ce:=x.2.2.2.2.2.2.2.2.1,Mode:=x.2.2.2.2.2.2.2.2.2.1,ae:=x.2.2.2.2.2.2.2.2.2.2.1,kD:=x.2.2.2.2.2.2.2.2.2.2.2.1,aK:=x.2.2.2.2.2.2.2.2.2.2.2.2.1,bx:=x.2.2.2.2.2.2.2.2.2.2.2.2.2.1,dB:=x.2.2.2.2.2.2.2.2.2.2.2.2.2.2.1,In:=x.2.2.2.2.2.2.2.2.2.2.2.2.2.2.2.1,Out:=x.2.2.2.2.2.2.2.2.2.2.2.2.2.2.2.2.1,cn:=x.2.2.2.2.2.2.2.2.2.2.2.2.2.2.2.2.2.1 }:bj)
  |11=>λx=>(x.1,x.2.1,x.2.2.1,x.2.2.2.1)
  |12=>λx=>({ mg:=x.1,dt:=x.2.1,gO:=x.2.2.1,bX:=x.2.2.2.1 }:UC)
  |13=>λx=>({ Pn:=x.1,f_jobs:=x.2.1 }:DZ)
  |14=>λx=>({ aL:=x.1,Next:=x.2.1,cI:=x.2.2.1,ae:=x.2.2.2.1,ah:=x.2.2.2.2.1,aA:=x.2.2.2.2.2.1,fC:=x.2.2.2.2.2.2.1,ar:=({ am:=x.2.2.2.2.2.2.2.1,aj:=x.2.2.2.2.2.2.2.2.1 }:tj) }:bO)
  |15=>λx=>({ aB:=({ bS:=x.1,Mem:=x.2.1,bU:=x.2.2.1,bW:=x.2.2.2.1 }:aE),ai:=x.2.2.2.2.1,pP:=x.2.2.2.2.2.1 }:kl)
  |16=>λx=>({ At:=x.1,cz:=({ bS:=x.2.1,Mem:=x.2.2.1,bU:=x.2.2.2.1,bW:=x.2.2.2.2.1 }:aE) }:bV)
  |17=>λx=>x.1
  |18=>λx=>({ fR:=x.1,cU:=x.2.1,cT:=x.2.2.1 }:Cy)
  |19=>λx=>({ aL:=x.1,fC:=x.2.1 }:kB)
  |20=>λx=>(x.1,x.2.1,x.2.2.1)
  |21=>λx=>({ aZ:=x.1,At:=x.2.1,ai:=x.2.2.1 }:jp)
  |22=>λx=>({ Started:=x.1,iW:=x.2.1,CL:=({ aZ:=x.2.2.1,eo:=x.2.2.2.1,aF:=x.2.2.2.2.1 }:fi) }:zeM)
  |23=>λx=>({ Bo:=({ aZ:=x.1,At:=x.2.1,ai:=x.2.2.1 }:jp),eT:=({ Id:=x.2.2.2.1,cu:=x.2.2.2.2.1,Queue:=x.2.2.2.2.2.1,aQ:=x.2.2.2.2.2.2.1,aB:=({ bS:=x.2.2.2.2.2.2.2.1,Mem:=x.2.2.2.2.2.2.2.2.1,bU:=x.2.2.2.2.2.2.2.2.2.1,bW:=x.2.2.2.2.2.2.2.2.2.2.1 }:aE),aS:=x.2.2.2.2.2.2.2.2.2.2.2.1,aF:=x.2.2.2.2.2.2.2.2.2.2.2.2.1,State:=x.2.2.2.2.2.2.2.2.2.2.2.2.2.1,Ok:=x.2.2.2.2.2.2.2.2.2.2.2.2.2.2.1,cM:=x.2.2.2.2.2.2.2.2.2.2.2.2.2.2.2.1,aM:=x.2.2.2.2.2.2.2.2.2.2.2.2.2.2.2.2.1,cV:=x.2.2.2.2.2.2.2.2.2.2.2.2.2.2.2.2.2.1,Start:=x.2.2.2.2.2.2.2.2.2.2.2.2.2.2.2.2.2.2.1,End:=x.2.2.2.2.2.2.2.2.2.2.2.2.2.2.2.2.2.2.2.1,Array:=x.2.2.2.2.2.2.2.2.2.2.2.2.2.2.2.2.2.2.2.2.1 }:aH) }:zc8)
  |24|25|_+26=>λx=>x.1
 mp:=λi=>match i with
  |0|1|2|3|4|5|6|7|8|9|10|11|12|13|14|15|16|17|18|19|20|21|22|23|24|25|_+26=>λ_=>rfl
 pm:=λi=>match i with
  |0|1|2|3|4|5|6|7|8|9|10|11|12|13|14|15|16|17|18|19|20|21|22|23|24|25|_+26=>λ_=>rfl
 dn:=λi j h=>match i with
  |0|1|2|3|4|5|6|7|8|9|10|11|12|13|14|15|16|17|18|19|20|21|22|23|24|25|_+26=>Dj rfl h
 ps:=λi=>match i with
  |0|1|2|3|4|5|6|7|8|9|10|11|12|13|14|15|16|17|18|19|20|21|22|23|24|25|_+26=>Nat.succ_pos _
@[ext] structure XX where
 aL:Η
 fC:(Β Η)
 deriving μ,ξ
@[ext] structure Iz where
 cd:Η
 To:Η
 aB:aE
 ai:(Β dD)
 deriving μ,ξ
@[ext] structure lM where
 S:bj
 aL:Η
 L:(Β Iz)
 aA:(Β dL)
 deriving μ,ξ
@[ext] structure IT where
 Part:Η
 aQ:Η
 aB:aE
 aS:Η
 deriving μ,ξ
end Go.Abs
