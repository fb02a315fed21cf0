/- The program's types. -/
import Derived.Test.YtpojbebipfffbaaGreatFwG
import Derived.Test.YtpojbebipfffbaaGreatFwH
set_option linter.all false
set_option maxRecDepth 100000
open _root_ renaming Bool->Λ,DecidableEq->ν,Inhabited->ο,Int->Q,List->Z
noncomputable section
namespace Go.Abs
variable[Gl]
@[ext]structure aG where
 bX:Q
 Mem:Q
 b_:Q
 ce:Q
 deriving ν,ο
def aG.beq(a b:aG):Λ:=(a.bX==b.bX&&(a.Mem==b.Mem&&(a.b_==b.b_&&(a.ce==b.ce&&true))))
@[ext]structure vf where
 Part:Q
 aV:(Z Q)
 kH:Q
 nZ:Q
 jy:Q
 fh:Q
 deriving ν,ο
@[ext]structure WU where
 iw:Q
 cI:Q
 fh:Q
 bJ:Q
 deriving ν,ο
def WU.beq(a b:WU):Λ:=(a.iw==b.iw&&(a.cI==b.cI&&(a.fh==b.fh&&(a.bJ==b.bJ&&true))))
@[ext]structure aZ where
 aj:(Z aG)
 aK:(Z (Z Q))
 aq:(Z vf)
 aV:Q
 ai:WU
 ca:Q
 Mode:Q
 ae:Q
 ko:Q
 aN:Q
 bz:Q
 dB:Q
 In:Q
 Out:Q
 cq:Q
 deriving ν,ο
@[ext]structure HR where
 aY:Q
 Ok:Λ
 deriving ν,ο
def HR.beq(a b:HR):Λ:=(a.aY==b.aY&&(a.Ok==b.Ok&&true))
@[ext]structure aE where
 Id:Q
 bP:Q
 Queue:Q
 aQ:Q
 aB:aG
 aS:Q
 aD:(Z HR)
 State:Q
 Ok:Λ
 cS:Λ
 aO:Q
 cH:Q
 Start:Q
 End:Q
 Array:Q
 deriving ν,ο
@[ext]structure dH where
 Node:Q
 aQ:Q
 deriving ν,ο
def dH.beq(a b:dH):Λ:=(a.Node==b.Node&&(a.aQ==b.aQ&&true))
@[ext]structure br where
 aY:Q
 aB:aG
 am:(Z dH)
 deriving ν,ο
@[ext]structure dS where
 Id:Q
 Node:Q
 cn:Q
 To:Q
 deriving ν,ο
def dS.beq(a b:dS):Λ:=(a.Id==b.Id&&(a.Node==b.Node&&(a.cn==b.cn&&(a.To==b.To&&true))))
@[ext]structure tK where
 aq:(Z Q)
 aj:Q
 deriving ν,ο
@[ext]structure bL where
 aJ:Q
 Next:Q
 cL:Q
 ae:(Z aE)
 ah:(Z br)
 aA:(Z dS)
 dX:(Z Q)
 ar:tK
 deriving ν,ο
@[ext]structure zew where
 S:aZ
 St:bL
 deriving ν,ο
@[ext]structure Fa where
 RX:Q
 f_jobs:(Z aE)
 deriving ν,ο
@[ext]structure kI where
 aB:aG
 am:(Z dH)
 pF:Q
 deriving ν,ο
@[ext]structure cd where
 At:Q
 cG:aG
 deriving ν,ο
def cd.beq(a b:cd):Λ:=(a.At==b.At&&(aG.beq a.cG b.cG&&true))
@[ext]structure DL where
 gD:Q
 dh:(Z (Z Q))
 dj:(Z (Z cd))
 deriving ν,ο
@[ext]structure ld where
 aJ:Q
 dX:(Z Q)
 deriving ν,ο
@[ext]structure jF where
 aY:Q
 At:Q
 am:(Z dH)
 deriving ν,ο
@[ext]structure fA where
 aY:Q
 eT:Q
 aD:Q
 deriving ν,ο
def fA.beq(a b:fA):Λ:=(a.aY==b.aY&&(a.eT==b.eT&&(a.aD==b.aD&&true)))
@[ext]structure ze2 where
 Started:(Z jF)
 jz:(Z jF)
 DV:fA
 deriving ν,ο
@[ext]structure zdg where
 Ch:jF
 fq:aE
 deriving ν,ο
@[ext]structure zdk where
 aJ:Q
 dX:(Z Q)
 deriving ν,ο
def tyT:Nat->Type|0=>aG|1=>Q|2=>(Z Q)|3=>vf|4=>HR|5=>aE|6=>dH|7=>br|8=>dS|9=>zew|10=>aZ|11=>(Q×Q×Q×Q)|12=>WU|13=>Fa|14=>bL|15=>kI|16=>cd|17=>(Z cd)|18=>DL|19=>ld|20=>(Q×Q×Q)|21=>jF|22=>ze2|23=>zdg|24=>ByteArray|25=>Λ|26=>zdk|_=>Λ
abbrev g6:CC:=.int .i64
def tyF:Nat->Z CC|0=>[g6,g6,g6,g6]|1=>[g6]|2=>[.sl 1]|3=>[g6,.sl 1,g6,g6,g6,g6]|4=>[g6,.bool]|5=>[g6,g6,g6,g6,g6,g6,g6,g6,g6,.sl 4,g6,.bool,.bool,g6,g6,g6,g6,g6]|6=>[g6,g6]|7=>[g6,g6,g6,g6,g6,.sl 6]|8=>[g6,g6,g6,g6]|9=>[.sl 0,.sl 2,.sl 3,g6,g6,g6,g6,g6,g6,g6,g6,g6,g6,g6,g6,g6,g6,g6,g6,g6,g6,.sl 5,.sl 7,.sl 8,.sl 1,.sl 1,g6]|10=>[.sl 0,.sl 2,.sl 3,g6,g6,g6,g6,g6,g6,g6,g6,g6,g6,g6,g6,g6,g6,g6]|11|12=>[g6,g6,g6,g6]|13=>[g6,.sl 5]|14=>[g6,g6,g6,.sl 5,.sl 7,.sl 8,.sl 1,.sl 1,g6]|15=>[g6,g6,g6,g6,.sl 6,g6]|16=>[g6,g6,g6,g6,g6]|17=>[.sl 16]|18=>[g6,.sl 2,.sl 17]|19=>[g6,.sl 1]|20=>[g6,g6,g6]|21=>[g6,g6,.sl 6]|22=>[.sl 21,.sl 21,g6,g6,g6]|23=>[g6,g6,.sl 6,g6,g6,g6,g6,g6,g6,g6,g6,g6,.sl 4,g6,.bool,.bool,g6,g6,g6,g6,g6]|24=>[.str]|25=>[.bool]|26=>[g6,.sl 1]|_=>[.bool]
set_option maxHeartbeats 4000000 in
noncomputable instance ty:Ty where
 T:=tyT
 fl:=tyF
 prj:=λi=>match i with
  |0=>λx=>(x.bX,x.Mem,x.b_,x.ce,())
  |1|2=>λx=>(x,())
  |3=>λx=>(x.Part,x.aV,x.kH,x.nZ,x.jy,x.fh,())
  |4=>λx=>(x.aY,x.Ok,())
  |5=>λx=>(x.Id,x.bP,x.Queue,x.aQ,x.aB.bX,x.aB.Mem,x.aB.b_,x.aB.ce,x.aS,x.aD,x.State,x.Ok,x.cS,x.aO,x.cH,x.Start,x.End,x.Array,())
  |6=>λx=>(x.Node,x.aQ,())
  |7=>λx=>(x.aY,x.aB.bX,x.aB.Mem,x.aB.b_,x.aB.ce,x.am,())
  |8=>λx=>(x.Id,x.Node,x.cn,x.To,())
  |9=>λx=>(x.S.aj,x.S.aK,x.S.aq,x.S.aV,x.S.ai.iw,x.S.ai.cI,x.S.ai.fh,x.S.ai.bJ,x.S.ca,x.S.Mode,x.S.ae,x.S.ko,x.S.aN,x.S.bz,x.S.dB,x.S.In,x.S.Out,x.S.cq,x.St.aJ,x.St.Next,x.St.cL,x.St.ae,x.St.ah,x.St.aA,x.St.dX,x.St.ar.aq,x.St.ar.aj,())
  |10=>λx=>(x.aj,x.aK,x.aq,x.aV,x.ai.iw,x.ai.cI,x.ai.fh,x.ai.bJ,x.ca,x.Mode,x.ae,x.ko,x.aN,x.bz,x.dB,x.In,x.Out,x.cq,())
  |11=>λx=>(x.1,x.2.1,x.2.2.1,x.2.2.2,())
  |12=>λx=>(x.iw,x.cI,x.fh,x.bJ,())
  |13=>λx=>(x.RX,x.f_jobs,())
  |14=>λx=>(x.aJ,x.Next,x.cL,x.ae,x.ah,x.aA,x.dX,x.ar.aq,x.ar.aj,())
  |15=>λx=>(x.aB.bX,x.aB.Mem,x.aB.b_,x.aB.ce,x.am,x.pF,())
  |16=>λx=>(x.At,x.cG.bX,x.cG.Mem,x.cG.b_,x.cG.ce,())
  |17=>λx=>(x,())
  |18=>λx=>(x.gD,x.dh,x.dj,())
  |19=>λx=>(x.aJ,x.dX,())
  |20=>λx=>(x.1,x.2.1,x.2.2,())
  |21=>λx=>(x.aY,x.At,x.am,())
  |22=>λx=>(x.Started,x.jz,x.DV.aY,x.DV.eT,x.DV.aD,())
  |23=>λx=>(x.Ch.aY,x.Ch.At,x.Ch.am,x.fq.Id,x.fq.bP,x.fq.Queue,x.fq.aQ,x.fq.aB.bX,x.fq.aB.Mem,x.fq.aB.b_,x.fq.aB.ce,x.fq.aS,x.fq.aD,x.fq.State,x.fq.Ok,x.fq.cS,x.fq.aO,x.fq.cH,x.fq.Start,x.fq.End,x.fq.Array,())
  |24|25=>λx=>(x,())
  |26=>λx=>(x.aJ,x.dX,())
  |_+27=>λx=>(x,())
 mkt:=λi=>match i with
  |0=>λx=>({ bX:=x.1,Mem:=x.2.1,b_:=x.2.2.1,ce:=x.2.2.2.1 }:aG)
  |1|2=>λx=>x.1
  |3=>λx=>({ Part:=x.1,aV:=x.2.1,kH:=x.2.2.1,nZ:=x.2.2.2.1,jy:=x.2.2.2.2.1,fh:=x.2.2.2.2.2.1 }:vf)
  |4=>λx=>({ aY:=x.1,Ok:=x.2.1 }:HR)
  |5=>λx=>({ Id:=x.1,bP:=x.2.1,Queue:=x.2.2.1,aQ:=x.2.2.2.1,aB:=({ bX:=x.2.2.2.2.1,Mem:=x.2.2.2.2.2.1,b_:=x.2.2.2.2.2.2.1,ce:=x.2.2.2.2.2.2.2.1 }:aG),aS:=x.2.2.2.2.2.2.2.2.1,aD:=x.2.2.2.2.2.2.2.2.2.1,State:=x.2.2.2.2.2.2.2.2.2.2.1,Ok:=x.2.2.2.2.2.2.2.2.2.2.2.1,cS:=x.2.2.2.2.2.2.2.2.2.2.2.2.1,aO:=x.2.2.2.2.2.2.2.2.2.2.2.2.2.1,cH:=x.2.2.2.2.2.2.2.2.2.2.2.2.2.2.1,Start:=x.2.2.2.2.2.2.2.2.2.2.2.2.2.2.2.1,End:=x.2.2.2.2.2.2.2.2.2.2.2.2.2.2.2.2.1,Array:=x.2.2.2.2.2.2.2.2.2.2.2.2.2.2.2.2.2.1 }:aE)
  |6=>λx=>({ Node:=x.1,aQ:=x.2.1 }:dH)
  |7=>λx=>({ aY:=x.1,aB:=({ bX:=x.2.1,Mem:=x.2.2.1,b_:=x.2.2.2.1,ce:=x.2.2.2.2.1 }:aG),am:=x.2.2.2.2.2.1 }:br)
  |8=>λx=>({ Id:=x.1,Node:=x.2.1,cn:=x.2.2.1,To:=x.2.2.2.1 }:dS)
  |9=>λx=>({ S:=({ aj:=x.1,aK:=x.2.1,aq:=x.2.2.1,aV:=x.2.2.2.1,ai:=({ iw:=x.2.2.2.2.1,cI:=x.2.2.2.2.2.1,fh:=x.2.2.2.2.2.2.1,bJ:=x.2.2.2.2.2.2.2.1 }:WU),ca:=x.2.2.2.2.2.2.2.2.1,Mode:=x.2.2.2.2.2.2.2.2.2.1,ae:=x.2.2.2.2.2.2.2.2.2.2.1,ko:=x.2.2.2.2.2.2.2.2.2.2.2.1,aN:=x.2.2.2.2.2.2.2.2.2.2.2.2.1,bz:=x.2.2.2.2.2.2.2.2.2.2.2.2.2.1,dB:=x.2.2.2.2.2.2.2.2.2.2.2.2.2.2.1,In:=x.2.2.2.2.2.2.2.2.2.2.2.2.2.2.2.1,Out:=x.2.2.2.2.2.2.2.2.2.2.2.2.2.2.2.2.1,cq:=x.2.2.2.2.2.2.2.2.2.2.2.2.2.2.2.2.2.1 }:aZ),St:=({ aJ:=x.2.2.2.2.2.2.2.2.2.2.2.2.2.2.2.2.2.2.1,Next:=x.2.2.2.2.2.2.2.2.2.2.2.2.2.2.2.2.2.2.2.1,cL:=x.2.2.2.2.2.2.2.2.2.2.2.2.2.2.2.2.2.2.2.2.1,ae:=x.2.2.2.2.2.2.2.2.2.2.2.2.2.2.2.2.2.2.2.2.2.1,ah:=x.2.2.2.2.2.2.2.2.2.2.2.2.2.2.2.2.2.2.2.2.2.2.1,aA:=x.2.2.2.2.2.2.2.2.2.2.2.2.2.2.2.2.2.2.2.2.2.2.2.1,dX:=x.2.2.2.2.2.2.2.2.2.2.2.2.2.2.2.2.2.2.2.2.2.2.2.2.1,ar:=({ aq:=x.2.2.2.2.2.2.2.2.2.2.2.2.2.2.2.2.2.2.2.2.2.2.2.2.2.1,aj:=x.2.2.2.2.2.2.2.2.2.2.2.2.2.2.2.2.2.2.2.2.2.2.2.2.2.2.1 }:tK) }:bL) }:zew)
  |10=>λx=>({ aj:=x.1,aK:=x.2.1,aq:=x.2.2.1,aV:=x.2.2.2.1,ai:=({ iw:=x.2.2.2.2.1,cI:=x.2.2.2.2.2.1,fh:=x.2.2.2.2.2.2.1,bJ:=x.2.2.2.2.2.2.2.1 }:WU),ca:=x.2.2.2.2.2.2.2.2.1,Mode:=x.2.2.2.2.2.2.2.2.2.1,ae:=x.2.2.2.2.2.2.2.2.2.2.1,ko:=x.2.2.2.2.2.2.2.2.2.2.2.1,aN:=x.2.2.2.2.2.2.2.2.2.2.2.2.1,bz:=x.2.2.2.2.2.2.2.2.2.2.2.2.2.1,dB:=x.2.2.2.2.2.2.2.2.2.2.2.2.2.2.1,In:=x.2.2.2.2.2.2.2.2.2.2.2.2.2.2.2.1,Out:=x.2.2.2.2.2.2.2.2.2.2.2.2.2.2.2.2.1,cq:=x.2.2.2.2.2.2.2.2.2.2.2.2.2.2.2.2.2.1 }:aZ)
  |11=>λx=>(x.1,x.2.1,x.2.2.1,x.2.2.2.1)
  |12=>λx=>({ iw:=x.1,cI:=x.2.1,fh:=x.2.2.1,bJ:=x.2.2.2.1 }:WU)
  |13=>λx=>({ RX:=x.1,f_jobs:=x.2.1 }:Fa)
  |14=>λx=>({ aJ:=x.1,Next:=x.2.1,cL:=x.2.2.1,ae:=x.2.2.2.1,ah:=x.2.2.2.2.1,aA:=x.2.2.2.2.2.1,dX:=x.2.2.2.2.2.2.1,ar:=({ aq:=x.2.2.2.2.2.2.2.1,aj:=x.2.2.2.2.2.2.2.2.1 }:tK) }:bL)
  |15=>λx=>({ aB:=({ bX:=x.1,Mem:=x.2.1,b_:=x.2.2.1,ce:=x.2.2.2.1 }:aG),am:=x.2.2.2.2.1,pF:=x.2.2.2.2.2.1 }:kI)
  |16=>λx=>({ At:=x.1,cG:=({ bX:=x.2.1,Mem:=x.2.2.1,b_:=x.2.2.2.1,ce:=x.2.2.2.2.1 }:aG) }:cd)
  |17=>λx=>x.1
  |18=>λx=>({ gD:=x.1,dh:=x.2.1,dj:=x.2.2.1 }:DL)
  |19=>λx=>({ aJ:=x.1,dX:=x.2.1 }:ld)
  |20=>λx=>(x.1,x.2.1,x.2.2.1)
  |21=>λx=>({ aY:=x.1,At:=x.2.1,am:=x.2.2.1 }:jF)
  |22=>λx=>({ Started:=x.1,jz:=x.2.1,DV:=({ aY:=x.2.2.1,eT:=x.2.2.2.1,aD:=x.2.2.2.2.1 }:fA) }:ze2)
  |23=>λx=>({ Ch:=({ aY:=x.1,At:=x.2.1,am:=x.2.2.1 }:jF),fq:=({ Id:=x.2.2.2.1,bP:=x.2.2.2.2.1,Queue:=x.2.2.2.2.2.1,aQ:=x.2.2.2.2.2.2.1,aB:=({ bX:=x.2.2.2.2.2.2.2.1,Mem:=x.2.2.2.2.2.2.2.2.1,b_:=x.2.2.2.2.2.2.2.2.2.1,ce:=x.2.2.2.2.2.2.2.2.2.2.1 }:aG),aS:=x.2.2.2.2.2.2.2.2.2.2.2.1,aD:=x.2.2.2.2.2.2.2.2.2.2.2.2.1,State:=x.2.2.2.2.2.2.2.2.2.2.2.2.2.1,Ok:=x.2.2.2.2.2.2.2.2.2.2.2.2.2.2.1,cS:=x.2.2.2.2.2.2.2.2.2.2.2.2.2.2.2.1,aO:=x.2.2.2.2.2.2.2.2.2.2.2.2.2.2.2.2.1,cH:=x.2.2.2.2.2.2.2.2.2.2.2.2.2.2.2.2.2.1,Start:=x.2.2.2.2.2.2.2.2.2.2.2.2.2.2.2.2.2.2.1,End:=x.2.2.2.2.2.2.2.2.2.2.2.2.2.2.2.2.2.2.2.1,Array:=x.2.2.2.2.2.2.2.2.2.2.2.2.2.2.2.2.2.2.2.2.1 }:aE) }:zdg)
  |24|25=>λx=>x.1
  |26=>λx=>({ aJ:=x.1,dX:=x.2.1 }:zdk)
  |_+27=>λx=>x.1
 mp:=λi=>match i with
  |0|1|2|3|4|5|6|7|8|9|10|11|12|13|14|15|16|17|18|19|20|21|22|23|24|25|26|_+27=>λ_=>rfl
 pm:=λi=>match i with
  |0|1|2|3|4|5|6|7|8|9|10|11|12|13|14|15|16|17|18|19|20|21|22|23|24|25|26|_+27=>λ_=>rfl
 dn:=λi j h=>match i with
  |0|1|2|3|4|5|6|7|8|9|10|11|12|13|14|15|16|17|18|19|20|21|22|23|24|25|26|_+27=>Dp rfl h
 ps:=λi=>match i with
  |0|1|2|3|4|5|6|7|8|9|10|11|12|13|14|15|16|17|18|19|20|21|22|23|24|25|26|_+27=>Nat.succ_pos _
@[ext]structure JG where
 cn:Q
 To:Q
 aB:aG
 am:(Z dH)
 deriving ν,ο
@[ext]structure lO where
 S:aZ
 aJ:Q
 L:(Z JG)
 aA:(Z dS)
 deriving ν,ο
@[ext]structure JY where
 Part:Q
 aQ:Q
 aB:aG
 aS:Q
 deriving ν,ο
end Go.Abs
