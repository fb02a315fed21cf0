/- The program's types. -/
import Derived.Test.YtmaocdlpgdadnaaGreatFwG
set_option linter.all false
set_option maxRecDepth 100000
noncomputable section
namespace Go.Abs
variable[Gl]
@[ext] structure aN where
 cj:Int
 Mem:Int
 cA:Int
 cC:Int
 deriving DecidableEq,Inhabited
def aN.beq(a b:aN):Bool:=(a.cj == b.cj&&(a.Mem == b.Mem&&(a.cA == b.cA&&(a.cC == b.cC&&true))))
@[ext] structure Do where
 Part:Int
 aT:(List Int)
 gB:Int
 eR:Int
 dh:Int
 iy:Int
 deriving DecidableEq,Inhabited
@[ext] structure Ma where
 oJ:Int
 cQ:Int
 iy:Int
 bJ:Int
 deriving DecidableEq,Inhabited
def Ma.beq(a b:Ma):Bool:=(a.oJ == b.oJ&&(a.cQ == b.cQ&&(a.iy == b.iy&&(a.bJ == b.bJ&&true))))
@[ext] structure aX where
 aw:(List aN)
 aL:(List (List Int))
 ah:(List Do)
 aT:Int
 ae:Ma
 cF:Int
 Mode:Int
 an:Int
 tc:Int
 aK:Int
 bL:Int
 ia:Int
 In:Int
 Out:Int
 cD:Int
 deriving DecidableEq,Inhabited
@[ext] structure y_ where
 bz:Int
 Ok:Bool
 deriving DecidableEq,Inhabited
def y_.beq(a b:y_):Bool:=(a.bz == b.bz&&(a.Ok == b.Ok&&true))
@[ext] structure aD where
 Id:Int
 bH:Int
 Queue:Int
 aZ:Int
 aJ:aN
 dY:Int
 aA:(List y_)
 State:Int
 Ok:Bool
 kf:Bool
 bA:Int
 dy:Int
 Start:Int
 End:Int
 Array:Int
 deriving DecidableEq,Inhabited
@[ext] structure jY where
 Node:Int
 aZ:Int
 deriving DecidableEq,Inhabited
def jY.beq(a b:jY):Bool:=(a.Node == b.Node&&(a.aZ == b.aZ&&true))
@[ext] structure cn where
 bz:Int
 aJ:aN
 aq:(List jY)
 deriving DecidableEq,Inhabited
@[ext] structure lz where
 Id:Int
 Node:Int
 dR:Int
 To:Int
 deriving DecidableEq,Inhabited
def lz.beq(a b:lz):Bool:=(a.Id == b.Id&&(a.Node == b.Node&&(a.dR == b.dR&&(a.To == b.To&&true))))
@[ext] structure my where
 ah:(List Int)
 aw:Int
 deriving DecidableEq,Inhabited
@[ext] structure cg where
 fL:Int
 Next:Int
 ib:Int
 an:(List aD)
 aj:(List cn)
 bI:(List lz)
 iW:(List Int)
 aG:my
 deriving DecidableEq,Inhabited
@[ext] structure zcE where
 S:aX
 St:cg
 deriving DecidableEq,Inhabited
@[ext] structure vM where
 FM:Int
 Po:(List aD)
 deriving DecidableEq,Inhabited
@[ext] structure pO where
 fL:Int
 iW:(List Int)
 deriving DecidableEq,Inhabited
@[ext] structure Yf where
 fL:Int
 iW:(List Int)
 deriving DecidableEq,Inhabited
def tyT:Nat->Type
 |0=>aN
 |1=>Int
 |2=>(List Int)
 |3=>Do
 |4=>y_
 |5=>aD
 |6=>jY
 |7=>cn
 |8=>lz
 |9=>zcE
 |10=>aX
 |11=>(Int×Int×Int×Int)
 |12=>Ma
 |13=>vM
 |14=>cg
 |15=>pO
 |16=>(Int×Int×Int)
 |17=>ByteArray
 |18=>Bool
 |19=>Yf
 |20=>(Int×Int)
 |_=>Bool
def tyF:Nat->List CC
 |0=>[.int .i64,.int .i64,.int .i64,.int .i64]
 |1=>[.int .i64]
 |2=>[.sl 1]
 |3=>[.int .i64,.sl 1,.int .i64,.int .i64,.int .i64,.int .i64]
 |4=>[.int .i64,.bool]
 |5=>[.int .i64,.int .i64,.int .i64,.int .i64,.int .i64,.int .i64,.int .i64,.int .i64,.int .i64,.sl 4,.int .i64,.bool,.bool,.int .i64,.int .i64,.int .i64,.int .i64,.int .i64]
 |6=>[.int .i64,.int .i64]
 |7=>[.int .i64,.int .i64,.int .i64,.int .i64,.int .i64,.sl 6]
 |8=>[.int .i64,.int .i64,.int .i64,.int .i64]
 |9=>[.sl 0,.sl 2,.sl 3,.int .i64,.int .i64,.int .i64,.int .i64,.int .i64,.int .i64,.int .i64,.int .i64,.int .i64,.int .i64,.int .i64,.int .i64,.int .i64,.int .i64,.int .i64,.int .i64,.int .i64,.int .i64,.sl 5,.sl 7,.sl 8,.sl 1,.sl 1,.int .i64]
 |10=>[.sl 0,.sl 2,.sl 3,.int .i64,.int .i64,.int .i64,.int .i64,.int .i64,.int .i64,.int .i64,.int .i64,.int .i64,.int .i64,.int .i64,.int .i64,.int .i64,.int .i64,.int .i64]
 |11=>[.int .i64,.int .i64,.int .i64,.int .i64]
 |12=>[.int .i64,.int .i64,.int .i64,.int .i64]
 |13=>[.int .i64,.sl 5]
 |14=>[.int .i64,.int .i64,.int .i64,.sl 5,.sl 7,.sl 8,.sl 1,.sl 1,.int .i64]
 |15=>[.int .i64,.sl 1]
 |16=>[.int .i64,.int .i64,.int .i64]
 |17=>[.str]
 |18=>[.bool]
 |19=>[.int .i64,.sl 1]
 |20=>[.int .i64,.int .i64]
 |_=>[.bool]
noncomputable instance ty:Ty where
 T:=tyT
 fl:=tyF
 Ve:=λi=>match i with
  |0=>λx=>(x.cj,x.Mem,x.cA,x.cC,())
  |1=>λx=>(x,())
  |2=>λx=>(x,())
  |3=>λx=>(x.Part,x.aT,x.gB,x.eR,x.dh,x.iy,())
  |4=>λx=>(x.bz,x.Ok,())
  |5=>λx=>(x.Id,x.bH,x.Queue,x.aZ,x.aJ.cj,x.aJ.Mem,x.aJ.cA,x.aJ.cC,x.dY,x.aA,x.State,x.Ok,x.kf,x.bA,x.dy,x.Start,x.End,x.Array,())
  |6=>λx=>(x.Node,x.aZ,())
  |7=>λx=>(x.bz,x.aJ.cj,x.aJ.Mem,x.aJ.cA,x.aJ.cC,x.aq,())
  |8=>λx=>(x.Id,x.Node,x.dR,x.To,())
  |9=>λx=>(x.S.aw,x.S.aL,x.S.ah,x.S.aT,x.S.ae.oJ,x.S.ae.cQ,x.S.ae.iy,x.S.ae.bJ,x.S.cF,x.S.Mode,x.S.an,x.S.tc,x.S.aK,x.S.bL,x.S.ia,x.S.In,x.S.Out,x.S.cD,x.St.fL,x.St.Next,x.St.ib,x.St.an,x.St.aj,x.St.bI,x.St.iW,x.St.aG.ah,x.St.aG.aw,())
  |10=>λx=>(x.aw,x.aL,x.ah,x.aT,x.ae.oJ,x.ae.cQ,x.ae.iy,x.ae.bJ,x.cF,x.Mode,x.an,x.tc,x.aK,x.bL,x.ia,x.In,x.Out,x.cD,())
  |11=>λx=>(x.1,x.2.1,x.2.2.1,x.2.2.2,())
  |12=>λx=>(x.oJ,x.cQ,x.iy,x.bJ,())
  |13=>λx=>(x.FM,x.Po,())
  |14=>λx=>(x.fL,x.Next,x.ib,x.an,x.aj,x.bI,x.iW,x.aG.ah,x.aG.aw,())
  |15=>λx=>(x.fL,x.iW,())
  |16=>λx=>(x.1,x.2.1,x.2.2,())
  |17=>λx=>(x,())
  |18=>λx=>(x,())
  |19=>λx=>(x.fL,x.iW,())
  |20=>λx=>(x.1,x.2,())
  |_+21=>λx=>(x,())
 Vj:=λi=>match i with
  |0=>λx=>({ cj:=x.1,Mem:=x.2.1,cA:=x.2.2.1,cC:=x.2.2.2.1 }:aN)
  |1=>λx=>x.1
  |2=>λx=>x.1
  |3=>λx=>({ Part:=x.1,aT:=x.2.1,gB:=x.2.2.1,eR:=x.2.2.2.1,dh:=x.2.2.2.2.1,iy:=x.2.2.2.2.2.1 }:Do)
  |4=>λx=>({ bz:=x.1,Ok:=x.2.1 }:y_)
  |5=>λx=>({ Id:=x.1,bH:=x.2.1,Queue:=x.2.2.1,aZ:=x.2.2.2.1,aJ:=({ cj:=x.2.2.2.2.1,Mem:=x.2.2.2.2.2.1,cA:=x.2.2.2.2.2.2.1,cC:=x.2.2.2.2.2.2.2.1 }:aN),dY:=x.2.2.2.2.2.2.2.2.1,aA:=x.2.2.2.2.2.2.2.2.2.1,State:=x.2.2.2.2.2.2.2.2.2.2.1,Ok:=x.2.2.2.2.2.2.2.2.2.2.2.1,kf:=x.2.2.2.2.2.2.2.2.2.2.2.2.1,bA:=x.2.2.2.2.2.2.2.2.2.2.2.2.2.1,dy:=x.2.2.2.2.2.2.2.2.2.2.2.2.2.2.1,Start:=x.2.2.2.2.2.2.2.2.2.2.2.2.2.2.2.1,End:=x.2.2.2.2.2.2.2.2.2.2.2.2.2.2.2.2.1,Array:=x.2.2.2.2.2.2.2.2.2.2.2.2.2.2.2.2.2.1 }:aD)
  |6=>λx=>({ Node:=x.1,aZ:=x.2.1 }:jY)
  |7=>λx=>({ bz:=x.1,aJ:=({ cj:=x.2.1,Mem:=x.2.2.1,cA:=x.2.2.2.1,cC:=x.2.2.2.2.1 }:aN),aq:=x.2.2.2.2.2.1 }:cn)
  |8=>λx=>({ Id:=x.1,Node:=x.2.1,dR:=x.2.2.1,To:=x.2.2.2.1 }:lz)
  |9=>λx=>({ S:=({ aw:=x.1,aL:=x.2.1,ah:=x.2.2.1,aT:=x.2.2.2.1,ae:=({ oJ:=x.2.2.2.2.1,cQ:=x.2.2.2.2.2.1,iy:=x.2.2.2.2.2.2.1,bJ:=x.2.2.2.2.2.2.2.1 }:Ma),cF:=x.2.2.2.2.2.2.2.2.1,Mode:=x.2.2.2.2.2.2.2.2.2.1,an:=x.2.2.2.2.2.2.2.2.2.2.1,tc:=x.2.2.2.2.2.2.2.2.2.2.2.1,aK:=x.2.2.2.2.2.2.2.2.2.2.2.2.1,bL:=x.2.2.2.2.2.2.2.2.2.2.2.2.2.1,ia:=x.2.2.2.2.2.2.2.2.2.2.2.2.2.2.1,In:=x.2.2.2.2.2.2.2.2.2.2.2.2.2.2.2.1,Out:=x.2.2.2.2.2.2.2.2.2.2.2.2.2.2.2.2.1,cD:=x.2.2.2.2.2.2.2.2.2.2.2.2.2.2.2.2.2.1 }:aX),St:=({ fL:=x.2.2.2.2.2.2.2.2.2.2.2.2.2.2.2.2.2.2.1,Next:=x.2.2.2.2.2.2.2.2.2.2.2.2.2.2.2.2.2.2.2.1,ib:=x.2.2.2.2.2.2.2.2.2.2.2.2.2.2.2.2.2.2.2.2.1,an:=x.2.2.2.2.2.2.2.2.2.2.2.2.2.2.2.2.2.2.2.2.2.1,aj:=x.2.2.2.2.2.2.2.2.2.2.2.2.2.2.2.2.2.2.2.2.2.2.1,bI:=x.2.2.2.2.2.2.2.2.2.2.2.2.2.2.2.2.2.2.2.2.2.2.2.1,iW:=x.2.2.2.2.2.2.2.2.2.2.2.2.2.2.2.2.2.2.2.2.2.2.2.2.1,aG:=({ ah:=x.2.2.2.2.2.2.2.2.2.2.2.2.2.2.2.2.2.2.2.2.2.2.2.2.2.1,aw:=x.2.2.2.2.2.2.2.2.2.2.2.2.2.2.2.2.2.2.2.2.2.2.2.2.2.2.1 }:my) }:cg) }:zcE)
  |10=>λx=>({ aw:=x.1,aL:=x.2.1,ah:=x.2.2.1,aT:=x.2.2.2.1,ae:=({ oJ:=x.2.2.2.2.1,cQ:=x.2.2.2.2.2.1,iy:=x.2.2.2.2.2.2.1,bJ:=x.2.2.2.2.2.2.2.1 }:Ma),cF:=x.2.2.2.2.2.2.2.2.1,Mode:=x.2.2.2.2.2.2.2.2.2.1,an:=x.2.2.2.2.2.2.2.2.2.2.1,tc:=x.2.2.2.2.2.2.2.2.2.2.2.1,aK:=x.2.2.2.2.2.2.2.2.2.2.2.2.1,bL:=x.2.2.2.2.2.2.2.2.2.2.2.2.2.1,ia:=x.2.2.2.2.2.2.2.2.2.2.2.2.2.2.1,In:=x.2.2.2.2.2.2.2.2.2.2.2.2.2.2.2.1,Out:=x.2.2.2.2.2.2.2.2.2.2.2.2.2.2.2.2.1,cD:=x.2.2.2.2.2.2.2.2.2.2.2.2.2.2.2.2.2.1 }:aX)
  |11=>λx=>(x.1,x.2.1,x.2.2.1,x.2.2.2.1)
  |12=>λx=>({ oJ:=x.1,cQ:=x.2.1,iy:=x.2.2.1,bJ:=x.2.2.2.1 }:Ma)
  |13=>λx=>({ FM:=x.1,Po:=x.2.1 }:vM)
  |14=>λx=>({ fL:=x.1,Next:=x.2.1,ib:=x.2.2.1,an:=x.2.2.2.1,aj:=x.2.2.2.2.1,bI:=x.2.2.2.2.2.1,iW:=x.2.2.2.2.2.2.1,aG:=({ ah:=x.2.2.2.2.2.2.2.1,aw:=x.2.2.2.2.2.2.2.2.1 }:my) }:cg)
  |15=>λx=>({ fL:=x.1,iW:=x.2.1 }:pO)
  |16=>λx=>(x.1,x.2.1,x.2.2.1)
  |17=>λx=>x.1
  |18=>λx=>x.1
  |19=>λx=>({ fL:=x.1,iW:=x.2.1 }:Yf)
  |20=>λx=>(x.1,x.2.1)
  |_+21=>λx=>x.1
 mp:=λi=>match i with
  |0=>λ_=>rfl
  |1=>λ_=>rfl
  |2=>λ_=>rfl
  |3=>λ_=>rfl
  |4=>λ_=>rfl
  |5=>λ_=>rfl
  |6=>λ_=>rfl
  |7=>λ_=>rfl
  |8=>λ_=>rfl
  |9=>λ_=>rfl
  |10=>λ_=>rfl
  |11=>λ_=>rfl
  |12=>λ_=>rfl
  |13=>λ_=>rfl
  |14=>λ_=>rfl
  |15=>λ_=>rfl
  |16=>λ_=>rfl
  |17=>λ_=>rfl
  |18=>λ_=>rfl
  |19=>λ_=>rfl
  |20=>λ_=>rfl
  |_+21=>λ_=>rfl
 pm:=λi=>match i with
  |0=>λ_=>rfl
  |1=>λ_=>rfl
  |2=>λ_=>rfl
  |3=>λ_=>rfl
  |4=>λ_=>rfl
  |5=>λ_=>rfl
  |6=>λ_=>rfl
  |7=>λ_=>rfl
  |8=>λ_=>rfl
  |9=>λ_=>rfl
  |10=>λ_=>rfl
  |11=>λ_=>rfl
  |12=>λ_=>rfl
  |13=>λ_=>rfl
  |14=>λ_=>rfl
  |15=>λ_=>rfl
  |16=>λ_=>rfl
  |17=>λ_=>rfl
  |18=>λ_=>rfl
  |19=>λ_=>rfl
  |20=>λ_=>rfl
  |_+21=>λ_=>rfl
 dn:=λi j h=>match i with
  |0=>zo rfl h
  |1=>zo rfl h
  |2=>zo rfl h
  |3=>zo rfl h
  |4=>zo rfl h
  |5=>zo rfl h
  |6=>zo rfl h
  |7=>zo rfl h
  |8=>zo rfl h
  |9=>zo rfl h
  |10=>zo rfl h
  |11=>zo rfl h
  |12=>zo rfl h
  |13=>zo rfl h
  |14=>zo rfl h
  |15=>zo rfl h
  |16=>zo rfl h
  |17=>zo rfl h
  |18=>zo rfl h
  |19=>zo rfl h
  |20=>zo rfl h
  |_+21=>zo rfl h
 ps:=λi=>match i with
  |0=>Nat.succ_pos _
  |1=>Nat.succ_pos _
  |2=>Nat.succ_pos _
  |3=>Nat.succ_pos _
  |4=>Nat.succ_pos _
  |5=>Nat.succ_pos _
  |6=>Nat.succ_pos _
  |7=>Nat.succ_pos _
  |8=>Nat.succ_pos _
  |9=>Nat.succ_pos _
  |10=>Nat.succ_pos _
  |11=>Nat.succ_pos _
  |12=>Nat.succ_pos _
  |13=>Nat.succ_pos _
  |14=>Nat.succ_pos _
  |15=>Nat.succ_pos _
  |16=>Nat.succ_pos _
  |17=>Nat.succ_pos _
  |18=>Nat.succ_pos _
  |19=>Nat.succ_pos _
  |20=>Nat.succ_pos _
  |_+21=>Nat.succ_pos _
end Go.Abs
