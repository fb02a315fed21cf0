/- Lemmas. -/
import Derived.Test.YtpojbebipfffbaaGreatWkA
set_option linter.all false
section
set_option maxRecDepth 100000
noncomputable section
namespace Go.Abs
open Go.Proofs
variable[Gl](N:Nat)
def zbY:bK:=⟨[.c (.sl 5),ci,.k 203],[ci,cb],λa=>zaF N a.1 a.2.1⟩
def zbW:eJ 202 (zbY N):=tg [] [(60,⟨[.r 9 ci,.r 10 ci],[],[],[]⟩)] [] N (.c (EA N)<|.nil) (.nil)
def IB:bK:=⟨[.c (.sl 5),ci],[ci,cb],λa=>nG N a.1 a.2.1⟩
def zi:eJ 141 (IB N):=tg [] [] [] N (.c (zbW N)<|.nil) (.nil)
def Cr:bK:=⟨[.st 10,.st 14],[cb],λa=>ko N a.1 a.2.1⟩
def CA:eJ 93 (Cr N):=tg [] [(26,⟨[.r 14 ci],[],[],[]⟩),(211,⟨[],[],[],[]⟩),(27038,⟨[.r 33 ci],[],[],[]⟩)] [] N (.c (zdf N)<|.c (LM N)<|.c (zi N)<|.nil) (.nil)
def vD:bK:=⟨[.st 10,.st 14],[cb],λa=>zeE N a.1 a.2.1⟩
def uR:eJ 94 (vD N):=tg [] [(250,⟨[.r 7 (.c (.sl 7)),.r 23 ci,.h 2 0 (hl 0),.m 3 7 true],[],[],[]⟩),(2003,⟨[.r 7 (.c (.sl 7)),.h 2 0 (hl 0),.m 3 7 true],[],[],[]⟩),(256415,⟨[.r 74 cb,.h 2 0 (hl 0),.m 3 7 true],[],[],[]⟩)] [(393229,[.mk o9 [] [] o6 [] [],t7]),(33608826952,[.mk p7 [.h 2 0 (xl 0),.m 3 7 true] [] o7 [] []])] N (.c (zez N)<|.c (wT N)<|.nil) (.c (zfq N)<|.c (zcS N)<|.nil)
def AU:bK:=⟨[.st 10,.st 14],[cb],λa=>iN N a.1 a.2.1⟩
def AM:eJ 95 (AU N):=tg [] [(58,⟨[.r 23 ci],[],[],[]⟩),(122,⟨[.r 43 ci],[],[],[]⟩),(125342,⟨[.r 60 ci],[],[],[]⟩)] [] N (.c (yQ N)<|.c (zi N)<|.c (yR N)<|.nil) (.nil)
def FE:bK:=⟨[.st 10,.st 14],[cb],λa=>pG N a.1 a.2.1⟩
def Hj:eJ 96 (FE N):=tg [] [(6,⟨[.r 18 cb],[],[],[]⟩),(14,⟨[.r 33 cb],[],[],[]⟩),(122,⟨[.r 38 ci],[],[],[]⟩)] [] N (.c (tw N)<|.c (wE N)<|.nil) (.nil)
def FA:bK:=⟨[.st 10,.st 14],[cb],λa=>po N a.1 a.2.1⟩
def Ga:eJ 50 (FA N):=tg [] [] [] N (.c (zcd N)<|.c (CD N)<|.c (Ip N)<|.c (CA N)<|.c (uR N)<|.c (AM N)<|.c (Hj N)<|.nil) (.nil)
def Ao:dq:=⟨.mk [.v (.st 10)] [] [] [] [] [],[.mk o9 [] [] [(37,1)] [] [(917517,[.mk o9 [] [] o6 [] [],.mk [.p (.pt 1 0 2),.p (.k (.c (.lit (.int .i64 0))))] [] [.cells [xi,xn]] [] [] []]),(4063253,[.mk o9 [] [] o7 [] [],t7])],.mk zA1 [] [.cells [.pt 1 0 2,.pt 2 0 2,xl 0,xl 2,xl 3,xi,xi,xi,xi,xi,xi,xi,xi,xi,xi,xi,xi,xi,xi,xi,xi,xi,xi,xn,xl 1,.hd 3,xi],.cells [xi,xn],.cells [xl 0,.mr 4],.row 1,.mp 7 true] [] [] []],λa=>gp N a⟩
def zM:eP 15 (Ao N):=og (g:=15) N (.c (zcd N)<|.c (jc N)<|.c (BQ N)<|.nil) (.c (nz N)<|.c (zfq N)<|.nil)
def Bw:dq:=⟨zA3,[.mk zA5 [] [] [] [(250,⟨[.r 29 ci,.w 7 5],[],[(1051649,5)],[(3,1,7)]⟩),(506,⟨[.r 46 ci,.h 4 0 (hl 0),.m 6 7 true],[],[],[]⟩)] [(917524,[.mk o9 [] [] o6 [] [],.mk zA2 [] [.cells [.pt 3 0 2,.pt 4 0 2,xl 0,xl 2,xl 3,xi,xi,xi,xi,xi,xi,xi,xi,xi,xi,xi,xi,xi,xi,xi,xi,xi,xi,xn,xl 1,.hd 5,xi],.cells [xi,xn],.cells [xl 0,.mr 6],.row 1,.mp 7 true] [] [] []]),(33423438,[.mk [.p (.hd 8)] [] [.row 8] [(1000000,3)] [] []]),(66977876,[.mk [.p (.hd 9)] [] [.row 1] [(1000000,4)] [] []]),(134086747,[.mk [.p (.hd 10)] [] [.row 1] [(1000000,4)] [] []]),(2100428838,[.mk p7 [.h 3 1 (.hd 7),.w 7 5] [] o7 [] []]),(4247912503,[.mk p7 [.h 4 0 (xl 0),.m 6 7 true] [] [(1000000,2)] [] []])],.mk zA1 [] s6 [] [] []],λ(a,b)=>dW N a b⟩
def BW:eP 20 (Bw N):=og (g:=20) N (.c (Ga N)<|.nil) (.c (zM N)<|.c (zfE N)<|.c (zcS N)<|.c (zbF N)<|.c (zd2 N)<|.nil)
def zk:bK:=⟨[ci,ci,ci],[cb],λa=>Cb N a.1 a.2.1 a.2.2.1⟩
def zd5:eJ 149 (zk N):=tg [] [] [] N (.nil) (.nil)
def uk:bK:=⟨[ci],[cb],λa=>zcp N a.1⟩
def uc:eJ 153 (uk N):=tg [] [] [] N (.nil) (.nil)
def tP:bK:=⟨[.st 0],[cb],λa=>za6 N a.1⟩
def zde:eJ 102 (tP N):=tg [] [] [] N (.c (uc N)<|.nil) (.nil)
def uA:bK:=⟨[.st 10],[cb],λa=>zdo N a.1⟩
def uC:eJ 150 (uA N):=tg [] [(26,⟨[.r 3 ci],[],[],[]⟩)] [] N (.c (zde N)<|.c (zd5 N)<|.nil) (.nil)
def tq:bK:=⟨[.c (.sl 1),ci],[cb],λa=>zcP N a.1 a.2.1⟩
def iA:eJ 208 (tq N):=tg [] [(26,⟨[.r 5 ci],[],[],[]⟩),(420,⟨[.r 40 cb],[],[],[]⟩)] [] N (.nil) (.nil)
def ub:bK:=⟨[.st 10],[cb],λa=>zdc N a.1⟩
def uB:eJ 151 (ub N):=tg [] [(26,⟨[.r 3 ci],[],[],[]⟩),(420,⟨[.r 29 cb],[],[],[]⟩)] [] N (.c (iA N)<|.c (zd5 N)<|.nil) (.nil)
def tc:bK:=⟨[.st 10],[cb],λa=>zcQ N a.1⟩
def sR:eJ 152 (tc N):=tg [] [(26,⟨[.r 3 ci],[],[],[]⟩),(841,⟨[.r 59 cb],[],[],[]⟩)] [] N (.c (iA N)<|.c (zd5 N)<|.nil) (.nil)
def wF:bK:=⟨[.st 10],[.c .str],λa=>jg N a.1⟩
def wj:eJ 100 (wF N):=tg [(28,24),(69,25)] [(7,⟨[.r 4 cb],[],[],[]⟩),(506,⟨[.r 7 ci],[],[],[]⟩)] [] N (.c (uC N)<|.c (uB N)<|.c (zd5 N)<|.c (sR N)<|.nil) (.nil)
def um:bK:=⟨[.st 10],[cb],λa=>zdg N a.1⟩
def tZ:eJ 52 (um N):=tg [] [] [] N (.c (wj N)<|.nil) (.nil)
def ue:bK:=⟨[ci],[cb],λa=>zbu N a.1⟩
def jx:eJ 53 (ue N):=tg [] [] [] N (.nil) (.nil)
def wy:bK:=⟨[.c (.sl 5),ci],[ci],λa=>zbz N a.1 a.2.1⟩
def zeY:eJ 37 (wy N):=tg [] [(26,⟨[.r 5 ci],[],[],[]⟩)] [] N (.nil) (.nil)
def tX:bK:=⟨[.c (.sl 6),ci],[cb],λa=>zbG N a.1 a.2.1⟩
def jC:eJ 101 (tX N):=tg [] [(26,⟨[.r 5 ci],[],[],[]⟩),(420,⟨[.r 60 cb],[],[],[]⟩)] [] N (.nil) (.nil)
def Ag:bK:=⟨[.c (.sl 6),ci],[ci],λa=>zdE N a.1 a.2.1⟩
def nf:eJ 156 (Ag N):=tg [] [(58,⟨[.r 5 ci,.r 6 ci],[],[],[]⟩),(233,⟨[.r 5 ci],[],[],[]⟩)] [] N (.nil) (.nil)
def x_:bK:=⟨[.st 0,.st 0],[.st 0],λa=>zbf N a.1 a.2.1⟩
def zfx:eJ 154 (x_ N):=tg [] [] [] N (.nil) (.nil)
def uv:bK:=⟨[.st 0,ci],[.st 0],λa=>zdj N a.1 a.2.1⟩
def tY:eJ 155 (uv N):=tg [] [(58,⟨[.r 6 ci,.h 2 0 hi,.h 2 1 hi,.h 2 2 hi,.h 2 3 hi],[],[],[]⟩)] [] N (.c (zfx N)<|.nil) (.nil)
def wB:bK:=⟨[.st 0,.st 0],[cb],λa=>Sl N a.1 a.2.1⟩
def zeX:eJ 157 (wB N):=tg [] [] [] N (.nil) (.nil)
def yc:bK:=⟨[.st 0,.st 0],[.st 0],λa=>zc9 N a.1 a.2.1⟩
def yL:eJ 158 (yc N):=tg [] [] [] N (.nil) (.nil)
def vT:bK:=⟨[.c (.sl 0),.c (.sl 7)],[.c (.sl 0),cb],λa=>zeF N a.1 a.2.1⟩
def uQ:eJ 103 (vT N):=tg [(55,0)] [(122,⟨[.r 7 cb,.r 8 ci,.w 0 0],[(6,0)],[(6,0)],[]⟩),(7827,⟨[.r 7 cb],[],[],[]⟩),(31306,⟨[.r 10 ci,.h 1 0 hi,.h 1 1 hi,.h 1 2 hi,.h 1 3 hi],[],[],[]⟩)] [] N (.c (nf N)<|.c (tY N)<|.c (zfx N)<|.c (yL N)<|.c (zeX N)<|.nil) (.nil)
def sF:bK:=⟨[.st 10,.st 14],[cb],λa=>zdL N a.1 a.2.1⟩
def sQ:eJ 54 (sF N):=tg [] [(26,⟨[.r 5 ci],[],[],[]⟩),(841,⟨[.r 57 cb],[],[],[]⟩)] [] N (.c (zeY N)<|.c (jC N)<|.c (zde N)<|.c (uQ N)<|.nil) (.nil)
def uF:bK:=⟨[.st 14,ci,ci],[cb],λa=>zd3 N a.1 a.2.1 a.2.2.1⟩
def uh:eJ 104 (uF N):=tg [] [(26,⟨[.r 7 ci],[],[],[]⟩),(841,⟨[.r 54 cb],[],[],[]⟩)] [] N (.c (zeY N)<|.c (nf N)<|.nil) (.nil)
def xW:bK:=⟨[.st 8,ci],[cb],λa=>zfd N a.1 a.2.1⟩
def yj:eJ 159 (xW N):=tg [] [] [] N (.c (jx N)<|.nil) (.nil)
def tL:bK:=⟨[.c (.sl 8),ci,ci,ci],[cb],λa=>zcq N a.1 a.2.1 a.2.2.1 a.2.2.2.1⟩
def tO:eJ 160 (tL N):=tg [] [(26,⟨[.r 9 ci],[],[],[]⟩)] [] N (.nil) (.nil)
def ua:bK:=⟨[.c (.sl 8),ci],[cb],λa=>zea N a.1 a.2.1⟩
def uz:eJ 105 (ua N):=tg [] [(26,⟨[.r 5 ci],[],[],[]⟩),(3366,⟨[.r 6 ci],[],[],[]⟩),(53860,⟨[.r 58 cb],[],[],[]⟩)] [] N (.c (yj N)<|.c (tO N)<|.nil) (.nil)
def ui:bK:=⟨[.st 10,.st 14],[cb],λa=>zd4 N a.1 a.2.1⟩
def ug:eJ 55 (ui N):=tg [] [(26,⟨[.r 5 ci],[],[],[]⟩),(841,⟨[.r 38 cb],[],[],[]⟩)] [] N (.c (uh N)<|.c (uz N)<|.nil) (.nil)
def yN:bK:=⟨[.c (.sl 1),ci],[cb],λa=>zfh N a.1 a.2.1⟩
def xX:eJ 56 (yN N):=tg [] [(26,⟨[.r 5 ci],[],[],[]⟩),(420,⟨[.r 23 cb],[],[],[]⟩)] [] N (.nil) (.nil)
def z_:bK:=⟨[ci,ci,ci],[cb],λa=>Ws N a.1 a.2.1 a.2.2.1⟩
def zy:eJ 161 (z_ N):=tg [] [] [] N (.nil) (.nil)
def uI:bK:=⟨[.st 5],[cb],λa=>zd7 N a.1⟩
def ut:eJ 106 (uI N):=tg [] [(14,⟨[.r 61 cb],[],[],[]⟩),(26,⟨[.r 3 ci],[],[],[]⟩),(30,⟨[.r 85 cb],[],[],[]⟩),(62,⟨[.r 101 cb],[],[],[]⟩),(126,⟨[.r 119 cb],[],[],[]⟩)] [] N (.c (zy N)<|.c (zde N)<|.c (zeX N)<|.nil) (.nil)
def xg:bK:=⟨[.c (.sl 7),ci],[ci],λa=>zeO N a.1 a.2.1⟩
def vz:eJ 107 (xg N):=tg [] [(26,⟨[.r 5 ci],[],[],[]⟩)] [] N (.nil) (.nil)
def yg:bK:=⟨[.st 5],[cb],λa=>zfe N a.1⟩
def ym:eJ 108 (yg N):=tg [] [] [] N (.nil) (.nil)
def tR:bK:=⟨[.st 0,.st 0],[ci],λa=>zbM N a.1 a.2.1⟩
def uf:eJ 209 (tR N):=tg [] [(6,⟨[.r 19 cb],[],[],[]⟩),(124,⟨[.r 5 ci,.h 2 0 hi,.h 2 1 hi,.h 2 2 hi,.h 2 3 hi],[],[],[]⟩),(496,⟨[.r 27 cb],[],[],[]⟩)] [] N (.c (zfx N)<|.c (zeX N)<|.c (zde N)<|.nil) (.nil)
def vJ:bK:=⟨[.st 10,ci,.st 0],[ci],λa=>iL N a.1 a.2.1 a.2.2.1⟩
def vf:eJ 162 (vJ N):=tg [] [(122,⟨[.r 7 ci,.r 8 ci],[],[],[]⟩)] [] N (.c (uf N)<|.nil) (.nil)
def vj:bK:=⟨[.st 10,ci,ci,.st 0],[cb],λa=>zdF N a.1 a.2.1 a.2.2.1 a.2.2.2.1⟩
def wL:eJ 109 (vj N):=tg [] [] [] N (.c (vf N)<|.nil) (.nil)
def uy:bK:=⟨[.c (.sl 6)],[ci],λa=>zd1 N a.1⟩
def tS:eJ 163 (uy N):=tg [] [(58,⟨[.r 3 ci,.r 4 ci],[],[],[]⟩),(233,⟨[.r 3 ci],[],[],[]⟩)] [] N (.nil) (.nil)
def yk:bK:=⟨[.c (.sl 1),ci],[cb],λa=>zfn N a.1 a.2.1⟩
def yy:eJ 164 (yk N):=tg [] [(26,⟨[.r 5 ci],[],[],[]⟩)] [] N (.nil) (.nil)
def vX:bK:=⟨[.st 10,.st 5,.c (.sl 6)],[cb],λa=>zeL N a.1 a.2.1 a.2.2.1⟩
def wM:eJ 110 (vX N):=tg [] [(6,⟨[.r 34 cb],[],[],[]⟩),(122,⟨[.r 8 ci],[],[],[]⟩)] [] N (.c (yy N)<|.c (jC N)<|.c (tS N)<|.nil) (.nil)
def yI:bK:=⟨[.st 10,.st 14,.st 5],[cb],λa=>zfm N a.1 a.2.1 a.2.2.1⟩
def yH:eJ 57 (yI N):=tg [] [(15,⟨[.r 7 ci],[],[],[]⟩),(31,⟨[.r 7 ci],[],[],[]⟩),(63,⟨[.r 7 ci],[],[],[]⟩),(510,⟨[.r 83 cb],[],[],[]⟩),(8186,⟨[.r 9 ci],[],[],[]⟩)] [] N (.c (ut N)<|.c (vz N)<|.c (zeY N)<|.c (wL N)<|.c (ym N)<|.c (wM N)<|.nil) (.nil)
def tM:bK:=⟨[.st 10,.st 14],[cb],λa=>zdl N a.1 a.2.1⟩
def uH:eJ 21 (tM N):=tg [] [(6,⟨[.r 43 cb],[],[],[]⟩),(14,⟨[.r 86 cb],[],[],[]⟩),(122,⟨[.r 5 ci],[],[],[]⟩),(250,⟨[.r 6 ci],[],[],[]⟩),(4004,⟨[.r 138 cb],[],[],[]⟩)] [] N (.c (jx N)<|.c (yH N)<|.c (sQ N)<|.c (ug N)<|.c (xX N)<|.c (tZ N)<|.nil) (.nil)
def u_:bK:=⟨[.st 5,.st 5],[cb],λa=>zeN N a.1 a.2.1⟩
def wC:eJ 111 (u_ N):=tg [] [(58,⟨[.r 5 ci],[],[],[]⟩)] [] N (.nil) (.nil)
def vx:bK:=⟨[.c (.sl 5),.c (.sl 5)],[cb],λa=>zeP N a.1 a.2.1⟩
def vA:eJ 58 (vx N):=tg [] [(58,⟨[.r 5 ci],[],[],[]⟩)] [] N (.c (wC N)<|.nil) (.nil)
def vp:bK:=⟨[.c (.sl 6),.c (.sl 6)],[cb],λa=>zeR N a.1 a.2.1⟩
def uW:eJ 112 (vp N):=tg [] [(58,⟨[.r 5 ci],[],[],[]⟩)] [] N (.nil) (.nil)
def wi:bK:=⟨[.c (.sl 7),.c (.sl 7)],[cb],λa=>zeH N a.1 a.2.1⟩
def vM:eJ 59 (wi N):=tg [] [(58,⟨[.r 5 ci],[],[],[]⟩),(932,⟨[.r 54 cb],[],[],[]⟩)] [] N (.c (uW N)<|.nil) (.nil)
def wD:bK:=⟨[.c (.sl 8),.c (.sl 8)],[cb],λa=>zeI N a.1 a.2.1⟩
def uY:eJ 60 (wD N):=tg [] [(58,⟨[.r 5 ci],[],[],[]⟩)] [] N (.nil) (.nil)
def wN:bK:=⟨[.c (.sl 1),.c (.sl 1)],[cb],λa=>zdz N a.1 a.2.1⟩
def vS:eJ 61 (wN N):=tg [] [(58,⟨[.r 5 ci],[],[],[]⟩)] [] N (.nil) (.nil)
def vB:bK:=⟨[.st 14,.st 14],[cb],λa=>zeK N a.1 a.2.1⟩
def wX:eJ 22 (vB N):=tg [] [] [] N (.c (vA N)<|.c (vM N)<|.c (uY N)<|.c (vS N)<|.nil) (.nil)
def pT:dq:=⟨zA3,[.mk zA6 [] [] [] [] [(393227,[.mk zA5 [] [] o6 [] [],.mk zA2 [] [.cells [.pt 3 0 2,.pt 4 0 2,xl 0,xl 2,xl 3,xi,xi,xi,xi,xi,xi,xi,xi,xi,xi,xi,xi,xi,xi,xi,xi,xi,xi,xl 8,xl 1,.hd 5,xi],.cells [xi,.hd 6],.cells [xl 0,.mr 7],.row 1,.row 5,.mp 7 true] [] [] []]),(1966113,[.mk [.v (.st 14)] [] [] o7 [] []])],.mk [.p (.pt 0 0 27),.v cb] [] s6 [] [] []],λ(a,b)=>cw N a b⟩
def p_:eP 7 (pT N):=og (g:=7) N (.c (uH N)<|.c (wX N)<|.nil) (.c (BW N)<|.c (zaw N)<|.nil)
def nY:bK:=⟨[.st 9,.c (.int .u8)],[cb],λa=>zdK N a.1 a.2.1⟩
def od:eJ 4 (nY N):=tg [] [(1018,⟨[.r 7 ci,.r 8 ci,.h 1 20 hi,.h 1 23 (hl 8),.h 1 24 (hl 1),.h 1 26 hi,.h 3 0 (hl 0),.w 4 1,.m 6 7 true,.w 7 5],[],[],[(1,25,4),(2,1,7)]⟩)] [(1966105,[.mk zA6 [] [] o6 [] [],.mk [.p (.pt 1 0 27),.v cb] [] [.cells [.pt 2 0 2,.pt 3 0 2,xl 0,xl 2,xl 3,xi,xi,xi,xi,xi,xi,xi,xi,xi,xi,xi,xi,xi,xi,xi,xi,xi,xi,xl 8,xl 1,.hd 4,xi],.cells [xi,.hd 5],.cells [xl 0,.mr 6],.row 1,.row 5,.mp 7 true] [] [] []]),(4270850095,[.mk [.v ci,.v ci] [.h 1 20 (xi),.h 1 23 (xl 8),.h 1 24 (xl 1),.h 1 25 (.hd 4),.h 1 26 (xi),.h 2 1 (.hd 8),.h 3 0 (xl 0),.w 4 1,.w 7 5,.m 6 7 true] w8 o7 [] []]),(4270981177,[.mk [.v (.st 14)] [] [] [(1000000,2)] [] []])] N (.c (t_ N)<|.c (yD N)<|.c (vk N)<|.nil) (.c (p_ N)<|.c (jv N)<|.c (zaw N)<|.nil)
end Go.Abs
end
end
section
end
