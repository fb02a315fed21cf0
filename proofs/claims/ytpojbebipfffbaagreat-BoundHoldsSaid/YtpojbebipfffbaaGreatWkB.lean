/- Lemmas. -/
import Derived.Test.YtpojbebipfffbaaGreatWkA
set_option linter.all false
section
set_option maxRecDepth 100000
noncomputable section
namespace Go.Abs
open Go.Proofs
variable[Gl](N:Nat)
def zb0:bH:=⟨[.c (.sl 5),ci,.k 203],[ci,cb],λa=>zaK N a.1 a.2.1⟩
def zb1:eE 202 (zb0 N):=tg [] [(60,⟨[.r 9 ci,.r 10 ci],[],[],[]⟩)] [] N (.c (Fx N)<|.nil) (.nil)
def Ji:bH:=⟨[.c (.sl 5),ci],[ci,cb],λa=>nR N a.1 a.2.1⟩
def zY:eE 141 (Ji N):=tg [] [] [] N (.c (zb1 N)<|.nil) (.nil)
def DW:bH:=⟨[.st 10,.st 14],[cb],λa=>kD N a.1 a.2.1⟩
def DH:eE 93 (DW N):=tg [] [(26,⟨[.r 14 ci],[],[],[]⟩),(211,⟨[],[],[],[]⟩),(27038,⟨[.r 33 ci],[],[],[]⟩)] [] N (.c (zdq N)<|.c (Ox N)<|.c (zY N)<|.nil) (.nil)
def xE:bH:=⟨[.st 10,.st 14],[cb],λa=>ze8 N a.1 a.2.1⟩
def vU:eE 94 (xE N):=tg [] [(250,⟨[.r 7 (.c (.sl 7)),.r 23 ci,.h 2 0 (nY 0),.m 3 7 true],[],[],[]⟩),(2003,⟨[.r 7 (.c (.sl 7)),.h 2 0 (nY 0),.m 3 7 true],[],[],[]⟩),(256415,⟨[.r 74 cb,.h 2 0 (nY 0),.m 3 7 true],[],[],[]⟩)] [(393229,[.mk o9 [] [] n9 [] [],t7]),(33608826952,[.mk p7 [.h 2 0 (xl 0),.m 3 7 true] [] o7 [] []])] N (.c (zeN N)<|.c (vN N)<|.nil) (.c (zfU N)<|.c (zc0 N)<|.nil)
def Ct:bH:=⟨[.st 10,.st 14],[cb],λa=>jv N a.1 a.2.1⟩
def Cj:eE 95 (Ct N):=tg [] [(58,⟨[.r 23 ci],[],[],[]⟩),(122,⟨[.r 43 ci],[],[],[]⟩),(125342,⟨[.r 60 ci],[],[],[]⟩)] [] N (.c (Aa N)<|.c (zY N)<|.c (zS N)<|.nil) (.nil)
def H_:bH:=⟨[.st 10,.st 14],[cb],λa=>p_ N a.1 a.2.1⟩
def HE:eE 96 (H_ N):=tg [] [(6,⟨[.r 18 cb],[],[],[]⟩),(14,⟨[.r 33 cb],[],[],[]⟩),(122,⟨[.r 38 ci],[],[],[]⟩)] [] N (.c (uj N)<|.c (xc N)<|.nil) (.nil)
def GO:bH:=⟨[.st 10,.st 14],[cb],λa=>pE N a.1 a.2.1⟩
def Hu:eE 50 (GO N):=tg [] [] [] N (.c (zcl N)<|.c (DZ N)<|.c (JC N)<|.c (DH N)<|.c (vU N)<|.c (Cj N)<|.c (HE N)<|.nil) (.nil)
def AY:dv:=⟨.mk [.v (.st 10)] [] [] [] [] [],[.mk o9 [] [] [(37,1)] [] [(917517,[.mk o9 [] [] n9 [] [],.mk [.p (.pt 1 0 2),.p (.k (.c (.lit (.int .i64 0))))] [] [.cells [xi,xn]] [] [] []]),(4063253,[.mk o9 [] [] o7 [] [],t7])],.mk zA2 [] [.cells [.pt 1 0 2,.pt 2 0 2,xl 0,xl 2,xl 3,xi,xi,xi,xi,xi,xi,xi,xi,xi,xi,xi,xi,xi,xi,xi,xi,xi,xi,xn,xl 1,.hd 3,xi],.cells [xi,xn],.cells [xl 0,.mr 4],.row 1,.mp 7 true] [] [] []],λa=>gN N a⟩
def Bn:eJ 15 (AY N):=og (g:=15) N (.c (zcl N)<|.c (iP N)<|.c (BM N)<|.nil) (.c (oN N)<|.c (zfU N)<|.nil)
def CK:dv:=⟨zA4,[.mk zA6 [] [] [] [(250,⟨[.r 29 ci,.w 7 5],[],[(1051649,5)],[(3,1,7)]⟩),(506,⟨[.r 46 ci,.h 4 0 (nY 0),.m 6 7 true],[],[],[]⟩)] [(917524,[.mk o9 [] [] n9 [] [],.mk zA3 [] [.cells [.pt 3 0 2,.pt 4 0 2,xl 0,xl 2,xl 3,xi,xi,xi,xi,xi,xi,xi,xi,xi,xi,xi,xi,xi,xi,xi,xi,xi,xi,xn,xl 1,.hd 5,xi],.cells [xi,xn],.cells [xl 0,.mr 6],.row 1,.mp 7 true] [] [] []]),(33423438,[.mk [.p (.hd 8)] [] [.row 8] [(1000000,3)] [] []]),(66977876,[.mk [.p (.hd 9)] [] [.row 1] [(1000000,4)] [] []]),(134086747,[.mk [.p (.hd 10)] [] [.row 1] [(1000000,4)] [] []]),(2100428838,[.mk p7 [.h 3 1 (.hd 7),.w 7 5] [] o7 [] []]),(4247912503,[.mk p7 [.h 4 0 (xl 0),.m 6 7 true] [] [(1000000,2)] [] []])],.mk zA2 [] s6 [] [] []],λ(a,b)=>ed N a b⟩
def BB:eJ 20 (CK N):=og (g:=20) N (.c (Hu N)<|.nil) (.c (Bn N)<|.c (zfX N)<|.c (zc0 N)<|.c (zbI N)<|.c (zev N)<|.nil)
def Aq:bH:=⟨[ci,ci,ci],[cb],λa=>Dk N a.1 a.2.1 a.2.2.1⟩
def zeu:eE 149 (Aq N):=tg [] [] [] N (.nil) (.nil)
def vl:bH:=⟨[ci],[cb],λa=>zcw N a.1⟩
def uT:eE 153 (vl N):=tg [] [] [] N (.nil) (.nil)
def vx:bH:=⟨[.st 0],[cb],λa=>zbd N a.1⟩
def zdu:eE 102 (vx N):=tg [] [] [] N (.c (uT N)<|.nil) (.nil)
def vk:bH:=⟨[.st 10],[cb],λa=>zdx N a.1⟩
def u_:eE 150 (vk N):=tg [] [(26,⟨[.r 3 ci],[],[],[]⟩)] [] N (.c (zdu N)<|.c (zeu N)<|.nil) (.nil)
def tX:bH:=⟨[.c (.sl 1),ci],[cb],λa=>zc4 N a.1 a.2.1⟩
def ja:eE 208 (tX N):=tg [] [(26,⟨[.r 5 ci],[],[],[]⟩),(420,⟨[.r 40 cb],[],[],[]⟩)] [] N (.nil) (.nil)
def uD:bH:=⟨[.st 10],[cb],λa=>zdm N a.1⟩
def uX:eE 151 (uD N):=tg [] [(26,⟨[.r 3 ci],[],[],[]⟩),(420,⟨[.r 29 cb],[],[],[]⟩)] [] N (.c (ja N)<|.c (zeu N)<|.nil) (.nil)
def tt:bH:=⟨[.st 10],[cb],λa=>zcZ N a.1⟩
def sP:eE 152 (tt N):=tg [] [(26,⟨[.r 3 ci],[],[],[]⟩),(841,⟨[.r 59 cb],[],[],[]⟩)] [] N (.c (ja N)<|.c (zeu N)<|.nil) (.nil)
def wz:bH:=⟨[.st 10],[.c .str],λa=>jA N a.1⟩
def xR:eE 100 (wz N):=tg [(28,24),(69,25)] [(7,⟨[.r 4 cb],[],[],[]⟩),(506,⟨[.r 7 ci],[],[],[]⟩)] [] N (.c (u_ N)<|.c (uX N)<|.c (zeu N)<|.c (sP N)<|.nil) (.nil)
def uH:bH:=⟨[.st 10],[cb],λa=>zdy N a.1⟩
def vm:eE 52 (uH N):=tg [] [] [] N (.c (xR N)<|.nil) (.nil)
def uC:bH:=⟨[ci],[cb],λa=>zbB N a.1⟩
def jM:eE 53 (uC N):=tg [] [] [] N (.nil) (.nil)
def wL:bH:=⟨[.c (.sl 5),ci],[ci],λa=>YO N a.1 a.2.1⟩
def zcD:eE 37 (wL N):=tg [] [(26,⟨[.r 5 ci],[],[],[]⟩)] [] N (.nil) (.nil)
def uv:bH:=⟨[.c (.sl 6),ci],[cb],λa=>zbT N a.1 a.2.1⟩
def jR:eE 101 (uv N):=tg [] [(26,⟨[.r 5 ci],[],[],[]⟩),(420,⟨[.r 60 cb],[],[],[]⟩)] [] N (.nil) (.nil)
def Aj:bH:=⟨[.c (.sl 6),ci],[ci],λa=>zdM N a.1 a.2.1⟩
def oU:eE 156 (Aj N):=tg [] [(58,⟨[.r 5 ci,.r 6 ci],[],[],[]⟩),(233,⟨[.r 5 ci],[],[],[]⟩)] [] N (.nil) (.nil)
def yY:bH:=⟨[.st 0,.st 0],[.st 0],λa=>zbk N a.1 a.2.1⟩
def zfN:eE 154 (yY N):=tg [] [] [] N (.nil) (.nil)
def uZ:bH:=⟨[.st 0,ci],[.st 0],λa=>zds N a.1 a.2.1⟩
def vg:eE 155 (uZ N):=tg [] [(58,⟨[.r 6 ci,.h 2 0 bZ,.h 2 1 bZ,.h 2 2 bZ,.h 2 3 bZ],[],[],[]⟩)] [] N (.c (zfN N)<|.nil) (.nil)
def wD:bH:=⟨[.st 0,.st 0],[cb],λa=>TK N a.1 a.2.1⟩
def zfi:eE 157 (wD N):=tg [] [] [] N (.nil) (.nil)
def zp:bH:=⟨[.st 0,.st 0],[.st 0],λa=>zdf N a.1 a.2.1⟩
def zu:eE 158 (zp N):=tg [] [] [] N (.nil) (.nil)
def wM:bH:=⟨[.c (.sl 0),.c (.sl 7)],[.c (.sl 0),cb],λa=>ze4 N a.1 a.2.1⟩
def vX:eE 103 (wM N):=tg [(55,0)] [(122,⟨[.r 7 cb,.r 8 ci,.w 0 0],[(6,0)],[(6,0)],[]⟩),(7827,⟨[.r 7 cb],[],[],[]⟩),(31306,⟨[.r 10 ci,.h 1 0 bZ,.h 1 1 bZ,.h 1 2 bZ,.h 1 3 bZ],[],[],[]⟩)] [] N (.c (oU N)<|.c (vg N)<|.c (zfN N)<|.c (zu N)<|.c (zfi N)<|.nil) (.nil)
def tL:bH:=⟨[.st 10,.st 14],[cb],λa=>zd3 N a.1 a.2.1⟩
def tZ:eE 54 (tL N):=tg [] [(26,⟨[.r 5 ci],[],[],[]⟩),(841,⟨[.r 57 cb],[],[],[]⟩)] [] N (.c (zcD N)<|.c (jR N)<|.c (zdu N)<|.c (vX N)<|.nil) (.nil)
def uN:bH:=⟨[.st 14,ci,ci],[cb],λa=>zen N a.1 a.2.1 a.2.2.1⟩
def vA:eE 104 (uN N):=tg [] [(26,⟨[.r 7 ci],[],[],[]⟩),(841,⟨[.r 54 cb],[],[],[]⟩)] [] N (.c (zcD N)<|.c (oU N)<|.nil) (.nil)
def zx:bH:=⟨[.st 8,ci],[cb],λa=>zfE N a.1 a.2.1⟩
def zo:eE 159 (zx N):=tg [] [] [] N (.c (jM N)<|.nil) (.nil)
def uI:bH:=⟨[.c (.sl 8),ci,ci,ci],[cb],λa=>zcy N a.1 a.2.1 a.2.2.1 a.2.2.2.1⟩
def uM:eE 160 (uI N):=tg [] [(26,⟨[.r 9 ci],[],[],[]⟩)] [] N (.nil) (.nil)
def uA:bH:=⟨[.c (.sl 8),ci],[cb],λa=>zem N a.1 a.2.1⟩
def vw:eE 105 (uA N):=tg [] [(26,⟨[.r 5 ci],[],[],[]⟩),(3366,⟨[.r 6 ci],[],[],[]⟩),(53860,⟨[.r 58 cb],[],[],[]⟩)] [] N (.c (zo N)<|.c (uM N)<|.nil) (.nil)
def uS:bH:=⟨[.st 10,.st 14],[cb],λa=>zex N a.1 a.2.1⟩
def uW:eE 55 (uS N):=tg [] [(26,⟨[.r 5 ci],[],[],[]⟩),(841,⟨[.r 38 cb],[],[],[]⟩)] [] N (.c (vA N)<|.c (vw N)<|.nil) (.nil)
def zH:bH:=⟨[.c (.sl 1),ci],[cb],λa=>zfG N a.1 a.2.1⟩
def zE:eE 56 (zH N):=tg [] [(26,⟨[.r 5 ci],[],[],[]⟩),(420,⟨[.r 23 cb],[],[],[]⟩)] [] N (.nil) (.nil)
def AI:bH:=⟨[ci,ci,ci],[cb],λa=>XG N a.1 a.2.1 a.2.2.1⟩
def AO:eE 161 (AI N):=tg [] [] [] N (.nil) (.nil)
def vz:bH:=⟨[.st 5],[cb],λa=>zep N a.1⟩
def uO:eE 106 (vz N):=tg [] [(14,⟨[.r 61 cb],[],[],[]⟩),(26,⟨[.r 3 ci],[],[],[]⟩),(30,⟨[.r 85 cb],[],[],[]⟩),(62,⟨[.r 101 cb],[],[],[]⟩),(126,⟨[.r 119 cb],[],[],[]⟩)] [] N (.c (AO N)<|.c (zdu N)<|.c (zfi N)<|.nil) (.nil)
def wW:bH:=⟨[.c (.sl 7),ci],[ci],λa=>zfc N a.1 a.2.1⟩
def vP:eE 107 (wW N):=tg [] [(26,⟨[.r 5 ci],[],[],[]⟩)] [] N (.nil) (.nil)
def zb:bH:=⟨[.st 5],[cb],λa=>zfI N a.1⟩
def y_:eE 108 (zb N):=tg [] [] [] N (.nil) (.nil)
def uE:bH:=⟨[.st 0,.st 0],[ci],λa=>zbP N a.1 a.2.1⟩
def uF:eE 209 (uE N):=tg [] [(6,⟨[.r 19 cb],[],[],[]⟩),(124,⟨[.r 5 ci,.h 2 0 bZ,.h 2 1 bZ,.h 2 2 bZ,.h 2 3 bZ],[],[],[]⟩),(496,⟨[.r 27 cb],[],[],[]⟩)] [] N (.c (zfN N)<|.c (zfi N)<|.c (zdu N)<|.nil) (.nil)
def xj:bH:=⟨[.st 10,ci,.st 0],[ci],λa=>iL N a.1 a.2.1 a.2.2.1⟩
def xM:eE 162 (xj N):=tg [] [(122,⟨[.r 7 ci,.r 8 ci],[],[],[]⟩)] [] N (.c (uF N)<|.nil) (.nil)
def xz:bH:=⟨[.st 10,ci,ci,.st 0],[cb],λa=>zdL N a.1 a.2.1 a.2.2.1 a.2.2.2.1⟩
def xL:eE 109 (xz N):=tg [] [] [] N (.c (xM N)<|.nil) (.nil)
def vD:bH:=⟨[.c (.sl 6)],[ci],λa=>zet N a.1⟩
def uY:eE 163 (vD N):=tg [] [(58,⟨[.r 3 ci,.r 4 ci],[],[],[]⟩),(233,⟨[.r 3 ci],[],[],[]⟩)] [] N (.nil) (.nil)
def zJ:bH:=⟨[.c (.sl 1),ci],[cb],λa=>zfA N a.1 a.2.1⟩
def zI:eE 164 (zJ N):=tg [] [(26,⟨[.r 5 ci],[],[],[]⟩)] [] N (.nil) (.nil)
def xr:bH:=⟨[.st 10,.st 5,.c (.sl 6)],[cb],λa=>ze5 N a.1 a.2.1 a.2.2.1⟩
def wF:eE 110 (xr N):=tg [] [(6,⟨[.r 34 cb],[],[],[]⟩),(122,⟨[.r 8 ci],[],[],[]⟩)] [] N (.c (zI N)<|.c (jR N)<|.c (uY N)<|.nil) (.nil)
def zh:bH:=⟨[.st 10,.st 14,.st 5],[cb],λa=>zfF N a.1 a.2.1 a.2.2.1⟩
def zy:eE 57 (zh N):=tg [] [(15,⟨[.r 7 ci],[],[],[]⟩),(31,⟨[.r 7 ci],[],[],[]⟩),(63,⟨[.r 7 ci],[],[],[]⟩),(510,⟨[.r 83 cb],[],[],[]⟩),(8186,⟨[.r 9 ci],[],[],[]⟩)] [] N (.c (uO N)<|.c (vP N)<|.c (zcD N)<|.c (xL N)<|.c (y_ N)<|.c (wF N)<|.nil) (.nil)
def vF:bH:=⟨[.st 10,.st 14],[cb],λa=>zdv N a.1 a.2.1⟩
def vh:eE 21 (vF N):=tg [] [(6,⟨[.r 43 cb],[],[],[]⟩),(14,⟨[.r 86 cb],[],[],[]⟩),(122,⟨[.r 5 ci],[],[],[]⟩),(250,⟨[.r 6 ci],[],[],[]⟩),(4004,⟨[.r 138 cb],[],[],[]⟩)] [] N (.c (jM N)<|.c (zy N)<|.c (tZ N)<|.c (uW N)<|.c (zE N)<|.c (vm N)<|.nil) (.nil)
def wu:bH:=⟨[.st 5,.st 5],[cb],λa=>ze6 N a.1 a.2.1⟩
def wg:eE 111 (wu N):=tg [] [(58,⟨[.r 5 ci],[],[],[]⟩)] [] N (.nil) (.nil)
def w_:bH:=⟨[.c (.sl 5),.c (.sl 5)],[cb],λa=>zfa N a.1 a.2.1⟩
def wk:eE 58 (w_ N):=tg [] [(58,⟨[.r 5 ci],[],[],[]⟩)] [] N (.c (wg N)<|.nil) (.nil)
def xN:bH:=⟨[.c (.sl 6),.c (.sl 6)],[cb],λa=>ze9 N a.1 a.2.1⟩
def xx:eE 112 (xN N):=tg [] [(58,⟨[.r 5 ci],[],[],[]⟩)] [] N (.nil) (.nil)
def xg:bH:=⟨[.c (.sl 7),.c (.sl 7)],[cb],λa=>ze0 N a.1 a.2.1⟩
def xV:eE 59 (xg N):=tg [] [(58,⟨[.r 5 ci],[],[],[]⟩),(932,⟨[.r 54 cb],[],[],[]⟩)] [] N (.c (xx N)<|.nil) (.nil)
def xH:bH:=⟨[.c (.sl 8),.c (.sl 8)],[cb],λa=>ze3 N a.1 a.2.1⟩
def xO:eE 60 (xH N):=tg [] [(58,⟨[.r 5 ci],[],[],[]⟩)] [] N (.nil) (.nil)
def xY:bH:=⟨[.c (.sl 1),.c (.sl 1)],[cb],λa=>zdT N a.1 a.2.1⟩
def wS:eE 61 (xY N):=tg [] [(58,⟨[.r 5 ci],[],[],[]⟩)] [] N (.nil) (.nil)
def wT:bH:=⟨[.st 14,.st 14],[cb],λa=>zfb N a.1 a.2.1⟩
def xG:eE 22 (wT N):=tg [] [] [] N (.c (wk N)<|.c (xV N)<|.c (xO N)<|.c (wS N)<|.nil) (.nil)
def qq:dv:=⟨zA4,[.mk zA7 [] [] [] [] [(393227,[.mk zA6 [] [] n9 [] [],.mk zA3 [] [.cells [.pt 3 0 2,.pt 4 0 2,xl 0,xl 2,xl 3,xi,xi,xi,xi,xi,xi,xi,xi,xi,xi,xi,xi,xi,xi,xi,xi,xi,xi,xl 8,xl 1,.hd 5,xi],.cells [xi,.hd 6],.cells [xl 0,.mr 7],.row 1,.row 5,.mp 7 true] [] [] []]),(1966113,[.mk [.v (.st 14)] [] [] o7 [] []])],.mk [.p (.pt 0 0 27),.v cb] [] s6 [] [] []],λ(a,b)=>cA N a b⟩
def qL:eJ 7 (qq N):=og (g:=7) N (.c (vh N)<|.c (xG N)<|.nil) (.c (BB N)<|.c (zax N)<|.nil)
def xu:bH:=⟨[ci,ci,ci],[ci],λa=>zbt N a.1 a.2.1 a.2.2.1⟩
def zfj:eE 62 (xu N):=tg [] [] [] N (.nil) (.nil)
def yc:bH:=⟨[ci],[ci],λa=>zbv N a.1⟩
def wX:eE 24 (yc N):=tg [] [] [] N (.c (zfj N)<|.nil) (.nil)
def wG:bH:=⟨[ci,ci],[ci],λa=>zdJ N a.1 a.2.1⟩
def wV:eE 23 (wG N):=tg [] [] [] N (.nil) (.nil)
def uy:bH:=⟨[.st 14],[ci],λa=>zes N a.1⟩
def uB:eE 8 (uy N):=tg [] [(122,⟨[.r 4 ci,.r 5 ci],[],[],[]⟩),(489,⟨[.r 4 ci],[],[],[]⟩),(506,⟨[.r 3 ci,.r 6 ci],[],[],[]⟩),(2025,⟨[.r 3 ci],[],[],[]⟩),(16201,⟨[.r 3 ci],[],[],[]⟩)] [] N (.c (wX N)<|.c (wV N)<|.nil) (.nil)
end Go.Abs
end
end
section
set_option maxRecDepth 100000
noncomputable section
namespace Go.Abs
open Go.Proofs
variable[Gl](N:Nat)
def zP:bH:=⟨[.st 4,.c (.sl 5)],[ci],λa=>zfB N a.1 a.2.1⟩
def zd:eE 113 (zP N):=tg [] [(14,⟨[.r 27 cb],[],[],[]⟩),(30,⟨[.r 45 cb],[],[],[]⟩)] [] N (.c (zcD N)<|.nil) (.nil)
def yW:bH:=⟨[.st 5,.c (.sl 5)],[cb],λa=>zed N a.1 a.2.1⟩
def zC:eE 63 (yW N):=tg [] [(26,⟨[.r 5 ci],[],[],[]⟩)] [] N (.c (zd N)<|.nil) (.nil)
def Aw:bH:=⟨[.st 5,.c (.sl 5)],[cb],λa=>zeK N a.1 a.2.1⟩
def A_:eE 25 (Aw N):=tg [] [] [] N (.c (zC N)<|.nil) (.nil)
def zM:bH:=⟨[ci,ci],[ci],λa=>zfD N a.1 a.2.1⟩
def zO:eE 210 (zM N):=tg [] [(58,⟨[.r 5 ci],[],[],[]⟩)] [] N (.nil) (.nil)
def sY:bH:=⟨[ci],[ci],λa=>zc7 N a.1⟩
def tj:eE 211 (sY N):=tg [] [] [] N (.c (zfj N)<|.nil) (.nil)
def ve:bH:=⟨[.st 10,.st 5,ci,.c (.sl 1)],[.st 11],λa=>zeq N a.1 a.2.1 a.2.2.1 a.2.2.2.1⟩
def vr:eE 165 (ve N):=tg [] [(31,⟨[.h 3 2 bZ],[],[],[]⟩),(63,⟨[.h 3 3 bZ],[],[],[]⟩)] [] N (.c (zO N)<|.c (zfj N)<|.c (tj N)<|.nil) (.nil)
def AP:bH:=⟨[.st 10,.st 5,ci,.c (.sl 1)],[ci],λa=>zdV N a.1 a.2.1 a.2.2.1 a.2.2.2.1⟩
def AW:eE 114 (AP N):=tg [] [] [] N (.c (vr N)<|.nil) (.nil)
def uR:bH:=⟨[.st 10,.st 5,.st 5,.st 26],[cb],λa=>zer N a.1 a.2.1 a.2.2.1 a.2.2.2.1⟩
def uP:eE 64 (uR N):=tg [] [] [] N (.c (AW N)<|.nil) (.nil)
def mC:dv:=⟨.mk [.v (.st 10),.p (.hd 0),.v (.st 26)] [] w6 [] [] [],[.mk y9 [] [] [(47,5)] [(58,⟨[.r 7 (.c (.sl 5)),.r 8 ci],[],[],[]⟩),(7460,⟨[.r 9 ci],[],[],[]⟩),(29840,⟨[.r 34 cb],[],[],[]⟩)] []],λ(a,b,d)=>zbn N a b d⟩
def mw:eJ 26 (mC N):=og (g:=26) N (.c (uP N)<|.nil) (.nil)
def vi:bH:=⟨[.st 10,.st 14],[.c (.sl 5)],λa=>zeo N a.1 a.2.1⟩
def vu:eE 9 (vi N):=tg [(28,5)] [(58,⟨[.r 6 ci,.w 2 5],[(5,2)],[(5,5)],[]⟩),(233,⟨[.w 2 5],[(5,2)],[],[]⟩)] [(1966117,[.mk y9 [] [] n9 [] []])] N (.c (A_ N)<|.nil) (.c (mw N)<|.nil)
def tW:bH:=⟨[.st 14,ci],[cb],λa=>zcY N a.1 a.2.1⟩
def tY:eE 13 (tW N):=tg [] [] [] N (.c (zcD N)<|.nil) (.nil)
def oR:bH:=⟨[.st 9],[cb],λa=>zd1 N a.1⟩
def oq:eE 3 (oR N):=tg [(63,1)] [(4090,⟨[.r 56 ci,.w 7 1],[(6,7)],[(6,1)],[]⟩),(65530,⟨[.r 102 ci],[],[],[]⟩)] [(1966109,[.mk zA7 [] [] n9 [] [],.mk [.p (.pt 1 0 27),.v cb] [] [.cells [.pt 2 0 2,.pt 3 0 2,xl 0,xl 2,xl 3,xi,xi,xi,xi,xi,xi,xi,xi,xi,xi,xi,xi,xi,xi,xi,xi,xi,xi,xl 8,xl 1,.hd 4,xi],.cells [xi,.hd 5],.cells [xl 0,.mr 6],.row 1,.row 5,.mp 7 true] [] [] []]),(134086744,[.mk [.v ci,.v ci] [.h 1 20 (xi),.h 1 23 (xl 8),.h 1 24 (xl 1),.h 1 25 (.hd 4),.h 1 26 (xi),.h 2 1 (.hd 8),.h 3 0 (xl 0),.w 4 1,.w 5 5,.m 6 7 true] w6 [(1000000,2)] [] []]),(536739939,[.mk [.v (.st 14)] [] [] [(1000000,3)] [] []]),(68625498182,[.mk [.v ci,.v cb] [] [] o7 [] []])] N (.c (uV N)<|.c (zK N)<|.c (uB N)<|.c (vu N)<|.c (tY N)<|.nil) (.c (qL N)<|.c (kK N)<|.c (jH N)<|.c (zax N)<|.nil)
end Go.Abs
end
end
section
end
