/- Lemmas. -/
import Derived.Test.YtcndmfkgdaipaaaGreatWkA
set_option linter.all false
section
set_option maxRecDepth 100000
noncomputable section
namespace Go.Abs
open Go.Proofs
variable[Gl](N:Nat)
def qA:dA:=⟨.mk [.v (.st 10),.v (.st 14)] [] [] [] [] [],[.mk [.p (.k (.c (.lit (.pointer none)))),.v cb] [] [] [] [] [(393227,[.mk [.p (.k (.c (.lit (.pointer none)))),.v ci] [] [] [(1000000,0)] [] [],.mk [.p (.pt 2 0 27),.p (.k (.c (.lit (.int .i64 0))))] [] [.cells [.pt 3 0 2,.pt 4 0 2,xl 0,xl 2,xl 3,xi,xi,xi,xi,xi,xi,xi,xi,xi,xi,xi,xi,xi,xi,xi,xi,xi,xi,xl 8,xl 1,.hd 5,xi],.cells [xi,.hd 6],.cells [xl 0,.mr 7],.row 1,.row 5,.mp 7 true] [] [] []]),(1966113,[.mk [.v (.st 14)] [] [] [(1000000,1)] [] []])],.mk [.p (.pt 0 0 27),.v cb] [] [.cells [.pt 1 0 2,.pt 2 0 2,xl 0,xl 2,xl 3,xi,xi,xi,xi,xi,xi,xi,xi,xi,xi,xi,xi,xi,xi,xi,xi,xi,xi,xl 8,xl 1,.hd 3,xi],.cells [xi,.hd 4],.cells [xl 0,.mr 5],.row 1,.row 5,.mp 7 true] [] [] []],λ(a,b)=>cE N a b⟩
def qH:f9 11 (qA N):=og (g:=11) N (.c (uu N)<|.c (kT N)<|.nil) (.c (BA N)<|.c (za7 N)<|.nil)
def wA:bz:=⟨[.st 14],[cb],λa=>iT N a.1⟩
def wO:eP 31 (wA N):=tg [] [(26,⟨[.r 3 ci],[],[],[]⟩)] [] N (.c (lU N)<|.nil) (.nil)
def zu:bz:=⟨[.st 4,.c (.sl 5)],[ci],λa=>zfA N a.1 a.2.1⟩
def yU:eP 199 (zu N):=tg [] [(14,⟨[.r 27 cb],[],[],[]⟩),(30,⟨[.r 45 cb],[],[],[]⟩)] [] N (.c (za0 N)<|.nil) (.nil)
def yE:bz:=⟨[.st 5,.c (.sl 5)],[cb],λa=>zd6 N a.1 a.2.1⟩
def y_:eP 140 (yE N):=tg [] [(26,⟨[.r 5 ci],[],[],[]⟩)] [] N (.c (yU N)<|.nil) (.nil)
def Af:bz:=⟨[.st 5,.c (.sl 5)],[cb],λa=>zdJ N a.1 a.2.1⟩
def ou:eP 74 (Af N):=tg [] [] [] N (.c (y_ N)<|.nil) (.nil)
def yr:bz:=⟨[ci,ci],[ci],λa=>zfH N a.1 a.2.1⟩
def yF:eP 284 (yr N):=tg [] [(58,⟨[.r 5 ci],[],[],[]⟩)] [] N (.nil) (.nil)
def vX:bz:=⟨[ci,ci,ci],[ci],λa=>zce N a.1 a.2.1 a.2.2.1⟩
def km:eP 285 (vX N):=tg [] [] [] N (.nil) (.nil)
def sR:bz:=⟨[ci],[ci],λa=>zcN N a.1⟩
def tn:eP 286 (sR N):=tg [] [] [] N (.c (km N)<|.nil) (.nil)
def uP:bz:=⟨[.st 10,.st 5,ci,.c (.sl 1)],[.st 11],λa=>zer N a.1 a.2.1 a.2.2.1 a.2.2.2.1⟩
def vf:eP 254 (uP N):=tg [] [(31,⟨[.h 3 2 hi],[],[],[]⟩),(63,⟨[.h 3 3 hi],[],[],[]⟩)] [] N (.c (yF N)<|.c (km N)<|.c (tn N)<|.nil) (.nil)
def zX:bz:=⟨[.st 10,.st 5,ci,.c (.sl 1)],[ci],λa=>zdH N a.1 a.2.1 a.2.2.1 a.2.2.2.1⟩
def AP:eP 204 (zX N):=tg [] [] [] N (.c (vf N)<|.nil) (.nil)
def uh:bz:=⟨[.st 10,.st 5,.st 5,.st 26],[cb],λa=>zet N a.1 a.2.1 a.2.2.1 a.2.2.2.1⟩
def t_:eP 151 (uh N):=tg [] [] [] N (.c (AP N)<|.nil) (.nil)
def mO:dA:=⟨.mk [.v (.st 10),.p (.hd 0),.v (.st 26)] [] [.row 5] [] [] [],[.mk [.v (.c (.sl 5))] [] [] [(47,5)] [(58,⟨[.r 7 (.c (.sl 5)),.r 8 ci],[],[],[]⟩),(7460,⟨[.r 9 ci],[],[],[]⟩),(29840,⟨[.r 34 cb],[],[],[]⟩)] []],λ(a,b,d)=>zbi N a b d⟩
def mE:f9 94 (mO N):=og (g:=94) N (.c (t_ N)<|.nil) (.nil)
def uc:bz:=⟨[.st 10,.st 14],[.c (.sl 5)],λa=>zbP N a.1 a.2.1⟩
def jj:eP 34 (uc N):=tg [(28,5)] [(58,⟨[.r 6 ci,.w 2 5],[(5,2)],[(5,5)],[]⟩),(233,⟨[.w 2 5],[(5,2)],[],[]⟩)] [(1966117,[.mk [.v (.c (.sl 5))] [] [] [(1000000,0)] [] []])] N (.c (ou N)<|.nil) (.c (mE N)<|.nil)
def uE:bz:=⟨[.c (.sl 5),ci,.st 27,ci],[ci],λa=>zek N a.1 a.2.1 a.2.2.1 a.2.2.2.1⟩
def ud:eP 141 (uE N):=tg [] [(58,⟨[.r 9 ci,.r 10 ci],[],[],[]⟩),(233,⟨[.r 9 ci],[],[],[]⟩),(1865,⟨[.r 49 cb],[],[],[]⟩)] [] N (.nil) (.nil)
def yW:bz:=⟨[.st 10,.c (.sl 5),.st 5],[cb],λa=>zfv N a.1 a.2.1 a.2.2.1⟩
def zq:eP 75 (yW N):=tg [] [(250,⟨[.r 8 ci,.r 9 ci],[],[],[]⟩),(1001,⟨[.r 8 ci],[],[],[]⟩),(4004,⟨[.r 66 cb],[],[],[]⟩)] [] N (.c (ud N)<|.nil) (.nil)
def zp:bz:=⟨[.st 10,.st 14,ci],[cb],λa=>zc7 N a.1 a.2.1 a.2.2.1⟩
def lQ:eP 22 (zp N):=tg [] [] [] N (.c (za0 N)<|.c (ou N)<|.c (zq N)<|.nil) (.nil)
def mK:bz:=⟨[.st 29,.st 28],[.st 29],λa=>zbG N a.1 a.2.1⟩
def zeS:eP 117 (mK N):=tg [(22,28)] [] [] N (.nil) (.nil)
def re:bz:=⟨[.st 10,.st 14],[.st 29],λa=>zbR N a.1 a.2.1⟩
def zdV:eP 53 (re N):=tg [] [(58,⟨[.r 6 ci,.h 3 0 (hl 0),.h 3 1 (hl 2),.h 3 2 (hl 3),.h 3 3 hi,.h 3 4 hi,.h 3 5 hi,.h 3 6 hi,.h 3 7 hi,.h 3 8 hi,.h 3 9 hi,.h 3 10 hi,.h 3 11 hi,.h 3 12 hi,.h 3 13 hi,.h 3 14 hi,.h 3 15 hi,.h 3 16 hi,.h 3 17 hi,.h 3 18 hi,.h 3 19 (hl 28),.h 3 20 (hl 8)],[],[],[]⟩)] [] N (.c (za0 N)<|.c (zeS N)<|.nil) (.nil)
def xz:bz:=⟨[.st 10,.st 5],[.st 30],λa=>gW N a.1 a.2.1⟩
def vY:eP 129 (xz N):=tg [] [] [] N (.nil) (.nil)
def mQ:dA:=⟨.mk [.p (.hd 0),.v ci] [] [.row 1] [] [] [],[.mk [.v (.c (.sl 1))] [] [] [(65,1)] [(58,⟨[.r 5 (.c (.sl 1)),.r 6 ci],[],[],[]⟩),(233,⟨[.r 5 (.c (.sl 1))],[],[],[]⟩),(7460,⟨[.r 7 ci],[],[],[]⟩),(7462,⟨[.r 54 cb],[],[],[]⟩),(29840,⟨[.r 29 cb],[],[],[]⟩)] []],λ(a,b)=>zcw N a b⟩
def mL:f9 238 (mQ N):=og (g:=238) N (.nil) (.nil)
def kV:bz:=⟨[.st 29],[.c (.sl 1)],λa=>zbr N a.1⟩
def zd3:eP 190 (kV N):=tg [(8,1),(23,1),(32,1),(48,1),(57,1)] [(58,⟨[.r 4 ci,.w 1 1],[(3,1)],[],[]⟩),(122,⟨[.r 5 ci,.w 1 1],[(3,1)],[],[]⟩)] [(4063294,[.mk [.v (.c (.sl 1))] [] [] [(1000000,0)] [] []])] N (.nil) (.c (mL N)<|.nil)
def ky:bz:=⟨[.st 29,ci,ci],[.st 0],λa=>zb2 N a.1 a.2.1 a.2.2.1⟩
def kB:eP 279 (ky N):=tg [] [(58,⟨[.r 8 ci,.h 2 0 hi,.h 2 1 hi,.h 2 2 hi,.h 2 3 hi],[],[],[]⟩),(233,⟨[.h 2 0 hi,.h 2 1 hi,.h 2 2 hi,.h 2 3 hi],[],[],[]⟩)] [] N (.c (zep N)<|.c (zeF N)<|.c (zcO N)<|.nil) (.nil)
def lE:bz:=⟨[.st 29,ci,ci],[.st 0,cb],λa=>zbB N a.1 a.2.1 a.2.2.1⟩
def lz:eP 239 (lE N):=tg [] [] [] N (.c (kB N)<|.c (jm N)<|.c (zcD N)<|.c (zfO N)<|.nil) (.nil)
def yL:bz:=⟨[ci,ci],[ci],λa=>zcB N a.1 a.2.1⟩
def yS:eP 280 (yL N):=tg [] [] [] N (.nil) (.nil)
def uM:bz:=⟨[.st 0,.st 0],[.st 0],λa=>zdm N a.1 a.2.1⟩
def uI:eP 240 (uM N):=tg [] [] [] N (.c (yS N)<|.nil) (.nil)
def wM:bz:=⟨[.c (.sl 0),.c (.sl 1),.st 0],[ci],λa=>ze3 N a.1 a.2.1 a.2.2.1⟩
def wg:eP 281 (wM N):=tg [] [(58,⟨[.r 7 ci,.r 8 ci],[],[],[]⟩),(233,⟨[.r 7 ci],[],[],[]⟩),(932,⟨[.r 28 cb],[],[],[]⟩)] [] N (.c (zeR N)<|.nil) (.nil)
def mI:dA:=⟨.mk [.p (.hd 0),.v (.c (.sl 1)),.v ci,.v (.st 0)] [] [.row 0] [] [] [],[.mk [.v (.c (.sl 6)),.v cb] [] [] [(71,6)] [(6,⟨[.r 23 cb],[],[],[]⟩),(250,⟨[.r 11 ci,.r 12 ci,.w 2 6],[(10,2)],[(10,6)],[]⟩),(1001,⟨[.r 11 ci,.w 2 6],[(10,2)],[],[]⟩),(8008,⟨[.r 48 cb],[],[],[]⟩),(16019,⟨[.r 13 ci],[],[],[]⟩),(32039,⟨[.w 2 6],[(10,2)],[],[]⟩)] []],λ(a,b,d,e)=>zcq N a b d e⟩
def ma:f9 241 (mI N):=og (g:=241) N (.c (zeR N)<|.c (wg N)<|.nil) (.nil)
def lF:bz:=⟨[.st 29,.st 30,ci],[.c (.sl 6),cb],λa=>Ye N a.1 a.2.1 a.2.2.1⟩
def lq:eP 191 (lF N):=tg [(103,0)] [(250,⟨[.r 10 ci,.w 2 0],[(9,2)],[(9,0)],[]⟩),(64074,⟨[.r 13 ci,.h 3 0 hi,.h 3 1 hi,.h 3 2 hi,.h 3 3 hi],[],[],[]⟩),(256297,⟨[.h 3 0 hi,.h 3 1 hi,.h 3 2 hi,.h 3 3 hi],[],[],[]⟩),(1025188,⟨[.r 87 cb],[],[],[]⟩)] [(8257653,[.mk [.v (.c (.sl 6)),.v cb] [] [] [(1000000,0)] [] []])] N (.c (zd3 N)<|.c (lz N)<|.c (uI N)<|.nil) (.c (ma N)<|.nil)
def iy:bz:=⟨[.st 29,.st 30],[.st 15,cb],λa=>zaI N a.1 a.2.1⟩
def iI:eP 128 (iy N):=tg [] [(58,⟨[.r 7 ci],[],[],[]⟩)] [] N (.c (zd3 N)<|.c (lq N)<|.nil) (.nil)
def qx:bz:=⟨[.st 10,.st 29,.st 5],[.st 15,cb],λa=>zaL N a.1 a.2.1 a.2.2.1⟩
def zdA:eP 66 (qx N):=tg [] [(7,⟨[.h 4 0 hi],[],[],[]⟩)] [] N (.c (vY N)<|.c (iI N)<|.nil) (.nil)
def vW:bz:=⟨[ci,ci],[ci],λa=>zfb N a.1 a.2.1⟩
def kC:eP 143 (vW N):=tg [] [(3,⟨[],[],[],[]⟩)] [] N (.nil) (.nil)
def zo:bz:=⟨[.st 5,ci,ci],[ci],λa=>jE N a.1 a.2.1 a.2.2.1⟩
def zg:eP 78 (zo N):=tg [] [] [] N (.c (jq N)<|.c (kC N)<|.nil) (.nil)
def oa:dA:=⟨.mk [.v (.c (.sl 0)),.p (.hd 0)] [] [.row 7] [] [] [],[.mk [.v (.c (.sl 0)),.v cb] [] [] [(55,0)] [(122,⟨[.r 7 cb,.r 8 ci,.w 1 0],[(6,1)],[(6,0)],[]⟩),(7827,⟨[.r 7 cb],[],[],[]⟩),(31306,⟨[.r 10 ci,.h 2 0 hi,.h 2 1 hi,.h 2 2 hi,.h 2 3 hi],[],[],[]⟩)] []],λ(a,b)=>zbM N a b⟩
def oD:f9 146 (oa N):=og (g:=146) N (.c (zep N)<|.c (zeF N)<|.c (zcO N)<|.c (zfO N)<|.c (zcD N)<|.nil) (.nil)
def vn:bz:=⟨[.c (.sl 0),.c (.sl 7),.st 7],[.c (.sl 7),ci],λa=>zdC N a.1 a.2.1 a.2.2.1⟩
def vu:eP 79 (vn N):=tg [(70,7)] [(6,⟨[.r 39 cb],[],[],[]⟩),(124,⟨[.r 8 ci],[],[],[]⟩),(496,⟨[.r 60 cb],[],[],[]⟩)] [(134086736,[.mk [.v (.c (.sl 0)),.v cb] [] [] [(1000000,0)] [] []])] N (.c (kI N)<|.c (zeO N)<|.c (zck N)<|.nil) (.c (oD N)<|.nil)
def wV:bz:=⟨[.st 5,ci,ci,cb],[.st 5],λa=>ze9 N a.1 a.2.1 a.2.2.1 a.2.2.2.1⟩
def wv:eP 81 (wV N):=tg [] [(31,⟨[.h 0 15 hi],[],[],[]⟩),(63,⟨[.h 0 15 hi],[],[],[]⟩),(127,⟨[.h 0 11 hb],[],[],[]⟩),(255,⟨[.h 0 11 hb,.h 0 12 hb],[],[],[]⟩),(511,⟨[.h 0 11 hb,.h 0 12 hb],[],[],[]⟩),(1023,⟨[.h 0 11 hb],[],[],[]⟩),(2047,⟨[.h 0 16 hi],[],[],[]⟩)] [] N (.c (kC N)<|.nil) (.nil)
def nR:dA:=⟨.mk [.v (.st 14)] [] [] [] [] [],[.mk [.ag [xi,xi,xi,.hd 0,.hd 1,.hd 2,.hd 3,.hd 4,xi]] [] [.row 5,.row 7,.row 8,.row 1,.row 1] [(5,5),(10,7),(15,8),(20,1),(25,1)] [] []],λa=>zdS N a⟩
def oj:f9 147 (nR N):=og (g:=147) N (.nil) (.nil)
def nX:dA:=⟨.mk [.ag [xi,xi,xi,.hd 0,.hd 1,.hd 2,.hd 3,.hd 4,xi]] [] [.row 5,.row 7,.row 8,.row 1,.row 1] [] [] [],[.mk [.ag [xi,xi,xi,.hd 5,.hd 6,.hd 7,.hd 8,.hd 9,xi]] [] [.row 5,.row 7,.row 8,.row 1,.row 1] [(5,5),(10,7),(15,8),(20,1),(25,1)] [] []],λ(a,b,d,e,f,g,h,i,j)=>zdU N a b d e f g h i j⟩
def oQ:f9 147 (nX N):=og (g:=147) N (.nil) (.nil)
def Az:bz:=⟨[ci],[ci],λa=>zeG N a.1⟩
def oK:eP 82 (Az N):=tg [] [] [] N (.nil) (.nil)
def mP:dA:=⟨.mk [.ag [xi,xi,xi,.hd 0,.hd 1,.hd 2,.hd 3,.hd 4,xi],.v ci] [] [.row 5,.row 7,.row 8,.row 1,.row 1] [] [] [],[.mk [.ag [xi,xi,xi,.hd 5,.hd 6,.hd 7,.hd 8,.hd 9,xi]] [] [.row 5,.row 7,.row 8,.row 1,.row 1] [] [(7,⟨[.w 11 1],[],[],[(12,7,11)]⟩)] [(393223,[.mk [.ag [xi,xi,xi,.hd 7,.hd 8,.hd 9,.hd 10,.hd 11,xi]] [] [.row 5,.row 7,.row 8,.row 1,.row 1] [(1000000,0)] [] []])]],λ(a,b,d,e,f,g,h,i,j,k)=>zbF N a b d e f g h i j k⟩
def mJ:f9 148 (mP N):=og (g:=148) N (.c (oK N)<|.nil) (.c (oQ N)<|.nil)
def sD:bz:=⟨[.st 14,.st 5],[.st 14],λa=>zdX N a.1 a.2.1⟩
def tQ:eP 80 (sD N):=tg [] [] [(393225,[.mk [.ag [xi,xi,xi,.hd 3,.hd 4,.hd 5,.hd 6,.hd 7,xi]] [] [.row 5,.row 7,.row 8,.row 1,.row 1] [(1000000,0)] [] []]),(8257564,[.mk [.ag [xi,xi,xi,.hd 10,.hd 11,.hd 12,.hd 13,.hd 14,xi]] [] [.row 5,.row 7,.row 8,.row 1,.row 1] [(1000000,1)] [] []]),(66715685,[.mk [.ag [xi,xi,xi,.hd 15,.hd 16,.hd 17,.hd 18,.hd 19,xi]] [] [.row 5,.row 7,.row 8,.row 1,.row 1] [(1000000,1)] [] []])] N (.c (za0 N)<|.nil) (.c (oj N)<|.c (mJ N)<|.nil)
def uK:bz:=⟨[.st 10,.st 14,ci,.c (.sl 6)],[.st 14,ci],λa=>zcs N a.1 a.2.1 a.2.2.1 a.2.2.2.1⟩
def jh:eP 26 (uK N):=tg [] [] [] N (.c (za0 N)<|.c (kR N)<|.c (zg N)<|.c (vu N)<|.c (wv N)<|.c (tQ N)<|.c (oK N)<|.nil) (.nil)
def tK:bz:=⟨[.st 10,.st 14,ci],[ci,cb],λa=>zbl N a.1 a.2.1 a.2.2.1⟩
def su:eP 19 (tK N):=tg [] [] [] N (.c (za0 N)<|.c (zdV N)<|.c (zdA N)<|.nil) (.nil)
def yO:bz:=⟨[.st 10,.st 14],[.st 14,.st 16],λa=>zfu N a.1 a.2.1⟩
def yI:eP 92 (yO N):=tg [(105,15)] [(31,⟨[.h 4 4 hi],[],[],[]⟩),(122,⟨[.r 8 ci,.h 1 0 hi,.h 1 1 hi,.h 1 2 hi,.h 1 3 (hl 5),.h 1 4 (hl 7),.h 1 5 (hl 8),.h 1 6 (hl 1),.h 1 7 (hl 1),.h 1 8 hi,.h 4 2 hi,.h 4 3 hi,.h 4 4 hi,.w 5 15],[],[(1052672,15)],[(4,0,5)]⟩),(489,⟨[.h 1 0 hi,.h 1 1 hi,.h 1 2 hi,.h 1 3 (hl 5),.h 1 4 (hl 7),.h 1 5 (hl 8),.h 1 6 (hl 1),.h 1 7 (hl 1),.h 1 8 hi,.h 4 2 hi,.h 4 3 hi,.h 4 4 hi,.w 5 15],[],[],[(4,0,5)]⟩),(62623,⟨[],[],[],[]⟩)] [] N (.c (jj N)<|.c (lQ N)<|.c (zdV N)<|.c (zdA N)<|.c (jh N)<|.c (su N)<|.nil) (.nil)
def wE:bz:=⟨[.st 10,.st 29,.st 5],[.st 29,.st 15,cb],λa=>zdF N a.1 a.2.1 a.2.2.1⟩
def vT:eP 54 (wE N):=tg [] [] [] N (.c (zdA N)<|.c (zeS N)<|.nil) (.nil)
def ze:bz:=⟨[.st 10,.st 14],[.st 14,.st 16],λa=>zfy N a.1 a.2.1⟩
def yX:eP 93 (ze N):=tg [(58,15),(82,15)] [(250,⟨[.r 9 ci,.h 1 0 hi,.h 1 1 hi,.h 1 2 hi,.h 1 3 (hl 5),.h 1 4 (hl 7),.h 1 5 (hl 8),.h 1 6 (hl 1),.h 1 7 (hl 1),.h 1 8 hi,.h 5 0 (hl 0),.h 5 1 (hl 2),.h 5 2 (hl 3),.h 5 3 hi,.h 5 4 hi,.h 5 5 hi,.h 5 6 hi,.h 5 7 hi,.h 5 8 hi,.h 5 9 hi,.h 5 10 hi,.h 5 11 hi,.h 5 12 hi,.h 5 13 hi,.h 5 14 hi,.h 5 15 hi,.h 5 16 hi,.h 5 17 hi,.h 5 18 hi,.h 5 19 (hl 28),.h 5 20 (hl 8),.w 6 15,.w 7 15],[],[(1052672,15),(1052673,15)],[(4,0,6),(4,1,7)]⟩),(1001,⟨[.h 1 0 hi,.h 1 1 hi,.h 1 2 hi,.h 1 3 (hl 5),.h 1 4 (hl 7),.h 1 5 (hl 8),.h 1 6 (hl 1),.h 1 7 (hl 1),.h 1 8 hi,.h 5 0 (hl 0),.h 5 1 (hl 2),.h 5 2 (hl 3),.h 5 3 hi,.h 5 4 hi,.h 5 5 hi,.h 5 6 hi,.h 5 7 hi,.h 5 8 hi,.h 5 9 hi,.h 5 10 hi,.h 5 11 hi,.h 5 12 hi,.h 5 13 hi,.h 5 14 hi,.h 5 15 hi,.h 5 16 hi,.h 5 17 hi,.h 5 18 hi,.h 5 19 (hl 28),.h 5 20 (hl 8),.w 6 15,.w 7 15],[],[],[(4,0,6),(4,1,7)]⟩),(32039,⟨[.w 7 15],[],[],[(4,1,7)]⟩)] [] N (.c (jj N)<|.c (zdV N)<|.c (lQ N)<|.c (vT N)<|.c (jh N)<|.nil) (.nil)
def yA:bz:=⟨[.st 10,.st 14],[.st 14,.st 16],λa=>zfx N a.1 a.2.1⟩
def yt:eP 32 (yA N):=tg [] [] [] N (.c (yI N)<|.c (yX N)<|.nil) (.nil)
def vA:bz:=⟨[.st 15,.st 15],[cb],λa=>ze1 N a.1 a.2.1⟩
def vU:eP 59 (vA N):=tg [] [] [] N (.c (kY N)<|.nil) (.nil)
def vg:bz:=⟨[.c (.sl 15),.c (.sl 15)],[cb],λa=>zdd N a.1 a.2.1⟩
def uC:eP 16 (vg N):=tg [] [(58,⟨[.r 5 ci],[],[],[]⟩)] [] N (.c (vU N)<|.nil) (.nil)
def wi:bz:=⟨[.st 16,.st 16],[cb],λa=>zfa N a.1 a.2.1⟩
def wu:eP 33 (wi N):=tg [] [] [] N (.c (uC N)<|.nil) (.nil)
end Go.Abs
end
end
section
set_option maxRecDepth 100000
noncomputable section
namespace Go.Abs
open Go.Proofs
variable[Gl](N:Nat)
def pd:bz:=⟨[.st 9],[cb],λa=>zef N a.1⟩
def pa:eP 6 (pd N):=tg [] [] [(1966104,[.mk [.p (.k (.c (.lit (.pointer none)))),.v cb] [] [] [(1000000,0)] [] [],.mk [.p (.pt 1 0 27),.v cb] [] [.cells [.pt 2 0 2,.pt 3 0 2,xl 0,xl 2,xl 3,xi,xi,xi,xi,xi,xi,xi,xi,xi,xi,xi,xi,xi,xi,xi,xi,xi,xi,xl 8,xl 1,.hd 4,xi],.cells [xi,.hd 5],.cells [xl 0,.mr 6],.row 1,.row 5,.mp 7 true] [] [] []]),(16515118,[.mk [.v cb] [] [] [(1000000,3)] [] []]),(16646197,[.mk [.v (.st 16),.v ci] [.h 1 25 (.hd 4),.h 1 26 (xi),.h 2 1 (.hd 5),.h 3 0 (xl 0),.w 4 1,.w 5 5,.m 6 7 true] [] [(1000000,4)] [] []]),(32768034,[.mk [.v (.st 16),.v ci] [] [] [(1000000,1)] [] []]),(65667115,[.mk [.v cb] [] [] [(1000000,2)] [] []]),(66977865,[.mk [.v (.st 14)] [] [] [(1000000,5)] [] []])] N (.c (uZ N)<|.c (yJ N)<|.c (wO N)<|.c (yt N)<|.c (wu N)<|.c (kT N)<|.nil) (.c (qH N)<|.c (nP N)<|.c (lM N)<|.c (lW N)<|.c (nV N)<|.c (za7 N)<|.nil)
end Go.Abs
end
end
section
end
