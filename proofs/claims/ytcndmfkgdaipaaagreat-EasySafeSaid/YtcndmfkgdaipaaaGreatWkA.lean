/- Lemmas. -/
import Derived.Test.YtcndmfkgdaipaaaGreatTyPure
import Derived.Test.YtcndmfkgdaipaaaGreatProg
import Derived.Test.YtcndmfkgdaipaaaGreatTyPrim
import Derived.KernelRfl
set_option linter.all false
section
set_option maxRecDepth 100000
noncomputable section
namespace Go.Abs
open Go.Proofs
variable[Gl]
abbrev ci:dk:=.c (.int .i64)
abbrev cb:dk:=.c .bool
abbrev xi:CP:=.c (.int .i64)
abbrev xb:CP:=.c .bool
abbrev xl(n:Nat):CP:=.c (.sl n)
abbrev xn:CP:=.k (.c (.lit (.slice none 0 0)))
abbrev hi:It:=.cc (.int .i64)
abbrev hb:It:=.cc .bool
abbrev hl(n:Nat):It:=.cc (.sl n)
def dB:Tryz.prog.follows .mixedOrders=true:=by kernel_rfl
def KB:dj:=KJ 120 182 1 (λk=>k)
def KB_ok:dj.ok Tryz.prog KB:=Rt Tryz.UD (λk=>rfl)
theorem tg{g:Nat}{S:sX}{s:bq}(H:List (Nat×Nat))(J:List (Nat×JH))(C:List (Nat×List CT))(N:Nat)(b:fh Tryz.prog S){O:OY}(d:vA Tryz.prog O)(h:∀a,tG Tryz.prog g S O KB H J C s.ins s.out N a=s.f a:=by intro _;kernel_rfl):bz Tryz.prog g s:=tG_ok dB b d KB_ok h
theorem og{g:Nat}{S:sX}{O:OY}{s:dr}(N:Nat)(a:fh Tryz.prog S)(b:vA Tryz.prog O)(d:aV Tryz.prog g=true:=by kernel_rfl)(h:∀x,oG Tryz.prog g S O KB N s x=s.f x:=by intro _;kernel_rfl):cV Tryz.prog g s:=oG_ok dB a b KB_ok d h
abbrev fh.c:=@fh.cons
abbrev vA.c:=@vA.cons
abbrev eP(g:Nat)(s:bq):=bz Tryz.prog g s
abbrev f9(g:Nat)(s:dr):=cV Tryz.prog g s
abbrev k9(l:List Pl):JH:=⟨l,[],[],[]⟩
abbrev g8:D:=.c (.lit (.int .i64 0))
abbrev j7:D:=.c (.lit (.pointer none))
abbrev k8:D:=.c (.lit (.slice none 0 0))
abbrev gA(l:List RO)(n:Nat):CT:=.mk l [] [] [(1000000,n)] [] []
abbrev g6(l:List RO):CT:=.mk l [] [] [] [] []
abbrev g7(a b c:Nat):NB:=.cells [.pt a 0 2,.pt b 0 2,xl 0,xl 2,xl 3,xi,xi,xi,xi,xi,xi,xi,xi,xi,xi,xi,xi,xi,xi,xi,xi,xi,xi,xl 8,xl 1,.hd c,xi]
end Go.Abs
end
end
section
set_option maxRecDepth 100000
noncomputable section
namespace Go.Abs
open Go.Proofs
variable[Gl](N:Nat)
def sP:bq:=⟨[],[.st 10],λa=>fS N⟩
def tN:eP 40 (sP N):=clo_ok (P:=Tryz.prog) (g:=40) (out:=[.st 10]) (λa=>fS N) dB (by kernel_rfl)
def Fo:bq:=⟨[.st 0],[.st 11],λa=>gq N a.1⟩
def uV:eP 209 (Fo N):=tg [] [] [] N .nil .nil
def Kl:bq:=⟨[.st 0],[cb],λa=>Og N a.1⟩
def WB:eP 163 (Kl N):=tg [] [(26,k9 [.r 7 ci])] [] N (.c (uV N)<|.nil) .nil
def yX:bq:=⟨[.st 10],[cb],λa=>fK N a.1⟩
def zC:eP 243 (yX N):=tg [] [(58,k9 [.r 18 ci])] [] N (.c (WB N)<|.nil) .nil
def Ax:bq:=⟨[.c (.sl 1),ci],[cb],λa=>ze0 N a.1 a.2.1⟩
def oO:eP 282 (Ax N):=tg [] [(58,k9 [.r 5 ci,.r 10 ci])] [] N .nil .nil
def zf:bq:=⟨[.st 10],[cb],λa=>fC N a.1⟩
def yQ:eP 245 (zf N):=tg [] [(58,k9 [.r 18 ci]),(3737,k9 [.r 32 cb])] [] N (.c (oO N)<|.nil) .nil
def xE:bq:=⟨[.st 10],[cb],λa=>ze9 N a.1⟩
def xo:eP 248 (xE N):=tg [] [(58,k9 [.r 20 ci]),(7474,k9 [.r 42 cb]),(59802,k9 [.r 50 ci])] [] N (.c (oO N)<|.nil) .nil
def uI:bq:=⟨[.st 12],[cb],λa=>zeC N a.1⟩
def uz:eP 250 (uI N):=tg [] [(26,k9 [.r 14 ci])] [] N .nil .nil
def JK:bq:=⟨[.st 10],[.c .str],λa=>Cn N a.1⟩
def Jt:eP 130 (JK N):=tg [] [(26,⟨[],[],[(1000003,40)],[]⟩)] [(786438,[.mk [] [] [] [(1000002,0),(43,1000001)] [] [(393225,[.mk [] [] [] [(1000002,0)] [] []]),(393232,[.mk [] [] [] [(1000002,0)] [] []]),(393237,[.mk [] [] [] [(1000002,0)] [] []]),(393240,[.mk [] [] [] [(1000002,0)] [] []]),(393243,[.mk [] [] [] [(1000002,0)] [] []]),(393246,[.mk [] [] [] [(1000002,0)] [] []]),(393249,[.mk [] [] [] [(1000002,0)] [] []]),(393252,[.mk [] [] [] [(1000002,0)] [] []]),(393255,[.mk [] [] [] [(1000002,0)] [] []]),(393258,[.mk [] [] [] [(1000002,0)] [] []])]]),(221380622,[g6 [.v cb]])] N (.c (zC N)<|.c (yQ N)<|.c (xo N)<|.c (uz N)<|.nil) .nil
def Hv:bq:=⟨[.st 10],[cb],λa=>QN N a.1⟩
def zb3:eP 67 (Hv N):=tg [] [] [] N (.c (Jt N)<|.nil) .nil
def zu:dr:=⟨g6 [.v ci],[g6 [.p (.k j7),.p (.k (.c (.lit (.int .i64 2))))],.mk [.p (.pt 0 0 2),.p (.k g8)] [] [.cells [xi,xn]] [] [] []],λa=>zep N a⟩
def nP:f9 96 (zu N):=og (g:=96) N .nil .nil
def gP:bq:=⟨[.c (.sl 0)],[.c (.sl 0)],λa=>za7 N a.1⟩
def zdb:eP 152 (gP N):=ux (i:=0) (sz:=32) (z:=[g8,g8,g8,g8]) (fn:=Tryz.f152) dB (by kernel_rfl) (by kernel_rfl) (by kernel_rfl) rfl
def xH:dr:=⟨g6 [.v (.st 10)],[.mk [.p (.k j7),.p (.k (.c (.lit (.int .i64 2))))] [] [] [(10,15)] [] [],.mk [.p (.pt 0 0 2),.p (.k g8)] [] [.cells [xl 0,.mr 1],.mp 7 true] [] [] []],λa=>zcR N a⟩
def zfm:f9 97 (xH N):=og (g:=97) N (.c (zb3 N)<|.c (zdb N)<|.nil) .nil
def jd:dr:=⟨g6 [.v (.c (.sl 2))],[.mk [.p (.hd 0)] [] [.row 2] [] [] []],λx=>zcB N x⟩
def jj:f9 153 (jd N):=i_ (i:=2) (sz:=24) (z:=[k8]) (fn:=Tryz.f153) dB (by kernel_rfl) (by kernel_rfl) (by kernel_rfl) rfl
def pL:bq:=⟨[.c (.sl 1)],[.c (.sl 1)],λa=>za1 N a.1⟩
def zdl:eP 58 (pL N):=ux (i:=1) (sz:=8) (z:=[g8]) (fn:=Tryz.f58) dB (by kernel_rfl) (by kernel_rfl) (by kernel_rfl) rfl
def zd6:dr:=⟨g6 [.v (.c (.sl 3))],[.mk [.p (.hd 0)] [] [.row 3] [] [] []],λx=>zbn N x⟩
def zd8:f9 154 (zd6 N):=i_ (i:=3) (sz:=64) (z:=[g8,k8,g8,g8,g8,g8]) (fn:=Tryz.f154) dB (by kernel_rfl) (by kernel_rfl) (by kernel_rfl) rfl
def Ao:bq:=⟨[.st 10],[.st 10],λa=>zc9 N a.1⟩
def gE:eP 98 (Ao N):=tg [] [(122,⟨[.r 16 ci,.w 2 2],[],[],[(0,1,2)]⟩),(506,⟨[.r 37 ci,.w 3 3],[],[],[(0,2,3)]⟩)] [(917515,[.mk [.p (.hd 2)] [] [.row 2] [(1000000,0)] [] []]),(4063264,[.mk [.p (.hd 3)] [] [.row 3] [(1000000,1)] [] []])] N (.c (zdb N)<|.c (zdl N)<|.nil) (.c (jj N)<|.c (zd8 N)<|.nil)
def De:bq:=⟨[ci,ci,ci],[ci],λa=>zcs N a.1 a.2.1 a.2.2.1⟩
def fM:eP 155 (De N):=tg [] [] [] N .nil .nil
def JX:bq:=⟨[ci],[.c (.sl 1)],λa=>qd N a.1⟩
def AZ:eP 99 (JX N):=tg [(5,1)] [] [] N (.c (fM N)<|.nil) .nil
def yS:dr:=⟨g6 [.v (.st 10)],[.mk [.p (.k j7),.p (.k (.c (.lit (.int .i64 2))))] [] [] [(37,1)] [(3298534883343,⟨[],[],[(1049601,5)],[]⟩)] [(917517,[gA [.p (.k j7),.p (.k (.c (.lit (.int .i64 2))))] 0,.mk [.p (.pt 1 0 2),.p (.k g8)] [] [.cells [xi,xn]] [] [] []]),(4063253,[gA [.p (.k j7),.p (.k (.c (.lit (.int .i64 2))))] 1,.mk [.p (.pt 3 0 2),.p (.k g8)] [] [.cells [xl 0,.mr 4],.mp 7 true] [] [] []])],.mk [.p (.pt 0 0 27),.p (.k g8)] [] [g7 1 2 3,.cells [xi,.hd 4],.cells [xl 0,.mr 5],.row 1,.row 5,.mp 7 true] [] [] []],λa=>sG N a⟩
def zH:f9 39 (yS N):=og (g:=39) N (.c (zb3 N)<|.c (gE N)<|.c (AZ N)<|.nil) (.c (nP N)<|.c (zfm N)<|.nil)
def pI:dr:=⟨g6 [.p (.k j7),.v (.st 5)],[g6 [.v ci]],λx=>iY N⟩
def pX:f9 87 (pI N):=og (g:=87) N .nil .nil
def oe:dr:=⟨g6 [.p (.k j7),.v ci,.v ci,.v ci],[.mk [] [] [] [] [] [(65552,[gA [.v ci] 0])]],λ(a,_,_)=>zbV N a⟩
def od:f9 60 (oe N):=og (g:=60) N .nil (.c (pX N)<|.nil)
def nU:dr:=⟨.mk [.p (.k j7),.v ci,.p (.hd 0)] [] [.row 6] [] [] [],[g6 [.v ci]],λx=>gj N⟩
def nM:f9 42 (nU N):=og (g:=42) N .nil .nil
def Bc:dr:=⟨g6 [.p (.k j7)],[g6 [.v (.st 15),.v ci]],λx=>vS N⟩
def Bg:f9 18 (Bc N):=og (g:=18) N .nil .nil
def GX:bq:=⟨[ci,ci,ci],[cb],λa=>OZ N a.1 a.2.1 a.2.2.1⟩
def pK:eP 160 (GX N):=tg [] [] [] N .nil .nil
def AW:bq:=⟨[.st 5],[cb],λa=>g_ N a.1⟩
def AP:eP 193 (AW N):=tg [] [(58,k9 [.r 12 ci])] [] N (.c (pK N)<|.nil) .nil
def Lk:bq:=⟨[ci],[.c .str],λa=>wR N a.1⟩
def Lo:eP 252 (Lk N):=tg [] [] [] N .nil .nil
def Hj:bq:=⟨[ci],[cb],λa=>jr N a.1⟩
def yk:eP 208 (Hj N):=tg [] [] [] N .nil .nil
def Lm:bq:=⟨[ci],[cb],λa=>Wn N a.1⟩
def gM:eP 134 (Lm N):=tg [] [] [] N .nil .nil
def Ah:bq:=⟨[.st 5],[cb],λa=>gS N a.1⟩
def Ak:eP 194 (Ah N):=tg [] [(51,k9 [.r 8 cb]),(207,k9 [.r 17 cb])] [] N (.c (Lo N)<|.c (gM N)<|.c (yk N)<|.nil) .nil
def JQ:bq:=⟨[.st 5],[cb],λa=>zeX N a.1⟩
def zfu:eP 132 (JQ N):=tg [] [] [] N (.c (pK N)<|.c (WB N)<|.c (AP N)<|.c (Ak N)<|.nil) .nil
def hZ:bq:=⟨[.c (.sl 4)],[.c (.sl 4)],λa=>zaG N a.1⟩
def zbN:eP 162 (hZ N):=ux (i:=4) (sz:=16) (z:=[g8,.c (.lit (.bool false))]) (fn:=Tryz.f162) dB (by kernel_rfl) (by kernel_rfl) (by kernel_rfl) rfl
def JP:bq:=⟨[.st 5],[.st 5],λa=>jc N a.1⟩
def lA:eP 119 (JP N):=tg [] [] [] N (.c (zbN N)<|.nil) .nil
def ot:dr:=⟨.mk [.p (.pt 0 0 2),.v ci] [] [.cells [xi,.hd 1],.row 5] [] [] [],[.mk [.v ci,.v cb] [] [] [] [] [(393229,[.mk [.v ci] [] [] [] [(28,k9 [.r 5 ci,.r 6 ci])] [(59375636,[g6 [.v cb]])]])]],λ(a,b,_)=>zaL N a b⟩
def zda:f9 156 (ot N):=og (g:=156) N .nil .nil
def zeb:dr:=⟨.mk [.p (.hd 0),.v ci,.p (.hd 1)] [] [.row 5,.row 5] [] [] [],[.mk [.p (.hd 0)] [.w 0 5] [] [] [] []],λ(a,b,d)=>zbr N a b d⟩
def zez:f9 167 (zeb N):=og (g:=167) N .nil .nil
def pM:dr:=⟨.mk [.p (.pt 0 0 2),.v (.st 5)] [] [.cells [xi,.hd 1],.row 5] [] [] [],[.mk [.v ci] [.h 0 1 (.hd 1),.w 1 5] [] [(38,5)] [] [(1966096,[gA [.v ci,.v cb] 0]),(16646183,[.mk [.p (.hd 1)] [.w 1 5] [] [(1000000,1)] [] []])]],λ(a,b,d)=>zb6 N a b d⟩
def zfv:f9 106 (pM N):=og (g:=106) N (.c (zfu N)<|.c (lA N)<|.nil) (.c (zda N)<|.c (zez N)<|.nil)
def Ed:bq:=⟨[ci],[ci],λa=>gn N a.1⟩
def mO:eP 104 (Ed N):=tg [] [] [] N .nil .nil
def nf:dr:=⟨.mk [.p (.pt 0 0 27),.v ci] [] [g7 1 2 3,.cells [xi,.hd 4],.cells [xl 0,.mr 5],.row 1,.row 5,.mp 7 true] [] [] [],[.mk [] [.w 3 1,.h 0 25 (.hd 3)] [] [] [] []],λ(a,_,_,b,_,_,_,_,_,_,_,_,_,_,_,_,_,_,_,_,_,_,_,_,_,_,_,_,_,_)=>zbg N a b⟩
def zeQ:f9 150 (nf N):=og (g:=150) N (.c (mO N)<|.nil) .nil
def pJ:dr:=⟨.mk [.p (.pt 0 0 27),.v (.st 5)] [] [g7 1 2 3,.cells [xi,.hd 4],.cells [xl 0,.mr 5],.row 1,.row 5,.mp 7 true] [] [] [],[.mk [.v ci] [.h 1 1 (.hd 4),.w 4 5,.h 0 21 (xi),.h 0 25 (.hd 3),.w 3 1] [] [] [] [(8126509,[.mk [.v ci] [.h 1 1 (.hd 4),.w 4 5] [] [(1000000,0)] [] []]),(16646203,[.mk [] [.w 3 1,.h 0 25 (.hd 3)] [] [(1000000,1)] [] []])]],λ(e,f,_,g,_,_,_,_,_,_,_,_,_,_,_,a,_,_,_,_,_,_,_,b,_,_,_,_,d,_)=>iX N e f g a b d⟩
def pQ:f9 87 (pJ N):=og (g:=87) N (.c (zfu N)<|.nil) (.c (zfv N)<|.c (zeQ N)<|.nil)
def oA:dr:=⟨.mk [.p (.pt 0 0 27),.v ci,.v ci,.v ci] [] [g7 1 2 3,.cells [xi,.hd 4],.cells [xl 0,.mr 5],.row 1,.row 5,.mp 7 true] [] [] [],[.mk [] [.h 0 21 (xi),.h 0 25 (.hd 3),.h 1 1 (.hd 4),.w 3 1,.w 4 5] [] [] [] [(65552,[.mk [.v ci] [.h 1 1 (.hd 4),.w 4 5,.h 0 21 (xi),.h 0 25 (.hd 3),.w 3 1] [] [(1000000,0)] [] []])]],λ(e,f,_,g,h,i,_,_,_,_,_,_,_,_,_,_,_,a,_,_,_,_,_,_,_,b,_,_,_,_,d,_)=>zbX N e f g h i a b d⟩
def oh:f9 60 (oA N):=og (g:=60) N .nil (.c (pQ N)<|.nil)
def pR:dr:=⟨.mk [.p (.pt 0 0 2),.v ci] [] [.cells [xi,.hd 1],.row 5] [] [] [],[.mk [.v (.st 5),.v cb] [] [] [] [] [(917518,[gA [.v ci,.v cb] 0])]],λ(a,b,_)=>zbA N a b⟩
def zdn:f9 100 (pR N):=og (g:=100) N (.c (lA N)<|.nil) (.c (zda N)<|.nil)
def EN:bq:=⟨[.c (.sl 6),ci],[cb],λa=>zeA N a.1 a.2.1⟩
def ze2:eP 157 (EN N):=tg [] [(58,k9 [.r 5 ci,.r 10 ci])] [] N .nil .nil
def EK:bq:=⟨[.c (.sl 6)],[ci],λa=>oI N a.1⟩
def EC:eP 158 (EK N):=tg [] [(58,k9 [.r 3 ci,.r 8 ci])] [] N (.c (fM N)<|.nil) .nil
def pE:bq:=⟨[.c (.sl 1),ci],[ci],λa=>zex N a.1 a.2.1⟩
def pH:eP 207 (pE N):=tg [] [(26,k9 [.r 8 ci])] [] N .nil .nil
def mw:bq:=⟨[.c (.sl 1),ci],[cb],λa=>zcf N a.1 a.2.1⟩
def mf:eP 159 (mw N):=tg [] [] [] N (.c (pH N)<|.nil) .nil
def Ei:bq:=⟨[.st 10,.st 5,.c (.sl 6)],[cb],λa=>zfh N a.1 a.2.1 a.2.2.1⟩
def nA:eP 101 (Ei N):=tg [] [(6,k9 [.r 22 cb]),(250,k9 [.r 47 ci])] [] N (.c (mf N)<|.c (ze2 N)<|.c (EC N)<|.nil) .nil
def Mp:bq:=⟨[ci],[cb],λa=>ee N a.1⟩
def jT:eP 90 (Mp N):=tg [] [] [] N .nil .nil
def Jn:bq:=⟨[ci,ci],[ci,cb],λa=>wv N a.1 a.2.1⟩
def JU:eP 161 (Jn N):=tg [] [(53247,k9 [.r 48 cb]),(212991,k9 [.r 55 cb])] [] N (.c (jT N)<|.c (yk N)<|.nil) .nil
def Mv:bq:=⟨[.st 5,ci,ci,cb],[.st 5,ci],λa=>vy N a.1 a.2.1 a.2.2.1 a.2.2.2.1⟩
def CW:eP 102 (Mv N):=tg [] [(6,k9 [.r 20 cb]),(1023,k9 [.h 0 11 hb,.h 0 12 hb,.h 0 15 hi]),(2047,k9 [.h 0 16 hi]),(8186,k9 [.h 0 12 hb])] [] N (.c (JU N)<|.c (zbN N)<|.c (gM N)<|.c (zfu N)<|.c (pK N)<|.nil) .nil
def zeU:dr:=⟨g6 [.v (.c (.sl 0))],[.mk [.p (.hd 0)] [] [.row 0] [] [] []],λx=>zba N x⟩
def zct:f9 152 (zeU N):=i_ (i:=0) (sz:=32) (z:=[g8,g8,g8,g8]) (fn:=Tryz.f152) dB (by kernel_rfl) (by kernel_rfl) (by kernel_rfl) rfl
def zE:dr:=⟨g6 [.v (.st 0)],[g6 [.ag [.cx,.cx]]],λa=>zdj N a⟩
def mU:f9 211 (zE N):=og (g:=211) N .nil .nil
def AM:dr:=⟨g6 [.ag [.cx,.cx]],[g6 [.v (.st 0)]],λ(a,b)=>nQ N a b⟩
def As:f9 255 (AM N):=og (g:=255) N .nil .nil
def xA:dr:=⟨g6 [.ag [.cx,.cx]],[.mk [.v (.st 0),.v ci] [] [] [] [] [(393222,[gA [.v (.st 0)] 0])]],λ(a,b)=>zdG N a b⟩
def lh:f9 212 (xA N):=og (g:=212) N (.c (WB N)<|.nil) (.c (As N)<|.nil)
def KZ:bq:=⟨[.st 0,ci],[.st 0,ci],λa=>mD N a.1 a.2.1⟩
def lE:eP 210 (KZ N):=tg [] [] [(4063256,[gA [.ag [.cx,.cx]] 0]),(8257573,[gA [.v (.st 0),.v ci] 1])] N (.c (WB N)<|.nil) (.c (mU N)<|.c (lh N)<|.nil)
def Ql:bq:=⟨[.st 0,.st 0],[.st 0,ci],λa=>wC N a.1 a.2.1⟩
def zo:eP 165 (Ql N):=tg [] [(6,k9 [.r 15 cb])] [(917522,[gA [.ag [.cx,.cx]] 0]),(917524,[gA [.ag [.cx,.cx]] 0]),(1966112,[gA [.v (.st 0),.v ci] 1])] N (.c (WB N)<|.nil) (.c (mU N)<|.c (lh N)<|.nil)
def jY:dr:=⟨.mk [.p (.pt 0 0 2),.ag [xi,xi,xi,xi,xi,.hd 1],.p (.k (.c (.fn (.func 165) [] [])))] [] [.cells [xl 0,.mr 2],.row 6,.mp 7 true] [] [] [],[.mk [.v (.c (.sl 0)),.v ci] [] [] [] [(58,⟨[.r 21 ci,.w 4 0],[(8,4)],[],[]⟩)] [(393233,[.mk [.p (.hd 4)] [] [.row 0] [(1000000,0)] [] []])]],λ(a,_,_,b,d,e,f,g)=>zeP N a b d e f g⟩
def kr:f9 164 (jY N):=og (g:=164) N (.c (lE N)<|.c (zo N)<|.nil) (.c (zct N)<|.nil)
def zeZ:bq:=⟨[.c (.sl 6)],[.c (.sl 6)],λa=>zbF N a.1⟩
def zeY:eP 183 (zeZ N):=ux (i:=6) (sz:=16) (z:=[g8,g8]) (fn:=Tryz.f183) dB (by kernel_rfl) (by kernel_rfl) (by kernel_rfl) rfl
end Go.Abs
end
end
section
set_option maxRecDepth 100000
noncomputable section
namespace Go.Abs
open Go.Proofs
variable[Gl](N:Nat)
def Hy:bq:=⟨[.st 7],[.st 7],λa=>jg N a.1⟩
def yx:eP 122 (Hy N):=tg [] [] [] N (.c (zeY N)<|.nil) .nil
def zeo:dr:=⟨.mk [.p (.hd 0)] [] [.row 6] [] [] [],[.mk [.p (.hd 1)] [] [.row 6] [] [] []],λx=>zcu N x⟩
def zei:f9 183 (zeo N):=EE (ii:=6) (sz:=16) (z:=[g8,g8]) (fn:=Tryz.f183) dB (by kernel_rfl) (by kernel_rfl) (by kernel_rfl) rfl
def yg:dr:=⟨.mk [.ag [xi,xi,xi,xi,xi,.hd 0]] [] [.row 6] [] [] [],[.mk [.v (.st 7)] [] [] [] [] [(393221,[.mk [.p (.hd 3)] [] [.row 6] [(1000000,0)] [] []])]],λ(a,b,d,e,f,g)=>qh N a b d e f g⟩
def xS:f9 122 (yg N):=og (g:=122) N .nil (.c (zei N)<|.nil)
def mn:dr:=⟨.mk [.p (.pt 0 0 2),.ag [xi,xi,xi,xi,xi,.hd 1]] [] [.cells [xl 0,.mr 2],.row 6,.mp 7 true] [] [] [],[.mk [.v ci] [.h 0 0 (xl 0),.m 2 7 true] [] [] [(14,k9 [.r 41 cb])] [(4063288,[gA [.v (.c (.sl 0)),.v ci] 0]),(33423433,[gA [.v (.st 7)] 1])]],λ(a,b,d,e,f,g,h,i)=>zfr N a b d e f g h i⟩
def l_:f9 103 (mn N):=og (g:=103) N (.c (ze2 N)<|.c (WB N)<|.nil) (.c (kr N)<|.c (xS N)<|.nil)
def pp:dr:=⟨.mk [.p (.pt 0 0 2),.v (.st 5)] [] [.cells [xi,.hd 1],.row 5] [] [] [],[.mk [.v ci] [.w 1 5,.h 0 1 (.hd 1)] [] [] [] [(1966096,[gA [.v ci,.v cb] 0])]],λ(a,b,_)=>zcS N a b⟩
def pD:f9 166 (pp N):=og (g:=166) N (.c (zfu N)<|.c (lA N)<|.nil) (.c (zda N)<|.nil)
def lP:dr:=⟨.mk [.p (.pt 0 0 27),.v (.st 5),.v (.st 5)] [] [g7 1 2 3,.cells [xi,.hd 4],.cells [xl 0,.mr 5],.row 1,.row 5,.mp 7 true] [] [] [],[.mk [.v ci] [.h 1 1 (.hd 4),.w 4 5,.h 0 25 (.hd 3),.w 3 1] [] [] [(15,⟨[.w 3 1],[],[],[(0,25,3)]⟩)] [(786445,[.mk [.v ci] [.w 4 5,.h 1 1 (.hd 4)] [] [(1000000,0)] [] []]),(917524,[.mk [] [.w 3 1,.h 0 25 (.hd 3)] [] [(1000000,1)] [] []]),(7995421,[.mk [] [.w 3 1,.h 0 25 (.hd 3)] [] [(1000000,1)] [] []])]],λ(a,b,_,d,e,_,_,_,_,_,_,_,_,_,_,_,_,_,_,_,_,_,_,_,_,_,_,_,_,_,_)=>zbD N a b d e⟩
def zef:f9 105 (lP N):=og (g:=105) N .nil (.c (pD N)<|.c (zeQ N)<|.nil)
def nF:dr:=⟨.mk [.p (.pt 0 0 27),.v ci,.p (.hd 1)] [] [g7 2 3 4,.row 6,.cells [xi,.hd 5],.cells [xl 0,.mr 6],.row 1,.row 5,.mp 7 true] [] [] [],[.mk [.v ci] [.h 3 0 (xl 0),.m 6 7 true,.h 0 25 (.hd 4),.h 0 26 (xi),.h 2 1 (.hd 5),.w 4 1,.w 5 5] [] [] [] [(917524,[gA [.v (.st 5),.v cb] 0]),(133955641,[.mk [.v ci] [.h 3 0 (xl 0),.m 6 7 true] [] [(1000000,1)] [] []]),(268304458,[.mk [.v ci] [.h 2 1 (.hd 5),.w 5 5,.h 0 25 (.hd 4),.w 4 1] [] [(1000000,2)] [] []])]],λ(r,s,t,u,v,w,x,y,z,A,a,b,d,e,f,g,h,i,j,k,l,m,n,o,_,_,_,_,p,_,q)=>fY N r s t u v w x y z A a b d e f g h i j k l m n o p q⟩
def nL:f9 42 (nF N):=og (g:=42) N (.c (nA N)<|.c (CW N)<|.c (mO N)<|.nil) (.c (zdn N)<|.c (l_ N)<|.c (zef N)<|.nil)
def zfl:dr:=⟨.mk [.p (.hd 0)] [] [.row 5] [] [] [],[.mk [.p (.hd 1)] [] [.row 5] [] [] []],λx=>zbP N x⟩
def zfp:f9 118 (zfl N):=EE (ii:=5) (sz:=152) (z:=[g8,g8,g8,g8,g8,g8,g8,g8,g8,k8,g8,.c (.lit (.bool false)),.c (.lit (.bool false)),g8,g8,g8,g8,g8]) (fn:=Tryz.f118) dB (by kernel_rfl) (by kernel_rfl) (by kernel_rfl) rfl
def pr:dr:=⟨.mk [.p (.pt 0 0 2)] [] [.cells [xi,.hd 1],.row 5] [] [] [],[.mk [.v (.c (.sl 5))] [] [] [] [(122,⟨[.r 15 ci,.w 2 5],[(3,2),(13,2)],[],[]⟩)] [(917516,[.mk [.p (.hd 2)] [] [.row 5] [(1000000,0)] [] []])]],λ(a,_)=>zcZ N a⟩
def pS:f9 55 (pr N):=og (g:=55) N (.c (lA N)<|.nil) (.c (zfp N)<|.nil)
def nr:dr:=⟨.mk [.p (.pt 0 0 2)] [] [.cells [xl 0,.mr 1],.mp 7 true] [] [] [],[.mk [.v (.c (.sl 7))] [] [] [(27,7)] [(122,⟨[.r 15 ci,.w 3 7],[(3,3)],[(3,7)],[]⟩)] [(3932172,[.mk [] [] [] [(1000002,0)] [] []]),(3932173,[gA [.v (.c (.sl 1))] 999999])]],λ(a,_)=>aZ N a⟩
def nJ:f9 56 (nr N):=og (g:=56) N (.c (yx N)<|.nil) .nil
def zd3:bq:=⟨[.c (.sl 8)],[.c (.sl 8)],λa=>zaX N a.1⟩
def zd9:eP 57 (zd3 N):=ux (i:=8) (sz:=32) (z:=[g8,g8,g8,g8]) (fn:=Tryz.f57) dB (by kernel_rfl) (by kernel_rfl) (by kernel_rfl) rfl
def mc:dr:=⟨.mk [.p (.hd 0)] [] [.row 1] [] [] [],[.mk [.p (.hd 1)] [] [.row 1] [] [] []],λx=>zb8 N x⟩
def lN:f9 58 (mc N):=EE (ii:=1) (sz:=8) (z:=[g8]) (fn:=Tryz.f58) dB (by kernel_rfl) (by kernel_rfl) (by kernel_rfl) rfl
def mI:dr:=⟨.mk [.p (.pt 0 0 27)] [] [g7 1 2 3,.cells [xi,.hd 4],.cells [xl 0,.mr 5],.row 1,.row 5,.mp 7 true] [] [] [],[.mk [.v (.st 16)] [] [] [] [] [(917526,[gA [.v (.c (.sl 5))] 0]),(917531,[gA [.v (.c (.sl 7))] 1]),(917547,[.mk [.p (.hd 7)] [] [.row 1] [(1000000,2)] [] []])]],λ(h,i,j,_,_,_,_,_,_,_,_,_,_,_,_,_,_,_,_,_,_,a,b,d,e,f,g,_,_)=>Qh N h i j a b d e f g⟩
def za3:f9 15 (mI N):=og (g:=15) N (.c (zd9 N)<|.c (zdl N)<|.nil) (.c (pS N)<|.c (nJ N)<|.c (lN N)<|.nil)
def pT:dr:=⟨.mk [.p (.pt 0 0 27),.v ci] [] [g7 1 2 3,.cells [xi,.hd 4],.cells [xl 0,.mr 5],.row 1,.row 5,.mp 7 true] [] [] [],[.mk [.v (.st 5),.v cb] [] [] [] [] [(917518,[gA [.v (.st 5),.v cb] 0])]],λ(_,a,_,b,_,_,_,_,_,_,_,_,_,_,_,_,_,_,_,_,_,_,_,_,_,_,_,_,_,_)=>zcX N a b⟩
def pB:f9 52 (pT N):=og (g:=52) N .nil (.c (zdn N)<|.nil)
def Jr:bq:=⟨[.st 5],[ci],λa=>wU N a.1⟩
def KG:eP 124 (Jr N):=tg [] [(6,k9 [.r 11 cb])] [] N (.c (zfu N)<|.c (jT N)<|.nil) .nil
def oa:dr:=⟨.mk [.p (.pt 0 0 27)] [] [g7 1 2 3,.cells [xi,.hd 4],.cells [xl 0,.mr 5],.row 1,.row 5,.mp 7 true] [] [] [],[g6 [.v (.st 10)]],λ(_,_,_,m,n,o,p,q,r,s,a,b,d,e,f,g,h,i,j,k,l,_,_,_,_,_,_,_,_)=>zaW N m n o p q r s a b d e f g h i j k l⟩
def zbt:f9 89 (oa N):=og (g:=89) N (.c (gE N)<|.nil) .nil
def GZ:bq:=⟨[.st 8,ci],[cb],λa=>rU N a.1 a.2.1⟩
def GB:eP 198 (GZ N):=tg [] [] [] N .nil .nil
def Hi:bq:=⟨[.c (.sl 8),ci,ci,ci],[cb],λa=>fW N a.1 a.2.1 a.2.2.1 a.2.2.2.1⟩
def ym:eP 138 (Hi N):=tg [] [(26,k9 [.r 13 ci])] [] N .nil .nil
def Hq:bq:=⟨[.c (.sl 8),ci],[cb],λa=>nq N a.1 a.2.1⟩
def yG:eP 137 (Hq N):=tg [] [(58,k9 [.r 12 ci]),(3737,k9 [.r 47 cb])] [] N (.c (GB N)<|.c (ym N)<|.nil) .nil
def zY:bq:=⟨[.c (.sl 17),ci,ci],[cb],λa=>il N a.1 a.2.1 a.2.2.1⟩
def AU:eP 184 (zY N):=tg [] [(26,k9 [.r 11 ci]),(1689,k9 [.r 36 cb])] [] N (.c (ze2 N)<|.c (WB N)<|.nil) .nil
def FB:bq:=⟨[.c (.sl 18)],[cb],λa=>zer N a.1⟩
def iE:eP 233 (FB N):=tg [] [(58,k9 [.r 3 ci,.r 8 ci]),(7474,k9 [.r 26 cb])] [] N (.c (WB N)<|.nil) .nil
def JY:bq:=⟨[ci,.st 0],[.c (.sl 18),ci],λa=>wk N a.1 a.2.1⟩
def Ks:eP 185 (JY N):=tg [(10,18)] [] [] N (.c (iE N)<|.nil) .nil
def GA:bq:=⟨[.c (.sl 18),ci],[ci],λa=>fQ N a.1 a.2.1⟩
def zcY:eP 274 (GA N):=tg [] [] [(393224,[.mk [.v ci] [] [] [] [(28,k9 [.r 5 ci,.r 6 ci])] [(59375636,[g6 [.v cb]])]])] N .nil .nil
def zeE:dr:=⟨g6 [.v (.c (.sl 18))],[.mk [.p (.hd 0)] [] [.row 18] [] [] []],λx=>za5 N x⟩
def zb9:f9 298 (zeE N):=i_ (i:=18) (sz:=40) (z:=[g8,g8,g8,g8,g8]) (fn:=Tryz.f298) dB (by kernel_rfl) (by kernel_rfl) (by kernel_rfl) rfl
def zbW:dr:=⟨.mk [.p (.hd 0),.v ci,.p (.hd 1)] [] [.row 18,.row 18] [] [] [],[.mk [.p (.hd 0)] [.w 0 18] [] [] [] []],λ(a,b,d)=>zaE N a b d⟩
def zdT:f9 299 (zbW N):=og (g:=299) N .nil .nil
def zeu:dr:=⟨.mk [.p (.hd 0),.v ci,.p (.hd 1)] [] [.row 18,.row 18] [] [] [],[.mk [.p (.hd 0)] [.w 0 18] [] [] [] []],λx=>za0 N x.1 x.2.1 x.2.2⟩
def YR:Go.Shelf.Ren:=⟨λ| 22=>299 | 29=>303 | 30=>304 | n=>n,λ| 24=>254 | 9=>298 | 3=>3 | 4=>4 | 0=>0 | n=>n,λn=>n⟩
def N_:Nk Tryz.prog YR 5 40 "slices.Insert[[]drayage/api.Step,drayage/api.Step]" (.agg #[.int .i64 0,.int .i64 0,.int .i64 0,.int .i64 0,.int .i64 0]):={ mixed:=dB,f22:=Tryz.func299.trans (congrArg some (by kernel_rfl)),ov:=λargs w=>Go.run_callFunc_extern Tryz.func303 (by kernel_rfl) (by kernel_rfl) (by kernel_rfl) (by kernel_rfl) args w,t0:=Tryz.underlying0,t3:=Tryz.underlying3,t4:=Tryz.underlying4,a3:=Tryz.isAgg3,z3:=Tryz.sizeOf3,a4:=Tryz.isAgg4,z4:=Tryz.sizeOf4,z9:=Tryz.sizeOf298,v9:=Tryz.zeroValue298,t24:=Tryz.underlying254,a24:=Tryz.isAgg254,z24:=Tryz.sizeOf254,v24:=Tryz.zeroValue254,i9:=by kernel_rfl }
def zet:f9 299 (zeu N):=cV.or (f1:=(zbW N).f) (f2:=λx=>ME (α:=TT 18) x.1 x.2.1 x.2.2) (zdT N) (HU (ii:=18) N_ (by kernel_rfl) (by kernel_rfl) (by kernel_rfl) (by kernel_rfl) (by kernel_rfl))
def Lh:bq:=⟨[.c (.sl 18),ci],[.c (.sl 18)],λa=>qD N a.1 a.2.1⟩
def lQ:eP 273 (Lh N):=tg [(30,18)] [] [(917515,[.mk [.p (.hd 0)] [] [.row 18] [(1000000,0)] [] []]),(4063263,[.mk [.p (.hd 0)] [.w 0 18] [] [(1000000,1)] [] []])] N (.c (zcY N)<|.nil) (.c (zb9 N)<|.c (zet N)<|.nil)
def zbM:dr:=⟨.mk [.p (.hd 0),.v ci,.p (.hd 1)] [] [.row 18,.row 18] [] [] [],[.mk [.p (.hd 0)] [.w 0 18] [] [] [] []],λ(a,b,d)=>zaE N a b d⟩
def zdF:f9 299 (zbM N):=og (g:=299) N .nil .nil
def zd2:dr:=⟨.mk [.p (.hd 0),.v ci,.p (.hd 1)] [] [.row 18,.row 18] [] [] [],[.mk [.p (.hd 0)] [.w 0 18] [] [] [] []],λx=>zcm N x.1 x.2.1 x.2.2⟩
def zd5:f9 299 (zd2 N):=cV.or (f1:=(zbM N).f) (f2:=λx=>ME (α:=TT 18) x.1 x.2.1 x.2.2) (zdF N) (HU (ii:=18) N_ (by kernel_rfl) (by kernel_rfl) (by kernel_rfl) (by kernel_rfl) (by kernel_rfl))
def zt:dr:=⟨g6 [.v (.c (.sl 18)),.v ci],[.mk [.p (.hd 0)] [] [.row 18] [(30,18)] [] [(917515,[.mk [.p (.hd 0)] [] [.row 18] [(1000000,0)] [] []]),(4063263,[.mk [.p (.hd 0)] [.w 0 18] [] [(1000000,1)] [] []])]],λ(a,b)=>kY N a b⟩
def yV:f9 273 (zt N):=og (g:=273) N (.c (zcY N)<|.nil) (.c (zb9 N)<|.c (zd5 N)<|.nil)
def FH:bq:=⟨[.c (.sl 18)],[.c (.sl 18)],λa=>oQ N a.1⟩
def Fk:eP 275 (FH N):=tg [(13,18),(36,18)] [(122,⟨[.r 17 ci,.w 0 18],[(3,0)],[],[]⟩),(979,⟨[.w 0 18],[(3,0)],[],[]⟩)] [] N (.c (iE N)<|.nil) .nil
def pP:bq:=⟨[.c (.sl 18),ci,ci,.st 0,.k 165],[.c (.sl 18),ci],λa=>zeg N a.1 a.2.1 a.2.2.1 a.2.2.2.1⟩
def py:eP 234 (pP N):=tg [] [(6,k9 [.r 40 cb]),(62,⟨[],[],[(12,18)],[]⟩),(122,⟨[.r 13 ci,.w 1 18],[(12,1)],[],[]⟩)] [(917549,[.mk [.p (.hd 1)] [] [.row 18] [(1000000,0)] [] []])] N (.c (lQ N)<|.c (zcY N)<|.c (zo N)<|.c (Fk N)<|.c (iE N)<|.c (WB N)<|.nil) (.c (yV N)<|.nil)
def GF:bq:=⟨[.c (.sl 18),ci,ci,.st 0],[.c (.sl 18),ci],λa=>mZ N a.1 a.2.1 a.2.2.1 a.2.2.2.1⟩
def pF:eP 186 (GF N):=tg [] [] [] N (.c (py N)<|.nil) .nil
def ny:dr:=⟨.mk [.p (.pt 0 0 3),.v ci,.v ci,.v (.c (.sl 6)),.v (.st 0)] [] [.cells [xi,.hd 1,.hd 2],.row 2,.row 19] [] [] [],[.mk [.v ci] [.h 0 2 (.hd 2),.w 2 19] [] [(20,19)] [(58,⟨[.r 23 ci,.w 4 19],[(11,4)],[],[]⟩),(122,⟨[.r 62 ci,.w 2 19],[],[],[(0,2,2)]⟩)] []],λ(_,a,b,d,e,f,_)=>zbh N a b d e f⟩
def ni:f9 179 (ny N):=og (g:=179) N (.c (lE N)<|.c (pF N)<|.nil) .nil
def zQ:dr:=⟨.mk [.v (.st 10),.v ci,.p (.hd 0),.v (.c (.sl 8))] [] [.row 17] [] [] [],[.mk [.p (.k j7),.v ci] [] [] [(69,2),(96,19)] [(6,k9 [.r 51 cb]),(122,⟨[.r 58 ci,.w 3 2],[],[(1050625,2)],[(2,1,3)]⟩),(250,⟨[.r 77 ci,.w 4 19],[],[(1050626,19)],[(2,2,4)]⟩),(506,⟨[.r 103 ci,.w 4 19],[],[],[(2,2,4)]⟩),(1018,⟨[.r 122 ci,.w 4 19],[],[],[(2,2,4)]⟩),(8147,⟨[.w 4 19],[],[],[(2,2,4)]⟩)] [(4247912563,[.mk [.v ci] [.h 2 2 (.hd 4),.w 4 19] [] [(1000000,0)] [] []])],.mk [.p (.pt 1 0 3),.p (.k g8)] [] [.cells [xi,xl 2,.hd 2],.row 19] [] [] []],λ(a,b,d,e)=>ze3 N a b d e⟩
def zU:f9 125 (zQ N):=og (g:=125) N (.c (zdl N)<|.c (Ks N)<|.c (pF N)<|.c (zb3 N)<|.c (yG N)<|.c (AU N)<|.nil) (.c (ni N)<|.nil)
def se:dr:=⟨.mk [.p (.pt 0 0 27)] [] [g7 1 2 3,.cells [xi,.hd 4],.cells [xl 0,.mr 5],.row 1,.row 5,.mp 7 true] [] [] [],[.mk [.p (.k j7),.v ci] [] [] [(17,17),(40,17)] [(250,⟨[.r 21 ci,.w 7 17],[(5,7)],[],[]⟩)] [(917517,[gA [.v (.st 16)] 0]),(8257580,[gA [.v (.st 10)] 2]),(8257586,[gA [.p (.k j7),.v ci] 3,.mk [.p (.pt 8 0 3),.p (.k g8)] [] [.cells [xi,xl 2,.hd 9],.row 19] [] [] []]),(2100428829,[gA [.v (.st 5),.v cb] 1])],.mk [.p (.pt 6 0 3),.p (.k g8)] [] [.cells [xi,xl 2,.hd 7],.row 19] [] [] []],λ(s,t,u,v,w,x,y,z,A,E,a,b,d,e,f,g,h,i,j,k,l,m,n,o,p,q,r,_,_)=>zdu N s t u v w x y z A E a b d e f g h i j k l m n o p q r⟩
def ru:f9 61 (se N):=og (g:=61) N (.c (KG N)<|.nil) (.c (za3 N)<|.c (pB N)<|.c (zbt N)<|.c (zU N)<|.nil)
def JE:bq:=⟨[ci,.c (.sl 5)],[.st 5,cb],λa=>wT N a.1 a.2.1⟩
def Jp:eP 221 (JE N):=tg [] [(26,k9 [.r 9 ci])] [] N .nil .nil
def OH:bq:=⟨[.st 4,.st 5],[cb],λa=>Gc N a.1 a.2.1⟩
def LH:eP 222 (OH N):=tg [] [] [] N (.c (gM N)<|.nil) .nil
def MA:bq:=⟨[.st 5,.c (.sl 5)],[cb],λa=>mW N a.1 a.2.1⟩
def Nd:eP 173 (MA N):=tg [] [(26,k9 [.r 12 ci]),(3379,k9 [.r 30 cb])] [] N (.c (Jp N)<|.c (LH N)<|.nil) .nil
def Cr:bq:=⟨[.c (.sl 5)],[.c (.sl 5)],λa=>fo N a.1⟩
def qT:Yd Tryz.prog 172 (Cr N):=able_ok (i:=5) (gm:=173) (so:=10) (ti:=3) (tb:=4) (z:=[g8,g8,g8,g8,g8,g8,g8,g8,g8,k8,g8,.c (.lit (.bool false)),.c (.lit (.bool false)),g8,g8,g8,g8,g8]) (fn:=Tryz.f172) (st:=λ(a:aJ)=>a.State) (met:=λ(a:aJ) (l:List aJ)=>mW N a l) dB (by kernel_rfl) (by kernel_rfl) (Nd N) rfl (λa=>by kernel_rfl) (λx y=>by kernel_rfl) (λx=>by kernel_rfl) (λx=>by kernel_rfl) (λx=>by kernel_rfl)
end Go.Abs
end
end
section
set_option maxRecDepth 100000
noncomputable section
namespace Go.Abs
open Go.Proofs
variable[Gl](N:Nat)
def Dx:bq:=⟨[ci],[ci],λa=>ic N a.1⟩
def Dp:eP 288 (Dx N):=tg [] [] [] N (.c (fM N)<|.nil) .nil
def Nm:bq:=⟨[ci,ci],[ci],λa=>Ap N a.1 a.2.1⟩
def Of:eP 289 (Nm N):=tg [] [] [] N .nil .nil
def Hp:bq:=⟨[.st 10,.st 5,ci,.c (.sl 1)],[.st 11],λa=>zD N a.1 a.2.1 a.2.2.1 a.2.2.2.1⟩
def Hg:eP 259 (Hp N):=tg [] [(15,k9 [.r 9 ci]),(31,k9 [.r 10 ci])] [] N (.c (zb3 N)<|.c (Of N)<|.c (fM N)<|.c (Dp N)<|.nil) .nil
def Ry:bq:=⟨[.st 10,.st 5,ci,.c (.sl 1)],[ci],λa=>Ea N a.1 a.2.1 a.2.2.1 a.2.2.2.1⟩
def Qp:eP 223 (Ry N):=tg [] [] [] N (.c (Hg N)<|.nil) .nil
def NZ:bq:=⟨[.st 10,.st 5,.st 21],[.st 22],λa=>qu N a.1 a.2.1 a.2.2.1⟩
def NE:eP 174 (NZ N):=tg [] [] [] N (.c (Qp N)<|.nil) .nil
def BR:bq:=⟨[ci],[cb],λa=>cmp_isNaN_int N a.1⟩
def By:eP 292 (BR N):=tg [] [] [] N .nil .nil
def zI:bq:=⟨[ci,ci],[ci],λa=>fG N a.1 a.2.1⟩
def zz:eP 261 (zI N):=tg [] [] [] N (.c (By N)<|.nil) .nil
def mQ:bq:=⟨[.c (.sl 1),.c (.sl 1)],[ci],λa=>zaC N a.1 a.2.1⟩
def zeO:eP 226 (mQ N):=tg [] [(26,k9 [.r 11 ci])] [] N (.c (zz N)<|.nil) .nil
def zfk:dr:=⟨.mk [.p (.hd 0),.v ci,.v ci,.v ci,.p (.fb 225 1 1)] [] [.row 1,.cells [xl 22]] [] [] [],[.mk [] [.w 0 1] [] [] [(63,k9 [.r 20 ci,.r 21 ci]),(172,k9 [.r 10 ci,.r 11 ci]),(428,k9 [.r 14 ci,.r 15 ci]),(698,⟨[.r 13 ci,.w 0 1],[(0,0)],[],[]⟩),(1020,k9 [.r 20 ci,.r 21 ci]),(1023,⟨[.w 0 1],[(0,0)],[],[]⟩),(1722,⟨[.r 17 ci,.w 0 1],[(0,0)],[],[]⟩),(2047,⟨[.w 0 1],[(0,0)],[],[]⟩),(8186,⟨[],[(0,0)],[],[]⟩),(16378,⟨[],[(0,0)],[],[]⟩)] [(361365553,[.mk [.v ci] [] [] [(9,1),(13,1)] [] []]),(536477887,[.mk [] [.w 0 1] [] [] [(28,⟨[.r 10 ci,.r 11 ci,.w 0 1],[(0,0)],[],[]⟩),(1812,⟨[],[(0,0)],[],[]⟩),(1814,⟨[],[(0,0)],[],[]⟩)] [(983097,[.mk [] [.w 0 1] [] [] [(6,⟨[.r 10 ci,.w 0 1],[(0,0)],[],[]⟩)] []]),(118751263,[.mk [] [.w 0 1] [] [] [(6,⟨[.r 10 ci,.w 0 1],[(0,0)],[],[]⟩)] []]),(118882350,[.mk [] [.w 0 1] [] [] [(6,⟨[.r 10 ci,.w 0 1],[(0,0)],[],[]⟩)] []])]]),(898236517,[.mk [.v ci] [] [] [(9,1),(13,1)] [] []]),(1073348813,[.mk [] [.w 0 1] [] [(1000000,0)] [] []]),(1073610971,[.mk [] [.w 0 1] [] [(1000000,0)] [] []]),(2139750569,[.mk [.v ci] [] [] [(9,1),(13,1)] [] []])]],λ(a,b,d,e,f)=>zbd N a b d e f⟩
theorem zcy:∀N:Nat,f9 291 (zfk N)
 |0=>⟨by kernel_rfl,λx y a b d z e f h=>by cases h⟩
 |N+1=>og (g:=291) N (.c (zeO N)<|.nil) (.c (zcy N)<|.nil)
def xw:bq:=⟨[.c (.sl 22)],[.c (.sl 1)],λa=>ze7 N a.1⟩
def ya:eP 175 (xw N):=tg [(7,1)] [(30,⟨[],[(3,0)],[],[]⟩),(58,⟨[.r 10 ci,.w 1 1],[(3,1)],[],[]⟩)] [(1966100,[.mk [] [.w 1 1] [] [] [] [(65544,[.mk [] [.w 1 1] [] [] [(28,⟨[.r 7 ci,.r 8 ci,.w 1 1],[(0,1)],[],[]⟩),(30,⟨[],[(0,0)],[],[]⟩),(62,⟨[.r 6 ci,.w 1 1],[(0,1)],[],[]⟩),(452,⟨[],[(0,0)],[],[]⟩),(1995,⟨[.w 1 1],[(0,1)],[],[]⟩),(3988,⟨[.r 7 ci,.r 8 ci,.w 1 1],[(0,1)],[],[]⟩),(31926,⟨[],[(0,0)],[],[]⟩),(63812,⟨[],[(0,0)],[],[]⟩)] [(1966107,[.mk [] [.w 1 1] [] [] [(6,⟨[.r 8 ci,.w 1 1],[(0,1)],[],[]⟩),(402,⟨[.r 9 ci,.w 1 1],[(0,1)],[],[]⟩),(1608,k9 [.r 34 cb])] [(210763808,[.mk [.v ci] [] [] [(9,1),(13,1)] [] []])]]),(29622290,[.mk [] [.w 1 1] [] [] [(6,⟨[.r 8 ci,.w 1 1],[(0,1)],[],[]⟩),(402,⟨[.r 9 ci,.w 1 1],[(0,1)],[],[]⟩),(1608,k9 [.r 34 cb])] [(210763808,[.mk [.v ci] [] [] [(9,1),(13,1)] [] []])]]),(2092302396,[.mk [] [.w 1 1] [] [(1000000,0)] [] []]),(4181983275,[.mk [] [.w 1 1] [] [(1000000,0)] [] []])]])]])] N (.c (zeO N)<|.nil) (.c (zcy N)<|.nil)
def xq:dr:=⟨.mk [.v (.st 10),.p (.hd 0),.v (.st 21)] [] [.row 5] [] [] [],[.mk [.v (.c (.sl 5))] [] [] [(19,22),(37,5),(55,5)] [(122,⟨[.r 22 ci,.w 3 22],[(7,3)],[],[]⟩),(252,⟨[],[],[(7,22)],[]⟩),(506,⟨[.r 41 ci,.w 4 5],[(10,4)],[],[]⟩)] []],λ(a,b,d)=>ze8 N a b d⟩
def xp:f9 114 (xq N):=og (g:=114) N (.c (zb3 N)<|.c (NE N)<|.c (ya N)<|.c (zbN N)<|.nil) .nil
def vP:dr:=⟨.mk [.p (.pt 0 0 27)] [] [g7 1 2 3,.cells [xi,.hd 4],.cells [xl 0,.mr 5],.row 1,.row 5,.mp 7 true] [] [] [],[.mk [.v (.c (.sl 5))] [] [] [(16,5)] [(250,⟨[.w 9 5],[],[(1055744,5)],[(7,0,9)]⟩)] [(917513,[gA [.v (.st 16)] 0]),(8126476,[.mk [] [] [] [(1000002,0)] [] []]),(8257555,[gA [.v (.st 10)] 1]),(8257562,[gA [.v (.c (.sl 5))] 2])]],λ(s,t,u,v,w,x,y,z,A,E,a,b,d,e,f,g,h,i,j,k,l,m,n,o,p,q,r,_,_)=>zdh N s t u v w x y z A E a b d e f g h i j k l m n o p q r⟩
def uX:f9 48 (vP N):=og (g:=48) N (.it (qT N)<|.nil) (.c (za3 N)<|.c (zbt N)<|.c (xp N)<|.nil)
def Fs:bq:=⟨[.st 10,ci],[cb],λa=>oK N a.1 a.2.1⟩
def Ek:eP 176 (Fs N):=tg [] [] [] N (.c (zb3 N)<|.nil) .nil
def Do:bq:=⟨[.c (.sl 5),ci],[ci],λa=>lF N a.1 a.2.1⟩
def DC:eP 177 (Do N):=tg [] [] [(393223,[.mk [.v ci] [] [] [] [(58,k9 [.r 5 ci,.r 10 ci]),(467,k9 [.r 5 ci])] [(489816080,[g6 [.v cb]])]])] N (.c (jT N)<|.nil) .nil
def Nz:bq:=⟨[.c (.sl 5),ci,ci],[ci],λa=>AQ N a.1 a.2.1 a.2.2.1⟩
def My:eP 178 (Nz N):=tg [] [] [(393225,[.mk [.v ci] [] [] [] [(58,k9 [.r 5 ci,.r 10 ci]),(467,k9 [.r 5 ci])] [(489816080,[g6 [.v cb]])]])] N (.c (jT N)<|.nil) .nil
def Kg:bq:=⟨[.st 10,.c (.sl 5),.st 5],[cb],λa=>eJ N a.1 a.2.1 a.2.2.1⟩
def JI:eP 115 (Kg N):=tg [] [] [] N (.c (Ek N)<|.c (DC N)<|.c (My N)<|.nil) .nil
def zg:dr:=⟨.mk [.p (.pt 0 0 27),.v ci] [] [g7 1 2 3,.cells [xi,.hd 4],.cells [xl 0,.mr 5],.row 1,.row 5,.mp 7 true] [] [] [],[.mk [.v cb] [] [] [] [(122,k9 [])] [(917514,[gA [.v (.st 16)] 0]),(3932173,[.mk [] [] [] [(1000002,0)] [] []]),(257163284,[gA [.v (.st 10)] 1])]],λ(t,u,v,w,x,y,z,A,E,F,a,b,d,e,f,g,h,i,j,k,l,m,n,o,p,q,r,s,_,_)=>fE N t u v w x y z A E F a b d e f g h i j k l m n o p q r s⟩
def zL:f9 49 (zg N):=og (g:=49) N (.it (qT N)<|.c (JI N)<|.nil) (.c (za3 N)<|.c (zbt N)<|.nil)
def nj:dr:=⟨.mk [.p (.hd 0)] [] [.row 1] [] [] [],[.mk [] [.w 0 1] [] [] [] []],λx=>zcq N x⟩
def zeR:f9 181 (nj N):=sort_oo (ii:=1) Tryz.sortsI (d:=λk=>k) (c:=λk=>k) (λa=>rfl) (λk=>rfl) (by kernel_rfl)
def ky:dr:=⟨.mk [.p (.hd 0)] [] [.row 1] [] [] [],[.mk [.p (.hd 1)] [.w 0 1] [.row 1] [] [] []],λx=>zbU N x⟩
def zdH:f9 235 (ky N):=PI (ii:=1) Tryz.V_ (d:=λk=>k) (c:=λk=>k) (λa=>rfl) (λk=>rfl) (by kernel_rfl)
def tE:bq:=⟨[.fp 20,ci],[.c (.sl 1)],λa=>zF N a.1 a.2.1⟩
def tW:eP 187 (tE N):=tg [(52,1)] [(62,⟨[],[(5,0)],[],[]⟩),(122,⟨[.r 33 ci,.w 0 1],[(5,0)],[(5,1)],[]⟩),(31334,⟨[.r 45 ci,.w 0 1],[(5,0)],[],[]⟩)] [(4063289,[.mk [] [.w 0 1] [] [(1000000,0)] [] []]),(8257595,[.mk [.p (.hd 1)] [.w 0 1] [.row 1] [(1000000,1)] [] []])] N .nil (.c (zeR N)<|.c (zdH N)<|.nil)
def Jg:bq:=⟨[.st 0,.st 0],[.st 0],λa=>Ch N a.1 a.2.1⟩
def Jk:eP 276 (Jg N):=tg [] [] [] N .nil .nil
def ED:bq:=⟨[.c (.sl 18),ci,ci],[.st 0],λa=>oS N a.1 a.2.1 a.2.2.1⟩
def vO:eP 236 (ED N):=tg [] [(6,k9 [.r 26 cb]),(31,k9 [.h 1 0 hi,.h 1 1 hi,.h 1 2 hi,.h 1 3 hi]),(250,k9 [.r 41 ci,.h 1 0 hi,.h 1 1 hi,.h 1 2 hi,.h 1 3 hi])] [] N (.c (zcY N)<|.c (Jk N)<|.c (iE N)<|.nil) .nil
def Ls:bq:=⟨[.st 0,.st 0],[ci],λa=>mA N a.1 a.2.1⟩
def Bb:eP 253 (Ls N):=tg [] [(6,k9 [.r 21 cb]),(250,k9 [.r 5 ci,.r 26 ci]),(2003,k9 [.r 5 ci])] [] N (.c (uV N)<|.c (WB N)<|.nil) .nil
def Km:bq:=⟨[.c (.sl 0),ci,.st 0],[ci],λa=>qN N a.1 a.2.1 a.2.2.1⟩
def z_:eP 278 (Km N):=tg [] [] [] N (.c (Bb N)<|.nil) .nil
def Hu:bq:=⟨[.c (.sl 0),.c (.sl 1),.st 0],[ci],λa=>sy N a.1 a.2.1 a.2.2.1⟩
def Ha:eP 277 (Hu N):=tg [] [(58,k9 [.r 7 ci,.r 12 ci])] [] N (.c (z_ N)<|.nil) .nil
def vU:dr:=⟨.mk [.p (.hd 0),.v (.c (.sl 1)),.v ci,.v (.st 0)] [] [.row 0] [] [] [],[.mk [.v (.c (.sl 6)),.v cb] [] [] [(48,6)] [(12,k9 [.r 24 cb]),(111,⟨[.w 2 6],[(10,2)],[(10,6)],[]⟩),(890,⟨[.r 11 ci,.r 28 ci,.w 2 6],[(10,2)],[],[]⟩),(7123,⟨[.r 11 ci,.w 2 6],[(10,2)],[],[]⟩)] []],λ(a,b,d,e)=>zeK N a b d e⟩
def kk:f9 237 (vU N):=og (g:=237) N (.c (z_ N)<|.c (Ha N)<|.nil) .nil
def vH:bq:=⟨[.fp 20,ci,ci,.st 0,ci,ci],[.c (.sl 6),cb],λa=>AV N a.1 a.2.1 a.2.2.1 a.2.2.2.1 a.2.2.2.2.1 a.2.2.2.2.2.1⟩
def uy:eP 188 (vH N):=tg [(57,0)] [(122,⟨[.r 66 ci,.w 1 0],[(14,1)],[],[]⟩)] [(4063328,[gA [.v (.c (.sl 6)),.v cb] 0])] N (.c (vO N)<|.nil) (.c (kk N)<|.nil)
def pZ:bq:=⟨[.fp 20,ci,ci,.st 0,ci],[.st 14,cb],λa=>tL N a.1 a.2.1 a.2.2.1 a.2.2.2.1 a.2.2.2.2.1⟩
def pV:eP 126 (pZ N):=tg [] [(3,k9 [.r 12 (.c (.sl 1)),.r 13 ci])] [] N (.c (uy N)<|.c (tW N)<|.nil) .nil
def qY:dr:=⟨.mk [.p (.pt 0 0 27),.v (.fp 20),.v (.st 5)] [] [g7 1 2 3,.cells [xi,.hd 4],.cells [xl 0,.mr 5],.row 1,.row 5,.mp 7 true] [] [] [],[.mk [.v (.st 14),.v cb] [] [] [] [] [(917523,[gA [.v (.st 10)] 0])]],λ(_,_,_,o,p,q,r,s,t,u,a,b,d,e,f,g,h,i,j,k,l,m,n,_,_,_,_,_,_,_,_)=>zde N o p q r s t u a b d e f g h i j k l m n⟩
def qf:f9 62 (qY N):=og (g:=62) N (.c (pV N)<|.nil) (.c (zbt N)<|.nil)
def xg:bq:=⟨[.fp 20],[ci],λa=>jq N a.1⟩
def wY:eP 51 (xg N):=tg [] [] [] N .nil .nil
def pY:dr:=⟨.mk [.p (.pt 0 0 25)] [] [.cells [.pt 1 0 27,.fp 20,xi,xi,xi,xi,xi,xi,xi,xi,xi,xn,xi,xb,xb,xi,xi,xi,xi,xi,xn,xn,xi,xi,xi],g7 2 3 4,.cells [xi,.hd 5],.cells [xl 0,.mr 6],.row 1,.row 5,.mp 7 true] [] [] [],[g6 [.v cb]],λ(_,_,_,_,_,_,_,_,_,_,_,_,_,_,_,_,_,_,_,_,_,a,_,_,_,_,_,_,_,_,_,_,_,_,_,_,_,_,_,_,_,_,_,_,_,_,_,_,_,_)=>Wp N a⟩
def zft:f9 65 (pY N):=og (g:=65) N .nil .nil
def rB:dr:=⟨.mk [.p (.pt 0 0 25),.v (.st 5),.v ci] [] [.cells [.pt 1 0 27,.fp 20,xi,xi,xi,xi,xi,xi,xi,xi,xi,xn,xi,xb,xb,xi,xi,xi,xi,xi,xn,xn,xi,xi,xi],g7 2 3 4,.cells [xi,.hd 5],.cells [xl 0,.mr 6],.row 1,.row 5,.mp 7 true] [] [] [],[.mk [] [.h 0 2 (xi),.h 0 3 (xi),.h 0 4 (xi),.h 0 5 (xi),.h 0 6 (xi),.h 0 7 (xi),.h 0 8 (xi),.h 0 9 (xi),.h 0 10 (xi),.h 0 11 (xl 4),.h 0 12 (xi),.h 0 13 (xb),.h 0 14 (xb),.h 0 15 (xi),.h 0 16 (xi),.h 0 17 (xi),.h 0 18 (xi),.h 0 19 (xi),.h 0 22 (xi),.h 0 23 (xi),.h 0 24 (xi)] [] [] [] [(393223,[gA [.v cb] 0])]],λ(_,_,_,r,s,_,t,u,v,w,a,b,d,e,f,g,h,i,j,k,l,m,n,o,p,q,_,_,_,_,_,_,_,_,_,_,_,_,_,_,_,_,_,_,_,_,_,_,_,_,_,_)=>li N r s t u v w a b d e f g h i j k l m n o p q⟩
def rJ:f9 63 (rB N):=og (g:=63) N .nil (.c (zft N)<|.nil)
def zea:dr:=⟨g6 [.v (.c (.sl 19))],[.mk [.p (.hd 0)] [] [.row 19] [] [] []],λx=>zbm N x⟩
def zd4:f9 189 (zea N):=i_ (i:=19) (sz:=24) (z:=[k8]) (fn:=Tryz.f189) dB (by kernel_rfl) (by kernel_rfl) (by kernel_rfl) rfl
def lT:dr:=⟨g6 [.v (.fp 20)],[.mk [.p (.pt 0 0 3)] [] [.cells [xi,xl 2,.hd 1],.row 19] [] [] [(917521,[.mk [.p (.hd 0)] [] [.row 19] [(1000000,0)] [] []])]],λa=>zbE N a⟩
def zcz:f9 127 (lT N):=og (g:=127) N .nil (.c (zd4 N)<|.nil)
def lI:dr:=⟨.mk [.p (.pt 0 0 3),.v ci,.v ci,.v (.c (.sl 6)),.v (.st 0)] [] [.cells [xi,xl 2,.hd 1],.row 19] [] [] [],[.mk [.v ci] [.h 0 2 (.hd 1),.w 1 19] [] [(20,19)] [(58,⟨[.r 23 ci,.w 3 19],[(11,3)],[],[]⟩),(122,⟨[.r 62 ci,.w 1 19],[],[],[(0,2,1)]⟩)] []],λ(a,b,d,e,f,_,_)=>zbh N a b d e f⟩
def lH:f9 179 (lI N):=og (g:=179) N (.c (lE N)<|.c (pF N)<|.nil) .nil
def nH:dr:=⟨.mk [.p (.pt 0 0 3),.v ci,.v (.c (.sl 6)),.v (.st 0),.v ci] [] [.cells [xi,xl 2,.hd 1],.row 19] [] [] [],[.mk [.v ci] [.h 0 2 (.hd 1),.w 1 19] [] [] [(14,k9 [.r 45 cb])] [(1966133,[.mk [.v ci] [.h 0 2 (.hd 1),.w 1 19] [] [(1000000,0)] [] []])]],λ(a,b,d,e,f,g,_)=>zbf N a b d e f g⟩
def zcM:f9 116 (nH N):=og (g:=116) N (.c (ze2 N)<|.c (WB N)<|.nil) (.c (lH N)<|.nil)
def lK:dr:=⟨.mk [.p (.pt 0 0 3),.v ci] [] [.cells [xi,xl 2,.hd 1],.row 19] [] [] [],[.mk [.v (.c (.sl 1))] [] [] [(52,1)] [(62,⟨[],[(5,0)],[],[]⟩),(122,⟨[.r 33 ci,.w 2 1],[(5,2)],[(5,1)],[]⟩),(31334,⟨[.r 45 ci,.w 2 1],[(5,2)],[],[]⟩)] [(4063289,[.mk [] [.w 2 1] [] [(1000000,0)] [] []]),(8257595,[.mk [.p (.hd 3)] [.w 2 1] [.row 1] [(1000000,1)] [] []])]],λ(a,b,_,d)=>zbC N a b d⟩
def mg:f9 187 (lK N):=og (g:=187) N .nil (.c (zeR N)<|.c (zdH N)<|.nil)
def mX:dr:=⟨.mk [.p (.pt 0 0 3),.v ci,.v ci,.v (.st 0),.v ci,.v ci] [] [.cells [xi,xl 2,.hd 1],.row 19] [] [] [],[.mk [.v (.c (.sl 6)),.v cb] [] [] [(57,0)] [(122,⟨[.r 66 ci,.w 3 0],[(14,3)],[],[]⟩)] [(4063328,[gA [.v (.c (.sl 6)),.v cb] 0])]],λ(a,b,d,e,f,g,h,i)=>zaI N a b d e f g h i⟩
def nY:f9 188 (mX N):=og (g:=188) N (.c (vO N)<|.nil) (.c (kk N)<|.nil)
def jp:dr:=⟨.mk [.p (.pt 0 0 3),.v ci,.v ci,.v (.st 0),.v ci] [] [.cells [xi,xl 2,.hd 1],.row 19] [] [] [],[.mk [.v (.st 14),.v cb] [] [] [] [(3,k9 [.r 12 (.c (.sl 1)),.r 13 ci])] [(786450,[gA [.v (.c (.sl 1))] 0]),(8126498,[gA [.v (.c (.sl 6)),.v cb] 1]),(29098018,[gA [.v (.c (.sl 6)),.v cb] 1])]],λ(a,b,d,e,f,g,h)=>zaK N a b d e f g h⟩
def ja:f9 126 (jp N):=og (g:=126) N .nil (.c (mg N)<|.c (nY N)<|.nil)
def qi:dr:=⟨.mk [.p (.pt 0 0 27),.p (.pt 1 0 3),.v (.st 5)] [] [g7 2 3 4,.cells [xi,xl 2,.hd 5],.cells [xi,.hd 6],.cells [xl 0,.mr 7],.row 1,.row 19,.row 5,.mp 7 true] [] [] [],[.mk [.v (.st 14),.v cb] [] [] [] [] [(917523,[gA [.v (.st 10)] 0]),(4063279,[gA [.v (.st 14),.v cb] 1])]],λ(_,q,_,_,r,s,t,u,v,w,a,b,d,e,f,g,h,i,j,k,l,m,n,_,_,_,_,_,_,o,p,_,_)=>zaM N q r s t u v w a b d e f g h i j k l m n o p⟩
def zdC:f9 62 (qi N):=og (g:=62) N .nil (.c (zbt N)<|.c (ja N)<|.nil)
def jX:dr:=⟨.mk [.p (.pt 0 0 2),.v (.st 7),.p (.k (.c (.fn (.func 165) [] [])))] [] [.cells [xl 0,.mr 1],.mp 7 true] [] [] [],[.mk [.v (.c (.sl 0)),.v ci] [] [] [] [(58,⟨[.r 21 ci,.w 3 0],[(8,3)],[],[]⟩)] [(393233,[.mk [.p (.hd 3)] [] [.row 0] [(1000000,0)] [] []])]],λ(_,a,b)=>zbS N a b⟩
def kB:f9 164 (jX N):=og (g:=164) N (.c (lE N)<|.c (zo N)<|.nil) (.c (zct N)<|.nil)
end Go.Abs
end
end
section
set_option maxRecDepth 100000
noncomputable section
namespace Go.Abs
open Go.Proofs
variable[Gl](N:Nat)
def mj:dr:=⟨.mk [.p (.pt 0 0 2),.v (.st 7)] [] [.cells [xl 0,.mr 1],.mp 7 true] [] [] [],[.mk [.v ci] [.h 0 0 (xl 0),.m 1 7 true] [] [] [(14,k9 [.r 41 cb])] [(4063288,[gA [.v (.c (.sl 0)),.v ci] 0])]],λ(a,b,d)=>zaZ N a b d⟩
def zcE:f9 103 (mj N):=og (g:=103) N (.c (yx N)<|.c (ze2 N)<|.c (WB N)<|.nil) (.c (kB N)<|.nil)
def m_:dr:=⟨.mk [.p (.pt 0 0 27),.v ci,.v (.c (.sl 6))] [] [g7 1 2 3,.cells [xi,.hd 4],.cells [xl 0,.mr 5],.row 1,.row 5,.mp 7 true] [] [] [],[.mk [.v ci] [.h 2 0 (xl 0),.m 5 7 true,.h 0 25 (.hd 3),.h 0 26 (xi),.h 1 1 (.hd 4),.w 3 1,.w 4 5] [] [] [] [(917524,[gA [.v (.st 5),.v cb] 0]),(133955641,[.mk [.v ci] [.h 2 0 (xl 0),.m 5 7 true] [] [(1000000,1)] [] []]),(268304458,[.mk [.v ci] [.h 1 1 (.hd 4),.w 4 5,.h 0 25 (.hd 3),.w 3 1] [] [(1000000,2)] [] []])]],λ(r,s,t,u,v,w,x,y,z,A,a,b,d,e,f,g,h,i,j,k,l,m,n,o,_,_,_,_,p,_,q)=>za6 N r s t u v w x y z A a b d e f g h i j k l m n o p q⟩
def zcL:f9 42 (m_ N):=og (g:=42) N (.c (nA N)<|.c (CW N)<|.c (mO N)<|.nil) (.c (zdn N)<|.c (zcE N)<|.c (zef N)<|.nil)
def qS:dr:=⟨.mk [.p (.pt 0 0 25),.v (.st 5),.v (.st 14)] [] [.cells [.pt 1 0 27,.fp 20,xi,xi,xi,xi,xi,xi,xi,xi,xi,xn,xi,xb,xb,xi,xi,xi,xi,xi,xn,xn,xi,xi,xi],g7 2 3 4,.cells [xi,.hd 5],.cells [xl 0,.mr 6],.row 1,.row 5,.mp 7 true] [] [] [],[.mk [] [.h 1 25 (.hd 4),.h 1 26 (xi),.h 2 1 (.hd 5),.h 3 0 (xl 0),.w 4 1,.w 5 5,.m 6 7 true,.h 0 1 (.fp 20),.h 0 20 (xn)] [] [(74,14)] [(15,k9 []),(13194139533438,⟨[],[],[],[(5,1057794,19),(0,1048577,20)]⟩)] [(393229,[.mk [.p (.pt 9 0 3)] [] [.cells [xi,xl 2,.hd 10],.row 19] [(1000000,0)] [] []]),(1835031,[.mk [.v ci] [.h 9 2 (.hd 10),.w 10 19] [] [(1000000,1)] [] []]),(3932186,[gA [.v cb] 2]),(8126525,[.mk [.v ci] [.h 3 0 (xl 0),.m 6 7 true,.h 1 25 (.hd 4),.h 1 26 (xi),.h 2 1 (.hd 5),.w 4 1,.w 5 5] [] [(1000000,4)] [] []]),(15990821,[gA [.v (.st 14),.v cb] 3])],.mk [] [.h 1 25 (.hd 4),.h 1 26 (xi),.h 2 1 (.hd 5),.h 3 0 (xl 0),.w 4 1,.w 5 5,.m 6 7 true,.h 0 1 (.fp 20),.h 0 20 (.hd 7)] [.row 14] [] [] []],λ(S,T,U,W,X,Y,Z,a7,a8,a9,a,b,d,e,f,g,h,i,j,k,l,m,n,o,p,_,q,r,s,t,u,v,w,x,y,z,A,E,F,G,K,L,M,O,P,_,_,_,_,Q,_,R)=>vj N S T U W X Y Z a7 a8 a9 a b d e f g h i j k l m n o p q r s t u v w x y z A E F G K L M O P Q R⟩
def qJ:f9 64 (qS N):=og (g:=64) N .nil (.c (zcz N)<|.c (zcM N)<|.c (zft N)<|.c (zdC N)<|.c (zcL N)<|.nil)
def n_:dr:=⟨.mk [.p (.pt 0 0 25)] [] [.cells [.pt 1 0 27,.fp 20,xi,xi,xi,xi,xi,xi,xi,xi,xi,xn,xi,xb,xb,xi,xi,xi,xi,xi,.hd 2,xn,xi,xi,xi],g7 3 4 5,.row 14,.cells [xi,.hd 6],.cells [xl 0,.mr 7],.row 1,.row 5,.mp 7 true] [] [] [],[g6 [.v cb]],λ(_,_,_,_,_,_,_,_,_,_,_,_,_,_,_,_,_,_,_,_,_,_,a,_,_,_,_,_,_,_,_,_,_,_,_,_,_,_,_,_,_,_,_,_,_,_,_,_,_,_,_)=>Wp N a⟩
def zeW:f9 65 (n_ N):=og (g:=65) N .nil .nil
def qp:dr:=⟨.mk [.p (.pt 0 0 25),.v (.st 5),.v ci] [] [.cells [.pt 1 0 27,.fp 20,xi,xi,xi,xi,xi,xi,xi,xi,xi,xn,xi,xb,xb,xi,xi,xi,xi,xi,.hd 2,xn,xi,xi,xi],g7 3 4 5,.row 14,.cells [xi,.hd 6],.cells [xl 0,.mr 7],.row 1,.row 5,.mp 7 true] [] [] [],[.mk [] [.h 0 2 (xi),.h 0 3 (xi),.h 0 4 (xi),.h 0 5 (xi),.h 0 6 (xi),.h 0 7 (xi),.h 0 8 (xi),.h 0 9 (xi),.h 0 10 (xi),.h 0 11 (xl 4),.h 0 12 (xi),.h 0 13 (xb),.h 0 14 (xb),.h 0 15 (xi),.h 0 16 (xi),.h 0 17 (xi),.h 0 18 (xi),.h 0 19 (xi),.h 0 22 (xi),.h 0 23 (xi),.h 0 24 (xi)] [] [] [] [(393223,[gA [.v cb] 0])]],λ(_,_,_,_,s,t,_,u,v,w,a,b,d,e,f,g,h,i,j,k,l,m,n,o,p,q,r,_,_,_,_,_,_,_,_,_,_,_,_,_,_,_,_,_,_,_,_,_,_,_,_,_,_)=>li N s t u v w a b d e f g h i j k l m n o p q r⟩
def qG:f9 63 (qp N):=og (g:=63) N .nil (.c (zeW N)<|.nil)
def qv:dr:=⟨.mk [.p (.pt 0 0 25),.v (.st 5),.v (.st 14)] [] [.cells [.pt 1 0 27,.fp 20,xi,xi,xi,xi,xi,xi,xi,xi,xi,xn,xi,xb,xb,xi,xi,xi,xi,xi,.hd 2,xn,xi,xi,xi],g7 3 4 5,.row 14,.cells [xi,.hd 6],.cells [xl 0,.mr 7],.row 1,.row 5,.mp 7 true] [] [] [],[.mk [] [.h 1 25 (.hd 5),.h 1 26 (xi),.h 3 1 (.hd 6),.h 4 0 (xl 0),.w 5 1,.w 6 5,.m 7 7 true,.h 0 1 (.fp 20),.h 0 20 (.hd 2),.w 2 14] [] [(74,14)] [(15,k9 []),(14293651161214,⟨[],[],[],[(5,1058818,19),(0,1048577,20)]⟩)] [(393229,[.mk [.p (.pt 10 0 3)] [] [.cells [xi,xl 2,.hd 11],.row 19] [(1000000,0)] [] []]),(1835031,[.mk [.v ci] [.h 10 2 (.hd 11),.w 11 19] [] [(1000000,1)] [] []]),(3932186,[gA [.v cb] 2]),(8126525,[.mk [.v ci] [.h 4 0 (xl 0),.m 7 7 true,.h 1 25 (.hd 5),.h 1 26 (xi),.h 3 1 (.hd 6),.w 5 1,.w 6 5] [] [(1000000,4)] [] []]),(15990821,[gA [.v (.st 14),.v cb] 3])]],λ(T,U,W,X,Y,Z,a6,a7,a8,a9,a,b,d,e,f,g,h,i,j,k,l,m,n,o,p,q,_,r,s,t,u,v,w,x,y,z,A,E,F,G,K,L,M,O,P,Q,_,_,_,_,R,_,S)=>ur N T U W X Y Z a6 a7 a8 a9 a b d e f g h i j k l m n o p q r s t u v w x y z A E F G K L M O P Q R S⟩
def qK:f9 64 (qv N):=og (g:=64) N .nil (.c (zcz N)<|.c (zcM N)<|.c (zeW N)<|.c (zdC N)<|.c (zcL N)<|.nil)
def mR:dr:=⟨.mk [.p (.pt 0 0 25)] [] [.cells [.pt 1 0 27,.fp 20,xi,xi,xi,xi,xi,xi,xi,xi,xi,xl 4,xi,xb,xb,xi,xi,xi,xi,xi,.hd 2,xn,xi,xi,xi],g7 3 4 5,.row 14,.cells [xi,.hd 6],.cells [xl 0,.mr 7],.row 1,.row 5,.mp 7 true] [] [] [],[g6 [.v cb]],λ(_,_,_,_,_,_,_,_,_,_,_,_,_,_,_,_,_,_,_,_,_,_,_,a,_,_,_,_,_,_,_,_,_,_,_,_,_,_,_,_,_,_,_,_,_,_,_,_,_,_,_,_)=>Wp N a⟩
def zcN:f9 65 (mR N):=og (g:=65) N .nil .nil
def rX:dr:=⟨.mk [.p (.pt 0 0 25),.v (.st 5),.v ci] [] [.cells [.pt 1 0 27,.fp 20,xi,xi,xi,xi,xi,xi,xi,xi,xi,xl 4,xi,xb,xb,xi,xi,xi,xi,xi,.hd 2,xn,xi,xi,xi],g7 3 4 5,.row 14,.cells [xi,.hd 6],.cells [xl 0,.mr 7],.row 1,.row 5,.mp 7 true] [] [] [],[.mk [] [.h 0 2 (xi),.h 0 3 (xi),.h 0 4 (xi),.h 0 5 (xi),.h 0 6 (xi),.h 0 7 (xi),.h 0 8 (xi),.h 0 9 (xi),.h 0 10 (xi),.h 0 11 (xl 4),.h 0 12 (xi),.h 0 13 (xb),.h 0 14 (xb),.h 0 15 (xi),.h 0 16 (xi),.h 0 17 (xi),.h 0 18 (xi),.h 0 19 (xi),.h 0 22 (xi),.h 0 23 (xi),.h 0 24 (xi)] [] [] [] [(393223,[gA [.v cb] 0])]],λ(_,_,_,_,t,u,_,v,w,x,a,b,d,e,f,g,h,i,j,k,l,m,n,o,p,q,r,s,_,_,_,_,_,_,_,_,_,_,_,_,_,_,_,_,_,_,_,_,_,_,_,_,_,_)=>zfi N t u v w x a b d e f g h i j k l m n o p q r s⟩
def rA:f9 63 (rX N):=og (g:=63) N .nil (.c (zcN N)<|.nil)
def qV:dr:=⟨.mk [.p (.pt 0 0 25),.v (.st 5),.v (.st 14)] [] [.cells [.pt 1 0 27,.fp 20,xi,xi,xi,xi,xi,xi,xi,xi,xi,xl 4,xi,xb,xb,xi,xi,xi,xi,xi,.hd 2,xn,xi,xi,xi],g7 3 4 5,.row 14,.cells [xi,.hd 6],.cells [xl 0,.mr 7],.row 1,.row 5,.mp 7 true] [] [] [],[.mk [] [.h 1 25 (.hd 5),.h 1 26 (xi),.h 3 1 (.hd 6),.h 4 0 (xl 0),.w 5 1,.w 6 5,.m 7 7 true,.h 0 1 (.fp 20),.h 0 20 (.hd 2),.w 2 14] [] [(74,14)] [(15,k9 []),(14293651161214,⟨[],[],[],[(5,1058818,19),(0,1048577,20)]⟩)] [(393229,[.mk [.p (.pt 10 0 3)] [] [.cells [xi,xl 2,.hd 11],.row 19] [(1000000,0)] [] []]),(1835031,[.mk [.v ci] [.h 10 2 (.hd 11),.w 11 19] [] [(1000000,1)] [] []]),(3932186,[gA [.v cb] 2]),(8126525,[.mk [.v ci] [.h 4 0 (xl 0),.m 7 7 true,.h 1 25 (.hd 5),.h 1 26 (xi),.h 3 1 (.hd 6),.w 5 1,.w 6 5] [] [(1000000,4)] [] []]),(15990821,[gA [.v (.st 14),.v cb] 3])]],λ(U,W,X,Y,Z,a5,a6,a7,a8,a9,a,b,d,e,f,g,h,i,j,k,l,m,n,o,p,q,r,_,s,t,u,v,w,x,y,z,A,E,F,G,K,L,M,O,P,Q,R,_,_,_,_,S,_,T)=>zdd N U W X Y Z a5 a6 a7 a8 a9 a b d e f g h i j k l m n o p q r s t u v w x y z A E F G K L M O P Q R S T⟩
def qQ:f9 64 (qV N):=og (g:=64) N .nil (.c (zcz N)<|.c (zcM N)<|.c (zcN N)<|.c (zdC N)<|.c (zcL N)<|.nil)
def AT:dr:=⟨.mk [.p (.pt 0 0 27)] [] [g7 1 2 3,.cells [xi,.hd 4],.cells [xl 0,.mr 5],.row 1,.row 5,.mp 7 true] [] [] [],[.mk [.v (.st 15),.v ci] [.h 0 25 (.hd 3),.h 0 26 (xi),.h 1 1 (.hd 4),.h 2 0 (xl 0),.w 3 1,.w 4 5,.m 5 7 true] [] [] [(511,k9 [.h 9 24 hi]),(2042,⟨[.r 32 ci,.h 0 26 hi,.h 2 0 (hl 0),.h 9 1 (.fp 20),.h 9 2 hi,.h 9 3 hi,.h 9 4 hi,.h 9 5 hi,.h 9 6 hi,.h 9 7 hi,.h 9 8 hi,.h 9 9 hi,.h 9 10 hi,.h 9 11 (hl 4),.h 9 12 hi,.h 9 13 hb,.h 9 14 hb,.h 9 15 hi,.h 9 16 hi,.h 9 17 hi,.h 9 18 hi,.h 9 19 hi,.h 9 22 hi,.h 9 23 hi,.h 9 24 hi,.h 10 0 hi,.h 10 1 hi,.h 10 2 (hl 6),.w 3 1,.w 4 5,.m 5 7 true,.w 11 14],[],[(1057812,14)],[(0,25,3),(1,1,4),(9,20,11)]⟩),(16339,⟨[.h 0 26 hi,.h 2 0 (hl 0),.h 9 1 (.fp 20),.h 9 2 hi,.h 9 3 hi,.h 9 4 hi,.h 9 5 hi,.h 9 6 hi,.h 9 7 hi,.h 9 8 hi,.h 9 9 hi,.h 9 10 hi,.h 9 11 (hl 4),.h 9 12 hi,.h 9 13 hb,.h 9 14 hb,.h 9 15 hi,.h 9 16 hi,.h 9 17 hi,.h 9 18 hi,.h 9 19 hi,.h 9 22 hi,.h 9 23 hi,.h 9 24 hi,.h 10 0 hi,.h 10 1 hi,.h 10 2 (hl 6),.w 3 1,.w 4 5,.m 5 7 true,.w 11 14],[],[],[(0,25,3),(1,1,4),(9,20,11)]⟩),(8796093022270,⟨[],[],[(4,0)],[]⟩),(10995116277822,⟨[],[],[(1055746,19),(4,20)],[]⟩)] [(917522,[gA [.p (.k j7),.v ci] 0,.mk [.p (.pt 7 0 3),.p (.k g8)] [] [.cells [xi,xl 2,.hd 8],.row 19] [] [] []]),(66846750,[gA [.v (.c (.sl 5))] 1]),(133955653,[gA [.v cb] 10]),(536084560,[gA [.v (.st 14),.v cb] 3]),(68531257383,[gA [.v cb] 2]),(68531388464,[gA [.v (.st 14),.v cb] 3]),(548252024898,[.mk [] [.h 0 25 (.hd 3),.h 0 26 (xi),.h 1 1 (.hd 4),.h 2 0 (xl 0),.w 3 1,.w 4 5,.m 5 7 true,.h 9 1 (.fp 20),.h 9 20 (.hd 11),.w 11 14] [] [(1000000,9)] [] []]),(2193007837246,[.mk [] [.h 9 2 (xi),.h 9 3 (xi),.h 9 4 (xi),.h 9 5 (xi),.h 9 6 (xi),.h 9 7 (xi),.h 9 8 (xi),.h 9 9 (xi),.h 9 10 (xi),.h 9 11 (xl 4),.h 9 12 (xi),.h 9 13 (xb),.h 9 14 (xb),.h 9 15 (xi),.h 9 16 (xi),.h 9 17 (xi),.h 9 18 (xi),.h 9 19 (xi),.h 9 22 (xi),.h 9 23 (xi),.h 9 24 (xi)] [] [(1000000,8)] [] []])]],λ(t,u,v,w,x,y,z,A,E,F,a,b,d,e,f,g,h,i,j,k,l,m,n,o,p,q,r,_,s)=>zcr N t u v w x y z A E F a b d e f g h i j k l m n o p q r s⟩
def iu:f9 18 (AT N):=og (g:=18) N (.c (wY N)<|.nil) (.c (ru N)<|.c (uX N)<|.c (zL N)<|.c (qf N)<|.c (rJ N)<|.c (qJ N)<|.c (qG N)<|.c (qK N)<|.c (rA N)<|.c (qQ N)<|.c (zcN N)<|.nil)
def vk:bq:=⟨[.c (.sl 6),.c (.sl 6)],[cb],λa=>zdk N a.1 a.2.1⟩
def ko:eP 123 (vk N):=tg [] [(58,k9 [.r 5 ci])] [] N .nil .nil
def vz:bq:=⟨[.st 14,.st 14],[cb],λa=>oN N a.1 a.2.1⟩
def vG:eP 59 (vz N):=tg [] [] [] N (.c (ko N)<|.nil) .nil
def tT:bq:=⟨[.c (.sl 14),.c (.sl 14)],[cb],λa=>fT N a.1 a.2.1⟩
def tt:eP 16 (tT N):=tg [] [(58,k9 [.r 5 ci])] [] N (.c (vG N)<|.nil) .nil
def uC:bq:=⟨[.st 15,.st 15],[cb],λa=>oF N a.1 a.2.1⟩
def uS:eP 33 (uC N):=tg [] [] [] N (.c (tt N)<|.nil) .nil
def sW:bq:=⟨[],[cb],λa=>zdU N⟩
def iP:eP 17 (sW N):=tg [(15,6),(29,6),(31,14)] [(3298534884350,⟨[],[],[],[(2,29,6)]⟩),(9895604651006,⟨[],[],[],[(2,29,6)]⟩)] [(393224,[gA [.p (.k j7),.p (.k (.c (.lit (.int .i64 2))))] 0,.mk [.p (.pt 0 0 27),.p (.k g8)] [] [g7 1 2 3,.cells [xi,.hd 4],.cells [xl 0,.mr 5],.row 1,.row 5,.mp 7 true] [] [] []]),(917516,[gA [] 1]),(1966096,[gA [.v ci] 2]),(4063250,[gA [] 1]),(8257556,[gA [] 1]),(16646166,[gA [] 1]),(33423385,[gA [.v (.st 15),.v ci] 3]),(7696582311948,[.mk [] [.h 0 21 (xi),.h 0 25 (.hd 3),.h 1 1 (.hd 4),.w 3 1,.w 4 5] [] [(1000000,4)] [] []]),(8796094988304,[.mk [.v ci] [.h 2 0 (xl 0),.m 5 7 true,.h 0 25 (.hd 3),.h 0 26 (xi),.h 1 1 (.hd 4),.w 3 1,.w 4 5] [] [(1000000,5)] [] []]),(8796097085458,[.mk [] [.h 0 21 (xi),.h 0 25 (.hd 3),.h 1 1 (.hd 4),.w 3 1,.w 4 5] [] [(1000000,4)] [] []]),(8796101279764,[.mk [] [.h 0 21 (xi),.h 0 25 (.hd 3),.h 1 1 (.hd 4),.w 3 1,.w 4 5] [] [(1000000,4)] [] []]),(8796109668374,[.mk [] [.h 0 21 (xi),.h 0 25 (.hd 3),.h 1 1 (.hd 4),.w 3 1,.w 4 5] [] [(1000000,4)] [] []]),(8796126445593,[.mk [.v (.st 15),.v ci] [.h 0 25 (.hd 3),.h 0 26 (xi),.h 1 1 (.hd 4),.h 2 0 (xl 0),.w 3 1,.w 4 5,.m 5 7 true] [] [(1000000,6)] [] []])] N (.c (tN N)<|.c (uS N)<|.nil) (.c (zH N)<|.c (od N)<|.c (nM N)<|.c (Bg N)<|.c (oh N)<|.c (nL N)<|.c (iu N)<|.nil)
def xX:bq:=⟨[.st 10],[cb],λa=>zfc N a.1⟩
def xP:eP 43 (xX N):=tg [] [(58,k9 [.r 26 ci]),(122,k9 [.r 37 ci])] [] N .nil .nil
def yf:bq:=⟨[.c (.sl 5)],[cb],λa=>zfa N a.1⟩
def xC:eP 44 (yf N):=tg [] [(58,k9 [.r 10 ci])] [] N .nil .nil
def xT:bq:=⟨[.st 10,.st 16],[cb],λa=>zci N a.1 a.2.1⟩
def lc:eP 10 (xT N):=tg [] [(6,k9 [.r 40 cb]),(58,k9 [.r 44 ci])] [] N (.c (xP N)<|.c (xC N)<|.nil) .nil
def Dn:bq:=⟨[ci,ci,ci],[cb],λa=>zds N a.1 a.2.1 a.2.2.1⟩
def sL:eP 131 (Dn N):=tg [] [] [] N .nil .nil
def Cd:bq:=⟨[.st 10,.st 16],[cb],λa=>jK N a.1 a.2.1⟩
def Ci:eP 68 (Cd N):=tg [] [] [] N (.c (sL N)<|.nil) .nil
def EO:bq:=⟨[ci],[ci],λa=>pg N a.1⟩
def Gb:eP 133 (EO N):=tg [] [] [] N (.c (gM N)<|.nil) .nil
def Hk:bq:=⟨[.st 10,.st 16],[cb],λa=>rc N a.1 a.2.1⟩
def GP:eP 69 (Hk N):=tg [] [(122,k9 [.r 5 ci,.r 17 ci]),(62671,k9 [.r 72 cb])] [] N (.c (zfu N)<|.c (Gb N)<|.nil) .nil
def Ln:bq:=⟨[.st 10,ci,.st 0],[ci],λa=>BV N a.1 a.2.1 a.2.2.1⟩
def Jm:eP 195 (Ln N):=tg [] [(122,k9 [.r 7 ci,.r 30 ci])] [] N (.c (zb3 N)<|.c (Bb N)<|.nil) .nil
def Kz:bq:=⟨[.st 10,ci,ci,.st 0],[cb],λa=>jA N a.1 a.2.1 a.2.2.1 a.2.2.2.1⟩
def Ld:eP 135 (Kz N):=tg [] [] [] N (.c (zb3 N)<|.c (Jm N)<|.nil) .nil
def Dr:bq:=⟨[.st 5,ci],[ci],λa=>gO N a.1 a.2.1⟩
def Dg:eP 197 (Dr N):=tg [] [] [] N .nil .nil
def zbQ:bq:=⟨[.c (.sl 5),ci,.k 197],[ci,cb],λa=>zaB N a.1 a.2.1⟩
def zbO:eP 196 (zbQ N):=tg [] [(60,k9 [.r 9 ci,.r 10 ci])] [] N (.c (Dg N)<|.nil) .nil
def Ht:bq:=⟨[.c (.sl 5),ci],[ci,cb],λa=>nW N a.1 a.2.1⟩
def yw:eP 136 (Ht N):=tg [] [] [] N (.c (zbO N)<|.nil) .nil
def BQ:bq:=⟨[.st 10,.st 16],[cb],λa=>jE N a.1 a.2.1⟩
def Cf:eP 70 (BQ N):=tg [] [(26,k9 [.r 14 ci]),(211,k9 []),(27038,k9 [.r 33 ci])] [] N (.c (gM N)<|.c (Ld N)<|.c (yw N)<|.nil) .nil
def vN:bq:=⟨[.st 10,.st 16],[cb],λa=>zeG N a.1 a.2.1⟩
def vi:eP 71 (vN N):=tg [] [(250,k9 [.r 7 (.c (.sl 7)),.r 23 ci,.h 2 0 (hl 0),.m 3 7 true]),(2003,k9 [.r 7 (.c (.sl 7)),.h 2 0 (hl 0),.m 3 7 true]),(256415,k9 [.r 74 cb,.h 2 0 (hl 0),.m 3 7 true])] [(393229,[gA [.p (.k j7),.p (.k (.c (.lit (.int .i64 2))))] 0,.mk [.p (.pt 2 0 2),.p (.k g8)] [] [.cells [xl 0,.mr 3],.mp 7 true] [] [] []]),(33608826952,[.mk [.v ci] [.h 2 0 (xl 0),.m 3 7 true] [] [(1000000,1)] [] []])] N (.c (jT N)<|.c (nA N)<|.nil) (.c (zfm N)<|.c (zcE N)<|.nil)
end Go.Abs
end
end
section
set_option maxRecDepth 100000
noncomputable section
namespace Go.Abs
open Go.Proofs
variable[Gl](N:Nat)
def Be:bq:=⟨[.st 10,.st 16],[cb],λa=>iF N a.1 a.2.1⟩
def Bj:eP 72 (Be N):=tg [] [(58,k9 [.r 23 ci]),(122,k9 [.r 43 ci]),(125342,k9 [.r 60 ci])] [] N (.c (yG N)<|.c (yw N)<|.c (ym N)<|.nil) .nil
def Em:bq:=⟨[.c (.sl 1)],[cb],λa=>oU N a.1⟩
def Gm:eP 139 (Em N):=tg [] [(26,k9 [.r 7 ci])] [] N .nil .nil
def FI:bq:=⟨[.st 10,.st 16],[cb],λa=>oL N a.1 a.2.1⟩
def ES:eP 73 (FI N):=tg [] [(6,k9 [.r 18 cb]),(14,k9 [.r 33 cb]),(122,k9 [.r 38 ci])] [] N (.c (sL N)<|.c (Gm N)<|.nil) .nil
def FO:bq:=⟨[.st 10,.st 16],[cb],λa=>fZ N a.1 a.2.1⟩
def uv:eP 20 (FO N):=tg [] [] [] N (.c (zb3 N)<|.c (Ci N)<|.c (GP N)<|.c (Cf N)<|.c (vi N)<|.c (Bj N)<|.c (ES N)<|.nil) .nil
def yY:dr:=⟨g6 [.v (.st 10)],[.mk [.p (.k j7),.p (.k (.c (.lit (.int .i64 2))))] [] [] [(37,1)] [] [(917517,[gA [.p (.k j7),.p (.k (.c (.lit (.int .i64 2))))] 0,.mk [.p (.pt 1 0 2),.p (.k g8)] [] [.cells [xi,xn]] [] [] []]),(4063253,[gA [.p (.k j7),.p (.k (.c (.lit (.int .i64 2))))] 1,.mk [.p (.pt 2 0 2),.p (.k g8)] [] [.cells [xl 0,.mr 3],.mp 7 true] [] [] []])],.mk [.p (.pt 0 0 27),.p (.k g8)] [] [.cells [.pt 1 0 2,.pt 2 0 2,xl 0,xl 2,xl 3,xi,xi,xi,xi,xi,xi,xi,xi,xi,xi,xi,xi,xi,xi,xi,xi,xi,xi,xn,xl 1,.hd 3,xi],.cells [xi,xn],.cells [xl 0,.mr 4],.row 1,.mp 7 true] [] [] []],λa=>fL N a⟩
def yO:f9 39 (yY N):=og (g:=39) N (.c (zb3 N)<|.c (gE N)<|.c (AZ N)<|.nil) (.c (nP N)<|.c (zfm N)<|.nil)
def zdr:dr:=⟨g6 [.v (.c (.sl 8))],[.mk [.p (.hd 0)] [] [.row 8] [] [] []],λx=>za8 N x⟩
def zdq:f9 57 (zdr N):=i_ (i:=8) (sz:=32) (z:=[g8,g8,g8,g8]) (fn:=Tryz.f57) dB (by kernel_rfl) (by kernel_rfl) (by kernel_rfl) rfl
def kU:dr:=⟨g6 [.v (.c (.sl 1))],[.mk [.p (.hd 0)] [] [.row 1] [] [] []],λx=>zbq N x⟩
def kP:f9 58 (kU N):=i_ (i:=1) (sz:=8) (z:=[g8]) (fn:=Tryz.f58) dB (by kernel_rfl) (by kernel_rfl) (by kernel_rfl) rfl
def AG:dr:=⟨g6 [.v (.st 10),.v (.st 16)],[.mk [.p (.k j7),.v ci] [] [] [] [(250,⟨[.r 29 ci,.w 7 5],[],[(1051649,5)],[(3,1,7)]⟩),(506,k9 [.r 46 ci,.h 4 0 (hl 0),.m 6 7 true])] [(917524,[gA [.p (.k j7),.p (.k (.c (.lit (.int .i64 2))))] 0,.mk [.p (.pt 2 0 27),.p (.k g8)] [] [.cells [.pt 3 0 2,.pt 4 0 2,xl 0,xl 2,xl 3,xi,xi,xi,xi,xi,xi,xi,xi,xi,xi,xi,xi,xi,xi,xi,xi,xi,xi,xn,xl 1,.hd 5,xi],.cells [xi,xn],.cells [xl 0,.mr 6],.row 1,.mp 7 true] [] [] []]),(33423438,[.mk [.p (.hd 8)] [] [.row 8] [(1000000,3)] [] []]),(66977876,[.mk [.p (.hd 9)] [] [.row 1] [(1000000,4)] [] []]),(134086747,[.mk [.p (.hd 10)] [] [.row 1] [(1000000,4)] [] []]),(2100428838,[.mk [.v ci] [.h 3 1 (.hd 7),.w 7 5] [] [(1000000,1)] [] []]),(4247912503,[.mk [.v ci] [.h 4 0 (xl 0),.m 6 7 true] [] [(1000000,2)] [] []])],.mk [.p (.pt 0 0 27),.p (.k g8)] [] [g7 1 2 3,.cells [xi,.hd 4],.cells [xl 0,.mr 5],.row 1,.row 5,.mp 7 true] [] [] []],λ(a,b)=>dA N a b⟩
def Aa:f9 45 (AG N):=og (g:=45) N (.c (uv N)<|.nil) (.c (yO N)<|.c (zfv N)<|.c (zcE N)<|.c (zdq N)<|.c (kP N)<|.nil)
def zw:bq:=⟨[ci,ci,ci],[cb],λa=>Bo N a.1 a.2.1 a.2.2.1⟩
def zdY:eP 215 (zw N):=tg [] [] [] N .nil .nil
def tJ:bq:=⟨[ci],[cb],λa=>zcc N a.1⟩
def sN:eP 202 (tJ N):=tg [] [] [] N .nil .nil
def sR:bq:=⟨[.st 0],[cb],λa=>Zb N a.1⟩
def zb7:eP 144 (sR N):=tg [] [] [] N (.c (sN N)<|.nil) .nil
def ub:bq:=⟨[.st 10],[cb],λa=>zc0 N a.1⟩
def tj:eP 216 (ub N):=tg [] [(26,k9 [.r 3 ci])] [] N (.c (zb7 N)<|.c (zdY N)<|.nil) .nil
def rM:bq:=⟨[.c (.sl 1),ci],[cb],λa=>zcD N a.1 a.2.1⟩
def gI:eP 257 (rM N):=tg [] [(26,k9 [.r 5 ci]),(420,k9 [.r 40 cb])] [] N .nil .nil
def tw:bq:=⟨[.st 10],[cb],λa=>zc4 N a.1⟩
def sY:eP 217 (tw N):=tg [] [(26,k9 [.r 3 ci]),(420,k9 [.r 29 cb])] [] N (.c (gI N)<|.c (zdY N)<|.nil) .nil
def sn:bq:=⟨[.st 10],[cb],λa=>zcC N a.1⟩
def rO:eP 218 (sn N):=tg [] [(26,k9 [.r 3 ci]),(841,k9 [.r 59 cb])] [] N (.c (gI N)<|.c (zdY N)<|.nil) .nil
def vV:bq:=⟨[.st 10],[.c .str],λa=>gG N a.1⟩
def vd:eP 168 (vV N):=tg [(28,23),(69,24)] [(7,k9 [.r 4 cb]),(506,k9 [.r 7 ci])] [] N (.c (tj N)<|.c (sY N)<|.c (zdY N)<|.c (rO N)<|.nil) .nil
def s_:bq:=⟨[.st 10],[cb],λa=>zcV N a.1⟩
def tq:eP 107 (s_ N):=tg [] [] [] N (.c (vd N)<|.nil) .nil
def tM:bq:=⟨[ci],[cb],λa=>zbp N a.1⟩
def iQ:eP 108 (tM N):=tg [] [] [] N .nil .nil
def vZ:bq:=⟨[.c (.sl 5),ci],[ci],λa=>OP N a.1 a.2.1⟩
def zaN:eP 21 (vZ N):=tg [] [(26,k9 [.r 5 ci])] [] N .nil .nil
def tc:bq:=⟨[.c (.sl 6),ci],[cb],λa=>zbo N a.1 a.2.1⟩
def zeh:eP 76 (tc N):=tg [] [(26,k9 [.r 5 ci]),(420,k9 [.r 60 cb])] [] N .nil .nil
def zj:bq:=⟨[.c (.sl 6),ci],[ci],λa=>zcH N a.1 a.2.1⟩
def zdZ:eP 38 (zj N):=tg [] [(58,k9 [.r 5 ci,.r 6 ci]),(233,k9 [.r 5 ci])] [] N .nil .nil
def yd:bq:=⟨[.st 0,.st 0],[.st 0],λa=>Wo N a.1 a.2.1⟩
def zcA:eP 36 (yd N):=tg [] [] [] N .nil .nil
def tS:bq:=⟨[.st 0,ci],[.st 0],λa=>zcd N a.1 a.2.1⟩
def zen:eP 37 (tS N):=tg [] [(58,k9 [.r 6 ci,.h 2 0 hi,.h 2 1 hi,.h 2 2 hi,.h 2 3 hi])] [] N (.c (zcA N)<|.nil) .nil
def vl:bq:=⟨[.st 0,.st 0],[cb],λa=>OU N a.1 a.2.1⟩
def zcn:eP 201 (vl N):=tg [] [] [] N .nil .nil
def xI:bq:=⟨[.st 0,.st 0],[.st 0],λa=>zck N a.1 a.2.1⟩
def zfj:eP 203 (xI N):=tg [] [] [] N .nil .nil
def uA:bq:=⟨[.c (.sl 0),.c (.sl 7)],[.c (.sl 0),cb],λa=>zeH N a.1 a.2.1⟩
def vm:eP 146 (uA N):=tg [(55,0)] [(122,⟨[.r 7 cb,.r 8 ci,.w 0 0],[(6,0)],[(6,0)],[]⟩),(7827,k9 [.r 7 cb]),(31306,k9 [.r 10 ci,.h 1 0 hi,.h 1 1 hi,.h 1 2 hi,.h 1 3 hi])] [] N (.c (zdZ N)<|.c (zen N)<|.c (zcA N)<|.c (zfj N)<|.c (zcn N)<|.nil) .nil
def rz:bq:=⟨[.st 10,.st 16],[cb],λa=>zdD N a.1 a.2.1⟩
def re:eP 109 (rz N):=tg [] [(26,k9 [.r 5 ci]),(841,k9 [.r 57 cb])] [] N (.c (zaN N)<|.c (zeh N)<|.c (zb7 N)<|.c (vm N)<|.nil) .nil
def tH:bq:=⟨[.st 16,ci,ci],[cb],λa=>zdW N a.1 a.2.1 a.2.2.1⟩
def sV:eP 169 (tH N):=tg [] [(26,k9 [.r 7 ci]),(841,k9 [.r 54 cb])] [] N (.c (zaN N)<|.c (zdZ N)<|.nil) .nil
def xK:bq:=⟨[.st 8,ci],[cb],λa=>ze4 N a.1 a.2.1⟩
def xu:eP 219 (xK N):=tg [] [] [] N (.c (iQ N)<|.nil) .nil
def tB:bq:=⟨[.c (.sl 8),ci,ci,ci],[cb],λa=>zbb N a.1 a.2.1 a.2.2.1 a.2.2.2.1⟩
def zee:eP 25 (tB N):=tg [] [(26,k9 [.r 9 ci])] [] N .nil .nil
def tU:bq:=⟨[.c (.sl 8),ci],[cb],λa=>zdX N a.1 a.2.1⟩
def th:eP 170 (tU N):=tg [] [(26,k9 [.r 5 ci]),(3366,k9 [.r 6 ci]),(53860,k9 [.r 58 cb])] [] N (.c (xu N)<|.c (zee N)<|.nil) .nil
def tf:bq:=⟨[.st 10,.st 16],[cb],λa=>zd0 N a.1 a.2.1⟩
def ue:eP 110 (tf N):=tg [] [(26,k9 [.r 5 ci]),(841,k9 [.r 38 cb])] [] N (.c (sV N)<|.c (th N)<|.nil) .nil
def xy:bq:=⟨[.c (.sl 1),ci],[cb],λa=>zff N a.1 a.2.1⟩
def wW:eP 111 (xy N):=tg [] [(26,k9 [.r 5 ci]),(420,k9 [.r 23 cb])] [] N .nil .nil
def zr:bq:=⟨[ci,ci,ci],[cb],λa=>SQ N a.1 a.2.1 a.2.2.1⟩
def zB:eP 200 (zr N):=tg [] [] [] N .nil .nil
def tn:bq:=⟨[.st 5],[cb],λa=>zc2 N a.1⟩
def iV:eP 142 (tn N):=tg [] [(14,k9 [.r 61 cb]),(26,k9 [.r 3 ci]),(30,k9 [.r 85 cb]),(62,k9 [.r 101 cb]),(126,k9 [.r 119 cb])] [] N (.c (zB N)<|.c (zb7 N)<|.c (zcn N)<|.nil) .nil
def vE:bq:=⟨[.c (.sl 7),ci],[ci],λa=>zbZ N a.1 a.2.1⟩
def kD:eP 145 (vE N):=tg [] [(26,k9 [.r 5 ci])] [] N .nil .nil
def wV:bq:=⟨[.st 5],[cb],λa=>ze5 N a.1⟩
def xB:eP 91 (wV N):=tg [] [] [] N .nil .nil
def tu:bq:=⟨[.st 0,.st 0],[ci],λa=>zbH N a.1 a.2.1⟩
def zey:eP 258 (tu N):=tg [] [(6,k9 [.r 19 cb]),(124,k9 [.r 5 ci,.h 2 0 hi,.h 2 1 hi,.h 2 2 hi,.h 2 3 hi]),(496,k9 [.r 27 cb])] [] N (.c (zcA N)<|.c (zcn N)<|.c (zb7 N)<|.nil) .nil
def vL:bq:=⟨[.st 10,ci,.st 0],[ci],λa=>h_ N a.1 a.2.1 a.2.2.1⟩
def vF:eP 220 (vL N):=tg [] [(122,k9 [.r 7 ci,.r 8 ci])] [] N (.c (zey N)<|.nil) .nil
def uK:bq:=⟨[.st 10,ci,ci,.st 0],[cb],λa=>zdp N a.1 a.2.1 a.2.2.1 a.2.2.2.1⟩
def uM:eP 171 (uK N):=tg [] [] [] N (.c (vF N)<|.nil) .nil
def uc:bq:=⟨[.c (.sl 6)],[ci],λa=>zc5 N a.1⟩
def iU:eP 24 (uc N):=tg [] [(58,k9 [.r 3 ci,.r 4 ci]),(233,k9 [.r 3 ci])] [] N .nil .nil
def xQ:bq:=⟨[.c (.sl 1),ci],[cb],λa=>zfb N a.1 a.2.1⟩
def yc:eP 77 (xQ N):=tg [] [(26,k9 [.r 5 ci])] [] N .nil .nil
def vY:bq:=⟨[.st 10,.st 5,.c (.sl 6)],[cb],λa=>zcx N a.1 a.2.1 a.2.2.1⟩
def zeT:eP 23 (vY N):=tg [] [(6,k9 [.r 34 cb]),(122,k9 [.r 8 ci])] [] N (.c (yc N)<|.c (zeh N)<|.c (iU N)<|.nil) .nil
def xG:bq:=⟨[.st 10,.st 16,.st 5],[cb],λa=>zfd N a.1 a.2.1 a.2.2.1⟩
def xa:eP 112 (xG N):=tg [] [(15,k9 [.r 7 ci]),(31,k9 [.r 7 ci]),(63,k9 [.r 7 ci]),(510,k9 [.r 83 cb]),(8186,k9 [.r 9 ci])] [] N (.c (iV N)<|.c (kD N)<|.c (zaN N)<|.c (uM N)<|.c (xB N)<|.c (zeT N)<|.nil) .nil
def t_:bq:=⟨[.st 10,.st 16],[cb],λa=>zc3 N a.1 a.2.1⟩
def tZ:eP 46 (t_ N):=tg [] [(6,k9 [.r 43 cb]),(14,k9 [.r 86 cb]),(122,k9 [.r 5 ci]),(250,k9 [.r 6 ci]),(4004,k9 [.r 138 cb])] [] N (.c (iQ N)<|.c (xa N)<|.c (re N)<|.c (ue N)<|.c (wW N)<|.c (tq N)<|.nil) .nil
def um:bq:=⟨[.st 5,.st 5],[cb],λa=>zeI N a.1 a.2.1⟩
def vB:eP 149 (um N):=tg [] [(58,k9 [.r 5 ci])] [] N .nil .nil
def uF:bq:=⟨[.c (.sl 5),.c (.sl 5)],[cb],λa=>zeD N a.1 a.2.1⟩
def uT:eP 83 (uF N):=tg [] [(58,k9 [.r 5 ci])] [] N (.c (vB N)<|.nil) .nil
def wi:bq:=⟨[.c (.sl 7),.c (.sl 7)],[cb],λa=>zeB N a.1 a.2.1⟩
def uP:eP 84 (wi N):=tg [] [(58,k9 [.r 5 ci]),(932,k9 [.r 54 cb])] [] N (.c (ko N)<|.nil) .nil
def uq:bq:=⟨[.c (.sl 8),.c (.sl 8)],[cb],λa=>zeJ N a.1 a.2.1⟩
def vr:eP 85 (uq N):=tg [] [(58,k9 [.r 5 ci])] [] N .nil .nil
def vw:bq:=⟨[.c (.sl 1),.c (.sl 1)],[cb],λa=>zdf N a.1 a.2.1⟩
def vn:eP 86 (vw N):=tg [] [(58,k9 [.r 5 ci])] [] N .nil .nil
def vu:bq:=⟨[.st 16,.st 16],[cb],λa=>zbj N a.1 a.2.1⟩
def jP:eP 27 (vu N):=tg [] [] [] N (.c (uT N)<|.c (uP N)<|.c (vr N)<|.c (vn N)<|.nil) .nil
def pz:dr:=⟨g6 [.v (.st 10),.v (.st 16)],[.mk [.p (.k j7),.v cb] [] [] [] [] [(393227,[gA [.p (.k j7),.v ci] 0,.mk [.p (.pt 2 0 27),.p (.k g8)] [] [g7 3 4 5,.cells [xi,.hd 6],.cells [xl 0,.mr 7],.row 1,.row 5,.mp 7 true] [] [] []]),(1966113,[gA [.v (.st 16)] 1])],.mk [.p (.pt 0 0 27),.v cb] [] [g7 1 2 3,.cells [xi,.hd 4],.cells [xl 0,.mr 5],.row 1,.row 5,.mp 7 true] [] [] []],λ(a,b)=>bR N a b⟩
def zfs:f9 11 (pz N):=og (g:=11) N (.c (tZ N)<|.c (jP N)<|.nil) (.c (Aa N)<|.c (za3 N)<|.nil)
def xj:bq:=⟨[.st 4,.c (.sl 5)],[ci],λa=>zfe N a.1 a.2.1⟩
def xU:eP 199 (xj N):=tg [] [(14,k9 [.r 27 cb]),(30,k9 [.r 45 cb])] [] N (.c (zaN N)<|.nil) .nil
def ye:bq:=⟨[.st 5,.c (.sl 5)],[cb],λa=>zdM N a.1 a.2.1⟩
def xr:eP 140 (ye N):=tg [] [(26,k9 [.r 5 ci])] [] N (.c (xU N)<|.nil) .nil
def ze:bq:=⟨[.st 5,.c (.sl 5)],[cb],λa=>fH N a.1 a.2.1⟩
def yM:eP 74 (ze N):=tg [] [] [] N (.c (xr N)<|.nil) .nil
def sQ:bq:=⟨[.c (.sl 5),ci,.st 25,ci],[ci],λa=>zd1 N a.1 a.2.1 a.2.2.1 a.2.2.2.1⟩
def tV:eP 141 (sQ N):=tg [] [(58,k9 [.r 9 ci,.r 10 ci]),(233,k9 [.r 9 ci]),(1865,k9 [.r 49 cb])] [] N .nil .nil
def xW:bq:=⟨[.st 10,.c (.sl 5),.st 5],[cb],λa=>zfg N a.1 a.2.1 a.2.2.1⟩
def x_:eP 75 (xW N):=tg [] [(250,k9 [.r 8 ci,.r 9 ci]),(1001,k9 [.r 8 ci]),(4004,k9 [.r 66 cb])] [] N (.c (tV N)<|.nil) .nil
def xM:bq:=⟨[.st 10,.st 16,ci],[cb],λa=>zdI N a.1 a.2.1 a.2.2.1⟩
def xc:eP 22 (xM N):=tg [] [] [] N (.c (zaN N)<|.c (yM N)<|.c (x_ N)<|.nil) .nil
def un:bq:=⟨[ci,ci],[ci],λa=>zeL N a.1 a.2.1⟩
def jZ:eP 143 (un N):=tg [] [(3,k9 [])] [] N .nil .nil
end Go.Abs
end
end
section
set_option maxRecDepth 100000
noncomputable section
namespace Go.Abs
open Go.Proofs
variable[Gl](N:Nat)
def xF:bq:=⟨[.st 5,ci,ci],[ci],λa=>jf N a.1 a.2.1 a.2.2.1⟩
def xN:eP 78 (xF N):=tg [] [] [] N (.c (iV N)<|.c (jZ N)<|.nil) .nil
def nh:dr:=⟨.mk [.v (.c (.sl 0)),.p (.hd 0)] [] [.row 7] [] [] [],[.mk [.v (.c (.sl 0)),.v cb] [] [] [(55,0)] [(122,⟨[.r 7 cb,.r 8 ci,.w 1 0],[(6,1)],[(6,0)],[]⟩),(7827,k9 [.r 7 cb]),(31306,k9 [.r 10 ci,.h 2 0 hi,.h 2 1 hi,.h 2 2 hi,.h 2 3 hi])] []],λ(a,b)=>zbI N a b⟩
def nX:f9 146 (nh N):=og (g:=146) N (.c (zdZ N)<|.c (zen N)<|.c (zcA N)<|.c (zfj N)<|.c (zcn N)<|.nil) .nil
def ut:bq:=⟨[.c (.sl 0),.c (.sl 7),.st 7],[.c (.sl 7),ci],λa=>zdi N a.1 a.2.1 a.2.2.1⟩
def vW:eP 79 (ut N):=tg [(70,7)] [(6,k9 [.r 39 cb]),(124,k9 [.r 8 ci]),(496,k9 [.r 60 cb])] [(134086736,[gA [.v (.c (.sl 0)),.v cb] 0])] N (.c (kD N)<|.c (zeh N)<|.c (zb7 N)<|.nil) (.c (nX N)<|.nil)
def vQ:bq:=⟨[.st 5,ci,ci,cb],[.st 5],λa=>zeN N a.1 a.2.1 a.2.2.1 a.2.2.2.1⟩
def uO:eP 81 (vQ N):=tg [] [(31,k9 [.h 0 15 hi]),(63,k9 [.h 0 15 hi]),(127,k9 [.h 0 11 hb]),(255,k9 [.h 0 11 hb,.h 0 12 hb]),(511,k9 [.h 0 11 hb,.h 0 12 hb]),(1023,k9 [.h 0 11 hb]),(2047,k9 [.h 0 16 hi])] [] N (.c (jZ N)<|.nil) .nil
def nO:dr:=⟨g6 [.v (.st 16)],[.mk [.ag [xi,xi,xi,.hd 0,.hd 1,.hd 2,.hd 3,.hd 4,xi]] [] [.row 5,.row 7,.row 8,.row 1,.row 1] [(5,5),(10,7),(15,8),(20,1),(25,1)] [] []],λa=>zdB N a⟩
def mY:f9 147 (nO N):=og (g:=147) N .nil .nil
def nC:dr:=⟨.mk [.ag [xi,xi,xi,.hd 0,.hd 1,.hd 2,.hd 3,.hd 4,xi]] [] [.row 5,.row 7,.row 8,.row 1,.row 1] [] [] [],[.mk [.ag [xi,xi,xi,.hd 5,.hd 6,.hd 7,.hd 8,.hd 9,xi]] [] [.row 5,.row 7,.row 8,.row 1,.row 1] [(5,5),(10,7),(15,8),(20,1),(25,1)] [] []],λ(a,b,d,e,f,g,h,i,j)=>zdv N a b d e f g h i j⟩
def nI:f9 147 (nC N):=og (g:=147) N .nil .nil
def yU:bq:=⟨[ci],[ci],λa=>zek N a.1⟩
def mM:eP 82 (yU N):=tg [] [] [] N .nil .nil
def lB:dr:=⟨.mk [.ag [xi,xi,xi,.hd 0,.hd 1,.hd 2,.hd 3,.hd 4,xi],.v ci] [] [.row 5,.row 7,.row 8,.row 1,.row 1] [] [] [],[.mk [.ag [xi,xi,xi,.hd 5,.hd 6,.hd 7,.hd 8,.hd 9,xi]] [] [.row 5,.row 7,.row 8,.row 1,.row 1] [] [(7,⟨[.w 11 1],[],[],[(12,7,11)]⟩)] [(393223,[.mk [.ag [xi,xi,xi,.hd 7,.hd 8,.hd 9,.hd 10,.hd 11,xi]] [] [.row 5,.row 7,.row 8,.row 1,.row 1] [(1000000,0)] [] []])]],λ(a,b,d,e,f,g,h,i,j,k)=>zbB N a b d e f g h i j k⟩
def mh:f9 148 (lB N):=og (g:=148) N (.c (mM N)<|.nil) (.c (nI N)<|.nil)
def rV:bq:=⟨[.st 16,.st 5],[.st 16],λa=>zdA N a.1 a.2.1⟩
def rC:eP 80 (rV N):=tg [] [] [(393225,[.mk [.ag [xi,xi,xi,.hd 3,.hd 4,.hd 5,.hd 6,.hd 7,xi]] [] [.row 5,.row 7,.row 8,.row 1,.row 1] [(1000000,0)] [] []]),(8257564,[.mk [.ag [xi,xi,xi,.hd 10,.hd 11,.hd 12,.hd 13,.hd 14,xi]] [] [.row 5,.row 7,.row 8,.row 1,.row 1] [(1000000,1)] [] []]),(66715685,[.mk [.ag [xi,xi,xi,.hd 15,.hd 16,.hd 17,.hd 18,.hd 19,xi]] [] [.row 5,.row 7,.row 8,.row 1,.row 1] [(1000000,1)] [] []])] N (.c (zaN N)<|.nil) (.c (mY N)<|.c (mh N)<|.nil)
def tp:bq:=⟨[.st 10,.st 16,ci,.c (.sl 6)],[.st 16,ci],λa=>zc7 N a.1 a.2.1 a.2.2.1 a.2.2.2.1⟩
def ua:eP 26 (tp N):=tg [] [] [] N (.c (zaN N)<|.c (zeT N)<|.c (xN N)<|.c (vW N)<|.c (uO N)<|.c (rC N)<|.c (mM N)<|.nil) .nil
def pC:bq:=⟨[.st 9],[cb],λa=>zej N a.1⟩
def pW:eP 5 (pC N):=tg [] [(254,k9 [.r 52 cb]),(4090,k9 [.r 58 ci,.h 8 0 hi,.h 8 1 hi,.h 8 2 hi,.h 8 3 (hl 5),.h 8 4 (hl 7),.h 8 5 (hl 8),.h 8 6 (hl 1),.h 8 7 (hl 1),.h 8 8 hi]),(1047142,k9 [.r 109 cb]),(8377146,k9 [.r 113 ci])] [(1966108,[gA [.p (.k j7),.v cb] 0,.mk [.p (.pt 1 0 27),.v cb] [] [g7 2 3 4,.cells [xi,.hd 5],.cells [xl 0,.mr 6],.row 1,.row 5,.mp 7 true] [] [] []]),(8257576,[.mk [.v (.st 15),.v ci] [.h 1 25 (.hd 4),.h 1 26 (xi),.h 2 1 (.hd 5),.h 3 0 (xl 0),.w 4 1,.w 5 5,.m 6 7 true] [] [(1000000,1)] [] []]),(33292337,[gA [.v (.st 16)] 2]),(134086806,[gA [.v (.st 16)] 2])] N (.c (iP N)<|.c (lc N)<|.c (zaN N)<|.c (zee N)<|.c (ua N)<|.c (xc N)<|.c (zeT N)<|.c (iU N)<|.c (jP N)<|.c (uv N)<|.nil) (.c (zfs N)<|.c (iu N)<|.c (za3 N)<|.nil)
def lO:bq:=⟨[.st 27,.st 26],[.st 27],λa=>zfq N a.1 a.2.1⟩
def my:eP 117 (lO N):=tg [(22,26)] [] [] N .nil .nil
def qH:bq:=⟨[.st 10,.st 16],[.st 27],λa=>kE N a.1 a.2.1⟩
def qP:eP 53 (qH N):=tg [] [(58,k9 [.r 6 ci,.h 3 0 (hl 0),.h 3 1 (hl 2),.h 3 2 (hl 3),.h 3 3 hi,.h 3 4 hi,.h 3 5 hi,.h 3 6 hi,.h 3 7 hi,.h 3 8 hi,.h 3 9 hi,.h 3 10 hi,.h 3 11 hi,.h 3 12 hi,.h 3 13 hi,.h 3 14 hi,.h 3 15 hi,.h 3 16 hi,.h 3 17 hi,.h 3 18 hi,.h 3 19 (hl 26),.h 3 20 (hl 8)])] [] N (.c (zaN N)<|.c (my N)<|.nil) .nil
def uE:bq:=⟨[.st 10,.st 5],[.st 28],λa=>oX N a.1 a.2.1⟩
def vD:eP 129 (uE N):=tg [] [] [] N .nil .nil
def lR:dr:=⟨.mk [.p (.hd 0),.v ci] [] [.row 1] [] [] [],[.mk [.v (.c (.sl 1))] [] [] [(65,1)] [(58,k9 [.r 5 (.c (.sl 1)),.r 6 ci]),(233,k9 [.r 5 (.c (.sl 1))]),(7460,k9 [.r 7 ci]),(7462,k9 [.r 54 cb]),(29840,k9 [.r 29 cb])] []],λ(a,b)=>zcb N a b⟩
def lY:f9 238 (lR N):=og (g:=238) N .nil .nil
def ke:bq:=⟨[.st 27],[.c (.sl 1)],λa=>zbk N a.1⟩
def zdJ:eP 190 (ke N):=tg [(8,1),(23,1),(32,1),(48,1),(57,1)] [(58,⟨[.r 4 ci,.w 1 1],[(3,1)],[],[]⟩),(122,⟨[.r 5 ci,.w 1 1],[(3,1)],[],[]⟩)] [(4063294,[gA [.v (.c (.sl 1))] 0])] N .nil (.c (lY N)<|.nil)
def ki:bq:=⟨[.st 27,ci,ci],[.st 0],λa=>zbT N a.1 a.2.1 a.2.2.1⟩
def kz:eP 279 (ki N):=tg [] [(58,k9 [.r 8 ci,.h 2 0 hi,.h 2 1 hi,.h 2 2 hi,.h 2 3 hi]),(233,k9 [.h 2 0 hi,.h 2 1 hi,.h 2 2 hi,.h 2 3 hi])] [] N (.c (zdZ N)<|.c (zen N)<|.c (zcA N)<|.nil) .nil
def kN:bq:=⟨[.st 27,ci,ci],[.st 0,cb],λa=>zbv N a.1 a.2.1 a.2.2.1⟩
def kS:eP 239 (kN N):=tg [] [] [] N (.c (kz N)<|.c (zee N)<|.c (zcn N)<|.c (zfj N)<|.nil) .nil
def xV:bq:=⟨[ci,ci],[ci],λa=>zcl N a.1 a.2.1⟩
def xY:eP 280 (xV N):=tg [] [] [] N .nil .nil
def tY:bq:=⟨[.st 0,.st 0],[.st 0],λa=>zc6 N a.1 a.2.1⟩
def tI:eP 240 (tY N):=tg [] [] [] N (.c (xY N)<|.nil) .nil
def vf:bq:=⟨[.c (.sl 0),.c (.sl 1),.st 0],[ci],λa=>zeF N a.1 a.2.1 a.2.2.1⟩
def uD:eP 281 (vf N):=tg [] [(58,k9 [.r 7 ci,.r 8 ci]),(233,k9 [.r 7 ci]),(932,k9 [.r 28 cb])] [] N (.c (zey N)<|.nil) .nil
def lU:dr:=⟨.mk [.p (.hd 0),.v (.c (.sl 1)),.v ci,.v (.st 0)] [] [.row 0] [] [] [],[.mk [.v (.c (.sl 6)),.v cb] [] [] [(71,6)] [(6,k9 [.r 23 cb]),(250,⟨[.r 11 ci,.r 12 ci,.w 2 6],[(10,2)],[(10,6)],[]⟩),(1001,⟨[.r 11 ci,.w 2 6],[(10,2)],[],[]⟩),(8008,k9 [.r 48 cb]),(16019,k9 [.r 13 ci]),(32039,⟨[.w 2 6],[(10,2)],[],[]⟩)] []],λ(a,b,d,e)=>zca N a b d e⟩
def mq:f9 241 (lU N):=og (g:=241) N (.c (zey N)<|.c (uD N)<|.nil) .nil
def kT:bq:=⟨[.st 27,.st 28,ci],[.c (.sl 6),cb],λa=>VO N a.1 a.2.1 a.2.2.1⟩
def kM:eP 191 (kT N):=tg [(103,0)] [(250,⟨[.r 10 ci,.w 2 0],[(9,2)],[(9,0)],[]⟩),(64074,k9 [.r 13 ci,.h 3 0 hi,.h 3 1 hi,.h 3 2 hi,.h 3 3 hi]),(256297,k9 [.h 3 0 hi,.h 3 1 hi,.h 3 2 hi,.h 3 3 hi]),(1025188,k9 [.r 87 cb])] [(8257653,[gA [.v (.c (.sl 6)),.v cb] 0])] N (.c (zdJ N)<|.c (kS N)<|.c (tI N)<|.nil) (.c (mq N)<|.nil)
def im:bq:=⟨[.st 27,.st 28],[.st 14,cb],λa=>zaF N a.1 a.2.1⟩
def ie:eP 128 (im N):=tg [] [(58,k9 [.r 7 ci])] [] N (.c (zdJ N)<|.c (kM N)<|.nil) .nil
def p_:bq:=⟨[.st 10,.st 27,.st 5],[.st 14,cb],λa=>iZ N a.1 a.2.1 a.2.2.1⟩
def pA:eP 66 (p_ N):=tg [] [(7,k9 [.h 4 0 hi])] [] N (.c (vD N)<|.c (ie N)<|.nil) .nil
def sD:bq:=⟨[.st 10,.st 16,ci],[ci,cb],λa=>zfo N a.1 a.2.1 a.2.2.1⟩
def rH:eP 19 (sD N):=tg [] [] [] N (.c (zaN N)<|.c (qP N)<|.c (pA N)<|.nil) .nil
def pU:bq:=⟨[.st 9],[cb],λa=>tR N a.1⟩
def Hs:eP 4 (pU N):=tg [] [] [(1966104,[gA [.p (.k j7),.v cb] 0,.mk [.p (.pt 1 0 27),.v cb] [] [g7 2 3 4,.cells [xi,.hd 5],.cells [xl 0,.mr 6],.row 1,.row 5,.mp 7 true] [] [] []]),(8257572,[.mk [.v (.st 15),.v ci] [.h 1 25 (.hd 4),.h 1 26 (xi),.h 2 1 (.hd 5),.h 3 0 (xl 0),.w 4 1,.w 5 5,.m 6 7 true] [] [(1000000,1)] [] []]),(134086720,[gA [.v (.st 16)] 2])] N (.c (iP N)<|.c (lc N)<|.c (rH N)<|.nil) (.c (zfs N)<|.c (iu N)<|.c (za3 N)<|.nil)
end Go.Abs
end
end
section
end
