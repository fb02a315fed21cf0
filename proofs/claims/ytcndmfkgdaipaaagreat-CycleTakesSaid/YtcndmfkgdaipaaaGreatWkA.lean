/- Lemmas. -/
import Derived.Test.YtcndmfkgdaipaaaGreatTyPure
import Derived.Test.YtcndmfkgdaipaaaGreatProg
import Derived.Test.YtcndmfkgdaipaaaGreatTyPrim
import Derived.KernelRfl
set_option linter.all false
section
set_option maxRecDepth 100000
noncomputable section
namespace Go.Abs
open Go.Proofs
variable[Gl]
abbrev ci:dr:=.c (.int .i64)
abbrev cb:dr:=.c .bool
abbrev xi:CP:=.c (.int .i64)
abbrev xb:CP:=.c .bool
abbrev xl(n:Nat):CP:=.c (.sl n)
abbrev xn:CP:=.k (.c (.lit (.slice none 0 0)))
abbrev hi:It:=.cc (.int .i64)
abbrev hb:It:=.cc .bool
abbrev hl(n:Nat):It:=.cc (.sl n)
def dD:Tryz.prog.follows .mixedOrders=true:=by kernel_rfl
def KB:dh:=ID 120 182 1 (λk=>k)
def KB_ok:dh.ok Tryz.prog KB:=Pk Tryz.Tz (λk=>rfl)
theorem tg{g:Nat}{S:sC}{s:bJ}(H:List (Nat×Nat))(J:List (Nat×JH))(C:List (Nat×List CT))(N:Nat)(b:ff Tryz.prog S){O:NC}(d:ue Tryz.prog O)(h:∀a,tG Tryz.prog g S O KB H J C s.ins s.out N a=s.f a:=by intro _;kernel_rfl):bQ Tryz.prog g s:=tG_ok dD b d KB_ok h
theorem og{g:Nat}{S:sC}{O:NC}{s:dz}(N:Nat)(a:ff Tryz.prog S)(b:ue Tryz.prog O)(d:aU Tryz.prog g=true:=by kernel_rfl)(h:∀x,oG Tryz.prog g S O KB N s x=s.f x:=by intro _;kernel_rfl):de Tryz.prog g s:=oG_ok dD a b KB_ok d h
abbrev ff.c:=@ff.cons
abbrev ue.c:=@ue.cons
abbrev eP(g:Nat)(s:bJ):=bQ Tryz.prog g s
abbrev f9(g:Nat)(s:dz):=de Tryz.prog g s
abbrev k9(l:List Pl):JH:=⟨l,[],[],[]⟩
abbrev g8:D:=.c (.lit (.int .i64 0))
abbrev j7:D:=.c (.lit (.pointer none))
abbrev k8:D:=.c (.lit (.slice none 0 0))
abbrev gA(l:List RO)(n:Nat):CT:=.mk l [] [] [(1000000,n)] [] []
abbrev g6(l:List RO):CT:=.mk l [] [] [] [] []
abbrev g7(a b c:Nat):NB:=.cells [.pt a 0 2,.pt b 0 2,xl 0,xl 2,xl 3,xi,xi,xi,xi,xi,xi,xi,xi,xi,xi,xi,xi,xi,xi,xi,xi,xi,xi,xl 8,xl 1,.hd c,xi]
end Go.Abs
end
end
section
set_option maxRecDepth 100000
noncomputable section
namespace Go.Abs
open Go.Proofs
variable[Gl](N:Nat)
def rQ:bJ:=⟨[],[.st 10],λa=>fK N⟩
def sD:eP 40 (rQ N):=clo_ok (P:=Tryz.prog) (g:=40) (out:=[.st 10]) (λa=>fK N) dD (by kernel_rfl)
def Dt:bJ:=⟨[.st 0],[.st 11],λa=>gg N a.1⟩
def ub:eP 209 (Dt N):=tg [] [] [] N .nil .nil
def Jr:bJ:=⟨[.st 0],[cb],λa=>NA N a.1⟩
def VX:eP 163 (Jr N):=tg [] [(26,k9 [.r 7 ci])] [] N (.c (ub N)<|.nil) .nil
def xE:bJ:=⟨[.st 10],[cb],λa=>fH N a.1⟩
def xz:eP 243 (xE N):=tg [] [(58,k9 [.r 18 ci])] [] N (.c (VX N)<|.nil) .nil
def zC:bJ:=⟨[.c (.sl 1),ci],[cb],λa=>zew N a.1 a.2.1⟩
def ol:eP 282 (zC N):=tg [] [(58,k9 [.r 5 ci,.r 10 ci])] [] N .nil .nil
def xH:bJ:=⟨[.st 10],[cb],λa=>fB N a.1⟩
def xA:eP 245 (xH N):=tg [] [(58,k9 [.r 18 ci]),(3737,k9 [.r 32 cb])] [] N (.c (ol N)<|.nil) .nil
def v_:bJ:=⟨[.st 10],[cb],λa=>zeL N a.1⟩
def wA:eP 248 (v_ N):=tg [] [(58,k9 [.r 20 ci]),(7474,k9 [.r 42 cb]),(59802,k9 [.r 50 ci])] [] N (.c (ol N)<|.nil) .nil
def uH:bJ:=⟨[.st 12],[cb],λa=>zen N a.1⟩
def uk:eP 250 (uH N):=tg [] [(26,k9 [.r 14 ci])] [] N .nil .nil
def Ip:bJ:=⟨[.st 10],[.c .str],λa=>Ay N a.1⟩
def JI:eP 130 (Ip N):=tg [] [(26,⟨[],[],[(1000003,40)],[]⟩)] [(786438,[.mk [] [] [] [(1000002,0),(43,1000001)] [] [(393225,[.mk [] [] [] [(1000002,0)] [] []]),(393232,[.mk [] [] [] [(1000002,0)] [] []]),(393237,[.mk [] [] [] [(1000002,0)] [] []]),(393240,[.mk [] [] [] [(1000002,0)] [] []]),(393243,[.mk [] [] [] [(1000002,0)] [] []]),(393246,[.mk [] [] [] [(1000002,0)] [] []]),(393249,[.mk [] [] [] [(1000002,0)] [] []]),(393252,[.mk [] [] [] [(1000002,0)] [] []]),(393255,[.mk [] [] [] [(1000002,0)] [] []]),(393258,[.mk [] [] [] [(1000002,0)] [] []])]]),(221380622,[g6 [.v cb]])] N (.c (xz N)<|.c (xA N)<|.c (wA N)<|.c (uk N)<|.nil) .nil
def FG:bJ:=⟨[.st 10],[cb],λa=>OW N a.1⟩
def ZC:eP 67 (FG N):=tg [] [] [] N (.c (JI N)<|.nil) .nil
def yc:dz:=⟨g6 [.v ci],[g6 [.p (.k j7),.p (.k (.c (.lit (.int .i64 2))))],.mk [.p (.pt 0 0 2),.p (.k g8)] [] [.cells [xi,xn]] [] [] []],λa=>zd8 N a⟩
def ng:f9 96 (yc N):=og (g:=96) N .nil .nil
def ie:bJ:=⟨[.c (.sl 0)],[.c (.sl 0)],λa=>zaQ N a.1⟩
def zbI:eP 152 (ie N):=uf (i:=0) (sz:=32) (z:=[g8,g8,g8,g8]) (fn:=Tryz.f152) dD (by kernel_rfl) (by kernel_rfl) (by kernel_rfl) rfl
def wD:dz:=⟨g6 [.v (.st 10)],[.mk [.p (.k j7),.p (.k (.c (.lit (.int .i64 2))))] [] [] [(10,15)] [] [],.mk [.p (.pt 0 0 2),.p (.k g8)] [] [.cells [xl 0,.mr 1],.mp 7 true] [] [] []],λa=>zcD N a⟩
def zeX:f9 97 (wD N):=og (g:=97) N (.c (ZC N)<|.c (zbI N)<|.nil) .nil
def jp:dz:=⟨g6 [.v (.c (.sl 2))],[.mk [.p (.hd 0)] [] [.row 2] [] [] []],λx=>zck N x⟩
def jb:f9 153 (jp N):=jm (i:=2) (sz:=24) (z:=[k8]) (fn:=Tryz.f153) dD (by kernel_rfl) (by kernel_rfl) (by kernel_rfl) rfl
def oH:bJ:=⟨[.c (.sl 1)],[.c (.sl 1)],λa=>za0 N a.1⟩
def zdb:eP 58 (oH N):=uf (i:=1) (sz:=8) (z:=[g8]) (fn:=Tryz.f58) dD (by kernel_rfl) (by kernel_rfl) (by kernel_rfl) rfl
def zdQ:dz:=⟨g6 [.v (.c (.sl 3))],[.mk [.p (.hd 0)] [] [.row 3] [] [] []],λx=>zbi N x⟩
def zdN:f9 154 (zdQ N):=jm (i:=3) (sz:=64) (z:=[g8,k8,g8,g8,g8,g8]) (fn:=Tryz.f154) dD (by kernel_rfl) (by kernel_rfl) (by kernel_rfl) rfl
def zk:bJ:=⟨[.st 10],[.st 10],λa=>zcT N a.1⟩
def gT:eP 98 (zk N):=tg [] [(122,⟨[.r 16 ci,.w 2 2],[],[],[(0,1,2)]⟩),(506,⟨[.r 37 ci,.w 3 3],[],[],[(0,2,3)]⟩)] [(917515,[.mk [.p (.hd 2)] [] [.row 2] [(1000000,0)] [] []]),(4063264,[.mk [.p (.hd 3)] [] [.row 3] [(1000000,1)] [] []])] N (.c (zbI N)<|.c (zdb N)<|.nil) (.c (jb N)<|.c (zdN N)<|.nil)
def Cf:bJ:=⟨[ci,ci,ci],[ci],λa=>ZR N a.1 a.2.1 a.2.2.1⟩
def fG:eP 155 (Cf N):=tg [] [] [] N .nil .nil
def JG:bJ:=⟨[ci],[.c (.sl 1)],λa=>pA N a.1⟩
def yJ:eP 99 (JG N):=tg [(5,1)] [] [] N (.c (fG N)<|.nil) .nil
def yh:dz:=⟨g6 [.v (.st 10)],[.mk [.p (.k j7),.p (.k (.c (.lit (.int .i64 2))))] [] [] [(37,1)] [(3298534883343,⟨[],[],[(1049601,5)],[]⟩)] [(917517,[gA [.p (.k j7),.p (.k (.c (.lit (.int .i64 2))))] 0,.mk [.p (.pt 1 0 2),.p (.k g8)] [] [.cells [xi,xn]] [] [] []]),(4063253,[gA [.p (.k j7),.p (.k (.c (.lit (.int .i64 2))))] 1,.mk [.p (.pt 3 0 2),.p (.k g8)] [] [.cells [xl 0,.mr 4],.mp 7 true] [] [] []])],.mk [.p (.pt 0 0 27),.p (.k g8)] [] [g7 1 2 3,.cells [xi,.hd 4],.cells [xl 0,.mr 5],.row 1,.row 5,.mp 7 true] [] [] []],λa=>rI N a⟩
def xC:f9 39 (yh N):=og (g:=39) N (.c (ZC N)<|.c (gT N)<|.c (yJ N)<|.nil) (.c (ng N)<|.c (zeX N)<|.nil)
def oO:dz:=⟨g6 [.p (.k j7),.v (.st 5)],[g6 [.v ci]],λx=>iO N⟩
def pa:f9 87 (oO N):=og (g:=87) N .nil .nil
def mE:dz:=⟨g6 [.p (.k j7)],[g6 [.v (.st 14)]],λx=>fX N⟩
def lP:f9 15 (mE N):=og (g:=15) N .nil .nil
def Lh:bJ:=⟨[ci],[cb],λa=>TG N a.1⟩
def zeY:eP 90 (Lh N):=tg [] [] [] N .nil .nil
def vO:dz:=⟨g6 [.p (.k j7)],[.mk [.v cb] [] [] [] [(26,k9 [.r 9 ci])] [(786438,[gA [.v (.st 14)] 0])]],λx=>pC N⟩
def vR:f9 30 (vO N):=og (g:=30) N (.c (zeY N)<|.nil) (.c (lP N)<|.nil)
def yq:dz:=⟨g6 [.p (.k j7)],[g6 [.v (.st 16),.v ci]],λx=>rG N⟩
def yp:f9 29 (yq N):=og (g:=29) N .nil .nil
def FB:bJ:=⟨[ci,ci,ci],[cb],λa=>NI N a.1 a.2.1 a.2.2.1⟩
def oJ:eP 160 (FB N):=tg [] [] [] N .nil .nil
def zb:bJ:=⟨[.st 5],[cb],λa=>gG N a.1⟩
def zj:eP 193 (zb N):=tg [] [(58,k9 [.r 12 ci])] [] N (.c (oJ N)<|.nil) .nil
def Ii:bJ:=⟨[ci],[.c .str],λa=>vi N a.1⟩
def IY:eP 252 (Ii N):=tg [] [] [] N .nil .nil
def FH:bJ:=⟨[ci],[cb],λa=>iU N a.1⟩
def xo:eP 208 (FH N):=tg [] [] [] N .nil .nil
def Iy:bJ:=⟨[ci],[cb],λa=>Vk N a.1⟩
def gS:eP 134 (Iy N):=tg [] [] [] N .nil .nil
def zA:bJ:=⟨[.st 5],[cb],λa=>gI N a.1⟩
def zt:eP 194 (zA N):=tg [] [(51,k9 [.r 8 cb]),(207,k9 [.r 17 cb])] [] N (.c (IY N)<|.c (gS N)<|.c (xo N)<|.nil) .nil
def Jc:bJ:=⟨[.st 5],[cb],λa=>ZV N a.1⟩
def ze6:eP 132 (Jc N):=tg [] [] [] N (.c (oJ N)<|.c (VX N)<|.c (zj N)<|.c (zt N)<|.nil) .nil
def gB:bJ:=⟨[.c (.sl 4)],[.c (.sl 4)],λa=>zaD N a.1⟩
def zbH:eP 162 (gB N):=uf (i:=4) (sz:=16) (z:=[g8,.c (.lit (.bool false))]) (fn:=Tryz.f162) dD (by kernel_rfl) (by kernel_rfl) (by kernel_rfl) rfl
def HK:bJ:=⟨[.st 5],[.st 5],λa=>jr N a.1⟩
def lm:eP 119 (HK N):=tg [] [] [] N (.c (zbH N)<|.nil) .nil
def nA:dz:=⟨.mk [.p (.pt 0 0 2),.v ci] [] [.cells [xi,.hd 1],.row 5] [] [] [],[.mk [.v ci,.v cb] [] [] [] [] [(393229,[.mk [.v ci] [] [] [] [(28,k9 [.r 5 ci,.r 6 ci])] [(59375636,[g6 [.v cb]])]])]],λ(a,b,_)=>zaN N a b⟩
def zcU:f9 156 (nA N):=og (g:=156) N .nil .nil
def zd2:dz:=⟨.mk [.p (.hd 0),.v ci,.p (.hd 1)] [] [.row 5,.row 5] [] [] [],[.mk [.p (.hd 0)] [.w 0 5] [] [] [] []],λ(a,b,d)=>zbl N a b d⟩
def zdY:f9 167 (zd2 N):=og (g:=167) N .nil .nil
def oM:dz:=⟨.mk [.p (.pt 0 0 2),.v (.st 5)] [] [.cells [xi,.hd 1],.row 5] [] [] [],[.mk [.v ci] [.h 0 1 (.hd 1),.w 1 5] [] [(38,5)] [] [(1966096,[gA [.v ci,.v cb] 0]),(16646183,[.mk [.p (.hd 1)] [.w 1 5] [] [(1000000,1)] [] []])]],λ(a,b,d)=>zbX N a b d⟩
def ze5:f9 106 (oM N):=og (g:=106) N (.c (ze6 N)<|.c (lm N)<|.nil) (.c (zcU N)<|.c (zdY N)<|.nil)
def DU:bJ:=⟨[ci],[ci],λa=>kg N a.1⟩
def ut:eP 104 (DU N):=tg [] [] [] N .nil .nil
def mQ:dz:=⟨.mk [.p (.pt 0 0 27),.v ci] [] [g7 1 2 3,.cells [xi,.hd 4],.cells [xl 0,.mr 5],.row 1,.row 5,.mp 7 true] [] [] [],[.mk [] [.w 3 1,.h 0 25 (.hd 3)] [] [] [] []],λ(a,_,_,b,_,_,_,_,_,_,_,_,_,_,_,_,_,_,_,_,_,_,_,_,_,_,_,_,_,_)=>zbe N a b⟩
def zeq:f9 150 (mQ N):=og (g:=150) N (.c (ut N)<|.nil) .nil
def oU:dz:=⟨.mk [.p (.pt 0 0 27),.v (.st 5)] [] [g7 1 2 3,.cells [xi,.hd 4],.cells [xl 0,.mr 5],.row 1,.row 5,.mp 7 true] [] [] [],[.mk [.v ci] [.h 1 1 (.hd 4),.w 4 5,.h 0 21 (xi),.h 0 25 (.hd 3),.w 3 1] [] [] [] [(8126509,[.mk [.v ci] [.h 1 1 (.hd 4),.w 4 5] [] [(1000000,0)] [] []]),(16646203,[.mk [] [.w 3 1,.h 0 25 (.hd 3)] [] [(1000000,1)] [] []])]],λ(e,f,_,g,_,_,_,_,_,_,_,_,_,_,_,a,_,_,_,_,_,_,_,b,_,_,_,_,d,_)=>iK N e f g a b d⟩
def oN:f9 87 (oU N):=og (g:=87) N (.c (ze6 N)<|.nil) (.c (ze5 N)<|.c (zeq N)<|.nil)
def ze2:dz:=⟨.mk [.p (.hd 0)] [] [.row 5] [] [] [],[.mk [.p (.hd 1)] [] [.row 5] [] [] []],λx=>zbE N x⟩
def zeV:f9 118 (ze2 N):=Nj (ii:=5) (sz:=152) (z:=[g8,g8,g8,g8,g8,g8,g8,g8,g8,k8,g8,.c (.lit (.bool false)),.c (.lit (.bool false)),g8,g8,g8,g8,g8]) (fn:=Tryz.f118) dD (by kernel_rfl) (by kernel_rfl) (by kernel_rfl) rfl
def oB:dz:=⟨.mk [.p (.pt 0 0 2)] [] [.cells [xi,.hd 1],.row 5] [] [] [],[.mk [.v (.c (.sl 5))] [] [] [] [(122,⟨[.r 15 ci,.w 2 5],[(3,2),(13,2)],[],[]⟩)] [(917516,[.mk [.p (.hd 2)] [] [.row 5] [(1000000,0)] [] []])]],λ(a,_)=>zcG N a⟩
def oK:f9 55 (oB N):=og (g:=55) N (.c (lm N)<|.nil) (.c (zeV N)<|.nil)
def zex:bJ:=⟨[.c (.sl 6)],[.c (.sl 6)],λa=>zbu N a.1⟩
def zeD:eP 183 (zex N):=uf (i:=6) (sz:=16) (z:=[g8,g8]) (fn:=Tryz.f183) dD (by kernel_rfl) (by kernel_rfl) (by kernel_rfl) rfl
def Fe:bJ:=⟨[.st 7],[.st 7],λa=>iV N a.1⟩
def wY:eP 122 (Fe N):=tg [] [] [] N (.c (zeD N)<|.nil) .nil
def my:dz:=⟨.mk [.p (.pt 0 0 2)] [] [.cells [xl 0,.mr 1],.mp 7 true] [] [] [],[.mk [.v (.c (.sl 7))] [] [] [(27,7)] [(122,⟨[.r 15 ci,.w 3 7],[(3,3)],[(3,7)],[]⟩)] [(3932172,[.mk [] [] [] [(1000002,0)] [] []]),(3932173,[gA [.v (.c (.sl 1))] 999999])]],λ(a,_)=>a_ N a⟩
def lQ:f9 56 (my N):=og (g:=56) N (.c (wY N)<|.nil) .nil
def zdO:bJ:=⟨[.c (.sl 8)],[.c (.sl 8)],λa=>zaV N a.1⟩
def zdU:eP 57 (zdO N):=uf (i:=8) (sz:=32) (z:=[g8,g8,g8,g8]) (fn:=Tryz.f57) dD (by kernel_rfl) (by kernel_rfl) (by kernel_rfl) rfl
def kX:dz:=⟨.mk [.p (.hd 0)] [] [.row 1] [] [] [],[.mk [.p (.hd 1)] [] [.row 1] [] [] []],λx=>zb3 N x⟩
def lc:f9 58 (kX N):=Nj (ii:=1) (sz:=8) (z:=[g8]) (fn:=Tryz.f58) dD (by kernel_rfl) (by kernel_rfl) (by kernel_rfl) rfl
def mC:dz:=⟨.mk [.p (.pt 0 0 27)] [] [g7 1 2 3,.cells [xi,.hd 4],.cells [xl 0,.mr 5],.row 1,.row 5,.mp 7 true] [] [] [],[.mk [.v (.st 14)] [] [] [] [] [(917526,[gA [.v (.c (.sl 5))] 0]),(917531,[gA [.v (.c (.sl 7))] 1]),(917547,[.mk [.p (.hd 7)] [] [.row 1] [(1000000,2)] [] []])]],λ(h,i,j,_,_,_,_,_,_,_,_,_,_,_,_,_,_,_,_,_,_,a,b,d,e,f,g,_,_)=>Th N h i j a b d e f g⟩
def zbg:f9 15 (mC N):=og (g:=15) N (.c (zdU N)<|.c (zdb N)<|.nil) (.c (oK N)<|.c (lQ N)<|.c (lc N)<|.nil)
def wj:dz:=⟨.mk [.p (.pt 0 0 27)] [] [g7 1 2 3,.cells [xi,.hd 4],.cells [xl 0,.mr 5],.row 1,.row 5,.mp 7 true] [] [] [],[.mk [.v cb] [] [] [] [(26,k9 [.r 9 ci])] [(786438,[gA [.v (.st 14)] 0])]],λ(h,i,j,_,_,_,_,_,_,_,_,_,_,_,_,_,_,_,_,_,_,a,b,d,e,f,g,_,_)=>iX N h i j a b d e f g⟩
def vS:f9 30 (wj N):=og (g:=30) N (.c (zeY N)<|.nil) (.c (zbg N)<|.nil)
def nr:dz:=⟨.mk [.p (.pt 0 0 27)] [] [g7 1 2 3,.cells [xi,.hd 4],.cells [xl 0,.mr 5],.row 1,.row 5,.mp 7 true] [] [] [],[g6 [.v (.st 10)]],λ(_,_,_,m,n,o,p,q,r,s,a,b,d,e,f,g,h,i,j,k,l,_,_,_,_,_,_,_,_)=>zaM N m n o p q r s a b d e f g h i j k l⟩
def za7:f9 89 (nr N):=og (g:=89) N (.c (gT N)<|.nil) .nil
def oV:dz:=⟨.mk [.p (.pt 0 0 2),.v ci] [] [.cells [xi,.hd 1],.row 5] [] [] [],[.mk [.v (.st 5),.v cb] [] [] [] [] [(917518,[gA [.v ci,.v cb] 0])]],λ(a,b,_)=>zbW N a b⟩
def ze4:f9 100 (oV N):=og (g:=100) N (.c (lm N)<|.nil) (.c (zcU N)<|.nil)
def oQ:dz:=⟨.mk [.p (.pt 0 0 27),.v ci] [] [g7 1 2 3,.cells [xi,.hd 4],.cells [xl 0,.mr 5],.row 1,.row 5,.mp 7 true] [] [] [],[.mk [.v (.st 5),.v cb] [] [] [] [] [(917518,[gA [.v (.st 5),.v cb] 0])]],λ(_,a,_,b,_,_,_,_,_,_,_,_,_,_,_,_,_,_,_,_,_,_,_,_,_,_,_,_,_,_)=>zcQ N a b⟩
def pg:f9 52 (oQ N):=og (g:=52) N .nil (.c (ze4 N)<|.nil)
end Go.Abs
end
end
section
set_option maxRecDepth 100000
noncomputable section
namespace Go.Abs
open Go.Proofs
variable[Gl](N:Nat)
def IU:bJ:=⟨[.st 5],[ci],λa=>ve N a.1⟩
def IX:eP 124 (IU N):=tg [] [(6,k9 [.r 11 cb])] [] N (.c (ze6 N)<|.c (zeY N)<|.nil) .nil
def Fb:bJ:=⟨[.st 8,ci],[cb],λa=>qY N a.1 a.2.1⟩
def Ff:eP 198 (Fb N):=tg [] [] [] N .nil .nil
def FO:bJ:=⟨[.c (.sl 8),ci,ci,ci],[cb],λa=>fQ N a.1 a.2.1 a.2.2.1 a.2.2.2.1⟩
def xg:eP 138 (FO N):=tg [] [(26,k9 [.r 13 ci])] [] N .nil .nil
def FA:bJ:=⟨[.c (.sl 8),ci],[cb],λa=>mF N a.1 a.2.1⟩
def xp:eP 137 (FA N):=tg [] [(58,k9 [.r 12 ci]),(3737,k9 [.r 47 cb])] [] N (.c (Ff N)<|.c (xg N)<|.nil) .nil
def Eu:bJ:=⟨[.c (.sl 6),ci],[cb],λa=>ze0 N a.1 a.2.1⟩
def gV:eP 157 (Eu N):=tg [] [(58,k9 [.r 5 ci,.r 10 ci])] [] N .nil .nil
def zf:bJ:=⟨[.c (.sl 17),ci,ci],[cb],λa=>gF N a.1 a.2.1 a.2.2.1⟩
def zS:eP 184 (zf N):=tg [] [(26,k9 [.r 11 ci]),(1689,k9 [.r 36 cb])] [] N (.c (gV N)<|.c (VX N)<|.nil) .nil
def Dh:bJ:=⟨[.c (.sl 18)],[cb],λa=>zd5 N a.1⟩
def ij:eP 233 (Dh N):=tg [] [(58,k9 [.r 3 ci,.r 8 ci]),(7474,k9 [.r 26 cb])] [] N (.c (VX N)<|.nil) .nil
def IV:bJ:=⟨[ci,.st 0],[.c (.sl 18),ci],λa=>vq N a.1 a.2.1⟩
def JQ:eP 185 (IV N):=tg [(10,18)] [] [] N (.c (ij N)<|.nil) .nil
def yi:dz:=⟨g6 [.v (.st 0)],[g6 [.ag [.cx,.cx]]],λa=>zc6 N a⟩
def mP:f9 211 (yi N):=og (g:=211) N .nil .nil
def zN:dz:=⟨g6 [.ag [.cx,.cx]],[g6 [.v (.st 0)]],λ(a,b)=>mS N a b⟩
def zL:f9 255 (zN N):=og (g:=255) N .nil .nil
def wv:dz:=⟨g6 [.ag [.cx,.cx]],[.mk [.v (.st 0),.v ci] [] [] [] [] [(393222,[gA [.v (.st 0)] 0])]],λ(a,b)=>zdx N a b⟩
def kK:f9 212 (wv N):=og (g:=212) N (.c (VX N)<|.nil) (.c (zL N)<|.nil)
def JR:bJ:=⟨[.st 0,ci],[.st 0,ci],λa=>pW N a.1 a.2.1⟩
def qF:eP 210 (JR N):=tg [] [] [(4063256,[gA [.ag [.cx,.cx]] 0]),(8257573,[gA [.v (.st 0),.v ci] 1])] N (.c (VX N)<|.nil) (.c (mP N)<|.c (kK N)<|.nil)
def FJ:bJ:=⟨[.c (.sl 18),ci],[ci],λa=>fT N a.1 a.2.1⟩
def zcH:eP 274 (FJ N):=tg [] [] [(393224,[.mk [.v ci] [] [] [] [(28,k9 [.r 5 ci,.r 6 ci])] [(59375636,[g6 [.v cb]])]])] N .nil .nil
def zef:dz:=⟨g6 [.v (.c (.sl 18))],[.mk [.p (.hd 0)] [] [.row 18] [] [] []],λx=>za3 N x⟩
def zbZ:f9 298 (zef N):=jm (i:=18) (sz:=40) (z:=[g8,g8,g8,g8,g8]) (fn:=Tryz.f298) dD (by kernel_rfl) (by kernel_rfl) (by kernel_rfl) rfl
def zbO:dz:=⟨.mk [.p (.hd 0),.v ci,.p (.hd 1)] [] [.row 18,.row 18] [] [] [],[.mk [.p (.hd 0)] [.w 0 18] [] [] [] []],λ(a,b,d)=>zaC N a b d⟩
def zdD:f9 299 (zbO N):=og (g:=299) N .nil .nil
def zd0:dz:=⟨.mk [.p (.hd 0),.v ci,.p (.hd 1)] [] [.row 18,.row 18] [] [] [],[.mk [.p (.hd 0)] [.w 0 18] [] [] [] []],λx=>zaX N x.1 x.2.1 x.2.2⟩
def XC:Go.Shelf.Ren:=⟨λ| 22=>299 | 29=>303 | 30=>304 | n=>n,λ| 24=>254 | 9=>298 | 3=>3 | 4=>4 | 0=>0 | n=>n,λn=>n⟩
def KY:K_ Tryz.prog XC 5 40 "slices.Insert[[]drayage/api.Step,drayage/api.Step]" (.agg #[.int .i64 0,.int .i64 0,.int .i64 0,.int .i64 0,.int .i64 0]):={ mixed:=dD,f22:=Tryz.func299.trans (congrArg some (by kernel_rfl)),ov:=λargs w=>Go.run_callFunc_extern Tryz.func303 (by kernel_rfl) (by kernel_rfl) (by kernel_rfl) (by kernel_rfl) args w,t0:=Tryz.underlying0,t3:=Tryz.underlying3,t4:=Tryz.underlying4,a3:=Tryz.isAgg3,z3:=Tryz.sizeOf3,a4:=Tryz.isAgg4,z4:=Tryz.sizeOf4,z9:=Tryz.sizeOf298,v9:=Tryz.zeroValue298,t24:=Tryz.underlying254,a24:=Tryz.isAgg254,z24:=Tryz.sizeOf254,v24:=Tryz.zeroValue254,i9:=by kernel_rfl }
def zea:f9 299 (zd0 N):=de.or (f1:=(zbO N).f) (f2:=λx=>No (α:=TT 18) x.1 x.2.1 x.2.2) (zdD N) (Ht (ii:=18) KY (by kernel_rfl) (by kernel_rfl) (by kernel_rfl) (by kernel_rfl) (by kernel_rfl))
def Jj:bJ:=⟨[.c (.sl 18),ci],[.c (.sl 18)],λa=>pX N a.1 a.2.1⟩
def lh:eP 273 (Jj N):=tg [(30,18)] [] [(917515,[.mk [.p (.hd 0)] [] [.row 18] [(1000000,0)] [] []]),(4063263,[.mk [.p (.hd 0)] [.w 0 18] [] [(1000000,1)] [] []])] N (.c (zcH N)<|.nil) (.c (zbZ N)<|.c (zea N)<|.nil)
def zbC:dz:=⟨.mk [.p (.hd 0),.v ci,.p (.hd 1)] [] [.row 18,.row 18] [] [] [],[.mk [.p (.hd 0)] [.w 0 18] [] [] [] []],λ(a,b,d)=>zaC N a b d⟩
def zds:f9 299 (zbC N):=og (g:=299) N .nil .nil
def zdR:dz:=⟨.mk [.p (.hd 0),.v ci,.p (.hd 1)] [] [.row 18,.row 18] [] [] [],[.mk [.p (.hd 0)] [.w 0 18] [] [] [] []],λx=>zcc N x.1 x.2.1 x.2.2⟩
def zdV:f9 299 (zdR N):=de.or (f1:=(zbC N).f) (f2:=λx=>No (α:=TT 18) x.1 x.2.1 x.2.2) (zds N) (Ht (ii:=18) KY (by kernel_rfl) (by kernel_rfl) (by kernel_rfl) (by kernel_rfl) (by kernel_rfl))
def xF:dz:=⟨g6 [.v (.c (.sl 18)),.v ci],[.mk [.p (.hd 0)] [] [.row 18] [(30,18)] [] [(917515,[.mk [.p (.hd 0)] [] [.row 18] [(1000000,0)] [] []]),(4063263,[.mk [.p (.hd 0)] [.w 0 18] [] [(1000000,1)] [] []])]],λ(a,b)=>kC N a b⟩
def xW:f9 273 (xF N):=og (g:=273) N (.c (zcH N)<|.nil) (.c (zbZ N)<|.c (zdV N)<|.nil)
def OC:bJ:=⟨[.st 0,.st 0],[.st 0,ci],λa=>z_ N a.1 a.2.1⟩
def EA:eP 165 (OC N):=tg [] [(6,k9 [.r 15 cb])] [(917522,[gA [.ag [.cx,.cx]] 0]),(917524,[gA [.ag [.cx,.cx]] 0]),(1966112,[gA [.v (.st 0),.v ci] 1])] N (.c (VX N)<|.nil) (.c (mP N)<|.c (kK N)<|.nil)
def DC:bJ:=⟨[.c (.sl 18)],[.c (.sl 18)],λa=>nG N a.1⟩
def Dg:eP 275 (DC N):=tg [(13,18),(36,18)] [(122,⟨[.r 17 ci,.w 0 18],[(3,0)],[],[]⟩),(979,⟨[.w 0 18],[(3,0)],[],[]⟩)] [] N (.c (ij N)<|.nil) .nil
def oS:bJ:=⟨[.c (.sl 18),ci,ci,.st 0,.k 165],[.c (.sl 18),ci],λa=>zd7 N a.1 a.2.1 a.2.2.1 a.2.2.2.1⟩
def pc:eP 234 (oS N):=tg [] [(6,k9 [.r 40 cb]),(62,⟨[],[],[(12,18)],[]⟩),(122,⟨[.r 13 ci,.w 1 18],[(12,1)],[],[]⟩)] [(917549,[.mk [.p (.hd 1)] [] [.row 18] [(1000000,0)] [] []])] N (.c (lh N)<|.c (zcH N)<|.c (EA N)<|.c (Dg N)<|.c (ij N)<|.c (VX N)<|.nil) (.c (xW N)<|.nil)
def FQ:bJ:=⟨[.c (.sl 18),ci,ci,.st 0],[.c (.sl 18),ci],λa=>lY N a.1 a.2.1 a.2.2.1 a.2.2.2.1⟩
def oZ:eP 186 (FQ N):=tg [] [] [] N (.c (pc N)<|.nil) .nil
def mw:dz:=⟨.mk [.p (.pt 0 0 3),.v ci,.v ci,.v (.c (.sl 6)),.v (.st 0)] [] [.cells [xi,.hd 1,.hd 2],.row 2,.row 19] [] [] [],[.mk [.v ci] [.h 0 2 (.hd 2),.w 2 19] [] [(20,19)] [(58,⟨[.r 23 ci,.w 4 19],[(11,4)],[],[]⟩),(122,⟨[.r 62 ci,.w 2 19],[],[],[(0,2,2)]⟩)] []],λ(_,a,b,d,e,f,_)=>zbd N a b d e f⟩
def mY:f9 179 (mw N):=og (g:=179) N (.c (qF N)<|.c (oZ N)<|.nil) .nil
def yW:dz:=⟨.mk [.v (.st 10),.v ci,.p (.hd 0),.v (.c (.sl 8))] [] [.row 17] [] [] [],[.mk [.p (.k j7),.v ci] [] [] [(69,2),(96,19)] [(6,k9 [.r 51 cb]),(122,⟨[.r 58 ci,.w 3 2],[],[(1050625,2)],[(2,1,3)]⟩),(250,⟨[.r 77 ci,.w 4 19],[],[(1050626,19)],[(2,2,4)]⟩),(506,⟨[.r 103 ci,.w 4 19],[],[],[(2,2,4)]⟩),(1018,⟨[.r 122 ci,.w 4 19],[],[],[(2,2,4)]⟩),(8147,⟨[.w 4 19],[],[],[(2,2,4)]⟩)] [(4247912563,[.mk [.v ci] [.h 2 2 (.hd 4),.w 4 19] [] [(1000000,0)] [] []])],.mk [.p (.pt 1 0 3),.p (.k g8)] [] [.cells [xi,xl 2,.hd 2],.row 19] [] [] []],λ(a,b,d,e)=>zeE N a b d e⟩
def zH:f9 125 (yW N):=og (g:=125) N (.c (zdb N)<|.c (JQ N)<|.c (oZ N)<|.c (ZC N)<|.c (xp N)<|.c (zS N)<|.nil) (.c (mY N)<|.nil)
def rk:dz:=⟨.mk [.p (.pt 0 0 27)] [] [g7 1 2 3,.cells [xi,.hd 4],.cells [xl 0,.mr 5],.row 1,.row 5,.mp 7 true] [] [] [],[.mk [.p (.k j7),.v ci] [] [] [(17,17),(40,17)] [(250,⟨[.r 21 ci,.w 7 17],[(5,7)],[],[]⟩)] [(917517,[gA [.v (.st 14)] 0]),(8257580,[gA [.v (.st 10)] 2]),(8257586,[gA [.p (.k j7),.v ci] 3,.mk [.p (.pt 8 0 3),.p (.k g8)] [] [.cells [xi,xl 2,.hd 9],.row 19] [] [] []]),(2100428829,[gA [.v (.st 5),.v cb] 1])],.mk [.p (.pt 6 0 3),.p (.k g8)] [] [.cells [xi,xl 2,.hd 7],.row 19] [] [] []],λ(s,t,u,v,w,x,y,z,A,E,a,b,d,e,f,g,h,i,j,k,l,m,n,o,p,q,r,_,_)=>zcr N s t u v w x y z A E a b d e f g h i j k l m n o p q r⟩
def gO:f9 61 (rk N):=og (g:=61) N (.c (IX N)<|.nil) (.c (zbg N)<|.c (pg N)<|.c (za7 N)<|.c (zH N)<|.nil)
def JA:bJ:=⟨[ci,.c (.sl 5)],[.st 5,cb],λa=>vp N a.1 a.2.1⟩
def Ia:eP 221 (JA N):=tg [] [(26,k9 [.r 9 ci])] [] N .nil .nil
def Kq:bJ:=⟨[.st 4,.st 5],[cb],λa=>DS N a.1 a.2.1⟩
def KN:eP 222 (Kq N):=tg [] [] [] N (.c (gS N)<|.nil) .nil
def Kr:bJ:=⟨[.st 5,.c (.sl 5)],[cb],λa=>qc N a.1 a.2.1⟩
def LQ:eP 173 (Kr N):=tg [] [(26,k9 [.r 12 ci]),(3379,k9 [.r 30 cb])] [] N (.c (Ia N)<|.c (KN N)<|.nil) .nil
def Ap:bJ:=⟨[.c (.sl 5)],[.c (.sl 5)],λa=>fe N a.1⟩
def py:WA Tryz.prog 172 (Ap N):=able_ok (i:=5) (gm:=173) (so:=10) (ti:=3) (tb:=4) (z:=[g8,g8,g8,g8,g8,g8,g8,g8,g8,k8,g8,.c (.lit (.bool false)),.c (.lit (.bool false)),g8,g8,g8,g8,g8]) (fn:=Tryz.f172) (st:=λ(a:aM)=>a.State) (met:=λ(a:aM) (l:List aM)=>qc N a l) dD (by kernel_rfl) (by kernel_rfl) (LQ N) rfl (λa=>by kernel_rfl) (λx y=>by kernel_rfl) (λx=>by kernel_rfl) (λx=>by kernel_rfl) (λx=>by kernel_rfl)
def Cc:bJ:=⟨[ci],[ci],λa=>gC N a.1⟩
def BP:eP 288 (Cc N):=tg [] [] [] N (.c (fG N)<|.nil) .nil
def L_:bJ:=⟨[ci,ci],[ci],λa=>zJ N a.1 a.2.1⟩
def LB:eP 289 (L_ N):=tg [] [] [] N .nil .nil
def FL:bJ:=⟨[.st 10,.st 5,ci,.c (.sl 1)],[.st 11],λa=>xM N a.1 a.2.1 a.2.2.1 a.2.2.2.1⟩
def Fg:eP 259 (FL N):=tg [] [(15,k9 [.r 9 ci]),(31,k9 [.r 10 ci])] [] N (.c (ZC N)<|.c (LB N)<|.c (fG N)<|.c (BP N)<|.nil) .nil
def Ox:bJ:=⟨[.st 10,.st 5,ci,.c (.sl 1)],[ci],λa=>Cp N a.1 a.2.1 a.2.2.1 a.2.2.2.1⟩
def Om:eP 223 (Ox N):=tg [] [] [] N (.c (Fg N)<|.nil) .nil
def LZ:bJ:=⟨[.st 10,.st 5,.st 21],[.st 22],λa=>qk N a.1 a.2.1 a.2.2.1⟩
def KV:eP 174 (LZ N):=tg [] [] [] N (.c (Om N)<|.nil) .nil
def Be:bJ:=⟨[ci],[cb],λa=>cmp_isNaN_int N a.1⟩
def AQ:eP 292 (Be N):=tg [] [] [] N .nil .nil
def ym:bJ:=⟨[ci,ci],[ci],λa=>fD N a.1 a.2.1⟩
def xS:eP 261 (ym N):=tg [] [] [] N (.c (AQ N)<|.nil) .nil
def lU:bJ:=⟨[.c (.sl 1),.c (.sl 1)],[ci],λa=>ZK N a.1 a.2.1⟩
def zet:eP 226 (lU N):=tg [] [(26,k9 [.r 11 ci])] [] N (.c (xS N)<|.nil) .nil
def ze1:dz:=⟨.mk [.p (.hd 0),.v ci,.v ci,.v ci,.p (.fb 225 1 1)] [] [.row 1,.cells [xl 22]] [] [] [],[.mk [] [.w 0 1] [] [] [(63,k9 [.r 20 ci,.r 21 ci]),(172,k9 [.r 10 ci,.r 11 ci]),(428,k9 [.r 14 ci,.r 15 ci]),(698,⟨[.r 13 ci,.w 0 1],[(0,0)],[],[]⟩),(1020,k9 [.r 20 ci,.r 21 ci]),(1023,⟨[.w 0 1],[(0,0)],[],[]⟩),(1722,⟨[.r 17 ci,.w 0 1],[(0,0)],[],[]⟩),(2047,⟨[.w 0 1],[(0,0)],[],[]⟩),(8186,⟨[],[(0,0)],[],[]⟩),(16378,⟨[],[(0,0)],[],[]⟩)] [(361365553,[.mk [.v ci] [] [] [(9,1),(13,1)] [] []]),(536477887,[.mk [] [.w 0 1] [] [] [(28,⟨[.r 10 ci,.r 11 ci,.w 0 1],[(0,0)],[],[]⟩),(1812,⟨[],[(0,0)],[],[]⟩),(1814,⟨[],[(0,0)],[],[]⟩)] [(983097,[.mk [] [.w 0 1] [] [] [(6,⟨[.r 10 ci,.w 0 1],[(0,0)],[],[]⟩)] []]),(118751263,[.mk [] [.w 0 1] [] [] [(6,⟨[.r 10 ci,.w 0 1],[(0,0)],[],[]⟩)] []]),(118882350,[.mk [] [.w 0 1] [] [] [(6,⟨[.r 10 ci,.w 0 1],[(0,0)],[],[]⟩)] []])]]),(898236517,[.mk [.v ci] [] [] [(9,1),(13,1)] [] []]),(1073348813,[.mk [] [.w 0 1] [] [(1000000,0)] [] []]),(1073610971,[.mk [] [.w 0 1] [] [(1000000,0)] [] []]),(2139750569,[.mk [.v ci] [] [] [(9,1),(13,1)] [] []])]],λ(a,b,d,e,f)=>zbb N a b d e f⟩
theorem zcp:∀N:Nat,f9 291 (ze1 N)
 |0=>⟨by kernel_rfl,λx y a b d z e f h=>by cases h⟩
 |N+1=>og (g:=291) N (.c (zet N)<|.nil) (.c (zcp N)<|.nil)
def vE:bJ:=⟨[.c (.sl 22)],[.c (.sl 1)],λa=>zeS N a.1⟩
def wH:eP 175 (vE N):=tg [(7,1)] [(30,⟨[],[(3,0)],[],[]⟩),(58,⟨[.r 10 ci,.w 1 1],[(3,1)],[],[]⟩)] [(1966100,[.mk [] [.w 1 1] [] [] [] [(65544,[.mk [] [.w 1 1] [] [] [(28,⟨[.r 7 ci,.r 8 ci,.w 1 1],[(0,1)],[],[]⟩),(30,⟨[],[(0,0)],[],[]⟩),(62,⟨[.r 6 ci,.w 1 1],[(0,1)],[],[]⟩),(452,⟨[],[(0,0)],[],[]⟩),(1995,⟨[.w 1 1],[(0,1)],[],[]⟩),(3988,⟨[.r 7 ci,.r 8 ci,.w 1 1],[(0,1)],[],[]⟩),(31926,⟨[],[(0,0)],[],[]⟩),(63812,⟨[],[(0,0)],[],[]⟩)] [(1966107,[.mk [] [.w 1 1] [] [] [(6,⟨[.r 8 ci,.w 1 1],[(0,1)],[],[]⟩),(402,⟨[.r 9 ci,.w 1 1],[(0,1)],[],[]⟩),(1608,k9 [.r 34 cb])] [(210763808,[.mk [.v ci] [] [] [(9,1),(13,1)] [] []])]]),(29622290,[.mk [] [.w 1 1] [] [] [(6,⟨[.r 8 ci,.w 1 1],[(0,1)],[],[]⟩),(402,⟨[.r 9 ci,.w 1 1],[(0,1)],[],[]⟩),(1608,k9 [.r 34 cb])] [(210763808,[.mk [.v ci] [] [] [(9,1),(13,1)] [] []])]]),(2092302396,[.mk [] [.w 1 1] [] [(1000000,0)] [] []]),(4181983275,[.mk [] [.w 1 1] [] [(1000000,0)] [] []])]])]])] N (.c (zet N)<|.nil) (.c (zcp N)<|.nil)
def vY:dz:=⟨.mk [.v (.st 10),.p (.hd 0),.v (.st 21)] [] [.row 5] [] [] [],[.mk [.v (.c (.sl 5))] [] [] [(19,22),(37,5),(55,5)] [(122,⟨[.r 22 ci,.w 3 22],[(7,3)],[],[]⟩),(252,⟨[],[],[(7,22)],[]⟩),(506,⟨[.r 41 ci,.w 4 5],[(10,4)],[],[]⟩)] []],λ(a,b,d)=>zeI N a b d⟩
def vV:f9 114 (vY N):=og (g:=114) N (.c (ZC N)<|.c (KV N)<|.c (wH N)<|.c (zbH N)<|.nil) .nil
def uu:dz:=⟨.mk [.p (.pt 0 0 27)] [] [g7 1 2 3,.cells [xi,.hd 4],.cells [xl 0,.mr 5],.row 1,.row 5,.mp 7 true] [] [] [],[.mk [.v (.c (.sl 5))] [] [] [(16,5)] [(250,⟨[.w 9 5],[],[(1055744,5)],[(7,0,9)]⟩)] [(917513,[gA [.v (.st 14)] 0]),(8126476,[.mk [] [] [] [(1000002,0)] [] []]),(8257555,[gA [.v (.st 10)] 1]),(8257562,[gA [.v (.c (.sl 5))] 2])]],λ(s,t,u,v,w,x,y,z,A,E,a,b,d,e,f,g,h,i,j,k,l,m,n,o,p,q,r,_,_)=>zbt N s t u v w x y z A E a b d e f g h i j k l m n o p q r⟩
def kc:f9 48 (uu N):=og (g:=48) N (.it (py N)<|.nil) (.c (zbg N)<|.c (za7 N)<|.c (vV N)<|.nil)
def EN:bJ:=⟨[.st 10,ci],[cb],λa=>tN N a.1 a.2.1⟩
def DR:eP 176 (EN N):=tg [] [] [] N (.c (ZC N)<|.nil) .nil
def BZ:bJ:=⟨[.c (.sl 5),ci],[ci],λa=>lr N a.1 a.2.1⟩
def Cm:eP 177 (BZ N):=tg [] [] [(393223,[.mk [.v ci] [] [] [] [(58,k9 [.r 5 ci,.r 10 ci]),(467,k9 [.r 5 ci])] [(489816080,[g6 [.v cb]])]])] N (.c (zeY N)<|.nil) .nil
end Go.Abs
end
end
section
set_option maxRecDepth 100000
noncomputable section
namespace Go.Abs
open Go.Proofs
variable[Gl](N:Nat)
def MJ:bJ:=⟨[.c (.sl 5),ci,ci],[ci],λa=>yN N a.1 a.2.1 a.2.2.1⟩
def Ld:eP 178 (MJ N):=tg [] [] [(393225,[.mk [.v ci] [] [] [] [(58,k9 [.r 5 ci,.r 10 ci]),(467,k9 [.r 5 ci])] [(489816080,[g6 [.v cb]])]])] N (.c (zeY N)<|.nil) .nil
def Ie:bJ:=⟨[.st 10,.c (.sl 5),.st 5],[cb],λa=>lO N a.1 a.2.1 a.2.2.1⟩
def Jg:eP 115 (Ie N):=tg [] [] [] N (.c (DR N)<|.c (Cm N)<|.c (Ld N)<|.nil) .nil
def yn:dz:=⟨.mk [.p (.pt 0 0 27),.v ci] [] [g7 1 2 3,.cells [xi,.hd 4],.cells [xl 0,.mr 5],.row 1,.row 5,.mp 7 true] [] [] [],[.mk [.v cb] [] [] [] [(122,k9 [])] [(917514,[gA [.v (.st 14)] 0]),(3932173,[.mk [] [] [] [(1000002,0)] [] []]),(257163284,[gA [.v (.st 10)] 1])]],λ(t,u,v,w,x,y,z,A,E,F,a,b,d,e,f,g,h,i,j,k,l,m,n,o,p,q,r,s,_,_)=>zd4 N t u v w x y z A E F a b d e f g h i j k l m n o p q r s⟩
def mI:f9 49 (yn N):=og (g:=49) N (.it (py N)<|.c (Jg N)<|.nil) (.c (zbg N)<|.c (za7 N)<|.nil)
def lV:dz:=⟨.mk [.p (.hd 0)] [] [.row 1] [] [] [],[.mk [] [.w 0 1] [] [] [] []],λx=>zcd N x⟩
def zer:f9 181 (lV N):=sort_oo (ii:=1) Tryz.sortsI (d:=λk=>k) (c:=λk=>k) (λa=>rfl) (λk=>rfl) (by kernel_rfl)
def j_:dz:=⟨.mk [.p (.hd 0)] [] [.row 1] [] [] [],[.mk [.p (.hd 1)] [.w 0 1] [.row 1] [] [] []],λx=>zbM N x⟩
def zdw:f9 235 (j_ N):=NQ (ii:=1) Tryz.S_ (d:=λk=>k) (c:=λk=>k) (λa=>rfl) (λk=>rfl) (by kernel_rfl)
def rO:bJ:=⟨[.fp 20,ci],[.c (.sl 1)],λa=>ye N a.1 a.2.1⟩
def sd:eP 187 (rO N):=tg [(52,1)] [(62,⟨[],[(5,0)],[],[]⟩),(122,⟨[.r 33 ci,.w 0 1],[(5,0)],[(5,1)],[]⟩),(31334,⟨[.r 45 ci,.w 0 1],[(5,0)],[],[]⟩)] [(4063289,[.mk [] [.w 0 1] [] [(1000000,0)] [] []]),(8257595,[.mk [.p (.hd 1)] [.w 0 1] [.row 1] [(1000000,1)] [] []])] N .nil (.c (zer N)<|.c (zdw N)<|.nil)
def IT:bJ:=⟨[.st 0,.st 0],[.st 0],λa=>Bl N a.1 a.2.1⟩
def JM:eP 276 (IT N):=tg [] [] [] N .nil .nil
def Db:bJ:=⟨[.c (.sl 18),ci,ci],[.st 0],λa=>nF N a.1 a.2.1 a.2.2.1⟩
def tB:eP 236 (Db N):=tg [] [(6,k9 [.r 26 cb]),(31,k9 [.h 1 0 hi,.h 1 1 hi,.h 1 2 hi,.h 1 3 hi]),(250,k9 [.r 41 ci,.h 1 0 hi,.h 1 1 hi,.h 1 2 hi,.h 1 3 hi])] [] N (.c (zcH N)<|.c (JM N)<|.c (ij N)<|.nil) .nil
def HL:bJ:=⟨[.st 0,.st 0],[ci],λa=>lK N a.1 a.2.1⟩
def zn:eP 253 (HL N):=tg [] [(6,k9 [.r 21 cb]),(250,k9 [.r 5 ci,.r 26 ci]),(2003,k9 [.r 5 ci])] [] N (.c (ub N)<|.c (VX N)<|.nil) .nil
def Jm:bJ:=⟨[.c (.sl 0),ci,.st 0],[ci],λa=>pE N a.1 a.2.1 a.2.2.1⟩
def zW:eP 278 (Jm N):=tg [] [] [] N (.c (zn N)<|.nil) .nil
def Fp:bJ:=⟨[.c (.sl 0),.c (.sl 1),.st 0],[ci],λa=>qP N a.1 a.2.1 a.2.2.1⟩
def FK:eP 277 (Fp N):=tg [] [(58,k9 [.r 7 ci,.r 12 ci])] [] N (.c (zW N)<|.nil) .nil
def ug:dz:=⟨.mk [.p (.hd 0),.v (.c (.sl 1)),.v ci,.v (.st 0)] [] [.row 0] [] [] [],[.mk [.v (.c (.sl 6)),.v cb] [] [] [(48,6)] [(12,k9 [.r 24 cb]),(111,⟨[.w 2 6],[(10,2)],[(10,6)],[]⟩),(890,⟨[.r 11 ci,.r 28 ci,.w 2 6],[(10,2)],[],[]⟩),(7123,⟨[.r 11 ci,.w 2 6],[(10,2)],[],[]⟩)] []],λ(a,b,d,e)=>zek N a b d e⟩
def kh:f9 237 (ug N):=og (g:=237) N (.c (zW N)<|.c (FK N)<|.nil) .nil
def tw:bJ:=⟨[.fp 20,ci,ci,.st 0,ci,ci],[.c (.sl 6),cb],λa=>Ac N a.1 a.2.1 a.2.2.1 a.2.2.2.1 a.2.2.2.2.1 a.2.2.2.2.2.1⟩
def tD:eP 188 (tw N):=tg [(57,0)] [(122,⟨[.r 66 ci,.w 1 0],[(14,1)],[],[]⟩)] [(4063328,[gA [.v (.c (.sl 6)),.v cb] 0])] N (.c (tB N)<|.nil) (.c (kh N)<|.nil)
def oT:bJ:=⟨[.fp 20,ci,ci,.st 0,ci],[.st 15,cb],λa=>sy N a.1 a.2.1 a.2.2.1 a.2.2.2.1 a.2.2.2.2.1⟩
def oF:eP 126 (oT N):=tg [] [(3,k9 [.r 12 (.c (.sl 1)),.r 13 ci])] [] N (.c (tD N)<|.c (sd N)<|.nil) .nil
def pP:dz:=⟨.mk [.p (.pt 0 0 27),.v (.fp 20),.v (.st 5)] [] [g7 1 2 3,.cells [xi,.hd 4],.cells [xl 0,.mr 5],.row 1,.row 5,.mp 7 true] [] [] [],[.mk [.v (.st 15),.v cb] [] [] [] [] [(917523,[gA [.v (.st 10)] 0])]],λ(_,_,_,o,p,q,r,s,t,u,a,b,d,e,f,g,h,i,j,k,l,m,n,_,_,_,_,_,_,_,_)=>zcZ N o p q r s t u a b d e f g h i j k l m n⟩
def pu:f9 62 (pP N):=og (g:=62) N (.c (oF N)<|.nil) (.c (za7 N)<|.nil)
def vQ:bJ:=⟨[.fp 20],[ci],λa=>iZ N a.1⟩
def vJ:eP 51 (vQ N):=tg [] [] [] N .nil .nil
def oC:dz:=⟨.mk [.p (.pt 0 0 25)] [] [.cells [.pt 1 0 27,.fp 20,xi,xi,xi,xi,xi,xi,xi,xi,xi,xn,xi,xb,xb,xi,xi,xi,xi,xi,xn,xn,xi,xi,xi],g7 2 3 4,.cells [xi,.hd 5],.cells [xl 0,.mr 6],.row 1,.row 5,.mp 7 true] [] [] [],[g6 [.v cb]],λ(_,_,_,_,_,_,_,_,_,_,_,_,_,_,_,_,_,_,_,_,_,a,_,_,_,_,_,_,_,_,_,_,_,_,_,_,_,_,_,_,_,_,_,_,_,_,_,_,_,_)=>Vc N a⟩
def ze7:f9 65 (oC N):=og (g:=65) N .nil .nil
def qE:dz:=⟨.mk [.p (.pt 0 0 25),.v (.st 5),.v ci] [] [.cells [.pt 1 0 27,.fp 20,xi,xi,xi,xi,xi,xi,xi,xi,xi,xn,xi,xb,xb,xi,xi,xi,xi,xi,xn,xn,xi,xi,xi],g7 2 3 4,.cells [xi,.hd 5],.cells [xl 0,.mr 6],.row 1,.row 5,.mp 7 true] [] [] [],[.mk [] [.h 0 2 (xi),.h 0 3 (xi),.h 0 4 (xi),.h 0 5 (xi),.h 0 6 (xi),.h 0 7 (xi),.h 0 8 (xi),.h 0 9 (xi),.h 0 10 (xi),.h 0 11 (xl 4),.h 0 12 (xi),.h 0 13 (xb),.h 0 14 (xb),.h 0 15 (xi),.h 0 16 (xi),.h 0 17 (xi),.h 0 18 (xi),.h 0 19 (xi),.h 0 22 (xi),.h 0 23 (xi),.h 0 24 (xi)] [] [] [] [(393223,[gA [.v cb] 0])]],λ(_,_,_,r,s,_,t,u,v,w,a,b,d,e,f,g,h,i,j,k,l,m,n,o,p,q,_,_,_,_,_,_,_,_,_,_,_,_,_,_,_,_,_,_,_,_,_,_,_,_,_,_)=>kO N r s t u v w a b d e f g h i j k l m n o p q⟩
def rj:f9 63 (qE N):=og (g:=63) N .nil (.c (ze7 N)<|.nil)
def zdT:dz:=⟨g6 [.v (.c (.sl 19))],[.mk [.p (.hd 0)] [] [.row 19] [] [] []],λx=>zbj N x⟩
def zdM:f9 189 (zdT N):=jm (i:=19) (sz:=24) (z:=[k8]) (fn:=Tryz.f189) dD (by kernel_rfl) (by kernel_rfl) (by kernel_rfl) rfl
def kS:dz:=⟨g6 [.v (.fp 20)],[.mk [.p (.pt 0 0 3)] [] [.cells [xi,xl 2,.hd 1],.row 19] [] [] [(917521,[.mk [.p (.hd 0)] [] [.row 19] [(1000000,0)] [] []])]],λa=>zbs N a⟩
def zcq:f9 127 (kS N):=og (g:=127) N .nil (.c (zdM N)<|.nil)
def kZ:dz:=⟨.mk [.p (.pt 0 0 3),.v ci,.v ci,.v (.c (.sl 6)),.v (.st 0)] [] [.cells [xi,xl 2,.hd 1],.row 19] [] [] [],[.mk [.v ci] [.h 0 2 (.hd 1),.w 1 19] [] [(20,19)] [(58,⟨[.r 23 ci,.w 3 19],[(11,3)],[],[]⟩),(122,⟨[.r 62 ci,.w 1 19],[],[],[(0,2,1)]⟩)] []],λ(a,b,d,e,f,_,_)=>zbd N a b d e f⟩
def lA:f9 179 (kZ N):=og (g:=179) N (.c (qF N)<|.c (oZ N)<|.nil) .nil
def nf:dz:=⟨.mk [.p (.pt 0 0 3),.v ci,.v (.c (.sl 6)),.v (.st 0),.v ci] [] [.cells [xi,xl 2,.hd 1],.row 19] [] [] [],[.mk [.v ci] [.h 0 2 (.hd 1),.w 1 19] [] [] [(14,k9 [.r 45 cb])] [(1966133,[.mk [.v ci] [.h 0 2 (.hd 1),.w 1 19] [] [(1000000,0)] [] []])]],λ(a,b,d,e,f,g,_)=>za4 N a b d e f g⟩
def zbJ:f9 116 (nf N):=og (g:=116) N (.c (gV N)<|.c (VX N)<|.nil) (.c (lA N)<|.nil)
def lI:dz:=⟨.mk [.p (.pt 0 0 3),.v ci] [] [.cells [xi,xl 2,.hd 1],.row 19] [] [] [],[.mk [.v (.c (.sl 1))] [] [] [(52,1)] [(62,⟨[],[(5,0)],[],[]⟩),(122,⟨[.r 33 ci,.w 2 1],[(5,2)],[(5,1)],[]⟩),(31334,⟨[.r 45 ci,.w 2 1],[(5,2)],[],[]⟩)] [(4063289,[.mk [] [.w 2 1] [] [(1000000,0)] [] []]),(8257595,[.mk [.p (.hd 3)] [.w 2 1] [.row 1] [(1000000,1)] [] []])]],λ(a,b,_,d)=>zbq N a b d⟩
def kP:f9 187 (lI N):=og (g:=187) N .nil (.c (zer N)<|.c (zdw N)<|.nil)
def lS:dz:=⟨.mk [.p (.pt 0 0 3),.v ci,.v ci,.v (.st 0),.v ci,.v ci] [] [.cells [xi,xl 2,.hd 1],.row 19] [] [] [],[.mk [.v (.c (.sl 6)),.v cb] [] [] [(57,0)] [(122,⟨[.r 66 ci,.w 3 0],[(14,3)],[],[]⟩)] [(4063328,[gA [.v (.c (.sl 6)),.v cb] 0])]],λ(a,b,d,e,f,g,h,i)=>zaF N a b d e f g h i⟩
def mM:f9 188 (lS N):=og (g:=188) N (.c (tB N)<|.nil) (.c (kh N)<|.nil)
def ja:dz:=⟨.mk [.p (.pt 0 0 3),.v ci,.v ci,.v (.st 0),.v ci] [] [.cells [xi,xl 2,.hd 1],.row 19] [] [] [],[.mk [.v (.st 15),.v cb] [] [] [] [(3,k9 [.r 12 (.c (.sl 1)),.r 13 ci])] [(786450,[gA [.v (.c (.sl 1))] 0]),(8126498,[gA [.v (.c (.sl 6)),.v cb] 1]),(29098018,[gA [.v (.c (.sl 6)),.v cb] 1])]],λ(a,b,d,e,f,g,h)=>zaK N a b d e f g h⟩
def iY:f9 126 (ja N):=og (g:=126) N .nil (.c (kP N)<|.c (mM N)<|.nil)
def pV:dz:=⟨.mk [.p (.pt 0 0 27),.p (.pt 1 0 3),.v (.st 5)] [] [g7 2 3 4,.cells [xi,xl 2,.hd 5],.cells [xi,.hd 6],.cells [xl 0,.mr 7],.row 1,.row 19,.row 5,.mp 7 true] [] [] [],[.mk [.v (.st 15),.v cb] [] [] [] [] [(917523,[gA [.v (.st 10)] 0]),(4063279,[gA [.v (.st 15),.v cb] 1])]],λ(_,q,_,_,r,s,t,u,v,w,a,b,d,e,f,g,h,i,j,k,l,m,n,_,_,_,_,_,_,o,p,_,_)=>YE N q r s t u v w a b d e f g h i j k l m n o p⟩
def zcg:f9 62 (pV N):=og (g:=62) N .nil (.c (za7 N)<|.c (iY N)<|.nil)
def DE:bJ:=⟨[.c (.sl 6)],[ci],λa=>nU N a.1⟩
def DX:eP 158 (DE N):=tg [] [(58,k9 [.r 3 ci,.r 8 ci])] [] N (.c (fG N)<|.nil) .nil
def oR:bJ:=⟨[.c (.sl 1),ci],[ci],λa=>zdX N a.1 a.2.1⟩
def ow:eP 207 (oR N):=tg [] [(26,k9 [.r 8 ci])] [] N .nil .nil
def lF:bJ:=⟨[.c (.sl 1),ci],[cb],λa=>zb2 N a.1 a.2.1⟩
def k_:eP 159 (lF N):=tg [] [] [] N (.c (ow N)<|.nil) .nil
def CW:bJ:=⟨[.st 10,.st 5,.c (.sl 6)],[cb],λa=>gp N a.1 a.2.1 a.2.2.1⟩
def tp:eP 101 (CW N):=tg [] [(6,k9 [.r 22 cb]),(250,k9 [.r 47 ci])] [] N (.c (k_ N)<|.c (gV N)<|.c (DX N)<|.nil) .nil
def HN:bJ:=⟨[ci,ci],[ci,cb],λa=>vo N a.1 a.2.1⟩
def Ij:eP 161 (HN N):=tg [] [(53247,k9 [.r 48 cb]),(212991,k9 [.r 55 cb])] [] N (.c (zeY N)<|.c (xo N)<|.nil) .nil
def Nt:bJ:=⟨[.st 5,ci,ci,cb],[.st 5,ci],λa=>Ab N a.1 a.2.1 a.2.2.1 a.2.2.2.1⟩
def ME:eP 102 (Nt N):=tg [] [(6,k9 [.r 20 cb]),(1023,k9 [.h 0 11 hb,.h 0 12 hb,.h 0 15 hi]),(2047,k9 [.h 0 16 hi]),(8186,k9 [.h 0 12 hb])] [] N (.c (Ij N)<|.c (zbH N)<|.c (gS N)<|.c (ze6 N)<|.c (oJ N)<|.nil) .nil
def zev:dz:=⟨g6 [.v (.c (.sl 0))],[.mk [.p (.hd 0)] [] [.row 0] [] [] []],λx=>zbv N x⟩
def zeB:f9 152 (zev N):=jm (i:=0) (sz:=32) (z:=[g8,g8,g8,g8]) (fn:=Tryz.f152) dD (by kernel_rfl) (by kernel_rfl) (by kernel_rfl) rfl
def jU:dz:=⟨.mk [.p (.pt 0 0 2),.v (.st 7),.p (.k (.c (.fn (.func 165) [] [])))] [] [.cells [xl 0,.mr 1],.mp 7 true] [] [] [],[.mk [.v (.c (.sl 0)),.v ci] [] [] [] [(58,⟨[.r 21 ci,.w 3 0],[(8,3)],[],[]⟩)] [(393233,[.mk [.p (.hd 3)] [] [.row 0] [(1000000,0)] [] []])]],λ(_,a,b)=>zbL N a b⟩
def jF:f9 164 (jU N):=og (g:=164) N (.c (qF N)<|.c (EA N)<|.nil) (.c (zeB N)<|.nil)
def lq:dz:=⟨.mk [.p (.pt 0 0 2),.v (.st 7)] [] [.cells [xl 0,.mr 1],.mp 7 true] [] [] [],[.mk [.v ci] [.h 0 0 (xl 0),.m 1 7 true] [] [] [(14,k9 [.r 41 cb])] [(4063288,[gA [.v (.c (.sl 0)),.v ci] 0])]],λ(a,b,d)=>zaW N a b d⟩
def zcm:f9 103 (lq N):=og (g:=103) N (.c (wY N)<|.c (gV N)<|.c (VX N)<|.nil) (.c (jF N)<|.nil)
def oP:dz:=⟨.mk [.p (.pt 0 0 2),.v (.st 5)] [] [.cells [xi,.hd 1],.row 5] [] [] [],[.mk [.v ci] [.w 1 5,.h 0 1 (.hd 1)] [] [] [] [(1966096,[gA [.v ci,.v cb] 0])]],λ(a,b,_)=>zcS N a b⟩
def oY:f9 166 (oP N):=og (g:=166) N (.c (ze6 N)<|.c (lm N)<|.nil) (.c (zcU N)<|.nil)
def kT:dz:=⟨.mk [.p (.pt 0 0 27),.v (.st 5),.v (.st 5)] [] [g7 1 2 3,.cells [xi,.hd 4],.cells [xl 0,.mr 5],.row 1,.row 5,.mp 7 true] [] [] [],[.mk [.v ci] [.h 1 1 (.hd 4),.w 4 5,.h 0 25 (.hd 3),.w 3 1] [] [] [(15,⟨[.w 3 1],[],[],[(0,25,3)]⟩)] [(786445,[.mk [.v ci] [.w 4 5,.h 1 1 (.hd 4)] [] [(1000000,0)] [] []]),(917524,[.mk [] [.w 3 1,.h 0 25 (.hd 3)] [] [(1000000,1)] [] []]),(7995421,[.mk [] [.w 3 1,.h 0 25 (.hd 3)] [] [(1000000,1)] [] []])]],λ(a,b,_,d,e,_,_,_,_,_,_,_,_,_,_,_,_,_,_,_,_,_,_,_,_,_,_,_,_,_,_)=>zb6 N a b d e⟩
def lH:f9 105 (kT N):=og (g:=105) N .nil (.c (oY N)<|.c (zeq N)<|.nil)
def mZ:dz:=⟨.mk [.p (.pt 0 0 27),.v ci,.v (.c (.sl 6))] [] [g7 1 2 3,.cells [xi,.hd 4],.cells [xl 0,.mr 5],.row 1,.row 5,.mp 7 true] [] [] [],[.mk [.v ci] [.h 2 0 (xl 0),.m 5 7 true,.h 0 25 (.hd 3),.h 0 26 (xi),.h 1 1 (.hd 4),.w 3 1,.w 4 5] [] [] [] [(917524,[gA [.v (.st 5),.v cb] 0]),(133955641,[.mk [.v ci] [.h 2 0 (xl 0),.m 5 7 true] [] [(1000000,1)] [] []]),(268304458,[.mk [.v ci] [.h 1 1 (.hd 4),.w 4 5,.h 0 25 (.hd 3),.w 3 1] [] [(1000000,2)] [] []])]],λ(r,s,t,u,v,w,x,y,z,A,a,b,d,e,f,g,h,i,j,k,l,m,n,o,_,_,_,_,p,_,q)=>zaS N r s t u v w x y z A a b d e f g h i j k l m n o p q⟩
def zbK:f9 42 (mZ N):=og (g:=42) N (.c (tp N)<|.c (ME N)<|.c (ut N)<|.nil) (.c (ze4 N)<|.c (zcm N)<|.c (lH N)<|.nil)
end Go.Abs
end
end
section
set_option maxRecDepth 100000
noncomputable section
namespace Go.Abs
open Go.Proofs
variable[Gl](N:Nat)
def pJ:dz:=⟨.mk [.p (.pt 0 0 25),.v (.st 5),.v (.st 15)] [] [.cells [.pt 1 0 27,.fp 20,xi,xi,xi,xi,xi,xi,xi,xi,xi,xn,xi,xb,xb,xi,xi,xi,xi,xi,xn,xn,xi,xi,xi],g7 2 3 4,.cells [xi,.hd 5],.cells [xl 0,.mr 6],.row 1,.row 5,.mp 7 true] [] [] [],[.mk [] [.h 1 25 (.hd 4),.h 1 26 (xi),.h 2 1 (.hd 5),.h 3 0 (xl 0),.w 4 1,.w 5 5,.m 6 7 true,.h 0 1 (.fp 20),.h 0 20 (xn)] [] [(74,15)] [(15,k9 []),(13194139533438,⟨[],[],[],[(5,1057794,19),(0,1048577,20)]⟩)] [(393229,[.mk [.p (.pt 9 0 3)] [] [.cells [xi,xl 2,.hd 10],.row 19] [(1000000,0)] [] []]),(1835031,[.mk [.v ci] [.h 9 2 (.hd 10),.w 10 19] [] [(1000000,1)] [] []]),(3932186,[gA [.v cb] 2]),(8126525,[.mk [.v ci] [.h 3 0 (xl 0),.m 6 7 true,.h 1 25 (.hd 4),.h 1 26 (xi),.h 2 1 (.hd 5),.w 4 1,.w 5 5] [] [(1000000,4)] [] []]),(15990821,[gA [.v (.st 15),.v cb] 3])],.mk [] [.h 1 25 (.hd 4),.h 1 26 (xi),.h 2 1 (.hd 5),.h 3 0 (xl 0),.w 4 1,.w 5 5,.m 6 7 true,.h 0 1 (.fp 20),.h 0 20 (.hd 7)] [.row 15] [] [] []],λ(S,T,U,W,X,Y,Z,a7,a8,a9,a,b,d,e,f,g,h,i,j,k,l,m,n,o,p,_,q,r,s,t,u,v,w,x,y,z,A,E,F,G,K,L,M,O,P,_,_,_,_,Q,_,R)=>uF N S T U W X Y Z a7 a8 a9 a b d e f g h i j k l m n o p q r s t u v w x y z A E F G K L M O P Q R⟩
def px:f9 64 (pJ N):=og (g:=64) N .nil (.c (zcq N)<|.c (zbJ N)<|.c (ze7 N)<|.c (zcg N)<|.c (zbK N)<|.nil)
def ny:dz:=⟨.mk [.p (.pt 0 0 25)] [] [.cells [.pt 1 0 27,.fp 20,xi,xi,xi,xi,xi,xi,xi,xi,xi,xn,xi,xb,xb,xi,xi,xi,xi,xi,.hd 2,xn,xi,xi,xi],g7 3 4 5,.row 15,.cells [xi,.hd 6],.cells [xl 0,.mr 7],.row 1,.row 5,.mp 7 true] [] [] [],[g6 [.v cb]],λ(_,_,_,_,_,_,_,_,_,_,_,_,_,_,_,_,_,_,_,_,_,_,a,_,_,_,_,_,_,_,_,_,_,_,_,_,_,_,_,_,_,_,_,_,_,_,_,_,_,_,_)=>Vc N a⟩
def zeF:f9 65 (ny N):=og (g:=65) N .nil .nil
def pG:dz:=⟨.mk [.p (.pt 0 0 25),.v (.st 5),.v ci] [] [.cells [.pt 1 0 27,.fp 20,xi,xi,xi,xi,xi,xi,xi,xi,xi,xn,xi,xb,xb,xi,xi,xi,xi,xi,.hd 2,xn,xi,xi,xi],g7 3 4 5,.row 15,.cells [xi,.hd 6],.cells [xl 0,.mr 7],.row 1,.row 5,.mp 7 true] [] [] [],[.mk [] [.h 0 2 (xi),.h 0 3 (xi),.h 0 4 (xi),.h 0 5 (xi),.h 0 6 (xi),.h 0 7 (xi),.h 0 8 (xi),.h 0 9 (xi),.h 0 10 (xi),.h 0 11 (xl 4),.h 0 12 (xi),.h 0 13 (xb),.h 0 14 (xb),.h 0 15 (xi),.h 0 16 (xi),.h 0 17 (xi),.h 0 18 (xi),.h 0 19 (xi),.h 0 22 (xi),.h 0 23 (xi),.h 0 24 (xi)] [] [] [] [(393223,[gA [.v cb] 0])]],λ(_,_,_,_,s,t,_,u,v,w,a,b,d,e,f,g,h,i,j,k,l,m,n,o,p,q,r,_,_,_,_,_,_,_,_,_,_,_,_,_,_,_,_,_,_,_,_,_,_,_,_,_,_)=>kO N s t u v w a b d e f g h i j k l m n o p q r⟩
def pL:f9 63 (pG N):=og (g:=63) N .nil (.c (zeF N)<|.nil)
def qh:dz:=⟨.mk [.p (.pt 0 0 25),.v (.st 5),.v (.st 15)] [] [.cells [.pt 1 0 27,.fp 20,xi,xi,xi,xi,xi,xi,xi,xi,xi,xn,xi,xb,xb,xi,xi,xi,xi,xi,.hd 2,xn,xi,xi,xi],g7 3 4 5,.row 15,.cells [xi,.hd 6],.cells [xl 0,.mr 7],.row 1,.row 5,.mp 7 true] [] [] [],[.mk [] [.h 1 25 (.hd 5),.h 1 26 (xi),.h 3 1 (.hd 6),.h 4 0 (xl 0),.w 5 1,.w 6 5,.m 7 7 true,.h 0 1 (.fp 20),.h 0 20 (.hd 2),.w 2 15] [] [(74,15)] [(15,k9 []),(14293651161214,⟨[],[],[],[(5,1058818,19),(0,1048577,20)]⟩)] [(393229,[.mk [.p (.pt 10 0 3)] [] [.cells [xi,xl 2,.hd 11],.row 19] [(1000000,0)] [] []]),(1835031,[.mk [.v ci] [.h 10 2 (.hd 11),.w 11 19] [] [(1000000,1)] [] []]),(3932186,[gA [.v cb] 2]),(8126525,[.mk [.v ci] [.h 4 0 (xl 0),.m 7 7 true,.h 1 25 (.hd 5),.h 1 26 (xi),.h 3 1 (.hd 6),.w 5 1,.w 6 5] [] [(1000000,4)] [] []]),(15990821,[gA [.v (.st 15),.v cb] 3])]],λ(T,U,W,X,Y,Z,a6,a7,a8,a9,a,b,d,e,f,g,h,i,j,k,l,m,n,o,p,q,_,r,s,t,u,v,w,x,y,z,A,E,F,G,K,L,M,O,P,Q,_,_,_,_,R,_,S)=>tx N T U W X Y Z a6 a7 a8 a9 a b d e f g h i j k l m n o p q r s t u v w x y z A E F G K L M O P Q R S⟩
def pO:f9 64 (qh N):=og (g:=64) N .nil (.c (zcq N)<|.c (zbJ N)<|.c (zeF N)<|.c (zcg N)<|.c (zbK N)<|.nil)
def mh:dz:=⟨.mk [.p (.pt 0 0 25)] [] [.cells [.pt 1 0 27,.fp 20,xi,xi,xi,xi,xi,xi,xi,xi,xi,xl 4,xi,xb,xb,xi,xi,xi,xi,xi,.hd 2,xn,xi,xi,xi],g7 3 4 5,.row 15,.cells [xi,.hd 6],.cells [xl 0,.mr 7],.row 1,.row 5,.mp 7 true] [] [] [],[g6 [.v cb]],λ(_,_,_,_,_,_,_,_,_,_,_,_,_,_,_,_,_,_,_,_,_,_,_,a,_,_,_,_,_,_,_,_,_,_,_,_,_,_,_,_,_,_,_,_,_,_,_,_,_,_,_,_)=>Vc N a⟩
def zcz:f9 65 (mh N):=og (g:=65) N .nil .nil
def qT:dz:=⟨.mk [.p (.pt 0 0 25),.v (.st 5),.v ci] [] [.cells [.pt 1 0 27,.fp 20,xi,xi,xi,xi,xi,xi,xi,xi,xi,xl 4,xi,xb,xb,xi,xi,xi,xi,xi,.hd 2,xn,xi,xi,xi],g7 3 4 5,.row 15,.cells [xi,.hd 6],.cells [xl 0,.mr 7],.row 1,.row 5,.mp 7 true] [] [] [],[.mk [] [.h 0 2 (xi),.h 0 3 (xi),.h 0 4 (xi),.h 0 5 (xi),.h 0 6 (xi),.h 0 7 (xi),.h 0 8 (xi),.h 0 9 (xi),.h 0 10 (xi),.h 0 11 (xl 4),.h 0 12 (xi),.h 0 13 (xb),.h 0 14 (xb),.h 0 15 (xi),.h 0 16 (xi),.h 0 17 (xi),.h 0 18 (xi),.h 0 19 (xi),.h 0 22 (xi),.h 0 23 (xi),.h 0 24 (xi)] [] [] [] [(393223,[gA [.v cb] 0])]],λ(_,_,_,_,t,u,_,v,w,x,a,b,d,e,f,g,h,i,j,k,l,m,n,o,p,q,r,s,_,_,_,_,_,_,_,_,_,_,_,_,_,_,_,_,_,_,_,_,_,_,_,_,_,_)=>zeU N t u v w x a b d e f g h i j k l m n o p q r s⟩
def qX:f9 63 (qT N):=og (g:=63) N .nil (.c (zcz N)<|.nil)
def pN:dz:=⟨.mk [.p (.pt 0 0 25),.v (.st 5),.v (.st 15)] [] [.cells [.pt 1 0 27,.fp 20,xi,xi,xi,xi,xi,xi,xi,xi,xi,xl 4,xi,xb,xb,xi,xi,xi,xi,xi,.hd 2,xn,xi,xi,xi],g7 3 4 5,.row 15,.cells [xi,.hd 6],.cells [xl 0,.mr 7],.row 1,.row 5,.mp 7 true] [] [] [],[.mk [] [.h 1 25 (.hd 5),.h 1 26 (xi),.h 3 1 (.hd 6),.h 4 0 (xl 0),.w 5 1,.w 6 5,.m 7 7 true,.h 0 1 (.fp 20),.h 0 20 (.hd 2),.w 2 15] [] [(74,15)] [(15,k9 []),(14293651161214,⟨[],[],[],[(5,1058818,19),(0,1048577,20)]⟩)] [(393229,[.mk [.p (.pt 10 0 3)] [] [.cells [xi,xl 2,.hd 11],.row 19] [(1000000,0)] [] []]),(1835031,[.mk [.v ci] [.h 10 2 (.hd 11),.w 11 19] [] [(1000000,1)] [] []]),(3932186,[gA [.v cb] 2]),(8126525,[.mk [.v ci] [.h 4 0 (xl 0),.m 7 7 true,.h 1 25 (.hd 5),.h 1 26 (xi),.h 3 1 (.hd 6),.w 5 1,.w 6 5] [] [(1000000,4)] [] []]),(15990821,[gA [.v (.st 15),.v cb] 3])]],λ(U,W,X,Y,Z,a5,a6,a7,a8,a9,a,b,d,e,f,g,h,i,j,k,l,m,n,o,p,q,r,_,s,t,u,v,w,x,y,z,A,E,F,G,K,L,M,O,P,Q,R,_,_,_,_,S,_,T)=>zc0 N U W X Y Z a5 a6 a7 a8 a9 a b d e f g h i j k l m n o p q r s t u v w x y z A E F G K L M O P Q R S T⟩
def pB:f9 64 (pN N):=og (g:=64) N .nil (.c (zcq N)<|.c (zbJ N)<|.c (zcz N)<|.c (zcg N)<|.c (zbK N)<|.nil)
def zI:dz:=⟨.mk [.p (.pt 0 0 27)] [] [g7 1 2 3,.cells [xi,.hd 4],.cells [xl 0,.mr 5],.row 1,.row 5,.mp 7 true] [] [] [],[.mk [.v (.st 16),.v ci] [.h 0 25 (.hd 3),.h 0 26 (xi),.h 1 1 (.hd 4),.h 2 0 (xl 0),.w 3 1,.w 4 5,.m 5 7 true] [] [] [(511,k9 [.h 9 24 hi]),(2042,⟨[.r 32 ci,.h 0 26 hi,.h 2 0 (hl 0),.h 9 1 (.fp 20),.h 9 2 hi,.h 9 3 hi,.h 9 4 hi,.h 9 5 hi,.h 9 6 hi,.h 9 7 hi,.h 9 8 hi,.h 9 9 hi,.h 9 10 hi,.h 9 11 (hl 4),.h 9 12 hi,.h 9 13 hb,.h 9 14 hb,.h 9 15 hi,.h 9 16 hi,.h 9 17 hi,.h 9 18 hi,.h 9 19 hi,.h 9 22 hi,.h 9 23 hi,.h 9 24 hi,.h 10 0 hi,.h 10 1 hi,.h 10 2 (hl 6),.w 3 1,.w 4 5,.m 5 7 true,.w 11 15],[],[(1057812,15)],[(0,25,3),(1,1,4),(9,20,11)]⟩),(16339,⟨[.h 0 26 hi,.h 2 0 (hl 0),.h 9 1 (.fp 20),.h 9 2 hi,.h 9 3 hi,.h 9 4 hi,.h 9 5 hi,.h 9 6 hi,.h 9 7 hi,.h 9 8 hi,.h 9 9 hi,.h 9 10 hi,.h 9 11 (hl 4),.h 9 12 hi,.h 9 13 hb,.h 9 14 hb,.h 9 15 hi,.h 9 16 hi,.h 9 17 hi,.h 9 18 hi,.h 9 19 hi,.h 9 22 hi,.h 9 23 hi,.h 9 24 hi,.h 10 0 hi,.h 10 1 hi,.h 10 2 (hl 6),.w 3 1,.w 4 5,.m 5 7 true,.w 11 15],[],[],[(0,25,3),(1,1,4),(9,20,11)]⟩),(8796093022270,⟨[],[],[(4,0)],[]⟩),(10995116277822,⟨[],[],[(1055746,19),(4,20)],[]⟩)] [(917522,[gA [.p (.k j7),.v ci] 0,.mk [.p (.pt 7 0 3),.p (.k g8)] [] [.cells [xi,xl 2,.hd 8],.row 19] [] [] []]),(66846750,[gA [.v (.c (.sl 5))] 1]),(133955653,[gA [.v cb] 10]),(536084560,[gA [.v (.st 15),.v cb] 3]),(68531257383,[gA [.v cb] 2]),(68531388464,[gA [.v (.st 15),.v cb] 3]),(548252024898,[.mk [] [.h 0 25 (.hd 3),.h 0 26 (xi),.h 1 1 (.hd 4),.h 2 0 (xl 0),.w 3 1,.w 4 5,.m 5 7 true,.h 9 1 (.fp 20),.h 9 20 (.hd 11),.w 11 15] [] [(1000000,9)] [] []]),(2193007837246,[.mk [] [.h 9 2 (xi),.h 9 3 (xi),.h 9 4 (xi),.h 9 5 (xi),.h 9 6 (xi),.h 9 7 (xi),.h 9 8 (xi),.h 9 9 (xi),.h 9 10 (xi),.h 9 11 (xl 4),.h 9 12 (xi),.h 9 13 (xb),.h 9 14 (xb),.h 9 15 (xi),.h 9 16 (xi),.h 9 17 (xi),.h 9 18 (xi),.h 9 19 (xi),.h 9 22 (xi),.h 9 23 (xi),.h 9 24 (xi)] [] [(1000000,8)] [] []])]],λ(t,u,v,w,x,y,z,A,E,F,a,b,d,e,f,g,h,i,j,k,l,m,n,o,p,q,r,_,s)=>zeA N t u v w x y z A E F a b d e f g h i j k l m n o p q r s⟩
def yC:f9 18 (zI N):=og (g:=18) N (.c (vJ N)<|.nil) (.c (gO N)<|.c (kc N)<|.c (mI N)<|.c (pu N)<|.c (rj N)<|.c (px N)<|.c (pL N)<|.c (pO N)<|.c (qX N)<|.c (pB N)<|.c (zcz N)<|.nil)
def re:dz:=⟨.mk [.p (.pt 0 0 27)] [] [g7 1 2 3,.cells [xi,.hd 4],.cells [xl 0,.mr 5],.row 1,.row 5,.mp 7 true] [] [] [],[.mk [.ag [.k j7,.pt 0 0 27],.v ci] [] [] [] [] [(393224,[gA [.p (.k j7),.v ci] 0,.mk [.p (.pt 7 0 3),.p (.k g8)] [] [.cells [xi,xl 2,.hd 8],.row 19] [] [] []])],.mk [.ag [.pt 6 0 3,.pt 0 0 27],.p (.k g8)] [] [.cells [xi,xl 2,.hd 7],.row 19] [] [] []],λ(s,t,u,v,w,x,y,z,A,E,a,b,d,e,f,g,h,i,j,k,l,m,n,o,p,q,r,_,_)=>ze3 N s t u v w x y z A E a b d e f g h i j k l m n o p q r⟩
def qW:f9 47 (re N):=og (g:=47) N .nil (.c (gO N)<|.nil)
def jI:dz:=⟨.mk [.ag [.pt 0 0 3,.pt 1 0 27],.v (.st 5)] [] [.cells [xi,xl 2,.hd 2],g7 3 4 5,.row 19,.cells [xi,.hd 6],.cells [xl 0,.mr 7],.row 1,.row 5,.mp 7 true] [] [] [],[.mk [.v (.st 23),.v cb] [.h 0 2 (.hd 2),.w 2 19] [] [] [] [(393231,[gA [.v (.st 15),.v cb] 0]),(4063271,[.mk [.v ci] [.h 0 2 (.hd 2),.w 2 19] [] [(1000000,1)] [] []])]],λ(q,_,_,_,r,s,t,u,v,w,a,b,d,e,f,g,h,i,j,k,l,m,n,o,p,_,_,_,_,_,_,_,_)=>zbf N q r s t u v w a b d e f g h i j k l m n o p⟩
def jL:f9 50 (jI N):=og (g:=50) N .nil (.c (zcg N)<|.c (zbJ N)<|.nil)
def nq:dz:=⟨.mk [.p (.pt 0 0 3)] [] [.cells [xi,xl 2,.hd 1],.row 19] [] [] [],[g6 [.v ci]],λ(_,a,_)=>zdC N a⟩
def nB:f9 51 (nq N):=og (g:=51) N .nil .nil
def rT:dz:=⟨.mk [.p (.pt 0 0 27)] [] [g7 1 2 3,.cells [xi,.hd 4],.cells [xl 0,.mr 5],.row 1,.row 5,.mp 7 true] [] [] [],[.mk [.v (.st 16),.v ci] [.h 0 25 (.hd 3),.h 0 26 (xi),.h 1 1 (.hd 4),.h 2 0 (xl 0),.w 3 1,.w 4 5,.m 5 7 true] [] [(53,15),(70,15)] [(250,⟨[.r 23 ci,.h 0 26 hi,.h 2 0 (hl 0),.w 3 1,.w 4 5,.m 5 7 true,.w 8 19,.w 11 15,.w 12 15],[],[(1058817,15),(1058816,15)],[(0,25,3),(1,1,4),(7,2,8),(10,0,12),(10,1,11)]⟩),(2003,⟨[.h 0 26 hi,.h 2 0 (hl 0),.w 3 1,.w 4 5,.m 5 7 true,.w 8 19,.w 11 15,.w 12 15],[],[],[(0,25,3),(1,1,4),(7,2,8),(10,0,12),(10,1,11)]⟩),(10995116277884,⟨[],[],[(14,0)],[]⟩)] [(393229,[gA [.ag [.k j7,.pt 0 0 27],.v ci] 0,.mk [.ag [.pt 7 0 3,.pt 0 0 27],.p (.k g8)] [] [.cells [xi,xl 2,.hd 8],.row 19] [] [] []]),(8126485,[gA [.v (.c (.sl 5))] 1]),(4200857630,[gA [.v cb] 2]),(4200988707,[.mk [.v (.st 23),.v cb] [.h 7 2 (.hd 8),.w 8 19] [] [(1000000,3)] [] []]),(67217260591,[gA [.v ci] 4]),(268869435456,[.mk [.v ci] [.h 2 0 (xl 0),.m 5 7 true,.h 0 25 (.hd 3),.h 0 26 (xi),.h 1 1 (.hd 4),.w 3 1,.w 4 5] [] [(1000000,5)] [] []])]],λ(t,u,v,w,x,y,z,A,E,F,a,b,d,e,f,g,h,i,j,k,l,m,n,o,p,q,r,_,s)=>zcM N t u v w x y z A E F a b d e f g h i j k l m n o p q r s⟩
def sK:f9 12 (rT N):=og (g:=12) N .nil (.c (qW N)<|.c (kc N)<|.c (mI N)<|.c (jL N)<|.c (nB N)<|.c (zbK N)<|.nil)
def xx:dz:=⟨.mk [.p (.pt 0 0 27)] [] [g7 1 2 3,.cells [xi,.hd 4],.cells [xl 0,.mr 5],.row 1,.row 5,.mp 7 true] [] [] [],[.mk [.v (.st 16),.v ci] [.h 0 25 (.hd 3),.h 0 26 (xi),.h 1 1 (.hd 4),.h 2 0 (xl 0),.w 3 1,.w 4 5,.m 5 7 true] [] [] [] [(917512,[gA [.v (.st 10)] 0]),(917514,[g6 [.ag [.k (.c (.fn (.func 18) [] []))]],g6 [.ag [.k (.c (.fn (.func 12) [] []))]]]),(917517,[.mk [.v (.st 16),.v ci] [.h 0 25 (.hd 3),.h 0 26 (xi),.h 1 1 (.hd 4),.h 2 0 (xl 0),.w 3 1,.w 4 5,.m 5 7 true] [] [(1000000,1)] [] []]),(15716035654990179272097805,[.mk [.v (.st 16),.v ci] [.h 0 25 (.hd 3),.h 0 26 (xi),.h 1 1 (.hd 4),.h 2 0 (xl 0),.w 3 1,.w 4 5,.m 5 7 true] [] [(1000000,2)] [] []])]],λ(t,u,v,w,x,y,z,A,E,F,a,b,d,e,f,g,h,i,j,k,l,m,n,o,p,q,r,_,s)=>zc2 N t u v w x y z A E F a b d e f g h i j k l m n o p q r s⟩
def lR:f9 29 (xx N):=og (g:=29) N .nil (.c (za7 N)<|.c (yC N)<|.c (sK N)<|.nil)
def sn:bJ:=⟨[],[cb],λa=>fO N⟩
def sE:eP 28 (sn N):=tg [] [] [(393224,[gA [.p (.k j7),.p (.k (.c (.lit (.int .i64 2))))] 0,.mk [.p (.pt 0 0 27),.p (.k g8)] [] [g7 1 2 3,.cells [xi,.hd 4],.cells [xl 0,.mr 5],.row 1,.row 5,.mp 7 true] [] [] []]),(917518,[gA [.v ci] 1]),(1966096,[gA [.v cb] 2]),(4063251,[gA [.v (.st 16),.v ci] 3]),(8257575,[gA [.v cb] 5]),(7696582311950,[.mk [.v ci] [.h 1 1 (.hd 4),.w 4 5,.h 0 21 (xi),.h 0 25 (.hd 3),.w 3 1] [] [(1000000,4)] [] []]),(7696583360528,[gA [.v cb] 5]),(7696585457683,[.mk [.v (.st 16),.v ci] [.h 0 25 (.hd 3),.h 0 26 (xi),.h 1 1 (.hd 4),.h 2 0 (xl 0),.w 3 1,.w 4 5,.m 5 7 true] [] [(1000000,6)] [] []])] N (.c (sD N)<|.nil) (.c (xC N)<|.c (pa N)<|.c (vR N)<|.c (yp N)<|.c (oN N)<|.c (vS N)<|.c (lR N)<|.nil)
def vL:bJ:=⟨[.st 10],[cb],λa=>zeQ N a.1⟩
def wu:eP 43 (vL N):=tg [] [(58,k9 [.r 26 ci]),(122,k9 [.r 37 ci])] [] N .nil .nil
def wF:bJ:=⟨[.c (.sl 5)],[cb],λa=>zeM N a.1⟩
def vM:eP 44 (wF N):=tg [] [(58,k9 [.r 10 ci])] [] N .nil .nil
def vW:bJ:=⟨[.st 10,.st 14],[cb],λa=>zcC N a.1 a.2.1⟩
def wK:eP 10 (vW N):=tg [] [(6,k9 [.r 40 cb]),(58,k9 [.r 44 ci])] [] N (.c (wu N)<|.c (vM N)<|.nil) .nil
def Cn:bJ:=⟨[ci,ci,ci],[cb],λa=>zdj N a.1 a.2.1 a.2.2.1⟩
def rD:eP 131 (Cn N):=tg [] [] [] N .nil .nil
def AT:bJ:=⟨[.st 10,.st 14],[cb],λa=>jz N a.1 a.2.1⟩
def AJ:eP 68 (AT N):=tg [] [] [] N (.c (rD N)<|.nil) .nil
def EE:bJ:=⟨[ci],[ci],λa=>oh N a.1⟩
def Em:eP 133 (EE N):=tg [] [] [] N (.c (gS N)<|.nil) .nil
def Ft:bJ:=⟨[.st 10,.st 14],[cb],λa=>qB N a.1 a.2.1⟩
def Fq:eP 69 (Ft N):=tg [] [(122,k9 [.r 5 ci,.r 17 ci]),(62671,k9 [.r 72 cb])] [] N (.c (ze6 N)<|.c (Em N)<|.nil) .nil
def Iu:bJ:=⟨[.st 10,ci,.st 0],[ci],λa=>Av N a.1 a.2.1 a.2.2.1⟩
def Ih:eP 195 (Iu N):=tg [] [(122,k9 [.r 7 ci,.r 30 ci])] [] N (.c (ZC N)<|.c (zn N)<|.nil) .nil
def IC:bJ:=⟨[.st 10,ci,ci,.st 0],[cb],λa=>jk N a.1 a.2.1 a.2.2.1 a.2.2.2.1⟩
def IH:eP 135 (IC N):=tg [] [] [] N (.c (ZC N)<|.c (Ih N)<|.nil) .nil
end Go.Abs
end
end
section
set_option maxRecDepth 100000
noncomputable section
namespace Go.Abs
open Go.Proofs
variable[Gl](N:Nat)
def Cb:bJ:=⟨[.st 5,ci],[ci],λa=>gW N a.1 a.2.1⟩
def BO:eP 197 (Cb N):=tg [] [] [] N .nil .nil
def zbF:bJ:=⟨[.c (.sl 5),ci,.k 197],[ci,cb],λa=>zaz N a.1 a.2.1⟩
def zbD:eP 196 (zbF N):=tg [] [(60,k9 [.r 9 ci,.r 10 ci])] [] N (.c (BO N)<|.nil) .nil
def Fc:bJ:=⟨[.c (.sl 5),ci],[ci,cb],λa=>mA N a.1 a.2.1⟩
def wZ:eP 136 (Fc N):=tg [] [] [] N (.c (zbD N)<|.nil) .nil
def Am:bJ:=⟨[.st 10,.st 14],[cb],λa=>jy N a.1 a.2.1⟩
def AW:eP 70 (Am N):=tg [] [(26,k9 [.r 14 ci]),(211,k9 []),(27038,k9 [.r 33 ci])] [] N (.c (gS N)<|.c (IH N)<|.c (wZ N)<|.nil) .nil
def uW:bJ:=⟨[.st 10,.st 14],[cb],λa=>zeo N a.1 a.2.1⟩
def ur:eP 71 (uW N):=tg [] [(250,k9 [.r 7 (.c (.sl 7)),.r 23 ci,.h 2 0 (hl 0),.m 3 7 true]),(2003,k9 [.r 7 (.c (.sl 7)),.h 2 0 (hl 0),.m 3 7 true]),(256415,k9 [.r 74 cb,.h 2 0 (hl 0),.m 3 7 true])] [(393229,[gA [.p (.k j7),.p (.k (.c (.lit (.int .i64 2))))] 0,.mk [.p (.pt 2 0 2),.p (.k g8)] [] [.cells [xl 0,.mr 3],.mp 7 true] [] [] []]),(33608826952,[.mk [.v ci] [.h 2 0 (xl 0),.m 3 7 true] [] [(1000000,1)] [] []])] N (.c (zeY N)<|.c (tp N)<|.nil) (.c (zeX N)<|.c (zcm N)<|.nil)
def zF:bJ:=⟨[.st 10,.st 14],[cb],λa=>hZ N a.1 a.2.1⟩
def yX:eP 72 (zF N):=tg [] [(58,k9 [.r 23 ci]),(122,k9 [.r 43 ci]),(125342,k9 [.r 60 ci])] [] N (.c (xp N)<|.c (wZ N)<|.c (xg N)<|.nil) .nil
def Du:bJ:=⟨[.c (.sl 1)],[cb],λa=>oe N a.1⟩
def CY:eP 139 (Du N):=tg [] [(26,k9 [.r 7 ci])] [] N .nil .nil
def DP:bJ:=⟨[.st 10,.st 14],[cb],λa=>oq N a.1 a.2.1⟩
def DO:eP 73 (DP N):=tg [] [(6,k9 [.r 18 cb]),(14,k9 [.r 33 cb]),(122,k9 [.r 38 ci])] [] N (.c (rD N)<|.c (CY N)<|.nil) .nil
def EK:bJ:=⟨[.st 10,.st 14],[cb],λa=>nI N a.1 a.2.1⟩
def DV:eP 20 (EK N):=tg [] [] [] N (.c (ZC N)<|.c (AJ N)<|.c (Fq N)<|.c (AW N)<|.c (ur N)<|.c (yX N)<|.c (DO N)<|.nil) .nil
def yu:dz:=⟨g6 [.v (.st 10)],[.mk [.p (.k j7),.p (.k (.c (.lit (.int .i64 2))))] [] [] [(37,1)] [] [(917517,[gA [.p (.k j7),.p (.k (.c (.lit (.int .i64 2))))] 0,.mk [.p (.pt 1 0 2),.p (.k g8)] [] [.cells [xi,xn]] [] [] []]),(4063253,[gA [.p (.k j7),.p (.k (.c (.lit (.int .i64 2))))] 1,.mk [.p (.pt 2 0 2),.p (.k g8)] [] [.cells [xl 0,.mr 3],.mp 7 true] [] [] []])],.mk [.p (.pt 0 0 27),.p (.k g8)] [] [.cells [.pt 1 0 2,.pt 2 0 2,xl 0,xl 2,xl 3,xi,xi,xi,xi,xi,xi,xi,xi,xi,xi,xi,xi,xi,xi,xi,xi,xi,xi,xn,xl 1,.hd 3,xi],.cells [xi,xn],.cells [xl 0,.mr 4],.row 1,.mp 7 true] [] [] []],λa=>fJ N a⟩
def xG:f9 39 (yu N):=og (g:=39) N (.c (ZC N)<|.c (gT N)<|.c (yJ N)<|.nil) (.c (ng N)<|.c (zeX N)<|.nil)
def zdh:dz:=⟨g6 [.v (.c (.sl 8))],[.mk [.p (.hd 0)] [] [.row 8] [] [] []],λx=>za8 N x⟩
def zdg:f9 57 (zdh N):=jm (i:=8) (sz:=32) (z:=[g8,g8,g8,g8]) (fn:=Tryz.f57) dD (by kernel_rfl) (by kernel_rfl) (by kernel_rfl) rfl
def kB:dz:=⟨g6 [.v (.c (.sl 1))],[.mk [.p (.hd 0)] [] [.row 1] [] [] []],λx=>zbm N x⟩
def kA:f9 58 (kB N):=jm (i:=1) (sz:=8) (z:=[g8]) (fn:=Tryz.f58) dD (by kernel_rfl) (by kernel_rfl) (by kernel_rfl) rfl
def yK:dz:=⟨g6 [.v (.st 10),.v (.st 14)],[.mk [.p (.k j7),.v ci] [] [] [] [(250,⟨[.r 29 ci,.w 7 5],[],[(1051649,5)],[(3,1,7)]⟩),(506,k9 [.r 46 ci,.h 4 0 (hl 0),.m 6 7 true])] [(917524,[gA [.p (.k j7),.p (.k (.c (.lit (.int .i64 2))))] 0,.mk [.p (.pt 2 0 27),.p (.k g8)] [] [.cells [.pt 3 0 2,.pt 4 0 2,xl 0,xl 2,xl 3,xi,xi,xi,xi,xi,xi,xi,xi,xi,xi,xi,xi,xi,xi,xi,xi,xi,xi,xn,xl 1,.hd 5,xi],.cells [xi,xn],.cells [xl 0,.mr 6],.row 1,.mp 7 true] [] [] []]),(33423438,[.mk [.p (.hd 8)] [] [.row 8] [(1000000,3)] [] []]),(66977876,[.mk [.p (.hd 9)] [] [.row 1] [(1000000,4)] [] []]),(134086747,[.mk [.p (.hd 10)] [] [.row 1] [(1000000,4)] [] []]),(2100428838,[.mk [.v ci] [.h 3 1 (.hd 7),.w 7 5] [] [(1000000,1)] [] []]),(4247912503,[.mk [.v ci] [.h 4 0 (xl 0),.m 6 7 true] [] [(1000000,2)] [] []])],.mk [.p (.pt 0 0 27),.p (.k g8)] [] [g7 1 2 3,.cells [xi,.hd 4],.cells [xl 0,.mr 5],.row 1,.row 5,.mp 7 true] [] [] []],λ(a,b)=>dA N a b⟩
def yO:f9 45 (yK N):=og (g:=45) N (.c (DV N)<|.nil) (.c (xG N)<|.c (ze5 N)<|.c (zcm N)<|.c (zdg N)<|.c (kA N)<|.nil)
def xK:bJ:=⟨[ci,ci,ci],[cb],λa=>Ae N a.1 a.2.1 a.2.2.1⟩
def zdL:eP 215 (xK N):=tg [] [] [] N .nil .nil
def se:bJ:=⟨[ci],[cb],λa=>zb1 N a.1⟩
def rX:eP 202 (se N):=tg [] [] [] N .nil .nil
def sO:bJ:=⟨[.st 0],[cb],λa=>ZB N a.1⟩
def zcR:eP 144 (sO N):=tg [] [] [] N (.c (rX N)<|.nil) .nil
def sF:bJ:=⟨[.st 10],[cb],λa=>zcO N a.1⟩
def rW:eP 216 (sF N):=tg [] [(26,k9 [.r 3 ci])] [] N (.c (zcR N)<|.c (zdL N)<|.nil) .nil
def ru:bJ:=⟨[.c (.sl 1),ci],[cb],λa=>zcl N a.1 a.2.1⟩
def gY:eP 257 (ru N):=tg [] [(26,k9 [.r 5 ci]),(420,k9 [.r 40 cb])] [] N .nil .nil
def sX:bJ:=⟨[.st 10],[cb],λa=>zcP N a.1⟩
def sP:eP 217 (sX N):=tg [] [(26,k9 [.r 3 ci]),(420,k9 [.r 29 cb])] [] N (.c (gY N)<|.c (zdL N)<|.nil) .nil
def qN:bJ:=⟨[.st 10],[cb],λa=>zct N a.1⟩
def qt:eP 218 (qN N):=tg [] [(26,k9 [.r 3 ci]),(841,k9 [.r 59 cb])] [] N (.c (gY N)<|.c (zdL N)<|.nil) .nil
def uv:bJ:=⟨[.st 10],[.c .str],λa=>iA N a.1⟩
def tP:eP 168 (uv N):=tg [(28,24),(69,25)] [(7,k9 [.r 4 cb]),(506,k9 [.r 7 ci])] [] N (.c (rW N)<|.c (sP N)<|.c (zdL N)<|.c (qt N)<|.nil) .nil
def sY:bJ:=⟨[.st 10],[cb],λa=>zcK N a.1⟩
def sJ:eP 107 (sY N):=tg [] [] [] N (.c (tP N)<|.nil) .nil
def su:bJ:=⟨[ci],[cb],λa=>zbk N a.1⟩
def iN:eP 108 (su N):=tg [] [] [] N .nil .nil
def tE:bJ:=⟨[.c (.sl 5),ci],[ci],λa=>ZL N a.1 a.2.1⟩
def zc1:eP 21 (tE N):=tg [] [(26,k9 [.r 5 ci])] [] N .nil .nil
def sU:bJ:=⟨[.c (.sl 6),ci],[cb],λa=>zbw N a.1 a.2.1⟩
def iS:eP 76 (sU N):=tg [] [(26,k9 [.r 5 ci]),(420,k9 [.r 60 cb])] [] N .nil .nil
def xN:bJ:=⟨[.c (.sl 6),ci],[ci],λa=>zcn N a.1 a.2.1⟩
def fL:eP 38 (xN N):=tg [] [(58,k9 [.r 5 ci,.r 6 ci]),(233,k9 [.r 5 ci])] [] N .nil .nil
def wz:bJ:=⟨[.st 0,.st 0],[.st 0],λa=>RY N a.1 a.2.1⟩
def zdk:eP 36 (wz N):=tg [] [] [] N .nil .nil
def sH:bJ:=⟨[.st 0,ci],[.st 0],λa=>zb5 N a.1 a.2.1⟩
def iQ:eP 37 (sH N):=tg [] [(58,k9 [.r 6 ci,.h 2 0 hi,.h 2 1 hi,.h 2 2 hi,.h 2 3 hi])] [] N (.c (zdk N)<|.nil) .nil
def tt:bJ:=⟨[.st 0,.st 0],[cb],λa=>Pq N a.1 a.2.1⟩
def zeu:eP 201 (tt N):=tg [] [] [] N .nil .nil
def wI:bJ:=⟨[.st 0,.st 0],[.st 0],λa=>zcE N a.1 a.2.1⟩
def vH:eP 203 (wI N):=tg [] [] [] N .nil .nil
def uj:bJ:=⟨[.c (.sl 0),.c (.sl 7)],[.c (.sl 0),cb],λa=>zem N a.1 a.2.1⟩
def uU:eP 146 (uj N):=tg [(55,0)] [(122,⟨[.r 7 cb,.r 8 ci,.w 0 0],[(6,0)],[(6,0)],[]⟩),(7827,k9 [.r 7 cb]),(31306,k9 [.r 10 ci,.h 1 0 hi,.h 1 1 hi,.h 1 2 hi,.h 1 3 hi])] [] N (.c (fL N)<|.c (iQ N)<|.c (zdk N)<|.c (vH N)<|.c (zeu N)<|.nil) .nil
def qJ:bJ:=⟨[.st 10,.st 14],[cb],λa=>zdo N a.1 a.2.1⟩
def qD:eP 109 (qJ N):=tg [] [(26,k9 [.r 5 ci]),(841,k9 [.r 57 cb])] [] N (.c (zc1 N)<|.c (iS N)<|.c (zcR N)<|.c (uU N)<|.nil) .nil
def sR:bJ:=⟨[.st 14,ci,ci],[cb],λa=>zdJ N a.1 a.2.1 a.2.2.1⟩
def r_:eP 169 (sR N):=tg [] [(26,k9 [.r 7 ci]),(841,k9 [.r 54 cb])] [] N (.c (zc1 N)<|.c (fL N)<|.nil) .nil
def vZ:bJ:=⟨[.st 8,ci],[cb],λa=>zeK N a.1 a.2.1⟩
def wy:eP 219 (vZ N):=tg [] [] [] N (.c (iN N)<|.nil) .nil
def rU:bJ:=⟨[.c (.sl 8),ci,ci,ci],[cb],λa=>zb0 N a.1 a.2.1 a.2.2.1 a.2.2.2.1⟩
def si:eP 25 (rU N):=tg [] [(26,k9 [.r 9 ci])] [] N .nil .nil
def rM:bJ:=⟨[.c (.sl 8),ci],[cb],λa=>zdG N a.1 a.2.1⟩
def sv:eP 170 (rM N):=tg [] [(26,k9 [.r 5 ci]),(3366,k9 [.r 6 ci]),(53860,k9 [.r 58 cb])] [] N (.c (wy N)<|.c (si N)<|.nil) .nil
def sG:bJ:=⟨[.st 10,.st 14],[cb],λa=>zdE N a.1 a.2.1⟩
def sL:eP 110 (sG N):=tg [] [(26,k9 [.r 5 ci]),(841,k9 [.r 38 cb])] [] N (.c (r_ N)<|.c (sv N)<|.nil) .nil
def vN:bJ:=⟨[.c (.sl 1),ci],[cb],λa=>zeJ N a.1 a.2.1⟩
def wk:eP 111 (vN N):=tg [] [(26,k9 [.r 5 ci]),(420,k9 [.r 23 cb])] [] N .nil .nil
def yw:bJ:=⟨[ci,ci,ci],[cb],λa=>SA N a.1 a.2.1 a.2.2.1⟩
def ya:eP 200 (yw N):=tg [] [] [] N .nil .nil
def sV:bJ:=⟨[.st 5],[cb],λa=>zdK N a.1⟩
def rY:eP 142 (sV N):=tg [] [(14,k9 [.r 61 cb]),(26,k9 [.r 3 ci]),(30,k9 [.r 85 cb]),(62,k9 [.r 101 cb]),(126,k9 [.r 119 cb])] [] N (.c (ya N)<|.c (zcR N)<|.c (zeu N)<|.nil) .nil
def t_:bJ:=⟨[.c (.sl 7),ci],[ci],λa=>zeh N a.1 a.2.1⟩
def uh:eP 145 (t_ N):=tg [] [(26,k9 [.r 5 ci])] [] N .nil .nil
def vP:bJ:=⟨[.st 5],[cb],λa=>zeO N a.1⟩
def wE:eP 91 (vP N):=tg [] [] [] N .nil .nil
def sS:bJ:=⟨[.st 0,.st 0],[ci],λa=>zbz N a.1 a.2.1⟩
def sN:eP 258 (sS N):=tg [] [(6,k9 [.r 19 cb]),(124,k9 [.r 5 ci,.h 2 0 hi,.h 2 1 hi,.h 2 2 hi,.h 2 3 hi]),(496,k9 [.r 27 cb])] [] N (.c (zdk N)<|.c (zeu N)<|.c (zcR N)<|.nil) .nil
def uG:bJ:=⟨[.st 10,ci,.st 0],[ci],λa=>gQ N a.1 a.2.1 a.2.2.1⟩
def tS:eP 220 (uG N):=tg [] [(122,k9 [.r 7 ci,.r 8 ci])] [] N (.c (sN N)<|.nil) .nil
def uP:bJ:=⟨[.st 10,ci,ci,.st 0],[cb],λa=>zdf N a.1 a.2.1 a.2.2.1 a.2.2.2.1⟩
def un:eP 171 (uP N):=tg [] [] [] N (.c (tS N)<|.nil) .nil
def rN:bJ:=⟨[.c (.sl 6)],[ci],λa=>zcJ N a.1⟩
def iJ:eP 24 (rN N):=tg [] [(58,k9 [.r 3 ci,.r 4 ci]),(233,k9 [.r 3 ci])] [] N .nil .nil
def vU:bJ:=⟨[.c (.sl 1),ci],[cb],λa=>zeN N a.1 a.2.1⟩
def wB:eP 77 (vU N):=tg [] [(26,k9 [.r 5 ci])] [] N .nil .nil
def uC:bJ:=⟨[.st 10,.st 5,.c (.sl 6)],[cb],λa=>zed N a.1 a.2.1 a.2.2.1⟩
def tW:eP 23 (uC N):=tg [] [(6,k9 [.r 34 cb]),(122,k9 [.r 8 ci])] [] N (.c (wB N)<|.c (iS N)<|.c (iJ N)<|.nil) .nil
def wJ:bJ:=⟨[.st 10,.st 14,.st 5],[cb],λa=>zeP N a.1 a.2.1 a.2.2.1⟩
def vT:eP 112 (wJ N):=tg [] [(15,k9 [.r 7 ci]),(31,k9 [.r 7 ci]),(63,k9 [.r 7 ci]),(510,k9 [.r 83 cb]),(8186,k9 [.r 9 ci])] [] N (.c (rY N)<|.c (uh N)<|.c (zc1 N)<|.c (un N)<|.c (wE N)<|.c (tW N)<|.nil) .nil
def sf:bJ:=⟨[.st 10,.st 14],[cb],λa=>zcL N a.1 a.2.1⟩
def rV:eP 46 (sf N):=tg [] [(6,k9 [.r 43 cb]),(14,k9 [.r 86 cb]),(122,k9 [.r 5 ci]),(250,k9 [.r 6 ci]),(4004,k9 [.r 138 cb])] [] N (.c (iN N)<|.c (vT N)<|.c (qD N)<|.c (sL N)<|.c (wk N)<|.c (sJ N)<|.nil) .nil
def uI:bJ:=⟨[.st 5,.st 5],[cb],λa=>zel N a.1 a.2.1⟩
def tH:eP 149 (uI N):=tg [] [(58,k9 [.r 5 ci])] [] N .nil .nil
def uB:bJ:=⟨[.c (.sl 5),.c (.sl 5)],[cb],λa=>zei N a.1 a.2.1⟩
def uc:eP 83 (uB N):=tg [] [(58,k9 [.r 5 ci])] [] N (.c (tH N)<|.nil) .nil
def ul:bJ:=⟨[.c (.sl 6),.c (.sl 6)],[cb],λa=>zep N a.1 a.2.1⟩
def tU:eP 123 (ul N):=tg [] [(58,k9 [.r 5 ci])] [] N .nil .nil
def tM:bJ:=⟨[.c (.sl 7),.c (.sl 7)],[cb],λa=>zec N a.1 a.2.1⟩
def uL:eP 84 (tM N):=tg [] [(58,k9 [.r 5 ci]),(932,k9 [.r 54 cb])] [] N (.c (tU N)<|.nil) .nil
def tK:bJ:=⟨[.c (.sl 8),.c (.sl 8)],[cb],λa=>zej N a.1 a.2.1⟩
def uZ:eP 85 (tK N):=tg [] [(58,k9 [.r 5 ci])] [] N .nil .nil
def uN:bJ:=⟨[.c (.sl 1),.c (.sl 1)],[cb],λa=>zda N a.1 a.2.1⟩
def uT:eP 86 (uN N):=tg [] [(58,k9 [.r 5 ci])] [] N .nil .nil
def tX:bJ:=⟨[.st 14,.st 14],[cb],λa=>zeb N a.1 a.2.1⟩
def us:eP 27 (tX N):=tg [] [] [] N (.c (uc N)<|.c (uL N)<|.c (uZ N)<|.c (uT N)<|.nil) .nil
end Go.Abs
end
end
section
set_option maxRecDepth 100000
noncomputable section
namespace Go.Abs
open Go.Proofs
variable[Gl](N:Nat)
def oA:dz:=⟨g6 [.v (.st 10),.v (.st 14)],[.mk [.p (.k j7),.v cb] [] [] [] [] [(393227,[gA [.p (.k j7),.v ci] 0,.mk [.p (.pt 2 0 27),.p (.k g8)] [] [g7 3 4 5,.cells [xi,.hd 6],.cells [xl 0,.mr 7],.row 1,.row 5,.mp 7 true] [] [] []]),(1966113,[gA [.v (.st 14)] 1])],.mk [.p (.pt 0 0 27),.v cb] [] [g7 1 2 3,.cells [xi,.hd 4],.cells [xl 0,.mr 5],.row 1,.row 5,.mp 7 true] [] [] []],λ(a,b)=>cj N a b⟩
def oW:f9 11 (oA N):=og (g:=11) N (.c (rV N)<|.c (us N)<|.nil) (.c (yO N)<|.c (zbg N)<|.nil)
def lj:dz:=⟨.mk [.p (.pt 0 0 2)] [] [.cells [xl 0,.mr 1],.mp 7 true] [] [] [],[g6 [.v (.c (.sl 0))]],λ(_,a)=>zc3 N a⟩
def kW:f9 95 (lj N):=og (g:=95) N (.c (zbI N)<|.nil) .nil
def nC:dz:=⟨.mk [.p (.pt 0 0 27)] [] [g7 1 2 3,.cells [xi,.hd 4],.cells [xl 0,.mr 5],.row 1,.row 5,.mp 7 true] [] [] [],[.mk [.v (.c (.sl 0))] [] [] [] [] [(917513,[gA [.v (.c (.sl 0))] 0])]],λ(_,_,_,_,_,_,_,_,_,_,_,_,_,_,_,_,_,_,_,_,_,_,_,_,_,_,_,_,a)=>zbP N a⟩
def nk:f9 35 (nC N):=og (g:=35) N .nil (.c (kW N)<|.nil)
def mf:bJ:=⟨[.st 9],[cb],λa=>zdq N a.1⟩
def mL:eP 8 (mf N):=tg [] [(8186,k9 [.r 57 ci]),(8382874,k9 [.r 67 ci,.h 8 0 hi,.h 8 1 hi,.h 8 2 hi,.h 8 3 hi]),(2146015846,k9 [.r 91 cb])] [(1966107,[gA [.p (.k j7),.v cb] 0,.mk [.p (.pt 1 0 27),.v cb] [] [g7 2 3 4,.cells [xi,.hd 5],.cells [xl 0,.mr 6],.row 1,.row 5,.mp 7 true] [] [] []]),(8257574,[gA [.v (.c (.sl 0))] 1]),(16646185,[.mk [.v (.st 16),.v ci] [.h 1 25 (.hd 4),.h 1 26 (xi),.h 2 1 (.hd 5),.h 3 0 (xl 0),.w 4 1,.w 5 5,.m 6 7 true] [] [(1000000,2)] [] []]),(33423405,[gA [.v (.c (.sl 0))] 1])] N (.c (sE N)<|.c (wK N)<|.c (zc1 N)<|.c (fL N)<|.c (iQ N)<|.c (zdk N)<|.c (iJ N)<|.nil) (.c (oW N)<|.c (nk N)<|.c (lR N)<|.nil)
end Go.Abs
end
end
section
end
