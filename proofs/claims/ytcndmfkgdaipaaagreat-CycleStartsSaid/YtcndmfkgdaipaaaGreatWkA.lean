/- Lemmas. -/
import Derived.Test.YtcndmfkgdaipaaaGreatTyPure
import Derived.Test.YtcndmfkgdaipaaaGreatProg
import Derived.Test.YtcndmfkgdaipaaaGreatTyPrim
import Derived.KernelRfl
set_option linter.all false
section
set_option maxRecDepth 100000
noncomputable section
namespace Go.Abs
open Go.Proofs
variable[Gl]
abbrev ci:dt:=.c (.int .i64)
abbrev cb:dt:=.c .bool
abbrev xi:CP:=.c (.int .i64)
abbrev xb:CP:=.c .bool
abbrev xl(n:Nat):CP:=.c (.sl n)
abbrev xn:CP:=.k (.c (.lit (.slice none 0 0)))
abbrev hi:It:=.cc (.int .i64)
abbrev hb:It:=.cc .bool
abbrev hl(n:Nat):It:=.cc (.sl n)
def dG:Tryz.prog.follows .mixedOrders=true:=by kernel_rfl
def KB:dj:=JT 120 182 1 (λk=>k)
def KB_ok:dj.ok Tryz.prog KB:=Rl Tryz.TK (λk=>rfl)
theorem tg{g:Nat}{S:sq}{s:bE}(H:List (Nat×Nat))(J:List (Nat×JH))(C:List (Nat×List CT))(N:Nat)(b:fF Tryz.prog S){O:OH}(d:uw Tryz.prog O)(h:∀a,tG Tryz.prog g S O KB H J C s.ins s.out N a=s.f a:=by intro _;kernel_rfl):bJ Tryz.prog g s:=tG_ok dG b d KB_ok h
theorem og{g:Nat}{S:sq}{O:OH}{s:dC}(N:Nat)(a:fF Tryz.prog S)(b:uw Tryz.prog O)(d:aW Tryz.prog g=true:=by kernel_rfl)(h:∀x,oG Tryz.prog g S O KB N s x=s.f x:=by intro _;kernel_rfl):dg Tryz.prog g s:=oG_ok dG a b KB_ok d h
abbrev fF.c:=@fF.cons
abbrev uw.c:=@uw.cons
abbrev eP(g:Nat)(s:bE):=bJ Tryz.prog g s
abbrev f9(g:Nat)(s:dC):=dg Tryz.prog g s
abbrev k9(l:List Pl):JH:=⟨l,[],[],[]⟩
abbrev g8:D:=.c (.lit (.int .i64 0))
abbrev j7:D:=.c (.lit (.pointer none))
abbrev k8:D:=.c (.lit (.slice none 0 0))
abbrev gA(l:List RO)(n:Nat):CT:=.mk l [] [] [(1000000,n)] [] []
abbrev g6(l:List RO):CT:=.mk l [] [] [] [] []
abbrev g7(a b c:Nat):NB:=.cells [.pt a 0 2,.pt b 0 2,xl 0,xl 2,xl 3,xi,xi,xi,xi,xi,xi,xi,xi,xi,xi,xi,xi,xi,xi,xi,xi,xi,xi,xl 8,xl 1,.hd c,xi]
end Go.Abs
end
end
section
set_option maxRecDepth 100000
noncomputable section
namespace Go.Abs
open Go.Proofs
variable[Gl](N:Nat)
def tJ:bE:=⟨[],[.st 10],λa=>fR N⟩
def sU:eP 40 (tJ N):=clo_ok (P:=Tryz.prog) (g:=40) (out:=[.st 10]) (λa=>fR N) dG (by kernel_rfl)
def Fs:bE:=⟨[.st 0],[.st 11],λa=>gz N a.1⟩
def us:eP 209 (Fs N):=tg [] [] [] N .nil .nil
def IS:bE:=⟨[.st 0],[cb],λa=>Ov N a.1⟩
def Zq:eP 163 (IS N):=tg [] [(26,k9 [.r 7 ci])] [] N (.c (us N)<|.nil) .nil
def yh:bE:=⟨[.st 10],[cb],λa=>fL N a.1⟩
def yQ:eP 243 (yh N):=tg [] [(58,k9 [.r 18 ci])] [] N (.c (Zq N)<|.nil) .nil
def Ao:bE:=⟨[.c (.sl 1),ci],[cb],λa=>zeU N a.1 a.2.1⟩
def nZ:eP 282 (Ao N):=tg [] [(58,k9 [.r 5 ci,.r 10 ci])] [] N .nil .nil
def yX:bE:=⟨[.st 10],[cb],λa=>fO N a.1⟩
def ye:eP 245 (yX N):=tg [] [(58,k9 [.r 18 ci]),(3737,k9 [.r 32 cb])] [] N (.c (nZ N)<|.nil) .nil
def wJ:bE:=⟨[.st 10],[cb],λa=>zeY N a.1⟩
def wL:eP 248 (wJ N):=tg [] [(58,k9 [.r 20 ci]),(7474,k9 [.r 42 cb]),(59802,k9 [.r 50 ci])] [] N (.c (nZ N)<|.nil) .nil
def vk:bE:=⟨[.st 12],[cb],λa=>zeA N a.1⟩
def tZ:eP 250 (vk N):=tg [] [(26,k9 [.r 14 ci])] [] N .nil .nil
def J_:bE:=⟨[.st 10],[.c .str],λa=>BG N a.1⟩
def JB:eP 130 (J_ N):=tg [] [(26,⟨[],[],[(1000003,40)],[]⟩)] [(786438,[.mk [] [] [] [(1000002,0),(43,1000001)] [] [(393225,[.mk [] [] [] [(1000002,0)] [] []]),(393232,[.mk [] [] [] [(1000002,0)] [] []]),(393237,[.mk [] [] [] [(1000002,0)] [] []]),(393240,[.mk [] [] [] [(1000002,0)] [] []]),(393243,[.mk [] [] [] [(1000002,0)] [] []]),(393246,[.mk [] [] [] [(1000002,0)] [] []]),(393249,[.mk [] [] [] [(1000002,0)] [] []]),(393252,[.mk [] [] [] [(1000002,0)] [] []]),(393255,[.mk [] [] [] [(1000002,0)] [] []]),(393258,[.mk [] [] [] [(1000002,0)] [] []])]]),(221380622,[g6 [.v cb]])] N (.c (yQ N)<|.c (ye N)<|.c (wL N)<|.c (tZ N)<|.nil) .nil
def Gm:bE:=⟨[.st 10],[cb],λa=>PF N a.1⟩
def zbX:eP 67 (Gm N):=tg [] [] [] N (.c (JB N)<|.nil) .nil
def yU:dC:=⟨g6 [.v ci],[g6 [.p (.k j7),.p (.k (.c (.lit (.int .i64 2))))],.mk [.p (.pt 0 0 2),.p (.k g8)] [] [.cells [xi,xn]] [] [] []],λa=>zen N a⟩
def mA:f9 96 (yU N):=og (g:=96) N .nil .nil
def ij:bE:=⟨[.c (.sl 0)],[.c (.sl 0)],λa=>za6 N a.1⟩
def zc8:eP 152 (ij N):=vu (i:=0) (sz:=32) (z:=[g8,g8,g8,g8]) (fn:=Tryz.f152) dG (by kernel_rfl) (by kernel_rfl) (by kernel_rfl) rfl
def wG:dC:=⟨g6 [.v (.st 10)],[.mk [.p (.k j7),.p (.k (.c (.lit (.int .i64 2))))] [] [] [(10,15)] [] [],.mk [.p (.pt 0 0 2),.p (.k g8)] [] [.cells [xl 0,.mr 1],.mp 7 true] [] [] []],λa=>zcM N a⟩
def zfb:f9 97 (wG N):=og (g:=97) N (.c (zbX N)<|.c (zc8 N)<|.nil) .nil
def jr:dC:=⟨g6 [.v (.c (.sl 2))],[.mk [.p (.hd 0)] [] [.row 2] [] [] []],λx=>zcv N x⟩
def jp:f9 153 (jr N):=jg (i:=2) (sz:=24) (z:=[k8]) (fn:=Tryz.f153) dG (by kernel_rfl) (by kernel_rfl) (by kernel_rfl) rfl
def oQ:bE:=⟨[.c (.sl 1)],[.c (.sl 1)],λa=>zaY N a.1⟩
def zdl:eP 58 (oQ N):=vu (i:=1) (sz:=8) (z:=[g8]) (fn:=Tryz.f58) dG (by kernel_rfl) (by kernel_rfl) (by kernel_rfl) rfl
def zd8:dC:=⟨g6 [.v (.c (.sl 3))],[.mk [.p (.hd 0)] [] [.row 3] [] [] []],λx=>zbl N x⟩
def zd7:f9 154 (zd8 N):=jg (i:=3) (sz:=64) (z:=[g8,k8,g8,g8,g8,g8]) (fn:=Tryz.f154) dG (by kernel_rfl) (by kernel_rfl) (by kernel_rfl) rfl
def zT:bE:=⟨[.st 10],[.st 10],λa=>zc5 N a.1⟩
def gY:eP 98 (zT N):=tg [] [(122,⟨[.r 16 ci,.w 2 2],[],[],[(0,1,2)]⟩),(506,⟨[.r 37 ci,.w 3 3],[],[],[(0,2,3)]⟩)] [(917515,[.mk [.p (.hd 2)] [] [.row 2] [(1000000,0)] [] []]),(4063264,[.mk [.p (.hd 3)] [] [.row 3] [(1000000,1)] [] []])] N (.c (zc8 N)<|.c (zdl N)<|.nil) (.c (jp N)<|.c (zd7 N)<|.nil)
def CO:bE:=⟨[ci,ci,ci],[ci],λa=>Wb N a.1 a.2.1 a.2.2.1⟩
def fN:eP 155 (CO N):=tg [] [] [] N .nil .nil
def KH:bE:=⟨[ci],[.c (.sl 1)],λa=>pL N a.1⟩
def Aa:eP 99 (KH N):=tg [(5,1)] [] [] N (.c (fN N)<|.nil) .nil
def yN:dC:=⟨g6 [.v (.st 10)],[.mk [.p (.k j7),.p (.k (.c (.lit (.int .i64 2))))] [] [] [(37,1)] [(3298534883343,⟨[],[],[(1049601,5)],[]⟩)] [(917517,[gA [.p (.k j7),.p (.k (.c (.lit (.int .i64 2))))] 0,.mk [.p (.pt 1 0 2),.p (.k g8)] [] [.cells [xi,xn]] [] [] []]),(4063253,[gA [.p (.k j7),.p (.k (.c (.lit (.int .i64 2))))] 1,.mk [.p (.pt 3 0 2),.p (.k g8)] [] [.cells [xl 0,.mr 4],.mp 7 true] [] [] []])],.mk [.p (.pt 0 0 27),.p (.k g8)] [] [g7 1 2 3,.cells [xi,.hd 4],.cells [xl 0,.mr 5],.row 1,.row 5,.mp 7 true] [] [] []],λa=>r_ N a⟩
def zf:f9 39 (yN N):=og (g:=39) N (.c (zbX N)<|.c (gY N)<|.c (Aa N)<|.nil) (.c (mA N)<|.c (zfb N)<|.nil)
def pp:dC:=⟨g6 [.p (.k j7),.v (.st 5)],[g6 [.v ci]],λx=>iY N⟩
def oE:f9 87 (pp N):=og (g:=87) N .nil .nil
def mQ:dC:=⟨g6 [.p (.k j7)],[g6 [.v (.st 14)]],λx=>gu N⟩
def nq:f9 15 (mQ N):=og (g:=15) N .nil .nil
def Lq:bE:=⟨[ci],[cb],λa=>Pm N a.1⟩
def zff:eP 90 (Lq N):=tg [] [] [] N .nil .nil
def xu:dC:=⟨g6 [.p (.k j7)],[.mk [.v cb] [] [] [] [(26,k9 [.r 9 ci])] [(786438,[gA [.v (.st 14)] 0])]],λx=>pT N⟩
def wz:f9 30 (xu N):=og (g:=30) N (.c (zff N)<|.nil) (.c (nq N)<|.nil)
def zc:dC:=⟨g6 [.p (.k j7)],[g6 [.v (.st 16),.v ci]],λx=>rX N⟩
def yq:f9 29 (zc N):=og (g:=29) N .nil .nil
def Gv:bE:=⟨[ci,ci,ci],[cb],λa=>Ou N a.1 a.2.1 a.2.2.1⟩
def pu:eP 160 (Gv N):=tg [] [] [] N .nil .nil
def Ak:bE:=⟨[.st 5],[cb],λa=>ic N a.1⟩
def zi:eP 193 (Ak N):=tg [] [(58,k9 [.r 12 ci])] [] N (.c (pu N)<|.nil) .nil
def Ji:bE:=⟨[ci],[.c .str],λa=>vD N a.1⟩
def KI:eP 252 (Ji N):=tg [] [] [] N .nil .nil
def Gh:bE:=⟨[ci],[cb],λa=>jd N a.1⟩
def xS:eP 208 (Gh N):=tg [] [] [] N .nil .nil
def IE:bE:=⟨[ci],[cb],λa=>VY N a.1⟩
def gG:eP 134 (IE N):=tg [] [] [] N .nil .nil
def Aq:bE:=⟨[.st 5],[cb],λa=>gX N a.1⟩
def zW:eP 194 (Aq N):=tg [] [(51,k9 [.r 8 cb]),(207,k9 [.r 17 cb])] [] N (.c (KI N)<|.c (gG N)<|.c (xS N)<|.nil) .nil
def Kr:bE:=⟨[.st 5],[cb],λa=>zeQ N a.1⟩
def zfi:eP 132 (Kr N):=tg [] [] [] N (.c (pu N)<|.c (Zq N)<|.c (zi N)<|.c (zW N)<|.nil) .nil
def ie:bE:=⟨[.c (.sl 4)],[.c (.sl 4)],λa=>zax N a.1⟩
def zbI:eP 162 (ie N):=vu (i:=4) (sz:=16) (z:=[g8,.c (.lit (.bool false))]) (fn:=Tryz.f162) dG (by kernel_rfl) (by kernel_rfl) (by kernel_rfl) rfl
def Jk:bE:=⟨[.st 5],[.st 5],λa=>jm N a.1⟩
def lM:eP 119 (Jk N):=tg [] [] [] N (.c (zbI N)<|.nil) .nil
def nD:dC:=⟨.mk [.p (.pt 0 0 2),.v ci] [] [.cells [xi,.hd 1],.row 5] [] [] [],[.mk [.v ci,.v cb] [] [] [] [] [(393229,[.mk [.v ci] [] [] [] [(28,k9 [.r 5 ci,.r 6 ci])] [(59375636,[g6 [.v cb]])]])]],λ(a,b,_)=>zaM N a b⟩
def zc3:f9 156 (nD N):=og (g:=156) N .nil .nil
def zei:dC:=⟨.mk [.p (.hd 0),.v ci,.p (.hd 1)] [] [.row 5,.row 5] [] [] [],[.mk [.p (.hd 0)] [.w 0 5] [] [] [] []],λ(a,b,d)=>zbq N a b d⟩
def zeg:f9 167 (zei N):=og (g:=167) N .nil .nil
def oO:dC:=⟨.mk [.p (.pt 0 0 2),.v (.st 5)] [] [.cells [xi,.hd 1],.row 5] [] [] [],[.mk [.v ci] [.h 0 1 (.hd 1),.w 1 5] [] [(38,5)] [] [(1966096,[gA [.v ci,.v cb] 0]),(16646183,[.mk [.p (.hd 1)] [.w 1 5] [] [(1000000,1)] [] []])]],λ(a,b,d)=>zbY N a b d⟩
def zfh:f9 106 (oO N):=og (g:=106) N (.c (zfi N)<|.c (lM N)<|.nil) (.c (zc3 N)<|.c (zeg N)<|.nil)
def Fv:bE:=⟨[ci],[ci],λa=>ke N a.1⟩
def uu:eP 104 (Fv N):=tg [] [] [] N .nil .nil
def mW:dC:=⟨.mk [.p (.pt 0 0 27),.v ci] [] [g7 1 2 3,.cells [xi,.hd 4],.cells [xl 0,.mr 5],.row 1,.row 5,.mp 7 true] [] [] [],[.mk [] [.w 3 1,.h 0 25 (.hd 3)] [] [] [] []],λ(a,_,_,b,_,_,_,_,_,_,_,_,_,_,_,_,_,_,_,_,_,_,_,_,_,_,_,_,_,_)=>zbf N a b⟩
def zeF:f9 150 (mW N):=og (g:=150) N (.c (uu N)<|.nil) .nil
def pj:dC:=⟨.mk [.p (.pt 0 0 27),.v (.st 5)] [] [g7 1 2 3,.cells [xi,.hd 4],.cells [xl 0,.mr 5],.row 1,.row 5,.mp 7 true] [] [] [],[.mk [.v ci] [.h 1 1 (.hd 4),.w 4 5,.h 0 21 (xi),.h 0 25 (.hd 3),.w 3 1] [] [] [] [(8126509,[.mk [.v ci] [.h 1 1 (.hd 4),.w 4 5] [] [(1000000,0)] [] []]),(16646203,[.mk [] [.w 3 1,.h 0 25 (.hd 3)] [] [(1000000,1)] [] []])]],λ(e,f,_,g,_,_,_,_,_,_,_,_,_,_,_,a,_,_,_,_,_,_,_,b,_,_,_,_,d,_)=>iU N e f g a b d⟩
def pg:f9 87 (pj N):=og (g:=87) N (.c (zfi N)<|.nil) (.c (zfh N)<|.c (zeF N)<|.nil)
def ze8:dC:=⟨.mk [.p (.hd 0)] [] [.row 5] [] [] [],[.mk [.p (.hd 1)] [] [.row 5] [] [] []],λx=>zbJ N x⟩
def zfd:f9 118 (ze8 N):=KZ (ii:=5) (sz:=152) (z:=[g8,g8,g8,g8,g8,g8,g8,g8,g8,k8,g8,.c (.lit (.bool false)),.c (.lit (.bool false)),g8,g8,g8,g8,g8]) (fn:=Tryz.f118) dG (by kernel_rfl) (by kernel_rfl) (by kernel_rfl) rfl
def oL:dC:=⟨.mk [.p (.pt 0 0 2)] [] [.cells [xi,.hd 1],.row 5] [] [] [],[.mk [.v (.c (.sl 5))] [] [] [] [(122,⟨[.r 15 ci,.w 2 5],[(3,2),(13,2)],[],[]⟩)] [(917516,[.mk [.p (.hd 2)] [] [.row 5] [(1000000,0)] [] []])]],λ(a,_)=>zcS N a⟩
def oR:f9 55 (oL N):=og (g:=55) N (.c (lM N)<|.nil) (.c (zfd N)<|.nil)
def zeR:bE:=⟨[.c (.sl 6)],[.c (.sl 6)],λa=>zby N a.1⟩
def zeO:eP 183 (zeR N):=vu (i:=6) (sz:=16) (z:=[g8,g8]) (fn:=Tryz.f183) dG (by kernel_rfl) (by kernel_rfl) (by kernel_rfl) rfl
def Gy:bE:=⟨[.st 7],[.st 7],λa=>ju N a.1⟩
def xD:eP 122 (Gy N):=tg [] [] [] N (.c (zeO N)<|.nil) .nil
def mw:dC:=⟨.mk [.p (.pt 0 0 2)] [] [.cells [xl 0,.mr 1],.mp 7 true] [] [] [],[.mk [.v (.c (.sl 7))] [] [] [(27,7)] [(122,⟨[.r 15 ci,.w 3 7],[(3,3)],[(3,7)],[]⟩)] [(3932172,[.mk [] [] [] [(1000002,0)] [] []]),(3932173,[gA [.v (.c (.sl 1))] 999999])]],λ(a,_)=>aZ N a⟩
def mZ:f9 56 (mw N):=og (g:=56) N (.c (xD N)<|.nil) .nil
def zd4:bE:=⟨[.c (.sl 8)],[.c (.sl 8)],λa=>zaU N a.1⟩
def zd1:eP 57 (zd4 N):=vu (i:=8) (sz:=32) (z:=[g8,g8,g8,g8]) (fn:=Tryz.f57) dG (by kernel_rfl) (by kernel_rfl) (by kernel_rfl) rfl
def ld:dC:=⟨.mk [.p (.hd 0)] [] [.row 1] [] [] [],[.mk [.p (.hd 1)] [] [.row 1] [] [] []],λx=>zb4 N x⟩
def lJ:f9 58 (ld N):=KZ (ii:=1) (sz:=8) (z:=[g8]) (fn:=Tryz.f58) dG (by kernel_rfl) (by kernel_rfl) (by kernel_rfl) rfl
def me:dC:=⟨.mk [.p (.pt 0 0 27)] [] [g7 1 2 3,.cells [xi,.hd 4],.cells [xl 0,.mr 5],.row 1,.row 5,.mp 7 true] [] [] [],[.mk [.v (.st 14)] [] [] [] [] [(917526,[gA [.v (.c (.sl 5))] 0]),(917531,[gA [.v (.c (.sl 7))] 1]),(917547,[.mk [.p (.hd 7)] [] [.row 1] [(1000000,2)] [] []])]],λ(h,i,j,_,_,_,_,_,_,_,_,_,_,_,_,_,_,_,_,_,_,a,b,d,e,f,g,_,_)=>Tg N h i j a b d e f g⟩
def zaZ:f9 15 (me N):=og (g:=15) N (.c (zd1 N)<|.c (zdl N)<|.nil) (.c (oR N)<|.c (mZ N)<|.c (lJ N)<|.nil)
def xA:dC:=⟨.mk [.p (.pt 0 0 27)] [] [g7 1 2 3,.cells [xi,.hd 4],.cells [xl 0,.mr 5],.row 1,.row 5,.mp 7 true] [] [] [],[.mk [.v cb] [] [] [] [(26,k9 [.r 9 ci])] [(786438,[gA [.v (.st 14)] 0])]],λ(h,i,j,_,_,_,_,_,_,_,_,_,_,_,_,_,_,_,_,_,_,a,b,d,e,f,g,_,_)=>zcH N h i j a b d e f g⟩
def kU:f9 30 (xA N):=og (g:=30) N (.c (zff N)<|.nil) (.c (zaZ N)<|.nil)
def ny:dC:=⟨.mk [.p (.pt 0 0 27)] [] [g7 1 2 3,.cells [xi,.hd 4],.cells [xl 0,.mr 5],.row 1,.row 5,.mp 7 true] [] [] [],[g6 [.v (.st 10)]],λ(_,_,_,m,n,o,p,q,r,s,a,b,d,e,f,g,h,i,j,k,l,_,_,_,_,_,_,_,_)=>zaN N m n o p q r s a b d e f g h i j k l⟩
def za9:f9 89 (ny N):=og (g:=89) N (.c (gY N)<|.nil) .nil
def oI:dC:=⟨.mk [.p (.pt 0 0 2),.v ci] [] [.cells [xi,.hd 1],.row 5] [] [] [],[.mk [.v (.st 5),.v cb] [] [] [] [] [(917518,[gA [.v ci,.v cb] 0])]],λ(a,b,_)=>zbZ N a b⟩
def zfk:f9 100 (oI N):=og (g:=100) N (.c (lM N)<|.nil) (.c (zc3 N)<|.nil)
def oJ:dC:=⟨.mk [.p (.pt 0 0 27),.v ci] [] [g7 1 2 3,.cells [xi,.hd 4],.cells [xl 0,.mr 5],.row 1,.row 5,.mp 7 true] [] [] [],[.mk [.v (.st 5),.v cb] [] [] [] [] [(917518,[gA [.v (.st 5),.v cb] 0])]],λ(_,a,_,b,_,_,_,_,_,_,_,_,_,_,_,_,_,_,_,_,_,_,_,_,_,_,_,_,_,_)=>zc1 N a b⟩
def oY:f9 52 (oJ N):=og (g:=52) N .nil (.c (zfk N)<|.nil)
end Go.Abs
end
end
section
set_option maxRecDepth 100000
noncomputable section
namespace Go.Abs
open Go.Proofs
variable[Gl](N:Nat)
def Iq:bE:=⟨[.st 5],[ci],λa=>vV N a.1⟩
def IT:eP 124 (Iq N):=tg [] [(6,k9 [.r 11 cb])] [] N (.c (zfi N)<|.c (zff N)<|.nil) .nil
def F_:bE:=⟨[.st 8,ci],[cb],λa=>qP N a.1 a.2.1⟩
def FP:eP 198 (F_ N):=tg [] [] [] N .nil .nil
def Gg:bE:=⟨[.c (.sl 8),ci,ci,ci],[cb],λa=>fV N a.1 a.2.1 a.2.2.1 a.2.2.2.1⟩
def xJ:eP 138 (Gg N):=tg [] [(26,k9 [.r 13 ci])] [] N .nil .nil
def Gj:bE:=⟨[.c (.sl 8),ci],[cb],λa=>mg N a.1 a.2.1⟩
def xQ:eP 137 (Gj N):=tg [] [(58,k9 [.r 12 ci]),(3737,k9 [.r 47 cb])] [] N (.c (FP N)<|.c (xJ N)<|.nil) .nil
def Ee:bE:=⟨[.c (.sl 6),ci],[cb],λa=>zfa N a.1 a.2.1⟩
def gO:eP 157 (Ee N):=tg [] [(58,k9 [.r 5 ci,.r 10 ci])] [] N .nil .nil
def zo:bE:=⟨[.c (.sl 17),ci,ci],[cb],λa=>gW N a.1 a.2.1 a.2.2.1⟩
def zm:eP 184 (zo N):=tg [] [(26,k9 [.r 11 ci]),(1689,k9 [.r 36 cb])] [] N (.c (gO N)<|.c (Zq N)<|.nil) .nil
def Ey:bE:=⟨[.c (.sl 18)],[cb],λa=>zel N a.1⟩
def gV:eP 233 (Ey N):=tg [] [(58,k9 [.r 3 ci,.r 8 ci]),(7474,k9 [.r 26 cb])] [] N (.c (Zq N)<|.nil) .nil
def Km:bE:=⟨[ci,.st 0],[.c (.sl 18),ci],λa=>vJ N a.1 a.2.1⟩
def Jw:eP 185 (Km N):=tg [(10,18)] [] [] N (.c (gV N)<|.nil) .nil
def yd:dC:=⟨g6 [.v (.st 0)],[g6 [.ag [.cx,.cx]]],λa=>zdp N a⟩
def mo:f9 211 (yd N):=og (g:=211) N .nil .nil
def Aw:dC:=⟨g6 [.ag [.cx,.cx]],[g6 [.v (.st 0)]],λ(a,b)=>lX N a b⟩
def zK:f9 255 (Aw N):=og (g:=255) N .nil .nil
def wX:dC:=⟨g6 [.ag [.cx,.cx]],[.mk [.v (.st 0),.v ci] [] [] [] [] [(393222,[gA [.v (.st 0)] 0])]],λ(a,b)=>zdF N a b⟩
def kV:f9 212 (wX N):=og (g:=212) N (.c (Zq N)<|.nil) (.c (zK N)<|.nil)
def Js:bE:=⟨[.st 0,ci],[.st 0,ci],λa=>pH N a.1 a.2.1⟩
def qZ:eP 210 (Js N):=tg [] [] [(4063256,[gA [.ag [.cx,.cx]] 0]),(8257573,[gA [.v (.st 0),.v ci] 1])] N (.c (Zq N)<|.nil) (.c (mo N)<|.c (kV N)<|.nil)
def FY:bE:=⟨[.c (.sl 18),ci],[ci],λa=>fY N a.1 a.2.1⟩
def zcN:eP 274 (FY N):=tg [] [] [(393224,[.mk [.v ci] [] [] [] [(28,k9 [.r 5 ci,.r 6 ci])] [(59375636,[g6 [.v cb]])]])] N .nil .nil
def zew:dC:=⟨g6 [.v (.c (.sl 18))],[.mk [.p (.hd 0)] [] [.row 18] [] [] []],λx=>za4 N x⟩
def zb6:f9 298 (zew N):=jg (i:=18) (sz:=40) (z:=[g8,g8,g8,g8,g8]) (fn:=Tryz.f298) dG (by kernel_rfl) (by kernel_rfl) (by kernel_rfl) rfl
def zbP:dC:=⟨.mk [.p (.hd 0),.v ci,.p (.hd 1)] [] [.row 18,.row 18] [] [] [],[.mk [.p (.hd 0)] [.w 0 18] [] [] [] []],λ(a,b,d)=>zaE N a b d⟩
def zdO:f9 299 (zbP N):=og (g:=299) N .nil .nil
def zek:dC:=⟨.mk [.p (.hd 0),.v ci,.p (.hd 1)] [] [.row 18,.row 18] [] [] [],[.mk [.p (.hd 0)] [.w 0 18] [] [] [] []],λx=>zaW N x.1 x.2.1 x.2.2⟩
def XQ:Go.Shelf.Ren:=⟨λ| 22=>299 | 29=>303 | 30=>304 | n=>n,λ| 24=>254 | 9=>298 | 3=>3 | 4=>4 | 0=>0 | n=>n,λn=>n⟩
def MH:KV Tryz.prog XQ 5 40 "slices.Insert[[]drayage/api.Step,drayage/api.Step]" (.agg #[.int .i64 0,.int .i64 0,.int .i64 0,.int .i64 0,.int .i64 0]):={ mixed:=dG,f22:=Tryz.func299.trans (congrArg some (by kernel_rfl)),ov:=λargs w=>Go.run_callFunc_extern Tryz.func303 (by kernel_rfl) (by kernel_rfl) (by kernel_rfl) (by kernel_rfl) args w,t0:=Tryz.underlying0,t3:=Tryz.underlying3,t4:=Tryz.underlying4,a3:=Tryz.isAgg3,z3:=Tryz.sizeOf3,a4:=Tryz.isAgg4,z4:=Tryz.sizeOf4,z9:=Tryz.sizeOf298,v9:=Tryz.zeroValue298,t24:=Tryz.underlying254,a24:=Tryz.isAgg254,z24:=Tryz.sizeOf254,v24:=Tryz.zeroValue254,i9:=by kernel_rfl }
def zeh:f9 299 (zek N):=dg.or (f1:=(zbP N).f) (f2:=λx=>Na (α:=TT 18) x.1 x.2.1 x.2.2) (zdO N) (Ip (ii:=18) MH (by kernel_rfl) (by kernel_rfl) (by kernel_rfl) (by kernel_rfl) (by kernel_rfl))
def Kb:bE:=⟨[.c (.sl 18),ci],[.c (.sl 18)],λa=>qk N a.1 a.2.1⟩
def k_:eP 273 (Kb N):=tg [(30,18)] [] [(917515,[.mk [.p (.hd 0)] [] [.row 18] [(1000000,0)] [] []]),(4063263,[.mk [.p (.hd 0)] [.w 0 18] [] [(1000000,1)] [] []])] N (.c (zcN N)<|.nil) (.c (zb6 N)<|.c (zeh N)<|.nil)
def zbC:dC:=⟨.mk [.p (.hd 0),.v ci,.p (.hd 1)] [] [.row 18,.row 18] [] [] [],[.mk [.p (.hd 0)] [.w 0 18] [] [] [] []],λ(a,b,d)=>zaE N a b d⟩
def zdE:f9 299 (zbC N):=og (g:=299) N .nil .nil
def zd3:dC:=⟨.mk [.p (.hd 0),.v ci,.p (.hd 1)] [] [.row 18,.row 18] [] [] [],[.mk [.p (.hd 0)] [.w 0 18] [] [] [] []],λx=>zcg N x.1 x.2.1 x.2.2⟩
def zd0:f9 299 (zd3 N):=dg.or (f1:=(zbC N).f) (f2:=λx=>Na (α:=TT 18) x.1 x.2.1 x.2.2) (zdE N) (Ip (ii:=18) MH (by kernel_rfl) (by kernel_rfl) (by kernel_rfl) (by kernel_rfl) (by kernel_rfl))
def yH:dC:=⟨g6 [.v (.c (.sl 18)),.v ci],[.mk [.p (.hd 0)] [] [.row 18] [(30,18)] [] [(917515,[.mk [.p (.hd 0)] [] [.row 18] [(1000000,0)] [] []]),(4063263,[.mk [.p (.hd 0)] [.w 0 18] [] [(1000000,1)] [] []])]],λ(a,b)=>kG N a b⟩
def yM:f9 273 (yH N):=og (g:=273) N (.c (zcN N)<|.nil) (.c (zb6 N)<|.c (zd0 N)<|.nil)
def Qi:bE:=⟨[.st 0,.st 0],[.st 0,ci],λa=>zH N a.1 a.2.1⟩
def DV:eP 165 (Qi N):=tg [] [(6,k9 [.r 15 cb])] [(917522,[gA [.ag [.cx,.cx]] 0]),(917524,[gA [.ag [.cx,.cx]] 0]),(1966112,[gA [.v (.st 0),.v ci] 1])] N (.c (Zq N)<|.nil) (.c (mo N)<|.c (kV N)<|.nil)
def Fg:bE:=⟨[.c (.sl 18)],[.c (.sl 18)],λa=>oB N a.1⟩
def EL:eP 275 (Fg N):=tg [(13,18),(36,18)] [(122,⟨[.r 17 ci,.w 0 18],[(3,0)],[],[]⟩),(979,⟨[.w 0 18],[(3,0)],[],[]⟩)] [] N (.c (gV N)<|.nil) .nil
def pc:bE:=⟨[.c (.sl 18),ci,ci,.st 0,.k 165],[.c (.sl 18),ci],λa=>zea N a.1 a.2.1 a.2.2.1 a.2.2.2.1⟩
def oU:eP 234 (pc N):=tg [] [(6,k9 [.r 40 cb]),(62,⟨[],[],[(12,18)],[]⟩),(122,⟨[.r 13 ci,.w 1 18],[(12,1)],[],[]⟩)] [(917549,[.mk [.p (.hd 1)] [] [.row 18] [(1000000,0)] [] []])] N (.c (k_ N)<|.c (zcN N)<|.c (DV N)<|.c (EL N)<|.c (gV N)<|.c (Zq N)<|.nil) (.c (yM N)<|.nil)
def FM:bE:=⟨[.c (.sl 18),ci,ci,.st 0],[.c (.sl 18),ci],λa=>mH N a.1 a.2.1 a.2.2.1 a.2.2.2.1⟩
def px:eP 186 (FM N):=tg [] [] [] N (.c (oU N)<|.nil) .nil
def mG:dC:=⟨.mk [.p (.pt 0 0 3),.v ci,.v ci,.v (.c (.sl 6)),.v (.st 0)] [] [.cells [xi,.hd 1,.hd 2],.row 2,.row 19] [] [] [],[.mk [.v ci] [.h 0 2 (.hd 2),.w 2 19] [] [(20,19)] [(58,⟨[.r 23 ci,.w 4 19],[(11,4)],[],[]⟩),(122,⟨[.r 62 ci,.w 2 19],[],[],[(0,2,2)]⟩)] []],λ(_,a,b,d,e,f,_)=>zbg N a b d e f⟩
def mc:f9 179 (mG N):=og (g:=179) N (.c (qZ N)<|.c (px N)<|.nil) .nil
def zP:dC:=⟨.mk [.v (.st 10),.v ci,.p (.hd 0),.v (.c (.sl 8))] [] [.row 17] [] [] [],[.mk [.p (.k j7),.v ci] [] [] [(69,2),(96,19)] [(6,k9 [.r 51 cb]),(122,⟨[.r 58 ci,.w 3 2],[],[(1050625,2)],[(2,1,3)]⟩),(250,⟨[.r 77 ci,.w 4 19],[],[(1050626,19)],[(2,2,4)]⟩),(506,⟨[.r 103 ci,.w 4 19],[],[],[(2,2,4)]⟩),(1018,⟨[.r 122 ci,.w 4 19],[],[],[(2,2,4)]⟩),(8147,⟨[.w 4 19],[],[],[(2,2,4)]⟩)] [(4247912563,[.mk [.v ci] [.h 2 2 (.hd 4),.w 4 19] [] [(1000000,0)] [] []])],.mk [.p (.pt 1 0 3),.p (.k g8)] [] [.cells [xi,xl 2,.hd 2],.row 19] [] [] []],λ(a,b,d,e)=>zeK N a b d e⟩
def zx:f9 125 (zP N):=og (g:=125) N (.c (zdl N)<|.c (Jw N)<|.c (px N)<|.c (zbX N)<|.c (xQ N)<|.c (zm N)<|.nil) (.c (mc N)<|.nil)
def qW:dC:=⟨.mk [.p (.pt 0 0 27)] [] [g7 1 2 3,.cells [xi,.hd 4],.cells [xl 0,.mr 5],.row 1,.row 5,.mp 7 true] [] [] [],[.mk [.p (.k j7),.v ci] [] [] [(17,17),(40,17)] [(250,⟨[.r 21 ci,.w 7 17],[(5,7)],[],[]⟩)] [(917517,[gA [.v (.st 14)] 0]),(8257580,[gA [.v (.st 10)] 2]),(8257586,[gA [.p (.k j7),.v ci] 3,.mk [.p (.pt 8 0 3),.p (.k g8)] [] [.cells [xi,xl 2,.hd 9],.row 19] [] [] []]),(2100428829,[gA [.v (.st 5),.v cb] 1])],.mk [.p (.pt 6 0 3),.p (.k g8)] [] [.cells [xi,xl 2,.hd 7],.row 19] [] [] []],λ(s,t,u,v,w,x,y,z,A,E,a,b,d,e,f,g,h,i,j,k,l,m,n,o,p,q,r,_,_)=>zct N s t u v w x y z A E a b d e f g h i j k l m n o p q r⟩
def h_:f9 61 (qW N):=og (g:=61) N (.c (IT N)<|.nil) (.c (zaZ N)<|.c (oY N)<|.c (za9 N)<|.c (zx N)<|.nil)
def Jg:bE:=⟨[ci,.c (.sl 5)],[.st 5,cb],λa=>vS N a.1 a.2.1⟩
def Jd:eP 221 (Jg N):=tg [] [(26,k9 [.r 9 ci])] [] N .nil .nil
def Mv:bE:=⟨[.st 4,.st 5],[cb],λa=>Fa N a.1 a.2.1⟩
def Ly:eP 222 (Mv N):=tg [] [] [] N (.c (gG N)<|.nil) .nil
def NP:bE:=⟨[.st 5,.c (.sl 5)],[cb],λa=>mP N a.1 a.2.1⟩
def LI:eP 173 (NP N):=tg [] [(26,k9 [.r 12 ci]),(3379,k9 [.r 30 cb])] [] N (.c (Jd N)<|.c (Ly N)<|.nil) .nil
def AY:bE:=⟨[.c (.sl 5)],[.c (.sl 5)],λa=>ft N a.1⟩
def qA:YQ Tryz.prog 172 (AY N):=able_ok (i:=5) (gm:=173) (so:=10) (ti:=3) (tb:=4) (z:=[g8,g8,g8,g8,g8,g8,g8,g8,g8,k8,g8,.c (.lit (.bool false)),.c (.lit (.bool false)),g8,g8,g8,g8,g8]) (fn:=Tryz.f172) (st:=λ(a:aJ)=>a.State) (met:=λ(a:aJ) (l:List aJ)=>mP N a l) dG (by kernel_rfl) (by kernel_rfl) (LI N) rfl (λa=>by kernel_rfl) (λx y=>by kernel_rfl) (λx=>by kernel_rfl) (λx=>by kernel_rfl) (λx=>by kernel_rfl)
def Cz:bE:=⟨[ci],[ci],λa=>zdu N a.1⟩
def CL:eP 288 (Cz N):=tg [] [] [] N (.c (fN N)<|.nil) .nil
def LP:bE:=⟨[ci,ci],[ci],λa=>pC N a.1 a.2.1⟩
def NF:eP 289 (LP N):=tg [] [] [] N .nil .nil
def FW:bE:=⟨[.st 10,.st 5,ci,.c (.sl 1)],[.st 11],λa=>m_ N a.1 a.2.1 a.2.2.1 a.2.2.2.1⟩
def Gn:eP 259 (FW N):=tg [] [(15,k9 [.r 9 ci]),(31,k9 [.r 10 ci])] [] N (.c (zbX N)<|.c (NF N)<|.c (fN N)<|.c (CL N)<|.nil) .nil
def Pn:bE:=⟨[.st 10,.st 5,ci,.c (.sl 1)],[ci],λa=>oh N a.1 a.2.1 a.2.2.1 a.2.2.2.1⟩
def Pr:eP 223 (Pn N):=tg [] [] [] N (.c (Gn N)<|.nil) .nil
def MA:bE:=⟨[.st 10,.st 5,.st 21],[.st 22],λa=>jU N a.1 a.2.1 a.2.2.1⟩
def Lj:eP 174 (MA N):=tg [] [] [] N (.c (Pr N)<|.nil) .nil
def Bk:bE:=⟨[ci],[cb],λa=>cmp_isNaN_int N a.1⟩
def Bz:eP 292 (Bk N):=tg [] [] [] N .nil .nil
def yw:bE:=⟨[ci,ci],[ci],λa=>fJ N a.1 a.2.1⟩
def yJ:eP 261 (yw N):=tg [] [] [] N (.c (Bz N)<|.nil) .nil
def ng:bE:=⟨[.c (.sl 1),.c (.sl 1)],[ci],λa=>zaA N a.1 a.2.1⟩
def zeG:eP 226 (ng N):=tg [] [(26,k9 [.r 11 ci])] [] N (.c (yJ N)<|.nil) .nil
def ze9:dC:=⟨.mk [.p (.hd 0),.v ci,.v ci,.v ci,.p (.fb 225 1 1)] [] [.row 1,.cells [xl 22]] [] [] [],[.mk [] [.w 0 1] [] [] [(63,k9 [.r 20 ci,.r 21 ci]),(172,k9 [.r 10 ci,.r 11 ci]),(428,k9 [.r 14 ci,.r 15 ci]),(698,⟨[.r 13 ci,.w 0 1],[(0,0)],[],[]⟩),(1020,k9 [.r 20 ci,.r 21 ci]),(1023,⟨[.w 0 1],[(0,0)],[],[]⟩),(1722,⟨[.r 17 ci,.w 0 1],[(0,0)],[],[]⟩),(2047,⟨[.w 0 1],[(0,0)],[],[]⟩),(8186,⟨[],[(0,0)],[],[]⟩),(16378,⟨[],[(0,0)],[],[]⟩)] [(361365553,[.mk [.v ci] [] [] [(9,1),(13,1)] [] []]),(536477887,[.mk [] [.w 0 1] [] [] [(28,⟨[.r 10 ci,.r 11 ci,.w 0 1],[(0,0)],[],[]⟩),(1812,⟨[],[(0,0)],[],[]⟩),(1814,⟨[],[(0,0)],[],[]⟩)] [(983097,[.mk [] [.w 0 1] [] [] [(6,⟨[.r 10 ci,.w 0 1],[(0,0)],[],[]⟩)] []]),(118751263,[.mk [] [.w 0 1] [] [] [(6,⟨[.r 10 ci,.w 0 1],[(0,0)],[],[]⟩)] []]),(118882350,[.mk [] [.w 0 1] [] [] [(6,⟨[.r 10 ci,.w 0 1],[(0,0)],[],[]⟩)] []])]]),(898236517,[.mk [.v ci] [] [] [(9,1),(13,1)] [] []]),(1073348813,[.mk [] [.w 0 1] [] [(1000000,0)] [] []]),(1073610971,[.mk [] [.w 0 1] [] [(1000000,0)] [] []]),(2139750569,[.mk [.v ci] [] [] [(9,1),(13,1)] [] []])]],λ(a,b,d,e,f)=>zbd N a b d e f⟩
theorem zcy:∀N:Nat,f9 291 (ze9 N)
 |0=>⟨by kernel_rfl,λx y a b d z e f h=>by cases h⟩
 |N+1=>og (g:=291) N (.c (zeG N)<|.nil) (.c (zcy N)<|.nil)
def xx:bE:=⟨[.c (.sl 22)],[.c (.sl 1)],λa=>ze2 N a.1⟩
def wB:eP 175 (xx N):=tg [(7,1)] [(30,⟨[],[(3,0)],[],[]⟩),(58,⟨[.r 10 ci,.w 1 1],[(3,1)],[],[]⟩)] [(1966100,[.mk [] [.w 1 1] [] [] [] [(65544,[.mk [] [.w 1 1] [] [] [(28,⟨[.r 7 ci,.r 8 ci,.w 1 1],[(0,1)],[],[]⟩),(30,⟨[],[(0,0)],[],[]⟩),(62,⟨[.r 6 ci,.w 1 1],[(0,1)],[],[]⟩),(452,⟨[],[(0,0)],[],[]⟩),(1995,⟨[.w 1 1],[(0,1)],[],[]⟩),(3988,⟨[.r 7 ci,.r 8 ci,.w 1 1],[(0,1)],[],[]⟩),(31926,⟨[],[(0,0)],[],[]⟩),(63812,⟨[],[(0,0)],[],[]⟩)] [(1966107,[.mk [] [.w 1 1] [] [] [(6,⟨[.r 8 ci,.w 1 1],[(0,1)],[],[]⟩),(402,⟨[.r 9 ci,.w 1 1],[(0,1)],[],[]⟩),(1608,k9 [.r 34 cb])] [(210763808,[.mk [.v ci] [] [] [(9,1),(13,1)] [] []])]]),(29622290,[.mk [] [.w 1 1] [] [] [(6,⟨[.r 8 ci,.w 1 1],[(0,1)],[],[]⟩),(402,⟨[.r 9 ci,.w 1 1],[(0,1)],[],[]⟩),(1608,k9 [.r 34 cb])] [(210763808,[.mk [.v ci] [] [] [(9,1),(13,1)] [] []])]]),(2092302396,[.mk [] [.w 1 1] [] [(1000000,0)] [] []]),(4181983275,[.mk [] [.w 1 1] [] [(1000000,0)] [] []])]])]])] N (.c (zeG N)<|.nil) (.c (zcy N)<|.nil)
def wS:dC:=⟨.mk [.v (.st 10),.p (.hd 0),.v (.st 21)] [] [.row 5] [] [] [],[.mk [.v (.c (.sl 5))] [] [] [(19,22),(37,5),(55,5)] [(122,⟨[.r 22 ci,.w 3 22],[(7,3)],[],[]⟩),(252,⟨[],[],[(7,22)],[]⟩),(506,⟨[.r 41 ci,.w 4 5],[(10,4)],[],[]⟩)] []],λ(a,b,d)=>zcd N a b d⟩
def wT:f9 114 (wS N):=og (g:=114) N (.c (zbX N)<|.c (Lj N)<|.c (wB N)<|.c (zbI N)<|.nil) .nil
def uK:dC:=⟨.mk [.p (.pt 0 0 27)] [] [g7 1 2 3,.cells [xi,.hd 4],.cells [xl 0,.mr 5],.row 1,.row 5,.mp 7 true] [] [] [],[.mk [.v (.c (.sl 5))] [] [] [(16,5)] [(250,⟨[.w 9 5],[],[(1055744,5)],[(7,0,9)]⟩)] [(917513,[gA [.v (.st 14)] 0]),(8126476,[.mk [] [] [] [(1000002,0)] [] []]),(8257555,[gA [.v (.st 10)] 1]),(8257562,[gA [.v (.c (.sl 5))] 2])]],λ(s,t,u,v,w,x,y,z,A,E,a,b,d,e,f,g,h,i,j,k,l,m,n,o,p,q,r,_,_)=>SC N s t u v w x y z A E a b d e f g h i j k l m n o p q r⟩
def kk:f9 48 (uK N):=og (g:=48) N (.it (qA N)<|.nil) (.c (zaZ N)<|.c (za9 N)<|.c (wT N)<|.nil)
def EJ:bE:=⟨[.st 10,ci],[cb],λa=>nN N a.1 a.2.1⟩
def ER:eP 176 (EJ N):=tg [] [] [] N (.c (zbX N)<|.nil) .nil
def CR:bE:=⟨[.c (.sl 5),ci],[ci],λa=>lE N a.1 a.2.1⟩
def Cu:eP 177 (CR N):=tg [] [] [(393223,[.mk [.v ci] [] [] [] [(58,k9 [.r 5 ci,.r 10 ci]),(467,k9 [.r 5 ci])] [(489816080,[g6 [.v cb]])]])] N (.c (zff N)<|.nil) .nil
end Go.Abs
end
end
section
set_option maxRecDepth 100000
noncomputable section
namespace Go.Abs
open Go.Proofs
variable[Gl](N:Nat)
def KW:bE:=⟨[.c (.sl 5),ci,ci],[ci],λa=>zF N a.1 a.2.1 a.2.2.1⟩
def LQ:eP 178 (KW N):=tg [] [] [(393225,[.mk [.v ci] [] [] [] [(58,k9 [.r 5 ci,.r 10 ci]),(467,k9 [.r 5 ci])] [(489816080,[g6 [.v cb]])]])] N (.c (zff N)<|.nil) .nil
def IV:bE:=⟨[.st 10,.c (.sl 5),.st 5],[cb],λa=>eV N a.1 a.2.1 a.2.2.1⟩
def Ir:eP 115 (IV N):=tg [] [] [] N (.c (ER N)<|.c (Cu N)<|.c (LQ N)<|.nil) .nil
def yu:dC:=⟨.mk [.p (.pt 0 0 27),.v ci] [] [g7 1 2 3,.cells [xi,.hd 4],.cells [xl 0,.mr 5],.row 1,.row 5,.mp 7 true] [] [] [],[.mk [.v cb] [] [] [] [(122,k9 [])] [(917514,[gA [.v (.st 14)] 0]),(3932173,[.mk [] [] [] [(1000002,0)] [] []]),(257163284,[gA [.v (.st 10)] 1])]],λ(t,u,v,w,x,y,z,A,E,F,a,b,d,e,f,g,h,i,j,k,l,m,n,o,p,q,r,s,_,_)=>zef N t u v w x y z A E F a b d e f g h i j k l m n o p q r s⟩
def lZ:f9 49 (yu N):=og (g:=49) N (.it (qA N)<|.c (Ir N)<|.nil) (.c (zaZ N)<|.c (za9 N)<|.nil)
def mI:dC:=⟨.mk [.p (.hd 0)] [] [.row 1] [] [] [],[.mk [] [.w 0 1] [] [] [] []],λx=>zch N x⟩
def zeD:f9 181 (mI N):=sort_oo (ii:=1) Tryz.sortsI (d:=λk=>k) (c:=λk=>k) (λa=>rfl) (λk=>rfl) (by kernel_rfl)
def kh:dC:=⟨.mk [.p (.hd 0)] [] [.row 1] [] [] [],[.mk [.p (.hd 1)] [.w 0 1] [.row 1] [] [] []],λx=>zbO N x⟩
def zdD:f9 235 (kh N):=Pt (ii:=1) Tryz.VE (d:=λk=>k) (c:=λk=>k) (λa=>rfl) (λk=>rfl) (by kernel_rfl)
def sO:bE:=⟨[.fp 20,ci],[.c (.sl 1)],λa=>yV N a.1 a.2.1⟩
def tt:eP 187 (sO N):=tg [(52,1)] [(62,⟨[],[(5,0)],[],[]⟩),(122,⟨[.r 33 ci,.w 0 1],[(5,0)],[(5,1)],[]⟩),(31334,⟨[.r 45 ci,.w 0 1],[(5,0)],[],[]⟩)] [(4063289,[.mk [] [.w 0 1] [] [(1000000,0)] [] []]),(8257595,[.mk [.p (.hd 1)] [.w 0 1] [.row 1] [(1000000,1)] [] []])] N .nil (.c (zeD N)<|.c (zdD N)<|.nil)
def Jj:bE:=⟨[.st 0,.st 0],[.st 0],λa=>BB N a.1 a.2.1⟩
def JJ:eP 276 (Jj N):=tg [] [] [] N .nil .nil
def Ei:bE:=⟨[.c (.sl 18),ci,ci],[.st 0],λa=>oa N a.1 a.2.1 a.2.2.1⟩
def uk:eP 236 (Ei N):=tg [] [(6,k9 [.r 26 cb]),(31,k9 [.h 1 0 hi,.h 1 1 hi,.h 1 2 hi,.h 1 3 hi]),(250,k9 [.r 41 ci,.h 1 0 hi,.h 1 1 hi,.h 1 2 hi,.h 1 3 hi])] [] N (.c (zcN N)<|.c (JJ N)<|.c (gV N)<|.nil) .nil
def IM:bE:=⟨[.st 0,.st 0],[ci],λa=>jy N a.1 a.2.1⟩
def zp:eP 253 (IM N):=tg [] [(6,k9 [.r 21 cb]),(250,k9 [.r 5 ci,.r 26 ci]),(2003,k9 [.r 5 ci])] [] N (.c (us N)<|.c (Zq N)<|.nil) .nil
def Ko:bE:=⟨[.c (.sl 0),ci,.st 0],[ci],λa=>pO N a.1 a.2.1 a.2.2.1⟩
def zn:eP 278 (Ko N):=tg [] [] [] N (.c (zp N)<|.nil) .nil
def FZ:bE:=⟨[.c (.sl 0),.c (.sl 1),.st 0],[ci],λa=>qO N a.1 a.2.1 a.2.2.1⟩
def FV:eP 277 (FZ N):=tg [] [(58,k9 [.r 7 ci,.r 12 ci])] [] N (.c (zn N)<|.nil) .nil
def uh:dC:=⟨.mk [.p (.hd 0),.v (.c (.sl 1)),.v ci,.v (.st 0)] [] [.row 0] [] [] [],[.mk [.v (.c (.sl 6)),.v cb] [] [] [(48,6)] [(12,k9 [.r 24 cb]),(111,⟨[.w 2 6],[(10,2)],[(10,6)],[]⟩),(890,⟨[.r 11 ci,.r 28 ci,.w 2 6],[(10,2)],[],[]⟩),(7123,⟨[.r 11 ci,.w 2 6],[(10,2)],[],[]⟩)] []],λ(a,b,d,e)=>zet N a b d e⟩
def jZ:f9 237 (uh N):=og (g:=237) N (.c (zn N)<|.c (FV N)<|.nil) .nil
def uM:bE:=⟨[.fp 20,ci,ci,.st 0,ci,ci],[.c (.sl 6),cb],λa=>AD N a.1 a.2.1 a.2.2.1 a.2.2.2.1 a.2.2.2.2.1 a.2.2.2.2.2.1⟩
def uQ:eP 188 (uM N):=tg [(57,0)] [(122,⟨[.r 66 ci,.w 1 0],[(14,1)],[],[]⟩)] [(4063328,[gA [.v (.c (.sl 6)),.v cb] 0])] N (.c (uk N)<|.nil) (.c (jZ N)<|.nil)
def pd:bE:=⟨[.fp 20,ci,ci,.st 0,ci],[.st 15,cb],λa=>tA N a.1 a.2.1 a.2.2.1 a.2.2.2.1 a.2.2.2.2.1⟩
def oH:eP 126 (pd N):=tg [] [(3,k9 [.r 12 (.c (.sl 1)),.r 13 ci])] [] N (.c (uQ N)<|.c (tt N)<|.nil) .nil
def qg:dC:=⟨.mk [.p (.pt 0 0 27),.v (.fp 20),.v (.st 5)] [] [g7 1 2 3,.cells [xi,.hd 4],.cells [xl 0,.mr 5],.row 1,.row 5,.mp 7 true] [] [] [],[.mk [.v (.st 15),.v cb] [] [] [] [] [(917523,[gA [.v (.st 10)] 0])]],λ(_,_,_,o,p,q,r,s,t,u,a,b,d,e,f,g,h,i,j,k,l,m,n,_,_,_,_,_,_,_,_)=>zda N o p q r s t u a b d e f g h i j k l m n⟩
def pB:f9 62 (qg N):=og (g:=62) N (.c (oH N)<|.nil) (.c (za9 N)<|.nil)
def wD:bE:=⟨[.fp 20],[ci],λa=>jx N a.1⟩
def wY:eP 51 (wD N):=tg [] [] [] N .nil .nil
def oF:dC:=⟨.mk [.p (.pt 0 0 25)] [] [.cells [.pt 1 0 27,.fp 20,xi,xi,xi,xi,xi,xi,xi,xi,xi,xn,xi,xb,xb,xi,xi,xi,xi,xi,xn,xn,xi,xi,xi],g7 2 3 4,.cells [xi,.hd 5],.cells [xl 0,.mr 6],.row 1,.row 5,.mp 7 true] [] [] [],[g6 [.v cb]],λ(_,_,_,_,_,_,_,_,_,_,_,_,_,_,_,_,_,_,_,_,_,a,_,_,_,_,_,_,_,_,_,_,_,_,_,_,_,_,_,_,_,_,_,_,_,_,_,_,_,_)=>Wg N a⟩
def zfj:f9 65 (oF N):=og (g:=65) N .nil .nil
def rp:dC:=⟨.mk [.p (.pt 0 0 25),.v (.st 5),.v ci] [] [.cells [.pt 1 0 27,.fp 20,xi,xi,xi,xi,xi,xi,xi,xi,xi,xn,xi,xb,xb,xi,xi,xi,xi,xi,xn,xn,xi,xi,xi],g7 2 3 4,.cells [xi,.hd 5],.cells [xl 0,.mr 6],.row 1,.row 5,.mp 7 true] [] [] [],[.mk [] [.h 0 2 (xi),.h 0 3 (xi),.h 0 4 (xi),.h 0 5 (xi),.h 0 6 (xi),.h 0 7 (xi),.h 0 8 (xi),.h 0 9 (xi),.h 0 10 (xi),.h 0 11 (xl 4),.h 0 12 (xi),.h 0 13 (xb),.h 0 14 (xb),.h 0 15 (xi),.h 0 16 (xi),.h 0 17 (xi),.h 0 18 (xi),.h 0 19 (xi),.h 0 22 (xi),.h 0 23 (xi),.h 0 24 (xi)] [] [] [] [(393223,[gA [.v cb] 0])]],λ(_,_,_,r,s,_,t,u,v,w,a,b,d,e,f,g,h,i,j,k,l,m,n,o,p,q,_,_,_,_,_,_,_,_,_,_,_,_,_,_,_,_,_,_,_,_,_,_,_,_,_,_)=>kQ N r s t u v w a b d e f g h i j k l m n o p q⟩
def rC:f9 63 (rp N):=og (g:=63) N .nil (.c (zfj N)<|.nil)
def zd5:dC:=⟨g6 [.v (.c (.sl 19))],[.mk [.p (.hd 0)] [] [.row 19] [] [] []],λx=>zbm N x⟩
def zd6:f9 189 (zd5 N):=jg (i:=19) (sz:=24) (z:=[k8]) (fn:=Tryz.f189) dG (by kernel_rfl) (by kernel_rfl) (by kernel_rfl) rfl
def kW:dC:=⟨g6 [.v (.fp 20)],[.mk [.p (.pt 0 0 3)] [] [.cells [xi,xl 2,.hd 1],.row 19] [] [] [(917521,[.mk [.p (.hd 0)] [] [.row 19] [(1000000,0)] [] []])]],λa=>zbu N a⟩
def zcs:f9 127 (kW N):=og (g:=127) N .nil (.c (zd6 N)<|.nil)
def li:dC:=⟨.mk [.p (.pt 0 0 3),.v ci,.v ci,.v (.c (.sl 6)),.v (.st 0)] [] [.cells [xi,xl 2,.hd 1],.row 19] [] [] [],[.mk [.v ci] [.h 0 2 (.hd 1),.w 1 19] [] [(20,19)] [(58,⟨[.r 23 ci,.w 3 19],[(11,3)],[],[]⟩),(122,⟨[.r 62 ci,.w 1 19],[],[],[(0,2,1)]⟩)] []],λ(a,b,d,e,f,_,_)=>zbg N a b d e f⟩
def lh:f9 179 (li N):=og (g:=179) N (.c (qZ N)<|.c (px N)<|.nil) .nil
def mJ:dC:=⟨.mk [.p (.pt 0 0 3),.v ci,.v (.c (.sl 6)),.v (.st 0),.v ci] [] [.cells [xi,xl 2,.hd 1],.row 19] [] [] [],[.mk [.v ci] [.h 0 2 (.hd 1),.w 1 19] [] [] [(14,k9 [.r 45 cb])] [(1966133,[.mk [.v ci] [.h 0 2 (.hd 1),.w 1 19] [] [(1000000,0)] [] []])]],λ(a,b,d,e,f,g,_)=>za3 N a b d e f g⟩
def zbN:f9 116 (mJ N):=og (g:=116) N (.c (gO N)<|.c (Zq N)<|.nil) (.c (lh N)<|.nil)
def kX:dC:=⟨.mk [.p (.pt 0 0 3),.v ci] [] [.cells [xi,xl 2,.hd 1],.row 19] [] [] [],[.mk [.v (.c (.sl 1))] [] [] [(52,1)] [(62,⟨[],[(5,0)],[],[]⟩),(122,⟨[.r 33 ci,.w 2 1],[(5,2)],[(5,1)],[]⟩),(31334,⟨[.r 45 ci,.w 2 1],[(5,2)],[],[]⟩)] [(4063289,[.mk [] [.w 2 1] [] [(1000000,0)] [] []]),(8257595,[.mk [.p (.hd 3)] [.w 2 1] [.row 1] [(1000000,1)] [] []])]],λ(a,b,_,d)=>zbv N a b d⟩
def lj:f9 187 (kX N):=og (g:=187) N .nil (.c (zeD N)<|.c (zdD N)<|.nil)
def mS:dC:=⟨.mk [.p (.pt 0 0 3),.v ci,.v ci,.v (.st 0),.v ci,.v ci] [] [.cells [xi,xl 2,.hd 1],.row 19] [] [] [],[.mk [.v (.c (.sl 6)),.v cb] [] [] [(57,0)] [(122,⟨[.r 66 ci,.w 3 0],[(14,3)],[],[]⟩)] [(4063328,[gA [.v (.c (.sl 6)),.v cb] 0])]],λ(a,b,d,e,f,g,h,i)=>zaH N a b d e f g h i⟩
def mV:f9 188 (mS N):=og (g:=188) N (.c (uk N)<|.nil) (.c (jZ N)<|.nil)
def jq:dC:=⟨.mk [.p (.pt 0 0 3),.v ci,.v ci,.v (.st 0),.v ci] [] [.cells [xi,xl 2,.hd 1],.row 19] [] [] [],[.mk [.v (.st 15),.v cb] [] [] [] [(3,k9 [.r 12 (.c (.sl 1)),.r 13 ci])] [(786450,[gA [.v (.c (.sl 1))] 0]),(8126498,[gA [.v (.c (.sl 6)),.v cb] 1]),(29098018,[gA [.v (.c (.sl 6)),.v cb] 1])]],λ(a,b,d,e,f,g,h)=>zaL N a b d e f g h⟩
def jf:f9 126 (jq N):=og (g:=126) N .nil (.c (lj N)<|.c (mV N)<|.nil)
def pX:dC:=⟨.mk [.p (.pt 0 0 27),.p (.pt 1 0 3),.v (.st 5)] [] [g7 2 3 4,.cells [xi,xl 2,.hd 5],.cells [xi,.hd 6],.cells [xl 0,.mr 7],.row 1,.row 19,.row 5,.mp 7 true] [] [] [],[.mk [.v (.st 15),.v cb] [] [] [] [] [(917523,[gA [.v (.st 10)] 0]),(4063279,[gA [.v (.st 15),.v cb] 1])]],λ(_,q,_,_,r,s,t,u,v,w,a,b,d,e,f,g,h,i,j,k,l,m,n,_,_,_,_,_,_,o,p,_,_)=>YV N q r s t u v w a b d e f g h i j k l m n o p⟩
def zck:f9 62 (pX N):=og (g:=62) N .nil (.c (za9 N)<|.c (jf N)<|.nil)
def DB:bE:=⟨[.c (.sl 6)],[ci],λa=>nX N a.1⟩
def Eu:eP 158 (DB N):=tg [] [(58,k9 [.r 3 ci,.r 8 ci])] [] N (.c (fN N)<|.nil) .nil
def pr:bE:=⟨[.c (.sl 1),ci],[ci],λa=>zem N a.1 a.2.1⟩
def oV:eP 207 (pr N):=tg [] [(26,k9 [.r 8 ci])] [] N .nil .nil
def lQ:bE:=⟨[.c (.sl 1),ci],[cb],λa=>zca N a.1 a.2.1⟩
def lF:eP 159 (lQ N):=tg [] [] [] N (.c (oV N)<|.nil) .nil
def Ft:bE:=⟨[.st 10,.st 5,.c (.sl 6)],[cb],λa=>gj N a.1 a.2.1 a.2.2.1⟩
def uW:eP 101 (Ft N):=tg [] [(6,k9 [.r 22 cb]),(250,k9 [.r 47 ci])] [] N (.c (lF N)<|.c (gO N)<|.c (Eu N)<|.nil) .nil
def KE:bE:=⟨[ci,ci],[ci,cb],λa=>vY N a.1 a.2.1⟩
def JQ:eP 161 (KE N):=tg [] [(53247,k9 [.r 48 cb]),(212991,k9 [.r 55 cb])] [] N (.c (zff N)<|.c (xS N)<|.nil) .nil
def LD:bE:=⟨[.st 5,ci,ci,cb],[.st 5,ci],λa=>zD N a.1 a.2.1 a.2.2.1 a.2.2.2.1⟩
def Mz:eP 102 (LD N):=tg [] [(6,k9 [.r 20 cb]),(1023,k9 [.h 0 11 hb,.h 0 12 hb,.h 0 15 hi]),(2047,k9 [.h 0 16 hi]),(8186,k9 [.h 0 12 hb])] [] N (.c (JQ N)<|.c (zbI N)<|.c (gG N)<|.c (zfi N)<|.c (pu N)<|.nil) .nil
def zeJ:dC:=⟨g6 [.v (.c (.sl 0))],[.mk [.p (.hd 0)] [] [.row 0] [] [] []],λx=>zbx N x⟩
def zeT:f9 152 (zeJ N):=jg (i:=0) (sz:=32) (z:=[g8,g8,g8,g8]) (fn:=Tryz.f152) dG (by kernel_rfl) (by kernel_rfl) (by kernel_rfl) rfl
def jK:dC:=⟨.mk [.p (.pt 0 0 2),.v (.st 7),.p (.k (.c (.fn (.func 165) [] [])))] [] [.cells [xl 0,.mr 1],.mp 7 true] [] [] [],[.mk [.v (.c (.sl 0)),.v ci] [] [] [] [(58,⟨[.r 21 ci,.w 3 0],[(8,3)],[],[]⟩)] [(393233,[.mk [.p (.hd 3)] [] [.row 0] [(1000000,0)] [] []])]],λ(_,a,b)=>zbM N a b⟩
def jV:f9 164 (jK N):=og (g:=164) N (.c (qZ N)<|.c (DV N)<|.nil) (.c (zeT N)<|.nil)
def kZ:dC:=⟨.mk [.p (.pt 0 0 2),.v (.st 7)] [] [.cells [xl 0,.mr 1],.mp 7 true] [] [] [],[.mk [.v ci] [.h 0 0 (xl 0),.m 1 7 true] [] [] [(14,k9 [.r 41 cb])] [(4063288,[gA [.v (.c (.sl 0)),.v ci] 0])]],λ(a,b,d)=>zaV N a b d⟩
def zcq:f9 103 (kZ N):=og (g:=103) N (.c (xD N)<|.c (gO N)<|.c (Zq N)<|.nil) (.c (jV N)<|.nil)
def oX:dC:=⟨.mk [.p (.pt 0 0 2),.v (.st 5)] [] [.cells [xi,.hd 1],.row 5] [] [] [],[.mk [.v ci] [.w 1 5,.h 0 1 (.hd 1)] [] [] [] [(1966096,[gA [.v ci,.v cb] 0])]],λ(a,b,_)=>zcX N a b⟩
def oN:f9 166 (oX N):=og (g:=166) N (.c (zfi N)<|.c (lM N)<|.nil) (.c (zc3 N)<|.nil)
def lq:dC:=⟨.mk [.p (.pt 0 0 27),.v (.st 5),.v (.st 5)] [] [g7 1 2 3,.cells [xi,.hd 4],.cells [xl 0,.mr 5],.row 1,.row 5,.mp 7 true] [] [] [],[.mk [.v ci] [.h 1 1 (.hd 4),.w 4 5,.h 0 25 (.hd 3),.w 3 1] [] [] [(15,⟨[.w 3 1],[],[],[(0,25,3)]⟩)] [(786445,[.mk [.v ci] [.w 4 5,.h 1 1 (.hd 4)] [] [(1000000,0)] [] []]),(917524,[.mk [] [.w 3 1,.h 0 25 (.hd 3)] [] [(1000000,1)] [] []]),(7995421,[.mk [] [.w 3 1,.h 0 25 (.hd 3)] [] [(1000000,1)] [] []])]],λ(a,b,_,d,e,_,_,_,_,_,_,_,_,_,_,_,_,_,_,_,_,_,_,_,_,_,_,_,_,_,_)=>zb5 N a b d e⟩
def lz:f9 105 (lq N):=og (g:=105) N .nil (.c (oN N)<|.c (zeF N)<|.nil)
def mf:dC:=⟨.mk [.p (.pt 0 0 27),.v ci,.v (.c (.sl 6))] [] [g7 1 2 3,.cells [xi,.hd 4],.cells [xl 0,.mr 5],.row 1,.row 5,.mp 7 true] [] [] [],[.mk [.v ci] [.h 2 0 (xl 0),.m 5 7 true,.h 0 25 (.hd 3),.h 0 26 (xi),.h 1 1 (.hd 4),.w 3 1,.w 4 5] [] [] [] [(917524,[gA [.v (.st 5),.v cb] 0]),(133955641,[.mk [.v ci] [.h 2 0 (xl 0),.m 5 7 true] [] [(1000000,1)] [] []]),(268304458,[.mk [.v ci] [.h 1 1 (.hd 4),.w 4 5,.h 0 25 (.hd 3),.w 3 1] [] [(1000000,2)] [] []])]],λ(r,s,t,u,v,w,x,y,z,A,a,b,d,e,f,g,h,i,j,k,l,m,n,o,_,_,_,_,p,_,q)=>zaP N r s t u v w x y z A a b d e f g h i j k l m n o p q⟩
def zbL:f9 42 (mf N):=og (g:=42) N (.c (uW N)<|.c (Mz N)<|.c (uu N)<|.nil) (.c (zfk N)<|.c (zcq N)<|.c (lz N)<|.nil)
end Go.Abs
end
end
section
set_option maxRecDepth 100000
noncomputable section
namespace Go.Abs
open Go.Proofs
variable[Gl](N:Nat)
def pQ:dC:=⟨.mk [.p (.pt 0 0 25),.v (.st 5),.v (.st 15)] [] [.cells [.pt 1 0 27,.fp 20,xi,xi,xi,xi,xi,xi,xi,xi,xi,xn,xi,xb,xb,xi,xi,xi,xi,xi,xn,xn,xi,xi,xi],g7 2 3 4,.cells [xi,.hd 5],.cells [xl 0,.mr 6],.row 1,.row 5,.mp 7 true] [] [] [],[.mk [] [.h 1 25 (.hd 4),.h 1 26 (xi),.h 2 1 (.hd 5),.h 3 0 (xl 0),.w 4 1,.w 5 5,.m 6 7 true,.h 0 1 (.fp 20),.h 0 20 (xn)] [] [(74,15)] [(15,k9 []),(13194139533438,⟨[],[],[],[(5,1057794,19),(0,1048577,20)]⟩)] [(393229,[.mk [.p (.pt 9 0 3)] [] [.cells [xi,xl 2,.hd 10],.row 19] [(1000000,0)] [] []]),(1835031,[.mk [.v ci] [.h 9 2 (.hd 10),.w 10 19] [] [(1000000,1)] [] []]),(3932186,[gA [.v cb] 2]),(8126525,[.mk [.v ci] [.h 3 0 (xl 0),.m 6 7 true,.h 1 25 (.hd 4),.h 1 26 (xi),.h 2 1 (.hd 5),.w 4 1,.w 5 5] [] [(1000000,4)] [] []]),(15990821,[gA [.v (.st 15),.v cb] 3])],.mk [] [.h 1 25 (.hd 4),.h 1 26 (xi),.h 2 1 (.hd 5),.h 3 0 (xl 0),.w 4 1,.w 5 5,.m 6 7 true,.h 0 1 (.fp 20),.h 0 20 (.hd 7)] [.row 15] [] [] []],λ(S,T,U,W,X,σ,Z,a7,a8,a9,a,b,d,e,f,g,h,i,j,k,l,m,n,o,p,_,q,r,s,t,u,v,w,x,y,z,A,E,F,G,K,L,M,O,P,_,_,_,_,Q,_,R)=>vp N S T U W X σ Z a7 a8 a9 a b d e f g h i j k l m n o p q r s t u v w x y z A E F G K L M O P Q R⟩
def pK:f9 64 (pQ N):=og (g:=64) N .nil (.c (zcs N)<|.c (zbN N)<|.c (zfj N)<|.c (zck N)<|.c (zbL N)<|.nil)
def nH:dC:=⟨.mk [.p (.pt 0 0 25)] [] [.cells [.pt 1 0 27,.fp 20,xi,xi,xi,xi,xi,xi,xi,xi,xi,xn,xi,xb,xb,xi,xi,xi,xi,xi,.hd 2,xn,xi,xi,xi],g7 3 4 5,.row 15,.cells [xi,.hd 6],.cells [xl 0,.mr 7],.row 1,.row 5,.mp 7 true] [] [] [],[g6 [.v cb]],λ(_,_,_,_,_,_,_,_,_,_,_,_,_,_,_,_,_,_,_,_,_,_,a,_,_,_,_,_,_,_,_,_,_,_,_,_,_,_,_,_,_,_,_,_,_,_,_,_,_,_,_)=>Wg N a⟩
def zeL:f9 65 (nH N):=og (g:=65) N .nil .nil
def pS:dC:=⟨.mk [.p (.pt 0 0 25),.v (.st 5),.v ci] [] [.cells [.pt 1 0 27,.fp 20,xi,xi,xi,xi,xi,xi,xi,xi,xi,xn,xi,xb,xb,xi,xi,xi,xi,xi,.hd 2,xn,xi,xi,xi],g7 3 4 5,.row 15,.cells [xi,.hd 6],.cells [xl 0,.mr 7],.row 1,.row 5,.mp 7 true] [] [] [],[.mk [] [.h 0 2 (xi),.h 0 3 (xi),.h 0 4 (xi),.h 0 5 (xi),.h 0 6 (xi),.h 0 7 (xi),.h 0 8 (xi),.h 0 9 (xi),.h 0 10 (xi),.h 0 11 (xl 4),.h 0 12 (xi),.h 0 13 (xb),.h 0 14 (xb),.h 0 15 (xi),.h 0 16 (xi),.h 0 17 (xi),.h 0 18 (xi),.h 0 19 (xi),.h 0 22 (xi),.h 0 23 (xi),.h 0 24 (xi)] [] [] [] [(393223,[gA [.v cb] 0])]],λ(_,_,_,_,s,t,_,u,v,w,a,b,d,e,f,g,h,i,j,k,l,m,n,o,p,q,r,_,_,_,_,_,_,_,_,_,_,_,_,_,_,_,_,_,_,_,_,_,_,_,_,_,_)=>kQ N s t u v w a b d e f g h i j k l m n o p q r⟩
def pF:f9 63 (pS N):=og (g:=63) N .nil (.c (zeL N)<|.nil)
def ql:dC:=⟨.mk [.p (.pt 0 0 25),.v (.st 5),.v (.st 15)] [] [.cells [.pt 1 0 27,.fp 20,xi,xi,xi,xi,xi,xi,xi,xi,xi,xn,xi,xb,xb,xi,xi,xi,xi,xi,.hd 2,xn,xi,xi,xi],g7 3 4 5,.row 15,.cells [xi,.hd 6],.cells [xl 0,.mr 7],.row 1,.row 5,.mp 7 true] [] [] [],[.mk [] [.h 1 25 (.hd 5),.h 1 26 (xi),.h 3 1 (.hd 6),.h 4 0 (xl 0),.w 5 1,.w 6 5,.m 7 7 true,.h 0 1 (.fp 20),.h 0 20 (.hd 2),.w 2 15] [] [(74,15)] [(15,k9 []),(14293651161214,⟨[],[],[],[(5,1058818,19),(0,1048577,20)]⟩)] [(393229,[.mk [.p (.pt 10 0 3)] [] [.cells [xi,xl 2,.hd 11],.row 19] [(1000000,0)] [] []]),(1835031,[.mk [.v ci] [.h 10 2 (.hd 11),.w 11 19] [] [(1000000,1)] [] []]),(3932186,[gA [.v cb] 2]),(8126525,[.mk [.v ci] [.h 4 0 (xl 0),.m 7 7 true,.h 1 25 (.hd 5),.h 1 26 (xi),.h 3 1 (.hd 6),.w 5 1,.w 6 5] [] [(1000000,4)] [] []]),(15990821,[gA [.v (.st 15),.v cb] 3])]],λ(T,U,W,X,σ,Z,a6,a7,a8,a9,a,b,d,e,f,g,h,i,j,k,l,m,n,o,p,q,_,r,s,t,u,v,w,x,y,z,A,E,F,G,K,L,M,O,P,Q,_,_,_,_,R,_,S)=>uH N T U W X σ Z a6 a7 a8 a9 a b d e f g h i j k l m n o p q r s t u v w x y z A E F G K L M O P Q R S⟩
def pR:f9 64 (ql N):=og (g:=64) N .nil (.c (zcs N)<|.c (zbN N)<|.c (zeL N)<|.c (zck N)<|.c (zbL N)<|.nil)
def nh:dC:=⟨.mk [.p (.pt 0 0 25)] [] [.cells [.pt 1 0 27,.fp 20,xi,xi,xi,xi,xi,xi,xi,xi,xi,xl 4,xi,xb,xb,xi,xi,xi,xi,xi,.hd 2,xn,xi,xi,xi],g7 3 4 5,.row 15,.cells [xi,.hd 6],.cells [xl 0,.mr 7],.row 1,.row 5,.mp 7 true] [] [] [],[g6 [.v cb]],λ(_,_,_,_,_,_,_,_,_,_,_,_,_,_,_,_,_,_,_,_,_,_,_,a,_,_,_,_,_,_,_,_,_,_,_,_,_,_,_,_,_,_,_,_,_,_,_,_,_,_,_,_)=>Wg N a⟩
def zcE:f9 65 (nh N):=og (g:=65) N .nil .nil
def qD:dC:=⟨.mk [.p (.pt 0 0 25),.v (.st 5),.v ci] [] [.cells [.pt 1 0 27,.fp 20,xi,xi,xi,xi,xi,xi,xi,xi,xi,xl 4,xi,xb,xb,xi,xi,xi,xi,xi,.hd 2,xn,xi,xi,xi],g7 3 4 5,.row 15,.cells [xi,.hd 6],.cells [xl 0,.mr 7],.row 1,.row 5,.mp 7 true] [] [] [],[.mk [] [.h 0 2 (xi),.h 0 3 (xi),.h 0 4 (xi),.h 0 5 (xi),.h 0 6 (xi),.h 0 7 (xi),.h 0 8 (xi),.h 0 9 (xi),.h 0 10 (xi),.h 0 11 (xl 4),.h 0 12 (xi),.h 0 13 (xb),.h 0 14 (xb),.h 0 15 (xi),.h 0 16 (xi),.h 0 17 (xi),.h 0 18 (xi),.h 0 19 (xi),.h 0 22 (xi),.h 0 23 (xi),.h 0 24 (xi)] [] [] [] [(393223,[gA [.v cb] 0])]],λ(_,_,_,_,t,u,_,v,w,x,a,b,d,e,f,g,h,i,j,k,l,m,n,o,p,q,r,s,_,_,_,_,_,_,_,_,_,_,_,_,_,_,_,_,_,_,_,_,_,_,_,_,_,_)=>ze7 N t u v w x a b d e f g h i j k l m n o p q r s⟩
def ry:f9 63 (qD N):=og (g:=63) N .nil (.c (zcE N)<|.nil)
def pG:dC:=⟨.mk [.p (.pt 0 0 25),.v (.st 5),.v (.st 15)] [] [.cells [.pt 1 0 27,.fp 20,xi,xi,xi,xi,xi,xi,xi,xi,xi,xl 4,xi,xb,xb,xi,xi,xi,xi,xi,.hd 2,xn,xi,xi,xi],g7 3 4 5,.row 15,.cells [xi,.hd 6],.cells [xl 0,.mr 7],.row 1,.row 5,.mp 7 true] [] [] [],[.mk [] [.h 1 25 (.hd 5),.h 1 26 (xi),.h 3 1 (.hd 6),.h 4 0 (xl 0),.w 5 1,.w 6 5,.m 7 7 true,.h 0 1 (.fp 20),.h 0 20 (.hd 2),.w 2 15] [] [(74,15)] [(15,k9 []),(14293651161214,⟨[],[],[],[(5,1058818,19),(0,1048577,20)]⟩)] [(393229,[.mk [.p (.pt 10 0 3)] [] [.cells [xi,xl 2,.hd 11],.row 19] [(1000000,0)] [] []]),(1835031,[.mk [.v ci] [.h 10 2 (.hd 11),.w 11 19] [] [(1000000,1)] [] []]),(3932186,[gA [.v cb] 2]),(8126525,[.mk [.v ci] [.h 4 0 (xl 0),.m 7 7 true,.h 1 25 (.hd 5),.h 1 26 (xi),.h 3 1 (.hd 6),.w 5 1,.w 6 5] [] [(1000000,4)] [] []]),(15990821,[gA [.v (.st 15),.v cb] 3])]],λ(U,W,X,σ,Z,a5,a6,a7,a8,a9,a,b,d,e,f,g,h,i,j,k,l,m,n,o,p,q,r,_,s,t,u,v,w,x,y,z,A,E,F,G,K,L,M,O,P,Q,R,_,_,_,_,S,_,T)=>zc9 N U W X σ Z a5 a6 a7 a8 a9 a b d e f g h i j k l m n o p q r s t u v w x y z A E F G K L M O P Q R S T⟩
def qa:f9 64 (pG N):=og (g:=64) N .nil (.c (zcs N)<|.c (zbN N)<|.c (zcE N)<|.c (zck N)<|.c (zbL N)<|.nil)
def zU:dC:=⟨.mk [.p (.pt 0 0 27)] [] [g7 1 2 3,.cells [xi,.hd 4],.cells [xl 0,.mr 5],.row 1,.row 5,.mp 7 true] [] [] [],[.mk [.v (.st 16),.v ci] [.h 0 25 (.hd 3),.h 0 26 (xi),.h 1 1 (.hd 4),.h 2 0 (xl 0),.w 3 1,.w 4 5,.m 5 7 true] [] [] [(511,k9 [.h 9 24 hi]),(2042,⟨[.r 32 ci,.h 0 26 hi,.h 2 0 (hl 0),.h 9 1 (.fp 20),.h 9 2 hi,.h 9 3 hi,.h 9 4 hi,.h 9 5 hi,.h 9 6 hi,.h 9 7 hi,.h 9 8 hi,.h 9 9 hi,.h 9 10 hi,.h 9 11 (hl 4),.h 9 12 hi,.h 9 13 hb,.h 9 14 hb,.h 9 15 hi,.h 9 16 hi,.h 9 17 hi,.h 9 18 hi,.h 9 19 hi,.h 9 22 hi,.h 9 23 hi,.h 9 24 hi,.h 10 0 hi,.h 10 1 hi,.h 10 2 (hl 6),.w 3 1,.w 4 5,.m 5 7 true,.w 11 15],[],[(1057812,15)],[(0,25,3),(1,1,4),(9,20,11)]⟩),(16339,⟨[.h 0 26 hi,.h 2 0 (hl 0),.h 9 1 (.fp 20),.h 9 2 hi,.h 9 3 hi,.h 9 4 hi,.h 9 5 hi,.h 9 6 hi,.h 9 7 hi,.h 9 8 hi,.h 9 9 hi,.h 9 10 hi,.h 9 11 (hl 4),.h 9 12 hi,.h 9 13 hb,.h 9 14 hb,.h 9 15 hi,.h 9 16 hi,.h 9 17 hi,.h 9 18 hi,.h 9 19 hi,.h 9 22 hi,.h 9 23 hi,.h 9 24 hi,.h 10 0 hi,.h 10 1 hi,.h 10 2 (hl 6),.w 3 1,.w 4 5,.m 5 7 true,.w 11 15],[],[],[(0,25,3),(1,1,4),(9,20,11)]⟩),(8796093022270,⟨[],[],[(4,0)],[]⟩),(10995116277822,⟨[],[],[(1055746,19),(4,20)],[]⟩)] [(917522,[gA [.p (.k j7),.v ci] 0,.mk [.p (.pt 7 0 3),.p (.k g8)] [] [.cells [xi,xl 2,.hd 8],.row 19] [] [] []]),(66846750,[gA [.v (.c (.sl 5))] 1]),(133955653,[gA [.v cb] 10]),(536084560,[gA [.v (.st 15),.v cb] 3]),(68531257383,[gA [.v cb] 2]),(68531388464,[gA [.v (.st 15),.v cb] 3]),(548252024898,[.mk [] [.h 0 25 (.hd 3),.h 0 26 (xi),.h 1 1 (.hd 4),.h 2 0 (xl 0),.w 3 1,.w 4 5,.m 5 7 true,.h 9 1 (.fp 20),.h 9 20 (.hd 11),.w 11 15] [] [(1000000,9)] [] []]),(2193007837246,[.mk [] [.h 9 2 (xi),.h 9 3 (xi),.h 9 4 (xi),.h 9 5 (xi),.h 9 6 (xi),.h 9 7 (xi),.h 9 8 (xi),.h 9 9 (xi),.h 9 10 (xi),.h 9 11 (xl 4),.h 9 12 (xi),.h 9 13 (xb),.h 9 14 (xb),.h 9 15 (xi),.h 9 16 (xi),.h 9 17 (xi),.h 9 18 (xi),.h 9 19 (xi),.h 9 22 (xi),.h 9 23 (xi),.h 9 24 (xi)] [] [(1000000,8)] [] []])]],λ(t,u,v,w,x,y,z,A,E,F,a,b,d,e,f,g,h,i,j,k,l,m,n,o,p,q,r,_,s)=>zeS N t u v w x y z A E F a b d e f g h i j k l m n o p q r s⟩
def Ae:f9 18 (zU N):=og (g:=18) N (.c (wY N)<|.nil) (.c (h_ N)<|.c (kk N)<|.c (lZ N)<|.c (pB N)<|.c (rC N)<|.c (pK N)<|.c (pF N)<|.c (pR N)<|.c (ry N)<|.c (qa N)<|.c (zcE N)<|.nil)
def qF:dC:=⟨.mk [.p (.pt 0 0 27)] [] [g7 1 2 3,.cells [xi,.hd 4],.cells [xl 0,.mr 5],.row 1,.row 5,.mp 7 true] [] [] [],[.mk [.ag [.k j7,.pt 0 0 27],.v ci] [] [] [] [] [(393224,[gA [.p (.k j7),.v ci] 0,.mk [.p (.pt 7 0 3),.p (.k g8)] [] [.cells [xi,xl 2,.hd 8],.row 19] [] [] []])],.mk [.ag [.pt 6 0 3,.pt 0 0 27],.p (.k g8)] [] [.cells [xi,xl 2,.hd 7],.row 19] [] [] []],λ(s,t,u,v,w,x,y,z,A,E,a,b,d,e,f,g,h,i,j,k,l,m,n,o,p,q,r,_,_)=>zfg N s t u v w x y z A E a b d e f g h i j k l m n o p q r⟩
def rB:f9 47 (qF N):=og (g:=47) N .nil (.c (h_ N)<|.nil)
def jY:dC:=⟨.mk [.ag [.pt 0 0 3,.pt 1 0 27],.v (.st 5)] [] [.cells [xi,xl 2,.hd 2],g7 3 4 5,.row 19,.cells [xi,.hd 6],.cells [xl 0,.mr 7],.row 1,.row 5,.mp 7 true] [] [] [],[.mk [.v (.st 23),.v cb] [.h 0 2 (.hd 2),.w 2 19] [] [] [] [(393231,[gA [.v (.st 15),.v cb] 0]),(4063271,[.mk [.v ci] [.h 0 2 (.hd 2),.w 2 19] [] [(1000000,1)] [] []])]],λ(q,_,_,_,r,s,t,u,v,w,a,b,d,e,f,g,h,i,j,k,l,m,n,o,p,_,_,_,_,_,_,_,_)=>zbj N q r s t u v w a b d e f g h i j k l m n o p⟩
def jP:f9 50 (jY N):=og (g:=50) N .nil (.c (zck N)<|.c (zbN N)<|.nil)
def nG:dC:=⟨.mk [.p (.pt 0 0 3)] [] [.cells [xi,xl 2,.hd 1],.row 19] [] [] [],[g6 [.v ci]],λ(_,a,_)=>zdN N a⟩
def nA:f9 51 (nG N):=og (g:=51) N .nil .nil
def th:dC:=⟨.mk [.p (.pt 0 0 27)] [] [g7 1 2 3,.cells [xi,.hd 4],.cells [xl 0,.mr 5],.row 1,.row 5,.mp 7 true] [] [] [],[.mk [.v (.st 16),.v ci] [.h 0 25 (.hd 3),.h 0 26 (xi),.h 1 1 (.hd 4),.h 2 0 (xl 0),.w 3 1,.w 4 5,.m 5 7 true] [] [(53,15),(70,15)] [(250,⟨[.r 23 ci,.h 0 26 hi,.h 2 0 (hl 0),.w 3 1,.w 4 5,.m 5 7 true,.w 8 19,.w 11 15,.w 12 15],[],[(1058817,15),(1058816,15)],[(0,25,3),(1,1,4),(7,2,8),(10,0,12),(10,1,11)]⟩),(2003,⟨[.h 0 26 hi,.h 2 0 (hl 0),.w 3 1,.w 4 5,.m 5 7 true,.w 8 19,.w 11 15,.w 12 15],[],[],[(0,25,3),(1,1,4),(7,2,8),(10,0,12),(10,1,11)]⟩),(10995116277884,⟨[],[],[(14,0)],[]⟩)] [(393229,[gA [.ag [.k j7,.pt 0 0 27],.v ci] 0,.mk [.ag [.pt 7 0 3,.pt 0 0 27],.p (.k g8)] [] [.cells [xi,xl 2,.hd 8],.row 19] [] [] []]),(8126485,[gA [.v (.c (.sl 5))] 1]),(4200857630,[gA [.v cb] 2]),(4200988707,[.mk [.v (.st 23),.v cb] [.h 7 2 (.hd 8),.w 8 19] [] [(1000000,3)] [] []]),(67217260591,[gA [.v ci] 4]),(268869435456,[.mk [.v ci] [.h 2 0 (xl 0),.m 5 7 true,.h 0 25 (.hd 3),.h 0 26 (xi),.h 1 1 (.hd 4),.w 3 1,.w 4 5] [] [(1000000,5)] [] []])]],λ(t,u,v,w,x,y,z,A,E,F,a,b,d,e,f,g,h,i,j,k,l,m,n,o,p,q,r,_,s)=>zcQ N t u v w x y z A E F a b d e f g h i j k l m n o p q r s⟩
def tw:f9 12 (th N):=og (g:=12) N .nil (.c (rB N)<|.c (kk N)<|.c (lZ N)<|.c (jP N)<|.c (nA N)<|.c (zbL N)<|.nil)
def yj:dC:=⟨.mk [.p (.pt 0 0 27)] [] [g7 1 2 3,.cells [xi,.hd 4],.cells [xl 0,.mr 5],.row 1,.row 5,.mp 7 true] [] [] [],[.mk [.v (.st 16),.v ci] [.h 0 25 (.hd 3),.h 0 26 (xi),.h 1 1 (.hd 4),.h 2 0 (xl 0),.w 3 1,.w 4 5,.m 5 7 true] [] [] [] [(917512,[gA [.v (.st 10)] 0]),(917514,[g6 [.ag [.k (.c (.fn (.func 18) [] []))]],g6 [.ag [.k (.c (.fn (.func 12) [] []))]]]),(917517,[.mk [.v (.st 16),.v ci] [.h 0 25 (.hd 3),.h 0 26 (xi),.h 1 1 (.hd 4),.h 2 0 (xl 0),.w 3 1,.w 4 5,.m 5 7 true] [] [(1000000,1)] [] []]),(15716035654990179272097805,[.mk [.v (.st 16),.v ci] [.h 0 25 (.hd 3),.h 0 26 (xi),.h 1 1 (.hd 4),.h 2 0 (xl 0),.w 3 1,.w 4 5,.m 5 7 true] [] [(1000000,2)] [] []])]],λ(t,u,v,w,x,y,z,A,E,F,a,b,d,e,f,g,h,i,j,k,l,m,n,o,p,q,r,_,s)=>zcr N t u v w x y z A E F a b d e f g h i j k l m n o p q r s⟩
def mK:f9 29 (yj N):=og (g:=29) N .nil (.c (za9 N)<|.c (Ae N)<|.c (tw N)<|.nil)
def sQ:bE:=⟨[],[cb],λa=>gh N⟩
def sH:eP 28 (sQ N):=tg [] [] [(393224,[gA [.p (.k j7),.p (.k (.c (.lit (.int .i64 2))))] 0,.mk [.p (.pt 0 0 27),.p (.k g8)] [] [g7 1 2 3,.cells [xi,.hd 4],.cells [xl 0,.mr 5],.row 1,.row 5,.mp 7 true] [] [] []]),(917518,[gA [.v ci] 1]),(1966096,[gA [.v cb] 2]),(4063251,[gA [.v (.st 16),.v ci] 3]),(8257575,[gA [.v cb] 5]),(7696582311950,[.mk [.v ci] [.h 1 1 (.hd 4),.w 4 5,.h 0 21 (xi),.h 0 25 (.hd 3),.w 3 1] [] [(1000000,4)] [] []]),(7696583360528,[gA [.v cb] 5]),(7696585457683,[.mk [.v (.st 16),.v ci] [.h 0 25 (.hd 3),.h 0 26 (xi),.h 1 1 (.hd 4),.h 2 0 (xl 0),.w 3 1,.w 4 5,.m 5 7 true] [] [(1000000,6)] [] []])] N (.c (sU N)<|.nil) (.c (zf N)<|.c (oE N)<|.c (wz N)<|.c (yq N)<|.c (pg N)<|.c (kU N)<|.c (mK N)<|.nil)
def xy:bE:=⟨[.st 10],[cb],λa=>ze4 N a.1⟩
def xp:eP 43 (xy N):=tg [] [(58,k9 [.r 26 ci]),(122,k9 [.r 37 ci])] [] N .nil .nil
def xo:bE:=⟨[.c (.sl 5)],[cb],λa=>zeZ N a.1⟩
def wk:eP 44 (xo N):=tg [] [(58,k9 [.r 10 ci])] [] N .nil .nil
def wo:bE:=⟨[.st 10,.st 14],[cb],λa=>zcL N a.1 a.2.1⟩
def wK:eP 10 (wo N):=tg [] [(6,k9 [.r 40 cb]),(58,k9 [.r 44 ci])] [] N (.c (xp N)<|.c (wk N)<|.nil) .nil
def CA:bE:=⟨[ci,ci,ci],[cb],λa=>zdt N a.1 a.2.1 a.2.2.1⟩
def rY:eP 131 (CA N):=tg [] [] [] N .nil .nil
def BQ:bE:=⟨[.st 10,.st 14],[cb],λa=>jA N a.1 a.2.1⟩
def BK:eP 68 (BQ N):=tg [] [] [] N (.c (rY N)<|.nil) .nil
def EK:bE:=⟨[ci],[ci],λa=>nU N a.1⟩
def El:eP 133 (EK N):=tg [] [] [] N (.c (gG N)<|.nil) .nil
def FR:bE:=⟨[.st 10,.st 14],[cb],λa=>qT N a.1 a.2.1⟩
def Ge:eP 69 (FR N):=tg [] [(122,k9 [.r 5 ci,.r 17 ci]),(62671,k9 [.r 72 cb])] [] N (.c (zfi N)<|.c (El N)<|.nil) .nil
def IR:bE:=⟨[.st 10,ci,.st 0],[ci],λa=>vP N a.1 a.2.1 a.2.2.1⟩
def JV:eP 195 (IR N):=tg [] [(122,k9 [.r 7 ci,.r 30 ci])] [] N (.c (zbX N)<|.c (zp N)<|.nil) .nil
def JL:bE:=⟨[.st 10,ci,ci,.st 0],[cb],λa=>zeP N a.1 a.2.1 a.2.2.1 a.2.2.2.1⟩
def IG:eP 135 (JL N):=tg [] [] [] N (.c (zbX N)<|.c (JV N)<|.nil) .nil
end Go.Abs
end
end
section
set_option maxRecDepth 100000
noncomputable section
namespace Go.Abs
open Go.Proofs
variable[Gl](N:Nat)
def CI:bE:=⟨[.st 5,ci],[ci],λa=>iz N a.1 a.2.1⟩
def CE:eP 197 (CI N):=tg [] [] [] N .nil .nil
def zbG:bE:=⟨[.c (.sl 5),ci,.k 197],[ci,cb],λa=>zaB N a.1 a.2.1⟩
def zbH:eP 196 (zbG N):=tg [] [(60,k9 [.r 9 ci,.r 10 ci])] [] N (.c (CE N)<|.nil) .nil
def Gi:bE:=⟨[.c (.sl 5),ci],[ci,cb],λa=>ni N a.1 a.2.1⟩
def xN:eP 136 (Gi N):=tg [] [] [] N (.c (zbH N)<|.nil) .nil
def Bp:bE:=⟨[.st 10,.st 14],[cb],λa=>jH N a.1 a.2.1⟩
def BD:eP 70 (Bp N):=tg [] [(26,k9 [.r 14 ci]),(211,k9 []),(27038,k9 [.r 33 ci])] [] N (.c (gG N)<|.c (IG N)<|.c (xN N)<|.nil) .nil
def t_:bE:=⟨[.st 10,.st 14],[cb],λa=>zer N a.1 a.2.1⟩
def vy:eP 71 (t_ N):=tg [] [(250,k9 [.r 7 (.c (.sl 7)),.r 23 ci,.h 2 0 (hl 0),.m 3 7 true]),(2003,k9 [.r 7 (.c (.sl 7)),.h 2 0 (hl 0),.m 3 7 true]),(256415,k9 [.r 74 cb,.h 2 0 (hl 0),.m 3 7 true])] [(393229,[gA [.p (.k j7),.p (.k (.c (.lit (.int .i64 2))))] 0,.mk [.p (.pt 2 0 2),.p (.k g8)] [] [.cells [xl 0,.mr 3],.mp 7 true] [] [] []]),(33608826952,[.mk [.v ci] [.h 2 0 (xl 0),.m 3 7 true] [] [(1000000,1)] [] []])] N (.c (zff N)<|.c (uW N)<|.nil) (.c (zfb N)<|.c (zcq N)<|.nil)
def AH:bE:=⟨[.st 10,.st 14],[cb],λa=>gM N a.1 a.2.1⟩
def zu:eP 72 (AH N):=tg [] [(58,k9 [.r 23 ci]),(122,k9 [.r 43 ci]),(125342,k9 [.r 60 ci])] [] N (.c (xQ N)<|.c (xN N)<|.c (xJ N)<|.nil) .nil
def Ff:bE:=⟨[.c (.sl 1)],[cb],λa=>oj N a.1⟩
def Fj:eP 139 (Ff N):=tg [] [(26,k9 [.r 7 ci])] [] N .nil .nil
def DU:bE:=⟨[.st 10,.st 14],[cb],λa=>oC N a.1 a.2.1⟩
def EP:eP 73 (DU N):=tg [] [(6,k9 [.r 18 cb]),(14,k9 [.r 33 cb]),(122,k9 [.r 38 ci])] [] N (.c (rY N)<|.c (Fj N)<|.nil) .nil
def DG:bE:=⟨[.st 10,.st 14],[cb],λa=>nS N a.1 a.2.1⟩
def Fi:eP 20 (DG N):=tg [] [] [] N (.c (zbX N)<|.c (BK N)<|.c (Ge N)<|.c (BD N)<|.c (vy N)<|.c (zu N)<|.c (EP N)<|.nil) .nil
def yF:dC:=⟨g6 [.v (.st 10)],[.mk [.p (.k j7),.p (.k (.c (.lit (.int .i64 2))))] [] [] [(37,1)] [] [(917517,[gA [.p (.k j7),.p (.k (.c (.lit (.int .i64 2))))] 0,.mk [.p (.pt 1 0 2),.p (.k g8)] [] [.cells [xi,xn]] [] [] []]),(4063253,[gA [.p (.k j7),.p (.k (.c (.lit (.int .i64 2))))] 1,.mk [.p (.pt 2 0 2),.p (.k g8)] [] [.cells [xl 0,.mr 3],.mp 7 true] [] [] []])],.mk [.p (.pt 0 0 27),.p (.k g8)] [] [.cells [.pt 1 0 2,.pt 2 0 2,xl 0,xl 2,xl 3,xi,xi,xi,xi,xi,xi,xi,xi,xi,xi,xi,xi,xi,xi,xi,xi,xi,xi,xn,xl 1,.hd 3,xi],.cells [xi,xn],.cells [xl 0,.mr 4],.row 1,.mp 7 true] [] [] []],λa=>fH N a⟩
def yz:f9 39 (yF N):=og (g:=39) N (.c (zbX N)<|.c (gY N)<|.c (Aa N)<|.nil) (.c (mA N)<|.c (zfb N)<|.nil)
def zdr:dC:=⟨g6 [.v (.c (.sl 8))],[.mk [.p (.hd 0)] [] [.row 8] [] [] []],λx=>zba N x⟩
def zdq:f9 57 (zdr N):=jg (i:=8) (sz:=32) (z:=[g8,g8,g8,g8]) (fn:=Tryz.f57) dG (by kernel_rfl) (by kernel_rfl) (by kernel_rfl) rfl
def kJ:dC:=⟨g6 [.v (.c (.sl 1))],[.mk [.p (.hd 0)] [] [.row 1] [] [] []],λx=>zbp N x⟩
def kD:f9 58 (kJ N):=jg (i:=1) (sz:=8) (z:=[g8]) (fn:=Tryz.f58) dG (by kernel_rfl) (by kernel_rfl) (by kernel_rfl) rfl
def AK:dC:=⟨g6 [.v (.st 10),.v (.st 14)],[.mk [.p (.k j7),.v ci] [] [] [] [(250,⟨[.r 29 ci,.w 7 5],[],[(1051649,5)],[(3,1,7)]⟩),(506,k9 [.r 46 ci,.h 4 0 (hl 0),.m 6 7 true])] [(917524,[gA [.p (.k j7),.p (.k (.c (.lit (.int .i64 2))))] 0,.mk [.p (.pt 2 0 27),.p (.k g8)] [] [.cells [.pt 3 0 2,.pt 4 0 2,xl 0,xl 2,xl 3,xi,xi,xi,xi,xi,xi,xi,xi,xi,xi,xi,xi,xi,xi,xi,xi,xi,xi,xn,xl 1,.hd 5,xi],.cells [xi,xn],.cells [xl 0,.mr 6],.row 1,.mp 7 true] [] [] []]),(33423438,[.mk [.p (.hd 8)] [] [.row 8] [(1000000,3)] [] []]),(66977876,[.mk [.p (.hd 9)] [] [.row 1] [(1000000,4)] [] []]),(134086747,[.mk [.p (.hd 10)] [] [.row 1] [(1000000,4)] [] []]),(2100428838,[.mk [.v ci] [.h 3 1 (.hd 7),.w 7 5] [] [(1000000,1)] [] []]),(4247912503,[.mk [.v ci] [.h 4 0 (xl 0),.m 6 7 true] [] [(1000000,2)] [] []])],.mk [.p (.pt 0 0 27),.p (.k g8)] [] [g7 1 2 3,.cells [xi,.hd 4],.cells [xl 0,.mr 5],.row 1,.row 5,.mp 7 true] [] [] []],λ(a,b)=>dE N a b⟩
def Af:f9 45 (AK N):=og (g:=45) N (.c (Fi N)<|.nil) (.c (yz N)<|.c (zfh N)<|.c (zcq N)<|.c (zdq N)<|.c (kD N)<|.nil)
def zb:bE:=⟨[ci,ci,ci],[cb],λa=>AT N a.1 a.2.1 a.2.2.1⟩
def zdY:eP 215 (zb N):=tg [] [] [] N .nil .nil
def tf:bE:=⟨[ci],[cb],λa=>zb9 N a.1⟩
def tz:eP 202 (tf N):=tg [] [] [] N .nil .nil
def sW:bE:=⟨[.st 0],[cb],λa=>zaX N a.1⟩
def zc0:eP 144 (sW N):=tg [] [] [] N (.c (tz N)<|.nil) .nil
def tN:bE:=⟨[.st 10],[cb],λa=>zcY N a.1⟩
def sf:eP 216 (tN N):=tg [] [(26,k9 [.r 3 ci])] [] N (.c (zc0 N)<|.c (zdY N)<|.nil) .nil
def qV:bE:=⟨[.c (.sl 1),ci],[cb],λa=>zcp N a.1 a.2.1⟩
def gN:eP 257 (qV N):=tg [] [(26,k9 [.r 5 ci]),(420,k9 [.r 40 cb])] [] N .nil .nil
def si:bE:=⟨[.st 10],[cb],λa=>zcZ N a.1⟩
def tH:eP 217 (si N):=tg [] [(26,k9 [.r 3 ci]),(420,k9 [.r 29 cb])] [] N (.c (gN N)<|.c (zdY N)<|.nil) .nil
def rL:bE:=⟨[.st 10],[cb],λa=>zcx N a.1⟩
def q_:eP 218 (rL N):=tg [] [(26,k9 [.r 3 ci]),(841,k9 [.r 59 cb])] [] N (.c (gN N)<|.c (zdY N)<|.nil) .nil
def um:bE:=⟨[.st 10],[.c .str],λa=>gT N a.1⟩
def uS:eP 168 (um N):=tg [(28,24),(69,25)] [(7,k9 [.r 4 cb]),(506,k9 [.r 7 ci])] [] N (.c (sf N)<|.c (tH N)<|.c (zdY N)<|.c (q_ N)<|.nil) .nil
def sE:bE:=⟨[.st 10],[cb],λa=>zcV N a.1⟩
def sm:eP 107 (sE N):=tg [] [] [] N (.c (uS N)<|.nil) .nil
def tM:bE:=⟨[ci],[cb],λa=>zbn N a.1⟩
def iV:eP 108 (tM N):=tg [] [] [] N .nil .nil
def uE:bE:=⟨[.c (.sl 5),ci],[ci],λa=>za8 N a.1 a.2.1⟩
def zdb:eP 21 (uE N):=tg [] [(26,k9 [.r 5 ci])] [] N .nil .nil
def sR:bE:=⟨[.c (.sl 6),ci],[cb],λa=>zbw N a.1 a.2.1⟩
def iW:eP 76 (sR N):=tg [] [(26,k9 [.r 5 ci]),(420,k9 [.r 60 cb])] [] N .nil .nil
def yn:bE:=⟨[.c (.sl 6),ci],[ci],λa=>zdg N a.1 a.2.1⟩
def mB:eP 38 (yn N):=tg [] [(58,k9 [.r 5 ci,.r 6 ci]),(233,k9 [.r 5 ci])] [] N .nil .nil
def wI:bE:=⟨[.st 0,.st 0],[.st 0],λa=>Zj N a.1 a.2.1⟩
def zfe:eP 36 (wI N):=tg [] [] [] N .nil .nil
def sn:bE:=⟨[.st 0,ci],[.st 0],λa=>zcU N a.1 a.2.1⟩
def sP:eP 37 (sn N):=tg [] [(58,k9 [.r 6 ci,.h 2 0 hi,.h 2 1 hi,.h 2 2 hi,.h 2 3 hi])] [] N (.c (zfe N)<|.nil) .nil
def tX:bE:=⟨[.st 0,.st 0],[cb],λa=>OZ N a.1 a.2.1⟩
def zeI:eP 201 (tX N):=tg [] [] [] N .nil .nil
def xc:bE:=⟨[.st 0,.st 0],[.st 0],λa=>zcG N a.1 a.2.1⟩
def wQ:eP 203 (xc N):=tg [] [] [] N .nil .nil
def ul:bE:=⟨[.c (.sl 0),.c (.sl 7)],[.c (.sl 0),cb],λa=>zeC N a.1 a.2.1⟩
def uF:eP 146 (ul N):=tg [(55,0)] [(122,⟨[.r 7 cb,.r 8 ci,.w 0 0],[(6,0)],[(6,0)],[]⟩),(7827,k9 [.r 7 cb]),(31306,k9 [.r 10 ci,.h 1 0 hi,.h 1 1 hi,.h 1 2 hi,.h 1 3 hi])] [] N (.c (mB N)<|.c (sP N)<|.c (zfe N)<|.c (wQ N)<|.c (zeI N)<|.nil) .nil
def qQ:bE:=⟨[.st 10,.st 14],[cb],λa=>zdy N a.1 a.2.1⟩
def qI:eP 109 (qQ N):=tg [] [(26,k9 [.r 5 ci]),(841,k9 [.r 57 cb])] [] N (.c (zdb N)<|.c (iW N)<|.c (zc0 N)<|.c (uF N)<|.nil) .nil
def sX:bE:=⟨[.st 14,ci,ci],[cb],λa=>zdX N a.1 a.2.1 a.2.2.1⟩
def su:eP 169 (sX N):=tg [] [(26,k9 [.r 7 ci]),(841,k9 [.r 54 cb])] [] N (.c (zdb N)<|.c (mB N)<|.nil) .nil
def wR:bE:=⟨[.st 8,ci],[cb],λa=>zeV N a.1 a.2.1⟩
def wH:eP 219 (wR N):=tg [] [] [] N (.c (iV N)<|.nil) .nil
def se:bE:=⟨[.c (.sl 8),ci,ci,ci],[cb],λa=>zb8 N a.1 a.2.1 a.2.2.1 a.2.2.2.1⟩
def sN:eP 25 (se N):=tg [] [(26,k9 [.r 9 ci])] [] N .nil .nil
def tq:bE:=⟨[.c (.sl 8),ci],[cb],λa=>zdZ N a.1 a.2.1⟩
def sC:eP 170 (tq N):=tg [] [(26,k9 [.r 5 ci]),(3366,k9 [.r 6 ci]),(53860,k9 [.r 58 cb])] [] N (.c (wH N)<|.c (sN N)<|.nil) .nil
def sv:bE:=⟨[.st 10,.st 14],[cb],λa=>zdT N a.1 a.2.1⟩
def sK:eP 110 (sv N):=tg [] [(26,k9 [.r 5 ci]),(841,k9 [.r 38 cb])] [] N (.c (su N)<|.c (sC N)<|.nil) .nil
def wW:bE:=⟨[.c (.sl 1),ci],[cb],λa=>zeX N a.1 a.2.1⟩
def wM:eP 111 (wW N):=tg [] [(26,k9 [.r 5 ci]),(420,k9 [.r 23 cb])] [] N .nil .nil
def yK:bE:=⟨[ci,ci,ci],[cb],λa=>RJ N a.1 a.2.1 a.2.2.1⟩
def ym:eP 200 (yK N):=tg [] [] [] N .nil .nil
def tu:bE:=⟨[.st 5],[cb],λa=>zdV N a.1⟩
def tI:eP 142 (tu N):=tg [] [(14,k9 [.r 61 cb]),(26,k9 [.r 3 ci]),(30,k9 [.r 85 cb]),(62,k9 [.r 101 cb]),(126,k9 [.r 119 cb])] [] N (.c (ym N)<|.c (zc0 N)<|.c (zeI N)<|.nil) .nil
def vx:bE:=⟨[.c (.sl 7),ci],[ci],λa=>zez N a.1 a.2.1⟩
def uB:eP 145 (vx N):=tg [] [(26,k9 [.r 5 ci])] [] N .nil .nil
def w_:bE:=⟨[.st 5],[cb],λa=>zdJ N a.1⟩
def kO:eP 91 (w_ N):=tg [] [] [] N .nil .nil
def tE:bE:=⟨[.st 0,.st 0],[ci],λa=>zbz N a.1 a.2.1⟩
def s_:eP 258 (tE N):=tg [] [(6,k9 [.r 19 cb]),(124,k9 [.r 5 ci,.h 2 0 hi,.h 2 1 hi,.h 2 2 hi,.h 2 3 hi]),(496,k9 [.r 27 cb])] [] N (.c (zfe N)<|.c (zeI N)<|.c (zc0 N)<|.nil) .nil
def vq:bE:=⟨[.st 10,ci,.st 0],[ci],λa=>iC N a.1 a.2.1 a.2.2.1⟩
def tU:eP 220 (vq N):=tg [] [(122,k9 [.r 7 ci,.r 8 ci])] [] N (.c (s_ N)<|.nil) .nil
def u_:bE:=⟨[.st 10,ci,ci,.st 0],[cb],λa=>zdo N a.1 a.2.1 a.2.2.1 a.2.2.2.1⟩
def uZ:eP 171 (u_ N):=tg [] [] [] N (.c (tU N)<|.nil) .nil
def sY:bE:=⟨[.c (.sl 6)],[ci],λa=>zdW N a.1⟩
def sD:eP 24 (sY N):=tg [] [(58,k9 [.r 3 ci,.r 4 ci]),(233,k9 [.r 3 ci])] [] N .nil .nil
def wZ:bE:=⟨[.c (.sl 1),ci],[cb],λa=>ze5 N a.1 a.2.1⟩
def xz:eP 77 (wZ N):=tg [] [(26,k9 [.r 5 ci])] [] N .nil .nil
def vB:bE:=⟨[.st 10,.st 5,.c (.sl 6)],[cb],λa=>zeu N a.1 a.2.1 a.2.2.1⟩
def vz:eP 23 (vB N):=tg [] [(6,k9 [.r 34 cb]),(122,k9 [.r 8 ci])] [] N (.c (xz N)<|.c (iW N)<|.c (sD N)<|.nil) .nil
def wN:bE:=⟨[.st 10,.st 14,.st 5],[cb],λa=>ze6 N a.1 a.2.1 a.2.2.1⟩
def xh:eP 112 (wN N):=tg [] [(15,k9 [.r 7 ci]),(31,k9 [.r 7 ci]),(63,k9 [.r 7 ci]),(510,k9 [.r 83 cb]),(8186,k9 [.r 9 ci])] [] N (.c (tI N)<|.c (uB N)<|.c (zdb N)<|.c (uZ N)<|.c (kO N)<|.c (vz N)<|.nil) .nil
def sG:bE:=⟨[.st 10,.st 14],[cb],λa=>zcP N a.1 a.2.1⟩
def tp:eP 46 (sG N):=tg [] [(6,k9 [.r 43 cb]),(14,k9 [.r 86 cb]),(122,k9 [.r 5 ci]),(250,k9 [.r 6 ci]),(4004,k9 [.r 138 cb])] [] N (.c (iV N)<|.c (xh N)<|.c (qI N)<|.c (sK N)<|.c (wM N)<|.c (sm N)<|.nil) .nil
def ui:bE:=⟨[.st 5,.st 5],[cb],λa=>zes N a.1 a.2.1⟩
def vA:eP 149 (ui N):=tg [] [(58,k9 [.r 5 ci])] [] N .nil .nil
def uP:bE:=⟨[.c (.sl 5),.c (.sl 5)],[cb],λa=>zev N a.1 a.2.1⟩
def tT:eP 83 (uP N):=tg [] [(58,k9 [.r 5 ci])] [] N (.c (vA N)<|.nil) .nil
def ux:bE:=⟨[.c (.sl 6),.c (.sl 6)],[cb],λa=>zeB N a.1 a.2.1⟩
def uv:eP 123 (ux N):=tg [] [(58,k9 [.r 5 ci])] [] N .nil .nil
def uD:bE:=⟨[.c (.sl 7),.c (.sl 7)],[cb],λa=>zex N a.1 a.2.1⟩
def ue:eP 84 (uD N):=tg [] [(58,k9 [.r 5 ci]),(932,k9 [.r 54 cb])] [] N (.c (uv N)<|.nil) .nil
def vn:bE:=⟨[.c (.sl 8),.c (.sl 8)],[cb],λa=>zey N a.1 a.2.1⟩
def ud:eP 85 (vn N):=tg [] [(58,k9 [.r 5 ci])] [] N .nil .nil
def tV:bE:=⟨[.c (.sl 1),.c (.sl 1)],[cb],λa=>zdd N a.1 a.2.1⟩
def vw:eP 86 (tV N):=tg [] [(58,k9 [.r 5 ci])] [] N .nil .nil
def uO:bE:=⟨[.st 14,.st 14],[cb],λa=>zbQ N a.1 a.2.1⟩
def kf:eP 27 (uO N):=tg [] [] [] N (.c (tT N)<|.c (ue N)<|.c (ud N)<|.c (vw N)<|.nil) .nil
end Go.Abs
end
end
section
set_option maxRecDepth 100000
noncomputable section
namespace Go.Abs
open Go.Proofs
variable[Gl](N:Nat)
def pz:dC:=⟨g6 [.v (.st 10),.v (.st 14)],[.mk [.p (.k j7),.v cb] [] [] [] [] [(393227,[gA [.p (.k j7),.v ci] 0,.mk [.p (.pt 2 0 27),.p (.k g8)] [] [g7 3 4 5,.cells [xi,.hd 6],.cells [xl 0,.mr 7],.row 1,.row 5,.mp 7 true] [] [] []]),(1966113,[gA [.v (.st 14)] 1])],.mk [.p (.pt 0 0 27),.v cb] [] [g7 1 2 3,.cells [xi,.hd 4],.cells [xl 0,.mr 5],.row 1,.row 5,.mp 7 true] [] [] []],λ(a,b)=>cn N a b⟩
def py:f9 11 (pz N):=og (g:=11) N (.c (tp N)<|.c (kf N)<|.nil) (.c (Af N)<|.c (zaZ N)<|.nil)
def xr:bE:=⟨[.st 4,.c (.sl 5)],[ci],λa=>ze1 N a.1 a.2.1⟩
def xj:eP 199 (xr N):=tg [] [(14,k9 [.r 27 cb]),(30,k9 [.r 45 cb])] [] N (.c (zdb N)<|.nil) .nil
def xw:bE:=⟨[.st 5,.c (.sl 5)],[cb],λa=>zdI N a.1 a.2.1⟩
def wO:eP 140 (xw N):=tg [] [(26,k9 [.r 5 ci])] [] N (.c (xj N)<|.nil) .nil
def yP:bE:=⟨[.st 5,.c (.sl 5)],[cb],λa=>zeo N a.1 a.2.1⟩
def yk:eP 74 (yP N):=tg [] [] [] N (.c (wO N)<|.nil) .nil
def xq:bE:=⟨[ci,ci],[ci],λa=>ze3 N a.1 a.2.1⟩
def xa:eP 284 (xq N):=tg [] [(58,k9 [.r 5 ci])] [] N .nil .nil
def vf:bE:=⟨[ci,ci,ci],[ci],λa=>zbR N a.1 a.2.1 a.2.2.1⟩
def j_:eP 285 (vf N):=tg [] [] [] N .nil .nil
def rE:bE:=⟨[ci],[ci],λa=>zcn N a.1⟩
def rN:eP 286 (rE N):=tg [] [] [] N (.c (j_ N)<|.nil) .nil
def sJ:bE:=⟨[.st 10,.st 5,ci,.c (.sl 1)],[.st 11],λa=>zdS N a.1 a.2.1 a.2.2.1 a.2.2.2.1⟩
def sy:eP 254 (sJ N):=tg [] [(31,k9 [.h 3 2 hi]),(63,k9 [.h 3 3 hi])] [] N (.c (xa N)<|.c (j_ N)<|.c (rN N)<|.nil) .nil
def yW:bE:=⟨[.st 10,.st 5,ci,.c (.sl 1)],[ci],λa=>zdi N a.1 a.2.1 a.2.2.1 a.2.2.2.1⟩
def yR:eP 204 (yW N):=tg [] [] [] N (.c (sy N)<|.nil) .nil
def tx:bE:=⟨[.st 10,.st 5,.st 5,.st 26],[cb],λa=>zdR N a.1 a.2.1 a.2.2.1 a.2.2.2.1⟩
def sM:eP 151 (tx N):=tg [] [] [] N (.c (yR N)<|.nil) .nil
def lK:dC:=⟨.mk [.v (.st 10),.p (.hd 0),.v (.st 26)] [] [.row 5] [] [] [],[.mk [.v (.c (.sl 5))] [] [] [(47,5)] [(58,k9 [.r 7 (.c (.sl 5)),.r 8 ci]),(7460,k9 [.r 9 ci]),(29840,k9 [.r 34 cb])] []],λ(a,b,d)=>zbc N a b d⟩
def lH:f9 94 (lK N):=og (g:=94) N (.c (sM N)<|.nil) .nil
def tn:bE:=⟨[.st 10,.st 14],[.c (.sl 5)],λa=>zcb N a.1 a.2.1⟩
def tK:eP 34 (tn N):=tg [(28,5)] [(58,⟨[.r 6 ci,.w 2 5],[(5,2)],[(5,5)],[]⟩),(233,⟨[.w 2 5],[(5,2)],[],[]⟩)] [(1966117,[gA [.v (.c (.sl 5))] 0])] N (.c (yk N)<|.nil) (.c (lH N)<|.nil)
def vm:bE:=⟨[.st 14],[cb],λa=>zdj N a.1⟩
def uy:eP 31 (vm N):=tg [] [(26,k9 [.r 3 ci])] [] N (.c (kO N)<|.nil) .nil
def lr:bE:=⟨[.st 9],[cb],λa=>zdn N a.1⟩
def lw:eP 7 (lr N):=tg [] [(63,k9 [.r 5 cb]),(510,k9 [.r 71 cb])] [(1966103,[gA [.p (.k j7),.v cb] 0,.mk [.p (.pt 1 0 27),.v cb] [] [g7 2 3 4,.cells [xi,.hd 5],.cells [xl 0,.mr 6],.row 1,.row 5,.mp 7 true] [] [] []]),(16646198,[.mk [.v (.st 16),.v ci] [.h 1 25 (.hd 4),.h 1 26 (xi),.h 2 1 (.hd 5),.h 3 0 (xl 0),.w 4 1,.w 5 5,.m 6 7 true] [] [(1000000,1)] [] []]),(66846783,[gA [.v cb] 2]),(134086734,[.mk [.v (.st 16),.v ci] [.h 1 25 (.hd 4),.h 1 26 (xi),.h 2 1 (.hd 5),.h 3 0 (xl 0),.w 4 1,.w 5 5,.m 6 7 true] [] [(1000000,1)] [] []]),(268304475,[gA [.v (.st 14)] 3])] N (.c (sH N)<|.c (wK N)<|.c (kf N)<|.c (tK N)<|.c (uy N)<|.nil) (.c (py N)<|.c (mK N)<|.c (kU N)<|.c (zaZ N)<|.nil)
end Go.Abs
end
end
section
end
