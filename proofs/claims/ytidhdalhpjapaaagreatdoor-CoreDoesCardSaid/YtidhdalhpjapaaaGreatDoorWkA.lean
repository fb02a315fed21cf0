/- The code computes these functions. -/
import Derived.Test.YtidhdalhpjapaaaGreatDoorTyPure
import Derived.Test.YtidhdalhpjapaaaGreatDoorProg
import Derived.Test.YtidhdalhpjapaaaGreatDoorTyPrim
import Derived.KernelRfl
set_option linter.all false
section
set_option maxRecDepth 100000
noncomputable section
namespace Go.Abs
open Go.Proofs
abbrev ci:cR:=.c (.int .i64)
abbrev cb:cR:=.c .bool
abbrev xi:CP:=.c (.int .i64)
abbrev xb:CP:=.c .bool
abbrev xl(n:Nat):CP:=.c (.sl n)
abbrev xn:CP:=.k (.c (.lit (.slice none 0 0)))
theorem dF:Tryz.prog.follows .mixedOrders=true:=by kernel_rfl
def KB:cL:=Hq 79 146 1 (λk=>k)
theorem ZF:cL.ok Tryz.prog KB:=Nb Tryz.Qc (λk=>rfl)
theorem tg{g:Nat}{S:wj}{s:bz}(H:List (Nat×Nat))(J:List (Nat×JH))(C:List (Nat×List CT))(N:Nat)(b:mb Tryz.prog S){O:KF}(d:tS Tryz.prog O)(h:∀a,tG Tryz.prog g S O KB H J C s.ins s.out N a=s.f a):bB Tryz.prog g s:=tG_ok dF b d ZF h
theorem og{g:Nat}{S:wj}{O:KF}{s:cW}(N:Nat)(a:mb Tryz.prog S)(b:tS Tryz.prog O)(d:bq Tryz.prog g=true)(h:∀x,oG Tryz.prog g S O KB N s x=s.f x):cS Tryz.prog g s:=oG_ok dF a b ZF d h
end Go.Abs
end
end
section
set_option maxRecDepth 100000
noncomputable section
namespace Go.Abs
open Go.Proofs
def ri(N:Nat):bz:=⟨[],[.st 11],λa=>fK N⟩
theorem qZ(N:Nat):bB Tryz.prog 15 (ri N):=clo_ok (P:=Tryz.prog) (g:=15) (out:=[.st 11]) (λa=>fK N) dF (by kernel_rfl)
def Cd(N:Nat):bz:=⟨[.st 0],[.st 12],λa=>fQ N a.1⟩
theorem ut(N:Nat):bB Tryz.prog 162 (Cd N):=tg [] [] [] N (.nil) (.nil) (λa=>by kernel_rfl)
def GD(N:Nat):bz:=⟨[.st 0],[cb],λa=>Md N a.1⟩
theorem WK(N:Nat):bB Tryz.prog 101 (GD N):=tg [] [(26,⟨[.r 7 ci],[],[],[]⟩)] [] N (.cons (ut N)<|.nil) (.nil) (λa=>by kernel_rfl)
def wE(N:Nat):bz:=⟨[.st 11],[cb],λa=>ff N a.1⟩
theorem wR(N:Nat):bB Tryz.prog 202 (wE N):=tg [] [(58,⟨[.r 18 ci],[],[],[]⟩)] [] N (.cons (WK N)<|.nil) (.nil) (λa=>by kernel_rfl)
def yz(N:Nat):bz:=⟨[.c (.sl 1),ci],[cb],λa=>zeN N a.1 a.2.1⟩
theorem mW(N:Nat):bB Tryz.prog 249 (yz N):=tg [] [(58,⟨[.r 5 ci,.r 10 ci],[],[],[]⟩)] [] N (.nil) (.nil) (λa=>by kernel_rfl)
def xx(N:Nat):bz:=⟨[.st 11],[cb],λa=>fe N a.1⟩
theorem xz(N:Nat):bB Tryz.prog 204 (xx N):=tg [] [(58,⟨[.r 18 ci],[],[],[]⟩),(3737,⟨[.r 32 cb],[],[],[]⟩)] [] N (.cons (mW N)<|.nil) (.nil) (λa=>by kernel_rfl)
def vf(N:Nat):bz:=⟨[.st 11],[cb],λa=>ze4 N a.1⟩
theorem vh(N:Nat):bB Tryz.prog 207 (vf N):=tg [] [(58,⟨[.r 20 ci],[],[],[]⟩),(7474,⟨[.r 42 cb],[],[],[]⟩),(59802,⟨[.r 50 ci],[],[],[]⟩)] [] N (.cons (mW N)<|.nil) (.nil) (λa=>by kernel_rfl)
def tP(N:Nat):bz:=⟨[.st 13],[cb],λa=>zet N a.1⟩
theorem uy(N:Nat):bB Tryz.prog 209 (tP N):=tg [] [(26,⟨[.r 14 ci],[],[],[]⟩)] [] N (.nil) (.nil) (λa=>by kernel_rfl)
def Gn(N:Nat):bz:=⟨[.st 11],[.c .str],λa=>zt N a.1⟩
theorem Hu(N:Nat):bB Tryz.prog 82 (Gn N):=tg [] [(26,⟨[],[],[(1000003,40)],[]⟩)] [(786438,[.mk [] [] [] [(1000002,0),(43,1000001)] [] [(393225,[.mk [] [] [] [(1000002,0)] [] []]),(393232,[.mk [] [] [] [(1000002,0)] [] []]),(393237,[.mk [] [] [] [(1000002,0)] [] []]),(393240,[.mk [] [] [] [(1000002,0)] [] []]),(393243,[.mk [] [] [] [(1000002,0)] [] []]),(393246,[.mk [] [] [] [(1000002,0)] [] []]),(393249,[.mk [] [] [] [(1000002,0)] [] []]),(393252,[.mk [] [] [] [(1000002,0)] [] []]),(393255,[.mk [] [] [] [(1000002,0)] [] []]),(393258,[.mk [] [] [] [(1000002,0)] [] []])]]),(221380622,[.mk [.v cb] [] [] [] [] []])] N (.cons (wR N)<|.cons (xz N)<|.cons (vh N)<|.cons (uy N)<|.nil) (.nil) (λa=>by kernel_rfl)
def DY(N:Nat):bz:=⟨[.st 11],[cb],λa=>Oj N a.1⟩
theorem Wf(N:Nat):bB Tryz.prog 37 (DY N):=tg [] [] [] N (.cons (Hu N)<|.nil) (.nil) (λa=>by kernel_rfl)
def wA(N:Nat):cW:=⟨.mk [.v ci] [] [] [] [] [],[.mk [.p (.k (.c (.lit (.pointer none)))),.p (.k (.c (.lit (.int .i64 2))))] [] [] [] [] [],.mk [.p (.pt 0 0 2),.p (.k (.c (.lit (.int .i64 0))))] [] [.cells [xi,xn]] [] [] []],λa=>zef N a⟩
theorem ly(N:Nat):cS Tryz.prog 44 (wA N):=og (g:=44) N (.nil) (.nil) (by kernel_rfl) (λx=>by kernel_rfl)
def f_(N:Nat):bz:=⟨[.c (.sl 0)],[.c (.sl 0)],λa=>zaK N a.1⟩
theorem zbJ(N:Nat):bB Tryz.prog 94 (f_ N):=sL (i:=0) (sz:=32) (z:=[.c (.lit (.int .i64 0)),.c (.lit (.int .i64 0)),.c (.lit (.int .i64 0)),.c (.lit (.int .i64 0))]) (fn:=Tryz.f94) dF (by kernel_rfl) (by kernel_rfl) (by kernel_rfl) rfl
def vk(N:Nat):cW:=⟨.mk [.v (.st 11)] [] [] [] [] [],[.mk [.p (.k (.c (.lit (.pointer none)))),.p (.k (.c (.lit (.int .i64 2))))] [] [] [(10,15)] [] [],.mk [.p (.pt 0 0 2),.p (.k (.c (.lit (.int .i64 0))))] [] [.cells [xl 0,.mr 1],.mp 7 true] [] [] []],λa=>zcH N a⟩
theorem ze8(N:Nat):cS Tryz.prog 45 (vk N):=og (g:=45) N (.cons (Wf N)<|.cons (zbJ N)<|.nil) (.nil) (by kernel_rfl) (λx=>by kernel_rfl)
def iS(N:Nat):cW:=⟨.mk [.v (.c (.sl 2))] [] [] [] [] [],[.mk [.p (.hd 0)] [] [.row 2] [] [] []],λx=>zcs N x⟩
theorem iM(N:Nat):cS Tryz.prog 95 (iS N):=pc (i:=2) (sz:=24) (z:=[.c (.lit (.slice none 0 0))]) (fn:=Tryz.f95) dF (by kernel_rfl) (by kernel_rfl) (by kernel_rfl) rfl
def ot(N:Nat):bz:=⟨[.c (.sl 1)],[.c (.sl 1)],λa=>zbr N a.1⟩
theorem zff(N:Nat):bB Tryz.prog 36 (ot N):=sL (i:=1) (sz:=8) (z:=[.c (.lit (.int .i64 0))]) (fn:=Tryz.f36) dF (by kernel_rfl) (by kernel_rfl) (by kernel_rfl) rfl
def zdZ(N:Nat):cW:=⟨.mk [.v (.c (.sl 3))] [] [] [] [] [],[.mk [.p (.hd 0)] [] [.row 3] [] [] []],λx=>zbe N x⟩
theorem zd2(N:Nat):cS Tryz.prog 96 (zdZ N):=pc (i:=3) (sz:=64) (z:=[.c (.lit (.int .i64 0)),.c (.lit (.slice none 0 0)),.c (.lit (.int .i64 0)),.c (.lit (.int .i64 0)),.c (.lit (.int .i64 0)),.c (.lit (.int .i64 0))]) (fn:=Tryz.f96) dF (by kernel_rfl) (by kernel_rfl) (by kernel_rfl) rfl
def xW(N:Nat):bz:=⟨[.st 11],[.st 11],λa=>zc0 N a.1⟩
theorem g_(N:Nat):bB Tryz.prog 46 (xW N):=tg [] [(122,⟨[.r 16 ci,.w 2 2],[],[],[(0,1,2)]⟩),(506,⟨[.r 37 ci,.w 3 3],[],[],[(0,2,3)]⟩)] [(917515,[.mk [.p (.hd 2)] [] [.row 2] [(1000000,0)] [] []]),(4063264,[.mk [.p (.hd 3)] [] [.row 3] [(1000000,1)] [] []])] N (.cons (zbJ N)<|.cons (zff N)<|.nil) (.cons (iM N)<|.cons (zd2 N)<|.nil) (λa=>by kernel_rfl)
def AG(N:Nat):bz:=⟨[ci,ci,ci],[ci],λa=>zfe N a.1 a.2.1 a.2.2.1⟩
theorem qG(N:Nat):bB Tryz.prog 97 (AG N):=tg [] [] [] N (.nil) (.nil) (λa=>by kernel_rfl)
def HI(N:Nat):bz:=⟨[ci],[.c (.sl 1)],λa=>oE N a.1⟩
theorem yT(N:Nat):bB Tryz.prog 47 (HI N):=tg [(5,1)] [] [] N (.cons (qG N)<|.nil) (.nil) (λa=>by kernel_rfl)
def xh(N:Nat):cW:=⟨.mk [.v (.st 11)] [] [] [] [] [],[.mk [.p (.k (.c (.lit (.pointer none)))),.p (.k (.c (.lit (.int .i64 2))))] [] [] [(37,1)] [(3298534883343,⟨[],[],[(1049601,5)],[]⟩)] [(917517,[.mk [.p (.k (.c (.lit (.pointer none)))),.p (.k (.c (.lit (.int .i64 2))))] [] [] [(1000000,0)] [] [],.mk [.p (.pt 1 0 2),.p (.k (.c (.lit (.int .i64 0))))] [] [.cells [xi,xn]] [] [] []]),(4063253,[.mk [.p (.k (.c (.lit (.pointer none)))),.p (.k (.c (.lit (.int .i64 2))))] [] [] [(1000000,1)] [] [],.mk [.p (.pt 3 0 2),.p (.k (.c (.lit (.int .i64 0))))] [] [.cells [xl 0,.mr 4],.mp 7 true] [] [] []])],.mk [.p (.pt 0 0 27),.p (.k (.c (.lit (.int .i64 0))))] [] [.cells [.pt 1 0 2,.pt 2 0 2,xl 0,xl 2,xl 3,xi,xi,xi,xi,xi,xi,xi,xi,xi,xi,xi,xi,xi,xi,xi,xi,xi,xi,xl 8,xl 1,.hd 3,xi],.cells [xi,.hd 4],.cells [xl 0,.mr 5],.row 1,.row 5,.mp 7 true] [] [] []],λa=>qA N a⟩
theorem wC(N:Nat):cS Tryz.prog 14 (xh N):=og (g:=14) N (.cons (Wf N)<|.cons (g_ N)<|.cons (yT N)<|.nil) (.cons (ly N)<|.cons (ze8 N)<|.nil) (by kernel_rfl) (λx=>by kernel_rfl)
def zX(N:Nat):bz:=⟨[ci,ci],[.st 15],λa=>Bz N a.1 a.2.1⟩
theorem VB(N:Nat):bB Tryz.prog 22 (zX N):=tg [] [] [] N (.nil) (.nil) (λa=>by kernel_rfl)
def zV(N:Nat):cW:=⟨.mk [.p (.k (.c (.lit (.pointer none)))),.v (.st 10)] [] [] [] [] [],[.mk [.v (.st 15)] [] [] [] [] []],λa=>eO N a⟩
theorem pd(N:Nat):cS Tryz.prog 8 (zV N):=og (g:=8) N (.cons (VB N)<|.nil) (.nil) (by kernel_rfl) (λx=>by kernel_rfl)
def p_(N:Nat):cW:=⟨.mk [] [] [] [] [] [],[.mk [.p (.mr 0)] [] [.mp 16 true] [(1,33)] [] []],λx=>zbn N⟩
theorem qt(N:Nat):cS Tryz.prog 23 (p_ N):=og (g:=23) N (.nil) (.nil) (by kernel_rfl) (λx=>by kernel_rfl)
def mJ(N:Nat):cW:=⟨.mk [.p (.pt 0 0 27)] [] [.cells [.pt 1 0 2,.pt 2 0 2,xl 0,xl 2,xl 3,xi,xi,xi,xi,xi,xi,xi,xi,xi,xi,xi,xi,xi,xi,xi,xi,xi,xi,xl 8,xl 1,.hd 3,xi],.cells [xi,.hd 4],.cells [xl 0,.mr 5],.row 1,.row 5,.mp 7 true] [] [] [],[.mk [.v (.st 11)] [] [] [] [] []],λ(_,_,_,m,n,o,p,q,r,s,a,b,d,e,f,g,h,i,j,k,l,_,_,_,_,_,_,_,_)=>KA N m n o p q r s a b d e f g h i j k l⟩
theorem Ye(N:Nat):cS Tryz.prog 24 (mJ N):=og (g:=24) N (.cons (g_ N)<|.nil) (.nil) (by kernel_rfl) (λx=>by kernel_rfl)
def jN(N:Nat):cW:=⟨.mk [.p (.pt 0 0 21),.v ci] [] [.cells [xi,.pt 1 0 27,xi,xi,xi,xi,xi,xi,xi,xi,xi,xi,xi,xi,xi,xl 4,xi,xi,xi,xi,xi],.cells [.pt 2 0 2,.pt 3 0 2,xl 0,xl 2,xl 3,xi,xi,xi,xi,xi,xi,xi,xi,xi,xi,xi,xi,xi,xi,xi,xi,xi,xi,xl 8,xl 1,.hd 4,xi],.cells [xi,.hd 5],.cells [xl 0,.mr 6],.row 1,.row 5,.mp 7 true] [] [] [],[.mk [] [.h 0 0 (xi)] [] [] [] []],λ(_,_,_,a,b,_,_,_,_,_,_,_,_,_,_,_,_,_,_,_,_,_,_,_,_,_,_,_,_,_,_,_,_,_,_,_,_,_,_,_,_,_,_,_,_,_,_,_,_,_)=>Q_ N a b⟩
theorem zcc(N:Nat):cS Tryz.prog 235 (jN N):=og (g:=235) N (.nil) (.nil) (by kernel_rfl) (λx=>by kernel_rfl)
def jV(N:Nat):cW:=⟨.mk [.p (.pt 0 0 21)] [] [.cells [xi,.pt 1 0 27,xi,xi,xi,xi,xi,xi,xi,xi,xi,xi,xi,xi,xi,xl 4,xi,xi,xi,xi,xi],.cells [.pt 2 0 2,.pt 3 0 2,xl 0,xl 2,xl 3,xi,xi,xi,xi,xi,xi,xi,xi,xi,xi,xi,xi,xi,xi,xi,xi,xi,xi,xl 8,xl 1,.hd 4,xi],.cells [xi,.hd 5],.cells [xl 0,.mr 6],.row 1,.row 5,.mp 7 true] [] [] [],[.mk [] [.h 0 0 (xi)] [] [] [(1,⟨[.h 0 0 (.int .i64)],[],[],[]⟩),(3,⟨[.h 0 0 (.int .i64)],[],[],[]⟩),(6,⟨[.r 37 cb],[],[],[]⟩)] [(655379,[.mk [] [.h 0 0 (xi)] [] [(1000000,0)] [] []]),(786466,[.mk [.v (.st 11)] [] [] [(1000000,1)] [] []]),(1703977,[.mk [] [.h 0 0 (xi)] [] [(1000000,0)] [] []]),(1966130,[.mk [] [.h 0 0 (xi)] [] [(1000000,0)] [] []])]],λ(_,_,_,t,u,v,_,_,_,_,_,_,_,_,_,_,_,_,_,_,_,_,_,a,b,d,e,f,g,h,i,j,k,l,m,n,o,p,q,r,s,_,_,_,_,_,_,_,_)=>zcX N t u v a b d e f g h i j k l m n o p q r s⟩
theorem kf(N:Nat):cS Tryz.prog 193 (jV N):=og (g:=193) N (.nil) (.cons (zcc N)<|.cons (Ye N)<|.nil) (by kernel_rfl) (λx=>by kernel_rfl)
def Er(N:Nat):bz:=⟨[.c (.sl 8),ci,ci,ci],[cb],λa=>WC N a.1 a.2.1 a.2.2.1 a.2.2.2.1⟩
theorem jf(N:Nat):bB Tryz.prog 92 (Er N):=tg [] [(26,⟨[.r 13 ci],[],[],[]⟩)] [] N (.nil) (.nil) (λa=>by kernel_rfl)
def zeS(N:Nat):bz:=⟨[.c (.sl 6)],[.c (.sl 6)],λa=>zbA N a.1⟩
theorem zeM(N:Nat):bB Tryz.prog 147 (zeS N):=sL (i:=6) (sz:=16) (z:=[.c (.lit (.int .i64 0)),.c (.lit (.int .i64 0))]) (fn:=Tryz.f147) dF (by kernel_rfl) (by kernel_rfl) (by kernel_rfl) rfl
def EA(N:Nat):bz:=⟨[.st 7],[.st 7],λa=>fJ N a.1⟩
theorem vZ(N:Nat):bB Tryz.prog 81 (EA N):=tg [] [] [] N (.cons (zeM N)<|.nil) (.nil) (λa=>by kernel_rfl)
def mc(N:Nat):cW:=⟨.mk [.p (.pt 0 0 2)] [] [.cells [xl 0,.mr 1],.mp 7 true] [] [] [],[.mk [.v (.c (.sl 7))] [] [] [(27,7)] [(122,⟨[.r 15 ci,.w 3 7],[(3,3)],[(3,7)],[]⟩)] [(3932172,[.mk [] [] [] [(1000002,0)] [] []]),(3932173,[.mk [.v (.c (.sl 1))] [] [] [(1000000,999999)] [] []])]],λ(a,_)=>VE N a⟩
theorem zeC(N:Nat):cS Tryz.prog 34 (mc N):=og (g:=34) N (.cons (vZ N)<|.nil) (.nil) (by kernel_rfl) (λx=>by kernel_rfl)
def fY(N:Nat):bz:=⟨[.c (.sl 4)],[.c (.sl 4)],λa=>Xq N a.1⟩
theorem za5(N:Nat):bB Tryz.prog 143 (fY N):=sL (i:=4) (sz:=16) (z:=[.c (.lit (.int .i64 0)),.c (.lit (.bool false))]) (fn:=Tryz.f143) dF (by kernel_rfl) (by kernel_rfl) (by kernel_rfl) rfl
def HF(N:Nat):bz:=⟨[.st 5],[.st 5],λa=>iT N a.1⟩
theorem kN(N:Nat):bB Tryz.prog 78 (HF N):=tg [] [] [] N (.cons (za5 N)<|.nil) (.nil) (λa=>by kernel_rfl)
def mw(N:Nat):cW:=⟨.mk [.p (.pt 0 0 2),.v ci] [] [.cells [xi,.hd 1],.row 5] [] [] [],[.mk [.v ci,.v cb] [] [] [] [] [(393229,[.mk [.v ci] [] [] [] [(28,⟨[.r 5 ci,.r 6 ci],[],[],[]⟩)] [(59375636,[.mk [.v cb] [] [] [] [] []])]])]],λ(a,b,_)=>Vm N a b⟩
theorem zcY(N:Nat):cS Tryz.prog 98 (mw N):=og (g:=98) N (.nil) (.nil) (by kernel_rfl) (λx=>by kernel_rfl)
def oq(N:Nat):cW:=⟨.mk [.p (.pt 0 0 2),.v ci] [] [.cells [xi,.hd 1],.row 5] [] [] [],[.mk [.v (.st 5),.v cb] [] [] [] [] [(917518,[.mk [.v ci,.v cb] [] [] [(1000000,0)] [] []])]],λ(a,b,_)=>Ys N a b⟩
theorem zb6(N:Nat):cS Tryz.prog 179 (oq N):=og (g:=179) N (.cons (kN N)<|.nil) (.cons (zcY N)<|.nil) (by kernel_rfl) (λx=>by kernel_rfl)
def lA(N:Nat):cW:=⟨.mk [.p (.pt 0 0 27),.v ci,.v ci] [] [.cells [.pt 1 0 2,.pt 2 0 2,xl 0,xl 2,xl 3,xi,xi,xi,xi,xi,xi,xi,xi,xi,xi,xi,xi,xi,xi,xi,xi,xi,xi,xl 8,xl 1,.hd 3,xi],.cells [xi,.hd 4],.cells [xl 0,.mr 5],.row 1,.row 5,.mp 7 true] [] [] [],[.mk [.v cb] [] [] [] [(26,⟨[.r 17 ci],[],[],[]⟩),(211,⟨[],[],[],[]⟩)] [(786447,[.mk [.v (.c (.sl 7))] [] [] [(1000000,0)] [] []]),(221380636,[.mk [.v (.st 5),.v cb] [] [] [(1000000,1)] [] []]),(885915693,[.mk [.v cb] [] [] [] [] [(393223,[.mk [.v ci] [] [] [] [(26,⟨[.r 8 ci],[],[],[]⟩)] [(221380624,[.mk [.v cb] [] [] [] [] []])]])]])]],λ(_,a,b,d,e,_,_,_,_,_,_,_,_,_,_,_,_,_,_,_,_,_,_,_,_,_,_,_,_,_,_)=>zck N a b d e⟩
theorem lS(N:Nat):cS Tryz.prog 269 (lA N):=og (g:=269) N (.nil) (.cons (zeC N)<|.cons (zb6 N)<|.nil) (by kernel_rfl) (λx=>by kernel_rfl)
def ED(N:Nat):bz:=⟨[.st 8,ci],[cb],λa=>lq N a.1 a.2.1⟩
theorem wk(N:Nat):bB Tryz.prog 157 (ED N):=tg [] [] [] N (.nil) (.nil) (λa=>by kernel_rfl)
def Ef(N:Nat):bz:=⟨[.c (.sl 8),ci],[cb],λa=>lP N a.1 a.2.1⟩
theorem vX(N:Nat):bB Tryz.prog 91 (Ef N):=tg [] [(58,⟨[.r 12 ci],[],[],[]⟩),(3737,⟨[.r 47 cb],[],[],[]⟩)] [] N (.cons (wk N)<|.cons (jf N)<|.nil) (.nil) (λa=>by kernel_rfl)
def IP(N:Nat):bz:=⟨[.c (.sl 8),ci,.st 8],[.c (.sl 8),ci],λa=>xT N a.1 a.2.1 a.2.2.1⟩
theorem Jg(N:Nat):bB Tryz.prog 270 (IP N):=tg [(52,8)] [(12,⟨[.r 9 cb],[],[],[]⟩),(207,⟨[.r 24 cb],[],[],[]⟩)] [] N (.cons (jf N)<|.cons (vX N)<|.cons (wk N)<|.nil) (.nil) (λa=>by kernel_rfl)
def j_(N:Nat):cW:=⟨.mk [.p (.pt 0 0 27),.v ci,.v ci,.v ci] [] [.cells [.pt 1 0 2,.pt 2 0 2,xl 0,xl 2,xl 3,xi,xi,xi,xi,xi,xi,xi,xi,xi,xi,xi,xi,xi,xi,xi,xi,xi,xi,xl 8,xl 1,.hd 3,xi],.cells [xi,.hd 4],.cells [xl 0,.mr 5],.row 1,.row 5,.mp 7 true] [] [] [],[.mk [.v ci,.v ci] [.h 0 22 (xi),.h 0 23 (xl 8)] [] [] [(62,⟨[.r 70 cb],[],[],[]⟩)] [(8126533,[.mk [.v cb] [] [] [(1000000,0)] [] []])]],λ(_,e,f,g,h,i,j,_,_,_,_,_,_,_,_,_,_,_,_,_,_,_,_,_,a,_,b,d,_,_,_,_)=>zbj N e f g h i j a b d⟩
theorem jY(N:Nat):cS Tryz.prog 236 (j_ N):=og (g:=236) N (.cons (Jg N)<|.cons (jf N)<|.nil) (.cons (lS N)<|.nil) (by kernel_rfl) (λx=>by kernel_rfl)
def iY(N:Nat):cW:=⟨.mk [.p (.pt 0 0 21)] [] [.cells [xi,.pt 1 0 27,xi,xi,xi,xi,xi,xi,xi,xi,xi,xi,xi,xi,xi,xl 4,xi,xi,xi,xi,xi],.cells [.pt 2 0 2,.pt 3 0 2,xl 0,xl 2,xl 3,xi,xi,xi,xi,xi,xi,xi,xi,xi,xi,xi,xi,xi,xi,xi,xi,xi,xi,xl 8,xl 1,.hd 4,xi],.cells [xi,.hd 5],.cells [xl 0,.mr 6],.row 1,.row 5,.mp 7 true] [] [] [],[.mk [] [.h 0 0 (xi),.h 0 20 (xi),.h 1 22 (xi),.h 1 23 (xl 8)] [] [] [(6,⟨[.r 23 cb],[],[],[]⟩)] [(786451,[.mk [.v (.st 11)] [] [] [(1000000,0)] [] []]),(1966126,[.mk [.v ci,.v ci] [.h 1 22 (xi),.h 1 23 (xl 8)] [] [(1000000,2)] [] []]),(3407899,[.mk [] [.h 0 0 (xi)] [] [(1000000,1)] [] []]),(4128825,[.mk [] [.h 0 0 (xi)] [] [(1000000,1)] [] []]),(7602210,[.mk [] [.h 0 0 (xi)] [] [(1000000,1)] [] []])]],λ(_,A,E,F,_,_,_,_,_,_,_,_,_,_,_,_,_,_,a,b,d,_,e,f,g,h,i,j,k,l,m,n,o,p,q,r,s,t,u,v,w,x,_,y,z,_,_,_,_)=>zcw N A E F a b d e f g h i j k l m n o p q r s t u v w x y z⟩
theorem iZ(N:Nat):cS Tryz.prog 194 (iY N):=og (g:=194) N (.nil) (.cons (Ye N)<|.cons (zcc N)<|.cons (jY N)<|.nil) (by kernel_rfl) (λx=>by kernel_rfl)
def F_(N:Nat):bz:=⟨[.c (.sl 8),ci],[.c (.sl 8),ci],λa=>li N a.1 a.2.1⟩
theorem Hd(N:Nat):bB Tryz.prog 271 (F_ N):=tg [(23,8)] [(26,⟨[.r 11 ci],[],[],[]⟩)] [] N (.nil) (.nil) (λa=>by kernel_rfl)
def iN(N:Nat):cW:=⟨.mk [.p (.pt 0 0 27),.v ci] [] [.cells [.pt 1 0 2,.pt 2 0 2,xl 0,xl 2,xl 3,xi,xi,xi,xi,xi,xi,xi,xi,xi,xi,xi,xi,xi,xi,xi,xi,xi,xi,xl 8,xl 1,.hd 3,xi],.cells [xi,.hd 4],.cells [xl 0,.mr 5],.row 1,.row 5,.mp 7 true] [] [] [],[.mk [.v ci] [.h 0 23 (xl 8)] [] [] [] []],λ(_,_,_,b,_,_,_,_,_,_,_,_,_,_,_,_,_,_,_,_,_,_,_,_,_,a,_,_,_,_)=>zct N b a⟩
theorem iW(N:Nat):cS Tryz.prog 237 (iN N):=og (g:=237) N (.cons (Hd N)<|.nil) (.nil) (by kernel_rfl) (λx=>by kernel_rfl)
def gF(N:Nat):cW:=⟨.mk [.p (.pt 0 0 21)] [] [.cells [xi,.pt 1 0 27,xi,xi,xi,xi,xi,xi,xi,xi,xi,xi,xi,xi,xi,xl 4,xi,xi,xi,xi,xi],.cells [.pt 2 0 2,.pt 3 0 2,xl 0,xl 2,xl 3,xi,xi,xi,xi,xi,xi,xi,xi,xi,xi,xi,xi,xi,xi,xi,xi,xi,xi,xl 8,xl 1,.hd 4,xi],.cells [xi,.hd 5],.cells [xl 0,.mr 6],.row 1,.row 5,.mp 7 true] [] [] [],[.mk [] [.h 0 0 (xi),.h 0 20 (xi),.h 1 23 (xl 8)] [] [] [] [(196630,[.mk [.v ci] [.h 1 23 (xl 8)] [] [(1000000,0)] [] []]),(196631,[.mk [] [.h 0 0 (xi)] [] [(1000000,1)] [] []])]],λ(_,_,_,d,_,_,_,_,_,_,_,_,_,_,_,_,_,_,_,_,_,a,_,_,_,_,_,_,_,_,_,_,_,_,_,_,_,_,_,_,_,_,_,_,b,_,_,_,_)=>zca N d a b⟩
theorem gU(N:Nat):cS Tryz.prog 195 (gF N):=og (g:=195) N (.nil) (.cons (iW N)<|.cons (zcc N)<|.nil) (by kernel_rfl) (λx=>by kernel_rfl)
def vO(N:Nat):cW:=⟨.mk [.p (.pt 0 0 27),.v ci,.v (.st 17)] [] [.cells [.pt 1 0 2,.pt 2 0 2,xl 0,xl 2,xl 3,xi,xi,xi,xi,xi,xi,xi,xi,xi,xi,xi,xi,xi,xi,xi,xi,xi,xi,xl 8,xl 1,.hd 3,xi],.cells [xi,.hd 4],.cells [xl 0,.mr 5],.row 1,.row 5,.mp 7 true] [] [] [],[.mk [.v (.st 15)] [.h 0 22 (xi),.h 0 23 (xl 8)] [] [] [(31,⟨[.h 0 22 (.int .i64),.h 0 23 (.sl 8),.h 8 0 (.int .i64),.h 8 20 (.int .i64)],[],[],[]⟩)] [(1966099,[.mk [] [.h 8 0 (xi)] [] [(1000000,0)] [] []]),(262799391,[.mk [] [.h 8 0 (xi),.h 8 20 (xi),.h 0 22 (xi),.h 0 23 (xl 8)] [] [(1000000,1)] [] []]),(1051590691,[.mk [] [.h 8 0 (xi),.h 8 20 (xi),.h 0 23 (xl 8)] [] [(1000000,2)] [] []])]],λ(_,r,s,t,u,v,w,x,y,z,a,b,d,e,f,g,h,i,j,k,l,m,n,o,_,p,q,_,_,_,_)=>zeZ N r s t u v w x y z a b d e f g h i j k l m n o p q⟩
theorem vz(N:Nat):cS Tryz.prog 120 (vO N):=og (g:=120) N (.cons (VB N)<|.nil) (.cons (kf N)<|.cons (iZ N)<|.cons (gU N)<|.nil) (by kernel_rfl) (λx=>by kernel_rfl)
end Go.Abs
end
end
section
set_option maxRecDepth 100000
noncomputable section
namespace Go.Abs
open Go.Proofs
def sE(N:Nat):cW:=⟨.mk [.p (.pt 0 0 27),.v (.st 10)] [] [.cells [.pt 1 0 2,.pt 2 0 2,xl 0,xl 2,xl 3,xi,xi,xi,xi,xi,xi,xi,xi,xi,xi,xi,xi,xi,xi,xi,xi,xi,xi,xl 8,xl 1,.hd 3,xi],.cells [xi,.hd 4],.cells [xl 0,.mr 5],.row 1,.row 5,.mp 7 true] [] [] [],[.mk [.v (.st 15)] [.h 0 22 (xi),.h 0 23 (xl 8)] [] [] [] [(393226,[.mk [.v (.st 15)] [.h 0 22 (xi),.h 0 23 (xl 8)] [] [(1000000,0)] [] []])]],λ(_,q,r,s,t,u,v,w,x,y,a,b,d,e,f,g,h,i,j,k,l,m,n,_,o,p,_,_,_,_)=>gp N q r s t u v w x y a b d e f g h i j k l m n o p⟩
theorem tH(N:Nat):cS Tryz.prog 60 (sE N):=og (g:=60) N (.nil) (.cons (vz N)<|.nil) (by kernel_rfl) (λx=>by kernel_rfl)
def FW(N:Nat):bz:=⟨[ci],[cb],λa=>zW N a.1⟩
theorem Gi(N:Nat):bB Tryz.prog 189 (FW N):=tg [] [] [] N (.nil) (.nil) (λa=>by kernel_rfl)
def ov(N:Nat):cW:=⟨.mk [.p (.pt 0 0 27),.v ci] [] [.cells [.pt 1 0 2,.pt 2 0 2,xl 0,xl 2,xl 3,xi,xi,xi,xi,xi,xi,xi,xi,xi,xi,xi,xi,xi,xi,xi,xi,xi,xi,xl 8,xl 1,.hd 3,xi],.cells [xi,.hd 4],.cells [xl 0,.mr 5],.row 1,.row 5,.mp 7 true] [] [] [],[.mk [.v (.st 5),.v cb] [] [] [] [] [(917518,[.mk [.v (.st 5),.v cb] [] [] [(1000000,0)] [] []])]],λ(_,a,_,b,_,_,_,_,_,_,_,_,_,_,_,_,_,_,_,_,_,_,_,_,_,_,_,_,_,_)=>KL N a b⟩
theorem zbv(N:Nat):cS Tryz.prog 115 (ov N):=og (g:=115) N (.nil) (.cons (zb6 N)<|.nil) (by kernel_rfl) (λx=>by kernel_rfl)
def ry(N:Nat):cW:=⟨.mk [.v ci,.p (.hd 0)] [] [.row 1] [] [] [],[.mk [.ag [xi,xi,xi,xi,.hd 0]] [] [] [] [] []],λ(_,a)=>zdR N a⟩
theorem zec(N:Nat):cS Tryz.prog 231 (ry N):=og (g:=231) N (.nil) (.nil) (by kernel_rfl) (λx=>by kernel_rfl)
def pp(N:Nat):cW:=⟨.mk [.p (.pt 0 0 27),.v (.st 17)] [] [.cells [.pt 1 0 2,.pt 2 0 2,xl 0,xl 2,xl 3,xi,xi,xi,xi,xi,xi,xi,xi,xi,xi,xi,xi,xi,xi,xi,xi,xi,xi,xl 8,xl 1,.hd 3,xi],.cells [xi,.hd 4],.cells [xl 0,.mr 5],.row 1,.row 5,.mp 7 true] [] [] [],[.mk [.v (.st 15)] [] [] [(30,1)] [] [(393228,[.mk [.v (.st 5),.v cb] [] [] [(1000000,0)] [] []]),(1966111,[.mk [.ag [xi,xi,xi,xi,.hd 9]] [] [] [(1000000,1)] [] []])]],λ(_,a,_,b,_,_,_,_,_,_,_,_,_,_,_,_,_,_,_,_,_,_,_,_,_,_,_,_,_,_)=>zeH N a b⟩
theorem oI(N:Nat):cS Tryz.prog 190 (pp N):=og (g:=190) N (.cons (VB N)<|.nil) (.cons (zbv N)<|.cons (zec N)<|.nil) (by kernel_rfl) (λx=>by kernel_rfl)
def ze7(N:Nat):cW:=⟨.mk [.p (.hd 0)] [] [.row 5] [] [] [],[.mk [.p (.hd 1)] [] [.row 5] [] [] []],λx=>zbI N x⟩
theorem ze9(N:Nat):cS Tryz.prog 77 (ze7 N):=Jo (ii:=5) (sz:=152) (z:=[.c (.lit (.int .i64 0)),.c (.lit (.int .i64 0)),.c (.lit (.int .i64 0)),.c (.lit (.int .i64 0)),.c (.lit (.int .i64 0)),.c (.lit (.int .i64 0)),.c (.lit (.int .i64 0)),.c (.lit (.int .i64 0)),.c (.lit (.int .i64 0)),.c (.lit (.slice none 0 0)),.c (.lit (.int .i64 0)),.c (.lit (.bool false)),.c (.lit (.bool false)),.c (.lit (.int .i64 0)),.c (.lit (.int .i64 0)),.c (.lit (.int .i64 0)),.c (.lit (.int .i64 0)),.c (.lit (.int .i64 0))]) (fn:=Tryz.f77) dF (by kernel_rfl) (by kernel_rfl) (by kernel_rfl) rfl
def nE(N:Nat):cW:=⟨.mk [.p (.pt 0 0 2)] [] [.cells [xi,.hd 1],.row 5] [] [] [],[.mk [.v (.c (.sl 5))] [] [] [] [(122,⟨[.r 15 ci,.w 2 5],[(3,2),(13,2)],[],[]⟩)] [(917516,[.mk [.p (.hd 2)] [] [.row 5] [(1000000,0)] [] []])]],λ(a,_)=>zcL N a⟩
theorem nS(N:Nat):cS Tryz.prog 33 (nE N):=og (g:=33) N (.cons (kN N)<|.nil) (.cons (ze9 N)<|.nil) (by kernel_rfl) (λx=>by kernel_rfl)
def zd1(N:Nat):bz:=⟨[.c (.sl 8)],[.c (.sl 8)],λa=>zaU N a.1⟩
theorem zd3(N:Nat):bB Tryz.prog 35 (zd1 N):=sL (i:=8) (sz:=32) (z:=[.c (.lit (.int .i64 0)),.c (.lit (.int .i64 0)),.c (.lit (.int .i64 0)),.c (.lit (.int .i64 0))]) (fn:=Tryz.f35) dF (by kernel_rfl) (by kernel_rfl) (by kernel_rfl) rfl
def kO(N:Nat):cW:=⟨.mk [.p (.hd 0)] [] [.row 1] [] [] [],[.mk [.p (.hd 1)] [] [.row 1] [] [] []],λx=>zbp N x⟩
theorem kV(N:Nat):cS Tryz.prog 36 (kO N):=Jo (ii:=1) (sz:=8) (z:=[.c (.lit (.int .i64 0))]) (fn:=Tryz.f36) dF (by kernel_rfl) (by kernel_rfl) (by kernel_rfl) rfl
def lJ(N:Nat):cW:=⟨.mk [.p (.pt 0 0 27)] [] [.cells [.pt 1 0 2,.pt 2 0 2,xl 0,xl 2,xl 3,xi,xi,xi,xi,xi,xi,xi,xi,xi,xi,xi,xi,xi,xi,xi,xi,xi,xi,xl 8,xl 1,.hd 3,xi],.cells [xi,.hd 4],.cells [xl 0,.mr 5],.row 1,.row 5,.mp 7 true] [] [] [],[.mk [.v (.st 19)] [] [] [] [] [(917526,[.mk [.v (.c (.sl 5))] [] [] [(1000000,0)] [] []]),(917531,[.mk [.v (.c (.sl 7))] [] [] [(1000000,1)] [] []]),(917547,[.mk [.p (.hd 7)] [] [.row 1] [(1000000,2)] [] []])]],λ(h,i,j,_,_,_,_,_,_,_,_,_,_,_,_,_,_,_,_,_,_,a,b,d,e,f,g,_,_)=>KE N h i j a b d e f g⟩
theorem Zy(N:Nat):cS Tryz.prog 12 (lJ N):=og (g:=12) N (.cons (zd3 N)<|.cons (zff N)<|.nil) (.cons (nS N)<|.cons (zeC N)<|.cons (kV N)<|.nil) (by kernel_rfl) (λx=>by kernel_rfl)
def DU(N:Nat):bz:=⟨[ci],[cb],λa=>PY N a.1⟩
theorem zdt(N:Nat):bB Tryz.prog 183 (DU N):=tg [] [] [] N (.nil) (.nil) (λa=>by kernel_rfl)
def zm(N:Nat):bz:=⟨[.c (.sl 5),ci],[ci],λa=>eK N a.1 a.2.1⟩
theorem pj(N:Nat):bB Tryz.prog 232 (zm N):=tg [] [] [(393223,[.mk [.v ci] [] [] [] [(58,⟨[.r 5 ci,.r 10 ci],[],[],[]⟩),(467,⟨[.r 5 ci],[],[],[]⟩)] [(489816080,[.mk [.v cb] [] [] [] [] []])]])] N (.cons (zdt N)<|.nil) (.nil) (λa=>by kernel_rfl)
def Jv(N:Nat):bz:=⟨[ci],[cb],λa=>dK N a.1⟩
theorem mQ(N:Nat):bB Tryz.prog 89 (Jv N):=tg [] [] [] N (.nil) (.nil) (λa=>by kernel_rfl)
def AE(N:Nat):bz:=⟨[.c (.sl 5),ci],[ci],λa=>kY N a.1 a.2.1⟩
theorem AI(N:Nat):bB Tryz.prog 233 (AE N):=tg [] [] [(393223,[.mk [.v ci] [] [] [] [(58,⟨[.r 5 ci,.r 10 ci],[],[],[]⟩),(467,⟨[.r 5 ci],[],[],[]⟩)] [(489816080,[.mk [.v cb] [] [] [] [] []])]])] N (.cons (mQ N)<|.nil) (.nil) (λa=>by kernel_rfl)
def mn(N:Nat):cW:=⟨.mk [.p (.pt 0 0 27),.v (.st 17)] [] [.cells [.pt 1 0 2,.pt 2 0 2,xl 0,xl 2,xl 3,xi,xi,xi,xi,xi,xi,xi,xi,xi,xi,xi,xi,xi,xi,xi,xi,xi,xi,xl 8,xl 1,.hd 3,xi],.cells [xi,.hd 4],.cells [xl 0,.mr 5],.row 1,.row 5,.mp 7 true] [] [] [],[.mk [.v (.st 15)] [] [] [(61,1)] [(6,⟨[.r 21 cb],[],[],[]⟩),(250,⟨[.r 6 ci,.r 30 ci],[],[],[]⟩),(2003,⟨[.r 6 ci],[],[],[]⟩)] [(786449,[.mk [.v (.st 11)] [] [] [(1000000,0)] [] []]),(917530,[.mk [.v (.st 19)] [] [] [(1000000,1)] [] []]),(16646206,[.mk [.ag [xi,xi,xi,xi,.hd 8]] [] [] [(1000000,2)] [] []])]],λ(t,u,v,w,x,y,z,A,E,F,a,b,d,e,f,g,h,i,j,k,l,m,n,o,p,q,r,s,_,_)=>zdD N t u v w x y z A E F a b d e f g h i j k l m n o p q r s⟩
theorem mh(N:Nat):cS Tryz.prog 191 (mn N):=og (g:=191) N (.cons (VB N)<|.cons (pj N)<|.cons (AI N)<|.nil) (.cons (Ye N)<|.cons (Zy N)<|.cons (zec N)<|.nil) (by kernel_rfl) (λx=>by kernel_rfl)
def kz(N:Nat):cW:=⟨.mk [.p (.pt 0 0 2)] [] [.cells [xl 0,.mr 1],.mp 7 true] [] [] [],[.mk [.v (.c (.sl 0))] [] [] [] [] []],λ(_,a)=>zde N a⟩
theorem kW(N:Nat):cS Tryz.prog 268 (kz N):=og (g:=268) N (.cons (zbJ N)<|.nil) (.nil) (by kernel_rfl) (λx=>by kernel_rfl)
def mH(N:Nat):cW:=⟨.mk [.p (.pt 0 0 27)] [] [.cells [.pt 1 0 2,.pt 2 0 2,xl 0,xl 2,xl 3,xi,xi,xi,xi,xi,xi,xi,xi,xi,xi,xi,xi,xi,xi,xi,xi,xi,xi,xl 8,xl 1,.hd 3,xi],.cells [xi,.hd 4],.cells [xl 0,.mr 5],.row 1,.row 5,.mp 7 true] [] [] [],[.mk [.v (.c (.sl 0))] [] [] [] [] [(917513,[.mk [.v (.c (.sl 0))] [] [] [(1000000,0)] [] []])]],λ(_,_,_,_,_,_,_,_,_,_,_,_,_,_,_,_,_,_,_,_,_,_,_,_,_,_,_,_,a)=>zcD N a⟩
theorem mB(N:Nat):cS Tryz.prog 234 (mH N):=og (g:=234) N (.nil) (.cons (kW N)<|.nil) (by kernel_rfl) (λx=>by kernel_rfl)
def mz(N:Nat):cW:=⟨.mk [.p (.pt 0 0 27),.v (.st 17)] [] [.cells [.pt 1 0 2,.pt 2 0 2,xl 0,xl 2,xl 3,xi,xi,xi,xi,xi,xi,xi,xi,xi,xi,xi,xi,xi,xi,xi,xi,xi,xi,xl 8,xl 1,.hd 3,xi],.cells [xi,.hd 4],.cells [xl 0,.mr 5],.row 1,.row 5,.mp 7 true] [] [] [],[.mk [.v (.st 15)] [] [] [(24,1)] [(58,⟨[.r 11 ci,.w 8 1],[(5,8)],[(5,1)],[]⟩)] [(1835017,[.mk [.v (.c (.sl 0))] [] [] [(1000000,0)] [] []]),(1966110,[.mk [.ag [xi,xi,xi,xi,.hd 8]] [] [] [(1000000,1)] [] []])]],λ(_,_,_,b,_,_,_,_,_,_,_,_,_,_,_,_,_,_,_,_,_,_,_,_,_,_,_,_,_,a)=>zdI N b a⟩
theorem my(N:Nat):cS Tryz.prog 192 (mz N):=og (g:=192) N (.nil) (.cons (mB N)<|.cons (zec N)<|.nil) (by kernel_rfl) (λx=>by kernel_rfl)
def yi(N:Nat):cW:=⟨.mk [.p (.pt 0 0 27),.v (.st 17)] [] [.cells [.pt 1 0 2,.pt 2 0 2,xl 0,xl 2,xl 3,xi,xi,xi,xi,xi,xi,xi,xi,xi,xi,xi,xi,xi,xi,xi,xi,xi,xi,xl 8,xl 1,.hd 3,xi],.cells [xi,.hd 4],.cells [xl 0,.mr 5],.row 1,.row 5,.mp 7 true] [] [] [],[.mk [.v (.st 15)] [] [] [] [] [(4063263,[.mk [.v (.st 15)] [] [] [(1000000,2)] [] []]),(64225303,[.mk [.v (.st 15)] [] [] [(1000000,0)] [] []]),(257687580,[.mk [.v (.st 15)] [] [] [(1000000,1)] [] []])]],λ(u,v,w,x,y,z,A,E,F,G,a,b,d,e,f,g,h,i,j,k,l,m,n,o,p,q,r,s,_,t)=>fX N u v w x y z A E F G a b d e f g h i j k l m n o p q r s t⟩
theorem yu(N:Nat):cS Tryz.prog 119 (yi N):=og (g:=119) N (.cons (Gi N)<|.cons (VB N)<|.nil) (.cons (oI N)<|.cons (mh N)<|.cons (my N)<|.nil) (by kernel_rfl) (λx=>by kernel_rfl)
def vl(N:Nat):cW:=⟨.mk [.p (.pt 0 0 27),.v (.st 10)] [] [.cells [.pt 1 0 2,.pt 2 0 2,xl 0,xl 2,xl 3,xi,xi,xi,xi,xi,xi,xi,xi,xi,xi,xi,xi,xi,xi,xi,xi,xi,xi,xl 8,xl 1,.hd 3,xi],.cells [xi,.hd 4],.cells [xl 0,.mr 5],.row 1,.row 5,.mp 7 true] [] [] [],[.mk [.v (.st 15)] [] [] [] [] [(393224,[.mk [.v (.st 15)] [] [] [(1000000,0)] [] []])]],λ(u,v,w,x,y,z,A,E,F,G,a,b,d,e,f,g,h,i,j,k,l,m,n,o,p,q,r,s,_,t)=>iK N u v w x y z A E F G a b d e f g h i j k l m n o p q r s t⟩
theorem vB(N:Nat):cS Tryz.prog 59 (vl N):=og (g:=59) N (.nil) (.cons (yu N)<|.nil) (by kernel_rfl) (λx=>by kernel_rfl)
def od(N:Nat):bz:=⟨[.c (.sl 1),ci],[ci],λa=>zd8 N a.1 a.2.1⟩
theorem nV(N:Nat):bB Tryz.prog 213 (od N):=tg [] [(26,⟨[.r 8 ci],[],[],[]⟩)] [] N (.nil) (.nil) (λa=>by kernel_rfl)
def kJ(N:Nat):bz:=⟨[.c (.sl 1),ci],[cb],λa=>zbw N a.1 a.2.1⟩
theorem zd7(N:Nat):bB Tryz.prog 156 (kJ N):=tg [] [] [] N (.cons (nV N)<|.nil) (.nil) (λa=>by kernel_rfl)
def AF(N:Nat):bz:=⟨[.st 11,ci,ci],[cb],λa=>ZK N a.1 a.2.1 a.2.2.1⟩
theorem qD(N:Nat):bB Tryz.prog 263 (AF N):=tg [] [] [] N (.cons (Wf N)<|.cons (zd7 N)<|.nil) (.nil) (λa=>by kernel_rfl)
def Gx(N:Nat):bz:=⟨[.st 0,.st 0],[ci],λa=>oC N a.1 a.2.1⟩
theorem Gt(N:Nat):bB Tryz.prog 212 (Gx N):=tg [] [(6,⟨[.r 21 cb],[],[],[]⟩),(250,⟨[.r 5 ci,.r 26 ci],[],[],[]⟩),(2003,⟨[.r 5 ci],[],[],[]⟩)] [] N (.cons (ut N)<|.cons (WK N)<|.nil) (.nil) (λa=>by kernel_rfl)
def Gb(N:Nat):bz:=⟨[.st 11,ci,.st 0],[ci],λa=>zp N a.1 a.2.1 a.2.2.1⟩
theorem Gc(N:Nat):bB Tryz.prog 152 (Gb N):=tg [] [(122,⟨[.r 7 ci,.r 30 ci],[],[],[]⟩)] [] N (.cons (Wf N)<|.cons (Gt N)<|.nil) (.nil) (λa=>by kernel_rfl)
def FR(N:Nat):bz:=⟨[.st 11,ci,ci,.st 0],[cb],λa=>Bx N a.1 a.2.1 a.2.2.1 a.2.2.2.1⟩
theorem kL(N:Nat):bB Tryz.prog 87 (FR N):=tg [] [] [] N (.cons (Wf N)<|.cons (Gc N)<|.nil) (.nil) (λa=>by kernel_rfl)
def CZ(N:Nat):bz:=⟨[.st 11,ci],[cb],λa=>ng N a.1 a.2.1⟩
theorem DG(N:Nat):bB Tryz.prog 278 (CZ N):=tg [] [] [] N (.cons (Wf N)<|.nil) (.nil) (λa=>by kernel_rfl)
def Ex(N:Nat):bz:=⟨[.st 11,.c (.sl 5),ci,ci],[cb],λa=>Vl N a.1 a.2.1 a.2.2.1 a.2.2.2.1⟩
theorem nK(N:Nat):bB Tryz.prog 264 (Ex N):=tg [] [] [] N (.cons (DG N)<|.cons (pj N)<|.nil) (.nil) (λa=>by kernel_rfl)
def nB(N:Nat):cW:=⟨.mk [.p (.pt 0 0 27),.v (.st 5),.v (.st 17)] [] [.cells [.pt 1 0 2,.pt 2 0 2,xl 0,xl 2,xl 3,xi,xi,xi,xi,xi,xi,xi,xi,xi,xi,xi,xi,xi,xi,xi,xi,xi,xi,xl 8,xl 1,.hd 3,xi],.cells [xi,.hd 4],.cells [xl 0,.mr 5],.row 1,.row 5,.mp 7 true] [] [] [],[.mk [.v ci] [] [] [] [(7423,⟨[.r 45 cb],[],[],[]⟩)] [(393225,[.mk [.v (.st 11)] [] [] [(1000000,0)] [] []]),(972947510,[.mk [.v (.st 19)] [] [] [(1000000,1)] [] []])]],λ(u,v,w,x,y,z,A,E,F,G,a,b,d,e,f,g,h,i,j,k,l,m,n,o,p,q,r,s,t,_,_)=>zcT N u v w x y z A E F G a b d e f g h i j k l m n o p q r s t⟩
theorem nO(N:Nat):cS Tryz.prog 227 (nB N):=og (g:=227) N (.cons (zdt N)<|.cons (qD N)<|.cons (kL N)<|.cons (nK N)<|.nil) (.cons (Ye N)<|.cons (Zy N)<|.nil) (by kernel_rfl) (λx=>by kernel_rfl)
def kI(N:Nat):cW:=⟨.mk [.p (.pt 0 0 27),.v (.st 5),.v (.st 17)] [] [.cells [.pt 1 0 2,.pt 2 0 2,xl 0,xl 2,xl 3,xi,xi,xi,xi,xi,xi,xi,xi,xi,xi,xi,xi,xi,xi,xi,xi,xi,xi,xl 8,xl 1,.hd 3,xi],.cells [xi,.hd 4],.cells [xl 0,.mr 5],.row 1,.row 5,.mp 7 true] [] [] [],[.mk [.v ci] [] [] [] [] [(6684685,[.mk [.v (.st 11)] [] [] [(1000000,0)] [] []]),(6684687,[.mk [.v (.st 19)] [] [] [(1000000,1)] [] []])]],λ(u,v,w,x,_,y,z,A,E,F,a,b,d,e,f,g,h,i,j,k,l,m,n,o,p,q,r,s,t,_,_)=>zb1 N u v w x y z A E F a b d e f g h i j k l m n o p q r s t⟩
theorem kM(N:Nat):cS Tryz.prog 229 (kI N):=og (g:=229) N (.cons (nK N)<|.nil) (.cons (Ye N)<|.cons (Zy N)<|.nil) (by kernel_rfl) (λx=>by kernel_rfl)
def sS(N:Nat):cW:=⟨.mk [.p (.pt 0 0 27),.v ci,.v (.st 17)] [] [.cells [.pt 1 0 2,.pt 2 0 2,xl 0,xl 2,xl 3,xi,xi,xi,xi,xi,xi,xi,xi,xi,xi,xi,xi,xi,xi,xi,xi,xi,xi,xl 8,xl 1,.hd 3,xi],.cells [xi,.hd 4],.cells [xl 0,.mr 5],.row 1,.row 5,.mp 7 true] [] [] [],[.mk [.v ci] [] [] [] [] [(917520,[.mk [.v (.st 11)] [] [] [(1000000,0)] [] []]),(1966100,[.mk [.ag [.k (.c (.fn (.func 227) [] [])),.k (.c (.fn (.func 228) [] []))],.v cb] [] [] [] [] [],.mk [.ag [.k (.c (.fn (.func 229) [] [])),.k (.c (.fn (.func 230) [] []))],.v cb] [] [] [] [] [],.mk [.ag [.k (.c (.lit .nilFunc)),.k (.c (.lit .nilFunc))],.v cb] [] [] [] [] []]),(8257575,[.mk [.v (.st 5),.v cb] [] [] [(1000000,1)] [] []]),(268173379,[.mk [.v ci] [] [] [(1000000,2)] [] []]),(278052938511364710450593859,[.mk [.v ci] [] [] [(1000000,3)] [] []])]],λ(u,v,w,x,y,z,A,E,F,G,a,b,d,e,f,g,h,i,j,k,l,m,n,o,p,q,r,s,t,_,_)=>zdf N u v w x y z A E F G a b d e f g h i j k l m n o p q r s t⟩
theorem un(N:Nat):cS Tryz.prog 187 (sS N):=og (g:=187) N (.nil) (.cons (Ye N)<|.cons (zbv N)<|.cons (nO N)<|.cons (kM N)<|.nil) (by kernel_rfl) (λx=>by kernel_rfl)
def Ej(N:Nat):bz:=⟨[ci,ci,ci],[cb],λa=>KH N a.1 a.2.1 a.2.2.1⟩
theorem nD(N:Nat):bB Tryz.prog 149 (Ej N):=tg [] [] [] N (.nil) (.nil) (λa=>by kernel_rfl)
def yk(N:Nat):bz:=⟨[.st 5],[cb],λa=>hD N a.1⟩
theorem xL(N:Nat):bB Tryz.prog 150 (yk N):=tg [] [(58,⟨[.r 12 ci],[],[],[]⟩)] [] N (.cons (nD N)<|.nil) (.nil) (λa=>by kernel_rfl)
def HA(N:Nat):bz:=⟨[ci],[.c .str],λa=>uI N a.1⟩
theorem Hn(N:Nat):bB Tryz.prog 211 (HA N):=tg [] [] [] N (.nil) (.nil) (λa=>by kernel_rfl)
def HZ(N:Nat):bz:=⟨[ci],[cb],λa=>Vs N a.1⟩
theorem kQ(N:Nat):bB Tryz.prog 86 (HZ N):=tg [] [] [] N (.nil) (.nil) (λa=>by kernel_rfl)
def yv(N:Nat):bz:=⟨[.st 5],[cb],λa=>gD N a.1⟩
theorem xJ(N:Nat):bB Tryz.prog 151 (yv N):=tg [] [(51,⟨[.r 8 cb],[],[],[]⟩),(207,⟨[.r 17 cb],[],[],[]⟩)] [] N (.cons (Hn N)<|.cons (kQ N)<|.cons (zdt N)<|.nil) (.nil) (λa=>by kernel_rfl)
def Ge(N:Nat):bz:=⟨[.st 5],[cb],λa=>Qy N a.1⟩
theorem Zf(N:Nat):bB Tryz.prog 84 (Ge N):=tg [] [] [] N (.cons (nD N)<|.cons (WK N)<|.cons (xL N)<|.cons (xJ N)<|.nil) (.nil) (λa=>by kernel_rfl)
def nL(N:Nat):cW:=⟨.mk [.p (.pt 0 0 2),.v (.st 5)] [] [.cells [xi,.hd 1],.row 5] [] [] [],[.mk [.v ci] [.w 1 5,.h 0 1 (.hd 1)] [] [] [] [(1966096,[.mk [.v ci,.v cb] [] [] [(1000000,0)] [] []])]],λ(a,b,_)=>zcK N a b⟩
theorem oa(N:Nat):cS Tryz.prog 261 (nL N):=og (g:=261) N (.cons (Zf N)<|.cons (kN N)<|.nil) (.cons (zcY N)<|.nil) (by kernel_rfl) (λx=>by kernel_rfl)
def Cp(N:Nat):bz:=⟨[ci],[ci],λa=>jS N a.1⟩
theorem ub(N:Nat):bB Tryz.prog 226 (Cp N):=tg [] [] [] N (.nil) (.nil) (λa=>by kernel_rfl)
def lE(N:Nat):cW:=⟨.mk [.p (.pt 0 0 27),.v ci] [] [.cells [.pt 1 0 2,.pt 2 0 2,xl 0,xl 2,xl 3,xi,xi,xi,xi,xi,xi,xi,xi,xi,xi,xi,xi,xi,xi,xi,xi,xi,xi,xl 8,xl 1,.hd 3,xi],.cells [xi,.hd 4],.cells [xl 0,.mr 5],.row 1,.row 5,.mp 7 true] [] [] [],[.mk [] [.w 3 1,.h 0 25 (.hd 3)] [] [] [] []],λ(a,_,_,b,_,_,_,_,_,_,_,_,_,_,_,_,_,_,_,_,_,_,_,_,_,_,_,_,_,_)=>zbd N a b⟩
theorem zeA(N:Nat):cS Tryz.prog 219 (lE N):=og (g:=219) N (.cons (ub N)<|.nil) (.nil) (by kernel_rfl) (λx=>by kernel_rfl)
def lb(N:Nat):cW:=⟨.mk [.p (.pt 0 0 27),.v (.st 5),.v (.st 5)] [] [.cells [.pt 1 0 2,.pt 2 0 2,xl 0,xl 2,xl 3,xi,xi,xi,xi,xi,xi,xi,xi,xi,xi,xi,xi,xi,xi,xi,xi,xi,xi,xl 8,xl 1,.hd 3,xi],.cells [xi,.hd 4],.cells [xl 0,.mr 5],.row 1,.row 5,.mp 7 true] [] [] [],[.mk [.v ci] [.h 1 1 (.hd 4),.w 4 5,.h 0 25 (.hd 3),.w 3 1] [] [] [(15,⟨[.w 3 1],[],[],[(0,25,3)]⟩)] [(786445,[.mk [.v ci] [.w 4 5,.h 1 1 (.hd 4)] [] [(1000000,0)] [] []]),(917524,[.mk [] [.w 3 1,.h 0 25 (.hd 3)] [] [(1000000,1)] [] []]),(7995421,[.mk [] [.w 3 1,.h 0 25 (.hd 3)] [] [(1000000,1)] [] []])]],λ(a,b,_,d,e,_,_,_,_,_,_,_,_,_,_,_,_,_,_,_,_,_,_,_,_,_,_,_,_,_,_)=>zbq N a b d e⟩
theorem zd9(N:Nat):cS Tryz.prog 224 (lb N):=og (g:=224) N (.nil) (.cons (oa N)<|.cons (zeA N)<|.nil) (by kernel_rfl) (λx=>by kernel_rfl)
end Go.Abs
end
end
section
set_option maxRecDepth 100000
noncomputable section
namespace Go.Abs
open Go.Proofs
def mD(N:Nat):cW:=⟨.mk [.p (.pt 0 0 27),.v (.st 5)] [] [.cells [.pt 1 0 2,.pt 2 0 2,xl 0,xl 2,xl 3,xi,xi,xi,xi,xi,xi,xi,xi,xi,xi,xi,xi,xi,xi,xi,xi,xi,xi,xl 8,xl 1,.hd 3,xi],.cells [xi,.hd 4],.cells [xl 0,.mr 5],.row 1,.row 5,.mp 7 true] [] [] [],[.mk [.v ci] [.h 0 25 (.hd 3),.h 1 1 (.hd 4),.w 3 1,.w 4 5] [] [] [(126,⟨[.r 33 cb],[],[],[]⟩)] [(917520,[.mk [.v (.st 5),.v cb] [] [] [(1000000,0)] [] []]),(16646181,[.mk [.v ci] [.h 1 1 (.hd 4),.w 4 5,.h 0 25 (.hd 3),.w 3 1] [] [(1000000,1)] [] []])]],λ(a,b,_,d,_,_,_,_,_,_,_,_,_,_,_,_,_,_,_,_,_,_,_,_,_,_,_,_,_,_)=>zbi N a b d⟩
theorem zc1(N:Nat):cS Tryz.prog 184 (mD N):=og (g:=184) N (.cons (Zf N)<|.cons (zdt N)<|.nil) (.cons (zb6 N)<|.cons (zd9 N)<|.nil) (by kernel_rfl) (λx=>by kernel_rfl)
def vu(N:Nat):cW:=⟨.mk [.p (.pt 0 0 27),.v (.st 5),.v (.st 17)] [] [.cells [.pt 1 0 2,.pt 2 0 2,xl 0,xl 2,xl 3,xi,xi,xi,xi,xi,xi,xi,xi,xi,xi,xi,xi,xi,xi,xi,xi,xi,xi,xl 8,xl 1,.hd 3,xi],.cells [xi,.hd 4],.cells [xl 0,.mr 5],.row 1,.row 5,.mp 7 true] [] [] [],[.mk [.v ci] [.h 0 25 (.hd 3),.h 1 1 (.hd 4),.w 3 1,.w 4 5] [] [] [] [(1966096,[.mk [.v ci] [.h 0 25 (.hd 3),.h 1 1 (.hd 4),.w 3 1,.w 4 5] [] [(1000000,0)] [] []])]],λ(a,b,_,d,e,_,_,_,_,_,_,_,_,_,_,_,_,_,_,_,_,_,_,_,_,_,_,_,_,_,_)=>iI N a b d e⟩
theorem vi(N:Nat):cS Tryz.prog 228 (vu N):=og (g:=228) N (.nil) (.cons (zc1 N)<|.nil) (by kernel_rfl) (λx=>by kernel_rfl)
def HM(N:Nat):bz:=⟨[ci,ci],[ci,cb],λa=>pr N a.1 a.2.1⟩
theorem xN(N:Nat):bB Tryz.prog 260 (HM N):=tg [] [(53247,⟨[.r 48 cb],[],[],[]⟩),(212991,⟨[.r 55 cb],[],[],[]⟩)] [] N (.cons (mQ N)<|.cons (zdt N)<|.nil) (.nil) (λa=>by kernel_rfl)
def Kt(N:Nat):bz:=⟨[.st 5,ci,ci,cb],[.st 5,ci],λa=>ua N a.1 a.2.1 a.2.2.1 a.2.2.2.1⟩
theorem Ay(N:Nat):bB Tryz.prog 222 (Kt N):=tg [] [(6,⟨[.r 20 cb],[],[],[]⟩),(1023,⟨[.h 0 11 (.bool),.h 0 12 (.bool),.h 0 15 (.int .i64)],[],[],[]⟩),(2047,⟨[.h 0 16 (.int .i64)],[],[],[]⟩),(8186,⟨[.h 0 12 (.bool)],[],[],[]⟩)] [] N (.cons (xN N)<|.cons (za5 N)<|.cons (kQ N)<|.cons (Zf N)<|.cons (nD N)<|.nil) (.nil) (λa=>by kernel_rfl)
def zeO(N:Nat):cW:=⟨.mk [.v (.c (.sl 0))] [] [] [] [] [],[.mk [.p (.hd 0)] [] [.row 0] [] [] []],λx=>zaO N x⟩
theorem zcm(N:Nat):cS Tryz.prog 94 (zeO N):=pc (i:=0) (sz:=32) (z:=[.c (.lit (.int .i64 0)),.c (.lit (.int .i64 0)),.c (.lit (.int .i64 0)),.c (.lit (.int .i64 0))]) (fn:=Tryz.f94) dF (by kernel_rfl) (by kernel_rfl) (by kernel_rfl) rfl
def wM(N:Nat):cW:=⟨.mk [.v (.st 0)] [] [] [] [] [],[.mk [.ag [.cx,.cx]] [] [] [] [] []],λa=>Vv N a⟩
theorem fE(N:Nat):cS Tryz.prog 164 (wM N):=og (g:=164) N (.nil) (.nil) (by kernel_rfl) (λx=>by kernel_rfl)
def yQ(N:Nat):cW:=⟨.mk [.ag [.cx,.cx]] [] [] [] [] [],[.mk [.v (.st 0)] [] [] [] [] []],λ(a,b)=>gE N a b⟩
theorem yp(N:Nat):cS Tryz.prog 215 (yQ N):=og (g:=215) N (.nil) (.nil) (by kernel_rfl) (λx=>by kernel_rfl)
def vT(N:Nat):cW:=⟨.mk [.ag [.cx,.cx]] [] [] [] [] [],[.mk [.v (.st 0),.v ci] [] [] [] [] [(393222,[.mk [.v (.st 0)] [] [] [(1000000,0)] [] []])]],λ(a,b)=>ZC N a b⟩
theorem zfb(N:Nat):cS Tryz.prog 165 (vT N):=og (g:=165) N (.cons (WK N)<|.nil) (.cons (yp N)<|.nil) (by kernel_rfl) (λx=>by kernel_rfl)
def HC(N:Nat):bz:=⟨[.st 0,ci],[.st 0,ci],λa=>fN N a.1 a.2.1⟩
theorem pN(N:Nat):bB Tryz.prog 163 (HC N):=tg [] [] [(4063256,[.mk [.ag [.cx,.cx]] [] [] [(1000000,0)] [] []]),(8257573,[.mk [.v (.st 0),.v ci] [] [] [(1000000,1)] [] []])] N (.cons (WK N)<|.nil) (.cons (fE N)<|.cons (zfb N)<|.nil) (λa=>by kernel_rfl)
def LP(N:Nat):bz:=⟨[.st 0,.st 0],[.st 0,ci],λa=>AX N a.1 a.2.1⟩
theorem KX(N:Nat):bB Tryz.prog 262 (LP N):=tg [] [(6,⟨[.r 15 cb],[],[],[]⟩)] [(917522,[.mk [.ag [.cx,.cx]] [] [] [(1000000,0)] [] []]),(917524,[.mk [.ag [.cx,.cx]] [] [] [(1000000,0)] [] []]),(1966112,[.mk [.v (.st 0),.v ci] [] [] [(1000000,1)] [] []])] N (.cons (WK N)<|.nil) (.cons (fE N)<|.cons (zfb N)<|.nil) (λa=>by kernel_rfl)
def jK(N:Nat):cW:=⟨.mk [.p (.pt 0 0 2),.v (.st 7),.p (.k (.c (.fn (.func 262) [] [])))] [] [.cells [xl 0,.mr 1],.mp 7 true] [] [] [],[.mk [.v (.c (.sl 0)),.v ci] [] [] [] [(58,⟨[.r 21 ci,.w 3 0],[(8,3)],[],[]⟩)] [(393233,[.mk [.p (.hd 3)] [] [.row 0] [(1000000,0)] [] []])]],λ(_,a,b)=>zbO N a b⟩
theorem jj(N:Nat):cS Tryz.prog 102 (jK N):=og (g:=102) N (.cons (pN N)<|.cons (KX N)<|.nil) (.cons (zcm N)<|.nil) (by kernel_rfl) (λx=>by kernel_rfl)
def kA(N:Nat):cW:=⟨.mk [.p (.pt 0 0 2),.v ci] [] [.cells [xl 0,.mr 1],.mp 7 true] [] [] [],[.mk [.v ci] [.h 0 0 (xl 0),.m 1 7 true] [] [] [] [(4063257,[.mk [.v (.c (.sl 0)),.v ci] [] [] [(1000000,0)] [] []])]],λ(a,b,d)=>zb0 N a b d⟩
theorem kK(N:Nat):cS Tryz.prog 225 (kA N):=og (g:=225) N (.nil) (.cons (jj N)<|.nil) (by kernel_rfl) (λx=>by kernel_rfl)
def mC(N:Nat):cW:=⟨.mk [.p (.pt 0 0 27),.v ci,.v ci,.v cb] [] [.cells [.pt 1 0 2,.pt 2 0 2,xl 0,xl 2,xl 3,xi,xi,xi,xi,xi,xi,xi,xi,xi,xi,xi,xi,xi,xi,xi,xi,xi,xi,xl 8,xl 1,.hd 3,xi],.cells [xi,.hd 4],.cells [xl 0,.mr 5],.row 1,.row 5,.mp 7 true] [] [] [],[.mk [.v ci] [.h 0 25 (.hd 3),.h 1 1 (.hd 4),.w 3 1,.w 4 5,.h 0 26 (xi),.h 2 0 (xl 0),.m 5 7 true] [] [] [(511,⟨[.h 0 26 (.int .i64),.h 2 0 (.sl 0),.m 5 7 true],[],[],[]⟩),(1022,⟨[.r 58 cb],[],[],[]⟩)] [(917526,[.mk [.v (.st 5),.v cb] [] [] [(1000000,0)] [] []]),(66846766,[.mk [.v ci] [.h 1 1 (.hd 4),.w 4 5,.h 0 25 (.hd 3),.w 3 1] [] [(1000000,1)] [] []]),(536084544,[.mk [.v ci] [.h 2 0 (xl 0),.m 5 7 true] [] [(1000000,2)] [] []])]],λ(e,f,g,h,i,j,_,_,_,_,_,_,_,_,_,_,_,_,_,_,_,_,_,_,a,_,_,_,_,b,_,d)=>za1 N e f g h i j a b d⟩
theorem zcZ(N:Nat):cS Tryz.prog 185 (mC N):=og (g:=185) N (.cons (Ay N)<|.cons (ub N)<|.cons (mQ N)<|.nil) (.cons (zb6 N)<|.cons (zd9 N)<|.cons (kK N)<|.nil) (by kernel_rfl) (λx=>by kernel_rfl)
def qx(N:Nat):cW:=⟨.mk [.p (.pt 0 0 27),.v (.st 5),.v (.st 17)] [] [.cells [.pt 1 0 2,.pt 2 0 2,xl 0,xl 2,xl 3,xi,xi,xi,xi,xi,xi,xi,xi,xi,xi,xi,xi,xi,xi,xi,xi,xi,xi,xl 8,xl 1,.hd 3,xi],.cells [xi,.hd 4],.cells [xl 0,.mr 5],.row 1,.row 5,.mp 7 true] [] [] [],[.mk [.v ci] [.h 0 25 (.hd 3),.h 0 26 (xi),.h 1 1 (.hd 4),.h 2 0 (xl 0),.w 3 1,.w 4 5,.m 5 7 true] [] [] [] [(393226,[.mk [.v ci] [.h 0 25 (.hd 3),.h 1 1 (.hd 4),.w 3 1,.w 4 5,.h 0 26 (xi),.h 2 0 (xl 0),.m 5 7 true] [] [(1000000,0)] [] []])]],λ(e,f,g,h,_,_,_,_,_,_,_,_,_,_,_,_,_,_,_,_,_,_,_,a,_,_,_,_,b,_,d)=>zfc N e f g h a b d⟩
theorem pW(N:Nat):cS Tryz.prog 230 (qx N):=og (g:=230) N (.nil) (.cons (zcZ N)<|.nil) (by kernel_rfl) (λx=>by kernel_rfl)
def xS(N:Nat):cW:=⟨.mk [.p (.pt 0 0 27),.v ci,.v (.st 17)] [] [.cells [.pt 1 0 2,.pt 2 0 2,xl 0,xl 2,xl 3,xi,xi,xi,xi,xi,xi,xi,xi,xi,xi,xi,xi,xi,xi,xi,xi,xi,xi,xl 8,xl 1,.hd 3,xi],.cells [xi,.hd 4],.cells [xl 0,.mr 5],.row 1,.row 5,.mp 7 true] [] [] [],[.mk [.v (.st 15)] [.h 0 25 (.hd 3),.h 1 1 (.hd 4),.w 3 1,.w 4 5,.h 0 26 (xi),.h 2 0 (xl 0),.m 5 7 true] [] [] [] [(786448,[.mk [.v ci] [] [] [(1000000,0)] [] []]),(917530,[.mk [.ag [.k (.c (.fn (.func 227) [] [])),.k (.c (.fn (.func 228) [] []))],.v cb] [] [] [] [] [],.mk [.ag [.k (.c (.fn (.func 229) [] [])),.k (.c (.fn (.func 230) [] []))],.v cb] [] [] [] [] [],.mk [.ag [.k (.c (.lit .nilFunc)),.k (.c (.lit .nilFunc))],.v cb] [] [] [] [] []]),(1966113,[.mk [.v (.st 5),.v cb] [] [] [(1000000,1)] [] []]),(8126505,[.mk [.v ci] [.h 0 25 (.hd 3),.h 1 1 (.hd 4),.w 3 1,.w 4 5] [] [(1000000,2)] [] []]),(279261864330979339365253161,[.mk [.v ci] [.h 0 25 (.hd 3),.h 0 26 (xi),.h 1 1 (.hd 4),.h 2 0 (xl 0),.w 3 1,.w 4 5,.m 5 7 true] [] [(1000000,3)] [] []])]],λ(v,w,x,y,z,A,E,F,G,K,a,b,d,e,f,g,h,i,j,k,l,m,n,o,p,q,r,s,t,_,u)=>gK N v w x y z A E F G K a b d e f g h i j k l m n o p q r s t u⟩
theorem xR(N:Nat):cS Tryz.prog 118 (xS N):=og (g:=118) N (.cons (VB N)<|.nil) (.cons (un N)<|.cons (zbv N)<|.cons (vi N)<|.cons (pW N)<|.nil) (by kernel_rfl) (λx=>by kernel_rfl)
def ve(N:Nat):cW:=⟨.mk [.p (.pt 0 0 27),.v (.st 10)] [] [.cells [.pt 1 0 2,.pt 2 0 2,xl 0,xl 2,xl 3,xi,xi,xi,xi,xi,xi,xi,xi,xi,xi,xi,xi,xi,xi,xi,xi,xi,xi,xl 8,xl 1,.hd 3,xi],.cells [xi,.hd 4],.cells [xl 0,.mr 5],.row 1,.row 5,.mp 7 true] [] [] [],[.mk [.v (.st 15)] [.h 0 25 (.hd 3),.h 0 26 (xi),.h 1 1 (.hd 4),.h 2 0 (xl 0),.w 3 1,.w 4 5,.m 5 7 true] [] [] [] [(393226,[.mk [.v (.st 15)] [.h 0 25 (.hd 3),.h 1 1 (.hd 4),.w 3 1,.w 4 5,.h 0 26 (xi),.h 2 0 (xl 0),.m 5 7 true] [] [(1000000,0)] [] []])]],λ(u,v,w,x,y,z,A,E,F,G,a,b,d,e,f,g,h,i,j,k,l,m,n,o,p,q,r,s,_,t)=>iQ N u v w x y z A E F G a b d e f g h i j k l m n o p q r s t⟩
theorem vN(N:Nat):cS Tryz.prog 58 (ve N):=og (g:=58) N (.nil) (.cons (xR N)<|.nil) (by kernel_rfl) (λx=>by kernel_rfl)
def DS(N:Nat):bz:=⟨[ci],[cb],λa=>pO N a.1⟩
theorem Ev(N:Nat):bB Tryz.prog 220 (DS N):=tg [] [] [] N (.nil) (.nil) (λa=>by kernel_rfl)
def zR(N:Nat):bz:=⟨[.st 17],[ci],λa=>zer N a.1⟩
theorem pA(N:Nat):bB Tryz.prog 255 (zR N):=tg [] [(6,⟨[.r 24 cb],[],[],[]⟩)] [] N (.cons (pN N)<|.cons (WK N)<|.nil) (.nil) (λa=>by kernel_rfl)
def yE(N:Nat):bz:=⟨[.st 11,.st 5,.st 17],[ci],λa=>gC N a.1 a.2.1 a.2.2.1⟩
theorem x_(N:Nat):bB Tryz.prog 221 (yE N):=tg [] [] [] N (.cons (xN N)<|.cons (zdt N)<|.cons (pA N)<|.cons (kL N)<|.nil) (.nil) (λa=>by kernel_rfl)
def CD(N:Nat):bz:=⟨[.st 11,.st 5,ci,.st 17],[ci],λa=>mK N a.1 a.2.1 a.2.2.1 a.2.2.2.1⟩
theorem CK(N:Nat):bB Tryz.prog 180 (CD N):=tg [] [(6,⟨[.r 33 cb],[],[],[]⟩)] [] N (.cons (x_ N)<|.cons (Ev N)<|.cons (Wf N)<|.cons (Zf N)<|.nil) (.nil) (λa=>by kernel_rfl)
def BO(N:Nat):bz:=⟨[.st 5,ci,.st 17],[.st 5,ci],λa=>jm N a.1 a.2.1 a.2.2.1⟩
theorem CJ(N:Nat):bB Tryz.prog 181 (BO N):=tg [] [] [] N (.cons (Ay N)<|.nil) (.nil) (λa=>by kernel_rfl)
def Il(N:Nat):bz:=⟨[.st 11,.st 5,ci,.st 10],[.st 5,.st 15],λa=>sq N a.1 a.2.1 a.2.2.1 a.2.2.2.1⟩
theorem Jd(N:Nat):bB Tryz.prog 116 (Il N):=tg [] [] [] N (.cons (za5 N)<|.cons (VB N)<|.cons (CK N)<|.cons (CJ N)<|.nil) (.nil) (λa=>by kernel_rfl)
def gy(N:Nat):bz:=⟨[.c (.sl 4),.c (.sl 4)],[cb],λa=>zbm N a.1 a.2.1⟩
theorem gG(N:Nat):bB Tryz.prog 223 (gy N):=tg [] [(58,⟨[.r 13 ci],[],[],[]⟩)] [] N (.nil) (.nil) (λa=>by kernel_rfl)
def Kh(N:Nat):bz:=⟨[.st 5,.st 5],[cb],λa=>tW N a.1 a.2.1⟩
theorem Ko(N:Nat):bB Tryz.prog 182 (Kh N):=tg [] [] [] N (.cons (gG N)<|.nil) (.nil) (λa=>by kernel_rfl)
def um(N:Nat):cW:=⟨.mk [.p (.pt 0 0 27),.v (.st 5)] [] [.cells [.pt 1 0 2,.pt 2 0 2,xl 0,xl 2,xl 3,xi,xi,xi,xi,xi,xi,xi,xi,xi,xi,xi,xi,xi,xi,xi,xi,xi,xi,xl 8,xl 1,.hd 3,xi],.cells [xi,.hd 4],.cells [xl 0,.mr 5],.row 1,.row 5,.mp 7 true] [] [] [],[.mk [.v ci] [.h 0 25 (.hd 3),.h 1 1 (.hd 4),.w 3 1,.w 4 5,.h 0 26 (xi),.h 2 0 (xl 0),.m 5 7 true] [] [] [] [(3932175,[.mk [.v ci] [.h 0 25 (.hd 3),.h 1 1 (.hd 4),.w 3 1,.w 4 5] [] [(1000000,0)] [] []]),(4063254,[.mk [.v ci] [.h 0 25 (.hd 3),.h 1 1 (.hd 4),.w 3 1,.w 4 5,.h 0 26 (xi),.h 2 0 (xl 0),.m 5 7 true] [] [(1000000,1)] [] []])]],λ(e,f,g,h,_,_,_,_,_,_,_,_,_,_,_,_,_,_,_,_,_,_,a,_,_,_,_,b,_,d)=>mX N e f g h a b d⟩
theorem s_(N:Nat):cS Tryz.prog 186 (um N):=og (g:=186) N (.nil) (.cons (zc1 N)<|.cons (zcZ N)<|.nil) (by kernel_rfl) (λx=>by kernel_rfl)
def yw(N:Nat):cW:=⟨.mk [.p (.pt 0 0 27),.v (.st 5),.v (.st 5)] [] [.cells [.pt 1 0 2,.pt 2 0 2,xl 0,xl 2,xl 3,xi,xi,xi,xi,xi,xi,xi,xi,xi,xi,xi,xi,xi,xi,xi,xi,xi,xi,xl 8,xl 1,.hd 3,xi],.cells [xi,.hd 4],.cells [xl 0,.mr 5],.row 1,.row 5,.mp 7 true] [] [] [],[.mk [.v ci] [.h 0 25 (.hd 3),.h 1 1 (.hd 4),.w 3 1,.w 4 5,.h 0 26 (xi),.h 2 0 (xl 0),.m 5 7 true] [] [] [] [(917519,[.mk [.v (.st 5),.v cb] [] [] [(1000000,0)] [] []]),(4063282,[.mk [.v ci] [.h 0 25 (.hd 3),.h 1 1 (.hd 4),.w 3 1,.w 4 5,.h 0 26 (xi),.h 2 0 (xl 0),.m 5 7 true] [] [(1000000,3)] [] []]),(2046558244,[.mk [.v ci] [.h 0 25 (.hd 3),.h 1 1 (.hd 4),.w 3 1,.w 4 5] [] [(1000000,1)] [] []]),(8187019311,[.mk [.v ci] [.h 0 25 (.hd 3),.h 1 1 (.hd 4),.w 3 1,.w 4 5,.h 0 26 (xi),.h 2 0 (xl 0),.m 5 7 true] [] [(1000000,2)] [] []])]],λ(e,f,g,h,i,_,_,_,_,_,_,_,_,_,_,_,_,_,_,_,_,_,_,a,_,_,_,_,b,_,d)=>gI N e f g h i a b d⟩
theorem yf(N:Nat):cS Tryz.prog 117 (yw N):=og (g:=117) N (.cons (Ko N)<|.cons (zdt N)<|.nil) (.cons (zbv N)<|.cons (zc1 N)<|.cons (zcZ N)<|.cons (s_ N)<|.nil) (by kernel_rfl) (λx=>by kernel_rfl)
def rb(N:Nat):cW:=⟨.mk [.p (.pt 0 0 27),.v (.st 10)] [] [.cells [.pt 1 0 2,.pt 2 0 2,xl 0,xl 2,xl 3,xi,xi,xi,xi,xi,xi,xi,xi,xi,xi,xi,xi,xi,xi,xi,xi,xi,xi,xl 8,xl 1,.hd 3,xi],.cells [xi,.hd 4],.cells [xl 0,.mr 5],.row 1,.row 5,.mp 7 true] [] [] [],[.mk [.v (.st 15)] [.h 0 25 (.hd 3),.h 0 26 (xi),.h 1 1 (.hd 4),.h 2 0 (xl 0),.w 3 1,.w 4 5,.m 5 7 true] [] [] [] [(393231,[.mk [.v (.st 5),.v cb] [] [] [(1000000,0)] [] []]),(1966106,[.mk [.v (.st 11)] [] [] [(1000000,1)] [] []]),(1966109,[.mk [.v (.st 19)] [] [] [(1000000,2)] [] []]),(16515114,[.mk [.v ci] [.h 0 25 (.hd 3),.h 1 1 (.hd 4),.w 3 1,.w 4 5,.h 0 26 (xi),.h 2 0 (xl 0),.m 5 7 true] [] [(1000000,3)] [] []])]],λ(u,v,w,x,y,z,A,E,F,G,a,b,d,e,f,g,h,i,j,k,l,m,n,o,p,q,r,s,_,t)=>zdW N u v w x y z A E F G a b d e f g h i j k l m n o p q r s t⟩
theorem rR(N:Nat):cS Tryz.prog 57 (rb N):=og (g:=57) N (.cons (VB N)<|.cons (Jd N)<|.nil) (.cons (zbv N)<|.cons (Ye N)<|.cons (Zy N)<|.cons (yf N)<|.nil) (by kernel_rfl) (λx=>by kernel_rfl)
def kB(N:Nat):cW:=⟨.mk [.p (.pt 0 0 45)] [] [.cells (xl 0::xl 2::xl 3::xi::xi::xi::xi::xi::xi::xi::xi::xi::xi::xi::xi::xi::xi::xi::xi::xi::xi::xl 5::xl 7::xl 8::xl 1::xl 1::xi::xi::xi::xi::xi::xi::xi::xi::xi::xi::xi::xi::xi::xi::xl 4::xi::xi::xi::xi::[])] [] [] [],[.mk [.v ci] [] [] [] [] []],λ(_,_,_,d,_,_,_,_,_,_,_,_,_,_,_,_,_,_,_,_,_,_,_,_,_,_,_,a,b,_,_,_,_,_,_,_,_,_,_,_,_,_,_,_,_)=>zdc N d a b⟩
theorem kX(N:Nat):cS Tryz.prog 252 (kB N):=og (g:=252) N (.nil) (.nil) (by kernel_rfl) (λx=>by kernel_rfl)
def lL(N:Nat):cW:=⟨.mk [.p (.pt 0 0 45)] [] [.cells (xl 0::xl 2::xl 3::xi::xi::xi::xi::xi::xi::xi::xi::xi::xi::xi::xi::xi::xi::xi::xi::xi::xi::xl 5::xl 7::xl 8::xl 1::xl 1::xi::xi::xi::xi::xi::xi::xi::xi::xi::xi::xi::xi::xi::xi::xl 4::xi::xi::xi::xi::[])] [] [] [],[.mk [.v ci] [] [] [] [] []],λ(l,m,n,o,p,q,r,s,t,u,a,b,d,e,f,g,h,i,_,_,_,_,_,_,_,_,_,j,_,_,_,_,k,_,_,_,_,_,_,_,_,_,_,_,_)=>zdx N l m n o p q r s t u a b d e f g h i j k⟩
theorem lw(N:Nat):cS Tryz.prog 253 (lL N):=og (g:=253) N (.cons (qD N)<|.nil) (.nil) (by kernel_rfl) (λx=>by kernel_rfl)
def nQ(N:Nat):cW:=⟨.mk [.p (.pt 0 0 45)] [] [.cells (xl 0::xl 2::xl 3::xi::xi::xi::xi::xi::xi::xi::xi::xi::xi::xi::xi::xi::xi::xi::xi::xi::xi::xl 5::xl 7::xl 8::xl 1::xl 1::xi::xi::xi::xi::xi::xi::xi::xi::xi::xi::xi::xi::xi::xi::xl 4::xi::xi::xi::xi::[])] [] [] [],[.mk [.v ci] [] [] [] [] []],λ(_,_,_,_,_,_,_,_,_,_,_,_,_,_,_,_,_,_,_,_,_,_,_,_,_,_,_,_,a,b,d,e,f,g,h,i,j,k,l,m,n,o,p,q,r)=>zed N a b d e f g h i j k l m n o p q r⟩
theorem oh(N:Nat):cS Tryz.prog 254 (nQ N):=og (g:=254) N (.cons (pA N)<|.nil) (.nil) (by kernel_rfl) (λx=>by kernel_rfl)
def mg(N:Nat):cW:=⟨.mk [.p (.pt 0 0 45)] [] [.cells (xl 0::xl 2::xl 3::xi::xi::xi::xi::xi::xi::xi::xi::xi::xi::xi::xi::xi::xi::xi::xi::xi::xi::xl 5::xl 7::xl 8::xl 1::xl 1::xi::xi::xi::xi::xi::xi::xi::xi::xi::xi::xi::xi::xi::xi::xl 4::xi::xi::xi::xi::[])] [] [] [],[.mk [.v ci] [] [] [] [] []],λ(_,_,_,_,_,_,_,_,_,_,_,_,_,_,_,_,_,_,_,_,_,_,_,_,_,_,_,_,_,_,_,_,_,_,_,_,_,_,_,a,b,_,_,_,_)=>zdG N a b⟩
theorem mI(N:Nat):cS Tryz.prog 256 (mg N):=og (g:=256) N (.nil) (.nil) (by kernel_rfl) (λx=>by kernel_rfl)
def lF(N:Nat):cW:=⟨.mk [.p (.pt 0 0 45)] [] [.cells (xl 0::xl 2::xl 3::xi::xi::xi::xi::xi::xi::xi::xi::xi::xi::xi::xi::xi::xi::xi::xi::xi::xi::xl 5::xl 7::xl 8::xl 1::xl 1::xi::xi::xi::xi::xi::xi::xi::xi::xi::xi::xi::xi::xi::xi::xl 4::xi::xi::xi::xi::[])] [] [] [],[.mk [.v ci] [] [] [] [(26,⟨[.r 14 ci],[],[],[]⟩),(27034,⟨[.r 5 cb,.r 24 ci],[],[],[]⟩)] []],λ(_,_,_,_,_,_,_,_,_,_,_,_,_,_,_,_,_,_,_,_,_,a,_,_,_,_,_,_,_,_,_,_,_,_,_,_,_,_,_,_,b,_,_,_,_)=>zch N a b⟩
theorem ma(N:Nat):cS Tryz.prog 257 (lF N):=og (g:=257) N (.nil) (.nil) (by kernel_rfl) (λx=>by kernel_rfl)
def mF(N:Nat):cW:=⟨.mk [.p (.pt 0 0 45)] [] [.cells (xl 0::xl 2::xl 3::xi::xi::xi::xi::xi::xi::xi::xi::xi::xi::xi::xi::xi::xi::xi::xi::xi::xi::xl 5::xl 7::xl 8::xl 1::xl 1::xi::xi::xi::xi::xi::xi::xi::xi::xi::xi::xi::xi::xi::xi::xl 4::xi::xi::xi::xi::[])] [] [] [],[.mk [.v ci] [] [] [] [] []],λ(r,s,t,u,v,w,x,y,z,A,a,b,d,e,f,g,h,i,_,_,_,j,_,_,_,_,_,_,_,_,_,_,k,l,m,n,o,p,_,q,_,_,_,_,_)=>zdE N r s t u v w x y z A a b d e f g h i j k l m n o p q⟩
theorem mq(N:Nat):cS Tryz.prog 258 (mF N):=og (g:=258) N (.cons (kL N)<|.cons (nK N)<|.nil) (.nil) (by kernel_rfl) (λx=>by kernel_rfl)
def jO(N:Nat):cW:=⟨.mk [.p (.pt 0 0 45)] [] [.cells (xl 0::xl 2::xl 3::xi::xi::xi::xi::xi::xi::xi::xi::xi::xi::xi::xi::xi::xi::xi::xi::xi::xi::xl 5::xl 7::xl 8::xl 1::xl 1::xi::xi::xi::xi::xi::xi::xi::xi::xi::xi::xi::xi::xi::xi::xl 4::xi::xi::xi::xi::[])] [] [] [],[.mk [.v ci] [] [] [] [] []],λ(_,_,_,_,_,_,_,_,_,_,a,b,_,_,_,_,_,_,_,d,_,e,_,_,_,_,_,_,_,_,_,_,_,_,_,_,_,_,_,f,_,_,_,_,_)=>zbN N a b d e f⟩
theorem jQ(N:Nat):cS Tryz.prog 259 (jO N):=og (g:=259) N (.nil) (.nil) (by kernel_rfl) (λx=>by kernel_rfl)
end Go.Abs
end
end
section
set_option maxRecDepth 100000
noncomputable section
namespace Go.Abs
open Go.Proofs
def qT(N:Nat):cW:=⟨.mk [.p (.pt 0 0 27),.v ci,.v (.st 17)] [] [.cells [.pt 1 0 2,.pt 2 0 2,xl 0,xl 2,xl 3,xi,xi,xi,xi,xi,xi,xi,xi,xi,xi,xi,xi,xi,xi,xi,xi,xi,xi,xl 8,xl 1,.hd 3,xi],.cells [xi,.hd 4],.cells [xl 0,.mr 5],.row 1,.row 5,.mp 7 true] [] [] [],[.mk [.v ci] [] [] [] [(122,⟨[],[],[(1000003,40)],[]⟩)] [(917518,[.mk [.v (.st 11)] [] [] [(1000000,0)] [] []]),(917520,[.mk [.v (.st 19)] [] [] [(1000000,1)] [] []]),(3932181,[.mk [] [] [] [(1000002,0),(8,1000001)] [] []]),(1026687006,[.mk [.v ci] [] [] [(1000000,2)] [] []]),(13195166220318,[.mk [.v ci] [] [] [(1000000,3)] [] []]),(14294677848094,[.mk [.v ci] [] [] [(1000000,4)] [] []]),(15394189475870,[.mk [.v ci] [] [] [(1000000,5)] [] []]),(16493701103646,[.mk [.v ci] [] [] [(1000000,6)] [] []]),(17593212731422,[.mk [.v ci] [] [] [(1000000,7)] [] []]),(18692724359198,[.mk [.v ci] [] [] [(1000000,8)] [] []])]],λ(u,v,w,x,y,z,A,E,F,G,a,b,d,e,f,g,h,i,j,k,l,m,n,o,p,q,r,s,t,_,_)=>zcR N u v w x y z A E F G a b d e f g h i j k l m n o p q r s t⟩
theorem rO(N:Nat):cS Tryz.prog 176 (qT N):=og (g:=176) N (.nil) (.cons (Ye N)<|.cons (Zy N)<|.cons (kX N)<|.cons (lw N)<|.cons (oh N)<|.cons (mI N)<|.cons (ma N)<|.cons (mq N)<|.cons (jQ N)<|.nil) (by kernel_rfl) (λx=>by kernel_rfl)
def LI(N:Nat):bz:=⟨[ci,ci,ci,.st 17],[.st 5,ci],λa=>Be N a.1 a.2.1 a.2.2.1 a.2.2.2.1⟩
theorem Mx(N:Nat):bB Tryz.prog 177 (LI N):=tg [] [] [] N (.cons (Zf N)<|.cons (za5 N)<|.nil) (.nil) (λa=>by kernel_rfl)
def zee(N:Nat):cW:=⟨.mk [.p (.hd 0),.v ci,.p (.hd 1)] [] [.row 5,.row 5] [] [] [],[.mk [.p (.hd 0)] [.w 0 5] [] [] [] []],λ(a,b,d)=>zaW N a b d⟩
theorem zd6(N:Nat):cS Tryz.prog 99 (zee N):=og (g:=99) N (.nil) (.nil) (by kernel_rfl) (λx=>by kernel_rfl)
def ou(N:Nat):cW:=⟨.mk [.p (.pt 0 0 2),.v (.st 5)] [] [.cells [xi,.hd 1],.row 5] [] [] [],[.mk [.v ci] [.h 0 1 (.hd 1),.w 1 5] [] [(38,5)] [] [(1966096,[.mk [.v ci,.v cb] [] [] [(1000000,0)] [] []]),(16646183,[.mk [.p (.hd 1)] [.w 1 5] [] [(1000000,1)] [] []])]],λ(a,b,d)=>za6 N a b d⟩
theorem zfh(N:Nat):cS Tryz.prog 48 (ou N):=og (g:=48) N (.cons (Zf N)<|.cons (kN N)<|.nil) (.cons (zcY N)<|.cons (zd6 N)<|.nil) (by kernel_rfl) (λx=>by kernel_rfl)
def nG(N:Nat):cW:=⟨.mk [.p (.pt 0 0 27),.v (.st 5)] [] [.cells [.pt 1 0 2,.pt 2 0 2,xl 0,xl 2,xl 3,xi,xi,xi,xi,xi,xi,xi,xi,xi,xi,xi,xi,xi,xi,xi,xi,xi,xi,xl 8,xl 1,.hd 3,xi],.cells [xi,.hd 4],.cells [xl 0,.mr 5],.row 1,.row 5,.mp 7 true] [] [] [],[.mk [.v ci] [.h 1 1 (.hd 4),.w 4 5,.h 0 21 (xi),.h 0 25 (.hd 3),.w 3 1] [] [] [] [(8126509,[.mk [.v ci] [.h 1 1 (.hd 4),.w 4 5] [] [(1000000,0)] [] []]),(16646203,[.mk [] [.w 3 1,.h 0 25 (.hd 3)] [] [(1000000,1)] [] []])]],λ(e,f,_,g,_,_,_,_,_,_,_,_,_,_,_,a,_,_,_,_,_,_,_,b,_,_,_,_,d,_)=>zcV N e f g a b d⟩
theorem nM(N:Nat):cS Tryz.prog 178 (nG N):=og (g:=178) N (.cons (Zf N)<|.nil) (.cons (zfh N)<|.cons (zeA N)<|.nil) (by kernel_rfl) (λx=>by kernel_rfl)
def xj(N:Nat):cW:=⟨.mk [.p (.pt 0 0 27),.v ci,.v (.st 17)] [] [.cells [.pt 1 0 2,.pt 2 0 2,xl 0,xl 2,xl 3,xi,xi,xi,xi,xi,xi,xi,xi,xi,xi,xi,xi,xi,xi,xi,xi,xi,xi,xl 8,xl 1,.hd 3,xi],.cells [xi,.hd 4],.cells [xl 0,.mr 5],.row 1,.row 5,.mp 7 true] [] [] [],[.mk [.v (.st 15)] [.h 0 21 (xi),.h 0 25 (.hd 3),.h 1 1 (.hd 4),.w 3 1,.w 4 5] [] [(30,5),(62,5),(87,1)] [(250,⟨[.r 33 ci,.w 9 5],[(9,9)],[],[]⟩),(506,⟨[.r 67 ci,.h 0 21 (.int .i64),.w 3 1,.w 4 5],[],[],[(0,25,3),(1,1,4)]⟩),(64103,⟨[.h 10 17 (.int .i64)],[],[],[]⟩)] [(786451,[.mk [.v ci] [] [] [(1000000,0)] [] []]),(917531,[.mk [.v (.st 19)] [] [] [(1000000,1)] [] []]),(4247912521,[.mk [.v ci] [.h 1 1 (.hd 4),.w 4 5,.h 0 21 (xi),.h 0 25 (.hd 3),.w 3 1] [] [(1000000,2)] [] []])]],λ(v,w,x,y,z,A,E,F,G,K,a,b,d,e,f,g,h,i,j,k,l,m,n,o,p,q,r,s,t,u,_)=>e_ N v w x y z A E F G K a b d e f g h i j k l m n o p q r s t u⟩
theorem wx(N:Nat):cS Tryz.prog 114 (xj N):=og (g:=114) N (.cons (VB N)<|.cons (Mx N)<|.nil) (.cons (rO N)<|.cons (Zy N)<|.cons (nM N)<|.nil) (by kernel_rfl) (λx=>by kernel_rfl)
def oV(N:Nat):cW:=⟨.mk [.p (.pt 0 0 27),.v (.st 10)] [] [.cells [.pt 1 0 2,.pt 2 0 2,xl 0,xl 2,xl 3,xi,xi,xi,xi,xi,xi,xi,xi,xi,xi,xi,xi,xi,xi,xi,xi,xi,xi,xl 8,xl 1,.hd 3,xi],.cells [xi,.hd 4],.cells [xl 0,.mr 5],.row 1,.row 5,.mp 7 true] [] [] [],[.mk [.v (.st 15)] [.h 0 21 (xi),.h 0 25 (.hd 3),.h 1 1 (.hd 4),.w 3 1,.w 4 5] [] [] [] [(393226,[.mk [.v (.st 15)] [.h 0 21 (xi),.h 0 25 (.hd 3),.h 1 1 (.hd 4),.w 3 1,.w 4 5] [] [(1000000,0)] [] []])]],λ(u,v,w,x,y,z,A,E,F,G,a,b,d,e,f,g,h,i,j,k,l,m,n,o,p,q,r,s,t,_)=>zeG N u v w x y z A E F G a b d e f g h i j k l m n o p q r s t⟩
theorem pa(N:Nat):cS Tryz.prog 56 (oV N):=og (g:=56) N (.nil) (.cons (wx N)<|.nil) (by kernel_rfl) (λx=>by kernel_rfl)
def zN(N:Nat):cW:=⟨.mk [.p (.pt 0 0 27),.v (.st 10)] [] [.cells [.pt 1 0 2,.pt 2 0 2,xl 0,xl 2,xl 3,xi,xi,xi,xi,xi,xi,xi,xi,xi,xi,xi,xi,xi,xi,xi,xi,xi,xi,xl 8,xl 1,.hd 3,xi],.cells [xi,.hd 4],.cells [xl 0,.mr 5],.row 1,.row 5,.mp 7 true] [] [] [],[.mk [.v (.st 15)] [.h 0 22 (xi),.h 0 23 (xl 8),.h 0 25 (.hd 3),.h 0 26 (xi),.h 1 1 (.hd 4),.h 2 0 (xl 0),.w 3 1,.w 4 5,.m 5 7 true,.h 0 21 (xi)] [] [(18,1000005)] [(30,⟨[.r 35 cb],[],[],[]⟩)] [(917518,[.mk [.p (.mr 8)] [] [.mp 16 true] [(1000000,0)] [] []]),(3932192,[.mk [.v (.st 11)] [] [] [(1000000,1)] [] []]),(4063276,[.mk [.v (.st 15)] [.h 0 22 (xi),.h 0 23 (xl 8)] [] [(1000000,2)] [] []]),(68908771718033862962315308,[.mk [.v (.st 15)] [.h 0 21 (xi),.h 0 25 (.hd 3),.h 1 1 (.hd 4),.w 3 1,.w 4 5] [] [(1000000,6)] [] []]),(70117697537648492137021484,[.mk [.v (.st 15)] [.h 0 25 (.hd 3),.h 0 26 (xi),.h 1 1 (.hd 4),.h 2 0 (xl 0),.w 3 1,.w 4 5,.m 5 7 true] [] [(1000000,5)] [] []]),(71326623357263121311727660,[.mk [.v (.st 15)] [.h 0 25 (.hd 3),.h 0 26 (xi),.h 1 1 (.hd 4),.h 2 0 (xl 0),.w 3 1,.w 4 5,.m 5 7 true] [] [(1000000,4)] [] []]),(72535549176877750486433836,[.mk [.v (.st 15)] [] [] [(1000000,3)] [] []])]],λ(v,w,x,y,z,A,E,F,G,K,a,b,d,e,f,g,h,i,j,k,l,m,n,o,p,q,r,s,t,u)=>zek N v w x y z A E F G K a b d e f g h i j k l m n o p q r s t u⟩
theorem oO(N:Nat):cS Tryz.prog 8 (zN N):=og (g:=8) N (.cons (VB N)<|.nil) (.cons (qt N)<|.cons (Ye N)<|.cons (tH N)<|.cons (vB N)<|.cons (vN N)<|.cons (rR N)<|.cons (pa N)<|.nil) (by kernel_rfl) (λx=>by kernel_rfl)
def tL(N:Nat):bz:=⟨[.c (.sl 1),.c (.sl 1)],[cb],λa=>zbQ N a.1 a.2.1⟩
theorem zeI(N:Nat):bB Tryz.prog 16 (tL N):=tg [] [(58,⟨[.r 5 ci],[],[],[]⟩)] [] N (.nil) (.nil) (λa=>by kernel_rfl)
def ti(N:Nat):bz:=⟨[.st 15,.st 15],[cb],λa=>zdd N a.1 a.2.1⟩
theorem jx(N:Nat):bB Tryz.prog 10 (ti N):=tg [] [] [] N (.cons (zeI N)<|.nil) (.nil) (λa=>by kernel_rfl)
def Ez(N:Nat):bz:=⟨[],[.c (.sl 1)],λa=>BQ N⟩
theorem Ep(N:Nat):bB Tryz.prog 17 (Ez N):=tg [(1,1)] [] [] N (.nil) (.nil) (λa=>by kernel_rfl)
def rk(N:Nat):bz:=⟨[],[cb],λa=>fB N⟩
theorem rA(N:Nat):bB Tryz.prog 4 (rk N):=tg [(22,1),(28,1)] [] [(393222,[.mk [.p (.k (.c (.lit (.pointer none)))),.p (.k (.c (.lit (.int .i64 2))))] [] [] [(1000000,0)] [] [],.mk [.p (.pt 0 0 27),.p (.k (.c (.lit (.int .i64 0))))] [] [.cells [.pt 1 0 2,.pt 2 0 2,xl 0,xl 2,xl 3,xi,xi,xi,xi,xi,xi,xi,xi,xi,xi,xi,xi,xi,xi,xi,xi,xi,xi,xl 8,xl 1,.hd 3,xi],.cells [xi,.hd 4],.cells [xl 0,.mr 5],.row 1,.row 5,.mp 7 true] [] [] []]),(917517,[.mk [.v (.st 15)] [] [] [(1000000,1)] [] []]),(1966097,[.mk [.v (.st 15)] [] [] [(1000000,1)] [] []]),(7696582311949,[.mk [.v (.st 15)] [.h 0 22 (xi),.h 0 23 (xl 8),.h 0 25 (.hd 3),.h 0 26 (xi),.h 1 1 (.hd 4),.h 2 0 (xl 0),.w 3 1,.w 4 5,.m 5 7 true,.h 0 21 (xi)] [] [(1000000,2)] [] []]),(7696583360529,[.mk [.v (.st 15)] [.h 0 22 (xi),.h 0 23 (xl 8),.h 0 25 (.hd 3),.h 0 26 (xi),.h 1 1 (.hd 4),.h 2 0 (xl 0),.w 3 1,.w 4 5,.m 5 7 true,.h 0 21 (xi)] [] [(1000000,2)] [] []])] N (.cons (qZ N)<|.cons (jx N)<|.cons (Ep N)<|.cons (zeI N)<|.nil) (.cons (wC N)<|.cons (pd N)<|.cons (oO N)<|.nil) (λa=>by kernel_rfl)
def vQ(N:Nat):bz:=⟨[.st 11],[cb],λa=>ze3 N a.1⟩
theorem uU(N:Nat):bB Tryz.prog 18 (vQ N):=tg [] [(58,⟨[.r 26 ci],[],[],[]⟩),(122,⟨[.r 37 ci],[],[],[]⟩)] [] N (.nil) (.nil) (λa=>by kernel_rfl)
def vn(N:Nat):bz:=⟨[.c (.sl 5)],[cb],λa=>zeX N a.1⟩
theorem vK(N:Nat):bB Tryz.prog 19 (vn N):=tg [] [(58,⟨[.r 10 ci],[],[],[]⟩)] [] N (.nil) (.nil) (λa=>by kernel_rfl)
def uV(N:Nat):bz:=⟨[.st 11,.st 19],[cb],λa=>zeW N a.1 a.2.1⟩
theorem vC(N:Nat):bB Tryz.prog 5 (uV N):=tg [] [(6,⟨[.r 40 cb],[],[],[]⟩),(58,⟨[.r 44 ci],[],[],[]⟩)] [] N (.cons (uU N)<|.cons (vK N)<|.nil) (.nil) (λa=>by kernel_rfl)
def vx(N:Nat):bz:=⟨[.c (.sl 10)],[cb],λa=>ze0 N a.1⟩
theorem uW(N:Nat):bB Tryz.prog 6 (vx N):=tg [] [(58,⟨[.r 10 ci],[],[],[]⟩)] [] N (.nil) (.nil) (λa=>by kernel_rfl)
def AJ(N:Nat):bz:=⟨[ci,ci,ci],[cb],λa=>Zj N a.1 a.2.1 a.2.2.1⟩
theorem qC(N:Nat):bB Tryz.prog 83 (AJ N):=tg [] [] [] N (.nil) (.nil) (λa=>by kernel_rfl)
def zi(N:Nat):bz:=⟨[.st 11,.st 19],[cb],λa=>jb N a.1 a.2.1⟩
theorem zg(N:Nat):bB Tryz.prog 38 (zi N):=tg [] [] [] N (.cons (qC N)<|.nil) (.nil) (λa=>by kernel_rfl)
def CI(N:Nat):bz:=⟨[ci],[ci],λa=>mY N a.1⟩
theorem Dc(N:Nat):bB Tryz.prog 85 (CI N):=tg [] [] [] N (.cons (kQ N)<|.nil) (.nil) (λa=>by kernel_rfl)
def Ei(N:Nat):bz:=⟨[.st 11,.st 19],[cb],λa=>qo N a.1 a.2.1⟩
theorem En(N:Nat):bB Tryz.prog 39 (Ei N):=tg [] [(122,⟨[.r 5 ci,.r 17 ci],[],[],[]⟩),(62671,⟨[.r 72 cb],[],[],[]⟩)] [] N (.cons (Zf N)<|.cons (Dc N)<|.nil) (.nil) (λa=>by kernel_rfl)
def AK(N:Nat):bz:=⟨[.st 5,ci],[ci],λa=>gB N a.1 a.2.1⟩
theorem AM(N:Nat):bB Tryz.prog 154 (AK N):=tg [] [] [] N (.nil) (.nil) (λa=>by kernel_rfl)
def zbK(N:Nat):bz:=⟨[.c (.sl 5),ci,.k 154],[ci,cb],λa=>zaB N a.1 a.2.1⟩
theorem zbL(N:Nat):bB Tryz.prog 153 (zbK N):=tg [] [(60,⟨[.r 9 ci,.r 10 ci],[],[],[]⟩)] [] N (.cons (AM N)<|.nil) (.nil) (λa=>by kernel_rfl)
def Es(N:Nat):bz:=⟨[.c (.sl 5),ci],[ci,cb],λa=>lW N a.1 a.2.1⟩
theorem wm(N:Nat):bB Tryz.prog 88 (Es N):=tg [] [] [] N (.cons (zbL N)<|.nil) (.nil) (λa=>by kernel_rfl)
def zk(N:Nat):bz:=⟨[.st 11,.st 19],[cb],λa=>jd N a.1 a.2.1⟩
theorem zD(N:Nat):bB Tryz.prog 40 (zk N):=tg [] [(26,⟨[.r 14 ci],[],[],[]⟩),(211,⟨[],[],[],[]⟩),(27038,⟨[.r 33 ci],[],[],[]⟩)] [] N (.cons (kQ N)<|.cons (kL N)<|.cons (wm N)<|.nil) (.nil) (λa=>by kernel_rfl)
def Dr(N:Nat):bz:=⟨[.c (.sl 6),ci],[cb],λa=>jR N a.1 a.2.1⟩
theorem tX(N:Nat):bB Tryz.prog 100 (Dr N):=tg [] [(58,⟨[.r 5 ci,.r 10 ci],[],[],[]⟩)] [] N (.nil) (.nil) (λa=>by kernel_rfl)
def Cv(N:Nat):bz:=⟨[.c (.sl 6)],[ci],λa=>ni N a.1⟩
theorem Cx(N:Nat):bB Tryz.prog 155 (Cv N):=tg [] [(58,⟨[.r 3 ci,.r 8 ci],[],[],[]⟩)] [] N (.cons (qG N)<|.nil) (.nil) (λa=>by kernel_rfl)
def Cu(N:Nat):bz:=⟨[.st 11,.st 5,.c (.sl 6)],[cb],λa=>mV N a.1 a.2.1 a.2.2.1⟩
theorem BU(N:Nat):bB Tryz.prog 90 (Cu N):=tg [] [(6,⟨[.r 22 cb],[],[],[]⟩),(250,⟨[.r 47 ci],[],[],[]⟩)] [] N (.cons (zd7 N)<|.cons (tX N)<|.cons (Cx N)<|.nil) (.nil) (λa=>by kernel_rfl)
def MM(N:Nat):bz:=⟨[.st 0,.st 0],[.st 0,ci],λa=>Bp N a.1 a.2.1⟩
theorem MG(N:Nat):bB Tryz.prog 103 (MM N):=tg [] [(6,⟨[.r 15 cb],[],[],[]⟩)] [(917522,[.mk [.ag [.cx,.cx]] [] [] [(1000000,0)] [] []]),(917524,[.mk [.ag [.cx,.cx]] [] [] [(1000000,0)] [] []]),(1966112,[.mk [.v (.st 0),.v ci] [] [] [(1000000,1)] [] []])] N (.cons (WK N)<|.nil) (.cons (fE N)<|.cons (zfb N)<|.nil) (λa=>by kernel_rfl)
def jp(N:Nat):cW:=⟨.mk [.p (.pt 0 0 2),.v (.st 7),.p (.k (.c (.fn (.func 103) [] [])))] [] [.cells [xl 0,.mr 1],.mp 7 true] [] [] [],[.mk [.v (.c (.sl 0)),.v ci] [] [] [] [(58,⟨[.r 21 ci,.w 3 0],[(8,3)],[],[]⟩)] [(393233,[.mk [.p (.hd 3)] [] [.row 0] [(1000000,0)] [] []])]],λ(_,a,b)=>zbM N a b⟩
theorem jA(N:Nat):cS Tryz.prog 102 (jp N):=og (g:=102) N (.cons (pN N)<|.cons (MG N)<|.nil) (.cons (zcm N)<|.nil) (by kernel_rfl) (λx=>by kernel_rfl)
def kE(N:Nat):cW:=⟨.mk [.p (.pt 0 0 2),.v (.st 7)] [] [.cells [xl 0,.mr 1],.mp 7 true] [] [] [],[.mk [.v ci] [.h 0 0 (xl 0),.m 1 7 true] [] [] [(14,⟨[.r 41 cb],[],[],[]⟩)] [(4063288,[.mk [.v (.c (.sl 0)),.v ci] [] [] [(1000000,0)] [] []])]],λ(a,b,d)=>zbt N a b d⟩
theorem zei(N:Nat):cS Tryz.prog 49 (kE N):=og (g:=49) N (.cons (vZ N)<|.cons (tX N)<|.cons (WK N)<|.nil) (.cons (jA N)<|.nil) (by kernel_rfl) (λx=>by kernel_rfl)
def sD(N:Nat):bz:=⟨[.st 11,.st 19],[cb],λa=>zel N a.1 a.2.1⟩
theorem ux(N:Nat):bB Tryz.prog 41 (sD N):=tg [] [(250,⟨[.r 7 (.c (.sl 7)),.r 23 ci,.h 2 0 (.sl 0),.m 3 7 true],[],[],[]⟩),(2003,⟨[.r 7 (.c (.sl 7)),.h 2 0 (.sl 0),.m 3 7 true],[],[],[]⟩),(256415,⟨[.r 74 cb,.h 2 0 (.sl 0),.m 3 7 true],[],[],[]⟩)] [(393229,[.mk [.p (.k (.c (.lit (.pointer none)))),.p (.k (.c (.lit (.int .i64 2))))] [] [] [(1000000,0)] [] [],.mk [.p (.pt 2 0 2),.p (.k (.c (.lit (.int .i64 0))))] [] [.cells [xl 0,.mr 3],.mp 7 true] [] [] []]),(33608826952,[.mk [.v ci] [.h 2 0 (xl 0),.m 3 7 true] [] [(1000000,1)] [] []])] N (.cons (mQ N)<|.cons (BU N)<|.nil) (.cons (ze8 N)<|.cons (zei N)<|.nil) (λa=>by kernel_rfl)
def yI(N:Nat):bz:=⟨[.st 11,.st 19],[cb],λa=>gN N a.1 a.2.1⟩
theorem yB(N:Nat):bB Tryz.prog 42 (yI N):=tg [] [(58,⟨[.r 23 ci],[],[],[]⟩),(122,⟨[.r 43 ci],[],[],[]⟩),(125342,⟨[.r 60 ci],[],[],[]⟩)] [] N (.cons (vX N)<|.cons (wm N)<|.cons (jf N)<|.nil) (.nil) (λa=>by kernel_rfl)
def Da(N:Nat):bz:=⟨[.c (.sl 1)],[cb],λa=>na N a.1⟩
theorem BR(N:Nat):bB Tryz.prog 93 (Da N):=tg [] [(26,⟨[.r 7 ci],[],[],[]⟩)] [] N (.nil) (.nil) (λa=>by kernel_rfl)
def CS(N:Nat):bz:=⟨[.st 11,.st 19],[cb],λa=>nz N a.1 a.2.1⟩
theorem DB(N:Nat):bB Tryz.prog 43 (CS N):=tg [] [(6,⟨[.r 18 cb],[],[],[]⟩),(14,⟨[.r 33 cb],[],[],[]⟩),(122,⟨[.r 38 ci],[],[],[]⟩)] [] N (.cons (qC N)<|.cons (BR N)<|.nil) (.nil) (λa=>by kernel_rfl)
def Cj(N:Nat):bz:=⟨[.st 11,.st 19],[cb],λa=>ju N a.1 a.2.1⟩
theorem tl(N:Nat):bB Tryz.prog 13 (Cj N):=tg [] [] [] N (.cons (Wf N)<|.cons (zg N)<|.cons (En N)<|.cons (zD N)<|.cons (ux N)<|.cons (yB N)<|.cons (DB N)<|.nil) (.nil) (λa=>by kernel_rfl)
def wV(N:Nat):cW:=⟨.mk [.v (.st 11)] [] [] [] [] [],[.mk [.p (.k (.c (.lit (.pointer none)))),.p (.k (.c (.lit (.int .i64 2))))] [] [] [(37,1)] [] [(917517,[.mk [.p (.k (.c (.lit (.pointer none)))),.p (.k (.c (.lit (.int .i64 2))))] [] [] [(1000000,0)] [] [],.mk [.p (.pt 1 0 2),.p (.k (.c (.lit (.int .i64 0))))] [] [.cells [xi,xn]] [] [] []]),(4063253,[.mk [.p (.k (.c (.lit (.pointer none)))),.p (.k (.c (.lit (.int .i64 2))))] [] [] [(1000000,1)] [] [],.mk [.p (.pt 2 0 2),.p (.k (.c (.lit (.int .i64 0))))] [] [.cells [xl 0,.mr 3],.mp 7 true] [] [] []])],.mk [.p (.pt 0 0 27),.p (.k (.c (.lit (.int .i64 0))))] [] [.cells [.pt 1 0 2,.pt 2 0 2,xl 0,xl 2,xl 3,xi,xi,xi,xi,xi,xi,xi,xi,xi,xi,xi,xi,xi,xi,xi,xi,xi,xi,xn,xl 1,.hd 3,xi],.cells [xi,xn],.cells [xl 0,.mr 4],.row 1,.mp 7 true] [] [] []],λa=>eT N a⟩
theorem xy(N:Nat):cS Tryz.prog 14 (wV N):=og (g:=14) N (.cons (Wf N)<|.cons (g_ N)<|.cons (yT N)<|.nil) (.cons (ly N)<|.cons (ze8 N)<|.nil) (by kernel_rfl) (λx=>by kernel_rfl)
def zdj(N:Nat):cW:=⟨.mk [.v (.c (.sl 8))] [] [] [] [] [],[.mk [.p (.hd 0)] [] [.row 8] [] [] []],λx=>za0 N x⟩
theorem zdi(N:Nat):cS Tryz.prog 35 (zdj N):=pc (i:=8) (sz:=32) (z:=[.c (.lit (.int .i64 0)),.c (.lit (.int .i64 0)),.c (.lit (.int .i64 0)),.c (.lit (.int .i64 0))]) (fn:=Tryz.f35) dF (by kernel_rfl) (by kernel_rfl) (by kernel_rfl) rfl
def jW(N:Nat):cW:=⟨.mk [.v (.c (.sl 1))] [] [] [] [] [],[.mk [.p (.hd 0)] [] [.row 1] [] [] []],λx=>zbk N x⟩
theorem ke(N:Nat):cS Tryz.prog 36 (jW N):=pc (i:=1) (sz:=8) (z:=[.c (.lit (.int .i64 0))]) (fn:=Tryz.f36) dF (by kernel_rfl) (by kernel_rfl) (by kernel_rfl) rfl
def xQ(N:Nat):cW:=⟨.mk [.v (.st 11),.v (.st 19)] [] [] [] [] [],[.mk [.p (.k (.c (.lit (.pointer none)))),.v ci] [] [] [] [(250,⟨[.r 29 ci,.w 7 5],[],[(1051649,5)],[(3,1,7)]⟩),(506,⟨[.r 46 ci,.h 4 0 (.sl 0),.m 6 7 true],[],[],[]⟩)] [(917524,[.mk [.p (.k (.c (.lit (.pointer none)))),.p (.k (.c (.lit (.int .i64 2))))] [] [] [(1000000,0)] [] [],.mk [.p (.pt 2 0 27),.p (.k (.c (.lit (.int .i64 0))))] [] [.cells [.pt 3 0 2,.pt 4 0 2,xl 0,xl 2,xl 3,xi,xi,xi,xi,xi,xi,xi,xi,xi,xi,xi,xi,xi,xi,xi,xi,xi,xi,xn,xl 1,.hd 5,xi],.cells [xi,xn],.cells [xl 0,.mr 6],.row 1,.mp 7 true] [] [] []]),(33423438,[.mk [.p (.hd 8)] [] [.row 8] [(1000000,3)] [] []]),(66977876,[.mk [.p (.hd 9)] [] [.row 1] [(1000000,4)] [] []]),(134086747,[.mk [.p (.hd 10)] [] [.row 1] [(1000000,4)] [] []]),(2100428838,[.mk [.v ci] [.h 3 1 (.hd 7),.w 7 5] [] [(1000000,1)] [] []]),(4247912503,[.mk [.v ci] [.h 4 0 (xl 0),.m 6 7 true] [] [(1000000,2)] [] []])],.mk [.p (.pt 0 0 27),.p (.k (.c (.lit (.int .i64 0))))] [] [.cells [.pt 1 0 2,.pt 2 0 2,xl 0,xl 2,xl 3,xi,xi,xi,xi,xi,xi,xi,xi,xi,xi,xi,xi,xi,xi,xi,xi,xi,xi,xl 8,xl 1,.hd 3,xi],.cells [xi,.hd 4],.cells [xl 0,.mr 5],.row 1,.row 5,.mp 7 true] [] [] []],λ(a,b)=>zdB N a b⟩
theorem xX(N:Nat):cS Tryz.prog 20 (xQ N):=og (g:=20) N (.cons (tl N)<|.nil) (.cons (xy N)<|.cons (zfh N)<|.cons (zei N)<|.cons (zdi N)<|.cons (ke N)<|.nil) (by kernel_rfl) (λx=>by kernel_rfl)
def wG(N:Nat):bz:=⟨[ci,ci,ci],[cb],λa=>y_ N a.1 a.2.1 a.2.2.1⟩
theorem zdV(N:Nat):bB Tryz.prog 166 (wG N):=tg [] [] [] N (.nil) (.nil) (λa=>by kernel_rfl)
end Go.Abs
end
end
section
set_option maxRecDepth 100000
noncomputable section
namespace Go.Abs
open Go.Proofs
def qW(N:Nat):bz:=⟨[ci],[cb],λa=>zb5 N a.1⟩
theorem qQ(N:Nat):bB Tryz.prog 170 (qW N):=tg [] [] [] N (.nil) (.nil) (λa=>by kernel_rfl)
def qP(N:Nat):bz:=⟨[.st 0],[cb],λa=>QZ N a.1⟩
theorem zbY(N:Nat):bB Tryz.prog 106 (qP N):=tg [] [] [] N (.cons (qQ N)<|.nil) (.nil) (λa=>by kernel_rfl)
def qL(N:Nat):bz:=⟨[.st 11],[cb],λa=>zcI N a.1⟩
theorem rj(N:Nat):bB Tryz.prog 167 (qL N):=tg [] [(26,⟨[.r 3 ci],[],[],[]⟩)] [] N (.cons (zbY N)<|.cons (zdV N)<|.nil) (.nil) (λa=>by kernel_rfl)
def qp(N:Nat):bz:=⟨[.c (.sl 1),ci],[cb],λa=>zcB N a.1 a.2.1⟩
theorem ia(N:Nat):bB Tryz.prog 216 (qp N):=tg [] [(26,⟨[.r 5 ci],[],[],[]⟩),(420,⟨[.r 40 cb],[],[],[]⟩)] [] N (.nil) (.nil) (λa=>by kernel_rfl)
def rH(N:Nat):bz:=⟨[.st 11],[cb],λa=>zcU N a.1⟩
theorem rV(N:Nat):bB Tryz.prog 168 (rH N):=tg [] [(26,⟨[.r 3 ci],[],[],[]⟩),(420,⟨[.r 29 cb],[],[],[]⟩)] [] N (.cons (ia N)<|.cons (zdV N)<|.nil) (.nil) (λa=>by kernel_rfl)
def pX(N:Nat):bz:=⟨[.st 11],[cb],λa=>zcx N a.1⟩
theorem qj(N:Nat):bB Tryz.prog 169 (pX N):=tg [] [(26,⟨[.r 3 ci],[],[],[]⟩),(841,⟨[.r 59 cb],[],[],[]⟩)] [] N (.cons (ia N)<|.cons (zdV N)<|.nil) (.nil) (λa=>by kernel_rfl)
def tI(N:Nat):bz:=⟨[.st 11],[.c .str],λa=>gV N a.1⟩
theorem sP(N:Nat):bB Tryz.prog 104 (tI N):=tg [(28,21),(69,22)] [(7,⟨[.r 4 cb],[],[],[]⟩),(506,⟨[.r 7 ci],[],[],[]⟩)] [] N (.cons (rj N)<|.cons (rV N)<|.cons (zdV N)<|.cons (qj N)<|.nil) (.nil) (λa=>by kernel_rfl)
def rD(N:Nat):bz:=⟨[.st 11],[cb],λa=>zb4 N a.1⟩
theorem iH(N:Nat):bB Tryz.prog 50 (rD N):=tg [] [] [] N (.cons (sP N)<|.nil) (.nil) (λa=>by kernel_rfl)
def rE(N:Nat):bz:=⟨[ci],[cb],λa=>ZP N a.1⟩
theorem iA(N:Nat):bB Tryz.prog 51 (rE N):=tg [] [] [] N (.nil) (.nil) (λa=>by kernel_rfl)
def sI(N:Nat):bz:=⟨[.c (.sl 5),ci],[ci],λa=>Fv N a.1 a.2.1⟩
theorem Ra(N:Nat):bB Tryz.prog 64 (sI N):=tg [] [(26,⟨[.r 5 ci],[],[],[]⟩)] [] N (.nil) (.nil) (λa=>by kernel_rfl)
def rP(N:Nat):bz:=⟨[.c (.sl 6),ci],[cb],λa=>zbD N a.1 a.2.1⟩
theorem iC(N:Nat):bB Tryz.prog 105 (rP N):=tg [] [(26,⟨[.r 5 ci],[],[],[]⟩),(420,⟨[.r 60 cb],[],[],[]⟩)] [] N (.nil) (.nil) (λa=>by kernel_rfl)
def wN(N:Nat):bz:=⟨[.c (.sl 6),ci],[ci],λa=>zeh N a.1 a.2.1⟩
theorem lC(N:Nat):bB Tryz.prog 138 (wN N):=tg [] [(58,⟨[.r 5 ci,.r 6 ci],[],[],[]⟩),(233,⟨[.r 5 ci],[],[],[]⟩)] [] N (.nil) (.nil) (λa=>by kernel_rfl)
def vd(N:Nat):bz:=⟨[.st 0,.st 0],[.st 0],λa=>YW N a.1 a.2.1⟩
theorem ze6(N:Nat):bB Tryz.prog 136 (vd N):=tg [] [] [] N (.nil) (.nil) (λa=>by kernel_rfl)
def qU(N:Nat):bz:=⟨[.st 0,ci],[.st 0],λa=>zcO N a.1 a.2.1⟩
theorem il(N:Nat):bB Tryz.prog 137 (qU N):=tg [] [(58,⟨[.r 6 ci,.h 2 0 (.int .i64),.h 2 1 (.int .i64),.h 2 2 (.int .i64),.h 2 3 (.int .i64)],[],[],[]⟩)] [] N (.cons (ze6 N)<|.nil) (.nil) (λa=>by kernel_rfl)
def tj(N:Nat):bz:=⟨[.st 0,.st 0],[cb],λa=>NM N a.1 a.2.1⟩
theorem zc5(N:Nat):bB Tryz.prog 139 (tj N):=tg [] [] [] N (.nil) (.nil) (λa=>by kernel_rfl)
def u_(N:Nat):bz:=⟨[.st 0,.st 0],[.st 0],λa=>ze1 N a.1 a.2.1⟩
theorem vE(N:Nat):bB Tryz.prog 140 (u_ N):=tg [] [] [] N (.nil) (.nil) (λa=>by kernel_rfl)
def ta(N:Nat):bz:=⟨[.c (.sl 0),.c (.sl 7)],[.c (.sl 0),cb],λa=>Zo N a.1 a.2.1⟩
theorem jE(N:Nat):bB Tryz.prog 71 (ta N):=tg [(55,0)] [(122,⟨[.r 7 cb,.r 8 ci,.w 0 0],[(6,0)],[(6,0)],[]⟩),(7827,⟨[.r 7 cb],[],[],[]⟩),(31306,⟨[.r 10 ci,.h 1 0 (.int .i64),.h 1 1 (.int .i64),.h 1 2 (.int .i64),.h 1 3 (.int .i64)],[],[],[]⟩)] [] N (.cons (lC N)<|.cons (il N)<|.cons (ze6 N)<|.cons (vE N)<|.cons (zc5 N)<|.nil) (.nil) (λa=>by kernel_rfl)
def pL(N:Nat):bz:=⟨[.st 11,.st 19],[cb],λa=>zdq N a.1 a.2.1⟩
theorem pM(N:Nat):bB Tryz.prog 52 (pL N):=tg [] [(26,⟨[.r 5 ci],[],[],[]⟩),(841,⟨[.r 57 cb],[],[],[]⟩)] [] N (.cons (Ra N)<|.cons (iC N)<|.cons (zbY N)<|.cons (jE N)<|.nil) (.nil) (λa=>by kernel_rfl)
def qV(N:Nat):bz:=⟨[.st 19,ci,ci],[cb],λa=>zb3 N a.1 a.2.1 a.2.2.1⟩
theorem iF(N:Nat):bB Tryz.prog 107 (qV N):=tg [] [(26,⟨[.r 7 ci],[],[],[]⟩),(841,⟨[.r 54 cb],[],[],[]⟩)] [] N (.cons (Ra N)<|.cons (lC N)<|.nil) (.nil) (λa=>by kernel_rfl)
def vH(N:Nat):bz:=⟨[.st 8,ci],[cb],λa=>zeV N a.1 a.2.1⟩
theorem vS(N:Nat):bB Tryz.prog 171 (vH N):=tg [] [] [] N (.cons (iA N)<|.nil) (.nil) (λa=>by kernel_rfl)
def rG(N:Nat):bz:=⟨[.c (.sl 8),ci,ci,ci],[cb],λa=>zcP N a.1 a.2.1 a.2.2.1 a.2.2.2.1⟩
theorem iq(N:Nat):bB Tryz.prog 141 (rG N):=tg [] [(26,⟨[.r 9 ci],[],[],[]⟩)] [] N (.nil) (.nil) (λa=>by kernel_rfl)
def rp(N:Nat):bz:=⟨[.c (.sl 8),ci],[cb],λa=>zdY N a.1 a.2.1⟩
theorem rf(N:Nat):bB Tryz.prog 108 (rp N):=tg [] [(26,⟨[.r 5 ci],[],[],[]⟩),(3366,⟨[.r 6 ci],[],[],[]⟩),(53860,⟨[.r 58 cb],[],[],[]⟩)] [] N (.cons (vS N)<|.cons (iq N)<|.nil) (.nil) (λa=>by kernel_rfl)
def qK(N:Nat):bz:=⟨[.st 11,.st 19],[cb],λa=>zdK N a.1 a.2.1⟩
theorem rL(N:Nat):bB Tryz.prog 53 (qK N):=tg [] [(26,⟨[.r 5 ci],[],[],[]⟩),(841,⟨[.r 38 cb],[],[],[]⟩)] [] N (.cons (iF N)<|.cons (rf N)<|.nil) (.nil) (λa=>by kernel_rfl)
def vJ(N:Nat):bz:=⟨[.c (.sl 1),ci],[cb],λa=>zeU N a.1 a.2.1⟩
theorem uY(N:Nat):bB Tryz.prog 54 (vJ N):=tg [] [(26,⟨[.r 5 ci],[],[],[]⟩),(420,⟨[.r 23 cb],[],[],[]⟩)] [] N (.nil) (.nil) (λa=>by kernel_rfl)
def xE(N:Nat):bz:=⟨[ci,ci,ci],[cb],λa=>Ox N a.1 a.2.1 a.2.2.1⟩
theorem xD(N:Nat):bB Tryz.prog 172 (xE N):=tg [] [] [] N (.nil) (.nil) (λa=>by kernel_rfl)
def rT(N:Nat):bz:=⟨[.st 5],[cb],λa=>Vo N a.1⟩
theorem zbs(N:Nat):bB Tryz.prog 109 (rT N):=tg [] [(14,⟨[.r 61 cb],[],[],[]⟩),(26,⟨[.r 3 ci],[],[],[]⟩),(30,⟨[.r 85 cb],[],[],[]⟩),(62,⟨[.r 101 cb],[],[],[]⟩),(126,⟨[.r 119 cb],[],[],[]⟩)] [] N (.cons (xD N)<|.cons (zbY N)<|.cons (zc5 N)<|.nil) (.nil) (λa=>by kernel_rfl)
def tK(N:Nat):bz:=⟨[.c (.sl 7),ci],[ci],λa=>zdg N a.1 a.2.1⟩
theorem jH(N:Nat):bB Tryz.prog 110 (tK N):=tg [] [(26,⟨[.r 5 ci],[],[],[]⟩)] [] N (.nil) (.nil) (λa=>by kernel_rfl)
def vw(N:Nat):bz:=⟨[.st 5],[cb],λa=>ZZ N a.1⟩
theorem kw(N:Nat):bB Tryz.prog 111 (vw N):=tg [] [] [] N (.nil) (.nil) (λa=>by kernel_rfl)
def rc(N:Nat):bz:=⟨[.st 0,.st 0],[ci],λa=>zcJ N a.1 a.2.1⟩
theorem rY(N:Nat):bB Tryz.prog 217 (rc N):=tg [] [(6,⟨[.r 19 cb],[],[],[]⟩),(124,⟨[.r 5 ci,.h 2 0 (.int .i64),.h 2 1 (.int .i64),.h 2 2 (.int .i64),.h 2 3 (.int .i64)],[],[],[]⟩),(496,⟨[.r 27 cb],[],[],[]⟩)] [] N (.cons (ze6 N)<|.cons (zc5 N)<|.cons (zbY N)<|.nil) (.nil) (λa=>by kernel_rfl)
def sK(N:Nat):bz:=⟨[.st 11,ci,.st 0],[ci],λa=>gq N a.1 a.2.1 a.2.2.1⟩
theorem sN(N:Nat):bB Tryz.prog 173 (sK N):=tg [] [(122,⟨[.r 7 ci,.r 8 ci],[],[],[]⟩)] [] N (.cons (rY N)<|.nil) (.nil) (λa=>by kernel_rfl)
def tY(N:Nat):bz:=⟨[.st 11,ci,ci,.st 0],[cb],λa=>XL N a.1 a.2.1 a.2.2.1 a.2.2.2.1⟩
theorem zc7(N:Nat):bB Tryz.prog 112 (tY N):=tg [] [] [] N (.cons (sN N)<|.nil) (.nil) (λa=>by kernel_rfl)
def rX(N:Nat):bz:=⟨[.c (.sl 6)],[ci],λa=>zdQ N a.1⟩
theorem rJ(N:Nat):bB Tryz.prog 174 (rX N):=tg [] [(58,⟨[.r 3 ci,.r 4 ci],[],[],[]⟩),(233,⟨[.r 3 ci],[],[],[]⟩)] [] N (.nil) (.nil) (λa=>by kernel_rfl)
def vg(N:Nat):bz:=⟨[.c (.sl 1),ci],[cb],λa=>zdz N a.1 a.2.1⟩
theorem km(N:Nat):bB Tryz.prog 175 (vg N):=tg [] [(26,⟨[.r 5 ci],[],[],[]⟩)] [] N (.nil) (.nil) (λa=>by kernel_rfl)
def sR(N:Nat):bz:=⟨[.st 11,.st 5,.c (.sl 6)],[cb],λa=>zej N a.1 a.2.1 a.2.2.1⟩
theorem tM(N:Nat):bB Tryz.prog 113 (sR N):=tg [] [(6,⟨[.r 34 cb],[],[],[]⟩),(122,⟨[.r 8 ci],[],[],[]⟩)] [] N (.cons (km N)<|.cons (iC N)<|.cons (rJ N)<|.nil) (.nil) (λa=>by kernel_rfl)
def vo(N:Nat):bz:=⟨[.st 11,.st 19,.st 5],[cb],λa=>zeY N a.1 a.2.1 a.2.2.1⟩
theorem vG(N:Nat):bB Tryz.prog 55 (vo N):=tg [] [(15,⟨[.r 7 ci],[],[],[]⟩),(31,⟨[.r 7 ci],[],[],[]⟩),(63,⟨[.r 7 ci],[],[],[]⟩),(510,⟨[.r 83 cb],[],[],[]⟩),(8186,⟨[.r 9 ci],[],[],[]⟩)] [] N (.cons (zbs N)<|.cons (jH N)<|.cons (Ra N)<|.cons (zc7 N)<|.cons (kw N)<|.cons (tM N)<|.nil) (.nil) (λa=>by kernel_rfl)
def qY(N:Nat):bz:=⟨[.st 11,.st 19],[cb],λa=>zcN N a.1 a.2.1⟩
theorem rz(N:Nat):bB Tryz.prog 21 (qY N):=tg [] [(6,⟨[.r 43 cb],[],[],[]⟩),(14,⟨[.r 86 cb],[],[],[]⟩),(122,⟨[.r 5 ci],[],[],[]⟩),(250,⟨[.r 6 ci],[],[],[]⟩),(4004,⟨[.r 138 cb],[],[],[]⟩)] [] N (.cons (iA N)<|.cons (vG N)<|.cons (pM N)<|.cons (rL N)<|.cons (uY N)<|.cons (iH N)<|.nil) (.nil) (λa=>by kernel_rfl)
def sY(N:Nat):bz:=⟨[.st 5,.st 5],[cb],λa=>zep N a.1 a.2.1⟩
theorem tr(N:Nat):bB Tryz.prog 75 (sY N):=tg [] [(58,⟨[.r 5 ci],[],[],[]⟩)] [] N (.nil) (.nil) (λa=>by kernel_rfl)
def sB(N:Nat):bz:=⟨[.c (.sl 5),.c (.sl 5)],[cb],λa=>zes N a.1 a.2.1⟩
theorem sC(N:Nat):bB Tryz.prog 30 (sB N):=tg [] [(58,⟨[.r 5 ci],[],[],[]⟩)] [] N (.cons (tr N)<|.nil) (.nil) (λa=>by kernel_rfl)
def uw(N:Nat):bz:=⟨[.c (.sl 6),.c (.sl 6)],[cb],λa=>zeq N a.1 a.2.1⟩
theorem sO(N:Nat):bB Tryz.prog 76 (uw N):=tg [] [(58,⟨[.r 5 ci],[],[],[]⟩)] [] N (.nil) (.nil) (λa=>by kernel_rfl)
def uv(N:Nat):bz:=⟨[.c (.sl 7),.c (.sl 7)],[cb],λa=>zev N a.1 a.2.1⟩
theorem tZ(N:Nat):bB Tryz.prog 31 (uv N):=tg [] [(58,⟨[.r 5 ci],[],[],[]⟩),(932,⟨[.r 54 cb],[],[],[]⟩)] [] N (.cons (sO N)<|.nil) (.nil) (λa=>by kernel_rfl)
def tQ(N:Nat):bz:=⟨[.c (.sl 8),.c (.sl 8)],[cb],λa=>zeu N a.1 a.2.1⟩
theorem sJ(N:Nat):bB Tryz.prog 32 (tQ N):=tg [] [(58,⟨[.r 5 ci],[],[],[]⟩)] [] N (.nil) (.nil) (λa=>by kernel_rfl)
def sW(N:Nat):bz:=⟨[.st 19,.st 19],[cb],λa=>Vx N a.1 a.2.1⟩
theorem jz(N:Nat):bB Tryz.prog 11 (sW N):=tg [] [] [] N (.cons (sC N)<|.cons (tZ N)<|.cons (sJ N)<|.cons (zeI N)<|.nil) (.nil) (λa=>by kernel_rfl)
def nU(N:Nat):cW:=⟨.mk [.v (.st 11),.v (.st 19)] [] [] [] [] [],[.mk [.p (.k (.c (.lit (.pointer none)))),.v cb] [] [] [] [] [(393227,[.mk [.p (.k (.c (.lit (.pointer none)))),.v ci] [] [] [(1000000,0)] [] [],.mk [.p (.pt 2 0 27),.p (.k (.c (.lit (.int .i64 0))))] [] [.cells [.pt 3 0 2,.pt 4 0 2,xl 0,xl 2,xl 3,xi,xi,xi,xi,xi,xi,xi,xi,xi,xi,xi,xi,xi,xi,xi,xi,xi,xi,xl 8,xl 1,.hd 5,xi],.cells [xi,.hd 6],.cells [xl 0,.mr 7],.row 1,.row 5,.mp 7 true] [] [] []]),(1966113,[.mk [.v (.st 19)] [] [] [(1000000,1)] [] []])],.mk [.p (.pt 0 0 27),.v cb] [] [.cells [.pt 1 0 2,.pt 2 0 2,xl 0,xl 2,xl 3,xi,xi,xi,xi,xi,xi,xi,xi,xi,xi,xi,xi,xi,xi,xi,xi,xi,xi,xl 8,xl 1,.hd 3,xi],.cells [xi,.hd 4],.cells [xl 0,.mr 5],.row 1,.row 5,.mp 7 true] [] [] []],λ(a,b)=>zbx N a b⟩
theorem nP(N:Nat):cS Tryz.prog 7 (nU N):=og (g:=7) N (.cons (rz N)<|.cons (jz N)<|.nil) (.cons (xX N)<|.cons (Zy N)<|.nil) (by kernel_rfl) (λx=>by kernel_rfl)
def oU(N:Nat):bz:=⟨[.st 11,ci,ci],[cb],λa=>zcf N a.1 a.2.1 a.2.2.1⟩
theorem fR(N:Nat):bB Tryz.prog 121 (oU N):=tg [] [] [] N (.cons (km N)<|.nil) (.nil) (λa=>by kernel_rfl)
def qu(N:Nat):bz:=⟨[.st 17],[ci],λa=>zcv N a.1⟩
theorem gY(N:Nat):bB Tryz.prog 122 (qu N):=tg [] [(6,⟨[.r 32 cb],[],[],[]⟩)] [] N (.cons (il N)<|.cons (zbY N)<|.cons (zc5 N)<|.nil) (.nil) (λa=>by kernel_rfl)
def rW(N:Nat):bz:=⟨[.c (.sl 5),ci,.st 23,ci],[ci],λa=>zdS N a.1 a.2.1 a.2.2.1 a.2.2.2.1⟩
theorem rQ(N:Nat):bB Tryz.prog 196 (rW N):=tg [] [(58,⟨[.r 9 ci,.r 10 ci],[],[],[]⟩),(233,⟨[.r 9 ci],[],[],[]⟩),(1865,⟨[.r 49 cb],[],[],[]⟩)] [] N (.nil) (.nil) (λa=>by kernel_rfl)
def sT(N:Nat):bz:=⟨[.st 11,.c (.sl 5),ci,ci],[cb],λa=>zbU N a.1 a.2.1 a.2.2.1 a.2.2.2.1⟩
theorem zeF(N:Nat):bB Tryz.prog 123 (sT N):=tg [] [] [] N (.cons (rQ N)<|.nil) (.nil) (λa=>by kernel_rfl)
def rK(N:Nat):bz:=⟨[.st 11,.st 19,.st 10],[ci],λa=>zdU N a.1 a.2.1 a.2.2.1⟩
theorem rI(N:Nat):bB Tryz.prog 61 (rK N):=tg [] [(4090,⟨[.r 9 ci],[],[],[]⟩)] [] N (.cons (fR N)<|.cons (gY N)<|.cons (Ra N)<|.cons (zc7 N)<|.cons (zeF N)<|.nil) (.nil) (λa=>by kernel_rfl)
def vI(N:Nat):bz:=⟨[ci,ci,ci,.st 17],[.st 5],λa=>ze2 N a.1 a.2.1 a.2.2.1 a.2.2.2.1⟩
theorem vq(N:Nat):bB Tryz.prog 62 (vI N):=tg [(23,4)] [] [] N (.nil) (.nil) (λa=>by kernel_rfl)
def uT(N:Nat):bz:=⟨[.c (.sl 5),ci,.st 5],[.c (.sl 5),ci],λa=>ze5 N a.1 a.2.1 a.2.2.1⟩
theorem uZ(N:Nat):bB Tryz.prog 124 (uT N):=tg [(48,5)] [(252,⟨[.r 8 ci],[],[],[]⟩),(1008,⟨[.r 38 cb],[],[],[]⟩)] [] N (.cons (zbs N)<|.cons (Ra N)<|.nil) (.nil) (λa=>by kernel_rfl)
def lr(N:Nat):cW:=⟨.mk [.v (.st 19)] [] [] [] [] [],[.mk [.ag [xi,xi,xi,.hd 0,.hd 1,.hd 2,.hd 3,.hd 4,xi]] [] [.row 5,.row 7,.row 8,.row 1,.row 1] [(5,5),(10,7),(15,8),(20,1),(25,1)] [] []],λa=>YY N a⟩
theorem zcF(N:Nat):cS Tryz.prog 129 (lr N):=og (g:=129) N (.nil) (.nil) (by kernel_rfl) (λx=>by kernel_rfl)
def xo(N:Nat):bz:=⟨[ci],[ci],λa=>zda N a.1⟩
theorem fH(N:Nat):bB Tryz.prog 135 (xo N):=tg [] [] [] N (.nil) (.nil) (λa=>by kernel_rfl)
def rC(N:Nat):bz:=⟨[.st 19,ci],[.st 19],λa=>zdL N a.1 a.2.1⟩
theorem rZ(N:Nat):bB Tryz.prog 125 (rC N):=tg [] [(7,⟨[.w 6 1],[],[],[(7,7,6)]⟩)] [(393223,[.mk [.ag [xi,xi,xi,.hd 2,.hd 3,.hd 4,.hd 5,.hd 6,xi]] [] [.row 5,.row 7,.row 8,.row 1,.row 1] [(1000000,0)] [] []])] N (.cons (fH N)<|.nil) (.cons (zcF N)<|.nil) (λa=>by kernel_rfl)
def vR(N:Nat):bz:=⟨[.st 11,.st 19,.st 5],[.st 19,ci],λa=>zb8 N a.1 a.2.1 a.2.2.1⟩
theorem uX(N:Nat):bB Tryz.prog 63 (vR N):=tg [] [] [] N (.cons (zbs N)<|.cons (uZ N)<|.cons (rZ N)<|.nil) (.nil) (λa=>by kernel_rfl)
def xw(N:Nat):bz:=⟨[.st 11,.st 19,.st 10],[.st 19,.st 15],λa=>eQ N a.1 a.2.1 a.2.2.1⟩
theorem xC(N:Nat):bB Tryz.prog 25 (xw N):=tg [(60,1)] [(506,⟨[.r 11 ci,.h 1 0 (.int .i64),.h 1 1 (.int .i64),.h 1 2 (.int .i64),.h 1 3 (.sl 5),.h 1 4 (.sl 7),.h 1 5 (.sl 8),.h 1 6 (.sl 1),.h 1 7 (.sl 1),.h 1 8 (.int .i64)],[],[],[]⟩),(16201,⟨[.h 6 17 (.int .i64)],[],[],[]⟩)] [] N (.cons (rI N)<|.cons (vq N)<|.cons (uX N)<|.nil) (.nil) (λa=>by kernel_rfl)
def sy(N:Nat):bz:=⟨[ci],[ci],λa=>zdh N a.1⟩
theorem jC(N:Nat):bB Tryz.prog 128 (sy N):=tg [] [] [] N (.nil) (.nil) (λa=>by kernel_rfl)
def sU(N:Nat):bz:=⟨[ci,ci],[ci],λa=>zbV N a.1 a.2.1⟩
theorem zeJ(N:Nat):bB Tryz.prog 197 (sU N):=tg [] [(3,⟨[],[],[],[]⟩)] [] N (.nil) (.nil) (λa=>by kernel_rfl)
def qM(N:Nat):bz:=⟨[.st 11,.st 5,ci,.st 17],[ci],λa=>zdO N a.1 a.2.1 a.2.2.1 a.2.2.2.1⟩
theorem qX(N:Nat):bB Tryz.prog 126 (qM N):=tg [] [(6,⟨[.r 37 cb],[],[],[]⟩),(62,⟨[.r 77 cb],[],[],[]⟩),(63,⟨[],[],[],[]⟩)] [] N (.cons (gY N)<|.cons (zc7 N)<|.cons (jC N)<|.cons (zeJ N)<|.cons (iH N)<|.cons (zbs N)<|.nil) (.nil) (λa=>by kernel_rfl)
def t_(N:Nat):bz:=⟨[.st 5,ci,ci,cb],[.st 5],λa=>Z_ N a.1 a.2.1 a.2.2.1 a.2.2.2.1⟩
theorem jF(N:Nat):bB Tryz.prog 127 (t_ N):=tg [] [(31,⟨[.h 0 15 (.int .i64)],[],[],[]⟩),(63,⟨[.h 0 15 (.int .i64)],[],[],[]⟩),(127,⟨[.h 0 11 (.bool)],[],[],[]⟩),(255,⟨[.h 0 11 (.bool),.h 0 12 (.bool)],[],[],[]⟩),(511,⟨[.h 0 11 (.bool),.h 0 12 (.bool)],[],[],[]⟩),(1023,⟨[.h 0 11 (.bool)],[],[],[]⟩),(2047,⟨[.h 0 16 (.int .i64)],[],[],[]⟩)] [] N (.cons (zeJ N)<|.nil) (.nil) (λa=>by kernel_rfl)
def xr(N:Nat):bz:=⟨[.st 11,.st 5,ci,.st 10],[.st 5,.st 15],λa=>eX N a.1 a.2.1 a.2.2.1 a.2.2.2.1⟩
theorem xc(N:Nat):bB Tryz.prog 65 (xr N):=tg [] [(15,⟨[.r 11 ci],[],[],[]⟩),(127,⟨[.h 6 0 (.int .i64),.h 6 1 (.int .i64),.h 6 2 (.int .i64),.h 6 3 (.int .i64),.h 6 4 (.int .i64),.h 6 5 (.int .i64),.h 6 6 (.int .i64),.h 6 7 (.int .i64),.h 6 8 (.int .i64),.h 6 9 (.sl 4),.h 6 10 (.int .i64),.h 6 11 (.bool),.h 6 12 (.bool),.h 6 13 (.int .i64),.h 6 14 (.int .i64),.h 6 15 (.int .i64),.h 6 16 (.int .i64),.h 6 17 (.int .i64)],[],[],[]⟩)] [] N (.cons (jC N)<|.cons (jF N)<|.cons (qX N)<|.nil) (.nil) (λa=>by kernel_rfl)
def lR(N:Nat):cW:=⟨.mk [.ag [xi,xi,xi,.hd 0,.hd 1,.hd 2,.hd 3,.hd 4,xi]] [] [.row 5,.row 7,.row 8,.row 1,.row 1] [] [] [],[.mk [.ag [xi,xi,xi,.hd 5,.hd 6,.hd 7,.hd 8,.hd 9,xi]] [] [.row 5,.row 7,.row 8,.row 1,.row 1] [(5,5),(10,7),(15,8),(20,1),(25,1)] [] []],λ(a,b,d,e,f,g,h,i,j)=>zdy N a b d e f g h i j⟩
theorem lG(N:Nat):cS Tryz.prog 129 (lR N):=og (g:=129) N (.nil) (.nil) (by kernel_rfl) (λx=>by kernel_rfl)
end Go.Abs
end
end
section
set_option maxRecDepth 100000
noncomputable section
namespace Go.Abs
open Go.Proofs
def k_(N:Nat):cW:=⟨.mk [.ag [xi,xi,xi,.hd 0,.hd 1,.hd 2,.hd 3,.hd 4,xi],.v ci] [] [.row 5,.row 7,.row 8,.row 1,.row 1] [] [] [],[.mk [.ag [xi,xi,xi,.hd 5,.hd 6,.hd 7,.hd 8,.hd 9,xi]] [] [.row 5,.row 7,.row 8,.row 1,.row 1] [] [(7,⟨[.w 11 1],[],[],[(12,7,11)]⟩)] [(393223,[.mk [.ag [xi,xi,xi,.hd 7,.hd 8,.hd 9,.hd 10,.hd 11,xi]] [] [.row 5,.row 7,.row 8,.row 1,.row 1] [(1000000,0)] [] []])]],λ(a,b,d,e,f,g,h,i,j,k)=>zbu N a b d e f g h i j k⟩
theorem ky(N:Nat):cS Tryz.prog 125 (k_ N):=og (g:=125) N (.cons (fH N)<|.nil) (.cons (lG N)<|.nil) (by kernel_rfl) (λx=>by kernel_rfl)
def pT(N:Nat):bz:=⟨[.st 19,.st 5],[.st 19],λa=>ZN N a.1 a.2.1⟩
theorem zdJ(N:Nat):bB Tryz.prog 66 (pT N):=tg [] [] [(393225,[.mk [.ag [xi,xi,xi,.hd 3,.hd 4,.hd 5,.hd 6,.hd 7,xi]] [] [.row 5,.row 7,.row 8,.row 1,.row 1] [(1000000,0)] [] []]),(8257564,[.mk [.ag [xi,xi,xi,.hd 10,.hd 11,.hd 12,.hd 13,.hd 14,xi]] [] [.row 5,.row 7,.row 8,.row 1,.row 1] [(1000000,1)] [] []]),(66715685,[.mk [.ag [xi,xi,xi,.hd 15,.hd 16,.hd 17,.hd 18,.hd 19,xi]] [] [.row 5,.row 7,.row 8,.row 1,.row 1] [(1000000,1)] [] []])] N (.cons (Ra N)<|.nil) (.cons (zcF N)<|.cons (ky N)<|.nil) (λa=>by kernel_rfl)
def vU(N:Nat):bz:=⟨[.st 11,.st 19,.st 10],[.st 19,.st 15],λa=>zeT N a.1 a.2.1 a.2.2.1⟩
theorem vA(N:Nat):bB Tryz.prog 26 (vU N):=tg [] [] [] N (.cons (Ra N)<|.cons (xc N)<|.cons (zdJ N)<|.nil) (.nil) (λa=>by kernel_rfl)
def ue(N:Nat):bz:=⟨[.st 11,.st 19,.st 5,ci],[ci],λa=>zem N a.1 a.2.1 a.2.2.1 a.2.2.2.1⟩
theorem tU(N:Nat):bB Tryz.prog 130 (ue N):=tg [] [(62,⟨[.r 43 cb],[],[],[]⟩)] [] N (.cons (fR N)<|.cons (zc7 N)<|.cons (zeF N)<|.nil) (.nil) (λa=>by kernel_rfl)
def pu(N:Nat):bz:=⟨[.st 11,.st 19,.st 5],[ci],λa=>zc3 N a.1 a.2.1 a.2.2.1⟩
theorem o_(N:Nat):bB Tryz.prog 131 (pu N):=tg [] [] [] N (.cons (zeF N)<|.nil) (.nil) (λa=>by kernel_rfl)
def rM(N:Nat):bz:=⟨[.st 11,.st 19,.st 10],[ci],λa=>zdT N a.1 a.2.1 a.2.2.1⟩
theorem rN(N:Nat):bB Tryz.prog 67 (rM N):=tg [] [(1023,⟨[.r 10 ci],[],[],[]⟩)] [] N (.cons (Ra N)<|.cons (tU N)<|.cons (o_ N)<|.nil) (.nil) (λa=>by kernel_rfl)
def qO(N:Nat):bz:=⟨[.st 5],[cb],λa=>zdN N a.1⟩
theorem qN(N:Nat):bB Tryz.prog 132 (qO N):=tg [] [] [] N (.nil) (.nil) (λa=>by kernel_rfl)
def ui(N:Nat):bz:=⟨[.st 19,.st 5],[.st 19,ci],λa=>zew N a.1 a.2.1⟩
theorem tb(N:Nat):bB Tryz.prog 68 (ui N):=tg [] [(62,⟨[.r 30 cb],[],[],[]⟩)] [] N (.cons (Ra N)<|.cons (zbs N)<|.cons (zdJ N)<|.cons (qN N)<|.nil) (.nil) (λa=>by kernel_rfl)
def vL(N:Nat):bz:=⟨[.st 5,ci,ci],[ci],λa=>iX N a.1 a.2.1 a.2.2.1⟩
theorem vj(N:Nat):bB Tryz.prog 133 (vL N):=tg [] [] [] N (.cons (zbs N)<|.cons (zeJ N)<|.nil) (.nil) (λa=>by kernel_rfl)
def sk(N:Nat):bz:=⟨[.c (.sl 7),ci],[.c (.sl 7),ci],λa=>zey N a.1 a.2.1⟩
theorem ur(N:Nat):bB Tryz.prog 134 (sk N):=tg [] [] [] N (.cons (jH N)<|.nil) (.nil) (λa=>by kernel_rfl)
def tE(N:Nat):bz:=⟨[.st 19,ci,ci,cb],[.st 19,ci],λa=>zeo N a.1 a.2.1 a.2.2.1 a.2.2.2.1⟩
theorem uo(N:Nat):bB Tryz.prog 69 (tE N):=tg [] [(511,⟨[.h 3 4 (.sl 7),.h 3 8 (.int .i64)],[],[],[]⟩),(1022,⟨[.r 62 cb],[],[],[]⟩)] [] N (.cons (Ra N)<|.cons (vj N)<|.cons (jF N)<|.cons (zdJ N)<|.cons (ur N)<|.cons (fH N)<|.cons (kw N)<|.nil) (.nil) (λa=>by kernel_rfl)
def wI(N:Nat):bz:=⟨[.st 11,.st 19,.st 10],[.st 19,.st 15],λa=>eR N a.1 a.2.1 a.2.2.1⟩
theorem wW(N:Nat):bB Tryz.prog 27 (wI N):=tg [] [(127,⟨[.h 7 0 (.int .i64),.h 7 1 (.int .i64),.h 7 2 (.int .i64),.h 7 3 (.sl 5),.h 7 4 (.sl 7),.h 7 5 (.sl 8),.h 7 6 (.sl 1),.h 7 7 (.sl 1),.h 7 8 (.int .i64)],[],[],[]⟩)] [] N (.cons (rN N)<|.cons (Ra N)<|.cons (tb N)<|.cons (uo N)<|.nil) (.nil) (λa=>by kernel_rfl)
def px(N:Nat):bz:=⟨[ci,ci],[.st 15],λa=>zc4 N a.1 a.2.1⟩
theorem po(N:Nat):bB Tryz.prog 70 (px N):=tg [] [] [] N (.nil) (.nil) (λa=>by kernel_rfl)
def xp(N:Nat):bz:=⟨[.st 11,.st 19,.st 17],[.st 15],λa=>fh N a.1 a.2.1 a.2.2.1⟩
theorem wD(N:Nat):bB Tryz.prog 28 (xp N):=tg [(49,1),(67,1),(159,1),(167,1),(175,1),(183,1)] [(13786,⟨[.r 10 ci,.w 4 1],[(9,4)],[],[]⟩),(55145,⟨[.w 4 1],[(9,4)],[],[]⟩),(55258,⟨[.r 15 ci,.w 4 1],[(14,4)],[(14,1)],[]⟩),(441161,⟨[.w 4 1],[(9,4)],[],[]⟩),(882323,⟨[.w 4 1],[(9,4)],[],[]⟩),(1764647,⟨[.r 126 cb],[],[],[]⟩)] [] N (.cons (Ra N)<|.cons (po N)<|.cons (jE N)<|.nil) (.nil) (λa=>by kernel_rfl)
def q_(N:Nat):bz:=⟨[.st 11,.st 19,.st 10],[ci],λa=>fD N a.1 a.2.1 a.2.2.1⟩
theorem rl(N:Nat):bB Tryz.prog 72 (q_ N):=tg [] [] [] N (.nil) (.nil) (λa=>by kernel_rfl)
def th(N:Nat):bz:=⟨[.st 19],[.st 19],λa=>zen N a.1⟩
theorem uf(N:Nat):bB Tryz.prog 129 (th N):=tg [(5,5),(10,7),(15,8),(20,1),(25,1)] [] [] N (.nil) (.nil) (λa=>by kernel_rfl)
def oL(N:Nat):bz:=⟨[.st 11,.st 19,.st 24],[.st 19,ci,ci],λa=>zc6 N a.1 a.2.1 a.2.2.1⟩
theorem oX(N:Nat):bB Tryz.prog 73 (oL N):=tg [(80,8)] [(14,⟨[.r 40 cb],[],[],[]⟩),(62,⟨[.r 66 cb],[],[],[]⟩)] [(8257605,[.mk [.ag [xi,xi,xi,.hd 4,.hd 5,.hd 6,.hd 7,.hd 8,xi]] [] [.row 5,.row 7,.row 8,.row 1,.row 1] [(1000000,0)] [] []])] N (.cons (iq N)<|.cons (iF N)<|.nil) (.cons (zcF N)<|.nil) (λa=>by kernel_rfl)
def ud(N:Nat):bz:=⟨[.c (.sl 8),ci],[.c (.sl 8),cb],λa=>zcn N a.1 a.2.1⟩
theorem sX(N:Nat):bB Tryz.prog 142 (ud N):=tg [] [(26,⟨[.r 6 ci],[],[],[]⟩)] [] N (.nil) (.nil) (λa=>by kernel_rfl)
def mE(N:Nat):bz:=⟨[.st 19,ci],[.st 19,ci],λa=>zdH N a.1 a.2.1⟩
theorem mu(N:Nat):bB Tryz.prog 74 (mE N):=tg [] [] [] N (.cons (sX N)<|.cons (uf N)<|.nil) (.nil) (λa=>by kernel_rfl)
def wy(N:Nat):bz:=⟨[.st 11,.st 19,.st 10],[.st 19,.st 15],λa=>eS N a.1 a.2.1 a.2.2.1⟩
theorem xk(N:Nat):bB Tryz.prog 29 (wy N):=tg [] [(63,⟨[.r 9 ci,.r 10 ci,.h 6 0 (.int .i64),.h 6 1 (.int .i64),.h 6 2 (.int .i64),.h 6 3 (.sl 5),.h 6 4 (.sl 7),.h 6 5 (.sl 8),.h 6 6 (.sl 1),.h 6 7 (.sl 1),.h 6 8 (.int .i64)],[],[],[]⟩),(127,⟨[.r 9 ci,.h 6 0 (.int .i64),.h 6 1 (.int .i64),.h 6 2 (.int .i64),.h 6 3 (.sl 5),.h 6 4 (.sl 7),.h 6 5 (.sl 8),.h 6 6 (.sl 1),.h 6 7 (.sl 1),.h 6 8 (.int .i64)],[],[],[]⟩)] [] N (.cons (rl N)<|.cons (mu N)<|.cons (oX N)<|.nil) (.nil) (λa=>by kernel_rfl)
def wS(N:Nat):bz:=⟨[.st 11,.st 19,.st 10],[.st 19,.st 15],λa=>eU N a.1 a.2.1 a.2.2.1⟩
theorem wz(N:Nat):bB Tryz.prog 9 (wS N):=tg [] [] [] N (.cons (xC N)<|.cons (vA N)<|.cons (wW N)<|.cons (wD N)<|.cons (xk N)<|.nil) (.nil) (λa=>by kernel_rfl)
def n_(N:Nat):bz:=⟨[.st 9,.c (.sl 10)],[cb],λa=>zeb N a.1 a.2.1⟩
theorem nH(N:Nat):bB Tryz.prog 3 (n_ N):=tg [] [(14,⟨[.r 26 cb],[],[],[]⟩),(1018,⟨[.r 52 ci,.h 1 21 (.int .i64),.h 1 22 (.int .i64),.h 1 23 (.sl 8),.h 1 26 (.int .i64),.h 3 0 (.sl 0),.h 7 0 (.int .i64),.h 7 1 (.int .i64),.h 7 2 (.int .i64),.h 7 3 (.sl 5),.h 7 4 (.sl 7),.h 7 5 (.sl 8),.h 7 6 (.sl 1),.h 7 7 (.sl 1),.h 7 8 (.int .i64),.w 4 1,.w 5 5,.m 6 7 true],[],[],[(1,25,4),(2,1,5)]⟩),(521422,⟨[.r 84 cb],[],[],[]⟩),(2085693,⟨[.r 104 cb],[],[],[]⟩)] [(1966112,[.mk [.p (.k (.c (.lit (.pointer none)))),.v cb] [] [] [(1000000,0)] [] [],.mk [.p (.pt 1 0 27),.v cb] [] [.cells [.pt 2 0 2,.pt 3 0 2,xl 0,xl 2,xl 3,xi,xi,xi,xi,xi,xi,xi,xi,xi,xi,xi,xi,xi,xi,xi,xi,xi,xi,xl 8,xl 1,.hd 4,xi],.cells [xi,.hd 5],.cells [xl 0,.mr 6],.row 1,.row 5,.mp 7 true] [] [] []]),(32768044,[.mk [.v (.st 15)] [] [] [(1000000,1)] [] []]),(8542879802,[.mk [.v (.st 15)] [.h 1 22 (xi),.h 1 23 (xl 8),.h 1 25 (.hd 4),.h 1 26 (xi),.h 2 1 (.hd 5),.h 3 0 (xl 0),.w 4 1,.w 5 5,.m 6 7 true,.h 1 21 (xi)] [] [(1000000,2)] [] []]),(68343824457,[.mk [.v (.st 19)] [] [] [(1000000,3)] [] []])] N (.cons (rA N)<|.cons (wz N)<|.cons (jz N)<|.cons (jx N)<|.cons (tl N)<|.cons (vC N)<|.cons (uW N)<|.nil) (.cons (nP N)<|.cons (pd N)<|.cons (oO N)<|.cons (Zy N)<|.nil) (λa=>by kernel_rfl)
end Go.Abs
end
end
section
end
