/- The code computes these functions. -/
import Derived.Test.YtdfbphphacpkdaaGreatTyPure
import Derived.Test.YtdfbphphacpkdaaGreatProg
import Derived.Test.YtdfbphphacpkdaaGreatTyPrim
import Derived.KernelRfl
set_option linter.all false
section
set_option maxRecDepth 100000
noncomputable section
namespace Go.Abs
open Go.Proofs
variable[Gl]
abbrev ci:cI:=.c (.int .i64)
abbrev cb:cI:=.c .bool
abbrev xi:CP:=.c (.int .i64)
abbrev xb:CP:=.c .bool
abbrev xl(n:Nat):CP:=.c (.sl n)
abbrev xn:CP:=.k (.c (.lit (.slice none 0 0)))
theorem cW:Tryz.prog.follows .mixedOrders=true:=by kernel_rfl
def KB:cJ:=FW 138 202 1 (λk=>k)
theorem ZQ:cJ.ok Tryz.prog KB:=MG Tryz.Ps (λk=>rfl)
theorem tg{g:Nat}{S:pL}{s:aX}(H:List (Nat×Nat))(J:List (Nat×JH))(C:List (Nat×List CT))(N:Nat)(b:ed Tryz.prog S){O:Kl}(d:rF Tryz.prog O)(h:∀a,tG Tryz.prog g S O KB H J C s.ins s.out N a=s.f a):bj Tryz.prog g s:=tG_ok cW b d ZQ h
theorem og{g:Nat}{S:pL}{O:Kl}{s:dA}(N:Nat)(a:ed Tryz.prog S)(b:rF Tryz.prog O)(d:aN Tryz.prog g=true)(h:∀x,oG Tryz.prog g S O KB N s x=s.f x):cZ Tryz.prog g s:=oG_ok cW a b ZQ d h
end Go.Abs
end
end
section
set_option maxRecDepth 100000
noncomputable section
namespace Go.Abs
open Go.Proofs
variable[Gl]
def qE(N:Nat):aX:=⟨[],[.st 10],λa=>e_ N⟩
theorem qk(N:Nat):bj Tryz.prog 39 (qE N):=clo_ok (P:=Tryz.prog) (g:=39) (out:=[.st 10]) (λa=>e_ N) cW (by kernel_rfl)
def BO(N:Nat):aX:=⟨[.st 0],[.st 11],λa=>ft N a.1⟩
theorem sB(N:Nat):bj Tryz.prog 217 (BO N):=tg [] [] [] N (.nil) (.nil) (λa=>by kernel_rfl)
def Fy(N:Nat):aX:=⟨[.st 0],[cb],λa=>Lw N a.1⟩
theorem Wj(N:Nat):bj Tryz.prog 165 (Fy N):=tg [] [(26,⟨[.r 7 ci],[],[],[]⟩)] [] N (.cons (sB N)<|.nil) (.nil) (λa=>by kernel_rfl)
def vl(N:Nat):aX:=⟨[.st 10],[cb],λa=>eK N a.1⟩
theorem vd(N:Nat):bj Tryz.prog 245 (vl N):=tg [] [(58,⟨[.r 18 ci],[],[],[]⟩)] [] N (.cons (Wj N)<|.nil) (.nil) (λa=>by kernel_rfl)
def wM(N:Nat):aX:=⟨[.c (.sl 1),ci],[cb],λa=>zem N a.1 a.2.1⟩
theorem my(N:Nat):bj Tryz.prog 275 (wM N):=tg [] [(58,⟨[.r 5 ci,.r 10 ci],[],[],[]⟩)] [] N (.nil) (.nil) (λa=>by kernel_rfl)
def vu(N:Nat):aX:=⟨[.st 10],[cb],λa=>eJ N a.1⟩
theorem vR(N:Nat):bj Tryz.prog 247 (vu N):=tg [] [(58,⟨[.r 18 ci],[],[],[]⟩),(3737,⟨[.r 32 cb],[],[],[]⟩)] [] N (.cons (my N)<|.nil) (.nil) (λa=>by kernel_rfl)
def tP(N:Nat):aX:=⟨[.st 10],[cb],λa=>zeu N a.1⟩
theorem tV(N:Nat):bj Tryz.prog 250 (tP N):=tg [] [(58,⟨[.r 20 ci],[],[],[]⟩),(7474,⟨[.r 42 cb],[],[],[]⟩),(59802,⟨[.r 50 ci],[],[],[]⟩)] [] N (.cons (my N)<|.nil) (.nil) (λa=>by kernel_rfl)
def sF(N:Nat):aX:=⟨[.st 12],[cb],λa=>zdX N a.1⟩
theorem r_(N:Nat):bj Tryz.prog 252 (sF N):=tg [] [(26,⟨[.r 14 ci],[],[],[]⟩)] [] N (.nil) (.nil) (λa=>by kernel_rfl)
def Fs(N:Nat):aX:=⟨[.st 10],[.c .str],λa=>yf N a.1⟩
theorem GY(N:Nat):bj Tryz.prog 128 (Fs N):=tg [] [(26,⟨[],[],[(1000003,40)],[]⟩)] [(786438,[.mk [] [] [] [(1000002,0),(43,1000001)] [] [(393225,[.mk [] [] [] [(1000002,0)] [] []]),(393232,[.mk [] [] [] [(1000002,0)] [] []]),(393237,[.mk [] [] [] [(1000002,0)] [] []]),(393240,[.mk [] [] [] [(1000002,0)] [] []]),(393243,[.mk [] [] [] [(1000002,0)] [] []]),(393246,[.mk [] [] [] [(1000002,0)] [] []]),(393249,[.mk [] [] [] [(1000002,0)] [] []]),(393252,[.mk [] [] [] [(1000002,0)] [] []]),(393255,[.mk [] [] [] [(1000002,0)] [] []]),(393258,[.mk [] [] [] [(1000002,0)] [] []])]]),(221380622,[.mk [.v cb] [] [] [] [] []])] N (.cons (vd N)<|.cons (vR N)<|.cons (tV N)<|.cons (r_ N)<|.nil) (.nil) (λa=>by kernel_rfl)
def CQ(N:Nat):aX:=⟨[.st 10],[cb],λa=>Nv N a.1⟩
theorem V_(N:Nat):bj Tryz.prog 61 (CQ N):=tg [] [] [] N (.cons (GY N)<|.nil) (.nil) (λa=>by kernel_rfl)
def vJ(N:Nat):dA:=⟨.mk [.v ci] [] [] [] [] [],[.mk [.p (.k (.c (.lit (.pointer none)))),.p (.k (.c (.lit (.int .i64 2))))] [] [] [] [] [],.mk [.p (.pt 0 0 2),.p (.k (.c (.lit (.int .i64 0))))] [] [.cells [xi,xn]] [] [] []],λa=>zdR N a⟩
theorem lA(N:Nat):cZ Tryz.prog 94 (vJ N):=og (g:=94) N (.nil) (.nil) (by kernel_rfl) (λx=>by kernel_rfl)
def fK(N:Nat):aX:=⟨[.c (.sl 0)],[.c (.sl 0)],λa=>zaS N a.1⟩
theorem zcI(N:Nat):bj Tryz.prog 160 (fK N):=qN (i:=0) (sz:=32) (z:=[.c (.lit (.int .i64 0)),.c (.lit (.int .i64 0)),.c (.lit (.int .i64 0)),.c (.lit (.int .i64 0))]) (fn:=Tryz.f160) cW (by kernel_rfl) (by kernel_rfl) (by kernel_rfl) rfl
def uq(N:Nat):dA:=⟨.mk [.v (.st 10)] [] [] [] [] [],[.mk [.p (.k (.c (.lit (.pointer none)))),.p (.k (.c (.lit (.int .i64 2))))] [] [] [(10,15)] [] [],.mk [.p (.pt 0 0 2),.p (.k (.c (.lit (.int .i64 0))))] [] [.cells [xl 0,.mr 1],.mp 7 true] [] [] []],λa=>zcn N a⟩
theorem zeE(N:Nat):cZ Tryz.prog 95 (uq N):=og (g:=95) N (.cons (V_ N)<|.cons (zcI N)<|.nil) (.nil) (by kernel_rfl) (λx=>by kernel_rfl)
def gZ(N:Nat):dA:=⟨.mk [.v (.c (.sl 2))] [] [] [] [] [],[.mk [.p (.hd 0)] [] [.row 2] [] [] []],λx=>zcm N x⟩
theorem ie(N:Nat):cZ Tryz.prog 161 (gZ N):=ko (i:=2) (sz:=24) (z:=[.c (.lit (.slice none 0 0))]) (fn:=Tryz.f161) cW (by kernel_rfl) (by kernel_rfl) (by kernel_rfl) rfl
def nE(N:Nat):aX:=⟨[.c (.sl 1)],[.c (.sl 1)],λa=>ZG N a.1⟩
theorem zcR(N:Nat):bj Tryz.prog 71 (nE N):=qN (i:=1) (sz:=8) (z:=[.c (.lit (.int .i64 0))]) (fn:=Tryz.f71) cW (by kernel_rfl) (by kernel_rfl) (by kernel_rfl) rfl
def zdE(N:Nat):dA:=⟨.mk [.v (.c (.sl 3))] [] [] [] [] [],[.mk [.p (.hd 0)] [] [.row 3] [] [] []],λx=>za7 N x⟩
theorem zdD(N:Nat):cZ Tryz.prog 162 (zdE N):=ko (i:=3) (sz:=64) (z:=[.c (.lit (.int .i64 0)),.c (.lit (.slice none 0 0)),.c (.lit (.int .i64 0)),.c (.lit (.int .i64 0)),.c (.lit (.int .i64 0)),.c (.lit (.int .i64 0))]) (fn:=Tryz.f162) cW (by kernel_rfl) (by kernel_rfl) (by kernel_rfl) rfl
def xB(N:Nat):aX:=⟨[.st 10],[.st 10],λa=>zcE N a.1⟩
theorem gp(N:Nat):bj Tryz.prog 96 (xB N):=tg [] [(122,⟨[.r 16 ci,.w 2 2],[],[],[(0,1,2)]⟩),(506,⟨[.r 37 ci,.w 3 3],[],[],[(0,2,3)]⟩)] [(917515,[.mk [.p (.hd 2)] [] [.row 2] [(1000000,0)] [] []]),(4063264,[.mk [.p (.hd 3)] [] [.row 3] [(1000000,1)] [] []])] N (.cons (zcI N)<|.cons (zcR N)<|.nil) (.cons (ie N)<|.cons (zdD N)<|.nil) (λa=>by kernel_rfl)
def zr(N:Nat):aX:=⟨[ci,ci,ci],[ci],λa=>zc0 N a.1 a.2.1 a.2.2.1⟩
theorem eO(N:Nat):bj Tryz.prog 163 (zr N):=tg [] [] [] N (.nil) (.nil) (λa=>by kernel_rfl)
def FN(N:Nat):aX:=⟨[ci],[.c (.sl 1)],λa=>oa N a.1⟩
theorem wW(N:Nat):bj Tryz.prog 97 (FN N):=tg [(5,1)] [] [] N (.cons (eO N)<|.nil) (.nil) (λa=>by kernel_rfl)
def vH(N:Nat):dA:=⟨.mk [.v (.st 10)] [] [] [] [] [],[.mk [.p (.k (.c (.lit (.pointer none)))),.p (.k (.c (.lit (.int .i64 2))))] [] [] [(37,1)] [(3298534883343,⟨[],[],[(1049601,5)],[]⟩)] [(917517,[.mk [.p (.k (.c (.lit (.pointer none)))),.p (.k (.c (.lit (.int .i64 2))))] [] [] [(1000000,0)] [] [],.mk [.p (.pt 1 0 2),.p (.k (.c (.lit (.int .i64 0))))] [] [.cells [xi,xn]] [] [] []]),(4063253,[.mk [.p (.k (.c (.lit (.pointer none)))),.p (.k (.c (.lit (.int .i64 2))))] [] [] [(1000000,1)] [] [],.mk [.p (.pt 3 0 2),.p (.k (.c (.lit (.int .i64 0))))] [] [.cells [xl 0,.mr 4],.mp 7 true] [] [] []])],.mk [.p (.pt 0 0 27),.p (.k (.c (.lit (.int .i64 0))))] [] [.cells [.pt 1 0 2,.pt 2 0 2,xl 0,xl 2,xl 3,xi,xi,xi,xi,xi,xi,xi,xi,xi,xi,xi,xi,xi,xi,xi,xi,xi,xi,xl 8,xl 1,.hd 3,xi],.cells [xi,.hd 4],.cells [xl 0,.mr 5],.row 1,.row 5,.mp 7 true] [] [] []],λa=>pD N a⟩
theorem vj(N:Nat):cZ Tryz.prog 38 (vH N):=og (g:=38) N (.cons (V_ N)<|.cons (gp N)<|.cons (wW N)<|.nil) (.cons (lA N)<|.cons (zeE N)<|.nil) (by kernel_rfl) (λx=>by kernel_rfl)
def mW(N:Nat):dA:=⟨.mk [.p (.k (.c (.lit (.pointer none)))),.v (.st 5)] [] [] [] [] [],[.mk [.v ci] [] [] [] [] []],λx=>zcs N⟩
theorem nB(N:Nat):cZ Tryz.prog 40 (mW N):=og (g:=40) N (.nil) (.nil) (by kernel_rfl) (λx=>by kernel_rfl)
def lU(N:Nat):dA:=⟨.mk [.p (.k (.c (.lit (.pointer none)))),.ag [xi,xi,xi,xi,xi,xi,xi,xi,xi,.hd 0,xi,xb,xb,xi,xi,xi,xi,xi]] [] [.row 4] [] [] [],[.mk [.v ci] [] [] [] [] []],λx=>zcs N⟩
theorem lQ(N:Nat):cZ Tryz.prog 40 (lU N):=og (g:=40) N (.nil) (.nil) (by kernel_rfl) (λx=>by kernel_rfl)
def rk(N:Nat):dA:=⟨.mk [.p (.k (.c (.lit (.pointer none))))] [] [] [] [] [],[.mk [.v (.c (.sl 5))] [] [] [] [] []],λx=>ma N⟩
theorem sO(N:Nat):cZ Tryz.prog 28 (rk N):=og (g:=28) N (.nil) (.nil) (by kernel_rfl) (λx=>by kernel_rfl)
def Df(N:Nat):aX:=⟨[ci,ci,ci],[cb],λa=>Om N a.1 a.2.1 a.2.2.1⟩
theorem uI(N:Nat):bj Tryz.prog 164 (Df N):=tg [] [] [] N (.nil) (.nil) (λa=>by kernel_rfl)
def wP(N:Nat):aX:=⟨[.st 5],[cb],λa=>gJ N a.1⟩
theorem wh(N:Nat):bj Tryz.prog 166 (wP N):=tg [] [(58,⟨[.r 12 ci],[],[],[]⟩)] [] N (.cons (uI N)<|.nil) (.nil) (λa=>by kernel_rfl)
def Gq(N:Nat):aX:=⟨[ci],[.c .str],λa=>tw N a.1⟩
theorem GO(N:Nat):bj Tryz.prog 218 (Gq N):=tg [] [] [] N (.nil) (.nil) (λa=>by kernel_rfl)
def CZ(N:Nat):aX:=⟨[ci],[cb],λa=>vL N a.1⟩
theorem Ct(N:Nat):bj Tryz.prog 219 (CZ N):=tg [] [] [] N (.nil) (.nil) (λa=>by kernel_rfl)
def FI(N:Nat):aX:=⟨[ci],[cb],λa=>fx N a.1⟩
theorem jV(N:Nat):bj Tryz.prog 131 (FI N):=tg [] [] [] N (.nil) (.nil) (λa=>by kernel_rfl)
def wU(N:Nat):aX:=⟨[.st 5],[cb],λa=>fY N a.1⟩
theorem wH(N:Nat):bj Tryz.prog 167 (wU N):=tg [] [(51,⟨[.r 8 cb],[],[],[]⟩),(207,⟨[.r 17 cb],[],[],[]⟩)] [] N (.cons (GO N)<|.cons (jV N)<|.cons (Ct N)<|.nil) (.nil) (λa=>by kernel_rfl)
def Fe(N:Nat):aX:=⟨[.st 5],[cb],λa=>Wh N a.1⟩
theorem zeJ(N:Nat):bj Tryz.prog 98 (Fe N):=tg [] [] [] N (.cons (uI N)<|.cons (Wj N)<|.cons (wh N)<|.cons (wH N)<|.nil) (.nil) (λa=>by kernel_rfl)
def gB(N:Nat):aX:=⟨[.c (.sl 4)],[.c (.sl 4)],λa=>zbc N a.1⟩
theorem zcH(N:Nat):bj Tryz.prog 155 (gB N):=qN (i:=4) (sz:=16) (z:=[.c (.lit (.int .i64 0)),.c (.lit (.bool false))]) (fn:=Tryz.f155) cW (by kernel_rfl) (by kernel_rfl) (by kernel_rfl) rfl
def GU(N:Nat):aX:=⟨[.st 5],[.st 5],λa=>kh N a.1⟩
theorem pu(N:Nat):bj Tryz.prog 137 (GU N):=tg [] [] [] N (.cons (zcH N)<|.nil) (.nil) (λa=>by kernel_rfl)
def lR(N:Nat):dA:=⟨.mk [.p (.pt 0 0 2),.v ci] [] [.cells [xi,.hd 1],.row 5] [] [] [],[.mk [.v ci,.v cb] [] [] [] [] [(393229,[.mk [.v ci] [] [] [] [(28,⟨[.r 5 ci,.r 6 ci],[],[],[]⟩)] [(59375636,[.mk [.v cb] [] [] [] [] []])]])]],λ(a,b,_)=>Yq N a b⟩
theorem zcF(N:Nat):cZ Tryz.prog 168 (lR N):=og (g:=168) N (.nil) (.nil) (by kernel_rfl) (λx=>by kernel_rfl)
def zdP(N:Nat):dA:=⟨.mk [.p (.hd 0),.v ci,.p (.hd 1)] [] [.row 5,.row 5] [] [] [],[.mk [.p (.hd 0)] [.w 0 5] [] [] [] []],λ(a,b,d)=>zaM N a b d⟩
theorem zbI(N:Nat):cZ Tryz.prog 169 (zdP N):=og (g:=169) N (.nil) (.nil) (by kernel_rfl) (λx=>by kernel_rfl)
def nz(N:Nat):dA:=⟨.mk [.p (.pt 0 0 2),.v (.st 5)] [] [.cells [xi,.hd 1],.row 5] [] [] [],[.mk [.v ci] [.h 0 1 (.hd 1),.w 1 5] [] [(38,5)] [] [(1966096,[.mk [.v ci,.v cb] [] [] [(1000000,0)] [] []]),(16646183,[.mk [.p (.hd 1)] [.w 1 5] [] [(1000000,1)] [] []])]],λ(a,b,d)=>zbJ N a b d⟩
theorem zeI(N:Nat):cZ Tryz.prog 99 (nz N):=og (g:=99) N (.cons (zeJ N)<|.cons (pu N)<|.nil) (.cons (zcF N)<|.cons (zbI N)<|.nil) (by kernel_rfl) (λx=>by kernel_rfl)
def AV(N:Nat):aX:=⟨[ci],[ci],λa=>yT N a.1⟩
theorem AK(N:Nat):bj Tryz.prog 125 (AV N):=tg [] [] [] N (.nil) (.nil) (λa=>by kernel_rfl)
def ld(N:Nat):dA:=⟨.mk [.p (.pt 0 0 27),.v ci] [] [.cells [.pt 1 0 2,.pt 2 0 2,xl 0,xl 2,xl 3,xi,xi,xi,xi,xi,xi,xi,xi,xi,xi,xi,xi,xi,xi,xi,xi,xi,xi,xl 8,xl 1,.hd 3,xi],.cells [xi,.hd 4],.cells [xl 0,.mr 5],.row 1,.row 5,.mp 7 true] [] [] [],[.mk [] [.w 3 1,.h 0 25 (.hd 3)] [] [] [] []],λ(a,_,_,b,_,_,_,_,_,_,_,_,_,_,_,_,_,_,_,_,_,_,_,_,_,_,_,_,_,_)=>zdd N a b⟩
theorem zd8(N:Nat):cZ Tryz.prog 100 (ld N):=og (g:=100) N (.cons (AK N)<|.nil) (.nil) (by kernel_rfl) (λx=>by kernel_rfl)
def nh(N:Nat):dA:=⟨.mk [.p (.pt 0 0 27),.v (.st 5)] [] [.cells [.pt 1 0 2,.pt 2 0 2,xl 0,xl 2,xl 3,xi,xi,xi,xi,xi,xi,xi,xi,xi,xi,xi,xi,xi,xi,xi,xi,xi,xi,xl 8,xl 1,.hd 3,xi],.cells [xi,.hd 4],.cells [xl 0,.mr 5],.row 1,.row 5,.mp 7 true] [] [] [],[.mk [.v ci] [.h 1 1 (.hd 4),.w 4 5,.h 0 21 (xi),.h 0 25 (.hd 3),.w 3 1] [] [] [] [(8126509,[.mk [.v ci] [.h 1 1 (.hd 4),.w 4 5] [] [(1000000,0)] [] []]),(16646203,[.mk [] [.w 3 1,.h 0 25 (.hd 3)] [] [(1000000,1)] [] []])]],λ(e,f,_,g,_,_,_,_,_,_,_,_,_,_,_,a,_,_,_,_,_,_,_,b,_,_,_,_,d,_)=>gM N e f g a b d⟩
theorem nl(N:Nat):cZ Tryz.prog 40 (nh N):=og (g:=40) N (.cons (zeJ N)<|.nil) (.cons (zeI N)<|.cons (zd8 N)<|.nil) (by kernel_rfl) (λx=>by kernel_rfl)
def zey(N:Nat):dA:=⟨.mk [.p (.hd 0)] [] [.row 4] [] [] [],[.mk [.p (.hd 1)] [] [.row 4] [] [] []],λx=>zcG N x⟩
theorem zeH(N:Nat):cZ Tryz.prog 155 (zey N):=BJ (ii:=4) (sz:=16) (z:=[.c (.lit (.int .i64 0)),.c (.lit (.bool false))]) (fn:=Tryz.f155) cW (by kernel_rfl) (by kernel_rfl) (by kernel_rfl) rfl
def vA(N:Nat):dA:=⟨.mk [.ag [xi,xi,xi,xi,xi,xi,xi,xi,xi,.hd 0,xi,xb,xb,xi,xi,xi,xi,xi]] [] [.row 4] [] [] [],[.mk [.v (.st 5)] [] [] [] [] [(393221,[.mk [.p (.hd 3)] [] [.row 4] [(1000000,0)] [] []])]],λ(j,k,l,m,n,o,p,q,r,s,a,b,d,e,f,g,h,i)=>pH N j k l m n o p q r s a b d e f g h i⟩
theorem vO(N:Nat):cZ Tryz.prog 137 (vA N):=og (g:=137) N (.nil) (.cons (zeH N)<|.nil) (by kernel_rfl) (λx=>by kernel_rfl)
def nf(N:Nat):dA:=⟨.mk [.p (.pt 0 0 2),.ag [xi,xi,xi,xi,xi,xi,xi,xi,xi,.hd 1,xi,xb,xb,xi,xi,xi,xi,xi]] [] [.cells [xi,.hd 2],.row 4,.row 5] [] [] [],[.mk [.v ci] [.h 0 1 (.hd 2),.w 2 5] [] [(38,5)] [] [(1966096,[.mk [.v ci,.v cb] [] [] [(1000000,0)] [] []]),(16646181,[.mk [.v (.st 5)] [] [] [(1000000,1)] [] []]),(16646183,[.mk [.p (.hd 2)] [.w 2 5] [] [(1000000,2)] [] []])]],λ(l,m,n,o,p,q,r,s,t,u,a,b,d,e,f,g,h,i,j,k)=>gN N l m n o p q r s t u a b d e f g h i j k⟩
theorem nr(N:Nat):cZ Tryz.prog 99 (nf N):=og (g:=99) N (.cons (zeJ N)<|.nil) (.cons (zcF N)<|.cons (vO N)<|.cons (zbI N)<|.nil) (by kernel_rfl) (λx=>by kernel_rfl)
def np(N:Nat):dA:=⟨.mk [.p (.pt 0 0 27),.ag [xi,xi,xi,xi,xi,xi,xi,xi,xi,.hd 1,xi,xb,xb,xi,xi,xi,xi,xi]] [] [.cells [.pt 2 0 2,.pt 3 0 2,xl 0,xl 2,xl 3,xi,xi,xi,xi,xi,xi,xi,xi,xi,xi,xi,xi,xi,xi,xi,xi,xi,xi,xl 8,xl 1,.hd 4,xi],.row 4,.cells [xi,.hd 5],.cells [xl 0,.mr 6],.row 1,.row 5,.mp 7 true] [] [] [],[.mk [.v ci] [.h 2 1 (.hd 5),.w 5 5,.h 0 21 (xi),.h 0 25 (.hd 4),.w 4 1] [] [] [] [(8126509,[.mk [.v ci] [.h 2 1 (.hd 5),.w 5 5] [] [(1000000,0)] [] []]),(16646203,[.mk [] [.w 4 1,.h 0 25 (.hd 4)] [] [(1000000,1)] [] []])]],λ(p,q,r,_,s,t,u,v,w,x,a,b,d,e,f,g,h,i,j,k,l,_,_,_,_,_,_,_,_,_,_,_,m,_,_,_,_,_,_,_,n,_,_,_,_,o,_)=>gT N p q r s t u v w x a b d e f g h i j k l m n o⟩
theorem nD(N:Nat):cZ Tryz.prog 40 (np N):=og (g:=40) N (.cons (zeJ N)<|.nil) (.cons (nr N)<|.cons (zd8 N)<|.nil) (by kernel_rfl) (λx=>by kernel_rfl)
def zeC(N:Nat):dA:=⟨.mk [.p (.hd 0)] [] [.row 5] [] [] [],[.mk [.p (.hd 1)] [] [.row 5] [] [] []],λx=>zbt N x⟩
theorem zeD(N:Nat):cZ Tryz.prog 136 (zeC N):=BJ (ii:=5) (sz:=152) (z:=[.c (.lit (.int .i64 0)),.c (.lit (.int .i64 0)),.c (.lit (.int .i64 0)),.c (.lit (.int .i64 0)),.c (.lit (.int .i64 0)),.c (.lit (.int .i64 0)),.c (.lit (.int .i64 0)),.c (.lit (.int .i64 0)),.c (.lit (.int .i64 0)),.c (.lit (.slice none 0 0)),.c (.lit (.int .i64 0)),.c (.lit (.bool false)),.c (.lit (.bool false)),.c (.lit (.int .i64 0)),.c (.lit (.int .i64 0)),.c (.lit (.int .i64 0)),.c (.lit (.int .i64 0)),.c (.lit (.int .i64 0))]) (fn:=Tryz.f136) cW (by kernel_rfl) (by kernel_rfl) (by kernel_rfl) rfl
def nq(N:Nat):dA:=⟨.mk [.p (.pt 0 0 2)] [] [.cells [xi,.hd 1],.row 5] [] [] [],[.mk [.v (.c (.sl 5))] [] [] [] [(122,⟨[.r 15 ci,.w 2 5],[(3,2),(13,2)],[],[]⟩)] [(917516,[.mk [.p (.hd 2)] [] [.row 5] [(1000000,0)] [] []])]],λ(a,_)=>zcv N a⟩
theorem mR(N:Nat):cZ Tryz.prog 68 (nq N):=og (g:=68) N (.cons (pu N)<|.nil) (.cons (zeD N)<|.nil) (by kernel_rfl) (λx=>by kernel_rfl)
def zeg(N:Nat):aX:=⟨[.c (.sl 6)],[.c (.sl 6)],λa=>zbl N a.1⟩
theorem zel(N:Nat):bj Tryz.prog 203 (zeg N):=qN (i:=6) (sz:=16) (z:=[.c (.lit (.int .i64 0)),.c (.lit (.int .i64 0))]) (fn:=Tryz.f203) cW (by kernel_rfl) (by kernel_rfl) (by kernel_rfl) rfl
def Db(N:Nat):aX:=⟨[.st 7],[.st 7],λa=>hY N a.1⟩
theorem uz(N:Nat):bj Tryz.prog 140 (Db N):=tg [] [] [] N (.cons (zel N)<|.nil) (.nil) (λa=>by kernel_rfl)
def lL(N:Nat):dA:=⟨.mk [.p (.pt 0 0 2)] [] [.cells [xl 0,.mr 1],.mp 7 true] [] [] [],[.mk [.v (.c (.sl 7))] [] [] [(27,7)] [(122,⟨[.r 15 ci,.w 3 7],[(3,3)],[(3,7)],[]⟩)] [(3932172,[.mk [] [] [] [(1000002,0)] [] []]),(3932173,[.mk [.v (.c (.sl 1))] [] [] [(1000000,999999)] [] []])]],λ(a,_)=>za3 N a⟩
theorem li(N:Nat):cZ Tryz.prog 69 (lL N):=og (g:=69) N (.cons (uz N)<|.nil) (.nil) (by kernel_rfl) (λx=>by kernel_rfl)
def zdA(N:Nat):aX:=⟨[.c (.sl 8)],[.c (.sl 8)],λa=>zaH N a.1⟩
theorem zdC(N:Nat):bj Tryz.prog 70 (zdA N):=qN (i:=8) (sz:=32) (z:=[.c (.lit (.int .i64 0)),.c (.lit (.int .i64 0)),.c (.lit (.int .i64 0)),.c (.lit (.int .i64 0))]) (fn:=Tryz.f70) cW (by kernel_rfl) (by kernel_rfl) (by kernel_rfl) rfl
def jO(N:Nat):dA:=⟨.mk [.p (.hd 0)] [] [.row 1] [] [] [],[.mk [.p (.hd 1)] [] [.row 1] [] [] []],λx=>zbK N x⟩
theorem jT(N:Nat):cZ Tryz.prog 71 (jO N):=BJ (ii:=1) (sz:=8) (z:=[.c (.lit (.int .i64 0))]) (fn:=Tryz.f71) cW (by kernel_rfl) (by kernel_rfl) (by kernel_rfl) rfl
def lG(N:Nat):dA:=⟨.mk [.p (.pt 0 0 27)] [] [.cells [.pt 1 0 2,.pt 2 0 2,xl 0,xl 2,xl 3,xi,xi,xi,xi,xi,xi,xi,xi,xi,xi,xi,xi,xi,xi,xi,xi,xi,xi,xl 8,xl 1,.hd 3,xi],.cells [xi,.hd 4],.cells [xl 0,.mr 5],.row 1,.row 5,.mp 7 true] [] [] [],[.mk [.v (.st 14)] [] [] [] [] [(917526,[.mk [.v (.c (.sl 5))] [] [] [(1000000,0)] [] []]),(917531,[.mk [.v (.c (.sl 7))] [] [] [(1000000,1)] [] []]),(917547,[.mk [.p (.hd 7)] [] [.row 1] [(1000000,2)] [] []])]],λ(h,i,j,_,_,_,_,_,_,_,_,_,_,_,_,_,_,_,_,_,_,a,b,d,e,f,g,_,_)=>Zf N h i j a b d e f g⟩
theorem zbz(N:Nat):cZ Tryz.prog 22 (lG N):=og (g:=22) N (.cons (zdC N)<|.cons (zcR N)<|.nil) (.cons (mR N)<|.cons (li N)<|.cons (jT N)<|.nil) (by kernel_rfl) (λx=>by kernel_rfl)
def EK(N:Nat):aX:=⟨[ci,.c (.sl 5)],[.st 5,cb],λa=>Ei N a.1 a.2.1⟩
theorem FT(N:Nat):bj Tryz.prog 207 (EK N):=tg [] [(26,⟨[.r 9 ci],[],[],[]⟩)] [] N (.nil) (.nil) (λa=>by kernel_rfl)
end Go.Abs
end
end
section
set_option maxRecDepth 100000
noncomputable section
namespace Go.Abs
open Go.Proofs
variable[Gl]
def Jb(N:Nat):aX:=⟨[.st 4,.st 5],[cb],λa=>HK N a.1 a.2.1⟩
theorem Jd(N:Nat):bj Tryz.prog 208 (Jb N):=tg [] [] [] N (.cons (jV N)<|.nil) (.nil) (λa=>by kernel_rfl)
def IV(N:Nat):aX:=⟨[.st 5,.c (.sl 5)],[cb],λa=>BT N a.1 a.2.1⟩
theorem HY(N:Nat):bj Tryz.prog 152 (IV N):=tg [] [(26,⟨[.r 12 ci],[],[],[]⟩),(3379,⟨[.r 30 cb],[],[],[]⟩)] [] N (.cons (FT N)<|.cons (Jd N)<|.nil) (.nil) (λa=>by kernel_rfl)
def yI(N:Nat):aX:=⟨[.c (.sl 5)],[.c (.sl 5)],λa=>m_ N a.1⟩
theorem n_(N:Nat):SM Tryz.prog 151 (yI N):=Xz (i:=5) (gm:=152) (so:=10) (ti:=3) (tb:=4) (z:=[.c (.lit (.int .i64 0)),.c (.lit (.int .i64 0)),.c (.lit (.int .i64 0)),.c (.lit (.int .i64 0)),.c (.lit (.int .i64 0)),.c (.lit (.int .i64 0)),.c (.lit (.int .i64 0)),.c (.lit (.int .i64 0)),.c (.lit (.int .i64 0)),.c (.lit (.slice none 0 0)),.c (.lit (.int .i64 0)),.c (.lit (.bool false)),.c (.lit (.bool false)),.c (.lit (.int .i64 0)),.c (.lit (.int .i64 0)),.c (.lit (.int .i64 0)),.c (.lit (.int .i64 0)),.c (.lit (.int .i64 0))]) (fn:=Tryz.f151) (st:=λ(a:a_)=>a.State) (met:=λ(a:a_) (l:List a_)=>BT N a l) cW (by kernel_rfl) (by kernel_rfl) (HY N) rfl (λa=>by kernel_rfl) (λx y=>by kernel_rfl) (λx=>by kernel_rfl) (λx=>by kernel_rfl) (λx=>by kernel_rfl)
def lW(N:Nat):dA:=⟨.mk [.p (.pt 0 0 27)] [] [.cells [.pt 1 0 2,.pt 2 0 2,xl 0,xl 2,xl 3,xi,xi,xi,xi,xi,xi,xi,xi,xi,xi,xi,xi,xi,xi,xi,xi,xi,xi,xl 8,xl 1,.hd 3,xi],.cells [xi,.hd 4],.cells [xl 0,.mr 5],.row 1,.row 5,.mp 7 true] [] [] [],[.mk [.v (.st 10)] [] [] [] [] []],λ(_,_,_,m,n,o,p,q,r,s,a,b,d,e,f,g,h,i,j,k,l,_,_,_,_,_,_,_,_)=>zaZ N m n o p q r s a b d e f g h i j k l⟩
theorem zbH(N:Nat):cZ Tryz.prog 48 (lW N):=og (g:=48) N (.cons (gp N)<|.nil) (.nil) (by kernel_rfl) (λx=>by kernel_rfl)
def zC(N:Nat):aX:=⟨[ci],[ci],λa=>xF N a.1⟩
theorem zF(N:Nat):bj Tryz.prog 277 (zC N):=tg [] [] [] N (.cons (eO N)<|.nil) (.nil) (λa=>by kernel_rfl)
def HX(N:Nat):aX:=⟨[ci,ci],[ci],λa=>Ka N a.1 a.2.1⟩
theorem Hs(N:Nat):bj Tryz.prog 278 (HX N):=tg [] [] [] N (.nil) (.nil) (λa=>by kernel_rfl)
def C_(N:Nat):aX:=⟨[.st 10,.st 5,ci,.c (.sl 1)],[.st 11],λa=>AM N a.1 a.2.1 a.2.2.1 a.2.2.2.1⟩
theorem Co(N:Nat):bj Tryz.prog 256 (C_ N):=tg [] [(15,⟨[.r 9 ci],[],[],[]⟩),(31,⟨[.r 10 ci],[],[],[]⟩)] [] N (.cons (V_ N)<|.cons (Hs N)<|.cons (eO N)<|.cons (zF N)<|.nil) (.nil) (λa=>by kernel_rfl)
def MT(N:Nat):aX:=⟨[.st 10,.st 5,ci,.c (.sl 1)],[ci],λa=>MW N a.1 a.2.1 a.2.2.1 a.2.2.2.1⟩
theorem Mg(N:Nat):bj Tryz.prog 209 (MT N):=tg [] [] [] N (.cons (Co N)<|.nil) (.nil) (λa=>by kernel_rfl)
def IM(N:Nat):aX:=⟨[.st 10,.st 5,.st 15],[.st 16],λa=>Je N a.1 a.2.1 a.2.2.1⟩
theorem HM(N:Nat):bj Tryz.prog 153 (IM N):=tg [] [] [] N (.cons (Mg N)<|.nil) (.nil) (λa=>by kernel_rfl)
def yy(N:Nat):aX:=⟨[ci],[cb],λa=>cmp_isNaN_int N a.1⟩
theorem yi(N:Nat):bj Tryz.prog 281 (yy N):=tg [] [] [] N (.nil) (.nil) (λa=>by kernel_rfl)
def vQ(N:Nat):aX:=⟨[ci,ci],[ci],λa=>pI N a.1 a.2.1⟩
theorem vN(N:Nat):bj Tryz.prog 258 (vQ N):=tg [] [] [] N (.cons (yi N)<|.nil) (.nil) (λa=>by kernel_rfl)
def kL(N:Nat):aX:=⟨[.c (.sl 1),.c (.sl 1)],[ci],λa=>za4 N a.1 a.2.1⟩
theorem zea(N:Nat):bj Tryz.prog 212 (kL N):=tg [] [(26,⟨[.r 11 ci],[],[],[]⟩)] [] N (.cons (vN N)<|.nil) (.nil) (λa=>by kernel_rfl)
def zeF(N:Nat):dA:=⟨.mk [.p (.hd 0),.v ci,.v ci,.v ci,.p (.fb 211 1 1)] [] [.row 1,.cells [xl 16]] [] [] [],[.mk [] [.w 0 1] [] [] [(63,⟨[.r 20 ci,.r 21 ci],[],[],[]⟩),(172,⟨[.r 10 ci,.r 11 ci],[],[],[]⟩),(428,⟨[.r 14 ci,.r 15 ci],[],[],[]⟩),(698,⟨[.r 13 ci,.w 0 1],[(0,0)],[],[]⟩),(1020,⟨[.r 20 ci,.r 21 ci],[],[],[]⟩),(1023,⟨[.w 0 1],[(0,0)],[],[]⟩),(1722,⟨[.r 17 ci,.w 0 1],[(0,0)],[],[]⟩),(2047,⟨[.w 0 1],[(0,0)],[],[]⟩),(8186,⟨[],[(0,0)],[],[]⟩),(16378,⟨[],[(0,0)],[],[]⟩)] [(361365553,[.mk [.v ci] [] [] [(9,1),(13,1)] [] []]),(536477887,[.mk [] [.w 0 1] [] [] [(28,⟨[.r 10 ci,.r 11 ci,.w 0 1],[(0,0)],[],[]⟩),(1812,⟨[],[(0,0)],[],[]⟩),(1814,⟨[],[(0,0)],[],[]⟩)] [(983097,[.mk [] [.w 0 1] [] [] [(6,⟨[.r 10 ci,.w 0 1],[(0,0)],[],[]⟩)] []]),(118751263,[.mk [] [.w 0 1] [] [] [(6,⟨[.r 10 ci,.w 0 1],[(0,0)],[],[]⟩)] []]),(118882350,[.mk [] [.w 0 1] [] [] [(6,⟨[.r 10 ci,.w 0 1],[(0,0)],[],[]⟩)] []])]]),(898236517,[.mk [.v ci] [] [] [(9,1),(13,1)] [] []]),(1073348813,[.mk [] [.w 0 1] [] [(1000000,0)] [] []]),(1073610971,[.mk [] [.w 0 1] [] [(1000000,0)] [] []]),(2139750569,[.mk [.v ci] [] [] [(9,1),(13,1)] [] []])]],λ(a,b,d,e,f)=>zbx N a b d e f⟩
theorem zcf:∀N:Nat,cZ Tryz.prog 280 (zeF N)
 |0=>⟨by kernel_rfl,λx y a b d z e f h=>by cases h⟩
 |N+1=>og (g:=280) N (.cons (zea N)<|.nil) (.cons (zcf N)<|.nil) (by kernel_rfl) (λx=>by kernel_rfl)
def us(N:Nat):aX:=⟨[.c (.sl 16)],[.c (.sl 1)],λa=>oC N a.1⟩
theorem tK(N:Nat):bj Tryz.prog 154 (us N):=tg [(7,1)] [(30,⟨[],[(3,0)],[],[]⟩),(58,⟨[.r 10 ci,.w 1 1],[(3,1)],[],[]⟩)] [(1966100,[.mk [] [.w 1 1] [] [] [] [(65544,[.mk [] [.w 1 1] [] [] [(28,⟨[.r 7 ci,.r 8 ci,.w 1 1],[(0,1)],[],[]⟩),(30,⟨[],[(0,0)],[],[]⟩),(62,⟨[.r 6 ci,.w 1 1],[(0,1)],[],[]⟩),(452,⟨[],[(0,0)],[],[]⟩),(1995,⟨[.w 1 1],[(0,1)],[],[]⟩),(3988,⟨[.r 7 ci,.r 8 ci,.w 1 1],[(0,1)],[],[]⟩),(31926,⟨[],[(0,0)],[],[]⟩),(63812,⟨[],[(0,0)],[],[]⟩)] [(1966107,[.mk [] [.w 1 1] [] [] [(6,⟨[.r 8 ci,.w 1 1],[(0,1)],[],[]⟩),(402,⟨[.r 9 ci,.w 1 1],[(0,1)],[],[]⟩),(1608,⟨[.r 34 cb],[],[],[]⟩)] [(210763808,[.mk [.v ci] [] [] [(9,1),(13,1)] [] []])]]),(29622290,[.mk [] [.w 1 1] [] [] [(6,⟨[.r 8 ci,.w 1 1],[(0,1)],[],[]⟩),(402,⟨[.r 9 ci,.w 1 1],[(0,1)],[],[]⟩),(1608,⟨[.r 34 cb],[],[],[]⟩)] [(210763808,[.mk [.v ci] [] [] [(9,1),(13,1)] [] []])]]),(2092302396,[.mk [] [.w 1 1] [] [(1000000,0)] [] []]),(4181983275,[.mk [] [.w 1 1] [] [(1000000,0)] [] []])]])]])] N (.cons (zea N)<|.nil) (.cons (zcf N)<|.nil) (λa=>by kernel_rfl)
def tM(N:Nat):dA:=⟨.mk [.v (.st 10),.p (.hd 0),.v (.st 15)] [] [.row 5] [] [] [],[.mk [.v (.c (.sl 5))] [] [] [(19,16),(37,5),(55,5)] [(122,⟨[.r 22 ci,.w 3 16],[(7,3)],[],[]⟩),(252,⟨[],[],[(7,16)],[]⟩),(506,⟨[.r 41 ci,.w 4 5],[(10,4)],[],[]⟩)] []],λ(a,b,d)=>oj N a b d⟩
theorem tX(N:Nat):cZ Tryz.prog 84 (tM N):=og (g:=84) N (.cons (V_ N)<|.cons (HM N)<|.cons (tK N)<|.cons (zcH N)<|.nil) (.nil) (by kernel_rfl) (λx=>by kernel_rfl)
def qM(N:Nat):dA:=⟨.mk [.p (.pt 0 0 27)] [] [.cells [.pt 1 0 2,.pt 2 0 2,xl 0,xl 2,xl 3,xi,xi,xi,xi,xi,xi,xi,xi,xi,xi,xi,xi,xi,xi,xi,xi,xi,xi,xl 8,xl 1,.hd 3,xi],.cells [xi,.hd 4],.cells [xl 0,.mr 5],.row 1,.row 5,.mp 7 true] [] [] [],[.mk [.v (.c (.sl 5))] [] [] [(16,5)] [(250,⟨[.w 9 5],[],[(1055744,5)],[(7,0,9)]⟩)] [(917513,[.mk [.v (.st 14)] [] [] [(1000000,0)] [] []]),(8126476,[.mk [] [] [] [(1000002,0)] [] []]),(8257555,[.mk [.v (.st 10)] [] [] [(1000000,1)] [] []]),(8257562,[.mk [.v (.c (.sl 5))] [] [] [(1000000,2)] [] []])]],λ(s,t,u,v,w,x,y,z,A,E,a,b,d,e,f,g,h,i,j,k,l,m,n,o,p,q,r,_,_)=>mA N s t u v w x y z A E a b d e f g h i j k l m n o p q r⟩
theorem rX(N:Nat):cZ Tryz.prog 28 (qM N):=og (g:=28) N (.it (n_ N)<|.nil) (.cons (zbz N)<|.cons (zbH N)<|.cons (tX N)<|.nil) (by kernel_rfl) (λx=>by kernel_rfl)
def Ag(N:Nat):aX:=⟨[.st 10,ci],[cb],λa=>za N a.1 a.2.1⟩
theorem Bp(N:Nat):bj Tryz.prog 156 (Ag N):=tg [] [] [] N (.cons (V_ N)<|.nil) (.nil) (λa=>by kernel_rfl)
def Jl(N:Nat):aX:=⟨[ci],[cb],λa=>kZ N a.1⟩
theorem mj(N:Nat):bj Tryz.prog 109 (Jl N):=tg [] [] [] N (.nil) (.nil) (λa=>by kernel_rfl)
def zl(N:Nat):aX:=⟨[.c (.sl 5),ci],[ci],λa=>wy N a.1 a.2.1⟩
theorem zy(N:Nat):bj Tryz.prog 157 (zl N):=tg [] [] [(393223,[.mk [.v ci] [] [] [] [(58,⟨[.r 5 ci,.r 10 ci],[],[],[]⟩),(467,⟨[.r 5 ci],[],[],[]⟩)] [(489816080,[.mk [.v cb] [] [] [] [] []])]])] N (.cons (mj N)<|.nil) (.nil) (λa=>by kernel_rfl)
def Kd(N:Nat):aX:=⟨[.c (.sl 5),ci,ci],[ci],λa=>Ih N a.1 a.2.1 a.2.2.1⟩
theorem Ke(N:Nat):bj Tryz.prog 158 (Kd N):=tg [] [] [(393225,[.mk [.v ci] [] [] [] [(58,⟨[.r 5 ci,.r 10 ci],[],[],[]⟩),(467,⟨[.r 5 ci],[],[],[]⟩)] [(489816080,[.mk [.v cb] [] [] [] [] []])]])] N (.cons (mj N)<|.nil) (.nil) (λa=>by kernel_rfl)
def Gw(N:Nat):aX:=⟨[.st 10,.c (.sl 5),.st 5],[cb],λa=>DW N a.1 a.2.1 a.2.2.1⟩
theorem EW(N:Nat):bj Tryz.prog 85 (Gw N):=tg [] [] [] N (.cons (Bp N)<|.cons (zy N)<|.cons (Ke N)<|.nil) (.nil) (λa=>by kernel_rfl)
def vE(N:Nat):dA:=⟨.mk [.p (.pt 0 0 27),.v ci] [] [.cells [.pt 1 0 2,.pt 2 0 2,xl 0,xl 2,xl 3,xi,xi,xi,xi,xi,xi,xi,xi,xi,xi,xi,xi,xi,xi,xi,xi,xi,xi,xl 8,xl 1,.hd 3,xi],.cells [xi,.hd 4],.cells [xl 0,.mr 5],.row 1,.row 5,.mp 7 true] [] [] [],[.mk [.v cb] [] [] [] [(122,⟨[],[],[],[]⟩)] [(917514,[.mk [.v (.st 14)] [] [] [(1000000,0)] [] []]),(3932173,[.mk [] [] [] [(1000002,0)] [] []]),(257163284,[.mk [.v (.st 10)] [] [] [(1000000,1)] [] []])]],λ(t,u,v,w,x,y,z,A,E,F,a,b,d,e,f,g,h,i,j,k,l,m,n,o,p,q,r,s,_,_)=>jf N t u v w x y z A E F a b d e f g h i j k l m n o p q r s⟩
theorem vm(N:Nat):cZ Tryz.prog 29 (vE N):=og (g:=29) N (.it (n_ N)<|.cons (EW N)<|.nil) (.cons (zbz N)<|.cons (zbH N)<|.nil) (by kernel_rfl) (λx=>by kernel_rfl)
def qi(N:Nat):aX:=⟨[],[cb],λa=>eR N⟩
theorem pZ(N:Nat):bj Tryz.prog 9 (qi N):=tg [(16,4)] [] [(393222,[.mk [.p (.k (.c (.lit (.pointer none)))),.p (.k (.c (.lit (.int .i64 2))))] [] [] [(1000000,0)] [] [],.mk [.p (.pt 0 0 27),.p (.k (.c (.lit (.int .i64 0))))] [] [.cells [.pt 1 0 2,.pt 2 0 2,xl 0,xl 2,xl 3,xi,xi,xi,xi,xi,xi,xi,xi,xi,xi,xi,xi,xi,xi,xi,xi,xi,xi,xl 8,xl 1,.hd 3,xi],.cells [xi,.hd 4],.cells [xl 0,.mr 5],.row 1,.row 5,.mp 7 true] [] [] []]),(917516,[.mk [.v ci] [] [] [(1000000,1)] [] []]),(1966098,[.mk [.v ci] [] [] [(1000000,2)] [] []]),(4063252,[.mk [.v (.c (.sl 5))] [] [] [(1000000,3)] [] []]),(8257573,[.mk [.v cb] [] [] [(1000000,7)] [] []]),(8257577,[.mk [.v cb] [] [] [(1000000,7)] [] []]),(7696582311948,[.mk [.v ci] [.h 1 1 (.hd 4),.w 4 5,.h 0 21 (xi),.h 0 25 (.hd 3),.w 3 1] [] [(1000000,4)] [] []]),(8796094988306,[.mk [.v ci] [.h 1 1 (.hd 4),.w 4 5,.h 0 21 (xi),.h 0 25 (.hd 3),.w 3 1] [] [(1000000,5)] [] []]),(8796097085460,[.mk [.v (.c (.sl 5))] [] [] [(1000000,6)] [] []])] N (.cons (qk N)<|.nil) (.cons (vj N)<|.cons (nB N)<|.cons (lQ N)<|.cons (sO N)<|.cons (nl N)<|.cons (nD N)<|.cons (rX N)<|.cons (vm N)<|.nil) (λa=>by kernel_rfl)
def tO(N:Nat):aX:=⟨[.st 10],[cb],λa=>zer N a.1⟩
theorem tQ(N:Nat):bj Tryz.prog 41 (tO N):=tg [] [(58,⟨[.r 26 ci],[],[],[]⟩),(122,⟨[.r 37 ci],[],[],[]⟩)] [] N (.nil) (.nil) (λa=>by kernel_rfl)
def uw(N:Nat):aX:=⟨[.c (.sl 5)],[cb],λa=>zeo N a.1⟩
theorem uv(N:Nat):bj Tryz.prog 42 (uw N):=tg [] [(58,⟨[.r 10 ci],[],[],[]⟩)] [] N (.nil) (.nil) (λa=>by kernel_rfl)
def tT(N:Nat):aX:=⟨[.st 10,.st 14],[cb],λa=>zcp N a.1 a.2.1⟩
theorem tZ(N:Nat):bj Tryz.prog 10 (tT N):=tg [] [(6,⟨[.r 40 cb],[],[],[]⟩),(58,⟨[.r 44 ci],[],[],[]⟩)] [] N (.cons (tQ N)<|.cons (uv N)<|.nil) (.nil) (λa=>by kernel_rfl)
def zo(N:Nat):aX:=⟨[ci,ci,ci],[cb],λa=>ZL N a.1 a.2.1 a.2.2.1⟩
theorem pB(N:Nat):bj Tryz.prog 129 (zo N):=tg [] [] [] N (.nil) (.nil) (λa=>by kernel_rfl)
def yb(N:Nat):aX:=⟨[.st 10,.st 14],[cb],λa=>iy N a.1 a.2.1⟩
theorem x_(N:Nat):bj Tryz.prog 62 (yb N):=tg [] [] [] N (.cons (pB N)<|.nil) (.nil) (λa=>by kernel_rfl)
def AJ(N:Nat):aX:=⟨[ci],[ci],λa=>lZ N a.1⟩
theorem Bg(N:Nat):bj Tryz.prog 130 (AJ N):=tg [] [] [] N (.cons (jV N)<|.nil) (.nil) (λa=>by kernel_rfl)
def Cm(N:Nat):aX:=⟨[.st 10,.st 14],[cb],λa=>oP N a.1 a.2.1⟩
theorem CN(N:Nat):bj Tryz.prog 63 (Cm N):=tg [] [(122,⟨[.r 5 ci,.r 17 ci],[],[],[]⟩),(62671,⟨[.r 72 cb],[],[],[]⟩)] [] N (.cons (zeJ N)<|.cons (Bg N)<|.nil) (.nil) (λa=>by kernel_rfl)
def GH(N:Nat):aX:=⟨[.st 0,.st 0],[ci],λa=>im N a.1 a.2.1⟩
theorem xx(N:Nat):bj Tryz.prog 254 (GH N):=tg [] [(6,⟨[.r 21 cb],[],[],[]⟩),(250,⟨[.r 5 ci,.r 26 ci],[],[],[]⟩),(2003,⟨[.r 5 ci],[],[],[]⟩)] [] N (.cons (sB N)<|.cons (Wj N)<|.nil) (.nil) (λa=>by kernel_rfl)
def F_(N:Nat):aX:=⟨[.st 10,ci,.st 0],[ci],λa=>tt N a.1 a.2.1 a.2.2.1⟩
theorem Gk(N:Nat):bj Tryz.prog 198 (F_ N):=tg [] [(122,⟨[.r 7 ci,.r 30 ci],[],[],[]⟩)] [] N (.cons (V_ N)<|.cons (xx N)<|.nil) (.nil) (λa=>by kernel_rfl)
def Gp(N:Nat):aX:=⟨[.st 10,ci,ci,.st 0],[cb],λa=>fj N a.1 a.2.1 a.2.2.1 a.2.2.2.1⟩
theorem Fm(N:Nat):bj Tryz.prog 132 (Gp N):=tg [] [] [] N (.cons (V_ N)<|.cons (Gk N)<|.nil) (.nil) (λa=>by kernel_rfl)
def zD(N:Nat):aX:=⟨[.st 5,ci],[ci],λa=>fH N a.1 a.2.1⟩
theorem zH(N:Nat):bj Tryz.prog 200 (zD N):=tg [] [] [] N (.nil) (.nil) (λa=>by kernel_rfl)
def zbv(N:Nat):aX:=⟨[.c (.sl 5),ci,.k 200],[ci,cb],λa=>zaw N a.1 a.2.1⟩
theorem zbw(N:Nat):bj Tryz.prog 199 (zbv N):=tg [] [(60,⟨[.r 9 ci,.r 10 ci],[],[],[]⟩)] [] N (.cons (zH N)<|.nil) (.nil) (λa=>by kernel_rfl)
def CI(N:Nat):aX:=⟨[.c (.sl 5),ci],[ci,cb],λa=>lM N a.1 a.2.1⟩
theorem uM(N:Nat):bj Tryz.prog 133 (CI N):=tg [] [] [] N (.cons (zbw N)<|.nil) (.nil) (λa=>by kernel_rfl)
def yw(N:Nat):aX:=⟨[.st 10,.st 14],[cb],λa=>iB N a.1 a.2.1⟩
theorem yG(N:Nat):bj Tryz.prog 64 (yw N):=tg [] [(26,⟨[.r 14 ci],[],[],[]⟩),(211,⟨[],[],[],[]⟩),(27038,⟨[.r 33 ci],[],[],[]⟩)] [] N (.cons (jV N)<|.cons (Fm N)<|.cons (uM N)<|.nil) (.nil) (λa=>by kernel_rfl)
def Ak(N:Nat):aX:=⟨[.c (.sl 6),ci],[cb],λa=>fo N a.1 a.2.1⟩
theorem lj(N:Nat):bj Tryz.prog 170 (Ak N):=tg [] [(58,⟨[.r 5 ci,.r 10 ci],[],[],[]⟩)] [] N (.nil) (.nil) (λa=>by kernel_rfl)
def Ah(N:Nat):aX:=⟨[.c (.sl 6)],[ci],λa=>mh N a.1⟩
theorem Ax(N:Nat):bj Tryz.prog 193 (Ah N):=tg [] [(58,⟨[.r 3 ci,.r 8 ci],[],[],[]⟩)] [] N (.cons (eO N)<|.nil) (.nil) (λa=>by kernel_rfl)
def mZ(N:Nat):aX:=⟨[.c (.sl 1),ci],[ci],λa=>zdO N a.1 a.2.1⟩
theorem mM(N:Nat):bj Tryz.prog 243 (mZ N):=tg [] [(26,⟨[.r 8 ci],[],[],[]⟩)] [] N (.nil) (.nil) (λa=>by kernel_rfl)
def jQ(N:Nat):aX:=⟨[.c (.sl 1),ci],[cb],λa=>zbR N a.1 a.2.1⟩
theorem jJ(N:Nat):bj Tryz.prog 194 (jQ N):=tg [] [] [] N (.cons (mM N)<|.nil) (.nil) (λa=>by kernel_rfl)
def Be(N:Nat):aX:=⟨[.st 10,.st 5,.c (.sl 6)],[cb],λa=>mE N a.1 a.2.1 a.2.2.1⟩
theorem A_(N:Nat):bj Tryz.prog 123 (Be N):=tg [] [(6,⟨[.r 22 cb],[],[],[]⟩),(250,⟨[.r 47 ci],[],[],[]⟩)] [] N (.cons (jJ N)<|.cons (lj N)<|.cons (Ax N)<|.nil) (.nil) (λa=>by kernel_rfl)
def zej(N:Nat):dA:=⟨.mk [.v (.c (.sl 0))] [] [] [] [] [],[.mk [.p (.hd 0)] [] [.row 0] [] [] []],λx=>zbk N x⟩
theorem zeh(N:Nat):cZ Tryz.prog 160 (zej N):=ko (i:=0) (sz:=32) (z:=[.c (.lit (.int .i64 0)),.c (.lit (.int .i64 0)),.c (.lit (.int .i64 0)),.c (.lit (.int .i64 0))]) (fn:=Tryz.f160) cW (by kernel_rfl) (by kernel_rfl) (by kernel_rfl) rfl
def vn(N:Nat):dA:=⟨.mk [.v (.st 0)] [] [] [] [] [],[.mk [.ag [.cx,.cx]] [] [] [] [] []],λa=>zcO N a⟩
theorem lI(N:Nat):cZ Tryz.prog 224 (vn N):=og (g:=224) N (.nil) (.nil) (by kernel_rfl) (λx=>by kernel_rfl)
def xz(N:Nat):dA:=⟨.mk [.ag [.cx,.cx]] [] [] [] [] [],[.mk [.v (.st 0)] [] [] [] [] []],λ(a,b)=>lq N a b⟩
theorem xK(N:Nat):cZ Tryz.prog 260 (xz N):=og (g:=260) N (.nil) (.nil) (by kernel_rfl) (λx=>by kernel_rfl)
def ul(N:Nat):dA:=⟨.mk [.ag [.cx,.cx]] [] [] [] [] [],[.mk [.v (.st 0),.v ci] [] [] [] [] [(393222,[.mk [.v (.st 0)] [] [] [(1000000,0)] [] []])]],λ(a,b)=>zdj N a b⟩
theorem jD(N:Nat):cZ Tryz.prog 225 (ul N):=og (g:=225) N (.cons (Wj N)<|.nil) (.cons (xK N)<|.nil) (by kernel_rfl) (λx=>by kernel_rfl)
def FG(N:Nat):aX:=⟨[.st 0,ci],[.st 0,ci],λa=>nN N a.1 a.2.1⟩
theorem wS(N:Nat):bj Tryz.prog 180 (FG N):=tg [] [] [(4063256,[.mk [.ag [.cx,.cx]] [] [] [(1000000,0)] [] []]),(8257573,[.mk [.v (.st 0),.v ci] [] [] [(1000000,1)] [] []])] N (.cons (Wj N)<|.nil) (.cons (lI N)<|.cons (jD N)<|.nil) (λa=>by kernel_rfl)
def Ls(N:Nat):aX:=⟨[.st 0,.st 0],[.st 0,ci],λa=>vY N a.1 a.2.1⟩
theorem AY(N:Nat):bj Tryz.prog 172 (Ls N):=tg [] [(6,⟨[.r 15 cb],[],[],[]⟩)] [(917522,[.mk [.ag [.cx,.cx]] [] [] [(1000000,0)] [] []]),(917524,[.mk [.ag [.cx,.cx]] [] [] [(1000000,0)] [] []]),(1966112,[.mk [.v (.st 0),.v ci] [] [] [(1000000,1)] [] []])] N (.cons (Wj N)<|.nil) (.cons (lI N)<|.cons (jD N)<|.nil) (λa=>by kernel_rfl)
def iT(N:Nat):dA:=⟨.mk [.p (.pt 0 0 2),.v (.st 7),.p (.k (.c (.fn (.func 172) [] [])))] [] [.cells [xl 0,.mr 1],.mp 7 true] [] [] [],[.mk [.v (.c (.sl 0)),.v ci] [] [] [] [(58,⟨[.r 21 ci,.w 3 0],[(8,3)],[],[]⟩)] [(393233,[.mk [.p (.hd 3)] [] [.row 0] [(1000000,0)] [] []])]],λ(_,a,b)=>zbB N a b⟩
theorem iF(N:Nat):cZ Tryz.prog 171 (iT N):=og (g:=171) N (.cons (wS N)<|.cons (AY N)<|.nil) (.cons (zeh N)<|.nil) (by kernel_rfl) (λx=>by kernel_rfl)
def kc(N:Nat):dA:=⟨.mk [.p (.pt 0 0 2),.v (.st 7)] [] [.cells [xl 0,.mr 1],.mp 7 true] [] [] [],[.mk [.v ci] [.h 0 0 (xl 0),.m 1 7 true] [] [] [(14,⟨[.r 41 cb],[],[],[]⟩)] [(4063288,[.mk [.v (.c (.sl 0)),.v ci] [] [] [(1000000,0)] [] []])]],λ(a,b,d)=>zbg N a b d⟩
theorem zdN(N:Nat):cZ Tryz.prog 101 (kc N):=og (g:=101) N (.cons (uz N)<|.cons (lj N)<|.cons (Wj N)<|.nil) (.cons (iF N)<|.nil) (by kernel_rfl) (λx=>by kernel_rfl)
end Go.Abs
end
end
section
set_option maxRecDepth 100000
noncomputable section
namespace Go.Abs
open Go.Proofs
variable[Gl]
def rG(N:Nat):aX:=⟨[.st 10,.st 14],[cb],λa=>zdV N a.1 a.2.1⟩
theorem su(N:Nat):bj Tryz.prog 65 (rG N):=tg [] [(250,⟨[.r 7 (.c (.sl 7)),.r 23 ci,.h 2 0 (.sl 0),.m 3 7 true],[],[],[]⟩),(2003,⟨[.r 7 (.c (.sl 7)),.h 2 0 (.sl 0),.m 3 7 true],[],[],[]⟩),(256415,⟨[.r 74 cb,.h 2 0 (.sl 0),.m 3 7 true],[],[],[]⟩)] [(393229,[.mk [.p (.k (.c (.lit (.pointer none)))),.p (.k (.c (.lit (.int .i64 2))))] [] [] [(1000000,0)] [] [],.mk [.p (.pt 2 0 2),.p (.k (.c (.lit (.int .i64 0))))] [] [.cells [xl 0,.mr 3],.mp 7 true] [] [] []]),(33608826952,[.mk [.v ci] [.h 2 0 (xl 0),.m 3 7 true] [] [(1000000,1)] [] []])] N (.cons (mj N)<|.cons (A_ N)<|.nil) (.cons (zeE N)<|.cons (zdN N)<|.nil) (λa=>by kernel_rfl)
def Cp(N:Nat):aX:=⟨[.st 8,ci],[cb],λa=>pj N a.1 a.2.1⟩
theorem CE(N:Nat):bj Tryz.prog 178 (Cp N):=tg [] [] [] N (.nil) (.nil) (λa=>by kernel_rfl)
def CK(N:Nat):aX:=⟨[.c (.sl 8),ci,ci,ci],[cb],λa=>eX N a.1 a.2.1 a.2.2.1 a.2.2.2.1⟩
theorem uB(N:Nat):bj Tryz.prog 134 (CK N):=tg [] [(26,⟨[.r 13 ci],[],[],[]⟩)] [] N (.nil) (.nil) (λa=>by kernel_rfl)
def Dc(N:Nat):aX:=⟨[.c (.sl 8),ci],[cb],λa=>kE N a.1 a.2.1⟩
theorem uK(N:Nat):bj Tryz.prog 110 (Dc N):=tg [] [(58,⟨[.r 12 ci],[],[],[]⟩),(3737,⟨[.r 47 cb],[],[],[]⟩)] [] N (.cons (CE N)<|.cons (uB N)<|.nil) (.nil) (λa=>by kernel_rfl)
def wV(N:Nat):aX:=⟨[.st 10,.st 14],[cb],λa=>gF N a.1 a.2.1⟩
theorem xk(N:Nat):bj Tryz.prog 66 (wV N):=tg [] [(58,⟨[.r 23 ci],[],[],[]⟩),(122,⟨[.r 43 ci],[],[],[]⟩),(125342,⟨[.r 60 ci],[],[],[]⟩)] [] N (.cons (uK N)<|.cons (uM N)<|.cons (uB N)<|.nil) (.nil) (λa=>by kernel_rfl)
def Bl(N:Nat):aX:=⟨[.c (.sl 1)],[cb],λa=>mz N a.1⟩
theorem Cf(N:Nat):bj Tryz.prog 135 (Bl N):=tg [] [(26,⟨[.r 7 ci],[],[],[]⟩)] [] N (.nil) (.nil) (λa=>by kernel_rfl)
def BW(N:Nat):aX:=⟨[.st 10,.st 14],[cb],λa=>mC N a.1 a.2.1⟩
theorem Az(N:Nat):bj Tryz.prog 67 (BW N):=tg [] [(6,⟨[.r 18 cb],[],[],[]⟩),(14,⟨[.r 33 cb],[],[],[]⟩),(122,⟨[.r 38 ci],[],[],[]⟩)] [] N (.cons (pB N)<|.cons (Cf N)<|.nil) (.nil) (λa=>by kernel_rfl)
def Ar(N:Nat):aX:=⟨[.st 10,.st 14],[cb],λa=>l_ N a.1 a.2.1⟩
theorem BV(N:Nat):bj Tryz.prog 21 (Ar N):=tg [] [] [] N (.cons (V_ N)<|.cons (x_ N)<|.cons (CN N)<|.cons (yG N)<|.cons (su N)<|.cons (xk N)<|.cons (Az N)<|.nil) (.nil) (λa=>by kernel_rfl)
def vK(N:Nat):dA:=⟨.mk [.v (.st 10)] [] [] [] [] [],[.mk [.p (.k (.c (.lit (.pointer none)))),.p (.k (.c (.lit (.int .i64 2))))] [] [] [(37,1)] [] [(917517,[.mk [.p (.k (.c (.lit (.pointer none)))),.p (.k (.c (.lit (.int .i64 2))))] [] [] [(1000000,0)] [] [],.mk [.p (.pt 1 0 2),.p (.k (.c (.lit (.int .i64 0))))] [] [.cells [xi,xn]] [] [] []]),(4063253,[.mk [.p (.k (.c (.lit (.pointer none)))),.p (.k (.c (.lit (.int .i64 2))))] [] [] [(1000000,1)] [] [],.mk [.p (.pt 2 0 2),.p (.k (.c (.lit (.int .i64 0))))] [] [.cells [xl 0,.mr 3],.mp 7 true] [] [] []])],.mk [.p (.pt 0 0 27),.p (.k (.c (.lit (.int .i64 0))))] [] [.cells [.pt 1 0 2,.pt 2 0 2,xl 0,xl 2,xl 3,xi,xi,xi,xi,xi,xi,xi,xi,xi,xi,xi,xi,xi,xi,xi,xi,xi,xi,xn,xl 1,.hd 3,xi],.cells [xi,xn],.cells [xl 0,.mr 4],.row 1,.mp 7 true] [] [] []],λa=>eL N a⟩
theorem vg(N:Nat):cZ Tryz.prog 38 (vK N):=og (g:=38) N (.cons (V_ N)<|.cons (gp N)<|.cons (wW N)<|.nil) (.cons (lA N)<|.cons (zeE N)<|.nil) (by kernel_rfl) (λx=>by kernel_rfl)
def zcX(N:Nat):dA:=⟨.mk [.v (.c (.sl 8))] [] [] [] [] [],[.mk [.p (.hd 0)] [] [.row 8] [] [] []],λx=>zaX N x⟩
theorem zcY(N:Nat):cZ Tryz.prog 70 (zcX N):=ko (i:=8) (sz:=32) (z:=[.c (.lit (.int .i64 0)),.c (.lit (.int .i64 0)),.c (.lit (.int .i64 0)),.c (.lit (.int .i64 0))]) (fn:=Tryz.f70) cW (by kernel_rfl) (by kernel_rfl) (by kernel_rfl) rfl
def jy(N:Nat):dA:=⟨.mk [.v (.c (.sl 1))] [] [] [] [] [],[.mk [.p (.hd 0)] [] [.row 1] [] [] []],λx=>zba N x⟩
theorem jd(N:Nat):cZ Tryz.prog 71 (jy N):=ko (i:=1) (sz:=8) (z:=[.c (.lit (.int .i64 0))]) (fn:=Tryz.f71) cW (by kernel_rfl) (by kernel_rfl) (by kernel_rfl) rfl
def xH(N:Nat):dA:=⟨.mk [.v (.st 10),.v (.st 14)] [] [] [] [] [],[.mk [.p (.k (.c (.lit (.pointer none)))),.v ci] [] [] [] [(250,⟨[.r 29 ci,.w 7 5],[],[(1051649,5)],[(3,1,7)]⟩),(506,⟨[.r 46 ci,.h 4 0 (.sl 0),.m 6 7 true],[],[],[]⟩)] [(917524,[.mk [.p (.k (.c (.lit (.pointer none)))),.p (.k (.c (.lit (.int .i64 2))))] [] [] [(1000000,0)] [] [],.mk [.p (.pt 2 0 27),.p (.k (.c (.lit (.int .i64 0))))] [] [.cells [.pt 3 0 2,.pt 4 0 2,xl 0,xl 2,xl 3,xi,xi,xi,xi,xi,xi,xi,xi,xi,xi,xi,xi,xi,xi,xi,xi,xi,xi,xn,xl 1,.hd 5,xi],.cells [xi,xn],.cells [xl 0,.mr 6],.row 1,.mp 7 true] [] [] []]),(33423438,[.mk [.p (.hd 8)] [] [.row 8] [(1000000,3)] [] []]),(66977876,[.mk [.p (.hd 9)] [] [.row 1] [(1000000,4)] [] []]),(134086747,[.mk [.p (.hd 10)] [] [.row 1] [(1000000,4)] [] []]),(2100428838,[.mk [.v ci] [.h 3 1 (.hd 7),.w 7 5] [] [(1000000,1)] [] []]),(4247912503,[.mk [.v ci] [.h 4 0 (xl 0),.m 6 7 true] [] [(1000000,2)] [] []])],.mk [.p (.pt 0 0 27),.p (.k (.c (.lit (.int .i64 0))))] [] [.cells [.pt 1 0 2,.pt 2 0 2,xl 0,xl 2,xl 3,xi,xi,xi,xi,xi,xi,xi,xi,xi,xi,xi,xi,xi,xi,xi,xi,xi,xi,xl 8,xl 1,.hd 3,xi],.cells [xi,.hd 4],.cells [xl 0,.mr 5],.row 1,.row 5,.mp 7 true] [] [] []],λ(a,b)=>zdp N a b⟩
theorem wL(N:Nat):cZ Tryz.prog 43 (xH N):=og (g:=43) N (.cons (BV N)<|.nil) (.cons (vg N)<|.cons (zeI N)<|.cons (zdN N)<|.cons (zcY N)<|.cons (jd N)<|.nil) (by kernel_rfl) (λx=>by kernel_rfl)
def vk(N:Nat):aX:=⟨[ci,ci,ci],[cb],λa=>xP N a.1 a.2.1 a.2.2.1⟩
theorem zdv(N:Nat):bj Tryz.prog 226 (vk N):=tg [] [] [] N (.nil) (.nil) (λa=>by kernel_rfl)
def qb(N:Nat):aX:=⟨[ci],[cb],λa=>zbO N a.1⟩
theorem pK(N:Nat):bj Tryz.prog 206 (qb N):=tg [] [] [] N (.nil) (.nil) (λa=>by kernel_rfl)
def pM(N:Nat):aX:=⟨[.st 0],[cb],λa=>VY N a.1⟩
theorem zcq(N:Nat):bj Tryz.prog 145 (pM N):=tg [] [] [] N (.cons (pK N)<|.nil) (.nil) (λa=>by kernel_rfl)
def pR(N:Nat):aX:=⟨[.st 10],[cb],λa=>zcC N a.1⟩
theorem qD(N:Nat):bj Tryz.prog 227 (pR N):=tg [] [(26,⟨[.r 3 ci],[],[],[]⟩)] [] N (.cons (zcq N)<|.cons (zdv N)<|.nil) (.nil) (λa=>by kernel_rfl)
def po(N:Nat):aX:=⟨[.c (.sl 1),ci],[cb],λa=>zcg N a.1 a.2.1⟩
theorem gu(N:Nat):bj Tryz.prog 261 (po N):=tg [] [(26,⟨[.r 5 ci],[],[],[]⟩),(420,⟨[.r 40 cb],[],[],[]⟩)] [] N (.nil) (.nil) (λa=>by kernel_rfl)
def pY(N:Nat):aX:=⟨[.st 10],[cb],λa=>zcw N a.1⟩
theorem qB(N:Nat):bj Tryz.prog 228 (pY N):=tg [] [(26,⟨[.r 3 ci],[],[],[]⟩),(420,⟨[.r 29 cb],[],[],[]⟩)] [] N (.cons (gu N)<|.cons (zdv N)<|.nil) (.nil) (λa=>by kernel_rfl)
def oX(N:Nat):aX:=⟨[.st 10],[cb],λa=>zch N a.1⟩
theorem px(N:Nat):bj Tryz.prog 229 (oX N):=tg [] [(26,⟨[.r 3 ci],[],[],[]⟩),(841,⟨[.r 59 cb],[],[],[]⟩)] [] N (.cons (gu N)<|.cons (zdv N)<|.nil) (.nil) (λa=>by kernel_rfl)
def q_(N:Nat):aX:=⟨[.st 10],[.c .str],λa=>fZ N a.1⟩
theorem qR(N:Nat):bj Tryz.prog 173 (q_ N):=tg [(28,17),(69,18)] [(7,⟨[.r 4 cb],[],[],[]⟩),(506,⟨[.r 7 ci],[],[],[]⟩)] [] N (.cons (qD N)<|.cons (qB N)<|.cons (zdv N)<|.cons (px N)<|.nil) (.nil) (λa=>by kernel_rfl)
def qx(N:Nat):aX:=⟨[.st 10],[cb],λa=>zct N a.1⟩
theorem qt(N:Nat):bj Tryz.prog 102 (qx N):=tg [] [] [] N (.cons (qR N)<|.nil) (.nil) (λa=>by kernel_rfl)
def pS(N:Nat):aX:=⟨[ci],[cb],λa=>za9 N a.1⟩
theorem gU(N:Nat):bj Tryz.prog 103 (pS N):=tg [] [] [] N (.nil) (.nil) (λa=>by kernel_rfl)
def rV(N:Nat):aX:=⟨[.c (.sl 5),ci],[ci],λa=>Wd N a.1 a.2.1⟩
theorem zcJ(N:Nat):bj Tryz.prog 23 (rV N):=tg [] [(26,⟨[.r 5 ci],[],[],[]⟩)] [] N (.nil) (.nil) (λa=>by kernel_rfl)
def pV(N:Nat):aX:=⟨[.c (.sl 6),ci],[cb],λa=>zbm N a.1 a.2.1⟩
theorem gS(N:Nat):bj Tryz.prog 92 (pV N):=tg [] [(26,⟨[.r 5 ci],[],[],[]⟩),(420,⟨[.r 60 cb],[],[],[]⟩)] [] N (.nil) (.nil) (λa=>by kernel_rfl)
def vM(N:Nat):aX:=⟨[.c (.sl 6),ci],[ci],λa=>zcL N a.1 a.2.1⟩
theorem eT(N:Nat):bj Tryz.prog 189 (vM N):=tg [] [(58,⟨[.r 5 ci,.r 6 ci],[],[],[]⟩),(233,⟨[.r 5 ci],[],[],[]⟩)] [] N (.nil) (.nil) (λa=>by kernel_rfl)
def tL(N:Nat):aX:=⟨[.st 0,.st 0],[.st 0],λa=>Uo N a.1 a.2.1⟩
theorem zda(N:Nat):bj Tryz.prog 187 (tL N):=tg [] [] [] N (.nil) (.nil) (λa=>by kernel_rfl)
def qq(N:Nat):aX:=⟨[.st 0,ci],[.st 0],λa=>zcB N a.1 a.2.1⟩
theorem gR(N:Nat):bj Tryz.prog 188 (qq N):=tg [] [(58,⟨[.r 6 ci,.h 2 0 (.int .i64),.h 2 1 (.int .i64),.h 2 2 (.int .i64),.h 2 3 (.int .i64)],[],[],[]⟩)] [] N (.cons (zda N)<|.nil) (.nil) (λa=>by kernel_rfl)
def sn(N:Nat):aX:=⟨[.st 0,.st 0],[cb],λa=>Mt N a.1 a.2.1⟩
theorem zcK(N:Nat):bj Tryz.prog 119 (sn N):=tg [] [] [] N (.nil) (.nil) (λa=>by kernel_rfl)
def ur(N:Nat):aX:=⟨[.st 0,.st 0],[.st 0],λa=>zco N a.1 a.2.1⟩
theorem jC(N:Nat):bj Tryz.prog 120 (ur N):=tg [] [] [] N (.nil) (.nil) (λa=>by kernel_rfl)
def rR(N:Nat):aX:=⟨[.c (.sl 0),.c (.sl 7)],[.c (.sl 0),cb],λa=>zd7 N a.1 a.2.1⟩
theorem rY(N:Nat):bj Tryz.prog 147 (rR N):=tg [(55,0)] [(122,⟨[.r 7 cb,.r 8 ci,.w 0 0],[(6,0)],[(6,0)],[]⟩),(7827,⟨[.r 7 cb],[],[],[]⟩),(31306,⟨[.r 10 ci,.h 1 0 (.int .i64),.h 1 1 (.int .i64),.h 1 2 (.int .i64),.h 1 3 (.int .i64)],[],[],[]⟩)] [] N (.cons (eT N)<|.cons (gR N)<|.cons (zda N)<|.cons (jC N)<|.cons (zcK N)<|.nil) (.nil) (λa=>by kernel_rfl)
def o_(N:Nat):aX:=⟨[.st 10,.st 14],[cb],λa=>zc5 N a.1 a.2.1⟩
theorem oZ(N:Nat):bj Tryz.prog 104 (o_ N):=tg [] [(26,⟨[.r 5 ci],[],[],[]⟩),(841,⟨[.r 57 cb],[],[],[]⟩)] [] N (.cons (zcJ N)<|.cons (gS N)<|.cons (zcq N)<|.cons (rY N)<|.nil) (.nil) (λa=>by kernel_rfl)
def qv(N:Nat):aX:=⟨[.st 14,ci,ci],[cb],λa=>zdw N a.1 a.2.1 a.2.2.1⟩
theorem pN(N:Nat):bj Tryz.prog 174 (qv N):=tg [] [(26,⟨[.r 7 ci],[],[],[]⟩),(841,⟨[.r 54 cb],[],[],[]⟩)] [] N (.cons (zcJ N)<|.cons (eT N)<|.nil) (.nil) (λa=>by kernel_rfl)
def tY(N:Nat):aX:=⟨[.st 8,ci],[cb],λa=>zeq N a.1 a.2.1⟩
theorem ud(N:Nat):bj Tryz.prog 230 (tY N):=tg [] [] [] N (.cons (gU N)<|.nil) (.nil) (λa=>by kernel_rfl)
def qC(N:Nat):aX:=⟨[.c (.sl 8),ci,ci,ci],[cb],λa=>zbP N a.1 a.2.1 a.2.2.1 a.2.2.2.1⟩
theorem gX(N:Nat):bj Tryz.prog 25 (qC N):=tg [] [(26,⟨[.r 9 ci],[],[],[]⟩)] [] N (.nil) (.nil) (λa=>by kernel_rfl)
def qA(N:Nat):aX:=⟨[.c (.sl 8),ci],[cb],λa=>zdt N a.1 a.2.1⟩
theorem qf(N:Nat):bj Tryz.prog 175 (qA N):=tg [] [(26,⟨[.r 5 ci],[],[],[]⟩),(3366,⟨[.r 6 ci],[],[],[]⟩),(53860,⟨[.r 58 cb],[],[],[]⟩)] [] N (.cons (ud N)<|.cons (gX N)<|.nil) (.nil) (λa=>by kernel_rfl)
def pU(N:Nat):aX:=⟨[.st 10,.st 14],[cb],λa=>zds N a.1 a.2.1⟩
theorem qd(N:Nat):bj Tryz.prog 105 (pU N):=tg [] [(26,⟨[.r 5 ci],[],[],[]⟩),(841,⟨[.r 38 cb],[],[],[]⟩)] [] N (.cons (pN N)<|.cons (qf N)<|.nil) (.nil) (λa=>by kernel_rfl)
def uf(N:Nat):aX:=⟨[.c (.sl 1),ci],[cb],λa=>zew N a.1 a.2.1⟩
theorem uu(N:Nat):bj Tryz.prog 106 (uf N):=tg [] [(26,⟨[.r 5 ci],[],[],[]⟩),(420,⟨[.r 23 cb],[],[],[]⟩)] [] N (.nil) (.nil) (λa=>by kernel_rfl)
def u_(N:Nat):aX:=⟨[ci,ci,ci],[cb],λa=>NV N a.1 a.2.1 a.2.2.1⟩
theorem vp(N:Nat):bj Tryz.prog 205 (u_ N):=tg [] [] [] N (.nil) (.nil) (λa=>by kernel_rfl)
def pQ(N:Nat):aX:=⟨[.st 5],[cb],λa=>zdr N a.1⟩
theorem pT(N:Nat):bj Tryz.prog 143 (pQ N):=tg [] [(14,⟨[.r 61 cb],[],[],[]⟩),(26,⟨[.r 3 ci],[],[],[]⟩),(30,⟨[.r 85 cb],[],[],[]⟩),(62,⟨[.r 101 cb],[],[],[]⟩),(126,⟨[.r 119 cb],[],[],[]⟩)] [] N (.cons (vp N)<|.cons (zcq N)<|.cons (zcK N)<|.nil) (.nil) (λa=>by kernel_rfl)
def rB(N:Nat):aX:=⟨[.c (.sl 7),ci],[ci],λa=>zd5 N a.1 a.2.1⟩
theorem sK(N:Nat):bj Tryz.prog 146 (rB N):=tg [] [(26,⟨[.r 5 ci],[],[],[]⟩)] [] N (.nil) (.nil) (λa=>by kernel_rfl)
def uk(N:Nat):aX:=⟨[.st 5],[cb],λa=>zet N a.1⟩
theorem tI(N:Nat):bj Tryz.prog 176 (uk N):=tg [] [] [] N (.nil) (.nil) (λa=>by kernel_rfl)
def qz(N:Nat):aX:=⟨[.st 0,.st 0],[ci],λa=>zbo N a.1 a.2.1⟩
theorem zdI(N:Nat):bj Tryz.prog 242 (qz N):=tg [] [(6,⟨[.r 19 cb],[],[],[]⟩),(124,⟨[.r 5 ci,.h 2 0 (.int .i64),.h 2 1 (.int .i64),.h 2 2 (.int .i64),.h 2 3 (.int .i64)],[],[],[]⟩),(496,⟨[.r 27 cb],[],[],[]⟩)] [] N (.cons (zda N)<|.cons (zcK N)<|.cons (zcq N)<|.nil) (.nil) (λa=>by kernel_rfl)
def rz(N:Nat):aX:=⟨[.st 10,ci,.st 0],[ci],λa=>gz N a.1 a.2.1 a.2.2.1⟩
theorem qU(N:Nat):bj Tryz.prog 231 (rz N):=tg [] [(122,⟨[.r 7 ci,.r 8 ci],[],[],[]⟩)] [] N (.cons (zdI N)<|.nil) (.nil) (λa=>by kernel_rfl)
def sI(N:Nat):aX:=⟨[.st 10,ci,ci,.st 0],[cb],λa=>zcT N a.1 a.2.1 a.2.2.1 a.2.2.2.1⟩
theorem sM(N:Nat):bj Tryz.prog 177 (sI N):=tg [] [] [] N (.cons (qU N)<|.nil) (.nil) (λa=>by kernel_rfl)
def qg(N:Nat):aX:=⟨[.c (.sl 6)],[ci],λa=>zdu N a.1⟩
theorem pW(N:Nat):bj Tryz.prog 37 (qg N):=tg [] [(58,⟨[.r 3 ci,.r 4 ci],[],[],[]⟩),(233,⟨[.r 3 ci],[],[],[]⟩)] [] N (.nil) (.nil) (λa=>by kernel_rfl)
def tW(N:Nat):aX:=⟨[.c (.sl 1),ci],[cb],λa=>zes N a.1 a.2.1⟩
theorem tN(N:Nat):bj Tryz.prog 93 (tW N):=tg [] [(26,⟨[.r 5 ci],[],[],[]⟩)] [] N (.nil) (.nil) (λa=>by kernel_rfl)
def rC(N:Nat):aX:=⟨[.st 10,.st 5,.c (.sl 6)],[cb],λa=>zdW N a.1 a.2.1 a.2.2.1⟩
theorem rZ(N:Nat):bj Tryz.prog 36 (rC N):=tg [] [(6,⟨[.r 34 cb],[],[],[]⟩),(122,⟨[.r 8 ci],[],[],[]⟩)] [] N (.cons (tN N)<|.cons (gS N)<|.cons (pW N)<|.nil) (.nil) (λa=>by kernel_rfl)
def tS(N:Nat):aX:=⟨[.st 10,.st 14,.st 5],[cb],λa=>zex N a.1 a.2.1 a.2.2.1⟩
theorem ug(N:Nat):bj Tryz.prog 107 (tS N):=tg [] [(15,⟨[.r 7 ci],[],[],[]⟩),(31,⟨[.r 7 ci],[],[],[]⟩),(63,⟨[.r 7 ci],[],[],[]⟩),(510,⟨[.r 83 cb],[],[],[]⟩),(8186,⟨[.r 9 ci],[],[],[]⟩)] [] N (.cons (pT N)<|.cons (sK N)<|.cons (zcJ N)<|.cons (sM N)<|.cons (tI N)<|.cons (rZ N)<|.nil) (.nil) (λa=>by kernel_rfl)
def qF(N:Nat):aX:=⟨[.st 10,.st 14],[cb],λa=>zcu N a.1 a.2.1⟩
theorem qe(N:Nat):bj Tryz.prog 44 (qF N):=tg [] [(6,⟨[.r 43 cb],[],[],[]⟩),(14,⟨[.r 86 cb],[],[],[]⟩),(122,⟨[.r 5 ci],[],[],[]⟩),(250,⟨[.r 6 ci],[],[],[]⟩),(4004,⟨[.r 138 cb],[],[],[]⟩)] [] N (.cons (gU N)<|.cons (ug N)<|.cons (oZ N)<|.cons (qd N)<|.cons (uu N)<|.cons (qt N)<|.nil) (.nil) (λa=>by kernel_rfl)
def re(N:Nat):aX:=⟨[.st 5,.st 5],[cb],λa=>zdT N a.1 a.2.1⟩
theorem rE(N:Nat):bj Tryz.prog 150 (re N):=tg [] [(58,⟨[.r 5 ci],[],[],[]⟩)] [] N (.nil) (.nil) (λa=>by kernel_rfl)
def rK(N:Nat):aX:=⟨[.c (.sl 5),.c (.sl 5)],[cb],λa=>zdY N a.1 a.2.1⟩
theorem rI(N:Nat):bj Tryz.prog 79 (rK N):=tg [] [(58,⟨[.r 5 ci],[],[],[]⟩)] [] N (.cons (rE N)<|.nil) (.nil) (λa=>by kernel_rfl)
def rJ(N:Nat):aX:=⟨[.c (.sl 6),.c (.sl 6)],[cb],λa=>zcV N a.1 a.2.1⟩
theorem iO(N:Nat):bj Tryz.prog 55 (rJ N):=tg [] [(58,⟨[.r 5 ci],[],[],[]⟩)] [] N (.nil) (.nil) (λa=>by kernel_rfl)
def sf(N:Nat):aX:=⟨[.c (.sl 7),.c (.sl 7)],[cb],λa=>zdU N a.1 a.2.1⟩
theorem ry(N:Nat):bj Tryz.prog 80 (sf N):=tg [] [(58,⟨[.r 5 ci],[],[],[]⟩),(932,⟨[.r 54 cb],[],[],[]⟩)] [] N (.cons (iO N)<|.nil) (.nil) (λa=>by kernel_rfl)
def rP(N:Nat):aX:=⟨[.c (.sl 8),.c (.sl 8)],[cb],λa=>zd6 N a.1 a.2.1⟩
theorem sS(N:Nat):bj Tryz.prog 81 (rP N):=tg [] [(58,⟨[.r 5 ci],[],[],[]⟩)] [] N (.nil) (.nil) (λa=>by kernel_rfl)
def rp(N:Nat):aX:=⟨[.c (.sl 1),.c (.sl 1)],[cb],λa=>zcP N a.1 a.2.1⟩
theorem rS(N:Nat):bj Tryz.prog 82 (rp N):=tg [] [(58,⟨[.r 5 ci],[],[],[]⟩)] [] N (.nil) (.nil) (λa=>by kernel_rfl)
def sL(N:Nat):aX:=⟨[.st 14,.st 14],[cb],λa=>zdZ N a.1 a.2.1⟩
theorem qW(N:Nat):bj Tryz.prog 27 (sL N):=tg [] [] [] N (.cons (rI N)<|.cons (ry N)<|.cons (sS N)<|.cons (rS N)<|.nil) (.nil) (λa=>by kernel_rfl)
def mQ(N:Nat):dA:=⟨.mk [.v (.st 10),.v (.st 14)] [] [] [] [] [],[.mk [.p (.k (.c (.lit (.pointer none)))),.v cb] [] [] [] [] [(393227,[.mk [.p (.k (.c (.lit (.pointer none)))),.v ci] [] [] [(1000000,0)] [] [],.mk [.p (.pt 2 0 27),.p (.k (.c (.lit (.int .i64 0))))] [] [.cells [.pt 3 0 2,.pt 4 0 2,xl 0,xl 2,xl 3,xi,xi,xi,xi,xi,xi,xi,xi,xi,xi,xi,xi,xi,xi,xi,xi,xi,xi,xl 8,xl 1,.hd 5,xi],.cells [xi,.hd 6],.cells [xl 0,.mr 7],.row 1,.row 5,.mp 7 true] [] [] []]),(1966113,[.mk [.v (.st 14)] [] [] [(1000000,1)] [] []])],.mk [.p (.pt 0 0 27),.v cb] [] [.cells [.pt 1 0 2,.pt 2 0 2,xl 0,xl 2,xl 3,xi,xi,xi,xi,xi,xi,xi,xi,xi,xi,xi,xi,xi,xi,xi,xi,xi,xi,xl 8,xl 1,.hd 3,xi],.cells [xi,.hd 4],.cells [xl 0,.mr 5],.row 1,.row 5,.mp 7 true] [] [] []],λ(a,b)=>zbi N a b⟩
theorem na(N:Nat):cZ Tryz.prog 11 (mQ N):=og (g:=11) N (.cons (qe N)<|.cons (qW N)<|.nil) (.cons (wL N)<|.cons (zbz N)<|.nil) (by kernel_rfl) (λx=>by kernel_rfl)
def oS(N:Nat):dA:=⟨.mk [.p (.k (.c (.lit (.pointer none))))] [] [] [] [] [],[.mk [.p (.k (.c (.lit (.pointer none)))),.v ci] [] [] [] [] []],λx=>zeA N⟩
theorem oT(N:Nat):cZ Tryz.prog 12 (oS N):=og (g:=12) N (.nil) (.nil) (by kernel_rfl) (λx=>by kernel_rfl)
end Go.Abs
end
end
section
set_option maxRecDepth 100000
noncomputable section
namespace Go.Abs
open Go.Proofs
variable[Gl]
def nY(N:Nat):dA:=⟨.mk [.p (.k (.c (.lit (.pointer none)))),.p (.k (.c (.lit (.pointer none)))),.v (.st 5)] [] [] [] [] [],[.mk [.v (.st 19),.v cb] [] [] [] [] []],λx=>zbq N⟩
theorem oh(N:Nat):cZ Tryz.prog 13 (nY N):=og (g:=13) N (.nil) (.nil) (by kernel_rfl) (λx=>by kernel_rfl)
def ng(N:Nat):dA:=⟨.mk [.p (.pt 0 0 2),.v ci] [] [.cells [xi,.hd 1],.row 5] [] [] [],[.mk [.v (.st 5),.v cb] [] [] [] [] [(917518,[.mk [.v ci,.v cb] [] [] [(1000000,0)] [] []])]],λ(a,b,_)=>zcr N a b⟩
theorem ny(N:Nat):cZ Tryz.prog 108 (ng N):=og (g:=108) N (.cons (pu N)<|.nil) (.cons (zcF N)<|.nil) (by kernel_rfl) (λx=>by kernel_rfl)
def nA(N:Nat):dA:=⟨.mk [.p (.pt 0 0 27),.v ci] [] [.cells [.pt 1 0 2,.pt 2 0 2,xl 0,xl 2,xl 3,xi,xi,xi,xi,xi,xi,xi,xi,xi,xi,xi,xi,xi,xi,xi,xi,xi,xi,xl 8,xl 1,.hd 3,xi],.cells [xi,.hd 4],.cells [xl 0,.mr 5],.row 1,.row 5,.mp 7 true] [] [] [],[.mk [.v (.st 5),.v cb] [] [] [] [] [(917518,[.mk [.v (.st 5),.v cb] [] [] [(1000000,0)] [] []])]],λ(_,a,_,b,_,_,_,_,_,_,_,_,_,_,_,_,_,_,_,_,_,_,_,_,_,_,_,_,_,_)=>zcy N a b⟩
theorem nk(N:Nat):cZ Tryz.prog 45 (nA N):=og (g:=45) N (.nil) (.cons (ny N)<|.nil) (by kernel_rfl) (λx=>by kernel_rfl)
def Gn(N:Nat):aX:=⟨[.st 5],[ci],λa=>s_ N a.1⟩
theorem GX(N:Nat):bj Tryz.prog 46 (Gn N):=tg [] [(6,⟨[.r 11 cb],[],[],[]⟩)] [] N (.cons (zeJ N)<|.cons (mj N)<|.nil) (.nil) (λa=>by kernel_rfl)
def wA(N:Nat):aX:=⟨[.c (.sl 20),ci,ci],[cb],λa=>gg N a.1 a.2.1 a.2.2.1⟩
theorem wK(N:Nat):bj Tryz.prog 111 (wA N):=tg [] [(26,⟨[.r 11 ci],[],[],[]⟩),(1689,⟨[.r 36 cb],[],[],[]⟩)] [] N (.cons (lj N)<|.cons (Wj N)<|.nil) (.nil) (λa=>by kernel_rfl)
def BY(N:Nat):aX:=⟨[.c (.sl 21)],[cb],λa=>Zd N a.1⟩
theorem zef(N:Nat):bj Tryz.prog 179 (BY N):=tg [] [(58,⟨[.r 3 ci,.r 8 ci],[],[],[]⟩),(7474,⟨[.r 26 cb],[],[],[]⟩)] [] N (.cons (Wj N)<|.nil) (.nil) (λa=>by kernel_rfl)
def FF(N:Nat):aX:=⟨[ci,.st 0],[.c (.sl 21),ci],λa=>tx N a.1 a.2.1⟩
theorem EJ(N:Nat):bj Tryz.prog 112 (FF N):=tg [(10,21)] [] [] N (.cons (zef N)<|.nil) (.nil) (λa=>by kernel_rfl)
def CO(N:Nat):aX:=⟨[.c (.sl 21),ci],[ci],λa=>Z_ N a.1 a.2.1⟩
theorem VV(N:Nat):bj Tryz.prog 186 (CO N):=tg [] [] [(393224,[.mk [.v ci] [] [] [] [(28,⟨[.r 5 ci,.r 6 ci],[],[],[]⟩)] [(59375636,[.mk [.v cb] [] [] [] [] []])]])] N (.nil) (.nil) (λa=>by kernel_rfl)
def zd4(N:Nat):dA:=⟨.mk [.v (.c (.sl 21))] [] [] [] [] [],[.mk [.p (.hd 0)] [] [.row 21] [] [] []],λx=>zaO N x⟩
theorem zbN(N:Nat):cZ Tryz.prog 262 (zd4 N):=ko (i:=21) (sz:=40) (z:=[.c (.lit (.int .i64 0)),.c (.lit (.int .i64 0)),.c (.lit (.int .i64 0)),.c (.lit (.int .i64 0)),.c (.lit (.int .i64 0))]) (fn:=Tryz.f262) cW (by kernel_rfl) (by kernel_rfl) (by kernel_rfl) rfl
def zbC(N:Nat):dA:=⟨.mk [.p (.hd 0),.v ci,.p (.hd 1)] [] [.row 21,.row 21] [] [] [],[.mk [.p (.hd 0)] [.w 0 21] [] [] [] []],λ(a,b,d)=>zax N a b d⟩
theorem zdq(N:Nat):cZ Tryz.prog 263 (zbC N):=og (g:=263) N (.nil) (.nil) (by kernel_rfl) (λx=>by kernel_rfl)
def zdL(N:Nat):dA:=⟨.mk [.p (.hd 0),.v ci,.p (.hd 1)] [] [.row 21,.row 21] [] [] [],[.mk [.p (.hd 0)] [.w 0 21] [] [] [] []],λx=>zaL N x.1 x.2.1 x.2.2⟩
def UK:Go.Shelf.Ren:=⟨λ| 22=>263 | 29=>283 | 30=>284 | n=>n,λ| 24=>190 | 9=>255 | 3=>3 | 4=>4 | 0=>0 | n=>n,λn=>n⟩
theorem Ja:IL Tryz.prog UK 5 40 "slices.Insert[[]drayage/api.Step,drayage/api.Step]" (.agg #[.int .i64 0,.int .i64 0,.int .i64 0,.int .i64 0,.int .i64 0]):={ mixed:=cW,f22:=Tryz.func263.trans (congrArg some (by kernel_rfl)),ov:=λargs w=>Go.run_callFunc_extern Tryz.func283 (by kernel_rfl) (by kernel_rfl) (by kernel_rfl) (by kernel_rfl) args w,t0:=Tryz.underlying0,t3:=Tryz.underlying3,t4:=Tryz.underlying4,a3:=Tryz.isAgg3,z3:=Tryz.sizeOf3,a4:=Tryz.isAgg4,z4:=Tryz.sizeOf4,z9:=Tryz.sizeOf255,v9:=Tryz.zeroValue255,t24:=Tryz.underlying190,a24:=Tryz.isAgg190,z24:=Tryz.sizeOf190,v24:=Tryz.zeroValue190,i9:=by kernel_rfl }
theorem zdS(N:Nat):cZ Tryz.prog 263 (zdL N):=cZ.or (f1:=(zbC N).f) (f2:=λx=>Hy (α:=TT 21) x.1 x.2.1 x.2.2) (zdq N) (Dj (ii:=21) Ja (by kernel_rfl) (by kernel_rfl) (by kernel_rfl) (by kernel_rfl) (by kernel_rfl))
def EZ(N:Nat):aX:=⟨[.c (.sl 21),ci],[.c (.sl 21)],λa=>nV N a.1 a.2.1⟩
theorem jU(N:Nat):bj Tryz.prog 232 (EZ N):=tg [(30,21)] [] [(917515,[.mk [.p (.hd 0)] [] [.row 21] [(1000000,0)] [] []]),(4063263,[.mk [.p (.hd 0)] [.w 0 21] [] [(1000000,1)] [] []])] N (.cons (VV N)<|.nil) (.cons (zbN N)<|.cons (zdS N)<|.nil) (λa=>by kernel_rfl)
def zbr(N:Nat):dA:=⟨.mk [.p (.hd 0),.v ci,.p (.hd 1)] [] [.row 21,.row 21] [] [] [],[.mk [.p (.hd 0)] [.w 0 21] [] [] [] []],λ(a,b,d)=>zax N a b d⟩
theorem zdn(N:Nat):cZ Tryz.prog 263 (zbr N):=og (g:=263) N (.nil) (.nil) (by kernel_rfl) (λx=>by kernel_rfl)
def zdF(N:Nat):dA:=⟨.mk [.p (.hd 0),.v ci,.p (.hd 1)] [] [.row 21,.row 21] [] [] [],[.mk [.p (.hd 0)] [.w 0 21] [] [] [] []],λx=>zbZ N x.1 x.2.1 x.2.2⟩
theorem zdG(N:Nat):cZ Tryz.prog 263 (zdF N):=cZ.or (f1:=(zbr N).f) (f2:=λx=>Hy (α:=TT 21) x.1 x.2.1 x.2.2) (zdn N) (Dj (ii:=21) Ja (by kernel_rfl) (by kernel_rfl) (by kernel_rfl) (by kernel_rfl) (by kernel_rfl))
def vi(N:Nat):dA:=⟨.mk [.v (.c (.sl 21)),.v ci] [] [] [] [] [],[.mk [.p (.hd 0)] [] [.row 21] [(30,21)] [] [(917515,[.mk [.p (.hd 0)] [] [.row 21] [(1000000,0)] [] []]),(4063263,[.mk [.p (.hd 0)] [.w 0 21] [] [(1000000,1)] [] []])]],λ(a,b)=>jp N a b⟩
theorem uY(N:Nat):cZ Tryz.prog 232 (vi N):=og (g:=232) N (.cons (VV N)<|.nil) (.cons (zbN N)<|.cons (zdG N)<|.nil) (by kernel_rfl) (λx=>by kernel_rfl)
def AN(N:Nat):aX:=⟨[.c (.sl 21)],[.c (.sl 21)],λa=>mq N a.1⟩
theorem BB(N:Nat):bj Tryz.prog 233 (AN N):=tg [(13,21),(36,21)] [(122,⟨[.r 17 ci,.w 0 21],[(3,0)],[],[]⟩),(979,⟨[.w 0 21],[(3,0)],[],[]⟩)] [] N (.cons (zef N)<|.nil) (.nil) (λa=>by kernel_rfl)
def mP(N:Nat):aX:=⟨[.c (.sl 21),ci,ci,.st 0,.k 172],[.c (.sl 21),ci],λa=>zdH N a.1 a.2.1 a.2.2.1 a.2.2.2.1⟩
theorem mX(N:Nat):bj Tryz.prog 181 (mP N):=tg [] [(6,⟨[.r 40 cb],[],[],[]⟩),(62,⟨[],[],[(12,21)],[]⟩),(122,⟨[.r 13 ci,.w 1 21],[(12,1)],[],[]⟩)] [(917549,[.mk [.p (.hd 1)] [] [.row 21] [(1000000,0)] [] []])] N (.cons (jU N)<|.cons (VV N)<|.cons (AY N)<|.cons (BB N)<|.cons (zef N)<|.cons (Wj N)<|.nil) (.cons (uY N)<|.nil) (λa=>by kernel_rfl)
def CJ(N:Nat):aX:=⟨[.c (.sl 21),ci,ci,.st 0],[.c (.sl 21),ci],λa=>kw N a.1 a.2.1 a.2.2.1 a.2.2.2.1⟩
theorem uC(N:Nat):bj Tryz.prog 114 (CJ N):=tg [] [] [] N (.cons (mX N)<|.nil) (.nil) (λa=>by kernel_rfl)
def kF(N:Nat):dA:=⟨.mk [.p (.pt 0 0 3),.v ci,.v ci,.v (.c (.sl 6)),.v (.st 0)] [] [.cells [xi,.hd 1,.hd 2],.row 2,.row 22] [] [] [],[.mk [.v ci] [.h 0 2 (.hd 2),.w 2 22] [] [(20,22)] [(58,⟨[.r 23 ci,.w 4 22],[(11,4)],[],[]⟩),(122,⟨[.r 62 ci,.w 2 22],[],[],[(0,2,2)]⟩)] []],λ(_,a,b,d,e,f,_)=>zb5 N a b d e f⟩
theorem kY(N:Nat):cZ Tryz.prog 113 (kF N):=og (g:=113) N (.cons (wS N)<|.cons (uC N)<|.nil) (.nil) (by kernel_rfl) (λx=>by kernel_rfl)
def xo(N:Nat):dA:=⟨.mk [.v (.st 10),.v ci,.p (.hd 0),.v (.c (.sl 8))] [] [.row 20] [] [] [],[.mk [.p (.k (.c (.lit (.pointer none)))),.v ci] [] [] [(69,2),(96,22)] [(6,⟨[.r 51 cb],[],[],[]⟩),(122,⟨[.r 58 ci,.w 3 2],[],[(1050625,2)],[(2,1,3)]⟩),(250,⟨[.r 77 ci,.w 4 22],[],[(1050626,22)],[(2,2,4)]⟩),(506,⟨[.r 103 ci,.w 4 22],[],[],[(2,2,4)]⟩),(1018,⟨[.r 122 ci,.w 4 22],[],[],[(2,2,4)]⟩),(8147,⟨[.w 4 22],[],[],[(2,2,4)]⟩)] [(4247912563,[.mk [.v ci] [.h 2 2 (.hd 4),.w 4 22] [] [(1000000,0)] [] []])],.mk [.p (.pt 1 0 3),.p (.k (.c (.lit (.int .i64 0))))] [] [.cells [xi,xl 2,.hd 2],.row 22] [] [] []],λ(a,b,d,e)=>zee N a b d e⟩
theorem wE(N:Nat):cZ Tryz.prog 47 (xo N):=og (g:=47) N (.cons (zcR N)<|.cons (EJ N)<|.cons (uC N)<|.cons (V_ N)<|.cons (uK N)<|.cons (wK N)<|.nil) (.cons (kY N)<|.nil) (by kernel_rfl) (λx=>by kernel_rfl)
def oQ(N:Nat):dA:=⟨.mk [.p (.pt 0 0 27)] [] [.cells [.pt 1 0 2,.pt 2 0 2,xl 0,xl 2,xl 3,xi,xi,xi,xi,xi,xi,xi,xi,xi,xi,xi,xi,xi,xi,xi,xi,xi,xi,xl 8,xl 1,.hd 3,xi],.cells [xi,.hd 4],.cells [xl 0,.mr 5],.row 1,.row 5,.mp 7 true] [] [] [],[.mk [.p (.k (.c (.lit (.pointer none)))),.v ci] [] [] [(17,20),(40,20)] [(250,⟨[.r 21 ci,.w 7 20],[(5,7)],[],[]⟩)] [(917517,[.mk [.v (.st 14)] [] [] [(1000000,0)] [] []]),(8257580,[.mk [.v (.st 10)] [] [] [(1000000,2)] [] []]),(8257586,[.mk [.p (.k (.c (.lit (.pointer none)))),.v ci] [] [] [(1000000,3)] [] [],.mk [.p (.pt 8 0 3),.p (.k (.c (.lit (.int .i64 0))))] [] [.cells [xi,xl 2,.hd 9],.row 22] [] [] []]),(2100428829,[.mk [.v (.st 5),.v cb] [] [] [(1000000,1)] [] []])],.mk [.p (.pt 6 0 3),.p (.k (.c (.lit (.int .i64 0))))] [] [.cells [xi,xl 2,.hd 7],.row 22] [] [] []],λ(s,t,u,v,w,x,y,z,A,E,a,b,d,e,f,g,h,i,j,k,l,m,n,o,p,q,r,_,_)=>zdb N s t u v w x y z A E a b d e f g h i j k l m n o p q r⟩
theorem oN(N:Nat):cZ Tryz.prog 12 (oQ N):=og (g:=12) N (.cons (GX N)<|.nil) (.cons (zbz N)<|.cons (nk N)<|.cons (zbH N)<|.cons (wE N)<|.nil) (by kernel_rfl) (λx=>by kernel_rfl)
def jH(N:Nat):aX:=⟨[.st 25,.st 24],[.st 25],λa=>zcS N a.1 a.2.1⟩
theorem jW(N:Nat):bj Tryz.prog 50 (jH N):=tg [(22,24)] [] [] N (.nil) (.nil) (λa=>by kernel_rfl)
def nQ(N:Nat):aX:=⟨[.st 10,.st 14],[.st 25],λa=>zb0 N a.1 a.2.1⟩
theorem nW(N:Nat):bj Tryz.prog 14 (nQ N):=tg [] [(58,⟨[.r 6 ci,.h 3 0 (.sl 0),.h 3 1 (.sl 2),.h 3 2 (.sl 3),.h 3 3 (.int .i64),.h 3 4 (.int .i64),.h 3 5 (.int .i64),.h 3 6 (.int .i64),.h 3 7 (.int .i64),.h 3 8 (.int .i64),.h 3 9 (.int .i64),.h 3 10 (.int .i64),.h 3 11 (.int .i64),.h 3 12 (.int .i64),.h 3 13 (.int .i64),.h 3 14 (.int .i64),.h 3 15 (.int .i64),.h 3 16 (.int .i64),.h 3 17 (.int .i64),.h 3 18 (.int .i64),.h 3 19 (.sl 24),.h 3 20 (.sl 8)],[],[],[]⟩)] [] N (.cons (zcJ N)<|.cons (jW N)<|.nil) (.nil) (λa=>by kernel_rfl)
def Iz(N:Nat):aX:=⟨[.c (.sl 21),ci],[.st 0],λa=>sX N a.1 a.2.1⟩
theorem I_(N:Nat):bj Tryz.prog 117 (Iz N):=tg [] [(6,⟨[.r 15 cb],[],[],[]⟩)] [] N (.cons (VV N)<|.cons (zef N)<|.nil) (.nil) (λa=>by kernel_rfl)
def iL(N:Nat):aX:=⟨[.st 25,ci,ci],[.st 0],λa=>zbA N a.1 a.2.1 a.2.2.1⟩
theorem iU(N:Nat):bj Tryz.prog 118 (iL N):=tg [] [(58,⟨[.r 8 ci,.h 2 0 (.int .i64),.h 2 1 (.int .i64),.h 2 2 (.int .i64),.h 2 3 (.int .i64)],[],[],[]⟩),(233,⟨[.h 2 0 (.int .i64),.h 2 1 (.int .i64),.h 2 2 (.int .i64),.h 2 3 (.int .i64)],[],[],[]⟩)] [] N (.cons (eT N)<|.cons (gR N)<|.cons (zda N)<|.nil) (.nil) (λa=>by kernel_rfl)
def jh(N:Nat):aX:=⟨[.st 25,ci,ci],[.st 0,cb],λa=>zaG N a.1 a.2.1 a.2.2.1⟩
theorem zb4(N:Nat):bj Tryz.prog 52 (jh N):=tg [] [] [] N (.cons (iU N)<|.cons (gX N)<|.cons (zcK N)<|.cons (jC N)<|.nil) (.nil) (λa=>by kernel_rfl)
def kN(N:Nat):dA:=⟨.mk [.p (.k (.c (.lit (.pointer none)))),.v ci] [] [] [] [] [],[.mk [.v (.c (.sl 0))] [] [] [] [] []],λx=>fw N⟩
theorem lh(N:Nat):cZ Tryz.prog 51 (kN N):=og (g:=51) N (.nil) (.nil) (by kernel_rfl) (λx=>by kernel_rfl)
def kB(N:Nat):dA:=⟨.mk [.p (.k (.c (.lit (.pointer none)))),.v (.st 25),.v ci] [] [] [] [] [],[.mk [.v cb] [] [] [] [(250,⟨[.r 30 ci],[],[],[]⟩)] [(393229,[.mk [.v (.c (.sl 0))] [] [] [(1000000,0)] [] []])]],λ(a,b)=>zdc N a b⟩
theorem kK(N:Nat):cZ Tryz.prog 15 (kB N):=og (g:=15) N (.cons (zb4 N)<|.nil) (.cons (lh N)<|.nil) (by kernel_rfl) (λx=>by kernel_rfl)
def nC(N:Nat):dA:=⟨.mk [.p (.pt 0 0 27),.p (.k (.c (.lit (.pointer none)))),.v (.st 5)] [] [.cells [.pt 1 0 2,.pt 2 0 2,xl 0,xl 2,xl 3,xi,xi,xi,xi,xi,xi,xi,xi,xi,xi,xi,xi,xi,xi,xi,xi,xi,xi,xl 8,xl 1,.hd 3,xi],.cells [xi,.hd 4],.cells [xl 0,.mr 5],.row 1,.row 5,.mp 7 true] [] [] [],[.mk [.v (.st 19),.v cb] [] [] [] [] []],λx=>zbq N⟩
theorem mL(N:Nat):cZ Tryz.prog 13 (nC N):=og (g:=13) N (.nil) (.nil) (by kernel_rfl) (λx=>by kernel_rfl)
def rQ(N:Nat):aX:=⟨[.st 10,.st 5],[.st 26],λa=>gH N a.1 a.2.1⟩
theorem sv(N:Nat):bj Tryz.prog 54 (rQ N):=tg [] [] [] N (.nil) (.nil) (λa=>by kernel_rfl)
def jM(N:Nat):dA:=⟨.mk [.p (.hd 0),.v ci] [] [.row 1] [] [] [],[.mk [.v (.c (.sl 1))] [] [] [(65,1)] [(58,⟨[.r 5 (.c (.sl 1)),.r 6 ci],[],[],[]⟩),(233,⟨[.r 5 (.c (.sl 1))],[],[],[]⟩),(7460,⟨[.r 7 ci],[],[],[]⟩),(7462,⟨[.r 54 cb],[],[],[]⟩),(29840,⟨[.r 29 cb],[],[],[]⟩)] []],λ(a,b)=>zbT N a b⟩
theorem jI(N:Nat):cZ Tryz.prog 190 (jM N):=og (g:=190) N (.nil) (.nil) (by kernel_rfl) (λx=>by kernel_rfl)
def iN(N:Nat):aX:=⟨[.st 25],[.c (.sl 1)],λa=>za6 N a.1⟩
theorem zdi(N:Nat):bj Tryz.prog 121 (iN N):=tg [(8,1),(23,1),(32,1),(48,1),(57,1)] [(58,⟨[.r 4 ci,.w 1 1],[(3,1)],[],[]⟩),(122,⟨[.r 5 ci,.w 1 1],[(3,1)],[],[]⟩)] [(4063294,[.mk [.v (.c (.sl 1))] [] [] [(1000000,0)] [] []])] N (.nil) (.cons (jI N)<|.nil) (λa=>by kernel_rfl)
def uj(N:Nat):aX:=⟨[ci,ci],[ci],λa=>zbX N a.1 a.2.1⟩
theorem tU(N:Nat):bj Tryz.prog 240 (uj N):=tg [] [] [] N (.nil) (.nil) (λa=>by kernel_rfl)
def qj(N:Nat):aX:=⟨[.st 0,.st 0],[.st 0],λa=>zcA N a.1 a.2.1⟩
theorem p_(N:Nat):bj Tryz.prog 191 (qj N):=tg [] [] [] N (.cons (tU N)<|.nil) (.nil) (λa=>by kernel_rfl)
def rH(N:Nat):aX:=⟨[.c (.sl 0),.c (.sl 1),.st 0],[ci],λa=>zd0 N a.1 a.2.1 a.2.2.1⟩
theorem sJ(N:Nat):bj Tryz.prog 241 (rH N):=tg [] [(58,⟨[.r 7 ci,.r 8 ci],[],[],[]⟩),(233,⟨[.r 7 ci],[],[],[]⟩),(932,⟨[.r 28 cb],[],[],[]⟩)] [] N (.cons (zdI N)<|.nil) (.nil) (λa=>by kernel_rfl)
def jS(N:Nat):dA:=⟨.mk [.p (.hd 0),.v (.c (.sl 1)),.v ci,.v (.st 0)] [] [.row 0] [] [] [],[.mk [.v (.c (.sl 6)),.v cb] [] [] [(71,6)] [(6,⟨[.r 23 cb],[],[],[]⟩),(250,⟨[.r 11 ci,.r 12 ci,.w 2 6],[(10,2)],[(10,6)],[]⟩),(1001,⟨[.r 11 ci,.w 2 6],[(10,2)],[],[]⟩),(8008,⟨[.r 48 cb],[],[],[]⟩),(16019,⟨[.r 13 ci],[],[],[]⟩),(32039,⟨[.w 2 6],[(10,2)],[],[]⟩)] []],λ(a,b,d,e)=>zbL N a b d e⟩
theorem jY(N:Nat):cZ Tryz.prog 192 (jS N):=og (g:=192) N (.cons (zdI N)<|.cons (sJ N)<|.nil) (.nil) (by kernel_rfl) (λx=>by kernel_rfl)
def jq(N:Nat):aX:=⟨[.st 25,.st 26,ci],[.c (.sl 6),cb],λa=>QS N a.1 a.2.1 a.2.2.1⟩
theorem js(N:Nat):bj Tryz.prog 122 (jq N):=tg [(103,0)] [(250,⟨[.r 10 ci,.w 2 0],[(9,2)],[(9,0)],[]⟩),(64074,⟨[.r 13 ci,.h 3 0 (.int .i64),.h 3 1 (.int .i64),.h 3 2 (.int .i64),.h 3 3 (.int .i64)],[],[],[]⟩),(256297,⟨[.h 3 0 (.int .i64),.h 3 1 (.int .i64),.h 3 2 (.int .i64),.h 3 3 (.int .i64)],[],[],[]⟩),(1025188,⟨[.r 87 cb],[],[],[]⟩)] [(8257653,[.mk [.v (.c (.sl 6)),.v cb] [] [] [(1000000,0)] [] []])] N (.cons (zdi N)<|.cons (zb4 N)<|.cons (p_ N)<|.nil) (.cons (jY N)<|.nil) (λa=>by kernel_rfl)
def fW(N:Nat):aX:=⟨[.st 25,.st 26],[.st 19,cb],λa=>zaU N a.1 a.2.1⟩
theorem gE(N:Nat):bj Tryz.prog 53 (fW N):=tg [] [(58,⟨[.r 7 ci],[],[],[]⟩)] [] N (.cons (zdi N)<|.cons (js N)<|.nil) (.nil) (λa=>by kernel_rfl)
def ni(N:Nat):aX:=⟨[.st 10,.st 25,.st 5],[.st 19,cb],λa=>zbh N a.1 a.2.1 a.2.2.1⟩
theorem nj(N:Nat):bj Tryz.prog 16 (ni N):=tg [] [(7,⟨[.h 4 0 (.int .i64)],[],[],[]⟩)] [] N (.cons (sv N)<|.cons (gE N)<|.nil) (.nil) (λa=>by kernel_rfl)
def sN(N:Nat):aX:=⟨[.st 19,.st 19],[cb],λa=>zcQ N a.1 a.2.1⟩
theorem qQ(N:Nat):bj Tryz.prog 17 (sN N):=tg [] [] [] N (.cons (iO N)<|.nil) (.nil) (λa=>by kernel_rfl)
def qc(N:Nat):aX:=⟨[.st 5],[cb],λa=>zdx N a.1⟩
theorem qH(N:Nat):bj Tryz.prog 18 (qc N):=tg [] [] [] N (.nil) (.nil) (λa=>by kernel_rfl)
def lr(N:Nat):dA:=⟨.mk [.p (.pt 0 0 3),.v ci] [] [.cells [xi,xl 2,.hd 1],.row 22] [] [] [],[.mk [.v (.c (.sl 0))] [] [] [(23,0)] [(122,⟨[.r 29 ci,.w 2 0],[(5,2)],[],[]⟩)] []],λ(a,b,d,_)=>zc2 N a b d⟩
theorem kM(N:Nat):cZ Tryz.prog 51 (lr N):=og (g:=51) N (.cons (I_ N)<|.nil) (.nil) (by kernel_rfl) (λx=>by kernel_rfl)
def kW(N:Nat):dA:=⟨.mk [.p (.pt 0 0 3),.v (.st 25),.v ci] [] [.cells [xi,xl 2,.hd 1],.row 22] [] [] [],[.mk [.v cb] [] [] [] [(250,⟨[.r 30 ci],[],[],[]⟩)] [(393229,[.mk [.v (.c (.sl 0))] [] [] [(1000000,0)] [] []])]],λ(a,b,d,e,_)=>zaQ N a b d e⟩
theorem kJ(N:Nat):cZ Tryz.prog 15 (kW N):=og (g:=15) N (.cons (zb4 N)<|.nil) (.cons (kM N)<|.nil) (by kernel_rfl) (λx=>by kernel_rfl)
def lz(N:Nat):dA:=⟨.mk [.p (.hd 0)] [] [.row 1] [] [] [],[.mk [] [.w 0 1] [] [] [] []],λx=>zb2 N x⟩
theorem lK(N:Nat):cZ Tryz.prog 182 (lz N):=WP (ii:=1) Tryz.sortsI (d:=λk=>k) (c:=λk=>k) (λa=>rfl) (λk=>rfl) (by kernel_rfl)
def iS(N:Nat):dA:=⟨.mk [.p (.hd 0)] [] [.row 1] [] [] [],[.mk [.p (.hd 1)] [.w 0 1] [.row 1] [] [] []],λx=>zby N x⟩
theorem iE(N:Nat):cZ Tryz.prog 183 (iS N):=LM (ii:=1) Tryz.Pn (d:=λk=>k) (c:=λk=>k) (λa=>rfl) (λk=>rfl) (by kernel_rfl)
def Fc(N:Nat):aX:=⟨[.st 0,.st 0],[.st 0],λa=>yd N a.1 a.2.1⟩
theorem Ff(N:Nat):bj Tryz.prog 236 (Fc N):=tg [] [] [] N (.nil) (.nil) (λa=>by kernel_rfl)
end Go.Abs
end
end
section
set_option maxRecDepth 100000
noncomputable section
namespace Go.Abs
open Go.Proofs
variable[Gl]
def Bz(N:Nat):aX:=⟨[.c (.sl 21),ci,ci],[.st 0],λa=>mG N a.1 a.2.1 a.2.2.1⟩
theorem Bb(N:Nat):bj Tryz.prog 184 (Bz N):=tg [] [(6,⟨[.r 26 cb],[],[],[]⟩),(31,⟨[.h 1 0 (.int .i64),.h 1 1 (.int .i64),.h 1 2 (.int .i64),.h 1 3 (.int .i64)],[],[],[]⟩),(250,⟨[.r 41 ci,.h 1 0 (.int .i64),.h 1 1 (.int .i64),.h 1 2 (.int .i64),.h 1 3 (.int .i64)],[],[],[]⟩)] [] N (.cons (VV N)<|.cons (Ff N)<|.cons (zef N)<|.nil) (.nil) (λa=>by kernel_rfl)
def Gc(N:Nat):aX:=⟨[.c (.sl 0),ci,.st 0],[ci],λa=>nZ N a.1 a.2.1 a.2.2.1⟩
theorem wZ(N:Nat):bj Tryz.prog 238 (Gc N):=tg [] [] [] N (.cons (xx N)<|.nil) (.nil) (λa=>by kernel_rfl)
def Cs(N:Nat):aX:=⟨[.c (.sl 0),.c (.sl 1),.st 0],[ci],λa=>pc N a.1 a.2.1 a.2.2.1⟩
theorem Cy(N:Nat):bj Tryz.prog 237 (Cs N):=tg [] [(58,⟨[.r 7 ci,.r 12 ci],[],[],[]⟩)] [] N (.cons (wZ N)<|.nil) (.nil) (λa=>by kernel_rfl)
def ru(N:Nat):dA:=⟨.mk [.p (.hd 0),.v (.c (.sl 1)),.v ci,.v (.st 0)] [] [.row 0] [] [] [],[.mk [.v (.c (.sl 6)),.v cb] [] [] [(48,6)] [(12,⟨[.r 24 cb],[],[],[]⟩),(111,⟨[.w 2 6],[(10,2)],[(10,6)],[]⟩),(890,⟨[.r 11 ci,.r 28 ci,.w 2 6],[(10,2)],[],[]⟩),(7123,⟨[.r 11 ci,.w 2 6],[(10,2)],[],[]⟩)] []],λ(a,b,d,e)=>zd2 N a b d e⟩
theorem sY(N:Nat):cZ Tryz.prog 185 (ru N):=og (g:=185) N (.cons (wZ N)<|.cons (Cy N)<|.nil) (.nil) (by kernel_rfl) (λx=>by kernel_rfl)
def ke(N:Nat):dA:=⟨.mk [.p (.pt 0 0 3),.v ci] [] [.cells [xi,xl 2,.hd 1],.row 22] [] [] [],[.mk [.v (.c (.sl 1))] [] [] [(52,1)] [(62,⟨[],[(5,0)],[],[]⟩),(122,⟨[.r 33 ci,.w 2 1],[(5,2)],[(5,1)],[]⟩),(31334,⟨[.r 45 ci,.w 2 1],[(5,2)],[],[]⟩)] [(4063289,[.mk [] [.w 2 1] [] [(1000000,0)] [] []]),(8257595,[.mk [.p (.hd 3)] [.w 2 1] [.row 1] [(1000000,1)] [] []])]],λ(a,b,_,d)=>zbS N a b d⟩
theorem jP(N:Nat):cZ Tryz.prog 115 (ke N):=og (g:=115) N (.nil) (.cons (lK N)<|.cons (iE N)<|.nil) (by kernel_rfl) (λx=>by kernel_rfl)
def lH(N:Nat):dA:=⟨.mk [.p (.pt 0 0 3),.v ci,.v ci,.v (.st 0),.v ci,.v ci] [] [.cells [xi,xl 2,.hd 1],.row 22] [] [] [],[.mk [.v (.c (.sl 6)),.v cb] [] [] [(57,0)] [(122,⟨[.r 66 ci,.w 3 0],[(14,3)],[],[]⟩)] [(4063328,[.mk [.v (.c (.sl 6)),.v cb] [] [] [(1000000,0)] [] []])]],λ(a,b,d,e,f,g,h,i)=>zaD N a b d e f g h i⟩
theorem lB(N:Nat):cZ Tryz.prog 116 (lH N):=og (g:=116) N (.cons (Bb N)<|.nil) (.cons (sY N)<|.nil) (by kernel_rfl) (λx=>by kernel_rfl)
def iu(N:Nat):dA:=⟨.mk [.p (.pt 0 0 3),.v ci,.v ci,.v (.st 0),.v ci] [] [.cells [xi,xl 2,.hd 1],.row 22] [] [] [],[.mk [.v (.st 19),.v cb] [] [] [] [(3,⟨[.r 12 (.c (.sl 1)),.r 13 ci],[],[],[]⟩)] [(786450,[.mk [.v (.c (.sl 1))] [] [] [(1000000,0)] [] []]),(8126498,[.mk [.v (.c (.sl 6)),.v cb] [] [] [(1000000,1)] [] []]),(29098018,[.mk [.v (.c (.sl 6)),.v cb] [] [] [(1000000,1)] [] []])]],λ(a,b,d,e,f,g,h)=>za1 N a b d e f g h⟩
theorem g_(N:Nat):cZ Tryz.prog 49 (iu N):=og (g:=49) N (.nil) (.cons (jP N)<|.cons (lB N)<|.nil) (by kernel_rfl) (λx=>by kernel_rfl)
def nR(N:Nat):dA:=⟨.mk [.p (.pt 0 0 27),.p (.pt 1 0 3),.v (.st 5)] [] [.cells [.pt 2 0 2,.pt 3 0 2,xl 0,xl 2,xl 3,xi,xi,xi,xi,xi,xi,xi,xi,xi,xi,xi,xi,xi,xi,xi,xi,xi,xi,xl 8,xl 1,.hd 4,xi],.cells [xi,xl 2,.hd 5],.cells [xi,.hd 6],.cells [xl 0,.mr 7],.row 1,.row 22,.row 5,.mp 7 true] [] [] [],[.mk [.v (.st 19),.v cb] [] [] [] [] [(917523,[.mk [.v (.st 10)] [] [] [(1000000,0)] [] []]),(4063279,[.mk [.v (.st 19),.v cb] [] [] [(1000000,1)] [] []])]],λ(_,q,_,_,r,s,t,u,v,w,a,b,d,e,f,g,h,i,j,k,l,m,n,_,_,_,_,_,_,o,p,_,_)=>za8 N q r s t u v w a b d e f g h i j k l m n o p⟩
theorem oq(N:Nat):cZ Tryz.prog 13 (nR N):=og (g:=13) N (.nil) (.cons (zbH N)<|.cons (g_ N)<|.nil) (by kernel_rfl) (λx=>by kernel_rfl)
def kX(N:Nat):aX:=⟨[.st 9,ci],[cb],λa=>zc7 N a.1 a.2.1⟩
theorem kV(N:Nat):bj Tryz.prog 3 (kX N):=tg [] [(510,⟨[.r 94 cb],[],[],[]⟩),(4090,⟨[.r 99 ci],[],[],[]⟩),(1047143,⟨[.r 140 cb],[],[],[]⟩)] [(1966116,[.mk [.p (.k (.c (.lit (.pointer none)))),.v cb] [] [] [(1000000,0)] [] [],.mk [.p (.pt 1 0 27),.v cb] [] [.cells [.pt 2 0 2,.pt 3 0 2,xl 0,xl 2,xl 3,xi,xi,xi,xi,xi,xi,xi,xi,xi,xi,xi,xi,xi,xi,xi,xi,xi,xi,xl 8,xl 1,.hd 4,xi],.cells [xi,.hd 5],.cells [xl 0,.mr 6],.row 1,.row 5,.mp 7 true] [] [] []]),(8257605,[.mk [.p (.k (.c (.lit (.pointer none)))),.v ci] [] [] [(1000000,3)] [] [],.mk [.p (.pt 7 0 3),.p (.k (.c (.lit (.int .i64 0))))] [] [.cells [xi,xl 2,.hd 8],.row 22] [] [] []]),(32768046,[.mk [.p (.k (.c (.lit (.pointer none)))),.v ci] [] [] [(1000000,1)] [] []]),(65667123,[.mk [.v (.st 19),.v cb] [] [] [(1000000,2)] [] []]),(66846803,[.mk [.v cb] [] [] [(1000000,4)] [] []]),(66846812,[.mk [.v cb] [] [] [(1000000,4)] [] []]),(268304536,[.mk [.v (.st 19),.v cb] [] [] [(1000000,5)] [] []]),(34312683627,[.mk [.v (.st 19),.v cb] [] [] [(1000000,5)] [] []]),(12094694752339,[.mk [.v cb] [] [] [(1000000,6)] [] []]),(12094694752348,[.mk [.v cb] [] [] [(1000000,6)] [] []]),(13194407837848,[.mk [.v (.st 19),.v cb] [] [] [(1000000,7)] [] []]),(13228452216939,[.mk [.v (.st 19),.v cb] [] [] [(1000000,7)] [] []])] N (.cons (pZ N)<|.cons (tZ N)<|.cons (nW N)<|.cons (nj N)<|.cons (qQ N)<|.cons (qH N)<|.nil) (.cons (na N)<|.cons (oT N)<|.cons (oh N)<|.cons (oN N)<|.cons (kK N)<|.cons (mL N)<|.cons (kJ N)<|.cons (oq N)<|.nil) (λa=>by kernel_rfl)
end Go.Abs
end
end
section
end
