/- The code computes these functions. -/
import Derived.Test.YtmaocdlpgdadnaaGreatTyPure
import Derived.Test.YtmaocdlpgdadnaaGreatProg
import Derived.Test.YtmaocdlpgdadnaaGreatTyPrim
import Derived.KernelRfl
set_option linter.all false
section
set_option maxRecDepth 100000
noncomputable section
namespace Go.Abs
open Go.Proofs
variable[Gl]
abbrev ci:bT:=.c (.int .i64)
abbrev cb:bT:=.c .bool
abbrev xi:CP:=.c (.int .i64)
abbrev xb:CP:=.c .bool
abbrev xl(n:Nat):CP:=.c (.sl n)
abbrev xn:CP:=.k (.c (.lit (.slice none 0 0)))
theorem cy:Tryz.prog.follows .mixedOrders=true:=by kernel_rfl
def KB:bU:=BP 115 189 1 (λk=>k)
theorem UR:bU.ok Tryz.prog KB:=H_ Tryz.KV (λk=>rfl)
theorem tg{g:Nat}{S:ot}{s:aY}(H:List (Nat×Nat))(J:List (Nat×JH))(C:List (Nat×List CT))(N:Nat)(b:dB Tryz.prog S){O:FW}(d:pD Tryz.prog O)(h:∀a,tG Tryz.prog g S O KB H J C s.ins s.out N a=s.f a):a_ Tryz.prog g s:=Zg cy b d UR h
theorem og{g:Nat}{S:ot}{O:FW}{s:jp}(N:Nat)(a:dB Tryz.prog S)(b:pD Tryz.prog O)(d:aH Tryz.prog g=true)(h:∀x,oG Tryz.prog g S O KB N s x=s.f x):jb Tryz.prog g s:=YX cy a b UR d h
end Go.Abs
end
end
section
set_option maxRecDepth 100000
noncomputable section
namespace Go.Abs
open Go.Proofs
variable[Gl]
def nK(N:Nat):aY:=⟨[],[.st 10],λa=>dW N⟩
theorem nZ(N:Nat):a_ Tryz.prog 34 (nK N):=XR (P:=Tryz.prog) (g:=34) (out:=[.st 10]) (λa=>dW N) cy (by kernel_rfl)
def xK(N:Nat):aY:=⟨[.st 0],[.st 11],λa=>dZ N a.1⟩
theorem oR(N:Nat):a_ Tryz.prog 216 (xK N):=tg [] [] [] N (.nil) (.nil) (λa=>by kernel_rfl)
def BO(N:Nat):aY:=⟨[.st 0],[cb],λa=>Md N a.1⟩
theorem Xu(N:Nat):a_ Tryz.prog 163 (BO N):=tg [] [(26,⟨[.r 7 ci],[],[],[]⟩)] [] N (.cons (oR N)<|.nil) (.nil) (λa=>by kernel_rfl)
def sO(N:Nat):aY:=⟨[.st 10],[cb],λa=>dG N a.1⟩
theorem tx(N:Nat):a_ Tryz.prog 249 (sO N):=tg [] [(58,⟨[.r 18 ci],[],[],[]⟩)] [] N (.cons (Xu N)<|.nil) (.nil) (λa=>by kernel_rfl)
def tJ(N:Nat):aY:=⟨[.c (.sl 1),ci],[cb],λa=>zdm N a.1 a.2.1⟩
theorem ko(N:Nat):a_ Tryz.prog 283 (tJ N):=tg [] [(58,⟨[.r 5 ci,.r 10 ci],[],[],[]⟩)] [] N (.nil) (.nil) (λa=>by kernel_rfl)
def tr(N:Nat):aY:=⟨[.st 10],[cb],λa=>dI N a.1⟩
theorem s_(N:Nat):a_ Tryz.prog 251 (tr N):=tg [] [(58,⟨[.r 18 ci],[],[],[]⟩),(3737,⟨[.r 32 cb],[],[],[]⟩)] [] N (.cons (ko N)<|.nil) (.nil) (λa=>by kernel_rfl)
def q_(N:Nat):aY:=⟨[.st 10],[cb],λa=>zdz N a.1⟩
theorem rf(N:Nat):a_ Tryz.prog 254 (q_ N):=tg [] [(58,⟨[.r 20 ci],[],[],[]⟩),(7474,⟨[.r 42 cb],[],[],[]⟩),(59802,⟨[.r 50 ci],[],[],[]⟩)] [] N (.cons (ko N)<|.nil) (.nil) (λa=>by kernel_rfl)
def pg(N:Nat):aY:=⟨[.st 12],[cb],λa=>zdd N a.1⟩
theorem pE(N:Nat):a_ Tryz.prog 256 (pg N):=tg [] [(26,⟨[.r 14 ci],[],[],[]⟩)] [] N (.nil) (.nil) (λa=>by kernel_rfl)
def Bq(N:Nat):aY:=⟨[.st 10],[.c .str],λa=>uX N a.1⟩
theorem CK(N:Nat):a_ Tryz.prog 138 (Bq N):=tg [] [(26,⟨[],[],[(1000003,40)],[]⟩)] [(786438,[.mk [] [] [] [(1000002,0),(43,1000001)] [] [(393225,[.mk [] [] [] [(1000002,0)] [] []]),(393232,[.mk [] [] [] [(1000002,0)] [] []]),(393237,[.mk [] [] [] [(1000002,0)] [] []]),(393240,[.mk [] [] [] [(1000002,0)] [] []]),(393243,[.mk [] [] [] [(1000002,0)] [] []]),(393246,[.mk [] [] [] [(1000002,0)] [] []]),(393249,[.mk [] [] [] [(1000002,0)] [] []]),(393252,[.mk [] [] [] [(1000002,0)] [] []]),(393255,[.mk [] [] [] [(1000002,0)] [] []]),(393258,[.mk [] [] [] [(1000002,0)] [] []])]]),(221380622,[.mk [.v cb] [] [] [] [] []])] N (.cons (tx N)<|.cons (s_ N)<|.cons (rf N)<|.cons (pE N)<|.nil) (.nil) (λa=>by kernel_rfl)
def zS(N:Nat):aY:=⟨[.st 10],[cb],λa=>JT N a.1⟩
theorem Uq(N:Nat):a_ Tryz.prog 70 (zS N):=tg [] [] [] N (.cons (CK N)<|.nil) (.nil) (λa=>by kernel_rfl)
def sq(N:Nat):jp:=⟨.mk [.v ci] [] [] [] [] [],[.mk [.p (.k (.c (.lit (.pointer none)))),.p (.k (.c (.lit (.int .i64 2))))] [] [] [] [] [],.mk [.p (.pt 0 0 2),.p (.k (.c (.lit (.int .i64 0))))] [] [.cells [xi,xn]] [] [] []],λa=>YK N a⟩
theorem jO(N:Nat):jb Tryz.prog 88 (sq N):=og (g:=88) N (.nil) (.nil) (by kernel_rfl) (λx=>by kernel_rfl)
def eX(N:Nat):aY:=⟨[.c (.sl 0)],[.c (.sl 0)],λa=>zaF N a.1⟩
theorem zb5(N:Nat):a_ Tryz.prog 158 (eX N):=pH (i:=0) (sz:=32) (z:=[.c (.lit (.int .i64 0)),.c (.lit (.int .i64 0)),.c (.lit (.int .i64 0)),.c (.lit (.int .i64 0))]) (fn:=Tryz.f158) cy (by kernel_rfl) (by kernel_rfl) (by kernel_rfl) rfl
def qW(N:Nat):jp:=⟨.mk [.v (.st 10)] [] [] [] [] [],[.mk [.p (.k (.c (.lit (.pointer none)))),.p (.k (.c (.lit (.int .i64 2))))] [] [] [(10,15)] [] [],.mk [.p (.pt 0 0 2),.p (.k (.c (.lit (.int .i64 0))))] [] [.cells [xl 0,.mr 1],.mp 7 true] [] [] []],λa=>YC N a⟩
theorem zdN(N:Nat):jb Tryz.prog 89 (qW N):=og (g:=89) N (.cons (Uq N)<|.cons (zb5 N)<|.nil) (.nil) (by kernel_rfl) (λx=>by kernel_rfl)
def fW(N:Nat):jp:=⟨.mk [.v (.c (.sl 2))] [] [] [] [] [],[.mk [.p (.hd 0)] [] [.row 2] [] [] []],λx=>zbN N x⟩
theorem gh(N:Nat):jb Tryz.prog 159 (fW N):=lV (i:=2) (sz:=24) (z:=[.c (.lit (.slice none 0 0))]) (fn:=Tryz.f159) cy (by kernel_rfl) (by kernel_rfl) (by kernel_rfl) rfl
def lc(N:Nat):aY:=⟨[.c (.sl 1)],[.c (.sl 1)],λa=>YE N a.1⟩
theorem zdQ(N:Nat):a_ Tryz.prog 54 (lc N):=pH (i:=1) (sz:=8) (z:=[.c (.lit (.int .i64 0))]) (fn:=Tryz.f54) cy (by kernel_rfl) (by kernel_rfl) (by kernel_rfl) rfl
def zcS(N:Nat):jp:=⟨.mk [.v (.c (.sl 3))] [] [] [] [] [],[.mk [.p (.hd 0)] [] [.row 3] [] [] []],λx=>zaR N x⟩
theorem zcP(N:Nat):jb Tryz.prog 160 (zcS N):=lV (i:=3) (sz:=64) (z:=[.c (.lit (.int .i64 0)),.c (.lit (.slice none 0 0)),.c (.lit (.int .i64 0)),.c (.lit (.int .i64 0)),.c (.lit (.int .i64 0)),.c (.lit (.int .i64 0))]) (fn:=Tryz.f160) cy (by kernel_rfl) (by kernel_rfl) (by kernel_rfl) rfl
def uy(N:Nat):aY:=⟨[.st 10],[.st 10],λa=>Wx N a.1⟩
theorem eI(N:Nat):a_ Tryz.prog 90 (uy N):=tg [] [(122,⟨[.r 16 ci,.w 2 2],[],[],[(0,1,2)]⟩),(506,⟨[.r 37 ci,.w 3 3],[],[],[(0,2,3)]⟩)] [(917515,[.mk [.p (.hd 2)] [] [.row 2] [(1000000,0)] [] []]),(4063264,[.mk [.p (.hd 3)] [] [.row 3] [(1000000,1)] [] []])] N (.cons (zb5 N)<|.cons (zdQ N)<|.nil) (.cons (gh N)<|.cons (zcP N)<|.nil) (λa=>by kernel_rfl)
def wC(N:Nat):aY:=⟨[ci,ci,ci],[ci],λa=>QK N a.1 a.2.1 a.2.2.1⟩
theorem dD(N:Nat):a_ Tryz.prog 161 (wC N):=tg [] [] [] N (.nil) (.nil) (λa=>by kernel_rfl)
def Cj(N:Nat):aY:=⟨[ci],[.c (.sl 1)],λa=>lY N a.1⟩
theorem ug(N:Nat):a_ Tryz.prog 91 (Cj N):=tg [(5,1)] [] [] N (.cons (dD N)<|.nil) (.nil) (λa=>by kernel_rfl)
def sG(N:Nat):jp:=⟨.mk [.v (.st 10)] [] [] [] [] [],[.mk [.p (.k (.c (.lit (.pointer none)))),.p (.k (.c (.lit (.int .i64 2))))] [] [] [(37,1)] [(3298534883343,⟨[],[],[(1049601,5)],[]⟩)] [(917517,[.mk [.p (.k (.c (.lit (.pointer none)))),.p (.k (.c (.lit (.int .i64 2))))] [] [] [(1000000,0)] [] [],.mk [.p (.pt 1 0 2),.p (.k (.c (.lit (.int .i64 0))))] [] [.cells [xi,xn]] [] [] []]),(4063253,[.mk [.p (.k (.c (.lit (.pointer none)))),.p (.k (.c (.lit (.int .i64 2))))] [] [] [(1000000,1)] [] [],.mk [.p (.pt 3 0 2),.p (.k (.c (.lit (.int .i64 0))))] [] [.cells [xl 0,.mr 4],.mp 7 true] [] [] []])],.mk [.p (.pt 0 0 27),.p (.k (.c (.lit (.int .i64 0))))] [] [.cells [.pt 1 0 2,.pt 2 0 2,xl 0,xl 2,xl 3,xi,xi,xi,xi,xi,xi,xi,xi,xi,xi,xi,xi,xi,xi,xi,xi,xi,xi,xl 8,xl 1,.hd 3,xi],.cells [xi,.hd 4],.cells [xl 0,.mr 5],.row 1,.row 5,.mp 7 true] [] [] []],λa=>na N a⟩
theorem tp(N:Nat):jb Tryz.prog 33 (sG N):=og (g:=33) N (.cons (Uq N)<|.cons (eI N)<|.cons (ug N)<|.nil) (.cons (jO N)<|.cons (zdN N)<|.nil) (by kernel_rfl) (λx=>by kernel_rfl)
def lf(N:Nat):jp:=⟨.mk [.p (.k (.c (.lit (.pointer none)))),.v (.st 5)] [] [] [] [] [],[.mk [.v ci] [] [] [] [] []],λx=>zb2 N⟩
theorem kY(N:Nat):jb Tryz.prog 35 (lf N):=og (g:=35) N (.nil) (.nil) (by kernel_rfl) (λx=>by kernel_rfl)
def ke(N:Nat):jp:=⟨.mk [.p (.k (.c (.lit (.pointer none)))),.ag [xi,xi,xi,xi,xi,xi,xi,xi,xi,.hd 0,xi,xb,xb,xi,xi,xi,xi,xi]] [] [.row 4] [] [] [],[.mk [.v ci] [] [] [] [] []],λx=>zb2 N⟩
theorem ki(N:Nat):jb Tryz.prog 35 (ke N):=og (g:=35) N (.nil) (.nil) (by kernel_rfl) (λx=>by kernel_rfl)
def pr(N:Nat):jp:=⟨.mk [.p (.k (.c (.lit (.pointer none))))] [] [] [] [] [],[.mk [.v (.c (.sl 5))] [] [] [] [] []],λx=>zdb N⟩
theorem gV(N:Nat):jb Tryz.prog 10 (pr N):=og (g:=10) N (.nil) (.nil) (by kernel_rfl) (λx=>by kernel_rfl)
def zP(N:Nat):aY:=⟨[ci,ci,ci],[cb],λa=>JR N a.1 a.2.1 a.2.2.1⟩
theorem sk(N:Nat):a_ Tryz.prog 162 (zP N):=tg [] [] [] N (.nil) (.nil) (λa=>by kernel_rfl)
def tT(N:Nat):aY:=⟨[.st 5],[cb],λa=>eH N a.1⟩
theorem uw(N:Nat):a_ Tryz.prog 164 (tT N):=tg [] [(58,⟨[.r 12 ci],[],[],[]⟩)] [] N (.cons (sk N)<|.nil) (.nil) (λa=>by kernel_rfl)
def Bs(N:Nat):aY:=⟨[ci],[.c .str],λa=>qA N a.1⟩
theorem Db(N:Nat):a_ Tryz.prog 217 (Bs N):=tg [] [] [] N (.nil) (.nil) (λa=>by kernel_rfl)
def zB(N:Nat):aY:=⟨[ci],[cb],λa=>tz N a.1⟩
theorem Ab(N:Nat):a_ Tryz.prog 218 (zB N):=tg [] [] [] N (.nil) (.nil) (λa=>by kernel_rfl)
def Cd(N:Nat):aY:=⟨[ci],[cb],λa=>dl N a.1⟩
theorem iS(N:Nat):a_ Tryz.prog 141 (Cd N):=tg [] [] [] N (.nil) (.nil) (λa=>by kernel_rfl)
def tM(N:Nat):aY:=⟨[.st 5],[cb],λa=>fo N a.1⟩
theorem ul(N:Nat):a_ Tryz.prog 165 (tM N):=tg [] [(51,⟨[.r 8 cb],[],[],[]⟩),(207,⟨[.r 17 cb],[],[],[]⟩)] [] N (.cons (Db N)<|.cons (iS N)<|.cons (Ab N)<|.nil) (.nil) (λa=>by kernel_rfl)
def Di(N:Nat):aY:=⟨[.st 5],[cb],λa=>ef N a.1⟩
theorem eY(N:Nat):a_ Tryz.prog 92 (Di N):=tg [] [] [] N (.cons (sk N)<|.cons (Xu N)<|.cons (uw N)<|.cons (ul N)<|.nil) (.nil) (λa=>by kernel_rfl)
def eJ(N:Nat):aY:=⟨[.c (.sl 4)],[.c (.sl 4)],λa=>zaE N a.1⟩
theorem zb7(N:Nat):a_ Tryz.prog 106 (eJ N):=pH (i:=4) (sz:=16) (z:=[.c (.lit (.int .i64 0)),.c (.lit (.bool false))]) (fn:=Tryz.f106) cy (by kernel_rfl) (by kernel_rfl) (by kernel_rfl) rfl
def Da(N:Nat):aY:=⟨[.st 5],[.st 5],λa=>lN N a.1⟩
theorem tX(N:Nat):a_ Tryz.prog 114 (Da N):=tg [] [] [] N (.cons (zb7 N)<|.nil) (.nil) (λa=>by kernel_rfl)
def j_(N:Nat):jp:=⟨.mk [.p (.pt 0 0 2),.v ci] [] [.cells [xi,.hd 1],.row 5] [] [] [],[.mk [.v ci,.v cb] [] [] [] [] [(393229,[.mk [.v ci] [] [] [] [(28,⟨[.r 5 ci,.r 6 ci],[],[],[]⟩)] [(59375636,[.mk [.v cb] [] [] [] [] []])]])]],λ(a,b,_)=>YR N a b⟩
theorem zdn(N:Nat):jb Tryz.prog 166 (j_ N):=og (g:=166) N (.nil) (.nil) (by kernel_rfl) (λx=>by kernel_rfl)
def zcX(N:Nat):jp:=⟨.mk [.p (.hd 0),.v ci,.p (.hd 1)] [] [.row 5,.row 5] [] [] [],[.mk [.p (.hd 0)] [.w 0 5] [] [] [] []],λ(a,b,d)=>zaC N a b d⟩
theorem zbi(N:Nat):jb Tryz.prog 167 (zcX N):=og (g:=167) N (.nil) (.nil) (by kernel_rfl) (λx=>by kernel_rfl)
def kN(N:Nat):jp:=⟨.mk [.p (.pt 0 0 2),.v (.st 5)] [] [.cells [xi,.hd 1],.row 5] [] [] [],[.mk [.v ci] [.h 0 1 (.hd 1),.w 1 5] [] [(38,5)] [] [(1966096,[.mk [.v ci,.v cb] [] [] [(1000000,0)] [] []]),(16646183,[.mk [.p (.hd 1)] [.w 1 5] [] [(1000000,1)] [] []])]],λ(a,b,d)=>ZX N a b d⟩
theorem zdP(N:Nat):jb Tryz.prog 93 (kN N):=og (g:=93) N (.cons (eY N)<|.cons (tX N)<|.nil) (.cons (zdn N)<|.cons (zbi N)<|.nil) (by kernel_rfl) (λx=>by kernel_rfl)
def yu(N:Nat):aY:=⟨[ci],[ci],λa=>vJ N a.1⟩
theorem xP(N:Nat):a_ Tryz.prog 135 (yu N):=tg [] [] [] N (.nil) (.nil) (λa=>by kernel_rfl)
def jd(N:Nat):jp:=⟨.mk [.p (.pt 0 0 27),.v ci] [] [.cells [.pt 1 0 2,.pt 2 0 2,xl 0,xl 2,xl 3,xi,xi,xi,xi,xi,xi,xi,xi,xi,xi,xi,xi,xi,xi,xi,xi,xi,xi,xl 8,xl 1,.hd 3,xi],.cells [xi,.hd 4],.cells [xl 0,.mr 5],.row 1,.row 5,.mp 7 true] [] [] [],[.mk [] [.w 3 1,.h 0 25 (.hd 3)] [] [] [] []],λ(a,_,_,b,_,_,_,_,_,_,_,_,_,_,_,_,_,_,_,_,_,_,_,_,_,_,_,_,_,_)=>zcq N a b⟩
theorem zdf(N:Nat):jb Tryz.prog 94 (jd N):=og (g:=94) N (.cons (xP N)<|.nil) (.nil) (by kernel_rfl) (λx=>by kernel_rfl)
def k_(N:Nat):jp:=⟨.mk [.p (.pt 0 0 27),.v (.st 5)] [] [.cells [.pt 1 0 2,.pt 2 0 2,xl 0,xl 2,xl 3,xi,xi,xi,xi,xi,xi,xi,xi,xi,xi,xi,xi,xi,xi,xi,xi,xi,xi,xl 8,xl 1,.hd 3,xi],.cells [xi,.hd 4],.cells [xl 0,.mr 5],.row 1,.row 5,.mp 7 true] [] [] [],[.mk [.v ci] [.h 1 1 (.hd 4),.w 4 5,.h 0 21 (xi),.h 0 25 (.hd 3),.w 3 1] [] [] [] [(8126509,[.mk [.v ci] [.h 1 1 (.hd 4),.w 4 5] [] [(1000000,0)] [] []]),(16646203,[.mk [] [.w 3 1,.h 0 25 (.hd 3)] [] [(1000000,1)] [] []])]],λ(e,f,_,g,_,_,_,_,_,_,_,_,_,_,_,a,_,_,_,_,_,_,_,b,_,_,_,_,d,_)=>fN N e f g a b d⟩
theorem lu(N:Nat):jb Tryz.prog 35 (k_ N):=og (g:=35) N (.cons (eY N)<|.nil) (.cons (zdP N)<|.cons (zdf N)<|.nil) (by kernel_rfl) (λx=>by kernel_rfl)
def zdK(N:Nat):jp:=⟨.mk [.p (.hd 0)] [] [.row 4] [] [] [],[.mk [.p (.hd 1)] [] [.row 4] [] [] []],λx=>zb6 N x⟩
theorem zdG(N:Nat):jb Tryz.prog 106 (zdK N):=zk (ii:=4) (sz:=16) (z:=[.c (.lit (.int .i64 0)),.c (.lit (.bool false))]) (fn:=Tryz.f106) cy (by kernel_rfl) (by kernel_rfl) (by kernel_rfl) rfl
def to(N:Nat):jp:=⟨.mk [.ag [xi,xi,xi,xi,xi,xi,xi,xi,xi,.hd 0,xi,xb,xb,xi,xi,xi,xi,xi]] [] [.row 4] [] [] [],[.mk [.v (.st 5)] [] [] [] [] [(393221,[.mk [.p (.hd 3)] [] [.row 4] [(1000000,0)] [] []])]],λ(j,k,l,m,n,o,p,q,r,s,a,b,d,e,f,g,h,i)=>mZ N j k l m n o p q r s a b d e f g h i⟩
theorem sI(N:Nat):jb Tryz.prog 114 (to N):=og (g:=114) N (.nil) (.cons (zdG N)<|.nil) (by kernel_rfl) (λx=>by kernel_rfl)
def kM(N:Nat):jp:=⟨.mk [.p (.pt 0 0 2),.ag [xi,xi,xi,xi,xi,xi,xi,xi,xi,.hd 1,xi,xb,xb,xi,xi,xi,xi,xi]] [] [.cells [xi,.hd 2],.row 4,.row 5] [] [] [],[.mk [.v ci] [.h 0 1 (.hd 2),.w 2 5] [] [(38,5)] [] [(1966096,[.mk [.v ci,.v cb] [] [] [(1000000,0)] [] []]),(16646181,[.mk [.v (.st 5)] [] [] [(1000000,1)] [] []]),(16646183,[.mk [.p (.hd 2)] [.w 2 5] [] [(1000000,2)] [] []])]],λ(l,m,n,o,p,q,r,s,t,u,a,b,d,e,f,g,h,i,j,k)=>fV N l m n o p q r s t u a b d e f g h i j k⟩
theorem kV(N:Nat):jb Tryz.prog 93 (kM N):=og (g:=93) N (.cons (eY N)<|.nil) (.cons (zdn N)<|.cons (sI N)<|.cons (zbi N)<|.nil) (by kernel_rfl) (λx=>by kernel_rfl)
def kW(N:Nat):jp:=⟨.mk [.p (.pt 0 0 27),.ag [xi,xi,xi,xi,xi,xi,xi,xi,xi,.hd 1,xi,xb,xb,xi,xi,xi,xi,xi]] [] [.cells [.pt 2 0 2,.pt 3 0 2,xl 0,xl 2,xl 3,xi,xi,xi,xi,xi,xi,xi,xi,xi,xi,xi,xi,xi,xi,xi,xi,xi,xi,xl 8,xl 1,.hd 4,xi],.row 4,.cells [xi,.hd 5],.cells [xl 0,.mr 6],.row 1,.row 5,.mp 7 true] [] [] [],[.mk [.v ci] [.h 2 1 (.hd 5),.w 5 5,.h 0 21 (xi),.h 0 25 (.hd 4),.w 4 1] [] [] [] [(8126509,[.mk [.v ci] [.h 2 1 (.hd 5),.w 5 5] [] [(1000000,0)] [] []]),(16646203,[.mk [] [.w 4 1,.h 0 25 (.hd 4)] [] [(1000000,1)] [] []])]],λ(p,q,r,_,s,t,u,v,w,x,a,b,d,e,f,g,h,i,j,k,l,_,_,_,_,_,_,_,_,_,_,_,m,_,_,_,_,_,_,_,n,_,_,_,_,o,_)=>fT N p q r s t u v w x a b d e f g h i j k l m n o⟩
theorem lg(N:Nat):jb Tryz.prog 35 (kW N):=og (g:=35) N (.cons (eY N)<|.nil) (.cons (kV N)<|.cons (zdf N)<|.nil) (by kernel_rfl) (λx=>by kernel_rfl)
def zdH(N:Nat):jp:=⟨.mk [.p (.hd 0)] [] [.row 5] [] [] [],[.mk [.p (.hd 1)] [] [.row 5] [] [] []],λx=>za6 N x⟩
theorem zdJ(N:Nat):jb Tryz.prog 113 (zdH N):=zk (ii:=5) (sz:=152) (z:=[.c (.lit (.int .i64 0)),.c (.lit (.int .i64 0)),.c (.lit (.int .i64 0)),.c (.lit (.int .i64 0)),.c (.lit (.int .i64 0)),.c (.lit (.int .i64 0)),.c (.lit (.int .i64 0)),.c (.lit (.int .i64 0)),.c (.lit (.int .i64 0)),.c (.lit (.slice none 0 0)),.c (.lit (.int .i64 0)),.c (.lit (.bool false)),.c (.lit (.bool false)),.c (.lit (.int .i64 0)),.c (.lit (.int .i64 0)),.c (.lit (.int .i64 0)),.c (.lit (.int .i64 0)),.c (.lit (.int .i64 0))]) (fn:=Tryz.f113) cy (by kernel_rfl) (by kernel_rfl) (by kernel_rfl) rfl
def kQ(N:Nat):jp:=⟨.mk [.p (.pt 0 0 2)] [] [.cells [xi,.hd 1],.row 5] [] [] [],[.mk [.v (.c (.sl 5))] [] [] [] [(122,⟨[.r 15 ci,.w 2 5],[(3,2),(13,2)],[],[]⟩)] [(917516,[.mk [.p (.hd 2)] [] [.row 5] [(1000000,0)] [] []])]],λ(a,_)=>zbZ N a⟩
theorem kP(N:Nat):jb Tryz.prog 51 (kQ N):=og (g:=51) N (.cons (tX N)<|.nil) (.cons (zdJ N)<|.nil) (by kernel_rfl) (λx=>by kernel_rfl)
def zdr(N:Nat):aY:=⟨[.c (.sl 6)],[.c (.sl 6)],λa=>za2 N a.1⟩
theorem zdp(N:Nat):a_ Tryz.prog 190 (zdr N):=pH (i:=6) (sz:=16) (z:=[.c (.lit (.int .i64 0)),.c (.lit (.int .i64 0))]) (fn:=Tryz.f190) cy (by kernel_rfl) (by kernel_rfl) (by kernel_rfl) rfl
def zE(N:Nat):aY:=⟨[.st 7],[.st 7],λa=>gn N a.1⟩
theorem rZ(N:Nat):a_ Tryz.prog 117 (zE N):=tg [] [] [] N (.cons (zdp N)<|.nil) (.nil) (λa=>by kernel_rfl)
def jT(N:Nat):jp:=⟨.mk [.p (.pt 0 0 2)] [] [.cells [xl 0,.mr 1],.mp 7 true] [] [] [],[.mk [.v (.c (.sl 7))] [] [] [(27,7)] [(122,⟨[.r 15 ci,.w 3 7],[(3,3)],[(3,7)],[]⟩)] [(3932172,[.mk [] [] [] [(1000002,0)] [] []]),(3932173,[.mk [.v (.c (.sl 1))] [] [] [(1000000,999999)] [] []])]],λ(a,_)=>Yr N a⟩
theorem jD(N:Nat):jb Tryz.prog 52 (jT N):=og (g:=52) N (.cons (rZ N)<|.nil) (.nil) (by kernel_rfl) (λx=>by kernel_rfl)
def zcO(N:Nat):aY:=⟨[.c (.sl 8)],[.c (.sl 8)],λa=>zaz N a.1⟩
theorem zcQ(N:Nat):a_ Tryz.prog 53 (zcO N):=pH (i:=8) (sz:=32) (z:=[.c (.lit (.int .i64 0)),.c (.lit (.int .i64 0)),.c (.lit (.int .i64 0)),.c (.lit (.int .i64 0))]) (fn:=Tryz.f53) cy (by kernel_rfl) (by kernel_rfl) (by kernel_rfl) rfl
def iB(N:Nat):jp:=⟨.mk [.p (.hd 0)] [] [.row 1] [] [] [],[.mk [.p (.hd 1)] [] [.row 1] [] [] []],λx=>zbn N x⟩
theorem iK(N:Nat):jb Tryz.prog 54 (iB N):=zk (ii:=1) (sz:=8) (z:=[.c (.lit (.int .i64 0))]) (fn:=Tryz.f54) cy (by kernel_rfl) (by kernel_rfl) (by kernel_rfl) rfl
def jg(N:Nat):jp:=⟨.mk [.p (.pt 0 0 27)] [] [.cells [.pt 1 0 2,.pt 2 0 2,xl 0,xl 2,xl 3,xi,xi,xi,xi,xi,xi,xi,xi,xi,xi,xi,xi,xi,xi,xi,xi,xi,xi,xl 8,xl 1,.hd 3,xi],.cells [xi,.hd 4],.cells [xl 0,.mr 5],.row 1,.row 5,.mp 7 true] [] [] [],[.mk [.v (.st 14)] [] [] [] [] [(917526,[.mk [.v (.c (.sl 5))] [] [] [(1000000,0)] [] []]),(917531,[.mk [.v (.c (.sl 7))] [] [] [(1000000,1)] [] []]),(917547,[.mk [.p (.hd 7)] [] [.row 1] [(1000000,2)] [] []])]],λ(h,i,j,_,_,_,_,_,_,_,_,_,_,_,_,_,_,_,_,_,_,a,b,d,e,f,g,_,_)=>Ts N h i j a b d e f g⟩
theorem za8(N:Nat):jb Tryz.prog 16 (jg N):=og (g:=16) N (.cons (zcQ N)<|.cons (zdQ N)<|.nil) (.cons (kP N)<|.cons (jD N)<|.cons (iK N)<|.nil) (by kernel_rfl) (λx=>by kernel_rfl)
def Cg(N:Nat):aY:=⟨[ci,.c (.sl 5)],[.st 5,cb],λa=>qy N a.1 a.2.1⟩
theorem Dc(N:Nat):a_ Tryz.prog 176 (Cg N):=tg [] [(26,⟨[.r 9 ci],[],[],[]⟩)] [] N (.nil) (.nil) (λa=>by kernel_rfl)
end Go.Abs
end
end
section
set_option maxRecDepth 100000
noncomputable section
namespace Go.Abs
open Go.Proofs
variable[Gl]
def Fk(N:Nat):aY:=⟨[.st 4,.st 5],[cb],λa=>xU N a.1 a.2.1⟩
theorem FB(N:Nat):a_ Tryz.prog 177 (Fk N):=tg [] [] [] N (.cons (iS N)<|.nil) (.nil) (λa=>by kernel_rfl)
def En(N:Nat):aY:=⟨[.st 5,.c (.sl 5)],[cb],λa=>jk N a.1 a.2.1⟩
theorem FI(N:Nat):a_ Tryz.prog 103 (En N):=tg [] [(26,⟨[.r 12 ci],[],[],[]⟩),(3379,⟨[.r 30 cb],[],[],[]⟩)] [] N (.cons (Dc N)<|.cons (FB N)<|.nil) (.nil) (λa=>by kernel_rfl)
def ve(N:Nat):aY:=⟨[.c (.sl 5)],[.c (.sl 5)],λa=>dA N a.1⟩
theorem lK(N:Nat):OX Tryz.prog 102 (ve N):=Tq (i:=5) (gm:=103) (so:=10) (ti:=3) (tb:=4) (z:=[.c (.lit (.int .i64 0)),.c (.lit (.int .i64 0)),.c (.lit (.int .i64 0)),.c (.lit (.int .i64 0)),.c (.lit (.int .i64 0)),.c (.lit (.int .i64 0)),.c (.lit (.int .i64 0)),.c (.lit (.int .i64 0)),.c (.lit (.int .i64 0)),.c (.lit (.slice none 0 0)),.c (.lit (.int .i64 0)),.c (.lit (.bool false)),.c (.lit (.bool false)),.c (.lit (.int .i64 0)),.c (.lit (.int .i64 0)),.c (.lit (.int .i64 0)),.c (.lit (.int .i64 0)),.c (.lit (.int .i64 0))]) (fn:=Tryz.f102) (st:=λ(a:aD)=>a.State) (met:=λ(a:aD) (l:List aD)=>jk N a l) cy (by kernel_rfl) (by kernel_rfl) (FI N) rfl (λa=>by kernel_rfl) (λx y=>by kernel_rfl) (λx=>by kernel_rfl) (λx=>by kernel_rfl) (λx=>by kernel_rfl)
def kg(N:Nat):jp:=⟨.mk [.p (.pt 0 0 27)] [] [.cells [.pt 1 0 2,.pt 2 0 2,xl 0,xl 2,xl 3,xi,xi,xi,xi,xi,xi,xi,xi,xi,xi,xi,xi,xi,xi,xi,xi,xi,xi,xl 8,xl 1,.hd 3,xi],.cells [xi,.hd 4],.cells [xl 0,.mr 5],.row 1,.row 5,.mp 7 true] [] [] [],[.mk [.v (.st 10)] [] [] [] [] []],λ(_,_,_,m,n,o,p,q,r,s,a,b,d,e,f,g,h,i,j,k,l,_,_,_,_,_,_,_,_)=>WF N m n o p q r s a b d e f g h i j k l⟩
theorem zdo(N:Nat):jb Tryz.prog 42 (kg N):=og (g:=42) N (.cons (eI N)<|.nil) (.nil) (by kernel_rfl) (λx=>by kernel_rfl)
def wL(N:Nat):aY:=⟨[ci],[ci],λa=>fx N a.1⟩
theorem wA(N:Nat):a_ Tryz.prog 262 (wL N):=tg [] [] [] N (.cons (dD N)<|.nil) (.nil) (λa=>by kernel_rfl)
def EY(N:Nat):aY:=⟨[ci,ci],[ci],λa=>uu N a.1 a.2.1⟩
theorem EA(N:Nat):a_ Tryz.prog 263 (EY N):=tg [] [] [] N (.nil) (.nil) (λa=>by kernel_rfl)
def zN(N:Nat):aY:=⟨[.st 10,.st 5,ci,.c (.sl 1)],[.st 11],λa=>mK N a.1 a.2.1 a.2.2.1 a.2.2.2.1⟩
theorem zD(N:Nat):a_ Tryz.prog 231 (zN N):=tg [] [(15,⟨[.r 9 ci],[],[],[]⟩),(31,⟨[.r 10 ci],[],[],[]⟩)] [] N (.cons (Uq N)<|.cons (EA N)<|.cons (dD N)<|.cons (wA N)<|.nil) (.nil) (λa=>by kernel_rfl)
def HT(N:Nat):aY:=⟨[.st 10,.st 5,ci,.c (.sl 1)],[ci],λa=>qH N a.1 a.2.1 a.2.2.1 a.2.2.2.1⟩
theorem HV(N:Nat):a_ Tryz.prog 178 (HT N):=tg [] [] [] N (.cons (zD N)<|.nil) (.nil) (λa=>by kernel_rfl)
def Fx(N:Nat):aY:=⟨[.st 10,.st 5,.st 15],[.st 16],λa=>ur N a.1 a.2.1 a.2.2.1⟩
theorem EK(N:Nat):a_ Tryz.prog 104 (Fx N):=tg [] [] [] N (.cons (HV N)<|.nil) (.nil) (λa=>by kernel_rfl)
def vo(N:Nat):aY:=⟨[ci],[cb],λa=>cmp_isNaN_int N a.1⟩
theorem vG(N:Nat):a_ Tryz.prog 266 (vo N):=tg [] [] [] N (.nil) (.nil) (λa=>by kernel_rfl)
def sv(N:Nat):aY:=⟨[ci,ci],[ci],λa=>dF N a.1 a.2.1⟩
theorem sS(N:Nat):a_ Tryz.prog 233 (sv N):=tg [] [] [] N (.cons (vG N)<|.nil) (.nil) (λa=>by kernel_rfl)
def jV(N:Nat):aY:=⟨[.c (.sl 1),.c (.sl 1)],[ci],λa=>QC N a.1 a.2.1⟩
theorem zde(N:Nat):a_ Tryz.prog 181 (jV N):=tg [] [(26,⟨[.r 11 ci],[],[],[]⟩)] [] N (.cons (sS N)<|.nil) (.nil) (λa=>by kernel_rfl)
def zdL(N:Nat):jp:=⟨.mk [.p (.hd 0),.v ci,.v ci,.v ci,.p (.fb 180 1 1)] [] [.row 1,.cells [xl 16]] [] [] [],[.mk [] [.w 0 1] [] [] [(63,⟨[.r 20 ci,.r 21 ci],[],[],[]⟩),(172,⟨[.r 10 ci,.r 11 ci],[],[],[]⟩),(428,⟨[.r 14 ci,.r 15 ci],[],[],[]⟩),(698,⟨[.r 13 ci,.w 0 1],[(0,0)],[],[]⟩),(1020,⟨[.r 20 ci,.r 21 ci],[],[],[]⟩),(1023,⟨[.w 0 1],[(0,0)],[],[]⟩),(1722,⟨[.r 17 ci,.w 0 1],[(0,0)],[],[]⟩),(2047,⟨[.w 0 1],[(0,0)],[],[]⟩),(8186,⟨[],[(0,0)],[],[]⟩),(16378,⟨[],[(0,0)],[],[]⟩)] [(361365553,[.mk [.v ci] [] [] [(9,1),(13,1)] [] []]),(536477887,[.mk [] [.w 0 1] [] [] [(28,⟨[.r 10 ci,.r 11 ci,.w 0 1],[(0,0)],[],[]⟩),(1812,⟨[],[(0,0)],[],[]⟩),(1814,⟨[],[(0,0)],[],[]⟩)] [(983097,[.mk [] [.w 0 1] [] [] [(6,⟨[.r 10 ci,.w 0 1],[(0,0)],[],[]⟩)] []]),(118751263,[.mk [] [.w 0 1] [] [] [(6,⟨[.r 10 ci,.w 0 1],[(0,0)],[],[]⟩)] []]),(118882350,[.mk [] [.w 0 1] [] [] [(6,⟨[.r 10 ci,.w 0 1],[(0,0)],[],[]⟩)] []])]]),(898236517,[.mk [.v ci] [] [] [(9,1),(13,1)] [] []]),(1073348813,[.mk [] [.w 0 1] [] [(1000000,0)] [] []]),(1073610971,[.mk [] [.w 0 1] [] [(1000000,0)] [] []]),(2139750569,[.mk [.v ci] [] [] [(9,1),(13,1)] [] []])]],λ(a,b,d,e,f)=>zaL N a b d e f⟩
theorem zbJ:∀N:Nat,jb Tryz.prog 265 (zdL N)
 |0=>⟨by kernel_rfl,λx y a b d z e f h=>by cases h⟩
 |N+1=>og (g:=265) N (.cons (zde N)<|.nil) (.cons (zbJ N)<|.nil) (by kernel_rfl) (λx=>by kernel_rfl)
def qL(N:Nat):aY:=⟨[.c (.sl 16)],[.c (.sl 1)],λa=>zdx N a.1⟩
theorem ru(N:Nat):a_ Tryz.prog 105 (qL N):=tg [(7,1)] [(30,⟨[],[(3,0)],[],[]⟩),(58,⟨[.r 10 ci,.w 1 1],[(3,1)],[],[]⟩)] [(1966100,[.mk [] [.w 1 1] [] [] [] [(65544,[.mk [] [.w 1 1] [] [] [(28,⟨[.r 7 ci,.r 8 ci,.w 1 1],[(0,1)],[],[]⟩),(30,⟨[],[(0,0)],[],[]⟩),(62,⟨[.r 6 ci,.w 1 1],[(0,1)],[],[]⟩),(452,⟨[],[(0,0)],[],[]⟩),(1995,⟨[.w 1 1],[(0,1)],[],[]⟩),(3988,⟨[.r 7 ci,.r 8 ci,.w 1 1],[(0,1)],[],[]⟩),(31926,⟨[],[(0,0)],[],[]⟩),(63812,⟨[],[(0,0)],[],[]⟩)] [(1966107,[.mk [] [.w 1 1] [] [] [(6,⟨[.r 8 ci,.w 1 1],[(0,1)],[],[]⟩),(402,⟨[.r 9 ci,.w 1 1],[(0,1)],[],[]⟩),(1608,⟨[.r 34 cb],[],[],[]⟩)] [(210763808,[.mk [.v ci] [] [] [(9,1),(13,1)] [] []])]]),(29622290,[.mk [] [.w 1 1] [] [] [(6,⟨[.r 8 ci,.w 1 1],[(0,1)],[],[]⟩),(402,⟨[.r 9 ci,.w 1 1],[(0,1)],[],[]⟩),(1608,⟨[.r 34 cb],[],[],[]⟩)] [(210763808,[.mk [.v ci] [] [] [(9,1),(13,1)] [] []])]]),(2092302396,[.mk [] [.w 1 1] [] [(1000000,0)] [] []]),(4181983275,[.mk [] [.w 1 1] [] [(1000000,0)] [] []])]])]])] N (.cons (zde N)<|.nil) (.cons (zbJ N)<|.nil) (λa=>by kernel_rfl)
def rp(N:Nat):jp:=⟨.mk [.v (.st 10),.p (.hd 0),.v (.st 15)] [] [.row 5] [] [] [],[.mk [.v (.c (.sl 5))] [] [] [(19,16),(37,5),(55,5)] [(122,⟨[.r 22 ci,.w 3 16],[(7,3)],[],[]⟩),(252,⟨[],[],[(7,16)],[]⟩),(506,⟨[.r 41 ci,.w 4 5],[(10,4)],[],[]⟩)] []],λ(a,b,d)=>zcv N a b d⟩
theorem rM(N:Nat):jb Tryz.prog 41 (rp N):=og (g:=41) N (.cons (Uq N)<|.cons (EK N)<|.cons (ru N)<|.cons (zb7 N)<|.nil) (.nil) (by kernel_rfl) (λx=>by kernel_rfl)
def py(N:Nat):jp:=⟨.mk [.p (.pt 0 0 27)] [] [.cells [.pt 1 0 2,.pt 2 0 2,xl 0,xl 2,xl 3,xi,xi,xi,xi,xi,xi,xi,xi,xi,xi,xi,xi,xi,xi,xi,xi,xi,xi,xl 8,xl 1,.hd 3,xi],.cells [xi,.hd 4],.cells [xl 0,.mr 5],.row 1,.row 5,.mp 7 true] [] [] [],[.mk [.v (.c (.sl 5))] [] [] [(16,5)] [(250,⟨[.w 9 5],[],[(1055744,5)],[(7,0,9)]⟩)] [(917513,[.mk [.v (.st 14)] [] [] [(1000000,0)] [] []]),(8126476,[.mk [] [] [] [(1000002,0)] [] []]),(8257555,[.mk [.v (.st 10)] [] [] [(1000000,1)] [] []]),(8257562,[.mk [.v (.c (.sl 5))] [] [] [(1000000,2)] [] []])]],λ(s,t,u,v,w,x,y,z,A,E,a,b,d,e,f,g,h,i,j,k,l,m,n,o,p,q,r,_,_)=>Zp N s t u v w x y z A E a b d e f g h i j k l m n o p q r⟩
theorem gQ(N:Nat):jb Tryz.prog 10 (py N):=og (g:=10) N (.it (lK N)<|.nil) (.cons (za8 N)<|.cons (zdo N)<|.cons (rM N)<|.nil) (by kernel_rfl) (λx=>by kernel_rfl)
def za(N:Nat):aY:=⟨[.st 10,ci],[cb],λa=>oY N a.1 a.2.1⟩
theorem yU(N:Nat):a_ Tryz.prog 107 (za N):=tg [] [] [] N (.cons (Uq N)<|.nil) (.nil) (λa=>by kernel_rfl)
def DX(N:Nat):aY:=⟨[ci],[cb],λa=>jW N a.1⟩
theorem pJ(N:Nat):a_ Tryz.prog 119 (DX N):=tg [] [] [] N (.nil) (.nil) (λa=>by kernel_rfl)
def wM(N:Nat):aY:=⟨[.c (.sl 5),ci],[ci],λa=>iM N a.1 a.2.1⟩
theorem wH(N:Nat):a_ Tryz.prog 108 (wM N):=tg [] [] [(393223,[.mk [.v ci] [] [] [] [(58,⟨[.r 5 ci,.r 10 ci],[],[],[]⟩),(467,⟨[.r 5 ci],[],[],[]⟩)] [(489816080,[.mk [.v cb] [] [] [] [] []])]])] N (.cons (pJ N)<|.nil) (.nil) (λa=>by kernel_rfl)
def Ej(N:Nat):aY:=⟨[.c (.sl 5),ci,ci],[ci],λa=>uE N a.1 a.2.1 a.2.2.1⟩
theorem Ec(N:Nat):a_ Tryz.prog 109 (Ej N):=tg [] [] [(393225,[.mk [.v ci] [] [] [] [(58,⟨[.r 5 ci,.r 10 ci],[],[],[]⟩),(467,⟨[.r 5 ci],[],[],[]⟩)] [(489816080,[.mk [.v cb] [] [] [] [] []])]])] N (.cons (pJ N)<|.nil) (.nil) (λa=>by kernel_rfl)
def BY(N:Nat):aY:=⟨[.st 10,.c (.sl 5),.st 5],[cb],λa=>fY N a.1 a.2.1 a.2.2.1⟩
theorem CG(N:Nat):a_ Tryz.prog 43 (BY N):=tg [] [] [] N (.cons (yU N)<|.cons (wH N)<|.cons (Ec N)<|.nil) (.nil) (λa=>by kernel_rfl)
def sV(N:Nat):jp:=⟨.mk [.p (.pt 0 0 27),.v ci] [] [.cells [.pt 1 0 2,.pt 2 0 2,xl 0,xl 2,xl 3,xi,xi,xi,xi,xi,xi,xi,xi,xi,xi,xi,xi,xi,xi,xi,xi,xi,xi,xl 8,xl 1,.hd 3,xi],.cells [xi,.hd 4],.cells [xl 0,.mr 5],.row 1,.row 5,.mp 7 true] [] [] [],[.mk [.v cb] [] [] [] [(122,⟨[],[],[],[]⟩)] [(917514,[.mk [.v (.st 14)] [] [] [(1000000,0)] [] []]),(3932173,[.mk [] [] [] [(1000002,0)] [] []]),(257163284,[.mk [.v (.st 10)] [] [] [(1000000,1)] [] []])]],λ(t,u,v,w,x,y,z,A,E,F,a,b,d,e,f,g,h,i,j,k,l,m,n,o,p,q,r,s,_,_)=>Yc N t u v w x y z A E F a b d e f g h i j k l m n o p q r s⟩
theorem jN(N:Nat):jb Tryz.prog 11 (sV N):=og (g:=11) N (.it (lK N)<|.cons (CG N)<|.nil) (.cons (za8 N)<|.cons (zdo N)<|.nil) (by kernel_rfl) (λx=>by kernel_rfl)
def nU(N:Nat):aY:=⟨[],[cb],λa=>dS N⟩
theorem nF(N:Nat):a_ Tryz.prog 7 (nU N):=tg [(16,4)] [] [(393222,[.mk [.p (.k (.c (.lit (.pointer none)))),.p (.k (.c (.lit (.int .i64 2))))] [] [] [(1000000,0)] [] [],.mk [.p (.pt 0 0 27),.p (.k (.c (.lit (.int .i64 0))))] [] [.cells [.pt 1 0 2,.pt 2 0 2,xl 0,xl 2,xl 3,xi,xi,xi,xi,xi,xi,xi,xi,xi,xi,xi,xi,xi,xi,xi,xi,xi,xi,xl 8,xl 1,.hd 3,xi],.cells [xi,.hd 4],.cells [xl 0,.mr 5],.row 1,.row 5,.mp 7 true] [] [] []]),(917516,[.mk [.v ci] [] [] [(1000000,1)] [] []]),(1966098,[.mk [.v ci] [] [] [(1000000,2)] [] []]),(4063252,[.mk [.v (.c (.sl 5))] [] [] [(1000000,3)] [] []]),(8257573,[.mk [.v cb] [] [] [(1000000,7)] [] []]),(8257577,[.mk [.v cb] [] [] [(1000000,7)] [] []]),(7696582311948,[.mk [.v ci] [.h 1 1 (.hd 4),.w 4 5,.h 0 21 (xi),.h 0 25 (.hd 3),.w 3 1] [] [(1000000,4)] [] []]),(8796094988306,[.mk [.v ci] [.h 1 1 (.hd 4),.w 4 5,.h 0 21 (xi),.h 0 25 (.hd 3),.w 3 1] [] [(1000000,5)] [] []]),(8796097085460,[.mk [.v (.c (.sl 5))] [] [] [(1000000,6)] [] []])] N (.cons (nZ N)<|.nil) (.cons (tp N)<|.cons (kY N)<|.cons (ki N)<|.cons (gV N)<|.cons (lu N)<|.cons (lg N)<|.cons (gQ N)<|.cons (jN N)<|.nil) (λa=>by kernel_rfl)
def rE(N:Nat):aY:=⟨[.st 10],[cb],λa=>zdA N a.1⟩
theorem qV(N:Nat):a_ Tryz.prog 36 (rE N):=tg [] [(58,⟨[.r 26 ci],[],[],[]⟩),(122,⟨[.r 37 ci],[],[],[]⟩)] [] N (.nil) (.nil) (λa=>by kernel_rfl)
def ry(N:Nat):aY:=⟨[.c (.sl 5)],[cb],λa=>zdv N a.1⟩
theorem rA(N:Nat):a_ Tryz.prog 37 (ry N):=tg [] [(58,⟨[.r 10 ci],[],[],[]⟩)] [] N (.nil) (.nil) (λa=>by kernel_rfl)
def rP(N:Nat):aY:=⟨[.st 10,.st 14],[cb],λa=>Yk N a.1 a.2.1⟩
theorem rk(N:Nat):a_ Tryz.prog 8 (rP N):=tg [] [(6,⟨[.r 40 cb],[],[],[]⟩),(58,⟨[.r 44 ci],[],[],[]⟩)] [] N (.cons (qV N)<|.cons (rA N)<|.nil) (.nil) (λa=>by kernel_rfl)
def wE(N:Nat):aY:=⟨[ci,ci,ci],[cb],λa=>UI N a.1 a.2.1 a.2.2.1⟩
theorem nf(N:Nat):a_ Tryz.prog 139 (wE N):=tg [] [] [] N (.nil) (.nil) (λa=>by kernel_rfl)
def vy(N:Nat):aY:=⟨[.st 10,.st 14],[cb],λa=>gE N a.1 a.2.1⟩
theorem vp(N:Nat):a_ Tryz.prog 71 (vy N):=tg [] [] [] N (.cons (nf N)<|.nil) (.nil) (λa=>by kernel_rfl)
def yQ(N:Nat):aY:=⟨[ci],[ci],λa=>km N a.1⟩
theorem yk(N:Nat):a_ Tryz.prog 140 (yQ N):=tg [] [] [] N (.cons (iS N)<|.nil) (.nil) (λa=>by kernel_rfl)
def zM(N:Nat):aY:=⟨[.st 10,.st 14],[cb],λa=>mg N a.1 a.2.1⟩
theorem zX(N:Nat):a_ Tryz.prog 72 (zM N):=tg [] [(122,⟨[.r 5 ci,.r 17 ci],[],[],[]⟩),(62671,⟨[.r 72 cb],[],[],[]⟩)] [] N (.cons (eY N)<|.cons (yk N)<|.nil) (.nil) (λa=>by kernel_rfl)
def BN(N:Nat):aY:=⟨[.st 0,.st 0],[ci],λa=>lT N a.1 a.2.1⟩
theorem BL(N:Nat):a_ Tryz.prog 258 (BN N):=tg [] [(6,⟨[.r 21 cb],[],[],[]⟩),(250,⟨[.r 5 ci,.r 26 ci],[],[],[]⟩),(2003,⟨[.r 5 ci],[],[],[]⟩)] [] N (.cons (oR N)<|.cons (Xu N)<|.nil) (.nil) (λa=>by kernel_rfl)
def CO(N:Nat):aY:=⟨[.st 10,ci,.st 0],[ci],λa=>vx N a.1 a.2.1 a.2.2.1⟩
theorem Bz(N:Nat):a_ Tryz.prog 210 (CO N):=tg [] [(122,⟨[.r 7 ci,.r 30 ci],[],[],[]⟩)] [] N (.cons (Uq N)<|.cons (BL N)<|.nil) (.nil) (λa=>by kernel_rfl)
def CA(N:Nat):aY:=⟨[.st 10,ci,ci,.st 0],[cb],λa=>i_ N a.1 a.2.1 a.2.2.1 a.2.2.2.1⟩
theorem CW(N:Nat):a_ Tryz.prog 142 (CA N):=tg [] [] [] N (.cons (Uq N)<|.cons (Bz N)<|.nil) (.nil) (λa=>by kernel_rfl)
def wF(N:Nat):aY:=⟨[.st 5,ci],[ci],λa=>fh N a.1 a.2.1⟩
theorem wJ(N:Nat):a_ Tryz.prog 212 (wF N):=tg [] [] [] N (.nil) (.nil) (λa=>by kernel_rfl)
def za4(N:Nat):aY:=⟨[.c (.sl 5),ci,.k 212],[ci,cb],λa=>zar N a.1 a.2.1⟩
theorem za5(N:Nat):a_ Tryz.prog 211 (za4 N):=tg [] [(60,⟨[.r 9 ci,.r 10 ci],[],[],[]⟩)] [] N (.cons (wJ N)<|.nil) (.nil) (λa=>by kernel_rfl)
def zw(N:Nat):aY:=⟨[.c (.sl 5),ci],[ci,cb],λa=>jM N a.1 a.2.1⟩
theorem rR(N:Nat):a_ Tryz.prog 143 (zw N):=tg [] [] [] N (.cons (za5 N)<|.nil) (.nil) (λa=>by kernel_rfl)
def vn(N:Nat):aY:=⟨[.st 10,.st 14],[cb],λa=>gC N a.1 a.2.1⟩
theorem uZ(N:Nat):a_ Tryz.prog 73 (vn N):=tg [] [(26,⟨[.r 14 ci],[],[],[]⟩),(211,⟨[],[],[],[]⟩),(27038,⟨[.r 33 ci],[],[],[]⟩)] [] N (.cons (iS N)<|.cons (CW N)<|.cons (rR N)<|.nil) (.nil) (λa=>by kernel_rfl)
def yl(N:Nat):aY:=⟨[.c (.sl 6),ci],[cb],λa=>gK N a.1 a.2.1⟩
theorem pM(N:Nat):a_ Tryz.prog 168 (yl N):=tg [] [(58,⟨[.r 5 ci,.r 10 ci],[],[],[]⟩)] [] N (.nil) (.nil) (λa=>by kernel_rfl)
def yR(N:Nat):aY:=⟨[.c (.sl 6)],[ci],λa=>kD N a.1⟩
theorem yT(N:Nat):a_ Tryz.prog 205 (yR N):=tg [] [(58,⟨[.r 3 ci,.r 8 ci],[],[],[]⟩)] [] N (.cons (dD N)<|.nil) (.nil) (λa=>by kernel_rfl)
def kX(N:Nat):aY:=⟨[.c (.sl 1),ci],[ci],λa=>zcU N a.1 a.2.1⟩
theorem kR(N:Nat):a_ Tryz.prog 247 (kX N):=tg [] [(26,⟨[.r 8 ci],[],[],[]⟩)] [] N (.nil) (.nil) (λa=>by kernel_rfl)
def iR(N:Nat):aY:=⟨[.c (.sl 1),ci],[cb],λa=>zbk N a.1 a.2.1⟩
theorem iG(N:Nat):a_ Tryz.prog 206 (iR N):=tg [] [] [] N (.cons (kR N)<|.nil) (.nil) (λa=>by kernel_rfl)
def xB(N:Nat):aY:=⟨[.st 10,.st 5,.c (.sl 6)],[cb],λa=>kw N a.1 a.2.1 a.2.2.1⟩
theorem yj(N:Nat):a_ Tryz.prog 133 (xB N):=tg [] [(6,⟨[.r 22 cb],[],[],[]⟩),(250,⟨[.r 47 ci],[],[],[]⟩)] [] N (.cons (iG N)<|.cons (pM N)<|.cons (yT N)<|.nil) (.nil) (λa=>by kernel_rfl)
def zdl(N:Nat):jp:=⟨.mk [.v (.c (.sl 0))] [] [] [] [] [],[.mk [.p (.hd 0)] [] [.row 0] [] [] []],λx=>zaY N x⟩
theorem zdk(N:Nat):jb Tryz.prog 158 (zdl N):=lV (i:=0) (sz:=32) (z:=[.c (.lit (.int .i64 0)),.c (.lit (.int .i64 0)),.c (.lit (.int .i64 0)),.c (.lit (.int .i64 0))]) (fn:=Tryz.f158) cy (by kernel_rfl) (by kernel_rfl) (by kernel_rfl) rfl
def tt(N:Nat):jp:=⟨.mk [.v (.st 0)] [] [] [] [] [],[.mk [.ag [.cx,.cx]] [] [] [] [] []],λa=>XX N a⟩
theorem jK(N:Nat):jb Tryz.prog 223 (tt N):=og (g:=223) N (.nil) (.nil) (by kernel_rfl) (λx=>by kernel_rfl)
def tL(N:Nat):jp:=⟨.mk [.ag [.cx,.cx]] [] [] [] [] [],[.mk [.v (.st 0)] [] [] [] [] []],λ(a,b)=>jC N a b⟩
theorem tZ(N:Nat):jb Tryz.prog 260 (tL N):=og (g:=260) N (.nil) (.nil) (by kernel_rfl) (λx=>by kernel_rfl)
def rF(N:Nat):jp:=⟨.mk [.ag [.cx,.cx]] [] [] [] [] [],[.mk [.v (.st 0),.v ci] [] [] [] [] [(393222,[.mk [.v (.st 0)] [] [] [(1000000,0)] [] []])]],λ(a,b)=>zct N a b⟩
theorem iz(N:Nat):jb Tryz.prog 224 (rF N):=og (g:=224) N (.cons (Xu N)<|.nil) (.cons (tZ N)<|.nil) (by kernel_rfl) (λx=>by kernel_rfl)
def Cn(N:Nat):aY:=⟨[.st 0,ci],[.st 0,ci],λa=>qn N a.1 a.2.1⟩
theorem BU(N:Nat):a_ Tryz.prog 193 (Cn N):=tg [] [] [(4063256,[.mk [.ag [.cx,.cx]] [] [] [(1000000,0)] [] []]),(8257573,[.mk [.v (.st 0),.v ci] [] [] [(1000000,1)] [] []])] N (.cons (Xu N)<|.nil) (.cons (jK N)<|.cons (iz N)<|.nil) (λa=>by kernel_rfl)
def HF(N:Nat):aY:=⟨[.st 0,.st 0],[.st 0,ci],λa=>xk N a.1 a.2.1⟩
theorem HL(N:Nat):a_ Tryz.prog 170 (HF N):=tg [] [(6,⟨[.r 15 cb],[],[],[]⟩)] [(917522,[.mk [.ag [.cx,.cx]] [] [] [(1000000,0)] [] []]),(917524,[.mk [.ag [.cx,.cx]] [] [] [(1000000,0)] [] []]),(1966112,[.mk [.v (.st 0),.v ci] [] [] [(1000000,1)] [] []])] N (.cons (Xu N)<|.nil) (.cons (jK N)<|.cons (iz N)<|.nil) (λa=>by kernel_rfl)
def gY(N:Nat):jp:=⟨.mk [.p (.pt 0 0 2),.v (.st 7),.p (.k (.c (.fn (.func 170) [] [])))] [] [.cells [xl 0,.mr 1],.mp 7 true] [] [] [],[.mk [.v (.c (.sl 0)),.v ci] [] [] [] [(58,⟨[.r 21 ci,.w 3 0],[(8,3)],[],[]⟩)] [(393233,[.mk [.p (.hd 3)] [] [.row 0] [(1000000,0)] [] []])]],λ(_,a,b)=>za9 N a b⟩
theorem gH(N:Nat):jb Tryz.prog 169 (gY N):=og (g:=169) N (.cons (BU N)<|.cons (HL N)<|.nil) (.cons (zdk N)<|.nil) (by kernel_rfl) (λx=>by kernel_rfl)
def iL(N:Nat):jp:=⟨.mk [.p (.pt 0 0 2),.v (.st 7)] [] [.cells [xl 0,.mr 1],.mp 7 true] [] [] [],[.mk [.v ci] [.h 0 0 (xl 0),.m 1 7 true] [] [] [(14,⟨[.r 41 cb],[],[],[]⟩)] [(4063288,[.mk [.v (.c (.sl 0)),.v ci] [] [] [(1000000,0)] [] []])]],λ(a,b,d)=>ZG N a b d⟩
theorem zcV(N:Nat):jb Tryz.prog 95 (iL N):=og (g:=95) N (.cons (rZ N)<|.cons (pM N)<|.cons (Xu N)<|.nil) (.cons (gH N)<|.nil) (by kernel_rfl) (λx=>by kernel_rfl)
end Go.Abs
end
end
section
set_option maxRecDepth 100000
noncomputable section
namespace Go.Abs
open Go.Proofs
variable[Gl]
def qe(N:Nat):aY:=⟨[.st 10,.st 14],[cb],λa=>zc4 N a.1 a.2.1⟩
theorem pU(N:Nat):a_ Tryz.prog 74 (qe N):=tg [] [(250,⟨[.r 7 (.c (.sl 7)),.r 23 ci,.h 2 0 (.sl 0),.m 3 7 true],[],[],[]⟩),(2003,⟨[.r 7 (.c (.sl 7)),.h 2 0 (.sl 0),.m 3 7 true],[],[],[]⟩),(256415,⟨[.r 74 cb,.h 2 0 (.sl 0),.m 3 7 true],[],[],[]⟩)] [(393229,[.mk [.p (.k (.c (.lit (.pointer none)))),.p (.k (.c (.lit (.int .i64 2))))] [] [] [(1000000,0)] [] [],.mk [.p (.pt 2 0 2),.p (.k (.c (.lit (.int .i64 0))))] [] [.cells [xl 0,.mr 3],.mp 7 true] [] [] []]),(33608826952,[.mk [.v ci] [.h 2 0 (xl 0),.m 3 7 true] [] [(1000000,1)] [] []])] N (.cons (pJ N)<|.cons (yj N)<|.nil) (.cons (zdN N)<|.cons (zcV N)<|.nil) (λa=>by kernel_rfl)
def zL(N:Nat):aY:=⟨[.st 8,ci],[cb],λa=>mD N a.1 a.2.1⟩
theorem zT(N:Nat):a_ Tryz.prog 191 (zL N):=tg [] [] [] N (.nil) (.nil) (λa=>by kernel_rfl)
def zW(N:Nat):aY:=⟨[.c (.sl 8),ci,ci,ci],[cb],λa=>dM N a.1 a.2.1 a.2.2.1 a.2.2.2.1⟩
theorem sn(N:Nat):a_ Tryz.prog 144 (zW N):=tg [] [(26,⟨[.r 13 ci],[],[],[]⟩)] [] N (.nil) (.nil) (λa=>by kernel_rfl)
def Ac(N:Nat):aY:=⟨[.c (.sl 8),ci],[cb],λa=>mS N a.1 a.2.1⟩
theorem Ad(N:Nat):a_ Tryz.prog 120 (Ac N):=tg [] [(58,⟨[.r 12 ci],[],[],[]⟩),(3737,⟨[.r 47 cb],[],[],[]⟩)] [] N (.cons (zT N)<|.cons (sn N)<|.nil) (.nil) (λa=>by kernel_rfl)
def uM(N:Nat):aY:=⟨[.st 10,.st 14],[cb],λa=>eL N a.1 a.2.1⟩
theorem tO(N:Nat):a_ Tryz.prog 75 (uM N):=tg [] [(58,⟨[.r 23 ci],[],[],[]⟩),(122,⟨[.r 43 ci],[],[],[]⟩),(125342,⟨[.r 60 ci],[],[],[]⟩)] [] N (.cons (Ad N)<|.cons (rR N)<|.cons (sn N)<|.nil) (.nil) (λa=>by kernel_rfl)
def yY(N:Nat):aY:=⟨[.c (.sl 1)],[cb],λa=>kB N a.1⟩
theorem xR(N:Nat):a_ Tryz.prog 145 (yY N):=tg [] [(26,⟨[.r 7 ci],[],[],[]⟩)] [] N (.nil) (.nil) (λa=>by kernel_rfl)
def zi(N:Nat):aY:=⟨[.st 10,.st 14],[cb],λa=>kr N a.1 a.2.1⟩
theorem xI(N:Nat):a_ Tryz.prog 76 (zi N):=tg [] [(6,⟨[.r 18 cb],[],[],[]⟩),(14,⟨[.r 33 cb],[],[],[]⟩),(122,⟨[.r 38 ci],[],[],[]⟩)] [] N (.cons (nf N)<|.cons (xR N)<|.nil) (.nil) (λa=>by kernel_rfl)
def yq(N:Nat):aY:=⟨[.st 10,.st 14],[cb],λa=>kF N a.1 a.2.1⟩
theorem yb(N:Nat):a_ Tryz.prog 26 (yq N):=tg [] [] [] N (.cons (Uq N)<|.cons (vp N)<|.cons (zX N)<|.cons (uZ N)<|.cons (pU N)<|.cons (tO N)<|.cons (xI N)<|.nil) (.nil) (λa=>by kernel_rfl)
def tw(N:Nat):jp:=⟨.mk [.v (.st 10)] [] [] [] [] [],[.mk [.p (.k (.c (.lit (.pointer none)))),.p (.k (.c (.lit (.int .i64 2))))] [] [] [(37,1)] [] [(917517,[.mk [.p (.k (.c (.lit (.pointer none)))),.p (.k (.c (.lit (.int .i64 2))))] [] [] [(1000000,0)] [] [],.mk [.p (.pt 1 0 2),.p (.k (.c (.lit (.int .i64 0))))] [] [.cells [xi,xn]] [] [] []]),(4063253,[.mk [.p (.k (.c (.lit (.pointer none)))),.p (.k (.c (.lit (.int .i64 2))))] [] [] [(1000000,1)] [] [],.mk [.p (.pt 2 0 2),.p (.k (.c (.lit (.int .i64 0))))] [] [.cells [xl 0,.mr 3],.mp 7 true] [] [] []])],.mk [.p (.pt 0 0 27),.p (.k (.c (.lit (.int .i64 0))))] [] [.cells [.pt 1 0 2,.pt 2 0 2,xl 0,xl 2,xl 3,xi,xi,xi,xi,xi,xi,xi,xi,xi,xi,xi,xi,xi,xi,xi,xi,xi,xi,xn,xl 1,.hd 3,xi],.cells [xi,xn],.cells [xl 0,.mr 4],.row 1,.mp 7 true] [] [] []],λa=>dH N a⟩
theorem th(N:Nat):jb Tryz.prog 33 (tw N):=og (g:=33) N (.cons (Uq N)<|.cons (eI N)<|.cons (ug N)<|.nil) (.cons (jO N)<|.cons (zdN N)<|.nil) (by kernel_rfl) (λx=>by kernel_rfl)
def zcj(N:Nat):jp:=⟨.mk [.v (.c (.sl 8))] [] [] [] [] [],[.mk [.p (.hd 0)] [] [.row 8] [] [] []],λx=>zaH N x⟩
theorem zck(N:Nat):jb Tryz.prog 53 (zcj N):=lV (i:=8) (sz:=32) (z:=[.c (.lit (.int .i64 0)),.c (.lit (.int .i64 0)),.c (.lit (.int .i64 0)),.c (.lit (.int .i64 0))]) (fn:=Tryz.f53) cy (by kernel_rfl) (by kernel_rfl) (by kernel_rfl) rfl
def il(N:Nat):jp:=⟨.mk [.v (.c (.sl 1))] [] [] [] [] [],[.mk [.p (.hd 0)] [] [.row 1] [] [] []],λx=>ZN N x⟩
theorem iu(N:Nat):jb Tryz.prog 54 (il N):=lV (i:=1) (sz:=8) (z:=[.c (.lit (.int .i64 0))]) (fn:=Tryz.f54) cy (by kernel_rfl) (by kernel_rfl) (by kernel_rfl) rfl
def uc(N:Nat):jp:=⟨.mk [.v (.st 10),.v (.st 14)] [] [] [] [] [],[.mk [.p (.k (.c (.lit (.pointer none)))),.v ci] [] [] [] [(250,⟨[.r 29 ci,.w 7 5],[],[(1051649,5)],[(3,1,7)]⟩),(506,⟨[.r 46 ci,.h 4 0 (.sl 0),.m 6 7 true],[],[],[]⟩)] [(917524,[.mk [.p (.k (.c (.lit (.pointer none)))),.p (.k (.c (.lit (.int .i64 2))))] [] [] [(1000000,0)] [] [],.mk [.p (.pt 2 0 27),.p (.k (.c (.lit (.int .i64 0))))] [] [.cells [.pt 3 0 2,.pt 4 0 2,xl 0,xl 2,xl 3,xi,xi,xi,xi,xi,xi,xi,xi,xi,xi,xi,xi,xi,xi,xi,xi,xi,xi,xn,xl 1,.hd 5,xi],.cells [xi,xn],.cells [xl 0,.mr 6],.row 1,.mp 7 true] [] [] []]),(33423438,[.mk [.p (.hd 8)] [] [.row 8] [(1000000,3)] [] []]),(66977876,[.mk [.p (.hd 9)] [] [.row 1] [(1000000,4)] [] []]),(134086747,[.mk [.p (.hd 10)] [] [.row 1] [(1000000,4)] [] []]),(2100428838,[.mk [.v ci] [.h 3 1 (.hd 7),.w 7 5] [] [(1000000,1)] [] []]),(4247912503,[.mk [.v ci] [.h 4 0 (xl 0),.m 6 7 true] [] [(1000000,2)] [] []])],.mk [.p (.pt 0 0 27),.p (.k (.c (.lit (.int .i64 0))))] [] [.cells [.pt 1 0 2,.pt 2 0 2,xl 0,xl 2,xl 3,xi,xi,xi,xi,xi,xi,xi,xi,xi,xi,xi,xi,xi,xi,xi,xi,xi,xi,xl 8,xl 1,.hd 3,xi],.cells [xi,.hd 4],.cells [xl 0,.mr 5],.row 1,.row 5,.mp 7 true] [] [] []],λ(a,b)=>XT N a b⟩
theorem un(N:Nat):jb Tryz.prog 38 (uc N):=og (g:=38) N (.cons (yb N)<|.nil) (.cons (th N)<|.cons (zdP N)<|.cons (zcV N)<|.cons (zck N)<|.cons (iu N)<|.nil) (by kernel_rfl) (λx=>by kernel_rfl)
def su(N:Nat):aY:=⟨[ci,ci,ci],[cb],λa=>uR N a.1 a.2.1 a.2.2.1⟩
theorem zcL(N:Nat):a_ Tryz.prog 225 (su N):=tg [] [] [] N (.nil) (.nil) (λa=>by kernel_rfl)
def od(N:Nat):aY:=⟨[ci],[cb],λa=>Yv N a.1⟩
theorem nM(N:Nat):a_ Tryz.prog 214 (od N):=tg [] [] [] N (.nil) (.nil) (λa=>by kernel_rfl)
def nW(N:Nat):aY:=⟨[.st 0],[cb],λa=>Qz N a.1⟩
theorem zbW(N:Nat):a_ Tryz.prog 151 (nW N):=tg [] [] [] N (.cons (nM N)<|.nil) (.nil) (λa=>by kernel_rfl)
def nk(N:Nat):aY:=⟨[.st 10],[cb],λa=>Zm N a.1⟩
theorem oa(N:Nat):a_ Tryz.prog 226 (nk N):=tg [] [(26,⟨[.r 3 ci],[],[],[]⟩)] [] N (.cons (zbW N)<|.cons (zcL N)<|.nil) (.nil) (λa=>by kernel_rfl)
def mE(N:Nat):aY:=⟨[.c (.sl 1),ci],[cb],λa=>Zs N a.1 a.2.1⟩
theorem eV(N:Nat):a_ Tryz.prog 261 (mE N):=tg [] [(26,⟨[.r 5 ci],[],[],[]⟩),(420,⟨[.r 40 cb],[],[],[]⟩)] [] N (.nil) (.nil) (λa=>by kernel_rfl)
def nD(N:Nat):aY:=⟨[.st 10],[cb],λa=>zbU N a.1⟩
theorem oD(N:Nat):a_ Tryz.prog 227 (nD N):=tg [] [(26,⟨[.r 3 ci],[],[],[]⟩),(420,⟨[.r 29 cb],[],[],[]⟩)] [] N (.cons (eV N)<|.cons (zcL N)<|.nil) (.nil) (λa=>by kernel_rfl)
def mJ(N:Nat):aY:=⟨[.st 10],[cb],λa=>zbF N a.1⟩
theorem mW(N:Nat):a_ Tryz.prog 228 (mJ N):=tg [] [(26,⟨[.r 3 ci],[],[],[]⟩),(841,⟨[.r 59 cb],[],[],[]⟩)] [] N (.cons (eV N)<|.cons (zcL N)<|.nil) (.nil) (λa=>by kernel_rfl)
def pC(N:Nat):aY:=⟨[.st 10],[.c .str],λa=>fF N a.1⟩
theorem pz(N:Nat):a_ Tryz.prog 171 (pC N):=tg [(28,17),(69,18)] [(7,⟨[.r 4 cb],[],[],[]⟩),(506,⟨[.r 7 ci],[],[],[]⟩)] [] N (.cons (oa N)<|.cons (oD N)<|.cons (zcL N)<|.cons (mW N)<|.nil) (.nil) (λa=>by kernel_rfl)
def nJ(N:Nat):aY:=⟨[.st 10],[cb],λa=>Z_ N a.1⟩
theorem nV(N:Nat):a_ Tryz.prog 96 (nJ N):=tg [] [] [] N (.cons (pz N)<|.nil) (.nil) (λa=>by kernel_rfl)
def nQ(N:Nat):aY:=⟨[ci],[cb],λa=>UQ N a.1⟩
theorem fR(N:Nat):a_ Tryz.prog 97 (nQ N):=tg [] [] [] N (.nil) (.nil) (λa=>by kernel_rfl)
def oZ(N:Nat):aY:=⟨[.c (.sl 5),ci],[ci],λa=>Pj N a.1 a.2.1⟩
theorem zbu(N:Nat):a_ Tryz.prog 27 (oZ N):=tg [] [(26,⟨[.r 5 ci],[],[],[]⟩)] [] N (.nil) (.nil) (λa=>by kernel_rfl)
def nA(N:Nat):aY:=⟨[.c (.sl 6),ci],[cb],λa=>XD N a.1 a.2.1⟩
theorem fO(N:Nat):a_ Tryz.prog 146 (nA N):=tg [] [(26,⟨[.r 5 ci],[],[],[]⟩),(420,⟨[.r 60 cb],[],[],[]⟩)] [] N (.nil) (.nil) (λa=>by kernel_rfl)
def sF(N:Nat):aY:=⟨[.c (.sl 6),ci],[ci],λa=>zc0 N a.1 a.2.1⟩
theorem jR(N:Nat):a_ Tryz.prog 201 (sF N):=tg [] [(58,⟨[.r 5 ci,.r 6 ci],[],[],[]⟩),(233,⟨[.r 5 ci],[],[],[]⟩)] [] N (.nil) (.nil) (λa=>by kernel_rfl)
def qK(N:Nat):aY:=⟨[.st 0,.st 0],[.st 0],λa=>WE N a.1 a.2.1⟩
theorem zdM(N:Nat):a_ Tryz.prog 199 (qK N):=tg [] [] [] N (.nil) (.nil) (λa=>by kernel_rfl)
def nq(N:Nat):aY:=⟨[.st 0,ci],[.st 0],λa=>zcJ N a.1 a.2.1⟩
theorem ov(N:Nat):a_ Tryz.prog 200 (nq N):=tg [] [(58,⟨[.r 6 ci,.h 2 0 (.int .i64),.h 2 1 (.int .i64),.h 2 2 (.int .i64),.h 2 3 (.int .i64)],[],[],[]⟩)] [] N (.cons (zdM N)<|.nil) (.nil) (λa=>by kernel_rfl)
def qd(N:Nat):aY:=⟨[.st 0,.st 0],[cb],λa=>Mv N a.1 a.2.1⟩
theorem zdj(N:Nat):a_ Tryz.prog 129 (qd N):=tg [] [] [] N (.nil) (.nil) (λa=>by kernel_rfl)
def rG(N:Nat):aY:=⟨[.st 0,.st 0],[.st 0],λa=>gg N a.1 a.2.1⟩
theorem rz(N:Nat):a_ Tryz.prog 130 (rG N):=tg [] [] [] N (.nil) (.nil) (λa=>by kernel_rfl)
def oO(N:Nat):aY:=⟨[.c (.sl 0),.c (.sl 7)],[.c (.sl 0),cb],λa=>zc7 N a.1 a.2.1⟩
theorem pQ(N:Nat):a_ Tryz.prog 153 (oO N):=tg [(55,0)] [(122,⟨[.r 7 cb,.r 8 ci,.w 0 0],[(6,0)],[(6,0)],[]⟩),(7827,⟨[.r 7 cb],[],[],[]⟩),(31306,⟨[.r 10 ci,.h 1 0 (.int .i64),.h 1 1 (.int .i64),.h 1 2 (.int .i64),.h 1 3 (.int .i64)],[],[],[]⟩)] [] N (.cons (jR N)<|.cons (ov N)<|.cons (zdM N)<|.cons (rz N)<|.cons (zdj N)<|.nil) (.nil) (λa=>by kernel_rfl)
def mj(N:Nat):aY:=⟨[.st 10,.st 14],[cb],λa=>zco N a.1 a.2.1⟩
theorem mF(N:Nat):a_ Tryz.prog 98 (mj N):=tg [] [(26,⟨[.r 5 ci],[],[],[]⟩),(841,⟨[.r 57 cb],[],[],[]⟩)] [] N (.cons (zbu N)<|.cons (fO N)<|.cons (zbW N)<|.cons (pQ N)<|.nil) (.nil) (λa=>by kernel_rfl)
def nN(N:Nat):aY:=⟨[.st 14,ci,ci],[cb],λa=>zcC N a.1 a.2.1 a.2.2.1⟩
theorem ow(N:Nat):a_ Tryz.prog 172 (nN N):=tg [] [(26,⟨[.r 7 ci],[],[],[]⟩),(841,⟨[.r 54 cb],[],[],[]⟩)] [] N (.cons (zbu N)<|.cons (jR N)<|.nil) (.nil) (λa=>by kernel_rfl)
def ri(N:Nat):aY:=⟨[.st 8,ci],[cb],λa=>zdE N a.1 a.2.1⟩
theorem rJ(N:Nat):a_ Tryz.prog 229 (ri N):=tg [] [] [] N (.cons (fR N)<|.nil) (.nil) (λa=>by kernel_rfl)
def n_(N:Nat):aY:=⟨[.c (.sl 8),ci,ci,ci],[cb],λa=>zcB N a.1 a.2.1 a.2.2.1 a.2.2.2.1⟩
theorem nO(N:Nat):a_ Tryz.prog 28 (n_ N):=tg [] [(26,⟨[.r 9 ci],[],[],[]⟩)] [] N (.nil) (.nil) (λa=>by kernel_rfl)
def nI(N:Nat):aY:=⟨[.c (.sl 8),ci],[cb],λa=>zcK N a.1 a.2.1⟩
theorem nl(N:Nat):a_ Tryz.prog 173 (nI N):=tg [] [(26,⟨[.r 5 ci],[],[],[]⟩),(3366,⟨[.r 6 ci],[],[],[]⟩),(53860,⟨[.r 58 cb],[],[],[]⟩)] [] N (.cons (rJ N)<|.cons (nO N)<|.nil) (.nil) (λa=>by kernel_rfl)
def nR(N:Nat):aY:=⟨[.st 10,.st 14],[cb],λa=>zcI N a.1 a.2.1⟩
theorem nL(N:Nat):a_ Tryz.prog 99 (nR N):=tg [] [(26,⟨[.r 5 ci],[],[],[]⟩),(841,⟨[.r 38 cb],[],[],[]⟩)] [] N (.cons (ow N)<|.cons (nl N)<|.nil) (.nil) (λa=>by kernel_rfl)
def rC(N:Nat):aY:=⟨[.c (.sl 1),ci],[cb],λa=>zdD N a.1 a.2.1⟩
theorem rB(N:Nat):a_ Tryz.prog 100 (rC N):=tg [] [(26,⟨[.r 5 ci],[],[],[]⟩),(420,⟨[.r 23 cb],[],[],[]⟩)] [] N (.nil) (.nil) (λa=>by kernel_rfl)
def tj(N:Nat):aY:=⟨[ci,ci,ci],[cb],λa=>Jc N a.1 a.2.1 a.2.2.1⟩
theorem tl(N:Nat):a_ Tryz.prog 213 (tj N):=tg [] [] [] N (.nil) (.nil) (λa=>by kernel_rfl)
def nz(N:Nat):aY:=⟨[.st 5],[cb],λa=>zcF N a.1⟩
theorem nH(N:Nat):a_ Tryz.prog 149 (nz N):=tg [] [(14,⟨[.r 61 cb],[],[],[]⟩),(26,⟨[.r 3 ci],[],[],[]⟩),(30,⟨[.r 85 cb],[],[],[]⟩),(62,⟨[.r 101 cb],[],[],[]⟩),(126,⟨[.r 119 cb],[],[],[]⟩)] [] N (.cons (tl N)<|.cons (zbW N)<|.cons (zdj N)<|.nil) (.nil) (λa=>by kernel_rfl)
def oL(N:Nat):aY:=⟨[.c (.sl 7),ci],[ci],λa=>zc3 N a.1 a.2.1⟩
theorem pd(N:Nat):a_ Tryz.prog 152 (oL N):=tg [] [(26,⟨[.r 5 ci],[],[],[]⟩)] [] N (.nil) (.nil) (λa=>by kernel_rfl)
def rl(N:Nat):aY:=⟨[.st 5],[cb],λa=>zdB N a.1⟩
theorem rH(N:Nat):a_ Tryz.prog 174 (rl N):=tg [] [] [] N (.nil) (.nil) (λa=>by kernel_rfl)
def nj(N:Nat):aY:=⟨[.st 0,.st 0],[ci],λa=>ZT N a.1 a.2.1⟩
theorem oE(N:Nat):a_ Tryz.prog 246 (nj N):=tg [] [(6,⟨[.r 19 cb],[],[],[]⟩),(124,⟨[.r 5 ci,.h 2 0 (.int .i64),.h 2 1 (.int .i64),.h 2 2 (.int .i64),.h 2 3 (.int .i64)],[],[],[]⟩),(496,⟨[.r 27 cb],[],[],[]⟩)] [] N (.cons (zdM N)<|.cons (zdj N)<|.cons (zbW N)<|.nil) (.nil) (λa=>by kernel_rfl)
def pG(N:Nat):aY:=⟨[.st 10,ci,.st 0],[ci],λa=>fw N a.1 a.2.1 a.2.2.1⟩
theorem po(N:Nat):a_ Tryz.prog 230 (pG N):=tg [] [(122,⟨[.r 7 ci,.r 8 ci],[],[],[]⟩)] [] N (.cons (oE N)<|.nil) (.nil) (λa=>by kernel_rfl)
def qk(N:Nat):aY:=⟨[.st 10,ci,ci,.st 0],[cb],λa=>zch N a.1 a.2.1 a.2.2.1 a.2.2.2.1⟩
theorem pK(N:Nat):a_ Tryz.prog 175 (qk N):=tg [] [] [] N (.cons (po N)<|.nil) (.nil) (λa=>by kernel_rfl)
def nX(N:Nat):aY:=⟨[.c (.sl 6)],[ci],λa=>zcM N a.1⟩
theorem oe(N:Nat):a_ Tryz.prog 147 (nX N):=tg [] [(58,⟨[.r 3 ci,.r 4 ci],[],[],[]⟩),(233,⟨[.r 3 ci],[],[],[]⟩)] [] N (.nil) (.nil) (λa=>by kernel_rfl)
def qS(N:Nat):aY:=⟨[.c (.sl 1),ci],[cb],λa=>zdy N a.1 a.2.1⟩
theorem rb(N:Nat):a_ Tryz.prog 148 (qS N):=tg [] [(26,⟨[.r 5 ci],[],[],[]⟩)] [] N (.nil) (.nil) (λa=>by kernel_rfl)
def qh(N:Nat):aY:=⟨[.st 10,.st 5,.c (.sl 6)],[cb],λa=>zc8 N a.1 a.2.1 a.2.2.1⟩
theorem oN(N:Nat):a_ Tryz.prog 77 (qh N):=tg [] [(6,⟨[.r 34 cb],[],[],[]⟩),(122,⟨[.r 8 ci],[],[],[]⟩)] [] N (.cons (rb N)<|.cons (fO N)<|.cons (oe N)<|.nil) (.nil) (λa=>by kernel_rfl)
def rD(N:Nat):aY:=⟨[.st 10,.st 14,.st 5],[cb],λa=>zdt N a.1 a.2.1 a.2.2.1⟩
theorem rN(N:Nat):a_ Tryz.prog 101 (rD N):=tg [] [(15,⟨[.r 7 ci],[],[],[]⟩),(31,⟨[.r 7 ci],[],[],[]⟩),(63,⟨[.r 7 ci],[],[],[]⟩),(510,⟨[.r 83 cb],[],[],[]⟩),(8186,⟨[.r 9 ci],[],[],[]⟩)] [] N (.cons (nH N)<|.cons (pd N)<|.cons (zbu N)<|.cons (pK N)<|.cons (rH N)<|.cons (oN N)<|.nil) (.nil) (λa=>by kernel_rfl)
def ns(N:Nat):aY:=⟨[.st 10,.st 14],[cb],λa=>ZJ N a.1 a.2.1⟩
theorem nS(N:Nat):a_ Tryz.prog 39 (ns N):=tg [] [(6,⟨[.r 43 cb],[],[],[]⟩),(14,⟨[.r 86 cb],[],[],[]⟩),(122,⟨[.r 5 ci],[],[],[]⟩),(250,⟨[.r 6 ci],[],[],[]⟩),(4004,⟨[.r 138 cb],[],[],[]⟩)] [] N (.cons (fR N)<|.cons (rN N)<|.cons (mF N)<|.cons (nL N)<|.cons (rB N)<|.cons (nV N)<|.nil) (.nil) (λa=>by kernel_rfl)
def qb(N:Nat):aY:=⟨[.st 5,.st 5],[cb],λa=>zc2 N a.1 a.2.1⟩
theorem oU(N:Nat):a_ Tryz.prog 44 (qb N):=tg [] [(58,⟨[.r 5 ci],[],[],[]⟩)] [] N (.nil) (.nil) (λa=>by kernel_rfl)
def oP(N:Nat):aY:=⟨[.c (.sl 5),.c (.sl 5)],[cb],λa=>YP N a.1 a.2.1⟩
theorem gS(N:Nat):a_ Tryz.prog 12 (oP N):=tg [] [(58,⟨[.r 5 ci],[],[],[]⟩)] [] N (.cons (oU N)<|.nil) (.nil) (λa=>by kernel_rfl)
def pR(N:Nat):aY:=⟨[.c (.sl 6),.c (.sl 6)],[cb],λa=>zc9 N a.1 a.2.1⟩
theorem p_(N:Nat):a_ Tryz.prog 64 (pR N):=tg [] [(58,⟨[.r 5 ci],[],[],[]⟩)] [] N (.nil) (.nil) (λa=>by kernel_rfl)
def pS(N:Nat):aY:=⟨[.c (.sl 7),.c (.sl 7)],[cb],λa=>zdc N a.1 a.2.1⟩
theorem oK(N:Nat):a_ Tryz.prog 48 (pS N):=tg [] [(58,⟨[.r 5 ci],[],[],[]⟩),(932,⟨[.r 54 cb],[],[],[]⟩)] [] N (.cons (p_ N)<|.nil) (.nil) (λa=>by kernel_rfl)
def pX(N:Nat):aY:=⟨[.c (.sl 8),.c (.sl 8)],[cb],λa=>zda N a.1 a.2.1⟩
theorem pp(N:Nat):a_ Tryz.prog 49 (pX N):=tg [] [(58,⟨[.r 5 ci],[],[],[]⟩)] [] N (.nil) (.nil) (λa=>by kernel_rfl)
def pu(N:Nat):aY:=⟨[.c (.sl 1),.c (.sl 1)],[cb],λa=>zcf N a.1 a.2.1⟩
theorem o_(N:Nat):a_ Tryz.prog 50 (pu N):=tg [] [(58,⟨[.r 5 ci],[],[],[]⟩)] [] N (.nil) (.nil) (λa=>by kernel_rfl)
def pA(N:Nat):aY:=⟨[.st 14,.st 14],[cb],λa=>Wo N a.1 a.2.1⟩
theorem gI(N:Nat):a_ Tryz.prog 15 (pA N):=tg [] [] [] N (.cons (gS N)<|.cons (oK N)<|.cons (pp N)<|.cons (o_ N)<|.nil) (.nil) (λa=>by kernel_rfl)
def lj(N:Nat):jp:=⟨.mk [.v (.st 10),.v (.st 14)] [] [] [] [] [],[.mk [.p (.k (.c (.lit (.pointer none)))),.v cb] [] [] [] [] [(393227,[.mk [.p (.k (.c (.lit (.pointer none)))),.v ci] [] [] [(1000000,0)] [] [],.mk [.p (.pt 2 0 27),.p (.k (.c (.lit (.int .i64 0))))] [] [.cells [.pt 3 0 2,.pt 4 0 2,xl 0,xl 2,xl 3,xi,xi,xi,xi,xi,xi,xi,xi,xi,xi,xi,xi,xi,xi,xi,xi,xi,xi,xl 8,xl 1,.hd 5,xi],.cells [xi,.hd 6],.cells [xl 0,.mr 7],.row 1,.row 5,.mp 7 true] [] [] []]),(1966113,[.mk [.v (.st 14)] [] [] [(1000000,1)] [] []])],.mk [.p (.pt 0 0 27),.v cb] [] [.cells [.pt 1 0 2,.pt 2 0 2,xl 0,xl 2,xl 3,xi,xi,xi,xi,xi,xi,xi,xi,xi,xi,xi,xi,xi,xi,xi,xi,xi,xi,xl 8,xl 1,.hd 3,xi],.cells [xi,.hd 4],.cells [xl 0,.mr 5],.row 1,.row 5,.mp 7 true] [] [] []],λ(a,b)=>XY N a b⟩
theorem kS(N:Nat):jb Tryz.prog 9 (lj N):=og (g:=9) N (.cons (nS N)<|.cons (gI N)<|.nil) (.cons (un N)<|.cons (za8 N)<|.nil) (by kernel_rfl) (λx=>by kernel_rfl)
def tA(N:Nat):jp:=⟨.mk [.p (.k (.c (.lit (.pointer none)))),.v ci] [] [] [] [] [],[.mk [.v cb] [] [] [] [] []],λx=>iq N⟩
theorem tn(N:Nat):jb Tryz.prog 11 (tA N):=og (g:=11) N (.nil) (.nil) (by kernel_rfl) (λx=>by kernel_rfl)
end Go.Abs
end
end
section
set_option maxRecDepth 100000
noncomputable section
namespace Go.Abs
open Go.Proofs
variable[Gl]
def qO(N:Nat):aY:=⟨[.st 4,.c (.sl 5)],[ci],λa=>zdu N a.1 a.2.1⟩
theorem qU(N:Nat):a_ Tryz.prog 185 (qO N):=tg [] [(14,⟨[.r 27 cb],[],[],[]⟩),(30,⟨[.r 45 cb],[],[],[]⟩)] [] N (.cons (zbu N)<|.nil) (.nil) (λa=>by kernel_rfl)
def qR(N:Nat):aY:=⟨[.st 5,.c (.sl 5)],[cb],λa=>YQ N a.1 a.2.1⟩
theorem qN(N:Nat):a_ Tryz.prog 110 (qR N):=tg [] [(26,⟨[.r 5 ci],[],[],[]⟩)] [] N (.cons (qU N)<|.nil) (.nil) (λa=>by kernel_rfl)
def sD(N:Nat):aY:=⟨[.st 5,.c (.sl 5)],[cb],λa=>Ym N a.1 a.2.1⟩
theorem jA(N:Nat):a_ Tryz.prog 45 (sD N):=tg [] [] [] N (.cons (qN N)<|.nil) (.nil) (λa=>by kernel_rfl)
def qZ(N:Nat):aY:=⟨[ci,ci],[ci],λa=>zdF N a.1 a.2.1⟩
theorem rc(N:Nat):a_ Tryz.prog 267 (qZ N):=tg [] [(58,⟨[.r 5 ci],[],[],[]⟩)] [] N (.nil) (.nil) (λa=>by kernel_rfl)
def oX(N:Nat):aY:=⟨[ci,ci,ci],[ci],λa=>Wv N a.1 a.2.1 a.2.2.1⟩
theorem gX(N:Nat):a_ Tryz.prog 268 (oX N):=tg [] [] [] N (.nil) (.nil) (λa=>by kernel_rfl)
def mf(N:Nat):aY:=⟨[ci],[ci],λa=>YL N a.1⟩
theorem mT(N:Nat):a_ Tryz.prog 269 (mf N):=tg [] [] [] N (.cons (gX N)<|.nil) (.nil) (λa=>by kernel_rfl)
def oj(N:Nat):aY:=⟨[.st 10,.st 5,ci,.c (.sl 1)],[.st 11],λa=>zcG N a.1 a.2.1 a.2.2.1 a.2.2.2.1⟩
theorem nP(N:Nat):a_ Tryz.prog 234 (oj N):=tg [] [(31,⟨[.h 3 2 (.int .i64)],[],[],[]⟩),(63,⟨[.h 3 3 (.int .i64)],[],[],[]⟩)] [] N (.cons (rc N)<|.cons (gX N)<|.cons (mT N)<|.nil) (.nil) (λa=>by kernel_rfl)
def tq(N:Nat):aY:=⟨[.st 10,.st 5,ci,.c (.sl 1)],[ci],λa=>Yp N a.1 a.2.1 a.2.2.1 a.2.2.2.1⟩
theorem sQ(N:Nat):a_ Tryz.prog 186 (tq N):=tg [] [] [] N (.cons (nP N)<|.nil) (.nil) (λa=>by kernel_rfl)
def ny(N:Nat):aY:=⟨[.st 10,.st 5,.st 5,.st 19],[cb],λa=>zcH N a.1 a.2.1 a.2.2.1 a.2.2.2.1⟩
theorem oB(N:Nat):a_ Tryz.prog 111 (ny N):=tg [] [] [] N (.cons (sQ N)<|.nil) (.nil) (λa=>by kernel_rfl)
def iN(N:Nat):jp:=⟨.mk [.v (.st 10),.p (.hd 0),.v (.st 19)] [] [.row 5] [] [] [],[.mk [.v (.c (.sl 5))] [] [] [(47,5)] [(58,⟨[.r 7 (.c (.sl 5)),.r 8 ci],[],[],[]⟩),(7460,⟨[.r 9 ci],[],[],[]⟩),(29840,⟨[.r 34 cb],[],[],[]⟩)] []],λ(a,b,d)=>Yq N a b d⟩
theorem iP(N:Nat):jb Tryz.prog 46 (iN N):=og (g:=46) N (.cons (oB N)<|.nil) (.nil) (by kernel_rfl) (λx=>by kernel_rfl)
def nr(N:Nat):aY:=⟨[.st 10,.st 14],[.c (.sl 5)],λa=>zcD N a.1 a.2.1⟩
theorem nG(N:Nat):a_ Tryz.prog 13 (nr N):=tg [(28,5)] [(58,⟨[.r 6 ci,.w 2 5],[(5,2)],[(5,5)],[]⟩),(233,⟨[.w 2 5],[(5,2)],[],[]⟩)] [(1966117,[.mk [.v (.c (.sl 5))] [] [] [(1000000,0)] [] []])] N (.cons (jA N)<|.nil) (.cons (iP N)<|.nil) (λa=>by kernel_rfl)
def nC(N:Nat):aY:=⟨[.c (.sl 5),ci,.st 20,ci],[ci],λa=>zcN N a.1 a.2.1 a.2.2.1 a.2.2.2.1⟩
theorem ol(N:Nat):a_ Tryz.prog 112 (nC N):=tg [] [(58,⟨[.r 9 ci,.r 10 ci],[],[],[]⟩),(233,⟨[.r 9 ci],[],[],[]⟩),(1865,⟨[.r 49 cb],[],[],[]⟩)] [] N (.nil) (.nil) (λa=>by kernel_rfl)
def qY(N:Nat):aY:=⟨[.st 10,.c (.sl 5),.st 5],[cb],λa=>zdw N a.1 a.2.1 a.2.2.1⟩
theorem qT(N:Nat):a_ Tryz.prog 47 (qY N):=tg [] [(250,⟨[.r 8 ci,.r 9 ci],[],[],[]⟩),(1001,⟨[.r 8 ci],[],[],[]⟩),(4004,⟨[.r 66 cb],[],[],[]⟩)] [] N (.cons (ol N)<|.nil) (.nil) (λa=>by kernel_rfl)
def rO(N:Nat):aY:=⟨[.st 10,.st 14,ci],[cb],λa=>zdC N a.1 a.2.1 a.2.2.1⟩
theorem rL(N:Nat):a_ Tryz.prog 14 (rO N):=tg [] [] [] N (.cons (zbu N)<|.cons (jA N)<|.cons (qT N)<|.nil) (.nil) (λa=>by kernel_rfl)
def jf(N:Nat):aY:=⟨[.st 9,ci],[cb],λa=>zcn N a.1 a.2.1⟩
theorem jB(N:Nat):a_ Tryz.prog 3 (jf N):=tg [] [] [(1966100,[.mk [.p (.k (.c (.lit (.pointer none)))),.v cb] [] [] [(1000000,0)] [] [],.mk [.p (.pt 1 0 27),.v cb] [] [.cells [.pt 2 0 2,.pt 3 0 2,xl 0,xl 2,xl 3,xi,xi,xi,xi,xi,xi,xi,xi,xi,xi,xi,xi,xi,xi,xi,xi,xi,xi,xl 8,xl 1,.hd 4,xi],.cells [xi,.hd 5],.cells [xl 0,.mr 6],.row 1,.row 5,.mp 7 true] [] [] []]),(8257577,[.mk [.v (.c (.sl 5))] [] [] [(1000000,3)] [] []]),(8257587,[.mk [.v cb] [] [] [(1000000,4)] [] []]),(8257598,[.mk [.v (.st 14)] [] [] [(1000000,5)] [] []]),(32768031,[.mk [.v (.c (.sl 5))] [] [] [(1000000,1)] [] []]),(32768037,[.mk [.v cb] [] [] [(1000000,2)] [] []])] N (.cons (nF N)<|.cons (rk N)<|.cons (nG N)<|.cons (gS N)<|.cons (rL N)<|.cons (gI N)<|.nil) (.cons (kS N)<|.cons (gV N)<|.cons (tn N)<|.cons (gQ N)<|.cons (jN N)<|.cons (za8 N)<|.nil) (λa=>by kernel_rfl)
end Go.Abs
end
end
section
end
