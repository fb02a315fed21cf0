/- The code computes these functions. -/
import Derived.Test.YtdfbphphacpkdaaGreatTyPure
import Derived.Test.YtdfbphphacpkdaaGreatProg
import Derived.Test.YtdfbphphacpkdaaGreatTyPrim
import Derived.KernelRfl
set_option linter.all false
section
set_option maxRecDepth 100000
noncomputable section
namespace Go.Abs
open Go.Proofs
variable[Gl]
abbrev ci:dh:=.c (.int .i64)
abbrev cb:dh:=.c .bool
abbrev xi:CP:=.c (.int .i64)
abbrev xb:CP:=.c .bool
abbrev xl(n:Nat):CP:=.c (.sl n)
abbrev xn:CP:=.k (.c (.lit (.slice none 0 0)))
theorem dC:Tryz.prog.follows .mixedOrders=true:=by kernel_rfl
def KB:c_:=Km 138 202 1 (λk=>k)
theorem KB_ok:c_.ok Tryz.prog KB:=Pc Tryz.TO (λk=>rfl)
theorem tg{g:Nat}{S:sG}{s:bB}(H:List (Nat×Nat))(J:List (Nat×JH))(C:List (Nat×List CT))(N:Nat)(b:ft Tryz.prog S){O:NY}(d:uA Tryz.prog O)(h:∀a,tG Tryz.prog g S O KB H J C s.ins s.out N a=s.f a:=by intro _;kernel_rfl):bJ Tryz.prog g s:=tG_ok dC b d KB_ok h
theorem og{g:Nat}{S:sG}{O:NY}{s:dk}(N:Nat)(a:ft Tryz.prog S)(b:uA Tryz.prog O)(d:aS Tryz.prog g=true:=by kernel_rfl)(h:∀x,oG Tryz.prog g S O KB N s x=s.f x:=by intro _;kernel_rfl):cR Tryz.prog g s:=oG_ok dC a b KB_ok d h
abbrev ft.c:=@ft.cons
abbrev uA.c:=@uA.cons
abbrev gA(g:Nat)(s:bB):=bJ Tryz.prog g s
abbrev g6(g:Nat)(s:dk):=cR Tryz.prog g s
abbrev eP(l:List RO)(n:Nat):CT:=.mk l [] [] [(1000000,n)] [] []
abbrev f9(l:List RO):CT:=.mk l [] [] [] [] []
abbrev g7(a b c:Nat):NB:=.cells [.pt a 0 2,.pt b 0 2,xl 0,xl 2,xl 3,xi,xi,xi,xi,xi,xi,xi,xi,xi,xi,xi,xi,xi,xi,xi,xi,xi,xi,xl 8,xl 1,.hd c,xi]
end Go.Abs
end
end
section
set_option maxRecDepth 100000
noncomputable section
namespace Go.Abs
open Go.Proofs
variable[Gl](N:Nat)
def tc:bB:=⟨[],[.st 10],λa=>fL N⟩
theorem tD:gA 39 (tc N):=clo_ok (P:=Tryz.prog) (g:=39) (out:=[.st 10]) (λa=>fL N) dC (by kernel_rfl)
def DK:bB:=⟨[.st 0],[.st 11],λa=>fU N a.1⟩
theorem uz:gA 217 (DK N):=tg [] [] [] N (.nil) (.nil)
def Kl:bB:=⟨[.st 0],[cb],λa=>Le N a.1⟩
theorem Vz:gA 165 (Kl N):=tg [] [(26,⟨[.r 7 ci],[],[],[]⟩)] [] N (.c (uz N)<|.nil) (.nil)
def yu:bB:=⟨[.st 10],[cb],λa=>fE N a.1⟩
theorem yl:gA 245 (yu N):=tg [] [(58,⟨[.r 18 ci],[],[],[]⟩)] [] N (.c (Vz N)<|.nil) (.nil)
def zJ:bB:=⟨[.c (.sl 1),ci],[cb],λa=>zeM N a.1 a.2.1⟩
theorem ot:gA 275 (zJ N):=tg [] [(58,⟨[.r 5 ci,.r 10 ci],[],[],[]⟩)] [] N (.nil) (.nil)
def yB:bB:=⟨[.st 10],[cb],λa=>fC N a.1⟩
theorem yK:gA 247 (yB N):=tg [] [(58,⟨[.r 18 ci],[],[],[]⟩),(3737,⟨[.r 32 cb],[],[],[]⟩)] [] N (.c (ot N)<|.nil) (.nil)
def wx:bB:=⟨[.st 10],[cb],λa=>zeZ N a.1⟩
theorem wE:gA 250 (wx N):=tg [] [(58,⟨[.r 20 ci],[],[],[]⟩),(7474,⟨[.r 42 cb],[],[],[]⟩),(59802,⟨[.r 50 ci],[],[],[]⟩)] [] N (.c (ot N)<|.nil) (.nil)
def uB:bB:=⟨[.st 12],[cb],λa=>zen N a.1⟩
theorem tU:gA 252 (uB N):=tg [] [(26,⟨[.r 14 ci],[],[],[]⟩)] [] N (.nil) (.nil)
def Jo:bB:=⟨[.st 10],[.c .str],λa=>AT N a.1⟩
theorem Iq:gA 128 (Jo N):=tg [] [(26,⟨[],[],[(1000003,40)],[]⟩)] [(786438,[.mk [] [] [] [(1000002,0),(43,1000001)] [] [(393225,[.mk [] [] [] [(1000002,0)] [] []]),(393232,[.mk [] [] [] [(1000002,0)] [] []]),(393237,[.mk [] [] [] [(1000002,0)] [] []]),(393240,[.mk [] [] [] [(1000002,0)] [] []]),(393243,[.mk [] [] [] [(1000002,0)] [] []]),(393246,[.mk [] [] [] [(1000002,0)] [] []]),(393249,[.mk [] [] [] [(1000002,0)] [] []]),(393252,[.mk [] [] [] [(1000002,0)] [] []]),(393255,[.mk [] [] [] [(1000002,0)] [] []]),(393258,[.mk [] [] [] [(1000002,0)] [] []])]]),(221380622,[f9 [.v cb]])] N (.c (yl N)<|.c (yK N)<|.c (wE N)<|.c (tU N)<|.nil) (.nil)
def FP:bB:=⟨[.st 10],[cb],λa=>PM N a.1⟩
theorem ZT:gA 61 (FP N):=tg [] [] [] N (.c (Iq N)<|.nil) (.nil)
def yL:dk:=⟨f9 [.v ci],[f9 [.p (.k (.c (.lit (.pointer none)))),.p (.k (.c (.lit (.int .i64 2))))],.mk [.p (.pt 0 0 2),.p (.k (.c (.lit (.int .i64 0))))] [] [.cells [xi,xn]] [] [] []],λa=>zeg N a⟩
theorem nN:g6 94 (yL N):=og (g:=94) N (.nil) (.nil)
def ig:bB:=⟨[.c (.sl 0)],[.c (.sl 0)],λa=>zaZ N a.1⟩
theorem zcZ:gA 160 (ig N):=ub (i:=0) (sz:=32) (z:=[.c (.lit (.int .i64 0)),.c (.lit (.int .i64 0)),.c (.lit (.int .i64 0)),.c (.lit (.int .i64 0))]) (fn:=Tryz.f160) dC (by kernel_rfl) (by kernel_rfl) (by kernel_rfl) rfl
def wF:dk:=⟨f9 [.v (.st 10)],[.mk [.p (.k (.c (.lit (.pointer none)))),.p (.k (.c (.lit (.int .i64 2))))] [] [] [(10,15)] [] [],.mk [.p (.pt 0 0 2),.p (.k (.c (.lit (.int .i64 0))))] [] [.cells [xl 0,.mr 1],.mp 7 true] [] [] []],λa=>zcF N a⟩
theorem zfa:g6 95 (wF N):=og (g:=95) N (.c (ZT N)<|.c (zcZ N)<|.nil) (.nil)
def jc:dk:=⟨f9 [.v (.c (.sl 2))],[.mk [.p (.hd 0)] [] [.row 2] [] [] []],λx=>zcq N x⟩
theorem jk:g6 161 (jc N):=lU (i:=2) (sz:=24) (z:=[.c (.lit (.slice none 0 0))]) (fn:=Tryz.f161) dC (by kernel_rfl) (by kernel_rfl) (by kernel_rfl) rfl
def pE:bB:=⟨[.c (.sl 1)],[.c (.sl 1)],λa=>zaV N a.1⟩
theorem zdb:gA 71 (pE N):=ub (i:=1) (sz:=8) (z:=[.c (.lit (.int .i64 0))]) (fn:=Tryz.f71) dC (by kernel_rfl) (by kernel_rfl) (by kernel_rfl) rfl
def zdY:dk:=⟨f9 [.v (.c (.sl 3))],[.mk [.p (.hd 0)] [] [.row 3] [] [] []],λx=>zbg N x⟩
theorem zdX:g6 162 (zdY N):=lU (i:=3) (sz:=64) (z:=[.c (.lit (.int .i64 0)),.c (.lit (.slice none 0 0)),.c (.lit (.int .i64 0)),.c (.lit (.int .i64 0)),.c (.lit (.int .i64 0)),.c (.lit (.int .i64 0))]) (fn:=Tryz.f162) dC (by kernel_rfl) (by kernel_rfl) (by kernel_rfl) rfl
def za:bB:=⟨[.st 10],[.st 10],λa=>zcV N a.1⟩
theorem gV:gA 96 (za N):=tg [] [(122,⟨[.r 16 ci,.w 2 2],[],[],[(0,1,2)]⟩),(506,⟨[.r 37 ci,.w 3 3],[],[],[(0,2,3)]⟩)] [(917515,[.mk [.p (.hd 2)] [] [.row 2] [(1000000,0)] [] []]),(4063264,[.mk [.p (.hd 3)] [] [.row 3] [(1000000,1)] [] []])] N (.c (zcZ N)<|.c (zdb N)<|.nil) (.c (jk N)<|.c (zdX N)<|.nil)
def Cn:bB:=⟨[ci,ci,ci],[ci],λa=>zcm N a.1 a.2.1 a.2.2.1⟩
theorem fF:gA 163 (Cn N):=tg [] [] [] N (.nil) (.nil)
def Kc:bB:=⟨[ci],[.c (.sl 1)],λa=>ql N a.1⟩
theorem Af:gA 97 (Kc N):=tg [(5,1)] [] [] N (.c (fF N)<|.nil) (.nil)
def yN:dk:=⟨f9 [.v (.st 10)],[.mk [.p (.k (.c (.lit (.pointer none)))),.p (.k (.c (.lit (.int .i64 2))))] [] [] [(37,1)] [(3298534883343,⟨[],[],[(1049601,5)],[]⟩)] [(917517,[eP [.p (.k (.c (.lit (.pointer none)))),.p (.k (.c (.lit (.int .i64 2))))] 0,.mk [.p (.pt 1 0 2),.p (.k (.c (.lit (.int .i64 0))))] [] [.cells [xi,xn]] [] [] []]),(4063253,[eP [.p (.k (.c (.lit (.pointer none)))),.p (.k (.c (.lit (.int .i64 2))))] 1,.mk [.p (.pt 3 0 2),.p (.k (.c (.lit (.int .i64 0))))] [] [.cells [xl 0,.mr 4],.mp 7 true] [] [] []])],.mk [.p (.pt 0 0 27),.p (.k (.c (.lit (.int .i64 0))))] [] [g7 1 2 3,.cells [xi,.hd 4],.cells [xl 0,.mr 5],.row 1,.row 5,.mp 7 true] [] [] []],λa=>r_ N a⟩
theorem yA:g6 38 (yN N):=og (g:=38) N (.c (ZT N)<|.c (gV N)<|.c (Af N)<|.nil) (.c (nN N)<|.c (zfa N)<|.nil)
def pK:dk:=⟨f9 [.p (.k (.c (.lit (.pointer none)))),.v (.st 5)],[f9 [.v ci]],λx=>iM N⟩
theorem pG:g6 40 (pK N):=og (g:=40) N (.nil) (.nil)
def nX:dk:=⟨f9 [.p (.k (.c (.lit (.pointer none)))),.v ci,.v ci,.v ci],[.mk [] [] [] [] [] [(65552,[eP [.v ci] 0])]],λ(a,_,_)=>zcz N a⟩
theorem oj:g6 56 (nX N):=og (g:=56) N (.nil) (.c (pG N)<|.nil)
def mK:dk:=⟨.mk [.p (.k (.c (.lit (.pointer none)))),.v ci,.p (.hd 0)] [] [.row 6] [] [] [],[f9 [.v ci]],λx=>zci N⟩
theorem nJ:g6 57 (mK N):=og (g:=57) N (.nil) (.nil)
def re:dk:=⟨f9 [.p (.k (.c (.lit (.pointer none))))],[f9 [.p (.k (.c (.lit (.pointer none)))),.v ci]],λx=>kR N⟩
theorem rP:g6 12 (re N):=og (g:=12) N (.nil) (.nil)
def qY:dk:=⟨f9 [.p (.k (.c (.lit (.pointer none))))],[.mk [.ag [.k (.c (.lit (.pointer none))),.k (.c (.lit (.pointer none)))],.v ci] [] [] [] [] [(393224,[eP [.p (.k (.c (.lit (.pointer none)))),.v ci] 0])]],λx=>kU N⟩
theorem rj:g6 58 (qY N):=og (g:=58) N (.nil) (.c (rP N)<|.nil)
def tT:dk:=⟨f9 [.p (.k (.c (.lit (.pointer none))))],[f9 [.v (.c (.sl 5))]],λx=>oL N⟩
theorem tW:g6 28 (tT N):=og (g:=28) N (.nil) (.nil)
def yb:dk:=⟨f9 [.p (.k (.c (.lit (.pointer none)))),.v ci],[f9 [.v cb]],λx=>rV N⟩
theorem xW:g6 29 (yb N):=og (g:=29) N (.nil) (.nil)
def qe:dk:=⟨f9 [.p (.k (.c (.lit (.pointer none)))),.p (.k (.c (.lit (.pointer none)))),.v (.st 5)],[f9 [.v (.st 14),.v cb]],λx=>zeF N⟩
theorem qg:g6 13 (qe N):=og (g:=13) N (.nil) (.nil)
def DO:bB:=⟨[.c (.sl 6),ci],[cb],λa=>zdZ N a.1 a.2.1⟩
theorem zeI:gA 170 (DO N):=tg [] [(58,⟨[.r 5 ci,.r 10 ci],[],[],[]⟩)] [] N (.nil) (.nil)
def xX:dk:=⟨f9 [.v (.st 0)],[f9 [.ag [.cx,.cx]]],λa=>zdc N a⟩
theorem mU:g6 224 (xX N):=og (g:=224) N (.nil) (.nil)
def zU:dk:=⟨f9 [.ag [.cx,.cx]],[f9 [.v (.st 0)]],λ(a,b)=>mB N a b⟩
theorem Ah:g6 260 (zU N):=og (g:=260) N (.nil) (.nil)
def wI:dk:=⟨f9 [.ag [.cx,.cx]],[.mk [.v (.st 0),.v ci] [] [] [] [] [(393222,[eP [.v (.st 0)] 0])]],λ(a,b)=>zdx N a b⟩
theorem kW:g6 225 (wI N):=og (g:=225) N (.c (Vz N)<|.nil) (.c (Ah N)<|.nil)
def II:bB:=⟨[.st 0,ci],[.st 0,ci],λa=>lY N a.1 a.2.1⟩
theorem lz:gA 180 (II N):=tg [] [] [(4063256,[eP [.ag [.cx,.cx]] 0]),(8257573,[eP [.v (.st 0),.v ci] 1])] N (.c (Vz N)<|.nil) (.c (mU N)<|.c (kW N)<|.nil)
def FB:bB:=⟨[.c (.sl 15)],[cb],λa=>zea N a.1⟩
theorem gT:gA 179 (FB N):=tg [] [(58,⟨[.r 3 ci,.r 8 ci],[],[],[]⟩),(7474,⟨[.r 26 cb],[],[],[]⟩)] [] N (.c (Vz N)<|.nil) (.nil)
def FW:bB:=⟨[.c (.sl 15),ci],[ci],λa=>fS N a.1 a.2.1⟩
theorem zcS:gA 186 (FW N):=tg [] [] [(393224,[.mk [.v ci] [] [] [] [(28,⟨[.r 5 ci,.r 6 ci],[],[],[]⟩)] [(59375636,[f9 [.v cb]])]])] N (.nil) (.nil)
def zex:dk:=⟨f9 [.v (.c (.sl 15))],[.mk [.p (.hd 0)] [] [.row 15] [] [] []],λx=>zaW N x⟩
theorem zb2:g6 262 (zex N):=lU (i:=15) (sz:=40) (z:=[.c (.lit (.int .i64 0)),.c (.lit (.int .i64 0)),.c (.lit (.int .i64 0)),.c (.lit (.int .i64 0)),.c (.lit (.int .i64 0))]) (fn:=Tryz.f262) dC (by kernel_rfl) (by kernel_rfl) (by kernel_rfl) rfl
def zbN:dk:=⟨.mk [.p (.hd 0),.v ci,.p (.hd 1)] [] [.row 15,.row 15] [] [] [],[.mk [.p (.hd 0)] [.w 0 15] [] [] [] []],λ(a,b,d)=>zaC N a b d⟩
theorem zdI:g6 263 (zbN N):=og (g:=263) N (.nil) (.nil)
def zd9:dk:=⟨.mk [.p (.hd 0),.v ci,.p (.hd 1)] [] [.row 15,.row 15] [] [] [],[.mk [.p (.hd 0)] [.w 0 15] [] [] [] []],λx=>zaT N x.1 x.2.1 x.2.2⟩
def Zc:Go.Shelf.Ren:=⟨λ| 22=>263 | 29=>283 | 30=>284 | n=>n,λ| 24=>190 | 9=>255 | 3=>3 | 4=>4 | 0=>0 | n=>n,λn=>n⟩
theorem Mj:Mw Tryz.prog Zc 5 40 "slices.Insert[[]drayage/api.Step,drayage/api.Step]" (.agg #[.int .i64 0,.int .i64 0,.int .i64 0,.int .i64 0,.int .i64 0]):={ mixed:=dC,f22:=Tryz.func263.trans (congrArg some (by kernel_rfl)),ov:=λargs w=>Go.run_callFunc_extern Tryz.func283 (by kernel_rfl) (by kernel_rfl) (by kernel_rfl) (by kernel_rfl) args w,t0:=Tryz.underlying0,t3:=Tryz.underlying3,t4:=Tryz.underlying4,a3:=Tryz.isAgg3,z3:=Tryz.sizeOf3,a4:=Tryz.isAgg4,z4:=Tryz.sizeOf4,z9:=Tryz.sizeOf255,v9:=Tryz.zeroValue255,t24:=Tryz.underlying190,a24:=Tryz.isAgg190,z24:=Tryz.sizeOf190,v24:=Tryz.zeroValue190,i9:=by kernel_rfl }
theorem zd3:g6 263 (zd9 N):=cR.or (f1:=(zbN N).f) (f2:=λx=>NA (α:=TT 15) x.1 x.2.1 x.2.2) (zdI N) (HN (ii:=15) Mj (by kernel_rfl) (by kernel_rfl) (by kernel_rfl) (by kernel_rfl) (by kernel_rfl))
def Iv:bB:=⟨[.c (.sl 15),ci],[.c (.sl 15)],λa=>pU N a.1 a.2.1⟩
theorem lO:gA 232 (Iv N):=tg [(30,15)] [] [(917515,[.mk [.p (.hd 0)] [] [.row 15] [(1000000,0)] [] []]),(4063263,[.mk [.p (.hd 0)] [.w 0 15] [] [(1000000,1)] [] []])] N (.c (zcS N)<|.nil) (.c (zb2 N)<|.c (zd3 N)<|.nil)
def zbB:dk:=⟨.mk [.p (.hd 0),.v ci,.p (.hd 1)] [] [.row 15,.row 15] [] [] [],[.mk [.p (.hd 0)] [.w 0 15] [] [] [] []],λ(a,b,d)=>zaC N a b d⟩
theorem zdz:g6 263 (zbB N):=og (g:=263) N (.nil) (.nil)
def zdU:dk:=⟨.mk [.p (.hd 0),.v ci,.p (.hd 1)] [] [.row 15,.row 15] [] [] [],[.mk [.p (.hd 0)] [.w 0 15] [] [] [] []],λx=>zcd N x.1 x.2.1 x.2.2⟩
theorem zdT:g6 263 (zdU N):=cR.or (f1:=(zbB N).f) (f2:=λx=>NA (α:=TT 15) x.1 x.2.1 x.2.2) (zdz N) (HN (ii:=15) Mj (by kernel_rfl) (by kernel_rfl) (by kernel_rfl) (by kernel_rfl) (by kernel_rfl))
def ym:dk:=⟨f9 [.v (.c (.sl 15)),.v ci],[.mk [.p (.hd 0)] [] [.row 15] [(30,15)] [] [(917515,[.mk [.p (.hd 0)] [] [.row 15] [(1000000,0)] [] []]),(4063263,[.mk [.p (.hd 0)] [.w 0 15] [] [(1000000,1)] [] []])]],λ(a,b)=>kB N a b⟩
theorem xT:g6 232 (ym N):=og (g:=232) N (.c (zcS N)<|.nil) (.c (zb2 N)<|.c (zdT N)<|.nil)
def OQ:bB:=⟨[.st 0,.st 0],[.st 0,ci],λa=>vy N a.1 a.2.1⟩
theorem yq:gA 172 (OQ N):=tg [] [(6,⟨[.r 15 cb],[],[],[]⟩)] [(917522,[eP [.ag [.cx,.cx]] 0]),(917524,[eP [.ag [.cx,.cx]] 0]),(1966112,[eP [.v (.st 0),.v ci] 1])] N (.c (Vz N)<|.nil) (.c (mU N)<|.c (kW N)<|.nil)
def Fg:bB:=⟨[.c (.sl 15)],[.c (.sl 15)],λa=>oC N a.1⟩
theorem D_:gA 233 (Fg N):=tg [(13,15),(36,15)] [(122,⟨[.r 17 ci,.w 0 15],[(3,0)],[],[]⟩),(979,⟨[.w 0 15],[(3,0)],[],[]⟩)] [] N (.c (gT N)<|.nil) (.nil)
def pj:bB:=⟨[.c (.sl 15),ci,ci,.st 0,.k 172],[.c (.sl 15),ci],λa=>zd0 N a.1 a.2.1 a.2.2.1 a.2.2.2.1⟩
theorem pC:gA 181 (pj N):=tg [] [(6,⟨[.r 40 cb],[],[],[]⟩),(62,⟨[],[],[(12,15)],[]⟩),(122,⟨[.r 13 ci,.w 1 15],[(12,1)],[],[]⟩)] [(917549,[.mk [.p (.hd 1)] [] [.row 15] [(1000000,0)] [] []])] N (.c (lO N)<|.c (zcS N)<|.c (yq N)<|.c (D_ N)<|.c (gT N)<|.c (Vz N)<|.nil) (.c (xT N)<|.nil)
def FX:bB:=⟨[.c (.sl 15),ci,ci,.st 0],[.c (.sl 15),ci],λa=>mV N a.1 a.2.1 a.2.2.1 a.2.2.2.1⟩
theorem pA:gA 114 (FX N):=tg [] [] [] N (.c (pC N)<|.nil) (.nil)
def nq:dk:=⟨f9 [.p (.k (.c (.lit (.pointer none)))),.v ci,.v (.c (.sl 6)),.v (.st 0),.v ci],[f9 [.v ci]],λx=>gg N⟩
theorem zeD:g6 127 (nq N):=og (g:=127) N (.nil) (.nil)
def jN:dk:=⟨f9 [.ag [.k (.c (.lit (.pointer none))),.k (.c (.lit (.pointer none)))],.v (.st 5)],[.mk [.v (.st 18),.v cb] [] [] [] [] [(393231,[eP [.v (.st 14),.v cb] 0]),(4063271,[eP [.v ci] 1])]],λa=>zbM N a⟩
theorem jQ:g6 59 (jN N):=og (g:=59) N (.nil) (.c (qg N)<|.c (zeD N)<|.nil)
def oe:dk:=⟨f9 [.p (.k (.c (.lit (.pointer none))))],[f9 [.v ci]],λx=>zdH N⟩
theorem zeG:g6 60 (oe N):=og (g:=60) N (.nil) (.nil)
def lN:dk:=⟨f9 [.p (.k (.c (.lit (.pointer none)))),.v ci,.v (.c (.sl 6))],[f9 [.v ci]],λx=>zci N⟩
theorem lu:g6 57 (lN N):=og (g:=57) N (.nil) (.nil)
def si:dk:=⟨f9 [.p (.k (.c (.lit (.pointer none))))],[.mk [.v (.st 19),.v ci] [] [] [(53,14),(70,14)] [(250,⟨[.r 23 ci,.w 3 14,.w 4 14],[],[(1050624,14),(1050625,14)],[(2,0,3),(2,1,4)]⟩),(2003,⟨[.w 3 14,.w 4 14],[],[],[(2,0,3),(2,1,4)]⟩)] [(393229,[eP [.ag [.k (.c (.lit (.pointer none))),.k (.c (.lit (.pointer none)))],.v ci] 0]),(8126485,[eP [.v (.c (.sl 5))] 1]),(4200857630,[eP [.v cb] 2]),(4200988707,[eP [.v (.st 18),.v cb] 3]),(67217260591,[eP [.v ci] 4]),(268869435456,[eP [.v ci] 5])]],λx=>nR N⟩
theorem sD:g6 20 (si N):=og (g:=20) N (.nil) (.c (rj N)<|.c (tW N)<|.c (xW N)<|.c (jQ N)<|.c (zeG N)<|.c (lu N)<|.nil)
def Gj:bB:=⟨[ci,ci,ci],[cb],λa=>Og N a.1 a.2.1 a.2.2.1⟩
theorem o_:gA 164 (Gj N):=tg [] [] [] N (.nil) (.nil)
end Go.Abs
end
end
section
set_option maxRecDepth 100000
noncomputable section
namespace Go.Abs
open Go.Proofs
variable[Gl](N:Nat)
def zG:bB:=⟨[.st 5],[cb],λa=>ib N a.1⟩
theorem zT:gA 166 (zG N):=tg [] [(58,⟨[.r 12 ci],[],[],[]⟩)] [] N (.c (o_ N)<|.nil) (.nil)
def Jm:bB:=⟨[ci],[.c .str],λa=>vG N a.1⟩
theorem IH:gA 218 (Jm N):=tg [] [] [] N (.nil) (.nil)
def FV:bB:=⟨[ci],[cb],λa=>jt N a.1⟩
theorem xD:gA 219 (FV N):=tg [] [] [] N (.nil) (.nil)
def JX:bB:=⟨[ci],[cb],λa=>VA N a.1⟩
theorem gG:gA 131 (JX N):=tg [] [] [] N (.nil) (.nil)
def yZ:bB:=⟨[.st 5],[cb],λa=>ic N a.1⟩
theorem zc:gA 167 (yZ N):=tg [] [(51,⟨[.r 8 cb],[],[],[]⟩),(207,⟨[.r 17 cb],[],[],[]⟩)] [] N (.c (IH N)<|.c (gG N)<|.c (xD N)<|.nil) (.nil)
def Ks:bB:=⟨[.st 5],[cb],λa=>zeN N a.1⟩
theorem zfe:gA 98 (Ks N):=tg [] [] [] N (.c (o_ N)<|.c (Vz N)<|.c (zT N)<|.c (zc N)<|.nil) (.nil)
def gN:bB:=⟨[.c (.sl 4)],[.c (.sl 4)],λa=>zaD N a.1⟩
theorem zbI:gA 155 (gN N):=ub (i:=4) (sz:=16) (z:=[.c (.lit (.int .i64 0)),.c (.lit (.bool false))]) (fn:=Tryz.f155) dC (by kernel_rfl) (by kernel_rfl) (by kernel_rfl) rfl
def Jv:bB:=⟨[.st 5],[.st 5],λa=>ja N a.1⟩
theorem lB:gA 137 (Jv N):=tg [] [] [] N (.c (zbI N)<|.nil) (.nil)
def nZ:dk:=⟨.mk [.p (.pt 0 0 2),.v ci] [] [.cells [xi,.hd 1],.row 5] [] [] [],[.mk [.v ci,.v cb] [] [] [] [] [(393229,[.mk [.v ci] [] [] [] [(28,⟨[.r 5 ci,.r 6 ci],[],[],[]⟩)] [(59375636,[f9 [.v cb]])]])]],λ(a,b,_)=>zaH N a b⟩
theorem zcX:g6 168 (nZ N):=og (g:=168) N (.nil) (.nil)
def zei:dk:=⟨.mk [.p (.hd 0),.v ci,.p (.hd 1)] [] [.row 5,.row 5] [] [] [],[.mk [.p (.hd 0)] [.w 0 5] [] [] [] []],λ(a,b,d)=>zbj N a b d⟩
theorem zef:g6 169 (zei N):=og (g:=169) N (.nil) (.nil)
def pD:dk:=⟨.mk [.p (.pt 0 0 2),.v (.st 5)] [] [.cells [xi,.hd 1],.row 5] [] [] [],[.mk [.v ci] [.h 0 1 (.hd 1),.w 1 5] [] [(38,5)] [] [(1966096,[eP [.v ci,.v cb] 0]),(16646183,[.mk [.p (.hd 1)] [.w 1 5] [] [(1000000,1)] [] []])]],λ(a,b,d)=>zbZ N a b d⟩
theorem zfc:g6 99 (pD N):=og (g:=99) N (.c (zfe N)<|.c (lB N)<|.nil) (.c (zcX N)<|.c (zef N)<|.nil)
def EW:bB:=⟨[ci],[ci],λa=>fX N a.1⟩
theorem ni:gA 125 (EW N):=tg [] [] [] N (.nil) (.nil)
def nh:dk:=⟨.mk [.p (.pt 0 0 27),.v ci] [] [g7 1 2 3,.cells [xi,.hd 4],.cells [xl 0,.mr 5],.row 1,.row 5,.mp 7 true] [] [] [],[.mk [] [.w 3 1,.h 0 25 (.hd 3)] [] [] [] []],λ(a,_,_,b,_,_,_,_,_,_,_,_,_,_,_,_,_,_,_,_,_,_,_,_,_,_,_,_,_,_)=>zba N a b⟩
theorem zeA:g6 100 (nh N):=og (g:=100) N (.c (ni N)<|.nil) (.nil)
def pu:dk:=⟨.mk [.p (.pt 0 0 27),.v (.st 5)] [] [g7 1 2 3,.cells [xi,.hd 4],.cells [xl 0,.mr 5],.row 1,.row 5,.mp 7 true] [] [] [],[.mk [.v ci] [.h 1 1 (.hd 4),.w 4 5,.h 0 21 (xi),.h 0 25 (.hd 3),.w 3 1] [] [] [] [(8126509,[.mk [.v ci] [.h 1 1 (.hd 4),.w 4 5] [] [(1000000,0)] [] []]),(16646203,[.mk [] [.w 3 1,.h 0 25 (.hd 3)] [] [(1000000,1)] [] []])]],λ(e,f,_,g,_,_,_,_,_,_,_,_,_,_,_,a,_,_,_,_,_,_,_,b,_,_,_,_,d,_)=>iK N e f g a b d⟩
theorem pg:g6 40 (pu N):=og (g:=40) N (.c (zfe N)<|.nil) (.c (zfc N)<|.c (zeA N)<|.nil)
def nY:dk:=⟨.mk [.p (.pt 0 0 27),.v ci,.v ci,.v ci] [] [g7 1 2 3,.cells [xi,.hd 4],.cells [xl 0,.mr 5],.row 1,.row 5,.mp 7 true] [] [] [],[.mk [] [.h 0 21 (xi),.h 0 25 (.hd 3),.h 1 1 (.hd 4),.w 3 1,.w 4 5] [] [] [] [(65552,[.mk [.v ci] [.h 1 1 (.hd 4),.w 4 5,.h 0 21 (xi),.h 0 25 (.hd 3),.w 3 1] [] [(1000000,0)] [] []])]],λ(e,f,_,g,h,i,_,_,_,_,_,_,_,_,_,_,_,a,_,_,_,_,_,_,_,b,_,_,_,_,d,_)=>zcA N e f g h i a b d⟩
theorem od:g6 56 (nY N):=og (g:=56) N (.nil) (.c (pg N)<|.nil)
def pd:dk:=⟨.mk [.p (.pt 0 0 2),.v ci] [] [.cells [xi,.hd 1],.row 5] [] [] [],[.mk [.v (.st 5),.v cb] [] [] [] [] [(917518,[eP [.v ci,.v cb] 0])]],λ(a,b,_)=>zbp N a b⟩
theorem zc4:g6 108 (pd N):=og (g:=108) N (.c (lB N)<|.nil) (.c (zcX N)<|.nil)
def EJ:bB:=⟨[.c (.sl 6)],[ci],λa=>oQ N a.1⟩
theorem Fq:gA 193 (EJ N):=tg [] [(58,⟨[.r 3 ci,.r 8 ci],[],[],[]⟩)] [] N (.c (fF N)<|.nil) (.nil)
def pr:bB:=⟨[.c (.sl 1),ci],[ci],λa=>zd5 N a.1 a.2.1⟩
theorem pN:gA 243 (pr N):=tg [] [(26,⟨[.r 8 ci],[],[],[]⟩)] [] N (.nil) (.nil)
def lP:bB:=⟨[.c (.sl 1),ci],[cb],λa=>zb9 N a.1 a.2.1⟩
theorem lK:gA 194 (lP N):=tg [] [] [] N (.c (pN N)<|.nil) (.nil)
def ET:bB:=⟨[.st 10,.st 5,.c (.sl 6)],[cb],λa=>ze9 N a.1 a.2.1 a.2.2.1⟩
theorem mM:gA 123 (ET N):=tg [] [(6,⟨[.r 22 cb],[],[],[]⟩),(250,⟨[.r 47 ci],[],[],[]⟩)] [] N (.c (lK N)<|.c (zeI N)<|.c (Fq N)<|.nil) (.nil)
def ME:bB:=⟨[ci],[cb],λa=>eG N a.1⟩
theorem kc:gA 109 (ME N):=tg [] [] [] N (.nil) (.nil)
def IJ:bB:=⟨[ci,ci],[ci,cb],λa=>vT N a.1 a.2.1⟩
theorem Ka:gA 195 (IJ N):=tg [] [(53247,⟨[.r 48 cb],[],[],[]⟩),(212991,⟨[.r 55 cb],[],[],[]⟩)] [] N (.c (kc N)<|.c (xD N)<|.nil) (.nil)
def Nm:bB:=⟨[.st 5,ci,ci,cb],[.st 5,ci],λa=>uj N a.1 a.2.1 a.2.2.1 a.2.2.2.1⟩
theorem BU:gA 124 (Nm N):=tg [] [(6,⟨[.r 20 cb],[],[],[]⟩),(1023,⟨[.h 0 11 (.bool),.h 0 12 (.bool),.h 0 15 (.int .i64)],[],[],[]⟩),(2047,⟨[.h 0 16 (.int .i64)],[],[],[]⟩),(8186,⟨[.h 0 12 (.bool)],[],[],[]⟩)] [] N (.c (Ka N)<|.c (zbI N)<|.c (gG N)<|.c (zfe N)<|.c (o_ N)<|.nil) (.nil)
def zeO:dk:=⟨f9 [.v (.c (.sl 0))],[.mk [.p (.hd 0)] [] [.row 0] [] [] []],λx=>za5 N x⟩
theorem zcl:g6 160 (zeO N):=lU (i:=0) (sz:=32) (z:=[.c (.lit (.int .i64 0)),.c (.lit (.int .i64 0)),.c (.lit (.int .i64 0)),.c (.lit (.int .i64 0))]) (fn:=Tryz.f160) dC (by kernel_rfl) (by kernel_rfl) (by kernel_rfl) rfl
def jX:dk:=⟨.mk [.p (.pt 0 0 2),.ag [xi,xi,xi,xi,xi,.hd 1],.p (.k (.c (.fn (.func 172) [] [])))] [] [.cells [xl 0,.mr 2],.row 6,.mp 7 true] [] [] [],[.mk [.v (.c (.sl 0)),.v ci] [] [] [] [(58,⟨[.r 21 ci,.w 4 0],[(8,4)],[],[]⟩)] [(393233,[.mk [.p (.hd 4)] [] [.row 0] [(1000000,0)] [] []])]],λ(a,_,_,b,d,e,f,g)=>zeC N a b d e f g⟩
theorem jM:g6 171 (jX N):=og (g:=171) N (.c (lz N)<|.c (yq N)<|.nil) (.c (zcl N)<|.nil)
def zeJ:bB:=⟨[.c (.sl 6)],[.c (.sl 6)],λa=>zbw N a.1⟩
theorem zeQ:gA 203 (zeJ N):=ub (i:=6) (sz:=16) (z:=[.c (.lit (.int .i64 0)),.c (.lit (.int .i64 0))]) (fn:=Tryz.f203) dC (by kernel_rfl) (by kernel_rfl) (by kernel_rfl) rfl
def FR:bB:=⟨[.st 7],[.st 7],λa=>iW N a.1⟩
theorem xC:gA 140 (FR N):=tg [] [] [] N (.c (zeQ N)<|.nil) (.nil)
def zd2:dk:=⟨.mk [.p (.hd 0)] [] [.row 6] [] [] [],[.mk [.p (.hd 1)] [] [.row 6] [] [] []],λx=>zck N x⟩
theorem zeb:g6 203 (zd2 N):=Fc (ii:=6) (sz:=16) (z:=[.c (.lit (.int .i64 0)),.c (.lit (.int .i64 0))]) (fn:=Tryz.f203) dC (by kernel_rfl) (by kernel_rfl) (by kernel_rfl) rfl
def wO:dk:=⟨.mk [.ag [xi,xi,xi,xi,xi,.hd 0]] [] [.row 6] [] [] [],[.mk [.v (.st 7)] [] [] [] [] [(393221,[.mk [.p (.hd 3)] [] [.row 6] [(1000000,0)] [] []])]],λ(a,b,d,e,f,g)=>qv N a b d e f g⟩
theorem wC:g6 140 (wO N):=og (g:=140) N (.nil) (.c (zeb N)<|.nil)
def lR:dk:=⟨.mk [.p (.pt 0 0 2),.ag [xi,xi,xi,xi,xi,.hd 1]] [] [.cells [xl 0,.mr 2],.row 6,.mp 7 true] [] [] [],[.mk [.v ci] [.h 0 0 (xl 0),.m 2 7 true] [] [] [(14,⟨[.r 41 cb],[],[],[]⟩)] [(4063288,[eP [.v (.c (.sl 0)),.v ci] 0]),(33423433,[eP [.v (.st 7)] 1])]],λ(a,b,d,e,f,g,h,i)=>zfd N a b d e f g h i⟩
theorem lL:g6 101 (lR N):=og (g:=101) N (.c (zeI N)<|.c (Vz N)<|.nil) (.c (jM N)<|.c (wC N)<|.nil)
def pL:dk:=⟨.mk [.p (.pt 0 0 2),.v (.st 5)] [] [.cells [xi,.hd 1],.row 5] [] [] [],[.mk [.v ci] [.w 1 5,.h 0 1 (.hd 1)] [] [] [] [(1966096,[eP [.v ci,.v cb] 0])]],λ(a,b,_)=>zcJ N a b⟩
theorem po:g6 196 (pL N):=og (g:=196) N (.c (zfe N)<|.c (lB N)<|.nil) (.c (zcX N)<|.nil)
def lF:dk:=⟨.mk [.p (.pt 0 0 27),.v (.st 5),.v (.st 5)] [] [g7 1 2 3,.cells [xi,.hd 4],.cells [xl 0,.mr 5],.row 1,.row 5,.mp 7 true] [] [] [],[.mk [.v ci] [.h 1 1 (.hd 4),.w 4 5,.h 0 25 (.hd 3),.w 3 1] [] [] [(15,⟨[.w 3 1],[],[],[(0,25,3)]⟩)] [(786445,[.mk [.v ci] [.w 4 5,.h 1 1 (.hd 4)] [] [(1000000,0)] [] []]),(917524,[.mk [] [.w 3 1,.h 0 25 (.hd 3)] [] [(1000000,1)] [] []]),(7995421,[.mk [] [.w 3 1,.h 0 25 (.hd 3)] [] [(1000000,1)] [] []])]],λ(a,b,_,d,e,_,_,_,_,_,_,_,_,_,_,_,_,_,_,_,_,_,_,_,_,_,_,_,_,_,_)=>zbq N a b d e⟩
theorem zee:g6 126 (lF N):=og (g:=126) N (.nil) (.c (po N)<|.c (zeA N)<|.nil)
def np:dk:=⟨.mk [.p (.pt 0 0 27),.v ci,.p (.hd 1)] [] [g7 2 3 4,.row 6,.cells [xi,.hd 5],.cells [xl 0,.mr 6],.row 1,.row 5,.mp 7 true] [] [] [],[.mk [.v ci] [.h 3 0 (xl 0),.m 6 7 true,.h 0 25 (.hd 4),.h 0 26 (xi),.h 2 1 (.hd 5),.w 4 1,.w 5 5] [] [] [] [(917524,[eP [.v (.st 5),.v cb] 0]),(133955641,[.mk [.v ci] [.h 3 0 (xl 0),.m 6 7 true] [] [(1000000,1)] [] []]),(268304458,[.mk [.v ci] [.h 2 1 (.hd 5),.w 5 5,.h 0 25 (.hd 4),.w 4 1] [] [(1000000,2)] [] []])]],λ(r,s,t,u,v,w,x,y,z,A,a,b,d,e,f,g,h,i,j,k,l,m,n,o,_,_,_,_,p,_,q)=>fT N r s t u v w x y z A a b d e f g h i j k l m n o p q⟩
theorem mS:g6 57 (np N):=og (g:=57) N (.c (mM N)<|.c (BU N)<|.c (ni N)<|.nil) (.c (zc4 N)<|.c (lL N)<|.c (zee N)<|.nil)
def ze5:dk:=⟨.mk [.p (.hd 0)] [] [.row 5] [] [] [],[.mk [.p (.hd 1)] [] [.row 5] [] [] []],λx=>zbH N x⟩
theorem ze7:g6 136 (ze5 N):=Fc (ii:=5) (sz:=152) (z:=[.c (.lit (.int .i64 0)),.c (.lit (.int .i64 0)),.c (.lit (.int .i64 0)),.c (.lit (.int .i64 0)),.c (.lit (.int .i64 0)),.c (.lit (.int .i64 0)),.c (.lit (.int .i64 0)),.c (.lit (.int .i64 0)),.c (.lit (.int .i64 0)),.c (.lit (.slice none 0 0)),.c (.lit (.int .i64 0)),.c (.lit (.bool false)),.c (.lit (.bool false)),.c (.lit (.int .i64 0)),.c (.lit (.int .i64 0)),.c (.lit (.int .i64 0)),.c (.lit (.int .i64 0)),.c (.lit (.int .i64 0))]) (fn:=Tryz.f136) dC (by kernel_rfl) (by kernel_rfl) (by kernel_rfl) rfl
def px:dk:=⟨.mk [.p (.pt 0 0 2)] [] [.cells [xi,.hd 1],.row 5] [] [] [],[.mk [.v (.c (.sl 5))] [] [] [] [(122,⟨[.r 15 ci,.w 2 5],[(3,2),(13,2)],[],[]⟩)] [(917516,[.mk [.p (.hd 2)] [] [.row 5] [(1000000,0)] [] []])]],λ(a,_)=>zcP N a⟩
theorem pc:g6 68 (px N):=og (g:=68) N (.c (lB N)<|.nil) (.c (ze7 N)<|.nil)
def nB:dk:=⟨.mk [.p (.pt 0 0 2)] [] [.cells [xl 0,.mr 1],.mp 7 true] [] [] [],[.mk [.v (.c (.sl 7))] [] [] [(27,7)] [(122,⟨[.r 15 ci,.w 3 7],[(3,3)],[(3,7)],[]⟩)] [(3932172,[.mk [] [] [] [(1000002,0)] [] []]),(3932173,[eP [.v (.c (.sl 1))] 999999])]],λ(a,_)=>aY N a⟩
theorem mH:g6 69 (nB N):=og (g:=69) N (.c (xC N)<|.nil) (.nil)
def zdS:bB:=⟨[.c (.sl 8)],[.c (.sl 8)],λa=>zaP N a.1⟩
theorem zdV:gA 70 (zdS N):=ub (i:=8) (sz:=32) (z:=[.c (.lit (.int .i64 0)),.c (.lit (.int .i64 0)),.c (.lit (.int .i64 0)),.c (.lit (.int .i64 0))]) (fn:=Tryz.f70) dC (by kernel_rfl) (by kernel_rfl) (by kernel_rfl) rfl
def lA:dk:=⟨.mk [.p (.hd 0)] [] [.row 1] [] [] [],[.mk [.p (.hd 1)] [] [.row 1] [] [] []],λx=>zb7 N x⟩
theorem kX:g6 71 (lA N):=Fc (ii:=1) (sz:=8) (z:=[.c (.lit (.int .i64 0))]) (fn:=Tryz.f71) dC (by kernel_rfl) (by kernel_rfl) (by kernel_rfl) rfl
def mJ:dk:=⟨.mk [.p (.pt 0 0 27)] [] [g7 1 2 3,.cells [xi,.hd 4],.cells [xl 0,.mr 5],.row 1,.row 5,.mp 7 true] [] [] [],[.mk [.v (.st 20)] [] [] [] [] [(917526,[eP [.v (.c (.sl 5))] 0]),(917531,[eP [.v (.c (.sl 7))] 1]),(917547,[.mk [.p (.hd 7)] [] [.row 1] [(1000000,2)] [] []])]],λ(h,i,j,_,_,_,_,_,_,_,_,_,_,_,_,_,_,_,_,_,_,a,b,d,e,f,g,_,_)=>QX N h i j a b d e f g⟩
theorem zbe:g6 22 (mJ N):=og (g:=22) N (.c (zdV N)<|.c (zdb N)<|.nil) (.c (pc N)<|.c (mH N)<|.c (kX N)<|.nil)
def py:dk:=⟨.mk [.p (.pt 0 0 27),.v ci] [] [g7 1 2 3,.cells [xi,.hd 4],.cells [xl 0,.mr 5],.row 1,.row 5,.mp 7 true] [] [] [],[.mk [.v (.st 5),.v cb] [] [] [] [] [(917518,[eP [.v (.st 5),.v cb] 0])]],λ(_,a,_,b,_,_,_,_,_,_,_,_,_,_,_,_,_,_,_,_,_,_,_,_,_,_,_,_,_,_)=>zcQ N a b⟩
theorem oY:g6 45 (py N):=og (g:=45) N (.nil) (.c (zc4 N)<|.nil)
def Ir:bB:=⟨[.st 5],[ci],λa=>vM N a.1⟩
theorem Jk:gA 46 (Ir N):=tg [] [(6,⟨[.r 11 cb],[],[],[]⟩)] [] N (.c (zfe N)<|.c (kc N)<|.nil) (.nil)
def oh:dk:=⟨.mk [.p (.pt 0 0 27)] [] [g7 1 2 3,.cells [xi,.hd 4],.cells [xl 0,.mr 5],.row 1,.row 5,.mp 7 true] [] [] [],[f9 [.v (.st 10)]],λ(_,_,_,m,n,o,p,q,r,s,a,b,d,e,f,g,h,i,j,k,l,_,_,_,_,_,_,_,_)=>zaO N m n o p q r s a b d e f g h i j k l⟩
theorem zbW:g6 48 (oh N):=og (g:=48) N (.c (gV N)<|.nil) (.nil)
def Gf:bB:=⟨[.st 8,ci],[cb],λa=>rG N a.1 a.2.1⟩
theorem Gc:gA 178 (Gf N):=tg [] [] [] N (.nil) (.nil)
def Gx:bB:=⟨[.c (.sl 8),ci,ci,ci],[cb],λa=>fN N a.1 a.2.1 a.2.2.1 a.2.2.2.1⟩
theorem xI:gA 134 (Gx N):=tg [] [(26,⟨[.r 13 ci],[],[],[]⟩)] [] N (.nil) (.nil)
def Gg:bB:=⟨[.c (.sl 8),ci],[cb],λa=>mw N a.1 a.2.1⟩
theorem xu:gA 110 (Gg N):=tg [] [(58,⟨[.r 12 ci],[],[],[]⟩),(3737,⟨[.r 47 cb],[],[],[]⟩)] [] N (.c (Gc N)<|.c (xI N)<|.nil) (.nil)
def zx:bB:=⟨[.c (.sl 21),ci,ci],[cb],λa=>gY N a.1 a.2.1 a.2.2.1⟩
theorem zO:gA 111 (zx N):=tg [] [(26,⟨[.r 11 ci],[],[],[]⟩),(1689,⟨[.r 36 cb],[],[],[]⟩)] [] N (.c (zeI N)<|.c (Vz N)<|.nil) (.nil)
def Jd:bB:=⟨[ci,.st 0],[.c (.sl 15),ci],λa=>vN N a.1 a.2.1⟩
theorem Jg:gA 112 (Jd N):=tg [(10,15)] [] [] N (.c (gT N)<|.nil) (.nil)
def mY:dk:=⟨.mk [.p (.pt 0 0 3),.v ci,.v ci,.v (.c (.sl 6)),.v (.st 0)] [] [.cells [xi,.hd 1,.hd 2],.row 2,.row 16] [] [] [],[.mk [.v ci] [.h 0 2 (.hd 2),.w 2 16] [] [(20,16)] [(58,⟨[.r 23 ci,.w 4 16],[(11,4)],[],[]⟩),(122,⟨[.r 62 ci,.w 2 16],[],[],[(0,2,2)]⟩)] []],λ(_,a,b,d,e,f,_)=>zbc N a b d e f⟩
theorem mG:g6 113 (mY N):=og (g:=113) N (.c (lz N)<|.c (pA N)<|.nil) (.nil)
end Go.Abs
end
end
section
set_option maxRecDepth 100000
noncomputable section
namespace Go.Abs
open Go.Proofs
variable[Gl](N:Nat)
def zZ:dk:=⟨.mk [.v (.st 10),.v ci,.p (.hd 0),.v (.c (.sl 8))] [] [.row 21] [] [] [],[.mk [.p (.k (.c (.lit (.pointer none)))),.v ci] [] [] [(69,2),(96,16)] [(6,⟨[.r 51 cb],[],[],[]⟩),(122,⟨[.r 58 ci,.w 3 2],[],[(1050625,2)],[(2,1,3)]⟩),(250,⟨[.r 77 ci,.w 4 16],[],[(1050626,16)],[(2,2,4)]⟩),(506,⟨[.r 103 ci,.w 4 16],[],[],[(2,2,4)]⟩),(1018,⟨[.r 122 ci,.w 4 16],[],[],[(2,2,4)]⟩),(8147,⟨[.w 4 16],[],[],[(2,2,4)]⟩)] [(4247912563,[.mk [.v ci] [.h 2 2 (.hd 4),.w 4 16] [] [(1000000,0)] [] []])],.mk [.p (.pt 1 0 3),.p (.k (.c (.lit (.int .i64 0))))] [] [.cells [xi,xl 2,.hd 2],.row 16] [] [] []],λ(a,b,d,e)=>zeH N a b d e⟩
theorem Ao:g6 47 (zZ N):=og (g:=47) N (.c (zdb N)<|.c (Jg N)<|.c (pA N)<|.c (ZT N)<|.c (xu N)<|.c (zO N)<|.nil) (.c (mG N)<|.nil)
def rJ:dk:=⟨.mk [.p (.pt 0 0 27)] [] [g7 1 2 3,.cells [xi,.hd 4],.cells [xl 0,.mr 5],.row 1,.row 5,.mp 7 true] [] [] [],[.mk [.p (.k (.c (.lit (.pointer none)))),.v ci] [] [] [(17,21),(40,21)] [(250,⟨[.r 21 ci,.w 7 21],[(5,7)],[],[]⟩)] [(917517,[eP [.v (.st 20)] 0]),(8257580,[eP [.v (.st 10)] 2]),(8257586,[eP [.p (.k (.c (.lit (.pointer none)))),.v ci] 3,.mk [.p (.pt 8 0 3),.p (.k (.c (.lit (.int .i64 0))))] [] [.cells [xi,xl 2,.hd 9],.row 16] [] [] []]),(2100428829,[eP [.v (.st 5),.v cb] 1])],.mk [.p (.pt 6 0 3),.p (.k (.c (.lit (.int .i64 0))))] [] [.cells [xi,xl 2,.hd 7],.row 16] [] [] []],λ(s,t,u,v,w,x,y,z,A,E,a,b,d,e,f,g,h,i,j,k,l,m,n,o,p,q,r,_,_)=>zdp N s t u v w x y z A E a b d e f g h i j k l m n o p q r⟩
theorem qI:g6 12 (rJ N):=og (g:=12) N (.c (Jk N)<|.nil) (.c (zbe N)<|.c (oY N)<|.c (zbW N)<|.c (Ao N)<|.nil)
def qR:dk:=⟨.mk [.p (.pt 0 0 27)] [] [g7 1 2 3,.cells [xi,.hd 4],.cells [xl 0,.mr 5],.row 1,.row 5,.mp 7 true] [] [] [],[.mk [.ag [.k (.c (.lit (.pointer none))),.pt 0 0 27],.v ci] [] [] [] [] [(393224,[eP [.p (.k (.c (.lit (.pointer none)))),.v ci] 0,.mk [.p (.pt 7 0 3),.p (.k (.c (.lit (.int .i64 0))))] [] [.cells [xi,xl 2,.hd 8],.row 16] [] [] []])],.mk [.ag [.pt 6 0 3,.pt 0 0 27],.p (.k (.c (.lit (.int .i64 0))))] [] [.cells [xi,xl 2,.hd 7],.row 16] [] [] []],λ(s,t,u,v,w,x,y,z,A,E,a,b,d,e,f,g,h,i,j,k,l,m,n,o,p,q,r,_,_)=>zfb N s t u v w x y z A E a b d e f g h i j k l m n o p q r⟩
theorem rK:g6 58 (qR N):=og (g:=58) N (.nil) (.c (qI N)<|.nil)
def JM:bB:=⟨[ci,.c (.sl 5)],[.st 5,cb],λa=>vJ N a.1 a.2.1⟩
theorem JY:gA 207 (JM N):=tg [] [(26,⟨[.r 9 ci],[],[],[]⟩)] [] N (.nil) (.nil)
def Nx:bB:=⟨[.st 4,.st 5],[cb],λa=>EP N a.1 a.2.1⟩
theorem Mf:gA 208 (Nx N):=tg [] [] [] N (.c (gG N)<|.nil) (.nil)
def KT:bB:=⟨[.st 5,.c (.sl 5)],[cb],λa=>nQ N a.1 a.2.1⟩
theorem Nu:gA 152 (KT N):=tg [] [(26,⟨[.r 12 ci],[],[],[]⟩),(3379,⟨[.r 30 cb],[],[],[]⟩)] [] N (.c (JY N)<|.c (Mf N)<|.nil) (.nil)
def Bo:bB:=⟨[.c (.sl 5)],[.c (.sl 5)],λa=>fA N a.1⟩
theorem qk:XM Tryz.prog 151 (Bo N):=able_ok (i:=5) (gm:=152) (so:=10) (ti:=3) (tb:=4) (z:=[.c (.lit (.int .i64 0)),.c (.lit (.int .i64 0)),.c (.lit (.int .i64 0)),.c (.lit (.int .i64 0)),.c (.lit (.int .i64 0)),.c (.lit (.int .i64 0)),.c (.lit (.int .i64 0)),.c (.lit (.int .i64 0)),.c (.lit (.int .i64 0)),.c (.lit (.slice none 0 0)),.c (.lit (.int .i64 0)),.c (.lit (.bool false)),.c (.lit (.bool false)),.c (.lit (.int .i64 0)),.c (.lit (.int .i64 0)),.c (.lit (.int .i64 0)),.c (.lit (.int .i64 0)),.c (.lit (.int .i64 0))]) (fn:=Tryz.f151) (st:=λ(a:aK)=>a.State) (met:=λ(a:aK) (l:List aK)=>nQ N a l) dC (by kernel_rfl) (by kernel_rfl) (Nu N) rfl (λa=>by kernel_rfl) (λx y=>by kernel_rfl) (λx=>by kernel_rfl) (λx=>by kernel_rfl) (λx=>by kernel_rfl)
def CH:bB:=⟨[ci],[ci],λa=>im N a.1⟩
theorem Cw:gA 277 (CH N):=tg [] [] [] N (.c (fF N)<|.nil) (.nil)
def Lh:bB:=⟨[ci,ci],[ci],λa=>zi N a.1 a.2.1⟩
theorem LZ:gA 278 (Lh N):=tg [] [] [] N (.nil) (.nil)
def FK:bB:=⟨[.st 10,.st 5,ci,.c (.sl 1)],[.st 11],λa=>yk N a.1 a.2.1 a.2.2.1 a.2.2.2.1⟩
theorem Gi:gA 256 (FK N):=tg [] [(15,⟨[.r 9 ci],[],[],[]⟩),(31,⟨[.r 10 ci],[],[],[]⟩)] [] N (.c (ZT N)<|.c (LZ N)<|.c (fF N)<|.c (Cw N)<|.nil) (.nil)
def Pv:bB:=⟨[.st 10,.st 5,ci,.c (.sl 1)],[ci],λa=>Dc N a.1 a.2.1 a.2.2.1 a.2.2.2.1⟩
theorem Oz:gA 209 (Pv N):=tg [] [] [] N (.c (Gi N)<|.nil) (.nil)
def MC:bB:=⟨[.st 10,.st 5,.st 22],[.st 23],λa=>qu N a.1 a.2.1 a.2.2.1⟩
theorem LK:gA 153 (MC N):=tg [] [] [] N (.c (Oz N)<|.nil) (.nil)
def Br:bB:=⟨[ci],[cb],λa=>cmp_isNaN_int N a.1⟩
theorem AH:gA 281 (Br N):=tg [] [] [] N (.nil) (.nil)
def yf:bB:=⟨[ci,ci],[ci],λa=>fG N a.1 a.2.1⟩
theorem xU:gA 258 (yf N):=tg [] [] [] N (.c (AH N)<|.nil) (.nil)
def nC:bB:=⟨[.c (.sl 1),.c (.sl 1)],[ci],λa=>ZU N a.1 a.2.1⟩
theorem zez:gA 212 (nC N):=tg [] [(26,⟨[.r 11 ci],[],[],[]⟩)] [] N (.c (xU N)<|.nil) (.nil)
def ze6:dk:=⟨.mk [.p (.hd 0),.v ci,.v ci,.v ci,.p (.fb 211 1 1)] [] [.row 1,.cells [xl 23]] [] [] [],[.mk [] [.w 0 1] [] [] [(63,⟨[.r 20 ci,.r 21 ci],[],[],[]⟩),(172,⟨[.r 10 ci,.r 11 ci],[],[],[]⟩),(428,⟨[.r 14 ci,.r 15 ci],[],[],[]⟩),(698,⟨[.r 13 ci,.w 0 1],[(0,0)],[],[]⟩),(1020,⟨[.r 20 ci,.r 21 ci],[],[],[]⟩),(1023,⟨[.w 0 1],[(0,0)],[],[]⟩),(1722,⟨[.r 17 ci,.w 0 1],[(0,0)],[],[]⟩),(2047,⟨[.w 0 1],[(0,0)],[],[]⟩),(8186,⟨[],[(0,0)],[],[]⟩),(16378,⟨[],[(0,0)],[],[]⟩)] [(361365553,[.mk [.v ci] [] [] [(9,1),(13,1)] [] []]),(536477887,[.mk [] [.w 0 1] [] [] [(28,⟨[.r 10 ci,.r 11 ci,.w 0 1],[(0,0)],[],[]⟩),(1812,⟨[],[(0,0)],[],[]⟩),(1814,⟨[],[(0,0)],[],[]⟩)] [(983097,[.mk [] [.w 0 1] [] [] [(6,⟨[.r 10 ci,.w 0 1],[(0,0)],[],[]⟩)] []]),(118751263,[.mk [] [.w 0 1] [] [] [(6,⟨[.r 10 ci,.w 0 1],[(0,0)],[],[]⟩)] []]),(118882350,[.mk [] [.w 0 1] [] [] [(6,⟨[.r 10 ci,.w 0 1],[(0,0)],[],[]⟩)] []])]]),(898236517,[.mk [.v ci] [] [] [(9,1),(13,1)] [] []]),(1073348813,[.mk [] [.w 0 1] [] [(1000000,0)] [] []]),(1073610971,[.mk [] [.w 0 1] [] [(1000000,0)] [] []]),(2139750569,[.mk [.v ci] [] [] [(9,1),(13,1)] [] []])]],λ(a,b,d,e,f)=>za8 N a b d e f⟩
theorem zcu:∀N:Nat,g6 280 (ze6 N)
 |0=>⟨by kernel_rfl,λx y a b d z e f h=>by cases h⟩
 |N+1=>og (g:=280) N (.c (zez N)<|.nil) (.c (zcu N)<|.nil)
def wL:bB:=⟨[.c (.sl 23)],[.c (.sl 1)],λa=>zeT N a.1⟩
theorem wU:gA 154 (wL N):=tg [(7,1)] [(30,⟨[],[(3,0)],[],[]⟩),(58,⟨[.r 10 ci,.w 1 1],[(3,1)],[],[]⟩)] [(1966100,[.mk [] [.w 1 1] [] [] [] [(65544,[.mk [] [.w 1 1] [] [] [(28,⟨[.r 7 ci,.r 8 ci,.w 1 1],[(0,1)],[],[]⟩),(30,⟨[],[(0,0)],[],[]⟩),(62,⟨[.r 6 ci,.w 1 1],[(0,1)],[],[]⟩),(452,⟨[],[(0,0)],[],[]⟩),(1995,⟨[.w 1 1],[(0,1)],[],[]⟩),(3988,⟨[.r 7 ci,.r 8 ci,.w 1 1],[(0,1)],[],[]⟩),(31926,⟨[],[(0,0)],[],[]⟩),(63812,⟨[],[(0,0)],[],[]⟩)] [(1966107,[.mk [] [.w 1 1] [] [] [(6,⟨[.r 8 ci,.w 1 1],[(0,1)],[],[]⟩),(402,⟨[.r 9 ci,.w 1 1],[(0,1)],[],[]⟩),(1608,⟨[.r 34 cb],[],[],[]⟩)] [(210763808,[.mk [.v ci] [] [] [(9,1),(13,1)] [] []])]]),(29622290,[.mk [] [.w 1 1] [] [] [(6,⟨[.r 8 ci,.w 1 1],[(0,1)],[],[]⟩),(402,⟨[.r 9 ci,.w 1 1],[(0,1)],[],[]⟩),(1608,⟨[.r 34 cb],[],[],[]⟩)] [(210763808,[.mk [.v ci] [] [] [(9,1),(13,1)] [] []])]]),(2092302396,[.mk [] [.w 1 1] [] [(1000000,0)] [] []]),(4181983275,[.mk [] [.w 1 1] [] [(1000000,0)] [] []])]])]])] N (.c (zez N)<|.nil) (.c (zcu N)<|.nil)
def wR:dk:=⟨.mk [.v (.st 10),.p (.hd 0),.v (.st 22)] [] [.row 5] [] [] [],[.mk [.v (.c (.sl 5))] [] [] [(19,23),(37,5),(55,5)] [(122,⟨[.r 22 ci,.w 3 23],[(7,3)],[],[]⟩),(252,⟨[],[],[(7,23)],[]⟩),(506,⟨[.r 41 ci,.w 4 5],[(10,4)],[],[]⟩)] []],λ(a,b,d)=>zeR N a b d⟩
theorem wG:g6 84 (wR N):=og (g:=84) N (.c (ZT N)<|.c (LK N)<|.c (wU N)<|.c (zbI N)<|.nil) (.nil)
def uR:dk:=⟨.mk [.p (.pt 0 0 27)] [] [g7 1 2 3,.cells [xi,.hd 4],.cells [xl 0,.mr 5],.row 1,.row 5,.mp 7 true] [] [] [],[.mk [.v (.c (.sl 5))] [] [] [(16,5)] [(250,⟨[.w 9 5],[],[(1055744,5)],[(7,0,9)]⟩)] [(917513,[eP [.v (.st 20)] 0]),(8126476,[.mk [] [] [] [(1000002,0)] [] []]),(8257555,[eP [.v (.st 10)] 1]),(8257562,[eP [.v (.c (.sl 5))] 2])]],λ(s,t,u,v,w,x,y,z,A,E,a,b,d,e,f,g,h,i,j,k,l,m,n,o,p,q,r,_,_)=>zcn N s t u v w x y z A E a b d e f g h i j k l m n o p q r⟩
theorem uh:g6 28 (uR N):=og (g:=28) N (.it (qk N)<|.nil) (.c (zbe N)<|.c (zbW N)<|.c (wG N)<|.nil)
def ER:bB:=⟨[.st 10,ci],[cb],λa=>oV N a.1 a.2.1⟩
theorem DJ:gA 156 (ER N):=tg [] [] [] N (.c (ZT N)<|.nil) (.nil)
def Cx:bB:=⟨[.c (.sl 5),ci],[ci],λa=>kY N a.1 a.2.1⟩
theorem CA:gA 157 (Cx N):=tg [] [] [(393223,[.mk [.v ci] [] [] [] [(58,⟨[.r 5 ci,.r 10 ci],[],[],[]⟩),(467,⟨[.r 5 ci],[],[],[]⟩)] [(489816080,[f9 [.v cb]])]])] N (.c (kc N)<|.nil) (.nil)
def KN:bB:=⟨[.c (.sl 5),ci,ci],[ci],λa=>Ap N a.1 a.2.1 a.2.2.1⟩
theorem NQ:gA 158 (KN N):=tg [] [] [(393225,[.mk [.v ci] [] [] [] [(58,⟨[.r 5 ci,.r 10 ci],[],[],[]⟩),(467,⟨[.r 5 ci],[],[],[]⟩)] [(489816080,[f9 [.v cb]])]])] N (.c (kc N)<|.nil) (.nil)
def IZ:bB:=⟨[.st 10,.c (.sl 5),.st 5],[cb],λa=>eS N a.1 a.2.1 a.2.2.1⟩
theorem Ik:gA 85 (IZ N):=tg [] [] [] N (.c (DJ N)<|.c (CA N)<|.c (NQ N)<|.nil) (.nil)
def yQ:dk:=⟨.mk [.p (.pt 0 0 27),.v ci] [] [g7 1 2 3,.cells [xi,.hd 4],.cells [xl 0,.mr 5],.row 1,.row 5,.mp 7 true] [] [] [],[.mk [.v cb] [] [] [] [(122,⟨[],[],[],[]⟩)] [(917514,[eP [.v (.st 20)] 0]),(3932173,[.mk [] [] [] [(1000002,0)] [] []]),(257163284,[eP [.v (.st 10)] 1])]],λ(t,u,v,w,x,y,z,A,E,F,a,b,d,e,f,g,h,i,j,k,l,m,n,o,p,q,r,s,_,_)=>zd4 N t u v w x y z A E F a b d e f g h i j k l m n o p q r s⟩
theorem yp:g6 29 (yQ N):=og (g:=29) N (.it (qk N)<|.c (Ik N)<|.nil) (.c (zbe N)<|.c (zbW N)<|.nil)
def pO:dk:=⟨.mk [.p (.pt 0 0 27),.p (.k (.c (.lit (.pointer none)))),.v (.st 5)] [] [g7 1 2 3,.cells [xi,.hd 4],.cells [xl 0,.mr 5],.row 1,.row 5,.mp 7 true] [] [] [],[f9 [.v (.st 14),.v cb]],λx=>zeF N⟩
theorem pI:g6 13 (pO N):=og (g:=13) N (.nil) (.nil)
def jd:dk:=⟨.mk [.ag [.k (.c (.lit (.pointer none))),.pt 0 0 27],.v (.st 5)] [] [g7 1 2 3,.cells [xi,.hd 4],.cells [xl 0,.mr 5],.row 1,.row 5,.mp 7 true] [] [] [],[.mk [.v (.st 18),.v cb] [] [] [] [] [(393231,[eP [.v (.st 14),.v cb] 0]),(4063271,[eP [.v ci] 1])]],λ(_,_,_,a,_,_,_,_,_,_,_,_,_,_,_,_,_,_,_,_,_,_,_,_,_,_,_,_,_,_)=>zbM N a⟩
theorem iY:g6 59 (jd N):=og (g:=59) N (.nil) (.c (pI N)<|.c (zeD N)<|.nil)
def km:dk:=⟨.mk [.p (.pt 0 0 2),.v (.st 7),.p (.k (.c (.fn (.func 172) [] [])))] [] [.cells [xl 0,.mr 1],.mp 7 true] [] [] [],[.mk [.v (.c (.sl 0)),.v ci] [] [] [] [(58,⟨[.r 21 ci,.w 3 0],[(8,3)],[],[]⟩)] [(393233,[.mk [.p (.hd 3)] [] [.row 0] [(1000000,0)] [] []])]],λ(_,a,b)=>zbL N a b⟩
theorem jP:g6 171 (km N):=og (g:=171) N (.c (lz N)<|.c (yq N)<|.nil) (.c (zcl N)<|.nil)
def lr:dk:=⟨.mk [.p (.pt 0 0 2),.v (.st 7)] [] [.cells [xl 0,.mr 1],.mp 7 true] [] [] [],[.mk [.v ci] [.h 0 0 (xl 0),.m 1 7 true] [] [] [(14,⟨[.r 41 cb],[],[],[]⟩)] [(4063288,[eP [.v (.c (.sl 0)),.v ci] 0])]],λ(a,b,d)=>zaS N a b d⟩
theorem zcy:g6 101 (lr N):=og (g:=101) N (.c (xC N)<|.c (zeI N)<|.c (Vz N)<|.nil) (.c (jP N)<|.nil)
def mn:dk:=⟨.mk [.p (.pt 0 0 27),.v ci,.v (.c (.sl 6))] [] [g7 1 2 3,.cells [xi,.hd 4],.cells [xl 0,.mr 5],.row 1,.row 5,.mp 7 true] [] [] [],[.mk [.v ci] [.h 2 0 (xl 0),.m 5 7 true,.h 0 25 (.hd 3),.h 0 26 (xi),.h 1 1 (.hd 4),.w 3 1,.w 4 5] [] [] [] [(917524,[eP [.v (.st 5),.v cb] 0]),(133955641,[.mk [.v ci] [.h 2 0 (xl 0),.m 5 7 true] [] [(1000000,1)] [] []]),(268304458,[.mk [.v ci] [.h 1 1 (.hd 4),.w 4 5,.h 0 25 (.hd 3),.w 3 1] [] [(1000000,2)] [] []])]],λ(r,s,t,u,v,w,x,y,z,A,a,b,d,e,f,g,h,i,j,k,l,m,n,o,_,_,_,_,p,_,q)=>zby N r s t u v w x y z A a b d e f g h i j k l m n o p q⟩
theorem nO:g6 57 (mn N):=og (g:=57) N (.c (mM N)<|.c (BU N)<|.c (ni N)<|.nil) (.c (zc4 N)<|.c (zcy N)<|.c (zee N)<|.nil)
def mq:dk:=⟨.mk [.p (.hd 0)] [] [.row 1] [] [] [],[.mk [] [.w 0 1] [] [] [] []],λx=>zce N x⟩
theorem mF:g6 182 (mq N):=sort_oo (ii:=1) Tryz.sortsI (d:=λk=>k) (c:=λk=>k) (λa=>rfl) (λk=>rfl) (by kernel_rfl)
def jZ:dk:=⟨.mk [.p (.hd 0)] [] [.row 1] [] [] [],[.mk [.p (.hd 1)] [.w 0 1] [.row 1] [] [] []],λx=>zbJ N x⟩
theorem jK:g6 183 (jZ N):=QE (ii:=1) Tryz.TU (d:=λk=>k) (c:=λk=>k) (λa=>rfl) (λk=>rfl) (by kernel_rfl)
def Iy:bB:=⟨[.st 0,.st 0],[.st 0],λa=>AO N a.1 a.2.1⟩
theorem JK:gA 236 (Iy N):=tg [] [] [] N (.nil) (.nil)
def Ev:bB:=⟨[.c (.sl 15),ci,ci],[.st 0],λa=>oH N a.1 a.2.1 a.2.2.1⟩
theorem Fp:gA 184 (Ev N):=tg [] [(6,⟨[.r 26 cb],[],[],[]⟩),(31,⟨[.h 1 0 (.int .i64),.h 1 1 (.int .i64),.h 1 2 (.int .i64),.h 1 3 (.int .i64)],[],[],[]⟩),(250,⟨[.r 41 ci,.h 1 0 (.int .i64),.h 1 1 (.int .i64),.h 1 2 (.int .i64),.h 1 3 (.int .i64)],[],[],[]⟩)] [] N (.c (zcS N)<|.c (JK N)<|.c (gT N)<|.nil) (.nil)
def JU:bB:=⟨[.st 0,.st 0],[ci],λa=>l_ N a.1 a.2.1⟩
theorem Aq:gA 254 (JU N):=tg [] [(6,⟨[.r 21 cb],[],[],[]⟩),(250,⟨[.r 5 ci,.r 26 ci],[],[],[]⟩),(2003,⟨[.r 5 ci],[],[],[]⟩)] [] N (.c (uz N)<|.c (Vz N)<|.nil) (.nil)
def Jn:bB:=⟨[.c (.sl 0),ci,.st 0],[ci],λa=>pY N a.1 a.2.1 a.2.2.1⟩
theorem zS:gA 238 (Jn N):=tg [] [] [] N (.c (Aq N)<|.nil) (.nil)
def FU:bB:=⟨[.c (.sl 0),.c (.sl 1),.st 0],[ci],λa=>rB N a.1 a.2.1 a.2.2.1⟩
theorem Gu:gA 237 (FU N):=tg [] [(58,⟨[.r 7 ci,.r 12 ci],[],[],[]⟩)] [] N (.c (zS N)<|.nil) (.nil)
def vj:dk:=⟨.mk [.p (.hd 0),.v (.c (.sl 1)),.v ci,.v (.st 0)] [] [.row 0] [] [] [],[.mk [.v (.c (.sl 6)),.v cb] [] [] [(48,6)] [(12,⟨[.r 24 cb],[],[],[]⟩),(111,⟨[.w 2 6],[(10,2)],[(10,6)],[]⟩),(890,⟨[.r 11 ci,.r 28 ci,.w 2 6],[(10,2)],[],[]⟩),(7123,⟨[.r 11 ci,.w 2 6],[(10,2)],[],[]⟩)] []],λ(a,b,d,e)=>zep N a b d e⟩
theorem vd:g6 185 (vj N):=og (g:=185) N (.c (zS N)<|.c (Gu N)<|.nil) (.nil)
def lI:dk:=⟨.mk [.p (.pt 0 0 3),.v ci] [] [.cells [xi,xl 2,.hd 1],.row 16] [] [] [],[.mk [.v (.c (.sl 1))] [] [] [(52,1)] [(62,⟨[],[(5,0)],[],[]⟩),(122,⟨[.r 33 ci,.w 2 1],[(5,2)],[(5,1)],[]⟩),(31334,⟨[.r 45 ci,.w 2 1],[(5,2)],[],[]⟩)] [(4063289,[.mk [] [.w 2 1] [] [(1000000,0)] [] []]),(8257595,[.mk [.p (.hd 3)] [.w 2 1] [.row 1] [(1000000,1)] [] []])]],λ(a,b,_,d)=>zb4 N a b d⟩
theorem lE:g6 115 (lI N):=og (g:=115) N (.nil) (.c (mF N)<|.c (jK N)<|.nil)
def mX:dk:=⟨.mk [.p (.pt 0 0 3),.v ci,.v ci,.v (.st 0),.v ci,.v ci] [] [.cells [xi,xl 2,.hd 1],.row 16] [] [] [],[.mk [.v (.c (.sl 6)),.v cb] [] [] [(57,0)] [(122,⟨[.r 66 ci,.w 3 0],[(14,3)],[],[]⟩)] [(4063328,[eP [.v (.c (.sl 6)),.v cb] 0])]],λ(a,b,d,e,f,g,h,i)=>zaL N a b d e f g h i⟩
theorem nA:g6 116 (mX N):=og (g:=116) N (.c (Fp N)<|.nil) (.c (vd N)<|.nil)
end Go.Abs
end
end
section
set_option maxRecDepth 100000
noncomputable section
namespace Go.Abs
open Go.Proofs
variable[Gl](N:Nat)
def iX:dk:=⟨.mk [.p (.pt 0 0 3),.v ci,.v ci,.v (.st 0),.v ci] [] [.cells [xi,xl 2,.hd 1],.row 16] [] [] [],[.mk [.v (.st 14),.v cb] [] [] [] [(3,⟨[.r 12 (.c (.sl 1)),.r 13 ci],[],[],[]⟩)] [(786450,[eP [.v (.c (.sl 1))] 0]),(8126498,[eP [.v (.c (.sl 6)),.v cb] 1]),(29098018,[eP [.v (.c (.sl 6)),.v cb] 1])]],λ(a,b,d,e,f,g,h)=>zaR N a b d e f g h⟩
theorem iZ:g6 49 (iX N):=og (g:=49) N (.nil) (.c (lE N)<|.c (nA N)<|.nil)
def pS:dk:=⟨.mk [.p (.pt 0 0 27),.p (.pt 1 0 3),.v (.st 5)] [] [g7 2 3 4,.cells [xi,xl 2,.hd 5],.cells [xi,.hd 6],.cells [xl 0,.mr 7],.row 1,.row 16,.row 5,.mp 7 true] [] [] [],[.mk [.v (.st 14),.v cb] [] [] [] [] [(917523,[eP [.v (.st 10)] 0]),(4063279,[eP [.v (.st 14),.v cb] 1])]],λ(_,q,_,_,r,s,t,u,v,w,a,b,d,e,f,g,h,i,j,k,l,m,n,_,_,_,_,_,_,o,p,_,_)=>zc1 N q r s t u v w a b d e f g h i j k l m n o p⟩
theorem qo:g6 13 (pS N):=og (g:=13) N (.nil) (.c (zbW N)<|.c (iZ N)<|.nil)
def lw:dk:=⟨.mk [.p (.pt 0 0 3),.v ci,.v ci,.v (.c (.sl 6)),.v (.st 0)] [] [.cells [xi,xl 2,.hd 1],.row 16] [] [] [],[.mk [.v ci] [.h 0 2 (.hd 1),.w 1 16] [] [(20,16)] [(58,⟨[.r 23 ci,.w 3 16],[(11,3)],[],[]⟩),(122,⟨[.r 62 ci,.w 1 16],[],[],[(0,2,1)]⟩)] []],λ(a,b,d,e,f,_,_)=>zbc N a b d e f⟩
theorem lH:g6 113 (lw N):=og (g:=113) N (.c (lz N)<|.c (pA N)<|.nil) (.nil)
def nl:dk:=⟨.mk [.p (.pt 0 0 3),.v ci,.v (.c (.sl 6)),.v (.st 0),.v ci] [] [.cells [xi,xl 2,.hd 1],.row 16] [] [] [],[.mk [.v ci] [.h 0 2 (.hd 1),.w 1 16] [] [] [(14,⟨[.r 45 cb],[],[],[]⟩)] [(1966133,[.mk [.v ci] [.h 0 2 (.hd 1),.w 1 16] [] [(1000000,0)] [] []])]],λ(a,b,d,e,f,g,_)=>zcj N a b d e f g⟩
theorem mI:g6 127 (nl N):=og (g:=127) N (.c (zeI N)<|.c (Vz N)<|.nil) (.c (lH N)<|.nil)
def j_:dk:=⟨.mk [.ag [.pt 0 0 3,.pt 1 0 27],.v (.st 5)] [] [.cells [xi,xl 2,.hd 2],g7 3 4 5,.row 16,.cells [xi,.hd 6],.cells [xl 0,.mr 7],.row 1,.row 5,.mp 7 true] [] [] [],[.mk [.v (.st 18),.v cb] [.h 0 2 (.hd 2),.w 2 16] [] [] [] [(393231,[eP [.v (.st 14),.v cb] 0]),(4063271,[.mk [.v ci] [.h 0 2 (.hd 2),.w 2 16] [] [(1000000,1)] [] []])]],λ(q,_,_,_,r,s,t,u,v,w,a,b,d,e,f,g,h,i,j,k,l,m,n,o,p,_,_,_,_,_,_,_,_)=>zbd N q r s t u v w a b d e f g h i j k l m n o p⟩
theorem jL:g6 59 (j_ N):=og (g:=59) N (.nil) (.c (qo N)<|.c (mI N)<|.nil)
def oq:dk:=⟨.mk [.p (.pt 0 0 3)] [] [.cells [xi,xl 2,.hd 1],.row 16] [] [] [],[f9 [.v ci]],λ(_,a,_)=>zdG N a⟩
theorem n_:g6 60 (oq N):=og (g:=60) N (.nil) (.nil)
def tt:dk:=⟨.mk [.p (.pt 0 0 27)] [] [g7 1 2 3,.cells [xi,.hd 4],.cells [xl 0,.mr 5],.row 1,.row 5,.mp 7 true] [] [] [],[.mk [.v (.st 19),.v ci] [.h 0 25 (.hd 3),.h 0 26 (xi),.h 1 1 (.hd 4),.h 2 0 (xl 0),.w 3 1,.w 4 5,.m 5 7 true] [] [(53,14),(70,14)] [(250,⟨[.r 23 ci,.h 0 26 (.int .i64),.h 2 0 (.sl 0),.w 3 1,.w 4 5,.m 5 7 true,.w 9 14,.w 10 14],[],[(1056769,14),(1056768,14)],[(0,25,3),(1,1,4),(8,0,10),(8,1,9)]⟩),(2003,⟨[.h 0 26 (.int .i64),.h 2 0 (.sl 0),.w 3 1,.w 4 5,.m 5 7 true,.w 9 14,.w 10 14],[],[],[(0,25,3),(1,1,4),(8,0,10),(8,1,9)]⟩),(13194139533562,⟨[.r 23 ci,.h 0 26 (.int .i64),.h 2 0 (.sl 0),.w 3 1,.w 4 5,.m 5 7 true,.w 8 16,.w 11 14,.w 12 14],[],[(1058817,14),(1058816,14)],[(0,25,3),(1,1,4),(7,2,8),(10,0,12),(10,1,11)]⟩),(15393162790867,⟨[.h 0 26 (.int .i64),.h 2 0 (.sl 0),.w 3 1,.w 4 5,.m 5 7 true,.w 8 16,.w 11 14,.w 12 14],[],[],[(0,25,3),(1,1,4),(7,2,8),(10,0,12),(10,1,11)]⟩)] [(393229,[eP [.ag [.k (.c (.lit (.pointer none))),.pt 0 0 27],.v ci] 0,.mk [.ag [.pt 7 0 3,.pt 0 0 27],.p (.k (.c (.lit (.int .i64 0))))] [] [.cells [xi,xl 2,.hd 8],.row 16] [] [] []]),(8126485,[eP [.v (.c (.sl 5))] 1]),(4200857630,[eP [.v cb] 2]),(4200988707,[eP [.v (.st 18),.v cb] 3]),(67217260591,[eP [.v ci] 4]),(268869435456,[.mk [.v ci] [.h 2 0 (xl 0),.m 5 7 true,.h 0 25 (.hd 3),.h 0 26 (xi),.h 1 1 (.hd 4),.w 3 1,.w 4 5] [] [(1000000,5)] [] []]),(16496875405347,[.mk [.v (.st 18),.v cb] [.h 7 2 (.hd 8),.w 8 16] [] [(1000000,6)] [] []]),(17659403305007,[eP [.v ci] 7])]],λ(t,u,v,w,x,y,z,A,E,F,a,b,d,e,f,g,h,i,j,k,l,m,n,o,p,q,r,_,s)=>zbz N t u v w x y z A E F a b d e f g h i j k l m n o p q r s⟩
theorem iJ:g6 20 (tt N):=og (g:=20) N (.nil) (.c (rK N)<|.c (uh N)<|.c (yp N)<|.c (iY N)<|.c (zeG N)<|.c (nO N)<|.c (jL N)<|.c (n_ N)<|.nil)
def tp:bB:=⟨[],[cb],λa=>fR N⟩
theorem sI:gA 19 (tp N):=tg [(14,6)] [] [(393223,[eP [.p (.k (.c (.lit (.pointer none)))),.p (.k (.c (.lit (.int .i64 2))))] 0,.mk [.p (.pt 0 0 27),.p (.k (.c (.lit (.int .i64 0))))] [] [g7 1 2 3,.cells [xi,.hd 4],.cells [xl 0,.mr 5],.row 1,.row 5,.mp 7 true] [] [] []]),(917515,[eP [] 1]),(1966095,[eP [.v ci] 2]),(4063249,[eP [] 1]),(8257555,[eP [] 1]),(16646166,[eP [.v (.st 19),.v ci] 3]),(7696582311947,[.mk [] [.h 0 21 (xi),.h 0 25 (.hd 3),.h 1 1 (.hd 4),.w 3 1,.w 4 5] [] [(1000000,4)] [] []]),(8796094988303,[.mk [.v ci] [.h 2 0 (xl 0),.m 5 7 true,.h 0 25 (.hd 3),.h 0 26 (xi),.h 1 1 (.hd 4),.w 3 1,.w 4 5] [] [(1000000,5)] [] []]),(8796097085457,[.mk [] [.h 0 21 (xi),.h 0 25 (.hd 3),.h 1 1 (.hd 4),.w 3 1,.w 4 5] [] [(1000000,4)] [] []]),(8796101279763,[.mk [] [.h 0 21 (xi),.h 0 25 (.hd 3),.h 1 1 (.hd 4),.w 3 1,.w 4 5] [] [(1000000,4)] [] []]),(8796109668374,[.mk [.v (.st 19),.v ci] [.h 0 25 (.hd 3),.h 0 26 (xi),.h 1 1 (.hd 4),.h 2 0 (xl 0),.w 3 1,.w 4 5,.m 5 7 true] [] [(1000000,6)] [] []])] N (.c (tD N)<|.nil) (.c (yA N)<|.c (oj N)<|.c (nJ N)<|.c (sD N)<|.c (od N)<|.c (mS N)<|.c (iJ N)<|.nil)
def wA:bB:=⟨[.st 10],[cb],λa=>ze1 N a.1⟩
theorem w_:gA 41 (wA N):=tg [] [(58,⟨[.r 26 ci],[],[],[]⟩),(122,⟨[.r 37 ci],[],[],[]⟩)] [] N (.nil) (.nil)
def wh:bB:=⟨[.c (.sl 5)],[cb],λa=>ze2 N a.1⟩
theorem xg:gA 42 (wh N):=tg [] [(58,⟨[.r 10 ci],[],[],[]⟩)] [] N (.nil) (.nil)
def xa:bB:=⟨[.st 10,.st 20],[cb],λa=>zcG N a.1 a.2.1⟩
theorem wj:gA 10 (xa N):=tg [] [(6,⟨[.r 40 cb],[],[],[]⟩),(58,⟨[.r 44 ci],[],[],[]⟩)] [] N (.c (w_ N)<|.c (xg N)<|.nil) (.nil)
def CD:bB:=⟨[ci,ci,ci],[cb],λa=>zdk N a.1 a.2.1 a.2.2.1⟩
theorem rU:gA 129 (CD N):=tg [] [] [] N (.nil) (.nil)
def Bq:bB:=⟨[.st 10,.st 20],[cb],λa=>jB N a.1 a.2.1⟩
theorem AU:gA 62 (Bq N):=tg [] [] [] N (.c (rU N)<|.nil) (.nil)
def EZ:bB:=⟨[ci],[ci],λa=>oB N a.1⟩
theorem El:gA 130 (EZ N):=tg [] [] [] N (.c (gG N)<|.nil) (.nil)
def Gt:bB:=⟨[.st 10,.st 20],[cb],λa=>qO N a.1 a.2.1⟩
theorem Gz:gA 63 (Gt N):=tg [] [(122,⟨[.r 5 ci,.r 17 ci],[],[],[]⟩),(62671,⟨[.r 72 cb],[],[],[]⟩)] [] N (.c (zfe N)<|.c (El N)<|.nil) (.nil)
def Js:bB:=⟨[.st 10,ci,.st 0],[ci],λa=>Be N a.1 a.2.1 a.2.2.1⟩
theorem IA:gA 198 (Js N):=tg [] [(122,⟨[.r 7 ci,.r 30 ci],[],[],[]⟩)] [] N (.c (ZT N)<|.c (Aq N)<|.nil) (.nil)
def IV:bB:=⟨[.st 10,ci,ci,.st 0],[cb],λa=>jh N a.1 a.2.1 a.2.2.1 a.2.2.2.1⟩
theorem JZ:gA 132 (IV N):=tg [] [] [] N (.c (ZT N)<|.c (IA N)<|.nil) (.nil)
def CI:bB:=⟨[.st 5,ci],[ci],λa=>gC N a.1 a.2.1⟩
theorem Cr:gA 200 (CI N):=tg [] [] [] N (.nil) (.nil)
def zbF:bB:=⟨[.c (.sl 5),ci,.k 200],[ci,cb],λa=>zaz N a.1 a.2.1⟩
theorem zbE:gA 199 (zbF N):=tg [] [(60,⟨[.r 9 ci,.r 10 ci],[],[],[]⟩)] [] N (.c (Cr N)<|.nil) (.nil)
def Gs:bB:=⟨[.c (.sl 5),ci],[ci,cb],λa=>nF N a.1 a.2.1⟩
theorem xM:gA 133 (Gs N):=tg [] [] [] N (.c (zbE N)<|.nil) (.nil)
def Bu:bB:=⟨[.st 10,.st 20],[cb],λa=>jz N a.1 a.2.1⟩
theorem Bp:gA 64 (Bu N):=tg [] [(26,⟨[.r 14 ci],[],[],[]⟩),(211,⟨[],[],[],[]⟩),(27038,⟨[.r 33 ci],[],[],[]⟩)] [] N (.c (gG N)<|.c (JZ N)<|.c (xM N)<|.nil) (.nil)
def uU:bB:=⟨[.st 10,.st 20],[cb],λa=>zes N a.1 a.2.1⟩
theorem uG:gA 65 (uU N):=tg [] [(250,⟨[.r 7 (.c (.sl 7)),.r 23 ci,.h 2 0 (.sl 0),.m 3 7 true],[],[],[]⟩),(2003,⟨[.r 7 (.c (.sl 7)),.h 2 0 (.sl 0),.m 3 7 true],[],[],[]⟩),(256415,⟨[.r 74 cb,.h 2 0 (.sl 0),.m 3 7 true],[],[],[]⟩)] [(393229,[eP [.p (.k (.c (.lit (.pointer none)))),.p (.k (.c (.lit (.int .i64 2))))] 0,.mk [.p (.pt 2 0 2),.p (.k (.c (.lit (.int .i64 0))))] [] [.cells [xl 0,.mr 3],.mp 7 true] [] [] []]),(33608826952,[.mk [.v ci] [.h 2 0 (xl 0),.m 3 7 true] [] [(1000000,1)] [] []])] N (.c (kc N)<|.c (mM N)<|.nil) (.c (zfa N)<|.c (zcy N)<|.nil)
def Au:bB:=⟨[.st 10,.st 20],[cb],λa=>gQ N a.1 a.2.1⟩
theorem zz:gA 66 (Au N):=tg [] [(58,⟨[.r 23 ci],[],[],[]⟩),(122,⟨[.r 43 ci],[],[],[]⟩),(125342,⟨[.r 60 ci],[],[],[]⟩)] [] N (.c (xu N)<|.c (xM N)<|.c (xI N)<|.nil) (.nil)
def EX:bB:=⟨[.c (.sl 1)],[cb],λa=>oP N a.1⟩
theorem Fx:gA 135 (EX N):=tg [] [(26,⟨[.r 7 ci],[],[],[]⟩)] [] N (.nil) (.nil)
def EG:bB:=⟨[.st 10,.st 20],[cb],λa=>oK N a.1 a.2.1⟩
theorem Ey:gA 67 (EG N):=tg [] [(6,⟨[.r 18 cb],[],[],[]⟩),(14,⟨[.r 33 cb],[],[],[]⟩),(122,⟨[.r 38 ci],[],[],[]⟩)] [] N (.c (rU N)<|.c (Fx N)<|.nil) (.nil)
def EO:bB:=⟨[.st 10,.st 20],[cb],λa=>f_ N a.1 a.2.1⟩
theorem uL:gA 21 (EO N):=tg [] [] [] N (.c (ZT N)<|.c (AU N)<|.c (Gz N)<|.c (Bp N)<|.c (uG N)<|.c (zz N)<|.c (Ey N)<|.nil) (.nil)
def xS:dk:=⟨f9 [.v (.st 10)],[.mk [.p (.k (.c (.lit (.pointer none)))),.p (.k (.c (.lit (.int .i64 2))))] [] [] [(37,1)] [] [(917517,[eP [.p (.k (.c (.lit (.pointer none)))),.p (.k (.c (.lit (.int .i64 2))))] 0,.mk [.p (.pt 1 0 2),.p (.k (.c (.lit (.int .i64 0))))] [] [.cells [xi,xn]] [] [] []]),(4063253,[eP [.p (.k (.c (.lit (.pointer none)))),.p (.k (.c (.lit (.int .i64 2))))] 1,.mk [.p (.pt 2 0 2),.p (.k (.c (.lit (.int .i64 0))))] [] [.cells [xl 0,.mr 3],.mp 7 true] [] [] []])],.mk [.p (.pt 0 0 27),.p (.k (.c (.lit (.int .i64 0))))] [] [.cells [.pt 1 0 2,.pt 2 0 2,xl 0,xl 2,xl 3,xi,xi,xi,xi,xi,xi,xi,xi,xi,xi,xi,xi,xi,xi,xi,xi,xi,xi,xn,xl 1,.hd 3,xi],.cells [xi,xn],.cells [xl 0,.mr 4],.row 1,.mp 7 true] [] [] []],λa=>fB N a⟩
theorem ya:g6 38 (xS N):=og (g:=38) N (.c (ZT N)<|.c (gV N)<|.c (Af N)<|.nil) (.c (nN N)<|.c (zfa N)<|.nil)
def zdh:dk:=⟨f9 [.v (.c (.sl 8))],[.mk [.p (.hd 0)] [] [.row 8] [] [] []],λx=>za3 N x⟩
theorem zdi:g6 70 (zdh N):=lU (i:=8) (sz:=32) (z:=[.c (.lit (.int .i64 0)),.c (.lit (.int .i64 0)),.c (.lit (.int .i64 0)),.c (.lit (.int .i64 0))]) (fn:=Tryz.f70) dC (by kernel_rfl) (by kernel_rfl) (by kernel_rfl) rfl
def kG:dk:=⟨f9 [.v (.c (.sl 1))],[.mk [.p (.hd 0)] [] [.row 1] [] [] []],λx=>zbk N x⟩
theorem kD:g6 71 (kG N):=lU (i:=1) (sz:=8) (z:=[.c (.lit (.int .i64 0))]) (fn:=Tryz.f71) dC (by kernel_rfl) (by kernel_rfl) (by kernel_rfl) rfl
def Ab:dk:=⟨f9 [.v (.st 10),.v (.st 20)],[.mk [.p (.k (.c (.lit (.pointer none)))),.v ci] [] [] [] [(250,⟨[.r 29 ci,.w 7 5],[],[(1051649,5)],[(3,1,7)]⟩),(506,⟨[.r 46 ci,.h 4 0 (.sl 0),.m 6 7 true],[],[],[]⟩)] [(917524,[eP [.p (.k (.c (.lit (.pointer none)))),.p (.k (.c (.lit (.int .i64 2))))] 0,.mk [.p (.pt 2 0 27),.p (.k (.c (.lit (.int .i64 0))))] [] [.cells [.pt 3 0 2,.pt 4 0 2,xl 0,xl 2,xl 3,xi,xi,xi,xi,xi,xi,xi,xi,xi,xi,xi,xi,xi,xi,xi,xi,xi,xi,xn,xl 1,.hd 5,xi],.cells [xi,xn],.cells [xl 0,.mr 6],.row 1,.mp 7 true] [] [] []]),(33423438,[.mk [.p (.hd 8)] [] [.row 8] [(1000000,3)] [] []]),(66977876,[.mk [.p (.hd 9)] [] [.row 1] [(1000000,4)] [] []]),(134086747,[.mk [.p (.hd 10)] [] [.row 1] [(1000000,4)] [] []]),(2100428838,[.mk [.v ci] [.h 3 1 (.hd 7),.w 7 5] [] [(1000000,1)] [] []]),(4247912503,[.mk [.v ci] [.h 4 0 (xl 0),.m 6 7 true] [] [(1000000,2)] [] []])],.mk [.p (.pt 0 0 27),.p (.k (.c (.lit (.int .i64 0))))] [] [g7 1 2 3,.cells [xi,.hd 4],.cells [xl 0,.mr 5],.row 1,.row 5,.mp 7 true] [] [] []],λ(a,b)=>dD N a b⟩
theorem zy:g6 43 (Ab N):=og (g:=43) N (.c (uL N)<|.nil) (.c (ya N)<|.c (zfc N)<|.c (zcy N)<|.c (zdi N)<|.c (kD N)<|.nil)
def yn:bB:=⟨[ci,ci,ci],[cb],λa=>AD N a.1 a.2.1 a.2.2.1⟩
theorem zdP:gA 226 (yn N):=tg [] [] [] N (.nil) (.nil)
def sM:bB:=⟨[ci],[cb],λa=>zb8 N a.1⟩
theorem tA:gA 206 (sM N):=tg [] [] [] N (.nil) (.nil)
def sW:bB:=⟨[.st 0],[cb],λa=>V_ N a.1⟩
theorem zbX:gA 145 (sW N):=tg [] [] [] N (.c (tA N)<|.nil) (.nil)
def sX:bB:=⟨[.st 10],[cb],λa=>zcI N a.1⟩
theorem sF:gA 227 (sX N):=tg [] [(26,⟨[.r 3 ci],[],[],[]⟩)] [] N (.c (zbX N)<|.c (zdP N)<|.nil) (.nil)
def rz:bB:=⟨[.c (.sl 1),ci],[cb],λa=>zcx N a.1 a.2.1⟩
theorem hY:gA 261 (rz N):=tg [] [(26,⟨[.r 5 ci],[],[],[]⟩),(420,⟨[.r 40 cb],[],[],[]⟩)] [] N (.nil) (.nil)
def sJ:bB:=⟨[.st 10],[cb],λa=>zcN N a.1⟩
theorem sO:gA 228 (sJ N):=tg [] [(26,⟨[.r 3 ci],[],[],[]⟩),(420,⟨[.r 29 cb],[],[],[]⟩)] [] N (.c (hY N)<|.c (zdP N)<|.nil) (.nil)
def qP:bB:=⟨[.st 10],[cb],λa=>zcv N a.1⟩
theorem rc:gA 229 (qP N):=tg [] [(26,⟨[.r 3 ci],[],[],[]⟩),(841,⟨[.r 59 cb],[],[],[]⟩)] [] N (.c (hY N)<|.c (zdP N)<|.nil) (.nil)
def tP:bB:=⟨[.st 10],[.c .str],λa=>gR N a.1⟩
theorem ve:gA 173 (tP N):=tg [(28,24),(69,25)] [(7,⟨[.r 4 cb],[],[],[]⟩),(506,⟨[.r 7 ci],[],[],[]⟩)] [] N (.c (sF N)<|.c (sO N)<|.c (zdP N)<|.c (rc N)<|.nil) (.nil)
def se:bB:=⟨[.st 10],[cb],λa=>zcK N a.1⟩
theorem sQ:gA 102 (se N):=tg [] [] [] N (.c (ve N)<|.nil) (.nil)
def tB:bB:=⟨[ci],[cb],λa=>zbi N a.1⟩
theorem iO:gA 103 (tB N):=tg [] [] [] N (.nil) (.nil)
def uW:bB:=⟨[.c (.sl 5),ci],[ci],λa=>Oy N a.1 a.2.1⟩
theorem za1:gA 23 (uW N):=tg [] [(26,⟨[.r 5 ci],[],[],[]⟩)] [] N (.nil) (.nil)
def sU:bB:=⟨[.c (.sl 6),ci],[cb],λa=>zbh N a.1 a.2.1⟩
theorem zd8:gA 92 (sU N):=tg [] [(26,⟨[.r 5 ci],[],[],[]⟩),(420,⟨[.r 60 cb],[],[],[]⟩)] [] N (.nil) (.nil)
def xY:bB:=⟨[.c (.sl 6),ci],[ci],λa=>zcs N a.1 a.2.1⟩
theorem fP:gA 189 (xY N):=tg [] [(58,⟨[.r 5 ci,.r 6 ci],[],[],[]⟩),(233,⟨[.r 5 ci],[],[],[]⟩)] [] N (.nil) (.nil)
def xj:bB:=⟨[.st 0,.st 0],[.st 0],λa=>Vt N a.1 a.2.1⟩
theorem zdu:gA 187 (xj N):=tg [] [] [] N (.nil) (.nil)
end Go.Abs
end
end
section
set_option maxRecDepth 100000
noncomputable section
namespace Go.Abs
open Go.Proofs
variable[Gl](N:Nat)
def tf:bB:=⟨[.st 0,ci],[.st 0],λa=>zb1 N a.1 a.2.1⟩
theorem iP:gA 188 (tf N):=tg [] [(58,⟨[.r 6 ci,.h 2 0 (.int .i64),.h 2 1 (.int .i64),.h 2 2 (.int .i64),.h 2 3 (.int .i64)],[],[],[]⟩)] [] N (.c (zdu N)<|.nil) (.nil)
def vr:bB:=⟨[.st 0,.st 0],[cb],λa=>Oj N a.1 a.2.1⟩
theorem zc2:gA 119 (vr N):=tg [] [] [] N (.nil) (.nil)
def wv:bB:=⟨[.st 0,.st 0],[.st 0],λa=>zca N a.1 a.2.1⟩
theorem kV:gA 120 (wv N):=tg [] [] [] N (.nil) (.nil)
def tQ:bB:=⟨[.c (.sl 0),.c (.sl 7)],[.c (.sl 0),cb],λa=>zeq N a.1 a.2.1⟩
theorem ue:gA 147 (tQ N):=tg [(55,0)] [(122,⟨[.r 7 cb,.r 8 ci,.w 0 0],[(6,0)],[(6,0)],[]⟩),(7827,⟨[.r 7 cb],[],[],[]⟩),(31306,⟨[.r 10 ci,.h 1 0 (.int .i64),.h 1 1 (.int .i64),.h 1 2 (.int .i64),.h 1 3 (.int .i64)],[],[],[]⟩)] [] N (.c (fP N)<|.c (iP N)<|.c (zdu N)<|.c (kV N)<|.c (zc2 N)<|.nil) (.nil)
def ri:bB:=⟨[.st 10,.st 20],[cb],λa=>zdt N a.1 a.2.1⟩
theorem qZ:gA 104 (ri N):=tg [] [(26,⟨[.r 5 ci],[],[],[]⟩),(841,⟨[.r 57 cb],[],[],[]⟩)] [] N (.c (za1 N)<|.c (zd8 N)<|.c (zbX N)<|.c (ue N)<|.nil) (.nil)
def tw:bB:=⟨[.st 20,ci,ci],[cb],λa=>zdK N a.1 a.2.1 a.2.2.1⟩
theorem tq:gA 174 (tw N):=tg [] [(26,⟨[.r 7 ci],[],[],[]⟩),(841,⟨[.r 54 cb],[],[],[]⟩)] [] N (.c (za1 N)<|.c (fP N)<|.nil) (.nil)
def xo:bB:=⟨[.st 8,ci],[cb],λa=>zeV N a.1 a.2.1⟩
theorem wW:gA 230 (xo N):=tg [] [] [] N (.c (iO N)<|.nil) (.nil)
def sL:bB:=⟨[.c (.sl 8),ci,ci,ci],[cb],λa=>za6 N a.1 a.2.1 a.2.2.1 a.2.2.2.1⟩
theorem iL:gA 25 (sL N):=tg [] [(26,⟨[.r 9 ci],[],[],[]⟩)] [] N (.nil) (.nil)
def sC:bB:=⟨[.c (.sl 8),ci],[cb],λa=>zdJ N a.1 a.2.1⟩
theorem tj:gA 175 (sC N):=tg [] [(26,⟨[.r 5 ci],[],[],[]⟩),(3366,⟨[.r 6 ci],[],[],[]⟩),(53860,⟨[.r 58 cb],[],[],[]⟩)] [] N (.c (wW N)<|.c (iL N)<|.nil) (.nil)
def sy:bB:=⟨[.st 10,.st 20],[cb],λa=>zdO N a.1 a.2.1⟩
theorem sV:gA 105 (sy N):=tg [] [(26,⟨[.r 5 ci],[],[],[]⟩),(841,⟨[.r 38 cb],[],[],[]⟩)] [] N (.c (tq N)<|.c (tj N)<|.nil) (.nil)
def wY:bB:=⟨[.c (.sl 1),ci],[cb],λa=>zeU N a.1 a.2.1⟩
theorem wN:gA 106 (wY N):=tg [] [(26,⟨[.r 5 ci],[],[],[]⟩),(420,⟨[.r 23 cb],[],[],[]⟩)] [] N (.nil) (.nil)
def yM:bB:=⟨[ci,ci,ci],[cb],λa=>Rz N a.1 a.2.1 a.2.2.1⟩
theorem yz:gA 205 (yM N):=tg [] [] [] N (.nil) (.nil)
def sf:bB:=⟨[.st 5],[cb],λa=>zcU N a.1⟩
theorem iR:gA 143 (sf N):=tg [] [(14,⟨[.r 61 cb],[],[],[]⟩),(26,⟨[.r 3 ci],[],[],[]⟩),(30,⟨[.r 85 cb],[],[],[]⟩),(62,⟨[.r 101 cb],[],[],[]⟩),(126,⟨[.r 119 cb],[],[],[]⟩)] [] N (.c (yz N)<|.c (zbX N)<|.c (zc2 N)<|.nil) (.nil)
def uV:bB:=⟨[.c (.sl 7),ci],[ci],λa=>zbO N a.1 a.2.1⟩
theorem jW:gA 146 (uV N):=tg [] [(26,⟨[.r 5 ci],[],[],[]⟩)] [] N (.nil) (.nil)
def wH:bB:=⟨[.st 5],[cb],λa=>ze4 N a.1⟩
theorem wK:gA 176 (wH N):=tg [] [] [] N (.nil) (.nil)
def sn:bB:=⟨[.st 0,.st 0],[ci],λa=>zbt N a.1 a.2.1⟩
theorem tz:gA 242 (sn N):=tg [] [(6,⟨[.r 19 cb],[],[],[]⟩),(124,⟨[.r 5 ci,.h 2 0 (.int .i64),.h 2 1 (.int .i64),.h 2 2 (.int .i64),.h 2 3 (.int .i64)],[],[],[]⟩),(496,⟨[.r 27 cb],[],[],[]⟩)] [] N (.c (zdu N)<|.c (zc2 N)<|.c (zbX N)<|.nil) (.nil)
def tV:bB:=⟨[.st 10,ci,.st 0],[ci],λa=>gI N a.1 a.2.1 a.2.2.1⟩
theorem uw:gA 231 (tV N):=tg [] [(122,⟨[.r 7 ci,.r 8 ci],[],[],[]⟩)] [] N (.c (tz N)<|.nil) (.nil)
def uu:bB:=⟨[.st 10,ci,ci,.st 0],[cb],λa=>zc3 N a.1 a.2.1 a.2.2.1 a.2.2.2.1⟩
theorem vh:gA 177 (uu N):=tg [] [] [] N (.c (uw N)<|.nil) (.nil)
def sN:bB:=⟨[.c (.sl 6)],[ci],λa=>zdN N a.1⟩
theorem tH:gA 37 (sN N):=tg [] [(58,⟨[.r 3 ci,.r 4 ci],[],[],[]⟩),(233,⟨[.r 3 ci],[],[],[]⟩)] [] N (.nil) (.nil)
def wk:bB:=⟨[.c (.sl 1),ci],[cb],λa=>zeS N a.1 a.2.1⟩
theorem wP:gA 93 (wk N):=tg [] [(26,⟨[.r 5 ci],[],[],[]⟩)] [] N (.nil) (.nil)
def uf:bB:=⟨[.st 10,.st 5,.c (.sl 6)],[cb],λa=>zdg N a.1 a.2.1 a.2.2.1⟩
theorem jS:gA 36 (uf N):=tg [] [(6,⟨[.r 34 cb],[],[],[]⟩),(122,⟨[.r 8 ci],[],[],[]⟩)] [] N (.c (wP N)<|.c (zd8 N)<|.c (tH N)<|.nil) (.nil)
def wQ:bB:=⟨[.st 10,.st 20,.st 5],[cb],λa=>zeX N a.1 a.2.1 a.2.2.1⟩
theorem xp:gA 107 (wQ N):=tg [] [(15,⟨[.r 7 ci],[],[],[]⟩),(31,⟨[.r 7 ci],[],[],[]⟩),(63,⟨[.r 7 ci],[],[],[]⟩),(510,⟨[.r 83 cb],[],[],[]⟩),(8186,⟨[.r 9 ci],[],[],[]⟩)] [] N (.c (iR N)<|.c (jW N)<|.c (za1 N)<|.c (vh N)<|.c (wK N)<|.c (jS N)<|.nil) (.nil)
def sv:bB:=⟨[.st 10,.st 20],[cb],λa=>zcR N a.1 a.2.1⟩
theorem tx:gA 44 (sv N):=tg [] [(6,⟨[.r 43 cb],[],[],[]⟩),(14,⟨[.r 86 cb],[],[],[]⟩),(122,⟨[.r 5 ci],[],[],[]⟩),(250,⟨[.r 6 ci],[],[],[]⟩),(4004,⟨[.r 138 cb],[],[],[]⟩)] [] N (.c (iO N)<|.c (xp N)<|.c (qZ N)<|.c (sV N)<|.c (wN N)<|.c (sQ N)<|.nil) (.nil)
def ul:bB:=⟨[.st 5,.st 5],[cb],λa=>zem N a.1 a.2.1⟩
theorem ut:gA 150 (ul N):=tg [] [(58,⟨[.r 5 ci],[],[],[]⟩)] [] N (.nil) (.nil)
def vi:bB:=⟨[.c (.sl 5),.c (.sl 5)],[cb],λa=>zey N a.1 a.2.1⟩
theorem ug:gA 79 (vi N):=tg [] [(58,⟨[.r 5 ci],[],[],[]⟩)] [] N (.c (ut N)<|.nil) (.nil)
def vn:bB:=⟨[.c (.sl 6),.c (.sl 6)],[cb],λa=>zeu N a.1 a.2.1⟩
theorem un:gA 55 (vn N):=tg [] [(58,⟨[.r 5 ci],[],[],[]⟩)] [] N (.nil) (.nil)
def uN:bB:=⟨[.c (.sl 7),.c (.sl 7)],[cb],λa=>zek N a.1 a.2.1⟩
theorem vw:gA 80 (uN N):=tg [] [(58,⟨[.r 5 ci],[],[],[]⟩),(932,⟨[.r 54 cb],[],[],[]⟩)] [] N (.c (un N)<|.nil) (.nil)
def vp:bB:=⟨[.c (.sl 8),.c (.sl 8)],[cb],λa=>zeo N a.1 a.2.1⟩
theorem uS:gA 81 (vp N):=tg [] [(58,⟨[.r 5 ci],[],[],[]⟩)] [] N (.nil) (.nil)
def uD:bB:=⟨[.c (.sl 1),.c (.sl 1)],[cb],λa=>zc5 N a.1 a.2.1⟩
theorem ux:gA 82 (uD N):=tg [] [(58,⟨[.r 5 ci],[],[],[]⟩)] [] N (.nil) (.nil)
def u_:bB:=⟨[.st 20,.st 20],[cb],λa=>bP N a.1 a.2.1⟩
theorem kr:gA 27 (u_ N):=tg [] [] [] N (.c (ug N)<|.c (vw N)<|.c (uS N)<|.c (ux N)<|.nil) (.nil)
def pJ:dk:=⟨f9 [.v (.st 10),.v (.st 20)],[.mk [.p (.k (.c (.lit (.pointer none)))),.v cb] [] [] [] [] [(393227,[eP [.p (.k (.c (.lit (.pointer none)))),.v ci] 0,.mk [.p (.pt 2 0 27),.p (.k (.c (.lit (.int .i64 0))))] [] [g7 3 4 5,.cells [xi,.hd 6],.cells [xl 0,.mr 7],.row 1,.row 5,.mp 7 true] [] [] []]),(1966113,[eP [.v (.st 20)] 1])],.mk [.p (.pt 0 0 27),.v cb] [] [g7 1 2 3,.cells [xi,.hd 4],.cells [xl 0,.mr 5],.row 1,.row 5,.mp 7 true] [] [] []],λ(a,b)=>ce N a b⟩
theorem pp:g6 11 (pJ N):=og (g:=11) N (.c (tx N)<|.c (kr N)<|.nil) (.c (zy N)<|.c (zbe N)<|.nil)
def wz:bB:=⟨[.st 4,.c (.sl 5)],[ci],λa=>ze3 N a.1 a.2.1⟩
theorem wi:gA 204 (wz N):=tg [] [(14,⟨[.r 27 cb],[],[],[]⟩),(30,⟨[.r 45 cb],[],[],[]⟩)] [] N (.c (za1 N)<|.nil) (.nil)
def xh:bB:=⟨[.st 5,.c (.sl 5)],[cb],λa=>zdD N a.1 a.2.1⟩
theorem xk:gA 141 (xh N):=tg [] [(26,⟨[.r 5 ci],[],[],[]⟩)] [] N (.c (wi N)<|.nil) (.nil)
def yI:bB:=⟨[.st 5,.c (.sl 5)],[cb],λa=>fD N a.1 a.2.1⟩
theorem yw:gA 72 (yI N):=tg [] [] [] N (.c (xk N)<|.nil) (.nil)
def sm:bB:=⟨[.c (.sl 5),ci,.st 26,ci],[ci],λa=>zdR N a.1 a.2.1 a.2.2.1 a.2.2.2.1⟩
theorem th:gA 142 (sm N):=tg [] [(58,⟨[.r 9 ci,.r 10 ci],[],[],[]⟩),(233,⟨[.r 9 ci],[],[],[]⟩),(1865,⟨[.r 49 cb],[],[],[]⟩)] [] N (.nil) (.nil)
def wM:bB:=⟨[.st 10,.c (.sl 5),.st 5],[cb],λa=>zeY N a.1 a.2.1 a.2.2.1⟩
theorem wJ:gA 73 (wM N):=tg [] [(250,⟨[.r 8 ci,.r 9 ci],[],[],[]⟩),(1001,⟨[.r 8 ci],[],[],[]⟩),(4004,⟨[.r 66 cb],[],[],[]⟩)] [] N (.c (th N)<|.nil) (.nil)
def wo:bB:=⟨[.st 10,.st 20,ci],[cb],λa=>zdw N a.1 a.2.1 a.2.2.1⟩
theorem wB:gA 24 (wo N):=tg [] [] [] N (.c (za1 N)<|.c (yw N)<|.c (wJ N)<|.nil) (.nil)
def uO:bB:=⟨[ci,ci],[ci],λa=>zev N a.1 a.2.1⟩
theorem kh:gA 144 (uO N):=tg [] [(3,⟨[],[],[],[]⟩)] [] N (.nil) (.nil)
def wX:bB:=⟨[.st 5,ci,ci],[ci],λa=>ju N a.1 a.2.1 a.2.2.1⟩
theorem wu:gA 74 (wX N):=tg [] [] [] N (.c (iR N)<|.c (kh N)<|.nil) (.nil)
def nf:dk:=⟨.mk [.v (.c (.sl 0)),.p (.hd 0)] [] [.row 7] [] [] [],[.mk [.v (.c (.sl 0)),.v cb] [] [] [(55,0)] [(122,⟨[.r 7 cb,.r 8 ci,.w 1 0],[(6,1)],[(6,0)],[]⟩),(7827,⟨[.r 7 cb],[],[],[]⟩),(31306,⟨[.r 10 ci,.h 2 0 (.int .i64),.h 2 1 (.int .i64),.h 2 2 (.int .i64),.h 2 3 (.int .i64)],[],[],[]⟩)] []],λ(a,b)=>zbv N a b⟩
theorem mO:g6 147 (nf N):=og (g:=147) N (.c (fP N)<|.c (iP N)<|.c (zdu N)<|.c (kV N)<|.c (zc2 N)<|.nil) (.nil)
def vq:bB:=⟨[.c (.sl 0),.c (.sl 7),.st 7],[.c (.sl 7),ci],λa=>zc9 N a.1 a.2.1 a.2.2.1⟩
theorem uF:gA 75 (vq N):=tg [(70,7)] [(6,⟨[.r 39 cb],[],[],[]⟩),(124,⟨[.r 8 ci],[],[],[]⟩),(496,⟨[.r 60 cb],[],[],[]⟩)] [(134086736,[eP [.v (.c (.sl 0)),.v cb] 0])] N (.c (jW N)<|.c (zd8 N)<|.c (zbX N)<|.nil) (.c (mO N)<|.nil)
def uy:bB:=⟨[.st 5,ci,ci,cb],[.st 5],λa=>zel N a.1 a.2.1 a.2.2.1 a.2.2.2.1⟩
theorem tN:gA 77 (uy N):=tg [] [(31,⟨[.h 0 15 (.int .i64)],[],[],[]⟩),(63,⟨[.h 0 15 (.int .i64)],[],[],[]⟩),(127,⟨[.h 0 11 (.bool)],[],[],[]⟩),(255,⟨[.h 0 11 (.bool),.h 0 12 (.bool)],[],[],[]⟩),(511,⟨[.h 0 11 (.bool),.h 0 12 (.bool)],[],[],[]⟩),(1023,⟨[.h 0 11 (.bool)],[],[],[]⟩),(2047,⟨[.h 0 16 (.int .i64)],[],[],[]⟩)] [] N (.c (kh N)<|.nil) (.nil)
def mT:dk:=⟨f9 [.v (.st 20)],[.mk [.ag [xi,xi,xi,.hd 0,.hd 1,.hd 2,.hd 3,.hd 4,xi]] [] [.row 5,.row 7,.row 8,.row 1,.row 1] [(5,5),(10,7),(15,8),(20,1),(25,1)] [] []],λa=>zds N a⟩
theorem mg:g6 148 (mT N):=og (g:=148) N (.nil) (.nil)
def nL:dk:=⟨.mk [.ag [xi,xi,xi,.hd 0,.hd 1,.hd 2,.hd 3,.hd 4,xi]] [] [.row 5,.row 7,.row 8,.row 1,.row 1] [] [] [],[.mk [.ag [xi,xi,xi,.hd 5,.hd 6,.hd 7,.hd 8,.hd 9,xi]] [] [.row 5,.row 7,.row 8,.row 1,.row 1] [(5,5),(10,7),(15,8),(20,1),(25,1)] [] []],λ(a,b,d,e,f,g,h,i,j)=>zdm N a b d e f g h i j⟩
theorem mD:g6 148 (nL N):=og (g:=148) N (.nil) (.nil)
def yx:bB:=⟨[ci],[ci],λa=>zd6 N a.1⟩
theorem mW:gA 78 (yx N):=tg [] [] [] N (.nil) (.nil)
def lh:dk:=⟨.mk [.ag [xi,xi,xi,.hd 0,.hd 1,.hd 2,.hd 3,.hd 4,xi],.v ci] [] [.row 5,.row 7,.row 8,.row 1,.row 1] [] [] [],[.mk [.ag [xi,xi,xi,.hd 5,.hd 6,.hd 7,.hd 8,.hd 9,xi]] [] [.row 5,.row 7,.row 8,.row 1,.row 1] [] [(7,⟨[.w 11 1],[],[],[(12,7,11)]⟩)] [(393223,[.mk [.ag [xi,xi,xi,.hd 7,.hd 8,.hd 9,.hd 10,.hd 11,xi]] [] [.row 5,.row 7,.row 8,.row 1,.row 1] [(1000000,0)] [] []])]],λ(a,b,d,e,f,g,h,i,j,k)=>zbs N a b d e f g h i j k⟩
theorem li:g6 149 (lh N):=og (g:=149) N (.c (mW N)<|.nil) (.c (mD N)<|.nil)
def rF:bB:=⟨[.st 20,.st 5],[.st 20],λa=>zdn N a.1 a.2.1⟩
theorem rE:gA 76 (rF N):=tg [] [] [(393225,[.mk [.ag [xi,xi,xi,.hd 3,.hd 4,.hd 5,.hd 6,.hd 7,xi]] [] [.row 5,.row 7,.row 8,.row 1,.row 1] [(1000000,0)] [] []]),(8257564,[.mk [.ag [xi,xi,xi,.hd 10,.hd 11,.hd 12,.hd 13,.hd 14,xi]] [] [.row 5,.row 7,.row 8,.row 1,.row 1] [(1000000,1)] [] []]),(66715685,[.mk [.ag [xi,xi,xi,.hd 15,.hd 16,.hd 17,.hd 18,.hd 19,xi]] [] [.row 5,.row 7,.row 8,.row 1,.row 1] [(1000000,1)] [] []])] N (.c (za1 N)<|.nil) (.c (mg N)<|.c (li N)<|.nil)
def sE:bB:=⟨[.st 10,.st 20,ci,.c (.sl 6)],[.st 20,ci],λa=>zcL N a.1 a.2.1 a.2.2.1 a.2.2.2.1⟩
theorem sK:gA 26 (sE N):=tg [] [] [] N (.c (za1 N)<|.c (jS N)<|.c (wu N)<|.c (uF N)<|.c (tN N)<|.c (rE N)<|.c (mW N)<|.nil) (.nil)
def kE:bB:=⟨[.st 9],[cb],λa=>zcW N a.1⟩
theorem kI:gA 4 (kE N):=tg [] [(254,⟨[.r 58 cb],[],[],[]⟩),(4090,⟨[.r 64 ci,.h 8 0 (.int .i64),.h 8 1 (.int .i64),.h 8 2 (.int .i64),.h 8 3 (.sl 5),.h 8 4 (.sl 7),.h 8 5 (.sl 8),.h 8 6 (.sl 1),.h 8 7 (.sl 1),.h 8 8 (.int .i64)],[],[],[]⟩),(1047142,⟨[.r 90 cb],[],[],[]⟩),(8377146,⟨[.r 94 ci],[],[],[]⟩)] [(1966108,[eP [.p (.k (.c (.lit (.pointer none)))),.v cb] 0,.mk [.p (.pt 1 0 27),.v cb] [] [g7 2 3 4,.cells [xi,.hd 5],.cells [xl 0,.mr 6],.row 1,.row 5,.mp 7 true] [] [] []]),(8257576,[.mk [.v (.st 19),.v ci] [.h 1 25 (.hd 4),.h 1 26 (xi),.h 2 1 (.hd 5),.h 3 0 (xl 0),.w 4 1,.w 5 5,.m 6 7 true] [] [(1000000,1)] [] []]),(33292337,[eP [.v (.st 20)] 2]),(134086787,[eP [.v (.st 20)] 2])] N (.c (sI N)<|.c (wj N)<|.c (za1 N)<|.c (iL N)<|.c (sK N)<|.c (wB N)<|.c (kr N)<|.c (uL N)<|.nil) (.c (pp N)<|.c (iJ N)<|.c (zbe N)<|.nil)
end Go.Abs
end
end
section
end
