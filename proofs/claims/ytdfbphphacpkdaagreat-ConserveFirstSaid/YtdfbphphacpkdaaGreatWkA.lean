/- The code computes these functions. -/
import Derived.Test.YtdfbphphacpkdaaGreatTyPure
import Derived.Test.YtdfbphphacpkdaaGreatProg
import Derived.Test.YtdfbphphacpkdaaGreatTyPrim
import Derived.KernelRfl
set_option linter.all false
section
set_option maxRecDepth 100000
noncomputable section
namespace Go.Abs
open Go.Proofs
variable[Gl]
abbrev ci:de:=.c (.int .i64)
abbrev cb:de:=.c .bool
abbrev xi:CP:=.c (.int .i64)
abbrev xb:CP:=.c .bool
abbrev xl(n:Nat):CP:=.c (.sl n)
abbrev xn:CP:=.k (.c (.lit (.slice none 0 0)))
theorem dx:Tryz.prog.follows .mixedOrders=true:=by kernel_rfl
def KB:cY:=Ig 138 202 1 (λk=>k)
theorem KB_ok:cY.ok Tryz.prog KB:=PD Tryz.Ux (λk=>rfl)
theorem tg{g:Nat}{S:tH}{s:bz}(H:List (Nat×Nat))(J:List (Nat×JH))(C:List (Nat×List CT))(N:Nat)(b:fh Tryz.prog S){O:NI}(d:tY Tryz.prog O)(h:∀a,tG Tryz.prog g S O KB H J C s.ins s.out N a=s.f a:=by intro _;kernel_rfl):bH Tryz.prog g s:=tG_ok dx b d KB_ok h
theorem og{g:Nat}{S:tH}{O:NI}{s:dq}(N:Nat)(a:fh Tryz.prog S)(b:tY Tryz.prog O)(d:aS Tryz.prog g=true:=by kernel_rfl)(h:∀x,oG Tryz.prog g S O KB N s x=s.f x:=by intro _;kernel_rfl):cV Tryz.prog g s:=oG_ok dx a b KB_ok d h
abbrev fh.c:=@fh.cons
abbrev tY.c:=@tY.cons
abbrev eP(g:Nat)(s:bz):=bH Tryz.prog g s
abbrev f9(g:Nat)(s:dq):=cV Tryz.prog g s
end Go.Abs
end
end
section
set_option maxRecDepth 100000
noncomputable section
namespace Go.Abs
open Go.Proofs
variable[Gl](N:Nat)
def sX:bz:=⟨[],[.st 10],λa=>fP N⟩
theorem tB:eP 39 (sX N):=clo_ok (P:=Tryz.prog) (g:=39) (out:=[.st 10]) (λa=>fP N) dx (by kernel_rfl)
def EQ:bz:=⟨[.st 0],[.st 11],λa=>fZ N a.1⟩
theorem vg:eP 217 (EQ N):=tg [] [] [] N (.nil) (.nil)
def IN:bz:=⟨[.st 0],[cb],λa=>Mm N a.1⟩
theorem Ve:eP 165 (IN N):=tg [] [(26,⟨[.r 7 ci],[],[],[]⟩)] [] N (.c (vg N)<|.nil) (.nil)
def yp:bz:=⟨[.st 10],[cb],λa=>fC N a.1⟩
theorem x_:eP 245 (yp N):=tg [] [(58,⟨[.r 18 ci],[],[],[]⟩)] [] N (.c (Ve N)<|.nil) (.nil)
def Ag:bz:=⟨[.c (.sl 1),ci],[cb],λa=>zeF N a.1 a.2.1⟩
theorem oB:eP 275 (Ag N):=tg [] [(58,⟨[.r 5 ci,.r 10 ci],[],[],[]⟩)] [] N (.nil) (.nil)
def yb:bz:=⟨[.st 10],[cb],λa=>fE N a.1⟩
theorem yx:eP 247 (yb N):=tg [] [(58,⟨[.r 18 ci],[],[],[]⟩),(3737,⟨[.r 32 cb],[],[],[]⟩)] [] N (.c (oB N)<|.nil) (.nil)
def wM:bz:=⟨[.st 10],[cb],λa=>zeM N a.1⟩
theorem wZ:eP 250 (wM N):=tg [] [(58,⟨[.r 20 ci],[],[],[]⟩),(7474,⟨[.r 42 cb],[],[],[]⟩),(59802,⟨[.r 50 ci],[],[],[]⟩)] [] N (.c (oB N)<|.nil) (.nil)
def uw:bz:=⟨[.st 12],[cb],λa=>zeb N a.1⟩
theorem vr:eP 252 (uw N):=tg [] [(26,⟨[.r 14 ci],[],[],[]⟩)] [] N (.nil) (.nil)
def Ie:bz:=⟨[.st 10],[.c .str],λa=>AE N a.1⟩
theorem IT:eP 128 (Ie N):=tg [] [(26,⟨[],[],[(1000003,40)],[]⟩)] [(786438,[.mk [] [] [] [(1000002,0),(43,1000001)] [] [(393225,[.mk [] [] [] [(1000002,0)] [] []]),(393232,[.mk [] [] [] [(1000002,0)] [] []]),(393237,[.mk [] [] [] [(1000002,0)] [] []]),(393240,[.mk [] [] [] [(1000002,0)] [] []]),(393243,[.mk [] [] [] [(1000002,0)] [] []]),(393246,[.mk [] [] [] [(1000002,0)] [] []]),(393249,[.mk [] [] [] [(1000002,0)] [] []]),(393252,[.mk [] [] [] [(1000002,0)] [] []]),(393255,[.mk [] [] [] [(1000002,0)] [] []]),(393258,[.mk [] [] [] [(1000002,0)] [] []])]]),(221380622,[.mk [.v cb] [] [] [] [] []])] N (.c (x_ N)<|.c (yx N)<|.c (wZ N)<|.c (vr N)<|.nil) (.nil)
def FY:bz:=⟨[.st 10],[cb],λa=>PG N a.1⟩
theorem ZF:eP 61 (FY N):=tg [] [] [] N (.c (IT N)<|.nil) (.nil)
def yz:dq:=⟨.mk [.v ci] [] [] [] [] [],[.mk [.p (.k (.c (.lit (.pointer none)))),.p (.k (.c (.lit (.int .i64 2))))] [] [] [] [] [],.mk [.p (.pt 0 0 2),.p (.k (.c (.lit (.int .i64 0))))] [] [.cells [xi,xn]] [] [] []],λa=>zdS N a⟩
theorem nG:f9 94 (yz N):=og (g:=94) N (.nil) (.nil)
def gZ:bz:=⟨[.c (.sl 0)],[.c (.sl 0)],λa=>zaY N a.1⟩
theorem zcV:eP 160 (gZ N):=tT (i:=0) (sz:=32) (z:=[.c (.lit (.int .i64 0)),.c (.lit (.int .i64 0)),.c (.lit (.int .i64 0)),.c (.lit (.int .i64 0))]) (fn:=Tryz.f160) dx (by kernel_rfl) (by kernel_rfl) (by kernel_rfl) rfl
def wy:dq:=⟨.mk [.v (.st 10)] [] [] [] [] [],[.mk [.p (.k (.c (.lit (.pointer none)))),.p (.k (.c (.lit (.int .i64 2))))] [] [] [(10,15)] [] [],.mk [.p (.pt 0 0 2),.p (.k (.c (.lit (.int .i64 0))))] [] [.cells [xl 0,.mr 1],.mp 7 true] [] [] []],λa=>zcC N a⟩
theorem zeV:f9 95 (wy N):=og (g:=95) N (.c (ZF N)<|.c (zcV N)<|.nil) (.nil)
def jb:dq:=⟨.mk [.v (.c (.sl 2))] [] [] [] [] [],[.mk [.p (.hd 0)] [] [.row 2] [] [] []],λx=>zco N x⟩
theorem jh:f9 161 (jb N):=me (i:=2) (sz:=24) (z:=[.c (.lit (.slice none 0 0))]) (fn:=Tryz.f161) dx (by kernel_rfl) (by kernel_rfl) (by kernel_rfl) rfl
def oV:bz:=⟨[.c (.sl 1)],[.c (.sl 1)],λa=>zaT N a.1⟩
theorem zc2:eP 71 (oV N):=tT (i:=1) (sz:=8) (z:=[.c (.lit (.int .i64 0))]) (fn:=Tryz.f71) dx (by kernel_rfl) (by kernel_rfl) (by kernel_rfl) rfl
def zdP:dq:=⟨.mk [.v (.c (.sl 3))] [] [] [] [] [],[.mk [.p (.hd 0)] [] [.row 3] [] [] []],λx=>zbe N x⟩
theorem zdO:f9 162 (zdP N):=me (i:=3) (sz:=64) (z:=[.c (.lit (.int .i64 0)),.c (.lit (.slice none 0 0)),.c (.lit (.int .i64 0)),.c (.lit (.int .i64 0)),.c (.lit (.int .i64 0)),.c (.lit (.int .i64 0))]) (fn:=Tryz.f162) dx (by kernel_rfl) (by kernel_rfl) (by kernel_rfl) rfl
def zK:bz:=⟨[.st 10],[.st 10],λa=>zcT N a.1⟩
theorem gF:eP 96 (zK N):=tg [] [(122,⟨[.r 16 ci,.w 2 2],[],[],[(0,1,2)]⟩),(506,⟨[.r 37 ci,.w 3 3],[],[],[(0,2,3)]⟩)] [(917515,[.mk [.p (.hd 2)] [] [.row 2] [(1000000,0)] [] []]),(4063264,[.mk [.p (.hd 3)] [] [.row 3] [(1000000,1)] [] []])] N (.c (zcV N)<|.c (zc2 N)<|.nil) (.c (jh N)<|.c (zdO N)<|.nil)
def Cj:bz:=⟨[ci,ci,ci],[ci],λa=>Zs N a.1 a.2.1 a.2.2.1⟩
theorem fA:eP 163 (Cj N):=tg [] [] [] N (.nil) (.nil)
def Iw:bz:=⟨[ci],[.c (.sl 1)],λa=>pW N a.1⟩
theorem zi:eP 97 (Iw N):=tg [(5,1)] [] [] N (.c (fA N)<|.nil) (.nil)
def yd:dq:=⟨.mk [.v (.st 10)] [] [] [] [] [],[.mk [.p (.k (.c (.lit (.pointer none)))),.p (.k (.c (.lit (.int .i64 2))))] [] [] [(37,1)] [(3298534883343,⟨[],[],[(1049601,5)],[]⟩)] [(917517,[.mk [.p (.k (.c (.lit (.pointer none)))),.p (.k (.c (.lit (.int .i64 2))))] [] [] [(1000000,0)] [] [],.mk [.p (.pt 1 0 2),.p (.k (.c (.lit (.int .i64 0))))] [] [.cells [xi,xn]] [] [] []]),(4063253,[.mk [.p (.k (.c (.lit (.pointer none)))),.p (.k (.c (.lit (.int .i64 2))))] [] [] [(1000000,1)] [] [],.mk [.p (.pt 3 0 2),.p (.k (.c (.lit (.int .i64 0))))] [] [.cells [xl 0,.mr 4],.mp 7 true] [] [] []])],.mk [.p (.pt 0 0 27),.p (.k (.c (.lit (.int .i64 0))))] [] [.cells [.pt 1 0 2,.pt 2 0 2,xl 0,xl 2,xl 3,xi,xi,xi,xi,xi,xi,xi,xi,xi,xi,xi,xi,xi,xi,xi,xi,xi,xi,xl 8,xl 1,.hd 3,xi],.cells [xi,.hd 4],.cells [xl 0,.mr 5],.row 1,.row 5,.mp 7 true] [] [] []],λa=>sf N a⟩
theorem yC:f9 38 (yd N):=og (g:=38) N (.c (ZF N)<|.c (gF N)<|.c (zi N)<|.nil) (.c (nG N)<|.c (zeV N)<|.nil)
def pO:dq:=⟨.mk [.p (.k (.c (.lit (.pointer none)))),.v (.st 5)] [] [] [] [] [],[.mk [.v ci] [] [] [] [] []],λx=>iS N⟩
theorem py:f9 40 (pO N):=og (g:=40) N (.nil) (.nil)
def n_:dq:=⟨.mk [.p (.k (.c (.lit (.pointer none)))),.v ci,.v ci,.v ci] [] [] [] [] [],[.mk [] [] [] [] [] [(65552,[.mk [.v ci] [] [] [(1000000,0)] [] []])]],λ(a,_,_)=>zcx N a⟩
theorem nX:f9 56 (n_ N):=og (g:=56) N (.nil) (.c (py N)<|.nil)
def mG:dq:=⟨.mk [.p (.k (.c (.lit (.pointer none)))),.v ci,.p (.hd 0)] [] [.row 6] [] [] [],[.mk [.v ci] [] [] [] [] []],λx=>zcf N⟩
theorem nO:f9 57 (mG N):=og (g:=57) N (.nil) (.nil)
def rK:dq:=⟨.mk [.p (.k (.c (.lit (.pointer none))))] [] [] [] [] [],[.mk [.p (.k (.c (.lit (.pointer none)))),.v ci] [] [] [] [] []],λx=>kQ N⟩
theorem rF:f9 12 (rK N):=og (g:=12) N (.nil) (.nil)
def ri:dq:=⟨.mk [.p (.k (.c (.lit (.pointer none))))] [] [] [] [] [],[.mk [.ag [.k (.c (.lit (.pointer none))),.k (.c (.lit (.pointer none)))],.v ci] [] [] [] [] [(393224,[.mk [.p (.k (.c (.lit (.pointer none)))),.v ci] [] [] [(1000000,0)] [] []])]],λx=>kM N⟩
theorem qO:f9 58 (ri N):=og (g:=58) N (.nil) (.c (rF N)<|.nil)
def uG:dq:=⟨.mk [.p (.k (.c (.lit (.pointer none))))] [] [] [] [] [],[.mk [.v (.c (.sl 5))] [] [] [] [] []],λx=>ow N⟩
theorem uR:f9 28 (uG N):=og (g:=28) N (.nil) (.nil)
def yI:dq:=⟨.mk [.p (.k (.c (.lit (.pointer none)))),.v ci] [] [] [] [] [],[.mk [.v cb] [] [] [] [] []],λx=>su N⟩
theorem xG:f9 29 (yI N):=og (g:=29) N (.nil) (.nil)
def qo:dq:=⟨.mk [.p (.k (.c (.lit (.pointer none)))),.p (.k (.c (.lit (.pointer none)))),.v (.st 5)] [] [] [] [] [],[.mk [.v (.st 14),.v cb] [] [] [] [] []],λx=>zev N⟩
theorem qd:f9 13 (qo N):=og (g:=13) N (.nil) (.nil)
def EA:bz:=⟨[.c (.sl 6),ci],[cb],λa=>zd7 N a.1 a.2.1⟩
theorem zeA:eP 170 (EA N):=tg [] [(58,⟨[.r 5 ci,.r 10 ci],[],[],[]⟩)] [] N (.nil) (.nil)
def xL:dq:=⟨.mk [.v (.st 0)] [] [] [] [] [],[.mk [.ag [.cx,.cx]] [] [] [] [] []],λa=>zc1 N a⟩
theorem mZ:f9 224 (xL N):=og (g:=224) N (.nil) (.nil)
def yP:dq:=⟨.mk [.ag [.cx,.cx]] [] [] [] [] [],[.mk [.v (.st 0)] [] [] [] [] []],λ(a,b)=>mE N a b⟩
theorem zy:f9 260 (yP N):=og (g:=260) N (.nil) (.nil)
def wJ:dq:=⟨.mk [.ag [.cx,.cx]] [] [] [] [] [],[.mk [.v (.st 0),.v ci] [] [] [] [] [(393222,[.mk [.v (.st 0)] [] [] [(1000000,0)] [] []])]],λ(a,b)=>zdu N a b⟩
theorem kL:f9 225 (wJ N):=og (g:=225) N (.c (Ve N)<|.nil) (.c (zy N)<|.nil)
def Jj:bz:=⟨[.st 0,ci],[.st 0,ci],λa=>ma N a.1 a.2.1⟩
theorem kZ:eP 180 (Jj N):=tg [] [] [(4063256,[.mk [.ag [.cx,.cx]] [] [] [(1000000,0)] [] []]),(8257573,[.mk [.v (.st 0),.v ci] [] [] [(1000000,1)] [] []])] N (.c (Ve N)<|.nil) (.c (mZ N)<|.c (kL N)<|.nil)
def C_:bz:=⟨[.c (.sl 15)],[cb],λa=>zd1 N a.1⟩
theorem iq:eP 179 (C_ N):=tg [] [(58,⟨[.r 3 ci,.r 8 ci],[],[],[]⟩),(7474,⟨[.r 26 cb],[],[],[]⟩)] [] N (.c (Ve N)<|.nil) (.nil)
def FW:bz:=⟨[.c (.sl 15),ci],[ci],λa=>fH N a.1 a.2.1⟩
theorem zcP:eP 186 (FW N):=tg [] [] [(393224,[.mk [.v ci] [] [] [] [(28,⟨[.r 5 ci,.r 6 ci],[],[],[]⟩)] [(59375636,[.mk [.v cb] [] [] [] [] []])]])] N (.nil) (.nil)
def zec:dq:=⟨.mk [.v (.c (.sl 15))] [] [] [] [] [],[.mk [.p (.hd 0)] [] [.row 15] [] [] []],λx=>zaW N x⟩
theorem zbX:f9 262 (zec N):=me (i:=15) (sz:=40) (z:=[.c (.lit (.int .i64 0)),.c (.lit (.int .i64 0)),.c (.lit (.int .i64 0)),.c (.lit (.int .i64 0)),.c (.lit (.int .i64 0))]) (fn:=Tryz.f262) dx (by kernel_rfl) (by kernel_rfl) (by kernel_rfl) rfl
def zbL:dq:=⟨.mk [.p (.hd 0),.v ci,.p (.hd 1)] [] [.row 15,.row 15] [] [] [],[.mk [.p (.hd 0)] [.w 0 15] [] [] [] []],λ(a,b,d)=>zaA N a b d⟩
theorem zdz:f9 263 (zbL N):=og (g:=263) N (.nil) (.nil)
def zdW:dq:=⟨.mk [.p (.hd 0),.v ci,.p (.hd 1)] [] [.row 15,.row 15] [] [] [],[.mk [.p (.hd 0)] [.w 0 15] [] [] [] []],λx=>zaS N x.1 x.2.1 x.2.2⟩
def Xj:Go.Shelf.Ren:=⟨λ| 22=>263 | 29=>283 | 30=>284 | n=>n,λ| 24=>190 | 9=>255 | 3=>3 | 4=>4 | 0=>0 | n=>n,λn=>n⟩
theorem Lj:Ku Tryz.prog Xj 5 40 "slices.Insert[[]drayage/api.Step,drayage/api.Step]" (.agg #[.int .i64 0,.int .i64 0,.int .i64 0,.int .i64 0,.int .i64 0]):={ mixed:=dx,f22:=Tryz.func263.trans (congrArg some (by kernel_rfl)),ov:=λargs w=>Go.run_callFunc_extern Tryz.func283 (by kernel_rfl) (by kernel_rfl) (by kernel_rfl) (by kernel_rfl) args w,t0:=Tryz.underlying0,t3:=Tryz.underlying3,t4:=Tryz.underlying4,a3:=Tryz.isAgg3,z3:=Tryz.sizeOf3,a4:=Tryz.isAgg4,z4:=Tryz.sizeOf4,z9:=Tryz.sizeOf255,v9:=Tryz.zeroValue255,t24:=Tryz.underlying190,a24:=Tryz.isAgg190,z24:=Tryz.sizeOf190,v24:=Tryz.zeroValue190,i9:=by kernel_rfl }
theorem zdZ:f9 263 (zdW N):=cV.or (f1:=(zbL N).f) (f2:=λx=>Kr (α:=TT 15) x.1 x.2.1 x.2.2) (zdz N) (GU (ii:=15) Lj (by kernel_rfl) (by kernel_rfl) (by kernel_rfl) (by kernel_rfl) (by kernel_rfl))
def JP:bz:=⟨[.c (.sl 15),ci],[.c (.sl 15)],λa=>qH N a.1 a.2.1⟩
theorem lr:eP 232 (JP N):=tg [(30,15)] [] [(917515,[.mk [.p (.hd 0)] [] [.row 15] [(1000000,0)] [] []]),(4063263,[.mk [.p (.hd 0)] [.w 0 15] [] [(1000000,1)] [] []])] N (.c (zcP N)<|.nil) (.c (zbX N)<|.c (zdZ N)<|.nil)
def zbz:dq:=⟨.mk [.p (.hd 0),.v ci,.p (.hd 1)] [] [.row 15,.row 15] [] [] [],[.mk [.p (.hd 0)] [.w 0 15] [] [] [] []],λ(a,b,d)=>zaA N a b d⟩
theorem zdr:f9 263 (zbz N):=og (g:=263) N (.nil) (.nil)
def zdQ:dq:=⟨.mk [.p (.hd 0),.v ci,.p (.hd 1)] [] [.row 15,.row 15] [] [] [],[.mk [.p (.hd 0)] [.w 0 15] [] [] [] []],λx=>zb9 N x.1 x.2.1 x.2.2⟩
theorem zdK:f9 263 (zdQ N):=cV.or (f1:=(zbz N).f) (f2:=λx=>Kr (α:=TT 15) x.1 x.2.1 x.2.2) (zdr N) (GU (ii:=15) Lj (by kernel_rfl) (by kernel_rfl) (by kernel_rfl) (by kernel_rfl) (by kernel_rfl))
def yH:dq:=⟨.mk [.v (.c (.sl 15)),.v ci] [] [] [] [] [],[.mk [.p (.hd 0)] [] [.row 15] [(30,15)] [] [(917515,[.mk [.p (.hd 0)] [] [.row 15] [(1000000,0)] [] []]),(4063263,[.mk [.p (.hd 0)] [.w 0 15] [] [(1000000,1)] [] []])]],λ(a,b)=>kB N a b⟩
theorem ye:f9 232 (yH N):=og (g:=232) N (.c (zcP N)<|.nil) (.c (zbX N)<|.c (zdK N)<|.nil)
def PF:bz:=⟨[.st 0,.st 0],[.st 0,ci],λa=>vJ N a.1 a.2.1⟩
theorem xY:eP 172 (PF N):=tg [] [(6,⟨[.r 15 cb],[],[],[]⟩)] [(917522,[.mk [.ag [.cx,.cx]] [] [] [(1000000,0)] [] []]),(917524,[.mk [.ag [.cx,.cx]] [] [] [(1000000,0)] [] []]),(1966112,[.mk [.v (.st 0),.v ci] [] [] [(1000000,1)] [] []])] N (.c (Ve N)<|.nil) (.c (mZ N)<|.c (kL N)<|.nil)
def DL:bz:=⟨[.c (.sl 15)],[.c (.sl 15)],λa=>oA N a.1⟩
theorem DE:eP 233 (DL N):=tg [(13,15),(36,15)] [(122,⟨[.r 17 ci,.w 0 15],[(3,0)],[],[]⟩),(979,⟨[.w 0 15],[(3,0)],[],[]⟩)] [] N (.c (iq N)<|.nil) (.nil)
def pD:bz:=⟨[.c (.sl 15),ci,ci,.st 0,.k 172],[.c (.sl 15),ci],λa=>zdX N a.1 a.2.1 a.2.2.1 a.2.2.2.1⟩
theorem pL:eP 181 (pD N):=tg [] [(6,⟨[.r 40 cb],[],[],[]⟩),(62,⟨[],[],[(12,15)],[]⟩),(122,⟨[.r 13 ci,.w 1 15],[(12,1)],[],[]⟩)] [(917549,[.mk [.p (.hd 1)] [] [.row 15] [(1000000,0)] [] []])] N (.c (lr N)<|.c (zcP N)<|.c (xY N)<|.c (DE N)<|.c (iq N)<|.c (Ve N)<|.nil) (.c (ye N)<|.nil)
def Fw:bz:=⟨[.c (.sl 15),ci,ci,.st 0],[.c (.sl 15),ci],λa=>mW N a.1 a.2.1 a.2.2.1 a.2.2.2.1⟩
theorem pc:eP 114 (Fw N):=tg [] [] [] N (.c (pL N)<|.nil) (.nil)
def mD:dq:=⟨.mk [.p (.k (.c (.lit (.pointer none)))),.v ci,.v (.c (.sl 6)),.v (.st 0),.v ci] [] [] [] [] [],[.mk [.v ci] [] [] [] [] []],λx=>fW N⟩
theorem zes:f9 127 (mD N):=og (g:=127) N (.nil) (.nil)
def jE:dq:=⟨.mk [.ag [.k (.c (.lit (.pointer none))),.k (.c (.lit (.pointer none)))],.v (.st 5)] [] [] [] [] [],[.mk [.v (.st 18),.v cb] [] [] [] [] [(393231,[.mk [.v (.st 14),.v cb] [] [] [(1000000,0)] [] []]),(4063271,[.mk [.v ci] [] [] [(1000000,1)] [] []])]],λa=>zbG N a⟩
theorem jY:f9 59 (jE N):=og (g:=59) N (.nil) (.c (qd N)<|.c (zes N)<|.nil)
def oa:dq:=⟨.mk [.p (.k (.c (.lit (.pointer none))))] [] [] [] [] [],[.mk [.v ci] [] [] [] [] []],λx=>zdB N⟩
theorem zew:f9 60 (oa N):=og (g:=60) N (.nil) (.nil)
def lB:dq:=⟨.mk [.p (.k (.c (.lit (.pointer none)))),.v ci,.v (.c (.sl 6))] [] [] [] [] [],[.mk [.v ci] [] [] [] [] []],λx=>zcf N⟩
theorem lK:f9 57 (lB N):=og (g:=57) N (.nil) (.nil)
def tE:dq:=⟨.mk [.p (.k (.c (.lit (.pointer none))))] [] [] [] [] [],[.mk [.v (.st 19),.v ci] [] [] [(53,14),(70,14)] [(250,⟨[.r 23 ci,.w 3 14,.w 4 14],[],[(1050624,14),(1050625,14)],[(2,0,3),(2,1,4)]⟩),(2003,⟨[.w 3 14,.w 4 14],[],[],[(2,0,3),(2,1,4)]⟩)] [(393229,[.mk [.ag [.k (.c (.lit (.pointer none))),.k (.c (.lit (.pointer none)))],.v ci] [] [] [(1000000,0)] [] []]),(8126485,[.mk [.v (.c (.sl 5))] [] [] [(1000000,1)] [] []]),(4200857630,[.mk [.v cb] [] [] [(1000000,2)] [] []]),(4200988707,[.mk [.v (.st 18),.v cb] [] [] [(1000000,3)] [] []]),(67217260591,[.mk [.v ci] [] [] [(1000000,4)] [] []]),(268869435456,[.mk [.v ci] [] [] [(1000000,5)] [] []])]],λx=>nk N⟩
theorem th:f9 20 (tE N):=og (g:=20) N (.nil) (.c (qO N)<|.c (uR N)<|.c (xG N)<|.c (jY N)<|.c (zew N)<|.c (lK N)<|.nil)
def F_:bz:=⟨[ci,ci,ci],[cb],λa=>ND N a.1 a.2.1 a.2.2.1⟩
theorem pz:eP 164 (F_ N):=tg [] [] [] N (.nil) (.nil)
end Go.Abs
end
end
section
set_option maxRecDepth 100000
noncomputable section
namespace Go.Abs
open Go.Proofs
variable[Gl](N:Nat)
def zo:bz:=⟨[.st 5],[cb],λa=>gB N a.1⟩
theorem zh:eP 166 (zo N):=tg [] [(58,⟨[.r 12 ci],[],[],[]⟩)] [] N (.c (pz N)<|.nil) (.nil)
def Ip:bz:=⟨[ci],[.c .str],λa=>vO N a.1⟩
theorem If:eP 218 (Ip N):=tg [] [] [] N (.nil) (.nil)
def Fi:bz:=⟨[ci],[cb],λa=>i_ N a.1⟩
theorem xp:eP 219 (Fi N):=tg [] [] [] N (.nil) (.nil)
def Im:bz:=⟨[ci],[cb],λa=>UT N a.1⟩
theorem iw:eP 131 (Im N):=tg [] [] [] N (.nil) (.nil)
def zc:bz:=⟨[.st 5],[cb],λa=>g_ N a.1⟩
theorem ze:eP 167 (zc N):=tg [] [(51,⟨[.r 8 cb],[],[],[]⟩),(207,⟨[.r 17 cb],[],[],[]⟩)] [] N (.c (If N)<|.c (iw N)<|.c (xp N)<|.nil) (.nil)
def Jz:bz:=⟨[.st 5],[cb],λa=>Zy N a.1⟩
theorem ze1:eP 98 (Jz N):=tg [] [] [] N (.c (pz N)<|.c (Ve N)<|.c (zh N)<|.c (ze N)<|.nil) (.nil)
def gy:bz:=⟨[.c (.sl 4)],[.c (.sl 4)],λa=>zaC N a.1⟩
theorem zbE:eP 155 (gy N):=tT (i:=4) (sz:=16) (z:=[.c (.lit (.int .i64 0)),.c (.lit (.bool false))]) (fn:=Tryz.f155) dx (by kernel_rfl) (by kernel_rfl) (by kernel_rfl) rfl
def IY:bz:=⟨[.st 5],[.st 5],λa=>jg N a.1⟩
theorem lU:eP 137 (IY N):=tg [] [] [] N (.c (zbE N)<|.nil) (.nil)
def nV:dq:=⟨.mk [.p (.pt 0 0 2),.v ci] [] [.cells [xi,.hd 1],.row 5] [] [] [],[.mk [.v ci,.v cb] [] [] [] [] [(393229,[.mk [.v ci] [] [] [] [(28,⟨[.r 5 ci,.r 6 ci],[],[],[]⟩)] [(59375636,[.mk [.v cb] [] [] [] [] []])]])]],λ(a,b,_)=>zaG N a b⟩
theorem zcS:f9 168 (nV N):=og (g:=168) N (.nil) (.nil)
def zd0:dq:=⟨.mk [.p (.hd 0),.v ci,.p (.hd 1)] [] [.row 5,.row 5] [] [] [],[.mk [.p (.hd 0)] [.w 0 5] [] [] [] []],λ(a,b,d)=>zbg N a b d⟩
theorem zd4:f9 169 (zd0 N):=og (g:=169) N (.nil) (.nil)
def pA:dq:=⟨.mk [.p (.pt 0 0 2),.v (.st 5)] [] [.cells [xi,.hd 1],.row 5] [] [] [],[.mk [.v ci] [.h 0 1 (.hd 1),.w 1 5] [] [(38,5)] [] [(1966096,[.mk [.v ci,.v cb] [] [] [(1000000,0)] [] []]),(16646183,[.mk [.p (.hd 1)] [.w 1 5] [] [(1000000,1)] [] []])]],λ(a,b,d)=>zbU N a b d⟩
theorem ze0:f9 99 (pA N):=og (g:=99) N (.c (ze1 N)<|.c (lU N)<|.nil) (.c (zcS N)<|.c (zd4 N)<|.nil)
def DV:bz:=⟨[ci],[ci],λa=>fU N a.1⟩
theorem mV:eP 125 (DV N):=tg [] [] [] N (.nil) (.nil)
def m_:dq:=⟨.mk [.p (.pt 0 0 27),.v ci] [] [.cells [.pt 1 0 2,.pt 2 0 2,xl 0,xl 2,xl 3,xi,xi,xi,xi,xi,xi,xi,xi,xi,xi,xi,xi,xi,xi,xi,xi,xi,xi,xl 8,xl 1,.hd 3,xi],.cells [xi,.hd 4],.cells [xl 0,.mr 5],.row 1,.row 5,.mp 7 true] [] [] [],[.mk [] [.w 3 1,.h 0 25 (.hd 3)] [] [] [] []],λ(a,_,_,b,_,_,_,_,_,_,_,_,_,_,_,_,_,_,_,_,_,_,_,_,_,_,_,_,_,_)=>zba N a b⟩
theorem zer:f9 100 (m_ N):=og (g:=100) N (.c (mV N)<|.nil) (.nil)
def pM:dq:=⟨.mk [.p (.pt 0 0 27),.v (.st 5)] [] [.cells [.pt 1 0 2,.pt 2 0 2,xl 0,xl 2,xl 3,xi,xi,xi,xi,xi,xi,xi,xi,xi,xi,xi,xi,xi,xi,xi,xi,xi,xi,xl 8,xl 1,.hd 3,xi],.cells [xi,.hd 4],.cells [xl 0,.mr 5],.row 1,.row 5,.mp 7 true] [] [] [],[.mk [.v ci] [.h 1 1 (.hd 4),.w 4 5,.h 0 21 (xi),.h 0 25 (.hd 3),.w 3 1] [] [] [] [(8126509,[.mk [.v ci] [.h 1 1 (.hd 4),.w 4 5] [] [(1000000,0)] [] []]),(16646203,[.mk [] [.w 3 1,.h 0 25 (.hd 3)] [] [(1000000,1)] [] []])]],λ(e,f,_,g,_,_,_,_,_,_,_,_,_,_,_,a,_,_,_,_,_,_,_,b,_,_,_,_,d,_)=>iR N e f g a b d⟩
theorem pN:f9 40 (pM N):=og (g:=40) N (.c (ze1 N)<|.nil) (.c (ze0 N)<|.c (zer N)<|.nil)
def nZ:dq:=⟨.mk [.p (.pt 0 0 27),.v ci,.v ci,.v ci] [] [.cells [.pt 1 0 2,.pt 2 0 2,xl 0,xl 2,xl 3,xi,xi,xi,xi,xi,xi,xi,xi,xi,xi,xi,xi,xi,xi,xi,xi,xi,xi,xl 8,xl 1,.hd 3,xi],.cells [xi,.hd 4],.cells [xl 0,.mr 5],.row 1,.row 5,.mp 7 true] [] [] [],[.mk [] [.h 0 21 (xi),.h 0 25 (.hd 3),.h 1 1 (.hd 4),.w 3 1,.w 4 5] [] [] [] [(65552,[.mk [.v ci] [.h 1 1 (.hd 4),.w 4 5,.h 0 21 (xi),.h 0 25 (.hd 3),.w 3 1] [] [(1000000,0)] [] []])]],λ(e,f,_,g,h,i,_,_,_,_,_,_,_,_,_,_,_,a,_,_,_,_,_,_,_,b,_,_,_,_,d,_)=>zcy N e f g h i a b d⟩
theorem nU:f9 56 (nZ N):=og (g:=56) N (.nil) (.c (pN N)<|.nil)
def pg:dq:=⟨.mk [.p (.pt 0 0 2),.v ci] [] [.cells [xi,.hd 1],.row 5] [] [] [],[.mk [.v (.st 5),.v cb] [] [] [] [] [(917518,[.mk [.v ci,.v cb] [] [] [(1000000,0)] [] []])]],λ(a,b,_)=>zbm N a b⟩
theorem zc8:f9 108 (pg N):=og (g:=108) N (.c (lU N)<|.nil) (.c (zcS N)<|.nil)
def Df:bz:=⟨[.c (.sl 6)],[ci],λa=>ou N a.1⟩
theorem EE:eP 193 (Df N):=tg [] [(58,⟨[.r 3 ci,.r 8 ci],[],[],[]⟩)] [] N (.c (fA N)<|.nil) (.nil)
def pp:bz:=⟨[.c (.sl 1),ci],[ci],λa=>zdV N a.1 a.2.1⟩
theorem pr:eP 243 (pp N):=tg [] [(26,⟨[.r 8 ci],[],[],[]⟩)] [] N (.nil) (.nil)
def kX:bz:=⟨[.c (.sl 1),ci],[cb],λa=>zb3 N a.1 a.2.1⟩
theorem kT:eP 194 (kX N):=tg [] [] [] N (.c (pr N)<|.nil) (.nil)
def ES:bz:=⟨[.st 10,.st 5,.c (.sl 6)],[cb],λa=>zeT N a.1 a.2.1 a.2.2.1⟩
theorem nl:eP 123 (ES N):=tg [] [(6,⟨[.r 22 cb],[],[],[]⟩),(250,⟨[.r 47 ci],[],[],[]⟩)] [] N (.c (kT N)<|.c (zeA N)<|.c (EE N)<|.nil) (.nil)
def MZ:bz:=⟨[ci],[cb],λa=>eo N a.1⟩
theorem kh:eP 109 (MZ N):=tg [] [] [] N (.nil) (.nil)
def JX:bz:=⟨[ci,ci],[ci,cb],λa=>vS N a.1 a.2.1⟩
theorem Jg:eP 195 (JX N):=tg [] [(53247,⟨[.r 48 cb],[],[],[]⟩),(212991,⟨[.r 55 cb],[],[],[]⟩)] [] N (.c (kh N)<|.c (xp N)<|.nil) (.nil)
def Me:bz:=⟨[.st 5,ci,ci,cb],[.st 5,ci],λa=>uL N a.1 a.2.1 a.2.2.1 a.2.2.2.1⟩
theorem BA:eP 124 (Me N):=tg [] [(6,⟨[.r 20 cb],[],[],[]⟩),(1023,⟨[.h 0 11 (.bool),.h 0 12 (.bool),.h 0 15 (.int .i64)],[],[],[]⟩),(2047,⟨[.h 0 16 (.int .i64)],[],[],[]⟩),(8186,⟨[.h 0 12 (.bool)],[],[],[]⟩)] [] N (.c (Jg N)<|.c (zbE N)<|.c (iw N)<|.c (ze1 N)<|.c (pz N)<|.nil) (.nil)
def zeG:dq:=⟨.mk [.v (.c (.sl 0))] [] [] [] [] [],[.mk [.p (.hd 0)] [] [.row 0] [] [] []],λx=>za4 N x⟩
theorem zcl:f9 160 (zeG N):=me (i:=0) (sz:=32) (z:=[.c (.lit (.int .i64 0)),.c (.lit (.int .i64 0)),.c (.lit (.int .i64 0)),.c (.lit (.int .i64 0))]) (fn:=Tryz.f160) dx (by kernel_rfl) (by kernel_rfl) (by kernel_rfl) rfl
def jA:dq:=⟨.mk [.p (.pt 0 0 2),.ag [xi,xi,xi,xi,xi,.hd 1],.p (.k (.c (.fn (.func 172) [] [])))] [] [.cells [xl 0,.mr 2],.row 6,.mp 7 true] [] [] [],[.mk [.v (.c (.sl 0)),.v ci] [] [] [] [(58,⟨[.r 21 ci,.w 4 0],[(8,4)],[],[]⟩)] [(393233,[.mk [.p (.hd 4)] [] [.row 0] [(1000000,0)] [] []])]],λ(a,_,_,b,d,e,f,g)=>zeq N a b d e f g⟩
theorem jQ:f9 171 (jA N):=og (g:=171) N (.c (kZ N)<|.c (xY N)<|.nil) (.c (zcl N)<|.nil)
def zez:bz:=⟨[.c (.sl 6)],[.c (.sl 6)],λa=>zbv N a.1⟩
theorem zeH:eP 203 (zez N):=tT (i:=6) (sz:=16) (z:=[.c (.lit (.int .i64 0)),.c (.lit (.int .i64 0))]) (fn:=Tryz.f203) dx (by kernel_rfl) (by kernel_rfl) (by kernel_rfl) rfl
def FB:bz:=⟨[.st 7],[.st 7],λa=>jj N a.1⟩
theorem xo:eP 140 (FB N):=tg [] [] [] N (.c (zeH N)<|.nil) (.nil)
def zd2:dq:=⟨.mk [.p (.hd 0)] [] [.row 6] [] [] [],[.mk [.p (.hd 1)] [] [.row 6] [] [] []],λx=>zck N x⟩
theorem zd5:f9 203 (zd2 N):=EN (ii:=6) (sz:=16) (z:=[.c (.lit (.int .i64 0)),.c (.lit (.int .i64 0))]) (fn:=Tryz.f203) dx (by kernel_rfl) (by kernel_rfl) (by kernel_rfl) rfl
def wU:dq:=⟨.mk [.ag [xi,xi,xi,xi,xi,.hd 0]] [] [.row 6] [] [] [],[.mk [.v (.st 7)] [] [] [] [] [(393221,[.mk [.p (.hd 3)] [] [.row 6] [(1000000,0)] [] []])]],λ(a,b,d,e,f,g)=>qc N a b d e f g⟩
theorem wR:f9 140 (wU N):=og (g:=140) N (.nil) (.c (zd5 N)<|.nil)
def kU:dq:=⟨.mk [.p (.pt 0 0 2),.ag [xi,xi,xi,xi,xi,.hd 1]] [] [.cells [xl 0,.mr 2],.row 6,.mp 7 true] [] [] [],[.mk [.v ci] [.h 0 0 (xl 0),.m 2 7 true] [] [] [(14,⟨[.r 41 cb],[],[],[]⟩)] [(4063288,[.mk [.v (.c (.sl 0)),.v ci] [] [] [(1000000,0)] [] []]),(33423433,[.mk [.v (.st 7)] [] [] [(1000000,1)] [] []])]],λ(a,b,d,e,f,g,h,i)=>ze3 N a b d e f g h i⟩
theorem lc:f9 101 (kU N):=og (g:=101) N (.c (zeA N)<|.c (Ve N)<|.nil) (.c (jQ N)<|.c (wR N)<|.nil)
def oY:dq:=⟨.mk [.p (.pt 0 0 2),.v (.st 5)] [] [.cells [xi,.hd 1],.row 5] [] [] [],[.mk [.v ci] [.w 1 5,.h 0 1 (.hd 1)] [] [] [] [(1966096,[.mk [.v ci,.v cb] [] [] [(1000000,0)] [] []])]],λ(a,b,_)=>zcN N a b⟩
theorem pK:f9 196 (oY N):=og (g:=196) N (.c (ze1 N)<|.c (lU N)<|.nil) (.c (zcS N)<|.nil)
def li:dq:=⟨.mk [.p (.pt 0 0 27),.v (.st 5),.v (.st 5)] [] [.cells [.pt 1 0 2,.pt 2 0 2,xl 0,xl 2,xl 3,xi,xi,xi,xi,xi,xi,xi,xi,xi,xi,xi,xi,xi,xi,xi,xi,xi,xi,xl 8,xl 1,.hd 3,xi],.cells [xi,.hd 4],.cells [xl 0,.mr 5],.row 1,.row 5,.mp 7 true] [] [] [],[.mk [.v ci] [.h 1 1 (.hd 4),.w 4 5,.h 0 25 (.hd 3),.w 3 1] [] [] [(15,⟨[.w 3 1],[],[],[(0,25,3)]⟩)] [(786445,[.mk [.v ci] [.w 4 5,.h 1 1 (.hd 4)] [] [(1000000,0)] [] []]),(917524,[.mk [] [.w 3 1,.h 0 25 (.hd 3)] [] [(1000000,1)] [] []]),(7995421,[.mk [] [.w 3 1,.h 0 25 (.hd 3)] [] [(1000000,1)] [] []])]],λ(a,b,_,d,e,_,_,_,_,_,_,_,_,_,_,_,_,_,_,_,_,_,_,_,_,_,_,_,_,_,_)=>zbn N a b d e⟩
theorem zdT:f9 126 (li N):=og (g:=126) N (.nil) (.c (pK N)<|.c (zer N)<|.nil)
def nz:dq:=⟨.mk [.p (.pt 0 0 27),.v ci,.p (.hd 1)] [] [.cells [.pt 2 0 2,.pt 3 0 2,xl 0,xl 2,xl 3,xi,xi,xi,xi,xi,xi,xi,xi,xi,xi,xi,xi,xi,xi,xi,xi,xi,xi,xl 8,xl 1,.hd 4,xi],.row 6,.cells [xi,.hd 5],.cells [xl 0,.mr 6],.row 1,.row 5,.mp 7 true] [] [] [],[.mk [.v ci] [.h 3 0 (xl 0),.m 6 7 true,.h 0 25 (.hd 4),.h 0 26 (xi),.h 2 1 (.hd 5),.w 4 1,.w 5 5] [] [] [] [(917524,[.mk [.v (.st 5),.v cb] [] [] [(1000000,0)] [] []]),(133955641,[.mk [.v ci] [.h 3 0 (xl 0),.m 6 7 true] [] [(1000000,1)] [] []]),(268304458,[.mk [.v ci] [.h 2 1 (.hd 5),.w 5 5,.h 0 25 (.hd 4),.w 4 1] [] [(1000000,2)] [] []])]],λ(r,s,t,u,v,w,x,y,z,A,a,b,d,e,f,g,h,i,j,k,l,m,n,o,_,_,_,_,p,_,q)=>fR N r s t u v w x y z A a b d e f g h i j k l m n o p q⟩
theorem mB:f9 57 (nz N):=og (g:=57) N (.c (nl N)<|.c (BA N)<|.c (mV N)<|.nil) (.c (zc8 N)<|.c (lc N)<|.c (zdT N)<|.nil)
def zeW:dq:=⟨.mk [.p (.hd 0)] [] [.row 5] [] [] [],[.mk [.p (.hd 1)] [] [.row 5] [] [] []],λx=>zbD N x⟩
theorem zeZ:f9 136 (zeW N):=EN (ii:=5) (sz:=152) (z:=[.c (.lit (.int .i64 0)),.c (.lit (.int .i64 0)),.c (.lit (.int .i64 0)),.c (.lit (.int .i64 0)),.c (.lit (.int .i64 0)),.c (.lit (.int .i64 0)),.c (.lit (.int .i64 0)),.c (.lit (.int .i64 0)),.c (.lit (.int .i64 0)),.c (.lit (.slice none 0 0)),.c (.lit (.int .i64 0)),.c (.lit (.bool false)),.c (.lit (.bool false)),.c (.lit (.int .i64 0)),.c (.lit (.int .i64 0)),.c (.lit (.int .i64 0)),.c (.lit (.int .i64 0)),.c (.lit (.int .i64 0))]) (fn:=Tryz.f136) dx (by kernel_rfl) (by kernel_rfl) (by kernel_rfl) rfl
def oW:dq:=⟨.mk [.p (.pt 0 0 2)] [] [.cells [xi,.hd 1],.row 5] [] [] [],[.mk [.v (.c (.sl 5))] [] [] [] [(122,⟨[.r 15 ci,.w 2 5],[(3,2),(13,2)],[],[]⟩)] [(917516,[.mk [.p (.hd 2)] [] [.row 5] [(1000000,0)] [] []])]],λ(a,_)=>zcI N a⟩
theorem pE:f9 68 (oW N):=og (g:=68) N (.c (lU N)<|.nil) (.c (zeZ N)<|.nil)
def nL:dq:=⟨.mk [.p (.pt 0 0 2)] [] [.cells [xl 0,.mr 1],.mp 7 true] [] [] [],[.mk [.v (.c (.sl 7))] [] [] [(27,7)] [(122,⟨[.r 15 ci,.w 3 7],[(3,3)],[(3,7)],[]⟩)] [(3932172,[.mk [] [] [] [(1000002,0)] [] []]),(3932173,[.mk [.v (.c (.sl 1))] [] [] [(1000000,999999)] [] []])]],λ(a,_)=>aU N a⟩
theorem mR:f9 69 (nL N):=og (g:=69) N (.c (xo N)<|.nil) (.nil)
def zdN:bz:=⟨[.c (.sl 8)],[.c (.sl 8)],λa=>zaN N a.1⟩
theorem zdL:eP 70 (zdN N):=tT (i:=8) (sz:=32) (z:=[.c (.lit (.int .i64 0)),.c (.lit (.int .i64 0)),.c (.lit (.int .i64 0)),.c (.lit (.int .i64 0))]) (fn:=Tryz.f70) dx (by kernel_rfl) (by kernel_rfl) (by kernel_rfl) rfl
def lQ:dq:=⟨.mk [.p (.hd 0)] [] [.row 1] [] [] [],[.mk [.p (.hd 1)] [] [.row 1] [] [] []],λx=>zb4 N x⟩
theorem lJ:f9 71 (lQ N):=EN (ii:=1) (sz:=8) (z:=[.c (.lit (.int .i64 0))]) (fn:=Tryz.f71) dx (by kernel_rfl) (by kernel_rfl) (by kernel_rfl) rfl
def nf:dq:=⟨.mk [.p (.pt 0 0 27)] [] [.cells [.pt 1 0 2,.pt 2 0 2,xl 0,xl 2,xl 3,xi,xi,xi,xi,xi,xi,xi,xi,xi,xi,xi,xi,xi,xi,xi,xi,xi,xi,xl 8,xl 1,.hd 3,xi],.cells [xi,.hd 4],.cells [xl 0,.mr 5],.row 1,.row 5,.mp 7 true] [] [] [],[.mk [.v (.st 20)] [] [] [] [] [(917526,[.mk [.v (.c (.sl 5))] [] [] [(1000000,0)] [] []]),(917531,[.mk [.v (.c (.sl 7))] [] [] [(1000000,1)] [] []]),(917547,[.mk [.p (.hd 7)] [] [.row 1] [(1000000,2)] [] []])]],λ(h,i,j,_,_,_,_,_,_,_,_,_,_,_,_,_,_,_,_,_,_,a,b,d,e,f,g,_,_)=>UU N h i j a b d e f g⟩
theorem zbI:f9 22 (nf N):=og (g:=22) N (.c (zdL N)<|.c (zc2 N)<|.nil) (.c (pE N)<|.c (mR N)<|.c (lJ N)<|.nil)
def o_:dq:=⟨.mk [.p (.pt 0 0 27),.v ci] [] [.cells [.pt 1 0 2,.pt 2 0 2,xl 0,xl 2,xl 3,xi,xi,xi,xi,xi,xi,xi,xi,xi,xi,xi,xi,xi,xi,xi,xi,xi,xi,xl 8,xl 1,.hd 3,xi],.cells [xi,.hd 4],.cells [xl 0,.mr 5],.row 1,.row 5,.mp 7 true] [] [] [],[.mk [.v (.st 5),.v cb] [] [] [] [] [(917518,[.mk [.v (.st 5),.v cb] [] [] [(1000000,0)] [] []])]],λ(_,a,_,b,_,_,_,_,_,_,_,_,_,_,_,_,_,_,_,_,_,_,_,_,_,_,_,_,_,_)=>zcF N a b⟩
theorem pC:f9 45 (o_ N):=og (g:=45) N (.nil) (.c (zc8 N)<|.nil)
def JW:bz:=⟨[.st 5],[ci],λa=>vU N a.1⟩
theorem IG:eP 46 (JW N):=tg [] [(6,⟨[.r 11 cb],[],[],[]⟩)] [] N (.c (ze1 N)<|.c (kh N)<|.nil) (.nil)
def od:dq:=⟨.mk [.p (.pt 0 0 27)] [] [.cells [.pt 1 0 2,.pt 2 0 2,xl 0,xl 2,xl 3,xi,xi,xi,xi,xi,xi,xi,xi,xi,xi,xi,xi,xi,xi,xi,xi,xi,xi,xl 8,xl 1,.hd 3,xi],.cells [xi,.hd 4],.cells [xl 0,.mr 5],.row 1,.row 5,.mp 7 true] [] [] [],[.mk [.v (.st 10)] [] [] [] [] []],λ(_,_,_,m,n,o,p,q,r,s,a,b,d,e,f,g,h,i,j,k,l,_,_,_,_,_,_,_,_)=>zaM N m n o p q r s a b d e f g h i j k l⟩
theorem zbQ:f9 48 (od N):=og (g:=48) N (.c (gF N)<|.nil) (.nil)
def FO:bz:=⟨[.st 8,ci],[cb],λa=>qZ N a.1 a.2.1⟩
theorem FL:eP 178 (FO N):=tg [] [] [] N (.nil) (.nil)
def FZ:bz:=⟨[.c (.sl 8),ci,ci,ci],[cb],λa=>fO N a.1 a.2.1 a.2.2.1 a.2.2.2.1⟩
theorem xz:eP 134 (FZ N):=tg [] [(26,⟨[.r 13 ci],[],[],[]⟩)] [] N (.nil) (.nil)
def Fq:bz:=⟨[.c (.sl 8),ci],[cb],λa=>ny N a.1 a.2.1⟩
theorem xu:eP 110 (Fq N):=tg [] [(58,⟨[.r 12 ci],[],[],[]⟩),(3737,⟨[.r 47 cb],[],[],[]⟩)] [] N (.c (FL N)<|.c (xz N)<|.nil) (.nil)
def zg:bz:=⟨[.c (.sl 21),ci,ci],[cb],λa=>gQ N a.1 a.2.1 a.2.2.1⟩
theorem zd:eP 111 (zg N):=tg [] [(26,⟨[.r 11 ci],[],[],[]⟩),(1689,⟨[.r 36 cb],[],[],[]⟩)] [] N (.c (zeA N)<|.c (Ve N)<|.nil) (.nil)
def IZ:bz:=⟨[ci,.st 0],[.c (.sl 15),ci],λa=>vP N a.1 a.2.1⟩
theorem Ia:eP 112 (IZ N):=tg [(10,15)] [] [] N (.c (iq N)<|.nil) (.nil)
def nJ:dq:=⟨.mk [.p (.pt 0 0 3),.v ci,.v ci,.v (.c (.sl 6)),.v (.st 0)] [] [.cells [xi,.hd 1,.hd 2],.row 2,.row 16] [] [] [],[.mk [.v ci] [.h 0 2 (.hd 2),.w 2 16] [] [(20,16)] [(58,⟨[.r 23 ci,.w 4 16],[(11,4)],[],[]⟩),(122,⟨[.r 62 ci,.w 2 16],[],[],[(0,2,2)]⟩)] []],λ(_,a,b,d,e,f,_)=>za8 N a b d e f⟩
theorem mH:f9 113 (nJ N):=og (g:=113) N (.c (kZ N)<|.c (pc N)<|.nil) (.nil)
end Go.Abs
end
end
section
set_option maxRecDepth 100000
noncomputable section
namespace Go.Abs
open Go.Proofs
variable[Gl](N:Nat)
def zY:dq:=⟨.mk [.v (.st 10),.v ci,.p (.hd 0),.v (.c (.sl 8))] [] [.row 21] [] [] [],[.mk [.p (.k (.c (.lit (.pointer none)))),.v ci] [] [] [(69,2),(96,16)] [(6,⟨[.r 51 cb],[],[],[]⟩),(122,⟨[.r 58 ci,.w 3 2],[],[(1050625,2)],[(2,1,3)]⟩),(250,⟨[.r 77 ci,.w 4 16],[],[(1050626,16)],[(2,2,4)]⟩),(506,⟨[.r 103 ci,.w 4 16],[],[],[(2,2,4)]⟩),(1018,⟨[.r 122 ci,.w 4 16],[],[],[(2,2,4)]⟩),(8147,⟨[.w 4 16],[],[],[(2,2,4)]⟩)] [(4247912563,[.mk [.v ci] [.h 2 2 (.hd 4),.w 4 16] [] [(1000000,0)] [] []])],.mk [.p (.pt 1 0 3),.p (.k (.c (.lit (.int .i64 0))))] [] [.cells [xi,xl 2,.hd 2],.row 16] [] [] []],λ(a,b,d,e)=>zex N a b d e⟩
theorem zJ:f9 47 (zY N):=og (g:=47) N (.c (zc2 N)<|.c (Ia N)<|.c (pc N)<|.c (ZF N)<|.c (xu N)<|.c (zd N)<|.nil) (.c (mH N)<|.nil)
def rW:dq:=⟨.mk [.p (.pt 0 0 27)] [] [.cells [.pt 1 0 2,.pt 2 0 2,xl 0,xl 2,xl 3,xi,xi,xi,xi,xi,xi,xi,xi,xi,xi,xi,xi,xi,xi,xi,xi,xi,xi,xl 8,xl 1,.hd 3,xi],.cells [xi,.hd 4],.cells [xl 0,.mr 5],.row 1,.row 5,.mp 7 true] [] [] [],[.mk [.p (.k (.c (.lit (.pointer none)))),.v ci] [] [] [(17,21),(40,21)] [(250,⟨[.r 21 ci,.w 7 21],[(5,7)],[],[]⟩)] [(917517,[.mk [.v (.st 20)] [] [] [(1000000,0)] [] []]),(8257580,[.mk [.v (.st 10)] [] [] [(1000000,2)] [] []]),(8257586,[.mk [.p (.k (.c (.lit (.pointer none)))),.v ci] [] [] [(1000000,3)] [] [],.mk [.p (.pt 8 0 3),.p (.k (.c (.lit (.int .i64 0))))] [] [.cells [xi,xl 2,.hd 9],.row 16] [] [] []]),(2100428829,[.mk [.v (.st 5),.v cb] [] [] [(1000000,1)] [] []])],.mk [.p (.pt 6 0 3),.p (.k (.c (.lit (.int .i64 0))))] [] [.cells [xi,xl 2,.hd 7],.row 16] [] [] []],λ(s,t,u,v,w,x,y,z,A,E,a,b,d,e,f,g,h,i,j,k,l,m,n,o,p,q,r,_,_)=>zdn N s t u v w x y z A E a b d e f g h i j k l m n o p q r⟩
theorem qW:f9 12 (rW N):=og (g:=12) N (.c (IG N)<|.nil) (.c (zbI N)<|.c (pC N)<|.c (zbQ N)<|.c (zJ N)<|.nil)
def rS:dq:=⟨.mk [.p (.pt 0 0 27)] [] [.cells [.pt 1 0 2,.pt 2 0 2,xl 0,xl 2,xl 3,xi,xi,xi,xi,xi,xi,xi,xi,xi,xi,xi,xi,xi,xi,xi,xi,xi,xi,xl 8,xl 1,.hd 3,xi],.cells [xi,.hd 4],.cells [xl 0,.mr 5],.row 1,.row 5,.mp 7 true] [] [] [],[.mk [.ag [.k (.c (.lit (.pointer none))),.pt 0 0 27],.v ci] [] [] [] [] [(393224,[.mk [.p (.k (.c (.lit (.pointer none)))),.v ci] [] [] [(1000000,0)] [] [],.mk [.p (.pt 7 0 3),.p (.k (.c (.lit (.int .i64 0))))] [] [.cells [xi,xl 2,.hd 8],.row 16] [] [] []])],.mk [.ag [.pt 6 0 3,.pt 0 0 27],.p (.k (.c (.lit (.int .i64 0))))] [] [.cells [xi,xl 2,.hd 7],.row 16] [] [] []],λ(s,t,u,v,w,x,y,z,A,E,a,b,d,e,f,g,h,i,j,k,l,m,n,o,p,q,r,_,_)=>zeY N s t u v w x y z A E a b d e f g h i j k l m n o p q r⟩
theorem qP:f9 58 (rS N):=og (g:=58) N (.nil) (.c (qW N)<|.nil)
def Je:bz:=⟨[ci,.c (.sl 5)],[.st 5,cb],λa=>vY N a.1 a.2.1⟩
theorem Is:eP 207 (Je N):=tg [] [(26,⟨[.r 9 ci],[],[],[]⟩)] [] N (.nil) (.nil)
def Nl:bz:=⟨[.st 4,.st 5],[cb],λa=>Dm N a.1 a.2.1⟩
theorem Nn:eP 208 (Nl N):=tg [] [] [] N (.c (iw N)<|.nil) (.nil)
def Kz:bz:=⟨[.st 5,.c (.sl 5)],[cb],λa=>pU N a.1 a.2.1⟩
theorem Ks:eP 152 (Kz N):=tg [] [(26,⟨[.r 12 ci],[],[],[]⟩),(3379,⟨[.r 30 cb],[],[],[]⟩)] [] N (.c (Is N)<|.c (Nn N)<|.nil) (.nil)
def A_:bz:=⟨[.c (.sl 5)],[.c (.sl 5)],λa=>ff N a.1⟩
theorem qj:WT Tryz.prog 151 (A_ N):=able_ok (i:=5) (gm:=152) (so:=10) (ti:=3) (tb:=4) (z:=[.c (.lit (.int .i64 0)),.c (.lit (.int .i64 0)),.c (.lit (.int .i64 0)),.c (.lit (.int .i64 0)),.c (.lit (.int .i64 0)),.c (.lit (.int .i64 0)),.c (.lit (.int .i64 0)),.c (.lit (.int .i64 0)),.c (.lit (.int .i64 0)),.c (.lit (.slice none 0 0)),.c (.lit (.int .i64 0)),.c (.lit (.bool false)),.c (.lit (.bool false)),.c (.lit (.int .i64 0)),.c (.lit (.int .i64 0)),.c (.lit (.int .i64 0)),.c (.lit (.int .i64 0)),.c (.lit (.int .i64 0))]) (fn:=Tryz.f151) (st:=λ(a:aM)=>a.State) (met:=λ(a:aM) (l:List aM)=>pU N a l) dx (by kernel_rfl) (by kernel_rfl) (Ks N) rfl (λa=>by kernel_rfl) (λx y=>by kernel_rfl) (λx=>by kernel_rfl) (λx=>by kernel_rfl) (λx=>by kernel_rfl)
def Cp:bz:=⟨[ci],[ci],λa=>iu N a.1⟩
theorem BS:eP 277 (Cp N):=tg [] [] [] N (.c (fA N)<|.nil) (.nil)
def LG:bz:=⟨[ci,ci],[ci],λa=>zH N a.1 a.2.1⟩
theorem LP:eP 278 (LG N):=tg [] [] [] N (.nil) (.nil)
def Fu:bz:=⟨[.st 10,.st 5,ci,.c (.sl 1)],[.st 11],λa=>xS N a.1 a.2.1 a.2.2.1 a.2.2.2.1⟩
theorem Fm:eP 256 (Fu N):=tg [] [(15,⟨[.r 9 ci],[],[],[]⟩),(31,⟨[.r 10 ci],[],[],[]⟩)] [] N (.c (ZF N)<|.c (LP N)<|.c (fA N)<|.c (BS N)<|.nil) (.nil)
def PO:bz:=⟨[.st 10,.st 5,ci,.c (.sl 1)],[ci],λa=>Cu N a.1 a.2.1 a.2.2.1 a.2.2.2.1⟩
theorem Po:eP 209 (PO N):=tg [] [] [] N (.c (Fm N)<|.nil) (.nil)
def Kl:bz:=⟨[.st 10,.st 5,.st 22],[.st 23],λa=>qu N a.1 a.2.1 a.2.2.1⟩
theorem KL:eP 153 (Kl N):=tg [] [] [] N (.c (Po N)<|.nil) (.nil)
def AY:bz:=⟨[ci],[cb],λa=>cmp_isNaN_int N a.1⟩
theorem AX:eP 281 (AY N):=tg [] [] [] N (.nil) (.nil)
def xT:bz:=⟨[ci,ci],[ci],λa=>fy N a.1 a.2.1⟩
theorem xK:eP 258 (xT N):=tg [] [] [] N (.c (AX N)<|.nil) (.nil)
def nM:bz:=⟨[.c (.sl 1),.c (.sl 1)],[ci],λa=>ZI N a.1 a.2.1⟩
theorem zep:eP 212 (nM N):=tg [] [(26,⟨[.r 11 ci],[],[],[]⟩)] [] N (.c (xK N)<|.nil) (.nil)
def zeU:dq:=⟨.mk [.p (.hd 0),.v ci,.v ci,.v ci,.p (.fb 211 1 1)] [] [.row 1,.cells [xl 23]] [] [] [],[.mk [] [.w 0 1] [] [] [(63,⟨[.r 20 ci,.r 21 ci],[],[],[]⟩),(172,⟨[.r 10 ci,.r 11 ci],[],[],[]⟩),(428,⟨[.r 14 ci,.r 15 ci],[],[],[]⟩),(698,⟨[.r 13 ci,.w 0 1],[(0,0)],[],[]⟩),(1020,⟨[.r 20 ci,.r 21 ci],[],[],[]⟩),(1023,⟨[.w 0 1],[(0,0)],[],[]⟩),(1722,⟨[.r 17 ci,.w 0 1],[(0,0)],[],[]⟩),(2047,⟨[.w 0 1],[(0,0)],[],[]⟩),(8186,⟨[],[(0,0)],[],[]⟩),(16378,⟨[],[(0,0)],[],[]⟩)] [(361365553,[.mk [.v ci] [] [] [(9,1),(13,1)] [] []]),(536477887,[.mk [] [.w 0 1] [] [] [(28,⟨[.r 10 ci,.r 11 ci,.w 0 1],[(0,0)],[],[]⟩),(1812,⟨[],[(0,0)],[],[]⟩),(1814,⟨[],[(0,0)],[],[]⟩)] [(983097,[.mk [] [.w 0 1] [] [] [(6,⟨[.r 10 ci,.w 0 1],[(0,0)],[],[]⟩)] []]),(118751263,[.mk [] [.w 0 1] [] [] [(6,⟨[.r 10 ci,.w 0 1],[(0,0)],[],[]⟩)] []]),(118882350,[.mk [] [.w 0 1] [] [] [(6,⟨[.r 10 ci,.w 0 1],[(0,0)],[],[]⟩)] []])]]),(898236517,[.mk [.v ci] [] [] [(9,1),(13,1)] [] []]),(1073348813,[.mk [] [.w 0 1] [] [(1000000,0)] [] []]),(1073610971,[.mk [] [.w 0 1] [] [(1000000,0)] [] []]),(2139750569,[.mk [.v ci] [] [] [(9,1),(13,1)] [] []])]],λ(a,b,d,e,f)=>za6 N a b d e f⟩
theorem zct:∀N:Nat,f9 280 (zeU N)
 |0=>⟨by kernel_rfl,λx y a b d z e f h=>by cases h⟩
 |N+1=>og (g:=280) N (.c (zep N)<|.nil) (.c (zct N)<|.nil)
def wz:bz:=⟨[.c (.sl 23)],[.c (.sl 1)],λa=>zeI N a.1⟩
theorem wY:eP 154 (wz N):=tg [(7,1)] [(30,⟨[],[(3,0)],[],[]⟩),(58,⟨[.r 10 ci,.w 1 1],[(3,1)],[],[]⟩)] [(1966100,[.mk [] [.w 1 1] [] [] [] [(65544,[.mk [] [.w 1 1] [] [] [(28,⟨[.r 7 ci,.r 8 ci,.w 1 1],[(0,1)],[],[]⟩),(30,⟨[],[(0,0)],[],[]⟩),(62,⟨[.r 6 ci,.w 1 1],[(0,1)],[],[]⟩),(452,⟨[],[(0,0)],[],[]⟩),(1995,⟨[.w 1 1],[(0,1)],[],[]⟩),(3988,⟨[.r 7 ci,.r 8 ci,.w 1 1],[(0,1)],[],[]⟩),(31926,⟨[],[(0,0)],[],[]⟩),(63812,⟨[],[(0,0)],[],[]⟩)] [(1966107,[.mk [] [.w 1 1] [] [] [(6,⟨[.r 8 ci,.w 1 1],[(0,1)],[],[]⟩),(402,⟨[.r 9 ci,.w 1 1],[(0,1)],[],[]⟩),(1608,⟨[.r 34 cb],[],[],[]⟩)] [(210763808,[.mk [.v ci] [] [] [(9,1),(13,1)] [] []])]]),(29622290,[.mk [] [.w 1 1] [] [] [(6,⟨[.r 8 ci,.w 1 1],[(0,1)],[],[]⟩),(402,⟨[.r 9 ci,.w 1 1],[(0,1)],[],[]⟩),(1608,⟨[.r 34 cb],[],[],[]⟩)] [(210763808,[.mk [.v ci] [] [] [(9,1),(13,1)] [] []])]]),(2092302396,[.mk [] [.w 1 1] [] [(1000000,0)] [] []]),(4181983275,[.mk [] [.w 1 1] [] [(1000000,0)] [] []])]])]])] N (.c (zep N)<|.nil) (.c (zct N)<|.nil)
def wV:dq:=⟨.mk [.v (.st 10),.p (.hd 0),.v (.st 22)] [] [.row 5] [] [] [],[.mk [.v (.c (.sl 5))] [] [] [(19,23),(37,5),(55,5)] [(122,⟨[.r 22 ci,.w 3 23],[(7,3)],[],[]⟩),(252,⟨[],[],[(7,23)],[]⟩),(506,⟨[.r 41 ci,.w 4 5],[(10,4)],[],[]⟩)] []],λ(a,b,d)=>zeS N a b d⟩
theorem wW:f9 84 (wV N):=og (g:=84) N (.c (ZF N)<|.c (KL N)<|.c (wY N)<|.c (zbE N)<|.nil) (.nil)
def tU:dq:=⟨.mk [.p (.pt 0 0 27)] [] [.cells [.pt 1 0 2,.pt 2 0 2,xl 0,xl 2,xl 3,xi,xi,xi,xi,xi,xi,xi,xi,xi,xi,xi,xi,xi,xi,xi,xi,xi,xi,xl 8,xl 1,.hd 3,xi],.cells [xi,.hd 4],.cells [xl 0,.mr 5],.row 1,.row 5,.mp 7 true] [] [] [],[.mk [.v (.c (.sl 5))] [] [] [(16,5)] [(250,⟨[.w 9 5],[],[(1055744,5)],[(7,0,9)]⟩)] [(917513,[.mk [.v (.st 20)] [] [] [(1000000,0)] [] []]),(8126476,[.mk [] [] [] [(1000002,0)] [] []]),(8257555,[.mk [.v (.st 10)] [] [] [(1000000,1)] [] []]),(8257562,[.mk [.v (.c (.sl 5))] [] [] [(1000000,2)] [] []])]],λ(s,t,u,v,w,x,y,z,A,E,a,b,d,e,f,g,h,i,j,k,l,m,n,o,p,q,r,_,_)=>zbo N s t u v w x y z A E a b d e f g h i j k l m n o p q r⟩
theorem jR:f9 28 (tU N):=og (g:=28) N (.it (qj N)<|.nil) (.c (zbI N)<|.c (zbQ N)<|.c (wW N)<|.nil)
def Dx:bz:=⟨[.st 10,ci],[cb],λa=>uk N a.1 a.2.1⟩
theorem Db:eP 156 (Dx N):=tg [] [] [] N (.c (ZF N)<|.nil) (.nil)
def BV:bz:=⟨[.c (.sl 5),ci],[ci],λa=>lw N a.1 a.2.1⟩
theorem Cf:eP 157 (BV N):=tg [] [] [(393223,[.mk [.v ci] [] [] [] [(58,⟨[.r 5 ci,.r 10 ci],[],[],[]⟩),(467,⟨[.r 5 ci],[],[],[]⟩)] [(489816080,[.mk [.v cb] [] [] [] [] []])]])] N (.c (kh N)<|.nil) (.nil)
def MK:bz:=⟨[.c (.sl 5),ci,ci],[ci],λa=>zE N a.1 a.2.1 a.2.2.1⟩
theorem Kh:eP 158 (MK N):=tg [] [] [(393225,[.mk [.v ci] [] [] [] [(58,⟨[.r 5 ci,.r 10 ci],[],[],[]⟩),(467,⟨[.r 5 ci],[],[],[]⟩)] [(489816080,[.mk [.v cb] [] [] [] [] []])]])] N (.c (kh N)<|.nil) (.nil)
def Jl:bz:=⟨[.st 10,.c (.sl 5),.st 5],[cb],λa=>lX N a.1 a.2.1 a.2.2.1⟩
theorem II:eP 85 (Jl N):=tg [] [] [] N (.c (Db N)<|.c (Cf N)<|.c (Kh N)<|.nil) (.nil)
def xJ:dq:=⟨.mk [.p (.pt 0 0 27),.v ci] [] [.cells [.pt 1 0 2,.pt 2 0 2,xl 0,xl 2,xl 3,xi,xi,xi,xi,xi,xi,xi,xi,xi,xi,xi,xi,xi,xi,xi,xi,xi,xi,xl 8,xl 1,.hd 3,xi],.cells [xi,.hd 4],.cells [xl 0,.mr 5],.row 1,.row 5,.mp 7 true] [] [] [],[.mk [.v cb] [] [] [] [(122,⟨[],[],[],[]⟩)] [(917514,[.mk [.v (.st 20)] [] [] [(1000000,0)] [] []]),(3932173,[.mk [] [] [] [(1000002,0)] [] []]),(257163284,[.mk [.v (.st 10)] [] [] [(1000000,1)] [] []])]],λ(t,u,v,w,x,y,z,A,E,F,a,b,d,e,f,g,h,i,j,k,l,m,n,o,p,q,r,s,_,_)=>zcq N t u v w x y z A E F a b d e f g h i j k l m n o p q r s⟩
theorem mo:f9 29 (xJ N):=og (g:=29) N (.it (qj N)<|.c (II N)<|.nil) (.c (zbI N)<|.c (zbQ N)<|.nil)
def pH:dq:=⟨.mk [.p (.pt 0 0 27),.p (.k (.c (.lit (.pointer none)))),.v (.st 5)] [] [.cells [.pt 1 0 2,.pt 2 0 2,xl 0,xl 2,xl 3,xi,xi,xi,xi,xi,xi,xi,xi,xi,xi,xi,xi,xi,xi,xi,xi,xi,xi,xl 8,xl 1,.hd 3,xi],.cells [xi,.hd 4],.cells [xl 0,.mr 5],.row 1,.row 5,.mp 7 true] [] [] [],[.mk [.v (.st 14),.v cb] [] [] [] [] []],λx=>zev N⟩
theorem po:f9 13 (pH N):=og (g:=13) N (.nil) (.nil)
def iW:dq:=⟨.mk [.ag [.k (.c (.lit (.pointer none))),.pt 0 0 27],.v (.st 5)] [] [.cells [.pt 1 0 2,.pt 2 0 2,xl 0,xl 2,xl 3,xi,xi,xi,xi,xi,xi,xi,xi,xi,xi,xi,xi,xi,xi,xi,xi,xi,xi,xl 8,xl 1,.hd 3,xi],.cells [xi,.hd 4],.cells [xl 0,.mr 5],.row 1,.row 5,.mp 7 true] [] [] [],[.mk [.v (.st 18),.v cb] [] [] [] [] [(393231,[.mk [.v (.st 14),.v cb] [] [] [(1000000,0)] [] []]),(4063271,[.mk [.v ci] [] [] [(1000000,1)] [] []])]],λ(_,_,_,a,_,_,_,_,_,_,_,_,_,_,_,_,_,_,_,_,_,_,_,_,_,_,_,_,_,_)=>zbG N a⟩
theorem jq:f9 59 (iW N):=og (g:=59) N (.nil) (.c (po N)<|.c (zes N)<|.nil)
def jS:dq:=⟨.mk [.p (.pt 0 0 2),.v (.st 7),.p (.k (.c (.fn (.func 172) [] [])))] [] [.cells [xl 0,.mr 1],.mp 7 true] [] [] [],[.mk [.v (.c (.sl 0)),.v ci] [] [] [] [(58,⟨[.r 21 ci,.w 3 0],[(8,3)],[],[]⟩)] [(393233,[.mk [.p (.hd 3)] [] [.row 0] [(1000000,0)] [] []])]],λ(_,a,b)=>zbH N a b⟩
theorem kf:f9 171 (jS N):=og (g:=171) N (.c (kZ N)<|.c (xY N)<|.nil) (.c (zcl N)<|.nil)
def lj:dq:=⟨.mk [.p (.pt 0 0 2),.v (.st 7)] [] [.cells [xl 0,.mr 1],.mp 7 true] [] [] [],[.mk [.v ci] [.h 0 0 (xl 0),.m 1 7 true] [] [] [(14,⟨[.r 41 cb],[],[],[]⟩)] [(4063288,[.mk [.v (.c (.sl 0)),.v ci] [] [] [(1000000,0)] [] []])]],λ(a,b,d)=>zaO N a b d⟩
theorem zcu:f9 101 (lj N):=og (g:=101) N (.c (xo N)<|.c (zeA N)<|.c (Ve N)<|.nil) (.c (kf N)<|.nil)
def mC:dq:=⟨.mk [.p (.pt 0 0 27),.v ci,.v (.c (.sl 6))] [] [.cells [.pt 1 0 2,.pt 2 0 2,xl 0,xl 2,xl 3,xi,xi,xi,xi,xi,xi,xi,xi,xi,xi,xi,xi,xi,xi,xi,xi,xi,xi,xl 8,xl 1,.hd 3,xi],.cells [xi,.hd 4],.cells [xl 0,.mr 5],.row 1,.row 5,.mp 7 true] [] [] [],[.mk [.v ci] [.h 2 0 (xl 0),.m 5 7 true,.h 0 25 (.hd 3),.h 0 26 (xi),.h 1 1 (.hd 4),.w 3 1,.w 4 5] [] [] [] [(917524,[.mk [.v (.st 5),.v cb] [] [] [(1000000,0)] [] []]),(133955641,[.mk [.v ci] [.h 2 0 (xl 0),.m 5 7 true] [] [(1000000,1)] [] []]),(268304458,[.mk [.v ci] [.h 1 1 (.hd 4),.w 4 5,.h 0 25 (.hd 3),.w 3 1] [] [(1000000,2)] [] []])]],λ(r,s,t,u,v,w,x,y,z,A,a,b,d,e,f,g,h,i,j,k,l,m,n,o,_,_,_,_,p,_,q)=>zbr N r s t u v w x y z A a b d e f g h i j k l m n o p q⟩
theorem mX:f9 57 (mC N):=og (g:=57) N (.c (nl N)<|.c (BA N)<|.c (mV N)<|.nil) (.c (zc8 N)<|.c (zcu N)<|.c (zdT N)<|.nil)
def nF:dq:=⟨.mk [.p (.hd 0)] [] [.row 1] [] [] [],[.mk [] [.w 0 1] [] [] [] []],λx=>zcg N x⟩
theorem nj:f9 182 (nF N):=sort_oo (ii:=1) Tryz.sortsI (d:=λk=>k) (c:=λk=>k) (λa=>rfl) (λk=>rfl) (by kernel_rfl)
def kg:dq:=⟨.mk [.p (.hd 0)] [] [.row 1] [] [] [],[.mk [.p (.hd 1)] [.w 0 1] [.row 1] [] [] []],λx=>zbK N x⟩
theorem jM:f9 183 (kg N):=Ot (ii:=1) Tryz.SD (d:=λk=>k) (c:=λk=>k) (λa=>rfl) (λk=>rfl) (by kernel_rfl)
def JI:bz:=⟨[.st 0,.st 0],[.st 0],λa=>AZ N a.1 a.2.1⟩
theorem JJ:eP 236 (JI N):=tg [] [] [] N (.nil) (.nil)
def DA:bz:=⟨[.c (.sl 15),ci,ci],[.st 0],λa=>oC N a.1 a.2.1 a.2.2.1⟩
theorem Ex:eP 184 (DA N):=tg [] [(6,⟨[.r 26 cb],[],[],[]⟩),(31,⟨[.h 1 0 (.int .i64),.h 1 1 (.int .i64),.h 1 2 (.int .i64),.h 1 3 (.int .i64)],[],[],[]⟩),(250,⟨[.r 41 ci,.h 1 0 (.int .i64),.h 1 1 (.int .i64),.h 1 2 (.int .i64),.h 1 3 (.int .i64)],[],[],[]⟩)] [] N (.c (zcP N)<|.c (JJ N)<|.c (iq N)<|.nil) (.nil)
def IL:bz:=⟨[.st 0,.st 0],[ci],λa=>lZ N a.1 a.2.1⟩
theorem zM:eP 254 (IL N):=tg [] [(6,⟨[.r 21 cb],[],[],[]⟩),(250,⟨[.r 5 ci,.r 26 ci],[],[],[]⟩),(2003,⟨[.r 5 ci],[],[],[]⟩)] [] N (.c (vg N)<|.c (Ve N)<|.nil) (.nil)
def Iq:bz:=⟨[.c (.sl 0),ci,.st 0],[ci],λa=>qi N a.1 a.2.1 a.2.2.1⟩
theorem zL:eP 238 (Iq N):=tg [] [] [] N (.c (zM N)<|.nil) (.nil)
def Fj:bz:=⟨[.c (.sl 0),.c (.sl 1),.st 0],[ci],λa=>ru N a.1 a.2.1 a.2.2.1⟩
theorem FI:eP 237 (Fj N):=tg [] [(58,⟨[.r 7 ci,.r 12 ci],[],[],[]⟩)] [] N (.c (zL N)<|.nil) (.nil)
def tW:dq:=⟨.mk [.p (.hd 0),.v (.c (.sl 1)),.v ci,.v (.st 0)] [] [.row 0] [] [] [],[.mk [.v (.c (.sl 6)),.v cb] [] [] [(48,6)] [(12,⟨[.r 24 cb],[],[],[]⟩),(111,⟨[.w 2 6],[(10,2)],[(10,6)],[]⟩),(890,⟨[.r 11 ci,.r 28 ci,.w 2 6],[(10,2)],[],[]⟩),(7123,⟨[.r 11 ci,.w 2 6],[(10,2)],[],[]⟩)] []],λ(a,b,d,e)=>zd8 N a b d e⟩
theorem uq:f9 185 (tW N):=og (g:=185) N (.c (zL N)<|.c (FI N)<|.nil) (.nil)
def k_:dq:=⟨.mk [.p (.pt 0 0 3),.v ci] [] [.cells [xi,xl 2,.hd 1],.row 16] [] [] [],[.mk [.v (.c (.sl 1))] [] [] [(52,1)] [(62,⟨[],[(5,0)],[],[]⟩),(122,⟨[.r 33 ci,.w 2 1],[(5,2)],[(5,1)],[]⟩),(31334,⟨[.r 45 ci,.w 2 1],[(5,2)],[],[]⟩)] [(4063289,[.mk [] [.w 2 1] [] [(1000000,0)] [] []]),(8257595,[.mk [.p (.hd 3)] [.w 2 1] [.row 1] [(1000000,1)] [] []])]],λ(a,b,_,d)=>zbY N a b d⟩
theorem lH:f9 115 (k_ N):=og (g:=115) N (.nil) (.c (nj N)<|.c (jM N)<|.nil)
def mA:dq:=⟨.mk [.p (.pt 0 0 3),.v ci,.v ci,.v (.st 0),.v ci,.v ci] [] [.cells [xi,xl 2,.hd 1],.row 16] [] [] [],[.mk [.v (.c (.sl 6)),.v cb] [] [] [(57,0)] [(122,⟨[.r 66 ci,.w 3 0],[(14,3)],[],[]⟩)] [(4063328,[.mk [.v (.c (.sl 6)),.v cb] [] [] [(1000000,0)] [] []])]],λ(a,b,d,e,f,g,h,i)=>zaJ N a b d e f g h i⟩
theorem mg:f9 116 (mA N):=og (g:=116) N (.c (Ex N)<|.nil) (.c (uq N)<|.nil)
end Go.Abs
end
end
section
set_option maxRecDepth 100000
noncomputable section
namespace Go.Abs
open Go.Proofs
variable[Gl](N:Nat)
def iX:dq:=⟨.mk [.p (.pt 0 0 3),.v ci,.v ci,.v (.st 0),.v ci] [] [.cells [xi,xl 2,.hd 1],.row 16] [] [] [],[.mk [.v (.st 14),.v cb] [] [] [] [(3,⟨[.r 12 (.c (.sl 1)),.r 13 ci],[],[],[]⟩)] [(786450,[.mk [.v (.c (.sl 1))] [] [] [(1000000,0)] [] []]),(8126498,[.mk [.v (.c (.sl 6)),.v cb] [] [] [(1000000,1)] [] []]),(29098018,[.mk [.v (.c (.sl 6)),.v cb] [] [] [(1000000,1)] [] []])]],λ(a,b,d,e,f,g,h)=>zaQ N a b d e f g h⟩
theorem jp:f9 49 (iX N):=og (g:=49) N (.nil) (.c (lH N)<|.c (mg N)<|.nil)
def qF:dq:=⟨.mk [.p (.pt 0 0 27),.p (.pt 1 0 3),.v (.st 5)] [] [.cells [.pt 2 0 2,.pt 3 0 2,xl 0,xl 2,xl 3,xi,xi,xi,xi,xi,xi,xi,xi,xi,xi,xi,xi,xi,xi,xi,xi,xi,xi,xl 8,xl 1,.hd 4,xi],.cells [xi,xl 2,.hd 5],.cells [xi,.hd 6],.cells [xl 0,.mr 7],.row 1,.row 16,.row 5,.mp 7 true] [] [] [],[.mk [.v (.st 14),.v cb] [] [] [] [] [(917523,[.mk [.v (.st 10)] [] [] [(1000000,0)] [] []]),(4063279,[.mk [.v (.st 14),.v cb] [] [] [(1000000,1)] [] []])]],λ(_,q,_,_,r,s,t,u,v,w,a,b,d,e,f,g,h,i,j,k,l,m,n,_,_,_,_,_,_,o,p,_,_)=>zbw N q r s t u v w a b d e f g h i j k l m n o p⟩
theorem pX:f9 13 (qF N):=og (g:=13) N (.nil) (.c (zbQ N)<|.c (jp N)<|.nil)
def lR:dq:=⟨.mk [.p (.pt 0 0 3),.v ci,.v ci,.v (.c (.sl 6)),.v (.st 0)] [] [.cells [xi,xl 2,.hd 1],.row 16] [] [] [],[.mk [.v ci] [.h 0 2 (.hd 1),.w 1 16] [] [(20,16)] [(58,⟨[.r 23 ci,.w 3 16],[(11,3)],[],[]⟩),(122,⟨[.r 62 ci,.w 1 16],[],[],[(0,2,1)]⟩)] []],λ(a,b,d,e,f,_,_)=>za8 N a b d e f⟩
theorem lh:f9 113 (lR N):=og (g:=113) N (.c (kZ N)<|.c (pc N)<|.nil) (.nil)
def nI:dq:=⟨.mk [.p (.pt 0 0 3),.v ci,.v (.c (.sl 6)),.v (.st 0),.v ci] [] [.cells [xi,xl 2,.hd 1],.row 16] [] [] [],[.mk [.v ci] [.h 0 2 (.hd 1),.w 1 16] [] [] [(14,⟨[.r 45 cb],[],[],[]⟩)] [(1966133,[.mk [.v ci] [.h 0 2 (.hd 1),.w 1 16] [] [(1000000,0)] [] []])]],λ(a,b,d,e,f,g,_)=>zcd N a b d e f g⟩
theorem mj:f9 127 (nI N):=og (g:=127) N (.c (zeA N)<|.c (Ve N)<|.nil) (.c (lh N)<|.nil)
def jH:dq:=⟨.mk [.ag [.pt 0 0 3,.pt 1 0 27],.v (.st 5)] [] [.cells [xi,xl 2,.hd 2],.cells [.pt 3 0 2,.pt 4 0 2,xl 0,xl 2,xl 3,xi,xi,xi,xi,xi,xi,xi,xi,xi,xi,xi,xi,xi,xi,xi,xi,xi,xi,xl 8,xl 1,.hd 5,xi],.row 16,.cells [xi,.hd 6],.cells [xl 0,.mr 7],.row 1,.row 5,.mp 7 true] [] [] [],[.mk [.v (.st 18),.v cb] [.h 0 2 (.hd 2),.w 2 16] [] [] [] [(393231,[.mk [.v (.st 14),.v cb] [] [] [(1000000,0)] [] []]),(4063271,[.mk [.v ci] [.h 0 2 (.hd 2),.w 2 16] [] [(1000000,1)] [] []])]],λ(q,_,_,_,r,s,t,u,v,w,a,b,d,e,f,g,h,i,j,k,l,m,n,o,p,_,_,_,_,_,_,_,_)=>zbd N q r s t u v w a b d e f g h i j k l m n o p⟩
theorem jC:f9 59 (jH N):=og (g:=59) N (.nil) (.c (pX N)<|.c (mj N)<|.nil)
def nS:dq:=⟨.mk [.p (.pt 0 0 3)] [] [.cells [xi,xl 2,.hd 1],.row 16] [] [] [],[.mk [.v ci] [] [] [] [] []],λ(_,a,_)=>zdA N a⟩
theorem nY:f9 60 (nS N):=og (g:=60) N (.nil) (.nil)
def sR:dq:=⟨.mk [.p (.pt 0 0 27)] [] [.cells [.pt 1 0 2,.pt 2 0 2,xl 0,xl 2,xl 3,xi,xi,xi,xi,xi,xi,xi,xi,xi,xi,xi,xi,xi,xi,xi,xi,xi,xi,xl 8,xl 1,.hd 3,xi],.cells [xi,.hd 4],.cells [xl 0,.mr 5],.row 1,.row 5,.mp 7 true] [] [] [],[.mk [.v (.st 19),.v ci] [.h 0 25 (.hd 3),.h 0 26 (xi),.h 1 1 (.hd 4),.h 2 0 (xl 0),.w 3 1,.w 4 5,.m 5 7 true] [] [(53,14),(70,14)] [(250,⟨[.r 23 ci,.h 0 26 (.int .i64),.h 2 0 (.sl 0),.w 3 1,.w 4 5,.m 5 7 true,.w 9 14,.w 10 14],[],[(1056769,14),(1056768,14)],[(0,25,3),(1,1,4),(8,0,10),(8,1,9)]⟩),(2003,⟨[.h 0 26 (.int .i64),.h 2 0 (.sl 0),.w 3 1,.w 4 5,.m 5 7 true,.w 9 14,.w 10 14],[],[],[(0,25,3),(1,1,4),(8,0,10),(8,1,9)]⟩),(13194139533562,⟨[.r 23 ci,.h 0 26 (.int .i64),.h 2 0 (.sl 0),.w 3 1,.w 4 5,.m 5 7 true,.w 8 16,.w 11 14,.w 12 14],[],[(1058817,14),(1058816,14)],[(0,25,3),(1,1,4),(7,2,8),(10,0,12),(10,1,11)]⟩),(15393162790867,⟨[.h 0 26 (.int .i64),.h 2 0 (.sl 0),.w 3 1,.w 4 5,.m 5 7 true,.w 8 16,.w 11 14,.w 12 14],[],[],[(0,25,3),(1,1,4),(7,2,8),(10,0,12),(10,1,11)]⟩)] [(393229,[.mk [.ag [.k (.c (.lit (.pointer none))),.pt 0 0 27],.v ci] [] [] [(1000000,0)] [] [],.mk [.ag [.pt 7 0 3,.pt 0 0 27],.p (.k (.c (.lit (.int .i64 0))))] [] [.cells [xi,xl 2,.hd 8],.row 16] [] [] []]),(8126485,[.mk [.v (.c (.sl 5))] [] [] [(1000000,1)] [] []]),(4200857630,[.mk [.v cb] [] [] [(1000000,2)] [] []]),(4200988707,[.mk [.v (.st 18),.v cb] [] [] [(1000000,3)] [] []]),(67217260591,[.mk [.v ci] [] [] [(1000000,4)] [] []]),(268869435456,[.mk [.v ci] [.h 2 0 (xl 0),.m 5 7 true,.h 0 25 (.hd 3),.h 0 26 (xi),.h 1 1 (.hd 4),.w 3 1,.w 4 5] [] [(1000000,5)] [] []]),(16496875405347,[.mk [.v (.st 18),.v cb] [.h 7 2 (.hd 8),.w 8 16] [] [(1000000,6)] [] []]),(17659403305007,[.mk [.v ci] [] [] [(1000000,7)] [] []])]],λ(t,u,v,w,x,y,z,A,E,F,a,b,d,e,f,g,h,i,j,k,l,m,n,o,p,q,r,_,s)=>zbs N t u v w x y z A E F a b d e f g h i j k l m n o p q r s⟩
theorem iN:f9 20 (sR N):=og (g:=20) N (.nil) (.c (qP N)<|.c (jR N)<|.c (mo N)<|.c (jq N)<|.c (zew N)<|.c (mX N)<|.c (jC N)<|.c (nY N)<|.nil)
def sF:bz:=⟨[],[cb],λa=>fL N⟩
theorem sy:eP 19 (sF N):=tg [(14,6)] [] [(393223,[.mk [.p (.k (.c (.lit (.pointer none)))),.p (.k (.c (.lit (.int .i64 2))))] [] [] [(1000000,0)] [] [],.mk [.p (.pt 0 0 27),.p (.k (.c (.lit (.int .i64 0))))] [] [.cells [.pt 1 0 2,.pt 2 0 2,xl 0,xl 2,xl 3,xi,xi,xi,xi,xi,xi,xi,xi,xi,xi,xi,xi,xi,xi,xi,xi,xi,xi,xl 8,xl 1,.hd 3,xi],.cells [xi,.hd 4],.cells [xl 0,.mr 5],.row 1,.row 5,.mp 7 true] [] [] []]),(917515,[.mk [] [] [] [(1000000,1)] [] []]),(1966095,[.mk [.v ci] [] [] [(1000000,2)] [] []]),(4063249,[.mk [] [] [] [(1000000,1)] [] []]),(8257555,[.mk [] [] [] [(1000000,1)] [] []]),(16646166,[.mk [.v (.st 19),.v ci] [] [] [(1000000,3)] [] []]),(7696582311947,[.mk [] [.h 0 21 (xi),.h 0 25 (.hd 3),.h 1 1 (.hd 4),.w 3 1,.w 4 5] [] [(1000000,4)] [] []]),(8796094988303,[.mk [.v ci] [.h 2 0 (xl 0),.m 5 7 true,.h 0 25 (.hd 3),.h 0 26 (xi),.h 1 1 (.hd 4),.w 3 1,.w 4 5] [] [(1000000,5)] [] []]),(8796097085457,[.mk [] [.h 0 21 (xi),.h 0 25 (.hd 3),.h 1 1 (.hd 4),.w 3 1,.w 4 5] [] [(1000000,4)] [] []]),(8796101279763,[.mk [] [.h 0 21 (xi),.h 0 25 (.hd 3),.h 1 1 (.hd 4),.w 3 1,.w 4 5] [] [(1000000,4)] [] []]),(8796109668374,[.mk [.v (.st 19),.v ci] [.h 0 25 (.hd 3),.h 0 26 (xi),.h 1 1 (.hd 4),.h 2 0 (xl 0),.w 3 1,.w 4 5,.m 5 7 true] [] [(1000000,6)] [] []])] N (.c (tB N)<|.nil) (.c (yC N)<|.c (nX N)<|.c (nO N)<|.c (th N)<|.c (nU N)<|.c (mB N)<|.c (iN N)<|.nil)
def wB:bz:=⟨[.st 10],[cb],λa=>zeJ N a.1⟩
theorem wD:eP 41 (wB N):=tg [] [(58,⟨[.r 26 ci],[],[],[]⟩),(122,⟨[.r 37 ci],[],[],[]⟩)] [] N (.nil) (.nil)
def wL:bz:=⟨[.c (.sl 5)],[cb],λa=>zeR N a.1⟩
theorem wP:eP 42 (wL N):=tg [] [(58,⟨[.r 10 ci],[],[],[]⟩)] [] N (.nil) (.nil)
def wC:bz:=⟨[.st 10,.st 20],[cb],λa=>zcD N a.1 a.2.1⟩
theorem w_:eP 10 (wC N):=tg [] [(6,⟨[.r 40 cb],[],[],[]⟩),(58,⟨[.r 44 ci],[],[],[]⟩)] [] N (.c (wD N)<|.c (wP N)<|.nil) (.nil)
def Ck:bz:=⟨[ci,ci,ci],[cb],λa=>zdf N a.1 a.2.1 a.2.2.1⟩
theorem sq:eP 129 (Ck N):=tg [] [] [] N (.nil) (.nil)
def AT:bz:=⟨[.st 10,.st 20],[cb],λa=>jr N a.1 a.2.1⟩
theorem AG:eP 62 (AT N):=tg [] [] [] N (.c (sq N)<|.nil) (.nil)
def Ec:bz:=⟨[ci],[ci],λa=>oR N a.1⟩
theorem Dl:eP 130 (Ec N):=tg [] [] [] N (.c (iw N)<|.nil) (.nil)
def FT:bz:=⟨[.st 10,.st 20],[cb],λa=>rH N a.1 a.2.1⟩
theorem FM:eP 63 (FT N):=tg [] [(122,⟨[.r 5 ci,.r 17 ci],[],[],[]⟩),(62671,⟨[.r 72 cb],[],[],[]⟩)] [] N (.c (ze1 N)<|.c (Dl N)<|.nil) (.nil)
def Iz:bz:=⟨[.st 10,ci,.st 0],[ci],λa=>AJ N a.1 a.2.1 a.2.2.1⟩
theorem Jo:eP 198 (Iz N):=tg [] [(122,⟨[.r 7 ci,.r 30 ci],[],[],[]⟩)] [] N (.c (ZF N)<|.c (zM N)<|.nil) (.nil)
def Jf:bz:=⟨[.st 10,ci,ci,.st 0],[cb],λa=>iZ N a.1 a.2.1 a.2.2.1 a.2.2.2.1⟩
theorem IQ:eP 132 (Jf N):=tg [] [] [] N (.c (ZF N)<|.c (Jo N)<|.nil) (.nil)
def Co:bz:=⟨[.st 5,ci],[ci],λa=>gK N a.1 a.2.1⟩
theorem Ca:eP 200 (Co N):=tg [] [] [] N (.nil) (.nil)
def zbC:bz:=⟨[.c (.sl 5),ci,.k 200],[ci,cb],λa=>zay N a.1 a.2.1⟩
theorem zbB:eP 199 (zbC N):=tg [] [(60,⟨[.r 9 ci,.r 10 ci],[],[],[]⟩)] [] N (.c (Ca N)<|.nil) (.nil)
def FX:bz:=⟨[.c (.sl 5),ci],[ci,cb],λa=>mM N a.1 a.2.1⟩
theorem xF:eP 133 (FX N):=tg [] [] [] N (.c (zbB N)<|.nil) (.nil)
def Bi:bz:=⟨[.st 10,.st 20],[cb],λa=>jy N a.1 a.2.1⟩
theorem AM:eP 64 (Bi N):=tg [] [(26,⟨[.r 14 ci],[],[],[]⟩),(211,⟨[],[],[],[]⟩),(27038,⟨[.r 33 ci],[],[],[]⟩)] [] N (.c (iw N)<|.c (IQ N)<|.c (xF N)<|.nil) (.nil)
def vk:bz:=⟨[.st 10,.st 20],[cb],λa=>zed N a.1 a.2.1⟩
theorem vw:eP 65 (vk N):=tg [] [(250,⟨[.r 7 (.c (.sl 7)),.r 23 ci,.h 2 0 (.sl 0),.m 3 7 true],[],[],[]⟩),(2003,⟨[.r 7 (.c (.sl 7)),.h 2 0 (.sl 0),.m 3 7 true],[],[],[]⟩),(256415,⟨[.r 74 cb,.h 2 0 (.sl 0),.m 3 7 true],[],[],[]⟩)] [(393229,[.mk [.p (.k (.c (.lit (.pointer none)))),.p (.k (.c (.lit (.int .i64 2))))] [] [] [(1000000,0)] [] [],.mk [.p (.pt 2 0 2),.p (.k (.c (.lit (.int .i64 0))))] [] [.cells [xl 0,.mr 3],.mp 7 true] [] [] []]),(33608826952,[.mk [.v ci] [.h 2 0 (xl 0),.m 3 7 true] [] [(1000000,1)] [] []])] N (.c (kh N)<|.c (nl N)<|.nil) (.c (zeV N)<|.c (zcu N)<|.nil)
def zA:bz:=⟨[.st 10,.st 20],[cb],λa=>gR N a.1 a.2.1⟩
theorem yO:eP 66 (zA N):=tg [] [(58,⟨[.r 23 ci],[],[],[]⟩),(122,⟨[.r 43 ci],[],[],[]⟩),(125342,⟨[.r 60 ci],[],[],[]⟩)] [] N (.c (xu N)<|.c (xF N)<|.c (xz N)<|.nil) (.nil)
def Dq:bz:=⟨[.c (.sl 1)],[cb],λa=>oE N a.1⟩
theorem Ei:eP 135 (Dq N):=tg [] [(26,⟨[.r 7 ci],[],[],[]⟩)] [] N (.nil) (.nil)
def Eg:bz:=⟨[.st 10,.st 20],[cb],λa=>oH N a.1 a.2.1⟩
theorem Eu:eP 67 (Eg N):=tg [] [(6,⟨[.r 18 cb],[],[],[]⟩),(14,⟨[.r 33 cb],[],[],[]⟩),(122,⟨[.r 38 ci],[],[],[]⟩)] [] N (.c (sq N)<|.c (Ei N)<|.nil) (.nil)
def Dk:bz:=⟨[.st 10,.st 20],[cb],λa=>oL N a.1 a.2.1⟩
theorem DO:eP 21 (Dk N):=tg [] [] [] N (.c (ZF N)<|.c (AG N)<|.c (FM N)<|.c (AM N)<|.c (vw N)<|.c (yO N)<|.c (Eu N)<|.nil) (.nil)
def yo:dq:=⟨.mk [.v (.st 10)] [] [] [] [] [],[.mk [.p (.k (.c (.lit (.pointer none)))),.p (.k (.c (.lit (.int .i64 2))))] [] [] [(37,1)] [] [(917517,[.mk [.p (.k (.c (.lit (.pointer none)))),.p (.k (.c (.lit (.int .i64 2))))] [] [] [(1000000,0)] [] [],.mk [.p (.pt 1 0 2),.p (.k (.c (.lit (.int .i64 0))))] [] [.cells [xi,xn]] [] [] []]),(4063253,[.mk [.p (.k (.c (.lit (.pointer none)))),.p (.k (.c (.lit (.int .i64 2))))] [] [] [(1000000,1)] [] [],.mk [.p (.pt 2 0 2),.p (.k (.c (.lit (.int .i64 0))))] [] [.cells [xl 0,.mr 3],.mp 7 true] [] [] []])],.mk [.p (.pt 0 0 27),.p (.k (.c (.lit (.int .i64 0))))] [] [.cells [.pt 1 0 2,.pt 2 0 2,xl 0,xl 2,xl 3,xi,xi,xi,xi,xi,xi,xi,xi,xi,xi,xi,xi,xi,xi,xi,xi,xi,xi,xn,xl 1,.hd 3,xi],.cells [xi,xn],.cells [xl 0,.mr 4],.row 1,.mp 7 true] [] [] []],λa=>fD N a⟩
theorem xV:f9 38 (yo N):=og (g:=38) N (.c (ZF N)<|.c (gF N)<|.c (zi N)<|.nil) (.c (nG N)<|.c (zeV N)<|.nil)
def zdc:dq:=⟨.mk [.v (.c (.sl 8))] [] [] [] [] [],[.mk [.p (.hd 0)] [] [.row 8] [] [] []],λx=>za1 N x⟩
theorem zdd:f9 70 (zdc N):=me (i:=8) (sz:=32) (z:=[.c (.lit (.int .i64 0)),.c (.lit (.int .i64 0)),.c (.lit (.int .i64 0)),.c (.lit (.int .i64 0))]) (fn:=Tryz.f70) dx (by kernel_rfl) (by kernel_rfl) (by kernel_rfl) rfl
def kF:dq:=⟨.mk [.v (.c (.sl 1))] [] [] [] [] [],[.mk [.p (.hd 0)] [] [.row 1] [] [] []],λx=>zbi N x⟩
theorem kA:f9 71 (kF N):=me (i:=1) (sz:=8) (z:=[.c (.lit (.int .i64 0))]) (fn:=Tryz.f71) dx (by kernel_rfl) (by kernel_rfl) (by kernel_rfl) rfl
def zG:dq:=⟨.mk [.v (.st 10),.v (.st 20)] [] [] [] [] [],[.mk [.p (.k (.c (.lit (.pointer none)))),.v ci] [] [] [] [(250,⟨[.r 29 ci,.w 7 5],[],[(1051649,5)],[(3,1,7)]⟩),(506,⟨[.r 46 ci,.h 4 0 (.sl 0),.m 6 7 true],[],[],[]⟩)] [(917524,[.mk [.p (.k (.c (.lit (.pointer none)))),.p (.k (.c (.lit (.int .i64 2))))] [] [] [(1000000,0)] [] [],.mk [.p (.pt 2 0 27),.p (.k (.c (.lit (.int .i64 0))))] [] [.cells [.pt 3 0 2,.pt 4 0 2,xl 0,xl 2,xl 3,xi,xi,xi,xi,xi,xi,xi,xi,xi,xi,xi,xi,xi,xi,xi,xi,xi,xi,xn,xl 1,.hd 5,xi],.cells [xi,xn],.cells [xl 0,.mr 6],.row 1,.mp 7 true] [] [] []]),(33423438,[.mk [.p (.hd 8)] [] [.row 8] [(1000000,3)] [] []]),(66977876,[.mk [.p (.hd 9)] [] [.row 1] [(1000000,4)] [] []]),(134086747,[.mk [.p (.hd 10)] [] [.row 1] [(1000000,4)] [] []]),(2100428838,[.mk [.v ci] [.h 3 1 (.hd 7),.w 7 5] [] [(1000000,1)] [] []]),(4247912503,[.mk [.v ci] [.h 4 0 (xl 0),.m 6 7 true] [] [(1000000,2)] [] []])],.mk [.p (.pt 0 0 27),.p (.k (.c (.lit (.int .i64 0))))] [] [.cells [.pt 1 0 2,.pt 2 0 2,xl 0,xl 2,xl 3,xi,xi,xi,xi,xi,xi,xi,xi,xi,xi,xi,xi,xi,xi,xi,xi,xi,xi,xl 8,xl 1,.hd 3,xi],.cells [xi,.hd 4],.cells [xl 0,.mr 5],.row 1,.row 5,.mp 7 true] [] [] []],λ(a,b)=>dz N a b⟩
theorem zS:f9 43 (zG N):=og (g:=43) N (.c (DO N)<|.nil) (.c (xV N)<|.c (ze0 N)<|.c (zcu N)<|.c (zdd N)<|.c (kA N)<|.nil)
def ym:bz:=⟨[ci,ci,ci],[cb],λa=>Al N a.1 a.2.1 a.2.2.1⟩
theorem zdH:eP 226 (ym N):=tg [] [] [] N (.nil) (.nil)
def sW:bz:=⟨[ci],[cb],λa=>zb5 N a.1⟩
theorem sV:eP 206 (sW N):=tg [] [] [] N (.nil) (.nil)
def tL:bz:=⟨[.st 0],[cb],λa=>Zu N a.1⟩
theorem zcH:eP 145 (tL N):=tg [] [] [] N (.c (sV N)<|.nil) (.nil)
def sQ:bz:=⟨[.st 10],[cb],λa=>zcM N a.1⟩
theorem tj:eP 227 (sQ N):=tg [] [(26,⟨[.r 3 ci],[],[],[]⟩)] [] N (.c (zcH N)<|.c (zdH N)<|.nil) (.nil)
def qT:bz:=⟨[.c (.sl 1),ci],[cb],λa=>zcr N a.1 a.2.1⟩
theorem hY:eP 261 (qT N):=tg [] [(26,⟨[.r 5 ci],[],[],[]⟩),(420,⟨[.r 40 cb],[],[],[]⟩)] [] N (.nil) (.nil)
def tu:bz:=⟨[.st 10],[cb],λa=>zcO N a.1⟩
theorem sO:eP 228 (tu N):=tg [] [(26,⟨[.r 3 ci],[],[],[]⟩),(420,⟨[.r 29 cb],[],[],[]⟩)] [] N (.c (hY N)<|.c (zdH N)<|.nil) (.nil)
def rP:bz:=⟨[.st 10],[cb],λa=>zcv N a.1⟩
theorem rC:eP 229 (rP N):=tg [] [(26,⟨[.r 3 ci],[],[],[]⟩),(841,⟨[.r 59 cb],[],[],[]⟩)] [] N (.c (hY N)<|.c (zdH N)<|.nil) (.nil)
def uz:bz:=⟨[.st 10],[.c .str],λa=>gP N a.1⟩
theorem vm:eP 173 (uz N):=tg [(28,24),(69,25)] [(7,⟨[.r 4 cb],[],[],[]⟩),(506,⟨[.r 7 ci],[],[],[]⟩)] [] N (.c (tj N)<|.c (sO N)<|.c (zdH N)<|.c (rC N)<|.nil) (.nil)
def tz:bz:=⟨[.st 10],[cb],λa=>zcK N a.1⟩
theorem tI:eP 102 (tz N):=tg [] [] [] N (.c (vm N)<|.nil) (.nil)
def sM:bz:=⟨[ci],[cb],λa=>zbf N a.1⟩
theorem iM:eP 103 (sM N):=tg [] [] [] N (.nil) (.nil)
def vf:bz:=⟨[.c (.sl 5),ci],[ci],λa=>WA N a.1 a.2.1⟩
theorem zca:eP 23 (vf N):=tg [] [(26,⟨[.r 5 ci],[],[],[]⟩)] [] N (.nil) (.nil)
def sY:bz:=⟨[.c (.sl 6),ci],[cb],λa=>zbu N a.1 a.2.1⟩
theorem iQ:eP 92 (sY N):=tg [] [(26,⟨[.r 5 ci],[],[],[]⟩),(420,⟨[.r 60 cb],[],[],[]⟩)] [] N (.nil) (.nil)
def xM:bz:=⟨[.c (.sl 6),ci],[ci],λa=>zdb N a.1 a.2.1⟩
theorem fK:eP 189 (xM N):=tg [] [(58,⟨[.r 5 ci,.r 6 ci],[],[],[]⟩),(233,⟨[.r 5 ci],[],[],[]⟩)] [] N (.nil) (.nil)
def v_:bz:=⟨[.st 0,.st 0],[.st 0],λa=>Xl N a.1 a.2.1⟩
theorem zdj:eP 187 (v_ N):=tg [] [] [] N (.nil) (.nil)
end Go.Abs
end
end
section
set_option maxRecDepth 100000
noncomputable section
namespace Go.Abs
open Go.Proofs
variable[Gl](N:Nat)
def tx:bz:=⟨[.st 0,ci],[.st 0],λa=>zcL N a.1 a.2.1⟩
theorem iK:eP 188 (tx N):=tg [] [(58,⟨[.r 6 ci,.h 2 0 (.int .i64),.h 2 1 (.int .i64),.h 2 2 (.int .i64),.h 2 3 (.int .i64)],[],[],[]⟩)] [] N (.c (zdj N)<|.nil) (.nil)
def vq:bz:=⟨[.st 0,.st 0],[cb],λa=>Pu N a.1 a.2.1⟩
theorem zcW:eP 119 (vq N):=tg [] [] [] N (.nil) (.nil)
def wX:bz:=⟨[.st 0,.st 0],[.st 0],λa=>zcB N a.1 a.2.1⟩
theorem kR:eP 120 (wX N):=tg [] [] [] N (.nil) (.nil)
def ua:bz:=⟨[.c (.sl 0),.c (.sl 7)],[.c (.sl 0),cb],λa=>zea N a.1 a.2.1⟩
theorem ug:eP 147 (ua N):=tg [(55,0)] [(122,⟨[.r 7 cb,.r 8 ci,.w 0 0],[(6,0)],[(6,0)],[]⟩),(7827,⟨[.r 7 cb],[],[],[]⟩),(31306,⟨[.r 10 ci,.h 1 0 (.int .i64),.h 1 1 (.int .i64),.h 1 2 (.int .i64),.h 1 3 (.int .i64)],[],[],[]⟩)] [] N (.c (fK N)<|.c (iK N)<|.c (zdj N)<|.c (kR N)<|.c (zcW N)<|.nil) (.nil)
def rU:bz:=⟨[.st 10,.st 20],[cb],λa=>zdl N a.1 a.2.1⟩
theorem rc:eP 104 (rU N):=tg [] [(26,⟨[.r 5 ci],[],[],[]⟩),(841,⟨[.r 57 cb],[],[],[]⟩)] [] N (.c (zca N)<|.c (iQ N)<|.c (zcH N)<|.c (ug N)<|.nil) (.nil)
def tt:bz:=⟨[.st 20,ci,ci],[cb],λa=>zdG N a.1 a.2.1 a.2.2.1⟩
theorem sC:eP 174 (tt N):=tg [] [(26,⟨[.r 7 ci],[],[],[]⟩),(841,⟨[.r 54 cb],[],[],[]⟩)] [] N (.c (zca N)<|.c (fK N)<|.nil) (.nil)
def wS:bz:=⟨[.st 8,ci],[cb],λa=>zeP N a.1 a.2.1⟩
theorem wI:eP 230 (wS N):=tg [] [] [] N (.c (iM N)<|.nil) (.nil)
def tw:bz:=⟨[.c (.sl 8),ci,ci,ci],[cb],λa=>zb1 N a.1 a.2.1 a.2.2.1 a.2.2.2.1⟩
theorem iJ:eP 25 (tw N):=tg [] [(26,⟨[.r 9 ci],[],[],[]⟩)] [] N (.nil) (.nil)
def s_:bz:=⟨[.c (.sl 8),ci],[cb],λa=>zdF N a.1 a.2.1⟩
theorem tD:eP 175 (s_ N):=tg [] [(26,⟨[.r 5 ci],[],[],[]⟩),(3366,⟨[.r 6 ci],[],[],[]⟩),(53860,⟨[.r 58 cb],[],[],[]⟩)] [] N (.c (wI N)<|.c (iJ N)<|.nil) (.nil)
def sU:bz:=⟨[.st 10,.st 20],[cb],λa=>zdD N a.1 a.2.1⟩
theorem sG:eP 105 (sU N):=tg [] [(26,⟨[.r 5 ci],[],[],[]⟩),(841,⟨[.r 38 cb],[],[],[]⟩)] [] N (.c (sC N)<|.c (tD N)<|.nil) (.nil)
def wF:bz:=⟨[.c (.sl 1),ci],[cb],λa=>zeL N a.1 a.2.1⟩
theorem wA:eP 106 (wF N):=tg [] [(26,⟨[.r 5 ci],[],[],[]⟩),(420,⟨[.r 23 cb],[],[],[]⟩)] [] N (.nil) (.nil)
def xO:bz:=⟨[ci,ci,ci],[cb],λa=>Se N a.1 a.2.1 a.2.2.1⟩
theorem xQ:eP 205 (xO N):=tg [] [] [] N (.nil) (.nil)
def tK:bz:=⟨[.st 5],[cb],λa=>zdE N a.1⟩
theorem sL:eP 143 (tK N):=tg [] [(14,⟨[.r 61 cb],[],[],[]⟩),(26,⟨[.r 3 ci],[],[],[]⟩),(30,⟨[.r 85 cb],[],[],[]⟩),(62,⟨[.r 101 cb],[],[],[]⟩),(126,⟨[.r 119 cb],[],[],[]⟩)] [] N (.c (xQ N)<|.c (zcH N)<|.c (zcW N)<|.nil) (.nil)
def ui:bz:=⟨[.c (.sl 7),ci],[ci],λa=>zel N a.1 a.2.1⟩
theorem uu:eP 146 (ui N):=tg [] [(26,⟨[.r 5 ci],[],[],[]⟩)] [] N (.nil) (.nil)
def wj:bz:=⟨[.st 5],[cb],λa=>zeN N a.1⟩
theorem wG:eP 176 (wj N):=tg [] [] [] N (.nil) (.nil)
def tc:bz:=⟨[.st 0,.st 0],[ci],λa=>zbp N a.1 a.2.1⟩
theorem zdU:eP 242 (tc N):=tg [] [(6,⟨[.r 19 cb],[],[],[]⟩),(124,⟨[.r 5 ci,.h 2 0 (.int .i64),.h 2 1 (.int .i64),.h 2 2 (.int .i64),.h 2 3 (.int .i64)],[],[],[]⟩),(496,⟨[.r 27 cb],[],[],[]⟩)] [] N (.c (zdj N)<|.c (zcW N)<|.c (zcH N)<|.nil) (.nil)
def t_:bz:=⟨[.st 10,ci,.st 0],[ci],λa=>gS N a.1 a.2.1 a.2.2.1⟩
theorem vd:eP 231 (t_ N):=tg [] [(122,⟨[.r 7 ci,.r 8 ci],[],[],[]⟩)] [] N (.c (zdU N)<|.nil) (.nil)
def vh:bz:=⟨[.st 10,ci,ci,.st 0],[cb],λa=>zda N a.1 a.2.1 a.2.2.1 a.2.2.2.1⟩
theorem vo:eP 177 (vh N):=tg [] [] [] N (.c (vd N)<|.nil) (.nil)
def sI:bz:=⟨[.c (.sl 6)],[ci],λa=>zdI N a.1⟩
theorem sD:eP 37 (sI N):=tg [] [(58,⟨[.r 3 ci,.r 4 ci],[],[],[]⟩),(233,⟨[.r 3 ci],[],[],[]⟩)] [] N (.nil) (.nil)
def wi:bz:=⟨[.c (.sl 1),ci],[cb],λa=>zeO N a.1 a.2.1⟩
theorem wx:eP 93 (wi N):=tg [] [(26,⟨[.r 5 ci],[],[],[]⟩)] [] N (.nil) (.nil)
def ux:bz:=⟨[.st 10,.st 5,.c (.sl 6)],[cb],λa=>zeg N a.1 a.2.1 a.2.2.1⟩
theorem uJ:eP 36 (ux N):=tg [] [(6,⟨[.r 34 cb],[],[],[]⟩),(122,⟨[.r 8 ci],[],[],[]⟩)] [] N (.c (wx N)<|.c (iQ N)<|.c (sD N)<|.nil) (.nil)
def wQ:bz:=⟨[.st 10,.st 20,.st 5],[cb],λa=>zeQ N a.1 a.2.1 a.2.2.1⟩
theorem wg:eP 107 (wQ N):=tg [] [(15,⟨[.r 7 ci],[],[],[]⟩),(31,⟨[.r 7 ci],[],[],[]⟩),(63,⟨[.r 7 ci],[],[],[]⟩),(510,⟨[.r 83 cb],[],[],[]⟩),(8186,⟨[.r 9 ci],[],[],[]⟩)] [] N (.c (sL N)<|.c (uu N)<|.c (zca N)<|.c (vo N)<|.c (wG N)<|.c (uJ N)<|.nil) (.nil)
def tA:bz:=⟨[.st 10,.st 20],[cb],λa=>zcR N a.1 a.2.1⟩
theorem tJ:eP 44 (tA N):=tg [] [(6,⟨[.r 43 cb],[],[],[]⟩),(14,⟨[.r 86 cb],[],[],[]⟩),(122,⟨[.r 5 ci],[],[],[]⟩),(250,⟨[.r 6 ci],[],[],[]⟩),(4004,⟨[.r 138 cb],[],[],[]⟩)] [] N (.c (iM N)<|.c (wg N)<|.c (rc N)<|.c (sG N)<|.c (wA N)<|.c (tI N)<|.nil) (.nil)
def uh:bz:=⟨[.st 5,.st 5],[cb],λa=>zd9 N a.1 a.2.1⟩
theorem uZ:eP 150 (uh N):=tg [] [(58,⟨[.r 5 ci],[],[],[]⟩)] [] N (.nil) (.nil)
def uU:bz:=⟨[.c (.sl 5),.c (.sl 5)],[cb],λa=>zek N a.1 a.2.1⟩
theorem uT:eP 79 (uU N):=tg [] [(58,⟨[.r 5 ci],[],[],[]⟩)] [] N (.c (uZ N)<|.nil) (.nil)
def tZ:bz:=⟨[.c (.sl 6),.c (.sl 6)],[cb],λa=>zee N a.1 a.2.1⟩
theorem uS:eP 55 (tZ N):=tg [] [(58,⟨[.r 5 ci],[],[],[]⟩)] [] N (.nil) (.nil)
def uV:bz:=⟨[.c (.sl 7),.c (.sl 7)],[cb],λa=>zeh N a.1 a.2.1⟩
theorem uO:eP 80 (uV N):=tg [] [(58,⟨[.r 5 ci],[],[],[]⟩),(932,⟨[.r 54 cb],[],[],[]⟩)] [] N (.c (uS N)<|.nil) (.nil)
def uj:bz:=⟨[.c (.sl 8),.c (.sl 8)],[cb],λa=>zei N a.1 a.2.1⟩
theorem tQ:eP 81 (uj N):=tg [] [(58,⟨[.r 5 ci],[],[],[]⟩)] [] N (.nil) (.nil)
def vy:bz:=⟨[.c (.sl 1),.c (.sl 1)],[cb],λa=>zc4 N a.1 a.2.1⟩
theorem um:eP 82 (vy N):=tg [] [(58,⟨[.r 5 ci],[],[],[]⟩)] [] N (.nil) (.nil)
def uB:bz:=⟨[.st 20,.st 20],[cb],λa=>zeo N a.1 a.2.1⟩
theorem ue:eP 27 (uB N):=tg [] [] [] N (.c (uT N)<|.c (uO N)<|.c (tQ N)<|.c (um N)<|.nil) (.nil)
def pB:dq:=⟨.mk [.v (.st 10),.v (.st 20)] [] [] [] [] [],[.mk [.p (.k (.c (.lit (.pointer none)))),.v cb] [] [] [] [] [(393227,[.mk [.p (.k (.c (.lit (.pointer none)))),.v ci] [] [] [(1000000,0)] [] [],.mk [.p (.pt 2 0 27),.p (.k (.c (.lit (.int .i64 0))))] [] [.cells [.pt 3 0 2,.pt 4 0 2,xl 0,xl 2,xl 3,xi,xi,xi,xi,xi,xi,xi,xi,xi,xi,xi,xi,xi,xi,xi,xi,xi,xi,xl 8,xl 1,.hd 5,xi],.cells [xi,.hd 6],.cells [xl 0,.mr 7],.row 1,.row 5,.mp 7 true] [] [] []]),(1966113,[.mk [.v (.st 20)] [] [] [(1000000,1)] [] []])],.mk [.p (.pt 0 0 27),.v cb] [] [.cells [.pt 1 0 2,.pt 2 0 2,xl 0,xl 2,xl 3,xi,xi,xi,xi,xi,xi,xi,xi,xi,xi,xi,xi,xi,xi,xi,xi,xi,xi,xl 8,xl 1,.hd 3,xi],.cells [xi,.hd 4],.cells [xl 0,.mr 5],.row 1,.row 5,.mp 7 true] [] [] []],λ(a,b)=>ce N a b⟩
theorem oX:f9 11 (pB N):=og (g:=11) N (.c (tJ N)<|.c (ue N)<|.nil) (.c (zS N)<|.c (zbI N)<|.nil)
def lz:bz:=⟨[.st 27,.st 26],[.st 27],λa=>zc9 N a.1 a.2.1⟩
theorem lm:eP 50 (lz N):=tg [(22,26)] [] [] N (.nil) (.nil)
def pR:bz:=⟨[.st 10,.st 20],[.st 27],λa=>zcX N a.1 a.2.1⟩
theorem qq:eP 14 (pR N):=tg [] [(58,⟨[.r 6 ci,.h 3 0 (.sl 0),.h 3 1 (.sl 2),.h 3 2 (.sl 3),.h 3 3 (.int .i64),.h 3 4 (.int .i64),.h 3 5 (.int .i64),.h 3 6 (.int .i64),.h 3 7 (.int .i64),.h 3 8 (.int .i64),.h 3 9 (.int .i64),.h 3 10 (.int .i64),.h 3 11 (.int .i64),.h 3 12 (.int .i64),.h 3 13 (.int .i64),.h 3 14 (.int .i64),.h 3 15 (.int .i64),.h 3 16 (.int .i64),.h 3 17 (.int .i64),.h 3 18 (.int .i64),.h 3 19 (.sl 26),.h 3 20 (.sl 8)],[],[],[]⟩)] [] N (.c (zca N)<|.c (lm N)<|.nil) (.nil)
def uD:bz:=⟨[.st 10,.st 5],[.st 28],λa=>gN N a.1 a.2.1⟩
theorem tR:eP 54 (uD N):=tg [] [] [] N (.nil) (.nil)
def lq:dq:=⟨.mk [.p (.hd 0),.v ci] [] [.row 1] [] [] [],[.mk [.v (.c (.sl 1))] [] [] [(65,1)] [(58,⟨[.r 5 (.c (.sl 1)),.r 6 ci],[],[],[]⟩),(233,⟨[.r 5 (.c (.sl 1))],[],[],[]⟩),(7460,⟨[.r 7 ci],[],[],[]⟩),(7462,⟨[.r 54 cb],[],[],[]⟩),(29840,⟨[.r 29 cb],[],[],[]⟩)] []],λ(a,b)=>zb2 N a b⟩
theorem kV:f9 190 (lq N):=og (g:=190) N (.nil) (.nil)
def jG:bz:=⟨[.st 27],[.c (.sl 1)],λa=>zbc N a.1⟩
theorem zdt:eP 121 (jG N):=tg [(8,1),(23,1),(32,1),(48,1),(57,1)] [(58,⟨[.r 4 ci,.w 1 1],[(3,1)],[],[]⟩),(122,⟨[.r 5 ci,.w 1 1],[(3,1)],[],[]⟩)] [(4063294,[.mk [.v (.c (.sl 1))] [] [] [(1000000,0)] [] []])] N (.nil) (.c (kV N)<|.nil)
def jz:bz:=⟨[.st 27,ci,ci],[.st 0],λa=>zbJ N a.1 a.2.1 a.2.2.1⟩
theorem jK:eP 118 (jz N):=tg [] [(58,⟨[.r 8 ci,.h 2 0 (.int .i64),.h 2 1 (.int .i64),.h 2 2 (.int .i64),.h 2 3 (.int .i64)],[],[],[]⟩),(233,⟨[.h 2 0 (.int .i64),.h 2 1 (.int .i64),.h 2 2 (.int .i64),.h 2 3 (.int .i64)],[],[],[]⟩)] [] N (.c (fK N)<|.c (iK N)<|.c (zdj N)<|.nil) (.nil)
def kE:bz:=⟨[.st 27,ci,ci],[.st 0,cb],λa=>zbh N a.1 a.2.1 a.2.2.1⟩
theorem kD:eP 52 (kE N):=tg [] [] [] N (.c (jK N)<|.c (iJ N)<|.c (zcW N)<|.c (kR N)<|.nil) (.nil)
def wT:bz:=⟨[ci,ci],[ci],λa=>zb8 N a.1 a.2.1⟩
theorem wN:eP 240 (wT N):=tg [] [] [] N (.nil) (.nil)
def tp:bz:=⟨[.st 0,.st 0],[.st 0],λa=>zcG N a.1 a.2.1⟩
theorem sS:eP 191 (tp N):=tg [] [] [] N (.c (wN N)<|.nil) (.nil)
def uf:bz:=⟨[.c (.sl 0),.c (.sl 1),.st 0],[ci],λa=>zej N a.1 a.2.1 a.2.2.1⟩
theorem uP:eP 241 (uf N):=tg [] [(58,⟨[.r 7 ci,.r 8 ci],[],[],[]⟩),(233,⟨[.r 7 ci],[],[],[]⟩),(932,⟨[.r 28 cb],[],[],[]⟩)] [] N (.c (zdU N)<|.nil) (.nil)
def lV:dq:=⟨.mk [.p (.hd 0),.v (.c (.sl 1)),.v ci,.v (.st 0)] [] [.row 0] [] [] [],[.mk [.v (.c (.sl 6)),.v cb] [] [] [(71,6)] [(6,⟨[.r 23 cb],[],[],[]⟩),(250,⟨[.r 11 ci,.r 12 ci,.w 2 6],[(10,2)],[(10,6)],[]⟩),(1001,⟨[.r 11 ci,.w 2 6],[(10,2)],[],[]⟩),(8008,⟨[.r 48 cb],[],[],[]⟩),(16019,⟨[.r 13 ci],[],[],[]⟩),(32039,⟨[.w 2 6],[(10,2)],[],[]⟩)] []],λ(a,b,d,e)=>zbZ N a b d e⟩
theorem lM:f9 192 (lV N):=og (g:=192) N (.c (zdU N)<|.c (uP N)<|.nil) (.nil)
def ko:bz:=⟨[.st 27,.st 28,ci],[.c (.sl 6),cb],λa=>T_ N a.1 a.2.1 a.2.2.1⟩
theorem kw:eP 122 (ko N):=tg [(103,0)] [(250,⟨[.r 10 ci,.w 2 0],[(9,2)],[(9,0)],[]⟩),(64074,⟨[.r 13 ci,.h 3 0 (.int .i64),.h 3 1 (.int .i64),.h 3 2 (.int .i64),.h 3 3 (.int .i64)],[],[],[]⟩),(256297,⟨[.h 3 0 (.int .i64),.h 3 1 (.int .i64),.h 3 2 (.int .i64),.h 3 3 (.int .i64)],[],[],[]⟩),(1025188,⟨[.r 87 cb],[],[],[]⟩)] [(8257653,[.mk [.v (.c (.sl 6)),.v cb] [] [] [(1000000,0)] [] []])] N (.c (zdt N)<|.c (kD N)<|.c (sS N)<|.nil) (.c (lM N)<|.nil)
def ie:bz:=⟨[.st 27,.st 28],[.st 14,cb],λa=>zaB N a.1 a.2.1⟩
theorem gL:eP 53 (ie N):=tg [] [(58,⟨[.r 7 ci],[],[],[]⟩)] [] N (.c (zdt N)<|.c (kw N)<|.nil) (.nil)
def px:bz:=⟨[.st 10,.st 27,.st 5],[.st 14,cb],λa=>zbV N a.1 a.2.1 a.2.2.1⟩
theorem pu:eP 16 (px N):=tg [] [(7,⟨[.h 4 0 (.int .i64)],[],[],[]⟩)] [] N (.c (tR N)<|.c (gL N)<|.nil) (.nil)
def rj:bz:=⟨[.st 10,.st 20,ci],[ci,cb],λa=>zdh N a.1 a.2.1 a.2.2.1⟩
theorem rQ:eP 30 (rj N):=tg [] [] [] N (.c (zca N)<|.c (qq N)<|.c (pu N)<|.nil) (.nil)
def jU:bz:=⟨[.st 9],[cb],λa=>zcz N a.1⟩
theorem jB:eP 5 (jU N):=tg [] [(1018,⟨[.r 5 ci,.r 6 ci,.r 7 cb,.r 38 ci],[],[],[]⟩),(8147,⟨[.r 5 ci,.r 6 ci,.r 7 cb],[],[],[]⟩)] [(1966105,[.mk [.p (.k (.c (.lit (.pointer none)))),.v cb] [] [] [(1000000,0)] [] [],.mk [.p (.pt 1 0 27),.v cb] [] [.cells [.pt 2 0 2,.pt 3 0 2,xl 0,xl 2,xl 3,xi,xi,xi,xi,xi,xi,xi,xi,xi,xi,xi,xi,xi,xi,xi,xi,xi,xi,xl 8,xl 1,.hd 4,xi],.cells [xi,.hd 5],.cells [xl 0,.mr 6],.row 1,.row 5,.mp 7 true] [] [] []]),(33292324,[.mk [.v (.c (.sl 5))] [] [] [(1000000,1)] [] []]),(33423424,[.mk [.v (.st 19),.v ci] [.h 1 25 (.hd 4),.h 1 26 (xi),.h 2 1 (.hd 5),.h 3 0 (xl 0),.w 4 1,.w 5 5,.m 6 7 true] [] [(1000000,3)] [] []]),(8542879789,[.mk [.v cb] [] [] [(1000000,2)] [] []])] N (.c (sy N)<|.c (w_ N)<|.c (rQ N)<|.nil) (.c (oX N)<|.c (jR N)<|.c (mo N)<|.c (iN N)<|.nil)
end Go.Abs
end
end
section
end
