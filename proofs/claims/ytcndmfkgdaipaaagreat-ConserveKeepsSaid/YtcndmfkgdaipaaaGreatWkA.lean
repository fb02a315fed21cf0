/- The code computes these functions. -/
import Derived.Test.YtcndmfkgdaipaaaGreatTyPure
import Derived.Test.YtcndmfkgdaipaaaGreatProg
import Derived.Test.YtcndmfkgdaipaaaGreatTyPrim
import Derived.KernelRfl
set_option linter.all false
section
set_option maxRecDepth 100000
noncomputable section
namespace Go.Abs
open Go.Proofs
variable[Gl]
abbrev ci:dm:=.c (.int .i64)
abbrev cb:dm:=.c .bool
abbrev xi:CP:=.c (.int .i64)
abbrev xb:CP:=.c .bool
abbrev xl(n:Nat):CP:=.c (.sl n)
abbrev xn:CP:=.k (.c (.lit (.slice none 0 0)))
theorem dE:Tryz.prog.follows .mixedOrders=true:=by kernel_rfl
def KB:dj:=KE 120 182 1 (λk=>k)
theorem KB_ok:dj.ok Tryz.prog KB:=Qo Tryz.Up (λk=>rfl)
theorem tg{g:Nat}{S:sV}{s:bD}(H:List (Nat×Nat))(J:List (Nat×JH))(C:List (Nat×List CT))(N:Nat)(b:fw Tryz.prog S){O:ON}(d:vN Tryz.prog O)(h:∀a,tG Tryz.prog g S O KB H J C s.ins s.out N a=s.f a:=by intro _;kernel_rfl):bL Tryz.prog g s:=tG_ok dE b d KB_ok h
theorem og{g:Nat}{S:sV}{O:ON}{s:dr}(N:Nat)(a:fw Tryz.prog S)(b:vN Tryz.prog O)(d:aV Tryz.prog g=true:=by kernel_rfl)(h:∀x,oG Tryz.prog g S O KB N s x=s.f x:=by intro _;kernel_rfl):cW Tryz.prog g s:=oG_ok dE a b KB_ok d h
abbrev fw.c:=@fw.cons
abbrev vN.c:=@vN.cons
abbrev eP(g:Nat)(s:bD):=bL Tryz.prog g s
abbrev f9(g:Nat)(s:dr):=cW Tryz.prog g s
abbrev j8(l:List Pl):JH:=⟨l,[],[],[]⟩
abbrev g8:D:=.c (.lit (.int .i64 0))
abbrev i7:D:=.c (.lit (.pointer none))
abbrev j7:D:=.c (.lit (.slice none 0 0))
abbrev gA(l:List RO)(n:Nat):CT:=.mk l [] [] [(1000000,n)] [] []
abbrev g6(l:List RO):CT:=.mk l [] [] [] [] []
abbrev g7(a b c:Nat):NB:=.cells [.pt a 0 2,.pt b 0 2,xl 0,xl 2,xl 3,xi,xi,xi,xi,xi,xi,xi,xi,xi,xi,xi,xi,xi,xi,xi,xi,xi,xi,xl 8,xl 1,.hd c,xi]
end Go.Abs
end
end
section
set_option maxRecDepth 100000
noncomputable section
namespace Go.Abs
open Go.Proofs
variable[Gl](N:Nat)
def tR:bD:=⟨[],[.st 10],λa=>fS N⟩
theorem tu:eP 40 (tR N):=clo_ok (P:=Tryz.prog) (g:=40) (out:=[.st 10]) (λa=>fS N) dE (by kernel_rfl)
def ED:bD:=⟨[.st 0],[.st 11],λa=>gn N a.1⟩
theorem vX:eP 209 (ED N):=tg [] [] [] N .nil .nil
def Jf:bD:=⟨[.st 0],[cb],λa=>Od N a.1⟩
theorem VZ:eP 163 (Jf N):=tg [] [(26,j8 [.r 7 ci])] [] N (.c (vX N)<|.nil) .nil
def yC:bD:=⟨[.st 10],[cb],λa=>fH N a.1⟩
theorem ym:eP 243 (yC N):=tg [] [(58,j8 [.r 18 ci])] [] N (.c (VZ N)<|.nil) .nil
def Au:bD:=⟨[.c (.sl 1),ci],[cb],λa=>zeO N a.1 a.2.1⟩
theorem oV:eP 282 (Au N):=tg [] [(58,j8 [.r 5 ci,.r 10 ci])] [] N .nil .nil
def zg:bD:=⟨[.st 10],[cb],λa=>fL N a.1⟩
theorem yX:eP 245 (zg N):=tg [] [(58,j8 [.r 18 ci]),(3737,j8 [.r 32 cb])] [] N (.c (oV N)<|.nil) .nil
def xJ:bD:=⟨[.st 10],[cb],λa=>zeY N a.1⟩
theorem wX:eP 248 (xJ N):=tg [] [(58,j8 [.r 20 ci]),(7474,j8 [.r 42 cb]),(59802,j8 [.r 50 ci])] [] N (.c (oV N)<|.nil) .nil
def uD:bD:=⟨[.st 12],[cb],λa=>zew N a.1⟩
theorem ve:eP 250 (uD N):=tg [] [(26,j8 [.r 14 ci])] [] N .nil .nil
def KI:bD:=⟨[.st 10],[.c .str],λa=>Br N a.1⟩
theorem Jd:eP 130 (KI N):=tg [] [(26,⟨[],[],[(1000003,40)],[]⟩)] [(786438,[.mk [] [] [] [(1000002,0),(43,1000001)] [] [(393225,[.mk [] [] [] [(1000002,0)] [] []]),(393232,[.mk [] [] [] [(1000002,0)] [] []]),(393237,[.mk [] [] [] [(1000002,0)] [] []]),(393240,[.mk [] [] [] [(1000002,0)] [] []]),(393243,[.mk [] [] [] [(1000002,0)] [] []]),(393246,[.mk [] [] [] [(1000002,0)] [] []]),(393249,[.mk [] [] [] [(1000002,0)] [] []]),(393252,[.mk [] [] [] [(1000002,0)] [] []]),(393255,[.mk [] [] [] [(1000002,0)] [] []]),(393258,[.mk [] [] [] [(1000002,0)] [] []])]]),(221380622,[g6 [.v cb]])] N (.c (ym N)<|.c (yX N)<|.c (wX N)<|.c (ve N)<|.nil) .nil
def Gc:bD:=⟨[.st 10],[cb],λa=>QU N a.1⟩
theorem zbU:eP 67 (Gc N):=tg [] [] [] N (.c (Jd N)<|.nil) .nil
def yr:dr:=⟨g6 [.v ci],[g6 [.p (.k i7),.p (.k (.c (.lit (.int .i64 2))))],.mk [.p (.pt 0 0 2),.p (.k g8)] [] [.cells [xi,xn]] [] [] []],λa=>zd7 N a⟩
theorem n_:f9 96 (yr N):=og (g:=96) N .nil .nil
def iN:bD:=⟨[.c (.sl 0)],[.c (.sl 0)],λa=>za1 N a.1⟩
theorem zc1:eP 152 (iN N):=ux (i:=0) (sz:=32) (z:=[g8,g8,g8,g8]) (fn:=Tryz.f152) dE (by kernel_rfl) (by kernel_rfl) (by kernel_rfl) rfl
def xG:dr:=⟨g6 [.v (.st 10)],[.mk [.p (.k i7),.p (.k (.c (.lit (.int .i64 2))))] [] [] [(10,15)] [] [],.mk [.p (.pt 0 0 2),.p (.k g8)] [] [.cells [xl 0,.mr 1],.mp 7 true] [] [] []],λa=>zcK N a⟩
theorem ze5:f9 97 (xG N):=og (g:=97) N (.c (zbU N)<|.c (zc1 N)<|.nil) .nil
def jK:dr:=⟨g6 [.v (.c (.sl 2))],[.mk [.p (.hd 0)] [] [.row 2] [] [] []],λx=>zct N x⟩
theorem jz:f9 153 (jK N):=mH (i:=2) (sz:=24) (z:=[j7]) (fn:=Tryz.f153) dE (by kernel_rfl) (by kernel_rfl) (by kernel_rfl) rfl
def qg:bD:=⟨[.c (.sl 1)],[.c (.sl 1)],λa=>zaX N a.1⟩
theorem zdg:eP 58 (qg N):=ux (i:=1) (sz:=8) (z:=[g8]) (fn:=Tryz.f58) dE (by kernel_rfl) (by kernel_rfl) (by kernel_rfl) rfl
def zdV:dr:=⟨g6 [.v (.c (.sl 3))],[.mk [.p (.hd 0)] [] [.row 3] [] [] []],λx=>zbh N x⟩
theorem zdQ:f9 154 (zdV N):=mH (i:=3) (sz:=64) (z:=[g8,j7,g8,g8,g8,g8]) (fn:=Tryz.f154) dE (by kernel_rfl) (by kernel_rfl) (by kernel_rfl) rfl
def Al:bD:=⟨[.st 10],[.st 10],λa=>zcZ N a.1⟩
theorem iy:eP 98 (Al N):=tg [] [(122,⟨[.r 16 ci,.w 2 2],[],[],[(0,1,2)]⟩),(506,⟨[.r 37 ci,.w 3 3],[],[],[(0,2,3)]⟩)] [(917515,[.mk [.p (.hd 2)] [] [.row 2] [(1000000,0)] [] []]),(4063264,[.mk [.p (.hd 3)] [] [.row 3] [(1000000,1)] [] []])] N (.c (zc1 N)<|.c (zdg N)<|.nil) (.c (jz N)<|.c (zdQ N)<|.nil)
def CU:bD:=⟨[ci,ci,ci],[ci],λa=>zcn N a.1 a.2.1 a.2.2.1⟩
theorem fM:eP 155 (CU N):=tg [] [] [] N .nil .nil
def Ko:bD:=⟨[ci],[.c (.sl 1)],λa=>qQ N a.1⟩
theorem AT:eP 99 (Ko N):=tg [(5,1)] [] [] N (.c (fM N)<|.nil) .nil
def yp:dr:=⟨g6 [.v (.st 10)],[.mk [.p (.k i7),.p (.k (.c (.lit (.int .i64 2))))] [] [] [(37,1)] [(3298534883343,⟨[],[],[(1049601,5)],[]⟩)] [(917517,[gA [.p (.k i7),.p (.k (.c (.lit (.int .i64 2))))] 0,.mk [.p (.pt 1 0 2),.p (.k g8)] [] [.cells [xi,xn]] [] [] []]),(4063253,[gA [.p (.k i7),.p (.k (.c (.lit (.int .i64 2))))] 1,.mk [.p (.pt 3 0 2),.p (.k g8)] [] [.cells [xl 0,.mr 4],.mp 7 true] [] [] []])],.mk [.p (.pt 0 0 27),.p (.k g8)] [] [g7 1 2 3,.cells [xi,.hd 4],.cells [xl 0,.mr 5],.row 1,.row 5,.mp 7 true] [] [] []],λa=>sS N a⟩
theorem yU:f9 39 (yp N):=og (g:=39) N (.c (zbU N)<|.c (iy N)<|.c (AT N)<|.nil) (.c (n_ N)<|.c (ze5 N)<|.nil)
def pN:dr:=⟨g6 [.p (.k i7),.v (.st 5)],[g6 [.v ci]],λx=>jf N⟩
theorem qd:f9 87 (pN N):=og (g:=87) N .nil .nil
def oI:dr:=⟨g6 [.p (.k i7),.v ci,.v ci,.v ci],[.mk [] [] [] [] [] [(65552,[gA [.v ci] 0])]],λ(a,_,_)=>zcE N a⟩
theorem oH:f9 41 (oI N):=og (g:=41) N .nil (.c (qd N)<|.nil)
def nM:dr:=⟨.mk [.p (.k i7),.v ci,.p (.hd 0)] [] [.row 6] [] [] [],[g6 [.v ci]],λx=>zck N⟩
theorem oj:f9 42 (nM N):=og (g:=42) N .nil .nil
def sH:dr:=⟨g6 [.p (.k i7)],[g6 [.p (.k i7),.v ci]],λx=>li N⟩
theorem rM:f9 61 (sH N):=og (g:=61) N .nil .nil
def sv:dr:=⟨g6 [.p (.k i7)],[.mk [.ag [.k i7,.k i7],.v ci] [] [] [] [] [(393224,[gA [.p (.k i7),.v ci] 0])]],λx=>lj N⟩
theorem rJ:f9 47 (sv N):=og (g:=47) N .nil (.c (rM N)<|.nil)
def un:dr:=⟨g6 [.p (.k i7)],[g6 [.v (.c (.sl 5))]],λx=>pj N⟩
theorem vB:f9 48 (un N):=og (g:=48) N .nil .nil
def yn:dr:=⟨g6 [.p (.k i7),.v ci],[g6 [.v cb]],λx=>sP N⟩
theorem yB:f9 49 (yn N):=og (g:=49) N .nil .nil
def qZ:dr:=⟨g6 [.p (.k i7),.p (.k i7),.v (.st 5)],[g6 [.v (.st 14),.v cb]],λx=>zeD N⟩
theorem qx:f9 62 (qZ N):=og (g:=62) N .nil .nil
def ER:bD:=⟨[.c (.sl 6),ci],[cb],λa=>zd9 N a.1 a.2.1⟩
theorem zeG:eP 157 (ER N):=tg [] [(58,j8 [.r 5 ci,.r 10 ci])] [] N .nil .nil
def yJ:dr:=⟨g6 [.v (.st 0)],[g6 [.ag [.cx,.cx]]],λa=>zc7 N a⟩
theorem nF:f9 211 (yJ N):=og (g:=211) N .nil .nil
def AG:dr:=⟨g6 [.ag [.cx,.cx]],[g6 [.v (.st 0)]],λ(a,b)=>m_ N a b⟩
theorem zP:f9 255 (AG N):=og (g:=255) N .nil .nil
def xC:dr:=⟨g6 [.ag [.cx,.cx]],[.mk [.v (.st 0),.v ci] [] [] [] [] [(393222,[gA [.v (.st 0)] 0])]],λ(a,b)=>zdz N a b⟩
theorem k_:f9 212 (xC N):=og (g:=212) N (.c (VZ N)<|.nil) (.c (zP N)<|.nil)
def IQ:bD:=⟨[.st 0,ci],[.st 0,ci],λa=>mG N a.1 a.2.1⟩
theorem mf:eP 210 (IQ N):=tg [] [] [(4063256,[gA [.ag [.cx,.cx]] 0]),(8257573,[gA [.v (.st 0),.v ci] 1])] N (.c (VZ N)<|.nil) (.c (nF N)<|.c (k_ N)<|.nil)
def EG:bD:=⟨[.c (.sl 15)],[cb],λa=>zec N a.1⟩
theorem iM:eP 233 (EG N):=tg [] [(58,j8 [.r 3 ci,.r 8 ci]),(7474,j8 [.r 26 cb])] [] N (.c (VZ N)<|.nil) .nil
def GQ:bD:=⟨[.c (.sl 15),ci],[ci],λa=>fO N a.1 a.2.1⟩
theorem zcV:eP 274 (GQ N):=tg [] [] [(393224,[.mk [.v ci] [] [] [] [(28,j8 [.r 5 ci,.r 6 ci])] [(59375636,[g6 [.v cb]])]])] N .nil .nil
def zer:dr:=⟨g6 [.v (.c (.sl 15))],[.mk [.p (.hd 0)] [] [.row 15] [] [] []],λx=>za0 N x⟩
theorem zb6:f9 298 (zer N):=mH (i:=15) (sz:=40) (z:=[g8,g8,g8,g8,g8]) (fn:=Tryz.f298) dE (by kernel_rfl) (by kernel_rfl) (by kernel_rfl) rfl
def zbQ:dr:=⟨.mk [.p (.hd 0),.v ci,.p (.hd 1)] [] [.row 15,.row 15] [] [] [],[.mk [.p (.hd 0)] [.w 0 15] [] [] [] []],λ(a,b,d)=>zaA N a b d⟩
theorem zdF:f9 299 (zbQ N):=og (g:=299) N .nil .nil
def zdX:dr:=⟨.mk [.p (.hd 0),.v ci,.p (.hd 1)] [] [.row 15,.row 15] [] [] [],[.mk [.p (.hd 0)] [.w 0 15] [] [] [] []],λx=>zaW N x.1 x.2.1 x.2.2⟩
def Yx:Go.Shelf.Ren:=⟨λ| 22=>299 | 29=>303 | 30=>304 | n=>n,λ| 24=>254 | 9=>298 | 3=>3 | 4=>4 | 0=>0 | n=>n,λn=>n⟩
theorem Ll:ME Tryz.prog Yx 5 40 "slices.Insert[[]drayage/api.Step,drayage/api.Step]" (.agg #[.int .i64 0,.int .i64 0,.int .i64 0,.int .i64 0,.int .i64 0]):={ mixed:=dE,f22:=Tryz.func299.trans (congrArg some (by kernel_rfl)),ov:=λargs w=>Go.run_callFunc_extern Tryz.func303 (by kernel_rfl) (by kernel_rfl) (by kernel_rfl) (by kernel_rfl) args w,t0:=Tryz.underlying0,t3:=Tryz.underlying3,t4:=Tryz.underlying4,a3:=Tryz.isAgg3,z3:=Tryz.sizeOf3,a4:=Tryz.isAgg4,z4:=Tryz.sizeOf4,z9:=Tryz.sizeOf298,v9:=Tryz.zeroValue298,t24:=Tryz.underlying254,a24:=Tryz.isAgg254,z24:=Tryz.sizeOf254,v24:=Tryz.zeroValue254,i9:=by kernel_rfl }
theorem zd2:f9 299 (zdX N):=cW.or (f1:=(zbQ N).f) (f2:=λx=>Lk (α:=TT 15) x.1 x.2.1 x.2.2) (zdF N) (HG (ii:=15) Ll (by kernel_rfl) (by kernel_rfl) (by kernel_rfl) (by kernel_rfl) (by kernel_rfl))
def IM:bD:=⟨[.c (.sl 15),ci],[.c (.sl 15)],λa=>qq N a.1 a.2.1⟩
theorem lZ:eP 273 (IM N):=tg [(30,15)] [] [(917515,[.mk [.p (.hd 0)] [] [.row 15] [(1000000,0)] [] []]),(4063263,[.mk [.p (.hd 0)] [.w 0 15] [] [(1000000,1)] [] []])] N (.c (zcV N)<|.nil) (.c (zb6 N)<|.c (zd2 N)<|.nil)
def zbG:dr:=⟨.mk [.p (.hd 0),.v ci,.p (.hd 1)] [] [.row 15,.row 15] [] [] [],[.mk [.p (.hd 0)] [.w 0 15] [] [] [] []],λ(a,b,d)=>zaA N a b d⟩
theorem zdC:f9 299 (zbG N):=og (g:=299) N .nil .nil
def zdW:dr:=⟨.mk [.p (.hd 0),.v ci,.p (.hd 1)] [] [.row 15,.row 15] [] [] [],[.mk [.p (.hd 0)] [.w 0 15] [] [] [] []],λx=>zcg N x.1 x.2.1 x.2.2⟩
theorem zdT:f9 299 (zdW N):=cW.or (f1:=(zbG N).f) (f2:=λx=>Lk (α:=TT 15) x.1 x.2.1 x.2.2) (zdC N) (HG (ii:=15) Ll (by kernel_rfl) (by kernel_rfl) (by kernel_rfl) (by kernel_rfl) (by kernel_rfl))
def yz:dr:=⟨g6 [.v (.c (.sl 15)),.v ci],[.mk [.p (.hd 0)] [] [.row 15] [(30,15)] [] [(917515,[.mk [.p (.hd 0)] [] [.row 15] [(1000000,0)] [] []]),(4063263,[.mk [.p (.hd 0)] [.w 0 15] [] [(1000000,1)] [] []])]],λ(a,b)=>kU N a b⟩
theorem zf:f9 273 (yz N):=og (g:=273) N (.c (zcV N)<|.nil) (.c (zb6 N)<|.c (zdT N)<|.nil)
def Qu:bD:=⟨[.st 0,.st 0],[.st 0,ci],λa=>wN N a.1 a.2.1⟩
theorem yG:eP 165 (Qu N):=tg [] [(6,j8 [.r 15 cb])] [(917522,[gA [.ag [.cx,.cx]] 0]),(917524,[gA [.ag [.cx,.cx]] 0]),(1966112,[gA [.v (.st 0),.v ci] 1])] N (.c (VZ N)<|.nil) (.c (nF N)<|.c (k_ N)<|.nil)
def DU:bD:=⟨[.c (.sl 15)],[.c (.sl 15)],λa=>oZ N a.1⟩
theorem EO:eP 275 (DU N):=tg [(13,15),(36,15)] [(122,⟨[.r 17 ci,.w 0 15],[(3,0)],[],[]⟩),(979,⟨[.w 0 15],[(3,0)],[],[]⟩)] [] N (.c (iM N)<|.nil) .nil
def pZ:bD:=⟨[.c (.sl 15),ci,ci,.st 0,.k 165],[.c (.sl 15),ci],λa=>zd0 N a.1 a.2.1 a.2.2.1 a.2.2.2.1⟩
theorem pJ:eP 234 (pZ N):=tg [] [(6,j8 [.r 40 cb]),(62,⟨[],[],[(12,15)],[]⟩),(122,⟨[.r 13 ci,.w 1 15],[(12,1)],[],[]⟩)] [(917549,[.mk [.p (.hd 1)] [] [.row 15] [(1000000,0)] [] []])] N (.c (lZ N)<|.c (zcV N)<|.c (yG N)<|.c (EO N)<|.c (iM N)<|.c (VZ N)<|.nil) (.c (zf N)<|.nil)
def GM:bD:=⟨[.c (.sl 15),ci,ci,.st 0],[.c (.sl 15),ci],λa=>oq N a.1 a.2.1 a.2.2.1 a.2.2.2.1⟩
theorem pM:eP 186 (GM N):=tg [] [] [] N (.c (pJ N)<|.nil) .nil
def nf:dr:=⟨g6 [.p (.k i7),.v ci,.v (.c (.sl 6)),.v (.st 0),.v ci],[g6 [.v ci]],λx=>gj N⟩
theorem zeA:f9 116 (nf N):=og (g:=116) N .nil .nil
def kA:dr:=⟨g6 [.ag [.k i7,.k i7],.v (.st 5)],[.mk [.v (.st 18),.v cb] [] [] [] [] [(393231,[gA [.v (.st 14),.v cb] 0]),(4063271,[gA [.v ci] 1])]],λa=>zbf N a⟩
theorem jV:f9 50 (kA N):=og (g:=50) N .nil (.c (qx N)<|.c (zeA N)<|.nil)
def oL:dr:=⟨g6 [.p (.k i7)],[g6 [.v ci]],λx=>zdH N⟩
theorem zeN:f9 51 (oL N):=og (g:=51) N .nil .nil
def lW:dr:=⟨g6 [.p (.k i7),.v ci,.v (.c (.sl 6))],[g6 [.v ci]],λx=>zck N⟩
theorem lS:f9 42 (lW N):=og (g:=42) N .nil .nil
def tK:dr:=⟨g6 [.p (.k i7)],[.mk [.v (.st 19),.v ci] [] [] [(53,14),(70,14)] [(250,⟨[.r 23 ci,.w 3 14,.w 4 14],[],[(1050624,14),(1050625,14)],[(2,0,3),(2,1,4)]⟩),(2003,⟨[.w 3 14,.w 4 14],[],[],[(2,0,3),(2,1,4)]⟩)] [(393229,[gA [.ag [.k i7,.k i7],.v ci] 0]),(8126485,[gA [.v (.c (.sl 5))] 1]),(4200857630,[gA [.v cb] 2]),(4200988707,[gA [.v (.st 18),.v cb] 3]),(67217260591,[gA [.v ci] 4]),(268869435456,[gA [.v ci] 5])]],λx=>mR N⟩
theorem tO:f9 12 (tK N):=og (g:=12) N .nil (.c (rJ N)<|.c (vB N)<|.c (yB N)<|.c (jV N)<|.c (zeN N)<|.c (lS N)<|.nil)
def GO:bD:=⟨[ci,ci,ci],[cb],λa=>OL N a.1 a.2.1 a.2.2.1⟩
theorem pP:eP 160 (GO N):=tg [] [] [] N .nil .nil
end Go.Abs
end
end
section
set_option maxRecDepth 100000
noncomputable section
namespace Go.Abs
open Go.Proofs
variable[Gl](N:Nat)
def zI:bD:=⟨[.st 5],[cb],λa=>gK N a.1⟩
theorem Ag:eP 193 (zI N):=tg [] [(58,j8 [.r 12 ci])] [] N (.c (pP N)<|.nil) .nil
def Kq:bD:=⟨[ci],[.c .str],λa=>wi N a.1⟩
theorem Jg:eP 252 (Kq N):=tg [] [] [] N .nil .nil
def GD:bD:=⟨[ci],[cb],λa=>jH N a.1⟩
theorem x_:eP 208 (GD N):=tg [] [] [] N .nil .nil
def IP:bD:=⟨[ci],[cb],λa=>VU N a.1⟩
theorem im:eP 134 (IP N):=tg [] [] [] N .nil .nil
def An:bD:=⟨[.st 5],[cb],λa=>gH N a.1⟩
theorem Ai:eP 194 (An N):=tg [] [(51,j8 [.r 8 cb]),(207,j8 [.r 17 cb])] [] N (.c (Jg N)<|.c (im N)<|.c (x_ N)<|.nil) .nil
def JJ:bD:=⟨[.st 5],[cb],λa=>zeK N a.1⟩
theorem ze9:eP 132 (JJ N):=tg [] [] [] N (.c (pP N)<|.c (VZ N)<|.c (Ag N)<|.c (Ai N)<|.nil) .nil
def gR:bD:=⟨[.c (.sl 4)],[.c (.sl 4)],λa=>zaB N a.1⟩
theorem zbK:eP 162 (gR N):=ux (i:=4) (sz:=16) (z:=[g8,.c (.lit (.bool false))]) (fn:=Tryz.f162) dE (by kernel_rfl) (by kernel_rfl) (by kernel_rfl) rfl
def IV:bD:=⟨[.st 5],[.st 5],λa=>jp N a.1⟩
theorem l_:eP 119 (IV N):=tg [] [] [] N (.c (zbK N)<|.nil) .nil
def oM:dr:=⟨.mk [.p (.pt 0 0 2),.v ci] [] [.cells [xi,.hd 1],.row 5] [] [] [],[.mk [.v ci,.v cb] [] [] [] [] [(393229,[.mk [.v ci] [] [] [] [(28,j8 [.r 5 ci,.r 6 ci])] [(59375636,[g6 [.v cb]])]])]],λ(a,b,_)=>zaG N a b⟩
theorem zc0:f9 156 (oM N):=og (g:=156) N .nil .nil
def zea:dr:=⟨.mk [.p (.hd 0),.v ci,.p (.hd 1)] [] [.row 5,.row 5] [] [] [],[.mk [.p (.hd 0)] [.w 0 5] [] [] [] []],λ(a,b,d)=>zbl N a b d⟩
theorem zd6:f9 167 (zea N):=og (g:=167) N .nil .nil
def pD:dr:=⟨.mk [.p (.pt 0 0 2),.v (.st 5)] [] [.cells [xi,.hd 1],.row 5] [] [] [],[.mk [.v ci] [.h 0 1 (.hd 1),.w 1 5] [] [(38,5)] [] [(1966096,[gA [.v ci,.v cb] 0]),(16646183,[.mk [.p (.hd 1)] [.w 1 5] [] [(1000000,1)] [] []])]],λ(a,b,d)=>zbW N a b d⟩
theorem zfa:f9 106 (pD N):=og (g:=106) N (.c (ze9 N)<|.c (l_ N)<|.nil) (.c (zc0 N)<|.c (zd6 N)<|.nil)
def ES:bD:=⟨[ci],[ci],λa=>gu N a.1⟩
theorem mK:eP 104 (ES N):=tg [] [] [] N .nil .nil
def nR:dr:=⟨.mk [.p (.pt 0 0 27),.v ci] [] [g7 1 2 3,.cells [xi,.hd 4],.cells [xl 0,.mr 5],.row 1,.row 5,.mp 7 true] [] [] [],[.mk [] [.w 3 1,.h 0 25 (.hd 3)] [] [] [] []],λ(a,_,_,b,_,_,_,_,_,_,_,_,_,_,_,_,_,_,_,_,_,_,_,_,_,_,_,_,_,_)=>zbb N a b⟩
theorem zey:f9 150 (nR N):=og (g:=150) N (.c (mK N)<|.nil) .nil
def qi:dr:=⟨.mk [.p (.pt 0 0 27),.v (.st 5)] [] [g7 1 2 3,.cells [xi,.hd 4],.cells [xl 0,.mr 5],.row 1,.row 5,.mp 7 true] [] [] [],[.mk [.v ci] [.h 1 1 (.hd 4),.w 4 5,.h 0 21 (xi),.h 0 25 (.hd 3),.w 3 1] [] [] [] [(8126509,[.mk [.v ci] [.h 1 1 (.hd 4),.w 4 5] [] [(1000000,0)] [] []]),(16646203,[.mk [] [.w 3 1,.h 0 25 (.hd 3)] [] [(1000000,1)] [] []])]],λ(e,f,_,g,_,_,_,_,_,_,_,_,_,_,_,a,_,_,_,_,_,_,_,b,_,_,_,_,d,_)=>i_ N e f g a b d⟩
theorem pH:f9 87 (qi N):=og (g:=87) N (.c (ze9 N)<|.nil) (.c (zfa N)<|.c (zey N)<|.nil)
def oK:dr:=⟨.mk [.p (.pt 0 0 27),.v ci,.v ci,.v ci] [] [g7 1 2 3,.cells [xi,.hd 4],.cells [xl 0,.mr 5],.row 1,.row 5,.mp 7 true] [] [] [],[.mk [] [.h 0 21 (xi),.h 0 25 (.hd 3),.h 1 1 (.hd 4),.w 3 1,.w 4 5] [] [] [] [(65552,[.mk [.v ci] [.h 1 1 (.hd 4),.w 4 5,.h 0 21 (xi),.h 0 25 (.hd 3),.w 3 1] [] [(1000000,0)] [] []])]],λ(e,f,_,g,h,i,_,_,_,_,_,_,_,_,_,_,_,a,_,_,_,_,_,_,_,b,_,_,_,_,d,_)=>zcD N e f g h i a b d⟩
theorem oD:f9 41 (oK N):=og (g:=41) N .nil (.c (pH N)<|.nil)
def pE:dr:=⟨.mk [.p (.pt 0 0 2),.v ci] [] [.cells [xi,.hd 1],.row 5] [] [] [],[.mk [.v (.st 5),.v cb] [] [] [] [] [(917518,[gA [.v ci,.v cb] 0])]],λ(a,b,_)=>zbo N a b⟩
theorem zdi:f9 100 (pE N):=og (g:=100) N (.c (l_ N)<|.nil) (.c (zc0 N)<|.nil)
def DS:bD:=⟨[.c (.sl 6)],[ci],λa=>oY N a.1⟩
theorem D_:eP 158 (DS N):=tg [] [(58,j8 [.r 3 ci,.r 8 ci])] [] N (.c (fM N)<|.nil) .nil
def p_:bD:=⟨[.c (.sl 1),ci],[ci],λa=>zd8 N a.1 a.2.1⟩
theorem pW:eP 207 (p_ N):=tg [] [(26,j8 [.r 8 ci])] [] N .nil .nil
def lX:bD:=⟨[.c (.sl 1),ci],[cb],λa=>zb9 N a.1 a.2.1⟩
theorem lz:eP 159 (lX N):=tg [] [] [] N (.c (pW N)<|.nil) .nil
def EC:bD:=⟨[.st 10,.st 5,.c (.sl 6)],[cb],λa=>ze1 N a.1 a.2.1 a.2.2.1⟩
theorem nr:eP 101 (EC N):=tg [] [(6,j8 [.r 22 cb]),(250,j8 [.r 47 ci])] [] N (.c (lz N)<|.c (zeG N)<|.c (D_ N)<|.nil) .nil
def MY:bD:=⟨[ci],[cb],λa=>eL N a.1⟩
theorem kk:eP 90 (MY N):=tg [] [] [] N .nil .nil
def JA:bD:=⟨[ci,ci],[ci,cb],λa=>v_ N a.1 a.2.1⟩
theorem IY:eP 161 (JA N):=tg [] [(53247,j8 [.r 48 cb]),(212991,j8 [.r 55 cb])] [] N (.c (kk N)<|.c (x_ N)<|.nil) .nil
def Lv:bD:=⟨[.st 5,ci,ci,cb],[.st 5,ci],λa=>uA N a.1 a.2.1 a.2.2.1 a.2.2.2.1⟩
theorem Cf:eP 102 (Lv N):=tg [] [(6,j8 [.r 20 cb]),(1023,j8 [.h 0 11 (.bool),.h 0 12 (.bool),.h 0 15 (.int .i64)]),(2047,j8 [.h 0 16 (.int .i64)]),(8186,j8 [.h 0 12 (.bool)])] [] N (.c (IY N)<|.c (zbK N)<|.c (im N)<|.c (ze9 N)<|.c (pP N)<|.nil) .nil
def zeP:dr:=⟨g6 [.v (.c (.sl 0))],[.mk [.p (.hd 0)] [] [.row 0] [] [] []],λx=>za6 N x⟩
theorem zcp:f9 152 (zeP N):=mH (i:=0) (sz:=32) (z:=[g8,g8,g8,g8]) (fn:=Tryz.f152) dE (by kernel_rfl) (by kernel_rfl) (by kernel_rfl) rfl
def kj:dr:=⟨.mk [.p (.pt 0 0 2),.ag [xi,xi,xi,xi,xi,.hd 1],.p (.k (.c (.fn (.func 165) [] [])))] [] [.cells [xl 0,.mr 2],.row 6,.mp 7 true] [] [] [],[.mk [.v (.c (.sl 0)),.v ci] [] [] [] [(58,⟨[.r 21 ci,.w 4 0],[(8,4)],[],[]⟩)] [(393233,[.mk [.p (.hd 4)] [] [.row 0] [(1000000,0)] [] []])]],λ(a,_,_,b,d,e,f,g)=>zez N a b d e f g⟩
theorem jW:f9 164 (kj N):=og (g:=164) N (.c (mf N)<|.c (yG N)<|.nil) (.c (zcp N)<|.nil)
def zeM:bD:=⟨[.c (.sl 6)],[.c (.sl 6)],λa=>zbw N a.1⟩
theorem zeE:eP 183 (zeM N):=ux (i:=6) (sz:=16) (z:=[g8,g8]) (fn:=Tryz.f183) dE (by kernel_rfl) (by kernel_rfl) (by kernel_rfl) rfl
def Ga:bD:=⟨[.st 7],[.st 7],λa=>jC N a.1⟩
theorem yi:eP 122 (Ga N):=tg [] [] [] N (.c (zeE N)<|.nil) .nil
def zd5:dr:=⟨.mk [.p (.hd 0)] [] [.row 6] [] [] [],[.mk [.p (.hd 1)] [] [.row 6] [] [] []],λx=>zco N x⟩
theorem zeb:f9 183 (zd5 N):=Fj (ii:=6) (sz:=16) (z:=[g8,g8]) (fn:=Tryz.f183) dE (by kernel_rfl) (by kernel_rfl) (by kernel_rfl) rfl
def xA:dr:=⟨.mk [.ag [xi,xi,xi,xi,xi,.hd 0]] [] [.row 6] [] [] [],[.mk [.v (.st 7)] [] [] [] [] [(393221,[.mk [.p (.hd 3)] [] [.row 6] [(1000000,0)] [] []])]],λ(a,b,d,e,f,g)=>qU N a b d e f g⟩
theorem xz:f9 122 (xA N):=og (g:=122) N .nil (.c (zeb N)<|.nil)
def lw:dr:=⟨.mk [.p (.pt 0 0 2),.ag [xi,xi,xi,xi,xi,.hd 1]] [] [.cells [xl 0,.mr 2],.row 6,.mp 7 true] [] [] [],[.mk [.v ci] [.h 0 0 (xl 0),.m 2 7 true] [] [] [(14,j8 [.r 41 cb])] [(4063288,[gA [.v (.c (.sl 0)),.v ci] 0]),(33423433,[gA [.v (.st 7)] 1])]],λ(a,b,d,e,f,g,h,i)=>ze7 N a b d e f g h i⟩
theorem mc:f9 103 (lw N):=og (g:=103) N (.c (zeG N)<|.c (VZ N)<|.nil) (.c (jW N)<|.c (xz N)<|.nil)
def pL:dr:=⟨.mk [.p (.pt 0 0 2),.v (.st 5)] [] [.cells [xi,.hd 1],.row 5] [] [] [],[.mk [.v ci] [.w 1 5,.h 0 1 (.hd 1)] [] [] [] [(1966096,[gA [.v ci,.v cb] 0])]],λ(a,b,_)=>zcX N a b⟩
theorem pV:f9 166 (pL N):=og (g:=166) N (.c (ze9 N)<|.c (l_ N)<|.nil) (.c (zc0 N)<|.nil)
def ma:dr:=⟨.mk [.p (.pt 0 0 27),.v (.st 5),.v (.st 5)] [] [g7 1 2 3,.cells [xi,.hd 4],.cells [xl 0,.mr 5],.row 1,.row 5,.mp 7 true] [] [] [],[.mk [.v ci] [.h 1 1 (.hd 4),.w 4 5,.h 0 25 (.hd 3),.w 3 1] [] [] [(15,⟨[.w 3 1],[],[],[(0,25,3)]⟩)] [(786445,[.mk [.v ci] [.w 4 5,.h 1 1 (.hd 4)] [] [(1000000,0)] [] []]),(917524,[.mk [] [.w 3 1,.h 0 25 (.hd 3)] [] [(1000000,1)] [] []]),(7995421,[.mk [] [.w 3 1,.h 0 25 (.hd 3)] [] [(1000000,1)] [] []])]],λ(a,b,_,d,e,_,_,_,_,_,_,_,_,_,_,_,_,_,_,_,_,_,_,_,_,_,_,_,_,_,_)=>zbr N a b d e⟩
theorem zdZ:f9 105 (ma N):=og (g:=105) N .nil (.c (pV N)<|.c (zey N)<|.nil)
def oa:dr:=⟨.mk [.p (.pt 0 0 27),.v ci,.p (.hd 1)] [] [g7 2 3 4,.row 6,.cells [xi,.hd 5],.cells [xl 0,.mr 6],.row 1,.row 5,.mp 7 true] [] [] [],[.mk [.v ci] [.h 3 0 (xl 0),.m 6 7 true,.h 0 25 (.hd 4),.h 0 26 (xi),.h 2 1 (.hd 5),.w 4 1,.w 5 5] [] [] [] [(917524,[gA [.v (.st 5),.v cb] 0]),(133955641,[.mk [.v ci] [.h 3 0 (xl 0),.m 6 7 true] [] [(1000000,1)] [] []]),(268304458,[.mk [.v ci] [.h 2 1 (.hd 5),.w 5 5,.h 0 25 (.hd 4),.w 4 1] [] [(1000000,2)] [] []])]],λ(r,s,t,u,v,w,x,y,z,A,a,b,d,e,f,g,h,i,j,k,l,m,n,o,_,_,_,_,p,_,q)=>gg N r s t u v w x y z A a b d e f g h i j k l m n o p q⟩
theorem mZ:f9 42 (oa N):=og (g:=42) N (.c (nr N)<|.c (Cf N)<|.c (mK N)<|.nil) (.c (zdi N)<|.c (mc N)<|.c (zdZ N)<|.nil)
def ze4:dr:=⟨.mk [.p (.hd 0)] [] [.row 5] [] [] [],[.mk [.p (.hd 1)] [] [.row 5] [] [] []],λx=>zbI N x⟩
theorem ze2:f9 118 (ze4 N):=Fj (ii:=5) (sz:=152) (z:=[g8,g8,g8,g8,g8,g8,g8,g8,g8,j7,g8,.c (.lit (.bool false)),.c (.lit (.bool false)),g8,g8,g8,g8,g8]) (fn:=Tryz.f118) dE (by kernel_rfl) (by kernel_rfl) (by kernel_rfl) rfl
def pT:dr:=⟨.mk [.p (.pt 0 0 2)] [] [.cells [xi,.hd 1],.row 5] [] [] [],[.mk [.v (.c (.sl 5))] [] [] [] [(122,⟨[.r 15 ci,.w 2 5],[(3,2),(13,2)],[],[]⟩)] [(917516,[.mk [.p (.hd 2)] [] [.row 5] [(1000000,0)] [] []])]],λ(a,_)=>zcQ N a⟩
theorem pI:f9 55 (pT N):=og (g:=55) N (.c (l_ N)<|.nil) (.c (ze2 N)<|.nil)
def nI:dr:=⟨.mk [.p (.pt 0 0 2)] [] [.cells [xl 0,.mr 1],.mp 7 true] [] [] [],[.mk [.v (.c (.sl 7))] [] [] [(27,7)] [(122,⟨[.r 15 ci,.w 3 7],[(3,3)],[(3,7)],[]⟩)] [(3932172,[.mk [] [] [] [(1000002,0)] [] []]),(3932173,[gA [.v (.c (.sl 1))] 999999])]],λ(a,_)=>aY N a⟩
theorem nA:f9 56 (nI N):=og (g:=56) N (.c (yi N)<|.nil) .nil
def zdS:bD:=⟨[.c (.sl 8)],[.c (.sl 8)],λa=>zaP N a.1⟩
theorem zdR:eP 57 (zdS N):=ux (i:=8) (sz:=32) (z:=[g8,g8,g8,g8]) (fn:=Tryz.f57) dE (by kernel_rfl) (by kernel_rfl) (by kernel_rfl) rfl
def lH:dr:=⟨.mk [.p (.hd 0)] [] [.row 1] [] [] [],[.mk [.p (.hd 1)] [] [.row 1] [] [] []],λx=>zcb N x⟩
theorem lE:f9 58 (lH N):=Fj (ii:=1) (sz:=8) (z:=[g8]) (fn:=Tryz.f58) dE (by kernel_rfl) (by kernel_rfl) (by kernel_rfl) rfl
def nX:dr:=⟨.mk [.p (.pt 0 0 27)] [] [g7 1 2 3,.cells [xi,.hd 4],.cells [xl 0,.mr 5],.row 1,.row 5,.mp 7 true] [] [] [],[.mk [.v (.st 20)] [] [] [] [] [(917526,[gA [.v (.c (.sl 5))] 0]),(917531,[gA [.v (.c (.sl 7))] 1]),(917547,[.mk [.p (.hd 7)] [] [.row 1] [(1000000,2)] [] []])]],λ(h,i,j,_,_,_,_,_,_,_,_,_,_,_,_,_,_,_,_,_,_,a,b,d,e,f,g,_,_)=>VR N h i j a b d e f g⟩
theorem zbe:f9 15 (nX N):=og (g:=15) N (.c (zdR N)<|.c (zdg N)<|.nil) (.c (pI N)<|.c (nA N)<|.c (lE N)<|.nil)
def pQ:dr:=⟨.mk [.p (.pt 0 0 27),.v ci] [] [g7 1 2 3,.cells [xi,.hd 4],.cells [xl 0,.mr 5],.row 1,.row 5,.mp 7 true] [] [] [],[.mk [.v (.st 5),.v cb] [] [] [] [] [(917518,[gA [.v (.st 5),.v cb] 0])]],λ(_,a,_,b,_,_,_,_,_,_,_,_,_,_,_,_,_,_,_,_,_,_,_,_,_,_,_,_,_,_)=>zbq N a b⟩
theorem ze8:f9 52 (pQ N):=og (g:=52) N .nil (.c (zdi N)<|.nil)
def Kg:bD:=⟨[.st 5],[ci],λa=>wE N a.1⟩
theorem JF:eP 124 (Kg N):=tg [] [(6,j8 [.r 11 cb])] [] N (.c (ze9 N)<|.c (kk N)<|.nil) .nil
def oB:dr:=⟨.mk [.p (.pt 0 0 27)] [] [g7 1 2 3,.cells [xi,.hd 4],.cells [xl 0,.mr 5],.row 1,.row 5,.mp 7 true] [] [] [],[g6 [.v (.st 10)]],λ(_,_,_,m,n,o,p,q,r,s,a,b,d,e,f,g,h,i,j,k,l,_,_,_,_,_,_,_,_)=>zaO N m n o p q r s a b d e f g h i j k l⟩
theorem zbV:f9 89 (oB N):=og (g:=89) N (.c (iy N)<|.nil) .nil
def GK:bD:=⟨[.st 8,ci],[cb],λa=>rO N a.1 a.2.1⟩
theorem Ge:eP 198 (GK N):=tg [] [] [] N .nil .nil
def GL:bD:=⟨[.c (.sl 8),ci,ci,ci],[cb],λa=>fV N a.1 a.2.1 a.2.2.1 a.2.2.2.1⟩
theorem yk:eP 138 (GL N):=tg [] [(26,j8 [.r 13 ci])] [] N .nil .nil
def Gw:bD:=⟨[.c (.sl 8),ci],[cb],λa=>mL N a.1 a.2.1⟩
theorem yh:eP 137 (Gw N):=tg [] [(58,j8 [.r 12 ci]),(3737,j8 [.r 47 cb])] [] N (.c (Ge N)<|.c (yk N)<|.nil) .nil
def zN:bD:=⟨[.c (.sl 21),ci,ci],[cb],λa=>gO N a.1 a.2.1 a.2.2.1⟩
theorem zU:eP 184 (zN N):=tg [] [(26,j8 [.r 11 ci]),(1689,j8 [.r 36 cb])] [] N (.c (zeG N)<|.c (VZ N)<|.nil) .nil
def IF:bD:=⟨[ci,.st 0],[.c (.sl 15),ci],λa=>wM N a.1 a.2.1⟩
theorem Ja:eP 185 (IF N):=tg [(10,15)] [] [] N (.c (iM N)<|.nil) .nil
def nW:dr:=⟨.mk [.p (.pt 0 0 3),.v ci,.v ci,.v (.c (.sl 6)),.v (.st 0)] [] [.cells [xi,.hd 1,.hd 2],.row 2,.row 16] [] [] [],[.mk [.v ci] [.h 0 2 (.hd 2),.w 2 16] [] [(20,16)] [(58,⟨[.r 23 ci,.w 4 16],[(11,4)],[],[]⟩),(122,⟨[.r 62 ci,.w 2 16],[],[],[(0,2,2)]⟩)] []],λ(_,a,b,d,e,f,_)=>zbc N a b d e f⟩
theorem nl:f9 179 (nW N):=og (g:=179) N (.c (mf N)<|.c (pM N)<|.nil) .nil
end Go.Abs
end
end
section
set_option maxRecDepth 100000
noncomputable section
namespace Go.Abs
open Go.Proofs
variable[Gl](N:Nat)
def zJ:dr:=⟨.mk [.v (.st 10),.v ci,.p (.hd 0),.v (.c (.sl 8))] [] [.row 21] [] [] [],[.mk [.p (.k i7),.v ci] [] [] [(69,2),(96,16)] [(6,j8 [.r 51 cb]),(122,⟨[.r 58 ci,.w 3 2],[],[(1050625,2)],[(2,1,3)]⟩),(250,⟨[.r 77 ci,.w 4 16],[],[(1050626,16)],[(2,2,4)]⟩),(506,⟨[.r 103 ci,.w 4 16],[],[],[(2,2,4)]⟩),(1018,⟨[.r 122 ci,.w 4 16],[],[],[(2,2,4)]⟩),(8147,⟨[.w 4 16],[],[],[(2,2,4)]⟩)] [(4247912563,[.mk [.v ci] [.h 2 2 (.hd 4),.w 4 16] [] [(1000000,0)] [] []])],.mk [.p (.pt 1 0 3),.p (.k g8)] [] [.cells [xi,xl 2,.hd 2],.row 16] [] [] []],λ(a,b,d,e)=>zeF N a b d e⟩
theorem AQ:f9 125 (zJ N):=og (g:=125) N (.c (zdg N)<|.c (Ja N)<|.c (pM N)<|.c (zbU N)<|.c (yh N)<|.c (zU N)<|.nil) (.c (nl N)<|.nil)
def rQ:dr:=⟨.mk [.p (.pt 0 0 27)] [] [g7 1 2 3,.cells [xi,.hd 4],.cells [xl 0,.mr 5],.row 1,.row 5,.mp 7 true] [] [] [],[.mk [.p (.k i7),.v ci] [] [] [(17,21),(40,21)] [(250,⟨[.r 21 ci,.w 7 21],[(5,7)],[],[]⟩)] [(917517,[gA [.v (.st 20)] 0]),(8257580,[gA [.v (.st 10)] 2]),(8257586,[gA [.p (.k i7),.v ci] 3,.mk [.p (.pt 8 0 3),.p (.k g8)] [] [.cells [xi,xl 2,.hd 9],.row 16] [] [] []]),(2100428829,[gA [.v (.st 5),.v cb] 1])],.mk [.p (.pt 6 0 3),.p (.k g8)] [] [.cells [xi,xl 2,.hd 7],.row 16] [] [] []],λ(s,t,u,v,w,x,y,z,A,E,a,b,d,e,f,g,h,i,j,k,l,m,n,o,p,q,r,_,_)=>zdq N s t u v w x y z A E a b d e f g h i j k l m n o p q r⟩
theorem rS:f9 61 (rQ N):=og (g:=61) N (.c (JF N)<|.nil) (.c (zbe N)<|.c (ze8 N)<|.c (zbV N)<|.c (AQ N)<|.nil)
def rK:dr:=⟨.mk [.p (.pt 0 0 27)] [] [g7 1 2 3,.cells [xi,.hd 4],.cells [xl 0,.mr 5],.row 1,.row 5,.mp 7 true] [] [] [],[.mk [.ag [.k i7,.pt 0 0 27],.v ci] [] [] [] [] [(393224,[gA [.p (.k i7),.v ci] 0,.mk [.p (.pt 7 0 3),.p (.k g8)] [] [.cells [xi,xl 2,.hd 8],.row 16] [] [] []])],.mk [.ag [.pt 6 0 3,.pt 0 0 27],.p (.k g8)] [] [.cells [xi,xl 2,.hd 7],.row 16] [] [] []],λ(s,t,u,v,w,x,y,z,A,E,a,b,d,e,f,g,h,i,j,k,l,m,n,o,p,q,r,_,_)=>zcv N s t u v w x y z A E a b d e f g h i j k l m n o p q r⟩
theorem iH:f9 47 (rK N):=og (g:=47) N .nil (.c (rS N)<|.nil)
def JD:bD:=⟨[ci,.c (.sl 5)],[.st 5,cb],λa=>wH N a.1 a.2.1⟩
theorem IU:eP 221 (JD N):=tg [] [(26,j8 [.r 9 ci])] [] N .nil .nil
def K_:bD:=⟨[.st 4,.st 5],[cb],λa=>FB N a.1 a.2.1⟩
theorem NC:eP 222 (K_ N):=tg [] [] [] N (.c (im N)<|.nil) .nil
def ML:bD:=⟨[.st 5,.c (.sl 5)],[cb],λa=>qu N a.1 a.2.1⟩
theorem MV:eP 173 (ML N):=tg [] [(26,j8 [.r 12 ci]),(3379,j8 [.r 30 cb])] [] N (.c (IU N)<|.c (NC N)<|.nil) .nil
def Bl:bD:=⟨[.c (.sl 5)],[.c (.sl 5)],λa=>fF N a.1⟩
theorem qM:Wm Tryz.prog 172 (Bl N):=able_ok (i:=5) (gm:=173) (so:=10) (ti:=3) (tb:=4) (z:=[g8,g8,g8,g8,g8,g8,g8,g8,g8,j7,g8,.c (.lit (.bool false)),.c (.lit (.bool false)),g8,g8,g8,g8,g8]) (fn:=Tryz.f172) (st:=λ(a:aL)=>a.State) (met:=λ(a:aL) (l:List aL)=>qu N a l) dE (by kernel_rfl) (by kernel_rfl) (MV N) rfl (λa=>by kernel_rfl) (λx y=>by kernel_rfl) (λx=>by kernel_rfl) (λx=>by kernel_rfl) (λx=>by kernel_rfl)
def CI:bD:=⟨[ci],[ci],λa=>iC N a.1⟩
theorem Df:eP 288 (CI N):=tg [] [] [] N (.c (fM N)<|.nil) .nil
def LU:bD:=⟨[ci,ci],[ci],λa=>zV N a.1 a.2.1⟩
theorem Nq:eP 289 (LU N):=tg [] [] [] N .nil .nil
def FZ:bD:=⟨[.st 10,.st 5,ci,.c (.sl 1)],[.st 11],λa=>yD N a.1 a.2.1 a.2.2.1 a.2.2.2.1⟩
theorem GI:eP 259 (FZ N):=tg [] [(15,j8 [.r 9 ci]),(31,j8 [.r 10 ci])] [] N (.c (zbU N)<|.c (Nq N)<|.c (fM N)<|.c (Df N)<|.nil) .nil
def PM:bD:=⟨[.st 10,.st 5,ci,.c (.sl 1)],[ci],λa=>DI N a.1 a.2.1 a.2.2.1 a.2.2.2.1⟩
theorem PD:eP 223 (PM N):=tg [] [] [] N (.c (GI N)<|.nil) .nil
def Oj:bD:=⟨[.st 10,.st 5,.st 22],[.st 23],λa=>qF N a.1 a.2.1 a.2.2.1⟩
theorem Ol:eP 174 (Oj N):=tg [] [] [] N (.c (PD N)<|.nil) .nil
def BR:bD:=⟨[ci],[cb],λa=>cmp_isNaN_int N a.1⟩
theorem Bq:eP 292 (BR N):=tg [] [] [] N .nil .nil
def zl:bD:=⟨[ci,ci],[ci],λa=>fK N a.1 a.2.1⟩
theorem yS:eP 261 (zl N):=tg [] [] [] N (.c (Bq N)<|.nil) .nil
def ng:bD:=⟨[.c (.sl 1),.c (.sl 1)],[ci],λa=>zaz N a.1 a.2.1⟩
theorem zeB:eP 226 (ng N):=tg [] [(26,j8 [.r 11 ci])] [] N (.c (yS N)<|.nil) .nil
def ze3:dr:=⟨.mk [.p (.hd 0),.v ci,.v ci,.v ci,.p (.fb 225 1 1)] [] [.row 1,.cells [xl 23]] [] [] [],[.mk [] [.w 0 1] [] [] [(63,j8 [.r 20 ci,.r 21 ci]),(172,j8 [.r 10 ci,.r 11 ci]),(428,j8 [.r 14 ci,.r 15 ci]),(698,⟨[.r 13 ci,.w 0 1],[(0,0)],[],[]⟩),(1020,j8 [.r 20 ci,.r 21 ci]),(1023,⟨[.w 0 1],[(0,0)],[],[]⟩),(1722,⟨[.r 17 ci,.w 0 1],[(0,0)],[],[]⟩),(2047,⟨[.w 0 1],[(0,0)],[],[]⟩),(8186,⟨[],[(0,0)],[],[]⟩),(16378,⟨[],[(0,0)],[],[]⟩)] [(361365553,[.mk [.v ci] [] [] [(9,1),(13,1)] [] []]),(536477887,[.mk [] [.w 0 1] [] [] [(28,⟨[.r 10 ci,.r 11 ci,.w 0 1],[(0,0)],[],[]⟩),(1812,⟨[],[(0,0)],[],[]⟩),(1814,⟨[],[(0,0)],[],[]⟩)] [(983097,[.mk [] [.w 0 1] [] [] [(6,⟨[.r 10 ci,.w 0 1],[(0,0)],[],[]⟩)] []]),(118751263,[.mk [] [.w 0 1] [] [] [(6,⟨[.r 10 ci,.w 0 1],[(0,0)],[],[]⟩)] []]),(118882350,[.mk [] [.w 0 1] [] [] [(6,⟨[.r 10 ci,.w 0 1],[(0,0)],[],[]⟩)] []])]]),(898236517,[.mk [.v ci] [] [] [(9,1),(13,1)] [] []]),(1073348813,[.mk [] [.w 0 1] [] [(1000000,0)] [] []]),(1073610971,[.mk [] [.w 0 1] [] [(1000000,0)] [] []]),(2139750569,[.mk [.v ci] [] [] [(9,1),(13,1)] [] []])]],λ(a,b,d,e,f)=>za8 N a b d e f⟩
theorem zcw:∀N:Nat,f9 291 (ze3 N)
 |0=>⟨by kernel_rfl,λx y a b d z e f h=>by cases h⟩
 |N+1=>og (g:=291) N (.c (zeB N)<|.nil) (.c (zcw N)<|.nil)
def xN:bD:=⟨[.c (.sl 23)],[.c (.sl 1)],λa=>zeR N a.1⟩
theorem wW:eP 175 (xN N):=tg [(7,1)] [(30,⟨[],[(3,0)],[],[]⟩),(58,⟨[.r 10 ci,.w 1 1],[(3,1)],[],[]⟩)] [(1966100,[.mk [] [.w 1 1] [] [] [] [(65544,[.mk [] [.w 1 1] [] [] [(28,⟨[.r 7 ci,.r 8 ci,.w 1 1],[(0,1)],[],[]⟩),(30,⟨[],[(0,0)],[],[]⟩),(62,⟨[.r 6 ci,.w 1 1],[(0,1)],[],[]⟩),(452,⟨[],[(0,0)],[],[]⟩),(1995,⟨[.w 1 1],[(0,1)],[],[]⟩),(3988,⟨[.r 7 ci,.r 8 ci,.w 1 1],[(0,1)],[],[]⟩),(31926,⟨[],[(0,0)],[],[]⟩),(63812,⟨[],[(0,0)],[],[]⟩)] [(1966107,[.mk [] [.w 1 1] [] [] [(6,⟨[.r 8 ci,.w 1 1],[(0,1)],[],[]⟩),(402,⟨[.r 9 ci,.w 1 1],[(0,1)],[],[]⟩),(1608,j8 [.r 34 cb])] [(210763808,[.mk [.v ci] [] [] [(9,1),(13,1)] [] []])]]),(29622290,[.mk [] [.w 1 1] [] [] [(6,⟨[.r 8 ci,.w 1 1],[(0,1)],[],[]⟩),(402,⟨[.r 9 ci,.w 1 1],[(0,1)],[],[]⟩),(1608,j8 [.r 34 cb])] [(210763808,[.mk [.v ci] [] [] [(9,1),(13,1)] [] []])]]),(2092302396,[.mk [] [.w 1 1] [] [(1000000,0)] [] []]),(4181983275,[.mk [] [.w 1 1] [] [(1000000,0)] [] []])]])]])] N (.c (zeB N)<|.nil) (.c (zcw N)<|.nil)
def xP:dr:=⟨.mk [.v (.st 10),.p (.hd 0),.v (.st 22)] [] [.row 5] [] [] [],[.mk [.v (.c (.sl 5))] [] [] [(19,23),(37,5),(55,5)] [(122,⟨[.r 22 ci,.w 3 23],[(7,3)],[],[]⟩),(252,⟨[],[],[(7,23)],[]⟩),(506,⟨[.r 41 ci,.w 4 5],[(10,4)],[],[]⟩)] []],λ(a,b,d)=>zeU N a b d⟩
theorem xQ:f9 114 (xP N):=og (g:=114) N (.c (zbU N)<|.c (Ol N)<|.c (wW N)<|.c (zbK N)<|.nil) .nil
def vi:dr:=⟨.mk [.p (.pt 0 0 27)] [] [g7 1 2 3,.cells [xi,.hd 4],.cells [xl 0,.mr 5],.row 1,.row 5,.mp 7 true] [] [] [],[.mk [.v (.c (.sl 5))] [] [] [(16,5)] [(250,⟨[.w 9 5],[],[(1055744,5)],[(7,0,9)]⟩)] [(917513,[gA [.v (.st 20)] 0]),(8126476,[.mk [] [] [] [(1000002,0)] [] []]),(8257555,[gA [.v (.st 10)] 1]),(8257562,[gA [.v (.c (.sl 5))] 2])]],λ(s,t,u,v,w,x,y,z,A,E,a,b,d,e,f,g,h,i,j,k,l,m,n,o,p,q,r,_,_)=>zcq N s t u v w x y z A E a b d e f g h i j k l m n o p q r⟩
theorem vT:f9 48 (vi N):=og (g:=48) N (.it (qM N)<|.nil) (.c (zbe N)<|.c (zbV N)<|.c (xQ N)<|.nil)
def FD:bD:=⟨[.st 10,ci],[cb],λa=>vr N a.1 a.2.1⟩
theorem FA:eP 176 (FD N):=tg [] [] [] N (.c (zbU N)<|.nil) .nil
def CK:bD:=⟨[.c (.sl 5),ci],[ci],λa=>mh N a.1 a.2.1⟩
theorem CR:eP 177 (CK N):=tg [] [] [(393223,[.mk [.v ci] [] [] [] [(58,j8 [.r 5 ci,.r 10 ci]),(467,j8 [.r 5 ci])] [(489816080,[g6 [.v cb]])]])] N (.c (kk N)<|.nil) .nil
def NP:bD:=⟨[.c (.sl 5),ci,ci],[ci],λa=>Ax N a.1 a.2.1 a.2.2.1⟩
theorem L_:eP 178 (NP N):=tg [] [] [(393225,[.mk [.v ci] [] [] [] [(58,j8 [.r 5 ci,.r 10 ci]),(467,j8 [.r 5 ci])] [(489816080,[g6 [.v cb]])]])] N (.c (kk N)<|.nil) .nil
def Jb:bD:=⟨[.st 10,.c (.sl 5),.st 5],[cb],λa=>mw N a.1 a.2.1 a.2.2.1⟩
theorem JG:eP 115 (Jb N):=tg [] [] [] N (.c (FA N)<|.c (CR N)<|.c (L_ N)<|.nil) .nil
def yo:dr:=⟨.mk [.p (.pt 0 0 27),.v ci] [] [g7 1 2 3,.cells [xi,.hd 4],.cells [xl 0,.mr 5],.row 1,.row 5,.mp 7 true] [] [] [],[.mk [.v cb] [] [] [] [(122,j8 [])] [(917514,[gA [.v (.st 20)] 0]),(3932173,[.mk [] [] [] [(1000002,0)] [] []]),(257163284,[gA [.v (.st 10)] 1])]],λ(t,u,v,w,x,y,z,A,E,F,a,b,d,e,f,g,h,i,j,k,l,m,n,o,p,q,r,s,_,_)=>zed N t u v w x y z A E F a b d e f g h i j k l m n o p q r s⟩
theorem zm:f9 49 (yo N):=og (g:=49) N (.it (qM N)<|.c (JG N)<|.nil) (.c (zbe N)<|.c (zbV N)<|.nil)
def pX:dr:=⟨.mk [.p (.pt 0 0 27),.p (.k i7),.v (.st 5)] [] [g7 1 2 3,.cells [xi,.hd 4],.cells [xl 0,.mr 5],.row 1,.row 5,.mp 7 true] [] [] [],[g6 [.v (.st 14),.v cb]],λx=>zeD N⟩
theorem pS:f9 62 (pX N):=og (g:=62) N .nil .nil
def jq:dr:=⟨.mk [.ag [.k i7,.pt 0 0 27],.v (.st 5)] [] [g7 1 2 3,.cells [xi,.hd 4],.cells [xl 0,.mr 5],.row 1,.row 5,.mp 7 true] [] [] [],[.mk [.v (.st 18),.v cb] [] [] [] [] [(393231,[gA [.v (.st 14),.v cb] 0]),(4063271,[gA [.v ci] 1])]],λ(_,_,_,a,_,_,_,_,_,_,_,_,_,_,_,_,_,_,_,_,_,_,_,_,_,_,_,_,_,_)=>zbf N a⟩
theorem zdl:f9 50 (jq N):=og (g:=50) N .nil (.c (pS N)<|.c (zeA N)<|.nil)
def kD:dr:=⟨.mk [.p (.pt 0 0 2),.v (.st 7),.p (.k (.c (.fn (.func 165) [] [])))] [] [.cells [xl 0,.mr 1],.mp 7 true] [] [] [],[.mk [.v (.c (.sl 0)),.v ci] [] [] [] [(58,⟨[.r 21 ci,.w 3 0],[(8,3)],[],[]⟩)] [(393233,[.mk [.p (.hd 3)] [] [.row 0] [(1000000,0)] [] []])]],λ(_,a,b)=>zbN N a b⟩
theorem jX:f9 164 (kD N):=og (g:=164) N (.c (mf N)<|.c (yG N)<|.nil) (.c (zcp N)<|.nil)
def lN:dr:=⟨.mk [.p (.pt 0 0 2),.v (.st 7)] [] [.cells [xl 0,.mr 1],.mp 7 true] [] [] [],[.mk [.v ci] [.h 0 0 (xl 0),.m 1 7 true] [] [] [(14,j8 [.r 41 cb])] [(4063288,[gA [.v (.c (.sl 0)),.v ci] 0])]],λ(a,b,d)=>zaR N a b d⟩
theorem zcB:f9 103 (lN N):=og (g:=103) N (.c (yi N)<|.c (zeG N)<|.c (VZ N)<|.nil) (.c (jX N)<|.nil)
def mP:dr:=⟨.mk [.p (.pt 0 0 27),.v ci,.v (.c (.sl 6))] [] [g7 1 2 3,.cells [xi,.hd 4],.cells [xl 0,.mr 5],.row 1,.row 5,.mp 7 true] [] [] [],[.mk [.v ci] [.h 2 0 (xl 0),.m 5 7 true,.h 0 25 (.hd 3),.h 0 26 (xi),.h 1 1 (.hd 4),.w 3 1,.w 4 5] [] [] [] [(917524,[gA [.v (.st 5),.v cb] 0]),(133955641,[.mk [.v ci] [.h 2 0 (xl 0),.m 5 7 true] [] [(1000000,1)] [] []]),(268304458,[.mk [.v ci] [.h 1 1 (.hd 4),.w 4 5,.h 0 25 (.hd 3),.w 3 1] [] [(1000000,2)] [] []])]],λ(r,s,t,u,v,w,x,y,z,A,a,b,d,e,f,g,h,i,j,k,l,m,n,o,_,_,_,_,p,_,q)=>zbx N r s t u v w x y z A a b d e f g h i j k l m n o p q⟩
theorem nQ:f9 42 (mP N):=og (g:=42) N (.c (nr N)<|.c (Cf N)<|.c (mK N)<|.nil) (.c (zdi N)<|.c (zcB N)<|.c (zdZ N)<|.nil)
def nY:dr:=⟨.mk [.p (.hd 0)] [] [.row 1] [] [] [],[.mk [] [.w 0 1] [] [] [] []],λx=>zcl N x⟩
theorem nS:f9 181 (nY N):=sort_oo (ii:=1) Tryz.sortsI (d:=λk=>k) (c:=λk=>k) (λa=>rfl) (λk=>rfl) (by kernel_rfl)
def kI:dr:=⟨.mk [.p (.hd 0)] [] [.row 1] [] [] [],[.mk [.p (.hd 1)] [.w 0 1] [.row 1] [] [] []],λx=>zbO N x⟩
theorem kz:f9 235 (kI N):=Qb (ii:=1) Tryz.UV (d:=λk=>k) (c:=λk=>k) (λa=>rfl) (λk=>rfl) (by kernel_rfl)
def Kl:bD:=⟨[.st 0,.st 0],[.st 0],λa=>BB N a.1 a.2.1⟩
theorem JX:eP 276 (Kl N):=tg [] [] [] N .nil .nil
def Ec:bD:=⟨[.c (.sl 15),ci,ci],[.st 0],λa=>oU N a.1 a.2.1 a.2.2.1⟩
theorem FI:eP 236 (Ec N):=tg [] [(6,j8 [.r 26 cb]),(31,j8 [.h 1 0 (.int .i64),.h 1 1 (.int .i64),.h 1 2 (.int .i64),.h 1 3 (.int .i64)]),(250,j8 [.r 41 ci,.h 1 0 (.int .i64),.h 1 1 (.int .i64),.h 1 2 (.int .i64),.h 1 3 (.int .i64)])] [] N (.c (zcV N)<|.c (JX N)<|.c (iM N)<|.nil) .nil
def JB:bD:=⟨[.st 0,.st 0],[ci],λa=>mB N a.1 a.2.1⟩
theorem AW:eP 253 (JB N):=tg [] [(6,j8 [.r 21 cb]),(250,j8 [.r 5 ci,.r 26 ci]),(2003,j8 [.r 5 ci])] [] N (.c (vX N)<|.c (VZ N)<|.nil) .nil
def Jm:bD:=⟨[.c (.sl 0),ci,.st 0],[ci],λa=>qE N a.1 a.2.1 a.2.2.1⟩
theorem zD:eP 278 (Jm N):=tg [] [] [] N (.c (AW N)<|.nil) .nil
def Gn:bD:=⟨[.c (.sl 0),.c (.sl 1),.st 0],[ci],λa=>rN N a.1 a.2.1 a.2.2.1⟩
theorem Gx:eP 277 (Gn N):=tg [] [(58,j8 [.r 7 ci,.r 12 ci])] [] N (.c (zD N)<|.nil) .nil
def uH:dr:=⟨.mk [.p (.hd 0),.v (.c (.sl 1)),.v ci,.v (.st 0)] [] [.row 0] [] [] [],[.mk [.v (.c (.sl 6)),.v cb] [] [] [(48,6)] [(12,j8 [.r 24 cb]),(111,⟨[.w 2 6],[(10,2)],[(10,6)],[]⟩),(890,⟨[.r 11 ci,.r 28 ci,.w 2 6],[(10,2)],[],[]⟩),(7123,⟨[.r 11 ci,.w 2 6],[(10,2)],[],[]⟩)] []],λ(a,b,d,e)=>zes N a b d e⟩
theorem ut:f9 237 (uH N):=og (g:=237) N (.c (zD N)<|.c (Gx N)<|.nil) .nil
def mq:dr:=⟨.mk [.p (.pt 0 0 3),.v ci] [] [.cells [xi,xl 2,.hd 1],.row 16] [] [] [],[.mk [.v (.c (.sl 1))] [] [] [(52,1)] [(62,⟨[],[(5,0)],[],[]⟩),(122,⟨[.r 33 ci,.w 2 1],[(5,2)],[(5,1)],[]⟩),(31334,⟨[.r 45 ci,.w 2 1],[(5,2)],[],[]⟩)] [(4063289,[.mk [] [.w 2 1] [] [(1000000,0)] [] []]),(8257595,[.mk [.p (.hd 3)] [.w 2 1] [.row 1] [(1000000,1)] [] []])]],λ(a,b,_,d)=>zbZ N a b d⟩
theorem mg:f9 187 (mq N):=og (g:=187) N .nil (.c (nS N)<|.c (kz N)<|.nil)
def oe:dr:=⟨.mk [.p (.pt 0 0 3),.v ci,.v ci,.v (.st 0),.v ci,.v ci] [] [.cells [xi,xl 2,.hd 1],.row 16] [] [] [],[.mk [.v (.c (.sl 6)),.v cb] [] [] [(57,0)] [(122,⟨[.r 66 ci,.w 3 0],[(14,3)],[],[]⟩)] [(4063328,[gA [.v (.c (.sl 6)),.v cb] 0])]],λ(a,b,d,e,f,g,h,i)=>zaK N a b d e f g h i⟩
theorem oh:f9 188 (oe N):=og (g:=188) N (.c (FI N)<|.nil) (.c (ut N)<|.nil)
end Go.Abs
end
end
section
set_option maxRecDepth 100000
noncomputable section
namespace Go.Abs
open Go.Proofs
variable[Gl](N:Nat)
def jF:dr:=⟨.mk [.p (.pt 0 0 3),.v ci,.v ci,.v (.st 0),.v ci] [] [.cells [xi,xl 2,.hd 1],.row 16] [] [] [],[.mk [.v (.st 14),.v cb] [] [] [] [(3,j8 [.r 12 (.c (.sl 1)),.r 13 ci])] [(786450,[gA [.v (.c (.sl 1))] 0]),(8126498,[gA [.v (.c (.sl 6)),.v cb] 1]),(29098018,[gA [.v (.c (.sl 6)),.v cb] 1])]],λ(a,b,d,e,f,g,h)=>zaQ N a b d e f g h⟩
theorem jy:f9 126 (jF N):=og (g:=126) N .nil (.c (mg N)<|.c (oh N)<|.nil)
def qO:dr:=⟨.mk [.p (.pt 0 0 27),.p (.pt 1 0 3),.v (.st 5)] [] [g7 2 3 4,.cells [xi,xl 2,.hd 5],.cells [xi,.hd 6],.cells [xl 0,.mr 7],.row 1,.row 16,.row 5,.mp 7 true] [] [] [],[.mk [.v (.st 14),.v cb] [] [] [] [] [(917523,[gA [.v (.st 10)] 0]),(4063279,[gA [.v (.st 14),.v cb] 1])]],λ(_,q,_,_,r,s,t,u,v,w,a,b,d,e,f,g,h,i,j,k,l,m,n,_,_,_,_,_,_,o,p,_,_)=>zbC N q r s t u v w a b d e f g h i j k l m n o p⟩
theorem qz:f9 62 (qO N):=og (g:=62) N .nil (.c (zbV N)<|.c (jy N)<|.nil)
def lB:dr:=⟨.mk [.p (.pt 0 0 3),.v ci,.v ci,.v (.c (.sl 6)),.v (.st 0)] [] [.cells [xi,xl 2,.hd 1],.row 16] [] [] [],[.mk [.v ci] [.h 0 2 (.hd 1),.w 1 16] [] [(20,16)] [(58,⟨[.r 23 ci,.w 3 16],[(11,3)],[],[]⟩),(122,⟨[.r 62 ci,.w 1 16],[],[],[(0,2,1)]⟩)] []],λ(a,b,d,e,f,_,_)=>zbc N a b d e f⟩
theorem lR:f9 179 (lB N):=og (g:=179) N (.c (mf N)<|.c (pM N)<|.nil) .nil
def mW:dr:=⟨.mk [.p (.pt 0 0 3),.v ci,.v (.c (.sl 6)),.v (.st 0),.v ci] [] [.cells [xi,xl 2,.hd 1],.row 16] [] [] [],[.mk [.v ci] [.h 0 2 (.hd 1),.w 1 16] [] [] [(14,j8 [.r 45 cb])] [(1966133,[.mk [.v ci] [.h 0 2 (.hd 1),.w 1 16] [] [(1000000,0)] [] []])]],λ(a,b,d,e,f,g,_)=>zch N a b d e f g⟩
theorem nZ:f9 116 (mW N):=og (g:=116) N (.c (zeG N)<|.c (VZ N)<|.nil) (.c (lR N)<|.nil)
def ke:dr:=⟨.mk [.ag [.pt 0 0 3,.pt 1 0 27],.v (.st 5)] [] [.cells [xi,xl 2,.hd 2],g7 3 4 5,.row 16,.cells [xi,.hd 6],.cells [xl 0,.mr 7],.row 1,.row 5,.mp 7 true] [] [] [],[.mk [.v (.st 18),.v cb] [.h 0 2 (.hd 2),.w 2 16] [] [] [] [(393231,[gA [.v (.st 14),.v cb] 0]),(4063271,[.mk [.v ci] [.h 0 2 (.hd 2),.w 2 16] [] [(1000000,1)] [] []])]],λ(q,_,_,_,r,s,t,u,v,w,a,b,d,e,f,g,h,i,j,k,l,m,n,o,p,_,_,_,_,_,_,_,_)=>zaI N q r s t u v w a b d e f g h i j k l m n o p⟩
theorem zdx:f9 50 (ke N):=og (g:=50) N .nil (.c (qz N)<|.c (nZ N)<|.nil)
def oC:dr:=⟨.mk [.p (.pt 0 0 3)] [] [.cells [xi,xl 2,.hd 1],.row 16] [] [] [],[g6 [.v ci]],λ(_,a,_)=>zdG N a⟩
theorem oJ:f9 51 (oC N):=og (g:=51) N .nil .nil
def ub:dr:=⟨.mk [.p (.pt 0 0 27)] [] [g7 1 2 3,.cells [xi,.hd 4],.cells [xl 0,.mr 5],.row 1,.row 5,.mp 7 true] [] [] [],[.mk [.v (.st 19),.v ci] [.h 0 25 (.hd 3),.h 0 26 (xi),.h 1 1 (.hd 4),.h 2 0 (xl 0),.w 3 1,.w 4 5,.m 5 7 true] [] [(53,14),(70,14)] [(250,⟨[.r 23 ci,.h 0 26 (.int .i64),.h 2 0 (.sl 0),.w 3 1,.w 4 5,.m 5 7 true,.w 9 14,.w 10 14],[],[(1056769,14),(1056768,14)],[(0,25,3),(1,1,4),(8,0,10),(8,1,9)]⟩),(2003,⟨[.h 0 26 (.int .i64),.h 2 0 (.sl 0),.w 3 1,.w 4 5,.m 5 7 true,.w 9 14,.w 10 14],[],[],[(0,25,3),(1,1,4),(8,0,10),(8,1,9)]⟩),(13194139533562,⟨[.r 23 ci,.h 0 26 (.int .i64),.h 2 0 (.sl 0),.w 3 1,.w 4 5,.m 5 7 true,.w 8 16,.w 11 14,.w 12 14],[],[(1058817,14),(1058816,14)],[(0,25,3),(1,1,4),(7,2,8),(10,0,12),(10,1,11)]⟩),(15393162790867,⟨[.h 0 26 (.int .i64),.h 2 0 (.sl 0),.w 3 1,.w 4 5,.m 5 7 true,.w 8 16,.w 11 14,.w 12 14],[],[],[(0,25,3),(1,1,4),(7,2,8),(10,0,12),(10,1,11)]⟩)] [(393229,[gA [.ag [.k i7,.pt 0 0 27],.v ci] 0,.mk [.ag [.pt 7 0 3,.pt 0 0 27],.p (.k g8)] [] [.cells [xi,xl 2,.hd 8],.row 16] [] [] []]),(8126485,[gA [.v (.c (.sl 5))] 1]),(4200857630,[gA [.v cb] 2]),(4200988707,[gA [.v (.st 18),.v cb] 3]),(67217260591,[gA [.v ci] 4]),(268869435456,[.mk [.v ci] [.h 2 0 (xl 0),.m 5 7 true,.h 0 25 (.hd 3),.h 0 26 (xi),.h 1 1 (.hd 4),.w 3 1,.w 4 5] [] [(1000000,5)] [] []]),(16496875405347,[.mk [.v (.st 18),.v cb] [.h 7 2 (.hd 8),.w 8 16] [] [(1000000,6)] [] []]),(17659403305007,[gA [.v ci] 7])]],λ(t,u,v,w,x,y,z,A,E,F,a,b,d,e,f,g,h,i,j,k,l,m,n,o,p,q,r,_,s)=>zbB N t u v w x y z A E F a b d e f g h i j k l m n o p q r s⟩
theorem jk:f9 12 (ub N):=og (g:=12) N .nil (.c (iH N)<|.c (vT N)<|.c (zm N)<|.c (zdl N)<|.c (zeN N)<|.c (nQ N)<|.c (zdx N)<|.c (oJ N)<|.nil)
def tp:bD:=⟨[],[cb],λa=>fT N⟩
theorem sY:eP 9 (tp N):=tg [(14,6)] [] [(393223,[gA [.p (.k i7),.p (.k (.c (.lit (.int .i64 2))))] 0,.mk [.p (.pt 0 0 27),.p (.k g8)] [] [g7 1 2 3,.cells [xi,.hd 4],.cells [xl 0,.mr 5],.row 1,.row 5,.mp 7 true] [] [] []]),(917515,[gA [] 1]),(1966095,[gA [.v ci] 2]),(4063249,[gA [] 1]),(8257555,[gA [] 1]),(16646166,[gA [.v (.st 19),.v ci] 3]),(7696582311947,[.mk [] [.h 0 21 (xi),.h 0 25 (.hd 3),.h 1 1 (.hd 4),.w 3 1,.w 4 5] [] [(1000000,4)] [] []]),(8796094988303,[.mk [.v ci] [.h 2 0 (xl 0),.m 5 7 true,.h 0 25 (.hd 3),.h 0 26 (xi),.h 1 1 (.hd 4),.w 3 1,.w 4 5] [] [(1000000,5)] [] []]),(8796097085457,[.mk [] [.h 0 21 (xi),.h 0 25 (.hd 3),.h 1 1 (.hd 4),.w 3 1,.w 4 5] [] [(1000000,4)] [] []]),(8796101279763,[.mk [] [.h 0 21 (xi),.h 0 25 (.hd 3),.h 1 1 (.hd 4),.w 3 1,.w 4 5] [] [(1000000,4)] [] []]),(8796109668374,[.mk [.v (.st 19),.v ci] [.h 0 25 (.hd 3),.h 0 26 (xi),.h 1 1 (.hd 4),.h 2 0 (xl 0),.w 3 1,.w 4 5,.m 5 7 true] [] [(1000000,6)] [] []])] N (.c (tu N)<|.nil) (.c (yU N)<|.c (oH N)<|.c (oj N)<|.c (tO N)<|.c (oD N)<|.c (mZ N)<|.c (jk N)<|.nil)
def w_:bD:=⟨[.st 10],[cb],λa=>zeX N a.1⟩
theorem xK:eP 43 (w_ N):=tg [] [(58,j8 [.r 26 ci]),(122,j8 [.r 37 ci])] [] N .nil .nil
def xO:bD:=⟨[.c (.sl 5)],[cb],λa=>zeT N a.1⟩
theorem xR:eP 44 (xO N):=tg [] [(58,j8 [.r 10 ci])] [] N .nil .nil
def xE:bD:=⟨[.st 10,.st 20],[cb],λa=>zcI N a.1 a.2.1⟩
theorem xh:eP 10 (xE N):=tg [] [(6,j8 [.r 40 cb]),(58,j8 [.r 44 ci])] [] N (.c (xK N)<|.c (xR N)<|.nil) .nil
def CH:bD:=⟨[ci,ci,ci],[cb],λa=>zdm N a.1 a.2.1 a.2.2.1⟩
theorem sL:eP 131 (CH N):=tg [] [] [] N .nil .nil
def BL:bD:=⟨[.st 10,.st 20],[cb],λa=>jS N a.1 a.2.1⟩
theorem Bp:eP 68 (BL N):=tg [] [] [] N (.c (sL N)<|.nil) .nil
def DW:bD:=⟨[ci],[ci],λa=>oP N a.1⟩
theorem FJ:eP 133 (DW N):=tg [] [] [] N (.c (im N)<|.nil) .nil
def Gy:bD:=⟨[.st 10,.st 20],[cb],λa=>sf N a.1 a.2.1⟩
theorem Gt:eP 69 (Gy N):=tg [] [(122,j8 [.r 5 ci,.r 17 ci]),(62671,j8 [.r 72 cb])] [] N (.c (ze9 N)<|.c (FJ N)<|.nil) .nil
def Jo:bD:=⟨[.st 10,ci,.st 0],[ci],λa=>Bv N a.1 a.2.1 a.2.2.1⟩
theorem Kc:eP 195 (Jo N):=tg [] [(122,j8 [.r 7 ci,.r 30 ci])] [] N (.c (zbU N)<|.c (AW N)<|.nil) .nil
def IG:bD:=⟨[.st 10,ci,ci,.st 0],[cb],λa=>jD N a.1 a.2.1 a.2.2.1 a.2.2.2.1⟩
theorem JM:eP 135 (IG N):=tg [] [] [] N (.c (zbU N)<|.c (Kc N)<|.nil) .nil
def De:bD:=⟨[.st 5,ci],[ci],λa=>iB N a.1 a.2.1⟩
theorem Dh:eP 197 (De N):=tg [] [] [] N .nil .nil
def zbJ:bD:=⟨[.c (.sl 5),ci,.k 197],[ci,cb],λa=>zay N a.1 a.2.1⟩
theorem zbH:eP 196 (zbJ N):=tg [] [(60,j8 [.r 9 ci,.r 10 ci])] [] N (.c (Dh N)<|.nil) .nil
def GU:bD:=⟨[.c (.sl 5),ci],[ci,cb],λa=>nz N a.1 a.2.1⟩
theorem yj:eP 136 (GU N):=tg [] [] [] N (.c (zbH N)<|.nil) .nil
def By:bD:=⟨[.st 10,.st 20],[cb],λa=>jN N a.1 a.2.1⟩
theorem BO:eP 70 (By N):=tg [] [(26,j8 [.r 14 ci]),(211,j8 []),(27038,j8 [.r 33 ci])] [] N (.c (im N)<|.c (JM N)<|.c (yj N)<|.nil) .nil
def uE:bD:=⟨[.st 10,.st 20],[cb],λa=>zev N a.1 a.2.1⟩
theorem uN:eP 71 (uE N):=tg [] [(250,j8 [.r 7 (.c (.sl 7)),.r 23 ci,.h 2 0 (.sl 0),.m 3 7 true]),(2003,j8 [.r 7 (.c (.sl 7)),.h 2 0 (.sl 0),.m 3 7 true]),(256415,j8 [.r 74 cb,.h 2 0 (.sl 0),.m 3 7 true])] [(393229,[gA [.p (.k i7),.p (.k (.c (.lit (.int .i64 2))))] 0,.mk [.p (.pt 2 0 2),.p (.k g8)] [] [.cells [xl 0,.mr 3],.mp 7 true] [] [] []]),(33608826952,[.mk [.v ci] [.h 2 0 (xl 0),.m 3 7 true] [] [(1000000,1)] [] []])] N (.c (kk N)<|.c (nr N)<|.nil) (.c (ze5 N)<|.c (zcB N)<|.nil)
def Ar:bD:=⟨[.st 10,.st 20],[cb],λa=>ij N a.1 a.2.1⟩
theorem AR:eP 72 (Ar N):=tg [] [(58,j8 [.r 23 ci]),(122,j8 [.r 43 ci]),(125342,j8 [.r 60 ci])] [] N (.c (yh N)<|.c (yj N)<|.c (yk N)<|.nil) .nil
def Fc:bD:=⟨[.c (.sl 1)],[cb],λa=>pz N a.1⟩
theorem Ew:eP 139 (Fc N):=tg [] [(26,j8 [.r 7 ci])] [] N .nil .nil
def FN:bD:=⟨[.st 10,.st 20],[cb],λa=>pd N a.1 a.2.1⟩
theorem FM:eP 73 (FN N):=tg [] [(6,j8 [.r 18 cb]),(14,j8 [.r 33 cb]),(122,j8 [.r 38 ci])] [] N (.c (sL N)<|.c (Ew N)<|.nil) .nil
def EK:bD:=⟨[.st 10,.st 20],[cb],λa=>px N a.1 a.2.1⟩
theorem Fa:eP 20 (EK N):=tg [] [] [] N (.c (zbU N)<|.c (Bp N)<|.c (Gt N)<|.c (BO N)<|.c (uN N)<|.c (AR N)<|.c (FM N)<|.nil) .nil
def yL:dr:=⟨g6 [.v (.st 10)],[.mk [.p (.k i7),.p (.k (.c (.lit (.int .i64 2))))] [] [] [(37,1)] [] [(917517,[gA [.p (.k i7),.p (.k (.c (.lit (.int .i64 2))))] 0,.mk [.p (.pt 1 0 2),.p (.k g8)] [] [.cells [xi,xn]] [] [] []]),(4063253,[gA [.p (.k i7),.p (.k (.c (.lit (.int .i64 2))))] 1,.mk [.p (.pt 2 0 2),.p (.k g8)] [] [.cells [xl 0,.mr 3],.mp 7 true] [] [] []])],.mk [.p (.pt 0 0 27),.p (.k g8)] [] [.cells [.pt 1 0 2,.pt 2 0 2,xl 0,xl 2,xl 3,xi,xi,xi,xi,xi,xi,xi,xi,xi,xi,xi,xi,xi,xi,xi,xi,xi,xi,xn,xl 1,.hd 3,xi],.cells [xi,xn],.cells [xl 0,.mr 4],.row 1,.mp 7 true] [] [] []],λa=>fJ N a⟩
theorem yV:f9 39 (yL N):=og (g:=39) N (.c (zbU N)<|.c (iy N)<|.c (AT N)<|.nil) (.c (n_ N)<|.c (ze5 N)<|.nil)
def zdk:dr:=⟨g6 [.v (.c (.sl 8))],[.mk [.p (.hd 0)] [] [.row 8] [] [] []],λx=>za5 N x⟩
theorem zdj:f9 57 (zdk N):=mH (i:=8) (sz:=32) (z:=[g8,g8,g8,g8]) (fn:=Tryz.f57) dE (by kernel_rfl) (by kernel_rfl) (by kernel_rfl) rfl
def kW:dr:=⟨g6 [.v (.c (.sl 1))],[.mk [.p (.hd 0)] [] [.row 1] [] [] []],λx=>zbj N x⟩
theorem kY:f9 58 (kW N):=mH (i:=1) (sz:=8) (z:=[g8]) (fn:=Tryz.f58) dE (by kernel_rfl) (by kernel_rfl) (by kernel_rfl) rfl
def AO:dr:=⟨g6 [.v (.st 10),.v (.st 20)],[.mk [.p (.k i7),.v ci] [] [] [] [(250,⟨[.r 29 ci,.w 7 5],[],[(1051649,5)],[(3,1,7)]⟩),(506,j8 [.r 46 ci,.h 4 0 (.sl 0),.m 6 7 true])] [(917524,[gA [.p (.k i7),.p (.k (.c (.lit (.int .i64 2))))] 0,.mk [.p (.pt 2 0 27),.p (.k g8)] [] [.cells [.pt 3 0 2,.pt 4 0 2,xl 0,xl 2,xl 3,xi,xi,xi,xi,xi,xi,xi,xi,xi,xi,xi,xi,xi,xi,xi,xi,xi,xi,xn,xl 1,.hd 5,xi],.cells [xi,xn],.cells [xl 0,.mr 6],.row 1,.mp 7 true] [] [] []]),(33423438,[.mk [.p (.hd 8)] [] [.row 8] [(1000000,3)] [] []]),(66977876,[.mk [.p (.hd 9)] [] [.row 1] [(1000000,4)] [] []]),(134086747,[.mk [.p (.hd 10)] [] [.row 1] [(1000000,4)] [] []]),(2100428838,[.mk [.v ci] [.h 3 1 (.hd 7),.w 7 5] [] [(1000000,1)] [] []]),(4247912503,[.mk [.v ci] [.h 4 0 (xl 0),.m 6 7 true] [] [(1000000,2)] [] []])],.mk [.p (.pt 0 0 27),.p (.k g8)] [] [g7 1 2 3,.cells [xi,.hd 4],.cells [xl 0,.mr 5],.row 1,.row 5,.mp 7 true] [] [] []],λ(a,b)=>dG N a b⟩
theorem zB:f9 45 (AO N):=og (g:=45) N (.c (Fa N)<|.nil) (.c (yV N)<|.c (zfa N)<|.c (zcB N)<|.c (zdj N)<|.c (kY N)<|.nil)
def yw:bD:=⟨[ci,ci,ci],[cb],λa=>Be N a.1 a.2.1 a.2.2.1⟩
theorem zdM:eP 215 (yw N):=tg [] [] [] N .nil .nil
def tz:bD:=⟨[ci],[cb],λa=>zb8 N a.1⟩
theorem uc:eP 202 (tz N):=tg [] [] [] N .nil .nil
def tW:bD:=⟨[.st 0],[cb],λa=>zaV N a.1⟩
theorem zcR:eP 144 (tW N):=tg [] [] [] N (.c (uc N)<|.nil) .nil
def tJ:bD:=⟨[.st 10],[cb],λa=>zcW N a.1⟩
theorem tT:eP 216 (tJ N):=tg [] [(26,j8 [.r 3 ci])] [] N (.c (zcR N)<|.c (zdM N)<|.nil) .nil
def sm:bD:=⟨[.c (.sl 1),ci],[cb],λa=>zcu N a.1 a.2.1⟩
theorem gW:eP 257 (sm N):=tg [] [(26,j8 [.r 5 ci]),(420,j8 [.r 40 cb])] [] N .nil .nil
def sW:bD:=⟨[.st 10],[cb],λa=>zcO N a.1⟩
theorem tV:eP 217 (sW N):=tg [] [(26,j8 [.r 3 ci]),(420,j8 [.r 29 cb])] [] N (.c (gW N)<|.c (zdM N)<|.nil) .nil
def rP:bD:=⟨[.st 10],[cb],λa=>zcy N a.1⟩
theorem rL:eP 218 (rP N):=tg [] [(26,j8 [.r 3 ci]),(841,j8 [.r 59 cb])] [] N (.c (gW N)<|.c (zdM N)<|.nil) .nil
def uZ:bD:=⟨[.st 10],[.c .str],λa=>h_ N a.1⟩
theorem vO:eP 168 (uZ N):=tg [(28,24),(69,25)] [(7,j8 [.r 4 cb]),(506,j8 [.r 7 ci])] [] N (.c (tT N)<|.c (tV N)<|.c (zdM N)<|.c (rL N)<|.nil) .nil
def tw:bD:=⟨[.st 10],[cb],λa=>zcL N a.1⟩
theorem tc:eP 107 (tw N):=tg [] [] [] N (.c (vO N)<|.nil) .nil
def tx:bD:=⟨[ci],[cb],λa=>zbi N a.1⟩
theorem jd:eP 108 (tx N):=tg [] [] [] N .nil .nil
def vd:bD:=⟨[.c (.sl 5),ci],[ci],λa=>Wj N a.1 a.2.1⟩
theorem zcf:eP 21 (vd N):=tg [] [(26,j8 [.r 5 ci])] [] N .nil .nil
def tj:bD:=⟨[.c (.sl 6),ci],[cb],λa=>zby N a.1 a.2.1⟩
theorem jj:eP 76 (tj N):=tg [] [(26,j8 [.r 5 ci]),(420,j8 [.r 60 cb])] [] N .nil .nil
def yy:bD:=⟨[.c (.sl 6),ci],[ci],λa=>zdd N a.1 a.2.1⟩
theorem fR:eP 38 (yy N):=tg [] [(58,j8 [.r 5 ci,.r 6 ci]),(233,j8 [.r 5 ci])] [] N .nil .nil
def xH:bD:=⟨[.st 0,.st 0],[.st 0],λa=>YH N a.1 a.2.1⟩
theorem zdt:eP 36 (xH N):=tg [] [] [] N .nil .nil
end Go.Abs
end
end
section
set_option maxRecDepth 100000
noncomputable section
namespace Go.Abs
open Go.Proofs
variable[Gl](N:Nat)
def tf:bD:=⟨[.st 0,ci],[.st 0],λa=>zcU N a.1 a.2.1⟩
theorem jm:eP 37 (tf N):=tg [] [(58,j8 [.r 6 ci,.h 2 0 (.int .i64),.h 2 1 (.int .i64),.h 2 2 (.int .i64),.h 2 3 (.int .i64)])] [] N (.c (zdt N)<|.nil) .nil
def vu:bD:=⟨[.st 0,.st 0],[cb],λa=>QJ N a.1 a.2.1⟩
theorem zc4:eP 201 (vu N):=tg [] [] [] N .nil .nil
def xu:bD:=⟨[.st 0,.st 0],[.st 0],λa=>zcJ N a.1 a.2.1⟩
theorem lq:eP 203 (xu N):=tg [] [] [] N .nil .nil
def vE:bD:=⟨[.c (.sl 0),.c (.sl 7)],[.c (.sl 0),cb],λa=>zei N a.1 a.2.1⟩
theorem u_:eP 146 (vE N):=tg [(55,0)] [(122,⟨[.r 7 cb,.r 8 ci,.w 0 0],[(6,0)],[(6,0)],[]⟩),(7827,j8 [.r 7 cb]),(31306,j8 [.r 10 ci,.h 1 0 (.int .i64),.h 1 1 (.int .i64),.h 1 2 (.int .i64),.h 1 3 (.int .i64)])] [] N (.c (fR N)<|.c (jm N)<|.c (zdt N)<|.c (lq N)<|.c (zc4 N)<|.nil) .nil
def sC:bD:=⟨[.st 10,.st 20],[cb],λa=>zds N a.1 a.2.1⟩
theorem rY:eP 109 (sC N):=tg [] [(26,j8 [.r 5 ci]),(841,j8 [.r 57 cb])] [] N (.c (zcf N)<|.c (jj N)<|.c (zcR N)<|.c (u_ N)<|.nil) .nil
def tD:bD:=⟨[.st 20,ci,ci],[cb],λa=>zdP N a.1 a.2.1 a.2.2.1⟩
theorem tN:eP 169 (tD N):=tg [] [(26,j8 [.r 7 ci]),(841,j8 [.r 54 cb])] [] N (.c (zcf N)<|.c (fR N)<|.nil) .nil
def xB:bD:=⟨[.st 8,ci],[cb],λa=>zeZ N a.1 a.2.1⟩
theorem xq:eP 219 (xB N):=tg [] [] [] N (.c (jd N)<|.nil) .nil
def tE:bD:=⟨[.c (.sl 8),ci,ci,ci],[cb],λa=>zb5 N a.1 a.2.1 a.2.2.1 a.2.2.2.1⟩
theorem jh:eP 25 (tE N):=tg [] [(26,j8 [.r 9 ci])] [] N .nil .nil
def tI:bD:=⟨[.c (.sl 8),ci],[cb],λa=>zdK N a.1 a.2.1⟩
theorem tU:eP 170 (tI N):=tg [] [(26,j8 [.r 5 ci]),(3366,j8 [.r 6 ci]),(53860,j8 [.r 58 cb])] [] N (.c (xq N)<|.c (jh N)<|.nil) .nil
def tt:bD:=⟨[.st 10,.st 20],[cb],λa=>zdN N a.1 a.2.1⟩
theorem s_:eP 110 (tt N):=tg [] [(26,j8 [.r 5 ci]),(841,j8 [.r 38 cb])] [] N (.c (tN N)<|.c (tU N)<|.nil) .nil
def xa:bD:=⟨[.c (.sl 1),ci],[cb],λa=>zeS N a.1 a.2.1⟩
theorem wZ:eP 111 (xa N):=tg [] [(26,j8 [.r 5 ci]),(420,j8 [.r 23 cb])] [] N .nil .nil
def yN:bD:=⟨[ci,ci,ci],[cb],λa=>Rr N a.1 a.2.1 a.2.2.1⟩
theorem yA:eP 200 (yN N):=tg [] [] [] N .nil .nil
def ue:bD:=⟨[.st 5],[cb],λa=>zdJ N a.1⟩
theorem tQ:eP 142 (ue N):=tg [] [(14,j8 [.r 61 cb]),(26,j8 [.r 3 ci]),(30,j8 [.r 85 cb]),(62,j8 [.r 101 cb]),(126,j8 [.r 119 cb])] [] N (.c (yA N)<|.c (zcR N)<|.c (zc4 N)<|.nil) .nil
def vx:bD:=⟨[.c (.sl 7),ci],[ci],λa=>zej N a.1 a.2.1⟩
theorem uw:eP 145 (vx N):=tg [] [(26,j8 [.r 5 ci])] [] N .nil .nil
def xg:bD:=⟨[.st 5],[cb],λa=>zeV N a.1⟩
theorem xL:eP 91 (xg N):=tg [] [] [] N .nil .nil
def sX:bD:=⟨[.st 0,.st 0],[ci],λa=>zbz N a.1 a.2.1⟩
theorem zdY:eP 258 (sX N):=tg [] [(6,j8 [.r 19 cb]),(124,j8 [.r 5 ci,.h 2 0 (.int .i64),.h 2 1 (.int .i64),.h 2 2 (.int .i64),.h 2 3 (.int .i64)]),(496,j8 [.r 27 cb])] [] N (.c (zdt N)<|.c (zc4 N)<|.c (zcR N)<|.nil) .nil
def vh:bD:=⟨[.st 10,ci,.st 0],[ci],λa=>gP N a.1 a.2.1 a.2.2.1⟩
theorem uV:eP 220 (vh N):=tg [] [(122,j8 [.r 7 ci,.r 8 ci])] [] N (.c (zdY N)<|.nil) .nil
def uy:bD:=⟨[.st 10,ci,ci,.st 0],[cb],λa=>zc8 N a.1 a.2.1 a.2.2.1 a.2.2.2.1⟩
theorem vD:eP 171 (uy N):=tg [] [] [] N (.c (uV N)<|.nil) .nil
def t_:bD:=⟨[.c (.sl 6)],[ci],λa=>zdI N a.1⟩
theorem th:eP 24 (t_ N):=tg [] [(58,j8 [.r 3 ci,.r 4 ci]),(233,j8 [.r 3 ci])] [] N .nil .nil
def xr:bD:=⟨[.c (.sl 1),ci],[cb],λa=>zeW N a.1 a.2.1⟩
theorem wR:eP 77 (xr N):=tg [] [(26,j8 [.r 5 ci])] [] N .nil .nil
def vM:bD:=⟨[.st 10,.st 5,.c (.sl 6)],[cb],λa=>zem N a.1 a.2.1 a.2.2.1⟩
theorem uv:eP 23 (vM N):=tg [] [(6,j8 [.r 34 cb]),(122,j8 [.r 8 ci])] [] N (.c (wR N)<|.c (jj N)<|.c (th N)<|.nil) .nil
def xp:bD:=⟨[.st 10,.st 20,.st 5],[cb],λa=>zeQ N a.1 a.2.1 a.2.2.1⟩
theorem xo:eP 112 (xp N):=tg [] [(15,j8 [.r 7 ci]),(31,j8 [.r 7 ci]),(63,j8 [.r 7 ci]),(510,j8 [.r 83 cb]),(8186,j8 [.r 9 ci])] [] N (.c (tQ N)<|.c (uw N)<|.c (zcf N)<|.c (vD N)<|.c (xL N)<|.c (uv N)<|.nil) .nil
def ua:bD:=⟨[.st 10,.st 20],[cb],λa=>zcN N a.1 a.2.1⟩
theorem tS:eP 46 (ua N):=tg [] [(6,j8 [.r 43 cb]),(14,j8 [.r 86 cb]),(122,j8 [.r 5 ci]),(250,j8 [.r 6 ci]),(4004,j8 [.r 138 cb])] [] N (.c (jd N)<|.c (xo N)<|.c (rY N)<|.c (s_ N)<|.c (wZ N)<|.c (tc N)<|.nil) .nil
def uG:bD:=⟨[.st 5,.st 5],[cb],λa=>zef N a.1 a.2.1⟩
theorem vf:eP 149 (uG N):=tg [] [(58,j8 [.r 5 ci])] [] N .nil .nil
def vJ:bD:=⟨[.c (.sl 5),.c (.sl 5)],[cb],λa=>zep N a.1 a.2.1⟩
theorem vI:eP 83 (vJ N):=tg [] [(58,j8 [.r 5 ci])] [] N (.c (vf N)<|.nil) .nil
def vR:bD:=⟨[.c (.sl 6),.c (.sl 6)],[cb],λa=>zde N a.1 a.2.1⟩
theorem kf:eP 123 (vR N):=tg [] [(58,j8 [.r 5 ci])] [] N .nil .nil
def uI:bD:=⟨[.c (.sl 7),.c (.sl 7)],[cb],λa=>zeg N a.1 a.2.1⟩
theorem uF:eP 84 (uI N):=tg [] [(58,j8 [.r 5 ci]),(932,j8 [.r 54 cb])] [] N (.c (kf N)<|.nil) .nil
def vy:bD:=⟨[.c (.sl 8),.c (.sl 8)],[cb],λa=>zen N a.1 a.2.1⟩
theorem uS:eP 85 (vy N):=tg [] [(58,j8 [.r 5 ci])] [] N .nil .nil
def uu:bD:=⟨[.c (.sl 1),.c (.sl 1)],[cb],λa=>zc6 N a.1 a.2.1⟩
theorem vz:eP 86 (uu N):=tg [] [(58,j8 [.r 5 ci])] [] N .nil .nil
def vw:bD:=⟨[.st 20,.st 20],[cb],λa=>zeq N a.1 a.2.1⟩
theorem vo:eP 27 (vw N):=tg [] [] [] N (.c (vI N)<|.c (uF N)<|.c (uS N)<|.c (vz N)<|.nil) .nil
def qa:dr:=⟨g6 [.v (.st 10),.v (.st 20)],[.mk [.p (.k i7),.v cb] [] [] [] [] [(393227,[gA [.p (.k i7),.v ci] 0,.mk [.p (.pt 2 0 27),.p (.k g8)] [] [g7 3 4 5,.cells [xi,.hd 6],.cells [xl 0,.mr 7],.row 1,.row 5,.mp 7 true] [] [] []]),(1966113,[gA [.v (.st 20)] 1])],.mk [.p (.pt 0 0 27),.v cb] [] [g7 1 2 3,.cells [xi,.hd 4],.cells [xl 0,.mr 5],.row 1,.row 5,.mp 7 true] [] [] []],λ(a,b)=>cq N a b⟩
theorem pY:f9 11 (qa N):=og (g:=11) N (.c (tS N)<|.c (vo N)<|.nil) (.c (zB N)<|.c (zbe N)<|.nil)
def re:dr:=⟨.mk [.p (.pt 0 0 27),.p (.hd 1)] [] [g7 2 3 4,.row 1,.cells [xi,.hd 5],.cells [xl 0,.mr 6],.row 1,.row 5,.mp 7 true] [] [] [],[.mk [.v (.c (.sl 14)),.v cb] [] [] [(24,14),(50,14)] [(250,⟨[.r 27 ci,.w 8 14],[(8,8)],[],[]⟩),(13194139533562,⟨[.r 27 ci,.w 8 16,.w 10 14],[(8,10)],[],[(7,2,8)]⟩)] [(393233,[gA [.ag [.k i7,.pt 0 0 27],.v ci] 0,.mk [.ag [.pt 7 0 3,.pt 0 0 27],.p (.k g8)] [] [.cells [xi,xl 2,.hd 8],.row 16] [] [] []]),(2100428834,[gA [.v (.st 5),.v cb] 1]),(8402108458,[gA [.v (.st 18),.v cb] 2]),(14302053269546,[.mk [.v (.st 18),.v cb] [.h 7 2 (.hd 8),.w 8 16] [] [(1000000,3)] [] []])]],λ(t,u,v,w,x,y,z,A,E,F,a,b,d,e,f,g,h,i,j,k,l,m,n,o,p,q,r,s,_,_)=>zc3 N t u v w x y z A E F a b d e f g h i j k l m n o p q r s⟩
theorem qJ:f9 13 (re N):=og (g:=13) N .nil (.c (iH N)<|.c (ze8 N)<|.c (zdl N)<|.c (zdx N)<|.nil)
def mo:bD:=⟨[.st 27,.st 26],[.st 27],λa=>zbp N a.1 a.2.1⟩
theorem zee:eP 117 (mo N):=tg [(22,26)] [] [] N .nil .nil
def qv:bD:=⟨[.st 10,.st 20],[.st 27],λa=>zc2 N a.1 a.2.1⟩
theorem qY:eP 53 (qv N):=tg [] [(58,j8 [.r 6 ci,.h 3 0 (.sl 0),.h 3 1 (.sl 2),.h 3 2 (.sl 3),.h 3 3 (.int .i64),.h 3 4 (.int .i64),.h 3 5 (.int .i64),.h 3 6 (.int .i64),.h 3 7 (.int .i64),.h 3 8 (.int .i64),.h 3 9 (.int .i64),.h 3 10 (.int .i64),.h 3 11 (.int .i64),.h 3 12 (.int .i64),.h 3 13 (.int .i64),.h 3 14 (.int .i64),.h 3 15 (.int .i64),.h 3 16 (.int .i64),.h 3 17 (.int .i64),.h 3 18 (.int .i64),.h 3 19 (.sl 26),.h 3 20 (.sl 8)])] [] N (.c (zcf N)<|.c (zee N)<|.nil) .nil
def uU:bD:=⟨[.st 10,.st 5],[.st 28],λa=>gX N a.1 a.2.1⟩
theorem uK:eP 129 (uU N):=tg [] [] [] N .nil .nil
def mj:dr:=⟨.mk [.p (.hd 0),.v ci] [] [.row 1] [] [] [],[.mk [.v (.c (.sl 1))] [] [] [(65,1)] [(58,j8 [.r 5 (.c (.sl 1)),.r 6 ci]),(233,j8 [.r 5 (.c (.sl 1))]),(7460,j8 [.r 7 ci]),(7462,j8 [.r 54 cb]),(29840,j8 [.r 29 cb])] []],λ(a,b)=>zb0 N a b⟩
theorem lP:f9 238 (mj N):=og (g:=238) N .nil .nil
def kH:bD:=⟨[.st 27],[.c (.sl 1)],λa=>zbg N a.1⟩
theorem zdA:eP 190 (kH N):=tg [(8,1),(23,1),(32,1),(48,1),(57,1)] [(58,⟨[.r 4 ci,.w 1 1],[(3,1)],[],[]⟩),(122,⟨[.r 5 ci,.w 1 1],[(3,1)],[],[]⟩)] [(4063294,[gA [.v (.c (.sl 1))] 0])] N .nil (.c (lP N)<|.nil)
def ki:bD:=⟨[.st 27,ci,ci],[.st 0],λa=>zbP N a.1 a.2.1 a.2.2.1⟩
theorem km:eP 279 (ki N):=tg [] [(58,j8 [.r 8 ci,.h 2 0 (.int .i64),.h 2 1 (.int .i64),.h 2 2 (.int .i64),.h 2 3 (.int .i64)]),(233,j8 [.h 2 0 (.int .i64),.h 2 1 (.int .i64),.h 2 2 (.int .i64),.h 2 3 (.int .i64)])] [] N (.c (fR N)<|.c (jm N)<|.c (zdt N)<|.nil) .nil
def kL:bD:=⟨[.st 27,ci,ci],[.st 0,cb],λa=>zbk N a.1 a.2.1 a.2.2.1⟩
theorem kN:eP 239 (kL N):=tg [] [] [] N (.c (km N)<|.c (jh N)<|.c (zc4 N)<|.c (lq N)<|.nil) .nil
def wU:bD:=⟨[ci,ci],[ci],λa=>zcd N a.1 a.2.1⟩
theorem xj:eP 280 (wU N):=tg [] [] [] N .nil .nil
def tL:bD:=⟨[.st 0,.st 0],[.st 0],λa=>zcY N a.1 a.2.1⟩
theorem tM:eP 240 (tL N):=tg [] [] [] N (.c (xj N)<|.nil) .nil
def uP:bD:=⟨[.c (.sl 0),.c (.sl 1),.st 0],[ci],λa=>zel N a.1 a.2.1 a.2.2.1⟩
theorem uJ:eP 281 (uP N):=tg [] [(58,j8 [.r 7 ci,.r 8 ci]),(233,j8 [.r 7 ci]),(932,j8 [.r 28 cb])] [] N (.c (zdY N)<|.nil) .nil
def lQ:dr:=⟨.mk [.p (.hd 0),.v (.c (.sl 1)),.v ci,.v (.st 0)] [] [.row 0] [] [] [],[.mk [.v (.c (.sl 6)),.v cb] [] [] [(71,6)] [(6,j8 [.r 23 cb]),(250,⟨[.r 11 ci,.r 12 ci,.w 2 6],[(10,2)],[(10,6)],[]⟩),(1001,⟨[.r 11 ci,.w 2 6],[(10,2)],[],[]⟩),(8008,j8 [.r 48 cb]),(16019,j8 [.r 13 ci]),(32039,⟨[.w 2 6],[(10,2)],[],[]⟩)] []],λ(a,b,d,e)=>zca N a b d e⟩
theorem lY:f9 241 (lQ N):=og (g:=241) N (.c (zdY N)<|.c (uJ N)<|.nil) .nil
def kP:bD:=⟨[.st 27,.st 28,ci],[.c (.sl 6),cb],λa=>TY N a.1 a.2.1 a.2.2.1⟩
theorem kS:eP 191 (kP N):=tg [(103,0)] [(250,⟨[.r 10 ci,.w 2 0],[(9,2)],[(9,0)],[]⟩),(64074,j8 [.r 13 ci,.h 3 0 (.int .i64),.h 3 1 (.int .i64),.h 3 2 (.int .i64),.h 3 3 (.int .i64)]),(256297,j8 [.h 3 0 (.int .i64),.h 3 1 (.int .i64),.h 3 2 (.int .i64),.h 3 3 (.int .i64)]),(1025188,j8 [.r 87 cb])] [(8257653,[gA [.v (.c (.sl 6)),.v cb] 0])] N (.c (zdA N)<|.c (kN N)<|.c (tM N)<|.nil) (.c (lY N)<|.nil)
def gV:bD:=⟨[.st 27,.st 28],[.st 14,cb],λa=>zaC N a.1 a.2.1⟩
theorem iL:eP 128 (gV N):=tg [] [(58,j8 [.r 7 ci])] [] N (.c (zdA N)<|.c (kS N)<|.nil) .nil
def pC:bD:=⟨[.st 10,.st 27,.st 5],[.st 14,cb],λa=>zbX N a.1 a.2.1 a.2.2.1⟩
theorem pU:eP 66 (pC N):=tg [] [(7,j8 [.h 4 0 (.int .i64)])] [] N (.c (uK N)<|.c (iL N)<|.nil) .nil
def vQ:bD:=⟨[.st 10,.st 27,.st 5],[.st 27,.st 14,cb],λa=>zda N a.1 a.2.1 a.2.2.1⟩
theorem vU:eP 54 (vQ N):=tg [] [] [] N (.c (pU N)<|.c (zee N)<|.nil) .nil
def lT:dr:=⟨.mk [.v (.st 10),.v (.st 20),.p (.hd 0)] [] [.row 1] [] [] [],[.mk [.v (.c (.sl 14)),.v cb] [] [] [(50,14)] [(122,⟨[.r 10 ci,.h 3 0 (.sl 0),.h 3 1 (.sl 2),.h 3 2 (.sl 3),.h 3 3 (.int .i64),.h 3 4 (.int .i64),.h 3 5 (.int .i64),.h 3 6 (.int .i64),.h 3 7 (.int .i64),.h 3 8 (.int .i64),.h 3 9 (.int .i64),.h 3 10 (.int .i64),.h 3 11 (.int .i64),.h 3 12 (.int .i64),.h 3 13 (.int .i64),.h 3 14 (.int .i64),.h 3 15 (.int .i64),.h 3 16 (.int .i64),.h 3 17 (.int .i64),.h 3 18 (.int .i64),.h 3 19 (.sl 26),.h 3 20 (.sl 8),.w 4 14],[(9,4)],[(9,14)],[]⟩)] []],λ(a,b,d)=>zb7 N a b d⟩
theorem mn:f9 14 (lT N):=og (g:=14) N (.c (qY N)<|.c (zcf N)<|.c (vU N)<|.nil) .nil
def vm:bD:=⟨[.st 14,.st 14],[cb],λa=>zeo N a.1 a.2.1⟩
theorem uL:eP 59 (vm N):=tg [] [] [] N (.c (kf N)<|.nil) .nil
def tP:bD:=⟨[.c (.sl 14),.c (.sl 14)],[cb],λa=>zcS N a.1 a.2.1⟩
theorem tY:eP 16 (tP N):=tg [] [(58,j8 [.r 5 ci])] [] N (.c (uL N)<|.nil) .nil
def jT:bD:=⟨[.st 9],[cb],λa=>zcH N a.1⟩
theorem kG:eP 3 (jT N):=tg [(60,1)] [(4090,⟨[.r 47 ci,.w 8 1],[(7,8)],[(7,1)],[]⟩)] [(1966107,[gA [.p (.k i7),.v cb] 0,.mk [.p (.pt 1 0 27),.v cb] [] [g7 2 3 4,.cells [xi,.hd 5],.cells [xl 0,.mr 6],.row 1,.row 5,.mp 7 true] [] [] []]),(8257575,[.mk [.v (.st 19),.v ci] [.h 1 25 (.hd 4),.h 1 26 (xi),.h 2 1 (.hd 5),.h 3 0 (xl 0),.w 4 1,.w 5 5,.m 6 7 true] [] [(1000000,1)] [] []]),(134086722,[gA [.v (.c (.sl 14)),.v cb] 2]),(268304457,[gA [.v (.st 20)] 3]),(268304459,[gA [.v (.c (.sl 14)),.v cb] 4])] N (.c (sY N)<|.c (xh N)<|.c (tY N)<|.nil) (.c (pY N)<|.c (jk N)<|.c (qJ N)<|.c (zbe N)<|.c (mn N)<|.nil)
end Go.Abs
end
end
section
end
