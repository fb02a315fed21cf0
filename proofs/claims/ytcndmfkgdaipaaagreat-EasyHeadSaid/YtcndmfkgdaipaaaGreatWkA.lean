/- Lemmas. -/
import Derived.Test.YtcndmfkgdaipaaaGreatTyPure
import Derived.Test.YtcndmfkgdaipaaaGreatProg
import Derived.Test.YtcndmfkgdaipaaaGreatTyPrim
import Derived.KernelRfl
set_option linter.all false
section
set_option maxRecDepth 100000
noncomputable section
namespace Go.Abs
open Go.Proofs
variable[Gl]
abbrev ci:dt:=.c (.int .i64)
abbrev cb:dt:=.c .bool
abbrev xi:CP:=.c (.int .i64)
abbrev xb:CP:=.c .bool
abbrev xl(n:Nat):CP:=.c (.sl n)
abbrev xn:CP:=.k (.c (.lit (.slice none 0 0)))
abbrev hi:It:=.cc (.int .i64)
abbrev hb:It:=.cc .bool
abbrev hl(n:Nat):It:=.cc (.sl n)
def dF:Tryz.prog.follows .mixedOrders=true:=by kernel_rfl
def KB:dm:=LJ 120 182 1 (λk=>k)
def KB_ok:dm.ok Tryz.prog KB:=Rp Tryz.UT (λk=>rfl)
theorem tg{g:Nat}{S:t_}{s:bx}(H:List (Nat×Nat))(J:List (Nat×JH))(C:List (Nat×List CT))(N:Nat)(b:fx Tryz.prog S){O:Pz}(d:vh Tryz.prog O)(h:∀a,tG Tryz.prog g S O KB H J C s.ins s.out N a=s.f a:=by intro _;kernel_rfl):bA Tryz.prog g s:=tG_ok dF b d KB_ok h
theorem og{g:Nat}{S:t_}{O:Pz}{s:du}(N:Nat)(a:fx Tryz.prog S)(b:vh Tryz.prog O)(d:aZ Tryz.prog g=true:=by kernel_rfl)(h:∀x,oG Tryz.prog g S O KB N s x=s.f x:=by intro _;kernel_rfl):cY Tryz.prog g s:=oG_ok dF a b KB_ok d h
abbrev fx.c:=@fx.cons
abbrev vh.c:=@vh.cons
abbrev eP(g:Nat)(s:bx):=bA Tryz.prog g s
abbrev f9(g:Nat)(s:du):=cY Tryz.prog g s
abbrev k9(l:List Pl):JH:=⟨l,[],[],[]⟩
abbrev g8:D:=.c (.lit (.int .i64 0))
abbrev j7:D:=.c (.lit (.pointer none))
abbrev k8:D:=.c (.lit (.slice none 0 0))
abbrev gA(l:List RO)(n:Nat):CT:=.mk l [] [] [(1000000,n)] [] []
abbrev g6(l:List RO):CT:=.mk l [] [] [] [] []
abbrev g7(a b c:Nat):NB:=.cells [.pt a 0 2,.pt b 0 2,xl 0,xl 2,xl 3,xi,xi,xi,xi,xi,xi,xi,xi,xi,xi,xi,xi,xi,xi,xi,xi,xi,xi,xl 8,xl 1,.hd c,xi]
end Go.Abs
end
end
section
set_option maxRecDepth 100000
noncomputable section
namespace Go.Abs
open Go.Proofs
variable[Gl](N:Nat)
def ut:bx:=⟨[],[.st 10],λa=>fM N⟩
def tu:eP 40 (ut N):=clo_ok (P:=Tryz.prog) (g:=40) (out:=[.st 10]) (λa=>fM N) dF (by kernel_rfl)
def FR:bx:=⟨[.st 0],[.st 11],λa=>gp N a.1⟩
def vw:eP 209 (FR N):=tg [] [] [] N .nil .nil
def JC:bx:=⟨[.st 0],[cb],λa=>Ng N a.1⟩
def WH:eP 163 (JC N):=tg [] [(26,k9 [.r 7 ci])] [] N (.c (vw N)<|.nil) .nil
def zn:bx:=⟨[.st 10],[cb],λa=>fK N a.1⟩
def zz:eP 243 (zn N):=tg [] [(58,k9 [.r 18 ci])] [] N (.c (WH N)<|.nil) .nil
def Ba:bx:=⟨[.c (.sl 1),ci],[cb],λa=>zeT N a.1 a.2.1⟩
def oR:eP 282 (Ba N):=tg [] [(58,k9 [.r 5 ci,.r 10 ci])] [] N .nil .nil
def zY:bx:=⟨[.st 10],[cb],λa=>fJ N a.1⟩
def zm:eP 245 (zY N):=tg [] [(58,k9 [.r 18 ci]),(3737,k9 [.r 32 cb])] [] N (.c (oR N)<|.nil) .nil
def xF:bx:=⟨[.st 10],[cb],λa=>ze4 N a.1⟩
def xX:eP 248 (xF N):=tg [] [(58,k9 [.r 20 ci]),(7474,k9 [.r 42 cb]),(59802,k9 [.r 50 ci])] [] N (.c (oR N)<|.nil) .nil
def uM:bx:=⟨[.st 12],[cb],λa=>zeC N a.1⟩
def wI:eP 250 (uM N):=tg [] [(26,k9 [.r 14 ci])] [] N .nil .nil
def KX:bx:=⟨[.st 10],[.c .str],λa=>Cx N a.1⟩
def LK:eP 130 (KX N):=tg [] [(26,⟨[],[],[(1000003,40)],[]⟩)] [(786438,[.mk [] [] [] [(1000002,0),(43,1000001)] [] [(393225,[.mk [] [] [] [(1000002,0)] [] []]),(393232,[.mk [] [] [] [(1000002,0)] [] []]),(393237,[.mk [] [] [] [(1000002,0)] [] []]),(393240,[.mk [] [] [] [(1000002,0)] [] []]),(393243,[.mk [] [] [] [(1000002,0)] [] []]),(393246,[.mk [] [] [] [(1000002,0)] [] []]),(393249,[.mk [] [] [] [(1000002,0)] [] []]),(393252,[.mk [] [] [] [(1000002,0)] [] []]),(393255,[.mk [] [] [] [(1000002,0)] [] []]),(393258,[.mk [] [] [] [(1000002,0)] [] []])]]),(221380622,[g6 [.v cb]])] N (.c (zz N)<|.c (zm N)<|.c (xX N)<|.c (wI N)<|.nil) .nil
def He:bx:=⟨[.st 10],[cb],λa=>PG N a.1⟩
def zbY:eP 67 (He N):=tg [] [] [] N (.c (LK N)<|.nil) .nil
def Ab:du:=⟨g6 [.v ci],[g6 [.p (.k j7),.p (.k (.c (.lit (.int .i64 2))))],.mk [.p (.pt 0 0 2),.p (.k g8)] [] [.cells [xi,xn]] [] [] []],λa=>zel N a⟩
def mU:f9 96 (Ab N):=og (g:=96) N .nil .nil
def gW:bx:=⟨[.c (.sl 0)],[.c (.sl 0)],λa=>za6 N a.1⟩
def zc6:eP 152 (gW N):=uL (i:=0) (sz:=32) (z:=[g8,g8,g8,g8]) (fn:=Tryz.f152) dF (by kernel_rfl) (by kernel_rfl) (by kernel_rfl) rfl
def xV:du:=⟨g6 [.v (.st 10)],[.mk [.p (.k j7),.p (.k (.c (.lit (.int .i64 2))))] [] [] [(10,15)] [] [],.mk [.p (.pt 0 0 2),.p (.k g8)] [] [.cells [xl 0,.mr 1],.mp 7 true] [] [] []],λa=>zcM N a⟩
def ze8:f9 97 (xV N):=og (g:=97) N (.c (zbY N)<|.c (zc6 N)<|.nil) .nil
def jq:du:=⟨g6 [.v (.c (.sl 2))],[.mk [.p (.hd 0)] [] [.row 2] [] [] []],λx=>zcx N x⟩
def jd:f9 153 (jq N):=jk (i:=2) (sz:=24) (z:=[k8]) (fn:=Tryz.f153) dF (by kernel_rfl) (by kernel_rfl) (by kernel_rfl) rfl
def pB:bx:=⟨[.c (.sl 1)],[.c (.sl 1)],λa=>za0 N a.1⟩
def zdd:eP 58 (pB N):=uL (i:=1) (sz:=8) (z:=[g8]) (fn:=Tryz.f58) dF (by kernel_rfl) (by kernel_rfl) (by kernel_rfl) rfl
def zd0:du:=⟨g6 [.v (.c (.sl 3))],[.mk [.p (.hd 0)] [] [.row 3] [] [] []],λx=>zbj N x⟩
def zd5:f9 154 (zd0 N):=jk (i:=3) (sz:=64) (z:=[g8,k8,g8,g8,g8,g8]) (fn:=Tryz.f154) dF (by kernel_rfl) (by kernel_rfl) (by kernel_rfl) rfl
def Bt:bx:=⟨[.st 10],[.st 10],λa=>zc4 N a.1⟩
def iI:eP 98 (Bt N):=tg [] [(122,⟨[.r 16 ci,.w 2 2],[],[],[(0,1,2)]⟩),(506,⟨[.r 37 ci,.w 3 3],[],[],[(0,2,3)]⟩)] [(917515,[.mk [.p (.hd 2)] [] [.row 2] [(1000000,0)] [] []]),(4063264,[.mk [.p (.hd 3)] [] [.row 3] [(1000000,1)] [] []])] N (.c (zc6 N)<|.c (zdd N)<|.nil) (.c (jd N)<|.c (zd5 N)<|.nil)
def DH:bx:=⟨[ci,ci,ci],[ci],λa=>zcp N a.1 a.2.1 a.2.2.1⟩
def fC:eP 155 (DH N):=tg [] [] [] N .nil .nil
def KZ:bx:=⟨[ci],[.c (.sl 1)],λa=>qV N a.1⟩
def AJ:eP 99 (KZ N):=tg [(5,1)] [] [] N (.c (fC N)<|.nil) .nil
def zC:du:=⟨g6 [.v (.st 10)],[.mk [.p (.k j7),.p (.k (.c (.lit (.int .i64 2))))] [] [] [(37,1)] [(3298534883343,⟨[],[],[(1049601,5)],[]⟩)] [(917517,[gA [.p (.k j7),.p (.k (.c (.lit (.int .i64 2))))] 0,.mk [.p (.pt 1 0 2),.p (.k g8)] [] [.cells [xi,xn]] [] [] []]),(4063253,[gA [.p (.k j7),.p (.k (.c (.lit (.int .i64 2))))] 1,.mk [.p (.pt 3 0 2),.p (.k g8)] [] [.cells [xl 0,.mr 4],.mp 7 true] [] [] []])],.mk [.p (.pt 0 0 27),.p (.k g8)] [] [g7 1 2 3,.cells [xi,.hd 4],.cells [xl 0,.mr 5],.row 1,.row 5,.mp 7 true] [] [] []],λa=>tf N a⟩
def zt:f9 39 (zC N):=og (g:=39) N (.c (zbY N)<|.c (iI N)<|.c (AJ N)<|.nil) (.c (mU N)<|.c (ze8 N)<|.nil)
def pC:du:=⟨g6 [.p (.k j7),.v (.st 5)],[g6 [.v ci]],λx=>iX N⟩
def pI:f9 87 (pC N):=og (g:=87) N .nil .nil
def ow:du:=⟨g6 [.p (.k j7),.v ci,.v ci,.v ci],[.mk [] [] [] [] [] [(65552,[gA [.v ci] 0])]],λ(a,_,_)=>zbR N a⟩
def oh:f9 60 (ow N):=og (g:=60) N .nil (.c (pI N)<|.nil)
def nr:du:=⟨.mk [.p (.k j7),.v ci,.p (.hd 0)] [] [.row 6] [] [] [],[g6 [.v ci]],λx=>gg N⟩
def nW:f9 42 (nr N):=og (g:=42) N .nil .nil
def Az:du:=⟨g6 [.p (.k j7)],[g6 [.v (.st 15),.v ci]],λx=>wJ N⟩
def Aj:f9 18 (Az N):=og (g:=18) N .nil .nil
def Hu:bx:=⟨[ci,ci,ci],[cb],λa=>Ps N a.1 a.2.1 a.2.2.1⟩
def pQ:eP 160 (Hu N):=tg [] [] [] N .nil .nil
def AE:bx:=⟨[.st 5],[cb],λa=>ie N a.1⟩
def Bw:eP 193 (AE N):=tg [] [(58,k9 [.r 12 ci])] [] N (.c (pQ N)<|.nil) .nil
def JR:bx:=⟨[ci],[.c .str],λa=>wO N a.1⟩
def JI:eP 252 (JR N):=tg [] [] [] N .nil .nil
def Hj:bx:=⟨[ci],[cb],λa=>ja N a.1⟩
def yK:eP 208 (Hj N):=tg [] [] [] N .nil .nil
def Jv:bx:=⟨[ci],[cb],λa=>WX N a.1⟩
def iG:eP 134 (Jv N):=tg [] [] [] N .nil .nil
def BD:bx:=⟨[.st 5],[cb],λa=>iE N a.1⟩
def Ar:eP 194 (BD N):=tg [] [(51,k9 [.r 8 cb]),(207,k9 [.r 17 cb])] [] N (.c (JI N)<|.c (iG N)<|.c (yK N)<|.nil) .nil
def Kl:bx:=⟨[.st 5],[cb],λa=>zeM N a.1⟩
def zfk:eP 132 (Kl N):=tg [] [] [] N (.c (pQ N)<|.c (WH N)<|.c (Bw N)<|.c (Ar N)<|.nil) .nil
def gR:bx:=⟨[.c (.sl 4)],[.c (.sl 4)],λa=>zaG N a.1⟩
def zbJ:eP 162 (gR N):=uL (i:=4) (sz:=16) (z:=[g8,.c (.lit (.bool false))]) (fn:=Tryz.f162) dF (by kernel_rfl) (by kernel_rfl) (by kernel_rfl) rfl
def Lu:bx:=⟨[.st 5],[.st 5],λa=>i_ N a.1⟩
def lL:eP 119 (Lu N):=tg [] [] [] N (.c (zbJ N)<|.nil) .nil
def ou:du:=⟨.mk [.p (.pt 0 0 2),.v ci] [] [.cells [xi,.hd 1],.row 5] [] [] [],[.mk [.v ci,.v cb] [] [] [] [] [(393229,[.mk [.v ci] [] [] [] [(28,k9 [.r 5 ci,.r 6 ci])] [(59375636,[g6 [.v cb]])]])]],λ(a,b,_)=>zaM N a b⟩
def zc5:f9 156 (ou N):=og (g:=156) N .nil .nil
def zed:du:=⟨.mk [.p (.hd 0),.v ci,.p (.hd 1)] [] [.row 5,.row 5] [] [] [],[.mk [.p (.hd 0)] [.w 0 5] [] [] [] []],λ(a,b,d)=>zbq N a b d⟩
def zef:f9 167 (zed N):=og (g:=167) N .nil .nil
def pX:du:=⟨.mk [.p (.pt 0 0 2),.v (.st 5)] [] [.cells [xi,.hd 1],.row 5] [] [] [],[.mk [.v ci] [.h 0 1 (.hd 1),.w 1 5] [] [(38,5)] [] [(1966096,[gA [.v ci,.v cb] 0]),(16646183,[.mk [.p (.hd 1)] [.w 1 5] [] [(1000000,1)] [] []])]],λ(a,b,d)=>zbZ N a b d⟩
def zfg:f9 106 (pX N):=og (g:=106) N (.c (zfk N)<|.c (lL N)<|.nil) (.c (zc5 N)<|.c (zef N)<|.nil)
def Fx:bx:=⟨[ci],[ci],λa=>f_ N a.1⟩
def mQ:eP 104 (Fx N):=tg [] [] [] N .nil .nil
def nR:du:=⟨.mk [.p (.pt 0 0 27),.v ci] [] [g7 1 2 3,.cells [xi,.hd 4],.cells [xl 0,.mr 5],.row 1,.row 5,.mp 7 true] [] [] [],[.mk [] [.w 3 1,.h 0 25 (.hd 3)] [] [] [] []],λ(a,_,_,b,_,_,_,_,_,_,_,_,_,_,_,_,_,_,_,_,_,_,_,_,_,_,_,_,_,_)=>zbf N a b⟩
def zeH:f9 150 (nR N):=og (g:=150) N (.c (mQ N)<|.nil) .nil
def pO:du:=⟨.mk [.p (.pt 0 0 27),.v (.st 5)] [] [g7 1 2 3,.cells [xi,.hd 4],.cells [xl 0,.mr 5],.row 1,.row 5,.mp 7 true] [] [] [],[.mk [.v ci] [.h 1 1 (.hd 4),.w 4 5,.h 0 21 (xi),.h 0 25 (.hd 3),.w 3 1] [] [] [] [(8126509,[.mk [.v ci] [.h 1 1 (.hd 4),.w 4 5] [] [(1000000,0)] [] []]),(16646203,[.mk [] [.w 3 1,.h 0 25 (.hd 3)] [] [(1000000,1)] [] []])]],λ(e,f,_,g,_,_,_,_,_,_,_,_,_,_,_,a,_,_,_,_,_,_,_,b,_,_,_,_,d,_)=>iR N e f g a b d⟩
def qc:f9 87 (pO N):=og (g:=87) N (.c (zfk N)<|.nil) (.c (zfg N)<|.c (zeH N)<|.nil)
def oD:du:=⟨.mk [.p (.pt 0 0 27),.v ci,.v ci,.v ci] [] [g7 1 2 3,.cells [xi,.hd 4],.cells [xl 0,.mr 5],.row 1,.row 5,.mp 7 true] [] [] [],[.mk [] [.h 0 21 (xi),.h 0 25 (.hd 3),.h 1 1 (.hd 4),.w 3 1,.w 4 5] [] [] [] [(65552,[.mk [.v ci] [.h 1 1 (.hd 4),.w 4 5,.h 0 21 (xi),.h 0 25 (.hd 3),.w 3 1] [] [(1000000,0)] [] []])]],λ(e,f,_,g,h,i,_,_,_,_,_,_,_,_,_,_,_,a,_,_,_,_,_,_,_,b,_,_,_,_,d,_)=>zbS N e f g h i a b d⟩
def ot:f9 60 (oD N):=og (g:=60) N .nil (.c (qc N)<|.nil)
def pW:du:=⟨.mk [.p (.pt 0 0 2),.v ci] [] [.cells [xi,.hd 1],.row 5] [] [] [],[.mk [.v (.st 5),.v cb] [] [] [] [] [(917518,[gA [.v ci,.v cb] 0])]],λ(a,b,_)=>zbu N a b⟩
def zdo:f9 100 (pW N):=og (g:=100) N (.c (lL N)<|.nil) (.c (zc5 N)<|.nil)
def Gx:bx:=⟨[.c (.sl 6),ci],[cb],λa=>zen N a.1 a.2.1⟩
def zeW:eP 157 (Gx N):=tg [] [(58,k9 [.r 5 ci,.r 10 ci])] [] N .nil .nil
def Fk:bx:=⟨[.c (.sl 6)],[ci],λa=>oP N a.1⟩
def FG:eP 158 (Fk N):=tg [] [(58,k9 [.r 3 ci,.r 8 ci])] [] N (.c (fC N)<|.nil) .nil
def pD:bx:=⟨[.c (.sl 1),ci],[ci],λa=>zd7 N a.1 a.2.1⟩
def pY:eP 207 (pD N):=tg [] [(26,k9 [.r 8 ci])] [] N .nil .nil
def lV:bx:=⟨[.c (.sl 1),ci],[cb],λa=>zb9 N a.1 a.2.1⟩
def mh:eP 159 (lV N):=tg [] [] [] N (.c (pY N)<|.nil) .nil
def FC:bx:=⟨[.st 10,.st 5,.c (.sl 6)],[cb],λa=>zfb N a.1 a.2.1 a.2.2.1⟩
def mV:eP 101 (FC N):=tg [] [(6,k9 [.r 22 cb]),(250,k9 [.r 47 ci])] [] N (.c (mh N)<|.c (zeW N)<|.c (FG N)<|.nil) .nil
def MC:bx:=⟨[ci],[cb],λa=>eo N a.1⟩
def kA:eP 90 (MC N):=tg [] [] [] N .nil .nil
def Jy:bx:=⟨[ci,ci],[ci,cb],λa=>wY N a.1 a.2.1⟩
def JM:eP 161 (Jy N):=tg [] [(53247,k9 [.r 48 cb]),(212991,k9 [.r 55 cb])] [] N (.c (kA N)<|.c (yK N)<|.nil) .nil
def Pb:bx:=⟨[.st 5,ci,ci,cb],[.st 5,ci],λa=>wo N a.1 a.2.1 a.2.2.1 a.2.2.2.1⟩
def Dq:eP 102 (Pb N):=tg [] [(6,k9 [.r 20 cb]),(1023,k9 [.h 0 11 hb,.h 0 12 hb,.h 0 15 hi]),(2047,k9 [.h 0 16 hi]),(8186,k9 [.h 0 12 hb])] [] N (.c (JM N)<|.c (zbJ N)<|.c (iG N)<|.c (zfk N)<|.c (pQ N)<|.nil) .nil
def zeV:du:=⟨g6 [.v (.c (.sl 0))],[.mk [.p (.hd 0)] [] [.row 0] [] [] []],λx=>za9 N x⟩
def zco:f9 152 (zeV N):=jk (i:=0) (sz:=32) (z:=[g8,g8,g8,g8]) (fn:=Tryz.f152) dF (by kernel_rfl) (by kernel_rfl) (by kernel_rfl) rfl
def zl:du:=⟨g6 [.v (.st 0)],[g6 [.ag [.cx,.cx]]],λa=>zdg N a⟩
def nG:f9 211 (zl N):=og (g:=211) N .nil .nil
def BG:du:=⟨g6 [.ag [.cx,.cx]],[g6 [.v (.st 0)]],λ(a,b)=>nh N a b⟩
def Ap:f9 255 (BG N):=og (g:=255) N .nil .nil
def yi:du:=⟨g6 [.ag [.cx,.cx]],[.mk [.v (.st 0),.v ci] [] [] [] [] [(393222,[gA [.v (.st 0)] 0])]],λ(a,b)=>zdD N a b⟩
def li:f9 212 (yi N):=og (g:=212) N (.c (WH N)<|.nil) (.c (Ap N)<|.nil)
def Ku:bx:=⟨[.st 0,ci],[.st 0,ci],λa=>mw N a.1 a.2.1⟩
def lF:eP 210 (Ku N):=tg [] [] [(4063256,[gA [.ag [.cx,.cx]] 0]),(8257573,[gA [.v (.st 0),.v ci] 1])] N (.c (WH N)<|.nil) (.c (nG N)<|.c (li N)<|.nil)
def Ql:bx:=⟨[.st 0,.st 0],[.st 0,ci],λa=>xe N a.1 a.2.1⟩
def ze:eP 165 (Ql N):=tg [] [(6,k9 [.r 15 cb])] [(917522,[gA [.ag [.cx,.cx]] 0]),(917524,[gA [.ag [.cx,.cx]] 0]),(1966112,[gA [.v (.st 0),.v ci] 1])] N (.c (WH N)<|.nil) (.c (nG N)<|.c (li N)<|.nil)
def ko:du:=⟨.mk [.p (.pt 0 0 2),.ag [xi,xi,xi,xi,xi,.hd 1],.p (.k (.c (.fn (.func 165) [] [])))] [] [.cells [xl 0,.mr 2],.row 6,.mp 7 true] [] [] [],[.mk [.v (.c (.sl 0)),.v ci] [] [] [] [(58,⟨[.r 21 ci,.w 4 0],[(8,4)],[],[]⟩)] [(393233,[.mk [.p (.hd 4)] [] [.row 0] [(1000000,0)] [] []])]],λ(a,_,_,b,d,e,f,g)=>zeI N a b d e f g⟩
def jQ:f9 164 (ko N):=og (g:=164) N (.c (lF N)<|.c (ze N)<|.nil) (.c (zco N)<|.nil)
def zeU:bx:=⟨[.c (.sl 6)],[.c (.sl 6)],λa=>zby N a.1⟩
def zeP:eP 183 (zeU N):=uL (i:=6) (sz:=16) (z:=[g8,g8]) (fn:=Tryz.f183) dF (by kernel_rfl) (by kernel_rfl) (by kernel_rfl) rfl
end Go.Abs
end
end
section
set_option maxRecDepth 100000
noncomputable section
namespace Go.Abs
open Go.Proofs
variable[Gl](N:Nat)
def GX:bx:=⟨[.st 7],[.st 7],λa=>jp N a.1⟩
def yB:eP 122 (GX N):=tg [] [] [] N (.c (zeP N)<|.nil) .nil
def zd8:du:=⟨.mk [.p (.hd 0)] [] [.row 6] [] [] [],[.mk [.p (.hd 1)] [] [.row 6] [] [] []],λx=>zcm N x⟩
def zei:f9 183 (zd8 N):=EO (ii:=6) (sz:=16) (z:=[g8,g8]) (fn:=Tryz.f183) dF (by kernel_rfl) (by kernel_rfl) (by kernel_rfl) rfl
def yg:du:=⟨.mk [.ag [xi,xi,xi,xi,xi,.hd 0]] [] [.row 6] [] [] [],[.mk [.v (.st 7)] [] [] [] [] [(393221,[.mk [.p (.hd 3)] [] [.row 6] [(1000000,0)] [] []])]],λ(a,b,d,e,f,g)=>ri N a b d e f g⟩
def xJ:f9 122 (yg N):=og (g:=122) N .nil (.c (zei N)<|.nil)
def lJ:du:=⟨.mk [.p (.pt 0 0 2),.ag [xi,xi,xi,xi,xi,.hd 1]] [] [.cells [xl 0,.mr 2],.row 6,.mp 7 true] [] [] [],[.mk [.v ci] [.h 0 0 (xl 0),.m 2 7 true] [] [] [(14,k9 [.r 41 cb])] [(4063288,[gA [.v (.c (.sl 0)),.v ci] 0]),(33423433,[gA [.v (.st 7)] 1])]],λ(a,b,d,e,f,g,h,i)=>zfi N a b d e f g h i⟩
def lz:f9 103 (lJ N):=og (g:=103) N (.c (zeW N)<|.c (WH N)<|.nil) (.c (jQ N)<|.c (xJ N)<|.nil)
def pU:du:=⟨.mk [.p (.pt 0 0 2),.v (.st 5)] [] [.cells [xi,.hd 1],.row 5] [] [] [],[.mk [.v ci] [.w 1 5,.h 0 1 (.hd 1)] [] [] [] [(1966096,[gA [.v ci,.v cb] 0])]],λ(a,b,_)=>zcX N a b⟩
def pS:f9 166 (pU N):=og (g:=166) N (.c (zfk N)<|.c (lL N)<|.nil) (.c (zc5 N)<|.nil)
def lY:du:=⟨.mk [.p (.pt 0 0 27),.v (.st 5),.v (.st 5)] [] [g7 1 2 3,.cells [xi,.hd 4],.cells [xl 0,.mr 5],.row 1,.row 5,.mp 7 true] [] [] [],[.mk [.v ci] [.h 1 1 (.hd 4),.w 4 5,.h 0 25 (.hd 3),.w 3 1] [] [] [(15,⟨[.w 3 1],[],[],[(0,25,3)]⟩)] [(786445,[.mk [.v ci] [.w 4 5,.h 1 1 (.hd 4)] [] [(1000000,0)] [] []]),(917524,[.mk [] [.w 3 1,.h 0 25 (.hd 3)] [] [(1000000,1)] [] []]),(7995421,[.mk [] [.w 3 1,.h 0 25 (.hd 3)] [] [(1000000,1)] [] []])]],λ(a,b,_,d,e,_,_,_,_,_,_,_,_,_,_,_,_,_,_,_,_,_,_,_,_,_,_,_,_,_,_)=>zbw N a b d e⟩
def zeq:f9 105 (lY N):=og (g:=105) N .nil (.c (pS N)<|.c (zeH N)<|.nil)
def nQ:du:=⟨.mk [.p (.pt 0 0 27),.v ci,.p (.hd 1)] [] [g7 2 3 4,.row 6,.cells [xi,.hd 5],.cells [xl 0,.mr 6],.row 1,.row 5,.mp 7 true] [] [] [],[.mk [.v ci] [.h 3 0 (xl 0),.m 6 7 true,.h 0 25 (.hd 4),.h 0 26 (xi),.h 2 1 (.hd 5),.w 4 1,.w 5 5] [] [] [] [(917524,[gA [.v (.st 5),.v cb] 0]),(133955641,[.mk [.v ci] [.h 3 0 (xl 0),.m 6 7 true] [] [(1000000,1)] [] []]),(268304458,[.mk [.v ci] [.h 2 1 (.hd 5),.w 5 5,.h 0 25 (.hd 4),.w 4 1] [] [(1000000,2)] [] []])]],λ(r,s,t,u,v,w,x,y,z,A,a,b,d,e,f,g,h,i,j,k,l,m,n,o,_,_,_,_,p,_,q)=>gh N r s t u v w x y z A a b d e f g h i j k l m n o p q⟩
def mY:f9 42 (nQ N):=og (g:=42) N (.c (mV N)<|.c (Dq N)<|.c (mQ N)<|.nil) (.c (zdo N)<|.c (lz N)<|.c (zeq N)<|.nil)
def zfe:du:=⟨.mk [.p (.hd 0)] [] [.row 5] [] [] [],[.mk [.p (.hd 1)] [] [.row 5] [] [] []],λx=>zbI N x⟩
def zfa:f9 118 (zfe N):=EO (ii:=5) (sz:=152) (z:=[g8,g8,g8,g8,g8,g8,g8,g8,g8,k8,g8,.c (.lit (.bool false)),.c (.lit (.bool false)),g8,g8,g8,g8,g8]) (fn:=Tryz.f118) dF (by kernel_rfl) (by kernel_rfl) (by kernel_rfl) rfl
def qi:du:=⟨.mk [.p (.pt 0 0 2)] [] [.cells [xi,.hd 1],.row 5] [] [] [],[.mk [.v (.c (.sl 5))] [] [] [] [(122,⟨[.r 15 ci,.w 2 5],[(3,2),(13,2)],[],[]⟩)] [(917516,[.mk [.p (.hd 2)] [] [.row 5] [(1000000,0)] [] []])]],λ(a,_)=>zcZ N a⟩
def pJ:f9 55 (qi N):=og (g:=55) N (.c (lL N)<|.nil) (.c (zfa N)<|.nil)
def nN:du:=⟨.mk [.p (.pt 0 0 2)] [] [.cells [xl 0,.mr 1],.mp 7 true] [] [] [],[.mk [.v (.c (.sl 7))] [] [] [(27,7)] [(122,⟨[.r 15 ci,.w 3 7],[(3,3)],[(3,7)],[]⟩)] [(3932172,[.mk [] [] [] [(1000002,0)] [] []]),(3932173,[gA [.v (.c (.sl 1))] 999999])]],λ(a,_)=>a_ N a⟩
def m_:f9 56 (nN N):=og (g:=56) N (.c (yB N)<|.nil) .nil
def zd2:bx:=⟨[.c (.sl 8)],[.c (.sl 8)],λa=>zaW N a.1⟩
def zdY:eP 57 (zd2 N):=uL (i:=8) (sz:=32) (z:=[g8,g8,g8,g8]) (fn:=Tryz.f57) dF (by kernel_rfl) (by kernel_rfl) (by kernel_rfl) rfl
def mj:du:=⟨.mk [.p (.hd 0)] [] [.row 1] [] [] [],[.mk [.p (.hd 1)] [] [.row 1] [] [] []],λx=>zca N x⟩
def lB:f9 58 (mj N):=EO (ii:=1) (sz:=8) (z:=[g8]) (fn:=Tryz.f58) dF (by kernel_rfl) (by kernel_rfl) (by kernel_rfl) rfl
def mW:du:=⟨.mk [.p (.pt 0 0 27)] [] [g7 1 2 3,.cells [xi,.hd 4],.cells [xl 0,.mr 5],.row 1,.row 5,.mp 7 true] [] [] [],[.mk [.v (.st 16)] [] [] [] [] [(917526,[gA [.v (.c (.sl 5))] 0]),(917531,[gA [.v (.c (.sl 7))] 1]),(917547,[.mk [.p (.hd 7)] [] [.row 1] [(1000000,2)] [] []])]],λ(h,i,j,_,_,_,_,_,_,_,_,_,_,_,_,_,_,_,_,_,_,a,b,d,e,f,g,_,_)=>R_ N h i j a b d e f g⟩
def za1:f9 15 (mW N):=og (g:=15) N (.c (zdY N)<|.c (zdd N)<|.nil) (.c (pJ N)<|.c (m_ N)<|.c (lB N)<|.nil)
def pV:du:=⟨.mk [.p (.pt 0 0 27),.v ci] [] [g7 1 2 3,.cells [xi,.hd 4],.cells [xl 0,.mr 5],.row 1,.row 5,.mp 7 true] [] [] [],[.mk [.v (.st 5),.v cb] [] [] [] [] [(917518,[gA [.v (.st 5),.v cb] 0])]],λ(_,a,_,b,_,_,_,_,_,_,_,_,_,_,_,_,_,_,_,_,_,_,_,_,_,_,_,_,_,_)=>zcN N a b⟩
def pH:f9 52 (pV N):=og (g:=52) N .nil (.c (zdo N)<|.nil)
def Ks:bx:=⟨[.st 5],[ci],λa=>wS N a.1⟩
def JA:eP 124 (Ks N):=tg [] [(6,k9 [.r 11 cb])] [] N (.c (zfk N)<|.c (kA N)<|.nil) .nil
def oE:du:=⟨.mk [.p (.pt 0 0 27)] [] [g7 1 2 3,.cells [xi,.hd 4],.cells [xl 0,.mr 5],.row 1,.row 5,.mp 7 true] [] [] [],[g6 [.v (.st 10)]],λ(_,_,_,m,n,o,p,q,r,s,a,b,d,e,f,g,h,i,j,k,l,_,_,_,_,_,_,_,_)=>zaV N m n o p q r s a b d e f g h i j k l⟩
def zbo:f9 89 (oE N):=og (g:=89) N (.c (iI N)<|.nil) .nil
def HF:bx:=⟨[.st 8,ci],[cb],λa=>sD N a.1 a.2.1⟩
def HM:eP 198 (HF N):=tg [] [] [] N .nil .nil
def Hd:bx:=⟨[.c (.sl 8),ci,ci,ci],[cb],λa=>fS N a.1 a.2.1 a.2.2.1 a.2.2.2.1⟩
def yF:eP 138 (Hd N):=tg [] [(26,k9 [.r 13 ci])] [] N .nil .nil
def Ho:bx:=⟨[.c (.sl 8),ci],[cb],λa=>nL N a.1 a.2.1⟩
def yD:eP 137 (Ho N):=tg [] [(58,k9 [.r 12 ci]),(3737,k9 [.r 47 cb])] [] N (.c (HM N)<|.c (yF N)<|.nil) .nil
def Bj:bx:=⟨[.c (.sl 17),ci,ci],[cb],λa=>gZ N a.1 a.2.1 a.2.2.1⟩
def AP:eP 184 (Bj N):=tg [] [(26,k9 [.r 11 ci]),(1689,k9 [.r 36 cb])] [] N (.c (zeW N)<|.c (WH N)<|.nil) .nil
def FX:bx:=⟨[.c (.sl 18)],[cb],λa=>zem N a.1⟩
def iq:eP 233 (FX N):=tg [] [(58,k9 [.r 3 ci,.r 8 ci]),(7474,k9 [.r 26 cb])] [] N (.c (WH N)<|.nil) .nil
def JW:bx:=⟨[ci,.st 0],[.c (.sl 18),ci],λa=>wN N a.1 a.2.1⟩
def Lp:eP 185 (JW N):=tg [(10,18)] [] [] N (.c (iq N)<|.nil) .nil
def Hp:bx:=⟨[.c (.sl 18),ci],[ci],λa=>fU N a.1 a.2.1⟩
def zcV:eP 274 (Hp N):=tg [] [] [(393224,[.mk [.v ci] [] [] [] [(28,k9 [.r 5 ci,.r 6 ci])] [(59375636,[g6 [.v cb]])]])] N .nil .nil
def zex:du:=⟨g6 [.v (.c (.sl 18))],[.mk [.p (.hd 0)] [] [.row 18] [] [] []],λx=>za3 N x⟩
def zb3:f9 298 (zex N):=jk (i:=18) (sz:=40) (z:=[g8,g8,g8,g8,g8]) (fn:=Tryz.f298) dF (by kernel_rfl) (by kernel_rfl) (by kernel_rfl) rfl
def zbQ:du:=⟨.mk [.p (.hd 0),.v ci,.p (.hd 1)] [] [.row 18,.row 18] [] [] [],[.mk [.p (.hd 0)] [.w 0 18] [] [] [] []],λ(a,b,d)=>zaE N a b d⟩
def zdP:f9 299 (zbQ N):=og (g:=299) N .nil .nil
def zeb:du:=⟨.mk [.p (.hd 0),.v ci,.p (.hd 1)] [] [.row 18,.row 18] [] [] [],[.mk [.p (.hd 0)] [.w 0 18] [] [] [] []],λx=>zaZ N x.1 x.2.1 x.2.2⟩
def ZO:Go.Shelf.Ren:=⟨λ| 22=>299 | 29=>303 | 30=>304 | n=>n,λ| 24=>254 | 9=>298 | 3=>3 | 4=>4 | 0=>0 | n=>n,λn=>n⟩
def OF:MO Tryz.prog ZO 5 40 "slices.Insert[[]drayage/api.Step,drayage/api.Step]" (.agg #[.int .i64 0,.int .i64 0,.int .i64 0,.int .i64 0,.int .i64 0]):={ mixed:=dF,f22:=Tryz.func299.trans (congrArg some (by kernel_rfl)),ov:=λargs w=>Go.run_callFunc_extern Tryz.func303 (by kernel_rfl) (by kernel_rfl) (by kernel_rfl) (by kernel_rfl) args w,t0:=Tryz.underlying0,t3:=Tryz.underlying3,t4:=Tryz.underlying4,a3:=Tryz.isAgg3,z3:=Tryz.sizeOf3,a4:=Tryz.isAgg4,z4:=Tryz.sizeOf4,z9:=Tryz.sizeOf298,v9:=Tryz.zeroValue298,t24:=Tryz.underlying254,a24:=Tryz.isAgg254,z24:=Tryz.sizeOf254,v24:=Tryz.zeroValue254,i9:=by kernel_rfl }
def zes:f9 299 (zeb N):=cY.or (f1:=(zbQ N).f) (f2:=λx=>OH (α:=TT 18) x.1 x.2.1 x.2.2) (zdP N) (IA (ii:=18) OF (by kernel_rfl) (by kernel_rfl) (by kernel_rfl) (by kernel_rfl) (by kernel_rfl))
def JG:bx:=⟨[.c (.sl 18),ci],[.c (.sl 18)],λa=>rB N a.1 a.2.1⟩
def lZ:eP 273 (JG N):=tg [(30,18)] [] [(917515,[.mk [.p (.hd 0)] [] [.row 18] [(1000000,0)] [] []]),(4063263,[.mk [.p (.hd 0)] [.w 0 18] [] [(1000000,1)] [] []])] N (.c (zcV N)<|.nil) (.c (zb3 N)<|.c (zes N)<|.nil)
def zbH:du:=⟨.mk [.p (.hd 0),.v ci,.p (.hd 1)] [] [.row 18,.row 18] [] [] [],[.mk [.p (.hd 0)] [.w 0 18] [] [] [] []],λ(a,b,d)=>zaE N a b d⟩
def zdE:f9 299 (zbH N):=og (g:=299) N .nil .nil
def zd1:du:=⟨.mk [.p (.hd 0),.v ci,.p (.hd 1)] [] [.row 18,.row 18] [] [] [],[.mk [.p (.hd 0)] [.w 0 18] [] [] [] []],λx=>zcg N x.1 x.2.1 x.2.2⟩
def zdZ:f9 299 (zd1 N):=cY.or (f1:=(zbH N).f) (f2:=λx=>OH (α:=TT 18) x.1 x.2.1 x.2.2) (zdE N) (IA (ii:=18) OF (by kernel_rfl) (by kernel_rfl) (by kernel_rfl) (by kernel_rfl) (by kernel_rfl))
def zH:du:=⟨g6 [.v (.c (.sl 18)),.v ci],[.mk [.p (.hd 0)] [] [.row 18] [(30,18)] [] [(917515,[.mk [.p (.hd 0)] [] [.row 18] [(1000000,0)] [] []]),(4063263,[.mk [.p (.hd 0)] [.w 0 18] [] [(1000000,1)] [] []])]],λ(a,b)=>kH N a b⟩
def zr:f9 273 (zH N):=og (g:=273) N (.c (zcV N)<|.nil) (.c (zb3 N)<|.c (zdZ N)<|.nil)
def Fp:bx:=⟨[.c (.sl 18)],[.c (.sl 18)],λa=>py N a.1⟩
def FH:eP 275 (Fp N):=tg [(13,18),(36,18)] [(122,⟨[.r 17 ci,.w 0 18],[(3,0)],[],[]⟩),(979,⟨[.w 0 18],[(3,0)],[],[]⟩)] [] N (.c (iq N)<|.nil) .nil
def pT:bx:=⟨[.c (.sl 18),ci,ci,.st 0,.k 165],[.c (.sl 18),ci],λa=>zep N a.1 a.2.1 a.2.2.1 a.2.2.2.1⟩
def qg:eP 234 (pT N):=tg [] [(6,k9 [.r 40 cb]),(62,⟨[],[],[(12,18)],[]⟩),(122,⟨[.r 13 ci,.w 1 18],[(12,1)],[],[]⟩)] [(917549,[.mk [.p (.hd 1)] [] [.row 18] [(1000000,0)] [] []])] N (.c (lZ N)<|.c (zcV N)<|.c (ze N)<|.c (FH N)<|.c (iq N)<|.c (WH N)<|.nil) (.c (zr N)<|.nil)
def Hs:bx:=⟨[.c (.sl 18),ci,ci,.st 0],[.c (.sl 18),ci],λa=>nJ N a.1 a.2.1 a.2.2.1 a.2.2.2.1⟩
def qh:eP 186 (Hs N):=tg [] [] [] N (.c (qg N)<|.nil) .nil
def mG:du:=⟨.mk [.p (.pt 0 0 3),.v ci,.v ci,.v (.c (.sl 6)),.v (.st 0)] [] [.cells [xi,.hd 1,.hd 2],.row 2,.row 19] [] [] [],[.mk [.v ci] [.h 0 2 (.hd 2),.w 2 19] [] [(20,19)] [(58,⟨[.r 23 ci,.w 4 19],[(11,4)],[],[]⟩),(122,⟨[.r 62 ci,.w 2 19],[],[],[(0,2,2)]⟩)] []],λ(_,a,b,d,e,f,_)=>zbe N a b d e f⟩
def nz:f9 179 (mG N):=og (g:=179) N (.c (lF N)<|.c (qh N)<|.nil) .nil
def As:du:=⟨.mk [.v (.st 10),.v ci,.p (.hd 0),.v (.c (.sl 8))] [] [.row 17] [] [] [],[.mk [.p (.k j7),.v ci] [] [] [(69,2),(96,19)] [(6,k9 [.r 51 cb]),(122,⟨[.r 58 ci,.w 3 2],[],[(1050625,2)],[(2,1,3)]⟩),(250,⟨[.r 77 ci,.w 4 19],[],[(1050626,19)],[(2,2,4)]⟩),(506,⟨[.r 103 ci,.w 4 19],[],[],[(2,2,4)]⟩),(1018,⟨[.r 122 ci,.w 4 19],[],[],[(2,2,4)]⟩),(8147,⟨[.w 4 19],[],[],[(2,2,4)]⟩)] [(4247912563,[.mk [.v ci] [.h 2 2 (.hd 4),.w 4 19] [] [(1000000,0)] [] []])],.mk [.p (.pt 1 0 3),.p (.k g8)] [] [.cells [xi,xl 2,.hd 2],.row 19] [] [] []],λ(a,b,d,e)=>zeS N a b d e⟩
def Bx:f9 125 (As N):=og (g:=125) N (.c (zdd N)<|.c (Lp N)<|.c (qh N)<|.c (zbY N)<|.c (yD N)<|.c (AP N)<|.nil) (.c (nz N)<|.nil)
def rT:du:=⟨.mk [.p (.pt 0 0 27)] [] [g7 1 2 3,.cells [xi,.hd 4],.cells [xl 0,.mr 5],.row 1,.row 5,.mp 7 true] [] [] [],[.mk [.p (.k j7),.v ci] [] [] [(17,17),(40,17)] [(250,⟨[.r 21 ci,.w 7 17],[(5,7)],[],[]⟩)] [(917517,[gA [.v (.st 16)] 0]),(8257580,[gA [.v (.st 10)] 2]),(8257586,[gA [.p (.k j7),.v ci] 3,.mk [.p (.pt 8 0 3),.p (.k g8)] [] [.cells [xi,xl 2,.hd 9],.row 19] [] [] []]),(2100428829,[gA [.v (.st 5),.v cb] 1])],.mk [.p (.pt 6 0 3),.p (.k g8)] [] [.cells [xi,xl 2,.hd 7],.row 19] [] [] []],λ(s,t,u,v,w,x,y,z,A,E,a,b,d,e,f,g,h,i,j,k,l,m,n,o,p,q,r,_,_)=>zdA N s t u v w x y z A E a b d e f g h i j k l m n o p q r⟩
def rP:f9 61 (rT N):=og (g:=61) N (.c (JA N)<|.nil) (.c (za1 N)<|.c (pH N)<|.c (zbo N)<|.c (Bx N)<|.nil)
def KK:bx:=⟨[ci,.c (.sl 5)],[.st 5,cb],λa=>wM N a.1 a.2.1⟩
def K_:eP 221 (KK N):=tg [] [(26,k9 [.r 9 ci])] [] N .nil .nil
def Pg:bx:=⟨[.st 4,.st 5],[cb],λa=>ED N a.1 a.2.1⟩
def Nv:eP 222 (Pg N):=tg [] [] [] N (.c (iG N)<|.nil) .nil
def Og:bx:=⟨[.st 5,.c (.sl 5)],[cb],λa=>qo N a.1 a.2.1⟩
def Oh:eP 173 (Og N):=tg [] [(26,k9 [.r 12 ci]),(3379,k9 [.r 30 cb])] [] N (.c (K_ N)<|.c (Nv N)<|.nil) .nil
def CN:bx:=⟨[.c (.sl 5)],[.c (.sl 5)],λa=>fj N a.1⟩
def qQ:XX Tryz.prog 172 (CN N):=able_ok (i:=5) (gm:=173) (so:=10) (ti:=3) (tb:=4) (z:=[g8,g8,g8,g8,g8,g8,g8,g8,g8,k8,g8,.c (.lit (.bool false)),.c (.lit (.bool false)),g8,g8,g8,g8,g8]) (fn:=Tryz.f172) (st:=λ(a:aJ)=>a.State) (met:=λ(a:aJ) (l:List aJ)=>qo N a l) dF (by kernel_rfl) (by kernel_rfl) (Oh N) rfl (λa=>by kernel_rfl) (λx y=>by kernel_rfl) (λx=>by kernel_rfl) (λx=>by kernel_rfl) (λx=>by kernel_rfl)
end Go.Abs
end
end
section
set_option maxRecDepth 100000
noncomputable section
namespace Go.Abs
open Go.Proofs
variable[Gl](N:Nat)
def DB:bx:=⟨[ci],[ci],λa=>gL N a.1⟩
def DA:eP 288 (DB N):=tg [] [] [] N (.c (fC N)<|.nil) .nil
def Ml:bx:=⟨[ci,ci],[ci],λa=>Av N a.1 a.2.1⟩
def Oq:eP 289 (Ml N):=tg [] [] [] N .nil .nil
def Hl:bx:=⟨[.st 10,.st 5,ci,.c (.sl 1)],[.st 11],λa=>zO N a.1 a.2.1 a.2.2.1 a.2.2.2.1⟩
def Hq:eP 259 (Hl N):=tg [] [(15,k9 [.r 9 ci]),(31,k9 [.r 10 ci])] [] N (.c (zbY N)<|.c (Oq N)<|.c (fC N)<|.c (DA N)<|.nil) .nil
def Qw:bx:=⟨[.st 10,.st 5,ci,.c (.sl 1)],[ci],λa=>Ev N a.1 a.2.1 a.2.2.1 a.2.2.2.1⟩
def Si:eP 223 (Qw N):=tg [] [] [] N (.c (Hq N)<|.nil) .nil
def Mj:bx:=⟨[.st 10,.st 5,.st 21],[.st 22],λa=>qP N a.1 a.2.1 a.2.2.1⟩
def Nq:eP 174 (Mj N):=tg [] [] [] N (.c (Si N)<|.nil) .nil
def CI:bx:=⟨[ci],[cb],λa=>cmp_isNaN_int N a.1⟩
def Cw:eP 292 (CI N):=tg [] [] [] N .nil .nil
def zj:bx:=⟨[ci,ci],[ci],λa=>fE N a.1 a.2.1⟩
def zu:eP 261 (zj N):=tg [] [] [] N (.c (Cw N)<|.nil) .nil
def mR:bx:=⟨[.c (.sl 1),.c (.sl 1)],[ci],λa=>zaC N a.1 a.2.1⟩
def zeJ:eP 226 (mR N):=tg [] [(26,k9 [.r 11 ci])] [] N (.c (zu N)<|.nil) .nil
def zfc:du:=⟨.mk [.p (.hd 0),.v ci,.v ci,.v ci,.p (.fb 225 1 1)] [] [.row 1,.cells [xl 22]] [] [] [],[.mk [] [.w 0 1] [] [] [(63,k9 [.r 20 ci,.r 21 ci]),(172,k9 [.r 10 ci,.r 11 ci]),(428,k9 [.r 14 ci,.r 15 ci]),(698,⟨[.r 13 ci,.w 0 1],[(0,0)],[],[]⟩),(1020,k9 [.r 20 ci,.r 21 ci]),(1023,⟨[.w 0 1],[(0,0)],[],[]⟩),(1722,⟨[.r 17 ci,.w 0 1],[(0,0)],[],[]⟩),(2047,⟨[.w 0 1],[(0,0)],[],[]⟩),(8186,⟨[],[(0,0)],[],[]⟩),(16378,⟨[],[(0,0)],[],[]⟩)] [(361365553,[.mk [.v ci] [] [] [(9,1),(13,1)] [] []]),(536477887,[.mk [] [.w 0 1] [] [] [(28,⟨[.r 10 ci,.r 11 ci,.w 0 1],[(0,0)],[],[]⟩),(1812,⟨[],[(0,0)],[],[]⟩),(1814,⟨[],[(0,0)],[],[]⟩)] [(983097,[.mk [] [.w 0 1] [] [] [(6,⟨[.r 10 ci,.w 0 1],[(0,0)],[],[]⟩)] []]),(118751263,[.mk [] [.w 0 1] [] [] [(6,⟨[.r 10 ci,.w 0 1],[(0,0)],[],[]⟩)] []]),(118882350,[.mk [] [.w 0 1] [] [] [(6,⟨[.r 10 ci,.w 0 1],[(0,0)],[],[]⟩)] []])]]),(898236517,[.mk [.v ci] [] [] [(9,1),(13,1)] [] []]),(1073348813,[.mk [] [.w 0 1] [] [(1000000,0)] [] []]),(1073610971,[.mk [] [.w 0 1] [] [(1000000,0)] [] []]),(2139750569,[.mk [.v ci] [] [] [(9,1),(13,1)] [] []])]],λ(a,b,d,e,f)=>zbb N a b d e f⟩
theorem zcA:∀N:Nat,f9 291 (zfc N)
 |0=>⟨by kernel_rfl,λx y a b d z e f h=>by cases h⟩
 |N+1=>og (g:=291) N (.c (zeJ N)<|.nil) (.c (zcA N)<|.nil)
def xw:bx:=⟨[.c (.sl 22)],[.c (.sl 1)],λa=>zeZ N a.1⟩
def yt:eP 175 (xw N):=tg [(7,1)] [(30,⟨[],[(3,0)],[],[]⟩),(58,⟨[.r 10 ci,.w 1 1],[(3,1)],[],[]⟩)] [(1966100,[.mk [] [.w 1 1] [] [] [] [(65544,[.mk [] [.w 1 1] [] [] [(28,⟨[.r 7 ci,.r 8 ci,.w 1 1],[(0,1)],[],[]⟩),(30,⟨[],[(0,0)],[],[]⟩),(62,⟨[.r 6 ci,.w 1 1],[(0,1)],[],[]⟩),(452,⟨[],[(0,0)],[],[]⟩),(1995,⟨[.w 1 1],[(0,1)],[],[]⟩),(3988,⟨[.r 7 ci,.r 8 ci,.w 1 1],[(0,1)],[],[]⟩),(31926,⟨[],[(0,0)],[],[]⟩),(63812,⟨[],[(0,0)],[],[]⟩)] [(1966107,[.mk [] [.w 1 1] [] [] [(6,⟨[.r 8 ci,.w 1 1],[(0,1)],[],[]⟩),(402,⟨[.r 9 ci,.w 1 1],[(0,1)],[],[]⟩),(1608,k9 [.r 34 cb])] [(210763808,[.mk [.v ci] [] [] [(9,1),(13,1)] [] []])]]),(29622290,[.mk [] [.w 1 1] [] [] [(6,⟨[.r 8 ci,.w 1 1],[(0,1)],[],[]⟩),(402,⟨[.r 9 ci,.w 1 1],[(0,1)],[],[]⟩),(1608,k9 [.r 34 cb])] [(210763808,[.mk [.v ci] [] [] [(9,1),(13,1)] [] []])]]),(2092302396,[.mk [] [.w 1 1] [] [(1000000,0)] [] []]),(4181983275,[.mk [] [.w 1 1] [] [(1000000,0)] [] []])]])]])] N (.c (zeJ N)<|.nil) (.c (zcA N)<|.nil)
def yk:du:=⟨.mk [.v (.st 10),.p (.hd 0),.v (.st 21)] [] [.row 5] [] [] [],[.mk [.v (.c (.sl 5))] [] [] [(19,22),(37,5),(55,5)] [(122,⟨[.r 22 ci,.w 3 22],[(7,3)],[],[]⟩),(252,⟨[],[],[(7,22)],[]⟩),(506,⟨[.r 41 ci,.w 4 5],[(10,4)],[],[]⟩)] []],λ(a,b,d)=>ze0 N a b d⟩
def xS:f9 114 (yk N):=og (g:=114) N (.c (zbY N)<|.c (Nq N)<|.c (yt N)<|.c (zbJ N)<|.nil) .nil
def vJ:du:=⟨.mk [.p (.pt 0 0 27)] [] [g7 1 2 3,.cells [xi,.hd 4],.cells [xl 0,.mr 5],.row 1,.row 5,.mp 7 true] [] [] [],[.mk [.v (.c (.sl 5))] [] [] [(16,5)] [(250,⟨[.w 9 5],[],[(1055744,5)],[(7,0,9)]⟩)] [(917513,[gA [.v (.st 16)] 0]),(8126476,[.mk [] [] [] [(1000002,0)] [] []]),(8257555,[gA [.v (.st 10)] 1]),(8257562,[gA [.v (.c (.sl 5))] 2])]],λ(s,t,u,v,w,x,y,z,A,E,a,b,d,e,f,g,h,i,j,k,l,m,n,o,p,q,r,_,_)=>zdc N s t u v w x y z A E a b d e f g h i j k l m n o p q r⟩
def uT:f9 48 (vJ N):=og (g:=48) N (.it (qQ N)<|.nil) (.c (za1 N)<|.c (zbo N)<|.c (xS N)<|.nil)
def Gh:bx:=⟨[.st 10,ci],[cb],λa=>wk N a.1 a.2.1⟩
def Gv:eP 176 (Gh N):=tg [] [] [] N (.c (zbY N)<|.nil) .nil
def DO:bx:=⟨[.c (.sl 5),ci],[ci],λa=>lA N a.1 a.2.1⟩
def DG:eP 177 (DO N):=tg [] [] [(393223,[.mk [.v ci] [] [] [] [(58,k9 [.r 5 ci,.r 10 ci]),(467,k9 [.r 5 ci])] [(489816080,[g6 [.v cb]])]])] N (.c (kA N)<|.nil) .nil
def Oa:bx:=⟨[.c (.sl 5),ci,ci],[ci],λa=>Au N a.1 a.2.1 a.2.2.1⟩
def Nc:eP 178 (Oa N):=tg [] [] [(393225,[.mk [.v ci] [] [] [] [(58,k9 [.r 5 ci,.r 10 ci]),(467,k9 [.r 5 ci])] [(489816080,[g6 [.v cb]])]])] N (.c (kA N)<|.nil) .nil
def Kb:bx:=⟨[.st 10,.c (.sl 5),.st 5],[cb],λa=>mo N a.1 a.2.1 a.2.2.1⟩
def Kw:eP 115 (Kb N):=tg [] [] [] N (.c (Gv N)<|.c (DG N)<|.c (Nc N)<|.nil) .nil
def Ac:du:=⟨.mk [.p (.pt 0 0 27),.v ci] [] [g7 1 2 3,.cells [xi,.hd 4],.cells [xl 0,.mr 5],.row 1,.row 5,.mp 7 true] [] [] [],[.mk [.v cb] [] [] [] [(122,k9 [])] [(917514,[gA [.v (.st 16)] 0]),(3932173,[.mk [] [] [] [(1000002,0)] [] []]),(257163284,[gA [.v (.st 10)] 1])]],λ(t,u,v,w,x,y,z,A,E,F,a,b,d,e,f,g,h,i,j,k,l,m,n,o,p,q,r,s,_,_)=>fD N t u v w x y z A E F a b d e f g h i j k l m n o p q r s⟩
def yZ:f9 49 (Ac N):=og (g:=49) N (.it (qQ N)<|.c (Kw N)<|.nil) (.c (za1 N)<|.c (zbo N)<|.nil)
def mH:du:=⟨.mk [.p (.hd 0)] [] [.row 1] [] [] [],[.mk [] [.w 0 1] [] [] [] []],λx=>zck N x⟩
def zeF:f9 181 (mH N):=sort_oo (ii:=1) Tryz.sortsI (d:=λk=>k) (c:=λk=>k) (λa=>rfl) (λk=>rfl) (by kernel_rfl)
def kk:du:=⟨.mk [.p (.hd 0)] [] [.row 1] [] [] [],[.mk [.p (.hd 1)] [.w 0 1] [.row 1] [] [] []],λx=>zbP N x⟩
def zdF:f9 235 (kk N):=Sb (ii:=1) Tryz.VA (d:=λk=>k) (c:=λk=>k) (λa=>rfl) (λk=>rfl) (by kernel_rfl)
def tE:bx:=⟨[.fp 20,ci],[.c (.sl 1)],λa=>zN N a.1 a.2.1⟩
def tN:eP 187 (tE N):=tg [(52,1)] [(62,⟨[],[(5,0)],[],[]⟩),(122,⟨[.r 33 ci,.w 0 1],[(5,0)],[(5,1)],[]⟩),(31334,⟨[.r 45 ci,.w 0 1],[(5,0)],[],[]⟩)] [(4063289,[.mk [] [.w 0 1] [] [(1000000,0)] [] []]),(8257595,[.mk [.p (.hd 1)] [.w 0 1] [.row 1] [(1000000,1)] [] []])] N .nil (.c (zeF N)<|.c (zdF N)<|.nil)
def KJ:bx:=⟨[.st 0,.st 0],[.st 0],λa=>Cb N a.1 a.2.1⟩
def Ln:eP 276 (KJ N):=tg [] [] [] N .nil .nil
def EM:bx:=⟨[.c (.sl 18),ci,ci],[.st 0],λa=>oW N a.1 a.2.1 a.2.2.1⟩
def vS:eP 236 (EM N):=tg [] [(6,k9 [.r 26 cb]),(31,k9 [.h 1 0 hi,.h 1 1 hi,.h 1 2 hi,.h 1 3 hi]),(250,k9 [.r 41 ci,.h 1 0 hi,.h 1 1 hi,.h 1 2 hi,.h 1 3 hi])] [] N (.c (zcV N)<|.c (Ln N)<|.c (iq N)<|.nil) .nil
def LG:bx:=⟨[.st 0,.st 0],[ci],λa=>mn N a.1 a.2.1⟩
def Al:eP 253 (LG N):=tg [] [(6,k9 [.r 21 cb]),(250,k9 [.r 5 ci,.r 26 ci]),(2003,k9 [.r 5 ci])] [] N (.c (vw N)<|.c (WH N)<|.nil) .nil
def Kk:bx:=⟨[.c (.sl 0),ci,.st 0],[ci],λa=>qM N a.1 a.2.1 a.2.2.1⟩
def Aq:eP 278 (Kk N):=tg [] [] [] N (.c (Al N)<|.nil) .nil
def HH:bx:=⟨[.c (.sl 0),.c (.sl 1),.st 0],[ci],λa=>rJ N a.1 a.2.1 a.2.2.1⟩
def Hy:eP 277 (HH N):=tg [] [(58,k9 [.r 7 ci,.r 12 ci])] [] N (.c (Aq N)<|.nil) .nil
def vH:du:=⟨.mk [.p (.hd 0),.v (.c (.sl 1)),.v ci,.v (.st 0)] [] [.row 0] [] [] [],[.mk [.v (.c (.sl 6)),.v cb] [] [] [(48,6)] [(12,k9 [.r 24 cb]),(111,⟨[.w 2 6],[(10,2)],[(10,6)],[]⟩),(890,⟨[.r 11 ci,.r 28 ci,.w 2 6],[(10,2)],[],[]⟩),(7123,⟨[.r 11 ci,.w 2 6],[(10,2)],[],[]⟩)] []],λ(a,b,d,e)=>zew N a b d e⟩
def jK:f9 237 (vH N):=og (g:=237) N (.c (Aq N)<|.c (Hy N)<|.nil) .nil
def wH:bx:=⟨[.fp 20,ci,ci,.st 0,ci,ci],[.c (.sl 6),cb],λa=>AV N a.1 a.2.1 a.2.2.1 a.2.2.2.1 a.2.2.2.2.1 a.2.2.2.2.2.1⟩
def wG:eP 188 (wH N):=tg [(57,0)] [(122,⟨[.r 66 ci,.w 1 0],[(14,1)],[],[]⟩)] [(4063328,[gA [.v (.c (.sl 6)),.v cb] 0])] N (.c (vS N)<|.nil) (.c (jK N)<|.nil)
def pK:bx:=⟨[.fp 20,ci,ci,.st 0,ci],[.st 14,cb],λa=>uq N a.1 a.2.1 a.2.2.1 a.2.2.2.1 a.2.2.2.2.1⟩
def pL:eP 126 (pK N):=tg [] [(3,k9 [.r 12 (.c (.sl 1)),.r 13 ci])] [] N (.c (wG N)<|.c (tN N)<|.nil) .nil
def qS:du:=⟨.mk [.p (.pt 0 0 27),.v (.fp 20),.v (.st 5)] [] [g7 1 2 3,.cells [xi,.hd 4],.cells [xl 0,.mr 5],.row 1,.row 5,.mp 7 true] [] [] [],[.mk [.v (.st 14),.v cb] [] [] [] [] [(917523,[gA [.v (.st 10)] 0])]],λ(_,_,_,o,p,q,r,s,t,u,a,b,d,e,f,g,h,i,j,k,l,m,n,_,_,_,_,_,_,_,_)=>zda N o p q r s t u a b d e f g h i j k l m n⟩
def qH:f9 62 (qS N):=og (g:=62) N (.c (pL N)<|.nil) (.c (zbo N)<|.nil)
def yj:bx:=⟨[.fp 20],[ci],λa=>jm N a.1⟩
def xL:eP 51 (yj N):=tg [] [] [] N .nil .nil
def qa:du:=⟨.mk [.p (.pt 0 0 25)] [] [.cells [.pt 1 0 27,.fp 20,xi,xi,xi,xi,xi,xi,xi,xi,xi,xn,xi,xb,xb,xi,xi,xi,xi,xi,xn,xn,xi,xi,xi],g7 2 3 4,.cells [xi,.hd 5],.cells [xl 0,.mr 6],.row 1,.row 5,.mp 7 true] [] [] [],[g6 [.v cb]],λ(_,_,_,_,_,_,_,_,_,_,_,_,_,_,_,_,_,_,_,_,_,a,_,_,_,_,_,_,_,_,_,_,_,_,_,_,_,_,_,_,_,_,_,_,_,_,_,_,_,_)=>WV N a⟩
def zfl:f9 65 (qa N):=og (g:=65) N .nil .nil
def sd:du:=⟨.mk [.p (.pt 0 0 25),.v (.st 5),.v ci] [] [.cells [.pt 1 0 27,.fp 20,xi,xi,xi,xi,xi,xi,xi,xi,xi,xn,xi,xb,xb,xi,xi,xi,xi,xi,xn,xn,xi,xi,xi],g7 2 3 4,.cells [xi,.hd 5],.cells [xl 0,.mr 6],.row 1,.row 5,.mp 7 true] [] [] [],[.mk [] [.h 0 2 (xi),.h 0 3 (xi),.h 0 4 (xi),.h 0 5 (xi),.h 0 6 (xi),.h 0 7 (xi),.h 0 8 (xi),.h 0 9 (xi),.h 0 10 (xi),.h 0 11 (xl 4),.h 0 12 (xi),.h 0 13 (xb),.h 0 14 (xb),.h 0 15 (xi),.h 0 16 (xi),.h 0 17 (xi),.h 0 18 (xi),.h 0 19 (xi),.h 0 22 (xi),.h 0 23 (xi),.h 0 24 (xi)] [] [] [] [(393223,[gA [.v cb] 0])]],λ(_,_,_,r,s,_,t,u,v,w,a,b,d,e,f,g,h,i,j,k,l,m,n,o,p,q,_,_,_,_,_,_,_,_,_,_,_,_,_,_,_,_,_,_,_,_,_,_,_,_,_,_)=>k_ N r s t u v w a b d e f g h i j k l m n o p q⟩
def rV:f9 63 (sd N):=og (g:=63) N .nil (.c (zfl N)<|.nil)
def zd6:du:=⟨g6 [.v (.c (.sl 19))],[.mk [.p (.hd 0)] [] [.row 19] [] [] []],λx=>zbk N x⟩
def zd4:f9 189 (zd6 N):=jk (i:=19) (sz:=24) (z:=[k8]) (fn:=Tryz.f189) dF (by kernel_rfl) (by kernel_rfl) (by kernel_rfl) rfl
def mg:du:=⟨g6 [.v (.fp 20)],[.mk [.p (.pt 0 0 3)] [] [.cells [xi,xl 2,.hd 1],.row 19] [] [] [(917521,[.mk [.p (.hd 0)] [] [.row 19] [(1000000,0)] [] []])]],λa=>zbx N a⟩
def zcD:f9 127 (mg N):=og (g:=127) N .nil (.c (zd4 N)<|.nil)
def lO:du:=⟨.mk [.p (.pt 0 0 3),.v ci,.v ci,.v (.c (.sl 6)),.v (.st 0)] [] [.cells [xi,xl 2,.hd 1],.row 19] [] [] [],[.mk [.v ci] [.h 0 2 (.hd 1),.w 1 19] [] [(20,19)] [(58,⟨[.r 23 ci,.w 3 19],[(11,3)],[],[]⟩),(122,⟨[.r 62 ci,.w 1 19],[],[],[(0,2,1)]⟩)] []],λ(a,b,d,e,f,_,_)=>zbe N a b d e f⟩
def lQ:f9 179 (lO N):=og (g:=179) N (.c (lF N)<|.c (qh N)<|.nil) .nil
def nk:du:=⟨.mk [.p (.pt 0 0 3),.v ci,.v (.c (.sl 6)),.v (.st 0),.v ci] [] [.cells [xi,xl 2,.hd 1],.row 19] [] [] [],[.mk [.v ci] [.h 0 2 (.hd 1),.w 1 19] [] [] [(14,k9 [.r 45 cb])] [(1966133,[.mk [.v ci] [.h 0 2 (.hd 1),.w 1 19] [] [(1000000,0)] [] []])]],λ(a,b,d,e,f,g,_)=>zbd N a b d e f g⟩
def zcJ:f9 116 (nk N):=og (g:=116) N (.c (zeW N)<|.c (WH N)<|.nil) (.c (lQ N)<|.nil)
def lS:du:=⟨.mk [.p (.pt 0 0 3),.v ci] [] [.cells [xi,xl 2,.hd 1],.row 19] [] [] [],[.mk [.v (.c (.sl 1))] [] [] [(52,1)] [(62,⟨[],[(5,0)],[],[]⟩),(122,⟨[.r 33 ci,.w 2 1],[(5,2)],[(5,1)],[]⟩),(31334,⟨[.r 45 ci,.w 2 1],[(5,2)],[],[]⟩)] [(4063289,[.mk [] [.w 2 1] [] [(1000000,0)] [] []]),(8257595,[.mk [.p (.hd 3)] [.w 2 1] [.row 1] [(1000000,1)] [] []])]],λ(a,b,_,d)=>zbv N a b d⟩
def l_:f9 187 (lS N):=og (g:=187) N .nil (.c (zeF N)<|.c (zdF N)<|.nil)
def mX:du:=⟨.mk [.p (.pt 0 0 3),.v ci,.v ci,.v (.st 0),.v ci,.v ci] [] [.cells [xi,xl 2,.hd 1],.row 19] [] [] [],[.mk [.v (.c (.sl 6)),.v cb] [] [] [(57,0)] [(122,⟨[.r 66 ci,.w 3 0],[(14,3)],[],[]⟩)] [(4063328,[gA [.v (.c (.sl 6)),.v cb] 0])]],λ(a,b,d,e,f,g,h,i)=>zaI N a b d e f g h i⟩
def np:f9 188 (mX N):=og (g:=188) N (.c (vS N)<|.nil) (.c (jK N)<|.nil)
def jf:du:=⟨.mk [.p (.pt 0 0 3),.v ci,.v ci,.v (.st 0),.v ci] [] [.cells [xi,xl 2,.hd 1],.row 19] [] [] [],[.mk [.v (.st 14),.v cb] [] [] [] [(3,k9 [.r 12 (.c (.sl 1)),.r 13 ci])] [(786450,[gA [.v (.c (.sl 1))] 0]),(8126498,[gA [.v (.c (.sl 6)),.v cb] 1]),(29098018,[gA [.v (.c (.sl 6)),.v cb] 1])]],λ(a,b,d,e,f,g,h)=>zaL N a b d e f g h⟩
def iZ:f9 126 (jf N):=og (g:=126) N .nil (.c (l_ N)<|.c (np N)<|.nil)
def ql:du:=⟨.mk [.p (.pt 0 0 27),.p (.pt 1 0 3),.v (.st 5)] [] [g7 2 3 4,.cells [xi,xl 2,.hd 5],.cells [xi,.hd 6],.cells [xl 0,.mr 7],.row 1,.row 19,.row 5,.mp 7 true] [] [] [],[.mk [.v (.st 14),.v cb] [] [] [] [] [(917523,[gA [.v (.st 10)] 0]),(4063279,[gA [.v (.st 14),.v cb] 1])]],λ(_,q,_,_,r,s,t,u,v,w,a,b,d,e,f,g,h,i,j,k,l,m,n,_,_,_,_,_,_,o,p,_,_)=>WK N q r s t u v w a b d e f g h i j k l m n o p⟩
def zdz:f9 62 (ql N):=og (g:=62) N .nil (.c (zbo N)<|.c (iZ N)<|.nil)
def kD:du:=⟨.mk [.p (.pt 0 0 2),.v (.st 7),.p (.k (.c (.fn (.func 165) [] [])))] [] [.cells [xl 0,.mr 1],.mp 7 true] [] [] [],[.mk [.v (.c (.sl 0)),.v ci] [] [] [] [(58,⟨[.r 21 ci,.w 3 0],[(8,3)],[],[]⟩)] [(393233,[.mk [.p (.hd 3)] [] [.row 0] [(1000000,0)] [] []])]],λ(_,a,b)=>zbO N a b⟩
def jS:f9 164 (kD N):=og (g:=164) N (.c (lF N)<|.c (ze N)<|.nil) (.c (zco N)<|.nil)
end Go.Abs
end
end
section
set_option maxRecDepth 100000
noncomputable section
namespace Go.Abs
open Go.Proofs
variable[Gl](N:Nat)
def lw:du:=⟨.mk [.p (.pt 0 0 2),.v (.st 7)] [] [.cells [xl 0,.mr 1],.mp 7 true] [] [] [],[.mk [.v ci] [.h 0 0 (xl 0),.m 1 7 true] [] [] [(14,k9 [.r 41 cb])] [(4063288,[gA [.v (.c (.sl 0)),.v ci] 0])]],λ(a,b,d)=>zaY N a b d⟩
def zcz:f9 103 (lw N):=og (g:=103) N (.c (yB N)<|.c (zeW N)<|.c (WH N)<|.nil) (.c (jS N)<|.nil)
def nq:du:=⟨.mk [.p (.pt 0 0 27),.v ci,.v (.c (.sl 6))] [] [g7 1 2 3,.cells [xi,.hd 4],.cells [xl 0,.mr 5],.row 1,.row 5,.mp 7 true] [] [] [],[.mk [.v ci] [.h 2 0 (xl 0),.m 5 7 true,.h 0 25 (.hd 3),.h 0 26 (xi),.h 1 1 (.hd 4),.w 3 1,.w 4 5] [] [] [] [(917524,[gA [.v (.st 5),.v cb] 0]),(133955641,[.mk [.v ci] [.h 2 0 (xl 0),.m 5 7 true] [] [(1000000,1)] [] []]),(268304458,[.mk [.v ci] [.h 1 1 (.hd 4),.w 4 5,.h 0 25 (.hd 3),.w 3 1] [] [(1000000,2)] [] []])]],λ(r,s,t,u,v,w,x,y,z,A,a,b,d,e,f,g,h,i,j,k,l,m,n,o,_,_,_,_,p,_,q)=>za4 N r s t u v w x y z A a b d e f g h i j k l m n o p q⟩
def zcI:f9 42 (nq N):=og (g:=42) N (.c (mV N)<|.c (Dq N)<|.c (mQ N)<|.nil) (.c (zdo N)<|.c (zcz N)<|.c (zeq N)<|.nil)
def qI:du:=⟨.mk [.p (.pt 0 0 25),.v (.st 5),.v (.st 14)] [] [.cells [.pt 1 0 27,.fp 20,xi,xi,xi,xi,xi,xi,xi,xi,xi,xn,xi,xb,xb,xi,xi,xi,xi,xi,xn,xn,xi,xi,xi],g7 2 3 4,.cells [xi,.hd 5],.cells [xl 0,.mr 6],.row 1,.row 5,.mp 7 true] [] [] [],[.mk [] [.h 1 25 (.hd 4),.h 1 26 (xi),.h 2 1 (.hd 5),.h 3 0 (xl 0),.w 4 1,.w 5 5,.m 6 7 true,.h 0 1 (.fp 20),.h 0 20 (xn)] [] [(74,14)] [(15,k9 []),(13194139533438,⟨[],[],[],[(5,1057794,19),(0,1048577,20)]⟩)] [(393229,[.mk [.p (.pt 9 0 3)] [] [.cells [xi,xl 2,.hd 10],.row 19] [(1000000,0)] [] []]),(1835031,[.mk [.v ci] [.h 9 2 (.hd 10),.w 10 19] [] [(1000000,1)] [] []]),(3932186,[gA [.v cb] 2]),(8126525,[.mk [.v ci] [.h 3 0 (xl 0),.m 6 7 true,.h 1 25 (.hd 4),.h 1 26 (xi),.h 2 1 (.hd 5),.w 4 1,.w 5 5] [] [(1000000,4)] [] []]),(15990821,[gA [.v (.st 14),.v cb] 3])],.mk [] [.h 1 25 (.hd 4),.h 1 26 (xi),.h 2 1 (.hd 5),.h 3 0 (xl 0),.w 4 1,.w 5 5,.m 6 7 true,.h 0 1 (.fp 20),.h 0 20 (.hd 7)] [.row 14] [] [] []],λ(S,T,U,W,X,Y,Z,a7,a8,a9,a,b,d,e,f,g,h,i,j,k,l,m,n,o,p,_,q,r,s,t,u,v,w,x,y,z,A,E,F,G,K,L,M,O,P,_,_,_,_,Q,_,R)=>vi N S T U W X Y Z a7 a8 a9 a b d e f g h i j k l m n o p q r s t u v w x y z A E F G K L M O P Q R⟩
def qX:f9 64 (qI N):=og (g:=64) N .nil (.c (zcD N)<|.c (zcJ N)<|.c (zfl N)<|.c (zdz N)<|.c (zcI N)<|.nil)
def oC:du:=⟨.mk [.p (.pt 0 0 25)] [] [.cells [.pt 1 0 27,.fp 20,xi,xi,xi,xi,xi,xi,xi,xi,xi,xn,xi,xb,xb,xi,xi,xi,xi,xi,.hd 2,xn,xi,xi,xi],g7 3 4 5,.row 14,.cells [xi,.hd 6],.cells [xl 0,.mr 7],.row 1,.row 5,.mp 7 true] [] [] [],[g6 [.v cb]],λ(_,_,_,_,_,_,_,_,_,_,_,_,_,_,_,_,_,_,_,_,_,_,a,_,_,_,_,_,_,_,_,_,_,_,_,_,_,_,_,_,_,_,_,_,_,_,_,_,_,_,_)=>WV N a⟩
def zeR:f9 65 (oC N):=og (g:=65) N .nil .nil
def re:du:=⟨.mk [.p (.pt 0 0 25),.v (.st 5),.v ci] [] [.cells [.pt 1 0 27,.fp 20,xi,xi,xi,xi,xi,xi,xi,xi,xi,xn,xi,xb,xb,xi,xi,xi,xi,xi,.hd 2,xn,xi,xi,xi],g7 3 4 5,.row 14,.cells [xi,.hd 6],.cells [xl 0,.mr 7],.row 1,.row 5,.mp 7 true] [] [] [],[.mk [] [.h 0 2 (xi),.h 0 3 (xi),.h 0 4 (xi),.h 0 5 (xi),.h 0 6 (xi),.h 0 7 (xi),.h 0 8 (xi),.h 0 9 (xi),.h 0 10 (xi),.h 0 11 (xl 4),.h 0 12 (xi),.h 0 13 (xb),.h 0 14 (xb),.h 0 15 (xi),.h 0 16 (xi),.h 0 17 (xi),.h 0 18 (xi),.h 0 19 (xi),.h 0 22 (xi),.h 0 23 (xi),.h 0 24 (xi)] [] [] [] [(393223,[gA [.v cb] 0])]],λ(_,_,_,_,s,t,_,u,v,w,a,b,d,e,f,g,h,i,j,k,l,m,n,o,p,q,r,_,_,_,_,_,_,_,_,_,_,_,_,_,_,_,_,_,_,_,_,_,_,_,_,_,_)=>k_ N s t u v w a b d e f g h i j k l m n o p q r⟩
def qU:f9 63 (re N):=og (g:=63) N .nil (.c (zeR N)<|.nil)
def qA:du:=⟨.mk [.p (.pt 0 0 25),.v (.st 5),.v (.st 14)] [] [.cells [.pt 1 0 27,.fp 20,xi,xi,xi,xi,xi,xi,xi,xi,xi,xn,xi,xb,xb,xi,xi,xi,xi,xi,.hd 2,xn,xi,xi,xi],g7 3 4 5,.row 14,.cells [xi,.hd 6],.cells [xl 0,.mr 7],.row 1,.row 5,.mp 7 true] [] [] [],[.mk [] [.h 1 25 (.hd 5),.h 1 26 (xi),.h 3 1 (.hd 6),.h 4 0 (xl 0),.w 5 1,.w 6 5,.m 7 7 true,.h 0 1 (.fp 20),.h 0 20 (.hd 2),.w 2 14] [] [(74,14)] [(15,k9 []),(14293651161214,⟨[],[],[],[(5,1058818,19),(0,1048577,20)]⟩)] [(393229,[.mk [.p (.pt 10 0 3)] [] [.cells [xi,xl 2,.hd 11],.row 19] [(1000000,0)] [] []]),(1835031,[.mk [.v ci] [.h 10 2 (.hd 11),.w 11 19] [] [(1000000,1)] [] []]),(3932186,[gA [.v cb] 2]),(8126525,[.mk [.v ci] [.h 4 0 (xl 0),.m 7 7 true,.h 1 25 (.hd 5),.h 1 26 (xi),.h 3 1 (.hd 6),.w 5 1,.w 6 5] [] [(1000000,4)] [] []]),(15990821,[gA [.v (.st 14),.v cb] 3])]],λ(T,U,W,X,Y,Z,a6,a7,a8,a9,a,b,d,e,f,g,h,i,j,k,l,m,n,o,p,q,_,r,s,t,u,v,w,x,y,z,A,E,F,G,K,L,M,O,P,Q,_,_,_,_,R,_,S)=>vn N T U W X Y Z a6 a7 a8 a9 a b d e f g h i j k l m n o p q r s t u v w x y z A E F G K L M O P Q R S⟩
def ru:f9 64 (qA N):=og (g:=64) N .nil (.c (zcD N)<|.c (zcJ N)<|.c (zeR N)<|.c (zdz N)<|.c (zcI N)<|.nil)
def nU:du:=⟨.mk [.p (.pt 0 0 25)] [] [.cells [.pt 1 0 27,.fp 20,xi,xi,xi,xi,xi,xi,xi,xi,xi,xl 4,xi,xb,xb,xi,xi,xi,xi,xi,.hd 2,xn,xi,xi,xi],g7 3 4 5,.row 14,.cells [xi,.hd 6],.cells [xl 0,.mr 7],.row 1,.row 5,.mp 7 true] [] [] [],[g6 [.v cb]],λ(_,_,_,_,_,_,_,_,_,_,_,_,_,_,_,_,_,_,_,_,_,_,_,a,_,_,_,_,_,_,_,_,_,_,_,_,_,_,_,_,_,_,_,_,_,_,_,_,_,_,_,_)=>WV N a⟩
def zcL:f9 65 (nU N):=og (g:=65) N .nil .nil
def sP:du:=⟨.mk [.p (.pt 0 0 25),.v (.st 5),.v ci] [] [.cells [.pt 1 0 27,.fp 20,xi,xi,xi,xi,xi,xi,xi,xi,xi,xl 4,xi,xb,xb,xi,xi,xi,xi,xi,.hd 2,xn,xi,xi,xi],g7 3 4 5,.row 14,.cells [xi,.hd 6],.cells [xl 0,.mr 7],.row 1,.row 5,.mp 7 true] [] [] [],[.mk [] [.h 0 2 (xi),.h 0 3 (xi),.h 0 4 (xi),.h 0 5 (xi),.h 0 6 (xi),.h 0 7 (xi),.h 0 8 (xi),.h 0 9 (xi),.h 0 10 (xi),.h 0 11 (xl 4),.h 0 12 (xi),.h 0 13 (xb),.h 0 14 (xb),.h 0 15 (xi),.h 0 16 (xi),.h 0 17 (xi),.h 0 18 (xi),.h 0 19 (xi),.h 0 22 (xi),.h 0 23 (xi),.h 0 24 (xi)] [] [] [] [(393223,[gA [.v cb] 0])]],λ(_,_,_,_,t,u,_,v,w,x,a,b,d,e,f,g,h,i,j,k,l,m,n,o,p,q,r,s,_,_,_,_,_,_,_,_,_,_,_,_,_,_,_,_,_,_,_,_,_,_,_,_,_,_)=>zfd N t u v w x a b d e f g h i j k l m n o p q r s⟩
def se:f9 63 (sP N):=og (g:=63) N .nil (.c (zcL N)<|.nil)
def qt:du:=⟨.mk [.p (.pt 0 0 25),.v (.st 5),.v (.st 14)] [] [.cells [.pt 1 0 27,.fp 20,xi,xi,xi,xi,xi,xi,xi,xi,xi,xl 4,xi,xb,xb,xi,xi,xi,xi,xi,.hd 2,xn,xi,xi,xi],g7 3 4 5,.row 14,.cells [xi,.hd 6],.cells [xl 0,.mr 7],.row 1,.row 5,.mp 7 true] [] [] [],[.mk [] [.h 1 25 (.hd 5),.h 1 26 (xi),.h 3 1 (.hd 6),.h 4 0 (xl 0),.w 5 1,.w 6 5,.m 7 7 true,.h 0 1 (.fp 20),.h 0 20 (.hd 2),.w 2 14] [] [(74,14)] [(15,k9 []),(14293651161214,⟨[],[],[],[(5,1058818,19),(0,1048577,20)]⟩)] [(393229,[.mk [.p (.pt 10 0 3)] [] [.cells [xi,xl 2,.hd 11],.row 19] [(1000000,0)] [] []]),(1835031,[.mk [.v ci] [.h 10 2 (.hd 11),.w 11 19] [] [(1000000,1)] [] []]),(3932186,[gA [.v cb] 2]),(8126525,[.mk [.v ci] [.h 4 0 (xl 0),.m 7 7 true,.h 1 25 (.hd 5),.h 1 26 (xi),.h 3 1 (.hd 6),.w 5 1,.w 6 5] [] [(1000000,4)] [] []]),(15990821,[gA [.v (.st 14),.v cb] 3])]],λ(U,W,X,Y,Z,a5,a6,a7,a8,a9,a,b,d,e,f,g,h,i,j,k,l,m,n,o,p,q,r,_,s,t,u,v,w,x,y,z,A,E,F,G,K,L,M,O,P,Q,R,_,_,_,_,S,_,T)=>zc7 N U W X Y Z a5 a6 a7 a8 a9 a b d e f g h i j k l m n o p q r s t u v w x y z A E F G K L M O P Q R S T⟩
def rc:f9 64 (qt N):=og (g:=64) N .nil (.c (zcD N)<|.c (zcJ N)<|.c (zcL N)<|.c (zdz N)<|.c (zcI N)<|.nil)
def Bu:du:=⟨.mk [.p (.pt 0 0 27)] [] [g7 1 2 3,.cells [xi,.hd 4],.cells [xl 0,.mr 5],.row 1,.row 5,.mp 7 true] [] [] [],[.mk [.v (.st 15),.v ci] [.h 0 25 (.hd 3),.h 0 26 (xi),.h 1 1 (.hd 4),.h 2 0 (xl 0),.w 3 1,.w 4 5,.m 5 7 true] [] [] [(511,k9 [.h 9 24 hi]),(2042,⟨[.r 32 ci,.h 0 26 hi,.h 2 0 (hl 0),.h 9 1 (.fp 20),.h 9 2 hi,.h 9 3 hi,.h 9 4 hi,.h 9 5 hi,.h 9 6 hi,.h 9 7 hi,.h 9 8 hi,.h 9 9 hi,.h 9 10 hi,.h 9 11 (hl 4),.h 9 12 hi,.h 9 13 hb,.h 9 14 hb,.h 9 15 hi,.h 9 16 hi,.h 9 17 hi,.h 9 18 hi,.h 9 19 hi,.h 9 22 hi,.h 9 23 hi,.h 9 24 hi,.h 10 0 hi,.h 10 1 hi,.h 10 2 (hl 6),.w 3 1,.w 4 5,.m 5 7 true,.w 11 14],[],[(1057812,14)],[(0,25,3),(1,1,4),(9,20,11)]⟩),(16339,⟨[.h 0 26 hi,.h 2 0 (hl 0),.h 9 1 (.fp 20),.h 9 2 hi,.h 9 3 hi,.h 9 4 hi,.h 9 5 hi,.h 9 6 hi,.h 9 7 hi,.h 9 8 hi,.h 9 9 hi,.h 9 10 hi,.h 9 11 (hl 4),.h 9 12 hi,.h 9 13 hb,.h 9 14 hb,.h 9 15 hi,.h 9 16 hi,.h 9 17 hi,.h 9 18 hi,.h 9 19 hi,.h 9 22 hi,.h 9 23 hi,.h 9 24 hi,.h 10 0 hi,.h 10 1 hi,.h 10 2 (hl 6),.w 3 1,.w 4 5,.m 5 7 true,.w 11 14],[],[],[(0,25,3),(1,1,4),(9,20,11)]⟩),(8796093022270,⟨[],[],[(4,0)],[]⟩),(10995116277822,⟨[],[],[(1055746,19),(4,20)],[]⟩)] [(917522,[gA [.p (.k j7),.v ci] 0,.mk [.p (.pt 7 0 3),.p (.k g8)] [] [.cells [xi,xl 2,.hd 8],.row 19] [] [] []]),(66846750,[gA [.v (.c (.sl 5))] 1]),(133955653,[gA [.v cb] 10]),(536084560,[gA [.v (.st 14),.v cb] 3]),(68531257383,[gA [.v cb] 2]),(68531388464,[gA [.v (.st 14),.v cb] 3]),(548252024898,[.mk [] [.h 0 25 (.hd 3),.h 0 26 (xi),.h 1 1 (.hd 4),.h 2 0 (xl 0),.w 3 1,.w 4 5,.m 5 7 true,.h 9 1 (.fp 20),.h 9 20 (.hd 11),.w 11 14] [] [(1000000,9)] [] []]),(2193007837246,[.mk [] [.h 9 2 (xi),.h 9 3 (xi),.h 9 4 (xi),.h 9 5 (xi),.h 9 6 (xi),.h 9 7 (xi),.h 9 8 (xi),.h 9 9 (xi),.h 9 10 (xi),.h 9 11 (xl 4),.h 9 12 (xi),.h 9 13 (xb),.h 9 14 (xb),.h 9 15 (xi),.h 9 16 (xi),.h 9 17 (xi),.h 9 18 (xi),.h 9 19 (xi),.h 9 22 (xi),.h 9 23 (xi),.h 9 24 (xi)] [] [(1000000,8)] [] []])]],λ(t,u,v,w,x,y,z,A,E,F,a,b,d,e,f,g,h,i,j,k,l,m,n,o,p,q,r,_,s)=>zcn N t u v w x y z A E F a b d e f g h i j k l m n o p q r s⟩
def gO:f9 18 (Bu N):=og (g:=18) N (.c (xL N)<|.nil) (.c (rP N)<|.c (uT N)<|.c (yZ N)<|.c (qH N)<|.c (rV N)<|.c (qX N)<|.c (qU N)<|.c (ru N)<|.c (se N)<|.c (rc N)<|.c (zcL N)<|.nil)
def vX:bx:=⟨[.c (.sl 6),.c (.sl 6)],[cb],λa=>zdk N a.1 a.2.1⟩
def kw:eP 123 (vX N):=tg [] [(58,k9 [.r 5 ci])] [] N .nil .nil
def vY:bx:=⟨[.st 14,.st 14],[cb],λa=>oL N a.1 a.2.1⟩
def wh:eP 59 (vY N):=tg [] [] [] N (.c (kw N)<|.nil) .nil
def ul:bx:=⟨[.c (.sl 14),.c (.sl 14)],[cb],λa=>fP N a.1 a.2.1⟩
def tL:eP 16 (ul N):=tg [] [(58,k9 [.r 5 ci])] [] N (.c (wh N)<|.nil) .nil
def u_:bx:=⟨[.st 15,.st 15],[cb],λa=>oY N a.1 a.2.1⟩
def vM:eP 33 (u_ N):=tg [] [] [] N (.c (tL N)<|.nil) .nil
def tz:bx:=⟨[],[cb],λa=>zdX N⟩
def iQ:eP 17 (tz N):=tg [(15,6),(29,6),(31,14)] [(3298534884350,⟨[],[],[],[(2,29,6)]⟩),(9895604651006,⟨[],[],[],[(2,29,6)]⟩)] [(393224,[gA [.p (.k j7),.p (.k (.c (.lit (.int .i64 2))))] 0,.mk [.p (.pt 0 0 27),.p (.k g8)] [] [g7 1 2 3,.cells [xi,.hd 4],.cells [xl 0,.mr 5],.row 1,.row 5,.mp 7 true] [] [] []]),(917516,[gA [] 1]),(1966096,[gA [.v ci] 2]),(4063250,[gA [] 1]),(8257556,[gA [] 1]),(16646166,[gA [] 1]),(33423385,[gA [.v (.st 15),.v ci] 3]),(7696582311948,[.mk [] [.h 0 21 (xi),.h 0 25 (.hd 3),.h 1 1 (.hd 4),.w 3 1,.w 4 5] [] [(1000000,4)] [] []]),(8796094988304,[.mk [.v ci] [.h 2 0 (xl 0),.m 5 7 true,.h 0 25 (.hd 3),.h 0 26 (xi),.h 1 1 (.hd 4),.w 3 1,.w 4 5] [] [(1000000,5)] [] []]),(8796097085458,[.mk [] [.h 0 21 (xi),.h 0 25 (.hd 3),.h 1 1 (.hd 4),.w 3 1,.w 4 5] [] [(1000000,4)] [] []]),(8796101279764,[.mk [] [.h 0 21 (xi),.h 0 25 (.hd 3),.h 1 1 (.hd 4),.w 3 1,.w 4 5] [] [(1000000,4)] [] []]),(8796109668374,[.mk [] [.h 0 21 (xi),.h 0 25 (.hd 3),.h 1 1 (.hd 4),.w 3 1,.w 4 5] [] [(1000000,4)] [] []]),(8796126445593,[.mk [.v (.st 15),.v ci] [.h 0 25 (.hd 3),.h 0 26 (xi),.h 1 1 (.hd 4),.h 2 0 (xl 0),.w 3 1,.w 4 5,.m 5 7 true] [] [(1000000,6)] [] []])] N (.c (tu N)<|.c (vM N)<|.nil) (.c (zt N)<|.c (oh N)<|.c (nW N)<|.c (Aj N)<|.c (ot N)<|.c (mY N)<|.c (gO N)<|.nil)
def yb:bx:=⟨[.st 10],[cb],λa=>zeY N a.1⟩
def ye:eP 43 (yb N):=tg [] [(58,k9 [.r 26 ci]),(122,k9 [.r 37 ci])] [] N .nil .nil
def xO:bx:=⟨[.c (.sl 5)],[cb],λa=>ze6 N a.1⟩
def yz:eP 44 (xO N):=tg [] [(58,k9 [.r 10 ci])] [] N .nil .nil
def yf:bx:=⟨[.st 10,.st 16],[cb],λa=>zcf N a.1 a.2.1⟩
def kV:eP 10 (yf N):=tg [] [(6,k9 [.r 40 cb]),(58,k9 [.r 44 ci])] [] N (.c (ye N)<|.c (yz N)<|.nil) .nil
def DL:bx:=⟨[ci,ci,ci],[cb],λa=>zds N a.1 a.2.1 a.2.2.1⟩
def tp:eP 131 (DL N):=tg [] [] [] N .nil .nil
def Co:bx:=⟨[.st 10,.st 16],[cb],λa=>jx N a.1 a.2.1⟩
def CD:eP 68 (Co N):=tg [] [] [] N (.c (tp N)<|.nil) .nil
def Gm:bx:=⟨[ci],[ci],λa=>oT N a.1⟩
def FT:eP 133 (Gm N):=tg [] [] [] N (.c (iG N)<|.nil) .nil
def Hg:bx:=⟨[.st 10,.st 16],[cb],λa=>sL N a.1 a.2.1⟩
def HD:eP 69 (Hg N):=tg [] [(122,k9 [.r 5 ci,.r 17 ci]),(62671,k9 [.r 72 cb])] [] N (.c (zfk N)<|.c (FT N)<|.nil) .nil
def Ld:bx:=⟨[.st 10,ci,.st 0],[ci],λa=>Cf N a.1 a.2.1 a.2.2.1⟩
def Lh:eP 195 (Ld N):=tg [] [(122,k9 [.r 7 ci,.r 30 ci])] [] N (.c (zbY N)<|.c (Al N)<|.nil) .nil
def Jw:bx:=⟨[.st 10,ci,ci,.st 0],[cb],λa=>jg N a.1 a.2.1 a.2.2.1 a.2.2.2.1⟩
def Lq:eP 135 (Jw N):=tg [] [] [] N (.c (zbY N)<|.c (Lh N)<|.nil) .nil
def DN:bx:=⟨[.st 5,ci],[ci],λa=>gK N a.1 a.2.1⟩
def DE:eP 197 (DN N):=tg [] [] [] N .nil .nil
def zbL:bx:=⟨[.c (.sl 5),ci,.k 197],[ci,cb],λa=>zaB N a.1 a.2.1⟩
def zbK:eP 196 (zbL N):=tg [] [(60,k9 [.r 9 ci,.r 10 ci])] [] N (.c (DE N)<|.nil) .nil
def HK:bx:=⟨[.c (.sl 5),ci],[ci,cb],λa=>mZ N a.1 a.2.1⟩
def yJ:eP 136 (HK N):=tg [] [] [] N (.c (zbK N)<|.nil) .nil
def Cm:bx:=⟨[.st 10,.st 16],[cb],λa=>jD N a.1 a.2.1⟩
def Cd:eP 70 (Cm N):=tg [] [(26,k9 [.r 14 ci]),(211,k9 []),(27038,k9 [.r 33 ci])] [] N (.c (iG N)<|.c (Lq N)<|.c (yJ N)<|.nil) .nil
def vR:bx:=⟨[.st 10,.st 16],[cb],λa=>zeA N a.1 a.2.1⟩
def vZ:eP 71 (vR N):=tg [] [(250,k9 [.r 7 (.c (.sl 7)),.r 23 ci,.h 2 0 (hl 0),.m 3 7 true]),(2003,k9 [.r 7 (.c (.sl 7)),.h 2 0 (hl 0),.m 3 7 true]),(256415,k9 [.r 74 cb,.h 2 0 (hl 0),.m 3 7 true])] [(393229,[gA [.p (.k j7),.p (.k (.c (.lit (.int .i64 2))))] 0,.mk [.p (.pt 2 0 2),.p (.k g8)] [] [.cells [xl 0,.mr 3],.mp 7 true] [] [] []]),(33608826952,[.mk [.v ci] [.h 2 0 (xl 0),.m 3 7 true] [] [(1000000,1)] [] []])] N (.c (kA N)<|.c (mV N)<|.nil) (.c (ze8 N)<|.c (zcz N)<|.nil)
end Go.Abs
end
end
section
set_option maxRecDepth 100000
noncomputable section
namespace Go.Abs
open Go.Proofs
variable[Gl](N:Nat)
def AK:bx:=⟨[.st 10,.st 16],[cb],λa=>ic N a.1 a.2.1⟩
def Bk:eP 72 (AK N):=tg [] [(58,k9 [.r 23 ci]),(122,k9 [.r 43 ci]),(125342,k9 [.r 60 ci])] [] N (.c (yD N)<|.c (yJ N)<|.c (yF N)<|.nil) .nil
def FF:bx:=⟨[.c (.sl 1)],[cb],λa=>oS N a.1⟩
def Fc:eP 139 (FF N):=tg [] [(26,k9 [.r 7 ci])] [] N .nil .nil
def Gs:bx:=⟨[.st 10,.st 16],[cb],λa=>oM N a.1 a.2.1⟩
def Gw:eP 73 (Gs N):=tg [] [(6,k9 [.r 18 cb]),(14,k9 [.r 33 cb]),(122,k9 [.r 38 ci])] [] N (.c (tp N)<|.c (Fc N)<|.nil) .nil
def Fj:bx:=⟨[.st 10,.st 16],[cb],λa=>ky N a.1 a.2.1⟩
def uJ:eP 20 (Fj N):=tg [] [] [] N (.c (zbY N)<|.c (CD N)<|.c (HD N)<|.c (Cd N)<|.c (vZ N)<|.c (Bk N)<|.c (Gw N)<|.nil) .nil
def zk:du:=⟨g6 [.v (.st 10)],[.mk [.p (.k j7),.p (.k (.c (.lit (.int .i64 2))))] [] [] [(37,1)] [] [(917517,[gA [.p (.k j7),.p (.k (.c (.lit (.int .i64 2))))] 0,.mk [.p (.pt 1 0 2),.p (.k g8)] [] [.cells [xi,xn]] [] [] []]),(4063253,[gA [.p (.k j7),.p (.k (.c (.lit (.int .i64 2))))] 1,.mk [.p (.pt 2 0 2),.p (.k g8)] [] [.cells [xl 0,.mr 3],.mp 7 true] [] [] []])],.mk [.p (.pt 0 0 27),.p (.k g8)] [] [.cells [.pt 1 0 2,.pt 2 0 2,xl 0,xl 2,xl 3,xi,xi,xi,xi,xi,xi,xi,xi,xi,xi,xi,xi,xi,xi,xi,xi,xi,xi,xn,xl 1,.hd 3,xi],.cells [xi,xn],.cells [xl 0,.mr 4],.row 1,.mp 7 true] [] [] []],λa=>fB N a⟩
def zW:f9 39 (zk N):=og (g:=39) N (.c (zbY N)<|.c (iI N)<|.c (AJ N)<|.nil) (.c (mU N)<|.c (ze8 N)<|.nil)
def zdp:du:=⟨g6 [.v (.c (.sl 8))],[.mk [.p (.hd 0)] [] [.row 8] [] [] []],λx=>za8 N x⟩
def zdq:f9 57 (zdp N):=jk (i:=8) (sz:=32) (z:=[g8,g8,g8,g8]) (fn:=Tryz.f57) dF (by kernel_rfl) (by kernel_rfl) (by kernel_rfl) rfl
def kP:du:=⟨g6 [.v (.c (.sl 1))],[.mk [.p (.hd 0)] [] [.row 1] [] [] []],λx=>zbp N x⟩
def kS:f9 58 (kP N):=jk (i:=1) (sz:=8) (z:=[g8]) (fn:=Tryz.f58) dF (by kernel_rfl) (by kernel_rfl) (by kernel_rfl) rfl
def Am:du:=⟨g6 [.v (.st 10),.v (.st 16)],[.mk [.p (.k j7),.v ci] [] [] [] [(250,⟨[.r 29 ci,.w 7 5],[],[(1051649,5)],[(3,1,7)]⟩),(506,k9 [.r 46 ci,.h 4 0 (hl 0),.m 6 7 true])] [(917524,[gA [.p (.k j7),.p (.k (.c (.lit (.int .i64 2))))] 0,.mk [.p (.pt 2 0 27),.p (.k g8)] [] [.cells [.pt 3 0 2,.pt 4 0 2,xl 0,xl 2,xl 3,xi,xi,xi,xi,xi,xi,xi,xi,xi,xi,xi,xi,xi,xi,xi,xi,xi,xi,xn,xl 1,.hd 5,xi],.cells [xi,xn],.cells [xl 0,.mr 6],.row 1,.mp 7 true] [] [] []]),(33423438,[.mk [.p (.hd 8)] [] [.row 8] [(1000000,3)] [] []]),(66977876,[.mk [.p (.hd 9)] [] [.row 1] [(1000000,4)] [] []]),(134086747,[.mk [.p (.hd 10)] [] [.row 1] [(1000000,4)] [] []]),(2100428838,[.mk [.v ci] [.h 3 1 (.hd 7),.w 7 5] [] [(1000000,1)] [] []]),(4247912503,[.mk [.v ci] [.h 4 0 (xl 0),.m 6 7 true] [] [(1000000,2)] [] []])],.mk [.p (.pt 0 0 27),.p (.k g8)] [] [g7 1 2 3,.cells [xi,.hd 4],.cells [xl 0,.mr 5],.row 1,.row 5,.mp 7 true] [] [] []],λ(a,b)=>dB N a b⟩
def AQ:f9 45 (Am N):=og (g:=45) N (.c (uJ N)<|.nil) (.c (zW N)<|.c (zfg N)<|.c (zcz N)<|.c (zdq N)<|.c (kS N)<|.nil)
def zf:bx:=⟨[ci,ci,ci],[cb],λa=>BO N a.1 a.2.1 a.2.2.1⟩
def zdR:eP 215 (zf N):=tg [] [] [] N .nil .nil
def uh:bx:=⟨[ci],[cb],λa=>zb6 N a.1⟩
def tt:eP 202 (uh N):=tg [] [] [] N .nil .nil
def tH:bx:=⟨[.st 0],[cb],λa=>Zc N a.1⟩
def zb1:eP 144 (tH N):=tg [] [] [] N (.c (tt N)<|.nil) .nil
def tB:bx:=⟨[.st 10],[cb],λa=>zcO N a.1⟩
def tM:eP 216 (tB N):=tg [] [(26,k9 [.r 3 ci])] [] N (.c (zb1 N)<|.c (zdR N)<|.nil) .nil
def rN:bx:=⟨[.c (.sl 1),ci],[cb],λa=>zcv N a.1 a.2.1⟩
def iB:eP 257 (rN N):=tg [] [(26,k9 [.r 5 ci]),(420,k9 [.r 40 cb])] [] N .nil .nil
def ug:bx:=⟨[.st 10],[cb],λa=>zcR N a.1⟩
def uw:eP 217 (ug N):=tg [] [(26,k9 [.r 3 ci]),(420,k9 [.r 29 cb])] [] N (.c (iB N)<|.c (zdR N)<|.nil) .nil
def sU:bx:=⟨[.st 10],[cb],λa=>zcy N a.1⟩
def sO:eP 218 (sU N):=tg [] [(26,k9 [.r 3 ci]),(841,k9 [.r 59 cb])] [] N (.c (iB N)<|.c (zdR N)<|.nil) .nil
def wK:bx:=⟨[.st 10],[.c .str],λa=>ib N a.1⟩
def vm:eP 168 (wK N):=tg [(28,23),(69,24)] [(7,k9 [.r 4 cb]),(506,k9 [.r 7 ci])] [] N (.c (tM N)<|.c (uw N)<|.c (zdR N)<|.c (sO N)<|.nil) .nil
def uv:bx:=⟨[.st 10],[cb],λa=>zcS N a.1⟩
def tP:eP 107 (uv N):=tg [] [] [] N (.c (vm N)<|.nil) .nil
def ua:bx:=⟨[ci],[cb],λa=>zbm N a.1⟩
def iU:eP 108 (ua N):=tg [] [] [] N .nil .nil
def vG:bx:=⟨[.c (.sl 5),ci],[ci],λa=>Pp N a.1 a.2.1⟩
def zaO:eP 21 (vG N):=tg [] [(26,k9 [.r 5 ci])] [] N .nil .nil
def ur:bx:=⟨[.c (.sl 6),ci],[cb],λa=>zbl N a.1 a.2.1⟩
def zee:eP 76 (ur N):=tg [] [(26,k9 [.r 5 ci]),(420,k9 [.r 60 cb])] [] N .nil .nil
def zV:bx:=⟨[.c (.sl 6),ci],[ci],λa=>zct N a.1 a.2.1⟩
def zdU:eP 38 (zV N):=tg [] [(58,k9 [.r 5 ci,.r 6 ci]),(233,k9 [.r 5 ci])] [] N .nil .nil
def xK:bx:=⟨[.st 0,.st 0],[.st 0],λa=>WG N a.1 a.2.1⟩
def zcw:eP 36 (xK N):=tg [] [] [] N .nil .nil
def uc:bx:=⟨[.st 0,ci],[.st 0],λa=>zb8 N a.1 a.2.1⟩
def zec:eP 37 (uc N):=tg [] [(58,k9 [.r 6 ci,.h 2 0 hi,.h 2 1 hi,.h 2 2 hi,.h 2 3 hi])] [] N (.c (zcw N)<|.nil) .nil
def wj:bx:=⟨[.st 0,.st 0],[cb],λa=>Pn N a.1 a.2.1⟩
def zch:eP 201 (wj N):=tg [] [] [] N .nil .nil
def yr:bx:=⟨[.st 0,.st 0],[.st 0],λa=>zcc N a.1 a.2.1⟩
def zff:eP 203 (yr N):=tg [] [] [] N .nil .nil
def wF:bx:=⟨[.c (.sl 0),.c (.sl 7)],[.c (.sl 0),cb],λa=>zeB N a.1 a.2.1⟩
def ve:eP 146 (wF N):=tg [(55,0)] [(122,⟨[.r 7 cb,.r 8 ci,.w 0 0],[(6,0)],[(6,0)],[]⟩),(7827,k9 [.r 7 cb]),(31306,k9 [.r 10 ci,.h 1 0 hi,.h 1 1 hi,.h 1 2 hi,.h 1 3 hi])] [] N (.c (zdU N)<|.c (zec N)<|.c (zcw N)<|.c (zff N)<|.c (zch N)<|.nil) .nil
def si:bx:=⟨[.st 10,.st 16],[cb],λa=>zdB N a.1 a.2.1⟩
def sC:eP 109 (si N):=tg [] [(26,k9 [.r 5 ci]),(841,k9 [.r 57 cb])] [] N (.c (zaO N)<|.c (zee N)<|.c (zb1 N)<|.c (ve N)<|.nil) .nil
def tA:bx:=⟨[.st 16,ci,ci],[cb],λa=>zdW N a.1 a.2.1 a.2.2.1⟩
def tx:eP 169 (tA N):=tg [] [(26,k9 [.r 7 ci]),(841,k9 [.r 54 cb])] [] N (.c (zaO N)<|.c (zdU N)<|.nil) .nil
def yq:bx:=⟨[.st 8,ci],[cb],λa=>ze2 N a.1 a.2.1⟩
def xA:eP 219 (yq N):=tg [] [] [] N (.c (iU N)<|.nil) .nil
def tJ:bx:=⟨[.c (.sl 8),ci,ci,ci],[cb],λa=>zbA N a.1 a.2.1 a.2.2.1 a.2.2.2.1⟩
def zer:eP 25 (tJ N):=tg [] [(26,k9 [.r 9 ci])] [] N .nil .nil
def tQ:bx:=⟨[.c (.sl 8),ci],[cb],λa=>zdQ N a.1 a.2.1⟩
def tK:eP 170 (tQ N):=tg [] [(26,k9 [.r 5 ci]),(3366,k9 [.r 6 ci]),(53860,k9 [.r 58 cb])] [] N (.c (xA N)<|.c (zer N)<|.nil) .nil
def tY:bx:=⟨[.st 10,.st 16],[cb],λa=>zdV N a.1 a.2.1⟩
def ud:eP 110 (tY N):=tg [] [(26,k9 [.r 5 ci]),(841,k9 [.r 38 cb])] [] N (.c (tx N)<|.c (tK N)<|.nil) .nil
def xN:bx:=⟨[.c (.sl 1),ci],[cb],λa=>ze3 N a.1 a.2.1⟩
def xx:eP 111 (xN N):=tg [] [(26,k9 [.r 5 ci]),(420,k9 [.r 23 cb])] [] N .nil .nil
def zQ:bx:=⟨[ci,ci,ci],[cb],λa=>Up N a.1 a.2.1 a.2.2.1⟩
def zX:eP 200 (zQ N):=tg [] [] [] N .nil .nil
def tw:bx:=⟨[.st 5],[cb],λa=>zcQ N a.1⟩
def iY:eP 142 (tw N):=tg [] [(14,k9 [.r 61 cb]),(26,k9 [.r 3 ci]),(30,k9 [.r 85 cb]),(62,k9 [.r 101 cb]),(126,k9 [.r 119 cb])] [] N (.c (zX N)<|.c (zb1 N)<|.c (zch N)<|.nil) .nil
def vq:bx:=⟨[.c (.sl 7),ci],[ci],λa=>zdn N a.1 a.2.1⟩
def kC:eP 145 (vq N):=tg [] [(26,k9 [.r 5 ci])] [] N .nil .nil
def yu:bx:=⟨[.st 5],[cb],λa=>ze7 N a.1⟩
def ya:eP 91 (yu N):=tg [] [] [] N .nil .nil
def tI:bx:=⟨[.st 0,.st 0],[ci],λa=>zbz N a.1 a.2.1⟩
def zeg:eP 258 (tI N):=tg [] [(6,k9 [.r 19 cb]),(124,k9 [.r 5 ci,.h 2 0 hi,.h 2 1 hi,.h 2 2 hi,.h 2 3 hi]),(496,k9 [.r 27 cb])] [] N (.c (zcw N)<|.c (zch N)<|.c (zb1 N)<|.nil) .nil
def vK:bx:=⟨[.st 10,ci,.st 0],[ci],λa=>iw N a.1 a.2.1 a.2.2.1⟩
def wz:eP 220 (vK N):=tg [] [(122,k9 [.r 7 ci,.r 8 ci])] [] N (.c (zeg N)<|.nil) .nil
def vO:bx:=⟨[.st 10,ci,ci,.st 0],[cb],λa=>zdi N a.1 a.2.1 a.2.2.1 a.2.2.2.1⟩
def uI:eP 171 (vO N):=tg [] [] [] N (.c (wz N)<|.nil) .nil
def ub:bx:=⟨[.c (.sl 6)],[ci],λa=>zcW N a.1⟩
def iV:eP 24 (ub N):=tg [] [(58,k9 [.r 3 ci,.r 4 ci]),(233,k9 [.r 3 ci])] [] N .nil .nil
def xR:bx:=⟨[.c (.sl 1),ci],[cb],λa=>ze5 N a.1 a.2.1⟩
def yh:eP 77 (xR N):=tg [] [(26,k9 [.r 5 ci])] [] N .nil .nil
def vL:bx:=⟨[.st 10,.st 5,.c (.sl 6)],[cb],λa=>zcs N a.1 a.2.1 a.2.2.1⟩
def zeL:eP 23 (vL N):=tg [] [(6,k9 [.r 34 cb]),(122,k9 [.r 8 ci])] [] N (.c (yh N)<|.c (zee N)<|.c (iV N)<|.nil) .nil
def xC:bx:=⟨[.st 10,.st 16,.st 5],[cb],λa=>ze1 N a.1 a.2.1 a.2.2.1⟩
def xD:eP 112 (xC N):=tg [] [(15,k9 [.r 7 ci]),(31,k9 [.r 7 ci]),(63,k9 [.r 7 ci]),(510,k9 [.r 83 cb]),(8186,k9 [.r 9 ci])] [] N (.c (iY N)<|.c (kC N)<|.c (zaO N)<|.c (uI N)<|.c (ya N)<|.c (zeL N)<|.nil) .nil
def uk:bx:=⟨[.st 10,.st 16],[cb],λa=>zc1 N a.1 a.2.1⟩
def tU:eP 46 (uk N):=tg [] [(6,k9 [.r 43 cb]),(14,k9 [.r 86 cb]),(122,k9 [.r 5 ci]),(250,k9 [.r 6 ci]),(4004,k9 [.r 138 cb])] [] N (.c (iU N)<|.c (xD N)<|.c (sC N)<|.c (ud N)<|.c (xx N)<|.c (tP N)<|.nil) .nil
def uK:bx:=⟨[.st 5,.st 5],[cb],λa=>zey N a.1 a.2.1⟩
def v_:eP 149 (uK N):=tg [] [(58,k9 [.r 5 ci])] [] N .nil .nil
def wu:bx:=⟨[.c (.sl 5),.c (.sl 5)],[cb],λa=>zet N a.1 a.2.1⟩
def vd:eP 83 (wu N):=tg [] [(58,k9 [.r 5 ci])] [] N (.c (v_ N)<|.nil) .nil
def wy:bx:=⟨[.c (.sl 7),.c (.sl 7)],[cb],λa=>zeu N a.1 a.2.1⟩
def uF:eP 84 (wy N):=tg [] [(58,k9 [.r 5 ci]),(932,k9 [.r 54 cb])] [] N (.c (kw N)<|.nil) .nil
def vI:bx:=⟨[.c (.sl 8),.c (.sl 8)],[cb],λa=>zez N a.1 a.2.1⟩
def vr:eP 85 (vI N):=tg [] [(58,k9 [.r 5 ci])] [] N .nil .nil
def vx:bx:=⟨[.c (.sl 1),.c (.sl 1)],[cb],λa=>zdb N a.1 a.2.1⟩
def vV:eP 86 (vx N):=tg [] [(58,k9 [.r 5 ci])] [] N .nil .nil
def vo:bx:=⟨[.st 16,.st 16],[cb],λa=>zdh N a.1 a.2.1⟩
def jL:eP 27 (vo N):=tg [] [] [] N (.c (vd N)<|.c (uF N)<|.c (vr N)<|.c (vV N)<|.nil) .nil
def pR:du:=⟨g6 [.v (.st 10),.v (.st 16)],[.mk [.p (.k j7),.v cb] [] [] [] [] [(393227,[gA [.p (.k j7),.v ci] 0,.mk [.p (.pt 2 0 27),.p (.k g8)] [] [g7 3 4 5,.cells [xi,.hd 6],.cells [xl 0,.mr 7],.row 1,.row 5,.mp 7 true] [] [] []]),(1966113,[gA [.v (.st 16)] 1])],.mk [.p (.pt 0 0 27),.v cb] [] [g7 1 2 3,.cells [xi,.hd 4],.cells [xl 0,.mr 5],.row 1,.row 5,.mp 7 true] [] [] []],λ(a,b)=>bR N a b⟩
def zfh:f9 11 (pR N):=og (g:=11) N (.c (tU N)<|.c (jL N)<|.nil) (.c (AQ N)<|.c (za1 N)<|.nil)
def xI:bx:=⟨[.st 4,.c (.sl 5)],[ci],λa=>qW N a.1 a.2.1⟩
def xE:eP 199 (xI N):=tg [] [(14,k9 [.r 27 cb]),(30,k9 [.r 45 cb])] [] N (.c (zaO N)<|.nil) .nil
def yp:bx:=⟨[.st 5,.c (.sl 5)],[cb],λa=>rD N a.1 a.2.1⟩
def yl:eP 140 (yp N):=tg [] [(26,k9 [.r 5 ci])] [] N (.c (xE N)<|.nil) .nil
def Ad:bx:=⟨[.st 5,.c (.sl 5)],[cb],λa=>sX N a.1 a.2.1⟩
def yY:eP 74 (Ad N):=tg [] [] [] N (.c (yl N)<|.nil) .nil
def uy:bx:=⟨[.c (.sl 5),ci,.st 25,ci],[ci],λa=>nB N a.1 a.2.1 a.2.2.1 a.2.2.2.1⟩
def ux:eP 141 (uy N):=tg [] [(58,k9 [.r 9 ci,.r 10 ci]),(233,k9 [.r 9 ci]),(1865,k9 [.r 49 cb])] [] N .nil .nil
def xz:bx:=⟨[.st 10,.c (.sl 5),.st 5],[cb],λa=>rj N a.1 a.2.1 a.2.2.1⟩
def xY:eP 75 (xz N):=tg [] [(250,k9 [.r 8 ci,.r 9 ci]),(1001,k9 [.r 8 ci]),(4004,k9 [.r 66 cb])] [] N (.c (ux N)<|.nil) .nil
def xW:bx:=⟨[.st 10,.st 16,ci],[cb],λa=>qZ N a.1 a.2.1 a.2.2.1⟩
def yo:eP 22 (xW N):=tg [] [] [] N (.c (zaO N)<|.c (yY N)<|.c (xY N)<|.nil) .nil
def vf:bx:=⟨[ci,ci],[ci],λa=>gQ N a.1 a.2.1⟩
def kz:eP 143 (vf N):=tg [] [(3,k9 [])] [] N .nil .nil
end Go.Abs
end
end
section
set_option maxRecDepth 100000
noncomputable section
namespace Go.Abs
open Go.Proofs
variable[Gl](N:Nat)
def xy:bx:=⟨[.st 5,ci,ci],[ci],λa=>qL N a.1 a.2.1 a.2.2.1⟩
def xU:eP 78 (xy N):=tg [] [] [] N (.c (iY N)<|.c (kz N)<|.nil) .nil
def nP:du:=⟨.mk [.v (.c (.sl 0)),.p (.hd 0)] [] [.row 7] [] [] [],[.mk [.v (.c (.sl 0)),.v cb] [] [] [(55,0)] [(122,⟨[.r 7 cb,.r 8 ci,.w 1 0],[(6,1)],[(6,0)],[]⟩),(7827,k9 [.r 7 cb]),(31306,k9 [.r 10 ci,.h 2 0 hi,.h 2 1 hi,.h 2 2 hi,.h 2 3 hi])] []],λ(a,b)=>gC N a b⟩
def nY:f9 146 (nP N):=og (g:=146) N (.c (zdU N)<|.c (zec N)<|.c (zcw N)<|.c (zff N)<|.c (zch N)<|.nil) .nil
def vP:bx:=⟨[.c (.sl 0),.c (.sl 7),.st 7],[.c (.sl 7),ci],λa=>oI N a.1 a.2.1 a.2.2.1⟩
def vN:eP 79 (vP N):=tg [(70,7)] [(6,k9 [.r 39 cb]),(124,k9 [.r 8 ci]),(496,k9 [.r 60 cb])] [(134086736,[gA [.v (.c (.sl 0)),.v cb] 0])] N (.c (kC N)<|.c (zee N)<|.c (zb1 N)<|.nil) (.c (nY N)<|.nil)
def vy:bx:=⟨[.st 5,ci,ci,cb],[.st 5],λa=>oF N a.1 a.2.1 a.2.2.1 a.2.2.2.1⟩
def uP:eP 81 (vy N):=tg [] [(31,k9 [.h 0 15 hi]),(63,k9 [.h 0 15 hi]),(127,k9 [.h 0 11 hb]),(255,k9 [.h 0 11 hb,.h 0 12 hb]),(511,k9 [.h 0 11 hb,.h 0 12 hb]),(1023,k9 [.h 0 11 hb]),(2047,k9 [.h 0 16 hi])] [] N (.c (kz N)<|.nil) .nil
def nK:du:=⟨g6 [.v (.st 16)],[.mk [.ag [xi,xi,xi,.hd 0,.hd 1,.hd 2,.hd 3,.hd 4,xi]] [] [.row 5,.row 7,.row 8,.row 1,.row 1] [(5,5),(10,7),(15,8),(20,1),(25,1)] [] []],λa=>fZ N a⟩
def nC:f9 147 (nK N):=og (g:=147) N .nil .nil
def mI:du:=⟨.mk [.ag [xi,xi,xi,.hd 0,.hd 1,.hd 2,.hd 3,.hd 4,xi]] [] [.row 5,.row 7,.row 8,.row 1,.row 1] [] [] [],[.mk [.ag [xi,xi,xi,.hd 5,.hd 6,.hd 7,.hd 8,.hd 9,xi]] [] [.row 5,.row 7,.row 8,.row 1,.row 1] [(5,5),(10,7),(15,8),(20,1),(25,1)] [] []],λ(a,b,d,e,f,g,h,i,j)=>gy N a b d e f g h i j⟩
def nS:f9 147 (mI N):=og (g:=147) N .nil .nil
def zi:bx:=⟨[ci],[ci],λa=>kT N a.1⟩
def mT:eP 82 (zi N):=tg [] [] [] N .nil .nil
def lX:du:=⟨.mk [.ag [xi,xi,xi,.hd 0,.hd 1,.hd 2,.hd 3,.hd 4,xi],.v ci] [] [.row 5,.row 7,.row 8,.row 1,.row 1] [] [] [],[.mk [.ag [xi,xi,xi,.hd 5,.hd 6,.hd 7,.hd 8,.hd 9,xi]] [] [.row 5,.row 7,.row 8,.row 1,.row 1] [] [(7,⟨[.w 11 1],[],[],[(12,7,11)]⟩)] [(393223,[.mk [.ag [xi,xi,xi,.hd 7,.hd 8,.hd 9,.hd 10,.hd 11,xi]] [] [.row 5,.row 7,.row 8,.row 1,.row 1] [(1000000,0)] [] []])]],λ(a,b,d,e,f,g,h,i,j,k)=>zdl N a b d e f g h i j k⟩
def ma:f9 148 (lX N):=og (g:=148) N (.c (mT N)<|.nil) (.c (nS N)<|.nil)
def sn:bx:=⟨[.st 16,.st 5],[.st 16],λa=>lh N a.1 a.2.1⟩
def sI:eP 80 (sn N):=tg [] [] [(393225,[.mk [.ag [xi,xi,xi,.hd 3,.hd 4,.hd 5,.hd 6,.hd 7,xi]] [] [.row 5,.row 7,.row 8,.row 1,.row 1] [(1000000,0)] [] []]),(8257564,[.mk [.ag [xi,xi,xi,.hd 10,.hd 11,.hd 12,.hd 13,.hd 14,xi]] [] [.row 5,.row 7,.row 8,.row 1,.row 1] [(1000000,1)] [] []]),(66715685,[.mk [.ag [xi,xi,xi,.hd 15,.hd 16,.hd 17,.hd 18,.hd 19,xi]] [] [.row 5,.row 7,.row 8,.row 1,.row 1] [(1000000,1)] [] []])] N (.c (zaO N)<|.nil) (.c (nC N)<|.c (ma N)<|.nil)
def tD:bx:=⟨[.st 10,.st 16,ci,.c (.sl 6)],[.st 16,ci],λa=>mP N a.1 a.2.1 a.2.2.1 a.2.2.2.1⟩
def ui:eP 26 (tD N):=tg [] [] [] N (.c (zaO N)<|.c (zeL N)<|.c (xU N)<|.c (vN N)<|.c (uP N)<|.c (sI N)<|.c (mT N)<|.nil) .nil
def pP:bx:=⟨[.st 9],[cb],λa=>uj N a.1⟩
def HC:eP 5 (pP N):=tg [] [(254,k9 [.r 52 cb]),(4090,k9 [.r 58 ci,.h 8 0 hi,.h 8 1 hi,.h 8 2 hi,.h 8 3 (hl 5),.h 8 4 (hl 7),.h 8 5 (hl 8),.h 8 6 (hl 1),.h 8 7 (hl 1),.h 8 8 hi]),(1047142,k9 [.r 109 cb]),(8377146,k9 [.r 113 ci])] [(1966108,[gA [.p (.k j7),.v cb] 0,.mk [.p (.pt 1 0 27),.v cb] [] [g7 2 3 4,.cells [xi,.hd 5],.cells [xl 0,.mr 6],.row 1,.row 5,.mp 7 true] [] [] []]),(8257576,[.mk [.v (.st 15),.v ci] [.h 1 25 (.hd 4),.h 1 26 (xi),.h 2 1 (.hd 5),.h 3 0 (xl 0),.w 4 1,.w 5 5,.m 6 7 true] [] [(1000000,1)] [] []]),(33292337,[gA [.v (.st 16)] 2]),(134086806,[gA [.v (.st 16)] 2])] N (.c (iQ N)<|.c (kV N)<|.c (zaO N)<|.c (zer N)<|.c (ui N)<|.c (yo N)<|.c (zeL N)<|.c (iV N)<|.c (jL N)<|.c (uJ N)<|.nil) (.c (zfh N)<|.c (gO N)<|.c (za1 N)<|.nil)
def lr:bx:=⟨[.st 27,.st 26],[.st 27],λa=>zdf N a.1 a.2.1⟩
def me:eP 117 (lr N):=tg [(22,26)] [] [] N .nil .nil
def qy:bx:=⟨[.st 10,.st 16],[.st 27],λa=>zc8 N a.1 a.2.1⟩
def qC:eP 53 (qy N):=tg [] [(58,k9 [.r 6 ci,.h 3 0 (hl 0),.h 3 1 (hl 2),.h 3 2 (hl 3),.h 3 3 hi,.h 3 4 hi,.h 3 5 hi,.h 3 6 hi,.h 3 7 hi,.h 3 8 hi,.h 3 9 hi,.h 3 10 hi,.h 3 11 hi,.h 3 12 hi,.h 3 13 hi,.h 3 14 hi,.h 3 15 hi,.h 3 16 hi,.h 3 17 hi,.h 3 18 hi,.h 3 19 (hl 26),.h 3 20 (hl 8)])] [] N (.c (zaO N)<|.c (me N)<|.nil) .nil
def uN:bx:=⟨[.st 10,.st 5],[.st 28],λa=>gI N a.1 a.2.1⟩
def wC:eP 129 (uN N):=tg [] [] [] N .nil .nil
def lu:du:=⟨.mk [.p (.hd 0),.v ci] [] [.row 1] [] [] [],[.mk [.v (.c (.sl 1))] [] [] [(65,1)] [(58,k9 [.r 5 (.c (.sl 1)),.r 6 ci]),(233,k9 [.r 5 (.c (.sl 1))]),(7460,k9 [.r 7 ci]),(7462,k9 [.r 54 cb]),(29840,k9 [.r 29 cb])] []],λ(a,b)=>zb4 N a b⟩
def mc:f9 238 (lu N):=og (g:=238) N .nil .nil
def jR:bx:=⟨[.st 27],[.c (.sl 1)],λa=>zbh N a.1⟩
def zdH:eP 190 (jR N):=tg [(8,1),(23,1),(32,1),(48,1),(57,1)] [(58,⟨[.r 4 ci,.w 1 1],[(3,1)],[],[]⟩),(122,⟨[.r 5 ci,.w 1 1],[(3,1)],[],[]⟩)] [(4063294,[gA [.v (.c (.sl 1))] 0])] N .nil (.c (mc N)<|.nil)
def ke:bx:=⟨[.st 27,ci,ci],[.st 0],λa=>zbN N a.1 a.2.1 a.2.2.1⟩
def jV:eP 279 (ke N):=tg [] [(58,k9 [.r 8 ci,.h 2 0 hi,.h 2 1 hi,.h 2 2 hi,.h 2 3 hi]),(233,k9 [.h 2 0 hi,.h 2 1 hi,.h 2 2 hi,.h 2 3 hi])] [] N (.c (zdU N)<|.c (zec N)<|.c (zcw N)<|.nil) .nil
def kJ:bx:=⟨[.st 27,ci,ci],[.st 0,cb],λa=>zbn N a.1 a.2.1 a.2.2.1⟩
def kM:eP 239 (kJ N):=tg [] [] [] N (.c (jV N)<|.c (zer N)<|.c (zch N)<|.c (zff N)<|.nil) .nil
def yy:bx:=⟨[ci,ci],[ci],λa=>zcd N a.1 a.2.1⟩
def xQ:eP 280 (yy N):=tg [] [] [] N .nil .nil
def tZ:bx:=⟨[.st 0,.st 0],[.st 0],λa=>zcU N a.1 a.2.1⟩
def uf:eP 240 (tZ N):=tg [] [] [] N (.c (xQ N)<|.nil) .nil
def uZ:bx:=⟨[.c (.sl 0),.c (.sl 1),.st 0],[ci],λa=>zev N a.1 a.2.1 a.2.2.1⟩
def uQ:eP 281 (uZ N):=tg [] [(58,k9 [.r 7 ci,.r 8 ci]),(233,k9 [.r 7 ci]),(932,k9 [.r 28 cb])] [] N (.c (zeg N)<|.nil) .nil
def lT:du:=⟨.mk [.p (.hd 0),.v (.c (.sl 1)),.v ci,.v (.st 0)] [] [.row 0] [] [] [],[.mk [.v (.c (.sl 6)),.v cb] [] [] [(71,6)] [(6,k9 [.r 23 cb]),(250,⟨[.r 11 ci,.r 12 ci,.w 2 6],[(10,2)],[(10,6)],[]⟩),(1001,⟨[.r 11 ci,.w 2 6],[(10,2)],[],[]⟩),(8008,k9 [.r 48 cb]),(16019,k9 [.r 13 ci]),(32039,⟨[.w 2 6],[(10,2)],[],[]⟩)] []],λ(a,b,d,e)=>zb7 N a b d e⟩
def lm:f9 241 (lT N):=og (g:=241) N (.c (zeg N)<|.c (uQ N)<|.nil) .nil
def kG:bx:=⟨[.st 27,.st 28,ci],[.c (.sl 6),cb],λa=>UY N a.1 a.2.1 a.2.2.1⟩
def kO:eP 191 (kG N):=tg [(103,0)] [(250,⟨[.r 10 ci,.w 2 0],[(9,2)],[(9,0)],[]⟩),(64074,k9 [.r 13 ci,.h 3 0 hi,.h 3 1 hi,.h 3 2 hi,.h 3 3 hi]),(256297,k9 [.h 3 0 hi,.h 3 1 hi,.h 3 2 hi,.h 3 3 hi]),(1025188,k9 [.r 87 cb])] [(8257653,[gA [.v (.c (.sl 6)),.v cb] 0])] N (.c (zdH N)<|.c (kM N)<|.c (uf N)<|.nil) (.c (lm N)<|.nil)
def gM:bx:=⟨[.st 27,.st 28],[.st 14,cb],λa=>zaF N a.1 a.2.1⟩
def gT:eP 128 (gM N):=tg [] [(58,k9 [.r 7 ci])] [] N (.c (zdH N)<|.c (kO N)<|.nil) .nil
def qd:bx:=⟨[.st 10,.st 27,.st 5],[.st 14,cb],λa=>zb0 N a.1 a.2.1 a.2.2.1⟩
def pE:eP 66 (qd N):=tg [] [(7,k9 [.h 4 0 hi])] [] N (.c (wC N)<|.c (gT N)<|.nil) .nil
def su:bx:=⟨[.st 10,.st 16,ci],[ci,cb],λa=>zcC N a.1 a.2.1 a.2.2.1⟩
def sN:eP 19 (su N):=tg [] [] [] N (.c (zaO N)<|.c (qC N)<|.c (pE N)<|.nil) .nil
def qk:bx:=⟨[.st 9],[cb],λa=>zeo N a.1⟩
def qf:eP 4 (qk N):=tg [] [] [(1966104,[gA [.p (.k j7),.v cb] 0,.mk [.p (.pt 1 0 27),.v cb] [] [g7 2 3 4,.cells [xi,.hd 5],.cells [xl 0,.mr 6],.row 1,.row 5,.mp 7 true] [] [] []]),(8257572,[.mk [.v (.st 15),.v ci] [.h 1 25 (.hd 4),.h 1 26 (xi),.h 2 1 (.hd 5),.h 3 0 (xl 0),.w 4 1,.w 5 5,.m 6 7 true] [] [(1000000,1)] [] []]),(134086720,[gA [.v (.st 16)] 2])] N (.c (iQ N)<|.c (kV N)<|.c (sN N)<|.nil) (.c (zfh N)<|.c (gO N)<|.c (za1 N)<|.nil)
end Go.Abs
end
end
section
end
