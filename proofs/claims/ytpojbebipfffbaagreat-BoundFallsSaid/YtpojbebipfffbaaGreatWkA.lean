/- Lemmas. -/
import Derived.Test.YtpojbebipfffbaaGreatTyPure
import Derived.Test.YtpojbebipfffbaaGreatProg
import Derived.Test.YtpojbebipfffbaaGreatTyPrim
import Derived.KernelRfl
set_option linter.all false
open _root_ renaming List->Β,Nat->Ε,Bool.false->Θ,Bool.true->Γ
section
set_option maxRecDepth 100000
noncomputable section
namespace Go.Abs
open Go.Proofs
variable[Gl]
abbrev ci:dE:=.c (.int .i64)
abbrev cb:dE:=.c .bool
abbrev xi:CP:=.c (.int .i64)
abbrev xb:CP:=.c .bool
abbrev xl(n:Ε):CP:=.c (.sl n)
abbrev xn:CP:=.k (.c (.lit (.slice none 0 0)))
abbrev hi:It:=.cc (.int .i64)
abbrev hb:It:=.cc .bool
abbrev hl(n:Ε):It:=.cc (.sl n)
def dy:Tryz.prog.follows .mixedOrders=Γ:=by kernel_rfl
def KB:dC:=Mt 76 129 1 (λk=>k)
def KB_ok:dC.ok Tryz.prog KB:=SC Tryz.WO (λk=>rfl)
theorem tg{g:Ε}{S:tW}{s:bK}(H:Β (Ε×Ε))(J:Β (Ε×JH))(C:Β (Ε×Β CT))(N:Ε)(b:fW Tryz.prog S){O:Ri}(d:vw Tryz.prog O)(h:∀a,tG Tryz.prog g S O KB H J C s.ins s.out N a=s.f a:=by intro _;kernel_rfl):bP Tryz.prog g s:=tG_ok dy b d KB_ok h
theorem og{g:Ε}{S:tW}{O:Ri}{s:dq}(N:Ε)(a:fW Tryz.prog S)(b:vw Tryz.prog O)(d:a_ Tryz.prog g=Γ:=by kernel_rfl)(h:∀x,oG Tryz.prog g S O KB N s x=s.f x:=by intro _;kernel_rfl):cP Tryz.prog g s:=oG_ok dy a b KB_ok d h
abbrev fW.c:=@fW.cons
abbrev vw.c:=@vw.cons
abbrev eJ(g:Ε)(s:bK):=bP Tryz.prog g s
abbrev eP(g:Ε)(s:dq):=cP Tryz.prog g s
abbrev j7(l:Β Pl):JH:=⟨l,[],[],[]⟩
abbrev g6:D:=.c (.lit (.int .i64 0))
abbrev g8:D:=.c (.lit (.pointer none))
abbrev iD:D:=.c (.lit (.slice none 0 0))
abbrev eQ(l:Β RO)(n:Ε):CT:=.mk l [] [] [(1000000,n)] [] []
abbrev f9(l:Β RO):CT:=.mk l [] [] [] [] []
abbrev gA(a b c:Ε):NB:=.cells [.pt a 0 2,.pt b 0 2,xl 0,xl 2,xl 3,xi,xi,xi,xi,xi,xi,xi,xi,xi,xi,xi,xi,xi,xi,xi,xi,xi,xi,xl 8,xl 1,.hd c,xi]
abbrev k8:Β NB:=[gA 1 2 3,.cells [xi,.hd 4],.cells [xl 0,.mr 5],.row 1,.row 5,.mp 7 Γ]
abbrev k9:Β PC:=[.h 0 25 (.hd 3),.h 0 26 (xi),.h 1 1 (.hd 4),.h 2 0 (xl 0),.w 3 1,.w 4 5,.m 5 7 Γ]
abbrev lF:CT:=.mk [] [.h 0 2 (xi),.h 0 3 (xi),.h 0 4 (xi),.h 0 5 (xi),.h 0 6 (xi),.h 0 7 (xi),.h 0 8 (xi),.h 0 9 (xi),.h 0 10 (xi),.h 0 11 (xl 4),.h 0 12 (xi),.h 0 13 (xb),.h 0 14 (xb),.h 0 15 (xi),.h 0 16 (xi),.h 0 17 (xi),.h 0 18 (xi),.h 0 19 (xi),.h 0 22 (xi),.h 0 23 (xi),.h 0 24 (xi)] [] [] [] [(393223,[eQ [.v cb] 0])]
abbrev l3:CT:=.mk [] [.h 1 25 (.hd 5),.h 1 26 (xi),.h 3 1 (.hd 6),.h 4 0 (xl 0),.w 5 1,.w 6 5,.m 7 7 Γ,.h 0 1 (.fp 18),.h 0 20 (.hd 2),.w 2 21] [] [(74,21)] [(15,j7 []),(14293651161214,⟨[],[],[],[(5,1058818,17),(0,1048577,18)]⟩)] [(393229,[.mk [.p (.pt 10 0 3)] [] [.cells [xi,xl 2,.hd 11],.row 17] [(1000000,0)] [] []]),(1835031,[.mk [.v ci] [.h 10 2 (.hd 11),.w 11 17] [] [(1000000,1)] [] []]),(3932186,[eQ [.v cb] 2]),(8126525,[.mk [.v ci] [.h 4 0 (xl 0),.m 7 7 Γ,.h 1 25 (.hd 5),.h 1 26 (xi),.h 3 1 (.hd 6),.w 5 1,.w 6 5] [] [(1000000,4)] [] []]),(15990821,[eQ [.v (.st 21),.v cb] 3])]
abbrev m6:CT:=.mk [] [] [] [(1000002,0)] [] []
abbrev m7:Β NB:=[.cells [.pt 1 0 27,.fp 18,xi,xi,xi,xi,xi,xi,xi,xi,xi,xl 4,xi,xb,xb,xi,xi,xi,xi,xi,.hd 2,xn,xi,xi,xi],gA 3 4 5,.row 21,.cells [xi,.hd 6],.cells [xl 0,.mr 7],.row 1,.row 5,.mp 7 Γ]
abbrev m8:Β NB:=[.cells [.pt 1 0 27,.fp 18,xi,xi,xi,xi,xi,xi,xi,xi,xi,xn,xi,xb,xb,xi,xi,xi,xi,xi,.hd 2,xn,xi,xi,xi],gA 3 4 5,.row 21,.cells [xi,.hd 6],.cells [xl 0,.mr 7],.row 1,.row 5,.mp 7 Γ]
abbrev m9:Β NB:=[.cells [.pt 1 0 27,.fp 18,xi,xi,xi,xi,xi,xi,xi,xi,xi,xn,xi,xb,xb,xi,xi,xi,xi,xi,xn,xn,xi,xi,xi],gA 2 3 4,.cells [xi,.hd 5],.cells [xl 0,.mr 6],.row 1,.row 5,.mp 7 Γ]
abbrev n9:CT:=.mk [.p (.pt 0 0 27)] [] k8 [] [] []
abbrev o6:Β (Ε×Ε):=[(1000000,0)]
abbrev o7:Β (Ε×Ε):=[(1000000,1)]
abbrev o8:CT:=.mk [.ag [.pt 0 0 27,xl 0,xl 2,xl 3,xi,xi,xi,xi,xi,xi,xi,xi,xi,xi,xi,xi,xi,xi,xi]] [] k8 [] [] []
abbrev o9:Β RO:=[.p (.k (.c (.lit (.pointer none)))),.p (.k (.c (.lit (.int .i64 2))))]
abbrev p7:Β RO:=[.v ci]
abbrev p8:Β RO:=[.p (.hd 0)]
abbrev p9:CT:=.mk [.p (.hd 0),.v ci,.p (.hd 1)] [] [.row 16,.row 16] [] [] []
abbrev q8:CT:=.mk [] [.w 1 1] [] [] [(6,⟨[.r 8 ci,.w 1 1],[(0,1)],[],[]⟩),(402,⟨[.r 9 ci,.w 1 1],[(0,1)],[],[]⟩),(1608,j7 [.r 34 cb])] [(210763808,[.mk p7 [] [] [(9,1),(13,1)] [] []])]
abbrev sT:Β NB:=[.cells [xl 0,.mr 1],.mp 7 Γ]
abbrev s5:Β NB:=[.cells [xi,xl 2,.hd 1],.row 17]
abbrev s6:Β NB:=[.cells [.pt 1 0 2,.pt 2 0 2,xl 0,xl 2,xl 3,xi,xi,xi,xi,xi,xi,xi,xi,xi,xi,xi,xi,xi,xi,xi,xi,xi,xi,xl 8,xl 1,.hd 3,xi],.cells [xi,.hd 4],.cells [xl 0,.mr 5],.row 1,.row 5,.mp 7 Γ]
abbrev s7:CT:=.mk [.p (.pt 0 0 27),.v ci] [] k8 [] [] []
abbrev s8:Β NB:=[.cells [xi,.hd 1],.row 5]
abbrev s9:CT:=.mk [] [.w 0 1] [] [] [(6,⟨[.r 10 ci,.w 0 1],[(0,0)],[],[]⟩)] []
abbrev t6:CT:=.mk [.v (.c (.sl 0)),.v ci] [] [] [] [(58,⟨[.r 21 ci,.w 3 0],[(8,3)],[],[]⟩)] [(393233,[.mk [.p (.hd 3)] [] [.row 0] o6 [] []])]
abbrev t7:CT:=.mk [.p (.pt 2 0 2),.p (.k (.c (.lit (.int .i64 0))))] [] [.cells [xl 0,.mr 3],.mp 7 Γ] [] [] []
abbrev t8:CT:=.mk [] [.w 3 1,.h 0 25 (.hd 3)] [] o7 [] []
abbrev w5:Β RO:=[.v (.st 22),.v ci]
abbrev w6:CT:=.mk [.p (.pt 0 0 2),.v ci] [] s8 [] [] []
abbrev w7:CT:=.mk [.p (.pt 7 0 3),.p (.k g6)] [] [.cells [xi,xl 2,.hd 8],.row 17] [] [] []
abbrev w8:Β NB:=[.row 5]
abbrev x9:Β RO:=[.p (.pt 0 0 25),.v (.st 5),.v (.st 21)]
abbrev y7:Β RO:=[.p (.pt 0 0 25),.v (.st 5),.v ci]
abbrev y8:Β RO:=[.p (.hd 1)]
abbrev y9:CT:=.mk [] [.w 0 1] [] o6 [] []
abbrev z7:Β RO:=[.p (.pt 0 0 3),.v ci,.v ci,.v (.c (.sl 6)),.v (.st 0)]
abbrev z8:CT:=.mk [.p (.pt 0 0 27),.p (.k g6)] [] k8 [] [] []
abbrev zA0:CT:=.mk [.p (.pt 0 0 2),.v (.st 5)] [] s8 [] [] []
abbrev zA1:Β RO:=[.p (.pt 0 0 27),.p (.k (.c (.lit (.int .i64 0))))]
abbrev zA2:Β RO:=[.p (.pt 2 0 27),.p (.k (.c (.lit (.int .i64 0))))]
abbrev zA3:CT:=.mk [.v (.st 10),.v (.st 14)] [] [] [] [] []
abbrev zA4:Β RO:=[.p (.k g8),.p (.k (.c (.lit (.int .i64 2))))]
abbrev zA5:Β RO:=[.p (.k (.c (.lit (.pointer none)))),.v ci]
abbrev zA6:Β RO:=[.p (.k (.c (.lit (.pointer none)))),.v cb]
abbrev zA7:Β RO:=[.p (.pt 0 0 2)]
end Go.Abs
end
end
section
set_option maxRecDepth 100000
noncomputable section
namespace Go.Abs
open Go.Proofs
variable[Gl](N:Ε)
def tN:bK:=⟨[],[.st 10],λa=>gM N⟩
def tV:eJ 16 (tN N):=clo_ok (P:=Tryz.prog) (g:=16) (out:=[.st 10]) (λa=>gM N) dy (by kernel_rfl)
def Gi:bK:=⟨[.st 0],[.st 11],λa=>gW N a.1⟩
def uS:eJ 132 (Gi N):=tg [] [] [] N .nil .nil
def LZ:bK:=⟨[.st 0],[cb],λa=>NC N a.1⟩
def Zo:eJ 85 (LZ N):=tg [] [(26,j7 [.r 7 ci])] [] N (.c (uS N)<|.nil) .nil
def zY:bK:=⟨[.st 10],[cb],λa=>gn N a.1⟩
def Ac:eJ 191 (zY N):=tg [] [(58,j7 [.r 18 ci])] [] N (.c (Zo N)<|.nil) .nil
def BU:bK:=⟨[.c (.sl 1),ci],[cb],λa=>ze5 N a.1 a.2.1⟩
def pA:eJ 235 (BU N):=tg [] [(58,j7 [.r 5 ci,.r 10 ci])] [] N .nil .nil
def zN:bK:=⟨[.st 10],[cb],λa=>gh N a.1⟩
def zU:eJ 193 (zN N):=tg [] [(58,j7 [.r 18 ci]),(3737,j7 [.r 32 cb])] [] N (.c (pA N)<|.nil) .nil
def yd:bK:=⟨[.st 10],[cb],λa=>zfi N a.1⟩
def yq:eJ 196 (yd N):=tg [] [(58,j7 [.r 20 ci]),(7474,j7 [.r 42 cb]),(59802,j7 [.r 50 ci])] [] N (.c (pA N)<|.nil) .nil
def vh:bK:=⟨[.st 12],[cb],λa=>zeG N a.1⟩
def wJ:eJ 198 (vh N):=tg [] [(26,j7 [.r 14 ci])] [] N .nil .nil
def Me:bK:=⟨[.st 10],[.c .str],λa=>Dq N a.1⟩
def Mc:eJ 80 (Me N):=tg [] [(26,⟨[],[],[(1000003,40)],[]⟩)] [(786438,[.mk [] [] [] [(1000002,0),(43,1000001)] [] [(393225,[m6]),(393232,[m6]),(393237,[m6]),(393240,[m6]),(393243,[m6]),(393246,[m6]),(393249,[m6]),(393252,[m6]),(393255,[m6]),(393258,[m6])]]),(221380622,[f9 [.v cb]])] N (.c (Ac N)<|.c (zU N)<|.c (yq N)<|.c (wJ N)<|.nil) .nil
def IG:bK:=⟨[.st 10],[cb],λa=>Uu N a.1⟩
def zcd:eJ 42 (IG N):=tg [] [] [] N (.c (Mc N)<|.nil) .nil
def zt:dq:=⟨f9 [.v ci],[f9 [.p (.k g8),.p (.k (.c (.lit (.int .i64 2))))],.mk [.p (.pt 0 0 2),.p (.k g6)] [] [.cells [xi,xn]] [] [] []],λa=>zeo N a⟩
def nz:eP 43 (zt N):=og (g:=43) N .nil .nil
def jk:bK:=⟨[.c (.sl 0)],[.c (.sl 0)],λa=>zaU N a.1⟩
def zbX:eJ 81 (jk N):=wu (i:=0) (sz:=32) (z:=[g6,g6,g6,g6]) (fn:=Tryz.f81) dy (by kernel_rfl) (by kernel_rfl) (by kernel_rfl) rfl
def yl:dq:=⟨f9 [.v (.st 10)],[.mk zA4 [] [] [(10,15)] [] [],.mk [.p (.pt 0 0 2),.p (.k g6)] [] sT [] [] []],λa=>zc5 N a⟩
def zfq:eP 44 (yl N):=og (g:=44) N (.c (zcd N)<|.c (zbX N)<|.nil) .nil
def jJ:dq:=⟨f9 [.v (.c (.sl 2))],[.mk p8 [] [.row 2] [] [] []],λx=>zcN N x⟩
def jP:eP 82 (jJ N):=jU (i:=2) (sz:=24) (z:=[iD]) (fn:=Tryz.f82) dy (by kernel_rfl) (by kernel_rfl) (by kernel_rfl) rfl
def qt:bK:=⟨[.c (.sl 1)],[.c (.sl 1)],λa=>za0 N a.1⟩
def zco:eJ 36 (qt N):=wu (i:=1) (sz:=8) (z:=[g6]) (fn:=Tryz.f36) dy (by kernel_rfl) (by kernel_rfl) (by kernel_rfl) rfl
def zej:dq:=⟨f9 [.v (.c (.sl 3))],[.mk p8 [] [.row 3] [] [] []],λx=>zbt N x⟩
def zei:eP 83 (zej N):=jU (i:=3) (sz:=64) (z:=[g6,iD,g6,g6,g6,g6]) (fn:=Tryz.f83) dy (by kernel_rfl) (by kernel_rfl) (by kernel_rfl) rfl
def BY:bK:=⟨[.st 10],[.st 10],λa=>zdr N a.1⟩
def jc:eJ 45 (BY N):=tg [] [(122,⟨[.r 16 ci,.w 2 2],[],[],[(0,1,2)]⟩),(506,⟨[.r 37 ci,.w 3 3],[],[],[(0,2,3)]⟩)] [(917515,[.mk [.p (.hd 2)] [] [.row 2] o6 [] []]),(4063264,[.mk [.p (.hd 3)] [] [.row 3] o7 [] []])] N (.c (zbX N)<|.c (zco N)<|.nil) (.c (jP N)<|.c (zei N)<|.nil)
def Eu:bK:=⟨[ci,ci,ci],[ci],λa=>Ia N a.1 a.2.1 a.2.2.1⟩
def zbJ:eJ 30 (Eu N):=tg [] [] [] N .nil .nil
def MC:bK:=⟨[ci],[.c (.sl 1)],λa=>qV N a.1⟩
def BQ:eJ 46 (MC N):=tg [(5,1)] [] [] N (.c (zbJ N)<|.nil) .nil
def zV:dq:=⟨f9 [.v (.st 10)],[.mk zA4 [] [] [(37,1)] [(3298534883343,⟨[],[],[(1049601,5)],[]⟩)] [(917517,[eQ [.p (.k g8),.p (.k (.c (.lit (.int .i64 2))))] 0,.mk [.p (.pt 1 0 2),.p (.k g6)] [] [.cells [xi,xn]] [] [] []]),(4063253,[eQ [.p (.k g8),.p (.k (.c (.lit (.int .i64 2))))] 1,.mk [.p (.pt 3 0 2),.p (.k g6)] [] [.cells [xl 0,.mr 4],.mp 7 Γ] [] [] []])],z8],λa=>tK N a⟩
def zq:eP 15 (zV N):=og (g:=15) N (.c (zcd N)<|.c (jc N)<|.c (BQ N)<|.nil) (.c (nz N)<|.c (zfq N)<|.nil)
def qD:dq:=⟨f9 [.p (.k g8),.v (.st 5)],[f9 [.v ci]],λx=>ju N⟩
def qe:eP 17 (qD N):=og (g:=17) N .nil .nil
def wA:dq:=⟨f9 [.p (.k g8),.v ci,.v ci],[f9 [.v ci,.v cb]],λx=>pp N⟩
def vq:eP 10 (wA N):=og (g:=10) N .nil .nil
def IF:bK:=⟨[ci,ci,ci],[cb],λa=>Ru N a.1 a.2.1 a.2.2.1⟩
def qp:eJ 84 (IF N):=tg [] [] [] N .nil .nil
def Ax:bK:=⟨[.st 5],[cb],λa=>iZ N a.1⟩
def Bf:eJ 86 (Ax N):=tg [] [(58,j7 [.r 12 ci])] [] N (.c (qp N)<|.nil) .nil
def Mm:bK:=⟨[ci],[.c .str],λa=>xr N a.1⟩
def LV:eJ 133 (Mm N):=tg [] [] [] N .nil .nil
def Iv:bK:=⟨[ci],[cb],λa=>gE N a.1⟩
def pY:eJ 122 (Iv N):=tg [] [] [] N .nil .nil
def Nt:bK:=⟨[ci],[cb],λa=>Rk N a.1⟩
def zdf:eJ 124 (Nt N):=tg [] [] [] N .nil .nil
def AZ:bK:=⟨[.st 5],[cb],λa=>iF N a.1⟩
def By:eJ 87 (AZ N):=tg [] [(51,j7 [.r 8 cb]),(207,j7 [.r 17 cb])] [] N (.c (LV N)<|.c (zdf N)<|.c (pY N)<|.nil) .nil
def LO:bK:=⟨[.st 5],[cb],λa=>ZD N a.1⟩
def zen:eJ 47 (LO N):=tg [] [] [] N (.c (qp N)<|.c (Zo N)<|.c (Bf N)<|.c (By N)<|.nil) .nil
def iw:bK:=⟨[.c (.sl 4)],[.c (.sl 4)],λa=>zaJ N a.1⟩
def zb1:eJ 126 (iw N):=wu (i:=4) (sz:=16) (z:=[g6,.c (.lit (.bool Θ))]) (fn:=Tryz.f126) dy (by kernel_rfl) (by kernel_rfl) (by kernel_rfl) rfl
def LG:bK:=⟨[.st 5],[.st 5],λa=>ke N a.1⟩
def mh:eJ 75 (LG N):=tg [] [] [] N (.c (zb1 N)<|.nil) .nil
def oN:dq:=⟨w6,[.mk [.v ci,.v cb] [] [] [] [] [(393229,[.mk p7 [] [] [] [(28,j7 [.r 5 ci,.r 6 ci])] [(59375636,[f9 [.v cb]])]])]],λ(a,b,_)=>Zq N a b⟩
def zch:eP 88 (oN N):=og (g:=88) N .nil .nil
def zeq:dq:=⟨.mk [.p (.hd 0),.v ci,.p (.hd 1)] [] [.row 5,.row 5] [] [] [],[.mk p8 [.w 0 5] [] [] [] []],λ(a,b,d)=>zbv N a b d⟩
def zep:eP 89 (zeq N):=og (g:=89) N .nil .nil
def qj:dq:=⟨zA0,[.mk p7 [.h 0 1 (.hd 1),.w 1 5] [] [(38,5)] [] [(1966096,[eQ [.v ci,.v cb] 0]),(16646183,[.mk y8 [.w 1 5] [] o7 [] []])]],λ(a,b,d)=>zck N a b d⟩
def zfE:eP 48 (qj N):=og (g:=48) N (.c (zen N)<|.c (mh N)<|.nil) (.c (zch N)<|.c (zep N)<|.nil)
def Gu:bK:=⟨[ci],[ci],λa=>gX N a.1⟩
def nC:eJ 90 (Gu N):=tg [] [] [] N .nil .nil
def ng:dq:=⟨s7,[.mk [] [.w 3 1,.h 0 25 (.hd 3)] [] [] [] []],λ(a,_,_,b,_)=>zbo N a b⟩
def zeT:eP 49 (ng N):=og (g:=49) N (.c (nC N)<|.nil) .nil
def qi:dq:=⟨.mk [.p (.pt 0 0 27),.v (.st 5)] [] k8 [] [] [],[.mk p7 [.h 1 1 (.hd 4),.w 4 5,.h 0 21 (xi),.h 0 25 (.hd 3),.w 3 1] [] [] [] [(8126509,[.mk p7 [.h 1 1 (.hd 4),.w 4 5] [] o6 [] []]),(16646203,[t8])]],λ(e,f,_,g,_,_,_,_,_,_,_,_,_,_,_,a,_,_,_,_,_,_,_,b,_,_,_,_,d,_)=>jA N e f g a b d⟩
def qq:eP 17 (qi N):=og (g:=17) N (.c (zen N)<|.nil) (.c (zfE N)<|.c (zeT N)<|.nil)
def qC:dq:=⟨w6,[.mk [.v (.st 5),.v cb] [] [] [] [] [(917518,[eQ [.v ci,.v cb] 0])]],λ(a,b,_)=>zaV N a b⟩
def zcm:eP 65 (qC N):=og (g:=65) N (.c (mh N)<|.nil) (.c (zch N)<|.nil)
def qd:dq:=⟨s7,[.mk [.v (.st 5),.v cb] [] [] [] [] [(917518,[eQ [.v (.st 5),.v cb] 0])]],λ(_,a,_,b,_)=>zbB N a b⟩
def zfD:eP 27 (qd N):=og (g:=27) N .nil (.c (zcm N)<|.nil)
def zfv:dq:=⟨.mk p8 [] w8 [] [] [],[.mk y8 [] w8 [] [] []],λx=>zbm N x⟩
def zcV:eP 74 (zfv N):=QF (ii:=5) (sz:=152) (z:=[g6,g6,g6,g6,g6,g6,g6,g6,g6,iD,g6,.c (.lit (.bool Θ)),.c (.lit (.bool Θ)),g6,g6,g6,g6,g6]) (fn:=Tryz.f74) dy (by kernel_rfl) (by kernel_rfl) (by kernel_rfl) rfl
def m_:dq:=⟨.mk zA7 [] s8 [] [] [],[.mk [.p (.pt 2 0 2)] [] [.cells [xi,.hd 3],.row 5] [] [] [(917517,[.mk [.p (.hd 2)] [] w8 o6 [] []])]],λ(a,b)=>gV N a b⟩
def np:eP 66 (m_ N):=og (g:=66) N .nil (.c (zcV N)<|.nil)
def zdd:dq:=⟨.mk [.p (.mr 0)] [] [.mp 7 Γ] [] [] [],[.mk [.p (.mr 1)] [] [.mp 7 Γ] [] [] []],λx=>zbx N x⟩
def zdn:eP 115 (zdd N):=XV Tryz.clonesM 7 Γ
def lH:dq:=⟨.mk zA7 [] sT [] [] [],[.mk [.p (.pt 2 0 2)] [] [.cells [xl 0,.mr 3],.mp 7 Γ] [] [] [(917518,[.mk [.p (.mr 2)] [] [.mp 7 Γ] o6 [] []])]],λ(a,b)=>zeZ N a b⟩
def lB:eP 67 (lH N):=og (g:=67) N (.c (zbX N)<|.nil) (.c (zdn N)<|.nil)
def zdH:dq:=⟨f9 [.v (.c (.sl 8))],[.mk p8 [] [.row 8] [] [] []],λx=>zaQ N x⟩
def zbF:eP 35 (zdH N):=jU (i:=8) (sz:=32) (z:=[g6,g6,g6,g6]) (fn:=Tryz.f35) dy (by kernel_rfl) (by kernel_rfl) (by kernel_rfl) rfl
def lL:dq:=⟨f9 [.v (.c (.sl 1))],[.mk p8 [] [.row 1] [] [] []],λx=>zbg N x⟩
def zd2:eP 36 (lL N):=jU (i:=1) (sz:=8) (z:=[g6]) (fn:=Tryz.f36) dy (by kernel_rfl) (by kernel_rfl) (by kernel_rfl) rfl
def lT:dq:=⟨.mk p8 [] [.row 1] [] [] [],[.mk y8 [] [.row 1] [] [] []],λx=>zby N x⟩
def zey:eP 36 (lT N):=QF (ii:=1) (sz:=8) (z:=[g6]) (fn:=Tryz.f36) dy (by kernel_rfl) (by kernel_rfl) (by kernel_rfl) rfl
def n_:dq:=⟨n9,[.mk [.p (.pt 6 0 27)] [] [gA 7 8 9,.cells [xi,.hd 10],.cells [xl 0,.mr 11],.row 1,.row 5,.mp 7 Γ] [] [] [(1966093,[.mk [.p (.pt 7 0 2)] [] [.cells [xi,.hd 8],.row 5] o6 [] []]),(4063251,[.mk [.p (.pt 9 0 2)] [] [.cells [xl 0,.mr 10],.mp 7 Γ] o7 [] []]),(8257561,[.mk [.p (.hd 11)] [] [.row 8] [(1000000,2)] [] []]),(16646175,[.mk [.p (.hd 12)] [] [.row 1] [(1000000,3)] [] []]),(33423398,[.mk [.p (.hd 13)] [] [.row 1] [(1000000,4)] [] []])]],λ(u,v,w,x,y,z,A,E,F,G,a,b,d,e,f,g,h,i,j,k,l,m,n,o,p,q,r,s,t)=>gT N u v w x y z A E F G a b d e f g h i j k l m n o p q r s t⟩
def nr:eP 28 (n_ N):=og (g:=28) N .nil (.c (np N)<|.c (lB N)<|.c (zbF N)<|.c (zd2 N)<|.c (zey N)<|.nil)
def HB:bK:=⟨[ci],[ci],λa=>DD N a.1⟩
def Gn:eJ 29 (HB N):=tg [] [] [] N (.c (zbJ N)<|.nil) .nil
def oL:dq:=⟨n9,[f9 [.v (.st 10)]],λ(_,_,_,m,n,o,p,q,r,s,a,b,d,e,f,g,h,i,j,k,l,_)=>zaI N m n o p q r s a b d e f g h i j k l⟩
def za1:eP 69 (oL N):=og (g:=69) N (.c (jc N)<|.nil) .nil
def pZ:dq:=⟨.mk zA7 [] s8 [] [] [],[.mk [.v (.c (.sl 5))] [] [] [] [(122,⟨[.r 15 ci,.w 2 5],[(3,2),(13,2)],[],[]⟩)] [(917516,[.mk [.p (.hd 2)] [] w8 o6 [] []])]],λ(a,_)=>zci N a⟩
def zfC:eP 33 (pZ N):=og (g:=33) N (.c (mh N)<|.nil) (.c (zcV N)<|.nil)
def ze8:bK:=⟨[.c (.sl 6)],[.c (.sl 6)],λa=>zbQ N a.1⟩
def ze4:eJ 130 (ze8 N):=wu (i:=6) (sz:=16) (z:=[g6,g6]) (fn:=Tryz.f130) dy (by kernel_rfl) (by kernel_rfl) (by kernel_rfl) rfl
end Go.Abs
end
end
section
set_option maxRecDepth 100000
noncomputable section
namespace Go.Abs
open Go.Proofs
variable[Gl](N:Ε)
def I_:bK:=⟨[.st 7],[.st 7],λa=>jK N a.1⟩
def yY:eJ 78 (I_ N):=tg [] [] [] N (.c (ze4 N)<|.nil) .nil
def oe:dq:=⟨.mk zA7 [] sT [] [] [],[.mk [.v (.c (.sl 7))] [] [] [(27,7)] [(122,⟨[.r 15 ci,.w 3 7],[(3,3)],[(3,7)],[]⟩)] [(3932172,[m6]),(3932173,[eQ [.v (.c (.sl 1))] 999999])]],λ(a,_)=>bn N a⟩
def nB:eP 34 (oe N):=og (g:=34) N (.c (yY N)<|.nil) .nil
def zel:bK:=⟨[.c (.sl 8)],[.c (.sl 8)],λa=>za3 N a.1⟩
def zed:eJ 35 (zel N):=wu (i:=8) (sz:=32) (z:=[g6,g6,g6,g6]) (fn:=Tryz.f35) dy (by kernel_rfl) (by kernel_rfl) (by kernel_rfl) rfl
def oa:dq:=⟨n9,[.mk [.v (.st 14)] [] [] [] [] [(917526,[eQ [.v (.c (.sl 5))] 0]),(917531,[eQ [.v (.c (.sl 7))] 1]),(917547,[.mk [.p (.hd 7)] [] [.row 1] [(1000000,2)] [] []])]],λ(h,i,j,_,_,_,_,_,_,_,_,_,_,_,_,_,_,_,_,_,_,a,b,d,e,f,g,_)=>IP N h i j a b d e f g⟩
def zaw:eP 12 (oa N):=og (g:=12) N (.c (zed N)<|.c (zco N)<|.nil) (.c (zfC N)<|.c (nB N)<|.c (zey N)<|.nil)
def O_:bK:=⟨[ci],[cb],λa=>Py N a.1⟩
def zez:eJ 40 (O_ N):=tg [] [] [] N .nil .nil
def Ln:bK:=⟨[.st 5],[ci],λa=>xF N a.1⟩
def LW:eJ 212 (Ln N):=tg [] [(6,j7 [.r 11 cb])] [] N (.c (zen N)<|.c (zez N)<|.nil) .nil
def Iq:bK:=⟨[.st 8,ci],[cb],λa=>sY N a.1 a.2.1⟩
def Ij:eJ 206 (Iq N):=tg [] [] [] N .nil .nil
def IU:bK:=⟨[.c (.sl 8),ci,ci,ci],[cb],λa=>gL N a.1 a.2.1 a.2.2.1 a.2.2.2.1⟩
def yR:eJ 144 (IU N):=tg [] [(26,j7 [.r 13 ci])] [] N .nil .nil
def IK:bK:=⟨[.c (.sl 8),ci],[cb],λa=>oE N a.1 a.2.1⟩
def yQ:eJ 143 (IK N):=tg [] [(58,j7 [.r 12 ci]),(3737,j7 [.r 47 cb])] [] N (.c (Ij N)<|.c (yR N)<|.nil) .nil
def GK:bK:=⟨[.c (.sl 6),ci],[cb],λa=>zft N a.1 a.2.1⟩
def iP:eJ 97 (GK N):=tg [] [(58,j7 [.r 5 ci,.r 10 ci])] [] N .nil .nil
def As:bK:=⟨[.c (.sl 15),ci,ci],[cb],λa=>jh N a.1 a.2.1 a.2.2.1⟩
def Bb:eJ 240 (As N):=tg [] [(26,j7 [.r 11 ci]),(1689,j7 [.r 36 cb])] [] N (.c (iP N)<|.c (Zo N)<|.nil) .nil
def F_:bK:=⟨[.c (.sl 16)],[cb],λa=>zeC N a.1⟩
def iY:eJ 260 (F_ N):=tg [] [(58,j7 [.r 3 ci,.r 8 ci]),(7474,j7 [.r 26 cb])] [] N (.c (Zo N)<|.nil) .nil
def MV:bK:=⟨[ci,.st 0],[.c (.sl 16),ci],λa=>xx N a.1 a.2.1⟩
def Na:eJ 241 (MV N):=tg [(10,16)] [] [] N (.c (iY N)<|.nil) .nil
def zP:dq:=⟨f9 [.v (.st 0)],[f9 [.ag [.cx,.cx]]],λa=>zbI N a⟩
def gC:eP 147 (zP N):=og (g:=147) N .nil .nil
def Bt:dq:=⟨f9 [.ag [.cx,.cx]],[f9 [.v (.st 0)]],λ(a,b)=>nk N a b⟩
def Au:eP 207 (Bt N):=og (g:=207) N .nil .nil
def yG:dq:=⟨f9 [.ag [.cx,.cx]],[.mk [.v (.st 0),.v ci] [] [] [] [] [(393222,[eQ [.v (.st 0)] 0])]],λ(a,b)=>zc7 N a b⟩
def zfr:eP 148 (yG N):=og (g:=148) N (.c (Zo N)<|.nil) (.c (Au N)<|.nil)
def No:bK:=⟨[.st 0,ci],[.st 0,ci],λa=>mT N a.1 a.2.1⟩
def mB:eJ 146 (No N):=tg [] [] [(4063256,[eQ [.ag [.cx,.cx]] 0]),(8257573,[eQ [.v (.st 0),.v ci] 1])] N (.c (Zo N)<|.nil) (.c (gC N)<|.c (zfr N)<|.nil)
def IN:bK:=⟨[.c (.sl 16),ci],[ci],λa=>gJ N a.1 a.2.1⟩
def zdk:eJ 274 (IN N):=tg [] [] [(393224,[.mk p7 [] [] [] [(28,j7 [.r 5 ci,.r 6 ci])] [(59375636,[f9 [.v cb]])]])] N .nil .nil
def zeQ:dq:=⟨f9 [.v (.c (.sl 16))],[.mk p8 [] [.row 16] [] [] []],λx=>zba N x⟩
def zcn:eP 282 (zeQ N):=jU (i:=16) (sz:=40) (z:=[g6,g6,g6,g6,g6]) (fn:=Tryz.f282) dy (by kernel_rfl) (by kernel_rfl) (by kernel_rfl) rfl
def zca:dq:=⟨p9,[.mk p8 [.w 0 16] [] [] [] []],λ(a,b,d)=>zaH N a b d⟩
def zdY:eP 283 (zca N):=og (g:=283) N .nil .nil
def zeD:dq:=⟨p9,[.mk p8 [.w 0 16] [] [] [] []],λx=>za7 N x.1 x.2.1 x.2.2⟩
def Zx:Go.Shelf.Ren:=⟨λ| 22=>283 | 29=>289 | 30=>290 | n=>n,λ| 24=>287 | 9=>307 | 3=>3 | 4=>4 | 0=>0 | n=>n,λn=>n⟩
def Qn:OC Tryz.prog Zx 5 40 "slices.Insert[[]drayage/api.Step,drayage/api.Step]" (.agg #[.int .i64 0,.int .i64 0,.int .i64 0,.int .i64 0,.int .i64 0]):={ mixed:=dy,f22:=Tryz.func283.trans (congrArg some (by kernel_rfl)),ov:=λargs w=>Go.run_callFunc_extern Tryz.func289 (by kernel_rfl) (by kernel_rfl) (by kernel_rfl) (by kernel_rfl) args w,t0:=Tryz.underlying0,t3:=Tryz.underlying3,t4:=Tryz.underlying4,a3:=Tryz.isAgg3,z3:=Tryz.sizeOf3,a4:=Tryz.isAgg4,z4:=Tryz.sizeOf4,z9:=Tryz.sizeOf307,v9:=Tryz.zeroValue307,t24:=Tryz.underlying287,a24:=Tryz.isAgg287,z24:=Tryz.sizeOf287,v24:=Tryz.zeroValue287,i9:=by kernel_rfl }
def zev:eP 283 (zeD N):=cP.or (f1:=(zca N).f) (f2:=λx=>PI (α:=TT 16) x.1 x.2.1 x.2.2) (zdY N) (Jq (ii:=16) Qn (by kernel_rfl) (by kernel_rfl) (by kernel_rfl) (by kernel_rfl) (by kernel_rfl))
def Mr:bK:=⟨[.c (.sl 16),ci],[.c (.sl 16)],λa=>rk N a.1 a.2.1⟩
def mH:eJ 273 (Mr N):=tg [(30,16)] [] [(917515,[.mk p8 [] [.row 16] o6 [] []]),(4063263,[.mk p8 [.w 0 16] [] o7 [] []])] N (.c (zdk N)<|.nil) (.c (zcn N)<|.c (zev N)<|.nil)
def zbU:dq:=⟨p9,[.mk p8 [.w 0 16] [] [] [] []],λ(a,b,d)=>zaH N a b d⟩
def zdR:eP 283 (zbU N):=og (g:=283) N .nil .nil
def zee:dq:=⟨p9,[.mk p8 [.w 0 16] [] [] [] []],λx=>zcx N x.1 x.2.1 x.2.2⟩
def zef:eP 283 (zee N):=cP.or (f1:=(zbU N).f) (f2:=λx=>PI (α:=TT 16) x.1 x.2.1 x.2.2) (zdR N) (Jq (ii:=16) Qn (by kernel_rfl) (by kernel_rfl) (by kernel_rfl) (by kernel_rfl) (by kernel_rfl))
def zr:dq:=⟨f9 [.v (.c (.sl 16)),.v ci],[.mk p8 [] [.row 16] [(30,16)] [] [(917515,[.mk p8 [] [.row 16] o6 [] []]),(4063263,[.mk p8 [.w 0 16] [] o7 [] []])]],λ(a,b)=>lm N a b⟩
def zT:eP 273 (zr N):=og (g:=273) N (.c (zdk N)<|.nil) (.c (zcn N)<|.c (zef N)<|.nil)
def Ug:bK:=⟨[.st 0,.st 0],[.st 0,ci],λa=>Ay N a.1 a.2.1⟩
def HD:eJ 99 (Ug N):=tg [] [(6,j7 [.r 15 cb])] [(917522,[eQ [.ag [.cx,.cx]] 0]),(917524,[eQ [.ag [.cx,.cx]] 0]),(1966112,[eQ [.v (.st 0),.v ci] 1])] N (.c (Zo N)<|.nil) (.c (gC N)<|.c (zfr N)<|.nil)
def Fv:bK:=⟨[.c (.sl 16)],[.c (.sl 16)],λa=>pQ N a.1⟩
def Gk:eJ 275 (Fv N):=tg [(13,16),(36,16)] [(122,⟨[.r 17 ci,.w 0 16],[(3,0)],[],[]⟩),(979,⟨[.w 0 16],[(3,0)],[],[]⟩)] [] N (.c (iY N)<|.nil) .nil
def qg:bK:=⟨[.c (.sl 16),ci,ci,.st 0,.k 99],[.c (.sl 16),ci],λa=>zet N a.1 a.2.1 a.2.2.1 a.2.2.2.1⟩
def pX:eJ 261 (qg N):=tg [] [(6,j7 [.r 40 cb]),(62,⟨[],[],[(12,16)],[]⟩),(122,⟨[.r 13 ci,.w 1 16],[(12,1)],[],[]⟩)] [(917549,[.mk y8 [] [.row 16] o6 [] []])] N (.c (mH N)<|.c (zdk N)<|.c (HD N)<|.c (Gk N)<|.c (iY N)<|.c (Zo N)<|.nil) (.c (zT N)<|.nil)
def Io:bK:=⟨[.c (.sl 16),ci,ci,.st 0],[.c (.sl 16),ci],λa=>oB N a.1 a.2.1 a.2.2.1 a.2.2.2.1⟩
def qB:eJ 243 (Io N):=tg [] [] [] N (.c (pX N)<|.nil) .nil
def ot:dq:=⟨.mk z7 [] [.cells [xi,.hd 1,.hd 2],.row 2,.row 17] [] [] [],[.mk p7 [.h 0 2 (.hd 2),.w 2 17] [] [(20,17)] [(58,⟨[.r 23 ci,.w 4 17],[(11,4)],[],[]⟩),(122,⟨[.r 62 ci,.w 2 17],[],[],[(0,2,2)]⟩)] []],λ(_,a,b,d,e,f,_)=>zbp N a b d e f⟩
def nL:eP 242 (ot N):=og (g:=242) N (.c (mB N)<|.c (qB N)<|.nil) .nil
def BA:dq:=⟨.mk [.v (.st 10),.v ci,.p (.hd 0),.v (.c (.sl 8))] [] [.row 15] [] [] [],[.mk [.p (.k g8),.v ci] [] [] [(69,2),(96,17)] [(6,j7 [.r 51 cb]),(122,⟨[.r 58 ci,.w 3 2],[],[(1050625,2)],[(2,1,3)]⟩),(250,⟨[.r 77 ci,.w 4 17],[],[(1050626,17)],[(2,2,4)]⟩),(506,⟨[.r 103 ci,.w 4 17],[],[],[(2,2,4)]⟩),(1018,⟨[.r 122 ci,.w 4 17],[],[],[(2,2,4)]⟩),(8147,⟨[.w 4 17],[],[],[(2,2,4)]⟩)] [(4247912563,[.mk p7 [.h 2 2 (.hd 4),.w 4 17] [] o6 [] []])],.mk [.p (.pt 1 0 3),.p (.k g6)] [] [.cells [xi,xl 2,.hd 2],.row 17] [] [] []],λ(a,b,d,e)=>zfb N a b d e⟩
def Bg:eP 213 (BA N):=og (g:=213) N (.c (zco N)<|.c (Na N)<|.c (qB N)<|.c (zcd N)<|.c (yQ N)<|.c (Bb N)<|.nil) (.c (nL N)<|.nil)
def sL:dq:=⟨n9,[.mk [.p (.k g8),.v ci] [] [] [(17,15),(40,15)] [(250,⟨[.r 21 ci,.w 7 15],[(5,7)],[],[]⟩)] [(917517,[eQ [.v (.st 14)] 0]),(8257580,[eQ [.v (.st 10)] 2]),(8257586,[eQ [.p (.k g8),.v ci] 3,.mk [.p (.pt 8 0 3),.p (.k g6)] [] [.cells [xi,xl 2,.hd 9],.row 17] [] [] []]),(2100428829,[eQ [.v (.st 5),.v cb] 1])],.mk [.p (.pt 6 0 3),.p (.k g6)] [] [.cells [xi,xl 2,.hd 7],.row 17] [] [] []],λ(s,t,u,v,w,x,y,z,A,E,a,b,d,e,f,g,h,i,j,k,l,m,n,o,p,q,r,_)=>zcL N s t u v w x y z A E a b d e f g h i j k l m n o p q r⟩
def i_:eP 167 (sL N):=og (g:=167) N (.c (LW N)<|.nil) (.c (zaw N)<|.c (zfD N)<|.c (za1 N)<|.c (Bg N)<|.nil)
def MU:bK:=⟨[ci,.c (.sl 5)],[.st 5,cb],λa=>kc N a.1 a.2.1⟩
def Be:eJ 183 (MU N):=tg [] [(26,j7 [.r 9 ci])] [] N .nil .nil
def QX:bK:=⟨[.st 4,.st 5],[cb],λa=>wx N a.1 a.2.1⟩
def D_:eJ 184 (QX N):=tg [] [] [] N (.c (zdf N)<|.nil) .nil
def Ot:bK:=⟨[.st 5,.c (.sl 5)],[cb],λa=>qQ N a.1 a.2.1⟩
def QK:eJ 245 (Ot N):=tg [] [(26,j7 [.r 12 ci]),(3379,j7 [.r 30 cb])] [] N (.c (Be N)<|.c (D_ N)<|.nil) .nil
def Dt:bK:=⟨[.c (.sl 5)],[.c (.sl 5)],λa=>fU N a.1⟩
def qS:ItSp Tryz.prog 244 (Dt N):=able_ok (i:=5) (gm:=245) (so:=10) (ti:=3) (tb:=4) (z:=[g6,g6,g6,g6,g6,g6,g6,g6,g6,iD,g6,.c (.lit (.bool Θ)),.c (.lit (.bool Θ)),g6,g6,g6,g6,g6]) (fn:=Tryz.f244) (st:=λ(a:aH)=>a.State) (met:=λ(a:aH) (l:Β aH)=>qQ N a l) dy (by kernel_rfl) (by kernel_rfl) (QK N) rfl (λa=>by kernel_rfl) (λx y=>by kernel_rfl) (λx=>by kernel_rfl) (λx=>by kernel_rfl) (λx=>by kernel_rfl)
def Ej:bK:=⟨[ci],[ci],λa=>iU N a.1⟩
def Eb:eJ 285 (Ej N):=tg [] [] [] N (.c (zbJ N)<|.nil) .nil
def OM:bK:=⟨[ci,ci],[ci],λa=>AP N a.1 a.2.1⟩
def Qk:eJ 286 (OM N):=tg [] [] [] N .nil .nil
def IX:bK:=⟨[.st 10,.st 5,ci,.c (.sl 1)],[.st 11],λa=>zL N a.1 a.2.1 a.2.2.1 a.2.2.2.1⟩
def IW:eJ 276 (IX N):=tg [] [(15,j7 [.r 9 ci]),(31,j7 [.r 10 ci])] [] N (.c (zcd N)<|.c (Qk N)<|.c (zbJ N)<|.c (Eb N)<|.nil) .nil
def Tt:bK:=⟨[.st 10,.st 5,ci,.c (.sl 1)],[ci],λa=>Fe N a.1 a.2.1 a.2.2.1 a.2.2.2.1⟩
def SA:eJ 262 (Tt N):=tg [] [] [] N (.c (IW N)<|.nil) .nil
def OD:bK:=⟨[.st 10,.st 5,.st 19],[.st 20],λa=>rC N a.1 a.2.1 a.2.2.1⟩
def Qa:eJ 246 (OD N):=tg [] [] [] N (.c (SA N)<|.nil) .nil
def CW:bK:=⟨[ci],[cb],λa=>cmp_isNaN_int N a.1⟩
def Co:eJ 259 (CW N):=tg [] [] [] N .nil .nil
def zX:bK:=⟨[ci,ci],[ci],λa=>gu N a.1 a.2.1⟩
def Ae:eJ 278 (zX N):=tg [] [] [] N (.c (Co N)<|.nil) .nil
def oq:bK:=⟨[.c (.sl 1),.c (.sl 1)],[ci],λa=>zaG N a.1 a.2.1⟩
def zeV:eJ 265 (oq N):=tg [] [(26,j7 [.r 11 ci])] [] N (.c (Ae N)<|.nil) .nil
def zfu:dq:=⟨.mk [.p (.hd 0),.v ci,.v ci,.v ci,.p (.fb 264 1 1)] [] [.row 1,.cells [xl 20]] [] [] [],[.mk [] [.w 0 1] [] [] [(63,j7 [.r 20 ci,.r 21 ci]),(172,j7 [.r 10 ci,.r 11 ci]),(428,j7 [.r 14 ci,.r 15 ci]),(698,⟨[.r 13 ci,.w 0 1],[(0,0)],[],[]⟩),(1020,j7 [.r 20 ci,.r 21 ci]),(1023,⟨[.w 0 1],[(0,0)],[],[]⟩),(1722,⟨[.r 17 ci,.w 0 1],[(0,0)],[],[]⟩),(2047,⟨[.w 0 1],[(0,0)],[],[]⟩),(8186,⟨[],[(0,0)],[],[]⟩),(16378,⟨[],[(0,0)],[],[]⟩)] [(361365553,[.mk p7 [] [] [(9,1),(13,1)] [] []]),(536477887,[.mk [] [.w 0 1] [] [] [(28,⟨[.r 10 ci,.r 11 ci,.w 0 1],[(0,0)],[],[]⟩),(1812,⟨[],[(0,0)],[],[]⟩),(1814,⟨[],[(0,0)],[],[]⟩)] [(983097,[s9]),(118751263,[s9]),(118882350,[s9])]]),(898236517,[.mk p7 [] [] [(9,1),(13,1)] [] []]),(1073348813,[y9]),(1073610971,[y9]),(2139750569,[.mk p7 [] [] [(9,1),(13,1)] [] []])]],λ(a,b,d,e,f)=>zbl N a b d e f⟩
theorem zcR:∀N:Ε,eP 288 (zfu N)|0=>⟨by kernel_rfl,λx y a b d z e f h=>by cases h⟩|N+1=>og (g:=288) N (.c (zeV N)<|.nil) (.c (zcR N)<|.nil)
def yO:bK:=⟨[.c (.sl 20)],[.c (.sl 1)],λa=>zfj N a.1⟩
def yA:eJ 247 (yO N):=tg [(7,1)] [(30,⟨[],[(3,0)],[],[]⟩),(58,⟨[.r 10 ci,.w 1 1],[(3,1)],[],[]⟩)] [(1966100,[.mk [] [.w 1 1] [] [] [] [(65544,[.mk [] [.w 1 1] [] [] [(28,⟨[.r 7 ci,.r 8 ci,.w 1 1],[(0,1)],[],[]⟩),(30,⟨[],[(0,0)],[],[]⟩),(62,⟨[.r 6 ci,.w 1 1],[(0,1)],[],[]⟩),(452,⟨[],[(0,0)],[],[]⟩),(1995,⟨[.w 1 1],[(0,1)],[],[]⟩),(3988,⟨[.r 7 ci,.r 8 ci,.w 1 1],[(0,1)],[],[]⟩),(31926,⟨[],[(0,0)],[],[]⟩),(63812,⟨[],[(0,0)],[],[]⟩)] [(1966107,[q8]),(29622290,[q8]),(2092302396,[.mk [] [.w 1 1] [] o6 [] []]),(4181983275,[.mk [] [.w 1 1] [] o6 [] []])]])]])] N (.c (zeV N)<|.nil) (.c (zcR N)<|.nil)
end Go.Abs
end
end
section
set_option maxRecDepth 100000
noncomputable section
namespace Go.Abs
open Go.Proofs
variable[Gl](N:Ε)
def yz:dq:=⟨.mk [.v (.st 10),.p (.hd 0),.v (.st 19)] [] w8 [] [] [],[.mk [.v (.c (.sl 5))] [] [] [(19,20),(37,5),(55,5)] [(122,⟨[.r 22 ci,.w 3 20],[(7,3)],[],[]⟩),(252,⟨[],[],[(7,20)],[]⟩),(506,⟨[.r 41 ci,.w 4 5],[(10,4)],[],[]⟩)] []],λ(a,b,d)=>zfk N a b d⟩
def yF:eP 215 (yz N):=og (g:=215) N (.c (zcd N)<|.c (Qa N)<|.c (yA N)<|.c (zb1 N)<|.nil) .nil
def wz:dq:=⟨n9,[.mk [.v (.c (.sl 5))] [] [] [(16,5)] [(250,⟨[.w 9 5],[],[(1055744,5)],[(7,0,9)]⟩)] [(917513,[eQ [.v (.st 14)] 0]),(8126476,[m6]),(8257555,[eQ [.v (.st 10)] 1]),(8257562,[eQ [.v (.c (.sl 5))] 2])]],λ(s,t,u,v,w,x,y,z,A,E,a,b,d,e,f,g,h,i,j,k,l,m,n,o,p,q,r,_)=>zbE N s t u v w x y z A E a b d e f g h i j k l m n o p q r⟩
def kN:eP 168 (wz N):=og (g:=168) N (.it (qS N)<|.nil) (.c (zaw N)<|.c (za1 N)<|.c (yF N)<|.nil)
def HK:bK:=⟨[.st 10,ci],[cb],λa=>uP N a.1 a.2.1⟩
def GQ:eJ 248 (HK N):=tg [] [] [] N (.c (zcd N)<|.nil) .nil
def Eh:bK:=⟨[.c (.sl 5),ci],[ci],λa=>mE N a.1 a.2.1⟩
def EG:eJ 249 (Eh N):=tg [] [] [(393223,[.mk p7 [] [] [] [(58,j7 [.r 5 ci,.r 10 ci]),(467,j7 [.r 5 ci])] [(489816080,[f9 [.v cb]])]])] N (.c (zez N)<|.nil) .nil
def Qe:bK:=⟨[.c (.sl 5),ci,ci],[ci],λa=>Bu N a.1 a.2.1 a.2.2.1⟩
def Ra:eJ 250 (Qe N):=tg [] [] [(393225,[.mk p7 [] [] [] [(58,j7 [.r 5 ci,.r 10 ci]),(467,j7 [.r 5 ci])] [(489816080,[f9 [.v cb]])]])] N (.c (zez N)<|.nil) .nil
def Nx:bK:=⟨[.st 10,.c (.sl 5),.st 5],[cb],λa=>mR N a.1 a.2.1 a.2.2.1⟩
def Ns:eJ 216 (Nx N):=tg [] [] [] N (.c (GQ N)<|.c (EG N)<|.c (Ra N)<|.nil) .nil
def zB:dq:=⟨s7,[.mk [.v cb] [] [] [] [(122,j7 [])] [(917514,[eQ [.v (.st 14)] 0]),(3932173,[m6]),(257163284,[eQ [.v (.st 10)] 1])]],λ(t,u,v,w,x,y,z,A,E,F,a,b,d,e,f,g,h,i,j,k,l,m,n,o,p,q,r,s,_)=>zeA N t u v w x y z A E F a b d e f g h i j k l m n o p q r s⟩
def nI:eP 169 (zB N):=og (g:=169) N (.it (qS N)<|.c (Ns N)<|.nil) (.c (zaw N)<|.c (za1 N)<|.nil)
def oF:dq:=⟨.mk p8 [] [.row 1] [] [] [],[.mk [] [.w 0 1] [] [] [] []],λx=>zcD N x⟩
def zeU:eP 128 (oF N):=sort_oo (ii:=1) Tryz.sortsI (d:=λk=>k) (c:=λk=>k) (λa=>rfl) (λk=>rfl) (by kernel_rfl)
def kS:dq:=⟨.mk p8 [] [.row 1] [] [] [],[.mk y8 [.w 0 1] [.row 1] [] [] []],λx=>zb4 N x⟩
def zdU:eP 269 (kS N):=SV (ii:=1) Tryz.WL (d:=λk=>k) (c:=λk=>k) (λa=>rfl) (λk=>rfl) (by kernel_rfl)
def uG:bK:=⟨[.fp 18,ci],[.c (.sl 1)],λa=>An N a.1 a.2.1⟩
def ud:eJ 251 (uG N):=tg [(52,1)] [(62,⟨[],[(5,0)],[],[]⟩),(122,⟨[.r 33 ci,.w 0 1],[(5,0)],[(5,1)],[]⟩),(31334,⟨[.r 45 ci,.w 0 1],[(5,0)],[],[]⟩)] [(4063289,[y9]),(8257595,[.mk y8 [.w 0 1] [.row 1] o7 [] []])] N .nil (.c (zeU N)<|.c (zdU N)<|.nil)
def LU:bK:=⟨[.st 0,.st 0],[.st 0],λa=>Cw N a.1 a.2.1⟩
def MJ:eJ 279 (LU N):=tg [] [] [] N .nil .nil
def GI:bK:=⟨[.c (.sl 16),ci,ci],[.st 0],λa=>pJ N a.1 a.2.1 a.2.2.1⟩
def wk:eJ 270 (GI N):=tg [] [(6,j7 [.r 26 cb]),(31,j7 [.h 1 0 hi,.h 1 1 hi,.h 1 2 hi,.h 1 3 hi]),(250,j7 [.r 41 ci,.h 1 0 hi,.h 1 1 hi,.h 1 2 hi,.h 1 3 hi])] [] N (.c (zdk N)<|.c (MJ N)<|.c (iY N)<|.nil) .nil
def Nn:bK:=⟨[.st 0,.st 0],[ci],λa=>mS N a.1 a.2.1⟩
def AR:eJ 238 (Nn N):=tg [] [(6,j7 [.r 21 cb]),(250,j7 [.r 5 ci,.r 26 ci]),(2003,j7 [.r 5 ci])] [] N (.c (uS N)<|.c (Zo N)<|.nil) .nil
def Mp:bK:=⟨[.c (.sl 0),ci,.st 0],[ci],λa=>qN N a.1 a.2.1 a.2.2.1⟩
def AX:eJ 281 (Mp N):=tg [] [] [] N (.c (AR N)<|.nil) .nil
def IM:bK:=⟨[.c (.sl 0),.c (.sl 1),.st 0],[ci],λa=>r_ N a.1 a.2.1 a.2.2.1⟩
def IE:eJ 280 (IM N):=tg [] [(58,j7 [.r 7 ci,.r 12 ci])] [] N (.c (AX N)<|.nil) .nil
def vW:dq:=⟨.mk [.p (.hd 0),.v (.c (.sl 1)),.v ci,.v (.st 0)] [] [.row 0] [] [] [],[.mk [.v (.c (.sl 6)),.v cb] [] [] [(48,6)] [(12,j7 [.r 24 cb]),(111,⟨[.w 2 6],[(10,2)],[(10,6)],[]⟩),(890,⟨[.r 11 ci,.r 28 ci,.w 2 6],[(10,2)],[],[]⟩),(7123,⟨[.r 11 ci,.w 2 6],[(10,2)],[],[]⟩)] []],λ(a,b,d,e)=>zeJ N a b d e⟩
def kw:eP 271 (vW N):=og (g:=271) N (.c (AX N)<|.c (IE N)<|.nil) .nil
def vQ:bK:=⟨[.fp 18,ci,ci,.st 0,ci,ci],[.c (.sl 6),cb],λa=>Bc N a.1 a.2.1 a.2.2.1 a.2.2.2.1 a.2.2.2.2.1 a.2.2.2.2.2.1⟩
def ve:eJ 252 (vQ N):=tg [(57,0)] [(122,⟨[.r 66 ci,.w 1 0],[(14,1)],[],[]⟩)] [(4063328,[eQ [.v (.c (.sl 6)),.v cb] 0])] N (.c (wk N)<|.nil) (.c (kw N)<|.nil)
def pU:bK:=⟨[.fp 18,ci,ci,.st 0,ci],[.st 21,cb],λa=>ux N a.1 a.2.1 a.2.2.1 a.2.2.2.1 a.2.2.2.2.1⟩
def qa:eJ 217 (pU N):=tg [] [(3,j7 [.r 12 (.c (.sl 1)),.r 13 ci])] [] N (.c (ve N)<|.c (ud N)<|.nil) .nil
def rA:dq:=⟨.mk [.p (.pt 0 0 27),.v (.fp 18),.v (.st 5)] [] k8 [] [] [],[.mk [.v (.st 21),.v cb] [] [] [] [] [(917523,[eQ [.v (.st 10)] 0])]],λ(_,_,_,o,p,q,r,s,t,u,a,b,d,e,f,g,h,i,j,k,l,m,n,_)=>zdu N o p q r s t u a b d e f g h i j k l m n⟩
def qW:eP 170 (rA N):=og (g:=170) N (.c (qa N)<|.nil) (.c (za1 N)<|.nil)
def yf:bK:=⟨[.fp 18],[ci],λa=>jX N a.1⟩
def yB:eJ 171 (yf N):=tg [] [] [] N .nil .nil
def qu:dq:=⟨.mk [.p (.pt 0 0 25)] [] m9 [] [] [],[f9 [.v cb]],λ(_,_,_,_,_,_,_,_,_,_,_,_,_,_,_,_,_,_,_,_,_,a,_)=>Zk N a⟩
def zfB:eP 174 (qu N):=og (g:=174) N .nil .nil
def tn:dq:=⟨.mk y7 [] m9 [] [] [],[lF],λ(_,_,_,r,s,_,t,u,v,w,a,b,d,e,f,g,h,i,j,k,l,m,n,o,p,q,_)=>lO N r s t u v w a b d e f g h i j k l m n o p q⟩
def th:eP 172 (tn N):=og (g:=172) N .nil (.c (zfB N)<|.nil)
def zeh:dq:=⟨f9 [.v (.c (.sl 17))],[.mk p8 [] [.row 17] [] [] []],λx=>zbs N x⟩
def zek:eP 253 (zeh N):=jU (i:=17) (sz:=24) (z:=[iD]) (fn:=Tryz.f253) dy (by kernel_rfl) (by kernel_rfl) (by kernel_rfl) rfl
def lW:dq:=⟨f9 [.v (.fp 18)],[.mk [.p (.pt 0 0 3)] [] s5 [] [] [(917521,[.mk p8 [] [.row 17] o6 [] []])]],λa=>zbD N a⟩
def zcM:eP 218 (lW N):=og (g:=218) N .nil (.c (zek N)<|.nil)
def mG:dq:=⟨.mk z7 [] s5 [] [] [],[.mk p7 [.h 0 2 (.hd 1),.w 1 17] [] [(20,17)] [(58,⟨[.r 23 ci,.w 3 17],[(11,3)],[],[]⟩),(122,⟨[.r 62 ci,.w 1 17],[],[],[(0,2,1)]⟩)] []],λ(a,b,d,e,f,_)=>zbp N a b d e f⟩
def mq:eP 242 (mG N):=og (g:=242) N (.c (mB N)<|.c (qB N)<|.nil) .nil
def nO:dq:=⟨.mk [.p (.pt 0 0 3),.v ci,.v (.c (.sl 6)),.v (.st 0),.v ci] [] s5 [] [] [],[.mk p7 [.h 0 2 (.hd 1),.w 1 17] [] [] [(14,j7 [.r 45 cb])] [(1966133,[.mk p7 [.h 0 2 (.hd 1),.w 1 17] [] o6 [] []])]],λ(a,b,d,e,f,g,_)=>zbb N a b d e f g⟩
def zb3:eP 219 (nO N):=og (g:=219) N (.c (iP N)<|.c (Zo N)<|.nil) (.c (mq N)<|.nil)
def lZ:dq:=⟨.mk [.p (.pt 0 0 3),.v ci] [] s5 [] [] [],[.mk [.v (.c (.sl 1))] [] [] [(52,1)] [(62,⟨[],[(5,0)],[],[]⟩),(122,⟨[.r 33 ci,.w 2 1],[(5,2)],[(5,1)],[]⟩),(31334,⟨[.r 45 ci,.w 2 1],[(5,2)],[],[]⟩)] [(4063289,[.mk [] [.w 2 1] [] o6 [] []]),(8257595,[.mk [.p (.hd 3)] [.w 2 1] [.row 1] o7 [] []])]],λ(a,b,_,d)=>zbA N a b d⟩
def my:eP 251 (lZ N):=og (g:=251) N .nil (.c (zeU N)<|.c (zdU N)<|.nil)
def ou:dq:=⟨.mk [.p (.pt 0 0 3),.v ci,.v ci,.v (.st 0),.v ci,.v ci] [] s5 [] [] [],[.mk [.v (.c (.sl 6)),.v cb] [] [] [(57,0)] [(122,⟨[.r 66 ci,.w 3 0],[(14,3)],[],[]⟩)] [(4063328,[eQ [.v (.c (.sl 6)),.v cb] 0])]],λ(a,b,d,e,f,g,h,i)=>zaM N a b d e f g h i⟩
def nE:eP 252 (ou N):=og (g:=252) N (.c (wk N)<|.nil) (.c (kw N)<|.nil)
def jR:dq:=⟨.mk [.p (.pt 0 0 3),.v ci,.v ci,.v (.st 0),.v ci] [] s5 [] [] [],[.mk [.v (.st 21),.v cb] [] [] [] [(3,j7 [.r 12 (.c (.sl 1)),.r 13 ci])] [(786450,[eQ [.v (.c (.sl 1))] 0]),(8126498,[eQ [.v (.c (.sl 6)),.v cb] 1]),(29098018,[eQ [.v (.c (.sl 6)),.v cb] 1])]],λ(a,b,d,e,f,g,h)=>zaP N a b d e f g h⟩
def jW:eP 217 (jR N):=og (g:=217) N .nil (.c (my N)<|.c (nE N)<|.nil)
def rF:dq:=⟨.mk [.p (.pt 0 0 27),.p (.pt 1 0 3),.v (.st 5)] [] [gA 2 3 4,.cells [xi,xl 2,.hd 5],.cells [xi,.hd 6],.cells [xl 0,.mr 7],.row 1,.row 17,.row 5,.mp 7 Γ] [] [] [],[.mk [.v (.st 21),.v cb] [] [] [] [] [(917523,[eQ [.v (.st 10)] 0]),(4063279,[eQ [.v (.st 21),.v cb] 1])]],λ(_,q,_,_,r,s,t,u,v,w,a,b,d,e,f,g,h,i,j,k,l,m,n,_,_,_,_,_,_,o,p,_)=>zaL N q r s t u v w a b d e f g h i j k l m n o p⟩
def zcF:eP 170 (rF N):=og (g:=170) N .nil (.c (za1 N)<|.c (jW N)<|.nil)
def Hq:bK:=⟨[.c (.sl 6)],[ci],λa=>pL N a.1⟩
def Ge:eJ 204 (Hq N):=tg [] [(58,j7 [.r 3 ci,.r 8 ci])] [] N (.c (zbJ N)<|.nil) .nil
def pS:bK:=⟨[.c (.sl 1),ci],[ci],λa=>zeB N a.1 a.2.1⟩
def qk:eJ 239 (pS N):=tg [] [(26,j7 [.r 8 ci])] [] N .nil .nil
def l_:bK:=⟨[.c (.sl 1),ci],[cb],λa=>zcs N a.1 a.2.1⟩
def mo:eJ 205 (l_ N):=tg [] [] [] N (.c (qk N)<|.nil) .nil
def FL:bK:=⟨[.st 10,.st 5,.c (.sl 6)],[cb],λa=>gY N a.1 a.2.1 a.2.2.1⟩
def wT:eJ 142 (FL N):=tg [] [(6,j7 [.r 22 cb]),(250,j7 [.r 47 ci])] [] N (.c (mo N)<|.c (iP N)<|.c (Ge N)<|.nil) .nil
def KY:bK:=⟨[ci,ci],[ci,cb],λa=>xk N a.1 a.2.1⟩
def LA:eJ 220 (KY N):=tg [] [(53247,j7 [.r 48 cb]),(212991,j7 [.r 55 cb])] [] N (.c (zez N)<|.c (pY N)<|.nil) .nil
def Pq:bK:=⟨[.st 5,ci,ci,cb],[.st 5,ci],λa=>wW N a.1 a.2.1 a.2.2.1 a.2.2.2.1⟩
def DH:eJ 180 (Pq N):=tg [] [(6,j7 [.r 20 cb]),(1023,j7 [.h 0 11 hb,.h 0 12 hb,.h 0 15 hi]),(2047,j7 [.h 0 16 hi]),(8186,j7 [.h 0 12 hb])] [] N (.c (LA N)<|.c (zb1 N)<|.c (zdf N)<|.c (zen N)<|.c (qp N)<|.nil) .nil
def ze7:dq:=⟨f9 [.v (.c (.sl 0))],[.mk p8 [] [.row 0] [] [] []],λx=>zaW N x⟩
def zcH:eP 81 (ze7 N):=jU (i:=0) (sz:=32) (z:=[g6,g6,g6,g6]) (fn:=Tryz.f81) dy (by kernel_rfl) (by kernel_rfl) (by kernel_rfl) rfl
def kT:dq:=⟨.mk [.p (.pt 0 0 2),.v (.st 7),.p (.k (.c (.fn (.func 99) [] [])))] [] sT [] [] [],[t6],λ(_,a,b)=>zb7 N a b⟩
def kJ:eP 98 (kT N):=og (g:=98) N (.c (mB N)<|.c (HD N)<|.nil) (.c (zcH N)<|.nil)
def lY:dq:=⟨.mk [.p (.pt 0 0 2),.v (.st 7)] [] sT [] [] [],[.mk p7 [.h 0 0 (xl 0),.m 1 7 Γ] [] [] [(14,j7 [.r 41 cb])] [(4063288,[eQ [.v (.c (.sl 0)),.v ci] 0])]],λ(a,b,d)=>za5 N a b d⟩
def zcS:eP 51 (lY N):=og (g:=51) N (.c (yY N)<|.c (iP N)<|.c (Zo N)<|.nil) (.c (kJ N)<|.nil)
def qz:dq:=⟨zA0,[.mk p7 [.w 1 5,.h 0 1 (.hd 1)] [] [] [] [(1966096,[eQ [.v ci,.v cb] 0])]],λ(a,b,_)=>zdh N a b⟩
def qw:eP 221 (qz N):=og (g:=221) N (.c (zen N)<|.c (mh N)<|.nil) (.c (zch N)<|.nil)
def lV:dq:=⟨.mk [.p (.pt 0 0 27),.v (.st 5),.v (.st 5)] [] k8 [] [] [],[.mk p7 [.h 1 1 (.hd 4),.w 4 5,.h 0 25 (.hd 3),.w 3 1] [] [] [(15,⟨[.w 3 1],[],[],[(0,25,3)]⟩)] [(786445,[.mk p7 [.w 4 5,.h 1 1 (.hd 4)] [] o6 [] []]),(917524,[t8]),(7995421,[t8])]],λ(a,b,_,d,e,_)=>zbw N a b d e⟩
def zex:eP 181 (lV N):=og (g:=181) N .nil (.c (qw N)<|.c (zeT N)<|.nil)
end Go.Abs
end
end
section
set_option maxRecDepth 100000
noncomputable section
namespace Go.Abs
open Go.Proofs
variable[Gl](N:Ε)
def nP:dq:=⟨.mk [.p (.pt 0 0 27),.v ci,.v (.c (.sl 6))] [] k8 [] [] [],[.mk p7 [.h 2 0 (xl 0),.m 5 7 Γ,.h 0 25 (.hd 3),.h 0 26 (xi),.h 1 1 (.hd 4),.w 3 1,.w 4 5] [] [] [] [(917524,[eQ [.v (.st 5),.v cb] 0]),(133955641,[.mk p7 [.h 2 0 (xl 0),.m 5 7 Γ] [] o7 [] []]),(268304458,[.mk p7 [.h 1 1 (.hd 4),.w 4 5,.h 0 25 (.hd 3),.w 3 1] [] [(1000000,2)] [] []])]],λ(r,s,t,u,v,w,x,y,z,A,a,b,d,e,f,g,h,i,j,k,l,m,n,o,_,_,_,_,p,_,q)=>zaX N r s t u v w x y z A a b d e f g h i j k l m n o p q⟩
def zb5:eP 177 (nP N):=og (g:=177) N (.c (wT N)<|.c (DH N)<|.c (nC N)<|.nil) (.c (zcm N)<|.c (zcS N)<|.c (zex N)<|.nil)
def rp:dq:=⟨.mk x9 [] m9 [] [] [],[.mk [] [.h 1 25 (.hd 4),.h 1 26 (xi),.h 2 1 (.hd 5),.h 3 0 (xl 0),.w 4 1,.w 5 5,.m 6 7 Γ,.h 0 1 (.fp 18),.h 0 20 (xn)] [] [(74,21)] [(15,j7 []),(13194139533438,⟨[],[],[],[(5,1057794,17),(0,1048577,18)]⟩)] [(393229,[.mk [.p (.pt 9 0 3)] [] [.cells [xi,xl 2,.hd 10],.row 17] o6 [] []]),(1835031,[.mk p7 [.h 9 2 (.hd 10),.w 10 17] [] o7 [] []]),(3932186,[eQ [.v cb] 2]),(8126525,[.mk p7 [.h 3 0 (xl 0),.m 6 7 Γ,.h 1 25 (.hd 4),.h 1 26 (xi),.h 2 1 (.hd 5),.w 4 1,.w 5 5] [] [(1000000,4)] [] []]),(15990821,[eQ [.v (.st 21),.v cb] 3])],.mk [] [.h 1 25 (.hd 4),.h 1 26 (xi),.h 2 1 (.hd 5),.h 3 0 (xl 0),.w 4 1,.w 5 5,.m 6 7 Γ,.h 0 1 (.fp 18),.h 0 20 (.hd 7)] [.row 21] [] [] []],λ(S,T,U,W,X,Y,Z,a7,a8,a9,a,b,d,e,f,g,h,i,j,k,l,m,n,o,p,_,q,r,s,t,u,v,w,x,y,z,A,E,F,G,K,L,M,O,P,_,_,_,_,Q,_,R)=>vL N S T U W X Y Z a7 a8 a9 a b d e f g h i j k l m n o p q r s t u v w x y z A E F G K L M O P Q R⟩
def rz:eP 173 (rp N):=og (g:=173) N .nil (.c (zcM N)<|.c (zb3 N)<|.c (zfB N)<|.c (zcF N)<|.c (zb5 N)<|.nil)
def oX:dq:=⟨.mk [.p (.pt 0 0 25)] [] m8 [] [] [],[f9 [.v cb]],λ(_,_,_,_,_,_,_,_,_,_,_,_,_,_,_,_,_,_,_,_,_,_,a,_)=>Zk N a⟩
def ze0:eP 174 (oX N):=og (g:=174) N .nil .nil
def rM:dq:=⟨.mk y7 [] m8 [] [] [],[lF],λ(_,_,_,_,s,t,_,u,v,w,a,b,d,e,f,g,h,i,j,k,l,m,n,o,p,q,r,_)=>lO N s t u v w a b d e f g h i j k l m n o p q r⟩
def qL:eP 172 (rM N):=og (g:=172) N .nil (.c (ze0 N)<|.nil)
def qX:dq:=⟨.mk x9 [] m8 [] [] [],[l3],λ(T,U,W,X,Y,Z,a6,a7,a8,a9,a,b,d,e,f,g,h,i,j,k,l,m,n,o,p,q,_,r,s,t,u,v,w,x,y,z,A,E,F,G,K,L,M,O,P,Q,_,_,_,_,R,_,S)=>vm N T U W X Y Z a6 a7 a8 a9 a b d e f g h i j k l m n o p q r s t u v w x y z A E F G K L M O P Q R S⟩
def rI:eP 173 (qX N):=og (g:=173) N .nil (.c (zcM N)<|.c (zb3 N)<|.c (ze0 N)<|.c (zcF N)<|.c (zb5 N)<|.nil)
def oh:dq:=⟨.mk [.p (.pt 0 0 25)] [] m7 [] [] [],[f9 [.v cb]],λ(_,_,_,_,_,_,_,_,_,_,_,_,_,_,_,_,_,_,_,_,_,_,_,a,_)=>Zk N a⟩
def zc2:eP 174 (oh N):=og (g:=174) N .nil .nil
def su:dq:=⟨.mk y7 [] m7 [] [] [],[lF],λ(_,_,_,_,t,u,_,v,w,x,a,b,d,e,f,g,h,i,j,k,l,m,n,o,p,q,r,s,_)=>zfy N t u v w x a b d e f g h i j k l m n o p q r s⟩
def sO:eP 172 (su N):=og (g:=172) N .nil (.c (zc2 N)<|.nil)
def rB:dq:=⟨.mk x9 [] m7 [] [] [],[l3],λ(U,W,X,Y,Z,a5,a6,a7,a8,a9,a,b,d,e,f,g,h,i,j,k,l,m,n,o,p,q,r,_,s,t,u,v,w,x,y,z,A,E,F,G,K,L,M,O,P,Q,R,_,_,_,_,S,_,T)=>zdv N U W X Y Z a5 a6 a7 a8 a9 a b d e f g h i j k l m n o p q r s t u v w x y z A E F G K L M O P Q R S T⟩
def q_:eP 173 (rB N):=og (g:=173) N .nil (.c (zcM N)<|.c (zb3 N)<|.c (zc2 N)<|.c (zcF N)<|.c (zb5 N)<|.nil)
def AK:dq:=⟨n9,[.mk w5 k9 [] [] [(511,j7 [.h 9 24 hi]),(2042,⟨[.r 32 ci,.h 0 26 hi,.h 2 0 (hl 0),.h 9 1 (.fp 18),.h 9 2 hi,.h 9 3 hi,.h 9 4 hi,.h 9 5 hi,.h 9 6 hi,.h 9 7 hi,.h 9 8 hi,.h 9 9 hi,.h 9 10 hi,.h 9 11 (hl 4),.h 9 12 hi,.h 9 13 hb,.h 9 14 hb,.h 9 15 hi,.h 9 16 hi,.h 9 17 hi,.h 9 18 hi,.h 9 19 hi,.h 9 22 hi,.h 9 23 hi,.h 9 24 hi,.h 10 0 hi,.h 10 1 hi,.h 10 2 (hl 6),.w 3 1,.w 4 5,.m 5 7 Γ,.w 11 21],[],[(1057812,21)],[(0,25,3),(1,1,4),(9,20,11)]⟩),(16339,⟨[.h 0 26 hi,.h 2 0 (hl 0),.h 9 1 (.fp 18),.h 9 2 hi,.h 9 3 hi,.h 9 4 hi,.h 9 5 hi,.h 9 6 hi,.h 9 7 hi,.h 9 8 hi,.h 9 9 hi,.h 9 10 hi,.h 9 11 (hl 4),.h 9 12 hi,.h 9 13 hb,.h 9 14 hb,.h 9 15 hi,.h 9 16 hi,.h 9 17 hi,.h 9 18 hi,.h 9 19 hi,.h 9 22 hi,.h 9 23 hi,.h 9 24 hi,.h 10 0 hi,.h 10 1 hi,.h 10 2 (hl 6),.w 3 1,.w 4 5,.m 5 7 Γ,.w 11 21],[],[],[(0,25,3),(1,1,4),(9,20,11)]⟩),(8796093022270,⟨[],[],[(4,0)],[]⟩),(10995116277822,⟨[],[],[(1055746,17),(4,18)],[]⟩)] [(917522,[eQ [.p (.k g8),.v ci] 0,w7]),(66846750,[eQ [.v (.c (.sl 5))] 1]),(133955653,[eQ [.v cb] 10]),(536084560,[eQ [.v (.st 21),.v cb] 3]),(68531257383,[eQ [.v cb] 2]),(68531388464,[eQ [.v (.st 21),.v cb] 3]),(548252024898,[.mk [] [.h 0 25 (.hd 3),.h 0 26 (xi),.h 1 1 (.hd 4),.h 2 0 (xl 0),.w 3 1,.w 4 5,.m 5 7 Γ,.h 9 1 (.fp 18),.h 9 20 (.hd 11),.w 11 21] [] [(1000000,9)] [] []]),(2193007837246,[.mk [] [.h 9 2 (xi),.h 9 3 (xi),.h 9 4 (xi),.h 9 5 (xi),.h 9 6 (xi),.h 9 7 (xi),.h 9 8 (xi),.h 9 9 (xi),.h 9 10 (xi),.h 9 11 (xl 4),.h 9 12 (xi),.h 9 13 (xb),.h 9 14 (xb),.h 9 15 (xi),.h 9 16 (xi),.h 9 17 (xi),.h 9 18 (xi),.h 9 19 (xi),.h 9 22 (xi),.h 9 23 (xi),.h 9 24 (xi)] [] [(1000000,8)] [] []])]],λ(t,u,v,w,x,y,z,A,E,F,a,b,d,e,f,g,h,i,j,k,l,m,n,o,p,q,r,_,s)=>zfc N t u v w x y z A E F a b d e f g h i j k l m n o p q r s⟩
def AO:eP 116 (AK N):=og (g:=116) N (.c (yB N)<|.nil) (.c (i_ N)<|.c (kN N)<|.c (nI N)<|.c (qW N)<|.c (th N)<|.c (rz N)<|.c (qL N)<|.c (rI N)<|.c (sO N)<|.c (q_ N)<|.c (zc2 N)<|.nil)
def tf:dq:=⟨n9,[.mk [.ag [.k g8,.pt 0 0 27],.v ci] [] [] [] [] [(393224,[eQ [.p (.k g8),.v ci] 0,w7])],.mk [.ag [.pt 6 0 3,.pt 0 0 27],.p (.k g6)] [] [.cells [xi,xl 2,.hd 7],.row 17] [] [] []],λ(s,t,u,v,w,x,y,z,A,E,a,b,d,e,f,g,h,i,j,k,l,m,n,o,p,q,r,_)=>zfz N s t u v w x y z A E a b d e f g h i j k l m n o p q r⟩
def sP:eP 175 (tf N):=og (g:=175) N .nil (.c (i_ N)<|.nil)
def kY:dq:=⟨.mk [.ag [.pt 0 0 3,.pt 1 0 27],.v (.st 5)] [] [.cells [xi,xl 2,.hd 2],gA 3 4 5,.row 17,.cells [xi,.hd 6],.cells [xl 0,.mr 7],.row 1,.row 5,.mp 7 Γ] [] [] [],[.mk [.v (.st 23),.v cb] [.h 0 2 (.hd 2),.w 2 17] [] [] [] [(393231,[eQ [.v (.st 21),.v cb] 0]),(4063271,[.mk p7 [.h 0 2 (.hd 2),.w 2 17] [] o7 [] []])]],λ(q,_,_,_,r,s,t,u,v,w,a,b,d,e,f,g,h,i,j,k,l,m,n,o,p,_)=>zbq N q r s t u v w a b d e f g h i j k l m n o p⟩
def kH:eP 176 (kY N):=og (g:=176) N .nil (.c (zcF N)<|.c (zb3 N)<|.nil)
def oK:dq:=⟨.mk [.p (.pt 0 0 3)] [] s5 [] [] [],[f9 [.v ci]],λ(_,a,_)=>zdZ N a⟩
def oW:eP 171 (oK N):=og (g:=171) N .nil .nil
def uJ:dq:=⟨n9,[.mk w5 k9 [] [(53,21),(70,21)] [(250,⟨[.r 23 ci,.h 0 26 hi,.h 2 0 (hl 0),.w 3 1,.w 4 5,.m 5 7 Γ,.w 8 17,.w 11 21,.w 12 21],[],[(1058817,21),(1058816,21)],[(0,25,3),(1,1,4),(7,2,8),(10,0,12),(10,1,11)]⟩),(2003,⟨[.h 0 26 hi,.h 2 0 (hl 0),.w 3 1,.w 4 5,.m 5 7 Γ,.w 8 17,.w 11 21,.w 12 21],[],[],[(0,25,3),(1,1,4),(7,2,8),(10,0,12),(10,1,11)]⟩),(10995116277884,⟨[],[],[(14,0)],[]⟩)] [(393229,[eQ [.ag [.k g8,.pt 0 0 27],.v ci] 0,.mk [.ag [.pt 7 0 3,.pt 0 0 27],.p (.k g6)] [] [.cells [xi,xl 2,.hd 8],.row 17] [] [] []]),(8126485,[eQ [.v (.c (.sl 5))] 1]),(4200857630,[eQ [.v cb] 2]),(4200988707,[.mk [.v (.st 23),.v cb] [.h 7 2 (.hd 8),.w 8 17] [] [(1000000,3)] [] []]),(67217260591,[eQ [.v ci] 4]),(268869435456,[.mk p7 [.h 2 0 (xl 0),.m 5 7 Γ,.h 0 25 (.hd 3),.h 0 26 (xi),.h 1 1 (.hd 4),.w 3 1,.w 4 5] [] [(1000000,5)] [] []])]],λ(t,u,v,w,x,y,z,A,E,F,a,b,d,e,f,g,h,i,j,k,l,m,n,o,p,q,r,_,s)=>zdb N t u v w x y z A E F a b d e f g h i j k l m n o p q r s⟩
def uw:eP 117 (uJ N):=og (g:=117) N .nil (.c (sP N)<|.c (kN N)<|.c (nI N)<|.c (kH N)<|.c (oW N)<|.c (zb5 N)<|.nil)
def zE:dq:=⟨n9,[.mk w5 k9 [] [] [] [(917512,[eQ [.v (.st 10)] 0]),(917514,[f9 [.ag [.k (.c (.fn (.func 116) [] []))]],f9 [.ag [.k (.c (.fn (.func 117) [] []))]]]),(917517,[.mk w5 k9 [] o7 [] []]),(142653246714526242616246285,[.mk w5 k9 [] [(1000000,2)] [] []])]],λ(t,u,v,w,x,y,z,A,E,F,a,b,d,e,f,g,h,i,j,k,l,m,n,o,p,q,r,_,s)=>gq N t u v w x y z A E F a b d e f g h i j k l m n o p q r s⟩
def Ah:eP 31 (zE N):=og (g:=31) N .nil (.c (za1 N)<|.c (AO N)<|.c (uw N)<|.nil)
def zp:dq:=⟨f9 [.v ci],[.mk p8 [] [.row 1] [(5,1)] [] []],λa=>lJ N a⟩
def zK:eP 46 (zp N):=og (g:=46) N (.c (zbJ N)<|.nil) .nil
def Jg:bK:=⟨[.st 5],[ci],λa=>sn N a.1⟩
def IC:eJ 178 (Jg N):=tg [] [(6,j7 [.r 11 cb])] [] N (.c (zen N)<|.c (zez N)<|.nil) .nil
def Cn:bK:=⟨[.c (.sl 5),ci],[.c (.sl 1)],λa=>kh N a.1 a.2.1⟩
def C_:eJ 118 (Cn N):=tg [] [(58,⟨[.r 12 ci,.w 0 1],[(5,0)],[],[]⟩),(467,⟨[.w 0 1],[(5,0)],[],[]⟩)] [(393225,[.mk p8 [] [.row 1] o6 [] []])] N (.c (IC N)<|.nil) (.c (zK N)<|.nil)
def IQ:bK:=⟨[.c (.sl 1),.c (.sl 1),ci],[.c (.sl 1)],λa=>rU N a.1 a.2.1 a.2.2.1⟩
def ID:eJ 120 (IQ N):=tg [(14,1)] [(122,⟨[.r 17 ci,.w 0 1],[(7,0)],[],[]⟩),(31335,j7 [.r 9 ci])] [] N (.c (zbJ N)<|.nil) .nil
def GD:bK:=⟨[.c (.sl 1)],[cb],λa=>kR N a.1⟩
def wE:eJ 145 (GD N):=tg [] [(26,j7 [.r 7 ci])] [] N .nil .nil
def Gs:bK:=⟨[.c (.sl 8),ci],[.c (.sl 8)],λa=>py N a.1 a.2.1⟩
def Ht:eJ 179 (Gs N):=tg [(20,8)] [(58,⟨[.r 10 ci,.w 0 8],[(5,0)],[(5,8)],[]⟩),(467,⟨[.w 0 8],[(5,0)],[],[]⟩)] [] N .nil .nil
end Go.Abs
end
end
section
set_option maxRecDepth 100000
noncomputable section
namespace Go.Abs
open Go.Proofs
variable[Gl](N:Ε)
def oQ:dq:=⟨.mk [.p (.pt 0 0 27),.v (.c (.sl 1))] [] k8 [] [] [],[.mk p7 [.h 0 20 (xi),.h 0 23 (xl 8),.h 0 24 (xl 1)] [] [] [(30,j7 [.r 24 cb])] []],λ(_,_,_,e,_,_,_,f,_,_,_,_,_,_,_,_,_,_,_,_,_,_,a,_,_,b,d,_)=>zdX N e f a b d⟩
def oZ:eP 119 (oQ N):=og (g:=119) N (.c (zco N)<|.c (Ht N)<|.c (wE N)<|.nil) .nil
def mX:dq:=⟨o8,[.mk p7 [.h 0 20 (xi),.h 0 23 (xl 8),.h 0 24 (xl 1)] [] [] [] [(393223,[eQ [.v (.st 14)] 0]),(1966103,[.mk p7 [.h 0 20 (xi),.h 0 23 (xl 8),.h 0 24 (xl 1)] [] o7 [] []])]],λ(j,k,l,_,_,_,m,_,_,_,_,a,_,_,_,_,_,_,_,_,_,_,_,_,b,_,_,_,_,_,_,_,_,_,_,_,_,_,_,d,e,f,g,h,i,_)=>zcE N j k l m a b d e f g h i⟩
def nF:eP 70 (mX N):=og (g:=70) N (.c (C_ N)<|.c (ID N)<|.nil) (.c (zaw N)<|.c (oZ N)<|.nil)
def Ss:bK:=⟨[.st 0,.st 0],[.st 0,ci],λa=>Fa N a.1 a.2.1⟩
def Uo:eJ 222 (Ss N):=tg [] [(6,j7 [.r 15 cb])] [(917522,[eQ [.ag [.cx,.cx]] 0]),(917524,[eQ [.ag [.cx,.cx]] 0]),(1966112,[eQ [.v (.st 0),.v ci] 1])] N (.c (Zo N)<|.nil) (.c (gC N)<|.c (zfr N)<|.nil)
def kZ:dq:=⟨.mk [.p (.pt 0 0 2),.v (.st 7),.p (.k (.c (.fn (.func 222) [] [])))] [] sT [] [] [],[t6],λ(_,a,b)=>zb8 N a b⟩
def kK:eP 98 (kZ N):=og (g:=98) N (.c (mB N)<|.c (Uo N)<|.nil) (.c (zcH N)<|.nil)
def mc:dq:=⟨.mk [.p (.pt 0 0 2),.v ci] [] sT [] [] [],[.mk p7 [.h 0 0 (xl 0),.m 1 7 Γ] [] [] [] [(4063257,[eQ [.v (.c (.sl 0)),.v ci] 0])]],λ(a,b,d)=>zdC N a b d⟩
def lU:eP 182 (mc N):=og (g:=182) N .nil (.c (kK N)<|.nil)
def oO:dq:=⟨.mk [.p (.pt 0 0 27),.v ci,.v ci,.v cb] [] k8 [] [] [],[.mk p7 [.h 0 25 (.hd 3),.h 1 1 (.hd 4),.w 3 1,.w 4 5,.h 0 26 (xi),.h 2 0 (xl 0),.m 5 7 Γ] [] [] [(511,j7 [.h 0 26 hi,.h 2 0 (hl 0),.m 5 7 Γ]),(1022,j7 [.r 58 cb])] [(917526,[eQ [.v (.st 5),.v cb] 0]),(66846766,[.mk p7 [.h 1 1 (.hd 4),.w 4 5,.h 0 25 (.hd 3),.w 3 1] [] o7 [] []]),(536084544,[.mk p7 [.h 2 0 (xl 0),.m 5 7 Γ] [] [(1000000,2)] [] []])]],λ(e,f,g,h,i,j,_,_,_,_,_,_,_,_,_,_,_,_,_,_,_,_,_,_,a,_,_,_,_,b,_,d)=>za2 N e f g h i j a b d⟩
def zfa:eP 121 (oO N):=og (g:=121) N (.c (DH N)<|.c (nC N)<|.c (zez N)<|.nil) (.c (zcm N)<|.c (zex N)<|.c (lU N)<|.nil)
def oS:dq:=⟨o8,[.mk p7 k9 [] [] [(58,⟨[.r 12 ci,.h 0 26 hi,.h 2 0 (hl 0),.w 3 1,.w 4 5,.m 5 7 Γ],[],[],[(0,25,3),(1,1,4)]⟩),(467,⟨[.h 0 26 hi,.h 2 0 (hl 0),.w 3 1,.w 4 5,.m 5 7 Γ],[],[],[(0,25,3),(1,1,4)]⟩),(29899,j7 [.r 29 cb])] [(393224,[eQ [.v (.st 14)] 0]),(1959395356,[.mk p7 [.h 0 25 (.hd 3),.h 1 1 (.hd 4),.w 3 1,.w 4 5,.h 0 26 (xi),.h 2 0 (xl 0),.m 5 7 Γ] [] o7 [] []]),(7837974578,[.mk p7 [.h 0 25 (.hd 3),.h 1 1 (.hd 4),.w 3 1,.w 4 5,.h 0 26 (xi),.h 2 0 (xl 0),.m 5 7 Γ] [] o7 [] []])]],λ(i,j,k,_,_,_,_,_,_,_,_,_,_,_,_,_,_,_,_,_,_,_,_,_,_,_,_,_,_,_,_,_,_,_,_,_,_,_,_,a,b,d,e,f,g,_,h)=>zcX N i j k a b d e f g h⟩
def oV:eP 71 (oS N):=og (g:=71) N .nil (.c (zaw N)<|.c (zfa N)<|.nil)
def Lv:bK:=⟨[.st 5,.c (.sl 5)],[cb],λa=>xu N a.1 a.2.1⟩
def KR:eJ 123 (Lv N):=tg [] [(26,j7 [.r 12 ci]),(3379,j7 [.r 34 cb])] [] N (.c (Be N)<|.c (zdf N)<|.c (D_ N)<|.nil) .nil
def ow:dq:=⟨o8,[.mk p7 k9 [] [] [(58,⟨[.r 3 (.c (.sl 5)),.r 12 ci,.h 0 26 hi,.h 2 0 (hl 0),.w 3 1,.w 4 5,.m 5 7 Γ],[],[],[(0,25,3),(1,1,4)]⟩),(467,⟨[.r 3 (.c (.sl 5)),.h 0 26 hi,.h 2 0 (hl 0),.w 3 1,.w 4 5,.m 5 7 Γ],[],[],[(0,25,3),(1,1,4)]⟩),(7475,j7 [.r 26 cb])] [(393224,[eQ [.v (.st 14)] 0]),(3919314975,[.mk p7 [.h 0 25 (.hd 3),.h 1 1 (.hd 4),.w 3 1,.w 4 5,.h 0 26 (xi),.h 2 0 (xl 0),.m 5 7 Γ] [] o7 [] []]),(3919380514,[eQ [.v (.st 14)] 0])]],λ(i,j,k,_,_,_,_,_,_,_,_,_,_,_,_,_,_,_,_,_,_,_,_,_,_,_,_,_,_,_,_,_,_,_,_,_,_,_,_,a,b,d,e,f,g,_,h)=>zcG N i j k a b d e f g h⟩
def nV:eP 72 (ow N):=og (g:=72) N (.c (pY N)<|.c (KR N)<|.nil) (.c (zaw N)<|.c (zfa N)<|.nil)
def Eg:bK:=⟨[ci,.c (.sl 5)],[cb],λa=>mC N a.1 a.2.1⟩
def Ek:eJ 185 (Eg N):=tg [] [(26,j7 [.r 11 ci]),(211,j7 []),(13518,j7 [.r 21 ci])] [] N (.c (zdf N)<|.nil) .nil
def ze2:dq:=⟨.mk [.p (.hd 0),.v ci,.v ci] [] w8 [] [] [],[.mk y8 [.w 0 5] w8 [] [] []],λx=>zbP N x.1 x.2.1 x.2.2⟩
def ze9:eP 223 (ze2 N):=Xb (ii:=5) (sz:=152) (ti:=3) (tb:=4) (z:=[g6,g6,g6,g6,g6,g6,g6,g6,g6,iD,g6,.c (.lit (.bool Θ)),.c (.lit (.bool Θ)),g6,g6,g6,g6,g6]) (fn:=Tryz.f223) dy (by kernel_rfl) (by kernel_rfl) (by kernel_rfl) (by kernel_rfl) rfl rfl rfl (λi j=>by kernel_rfl)
def oY:dq:=⟨w6,[.mk [.p (.k (.c (.lit (.int .i64 30))))] [.h 0 1 (.hd 1),.w 1 5] [] [] [] [(917516,[eQ [.v ci,.v cb] 0]),(4063257,[.mk [.p (.hd 2)] [.w 1 5] w8 o7 [] []])],.mk [.p (.k g6)] [.h 0 1 (.hd 2),.w 1 5] w8 [] [] []],λ(a,b,_)=>zd0 N a b⟩
def oP:eP 186 (oY N):=og (g:=186) N .nil (.c (zch N)<|.c (ze9 N)<|.nil)
def oU:dq:=⟨s7,[.mk p7 [.h 1 1 (.hd 4),.w 4 5] [] [] [(62,j7 [.r 32 cb])] [(917519,[eQ [.v (.st 5),.v cb] 0]),(8126494,[eQ [.v (.c (.sl 5))] 1]),(8257574,[.mk [.p (.k (.c (.lit (.int .i64 30))))] [.h 1 1 (.hd 4),.w 4 5] [] [(1000000,2)] [] [],.mk [.p (.k g6)] [.h 1 1 (.hd 7),.w 4 5] w8 [] [] []])],.mk [.p (.k g6)] [.h 1 1 (.hd 6),.w 4 5] w8 [] [] []],λ(_,a,_,b,_)=>zcW N a b⟩
def oT:eP 125 (oU N):=og (g:=125) N (.c (zdf N)<|.c (Ek N)<|.nil) (.c (zcm N)<|.c (zfC N)<|.c (oP N)<|.nil)
def lu:dq:=⟨o8,[.mk p7 [.h 1 1 (.hd 6),.w 4 5] w8 [] [(58,⟨[.r 12 ci,.w 8 5],[],[],[(1,1,8)]⟩)] [(393224,[eQ [.v (.st 14)] 0]),(979763234,[.mk p7 [.h 1 1 (.hd 8),.w 8 5] [] o7 [] [],.mk [.p (.k g6)] [.h 1 1 (.hd 10),.w 8 5] w8 [] [] []])]],λ(i,j,k,_,_,_,_,_,_,_,_,_,_,_,_,_,a,_,_,_,_,_,_,_,_,_,_,_,_,_,_,_,_,_,_,_,_,_,_,b,d,e,f,g,h,_)=>zce N i j k a b d e f g h⟩
def lw:eP 73 (lu N):=og (g:=73) N (.c (zdf N)<|.nil) (.c (zaw N)<|.c (oT N)<|.nil)
def ya:dq:=⟨n9,[.mk p7 [.h 0 20 (xi),.h 0 23 (xl 8),.h 0 24 (xl 1),.h 0 25 (.hd 3),.h 0 26 (xi),.h 1 1 (.hd 4),.h 2 0 (xl 0),.w 3 1,.w 4 5,.m 5 7 Γ] [] [(21,1000001)] [(122,⟨[],[],[(1000003,40)],[]⟩)] [(917515,[eQ [.v (.st 10)] 0]),(1026687004,[.mk p7 [.h 0 20 (xi),.h 0 23 (xl 8),.h 0 24 (xl 1)] [] o7 [] []]),(87042659012253301605531676,[.mk p7 k9 [] [(1000000,2)] [] []]),(88251584831867930780237852,[.mk p7 k9 [] [(1000000,3)] [] []]),(89460510651482559954944028,[.mk p7 [.h 1 1 (.hd 8),.w 4 5] w8 [(1000000,4)] [] []])],.mk p7 [.h 0 20 (xi),.h 0 23 (xl 8),.h 0 24 (xl 1),.h 0 25 (.hd 3),.h 0 26 (xi),.h 1 1 (.hd 6),.h 2 0 (xl 0),.w 3 1,.w 4 5,.m 5 7 Γ] w8 [] [] []],λ(t,u,v,w,x,y,z,A,E,F,a,b,d,e,f,g,h,i,j,k,l,m,n,o,p,q,r,_,s)=>zfl N t u v w x y z A E F a b d e f g h i j k l m n o p q r s⟩
def yo:eP 32 (ya N):=og (g:=32) N .nil (.c (za1 N)<|.c (nF N)<|.c (oV N)<|.c (nV N)<|.c (lw N)<|.nil)
def tT:dq:=⟨s7,[.mk [.v ci,.v ci] [.h 0 20 (xi),.h 0 23 (xl 8),.h 0 24 (xl 1),.h 0 25 (.hd 3),.h 0 26 (xi),.h 1 1 (.hd 6),.h 2 0 (xl 0),.w 3 1,.w 4 5,.m 5 7 Γ] w8 [] [(122,⟨[.r 15 ci,.h 0 20 hi,.h 0 23 (hl 8),.h 0 24 (hl 1),.h 0 26 hi,.h 2 0 (hl 0),.w 3 1,.m 5 7 Γ,.w 6 5],[],[],[(0,25,3),(1,1,6)]⟩)] [(2053373972,[.mk w5 [.h 0 25 (.hd 3),.h 0 26 (xi),.h 1 1 (.hd 6),.h 2 0 (xl 0),.w 3 1,.w 6 5,.m 5 7 Γ] [] o6 [] []]),(2053505052,[.mk p7 [.h 0 20 (xi),.h 0 23 (xl 8),.h 0 24 (xl 1),.h 0 25 (.hd 3),.h 0 26 (xi),.h 1 1 (.hd 6),.h 2 0 (xl 0),.w 3 1,.w 6 5,.m 5 7 Γ] [] o7 [] [],.mk p7 [.h 0 20 (xi),.h 0 23 (xl 8),.h 0 24 (xl 1),.h 0 25 (.hd 3),.h 0 26 (xi),.h 1 1 (.hd 8),.h 2 0 (xl 0),.w 3 1,.w 6 5,.m 5 7 Γ] w8 [] [] []])]],λ(u,v,w,x,y,z,A,E,F,G,a,b,d,e,f,g,h,i,j,k,l,m,n,o,p,q,r,s,_,t)=>zda N u v w x y z A E F G a b d e f g h i j k l m n o p q r s t⟩
def jv:eP 11 (tT N):=og (g:=11) N (.c (zbJ N)<|.nil) (.c (Ah N)<|.c (yo N)<|.nil)
def vN:dq:=⟨.mk [.p (.pt 0 0 27),.v ci,.v ci] [] k8 [] [] [],[.mk [.v ci,.v cb] [] [] [] [(126,⟨[.r 11 ci,.h 7 20 hi,.h 7 23 (hl 8),.h 7 24 (hl 1),.h 7 26 hi,.h 9 0 (hl 0),.w 10 1,.m 12 7 Γ,.w 13 5],[],[],[(7,25,10),(8,1,13)]⟩)] [(1835029,[eQ [.v (.st 5),.v cb] 0]),(1966107,[.mk [.p (.pt 7 0 27)] [] [gA 8 9 10,.cells [xi,.hd 11],.cells [xl 0,.mr 12],.row 1,.row 5,.mp 7 Γ] o7 [] []]),(264241185,[eQ [.v (.st 5),.v cb] 0]),(528875570,[.mk [.v ci,.v ci] [.h 7 20 (xi),.h 7 23 (xl 8),.h 7 24 (xl 1),.h 7 25 (.hd 10),.h 7 26 (xi),.h 8 1 (.hd 15),.h 9 0 (xl 0),.w 10 1,.w 13 5,.m 12 7 Γ] w8 [(1000000,2)] [] []])]],λ(w,x,y,z,A,E,F,G,K,L,a,b,d,e,f,g,h,i,j,k,l,m,n,o,p,q,r,s,t,u,v)=>pO N w x y z A E F G K L a b d e f g h i j k l m n o p q r s t u v⟩
def vG:eP 10 (vN N):=og (g:=10) N (.c (Gn N)<|.nil) (.c (zfD N)<|.c (nr N)<|.c (jv N)<|.nil)
def Is:bK:=⟨[ci],[ci],λa=>zfA N a.1⟩
def If:eJ 38 (Is N):=tg [] [] [] N (.c (zbJ N)<|.nil) .nil
def Ls:bK:=⟨[.c (.sl 8)],[ci],λa=>xO N a.1⟩
def MY:eJ 39 (Ls N):=tg [] [(58,j7 [.r 3 ci,.r 8 ci])] [] N .nil .nil
def Ti:bK:=⟨[ci,ci,ci],[ci,ci],λa=>LS N a.1 a.2.1 a.2.2.1⟩
def Sx:eJ 79 (Ti N):=tg [] [] [] N .nil .nil
def Gq:bK:=⟨[.c (.sl 1)],[ci],λa=>pC N a.1⟩
def Hc:eJ 41 (Gq N):=tg [] [(58,j7 [.r 3 ci,.r 10 ci])] [] N (.c (Sx N)<|.nil) .nil
def Hd:bK:=⟨[.st 14],[ci],λa=>gZ N a.1⟩
def vk:eJ 14 (Hd N):=tg [(17,1),(40,1),(50,1)] [(122,⟨[.r 21 ci,.w 1 1],[(4,1)],[],[]⟩),(979,⟨[.w 1 1],[(4,1)],[],[]⟩)] [] N (.c (If N)<|.c (MY N)<|.c (zez N)<|.c (Hc N)<|.nil) .nil
def uK:bK:=⟨[],[cb],λa=>gK N⟩
def t_:eJ 5 (uK N):=tg [] [] [(393223,[eQ [.p (.k g8),.p (.k (.c (.lit (.int .i64 2))))] 0,z8]),(917517,[eQ [.v ci] 1]),(1966096,[eQ [.v ci,.v cb] 2]),(4063255,[eQ [.v (.st 14)] 5]),(7696582311949,[.mk p7 [.h 1 1 (.hd 4),.w 4 5,.h 0 21 (xi),.h 0 25 (.hd 3),.w 3 1] [] [(1000000,3)] [] []]),(7696583360528,[eQ [.v ci,.v cb] 4])] N (.c (tV N)<|.c (vk N)<|.nil) (.c (zq N)<|.c (qe N)<|.c (vq N)<|.c (qq N)<|.c (vG N)<|.c (zaw N)<|.nil)
def yE:bK:=⟨[.st 10],[cb],λa=>zfg N a.1⟩
def yt:eJ 18 (yE N):=tg [] [(58,j7 [.r 26 ci]),(122,j7 [.r 37 ci])] [] N .nil .nil
def yK:bK:=⟨[.c (.sl 5)],[cb],λa=>zfo N a.1⟩
def yu:eJ 19 (yK N):=tg [] [(58,j7 [.r 10 ci])] [] N .nil .nil
def yM:bK:=⟨[.st 10,.st 14],[cb],λa=>zc6 N a.1 a.2.1⟩
def yD:eJ 6 (yM N):=tg [] [(6,j7 [.r 40 cb]),(58,j7 [.r 44 ci])] [] N (.c (yt N)<|.c (yu N)<|.nil) .nil
def Ex:bK:=⟨[ci,ci,ci],[cb],λa=>zdJ N a.1 a.2.1 a.2.2.1⟩
def tw:eJ 138 (Ex N):=tg [] [] [] N .nil .nil
def CH:bK:=⟨[.st 10,.st 14],[cb],λa=>kf N a.1 a.2.1⟩
def CD:eJ 91 (CH N):=tg [] [] [] N (.c (tw N)<|.nil) .nil
def GP:bK:=⟨[ci],[ci],λa=>pu N a.1⟩
def FV:eJ 139 (GP N):=tg [] [] [] N (.c (zdf N)<|.nil) .nil
def Jd:bK:=⟨[.st 10,.st 14],[cb],λa=>sf N a.1 a.2.1⟩
def Ip:eJ 92 (Jd N):=tg [] [(122,j7 [.r 5 ci,.r 17 ci]),(62671,j7 [.r 72 cb])] [] N (.c (zen N)<|.c (FV N)<|.nil) .nil
def MZ:bK:=⟨[.st 10,ci,.st 0],[ci],λa=>Ce N a.1 a.2.1 a.2.2.1⟩
def ME:eJ 201 (MZ N):=tg [] [(122,j7 [.r 7 ci,.r 30 ci])] [] N (.c (zcd N)<|.c (AR N)<|.nil) .nil
def LX:bK:=⟨[.st 10,ci,ci,.st 0],[cb],λa=>jZ N a.1 a.2.1 a.2.2.1 a.2.2.2.1⟩
def LM:eJ 140 (LX N):=tg [] [] [] N (.c (zcd N)<|.c (ME N)<|.nil) .nil
def Er:bK:=⟨[.st 5,ci],[ci],λa=>iB N a.1 a.2.1⟩
def EA:eJ 203 (Er N):=tg [] [] [] N .nil .nil
end Go.Abs
end
end
