/- Lemmas. -/
import Derived.Test.YtpojbebipfffbaaGreatTyPure
import Derived.Test.YtpojbebipfffbaaGreatProg
import Derived.Test.YtpojbebipfffbaaGreatTyPrim
import Derived.KernelRfl
set_option linter.all false
open _root_ renaming List->Z,Nat->X,Bool.false->Ι,Bool.true->W
section
set_option maxRecDepth 100000
noncomputable section
namespace Go.Abs
open Go.Proofs
variable[Gl]
abbrev ci:dM:=.c (.int .i64)
abbrev cb:dM:=.c .bool
abbrev xi:CP:=.c (.int .i64)
abbrev xb:CP:=.c .bool
abbrev xl(n:X):CP:=.c (.sl n)
abbrev xn:CP:=.k (.c (.lit (.slice none 0 0)))
abbrev bZ:It:=.cc (.int .i64)
abbrev Uq:It:=.cc .bool
abbrev nY(n:X):It:=.cc (.sl n)
def dF:Tryz.prog.follows .mixedOrders=W:=by kernel_rfl
def KB:dG:=Ms 76 129 1 (λk=>k)
def KB_ok:dG.ok Tryz.prog KB:=VE Tryz.YC (λk=>rfl)
theorem tg{g:X}{S:vo}{s:bH}(H:Z (X×X))(J:Z (X×JH))(C:Z (X×Z CT))(N:X)(b:gH Tryz.prog S){O:SL}(d:wC Tryz.prog O)(h:∀a,tG Tryz.prog g S O KB H J C s.ins s.out N a=s.f a:=by intro _;kernel_rfl):bK Tryz.prog g s:=tG_ok dF b d KB_ok h
theorem og{g:X}{S:vo}{O:SL}{s:dv}(N:X)(a:gH Tryz.prog S)(b:wC Tryz.prog O)(d:ba Tryz.prog g=W:=by kernel_rfl)(h:∀x,oG Tryz.prog g S O KB N s x=s.f x:=by intro _;kernel_rfl):cT Tryz.prog g s:=oG_ok dF a b KB_ok d h
abbrev gH.c:=@gH.cons
abbrev wC.c:=@wC.cons
abbrev eE(g:X)(s:bH):=bK Tryz.prog g s
abbrev eJ(g:X)(s:dv):=cT Tryz.prog g s
abbrev iD(l:Z Pl):JH:=⟨l,[],[],[]⟩
abbrev gA:D:=.c (.lit (.int .i64 0))
abbrev g7:D:=.c (.lit (.pointer none))
abbrev g8:D:=.c (.lit (.slice none 0 0))
abbrev eP(l:Z RO)(n:X):CT:=.mk l [] [] [(1000000,n)] [] []
abbrev eQ(l:Z RO):CT:=.mk l [] [] [] [] []
abbrev f9(a b c:X):NB:=.cells [.pt a 0 2,.pt b 0 2,xl 0,xl 2,xl 3,xi,xi,xi,xi,xi,xi,xi,xi,xi,xi,xi,xi,xi,xi,xi,xi,xi,xi,xl 8,xl 1,.hd c,xi]
abbrev j7:Z NB:=[f9 1 2 3,.cells [xi,.hd 4],.cells [xl 0,.mr 5],.row 1,.row 5,.mp 7 W]
abbrev k8:Z PC:=[.h 0 25 (.hd 3),.h 0 26 (xi),.h 1 1 (.hd 4),.h 2 0 (xl 0),.w 3 1,.w 4 5,.m 5 7 W]
abbrev k9:CT:=.mk [] [.h 0 2 (xi),.h 0 3 (xi),.h 0 4 (xi),.h 0 5 (xi),.h 0 6 (xi),.h 0 7 (xi),.h 0 8 (xi),.h 0 9 (xi),.h 0 10 (xi),.h 0 11 (xl 4),.h 0 12 (xi),.h 0 13 (xb),.h 0 14 (xb),.h 0 15 (xi),.h 0 16 (xi),.h 0 17 (xi),.h 0 18 (xi),.h 0 19 (xi),.h 0 22 (xi),.h 0 23 (xi),.h 0 24 (xi)] [] [] [] [(393223,[eP [.v cb] 0])]
abbrev l3:CT:=.mk [] [.h 1 25 (.hd 5),.h 1 26 (xi),.h 3 1 (.hd 6),.h 4 0 (xl 0),.w 5 1,.w 6 5,.m 7 7 W,.h 0 1 (.fp 18),.h 0 20 (.hd 2),.w 2 21] [] [(74,21)] [(15,iD []),(14293651161214,⟨[],[],[],[(5,1058818,17),(0,1048577,18)]⟩)] [(393229,[.mk [.p (.pt 10 0 3)] [] [.cells [xi,xl 2,.hd 11],.row 17] [(1000000,0)] [] []]),(1835031,[.mk [.v ci] [.h 10 2 (.hd 11),.w 11 17] [] [(1000000,1)] [] []]),(3932186,[eP [.v cb] 2]),(8126525,[.mk [.v ci] [.h 4 0 (xl 0),.m 7 7 W,.h 1 25 (.hd 5),.h 1 26 (xi),.h 3 1 (.hd 6),.w 5 1,.w 6 5] [] [(1000000,4)] [] []]),(15990821,[eP [.v (.st 21),.v cb] 3])]
abbrev m6:CT:=.mk [] [] [] [(1000002,0)] [] []
abbrev m7:Z NB:=[.cells [.pt 1 0 27,.fp 18,xi,xi,xi,xi,xi,xi,xi,xi,xi,xl 4,xi,xb,xb,xi,xi,xi,xi,xi,.hd 2,xn,xi,xi,xi],f9 3 4 5,.row 21,.cells [xi,.hd 6],.cells [xl 0,.mr 7],.row 1,.row 5,.mp 7 W]
abbrev m8:Z NB:=[.cells [.pt 1 0 27,.fp 18,xi,xi,xi,xi,xi,xi,xi,xi,xi,xn,xi,xb,xb,xi,xi,xi,xi,xi,.hd 2,xn,xi,xi,xi],f9 3 4 5,.row 21,.cells [xi,.hd 6],.cells [xl 0,.mr 7],.row 1,.row 5,.mp 7 W]
abbrev m9:Z NB:=[.cells [.pt 1 0 27,.fp 18,xi,xi,xi,xi,xi,xi,xi,xi,xi,xn,xi,xb,xb,xi,xi,xi,xi,xi,xn,xn,xi,xi,xi],f9 2 3 4,.cells [xi,.hd 5],.cells [xl 0,.mr 6],.row 1,.row 5,.mp 7 W]
abbrev n9:Z (X×X):=[(1000000,0)]
abbrev o6:CT:=.mk [.p (.pt 0 0 27)] [] j7 [] [] []
abbrev o7:Z (X×X):=[(1000000,1)]
abbrev o8:CT:=.mk [.ag [.pt 0 0 27,xl 0,xl 2,xl 3,xi,xi,xi,xi,xi,xi,xi,xi,xi,xi,xi,xi,xi,xi,xi]] [] j7 [] [] []
abbrev o9:Z RO:=[.p (.k (.c (.lit (.pointer none)))),.p (.k (.c (.lit (.int .i64 2))))]
abbrev p7:Z RO:=[.v ci]
abbrev p8:Z RO:=[.p (.hd 0)]
abbrev p9:CT:=.mk [.p (.hd 0),.v ci,.p (.hd 1)] [] [.row 16,.row 16] [] [] []
abbrev q8:CT:=.mk [] [.w 1 1] [] [] [(6,⟨[.r 8 ci,.w 1 1],[(0,1)],[],[]⟩),(402,⟨[.r 9 ci,.w 1 1],[(0,1)],[],[]⟩),(1608,iD [.r 34 cb])] [(210763808,[.mk p7 [] [] [(9,1),(13,1)] [] []])]
abbrev sT:Z NB:=[.cells [xl 0,.mr 1],.mp 7 W]
abbrev s5:Z NB:=[.cells [xi,xl 2,.hd 1],.row 17]
abbrev s6:Z NB:=[.cells [.pt 1 0 2,.pt 2 0 2,xl 0,xl 2,xl 3,xi,xi,xi,xi,xi,xi,xi,xi,xi,xi,xi,xi,xi,xi,xi,xi,xi,xi,xl 8,xl 1,.hd 3,xi],.cells [xi,.hd 4],.cells [xl 0,.mr 5],.row 1,.row 5,.mp 7 W]
abbrev s7:CT:=.mk [.p (.pt 0 0 27),.v ci] [] j7 [] [] []
abbrev s8:Z NB:=[.cells [xi,.hd 1],.row 5]
abbrev s9:CT:=.mk [] [.w 0 1] [] [] [(6,⟨[.r 10 ci,.w 0 1],[(0,0)],[],[]⟩)] []
abbrev t6:CT:=.mk [.v (.c (.sl 0)),.v ci] [] [] [] [(58,⟨[.r 21 ci,.w 3 0],[(8,3)],[],[]⟩)] [(393233,[.mk [.p (.hd 3)] [] [.row 0] n9 [] []])]
abbrev t7:CT:=.mk [.p (.pt 2 0 2),.p (.k (.c (.lit (.int .i64 0))))] [] [.cells [xl 0,.mr 3],.mp 7 W] [] [] []
abbrev t8:CT:=.mk [] [.w 3 1,.h 0 25 (.hd 3)] [] o7 [] []
abbrev w5:Z RO:=[.v (.st 22),.v ci]
abbrev w6:Z NB:=[.row 5]
abbrev w7:CT:=.mk [.p (.pt 0 0 2),.v ci] [] s8 [] [] []
abbrev w8:CT:=.mk [.p (.pt 7 0 3),.p (.k gA)] [] [.cells [xi,xl 2,.hd 8],.row 17] [] [] []
abbrev x9:Z RO:=[.p (.pt 0 0 25),.v (.st 5),.v (.st 21)]
abbrev y7:Z RO:=[.p (.pt 0 0 25),.v (.st 5),.v ci]
abbrev y8:Z RO:=[.p (.hd 1)]
abbrev y9:Z RO:=[.v (.c (.sl 5))]
abbrev z7:CT:=.mk [] [.w 0 1] [] n9 [] []
abbrev z8:Z RO:=[.p (.pt 0 0 3),.v ci,.v ci,.v (.c (.sl 6)),.v (.st 0)]
abbrev zA0:CT:=.mk [.p (.pt 0 0 27),.p (.k gA)] [] j7 [] [] []
abbrev zA1:CT:=.mk [.p (.pt 0 0 2),.v (.st 5)] [] s8 [] [] []
abbrev zA2:Z RO:=[.p (.pt 0 0 27),.p (.k (.c (.lit (.int .i64 0))))]
abbrev zA3:Z RO:=[.p (.pt 2 0 27),.p (.k (.c (.lit (.int .i64 0))))]
abbrev zA4:CT:=.mk [.v (.st 10),.v (.st 14)] [] [] [] [] []
abbrev zA5:Z RO:=[.p (.k g7),.p (.k (.c (.lit (.int .i64 2))))]
abbrev zA6:Z RO:=[.p (.k (.c (.lit (.pointer none)))),.v ci]
abbrev zA7:Z RO:=[.p (.k (.c (.lit (.pointer none)))),.v cb]
abbrev zA8:Z RO:=[.p (.pt 0 0 2)]
end Go.Abs
end
end
section
set_option maxRecDepth 100000
noncomputable section
namespace Go.Abs
open Go.Proofs
variable[Gl](N:X)
def vp:bH:=⟨[],[.st 10],λa=>gR N⟩
def vE:eE 16 (vp N):=clo_ok (P:=Tryz.prog) (g:=16) (out:=[.st 10]) (λa=>gR N) dF (by kernel_rfl)
def Hi:bH:=⟨[.st 0],[.st 11],λa=>iq N a.1⟩
def wA:eE 132 (Hi N):=tg [] [] [] N .nil .nil
def NM:bH:=⟨[.st 0],[cb],λa=>ON N a.1⟩
def zbZ:eE 85 (NM N):=tg [] [(26,iD [.r 7 ci])] [] N (.c (wA N)<|.nil) .nil
def AD:bH:=⟨[.st 10],[cb],λa=>gL N a.1⟩
def AV:eE 191 (AD N):=tg [] [(58,iD [.r 18 ci])] [] N (.c (zbZ N)<|.nil) .nil
def BT:bH:=⟨[.c (.sl 1),ci],[cb],λa=>zfn N a.1 a.2.1⟩
def pU:eE 235 (BT N):=tg [] [(58,iD [.r 5 ci,.r 10 ci])] [] N .nil .nil
def AZ:bH:=⟨[.st 10],[cb],λa=>gI N a.1⟩
def AK:eE 193 (AZ N):=tg [] [(58,iD [.r 18 ci]),(3737,iD [.r 32 cb])] [] N (.c (pU N)<|.nil) .nil
def za:bH:=⟨[.st 10],[cb],λa=>zfJ N a.1⟩
def yZ:eE 196 (za N):=tg [] [(58,iD [.r 20 ci]),(7474,iD [.r 42 cb]),(59802,iD [.r 50 ci])] [] N (.c (pU N)<|.nil) .nil
def wI:bH:=⟨[.st 12],[cb],λa=>ze1 N a.1⟩
def wo:eE 198 (wI N):=tg [] [(26,iD [.r 14 ci])] [] N .nil .nil
def Mu:bH:=⟨[.st 10],[.c .str],λa=>DF N a.1⟩
def ND:eE 80 (Mu N):=tg [] [(26,⟨[],[],[(1000003,40)],[]⟩)] [(786438,[.mk [] [] [] [(1000002,0),(43,1000001)] [] [(393225,[m6]),(393232,[m6]),(393237,[m6]),(393240,[m6]),(393243,[m6]),(393246,[m6]),(393249,[m6]),(393252,[m6]),(393255,[m6]),(393258,[m6])]]),(221380622,[eQ [.v cb]])] N (.c (AV N)<|.c (AK N)<|.c (yZ N)<|.c (wo N)<|.nil) .nil
def Jp:bH:=⟨[.st 10],[cb],λa=>Tk N a.1⟩
def zcl:eE 42 (Jp N):=tg [] [] [] N (.c (ND N)<|.nil) .nil
def Bs:dv:=⟨eQ [.v ci],[eQ [.p (.k g7),.p (.k (.c (.lit (.int .i64 2))))],.mk [.p (.pt 0 0 2),.p (.k gA)] [] [.cells [xi,xn]] [] [] []],λa=>zeM N a⟩
def oN:eJ 43 (Bs N):=og (g:=43) N .nil .nil
def jh:bH:=⟨[.c (.sl 0)],[.c (.sl 0)],λa=>zaN N a.1⟩
def zb3:eE 81 (jh N):=xD (i:=0) (sz:=32) (z:=[gA,gA,gA,gA]) (fn:=Tryz.f81) dF (by kernel_rfl) (by kernel_rfl) (by kernel_rfl) rfl
def zl:dv:=⟨eQ [.v (.st 10)],[.mk zA5 [] [] [(10,15)] [] [],.mk [.p (.pt 0 0 2),.p (.k gA)] [] sT [] [] []],λa=>zdj N a⟩
def zfU:eJ 44 (zl N):=og (g:=44) N (.c (zcl N)<|.c (zb3 N)<|.nil) .nil
def kz:dv:=⟨eQ [.v (.c (.sl 2))],[.mk p8 [] [.row 2] [] [] []],λx=>zc5 N x⟩
def ky:eJ 82 (kz N):=ki (i:=2) (sz:=24) (z:=[g8]) (fn:=Tryz.f82) dF (by kernel_rfl) (by kernel_rfl) (by kernel_rfl) rfl
def qS:bH:=⟨[.c (.sl 1)],[.c (.sl 1)],λa=>zaZ N a.1⟩
def zcv:eE 36 (qS N):=xD (i:=1) (sz:=8) (z:=[gA]) (fn:=Tryz.f36) dF (by kernel_rfl) (by kernel_rfl) (by kernel_rfl) rfl
def zeE:dv:=⟨eQ [.v (.c (.sl 3))],[.mk p8 [] [.row 3] [] [] []],λx=>zby N x⟩
def zeB:eJ 83 (zeE N):=ki (i:=3) (sz:=64) (z:=[gA,g8,gA,gA,gA,gA]) (fn:=Tryz.f83) dF (by kernel_rfl) (by kernel_rfl) (by kernel_rfl) rfl
def Cn:bH:=⟨[.st 10],[.st 10],λa=>zdF N a.1⟩
def iP:eE 45 (Cn N):=tg [] [(122,⟨[.r 16 ci,.w 2 2],[],[],[(0,1,2)]⟩),(506,⟨[.r 37 ci,.w 3 3],[],[],[(0,2,3)]⟩)] [(917515,[.mk [.p (.hd 2)] [] [.row 2] n9 [] []]),(4063264,[.mk [.p (.hd 3)] [] [.row 3] o7 [] []])] N (.c (zb3 N)<|.c (zcv N)<|.nil) (.c (ky N)<|.c (zeB N)<|.nil)
def FK:bH:=⟨[ci,ci,ci],[ci],λa=>Gf N a.1 a.2.1 a.2.2.1⟩
def zbU:eE 30 (FK N):=tg [] [] [] N .nil .nil
def MH:bH:=⟨[ci],[.c (.sl 1)],λa=>rz N a.1⟩
def BM:eE 46 (MH N):=tg [(5,1)] [] [] N (.c (zbU N)<|.nil) .nil
def Bi:dv:=⟨eQ [.v (.st 10)],[.mk zA5 [] [] [(37,1)] [(3298534883343,⟨[],[],[(1049601,5)],[]⟩)] [(917517,[eP [.p (.k g7),.p (.k (.c (.lit (.int .i64 2))))] 0,.mk [.p (.pt 1 0 2),.p (.k gA)] [] [.cells [xi,xn]] [] [] []]),(4063253,[eP [.p (.k g7),.p (.k (.c (.lit (.int .i64 2))))] 1,.mk [.p (.pt 3 0 2),.p (.k gA)] [] [.cells [xl 0,.mr 4],.mp 7 W] [] [] []])],zA0],λa=>ur N a⟩
def Al:eJ 15 (Bi N):=og (g:=15) N (.c (zcl N)<|.c (iP N)<|.c (BM N)<|.nil) (.c (oN N)<|.c (zfU N)<|.nil)
def qR:dv:=⟨eQ [.p (.k g7),.v (.st 5)],[eQ [.v ci]],λx=>jL N⟩
def qy:eJ 17 (qR N):=og (g:=17) N .nil .nil
def wx:dv:=⟨eQ [.p (.k g7),.v ci,.v ci],[eQ [.v ci,.v cb]],λx=>pK N⟩
def xJ:eJ 10 (wx N):=og (g:=10) N .nil .nil
def J_:bH:=⟨[ci,ci,ci],[cb],λa=>SK N a.1 a.2.1 a.2.2.1⟩
def qJ:eE 84 (J_ N):=tg [] [] [] N .nil .nil
def Ck:bH:=⟨[.st 5],[cb],λa=>i_ N a.1⟩
def BC:eE 86 (Ck N):=tg [] [(58,iD [.r 12 ci])] [] N (.c (qJ N)<|.nil) .nil
def MU:bH:=⟨[ci],[.c .str],λa=>yy N a.1⟩
def Md:eE 133 (MU N):=tg [] [] [] N .nil .nil
def Jv:bH:=⟨[ci],[cb],λa=>gT N a.1⟩
def qO:eE 122 (Jv N):=tg [] [] [] N .nil .nil
def OL:bH:=⟨[ci],[cb],λa=>SI N a.1⟩
def zdq:eE 124 (OL N):=tg [] [] [] N .nil .nil
def Cu:bH:=⟨[.st 5],[cb],λa=>iY N a.1⟩
def Cb:eE 87 (Cu N):=tg [] [(51,iD [.r 8 cb]),(207,iD [.r 17 cb])] [] N (.c (Md N)<|.c (zdq N)<|.c (qO N)<|.nil) .nil
def OK:bH:=⟨[.st 5],[cb],λa=>zeO N a.1⟩
def zeT:eE 47 (OK N):=tg [] [] [] N (.c (qJ N)<|.c (zbZ N)<|.c (BC N)<|.c (Cb N)<|.nil) .nil
def jc:bH:=⟨[.c (.sl 4)],[.c (.sl 4)],λa=>zaA N a.1⟩
def zb2:eE 126 (jc N):=xD (i:=4) (sz:=16) (z:=[gA,.c (.lit (.bool Ι))]) (fn:=Tryz.f126) dF (by kernel_rfl) (by kernel_rfl) (by kernel_rfl) rfl
def Ml:bH:=⟨[.st 5],[.st 5],λa=>kr N a.1⟩
def my:eE 75 (Ml N):=tg [] [] [] N (.c (zb2 N)<|.nil) .nil
def pB:dv:=⟨w7,[.mk [.v ci,.v cb] [] [] [] [] [(393229,[.mk p7 [] [] [] [(28,iD [.r 5 ci,.r 6 ci])] [(59375636,[eQ [.v cb]])]])]],λ(a,b,_)=>zaF N a b⟩
def zck:eJ 88 (pB N):=og (g:=88) N .nil .nil
def zeY:dv:=⟨.mk [.p (.hd 0),.v ci,.p (.hd 1)] [] [.row 5,.row 5] [] [] [],[.mk p8 [.w 0 5] [] [] [] []],λ(a,b,d)=>zbD N a b d⟩
def zeZ:eJ 89 (zeY N):=og (g:=89) N .nil .nil
def qu:dv:=⟨zA1,[.mk p7 [.h 0 1 (.hd 1),.w 1 5] [] [(38,5)] [] [(1966096,[eP [.v ci,.v cb] 0]),(16646183,[.mk y8 [.w 1 5] [] o7 [] []])]],λ(a,b,d)=>zco N a b d⟩
def zfX:eJ 48 (qu N):=og (g:=48) N (.c (zeT N)<|.c (my N)<|.nil) (.c (zck N)<|.c (zeZ N)<|.nil)
def GF:bH:=⟨[ci],[ci],λa=>im N a.1⟩
def nA:eE 90 (GF N):=tg [] [] [] N .nil .nil
def od:dv:=⟨s7,[.mk [] [.w 3 1,.h 0 25 (.hd 3)] [] [] [] []],λ(a,_,_,b,_)=>zbu N a b⟩
def zff:eJ 49 (od N):=og (g:=49) N (.c (nA N)<|.nil) .nil
def qC:dv:=⟨.mk [.p (.pt 0 0 27),.v (.st 5)] [] j7 [] [] [],[.mk p7 [.h 1 1 (.hd 4),.w 4 5,.h 0 21 (xi),.h 0 25 (.hd 3),.w 3 1] [] [] [] [(8126509,[.mk p7 [.h 1 1 (.hd 4),.w 4 5] [] n9 [] []]),(16646203,[t8])]],λ(e,f,_,g,_,_,_,_,_,_,_,_,_,_,_,a,_,_,_,_,_,_,_,b,_,_,_,_,d,_)=>jN N e f g a b d⟩
def qX:eJ 17 (qC N):=og (g:=17) N (.c (zeT N)<|.nil) (.c (zfX N)<|.c (zff N)<|.nil)
def qE:dv:=⟨w7,[.mk [.v (.st 5),.v cb] [] [] [] [] [(917518,[eP [.v ci,.v cb] 0])]],λ(a,b,_)=>zaX N a b⟩
def zcu:eJ 65 (qE N):=og (g:=65) N (.c (my N)<|.nil) (.c (zck N)<|.nil)
def qW:dv:=⟨s7,[.mk [.v (.st 5),.v cb] [] [] [] [] [(917518,[eP [.v (.st 5),.v cb] 0])]],λ(_,a,_,b,_)=>za1 N a b⟩
def zfY:eJ 27 (qW N):=og (g:=27) N .nil (.c (zcu N)<|.nil)
def zfV:dv:=⟨.mk p8 [] w6 [] [] [],[.mk y8 [] w6 [] [] []],λx=>za7 N x⟩
def zc1:eJ 74 (zfV N):=QE (ii:=5) (sz:=152) (z:=[gA,gA,gA,gA,gA,gA,gA,gA,gA,g8,gA,.c (.lit (.bool Ι)),.c (.lit (.bool Ι)),gA,gA,gA,gA,gA]) (fn:=Tryz.f74) dF (by kernel_rfl) (by kernel_rfl) (by kernel_rfl) rfl
def nq:dv:=⟨.mk zA8 [] s8 [] [] [],[.mk [.p (.pt 2 0 2)] [] [.cells [xi,.hd 3],.row 5] [] [] [(917517,[.mk [.p (.hd 2)] [] w6 n9 [] []])]],λ(a,b)=>zd2 N a b⟩
def ol:eJ 66 (nq N):=og (g:=66) N .nil (.c (zc1 N)<|.nil)
def zdA:dv:=⟨.mk [.p (.mr 0)] [] [.mp 7 W] [] [] [],[.mk [.p (.mr 1)] [] [.mp 7 W] [] [] []],λx=>zbE N x⟩
def zdp:eJ 115 (zdA N):=Zi Tryz.clonesM 7 W
def lN:dv:=⟨.mk zA8 [] sT [] [] [],[.mk [.p (.pt 2 0 2)] [] [.cells [xl 0,.mr 3],.mp 7 W] [] [] [(917518,[.mk [.p (.mr 2)] [] [.mp 7 W] n9 [] []])]],λ(a,b)=>zdE N a b⟩
def lR:eJ 67 (lN N):=og (g:=67) N (.c (zb3 N)<|.nil) (.c (zdp N)<|.nil)
def zdW:dv:=⟨eQ [.v (.c (.sl 8))],[.mk p8 [] [.row 8] [] [] []],λx=>zaD N x⟩
def zbI:eJ 35 (zdW N):=ki (i:=8) (sz:=32) (z:=[gA,gA,gA,gA]) (fn:=Tryz.f35) dF (by kernel_rfl) (by kernel_rfl) (by kernel_rfl) rfl
def lV:dv:=⟨eQ [.v (.c (.sl 1))],[.mk p8 [] [.row 1] [] [] []],λx=>za5 N x⟩
def zev:eJ 36 (lV N):=ki (i:=1) (sz:=8) (z:=[gA]) (fn:=Tryz.f36) dF (by kernel_rfl) (by kernel_rfl) (by kernel_rfl) rfl
def mD:dv:=⟨.mk p8 [] [.row 1] [] [] [],[.mk y8 [] [.row 1] [] [] []],λx=>zbq N x⟩
def zeW:eJ 36 (mD N):=QE (ii:=1) (sz:=8) (z:=[gA]) (fn:=Tryz.f36) dF (by kernel_rfl) (by kernel_rfl) (by kernel_rfl) rfl
def nQ:dv:=⟨o6,[.mk [.p (.pt 6 0 27)] [] [f9 7 8 9,.cells [xi,.hd 10],.cells [xl 0,.mr 11],.row 1,.row 5,.mp 7 W] [] [] [(1966093,[.mk [.p (.pt 7 0 2)] [] [.cells [xi,.hd 8],.row 5] n9 [] []]),(4063251,[.mk [.p (.pt 9 0 2)] [] [.cells [xl 0,.mr 10],.mp 7 W] o7 [] []]),(8257561,[.mk [.p (.hd 11)] [] [.row 8] [(1000000,2)] [] []]),(16646175,[.mk [.p (.hd 12)] [] [.row 1] [(1000000,3)] [] []]),(33423398,[.mk [.p (.hd 13)] [] [.row 1] [(1000000,4)] [] []])]],λ(u,v,w,x,y,z,A,E,F,G,a,b,d,e,f,g,h,i,j,k,l,m,n,o,p,q,r,s,t)=>zcK N u v w x y z A E F G a b d e f g h i j k l m n o p q r s t⟩
def oC:eJ 28 (nQ N):=og (g:=28) N .nil (.c (ol N)<|.c (lR N)<|.c (zbI N)<|.c (zev N)<|.c (zeW N)<|.nil)
def Gz:bH:=⟨[ci],[ci],λa=>pH N a.1⟩
def Gu:eE 29 (Gz N):=tg [] [] [] N (.c (zbU N)<|.nil) .nil
def py:dv:=⟨o6,[eQ [.v (.st 10)]],λ(_,_,_,m,n,o,p,q,r,s,a,b,d,e,f,g,h,i,j,k,l,_)=>zaM N m n o p q r s a b d e f g h i j k l⟩
def za6:eJ 69 (py N):=og (g:=69) N (.c (iP N)<|.nil) .nil
def qF:dv:=⟨.mk zA8 [] s8 [] [] [],[.mk y9 [] [] [] [(122,⟨[.r 15 ci,.w 2 5],[(3,2),(13,2)],[],[]⟩)] [(917516,[.mk [.p (.hd 2)] [] w6 n9 [] []])]],λ(a,_)=>zcp N a⟩
def zfZ:eJ 33 (qF N):=og (g:=33) N (.c (my N)<|.nil) (.c (zc1 N)<|.nil)
def zfu:bH:=⟨[.c (.sl 6)],[.c (.sl 6)],λa=>zbK N a.1⟩
def zfw:eE 130 (zfu N):=xD (i:=6) (sz:=16) (z:=[gA,gA]) (fn:=Tryz.f130) dF (by kernel_rfl) (by kernel_rfl) (by kernel_rfl) rfl
end Go.Abs
end
end
section
set_option maxRecDepth 100000
noncomputable section
namespace Go.Abs
open Go.Proofs
variable[Gl](N:X)
def Ju:bH:=⟨[.st 7],[.st 7],λa=>j_ N a.1⟩
def zV:eE 78 (Ju N):=tg [] [] [] N (.c (zfw N)<|.nil) .nil
def nz:dv:=⟨.mk zA8 [] sT [] [] [],[.mk [.v (.c (.sl 7))] [] [] [(27,7)] [(122,⟨[.r 15 ci,.w 3 7],[(3,3)],[(3,7)],[]⟩)] [(3932172,[m6]),(3932173,[eP [.v (.c (.sl 1))] 999999])]],λ(a,_)=>bq N a⟩
def nL:eJ 34 (nz N):=og (g:=34) N (.c (zV N)<|.nil) .nil
def zeG:bH:=⟨[.c (.sl 8)],[.c (.sl 8)],λa=>za9 N a.1⟩
def zeD:eE 35 (zeG N):=xD (i:=8) (sz:=32) (z:=[gA,gA,gA,gA]) (fn:=Tryz.f35) dF (by kernel_rfl) (by kernel_rfl) (by kernel_rfl) rfl
def nV:dv:=⟨o6,[.mk [.v (.st 14)] [] [] [] [] [(917526,[eP [.v (.c (.sl 5))] 0]),(917531,[eP [.v (.c (.sl 7))] 1]),(917547,[.mk [.p (.hd 7)] [] [.row 1] [(1000000,2)] [] []])]],λ(h,i,j,_,_,_,_,_,_,_,_,_,_,_,_,_,_,_,_,_,_,a,b,d,e,f,g,_)=>JZ N h i j a b d e f g⟩
def zax:eJ 12 (nV N):=og (g:=12) N (.c (zeD N)<|.c (zcv N)<|.nil) (.c (zfZ N)<|.c (nL N)<|.c (zeW N)<|.nil)
def Sb:bH:=⟨[ci],[cb],λa=>Pn N a.1⟩
def zeN:eE 40 (Sb N):=tg [] [] [] N .nil .nil
def NN:bH:=⟨[.st 5],[ci],λa=>yD N a.1⟩
def Oi:eE 212 (NN N):=tg [] [(6,iD [.r 11 cb])] [] N (.c (zeT N)<|.c (zeN N)<|.nil) .nil
def JD:bH:=⟨[.st 8,ci],[cb],λa=>tq N a.1 a.2.1⟩
def JQ:eE 206 (JD N):=tg [] [] [] N .nil .nil
def Jl:bH:=⟨[.c (.sl 8),ci,ci,ci],[cb],λa=>gP N a.1 a.2.1 a.2.2.1 a.2.2.2.1⟩
def zS:eE 144 (Jl N):=tg [] [(26,iD [.r 13 ci])] [] N .nil .nil
def JI:bH:=⟨[.c (.sl 8),ci],[cb],λa=>oI N a.1 a.2.1⟩
def Aa:eE 143 (JI N):=tg [] [(58,iD [.r 12 ci]),(3737,iD [.r 47 cb])] [] N (.c (JQ N)<|.c (zS N)<|.nil) .nil
def Hc:bH:=⟨[.c (.sl 6),ci],[cb],λa=>zfT N a.1 a.2.1⟩
def jd:eE 97 (Hc N):=tg [] [(58,iD [.r 5 ci,.r 10 ci])] [] N .nil .nil
def CL:bH:=⟨[.c (.sl 15),ci,ci],[cb],λa=>jt N a.1 a.2.1 a.2.2.1⟩
def CJ:eE 240 (CL N):=tg [] [(26,iD [.r 11 ci]),(1689,iD [.r 36 cb])] [] N (.c (jd N)<|.c (zbZ N)<|.nil) .nil
def HQ:bH:=⟨[.c (.sl 16)],[cb],λa=>zeR N a.1⟩
def js:eE 260 (HQ N):=tg [] [(58,iD [.r 3 ci,.r 8 ci]),(7474,iD [.r 26 cb])] [] N (.c (zbZ N)<|.nil) .nil
def Me:bH:=⟨[ci,.st 0],[.c (.sl 16),ci],λa=>yt N a.1 a.2.1⟩
def On:eE 241 (Me N):=tg [(10,16)] [] [] N (.c (js N)<|.nil) .nil
def Bu:dv:=⟨eQ [.v (.st 0)],[eQ [.ag [.cx,.cx]]],λa=>zbM N a⟩
def g_:eJ 147 (Bu N):=og (g:=147) N .nil .nil
def Dh:dv:=⟨eQ [.ag [.cx,.cx]],[eQ [.v (.st 0)]],λ(a,b)=>nN N a b⟩
def CW:eJ 207 (Dh N):=og (g:=207) N .nil .nil
def yO:dv:=⟨eQ [.ag [.cx,.cx]],[.mk [.v (.st 0),.v ci] [] [] [] [] [(393222,[eP [.v (.st 0)] 0])]],λ(a,b)=>zdi N a b⟩
def zfS:eJ 148 (yO N):=og (g:=148) N (.c (zbZ N)<|.nil) (.c (CW N)<|.nil)
def Nv:bH:=⟨[.st 0,ci],[.st 0,ci],λa=>ng N a.1 a.2.1⟩
def mH:eE 146 (Nv N):=tg [] [] [(4063256,[eP [.ag [.cx,.cx]] 0]),(8257573,[eP [.v (.st 0),.v ci] 1])] N (.c (zbZ N)<|.nil) (.c (g_ N)<|.c (zfS N)<|.nil)
def Jy:bH:=⟨[.c (.sl 16),ci],[ci],λa=>gU N a.1 a.2.1⟩
def zdC:eE 274 (Jy N):=tg [] [] [(393224,[.mk p7 [] [] [] [(28,iD [.r 5 ci,.r 6 ci])] [(59375636,[eQ [.v cb]])]])] N .nil .nil
def ze7:dv:=⟨eQ [.v (.c (.sl 16))],[.mk p8 [] [.row 16] [] [] []],λx=>zbg N x⟩
def zcx:eJ 282 (ze7 N):=ki (i:=16) (sz:=40) (z:=[gA,gA,gA,gA,gA]) (fn:=Tryz.f282) dF (by kernel_rfl) (by kernel_rfl) (by kernel_rfl) rfl
def zcd:dv:=⟨p9,[.mk p8 [.w 0 16] [] [] [] []],λ(a,b,d)=>zaL N a b d⟩
def zei:eJ 283 (zcd N):=og (g:=283) N .nil .nil
def zeX:dv:=⟨p9,[.mk p8 [.w 0 16] [] [] [] []],λx=>zbe N x.1 x.2.1 x.2.2⟩
def insR_283:Go.Shelf.Ren:=⟨λ|22=>283|29=>289|30=>290|n=>n,λ|24=>287|9=>307|3=>3|4=>4|0=>0|n=>n,λn=>n⟩
def QT:Rs Tryz.prog insR_283 5 40 "slices.Insert[[]drayage/api.Step,drayage/api.Step]" (.agg #[.int .i64 0,.int .i64 0,.int .i64 0,.int .i64 0,.int .i64 0]):={ mixed:=dF,f22:=Tryz.func283.trans (congrArg some (by kernel_rfl)),ov:=λargs w=>Go.run_callFunc_extern Tryz.func289 (by kernel_rfl) (by kernel_rfl) (by kernel_rfl) (by kernel_rfl) args w,t0:=Tryz.underlying0,t3:=Tryz.underlying3,t4:=Tryz.underlying4,a3:=Tryz.isAgg3,z3:=Tryz.sizeOf3,a4:=Tryz.isAgg4,z4:=Tryz.sizeOf4,z9:=Tryz.sizeOf307,v9:=Tryz.zeroValue307,t24:=Tryz.underlying287,a24:=Tryz.isAgg287,z24:=Tryz.sizeOf287,v24:=Tryz.zeroValue287,i9:=by kernel_rfl }
def zeV:eJ 283 (zeX N):=cT.or (f1:=(zcd N).f) (f2:=λx=>QX (α:=TT 16) x.1 x.2.1 x.2.2) (zei N) (LD (ii:=16) QT (by kernel_rfl) (by kernel_rfl) (by kernel_rfl) (by kernel_rfl) (by kernel_rfl))
def Mg:bH:=⟨[.c (.sl 16),ci],[.c (.sl 16)],λa=>rJ N a.1 a.2.1⟩
def mP:eE 273 (Mg N):=tg [(30,16)] [] [(917515,[.mk p8 [] [.row 16] n9 [] []]),(4063263,[.mk p8 [.w 0 16] [] o7 [] []])] N (.c (zdC N)<|.nil) (.c (zcx N)<|.c (zeV N)<|.nil)
def zbY:dv:=⟨p9,[.mk p8 [.w 0 16] [] [] [] []],λ(a,b,d)=>zaL N a b d⟩
def zec:eJ 283 (zbY N):=og (g:=283) N .nil .nil
def zeH:dv:=⟨p9,[.mk p8 [.w 0 16] [] [] [] []],λx=>zcF N x.1 x.2.1 x.2.2⟩
def zeF:eJ 283 (zeH N):=cT.or (f1:=(zbY N).f) (f2:=λx=>QX (α:=TT 16) x.1 x.2.1 x.2.2) (zec N) (LD (ii:=16) QT (by kernel_rfl) (by kernel_rfl) (by kernel_rfl) (by kernel_rfl) (by kernel_rfl))
def AR:dv:=⟨eQ [.v (.c (.sl 16)),.v ci],[.mk p8 [] [.row 16] [(30,16)] [] [(917515,[.mk p8 [] [.row 16] n9 [] []]),(4063263,[.mk p8 [.w 0 16] [] o7 [] []])]],λ(a,b)=>lS N a b⟩
def Av:eJ 273 (AR N):=og (g:=273) N (.c (zdC N)<|.nil) (.c (zcx N)<|.c (zeF N)<|.nil)
def Ux:bH:=⟨[.st 0,.st 0],[.st 0,ci],λa=>BH N a.1 a.2.1⟩
def Io:eE 99 (Ux N):=tg [] [(6,iD [.r 15 cb])] [(917522,[eP [.ag [.cx,.cx]] 0]),(917524,[eP [.ag [.cx,.cx]] 0]),(1966112,[eP [.v (.st 0),.v ci] 1])] N (.c (zbZ N)<|.nil) (.c (g_ N)<|.c (zfS N)<|.nil)
def II:bH:=⟨[.c (.sl 16)],[.c (.sl 16)],λa=>qd N a.1⟩
def IC:eE 275 (II N):=tg [(13,16),(36,16)] [(122,⟨[.r 17 ci,.w 0 16],[(3,0)],[],[]⟩),(979,⟨[.w 0 16],[(3,0)],[],[]⟩)] [] N (.c (js N)<|.nil) .nil
def qV:bH:=⟨[.c (.sl 16),ci,ci,.st 0,.k 99],[.c (.sl 16),ci],λa=>zeS N a.1 a.2.1 a.2.2.1 a.2.2.2.1⟩
def qp:eE 261 (qV N):=tg [] [(6,iD [.r 40 cb]),(62,⟨[],[],[(12,16)],[]⟩),(122,⟨[.r 13 ci,.w 1 16],[(12,1)],[],[]⟩)] [(917549,[.mk y8 [] [.row 16] n9 [] []])] N (.c (mP N)<|.c (zdC N)<|.c (Io N)<|.c (IC N)<|.c (js N)<|.c (zbZ N)<|.nil) (.c (Av N)<|.nil)
def Jj:bH:=⟨[.c (.sl 16),ci,ci,.st 0],[.c (.sl 16),ci],λa=>oH N a.1 a.2.1 a.2.2.1 a.2.2.2.1⟩
def qN:eE 243 (Jj N):=tg [] [] [] N (.c (qp N)<|.nil) .nil
def oE:dv:=⟨.mk z8 [] [.cells [xi,.hd 1,.hd 2],.row 2,.row 17] [] [] [],[.mk p7 [.h 0 2 (.hd 2),.w 2 17] [] [(20,17)] [(58,⟨[.r 23 ci,.w 4 17],[(11,4)],[],[]⟩),(122,⟨[.r 62 ci,.w 2 17],[],[],[(0,2,2)]⟩)] []],λ(_,a,b,d,e,f,_)=>zbw N a b d e f⟩
def oa:eJ 242 (oE N):=og (g:=242) N (.c (mH N)<|.c (qN N)<|.nil) .nil
def Dc:dv:=⟨.mk [.v (.st 10),.v ci,.p (.hd 0),.v (.c (.sl 8))] [] [.row 15] [] [] [],[.mk [.p (.k g7),.v ci] [] [] [(69,2),(96,17)] [(6,iD [.r 51 cb]),(122,⟨[.r 58 ci,.w 3 2],[],[(1050625,2)],[(2,1,3)]⟩),(250,⟨[.r 77 ci,.w 4 17],[],[(1050626,17)],[(2,2,4)]⟩),(506,⟨[.r 103 ci,.w 4 17],[],[],[(2,2,4)]⟩),(1018,⟨[.r 122 ci,.w 4 17],[],[],[(2,2,4)]⟩),(8147,⟨[.w 4 17],[],[],[(2,2,4)]⟩)] [(4247912563,[.mk p7 [.h 2 2 (.hd 4),.w 4 17] [] n9 [] []])],.mk [.p (.pt 1 0 3),.p (.k gA)] [] [.cells [xi,xl 2,.hd 2],.row 17] [] [] []],λ(a,b,d,e)=>zfy N a b d e⟩
def C_:eJ 213 (Dc N):=og (g:=213) N (.c (zcv N)<|.c (On N)<|.c (qN N)<|.c (zcl N)<|.c (Aa N)<|.c (CJ N)<|.nil) (.c (oa N)<|.nil)
def tM:dv:=⟨o6,[.mk [.p (.k g7),.v ci] [] [] [(17,15),(40,15)] [(250,⟨[.r 21 ci,.w 7 15],[(5,7)],[],[]⟩)] [(917517,[eP [.v (.st 14)] 0]),(8257580,[eP [.v (.st 10)] 2]),(8257586,[eP [.p (.k g7),.v ci] 3,.mk [.p (.pt 8 0 3),.p (.k gA)] [] [.cells [xi,xl 2,.hd 9],.row 17] [] [] []]),(2100428829,[eP [.v (.st 5),.v cb] 1])],.mk [.p (.pt 6 0 3),.p (.k gA)] [] [.cells [xi,xl 2,.hd 7],.row 17] [] [] []],λ(s,t,u,v,w,x,y,z,A,E,a,b,d,e,f,g,h,i,j,k,l,m,n,o,p,q,r,_)=>zcX N s t u v w x y z A E a b d e f g h i j k l m n o p q r⟩
def iZ:eJ 167 (tM N):=og (g:=167) N (.c (Oi N)<|.nil) (.c (zax N)<|.c (zfY N)<|.c (za6 N)<|.c (C_ N)<|.nil)
def Oz:bH:=⟨[ci,.c (.sl 5)],[.st 5,cb],λa=>kf N a.1 a.2.1⟩
def CH:eE 183 (Oz N):=tg [] [(26,iD [.r 9 ci])] [] N .nil .nil
def Qt:bH:=⟨[.st 4,.st 5],[cb],λa=>xA N a.1 a.2.1⟩
def EN:eE 184 (Qt N):=tg [] [] [] N (.c (zdq N)<|.nil) .nil
def QY:bH:=⟨[.st 5,.c (.sl 5)],[cb],λa=>oM N a.1 a.2.1⟩
def Qd:eE 245 (QY N):=tg [] [(26,iD [.r 12 ci]),(3379,iD [.r 30 cb])] [] N (.c (CH N)<|.c (EN N)<|.nil) .nil
def Em:bH:=⟨[.c (.sl 5)],[.c (.sl 5)],λa=>gz N a.1⟩
def su:ItSp Tryz.prog 244 (Em N):=able_ok (i:=5) (gm:=245) (so:=10) (ti:=3) (tb:=4) (z:=[gA,gA,gA,gA,gA,gA,gA,gA,gA,g8,gA,.c (.lit (.bool Ι)),.c (.lit (.bool Ι)),gA,gA,gA,gA,gA]) (fn:=Tryz.f244) (st:=λ(a:aE)=>a.State) (met:=λ(a:aE)(l:Z aE)=>oM N a l) dF (by kernel_rfl) (by kernel_rfl) (Qd N) rfl (λa=>by kernel_rfl) (λx y=>by kernel_rfl) (λx=>by kernel_rfl) (λx=>by kernel_rfl) (λx=>by kernel_rfl)
def Fw:bH:=⟨[ci],[ci],λa=>zdZ N a.1⟩
def FB:eE 285 (Fw N):=tg [] [] [] N (.c (zbU N)<|.nil) .nil
def Qu:bH:=⟨[ci,ci],[ci],λa=>sf N a.1 a.2.1⟩
def SA:eE 286 (Qu N):=tg [] [] [] N .nil .nil
def Kb:bH:=⟨[.st 10,.st 5,ci,.c (.sl 1)],[.st 11],λa=>nF N a.1 a.2.1 a.2.2.1 a.2.2.2.1⟩
def Jm:eE 276 (Kb N):=tg [] [(15,iD [.r 9 ci]),(31,iD [.r 10 ci])] [] N (.c (zcl N)<|.c (SA N)<|.c (zbU N)<|.c (FB N)<|.nil) .nil
def VF:bH:=⟨[.st 10,.st 5,ci,.c (.sl 1)],[ci],λa=>qe N a.1 a.2.1 a.2.2.1 a.2.2.2.1⟩
def Tu:eE 262 (VF N):=tg [] [] [] N (.c (Jm N)<|.nil) .nil
def Sm:bH:=⟨[.st 10,.st 5,.st 19],[.st 20],λa=>kV N a.1 a.2.1 a.2.2.1⟩
def R_:eE 246 (Sm N):=tg [] [] [] N (.c (Tu N)<|.nil) .nil
def Dy:bH:=⟨[ci],[cb],λa=>cmp_isNaN_int N a.1⟩
def Dr:eE 259 (Dy N):=tg [] [] [] N .nil .nil
def Bl:bH:=⟨[ci,ci],[ci],λa=>gO N a.1 a.2.1⟩
def Ba:eE 278 (Bl N):=tg [] [] [] N (.c (Dr N)<|.nil) .nil
def oA:bH:=⟨[.c (.sl 1),.c (.sl 1)],[ci],λa=>zaJ N a.1 a.2.1⟩
def zfg:eE 265 (oA N):=tg [] [(26,iD [.r 11 ci])] [] N (.c (Ba N)<|.nil) .nil
def zfP:dv:=⟨.mk [.p (.hd 0),.v ci,.v ci,.v ci,.p (.fb 264 1 1)] [] [.row 1,.cells [xl 20]] [] [] [],[.mk [] [.w 0 1] [] [] [(63,iD [.r 20 ci,.r 21 ci]),(172,iD [.r 10 ci,.r 11 ci]),(428,iD [.r 14 ci,.r 15 ci]),(698,⟨[.r 13 ci,.w 0 1],[(0,0)],[],[]⟩),(1020,iD [.r 20 ci,.r 21 ci]),(1023,⟨[.w 0 1],[(0,0)],[],[]⟩),(1722,⟨[.r 17 ci,.w 0 1],[(0,0)],[],[]⟩),(2047,⟨[.w 0 1],[(0,0)],[],[]⟩),(8186,⟨[],[(0,0)],[],[]⟩),(16378,⟨[],[(0,0)],[],[]⟩)] [(361365553,[.mk p7 [] [] [(9,1),(13,1)] [] []]),(536477887,[.mk [] [.w 0 1] [] [] [(28,⟨[.r 10 ci,.r 11 ci,.w 0 1],[(0,0)],[],[]⟩),(1812,⟨[],[(0,0)],[],[]⟩),(1814,⟨[],[(0,0)],[],[]⟩)] [(983097,[s9]),(118751263,[s9]),(118882350,[s9])]]),(898236517,[.mk p7 [] [] [(9,1),(13,1)] [] []]),(1073348813,[z7]),(1073610971,[z7]),(2139750569,[.mk p7 [] [] [(9,1),(13,1)] [] []])]],λ(a,b,d,e,f)=>zbs N a b d e f⟩
theorem zcT:∀N:X,eJ 288 (zfP N)|0=>⟨by kernel_rfl,λx y a b d z e f h=>by cases h⟩|N+1=>og (g:=288) N (.c (zfg N)<|.nil) (.c (zcT N)<|.nil)
def zk:bH:=⟨[.c (.sl 20)],[.c (.sl 1)],λa=>zfH N a.1⟩
def zn:eE 247 (zk N):=tg [(7,1)] [(30,⟨[],[(3,0)],[],[]⟩),(58,⟨[.r 10 ci,.w 1 1],[(3,1)],[],[]⟩)] [(1966100,[.mk [] [.w 1 1] [] [] [] [(65544,[.mk [] [.w 1 1] [] [] [(28,⟨[.r 7 ci,.r 8 ci,.w 1 1],[(0,1)],[],[]⟩),(30,⟨[],[(0,0)],[],[]⟩),(62,⟨[.r 6 ci,.w 1 1],[(0,1)],[],[]⟩),(452,⟨[],[(0,0)],[],[]⟩),(1995,⟨[.w 1 1],[(0,1)],[],[]⟩),(3988,⟨[.r 7 ci,.r 8 ci,.w 1 1],[(0,1)],[],[]⟩),(31926,⟨[],[(0,0)],[],[]⟩),(63812,⟨[],[(0,0)],[],[]⟩)] [(1966107,[q8]),(29622290,[q8]),(2092302396,[.mk [] [.w 1 1] [] n9 [] []]),(4181983275,[.mk [] [.w 1 1] [] n9 [] []])]])]])] N (.c (zfg N)<|.nil) (.c (zcT N)<|.nil)
end Go.Abs
end
end
section
set_option maxRecDepth 100000
noncomputable section
namespace Go.Abs
open Go.Proofs
variable[Gl](N:X)
def zq:dv:=⟨.mk [.v (.st 10),.p (.hd 0),.v (.st 19)] [] w6 [] [] [],[.mk y9 [] [] [(19,20),(37,5),(55,5)] [(122,⟨[.r 22 ci,.w 3 20],[(7,3)],[],[]⟩),(252,⟨[],[],[(7,20)],[]⟩),(506,⟨[.r 41 ci,.w 4 5],[(10,4)],[],[]⟩)] []],λ(a,b,d)=>zcB N a b d⟩
def zt:eJ 215 (zq N):=og (g:=215) N (.c (zcl N)<|.c (R_ N)<|.c (zn N)<|.c (zb2 N)<|.nil) .nil
def xh:dv:=⟨o6,[.mk y9 [] [] [(16,5)] [(250,⟨[.w 9 5],[],[(1055744,5)],[(7,0,9)]⟩)] [(917513,[eP [.v (.st 14)] 0]),(8126476,[m6]),(8257555,[eP [.v (.st 10)] 1]),(8257562,[eP [.v (.c (.sl 5))] 2])]],λ(s,t,u,v,w,x,y,z,A,E,a,b,d,e,f,g,h,i,j,k,l,m,n,o,p,q,r,_)=>zbl N s t u v w x y z A E a b d e f g h i j k l m n o p q r⟩
def lu:eJ 168 (xh N):=og (g:=168) N (.it (su N)<|.nil) (.c (zax N)<|.c (za6 N)<|.c (zt N)<|.nil)
def IE:bH:=⟨[.st 10,ci],[cb],λa=>pL N a.1 a.2.1⟩
def HW:eE 248 (IE N):=tg [] [] [] N (.c (zcl N)<|.nil) .nil
def Fi:bH:=⟨[.c (.sl 5),ci],[ci],λa=>mg N a.1 a.2.1⟩
def Fv:eE 249 (Fi N):=tg [] [] [(393223,[.mk p7 [] [] [] [(58,iD [.r 5 ci,.r 10 ci]),(467,iD [.r 5 ci])] [(489816080,[eQ [.v cb]])]])] N (.c (zeN N)<|.nil) .nil
def Rl:bH:=⟨[.c (.sl 5),ci,ci],[ci],λa=>BO N a.1 a.2.1 a.2.2.1⟩
def Sp:eE 250 (Rl N):=tg [] [] [(393225,[.mk p7 [] [] [] [(58,iD [.r 5 ci,.r 10 ci]),(467,iD [.r 5 ci])] [(489816080,[eQ [.v cb]])]])] N (.c (zeN N)<|.nil) .nil
def MO:bH:=⟨[.st 10,.c (.sl 5),.st 5],[cb],λa=>fM N a.1 a.2.1 a.2.2.1⟩
def Nb:eE 216 (MO N):=tg [] [] [] N (.c (HW N)<|.c (Fv N)<|.c (Sp N)<|.nil) .nil
def An:dv:=⟨s7,[.mk [.v cb] [] [] [] [(122,iD [])] [(917514,[eP [.v (.st 14)] 0]),(3932173,[m6]),(257163284,[eP [.v (.st 10)] 1])]],λ(t,u,v,w,x,y,z,A,E,F,a,b,d,e,f,g,h,i,j,k,l,m,n,o,p,q,r,s,_)=>zeQ N t u v w x y z A E F a b d e f g h i j k l m n o p q r s⟩
def oj:eJ 169 (An N):=og (g:=169) N (.it (su N)<|.c (Nb N)<|.nil) (.c (zax N)<|.c (za6 N)<|.nil)
def ot:dv:=⟨.mk p8 [] [.row 1] [] [] [],[.mk [] [.w 0 1] [] [] [] []],λx=>zcO N x⟩
def zfe:eJ 128 (ot N):=sort_oo (ii:=1) Tryz.sortsI (d:=λk=>k) (c:=λk=>k) (λa=>rfl) (λk=>rfl) (by kernel_rfl)
def lc:dv:=⟨.mk p8 [] [.row 1] [] [] [],[.mk y8 [.w 0 1] [.row 1] [] [] []],λx=>zb6 N x⟩
def zea:eJ 269 (lc N):=US (ii:=1) Tryz.Zk (d:=λk=>k) (c:=λk=>k) (λa=>rfl) (λk=>rfl) (by kernel_rfl)
def vq:bH:=⟨[.fp 18,ci],[.c (.sl 1)],λa=>Au N a.1 a.2.1⟩
def uJ:eE 251 (vq N):=tg [(52,1)] [(62,⟨[],[(5,0)],[],[]⟩),(122,⟨[.r 33 ci,.w 0 1],[(5,0)],[(5,1)],[]⟩),(31334,⟨[.r 45 ci,.w 0 1],[(5,0)],[],[]⟩)] [(4063289,[z7]),(8257595,[.mk y8 [.w 0 1] [.row 1] o7 [] []])] N .nil (.c (zfe N)<|.c (zea N)<|.nil)
def MY:bH:=⟨[.st 0,.st 0],[.st 0],λa=>DR N a.1 a.2.1⟩
def Nl:eE 279 (MY N):=tg [] [] [] N .nil .nil
def IN:bH:=⟨[.c (.sl 16),ci,ci],[.st 0],λa=>pN N a.1 a.2.1 a.2.2.1⟩
def vO:eE 270 (IN N):=tg [] [(6,iD [.r 26 cb]),(31,iD [.h 1 0 bZ,.h 1 1 bZ,.h 1 2 bZ,.h 1 3 bZ]),(250,iD [.r 41 ci,.h 1 0 bZ,.h 1 1 bZ,.h 1 2 bZ,.h 1 3 bZ])] [] N (.c (zdC N)<|.c (Nl N)<|.c (js N)<|.nil) .nil
def OC:bH:=⟨[.st 0,.st 0],[ci],λa=>kl N a.1 a.2.1⟩
def Cr:eE 238 (OC N):=tg [] [(6,iD [.r 21 cb]),(250,iD [.r 5 ci,.r 26 ci]),(2003,iD [.r 5 ci])] [] N (.c (wA N)<|.c (zbZ N)<|.nil) .nil
def MD:bH:=⟨[.c (.sl 0),ci,.st 0],[ci],λa=>rS N a.1 a.2.1 a.2.2.1⟩
def By:eE 281 (MD N):=tg [] [] [] N (.c (Cr N)<|.nil) .nil
def JT:bH:=⟨[.c (.sl 0),.c (.sl 1),.st 0],[ci],λa=>tN N a.1 a.2.1 a.2.2.1⟩
def Jo:eE 280 (JT N):=tg [] [(58,iD [.r 7 ci,.r 12 ci])] [] N (.c (By N)<|.nil) .nil
def vZ:dv:=⟨.mk [.p (.hd 0),.v (.c (.sl 1)),.v ci,.v (.st 0)] [] [.row 0] [] [] [],[.mk [.v (.c (.sl 6)),.v cb] [] [] [(48,6)] [(12,iD [.r 24 cb]),(111,⟨[.w 2 6],[(10,2)],[(10,6)],[]⟩),(890,⟨[.r 11 ci,.r 28 ci,.w 2 6],[(10,2)],[],[]⟩),(7123,⟨[.r 11 ci,.w 2 6],[(10,2)],[],[]⟩)] []],λ(a,b,d,e)=>zfd N a b d e⟩
def lm:eJ 271 (vZ N):=og (g:=271) N (.c (By N)<|.c (Jo N)<|.nil) .nil
def xP:bH:=⟨[.fp 18,ci,ci,.st 0,ci,ci],[.c (.sl 6),cb],λa=>Cm N a.1 a.2.1 a.2.2.1 a.2.2.2.1 a.2.2.2.2.1 a.2.2.2.2.2.1⟩
def wU:eE 252 (xP N):=tg [(57,0)] [(122,⟨[.r 66 ci,.w 1 0],[(14,1)],[],[]⟩)] [(4063328,[eP [.v (.c (.sl 6)),.v cb] 0])] N (.c (vO N)<|.nil) (.c (lm N)<|.nil)
def qz:bH:=⟨[.fp 18,ci,ci,.st 0,ci],[.st 21,cb],λa=>vn N a.1 a.2.1 a.2.2.1 a.2.2.2.1 a.2.2.2.2.1⟩
def qt:eE 217 (qz N):=tg [] [(3,iD [.r 12 (.c (.sl 1)),.r 13 ci])] [] N (.c (wU N)<|.c (uJ N)<|.nil) .nil
def rD:dv:=⟨.mk [.p (.pt 0 0 27),.v (.fp 18),.v (.st 5)] [] j7 [] [] [],[.mk [.v (.st 21),.v cb] [] [] [] [] [(917523,[eP [.v (.st 10)] 0])]],λ(_,_,_,o,p,q,r,s,t,u,a,b,d,e,f,g,h,i,j,k,l,m,n,_)=>zdI N o p q r s t u a b d e f g h i j k l m n⟩
def sE:eJ 170 (rD N):=og (g:=170) N (.c (qt N)<|.nil) (.c (za6 N)<|.nil)
def zL:bH:=⟨[.fp 18],[ci],λa=>jZ N a.1⟩
def zm:eE 171 (zL N):=tg [] [] [] N .nil .nil
def qw:dv:=⟨.mk [.p (.pt 0 0 25)] [] m9 [] [] [],[eQ [.v cb]],λ(_,_,_,_,_,_,_,_,_,_,_,_,_,_,_,_,_,_,_,_,_,a,_)=>zaB N a⟩
def zf0:eJ 174 (qw N):=og (g:=174) N .nil .nil
def sQ:dv:=⟨.mk y7 [] m9 [] [] [],[k9],λ(_,_,_,r,s,_,t,u,v,w,a,b,d,e,f,g,h,i,j,k,l,m,n,o,p,q,_)=>ma N r s t u v w a b d e f g h i j k l m n o p q⟩
def tn:eJ 172 (sQ N):=og (g:=172) N .nil (.c (zf0 N)<|.nil)
def zeC:dv:=⟨eQ [.v (.c (.sl 17))],[.mk p8 [] [.row 17] [] [] []],λx=>zbz N x⟩
def zeA:eJ 253 (zeC N):=ki (i:=17) (sz:=24) (z:=[g8]) (fn:=Tryz.f253) dF (by kernel_rfl) (by kernel_rfl) (by kernel_rfl) rfl
def mI:dv:=⟨eQ [.v (.fp 18)],[.mk [.p (.pt 0 0 3)] [] s5 [] [] [(917521,[.mk p8 [] [.row 17] n9 [] []])]],λa=>zbG N a⟩
def zcS:eJ 218 (mI N):=og (g:=218) N .nil (.c (zeA N)<|.nil)
def mo:dv:=⟨.mk z8 [] s5 [] [] [],[.mk p7 [.h 0 2 (.hd 1),.w 1 17] [] [(20,17)] [(58,⟨[.r 23 ci,.w 3 17],[(11,3)],[],[]⟩),(122,⟨[.r 62 ci,.w 1 17],[],[],[(0,2,1)]⟩)] []],λ(a,b,d,e,f,_)=>zbw N a b d e f⟩
def mj:eJ 242 (mo N):=og (g:=242) N (.c (mH N)<|.c (qN N)<|.nil) .nil
def oK:dv:=⟨.mk [.p (.pt 0 0 3),.v ci,.v (.c (.sl 6)),.v (.st 0),.v ci] [] s5 [] [] [],[.mk p7 [.h 0 2 (.hd 1),.w 1 17] [] [] [(14,iD [.r 45 cb])] [(1966133,[.mk p7 [.h 0 2 (.hd 1),.w 1 17] [] n9 [] []])]],λ(a,b,d,e,f,g,_)=>zbf N a b d e f g⟩
def zb7:eJ 219 (oK N):=og (g:=219) N (.c (jd N)<|.c (zbZ N)<|.nil) (.c (mj N)<|.nil)
def mA:dv:=⟨.mk [.p (.pt 0 0 3),.v ci] [] s5 [] [] [],[.mk [.v (.c (.sl 1))] [] [] [(52,1)] [(62,⟨[],[(5,0)],[],[]⟩),(122,⟨[.r 33 ci,.w 2 1],[(5,2)],[(5,1)],[]⟩),(31334,⟨[.r 45 ci,.w 2 1],[(5,2)],[],[]⟩)] [(4063289,[.mk [] [.w 2 1] [] n9 [] []]),(8257595,[.mk [.p (.hd 3)] [.w 2 1] [.row 1] o7 [] []])]],λ(a,b,_,d)=>zbH N a b d⟩
def mF:eJ 251 (mA N):=og (g:=251) N .nil (.c (zfe N)<|.c (zea N)<|.nil)
def ou:dv:=⟨.mk [.p (.pt 0 0 3),.v ci,.v ci,.v (.st 0),.v ci,.v ci] [] s5 [] [] [],[.mk [.v (.c (.sl 6)),.v cb] [] [] [(57,0)] [(122,⟨[.r 66 ci,.w 3 0],[(14,3)],[],[]⟩)] [(4063328,[eP [.v (.c (.sl 6)),.v cb] 0])]],λ(a,b,d,e,f,g,h,i)=>zaP N a b d e f g h i⟩
def nD:eJ 252 (ou N):=og (g:=252) N (.c (vO N)<|.nil) (.c (lm N)<|.nil)
def kj:dv:=⟨.mk [.p (.pt 0 0 3),.v ci,.v ci,.v (.st 0),.v ci] [] s5 [] [] [],[.mk [.v (.st 21),.v cb] [] [] [] [(3,iD [.r 12 (.c (.sl 1)),.r 13 ci])] [(786450,[eP [.v (.c (.sl 1))] 0]),(8126498,[eP [.v (.c (.sl 6)),.v cb] 1]),(29098018,[eP [.v (.c (.sl 6)),.v cb] 1])]],λ(a,b,d,e,f,g,h)=>zaT N a b d e f g h⟩
def jV:eJ 217 (kj N):=og (g:=217) N .nil (.c (mF N)<|.c (nD N)<|.nil)
def sC:dv:=⟨.mk [.p (.pt 0 0 27),.p (.pt 1 0 3),.v (.st 5)] [] [f9 2 3 4,.cells [xi,xl 2,.hd 5],.cells [xi,.hd 6],.cells [xl 0,.mr 7],.row 1,.row 17,.row 5,.mp 7 W] [] [] [],[.mk [.v (.st 21),.v cb] [] [] [] [] [(917523,[eP [.v (.st 10)] 0]),(4063279,[eP [.v (.st 21),.v cb] 1])]],λ(_,q,_,_,r,s,t,u,v,w,a,b,d,e,f,g,h,i,j,k,l,m,n,_,_,_,_,_,_,o,p,_)=>zaO N q r s t u v w a b d e f g h i j k l m n o p⟩
def zcL:eJ 170 (sC N):=og (g:=170) N .nil (.c (za6 N)<|.c (jV N)<|.nil)
def IQ:bH:=⟨[.c (.sl 6)],[ci],λa=>qk N a.1⟩
def Im:eE 204 (IQ N):=tg [] [(58,iD [.r 3 ci,.r 8 ci])] [] N (.c (zbU N)<|.nil) .nil
def qB:bH:=⟨[.c (.sl 1),ci],[ci],λa=>zeP N a.1 a.2.1⟩
def qv:eE 239 (qB N):=tg [] [(26,iD [.r 8 ci])] [] N .nil .nil
def mf:bH:=⟨[.c (.sl 1),ci],[cb],λa=>zct N a.1 a.2.1⟩
def mh:eE 205 (mf N):=tg [] [] [] N (.c (qv N)<|.nil) .nil
def Ho:bH:=⟨[.st 10,.st 5,.c (.sl 6)],[cb],λa=>iu N a.1 a.2.1 a.2.2.1⟩
def vN:eE 142 (Ho N):=tg [] [(6,iD [.r 22 cb]),(250,iD [.r 47 ci])] [] N (.c (mh N)<|.c (jd N)<|.c (Im N)<|.nil) .nil
def Nz:bH:=⟨[ci,ci],[ci,cb],λa=>yG N a.1 a.2.1⟩
def Mj:eE 220 (Nz N):=tg [] [(53247,iD [.r 48 cb]),(212991,iD [.r 55 cb])] [] N (.c (zeN N)<|.c (qO N)<|.nil) .nil
def PX:bH:=⟨[.st 5,ci,ci,cb],[.st 5,ci],λa=>xq N a.1 a.2.1 a.2.2.1 a.2.2.2.1⟩
def ES:eE 180 (PX N):=tg [] [(6,iD [.r 20 cb]),(1023,iD [.h 0 11 Uq,.h 0 12 Uq,.h 0 15 bZ]),(2047,iD [.h 0 16 bZ]),(8186,iD [.h 0 12 Uq])] [] N (.c (Mj N)<|.c (zb2 N)<|.c (zdq N)<|.c (zeT N)<|.c (qJ N)<|.nil) .nil
def zfk:dv:=⟨eQ [.v (.c (.sl 0))],[.mk p8 [] [.row 0] [] [] []],λx=>zaY N x⟩
def zcP:eJ 81 (zfk N):=ki (i:=0) (sz:=32) (z:=[gA,gA,gA,gA]) (fn:=Tryz.f81) dF (by kernel_rfl) (by kernel_rfl) (by kernel_rfl) rfl
def kN:dv:=⟨.mk [.p (.pt 0 0 2),.v (.st 7),.p (.k (.c (.fn (.func 99) [] [])))] [] sT [] [] [],[t6],λ(_,a,b)=>zcb N a b⟩
def kZ:eJ 98 (kN N):=og (g:=98) N (.c (mH N)<|.c (Io N)<|.nil) (.c (zcP N)<|.nil)
def mR:dv:=⟨.mk [.p (.pt 0 0 2),.v (.st 7)] [] sT [] [] [],[.mk p7 [.h 0 0 (xl 0),.m 1 7 W] [] [] [(14,iD [.r 41 cb])] [(4063288,[eP [.v (.c (.sl 0)),.v ci] 0])]],λ(a,b,d)=>zbc N a b d⟩
def zc0:eJ 51 (mR N):=og (g:=51) N (.c (zV N)<|.c (jd N)<|.c (zbZ N)<|.nil) (.c (kZ N)<|.nil)
def qM:dv:=⟨zA1,[.mk p7 [.w 1 5,.h 0 1 (.hd 1)] [] [] [] [(1966096,[eP [.v ci,.v cb] 0])]],λ(a,b,_)=>zdo N a b⟩
def qH:eJ 221 (qM N):=og (g:=221) N (.c (zeT N)<|.c (my N)<|.nil) (.c (zck N)<|.nil)
def mL:dv:=⟨.mk [.p (.pt 0 0 27),.v (.st 5),.v (.st 5)] [] j7 [] [] [],[.mk p7 [.h 1 1 (.hd 4),.w 4 5,.h 0 25 (.hd 3),.w 3 1] [] [] [(15,⟨[.w 3 1],[],[],[(0,25,3)]⟩)] [(786445,[.mk p7 [.w 4 5,.h 1 1 (.hd 4)] [] n9 [] []]),(917524,[t8]),(7995421,[t8])]],λ(a,b,_,d,e,_)=>zbF N a b d e⟩
def zeL:eJ 181 (mL N):=og (g:=181) N .nil (.c (qH N)<|.c (zff N)<|.nil)
end Go.Abs
end
end
section
set_option maxRecDepth 100000
noncomputable section
namespace Go.Abs
open Go.Proofs
variable[Gl](N:X)
def oD:dv:=⟨.mk [.p (.pt 0 0 27),.v ci,.v (.c (.sl 6))] [] j7 [] [] [],[.mk p7 [.h 2 0 (xl 0),.m 5 7 W,.h 0 25 (.hd 3),.h 0 26 (xi),.h 1 1 (.hd 4),.w 3 1,.w 4 5] [] [] [] [(917524,[eP [.v (.st 5),.v cb] 0]),(133955641,[.mk p7 [.h 2 0 (xl 0),.m 5 7 W] [] o7 [] []]),(268304458,[.mk p7 [.h 1 1 (.hd 4),.w 4 5,.h 0 25 (.hd 3),.w 3 1] [] [(1000000,2)] [] []])]],λ(r,s,t,u,v,w,x,y,z,A,a,b,d,e,f,g,h,i,j,k,l,m,n,o,_,_,_,_,p,_,q)=>za0 N r s t u v w x y z A a b d e f g h i j k l m n o p q⟩
def zb5:eJ 177 (oD N):=og (g:=177) N (.c (vN N)<|.c (ES N)<|.c (nA N)<|.nil) (.c (zcu N)<|.c (zc0 N)<|.c (zeL N)<|.nil)
def rE:dv:=⟨.mk x9 [] m9 [] [] [],[.mk [] [.h 1 25 (.hd 4),.h 1 26 (xi),.h 2 1 (.hd 5),.h 3 0 (xl 0),.w 4 1,.w 5 5,.m 6 7 W,.h 0 1 (.fp 18),.h 0 20 (xn)] [] [(74,21)] [(15,iD []),(13194139533438,⟨[],[],[],[(5,1057794,17),(0,1048577,18)]⟩)] [(393229,[.mk [.p (.pt 9 0 3)] [] [.cells [xi,xl 2,.hd 10],.row 17] n9 [] []]),(1835031,[.mk p7 [.h 9 2 (.hd 10),.w 10 17] [] o7 [] []]),(3932186,[eP [.v cb] 2]),(8126525,[.mk p7 [.h 3 0 (xl 0),.m 6 7 W,.h 1 25 (.hd 4),.h 1 26 (xi),.h 2 1 (.hd 5),.w 4 1,.w 5 5] [] [(1000000,4)] [] []]),(15990821,[eP [.v (.st 21),.v cb] 3])],.mk [] [.h 1 25 (.hd 4),.h 1 26 (xi),.h 2 1 (.hd 5),.h 3 0 (xl 0),.w 4 1,.w 5 5,.m 6 7 W,.h 0 1 (.fp 18),.h 0 20 (.hd 7)] [.row 21] [] [] []],λ(S,T,Ζ,Γ,Ε,Α,Β,a7,a8,a9,a,b,d,e,f,g,h,i,j,k,l,m,n,o,p,_,q,r,s,t,u,v,w,x,y,z,A,E,F,G,K,L,M,O,P,_,_,_,_,Η,_,R)=>v_ N S T Ζ Γ Ε Α Β a7 a8 a9 a b d e f g h i j k l m n o p q r s t u v w x y z A E F G K L M O P Η R⟩
def rc:eJ 173 (rE N):=og (g:=173) N .nil (.c (zcS N)<|.c (zb7 N)<|.c (zf0 N)<|.c (zcL N)<|.c (zb5 N)<|.nil)
def po:dv:=⟨.mk [.p (.pt 0 0 25)] [] m8 [] [] [],[eQ [.v cb]],λ(_,_,_,_,_,_,_,_,_,_,_,_,_,_,_,_,_,_,_,_,_,_,a,_)=>zaB N a⟩
def zft:eJ 174 (po N):=og (g:=174) N .nil .nil
def sH:dv:=⟨.mk y7 [] m8 [] [] [],[k9],λ(_,_,_,_,s,t,_,u,v,w,a,b,d,e,f,g,h,i,j,k,l,m,n,o,p,q,r,_)=>ma N s t u v w a b d e f g h i j k l m n o p q r⟩
def rW:eJ 172 (sH N):=og (g:=172) N .nil (.c (zft N)<|.nil)
def sD:dv:=⟨.mk x9 [] m8 [] [] [],[l3],λ(T,Ζ,Γ,Ε,Α,Β,a6,a7,a8,a9,a,b,d,e,f,g,h,i,j,k,l,m,n,o,p,q,_,r,s,t,u,v,w,x,y,z,A,E,F,G,K,L,M,O,P,Η,_,_,_,_,R,_,S)=>wP N T Ζ Γ Ε Α Β a6 a7 a8 a9 a b d e f g h i j k l m n o p q r s t u v w x y z A E F G K L M O P Η R S⟩
def ry:eJ 173 (sD N):=og (g:=173) N .nil (.c (zcS N)<|.c (zb7 N)<|.c (zft N)<|.c (zcL N)<|.c (zb5 N)<|.nil)
def n_:dv:=⟨.mk [.p (.pt 0 0 25)] [] m7 [] [] [],[eQ [.v cb]],λ(_,_,_,_,_,_,_,_,_,_,_,_,_,_,_,_,_,_,_,_,_,_,_,a,_)=>zaB N a⟩
def zdd:eJ 174 (n_ N):=og (g:=174) N .nil .nil
def tB:dv:=⟨.mk y7 [] m7 [] [] [],[k9],λ(_,_,_,_,t,u,_,v,w,x,a,b,d,e,f,g,h,i,j,k,l,m,n,o,p,q,r,s,_)=>zfO N t u v w x a b d e f g h i j k l m n o p q r s⟩
def sR:eJ 172 (tB N):=og (g:=172) N .nil (.c (zdd N)<|.nil)
def sq:dv:=⟨.mk x9 [] m7 [] [] [],[l3],λ(Ζ,Γ,Ε,Α,Β,a5,a6,a7,a8,a9,a,b,d,e,f,g,h,i,j,k,l,m,n,o,p,q,r,_,s,t,u,v,w,x,y,z,A,E,F,G,K,L,M,O,P,Η,R,_,_,_,_,S,_,T)=>zdH N Ζ Γ Ε Α Β a5 a6 a7 a8 a9 a b d e f g h i j k l m n o p q r s t u v w x y z A E F G K L M O P Η R S T⟩
def rC:eJ 173 (sq N):=og (g:=173) N .nil (.c (zcS N)<|.c (zb7 N)<|.c (zdd N)<|.c (zcL N)<|.c (zb5 N)<|.nil)
def BI:dv:=⟨o6,[.mk w5 k8 [] [] [(511,iD [.h 9 24 bZ]),(2042,⟨[.r 32 ci,.h 0 26 bZ,.h 2 0 (nY 0),.h 9 1 (.fp 18),.h 9 2 bZ,.h 9 3 bZ,.h 9 4 bZ,.h 9 5 bZ,.h 9 6 bZ,.h 9 7 bZ,.h 9 8 bZ,.h 9 9 bZ,.h 9 10 bZ,.h 9 11 (nY 4),.h 9 12 bZ,.h 9 13 Uq,.h 9 14 Uq,.h 9 15 bZ,.h 9 16 bZ,.h 9 17 bZ,.h 9 18 bZ,.h 9 19 bZ,.h 9 22 bZ,.h 9 23 bZ,.h 9 24 bZ,.h 10 0 bZ,.h 10 1 bZ,.h 10 2 (nY 6),.w 3 1,.w 4 5,.m 5 7 W,.w 11 21],[],[(1057812,21)],[(0,25,3),(1,1,4),(9,20,11)]⟩),(16339,⟨[.h 0 26 bZ,.h 2 0 (nY 0),.h 9 1 (.fp 18),.h 9 2 bZ,.h 9 3 bZ,.h 9 4 bZ,.h 9 5 bZ,.h 9 6 bZ,.h 9 7 bZ,.h 9 8 bZ,.h 9 9 bZ,.h 9 10 bZ,.h 9 11 (nY 4),.h 9 12 bZ,.h 9 13 Uq,.h 9 14 Uq,.h 9 15 bZ,.h 9 16 bZ,.h 9 17 bZ,.h 9 18 bZ,.h 9 19 bZ,.h 9 22 bZ,.h 9 23 bZ,.h 9 24 bZ,.h 10 0 bZ,.h 10 1 bZ,.h 10 2 (nY 6),.w 3 1,.w 4 5,.m 5 7 W,.w 11 21],[],[],[(0,25,3),(1,1,4),(9,20,11)]⟩),(8796093022270,⟨[],[],[(4,0)],[]⟩),(10995116277822,⟨[],[],[(1055746,17),(4,18)],[]⟩)] [(917522,[eP [.p (.k g7),.v ci] 0,w8]),(66846750,[eP [.v (.c (.sl 5))] 1]),(133955653,[eP [.v cb] 10]),(536084560,[eP [.v (.st 21),.v cb] 3]),(68531257383,[eP [.v cb] 2]),(68531388464,[eP [.v (.st 21),.v cb] 3]),(548252024898,[.mk [] [.h 0 25 (.hd 3),.h 0 26 (xi),.h 1 1 (.hd 4),.h 2 0 (xl 0),.w 3 1,.w 4 5,.m 5 7 W,.h 9 1 (.fp 18),.h 9 20 (.hd 11),.w 11 21] [] [(1000000,9)] [] []]),(2193007837246,[.mk [] [.h 9 2 (xi),.h 9 3 (xi),.h 9 4 (xi),.h 9 5 (xi),.h 9 6 (xi),.h 9 7 (xi),.h 9 8 (xi),.h 9 9 (xi),.h 9 10 (xi),.h 9 11 (xl 4),.h 9 12 (xi),.h 9 13 (xb),.h 9 14 (xb),.h 9 15 (xi),.h 9 16 (xi),.h 9 17 (xi),.h 9 18 (xi),.h 9 19 (xi),.h 9 22 (xi),.h 9 23 (xi),.h 9 24 (xi)] [] [(1000000,8)] [] []])]],λ(t,u,v,w,x,y,z,A,E,F,a,b,d,e,f,g,h,i,j,k,l,m,n,o,p,q,r,_,s)=>zfv N t u v w x y z A E F a b d e f g h i j k l m n o p q r s⟩
def BU:eJ 116 (BI N):=og (g:=116) N (.c (zm N)<|.nil) (.c (iZ N)<|.c (lu N)<|.c (oj N)<|.c (sE N)<|.c (tn N)<|.c (rc N)<|.c (rW N)<|.c (ry N)<|.c (sR N)<|.c (rC N)<|.c (zdd N)<|.nil)
def sO:dv:=⟨o6,[.mk [.ag [.k g7,.pt 0 0 27],.v ci] [] [] [] [] [(393224,[eP [.p (.k g7),.v ci] 0,w8])],.mk [.ag [.pt 6 0 3,.pt 0 0 27],.p (.k gA)] [] [.cells [xi,xl 2,.hd 7],.row 17] [] [] []],λ(s,t,u,v,w,x,y,z,A,E,a,b,d,e,f,g,h,i,j,k,l,m,n,o,p,q,r,_)=>zfQ N s t u v w x y z A E a b d e f g h i j k l m n o p q r⟩
def tA:eJ 175 (sO N):=og (g:=175) N .nil (.c (iZ N)<|.nil)
def lw:dv:=⟨.mk [.ag [.pt 0 0 3,.pt 1 0 27],.v (.st 5)] [] [.cells [xi,xl 2,.hd 2],f9 3 4 5,.row 17,.cells [xi,.hd 6],.cells [xl 0,.mr 7],.row 1,.row 5,.mp 7 W] [] [] [],[.mk [.v (.st 23),.v cb] [.h 0 2 (.hd 2),.w 2 17] [] [] [] [(393231,[eP [.v (.st 21),.v cb] 0]),(4063271,[.mk p7 [.h 0 2 (.hd 2),.w 2 17] [] o7 [] []])]],λ(q,_,_,_,r,s,t,u,v,w,a,b,d,e,f,g,h,i,j,k,l,m,n,o,p,_)=>zbx N q r s t u v w a b d e f g h i j k l m n o p⟩
def kX:eJ 176 (lw N):=og (g:=176) N .nil (.c (zcL N)<|.c (zb7 N)<|.nil)
def pz:dv:=⟨.mk [.p (.pt 0 0 3)] [] s5 [] [] [],[eQ [.v ci]],λ(_,a,_)=>zej N a⟩
def px:eJ 171 (pz N):=og (g:=171) N .nil .nil
def uK:dv:=⟨o6,[.mk w5 k8 [] [(53,21),(70,21)] [(250,⟨[.r 23 ci,.h 0 26 bZ,.h 2 0 (nY 0),.w 3 1,.w 4 5,.m 5 7 W,.w 8 17,.w 11 21,.w 12 21],[],[(1058817,21),(1058816,21)],[(0,25,3),(1,1,4),(7,2,8),(10,0,12),(10,1,11)]⟩),(2003,⟨[.h 0 26 bZ,.h 2 0 (nY 0),.w 3 1,.w 4 5,.m 5 7 W,.w 8 17,.w 11 21,.w 12 21],[],[],[(0,25,3),(1,1,4),(7,2,8),(10,0,12),(10,1,11)]⟩),(10995116277884,⟨[],[],[(14,0)],[]⟩)] [(393229,[eP [.ag [.k g7,.pt 0 0 27],.v ci] 0,.mk [.ag [.pt 7 0 3,.pt 0 0 27],.p (.k gA)] [] [.cells [xi,xl 2,.hd 8],.row 17] [] [] []]),(8126485,[eP [.v (.c (.sl 5))] 1]),(4200857630,[eP [.v cb] 2]),(4200988707,[.mk [.v (.st 23),.v cb] [.h 7 2 (.hd 8),.w 8 17] [] [(1000000,3)] [] []]),(67217260591,[eP [.v ci] 4]),(268869435456,[.mk p7 [.h 2 0 (xl 0),.m 5 7 W,.h 0 25 (.hd 3),.h 0 26 (xi),.h 1 1 (.hd 4),.w 3 1,.w 4 5] [] [(1000000,5)] [] []])]],λ(t,u,v,w,x,y,z,A,E,F,a,b,d,e,f,g,h,i,j,k,l,m,n,o,p,q,r,_,s)=>zdB N t u v w x y z A E F a b d e f g h i j k l m n o p q r s⟩
def uL:eJ 117 (uK N):=og (g:=117) N .nil (.c (tA N)<|.c (lu N)<|.c (oj N)<|.c (kX N)<|.c (px N)<|.c (zb5 N)<|.nil)
def Bc:dv:=⟨o6,[.mk w5 k8 [] [] [] [(917512,[eP [.v (.st 10)] 0]),(917514,[eQ [.ag [.k (.c (.fn (.func 116) [] []))]],eQ [.ag [.k (.c (.fn (.func 117) [] []))]]]),(917517,[.mk w5 k8 [] o7 [] []]),(142653246714526242616246285,[.mk w5 k8 [] [(1000000,2)] [] []])]],λ(t,u,v,w,x,y,z,A,E,F,a,b,d,e,f,g,h,i,j,k,l,m,n,o,p,q,r,_,s)=>gM N t u v w x y z A E F a b d e f g h i j k l m n o p q r s⟩
def AB:eJ 31 (Bc N):=og (g:=31) N .nil (.c (za6 N)<|.c (BU N)<|.c (uL N)<|.nil)
def AM:dv:=⟨eQ [.v ci],[.mk p8 [] [.row 1] [(5,1)] [] []],λa=>lW N a⟩
def Bo:eJ 46 (AM N):=og (g:=46) N (.c (zbU N)<|.nil) .nil
def JN:bH:=⟨[.st 5],[ci],λa=>tE N a.1⟩
def Jt:eE 178 (JN N):=tg [] [(6,iD [.r 11 cb])] [] N (.c (zeT N)<|.c (zeN N)<|.nil) .nil
def DM:bH:=⟨[.c (.sl 5),ci],[.c (.sl 1)],λa=>kA N a.1 a.2.1⟩
def DX:eE 118 (DM N):=tg [] [(58,⟨[.r 12 ci,.w 0 1],[(5,0)],[],[]⟩),(467,⟨[.w 0 1],[(5,0)],[],[]⟩)] [(393225,[.mk p8 [] [.row 1] n9 [] []])] N (.c (Jt N)<|.nil) (.c (Bo N)<|.nil)
def JK:bH:=⟨[.c (.sl 1),.c (.sl 1),ci],[.c (.sl 1)],λa=>tI N a.1 a.2.1 a.2.2.1⟩
def JB:eE 120 (JK N):=tg [(14,1)] [(122,⟨[.r 17 ci,.w 0 1],[(7,0)],[],[]⟩),(31335,iD [.r 9 ci])] [] N (.c (zbU N)<|.nil) .nil
def Hy:bH:=⟨[.c (.sl 1)],[cb],λa=>lh N a.1⟩
def xc:eE 145 (Hy N):=tg [] [(26,iD [.r 7 ci])] [] N .nil .nil
def GB:bH:=⟨[.c (.sl 8),ci],[.c (.sl 8)],λa=>pP N a.1 a.2.1⟩
def HU:eE 179 (GB N):=tg [(20,8)] [(58,⟨[.r 10 ci,.w 0 8],[(5,0)],[(5,8)],[]⟩),(467,⟨[.w 0 8],[(5,0)],[],[]⟩)] [] N .nil .nil
end Go.Abs
end
end
section
set_option maxRecDepth 100000
noncomputable section
namespace Go.Abs
open Go.Proofs
variable[Gl](N:X)
def o_:dv:=⟨.mk [.p (.pt 0 0 27),.v (.c (.sl 1))] [] j7 [] [] [],[.mk p7 [.h 0 20 (xi),.h 0 23 (xl 8),.h 0 24 (xl 1)] [] [] [(30,iD [.r 24 cb])] []],λ(_,_,_,e,_,_,_,f,_,_,_,_,_,_,_,_,_,_,_,_,_,_,a,_,_,b,d,_)=>zeg N e f a b d⟩
def oX:eJ 119 (o_ N):=og (g:=119) N (.c (zcv N)<|.c (HU N)<|.c (xc N)<|.nil) .nil
def oP:dv:=⟨o8,[.mk p7 [.h 0 20 (xi),.h 0 23 (xl 8),.h 0 24 (xl 1)] [] [] [] [(393223,[eP [.v (.st 14)] 0]),(1966103,[.mk p7 [.h 0 20 (xi),.h 0 23 (xl 8),.h 0 24 (xl 1)] [] o7 [] []])]],λ(j,k,l,_,_,_,m,_,_,_,_,a,_,_,_,_,_,_,_,_,_,_,_,_,b,_,_,_,_,_,_,_,_,_,_,_,_,_,_,d,e,f,g,h,i,_)=>zcJ N j k l m a b d e f g h i⟩
def ow:eJ 70 (oP N):=og (g:=70) N (.c (DX N)<|.c (JB N)<|.nil) (.c (zax N)<|.c (oX N)<|.nil)
def Uv:bH:=⟨[.st 0,.st 0],[.st 0,ci],λa=>Ge N a.1 a.2.1⟩
def TM:eE 222 (Uv N):=tg [] [(6,iD [.r 15 cb])] [(917522,[eP [.ag [.cx,.cx]] 0]),(917524,[eP [.ag [.cx,.cx]] 0]),(1966112,[eP [.v (.st 0),.v ci] 1])] N (.c (zbZ N)<|.nil) (.c (g_ N)<|.c (zfS N)<|.nil)
def kT:dv:=⟨.mk [.p (.pt 0 0 2),.v (.st 7),.p (.k (.c (.fn (.func 222) [] [])))] [] sT [] [] [],[t6],λ(_,a,b)=>zca N a b⟩
def lr:eJ 98 (kT N):=og (g:=98) N (.c (mH N)<|.c (TM N)<|.nil) (.c (zcP N)<|.nil)
def mS:dv:=⟨.mk [.p (.pt 0 0 2),.v ci] [] sT [] [] [],[.mk p7 [.h 0 0 (xl 0),.m 1 7 W] [] [] [] [(4063257,[eP [.v (.c (.sl 0)),.v ci] 0])]],λ(a,b,d)=>zdQ N a b d⟩
def mK:eJ 182 (mS N):=og (g:=182) N .nil (.c (lr N)<|.nil)
def pp:dv:=⟨.mk [.p (.pt 0 0 27),.v ci,.v ci,.v cb] [] j7 [] [] [],[.mk p7 [.h 0 25 (.hd 3),.h 1 1 (.hd 4),.w 3 1,.w 4 5,.h 0 26 (xi),.h 2 0 (xl 0),.m 5 7 W] [] [] [(511,iD [.h 0 26 bZ,.h 2 0 (nY 0),.m 5 7 W]),(1022,iD [.r 58 cb])] [(917526,[eP [.v (.st 5),.v cb] 0]),(66846766,[.mk p7 [.h 1 1 (.hd 4),.w 4 5,.h 0 25 (.hd 3),.w 3 1] [] o7 [] []]),(536084544,[.mk p7 [.h 2 0 (xl 0),.m 5 7 W] [] [(1000000,2)] [] []])]],λ(e,f,g,h,i,j,_,_,_,_,_,_,_,_,_,_,_,_,_,_,_,_,_,_,a,_,_,_,_,b,_,d)=>za8 N e f g h i j a b d⟩
def zfs:eJ 121 (pp N):=og (g:=121) N (.c (ES N)<|.c (nA N)<|.c (zeN N)<|.nil) (.c (zcu N)<|.c (zeL N)<|.c (mK N)<|.nil)
def pj:dv:=⟨o8,[.mk p7 k8 [] [] [(58,⟨[.r 12 ci,.h 0 26 bZ,.h 2 0 (nY 0),.w 3 1,.w 4 5,.m 5 7 W],[],[],[(0,25,3),(1,1,4)]⟩),(467,⟨[.h 0 26 bZ,.h 2 0 (nY 0),.w 3 1,.w 4 5,.m 5 7 W],[],[],[(0,25,3),(1,1,4)]⟩),(29899,iD [.r 29 cb])] [(393224,[eP [.v (.st 14)] 0]),(1959395356,[.mk p7 [.h 0 25 (.hd 3),.h 1 1 (.hd 4),.w 3 1,.w 4 5,.h 0 26 (xi),.h 2 0 (xl 0),.m 5 7 W] [] o7 [] []]),(7837974578,[.mk p7 [.h 0 25 (.hd 3),.h 1 1 (.hd 4),.w 3 1,.w 4 5,.h 0 26 (xi),.h 2 0 (xl 0),.m 5 7 W] [] o7 [] []])]],λ(i,j,k,_,_,_,_,_,_,_,_,_,_,_,_,_,_,_,_,_,_,_,_,_,_,_,_,_,_,_,_,_,_,_,_,_,_,_,_,a,b,d,e,f,g,_,h)=>zc8 N i j k a b d e f g h⟩
def oZ:eJ 71 (pj N):=og (g:=71) N .nil (.c (zax N)<|.c (zfs N)<|.nil)
def Mm:bH:=⟨[.st 5,.c (.sl 5)],[cb],λa=>yA N a.1 a.2.1⟩
def MZ:eE 123 (Mm N):=tg [] [(26,iD [.r 12 ci]),(3379,iD [.r 34 cb])] [] N (.c (CH N)<|.c (zdq N)<|.c (EN N)<|.nil) .nil
def nk:dv:=⟨o8,[.mk p7 k8 [] [] [(58,⟨[.r 3 (.c (.sl 5)),.r 12 ci,.h 0 26 bZ,.h 2 0 (nY 0),.w 3 1,.w 4 5,.m 5 7 W],[],[],[(0,25,3),(1,1,4)]⟩),(467,⟨[.r 3 (.c (.sl 5)),.h 0 26 bZ,.h 2 0 (nY 0),.w 3 1,.w 4 5,.m 5 7 W],[],[],[(0,25,3),(1,1,4)]⟩),(7475,iD [.r 26 cb])] [(393224,[eP [.v (.st 14)] 0]),(3919314975,[.mk p7 [.h 0 25 (.hd 3),.h 1 1 (.hd 4),.w 3 1,.w 4 5,.h 0 26 (xi),.h 2 0 (xl 0),.m 5 7 W] [] o7 [] []]),(3919380514,[eP [.v (.st 14)] 0])]],λ(i,j,k,_,_,_,_,_,_,_,_,_,_,_,_,_,_,_,_,_,_,_,_,_,_,_,_,_,_,_,_,_,_,_,_,_,_,_,_,a,b,d,e,f,g,_,h)=>zcM N i j k a b d e f g h⟩
def oQ:eJ 72 (nk N):=og (g:=72) N (.c (qO N)<|.c (MZ N)<|.nil) (.c (zax N)<|.c (zfs N)<|.nil)
def Fh:bH:=⟨[ci,.c (.sl 5)],[cb],λa=>mU N a.1 a.2.1⟩
def Fp:eE 185 (Fh N):=tg [] [(26,iD [.r 11 ci]),(211,iD []),(13518,iD [.r 21 ci])] [] N (.c (zdq N)<|.nil) .nil
def zfx:dv:=⟨.mk [.p (.hd 0),.v ci,.v ci] [] w6 [] [] [],[.mk y8 [.w 0 5] w6 [] [] []],λx=>zbO N x.1 x.2.1 x.2.2⟩
def zfm:eJ 223 (zfx N):=Zu (ii:=5) (sz:=152) (ti:=3) (tb:=4) (z:=[gA,gA,gA,gA,gA,gA,gA,gA,gA,g8,gA,.c (.lit (.bool Ι)),.c (.lit (.bool Ι)),gA,gA,gA,gA,gA]) (fn:=Tryz.f223) dF (by kernel_rfl) (by kernel_rfl) (by kernel_rfl) (by kernel_rfl) rfl rfl rfl (λi j=>by kernel_rfl)
def pd:dv:=⟨w7,[.mk [.p (.k (.c (.lit (.int .i64 30))))] [.h 0 1 (.hd 1),.w 1 5] [] [] [] [(917516,[eP [.v ci,.v cb] 0]),(4063257,[.mk [.p (.hd 2)] [.w 1 5] w6 o7 [] []])],.mk [.p (.k gA)] [.h 0 1 (.hd 2),.w 1 5] w6 [] [] []],λ(a,b,_)=>zeh N a b⟩
def pg:eJ 186 (pd N):=og (g:=186) N .nil (.c (zck N)<|.c (zfm N)<|.nil)
def pA:dv:=⟨s7,[.mk p7 [.h 1 1 (.hd 4),.w 4 5] [] [] [(62,iD [.r 32 cb])] [(917519,[eP [.v (.st 5),.v cb] 0]),(8126494,[eP [.v (.c (.sl 5))] 1]),(8257574,[.mk [.p (.k (.c (.lit (.int .i64 30))))] [.h 1 1 (.hd 4),.w 4 5] [] [(1000000,2)] [] [],.mk [.p (.k gA)] [.h 1 1 (.hd 7),.w 4 5] w6 [] [] []])],.mk [.p (.k gA)] [.h 1 1 (.hd 6),.w 4 5] w6 [] [] []],λ(_,a,_,b,_)=>zc9 N a b⟩
def pu:eJ 125 (pA N):=og (g:=125) N (.c (zdq N)<|.c (Fp N)<|.nil) (.c (zcu N)<|.c (zfZ N)<|.c (pg N)<|.nil)
def lM:dv:=⟨o8,[.mk p7 [.h 1 1 (.hd 6),.w 4 5] w6 [] [(58,⟨[.r 12 ci,.w 8 5],[],[],[(1,1,8)]⟩)] [(393224,[eP [.v (.st 14)] 0]),(979763234,[.mk p7 [.h 1 1 (.hd 8),.w 8 5] [] o7 [] [],.mk [.p (.k gA)] [.h 1 1 (.hd 10),.w 8 5] w6 [] [] []])]],λ(i,j,k,_,_,_,_,_,_,_,_,_,_,_,_,_,a,_,_,_,_,_,_,_,_,_,_,_,_,_,_,_,_,_,_,_,_,_,_,b,d,e,f,g,h,_)=>zci N i j k a b d e f g h⟩
def lT:eJ 73 (lM N):=og (g:=73) N (.c (zdq N)<|.nil) (.c (zax N)<|.c (pu N)<|.nil)
def zi:dv:=⟨o6,[.mk p7 [.h 0 20 (xi),.h 0 23 (xl 8),.h 0 24 (xl 1),.h 0 25 (.hd 3),.h 0 26 (xi),.h 1 1 (.hd 4),.h 2 0 (xl 0),.w 3 1,.w 4 5,.m 5 7 W] [] [(21,1000001)] [(122,⟨[],[],[(1000003,40)],[]⟩)] [(917515,[eP [.v (.st 10)] 0]),(1026687004,[.mk p7 [.h 0 20 (xi),.h 0 23 (xl 8),.h 0 24 (xl 1)] [] o7 [] []]),(87042659012253301605531676,[.mk p7 k8 [] [(1000000,2)] [] []]),(88251584831867930780237852,[.mk p7 k8 [] [(1000000,3)] [] []]),(89460510651482559954944028,[.mk p7 [.h 1 1 (.hd 8),.w 4 5] w6 [(1000000,4)] [] []])],.mk p7 [.h 0 20 (xi),.h 0 23 (xl 8),.h 0 24 (xl 1),.h 0 25 (.hd 3),.h 0 26 (xi),.h 1 1 (.hd 6),.h 2 0 (xl 0),.w 3 1,.w 4 5,.m 5 7 W] w6 [] [] []],λ(t,u,v,w,x,y,z,A,E,F,a,b,d,e,f,g,h,i,j,k,l,m,n,o,p,q,r,_,s)=>zfC N t u v w x y z A E F a b d e f g h i j k l m n o p q r s⟩
def zc:eJ 32 (zi N):=og (g:=32) N .nil (.c (za6 N)<|.c (ow N)<|.c (oZ N)<|.c (oQ N)<|.c (lT N)<|.nil)
def vB:dv:=⟨s7,[.mk [.v ci,.v ci] [.h 0 20 (xi),.h 0 23 (xl 8),.h 0 24 (xl 1),.h 0 25 (.hd 3),.h 0 26 (xi),.h 1 1 (.hd 6),.h 2 0 (xl 0),.w 3 1,.w 4 5,.m 5 7 W] w6 [] [(122,⟨[.r 15 ci,.h 0 20 bZ,.h 0 23 (nY 8),.h 0 24 (nY 1),.h 0 26 bZ,.h 2 0 (nY 0),.w 3 1,.m 5 7 W,.w 6 5],[],[],[(0,25,3),(1,1,6)]⟩)] [(2053373972,[.mk w5 [.h 0 25 (.hd 3),.h 0 26 (xi),.h 1 1 (.hd 6),.h 2 0 (xl 0),.w 3 1,.w 6 5,.m 5 7 W] [] n9 [] []]),(2053505052,[.mk p7 [.h 0 20 (xi),.h 0 23 (xl 8),.h 0 24 (xl 1),.h 0 25 (.hd 3),.h 0 26 (xi),.h 1 1 (.hd 6),.h 2 0 (xl 0),.w 3 1,.w 6 5,.m 5 7 W] [] o7 [] [],.mk p7 [.h 0 20 (xi),.h 0 23 (xl 8),.h 0 24 (xl 1),.h 0 25 (.hd 3),.h 0 26 (xi),.h 1 1 (.hd 8),.h 2 0 (xl 0),.w 3 1,.w 6 5,.m 5 7 W] w6 [] [] []])]],λ(u,v,w,x,y,z,A,E,F,G,a,b,d,e,f,g,h,i,j,k,l,m,n,o,p,q,r,s,_,t)=>zdz N u v w x y z A E F G a b d e f g h i j k l m n o p q r s t⟩
def jH:eJ 11 (vB N):=og (g:=11) N (.c (zbU N)<|.nil) (.c (AB N)<|.c (zc N)<|.nil)
def xF:dv:=⟨.mk [.p (.pt 0 0 27),.v ci,.v ci] [] j7 [] [] [],[.mk [.v ci,.v cb] [] [] [] [(126,⟨[.r 11 ci,.h 7 20 bZ,.h 7 23 (nY 8),.h 7 24 (nY 1),.h 7 26 bZ,.h 9 0 (nY 0),.w 10 1,.m 12 7 W,.w 13 5],[],[],[(7,25,10),(8,1,13)]⟩)] [(1835029,[eP [.v (.st 5),.v cb] 0]),(1966107,[.mk [.p (.pt 7 0 27)] [] [f9 8 9 10,.cells [xi,.hd 11],.cells [xl 0,.mr 12],.row 1,.row 5,.mp 7 W] o7 [] []]),(264241185,[eP [.v (.st 5),.v cb] 0]),(528875570,[.mk [.v ci,.v ci] [.h 7 20 (xi),.h 7 23 (xl 8),.h 7 24 (xl 1),.h 7 25 (.hd 10),.h 7 26 (xi),.h 8 1 (.hd 15),.h 9 0 (xl 0),.w 10 1,.w 13 5,.m 12 7 W] w6 [(1000000,2)] [] []])]],λ(w,x,y,z,A,E,F,G,K,L,a,b,d,e,f,g,h,i,j,k,l,m,n,o,p,q,r,s,t,u,v)=>zdK N w x y z A E F G K L a b d e f g h i j k l m n o p q r s t u v⟩
def kK:eJ 10 (xF N):=og (g:=10) N (.c (Gu N)<|.nil) (.c (zfY N)<|.c (oC N)<|.c (jH N)<|.nil)
def Js:bH:=⟨[ci],[ci],λa=>kw N a.1⟩
def Ke:eE 38 (Js N):=tg [] [] [] N (.c (zbU N)<|.nil) .nil
def Ng:bH:=⟨[.c (.sl 8)],[ci],λa=>L_ N a.1⟩
def Mw:eE 39 (Ng N):=tg [] [(58,iD [.r 3 ci,.r 8 ci])] [] N .nil .nil
def Vg:bH:=⟨[ci,ci,ci],[ci,ci],λa=>VZ N a.1 a.2.1 a.2.2.1⟩
def UK:eE 79 (Vg N):=tg [] [] [] N .nil .nil
def GY:bH:=⟨[.c (.sl 1)],[ci],λa=>Fg N a.1⟩
def IS:eE 41 (GY N):=tg [] [(58,iD [.r 3 ci,.r 10 ci])] [] N (.c (UK N)<|.nil) .nil
def HT:bH:=⟨[.st 14],[ci],λa=>ED N a.1⟩
def HG:eE 14 (HT N):=tg [(17,1),(40,1),(50,1)] [(122,⟨[.r 21 ci,.w 1 1],[(4,1)],[],[]⟩),(979,⟨[.w 1 1],[(4,1)],[],[]⟩)] [] N (.c (Ke N)<|.c (Mw N)<|.c (zeN N)<|.c (IS N)<|.nil) .nil
def uQ:bH:=⟨[],[cb],λa=>gV N⟩
def uV:eE 5 (uQ N):=tg [] [] [(393223,[eP [.p (.k g7),.p (.k (.c (.lit (.int .i64 2))))] 0,zA0]),(917517,[eP [.v ci] 1]),(1966096,[eP [.v ci,.v cb] 2]),(4063255,[eP [.v (.st 14)] 5]),(7696582311949,[.mk p7 [.h 1 1 (.hd 4),.w 4 5,.h 0 21 (xi),.h 0 25 (.hd 3),.w 3 1] [] [(1000000,3)] [] []]),(7696583360528,[eP [.v ci,.v cb] 4])] N (.c (vE N)<|.c (HG N)<|.nil) (.c (Al N)<|.c (qy N)<|.c (xJ N)<|.c (qX N)<|.c (kK N)<|.c (zax N)<|.nil)
def yX:bH:=⟨[.st 10],[cb],λa=>zfM N a.1⟩
def zj:eE 18 (yX N):=tg [] [(58,iD [.r 26 ci]),(122,iD [.r 37 ci])] [] N .nil .nil
def zw:bH:=⟨[.c (.sl 5)],[cb],λa=>zfL N a.1⟩
def zA:eE 19 (zw N):=tg [] [(58,iD [.r 10 ci])] [] N .nil .nil
def yU:bH:=⟨[.st 10,.st 14],[cb],λa=>zdl N a.1 a.2.1⟩
def zK:eE 6 (yU N):=tg [] [(6,iD [.r 40 cb]),(58,iD [.r 44 ci])] [] N (.c (zj N)<|.c (zA N)<|.nil) .nil
def FI:bH:=⟨[ci,ci,ci],[cb],λa=>zdX N a.1 a.2.1 a.2.2.1⟩
def uj:eE 138 (FI N):=tg [] [] [] N .nil .nil
def DQ:bH:=⟨[.st 10,.st 14],[cb],λa=>kC N a.1 a.2.1⟩
def DZ:eE 91 (DQ N):=tg [] [] [] N (.c (uj N)<|.nil) .nil
def Is:bH:=⟨[ci],[ci],λa=>pM N a.1⟩
def Iq:eE 139 (Is N):=tg [] [] [] N (.c (zdq N)<|.nil) .nil
def JM:bH:=⟨[.st 10,.st 14],[cb],λa=>tT N a.1 a.2.1⟩
def JC:eE 92 (JM N):=tg [] [(122,iD [.r 5 ci,.r 17 ci]),(62671,iD [.r 72 cb])] [] N (.c (zeT N)<|.c (Iq N)<|.nil) .nil
def Ol:bH:=⟨[.st 10,ci,.st 0],[ci],λa=>yk N a.1 a.2.1 a.2.2.1⟩
def Nw:eE 201 (Ol N):=tg [] [(122,iD [.r 7 ci,.r 30 ci])] [] N (.c (zcl N)<|.c (Cr N)<|.nil) .nil
def Na:bH:=⟨[.st 10,ci,ci,.st 0],[cb],λa=>zfr N a.1 a.2.1 a.2.2.1 a.2.2.2.1⟩
def Ox:eE 140 (Na N):=tg [] [] [] N (.c (zcl N)<|.c (Nw N)<|.nil) .nil
def FF:bH:=⟨[.st 5,ci],[ci],λa=>jx N a.1 a.2.1⟩
def Fx:eE 203 (FF N):=tg [] [] [] N .nil .nil
end Go.Abs
end
end
