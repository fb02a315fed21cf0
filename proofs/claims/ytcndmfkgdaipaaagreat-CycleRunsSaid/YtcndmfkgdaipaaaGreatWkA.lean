/- Lemmas. -/
import Derived.Test.YtcndmfkgdaipaaaGreatTyPure
import Derived.Test.YtcndmfkgdaipaaaGreatProg
import Derived.Test.YtcndmfkgdaipaaaGreatTyPrim
import Derived.KernelRfl
set_option linter.all false
open _root_ renaming List->Β,Nat->Ε,Bool.true->Γ
section
set_option maxRecDepth 100000
noncomputable section
namespace Go.Abs
open Go.Proofs
variable[Gl]
abbrev ci:dC:=.c (.int .i64)
abbrev cb:dC:=.c .bool
abbrev xi:CP:=.c (.int .i64)
abbrev xb:CP:=.c .bool
abbrev xl(n:Ε):CP:=.c (.sl n)
abbrev xn:CP:=.k (.c (.lit (.slice none 0 0)))
abbrev hi:It:=.cc (.int .i64)
abbrev hb:It:=.cc .bool
abbrev hl(n:Ε):It:=.cc (.sl n)
def dR:Tryz.prog.follows .mixedOrders=Γ:=by kernel_rfl
def KB:dy:=Mw 120 182 1 (λk=>k)
def KB_ok:dy.ok Tryz.prog KB:=SM Tryz.Wu (λk=>rfl)
theorem tg{g:Ε}{S:ui}{s:bz}(H:Β (Ε×Ε))(J:Β (Ε×JH))(C:Β (Ε×Β CT))(N:Ε)(b:fL Tryz.prog S){O:QQ}(d:xB Tryz.prog O)(h:∀a,tG Tryz.prog g S O KB H J C s.ins s.out N a=s.f a:=by intro _;kernel_rfl):bA Tryz.prog g s:=tG_ok dR b d KB_ok h
theorem og{g:Ε}{S:ui}{O:QQ}{s:dA}(N:Ε)(a:fL Tryz.prog S)(b:xB Tryz.prog O)(d:bm Tryz.prog g=Γ:=by kernel_rfl)(h:∀x,oG Tryz.prog g S O KB N s x=s.f x:=by intro _;kernel_rfl):dg Tryz.prog g s:=oG_ok dR a b KB_ok d h
abbrev fL.c:=@fL.cons
abbrev xB.c:=@xB.cons
abbrev eP(g:Ε)(s:bz):=bA Tryz.prog g s
abbrev f9(g:Ε)(s:dA):=dg Tryz.prog g s
abbrev k9(l:Β Pl):JH:=⟨l,[],[],[]⟩
abbrev g8:D:=.c (.lit (.int .i64 0))
abbrev j7:D:=.c (.lit (.pointer none))
abbrev k8:D:=.c (.lit (.slice none 0 0))
abbrev gA(l:Β RO)(n:Ε):CT:=.mk l [] [] [(1000000,n)] [] []
abbrev g6(l:Β RO):CT:=.mk l [] [] [] [] []
abbrev g7(a b c:Ε):NB:=.cells [.pt a 0 2,.pt b 0 2,xl 0,xl 2,xl 3,xi,xi,xi,xi,xi,xi,xi,xi,xi,xi,xi,xi,xi,xi,xi,xi,xi,xi,xl 8,xl 1,.hd c,xi]
end Go.Abs
end
end
section
set_option maxRecDepth 100000
noncomputable section
namespace Go.Abs
open Go.Proofs
variable[Gl](N:Ε)
def uF:bz:=⟨[],[.st 10],λa=>gF N⟩
def ul:eP 40 (uF N):=clo_ok (P:=Tryz.prog) (g:=40) (out:=[.st 10]) (λa=>gF N) dR (by kernel_rfl)
def Gi:bz:=⟨[.st 0],[.st 11],λa=>gS N a.1⟩
def wj:eP 209 (Gi N):=tg [] [] [] N .nil .nil
def Nf:bz:=⟨[.st 0],[cb],λa=>QL N a.1⟩
def zci:eP 163 (Nf N):=tg [] [(26,k9 [.r 7 ci])] [] N (.c (wj N)<|.nil) .nil
def AU:bz:=⟨[.st 10],[cb],λa=>fX N a.1⟩
def Aa:eP 243 (AU N):=tg [] [(58,k9 [.r 18 ci])] [] N (.c (zci N)<|.nil) .nil
def Ba:bz:=⟨[.c (.sl 1),ci],[cb],λa=>zfq N a.1 a.2.1⟩
def pO:eP 282 (Ba N):=tg [] [(58,k9 [.r 5 ci,.r 10 ci])] [] N .nil .nil
def AT:bz:=⟨[.st 10],[cb],λa=>fR N a.1⟩
def zW:eP 245 (AT N):=tg [] [(58,k9 [.r 18 ci]),(3737,k9 [.r 32 cb])] [] N (.c (pO N)<|.nil) .nil
def zm:bz:=⟨[.st 10],[cb],λa=>zfF N a.1⟩
def yx:eP 248 (zm N):=tg [] [(58,k9 [.r 20 ci]),(7474,k9 [.r 42 cb]),(59802,k9 [.r 50 ci])] [] N (.c (pO N)<|.nil) .nil
def xw:bz:=⟨[.st 12],[cb],λa=>ze8 N a.1⟩
def xj:eP 250 (xw N):=tg [] [(26,k9 [.r 14 ci])] [] N .nil .nil
def KT:bz:=⟨[.st 10],[.c .str],λa=>Dr N a.1⟩
def KV:eP 130 (KT N):=tg [] [(26,⟨[],[],[(1000003,40)],[]⟩)] [(786438,[.mk [] [] [] [(1000002,0),(43,1000001)] [] [(393225,[.mk [] [] [] [(1000002,0)] [] []]),(393232,[.mk [] [] [] [(1000002,0)] [] []]),(393237,[.mk [] [] [] [(1000002,0)] [] []]),(393240,[.mk [] [] [] [(1000002,0)] [] []]),(393243,[.mk [] [] [] [(1000002,0)] [] []]),(393246,[.mk [] [] [] [(1000002,0)] [] []]),(393249,[.mk [] [] [] [(1000002,0)] [] []]),(393252,[.mk [] [] [] [(1000002,0)] [] []]),(393255,[.mk [] [] [] [(1000002,0)] [] []]),(393258,[.mk [] [] [] [(1000002,0)] [] []])]]),(221380622,[g6 [.v cb]])] N (.c (Aa N)<|.c (zW N)<|.c (yx N)<|.c (xj N)<|.nil) .nil
def Iq:bz:=⟨[.st 10],[cb],λa=>R_ N a.1⟩
def zcg:eP 67 (Iq N):=tg [] [] [] N (.c (KV N)<|.nil) .nil
def AG:dA:=⟨g6 [.v ci],[g6 [.p (.k j7),.p (.k (.c (.lit (.int .i64 2))))],.mk [.p (.pt 0 0 2),.p (.k g8)] [] [.cells [xi,xn]] [] [] []],λa=>zeJ N a⟩
def oI:f9 96 (AG N):=og (g:=96) N .nil .nil
def iC:bz:=⟨[.c (.sl 0)],[.c (.sl 0)],λa=>zbc N a.1⟩
def zds:eP 152 (iC N):=wF (i:=0) (sz:=32) (z:=[g8,g8,g8,g8]) (fn:=Tryz.f152) dR (by kernel_rfl) (by kernel_rfl) (by kernel_rfl) rfl
def zx:dA:=⟨g6 [.v (.st 10)],[.mk [.p (.k j7),.p (.k (.c (.lit (.int .i64 2))))] [] [] [(10,15)] [] [],.mk [.p (.pt 0 0 2),.p (.k g8)] [] [.cells [xl 0,.mr 1],.mp 7 Γ] [] [] []],λa=>zc6 N a⟩
def zfK:f9 97 (zx N):=og (g:=97) N (.c (zcg N)<|.c (zds N)<|.nil) .nil
def jP:dA:=⟨g6 [.v (.c (.sl 2))],[.mk [.p (.hd 0)] [] [.row 2] [] [] []],λx=>zcR N x⟩
def jM:f9 153 (jP N):=jT (i:=2) (sz:=24) (z:=[k8]) (fn:=Tryz.f153) dR (by kernel_rfl) (by kernel_rfl) (by kernel_rfl) rfl
def ql:bz:=⟨[.c (.sl 1)],[.c (.sl 1)],λa=>za5 N a.1⟩
def zdw:eP 58 (ql N):=wF (i:=1) (sz:=8) (z:=[g8]) (fn:=Tryz.f58) dR (by kernel_rfl) (by kernel_rfl) (by kernel_rfl) rfl
def zeB:dA:=⟨g6 [.v (.c (.sl 3))],[.mk [.p (.hd 0)] [] [.row 3] [] [] []],λx=>zbu N x⟩
def zeA:f9 154 (zeB N):=jT (i:=3) (sz:=64) (z:=[g8,k8,g8,g8,g8,g8]) (fn:=Tryz.f154) dR (by kernel_rfl) (by kernel_rfl) (by kernel_rfl) rfl
def BW:bz:=⟨[.st 10],[.st 10],λa=>zdr N a.1⟩
def hZ:eP 98 (BW N):=tg [] [(122,⟨[.r 16 ci,.w 2 2],[],[],[(0,1,2)]⟩),(506,⟨[.r 37 ci,.w 3 3],[],[],[(0,2,3)]⟩)] [(917515,[.mk [.p (.hd 2)] [] [.row 2] [(1000000,0)] [] []]),(4063264,[.mk [.p (.hd 3)] [] [.row 3] [(1000000,1)] [] []])] N (.c (zds N)<|.c (zdw N)<|.nil) (.c (jM N)<|.c (zeA N)<|.nil)
def Ez:bz:=⟨[ci,ci,ci],[ci],λa=>Yp N a.1 a.2.1 a.2.2.1⟩
def fW:eP 155 (Ez N):=tg [] [] [] N .nil .nil
def MV:bz:=⟨[ci],[.c (.sl 1)],λa=>rB N a.1⟩
def BB:eP 99 (MV N):=tg [(5,1)] [] [] N (.c (fW N)<|.nil) .nil
def An:dA:=⟨g6 [.v (.st 10)],[.mk [.p (.k j7),.p (.k (.c (.lit (.int .i64 2))))] [] [] [(37,1)] [(3298534883343,⟨[],[],[(1049601,5)],[]⟩)] [(917517,[gA [.p (.k j7),.p (.k (.c (.lit (.int .i64 2))))] 0,.mk [.p (.pt 1 0 2),.p (.k g8)] [] [.cells [xi,xn]] [] [] []]),(4063253,[gA [.p (.k j7),.p (.k (.c (.lit (.int .i64 2))))] 1,.mk [.p (.pt 3 0 2),.p (.k g8)] [] [.cells [xl 0,.mr 4],.mp 7 Γ] [] [] []])],.mk [.p (.pt 0 0 27),.p (.k g8)] [] [g7 1 2 3,.cells [xi,.hd 4],.cells [xl 0,.mr 5],.row 1,.row 5,.mp 7 Γ] [] [] []],λa=>tV N a⟩
def zY:f9 39 (An N):=og (g:=39) N (.c (zcg N)<|.c (hZ N)<|.c (BB N)<|.nil) (.c (oI N)<|.c (zfK N)<|.nil)
def qt:dA:=⟨g6 [.p (.k j7),.v (.st 5)],[g6 [.v ci]],λx=>jz N⟩
def qJ:f9 87 (qt N):=og (g:=87) N .nil .nil
def oH:dA:=⟨g6 [.p (.k j7)],[g6 [.v (.st 14)]],λx=>gQ N⟩
def oM:f9 15 (oH N):=og (g:=15) N .nil .nil
def Qj:bz:=⟨[ci],[cb],λa=>Rm N a.1⟩
def zfS:eP 90 (Qj N):=tg [] [] [] N .nil .nil
def zr:dA:=⟨g6 [.p (.k j7)],[.mk [.v cb] [] [] [] [(26,k9 [.r 9 ci])] [(786438,[gA [.v (.st 14)] 0])]],λx=>zd5 N⟩
def lM:f9 30 (zr N):=og (g:=30) N (.c (zfS N)<|.nil) (.c (oM N)<|.nil)
def Aw:dA:=⟨g6 [.p (.k j7)],[g6 [.v (.st 16),.v ci]],λx=>zeK N⟩
def nP:f9 29 (Aw N):=og (g:=29) N .nil .nil
def Ie:bz:=⟨[ci,ci,ci],[cb],λa=>QS N a.1 a.2.1 a.2.2.1⟩
def qD:eP 160 (Ie N):=tg [] [] [] N .nil .nil
def Bp:bz:=⟨[.st 5],[cb],λa=>i_ N a.1⟩
def Bo:eP 193 (Bp N):=tg [] [(58,k9 [.r 12 ci])] [] N (.c (qD N)<|.nil) .nil
def Lv:bz:=⟨[ci],[.c .str],λa=>ym N a.1⟩
def LY:eP 252 (Lv N):=tg [] [] [] N .nil .nil
def IH:bz:=⟨[ci],[cb],λa=>jU N a.1⟩
def zH:eP 208 (IH N):=tg [] [] [] N .nil .nil
def MC:bz:=⟨[ci],[cb],λa=>Yw N a.1⟩
def ij:eP 134 (MC N):=tg [] [] [] N .nil .nil
def Cn:bz:=⟨[.st 5],[cb],λa=>ja N a.1⟩
def BI:eP 194 (Cn N):=tg [] [(51,k9 [.r 8 cb]),(207,k9 [.r 17 cb])] [] N (.c (LY N)<|.c (ij N)<|.c (zH N)<|.nil) .nil
def Lo:bz:=⟨[.st 5],[cb],λa=>zfk N a.1⟩
def zfX:eP 132 (Lo N):=tg [] [] [] N (.c (qD N)<|.c (zci N)<|.c (Bo N)<|.c (BI N)<|.nil) .nil
def il:bz:=⟨[.c (.sl 4)],[.c (.sl 4)],λa=>zaC N a.1⟩
def zb0:eP 162 (il N):=wF (i:=4) (sz:=16) (z:=[g8,.c (.lit (.bool false))]) (fn:=Tryz.f162) dR (by kernel_rfl) (by kernel_rfl) (by kernel_rfl) rfl
def LX:bz:=⟨[.st 5],[.st 5],λa=>jG N a.1⟩
def mg:eP 119 (LX N):=tg [] [] [] N (.c (zb0 N)<|.nil) .nil
def oZ:dA:=⟨.mk [.p (.pt 0 0 2),.v ci] [] [.cells [xi,.hd 1],.row 5] [] [] [],[.mk [.v ci,.v cb] [] [] [] [] [(393229,[.mk [.v ci] [] [] [] [(28,k9 [.r 5 ci,.r 6 ci])] [(59375636,[g6 [.v cb]])]])]],λ(a,b,_)=>zaQ N a b⟩
def zdq:f9 156 (oZ N):=og (g:=156) N .nil .nil
def zeX:dA:=⟨.mk [.p (.hd 0),.v ci,.p (.hd 1)] [] [.row 5,.row 5] [] [] [],[.mk [.p (.hd 0)] [.w 0 5] [] [] [] []],λ(a,b,d)=>zbC N a b d⟩
def zeM:f9 167 (zeX N):=og (g:=167) N .nil .nil
def qE:dA:=⟨.mk [.p (.pt 0 0 2),.v (.st 5)] [] [.cells [xi,.hd 1],.row 5] [] [] [],[.mk [.v ci] [.h 0 1 (.hd 1),.w 1 5] [] [(38,5)] [] [(1966096,[gA [.v ci,.v cb] 0]),(16646183,[.mk [.p (.hd 1)] [.w 1 5] [] [(1000000,1)] [] []])]],λ(a,b,d)=>zch N a b d⟩
def zfU:f9 106 (qE N):=og (g:=106) N (.c (zfX N)<|.c (mg N)<|.nil) (.c (zdq N)<|.c (zeM N)<|.nil)
def Hl:bz:=⟨[ci],[ci],λa=>kK N a.1⟩
def wQ:eP 104 (Hl N):=tg [] [] [] N .nil .nil
def oJ:dA:=⟨.mk [.p (.pt 0 0 27),.v ci] [] [g7 1 2 3,.cells [xi,.hd 4],.cells [xl 0,.mr 5],.row 1,.row 5,.mp 7 Γ] [] [] [],[.mk [] [.w 3 1,.h 0 25 (.hd 3)] [] [] [] []],λ(a,_,_,b,_,_,_,_,_,_,_,_,_,_,_,_,_,_,_,_,_,_,_,_,_,_,_,_,_,_)=>zbm N a b⟩
def zfg:f9 150 (oJ N):=og (g:=150) N (.c (wQ N)<|.nil) .nil
def qw:dA:=⟨.mk [.p (.pt 0 0 27),.v (.st 5)] [] [g7 1 2 3,.cells [xi,.hd 4],.cells [xl 0,.mr 5],.row 1,.row 5,.mp 7 Γ] [] [] [],[.mk [.v ci] [.h 1 1 (.hd 4),.w 4 5,.h 0 21 (xi),.h 0 25 (.hd 3),.w 3 1] [] [] [] [(8126509,[.mk [.v ci] [.h 1 1 (.hd 4),.w 4 5] [] [(1000000,0)] [] []]),(16646203,[.mk [] [.w 3 1,.h 0 25 (.hd 3)] [] [(1000000,1)] [] []])]],λ(e,f,_,g,_,_,_,_,_,_,_,_,_,_,_,a,_,_,_,_,_,_,_,b,_,_,_,_,d,_)=>jx N e f g a b d⟩
def qF:f9 87 (qw N):=og (g:=87) N (.c (zfX N)<|.nil) (.c (zfU N)<|.c (zfg N)<|.nil)
def zfP:dA:=⟨.mk [.p (.hd 0)] [] [.row 5] [] [] [],[.mk [.p (.hd 1)] [] [.row 5] [] [] []],λx=>zbV N x⟩
def zfL:f9 118 (zfP N):=Of (ii:=5) (sz:=152) (z:=[g8,g8,g8,g8,g8,g8,g8,g8,g8,k8,g8,.c (.lit (.bool false)),.c (.lit (.bool false)),g8,g8,g8,g8,g8]) (fn:=Tryz.f118) dR (by kernel_rfl) (by kernel_rfl) (by kernel_rfl) rfl
def qi:dA:=⟨.mk [.p (.pt 0 0 2)] [] [.cells [xi,.hd 1],.row 5] [] [] [],[.mk [.v (.c (.sl 5))] [] [] [] [(122,⟨[.r 15 ci,.w 2 5],[(3,2),(13,2)],[],[]⟩)] [(917516,[.mk [.p (.hd 2)] [] [.row 5] [(1000000,0)] [] []])]],λ(a,_)=>zdn N a⟩
def qz:f9 55 (qi N):=og (g:=55) N (.c (mg N)<|.nil) (.c (zfL N)<|.nil)
def zfp:bz:=⟨[.c (.sl 6)],[.c (.sl 6)],λa=>zbJ N a.1⟩
def zfs:eP 183 (zfp N):=wF (i:=6) (sz:=16) (z:=[g8,g8]) (fn:=Tryz.f183) dR (by kernel_rfl) (by kernel_rfl) (by kernel_rfl) rfl
def Iu:bz:=⟨[.st 7],[.st 7],λa=>jF N a.1⟩
def zA:eP 122 (Iu N):=tg [] [] [] N (.c (zfs N)<|.nil) .nil
def nK:dA:=⟨.mk [.p (.pt 0 0 2)] [] [.cells [xl 0,.mr 1],.mp 7 Γ] [] [] [],[.mk [.v (.c (.sl 7))] [] [] [(27,7)] [(122,⟨[.r 15 ci,.w 3 7],[(3,3)],[(3,7)],[]⟩)] [(3932172,[.mk [] [] [] [(1000002,0)] [] []]),(3932173,[gA [.v (.c (.sl 1))] 999999])]],λ(a,_)=>bp N a⟩
def nI:f9 56 (nK N):=og (g:=56) N (.c (zA N)<|.nil) .nil
def zeD:bz:=⟨[.c (.sl 8)],[.c (.sl 8)],λa=>za1 N a.1⟩
def zex:eP 57 (zeD N):=wF (i:=8) (sz:=32) (z:=[g8,g8,g8,g8]) (fn:=Tryz.f57) dR (by kernel_rfl) (by kernel_rfl) (by kernel_rfl) rfl
def mj:dA:=⟨.mk [.p (.hd 0)] [] [.row 1] [] [] [],[.mk [.p (.hd 1)] [] [.row 1] [] [] []],λx=>zcm N x⟩
def mB:f9 58 (mj N):=Of (ii:=1) (sz:=8) (z:=[g8]) (fn:=Tryz.f58) dR (by kernel_rfl) (by kernel_rfl) (by kernel_rfl) rfl
def nN:dA:=⟨.mk [.p (.pt 0 0 27)] [] [g7 1 2 3,.cells [xi,.hd 4],.cells [xl 0,.mr 5],.row 1,.row 5,.mp 7 Γ] [] [] [],[.mk [.v (.st 14)] [] [] [] [] [(917526,[gA [.v (.c (.sl 5))] 0]),(917531,[gA [.v (.c (.sl 7))] 1]),(917547,[.mk [.p (.hd 7)] [] [.row 1] [(1000000,2)] [] []])]],λ(h,i,j,_,_,_,_,_,_,_,_,_,_,_,_,_,_,_,_,_,_,a,b,d,e,f,g,_,_)=>UT N h i j a b d e f g⟩
def za7:f9 15 (nN N):=og (g:=15) N (.c (zex N)<|.c (zdw N)<|.nil) (.c (qz N)<|.c (nI N)<|.c (mB N)<|.nil)
def zt:dA:=⟨.mk [.p (.pt 0 0 27)] [] [g7 1 2 3,.cells [xi,.hd 4],.cells [xl 0,.mr 5],.row 1,.row 5,.mp 7 Γ] [] [] [],[.mk [.v cb] [] [] [] [(26,k9 [.r 9 ci])] [(786438,[gA [.v (.st 14)] 0])]],λ(h,i,j,_,_,_,_,_,_,_,_,_,_,_,_,_,_,_,_,_,_,a,b,d,e,f,g,_,_)=>zcA N h i j a b d e f g⟩
def lW:f9 30 (zt N):=og (g:=30) N (.c (zfS N)<|.nil) (.c (za7 N)<|.nil)
def oX:dA:=⟨.mk [.p (.pt 0 0 27)] [] [g7 1 2 3,.cells [xi,.hd 4],.cells [xl 0,.mr 5],.row 1,.row 5,.mp 7 Γ] [] [] [],[g6 [.v (.st 10)]],λ(_,_,_,m,n,o,p,q,r,s,a,b,d,e,f,g,h,i,j,k,l,_,_,_,_,_,_,_,_)=>zaO N m n o p q r s a b d e f g h i j k l⟩
def zbe:f9 89 (oX N):=og (g:=89) N (.c (hZ N)<|.nil) .nil
def qN:dA:=⟨.mk [.p (.pt 0 0 2),.v ci] [] [.cells [xi,.hd 1],.row 5] [] [] [],[.mk [.v (.st 5),.v cb] [] [] [] [] [(917518,[gA [.v ci,.v cb] 0])]],λ(a,b,_)=>zcj N a b⟩
def zfT:f9 100 (qN N):=og (g:=100) N (.c (mg N)<|.nil) (.c (zdq N)<|.nil)
def qv:dA:=⟨.mk [.p (.pt 0 0 27),.v ci] [] [g7 1 2 3,.cells [xi,.hd 4],.cells [xl 0,.mr 5],.row 1,.row 5,.mp 7 Γ] [] [] [],[.mk [.v (.st 5),.v cb] [] [] [] [] [(917518,[gA [.v (.st 5),.v cb] 0])]],λ(_,a,_,b,_,_,_,_,_,_,_,_,_,_,_,_,_,_,_,_,_,_,_,_,_,_,_,_,_,_)=>zda N a b⟩
def qg:f9 52 (qv N):=og (g:=52) N .nil (.c (zfT N)<|.nil)
end Go.Abs
end
end
section
set_option maxRecDepth 100000
noncomputable section
namespace Go.Abs
open Go.Proofs
variable[Gl](N:Ε)
def Lw:bz:=⟨[.st 5],[ci],λa=>xO N a.1⟩
def KH:eP 124 (Lw N):=tg [] [(6,k9 [.r 11 cb])] [] N (.c (zfX N)<|.c (zfS N)<|.nil) .nil
def Iw:bz:=⟨[.st 8,ci],[cb],λa=>sE N a.1 a.2.1⟩
def Iy:eP 198 (Iw N):=tg [] [] [] N .nil .nil
def Ij:bz:=⟨[.c (.sl 8),ci,ci,ci],[cb],λa=>gy N a.1 a.2.1 a.2.2.1 a.2.2.2.1⟩
def zB:eP 138 (Ij N):=tg [] [(26,k9 [.r 13 ci])] [] N .nil .nil
def H_:bz:=⟨[.c (.sl 8),ci],[cb],λa=>nL N a.1 a.2.1⟩
def zF:eP 137 (H_ N):=tg [] [(58,k9 [.r 12 ci]),(3737,k9 [.r 47 cb])] [] N (.c (Iy N)<|.c (zB N)<|.nil) .nil
def GL:bz:=⟨[.c (.sl 6),ci],[cb],λa=>zfN N a.1 a.2.1⟩
def hY:eP 157 (GL N):=tg [] [(58,k9 [.r 5 ci,.r 10 ci])] [] N .nil .nil
def Co:bz:=⟨[.c (.sl 17),ci,ci],[cb],λa=>iY N a.1 a.2.1 a.2.2.1⟩
def BH:eP 184 (Co N):=tg [] [(26,k9 [.r 11 ci]),(1689,k9 [.r 36 cb])] [] N (.c (hY N)<|.c (zci N)<|.nil) .nil
def F_:bz:=⟨[.c (.sl 18)],[cb],λa=>zeL N a.1⟩
def ig:eP 233 (F_ N):=tg [] [(58,k9 [.r 3 ci,.r 8 ci]),(7474,k9 [.r 26 cb])] [] N (.c (zci N)<|.nil) .nil
def ML:bz:=⟨[ci,.st 0],[.c (.sl 18),ci],λa=>xJ N a.1 a.2.1⟩
def LH:eP 185 (ML N):=tg [(10,18)] [] [] N (.c (ig N)<|.nil) .nil
def Al:dA:=⟨g6 [.v (.st 0)],[g6 [.ag [.cx,.cx]]],λa=>zdE N a⟩
def oA:f9 211 (Al N):=og (g:=211) N .nil .nil
def Cj:dA:=⟨g6 [.ag [.cx,.cx]],[g6 [.v (.st 0)]],λ(a,b)=>nU N a b⟩
def Cu:f9 255 (Cj N):=og (g:=255) N .nil .nil
def yz:dA:=⟨g6 [.ag [.cx,.cx]],[.mk [.v (.st 0),.v ci] [] [] [] [] [(393222,[gA [.v (.st 0)] 0])]],λ(a,b)=>zd9 N a b⟩
def lO:f9 212 (yz N):=og (g:=212) N (.c (zci N)<|.nil) (.c (Cu N)<|.nil)
def Lh:bz:=⟨[.st 0,ci],[.st 0,ci],λa=>rN N a.1 a.2.1⟩
def tA:eP 210 (Lh N):=tg [] [] [(4063256,[gA [.ag [.cx,.cx]] 0]),(8257573,[gA [.v (.st 0),.v ci] 1])] N (.c (zci N)<|.nil) (.c (oA N)<|.c (lO N)<|.nil)
def Iv:bz:=⟨[.c (.sl 18),ci],[ci],λa=>f_ N a.1 a.2.1⟩
def zdf:eP 274 (Iv N):=tg [] [] [(393224,[.mk [.v ci] [] [] [] [(28,k9 [.r 5 ci,.r 6 ci])] [(59375636,[g6 [.v cb]])]])] N .nil .nil
def ze2:dA:=⟨g6 [.v (.c (.sl 18))],[.mk [.p (.hd 0)] [] [.row 18] [] [] []],λx=>za8 N x⟩
def zcn:f9 298 (ze2 N):=jT (i:=18) (sz:=40) (z:=[g8,g8,g8,g8,g8]) (fn:=Tryz.f298) dR (by kernel_rfl) (by kernel_rfl) (by kernel_rfl) rfl
def zb7:dA:=⟨.mk [.p (.hd 0),.v ci,.p (.hd 1)] [] [.row 18,.row 18] [] [] [],[.mk [.p (.hd 0)] [.w 0 18] [] [] [] []],λ(a,b,d)=>zaG N a b d⟩
def zeg:f9 299 (zb7 N):=og (g:=299) N .nil .nil
def zeP:dA:=⟨.mk [.p (.hd 0),.v ci,.p (.hd 1)] [] [.row 18,.row 18] [] [] [],[.mk [.p (.hd 0)] [.w 0 18] [] [] [] []],λx=>za4 N x.1 x.2.1 x.2.2⟩
def insR_299:Go.Shelf.Ren:=⟨λ| 22=>299 | 29=>303 | 30=>304 | n=>n,λ| 24=>254 | 9=>298 | 3=>3 | 4=>4 | 0=>0 | n=>n,λn=>n⟩
def PH:PF Tryz.prog insR_299 5 40 "slices.Insert[[]drayage/api.Step,drayage/api.Step]" (.agg #[.int .i64 0,.int .i64 0,.int .i64 0,.int .i64 0,.int .i64 0]):={ mixed:=dR,f22:=Tryz.func299.trans (congrArg some (by kernel_rfl)),ov:=λargs w=>Go.run_callFunc_extern Tryz.func303 (by kernel_rfl) (by kernel_rfl) (by kernel_rfl) (by kernel_rfl) args w,t0:=Tryz.underlying0,t3:=Tryz.underlying3,t4:=Tryz.underlying4,a3:=Tryz.isAgg3,z3:=Tryz.sizeOf3,a4:=Tryz.isAgg4,z4:=Tryz.sizeOf4,z9:=Tryz.sizeOf298,v9:=Tryz.zeroValue298,t24:=Tryz.underlying254,a24:=Tryz.isAgg254,z24:=Tryz.sizeOf254,v24:=Tryz.zeroValue254,i9:=by kernel_rfl }
def zeU:f9 299 (zeP N):=dg.or (f1:=(zb7 N).f) (f2:=λx=>Pw (α:=TT 18) x.1 x.2.1 x.2.2) (zeg N) (JG (ii:=18) PH (by kernel_rfl) (by kernel_rfl) (by kernel_rfl) (by kernel_rfl) (by kernel_rfl))
def Kz:bz:=⟨[.c (.sl 18),ci],[.c (.sl 18)],λa=>qR N a.1 a.2.1⟩
def mh:eP 273 (Kz N):=tg [(30,18)] [] [(917515,[.mk [.p (.hd 0)] [] [.row 18] [(1000000,0)] [] []]),(4063263,[.mk [.p (.hd 0)] [.w 0 18] [] [(1000000,1)] [] []])] N (.c (zdf N)<|.nil) (.c (zcn N)<|.c (zeU N)<|.nil)
def zbT:dA:=⟨.mk [.p (.hd 0),.v ci,.p (.hd 1)] [] [.row 18,.row 18] [] [] [],[.mk [.p (.hd 0)] [.w 0 18] [] [] [] []],λ(a,b,d)=>zaG N a b d⟩
def zd8:f9 299 (zbT N):=og (g:=299) N .nil .nil
def zew:dA:=⟨.mk [.p (.hd 0),.v ci,.p (.hd 1)] [] [.row 18,.row 18] [] [] [],[.mk [.p (.hd 0)] [.w 0 18] [] [] [] []],λx=>zcF N x.1 x.2.1 x.2.2⟩
def zez:f9 299 (zew N):=dg.or (f1:=(zbT N).f) (f2:=λx=>Pw (α:=TT 18) x.1 x.2.1 x.2.2) (zd8 N) (JG (ii:=18) PH (by kernel_rfl) (by kernel_rfl) (by kernel_rfl) (by kernel_rfl) (by kernel_rfl))
def AN:dA:=⟨g6 [.v (.c (.sl 18)),.v ci],[.mk [.p (.hd 0)] [] [.row 18] [(30,18)] [] [(917515,[.mk [.p (.hd 0)] [] [.row 18] [(1000000,0)] [] []]),(4063263,[.mk [.p (.hd 0)] [.w 0 18] [] [(1000000,1)] [] []])]],λ(a,b)=>lr N a b⟩
def Aj:f9 273 (AN N):=og (g:=273) N (.c (zdf N)<|.nil) (.c (zcn N)<|.c (zez N)<|.nil)
def Sg:bz:=⟨[.st 0,.st 0],[.st 0,ci],λa=>Cf N a.1 a.2.1⟩
def FM:eP 165 (Sg N):=tg [] [(6,k9 [.r 15 cb])] [(917522,[gA [.ag [.cx,.cx]] 0]),(917524,[gA [.ag [.cx,.cx]] 0]),(1966112,[gA [.v (.st 0),.v ci] 1])] N (.c (zci N)<|.nil) (.c (oA N)<|.c (lO N)<|.nil)
def FU:bz:=⟨[.c (.sl 18)],[.c (.sl 18)],λa=>pA N a.1⟩
def FX:eP 275 (FU N):=tg [(13,18),(36,18)] [(122,⟨[.r 17 ci,.w 0 18],[(3,0)],[],[]⟩),(979,⟨[.w 0 18],[(3,0)],[],[]⟩)] [] N (.c (ig N)<|.nil) .nil
def qy:bz:=⟨[.c (.sl 18),ci,ci,.st 0,.k 165],[.c (.sl 18),ci],λa=>zeT N a.1 a.2.1 a.2.2.1 a.2.2.2.1⟩
def qf:eP 234 (qy N):=tg [] [(6,k9 [.r 40 cb]),(62,⟨[],[],[(12,18)],[]⟩),(122,⟨[.r 13 ci,.w 1 18],[(12,1)],[],[]⟩)] [(917549,[.mk [.p (.hd 1)] [] [.row 18] [(1000000,0)] [] []])] N (.c (mh N)<|.c (zdf N)<|.c (FM N)<|.c (FX N)<|.c (ig N)<|.c (zci N)<|.nil) (.c (Aj N)<|.nil)
def IC:bz:=⟨[.c (.sl 18),ci,ci,.st 0],[.c (.sl 18),ci],λa=>nH N a.1 a.2.1 a.2.2.1 a.2.2.2.1⟩
def qk:eP 186 (IC N):=tg [] [] [] N (.c (qf N)<|.nil) .nil
def nF:dA:=⟨.mk [.p (.pt 0 0 3),.v ci,.v ci,.v (.c (.sl 6)),.v (.st 0)] [] [.cells [xi,.hd 1,.hd 2],.row 2,.row 19] [] [] [],[.mk [.v ci] [.h 0 2 (.hd 2),.w 2 19] [] [(20,19)] [(58,⟨[.r 23 ci,.w 4 19],[(11,4)],[],[]⟩),(122,⟨[.r 62 ci,.w 2 19],[],[],[(0,2,2)]⟩)] []],λ(_,a,b,d,e,f,_)=>zbn N a b d e f⟩
def oC:f9 179 (nF N):=og (g:=179) N (.c (tA N)<|.c (qk N)<|.nil) .nil
def Cq:dA:=⟨.mk [.v (.st 10),.v ci,.p (.hd 0),.v (.c (.sl 8))] [] [.row 17] [] [] [],[.mk [.p (.k j7),.v ci] [] [] [(69,2),(96,19)] [(6,k9 [.r 51 cb]),(122,⟨[.r 58 ci,.w 3 2],[],[(1050625,2)],[(2,1,3)]⟩),(250,⟨[.r 77 ci,.w 4 19],[],[(1050626,19)],[(2,2,4)]⟩),(506,⟨[.r 103 ci,.w 4 19],[],[],[(2,2,4)]⟩),(1018,⟨[.r 122 ci,.w 4 19],[],[],[(2,2,4)]⟩),(8147,⟨[.w 4 19],[],[],[(2,2,4)]⟩)] [(4247912563,[.mk [.v ci] [.h 2 2 (.hd 4),.w 4 19] [] [(1000000,0)] [] []])],.mk [.p (.pt 1 0 3),.p (.k g8)] [] [.cells [xi,xl 2,.hd 2],.row 19] [] [] []],λ(a,b,d,e)=>zfl N a b d e⟩
def BJ:f9 125 (Cq N):=og (g:=125) N (.c (zdw N)<|.c (LH N)<|.c (qk N)<|.c (zcg N)<|.c (zF N)<|.c (BH N)<|.nil) (.c (oC N)<|.nil)
def sH:dA:=⟨.mk [.p (.pt 0 0 27)] [] [g7 1 2 3,.cells [xi,.hd 4],.cells [xl 0,.mr 5],.row 1,.row 5,.mp 7 Γ] [] [] [],[.mk [.p (.k j7),.v ci] [] [] [(17,17),(40,17)] [(250,⟨[.r 21 ci,.w 7 17],[(5,7)],[],[]⟩)] [(917517,[gA [.v (.st 14)] 0]),(8257580,[gA [.v (.st 10)] 2]),(8257586,[gA [.p (.k j7),.v ci] 3,.mk [.p (.pt 8 0 3),.p (.k g8)] [] [.cells [xi,xl 2,.hd 9],.row 19] [] [] []]),(2100428829,[gA [.v (.st 5),.v cb] 1])],.mk [.p (.pt 6 0 3),.p (.k g8)] [] [.cells [xi,xl 2,.hd 7],.row 19] [] [] []],λ(s,t,u,v,w,x,y,z,A,E,a,b,d,e,f,g,h,i,j,k,l,m,n,o,p,q,r,_,_)=>zcX N s t u v w x y z A E a b d e f g h i j k l m n o p q r⟩
def ic:f9 61 (sH N):=og (g:=61) N (.c (KH N)<|.nil) (.c (za7 N)<|.c (qg N)<|.c (zbe N)<|.c (BJ N)<|.nil)
def MN:bz:=⟨[ci,.c (.sl 5)],[.st 5,cb],λa=>xK N a.1 a.2.1⟩
def KU:eP 221 (MN N):=tg [] [(26,k9 [.r 9 ci])] [] N .nil .nil
def NI:bz:=⟨[.st 4,.st 5],[cb],λa=>FR N a.1 a.2.1⟩
def Pq:eP 222 (NI N):=tg [] [] [] N (.c (ij N)<|.nil) .nil
def QK:bz:=⟨[.st 5,.c (.sl 5)],[cb],λa=>oe N a.1 a.2.1⟩
def Od:eP 173 (QK N):=tg [] [(26,k9 [.r 12 ci]),(3379,k9 [.r 30 cb])] [] N (.c (KU N)<|.c (Pq N)<|.nil) .nil
def Dq:bz:=⟨[.c (.sl 5)],[.c (.sl 5)],λa=>fP N a.1⟩
def ry:ItSp Tryz.prog 172 (Dq N):=able_ok (i:=5) (gm:=173) (so:=10) (ti:=3) (tb:=4) (z:=[g8,g8,g8,g8,g8,g8,g8,g8,g8,k8,g8,.c (.lit (.bool false)),.c (.lit (.bool false)),g8,g8,g8,g8,g8]) (fn:=Tryz.f172) (st:=λ(a:aJ)=>a.State) (met:=λ(a:aJ) (l:Β aJ)=>oe N a l) dR (by kernel_rfl) (by kernel_rfl) (Od N) rfl (λa=>by kernel_rfl) (λx y=>by kernel_rfl) (λx=>by kernel_rfl) (λx=>by kernel_rfl) (λx=>by kernel_rfl)
def Es:bz:=⟨[ci],[ci],λa=>zdP N a.1⟩
def Ey:eP 288 (Es N):=tg [] [] [] N (.c (fW N)<|.nil) .nil
def PE:bz:=⟨[ci,ci],[ci],λa=>rj N a.1 a.2.1⟩
def Ps:eP 289 (PE N):=tg [] [] [] N .nil .nil
def IL:bz:=⟨[.st 10,.st 5,ci,.c (.sl 1)],[.st 11],λa=>oB N a.1 a.2.1 a.2.2.1 a.2.2.2.1⟩
def Is:eP 259 (IL N):=tg [] [(15,k9 [.r 9 ci]),(31,k9 [.r 10 ci])] [] N (.c (zcg N)<|.c (Ps N)<|.c (fW N)<|.c (Ey N)<|.nil) .nil
def Tq:bz:=⟨[.st 10,.st 5,ci,.c (.sl 1)],[ci],λa=>pK N a.1 a.2.1 a.2.2.1 a.2.2.2.1⟩
def TN:eP 223 (Tq N):=tg [] [] [] N (.c (Is N)<|.nil) .nil
def Ov:bz:=⟨[.st 10,.st 5,.st 21],[.st 22],λa=>kU N a.1 a.2.1 a.2.2.1⟩
def NA:eP 174 (Ov N):=tg [] [] [] N (.c (TN N)<|.nil) .nil
def DB:bz:=⟨[ci],[cb],λa=>cmp_isNaN_int N a.1⟩
def DG:eP 292 (DB N):=tg [] [] [] N .nil .nil
def AJ:bz:=⟨[ci,ci],[ci],λa=>fT N a.1 a.2.1⟩
def Ax:eP 261 (AJ N):=tg [] [] [] N (.c (DG N)<|.nil) .nil
def oq:bz:=⟨[.c (.sl 1),.c (.sl 1)],[ci],λa=>zaD N a.1 a.2.1⟩
def zfh:eP 226 (oq N):=tg [] [(26,k9 [.r 11 ci])] [] N (.c (Ax N)<|.nil) .nil
def zfM:dA:=⟨.mk [.p (.hd 0),.v ci,.v ci,.v ci,.p (.fb 225 1 1)] [] [.row 1,.cells [xl 22]] [] [] [],[.mk [] [.w 0 1] [] [] [(63,k9 [.r 20 ci,.r 21 ci]),(172,k9 [.r 10 ci,.r 11 ci]),(428,k9 [.r 14 ci,.r 15 ci]),(698,⟨[.r 13 ci,.w 0 1],[(0,0)],[],[]⟩),(1020,k9 [.r 20 ci,.r 21 ci]),(1023,⟨[.w 0 1],[(0,0)],[],[]⟩),(1722,⟨[.r 17 ci,.w 0 1],[(0,0)],[],[]⟩),(2047,⟨[.w 0 1],[(0,0)],[],[]⟩),(8186,⟨[],[(0,0)],[],[]⟩),(16378,⟨[],[(0,0)],[],[]⟩)] [(361365553,[.mk [.v ci] [] [] [(9,1),(13,1)] [] []]),(536477887,[.mk [] [.w 0 1] [] [] [(28,⟨[.r 10 ci,.r 11 ci,.w 0 1],[(0,0)],[],[]⟩),(1812,⟨[],[(0,0)],[],[]⟩),(1814,⟨[],[(0,0)],[],[]⟩)] [(983097,[.mk [] [.w 0 1] [] [] [(6,⟨[.r 10 ci,.w 0 1],[(0,0)],[],[]⟩)] []]),(118751263,[.mk [] [.w 0 1] [] [] [(6,⟨[.r 10 ci,.w 0 1],[(0,0)],[],[]⟩)] []]),(118882350,[.mk [] [.w 0 1] [] [] [(6,⟨[.r 10 ci,.w 0 1],[(0,0)],[],[]⟩)] []])]]),(898236517,[.mk [.v ci] [] [] [(9,1),(13,1)] [] []]),(1073348813,[.mk [] [.w 0 1] [] [(1000000,0)] [] []]),(1073610971,[.mk [] [.w 0 1] [] [(1000000,0)] [] []]),(2139750569,[.mk [.v ci] [] [] [(9,1),(13,1)] [] []])]],λ(a,b,d,e,f)=>zbj N a b d e f⟩
theorem zcQ:∀N:Ε,f9 291 (zfM N)|0=>⟨by kernel_rfl,λx y a b d z e f h=>by cases h⟩|N+1=>og (g:=291) N (.c (zfh N)<|.nil) (.c (zcQ N)<|.nil)
def yP:bz:=⟨[.c (.sl 22)],[.c (.sl 1)],λa=>zfC N a.1⟩
def yQ:eP 175 (yP N):=tg [(7,1)] [(30,⟨[],[(3,0)],[],[]⟩),(58,⟨[.r 10 ci,.w 1 1],[(3,1)],[],[]⟩)] [(1966100,[.mk [] [.w 1 1] [] [] [] [(65544,[.mk [] [.w 1 1] [] [] [(28,⟨[.r 7 ci,.r 8 ci,.w 1 1],[(0,1)],[],[]⟩),(30,⟨[],[(0,0)],[],[]⟩),(62,⟨[.r 6 ci,.w 1 1],[(0,1)],[],[]⟩),(452,⟨[],[(0,0)],[],[]⟩),(1995,⟨[.w 1 1],[(0,1)],[],[]⟩),(3988,⟨[.r 7 ci,.r 8 ci,.w 1 1],[(0,1)],[],[]⟩),(31926,⟨[],[(0,0)],[],[]⟩),(63812,⟨[],[(0,0)],[],[]⟩)] [(1966107,[.mk [] [.w 1 1] [] [] [(6,⟨[.r 8 ci,.w 1 1],[(0,1)],[],[]⟩),(402,⟨[.r 9 ci,.w 1 1],[(0,1)],[],[]⟩),(1608,k9 [.r 34 cb])] [(210763808,[.mk [.v ci] [] [] [(9,1),(13,1)] [] []])]]),(29622290,[.mk [] [.w 1 1] [] [] [(6,⟨[.r 8 ci,.w 1 1],[(0,1)],[],[]⟩),(402,⟨[.r 9 ci,.w 1 1],[(0,1)],[],[]⟩),(1608,k9 [.r 34 cb])] [(210763808,[.mk [.v ci] [] [] [(9,1),(13,1)] [] []])]]),(2092302396,[.mk [] [.w 1 1] [] [(1000000,0)] [] []]),(4181983275,[.mk [] [.w 1 1] [] [(1000000,0)] [] []])]])]])] N (.c (zfh N)<|.nil) (.c (zcQ N)<|.nil)
def zn:dA:=⟨.mk [.v (.st 10),.p (.hd 0),.v (.st 21)] [] [.row 5] [] [] [],[.mk [.v (.c (.sl 5))] [] [] [(19,22),(37,5),(55,5)] [(122,⟨[.r 22 ci,.w 3 22],[(7,3)],[],[]⟩),(252,⟨[],[],[(7,22)],[]⟩),(506,⟨[.r 41 ci,.w 4 5],[(10,4)],[],[]⟩)] []],λ(a,b,d)=>zcC N a b d⟩
def zf:f9 114 (zn N):=og (g:=114) N (.c (zcg N)<|.c (NA N)<|.c (yQ N)<|.c (zb0 N)<|.nil) .nil
def vO:dA:=⟨.mk [.p (.pt 0 0 27)] [] [g7 1 2 3,.cells [xi,.hd 4],.cells [xl 0,.mr 5],.row 1,.row 5,.mp 7 Γ] [] [] [],[.mk [.v (.c (.sl 5))] [] [] [(16,5)] [(250,⟨[.w 9 5],[],[(1055744,5)],[(7,0,9)]⟩)] [(917513,[gA [.v (.st 14)] 0]),(8126476,[.mk [] [] [] [(1000002,0)] [] []]),(8257555,[gA [.v (.st 10)] 1]),(8257562,[gA [.v (.c (.sl 5))] 2])]],λ(s,t,u,v,w,x,y,z,A,E,a,b,d,e,f,g,h,i,j,k,l,m,n,o,p,q,r,_,_)=>zbd N s t u v w x y z A E a b d e f g h i j k l m n o p q r⟩
def lc:f9 48 (vO N):=og (g:=48) N (.it (ry N)<|.nil) (.c (za7 N)<|.c (zbe N)<|.c (zf N)<|.nil)
def GA:bz:=⟨[.st 10,ci],[cb],λa=>p_ N a.1 a.2.1⟩
def FH:eP 176 (GA N):=tg [] [] [] N (.c (zcg N)<|.nil) .nil
def EC:bz:=⟨[.c (.sl 5),ci],[ci],λa=>l_ N a.1 a.2.1⟩
def EG:eP 177 (EC N):=tg [] [] [(393223,[.mk [.v ci] [] [] [] [(58,k9 [.r 5 ci,.r 10 ci]),(467,k9 [.r 5 ci])] [(489816080,[g6 [.v cb]])]])] N (.c (zfS N)<|.nil) .nil
end Go.Abs
end
end
section
set_option maxRecDepth 100000
noncomputable section
namespace Go.Abs
open Go.Proofs
variable[Gl](N:Ε)
def Pb:bz:=⟨[.c (.sl 5),ci,ci],[ci],λa=>BL N a.1 a.2.1 a.2.2.1⟩
def Pr:eP 178 (Pb N):=tg [] [] [(393225,[.mk [.v ci] [] [] [] [(58,k9 [.r 5 ci,.r 10 ci]),(467,k9 [.r 5 ci])] [(489816080,[g6 [.v cb]])]])] N (.c (zfS N)<|.nil) .nil
def LI:bz:=⟨[.st 10,.c (.sl 5),.st 5],[cb],λa=>e_ N a.1 a.2.1 a.2.2.1⟩
def Mq:eP 115 (LI N):=tg [] [] [] N (.c (FH N)<|.c (EG N)<|.c (Pr N)<|.nil) .nil
def AI:dA:=⟨.mk [.p (.pt 0 0 27),.v ci] [] [g7 1 2 3,.cells [xi,.hd 4],.cells [xl 0,.mr 5],.row 1,.row 5,.mp 7 Γ] [] [] [],[.mk [.v cb] [] [] [] [(122,k9 [])] [(917514,[gA [.v (.st 14)] 0]),(3932173,[.mk [] [] [] [(1000002,0)] [] []]),(257163284,[gA [.v (.st 10)] 1])]],λ(t,u,v,w,x,y,z,A,E,F,a,b,d,e,f,g,h,i,j,k,l,m,n,o,p,q,r,s,_,_)=>zeQ N t u v w x y z A E F a b d e f g h i j k l m n o p q r s⟩
def nB:f9 49 (AI N):=og (g:=49) N (.it (ry N)<|.c (Mq N)<|.nil) (.c (za7 N)<|.c (zbe N)<|.nil)
def nr:dA:=⟨.mk [.p (.hd 0)] [] [.row 1] [] [] [],[.mk [] [.w 0 1] [] [] [] []],λx=>zcH N x⟩
def zfe:f9 181 (nr N):=sort_oo (ii:=1) Tryz.sortsI (d:=λk=>k) (c:=λk=>k) (λa=>rfl) (λk=>rfl) (by kernel_rfl)
def kD:dA:=⟨.mk [.p (.hd 0)] [] [.row 1] [] [] [],[.mk [.p (.hd 1)] [.w 0 1] [.row 1] [] [] []],λx=>zb3 N x⟩
def zeb:f9 235 (kD N):=RA (ii:=1) Tryz.W_ (d:=λk=>k) (c:=λk=>k) (λa=>rfl) (λk=>rfl) (by kernel_rfl)
def uB:bz:=⟨[.fp 20,ci],[.c (.sl 1)],λa=>Am N a.1 a.2.1⟩
def uv:eP 187 (uB N):=tg [(52,1)] [(62,⟨[],[(5,0)],[],[]⟩),(122,⟨[.r 33 ci,.w 0 1],[(5,0)],[(5,1)],[]⟩),(31334,⟨[.r 45 ci,.w 0 1],[(5,0)],[],[]⟩)] [(4063289,[.mk [] [.w 0 1] [] [(1000000,0)] [] []]),(8257595,[.mk [.p (.hd 1)] [.w 0 1] [.row 1] [(1000000,1)] [] []])] N .nil (.c (zfe N)<|.c (zeb N)<|.nil)
def Ml:bz:=⟨[.st 0,.st 0],[.st 0],λa=>Di N a.1 a.2.1⟩
def Mp:eP 276 (Ml N):=tg [] [] [] N .nil .nil
def Hu:bz:=⟨[.c (.sl 18),ci,ci],[.st 0],λa=>pP N a.1 a.2.1 a.2.2.1⟩
def xc:eP 236 (Hu N):=tg [] [(6,k9 [.r 26 cb]),(31,k9 [.h 1 0 hi,.h 1 1 hi,.h 1 2 hi,.h 1 3 hi]),(250,k9 [.r 41 ci,.h 1 0 hi,.h 1 1 hi,.h 1 2 hi,.h 1 3 hi])] [] N (.c (zdf N)<|.c (Mp N)<|.c (ig N)<|.nil) .nil
def LN:bz:=⟨[.st 0,.st 0],[ci],λa=>nh N a.1 a.2.1⟩
def Bk:eP 253 (LN N):=tg [] [(6,k9 [.r 21 cb]),(250,k9 [.r 5 ci,.r 26 ci]),(2003,k9 [.r 5 ci])] [] N (.c (wj N)<|.c (zci N)<|.nil) .nil
def KK:bz:=⟨[.c (.sl 0),ci,.st 0],[ci],λa=>rX N a.1 a.2.1 a.2.2.1⟩
def Cs:eP 278 (KK N):=tg [] [] [] N (.c (Bk N)<|.nil) .nil
def IG:bz:=⟨[.c (.sl 0),.c (.sl 1),.st 0],[ci],λa=>tp N a.1 a.2.1 a.2.2.1⟩
def If:eP 277 (IG N):=tg [] [(58,k9 [.r 7 ci,.r 12 ci])] [] N (.c (Cs N)<|.nil) .nil
def wT:dA:=⟨.mk [.p (.hd 0),.v (.c (.sl 1)),.v ci,.v (.st 0)] [] [.row 0] [] [] [],[.mk [.v (.c (.sl 6)),.v cb] [] [] [(48,6)] [(12,k9 [.r 24 cb]),(111,⟨[.w 2 6],[(10,2)],[(10,6)],[]⟩),(890,⟨[.r 11 ci,.r 28 ci,.w 2 6],[(10,2)],[],[]⟩),(7123,⟨[.r 11 ci,.w 2 6],[(10,2)],[],[]⟩)] []],λ(a,b,d,e)=>ze7 N a b d e⟩
def kS:f9 237 (wT N):=og (g:=237) N (.c (Cs N)<|.c (If N)<|.nil) .nil
def vC:bz:=⟨[.fp 20,ci,ci,.st 0,ci,ci],[.c (.sl 6),cb],λa=>Be N a.1 a.2.1 a.2.2.1 a.2.2.2.1 a.2.2.2.2.1 a.2.2.2.2.2.1⟩
def xu:eP 188 (vC N):=tg [(57,0)] [(122,⟨[.r 66 ci,.w 1 0],[(14,1)],[],[]⟩)] [(4063328,[gA [.v (.c (.sl 6)),.v cb] 0])] N (.c (xc N)<|.nil) (.c (kS N)<|.nil)
def qC:bz:=⟨[.fp 20,ci,ci,.st 0,ci],[.st 15,cb],λa=>ug N a.1 a.2.1 a.2.2.1 a.2.2.2.1 a.2.2.2.2.1⟩
def qI:eP 126 (qC N):=tg [] [(3,k9 [.r 12 (.c (.sl 1)),.r 13 ci])] [] N (.c (xu N)<|.c (uv N)<|.nil) .nil
def qY:dA:=⟨.mk [.p (.pt 0 0 27),.v (.fp 20),.v (.st 5)] [] [g7 1 2 3,.cells [xi,.hd 4],.cells [xl 0,.mr 5],.row 1,.row 5,.mp 7 Γ] [] [] [],[.mk [.v (.st 15),.v cb] [] [] [] [] [(917523,[gA [.v (.st 10)] 0])]],λ(_,_,_,o,p,q,r,s,t,u,a,b,d,e,f,g,h,i,j,k,l,m,n,_,_,_,_,_,_,_,_)=>zdu N o p q r s t u a b d e f g h i j k l m n⟩
def rV:f9 62 (qY N):=og (g:=62) N (.c (qI N)<|.nil) (.c (zbe N)<|.nil)
def yY:bz:=⟨[.fp 20],[ci],λa=>jR N a.1⟩
def zj:eP 51 (yY N):=tg [] [] [] N .nil .nil
def qe:dA:=⟨.mk [.p (.pt 0 0 25)] [] [.cells [.pt 1 0 27,.fp 20,xi,xi,xi,xi,xi,xi,xi,xi,xi,xn,xi,xb,xb,xi,xi,xi,xi,xi,xn,xn,xi,xi,xi],g7 2 3 4,.cells [xi,.hd 5],.cells [xl 0,.mr 6],.row 1,.row 5,.mp 7 Γ] [] [] [],[g6 [.v cb]],λ(_,_,_,_,_,_,_,_,_,_,_,_,_,_,_,_,_,_,_,_,_,a,_,_,_,_,_,_,_,_,_,_,_,_,_,_,_,_,_,_,_,_,_,_,_,_,_,_,_,_)=>Yo N a⟩
def zfW:f9 65 (qe N):=og (g:=65) N .nil .nil
def tH:dA:=⟨.mk [.p (.pt 0 0 25),.v (.st 5),.v ci] [] [.cells [.pt 1 0 27,.fp 20,xi,xi,xi,xi,xi,xi,xi,xi,xi,xn,xi,xb,xb,xi,xi,xi,xi,xi,xn,xn,xi,xi,xi],g7 2 3 4,.cells [xi,.hd 5],.cells [xl 0,.mr 6],.row 1,.row 5,.mp 7 Γ] [] [] [],[.mk [] [.h 0 2 (xi),.h 0 3 (xi),.h 0 4 (xi),.h 0 5 (xi),.h 0 6 (xi),.h 0 7 (xi),.h 0 8 (xi),.h 0 9 (xi),.h 0 10 (xi),.h 0 11 (xl 4),.h 0 12 (xi),.h 0 13 (xb),.h 0 14 (xb),.h 0 15 (xi),.h 0 16 (xi),.h 0 17 (xi),.h 0 18 (xi),.h 0 19 (xi),.h 0 22 (xi),.h 0 23 (xi),.h 0 24 (xi)] [] [] [] [(393223,[gA [.v cb] 0])]],λ(_,_,_,r,s,_,t,u,v,w,a,b,d,e,f,g,h,i,j,k,l,m,n,o,p,q,_,_,_,_,_,_,_,_,_,_,_,_,_,_,_,_,_,_,_,_,_,_,_,_,_,_)=>lL N r s t u v w a b d e f g h i j k l m n o p q⟩
def sW:f9 63 (tH N):=og (g:=63) N .nil (.c (zfW N)<|.nil)
def zeC:dA:=⟨g6 [.v (.c (.sl 19))],[.mk [.p (.hd 0)] [] [.row 19] [] [] []],λx=>zbv N x⟩
def zey:f9 189 (zeC N):=jT (i:=19) (sz:=24) (z:=[k8]) (fn:=Tryz.f189) dR (by kernel_rfl) (by kernel_rfl) (by kernel_rfl) rfl
def mH:dA:=⟨g6 [.v (.fp 20)],[.mk [.p (.pt 0 0 3)] [] [.cells [xi,xl 2,.hd 1],.row 19] [] [] [(917521,[.mk [.p (.hd 0)] [] [.row 19] [(1000000,0)] [] []])]],λa=>zbH N a⟩
def zcU:f9 127 (mH N):=og (g:=127) N .nil (.c (zey N)<|.nil)
def mC:dA:=⟨.mk [.p (.pt 0 0 3),.v ci,.v ci,.v (.c (.sl 6)),.v (.st 0)] [] [.cells [xi,xl 2,.hd 1],.row 19] [] [] [],[.mk [.v ci] [.h 0 2 (.hd 1),.w 1 19] [] [(20,19)] [(58,⟨[.r 23 ci,.w 3 19],[(11,3)],[],[]⟩),(122,⟨[.r 62 ci,.w 1 19],[],[],[(0,2,1)]⟩)] []],λ(a,b,d,e,f,_,_)=>zbn N a b d e f⟩
def mo:f9 179 (mC N):=og (g:=179) N (.c (tA N)<|.c (qk N)<|.nil) .nil
def nO:dA:=⟨.mk [.p (.pt 0 0 3),.v ci,.v (.c (.sl 6)),.v (.st 0),.v ci] [] [.cells [xi,xl 2,.hd 1],.row 19] [] [] [],[.mk [.v ci] [.h 0 2 (.hd 1),.w 1 19] [] [] [(14,k9 [.r 45 cb])] [(1966133,[.mk [.v ci] [.h 0 2 (.hd 1),.w 1 19] [] [(1000000,0)] [] []])]],λ(a,b,d,e,f,g,_)=>za9 N a b d e f g⟩
def zb1:f9 116 (nO N):=og (g:=116) N (.c (hY N)<|.c (zci N)<|.nil) (.c (mo N)<|.nil)
def mU:dA:=⟨.mk [.p (.pt 0 0 3),.v ci] [] [.cells [xi,xl 2,.hd 1],.row 19] [] [] [],[.mk [.v (.c (.sl 1))] [] [] [(52,1)] [(62,⟨[],[(5,0)],[],[]⟩),(122,⟨[.r 33 ci,.w 2 1],[(5,2)],[(5,1)],[]⟩),(31334,⟨[.r 45 ci,.w 2 1],[(5,2)],[],[]⟩)] [(4063289,[.mk [] [.w 2 1] [] [(1000000,0)] [] []]),(8257595,[.mk [.p (.hd 3)] [.w 2 1] [.row 1] [(1000000,1)] [] []])]],λ(a,b,_,d)=>zbI N a b d⟩
def lZ:f9 187 (mU N):=og (g:=187) N .nil (.c (zfe N)<|.c (zeb N)<|.nil)
def oO:dA:=⟨.mk [.p (.pt 0 0 3),.v ci,.v ci,.v (.st 0),.v ci,.v ci] [] [.cells [xi,xl 2,.hd 1],.row 19] [] [] [],[.mk [.v (.c (.sl 6)),.v cb] [] [] [(57,0)] [(122,⟨[.r 66 ci,.w 3 0],[(14,3)],[],[]⟩)] [(4063328,[gA [.v (.c (.sl 6)),.v cb] 0])]],λ(a,b,d,e,f,g,h,i)=>zaK N a b d e f g h i⟩
def oS:f9 188 (oO N):=og (g:=188) N (.c (xc N)<|.nil) (.c (kS N)<|.nil)
def jN:dA:=⟨.mk [.p (.pt 0 0 3),.v ci,.v ci,.v (.st 0),.v ci] [] [.cells [xi,xl 2,.hd 1],.row 19] [] [] [],[.mk [.v (.st 15),.v cb] [] [] [] [(3,k9 [.r 12 (.c (.sl 1)),.r 13 ci])] [(786450,[gA [.v (.c (.sl 1))] 0]),(8126498,[gA [.v (.c (.sl 6)),.v cb] 1]),(29098018,[gA [.v (.c (.sl 6)),.v cb] 1])]],λ(a,b,d,e,f,g,h)=>zaN N a b d e f g h⟩
def jV:f9 126 (jN N):=og (g:=126) N .nil (.c (lZ N)<|.c (oS N)<|.nil)
def rW:dA:=⟨.mk [.p (.pt 0 0 27),.p (.pt 1 0 3),.v (.st 5)] [] [g7 2 3 4,.cells [xi,xl 2,.hd 5],.cells [xi,.hd 6],.cells [xl 0,.mr 7],.row 1,.row 19,.row 5,.mp 7 Γ] [] [] [],[.mk [.v (.st 15),.v cb] [] [] [] [] [(917523,[gA [.v (.st 10)] 0]),(4063279,[gA [.v (.st 15),.v cb] 1])]],λ(_,q,_,_,r,s,t,u,v,w,a,b,d,e,f,g,h,i,j,k,l,m,n,_,_,_,_,_,_,o,p,_,_)=>WP N q r s t u v w a b d e f g h i j k l m n o p⟩
def zcG:f9 62 (rW N):=og (g:=62) N .nil (.c (zbe N)<|.c (jV N)<|.nil)
def Gq:bz:=⟨[.c (.sl 6)],[ci],λa=>pH N a.1⟩
def Gv:eP 158 (Gq N):=tg [] [(58,k9 [.r 3 ci,.r 8 ci])] [] N (.c (fW N)<|.nil) .nil
def qp:bz:=⟨[.c (.sl 1),ci],[ci],λa=>zeI N a.1 a.2.1⟩
def qM:eP 207 (qp N):=tg [] [(26,k9 [.r 8 ci])] [] N .nil .nil
def mT:bz:=⟨[.c (.sl 1),ci],[cb],λa=>zcp N a.1 a.2.1⟩
def mF:eP 159 (mT N):=tg [] [] [] N (.c (qM N)<|.nil) .nil
def FA:bz:=⟨[.st 10,.st 5,.c (.sl 6)],[cb],λa=>gO N a.1 a.2.1 a.2.2.1⟩
def vo:eP 101 (FA N):=tg [] [(6,k9 [.r 22 cb]),(250,k9 [.r 47 ci])] [] N (.c (mF N)<|.c (hY N)<|.c (Gv N)<|.nil) .nil
def LB:bz:=⟨[ci,ci],[ci,cb],λa=>xD N a.1 a.2.1⟩
def LL:eP 161 (LB N):=tg [] [(53247,k9 [.r 48 cb]),(212991,k9 [.r 55 cb])] [] N (.c (zfS N)<|.c (zH N)<|.nil) .nil
def Oh:bz:=⟨[.st 5,ci,ci,cb],[.st 5,ci],λa=>Cc N a.1 a.2.1 a.2.2.1 a.2.2.2.1⟩
def On:eP 102 (Oh N):=tg [] [(6,k9 [.r 20 cb]),(1023,k9 [.h 0 11 hb,.h 0 12 hb,.h 0 15 hi]),(2047,k9 [.h 0 16 hi]),(8186,k9 [.h 0 12 hb])] [] N (.c (LL N)<|.c (zb0 N)<|.c (ij N)<|.c (zfX N)<|.c (qD N)<|.nil) .nil
def zfo:dA:=⟨g6 [.v (.c (.sl 0))],[.mk [.p (.hd 0)] [] [.row 0] [] [] []],λx=>zbL N x⟩
def zft:f9 152 (zfo N):=jT (i:=0) (sz:=32) (z:=[g8,g8,g8,g8]) (fn:=Tryz.f152) dR (by kernel_rfl) (by kernel_rfl) (by kernel_rfl) rfl
def kH:dA:=⟨.mk [.p (.pt 0 0 2),.v (.st 7),.p (.k (.c (.fn (.func 165) [] [])))] [] [.cells [xl 0,.mr 1],.mp 7 Γ] [] [] [],[.mk [.v (.c (.sl 0)),.v ci] [] [] [] [(58,⟨[.r 21 ci,.w 3 0],[(8,3)],[],[]⟩)] [(393233,[.mk [.p (.hd 3)] [] [.row 0] [(1000000,0)] [] []])]],λ(_,a,b)=>zb4 N a b⟩
def kE:f9 164 (kH N):=og (g:=164) N (.c (tA N)<|.c (FM N)<|.nil) (.c (zft N)<|.nil)
def mD:dA:=⟨.mk [.p (.pt 0 0 2),.v (.st 7)] [] [.cells [xl 0,.mr 1],.mp 7 Γ] [] [] [],[.mk [.v ci] [.h 0 0 (xl 0),.m 1 7 Γ] [] [] [(14,k9 [.r 41 cb])] [(4063288,[gA [.v (.c (.sl 0)),.v ci] 0])]],λ(a,b,d)=>za3 N a b d⟩
def zcS:f9 103 (mD N):=og (g:=103) N (.c (zA N)<|.c (hY N)<|.c (zci N)<|.nil) (.c (kE N)<|.nil)
def qh:dA:=⟨.mk [.p (.pt 0 0 2),.v (.st 5)] [] [.cells [xi,.hd 1],.row 5] [] [] [],[.mk [.v ci] [.w 1 5,.h 0 1 (.hd 1)] [] [] [] [(1966096,[gA [.v ci,.v cb] 0])]],λ(a,b,_)=>zdo N a b⟩
def qc:f9 166 (qh N):=og (g:=166) N (.c (zfX N)<|.c (mg N)<|.nil) (.c (zdq N)<|.nil)
def mV:dA:=⟨.mk [.p (.pt 0 0 27),.v (.st 5),.v (.st 5)] [] [g7 1 2 3,.cells [xi,.hd 4],.cells [xl 0,.mr 5],.row 1,.row 5,.mp 7 Γ] [] [] [],[.mk [.v ci] [.h 1 1 (.hd 4),.w 4 5,.h 0 25 (.hd 3),.w 3 1] [] [] [(15,⟨[.w 3 1],[],[],[(0,25,3)]⟩)] [(786445,[.mk [.v ci] [.w 4 5,.h 1 1 (.hd 4)] [] [(1000000,0)] [] []]),(917524,[.mk [] [.w 3 1,.h 0 25 (.hd 3)] [] [(1000000,1)] [] []]),(7995421,[.mk [] [.w 3 1,.h 0 25 (.hd 3)] [] [(1000000,1)] [] []])]],λ(a,b,_,d,e,_,_,_,_,_,_,_,_,_,_,_,_,_,_,_,_,_,_,_,_,_,_,_,_,_,_)=>zcl N a b d e⟩
def mM:f9 105 (mV N):=og (g:=105) N .nil (.c (qc N)<|.c (zfg N)<|.nil)
def oh:dA:=⟨.mk [.p (.pt 0 0 27),.v ci,.v (.c (.sl 6))] [] [g7 1 2 3,.cells [xi,.hd 4],.cells [xl 0,.mr 5],.row 1,.row 5,.mp 7 Γ] [] [] [],[.mk [.v ci] [.h 2 0 (xl 0),.m 5 7 Γ,.h 0 25 (.hd 3),.h 0 26 (xi),.h 1 1 (.hd 4),.w 3 1,.w 4 5] [] [] [] [(917524,[gA [.v (.st 5),.v cb] 0]),(133955641,[.mk [.v ci] [.h 2 0 (xl 0),.m 5 7 Γ] [] [(1000000,1)] [] []]),(268304458,[.mk [.v ci] [.h 1 1 (.hd 4),.w 4 5,.h 0 25 (.hd 3),.w 3 1] [] [(1000000,2)] [] []])]],λ(r,s,t,u,v,w,x,y,z,A,a,b,d,e,f,g,h,i,j,k,l,m,n,o,_,_,_,_,p,_,q)=>zaV N r s t u v w x y z A a b d e f g h i j k l m n o p q⟩
def zb6:f9 42 (oh N):=og (g:=42) N (.c (vo N)<|.c (On N)<|.c (wQ N)<|.nil) (.c (zfT N)<|.c (zcS N)<|.c (mM N)<|.nil)
end Go.Abs
end
end
section
set_option maxRecDepth 100000
noncomputable section
namespace Go.Abs
open Go.Proofs
variable[Gl](N:Ε)
def rA:dA:=⟨.mk [.p (.pt 0 0 25),.v (.st 5),.v (.st 15)] [] [.cells [.pt 1 0 27,.fp 20,xi,xi,xi,xi,xi,xi,xi,xi,xi,xn,xi,xb,xb,xi,xi,xi,xi,xi,xn,xn,xi,xi,xi],g7 2 3 4,.cells [xi,.hd 5],.cells [xl 0,.mr 6],.row 1,.row 5,.mp 7 Γ] [] [] [],[.mk [] [.h 1 25 (.hd 4),.h 1 26 (xi),.h 2 1 (.hd 5),.h 3 0 (xl 0),.w 4 1,.w 5 5,.m 6 7 Γ,.h 0 1 (.fp 20),.h 0 20 (xn)] [] [(74,15)] [(15,k9 []),(13194139533438,⟨[],[],[],[(5,1057794,19),(0,1048577,20)]⟩)] [(393229,[.mk [.p (.pt 9 0 3)] [] [.cells [xi,xl 2,.hd 10],.row 19] [(1000000,0)] [] []]),(1835031,[.mk [.v ci] [.h 9 2 (.hd 10),.w 10 19] [] [(1000000,1)] [] []]),(3932186,[gA [.v cb] 2]),(8126525,[.mk [.v ci] [.h 3 0 (xl 0),.m 6 7 Γ,.h 1 25 (.hd 4),.h 1 26 (xi),.h 2 1 (.hd 5),.w 4 1,.w 5 5] [] [(1000000,4)] [] []]),(15990821,[gA [.v (.st 15),.v cb] 3])],.mk [] [.h 1 25 (.hd 4),.h 1 26 (xi),.h 2 1 (.hd 5),.h 3 0 (xl 0),.w 4 1,.w 5 5,.m 6 7 Γ,.h 0 1 (.fp 20),.h 0 20 (.hd 7)] [.row 15] [] [] []],λ(S,T,U,W,X,σ,Z,a7,a8,a9,a,b,d,e,f,g,h,i,j,k,l,m,n,o,p,_,q,r,s,t,u,v,w,x,y,z,A,E,F,G,K,L,M,O,P,_,_,_,_,Q,_,R)=>vN N S T U W X σ Z a7 a8 a9 a b d e f g h i j k l m n o p q r s t u v w x y z A E F G K L M O P Q R⟩
def rU:f9 64 (rA N):=og (g:=64) N .nil (.c (zcU N)<|.c (zb1 N)<|.c (zfW N)<|.c (zcG N)<|.c (zb6 N)<|.nil)
def pp:dA:=⟨.mk [.p (.pt 0 0 25)] [] [.cells [.pt 1 0 27,.fp 20,xi,xi,xi,xi,xi,xi,xi,xi,xi,xn,xi,xb,xb,xi,xi,xi,xi,xi,.hd 2,xn,xi,xi,xi],g7 3 4 5,.row 15,.cells [xi,.hd 6],.cells [xl 0,.mr 7],.row 1,.row 5,.mp 7 Γ] [] [] [],[g6 [.v cb]],λ(_,_,_,_,_,_,_,_,_,_,_,_,_,_,_,_,_,_,_,_,_,_,a,_,_,_,_,_,_,_,_,_,_,_,_,_,_,_,_,_,_,_,_,_,_,_,_,_,_,_,_)=>Yo N a⟩
def zfi:f9 65 (pp N):=og (g:=65) N .nil .nil
def rE:dA:=⟨.mk [.p (.pt 0 0 25),.v (.st 5),.v ci] [] [.cells [.pt 1 0 27,.fp 20,xi,xi,xi,xi,xi,xi,xi,xi,xi,xn,xi,xb,xb,xi,xi,xi,xi,xi,.hd 2,xn,xi,xi,xi],g7 3 4 5,.row 15,.cells [xi,.hd 6],.cells [xl 0,.mr 7],.row 1,.row 5,.mp 7 Γ] [] [] [],[.mk [] [.h 0 2 (xi),.h 0 3 (xi),.h 0 4 (xi),.h 0 5 (xi),.h 0 6 (xi),.h 0 7 (xi),.h 0 8 (xi),.h 0 9 (xi),.h 0 10 (xi),.h 0 11 (xl 4),.h 0 12 (xi),.h 0 13 (xb),.h 0 14 (xb),.h 0 15 (xi),.h 0 16 (xi),.h 0 17 (xi),.h 0 18 (xi),.h 0 19 (xi),.h 0 22 (xi),.h 0 23 (xi),.h 0 24 (xi)] [] [] [] [(393223,[gA [.v cb] 0])]],λ(_,_,_,_,s,t,_,u,v,w,a,b,d,e,f,g,h,i,j,k,l,m,n,o,p,q,r,_,_,_,_,_,_,_,_,_,_,_,_,_,_,_,_,_,_,_,_,_,_,_,_,_,_)=>lL N s t u v w a b d e f g h i j k l m n o p q r⟩
def qQ:f9 63 (rE N):=og (g:=63) N .nil (.c (zfi N)<|.nil)
def rR:dA:=⟨.mk [.p (.pt 0 0 25),.v (.st 5),.v (.st 15)] [] [.cells [.pt 1 0 27,.fp 20,xi,xi,xi,xi,xi,xi,xi,xi,xi,xn,xi,xb,xb,xi,xi,xi,xi,xi,.hd 2,xn,xi,xi,xi],g7 3 4 5,.row 15,.cells [xi,.hd 6],.cells [xl 0,.mr 7],.row 1,.row 5,.mp 7 Γ] [] [] [],[.mk [] [.h 1 25 (.hd 5),.h 1 26 (xi),.h 3 1 (.hd 6),.h 4 0 (xl 0),.w 5 1,.w 6 5,.m 7 7 Γ,.h 0 1 (.fp 20),.h 0 20 (.hd 2),.w 2 15] [] [(74,15)] [(15,k9 []),(14293651161214,⟨[],[],[],[(5,1058818,19),(0,1048577,20)]⟩)] [(393229,[.mk [.p (.pt 10 0 3)] [] [.cells [xi,xl 2,.hd 11],.row 19] [(1000000,0)] [] []]),(1835031,[.mk [.v ci] [.h 10 2 (.hd 11),.w 11 19] [] [(1000000,1)] [] []]),(3932186,[gA [.v cb] 2]),(8126525,[.mk [.v ci] [.h 4 0 (xl 0),.m 7 7 Γ,.h 1 25 (.hd 5),.h 1 26 (xi),.h 3 1 (.hd 6),.w 5 1,.w 6 5] [] [(1000000,4)] [] []]),(15990821,[gA [.v (.st 15),.v cb] 3])]],λ(T,U,W,X,σ,Z,a6,a7,a8,a9,a,b,d,e,f,g,h,i,j,k,l,m,n,o,p,q,_,r,s,t,u,v,w,x,y,z,A,E,F,G,K,L,M,O,P,Q,_,_,_,_,R,_,S)=>w_ N T U W X σ Z a6 a7 a8 a9 a b d e f g h i j k l m n o p q r s t u v w x y z A E F G K L M O P Q R S⟩
def qU:f9 64 (rR N):=og (g:=64) N .nil (.c (zcU N)<|.c (zb1 N)<|.c (zfi N)<|.c (zcG N)<|.c (zb6 N)<|.nil)
def nQ:dA:=⟨.mk [.p (.pt 0 0 25)] [] [.cells [.pt 1 0 27,.fp 20,xi,xi,xi,xi,xi,xi,xi,xi,xi,xl 4,xi,xb,xb,xi,xi,xi,xi,xi,.hd 2,xn,xi,xi,xi],g7 3 4 5,.row 15,.cells [xi,.hd 6],.cells [xl 0,.mr 7],.row 1,.row 5,.mp 7 Γ] [] [] [],[g6 [.v cb]],λ(_,_,_,_,_,_,_,_,_,_,_,_,_,_,_,_,_,_,_,_,_,_,_,a,_,_,_,_,_,_,_,_,_,_,_,_,_,_,_,_,_,_,_,_,_,_,_,_,_,_,_,_)=>Yo N a⟩
def zc2:f9 65 (nQ N):=og (g:=65) N .nil .nil
def tJ:dA:=⟨.mk [.p (.pt 0 0 25),.v (.st 5),.v ci] [] [.cells [.pt 1 0 27,.fp 20,xi,xi,xi,xi,xi,xi,xi,xi,xi,xl 4,xi,xb,xb,xi,xi,xi,xi,xi,.hd 2,xn,xi,xi,xi],g7 3 4 5,.row 15,.cells [xi,.hd 6],.cells [xl 0,.mr 7],.row 1,.row 5,.mp 7 Γ] [] [] [],[.mk [] [.h 0 2 (xi),.h 0 3 (xi),.h 0 4 (xi),.h 0 5 (xi),.h 0 6 (xi),.h 0 7 (xi),.h 0 8 (xi),.h 0 9 (xi),.h 0 10 (xi),.h 0 11 (xl 4),.h 0 12 (xi),.h 0 13 (xb),.h 0 14 (xb),.h 0 15 (xi),.h 0 16 (xi),.h 0 17 (xi),.h 0 18 (xi),.h 0 19 (xi),.h 0 22 (xi),.h 0 23 (xi),.h 0 24 (xi)] [] [] [] [(393223,[gA [.v cb] 0])]],λ(_,_,_,_,t,u,_,v,w,x,a,b,d,e,f,g,h,i,j,k,l,m,n,o,p,q,r,s,_,_,_,_,_,_,_,_,_,_,_,_,_,_,_,_,_,_,_,_,_,_,_,_,_,_)=>zfJ N t u v w x a b d e f g h i j k l m n o p q r s⟩
def sq:f9 63 (tJ N):=og (g:=63) N .nil (.c (zc2 N)<|.nil)
def rC:dA:=⟨.mk [.p (.pt 0 0 25),.v (.st 5),.v (.st 15)] [] [.cells [.pt 1 0 27,.fp 20,xi,xi,xi,xi,xi,xi,xi,xi,xi,xl 4,xi,xb,xb,xi,xi,xi,xi,xi,.hd 2,xn,xi,xi,xi],g7 3 4 5,.row 15,.cells [xi,.hd 6],.cells [xl 0,.mr 7],.row 1,.row 5,.mp 7 Γ] [] [] [],[.mk [] [.h 1 25 (.hd 5),.h 1 26 (xi),.h 3 1 (.hd 6),.h 4 0 (xl 0),.w 5 1,.w 6 5,.m 7 7 Γ,.h 0 1 (.fp 20),.h 0 20 (.hd 2),.w 2 15] [] [(74,15)] [(15,k9 []),(14293651161214,⟨[],[],[],[(5,1058818,19),(0,1048577,20)]⟩)] [(393229,[.mk [.p (.pt 10 0 3)] [] [.cells [xi,xl 2,.hd 11],.row 19] [(1000000,0)] [] []]),(1835031,[.mk [.v ci] [.h 10 2 (.hd 11),.w 11 19] [] [(1000000,1)] [] []]),(3932186,[gA [.v cb] 2]),(8126525,[.mk [.v ci] [.h 4 0 (xl 0),.m 7 7 Γ,.h 1 25 (.hd 5),.h 1 26 (xi),.h 3 1 (.hd 6),.w 5 1,.w 6 5] [] [(1000000,4)] [] []]),(15990821,[gA [.v (.st 15),.v cb] 3])]],λ(U,W,X,σ,Z,a5,a6,a7,a8,a9,a,b,d,e,f,g,h,i,j,k,l,m,n,o,p,q,r,_,s,t,u,v,w,x,y,z,A,E,F,G,K,L,M,O,P,Q,R,_,_,_,_,S,_,T)=>zdv N U W X σ Z a5 a6 a7 a8 a9 a b d e f g h i j k l m n o p q r s t u v w x y z A E F G K L M O P Q R S T⟩
def ri:f9 64 (rC N):=og (g:=64) N .nil (.c (zcU N)<|.c (zb1 N)<|.c (zc2 N)<|.c (zcG N)<|.c (zb6 N)<|.nil)
def BU:dA:=⟨.mk [.p (.pt 0 0 27)] [] [g7 1 2 3,.cells [xi,.hd 4],.cells [xl 0,.mr 5],.row 1,.row 5,.mp 7 Γ] [] [] [],[.mk [.v (.st 16),.v ci] [.h 0 25 (.hd 3),.h 0 26 (xi),.h 1 1 (.hd 4),.h 2 0 (xl 0),.w 3 1,.w 4 5,.m 5 7 Γ] [] [] [(511,k9 [.h 9 24 hi]),(2042,⟨[.r 32 ci,.h 0 26 hi,.h 2 0 (hl 0),.h 9 1 (.fp 20),.h 9 2 hi,.h 9 3 hi,.h 9 4 hi,.h 9 5 hi,.h 9 6 hi,.h 9 7 hi,.h 9 8 hi,.h 9 9 hi,.h 9 10 hi,.h 9 11 (hl 4),.h 9 12 hi,.h 9 13 hb,.h 9 14 hb,.h 9 15 hi,.h 9 16 hi,.h 9 17 hi,.h 9 18 hi,.h 9 19 hi,.h 9 22 hi,.h 9 23 hi,.h 9 24 hi,.h 10 0 hi,.h 10 1 hi,.h 10 2 (hl 6),.w 3 1,.w 4 5,.m 5 7 Γ,.w 11 15],[],[(1057812,15)],[(0,25,3),(1,1,4),(9,20,11)]⟩),(16339,⟨[.h 0 26 hi,.h 2 0 (hl 0),.h 9 1 (.fp 20),.h 9 2 hi,.h 9 3 hi,.h 9 4 hi,.h 9 5 hi,.h 9 6 hi,.h 9 7 hi,.h 9 8 hi,.h 9 9 hi,.h 9 10 hi,.h 9 11 (hl 4),.h 9 12 hi,.h 9 13 hb,.h 9 14 hb,.h 9 15 hi,.h 9 16 hi,.h 9 17 hi,.h 9 18 hi,.h 9 19 hi,.h 9 22 hi,.h 9 23 hi,.h 9 24 hi,.h 10 0 hi,.h 10 1 hi,.h 10 2 (hl 6),.w 3 1,.w 4 5,.m 5 7 Γ,.w 11 15],[],[],[(0,25,3),(1,1,4),(9,20,11)]⟩),(8796093022270,⟨[],[],[(4,0)],[]⟩),(10995116277822,⟨[],[],[(1055746,19),(4,20)],[]⟩)] [(917522,[gA [.p (.k j7),.v ci] 0,.mk [.p (.pt 7 0 3),.p (.k g8)] [] [.cells [xi,xl 2,.hd 8],.row 19] [] [] []]),(66846750,[gA [.v (.c (.sl 5))] 1]),(133955653,[gA [.v cb] 10]),(536084560,[gA [.v (.st 15),.v cb] 3]),(68531257383,[gA [.v cb] 2]),(68531388464,[gA [.v (.st 15),.v cb] 3]),(548252024898,[.mk [] [.h 0 25 (.hd 3),.h 0 26 (xi),.h 1 1 (.hd 4),.h 2 0 (xl 0),.w 3 1,.w 4 5,.m 5 7 Γ,.h 9 1 (.fp 20),.h 9 20 (.hd 11),.w 11 15] [] [(1000000,9)] [] []]),(2193007837246,[.mk [] [.h 9 2 (xi),.h 9 3 (xi),.h 9 4 (xi),.h 9 5 (xi),.h 9 6 (xi),.h 9 7 (xi),.h 9 8 (xi),.h 9 9 (xi),.h 9 10 (xi),.h 9 11 (xl 4),.h 9 12 (xi),.h 9 13 (xb),.h 9 14 (xb),.h 9 15 (xi),.h 9 16 (xi),.h 9 17 (xi),.h 9 18 (xi),.h 9 19 (xi),.h 9 22 (xi),.h 9 23 (xi),.h 9 24 (xi)] [] [(1000000,8)] [] []])]],λ(t,u,v,w,x,y,z,A,E,F,a,b,d,e,f,g,h,i,j,k,l,m,n,o,p,q,r,_,s)=>zfj N t u v w x y z A E F a b d e f g h i j k l m n o p q r s⟩
def BM:f9 18 (BU N):=og (g:=18) N (.c (zj N)<|.nil) (.c (ic N)<|.c (lc N)<|.c (nB N)<|.c (rV N)<|.c (sW N)<|.c (rU N)<|.c (qQ N)<|.c (qU N)<|.c (sq N)<|.c (ri N)<|.c (zc2 N)<|.nil)
def tq:dA:=⟨.mk [.p (.pt 0 0 27)] [] [g7 1 2 3,.cells [xi,.hd 4],.cells [xl 0,.mr 5],.row 1,.row 5,.mp 7 Γ] [] [] [],[.mk [.ag [.k j7,.pt 0 0 27],.v ci] [] [] [] [] [(393224,[gA [.p (.k j7),.v ci] 0,.mk [.p (.pt 7 0 3),.p (.k g8)] [] [.cells [xi,xl 2,.hd 8],.row 19] [] [] []])],.mk [.ag [.pt 6 0 3,.pt 0 0 27],.p (.k g8)] [] [.cells [xi,xl 2,.hd 7],.row 19] [] [] []],λ(s,t,u,v,w,x,y,z,A,E,a,b,d,e,f,g,h,i,j,k,l,m,n,o,p,q,r,_,_)=>zfQ N s t u v w x y z A E a b d e f g h i j k l m n o p q r⟩
def sm:f9 47 (tq N):=og (g:=47) N .nil (.c (ic N)<|.nil)
def kX:dA:=⟨.mk [.ag [.pt 0 0 3,.pt 1 0 27],.v (.st 5)] [] [.cells [xi,xl 2,.hd 2],g7 3 4 5,.row 19,.cells [xi,.hd 6],.cells [xl 0,.mr 7],.row 1,.row 5,.mp 7 Γ] [] [] [],[.mk [.v (.st 23),.v cb] [.h 0 2 (.hd 2),.w 2 19] [] [] [] [(393231,[gA [.v (.st 15),.v cb] 0]),(4063271,[.mk [.v ci] [.h 0 2 (.hd 2),.w 2 19] [] [(1000000,1)] [] []])]],λ(q,_,_,_,r,s,t,u,v,w,a,b,d,e,f,g,h,i,j,k,l,m,n,o,p,_,_,_,_,_,_,_,_)=>zbs N q r s t u v w a b d e f g h i j k l m n o p⟩
def kr:f9 50 (kX N):=og (g:=50) N .nil (.c (zcG N)<|.c (zb1 N)<|.nil)
def pg:dA:=⟨.mk [.p (.pt 0 0 3)] [] [.cells [xi,xl 2,.hd 1],.row 19] [] [] [],[g6 [.v ci]],λ(_,a,_)=>zeh N a⟩
def o_:f9 51 (pg N):=og (g:=51) N .nil .nil
def ua:dA:=⟨.mk [.p (.pt 0 0 27)] [] [g7 1 2 3,.cells [xi,.hd 4],.cells [xl 0,.mr 5],.row 1,.row 5,.mp 7 Γ] [] [] [],[.mk [.v (.st 16),.v ci] [.h 0 25 (.hd 3),.h 0 26 (xi),.h 1 1 (.hd 4),.h 2 0 (xl 0),.w 3 1,.w 4 5,.m 5 7 Γ] [] [(53,15),(70,15)] [(250,⟨[.r 23 ci,.h 0 26 hi,.h 2 0 (hl 0),.w 3 1,.w 4 5,.m 5 7 Γ,.w 8 19,.w 11 15,.w 12 15],[],[(1058817,15),(1058816,15)],[(0,25,3),(1,1,4),(7,2,8),(10,0,12),(10,1,11)]⟩),(2003,⟨[.h 0 26 hi,.h 2 0 (hl 0),.w 3 1,.w 4 5,.m 5 7 Γ,.w 8 19,.w 11 15,.w 12 15],[],[],[(0,25,3),(1,1,4),(7,2,8),(10,0,12),(10,1,11)]⟩),(10995116277884,⟨[],[],[(14,0)],[]⟩)] [(393229,[gA [.ag [.k j7,.pt 0 0 27],.v ci] 0,.mk [.ag [.pt 7 0 3,.pt 0 0 27],.p (.k g8)] [] [.cells [xi,xl 2,.hd 8],.row 19] [] [] []]),(8126485,[gA [.v (.c (.sl 5))] 1]),(4200857630,[gA [.v cb] 2]),(4200988707,[.mk [.v (.st 23),.v cb] [.h 7 2 (.hd 8),.w 8 19] [] [(1000000,3)] [] []]),(67217260591,[gA [.v ci] 4]),(268869435456,[.mk [.v ci] [.h 2 0 (xl 0),.m 5 7 Γ,.h 0 25 (.hd 3),.h 0 26 (xi),.h 1 1 (.hd 4),.w 3 1,.w 4 5] [] [(1000000,5)] [] []])]],λ(t,u,v,w,x,y,z,A,E,F,a,b,d,e,f,g,h,i,j,k,l,m,n,o,p,q,r,_,s)=>zdl N t u v w x y z A E F a b d e f g h i j k l m n o p q r s⟩
def ub:f9 12 (ua N):=og (g:=12) N .nil (.c (sm N)<|.c (lc N)<|.c (nB N)<|.c (kr N)<|.c (o_ N)<|.c (zb6 N)<|.nil)
def Ag:dA:=⟨.mk [.p (.pt 0 0 27)] [] [g7 1 2 3,.cells [xi,.hd 4],.cells [xl 0,.mr 5],.row 1,.row 5,.mp 7 Γ] [] [] [],[.mk [.v (.st 16),.v ci] [.h 0 25 (.hd 3),.h 0 26 (xi),.h 1 1 (.hd 4),.h 2 0 (xl 0),.w 3 1,.w 4 5,.m 5 7 Γ] [] [] [] [(917512,[gA [.v (.st 10)] 0]),(917514,[g6 [.ag [.k (.c (.fn (.func 18) [] []))]],g6 [.ag [.k (.c (.fn (.func 12) [] []))]]]),(917517,[.mk [.v (.st 16),.v ci] [.h 0 25 (.hd 3),.h 0 26 (xi),.h 1 1 (.hd 4),.h 2 0 (xl 0),.w 3 1,.w 4 5,.m 5 7 Γ] [] [(1000000,1)] [] []]),(15716035654990179272097805,[.mk [.v (.st 16),.v ci] [.h 0 25 (.hd 3),.h 0 26 (xi),.h 1 1 (.hd 4),.h 2 0 (xl 0),.w 3 1,.w 4 5,.m 5 7 Γ] [] [(1000000,2)] [] []])]],λ(t,u,v,w,x,y,z,A,E,F,a,b,d,e,f,g,h,i,j,k,l,m,n,o,p,q,r,_,s)=>zdD N t u v w x y z A E F a b d e f g h i j k l m n o p q r s⟩
def nV:f9 29 (Ag N):=og (g:=29) N .nil (.c (zbe N)<|.c (BM N)<|.c (ub N)<|.nil)
def uL:bz:=⟨[],[cb],λa=>fZ N⟩
def uZ:eP 28 (uL N):=tg [] [] [(393224,[gA [.p (.k j7),.p (.k (.c (.lit (.int .i64 2))))] 0,.mk [.p (.pt 0 0 27),.p (.k g8)] [] [g7 1 2 3,.cells [xi,.hd 4],.cells [xl 0,.mr 5],.row 1,.row 5,.mp 7 Γ] [] [] []]),(917518,[gA [.v ci] 1]),(1966096,[gA [.v cb] 2]),(4063251,[gA [.v (.st 16),.v ci] 3]),(8257575,[gA [.v cb] 5]),(7696582311950,[.mk [.v ci] [.h 1 1 (.hd 4),.w 4 5,.h 0 21 (xi),.h 0 25 (.hd 3),.w 3 1] [] [(1000000,4)] [] []]),(7696583360528,[gA [.v cb] 5]),(7696585457683,[.mk [.v (.st 16),.v ci] [.h 0 25 (.hd 3),.h 0 26 (xi),.h 1 1 (.hd 4),.h 2 0 (xl 0),.w 3 1,.w 4 5,.m 5 7 Γ] [] [(1000000,6)] [] []])] N (.c (ul N)<|.nil) (.c (zY N)<|.c (qJ N)<|.c (lM N)<|.c (nP N)<|.c (qF N)<|.c (lW N)<|.c (nV N)<|.nil)
def zh:bz:=⟨[.st 10],[cb],λa=>zfB N a.1⟩
def yH:eP 43 (zh N):=tg [] [(58,k9 [.r 26 ci]),(122,k9 [.r 37 ci])] [] N .nil .nil
def yV:bz:=⟨[.c (.sl 5)],[cb],λa=>zfz N a.1⟩
def yT:eP 44 (yV N):=tg [] [(58,k9 [.r 10 ci])] [] N .nil .nil
def yB:bz:=⟨[.st 10,.st 14],[cb],λa=>zc8 N a.1 a.2.1⟩
def yJ:eP 10 (yB N):=tg [] [(6,k9 [.r 40 cb]),(58,k9 [.r 44 ci])] [] N (.c (yH N)<|.c (yT N)<|.nil) .nil
def ED:bz:=⟨[ci,ci,ci],[cb],λa=>zdR N a.1 a.2.1 a.2.2.1⟩
def tS:eP 131 (ED N):=tg [] [] [] N .nil .nil
def Db:bz:=⟨[.st 10,.st 14],[cb],λa=>kc N a.1 a.2.1⟩
def CO:eP 68 (Db N):=tg [] [] [] N (.c (tS N)<|.nil) .nil
def GD:bz:=⟨[ci],[ci],λa=>pR N a.1⟩
def Fu:eP 133 (GD N):=tg [] [] [] N (.c (ij N)<|.nil) .nil
def Iz:bz:=⟨[.st 10,.st 14],[cb],λa=>sK N a.1 a.2.1⟩
def IJ:eP 69 (Iz N):=tg [] [(122,k9 [.r 5 ci,.r 17 ci]),(62671,k9 [.r 72 cb])] [] N (.c (zfX N)<|.c (Fu N)<|.nil) .nil
def KM:bz:=⟨[.st 10,ci,.st 0],[ci],λa=>Dn N a.1 a.2.1 a.2.2.1⟩
def MD:eP 195 (KM N):=tg [] [(122,k9 [.r 7 ci,.r 30 ci])] [] N (.c (zcg N)<|.c (Bk N)<|.nil) .nil
def KQ:bz:=⟨[.st 10,ci,ci,.st 0],[cb],λa=>jH N a.1 a.2.1 a.2.2.1 a.2.2.2.1⟩
def Mv:eP 135 (KQ N):=tg [] [] [] N (.c (zcg N)<|.c (MD N)<|.nil) .nil
end Go.Abs
end
end
section
set_option maxRecDepth 100000
noncomputable section
namespace Go.Abs
open Go.Proofs
variable[Gl](N:Ε)
def EJ:bz:=⟨[.st 5,ci],[ci],λa=>iJ N a.1 a.2.1⟩
def Er:eP 197 (EJ N):=tg [] [] [] N .nil .nil
def zbY:bz:=⟨[.c (.sl 5),ci,.k 197],[ci,cb],λa=>zaE N a.1 a.2.1⟩
def zbW:eP 196 (zbY N):=tg [] [(60,k9 [.r 9 ci,.r 10 ci])] [] N (.c (Er N)<|.nil) .nil
def Ii:bz:=⟨[.c (.sl 5),ci],[ci,cb],λa=>oP N a.1 a.2.1⟩
def zL:eP 136 (Ii N):=tg [] [] [] N (.c (zbW N)<|.nil) .nil
def Dw:bz:=⟨[.st 10,.st 14],[cb],λa=>kk N a.1 a.2.1⟩
def C_:eP 70 (Dw N):=tg [] [(26,k9 [.r 14 ci]),(211,k9 []),(27038,k9 [.r 33 ci])] [] N (.c (ij N)<|.c (Mv N)<|.c (zL N)<|.nil) .nil
def vL:bz:=⟨[.st 10,.st 14],[cb],λa=>ze4 N a.1 a.2.1⟩
def wB:eP 71 (vL N):=tg [] [(250,k9 [.r 7 (.c (.sl 7)),.r 23 ci,.h 2 0 (hl 0),.m 3 7 Γ]),(2003,k9 [.r 7 (.c (.sl 7)),.h 2 0 (hl 0),.m 3 7 Γ]),(256415,k9 [.r 74 cb,.h 2 0 (hl 0),.m 3 7 Γ])] [(393229,[gA [.p (.k j7),.p (.k (.c (.lit (.int .i64 2))))] 0,.mk [.p (.pt 2 0 2),.p (.k g8)] [] [.cells [xl 0,.mr 3],.mp 7 Γ] [] [] []]),(33608826952,[.mk [.v ci] [.h 2 0 (xl 0),.m 3 7 Γ] [] [(1000000,1)] [] []])] N (.c (zfS N)<|.c (vo N)<|.nil) (.c (zfK N)<|.c (zcS N)<|.nil)
def Bn:bz:=⟨[.st 10,.st 14],[cb],λa=>ie N a.1 a.2.1⟩
def BC:eP 72 (Bn N):=tg [] [(58,k9 [.r 23 ci]),(122,k9 [.r 43 ci]),(125342,k9 [.r 60 ci])] [] N (.c (zF N)<|.c (zL N)<|.c (zB N)<|.nil) .nil
def Hw:bz:=⟨[.c (.sl 1)],[cb],λa=>pz N a.1⟩
def Fy:eP 139 (Hw N):=tg [] [(26,k9 [.r 7 ci])] [] N .nil .nil
def He:bz:=⟨[.st 10,.st 14],[cb],λa=>pI N a.1 a.2.1⟩
def GJ:eP 73 (He N):=tg [] [(6,k9 [.r 18 cb]),(14,k9 [.r 33 cb]),(122,k9 [.r 38 ci])] [] N (.c (tS N)<|.c (Fy N)<|.nil) .nil
def HC:bz:=⟨[.st 10,.st 14],[cb],λa=>pD N a.1 a.2.1⟩
def Fv:eP 20 (HC N):=tg [] [] [] N (.c (zcg N)<|.c (CO N)<|.c (IJ N)<|.c (C_ N)<|.c (wB N)<|.c (BC N)<|.c (GJ N)<|.nil) .nil
def AR:dA:=⟨g6 [.v (.st 10)],[.mk [.p (.k j7),.p (.k (.c (.lit (.int .i64 2))))] [] [] [(37,1)] [] [(917517,[gA [.p (.k j7),.p (.k (.c (.lit (.int .i64 2))))] 0,.mk [.p (.pt 1 0 2),.p (.k g8)] [] [.cells [xi,xn]] [] [] []]),(4063253,[gA [.p (.k j7),.p (.k (.c (.lit (.int .i64 2))))] 1,.mk [.p (.pt 2 0 2),.p (.k g8)] [] [.cells [xl 0,.mr 3],.mp 7 Γ] [] [] []])],.mk [.p (.pt 0 0 27),.p (.k g8)] [] [.cells [.pt 1 0 2,.pt 2 0 2,xl 0,xl 2,xl 3,xi,xi,xi,xi,xi,xi,xi,xi,xi,xi,xi,xi,xi,xi,xi,xi,xi,xi,xn,xl 1,.hd 3,xi],.cells [xi,xn],.cells [xl 0,.mr 4],.row 1,.mp 7 Γ] [] [] []],λa=>fU N a⟩
def AX:f9 39 (AR N):=og (g:=39) N (.c (zcg N)<|.c (hZ N)<|.c (BB N)<|.nil) (.c (oI N)<|.c (zfK N)<|.nil)
def zdN:dA:=⟨g6 [.v (.c (.sl 8))],[.mk [.p (.hd 0)] [] [.row 8] [] [] []],λx=>zbf N x⟩
def zdO:f9 57 (zdN N):=jT (i:=8) (sz:=32) (z:=[g8,g8,g8,g8]) (fn:=Tryz.f57) dR (by kernel_rfl) (by kernel_rfl) (by kernel_rfl) rfl
def lH:dA:=⟨g6 [.v (.c (.sl 1))],[.mk [.p (.hd 0)] [] [.row 1] [] [] []],λx=>zbA N x⟩
def lA:f9 58 (lH N):=jT (i:=1) (sz:=8) (z:=[g8]) (fn:=Tryz.f58) dR (by kernel_rfl) (by kernel_rfl) (by kernel_rfl) rfl
def Cp:dA:=⟨g6 [.v (.st 10),.v (.st 14)],[.mk [.p (.k j7),.v ci] [] [] [] [(250,⟨[.r 29 ci,.w 7 5],[],[(1051649,5)],[(3,1,7)]⟩),(506,k9 [.r 46 ci,.h 4 0 (hl 0),.m 6 7 Γ])] [(917524,[gA [.p (.k j7),.p (.k (.c (.lit (.int .i64 2))))] 0,.mk [.p (.pt 2 0 27),.p (.k g8)] [] [.cells [.pt 3 0 2,.pt 4 0 2,xl 0,xl 2,xl 3,xi,xi,xi,xi,xi,xi,xi,xi,xi,xi,xi,xi,xi,xi,xi,xi,xi,xi,xn,xl 1,.hd 5,xi],.cells [xi,xn],.cells [xl 0,.mr 6],.row 1,.mp 7 Γ] [] [] []]),(33423438,[.mk [.p (.hd 8)] [] [.row 8] [(1000000,3)] [] []]),(66977876,[.mk [.p (.hd 9)] [] [.row 1] [(1000000,4)] [] []]),(134086747,[.mk [.p (.hd 10)] [] [.row 1] [(1000000,4)] [] []]),(2100428838,[.mk [.v ci] [.h 3 1 (.hd 7),.w 7 5] [] [(1000000,1)] [] []]),(4247912503,[.mk [.v ci] [.h 4 0 (xl 0),.m 6 7 Γ] [] [(1000000,2)] [] []])],.mk [.p (.pt 0 0 27),.p (.k g8)] [] [g7 1 2 3,.cells [xi,.hd 4],.cells [xl 0,.mr 5],.row 1,.row 5,.mp 7 Γ] [] [] []],λ(a,b)=>dP N a b⟩
def BA:f9 45 (Cp N):=og (g:=45) N (.c (Fv N)<|.nil) (.c (AX N)<|.c (zfU N)<|.c (zcS N)<|.c (zdO N)<|.c (lA N)<|.nil)
def z_:bz:=⟨[ci,ci,ci],[cb],λa=>CE N a.1 a.2.1 a.2.2.1⟩
def zes:eP 215 (z_ N):=tg [] [] [] N .nil .nil
def ux:bz:=⟨[ci],[cb],λa=>zcu N a.1⟩
def uf:eP 202 (ux N):=tg [] [] [] N .nil .nil
def un:bz:=⟨[.st 0],[cb],λa=>zaW N a.1⟩
def zck:eP 144 (un N):=tg [] [] [] N (.c (uf N)<|.nil) .nil
def uS:bz:=⟨[.st 10],[cb],λa=>zdc N a.1⟩
def uY:eP 216 (uS N):=tg [] [(26,k9 [.r 3 ci])] [] N (.c (zck N)<|.c (zes N)<|.nil) .nil
def tO:bz:=⟨[.c (.sl 1),ci],[cb],λa=>zcW N a.1 a.2.1⟩
def iw:eP 257 (tO N):=tg [] [(26,k9 [.r 5 ci]),(420,k9 [.r 40 cb])] [] N .nil .nil
def uN:bz:=⟨[.st 10],[cb],λa=>zdk N a.1⟩
def u_:eP 217 (uN N):=tg [] [(26,k9 [.r 3 ci]),(420,k9 [.r 29 cb])] [] N (.c (iw N)<|.c (zes N)<|.nil) .nil
def tP:bz:=⟨[.st 10],[cb],λa=>zcP N a.1⟩
def tt:eP 218 (tP N):=tg [] [(26,k9 [.r 3 ci]),(841,k9 [.r 59 cb])] [] N (.c (iw N)<|.c (zes N)<|.nil) .nil
def xy:bz:=⟨[.st 10],[.c .str],λa=>iP N a.1⟩
def xr:eP 168 (xy N):=tg [(28,24),(69,25)] [(7,k9 [.r 4 cb]),(506,k9 [.r 7 ci])] [] N (.c (uY N)<|.c (u_ N)<|.c (zes N)<|.c (tt N)<|.nil) .nil
def uG:bz:=⟨[.st 10],[cb],λa=>zdb N a.1⟩
def uj:eP 107 (uG N):=tg [] [] [] N (.c (xr N)<|.nil) .nil
def uW:bz:=⟨[ci],[cb],λa=>zbw N a.1⟩
def jk:eP 108 (uW N):=tg [] [] [] N .nil .nil
def wJ:bz:=⟨[.c (.sl 5),ci],[ci],λa=>QW N a.1 a.2.1⟩
def za0:eP 21 (wJ N):=tg [] [(26,k9 [.r 5 ci])] [] N .nil .nil
def uU:bz:=⟨[.c (.sl 6),ci],[cb],λa=>zbx N a.1 a.2.1⟩
def zeO:eP 76 (uU N):=tg [] [(26,k9 [.r 5 ci]),(420,k9 [.r 60 cb])] [] N .nil .nil
def AF:bz:=⟨[.c (.sl 6),ci],[ci],λa=>zcT N a.1 a.2.1⟩
def zep:eP 38 (AF N):=tg [] [(58,k9 [.r 5 ci,.r 6 ci]),(233,k9 [.r 5 ci])] [] N .nil .nil
def zw:bz:=⟨[.st 0,.st 0],[.st 0],λa=>Yn N a.1 a.2.1⟩
def zcO:eP 36 (zw N):=tg [] [] [] N .nil .nil
def uD:bz:=⟨[.st 0,ci],[.st 0],λa=>zcv N a.1 a.2.1⟩
def zeF:eP 37 (uD N):=tg [] [(58,k9 [.r 6 ci,.h 2 0 hi,.h 2 1 hi,.h 2 2 hi,.h 2 3 hi])] [] N (.c (zcO N)<|.nil) .nil
def wZ:bz:=⟨[.st 0,.st 0],[cb],λa=>QT N a.1 a.2.1⟩
def zcD:eP 201 (wZ N):=tg [] [] [] N .nil .nil
def yo:bz:=⟨[.st 0,.st 0],[.st 0],λa=>zcx N a.1 a.2.1⟩
def zfO:eP 203 (yo N):=tg [] [] [] N .nil .nil
def vr:bz:=⟨[.c (.sl 0),.c (.sl 7)],[.c (.sl 0),cb],λa=>ze5 N a.1 a.2.1⟩
def vG:eP 146 (vr N):=tg [(55,0)] [(122,⟨[.r 7 cb,.r 8 ci,.w 0 0],[(6,0)],[(6,0)],[]⟩),(7827,k9 [.r 7 cb]),(31306,k9 [.r 10 ci,.h 1 0 hi,.h 1 1 hi,.h 1 2 hi,.h 1 3 hi])] [] N (.c (zep N)<|.c (zeF N)<|.c (zcO N)<|.c (zfO N)<|.c (zcD N)<|.nil) .nil
def sM:bz:=⟨[.st 10,.st 14],[cb],λa=>zdT N a.1 a.2.1⟩
def sP:eP 109 (sM N):=tg [] [(26,k9 [.r 5 ci]),(841,k9 [.r 57 cb])] [] N (.c (za0 N)<|.c (zeO N)<|.c (zck N)<|.c (vG N)<|.nil) .nil
def ve:bz:=⟨[.st 14,ci,ci],[cb],λa=>zel N a.1 a.2.1 a.2.2.1⟩
def uA:eP 169 (ve N):=tg [] [(26,k9 [.r 7 ci]),(841,k9 [.r 54 cb])] [] N (.c (za0 N)<|.c (zep N)<|.nil) .nil
def yp:bz:=⟨[.st 8,ci],[cb],λa=>zfE N a.1 a.2.1⟩
def zk:eP 219 (yp N):=tg [] [] [] N (.c (jk N)<|.nil) .nil
def uH:bz:=⟨[.c (.sl 8),ci,ci,ci],[cb],λa=>zct N a.1 a.2.1 a.2.2.1 a.2.2.2.1⟩
def jm:eP 25 (uH N):=tg [] [(26,k9 [.r 9 ci])] [] N .nil .nil
def uX:bz:=⟨[.c (.sl 8),ci],[cb],λa=>zeo N a.1 a.2.1⟩
def uw:eP 170 (uX N):=tg [] [(26,k9 [.r 5 ci]),(3366,k9 [.r 6 ci]),(53860,k9 [.r 58 cb])] [] N (.c (zk N)<|.c (jm N)<|.nil) .nil
def uz:bz:=⟨[.st 10,.st 14],[cb],λa=>zej N a.1 a.2.1⟩
def uQ:eP 110 (uz N):=tg [] [(26,k9 [.r 5 ci]),(841,k9 [.r 38 cb])] [] N (.c (uA N)<|.c (uw N)<|.nil) .nil
def yw:bz:=⟨[.c (.sl 1),ci],[cb],λa=>zfG N a.1 a.2.1⟩
def zy:eP 111 (yw N):=tg [] [(26,k9 [.r 5 ci]),(420,k9 [.r 23 cb])] [] N .nil .nil
def Ab:bz:=⟨[ci,ci,ci],[cb],λa=>UG N a.1 a.2.1 a.2.2.1⟩
def Av:eP 200 (Ab N):=tg [] [] [] N .nil .nil
def uJ:bz:=⟨[.st 5],[cb],λa=>zdg N a.1⟩
def jq:eP 142 (uJ N):=tg [] [(14,k9 [.r 61 cb]),(26,k9 [.r 3 ci]),(30,k9 [.r 85 cb]),(62,k9 [.r 101 cb]),(126,k9 [.r 119 cb])] [] N (.c (Av N)<|.c (zck N)<|.c (zcD N)<|.nil) .nil
def xA:bz:=⟨[.c (.sl 7),ci],[ci],λa=>zca N a.1 a.2.1⟩
def kI:eP 145 (xA N):=tg [] [(26,k9 [.r 5 ci])] [] N .nil .nil
def zc:bz:=⟨[.st 5],[cb],λa=>zea N a.1⟩
def lU:eP 91 (zc N):=tg [] [] [] N .nil .nil
def uy:bz:=⟨[.st 0,.st 0],[ci],λa=>zbN N a.1 a.2.1⟩
def zeR:eP 258 (uy N):=tg [] [(6,k9 [.r 19 cb]),(124,k9 [.r 5 ci,.h 2 0 hi,.h 2 1 hi,.h 2 2 hi,.h 2 3 hi]),(496,k9 [.r 27 cb])] [] N (.c (zcO N)<|.c (zcD N)<|.c (zck N)<|.nil) .nil
def vM:bz:=⟨[.st 10,ci,.st 0],[ci],λa=>h_ N a.1 a.2.1 a.2.2.1⟩
def xe:eP 220 (vM N):=tg [] [(122,k9 [.r 7 ci,.r 8 ci])] [] N (.c (zeR N)<|.nil) .nil
def vV:bz:=⟨[.st 10,ci,ci,.st 0],[cb],λa=>zdG N a.1 a.2.1 a.2.2.1 a.2.2.2.1⟩
def vK:eP 171 (vV N):=tg [] [] [] N (.c (xe N)<|.nil) .nil
def uO:bz:=⟨[.c (.sl 6)],[ci],λa=>zem N a.1⟩
def uV:eP 24 (uO N):=tg [] [(58,k9 [.r 3 ci,.r 4 ci]),(233,k9 [.r 3 ci])] [] N .nil .nil
def zd:bz:=⟨[.c (.sl 1),ci],[cb],λa=>zfw N a.1 a.2.1⟩
def yN:eP 77 (zd N):=tg [] [(26,k9 [.r 5 ci])] [] N .nil .nil
def xk:bz:=⟨[.st 10,.st 5,.c (.sl 6)],[cb],λa=>zdK N a.1 a.2.1 a.2.2.1⟩
def kR:eP 23 (xk N):=tg [] [(6,k9 [.r 34 cb]),(122,k9 [.r 8 ci])] [] N (.c (yN N)<|.c (zeO N)<|.c (uV N)<|.nil) .nil
def yK:bz:=⟨[.st 10,.st 14,.st 5],[cb],λa=>zfI N a.1 a.2.1 a.2.2.1⟩
def yR:eP 112 (yK N):=tg [] [(15,k9 [.r 7 ci]),(31,k9 [.r 7 ci]),(63,k9 [.r 7 ci]),(510,k9 [.r 83 cb]),(8186,k9 [.r 9 ci])] [] N (.c (jq N)<|.c (kI N)<|.c (za0 N)<|.c (vK N)<|.c (lU N)<|.c (kR N)<|.nil) .nil
def ut:bz:=⟨[.st 10,.st 14],[cb],λa=>zdj N a.1 a.2.1⟩
def uu:eP 46 (ut N):=tg [] [(6,k9 [.r 43 cb]),(14,k9 [.r 86 cb]),(122,k9 [.r 5 ci]),(250,k9 [.r 6 ci]),(4004,k9 [.r 138 cb])] [] N (.c (jk N)<|.c (yR N)<|.c (sP N)<|.c (uQ N)<|.c (zy N)<|.c (uj N)<|.nil) .nil
def wY:bz:=⟨[.st 5,.st 5],[cb],λa=>zfd N a.1 a.2.1⟩
def wR:eP 149 (wY N):=tg [] [(58,k9 [.r 5 ci])] [] N .nil .nil
def vp:bz:=⟨[.c (.sl 5),.c (.sl 5)],[cb],λa=>ze0 N a.1 a.2.1⟩
def vE:eP 83 (vp N):=tg [] [(58,k9 [.r 5 ci])] [] N (.c (wR N)<|.nil) .nil
def vJ:bz:=⟨[.c (.sl 6),.c (.sl 6)],[cb],λa=>zdz N a.1 a.2.1⟩
def kY:eP 123 (vJ N):=tg [] [(58,k9 [.r 5 ci])] [] N .nil .nil
def wK:bz:=⟨[.c (.sl 7),.c (.sl 7)],[cb],λa=>zfc N a.1 a.2.1⟩
def vZ:eP 84 (wK N):=tg [] [(58,k9 [.r 5 ci]),(932,k9 [.r 54 cb])] [] N (.c (kY N)<|.nil) .nil
def vw:bz:=⟨[.c (.sl 8),.c (.sl 8)],[cb],λa=>ze6 N a.1 a.2.1⟩
def xg:eP 85 (vw N):=tg [] [(58,k9 [.r 5 ci])] [] N .nil .nil
def xp:bz:=⟨[.c (.sl 1),.c (.sl 1)],[cb],λa=>zdL N a.1 a.2.1⟩
def vS:eP 86 (xp N):=tg [] [(58,k9 [.r 5 ci])] [] N .nil .nil
def wC:bz:=⟨[.st 14,.st 14],[cb],λa=>zcb N a.1 a.2.1⟩
def kT:eP 27 (wC N):=tg [] [] [] N (.c (vE N)<|.c (vZ N)<|.c (xg N)<|.c (vS N)<|.nil) .nil
end Go.Abs
end
end
