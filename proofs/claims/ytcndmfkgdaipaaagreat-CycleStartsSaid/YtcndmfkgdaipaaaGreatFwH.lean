/- Lemmas. -/
import Derived.Test.YtcndmfkgdaipaaaGreatFwG
import Derived.Test.YtcndmfkgdaipaaaGreatFwB
import Derived.Lib.SlKeysI
import Derived.Lib.SlicesCompact
set_option linter.all false
section
namespace Go.Abs
open Go.Proofs Go.Shelf
noncomputable section
variable[Gl][σ:Ty]
def Na{α:Type}(l v:List α)(k:Int):Option (List α):=if 0<=k/\k<l.length/\0<v.length/\l.length+v.length<=1000000 then some (l.take k.toNat++v++l.drop k.toNat) else none
def orE{α:Type}(a b:Option α):Option α:=match a with | some x=>some x | none=>b
def dg.or{P:Program}{g:FuncId}{j:CT}{o:List CT}{f1 f2:dF j.items->Option (qq o)}(s:dg P g ⟨j,o,f1⟩)(O:dg P g ⟨j,o,f2⟩):dg P g ⟨j,o,fun x=>orE (f1 x) (f2 x)⟩:=
 ⟨s.1,fun x y u A E z F G i K hs M=>by
  change orE (f1 x) (f2 x)=some y at i
  cases h:f1 x with
  | some Q =>
   rw [h] at i
   exact s.2 x y u A E z F G (by rw [←i]; exact h) K hs M
  | none =>
   rw [h] at i
   exact O.2 x y u A E z F G i K hs M⟩
def Ip{P:Program}{ρ:Ren}{ii es d:Nat}{q:String}{z:Value}(L:KV P ρ es d q z)(i:Nat.beq es (aB ii)=true)(r:aW P (ρ.f 22)=true)(j:Nat.beq z.cells.size es=true)(m:Nat.blt 0 es=true)(n:Nat.ble d 1000=true) :
  dg P (ρ.f 22) ⟨.mk [.p (.hd 0),.v (.c (.int .i64)),.p (.hd 1)] [] [.row ii,.row ii] [] [] [],[.mk [.p (.hd 0)] [.w 0 ii] [] [] [] []],λx=>Na (α:=TT ii) x.1 x.2.1 x.2.2⟩:=by
 have:=dd i;subst this;refine ⟨r,λx y s t F z u w b p a o=>?_⟩;dsimp only at b p a;change dF [It.ls ii,It.ls ii,It.cc (.int .i64)] at x;change dF [It.ls ii] at y;have f:some ([TV.c (.own ii 0 0 (List.length (α:=TT ii) x.1)),TV.c (.d (.c (.lit (.int .i64 x.2.2)))),TV.c (.own ii 1 0 (List.length (α:=TT ii) x.2.1))],[TB.row ii x.1 0 0,TB.row ii x.2.1 0 0])=some (s,t):=by rw[<-p];have e:dS (CT.items (.mk [.p (.hd 0),.v (.c (.int .i64)),.p (.hd 1)] [] [.row ii,.row ii] [] [] [])) x=[⟨.ls ii,x.1⟩,⟨.ls ii,x.2.1⟩,⟨.cc (.int .i64),x.2.2⟩]:=rfl;unfold ma;rw[e];simp only[CT.pl,CT.nb,CT.out,cd,dx,kz,zh,tQ,FC,dU,dP,CD,zO,xF,yBu,tc]
 simp only[au,aU] at f;obtain ⟨rfl,rfl⟩:=f;simp only[sS,au,yBA] at a;obtain ⟨rfl,rfl⟩:=a;have g:some ([TV.c (.own ii 0 1 (List.length (α:=TT ii) y))],[TB.row ii y 1 1,TB.row ii x.2.1 0 0])=some (u,w):=by rw[<-o];have e:dS (CT.items (.mk [.p (.hd 0)] [.w 0 ii] [] [] [] [])) y=[⟨.ls ii,y⟩]:=rfl;unfold ma;rw[e];simp only[CT.pl,CT.nb,CT.out,cd,dx,kz,zh,tQ,FC,dU,dP,CD,JC,zO,xF,yBu,List.set_cons_zero,yC7]
 simp only[au,aU] at g;obtain ⟨rfl,rfl⟩:=g;obtain ⟨l,v,k⟩:=x;change List (TT ii) at l;change List (TT ii) at v;change List (TT ii) at y;change Int at k;change Na l v k=some y at b;unfold Na at b;split at b
 ·rename_i h;simp only[au] at b;subst b;obtain ⟨G,K,A,E⟩:=h;have:=Qp L (dd j) (tR.mp m) (CH n) (uU ii) (l:=l) (v:=v) (k:=k.toNat) (by omega) A E;rw[show ((k.toNat:Nat):Int)=k by omega] at this;exact this
 ·simp at b
end
end Go.Abs
end
section
namespace Go.Abs
open Go.Proofs Go.Sort Go.RowKit
noncomputable section
structure PG (P:Program) (g:FuncId):Prop where
 en:aW P g=true
 run:∀(blk off cap:Nat)(zs:List Int)(w:World),Holds encZ w blk off zs.toArray->blk<w.heap.size->zs.length<4611686018427387904->Calls P g #[.slice (some ⟨blk,off,none⟩) zs.length cap] w λe w'=>e=.returned (.tuple #[])/\∃n os,w'=grow (putRow encZ (Sort.ahead w n) blk off (zs.mergeSort λx y=>decide (x<=y)).toArray) os
 nil:∀(p:Option Addr)(cap:Nat)(w:World),Calls P g #[.slice p 0 cap] w λe w'=>e=.returned (.tuple #[])/\w'=w
structure AW (P:Program) (g:FuncId):Prop where
 en:aW P g=true
 run:∀(blk off cap:Nat)(zs:List Int)(w:World),Holds encZ w blk off zs.toArray->zs.length<=9223372036854775807->zs.length<=cap->Calls P g #[.slice (some ⟨blk,off,none⟩) zs.length cap] w λe w'=>e=.returned (.slice (some ⟨blk,off,none⟩) (Lib.compact zs).length cap)/\∃q,w'=putRow encZ (Sort.ahead w q) blk off (Lib.compact zs++List.replicate (zs.length-(Lib.compact zs).length) 0).toArray
 nil:∀(a:Option Addr)(cap:Nat)(w:World),Calls P g #[.slice a 0 cap] w λe w'=>e=.returned (.slice a 0 cap)/\w'=w
def QY(x:Int):List Int->List Int
 |[]=>[x]
 |y::l=>if x<=y then x::y::l else y::QY x l
def Nt:List Int->List Int
 |[]=>[]
 |x::l=>QY x (Nt l)
theorem Bv(x:Int):∀l,(QY x l).Perm (x::l)
 |[]=>.refl _
 |y :: l => by
  unfold QY;split
  ·exact .refl _
  ·exact ((Bv x l).cons y).trans (.swap ..)
theorem Dx:∀l,(Nt l).Perm l
 |[]=>.refl _
 |x::l=>(Bv x _).trans ((Dx l).cons x)
theorem Cp(x:Int):∀{l:List Int},l.Pairwise (λa b=>decide (a<=b)=true)->(QY x l).Pairwise λa b=>decide (a<=b)=true
 |[],_=>by simp[QY]
 |y :: l, h => by
  have e:=yBy.1 h;unfold QY;split
  ·rename_i c;refine yBy.2 ⟨λa d=>?_,h⟩;rcases gy.1 d with rfl | d
   ·simpa using c
   ·have:=e.1 a d;simp at this ⊢;omega
  ·rename_i c;refine yBy.2 ⟨λa d=>?_,Cp x e.2⟩;rcases gy.1 ((Bv x l).mem_iff.1 d) with rfl | d
   ·simp;omega
   ·exact e.1 a d
theorem zj:∀l,(Nt l).Pairwise λa b=>decide (a<=b)=true
 |[]=>.nil
 |x::l=>Cp x (zj l)
def Mf(l:List Int):Nt l=l.mergeSort λx y=>decide (x<=y):=
 (List.mergeSort_of_pairwise (zj l)).symm.trans (Go.mergeSort_of_perm_i (Dx l))
def Mj{α:Type}(d:α->Int)(c:Int->α)(l:List α):Option (List α):=if l.length<=1000000 then some ((Nt (l.map d)).map c) else none
def NV{α:Type}(d:α->Int)(c:Int->α)(l:List α):Option (List α×List α):=if l.length<=1000000 then some (l++[c 0],(Lib.compact (l.map d)).map c) else none
abbrev dI(k:Int):D:=.c (.lit (.int .i64 k))
variable[Gl]
def Sf{Y:ar}{M:Nat->Option Nat}{Fz:Nat->Prop}{w:World}(R:Rel Y M Fz w){b c n:Nat}{os:Array Obj}{arr:Array Value}{T:TypeId}(s:M b=some c){zs a:List Int}(hb:Y[b]? = some (.cells (zs.map dI)))
  (o:w.heap[c]? = some (.cells arr T (0,0))) (hl:a.length=zs.length) (x:zs.length<=arr.size) :
  Rel (Y.set b (.cells (a.map dI))) M Fz (grow (putRow encZ (Sort.ahead w n) c 0 a.toArray) os)/\bF Y M Fz w (Y.set b (.cells (a.map dI))) M Fz (grow (putRow encZ (Sort.ahead w n) c 0 a.toArray) os)/\(grow (putRow encZ (Sort.ahead w n) c 0 a.toArray) os).heap[c]? = some (.cells (putCells encZ 0 a.toArray arr) T (0,0)):=by
 have y:c<w.heap.size:=(CK.1 o).1;have K:(putCells encZ 0 a.toArray arr).size=arr.size:=by simp[putCells]
 have f:∀e p q,Obj.cells arr T (0,0)=.cells e p q->∃j,Obj.cells (putCells encZ 0 a.toArray arr) T (0,0)=.cells j p q/\j.size=e.size:=λe p q h=>by simp_all
 have l:(Ob.cells (zs.map dI)).sz<=(Ob.cells (a.map dI)).sz:=by grind [Ob.sz]
 have cells:∀(i:Nat) k,a[i]? = some k->(putCells encZ 0 a.toArray arr)[i]? = some (encZ k):=λi k hk=>by
  have hi:i<a.length:=(fq.1 hk).1;have z:i<arr.size:=by omega
  simp only[putCells,Array.getElem?_mapIdx,qB z,Cs]
  simp_all
 have A:=bF.yg (ob':=.cells (a.map dI)) R s hb o l f;have t:=R.yg (ob':=.cells (a.map dI)) s hb o l f ⟨_,T,rfl,by simp_all,λi d v u r=>by rw[lS,cC] at u;obtain ⟨k,hk,rfl⟩:=u;rw[cells i k hk] at r;simp only[au] at r;subst r;exact ⟨.c (.lit _),rfl⟩⟩
 have m:=heap_sorted_i (n:=n) (os:=os) a.toArray o;have B:Below (cQ w c (.cells (putCells encZ 0 a.toArray arr) T (0,0))).heap.size (cQ w c (.cells (putCells encZ 0 a.toArray arr) T (0,0))) (grow (putRow encZ (Sort.ahead w n) c 0 a.toArray) os):=by
  obtain ⟨E,F,G,L,N⟩:=grownBy_sorted_i (w:=w) (g:=c) (n:=n) (os:=os) a.toArray;refine ⟨E,F,G,by simp_all,λk hk=>?_⟩
  grind [eU,fZ]
 exact ⟨t.below B,A.trans (bF.below t B) (by simp),m⟩
def HO{Y:ar}{M:Nat->Option Nat}{Fz:Nat->Prop}{w:World}(R:Rel Y M Fz w){b c:Nat}{arr:Array Value}{T:TypeId}(g:M b=some c){zs:List Int}(hb:Y[b]? = some (.cells (zs.map dI)))(e:w.heap[c]? = some (.cells arr T (0,0)))(h:zs.length<=arr.size) :
  Holds encZ w c 0 zs.toArray:=by
 obtain ⟨f,j,a,hl,d⟩:=R.row g hb;rw[e] at a;simp only[au,Obj.cells.injEq,NT] at a;obtain ⟨rfl,rfl⟩:=a;refine holds_of_block_i e (VW λi=>?_);by_cases hi:i<zs.length
 ·rw[List.getElem?_take,if_pos hi,TJ,lS,dW hi,qB (by omega)];have:=(d i (dI zs[i]) (arr[i]'(by omega)) (by simp[hi]) (qB _)).1.ce
  simp_all
 simp_all
variable[σ:Ty]
def XW{P:Program}{g:FuncId}(K:PG P g){zs:List Int}(r:zs.length<=1000000) :
  Ok P g [.sl 0 0 zs.length 1 (zs.length * 1)] [.cells (zs.map dI)] (.aV []) [.cells ((zs.mergeSort λx y=>decide (x<=y)).map dI)]:=by
 intro M s w t R hs E;obtain ⟨j,rfl⟩:∃j,t=#[j]:=by
  obtain ⟨F⟩:=t
  match F,hs with
  |[a],_=>simp_all
 have u:=E 0 _ j rfl rfl;have f:([Ob.cells (zs.map dI)]:ar)[0]? = some (.cells (zs.map dI)):=rfl;have b:nW [Ob.cells (zs.map dI)] 0 (zs.length * 1)=some (zs.map dI):=Qk f (by simp);have G:(zs.mergeSort λx y=>decide (x<=y)).length=zs.length:=List.length_mergeSort zs;by_cases z:zs=[]
 ·subst z;have:∃p cap,j=.slice p 0 cap:=by
   rcases u.fU b with ⟨h,_⟩ | ⟨c,o,cap,k,T,l,h,_⟩ <;> exact ⟨_,_,h⟩
  obtain ⟨p,cap,rfl⟩:=this;refine (K.nil p cap w).mono ?_;rintro e L ⟨rfl,rfl⟩;rw[show ([]:List Int).mergeSort (λx y=>decide (x<=y))=[] by simp];exact ⟨_,M,s,rfl,R,.aV _ rfl λi d v h=>by simp at h,bF.refl R⟩
 ·have N:zs.length≠0:=λh=>z (ZI h);rcases u.fU b with ⟨_,e,_⟩ | ⟨c,o,cap,k,T,l,rfl,⟨O,Q⟩,W,m,A,_⟩
  ·omega
  obtain rfl:o=0:=by omega
  have q:c<w.heap.size:=(CK.1 m).1;refine (K.run c 0 cap zs w (HO R l f m (by omega)) q (by omega)).mono ?_;rintro e L ⟨rfl,n,os,rfl⟩;obtain ⟨S,U,_⟩:=Sf (n:=n) (os:=os) R l f m G (by omega);exact ⟨_,M,s,rfl,S,.aV _ rfl λi d v h=>by simp at h,U⟩
theorem yE(zs:List Int):(Lib.compact zs).length<=zs.length:=by grind [Go.Lib.compact,Go.Lib.compactUpTo]
def NJ{P:Program}{g:FuncId}(K:AW P g){zs garb:List Int}(q:zs.length<=1000000)(S:zs.length<garb.length) :
  Ok P g [.sl 0 0 zs.length 1 (zs.length * 1)] [.cells (zs.map dI)] (.sl 1 0 (Lib.compact zs).length 1 ((Lib.compact zs).length * 1)) [.cells (garb.map dI),.cells ((Lib.compact zs).map dI)]:=by
 have z:(Lib.compact zs++List.replicate (zs.length-(Lib.compact zs).length) 0).length=zs.length:=by grind [yE]
 have i:Ok P g [.sl 0 0 zs.length 1 (zs.length * 1)] [.cells (zs.map dI)] (.sl 0 0 (Lib.compact zs).length 1 (zs.length * 1)) [.cells ((Lib.compact zs++List.replicate (zs.length-(Lib.compact zs).length) 0).map dI)]:=by
  intro M A w r R hs E;obtain ⟨j,rfl⟩:∃j,r=#[j]:=by
   obtain ⟨F⟩:=r
   match F,hs with
   |[a],_=>simp_all
  have s:=E 0 _ j rfl rfl;have f:([Ob.cells (zs.map dI)]:ar)[0]? = some (.cells (zs.map dI)):=rfl;have b:nW [Ob.cells (zs.map dI)] 0 (zs.length * 1)=some (zs.map dI):=Qk f (by simp);by_cases t:zs=[]
  ·subst t;have:∃p cap,j=.slice p 0 cap:=by
    rcases s.fU b with ⟨h,_⟩ | ⟨c,o,cap,l,T,k,h,_⟩ <;> exact ⟨_,_,h⟩
   obtain ⟨p,cap,rfl⟩:=this;refine (K.nil p cap w).mono ?_
   grind [bF.refl]
  ·have G:zs.length≠0:=λh=>t (ZI h);rcases s.fU b with ⟨_,e,_⟩ | ⟨c,o,cap,l,T,k,rfl,⟨L,N⟩,U,m,u,_⟩
   ·omega
   obtain rfl:o=0:=by omega
   have O:c<w.heap.size:=(CK.1 m).1;refine (K.run c 0 cap zs w (HO R k f m (by omega)) (by omega) (by omega)).mono ?_;rintro e W ⟨rfl,n,rfl⟩;have Q:∀w:World,grow w #[]=w:=λw=>by simp_all
   obtain ⟨v,x,y⟩:=Sf (n:=n) (os:=#[]) R k f m z (by omega);rw[Q] at v x y;refine ⟨_,M,A,rfl,v,?_,x⟩;have:=yE zs;exact .sl _ _ _ (by simp) (.cells ((Lib.compact zs++List.replicate (zs.length-(Lib.compact zs).length) 0).map dI)) rfl (by grind [Ob.sz]) λ_=>.inr ⟨c,0,_,T,k,rfl,rfl,⟨by omega,by omega⟩,.inl rfl,y,by simp[putCells];omega,by omega⟩
 have:=Ok.cut (garb:=garb.map dI) i (by simp_all) (by grind) (λd X=>by grind) (by simp_all) (by simp)
 simp_all
theorem XL{ii:Nat}{d:TT ii->Int}(b:∀a,enc ii a=[.lit (.int .i64 (d a))])(l:List (TT ii)):OB (enc ii) l=.cells ((l.map d).map dI):=by
 unfold OB;congr 1;induction l with
 |nil=>rfl
 |cons a l ih=>simp_all
theorem Sa{ii:Nat}{c:Int->TT ii}(b:∀k,enc ii (c k)=[.lit (.int .i64 k)])(l:List Int):OB (enc ii) (l.map c)=.cells (l.map dI):=by
 unfold OB;congr 1;induction l with
 |nil=>rfl
 |cons a l ih=>simp_all
def sort_oo{P:Program}{g ii:Nat}(K:PG P g){d:TT ii->Int}{c:Int->TT ii}(t:∀a,enc ii a=[.lit (.int .i64 (d a))])(u:∀k,enc ii (c k)=[.lit (.int .i64 k)])(l:Nat.beq (aB ii) 1=true) :
  dg P g ⟨.mk [.p (.hd 0)] [] [.row ii] [] [] [],[.mk [] [.w 0 ii] [] [] [] []],λx=>Mj (α:=TT ii) d c x⟩:=by
 have o:=dd l;refine ⟨K.en,λx y p q v z r s f n b m=>?_⟩;dsimp only at f n b;change dF [It.ls ii] at x;change dF [It.ls ii] at y;have i:some ([TV.c (.own ii 0 0 (List.length (α:=TT ii) x))],[TB.row ii x 0 0])=some (p,q):=by rw[<-n];have e:dS (CT.items (.mk [.p (.hd 0)] [] [.row ii] [] [] [])) x=[⟨.ls ii,x⟩]:=rfl;unfold ma;rw[e];simp only[CT.pl,CT.nb,CT.out,cd,dx,kz,zh,tQ,FC,dU,dP,CD,zO,xF]
 simp only[au,aU] at i;obtain ⟨rfl,rfl⟩:=i;simp only[sS,au,yBA] at b;obtain ⟨rfl,rfl⟩:=b;have j:some (([]:List TV),[TB.row ii y 1 1])=some (r,s):=by rw[<-m];have e:dS (CT.items (.mk [] [.w 0 ii] [] [] [] [])) y=[⟨.ls ii,y⟩]:=rfl;unfold ma;rw[e];simp only[CT.pl,CT.nb,CT.out,cd,dx,kz,FC,dU,dP,CD,JC,zO,xF,List.set_cons_zero,yC7]
 simp only[au,aU] at j;obtain ⟨rfl,rfl⟩:=j;change List (TT ii) at x;change List (TT ii) at y;change Mj d c x=some y at f;unfold Mj at f;rw[Mf] at f;split at f
 ·rename_i h;simp only[au] at f;subst f;have:=XW K (zs:=x.map d) (by simp_all);show Ok P g [OS (aB ii) 0 x.length] [OB (enc ii) x] (.aV []) [OB (enc ii) _]
  grind [XL,Sa]
 simp_all
def Pt{P:Program}{g ii:Nat}(K:AW P g){d:TT ii->Int}{c:Int->TT ii}(v:∀a,enc ii a=[.lit (.int .i64 (d a))])(w:∀k,enc ii (c k)=[.lit (.int .i64 k)])(l:Nat.beq (aB ii) 1=true) :
  dg P g ⟨.mk [.p (.hd 0)] [] [.row ii] [] [] [],[.mk [.p (.hd 1)] [.w 0 ii] [.row ii] [] [] []],λx=>NV (α:=TT ii) d c x⟩:=by
 have p:=dd l;refine ⟨K.en,λx y q s A z t u f n b m=>?_⟩;dsimp only at f n b;change dF [It.ls ii] at x;change dF [It.ls ii,It.ls ii] at y;have i:some ([TV.c (.own ii 0 0 (List.length (α:=TT ii) x))],[TB.row ii x 0 0])=some (q,s):=by rw[<-n];have e:dS (CT.items (.mk [.p (.hd 0)] [] [.row ii] [] [] [])) x=[⟨.ls ii,x⟩]:=rfl;unfold ma;rw[e];simp only[CT.pl,CT.nb,CT.out,cd,dx,kz,zh,tQ,FC,dU,dP,CD,zO,xF]
 simp only[au,aU] at i;obtain ⟨rfl,rfl⟩:=i;simp only[sS,au,yBA] at b;obtain ⟨rfl,rfl⟩:=b;have j:some ([TV.c (.own ii 1 0 (List.length (α:=TT ii) y.2))],[TB.row ii y.1 1 1,TB.row ii y.2 0 0])=some (t,u):=by rw[<-m];have e:dS (CT.items (.mk [.p (.hd 1)] [.w 0 ii] [.row ii] [] [] [])) y=[⟨.ls ii,y.1⟩,⟨.ls ii,y.2⟩]:=rfl;unfold ma;rw[e];simp only[CT.pl,CT.nb,CT.out,cd,dx,kz,zh,tQ,FC,dU,dP,CD,JC,zO,xF,yBu,List.set_cons_zero,yC7]
 simp only[au,aU] at j;obtain ⟨rfl,rfl⟩:=j;obtain ⟨o,r⟩:=y;change List (TT ii) at x;change List (TT ii) at o;change List (TT ii) at r;change NV d c x=some (o,r) at f;unfold NV at f;split at f
 ·rename_i h;simp only[au,aU] at f;obtain ⟨rfl,rfl⟩:=f;have:=NJ K (zs:=x.map d) (garb:=x.map d++[d (c 0)]) (by simp_all) (by simp);show Ok P g [OS (aB ii) 0 x.length] [OB (enc ii) x] (OS (aB ii) 1 _) [OB (enc ii) _,OB (enc ii) _]
  grind [XL,Sa]
 simp_all
end
end Go.Abs
end
section
namespace Go.Abs
section
variable[Gl]
def Shp(a:List Sh)(xs:List C):Prop:=xs.length=a.length/\∀(i:Nat) t x,a[i]? = some t->xs[i]? = some x->Shaped t x
theorem Shp.cons{s:Sh}{j:List Sh}{xs:List C}(h:Shp (s::j) xs):∃x o,xs=x::o/\Shaped s x/\Shp j o:=by
 obtain ⟨hl,h⟩:=h
 match xs,hl,h with
 |x::o,hl,h=>exact ⟨x,o,rfl,h 0 s x rfl rfl,by simp_all,λi t y u z=>h (i+1) t y (by simp_all) (by simp_all)⟩
theorem Shp.nil{xs:List C}(h:Shp [] xs):xs=[]:=by simpa using h.1
variable[σ:Ty]
def shC(rec:Nat->List Sh):CC->Sh
 |.int k=>.int k
 |.bool=>.bool
 |.str=>.str
 |.sl j=>.sl (rec j)
 |.fk _=>.no
def shN:Nat->Nat->List Sh
 |0,_=>[]
 |k+1,i=>(σ.fl i).map (shC (shN k))
def shT(i:Nat):List Sh:=shN (i+1) i
theorem shC_dec{rec:Nat->List Sh}{r:(j:Nat)->TT j->List C}{c:CC}(i:∀j,c=.sl j->∀xs,Shp (rec j) xs->∃a:TT j,xs=r j a){x:C}(h:Shaped (shC rec c) x):∃a:c.dn,x=tL r c a:=by
 cases c with
 |int k=>cases h with | int h=>exact ⟨_,rfl⟩
 |bool=>cases h with | bool b=>exact ⟨_,rfl⟩
 |str=>cases h with | str b=>exact ⟨_,rfl⟩
 |fk m=>cases h
 |sl j=>
  cases h with
  |sl hl f g=>
   rename_i d;have:∃l:List (TT j),d=l.map (r j):=by
    clear hl;induction d with
    |nil=>simp_all
    |cons y d ih=>obtain ⟨a,n⟩:=i j rfl y ⟨f y (by simp),g y (by simp)⟩;obtain ⟨l,hl⟩:=ih (λz e=>f z (by simp[e])) (λz e=>g z (by simp[e]));exact ⟨a::l,by simp_all⟩
   obtain ⟨l,rfl⟩:=this;exact ⟨l,rfl⟩
theorem shL_dec{rec:Nat->List Sh}{r:(j:Nat)->TT j->List C}:∀(cs:List CC),(∀j,CC.sl j∈cs->∀xs,Shp (rec j) xs->∃a:TT j,xs=r j a)->∀xs,Shp (cs.map (shC rec)) xs->∃a:aV cs,xs=mR r cs a:=by
 intro cs;induction cs with
 |nil=>intro _ xs h;exact ⟨(),h.nil⟩
 |cons c cs ih=>intro d xs h;obtain ⟨x,f,rfl,g,i⟩:=Shp.cons h;obtain ⟨a,rfl⟩:=shC_dec (λj e=>d j (by simp_all)) g;obtain ⟨b,rfl⟩:=ih (λj e=>d j (o_ _ e)) f i;exact ⟨(a,b),rfl⟩
theorem shN_dec:∀(k i:Nat),i<k->∀xs,Shp (shN k i) xs->∃a:TT i,xs=Nd k i a:=by
 intro k;induction k with
 |zero=>omega
 |succ k ih=>intro i hi xs h;obtain ⟨a,rfl⟩:=shL_dec (rec:=shN k) (r:=Nd k) (σ.fl i) (λj b=>ih j (by have:=σ.dn i j b;omega)) xs h;exact ⟨σ.mkt i a,by grind [Nd,Ty.pm]⟩
def sh_dec(i:Nat){xs:List C}(h:Shp (shT i) xs):∃a:TT i,xs=enc i a:=shN_dec (i+1) i (by omega) xs h
def arg_st(i:Nat){w:World}{xs:List C}{vs:Array Value}(h:FD w (shT i) xs vs.toList):∃a:TT i,V [] (λ_=>none) (λc=>c<w.heap.size) w (dt.enc (.st i) a) (.agg vs):=by have b:=V.UN h (Y:=[]) (M:=λ_=>none);obtain ⟨a,rfl⟩:=sh_dec i ⟨h.1,h.2.2.1⟩;exact ⟨a,b⟩
open Go.RowKit in
def ZJ{P:Program}{g:FuncId}{ds:List D}(h:Pure P g ds (B true)){w:World}{vs:Array Value}(hs:vs.size=ds.length)
  (b:∀(i:Nat) d v,ds[i]? = some d->vs[i]? = some v->V [] (λ_=>none) (λc=>c<w.heap.size) w d v) (j:Gl.ok (λc=>c<w.heap.size) w) :
  Calls P g vs w λe f=>e=.returned (.bool true)/\Below w.heap.size w f:=by
 refine (h.2 _ _ w vs (Rel.start w j) hs b).mono λe f l=>?_;obtain ⟨v,n,m,rfl,o,b,a⟩:=l;exact ⟨by rw[b.ce],a.out.1,a.out.2.1,a.out.2.2,a.size,λk hk=>(a.fz k hk).2⟩
end
end Go.Abs
end
