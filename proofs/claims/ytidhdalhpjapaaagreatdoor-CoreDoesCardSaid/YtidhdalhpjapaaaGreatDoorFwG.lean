/- DfwPy, DfwKy, DfwDl, DfwRw -/
import Derived.Test.YtidhdalhpjapaaaGreatDoorFwF
import Derived.Lib.SlKeysI
import Derived.KernelRfl
import Derived.Test.YtidhdalhpjapaaaGreatDoorFwC
import Derived.Test.YtidhdalhpjapaaaGreatDoorFwB
set_option linter.all false
section
namespace Go.Abs
noncomputable section
variable[Gl][Y:Ty]
abbrev Xt:D:=.c (.lit (.slice none 0 0))
def Lz (es sz:Nat) (z:List D):mR:=⟨1,8,[(2,none)],.seq (.MK [⟨some 2,.DR (.k Xt),none⟩])
 (.seq (.seq (.MK [⟨some 3,.DR (.t 0),none⟩,⟨some 4,.iy 3 false (.t 3),none⟩])
  (.cond (.t 4) (.seq (.MK [⟨some 2,.DR (.k Xt),none⟩]) .ret) .skip))
 (.seq (.MK [⟨some 5,.iV es 0 z [],none⟩,⟨some 6,.DR (.t 0),none⟩,⟨some 7,.append es sz (.t 5) (.t 6),none⟩,⟨some 2,.DR (.t 7),none⟩]) .ret)),true⟩
def cloneF(i:Nat)(a:rU [cR.c (.sl i)]):Option (kT [cR.c (.sl i)]):=bU ([]:List (TT i)) a.1
theorem dz{P:Program}:pC P (λ_ _ _ _=>none):=λt g ds U r a wr h=>by simp at h
theorem sL{P:Program}{g i sz:Nat}{z:List D}{fn:Func}(dF:P.follows .mixedOrders=true)(k:P.funcs[g]? = some fn)(o:bq P g=true)(p:jI P fn true=some (Lz (aA i) sz z))(hs:Nat.ble sz 1000=true):bB P g ⟨[.c (.sl i)],[.c (.sl i)],cloneF i⟩:=by
 intro a r j;obtain ⟨l,u⟩:=a;dsimp only at j;show Pure P g [.c (.cU false (l.map (enc i)))] (.c (.cU false (r.map (enc i))));obtain ⟨q,rfl⟩:=su (l:=([]:List (TT i))) (m:=l) j;refine SJ (λe d=>?_) ?_ ?_
 ·rw[jJ] at d;obtain ⟨x,_,rfl⟩:=d;intro h;have:=uG i x;rw[h] at this;have s:=Y.ps i
  simp_all
 ·refine uj k o p (DM rfl) ?_;refine Sem.jB (Sem.pS dF dz (dq.op (DK rfl) uB rfl (dq.nil (.inl ?_))));refine Sem.jB ?_;refine Sem.jB (Sem.pS dF dz (dq.op (DK rfl) uB rfl (dq.op (eG (b:=false) rfl rfl) uB rfl (dq.nil (.inl ?_)))));refine Sem.cond (b:=false) rfl (λh=>by simp at h) λ_=>Sem.skip dF (.inl ?_);refine Sem.jB (Sem.pS dF dz (dq.op (jc (f:=enc i) (l:=([]:List (TT i))) rfl rfl rfl (uG i) rfl rfl rfl) uB rfl (dq.op (DK rfl) uB rfl
   (dq.op (uA (f:=enc i) (l:=([]:List (TT i))) (m:=r) (r:=r) (uG i) rfl rfl rfl rfl (Bo (uG i)) j hs rfl rfl) uB rfl (dq.op (DK rfl) uB rfl (dq.nil (.inl ?_)))))))
  refine Sem.ret dF ⟨.inr rfl,_,_,rfl,XN (l:=r) (uG i) (Y.ps i) rfl rfl,Dw.Mc rfl⟩
 ·intro d;rw[d];refine uj k o p (DM rfl) ?_;refine Sem.jB (Sem.pS dF dz (dq.op (DK rfl) uB rfl (dq.nil (.inl ?_))));refine Sem.jB ?_;refine Sem.jB (Sem.pS dF dz (dq.op (DK rfl) uB rfl (dq.op (eG (b:=true) rfl rfl) uB rfl (dq.nil (.inl ?_)))));refine Sem.cond (b:=true) rfl (λ_=>?_) λh=>by simp at h
  refine Sem.jB (Sem.pS dF dz (dq.op (DK rfl) uB rfl (dq.nil (.inl ?_))));refine Sem.ret dF ⟨.inr rfl,_,_,rfl,rfl,Dw.Mc rfl⟩
theorem ok_nil{P:Program}{g:FuncId}{es:List (List C)}{r:D}{U U':aq}(q:∀e∈es,e≠[])(E:Ok P g [.c (.cU true es)] U r U')(F:es=[]->Ok P g [.c (.lit (.slice none 0 0))] U r U'):Ok P g [.c (.cU false es)] U r U':=by
 intro M k w b R hs G;have s:b[0]? = some (b[0]'(by simp_all)):=tc _;have h:=G 0 _ _ rfl s;generalize N:b[0]'(by simp_all)=x at h s;have only:∀d,V U M k w d x->∀(i:Nat) t v,[d][i]? = some t->b[i]? = some v->V U M k w t v:=by grind
 cases h with
 |c u=>
  generalize z:C.cU false es=y at u;cases u with
  |cU aA a l K A c m j o p=>
   simp only[C.cU.injEq] at z;obtain ⟨rfl,rfl⟩:=z;cases a with
   |some a=>exact E M k w b R hs (only _ (.c (.cU aA (some a) l (λ_=>rfl) A c m j o p)))
   |none=>
    have L:es=[]:=by simp_all
    subst L;have:=A rfl;subst this;exact F rfl M k w b R hs (only _ (.c (.lit _)))
  |_=>grind
theorem QM{P:Program}{g:FuncId}{ds:List D}(h:Ok P g ds [] Xt [])(es:Nat):Ok P g ds [] (.sl 0 0 0 es 0) [.cells []]:=by
 intro M m w p R hs q;refine (h M m w p R hs q).mono λe y r=>?_;obtain ⟨v,i,j,s,d,k,a⟩:=r;have t:∀b,i b=none:=λb=>by
  cases l:i b with
  |none=>rfl
  |some c=>obtain ⟨_,u,o,z,_⟩:=d.blk b c l;grind
 refine ⟨v,i,j,s,⟨λb c l=>(by simp_all),d.inj,d.fz,d.gl⟩,?_,⟨a.size,a.frame,a.oA,a.fz,a.rS,a.sa,λb u l=>by grind,a.out⟩⟩;cases k with
 |c x=>
  cases x with
  |lit=>exact .sl none 0 0 (λh=>absurd rfl h) (.cells []) rfl (cT _) λ_=>.inl ⟨rfl,rfl,rfl,rfl,rfl,rfl⟩
theorem ZG{i:Nat}{l:List (TT i)}:Oq 0 [OB (enc i) l] [OB (enc i) l] id (λ_=>False):={
 le:=OL _
 id:=λi h=>rfl
 inj:=λi j _ _ h=>h
 fr:=λ_ _ h=>h
 row:=λ_ h=>h.elim
 sz:=λj g=>by simp_all
 ob:=λj g=>by
  have:j=0:=by simp_all
  subst this;have N:Rn 0 [OB (enc i) l] [OB (enc i) l] id (λ_=>False):=⟨OL _,λi h=>rfl,λi j _ _ h=>h,λ_ _ h=>h,λ_ h=>h.elim,λj g=>by simp_all⟩
  refine ⟨_,_,rfl,rfl,_,rfl,aH.Fs rfl λk a b d e=>?_⟩;rw[d] at e;simp only[aw] at e;subst e;rw[jX,cu] at d;obtain ⟨c,_,rfl⟩:=d;exact c_.data N rfl }
theorem pc{P:Program}{g i sz:Nat}{z:List D}{fn:Func}(dF:P.follows .mixedOrders=true)(r:P.funcs[g]? = some fn)(u:bq P g=true)(s:jI P fn true=some (Lz (aA i) sz z))(hs:Nat.ble sz 1000=true) :
  cS P g ⟨.mk [.v (.c (.sl i))] [] [] [] [] [],[.mk [.p (.hd 0)] [] [.row i] [] [] []],λx=>bU ([]:List (TT i)) x⟩:=by
 refine ⟨u,λx y v U F z w A p q a E=>?_⟩;dsimp only at p q a;change dT [It.cc (.sl i)] at x;change dT [It.ls i] at y;have k:some ([TV.c (.sl i x)],([]:TH))=some (v,U):=by rw[<-q];have e:gL (CT.bN (.mk [.v (.c (.sl i))] [] [] [] [] [])) x=[⟨.cc (.sl i),x⟩]:=rfl;unfold sH;rw[e];simp only[CT.pl,CT.nb,CT.out,cd,dA,qg,AU,K_,fA,dX,Zr];rfl
 simp only[aw,ba] at k;obtain ⟨rfl,rfl⟩:=k;simp only[xA,aw,yB5] at a;obtain ⟨rfl,G⟩:=a;have o:some ([TV.c (.own i 0 0 (List.length (α:=TT i) y))],[TB.row i y 0 0])=some (w,A):=by rw[<-E];have e:gL (CT.bN (.mk [.p (.hd 0)] [] [.row i] [] [] [])) y=[⟨.ls i,y⟩]:=rfl;unfold sH;rw[e];simp only[CT.pl,CT.nb,CT.out,cd,dA,qg,AU,Ag,K_,fA,dX,Zr,List.nil_append,List.getElem?_cons_zero]
 simp only[aw,ba] at o;obtain ⟨rfl,rfl⟩:=o;obtain ⟨t,rfl⟩:=su (l:=([]:List (TT i))) (m:=x) p;show Ok P g [.c (.cU false (List.map (enc i) y))] [] (OS (aA i) 0 (List.length (α:=TT i) y)) [OB (enc i) y];refine ok_nil (λe d=>?_) ?_ ?_
 ·rw[jJ] at d;obtain ⟨x,_,rfl⟩:=d;intro h;have:=uG i x;rw[h] at this;have q:=Y.ps i
  simp_all
 ·refine oD r s (DM rfl) ?_;refine Sem.jB (Sem.pS dF dz (dq.op (DK rfl) uB rfl (dq.nil (.inl ?_))));refine Sem.jB ?_;refine Sem.jB (Sem.pS dF dz (dq.op (DK rfl) uB rfl (dq.op (eG (b:=false) rfl rfl) uB rfl (dq.nil (.inl ?_)))));refine Sem.cond (b:=false) rfl (λh=>by simp at h) λ_=>Sem.skip dF (.inl ?_);refine Sem.jB (Sem.pS dF dz (dq.op (jc (f:=enc i) (l:=([]:List (TT i))) rfl rfl rfl (uG i) rfl rfl rfl) uB rfl (dq.op (DK rfl) uB rfl
   (dq.op (uA (f:=enc i) (l:=([]:List (TT i))) (uG i) rfl rfl rfl rfl (Bo (uG i)) p hs rfl rfl) uB rfl (dq.op (DK rfl) uB rfl (dq.nil (.inl ?_)))))))
  refine Sem.ret dF ⟨.inr rfl,_,id,λ_=>False,rfl,ZG,λ_ h=>h.elim,?_⟩;exact c_.sl ZG.toRn (i:=0) (Nat.lt_succ_self 0)
 ·intro d;have d:y=([]:List (TT i)):=List.map_eq_nil_iff.1 d;subst d;have e:OS (aA i) 0 (List.length (α:=TT i) [])=.sl 0 0 0 (aA i) 0:=by simp[OS]
  rw[e];refine QM ?_ (aA i);refine oD r s (DM rfl) ?_;refine Sem.jB (Sem.pS dF dz (dq.op (DK rfl) uB rfl (dq.nil (.inl ?_))));refine Sem.jB ?_;refine Sem.jB (Sem.pS dF dz (dq.op (DK rfl) uB rfl (dq.op (eG (b:=true) rfl rfl) uB rfl (dq.nil (.inl ?_)))));refine Sem.cond (b:=true) rfl (λ_=>?_) λh=>by simp at h
  refine Sem.jB (Sem.pS dF dz (dq.op (DK rfl) uB rfl (dq.nil (.inl ?_))));refine Sem.ret dF ⟨.inr rfl,_,id,λ_=>False,rfl,⟨⟨cT _,λi h=>rfl,λi j _ _ h=>h,λ_ _ h=>h,λ_ h=>h.elim,λi h=>by simp at h⟩,λi h=>by simp at h⟩,λ_ h=>h.elim,?_⟩;exact c_.data ⟨cT _,λi h=>rfl,λi j _ _ h=>h,λ_ _ h=>h,λ_ h=>h.elim,λi h=>by simp at h⟩ rfl
theorem YL{U:aq}(h:∀ob∈U,∃(i:Nat)(l:List (TT i)),ob=OB (enc i) l){m:Nat}(p:m<=U.length):Oq m U U id (λ_=>False):=by have N:Rn m U U id (λ_=>False):=⟨p,λi _=>rfl,λi j _ _ e=>e,λ_ _ e=>e,λ_ e=>e.elim,λi d=>⟨_,_,dB d,dB d,rfl⟩⟩;refine ⟨N,λi d=>⟨_,_,dB d,dB d,?_⟩⟩;obtain ⟨k,l,e⟩:=h _ (bR d);rw[e];refine ⟨_,rfl,aH.Fs rfl λk a b g o=>?_⟩;rw[g] at o;simp only[aw] at o;subst o;rw[jX,cu] at g;obtain ⟨c,_,rfl⟩:=g;exact c_.data N rfl
theorem Jo{P:Program}{g ii sz:Nat}{z:List D}{fn:Func}(dF:P.follows .mixedOrders=true)(K:P.funcs[g]? = some fn)(X:bq P g=true)(L:jI P fn true=some (Lz (aA ii) sz z))(hs:Nat.ble sz 1000=true) :
  cS P g ⟨.mk [.p (.hd 0)] [] [.row ii] [] [] [],[.mk [.p (.hd 1)] [] [.row ii] [] [] []],λx=>bU ([]:List (TT ii)) x⟩:=by
 refine ⟨X,λx y p U ct z Z U2 A N k hq=>?_⟩;dsimp only at A N k;change dT [It.ls ii] at x;change dT [It.ls ii] at y;have s:some ([TV.c (.own ii 0 0 (List.length (α:=TT ii) x))],[TB.row ii x 0 0])=some (p,U):=by rw[<-N];have e:gL (CT.bN (.mk [.p (.hd 0)] [] [.row ii] [] [] [])) x=[⟨.ls ii,x⟩]:=rfl;unfold sH;rw[e];simp only[CT.pl,CT.nb,CT.out,cd,dA,qg,AU,Ag,K_,fA,dX,Zr,List.nil_append,List.getElem?_cons_zero]
 simp only[aw,ba] at s;obtain ⟨rfl,rfl⟩:=s;simp only[xA,aw,yB5] at k;obtain ⟨rfl,hz⟩:=k;have t:some ([TV.c (.own ii 1 0 (List.length (α:=TT ii) y))],[TB.row ii x 0 0,TB.row ii y 0 0])=some (Z,U2):=by rw[<-hq];have e:gL (CT.bN (.mk [.p (.hd 1)] [] [.row ii] [] [] [])) y=[⟨.ls ii,y⟩]:=rfl;unfold sH;rw[e];simp only[CT.pl,CT.nb,CT.out,cd,dA,qg,AU,Ag,K_,fA,dX,List.cons_append,List.nil_append,List.getElem?_cons_zero,List.getElem?_cons_succ]
 simp only[aw,ba] at t;obtain ⟨rfl,rfl⟩:=t;obtain ⟨O,rfl⟩:=su (l:=([]:List (TT ii))) (m:=x) A;show Ok P g [OS (aA ii) 0 (List.length (α:=TT ii) y)] [OB (enc ii) y] (OS (aA ii) 1 (List.length (α:=TT ii) y)) [OB (enc ii) y,OB (enc ii) y];have rn:Oq 1 [OB (enc ii) y,OB (enc ii) y] [OB (enc ii) y,OB (enc ii) y] id (λ_=>False):=YL (λob h=>by grind) (by simp)
 have fin:c_ [OB (enc ii) y,OB (enc ii) y] [OB (enc ii) y,OB (enc ii) y] id (λ_=>False) (OS (aA ii) 1 (List.length (α:=TT ii) y)) (OS (aA ii) 1 (List.length (α:=TT ii) y)):=c_.sl rn.toRn (i:=1) (Nat.lt_succ_self 1);have Q:∀d,(isNil 3 d=some false)->Src [OB (enc ii) y,OB (enc ii) ([]:List (TT ii))] (enc ii) (aA ii) d y->Ok P g [d] [OB (enc ii) y] (OS (aA ii) 1 (List.length (α:=TT ii) y)) [OB (enc ii) y,OB (enc ii) y]:=λd hd E=>by
  refine oD K L (DM rfl) ?_;refine Sem.jB (Sem.pS dF dz (dq.op (DK rfl) uB rfl (dq.nil (.inl ?_))));refine Sem.jB ?_;refine Sem.jB (Sem.pS dF dz (dq.op (DK rfl) uB rfl (dq.op (eG (b:=false) rfl hd) uB rfl (dq.nil (.inl ?_)))));refine Sem.cond (b:=false) rfl (λh=>by simp at h) λ_=>Sem.skip dF (.inl ?_);refine Sem.jB (Sem.pS dF dz (dq.op (jc (f:=enc ii) (l:=([]:List (TT ii))) rfl rfl rfl (uG ii) rfl rfl rfl) uB rfl (dq.op (DK rfl) uB rfl
   (dq.op (uA (f:=enc ii) (l:=([]:List (TT ii))) (m:=y) (r:=y) (uG ii) rfl rfl rfl rfl E A hs rfl rfl) uB rfl (dq.op (DK rfl) uB rfl (dq.nil (.inl ?_)))))))
  exact Sem.ret dF ⟨.inr rfl,_,id,λ_=>False,rfl,rn,λ_ h=>h.elim,fin⟩
 cases y with
 |cons a l=>exact Q _ rfl (Nt (uG ii) rfl rfl)
 |nil=>
  intro M u w p R hs hv;have S:p[0]? = some (p[0]'(by simp_all)):=tc _;have q:=hv 0 _ _ rfl S;generalize hx:p[0]'(by simp_all)=x at q S;have only:∀d,V [OB (enc ii) ([]:List (TT ii))] M u w d x->∀(i:Nat) W v,[d][i]? = some W->p[i]? = some v->V [OB (enc ii) ([]:List (TT ii))] M u w W v:=by grind
  have e0:OS (aA ii) 0 (List.length (α:=TT ii) [])=.sl 0 0 0 (aA ii) 0:=by simp[OS]
  rw[e0] at q;cases q with
  |sl a n F ad ob h af G=>
   simp only[List.getElem?_cons_zero,aw] at h;subst h;rcases G rfl with ⟨rfl,rfl,rfl,_⟩ | ⟨c,o,ak,T,h1,rfl,rfl,h2,h3,h4,h5,h6⟩
   ·refine (show Ok P g [Xt] [OB (enc ii) ([]:List (TT ii))] (OS (aA ii) 1 0) [OB (enc ii) ([]:List (TT ii)),OB (enc ii) ([]:List (TT ii))] from ?_) M u w p R hs (only _ (.c (.lit _)));refine oD K L (DM rfl) ?_;refine Sem.jB (Sem.pS dF dz (dq.op (DK rfl) uB rfl (dq.nil (.inl ?_))));refine Sem.jB ?_;refine Sem.jB (Sem.pS dF dz (dq.op (DK rfl) uB rfl (dq.op (eG (b:=true) rfl rfl) uB rfl (dq.nil (.inl ?_)))));refine Sem.cond (b:=true) rfl (λ_=>?_) λh=>by simp at h
    refine Sem.jB (Sem.pS dF dz (dq.op (DK rfl) uB rfl (dq.nil (.inl ?_))));refine Sem.own 2 (aA ii) rfl rfl rfl ?_;refine Sem.ret dF ⟨.inr rfl,_,id,λ_=>False,rfl,rn,λ_ h=>h.elim,?_⟩;have:=fin;rw[show OS (aA ii) 1 (List.length (α:=TT ii) [])=.sl 1 0 0 (aA ii) 0 by simp[OS]] at this;rw[show OS (aA ii) 1 0=.sl 1 0 0 (aA ii) 0 by simp[OS]];exact this
   ·exact Q (.c (.cU true [])) rfl (Bo (nn:=true) (m:=([]:List (TT ii))) (uG ii)) M u w p R hs (only _ (.c (.cU (aA ii) _ F (λ_=>rfl) (λh=>by simp at h) (λ_ _=>undef) (λe h=>by simp at h) (OL _) (λi j e d h=>by simp at h) (λi j e d h=>by simp at h))))
theorem clo_ok{P:Program}{g:Nat}{out:List cR}(f:rU []->Option (kT out))(dF:P.follows .mixedOrders=true)(h:(evF P (NW P []) (λ_ _ _=>none) 1000 1 g [] []).map (λp=>(nrmY p.1,p.2.1))=(f ()).map λv=>(tA out v,[])):bB P g ⟨[],out,f⟩:=by
 intro a r j;have b:f ()=some r:=j;rw[b] at h;cases i:evF P (NW P []) (λ_ _ _=>none) 1000 1 g [] [] with
 |none=>simp_all
 |some p=>obtain ⟨k,l,wr⟩:=p;rw[i] at h;simp only[Option.map_some,aw,ba] at h;obtain ⟨m,rfl⟩:=h;have O:=evF_ok dF (Sb P []) (prim:=λ_ _ _=>none) (λg ds U r l wr h=>by simp at h) 1000 1 g [] [] k [] wr i;refine ⟨O.1,λM o w q R hs s=>?_⟩;refine (O.2.1 M o w q R hs s).mono λe E t=>?_;obtain ⟨v,u,d,x,y,z,A⟩:=t;exact ⟨v,u,d,x,y,Dw.Xa m _ _ _ _ _ z,A⟩
end
end Go.Abs
end
section
namespace Go.Abs
noncomputable section
open Go.RowKit
variable[Gl][Y:Ty]
structure pv (P:Program) (gs gk:FuncId) (kt:TypeId):Prop where
 en:bq P gs=true
 ku:P.underlying kt=some (.int .i64)
 run:∀(Bm b nn:Nat)(D0:DataW Unit)(R:Value->Option (DataW Unit×List MemPlace))(w:World),Bm<w.heap.size->w.cell? ⟨Bm,0,none⟩=some (.map (some b))->w.ownsMap P kt R b nn D0->Maps.size D0<=maxLen->Maps.size D0 * 8<=140737488355328 ->
  Calls P gs #[.func (.func gk) #[] #[.pointer (some ⟨Bm,0,none⟩)]] w λe w'=>∃(v:Value)(ss:List Int)(et:TypeId),e=.returned v/\ss.Perm (intKeys D0)/\w'.ownsRow w.heap.size et 1 v ss.length ((ss.mergeSort (λx y=>decide (x<=y))).map encZ)/\(v=.slice none 0 0↔ss=[])/\Below w.heap.size w w'
def BW{α a:Type}(c:Int->a)(l:List (Int×α)):Option (List a):=
 if l.length<=1000000/\(l.map Prod.fst).Nodup/\(∀p∈l,(Lit.int .i64 p.1).wf=true) then some (((l.map Prod.fst).mergeSort (λx y=>decide (x<=y))).map c) else none
def Vk(ct:CT)(ii:Nat):Bool:=match ct.out,ct.pl,ct.nb with
 |[.v (.c (.sl j))],[],[]=>Nat.beq j ii
 |_,_,_=>false
def Hq(d e:FuncId)(ii:Nat)(c:Int->TT ii):cL:=λj g k U=>
 match j with
 |[a] => match Nat.beq g d, k with
  |true, [.c (.d (.fn (.func f) [] [.ptr b 0 1]))] => match Nat.beq f e, U[b]? with
   |true, some (.cells _ [(_, .d (.mp m))]) => match U[m]? with
    |some (.mp _ _ l _) => match Vk a ii, decEq [It.cc (.sl ii)] a.bN with
     |true,.isTrue h=>cast (Ts (λi=>Option (dT i)) h) (BW c l)
     |_,_=>none
    |_=>none
   |_,_=>none
  |_,_=>none
 |_=>none
theorem Ni{α a:Type}(p:Option α=Option a)(e:α=a){o:Option α}{y:a}(h:cast p o=some y):∃b,o=some b/\HEq b y:=by grind
theorem Yy{α:Type}{g:α->D}:∀(l:List (Int×α))(i j:Nat),(yJ g i l)[j]? = (l[j]?).map λp=>(.int .i64 p.1,g p.2,i+j):=by
 intro l;induction l with
 |nil=>intro i j;rfl
 |cons p l ih=>grind [yJ]
theorem Xv{α:Type}{g:α->D}:∀(l:List (Int×α))(i:Nat),(yJ g i l).length=l.length:=by
 intro l;induction l with
 |nil=>intro i;rfl
 |cons p l ih=>grind [yJ]
theorem HY{P:Program}{gs gk:FuncId}{t:TypeId}(K:pv P gs gk t){ii:Nat}{c:Int->TT ii}(hc:∀k,enc ii (c k)=[.lit (.int .i64 k)]){U:aq}{b m:Nat}{α:Type}{g:α->D}{l:List (Int×α)}{r:List (TT ii)}
  (hb:U[b]? = some (.cells [.mp m])) (hm:U[m]? = some (MB g l)) (hr:BW c l=some r):Ok P gs [.fn (.func gk) [] [.ptr b 0 1]] U (.c (.cU false (r.map (enc ii)))) U:=by
 unfold BW at hr;split at hr
 rotate_left
 ·grind
 rename_i S;obtain ⟨L,b1,b2⟩:=S;simp only[aw] at hr;intro M Fz w vs R hs a5;have N:vs=#[vs[0]'(by simp_all)]:=by grind
 have W:=a5 0 _ _ rfl (tc (by grind));generalize vs[0]'(by grind)=v0 at W N;subst N;cases W with
 |fn v1 ws h1 h2 _ hw=>
  have e1:v1=#[]:=by simp_all
  subst e1;have e2:ws=#[ws[0]'(by simp_all)]:=by grind
  have hp:=hw 0 _ _ rfl (tc (by grind));generalize ws[0]'(by grind)=p at hp e2;subst e2;have O:nl U b 1=some [.mp m]:=Y_ hb rfl;obtain ⟨cb,hM,rfl⟩:=hp.ya O;obtain ⟨a6,_⟩:=KI O;obtain ⟨s,T,hh,hl,a7⟩:=R.row hM a6;have ea:s[0]? = some (s[0]'(by omega)):=tc _;have a8:=(a7 0 _ _ rfl ea).1;obtain ⟨cm,b3,a9⟩:=a8.BM hm;obtain ⟨a,ck,bc,⟨ax,hB⟩,bu⟩:=R.IL hm a9;rw[Xv] at ax;have X:w.cell? ⟨cb,0,none⟩=some (.map (some cm)):=by grind [Go.cell_of_row]
  have bd:∀(i:Nat) e,a[i]? = some e->∃p,l[i]? = some p/\e.key=.int .i64 p.1/\True:=λi e u=>by
   have Q:i<l.length:=by grind
   have h3:(yJ g 0 l)[i]? = some (.int .i64 l[i].1,g l[i].2,0+i):=by grind [Yy]
   grind
  let RR:Value->Option (DataW Unit×List MemPlace):=λ_=>some (.nil,[])
  have Z:a.toList.length=l.length:=by omega
  have ad:a.toList.map (·.key)=(l.map Prod.fst).map (Value.int .i64):=by
   apply Rg
   grind
  have b4:∀e∈a.toList,∃p∈l,e.key=.int .i64 p.1/\Go.WideElems.rd P t RR e=some (.int .i64 p.1,.nil):=λe u=>by
   obtain ⟨i,Q⟩:=yBr u
   grind [Go.WideElems.rd,Go.Maps.keyOf_int_mk,pv.ku]
  have a0:Go.WideElems.Fit P t RR a ck:=by
   refine ⟨by rw[ax];exact mA L (by decide),⟨λe u=>?_,?_,?_⟩,λe u=>?_⟩
   ·exact hB.2 e u
   ·exact hB.1
   ·grind
   grind
  have z:((a.toList.map (Go.WideElems.rg P t RR)).foldr DataW.insert []).Perm (a.toList.map (Go.WideElems.rg P t RR)):=Go.WideShapes.sorted_perm _;have a1:w.ownsMap P t RR cm l.length (.map ((a.toList.map (Go.WideElems.rg P t RR)).foldr DataW.insert [])):=⟨a,ck,bc,a0,by omega,rfl⟩;have af:(intKeys (.map ((a.toList.map (Go.WideElems.rg P t RR)).foldr DataW.insert []):DataW Unit)).Perm (l.map Prod.fst):=by
   refine (z.map _).trans ?_;have:(a.toList.map (Go.WideElems.rg P t RR)).map (λp=>intOf p.1)=l.map Prod.fst:=by
    rw[Uc];have h5:(l.map Prod.fst).map (Value.int .i64)=a.toList.map (·.key):=ad.symm;apply Rg;intro i;rw[jX,jX,OY];cases u:a[i]? with
    |none=>simp_all
    |some e=>obtain ⟨p,h3,h4,_⟩:=bd i e u;have hp:=yl h3;rw[h3];simp only[Option.map_some,Function.comp,aw];rw[Go.WideElems.rg_of (show Go.WideElems.rd P t RR e=some (.int .i64 p.1,.nil) by grind [Go.WideElems.rd,Go.Maps.keyOf_int_mk,pv.ku])];rfl
   rw[this]
  have a2:Maps.size (.map ((a.toList.map (Go.WideElems.rg P t RR)).foldr DataW.insert []):DataW Unit)=l.length:=by rw[Maps.size_eq,z.length_eq,A_,Z]
  refine (K.run cb cm l.length _ RR w (R.lt hM).2 X a1 (by rw[a2];exact mA L (by decide)) (by omega)).mono λe F u=>?_;obtain ⟨v,A,et,rfl,hp,ak,bv,G⟩:=u;have av:A.mergeSort (λx y=>decide (x<=y))=(l.map Prod.fst).mergeSort (λx y=>decide (x<=y)):=mergeSort_of_perm_i (hp.trans af);have be:r.map (enc ii)=((l.map Prod.fst).mergeSort (λx y=>decide (x<=y))).map λk=>[C.lit (.int .i64 k)]:=by grind [List.map_congr_left]
  rw[be,<-av];have RG:(A.mergeSort (λx y=>decide (x<=y))).length=A.length:=List.length_mergeSort A;obtain ⟨_,ak⟩:=ak;rcases ak with ⟨rfl,h0⟩ | ⟨gb,bh,a3,rfl,b5,a4,bw,_,b0,b6⟩
  ·have:A=[]:=VD h0;subst this;refine ⟨_,M,Fz,rfl,R.below G,.c ?_,bQ.below R G⟩;rw[show ([]:List Int).mergeSort (λx y=>decide (x<=y))=[] from VD (by omega)];exact .cU 1 none 0 (λh=>by simp at h) (λ_=>rfl) (λ_ _=>undef) (λe u=>by grind) (cT _) (λi j e d h=>by simp at h) (λi j e d h=>by simp at h)
  ·have bi:∀(i:Nat) k,(A.mergeSort (λx y=>decide (x<=y)))[i]? = some k->F.cell? ⟨gb,0+i * 1+0,none⟩=some (.int .i64 k):=λi k hk=>by
    rw[cell_of_row F gb _ a3 et (0,0) a4];have Q:i<A.length:=by grind
    have h6:(a3.toList.take (A.length * 1))[i]? = some (encZ k):=by simp_all
    grind
   let E:Nat->Prop:=λx=>Fz x∨x=gb
   have RB:=R.below G;have EB:=bQ.below R G;have b7:gb<F.heap.size:=(KR.1 a4).1;have mono:∀x:Nat,Fz x->E x/\F.heap[x]? = F.heap[x]?:=λx h=>⟨.inl h,rfl⟩;have mv:∀{d v},V U M Fz F d v->V U M E F d v:=λh=>h.sub (λb ob hb=>⟨ob,hb,rfl⟩) (λ_ _ h=>h) mono (λc s T fr h=>⟨s,h,rfl⟩);have R2:Rel U M E F:=by
    refine ⟨λb' x h=>?_,RB.inj,λx h=>?_,Gl.mono mono RB.gl⟩
    ·obtain ⟨h1,ob,o,h2,h3,h4⟩:=RB.blk b' x h;have hx:x<w.heap.size:=(R.lt h).2;refine ⟨λhf=>?_,ob,o,h2,h3,?_⟩
     ·grind
     ·cases ob with
      |cells cs=>obtain ⟨s,T,ho,hl,W⟩:=h4;exact ⟨s,T,ho,hl,λi d v x y=>⟨mv (W i d v x y).1,(W i d v x y).2⟩⟩
      |map es bt=>obtain ⟨s,ho,hl,W⟩:=h4;exact ⟨s,ho,hl,λi k d n e x y=>let ⟨p,q,r⟩:=W i k d n e x y;⟨p,q,mv r⟩⟩
      |gone n=>exact h4.elim
    ·rcases h with h | rfl
     ·exact RB.fz x h
     omega
   have E2:bQ U M Fz w U M E F:=⟨EB.size,EB.frame,EB.oA,λx h=>⟨.inl h,(EB.fz x h).2⟩,λx h=>by grind,EB.sa,EB.cX,EB.out⟩
   refine ⟨_,M,E,rfl,R2,.c ?_,E2⟩;have e7:A.length=((A.mergeSort (λx y=>decide (x<=y))).map λk=>[C.lit (.int .i64 k)]).length:=by simp_all
   rw[e7];refine .cU 1 (some ⟨gb,0,none⟩) bh (λh=>by simp at h) (λh=>by simp at h) (λi _=>.int .i64 ((A.mergeSort (λx y=>decide (x<=y)))[i]?.getD 0)) (λe u=>?_) (by omega) (λi j e d Q hj=>?_) (λi j e d Q hj=>?_)
   ·grind
   ·rw[jX,cu] at Q;obtain ⟨k,hk,rfl⟩:=Q;cases j with
    |succ j=>grind
    |zero=>
     refine ⟨gb,0,rfl,.inr rfl,?_,rfl⟩
     grind
   ·rw[jX,cu] at Q;obtain ⟨k,hk,rfl⟩:=Q;cases j with
    |succ j=>grind
    |zero=>simp only[List.getElem?_cons_zero,aw] at hj;subst hj;rw[hk];exact .lit _
theorem Nb{P:Program}{F G:FuncId}{M:TypeId}(K:pv P F G M){ii:Nat}{c:Int->TT ii}(N:∀k,enc ii (c k)=[.lit (.int .i64 k)]):cL.ok P (Hq F G ii c):=by
 intro cs gi vs U y ct x O Q R ds h e d p q S;unfold Hq at h;split at h
 rotate_left
 ·simp at h
 rename_i i;split at h
 rotate_left
 ·simp at h
 rename_i f b T;split at h
 rotate_left
 ·simp at h
 rename_i w0 v0 m W X;split at h
 rotate_left
 ·simp at h
 rename_i j st l QH Z;split at h
 rotate_left
 ·simp at h
 rename_i Vt s _;obtain ⟨L,hk,hy⟩:=Ni _ (show dT [It.cc (.sl ii)]=qf [i] from Ts dT Vt) h;have:=cY T;subst this;have:=cY W;subst this;simp only[xA,aw,yB5] at e;obtain ⟨rfl,hz⟩:=e;cases hz;obtain ⟨out,pl,nb,H,J,C⟩:=i;simp only[Vk,CT.out,CT.pl,CT.nb] at s;split at s
 rotate_left
 ·grind
 obtain rfl:ii=_:=(cY s).symm;have t:ds=[.fn (.func f) [] [.ptr b 0 1]]:=by
  cases q with
  |cons r a=>cases a;rw[RT.c1 (by simp) r];rfl
 subst t;have o:gL (CT.bN (.mk [.v (.c (.sl ii))] [] [] H J C)) y=[⟨.cc (.sl ii),L⟩]:=by grind [gL]
 have g:O=[.c (.sl ii L)]/\Q=U:=by unfold sH at d;rw[o] at d;simp only[CT.pl,CT.nb,CT.out,cd,dA,qg,AU,K_,fA,dX,Zr,aw,ba] at d;exact ⟨d.1.symm,d.2.symm⟩
 obtain ⟨rfl,rfl⟩:=g;refine ⟨K.en,?_⟩;have u:=p.hp b _ X;have v:=p.hp m _ Z;obtain ⟨w,b1,z⟩:=u;obtain ⟨A,m1,E⟩:=v;have z:w=.cells [.mp m]:=z;have E:A=MB (Jx j st) l:=E;subst z E;have:=HY K N b1 m1 hk;rw[<-p.eqD];exact this
end
end Go.Abs
end
section
namespace Go.Abs
noncomputable section
variable[Gl][Y:Ty]
section
variable{P:Program}{orc:uE}{n:Nat}{al:AL}{U U1:aq}
end
theorem Ok.cut{P:Program}{g:FuncId}{ds:List D}{G X s:List D}{k es sz:Nat}(h:Ok P g ds [.cells G] (.sl 0 0 k es sz) [.cells X])(hX:X.length=sz)(hk:k * es<=sz)(hd:∀d∈X.take (k * es),∃c,d=D.c c)(hg:sz<s.length)(af:G.length<=sz) :
  Ok P g ds [.cells G] (.sl 1 0 k es (k * es)) [.cells s,.cells (X.take (k * es))]:=by
 intro M Fz w vs R hs hv;refine (h M Fz w vs R hs hv).mono λe w' he=>?_;obtain ⟨v,K,L,rfl,A,O,E⟩:=he;have ak:∀c,K 0=some c->∀b,K b=some c->b=0:=λc h b j=>A.inj b 0 c j h;refine ⟨v,λb=>if b=1 then K 0 else none,L,rfl,⟨λb c j=>?_,λb b' c j av=>?_,A.fz,A.gl⟩,?_,?_⟩
 ·split at j
  ·rename_i e1;subst e1;obtain ⟨h1,ob,o,z,h3,h4⟩:=A.blk 0 c j;simp only[List.getElem?_cons_zero,aw] at z;subst z;obtain ⟨u,T,Q,hl,hx⟩:=h4;refine ⟨h1,.cells (X.take (k * es)),o,rfl,h3,u,T,Q,by grind,λi d v q1 q2=>?_⟩;obtain ⟨x,rfl⟩:=hd d (yl q1);have q3:X[i]? = some (.c x):=by
    grind
   obtain ⟨F,q5⟩:=hx i _ v q3 q2;refine ⟨?_,q5⟩;cases F with
   |c F=>exact .c F
  simp_all
 ·simp_all
 ·cases O with
  |sl a n W Z ob z ax ad=>
   simp only[List.getElem?_cons_zero,aw] at z;subst z;refine .sl a n W Z (.cells (X.take (k * es))) rfl (by grind [Ob.sz]) (λ_=>?_);rcases ad (by grind [Ob.sz]) with ⟨q1,q2,q3,F,q5,q6⟩ | ⟨c,o,u,T,hM,ha,hn,hl,Q,hh,j,hz⟩
   ·simp_all
   ·exact .inr ⟨c,o,u,T,by grind,ha,hn,⟨hl.1,by omega⟩,Q,hh,j,by omega⟩
 ·exact {
   size:=E.size
   frame:=E.frame
   oA:=λb c j=>by
    split at j
    ·exact E.oA 0 c j
    simp_all
   fz:=E.fz
   rS:=E.rS
   sa:=E.sa
   cX:=λb ob j=>by
    match b with
    |0=>simp only[List.getElem?_cons_zero,aw] at j;subst j;exact ⟨.cells s,rfl,by grind [Ob.sz],λe=>by grind [Ob.sz]⟩
    |b+1=>grind
   out:=E.out }
section
variable{α:Type}{f:α->List C}{es:Nat}
end
end
end Go.Abs
end
section
namespace Go.Abs
section
variable[Gl]
def RP(a:List Sh)(b:List C):Prop:=b.length=a.length/\∀(i:Nat) t x,a[i]? = some t->b[i]? = some x->Shaped t x
theorem RP.cons{s:Sh}{j:List Sh}{u:List C}(h:RP (s::j) u):∃x o,u=x::o/\Shaped s x/\RP j o:=by
 obtain ⟨z,h⟩:=h
 match u,z,h with
 |x::o,z,h=>exact ⟨x,o,rfl,h 0 s x rfl rfl,by simp_all,λi t y A E=>h (i+1) t y (by simp_all) (by simp_all)⟩
theorem RP.nil{i:List C}(h:RP [] i):i=[]:=by simpa using h.1
variable[Y:Ty]
def shC(rec:Nat->List Sh):CC->Sh
 |.int k=>.int k
 |.bool=>.bool
 |.str=>.str
 |.sl j=>.sl (rec j)
 |.fk _=>.no
def shN:Nat->Nat->List Sh
 |0,_=>[]
 |k+1,i=>(Y.fl i).map (shC (shN k))
def shT(i:Nat):List Sh:=shN (i+1) i
theorem NR{rec:Nat->List Sh}{r:(j:Nat)->TT j->List C}{c:CC}(o:∀j,c=.sl j->∀e,RP (rec j) e->∃a:TT j,e=r j a){x:C}(h:Shaped (shC rec c) x):∃a:c.dn,x=qS r c a:=by
 cases c with
 |int k=>cases h with | int h=>exact ⟨_,rfl⟩
 |bool=>cases h with | bool b=>exact ⟨_,rfl⟩
 |str=>cases h with | str b=>exact ⟨_,rfl⟩
 |fk p=>cases h
 |sl j=>
  cases h with
  |sl g i m=>
   rename_i es;have:∃l:List (TT j),es=l.map (r j):=by
    clear g;induction es with
    |nil=>simp_all
    |cons y es ih=>obtain ⟨a,q⟩:=o j rfl y ⟨i y (by simp),m y (by simp)⟩;obtain ⟨l,g⟩:=ih (λz d=>i z (by simp[d])) (λz d=>m z (by simp[d]));exact ⟨a::l,by simp_all⟩
   obtain ⟨l,rfl⟩:=this;exact ⟨l,rfl⟩
theorem WT{rec:Nat->List Sh}{r:(j:Nat)->TT j->List C}:∀(cs:List CC),(∀j,CC.sl j∈cs->∀d,RP (rec j) d->∃a:TT j,d=r j a)->∀d,RP (cs.map (shC rec)) d->∃a:aT cs,d=lN r cs a:=by
 intro cs;induction cs with
 |nil=>intro _ d h;exact ⟨(),h.nil⟩
 |cons c cs ih=>intro e d h;obtain ⟨x,i,rfl,k,l⟩:=RP.cons h;obtain ⟨a,rfl⟩:=NR (λj g=>e j (by simp_all)) k;obtain ⟨b,rfl⟩:=ih (λj g=>e j (pG _ g)) i l;exact ⟨(a,b),rfl⟩
theorem Xc:∀(k i:Nat),i<k->∀b,RP (shN k i) b->∃a:TT i,b=JB k i a:=by
 intro k;induction k with
 |zero=>omega
 |succ k ih=>intro i e b h;obtain ⟨a,rfl⟩:=WT (rec:=shN k) (r:=JB k) (Y.fl i) (λj d=>ih j (by have:=Y.dn i j d;omega)) b h;exact ⟨Y.Za i a,by grind [JB,Ty.pm]⟩
theorem Tc(i:Nat){b:List C}(h:RP (shT i) b):∃a:TT i,b=enc i a:=Xc (i+1) i (by omega) b h
theorem arg_st(i:Nat){w:World}{b:List C}{vs:Array Value}(h:Bv w (shT i) b vs.toList):∃a:TT i,V [] (λ_=>none) (λc=>c<w.heap.size) w (cR.enc (.st i) a) (.agg vs):=by have d:=V.Qz h (U:=[]) (M:=λ_=>none);obtain ⟨a,rfl⟩:=Tc i ⟨h.1,h.2.2.1⟩;exact ⟨a,d⟩
theorem arg_c(c:CC){w:World}{b:List C}{v:Value}(h:Bv w [shC shT c] b [v]):∃a:c.dn,V [] (λ_=>none) (λc=>c<w.heap.size) w (cR.enc (.c c) a) v:=by obtain ⟨x,rfl,hs,d⟩:=V.PL h (U:=[]) (M:=λ_=>none);obtain ⟨a,rfl⟩:=NR (rec:=shT) (r:=enc) (λj _ b h=>Tc j h) hs;exact ⟨a,d⟩
open Go.RowKit in
theorem Va{P:Program}{g:FuncId}{ds:List D}(h:Pure P g ds (B true)){w:World}{vs:Array Value}(hs:vs.size=ds.length)
  (b:∀(i:Nat) d v,ds[i]? = some d->vs[i]? = some v->V [] (λ_=>none) (λc=>c<w.heap.size) w d v) (l:Gl.ok (λc=>c<w.heap.size) w) :
  Calls P g vs w λe j=>e=.returned (.bool true)/\Below w.heap.size w j:=by
 refine (h.2 _ _ w vs (Rel.start w l) hs b).mono λe j m=>?_;obtain ⟨v,p,o,rfl,q,b,a⟩:=m;exact ⟨by rw[b.cC],a.out.1,a.out.2.1,a.out.2.2,a.size,λk hk=>(a.fz k hk).2⟩
end
end Go.Abs
end
