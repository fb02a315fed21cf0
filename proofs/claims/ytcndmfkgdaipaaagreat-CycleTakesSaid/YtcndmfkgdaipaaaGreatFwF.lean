/- Lemmas. -/
import Derived.Test.YtcndmfkgdaipaaaGreatFwD
import Derived.Test.YtcndmfkgdaipaaaGreatFwE
set_option linter.all false
section
namespace Go.Abs
section
variable{σ σ':ar}{M M':Nat->Option Nat}{Fz Fz':Nat->Prop}{w w' w'':World}{P:Program}
theorem VC.vX(j:∀c:Nat,Fz c->w'.heap[c]? = w.heap[c]?){x:C}{v:Value}(h:VC Fz w x v):VC Fz w' x v:=h.mono λc i=>⟨i,j c i⟩
theorem V.vX(O:∀c:Nat,(Fz c\/∃b,M b=some c)->w'.heap[c]? = w.heap[c]?){d:D}{v:Value}(h:V σ M Fz w d v):V σ M Fz w' d v:=by
 induction h with
 |c h=>exact .c (h.vX λc U=>O c (.inl U))
 |any v=>exact .any v
 |ptr a x h j i=>exact .ptr a x h j i
 |sl a n cap A x h j i=>
  refine .sl a n cap A x h j (λW=>?_);rcases i W with u | ⟨c,o,E,T,R,Z,hn,hl,hh,hb,hr⟩
  ·exact .inl u
  ·exact .inr ⟨c,o,E,T,R,Z,hn,hl,hh,by rw[O c (.inr ⟨_,R⟩)];exact hb,hr⟩
 |mp c x h i=>exact .mp c x h i
 |fn z ws u h2 i hw G K=>exact .fn z ws u h2 G K
 |agg z u i ih=>exact .agg z u ih
 |aT z u i ih=>exact .aT z u ih
theorem bZ.vX(G:∀c:Nat,(Fz c\/∃b,M b=some c)->w'.heap[c]? = w.heap[c]?){ob:Ob}{o:Obj}(h:bZ σ M Fz w ob o):bZ σ M Fz w' ob o:=by
 cases ob with
 |cells K=>obtain ⟨j,T,A,hl,u⟩:=h;exact ⟨j,T,A,hl,λi d v x z=>⟨(u i d v x z).1.vX G,(u i d v x z).2⟩⟩
 |map O E=>obtain ⟨j,A,hl,u⟩:=h;exact ⟨j,A,hl,λi k d n e x z=>let ⟨a,b,c⟩:=u i k d n e x z;⟨a,b,c.vX G⟩⟩
 |gone n=>exact h.elim
variable[Gl]
theorem Rel.vX(i:∀c:Nat,(Fz c\/∃b,M b=some c)->w'.heap[c]? = w.heap[c]?)(hs:w.heap.size<=w'.heap.size)(R:Rel σ M Fz w):Rel σ M Fz w':={
 blk:=λb c h=>by obtain ⟨u,ob,o,h1,h2,x⟩:=R.blk b c h;exact ⟨u,ob,o,h1,by rw[i c (.inr ⟨b,h⟩)];exact h2,x.vX i⟩
 inj:=R.inj
 fz:=λc h=>EY (R.fz c h) hs
 gl:=Gl.mono (λc j=>⟨j,i c (.inl j)⟩) R.gl }
theorem Rel.none(R:Rel σ M Fz w):Rel [] (λ_=>none) Fz w:=⟨λb c h=>by simp at h,λb i c h=>by simp at h,R.fz,R.gl⟩
omit [Gl] in
theorem bD.vX(E:bD σ M Fz w σ' M' Fz' w')(o:∀c:Nat,(Fz' c\/∃b,M' b=some c)\/c<w.heap.size->w''.heap[c]? = w'.heap[c]?)(hs:w'.heap.size<=w''.heap.size)(u:w''.os=w'.os/\w''.tape=w'.tape/\w''.output=w'.output):bD σ M Fz w σ' M' Fz' w'':={
 size:=kj E.size hs
 frame:=λc i G=>by rw[o c (.inr i)];exact E.frame c i G
 lE:=E.lE
 fz:=λc i=>⟨(E.fz c i).1,by rw[o c (.inl (.inl (E.fz c i).1))];exact (E.fz c i).2⟩
 nj:=E.nj
 pU:=λc x T K i=>by have z:=(BS.1 i).1;obtain ⟨j,h,A⟩:=E.pU c x T K i;exact ⟨j,by rw[o c (.inr z)];exact h,A⟩
 keep:=E.keep
 out:=⟨u.1.trans E.out.1,u.2.1.trans E.out.2.1,u.2.2.trans E.out.2.2⟩ }
theorem V.wP{G:Nat->Prop}(K:∀c,Fz c->G c){d:D}{v:Value}(h:V σ M Fz w d v):V σ M G w d v:=by
 induction h with
 |c h=>exact .c (h.mono λc O=>⟨K c O,rfl⟩)
 |any v=>exact .any v
 |ptr a o h j i=>exact .ptr a o h j i
 |sl a n cap z o h j i=>exact .sl a n cap z o h j i
 |mp c o h i=>exact .mp c o h i
 |fn u R x U i W A E=>exact .fn u R x U A E
 |agg u x i ih=>exact .agg u x ih
 |aT u x i ih=>exact .aT u x ih
theorem Rel.wP{x:Nat->Prop}(R:Rel σ M Fz w)(z:∀c,Fz c->x c)(K:∀c,x c->Fz c\/((∀b,M b≠some c)/\c<w.heap.size)):Rel σ M x w:={
 blk:=λb c h=>by
  obtain ⟨O,ob,o,h1,h2,A⟩:=R.blk b c h;refine ⟨λU=>(K c U).elim O λW=>W.1 b h,ob,o,h1,h2,?_⟩;cases ob with
  |cells cs=>obtain ⟨j,T,E,hl,u⟩:=A;exact ⟨j,T,E,hl,λi d v h1 h2=>⟨(u i d v h1 h2).1.wP z,(u i d v h1 h2).2⟩⟩
  |map es G=>obtain ⟨j,E,hl,u⟩:=A;exact ⟨j,E,hl,λi k d n e h1 h2=>let ⟨a,b,c⟩:=u i k d n e h1 h2;⟨a,b,c.wP z⟩⟩
  |gone n=>exact A.elim
 inj:=R.inj
 fz:=λc h=>(K c h).elim (R.fz c) λh=>h.2
 gl:=Gl.mono (λc Z=>⟨z c Z,rfl⟩) R.gl }
omit [Gl] in
theorem bD.wP{j:Nat->Prop}(E:bD σ M Fz w σ' M' Fz' w')(o:∀c,Fz' c->j c)(u:∀c,j c->Fz' c\/w.heap.size<=c):bD σ M Fz w σ' M' j w':={
 size:=E.size
 frame:=E.frame
 lE:=E.lE
 fz:=λc i=>⟨o c (E.fz c i).1,(E.fz c i).2⟩
 nj:=λc i=>(u c i).elim (E.nj c) λh=>.inr (.inr h)
 pU:=E.pU
 keep:=E.keep
 out:=E.out }
def seen(M:Nat->Option Nat)(Fz:Nat->Prop)(c:Nat):Prop:=Fz c\/∃b,M b=some c
theorem Gq{a:Nat->Prop}(b:∀c,Fz c->a c):(λc=>seen M Fz c\/a c)=seen M a:=funext λc=>propext ⟨λh=>h.elim (λh=>h.imp (b c) id) .inl,λh=>h.elim .inr λh=>.inl (.inr h)⟩
theorem Rel.Ji(R:Rel σ M Fz w){c:Nat}(h:seen M Fz c):c<w.heap.size:=h.elim (R.fz c) λ⟨_,h⟩=>(R.lt h).2
omit [Gl] in
theorem bD.kept{x:Nat->Option Nat}{F j:Nat->Prop}(E:bD σ M Fz w σ' M' Fz' w')(W:Kd M' Fz' x j)(A:∀c:Nat,F c->j c/\w'.heap[c]? = w.heap[c]?):Kept F (seen M Fz) w j (seen x j) w':={
 size:=E.size
 off:=λc G i=>by
  unfold seen at i;simp only[not_or,not_exists] at i;have z:∀b,M' b≠some c:=λb hb=>(E.lE b c hb).elim (λ⟨o,u⟩=>i.2 o u) (by omega);have K:¬Fz' c:=λh=>by
   rcases E.nj c h with h | ⟨o,u⟩ | h
   ·exact i.1 h
   ·exact i.2 o u
   ·omega
  refine ⟨E.frame c G i.2,λh=>?_⟩;rcases h with h | ⟨b,h⟩
  ·rcases W.2.1 c h with h | ⟨b,h⟩
   ·exact K h
   ·exact z b h
  ·obtain ⟨O,R⟩:=W.1 b c h;exact z O R
 fz:=A
 out:=E.out }
def WR:ni->Code
 |.normal=>.skip
 |.exit i=>if i % 2=0 then .exit (i / 2) else .goto (i / 2)
 |.ret=>.ret
omit [Gl] in
theorem wp_jmp{x:ni}{Q:Exit->Act->World->Prop}{a:Act}(h:Q (yk x) a w):(WR x).wp P Q a w:=by
 cases x with
 |normal=>exact wp_skip h
 |ret=>exact wp_ret h
 |exit i=>
  unfold yk at h;unfold WR;dsimp only at h ⊢;split <;> rename_i e
  ·rw[if_pos e] at h;exact wp_exit h
  ·rw[if_neg e] at h;exact wp_goto h
omit [Gl] in
theorem Kw{I:Nat->(Nat->Prop)->(Nat->Prop)->World->Prop}{f:Code->(Nat->Prop)->(Nat->Prop)->World->Prop}{i:Nat}{F U b d:Nat->Prop}{x:ni}{a:Act}(g:x≠.normal)(k:Kept F U w b d w')(h:f (WR x) b d w'):rpost I f i F U w (yk x) a w':=by
 cases x with
 |normal=>exact absurd rfl g
 |ret=>exact ⟨b,d,k,h⟩
 |exit j=>
  unfold WR at h;unfold yk;dsimp only at h ⊢;split <;> rename_i e
  ·rw[if_pos e] at h;exact ⟨b,d,k,h⟩
  ·rw[if_neg e] at h;exact ⟨b,d,k,h⟩
def Ly:List Nat->List D->AL->AL
 |p::ps,d::ds,al=>Ly ps ds ((p,d)::al)
 |_,_,al=>al
omit [Gl] in
theorem dX.Ly{n:Nat}:∀{ps:List Nat}{ds:List D}{vs:List Value}{al:AL}{i:Array Value},dX n σ M Fz w al i->(∀p∈ps,p<n)->ps.length=ds.length->vs.length=ds.length->(∀(k:Nat) d v,ds[k]? = some d->vs[k]? = some v->V σ M Fz w d v) ->
  dX n σ M Fz w (Ly ps ds al) ((ps.zip vs).foldl (λt (p,v)=>t.setIfInBounds p v) i):=by
 intro ps;induction ps with
 |nil=>intro ds vs al i A _ _ _ _;simpa[Abs.Ly] using A
 |cons p ps ih=>
  intro ds vs al i A o u x z;cases ds with
  |nil=>simp at u
  |cons d ds=>
   cases vs with
   |nil=>simp at x
   |cons v vs=>
    simp only[Abs.Ly,List.zip_cons_cons,List.foldl_cons];refine ih ⟨by simp[A.1],λt E j=>?_⟩ (λq G=>o q (nS _ G)) (by simpa using u) (by simpa using x) λk d v a b=>z (k+1) d v (by simpa using a) (by simpa using b);simp only[lk] at j;split at j
    ·rename_i hb;have:=dd hb;subst this;simp only[au] at j;subst j;refine ⟨v,?_,z 0 _ _ rfl rfl⟩;rw[ZM,if_pos rfl,if_pos (by rw[A.1];exact o _ (by simp))]
    ·rename_i hb;obtain ⟨K,O,R⟩:=A.2 t E j;refine ⟨K,?_,R⟩;rw[ZM,if_neg (λe=>by rw[e] at hb;simp at hb)];exact O
end
section
variable[Gl][Ty]{P:Program}{n:Nat}{Q:ni->AL->ar->Prop}
def Rng(P:Program)(a b:aP)(n:Nat)(ps:List Nat)(g:Nat)(x:C)(m:Nat)(Q:ni->AL->ar->Prop):List (List D)->AL->ar->Prop
 |[],al,σ=>(σ[g]? = some (.cells [.c x])/\σ.length=m)/\Q .normal al σ
 |ds :: xs, al, σ => (σ[g]? = some (.cells [.c x]) /\ σ.length = m) /\ Sem P a n (Ly ps ds al) σ λe al1 σ1 => e = .normal /\ Sem P b n al1 σ1 λe _ aC => match e with
  |.normal=>∃d f,wG m al aC d f/\Rng P a b n ps g x m Q xs d f
  |e=>Q e al aC
theorem Rng.cap{a b:aP}{ps:List Nat}{i:Nat}{x:C}{m:Nat}{xs:List (List D)}{al:AL}{σ:ar}(h:Rng P a b n ps i x m Q xs al σ):σ[i]? = some (.cells [.c x])/\σ.length=m:=by
 cases xs with
 |nil=>exact h.1
 |cons d ds=>exact h.1
theorem Sem.preW{ac:aP}{al i:AL}{σ aC:ar}(hs:wG σ.length al σ i aC)(h:Sem P ac n i aC Q):Sem P ac n al σ Q:=by intro c u M Fz w a K R A z;obtain ⟨E,G,O,U,W,o,W2⟩:=hs.use R R A (bD.refl R) (cO _);exact h c u E G w a K O U λx j σ' Z w' M' Fz' hQ hd R' A' E' hl=>z x j σ' Z w' M' Fz' hQ hd R' A' (W.trans E' o) (kj o hl)
theorem Sem.Vj{o:aQ}{ps:List Nat}{a b:aP}{gf bc:Nat}{x:C}{items:List (List D)}{al:AL}{σ:ar}(ho:(match o with | .t k=>lk k al | .k d=>some d)=some (.fn (.func gf) [] [.ptr bc 0 1]))
  (af:aU P gf=true) (it:ItOk P gf [[x]] items) (be:∀ds∈items,ds.length=ps.length) (bt:∀p∈ps,p<n) (h:Rng P a b n ps bc x σ.length Q items al σ):Sem P (.Vj o ps a b) n al σ Q:=by
 intro c G M Fz w ab K R A hK;cases c with
 |rangeFunc g pt c1 c2=>
  rcases dS G with ⟨o',a',b',h1,h2,h3,h4,e⟩ | e
  ·simp only[aP.Vj.injEq] at e;obtain ⟨rfl,rfl,rfl,rfl⟩:=e;simp only[bI] at h4;refine ⟨?_,λhh=>by simp[Code.calm] at hh⟩;have hv:=nE A.c_.1 h1;have bu:o.ev (wV n al)=.fn (.func gf) [] [.ptr bc 0 1]:=by
    cases o with
    |t k=>dsimp only at ho;simp[aQ.ev,A.c_.2.2 k _ ho]
    |k d=>simp only[au] at ho;subst ho;rfl
   rw[bu] at hv;obtain ⟨lb,bv,bw,b0⟩:∃lb:Array Value,ab.eval g=.func (.func gf) #[] lb/\lb.size=1/\∀v,lb[0]? = some v->V σ M Fz w (.ptr bc 0 1) v:=by
    generalize ab.eval g=y at hv;cases hv with
    |fn vs ws g1 g2 _ g4=>have:vs=#[]:=Array.eq_empty_of_size_eq_zero (by simpa using g1);exact ⟨ws,by rw[this],by simpa using g2,λv hv=>g4 0 _ v rfl hv⟩
   have eg:∀args w,(callFunc gf args).run P w=.ok (.enter gf args) w:=λargs w=>by
    unfold aU at af;split at af
    ·rename_i fn b1;simp only[bI,Jt,ne_eq] at af;obtain ⟨hb,b2⟩:=af;have b3:fn.body.isNone=false:=by simp_all
     simp only[callFunc,Sem.run_bind,Sem.run_pure,Result.andThen_ok,run_program,b1,nh,b2,b3,cr,bX]
    ·simp at af
   obtain ⟨I,hI⟩:∃I:Nat->(Nat->Prop)->(Nat->Prop)->World->Prop,I=λi F U W=>∃E z Z,Rng P a b n pt.toList bc x σ.length Q (items.drop i) E z/\Rel z Z F W/\dX n z Z F W E ab.tmps/\bD σ M Fz w z Z F W/\U=seen Z F:=⟨_,rfl⟩;obtain ⟨Ix,ax⟩:∃Ix:Code->(Nat->Prop)->(Nat->Prop)->World->Prop,Ix=λc F U W=>∃e E z Z,c=WR e/\Q e E z/\σ.length<=z.length/\Rel z Z F W/\dX n z Z F W E ab.tmps/\bD σ M Fz w z Z F W/\U=seen Z F:=⟨_,rfl⟩;have ak:∀{z:ar}{Z:Nat->Option Nat}{F:Nat->Prop}{W W':World}{E:AL}{tm:Array Value},(∀c:Nat,seen Z F c\/c<w.heap.size->W'.heap[c]? = W.heap[c]?)->dX n z Z F W E tm->dX n z Z F W' E tm:=λO A'=>⟨A'.1,λt d ht=>let ⟨v,g1,g2⟩:=A'.2 t d ht;⟨v,g1,g2.vX λc G=>O c (.inl G)⟩⟩
   have fI:∀i,wM w.heap.size (I i):=λi=>by
    subst hI;refine ⟨λF U W ⟨E,z,Z,_,R',_⟩=>R'.none,λF U W ⟨E,z,Z,_,_,_,_,e⟩ c G=>by rw[e];exact .inl G,λF U W ⟨E,z,Z,_,R',_,_,e⟩ c G=>R'.Ji (by rw[e] at G;exact G),λF U W ⟨E,z,Z,_,_,_,E',_⟩=>E'.size,λF U W W' ⟨E,z,Z,hr,R',A',E',e⟩ hs O ad=>?_,λF U W F' ⟨E,z,Z,hr,R',A',E',e⟩ ha hb=>?_⟩
    rotate_left
    ·rw[e] at hb ⊢;exact ⟨E,z,Z,hr,R'.wP ha λc G=>(hb c G).imp id λ⟨q,r⟩=>⟨λb a2=>q (.inr ⟨b,a2⟩),r.2⟩,⟨A'.1,λt d ht=>let ⟨v,g1,g2⟩:=A'.2 t d ht;⟨v,g1,g2.wP ha⟩⟩,E'.wP ha λc G=>(hb c G).imp id λ⟨q,r⟩=>r.1,Gq ha⟩
    rw[e] at O;exact ⟨E,z,Z,hr,R'.vX (λc G=>O c (.inl G)) hs,ak O A',E'.vX O hs ad,e⟩
   have b4:∀c,wM w.heap.size (Ix c):=λc=>by
    subst ax;refine ⟨λF U W ⟨x,E,z,Z,_,_,_,R',_⟩=>R'.none,λF U W ⟨x,E,z,Z,_,_,_,_,_,_,e⟩ c G=>by rw[e];exact .inl G,λF U W ⟨x,E,z,Z,_,_,_,R',_,_,e⟩ c G=>R'.Ji (by rw[e] at G;exact G),λF U W ⟨x,E,z,Z,_,_,_,_,_,E',_⟩=>E'.size,λF U W W' ⟨x,E,z,Z,hx,hq,an,R',A',E',e⟩ hs O ad=>?_,λF U W F' ⟨x,E,z,Z,hx,hq,an,R',A',E',e⟩ ha hb=>?_⟩
    rotate_left
    ·rw[e] at hb ⊢;exact ⟨x,E,z,Z,hx,hq,an,R'.wP ha λc G=>(hb c G).imp id λ⟨q,r⟩=>⟨λb a2=>q (.inr ⟨b,a2⟩),r.2⟩,⟨A'.1,λt d ht=>let ⟨v,g1,g2⟩:=A'.2 t d ht;⟨v,g1,g2.wP ha⟩⟩,E'.wP ha λc G=>(hb c G).imp id λ⟨q,r⟩=>r.1,Gq ha⟩
    rw[e] at O;exact ⟨x,E,z,Z,hx,hq,an,R'.vX (λc G=>O c (.inl G)) hs,ak O A',E'.vX O hs ad,e⟩
   refine Vv (caps:=[[x]]) (items:=items) (F0:=Fz) (U0:=seen M Fz) bv eg it (by simpa using be) I Ix fI b4 ?_ ?_ ?_ ?_ ?_
   ·
    intro i F U W hi;subst hI;obtain ⟨E,z,Z,hr,R',_,E',_⟩:=hi;refine ⟨by simp[bw],λk cs v hk hv=>?_⟩;have b5:k=0:=by have:=(eY.1 hk).1;simp at this;exact this
    subst b5;simp only[wR,au] at hk;subst hk;obtain ⟨c,hM,rfl⟩:=((b0 v hv).mono E').vn (OK hr.cap.1 (sz:=1) rfl);obtain ⟨a5,T,hh,hl,b6⟩:=R'.row hM hr.cap.1;refine ⟨c,rfl,a5,T,hh,by simpa using hl,λj d u hd hu=>?_⟩;have b7:j=0:=by have:=(eY.1 hd).1;simp at this;exact this
    subst b7;simp only[wR,au] at hd;subst hd;obtain ⟨g1,g2⟩:=b6 0 _ _ rfl hu;exact ⟨g1.pI,g2⟩
   ·subst hI;exact ⟨al,σ,M,by simpa using h,R,A,bD.refl R,rfl⟩
   ·
    intro l i ds F U W vs a6 hi bh;subst hI;obtain ⟨E,z,Z,hr,R',A',E',rfl⟩:=hi;have b8:=(eY.1 a6).1;have b9:items.drop i=ds::items.drop (i+1):=by rw[yBR b8];simp only[yCe,Kv];have:=eY.1 a6;exact this.2
    rw[b9] at hr;obtain ⟨⟨c4,c5⟩,bi⟩:=hr;have cg:=be ds (yP a6);have ch:vs.toList.length=ds.length:=by simpa using bh.1
    have A1:=dX.Ly (ps:=pt.toList) (ds:=ds) (vs:=vs.toList) A' bt cg.symm ch λk d v g1 g2=>by have:=bh.2 k d v g1 (by simpa using g2);exact this.sub (λb ob hb=>by simp at hb) (λ_ _ h=>by simp at h) (λc h=>⟨h,rfl⟩) (λc a5 T fr h=>⟨a5,h,rfl⟩)
    have ez:(pt.zip vs).foldl (λt (p,v)=>t.setIfInBounds p v) ab.tmps=(pt.toList.zip vs.toList).foldl (λt (p,v)=>t.setIfInBounds p v) ab.tmps:=by rw[<-xAc,Array.toList_zip]
    rw[ez];refine (bi c1 h2 Z F W { tmps:=_,defers:=[] } _ R' A1 λx1 al1 σ1 a1 w1 M1 F1 ck _ R1 cm E1 c6=>?_).2 h4.1 l 0;obtain ⟨rfl,hb⟩:=ck;refine ⟨F1,seen M1 F1,E1.kept Kd.refl E1.fz,λc G=>R1.Ji G,λw2 bk O ad=>?_⟩;have R2:=R1.vX (λc G=>O c (.inl G)) (yBW bk);have co:dX n σ1 M1 F1 w2 al1 a1.tmps:=ak O cm;have Et:bD σ M Fz w σ1 M1 F1 w2:=(E'.trans E1 (by omega)).vX O (yBW bk) ad;refine (hb c2 h3 M1 F1 w2 a1 _ R2 co λx2 c8 aC a3 w3 M3 F3 a7 _ R3 c9 E3 c7=>?_).2 h4.2 l 0;have Ef:bD σ M Fz w aC M3 F3 w3:=Et.trans E3 (by omega);have Vm:∀{d:D}{v:Value},V z Z F W d v->V aC M3 F3 w3 d v:=λhv=>by have:=hv.mono E1;exact (this.vX (λc G=>O c (.inl G))).mono E3
    have a8:dX n aC M3 F3 w3 E ab.tmps:=⟨A'.1,λt d ht=>let ⟨v,g1,g2⟩:=A'.2 t d ht;⟨v,g1,Vm g2⟩⟩;have a0:∀c:Nat,F c->F3 c/\w3.heap[c]? = w2.heap[c]?:=λc G=>E3.fz c (E1.fz c G).1;cases x2 with
    |normal=>obtain ⟨cp,cv,hw,a9⟩:=a7;obtain ⟨M4,F4,R4,A4,W4,E4⟩:=hw.2 n M3 F3 w3 ab.tmps R3 a8;have c0:=E4 σ M Fz w R Ef (cO _);have c3:∀c:Nat,F c->F4 c:=λc G=>W4.2.2 c (a0 c G).1;exact ⟨F4,seen M4 F4,E3.kept W4 λc G=>⟨c3 c G,(a0 c G).2⟩,cp,cv,M4,a9,R4,A4,c0,rfl⟩
    |exit j=>exact Kw (by simp) (E3.kept Kd.refl a0) (by subst ax;exact ⟨.exit j,E,aC,M3,rfl,a7,by omega,R3,a8,Ef,rfl⟩)
    |ret=>exact Kw (by simp) (E3.kept Kd.refl a0) (by subst ax;exact ⟨.ret,E,aC,M3,rfl,a7,by omega,R3,a8,Ef,rfl⟩)
   ·intro D F U W hD bb aa bd hi;subst hI;obtain ⟨E,z,Z,hr,R',A',E',rfl⟩:=hi;rw[List.drop_length] at hr;unfold seen at aa;simp only[not_or,not_exists] at aa;exact hK .normal E z _ W Z F hr.2 ⟨[D],rfl,by simp,λD' av=>by simp only[zK] at av;subst av;exact ⟨hD,bb,aa.2,aa.1,bd⟩⟩ R' A' E' (yBW hr.1.2.symm)
   ·intro D c F U W hD bb aa bd hi;subst ax;obtain ⟨e,E,z,Z,rfl,hq,an,R',A',E',rfl⟩:=hi;unfold seen at aa;simp only[not_or,not_exists] at aa;exact wp_jmp (hK e E z _ W Z F hq ⟨[D],rfl,by simp,λD' av=>by simp only[zK] at av;subst av;exact ⟨hD,bb,aa.2,aa.1,bd⟩⟩ R' A' E' an)
  ·cases e
 |region id da bl=>
  simp only[bB] at G;split at G
  ·cases bl with
   |false=>simp at G
   |true=>simp only[if_true] at G;split at G <;> simp at G
  ·simp at G
 |seq c1 c2=>simp only[bB] at G;split at G <;> simp at G
 |cond o c1 c2=>simp only[bB] at G;split at G <;> simp at G
 |scope b=>simp only[bB,cy] at G;obtain ⟨a1,_,e1⟩:=G;rcases JK a1 with ⟨l,r,_,e⟩ | e <;> rw[e] at e1 <;> simp at e1
 |_=>simp[bB] at G
end
end Go.Abs
end
section
namespace Go.Abs
noncomputable section
variable[Gl][Y:Ty]
def II(al:AL)(σ:ar)(b:AL)(σ':ar):Prop:=
 σ'.length=σ.length/\∀(n:Nat)(M:Nat->Option Nat)(Fz:Nat->Prop)(w:World)(a:Array Value),Rel σ M Fz w->dX n σ M Fz w al a->∃M' Fz',Rel σ' M' Fz' w/\dX n σ' M' Fz' w b a/\bD σ M Fz w σ' M' Fz' w
theorem II.refl(al:AL)(σ:ar):II al σ al σ:=⟨rfl,λ_ M Fz _ _ R A=>⟨M,Fz,R,A,bD.refl R⟩⟩
theorem II.trans{al al1 j:AL}{σ σ1 aC:ar}(h:II al σ al1 σ1)(o:II al1 σ1 j aC):II al σ j aC:=⟨o.1.trans h.1,λn M Fz w i R A=>by obtain ⟨u,x,z,E,G⟩:=h.2 n M Fz w i R A;obtain ⟨K,O,U,W,Z⟩:=o.2 n u x w i z E;exact ⟨K,O,U,W,G.trans Z (by rw[h.1];exact cO _)⟩⟩
section
variable{P:Program}{n:Nat}{al al1:AL}{σ σ1:ar}{Q:ni->AL->ar->Prop}{ac:aP}
theorem Sem.Ao(hs:II al σ al1 σ1)(h:Sem P ac n al1 σ1 Q):Sem P ac n al σ Q:=by intro c j M Fz w a K R A o;obtain ⟨u,z,E,G,O⟩:=hs.2 n M Fz w a.tmps R A;exact h c j u z w a K E G λx i σ' U w' M' Fz' W Z R' A' E' hl=>o x i σ' U w' M' Fz' W Z R' A' (O.trans E' (by rw[hs.1];exact cO _)) (by rw[<-hs.1];exact hl)
def sq(P:Program)(os:List aG)(n:Nat)(al:AL)(σ:ar)(Q:AL->ar->Prop):Prop:=
 ∀ (b : Array Oper) (k : Nat) (g : Exit -> Act -> World -> Prop) (d : List Nat), (∀ j h, os[j]? = some h -> ∃ o, b[k + j]? = some o /\ bn P b o = some h) ->
  ∀(M:Nat->Option Nat)(Fz:Nat->Prop)(w:World)(a:Act),Rel σ M Fz w->dX n σ M Fz w al a.tmps ->
  (∀e σ' f w' M' Fz',Q e σ'->f.defers=a.defers->Rel σ' M' Fz' w'->dX n σ' M' Fz' w' e f.tmps->bD σ M Fz w σ' M' Fz' w'->σ.length<=σ'.length->wpOps P b g d f w') ->
  wpOps P b g (List.range' k os.length++d) a w
theorem sq.mono{os:List aG}{Q Q':AL->ar->Prop}(h:sq P os n al σ Q)(x:∀a s,Q a s->Q' a s):sq P os n al σ Q':=
 λo k z i j M Fz w a R A E=>h o k z i j M Fz w a R A λu σ' G w' M' Fz' K=>E u σ' G w' M' Fz' (x _ _ K)
theorem sq.Ao{os:List aG}{Q:AL->ar->Prop}(hs:II al σ al1 σ1)(h:sq P os n al1 σ1 Q):sq P os n al σ Q:=by intro o k x i j M Fz w a R A z;obtain ⟨E,G,K,O,U⟩:=hs.2 n M Fz w a.tmps R A;exact h o k x i j E G w a K O λu σ' W w' M' Fz' Z hd R' A' E' hl=>z u σ' W w' M' Fz' Z hd R' A' (U.trans E' (by rw[hs.1];exact cO _)) (by rw[<-hs.1];exact hl)
theorem sq.UL{os o:List aG}{Q:AL->ar->Prop}(h:sq P os n al σ λal1 σ1=>sq P o n al1 σ1 Q):sq P (os++o) n al σ Q:=by
 intro u k W x i M Fz w a R A Z;rw[yZ,<-List.range'_append_1,AX];refine h u k W _ (λj E z=>i j E (by rw[EZ (eY.1 z).1];exact z)) M Fz w a R A λal1 σ1 a1 w1 M1 F1 hQ hd R1 A1 E1 hl=>?_;refine hQ u (k+os.length) W x (λj E z=>?_) M1 F1 w1 a1 R1 A1 λG σ' a' w' M' Fz' K O R' A' E' U=>Z G σ' a' w' M' Fz' K (O.trans hd) R' A' (E1.trans E' hl) (kj hl U);have:=i (os.length+j) E (by rw[KP (by omega)];simpa using z)
 rwa [<-yC6] at this
theorem ops_wpR{orc:fj}(O:lN P orc){ops:Array Oper}{Q:Exit->Act->World->Prop}{e:List Nat}:∀(os:List aG)(k:Nat)(σ σ':ar)(M:Nat->Option Nat)(Fz:Nat->Prop)(w:World)(d b:List D)(a:Act)(wr:List Nat),
  (∀j ao,os[j]? = some ao->∃o,ops[k+j]? = some o/\bn P ops o=some ao)->Rel σ M Fz w->dy σ M Fz w d a.tmps->jJ P orc os d σ=some (b,σ',wr) ->
  (∀p w' M' Fz',p.defers=a.defers->Rel σ' M' Fz' w'->dy σ' M' Fz' w' b p.tmps->bD σ M Fz w σ' M' Fz' w'->σ.length<=σ'.length->wpOps P ops Q e p w') ->
  wpOps P ops Q (List.range' k os.length++e) a w:=by
 intro os;induction os with
 |nil=>intro k σ σ' M Fz w d b a wr _ R E h q;simp only[jJ,au,aS] at h;obtain ⟨rfl,rfl,_⟩:=h;exact q a w M Fz rfl R E (bD.refl R) (cO _)
 |cons ao os ih=>
  intro k σ σ' M Fz w d b a wr f R E h q;simp only[jJ] at h;split at h
  ·rename_i g σ1 w1 G;split at h
   ·rename_i i aC w2 K;simp only[au,aS] at h;obtain ⟨rfl,rfl,_⟩:=h;obtain ⟨o,ho,r⟩:=f 0 ao (by simp);simp only[Fa,List.range'_succ,JS];rw[wpOps_cons];refine CG O R E (by omega) r G _ λL w' N t hd S T u l=>?_;refine ih (k+1) σ1 aC N t w' g i L w2 (λj v hj=>?_) S T K λU x W y Z R2 E2 z A=>?_
    ·obtain ⟨o',aa,ab⟩:=f (j+1) v (by simp_all)
     grind
    ·exact q U x W y (by simp_all) R2 E2 (u.trans z l) (kj l A)
   simp_all
  simp_all
theorem sq.trq{orc:fj}(O:lN P orc){os:List aG}{Q:AL->ar->Prop}(h:cf P orc 0 os n al σ λi σ' _=>Q i σ'):sq P os n al σ Q:=by intro u k Qx o j M Fz w a R A x;obtain ⟨i,σ',is,z,E⟩:=h;obtain ⟨G,K,U⟩:=z _ A.c_.2;exact ops_wpR O os k σ σ' M Fz w _ G a _ j R A.c_.1 (Ed _ _ _ _ _ _ K) λW w' M' Fz' Z R' E' EV hl=>x i σ' W w' M' Fz' E Z R' (dX.R_ E' U) EV hl
theorem regC{c:Code}{os:List aG}(h:bB P c=some (.Bc os)):∃id ops,c=.region id ops false/\ops.toList.mapM (bn P ops)=some os:=by
 cases c with
 |region id ops d=>
  simp only[bB] at h;split at h
  ·rename_i f i;split at h
   ·split at h <;> simp at h
   ·simp only[au,aP.Bc.injEq] at h;subst h;exact ⟨id,ops,by simp_all,i⟩
  ·simp at h
 |rangeFunc g j x y=>rcases dS h with ⟨_,_,_,_,_,_,_,e⟩ | e <;> cases e
 |scope b=>simp only[bB,cy] at h;obtain ⟨x,_,h⟩:=h;rcases JK x with ⟨_,_,_,e⟩ | e <;> rw[e] at h <;> cases h
 |seq a b=>simp only[bB] at h;split at h <;> simp at h
 |cond x a b=>simp only[bB] at h;split at h <;> simp at h
 |block id b=>simp only[bB,cy] at h;obtain ⟨_,_,h⟩:=h;cases h
 |loop b=>simp only[bB,cy] at h;obtain ⟨_,_,h⟩:=h;cases h
 |_=>simp[bB] at h
theorem Sem.ofO{os:List aG}(h:sq P os n al σ λi σ'=>Q .normal i σ'):Sem P (.Bc os) n al σ Q:=by
 intro c E M Fz w a K R A G;obtain ⟨id,u,rfl,z⟩:=regC E;obtain ⟨O,U⟩:=JY z;refine Hj (nX z) ?_;have x:u.size=os.length:=by rw[O,ZT]
 rw[List.range_eq_range',x];have:=h u 0 (kM K) [] (λj W Z=>by
  obtain ⟨o,g1,g2⟩:=U j W Z;exact ⟨o,by rw[Pe,<-Tm];exact g1,g2⟩) M Fz w a R A λi σ' a' w' M' Fz' hQ hd R' A' E' hl=>by exact ⟨G .normal i σ' a' w' M' Fz' hQ (Mk.of_eq hd) R' A' E' hl,by simp⟩
 simpa using this
end
section
variable{al:AL}{σ:ar}
theorem Nb{M:Nat->Option Nat}{Fz:Nat->Prop}{w:World}{b:Nat}{ob ob':Ob}(hb:σ[b]? = some ob)(K:ob.sz<ob'.sz)(R:Rel σ M Fz w) :
  (∀{d:D}{v:Value},V σ M Fz w d v->V (σ.set b ob') (λx=>if x=b then none else M x) (λc=>Fz c\/M b=some c) w d v) /\
  Rel (σ.set b ob') (λx=>if x=b then none else M x) (λc=>Fz c\/M b=some c) w/\bD σ M Fz w (σ.set b ob') (λx=>if x=b then none else M x) (λc=>Fz c\/M b=some c) w:=by
 have cK:∀(x:Nat) o,σ[x]? = some o->∃G,(σ.set b ob')[x]? = some G/\o.sz<=G.sz/\(G.sz=o.sz->x≠b/\G=o):=λx o g=>by
  by_cases e:x=b
  ·subst e;rw[hb] at g;simp only[au] at g;subst g;exact ⟨_,FV hb,yCu K,λe=>by omega⟩
  ·exact ⟨o,by rw[TR e];exact g,cO _,λ_=>⟨e,rfl⟩⟩
 have conv:∀{d:D}{v:Value},V σ M Fz w d v->V (σ.set b ob') (λx=>if x=b then none else M x) (λc=>Fz c\/M b=some c) w d v:=by
  intro d v f;induction f with
  |c h=>exact .c (h.mono λc L=>⟨.inl L,rfl⟩)
  |any v=>exact .any v
  |ptr a ob h N f=>
   obtain ⟨ob',h1,h2,t⟩:=cK _ _ h;exact .ptr a ob' h1 (by omega) (λz=>by obtain ⟨j,rfl⟩:=t (by omega);rw[if_neg j];exact f z)
  |sl a m cap O ob h N f=>
   obtain ⟨ob',h1,h2,t⟩:=cK _ _ h;exact .sl a m cap O ob' h1 (by omega) (λz=>by obtain ⟨j,rfl⟩:=t (by omega);rw[if_neg j];exact f z)
  |mp c ob h f=>
   obtain ⟨ob',h1,h2,t⟩:=cK _ _ h;exact .mp c ob' h1 (λz=>by obtain ⟨j,rfl⟩:=t (by omega);rw[if_neg j];exact f z)
  |fn A ws h1 h2 f hw S U=>exact .fn A ws h1 h2 S U
  |agg A h1 f ih=>exact .agg A h1 ih
  |aT A h1 f ih=>exact .aT A h1 ih
 have W:∀{ob o},bZ σ M Fz w ob o->bZ (σ.set b ob') (λx=>if x=b then none else M x) (λc=>Fz c\/M b=some c) w ob o:=λ{ob o} j=>by
  cases ob with
  |cells cs=>obtain ⟨l,T,Z,hl,f⟩:=j;exact ⟨l,T,Z,hl,λi d v x y=>⟨conv (f i d v x y).1,(f i d v x y).2⟩⟩
  |map es aa=>obtain ⟨l,Z,hl,f⟩:=j;exact ⟨l,Z,hl,λi k d n e x y=>let ⟨p,q,r⟩:=f i k d n e x y;⟨p,q,conv r⟩⟩
  |gone n=>exact j.elim
 refine ⟨conv,⟨λx c g=>?_,λx x' c g u=>?_,λc L=>L.elim (R.fz c) λh=>(R.lt h).2,Gl.mono (λc h=>⟨.inl h,rfl⟩) R.gl⟩,{
  size:=cO _
  frame:=λ_ _ _=>rfl
  lE:=λx c h=>by
   split at h
   ·simp at h
   exact .inl ⟨x,h⟩
  fz:=λc h=>⟨.inl h,rfl⟩
  nj:=λc h=>h.elim .inl λh=>.inr (.inl ⟨b,h⟩)
  pU:=λc l T fr h=>⟨l,h,rfl⟩
  keep:=λx ob h=>by obtain ⟨ob',h1,h2,t⟩:=cK x ob h;exact ⟨ob',h1,h2,λe=>by rw[if_neg (t e).1]⟩
  out:=⟨rfl,rfl,rfl⟩ }⟩
 ·split at g
  ·simp at g
  rename_i E;obtain ⟨h1,ob,o,h2,t,j⟩:=R.blk x c g;exact ⟨λhf=>hf.elim h1 λhf=>E (R.inj _ _ c g hf),ob,o,by rw[TR E];exact h2,t,W j⟩
 ·split at g
  ·simp at g
  split at u
  ·simp at u
  exact R.inj _ _ c g u
def Cvt(σ:ar)(b:Nat)(d:D)(x:C):Prop:=∀(M:Nat->Option Nat)(Fz:Nat->Prop)(w:World)(v:Value),Rel σ M Fz w->V σ M Fz w d v->VC (λc=>Fz c\/M b=some c) w x v
theorem II.rg{t b:Nat}{ob ob':Ob}{d:D}{x:C}(E:lk t al=some d)(hb:σ[b]? = some ob)(i:ob.sz<ob'.sz)(G:Cvt σ b d x):II al σ ((t,.c x)::al) (σ.set b ob'):=by
 refine ⟨by simp,λn M Fz w z R A=>?_⟩;obtain ⟨conv,K,O⟩:=Nb hb i R;refine ⟨_,_,K,⟨A.1,λs U hs=>?_⟩,O⟩;simp only[lk] at hs;split at hs
 ·rename_i j;have:=dd j;subst this;simp only[au] at hs;subst hs;obtain ⟨v,o,u⟩:=A.2 _ _ E;exact ⟨v,o,.c (G M Fz w v R u)⟩
 ·obtain ⟨v,o,u⟩:=A.2 s U hs;exact ⟨v,o,conv u⟩
theorem II.cl{b z j:Nat}{ob ob':Ob}{cs:List D}{d:D}{x:C}(h0:σ[z]? = some (.cells cs))(hj:cs[j]? = some d)(G:z≠b)(hb:σ[b]? = some ob)(Z:ob.sz<ob'.sz)(hc:Cvt σ b d x) :
  II al σ al ((σ.set b ob').set z (.cells (cs.set j (.c x)))):=by
 refine ⟨by simp,λn M Fz w ad R A=>?_⟩;obtain ⟨conv,K,E1⟩:=Nb hb Z R;have u:(σ.set b ob')[z]? = some (.cells cs):=by rw[TR G];exact h0
 have U:bD (σ.set b ob') (λx=>if x=b then none else M x) (λc=>Fz c\/M b=some c) w ((σ.set b ob').set z (.cells (cs.set j (.c x)))) (λx=>if x=b then none else M x) (λc=>Fz c\/M b=some c) w:={ bD.refl K with
  keep:=λy ob h=>by
   by_cases e:y=z
   ·subst e;rw[u] at h;simp only[au] at h;subst h;exact ⟨_,FV u,by simp[Ob.sz],λ_=>rfl⟩
   ·exact ⟨ob,by rw[TR e];exact h,cO _,λ_=>rfl⟩ }
 refine ⟨_,_,⟨λy c hy=>?_,K.inj,K.fz,K.gl⟩,⟨A.1,λs d' hs=>?_⟩,E1.trans U (by simp)⟩
 ·obtain ⟨W,aa,o,E,h3,h4⟩:=K.blk y c hy;by_cases e:y=z
  ·subst e;rw[u] at E;simp only[au] at E;subst E;refine ⟨W,_,o,FV u,h3,?_⟩;rw[if_neg G] at hy;obtain ⟨_,af,o2,g2,g3,g4⟩:=R.blk y c hy;rw[h0] at g2;simp only[au] at g2;subst g2;rw[h3] at g3;simp only[au] at g3;subst g3;obtain ⟨ab,T,ho,hl,hv⟩:=g4;refine ⟨ab,T,ho,by simpa using hl,λi d' v O q2=>?_⟩;by_cases ej:i=j
   ·subst ej;have hi:i<cs.length:=(eY.1 hj).1;rw[xAd hi] at O;simp only[au] at O;subst O;obtain ⟨k1,k2⟩:=hv i _ v hj q2;exact ⟨.c (hc M Fz w v R k1),k2⟩
   ·rw[yCm (λe=>ej e.symm)] at O;obtain ⟨k1,k2⟩:=hv i d' v O q2;exact ⟨(conv k1).mono U,k2⟩
  ·exact ⟨W,aa,o,by rw[TR e];exact E,h3,h4.mono U⟩
 ·obtain ⟨v,W,E⟩:=A.2 s d' hs;exact ⟨v,W,(conv E).mono U⟩
theorem cvt_row{b i:Nat}{l:List (TT i)}(hb:σ[b]? = some (OB (enc i) l)):Cvt σ b (OS (aA i) b l.length) (.cD false (l.map (enc i))):=λM Fz w v R h=>by
 have d:Rn (Y:=Y) 0 σ [] id (λx=>x=b):=⟨cO _,λi hi=>by omega,λi j hi=>by simp at hi,λi hi=>by simp at hi,λx a=>by subst a;exact ⟨i,l,hb⟩,λi hi=>by simp at hi⟩
 exact ((du.cD d rfl hb M Fz w v R h).pI).mono λc e=>⟨e.imp id λ⟨x,a,h⟩=>a▸h,rfl⟩
theorem cvt_ptr{b:Nat}{cs:List C}(hb:σ[b]? = some (.cells (cs.map .c))):Cvt σ b (.ptr b 0 cs.length) (.cz cs 0):=λM Fz w v R h=>by
 cases h with
 |ptr a r h t u=>
  rw[hb] at h;simp only[au] at h;subst h;obtain ⟨c,q,rfl⟩:=u (by simp[Ob.sz]);obtain ⟨_,r,o,l,x,y⟩:=R.blk b c q;rw[hb] at l;simp only[au] at l;subst l;obtain ⟨f,T,rfl,hl,p⟩:=y;rw[wX] at hl;have i:∀(j:Nat) d,cs[j]? = some d->∃v,f[j]? = some v/\V σ M Fz w (.c d) v/\v.oneCell'=true:=λj d g=>by have hi:=(eY.1 g).1;have e:f[j]? = some (f[j]'(by omega)):=qo _;obtain ⟨z,A⟩:=p j (.c d) _ (by simp[g]) e;exact ⟨_,e,z,A⟩
  refine .cz c 0 (λj=>(f[j]?).getD undef) (.inr q) (λj d g=>?_) (λj d g=>?_)
  ·obtain ⟨v,e,_,k⟩:=i j d g;rw[Pe,cell_of_row w c j f T (0,0) x,e];exact ⟨rfl,k⟩
  ·obtain ⟨v,e,k,_⟩:=i j d g;simp only[e,Rm];cases k with
   |c k=>exact k.mono λc E=>⟨.inl E,rfl⟩
end
theorem ref_c{al:TA}{σ:TH}{alD:AL}{σD:ar}(a:Ref al σ alD σD){t:Nat}{x:TC}(h:NH t al=some (.v (.c x)))(b:x≠.any):lk t alD=some x.er/\GC σ x:=by obtain ⟨p,e⟩:=jE h;obtain ⟨d,f,g,i⟩:=a.rg t _ p e;have:=RT.c1 b g;subst this;exact ⟨f,i⟩
theorem Tt{al:TA}{σ:TH}{alD:AL}{σD:ar}(a:Ref al σ alD σD){t:Nat}{x:TC}(h:XD t al σ=some x)(b:x≠.any):GC σ x:=by
 unfold XD at h;split at h
 ·split at h
  ·rename_i w d e;split at h
   ·rename_i f;simp only[au] at h;subst h;exact (a.hh.hg _ w d e _ (yP f)).1
   ·simp at h
  ·simp at h
 ·split at h
  ·rename_i g hl;simp only[au] at h;subst h;exact (ref_c a hl b).2
  ·simp at h
theorem Sg{al l:TA}{σ σ':TH}{alD:AL}{σD:ar}{t b:Nat}{x:TC}{q:C}{y:TC}{blk a:TB}(g:Ref al σ alD σD)(f:XD t al σ=some x)(R:x≠.any)(r:HI t b=true)(hb:σ[b]? = some blk)(be:BE blk a)
  (u:blk.er.sz<a.er.sz) (hg:∀w cs,a=.cells w cs->∀p∈cs,GC σ p.2/\p.1<=w) (hy:y.er=.c q) (A:∀σ,GC σ y) (hc:Cvt σD b x.er q) (h:setL t y al (σ.set b a)=(l,σ')) :
  ∃i k,Ref l σ' i k/\II alD σD i k/\(∃pre,l=pre++al)/\Ext σ σ':=by
 obtain ⟨ob,e1,S⟩:=g.hh.hp b blk hb;have S:ob=blk.er:=S;subst S;have H1:=g.hh.set (ob:=a.er) hb be rfl hg;have L:=Ext.set hb be;unfold XD at f;unfold setL at h;unfold HI at r;split at f
 ·rename_i T;rw[T] at h r;simp only at h r;generalize (t-1048576) / 1024=bb at f h r;generalize (t-1048576) % 1024=N at f h;have E:bb≠b:=λe=>by simp[e] at r
  split at f
  ·rename_i w cs U;split at f
   ·rename_i w0 x0 hj;simp only[au] at f;subst f;have o:(σ.set b a)[bb]? = some (.cells w cs):=by rw[TR E];exact U
    rw[o] at h;simp only[aS] at h;obtain ⟨rfl,rfl⟩:=h;have g0:=g.hh.hg _ w cs U;have G:BE (.cells w cs) (.cells (w+1) (cs.set (N) (w+1,y))):=⟨_,_,rfl,by omega,by simp,λj v z v1 z1 q1 K=>by
     by_cases e:j=N
     ·subst e;rw[xAd (eY.1 hj).1] at K;simp only[au,aS] at K;exact .inr (by omega)
     ·rw[yCm (λq=>e q.symm)] at K
      simp_all⟩
    have x2:=Ext.set o G;have H2:=H1.set (ob:=(TB.cells (w+1) (cs.set (N) (w+1,y))).er) o G rfl (λw' aa e p O=>by
     simp only[TB.cells.injEq] at e;obtain ⟨rfl,rfl⟩:=e;rcases yCn O with O | rfl
     ·exact ⟨(g0 p O).1.mono L,Nat.le_succ_of_le (g0 p O).2⟩
     ·exact ⟨A _,cO _⟩)
    obtain ⟨W,k1,Z⟩:=g.hh.hp _ _ U;have Z:W=(TB.cells w cs).er:=Z;subst Z;have x3:=Ext.trans g.hh L x2;refine ⟨alD,_,⟨H2,λs z p hs=>?_⟩,?_,⟨[],rfl⟩,x3⟩
    ·obtain ⟨d,q1,K,q3⟩:=g.rg s z p hs;exact ⟨d,q1,K,GW.mono x3 [] q3⟩
    ·have:=II.cl (al:=alD) (j:=N) (x:=q) (d:=x0.er) (ob':=a.er) k1 (by simp[hj]) E e1 u hc;simpa[TB.er,List.map_set,hy] using this
   ·simp at f
  ·simp at f
 ·rename_i T;rw[T] at h;simp only[aS] at h;obtain ⟨rfl,rfl⟩:=h;split at f
  ·rename_i x0 hl;simp only[au] at f;subst f;obtain ⟨g1,_⟩:=ref_c g hl R;exact ⟨_,_,g.set H1 L (Or.inr (by rw[hy])) (A _),II.rg g1 e1 u hc,⟨[_],rfl⟩,L⟩
  ·simp at f
theorem Qv:∀(os:List (Nat×Nat))(al g:TA)(σ σ':TH)(alD:AL)(σD:ar),Nc os al σ=some (g,σ')->Ref al σ alD σD ->
  ∃d f,Ref g σ' d f/\II alD σD d f/\(∃pre,g=pre++al)/\Ext σ σ':=by
 intro os;induction os with
 |nil=>intro al g σ σ' alD σD h r;simp only[Nc,au,aS] at h;obtain ⟨rfl,rfl⟩:=h;exact ⟨alD,σD,r,II.refl _ _,⟨[],rfl⟩,Ext.refl σ⟩
 |cons o os ih=>
  intro al g σ σ' alD σD h r;obtain ⟨t,i⟩:=o;have fin:∀{al1 σ1},(∃d f,Ref al1 σ1 d f/\II alD σD d f/\(∃pre,al1=pre++al)/\Ext σ σ1)->Nc os al1 σ1=some (g,σ') ->
    ∃d f,Ref g σ' d f/\II alD σD d f/\(∃pre,g=pre++al)/\Ext σ σ':=by
   intro al1 σ1 hs h;obtain ⟨a1,s1,R1,S1,⟨p1,T⟩,U⟩:=hs;obtain ⟨a2,s2,R2,S2,⟨p2,W⟩,x2⟩:=ih _ _ _ _ _ _ h R1;exact ⟨a2,s2,R2,S1.trans S2,⟨p2++p1,by simp_all⟩,Ext.trans r.hh U x2⟩
  simp only[Nc] at h;split at h
  ·rename_i i0 b v m G;split at h
   ·rename_i j l K L hb;split at h
    ·rename_i k;simp only[bI] at k;obtain ⟨k,N⟩:=k;have k:=dd k;subst k;have O:GC σ (.own i0 b K m):=Tt r G (by simp);obtain ⟨blk,R,g2⟩:=O;rw[hb] at R;simp only[au] at R;subst R;obtain ⟨rfl,rfl⟩:=(g2 _ _ _ _ rfl).2 rfl;have z:BE (.row j l K L) (.row j (l++[dfl j]) (K+1) (L+1)):=⟨_,K+1,L+1,rfl,by omega,by omega,λe=>by omega,λe=>by omega⟩;exact fin (Sg (q:=.cD false (l.map (enc j))) (y:=.sl j l) r G (by simp) N hb z (dfl_len j l) (λw u e=>by simp at e) rfl (λ_=>True.intro) (cvt_row (r.hh.row hb)) rfl) h
    ·simp at h
   ·simp at h
  ·rename_i b sz G;split at h
   ·rename_i w u hb;split at h
    ·rename_i a k ha;simp only[bI] at k;obtain ⟨k,N⟩:=k;have k:=dd k;subst k;obtain ⟨m1,_⟩:=xY ha;rw[TY] at m1;obtain ⟨ob,Z,S⟩:=r.hh.hp b _ hb;have S:ob=.cells (u.map λp=>p.2.er):=S;have e3:(u.map λp=>p.2.er)=(enc i a).map .c:=m1;subst S;rw[e3] at Z;have E:u.length=(enc i a).length:=by have:=HE List.length e3;simpa using this
     have z:BE (.cells w u) (.cells (w+1) (u++[(w+1,.any)])):=⟨_,_,rfl,by omega,by simp,λj v x v1 U T W=>by
      rw[EZ (eY.1 T).1] at W
      simp_all⟩
     refine fin (Sg (q:=.cz (enc i a) 0) (y:=.fp i a 0) r G (by simp) N hb z (by simp[TB.er,Ob.sz]) (λw' aa e p A=>?_) rfl (λ_=>True.intro) ?_ rfl) h
     ·simp only[TB.cells.injEq] at e;obtain ⟨rfl,rfl⟩:=e;rcases ld.1 A with A | A
      ·exact ⟨(r.hh.hg b w u hb p A).1,Nat.le_succ_of_le (r.hh.hg b w u hb p A).2⟩
      ·simp only[zK] at A;subst A;exact ⟨True.intro,cO _⟩
     ·show Cvt σD b (.ptr b 0 u.length) _;rw[E];exact cvt_ptr Z
    ·simp at h
   ·simp at h
  ·simp at h
theorem Gr{g:Hm}{q:Nat}:∀(k:Nat){os:List aG},kR g q os=true->kR g q (os.take k)=true
 |0,_,_=>by simp[kR]
 |k+1,[],_=>by simp[kR]
 |k + 1, o :: os, h => by
  have e:=Gr k (Bn h);simp only[List.take_succ_cons,kR,bI,e,Kv];have a:∀(p:aG->Bool),os.any p=false->(os.take k).any p=false:=λp d=>by rw[yCj] at d ⊢;exact λx f=>d x (Ky f)
  simp only[kR,bI] at h;have b:=h.1;split at b
  ·rw[im] at b ⊢;exact a _ b
  ·rw[im] at b ⊢;exact a _ b
theorem GI{g:Hm}{q:Nat}:∀(k:Nat){os:List aG},kR g q os=true->kR g q (os.drop k)=true
 |0,_,h=>h
 |k+1,[],_=>by simp[kR]
 |k+1,o::os,h=>GI k (Bn h)
theorem QX{R:Type}(g:Hm)(q:Nat)(O:rA g.P (Cj (FU g.S)))(v:QT g):∀(zs:List (Nat×Nat×Nat))(os:List aG)(al:TA)(σ:TH)(K:TA->TH->Option R)(r:R)(alD:AL)(σD:ar),
  VL g q zs os al σ K=some r->kR g q os=true->Ref al σ alD σD->sq g.P os g.n alD σD λf j=>∃d σ',Ref d σ' f j/\(∃pre,d=pre++al)/\Ext σ σ'/\K d σ'=some r
 |[], os, al, σ, K, r, alD, σD, h, l, o => by simp only[VL] at h;obtain ⟨G,x,_,y⟩:=qL g q O v 1000 0 os [] al σ _ r alD σD h l o (λp b hk=>by grind [zV]) (λp b hk=>by grind [zV]);refine sq.trq x (y.mono λa s i z=>?_);obtain ⟨d,σ',L,u,N,A,_,e⟩:=z;exact ⟨d,σ',u,N,A,e⟩
 |(k, t, i) :: zs, os, al, σ, K, r, alD, σD, h, l, o => by
  simp only[VL] at h;rw[<-J_ k os];refine sq.UL ?_;obtain ⟨G,x,_,y⟩:=qL g q O v 1000 0 (os.take k) [] al σ _ r alD σD h (Gr k l) o (λp b hk=>by grind [zV]) (λp b hk=>by grind [zV]);refine sq.trq x (y.mono λa s i z=>?_);obtain ⟨al1,σ1,L,u,⟨p1,q1⟩,A,_,e⟩:=z;dsimp only at e;split at e
  ·rename_i E aC S;obtain ⟨T,U,W,Z,⟨p2,q2⟩,x2⟩:=Qv _ _ _ _ _ _ _ S u;refine sq.Ao Z ((QX g q O v zs (os.drop k) E aC K r T U e (GI k l) W).mono λa s hs=>?_);obtain ⟨d,σ',g1,⟨p3,g2⟩,g3,g4⟩:=hs;exact ⟨d,σ',g1,⟨p3++(p2++p1),by simp_all⟩,Ext.trans o.hh A (Ext.trans u.hh x2 g3),g4⟩
  ·simp at e
theorem Zy{R:Type}{a b:Nat}{k:Option R}{r:R}(h:Bq a b k=some r):a=b/\k=some r:=by
 unfold Bq at h;split at h
 ·rename_i e;exact ⟨dd e,h⟩
 ·simp at h
theorem refr_ok{R:Type}{k:TA->Option R}{r:R}{σ:TH}{σD:ar}:∀(hs:List (Nat×Nat))(al:TA)(alD:AL),Xi hs al σ k=some r->Ref al σ alD σD ->
  ∃f a,k f=some r/\Ref f σ a σD/\(∃pre,f=pre++al)/\∀t d,lk t a=some d->lk t alD=some d:=by
 intro hs;induction hs with
 |nil=>intro al alD h g;exact ⟨al,alD,h,g,⟨[],rfl⟩,λ_ _ h=>h⟩
 |cons o hs ih=>
  intro al alD h g;obtain ⟨t,U⟩:=o;simp only[Xi] at h;split at h
  ·rename_i i b v m y;split at h
   ·rename_i j l x W hb;split at h
    ·rename_i q;have q:=dd q;subst q;obtain ⟨z,A⟩:=Zy h;clear h;subst z;obtain ⟨p,E⟩:=jE y;obtain ⟨d,Z,G,_⟩:=g.rg t _ p E;have:=RT.c1 (by simp) G;subst this;have K:Ref ((t,.v (.c (.own j b x l.length)))::al) σ ((t,OS (aA j) b l.length)::alD) σD:=g.set g.hh (Ext.refl σ) (Or.inr rfl) ⟨_,hb,λj' l' L N e=>by grind⟩;obtain ⟨f,a,O,S,⟨pre,g3⟩,T⟩:=ih _ _ A K;refine ⟨f,a,O,S,⟨pre++[(t,.v (.c (.own j b x l.length)))],by simp_all⟩,λs d hs=>?_⟩;have:=T s d hs;simp only[lk] at this;split at this
     ·rename_i u;have:=dd u
      grind [TC.er]
     ·exact this
    ·simp at h
   ·simp at h
  ·simp at h
theorem wG.lks{m:Nat}{al i:AL}{σ:ar}(hm:m<=σ.length)(h:∀t d,lk t i=some d->lk t al=some d):wG m al σ i σ:=⟨hm,λn M' Fz' w' j R A=>⟨M',Fz',R,⟨A.1,λt d o=>A.2 t d (h t d o)⟩,Kd.refl,λσ M Fz w _ E _=>E⟩⟩
end
end Go.Abs
end
section
namespace Go.Abs
noncomputable section
variable[Gl][Y:Ty]
def rz{R:Type}(al:TA)(σ:TH)(K:KC R)(r:R):ni->AL->ar->Prop:=λx b d=>∃a σ',Ref a σ' b d/\(∃pre,a=pre++al)/\Ext σ σ'/\K x a σ'=some r
theorem pr{hs:List (Nat×Nat)}{md:List Nat}{al pre:TA}{σ:TH}(h:Jz hs md al σ (pre++al)=true):∀y∈pre,y.1∈md\/∃b i l a d,(y.1,b)∈hs/\σ[b]? = some (.row i l a d):=by
 intro y f;unfold Jz at h;rw[yZ,Nat.add_sub_cancel,List.take_left,iE] at h;have:=h y f;rw[gz,List.any_eq_true,List.any_eq_true] at this;rcases this with ⟨z,g,e⟩ | ⟨z,g,e⟩
 ·simp_all
 ·simp only[bI] at e
  grind [Nat.eq_of_beq_eq_true,rowAt]
theorem qM{h:JH}{md:List Nat}{al al1:TA}{σ σ1:TH}{x:qI h.pl}(e:NT h md al σ al1 σ1=some x):Jz h.hs md al σ al1=true/\ed (h.pl++KR h.zs) 0 σ σ1=true/\YG al1 σ1 h.hs=true/\Wl σ.length σ1 h.zs=true/\LW al1 σ1 h.pl=some x:=by
 unfold NT at e
 grind
theorem zY{σ aC:TH}(q:Ext σ aC)(hl:aC.length=σ.length){b i d f:Nat}{l:List (TT i)}(h:aC[b]? = some (.row i l d f)):∃i l d f,σ[b]? = some (.row i l d f):=by
 have a:b<σ.length:=by grind
 obtain ⟨o,k,g⟩:=q b _ (eK a);rw[h] at k;simp only[au] at k;subst k;have r:σ[b]? = some σ[b]:=eK a;rw[r];cases p:σ[b] with
 |row i l d f=>simp_all
 |cells w t=>rw[p] at g;obtain ⟨_,_,e,_⟩:=g;simp at e
 |mp j st l v=>rw[p] at g;obtain ⟨_,_,_,_,e,_⟩:=g;simp at e
theorem qd(h:JH)(md:List Nat)(al:TA)(σ:TH)(x:qI h.pl):∃pre,dU h md al σ x=pre++al/\∀y∈pre,(∃c,Pl.r y.1 c∈h.pl)\/(∃b i l g j,(y.1,b)∈h.hs/\(cP h md al σ x)[b]? = some (.row i l g j))\/y.1∈md:=by
 obtain ⟨d,t,o,_⟩:=G_ md al;obtain ⟨e,u,k,_⟩:=Nn (rK h.pl x σ) h.hs (GF md al);obtain ⟨f,v,p⟩:=Hp h.pl x (Pp (rK h.pl x σ) h.hs (GF md al));refine ⟨f++(e++d),by grind [dU],λy a=>?_⟩;rcases ld.1 a with a | a
 ·grind
 ·rcases ld.1 a with a | a
  ·obtain ⟨b,i,l,g,j,q,r,_⟩:=k y a;exact .inr (.inl ⟨b,i,l,g,j,q,((Np h.zs (rK h.pl x σ)).row b _ _ _ _).1 r⟩)
  grind
theorem DF{h:JH}{md:List Nat}{al:TA}{σ:TH}{x:qI h.pl}(f:Ext σ (cP h md al σ x))(hl:(cP h md al σ x).length=σ.length){t:Nat}{q:RV×Nat}(g:t∉md)(j:∀c,Pl.r t c∉h.pl)
  (k:∀b,(t,b)∈h.hs->∀i l a d,σ[b]?≠some (.row i l a d)) (o:iC t al=some q):iC t (dU h md al σ x)=some q:=by
 obtain ⟨pre,e,p⟩:=qd h md al σ x
 grind [qj,zY]
theorem Sem.ownC{P:Program}{n:Nat}{ac:aP}{Q:ni->AL->ar->Prop}{al:AL}{σ:ar}(b j aA:Nat)(cs:List D)(hb:σ[b]? = some (.cells cs))(hj:cs[j]? = some (.c (.lit (.slice none 0 0))))(h:Sem P ac n al (σ.set b (.cells (cs.set j (.sl σ.length 0 0 aA 0)))++[.cells []]) Q):Sem P ac n al σ Q:=by
 intro c hc M Fz w a K R A hK;have af:=(eY.1 hb).1;have cK:∀(i:Nat) E,σ[i]? = some E->∃G,(σ.set b (.cells (cs.set j (.sl σ.length 0 0 aA 0)))++[.cells []])[i]? = some G/\G.sz=E.sz:=λi E hi=>by
  have aa:=(eY.1 hi).1;rw[EZ (by simp_all)];by_cases e:i=b
  ·grind [Ob.sz]
  grind
 have z:∀{d v},V σ M Fz w d v->V (σ.set b (.cells (cs.set j (.sl σ.length 0 0 aA 0)))++[.cells []]) M Fz w d v:=λh=>h.sub cK (λ_ _ h=>h) (λc h=>⟨h,rfl⟩) (λc u T fr h=>⟨u,h,rfl⟩);have ak:∀{E o},bZ σ M Fz w E o->bZ (σ.set b (.cells (cs.set j (.sl σ.length 0 0 aA 0)))++[.cells []]) M Fz w E o:=λ{E o} W=>by
  cases E with
  |cells cs=>obtain ⟨u,T,Z,hl,U⟩:=W;exact ⟨u,T,Z,hl,λi d v x y=>⟨z (U i d v x y).1,(U i d v x y).2⟩⟩
  |map es ab=>obtain ⟨u,Z,hl,U⟩:=W;exact ⟨u,Z,hl,λi k d n e x y=>let ⟨p,q,r⟩:=U i k d n e x y;⟨p,q,z r⟩⟩
  |gone n=>exact W.elim
 have R1:Rel (σ.set b (.cells (cs.set j (.sl σ.length 0 0 aA 0)))++[.cells []]) M Fz w:=by
  refine ⟨λb' c h=>?_,R.inj,R.fz,R.gl⟩;obtain ⟨h1,E,o,O,h3,W⟩:=R.blk b' c h;have aa:=(eY.1 O).1;by_cases e:b'=b
  ·subst e;rw[hb] at O;simp only[au] at O;subst O;refine ⟨h1,_,o,by rw[EZ (by simp_all)];exact FV hb,h3,?_⟩;obtain ⟨u,T,Z,hl,U⟩:=W;refine ⟨u,T,Z,by simp_all,λi d v x y=>?_⟩;by_cases ej:j=i
   ·subst ej;rw[yBJ,if_pos rfl] at x;split at x
    ·simp only[au] at x;subst x;obtain ⟨v1,v2⟩:=U j _ v hj y;refine ⟨?_,v2⟩;rw[v1.cd];exact .sl none 0 0 (by simp) (.cells []) (by simp_all) (by omega) (λ_=>.inl ⟨rfl,rfl,rfl,rfl,rfl,rfl⟩)
    simp_all
   grind
  grind
 have E1:bD σ M Fz w (σ.set b (.cells (cs.set j (.sl σ.length 0 0 aA 0)))++[.cells []]) M Fz w:={
  size:=cO _
  frame:=λ_ _ _=>rfl
  lE:=λb c h=>.inl ⟨b,h⟩
  fz:=λc h=>⟨h,rfl⟩
  nj:=λc h=>.inl h
  pU:=λc u T fr h=>⟨u,h,rfl⟩
  keep:=λb E h=>let ⟨G,h1,O⟩:=cK b E h;⟨G,h1,yBW O.symm,λ_=>rfl⟩
  out:=⟨rfl,rfl,rfl⟩ }
 have A1:dX n (σ.set b (.cells (cs.set j (.sl σ.length 0 0 aA 0)))++[.cells []]) M Fz w al a.tmps:=⟨A.1,λs d hs=>let ⟨v,h1,O⟩:=A.2 s d hs;⟨v,h1,z O⟩⟩;exact h c hc M Fz w a K R1 A1 λx ad σ' a' w' M' Fz' hQ hd R' A' E' hl=>hK x ad σ' a' w' M' Fz' hQ hd R' A' (E1.trans E' (by simp)) (by grind)
theorem IZ{P:Program}{n:Nat}{ac:aP}{Q:ni->AL->ar->Prop}:∀(os:List (Nat×Nat))(al f:TA)(σ σ':TH)(alD:AL)(σD:ar),Fh os al σ=some (f,σ')->Ref al σ alD σD ->
  (∃pre,f=pre++al)/\Ext σ σ'/\((∀u y,Ref f σ' u y->Sem P ac n u y Q)->Sem P ac n alD σD Q):=by
 intro os;induction os with
 |nil=>intro al f σ σ' alD σD h a;simp only[Fh,au,aS] at h;obtain ⟨rfl,rfl⟩:=h;exact ⟨⟨[],rfl⟩,Ext.refl σ,λhs=>hs alD σD a⟩
 |cons o os ih=>
  intro al f σ σ' alD σD h a;obtain ⟨t,i⟩:=o;simp only[Fh] at h;split at h
  ·
   generalize (t-1048576) / 1024=b at h;generalize (t-1048576) % 1024=j at h;split at h
   ·rename_i w z hb;split at h
    ·rename_i v0 hj;obtain ⟨ds,hd,_,_,U⟩:=a.hh.cells hb;have aa:ds[j]? = some (.c (.lit (.slice none 0 0))):=by rw[U,lJ,hj];rfl
     have N:BE (.cells w z) (.cells (w+1) (z.set j (w+1,.own i σ.length 0 0))):=⟨w+1,_,rfl,by omega,by simp,λk v x v1 E e K=>by grind⟩
     have E:Ext σ (σ.set b (.cells (w+1) (z.set j (w+1,.own i σ.length 0 0)))++[.row i [] 0 0]):=λg q e=>by
      obtain ⟨W,K,L⟩:=Ext.set hb N g q e
      grind
     have O:Ref al (σ.set b (.cells (w+1) (z.set j (w+1,.own i σ.length 0 0)))++[.row i [] 0 0]) alD (σD.set b (.cells (ds.set j (.sl σD.length 0 0 (aA i) 0)))++[.cells []]):=by
      refine ⟨⟨by simp[a.hh.len],λg q e=>?_,λg w' R e p A=>?_⟩,λt x p h=>?_⟩
      ·rcases rE g σ.length with r | r
       ·rw[EZ (by simp_all)] at e;rw[EZ (by rw[WC,a.hh.len];exact r)];by_cases G:g=b
        ·subst G;rw[FV hb] at e;simp only[au] at e;subst e;refine ⟨_,FV hd,?_⟩;show _=TB.er _;simp only[TB.er,Ob.cells.injEq];rw[List.map_set,U,a.hh.len];simp[TC.er,OS]
        ·rw[TR G] at e ⊢;exact a.hh.hp g q e
       ·rw[KP (by simp_all),WC] at e;rw[KP (by rw[WC,a.hh.len];exact r),WC,a.hh.len];have:g-σ.length=0:=by grind
        rw[this] at e ⊢;simp only[wR,au] at e;subst e;exact ⟨_,rfl,rfl⟩
      ·rcases rE g σ.length with r | r
       ·rw[EZ (by simp_all)] at e;by_cases G:g=b
        ·subst G;rw[FV hb] at e;simp only[au,TB.cells.injEq] at e;obtain ⟨rfl,rfl⟩:=e;rcases yCn A with A | rfl
         ·obtain ⟨S,Z⟩:=a.hh.hg g w z hb p A;exact ⟨S.mono E,by omega⟩
         ·refine ⟨⟨.row i [] 0 0,?_,λj l lv cv e=>?_⟩,cO _⟩
          ·simp_all
          grind
        ·rw[TR G] at e;obtain ⟨S,Z⟩:=a.hh.hg g w' R e p A;exact ⟨S.mono E,Z⟩
       grind
      ·obtain ⟨d,r,T,h3⟩:=a.rg t x p h;exact ⟨d,r,T,h3.mono E []⟩
     obtain ⟨⟨pre,K⟩,L,e3⟩:=ih _ _ _ _ _ _ h O;refine ⟨⟨pre,K⟩,Ext.trans a.hh E L,λhs=>?_⟩
     grind [Sem.ownC]
    ·grind
    simp_all
   simp_all
  split at h
  ·rename_i ht;obtain ⟨p,A⟩:=jE ht;obtain ⟨d,r,T,_⟩:=a.rg t _ p A;have:=RT.c1 (by simp) T;subst this;have O:Ref ((t,.v (.c (.own i σ.length 0 0)))::al) (σ++[.row i [] 0 0]) ((t,OS (aA i) σD.length 0)::alD) (σD++[.cells []]):=
    a.set (a.hh.push (blk:=.row i [] 0 0) (ob:=.cells []) rfl (λw z e=>by simp at e)) (Ext.push σ _) (Or.inr (by rw[a.hh.len];rfl)) (po (b:=0) rfl)
   obtain ⟨⟨pre,K⟩,L,e3⟩:=ih _ _ _ _ _ _ h O;refine ⟨⟨pre++[(t,.v (.c (.own i σ.length 0 0)))],by simp_all⟩,Ext.trans a.hh (Ext.push σ _) L,λhs=>?_⟩;exact Sem.own t (aA i) r (d:=OS (aA i) σD.length 0) (by simp[OS]) rfl (e3 hs)
  ·grind
  simp_all
theorem Sem.drwCQ{P:Program}{n:Nat}{al:AL}{σ:ar}{Q:ni->AL->ar->Prop}{orc:fj}{os:List aG}{k:Nat}{i:List Nat}{p:Nat}(j:P.follows .mixedOrders=true)(O:lN P orc)
  (h:cf P orc (Ve os) os n al σ λu σ' o=>(eH i o&&mU i p (Ve os) os.length&&Nat.ble p (Ve os))=true/\Q .normal u σ'):Sem P (.Hb os i k p) n al σ Q:=by
 obtain ⟨al1,σ1,o,h,hp,G⟩:=h;intro c U M Fz w a K R A W;obtain ⟨e',Z,h2⟩:=h _ A.c_.2;have aa:∀m r,jN P orc os i p m (wV n al) σ=some r->r=(e',σ1,o.flatMap (·.wr)):=by
  intro m r z;unfold jN at z;split at z
  ·rename_i e2 aC ab E;have:=Mc _ _ _ _ _ _ _ E Z
   simp_all
  simp_all
 have E:jN P orc os i p (Ve os) (wV n al) σ=some (e',σ1,o.flatMap (·.wr)):=by
  unfold jN
  simp_all
 have h4:kD P orc 1 (.Hb os i k p) (wV n al) σ []=some (.normal,e',σ1,o.flatMap (·.wr)++[]):=by grind [kD]
 have:Sem P (.Hb os i k p) n al σ Q:=Sem.Eg j O (k:=1) (wr:=[]) (e:=wV n al) (e':=e') (x:=.normal) (σ':=σ1) h4 rfl h2 G;exact this c U M Fz w a K R A W
theorem Za(g:Hm)(dD:g.P.follows .mixedOrders=true)(hT:ff g.P g.S)(hI:QT g){R:Type}:∀(ac:aP)(q:Nat)(al:TA)(σ:TH)(K:KC R)(r:R)(alD:AL)(σD:ar),tC g ac q al σ K=some r->Ref al σ alD σD ->
  Sem g.P ac g.n alD σD (rz al σ K r):=by
 have O:rA g.P (Cj (FU g.S)):=mX (Ol hT);intro ac;induction ac with
 |skip=>intro q al σ K r alD σD h S;exact Sem.skip dD ⟨al,σ,S,⟨[],rfl⟩,Ext.refl σ,h⟩
 |exit id=>intro q al σ K r alD σD h S;exact Sem.exit dD ⟨al,σ,S,⟨[],rfl⟩,Ext.refl σ,h⟩
 |ret=>intro q al σ K r alD σD h S;exact Sem.ret dD ⟨al,σ,S,⟨[],rfl⟩,Ext.refl σ,h⟩
 |stuck=>grind [tC]
 |ZO l=>intro q al σ K r alD σD h S;exact Sem.ZO ⟨al,σ,S,⟨[],rfl⟩,Ext.refl σ,h⟩
 |Va l a rr a9 b0=>
  intro q al σ K r alD σD h S;have ev:∀{i:Nat},Nat.beq (i % 2) 0=true->i % 2=0:=λh=>dd h;simp only[tC] at h;split at h
  ·
   refine Sem.Va 1 ((a9 _ _ _ _ _ alD σD h S).eQ λex bh a0 hP=>.inl ?_);obtain ⟨al1,σ1,U,⟨pre,e1⟩,W,N⟩:=hP;cases ex with
   |normal=>exact ⟨al1,σ1,U,⟨pre,e1⟩,W,N⟩
   |ret=>exact ⟨al1,σ1,U,⟨pre,e1⟩,W,N⟩
   |exit i=>
    dsimp only at N;split at N
    ·rename_i hi;refine .inl ⟨dd hi,bh,a0,wG.refl (by rw[S.hh.len,U.hh.len];exact W.len),TO.succ ((b0 _ _ _ _ _ bh a0 N U).eQ λex E G hP=>.inl ?_)⟩;obtain ⟨af,aC,g1,⟨ab,e2⟩,g3,g4⟩:=hP;have fin:∀{ex:ni},K ex af aC=some r->rz al σ K r ex E G:=λg4=>⟨af,aC,g1,⟨ab++pre,by simp_all⟩,Ext.trans S.hh W g3,g4⟩;cases ex with
     |normal=>exact fin g4
     |ret=>exact fin g4
     |exit i=>
      dsimp only at g4;split at g4
      ·rename_i he;exact .inr ⟨ev he,fin g4⟩
      simp_all
    ·split at N
     ·rename_i he;exact .inr ⟨ev he,al1,σ1,U,⟨pre,e1⟩,W,N⟩
     simp_all
  ·
   rename_i T hJ;have bd:∀(k:Nat)(x:qI T.pl)(E:AL)(G:ar),Ext σ (cP T (dN a++dN rr) al σ x)->HS (T.pl++KR T.zs) σ (cP T (dN a++dN rr) al σ x)->(cP T (dN a++dN rr) al σ x).length=σ.length->Ref (dU T (dN a++dN rr) al σ x) (cP T (dN a++dN rr) al σ x) E G ->
     bF (λrec x=>tC g rr (2 * q+1) (dU T (dN a++dN rr) al σ x) (cP T (dN a++dN rr) al σ x) λex al1 σ1=>match ex with
      |.exit i => match Nat.beq i (2 * l + 1) with
       |true=>match FM T (dN a++dN rr) (dU T (dN a++dN rr) al σ x) (cP T (dN a++dN rr) al σ x) al1 σ1 with | some x'=>rec x' | none=>none
       |false=>match Nat.beq (i % 2) 0 with | true=>K (.exit i) al1 σ1 | false=>none
      |ex=>K ex al1 σ1) k x=some r->TO g.P rr l k g.n E G (rz al σ K r):=by
    intro k;induction k with
    |zero=>grind [bF]
    |succ k be=>
     intro x E G x1 x2 x3 x4 h;have B:=b0 _ _ _ _ _ E G (show tC g rr (2 * q+1) (dU T (dN a++dN rr) al σ x) (cP T (dN a++dN rr) al σ x) _=some r from h) x4;refine TO.succ (B.eQ λex a1 a2 hP=>.inl ?_);obtain ⟨al1,σ1,U,⟨pre,rfl⟩,W,N⟩:=hP;obtain ⟨ak,eA,_⟩:=qd T (dN a++dN rr) al σ x;have fin:∀{ex:ni},K ex (pre++dU T (dN a++dN rr) al σ x) σ1=some r->rz al σ K r ex a1 a2:=λN=>⟨_,σ1,U,⟨pre++ak,by simp_all⟩,Ext.trans S.hh x1 W,N⟩;cases ex with
     |normal=>exact fin N
     |ret=>exact fin N
     |exit i=>
      dsimp only at N;split at N
      ·rename_i hi;split at N
       ·rename_i xv hx;obtain ⟨ab,aC,bi,bk,w1,bu,bv,hx⟩:=zX x4 U W hx;obtain ⟨d1,d2,d3,d5,d4⟩:=qM hx;have av:=pr d1;obtain ⟨f1,f2,f3,ax,an,f4,f5⟩:=qz (md:=dN a++dN rr) S bu (λt q h=>by rw[eA,<-AX];exact yF h)
         (λt q m1 m2 m3 h=>qj (λy hy e=>(av y hy).elim (λz=>m1 (e▸z)) λ⟨b,i,l,lv,cv,z1,z2⟩=>let ⟨i,l,lv,cv,z3⟩:=zY x1 x3 z2;m3 b (e▸z1) i l lv cv z3) (DF x1 x3 m1 m2 m3 h)) (x2.trans (zdp x4.hh d2 bv)) d3 (by simp_all) d4
        refine .inl ⟨dd hi,ax,an,?_,be xv ax an f1 f2 f3 f5 N⟩;rw[x4.hh.len,x3];rw[x3] at w1;exact w1.trans f4
       simp_all
      ·split at N
       ·rename_i he;exact .inr ⟨ev he,fin N⟩
       simp_all
   refine Sem.Va g.N ((a9 _ _ _ _ _ alD σD h S).eQ λex bh a0 hP=>.inl ?_);obtain ⟨al1,σ1,U,⟨pre,rfl⟩,W,N⟩:=hP;have fin:∀{ex:ni},K ex (pre++al) σ1=some r->rz al σ K r ex bh a0:=λN=>⟨_,σ1,U,⟨pre,rfl⟩,W,N⟩;cases ex with
   |normal=>exact fin N
   |ret=>exact fin N
   |exit i=>
    dsimp only at N;split at N
    ·rename_i hi;split at N
     ·grind
     ·rename_i x0 hx;obtain ⟨ab,aC,bi,bk,w1,bu,bv,hx⟩:=zX S U W hx;obtain ⟨d1,d2,d3,d5,d4⟩:=qM hx;have av:=pr d1;obtain ⟨f1,f2,f3,ax,an,f4,f5⟩:=qz (md:=dN a++dN rr) S bu (λt q h=>yF h)
       (λt q m1 _ m3 h=>qj (λy hy e=>(av y hy).elim (λz=>m1 (e▸z)) λ⟨b,i,l,lv,cv,z1,z2⟩=>m3 b (e▸z1) i l lv cv z2) h) (zdp S.hh d2 bv) d3 d5 d4
      refine .inl ⟨dd hi,ax,an,?_,bd g.N x0 ax an f1 f2 f3 f5 N⟩;rw[S.hh.len];exact w1.trans f4
    ·split at N
     ·rename_i he;exact .inr ⟨ev he,fin N⟩
     simp_all
 |Bc os=>
  intro q al σ K r alD σD h S;simp only[tC] at h;split at h
  ·split at h
   ·rename_i hU;obtain ⟨oz,o1,_,o3⟩:=qL g q O hI 1000 0 os [] al σ _ r alD σD h (vm hU) S (λp b hk=>by grind [zV]) (λp b hk=>by grind [zV]);refine Sem.qR dD o1 (o3.mono λa s i hA=>?_);obtain ⟨ad,σ',is,U,h2,W,_,N⟩:=hA;exact ⟨ad,σ',U,h2,W,N⟩
   simp_all
  ·rename_i T hJ;split at h
   ·rename_i L u hz hU;obtain ⟨bb,a5,a8,Sz,⟨a6,eZ⟩,xZ⟩:=Qv T.os al L σ u alD σD hz S;refine Sem.Ao Sz ?_;have hR:=QX g q O hI T.zs os L u _ r bb a5 h (vm hU) a8;refine Sem.eQ (Sem.ofO (Q:=λx Z aa=>x=.normal/\∃ad σ',Ref ad σ' Z aa/\(∃pre,ad=pre++L)/\Ext u σ'/\Xi T.hs ad σ' (λad=>K .normal ad σ')=some r) (hR.mono λa s hs=>⟨rfl,hs⟩)) λx Z aa hA=>.inr ?_;obtain ⟨rfl,ad,σ',U,⟨pre,e1⟩,W,N⟩:=hA;obtain ⟨af,E,g1,g2,⟨ab,e2⟩,g4⟩:=refr_ok T.hs ad Z N U;exact ⟨E,aa,wG.lks (by rw[a8.hh.len,U.hh.len];exact W.len) g4,af,σ',g2,⟨ab++(pre++a6),by simp_all⟩,Ext.trans S.hh xZ W,g1⟩
   ·simp at h
 |Hb os cm k p=>
  intro q al σ K r alD σD h S;simp only[tC] at h;split at h
  ·simp at h
  rename_i hU;split at h
  ·obtain ⟨oz,o1,_,o3⟩:=qL g q O hI 1000 os.length os [] al σ _ r alD σD h (vm hU) S (λp b hk=>by grind [zV]) (λp b hk=>by grind [zV]);refine Sem.drwNQ dD o1 (o3.mono λa s i hA=>?_);obtain ⟨ad,σ',is,U,h2,W,h5,N⟩:=hA;dsimp only at N;split at N
   ·rename_i hc;simp only[bI] at hc ⊢;exact ⟨⟨⟨qC h5 hc.1.1,hc.1.2⟩,hc.2⟩,ad,σ',U,h2,W,N⟩
   simp_all
  split at h
  ·rename_i pi _ n0 hl;split at h
   ·rename_i hc;obtain ⟨oz,o1,_,o3⟩:=qL g q O hI 1000 n0 (oa pi os) [] al σ _ r alD σD h (vm hc) S (λp b hk=>by grind [zV]) (λp b hk=>by grind [zV]);refine Sem.drwG dD o1 hl (o3.mono λa s i hA=>?_);obtain ⟨ad,σ',is,U,h2,W,h5,N⟩:=hA;dsimp only at N;split at N
    ·rename_i hc;exact ⟨SJ h5 hc,ad,σ',U,h2,W,N⟩
    simp_all
   simp_all
  split at h
  ·obtain ⟨oz,o1,_,o3⟩:=qL g q O hI 1000 (Ve os) os [] al σ _ r alD σD h (vm hU) S (λp b hk=>by grind [zV]) (λp b hk=>by grind [zV]);refine Sem.drwCQ dD o1 (o3.mono λa s i hA=>?_);obtain ⟨ad,σ',is,U,h2,W,h5,N⟩:=hA;dsimp only at N;split at N
   ·rename_i hc;simp only[bI] at hc ⊢;exact ⟨⟨⟨qC h5 hc.1.1,hc.1.2⟩,hc.2⟩,ad,σ',U,h2,W,N⟩
   simp_all
  ·obtain ⟨oz,o1,_,o3⟩:=qL g q O hI 1000 k os [] al σ _ r alD σD h (vm hU) S (λp b hk=>by grind [zV]) (λp b hk=>by grind [zV]);refine Sem.drwQ dD o1 (o3.mono λa s i hA=>?_);obtain ⟨ad,σ',is,U,h2,W,h5,N⟩:=hA;dsimp only at N;split at N
   ·rename_i hc;simp only[bI] at hc ⊢;exact ⟨⟨⟨qC h5 hc.1.1,hc.1.2⟩,hc.2⟩,ad,σ',U,h2,W,N⟩
   simp_all
 |seq a b a9 a7=>
  intro q al σ K r alD σD h S;simp only[tC] at h;split at h
  ·
   have A:=a9 _ _ _ _ _ alD σD h S;refine Sem.jO (A.eQ λx Z aa hP=>.inl ?_);obtain ⟨al1,σ1,U,⟨pre,rfl⟩,W,N⟩:=hP;cases x with
   |normal=>refine .inl ((a7 _ _ _ _ _ Z aa N U).eQ λx E G hP=>.inl ?_);obtain ⟨af,aC,g1,⟨ab,rfl⟩,g3,g4⟩:=hP;exact ⟨_,aC,g1,⟨ab++pre,by simp_all⟩,Ext.trans S.hh W g3,g4⟩
   |exit i=>exact ⟨_,σ1,U,⟨pre,rfl⟩,W,N⟩
   |ret=>exact ⟨_,σ1,U,⟨pre,rfl⟩,W,N⟩
  ·
   rename_i T hJ;split at h
   ·simp at h
   rename_i L u hz;obtain ⟨⟨a6,eZ⟩,xZ,sZ⟩:=IZ (P:=g.P) (n:=g.n) (ac:=.seq a b) (Q:=rz al σ K r) T.os al L σ u alD σD hz S;refine sZ λbb a5 a8=>?_;have back:∀{x:ni}{Z:AL}{aa:ar},rz L u K r x Z aa->rz al σ K r x Z aa:=λ⟨al1,σ1,U,⟨pre,e⟩,W,N⟩=>⟨al1,σ1,U,⟨pre++a6,by simp_all⟩,Ext.trans S.hh xZ W,N⟩;refine Sem.eQ ?_ (λx ad σ' hP=>.inl (back hP));clear back sZ xZ eZ;replace S:=a8;have A:=a9 _ _ _ _ _ bb a5 (show tC g a (2 * q) L u _=some r from h) S;refine Sem.jO (A.eQ λx Z aa hP=>.inl ?_);obtain ⟨al1,σ1,U,⟨pre,rfl⟩,W,N⟩:=hP;cases x with
   |normal=>
    dsimp only at N;split at N
    ·rename_i xv hx;obtain ⟨pre,σ1,Z,aa,w1,U,W,hx⟩:=zX S U W hx;obtain ⟨c1,c2,c3,c5,c4⟩:=qM hx;have av:=pr c1;obtain ⟨e1,_,e3,E,G,e4,e5⟩:=qz (md:=dN a) S U (λt q h=>yF h) (λt q hm _ m3 h=>qj (λy hy e=>(av y hy).elim (λz=>hm (e▸z)) λ⟨b,i,l,lv,cv,z1,z2⟩=>m3 b (e▸z1) i l lv cv z2) h) (zdp S.hh c2 W) c3 c5 c4;refine .inr ⟨E,G,by rw[S.hh.len];exact w1.trans e4,(a7 _ _ _ _ _ E G N e5).eQ λx a1 a2 hP=>.inl ?_⟩;obtain ⟨af,aC,g1,⟨ab,rfl⟩,g3,g4⟩:=hP;obtain ⟨ak,eA,_⟩:=qd T (dN a) L u xv;exact ⟨_,aC,g1,⟨ab++ak,by simp_all⟩,Ext.trans S.hh e1 g3,g4⟩
    simp_all
   |exit i=>exact ⟨_,σ1,U,⟨pre,rfl⟩,W,N⟩
   |ret=>exact ⟨_,σ1,U,⟨pre,rfl⟩,W,N⟩
 |Vj o ps a b a9 a7=>
  intro q al σ K r alD σD h S;simp only[tC] at h;split at h
  ·simp at h
  rename_i T hJ;split at h
  ·simp at h
  rename_i L u hz;obtain ⟨⟨a6,eZ⟩,xZ,sZ⟩:=IZ (P:=g.P) (n:=g.n) (ac:=.Vj o ps a b) (Q:=rz al σ K r) T.os al L σ u alD σD hz S;refine sZ λbb a5 a8=>?_;have back:∀{x:ni}{Z:AL}{aa:ar},rz L u K r x Z aa->rz al σ K r x Z aa:=λ⟨al1,σ1,U,⟨pre,e⟩,W,N⟩=>⟨al1,σ1,U,⟨pre++a6,by simp_all⟩,Ext.trans S.hh xZ W,N⟩;refine Sem.eQ ?_ (λx ad σ' hP=>.inl (back hP));clear back sZ xZ eZ;replace S:=a8;clear a8 hz;split at h
  ·rename_i x0 p bw;obtain ⟨_,c2,c3,c5,c4⟩:=qM bw;obtain ⟨e1,e2,e3,E,G,e4,e5⟩:=qz (md:=[]) S S (λt q h=>⟨q,h⟩) (λt q _ _ _ h=>h) (zdp S.hh c2 (Ext.refl u)) c3 c5 c4;have hr:dC (cP T [] L u x0) E (Fu (dU T [] L u x0) [] none):=mJ e5 (λp b hk=>by grind [zV]) (by simp);split at h
   ·rename_i gf bc hc;obtain ⟨b4,_⟩:=hr.c hc (by simp);split at h
    ·rename_i w0 v0 i l s b5 b6 hb;simp only[bI] at hb;obtain ⟨hp,b7,b1⟩:=hb;have Nw:=hT.iter b6;unfold itF at h;split at h
     ·rename_i i' j f;split at h
      ·rename_i l' b8;obtain ⟨rfl,rfl⟩:=ZX b8;cases hf:f (l',()) with
       |none=>dsimp only at h;rw[hf] at h;simp at h
       |some items=>
       dsimp only at h;rw[hf] at h;simp only[aw] at h;have b9:=Nw l' items hf;have b2:∀{σ1:TH}{a0:ar},RH σ1 a0->HS (T.pl++KR T.zs) u σ1->a0[bc]? = some (.cells [.c (.cD false (l'.map (enc i)))]):=λ{σ1 a0} H hs=>by
        obtain ⟨ck,g1,w1,cg,rfl,g2,g3⟩:=hs bc _ b5;cases cg with
        |nil=>simp at g2
        |cons y ys=>
         have:ys=[]:=WX (by simpa using g2);subst this;have:=g3 0 _ _ rfl rfl λc hm=>by have:=iE.1 b1 _ hm;simp at this
         subst this;obtain ⟨ob,o1,o2⟩:=H.hp bc _ g1;rw[o1,show ob=_ from o2];rfl
       have bd:∀(items:List (TT j))(x:qI T.pl)(E:AL)(G:ar),Ext u (cP T [] L u x)->HS (T.pl++KR T.zs) u (cP T [] L u x)->(cP T [] L u x).length=u.length->Ref (dU T [] L u x) (cP T [] L u x) E G ->
         ZZ (λy x rec=>tC g a (2 * q) ((p,.v (.agg (exp j y)))::dU T [] L u x) (cP T [] L u x) λex al1 σ1=>match ex with
          |.normal => tC g b (2 * q + 1) al1 σ1 λex _ aC => match ex with
           |.normal=>match FM T [] (dU T [] L u x) (cP T [] L u x) (dU T [] L u x) aC with | some x'=>rec x' | none=>none
           |ex=>K ex (dU T [] L u x) aC
          |_=>none) (λx=>K .normal (dU T [] L u x) (cP T [] L u x)) items x=some r ->
         Rng g.P a b g.n [p] bc (.cD false (l'.map (enc i))) a5.length (rz L u K r) (items.map λa=>[ST (enc j a)]) E G:=by
        intro items;induction items with
        |nil=>intro x E G x1 x2 x3 x4 h;obtain ⟨ak,eA,_⟩:=qd T [] L u x;exact ⟨⟨b2 x4.hh x2,by rw[x4.hh.len,x3,S.hh.len]⟩,_,_,x4,⟨ak,eA⟩,x1,h⟩
        |cons y items be=>
         intro x E G x1 x2 x3 x4 h;obtain ⟨ak,eA,_⟩:=qd T [] L u x;refine ⟨⟨b2 x4.hh x2,by rw[x4.hh.len,x3,S.hh.len]⟩,?_⟩;have R1:Ref ((p,.v (.agg (exp j y)))::dU T [] L u x) (cP T [] L u x) (Ly [p] [ST (enc j y)] E) G:=x4.set x4.hh (Ext.refl _) (dr.DH (.st j) y) (CK (.st j) y);refine (a9 _ _ _ _ _ _ G (show tC g a (2 * q) ((p,.v (.agg (exp j y)))::dU T [] L u x) (cP T [] L u x) _=some r from h) R1).eQ λex a1 a2 hP=>.inl ?_;obtain ⟨al1,σ1,U,_,W,N⟩:=hP;cases ex with
         |normal=>
          refine ⟨rfl,(a7 _ _ _ _ _ a1 a2 (show tC g b (2 * q+1) al1 σ1 _=some r from N) U).eQ λex ax an hP=>.inl ?_⟩;obtain ⟨af,aC,g1,_,g3,g4⟩:=hP;have x5:Ext (cP T [] L u x) aC:=Ext.trans x4.hh W g3;have R4:Ref (dU T [] L u x) aC E an:=⟨g1.hh,λt v q hq=>let ⟨d,m1,m2,m3⟩:=x4.rg t v q hq;⟨d,m1,m2,m3.mono x5 []⟩⟩;cases ex with
          |normal=>
           dsimp only at g4;split at g4
           ·rename_i xv hx;obtain ⟨pre,co,bi,bk,w1,k1,k3,hx⟩:=zX (pre:=[]) x4 R4 x5 hx;obtain ⟨d1,d2,d3,d5,d4⟩:=qM hx;have av:=pr d1;obtain ⟨f1,f2,f3,bl,bt,f4,f5⟩:=qz (md:=[]) S k1 (λt q h=>by rw[eA,<-AX];exact yF h)
             (λt q m1 m2 m3 h=>qj (λy hy e=>(av y hy).elim (λz=>m1 (e▸z)) λ⟨b,i,l,lv,cv,z1,z2⟩=>let ⟨i,l,lv,cv,z3⟩:=zY x1 x3 z2;m3 b (e▸z1) i l lv cv z3) (DF x1 x3 m1 m2 m3 h)) (x2.trans (zdp x4.hh d2 k3)) d3 (by simp_all) d4
            exact ⟨bl,bt,by rw[S.hh.len];rw[x3] at w1;exact w1.trans f4,be xv bl bt f1 f2 f3 f5 g4⟩
           simp_all
          |exit i=>exact ⟨_,aC,R4,⟨ak,eA⟩,Ext.trans S.hh x1 x5,g4⟩
          |ret=>exact ⟨_,aC,R4,⟨ak,eA⟩,Ext.trans S.hh x1 x5,g4⟩
         |exit i=>simp at N
         |ret=>simp at N
       have ch:a5.length=G.length:=by rw[e5.hh.len,e3,S.hh.len]
       refine Sem.preW (by rw[S.hh.len];exact e4) (Sem.Vj (al:=E) (σ:=G) (by cases o <;> exact b4) b7 b9 (λds hd=>?_) (λp' b3=>?_) (ch▸bd items x0 E G e1 e2 e3 e5 h))
       ·obtain ⟨y,_,rfl⟩:=iP.1 hd;rfl
       ·simp only[zK] at b3;subst b3;exact tc.mp hp
      ·simp at h
     ·simp at h
    ·simp at h
   ·simp at h
  ·simp at h
 |cond c a b a9 a7=>
  intro q al σ K r alD σD h S;simp only[tC] at h;have hr:dC σ alD (Fu al [] none):=mJ S (λp b hk=>by grind [zV]) (by simp);split at h
  ·rename_i hc;obtain ⟨U,_⟩:=hr.c hc (by simp);exact Sem.cond (b:=true) (by cases c <;> exact U) (λ_=>a9 _ _ _ _ _ alD σD h S) (λe=>by simp at e)
  ·rename_i hc;obtain ⟨U,_⟩:=hr.c hc (by simp);exact Sem.cond (b:=false) (by cases c <;> exact U) (λe=>by simp at e) (λ_=>a7 _ _ _ _ _ alD σD h S)
  ·rename_i e hc;obtain ⟨U,_⟩:=hr.c hc (by simp);refine Sem.cond (b:=e) (by cases c <;> exact U) (λhe=>?_) (λhe=>?_)
   ·grind
   grind
  simp_all
 |block id b a7=>
  intro q al σ K r alD σD h S;simp only[tC] at h;refine Sem.block ((a7 _ _ _ _ _ alD σD h S).eQ λx Z aa hP=>.inl ⟨_,_,.refl,?_⟩);obtain ⟨al1,σ1,U,h2,W,N⟩:=hP;cases x with
  |normal=>exact ⟨al1,σ1,U,h2,W,N⟩
  |ret=>exact ⟨al1,σ1,U,h2,W,N⟩
  |exit i=>
   dsimp only at N;refine ⟨λe=>?_,λe=>?_⟩
   ·subst e;have:Nat.beq i i=true:=by simp
    rw[this] at N;exact ⟨al1,σ1,U,h2,W,N⟩
   ·have:Nat.beq i id=false:=by
     grind [Nat.eq_of_beq_eq_true]
    rw[this] at N;exact ⟨al1,σ1,U,h2,W,N⟩
 |loop b a7=>
  intro q al σ K r alD σD h S;simp only[tC] at h;split at h
  ·simp at h
  ·rename_i T hJ;split at h
   ·rename_i nu hu;refine Sem.loop nu ?_;have bd:∀(k:Nat)(af:TA)(aC:TH)(E:AL)(G:ar),(∃pre,af=pre++al)->Ext σ aC->Ref af aC E G ->
      lpU (λrec al σ=>tC g b (2 * q) al σ λex al1 σ1=>match ex with | .normal=>rec al1 σ1 | ex=>K ex al1 σ1) k af aC=some r->kU g.P b k g.n E G (rz al σ K r):=by
     intro k;induction k with
     |zero=>grind [lpU]
     |succ k be=>
      intro af aC E G x1 x2 x4 h;have B:=a7 _ _ _ _ _ E G (show tC g b (2 * q) af aC _=some r from h) x4;refine kU.succ (B.eQ (Q':=λx al1 σ1=>match x with | .normal=>∃af aC,Wk G.length al1 σ1 af aC/\kU g.P b k g.n af aC (rz al σ K r) | x=>∃af aC,Wk G.length al1 σ1 af aC/\rz al σ K r x af aC) λex a1 a2 hP=>.inl ?_);obtain ⟨al1,σ1,U,⟨pre,rfl⟩,W,N⟩:=hP;obtain ⟨ab,rfl⟩:=x1;cases ex with
      |normal=>exact ⟨_,_,.refl,be _ _ _ _ ⟨pre++ab,by simp_all⟩ (Ext.trans S.hh x2 W) U N⟩
      |exit i=>exact ⟨_,_,.refl,_,σ1,U,⟨pre++ab,by simp_all⟩,Ext.trans S.hh x2 W,N⟩
      |ret=>exact ⟨_,_,.refl,_,σ1,U,⟨pre++ab,by simp_all⟩,Ext.trans S.hh x2 W,N⟩
    exact bd nu al σ alD σD ⟨[],rfl⟩ (Ext.refl σ) S h
   split at h
   ·simp at h
   rename_i L u hz;obtain ⟨⟨a6,eZ⟩,xZ,sZ⟩:=IZ (P:=g.P) (n:=g.n) (ac:=.loop b) (Q:=rz al σ K r) T.os al L σ u alD σD hz S;refine sZ λbb a5 a8=>?_;have back:∀{x:ni}{Z:AL}{aa:ar},rz L u K r x Z aa->rz al σ K r x Z aa:=λ⟨al1,σ1,U,⟨pre,e⟩,W,N⟩=>⟨al1,σ1,U,⟨pre++a6,by simp_all⟩,Ext.trans S.hh xZ W,N⟩;refine Sem.eQ ?_ (λx ad σ' hP=>.inl (back hP));clear back sZ xZ eZ;replace S:=a8;clear a8 hz;split at h
   ·
    simp at h
   split at h
   ·simp at h
   ·rename_i x0 bw;obtain ⟨_,c2,c3,c5,c4⟩:=qM bw;obtain ⟨e1,e2,e3,E,G,e4,e5⟩:=qz (md:=dN b) S S (λt q h=>⟨q,h⟩) (λt q _ _ _ h=>h) (zdp S.hh c2 (Ext.refl u)) c3 c5 c4;refine Sem.loop g.N (kU.preW (by rw[S.hh.len];exact e4) ?_);have bd:∀(k:Nat)(x:qI T.pl)(E:AL)(G:ar),Ext u (cP T (dN b) L u x)->HS (T.pl++KR T.zs) u (cP T (dN b) L u x)->(cP T (dN b) L u x).length=u.length->Ref (dU T (dN b) L u x) (cP T (dN b) L u x) E G ->
      bF (λrec x=>tC g b (2 * q) (dU T (dN b) L u x) (cP T (dN b) L u x) λex al1 σ1=>match ex with
       |.normal=>match FM T (dN b) (dU T (dN b) L u x) (cP T (dN b) L u x) al1 σ1 with | some x'=>rec x' | none=>none
       |ex=>K ex al1 σ1) k x=some r->kU g.P b k g.n E G (rz L u K r):=by
     intro k;induction k with
     |zero=>grind [bF]
     |succ k be=>
      intro x E G x1 x2 x3 x4 h;have B:=a7 _ _ _ _ _ E G (show tC g b (2 * q) (dU T (dN b) L u x) (cP T (dN b) L u x) _=some r from h) x4;refine kU.succW (B.eQ λex a1 a2 hP=>.inl ?_);obtain ⟨al1,σ1,U,⟨pre,rfl⟩,W,N⟩:=hP;obtain ⟨ak,eA,_⟩:=qd T (dN b) L u x;cases ex with
      |normal=>
       dsimp only at N;split at N
       ·rename_i xv hx;obtain ⟨pre,σ1,a1,a2,w1,U,W,hx⟩:=zX x4 U W hx;obtain ⟨d1,d2,d3,d5,d4⟩:=qM hx;have av:=pr d1;obtain ⟨f1,f2,f3,ax,an,f4,f5⟩:=qz (md:=dN b) S U (λt q h=>by rw[eA,<-AX];exact yF h)
         (λt q m1 m2 m3 h=>qj (λy hy e=>(av y hy).elim (λz=>m1 (e▸z)) λ⟨b,i,l,lv,cv,z1,z2⟩=>let ⟨i,l,lv,cv,z3⟩:=zY x1 x3 z2;m3 b (e▸z1) i l lv cv z3) (DF x1 x3 m1 m2 m3 h)) (x2.trans (zdp x4.hh d2 W)) d3 (by simp_all) d4
        exact ⟨ax,an,by rw[x4.hh.len,x3];rw[x3] at w1;exact w1.trans f4,be xv ax an f1 f2 f3 f5 N⟩
       simp_all
      |exit i=>exact ⟨_,σ1,U,⟨pre++ak,by simp_all⟩,Ext.trans S.hh x1 W,N⟩
      |ret=>exact ⟨_,σ1,U,⟨pre++ak,by simp_all⟩,Ext.trans S.hh x1 W,N⟩
    exact bd g.N x0 E G e1 e2 e3 e5 h
theorem zip_ok:∀(cs:List dr)(a:rS cs)(i t:Nat)(x:RV)(p:Nat),iC t (AU i (tvV cs a))=some (x,p)->∃d v,x=.v v/\lk t (jX i (sW cs a))=some d/\RT v d/\GV [] v:=by
 intro cs;induction cs with
 |nil=>grind [tvV,AU,iC]
 |cons c cs ih=>
  intro a i t x p h;simp only[tvV,AU,iC] at h;simp only[sW,jX,lk];split at h
  ·rename_i hb;simp only[au,aS] at h
   try rw[hb]
   exact ⟨_,_,h.1.symm,rfl,c.DH a.1,CK c a.1⟩
  simp_all
theorem Zk:∀(cs:List dr)(a:rS cs),(sW cs a).length=cs.length:=by
 intro cs;induction cs with
 |nil=>intro a;rfl
 |cons c cs ih=>grind [sW]
theorem resT_ok{al:TA}{σ:TH}{alD:AL}{σD:ar}(e:Ref al σ alD σD){q:Nat×Option (Option Nat)}{v:TV}(h:Fy al σ q=some v):∃d,oI alD σD q=some d/\RT v d/\GV σ v:=by
 obtain ⟨t,o⟩:=q;cases o with
 |none=>
  simp only[Fy] at h;split at h
  ·rename_i x f;simp only[au] at h;subst h;obtain ⟨p,a⟩:=jE f;obtain ⟨d,g,i,j⟩:=e.rg t _ p a;exact ⟨d,g,i,j⟩
  simp_all
 |some m=>
  simp only[Fy] at h;split at h
  ·rename_i b off sz f;obtain ⟨p,a⟩:=jE f;obtain ⟨d,g,i,_⟩:=e.rg t _ p a;have:=RT.c1 (by simp) i;subst this;split at h
   ·rename_i w l hb;obtain ⟨ds,j,r,A,_⟩:=e.hh.cells hb;split at h
    ·rename_i hs;obtain ⟨d,u,z⟩:=zB h r;refine ⟨d,?_,z,p_ h λy k=>?_⟩
     ·simp only[oI,g,TC.er];rw[OK j (sz:=sz) (by simp_all),aw];exact u
     ·rw[iP] at k;obtain ⟨p,a,rfl⟩:=k;exact (e.hh.hg b w l hb p a).1
    simp_all
   simp_all
  simp_all
theorem Ju{al:TA}{σ:TH}{alD:AL}{σD:ar}(f:Ref al σ alD σD):∀{e:List (Nat×Option (Option Nat))}{vs:List TV},FI (Fy al σ) e=some vs->∃ds,e.mapM (oI alD σD)=some ds/\fU vs ds/\∀v∈vs,GV σ v:=by
 intro e;induction e with
 |nil=>intro vs h;simp only[FI,au] at h;subst h;exact ⟨[],rfl,.nil,by simp⟩
 |cons q e ih=>
  intro vs h;simp only[FI] at h;split at h
  ·rename_i a b g i;simp only[au] at h;subst h;obtain ⟨d,l,j,o⟩:=resT_ok f g;obtain ⟨ds,p,k,r⟩:=ih i;refine ⟨d::ds,?_,.cons j k,λv t=>?_⟩
   ·simp_all
   grind
  simp_all
theorem outs_ok{σ:TH}{σD:ar}(H:RH σ σD):∀{cs:List dr}{vs:List TV}{ds:List D}{r:lB cs},wT σ cs vs=some r->fU vs ds->(∀v∈vs,GV σ v)->∃es,ds.mapM (oj σD 0 100)=some es/\es.map Ca=sQ cs r/\(∀d,ds=[d]->vF σD 0 100 d=oj σD 0 100 d):=by
 intro cs;induction cs with
 |nil=>
  intro vs ds r h a g;cases a with
  |nil=>exact ⟨[],rfl,rfl,λd e=>by simp at e⟩
  |cons _ _=>grind [wT]
 |cons c cs ih=>
  intro vs ds r h a g;cases a with
  |nil=>grind [wT]
  |cons f a=>
   rename_i v d vs ds;cases cs with
   |nil=>
    cases a with
    |nil=>
     simp only[wT] at h;obtain ⟨b,i,j,k⟩:=OT H (g v (by simp)) f h;refine ⟨[b],by simp_all,by grind [sQ],λl e=>?_⟩
     simp_all
    |cons _ _=>grind [wT]
   |cons u cs=>
    cases a with
    |nil=>grind [wT]
    |cons o a=>
     simp only[wT] at h;split at h
     ·rename_i x y p q;simp only[au] at h;subst h;obtain ⟨b,i,j,k⟩:=OT H (g v (by simp)) f p;obtain ⟨es,z,A,_⟩:=ih q (.cons o a) λv t=>g v (nS _ t);refine ⟨b::es,by simp_all,by grind [sQ],λl e=>by simp at e⟩
     simp_all
theorem tF_ok{P:Program}{S:sC}{B:dh}{l:DL}{H:List (Nat×Nat)}{J:List (Nat×JH)}{C:List (Nat×List CT)}{u:Nat}{g:FuncId}{fn:Func}{j:kN}{e out:List dr}{N:Nat}{a:rS e}{r:lB out}(dD:P.follows .mixedOrders=true)(hS:ff P S)
  (hg:P.funcs[g]? = some fn) (y:aU P g=true) (hc:il P fn true=some j) (hI:QT ⟨P,S,H,J,C,j.ntmps,N,(PL P S N B l u).1,(PL P S N B l u).2,l⟩) (hn:Nat.ble e.length j.ntmps=true) (h:tF P S B l H J C u j e out N a=some r):Pure P g (sW e a) (rL out r):=by
 refine uq hg y hc (by rw[Zk];simp_all) ?_;have R0:Ref (AU 0 (tvV e a)) [] (jX 0 (sW e a)) []:=⟨⟨rfl,λb blk h=>by simp at h,λb w cs h=>by simp at h⟩,λt x p h=>by obtain ⟨d,v,rfl,G,z,K⟩:=zip_ok e a 0 t x p h;exact ⟨d,G,z,K⟩⟩
 refine (Za ⟨P,S,H,J,C,j.ntmps,N,(PL P S N B l u).1,(PL P S N B l u).2,l⟩ dD hS hI j.body 1 _ _ _ r _ _ h R0).eQ λx A f hP=>.inl ?_;obtain ⟨L,σ',G,_,_,z⟩:=hP;have fin:(match FI (Fy L σ') j.results with | some rs=>wT σ' out rs | none=>none)=some r->∃E o,j.results.mapM (oI A f)=some E/\vF f 0 100 (one E)=some o/\ED o (rL out r):=by
  intro z;split at z
  ·rename_i rs O;obtain ⟨ds,K,h4,h5⟩:=Ju G O;obtain ⟨U,q,h7,h8⟩:=outs_ok G.hh z h4 h5;have W:U.length=ds.length:=(JY q).1;have k:one ds=.aT ds->one (sQ out r)=.aT (sQ out r)->∃o,vF f 0 100 (one ds)=some o/\ED o (rL out r):=λR Z=>by
    rw[R];refine ⟨.aT U,frz_tup q,ED.PK ?_⟩
    grind [Tp,rL]
   have T:(sQ out r).length=ds.length:=by grind
   cases ds with
   |nil=>
    obtain ⟨o,R,Z⟩:=k rfl (by have:sQ out r=[]:=WX T;rw[this];rfl)
    simp_all
   |cons d ds=>
    cases ds with
    |nil=>
     have e3:=h8 d rfl;rw[Uq] at q;cases h9:oj f 0 100 d with
     |none=>simp_all
     |some d'=>
      rw[h9] at q;simp only[List.mapM_nil] at q;cases q;refine ⟨[d],d',K,by rw[<-h9];exact e3,?_⟩;have e4:rL out r=Ca d':=by unfold rL;rw[<-h7];rfl
      rw[e4];intro σ M Fz w v hv;exact Eo hv
    |cons d2 ds=>
     obtain ⟨o,R,Z⟩:=k rfl (by
      cases ho:sQ out r with
      |nil=>simp_all
      |cons o1 os=>
       cases os with
       |nil=>simp_all
       |cons o2 os=>rfl)
     simp_all
  simp_all
 cases x with
 |exit i=>grind
 |normal=>grind
 |ret=>grind
theorem ff.nil{P:Program}:ff P []:=λp i=>by grind
theorem ff.cons{P:Program}{g:Nat}{s:bJ}{S:sC}(h:bQ P g s)(j:ff P S)(hl:Nat.blt g 1048576=true:=by rfl):ff P ((g,s)::S):=by
 intro p i;rcases gu.1 i with rfl | i
 ·exact ⟨λ_=>h,λe=>by rw[hl] at e;cases e⟩
 ·exact j p i
theorem ff.it{P:Program}{g:Nat}{s:bJ}{S:sC}(h:WA P g s)(j:ff P S):ff P ((g+1048576,s)::S):=by
 intro p i;rcases gu.1 i with rfl | i
 ·exact ⟨λe=>by have:=tc.mp e;dsimp only at this;omega,λ_=>by simpa using h⟩
 ·exact j p i
end
end Go.Abs
end
section
namespace Go.Abs
noncomputable section
variable[Gl][Y:Ty]
section
variable{m:Nat}{σ1 aC:ar}{ρ:Nat->Nat}{F:Nat->Prop}
theorem pH{P:Program}{g:FuncId}{fn:Func}{j:kN}{fz:Bool}{ds:List D}{r:D}{σ:ar}(hg:P.funcs[g]? = some fn)(u:il P fn fz=some j)(y:ds.length<=j.ntmps)
  (h:Sem P j.body j.ntmps (jX 0 ds) σ λx al σ1=>(x=.normal\/x=.ret)/\∃a ρ F,j.results.mapM (oI al σ1)=some a/\Rz σ.length σ1 aC ρ F/\(∀b,F b->σ.length<=b)/\du σ1 aC ρ F (one a) r):Ok P g ds σ r aC:=by
 unfold il at u;split at u
 ·rename_i c hb;split at u
  ·rename_i ac rs h1 h2;simp only[au] at u;subst u;dsimp only at h y;intro M Fz w i R hs G;refine mH hg hb ?_;have A0:dX fn.ntmps σ M Fz w (jX 0 ds) (i++Array.replicate (fn.ntmps-i.size) undef):=by
    refine ⟨by simp_all,λt d K=>?_⟩;obtain ⟨_,h3⟩:=Ez ds 0 t d K;rw[yC2] at h3;have L:t<i.size:=by grind
    exact ⟨i[t],by grind,G t d _ h3 (qo L)⟩
   refine Le (h c h1 M Fz w { tmps:=i++Array.replicate (fn.ntmps-i.size) undef,defers:=[] } _ R A0 λx e σ' a' w' M' Fz' hQ hd R' E EV hl=>?_);obtain ⟨hx,a,ρ,F,hm,hN,hF,N⟩:=hQ;have O:rs.mapM (Ls (wV fn.ntmps e) σ')=some a:=by
    have aa:∀(l:List (Nat×Option (Option Nat))) a,l.mapM (oI e σ')=some a->l.mapM (Ls (wV fn.ntmps e) σ')=some a:=by
     intro l;induction l with
     |nil=>simp_all
     |cons p l ih=>
      intro a h;rw[Uq] at h ⊢;cases z:oI e σ' p with
      |none=>simp_all
      |some d=>
       rw[z] at h;have:Ls (wV fn.ntmps e) σ' p=some d:=by
        obtain ⟨t,o⟩:=p;cases o with
        |none=>exact E.c_.2.2 t d z
        |some k=>
         simp only[oI] at z;split at z
         ·rename_i b off sz S;simp only[Ls,E.c_.2.2 t _ S];exact z
         simp_all
       rw[this];cases hr:l.mapM (oI e σ') with
       |none=>simp_all
       |some q=>simp_all
    simp_all
   have T:yk x=.normal\/yk x=.ret:=by rcases hx with rfl | rfl <;> simp[yk]
   refine ⟨T,Mk.end hd R' EV λw'' f A mv=>?_⟩;have U:dX fn.ntmps σ' M' Fz' w'' e a'.tmps:=⟨E.1,λt d K=>by obtain ⟨v,q1,q2⟩:=E.2 t d K;exact ⟨v,q1,mv d v q2⟩⟩
   obtain ⟨v,W,Z⟩:=iT (P:=P) f U.c_.1 h2 O;exact ⟨v,W,v,_,_,rfl,hN.rel f,N M' Fz' w'' v f Z,hN.evo (cO _) hF R f A⟩
  simp_all
 simp_all
end
end
end Go.Abs
end
section
namespace Go.Abs
noncomputable section
variable[Gl][Y:Ty]
theorem CU{c:It}{d:kl}{a:c.dn}(h:kI c d=some a):d=⟨c,a⟩:=by
 unfold kI at h;split at h
 ·rename_i e _;simp only[au] at h;obtain ⟨it,v⟩:=d
  grind
 simp_all
theorem E_(c:It)(a:c.dn):kI c ⟨c,a⟩=some a:=by
 unfold kI;split
 ·rfl
 grind
theorem W_:∀{cs:List It}{ds:List kl}{x:dB cs},ui cs ds=some x->dO cs x=ds:=by
 intro cs;induction cs with
 |nil=>
  intro ds x h;cases ds with
  |nil=>rfl
  |cons d ds=>grind [ui]
 |cons c cs ih=>
  intro ds x h;cases cs with
  |nil=>
   cases ds with
   |nil=>grind [ui]
   |cons d ds=>
    cases ds with
    |nil=>grind [ui,dO,CU]
    |cons _ _=>grind [ui]
  |cons a cs=>
   cases ds with
   |nil=>grind [ui]
   |cons d ds=>grind [ui,dO,CU]
structure SR (σs aC:TH):Prop where
 len:aC.length=σs.length
 row:∀(b:Nat) i (l:List (TT i)) lv cv,σs[b]? = some (.row i l lv cv)->aC[b]? = some (.row i l lv cv)
def GS(σs:TH):TC->Prop
 |.own i b v n=>∃(l:List (TT i))(a:Nat),σs[b]? = some (.row i l v a)/\n=l.length
 |.d x=>x.low σs.length=true
 |.any=>False
 |.op ..=>False
 |.ap ..=>False
 |.os ..=>False
 |.Fx ..=>False
 |_=>True
theorem GS.gc{σs aC:TH}(h:SR σs aC){x:TC}(g:GS σs x):GC aC x:=by
 cases x with
 |own i b v n=>
  obtain ⟨l,o,u,A⟩:=g;refine ⟨_,h.row b i l v o u,λj E G z e=>?_⟩
  grind
 |d x=>show D.low _ _=true;rw[h.len];exact g
 |any=>exact g.elim
 |op=>exact g.elim
 |ap=>exact g.elim
 |os=>exact g.elim
 |Fx=>exact g.elim
 |_=>trivial
theorem Jh(σs:TH)(c:CC)(a:c.dn):GS σs (rZ c a):=by cases c <;> first | exact True.intro | rfl
theorem PV{σs:TH}{p:CP}{ds r:List kl}{y:TC}(h:s_ σs p ds=some (y,r)):GS σs y:=by
 unfold s_ at h;split at h
 ·grind [Jh]
 ·split at h
  ·simp only[au,aS] at h;obtain ⟨rfl,_⟩:=h;trivial
  simp_all
 ·split at h
  ·simp only[au,aS] at h;obtain ⟨rfl,_⟩:=h;trivial
  simp_all
 ·split at h
  ·rename_i i l b a hb;simp only[au,aS] at h;obtain ⟨rfl,_⟩:=h;exact ⟨l,a,hb,rfl⟩
  simp_all
 ·split at h
  ·rename_i hb;simp only[au,aS] at h;obtain ⟨rfl,_⟩:=h;show D.low _ _=true;simp only[D.low,bz];simp_all
  simp_all
 ·split at h
  ·rename_i hb;simp only[au,aS] at h;obtain ⟨rfl,_⟩:=h;show D.low _ _=true;simp only[D.low,bz];simp_all
  simp_all
 ·split at h
  ·rename_i hb;simp only[au,aS] at h;obtain ⟨rfl,_⟩:=h;show D.low _ _=true;simp only[D.low,D.low.cU,yC7,NP,bz];simp_all
  simp_all
 ·split at h
  ·rename_i hb;simp only[au,aS] at h;obtain ⟨rfl,_⟩:=h;exact D.eE (PF _) hb
  simp_all
 simp_all
theorem RN{σs:TH}:∀{ps:List CP}{ds r:List kl}{a:List TC},yT σs ps ds=some (a,r)->∀y∈a,GS σs y:=by
 intro ps;induction ps with
 |nil=>grind [yT]
 |cons p ps ih=>grind [yT,PV]
theorem RH.mk'{σ:TH}(i:∀(b:Nat) w cs,σ[b]? = some (.cells w cs)->∀p∈cs,GC σ p.2/\p.1<=w):RH σ (σ.map TB.er):=⟨by simp,λb blk hb=>⟨blk.er,by simp_all,rfl⟩,i⟩
structure xP (ps:List PC) (σ iF:TH):Prop where
 ext:Ext σ iF
 len:iF.length=σ.length
 cells:∀(b:Nat) w cs,σ[b]? = some (.cells w cs)↔iF[b]? = some (.cells w cs)
 out:∀b,b∉ps.map PC.blk->iF[b]? = σ[b]?
 row:ps.any PC.rs=false->∀(b:Nat) i (l:List (TT i)) lv cv,σ[b]? = some (.row i l lv cv)->iF[b]? = some (.row i l lv cv)
 rh:∃σD',RH iF σD'
theorem gK:∀{ps:List PC}{σ o:TH}{σD:ar}{ds r:List kl},b_ σ ps ds=some (o,r)->RH σ σD->xP ps σ o:=by
 intro ps;induction ps with
 |nil=>intro σ o σD ds r h H;simp only[b_,au,aS] at h;obtain ⟨rfl,_⟩:=h;exact ⟨Ext.refl σ,rfl,λb w f=>Iff.rfl,λb _=>rfl,λ_ b i l q t h=>h,⟨σD,H⟩⟩
 |cons p ps ih=>
  intro σ o σD ds r h H;have one:∀(b:Nat)(blk a:TB)(x:List kl),σ[b]? = some blk->BE blk a->(∀w f,blk≠.cells w f)->(∀w f,a≠.cells w f)->p.blk=b->(p.rs=false->∀i (l:List (TT i)) q t,blk≠.row i l q t)->b_ (σ.set b a) ps x=some (o,r)->xP (p::ps) σ o:=by
   intro b blk a x hb A R y E S h;have H1:RH (σ.set b a) (σD.set b a.er):=H.set hb A rfl (λw f e=>absurd e (y w f));have e:=ih h H1;refine ⟨Ext.trans H (Ext.set hb A) e.ext,by rw[e.len];simp,λu w f=>?_,λu g=>?_,λk u i l q t T=>?_,e.rh⟩
   ·rw[<-e.cells]
    grind
   ·simp only[ql,gu,not_or,E] at g;rw[e.out u g.2,TR g.1]
   ·simp only[List.any_cons,Bool.or_eq_false_iff] at k;refine e.row k.2 u i l q t ?_
    grind
  cases p with
  |h b j p=>simp only[b_] at h;have e:=ih h H;exact ⟨e.ext,e.len,e.cells,λu g=>e.out u (λG=>g (nS _ G)),λk=>e.row (by simp_all),e.rh⟩
  |w b i=>
   cases ds with
   |nil=>grind [b_]
   |cons d ds=>
    simp only[b_] at h;split at h
    ·rename_i l j K q t L z;split at h
     ·rename_i N;have:=dd N;subst this;exact one b _ _ ds z ⟨l,_,_,rfl,by omega,by omega,λe=>by omega,λe=>by omega⟩ (λw f e=>by simp at e) (λw f e=>by simp at e) rfl (λe=>by grind [PC.rs]) h
     simp_all
    simp_all
  |m b j st=>
   cases ds with
   |nil=>grind [b_]
   |cons d ds=>
    simp only[b_] at h;split at h
    ·rename_i l U O K v L z;exact one b _ _ ds z ⟨_,_,_,_,rfl,by omega,λe=>by omega⟩ (λw f e=>by simp at e) (λw f e=>by simp at e) rfl (λ_ i l q t e=>by simp at e) h
    simp_all
theorem Dl:∀{a:List NB}{ds r:List kl}{l:TH},dv a ds=some (l,r)->l.length=a.length:=by
 intro a;induction a with
 |nil=>grind [dv]
 |cons nb a ih=>
  intro ds r l h;cases nb with
  |cells b=>grind [dv]
  |row i=>
   cases ds with
   |nil=>grind [dv]
   |cons d ds=>grind [dv]
  |mp j st=>
   cases ds with
   |nil=>grind [dv]
   |cons d ds=>grind [dv]
theorem zE{σs:TH}:∀{a:List NB}{e l:TH}{ds:List kl},dK σs a e ds=some l->l.length=a.length/\(∀(k:Nat) i (r:List (TT i)) f g,e[k]? = some (.row i r f g)->k<a.length->(∀ps,a[k]?≠some (.cells ps))->l[k]? = some (.row i r f g)) /\
  (∀(k:Nat) w cs,l[k]? = some (.cells w cs)->(∃w' d,e[k]? = some (.cells w' d)/\cs=d/\w=w')\/∀p∈cs,GS σs p.2/\p.1<=w):=by
 intro a;induction a with
 |nil=>intro e l ds h;simp only[dK,au] at h;simp_all
 |cons nb a ih=>
  intro e l ds h;cases e with
  |nil=>grind [dK]
  |cons b e=>
   have q:∀o,dK σs a e ds=some o->l=b::o->l.length=(nb::a).length/\(∀(k:Nat) i (r:List (TT i)) f g,(b::e)[k]? = some (.row i r f g)->k<(nb::a).length->(∀ps,(nb::a)[k]?≠some (.cells ps))->l[k]? = some (.row i r f g)) /\
     (∀(k:Nat) w cs,l[k]? = some (.cells w cs)->(∃w' d,(b::e)[k]? = some (.cells w' d)/\cs=d/\w=w')\/∀p∈cs,GS σs p.2/\p.1<=w):=by
    grind
   cases nb with
   |row i=>
    simp only[dK] at h
    grind
   |mp j st=>
    simp only[dK] at h
    grind
   |cells ps=>
    simp only[dK] at h;split at h
    ·rename_i A r u;split at h
     ·rename_i o v;simp only[au] at h;subst h;obtain ⟨y,E,G⟩:=ih v;refine ⟨by simp[y],λk i r f g hk hl K=>?_,λk w cs hk=>?_⟩
      ·grind
      ·cases k with
       |zero=>simp only[wR,au,TB.cells.injEq] at hk;obtain ⟨rfl,rfl⟩:=hk;refine .inr λp t=>?_;rw[iP] at t;obtain ⟨x,z,rfl⟩:=t;exact ⟨RN u x z,cO _⟩
       |succ k=>grind
     simp_all
    simp_all
theorem yo:∀{a:List NB}{ds r:List kl}{l:TH},dv a ds=some (l,r)->∀(k:Nat),(∀w cs,l[k]? = some (.cells w cs)->cs=[])/\(∀ps,a[k]? = some (.cells ps)->l[k]? = some (.cells 0 [])):=by
 intro a;induction a with
 |nil=>grind [dv]
 |cons nb a ih=>
  intro ds r l h k;cases nb with
  |cells ps=>
   simp only[dv] at h
   grind
  |row i=>
   cases ds with
   |nil=>grind [dv]
   |cons d ds=>grind [dv]
  |mp j st=>
   cases ds with
   |nil=>grind [dv]
   |cons d ds=>grind [dv]
structure QL (σs:TH) (ps:List PC) (σ σ':TH):Prop where
 len:σ'.length=σ.length
 same:∀(b:Nat) blk,σ[b]? = some blk->(∀w cs,blk≠.cells w cs)->σ'[b]? = some blk
 fwd:∀(b:Nat) w cs,σ[b]? = some (.cells w cs)->∃w' cs',σ'[b]? = some (.cells w' cs')/\w<=w'/\cs'.length=cs.length/\∀(j:Nat) v1 x1,cs'[j]? = some (v1,x1)->cs[j]? = some (v1,x1)\/(w<v1/\v1<=w'/\GS σs x1)
 out:∀b,b∉ps.map PC.blk->σ'[b]? = σ[b]?
theorem kV{σs:TH}:∀{ps:List PC}{σ σ':TH}{ds r:List kl},dP σs ps σ ds=some (σ',r)->QL σs ps σ σ':=by
 intro ps;induction ps with
 |nil=>intro σ σ' ds r h;simp only[dP,au,aS] at h;obtain ⟨rfl,_⟩:=h;exact ⟨rfl,λb blk h _=>h,λb w k h=>⟨w,k,h,cO _,rfl,λj y z e=>.inl e⟩,λb _=>rfl⟩
 |cons p ps ih=>
  intro σ σ' ds r h;have skip:dP σs ps σ ds=some (σ',r)->QL σs (p::ps) σ σ':=λh=>by have e:=ih h;exact ⟨e.len,e.same,e.fwd,λb hb=>e.out b λo=>hb (nS _ o)⟩
  cases p with
  |w b i=>grind [dP]
  |m b j st=>grind [dP]
  |h b j p=>
   simp only[dP] at h;split at h
   ·rename_i x A w k q l;have g:=PV q;have e:=ih h;refine ⟨by rw[e.len];simp,λa blk hb t=>?_,λa u d hb=>?_,λa hb=>?_⟩
    ·refine e.same a blk ?_ t
     grind
    ·by_cases f:a=b
     ·subst f;rw[l] at hb;simp only[au,TB.cells.injEq] at hb;obtain ⟨rfl,rfl⟩:=hb;obtain ⟨w2,v,E,G,K,L⟩:=e.fwd a _ _ (FV l)
      grind
     ·exact e.fwd a u d (by grind)
    ·simp only[ql,gu,not_or,PC.blk] at hb;rw[e.out a hb.2,TR hb.1]
   simp_all
def eD:TV->D
 |.c x=>x.er
 |.agg a=>.agg (a.map TC.er)
 |.aT _=>.aT []
def nT:TV->Prop
 |.aT _=>False
 |_=>True
def GVs(σs:TH):TV->Prop
 |.c x=>GS σs x
 |.agg a=>∀x∈a,GS σs x
 |.aT _=>False
theorem GS.fp(σs:TH)(i:Nat)(a:TT i):GS σs (.fp i a 0):=True.intro
theorem exp_gs(σs:TH)(i:Nat)(a:TT i):∀y∈exp i a,GS σs y:=by
 have d:∀(b:List CC)(x:aT b),∀y∈uw b x,GS σs y:=by
  intro b;induction b with
  |nil=>grind [uw]
  |cons c b ih=>grind [uw,Jh]
 exact d _ _
theorem pRO_gs{σs:TH}{p:RO}{ds r:List kl}{v:TV}(h:yz σs p ds=some (v,r)):GVs σs v:=by
 unfold yz at h;split at h
 ·split at h
  ·simp only[au,aS] at h;obtain ⟨rfl,_⟩:=h;exact Jh σs _ _
  simp_all
 ·split at h
  ·simp only[au,aS] at h;obtain ⟨rfl,_⟩:=h;exact exp_gs σs _ _
  simp_all
 ·split at h
  ·simp only[au,aS] at h;obtain ⟨rfl,_⟩:=h;exact True.intro
  simp_all
 ·split at h
  ·rename_i x b a;simp only[au,aS] at h;obtain ⟨rfl,_⟩:=h;exact PV a
  simp_all
 ·split at h
  ·rename_i d b a;simp only[au,aS] at h;obtain ⟨rfl,_⟩:=h;exact RN a
  simp_all
 simp_all
theorem IQ{σs:TH}:∀{ps:List RO}{ds r:List kl}{vs:List TV},ky σs ps ds=some (vs,r)->∀v∈vs,GVs σs v:=by
 intro ps;induction ps with
 |nil=>grind [ky]
 |cons p ps ih=>grind [ky,pRO_gs]
theorem GVs.gv{σs aC:TH}(h:SR σs aC){v:TV}(g:GVs σs v):GV aC v:=by
 cases v with
 |c x=>exact GS.gc h g
 |agg i=>exact λx j=>GS.gc h (g x j)
 |aT i=>exact g.elim
theorem GVs.nt{σs:TH}{v:TV}(g:GVs σs v):nT v:=by
 cases v with
 |aT i=>exact g.elim
 |_=>trivial
theorem RT.eD{v:TV}(h:nT v):RT v (eD v):=by
 cases v with
 |c x=>exact .inr rfl
 |agg i=>exact ⟨_,rfl,aK.er i⟩
 |aT i=>exact h.elim
theorem Sd{vs:List TV}(h:∀v∈vs,nT v):RT (vI vs) (one (vs.map Go.Abs.eD)):=by
 have aT:∀(vs:List TV),(∀v∈vs,nT v)->aK RE (vs.map teT) (vs.map Go.Abs.eD):=by
  intro vs;induction vs with
  |nil=>intro _;exact .nil
  |cons v vs ih=>
   intro h;refine .cons ?_ (ih λv b=>h v (nS _ b));have:=h v (rJ ..);cases v with
   |c x=>exact ⟨x,rfl,.inr rfl⟩
   |agg a=>exact ⟨_,rfl,aK.er a⟩
   |aT a=>exact this.elim
 cases vs with
 |nil=>exact ⟨[],rfl,.nil⟩
 |cons v vs=>
  cases vs with
  |nil=>exact RT.eD (h v (rJ ..))
  |cons d vs=>exact ⟨_,rfl,aT _ h⟩
theorem QB{σ:TH}{vs:List TV}(h:∀v∈vs,GV σ v):GV σ (vI vs):=by
 have aT:∀(vs:List TV),(∀v∈vs,GV σ v)->GV σ (.aT (vs.map teT)):=by
  intro vs h p b x a;rw[iP] at b;obtain ⟨v,d,rfl⟩:=b;have:=h v d;cases v with
  |c y=>simp only[teT,gu,Ms,MK] at a;subst a;exact this
  |agg e=>exact this x a
  |aT e=>grind [teT]
 cases vs with
 |nil=>exact aT _ h
 |cons v vs=>
  cases vs with
  |nil=>exact h v (rJ ..)
  |cons f vs=>exact aT _ h
theorem MH:∀{ps:List PC}{σ f:TH}{ds r:List kl},b_ σ ps ds=some (f,r)->∀p∈ps,(∃b i,p=.w b i)\/(∃b j st,p=.m b j st)->p.blk<σ.length:=by
 intro ps;induction ps with
 |nil=>simp_all
 |cons p ps ih=>
  intro σ f ds r h q a t;cases p with
  |h b j c=>grind [b_]
  |w b i=>
   cases ds with
   |nil=>grind [b_]
   |cons d ds=>
    simp only[b_] at h;split at h
    ·rename_i l j g u x k e;split at h
     ·rcases gu.1 a with rfl | a
      ·exact (eY.1 e).1
      grind
     simp_all
    simp_all
  |m b j st=>
   cases ds with
   |nil=>grind [b_]
   |cons d ds=>
    simp only[b_] at h;split at h
    ·rename_i l y o g v k e;rcases gu.1 a with rfl | a
     ·exact (eY.1 e).1
     grind
    simp_all
theorem pPCs_in{σs:TH}:∀{ps:List PC}{σ σ':TH}{ds r:List kl},dP σs ps σ ds=some (σ',r)->∀b j p,PC.h b j p∈ps->b<σ.length:=by
 intro ps;induction ps with
 |nil=>simp_all
 |cons q ps ih=>
  intro σ σ' ds r h b j p e;cases q with
  |w a i=>grind [dP]
  |m a d st=>grind [dP]
  |h a d f=>grind [dP]
structure Laid (ct:CT) (σ:TH) (ds:List kl) (rv:List TV) (F:TH) where
 iF:TH
 d1:List kl
 nb:TH
 d2:List kl
 d3:List kl
 aC:TH
 d4:List kl
 l:TH
 h1:b_ σ ct.pl ds=some (iF,d1)
 h2:dv ct.nb d1=some (nb,d2)
 h3:ky (iF++nb) ct.out d2=some (rv,d3)
 h4:dP (iF++nb) ct.pl iF d3=some (aC,d4)
 h5:dK (iF++nb) ct.nb nb d4=some l
 e:F=aC++l
theorem lL{ct:CT}{σ F:TH}{x:dB ct.items}{rv:List TV}(h:mc ct σ x=some (rv,F)):Nonempty (Laid ct σ (dO ct.items x) rv F):=by
 unfold mc at h;split at h
 ·simp at h
 ·rename_i a b d;split at h
  ·simp at h
  ·rename_i nb e f;split at h
   ·simp at h
   ·rename_i p g i;split at h
    ·simp at h
    ·rename_i aC j k;split at h
     ·rename_i l o;simp only[au,aS] at h;obtain ⟨rfl,rfl⟩:=h;exact ⟨⟨a,b,nb,e,g,aC,j,l,d,f,i,k,o,rfl⟩⟩
     simp_all
section
variable{ct:CT}{σ F:TH}{σD:ar}{ds:List kl}{rv:List TV}
theorem Laid.fl(L:Laid ct σ ds rv F):F.length=L.aC.length+L.l.length:=by have:=HE List.length L.e;simp_all
theorem Laid.fa(L:Laid ct σ ds rv F)(b:Nat):F[b]? = (L.aC++L.l)[b]?:=HE (λl=>l[b]?) L.e
theorem Laid.sr(L:Laid ct σ ds rv F):SR (L.iF++L.nb) F:=by
 have C:=kV L.h4;obtain ⟨u,x,G⟩:=zE L.h5;refine ⟨by rw[L.fl,yZ,C.len,u,Dl L.h2],λb i l z A hb=>?_⟩;rw[L.fa];rcases rE b L.iF.length with j | o
 ·rw[EZ j] at hb;rw[EZ (by grind [QL.len])];exact C.same b _ hb (λw K e=>by simp at e)
 ·rw[KP o] at hb;rw[KP (by grind [QL.len]),C.len];refine x _ i l z A hb (by rw[<-Dl L.h2];grind) λE e=>?_;rw[(yo L.h2 _).2 E e] at hb
  grind
theorem Laid.lt(L:Laid ct σ ds rv F)(H:RH σ σD){b:Nat}(h:b<σ.length):F[b]? = L.aC[b]?:=by have C:=kV L.h4;have i:=gK L.h1 H;rw[L.fa,EZ (by rw[C.len,i.len];exact h)]
theorem Laid.ext(L:Laid ct σ ds rv F)(H:RH σ σD):Ext σ F:=by
 have C:=kV L.h4;have E:=gK L.h1 H;obtain ⟨G,W⟩:=E.rh;refine Ext.trans H E.ext λb blk hb=>?_;have u:b<σ.length:=by grind [xP.len]
 rw[L.lt H u];have other:(∀w z,blk≠.cells w z)->∃o,L.aC[b]? = some o/\BE blk o:=λK=>⟨blk,C.same b blk hb K,BE.refl blk⟩;cases blk with
 |cells w z=>
  obtain ⟨w',A,O,R,U,Z⟩:=C.fwd b w z hb;refine ⟨_,O,w',A,rfl,R,yBW U.symm,λj v x v1 x1 h h1=>?_⟩
  grind
 |row i l lv cv=>simp_all
 |mp j st l v=>simp_all
theorem Laid.rh(L:Laid ct σ ds rv F)(H:RH σ σD):RH F (F.map TB.er):=by
 have C:=kV L.h4;have W:=gK L.h1 H;have S:=L.sr;obtain ⟨Z,Hr⟩:=W.rh;obtain ⟨n1,n2,n3⟩:=zE L.h5;have er:Ext L.iF F:=λb blk hb=>by
  have A:b<σ.length:=by grind [xP.len]
  rw[L.lt H A];have other:(∀w u,blk≠.cells w u)->∃z,L.aC[b]? = some z/\BE blk z:=λhn=>⟨blk,C.same b blk hb hn,BE.refl blk⟩;cases blk with
  |cells w u=>
   obtain ⟨w',E,K,R,e3,e4⟩:=C.fwd b w u hb;refine ⟨_,K,w',E,rfl,R,yBW e3.symm,λj v x v1 x1 h U=>?_⟩
   grind
  |row i l lv cv=>simp_all
  |mp j st l v=>simp_all
 refine RH.mk' λb w u hb p hp=>?_;rcases rE b σ.length with A | ab
 ·rw[L.lt H A] at hb;have G:=eK (show b<L.iF.length by grind [xP.len]);cases o:L.iF[b]'(by grind) with
  |row i l lv cv=>rw[o] at G;rw[C.same b _ G (λw u e=>by simp at e)] at hb;grind
  |mp j st l v=>rw[o] at G;rw[C.same b _ G (λw u e=>by simp at e)] at hb;grind
  |cells w0 O=>
   rw[o] at G;obtain ⟨w',E,K,R,e3,e4⟩:=C.fwd b w0 O G;rw[hb] at K;simp only[au,TB.cells.injEq] at K;obtain ⟨rfl,rfl⟩:=K;obtain ⟨j,hj⟩:=yBE hp;obtain ⟨v1,x1⟩:=p;rcases e4 j v1 x1 hj with h5 | ⟨h5,h6,h7⟩
   ·obtain ⟨h8,h9⟩:=Hr.hg b w0 O G _ (yP h5);exact ⟨h8.mono er,kj h9 R⟩
   grind [GS.gc]
 ·have aa:L.aC.length=σ.length:=by rw[C.len,W.len]
  rw[L.fa,KP (by omega)] at hb;rcases n3 _ w u hb with ⟨w',E,U,rfl,rfl⟩ | U
  ·rw[(yo L.h2 _).1 w u U] at hp;grind
  grind [GS.gc]
theorem Laid.out(L:Laid ct σ ds rv F)(H:RH σ σD){b:Nat}(hb:b<σ.length)(i:b∉ct.pl.map PC.blk):F[b]? = σ[b]?:=by rw[L.lt H hb,(kV L.h4).out b i,(gK L.h1 H).out b i]
theorem Laid.szs(L:Laid ct σ ds rv F)(H:RH σ σD)(G:ct.pl.any PC.rs=false){b:Nat}(hb:b<σ.length):∃x y,σ[b]? = some x/\F[b]? = some y/\x.er.sz=y.er.sz:=by
 have C:=kV L.h4;have A:=gK L.h1 H;have u:=eK hb;cases o:σ[b] with
 |cells w z=>rw[o] at u;obtain ⟨w',K,O,e2,e3,e4⟩:=C.fwd b w z ((A.cells b w z).1 u);exact ⟨_,_,u,by rw[L.lt H hb];exact O,by grind [TB.er,Ob.sz]⟩
 |row i l R U=>rw[o] at u;exact ⟨_,_,u,by rw[L.lt H hb];exact C.same b _ (A.row G b i l R U u) (λw z e=>by simp at e),rfl⟩
 |mp j st l v=>rw[o] at u;obtain ⟨E,W,j1,Z,l1,v1,rfl,_⟩:=L.ext H b _ u;exact ⟨_,_,u,W,rfl⟩
theorem Laid.all(L:Laid ct σ ds rv F)(H:RH σ σD):RH F (F.map TB.er)/\RT (vI rv) (one (rv.map eD))/\GV F (vI rv)/\Ext σ F/\(∀b,b<σD.length->b∉ct.pl.map PC.blk->(F.map TB.er)[b]? = σD[b]?)/\(ct.pl.any PC.rs=false->ko σD (F.map TB.er) (ct.pl.map PC.blk)=true):=by
 have g:=IQ L.h3;refine ⟨L.rh H,Sd λv o=>(g v o).nt,QB λv o=>(g v o).gv L.sr,L.ext H,λb hb A=>?_,λE=>?_⟩
 ·rw[H.eqD,lJ,lJ,L.out H (by grind [RH.len]) A]
 ·rw[H.eqD,ko,iE];intro b hb;rw[iP] at hb;obtain ⟨p,u,rfl⟩:=hb;have z:p.blk<σ.length:=by
   cases p with
   |w b i=>exact MH L.h1 _ u (.inl ⟨b,i,rfl⟩)
   |m b j st=>exact MH L.h1 _ u (.inr ⟨b,j,st,rfl⟩)
   |h b j c=>have:=pPCs_in L.h4 b j c u;rwa [(gK L.h1 H).len] at this
  obtain ⟨x,y,G,K,O⟩:=L.szs H E z
  simp_all
end
end
end Go.Abs
end
section
namespace Go.Abs
noncomputable section
variable[Gl][Y:Ty]
structure Mo (s s':MS):Prop where
 Ka:∀b o,pj b s.ρ=some o->pj b s'.ρ=some o
 fz:∀b,b∈s.fz->b∈s'.fz
theorem Mo.refl(s:MS):Mo s s:=⟨λ_ _ h=>h,λ_ h=>h⟩
theorem Mo.trans{a b c:MS}(h:Mo a b)(i:Mo b c):Mo a c:=⟨λx o e=>i.Ka x o (h.Ka x o e),λx e=>i.fz x (h.fz x e)⟩
structure MI (m:Nat) (σ1:TH) (s:MS):Prop where
 ge:∀p∈s.ρ,m<=p.1/\m<=p.2
 fz:∀b∈s.fz,∃(i:Nat)(l:List (TT i))(lv cv:Nat),σ1[b]? = some (.row i l lv cv)
def Bd(m:Nat)(s:MS)(b a:Nat):Prop:=(b<m/\a=b)\/(m<=b/\pj b s.ρ=some a)
theorem Bd.mono{m:Nat}{s s':MS}{b i:Nat}(h:Mo s s'):Bd m s b i->Bd m s' b i
 |.inl a=>.inl a
 |.inr a=>.inr ⟨a.1,h.Ka _ _ a.2⟩
def CM(m:Nat)(σ1 σs:TH)(s:MS)(x y:TC):Prop:=
 (ED x.er y.er/\y.er.low 0=true/\(x=.d (.c (.lit (.slice none 0 0)))\/x.er=y.er)) \/
 (∃(i b v:Nat)(l:List (TT i))(d:Nat),x=.own i b v l.length/\b∈s.fz/\σ1[b]? = some (.row i l v d)/\y.er=.c (.cD false (l.map (enc i)))) \/
 (∃(i b a v:Nat)(g:List (TT i))(e j h:Nat)(l:List (TT j))(d:Nat),x=.own i a v g.length/\Bd m s b a/\σ1[a]? = some (.row i g v e)/\y=.own j b h l.length/\σs[b]? = some (.row j l h d)) \/
 (∃b a off sz,x=.d (.ptr a off sz)/\Bd m s b a/\y=.d (.ptr b off sz)/\b<σs.length) \/
 (∃b a,x=.d (.mp a)/\Bd m s b a/\y=.d (.mp b)/\b<σs.length) \/
 (∃f b a sz,x=.d (.fn (.func f) [] [.ptr a 0 sz])/\Bd m s b a/\y=.d (.fn (.func f) [] [.ptr b 0 sz])/\b<σs.length)
variable{m:Nat}{σ σ1 σs:TH}{s s':MS}
theorem CM.mono(h:Mo s s'){x y:TC}(c:CM m σ1 σs s x y):CM m σ1 σs s' x y:=by
 rcases c with c | ⟨i,b,v,l,G,o,u,z,A⟩ | ⟨i,b,E,v,O,K,j,R,l,G,o,u,z,A,U⟩ | ⟨b,E,off,sz,o,u,z,A⟩ | ⟨b,E,o,u,z,A⟩ | ⟨f,b,E,sz,o,u,z,A⟩
 ·exact .inl c
 ·exact .inr (.inl ⟨i,b,v,l,G,o,h.fz _ u,z,A⟩)
 ·exact .inr (.inr (.inl ⟨i,b,E,v,O,K,j,R,l,G,o,u.mono h,z,A,U⟩))
 ·exact .inr (.inr (.inr (.inl ⟨b,E,off,sz,o,u.mono h,z,A⟩)))
 ·exact .inr (.inr (.inr (.inr (.inl ⟨b,E,o,u.mono h,z,A⟩))))
 ·exact .inr (.inr (.inr (.inr (.inr ⟨f,b,E,sz,o,u.mono h,z,A⟩))))
theorem aK.mono{α i:Type}{R j:α->i->Prop}(h:∀a b,R a b->j a b){l:List α}{o:List i}(a:aK R l o):aK j l o:=by
 induction a with
 |nil=>exact .nil
 |cons x _ ih=>exact .cons (h _ _ x) ih
theorem CM.data{c:CC}{x:TC}{a:c.dn}(h:Ew c x=some a):CM m σ1 σs s x (rZ c a):=by have i:=oD h;refine .inl ⟨?_,by rw[lu];rfl,by grind [lu,N_]⟩;rw[lu,<-i.2];intro σ M Fz w v j;exact HO j
theorem PN{c:CC}{x:TC}{a:c.dn}(h:Ew c (BQ σ1 x)=some a)(g:GC σ1 x):(∀b∈iI [x],∃(i:Nat)(l:List (TT i))(d e:Nat),σ1[b]? = some (.row i l d e))/\∀m σs s,(∀b∈iI [x],b∈s.fz)->CM m σ1 σs s x (rZ c a):=by
 cases x with
 |own i b v n=>
  simp only[BQ] at h;split at h
  ·rename_i j l d e hb;split at h
   ·rename_i o;have:=dd o;subst this;obtain ⟨blk,f,p⟩:=g;rw[hb] at f;simp only[au] at f;obtain ⟨_,q⟩:=p _ _ _ _ f.symm;obtain ⟨rfl,rfl⟩:=q rfl;refine ⟨λt k=>?_,λm σs s hs=>.inr (.inl ⟨j,b,d,l,e,rfl,hs b (by simp[iI]),hb,?_⟩)⟩
    ·simp only[iI,gu,Ms,MK] at k
     grind
    ·have r:=oD h;rw[lu,<-r.2];rfl
   grind [Ew]
  grind [Ew]
 |_=>exact ⟨by simp[iI],λm σs s _=>CM.data h⟩
theorem Yd{d a:D}(h:eqK d a=true):d=a:=by
 unfold eqK at h;split at h
 ·rfl
 ·rfl
 ·rfl
 ·rfl
 ·simp_all
 ·simp_all
 simp_all
theorem za{b g:Nat}(h:Gx m b g s=some s'):Mo s s'/\s'.rw=s.rw/\s'.cl=s.cl/\Bd m s' b g/\(MI m σ1 s->MI m σ1 s'):=by
 unfold Gx at h;split at h
 ·rename_i a;split at h
  ·rename_i e;simp only[au] at h;subst h;exact ⟨Mo.refl s,rfl,rfl,.inl ⟨tc.mp a,(dd e).symm⟩,id⟩
  simp_all
 ·rename_i a;have d:m<=b:=by
   grind [Nat.blt_eq]
  split at h
  ·rename_i o i;split at h
   ·rename_i e;simp only[au] at h;subst h;have:=dd e;subst this;exact ⟨Mo.refl s,rfl,rfl,.inr ⟨d,i⟩,id⟩
   simp_all
  ·rename_i i;split at h
   ·rename_i j;simp only[au] at h;subst h;refine ⟨⟨λq o k=>?_,λ_ h=>h⟩,rfl,rfl,.inr ⟨d,?_⟩,λI=>⟨λp f=>?_,I.fz⟩⟩
    ·grind [pj,Nat.eq_of_beq_eq_true]
    ·grind [pj,Nat.beq_refl]
    ·rcases gu.1 f with rfl | f
     ·simp_all
     ·exact I.ge p f
   simp_all
theorem OM{p:CP}{x:TC}(h:mCP m σ1 p x s=some s')(g:GC σ1 x):∃Z,s'.cl=s.cl++Z/\s'.rw=s.rw/\Mo s s'/\(MI m σ1 s->MI m σ1 s')/\∀σs e y r,s_ σs p (Z++e)=some (y,r)->r=e/\CM m σ1 σs s' x y:=by
 unfold mCP at h;split at h
 ·rename_i c i b v n;split at h
  ·rename_i a L;simp only[au] at h;subst h;obtain ⟨K,N⟩:=PN L g;refine ⟨_,rfl,rfl,⟨λ_ _ h=>h,λ_ h=>nS _ h⟩,λI=>⟨I.ge,λq t=>?_⟩,λσs e y r k=>?_⟩
   ·rcases gu.1 t with rfl | t
    ·exact K _ (by simp[iI])
    ·exact I.fz q t
   ·simp only[yB2,s_,E_,au,aS] at k;obtain ⟨rfl,rfl⟩:=k;exact ⟨rfl,N m σs _ (by simp[iI])⟩
  simp_all
 ·rename_i c x hx;split at h
  ·rename_i a L;simp only[au] at h;subst h;refine ⟨_,rfl,rfl,⟨λ_ _ h=>h,λ_ h=>h⟩,λI=>⟨I.ge,I.fz⟩,λσs e y r k=>?_⟩;simp only[yB2,s_,E_,au,aS] at k
   grind [CM.data]
  simp_all
 ·rename_i u v;simp only[au] at h;subst h;refine ⟨_,rfl,rfl,⟨λ_ _ h=>h,λ_ h=>h⟩,λI=>⟨I.ge,I.fz⟩,λσs e y r k=>?_⟩;simp only[yB2,s_,E_,au,aS] at k;obtain ⟨rfl,rfl⟩:=k;exact ⟨rfl,.inl ⟨λ_ _ _ _ _ h=>h,rfl,.inr rfl⟩⟩
 ·rename_i i x;split at h
  ·rename_i a L;simp only[au] at h;subst h;have:=GU L;subst this;refine ⟨_,rfl,rfl,⟨λ_ _ h=>h,λ_ h=>h⟩,λI=>⟨I.ge,I.fz⟩,λσs e y r k=>?_⟩;simp only[yB2,s_,E_,au,aS] at k;obtain ⟨rfl,rfl⟩:=k;exact ⟨rfl,.inl ⟨λ_ _ _ _ _ h=>h,rfl,.inr rfl⟩⟩
  simp_all
 ·rename_i b i q v n;split at h
  ·rename_i j l lv cv hb;split at h
   ·rename_i o;have:=dd o;subst this;obtain ⟨blk,K,N⟩:=g;rw[hb] at K;simp only[au] at K;obtain ⟨_,h3⟩:=N _ _ _ _ K.symm;obtain ⟨rfl,rfl⟩:=h3 rfl;obtain ⟨z,A,O,E,G⟩:=za (σ1:=σ1) h;refine ⟨[],by simp_all,A,z,G,λσs e y r k=>?_⟩;simp only[Aj,s_] at k;split at k
    ·rename_i i' l' R S hs;simp only[au,aS] at k;obtain ⟨rfl,rfl⟩:=k;exact ⟨rfl,.inr (.inr (.inl ⟨_,b,q,_,l,cv,i',R,l',S,rfl,E,hb,rfl,hs⟩))⟩
    simp_all
   simp_all
  simp_all
 ·rename_i b off sz q aa T;split at h
  ·rename_i o;simp only[bI] at o;have U:=dd o.1;have W:=dd o.2;subst U W;obtain ⟨z,A,O,E,G⟩:=za (σ1:=σ1) h;refine ⟨[],by simp_all,A,z,G,λσs e y r k=>?_⟩;simp only[Aj,s_] at k;split at k
   ·rename_i hb;simp only[au,aS] at k;obtain ⟨rfl,rfl⟩:=k;exact ⟨rfl,.inr (.inr (.inr (.inl ⟨b,q,off,sz,rfl,E,rfl,tc.mp hb⟩)))⟩
   simp_all
  simp_all
 ·rename_i b q;obtain ⟨z,A,O,E,G⟩:=za (σ1:=σ1) h;refine ⟨[],by simp_all,A,z,G,λσs e y r k=>?_⟩;simp only[Aj,s_] at k;split at k
  ·rename_i hb;simp only[au,aS] at k;obtain ⟨rfl,rfl⟩:=k;exact ⟨rfl,.inr (.inr (.inr (.inr (.inl ⟨b,q,rfl,E,rfl,tc.mp hb⟩))))⟩
  simp_all
 ·rename_i f b sz f' q T;split at h
  ·rename_i o;simp only[bI] at o;have U:=dd o.1;have W:=dd o.2;subst U W;obtain ⟨z,A,O,E,G⟩:=za (σ1:=σ1) h;refine ⟨[],by simp_all,A,z,G,λσs e y r k=>?_⟩;simp only[Aj,s_] at k;split at k
   ·rename_i hb;simp only[au,aS] at k;obtain ⟨rfl,rfl⟩:=k;exact ⟨rfl,.inr (.inr (.inr (.inr (.inr ⟨_,b,q,_,rfl,E,rfl,tc.mp hb⟩))))⟩
   simp_all
  simp_all
 ·rename_i d d';split at h
  ·rename_i o;have:=Yd o;subst this;simp only[au] at h;subst h;refine ⟨[],by simp_all,rfl,Mo.refl s,id,λσs e y r k=>?_⟩;simp only[Aj,s_] at k;split at k
   ·rename_i hb;simp only[au,aS] at k;obtain ⟨rfl,rfl⟩:=k;exact ⟨rfl,.inl ⟨λ_ _ _ _ _ h=>h,hb,.inr rfl⟩⟩
   simp_all
  simp_all
 simp_all
theorem RX:∀{ps:List CP}{xs:List TC}{s s':MS},Mr m σ1 ps xs s=some s'->(∀x∈xs,GC σ1 x)->∃f,s'.cl=s.cl++f/\s'.rw=s.rw/\Mo s s'/\(MI m σ1 s->MI m σ1 s')/\∀σs a d r,yT σs ps (f++a)=some (d,r)->r=a/\aK (CM m σ1 σs s') xs d:=by
 intro ps;induction ps with
 |nil=>
  intro xs s s' h g;cases xs with
  |nil=>simp only[Mr,au] at h;subst h;refine ⟨[],by simp,rfl,Mo.refl s,id,λσs a d r b=>?_⟩;simp only[Aj,yT,au,aS] at b;obtain ⟨rfl,rfl⟩:=b;exact ⟨rfl,.nil⟩
  |cons x xs=>grind [Mr]
 |cons p ps ih=>
  intro xs s s' h g;cases xs with
  |nil=>grind [Mr]
  |cons x xs=>
   simp only[Mr] at h;split at h
   ·rename_i s1 j;obtain ⟨k,L,N,l,o,q⟩:=OM j (g x (rJ ..));obtain ⟨t,O,R,i,u,v⟩:=ih h λy b=>g y (nS _ b);refine ⟨k++t,by grind,by grind,l.trans i,λI=>u (o I),λσs a d r b=>?_⟩;rw[AX] at b;simp only[yT] at b;split at b
    ·rename_i y z A;obtain ⟨rfl,c1⟩:=q σs _ y z A;split at b
     ·rename_i E S G;simp only[au,aS] at b;obtain ⟨rfl,rfl⟩:=b;obtain ⟨e,K⟩:=v σs _ _ _ G;exact ⟨e,.cons (c1.mono i) K⟩
     grind
    grind
   simp_all
def VM(m:Nat)(σ1 σs:TH)(s:MS):TV->TV->Prop
 |.c x,.c y=>CM m σ1 σs s x y
 |.agg xs,.agg a=>aK (CM m σ1 σs s) xs a
 |_,_=>False
theorem VM.mono(h:Mo s s'){x y:TV}(c:VM m σ1 σs s x y):VM m σ1 σs s' x y:=by
 cases x with
 |c x => cases y with
  |c y=>exact CM.mono h c
  |_=>exact c.elim
 |agg i => cases y with
  |agg j=>exact aK.mono (λ_ _=>CM.mono h) c
  |_=>exact c.elim
 |aT i=>exact c.elim
theorem frTs_cm:∀{cs:List CC}{xs:List TC}{a:aT cs},DZ cs (xs.map (BQ σ1))=some a->(∀x∈xs,GC σ1 x)->(∀b∈iI xs,∃(i:Nat)(l:List (TT i))(e f:Nat),σ1[b]? = some (.row i l e f))/\∀m σs s,(∀b∈iI xs,b∈s.fz)->aK (CM m σ1 σs s) xs (uw cs a):=by
 intro cs;induction cs with
 |nil=>
  intro xs a h g;cases xs with
  |nil=>exact ⟨by simp[iI],λm σs s _=>.nil⟩
  |cons x xs=>grind [DZ]
 |cons c cs ih=>
  intro xs a h g;cases xs with
  |nil=>grind [DZ]
  |cons x xs=>
   simp only[ql,DZ] at h;split at h
   ·rename_i r t j k;simp only[au] at h;subst h;obtain ⟨u,o⟩:=PN j (g x (rJ ..));obtain ⟨v,p⟩:=ih k λy q=>g y (nS _ q);have d:∀b,b∈iI (x::xs)↔b∈iI [x]\/b∈iI xs:=by
     intro b;cases x <;> simp[iI]
    refine ⟨λb hb=>?_,λm σs s hs=>.cons (o m σs s λb hb=>hs b ((d b).2 (.inl hb))) (p m σs s λb hb=>hs b ((d b).2 (.inr hb)))⟩
    grind
   simp_all
theorem mRO_ok{p:RO}{v:TV}(h:mRO m σ1 p v s=some s')(g:GV σ1 v):∃K,s'.cl=s.cl++K/\s'.rw=s.rw/\Mo s s'/\(MI m σ1 s->MI m σ1 s')/\∀σs d y r,yz σs p (K++d)=some (y,r)->r=d/\VM m σ1 σs s' v y:=by
 unfold mRO at h;split at h
 ·rename_i c;split at h
  ·rename_i a k;simp only[au] at h;subst h;cases v with
   |c x=>
    obtain ⟨l,q⟩:=PN (c:=c) k g;refine ⟨_,rfl,rfl,⟨λ_ _ h=>h,λ_ h=>yBA _ h⟩,λI=>⟨I.ge,λb hb=>?_⟩,λσs d y r f=>?_⟩
    ·rcases ld.1 hb with hb | hb
     ·exact l b hb
     ·exact I.fz b hb
    ·simp only[yB2,yz,E_,au,aS] at f;obtain ⟨rfl,rfl⟩:=f;exact ⟨rfl,q m σs _ λb hb=>yBF _ hb⟩
   |agg o=>grind [fN,qp,JV]
   |aT o=>grind [fN,qp,JV]
  simp_all
 ·rename_i i;split at h
  ·rename_i a k;simp only[au] at h;subst h;cases v with
   |c x=>grind [fN,qp,BR]
   |aT x=>grind [fN,qp,BR]
   |agg o=>
    simp only[fN,qp,BR] at k;split at k
    ·rename_i t O;simp only[au] at k;subst k;obtain ⟨l,q⟩:=frTs_cm O g;refine ⟨_,rfl,rfl,⟨λ_ _ h=>h,λ_ h=>yBA _ h⟩,λI=>⟨I.ge,λb hb=>?_⟩,λσs d y r f=>?_⟩
     ·rcases ld.1 hb with hb | hb
      ·exact l b hb
      ·exact I.fz b hb
     ·simp only[yB2,yz,E_,au,aS] at f;obtain ⟨rfl,rfl⟩:=f;refine ⟨rfl,?_⟩;show aK _ o (uw _ _);rw[Y.pm];exact q m σs _ λb hb=>yBF _ hb
    simp_all
  simp_all
 ·rename_i i;split at h
  ·rename_i a k;simp only[au] at h;subst h;refine ⟨_,rfl,rfl,⟨λ_ _ h=>h,λ_ h=>h⟩,λI=>⟨I.ge,I.fz⟩,λσs d y r f=>?_⟩;simp only[yB2,yz,E_,au,aS] at f;obtain ⟨rfl,rfl⟩:=f;refine ⟨rfl,?_⟩;cases v with
   |c x=>
    cases x with
    |fp j b off=>
     simp only[fN,BQ,qp] at k;unfold vG at k;split at k
     ·rename_i T U N;simp only[TV.c.injEq,TC.fp.injEq] at N;obtain ⟨rfl,q,rfl⟩:=N;cases q;split at k
      ·rename_i e _;subst e;simp only[au] at k;subst k;exact .inl ⟨λ_ _ _ _ _ h=>h,rfl,.inr rfl⟩
      simp_all
     simp_all
    |own j b v n=>
     exfalso;simp only[fN,BQ,qp] at k;split at k
     ·split at k <;> simp[vG] at k
     grind [vG]
    |_=>grind [fN,BQ,qp,vG]
   |agg o=>grind [fN,qp,vG]
   |aT o=>grind [fN,qp,vG]
  simp_all
 ·rename_i p x;obtain ⟨L,u,z,A,E,G⟩:=OM h g;refine ⟨L,u,z,A,E,λσs d y r f=>?_⟩;simp only[yz] at f;split at f
  ·rename_i R S l;simp only[au,aS] at f;obtain ⟨rfl,rfl⟩:=f;exact G σs d _ _ l
  simp_all
 ·rename_i W o;obtain ⟨L,u,z,A,E,G⟩:=RX h g;refine ⟨L,u,z,A,E,λσs d y r f=>?_⟩;simp only[yz] at f;split at f
  ·rename_i R S l;simp only[au,aS] at f;obtain ⟨rfl,rfl⟩:=f;exact G σs d _ _ l
  simp_all
 simp_all
theorem mROs_ok:∀{ps:List RO}{xs:List TV}{s s':MS},Jq m σ1 ps xs s=some s'->(∀x∈xs,GV σ1 x)->∃f,s'.cl=s.cl++f/\s'.rw=s.rw/\Mo s s'/\(MI m σ1 s->MI m σ1 s')/\∀σs a d r,ky σs ps (f++a)=some (d,r)->r=a/\aK (VM m σ1 σs s') xs d:=by
 intro ps;induction ps with
 |nil=>
  intro xs s s' h g;cases xs with
  |nil=>simp only[Jq,au] at h;subst h;refine ⟨[],by simp,rfl,Mo.refl s,id,λσs a d r b=>?_⟩;simp only[Aj,ky,au,aS] at b;obtain ⟨rfl,rfl⟩:=b;exact ⟨rfl,.nil⟩
  |cons x xs=>grind [Jq]
 |cons p ps ih=>
  intro xs s s' h g;cases xs with
  |nil=>grind [Jq]
  |cons x xs=>
   simp only[Jq] at h;split at h
   ·rename_i s1 j;obtain ⟨k,L,N,l,o,q⟩:=mRO_ok j (g x (rJ ..));obtain ⟨t,O,R,i,u,v⟩:=ih h λy b=>g y (nS _ b);refine ⟨k++t,by grind,by grind,l.trans i,λI=>u (o I),λσs a d r b=>?_⟩;rw[AX] at b;simp only[ky] at b;split at b
    ·rename_i y z A;obtain ⟨rfl,c1⟩:=q σs _ y z A;split at b
     ·rename_i E S G;simp only[au,aS] at b;obtain ⟨rfl,rfl⟩:=b;obtain ⟨e,K⟩:=v σs _ _ _ G;exact ⟨e,.cons (c1.mono i) K⟩
     grind
    grind
   simp_all
end
end Go.Abs
end
section
namespace Go.Abs
noncomputable section
variable[Gl][Y:Ty]
def uQ(x y:TB):Prop:=(∃(i:Nat)(l:List (TT i))(d e a b:Nat),x=.row i l d e/\y=.row i l a b)\/(∃(j:Nat)(st:Bool)(l:List (Int×TT j))(v f:Nat),x=.mp j st l v/\y=.mp j st l f)
def PC.rw:PC->Bool
 |.h ..=>false
 |_=>true
variable{m:Nat}{σ σ1 σs:TH}{s s':MS}
theorem mPCs_ok(hg:∀(b:Nat) w cs,σ1[b]? = some (.cells w cs)->∀p∈cs,GC σ1 p.2):∀{ps:List PC} {s s':MS},Fw m σ σ1 ps s=some s' ->
  ∃ L Lc, s'.rw = s.rw ++ L /\ s'.cl = s.cl ++ Lc /\ Mo s s' /\ (MI m σ1 s -> MI m σ1 s') /\ (∀ p ∈ ps, p.blk < m) /\
   (∀f d A r,b_ f ps (L++d)=some (A,r)->r=d/\∀b:Nat,((∀p∈ps,p.rw=true->p.blk≠b)/\A[b]? = f[b]?)\/∃x y,σ1[b]? = some x/\A[b]? = some y/\uQ x y) /\
   (∀σs f d σ' r,dP σs ps f (Lc++d)=some (σ',r)->(∀(b:Nat) w cs w1 t,f[b]? = some (.cells w cs)->σ1[b]? = some (.cells w1 t)->cs.length=t.length)->r=d /\
    (∀(b j:Nat) p,PC.h b j p∈ps->∃w cs w' k x y,σ1[b]? = some (.cells w cs)/\σ'[b]? = some (.cells w' k)/\cs[j]? = some x/\k[j]? = some y/\CM m σ1 σs s' x.2 y.2) /\
    (∀(b:Nat) w cs,f[b]? = some (.cells w cs)->∃w' k,σ'[b]? = some (.cells w' k)/\∀j:Nat,(∀p,PC.h b j p∉ps)->k[j]? = cs[j]?)):=by
 intro ps
 induction ps with
 | nil =>
  intro s s' h
  simp only [Fw,au] at h
  subst h
  refine ⟨[],[],by simp,by simp,Mo.refl s,id,by simp,fun f d A r h=>?_,fun σs f d σ' r h _=>?_⟩
  ·simp only [Aj,b_,au,aS] at h
   simp_all
  ·simp only [Aj,dP,au,aS] at h
   grind
 | cons p ps ih =>
  intro s s' h
  cases p with
  | h b j p =>
   simp only [Fw] at h
   split at h
   ·rename_i w1 t hb v
    split at h
    ·rename_i x hx
     split at h
     ·rename_i s1 h1
      obtain ⟨L1,a1,a2,a3,a4,a5⟩:=OM h1 (hg b w1 t hb x (yP hx))
      obtain ⟨L,K,R,S,G,N,b5,T,U⟩:=ih h
      refine ⟨L,L1++K,by grind,by grind,a3.trans G,fun I=>N (a4 I),fun q o=>?_,fun f d A r h=>?_,fun σs f d σ' r h hl=>?_⟩
      ·rcases gu.1 o with rfl | o
       ·exact tc.mp v
       grind
      ·grind [b_,PC.rw]
      ·rw [AX] at h
       simp only [dP] at h
       split at h
       ·rename_i y r' w0 W h2 Z
        obtain ⟨rfl,c1⟩:=a5 σs _ y r' h2
        have ad:=hl b w0 W w1 t Z hb
        obtain ⟨e,d1,d2⟩:=U σs _ d σ' r h fun u w cs w2 af z e2=>by
         grind
        refine ⟨e,fun u j' p' hp=>?_,fun u w cs z=>?_⟩
        ·by_cases ak:∃q,PC.h u j' q∈ps
         ·grind
         ·rcases gu.1 hp with z | hp
          ·simp only [PC.h.injEq] at z
           obtain ⟨rfl,rfl,rfl⟩:=z
           obtain ⟨w',k,e2,e3⟩:=d2 u _ _ (FV Z)
           refine ⟨w1,t,w',k,x,(w0+1,y),hb,e2,hx,?_,c1.mono G⟩
           grind
          grind
        ·by_cases g:u=b
         ·subst g
          rw [Z] at z
          simp only [au,TB.cells.injEq] at z
          grind [FV]
         ·obtain ⟨w',k,e2,e3⟩:=d2 u w cs (by grind)
          grind
       grind
     grind
    grind
   grind
  | w b i =>
   simp only [Fw] at h
   split at h
   ·rename_i i0 l0 an av hb v
    split at h
    ·rename_i a ha
     obtain ⟨e,rfl⟩:=ZX ha
     subst e
     obtain ⟨L,K,R,S,G,N,b5,T,U⟩:=ih h
     refine ⟨_::L,K,by rw [R,AX]; rfl,S,⟨G.Ka,G.fz⟩,fun I=>N ⟨I.ge,I.fz⟩,fun q o=>?_,fun f d A r h=>?_,fun σs f d σ' r h hl=>?_⟩
     ·rcases gu.1 o with rfl | o
      ·exact tc.mp v
      grind
     ·simp only [JS,b_,E_] at h
      split at h
      ·rename_i l j l1 ax a0 O z
       simp only [au] at O
       subst O
       split at h
       ·obtain ⟨e,c1⟩:=T _ d A r h
        refine ⟨e,fun u=>?_⟩
        rcases c1 u with ⟨c1,E⟩ | c1
        ·by_cases g:u=b
         ·subst g
          rw [FV z] at E
          exact .inr ⟨_,_,hb,E,.inl ⟨_,_,_,_,_,_,rfl,rfl⟩⟩
         ·rw [TR g] at E
          refine .inl ⟨fun q o hr=>?_,E⟩
          rcases gu.1 o with rfl | o
          ·exact fun e=>g e.symm
          grind
        grind
       grind
      grind
     grind [dP]
    grind
   grind
  | m b i st =>
   simp only [Fw] at h
   split at h
   ·rename_i i0 aa l0 v0 hb v
    split at h
    ·rename_i a ab ha
     obtain ⟨e,rfl⟩:=yt ha
     subst e
     have:st=aa:=eq_of_beq ab
     subst this
     obtain ⟨L,K,R,S,G,N,b5,T,U⟩:=ih h
     refine ⟨_::L,K,by rw [R,AX]; rfl,S,⟨G.Ka,G.fz⟩,fun I=>N ⟨I.ge,I.fz⟩,fun q o=>?_,fun f d A r h=>?_,fun σs f d σ' r h hl=>?_⟩
     ·rcases gu.1 o with rfl | o
      ·exact tc.mp v
      grind
     ·simp only [JS,b_,E_] at h
      split at h
      ·rename_i l j0 a6 l1 v1 O z
       simp only [au] at O
       subst O
       obtain ⟨e,c1⟩:=T _ d A r h
       refine ⟨e,fun u=>?_⟩
       rcases c1 u with ⟨c1,E⟩ | c1
       ·by_cases g:u=b
        ·subst g
         rw [FV z] at E
         exact .inr ⟨_,_,hb,E,.inr ⟨_,_,_,_,_,rfl,rfl⟩⟩
        ·rw [TR g] at E
         refine .inl ⟨fun q o hr=>?_,E⟩
         rcases gu.1 o with rfl | o
         ·exact fun e=>g e.symm
         grind
       grind
      grind
     grind [dP]
    grind
   grind
theorem mNBs_ok(hg:∀(b:Nat) w cs,σ1[b]? = some (.cells w cs)->∀p∈cs,GC σ1 p.2):∀{f:List NB} {b:Nat} {s s':MS},CZ m σ1 b f s=some s' ->
  ∃ L W, s'.rw = s.rw ++ L /\ s'.cl = s.cl ++ W /\ Mo s s' /\ (MI m σ1 s -> MI m σ1 s') /\
   (∀d l r,dv f (L++d)=some (l,r)->r=d/\∀(k:Nat) nb,f[k]? = some nb->(∀ps,nb≠.cells ps)->∃j x y,pj (b+k) s'.ρ=some j/\σ1[j]? = some x/\l[k]? = some y/\uQ x y) /\
   (∀σs g d l,dK σs f g (W++d)=some l->∀(k:Nat) nb,f[k]? = some nb ->
    (∀ps,nb=.cells ps->∃j w cs Z,pj (b+k) s'.ρ=some j/\σ1[j]? = some (.cells w cs)/\l[k]? = some (.cells 0 Z)/\aK (CM m σ1 σs s') (cs.map Prod.snd) (Z.map Prod.snd)) /\
    ((∀ps,nb≠.cells ps)->l[k]? = g[k]?)):=by
 intro f
 induction f with
 | nil =>
  intro b s s' h
  simp only [CZ,au] at h
  subst h
  refine ⟨[],[],by simp,by simp,Mo.refl s,id,fun d l r h=>?_,fun σs g d l h k nb hk=>by grind⟩
  grind [dv]
 | cons nb f ih =>
  intro b s s' h
  have sh:∀k:Nat,b+(k+1)=b+1+k:=fun k=>by omega
  cases nb with
  | cells ps =>
   simp only [CZ] at h
   split at h
   ·rename_i j o
    split at h
    ·rename_i w cs hb
     split at h
     ·rename_i s1 h1
      obtain ⟨L1,a1,a2,a3,a4,a5⟩:=RX h1 (fun x hx=>by
       grind)
      obtain ⟨L,u,E,G,q,v,K,N⟩:=ih h
      refine ⟨L,L1++u,by grind,by grind,a3.trans q,fun I=>v (a4 I),fun d l r h=>?_,fun σs g d l h k nb hk=>?_⟩
      ·simp only [dv] at h
       grind
      ·rw [AX] at h
       cases g with
       | nil=>grind [dK]
       | cons b0 g =>
        simp only [dK] at h
        split at h
        ·rename_i xs r' z
         split at h
         ·rename_i t O
          simp only [au] at h
          subst h
          obtain ⟨rfl,c1⟩:=a5 σs _ _ _ z
          have c2:=N σs g d t O
          cases k with
          | zero =>
           simp only [wR,au] at hk
           subst hk
           refine ⟨fun aa e=>?_,fun R=>absurd rfl (R ps)⟩
           refine ⟨j,w,cs,_,q.Ka _ _ (a3.Ka _ _ o),hb,by rw [wR],?_⟩
           rw [TY]
           have:(Prod.snd∘fun x:TC=>(0,x))=id:=rfl
           rw [this,List.map_id]
           grind [aK.mono,CM.mono]
          | succ k =>
           grind
         grind
        grind
     grind
    grind
   grind
  | row i =>
   simp only [CZ] at h
   split at h
   ·rename_i j o
    split at h
    ·rename_i i0 l0 ab ad hb
     split at h
     ·rename_i a S
      obtain ⟨e,rfl⟩:=ZX S
      subst e
      obtain ⟨L,u,E,G,q,v,K,N⟩:=ih h
      refine ⟨_::L,u,by rw [E,AX]; rfl,G,⟨q.Ka,q.fz⟩,fun I=>v ⟨I.ge,I.fz⟩,fun d l r h=>?_,fun σs g d l h k nb hk=>?_⟩
      ·simp only [JS,dv,E_] at h
       split at h
       ·rename_i a' t r' A z
        simp only [au,aS] at h A
        subst A
        obtain ⟨rfl,rfl⟩:=h
        obtain ⟨e,c1⟩:=K d t _ z
        refine ⟨e,fun k nb hk R=>?_⟩
        cases k with
        | zero=>exact ⟨j,_,_,q.Ka _ _ o,hb,by rw [wR],.inl ⟨_,_,_,_,_,_,rfl,rfl⟩⟩
        | succ k=>grind
       grind
      ·cases g with
       | nil=>grind [dK]
       | cons b0 g =>
        simp only [dK] at h
        split at h
        ·rename_i t O
         simp only [au] at h
         grind
        grind
     grind
    grind
   grind
  | mp i st =>
   simp only [CZ] at h
   split at h
   ·rename_i j o
    split at h
    ·rename_i i0 T l0 v0 hb
     split at h
     ·rename_i a U S
      obtain ⟨e,rfl⟩:=yt S
      subst e
      have:st=T:=eq_of_beq U
      subst this
      obtain ⟨L,u,E,G,q,v,K,N⟩:=ih h
      refine ⟨_::L,u,by rw [E,AX]; rfl,G,⟨q.Ka,q.fz⟩,fun I=>v ⟨I.ge,I.fz⟩,fun d l r h=>?_,fun σs g d l h k nb hk=>?_⟩
      ·simp only [JS,dv,E_] at h
       split at h
       ·rename_i a' t r' A z
        simp only [au,aS] at h A
        subst A
        obtain ⟨rfl,rfl⟩:=h
        obtain ⟨e,c1⟩:=K d t _ z
        refine ⟨e,fun k nb hk R=>?_⟩
        cases k with
        | zero=>exact ⟨j,_,_,q.Ka _ _ o,hb,by rw [wR],.inr ⟨_,_,_,_,_,rfl,rfl⟩⟩
        | succ k=>grind
       grind
      ·cases g with
       | nil=>grind [dK]
       | cons b0 g =>
        simp only [dK] at h
        split at h
        ·rename_i t O
         simp only [au] at h
         subst h
         have c2:=N σs g d t O
         cases k with
         | zero =>
          grind
         | succ k =>
          grind
        grind
     grind
    grind
   grind
end
end Go.Abs
end
section
namespace Go.Abs
noncomputable section
variable[Gl][Y:Ty]
variable{σ σ1 F:TH}{σD σ1D:ar}{s:MS}{ct:CT}
theorem uQ.er{x y:TB}(h:uQ x y):y.er=x.er:=by rcases h with ⟨i,l,z,A,o,u,rfl,rfl⟩ | ⟨j,st,l,v,E,rfl,rfl⟩ <;> rfl
theorem Ik{j:Nat}{st:Bool}:∀(l:List (Int×TT j))(i:Nat),((EU (P_ j st) i l).all λe=>e.2.1.low 0)=true:=by
 intro l;induction l with
 |nil=>intro i;rfl
 |cons p l ih=>
  intro i;obtain ⟨k,a⟩:=p;simp only[EU,Rv,ih,NP];unfold P_;split
  ·have:∀b:List C,D.low.cU 0 (b.map .c)=true:=by
    intro b;induction b with
    |nil=>rfl
    |cons c b ih=>simp only[ql,D.low.cU,D.low,ih,NP]
   exact this _
  ·rfl
theorem aK.Hy{α o:Type}{R:α->o->Prop}:∀{l:List α}{i:List o},l.length=i.length->(∀(j:Nat) a b,l[j]? = some a->i[j]? = some b->R a b)->aK R l i:=by
 intro l;induction l with
 |nil=>
  intro i h _;cases i with
  |nil=>exact .nil
  |cons _ _=>simp at h
 |cons a l ih=>
  intro i h u;cases i with
  |nil=>simp at h
  |cons b i=>exact .cons (u 0 a b rfl rfl) (ih (by simp_all) λj x y z A=>u (j+1) x y z A)
theorem aK.map{α i j o:Type}{R:j->o->Prop}{f:α->j}{g:i->o}{u:α->i->Prop}(h:∀a b,u a b->R (f a) (g b)){l:List α}{z:List i}(a:aK u l z):aK R (l.map f) (z.map g):=by
 induction a with
 |nil=>exact .nil
 |cons x _ ih=>exact .cons (h _ _ x) ih
theorem GC.low{x:TC}(g:GC σ x):x.er.low σ.length=true:=by
 cases x with
 |own i c v n=>
  obtain ⟨blk,j,_⟩:=g;simp only[TC.er,D.low,bz]
  grind
 |op i c v n k a off=>
  obtain ⟨blk,j,_⟩:=g;simp only[TC.er,D.low,bz]
  grind
 |os i c v n o len=>
  obtain ⟨blk,j,_⟩:=g;simp only[TC.er,D.low,bz]
  grind
 |ap c off len sz k=>simp only[TC.er,D.low,bz];exact g
 |d x=>exact g
 |Fx f u=>exact CJ g
 |_=>rfl
def hY(m:Nat)(s:MS)(b:Nat):Nat:=if b<m then b else (pj b s.ρ).getD 0
theorem Bd.Ka{m b j:Nat}(h:Bd m s b j):hY m s b=j:=by
 rcases h with ⟨o,i⟩ | ⟨o,i⟩
 ·rw[hY,if_pos o,i]
 ·rw[hY,if_neg (by omega),i];rfl
def BF(σ σ1 σs F:TH)(s:MS)(i:Nat):Prop:=∃x y,σ1[hY σ.length s i]? = some x/\F[i]? = some y /\
 ((∃w e w' d,x=.cells w e/\y=.cells w' d/\aK (λa b=>CM σ.length σ1 σs s a b\/(a=b/\GC σ a)) (e.map Prod.snd) (d.map Prod.snd))\/uQ x y)
structure MX (σ σ1 σs F:TH) (s:MS) (n:Nat):Prop where
 len:F.length=σ.length+n
 Qc:σs.length=F.length
 sr:SR σs F
 bf:∀i,i<F.length->BF σ σ1 σs F s i
 mi:MI σ.length σ1 s
 nd:yg (s.ρ.map Prod.snd)=true
 fz:∀b∈s.fz,σ.length<=b/\b∉s.ρ.map Prod.snd
 kn:∀i,σ.length<=i->i<F.length->∃b',pj i s.ρ=some b'
theorem uE{i o:Nat}:∀{l:List (Nat×Nat)},pj i l=some o->(i,o)∈l:=by
 intro l;induction l with
 |nil=>grind [pj]
 |cons p l ih=>grind [pj,Nat.eq_of_beq_eq_true]
theorem T_:∀{l:List (Nat×Nat)},yg (l.map Prod.snd)=true->∀i j o,(i,o)∈l->(j,o)∈l->i=j:=by
 intro l;induction l with
 |nil=>simp_all
 |cons p l ih=>
  intro h i j o hi a;simp only[ql,yg,bI,im,yCj] at h;have no:∀k,(k,p.2)∈l->False:=λk hk=>h.1 p.2 (iP.2 ⟨_,hk,rfl⟩) (yC5 _)
  grind
section
variable{σs:TH}{n:Nat}(X:MX σ σ1 σs F s n)(H1:RH σ1 σ1D)
include X H1
theorem MX.rn:Rn σ.length σ1D (F.map TB.er) (hY σ.length s) (λb=>b∈s.fz):={
 le:=by grind [MX.len]
 id:=λi hi=>by rw[hY,if_pos hi]
 inj:=λi j hi A e=>by
  rw[wX] at hi A;unfold hY at e;split at e
  ·rename_i h1;split at e
   ·exact e
   ·rename_i h2;obtain ⟨o,u⟩:=X.kn j (by omega) A;rw[u] at e;have:=(X.mi.ge _ (uE u)).2
    grind
  ·rename_i h1;obtain ⟨o,u⟩:=X.kn i (by omega) hi;split at e
   ·rw[u] at e;have:=(X.mi.ge _ (uE u)).2
    grind
   ·obtain ⟨K,z⟩:=X.kn j (by omega) A;rw[u,z] at e;simp only[Rm] at e;subst e;exact T_ X.nd i j o (uE u) (uE z)
 fr:=λi hi G=>by
  rw[wX] at hi;obtain ⟨h1,h2⟩:=X.fz _ G;unfold hY at h1 h2;split at h1
  ·omega
  ·rename_i E;rw[if_neg E] at h2;obtain ⟨o,u⟩:=X.kn i (by omega) hi;rw[u] at h2;exact h2 (iP.2 ⟨_,uE u,rfl⟩)
 row:=λb hb=>by obtain ⟨i,l,O,R,h⟩:=X.mi.fz b hb;exact ⟨i,l,H1.row h⟩
 sz:=λi hi=>by
  rw[wX] at hi;obtain ⟨x,y,h1,h2,U⟩:=X.bf i hi;refine ⟨x.er,y.er,by rw[H1.eqD,lJ,h1];rfl,by simp_all,?_⟩
  grind [aK.len,List.length_map,TB.er,Ob.sz,uQ.er] }
theorem MX.cell{x y:TC}(c:CM σ.length σ1 σs s x y):du σ1D (F.map TB.er) (hY σ.length s) (λb=>b∈s.fz) x.er y.er:=by
 have N:=X.rn H1;rcases c with ⟨c1,c2,_⟩ | ⟨i,b,v,l,U,rfl,o,z,u⟩ | ⟨i,b,A,v,l0,aa,j,lv,l,U,rfl,o,z,rfl,h5⟩ | ⟨b,A,off,sz,rfl,o,rfl,u⟩ | ⟨b,A,rfl,o,rfl,u⟩ | ⟨f,b,A,sz,rfl,o,rfl,u⟩
 ·grind [du.le,du.data]
 ·rw[u];exact du.cD N o (H1.row z)
 ·have W:=X.sr.row b j l lv U h5;have E:=(eY.1 W).1;obtain ⟨x,y,G,K,O⟩:=X.bf b E;have q:=o.Ka;subst q;rw[z] at G;rw[W] at K;simp only[au] at G K;subst G K;rcases O with ⟨w,cs,w',ab,e,_⟩ | O
  ·simp at e
  ·rcases O with ⟨i',l',_,_,_,_,R,Z⟩ | ⟨_,_,_,_,_,R,_⟩
   ·simp only[TB.row.injEq] at R Z;obtain ⟨rfl,e6,_,_⟩:=R;obtain ⟨rfl,e7,_,_⟩:=Z;cases e6;cases e7;exact du.sl N (by simp_all)
   simp_all
 ·have:=du.ptr (F:=λb=>b∈s.fz) N (i:=b) (off:=off) (sz:=sz) (by grind [MX.Qc]);rw[o.Ka] at this;exact this
 ·have:=du.mp (F:=λb=>b∈s.fz) N (i:=b) (by grind [MX.Qc]);rw[o.Ka] at this;exact this
 ·have:=du.ptr (F:=λb=>b∈s.fz) N (i:=b) (off:=0) (sz:=sz) (by grind [MX.Qc]);rw[o.Ka] at this;exact du.fn1 this
theorem MX.rnH:Rz σ.length σ1D (F.map TB.er) (hY σ.length s) (λb=>b∈s.fz):={
 toRn:=X.rn H1
 ob:=λi hi=>by
  rw[wX] at hi;obtain ⟨x,y,h1,h2,z⟩:=X.bf i hi;refine ⟨x.er,y.er,by rw[H1.eqD,lJ,h1];rfl,by simp_all,?_⟩;rcases z with ⟨w,K,w',A,rfl,rfl,o⟩ | o
  ·refine ⟨_,rfl,?_⟩;have:=aK.map (R:=du σ1D (F.map TB.er) (hY σ.length s) (λb=>b∈s.fz)) (f:=TC.er) (g:=TC.er) (λa b h=>?_) o
   ·rw[TY,TY] at this;exact this
   ·rcases h with h | ⟨rfl,h⟩
    ·exact X.cell H1 h
    ·exact du.low (X.rn H1) h.low
  ·rw[o.er];rcases o with ⟨j,l,O,U,E,G,rfl,rfl⟩ | ⟨j,st,l,v,W,rfl,rfl⟩
   ·refine ⟨_,rfl,aK.Hy rfl λk a b u hb=>?_⟩;rw[u] at hb;simp only[au] at hb;subst hb;rw[lJ,cy] at u;obtain ⟨c,_,rfl⟩:=u;exact du.data (X.rn H1) rfl
   ·exact ⟨rfl,Ik l 0⟩ }
theorem MX.val{v y:TV}{d:D}(h:VM σ.length σ1 σs s v y)(i:RT v d):du σ1D (F.map TB.er) (hY σ.length s) (λb=>b∈s.fz) d (eD y):=by
 have cell:∀{x y:TC}{d:D},CM σ.length σ1 σs s x y->RC x d->du σ1D (F.map TB.er) (hY σ.length s) (λb=>b∈s.fz) d y.er:=λ{x y d} c r=>by
  rcases r with rfl | rfl
  ·exact du.le (λ_ _ _ _ _ _=>.any _) (X.cell H1 c)
  ·exact X.cell H1 c
 cases v with
 |c x => cases y with
  |c y=>exact cell h i
  |_=>exact h.elim
 |agg o => cases y with
  |agg G=>
   obtain ⟨ds,rfl,i⟩:=i;refine du.agg (aK.Hy ?_ λj a b u hb=>?_)
   ·rw[<-i.len,wX];exact aK.len h
   ·rw[lJ,cy] at hb;obtain ⟨y,z,rfl⟩:=hb;obtain ⟨x,K,O⟩:=aK.get' h j y z;obtain ⟨R,A,E⟩:=i.get' j a u
    grind
  |_=>exact h.elim
 |aT o=>exact h.elim
theorem MX.valL{vs j:List TV}{ds:List D}(h:aK (VM σ.length σ1 σs s) vs j)(i:fU vs ds):aK (du σ1D (F.map TB.er) (hY σ.length s) (λb=>b∈s.fz)) ds (j.map eD):=by
 induction h generalizing ds with
 |nil=>cases i;exact .nil
 |cons h _ ih=>
  cases i with
  |cons r i=>exact .cons (X.val H1 h r) (ih i)
theorem MX.vals{vs j:List TV}{ds:List D}(h:aK (VM σ.length σ1 σs s) vs j)(o:fU vs ds):du σ1D (F.map TB.er) (hY σ.length s) (λb=>b∈s.fz) (one ds) (one (j.map eD)):=by
 have i:aK (du σ1D (F.map TB.er) (hY σ.length s) (λb=>b∈s.fz)) ds (j.map eD):=by
  induction h generalizing ds with
  |nil=>cases o;exact .nil
  |cons h _ ih=>
   cases o with
   |cons r o=>exact .cons (X.val H1 h r) (ih o)
 generalize j.map eD=es at i ⊢;cases i with
 |nil=>exact du.aT .nil
 |cons h r=>
  cases r with
  |nil=>exact h
  |cons u r=>exact du.aT (.cons h (.cons u r))
end
end
end Go.Abs
end
