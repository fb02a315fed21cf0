/- DfwRs, DfwRz, DfwPl, DfwPm, DfwPn, DfwPo, DfwPq, DfwPs, DfwPt, DfwRl -/
import Derived.Test.YtcndmfkgdaipaaaGreatFwD
import Derived.Test.YtcndmfkgdaipaaaGreatFwE
import Derived.Test.YtcndmfkgdaipaaaGreatFwC
import Derived.Test.YtcndmfkgdaipaaaGreatFwB
set_option linter.all false
section
namespace Go.Abs
section
variable{σ σ':ar}{M M':Nat->Option Nat}{Fz Fz':Nat->Prop}{w w' w'':World}{P:Program}
theorem VC.xe(j:∀c:Nat,Fz c->w'.heap[c]? = w.heap[c]?){x:C}{v:Value}(h:VC Fz w x v):VC Fz w' x v:=h.mono λc i=>⟨i,j c i⟩
theorem V.xe(O:∀c:Nat,(Fz c∨∃b,M b=some c)->w'.heap[c]? = w.heap[c]?){d:D}{v:Value}(h:V σ M Fz w d v):V σ M Fz w' d v:=by
 induction h with
 |c h=>exact .c (h.xe λc U=>O c (.inl U))
 |any v=>exact .any v
 |ptr a x h j i=>exact .ptr a x h j i
 |sl a n cap A x h j i=>
  refine .sl a n cap A x h j (λW=>?_);rcases i W with u | ⟨c,o,E,T,R,Z,hn,hl,hh,hb,hr⟩
  ·exact .inl u
  ·exact .inr ⟨c,o,E,T,R,Z,hn,hl,hh,by rw[O c (.inr ⟨_,R⟩)];exact hb,hr⟩
 |mp c x h i=>exact .mp c x h i
 |fn z ws u h2 i hw G K=>exact .fn z ws u h2 G K
 |agg z u i ih=>exact .agg z u ih
 |aS z u i ih=>exact .aS z u ih
theorem bY.xe(K:∀c:Nat,(Fz c∨∃b,M b=some c)->w'.heap[c]? = w.heap[c]?){ob:Ob}{o:Obj}(h:bY σ M Fz w ob o):bY σ M Fz w' ob o:=by
 cases ob with
 |cells O=>obtain ⟨j,T,A,E,u⟩:=h;exact ⟨j,T,A,E,λi d v x z=>⟨(u i d v x z).1.xe K,(u i d v x z).2⟩⟩
 |map R G=>obtain ⟨j,A,E,u⟩:=h;exact ⟨j,A,E,λi k d n e x z=>let ⟨a,b,c⟩:=u i k d n e x z;⟨a,b,c.xe K⟩⟩
 |gone n=>exact h.elim
variable[Gl]
theorem Rel.xe(i:∀c:Nat,(Fz c∨∃b,M b=some c)->w'.heap[c]? = w.heap[c]?)(hs:w.heap.size<=w'.heap.size)(R:Rel σ M Fz w):Rel σ M Fz w':={
 blk:=λb c h=>by obtain ⟨u,ob,o,h1,h2,x⟩:=R.blk b c h;exact ⟨u,ob,o,h1,by rw[i c (.inr ⟨b,h⟩)];exact h2,x.xe i⟩
 inj:=R.inj
 fz:=λc h=>FY (R.fz c h) hs
 gl:=Gl.mono (λc j=>⟨j,i c (.inl j)⟩) R.gl }
theorem Rel.none(R:Rel σ M Fz w):Rel [] (λ_=>none) Fz w:=⟨λb c h=>by simp at h,λb i c h=>by simp at h,R.fz,R.gl⟩
omit [Gl] in
theorem bH.xe(E:bH σ M Fz w σ' M' Fz' w')(o:∀c:Nat,(Fz' c∨∃b,M' b=some c)∨c<w.heap.size->w''.heap[c]? = w'.heap[c]?)(hs:w'.heap.size<=w''.heap.size)(u:w''.os=w'.os/\w''.tape=w'.tape/\w''.output=w'.output):bH σ M Fz w σ' M' Fz' w'':={
 size:=lK E.size hs
 frame:=λc i G=>by rw[o c (.inr i)];exact E.frame c i G
 ld:=E.ld
 fz:=λc i=>⟨(E.fz c i).1,by rw[o c (.inl (.inl (E.fz c i).1))];exact (E.fz c i).2⟩
 ow:=E.ow
 qo:=λc x T K i=>by have z:=(Cy.1 i).1;obtain ⟨j,h,A⟩:=E.qo c x T K i;exact ⟨j,by rw[o c (.inr z)];exact h,A⟩
 keep:=E.keep
 out:=⟨u.1.trans E.out.1,u.2.1.trans E.out.2.1,u.2.2.trans E.out.2.2⟩ }
theorem V.xY{G:Nat->Prop}(K:∀c,Fz c->G c){d:D}{v:Value}(h:V σ M Fz w d v):V σ M G w d v:=by
 induction h with
 |c h=>exact .c (h.mono λc O=>⟨K c O,rfl⟩)
 |any v=>exact .any v
 |ptr a o h j i=>exact .ptr a o h j i
 |sl a n cap z o h j i=>exact .sl a n cap z o h j i
 |mp c o h i=>exact .mp c o h i
 |fn u R x U i W A E=>exact .fn u R x U A E
 |agg u x i ih=>exact .agg u x ih
 |aS u x i ih=>exact .aS u x ih
theorem Rel.xY{x:Nat->Prop}(R:Rel σ M Fz w)(z:∀c,Fz c->x c)(O:∀c,x c->Fz c∨((∀b,M b≠some c)/\c<w.heap.size)):Rel σ M x w:={
 blk:=λb c h=>by
  obtain ⟨U,ob,o,h1,h2,A⟩:=R.blk b c h;refine ⟨λW=>(O c W).elim U λZ=>Z.1 b h,ob,o,h1,h2,?_⟩;cases ob with
  |cells cs=>obtain ⟨j,T,E,G,u⟩:=A;exact ⟨j,T,E,G,λi d v h1 h2=>⟨(u i d v h1 h2).1.xY z,(u i d v h1 h2).2⟩⟩
  |map es K=>obtain ⟨j,E,G,u⟩:=A;exact ⟨j,E,G,λi k d n e h1 h2=>let ⟨a,b,c⟩:=u i k d n e h1 h2;⟨a,b,c.xY z⟩⟩
  |gone n=>exact A.elim
 inj:=R.inj
 fz:=λc h=>(O c h).elim (R.fz c) λh=>h.2
 gl:=Gl.mono (λc hc=>⟨z c hc,rfl⟩) R.gl }
omit [Gl] in
theorem bH.xY{j:Nat->Prop}(E:bH σ M Fz w σ' M' Fz' w')(o:∀c,Fz' c->j c)(u:∀c,j c->Fz' c∨w.heap.size<=c):bH σ M Fz w σ' M' j w':={
 size:=E.size
 frame:=E.frame
 ld:=E.ld
 fz:=λc i=>⟨o c (E.fz c i).1,(E.fz c i).2⟩
 ow:=λc i=>(u c i).elim (E.ow c) λh=>.inr (.inr h)
 qo:=E.qo
 keep:=E.keep
 out:=E.out }
def seen(M:Nat->Option Nat)(Fz:Nat->Prop)(c:Nat):Prop:=Fz c∨∃b,M b=some c
theorem Ih{a:Nat->Prop}(b:∀c,Fz c->a c):(λc=>seen M Fz c∨a c)=seen M a:=funext λc=>propext ⟨λh=>h.elim (λh=>h.imp (b c) id) .inl,λh=>h.elim .inr λh=>.inl (.inr h)⟩
theorem Rel.Jy(R:Rel σ M Fz w){c:Nat}(h:seen M Fz c):c<w.heap.size:=h.elim (R.fz c) λ⟨_,h⟩=>(R.lt h).2
omit [Gl] in
theorem bH.kept{x:Nat->Option Nat}{F j:Nat->Prop}(E:bH σ M Fz w σ' M' Fz' w')(W:KK M' Fz' x j)(A:∀c:Nat,F c->j c/\w'.heap[c]? = w.heap[c]?):Kept F (seen M Fz) w j (seen x j) w':={
 size:=E.size
 off:=λc G i=>by
  unfold seen at i;simp only[not_or,not_exists] at i;have z:∀b,M' b≠some c:=λb K=>(E.ld b c K).elim (λ⟨o,u⟩=>i.2 o u) (by omega);have O:¬Fz' c:=λh=>by
   rcases E.ow c h with h | ⟨o,u⟩ | h
   ·exact i.1 h
   ·exact i.2 o u
   ·omega
  refine ⟨E.frame c G i.2,λh=>?_⟩;rcases h with h | ⟨b,h⟩
  ·rcases W.2.1 c h with h | ⟨b,h⟩
   ·exact O h
   ·exact z b h
  ·obtain ⟨R,U⟩:=W.1 b c h;exact z R U
 fz:=A
 out:=E.out }
def Wx:mS->Code
 |.normal=>.skip
 |.exit i=>if i % 2=0 then .exit (i / 2) else .goto (i / 2)
 |.ret=>.ret
omit [Gl] in
theorem wp_jmp{x:mS}{Q:Exit->Act->World->Prop}{a:Act}(h:Q (yu x) a w):(Wx x).wp P Q a w:=by
 cases x with
 |normal=>exact wp_skip h
 |ret=>exact wp_ret h
 |exit i=>
  unfold yu at h;unfold Wx;dsimp only at h ⊢;split <;> rename_i e
  ·rw[if_pos e] at h;exact wp_exit h
  ·rw[if_neg e] at h;exact wp_goto h
omit [Gl] in
theorem Nc{I:Nat->(Nat->Prop)->(Nat->Prop)->World->Prop}{f:Code->(Nat->Prop)->(Nat->Prop)->World->Prop}{i:Nat}{F U b d:Nat->Prop}{x:mS}{a:Act}(g:x≠.normal)(k:Kept F U w b d w')(h:f (Wx x) b d w'):rpost I f i F U w (yu x) a w':=by
 cases x with
 |normal=>exact absurd rfl g
 |ret=>exact ⟨b,d,k,h⟩
 |exit j=>
  unfold Wx at h;unfold yu;dsimp only at h ⊢;split <;> rename_i e
  ·rw[if_pos e] at h;exact ⟨b,d,k,h⟩
  ·rw[if_neg e] at h;exact ⟨b,d,k,h⟩
def Lp:List Nat->List D->AL->AL
 |p::ps,d::ds,al=>Lp ps ds ((p,d)::al)
 |_,_,al=>al
omit [Gl] in
theorem eU.Lp{n:Nat}:∀{ps:List Nat}{ds:List D}{vs:List Value}{al:AL}{i:Array Value},eU n σ M Fz w al i->(∀p∈ps,p<n)->ps.length=ds.length->vs.length=ds.length->(∀(k:Nat) d v,ds[k]? = some d->vs[k]? = some v->V σ M Fz w d v) ->
  eU n σ M Fz w (Lp ps ds al) ((ps.zip vs).foldl (λt (p,v)=>t.setIfInBounds p v) i):=by
 intro ps;induction ps with
 |nil=>intro ds vs al i A _ _ _ _;simpa[Abs.Lp] using A
 |cons p ps ih=>
  intro ds vs al i A u x z E;cases ds with
  |nil=>simp at x
  |cons d ds=>
   cases vs with
   |nil=>simp at z
   |cons v vs=>
    simp only[Abs.Lp,List.zip_cons_cons,List.foldl_cons];refine ih ⟨by simp[A.1],λt G j=>?_⟩ (λq K=>u q (lI _ K)) (by simpa using x) (by simpa using z) λk d v a b=>E (k+1) d v (by simpa using a) (by simpa using b);simp only[lk] at j;split at j
    ·rename_i o;have:=cY o;subst this;simp only[au] at j;subst j;refine ⟨v,?_,E 0 _ _ rfl rfl⟩;rw[yAQ,if_pos rfl,if_pos (by rw[A.1];exact u _ (by simp))]
    ·rename_i o;obtain ⟨O,R,U⟩:=A.2 t G j;refine ⟨O,?_,U⟩;rw[yAQ,if_neg (λe=>by rw[e] at o;simp at o)];exact R
end
section
variable[Gl][Ty]{P:Program}{n:Nat}{Q:mS->AL->ar->Prop}
def Rng(P:Program)(a b:aR)(n:Nat)(ps:List Nat)(g:Nat)(x:C)(m:Nat)(Q:mS->AL->ar->Prop):List (List D)->AL->ar->Prop
 |[],al,σ=>(σ[g]? = some (.cells [.c x])/\σ.length=m)/\Q .normal al σ
 |ds :: xs, al, σ => (σ[g]? = some (.cells [.c x]) /\ σ.length = m) /\ Sem P a n (Lp ps ds al) σ λe h σ1 => e = .normal /\ Sem P b n h σ1 λe _ aA => match e with
  |.normal=>∃d f,wy m al aA d f/\Rng P a b n ps g x m Q xs d f
  |e=>Q e al aA
theorem Rng.cap{a b:aR}{ps:List Nat}{i:Nat}{x:C}{m:Nat}{xs:List (List D)}{al:AL}{σ:ar}(h:Rng P a b n ps i x m Q xs al σ):σ[i]? = some (.cells [.c x])/\σ.length=m:=by
 cases xs with
 |nil=>exact h.1
 |cons d ds=>exact h.1
theorem Sem.preW{ac:aR}{al i:AL}{σ aA:ar}(hs:wy σ.length al σ i aA)(h:Sem P ac n i aA Q):Sem P ac n al σ Q:=by intro c u M Fz w a K R A z;obtain ⟨E,G,O,U,W,o,W2⟩:=hs.use R R A (bH.refl R) (cX _);exact h c u E G w a K O U λx j σ' Z w' M' Fz' hQ hd R' A' E' hl=>z x j σ' Z w' M' Fz' hQ hd R' A' (W.trans E' o) (lK o hl)
theorem Sem.Wc{o:aP}{ps:List Nat}{a b:aR}{gf bc:Nat}{x:C}{items:List (List D)}{al:AL}{σ:ar}(ho:(match o with | .t k=>lk k al | .k d=>some d)=some (.fn (.func gf) [] [.ptr bc 0 1]))
  (af:aV P gf=true) (it:ItOk P gf [[x]] items) (be:∀ds∈items,ds.length=ps.length) (bt:∀p∈ps,p<n) (h:Rng P a b n ps bc x σ.length Q items al σ):Sem P (.Wc o ps a b) n al σ Q:=by
 intro c G M Fz w ab K R A hK;cases c with
 |rangeFunc g pt c1 c2=>
  rcases eE G with ⟨o',a',b',h1,h2,h3,h4,e⟩ | e
  ·simp only[aR.Wc.injEq] at e;obtain ⟨rfl,rfl,rfl,rfl⟩:=e;simp only[bN] at h4;refine ⟨?_,λhh=>by simp[Code.calm] at hh⟩;have hv:=my A.dk.1 h1;have bu:o.ev (xU n al)=.fn (.func gf) [] [.ptr bc 0 1]:=by
    cases o with
    |t k=>dsimp only at ho;simp[aP.ev,A.dk.2.2 k _ ho]
    |k d=>simp only[au] at ho;subst ho;rfl
   rw[bu] at hv;obtain ⟨lb,bv,bw,b0⟩:∃lb:Array Value,ab.eval g=.func (.func gf) #[] lb/\lb.size=1/\∀v,lb[0]? = some v->V σ M Fz w (.ptr bc 0 1) v:=by
    generalize ab.eval g=y at hv;cases hv with
    |fn vs ws g1 g2 _ g4=>have:vs=#[]:=Array.eq_empty_of_size_eq_zero (by simpa using g1);exact ⟨ws,by rw[this],by simpa using g2,λv hv=>g4 0 _ v rfl hv⟩
   have eg:∀args w,(callFunc gf args).run P w=.ok (.enter gf args) w:=λargs w=>by
    unfold aV at af;split at af
    ·rename_i fn b1;simp only[bN,JP,ne_eq] at af;obtain ⟨hb,b2⟩:=af;have b3:fn.body.isNone=false:=by simp_all
     simp only[callFunc,Sem.run_bind,Sem.run_pure,Result.andThen_ok,run_program,b1,nB,b2,b3,cw,b_]
    ·simp at af
   obtain ⟨I,hI⟩:∃I:Nat->(Nat->Prop)->(Nat->Prop)->World->Prop,I=λi F U W=>∃E z Z,Rng P a b n pt.toList bc x σ.length Q (items.drop i) E z/\Rel z Z F W/\eU n z Z F W E ab.tmps/\bH σ M Fz w z Z F W/\U=seen Z F:=⟨_,rfl⟩;obtain ⟨Ix,ax⟩:∃Ix:Code->(Nat->Prop)->(Nat->Prop)->World->Prop,Ix=λc F U W=>∃e E z Z,c=Wx e/\Q e E z/\σ.length<=z.length/\Rel z Z F W/\eU n z Z F W E ab.tmps/\bH σ M Fz w z Z F W/\U=seen Z F:=⟨_,rfl⟩;have ak:∀{z:ar}{Z:Nat->Option Nat}{F:Nat->Prop}{W W':World}{E:AL}{tm:Array Value},(∀c:Nat,seen Z F c∨c<w.heap.size->W'.heap[c]? = W.heap[c]?)->eU n z Z F W E tm->eU n z Z F W' E tm:=λO A'=>⟨A'.1,λt d ht=>let ⟨v,g1,g2⟩:=A'.2 t d ht;⟨v,g1,g2.xe λc G=>O c (.inl G)⟩⟩
   have fI:∀i,xM w.heap.size (I i):=λi=>by
    subst hI;refine ⟨λF U W ⟨E,z,Z,_,R',_⟩=>R'.none,λF U W ⟨E,z,Z,_,_,_,_,e⟩ c G=>by rw[e];exact .inl G,λF U W ⟨E,z,Z,_,R',_,_,e⟩ c G=>R'.Jy (by rw[e] at G;exact G),λF U W ⟨E,z,Z,_,_,_,E',_⟩=>E'.size,λF U W W' ⟨E,z,Z,hr,R',A',E',e⟩ hs O ad=>?_,λF U W F' ⟨E,z,Z,hr,R',A',E',e⟩ ha hb=>?_⟩
    rotate_left
    ·rw[e] at hb ⊢;exact ⟨E,z,Z,hr,R'.xY ha λc G=>(hb c G).imp id λ⟨q,r⟩=>⟨λb a2=>q (.inr ⟨b,a2⟩),r.2⟩,⟨A'.1,λt d ht=>let ⟨v,g1,g2⟩:=A'.2 t d ht;⟨v,g1,g2.xY ha⟩⟩,E'.xY ha λc G=>(hb c G).imp id λ⟨q,r⟩=>r.1,Ih ha⟩
    rw[e] at O;exact ⟨E,z,Z,hr,R'.xe (λc G=>O c (.inl G)) hs,ak O A',E'.xe O hs ad,e⟩
   have b4:∀c,xM w.heap.size (Ix c):=λc=>by
    subst ax;refine ⟨λF U W ⟨x,E,z,Z,_,_,_,R',_⟩=>R'.none,λF U W ⟨x,E,z,Z,_,_,_,_,_,_,e⟩ c G=>by rw[e];exact .inl G,λF U W ⟨x,E,z,Z,_,_,_,R',_,_,e⟩ c G=>R'.Jy (by rw[e] at G;exact G),λF U W ⟨x,E,z,Z,_,_,_,_,_,E',_⟩=>E'.size,λF U W W' ⟨x,E,z,Z,hx,hq,an,R',A',E',e⟩ hs O ad=>?_,λF U W F' ⟨x,E,z,Z,hx,hq,an,R',A',E',e⟩ ha hb=>?_⟩
    rotate_left
    ·rw[e] at hb ⊢;exact ⟨x,E,z,Z,hx,hq,an,R'.xY ha λc G=>(hb c G).imp id λ⟨q,r⟩=>⟨λb a2=>q (.inr ⟨b,a2⟩),r.2⟩,⟨A'.1,λt d ht=>let ⟨v,g1,g2⟩:=A'.2 t d ht;⟨v,g1,g2.xY ha⟩⟩,E'.xY ha λc G=>(hb c G).imp id λ⟨q,r⟩=>r.1,Ih ha⟩
    rw[e] at O;exact ⟨x,E,z,Z,hx,hq,an,R'.xe (λc G=>O c (.inl G)) hs,ak O A',E'.xe O hs ad,e⟩
   refine YG (caps:=[[x]]) (items:=items) (F0:=Fz) (U0:=seen M Fz) bv eg it (by simpa using be) I Ix fI b4 ?_ ?_ ?_ ?_ ?_
   ·
    intro i F U W hi;subst hI;obtain ⟨E,z,Z,hr,R',_,E',_⟩:=hi;refine ⟨by simp[bw],λk cs v hk hv=>?_⟩;have b5:k=0:=by have:=(gC.1 hk).1;simp at this;exact this
    subst b5;simp only[List.getElem?_cons_zero,au] at hk;subst hk;obtain ⟨c,hM,rfl⟩:=((b0 v hv).mono E').wP (Pc hr.cap.1 (sz:=1) rfl);obtain ⟨a5,T,hh,hl,b6⟩:=R'.row hM hr.cap.1;refine ⟨c,rfl,a5,T,hh,by simpa using hl,λj d u hd hu=>?_⟩;have b7:j=0:=by have:=(gC.1 hd).1;simp at this;exact this
    subst b7;simp only[List.getElem?_cons_zero,au] at hd;subst hd;obtain ⟨g1,g2⟩:=b6 0 _ _ rfl hu;exact ⟨g1.qC,g2⟩
   ·subst hI;exact ⟨al,σ,M,by simpa using h,R,A,bH.refl R,rfl⟩
   ·
    intro l i ds F U W vs a6 hi bh;subst hI;obtain ⟨E,z,Z,hr,R',A',E',rfl⟩:=hi;have b8:=(gC.1 a6).1;have b9:items.drop i=ds::items.drop (i+1):=by rw[yB1 b8];simp only[yBT,Oa];have:=gC.1 a6;exact this.2
    rw[b9] at hr;obtain ⟨⟨c5,c6⟩,bi⟩:=hr;have cg:=be ds (Bb a6);have ch:vs.toList.length=ds.length:=by simpa using bh.1
    have A1:=eU.Lp (ps:=pt.toList) (ds:=ds) (vs:=vs.toList) A' bt cg.symm ch λk d v g1 g2=>by have:=bh.2 k d v g1 (by simpa using g2);exact this.sub (λb ob hb=>by simp at hb) (λ_ _ h=>by simp at h) (λc h=>⟨h,rfl⟩) (λc a5 T fr h=>⟨a5,h,rfl⟩)
    have ez:(pt.zip vs).foldl (λt (p,v)=>t.setIfInBounds p v) ab.tmps=(pt.toList.zip vs.toList).foldl (λt (p,v)=>t.setIfInBounds p v) ab.tmps:=by rw[<-xAh,Array.toList_zip]
    rw[ez];refine (bi c1 h2 Z F W { tmps:=_,defers:=[] } _ R' A1 λx1 ck σ1 a1 w1 M1 F1 cm _ R1 co E1 c7=>?_).2 h4.1 l 0;obtain ⟨rfl,hb⟩:=cm;refine ⟨F1,seen M1 F1,E1.kept KK.refl E1.fz,λc G=>R1.Jy G,λw2 bk O ad=>?_⟩;have R2:=R1.xe (λc G=>O c (.inl G)) (Nat.le_of_eq bk);have cp:eU n σ1 M1 F1 w2 ck a1.tmps:=ak O co;have Et:bH σ M Fz w σ1 M1 F1 w2:=(E'.trans E1 (by omega)).xe O (Nat.le_of_eq bk) ad;refine (hb c2 h3 M1 F1 w2 a1 _ R2 cp λx2 c9 aA a3 w3 M3 F3 a7 _ R3 da E3 c8=>?_).2 h4.2 l 0;have Ef:bH σ M Fz w aA M3 F3 w3:=Et.trans E3 (by omega);have Vm:∀{d:D}{v:Value},V z Z F W d v->V aA M3 F3 w3 d v:=λhv=>by have:=hv.mono E1;exact (this.xe (λc G=>O c (.inl G))).mono E3
    have a8:eU n aA M3 F3 w3 E ab.tmps:=⟨A'.1,λt d ht=>let ⟨v,g1,g2⟩:=A'.2 t d ht;⟨v,g1,Vm g2⟩⟩;have a0:∀c:Nat,F c->F3 c/\w3.heap[c]? = w2.heap[c]?:=λc G=>E3.fz c (E1.fz c G).1;cases x2 with
    |normal=>obtain ⟨cv,c0,hw,a9⟩:=a7;obtain ⟨M4,F4,R4,A4,W4,E4⟩:=hw.2 n M3 F3 w3 ab.tmps R3 a8;have c3:=E4 σ M Fz w R Ef (cX _);have c4:∀c:Nat,F c->F4 c:=λc G=>W4.2.2 c (a0 c G).1;exact ⟨F4,seen M4 F4,E3.kept W4 λc G=>⟨c4 c G,(a0 c G).2⟩,cv,c0,M4,a9,R4,A4,c3,rfl⟩
    |exit j=>exact Nc (by simp) (E3.kept KK.refl a0) (by subst ax;exact ⟨.exit j,E,aA,M3,rfl,a7,by omega,R3,a8,Ef,rfl⟩)
    |ret=>exact Nc (by simp) (E3.kept KK.refl a0) (by subst ax;exact ⟨.ret,E,aA,M3,rfl,a7,by omega,R3,a8,Ef,rfl⟩)
   ·intro D F U W hD bb aa bd hi;subst hI;obtain ⟨E,z,Z,hr,R',A',E',rfl⟩:=hi;rw[List.drop_length] at hr;unfold seen at aa;simp only[not_or,not_exists] at aa;exact hK .normal E z _ W Z F hr.2 ⟨[D],rfl,by simp,λD' av=>by simp only[zi] at av;subst av;exact ⟨hD,bb,aa.2,aa.1,bd⟩⟩ R' A' E' (Nat.le_of_eq hr.1.2.symm)
   ·intro D c F U W hD bb aa bd hi;subst ax;obtain ⟨e,E,z,Z,rfl,hq,an,R',A',E',rfl⟩:=hi;unfold seen at aa;simp only[not_or,not_exists] at aa;exact wp_jmp (hK e E z _ W Z F hq ⟨[D],rfl,by simp,λD' av=>by simp only[zi] at av;subst av;exact ⟨hD,bb,aa.2,aa.1,bd⟩⟩ R' A' E' an)
  ·cases e
 |region id db bl=>
  simp only[bM] at G;split at G
  ·cases bl with
   |false=>simp at G
   |true=>simp only[if_true] at G;split at G <;> simp at G
  ·simp at G
 |seq c1 c2=>simp only[bM] at G;split at G <;> simp at G
 |cond o c1 c2=>simp only[bM] at G;split at G <;> simp at G
 |scope b=>simp only[bM,cE] at G;obtain ⟨a1,_,e1⟩:=G;rcases KT a1 with ⟨l,r,_,e⟩ | e <;> rw[e] at e1 <;> simp at e1
 |_=>simp[bM] at G
end
end Go.Abs
end
section
namespace Go.Abs
noncomputable section
variable[Gl][Y:Ty]
section
variable{P:Program}{n:Nat}{al:AL}{σ:ar}{Q:mS->AL->ar->Prop}{ac:aR}
theorem Sem.frzR{t b i:Nat}{l:List (TT i)}(hr:lk t al=some (OS (aw i) b l.length))(hb:σ[b]? = some (OB (enc i) l))(h:Sem P ac n ((t,.c (.cJ false (l.map (enc i))))::al) (σ.set b (OB (enc i) (l++[PG i]))) Q):Sem P ac n al σ Q:=by
 intro c Z M Fz w a K R A hK;have ad:=dfl_len i l;have cD:∀(x:Nat) z,σ[x]? = some z->∃u,(σ.set b (OB (enc i) (l++[PG i])))[x]? = some u/\z.sz<=u.sz/\(u.sz=z.sz->x≠b/\u=z):=λx z E=>by
  by_cases e:x=b
  ·subst e;rw[hb] at E;simp only[au] at E;subst E;exact ⟨_,Hs hb,yCc ad,λe=>by omega⟩
  ·exact ⟨z,by rw[eT e];exact E,cX _,λ_=>⟨e,rfl⟩⟩
 have conv:∀{d:D}{v:Value},V σ M Fz w d v->V (σ.set b (OB (enc i) (l++[PG i]))) (λx=>if x=b then none else M x) (λc=>Fz c∨M b=some c) w d v:=by
  intro d v G;induction G with
  |c h=>exact .c (h.mono λc Z=>⟨.inl Z,rfl⟩)
  |any v=>exact .any v
  |ptr a z h af G=>
   obtain ⟨u,h1,h2,O⟩:=cD _ _ h;exact .ptr a u h1 (by omega) (λhe=>by obtain ⟨U,rfl⟩:=O (by omega);rw[if_neg U];exact G he)
  |sl a m cap ak z h af G=>
   obtain ⟨u,h1,h2,O⟩:=cD _ _ h;exact .sl a m cap ak u h1 (by omega) (λhe=>by obtain ⟨U,rfl⟩:=O (by omega);rw[if_neg U];exact G he)
  |mp c z h G=>
   obtain ⟨u,h1,h2,O⟩:=cD _ _ h;exact .mp c u h1 (λhe=>by obtain ⟨U,rfl⟩:=O (by omega);rw[if_neg U];exact G he)
  |fn vs ws h1 h2 G hw an av=>exact .fn vs ws h1 h2 an av
  |agg vs h1 G ih=>exact .agg vs h1 ih
  |aS vs h1 G ih=>exact .aS vs h1 ih
 have ax:∀{z o},bY σ M Fz w z o->bY (σ.set b (OB (enc i) (l++[PG i]))) (λx=>if x=b then none else M x) (λc=>Fz c∨M b=some c) w z o:=λ{z o} U=>by
  cases z with
  |cells cs=>obtain ⟨W,T,ho,hl,G⟩:=U;exact ⟨W,T,ho,hl,λi d v x y=>⟨conv (G i d v x y).1,(G i d v x y).2⟩⟩
  |map es a0=>obtain ⟨W,ho,hl,G⟩:=U;exact ⟨W,ho,hl,λi k d n e x y=>let ⟨p,q,r⟩:=G i k d n e x y;⟨p,q,conv r⟩⟩
  |gone n=>exact U.elim
 have R1:Rel (σ.set b (OB (enc i) (l++[PG i]))) (λx=>if x=b then none else M x) (λc=>Fz c∨M b=some c) w:=by
  refine ⟨λx c E=>?_,λx x' c E aa=>?_,λc Z=>Z.elim (R.fz c) λh=>(R.lt h).2,Gl.mono (λc h=>⟨.inl h,rfl⟩) R.gl⟩
  ·split at E
   ·simp at E
   rename_i ab;obtain ⟨h1,z,o,h2,O,U⟩:=R.blk x c E;exact ⟨λhf=>hf.elim h1 λhf=>ab (R.inj _ _ c E hf),z,o,by rw[eT ab];exact h2,O,ax U⟩
  ·split at E
   ·simp at E
   split at aa
   ·simp at aa
   exact R.inj _ _ c E aa
 have E1:bH σ M Fz w (σ.set b (OB (enc i) (l++[PG i]))) (λx=>if x=b then none else M x) (λc=>Fz c∨M b=some c) w:={
  size:=cX _
  frame:=λ_ _ _=>rfl
  ld:=λx c h=>by
   split at h
   ·simp at h
   exact .inl ⟨x,h⟩
  fz:=λc h=>⟨.inl h,rfl⟩
  ow:=λc h=>h.elim .inl λh=>.inr (.inl ⟨b,h⟩)
  qo:=λc W T fr h=>⟨W,h,rfl⟩
  keep:=λx z h=>by obtain ⟨u,h1,h2,O⟩:=cD x z h;exact ⟨u,h1,h2,λe=>by rw[if_neg (O e).1]⟩
  out:=⟨rfl,rfl,rfl⟩ }
 have N0:Rn (Y:=Y) 0 σ [] id (λx=>x=b):=⟨cX _,λi hi=>by omega,λi j hi=>by simp at hi,λi hi=>by simp at hi,λx E=>by subst E;exact ⟨i,l,hb⟩,λi hi=>by simp at hi⟩
 have A1:eU n (σ.set b (OB (enc i) (l++[PG i]))) (λx=>if x=b then none else M x) (λc=>Fz c∨M b=some c) w ((t,.c (.cJ false (l.map (enc i))))::al) a.tmps:=by
  refine ⟨A.1,λs d hs=>?_⟩;simp only[lk] at hs;split at hs
  ·rename_i a1;have:=cY a1;subst this;simp only[au] at hs;subst hs;obtain ⟨v,h1,h2⟩:=A.2 _ _ hr;have O:=(du.cJ N0 rfl hb M Fz w v R h2).qC;exact ⟨v,h1,.c (O.mono λc Z=>⟨Z.imp id λ⟨x,E,h⟩=>E▸h,rfl⟩)⟩
  ·obtain ⟨v,h1,h2⟩:=A.2 s d hs;exact ⟨v,h1,conv h2⟩
 exact h c Z _ _ w a K R1 A1 λx a2 σ' a' w' M' Fz' hQ hd R' A' E' hl=>hK x a2 σ' a' w' M' Fz' hQ hd R' A' (E1.trans E' (by simp)) (by simpa using hl)
end
theorem frzz_ok{P:Program}{n:Nat}{ac:aR}{Q:mS->AL->ar->Prop}:∀(os:List (Nat×Nat))(al a:TA)(σ σ':TH)(alD:AL)(σD:ar),ZC os al σ=some (a,σ')->Ref al σ alD σD ->
  (∃pre,a=pre++al)/\Ext σ σ'/\((∀f g,Ref a σ' f g->Sem P ac n f g Q)->Sem P ac n alD σD Q):=by
 intro os;induction os with
 |nil=>intro al a σ σ' alD σD h k;simp only[ZC,au,aX] at h;obtain ⟨rfl,rfl⟩:=h;exact ⟨⟨[],rfl⟩,Ext.refl σ,λhs=>hs alD σD k⟩
 |cons o os ih=>
  intro al a σ σ' alD σD h k;obtain ⟨t,U⟩:=o;simp only[ZC] at h;split at h
  ·rename_i i b v m E;split at h
   ·rename_i j l q r x;split at h
    ·rename_i y;have y:=cY y;subst y;obtain ⟨p,G⟩:=kF E;obtain ⟨d,K,L,N⟩:=k.rg t _ p G;have:=RT.c1 (by simp) L;subst this;obtain ⟨blk,z,O⟩:=N;rw[x] at z;simp only[au] at z;subst z;obtain ⟨rfl,rfl⟩:=(O _ _ _ _ rfl).2 rfl;have u:BE (.row j l q r) (.row j (l++[PG j]) (q+1) (r+1)):=⟨_,q+1,r+1,rfl,by omega,by omega,λe=>by omega,λe=>by omega⟩;have A:=Ext.set x u;have H1:RH (σ.set b (.row j (l++[PG j]) (q+1) (r+1))) (σD.set b (OB (enc j) (l++[PG j]))):=k.hh.set x u rfl (λw W e=>by simp at e);have R:Ref ((t,.v (.c (.sl j l)))::al) (σ.set b (.row j (l++[PG j]) (q+1) (r+1))) ((t,.c (.cJ false (l.map (enc j))))::alD) (σD.set b (OB (enc j) (l++[PG j]))):=k.set H1 A (Or.inr rfl) True.intro;obtain ⟨⟨pre,Z⟩,S,T⟩:=ih _ _ _ _ _ _ h R;exact ⟨⟨pre++[(t,.v (.c (.sl j l)))],by simp_all⟩,Ext.trans k.hh A S,λhs=>Sem.frzR K (k.hh.row x) (T hs)⟩
    ·simp at h
   ·simp at h
  ·simp at h
theorem Yd{R:Type}{a b:Nat}{k:Option R}{r:R}(h:Ck a b k=some r):a=b/\k=some r:=by
 unfold Ck at h;split at h
 ·rename_i e;exact ⟨cY e,h⟩
 ·simp at h
theorem refr_ok{R:Type}{k:TA->Option R}{r:R}{σ:TH}{σD:ar}:∀(hs:List (Nat×Nat))(al:TA)(alD:AL),XD hs al σ k=some r->Ref al σ alD σD ->
  ∃f a,k f=some r/\Ref f σ a σD/\(∃pre,f=pre++al)/\∀t d,lk t a=some d->lk t alD=some d:=by
 intro hs;induction hs with
 |nil=>intro al alD h g;exact ⟨al,alD,h,g,⟨[],rfl⟩,λ_ _ h=>h⟩
 |cons o hs ih=>
  intro al alD h g;obtain ⟨t,W⟩:=o;simp only[XD] at h;split at h
  ·rename_i i b v m y;split at h
   ·rename_i j l x Z z;split at h
    ·rename_i q;have q:=cY q;subst q;obtain ⟨A,E⟩:=Yd h;clear h;subst A;obtain ⟨p,G⟩:=kF y;obtain ⟨d,h1,K,_⟩:=g.rg t _ p G;have:=RT.c1 (by simp) K;subst this;have L:Ref ((t,.v (.c (.own j b x l.length)))::al) σ ((t,OS (aw j) b l.length)::alD) σD:=g.set g.hh (Ext.refl σ) (Or.inr rfl) ⟨_,z,λj' l' N O e=>by grind⟩;obtain ⟨f,a,S,T,⟨pre,g3⟩,U⟩:=ih _ _ E L;refine ⟨f,a,S,T,⟨pre++[(t,.v (.c (.own j b x l.length)))],by simp_all⟩,λs d hs=>?_⟩;have:=U s d hs;simp only[lk] at this;split at this
     ·rename_i u;have:=cY u
      grind [TC.er]
     ·exact this
    ·simp at h
   ·simp at h
  ·simp at h
theorem wy.lks{m:Nat}{al i:AL}{σ:ar}(hm:m<=σ.length)(h:∀t d,lk t i=some d->lk t al=some d):wy m al σ i σ:=⟨hm,λn M' Fz' w' j R A=>⟨M',Fz',R,⟨A.1,λt d o=>A.2 t d (h t d o)⟩,KK.refl,λσ M Fz w _ E _=>E⟩⟩
end
end Go.Abs
end
section
namespace Go.Abs
noncomputable section
variable[Gl][Y:Ty]
def rj{R:Type}(al:TA)(σ:TH)(K:KC R)(r:R):mS->AL->ar->Prop:=λx b d=>∃a σ',Ref a σ' b d/\(∃pre,a=pre++al)/\Ext σ σ'/\K x a σ'=some r
theorem qw{hs:List (Nat×Nat)}{md:List Nat}{al pre:TA}{σ:TH}(h:Jr hs md al σ (pre++al)=true):∀y∈pre,y.1∈md∨∃b i l a d,(y.1,b)∈hs/\σ[b]? = some (.row i l a d):=by
 intro y f;unfold Jr at h;rw[AH,Nat.add_sub_cancel,List.take_left,iR] at h;have:=h y f;rw[gF,List.any_eq_true,List.any_eq_true] at this;rcases this with ⟨z,g,e⟩ | ⟨z,g,e⟩
 ·simp_all
 ·simp only[bN] at e
  grind [Nat.eq_of_beq_eq_true,rowAt]
theorem rC{h:JH}{md:List Nat}{al a:TA}{σ σ1:TH}{x:si h.pl}(e:Py h md al σ a σ1=some x):Jr h.hs md al σ a=true/\eI (h.pl++MQ h.zs) 0 σ σ1=true/\Zc a σ1 h.hs=true/\WG σ.length σ1 h.zs=true/\LW a σ1 h.pl=some x:=by
 unfold Py at e
 grind
theorem Ab{σ aA:TH}(q:Ext σ aA)(t:aA.length=σ.length){b i d f:Nat}{l:List (TT i)}(h:aA[b]? = some (.row i l d f)):∃i l d f,σ[b]? = some (.row i l d f):=by
 have a:b<σ.length:=by grind
 obtain ⟨o,k,g⟩:=q b _ (eS a);rw[h] at k;simp only[au] at k;subst k;have r:σ[b]? = some σ[b]:=eS a;rw[r];cases p:σ[b] with
 |row i l d f=>simp_all
 |cells w u=>rw[p] at g;obtain ⟨_,_,e,_⟩:=g;simp at e
 |mp j st l v=>rw[p] at g;obtain ⟨_,_,_,_,e,_⟩:=g;simp at e
theorem qX(h:JH)(md:List Nat)(al:TA)(σ:TH)(x:si h.pl):∃pre,dX h md al σ x=pre++al/\∀y∈pre,(∃c,Pl.r y.1 c∈h.pl)∨(∃b i l g j,(y.1,b)∈h.hs/\(cR h md al σ x)[b]? = some (.row i l g j))∨y.1∈md:=by
 obtain ⟨d,t,o,_⟩:=Hn md al;obtain ⟨e,u,k,_⟩:=MN (sN h.pl x σ) h.hs (IA md al);obtain ⟨f,v,p⟩:=Iv h.pl x (Qt (sN h.pl x σ) h.hs (IA md al));refine ⟨f++(e++d),by grind [dX],λy a=>?_⟩;rcases gp.1 a with a | a
 ·grind
 ·rcases gp.1 a with a | a
  ·obtain ⟨b,i,l,g,j,q,r,_⟩:=k y a;exact .inr (.inl ⟨b,i,l,g,j,q,((NY h.zs (sN h.pl x σ)).row b _ _ _ _).1 r⟩)
  grind
theorem Fo{h:JH}{md:List Nat}{al:TA}{σ:TH}{x:si h.pl}(f:Ext σ (cR h md al σ x))(g:(cR h md al σ x).length=σ.length){t:Nat}{q:RV×Nat}(j:t∉md)(k:∀c,Pl.r t c∉h.pl)
  (o:∀b,(t,b)∈h.hs->∀i l a d,σ[b]?≠some (.row i l a d)) (p:iQ t al=some q):iQ t (dX h md al σ x)=some q:=by
 obtain ⟨pre,e,r⟩:=qX h md al σ x
 grind [qp,Ab]
theorem Sem.ownC{P:Program}{n:Nat}{ac:aR}{Q:mS->AL->ar->Prop}{al:AL}{σ:ar}(b j aw:Nat)(cs:List D)(hb:σ[b]? = some (.cells cs))(hj:cs[j]? = some (.c (.lit (.slice none 0 0))))(h:Sem P ac n al (σ.set b (.cells (cs.set j (.sl σ.length 0 0 aw 0)))++[.cells []]) Q):Sem P ac n al σ Q:=by
 intro c hc M Fz w a K R A hK;have af:=(gC.1 hb).1;have cD:∀(i:Nat) E,σ[i]? = some E->∃G,(σ.set b (.cells (cs.set j (.sl σ.length 0 0 aw 0)))++[.cells []])[i]? = some G/\G.sz=E.sz:=λi E hi=>by
  have aa:=(gC.1 hi).1;rw[HA (by simp_all)];by_cases e:i=b
  ·grind [Ob.sz]
  grind
 have z:∀{d v},V σ M Fz w d v->V (σ.set b (.cells (cs.set j (.sl σ.length 0 0 aw 0)))++[.cells []]) M Fz w d v:=λh=>h.sub cD (λ_ _ h=>h) (λc h=>⟨h,rfl⟩) (λc u T fr h=>⟨u,h,rfl⟩);have ak:∀{E o},bY σ M Fz w E o->bY (σ.set b (.cells (cs.set j (.sl σ.length 0 0 aw 0)))++[.cells []]) M Fz w E o:=λ{E o} W=>by
  cases E with
  |cells cs=>obtain ⟨u,T,Z,hl,U⟩:=W;exact ⟨u,T,Z,hl,λi d v x y=>⟨z (U i d v x y).1,(U i d v x y).2⟩⟩
  |map es ab=>obtain ⟨u,Z,hl,U⟩:=W;exact ⟨u,Z,hl,λi k d n e x y=>let ⟨p,q,r⟩:=U i k d n e x y;⟨p,q,z r⟩⟩
  |gone n=>exact W.elim
 have R1:Rel (σ.set b (.cells (cs.set j (.sl σ.length 0 0 aw 0)))++[.cells []]) M Fz w:=by
  refine ⟨λb' c h=>?_,R.inj,R.fz,R.gl⟩;obtain ⟨h1,E,o,O,h3,W⟩:=R.blk b' c h;have aa:=(gC.1 O).1;by_cases e:b'=b
  ·subst e;rw[hb] at O;simp only[au] at O;subst O;refine ⟨h1,_,o,by rw[HA (by simp_all)];exact Hs hb,h3,?_⟩;obtain ⟨u,T,Z,hl,U⟩:=W;refine ⟨u,T,Z,by simp_all,λi d v x y=>?_⟩;by_cases ej:j=i
   ·subst ej;rw[yBC,if_pos rfl] at x;split at x
    ·simp only[au] at x;subst x;obtain ⟨v1,v2⟩:=U j _ v hj y;refine ⟨?_,v2⟩;rw[v1.cj];exact .sl none 0 0 (by simp) (.cells []) (by simp_all) (by omega) (λ_=>.inl ⟨rfl,rfl,rfl,rfl,rfl,rfl⟩)
    simp_all
   grind
  grind
 have E1:bH σ M Fz w (σ.set b (.cells (cs.set j (.sl σ.length 0 0 aw 0)))++[.cells []]) M Fz w:={
  size:=cX _
  frame:=λ_ _ _=>rfl
  ld:=λb c h=>.inl ⟨b,h⟩
  fz:=λc h=>⟨h,rfl⟩
  ow:=λc h=>.inl h
  qo:=λc u T fr h=>⟨u,h,rfl⟩
  keep:=λb E h=>let ⟨G,h1,O⟩:=cD b E h;⟨G,h1,Nat.le_of_eq O.symm,λ_=>rfl⟩
  out:=⟨rfl,rfl,rfl⟩ }
 have A1:eU n (σ.set b (.cells (cs.set j (.sl σ.length 0 0 aw 0)))++[.cells []]) M Fz w al a.tmps:=⟨A.1,λs d hs=>let ⟨v,h1,O⟩:=A.2 s d hs;⟨v,h1,z O⟩⟩;exact h c hc M Fz w a K R1 A1 λx ad σ' a' w' M' Fz' hQ hd R' A' E' hl=>hK x ad σ' a' w' M' Fz' hQ hd R' A' (E1.trans E' (by simp)) (by grind)
theorem IZ{P:Program}{n:Nat}{ac:aR}{Q:mS->AL->ar->Prop}:∀(os:List (Nat×Nat))(al f:TA)(σ σ':TH)(alD:AL)(σD:ar),GJ os al σ=some (f,σ')->Ref al σ alD σD ->
  (∃pre,f=pre++al)/\Ext σ σ'/\((∀u y,Ref f σ' u y->Sem P ac n u y Q)->Sem P ac n alD σD Q):=by
 intro os;induction os with
 |nil=>intro al f σ σ' alD σD h a;simp only[GJ,au,aX] at h;obtain ⟨rfl,rfl⟩:=h;exact ⟨⟨[],rfl⟩,Ext.refl σ,λhs=>hs alD σD a⟩
 |cons o os ih=>
  intro al f σ σ' alD σD h a;obtain ⟨t,i⟩:=o;simp only[GJ] at h;split at h
  ·
   generalize (t-1048576) / 1024=b at h;generalize (t-1048576) % 1024=j at h;split at h
   ·rename_i w z E;split at h
    ·rename_i v0 hj;obtain ⟨ds,hd,_,_,W⟩:=a.hh.cells E;have aa:ds[j]? = some (.c (.lit (.slice none 0 0))):=by rw[W,mE,hj];rfl
     have O:BE (.cells w z) (.cells (w+1) (z.set j (w+1,.own i σ.length 0 0))):=⟨w+1,_,rfl,by omega,by simp,λk v x v1 G e L=>by grind⟩
     have G:Ext σ (σ.set b (.cells (w+1) (z.set j (w+1,.own i σ.length 0 0)))++[.row i [] 0 0]):=λg q e=>by
      obtain ⟨Z,L,N⟩:=Ext.set E O g q e
      grind
     have R:Ref al (σ.set b (.cells (w+1) (z.set j (w+1,.own i σ.length 0 0)))++[.row i [] 0 0]) alD (σD.set b (.cells (ds.set j (.sl σD.length 0 0 (aw i) 0)))++[.cells []]):=by
      refine ⟨⟨by simp[a.hh.len],λg q e=>?_,λg w' S e p A=>?_⟩,λt x p h=>?_⟩
      ·rcases sO g σ.length with r | r
       ·rw[HA (by simp_all)] at e;rw[HA (by rw[Wu,a.hh.len];exact r)];by_cases K:g=b
        ·subst K;rw[Hs E] at e;simp only[au] at e;subst e;refine ⟨_,Hs hd,?_⟩;show _=TB.er _;simp only[TB.er,Ob.cells.injEq];rw[List.map_set,W,a.hh.len];simp[TC.er,OS]
        ·rw[eT K] at e ⊢;exact a.hh.hp g q e
       ·rw[OG (by simp_all),Wu] at e;rw[OG (by rw[Wu,a.hh.len];exact r),Wu,a.hh.len];have:g-σ.length=0:=by grind
        rw[this] at e ⊢;simp only[List.getElem?_cons_zero,au] at e;subst e;exact ⟨_,rfl,rfl⟩
      ·rcases sO g σ.length with r | r
       ·rw[HA (by simp_all)] at e;by_cases K:g=b
        ·subst K;rw[Hs E] at e;simp only[au,TB.cells.injEq] at e;obtain ⟨rfl,rfl⟩:=e;rcases List.mem_or_eq_of_mem_set A with A | rfl
         ·obtain ⟨T,g2⟩:=a.hh.hg g w z E p A;exact ⟨T.mono G,by omega⟩
         ·refine ⟨⟨.row i [] 0 0,?_,λj l lv cv e=>?_⟩,cX _⟩
          ·simp_all
          grind
        ·rw[eT K] at e;obtain ⟨T,g2⟩:=a.hh.hg g w' S e p A;exact ⟨T.mono G,g2⟩
       grind
      ·obtain ⟨d,r,U,h3⟩:=a.rg t x p h;exact ⟨d,r,U,h3.mono G []⟩
     obtain ⟨⟨pre,L⟩,N,e3⟩:=ih _ _ _ _ _ _ h R;refine ⟨⟨pre,L⟩,Ext.trans a.hh G N,λhs=>?_⟩
     grind [Sem.ownC]
    ·grind
    simp_all
   simp_all
  split at h
  ·rename_i ht;obtain ⟨p,A⟩:=kF ht;obtain ⟨d,r,U,_⟩:=a.rg t _ p A;have:=RT.c1 (by simp) U;subst this;have R:Ref ((t,.v (.c (.own i σ.length 0 0)))::al) (σ++[.row i [] 0 0]) ((t,OS (aw i) σD.length 0)::alD) (σD++[.cells []]):=
    a.set (a.hh.push (blk:=.row i [] 0 0) (ob:=.cells []) rfl (λw z e=>by simp at e)) (Ext.push σ _) (Or.inr (by rw[a.hh.len];rfl)) (ri (b:=0) rfl)
   obtain ⟨⟨pre,L⟩,N,e3⟩:=ih _ _ _ _ _ _ h R;refine ⟨⟨pre++[(t,.v (.c (.own i σ.length 0 0)))],by simp_all⟩,Ext.trans a.hh (Ext.push σ _) N,λhs=>?_⟩;exact Sem.own t (aw i) r (d:=OS (aw i) σD.length 0) (by simp[OS]) rfl (e3 hs)
  ·grind
  simp_all
theorem Sem.drwCQ{P:Program}{n:Nat}{al:AL}{σ:ar}{Q:mS->AL->ar->Prop}{orc:gz}{os:List aH}{k:Nat}{i:List Nat}{p:Nat}(j:P.follows .mixedOrders=true)(O:ou P orc)
  (h:cn P orc (Wa os) os n al σ λu σ' o=>(e_ i o&&np i p (Wa os) os.length&&Nat.ble p (Wa os))=true/\Q .normal u σ'):Sem P (.GZ os i k p) n al σ Q:=by
 obtain ⟨G,σ1,o,h,hp,U⟩:=h;intro c W M Fz w a K R A Z;obtain ⟨e',h1,h2⟩:=h _ A.dk.2;have aa:∀m r,ky P orc os i p m (xU n al) σ=some r->r=(e',σ1,o.flatMap (·.wr)):=by
  intro m r z;unfold ky at z;split at z
  ·rename_i e2 aA ab E;have:=LK _ _ _ _ _ _ _ E h1
   simp_all
  simp_all
 have E:ky P orc os i p (Wa os) (xU n al) σ=some (e',σ1,o.flatMap (·.wr)):=by
  unfold ky
  simp_all
 have h4:kV P orc 1 (.GZ os i k p) (xU n al) σ []=some (.normal,e',σ1,o.flatMap (·.wr)++[]):=by grind [kV]
 have:Sem P (.GZ os i k p) n al σ Q:=Sem.EQ j O (k:=1) (wr:=[]) (e:=xU n al) (e':=e') (x:=.normal) (σ':=σ1) h4 rfl h2 U;exact this c W M Fz w a K R A Z
theorem Ww(g:OF)(dE:g.P.follows .mixedOrders=true)(hT:fw g.P g.S)(hI:ZL g){R:Type}:∀(ac:aR)(q:Nat)(al:TA)(σ:TH)(K:KC R)(r:R)(alD:AL)(σD:ar),tC g ac q al σ K=some r->Ref al σ alD σD ->
  Sem g.P ac g.n alD σD (rj al σ K r):=by
 have O:vV g.P (Dn (Ho g.S)):=nE (QZ hT);intro ac;induction ac with
 |skip=>intro q al σ K r alD σD h S;exact Sem.skip dE ⟨al,σ,S,⟨[],rfl⟩,Ext.refl σ,h⟩
 |exit id=>intro q al σ K r alD σD h S;exact Sem.exit dE ⟨al,σ,S,⟨[],rfl⟩,Ext.refl σ,h⟩
 |ret=>intro q al σ K r alD σD h S;exact Sem.ret dE ⟨al,σ,S,⟨[],rfl⟩,Ext.refl σ,h⟩
 |stuck=>grind [tC]
 |lbl l=>intro q al σ K r alD σD h S;exact Sem.lbl ⟨al,σ,S,⟨[],rfl⟩,Ext.refl σ,h⟩
 |We l a rr bb b1=>
  intro q al σ K r alD σD h S;have ev:∀{i:Nat},Nat.beq (i % 2) 0=true->i % 2=0:=λh=>cY h;simp only[tC] at h;split at h
  ·
   refine Sem.We 1 ((bb _ _ _ _ _ alD σD h S).fh λex bi a1 hP=>.inl ?_);obtain ⟨T,σ1,W,⟨pre,e1⟩,Z,N⟩:=hP;cases ex with
   |normal=>exact ⟨T,σ1,W,⟨pre,e1⟩,Z,N⟩
   |ret=>exact ⟨T,σ1,W,⟨pre,e1⟩,Z,N⟩
   |exit i=>
    dsimp only at N;split at N
    ·rename_i hi;refine .inl ⟨cY hi,bi,a1,wy.refl (by rw[S.hh.len,W.hh.len];exact Z.len),TK.succ ((b1 _ _ _ _ _ bi a1 N W).fh λex E G hP=>.inl ?_)⟩;obtain ⟨ak,aA,g1,⟨ad,e2⟩,g3,g4⟩:=hP;have fin:∀{ex:mS},K ex ak aA=some r->rj al σ K r ex E G:=λg4=>⟨ak,aA,g1,⟨ad++pre,by simp_all⟩,Ext.trans S.hh Z g3,g4⟩;cases ex with
     |normal=>exact fin g4
     |ret=>exact fin g4
     |exit i=>
      dsimp only at g4;split at g4
      ·rename_i he;exact .inr ⟨ev he,fin g4⟩
      simp_all
    ·split at N
     ·rename_i he;exact .inr ⟨ev he,T,σ1,W,⟨pre,e1⟩,Z,N⟩
     simp_all
  ·
   rename_i U hJ;have be:∀(k:Nat)(x:si U.pl)(E:AL)(G:ar),Ext σ (cR U (dQ a++dQ rr) al σ x)->HS (U.pl++MQ U.zs) σ (cR U (dQ a++dQ rr) al σ x)->(cR U (dQ a++dQ rr) al σ x).length=σ.length->Ref (dX U (dQ a++dQ rr) al σ x) (cR U (dQ a++dQ rr) al σ x) E G ->
     bC (λrec x=>tC g rr (2 * q+1) (dX U (dQ a++dQ rr) al σ x) (cR U (dQ a++dQ rr) al σ x) λex T σ1=>match ex with
      |.exit i => match Nat.beq i (2 * l + 1) with
       |true=>match Gk U (dQ a++dQ rr) (dX U (dQ a++dQ rr) al σ x) (cR U (dQ a++dQ rr) al σ x) T σ1 with | some x'=>rec x' | none=>none
       |false=>match Nat.beq (i % 2) 0 with | true=>K (.exit i) T σ1 | false=>none
      |ex=>K ex T σ1) k x=some r->TK g.P rr l k g.n E G (rj al σ K r):=by
    intro k;induction k with
    |zero=>grind [bC]
    |succ k bh=>
     intro x E G x1 x2 x3 x4 h;have B:=b1 _ _ _ _ _ E G (show tC g rr (2 * q+1) (dX U (dQ a++dQ rr) al σ x) (cR U (dQ a++dQ rr) al σ x) _=some r from h) x4;refine TK.succ (B.fh λex a2 a5 hP=>.inl ?_);obtain ⟨T,σ1,W,⟨pre,rfl⟩,Z,N⟩:=hP;obtain ⟨an,eA,_⟩:=qX U (dQ a++dQ rr) al σ x;have fin:∀{ex:mS},K ex (pre++dX U (dQ a++dQ rr) al σ x) σ1=some r->rj al σ K r ex a2 a5:=λN=>⟨_,σ1,W,⟨pre++an,by simp_all⟩,Ext.trans S.hh x1 Z,N⟩;cases ex with
     |normal=>exact fin N
     |ret=>exact fin N
     |exit i=>
      dsimp only at N;split at N
      ·rename_i hi;split at N
       ·rename_i xv hx;obtain ⟨ad,aA,bk,bl,w1,bv,bw,hx⟩:=zZ x4 W Z hx;obtain ⟨d1,d2,d3,d5,d4⟩:=rC hx;have ax:=qw d1;obtain ⟨f1,f2,f3,a0,av,f4,f5⟩:=rR (md:=dQ a++dQ rr) S bv (λt q h=>by rw[eA,<-xI];exact Ay h)
         (λt q m1 m2 m3 h=>qp (λy hy e=>(ax y hy).elim (λz=>m1 (e▸z)) λ⟨b,i,l,lv,cv,z1,z2⟩=>let ⟨i,l,lv,cv,z3⟩:=Ab x1 x3 z2;m3 b (e▸z1) i l lv cv z3) (Fo x1 x3 m1 m2 m3 h)) (x2.trans (zdp x4.hh d2 bw)) d3 (by simp_all) d4
        refine .inl ⟨cY hi,a0,av,?_,bh xv a0 av f1 f2 f3 f5 N⟩;rw[x4.hh.len,x3];rw[x3] at w1;exact w1.trans f4
       simp_all
      ·split at N
       ·rename_i he;exact .inr ⟨ev he,fin N⟩
       simp_all
   refine Sem.We g.N ((bb _ _ _ _ _ alD σD h S).fh λex bi a1 hP=>.inl ?_);obtain ⟨T,σ1,W,⟨pre,rfl⟩,Z,N⟩:=hP;have fin:∀{ex:mS},K ex (pre++al) σ1=some r->rj al σ K r ex bi a1:=λN=>⟨_,σ1,W,⟨pre,rfl⟩,Z,N⟩;cases ex with
   |normal=>exact fin N
   |ret=>exact fin N
   |exit i=>
    dsimp only at N;split at N
    ·rename_i hi;split at N
     ·grind
     ·rename_i x0 hx;obtain ⟨ad,aA,bk,bl,w1,bv,bw,hx⟩:=zZ S W Z hx;obtain ⟨d1,d2,d3,d5,d4⟩:=rC hx;have ax:=qw d1;obtain ⟨f1,f2,f3,a0,av,f4,f5⟩:=rR (md:=dQ a++dQ rr) S bv (λt q h=>Ay h)
       (λt q m1 _ m3 h=>qp (λy hy e=>(ax y hy).elim (λz=>m1 (e▸z)) λ⟨b,i,l,lv,cv,z1,z2⟩=>m3 b (e▸z1) i l lv cv z2) h) (zdp S.hh d2 bw) d3 d5 d4
      refine .inl ⟨cY hi,a0,av,?_,be g.N x0 a0 av f1 f2 f3 f5 N⟩;rw[S.hh.len];exact w1.trans f4
    ·split at N
     ·rename_i he;exact .inr ⟨ev he,fin N⟩
     simp_all
 |Dc os=>
  intro q al σ K r alD σD h S;simp only[tC] at h;split at h
  ·split at h
   ·rename_i hU;obtain ⟨oz,o1,_,o3⟩:=wF g q O hI 1000 0 os [] al σ _ r alD σD h (wB hU) S (λp b hk=>by grind [Bw]) (λp b hk=>by grind [Bw]);refine Sem.qt dE o1 (o3.mono λa s i hA=>?_);obtain ⟨af,σ',is,W,h2,Z,_,N⟩:=hA;exact ⟨af,σ',W,h2,Z,N⟩
   simp_all
  ·rename_i U hJ;split at h
   ·rename_i L u hz hU;obtain ⟨⟨a6,eZ⟩,xZ,sZ⟩:=frzz_ok (P:=g.P) (n:=g.n) (ac:=.Dc os) (Q:=rj al σ K r) U.os al L σ u alD σD hz S;refine sZ λbd a7 a9=>?_;obtain ⟨oz,o1,_,o3⟩:=wF g q O hI 1000 0 os [] L u _ r bd a7 h (wB hU) a9 (λp b hk=>by grind [Bw]) (λp b hk=>by grind [Bw]);refine Sem.fh (Sem.qt (Q:=λx aa ab=>x=.normal/\aI L u (λaf σ' _=>XD U.hs af σ' λaf=>K .normal af σ') r aa ab []) dE o1 (o3.mono λa s i hA=>⟨rfl,?_⟩)) λx aa ab hA=>.inr ?_
    ·obtain ⟨af,σ',is,W,h2,Z,h5,N⟩:=hA;exact ⟨af,σ',[],W,h2,Z,.nil,N⟩
    ·obtain ⟨rfl,af,σ',is,W,⟨pre,e1⟩,Z,_,N⟩:=hA;obtain ⟨ak,E,g1,g2,⟨ad,e2⟩,g4⟩:=refr_ok U.hs af aa N W;exact ⟨E,ab,wy.lks (by rw[a9.hh.len,W.hh.len];exact Z.len) g4,ak,σ',g2,⟨ad++(pre++a6),by simp_all⟩,Ext.trans S.hh xZ Z,g1⟩
   ·simp at h
 |GZ os co k p=>
  intro q al σ K r alD σD h S;simp only[tC] at h;split at h
  ·simp at h
  rename_i hU;split at h
  ·obtain ⟨oz,o1,_,o3⟩:=wF g q O hI 1000 os.length os [] al σ _ r alD σD h (wB hU) S (λp b hk=>by grind [Bw]) (λp b hk=>by grind [Bw]);refine Sem.drwNQ dE o1 (o3.mono λa s i hA=>?_);obtain ⟨af,σ',is,W,h2,Z,h5,N⟩:=hA;dsimp only at N;split at N
   ·rename_i hc;simp only[bN] at hc ⊢;exact ⟨⟨⟨rB h5 hc.1.1,hc.1.2⟩,hc.2⟩,af,σ',W,h2,Z,N⟩
   simp_all
  split at h
  ·rename_i pi _ n0 hl;split at h
   ·rename_i hc;obtain ⟨oz,o1,_,o3⟩:=wF g q O hI 1000 n0 (pB pi os) [] al σ _ r alD σD h (wB hc) S (λp b hk=>by grind [Bw]) (λp b hk=>by grind [Bw]);refine Sem.drwG dE o1 hl (o3.mono λa s i hA=>?_);obtain ⟨af,σ',is,W,h2,Z,h5,N⟩:=hA;dsimp only at N;split at N
    ·rename_i hc;exact ⟨TF h5 hc,af,σ',W,h2,Z,N⟩
    simp_all
   simp_all
  split at h
  ·obtain ⟨oz,o1,_,o3⟩:=wF g q O hI 1000 (Wa os) os [] al σ _ r alD σD h (wB hU) S (λp b hk=>by grind [Bw]) (λp b hk=>by grind [Bw]);refine Sem.drwCQ dE o1 (o3.mono λa s i hA=>?_);obtain ⟨af,σ',is,W,h2,Z,h5,N⟩:=hA;dsimp only at N;split at N
   ·rename_i hc;simp only[bN] at hc ⊢;exact ⟨⟨⟨rB h5 hc.1.1,hc.1.2⟩,hc.2⟩,af,σ',W,h2,Z,N⟩
   simp_all
  ·obtain ⟨oz,o1,_,o3⟩:=wF g q O hI 1000 k os [] al σ _ r alD σD h (wB hU) S (λp b hk=>by grind [Bw]) (λp b hk=>by grind [Bw]);refine Sem.drwQ dE o1 (o3.mono λa s i hA=>?_);obtain ⟨af,σ',is,W,h2,Z,h5,N⟩:=hA;dsimp only at N;split at N
   ·rename_i hc;simp only[bN] at hc ⊢;exact ⟨⟨⟨rB h5 hc.1.1,hc.1.2⟩,hc.2⟩,af,σ',W,h2,Z,N⟩
   simp_all
 |seq a b bb a8=>
  intro q al σ K r alD σD h S;simp only[tC] at h;split at h
  ·
   have A:=bb _ _ _ _ _ alD σD h S;refine Sem.kw (A.fh λx aa ab hP=>.inl ?_);obtain ⟨T,σ1,W,⟨pre,rfl⟩,Z,N⟩:=hP;cases x with
   |normal=>refine .inl ((a8 _ _ _ _ _ aa ab N W).fh λx E G hP=>.inl ?_);obtain ⟨ak,aA,g1,⟨ad,rfl⟩,g3,g4⟩:=hP;exact ⟨_,aA,g1,⟨ad++pre,by simp_all⟩,Ext.trans S.hh Z g3,g4⟩
   |exit i=>exact ⟨_,σ1,W,⟨pre,rfl⟩,Z,N⟩
   |ret=>exact ⟨_,σ1,W,⟨pre,rfl⟩,Z,N⟩
  ·
   rename_i U hJ;split at h
   ·simp at h
   rename_i L u hz;obtain ⟨⟨a6,eZ⟩,xZ,sZ⟩:=IZ (P:=g.P) (n:=g.n) (ac:=.seq a b) (Q:=rj al σ K r) U.os al L σ u alD σD hz S;refine sZ λbd a7 a9=>?_;have back:∀{x:mS}{aa:AL}{ab:ar},rj L u K r x aa ab->rj al σ K r x aa ab:=λ⟨T,σ1,W,⟨pre,e⟩,Z,N⟩=>⟨T,σ1,W,⟨pre++a6,by simp_all⟩,Ext.trans S.hh xZ Z,N⟩;refine Sem.fh ?_ (λx af σ' hP=>.inl (back hP));clear back sZ xZ eZ;replace S:=a9;have A:=bb _ _ _ _ _ bd a7 (show tC g a (2 * q) L u _=some r from h) S;refine Sem.kw (A.fh λx aa ab hP=>.inl ?_);obtain ⟨T,σ1,W,⟨pre,rfl⟩,Z,N⟩:=hP;cases x with
   |normal=>
    dsimp only at N;split at N
    ·rename_i xv hx;obtain ⟨pre,σ1,aa,ab,w1,W,Z,hx⟩:=zZ S W Z hx;obtain ⟨c1,c2,c3,c5,c4⟩:=rC hx;have ax:=qw c1;obtain ⟨e1,_,e3,E,G,e4,e5⟩:=rR (md:=dQ a) S W (λt q h=>Ay h) (λt q hm _ m3 h=>qp (λy hy e=>(ax y hy).elim (λz=>hm (e▸z)) λ⟨b,i,l,lv,cv,z1,z2⟩=>m3 b (e▸z1) i l lv cv z2) h) (zdp S.hh c2 Z) c3 c5 c4;refine .inr ⟨E,G,by rw[S.hh.len];exact w1.trans e4,(a8 _ _ _ _ _ E G N e5).fh λx a2 a5 hP=>.inl ?_⟩;obtain ⟨ak,aA,g1,⟨ad,rfl⟩,g3,g4⟩:=hP;obtain ⟨an,eA,_⟩:=qX U (dQ a) L u xv;exact ⟨_,aA,g1,⟨ad++an,by simp_all⟩,Ext.trans S.hh e1 g3,g4⟩
    simp_all
   |exit i=>exact ⟨_,σ1,W,⟨pre,rfl⟩,Z,N⟩
   |ret=>exact ⟨_,σ1,W,⟨pre,rfl⟩,Z,N⟩
 |Wc o ps a b bb a8=>
  intro q al σ K r alD σD h S;simp only[tC] at h;split at h
  ·simp at h
  rename_i U hJ;split at h
  ·simp at h
  rename_i L u hz;obtain ⟨⟨a6,eZ⟩,xZ,sZ⟩:=IZ (P:=g.P) (n:=g.n) (ac:=.Wc o ps a b) (Q:=rj al σ K r) U.os al L σ u alD σD hz S;refine sZ λbd a7 a9=>?_;have back:∀{x:mS}{aa:AL}{ab:ar},rj L u K r x aa ab->rj al σ K r x aa ab:=λ⟨T,σ1,W,⟨pre,e⟩,Z,N⟩=>⟨T,σ1,W,⟨pre++a6,by simp_all⟩,Ext.trans S.hh xZ Z,N⟩;refine Sem.fh ?_ (λx af σ' hP=>.inl (back hP));clear back sZ xZ eZ;replace S:=a9;clear a9 hz;split at h
  ·rename_i x0 p b0;obtain ⟨_,c2,c3,c5,c4⟩:=rC b0;obtain ⟨e1,e2,e3,E,G,e4,e5⟩:=rR (md:=[]) S S (λt q h=>⟨q,h⟩) (λt q _ _ _ h=>h) (zdp S.hh c2 (Ext.refl u)) c3 c5 c4;have hr:dy (cR U [] L u x0) E (Gr (dX U [] L u x0) [] none):=nL e5 (λp b hk=>by grind [Bw]) (by simp);split at h
   ·rename_i gf bc hc;obtain ⟨b5,_⟩:=hr.c hc (by simp);split at h
    ·rename_i w0 v0 i l s b6 b7 hb;simp only[bN] at hb;obtain ⟨hp,b8,b2⟩:=hb;have OM:=hT.iter b7;unfold itF at h;split at h
     ·rename_i i' j f;split at h
      ·rename_i l' b9;obtain ⟨rfl,rfl⟩:=RQ b9;cases hf:f (l',()) with
       |none=>dsimp only at h;rw[hf] at h;simp at h
       |some items=>
       dsimp only at h;rw[hf] at h;simp only[Option.bind_some] at h;have cg:=OM l' items hf;have b3:∀{σ1:TH}{a1:ar},RH σ1 a1->HS (U.pl++MQ U.zs) u σ1->a1[bc]? = some (.cells [.c (.cJ false (l'.map (enc i)))]):=λ{σ1 a1} H hs=>by
        obtain ⟨cm,g1,w1,ch,rfl,g2,g3⟩:=hs bc _ b6;cases ch with
        |nil=>simp at g2
        |cons y ys=>
         have:ys=[]:=Yy (by simpa using g2);subst this;have:=g3 0 _ _ rfl rfl λc hm=>by have:=iR.1 b2 _ hm;simp at this
         subst this;obtain ⟨ob,o1,o2⟩:=H.hp bc _ g1;rw[o1,show ob=_ from o2];rfl
       have be:∀(items:List (TT j))(x:si U.pl)(E:AL)(G:ar),Ext u (cR U [] L u x)->HS (U.pl++MQ U.zs) u (cR U [] L u x)->(cR U [] L u x).length=u.length->Ref (dX U [] L u x) (cR U [] L u x) E G ->
         lpR (λy x rec=>tC g a (2 * q) ((p,.v (.agg (exp j y)))::dX U [] L u x) (cR U [] L u x) λex T σ1=>match ex with
          |.normal => tC g b (2 * q + 1) T σ1 λex _ aA => match ex with
           |.normal=>match Gk U [] (dX U [] L u x) (cR U [] L u x) (dX U [] L u x) aA with | some x'=>rec x' | none=>none
           |ex=>K ex (dX U [] L u x) aA
          |_=>none) (λx=>K .normal (dX U [] L u x) (cR U [] L u x)) items x=some r ->
         Rng g.P a b g.n [p] bc (.cJ false (l'.map (enc i))) a7.length (rj L u K r) (items.map λa=>[ST (enc j a)]) E G:=by
        intro items;induction items with
        |nil=>intro x E G x1 x2 x3 x4 h;obtain ⟨an,eA,_⟩:=qX U [] L u x;exact ⟨⟨b3 x4.hh x2,by rw[x4.hh.len,x3,S.hh.len]⟩,_,_,x4,⟨an,eA⟩,x1,h⟩
        |cons y items bh=>
         intro x E G x1 x2 x3 x4 h;obtain ⟨an,eA,_⟩:=qX U [] L u x;refine ⟨⟨b3 x4.hh x2,by rw[x4.hh.len,x3,S.hh.len]⟩,?_⟩;have R1:Ref ((p,.v (.agg (exp j y)))::dX U [] L u x) (cR U [] L u x) (Lp [p] [ST (enc j y)] E) G:=x4.set x4.hh (Ext.refl _) (dm.ET (.st j) y) (Dz (.st j) y);refine (bb _ _ _ _ _ _ G (show tC g a (2 * q) ((p,.v (.agg (exp j y)))::dX U [] L u x) (cR U [] L u x) _=some r from h) R1).fh λex a2 a5 hP=>.inl ?_;obtain ⟨T,σ1,W,_,Z,N⟩:=hP;cases ex with
         |normal=>
          refine ⟨rfl,(a8 _ _ _ _ _ a2 a5 (show tC g b (2 * q+1) T σ1 _=some r from N) W).fh λex a0 av hP=>.inl ?_⟩;obtain ⟨ak,aA,g1,_,g3,g4⟩:=hP;have x5:Ext (cR U [] L u x) aA:=Ext.trans x4.hh Z g3;have R4:Ref (dX U [] L u x) aA E av:=⟨g1.hh,λt v q hq=>let ⟨d,m1,m2,m3⟩:=x4.rg t v q hq;⟨d,m1,m2,m3.mono x5 []⟩⟩;cases ex with
          |normal=>
           dsimp only at g4;split at g4
           ·rename_i xv hx;obtain ⟨pre,cp,bk,bl,w1,k1,k3,hx⟩:=zZ (pre:=[]) x4 R4 x5 hx;obtain ⟨d1,d2,d3,d5,d4⟩:=rC hx;have ax:=qw d1;obtain ⟨f1,f2,f3,bt,bu,f4,f5⟩:=rR (md:=[]) S k1 (λt q h=>by rw[eA,<-xI];exact Ay h)
             (λt q m1 m2 m3 h=>qp (λy hy e=>(ax y hy).elim (λz=>m1 (e▸z)) λ⟨b,i,l,lv,cv,z1,z2⟩=>let ⟨i,l,lv,cv,z3⟩:=Ab x1 x3 z2;m3 b (e▸z1) i l lv cv z3) (Fo x1 x3 m1 m2 m3 h)) (x2.trans (zdp x4.hh d2 k3)) d3 (by simp_all) d4
            exact ⟨bt,bu,by rw[S.hh.len];rw[x3] at w1;exact w1.trans f4,bh xv bt bu f1 f2 f3 f5 g4⟩
           simp_all
          |exit i=>exact ⟨_,aA,R4,⟨an,eA⟩,Ext.trans S.hh x1 x5,g4⟩
          |ret=>exact ⟨_,aA,R4,⟨an,eA⟩,Ext.trans S.hh x1 x5,g4⟩
         |exit i=>simp at N
         |ret=>simp at N
       have ck:a7.length=G.length:=by rw[e5.hh.len,e3,S.hh.len]
       refine Sem.preW (by rw[S.hh.len];exact e4) (Sem.Wc (al:=E) (σ:=G) (by cases o <;> exact b5) b8 cg (λds hd=>?_) (λp' b4=>?_) (ck▸be items x0 E G e1 e2 e3 e5 h))
       ·obtain ⟨y,_,rfl⟩:=gD.1 hd;rfl
       ·simp only[zi] at b4;subst b4;exact ug.mp hp
      ·simp at h
     ·simp at h
    ·simp at h
   ·simp at h
  ·simp at h
 |cond c a b bb a8=>
  intro q al σ K r alD σD h S;simp only[tC] at h;have hr:dy σ alD (Gr al [] none):=nL S (λp b hk=>by grind [Bw]) (by simp);split at h
  ·rename_i hc;obtain ⟨W,_⟩:=hr.c hc (by simp);exact Sem.cond (b:=true) (by cases c <;> exact W) (λ_=>bb _ _ _ _ _ alD σD h S) (λe=>by simp at e)
  ·rename_i hc;obtain ⟨W,_⟩:=hr.c hc (by simp);exact Sem.cond (b:=false) (by cases c <;> exact W) (λe=>by simp at e) (λ_=>a8 _ _ _ _ _ alD σD h S)
  ·rename_i e hc;obtain ⟨W,_⟩:=hr.c hc (by simp);refine Sem.cond (b:=e) (by cases c <;> exact W) (λhe=>?_) (λhe=>?_)
   ·grind
   grind
  simp_all
 |block id b a8=>
  intro q al σ K r alD σD h S;simp only[tC] at h;refine Sem.block ((a8 _ _ _ _ _ alD σD h S).fh λx aa ab hP=>.inl ⟨_,_,.refl,?_⟩);obtain ⟨T,σ1,W,h2,Z,N⟩:=hP;cases x with
  |normal=>exact ⟨T,σ1,W,h2,Z,N⟩
  |ret=>exact ⟨T,σ1,W,h2,Z,N⟩
  |exit i=>
   dsimp only at N;refine ⟨λe=>?_,λe=>?_⟩
   ·subst e;have:Nat.beq i i=true:=by simp
    rw[this] at N;exact ⟨T,σ1,W,h2,Z,N⟩
   ·have:Nat.beq i id=false:=by
     grind [Nat.eq_of_beq_eq_true]
    rw[this] at N;exact ⟨T,σ1,W,h2,Z,N⟩
 |loop b a8=>
  intro q al σ K r alD σD h S;simp only[tC] at h;split at h
  ·simp at h
  ·rename_i U hJ;split at h
   ·rename_i nu hu;refine Sem.loop nu ?_;have be:∀(k:Nat)(ak:TA)(aA:TH)(E:AL)(G:ar),(∃pre,ak=pre++al)->Ext σ aA->Ref ak aA E G ->
      lpU (λrec al σ=>tC g b (2 * q) al σ λex T σ1=>match ex with | .normal=>rec T σ1 | ex=>K ex T σ1) k ak aA=some r->lM g.P b k g.n E G (rj al σ K r):=by
     intro k;induction k with
     |zero=>grind [lpU]
     |succ k bh=>
      intro ak aA E G x1 x2 x4 h;have B:=a8 _ _ _ _ _ E G (show tC g b (2 * q) ak aA _=some r from h) x4;refine lM.succ (B.fh (Q':=λx T σ1=>match x with | .normal=>∃ak aA,Wk G.length T σ1 ak aA/\lM g.P b k g.n ak aA (rj al σ K r) | x=>∃ak aA,Wk G.length T σ1 ak aA/\rj al σ K r x ak aA) λex a2 a5 hP=>.inl ?_);obtain ⟨T,σ1,W,⟨pre,rfl⟩,Z,N⟩:=hP;obtain ⟨ad,rfl⟩:=x1;cases ex with
      |normal=>exact ⟨_,_,.refl,bh _ _ _ _ ⟨pre++ad,by simp_all⟩ (Ext.trans S.hh x2 Z) W N⟩
      |exit i=>exact ⟨_,_,.refl,_,σ1,W,⟨pre++ad,by simp_all⟩,Ext.trans S.hh x2 Z,N⟩
      |ret=>exact ⟨_,_,.refl,_,σ1,W,⟨pre++ad,by simp_all⟩,Ext.trans S.hh x2 Z,N⟩
    exact be nu al σ alD σD ⟨[],rfl⟩ (Ext.refl σ) S h
   split at h
   ·simp at h
   rename_i L u hz;obtain ⟨⟨a6,eZ⟩,xZ,sZ⟩:=IZ (P:=g.P) (n:=g.n) (ac:=.loop b) (Q:=rj al σ K r) U.os al L σ u alD σD hz S;refine sZ λbd a7 a9=>?_;have back:∀{x:mS}{aa:AL}{ab:ar},rj L u K r x aa ab->rj al σ K r x aa ab:=λ⟨T,σ1,W,⟨pre,e⟩,Z,N⟩=>⟨T,σ1,W,⟨pre++a6,by simp_all⟩,Ext.trans S.hh xZ Z,N⟩;refine Sem.fh ?_ (λx af σ' hP=>.inl (back hP));clear back sZ xZ eZ;replace S:=a9;clear a9 hz;split at h
   ·
    simp at h
   split at h
   ·simp at h
   ·rename_i x0 b0;obtain ⟨_,c2,c3,c5,c4⟩:=rC b0;obtain ⟨e1,e2,e3,E,G,e4,e5⟩:=rR (md:=dQ b) S S (λt q h=>⟨q,h⟩) (λt q _ _ _ h=>h) (zdp S.hh c2 (Ext.refl u)) c3 c5 c4;refine Sem.loop g.N (lM.preW (by rw[S.hh.len];exact e4) ?_);have be:∀(k:Nat)(x:si U.pl)(E:AL)(G:ar),Ext u (cR U (dQ b) L u x)->HS (U.pl++MQ U.zs) u (cR U (dQ b) L u x)->(cR U (dQ b) L u x).length=u.length->Ref (dX U (dQ b) L u x) (cR U (dQ b) L u x) E G ->
      bC (λrec x=>tC g b (2 * q) (dX U (dQ b) L u x) (cR U (dQ b) L u x) λex T σ1=>match ex with
       |.normal=>match Gk U (dQ b) (dX U (dQ b) L u x) (cR U (dQ b) L u x) T σ1 with | some x'=>rec x' | none=>none
       |ex=>K ex T σ1) k x=some r->lM g.P b k g.n E G (rj L u K r):=by
     intro k;induction k with
     |zero=>grind [bC]
     |succ k bh=>
      intro x E G x1 x2 x3 x4 h;have B:=a8 _ _ _ _ _ E G (show tC g b (2 * q) (dX U (dQ b) L u x) (cR U (dQ b) L u x) _=some r from h) x4;refine lM.succW (B.fh λex a2 a5 hP=>.inl ?_);obtain ⟨T,σ1,W,⟨pre,rfl⟩,Z,N⟩:=hP;obtain ⟨an,eA,_⟩:=qX U (dQ b) L u x;cases ex with
      |normal=>
       dsimp only at N;split at N
       ·rename_i xv hx;obtain ⟨pre,σ1,a2,a5,w1,W,Z,hx⟩:=zZ x4 W Z hx;obtain ⟨d1,d2,d3,d5,d4⟩:=rC hx;have ax:=qw d1;obtain ⟨f1,f2,f3,a0,av,f4,f5⟩:=rR (md:=dQ b) S W (λt q h=>by rw[eA,<-xI];exact Ay h)
         (λt q m1 m2 m3 h=>qp (λy hy e=>(ax y hy).elim (λz=>m1 (e▸z)) λ⟨b,i,l,lv,cv,z1,z2⟩=>let ⟨i,l,lv,cv,z3⟩:=Ab x1 x3 z2;m3 b (e▸z1) i l lv cv z3) (Fo x1 x3 m1 m2 m3 h)) (x2.trans (zdp x4.hh d2 Z)) d3 (by simp_all) d4
        exact ⟨a0,av,by rw[x4.hh.len,x3];rw[x3] at w1;exact w1.trans f4,bh xv a0 av f1 f2 f3 f5 N⟩
       simp_all
      |exit i=>exact ⟨_,σ1,W,⟨pre++an,by simp_all⟩,Ext.trans S.hh x1 Z,N⟩
      |ret=>exact ⟨_,σ1,W,⟨pre++an,by simp_all⟩,Ext.trans S.hh x1 Z,N⟩
    exact be g.N x0 E G e1 e2 e3 e5 h
theorem zip_ok:∀(cs:List dm)(a:tB cs)(i t:Nat)(x:RV)(p:Nat),iQ t (Bs i (tvV cs a))=some (x,p)->∃d v,x=.v v/\lk t (kg i (ud cs a))=some d/\RT v d/\GV [] v:=by
 intro cs;induction cs with
 |nil=>grind [tvV,Bs,iQ]
 |cons c cs ih=>
  intro a i t x p h;simp only[tvV,Bs,iQ] at h;simp only[ud,kg,lk];split at h
  ·rename_i b;simp only[au,aX] at h
   try rw[b]
   exact ⟨_,_,h.1.symm,rfl,c.ET a.1,Dz c a.1⟩
  simp_all
theorem Yu:∀(cs:List dm)(a:tB cs),(ud cs a).length=cs.length:=by
 intro cs;induction cs with
 |nil=>intro a;rfl
 |cons c cs ih=>grind [ud]
theorem resT_ok{al:TA}{σ:TH}{alD:AL}{σD:ar}(e:Ref al σ alD σD){q:Nat×Option (Option Nat)}{v:TV}(h:Gq al σ q=some v):∃d,qe alD σD q=some d/\RT v d/\GV σ v:=by
 obtain ⟨t,o⟩:=q;cases o with
 |none=>
  simp only[Gq] at h;split at h
  ·rename_i x f;simp only[au] at h;subst h;obtain ⟨p,a⟩:=kF f;obtain ⟨d,g,i,j⟩:=e.rg t _ p a;exact ⟨d,g,i,j⟩
  simp_all
 |some m=>
  simp only[Gq] at h;split at h
  ·rename_i b off sz f;obtain ⟨p,a⟩:=kF f;obtain ⟨d,g,i,_⟩:=e.rg t _ p a;have:=RT.c1 (by simp) i;subst this;split at h
   ·rename_i w r k;obtain ⟨ds,j,u,E,_⟩:=e.hh.cells k;split at h
    ·rename_i hs;obtain ⟨d,z,A⟩:=zT h u;refine ⟨d,?_,A,qK h λy l=>?_⟩
     ·simp only[qe,g,TC.er];rw[Pc j (sz:=sz) (by simp_all),aD];exact z
     ·rw[gD] at l;obtain ⟨p,a,rfl⟩:=l;exact (e.hh.hg b w r k p a).1
    simp_all
   simp_all
  simp_all
theorem Kf{al:TA}{σ:TH}{alD:AL}{σD:ar}(f:Ref al σ alD σD):∀{e:List (Nat×Option (Option Nat))}{vs:List TV},GA (Gq al σ) e=some vs->∃ds,e.mapM (qe alD σD)=some ds/\fP vs ds/\∀v∈vs,GV σ v:=by
 intro e;induction e with
 |nil=>intro vs h;simp only[GA,au] at h;subst h;exact ⟨[],rfl,.nil,by simp⟩
 |cons q e ih=>
  intro vs h;simp only[GA] at h;split at h
  ·rename_i a b g i;simp only[au] at h;subst h;obtain ⟨d,l,j,o⟩:=resT_ok f g;obtain ⟨ds,p,k,r⟩:=ih i;refine ⟨d::ds,?_,.cons j k,λv t=>?_⟩
   ·simp_all
   grind
  simp_all
theorem outs_ok{σ:TH}{σD:ar}(H:RH σ σD):∀{cs:List dm}{vs:List TV}{ds:List D}{r:lL cs},xW σ cs vs=some r->fP vs ds->(∀v∈vs,GV σ v)->∃es,ds.mapM (pu σD 0 100)=some es/\es.map CJ=tA cs r/\(∀d,ds=[d]->wT σD 0 100 d=pu σD 0 100 d):=by
 intro cs;induction cs with
 |nil=>
  intro vs ds r h a g;cases a with
  |nil=>exact ⟨[],rfl,rfl,λd e=>by simp at e⟩
  |cons _ _=>grind [xW]
 |cons c cs ih=>
  intro vs ds r h a g;cases a with
  |nil=>grind [xW]
  |cons f a=>
   rename_i v d vs ds;cases cs with
   |nil=>
    cases a with
    |nil=>
     simp only[xW] at h;obtain ⟨b,i,j,k⟩:=QG H (g v (by simp)) f h;refine ⟨[b],by simp_all,by grind [tA],λl e=>?_⟩
     simp_all
    |cons _ _=>grind [xW]
   |cons u cs=>
    cases a with
    |nil=>grind [xW]
    |cons o a=>
     simp only[xW] at h;split at h
     ·rename_i x y p q;simp only[au] at h;subst h;obtain ⟨b,i,j,k⟩:=QG H (g v (by simp)) f p;obtain ⟨es,z,A,_⟩:=ih q (.cons o a) λv t=>g v (lI _ t);refine ⟨b::es,by simp_all,by grind [tA],λl e=>by simp at e⟩
     simp_all
theorem tF_ok{P:Program}{S:sV}{B:dj}{l:EZ}{H:List (Nat×Nat)}{J:List (Nat×JH)}{C:List (Nat×List CT)}{u:Nat}{g:FuncId}{fn:Func}{j:lh}{e out:List dm}{N:Nat}{a:tB e}{r:lL out}(dE:P.follows .mixedOrders=true)(hS:fw P S)
  (hg:P.funcs[g]? = some fn) (y:aV P g=true) (hc:iG P fn true=some j) (hI:ZL ⟨P,S,H,J,C,j.ntmps,N,(Rl P S N B l u).1,(Rl P S N B l u).2,l⟩) (hn:Nat.ble e.length j.ntmps=true) (h:tF P S B l H J C u j e out N a=some r):Pure P g (ud e a) (tZ out r):=by
 refine uM hg y hc (by rw[Yu];simp_all) ?_;have R0:Ref (Bs 0 (tvV e a)) [] (kg 0 (ud e a)) []:=⟨⟨rfl,λb blk h=>by simp at h,λb w cs h=>by simp at h⟩,λt x p h=>by obtain ⟨d,v,rfl,G,z,K⟩:=zip_ok e a 0 t x p h;exact ⟨d,G,z,K⟩⟩
 refine (Ww ⟨P,S,H,J,C,j.ntmps,N,(Rl P S N B l u).1,(Rl P S N B l u).2,l⟩ dE hS hI j.body 1 _ _ _ r _ _ h R0).fh λx A f hP=>.inl ?_;obtain ⟨L,σ',G,_,_,z⟩:=hP;have fin:(match GA (Gq L σ') j.results with | some rs=>xW σ' out rs | none=>none)=some r->∃E o,j.results.mapM (qe A f)=some E/\wT f 0 100 (one E)=some o/\Fe o (tZ out r):=by
  intro z;split at z
  ·rename_i rs O;obtain ⟨ds,K,h4,h5⟩:=Kf G O;obtain ⟨U,q,h7,h8⟩:=outs_ok G.hh z h4 h5;have W:U.length=ds.length:=(Mt q).1;have k:one ds=.aS ds->one (tA out r)=.aS (tA out r)->∃o,wT f 0 100 (one ds)=some o/\Fe o (tZ out r):=λR Z=>by
    rw[R];refine ⟨.aS U,frz_tup q,Fe.QS ?_⟩
    grind [Uf,tZ]
   have T:(tA out r).length=ds.length:=by grind
   cases ds with
   |nil=>
    obtain ⟨o,R,Z⟩:=k rfl (by have:tA out r=[]:=Yy T;rw[this];rfl)
    simp_all
   |cons d ds=>
    cases ds with
    |nil=>
     have e3:=h8 d rfl;rw[Vw] at q;cases h9:pu f 0 100 d with
     |none=>simp_all
     |some d'=>
      rw[h9] at q;simp only[List.mapM_nil] at q;cases q;refine ⟨[d],d',K,by rw[<-h9];exact e3,?_⟩;have e4:tZ out r=CJ d':=by unfold tZ;rw[<-h7];rfl
      rw[e4];intro σ M Fz w v hv;exact FC hv
    |cons d2 ds=>
     obtain ⟨o,R,Z⟩:=k rfl (by
      cases ho:tA out r with
      |nil=>simp_all
      |cons o1 os=>
       cases os with
       |nil=>simp_all
       |cons o2 os=>rfl)
     simp_all
  simp_all
 cases x with
 |exit i=>grind
 |normal=>grind
 |ret=>grind
theorem fw.nil{P:Program}:fw P []:=λp i=>by grind
theorem fw.cons{P:Program}{g:Nat}{s:bD}{S:sV}(h:bL P g s)(j:fw P S)(o:Nat.blt g 1048576=true:=by rfl):fw P ((g,s)::S):=by
 intro p i;rcases gq.1 i with rfl | i
 ·exact ⟨λ_=>h,λe=>by rw[o] at e;cases e⟩
 ·exact j p i
theorem fw.it{P:Program}{g:Nat}{s:bD}{S:sV}(h:Wm P g s)(j:fw P S):fw P ((g+1048576,s)::S):=by
 intro p i;rcases gq.1 i with rfl | i
 ·exact ⟨λe=>by have:=ug.mp e;dsimp only at this;omega,λ_=>by simpa using h⟩
 ·exact j p i
end
end Go.Abs
end
section
namespace Go.Abs
noncomputable section
variable[Gl][Y:Ty]
section
variable{m:Nat}{σ1 aA:ar}{ρ:Nat->Nat}{F:Nat->Prop}
theorem qH{P:Program}{g:FuncId}{fn:Func}{j:lh}{fz:Bool}{ds:List D}{r:D}{σ:ar}(hg:P.funcs[g]? = some fn)(u:iG P fn fz=some j)(y:ds.length<=j.ntmps)
  (h:Sem P j.body j.ntmps (kg 0 ds) σ λx al σ1=>(x=.normal∨x=.ret)/\∃a ρ F,j.results.mapM (qe al σ1)=some a/\RN σ.length σ1 aA ρ F/\(∀b,F b->σ.length<=b)/\du σ1 aA ρ F (one a) r):Ok P g ds σ r aA:=by
 unfold iG at u;split at u
 ·rename_i c hb;split at u
  ·rename_i ac rs h1 h2;simp only[au] at u;subst u;dsimp only at h y;intro M Fz w i R hs G;refine nk hg hb ?_;have A0:eU fn.ntmps σ M Fz w (kg 0 ds) (i++Array.replicate (fn.ntmps-i.size) undef):=by
    refine ⟨by simp_all,λt d K=>?_⟩;obtain ⟨_,h3⟩:=El ds 0 t d K;rw[Nat.sub_zero] at h3;have L:t<i.size:=by grind
    exact ⟨i[t],by grind,G t d _ h3 (sI L)⟩
   refine Om (h c h1 M Fz w { tmps:=i++Array.replicate (fn.ntmps-i.size) undef,defers:=[] } _ R A0 λx e σ' a' w' M' Fz' hQ hd R' E EV hl=>?_);obtain ⟨hx,a,ρ,F,hm,hN,hF,N⟩:=hQ;have O:rs.mapM (Mu (xU fn.ntmps e) σ')=some a:=by
    have aa:∀(l:List (Nat×Option (Option Nat))) a,l.mapM (qe e σ')=some a->l.mapM (Mu (xU fn.ntmps e) σ')=some a:=by
     intro l;induction l with
     |nil=>simp_all
     |cons p l ih=>
      intro a h;rw[Vw] at h ⊢;cases z:qe e σ' p with
      |none=>simp_all
      |some d=>
       rw[z] at h;have:Mu (xU fn.ntmps e) σ' p=some d:=by
        obtain ⟨t,o⟩:=p;cases o with
        |none=>exact E.dk.2.2 t d z
        |some k=>
         simp only[qe] at z;split at z
         ·rename_i b off sz S;simp only[Mu,E.dk.2.2 t _ S];exact z
         simp_all
       rw[this];cases hr:l.mapM (qe e σ') with
       |none=>simp_all
       |some q=>simp_all
    simp_all
   have T:yu x=.normal∨yu x=.ret:=by rcases hx with rfl | rfl <;> simp[yu]
   refine ⟨T,Mk.end hd R' EV λw'' f A mv=>?_⟩;have U:eU fn.ntmps σ' M' Fz' w'' e a'.tmps:=⟨E.1,λt d K=>by obtain ⟨v,q1,q2⟩:=E.2 t d K;exact ⟨v,q1,mv d v q2⟩⟩
   obtain ⟨v,W,Z⟩:=jA (P:=P) f U.dk.1 h2 O;exact ⟨v,W,v,_,_,rfl,hN.rel f,N M' Fz' w'' v f Z,hN.evo (cX _) hF R f A⟩
  simp_all
 simp_all
end
end
end Go.Abs
end
section
namespace Go.Abs
noncomputable section
variable[Gl][Y:Ty]
theorem Ft{c:It}{d:kJ}{a:c.dn}(h:ot c d=some a):d=⟨c,a⟩:=by
 unfold ot at h;split at h
 ·rename_i e _;simp only[au] at h;obtain ⟨it,v⟩:=d
  grind
 simp_all
theorem Gb(c:It)(a:c.dn):ot c ⟨c,a⟩=some a:=by
 unfold ot;split
 ·rfl
 grind
theorem Xq:∀{cs:List It}{ds:List kJ}{x:dJ cs},vA cs ds=some x->dR cs x=ds:=by
 intro cs;induction cs with
 |nil=>
  intro ds x h;cases ds with
  |nil=>rfl
  |cons d ds=>grind [vA]
 |cons c cs ih=>
  intro ds x h;cases cs with
  |nil=>
   cases ds with
   |nil=>grind [vA]
   |cons d ds=>
    cases ds with
    |nil=>grind [vA,dR,Ft]
    |cons _ _=>grind [vA]
  |cons a cs=>
   cases ds with
   |nil=>grind [vA]
   |cons d ds=>grind [vA,dR,Ft]
structure SR (σs aA:TH):Prop where
 len:aA.length=σs.length
 row:∀(b:Nat) i (l:List (TT i)) lv cv,σs[b]? = some (.row i l lv cv)->aA[b]? = some (.row i l lv cv)
def GS(σs:TH):TC->Prop
 |.own i b v n=>∃(l:List (TT i))(a:Nat),σs[b]? = some (.row i l v a)/\n=l.length
 |.d x=>x.low σs.length=true
 |.any=>False
 |.op ..=>False
 |.ap ..=>False
 |.os ..=>False
 |.GX ..=>False
 |_=>True
theorem GS.gc{σs aA:TH}(h:SR σs aA){x:TC}(g:GS σs x):GC aA x:=by
 cases x with
 |own i b v n=>
  obtain ⟨l,o,u,A⟩:=g;refine ⟨_,h.row b i l v o u,λj E G z e=>?_⟩
  grind
 |d x=>show D.low _ _=true;rw[h.len];exact g
 |any=>exact g.elim
 |op=>exact g.elim
 |ap=>exact g.elim
 |os=>exact g.elim
 |GX=>exact g.elim
 |_=>trivial
theorem Jp(σs:TH)(c:CC)(a:c.dn):GS σs (rT c a):=by cases c <;> first | exact True.intro | rfl
theorem Ps{σs:TH}{p:CP}{ds r:List kJ}{y:TC}(h:wY σs p ds=some (y,r)):GS σs y:=by
 unfold wY at h;split at h
 ·grind [Jp]
 ·split at h
  ·simp only[au,aX] at h;obtain ⟨rfl,_⟩:=h;trivial
  simp_all
 ·split at h
  ·rename_i i l d b a;simp only[au,aX] at h;obtain ⟨rfl,_⟩:=h;exact ⟨l,b,a,rfl⟩
  simp_all
 ·split at h
  ·rename_i a;simp only[au,aX] at h;obtain ⟨rfl,_⟩:=h;show D.low _ _=true;simp only[D.low,bA];simp_all
  simp_all
 ·split at h
  ·rename_i a;simp only[au,aX] at h;obtain ⟨rfl,_⟩:=h;show D.low _ _=true;simp only[D.low,bA];simp_all
  simp_all
 ·split at h
  ·rename_i a;simp only[au,aX] at h;obtain ⟨rfl,_⟩:=h;show D.low _ _=true;simp only[D.low,D.low.cV,yCn,Np,bA];simp_all
  simp_all
 ·split at h
  ·rename_i a;simp only[au,aX] at h;obtain ⟨rfl,_⟩:=h;exact D.eJ (Px _) a
  simp_all
 simp_all
theorem Tq{σs:TH}:∀{ps:List CP}{ds r:List kJ}{a:List TC},AM σs ps ds=some (a,r)->∀y∈a,GS σs y:=by
 intro ps;induction ps with
 |nil=>grind [AM]
 |cons p ps ih=>grind [AM,Ps]
theorem RH.mk'{σ:TH}(i:∀(b:Nat) w cs,σ[b]? = some (.cells w cs)->∀p∈cs,GC σ p.2/\p.1<=w):RH σ (σ.map TB.er):=⟨by simp,λb blk j=>⟨blk.er,by simp_all,rfl⟩,i⟩
structure yQ (ps:List PC) (σ iP:TH):Prop where
 ext:Ext σ iP
 len:iP.length=σ.length
 cells:∀(b:Nat) w cs,σ[b]? = some (.cells w cs)↔iP[b]? = some (.cells w cs)
 out:∀b,b∉ps.map PC.blk->iP[b]? = σ[b]?
 row:ps.any PC.rs=false->∀(b:Nat) i (l:List (TT i)) lv cv,σ[b]? = some (.row i l lv cv)->iP[b]? = some (.row i l lv cv)
 rh:∃σD',RH iP σD'
theorem iO:∀{ps:List PC}{σ o:TH}{σD:ar}{ds r:List kJ},cd σ ps ds=some (o,r)->RH σ σD->yQ ps σ o:=by
 intro ps;induction ps with
 |nil=>intro σ o σD ds r h H;simp only[cd,au,aX] at h;obtain ⟨rfl,_⟩:=h;exact ⟨Ext.refl σ,rfl,λb w f=>Iff.rfl,λb _=>rfl,λ_ b i l q t h=>h,⟨σD,H⟩⟩
 |cons p ps ih=>
  intro σ o σD ds r h H;have one:∀(b:Nat)(blk a:TB)(x:List kJ),σ[b]? = some blk->BE blk a->(∀w f,blk≠.cells w f)->(∀w f,a≠.cells w f)->p.blk=b->(p.rs=false->∀i (l:List (TT i)) q t,blk≠.row i l q t)->cd (σ.set b a) ps x=some (o,r)->yQ (p::ps) σ o:=by
   intro b blk a x A E S y G T h;have H1:RH (σ.set b a) (σD.set b a.er):=H.set A E rfl (λw f e=>absurd e (y w f));have e:=ih h H1;refine ⟨Ext.trans H (Ext.set A E) e.ext,by rw[e.len];simp,λu w f=>?_,λu g=>?_,λk u i l q t U=>?_,e.rh⟩
   ·rw[<-e.cells]
    grind
   ·simp only[ru,gq,not_or,G] at g;rw[e.out u g.2,eT g.1]
   ·simp only[List.any_cons,Bool.or_eq_false_iff] at k;refine e.row k.2 u i l q t ?_
    grind
  cases p with
  |h b j p=>simp only[cd] at h;have e:=ih h H;exact ⟨e.ext,e.len,e.cells,λu g=>e.out u (λK=>g (lI _ K)),λk=>e.row (by simp_all),e.rh⟩
  |w b i=>
   cases ds with
   |nil=>grind [cd]
   |cons d ds=>
    simp only[cd] at h;split at h
    ·rename_i l j L q t N z;split at h
     ·rename_i O;have:=cY O;subst this;exact one b _ _ ds z ⟨l,_,_,rfl,by omega,by omega,λe=>by omega,λe=>by omega⟩ (λw f e=>by simp at e) (λw f e=>by simp at e) rfl (λe=>by grind [PC.rs]) h
     simp_all
    simp_all
  |m b j st=>
   cases ds with
   |nil=>grind [cd]
   |cons d ds=>
    simp only[cd] at h;split at h
    ·rename_i l W R L v N z;exact one b _ _ ds z ⟨_,_,_,_,rfl,by omega,λe=>by omega⟩ (λw f e=>by simp at e) (λw f e=>by simp at e) rfl (λ_ i l q t e=>by simp at e) h
    simp_all
theorem Ev:∀{a:List NB}{ds r:List kJ}{l:TH},dA a ds=some (l,r)->l.length=a.length:=by
 intro a;induction a with
 |nil=>grind [dA]
 |cons nb a ih=>
  intro ds r l h;cases nb with
  |cells b=>grind [dA]
  |row i=>
   cases ds with
   |nil=>grind [dA]
   |cons d ds=>grind [dA]
  |mp j st=>
   cases ds with
   |nil=>grind [dA]
   |cons d ds=>grind [dA]
theorem zG{σs:TH}:∀{a:List NB}{e l:TH}{ds:List kJ},dO σs a e ds=some l->l.length=a.length/\(∀(k:Nat) i (r:List (TT i)) f g,e[k]? = some (.row i r f g)->k<a.length->(∀ps,a[k]?≠some (.cells ps))->l[k]? = some (.row i r f g)) /\
  (∀(k:Nat) w cs,l[k]? = some (.cells w cs)->(∃w' d,e[k]? = some (.cells w' d)/\cs=d/\w=w')∨∀p∈cs,GS σs p.2/\p.1<=w):=by
 intro a;induction a with
 |nil=>intro e l ds h;simp only[dO,au] at h;simp_all
 |cons nb a ih=>
  intro e l ds h;cases e with
  |nil=>grind [dO]
  |cons b e=>
   have q:∀o,dO σs a e ds=some o->l=b::o->l.length=(nb::a).length/\(∀(k:Nat) i (r:List (TT i)) f g,(b::e)[k]? = some (.row i r f g)->k<(nb::a).length->(∀ps,(nb::a)[k]?≠some (.cells ps))->l[k]? = some (.row i r f g)) /\
     (∀(k:Nat) w cs,l[k]? = some (.cells w cs)->(∃w' d,(b::e)[k]? = some (.cells w' d)/\cs=d/\w=w')∨∀p∈cs,GS σs p.2/\p.1<=w):=by
    grind
   cases nb with
   |row i=>
    simp only[dO] at h
    grind
   |mp j st=>
    simp only[dO] at h
    grind
   |cells ps=>
    simp only[dO] at h;split at h
    ·rename_i A r u;split at h
     ·rename_i o v;simp only[au] at h;subst h;obtain ⟨y,E,G⟩:=ih v;refine ⟨by simp[y],λk i r f g hk K L=>?_,λk w cs hk=>?_⟩
      ·grind
      ·cases k with
       |zero=>simp only[List.getElem?_cons_zero,au,TB.cells.injEq] at hk;obtain ⟨rfl,rfl⟩:=hk;refine .inr λp t=>?_;rw[gD] at t;obtain ⟨x,z,rfl⟩:=t;exact ⟨Tq u x z,cX _⟩
       |succ k=>grind
     simp_all
    simp_all
theorem yZ:∀{a:List NB}{ds r:List kJ}{l:TH},dA a ds=some (l,r)->∀(k:Nat),(∀w cs,l[k]? = some (.cells w cs)->cs=[])/\(∀ps,a[k]? = some (.cells ps)->l[k]? = some (.cells 0 [])):=by
 intro a;induction a with
 |nil=>grind [dA]
 |cons nb a ih=>
  intro ds r l h k;cases nb with
  |cells ps=>
   simp only[dA] at h
   grind
  |row i=>
   cases ds with
   |nil=>grind [dA]
   |cons d ds=>grind [dA]
  |mp j st=>
   cases ds with
   |nil=>grind [dA]
   |cons d ds=>grind [dA]
structure Tg (σs:TH) (ps:List PC) (σ σ':TH):Prop where
 len:σ'.length=σ.length
 same:∀(b:Nat) blk,σ[b]? = some blk->(∀w cs,blk≠.cells w cs)->σ'[b]? = some blk
 fwd:∀(b:Nat) w cs,σ[b]? = some (.cells w cs)->∃w' cs',σ'[b]? = some (.cells w' cs')/\w<=w'/\cs'.length=cs.length/\∀(j:Nat) v1 x1,cs'[j]? = some (v1,x1)->cs[j]? = some (v1,x1)∨(w<v1/\v1<=w'/\GS σs x1)
 out:∀b,b∉ps.map PC.blk->σ'[b]? = σ[b]?
theorem lA{σs:TH}:∀{ps:List PC}{σ σ':TH}{ds r:List kJ},dV σs ps σ ds=some (σ',r)->Tg σs ps σ σ':=by
 intro ps;induction ps with
 |nil=>intro σ σ' ds r h;simp only[dV,au,aX] at h;obtain ⟨rfl,_⟩:=h;exact ⟨rfl,λb blk h _=>h,λb w l h=>⟨w,l,h,cX _,rfl,λj z A e=>.inl e⟩,λb _=>rfl⟩
 |cons p ps ih=>
  intro σ σ' ds r h;have skip:dV σs ps σ ds=some (σ',r)->Tg σs (p::ps) σ σ':=λh=>by have e:=ih h;exact ⟨e.len,e.same,e.fwd,λb a=>e.out b λq=>a (lI _ q)⟩
  cases p with
  |w b i=>grind [dV]
  |m b j st=>grind [dV]
  |h b j p=>
   simp only[dV] at h;split at h
   ·rename_i x E w l t o;have g:=Ps t;have e:=ih h;refine ⟨by rw[e.len];simp,λd blk a u=>?_,λd v f a=>?_,λd a=>?_⟩
    ·refine e.same d blk ?_ u
     grind
    ·by_cases k:d=b
     ·subst k;rw[o] at a;simp only[au,TB.cells.injEq] at a;obtain ⟨rfl,rfl⟩:=a;obtain ⟨w2,y,G,K,L,N⟩:=e.fwd d _ _ (Hs o)
      grind
     ·exact e.fwd d v f (by grind)
    ·simp only[ru,gq,not_or,PC.blk] at a;rw[e.out d a.2,eT a.1]
   simp_all
def eD:TV->D
 |.c x=>x.er
 |.agg a=>.agg (a.map TC.er)
 |.aS _=>.aS []
def nT:TV->Prop
 |.aS _=>False
 |_=>True
def GVs(σs:TH):TV->Prop
 |.c x=>GS σs x
 |.agg a=>∀x∈a,GS σs x
 |.aS _=>False
theorem GS.fp(σs:TH)(i:Nat)(a:TT i):GS σs (.fp i a 0):=True.intro
theorem exp_gs(σs:TH)(i:Nat)(a:TT i):∀y∈exp i a,GS σs y:=by
 have d:∀(b:List CC)(x:aS b),∀y∈uO b x,GS σs y:=by
  intro b;induction b with
  |nil=>grind [uO]
  |cons c b ih=>grind [uO,Jp]
 exact d _ _
theorem pRO_gs{σs:TH}{p:RO}{ds r:List kJ}{v:TV}(h:zu σs p ds=some (v,r)):GVs σs v:=by
 unfold zu at h;split at h
 ·split at h
  ·simp only[au,aX] at h;obtain ⟨rfl,_⟩:=h;exact Jp σs _ _
  simp_all
 ·split at h
  ·simp only[au,aX] at h;obtain ⟨rfl,_⟩:=h;exact exp_gs σs _ _
  simp_all
 ·split at h
  ·simp only[au,aX] at h;obtain ⟨rfl,_⟩:=h;exact True.intro
  simp_all
 ·split at h
  ·rename_i x b a;simp only[au,aX] at h;obtain ⟨rfl,_⟩:=h;exact Ps a
  simp_all
 ·split at h
  ·rename_i d b a;simp only[au,aX] at h;obtain ⟨rfl,_⟩:=h;exact Tq a
  simp_all
 simp_all
theorem JY{σs:TH}:∀{ps:List RO}{ds r:List kJ}{vs:List TV},kZ σs ps ds=some (vs,r)->∀v∈vs,GVs σs v:=by
 intro ps;induction ps with
 |nil=>grind [kZ]
 |cons p ps ih=>grind [kZ,pRO_gs]
theorem GVs.gv{σs aA:TH}(h:SR σs aA){v:TV}(g:GVs σs v):GV aA v:=by
 cases v with
 |c x=>exact GS.gc h g
 |agg i=>exact λx j=>GS.gc h (g x j)
 |aS i=>exact g.elim
theorem GVs.nt{σs:TH}{v:TV}(g:GVs σs v):nT v:=by
 cases v with
 |aS i=>exact g.elim
 |_=>trivial
theorem RT.eD{v:TV}(h:nT v):RT v (eD v):=by
 cases v with
 |c x=>exact .inr rfl
 |agg i=>exact ⟨_,rfl,aJ.er i⟩
 |aS i=>exact h.elim
theorem Sm{vs:List TV}(h:∀v∈vs,nT v):RT (xw vs) (one (vs.map Go.Abs.eD)):=by
 have aS:∀(vs:List TV),(∀v∈vs,nT v)->aJ RE (vs.map teT) (vs.map Go.Abs.eD):=by
  intro vs;induction vs with
  |nil=>intro _;exact .nil
  |cons v vs ih=>
   intro h;refine .cons ?_ (ih λv b=>h v (lI _ b));have:=h v (ql ..);cases v with
   |c x=>exact ⟨x,rfl,.inr rfl⟩
   |agg a=>exact ⟨_,rfl,aJ.er a⟩
   |aS a=>exact this.elim
 cases vs with
 |nil=>exact ⟨[],rfl,.nil⟩
 |cons v vs=>
  cases vs with
  |nil=>exact RT.eD (h v (ql ..))
  |cons d vs=>exact ⟨_,rfl,aS _ h⟩
theorem RZ{σ:TH}{vs:List TV}(h:∀v∈vs,GV σ v):GV σ (xw vs):=by
 have aS:∀(vs:List TV),(∀v∈vs,GV σ v)->GV σ (.aS (vs.map teT)):=by
  intro vs h p b x a;rw[gD] at b;obtain ⟨v,d,rfl⟩:=b;have:=h v d;cases v with
  |c y=>simp only[teT,gq,KY,KU] at a;subst a;exact this
  |agg e=>exact this x a
  |aS e=>grind [teT]
 cases vs with
 |nil=>exact aS _ h
 |cons v vs=>
  cases vs with
  |nil=>exact h v (ql ..)
  |cons f vs=>exact aS _ h
theorem MC:∀{ps:List PC}{σ f:TH}{ds r:List kJ},cd σ ps ds=some (f,r)->∀p∈ps,(∃b i,p=.w b i)∨(∃b j st,p=.m b j st)->p.blk<σ.length:=by
 intro ps;induction ps with
 |nil=>simp_all
 |cons p ps ih=>
  intro σ f ds r h q a t;cases p with
  |h b j c=>grind [cd]
  |w b i=>
   cases ds with
   |nil=>grind [cd]
   |cons d ds=>
    simp only[cd] at h;split at h
    ·rename_i l j g u x k e;split at h
     ·rcases gq.1 a with rfl | a
      ·exact (gC.1 e).1
      grind
     simp_all
    simp_all
  |m b j st=>
   cases ds with
   |nil=>grind [cd]
   |cons d ds=>
    simp only[cd] at h;split at h
    ·rename_i l y o g v k e;rcases gq.1 a with rfl | a
     ·exact (gC.1 e).1
     grind
    simp_all
theorem pPCs_in{σs:TH}:∀{ps:List PC}{σ σ':TH}{ds r:List kJ},dV σs ps σ ds=some (σ',r)->∀b j p,PC.h b j p∈ps->b<σ.length:=by
 intro ps;induction ps with
 |nil=>simp_all
 |cons q ps ih=>
  intro σ σ' ds r h b j p e;cases q with
  |w a i=>grind [dV]
  |m a d st=>grind [dV]
  |h a d f=>grind [dV]
structure Laid (ct:CT) (σ:TH) (ds:List kJ) (rv:List TV) (F:TH) where
 iP:TH
 d1:List kJ
 nb:TH
 d2:List kJ
 d3:List kJ
 aA:TH
 d4:List kJ
 l:TH
 h1:cd σ ct.pl ds=some (iP,d1)
 h2:dA ct.nb d1=some (nb,d2)
 h3:kZ (iP++nb) ct.out d2=some (rv,d3)
 h4:dV (iP++nb) ct.pl iP d3=some (aA,d4)
 h5:dO (iP++nb) ct.nb nb d4=some l
 e:F=aA++l
theorem mA{ct:CT}{σ F:TH}{x:dJ ct.items}{rv:List TV}(h:mY ct σ x=some (rv,F)):Nonempty (Laid ct σ (dR ct.items x) rv F):=by
 unfold mY at h;split at h
 ·simp at h
 ·rename_i a b d;split at h
  ·simp at h
  ·rename_i nb e f;split at h
   ·simp at h
   ·rename_i p g i;split at h
    ·simp at h
    ·rename_i aA j k;split at h
     ·rename_i l o;simp only[au,aX] at h;obtain ⟨rfl,rfl⟩:=h;exact ⟨⟨a,b,nb,e,g,aA,j,l,d,f,i,k,o,rfl⟩⟩
     simp_all
section
variable{ct:CT}{σ F:TH}{σD:ar}{ds:List kJ}{rv:List TV}
theorem Laid.fl(L:Laid ct σ ds rv F):F.length=L.aA.length+L.l.length:=by have:=Dr List.length L.e;simp_all
theorem Laid.fa(L:Laid ct σ ds rv F)(b:Nat):F[b]? = (L.aA++L.l)[b]?:=Dr (λl=>l[b]?) L.e
theorem Laid.sr(L:Laid ct σ ds rv F):SR (L.iP++L.nb) F:=by
 have C:=lA L.h4;obtain ⟨x,z,K⟩:=zG L.h5;refine ⟨by rw[L.fl,AH,C.len,x,Ev L.h2],λb i l A E j=>?_⟩;rw[L.fa];rcases sO b L.iP.length with o | u
 ·rw[HA o] at j;rw[HA (by grind [Tg.len])];exact C.same b _ j (λw O e=>by simp at e)
 ·rw[OG u] at j;rw[OG (by grind [Tg.len]),C.len];refine z _ i l A E j (by rw[<-Ev L.h2];grind) λG e=>?_;rw[(yZ L.h2 _).2 G e] at j
  grind
theorem Laid.lt(L:Laid ct σ ds rv F)(H:RH σ σD){b:Nat}(h:b<σ.length):F[b]? = L.aA[b]?:=by have C:=lA L.h4;have i:=iO L.h1 H;rw[L.fa,HA (by rw[C.len,i.len];exact h)]
theorem Laid.ext(L:Laid ct σ ds rv F)(H:RH σ σD):Ext σ F:=by
 have C:=lA L.h4;have E:=iO L.h1 H;obtain ⟨G,Z⟩:=E.rh;refine Ext.trans H E.ext λb blk K=>?_;have u:b<σ.length:=by grind [yQ.len]
 rw[L.lt H u];have other:(∀w z,blk≠.cells w z)->∃o,L.aA[b]? = some o/\BE blk o:=λO=>⟨blk,C.same b blk K O,BE.refl blk⟩;cases blk with
 |cells w z=>
  obtain ⟨w',A,R,U,W,e4⟩:=C.fwd b w z K;refine ⟨_,R,w',A,rfl,U,W,λj v x v1 x1 h h1=>?_⟩
  grind
 |row i l lv cv=>simp_all
 |mp j st l v=>simp_all
theorem Laid.rh(L:Laid ct σ ds rv F)(H:RH σ σD):RH F (F.map TB.er):=by
 have C:=lA L.h4;have Z:=iO L.h1 H;have S:=L.sr;obtain ⟨aa,Hr⟩:=Z.rh;obtain ⟨n1,n2,n3⟩:=zG L.h5;have er:Ext L.iP F:=λb blk u=>by
  have E:b<σ.length:=by grind [yQ.len]
  rw[L.lt H E];have other:(∀w z,blk≠.cells w z)->∃A,L.aA[b]? = some A/\BE blk A:=λhn=>⟨blk,C.same b blk u hn,BE.refl blk⟩;cases blk with
  |cells w z=>
   obtain ⟨w',G,O,U,e3,e4⟩:=C.fwd b w z u;refine ⟨_,O,w',G,rfl,U,e3,λj v x v1 x1 h W=>?_⟩
   grind
  |row i l lv cv=>simp_all
  |mp j st l v=>simp_all
 refine RH.mk' λb w z u p hp=>?_;rcases sO b σ.length with E | ad
 ·rw[L.lt H E] at u;have K:=eS (show b<L.iP.length by grind [yQ.len]);cases o:L.iP[b]'(by grind) with
  |row i l lv cv=>rw[o] at K;rw[C.same b _ K (λw z e=>by simp at e)] at u;grind
  |mp j st l v=>rw[o] at K;rw[C.same b _ K (λw z e=>by simp at e)] at u;grind
  |cells w0 R=>
   rw[o] at K;obtain ⟨w',G,O,U,e3,e4⟩:=C.fwd b w0 R K;rw[u] at O;simp only[au,TB.cells.injEq] at O;obtain ⟨rfl,rfl⟩:=O;obtain ⟨j,hj⟩:=yB8 hp;obtain ⟨v1,x1⟩:=p;rcases e4 j v1 x1 hj with h5 | ⟨h5,h6,h7⟩
   ·obtain ⟨h8,h9⟩:=Hr.hg b w0 R K _ (Bb h5);exact ⟨h8.mono er,lK h9 U⟩
   grind [GS.gc]
 ·have ab:L.aA.length=σ.length:=by rw[C.len,Z.len]
  rw[L.fa,OG (by omega)] at u;rcases n3 _ w z u with ⟨w',G,W,rfl,rfl⟩ | W
  ·rw[(yZ L.h2 _).1 w z W] at hp;grind
  grind [GS.gc]
theorem Laid.out(L:Laid ct σ ds rv F)(H:RH σ σD){b:Nat}(j:b<σ.length)(i:b∉ct.pl.map PC.blk):F[b]? = σ[b]?:=by rw[L.lt H j,(lA L.h4).out b i,(iO L.h1 H).out b i]
theorem Laid.szs(L:Laid ct σ ds rv F)(H:RH σ σD)(K:ct.pl.any PC.rs=false){b:Nat}(z:b<σ.length):∃x y,σ[b]? = some x/\F[b]? = some y/\x.er.sz=y.er.sz:=by
 have C:=lA L.h4;have E:=iO L.h1 H;have u:=eS z;cases o:σ[b] with
 |cells w A=>rw[o] at u;obtain ⟨w',O,R,e2,e3,e4⟩:=C.fwd b w A ((E.cells b w A).1 u);exact ⟨_,_,u,by rw[L.lt H z];exact R,by grind [TB.er,Ob.sz]⟩
 |row i l U W=>rw[o] at u;exact ⟨_,_,u,by rw[L.lt H z];exact C.same b _ (E.row K b i l U W u) (λw A e=>by simp at e),rfl⟩
 |mp j st l v=>rw[o] at u;obtain ⟨G,Z,j1,aa,l1,v1,rfl,_⟩:=L.ext H b _ u;exact ⟨_,_,u,Z,rfl⟩
theorem Laid.all(L:Laid ct σ ds rv F)(H:RH σ σD):RH F (F.map TB.er)/\RT (xw rv) (one (rv.map eD))/\GV F (xw rv)/\Ext σ F/\(∀b,b<σD.length->b∉ct.pl.map PC.blk->(F.map TB.er)[b]? = σD[b]?)/\(ct.pl.any PC.rs=false->jt σD (F.map TB.er) (ct.pl.map PC.blk)=true):=by
 have g:=JY L.h3;refine ⟨L.rh H,Sm λv o=>(g v o).nt,RZ λv o=>(g v o).gv L.sr,L.ext H,λb u E=>?_,λG=>?_⟩
 ·rw[H.eqD,mE,mE,L.out H (by grind [RH.len]) E]
 ·rw[H.eqD,jt,iR];intro b u;rw[gD] at u;obtain ⟨p,z,rfl⟩:=u;have A:p.blk<σ.length:=by
   cases p with
   |w b i=>exact MC L.h1 _ z (.inl ⟨b,i,rfl⟩)
   |m b j st=>exact MC L.h1 _ z (.inr ⟨b,j,st,rfl⟩)
   |h b j c=>have:=pPCs_in L.h4 b j c z;rwa [(iO L.h1 H).len] at this
  obtain ⟨x,y,K,O,R⟩:=L.szs H G A
  simp_all
end
end
end Go.Abs
end
section
namespace Go.Abs
noncomputable section
variable[Gl][Y:Ty]
structure Mo (s s':MS):Prop where
 KW:∀b o,qf b s.ρ=some o->qf b s'.ρ=some o
 fz:∀b,b∈s.fz->b∈s'.fz
theorem Mo.refl(s:MS):Mo s s:=⟨λ_ _ h=>h,λ_ h=>h⟩
theorem Mo.trans{a b c:MS}(h:Mo a b)(i:Mo b c):Mo a c:=⟨λx o e=>i.KW x o (h.KW x o e),λx e=>i.fz x (h.fz x e)⟩
structure MI (m:Nat) (σ1:TH) (s:MS):Prop where
 ge:∀p∈s.ρ,m<=p.1/\m<=p.2
 fz:∀b∈s.fz,∃(i:Nat)(l:List (TT i))(lv cv:Nat),σ1[b]? = some (.row i l lv cv)
def Bd(m:Nat)(s:MS)(b b':Nat):Prop:=(b<m/\b'=b)∨(m<=b/\qf b s.ρ=some b')
theorem Bd.mono{m:Nat}{s s':MS}{b b':Nat}(h:Mo s s'):Bd m s b b'->Bd m s' b b'
 |.inl a=>.inl a
 |.inr a=>.inr ⟨a.1,h.KW _ _ a.2⟩
def CM(m:Nat)(σ1 σs:TH)(s:MS)(x y:TC):Prop:=
 (Fe x.er y.er/\y.er.low 0=true/\(x=.d (.c (.lit (.slice none 0 0)))∨x.er=y.er)) ∨
 (∃(i b v:Nat)(l:List (TT i))(d:Nat),x=.own i b v l.length/\b∈s.fz/\σ1[b]? = some (.row i l v d)/\y.er=.c (.cJ false (l.map (enc i)))) ∨
 (∃(i b a v:Nat)(g:List (TT i))(e j h:Nat)(l:List (TT j))(d:Nat),x=.own i a v g.length/\Bd m s b a/\σ1[a]? = some (.row i g v e)/\y=.own j b h l.length/\σs[b]? = some (.row j l h d)) ∨
 (∃b a off sz,x=.d (.ptr a off sz)/\Bd m s b a/\y=.d (.ptr b off sz)/\b<σs.length) ∨
 (∃b a,x=.d (.mp a)/\Bd m s b a/\y=.d (.mp b)/\b<σs.length) ∨
 (∃f b a sz,x=.d (.fn (.func f) [] [.ptr a 0 sz])/\Bd m s b a/\y=.d (.fn (.func f) [] [.ptr b 0 sz])/\b<σs.length)
variable{m:Nat}{σ σ1 σs:TH}{s s':MS}
theorem CM.mono(h:Mo s s'){x y:TC}(c:CM m σ1 σs s x y):CM m σ1 σs s' x y:=by
 rcases c with c | ⟨i,b,v,l,G,o,u,z,A⟩ | ⟨i,b,E,v,O,K,j,R,l,G,o,u,z,A,U⟩ | ⟨b,E,off,sz,o,u,z,A⟩ | ⟨b,E,o,u,z,A⟩ | ⟨f,b,E,sz,o,u,z,A⟩
 ·exact .inl c
 ·exact .inr (.inl ⟨i,b,v,l,G,o,h.fz _ u,z,A⟩)
 ·exact .inr (.inr (.inl ⟨i,b,E,v,O,K,j,R,l,G,o,u.mono h,z,A,U⟩))
 ·exact .inr (.inr (.inr (.inl ⟨b,E,off,sz,o,u.mono h,z,A⟩)))
 ·exact .inr (.inr (.inr (.inr (.inl ⟨b,E,o,u.mono h,z,A⟩))))
 ·exact .inr (.inr (.inr (.inr (.inr ⟨f,b,E,sz,o,u.mono h,z,A⟩))))
theorem aJ.mono{α i:Type}{R j:α->i->Prop}(h:∀a b,R a b->j a b){l:List α}{o:List i}(a:aJ R l o):aJ j l o:=by
 induction a with
 |nil=>exact .nil
 |cons x _ ih=>exact .cons (h _ _ x) ih
theorem CM.data{c:CC}{x:TC}{a:c.dn}(h:DE c x=some a):CM m σ1 σs s x (rT c a):=by have i:=pR h;refine .inl ⟨?_,by rw[lO];rfl,by grind [lO,Qi]⟩;rw[lO,<-i.2];intro σ M Fz w v j;exact JL j
theorem PI{c:CC}{x:TC}{a:c.dn}(h:DE c (Da σ1 x)=some a)(g:GC σ1 x):(∀b∈ja [x],∃(i:Nat)(l:List (TT i))(d e:Nat),σ1[b]? = some (.row i l d e))/\∀m σs s,(∀b∈ja [x],b∈s.fz)->CM m σ1 σs s x (rT c a):=by
 cases x with
 |own i b v n=>
  simp only[Da] at h;split at h
  ·rename_i j l d e o;split at h
   ·rename_i p;have:=cY p;subst this;obtain ⟨blk,f,q⟩:=g;rw[o] at f;simp only[au] at f;obtain ⟨_,r⟩:=q _ _ _ _ f.symm;obtain ⟨rfl,rfl⟩:=r rfl;refine ⟨λu k=>?_,λm σs s hs=>.inr (.inl ⟨j,b,d,l,e,rfl,hs b (by simp[ja]),o,?_⟩)⟩
    ·simp only[ja,gq,KY,KU] at k
     grind
    ·have t:=pR h;rw[lO,<-t.2];rfl
   grind [DE]
  grind [DE]
 |_=>exact ⟨by simp[ja],λm σs s _=>CM.data h⟩
theorem WO{d a:D}(h:eqK d a=true):d=a:=by
 unfold eqK at h;split at h
 ·rfl
 ·rfl
 ·rfl
 ·rfl
 ·simp_all
 ·simp_all
 simp_all
theorem Aj{b b':Nat}(h:Il m b b' s=some s'):Mo s s'/\s'.rw=s.rw/\s'.cl=s.cl/\Bd m s' b b'/\(MI m σ1 s->MI m σ1 s'):=by
 unfold Il at h;split at h
 ·rename_i a;split at h
  ·rename_i e;simp only[au] at h;subst h;exact ⟨Mo.refl s,rfl,rfl,.inl ⟨ug.mp a,(cY e).symm⟩,id⟩
  simp_all
 ·rename_i a;have d:m<=b:=by
   grind [Nat.blt_eq]
  split at h
  ·rename_i o g;split at h
   ·rename_i e;simp only[au] at h;subst h;have:=cY e;subst this;exact ⟨Mo.refl s,rfl,rfl,.inr ⟨d,g⟩,id⟩
   simp_all
  ·rename_i g;split at h
   ·rename_i i;simp only[au] at h;subst h;refine ⟨⟨λq o j=>?_,λ_ h=>h⟩,rfl,rfl,.inr ⟨d,?_⟩,λI=>⟨λp f=>?_,I.fz⟩⟩
    ·grind [qf,Nat.eq_of_beq_eq_true]
    ·grind [qf,Nat.beq_refl]
    ·rcases gq.1 f with rfl | f
     ·simp_all
     ·exact I.ge p f
   simp_all
theorem Rh{p:CP}{x:TC}(h:mCP m σ1 p x s=some s')(g:GC σ1 x):∃Z,s'.cl=s.cl++Z/\s'.rw=s.rw/\Mo s s'/\(MI m σ1 s->MI m σ1 s')/\∀σs e y r,wY σs p (Z++e)=some (y,r)->r=e/\CM m σ1 σs s' x y:=by
 unfold mCP at h;split at h
 ·rename_i c i b v n;split at h
  ·rename_i a ha;simp only[au] at h;subst h;obtain ⟨L,N⟩:=PI ha g;refine ⟨_,rfl,rfl,⟨λ_ _ h=>h,λ_ h=>lI _ h⟩,λI=>⟨I.ge,λt z=>?_⟩,λσs e y r k=>?_⟩
   ·rcases gq.1 z with rfl | z
    ·exact L _ (by simp[ja])
    ·exact I.fz t z
   ·simp only[List.singleton_append,wY,Gb,au,aX] at k;obtain ⟨rfl,rfl⟩:=k;exact ⟨rfl,N m σs _ (by simp[ja])⟩
  simp_all
 ·rename_i c x hx;split at h
  ·rename_i a ha;simp only[au] at h;subst h;refine ⟨_,rfl,rfl,⟨λ_ _ h=>h,λ_ h=>h⟩,λI=>⟨I.ge,I.fz⟩,λσs e y r k=>?_⟩;simp only[List.singleton_append,wY,Gb,au,aX] at k
   grind [CM.data]
  simp_all
 ·rename_i u v;simp only[au] at h;subst h;refine ⟨_,rfl,rfl,⟨λ_ _ h=>h,λ_ h=>h⟩,λI=>⟨I.ge,I.fz⟩,λσs e y r k=>?_⟩;simp only[List.singleton_append,wY,Gb,au,aX] at k;obtain ⟨rfl,rfl⟩:=k;exact ⟨rfl,.inl ⟨λ_ _ _ _ _ h=>h,rfl,.inr rfl⟩⟩
 ·rename_i b i t v n;split at h
  ·rename_i j l lv cv q;split at h
   ·rename_i o;have:=cY o;subst this;obtain ⟨blk,L,N⟩:=g;rw[q] at L;simp only[au] at L;obtain ⟨_,h3⟩:=N _ _ _ _ L.symm;obtain ⟨rfl,rfl⟩:=h3 rfl;obtain ⟨A,E,O,G,K⟩:=Aj (σ1:=σ1) h;refine ⟨[],by simp_all,E,A,K,λσs e y r k=>?_⟩;simp only[List.nil_append,wY] at k;split at k
    ·rename_i i' l' R S hs;simp only[au,aX] at k;obtain ⟨rfl,rfl⟩:=k;exact ⟨rfl,.inr (.inr (.inl ⟨_,b,t,_,l,cv,i',R,l',S,rfl,G,q,rfl,hs⟩))⟩
    simp_all
   simp_all
  simp_all
 ·rename_i b off sz t aa T;split at h
  ·rename_i o;simp only[bN] at o;have U:=cY o.1;have W:=cY o.2;subst U W;obtain ⟨A,E,O,G,K⟩:=Aj (σ1:=σ1) h;refine ⟨[],by simp_all,E,A,K,λσs e y r k=>?_⟩;simp only[List.nil_append,wY] at k;split at k
   ·rename_i q;simp only[au,aX] at k;obtain ⟨rfl,rfl⟩:=k;exact ⟨rfl,.inr (.inr (.inr (.inl ⟨b,t,off,sz,rfl,G,rfl,ug.mp q⟩)))⟩
   simp_all
  simp_all
 ·rename_i b t;obtain ⟨A,E,O,G,K⟩:=Aj (σ1:=σ1) h;refine ⟨[],by simp_all,E,A,K,λσs e y r k=>?_⟩;simp only[List.nil_append,wY] at k;split at k
  ·rename_i q;simp only[au,aX] at k;obtain ⟨rfl,rfl⟩:=k;exact ⟨rfl,.inr (.inr (.inr (.inr (.inl ⟨b,t,rfl,G,rfl,ug.mp q⟩))))⟩
  simp_all
 ·rename_i f b sz f' t T;split at h
  ·rename_i o;simp only[bN] at o;have U:=cY o.1;have W:=cY o.2;subst U W;obtain ⟨A,E,O,G,K⟩:=Aj (σ1:=σ1) h;refine ⟨[],by simp_all,E,A,K,λσs e y r k=>?_⟩;simp only[List.nil_append,wY] at k;split at k
   ·rename_i q;simp only[au,aX] at k;obtain ⟨rfl,rfl⟩:=k;exact ⟨rfl,.inr (.inr (.inr (.inr (.inr ⟨_,b,t,_,rfl,G,rfl,ug.mp q⟩))))⟩
   simp_all
  simp_all
 ·rename_i d d';split at h
  ·rename_i o;have:=WO o;subst this;simp only[au] at h;subst h;refine ⟨[],by simp_all,rfl,Mo.refl s,id,λσs e y r k=>?_⟩;simp only[List.nil_append,wY] at k;split at k
   ·rename_i q;simp only[au,aX] at k;obtain ⟨rfl,rfl⟩:=k;exact ⟨rfl,.inl ⟨λ_ _ _ _ _ h=>h,q,.inr rfl⟩⟩
   simp_all
  simp_all
 simp_all
theorem Rt:∀{ps:List CP}{xs:List TC}{s s':MS},Nw m σ1 ps xs s=some s'->(∀x∈xs,GC σ1 x)->∃f,s'.cl=s.cl++f/\s'.rw=s.rw/\Mo s s'/\(MI m σ1 s->MI m σ1 s')/\∀σs a d r,AM σs ps (f++a)=some (d,r)->r=a/\aJ (CM m σ1 σs s') xs d:=by
 intro ps;induction ps with
 |nil=>
  intro xs s s' h g;cases xs with
  |nil=>simp only[Nw,au] at h;subst h;refine ⟨[],by simp,rfl,Mo.refl s,id,λσs a d r b=>?_⟩;simp only[List.nil_append,AM,au,aX] at b;obtain ⟨rfl,rfl⟩:=b;exact ⟨rfl,.nil⟩
  |cons x xs=>grind [Nw]
 |cons p ps ih=>
  intro xs s s' h g;cases xs with
  |nil=>grind [Nw]
  |cons x xs=>
   simp only[Nw] at h;split at h
   ·rename_i s1 j;obtain ⟨k,L,N,l,o,q⟩:=Rh j (g x (ql ..));obtain ⟨t,O,R,i,u,v⟩:=ih h λy b=>g y (lI _ b);refine ⟨k++t,by grind,by grind,l.trans i,λI=>u (o I),λσs a d r b=>?_⟩;rw[xI] at b;simp only[AM] at b;split at b
    ·rename_i y z A;obtain ⟨rfl,c1⟩:=q σs _ y z A;split at b
     ·rename_i E S G;simp only[au,aX] at b;obtain ⟨rfl,rfl⟩:=b;obtain ⟨e,K⟩:=v σs _ _ _ G;exact ⟨e,.cons (c1.mono i) K⟩
     grind
    grind
   simp_all
def VM(m:Nat)(σ1 σs:TH)(s:MS):TV->TV->Prop
 |.c x,.c y=>CM m σ1 σs s x y
 |.agg xs,.agg a=>aJ (CM m σ1 σs s) xs a
 |_,_=>False
theorem VM.mono(h:Mo s s'){x y:TV}(c:VM m σ1 σs s x y):VM m σ1 σs s' x y:=by
 cases x with
 |c x => cases y with
  |c y=>exact CM.mono h c
  |_=>exact c.elim
 |agg i => cases y with
  |agg j=>exact aJ.mono (λ_ _=>CM.mono h) c
  |_=>exact c.elim
 |aS i=>exact c.elim
theorem frTs_cm:∀{cs:List CC}{xs:List TC}{a:aS cs},Fp cs (xs.map (Da σ1))=some a->(∀x∈xs,GC σ1 x)->(∀b∈ja xs,∃(i:Nat)(l:List (TT i))(f j:Nat),σ1[b]? = some (.row i l f j))/\∀m σs s,(∀b∈ja xs,b∈s.fz)->aJ (CM m σ1 σs s) xs (uO cs a):=by
 intro cs;induction cs with
 |nil=>
  intro xs a h g;cases xs with
  |nil=>exact ⟨by simp[ja],λm σs s _=>.nil⟩
  |cons x xs=>grind [Fp]
 |cons c cs ih=>
  intro xs a h g;cases xs with
  |nil=>grind [Fp]
  |cons x xs=>
   simp only[ru,Fp] at h;split at h
   ·rename_i t u k o;simp only[au] at h;subst h;obtain ⟨v,p⟩:=PI k (g x (ql ..));obtain ⟨z,q⟩:=ih o λy r=>g y (lI _ r);have e:∀b,b∈ja (x::xs)↔b∈ja [x]∨b∈ja xs:=by
     intro b;cases x <;> simp[ja]
    refine ⟨λb d=>?_,λm σs s hs=>.cons (p m σs s λb d=>hs b ((e b).2 (.inl d))) (q m σs s λb d=>hs b ((e b).2 (.inr d)))⟩
    grind
   simp_all
theorem mRO_ok{p:RO}{v:TV}(h:mRO m σ1 p v s=some s')(g:GV σ1 v):∃N,s'.cl=s.cl++N/\s'.rw=s.rw/\Mo s s'/\(MI m σ1 s->MI m σ1 s')/\∀σs d y r,zu σs p (N++d)=some (y,r)->r=d/\VM m σ1 σs s' v y:=by
 unfold mRO at h;split at h
 ·rename_i c;split at h
  ·rename_i a k;simp only[au] at h;subst h;cases v with
   |c x=>
    obtain ⟨o,u⟩:=PI (c:=c) k g;refine ⟨_,rfl,rfl,⟨λ_ _ h=>h,λ_ h=>yB5 _ h⟩,λI=>⟨I.ge,λb l=>?_⟩,λσs d y r f=>?_⟩
    ·rcases gp.1 l with l | l
     ·exact o b l
     ·exact I.fz b l
    ·simp only[List.singleton_append,zu,Gb,au,aX] at f;obtain ⟨rfl,rfl⟩:=f;exact ⟨rfl,u m σs _ λb l=>yB9 _ l⟩
   |agg q=>grind [fU,ry,Ky]
   |aS q=>grind [fU,ry,Ky]
  simp_all
 ·rename_i i;split at h
  ·rename_i a k;simp only[au] at h;subst h;cases v with
   |c x=>grind [fU,ry,CZ]
   |aS x=>grind [fU,ry,CZ]
   |agg q=>
    simp only[fU,ry,CZ] at k;split at k
    ·rename_i t R;simp only[au] at k;subst k;obtain ⟨o,u⟩:=frTs_cm R g;refine ⟨_,rfl,rfl,⟨λ_ _ h=>h,λ_ h=>yB5 _ h⟩,λI=>⟨I.ge,λb l=>?_⟩,λσs d y r f=>?_⟩
     ·rcases gp.1 l with l | l
      ·exact o b l
      ·exact I.fz b l
     ·simp only[List.singleton_append,zu,Gb,au,aX] at f;obtain ⟨rfl,rfl⟩:=f;refine ⟨rfl,?_⟩;show aJ _ q (uO _ _);rw[Y.pm];exact u m σs _ λb l=>yB9 _ l
    simp_all
  simp_all
 ·rename_i i;split at h
  ·rename_i a k;simp only[au] at h;subst h;refine ⟨_,rfl,rfl,⟨λ_ _ h=>h,λ_ h=>h⟩,λI=>⟨I.ge,I.fz⟩,λσs d y r f=>?_⟩;simp only[List.singleton_append,zu,Gb,au,aX] at f;obtain ⟨rfl,rfl⟩:=f;refine ⟨rfl,?_⟩;cases v with
   |c x=>
    cases x with
    |fp j b off=>
     simp only[fU,Da,ry] at k;unfold CQ at k;split at k
     ·rename_i U W O;simp only[TV.c.injEq,TC.fp.injEq] at O;obtain ⟨rfl,u,rfl⟩:=O;cases u;split at k
      ·rename_i e _;subst e;simp only[au] at k;subst k;exact .inl ⟨λ_ _ _ _ _ h=>h,rfl,.inr rfl⟩
      simp_all
     simp_all
    |own j b v n=>
     exfalso;simp only[fU,Da,ry] at k;split at k
     ·split at k <;> simp[CQ] at k
     grind [CQ]
    |_=>grind [fU,Da,ry,CQ]
   |agg q=>grind [fU,ry,CQ]
   |aS q=>grind [fU,ry,CQ]
  simp_all
 ·rename_i p x;obtain ⟨L,z,A,E,G,K⟩:=Rh h g;refine ⟨L,z,A,E,G,λσs d y r f=>?_⟩;simp only[zu] at f;split at f
  ·rename_i S T o;simp only[au,aX] at f;obtain ⟨rfl,rfl⟩:=f;exact K σs d _ _ o
  simp_all
 ·rename_i Z q;obtain ⟨L,z,A,E,G,K⟩:=Rt h g;refine ⟨L,z,A,E,G,λσs d y r f=>?_⟩;simp only[zu] at f;split at f
  ·rename_i S T o;simp only[au,aX] at f;obtain ⟨rfl,rfl⟩:=f;exact K σs d _ _ o
  simp_all
 simp_all
theorem mROs_ok:∀{ps:List RO}{xs:List TV}{s s':MS},KQ m σ1 ps xs s=some s'->(∀x∈xs,GV σ1 x)->∃f,s'.cl=s.cl++f/\s'.rw=s.rw/\Mo s s'/\(MI m σ1 s->MI m σ1 s')/\∀σs a d r,kZ σs ps (f++a)=some (d,r)->r=a/\aJ (VM m σ1 σs s') xs d:=by
 intro ps;induction ps with
 |nil=>
  intro xs s s' h g;cases xs with
  |nil=>simp only[KQ,au] at h;subst h;refine ⟨[],by simp,rfl,Mo.refl s,id,λσs a d r b=>?_⟩;simp only[List.nil_append,kZ,au,aX] at b;obtain ⟨rfl,rfl⟩:=b;exact ⟨rfl,.nil⟩
  |cons x xs=>grind [KQ]
 |cons p ps ih=>
  intro xs s s' h g;cases xs with
  |nil=>grind [KQ]
  |cons x xs=>
   simp only[KQ] at h;split at h
   ·rename_i s1 j;obtain ⟨k,L,N,l,o,q⟩:=mRO_ok j (g x (ql ..));obtain ⟨t,O,R,i,u,v⟩:=ih h λy b=>g y (lI _ b);refine ⟨k++t,by grind,by grind,l.trans i,λI=>u (o I),λσs a d r b=>?_⟩;rw[xI] at b;simp only[kZ] at b;split at b
    ·rename_i y z A;obtain ⟨rfl,c1⟩:=q σs _ y z A;split at b
     ·rename_i E S G;simp only[au,aX] at b;obtain ⟨rfl,rfl⟩:=b;obtain ⟨e,K⟩:=v σs _ _ _ G;exact ⟨e,.cons (c1.mono i) K⟩
     grind
    grind
   simp_all
end
end Go.Abs
end
section
namespace Go.Abs
noncomputable section
variable[Gl][Y:Ty]
def uW(x y:TB):Prop:=(∃(i:Nat)(l:List (TT i))(d e a b:Nat),x=.row i l d e/\y=.row i l a b)∨(∃(j:Nat)(st:Bool)(l:List (Int×TT j))(v f:Nat),x=.mp j st l v/\y=.mp j st l f)
def PC.rw:PC->Bool
 |.h ..=>false
 |_=>true
variable{m:Nat}{σ σ1 σs:TH}{s s':MS}
theorem mPCs_ok (hg:∀(b:Nat) w cs,σ1[b]? = some (.cells w cs)→∀p∈cs,GC σ1 p.2):∀{ps:List PC} {s s':MS},GF m σ σ1 ps s=some s' →
  ∃ L Lc, s'.rw = s.rw ++ L ∧ s'.cl = s.cl ++ Lc ∧ Mo s s' ∧ (MI m σ1 s → MI m σ1 s') ∧ (∀ p ∈ ps, p.blk < m) ∧
   (∀f d A r,cd f ps (L++d)=some (A,r)→r=d∧∀b:Nat,((∀p∈ps,p.rw=true→p.blk≠b)∧A[b]? = f[b]?)∨∃x y,σ1[b]? = some x∧A[b]? = some y∧uW x y) ∧
   (∀σs f d σ' r,dV σs ps f (Lc++d)=some (σ',r)→(∀(b:Nat) w cs w1 t,f[b]? = some (.cells w cs)→σ1[b]? = some (.cells w1 t)→cs.length=t.length)→r=d ∧
    (∀(b j:Nat) p,PC.h b j p∈ps→∃w cs w' k x y,σ1[b]? = some (.cells w cs)∧σ'[b]? = some (.cells w' k)∧cs[j]? = some x∧k[j]? = some y∧CM m σ1 σs s' x.2 y.2) ∧
    (∀(b:Nat) w cs,f[b]? = some (.cells w cs)→∃w' k,σ'[b]? = some (.cells w' k)∧∀j:Nat,(∀p,PC.h b j p∉ps)→k[j]? = cs[j]?)):=by
 intro ps
 induction ps with
 | nil =>
  intro s s' h
  simp only [GF,au] at h
  subst h
  refine ⟨[],[],by simp,by simp,Mo.refl s,id,by simp,fun f d A r h=>?_,fun σs f d σ' r h _=>?_⟩
  ·simp only [List.nil_append,cd,au,aX] at h
   simp_all
  ·simp only [List.nil_append,dV,au,aX] at h
   grind
 | cons p ps ih =>
  intro s s' h
  cases p with
  | h b j p =>
   simp only [GF] at h
   split at h
   ·rename_i w1 t K v
    split at h
    ·rename_i x hx
     split at h
     ·rename_i s1 h1
      obtain ⟨L1,a1,a2,a3,a4,a5⟩:=Rh h1 (hg b w1 t K x (Bb hx))
      obtain ⟨L,N,S,T,G,O,b5,U,W⟩:=ih h
      refine ⟨L,L1++N,by grind,by grind,a3.trans G,fun I=>O (a4 I),fun q o=>?_,fun f d A r h=>?_,fun σs f d σ' r h Z=>?_⟩
      ·rcases gq.1 o with rfl | o
       ·exact ug.mp v
       grind
      ·grind [cd,PC.rw]
      ·rw [xI] at h
       simp only [dV] at h
       split at h
       ·rename_i y r' w0 aa h2 h3
        obtain ⟨rfl,c1⟩:=a5 σs _ y r' h2
        have af:=Z b w0 aa w1 t h3 K
        obtain ⟨e,d1,d2⟩:=W σs _ d σ' r h fun u w cs w2 ak z e2=>by
         grind
        refine ⟨e,fun u j' p' hp=>?_,fun u w cs z=>?_⟩
        ·by_cases an:∃q,PC.h u j' q∈ps
         ·grind
         ·rcases gq.1 hp with z | hp
          ·simp only [PC.h.injEq] at z
           obtain ⟨rfl,rfl,rfl⟩:=z
           obtain ⟨w',k,e2,e3⟩:=d2 u _ _ (Hs h3)
           refine ⟨w1,t,w',k,x,(w0+1,y),K,e2,hx,?_,c1.mono G⟩
           grind
          grind
        ·by_cases g:u=b
         ·subst g
          rw [h3] at z
          simp only [au,TB.cells.injEq] at z
          grind [Hs]
         ·obtain ⟨w',k,e2,e3⟩:=d2 u w cs (by grind)
          grind
       grind
     grind
    grind
   grind
  | w b i =>
   simp only [GF] at h
   split at h
   ·rename_i i0 l0 av ax K v
    split at h
    ·rename_i a ha
     obtain ⟨e,rfl⟩:=RQ ha
     subst e
     obtain ⟨L,N,S,T,G,O,b5,U,W⟩:=ih h
     refine ⟨_::L,N,by rw [S,xI]; rfl,T,⟨G.KW,G.fz⟩,fun I=>O ⟨I.ge,I.fz⟩,fun q o=>?_,fun f d A r h=>?_,fun σs f d σ' r h Z=>?_⟩
     ·rcases gq.1 o with rfl | o
      ·exact ug.mp v
      grind
     ·simp only [List.cons_append,cd,Gb] at h
      split at h
      ·rename_i l j l1 a0 a6 R z
       simp only [au] at R
       subst R
       split at h
       ·obtain ⟨e,c1⟩:=U _ d A r h
        refine ⟨e,fun u=>?_⟩
        rcases c1 u with ⟨c1,E⟩ | c1
        ·by_cases g:u=b
         ·subst g
          rw [Hs z] at E
          exact .inr ⟨_,_,K,E,.inl ⟨_,_,_,_,_,_,rfl,rfl⟩⟩
         ·rw [eT g] at E
          refine .inl ⟨fun q o hr=>?_,E⟩
          rcases gq.1 o with rfl | o
          ·exact fun e=>g e.symm
          grind
        grind
       grind
      grind
     grind [dV]
    grind
   grind
  | m b i st =>
   simp only [GF] at h
   split at h
   ·rename_i i0 ab l0 v0 K v
    split at h
    ·rename_i a ad ha
     obtain ⟨e,rfl⟩:=yq ha
     subst e
     have:st=ab:=eq_of_beq ad
     subst this
     obtain ⟨L,N,S,T,G,O,b5,U,W⟩:=ih h
     refine ⟨_::L,N,by rw [S,xI]; rfl,T,⟨G.KW,G.fz⟩,fun I=>O ⟨I.ge,I.fz⟩,fun q o=>?_,fun f d A r h=>?_,fun σs f d σ' r h Z=>?_⟩
     ·rcases gq.1 o with rfl | o
      ·exact ug.mp v
      grind
     ·simp only [List.cons_append,cd,Gb] at h
      split at h
      ·rename_i l j0 a7 l1 v1 R z
       simp only [au] at R
       subst R
       obtain ⟨e,c1⟩:=U _ d A r h
       refine ⟨e,fun u=>?_⟩
       rcases c1 u with ⟨c1,E⟩ | c1
       ·by_cases g:u=b
        ·subst g
         rw [Hs z] at E
         exact .inr ⟨_,_,K,E,.inr ⟨_,_,_,_,_,rfl,rfl⟩⟩
        ·rw [eT g] at E
         refine .inl ⟨fun q o hr=>?_,E⟩
         rcases gq.1 o with rfl | o
         ·exact fun e=>g e.symm
         grind
       grind
      grind
     grind [dV]
    grind
   grind
theorem mNBs_ok (hg:∀(b:Nat) w cs,σ1[b]? = some (.cells w cs)→∀p∈cs,GC σ1 p.2):∀{f:List NB} {b:Nat} {s s':MS},DT m σ1 b f s=some s' →
  ∃ L W, s'.rw = s.rw ++ L ∧ s'.cl = s.cl ++ W ∧ Mo s s' ∧ (MI m σ1 s → MI m σ1 s') ∧
   (∀d l r,dA f (L++d)=some (l,r)→r=d∧∀(k:Nat) nb,f[k]? = some nb→(∀ps,nb≠.cells ps)→∃b' x y,qf (b+k) s'.ρ=some b'∧σ1[b']? = some x∧l[k]? = some y∧uW x y) ∧
   (∀σs g d l,dO σs f g (W++d)=some l→∀(k:Nat) nb,f[k]? = some nb →
    (∀ps,nb=.cells ps→∃b' w cs Z,qf (b+k) s'.ρ=some b'∧σ1[b']? = some (.cells w cs)∧l[k]? = some (.cells 0 Z)∧aJ (CM m σ1 σs s') (cs.map Prod.snd) (Z.map Prod.snd)) ∧
    ((∀ps,nb≠.cells ps)→l[k]? = g[k]?)):=by
 intro f
 induction f with
 | nil =>
  intro b s s' h
  simp only [DT,au] at h
  subst h
  refine ⟨[],[],by simp,by simp,Mo.refl s,id,fun d l r h=>?_,fun σs g d l h k nb hk=>by grind⟩
  grind [dA]
 | cons nb f ih =>
  intro b s s' h
  have sh:∀k:Nat,b+(k+1)=b+1+k:=fun k=>by omega
  cases nb with
  | cells ps =>
   simp only [DT] at h
   split at h
   ·rename_i b' j
    split at h
    ·rename_i w cs t
     split at h
     ·rename_i s1 h1
      obtain ⟨L1,a1,a2,a3,a4,a5⟩:=Rt h1 (fun x hx=>by
       grind)
      obtain ⟨L,u,E,G,o,v,K,N⟩:=ih h
      refine ⟨L,L1++u,by grind,by grind,a3.trans o,fun I=>v (a4 I),fun d l r h=>?_,fun σs g d l h k nb hk=>?_⟩
      ·simp only [dA] at h
       grind
      ·rw [xI] at h
       cases g with
       | nil=>grind [dO]
       | cons b0 g =>
        simp only [dO] at h
        split at h
        ·rename_i xs r' z
         split at h
         ·rename_i q O
          simp only [au] at h
          subst h
          obtain ⟨rfl,c1⟩:=a5 σs _ _ _ z
          have c2:=N σs g d q O
          cases k with
          | zero =>
           simp only [List.getElem?_cons_zero,au] at hk
           subst hk
           refine ⟨fun aa e=>?_,fun R=>absurd rfl (R ps)⟩
           refine ⟨b',w,cs,_,o.KW _ _ (a3.KW _ _ j),t,by rw [List.getElem?_cons_zero],?_⟩
           rw [Wd]
           have:(Prod.snd∘fun x:TC=>(0,x))=id:=rfl
           rw [this,List.map_id]
           grind [aJ.mono,CM.mono]
          | succ k =>
           grind
         grind
        grind
     grind
    grind
   grind
  | row i =>
   simp only [DT] at h
   split at h
   ·rename_i b' j
    split at h
    ·rename_i i0 l0 ab ad t
     split at h
     ·rename_i a S
      obtain ⟨e,rfl⟩:=RQ S
      subst e
      obtain ⟨L,u,E,G,o,v,K,N⟩:=ih h
      refine ⟨_::L,u,by rw [E,xI]; rfl,G,⟨o.KW,o.fz⟩,fun I=>v ⟨I.ge,I.fz⟩,fun d l r h=>?_,fun σs g d l h k nb hk=>?_⟩
      ·simp only [List.cons_append,dA,Gb] at h
       split at h
       ·rename_i a' q r' A z
        simp only [au,aX] at h A
        subst A
        obtain ⟨rfl,rfl⟩:=h
        obtain ⟨e,c1⟩:=K d q _ z
        refine ⟨e,fun k nb hk R=>?_⟩
        cases k with
        | zero=>exact ⟨b',_,_,o.KW _ _ j,t,by rw [List.getElem?_cons_zero],.inl ⟨_,_,_,_,_,_,rfl,rfl⟩⟩
        | succ k=>grind
       grind
      ·cases g with
       | nil=>grind [dO]
       | cons b0 g =>
        simp only [dO] at h
        split at h
        ·rename_i q O
         simp only [au] at h
         grind
        grind
     grind
    grind
   grind
  | mp i st =>
   simp only [DT] at h
   split at h
   ·rename_i b' j
    split at h
    ·rename_i i0 T l0 v0 t
     split at h
     ·rename_i a U S
      obtain ⟨e,rfl⟩:=yq S
      subst e
      have:st=T:=eq_of_beq U
      subst this
      obtain ⟨L,u,E,G,o,v,K,N⟩:=ih h
      refine ⟨_::L,u,by rw [E,xI]; rfl,G,⟨o.KW,o.fz⟩,fun I=>v ⟨I.ge,I.fz⟩,fun d l r h=>?_,fun σs g d l h k nb hk=>?_⟩
      ·simp only [List.cons_append,dA,Gb] at h
       split at h
       ·rename_i a' q r' A z
        simp only [au,aX] at h A
        subst A
        obtain ⟨rfl,rfl⟩:=h
        obtain ⟨e,c1⟩:=K d q _ z
        refine ⟨e,fun k nb hk R=>?_⟩
        cases k with
        | zero=>exact ⟨b',_,_,o.KW _ _ j,t,by rw [List.getElem?_cons_zero],.inr ⟨_,_,_,_,_,rfl,rfl⟩⟩
        | succ k=>grind
       grind
      ·cases g with
       | nil=>grind [dO]
       | cons b0 g =>
        simp only [dO] at h
        split at h
        ·rename_i q O
         simp only [au] at h
         subst h
         have c2:=N σs g d q O
         cases k with
         | zero =>
          grind
         | succ k =>
          grind
        grind
     grind
    grind
   grind
end
end Go.Abs
end
section
namespace Go.Abs
noncomputable section
variable[Gl][Y:Ty]
variable{σ σ1 F:TH}{σD σ1D:ar}{s:MS}{ct:CT}
theorem uW.er{x y:TB}(h:uW x y):y.er=x.er:=by rcases h with ⟨i,l,z,A,o,u,rfl,rfl⟩ | ⟨j,st,l,v,E,rfl,rfl⟩ <;> rfl
theorem KF{j:Nat}{st:Bool}:∀(l:List (Int×TT j))(i:Nat),((Af (Lm j st) i l).all λe=>e.2.1.low 0)=true:=by
 intro l;induction l with
 |nil=>intro i;rfl
 |cons p l ih=>
  intro i;obtain ⟨k,a⟩:=p;simp only[Af,List.all_cons,ih,Np];unfold Lm;split
  ·have:∀b:List C,D.low.cV 0 (b.map .c)=true:=by
    intro b;induction b with
    |nil=>rfl
    |cons c b ih=>simp only[ru,D.low.cV,D.low,ih,Np]
   exact this _
  ·rfl
theorem aJ.Iu{α o:Type}{R:α->o->Prop}:∀{l:List α}{i:List o},l.length=i.length->(∀(j:Nat) a b,l[j]? = some a->i[j]? = some b->R a b)->aJ R l i:=by
 intro l;induction l with
 |nil=>
  intro i h _;cases i with
  |nil=>exact .nil
  |cons _ _=>simp at h
 |cons a l ih=>
  intro i h u;cases i with
  |nil=>simp at h
  |cons b i=>exact .cons (u 0 a b rfl rfl) (ih (by simp_all) λj x y z A=>u (j+1) x y z A)
theorem aJ.map{α i j o:Type}{R:j->o->Prop}{f:α->j}{g:i->o}{u:α->i->Prop}(h:∀a b,u a b->R (f a) (g b)){l:List α}{z:List i}(a:aJ u l z):aJ R (l.map f) (z.map g):=by
 induction a with
 |nil=>exact .nil
 |cons x _ ih=>exact .cons (h _ _ x) ih
theorem GC.low{x:TC}(g:GC σ x):x.er.low σ.length=true:=by
 cases x with
 |own i c v n=>
  obtain ⟨blk,j,_⟩:=g;simp only[TC.er,D.low,bA]
  grind
 |op i c v n k a off=>
  obtain ⟨blk,j,_⟩:=g;simp only[TC.er,D.low,bA]
  grind
 |os i c v n o len=>
  obtain ⟨blk,j,_⟩:=g;simp only[TC.er,D.low,bA]
  grind
 |ap c off len sz k=>simp only[TC.er,D.low,bA];exact g
 |d x=>exact g
 |GX f u=>exact Dt g
 |_=>rfl
def gI(m:Nat)(s:MS)(b:Nat):Nat:=if b<m then b else (qf b s.ρ).getD 0
theorem Bd.KW{m b b':Nat}(h:Bd m s b b'):gI m s b=b':=by
 rcases h with ⟨j,i⟩ | ⟨j,i⟩
 ·rw[gI,if_pos j,i]
 ·rw[gI,if_neg (by omega),i];rfl
def BF(σ σ1 σs F:TH)(s:MS)(i:Nat):Prop:=∃x y,σ1[gI σ.length s i]? = some x/\F[i]? = some y /\
 ((∃w e w' d,x=.cells w e/\y=.cells w' d/\aJ (λa b=>CM σ.length σ1 σs s a b∨(a=b/\GC σ a)) (e.map Prod.snd) (d.map Prod.snd))∨uW x y)
structure MX (σ σ1 σs F:TH) (s:MS) (n:Nat):Prop where
 len:F.length=σ.length+n
 QW:σs.length=F.length
 sr:SR σs F
 bf:∀i,i<F.length->BF σ σ1 σs F s i
 mi:MI σ.length σ1 s
 nd:yI (s.ρ.map Prod.snd)=true
 fz:∀b∈s.fz,σ.length<=b/\b∉s.ρ.map Prod.snd
 kn:∀i,σ.length<=i->i<F.length->∃b',qf i s.ρ=some b'
theorem uY{i o:Nat}:∀{l:List (Nat×Nat)},qf i l=some o->(i,o)∈l:=by
 intro l;induction l with
 |nil=>grind [qf]
 |cons p l ih=>grind [qf,Nat.eq_of_beq_eq_true]
theorem Vv:∀{l:List (Nat×Nat)},yI (l.map Prod.snd)=true->∀i j o,(i,o)∈l->(j,o)∈l->i=j:=by
 intro l;induction l with
 |nil=>simp_all
 |cons p l ih=>
  intro h i j o a b;simp only[ru,yI,bN,iU,yCh] at h;have no:∀k,(k,p.2)∈l->False:=λk hk=>h.1 p.2 (gD.2 ⟨_,hk,rfl⟩) (yCm _)
  grind
section
variable{σs:TH}{n:Nat}(X:MX σ σ1 σs F s n)(H1:RH σ1 σ1D)
include X H1
theorem MX.rn:Rn σ.length σ1D (F.map TB.er) (gI σ.length s) (λb=>b∈s.fz):={
 le:=by grind [MX.len]
 id:=λi u=>by rw[gI,if_pos u]
 inj:=λi j u E e=>by
  rw[wj] at u E;unfold gI at e;split at e
  ·rename_i h1;split at e
   ·exact e
   ·rename_i h2;obtain ⟨o,z⟩:=X.kn j (by omega) E;rw[z] at e;have:=(X.mi.ge _ (uY z)).2
    grind
  ·rename_i h1;obtain ⟨o,z⟩:=X.kn i (by omega) u;split at e
   ·rw[z] at e;have:=(X.mi.ge _ (uY z)).2
    grind
   ·obtain ⟨R,A⟩:=X.kn j (by omega) E;rw[z,A] at e;simp only[Option.getD_some] at e;subst e;exact Vv X.nd i j o (uY z) (uY A)
 fr:=λi u K=>by
  rw[wj] at u;obtain ⟨h1,h2⟩:=X.fz _ K;unfold gI at h1 h2;split at h1
  ·omega
  ·rename_i G;rw[if_neg G] at h2;obtain ⟨o,z⟩:=X.kn i (by omega) u;rw[z] at h2;exact h2 (gD.2 ⟨_,uY z,rfl⟩)
 row:=λb O=>by obtain ⟨i,l,U,W,h⟩:=X.mi.fz b O;exact ⟨i,l,H1.row h⟩
 sz:=λi u=>by
  rw[wj] at u;obtain ⟨x,y,h1,h2,Z⟩:=X.bf i u;refine ⟨x.er,y.er,by rw[H1.eqD,mE,h1];rfl,by simp_all,?_⟩
  grind [aJ.len,List.length_map,TB.er,Ob.sz,uW.er] }
theorem MX.cell{x y:TC}(c:CM σ.length σ1 σs s x y):du σ1D (F.map TB.er) (gI σ.length s) (λb=>b∈s.fz) x.er y.er:=by
 have N:=X.rn H1;rcases c with ⟨c1,c2,_⟩ | ⟨i,b,v,l,U,rfl,o,z,u⟩ | ⟨i,b,A,v,l0,aa,j,lv,l,U,rfl,o,z,rfl,h5⟩ | ⟨b,A,off,sz,rfl,o,rfl,u⟩ | ⟨b,A,rfl,o,rfl,u⟩ | ⟨f,b,A,sz,rfl,o,rfl,u⟩
 ·grind [du.le,du.data]
 ·rw[u];exact du.cJ N o (H1.row z)
 ·have W:=X.sr.row b j l lv U h5;have E:=(gC.1 W).1;obtain ⟨x,y,G,K,O⟩:=X.bf b E;have q:=o.KW;subst q;rw[z] at G;rw[W] at K;simp only[au] at G K;subst G K;rcases O with ⟨w,cs,w',ab,e,_⟩ | O
  ·simp at e
  ·rcases O with ⟨i',l',_,_,_,_,R,Z⟩ | ⟨_,_,_,_,_,R,_⟩
   ·simp only[TB.row.injEq] at R Z;obtain ⟨rfl,e6,_,_⟩:=R;obtain ⟨rfl,e7,_,_⟩:=Z;cases e6;cases e7;exact du.sl N (by simp_all)
   simp_all
 ·have:=du.ptr (F:=λb=>b∈s.fz) N (i:=b) (off:=off) (sz:=sz) (by grind [MX.QW]);rw[o.KW] at this;exact this
 ·have:=du.mp (F:=λb=>b∈s.fz) N (i:=b) (by grind [MX.QW]);rw[o.KW] at this;exact this
 ·have:=du.ptr (F:=λb=>b∈s.fz) N (i:=b) (off:=0) (sz:=sz) (by grind [MX.QW]);rw[o.KW] at this;exact du.fn1 this
theorem MX.rnH:RN σ.length σ1D (F.map TB.er) (gI σ.length s) (λb=>b∈s.fz):={
 toRn:=X.rn H1
 ob:=λi A=>by
  rw[wj] at A;obtain ⟨x,y,h1,h2,E⟩:=X.bf i A;refine ⟨x.er,y.er,by rw[H1.eqD,mE,h1];rfl,by simp_all,?_⟩;rcases E with ⟨w,U,w',G,rfl,rfl,o⟩ | o
  ·refine ⟨_,rfl,?_⟩;have:=aJ.map (R:=du σ1D (F.map TB.er) (gI σ.length s) (λb=>b∈s.fz)) (f:=TC.er) (g:=TC.er) (λa b h=>?_) o
   ·rw[Wd,Wd] at this;exact this
   ·rcases h with h | ⟨rfl,h⟩
    ·exact X.cell H1 h
    ·exact du.low (X.rn H1) h.low
  ·rw[o.er];rcases o with ⟨j,l,W,Z,K,O,rfl,rfl⟩ | ⟨j,st,l,v,v',rfl,rfl⟩
   ·refine ⟨_,rfl,aJ.Iu rfl λk a b u z=>?_⟩;rw[u] at z;simp only[au] at z;subst z;rw[mE,cE] at u;obtain ⟨c,_,rfl⟩:=u;exact du.data (X.rn H1) rfl
   ·exact ⟨rfl,KF l 0⟩ }
theorem MX.val{v y:TV}{d:D}(h:VM σ.length σ1 σs s v y)(i:RT v d):du σ1D (F.map TB.er) (gI σ.length s) (λb=>b∈s.fz) d (eD y):=by
 have cell:∀{x y:TC}{d:D},CM σ.length σ1 σs s x y->RC x d->du σ1D (F.map TB.er) (gI σ.length s) (λb=>b∈s.fz) d y.er:=λ{x y d} c r=>by
  rcases r with rfl | rfl
  ·exact du.le (λ_ _ _ _ _ _=>.any _) (X.cell H1 c)
  ·exact X.cell H1 c
 cases v with
 |c x => cases y with
  |c y=>exact cell h i
  |_=>exact h.elim
 |agg u => cases y with
  |agg K=>
   obtain ⟨ds,rfl,i⟩:=i;refine du.agg (aJ.Iu ?_ λj a b z o=>?_)
   ·rw[<-i.len,wj];exact aJ.len h
   ·rw[mE,cE] at o;obtain ⟨y,A,rfl⟩:=o;obtain ⟨x,O,R⟩:=aJ.get' h j y A;obtain ⟨U,E,G⟩:=i.get' j a z
    grind
  |_=>exact h.elim
 |aS u=>exact h.elim
theorem MX.valL{vs j:List TV}{ds:List D}(h:aJ (VM σ.length σ1 σs s) vs j)(i:fP vs ds):aJ (du σ1D (F.map TB.er) (gI σ.length s) (λb=>b∈s.fz)) ds (j.map eD):=by
 induction h generalizing ds with
 |nil=>cases i;exact .nil
 |cons h _ ih=>
  cases i with
  |cons r i=>exact .cons (X.val H1 h r) (ih i)
theorem MX.vals{vs j:List TV}{ds:List D}(h:aJ (VM σ.length σ1 σs s) vs j)(o:fP vs ds):du σ1D (F.map TB.er) (gI σ.length s) (λb=>b∈s.fz) (one ds) (one (j.map eD)):=by
 have i:aJ (du σ1D (F.map TB.er) (gI σ.length s) (λb=>b∈s.fz)) ds (j.map eD):=by
  induction h generalizing ds with
  |nil=>cases o;exact .nil
  |cons h _ ih=>
   cases o with
   |cons r o=>exact .cons (X.val H1 h r) (ih o)
 generalize j.map eD=es at i ⊢;cases i with
 |nil=>exact du.aS .nil
 |cons h r=>
  cases r with
  |nil=>exact h
  |cons u r=>exact du.aS (.cons h (.cons u r))
end
end
end Go.Abs
end
section
namespace Go.Abs
noncomputable section
variable[Gl][Y:Ty]
variable{σ σ1 F:TH}{σD σ1D:ar}{ct:CT}
theorem notW_of{b:Nat}{ps:List PC}(h:∀p∈ps,p.rw=true->p.blk≠b):notW (ps.map PC.pl) b/\notM (ps.map PC.pl) b:=by
 refine ⟨λi a=>?_,λj st a=>?_⟩
 ·rw[gD] at a;obtain ⟨p,d,e⟩:=a;cases p with
  |w f g=>simp only[PC.pl,Pl.w.injEq] at e;exact h _ d rfl e.1
  |h=>grind [PC.pl]
  |m=>grind [PC.pl]
 ·rw[gD] at a;obtain ⟨p,d,e⟩:=a;cases p with
  |m f g=>simp only[PC.pl,Pl.m.injEq] at e;exact h _ d rfl e.1
  |h=>grind [PC.pl]
  |w=>grind [PC.pl]
theorem notH_of{b j:Nat}{ps:List PC}(h:∀p,PC.h b j p∉ps):notH (ps.map PC.pl) b j:=by
 intro c a;rw[gD] at a;obtain ⟨p,d,e⟩:=a;cases p with
 |h f g i=>grind [PC.pl]
 |w=>grind [PC.pl]
 |m=>grind [PC.pl]
theorem mx_of{rs rv:List TV}{x:dJ ct.items}{ds:List kJ}{s1 s2 s:MS}(hs:eI (ct.pl.map PC.pl) 0 σ σ1=true)(h1:KQ σ.length σ1 ct.out rs ⟨[],[],[],[]⟩=some s1)(h2:GF σ.length σ σ1 ct.pl s1=some s2)(h3:DT σ.length σ1 σ.length ct.nb s2=some s)
  (T:(yI (s.ρ.map Prod.snd)&&(s.fz.all (λb=>Nat.ble σ.length b&&!((s.ρ.map Prod.snd).any (Nat.beq b)))&&s.ρ.all λp=>Nat.blt p.1 (σ.length+ct.nb.length)))=true) (h:vA ct.items (s.rw++s.cl)=some x)
  (L:Laid ct σ ds rv F) (af:dR ct.items x=ds) (H:RH σ σD) (H1:RH σ1 σ1D) (E:Ext σ σ1) (g:∀v∈rs,GV σ1 v) :
  ∃σs,MX σ σ1 σs F s ct.nb.length/\aJ (VM σ.length σ1 σs s) rs rv:=by
 simp only[bN,iR] at T;obtain ⟨ak,an,a8⟩:=T;have hS:=zdp H hs E;have hg:∀(b:Nat) w d,σ1[b]? = some (.cells w d)->∀p∈d,GC σ1 p.2:=λb w d K p hp=>(H1.hg b w d K p hp).1;obtain ⟨La,a1,a2,a3,a4,a5⟩:=mROs_ok h1 g;obtain ⟨L2,Lb,b1,b2,b3,b4,b5,b6,b7⟩:=mPCs_ok hg h2;obtain ⟨L3,Lc,c1,c2,c3,c4,c5,c6⟩:=mNBs_ok hg h3;have hq:ds=L2++(L3++(La++(Lb++(Lc++[])))):=by grind [Xq]
 clear af;subst hq;have Ro:=iO L.h1 H;have C:=lA L.h4;have S:=L.sr;obtain ⟨n1,_,_⟩:=zG L.h5;obtain ⟨e1,r1⟩:=b6 σ _ _ _ L.h1;have q2:=L.h2;rw[e1] at q2;obtain ⟨e2,r2⟩:=c5 _ _ _ q2;have q3:=L.h3;rw[e2] at q3;obtain ⟨e3,r3⟩:=a5 _ _ _ _ q3;have q4:=L.h4;rw[e3] at q4;have hl:∀(b:Nat) w d w1 t,L.iP[b]? = some (.cells w d)->σ1[b]? = some (.cells w1 t)->d.length=t.length:=λb w d w1 t x y=>by
  obtain ⟨N,z,o⟩:=hS b _ ((Ro.cells b w d).2 x);obtain ⟨w2,av,rfl,hl,_⟩:=o
  grind
 obtain ⟨e4,r4,r5⟩:=b7 _ _ _ _ _ q4 hl;have q5:=L.h5;rw[e4] at q5;have r6:=c6 _ _ _ _ q5;have ax:L.aA.length=σ.length:=by rw[C.len,Ro.len]
 have Z:F.length=σ.length+ct.nb.length:=by grind [Laid.fl]
 have a0:∀k:Nat,F[σ.length+k]? = L.l[k]?:=λk=>by grind [Laid.fa]
 refine ⟨L.iP++L.nb,⟨Z,S.len.symm,S,λi hi=>?_,?_,ak,λb K=>?_,λi hi a9=>?_⟩,aJ.mono (λ_ _=>VM.mono (b3.trans c3)) r3⟩
 ·rcases sO i σ.length with f | a6
  ·have aa:gI σ.length s i=i:=by rw[gI,if_pos f]
   have K:=eS f;obtain ⟨N,x1,o⟩:=hS i _ K;unfold BF;rw[aa];have rm:(∀w d,σ[i]≠.cells w d)->∃x y,σ1[i]? = some x/\F[i]? = some y/\uW x y:=λhn=>by
    rcases r1 i with ⟨O,t2⟩ | ⟨x,y,O,t2,U⟩
    ·have hr:L.iP[i]? = some σ[i]:=by grind
     have hF:F[i]? = some σ[i]:=by rw[L.lt H f];exact C.same i _ hr hn
     obtain ⟨nw,nm⟩:=notW_of O;refine ⟨N,_,x1,hF,?_⟩;cases r:σ[i] with
     |cells w d=>grind
     |row i0 l lv cv=>rw[r] at o;obtain ⟨l1,bb,bc,rfl,o⟩:=o;obtain ⟨rfl,rfl,rfl⟩:=o nw;exact .inl ⟨_,_,_,_,_,_,rfl,rfl⟩
     |mp j st l v=>rw[r] at o;obtain ⟨j1,bd,l1,W,rfl,o⟩:=o;have:=o nm;rw[this];exact .inr ⟨_,_,_,_,_,rfl,rfl⟩
    ·refine ⟨x,y,O,?_,U⟩;rw[L.lt H f];refine C.same i y t2 λw d e=>?_;subst e;rcases U with ⟨_,_,_,_,_,_,_,e⟩ | ⟨_,_,_,_,_,_,e⟩ <;> simp at e
   cases r:σ[i] with
   |row i0 l lv cv=>grind
   |mp j st l v=>grind
   |cells w d=>
    rw[r] at o K;obtain ⟨w1,t,rfl,l1,o⟩:=o;have hr:=(Ro.cells i w d).1 K;obtain ⟨w',a7,O,t2⟩:=r5 i w d hr;obtain ⟨w2,av,U,_,t4,_⟩:=C.fwd i w d hr;rw[O] at U;simp only[au,TB.cells.injEq] at U;obtain ⟨rfl,rfl⟩:=U;refine ⟨_,_,x1,by rw[L.lt H f];exact O,.inl ⟨w1,t,w',a7,rfl,rfl,aJ.Iu (by grind) λj a b ha u=>?_⟩⟩;rw[mE,cE] at ha u;obtain ⟨p,ha,rfl⟩:=ha;obtain ⟨q,u,rfl⟩:=u;by_cases ab:∃c,PC.h i j c∈ct.pl
    ·obtain ⟨c,T⟩:=ab;obtain ⟨w3,be,w4,bh,x,y,u1,u2,u3,u4,u5⟩:=r4 i j c T;rw[x1] at u1;rw[O] at u2;simp only[au,TB.cells.injEq] at u1 u2;obtain ⟨_,rfl⟩:=u1;obtain ⟨_,rfl⟩:=u2;rw[ha] at u3;rw[u] at u4;simp only[au] at u3 u4;subst u3 u4;exact .inl (u5.mono c3)
    ·have ad:∀c,PC.h i j c∉ct.pl:=λc T=>ab ⟨c,T⟩;have hj:j<d.length:=by grind
     have h0:=eS hj;have W:=o j _ p h0 ha (notH_of ad);have v2:=t2 j ad;rw[u,h0] at v2;simp only[au] at v2;refine .inr ⟨by grind,?_⟩;rw[W];exact (H.hg i w d K _ (Bb h0)).1
  ·obtain ⟨k,rfl⟩:=yBB a6;have hk:k<ct.nb.length:=by omega
   have R:=eS hk;obtain ⟨u1,u2⟩:=r6 k _ R;unfold BF;rw[a0];by_cases G:∃A,ct.nb[k]=.cells A
   ·obtain ⟨A,e⟩:=G;obtain ⟨b',w,d,ys,W,v2,v3,v4⟩:=u1 A e;rw[gI,if_neg (by omega),W];exact ⟨_,_,v2,v3,.inl ⟨w,d,0,ys,rfl,rfl,aJ.mono (λ_ _ h=>.inl h) v4⟩⟩
   ·have hn:∀A,ct.nb[k]≠.cells A:=λA e=>G ⟨A,e⟩;obtain ⟨b',x,y,W,v2,v3,v4⟩:=r2 k _ R hn;rw[gI,if_neg (by omega),W,u2 hn]
    grind
 ·exact c4 (b4 (a4 ⟨by simp,by simp⟩))
 ·have:=an b K;simp only[bN,iU,yCh] at this;exact ⟨CY this.1,λhm=>this.2 b hm (yCm b)⟩
 ·obtain ⟨k,rfl⟩:=yBB hi;have hk:k<ct.nb.length:=by omega
  have R:=eS hk;by_cases G:∃A,ct.nb[k]=.cells A
  ·obtain ⟨A,e⟩:=G
   grind
  grind
theorem absI_mx{rs rv:List TV}{x:dJ ct.items}{ds:List kJ}(h:Wr ct σ σ1 rs=some x)(L:Laid ct σ ds rv F)(a:dR ct.items x=ds)(H:RH σ σD)(H1:RH σ1 σ1D)(E:Ext σ σ1)(g:∀v∈rs,GV σ1 v) :
  ∃s σs,MX σ σ1 σs F s ct.nb.length/\aJ (VM σ.length σ1 σs s) rs rv:=by
 unfold Wr at h;split at h
 ·simp at h
 rename_i hs;split at h
 ·simp at h
 rename_i s1 b;split at h
 ·simp at h
 rename_i i d;split at h
 ·simp at h
 rename_i s e;split at h
 rotate_left
 ·simp at h
 rename_i f;exact ⟨s,mx_of hs b d e f h L a H H1 E g⟩
theorem Wp{σ σ1:TH}{rs:List TV}{ct:CT}{x:dJ ct.items}:∀{cs:List CT}{y:qB cs},UU σ σ1 rs cs=some y->tX cs y=some ⟨ct,x⟩->Wr ct σ σ1 rs=some x:=by
 intro cs;induction cs with
 |nil=>grind
 |cons c cs ih=>
  intro y h hs;cases cs with
  |nil=>
   simp only[UU] at h;simp only[tX,au,yB2] at hs
   grind
  |cons d cs=>
   simp only[UU] at h;split at h
   ·rename_i a f;simp only[au] at h;subst h;simp only[tX,au,yB2] at hs
    grind
   ·split at h
    ·rename_i b e;simp only[au] at h;subst h;exact ih (y:=b) e hs
    simp_all
theorem zip3{σ:TH}{vs:List TV}{ds:List D}(a:fP vs ds):(∀v∈vs,GV σ v)->∀(i t:Nat)(x:RV)(p:Nat),iQ t (Bs i vs)=some (x,p)->∃d v,x=.v v/\lk t (kg i ds)=some d/\RT v d/\GV σ v:=by
 induction a with
 |nil=>grind [Bs,iQ]
 |cons b _ ih=>
  intro g i t x p h;simp only[Bs,iQ] at h;simp only[kg,lk]
  grind
theorem fP.len{vs:List TV}{ds:List D}(a:fP vs ds):vs.length=ds.length:=by
 induction a with
 |nil=>rfl
 |cons _ _ ih=>simp[ih]
def dj.ok(P:Program)(B:dj):Prop:=∀(i:List CT)(j:FuncId)(o:List TV)(σ:TH)(y:qB i)(ct:CT)(x:dJ ct.items)(rv:List TV)(aA:TH)(σD:ar)(ds:List D),B i j o σ=some y->tX i y=some ⟨ct,x⟩->mY ct σ x=some (rv,aA)->RH σ σD->fP o ds->(∀v∈o,GV σ v) ->
 aV P j=true/\Ok P j ds σD (one (rv.map eD)) (aA.map TB.er)
theorem dj.ok.inl{P:Program}{B:dj}(A:dj.ok P B)(S:sV)(H:List (Nat×Nat))(J:List (Nat×JH))(C:List (Nat×List CT))(n N:Nat)(X:OI)(E:EZ):YB ⟨P,S,H,J,C,n,N,B,X,E⟩:=by
 intro G K O σ y ct x rv aA σD ds h j i z o u;obtain ⟨R,U⟩:=A G K O σ y ct x rv aA σD ds h j i z o u;obtain ⟨L⟩:=mA i;obtain ⟨W,Z,k3,k4,k5,k6⟩:=L.all z
 grind
def OI.ok(P:Program)(X:OI):Prop:=∀(ct:CT)(j:FuncId)(o:List TV)(σ:TH)(rv:List TV)(aA:TH)(σD:ar)(ds:List D),X ct j o σ=some (rv,aA)->RH σ σD->fP o ds->(∀v∈o,GV σ v) ->
 aV P j=true/\∃r i,RH aA i/\RT (xw rv) r/\GV aA (xw rv)/\Ext σ aA/\Ok P j ds σD r i/\(∀b,b<σD.length->i[b]? = σD[b]?)
theorem OI.ok.two{P:Program}{X:OI}(i:OI.ok P X)(S:sV)(H:List (Nat×Nat))(J:List (Nat×JH))(C:List (Nat×List CT))(n N:Nat)(B:dj)(j:EZ):ExOk ⟨P,S,H,J,C,n,N,B,X,j⟩:=i
theorem inl1xok{P:Program}{S:sV}{N:Nat}{B I:dj}{X:OI}{E:EZ}(dE:P.follows .mixedOrders=true)(R:fw P S)(T:dj.ok P B)(U:dj.ok P I)(W:OI.ok P X):dj.ok P (inl1 P S N B E I X):=by
 intro u Z G σ y ct x rv aA σD ds h g j l k o;cases u with
 |nil=>grind
 |cons e u=>
  simp only[inl1] at h;split at h
  ·exact T _ Z G σ y ct x rv aA σD ds h g j l k o
  split at h
  ·rename_i fn hg;split at h
   ·rename_i r hc;split at h
    ·rename_i K;simp only[bN] at K;obtain ⟨L⟩:=mA j;have R0:Ref (Bs 0 G) σ (kg 0 ds) σD:=⟨l,λt x p h=>by
      obtain ⟨d,v,rfl,h1,h2,h3⟩:=zip3 k o 0 t x p h;exact ⟨d,h1,h2,h3⟩⟩
     refine ⟨K.1,?_⟩;refine qH hg hc (by rw[<-k.len];simp_all) ?_;refine (Ww ⟨P,S,e.H,e.J,e.C,r.ntmps,N,I,X,E⟩ dE R ⟨U.inl _ _ _ _ _ _ _ _,W.two _ _ _ _ _ _ _ _⟩ r.body 1 _ _ _ y _ _ h R0).fh λx' q a hP=>.inl ?_;obtain ⟨z,σ',p1,_,p3,p4⟩:=hP;have fin:(match GA (Gq z σ') r.results with | some rs=>UU σ σ' rs (e::u) | none=>none)=some y->∃f ρ F,r.results.mapM (qe q a)=some f/\RN σD.length a (aA.map TB.er) ρ F/\(∀b,F b->σD.length<=b)/\du a (aA.map TB.er) ρ F (one f) (one (rv.map eD)):=by
      intro O;split at O
      ·rename_i rs A;obtain ⟨f,h5,h6,h7⟩:=Kf p1 A;have h8:=Wp O g;obtain ⟨s,σs,X,hv⟩:=absI_mx h8 L rfl l p1.hh p3 h7;refine ⟨f,_,_,h5,by rw[l.len];exact X.rnH p1.hh,λb hb=>by rw[l.len];exact (X.fz b hb).1,X.vals p1.hh hv h6⟩
      simp_all
     cases x' with
     |exit i=>grind
     |normal=>grind
     |ret=>grind
    simp_all
   simp_all
  simp_all
theorem Xo{n:Nat}{x:TC}(h:Zb n x=true):x≠.any:=λe=>by grind [Zb]
theorem Pj{σ:TH}{x:TC}(h:Zb σ.length x=true):GC σ x:=by
 cases x with
 |d x=>exact h
 |own=>grind [Zb]
 |op=>grind [Zb]
 |ap=>grind [Zb]
 |os=>grind [Zb]
 |GX=>grind [Zb]
 |_=>trivial
theorem exV_eD{n:Nat}{v:TV}{d:D}(h:exV n v=true)(r:RT v d):d=eD v:=by
 cases v with
 |c x=>exact RT.c1 (Xo h) r
 |agg a=>obtain ⟨ds,rfl,hd⟩:=r;simp only[exV,iR] at h;rw[hd.eq λy b=>Xo (h y b)];rfl
 |aS a=>grind [exV]
theorem exV_nt{n:Nat}{v:TV}(h:exV n v=true):nT v:=by
 cases v with
 |aS a=>grind [exV]
 |_=>trivial
theorem exV_gv{σ:TH}{v:TV}(h:exV σ.length v=true):GV σ v:=by
 cases v with
 |c x=>exact Pj h
 |agg a=>simp only[exV,iR] at h;exact λx b=>Pj (h x b)
 |aS a=>grind [exV]
theorem exVs_eD{n:Nat}:∀{vs:List TV}{ds:List D},vs.all (exV n)=true->fP vs ds->ds=vs.map eD:=by
 intro vs;induction vs with
 |nil=>intro ds _ h;cases h;rfl
 |cons v vs ih=>
  intro ds h a;cases a with
  |cons r a=>
   simp only[List.all_cons,bN] at h
   grind [exV_eD]
theorem KA{pl:List Pl}{σ σ1:TH}(h:eI pl 0 σ σ1=true):σ.length<=σ1.length:=by
 rcases sO σ1.length σ.length with a | b
 ·obtain ⟨blk,d,_⟩:=CD h σ1.length _ (eS a)
  simp_all
 omega
theorem Qj{P:Program}{g:FuncId}{fn:Func}{i:lh}{fz:Bool}{ds:List D}{r:D}{σ aA:ar}(hg:P.funcs[g]? = some fn)(j:iG P fn fz=some i)(u:ds.length<=i.ntmps)
  (h:Sem P i.body i.ntmps (kg 0 ds) σ λx al σ1=>(x=.normal∨x=.ret)/\∃a,i.results.mapM (qe al σ1)=some a/\σ1=aA/\one a=r):Ok P g ds σ r aA:=by
 unfold iG at j;split at j
 ·rename_i c hb;split at j
  ·rename_i ac rs h1 h2;simp only[au] at j;subst j;dsimp only at h u;intro M Fz w f R hs G;refine nk hg hb ?_;have A0:eU fn.ntmps σ M Fz w (kg 0 ds) (f++Array.replicate (fn.ntmps-f.size) undef):=by
    refine ⟨by simp_all,λt d K=>?_⟩;obtain ⟨_,Z⟩:=El ds 0 t d K;rw[Nat.sub_zero] at Z;have L:t<f.size:=by grind
    exact ⟨f[t],by grind,G t d _ Z (sI L)⟩
   refine Om (h c h1 M Fz w { tmps:=f++Array.replicate (fn.ntmps-f.size) undef,defers:=[] } _ R A0 λx e σ' a' w' M' Fz' hQ hd R' E EV hl=>?_);obtain ⟨hx,a,hm,rfl,rfl⟩:=hQ;have N:rs.mapM (Mu (xU fn.ntmps e) σ')=some a:=by
    have aa:∀(l:List (Nat×Option (Option Nat))) a,l.mapM (qe e σ')=some a->l.mapM (Mu (xU fn.ntmps e) σ')=some a:=by
     intro l;induction l with
     |nil=>simp_all
     |cons p l ih=>
      intro a h;rw[Vw] at h ⊢;cases y:qe e σ' p with
      |none=>simp_all
      |some d=>
       rw[y] at h;have:Mu (xU fn.ntmps e) σ' p=some d:=by
        obtain ⟨t,o⟩:=p;cases o with
        |none=>exact E.dk.2.2 t d y
        |some k=>
         simp only[qe] at y;split at y
         ·rename_i b off sz O;simp only[Mu,E.dk.2.2 t _ O];exact y
         simp_all
       rw[this];cases hr:l.mapM (qe e σ') with
       |none=>simp_all
       |some q=>simp_all
    simp_all
   have S:yu x=.normal∨yu x=.ret:=by rcases hx with rfl | rfl <;> simp[yu]
   refine ⟨S,Mk.end hd R' EV λw'' z A mv=>?_⟩;have T:eU fn.ntmps σ' M' Fz' w'' e a'.tmps:=⟨E.1,λt d K=>by obtain ⟨v,q1,q2⟩:=E.2 t d K;exact ⟨v,q1,mv d v q2⟩⟩
   obtain ⟨v,U,W⟩:=jA (P:=P) z T.dk.1 h2 N;exact ⟨v,U,v,_,_,rfl,z,W,A⟩
  simp_all
 simp_all
theorem SB.er0{b:Nat}{x y:TB}(h:SB [] b x y):y.er=x.er:=by
 cases x with
 |cells w A=>
  obtain ⟨w1,u,rfl,U,o⟩:=h;simp only[TB.er,Ob.cells.injEq];apply T_;intro j;rw[mE,mE];cases e:A[j]? with
  |none=>simp_all
  |some p=>
   have E:j<u.length:=by grind
   have:=o j p _ e (eS E) (λc z=>by grind)
   grind
 |row i l W Z=>
  obtain ⟨G,K,O,rfl,o⟩:=h;obtain ⟨rfl,_,_⟩:=o λc z=>by grind
  rfl
 |mp j st l v=>obtain ⟨j1,R,G,v1,e,o⟩:=h;rw[o λc st z=>by grind]
theorem ex1xok{P:Program}{S:sV}{N:Nat}{I:dj}{X:OI}{K:EZ}(dE:P.follows .mixedOrders=true)(hS:fw P S)(hI:dj.ok P I)(hX:OI.ok P X):OI.ok P (ex1 P S N K I X):=by
 intro ct gi vs σ rv aA σD ds h q j r;unfold ex1 at h;split at h
 ·rename_i fn hg;split at h
  ·rename_i l hc;split at h
   ·rename_i L;simp only[bN] at L;have R0:Ref (Bs 0 vs) σ (kg 0 ds) σD:=⟨q,λt x p h=>by
     obtain ⟨d,v,rfl,e,h2,h3⟩:=zip3 j r 0 t x p h;exact ⟨d,e,h2,h3⟩⟩
    obtain ⟨⟨rs,σ1⟩,h,o⟩:=Bg h;have T:=Ww ⟨P,S,ct.H,ct.J,ct.C,l.ntmps,N,I,X,K⟩ dE hS ⟨hI.inl _ _ _ _ _ _ _ _,hX.two _ _ _ _ _ _ _ _⟩ l.body 1 _ _ _ (rs,σ1) _ _ h R0;dsimp only at o;split at o
    rotate_left
    ·grind
    rename_i hk;simp only[bN] at hk;obtain ⟨O,hs,R⟩:=hk;simp only[au,aX] at o;obtain ⟨rfl,rfl⟩:=o;have U:=KA hs;have ab:(σ++σ1.drop σ.length).length=σ1.length:=by simp_all
    have W:Ext σ (σ++σ1.drop σ.length):=λb blk h=>⟨blk,by grind,BE.refl blk⟩;have u:RH (σ++σ1.drop σ.length) ((σ++σ1.drop σ.length).map TB.er):=by
     refine RH.mk' λb w cs a p Z=>?_;rcases sO b σ.length with e | e
     ·rw[HA e] at a;obtain ⟨g1,g2⟩:=q.hg b w cs a p Z;exact ⟨g1.mono W,g2⟩
     ·rw[OG e] at a;rw[iR] at R;have:=R _ (Bb a);simp only[sBlk,iR,bN] at this;obtain ⟨t1,t2⟩:=this p Z;exact ⟨Pj (by simp_all),CY t2⟩
    rw[iR] at O;have y:∀v∈rs,nT v:=λv hv=>exV_nt (O v hv);have z:∀v∈rs,GV (σ++σ1.drop σ.length) v:=λv hv=>exV_gv (by simp_all);refine ⟨L.1,one (rs.map eD),(σ++σ1.drop σ.length).map TB.er,u,Sm y,RZ z,W,?_,λb a=>?_⟩
    ·refine Qj hg hc (by rw[<-j.len];simp_all) (T.fh λx' k g hP=>.inl ?_);obtain ⟨A,σ',p1,_,p3,p4⟩:=hP;have fin:(match GA (Gq A σ') l.results with | some rs=>some (rs,σ') | none=>none)=some (rs,σ1)->∃f,l.results.mapM (qe k g)=some f/\g=(σ++σ1.drop σ.length).map TB.er/\one f=one (rs.map eD):=by
      intro E;split at E
      ·rename_i ad G;simp only[au,aX] at E;obtain ⟨rfl,rfl⟩:=E;obtain ⟨f,h5,h6,h7⟩:=Kf p1 G;refine ⟨f,h5,?_,by grind [exVs_eD]⟩;rw[p1.hh.eqD];apply T_;intro b;rw[mE,mE];rcases sO b σ.length with e | e
       ·rw[HA e];obtain ⟨aa,e1,e2⟩:=zdp q hs p3 b _ (eS e)
        grind [SB.er0]
       grind [Nat.add_sub_cancel']
      simp_all
     cases x' with
     |exit i=>grind
     |normal=>exact ⟨.inl rfl,fin p4⟩
     |ret=>exact ⟨.inr rfl,fin p4⟩
    grind [RH.eqD]
   simp_all
  simp_all
 simp_all
theorem Pw{P:Program}{S:sV}{N:Nat}{B:dj}{b:EZ}(dE:P.follows .mixedOrders=true)(d:fw P S)(e:dj.ok P B):∀(a:Nat),dj.ok P (Rl P S N B b a).1/\OI.ok P (Rl P S N B b a).2:=by
 intro a;induction a with
 |zero=>exact ⟨λi f g σ y ct x rv aA σD ds h=>by grind [Rl],λct f g σ rv aA σD ds h=>by grind [Rl]⟩
 |succ a ih=>exact ⟨inl1xok dE d e ih.1 ih.2,ex1xok dE d ih.1 ih.2⟩
end
end Go.Abs
end
section
namespace Go.Abs
variable[Gl]
def D.ed(ρ:Nat->Nat):D->D
 |.c x=>.c x
 |.any=>.any
 |.ptr b o s=>.ptr (ρ b) o s
 |.sl b o l e s=>.sl (ρ b) o l e s
 |.mp b=>.mp (ρ b)
 |.fn f a b=>.fn f (xk ρ a) (xk ρ b)
 |.agg ds=>.agg (xk ρ ds)
 |.aS ds=>.aS (xk ρ ds)
where xk (ρ:Nat->Nat):List D->List D
 |[]=>[]
 |d::ds=>d.ed ρ::xk ρ ds
theorem Fg(ρ:Nat->Nat)(l:List D):D.ed.xk ρ l=l.map (D.ed ρ):=by
 induction l with
 |nil=>rfl
 |cons d l ih=>grind [D.ed.xk]
theorem kr(ρ:Nat->Nat)(l:List D)(i:Nat):(D.ed.xk ρ l)[i]? = (l[i]?).map (D.ed ρ):=by rw[Fg,mE]
theorem mQ(ρ:Nat->Nat)(l:List D):(D.ed.xk ρ l).length=l.length:=by rw[Fg,wj]
def Ob.ed(ρ:Nat->Nat):Ob->Ob
 |.cells j=>.cells (j.map (D.ed ρ))
 |.map o i=>.map (o.map λe=>(e.1,e.2.1.ed ρ,e.2.2)) i
 |.gone n=>.gone n
theorem Ob.rW(ρ:Nat->Nat)(ob:Ob):(ob.ed ρ).sz=ob.sz:=by cases ob <;> simp[Ob.ed,Ob.sz]
section
variable{σ H:ar}{M:Nat->Option Nat}{Fz:Nat->Prop}{w:World}{ρ:Nat->Nat}
theorem V.back{n:Nat}{R:Nat->Option Nat}(hM:∀i,i<n->R i=M (ρ i))(A:∀i,i<n->σ[ρ i]? = (H[i]?).map (Ob.ed ρ)){d:D}{v:Value}(h:V σ M Fz w (d.ed ρ) v):d.low n=true->V H R Fz w d v:=by
 generalize hd:d.ed ρ=d' at h;induction h generalizing d with
 |c h=>intro _;cases d <;> simp only[D.ed,reduceCtorEq,D.c.injEq] at hd;subst hd;exact .c h
 |any v=>intro _;cases d <;> simp only[D.ed,reduceCtorEq] at hd;exact .any v
 |ptr a U h u z=>
  intro j;cases d <;> simp only[D.ed,reduceCtorEq,D.ptr.injEq] at hd
  obtain ⟨rfl,rfl,rfl⟩:=hd;simp only[D.low,bA] at j;rw[A _ j,cE] at h;obtain ⟨x,o,rfl⟩:=h;rw[Ob.rW] at u z;exact .ptr a x o u λe=>by simp_all
 |sl a Z cap G U h u z=>
  intro j;cases d <;> simp only[D.ed,reduceCtorEq,D.sl.injEq] at hd
  obtain ⟨rfl,rfl,rfl,rfl,rfl⟩:=hd;simp only[D.low,bA] at j;rw[A _ j,cE] at h;obtain ⟨x,o,rfl⟩:=h;rw[Ob.rW] at u z;exact .sl a Z cap G x o u λe=>by simp_all
 |mp c U h z=>
  intro j;cases d <;> simp only[D.ed,reduceCtorEq,D.mp.injEq] at hd
  subst hd;simp only[D.low,bA] at j;rw[A _ j,cE] at h;obtain ⟨x,o,rfl⟩:=h;rw[Ob.rW] at z;exact .mp c x o λe=>by simp_all
 |fn E ws o W z hw K O=>
  intro j;cases d <;> simp only[D.ed,reduceCtorEq,D.fn.injEq] at hd
  obtain ⟨rfl,rfl,rfl⟩:=hd;simp only[D.low,bN] at j;rw[mQ] at o W;exact .fn E ws o W (λi d v a b=>K i _ v (by grind [kr]) b rfl (D.aZ j.1 i d a)) (λi d v a b=>O i _ v (by grind [kr]) b rfl (D.aZ j.2 i d a))
 |agg E o z ih=>
  intro j;cases d <;> simp only[D.ed,reduceCtorEq,D.agg.injEq] at hd
  subst hd;simp only[D.low] at j;rw[mQ] at o;exact .agg E o (λi d v a b=>ih i _ v (by grind [kr]) b rfl (D.aZ j i d a))
 |aS E o z ih=>
  intro j;cases d <;> simp only[D.ed,reduceCtorEq,D.aS.injEq] at hd
  subst hd;simp only[D.low] at j;rw[mQ] at o;exact .aS E o (λi d v a b=>ih i _ v (by grind [kr]) b rfl (D.aZ j i d a))
theorem V.Ms{n:Nat}{E:Nat->Option Nat}(K:∀i,i<n->M (ρ i)=E i)(O:∀i,i<n->σ[ρ i]? = (H[i]?).map (Ob.ed ρ)){d:D}{v:Value}(h:V H E Fz w d v):d.low n=true->V σ M Fz w (d.ed ρ) v:=by
 induction h with
 |c h=>intro _;exact .c h
 |any v=>intro _;exact .any v
 |ptr a u h z o=>intro j;simp only[D.low,bA] at j;exact .ptr a (u.ed ρ) (by simp_all) (by grind [Ob.rW]) λe=>by grind [Ob.rW]
 |sl a R cap A u h z o=>intro j;simp only[D.low,bA] at j;exact .sl a R cap A (u.ed ρ) (by simp_all) (by grind [Ob.rW]) λe=>by rw[K _ j];exact o (by grind [Ob.rW])
 |mp c u h o=>intro j;simp only[D.low,bA] at j;exact .mp c (u.ed ρ) (by simp_all) λe=>by grind [Ob.rW]
 |fn x U G h2 o hw W Z=>
  intro j;simp only[D.low,bN] at j;refine .fn x U (by grind [mQ]) (by grind [mQ]) (λi d v a b=>?_) (λi d v a b=>?_)
  ·grind [kr,D.aZ]
  grind [kr,D.aZ]
 |agg x G o ih=>
  intro j;simp only[D.low] at j;refine .agg x (by grind [mQ]) (λi d v a b=>?_)
  grind [kr,D.aZ]
 |aS x G o ih=>
  intro j;simp only[D.low] at j;refine .aS x (by grind [mQ]) (λi d v a b=>?_)
  grind [kr,D.aZ]
theorem bY.back{n:Nat}{E:Nat->Option Nat}(K:∀i,i<n->E i=M (ρ i))(x:∀i,i<n->σ[ρ i]? = (H[i]?).map (Ob.ed ρ)){ob:Ob}{o:Obj}(O:ob.low n=true)(h:bY σ M Fz w (ob.ed ρ) o):bY H E Fz w ob o:=by
 cases ob with
 |cells W=>obtain ⟨j,T,rfl,u,G⟩:=h;simp only[wj] at u;refine ⟨j,T,rfl,u,λi d v a b=>?_⟩;obtain ⟨R,U⟩:=G i (d.ed ρ) v (by simp_all) b;exact ⟨V.back K x R (D.aZ O i d a),U⟩
 |map Z z=>
  obtain ⟨j,A,u,G⟩:=h;simp only[wj] at u;refine ⟨j,A,u,λi k d m e a b=>?_⟩
  grind [Ob.low,V.back]
 |gone m=>exact h
theorem bY.Ms{n:Nat}{A:Nat->Option Nat}(K:∀i,i<n->M (ρ i)=A i)(u:∀i,i<n->σ[ρ i]? = (H[i]?).map (Ob.ed ρ)){ob:Ob}{o:Obj}(O:ob.low n=true)(h:bY H A Fz w ob o):bY σ M Fz w (ob.ed ρ) o:=by
 cases ob with
 |cells Z=>obtain ⟨j,T,rfl,R,E⟩:=h;refine ⟨j,T,rfl,by simp_all,λi d v a b=>?_⟩;rw[mE,cE] at a;obtain ⟨G,a,rfl⟩:=a;obtain ⟨U,W⟩:=E i G v a b;exact ⟨V.Ms K u U (D.aZ O i G a),W⟩
 |map es x=>
  obtain ⟨j,z,R,E⟩:=h;refine ⟨j,z,by simp_all,λi k d m e a b=>?_⟩
  grind [Ob.low,V.Ms]
 |gone m=>exact h
end
end Go.Abs
end
