/- DfwRs, DfwRz, DfwPl, DfwPm, DfwPn, DfwPo, DfwPq, DfwPs, DfwPt, DfwRl -/
import Derived.Test.YtdfbphphacpkdaaGreatFwD
import Derived.Test.YtdfbphphacpkdaaGreatFwE
import Derived.Test.YtdfbphphacpkdaaGreatFwC
import Derived.Test.YtdfbphphacpkdaaGreatFwB
set_option linter.all false
section
namespace Go.Abs
section
variable{σ σ':ar}{M M':Nat->Option Nat}{Fz Fz':Nat->Prop}{w w' w'':World}{P:Program}
theorem VC.vZ(j:∀c:Nat,Fz c->w'.heap[c]? = w.heap[c]?){x:C}{v:Value}(h:VC Fz w x v):VC Fz w' x v:=h.mono λc i=>⟨i,j c i⟩
theorem V.vZ(O:∀c:Nat,(Fz c∨∃b,M b=some c)->w'.heap[c]? = w.heap[c]?){d:D}{v:Value}(h:V σ M Fz w d v):V σ M Fz w' d v:=by
 induction h with
 |c h=>exact .c (h.vZ λc U=>O c (.inl U))
 |any v=>exact .any v
 |ptr a x h j i=>exact .ptr a x h j i
 |sl a n cap A x h j i=>
  refine .sl a n cap A x h j (λW=>?_);rcases i W with u | ⟨c,o,E,T,R,Z,hn,hl,hh,hb,hr⟩
  ·exact .inl u
  ·exact .inr ⟨c,o,E,T,R,Z,hn,hl,hh,by rw[O c (.inr ⟨_,R⟩)];exact hb,hr⟩
 |mp c x h i=>exact .mp c x h i
 |fn z ws u h2 i hw G K=>exact .fn z ws u h2 G K
 |agg z u i ih=>exact .agg z u ih
 |aQ z u i ih=>exact .aQ z u ih
theorem bU.vZ(K:∀c:Nat,(Fz c∨∃b,M b=some c)->w'.heap[c]? = w.heap[c]?){ob:Ob}{o:Obj}(h:bU σ M Fz w ob o):bU σ M Fz w' ob o:=by
 cases ob with
 |cells O=>obtain ⟨j,T,A,E,u⟩:=h;exact ⟨j,T,A,E,λi d v x z=>⟨(u i d v x z).1.vZ K,(u i d v x z).2⟩⟩
 |map R G=>obtain ⟨j,A,E,u⟩:=h;exact ⟨j,A,E,λi k d n e x z=>let ⟨a,b,c⟩:=u i k d n e x z;⟨a,b,c.vZ K⟩⟩
 |gone n=>exact h.elim
variable[Gl]
theorem Rel.vZ(i:∀c:Nat,(Fz c∨∃b,M b=some c)->w'.heap[c]? = w.heap[c]?)(hs:w.heap.size<=w'.heap.size)(R:Rel σ M Fz w):Rel σ M Fz w':={
 blk:=λb c h=>by obtain ⟨u,ob,o,h1,h2,x⟩:=R.blk b c h;exact ⟨u,ob,o,h1,by rw[i c (.inr ⟨b,h⟩)];exact h2,x.vZ i⟩
 inj:=R.inj
 fz:=λc h=>E_ (R.fz c h) hs
 gl:=Gl.mono (λc j=>⟨j,i c (.inl j)⟩) R.gl }
theorem Rel.none(R:Rel σ M Fz w):Rel [] (λ_=>none) Fz w:=⟨λb c h=>by simp at h,λb i c h=>by simp at h,R.fz,R.gl⟩
omit [Gl] in
theorem bD.vZ(E:bD σ M Fz w σ' M' Fz' w')(o:∀c:Nat,(Fz' c∨∃b,M' b=some c)∨c<w.heap.size->w''.heap[c]? = w'.heap[c]?)(hs:w'.heap.size<=w''.heap.size)(u:w''.os=w'.os/\w''.tape=w'.tape/\w''.output=w'.output):bD σ M Fz w σ' M' Fz' w'':={
 size:=lA E.size hs
 frame:=λc i G=>by rw[o c (.inr i)];exact E.frame c i G
 kK:=E.kK
 fz:=λc i=>⟨(E.fz c i).1,by rw[o c (.inl (.inl (E.fz c i).1))];exact (E.fz c i).2⟩
 nQ:=E.nQ
 pP:=λc x T K i=>by have z:=(BO.1 i).1;obtain ⟨j,h,A⟩:=E.pP c x T K i;exact ⟨j,by rw[o c (.inr z)];exact h,A⟩
 keep:=E.keep
 out:=⟨u.1.trans E.out.1,u.2.1.trans E.out.2.1,u.2.2.trans E.out.2.2⟩ }
theorem V.xg{G:Nat->Prop}(K:∀c,Fz c->G c){d:D}{v:Value}(h:V σ M Fz w d v):V σ M G w d v:=by
 induction h with
 |c h=>exact .c (h.mono λc O=>⟨K c O,rfl⟩)
 |any v=>exact .any v
 |ptr a o h j i=>exact .ptr a o h j i
 |sl a n cap z o h j i=>exact .sl a n cap z o h j i
 |mp c o h i=>exact .mp c o h i
 |fn u R x U i W A E=>exact .fn u R x U A E
 |agg u x i ih=>exact .agg u x ih
 |aQ u x i ih=>exact .aQ u x ih
theorem Rel.xg{x:Nat->Prop}(R:Rel σ M Fz w)(z:∀c,Fz c->x c)(O:∀c,x c->Fz c∨((∀b,M b≠some c)/\c<w.heap.size)):Rel σ M x w:={
 blk:=λb c h=>by
  obtain ⟨U,ob,o,h1,h2,A⟩:=R.blk b c h;refine ⟨λW=>(O c W).elim U λZ=>Z.1 b h,ob,o,h1,h2,?_⟩;cases ob with
  |cells cs=>obtain ⟨j,T,E,G,u⟩:=A;exact ⟨j,T,E,G,λi d v h1 h2=>⟨(u i d v h1 h2).1.xg z,(u i d v h1 h2).2⟩⟩
  |map es K=>obtain ⟨j,E,G,u⟩:=A;exact ⟨j,E,G,λi k d n e h1 h2=>let ⟨a,b,c⟩:=u i k d n e h1 h2;⟨a,b,c.xg z⟩⟩
  |gone n=>exact A.elim
 inj:=R.inj
 fz:=λc h=>(O c h).elim (R.fz c) λh=>h.2
 gl:=Gl.mono (λc hc=>⟨z c hc,rfl⟩) R.gl }
omit [Gl] in
theorem bD.xg{j:Nat->Prop}(E:bD σ M Fz w σ' M' Fz' w')(o:∀c,Fz' c->j c)(u:∀c,j c->Fz' c∨w.heap.size<=c):bD σ M Fz w σ' M' j w':={
 size:=E.size
 frame:=E.frame
 kK:=E.kK
 fz:=λc i=>⟨o c (E.fz c i).1,(E.fz c i).2⟩
 nQ:=λc i=>(u c i).elim (E.nQ c) λh=>.inr (.inr h)
 pP:=E.pP
 keep:=E.keep
 out:=E.out }
def seen(M:Nat->Option Nat)(Fz:Nat->Prop)(c:Nat):Prop:=Fz c∨∃b,M b=some c
theorem Ge{a:Nat->Prop}(b:∀c,Fz c->a c):(λc=>seen M Fz c∨a c)=seen M a:=funext λc=>propext ⟨λh=>h.elim (λh=>h.imp (b c) id) .inl,λh=>h.elim .inr λh=>.inl (.inr h)⟩
theorem Rel.HY(R:Rel σ M Fz w){c:Nat}(h:seen M Fz c):c<w.heap.size:=h.elim (R.fz c) λ⟨_,h⟩=>(R.lt h).2
omit [Gl] in
theorem bD.kept{x:Nat->Option Nat}{F j:Nat->Prop}(E:bD σ M Fz w σ' M' Fz' w')(W:Jh M' Fz' x j)(A:∀c:Nat,F c->j c/\w'.heap[c]? = w.heap[c]?):Kept F (seen M Fz) w j (seen x j) w':={
 size:=E.size
 off:=λc G i=>by
  unfold seen at i;simp only[not_or,not_exists] at i;have z:∀b,M' b≠some c:=λb K=>(E.kK b c K).elim (λ⟨o,u⟩=>i.2 o u) (by omega);have O:¬Fz' c:=λh=>by
   rcases E.nQ c h with h | ⟨o,u⟩ | h
   ·exact i.1 h
   ·exact i.2 o u
   ·omega
  refine ⟨E.frame c G i.2,λh=>?_⟩;rcases h with h | ⟨b,h⟩
  ·rcases W.2.1 c h with h | ⟨b,h⟩
   ·exact O h
   ·exact z b h
  ·obtain ⟨R,U⟩:=W.1 b c h;exact z R U
 fz:=A
 out:=E.out }
def WI:mF->Code
 |.normal=>.skip
 |.exit i=>if i % 2=0 then .exit (i / 2) else .goto (i / 2)
 |.ret=>.ret
omit [Gl] in
theorem wp_jmp{x:mF}{Q:Exit->Act->World->Prop}{a:Act}(h:Q (xX x) a w):(WI x).wp P Q a w:=by
 cases x with
 |normal=>exact wp_skip h
 |ret=>exact wp_ret h
 |exit i=>
  unfold xX at h;unfold WI;dsimp only at h ⊢;split <;> rename_i e
  ·rw[if_pos e] at h;exact wp_exit h
  ·rw[if_neg e] at h;exact wp_goto h
omit [Gl] in
theorem No{I:Nat->(Nat->Prop)->(Nat->Prop)->World->Prop}{f:Code->(Nat->Prop)->(Nat->Prop)->World->Prop}{i:Nat}{F U b d:Nat->Prop}{x:mF}{a:Act}(g:x≠.normal)(k:Kept F U w b d w')(h:f (WI x) b d w'):rpost I f i F U w (xX x) a w':=by
 cases x with
 |normal=>exact absurd rfl g
 |ret=>exact ⟨b,d,k,h⟩
 |exit j=>
  unfold WI at h;unfold xX;dsimp only at h ⊢;split <;> rename_i e
  ·rw[if_pos e] at h;exact ⟨b,d,k,h⟩
  ·rw[if_neg e] at h;exact ⟨b,d,k,h⟩
def KZ:List Nat->List D->AL->AL
 |p::ps,d::ds,al=>KZ ps ds ((p,d)::al)
 |_,_,al=>al
omit [Gl] in
theorem eI.KZ{n:Nat}:∀{ps:List Nat}{ds:List D}{vs:List Value}{al:AL}{i:Array Value},eI n σ M Fz w al i->(∀p∈ps,p<n)->ps.length=ds.length->vs.length=ds.length->(∀(k:Nat) d v,ds[k]? = some d->vs[k]? = some v->V σ M Fz w d v) ->
  eI n σ M Fz w (KZ ps ds al) ((ps.zip vs).foldl (λt (p,v)=>t.setIfInBounds p v) i):=by
 intro ps;induction ps with
 |nil=>intro ds vs al i A _ _ _ _;simpa[Abs.KZ] using A
 |cons p ps ih=>
  intro ds vs al i A u x z E;cases ds with
  |nil=>simp at x
  |cons d ds=>
   cases vs with
   |nil=>simp at z
   |cons v vs=>
    simp only[Abs.KZ,List.zip_cons_cons,List.foldl_cons];refine ih ⟨by simp[A.1],λt G j=>?_⟩ (λq K=>u q (oD _ K)) (by simpa using x) (by simpa using z) λk d v a b=>E (k+1) d v (by simpa using a) (by simpa using b);simp only[lk] at j;split at j
    ·rename_i o;have:=cO o;subst this;simp only[au] at j;subst j;refine ⟨v,?_,E 0 _ _ rfl rfl⟩;rw[Zw,if_pos rfl,if_pos (by rw[A.1];exact u _ (by simp))]
    ·rename_i o;obtain ⟨O,R,U⟩:=A.2 t G j;refine ⟨O,?_,U⟩;rw[Zw,if_neg (λe=>by rw[e] at o;simp at o)];exact R
end
section
variable[Gl][Ty]{P:Program}{n:Nat}{Q:mF->AL->ar->Prop}
def Rng(P:Program)(a b:aP)(n:Nat)(ps:List Nat)(g:Nat)(x:C)(m:Nat)(Q:mF->AL->ar->Prop):List (List D)->AL->ar->Prop
 |[],al,σ=>(σ[g]? = some (.cells [.c x])/\σ.length=m)/\Q .normal al σ
 |ds :: xs, al, σ => (σ[g]? = some (.cells [.c x]) /\ σ.length = m) /\ Sem P a n (KZ ps ds al) σ λe h σ1 => e = .normal /\ Sem P b n h σ1 λe _ aA => match e with
  |.normal=>∃d f,vz m al aA d f/\Rng P a b n ps g x m Q xs d f
  |e=>Q e al aA
theorem Rng.cap{a b:aP}{ps:List Nat}{i:Nat}{x:C}{m:Nat}{xs:List (List D)}{al:AL}{σ:ar}(h:Rng P a b n ps i x m Q xs al σ):σ[i]? = some (.cells [.c x])/\σ.length=m:=by
 cases xs with
 |nil=>exact h.1
 |cons d ds=>exact h.1
theorem Sem.preW{ac:aP}{al i:AL}{σ aA:ar}(hs:vz σ.length al σ i aA)(h:Sem P ac n i aA Q):Sem P ac n al σ Q:=by intro c u M Fz w a K R A z;obtain ⟨E,G,O,U,W,o,W2⟩:=hs.use R R A (bD.refl R) (cR _);exact h c u E G w a K O U λx j σ' Z w' M' Fz' hQ hd R' A' E' hl=>z x j σ' Z w' M' Fz' hQ hd R' A' (W.trans E' o) (lA o hl)
theorem Sem.UR{o:aN}{ps:List Nat}{a b:aP}{gf bc:Nat}{x:C}{items:List (List D)}{al:AL}{σ:ar}(ho:(match o with | .t k=>lk k al | .k d=>some d)=some (.fn (.func gf) [] [.ptr bc 0 1]))
  (af:aS P gf=true) (it:ItOk P gf [[x]] items) (be:∀ds∈items,ds.length=ps.length) (bt:∀p∈ps,p<n) (h:Rng P a b n ps bc x σ.length Q items al σ):Sem P (.UR o ps a b) n al σ Q:=by
 intro c G M Fz w ab K R A hK;cases c with
 |rangeFunc g pt c1 c2=>
  rcases ee G with ⟨o',a',b',h1,h2,h3,h4,e⟩ | e
  ·simp only[aP.UR.injEq] at e;obtain ⟨rfl,rfl,rfl,rfl⟩:=e;simp only[bG] at h4;refine ⟨?_,λhh=>by simp[Code.calm] at hh⟩;have hv:=mc A.c_.1 h1;have bu:o.ev (xC n al)=.fn (.func gf) [] [.ptr bc 0 1]:=by
    cases o with
    |t k=>dsimp only at ho;simp[aN.ev,A.c_.2.2 k _ ho]
    |k d=>simp only[au] at ho;subst ho;rfl
   rw[bu] at hv;obtain ⟨lb,bv,bw,b0⟩:∃lb:Array Value,ab.eval g=.func (.func gf) #[] lb/\lb.size=1/\∀v,lb[0]? = some v->V σ M Fz w (.ptr bc 0 1) v:=by
    generalize ab.eval g=y at hv;cases hv with
    |fn vs ws g1 g2 _ g4=>have:vs=#[]:=Array.eq_empty_of_size_eq_zero (by simpa using g1);exact ⟨ws,by rw[this],by simpa using g2,λv hv=>g4 0 _ v rfl hv⟩
   have eg:∀args w,(callFunc gf args).run P w=.ok (.enter gf args) w:=λargs w=>by
    unfold aS at af;split at af
    ·rename_i fn b1;simp only[bG,IX,ne_eq] at af;obtain ⟨hb,b2⟩:=af;have b3:fn.body.isNone=false:=by simp_all
     simp only[callFunc,Sem.run_bind,Sem.run_pure,Result.andThen_ok,run_program,b1,my,b2,b3,cn,bX]
    ·simp at af
   obtain ⟨I,hI⟩:∃I:Nat->(Nat->Prop)->(Nat->Prop)->World->Prop,I=λi F U W=>∃E z Z,Rng P a b n pt.toList bc x σ.length Q (items.drop i) E z/\Rel z Z F W/\eI n z Z F W E ab.tmps/\bD σ M Fz w z Z F W/\U=seen Z F:=⟨_,rfl⟩;obtain ⟨Ix,ax⟩:∃Ix:Code->(Nat->Prop)->(Nat->Prop)->World->Prop,Ix=λc F U W=>∃e E z Z,c=WI e/\Q e E z/\σ.length<=z.length/\Rel z Z F W/\eI n z Z F W E ab.tmps/\bD σ M Fz w z Z F W/\U=seen Z F:=⟨_,rfl⟩;have ak:∀{z:ar}{Z:Nat->Option Nat}{F:Nat->Prop}{W W':World}{E:AL}{tm:Array Value},(∀c:Nat,seen Z F c∨c<w.heap.size->W'.heap[c]? = W.heap[c]?)->eI n z Z F W E tm->eI n z Z F W' E tm:=λO A'=>⟨A'.1,λt d ht=>let ⟨v,g1,g2⟩:=A'.2 t d ht;⟨v,g1,g2.vZ λc G=>O c (.inl G)⟩⟩
   have fI:∀i,wO w.heap.size (I i):=λi=>by
    subst hI;refine ⟨λF U W ⟨E,z,Z,_,R',_⟩=>R'.none,λF U W ⟨E,z,Z,_,_,_,_,e⟩ c G=>by rw[e];exact .inl G,λF U W ⟨E,z,Z,_,R',_,_,e⟩ c G=>R'.HY (by rw[e] at G;exact G),λF U W ⟨E,z,Z,_,_,_,E',_⟩=>E'.size,λF U W W' ⟨E,z,Z,hr,R',A',E',e⟩ hs O ad=>?_,λF U W F' ⟨E,z,Z,hr,R',A',E',e⟩ ha hb=>?_⟩
    rotate_left
    ·rw[e] at hb ⊢;exact ⟨E,z,Z,hr,R'.xg ha λc G=>(hb c G).imp id λ⟨q,r⟩=>⟨λb a2=>q (.inr ⟨b,a2⟩),r.2⟩,⟨A'.1,λt d ht=>let ⟨v,g1,g2⟩:=A'.2 t d ht;⟨v,g1,g2.xg ha⟩⟩,E'.xg ha λc G=>(hb c G).imp id λ⟨q,r⟩=>r.1,Ge ha⟩
    rw[e] at O;exact ⟨E,z,Z,hr,R'.vZ (λc G=>O c (.inl G)) hs,ak O A',E'.vZ O hs ad,e⟩
   have b4:∀c,wO w.heap.size (Ix c):=λc=>by
    subst ax;refine ⟨λF U W ⟨x,E,z,Z,_,_,_,R',_⟩=>R'.none,λF U W ⟨x,E,z,Z,_,_,_,_,_,_,e⟩ c G=>by rw[e];exact .inl G,λF U W ⟨x,E,z,Z,_,_,_,R',_,_,e⟩ c G=>R'.HY (by rw[e] at G;exact G),λF U W ⟨x,E,z,Z,_,_,_,_,_,E',_⟩=>E'.size,λF U W W' ⟨x,E,z,Z,hx,hq,an,R',A',E',e⟩ hs O ad=>?_,λF U W F' ⟨x,E,z,Z,hx,hq,an,R',A',E',e⟩ ha hb=>?_⟩
    rotate_left
    ·rw[e] at hb ⊢;exact ⟨x,E,z,Z,hx,hq,an,R'.xg ha λc G=>(hb c G).imp id λ⟨q,r⟩=>⟨λb a2=>q (.inr ⟨b,a2⟩),r.2⟩,⟨A'.1,λt d ht=>let ⟨v,g1,g2⟩:=A'.2 t d ht;⟨v,g1,g2.xg ha⟩⟩,E'.xg ha λc G=>(hb c G).imp id λ⟨q,r⟩=>r.1,Ge ha⟩
    rw[e] at O;exact ⟨x,E,z,Z,hx,hq,an,R'.vZ (λc G=>O c (.inl G)) hs,ak O A',E'.vZ O hs ad,e⟩
   refine Wp (caps:=[[x]]) (items:=items) (F0:=Fz) (U0:=seen M Fz) bv eg it (by simpa using be) I Ix fI b4 ?_ ?_ ?_ ?_ ?_
   ·
    intro i F U W hi;subst hI;obtain ⟨E,z,Z,hr,R',_,E',_⟩:=hi;refine ⟨by simp[bw],λk cs v hk hv=>?_⟩;have b5:k=0:=by have:=(gg.1 hk).1;simp at this;exact this
    subst b5;simp only[List.getElem?_cons_zero,au] at hk;subst hk;obtain ⟨c,hM,rfl⟩:=((b0 v hv).mono E').vM (PE hr.cap.1 (sz:=1) rfl);obtain ⟨a5,T,hh,hl,b6⟩:=R'.row hM hr.cap.1;refine ⟨c,rfl,a5,T,hh,by simpa using hl,λj d u hd hu=>?_⟩;have b7:j=0:=by have:=(gg.1 hd).1;simp at this;exact this
    subst b7;simp only[List.getElem?_cons_zero,au] at hd;subst hd;obtain ⟨g1,g2⟩:=b6 0 _ _ rfl hu;exact ⟨g1.qh,g2⟩
   ·subst hI;exact ⟨al,σ,M,by simpa using h,R,A,bD.refl R,rfl⟩
   ·
    intro l i ds F U W vs a6 hi bh;subst hI;obtain ⟨E,z,Z,hr,R',A',E',rfl⟩:=hi;have b8:=(gg.1 a6).1;have b9:items.drop i=ds::items.drop (i+1):=by rw[yBF b8];simp only[yBP,Nr];have:=gg.1 a6;exact this.2
    rw[b9] at hr;obtain ⟨⟨c5,c6⟩,bi⟩:=hr;have cg:=be ds (Am a6);have ch:vs.toList.length=ds.length:=by simpa using bh.1
    have A1:=eI.KZ (ps:=pt.toList) (ds:=ds) (vs:=vs.toList) A' bt cg.symm ch λk d v g1 g2=>by have:=bh.2 k d v g1 (by simpa using g2);exact this.sub (λb ob hb=>by simp at hb) (λ_ _ h=>by simp at h) (λc h=>⟨h,rfl⟩) (λc a5 T fr h=>⟨a5,h,rfl⟩)
    have ez:(pt.zip vs).foldl (λt (p,v)=>t.setIfInBounds p v) ab.tmps=(pt.toList.zip vs.toList).foldl (λt (p,v)=>t.setIfInBounds p v) ab.tmps:=by rw[<-xAh,Array.toList_zip]
    rw[ez];refine (bi c1 h2 Z F W { tmps:=_,defers:=[] } _ R' A1 λx1 ck σ1 a1 w1 M1 F1 cm _ R1 co E1 c7=>?_).2 h4.1 l 0;obtain ⟨rfl,hb⟩:=cm;refine ⟨F1,seen M1 F1,E1.kept Jh.refl E1.fz,λc G=>R1.HY G,λw2 bk O ad=>?_⟩;have R2:=R1.vZ (λc G=>O c (.inl G)) (Nat.le_of_eq bk);have cp:eI n σ1 M1 F1 w2 ck a1.tmps:=ak O co;have Et:bD σ M Fz w σ1 M1 F1 w2:=(E'.trans E1 (by omega)).vZ O (Nat.le_of_eq bk) ad;refine (hb c2 h3 M1 F1 w2 a1 _ R2 cp λx2 c9 aA a3 w3 M3 F3 a7 _ R3 da E3 c8=>?_).2 h4.2 l 0;have Ef:bD σ M Fz w aA M3 F3 w3:=Et.trans E3 (by omega);have Vm:∀{d:D}{v:Value},V z Z F W d v->V aA M3 F3 w3 d v:=λhv=>by have:=hv.mono E1;exact (this.vZ (λc G=>O c (.inl G))).mono E3
    have a8:eI n aA M3 F3 w3 E ab.tmps:=⟨A'.1,λt d ht=>let ⟨v,g1,g2⟩:=A'.2 t d ht;⟨v,g1,Vm g2⟩⟩;have a0:∀c:Nat,F c->F3 c/\w3.heap[c]? = w2.heap[c]?:=λc G=>E3.fz c (E1.fz c G).1;cases x2 with
    |normal=>obtain ⟨cv,c0,hw,a9⟩:=a7;obtain ⟨M4,F4,R4,A4,W4,E4⟩:=hw.2 n M3 F3 w3 ab.tmps R3 a8;have c3:=E4 σ M Fz w R Ef (cR _);have c4:∀c:Nat,F c->F4 c:=λc G=>W4.2.2 c (a0 c G).1;exact ⟨F4,seen M4 F4,E3.kept W4 λc G=>⟨c4 c G,(a0 c G).2⟩,cv,c0,M4,a9,R4,A4,c3,rfl⟩
    |exit j=>exact No (by simp) (E3.kept Jh.refl a0) (by subst ax;exact ⟨.exit j,E,aA,M3,rfl,a7,by omega,R3,a8,Ef,rfl⟩)
    |ret=>exact No (by simp) (E3.kept Jh.refl a0) (by subst ax;exact ⟨.ret,E,aA,M3,rfl,a7,by omega,R3,a8,Ef,rfl⟩)
   ·intro D F U W hD bb aa bd hi;subst hI;obtain ⟨E,z,Z,hr,R',A',E',rfl⟩:=hi;rw[List.drop_length] at hr;unfold seen at aa;simp only[not_or,not_exists] at aa;exact hK .normal E z _ W Z F hr.2 ⟨[D],rfl,by simp,λD' av=>by simp only[Bl] at av;subst av;exact ⟨hD,bb,aa.2,aa.1,bd⟩⟩ R' A' E' (Nat.le_of_eq hr.1.2.symm)
   ·intro D c F U W hD bb aa bd hi;subst ax;obtain ⟨e,E,z,Z,rfl,hq,an,R',A',E',rfl⟩:=hi;unfold seen at aa;simp only[not_or,not_exists] at aa;exact wp_jmp (hK e E z _ W Z F hq ⟨[D],rfl,by simp,λD' av=>by simp only[Bl] at av;subst av;exact ⟨hD,bb,aa.2,aa.1,bd⟩⟩ R' A' E' an)
  ·cases e
 |region id db bl=>
  simp only[bF] at G;split at G
  ·cases bl with
   |false=>simp at G
   |true=>simp only[if_true] at G;split at G <;> simp at G
  ·simp at G
 |seq c1 c2=>simp only[bF] at G;split at G <;> simp at G
 |cond o c1 c2=>simp only[bF] at G;split at G <;> simp at G
 |scope b=>simp only[bF,cu] at G;obtain ⟨a1,_,e1⟩:=G;rcases J_ a1 with ⟨l,r,_,e⟩ | e <;> rw[e] at e1 <;> simp at e1
 |_=>simp[bF] at G
end
end Go.Abs
end
section
namespace Go.Abs
noncomputable section
variable[Gl][Y:Ty]
section
variable{P:Program}{n:Nat}{al:AL}{σ:ar}{Q:mF->AL->ar->Prop}{ac:aP}
theorem Sem.frzR{t b i:Nat}{l:List (TT i)}(hr:lk t al=some (OS (aw i) b l.length))(hb:σ[b]? = some (OB (enc i) l))(h:Sem P ac n ((t,.c (.cB false (l.map (enc i))))::al) (σ.set b (OB (enc i) (l++[Pz i]))) Q):Sem P ac n al σ Q:=by
 intro c Z M Fz w a K R A hK;have ad:=dfl_len i l;have cT:∀(x:Nat) z,σ[x]? = some z->∃u,(σ.set b (OB (enc i) (l++[Pz i])))[x]? = some u/\z.sz<=u.sz/\(u.sz=z.sz->x≠b/\u=z):=λx z E=>by
  by_cases e:x=b
  ·subst e;rw[hb] at E;simp only[au] at E;subst E;exact ⟨_,Gi hb,yCa ad,λe=>by omega⟩
  ·exact ⟨z,by rw[eL e];exact E,cR _,λ_=>⟨e,rfl⟩⟩
 have conv:∀{d:D}{v:Value},V σ M Fz w d v->V (σ.set b (OB (enc i) (l++[Pz i]))) (λx=>if x=b then none else M x) (λc=>Fz c∨M b=some c) w d v:=by
  intro d v G;induction G with
  |c h=>exact .c (h.mono λc Z=>⟨.inl Z,rfl⟩)
  |any v=>exact .any v
  |ptr a z h af G=>
   obtain ⟨u,h1,h2,O⟩:=cT _ _ h;exact .ptr a u h1 (by omega) (λhe=>by obtain ⟨U,rfl⟩:=O (by omega);rw[if_neg U];exact G he)
  |sl a m cap ak z h af G=>
   obtain ⟨u,h1,h2,O⟩:=cT _ _ h;exact .sl a m cap ak u h1 (by omega) (λhe=>by obtain ⟨U,rfl⟩:=O (by omega);rw[if_neg U];exact G he)
  |mp c z h G=>
   obtain ⟨u,h1,h2,O⟩:=cT _ _ h;exact .mp c u h1 (λhe=>by obtain ⟨U,rfl⟩:=O (by omega);rw[if_neg U];exact G he)
  |fn vs ws h1 h2 G hw an av=>exact .fn vs ws h1 h2 an av
  |agg vs h1 G ih=>exact .agg vs h1 ih
  |aQ vs h1 G ih=>exact .aQ vs h1 ih
 have ax:∀{z o},bU σ M Fz w z o->bU (σ.set b (OB (enc i) (l++[Pz i]))) (λx=>if x=b then none else M x) (λc=>Fz c∨M b=some c) w z o:=λ{z o} U=>by
  cases z with
  |cells cs=>obtain ⟨W,T,ho,hl,G⟩:=U;exact ⟨W,T,ho,hl,λi d v x y=>⟨conv (G i d v x y).1,(G i d v x y).2⟩⟩
  |map es a0=>obtain ⟨W,ho,hl,G⟩:=U;exact ⟨W,ho,hl,λi k d n e x y=>let ⟨p,q,r⟩:=G i k d n e x y;⟨p,q,conv r⟩⟩
  |gone n=>exact U.elim
 have R1:Rel (σ.set b (OB (enc i) (l++[Pz i]))) (λx=>if x=b then none else M x) (λc=>Fz c∨M b=some c) w:=by
  refine ⟨λx c E=>?_,λx x' c E aa=>?_,λc Z=>Z.elim (R.fz c) λh=>(R.lt h).2,Gl.mono (λc h=>⟨.inl h,rfl⟩) R.gl⟩
  ·split at E
   ·simp at E
   rename_i ab;obtain ⟨h1,z,o,h2,O,U⟩:=R.blk x c E;exact ⟨λhf=>hf.elim h1 λhf=>ab (R.inj _ _ c E hf),z,o,by rw[eL ab];exact h2,O,ax U⟩
  ·split at E
   ·simp at E
   split at aa
   ·simp at aa
   exact R.inj _ _ c E aa
 have E1:bD σ M Fz w (σ.set b (OB (enc i) (l++[Pz i]))) (λx=>if x=b then none else M x) (λc=>Fz c∨M b=some c) w:={
  size:=cR _
  frame:=λ_ _ _=>rfl
  kK:=λx c h=>by
   split at h
   ·simp at h
   exact .inl ⟨x,h⟩
  fz:=λc h=>⟨.inl h,rfl⟩
  nQ:=λc h=>h.elim .inl λh=>.inr (.inl ⟨b,h⟩)
  pP:=λc W T fr h=>⟨W,h,rfl⟩
  keep:=λx z h=>by obtain ⟨u,h1,h2,O⟩:=cT x z h;exact ⟨u,h1,h2,λe=>by rw[if_neg (O e).1]⟩
  out:=⟨rfl,rfl,rfl⟩ }
 have N0:Rn (Y:=Y) 0 σ [] id (λx=>x=b):=⟨cR _,λi hi=>by omega,λi j hi=>by simp at hi,λi hi=>by simp at hi,λx E=>by subst E;exact ⟨i,l,hb⟩,λi hi=>by simp at hi⟩
 have A1:eI n (σ.set b (OB (enc i) (l++[Pz i]))) (λx=>if x=b then none else M x) (λc=>Fz c∨M b=some c) w ((t,.c (.cB false (l.map (enc i))))::al) a.tmps:=by
  refine ⟨A.1,λs d hs=>?_⟩;simp only[lk] at hs;split at hs
  ·rename_i a1;have:=cO a1;subst this;simp only[au] at hs;subst hs;obtain ⟨v,h1,h2⟩:=A.2 _ _ hr;have O:=(dh.cB N0 rfl hb M Fz w v R h2).qh;exact ⟨v,h1,.c (O.mono λc Z=>⟨Z.imp id λ⟨x,E,h⟩=>E▸h,rfl⟩)⟩
  ·obtain ⟨v,h1,h2⟩:=A.2 s d hs;exact ⟨v,h1,conv h2⟩
 exact h c Z _ _ w a K R1 A1 λx a2 σ' a' w' M' Fz' hQ hd R' A' E' hl=>hK x a2 σ' a' w' M' Fz' hQ hd R' A' (E1.trans E' (by simp)) (by simpa using hl)
end
theorem frzz_ok{P:Program}{n:Nat}{ac:aP}{Q:mF->AL->ar->Prop}:∀(os:List (Nat×Nat))(al a:TA)(σ σ':TH)(alD:AL)(σD:ar),Vx os al σ=some (a,σ')->Ref al σ alD σD ->
  (∃pre,a=pre++al)/\Ext σ σ'/\((∀f g,Ref a σ' f g->Sem P ac n f g Q)->Sem P ac n alD σD Q):=by
 intro os;induction os with
 |nil=>intro al a σ σ' alD σD h k;simp only[Vx,au,aT] at h;obtain ⟨rfl,rfl⟩:=h;exact ⟨⟨[],rfl⟩,Ext.refl σ,λhs=>hs alD σD k⟩
 |cons o os ih=>
  intro al a σ σ' alD σD h k;obtain ⟨t,U⟩:=o;simp only[Vx] at h;split at h
  ·rename_i i b v m E;split at h
   ·rename_i j l q r x;split at h
    ·rename_i y;have y:=cO y;subst y;obtain ⟨p,G⟩:=ki E;obtain ⟨d,K,L,N⟩:=k.rg t _ p G;have:=RT.c1 (by simp) L;subst this;obtain ⟨blk,z,O⟩:=N;rw[x] at z;simp only[au] at z;subst z;obtain ⟨rfl,rfl⟩:=(O _ _ _ _ rfl).2 rfl;have u:BE (.row j l q r) (.row j (l++[Pz j]) (q+1) (r+1)):=⟨_,q+1,r+1,rfl,by omega,by omega,λe=>by omega,λe=>by omega⟩;have A:=Ext.set x u;have H1:RH (σ.set b (.row j (l++[Pz j]) (q+1) (r+1))) (σD.set b (OB (enc j) (l++[Pz j]))):=k.hh.set x u rfl (λw W e=>by simp at e);have R:Ref ((t,.v (.c (.sl j l)))::al) (σ.set b (.row j (l++[Pz j]) (q+1) (r+1))) ((t,.c (.cB false (l.map (enc j))))::alD) (σD.set b (OB (enc j) (l++[Pz j]))):=k.set H1 A (Or.inr rfl) True.intro;obtain ⟨⟨pre,Z⟩,S,T⟩:=ih _ _ _ _ _ _ h R;exact ⟨⟨pre++[(t,.v (.c (.sl j l)))],by simp_all⟩,Ext.trans k.hh A S,λhs=>Sem.frzR K (k.hh.row x) (T hs)⟩
    ·simp at h
   ·simp at h
  ·simp at h
theorem Yt{R:Type}{a b:Nat}{k:Option R}{r:R}(h:BC a b k=some r):a=b/\k=some r:=by
 unfold BC at h;split at h
 ·rename_i e;exact ⟨cO e,h⟩
 ·simp at h
theorem refr_ok{R:Type}{k:TA->Option R}{r:R}{σ:TH}{σD:ar}:∀(hs:List (Nat×Nat))(al:TA)(alD:AL),Ys hs al σ k=some r->Ref al σ alD σD ->
  ∃f a,k f=some r/\Ref f σ a σD/\(∃pre,f=pre++al)/\∀t d,lk t a=some d->lk t alD=some d:=by
 intro hs;induction hs with
 |nil=>intro al alD h g;exact ⟨al,alD,h,g,⟨[],rfl⟩,λ_ _ h=>h⟩
 |cons o hs ih=>
  intro al alD h g;obtain ⟨t,W⟩:=o;simp only[Ys] at h;split at h
  ·rename_i i b v m y;split at h
   ·rename_i j l x Z z;split at h
    ·rename_i q;have q:=cO q;subst q;obtain ⟨A,E⟩:=Yt h;clear h;subst A;obtain ⟨p,G⟩:=ki y;obtain ⟨d,h1,K,_⟩:=g.rg t _ p G;have:=RT.c1 (by simp) K;subst this;have L:Ref ((t,.v (.c (.own j b x l.length)))::al) σ ((t,OS (aw j) b l.length)::alD) σD:=g.set g.hh (Ext.refl σ) (Or.inr rfl) ⟨_,z,λj' l' N O e=>by grind⟩;obtain ⟨f,a,S,T,⟨pre,g3⟩,U⟩:=ih _ _ E L;refine ⟨f,a,S,T,⟨pre++[(t,.v (.c (.own j b x l.length)))],by simp_all⟩,λs d hs=>?_⟩;have:=U s d hs;simp only[lk] at this;split at this
     ·rename_i u;have:=cO u
      grind [TC.er]
     ·exact this
    ·simp at h
   ·simp at h
  ·simp at h
theorem vz.lks{m:Nat}{al i:AL}{σ:ar}(hm:m<=σ.length)(h:∀t d,lk t i=some d->lk t al=some d):vz m al σ i σ:=⟨hm,λn M' Fz' w' j R A=>⟨M',Fz',R,⟨A.1,λt d o=>A.2 t d (h t d o)⟩,Jh.refl,λσ M Fz w _ E _=>E⟩⟩
end
end Go.Abs
end
section
namespace Go.Abs
noncomputable section
variable[Gl][Y:Ty]
def qy{R:Type}(al:TA)(σ:TH)(K:KC R)(r:R):mF->AL->ar->Prop:=λx b d=>∃a σ',Ref a σ' b d/\(∃pre,a=pre++al)/\Ext σ σ'/\K x a σ'=some r
theorem pS{hs:List (Nat×Nat)}{md:List Nat}{al pre:TA}{σ:TH}(h:I_ hs md al σ (pre++al)=true):∀y∈pre,y.1∈md∨∃b i l a d,(y.1,b)∈hs/\σ[b]? = some (.row i l a d):=by
 intro y f;unfold I_ at h;rw[AW,Nat.add_sub_cancel,List.take_left,iB] at h;have:=h y f;rw[gp,List.any_eq_true,List.any_eq_true] at this;rcases this with ⟨z,g,e⟩ | ⟨z,g,e⟩
 ·simp_all
 ·simp only[bG] at e
  grind [Nat.eq_of_beq_eq_true,rowAt]
theorem rL{h:JH}{md:List Nat}{al a:TA}{σ σ1:TH}{x:rB h.pl}(e:Og h md al σ a σ1=some x):I_ h.hs md al σ a=true/\eC (h.pl++Nj h.zs) 0 σ σ1=true/\WN a σ1 h.hs=true/\Yf σ.length σ1 h.zs=true/\Lk a σ1 h.pl=some x:=by
 unfold Og at e
 grind
theorem zD{σ aA:TH}(q:Ext σ aA)(t:aA.length=σ.length){b i d f:Nat}{l:List (TT i)}(h:aA[b]? = some (.row i l d f)):∃i l d f,σ[b]? = some (.row i l d f):=by
 have a:b<σ.length:=by grind
 obtain ⟨o,k,g⟩:=q b _ (eH a);rw[h] at k;simp only[au] at k;subst k;have r:σ[b]? = some σ[b]:=eH a;rw[r];cases p:σ[b] with
 |row i l d f=>simp_all
 |cells w u=>rw[p] at g;obtain ⟨_,_,e,_⟩:=g;simp at e
 |mp j st l v=>rw[p] at g;obtain ⟨_,_,_,_,e,_⟩:=g;simp at e
theorem qk(h:JH)(md:List Nat)(al:TA)(σ:TH)(x:rB h.pl):∃pre,dP h md al σ x=pre++al/\∀y∈pre,(∃c,Pl.r y.1 c∈h.pl)∨(∃b i l g j,(y.1,b)∈h.hs/\(cH h md al σ x)[b]? = some (.row i l g j))∨y.1∈md:=by
 obtain ⟨d,t,o,_⟩:=Gt md al;obtain ⟨e,u,k,_⟩:=Nh (r_ h.pl x σ) h.hs (GX md al);obtain ⟨f,v,p⟩:=Gy h.pl x (Oj (r_ h.pl x σ) h.hs (GX md al));refine ⟨f++(e++d),by grind [dP],λy a=>?_⟩;rcases mQ.1 a with a | a
 ·grind
 ·rcases mQ.1 a with a | a
  ·obtain ⟨b,i,l,g,j,q,r,_⟩:=k y a;exact .inr (.inl ⟨b,i,l,g,j,q,((MR h.zs (r_ h.pl x σ)).row b _ _ _ _).1 r⟩)
  grind
theorem EJ{h:JH}{md:List Nat}{al:TA}{σ:TH}{x:rB h.pl}(f:Ext σ (cH h md al σ x))(g:(cH h md al σ x).length=σ.length){t:Nat}{q:RV×Nat}(j:t∉md)(k:∀c,Pl.r t c∉h.pl)
  (o:∀b,(t,b)∈h.hs->∀i l a d,σ[b]?≠some (.row i l a d)) (p:iC t al=some q):iC t (dP h md al σ x)=some q:=by
 obtain ⟨pre,e,r⟩:=qk h md al σ x
 grind [qz,zD]
theorem Sem.ownC{P:Program}{n:Nat}{ac:aP}{Q:mF->AL->ar->Prop}{al:AL}{σ:ar}(b j aw:Nat)(cs:List D)(hb:σ[b]? = some (.cells cs))(hj:cs[j]? = some (.c (.lit (.slice none 0 0))))(h:Sem P ac n al (σ.set b (.cells (cs.set j (.sl σ.length 0 0 aw 0)))++[.cells []]) Q):Sem P ac n al σ Q:=by
 intro c hc M Fz w a K R A hK;have af:=(gg.1 hb).1;have cT:∀(i:Nat) E,σ[i]? = some E->∃G,(σ.set b (.cells (cs.set j (.sl σ.length 0 0 aw 0)))++[.cells []])[i]? = some G/\G.sz=E.sz:=λi E hi=>by
  have aa:=(gg.1 hi).1;rw[HI (by simp_all)];by_cases e:i=b
  ·grind [Ob.sz]
  grind
 have z:∀{d v},V σ M Fz w d v->V (σ.set b (.cells (cs.set j (.sl σ.length 0 0 aw 0)))++[.cells []]) M Fz w d v:=λh=>h.sub cT (λ_ _ h=>h) (λc h=>⟨h,rfl⟩) (λc u T fr h=>⟨u,h,rfl⟩);have ak:∀{E o},bU σ M Fz w E o->bU (σ.set b (.cells (cs.set j (.sl σ.length 0 0 aw 0)))++[.cells []]) M Fz w E o:=λ{E o} W=>by
  cases E with
  |cells cs=>obtain ⟨u,T,Z,hl,U⟩:=W;exact ⟨u,T,Z,hl,λi d v x y=>⟨z (U i d v x y).1,(U i d v x y).2⟩⟩
  |map es ab=>obtain ⟨u,Z,hl,U⟩:=W;exact ⟨u,Z,hl,λi k d n e x y=>let ⟨p,q,r⟩:=U i k d n e x y;⟨p,q,z r⟩⟩
  |gone n=>exact W.elim
 have R1:Rel (σ.set b (.cells (cs.set j (.sl σ.length 0 0 aw 0)))++[.cells []]) M Fz w:=by
  refine ⟨λb' c h=>?_,R.inj,R.fz,R.gl⟩;obtain ⟨h1,E,o,O,h3,W⟩:=R.blk b' c h;have aa:=(gg.1 O).1;by_cases e:b'=b
  ·subst e;rw[hb] at O;simp only[au] at O;subst O;refine ⟨h1,_,o,by rw[HI (by simp_all)];exact Gi hb,h3,?_⟩;obtain ⟨u,T,Z,hl,U⟩:=W;refine ⟨u,T,Z,by simp_all,λi d v x y=>?_⟩;by_cases ej:j=i
   ·subst ej;rw[yB7,if_pos rfl] at x;split at x
    ·simp only[au] at x;subst x;obtain ⟨v1,v2⟩:=U j _ v hj y;refine ⟨?_,v2⟩;rw[v1.bZ];exact .sl none 0 0 (by simp) (.cells []) (by simp_all) (by omega) (λ_=>.inl ⟨rfl,rfl,rfl,rfl,rfl,rfl⟩)
    simp_all
   grind
  grind
 have E1:bD σ M Fz w (σ.set b (.cells (cs.set j (.sl σ.length 0 0 aw 0)))++[.cells []]) M Fz w:={
  size:=cR _
  frame:=λ_ _ _=>rfl
  kK:=λb c h=>.inl ⟨b,h⟩
  fz:=λc h=>⟨h,rfl⟩
  nQ:=λc h=>.inl h
  pP:=λc u T fr h=>⟨u,h,rfl⟩
  keep:=λb E h=>let ⟨G,h1,O⟩:=cT b E h;⟨G,h1,Nat.le_of_eq O.symm,λ_=>rfl⟩
  out:=⟨rfl,rfl,rfl⟩ }
 have A1:eI n (σ.set b (.cells (cs.set j (.sl σ.length 0 0 aw 0)))++[.cells []]) M Fz w al a.tmps:=⟨A.1,λs d hs=>let ⟨v,h1,O⟩:=A.2 s d hs;⟨v,h1,z O⟩⟩;exact h c hc M Fz w a K R1 A1 λx ad σ' a' w' M' Fz' hQ hd R' A' E' hl=>hK x ad σ' a' w' M' Fz' hQ hd R' A' (E1.trans E' (by simp)) (by grind)
theorem JS{P:Program}{n:Nat}{ac:aP}{Q:mF->AL->ar->Prop}:∀(os:List (Nat×Nat))(al f:TA)(σ σ':TH)(alD:AL)(σD:ar),Ga os al σ=some (f,σ')->Ref al σ alD σD ->
  (∃pre,f=pre++al)/\Ext σ σ'/\((∀u y,Ref f σ' u y->Sem P ac n u y Q)->Sem P ac n alD σD Q):=by
 intro os;induction os with
 |nil=>intro al f σ σ' alD σD h a;simp only[Ga,au,aT] at h;obtain ⟨rfl,rfl⟩:=h;exact ⟨⟨[],rfl⟩,Ext.refl σ,λhs=>hs alD σD a⟩
 |cons o os ih=>
  intro al f σ σ' alD σD h a;obtain ⟨t,i⟩:=o;simp only[Ga] at h;split at h
  ·
   generalize (t-1048576) / 1024=b at h;generalize (t-1048576) % 1024=j at h;split at h
   ·rename_i w z E;split at h
    ·rename_i v0 hj;obtain ⟨ds,hd,_,_,W⟩:=a.hh.cells E;have aa:ds[j]? = some (.c (.lit (.slice none 0 0))):=by rw[W,lY,hj];rfl
     have O:BE (.cells w z) (.cells (w+1) (z.set j (w+1,.own i σ.length 0 0))):=⟨w+1,_,rfl,by omega,by simp,λk v x v1 G e L=>by grind⟩
     have G:Ext σ (σ.set b (.cells (w+1) (z.set j (w+1,.own i σ.length 0 0)))++[.row i [] 0 0]):=λg q e=>by
      obtain ⟨Z,L,N⟩:=Ext.set E O g q e
      grind
     have R:Ref al (σ.set b (.cells (w+1) (z.set j (w+1,.own i σ.length 0 0)))++[.row i [] 0 0]) alD (σD.set b (.cells (ds.set j (.sl σD.length 0 0 (aw i) 0)))++[.cells []]):=by
      refine ⟨⟨by simp[a.hh.len],λg q e=>?_,λg w' S e p A=>?_⟩,λt x p h=>?_⟩
      ·rcases si g σ.length with r | r
       ·rw[HI (by simp_all)] at e;rw[HI (by rw[W_,a.hh.len];exact r)];by_cases K:g=b
        ·subst K;rw[Gi E] at e;simp only[au] at e;subst e;refine ⟨_,Gi hd,?_⟩;show _=TB.er _;simp only[TB.er,Ob.cells.injEq];rw[List.map_set,W,a.hh.len];simp[TC.er,OS]
        ·rw[eL K] at e ⊢;exact a.hh.hp g q e
       ·rw[NG (by simp_all),W_] at e;rw[NG (by rw[W_,a.hh.len];exact r),W_,a.hh.len];have:g-σ.length=0:=by grind
        rw[this] at e ⊢;simp only[List.getElem?_cons_zero,au] at e;subst e;exact ⟨_,rfl,rfl⟩
      ·rcases si g σ.length with r | r
       ·rw[HI (by simp_all)] at e;by_cases K:g=b
        ·subst K;rw[Gi E] at e;simp only[au,TB.cells.injEq] at e;obtain ⟨rfl,rfl⟩:=e;rcases List.mem_or_eq_of_mem_set A with A | rfl
         ·obtain ⟨T,g2⟩:=a.hh.hg g w z E p A;exact ⟨T.mono G,by omega⟩
         ·refine ⟨⟨.row i [] 0 0,?_,λj l lv cv e=>?_⟩,cR _⟩
          ·simp_all
          grind
        ·rw[eL K] at e;obtain ⟨T,g2⟩:=a.hh.hg g w' S e p A;exact ⟨T.mono G,g2⟩
       grind
      ·obtain ⟨d,r,U,h3⟩:=a.rg t x p h;exact ⟨d,r,U,h3.mono G []⟩
     obtain ⟨⟨pre,L⟩,N,e3⟩:=ih _ _ _ _ _ _ h R;refine ⟨⟨pre,L⟩,Ext.trans a.hh G N,λhs=>?_⟩
     grind [Sem.ownC]
    ·grind
    simp_all
   simp_all
  split at h
  ·rename_i ht;obtain ⟨p,A⟩:=ki ht;obtain ⟨d,r,U,_⟩:=a.rg t _ p A;have:=RT.c1 (by simp) U;subst this;have R:Ref ((t,.v (.c (.own i σ.length 0 0)))::al) (σ++[.row i [] 0 0]) ((t,OS (aw i) σD.length 0)::alD) (σD++[.cells []]):=
    a.set (a.hh.push (blk:=.row i [] 0 0) (ob:=.cells []) rfl (λw z e=>by simp at e)) (Ext.push σ _) (Or.inr (by rw[a.hh.len];rfl)) (p_ (b:=0) rfl)
   obtain ⟨⟨pre,L⟩,N,e3⟩:=ih _ _ _ _ _ _ h R;refine ⟨⟨pre++[(t,.v (.c (.own i σ.length 0 0)))],by simp_all⟩,Ext.trans a.hh (Ext.push σ _) N,λhs=>?_⟩;exact Sem.own t (aw i) r (d:=OS (aw i) σD.length 0) (by simp[OS]) rfl (e3 hs)
  ·grind
  simp_all
theorem Sem.drwCQ{P:Program}{n:Nat}{al:AL}{σ:ar}{Q:mF->AL->ar->Prop}{orc:gj}{os:List aH}{k:Nat}{i:List Nat}{p:Nat}(j:P.follows .mixedOrders=true)(O:nP P orc)
  (h:cd P orc (UV os) os n al σ λu σ' o=>(eR i o&&mh i p (UV os) os.length&&Nat.ble p (UV os))=true/\Q .normal u σ'):Sem P (.HO os i k p) n al σ Q:=by
 obtain ⟨G,σ1,o,h,hp,U⟩:=h;intro c W M Fz w a K R A Z;obtain ⟨e',h1,h2⟩:=h _ A.c_.2;have aa:∀m r,jO P orc os i p m (xC n al) σ=some r->r=(e',σ1,o.flatMap (·.wr)):=by
  intro m r z;unfold jO at z;split at z
  ·rename_i e2 aA ab E;have:=LS _ _ _ _ _ _ _ E h1
   simp_all
  simp_all
 have E:jO P orc os i p (UV os) (xC n al) σ=some (e',σ1,o.flatMap (·.wr)):=by
  unfold jO
  simp_all
 have h4:kr P orc 1 (.HO os i k p) (xC n al) σ []=some (.normal,e',σ1,o.flatMap (·.wr)++[]):=by grind [kr]
 have:Sem P (.HO os i k p) n al σ Q:=Sem.Do j O (k:=1) (wr:=[]) (e:=xC n al) (e':=e') (x:=.normal) (σ':=σ1) h4 rfl h2 U;exact this c W M Fz w a K R A Z
theorem Wa(g:NK)(dx:g.P.follows .mixedOrders=true)(hT:fh g.P g.S)(hI:Vs g){R:Type}:∀(ac:aP)(q:Nat)(al:TA)(σ:TH)(K:KC R)(r:R)(alD:AL)(σD:ar),tC g ac q al σ K=some r->Ref al σ alD σD ->
  Sem g.P ac g.n alD σD (qy al σ K r):=by
 have O:tV g.P (CN (Hm g.S)):=nN (Oe hT);intro ac;induction ac with
 |skip=>intro q al σ K r alD σD h S;exact Sem.skip dx ⟨al,σ,S,⟨[],rfl⟩,Ext.refl σ,h⟩
 |exit id=>intro q al σ K r alD σD h S;exact Sem.exit dx ⟨al,σ,S,⟨[],rfl⟩,Ext.refl σ,h⟩
 |ret=>intro q al σ K r alD σD h S;exact Sem.ret dx ⟨al,σ,S,⟨[],rfl⟩,Ext.refl σ,h⟩
 |stuck=>grind [tC]
 |ZK l=>intro q al σ K r alD σD h S;exact Sem.ZK ⟨al,σ,S,⟨[],rfl⟩,Ext.refl σ,h⟩
 |U_ l a rr bb b1=>
  intro q al σ K r alD σD h S;have ev:∀{i:Nat},Nat.beq (i % 2) 0=true->i % 2=0:=λh=>cO h;simp only[tC] at h;split at h
  ·
   refine Sem.U_ 1 ((bb _ _ _ _ _ alD σD h S).eT λex bi a1 hP=>.inl ?_);obtain ⟨T,σ1,W,⟨pre,e1⟩,Z,N⟩:=hP;cases ex with
   |normal=>exact ⟨T,σ1,W,⟨pre,e1⟩,Z,N⟩
   |ret=>exact ⟨T,σ1,W,⟨pre,e1⟩,Z,N⟩
   |exit i=>
    dsimp only at N;split at N
    ·rename_i hi;refine .inl ⟨cO hi,bi,a1,vz.refl (by rw[S.hh.len,W.hh.len];exact Z.len),TQ.succ ((b1 _ _ _ _ _ bi a1 N W).eT λex E G hP=>.inl ?_)⟩;obtain ⟨ak,aA,g1,⟨ad,e2⟩,g3,g4⟩:=hP;have fin:∀{ex:mF},K ex ak aA=some r->qy al σ K r ex E G:=λg4=>⟨ak,aA,g1,⟨ad++pre,by simp_all⟩,Ext.trans S.hh Z g3,g4⟩;cases ex with
     |normal=>exact fin g4
     |ret=>exact fin g4
     |exit i=>
      dsimp only at g4;split at g4
      ·rename_i he;exact .inr ⟨ev he,fin g4⟩
      simp_all
    ·split at N
     ·rename_i he;exact .inr ⟨ev he,T,σ1,W,⟨pre,e1⟩,Z,N⟩
     simp_all
  ·
   rename_i U hJ;have be:∀(k:Nat)(x:rB U.pl)(E:AL)(G:ar),Ext σ (cH U (dJ a++dJ rr) al σ x)->HS (U.pl++Nj U.zs) σ (cH U (dJ a++dJ rr) al σ x)->(cH U (dJ a++dJ rr) al σ x).length=σ.length->Ref (dP U (dJ a++dJ rr) al σ x) (cH U (dJ a++dJ rr) al σ x) E G ->
     bB (λrec x=>tC g rr (2 * q+1) (dP U (dJ a++dJ rr) al σ x) (cH U (dJ a++dJ rr) al σ x) λex T σ1=>match ex with
      |.exit i => match Nat.beq i (2 * l + 1) with
       |true=>match Fx U (dJ a++dJ rr) (dP U (dJ a++dJ rr) al σ x) (cH U (dJ a++dJ rr) al σ x) T σ1 with | some x'=>rec x' | none=>none
       |false=>match Nat.beq (i % 2) 0 with | true=>K (.exit i) T σ1 | false=>none
      |ex=>K ex T σ1) k x=some r->TQ g.P rr l k g.n E G (qy al σ K r):=by
    intro k;induction k with
    |zero=>grind [bB]
    |succ k bh=>
     intro x E G x1 x2 x3 x4 h;have B:=b1 _ _ _ _ _ E G (show tC g rr (2 * q+1) (dP U (dJ a++dJ rr) al σ x) (cH U (dJ a++dJ rr) al σ x) _=some r from h) x4;refine TQ.succ (B.eT λex a2 a5 hP=>.inl ?_);obtain ⟨T,σ1,W,⟨pre,rfl⟩,Z,N⟩:=hP;obtain ⟨an,eA,_⟩:=qk U (dJ a++dJ rr) al σ x;have fin:∀{ex:mF},K ex (pre++dP U (dJ a++dJ rr) al σ x) σ1=some r->qy al σ K r ex a2 a5:=λN=>⟨_,σ1,W,⟨pre++an,by simp_all⟩,Ext.trans S.hh x1 Z,N⟩;cases ex with
     |normal=>exact fin N
     |ret=>exact fin N
     |exit i=>
      dsimp only at N;split at N
      ·rename_i hi;split at N
       ·rename_i xv hx;obtain ⟨ad,aA,bk,bl,w1,bv,bw,hx⟩:=zB x4 W Z hx;obtain ⟨d1,d2,d3,d5,d4⟩:=rL hx;have ax:=pS d1;obtain ⟨f1,f2,f3,a0,av,f4,f5⟩:=rk (md:=dJ a++dJ rr) S bv (λt q h=>by rw[eA,<-BM];exact yX h)
         (λt q m1 m2 m3 h=>qz (λy hy e=>(ax y hy).elim (λz=>m1 (e▸z)) λ⟨b,i,l,lv,cv,z1,z2⟩=>let ⟨i,l,lv,cv,z3⟩:=zD x1 x3 z2;m3 b (e▸z1) i l lv cv z3) (EJ x1 x3 m1 m2 m3 h)) (x2.trans (zdo x4.hh d2 bw)) d3 (by simp_all) d4
        refine .inl ⟨cO hi,a0,av,?_,bh xv a0 av f1 f2 f3 f5 N⟩;rw[x4.hh.len,x3];rw[x3] at w1;exact w1.trans f4
       simp_all
      ·split at N
       ·rename_i he;exact .inr ⟨ev he,fin N⟩
       simp_all
   refine Sem.U_ g.N ((bb _ _ _ _ _ alD σD h S).eT λex bi a1 hP=>.inl ?_);obtain ⟨T,σ1,W,⟨pre,rfl⟩,Z,N⟩:=hP;have fin:∀{ex:mF},K ex (pre++al) σ1=some r->qy al σ K r ex bi a1:=λN=>⟨_,σ1,W,⟨pre,rfl⟩,Z,N⟩;cases ex with
   |normal=>exact fin N
   |ret=>exact fin N
   |exit i=>
    dsimp only at N;split at N
    ·rename_i hi;split at N
     ·grind
     ·rename_i x0 hx;obtain ⟨ad,aA,bk,bl,w1,bv,bw,hx⟩:=zB S W Z hx;obtain ⟨d1,d2,d3,d5,d4⟩:=rL hx;have ax:=pS d1;obtain ⟨f1,f2,f3,a0,av,f4,f5⟩:=rk (md:=dJ a++dJ rr) S bv (λt q h=>yX h)
       (λt q m1 _ m3 h=>qz (λy hy e=>(ax y hy).elim (λz=>m1 (e▸z)) λ⟨b,i,l,lv,cv,z1,z2⟩=>m3 b (e▸z1) i l lv cv z2) h) (zdo S.hh d2 bw) d3 d5 d4
      refine .inl ⟨cO hi,a0,av,?_,be g.N x0 a0 av f1 f2 f3 f5 N⟩;rw[S.hh.len];exact w1.trans f4
    ·split at N
     ·rename_i he;exact .inr ⟨ev he,fin N⟩
     simp_all
 |BZ os=>
  intro q al σ K r alD σD h S;simp only[tC] at h;split at h
  ·split at h
   ·rename_i hU;obtain ⟨oz,o1,_,o3⟩:=vW g q O hI 1000 0 os [] al σ _ r alD σD h (vG hU) S (λp b hk=>by grind [Az]) (λp b hk=>by grind [Az]);refine Sem.qE dx o1 (o3.mono λa s i hA=>?_);obtain ⟨af,σ',is,W,h2,Z,_,N⟩:=hA;exact ⟨af,σ',W,h2,Z,N⟩
   simp_all
  ·rename_i U hJ;split at h
   ·rename_i L u hz hU;obtain ⟨⟨a6,eZ⟩,xZ,sZ⟩:=frzz_ok (P:=g.P) (n:=g.n) (ac:=.BZ os) (Q:=qy al σ K r) U.os al L σ u alD σD hz S;refine sZ λbd a7 a9=>?_;obtain ⟨oz,o1,_,o3⟩:=vW g q O hI 1000 0 os [] L u _ r bd a7 h (vG hU) a9 (λp b hk=>by grind [Az]) (λp b hk=>by grind [Az]);refine Sem.eT (Sem.qE (Q:=λx aa ab=>x=.normal/\aI L u (λaf σ' _=>Ys U.hs af σ' λaf=>K .normal af σ') r aa ab []) dx o1 (o3.mono λa s i hA=>⟨rfl,?_⟩)) λx aa ab hA=>.inr ?_
    ·obtain ⟨af,σ',is,W,h2,Z,h5,N⟩:=hA;exact ⟨af,σ',[],W,h2,Z,.nil,N⟩
    ·obtain ⟨rfl,af,σ',is,W,⟨pre,e1⟩,Z,_,N⟩:=hA;obtain ⟨ak,E,g1,g2,⟨ad,e2⟩,g4⟩:=refr_ok U.hs af aa N W;exact ⟨E,ab,vz.lks (by rw[a9.hh.len,W.hh.len];exact Z.len) g4,ak,σ',g2,⟨ad++(pre++a6),by simp_all⟩,Ext.trans S.hh xZ Z,g1⟩
   ·simp at h
 |HO os co k p=>
  intro q al σ K r alD σD h S;simp only[tC] at h;split at h
  ·simp at h
  rename_i hU;split at h
  ·obtain ⟨oz,o1,_,o3⟩:=vW g q O hI 1000 os.length os [] al σ _ r alD σD h (vG hU) S (λp b hk=>by grind [Az]) (λp b hk=>by grind [Az]);refine Sem.drwNQ dx o1 (o3.mono λa s i hA=>?_);obtain ⟨af,σ',is,W,h2,Z,h5,N⟩:=hA;dsimp only at N;split at N
   ·rename_i hc;simp only[bG] at hc ⊢;exact ⟨⟨⟨rz h5 hc.1.1,hc.1.2⟩,hc.2⟩,af,σ',W,h2,Z,N⟩
   simp_all
  split at h
  ·rename_i pi _ n0 hl;split at h
   ·rename_i hc;obtain ⟨oz,o1,_,o3⟩:=vW g q O hI 1000 n0 (oj pi os) [] al σ _ r alD σD h (vG hc) S (λp b hk=>by grind [Az]) (λp b hk=>by grind [Az]);refine Sem.drwG dx o1 hl (o3.mono λa s i hA=>?_);obtain ⟨af,σ',is,W,h2,Z,h5,N⟩:=hA;dsimp only at N;split at N
    ·rename_i hc;exact ⟨Te h5 hc,af,σ',W,h2,Z,N⟩
    simp_all
   simp_all
  split at h
  ·obtain ⟨oz,o1,_,o3⟩:=vW g q O hI 1000 (UV os) os [] al σ _ r alD σD h (vG hU) S (λp b hk=>by grind [Az]) (λp b hk=>by grind [Az]);refine Sem.drwCQ dx o1 (o3.mono λa s i hA=>?_);obtain ⟨af,σ',is,W,h2,Z,h5,N⟩:=hA;dsimp only at N;split at N
   ·rename_i hc;simp only[bG] at hc ⊢;exact ⟨⟨⟨rz h5 hc.1.1,hc.1.2⟩,hc.2⟩,af,σ',W,h2,Z,N⟩
   simp_all
  ·obtain ⟨oz,o1,_,o3⟩:=vW g q O hI 1000 k os [] al σ _ r alD σD h (vG hU) S (λp b hk=>by grind [Az]) (λp b hk=>by grind [Az]);refine Sem.drwQ dx o1 (o3.mono λa s i hA=>?_);obtain ⟨af,σ',is,W,h2,Z,h5,N⟩:=hA;dsimp only at N;split at N
   ·rename_i hc;simp only[bG] at hc ⊢;exact ⟨⟨⟨rz h5 hc.1.1,hc.1.2⟩,hc.2⟩,af,σ',W,h2,Z,N⟩
   simp_all
 |seq a b bb a8=>
  intro q al σ K r alD σD h S;simp only[tC] at h;split at h
  ·
   have A:=bb _ _ _ _ _ alD σD h S;refine Sem.jT (A.eT λx aa ab hP=>.inl ?_);obtain ⟨T,σ1,W,⟨pre,rfl⟩,Z,N⟩:=hP;cases x with
   |normal=>refine .inl ((a8 _ _ _ _ _ aa ab N W).eT λx E G hP=>.inl ?_);obtain ⟨ak,aA,g1,⟨ad,rfl⟩,g3,g4⟩:=hP;exact ⟨_,aA,g1,⟨ad++pre,by simp_all⟩,Ext.trans S.hh Z g3,g4⟩
   |exit i=>exact ⟨_,σ1,W,⟨pre,rfl⟩,Z,N⟩
   |ret=>exact ⟨_,σ1,W,⟨pre,rfl⟩,Z,N⟩
  ·
   rename_i U hJ;split at h
   ·simp at h
   rename_i L u hz;obtain ⟨⟨a6,eZ⟩,xZ,sZ⟩:=JS (P:=g.P) (n:=g.n) (ac:=.seq a b) (Q:=qy al σ K r) U.os al L σ u alD σD hz S;refine sZ λbd a7 a9=>?_;have back:∀{x:mF}{aa:AL}{ab:ar},qy L u K r x aa ab->qy al σ K r x aa ab:=λ⟨T,σ1,W,⟨pre,e⟩,Z,N⟩=>⟨T,σ1,W,⟨pre++a6,by simp_all⟩,Ext.trans S.hh xZ Z,N⟩;refine Sem.eT ?_ (λx af σ' hP=>.inl (back hP));clear back sZ xZ eZ;replace S:=a9;have A:=bb _ _ _ _ _ bd a7 (show tC g a (2 * q) L u _=some r from h) S;refine Sem.jT (A.eT λx aa ab hP=>.inl ?_);obtain ⟨T,σ1,W,⟨pre,rfl⟩,Z,N⟩:=hP;cases x with
   |normal=>
    dsimp only at N;split at N
    ·rename_i xv hx;obtain ⟨pre,σ1,aa,ab,w1,W,Z,hx⟩:=zB S W Z hx;obtain ⟨c1,c2,c3,c5,c4⟩:=rL hx;have ax:=pS c1;obtain ⟨e1,_,e3,E,G,e4,e5⟩:=rk (md:=dJ a) S W (λt q h=>yX h) (λt q hm _ m3 h=>qz (λy hy e=>(ax y hy).elim (λz=>hm (e▸z)) λ⟨b,i,l,lv,cv,z1,z2⟩=>m3 b (e▸z1) i l lv cv z2) h) (zdo S.hh c2 Z) c3 c5 c4;refine .inr ⟨E,G,by rw[S.hh.len];exact w1.trans e4,(a8 _ _ _ _ _ E G N e5).eT λx a2 a5 hP=>.inl ?_⟩;obtain ⟨ak,aA,g1,⟨ad,rfl⟩,g3,g4⟩:=hP;obtain ⟨an,eA,_⟩:=qk U (dJ a) L u xv;exact ⟨_,aA,g1,⟨ad++an,by simp_all⟩,Ext.trans S.hh e1 g3,g4⟩
    simp_all
   |exit i=>exact ⟨_,σ1,W,⟨pre,rfl⟩,Z,N⟩
   |ret=>exact ⟨_,σ1,W,⟨pre,rfl⟩,Z,N⟩
 |UR o ps a b bb a8=>
  intro q al σ K r alD σD h S;simp only[tC] at h;split at h
  ·simp at h
  rename_i U hJ;split at h
  ·simp at h
  rename_i L u hz;obtain ⟨⟨a6,eZ⟩,xZ,sZ⟩:=JS (P:=g.P) (n:=g.n) (ac:=.UR o ps a b) (Q:=qy al σ K r) U.os al L σ u alD σD hz S;refine sZ λbd a7 a9=>?_;have back:∀{x:mF}{aa:AL}{ab:ar},qy L u K r x aa ab->qy al σ K r x aa ab:=λ⟨T,σ1,W,⟨pre,e⟩,Z,N⟩=>⟨T,σ1,W,⟨pre++a6,by simp_all⟩,Ext.trans S.hh xZ Z,N⟩;refine Sem.eT ?_ (λx af σ' hP=>.inl (back hP));clear back sZ xZ eZ;replace S:=a9;clear a9 hz;split at h
  ·rename_i x0 p b0;obtain ⟨_,c2,c3,c5,c4⟩:=rL b0;obtain ⟨e1,e2,e3,E,G,e4,e5⟩:=rk (md:=[]) S S (λt q h=>⟨q,h⟩) (λt q _ _ _ h=>h) (zdo S.hh c2 (Ext.refl u)) c3 c5 c4;have hr:dk (cH U [] L u x0) E (FG (dP U [] L u x0) [] none):=ng e5 (λp b hk=>by grind [Az]) (by simp);split at h
   ·rename_i gf bc hc;obtain ⟨b5,_⟩:=hr.c hc (by simp);split at h
    ·rename_i w0 v0 i l s b6 b7 hb;simp only[bG] at hb;obtain ⟨hp,b8,b2⟩:=hb;have NM:=hT.iter b7;unfold itF at h;split at h
     ·rename_i i' j f;split at h
      ·rename_i l' b9;obtain ⟨rfl,rfl⟩:=Rt b9;cases hf:f (l',()) with
       |none=>dsimp only at h;rw[hf] at h;simp at h
       |some items=>
       dsimp only at h;rw[hf] at h;simp only[Option.bind_some] at h;have cg:=NM l' items hf;have b3:∀{σ1:TH}{a1:ar},RH σ1 a1->HS (U.pl++Nj U.zs) u σ1->a1[bc]? = some (.cells [.c (.cB false (l'.map (enc i)))]):=λ{σ1 a1} H hs=>by
        obtain ⟨cm,g1,w1,ch,rfl,g2,g3⟩:=hs bc _ b6;cases ch with
        |nil=>simp at g2
        |cons y ys=>
         have:ys=[]:=VI (by simpa using g2);subst this;have:=g3 0 _ _ rfl rfl λc hm=>by have:=iB.1 b2 _ hm;simp at this
         subst this;obtain ⟨ob,o1,o2⟩:=H.hp bc _ g1;rw[o1,show ob=_ from o2];rfl
       have be:∀(items:List (TT j))(x:rB U.pl)(E:AL)(G:ar),Ext u (cH U [] L u x)->HS (U.pl++Nj U.zs) u (cH U [] L u x)->(cH U [] L u x).length=u.length->Ref (dP U [] L u x) (cH U [] L u x) E G ->
         ZC (λy x rec=>tC g a (2 * q) ((p,.v (.agg (exp j y)))::dP U [] L u x) (cH U [] L u x) λex T σ1=>match ex with
          |.normal => tC g b (2 * q + 1) T σ1 λex _ aA => match ex with
           |.normal=>match Fx U [] (dP U [] L u x) (cH U [] L u x) (dP U [] L u x) aA with | some x'=>rec x' | none=>none
           |ex=>K ex (dP U [] L u x) aA
          |_=>none) (λx=>K .normal (dP U [] L u x) (cH U [] L u x)) items x=some r ->
         Rng g.P a b g.n [p] bc (.cB false (l'.map (enc i))) a7.length (qy L u K r) (items.map λa=>[ST (enc j a)]) E G:=by
        intro items;induction items with
        |nil=>intro x E G x1 x2 x3 x4 h;obtain ⟨an,eA,_⟩:=qk U [] L u x;exact ⟨⟨b3 x4.hh x2,by rw[x4.hh.len,x3,S.hh.len]⟩,_,_,x4,⟨an,eA⟩,x1,h⟩
        |cons y items bh=>
         intro x E G x1 x2 x3 x4 h;obtain ⟨an,eA,_⟩:=qk U [] L u x;refine ⟨⟨b3 x4.hh x2,by rw[x4.hh.len,x3,S.hh.len]⟩,?_⟩;have R1:Ref ((p,.v (.agg (exp j y)))::dP U [] L u x) (cH U [] L u x) (KZ [p] [ST (enc j y)] E) G:=x4.set x4.hh (Ext.refl _) (de.ER (.st j) y) (Cs (.st j) y);refine (bb _ _ _ _ _ _ G (show tC g a (2 * q) ((p,.v (.agg (exp j y)))::dP U [] L u x) (cH U [] L u x) _=some r from h) R1).eT λex a2 a5 hP=>.inl ?_;obtain ⟨T,σ1,W,_,Z,N⟩:=hP;cases ex with
         |normal=>
          refine ⟨rfl,(a8 _ _ _ _ _ a2 a5 (show tC g b (2 * q+1) T σ1 _=some r from N) W).eT λex a0 av hP=>.inl ?_⟩;obtain ⟨ak,aA,g1,_,g3,g4⟩:=hP;have x5:Ext (cH U [] L u x) aA:=Ext.trans x4.hh Z g3;have R4:Ref (dP U [] L u x) aA E av:=⟨g1.hh,λt v q hq=>let ⟨d,m1,m2,m3⟩:=x4.rg t v q hq;⟨d,m1,m2,m3.mono x5 []⟩⟩;cases ex with
          |normal=>
           dsimp only at g4;split at g4
           ·rename_i xv hx;obtain ⟨pre,cp,bk,bl,w1,k1,k3,hx⟩:=zB (pre:=[]) x4 R4 x5 hx;obtain ⟨d1,d2,d3,d5,d4⟩:=rL hx;have ax:=pS d1;obtain ⟨f1,f2,f3,bt,bu,f4,f5⟩:=rk (md:=[]) S k1 (λt q h=>by rw[eA,<-BM];exact yX h)
             (λt q m1 m2 m3 h=>qz (λy hy e=>(ax y hy).elim (λz=>m1 (e▸z)) λ⟨b,i,l,lv,cv,z1,z2⟩=>let ⟨i,l,lv,cv,z3⟩:=zD x1 x3 z2;m3 b (e▸z1) i l lv cv z3) (EJ x1 x3 m1 m2 m3 h)) (x2.trans (zdo x4.hh d2 k3)) d3 (by simp_all) d4
            exact ⟨bt,bu,by rw[S.hh.len];rw[x3] at w1;exact w1.trans f4,bh xv bt bu f1 f2 f3 f5 g4⟩
           simp_all
          |exit i=>exact ⟨_,aA,R4,⟨an,eA⟩,Ext.trans S.hh x1 x5,g4⟩
          |ret=>exact ⟨_,aA,R4,⟨an,eA⟩,Ext.trans S.hh x1 x5,g4⟩
         |exit i=>simp at N
         |ret=>simp at N
       have ck:a7.length=G.length:=by rw[e5.hh.len,e3,S.hh.len]
       refine Sem.preW (by rw[S.hh.len];exact e4) (Sem.UR (al:=E) (σ:=G) (by cases o <;> exact b5) b8 cg (λds hd=>?_) (λp' b4=>?_) (ck▸be items x0 E G e1 e2 e3 e5 h))
       ·obtain ⟨y,_,rfl⟩:=iT.1 hd;rfl
       ·simp only[Bl] at b4;subst b4;exact tM.mp hp
      ·simp at h
     ·simp at h
    ·simp at h
   ·simp at h
  ·simp at h
 |cond c a b bb a8=>
  intro q al σ K r alD σD h S;simp only[tC] at h;have hr:dk σ alD (FG al [] none):=ng S (λp b hk=>by grind [Az]) (by simp);split at h
  ·rename_i hc;obtain ⟨W,_⟩:=hr.c hc (by simp);exact Sem.cond (b:=true) (by cases c <;> exact W) (λ_=>bb _ _ _ _ _ alD σD h S) (λe=>by simp at e)
  ·rename_i hc;obtain ⟨W,_⟩:=hr.c hc (by simp);exact Sem.cond (b:=false) (by cases c <;> exact W) (λe=>by simp at e) (λ_=>a8 _ _ _ _ _ alD σD h S)
  ·rename_i e hc;obtain ⟨W,_⟩:=hr.c hc (by simp);refine Sem.cond (b:=e) (by cases c <;> exact W) (λhe=>?_) (λhe=>?_)
   ·grind
   grind
  simp_all
 |block id b a8=>
  intro q al σ K r alD σD h S;simp only[tC] at h;refine Sem.block ((a8 _ _ _ _ _ alD σD h S).eT λx aa ab hP=>.inl ⟨_,_,.refl,?_⟩);obtain ⟨T,σ1,W,h2,Z,N⟩:=hP;cases x with
  |normal=>exact ⟨T,σ1,W,h2,Z,N⟩
  |ret=>exact ⟨T,σ1,W,h2,Z,N⟩
  |exit i=>
   dsimp only at N;refine ⟨λe=>?_,λe=>?_⟩
   ·subst e;have:Nat.beq i i=true:=by simp
    rw[this] at N;exact ⟨T,σ1,W,h2,Z,N⟩
   ·have:Nat.beq i id=false:=by
     grind [Nat.eq_of_beq_eq_true]
    rw[this] at N;exact ⟨T,σ1,W,h2,Z,N⟩
 |loop b a8=>
  intro q al σ K r alD σD h S;simp only[tC] at h;split at h
  ·simp at h
  ·rename_i U hJ;split at h
   ·rename_i nu hu;refine Sem.loop nu ?_;have be:∀(k:Nat)(ak:TA)(aA:TH)(E:AL)(G:ar),(∃pre,ak=pre++al)->Ext σ aA->Ref ak aA E G ->
      lpU (λrec al σ=>tC g b (2 * q) al σ λex T σ1=>match ex with | .normal=>rec T σ1 | ex=>K ex T σ1) k ak aA=some r->lO g.P b k g.n E G (qy al σ K r):=by
     intro k;induction k with
     |zero=>grind [lpU]
     |succ k bh=>
      intro ak aA E G x1 x2 x4 h;have B:=a8 _ _ _ _ _ E G (show tC g b (2 * q) ak aA _=some r from h) x4;refine lO.succ (B.eT (Q':=λx T σ1=>match x with | .normal=>∃ak aA,Wk G.length T σ1 ak aA/\lO g.P b k g.n ak aA (qy al σ K r) | x=>∃ak aA,Wk G.length T σ1 ak aA/\qy al σ K r x ak aA) λex a2 a5 hP=>.inl ?_);obtain ⟨T,σ1,W,⟨pre,rfl⟩,Z,N⟩:=hP;obtain ⟨ad,rfl⟩:=x1;cases ex with
      |normal=>exact ⟨_,_,.refl,bh _ _ _ _ ⟨pre++ad,by simp_all⟩ (Ext.trans S.hh x2 Z) W N⟩
      |exit i=>exact ⟨_,_,.refl,_,σ1,W,⟨pre++ad,by simp_all⟩,Ext.trans S.hh x2 Z,N⟩
      |ret=>exact ⟨_,_,.refl,_,σ1,W,⟨pre++ad,by simp_all⟩,Ext.trans S.hh x2 Z,N⟩
    exact be nu al σ alD σD ⟨[],rfl⟩ (Ext.refl σ) S h
   split at h
   ·simp at h
   rename_i L u hz;obtain ⟨⟨a6,eZ⟩,xZ,sZ⟩:=JS (P:=g.P) (n:=g.n) (ac:=.loop b) (Q:=qy al σ K r) U.os al L σ u alD σD hz S;refine sZ λbd a7 a9=>?_;have back:∀{x:mF}{aa:AL}{ab:ar},qy L u K r x aa ab->qy al σ K r x aa ab:=λ⟨T,σ1,W,⟨pre,e⟩,Z,N⟩=>⟨T,σ1,W,⟨pre++a6,by simp_all⟩,Ext.trans S.hh xZ Z,N⟩;refine Sem.eT ?_ (λx af σ' hP=>.inl (back hP));clear back sZ xZ eZ;replace S:=a9;clear a9 hz;split at h
   ·
    simp at h
   split at h
   ·simp at h
   ·rename_i x0 b0;obtain ⟨_,c2,c3,c5,c4⟩:=rL b0;obtain ⟨e1,e2,e3,E,G,e4,e5⟩:=rk (md:=dJ b) S S (λt q h=>⟨q,h⟩) (λt q _ _ _ h=>h) (zdo S.hh c2 (Ext.refl u)) c3 c5 c4;refine Sem.loop g.N (lO.preW (by rw[S.hh.len];exact e4) ?_);have be:∀(k:Nat)(x:rB U.pl)(E:AL)(G:ar),Ext u (cH U (dJ b) L u x)->HS (U.pl++Nj U.zs) u (cH U (dJ b) L u x)->(cH U (dJ b) L u x).length=u.length->Ref (dP U (dJ b) L u x) (cH U (dJ b) L u x) E G ->
      bB (λrec x=>tC g b (2 * q) (dP U (dJ b) L u x) (cH U (dJ b) L u x) λex T σ1=>match ex with
       |.normal=>match Fx U (dJ b) (dP U (dJ b) L u x) (cH U (dJ b) L u x) T σ1 with | some x'=>rec x' | none=>none
       |ex=>K ex T σ1) k x=some r->lO g.P b k g.n E G (qy L u K r):=by
     intro k;induction k with
     |zero=>grind [bB]
     |succ k bh=>
      intro x E G x1 x2 x3 x4 h;have B:=a8 _ _ _ _ _ E G (show tC g b (2 * q) (dP U (dJ b) L u x) (cH U (dJ b) L u x) _=some r from h) x4;refine lO.succW (B.eT λex a2 a5 hP=>.inl ?_);obtain ⟨T,σ1,W,⟨pre,rfl⟩,Z,N⟩:=hP;obtain ⟨an,eA,_⟩:=qk U (dJ b) L u x;cases ex with
      |normal=>
       dsimp only at N;split at N
       ·rename_i xv hx;obtain ⟨pre,σ1,a2,a5,w1,W,Z,hx⟩:=zB x4 W Z hx;obtain ⟨d1,d2,d3,d5,d4⟩:=rL hx;have ax:=pS d1;obtain ⟨f1,f2,f3,a0,av,f4,f5⟩:=rk (md:=dJ b) S W (λt q h=>by rw[eA,<-BM];exact yX h)
         (λt q m1 m2 m3 h=>qz (λy hy e=>(ax y hy).elim (λz=>m1 (e▸z)) λ⟨b,i,l,lv,cv,z1,z2⟩=>let ⟨i,l,lv,cv,z3⟩:=zD x1 x3 z2;m3 b (e▸z1) i l lv cv z3) (EJ x1 x3 m1 m2 m3 h)) (x2.trans (zdo x4.hh d2 Z)) d3 (by simp_all) d4
        exact ⟨a0,av,by rw[x4.hh.len,x3];rw[x3] at w1;exact w1.trans f4,bh xv a0 av f1 f2 f3 f5 N⟩
       simp_all
      |exit i=>exact ⟨_,σ1,W,⟨pre++an,by simp_all⟩,Ext.trans S.hh x1 Z,N⟩
      |ret=>exact ⟨_,σ1,W,⟨pre++an,by simp_all⟩,Ext.trans S.hh x1 Z,N⟩
    exact be g.N x0 E G e1 e2 e3 e5 h
theorem zip_ok:∀(cs:List de)(a:tf cs)(i t:Nat)(x:RV)(p:Nat),iC t (AK i (tvV cs a))=some (x,p)->∃d v,x=.v v/\lk t (ke i (sJ cs a))=some d/\RT v d/\GV [] v:=by
 intro cs;induction cs with
 |nil=>grind [tvV,AK,iC]
 |cons c cs ih=>
  intro a i t x p h;simp only[tvV,AK,iC] at h;simp only[sJ,ke,lk];split at h
  ·rename_i b;simp only[au,aT] at h
   try rw[b]
   exact ⟨_,_,h.1.symm,rfl,c.ER a.1,Cs c a.1⟩
  simp_all
theorem Vu:∀(cs:List de)(a:tf cs),(sJ cs a).length=cs.length:=by
 intro cs;induction cs with
 |nil=>intro a;rfl
 |cons c cs ih=>grind [sJ]
theorem resT_ok{al:TA}{σ:TH}{alD:AL}{σD:ar}(e:Ref al σ alD σD){q:Nat×Option (Option Nat)}{v:TV}(h:FV al σ q=some v):∃d,pF alD σD q=some d/\RT v d/\GV σ v:=by
 obtain ⟨t,o⟩:=q;cases o with
 |none=>
  simp only[FV] at h;split at h
  ·rename_i x f;simp only[au] at h;subst h;obtain ⟨p,a⟩:=ki f;obtain ⟨d,g,i,j⟩:=e.rg t _ p a;exact ⟨d,g,i,j⟩
  simp_all
 |some m=>
  simp only[FV] at h;split at h
  ·rename_i b off sz f;obtain ⟨p,a⟩:=ki f;obtain ⟨d,g,i,_⟩:=e.rg t _ p a;have:=RT.c1 (by simp) i;subst this;split at h
   ·rename_i w r k;obtain ⟨ds,j,u,E,_⟩:=e.hh.cells k;split at h
    ·rename_i hs;obtain ⟨d,z,A⟩:=yV h u;refine ⟨d,?_,A,qD h λy l=>?_⟩
     ·simp only[pF,g,TC.er];rw[PE j (sz:=sz) (by simp_all),aD];exact z
     ·rw[iT] at l;obtain ⟨p,a,rfl⟩:=l;exact (e.hh.hg b w r k p a).1
    simp_all
   simp_all
  simp_all
theorem Jy{al:TA}{σ:TH}{alD:AL}{σD:ar}(f:Ref al σ alD σD):∀{e:List (Nat×Option (Option Nat))}{vs:List TV},FC (FV al σ) e=some vs->∃ds,e.mapM (pF alD σD)=some ds/\fG vs ds/\∀v∈vs,GV σ v:=by
 intro e;induction e with
 |nil=>intro vs h;simp only[FC,au] at h;subst h;exact ⟨[],rfl,.nil,by simp⟩
 |cons q e ih=>
  intro vs h;simp only[FC] at h;split at h
  ·rename_i a b g i;simp only[au] at h;subst h;obtain ⟨d,l,j,o⟩:=resT_ok f g;obtain ⟨ds,p,k,r⟩:=ih i;refine ⟨d::ds,?_,.cons j k,λv t=>?_⟩
   ·simp_all
   grind
  simp_all
theorem outs_ok{σ:TH}{σD:ar}(H:RH σ σD):∀{cs:List de}{vs:List TV}{ds:List D}{r:lI cs},xk σ cs vs=some r->fG vs ds->(∀v∈vs,GV σ v)->∃es,ds.mapM (ol σD 0 100)=some es/\es.map BT=sE cs r/\(∀d,ds=[d]->xa σD 0 100 d=ol σD 0 100 d):=by
 intro cs;induction cs with
 |nil=>
  intro vs ds r h a g;cases a with
  |nil=>exact ⟨[],rfl,rfl,λd e=>by simp at e⟩
  |cons _ _=>grind [xk]
 |cons c cs ih=>
  intro vs ds r h a g;cases a with
  |nil=>grind [xk]
  |cons f a=>
   rename_i v d vs ds;cases cs with
   |nil=>
    cases a with
    |nil=>
     simp only[xk] at h;obtain ⟨b,i,j,k⟩:=PH H (g v (by simp)) f h;refine ⟨[b],by simp_all,by grind [sE],λl e=>?_⟩
     simp_all
    |cons _ _=>grind [xk]
   |cons u cs=>
    cases a with
    |nil=>grind [xk]
    |cons o a=>
     simp only[xk] at h;split at h
     ·rename_i x y p q;simp only[au] at h;subst h;obtain ⟨b,i,j,k⟩:=PH H (g v (by simp)) f p;obtain ⟨es,z,A,_⟩:=ih q (.cons o a) λv t=>g v (oD _ t);refine ⟨b::es,by simp_all,by grind [sE],λl e=>by simp at e⟩
     simp_all
theorem tF_ok{P:Program}{S:tH}{B:cY}{l:Ew}{H:List (Nat×Nat)}{J:List (Nat×JH)}{C:List (Nat×List CT)}{u:Nat}{g:FuncId}{fn:Func}{j:kS}{e out:List de}{N:Nat}{a:tf e}{r:lI out}(dx:P.follows .mixedOrders=true)(hS:fh P S)
  (hg:P.funcs[g]? = some fn) (y:aS P g=true) (hc:gM P fn true=some j) (hI:Vs ⟨P,S,H,J,C,j.ntmps,N,(Qg P S N B l u).1,(Qg P S N B l u).2,l⟩) (hn:Nat.ble e.length j.ntmps=true) (h:tF P S B l H J C u j e out N a=some r):Pure P g (sJ e a) (sN out r):=by
 refine un hg y hc (by rw[Vu];simp_all) ?_;have R0:Ref (AK 0 (tvV e a)) [] (ke 0 (sJ e a)) []:=⟨⟨rfl,λb blk h=>by simp at h,λb w cs h=>by simp at h⟩,λt x p h=>by obtain ⟨d,v,rfl,G,z,K⟩:=zip_ok e a 0 t x p h;exact ⟨d,G,z,K⟩⟩
 refine (Wa ⟨P,S,H,J,C,j.ntmps,N,(Qg P S N B l u).1,(Qg P S N B l u).2,l⟩ dx hS hI j.body 1 _ _ _ r _ _ h R0).eT λx A f hP=>.inl ?_;obtain ⟨L,σ',G,_,_,z⟩:=hP;have fin:(match FC (FV L σ') j.results with | some rs=>xk σ' out rs | none=>none)=some r->∃E o,j.results.mapM (pF A f)=some E/\xa f 0 100 (one E)=some o/\Ev o (sN out r):=by
  intro z;split at z
  ·rename_i rs O;obtain ⟨ds,K,h4,h5⟩:=Jy G O;obtain ⟨U,q,h7,h8⟩:=outs_ok G.hh z h4 h5;have W:U.length=ds.length:=(MV q).1;have k:one ds=.aQ ds->one (sE out r)=.aQ (sE out r)->∃o,xa f 0 100 (one ds)=some o/\Ev o (sN out r):=λR Z=>by
    rw[R];refine ⟨.aQ U,frz_tup q,Ev.OO ?_⟩
    grind [Ud,sN]
   have T:(sE out r).length=ds.length:=by grind
   cases ds with
   |nil=>
    obtain ⟨o,R,Z⟩:=k rfl (by have:sE out r=[]:=VI T;rw[this];rfl)
    simp_all
   |cons d ds=>
    cases ds with
    |nil=>
     have e3:=h8 d rfl;rw[Uk] at q;cases h9:ol f 0 100 d with
     |none=>simp_all
     |some d'=>
      rw[h9] at q;simp only[List.mapM_nil] at q;cases q;refine ⟨[d],d',K,by rw[<-h9];exact e3,?_⟩;have e4:sN out r=BT d':=by unfold sN;rw[<-h7];rfl
      rw[e4];intro σ M Fz w v hv;exact DX hv
    |cons d2 ds=>
     obtain ⟨o,R,Z⟩:=k rfl (by
      cases ho:sE out r with
      |nil=>simp_all
      |cons o1 os=>
       cases os with
       |nil=>simp_all
       |cons o2 os=>rfl)
     simp_all
  simp_all
 cases x with
 |exit i=>grind
 |normal=>grind
 |ret=>grind
theorem fh.nil{P:Program}:fh P []:=λp i=>by grind
theorem fh.cons{P:Program}{g:Nat}{s:bz}{S:tH}(h:bH P g s)(j:fh P S)(o:Nat.blt g 1048576=true:=by rfl):fh P ((g,s)::S):=by
 intro p i;rcases gn.1 i with rfl | i
 ·exact ⟨λ_=>h,λe=>by rw[o] at e;cases e⟩
 ·exact j p i
theorem fh.it{P:Program}{g:Nat}{s:bz}{S:tH}(h:WT P g s)(j:fh P S):fh P ((g+1048576,s)::S):=by
 intro p i;rcases gn.1 i with rfl | i
 ·exact ⟨λe=>by have:=tM.mp e;dsimp only at this;omega,λ_=>by simpa using h⟩
 ·exact j p i
end
end Go.Abs
end
section
namespace Go.Abs
noncomputable section
variable[Gl][Y:Ty]
section
variable{m:Nat}{σ1 aA:ar}{ρ:Nat->Nat}{F:Nat->Prop}
theorem qg{P:Program}{g:FuncId}{fn:Func}{j:kS}{fz:Bool}{ds:List D}{r:D}{σ:ar}(hg:P.funcs[g]? = some fn)(u:gM P fn fz=some j)(y:ds.length<=j.ntmps)
  (h:Sem P j.body j.ntmps (ke 0 ds) σ λx al σ1=>(x=.normal∨x=.ret)/\∃a ρ F,j.results.mapM (pF al σ1)=some a/\QR σ.length σ1 aA ρ F/\(∀b,F b->σ.length<=b)/\dh σ1 aA ρ F (one a) r):Ok P g ds σ r aA:=by
 unfold gM at u;split at u
 ·rename_i c hb;split at u
  ·rename_i ac rs h1 h2;simp only[au] at u;subst u;dsimp only at h y;intro M Fz w i R hs G;refine mS hg hb ?_;have A0:eI fn.ntmps σ M Fz w (ke 0 ds) (i++Array.replicate (fn.ntmps-i.size) undef):=by
    refine ⟨by simp_all,λt d K=>?_⟩;obtain ⟨_,h3⟩:=D_ ds 0 t d K;rw[Nat.sub_zero] at h3;have L:t<i.size:=by grind
    exact ⟨i[t],by grind,G t d _ h3 (rG L)⟩
   refine Kt (h c h1 M Fz w { tmps:=i++Array.replicate (fn.ntmps-i.size) undef,defers:=[] } _ R A0 λx e σ' a' w' M' Fz' hQ hd R' E EV hl=>?_);obtain ⟨hx,a,ρ,F,hm,hN,hF,N⟩:=hQ;have O:rs.mapM (Np (xC fn.ntmps e) σ')=some a:=by
    have aa:∀(l:List (Nat×Option (Option Nat))) a,l.mapM (pF e σ')=some a->l.mapM (Np (xC fn.ntmps e) σ')=some a:=by
     intro l;induction l with
     |nil=>simp_all
     |cons p l ih=>
      intro a h;rw[Uk] at h ⊢;cases z:pF e σ' p with
      |none=>simp_all
      |some d=>
       rw[z] at h;have:Np (xC fn.ntmps e) σ' p=some d:=by
        obtain ⟨t,o⟩:=p;cases o with
        |none=>exact E.c_.2.2 t d z
        |some k=>
         simp only[pF] at z;split at z
         ·rename_i b off sz S;simp only[Np,E.c_.2.2 t _ S];exact z
         simp_all
       rw[this];cases hr:l.mapM (pF e σ') with
       |none=>simp_all
       |some q=>simp_all
    simp_all
   have T:xX x=.normal∨xX x=.ret:=by rcases hx with rfl | rfl <;> simp[xX]
   refine ⟨T,Mk.end hd R' EV λw'' f A mv=>?_⟩;have U:eI fn.ntmps σ' M' Fz' w'' e a'.tmps:=⟨E.1,λt d K=>by obtain ⟨v,q1,q2⟩:=E.2 t d K;exact ⟨v,q1,mv d v q2⟩⟩
   obtain ⟨v,W,Z⟩:=jm (P:=P) f U.c_.1 h2 O;exact ⟨v,W,v,_,_,rfl,hN.rel f,N M' Fz' w'' v f Z,hN.evo (cR _) hF R f A⟩
  simp_all
 simp_all
end
end
end Go.Abs
end
section
namespace Go.Abs
noncomputable section
variable[Gl][Y:Ty]
theorem Dh{c:It}{d:kl}{a:c.dn}(h:mn c d=some a):d=⟨c,a⟩:=by
 unfold mn at h;split at h
 ·rename_i e _;simp only[au] at h;obtain ⟨it,v⟩:=d
  grind
 simp_all
theorem FD(c:It)(a:c.dn):mn c ⟨c,a⟩=some a:=by
 unfold mn;split
 ·rfl
 grind
theorem Xk:∀{cs:List It}{ds:List kl}{x:dA cs},uN cs ds=some x->dL cs x=ds:=by
 intro cs;induction cs with
 |nil=>
  intro ds x h;cases ds with
  |nil=>rfl
  |cons d ds=>grind [uN]
 |cons c cs ih=>
  intro ds x h;cases cs with
  |nil=>
   cases ds with
   |nil=>grind [uN]
   |cons d ds=>
    cases ds with
    |nil=>grind [uN,dL,Dh]
    |cons _ _=>grind [uN]
  |cons a cs=>
   cases ds with
   |nil=>grind [uN]
   |cons d ds=>grind [uN,dL,Dh]
structure SR (σs aA:TH):Prop where
 len:aA.length=σs.length
 row:∀(b:Nat) i (l:List (TT i)) lv cv,σs[b]? = some (.row i l lv cv)->aA[b]? = some (.row i l lv cv)
def GS(σs:TH):TC->Prop
 |.own i b v n=>∃(l:List (TT i))(a:Nat),σs[b]? = some (.row i l v a)/\n=l.length
 |.d x=>x.low σs.length=true
 |.any=>False
 |.op ..=>False
 |.ap ..=>False
 |.os ..=>False
 |.FQ ..=>False
 |_=>True
theorem GS.gc{σs aA:TH}(h:SR σs aA){x:TC}(g:GS σs x):GC aA x:=by
 cases x with
 |own i b v n=>
  obtain ⟨l,o,u,A⟩:=g;refine ⟨_,h.row b i l v o u,λj E G z e=>?_⟩
  grind
 |d x=>show D.low _ _=true;rw[h.len];exact g
 |any=>exact g.elim
 |op=>exact g.elim
 |ap=>exact g.elim
 |os=>exact g.elim
 |FQ=>exact g.elim
 |_=>trivial
theorem JN(σs:TH)(c:CC)(a:c.dn):GS σs (qX c a):=by cases c <;> first | exact True.intro | rfl
theorem Qa{σs:TH}{p:CP}{ds r:List kl}{y:TC}(h:wu σs p ds=some (y,r)):GS σs y:=by
 unfold wu at h;split at h
 ·grind [JN]
 ·split at h
  ·simp only[au,aT] at h;obtain ⟨rfl,_⟩:=h;trivial
  simp_all
 ·split at h
  ·rename_i i l d b a;simp only[au,aT] at h;obtain ⟨rfl,_⟩:=h;exact ⟨l,b,a,rfl⟩
  simp_all
 ·split at h
  ·rename_i a;simp only[au,aT] at h;obtain ⟨rfl,_⟩:=h;show D.low _ _=true;simp only[D.low,br];simp_all
  simp_all
 ·split at h
  ·rename_i a;simp only[au,aT] at h;obtain ⟨rfl,_⟩:=h;show D.low _ _=true;simp only[D.low,br];simp_all
  simp_all
 ·split at h
  ·rename_i a;simp only[au,aT] at h;obtain ⟨rfl,_⟩:=h;show D.low _ _=true;simp only[D.low,D.low.cL,yCm,Kk,br];simp_all
  simp_all
 ·split at h
  ·rename_i a;simp only[au,aT] at h;obtain ⟨rfl,_⟩:=h;exact D.eE (NA _) a
  simp_all
 simp_all
theorem Sz{σs:TH}:∀{ps:List CP}{ds r:List kl}{a:List TC},zR σs ps ds=some (a,r)->∀y∈a,GS σs y:=by
 intro ps;induction ps with
 |nil=>grind [zR]
 |cons p ps ih=>grind [zR,Qa]
theorem RH.mk'{σ:TH}(i:∀(b:Nat) w cs,σ[b]? = some (.cells w cs)->∀p∈cs,GC σ p.2/\p.1<=w):RH σ (σ.map TB.er):=⟨by simp,λb blk j=>⟨blk.er,by simp_all,rfl⟩,i⟩
structure yE (ps:List PC) (σ iA:TH):Prop where
 ext:Ext σ iA
 len:iA.length=σ.length
 cells:∀(b:Nat) w cs,σ[b]? = some (.cells w cs)↔iA[b]? = some (.cells w cs)
 out:∀b,b∉ps.map PC.blk->iA[b]? = σ[b]?
 row:ps.any PC.rs=false->∀(b:Nat) i (l:List (TT i)) lv cv,σ[b]? = some (.row i l lv cv)->iA[b]? = some (.row i l lv cv)
 rh:∃σD',RH iA σD'
theorem gJ:∀{ps:List PC}{σ o:TH}{σD:ar}{ds r:List kl},bY σ ps ds=some (o,r)->RH σ σD->yE ps σ o:=by
 intro ps;induction ps with
 |nil=>intro σ o σD ds r h H;simp only[bY,au,aT] at h;obtain ⟨rfl,_⟩:=h;exact ⟨Ext.refl σ,rfl,λb w f=>Iff.rfl,λb _=>rfl,λ_ b i l q t h=>h,⟨σD,H⟩⟩
 |cons p ps ih=>
  intro σ o σD ds r h H;have one:∀(b:Nat)(blk a:TB)(x:List kl),σ[b]? = some blk->BE blk a->(∀w f,blk≠.cells w f)->(∀w f,a≠.cells w f)->p.blk=b->(p.rs=false->∀i (l:List (TT i)) q t,blk≠.row i l q t)->bY (σ.set b a) ps x=some (o,r)->yE (p::ps) σ o:=by
   intro b blk a x A E S y G T h;have H1:RH (σ.set b a) (σD.set b a.er):=H.set A E rfl (λw f e=>absurd e (y w f));have e:=ih h H1;refine ⟨Ext.trans H (Ext.set A E) e.ext,by rw[e.len];simp,λu w f=>?_,λu g=>?_,λk u i l q t U=>?_,e.rh⟩
   ·rw[<-e.cells]
    grind
   ·simp only[tn,gn,not_or,G] at g;rw[e.out u g.2,eL g.1]
   ·simp only[List.any_cons,Bool.or_eq_false_iff] at k;refine e.row k.2 u i l q t ?_
    grind
  cases p with
  |h b j p=>simp only[bY] at h;have e:=ih h H;exact ⟨e.ext,e.len,e.cells,λu g=>e.out u (λK=>g (oD _ K)),λk=>e.row (by simp_all),e.rh⟩
  |w b i=>
   cases ds with
   |nil=>grind [bY]
   |cons d ds=>
    simp only[bY] at h;split at h
    ·rename_i l j L q t N z;split at h
     ·rename_i O;have:=cO O;subst this;exact one b _ _ ds z ⟨l,_,_,rfl,by omega,by omega,λe=>by omega,λe=>by omega⟩ (λw f e=>by simp at e) (λw f e=>by simp at e) rfl (λe=>by grind [PC.rs]) h
     simp_all
    simp_all
  |m b j st=>
   cases ds with
   |nil=>grind [bY]
   |cons d ds=>
    simp only[bY] at h;split at h
    ·rename_i l W R L v N z;exact one b _ _ ds z ⟨_,_,_,_,rfl,by omega,λe=>by omega⟩ (λw f e=>by simp at e) (λw f e=>by simp at e) rfl (λ_ i l q t e=>by simp at e) h
    simp_all
theorem Dy:∀{a:List NB}{ds r:List kl}{l:TH},du a ds=some (l,r)->l.length=a.length:=by
 intro a;induction a with
 |nil=>grind [du]
 |cons nb a ih=>
  intro ds r l h;cases nb with
  |cells b=>grind [du]
  |row i=>
   cases ds with
   |nil=>grind [du]
   |cons d ds=>grind [du]
  |mp j st=>
   cases ds with
   |nil=>grind [du]
   |cons d ds=>grind [du]
theorem zu{σs:TH}:∀{a:List NB}{e l:TH}{ds:List kl},dH σs a e ds=some l->l.length=a.length/\(∀(k:Nat) i (r:List (TT i)) f g,e[k]? = some (.row i r f g)->k<a.length->(∀ps,a[k]?≠some (.cells ps))->l[k]? = some (.row i r f g)) /\
  (∀(k:Nat) w cs,l[k]? = some (.cells w cs)->(∃w' d,e[k]? = some (.cells w' d)/\cs=d/\w=w')∨∀p∈cs,GS σs p.2/\p.1<=w):=by
 intro a;induction a with
 |nil=>intro e l ds h;simp only[dH,au] at h;simp_all
 |cons nb a ih=>
  intro e l ds h;cases e with
  |nil=>grind [dH]
  |cons b e=>
   have q:∀o,dH σs a e ds=some o->l=b::o->l.length=(nb::a).length/\(∀(k:Nat) i (r:List (TT i)) f g,(b::e)[k]? = some (.row i r f g)->k<(nb::a).length->(∀ps,(nb::a)[k]?≠some (.cells ps))->l[k]? = some (.row i r f g)) /\
     (∀(k:Nat) w cs,l[k]? = some (.cells w cs)->(∃w' d,(b::e)[k]? = some (.cells w' d)/\cs=d/\w=w')∨∀p∈cs,GS σs p.2/\p.1<=w):=by
    grind
   cases nb with
   |row i=>
    simp only[dH] at h
    grind
   |mp j st=>
    simp only[dH] at h
    grind
   |cells ps=>
    simp only[dH] at h;split at h
    ·rename_i A r u;split at h
     ·rename_i o v;simp only[au] at h;subst h;obtain ⟨y,E,G⟩:=ih v;refine ⟨by simp[y],λk i r f g hk K L=>?_,λk w cs hk=>?_⟩
      ·grind
      ·cases k with
       |zero=>simp only[List.getElem?_cons_zero,au,TB.cells.injEq] at hk;obtain ⟨rfl,rfl⟩:=hk;refine .inr λp t=>?_;rw[iT] at t;obtain ⟨x,z,rfl⟩:=t;exact ⟨Sz u x z,cR _⟩
       |succ k=>grind
     simp_all
    simp_all
theorem yk:∀{a:List NB}{ds r:List kl}{l:TH},du a ds=some (l,r)->∀(k:Nat),(∀w cs,l[k]? = some (.cells w cs)->cs=[])/\(∀ps,a[k]? = some (.cells ps)->l[k]? = some (.cells 0 [])):=by
 intro a;induction a with
 |nil=>grind [du]
 |cons nb a ih=>
  intro ds r l h k;cases nb with
  |cells ps=>
   simp only[du] at h
   grind
  |row i=>
   cases ds with
   |nil=>grind [du]
   |cons d ds=>grind [du]
  |mp j st=>
   cases ds with
   |nil=>grind [du]
   |cons d ds=>grind [du]
structure QM (σs:TH) (ps:List PC) (σ σ':TH):Prop where
 len:σ'.length=σ.length
 same:∀(b:Nat) blk,σ[b]? = some blk->(∀w cs,blk≠.cells w cs)->σ'[b]? = some blk
 fwd:∀(b:Nat) w cs,σ[b]? = some (.cells w cs)->∃w' cs',σ'[b]? = some (.cells w' cs')/\w<=w'/\cs'.length=cs.length/\∀(j:Nat) v1 x1,cs'[j]? = some (v1,x1)->cs[j]? = some (v1,x1)∨(w<v1/\v1<=w'/\GS σs x1)
 out:∀b,b∉ps.map PC.blk->σ'[b]? = σ[b]?
theorem kW{σs:TH}:∀{ps:List PC}{σ σ':TH}{ds r:List kl},dO σs ps σ ds=some (σ',r)->QM σs ps σ σ':=by
 intro ps;induction ps with
 |nil=>intro σ σ' ds r h;simp only[dO,au,aT] at h;obtain ⟨rfl,_⟩:=h;exact ⟨rfl,λb blk h _=>h,λb w l h=>⟨w,l,h,cR _,rfl,λj z A e=>.inl e⟩,λb _=>rfl⟩
 |cons p ps ih=>
  intro σ σ' ds r h;have skip:dO σs ps σ ds=some (σ',r)->QM σs (p::ps) σ σ':=λh=>by have e:=ih h;exact ⟨e.len,e.same,e.fwd,λb a=>e.out b λq=>a (oD _ q)⟩
  cases p with
  |w b i=>grind [dO]
  |m b j st=>grind [dO]
  |h b j p=>
   simp only[dO] at h;split at h
   ·rename_i x E w l t o;have g:=Qa t;have e:=ih h;refine ⟨by rw[e.len];simp,λd blk a u=>?_,λd v f a=>?_,λd a=>?_⟩
    ·refine e.same d blk ?_ u
     grind
    ·by_cases k:d=b
     ·subst k;rw[o] at a;simp only[au,TB.cells.injEq] at a;obtain ⟨rfl,rfl⟩:=a;obtain ⟨w2,y,G,K,L,N⟩:=e.fwd d _ _ (Gi o)
      grind
     ·exact e.fwd d v f (by grind)
    ·simp only[tn,gn,not_or,PC.blk] at a;rw[e.out d a.2,eL a.1]
   simp_all
def eD:TV->D
 |.c x=>x.er
 |.agg a=>.agg (a.map TC.er)
 |.aQ _=>.aQ []
def nT:TV->Prop
 |.aQ _=>False
 |_=>True
def GVs(σs:TH):TV->Prop
 |.c x=>GS σs x
 |.agg a=>∀x∈a,GS σs x
 |.aQ _=>False
theorem GS.fp(σs:TH)(i:Nat)(a:TT i):GS σs (.fp i a 0):=True.intro
theorem exp_gs(σs:TH)(i:Nat)(a:TT i):∀y∈exp i a,GS σs y:=by
 have d:∀(b:List CC)(x:aQ b),∀y∈vj b x,GS σs y:=by
  intro b;induction b with
  |nil=>grind [vj]
  |cons c b ih=>grind [vj,JN]
 exact d _ _
theorem pRO_gs{σs:TH}{p:RO}{ds r:List kl}{v:TV}(h:yK σs p ds=some (v,r)):GVs σs v:=by
 unfold yK at h;split at h
 ·split at h
  ·simp only[au,aT] at h;obtain ⟨rfl,_⟩:=h;exact JN σs _ _
  simp_all
 ·split at h
  ·simp only[au,aT] at h;obtain ⟨rfl,_⟩:=h;exact exp_gs σs _ _
  simp_all
 ·split at h
  ·simp only[au,aT] at h;obtain ⟨rfl,_⟩:=h;exact True.intro
  simp_all
 ·split at h
  ·rename_i x b a;simp only[au,aT] at h;obtain ⟨rfl,_⟩:=h;exact Qa a
  simp_all
 ·split at h
  ·rename_i d b a;simp only[au,aT] at h;obtain ⟨rfl,_⟩:=h;exact Sz a
  simp_all
 simp_all
theorem Jp{σs:TH}:∀{ps:List RO}{ds r:List kl}{vs:List TV},ky σs ps ds=some (vs,r)->∀v∈vs,GVs σs v:=by
 intro ps;induction ps with
 |nil=>grind [ky]
 |cons p ps ih=>grind [ky,pRO_gs]
theorem GVs.gv{σs aA:TH}(h:SR σs aA){v:TV}(g:GVs σs v):GV aA v:=by
 cases v with
 |c x=>exact GS.gc h g
 |agg i=>exact λx j=>GS.gc h (g x j)
 |aQ i=>exact g.elim
theorem GVs.nt{σs:TH}{v:TV}(g:GVs σs v):nT v:=by
 cases v with
 |aQ i=>exact g.elim
 |_=>trivial
theorem RT.eD{v:TV}(h:nT v):RT v (eD v):=by
 cases v with
 |c x=>exact .inr rfl
 |agg i=>exact ⟨_,rfl,aJ.er i⟩
 |aQ i=>exact h.elim
theorem Rz{vs:List TV}(h:∀v∈vs,nT v):RT (wE vs) (one (vs.map Go.Abs.eD)):=by
 have aQ:∀(vs:List TV),(∀v∈vs,nT v)->aJ RE (vs.map teT) (vs.map Go.Abs.eD):=by
  intro vs;induction vs with
  |nil=>intro _;exact .nil
  |cons v vs ih=>
   intro h;refine .cons ?_ (ih λv b=>h v (oD _ b));have:=h v (rX ..);cases v with
   |c x=>exact ⟨x,rfl,.inr rfl⟩
   |agg a=>exact ⟨_,rfl,aJ.er a⟩
   |aQ a=>exact this.elim
 cases vs with
 |nil=>exact ⟨[],rfl,.nil⟩
 |cons v vs=>
  cases vs with
  |nil=>exact RT.eD (h v (rX ..))
  |cons d vs=>exact ⟨_,rfl,aQ _ h⟩
theorem RZ{σ:TH}{vs:List TV}(h:∀v∈vs,GV σ v):GV σ (wE vs):=by
 have aQ:∀(vs:List TV),(∀v∈vs,GV σ v)->GV σ (.aQ (vs.map teT)):=by
  intro vs h p b x a;rw[iT] at b;obtain ⟨v,d,rfl⟩:=b;have:=h v d;cases v with
  |c y=>simp only[teT,gn,KE,KR] at a;subst a;exact this
  |agg e=>exact this x a
  |aQ e=>grind [teT]
 cases vs with
 |nil=>exact aQ _ h
 |cons v vs=>
  cases vs with
  |nil=>exact h v (rX ..)
  |cons f vs=>exact aQ _ h
theorem Lq:∀{ps:List PC}{σ f:TH}{ds r:List kl},bY σ ps ds=some (f,r)->∀p∈ps,(∃b i,p=.w b i)∨(∃b j st,p=.m b j st)->p.blk<σ.length:=by
 intro ps;induction ps with
 |nil=>simp_all
 |cons p ps ih=>
  intro σ f ds r h q a t;cases p with
  |h b j c=>grind [bY]
  |w b i=>
   cases ds with
   |nil=>grind [bY]
   |cons d ds=>
    simp only[bY] at h;split at h
    ·rename_i l j g u x k e;split at h
     ·rcases gn.1 a with rfl | a
      ·exact (gg.1 e).1
      grind
     simp_all
    simp_all
  |m b j st=>
   cases ds with
   |nil=>grind [bY]
   |cons d ds=>
    simp only[bY] at h;split at h
    ·rename_i l y o g v k e;rcases gn.1 a with rfl | a
     ·exact (gg.1 e).1
     grind
    simp_all
theorem pPCs_in{σs:TH}:∀{ps:List PC}{σ σ':TH}{ds r:List kl},dO σs ps σ ds=some (σ',r)->∀b j p,PC.h b j p∈ps->b<σ.length:=by
 intro ps;induction ps with
 |nil=>simp_all
 |cons q ps ih=>
  intro σ σ' ds r h b j p e;cases q with
  |w a i=>grind [dO]
  |m a d st=>grind [dO]
  |h a d f=>grind [dO]
structure Laid (ct:CT) (σ:TH) (ds:List kl) (rv:List TV) (F:TH) where
 iA:TH
 d1:List kl
 nb:TH
 d2:List kl
 d3:List kl
 aA:TH
 d4:List kl
 l:TH
 h1:bY σ ct.pl ds=some (iA,d1)
 h2:du ct.nb d1=some (nb,d2)
 h3:ky (iA++nb) ct.out d2=some (rv,d3)
 h4:dO (iA++nb) ct.pl iA d3=some (aA,d4)
 h5:dH (iA++nb) ct.nb nb d4=some l
 e:F=aA++l
theorem lW{ct:CT}{σ F:TH}{x:dA ct.items}{rv:List TV}(h:mO ct σ x=some (rv,F)):Nonempty (Laid ct σ (dL ct.items x) rv F):=by
 unfold mO at h;split at h
 ·simp at h
 ·rename_i a b d;split at h
  ·simp at h
  ·rename_i nb e f;split at h
   ·simp at h
   ·rename_i p g i;split at h
    ·simp at h
    ·rename_i aA j k;split at h
     ·rename_i l o;simp only[au,aT] at h;obtain ⟨rfl,rfl⟩:=h;exact ⟨⟨a,b,nb,e,g,aA,j,l,d,f,i,k,o,rfl⟩⟩
     simp_all
section
variable{ct:CT}{σ F:TH}{σD:ar}{ds:List kl}{rv:List TV}
theorem Laid.fl(L:Laid ct σ ds rv F):F.length=L.aA.length+L.l.length:=by have:=Ja List.length L.e;simp_all
theorem Laid.fa(L:Laid ct σ ds rv F)(b:Nat):F[b]? = (L.aA++L.l)[b]?:=Ja (λl=>l[b]?) L.e
theorem Laid.sr(L:Laid ct σ ds rv F):SR (L.iA++L.nb) F:=by
 have C:=kW L.h4;obtain ⟨x,z,K⟩:=zu L.h5;refine ⟨by rw[L.fl,AW,C.len,x,Dy L.h2],λb i l A E j=>?_⟩;rw[L.fa];rcases si b L.iA.length with o | u
 ·rw[HI o] at j;rw[HI (by grind [QM.len])];exact C.same b _ j (λw O e=>by simp at e)
 ·rw[NG u] at j;rw[NG (by grind [QM.len]),C.len];refine z _ i l A E j (by rw[<-Dy L.h2];grind) λG e=>?_;rw[(yk L.h2 _).2 G e] at j
  grind
theorem Laid.lt(L:Laid ct σ ds rv F)(H:RH σ σD){b:Nat}(h:b<σ.length):F[b]? = L.aA[b]?:=by have C:=kW L.h4;have i:=gJ L.h1 H;rw[L.fa,HI (by rw[C.len,i.len];exact h)]
theorem Laid.ext(L:Laid ct σ ds rv F)(H:RH σ σD):Ext σ F:=by
 have C:=kW L.h4;have E:=gJ L.h1 H;obtain ⟨G,Z⟩:=E.rh;refine Ext.trans H E.ext λb blk K=>?_;have u:b<σ.length:=by grind [yE.len]
 rw[L.lt H u];have other:(∀w z,blk≠.cells w z)->∃o,L.aA[b]? = some o/\BE blk o:=λO=>⟨blk,C.same b blk K O,BE.refl blk⟩;cases blk with
 |cells w z=>
  obtain ⟨w',A,R,U,W,e4⟩:=C.fwd b w z K;refine ⟨_,R,w',A,rfl,U,W,λj v x v1 x1 h h1=>?_⟩
  grind
 |row i l lv cv=>simp_all
 |mp j st l v=>simp_all
theorem Laid.rh(L:Laid ct σ ds rv F)(H:RH σ σD):RH F (F.map TB.er):=by
 have C:=kW L.h4;have Z:=gJ L.h1 H;have S:=L.sr;obtain ⟨aa,Hr⟩:=Z.rh;obtain ⟨n1,n2,n3⟩:=zu L.h5;have er:Ext L.iA F:=λb blk u=>by
  have E:b<σ.length:=by grind [yE.len]
  rw[L.lt H E];have other:(∀w z,blk≠.cells w z)->∃A,L.aA[b]? = some A/\BE blk A:=λhn=>⟨blk,C.same b blk u hn,BE.refl blk⟩;cases blk with
  |cells w z=>
   obtain ⟨w',G,O,U,e3,e4⟩:=C.fwd b w z u;refine ⟨_,O,w',G,rfl,U,e3,λj v x v1 x1 h W=>?_⟩
   grind
  |row i l lv cv=>simp_all
  |mp j st l v=>simp_all
 refine RH.mk' λb w z u p hp=>?_;rcases si b σ.length with E | ad
 ·rw[L.lt H E] at u;have K:=eH (show b<L.iA.length by grind [yE.len]);cases o:L.iA[b]'(by grind) with
  |row i l lv cv=>rw[o] at K;rw[C.same b _ K (λw z e=>by simp at e)] at u;grind
  |mp j st l v=>rw[o] at K;rw[C.same b _ K (λw z e=>by simp at e)] at u;grind
  |cells w0 R=>
   rw[o] at K;obtain ⟨w',G,O,U,e3,e4⟩:=C.fwd b w0 R K;rw[u] at O;simp only[au,TB.cells.injEq] at O;obtain ⟨rfl,rfl⟩:=O;obtain ⟨j,hj⟩:=yB3 hp;obtain ⟨v1,x1⟩:=p;rcases e4 j v1 x1 hj with h5 | ⟨h5,h6,h7⟩
   ·obtain ⟨h8,h9⟩:=Hr.hg b w0 R K _ (Am h5);exact ⟨h8.mono er,lA h9 U⟩
   grind [GS.gc]
 ·have ab:L.aA.length=σ.length:=by rw[C.len,Z.len]
  rw[L.fa,NG (by omega)] at u;rcases n3 _ w z u with ⟨w',G,W,rfl,rfl⟩ | W
  ·rw[(yk L.h2 _).1 w z W] at hp;grind
  grind [GS.gc]
theorem Laid.out(L:Laid ct σ ds rv F)(H:RH σ σD){b:Nat}(j:b<σ.length)(i:b∉ct.pl.map PC.blk):F[b]? = σ[b]?:=by rw[L.lt H j,(kW L.h4).out b i,(gJ L.h1 H).out b i]
theorem Laid.szs(L:Laid ct σ ds rv F)(H:RH σ σD)(K:ct.pl.any PC.rs=false){b:Nat}(z:b<σ.length):∃x y,σ[b]? = some x/\F[b]? = some y/\x.er.sz=y.er.sz:=by
 have C:=kW L.h4;have E:=gJ L.h1 H;have u:=eH z;cases o:σ[b] with
 |cells w A=>rw[o] at u;obtain ⟨w',O,R,e2,e3,e4⟩:=C.fwd b w A ((E.cells b w A).1 u);exact ⟨_,_,u,by rw[L.lt H z];exact R,by grind [TB.er,Ob.sz]⟩
 |row i l U W=>rw[o] at u;exact ⟨_,_,u,by rw[L.lt H z];exact C.same b _ (E.row K b i l U W u) (λw A e=>by simp at e),rfl⟩
 |mp j st l v=>rw[o] at u;obtain ⟨G,Z,j1,aa,l1,v1,rfl,_⟩:=L.ext H b _ u;exact ⟨_,_,u,Z,rfl⟩
theorem Laid.all(L:Laid ct σ ds rv F)(H:RH σ σD):RH F (F.map TB.er)/\RT (wE rv) (one (rv.map eD))/\GV F (wE rv)/\Ext σ F/\(∀b,b<σD.length->b∉ct.pl.map PC.blk->(F.map TB.er)[b]? = σD[b]?)/\(ct.pl.any PC.rs=false->jf σD (F.map TB.er) (ct.pl.map PC.blk)=true):=by
 have g:=Jp L.h3;refine ⟨L.rh H,Rz λv o=>(g v o).nt,RZ λv o=>(g v o).gv L.sr,L.ext H,λb u E=>?_,λG=>?_⟩
 ·rw[H.eqD,lY,lY,L.out H (by grind [RH.len]) E]
 ·rw[H.eqD,jf,iB];intro b u;rw[iT] at u;obtain ⟨p,z,rfl⟩:=u;have A:p.blk<σ.length:=by
   cases p with
   |w b i=>exact Lq L.h1 _ z (.inl ⟨b,i,rfl⟩)
   |m b j st=>exact Lq L.h1 _ z (.inr ⟨b,j,st,rfl⟩)
   |h b j c=>have:=pPCs_in L.h4 b j c z;rwa [(gJ L.h1 H).len] at this
  obtain ⟨x,y,K,O,R⟩:=L.szs H G A
  simp_all
end
end
end Go.Abs
end
section
namespace Go.Abs
noncomputable section
variable[Gl][Y:Ty]
structure Mo (s s':MS):Prop where
 Kc:∀b o,pd b s.ρ=some o->pd b s'.ρ=some o
 fz:∀b,b∈s.fz->b∈s'.fz
theorem Mo.refl(s:MS):Mo s s:=⟨λ_ _ h=>h,λ_ h=>h⟩
theorem Mo.trans{a b c:MS}(h:Mo a b)(i:Mo b c):Mo a c:=⟨λx o e=>i.Kc x o (h.Kc x o e),λx e=>i.fz x (h.fz x e)⟩
structure MI (m:Nat) (σ1:TH) (s:MS):Prop where
 ge:∀p∈s.ρ,m<=p.1/\m<=p.2
 fz:∀b∈s.fz,∃(i:Nat)(l:List (TT i))(lv cv:Nat),σ1[b]? = some (.row i l lv cv)
def Bd(m:Nat)(s:MS)(b a:Nat):Prop:=(b<m/\a=b)∨(m<=b/\pd b s.ρ=some a)
theorem Bd.mono{m:Nat}{s s':MS}{b i:Nat}(h:Mo s s'):Bd m s b i->Bd m s' b i
 |.inl a=>.inl a
 |.inr a=>.inr ⟨a.1,h.Kc _ _ a.2⟩
def CM(m:Nat)(σ1 σs:TH)(s:MS)(x y:TC):Prop:=
 (Ev x.er y.er/\y.er.low 0=true/\(x=.d (.c (.lit (.slice none 0 0)))∨x.er=y.er)) ∨
 (∃(i b v:Nat)(l:List (TT i))(d:Nat),x=.own i b v l.length/\b∈s.fz/\σ1[b]? = some (.row i l v d)/\y.er=.c (.cB false (l.map (enc i)))) ∨
 (∃(i b a v:Nat)(g:List (TT i))(e j h:Nat)(l:List (TT j))(d:Nat),x=.own i a v g.length/\Bd m s b a/\σ1[a]? = some (.row i g v e)/\y=.own j b h l.length/\σs[b]? = some (.row j l h d)) ∨
 (∃b a off sz,x=.d (.ptr a off sz)/\Bd m s b a/\y=.d (.ptr b off sz)/\b<σs.length) ∨
 (∃b a,x=.d (.mp a)/\Bd m s b a/\y=.d (.mp b)/\b<σs.length) ∨
 (∃f b a sz,x=.d (.fn (.func f) [] [.ptr a 0 sz])/\Bd m s b a/\y=.d (.fn (.func f) [] [.ptr b 0 sz])/\b<σs.length)
variable{m:Nat}{σ σ1 σs:TH}{s s':MS}
theorem CM.mono(h:Mo s s'){x y:TC}(c:CM m σ1 σs s x y):CM m σ1 σs s' x y:=by
 rcases c with c | ⟨i,b,v,l,G,o,u,z,A⟩ | ⟨i,b,E,v,O,K,j,R,l,G,o,u,z,A,U⟩ | ⟨b,E,off,sz,o,u,z,A⟩ | ⟨b,E,o,u,z,A⟩ | ⟨f,b,E,sz,o,u,z,A⟩
 ·exact .inl c
 ·exact .inr (.inl ⟨i,b,v,l,G,o,h.fz _ u,z,A⟩)
 ·exact .inr (.inr (.inl ⟨i,b,E,v,O,K,j,R,l,G,o,u.mono h,z,A,U⟩))
 ·exact .inr (.inr (.inr (.inl ⟨b,E,off,sz,o,u.mono h,z,A⟩)))
 ·exact .inr (.inr (.inr (.inr (.inl ⟨b,E,o,u.mono h,z,A⟩))))
 ·exact .inr (.inr (.inr (.inr (.inr ⟨f,b,E,sz,o,u.mono h,z,A⟩))))
theorem aJ.mono{α i:Type}{R j:α->i->Prop}(h:∀a b,R a b->j a b){l:List α}{o:List i}(a:aJ R l o):aJ j l o:=by
 induction a with
 |nil=>exact .nil
 |cons x _ ih=>exact .cons (h _ _ x) ih
theorem CM.data{c:CC}{x:TC}{a:c.dn}(h:Cz c x=some a):CM m σ1 σs s x (qX c a):=by have i:=oZ h;refine .inl ⟨?_,by rw[ld];rfl,by grind [ld,Pd]⟩;rw[ld,<-i.2];intro σ M Fz w v j;exact JL j
theorem PY{c:CC}{x:TC}{a:c.dn}(h:Cz c (Ci σ1 x)=some a)(g:GC σ1 x):(∀b∈iI [x],∃(i:Nat)(l:List (TT i))(d e:Nat),σ1[b]? = some (.row i l d e))/\∀m σs s,(∀b∈iI [x],b∈s.fz)->CM m σ1 σs s x (qX c a):=by
 cases x with
 |own i b v n=>
  simp only[Ci] at h;split at h
  ·rename_i j l d e o;split at h
   ·rename_i p;have:=cO p;subst this;obtain ⟨blk,f,q⟩:=g;rw[o] at f;simp only[au] at f;obtain ⟨_,r⟩:=q _ _ _ _ f.symm;obtain ⟨rfl,rfl⟩:=r rfl;refine ⟨λu k=>?_,λm σs s hs=>.inr (.inl ⟨j,b,d,l,e,rfl,hs b (by simp[iI]),o,?_⟩)⟩
    ·simp only[iI,gn,KE,KR] at k
     grind
    ·have t:=oZ h;rw[ld,<-t.2];rfl
   grind [Cz]
  grind [Cz]
 |_=>exact ⟨by simp[iI],λm σs s _=>CM.data h⟩
theorem VK{d a:D}(h:eqK d a=true):d=a:=by
 unfold eqK at h;split at h
 ·rfl
 ·rfl
 ·rfl
 ·rfl
 ·simp_all
 ·simp_all
 simp_all
theorem zk{b g:Nat}(h:Hj m b g s=some s'):Mo s s'/\s'.rw=s.rw/\s'.cl=s.cl/\Bd m s' b g/\(MI m σ1 s->MI m σ1 s'):=by
 unfold Hj at h;split at h
 ·rename_i a;split at h
  ·rename_i e;simp only[au] at h;subst h;exact ⟨Mo.refl s,rfl,rfl,.inl ⟨tM.mp a,(cO e).symm⟩,id⟩
  simp_all
 ·rename_i a;have d:m<=b:=by
   grind [Nat.blt_eq]
  split at h
  ·rename_i o i;split at h
   ·rename_i e;simp only[au] at h;subst h;have:=cO e;subst this;exact ⟨Mo.refl s,rfl,rfl,.inr ⟨d,i⟩,id⟩
   simp_all
  ·rename_i i;split at h
   ·rename_i j;simp only[au] at h;subst h;refine ⟨⟨λq o k=>?_,λ_ h=>h⟩,rfl,rfl,.inr ⟨d,?_⟩,λI=>⟨λp f=>?_,I.fz⟩⟩
    ·grind [pd,Nat.eq_of_beq_eq_true]
    ·grind [pd,Nat.beq_refl]
    ·rcases gn.1 f with rfl | f
     ·simp_all
     ·exact I.ge p f
   simp_all
theorem Qk{p:CP}{x:TC}(h:mCP m σ1 p x s=some s')(g:GC σ1 x):∃Z,s'.cl=s.cl++Z/\s'.rw=s.rw/\Mo s s'/\(MI m σ1 s->MI m σ1 s')/\∀σs e y r,wu σs p (Z++e)=some (y,r)->r=e/\CM m σ1 σs s' x y:=by
 unfold mCP at h;split at h
 ·rename_i c i b v n;split at h
  ·rename_i a ha;simp only[au] at h;subst h;obtain ⟨L,N⟩:=PY ha g;refine ⟨_,rfl,rfl,⟨λ_ _ h=>h,λ_ h=>oD _ h⟩,λI=>⟨I.ge,λt z=>?_⟩,λσs e y r k=>?_⟩
   ·rcases gn.1 z with rfl | z
    ·exact L _ (by simp[iI])
    ·exact I.fz t z
   ·simp only[List.singleton_append,wu,FD,au,aT] at k;obtain ⟨rfl,rfl⟩:=k;exact ⟨rfl,N m σs _ (by simp[iI])⟩
  simp_all
 ·rename_i c x hx;split at h
  ·rename_i a ha;simp only[au] at h;subst h;refine ⟨_,rfl,rfl,⟨λ_ _ h=>h,λ_ h=>h⟩,λI=>⟨I.ge,I.fz⟩,λσs e y r k=>?_⟩;simp only[List.singleton_append,wu,FD,au,aT] at k
   grind [CM.data]
  simp_all
 ·rename_i u v;simp only[au] at h;subst h;refine ⟨_,rfl,rfl,⟨λ_ _ h=>h,λ_ h=>h⟩,λI=>⟨I.ge,I.fz⟩,λσs e y r k=>?_⟩;simp only[List.singleton_append,wu,FD,au,aT] at k;obtain ⟨rfl,rfl⟩:=k;exact ⟨rfl,.inl ⟨λ_ _ _ _ _ h=>h,rfl,.inr rfl⟩⟩
 ·rename_i b i t v n;split at h
  ·rename_i j l lv cv q;split at h
   ·rename_i o;have:=cO o;subst this;obtain ⟨blk,L,N⟩:=g;rw[q] at L;simp only[au] at L;obtain ⟨_,h3⟩:=N _ _ _ _ L.symm;obtain ⟨rfl,rfl⟩:=h3 rfl;obtain ⟨A,E,O,G,K⟩:=zk (σ1:=σ1) h;refine ⟨[],by simp_all,E,A,K,λσs e y r k=>?_⟩;simp only[List.nil_append,wu] at k;split at k
    ·rename_i i' l' R S hs;simp only[au,aT] at k;obtain ⟨rfl,rfl⟩:=k;exact ⟨rfl,.inr (.inr (.inl ⟨_,b,t,_,l,cv,i',R,l',S,rfl,G,q,rfl,hs⟩))⟩
    simp_all
   simp_all
  simp_all
 ·rename_i b off sz t aa T;split at h
  ·rename_i o;simp only[bG] at o;have U:=cO o.1;have W:=cO o.2;subst U W;obtain ⟨A,E,O,G,K⟩:=zk (σ1:=σ1) h;refine ⟨[],by simp_all,E,A,K,λσs e y r k=>?_⟩;simp only[List.nil_append,wu] at k;split at k
   ·rename_i q;simp only[au,aT] at k;obtain ⟨rfl,rfl⟩:=k;exact ⟨rfl,.inr (.inr (.inr (.inl ⟨b,t,off,sz,rfl,G,rfl,tM.mp q⟩)))⟩
   simp_all
  simp_all
 ·rename_i b t;obtain ⟨A,E,O,G,K⟩:=zk (σ1:=σ1) h;refine ⟨[],by simp_all,E,A,K,λσs e y r k=>?_⟩;simp only[List.nil_append,wu] at k;split at k
  ·rename_i q;simp only[au,aT] at k;obtain ⟨rfl,rfl⟩:=k;exact ⟨rfl,.inr (.inr (.inr (.inr (.inl ⟨b,t,rfl,G,rfl,tM.mp q⟩))))⟩
  simp_all
 ·rename_i f b sz f' t T;split at h
  ·rename_i o;simp only[bG] at o;have U:=cO o.1;have W:=cO o.2;subst U W;obtain ⟨A,E,O,G,K⟩:=zk (σ1:=σ1) h;refine ⟨[],by simp_all,E,A,K,λσs e y r k=>?_⟩;simp only[List.nil_append,wu] at k;split at k
   ·rename_i q;simp only[au,aT] at k;obtain ⟨rfl,rfl⟩:=k;exact ⟨rfl,.inr (.inr (.inr (.inr (.inr ⟨_,b,t,_,rfl,G,rfl,tM.mp q⟩))))⟩
   simp_all
  simp_all
 ·rename_i d d';split at h
  ·rename_i o;have:=VK o;subst this;simp only[au] at h;subst h;refine ⟨[],by simp_all,rfl,Mo.refl s,id,λσs e y r k=>?_⟩;simp only[List.nil_append,wu] at k;split at k
   ·rename_i q;simp only[au,aT] at k;obtain ⟨rfl,rfl⟩:=k;exact ⟨rfl,.inl ⟨λ_ _ _ _ _ h=>h,q,.inr rfl⟩⟩
   simp_all
  simp_all
 simp_all
theorem Rb:∀{ps:List CP}{xs:List TC}{s s':MS},Mv m σ1 ps xs s=some s'->(∀x∈xs,GC σ1 x)->∃f,s'.cl=s.cl++f/\s'.rw=s.rw/\Mo s s'/\(MI m σ1 s->MI m σ1 s')/\∀σs a d r,zR σs ps (f++a)=some (d,r)->r=a/\aJ (CM m σ1 σs s') xs d:=by
 intro ps;induction ps with
 |nil=>
  intro xs s s' h g;cases xs with
  |nil=>simp only[Mv,au] at h;subst h;refine ⟨[],by simp,rfl,Mo.refl s,id,λσs a d r b=>?_⟩;simp only[List.nil_append,zR,au,aT] at b;obtain ⟨rfl,rfl⟩:=b;exact ⟨rfl,.nil⟩
  |cons x xs=>grind [Mv]
 |cons p ps ih=>
  intro xs s s' h g;cases xs with
  |nil=>grind [Mv]
  |cons x xs=>
   simp only[Mv] at h;split at h
   ·rename_i s1 j;obtain ⟨k,L,N,l,o,q⟩:=Qk j (g x (rX ..));obtain ⟨t,O,R,i,u,v⟩:=ih h λy b=>g y (oD _ b);refine ⟨k++t,by grind,by grind,l.trans i,λI=>u (o I),λσs a d r b=>?_⟩;rw[BM] at b;simp only[zR] at b;split at b
    ·rename_i y z A;obtain ⟨rfl,c1⟩:=q σs _ y z A;split at b
     ·rename_i E S G;simp only[au,aT] at b;obtain ⟨rfl,rfl⟩:=b;obtain ⟨e,K⟩:=v σs _ _ _ G;exact ⟨e,.cons (c1.mono i) K⟩
     grind
    grind
   simp_all
def VM(m:Nat)(σ1 σs:TH)(s:MS):TV->TV->Prop
 |.c x,.c y=>CM m σ1 σs s x y
 |.agg xs,.agg a=>aJ (CM m σ1 σs s) xs a
 |_,_=>False
theorem VM.mono(h:Mo s s'){x y:TV}(c:VM m σ1 σs s x y):VM m σ1 σs s' x y:=by
 cases x with
 |c x => cases y with
  |c y=>exact CM.mono h c
  |_=>exact c.elim
 |agg i => cases y with
  |agg j=>exact aJ.mono (λ_ _=>CM.mono h) c
  |_=>exact c.elim
 |aQ i=>exact c.elim
theorem ZV:∀{cs:List CC}{xs:List TC}{a:aQ cs},Dw cs (xs.map (Ci σ1))=some a->(∀x∈xs,GC σ1 x)->(∀b∈iI xs,∃(i:Nat)(l:List (TT i))(f j:Nat),σ1[b]? = some (.row i l f j))/\∀m σs s,(∀b∈iI xs,b∈s.fz)->aJ (CM m σ1 σs s) xs (vj cs a):=by
 intro cs;induction cs with
 |nil=>
  intro xs a h g;cases xs with
  |nil=>exact ⟨by simp[iI],λm σs s _=>.nil⟩
  |cons x xs=>grind [Dw]
 |cons c cs ih=>
  intro xs a h g;cases xs with
  |nil=>grind [Dw]
  |cons x xs=>
   simp only[tn,Dw] at h;split at h
   ·rename_i t u k o;simp only[au] at h;subst h;obtain ⟨v,p⟩:=PY k (g x (rX ..));obtain ⟨z,q⟩:=ih o λy r=>g y (oD _ r);have e:∀b,b∈iI (x::xs)↔b∈iI [x]∨b∈iI xs:=by
     intro b;cases x <;> simp[iI]
    refine ⟨λb d=>?_,λm σs s hs=>.cons (p m σs s λb d=>hs b ((e b).2 (.inl d))) (q m σs s λb d=>hs b ((e b).2 (.inr d)))⟩
    grind
   simp_all
theorem mRO_ok{p:RO}{v:TV}(h:mRO m σ1 p v s=some s')(g:GV σ1 v):∃N,s'.cl=s.cl++N/\s'.rw=s.rw/\Mo s s'/\(MI m σ1 s->MI m σ1 s')/\∀σs d y r,yK σs p (N++d)=some (y,r)->r=d/\VM m σ1 σs s' v y:=by
 unfold mRO at h;split at h
 ·rename_i c;split at h
  ·rename_i a k;simp only[au] at h;subst h;cases v with
   |c x=>
    obtain ⟨o,u⟩:=PY (c:=c) k g;refine ⟨_,rfl,rfl,⟨λ_ _ h=>h,λ_ h=>yBz _ h⟩,λI=>⟨I.ge,λb l=>?_⟩,λσs d y r f=>?_⟩
    ·rcases mQ.1 l with l | l
     ·exact o b l
     ·exact I.fz b l
    ·simp only[List.singleton_append,yK,FD,au,aT] at f;obtain ⟨rfl,rfl⟩:=f;exact ⟨rfl,u m σs _ λb l=>yB4 _ l⟩
   |agg q=>grind [fM,qI,IP]
   |aQ q=>grind [fM,qI,IP]
  simp_all
 ·rename_i i;split at h
  ·rename_i a k;simp only[au] at h;subst h;cases v with
   |c x=>grind [fM,qI,Cr]
   |aQ x=>grind [fM,qI,Cr]
   |agg q=>
    simp only[fM,qI,Cr] at k;split at k
    ·rename_i t R;simp only[au] at k;subst k;obtain ⟨o,u⟩:=ZV R g;refine ⟨_,rfl,rfl,⟨λ_ _ h=>h,λ_ h=>yBz _ h⟩,λI=>⟨I.ge,λb l=>?_⟩,λσs d y r f=>?_⟩
     ·rcases mQ.1 l with l | l
      ·exact o b l
      ·exact I.fz b l
     ·simp only[List.singleton_append,yK,FD,au,aT] at f;obtain ⟨rfl,rfl⟩:=f;refine ⟨rfl,?_⟩;show aJ _ q (vj _ _);rw[Y.pm];exact u m σs _ λb l=>yB4 _ l
    simp_all
  simp_all
 ·rename_i i;split at h
  ·rename_i a k;simp only[au] at h;subst h;refine ⟨_,rfl,rfl,⟨λ_ _ h=>h,λ_ h=>h⟩,λI=>⟨I.ge,I.fz⟩,λσs d y r f=>?_⟩;simp only[List.singleton_append,yK,FD,au,aT] at f;obtain ⟨rfl,rfl⟩:=f;refine ⟨rfl,?_⟩;cases v with
   |c x=>
    cases x with
    |fp j b off=>
     simp only[fM,Ci,qI] at k;unfold Ce at k;split at k
     ·rename_i U W O;simp only[TV.c.injEq,TC.fp.injEq] at O;obtain ⟨rfl,u,rfl⟩:=O;cases u;split at k
      ·rename_i e _;subst e;simp only[au] at k;subst k;exact .inl ⟨λ_ _ _ _ _ h=>h,rfl,.inr rfl⟩
      simp_all
     simp_all
    |own j b v n=>
     exfalso;simp only[fM,Ci,qI] at k;split at k
     ·split at k <;> simp[Ce] at k
     grind [Ce]
    |_=>grind [fM,Ci,qI,Ce]
   |agg q=>grind [fM,qI,Ce]
   |aQ q=>grind [fM,qI,Ce]
  simp_all
 ·rename_i p x;obtain ⟨L,z,A,E,G,K⟩:=Qk h g;refine ⟨L,z,A,E,G,λσs d y r f=>?_⟩;simp only[yK] at f;split at f
  ·rename_i S T o;simp only[au,aT] at f;obtain ⟨rfl,rfl⟩:=f;exact K σs d _ _ o
  simp_all
 ·rename_i Z q;obtain ⟨L,z,A,E,G,K⟩:=Rb h g;refine ⟨L,z,A,E,G,λσs d y r f=>?_⟩;simp only[yK] at f;split at f
  ·rename_i S T o;simp only[au,aT] at f;obtain ⟨rfl,rfl⟩:=f;exact K σs d _ _ o
  simp_all
 simp_all
theorem mROs_ok:∀{ps:List RO}{xs:List TV}{s s':MS},Ik m σ1 ps xs s=some s'->(∀x∈xs,GV σ1 x)->∃f,s'.cl=s.cl++f/\s'.rw=s.rw/\Mo s s'/\(MI m σ1 s->MI m σ1 s')/\∀σs a d r,ky σs ps (f++a)=some (d,r)->r=a/\aJ (VM m σ1 σs s') xs d:=by
 intro ps;induction ps with
 |nil=>
  intro xs s s' h g;cases xs with
  |nil=>simp only[Ik,au] at h;subst h;refine ⟨[],by simp,rfl,Mo.refl s,id,λσs a d r b=>?_⟩;simp only[List.nil_append,ky,au,aT] at b;obtain ⟨rfl,rfl⟩:=b;exact ⟨rfl,.nil⟩
  |cons x xs=>grind [Ik]
 |cons p ps ih=>
  intro xs s s' h g;cases xs with
  |nil=>grind [Ik]
  |cons x xs=>
   simp only[Ik] at h;split at h
   ·rename_i s1 j;obtain ⟨k,L,N,l,o,q⟩:=mRO_ok j (g x (rX ..));obtain ⟨t,O,R,i,u,v⟩:=ih h λy b=>g y (oD _ b);refine ⟨k++t,by grind,by grind,l.trans i,λI=>u (o I),λσs a d r b=>?_⟩;rw[BM] at b;simp only[ky] at b;split at b
    ·rename_i y z A;obtain ⟨rfl,c1⟩:=q σs _ y z A;split at b
     ·rename_i E S G;simp only[au,aT] at b;obtain ⟨rfl,rfl⟩:=b;obtain ⟨e,K⟩:=v σs _ _ _ G;exact ⟨e,.cons (c1.mono i) K⟩
     grind
    grind
   simp_all
end
end Go.Abs
end
section
namespace Go.Abs
noncomputable section
variable[Gl][Y:Ty]
def us(x y:TB):Prop:=(∃(i:Nat)(l:List (TT i))(d e a b:Nat),x=.row i l d e/\y=.row i l a b)∨(∃(j:Nat)(st:Bool)(l:List (Int×TT j))(v f:Nat),x=.mp j st l v/\y=.mp j st l f)
def PC.rw:PC->Bool
 |.h ..=>false
 |_=>true
variable{m:Nat}{σ σ1 σs:TH}{s s':MS}
theorem mPCs_ok (hg:∀(b:Nat) w cs,σ1[b]? = some (.cells w cs)→∀p∈cs,GC σ1 p.2):∀{ps:List PC} {s s':MS},FP m σ σ1 ps s=some s' →
  ∃ L Lc, s'.rw = s.rw ++ L ∧ s'.cl = s.cl ++ Lc ∧ Mo s s' ∧ (MI m σ1 s → MI m σ1 s') ∧ (∀ p ∈ ps, p.blk < m) ∧
   (∀f d A r,bY f ps (L++d)=some (A,r)→r=d∧∀b:Nat,((∀p∈ps,p.rw=true→p.blk≠b)∧A[b]? = f[b]?)∨∃x y,σ1[b]? = some x∧A[b]? = some y∧us x y) ∧
   (∀σs f d σ' r,dO σs ps f (Lc++d)=some (σ',r)→(∀(b:Nat) w cs w1 t,f[b]? = some (.cells w cs)→σ1[b]? = some (.cells w1 t)→cs.length=t.length)→r=d ∧
    (∀(b j:Nat) p,PC.h b j p∈ps→∃w cs w' k x y,σ1[b]? = some (.cells w cs)∧σ'[b]? = some (.cells w' k)∧cs[j]? = some x∧k[j]? = some y∧CM m σ1 σs s' x.2 y.2) ∧
    (∀(b:Nat) w cs,f[b]? = some (.cells w cs)→∃w' k,σ'[b]? = some (.cells w' k)∧∀j:Nat,(∀p,PC.h b j p∉ps)→k[j]? = cs[j]?)):=by
 intro ps
 induction ps with
 | nil =>
  intro s s' h
  simp only [FP,au] at h
  subst h
  refine ⟨[],[],by simp,by simp,Mo.refl s,id,by simp,fun f d A r h=>?_,fun σs f d σ' r h _=>?_⟩
  ·simp only [List.nil_append,bY,au,aT] at h
   simp_all
  ·simp only [List.nil_append,dO,au,aT] at h
   grind
 | cons p ps ih =>
  intro s s' h
  cases p with
  | h b j p =>
   simp only [FP] at h
   split at h
   ·rename_i w1 t K v
    split at h
    ·rename_i x hx
     split at h
     ·rename_i s1 h1
      obtain ⟨L1,a1,a2,a3,a4,a5⟩:=Qk h1 (hg b w1 t K x (Am hx))
      obtain ⟨L,N,S,T,G,O,b5,U,W⟩:=ih h
      refine ⟨L,L1++N,by grind,by grind,a3.trans G,fun I=>O (a4 I),fun q o=>?_,fun f d A r h=>?_,fun σs f d σ' r h Z=>?_⟩
      ·rcases gn.1 o with rfl | o
       ·exact tM.mp v
       grind
      ·grind [bY,PC.rw]
      ·rw [BM] at h
       simp only [dO] at h
       split at h
       ·rename_i y r' w0 aa h2 h3
        obtain ⟨rfl,c1⟩:=a5 σs _ y r' h2
        have af:=Z b w0 aa w1 t h3 K
        obtain ⟨e,d1,d2⟩:=W σs _ d σ' r h fun u w cs w2 ak z e2=>by
         grind
        refine ⟨e,fun u j' p' hp=>?_,fun u w cs z=>?_⟩
        ·by_cases an:∃q,PC.h u j' q∈ps
         ·grind
         ·rcases gn.1 hp with z | hp
          ·simp only [PC.h.injEq] at z
           obtain ⟨rfl,rfl,rfl⟩:=z
           obtain ⟨w',k,e2,e3⟩:=d2 u _ _ (Gi h3)
           refine ⟨w1,t,w',k,x,(w0+1,y),K,e2,hx,?_,c1.mono G⟩
           grind
          grind
        ·by_cases g:u=b
         ·subst g
          rw [h3] at z
          simp only [au,TB.cells.injEq] at z
          grind [Gi]
         ·obtain ⟨w',k,e2,e3⟩:=d2 u w cs (by grind)
          grind
       grind
     grind
    grind
   grind
  | w b i =>
   simp only [FP] at h
   split at h
   ·rename_i i0 l0 av ax K v
    split at h
    ·rename_i a ha
     obtain ⟨e,rfl⟩:=Rt ha
     subst e
     obtain ⟨L,N,S,T,G,O,b5,U,W⟩:=ih h
     refine ⟨_::L,N,by rw [S,BM]; rfl,T,⟨G.Kc,G.fz⟩,fun I=>O ⟨I.ge,I.fz⟩,fun q o=>?_,fun f d A r h=>?_,fun σs f d σ' r h Z=>?_⟩
     ·rcases gn.1 o with rfl | o
      ·exact tM.mp v
      grind
     ·simp only [List.cons_append,bY,FD] at h
      split at h
      ·rename_i l j l1 a0 a6 R z
       simp only [au] at R
       subst R
       split at h
       ·obtain ⟨e,c1⟩:=U _ d A r h
        refine ⟨e,fun u=>?_⟩
        rcases c1 u with ⟨c1,E⟩ | c1
        ·by_cases g:u=b
         ·subst g
          rw [Gi z] at E
          exact .inr ⟨_,_,K,E,.inl ⟨_,_,_,_,_,_,rfl,rfl⟩⟩
         ·rw [eL g] at E
          refine .inl ⟨fun q o hr=>?_,E⟩
          rcases gn.1 o with rfl | o
          ·exact fun e=>g e.symm
          grind
        grind
       grind
      grind
     grind [dO]
    grind
   grind
  | m b i st =>
   simp only [FP] at h
   split at h
   ·rename_i i0 ab l0 v0 K v
    split at h
    ·rename_i a ad ha
     obtain ⟨e,rfl⟩:=yF ha
     subst e
     have:st=ab:=eq_of_beq ad
     subst this
     obtain ⟨L,N,S,T,G,O,b5,U,W⟩:=ih h
     refine ⟨_::L,N,by rw [S,BM]; rfl,T,⟨G.Kc,G.fz⟩,fun I=>O ⟨I.ge,I.fz⟩,fun q o=>?_,fun f d A r h=>?_,fun σs f d σ' r h Z=>?_⟩
     ·rcases gn.1 o with rfl | o
      ·exact tM.mp v
      grind
     ·simp only [List.cons_append,bY,FD] at h
      split at h
      ·rename_i l j0 a7 l1 v1 R z
       simp only [au] at R
       subst R
       obtain ⟨e,c1⟩:=U _ d A r h
       refine ⟨e,fun u=>?_⟩
       rcases c1 u with ⟨c1,E⟩ | c1
       ·by_cases g:u=b
        ·subst g
         rw [Gi z] at E
         exact .inr ⟨_,_,K,E,.inr ⟨_,_,_,_,_,rfl,rfl⟩⟩
        ·rw [eL g] at E
         refine .inl ⟨fun q o hr=>?_,E⟩
         rcases gn.1 o with rfl | o
         ·exact fun e=>g e.symm
         grind
       grind
      grind
     grind [dO]
    grind
   grind
theorem mNBs_ok (hg:∀(b:Nat) w cs,σ1[b]? = some (.cells w cs)→∀p∈cs,GC σ1 p.2):∀{f:List NB} {b:Nat} {s s':MS},Dz m σ1 b f s=some s' →
  ∃ L Z, s'.rw = s.rw ++ L ∧ s'.cl = s.cl ++ Z ∧ Mo s s' ∧ (MI m σ1 s → MI m σ1 s') ∧
   (∀d l r,du f (L++d)=some (l,r)→r=d∧∀(k:Nat) nb,f[k]? = some nb→(∀ps,nb≠.cells ps)→∃j x y,pd (b+k) s'.ρ=some j∧σ1[j]? = some x∧l[k]? = some y∧us x y) ∧
   (∀σs g d l,dH σs f g (Z++d)=some l→∀(k:Nat) nb,f[k]? = some nb →
    (∀ps,nb=.cells ps→∃j w cs ys,pd (b+k) s'.ρ=some j∧σ1[j]? = some (.cells w cs)∧l[k]? = some (.cells 0 ys)∧aJ (CM m σ1 σs s') (cs.map Prod.snd) (ys.map Prod.snd)) ∧
    ((∀ps,nb≠.cells ps)→l[k]? = g[k]?)):=by
 intro f
 induction f with
 | nil =>
  intro b s s' h
  simp only [Dz,au] at h
  subst h
  refine ⟨[],[],by simp,by simp,Mo.refl s,id,fun d l r h=>?_,fun σs g d l h k nb hk=>by grind⟩
  grind [du]
 | cons nb f ih =>
  intro b s s' h
  have sh:∀k:Nat,b+(k+1)=b+1+k:=fun k=>by omega
  cases nb with
  | cells ps =>
   simp only [Dz] at h
   split at h
   ·rename_i j o
    split at h
    ·rename_i w cs u
     split at h
     ·rename_i s1 h1
      obtain ⟨L1,a1,a2,a3,a4,a5⟩:=Rb h1 (fun x hx=>by
       grind)
      obtain ⟨L,v,G,K,q,z,N,O⟩:=ih h
      refine ⟨L,L1++v,by grind,by grind,a3.trans q,fun I=>z (a4 I),fun d l r h=>?_,fun σs g d l h k nb hk=>?_⟩
      ·simp only [du] at h
       grind
      ·rw [BM] at h
       cases g with
       | nil=>grind [dH]
       | cons b0 g =>
        simp only [dH] at h
        split at h
        ·rename_i xs r' A
         split at h
         ·rename_i t R
          simp only [au] at h
          subst h
          obtain ⟨rfl,c1⟩:=a5 σs _ _ _ A
          have c2:=O σs g d t R
          cases k with
          | zero =>
           simp only [List.getElem?_cons_zero,au] at hk
           subst hk
           refine ⟨fun aa e=>?_,fun S=>absurd rfl (S ps)⟩
           refine ⟨j,w,cs,_,q.Kc _ _ (a3.Kc _ _ o),u,by rw [List.getElem?_cons_zero],?_⟩
           rw [UW]
           have:(Prod.snd∘fun x:TC=>(0,x))=id:=rfl
           rw [this,List.map_id]
           grind [aJ.mono,CM.mono]
          | succ k =>
           grind
         grind
        grind
     grind
    grind
   grind
  | row i =>
   simp only [Dz] at h
   split at h
   ·rename_i j o
    split at h
    ·rename_i i0 l0 ab ad u
     split at h
     ·rename_i a T
      obtain ⟨e,rfl⟩:=Rt T
      subst e
      obtain ⟨L,v,G,K,q,z,N,O⟩:=ih h
      refine ⟨_::L,v,by rw [G,BM]; rfl,K,⟨q.Kc,q.fz⟩,fun I=>z ⟨I.ge,I.fz⟩,fun d l r h=>?_,fun σs g d l h k nb hk=>?_⟩
      ·simp only [List.cons_append,du,FD] at h
       split at h
       ·rename_i a' t r' E A
        simp only [au,aT] at h E
        subst E
        obtain ⟨rfl,rfl⟩:=h
        obtain ⟨e,c1⟩:=N d t _ A
        refine ⟨e,fun k nb hk S=>?_⟩
        cases k with
        | zero=>exact ⟨j,_,_,q.Kc _ _ o,u,by rw [List.getElem?_cons_zero],.inl ⟨_,_,_,_,_,_,rfl,rfl⟩⟩
        | succ k=>grind
       grind
      ·cases g with
       | nil=>grind [dH]
       | cons b0 g =>
        simp only [dH] at h
        split at h
        ·rename_i t R
         simp only [au] at h
         grind
        grind
     grind
    grind
   grind
  | mp i st =>
   simp only [Dz] at h
   split at h
   ·rename_i j o
    split at h
    ·rename_i i0 U l0 v0 u
     split at h
     ·rename_i a W T
      obtain ⟨e,rfl⟩:=yF T
      subst e
      have:st=U:=eq_of_beq W
      subst this
      obtain ⟨L,v,G,K,q,z,N,O⟩:=ih h
      refine ⟨_::L,v,by rw [G,BM]; rfl,K,⟨q.Kc,q.fz⟩,fun I=>z ⟨I.ge,I.fz⟩,fun d l r h=>?_,fun σs g d l h k nb hk=>?_⟩
      ·simp only [List.cons_append,du,FD] at h
       split at h
       ·rename_i a' t r' E A
        simp only [au,aT] at h E
        subst E
        obtain ⟨rfl,rfl⟩:=h
        obtain ⟨e,c1⟩:=N d t _ A
        refine ⟨e,fun k nb hk S=>?_⟩
        cases k with
        | zero=>exact ⟨j,_,_,q.Kc _ _ o,u,by rw [List.getElem?_cons_zero],.inr ⟨_,_,_,_,_,rfl,rfl⟩⟩
        | succ k=>grind
       grind
      ·cases g with
       | nil=>grind [dH]
       | cons b0 g =>
        simp only [dH] at h
        split at h
        ·rename_i t R
         simp only [au] at h
         subst h
         have c2:=O σs g d t R
         cases k with
         | zero =>
          grind
         | succ k =>
          grind
        grind
     grind
    grind
   grind
end
end Go.Abs
end
section
namespace Go.Abs
noncomputable section
variable[Gl][Y:Ty]
variable{σ σ1 F:TH}{σD σ1D:ar}{s:MS}{ct:CT}
theorem us.er{x y:TB}(h:us x y):y.er=x.er:=by rcases h with ⟨i,l,z,A,o,u,rfl,rfl⟩ | ⟨j,st,l,v,E,rfl,rfl⟩ <;> rfl
theorem Jc{j:Nat}{st:Bool}:∀(l:List (Int×TT j))(i:Nat),((Ac (K_ j st) i l).all λe=>e.2.1.low 0)=true:=by
 intro l;induction l with
 |nil=>intro i;rfl
 |cons p l ih=>
  intro i;obtain ⟨k,a⟩:=p;simp only[Ac,List.all_cons,ih,Kk];unfold K_;split
  ·have:∀b:List C,D.low.cL 0 (b.map .c)=true:=by
    intro b;induction b with
    |nil=>rfl
    |cons c b ih=>simp only[tn,D.low.cL,D.low,ih,Kk]
   exact this _
  ·rfl
theorem aJ.GL{α o:Type}{R:α->o->Prop}:∀{l:List α}{i:List o},l.length=i.length->(∀(j:Nat) a b,l[j]? = some a->i[j]? = some b->R a b)->aJ R l i:=by
 intro l;induction l with
 |nil=>
  intro i h _;cases i with
  |nil=>exact .nil
  |cons _ _=>simp at h
 |cons a l ih=>
  intro i h u;cases i with
  |nil=>simp at h
  |cons b i=>exact .cons (u 0 a b rfl rfl) (ih (by simp_all) λj x y z A=>u (j+1) x y z A)
theorem aJ.map{α i j o:Type}{R:j->o->Prop}{f:α->j}{g:i->o}{u:α->i->Prop}(h:∀a b,u a b->R (f a) (g b)){l:List α}{z:List i}(a:aJ u l z):aJ R (l.map f) (z.map g):=by
 induction a with
 |nil=>exact .nil
 |cons x _ ih=>exact .cons (h _ _ x) ih
theorem GC.low{x:TC}(g:GC σ x):x.er.low σ.length=true:=by
 cases x with
 |own i c v n=>
  obtain ⟨blk,j,_⟩:=g;simp only[TC.er,D.low,br]
  grind
 |op i c v n k a off=>
  obtain ⟨blk,j,_⟩:=g;simp only[TC.er,D.low,br]
  grind
 |os i c v n o len=>
  obtain ⟨blk,j,_⟩:=g;simp only[TC.er,D.low,br]
  grind
 |ap c off len sz k=>simp only[TC.er,D.low,br];exact g
 |d x=>exact g
 |FQ f u=>exact CE g
 |_=>rfl
def il(m:Nat)(s:MS)(b:Nat):Nat:=if b<m then b else (pd b s.ρ).getD 0
theorem Bd.Kc{m b j:Nat}(h:Bd m s b j):il m s b=j:=by
 rcases h with ⟨o,i⟩ | ⟨o,i⟩
 ·rw[il,if_pos o,i]
 ·rw[il,if_neg (by omega),i];rfl
def BF(σ σ1 σs F:TH)(s:MS)(i:Nat):Prop:=∃x y,σ1[il σ.length s i]? = some x/\F[i]? = some y /\
 ((∃w e w' d,x=.cells w e/\y=.cells w' d/\aJ (λa b=>CM σ.length σ1 σs s a b∨(a=b/\GC σ a)) (e.map Prod.snd) (d.map Prod.snd))∨us x y)
structure MX (σ σ1 σs F:TH) (s:MS) (n:Nat):Prop where
 len:F.length=σ.length+n
 Qm:σs.length=F.length
 sr:SR σs F
 bf:∀i,i<F.length->BF σ σ1 σs F s i
 mi:MI σ.length σ1 s
 nd:yf (s.ρ.map Prod.snd)=true
 fz:∀b∈s.fz,σ.length<=b/\b∉s.ρ.map Prod.snd
 kn:∀i,σ.length<=i->i<F.length->∃b',pd i s.ρ=some b'
theorem uH{i o:Nat}:∀{l:List (Nat×Nat)},pd i l=some o->(i,o)∈l:=by
 intro l;induction l with
 |nil=>grind [pd]
 |cons p l ih=>grind [pd,Nat.eq_of_beq_eq_true]
theorem Ub:∀{l:List (Nat×Nat)},yf (l.map Prod.snd)=true->∀i j o,(i,o)∈l->(j,o)∈l->i=j:=by
 intro l;induction l with
 |nil=>simp_all
 |cons p l ih=>
  intro h i j o a b;simp only[tn,yf,bG,iF,yCf] at h;have no:∀k,(k,p.2)∈l->False:=λk hk=>h.1 p.2 (iT.2 ⟨_,hk,rfl⟩) (yCl _)
  grind
section
variable{σs:TH}{n:Nat}(X:MX σ σ1 σs F s n)(H1:RH σ1 σ1D)
include X H1
theorem MX.rn:Rn σ.length σ1D (F.map TB.er) (il σ.length s) (λb=>b∈s.fz):={
 le:=by grind [MX.len]
 id:=λi u=>by rw[il,if_pos u]
 inj:=λi j u E e=>by
  rw[xw] at u E;unfold il at e;split at e
  ·rename_i h1;split at e
   ·exact e
   ·rename_i h2;obtain ⟨o,z⟩:=X.kn j (by omega) E;rw[z] at e;have:=(X.mi.ge _ (uH z)).2
    grind
  ·rename_i h1;obtain ⟨o,z⟩:=X.kn i (by omega) u;split at e
   ·rw[z] at e;have:=(X.mi.ge _ (uH z)).2
    grind
   ·obtain ⟨R,A⟩:=X.kn j (by omega) E;rw[z,A] at e;simp only[Option.getD_some] at e;subst e;exact Ub X.nd i j o (uH z) (uH A)
 fr:=λi u K=>by
  rw[xw] at u;obtain ⟨h1,h2⟩:=X.fz _ K;unfold il at h1 h2;split at h1
  ·omega
  ·rename_i G;rw[if_neg G] at h2;obtain ⟨o,z⟩:=X.kn i (by omega) u;rw[z] at h2;exact h2 (iT.2 ⟨_,uH z,rfl⟩)
 row:=λb O=>by obtain ⟨i,l,U,W,h⟩:=X.mi.fz b O;exact ⟨i,l,H1.row h⟩
 sz:=λi u=>by
  rw[xw] at u;obtain ⟨x,y,h1,h2,Z⟩:=X.bf i u;refine ⟨x.er,y.er,by rw[H1.eqD,lY,h1];rfl,by simp_all,?_⟩
  grind [aJ.len,List.length_map,TB.er,Ob.sz,us.er] }
theorem MX.cell{x y:TC}(c:CM σ.length σ1 σs s x y):dh σ1D (F.map TB.er) (il σ.length s) (λb=>b∈s.fz) x.er y.er:=by
 have N:=X.rn H1;rcases c with ⟨c1,c2,_⟩ | ⟨i,b,v,l,U,rfl,o,z,u⟩ | ⟨i,b,A,v,l0,aa,j,lv,l,U,rfl,o,z,rfl,h5⟩ | ⟨b,A,off,sz,rfl,o,rfl,u⟩ | ⟨b,A,rfl,o,rfl,u⟩ | ⟨f,b,A,sz,rfl,o,rfl,u⟩
 ·grind [dh.le,dh.data]
 ·rw[u];exact dh.cB N o (H1.row z)
 ·have W:=X.sr.row b j l lv U h5;have E:=(gg.1 W).1;obtain ⟨x,y,G,K,O⟩:=X.bf b E;have q:=o.Kc;subst q;rw[z] at G;rw[W] at K;simp only[au] at G K;subst G K;rcases O with ⟨w,cs,w',ab,e,_⟩ | O
  ·simp at e
  ·rcases O with ⟨i',l',_,_,_,_,R,Z⟩ | ⟨_,_,_,_,_,R,_⟩
   ·simp only[TB.row.injEq] at R Z;obtain ⟨rfl,e6,_,_⟩:=R;obtain ⟨rfl,e7,_,_⟩:=Z;cases e6;cases e7;exact dh.sl N (by simp_all)
   simp_all
 ·have:=dh.ptr (F:=λb=>b∈s.fz) N (i:=b) (off:=off) (sz:=sz) (by grind [MX.Qm]);rw[o.Kc] at this;exact this
 ·have:=dh.mp (F:=λb=>b∈s.fz) N (i:=b) (by grind [MX.Qm]);rw[o.Kc] at this;exact this
 ·have:=dh.ptr (F:=λb=>b∈s.fz) N (i:=b) (off:=0) (sz:=sz) (by grind [MX.Qm]);rw[o.Kc] at this;exact dh.fn1 this
theorem MX.rnH:QR σ.length σ1D (F.map TB.er) (il σ.length s) (λb=>b∈s.fz):={
 toRn:=X.rn H1
 ob:=λi A=>by
  rw[xw] at A;obtain ⟨x,y,h1,h2,E⟩:=X.bf i A;refine ⟨x.er,y.er,by rw[H1.eqD,lY,h1];rfl,by simp_all,?_⟩;rcases E with ⟨w,U,w',G,rfl,rfl,o⟩ | o
  ·refine ⟨_,rfl,?_⟩;have:=aJ.map (R:=dh σ1D (F.map TB.er) (il σ.length s) (λb=>b∈s.fz)) (f:=TC.er) (g:=TC.er) (λa b h=>?_) o
   ·rw[UW,UW] at this;exact this
   ·rcases h with h | ⟨rfl,h⟩
    ·exact X.cell H1 h
    ·exact dh.low (X.rn H1) h.low
  ·rw[o.er];rcases o with ⟨j,l,W,Z,K,O,rfl,rfl⟩ | ⟨j,st,l,v,v',rfl,rfl⟩
   ·refine ⟨_,rfl,aJ.GL rfl λk a b u z=>?_⟩;rw[u] at z;simp only[au] at z;subst z;rw[lY,cu] at u;obtain ⟨c,_,rfl⟩:=u;exact dh.data (X.rn H1) rfl
   ·exact ⟨rfl,Jc l 0⟩ }
theorem MX.val{v y:TV}{d:D}(h:VM σ.length σ1 σs s v y)(i:RT v d):dh σ1D (F.map TB.er) (il σ.length s) (λb=>b∈s.fz) d (eD y):=by
 have cell:∀{x y:TC}{d:D},CM σ.length σ1 σs s x y->RC x d->dh σ1D (F.map TB.er) (il σ.length s) (λb=>b∈s.fz) d y.er:=λ{x y d} c r=>by
  rcases r with rfl | rfl
  ·exact dh.le (λ_ _ _ _ _ _=>.any _) (X.cell H1 c)
  ·exact X.cell H1 c
 cases v with
 |c x => cases y with
  |c y=>exact cell h i
  |_=>exact h.elim
 |agg u => cases y with
  |agg K=>
   obtain ⟨ds,rfl,i⟩:=i;refine dh.agg (aJ.GL ?_ λj a b z o=>?_)
   ·rw[<-i.len,xw];exact aJ.len h
   ·rw[lY,cu] at o;obtain ⟨y,A,rfl⟩:=o;obtain ⟨x,O,R⟩:=aJ.get' h j y A;obtain ⟨U,E,G⟩:=i.get' j a z
    grind
  |_=>exact h.elim
 |aQ u=>exact h.elim
theorem MX.valL{vs j:List TV}{ds:List D}(h:aJ (VM σ.length σ1 σs s) vs j)(i:fG vs ds):aJ (dh σ1D (F.map TB.er) (il σ.length s) (λb=>b∈s.fz)) ds (j.map eD):=by
 induction h generalizing ds with
 |nil=>cases i;exact .nil
 |cons h _ ih=>
  cases i with
  |cons r i=>exact .cons (X.val H1 h r) (ih i)
theorem MX.vals{vs j:List TV}{ds:List D}(h:aJ (VM σ.length σ1 σs s) vs j)(o:fG vs ds):dh σ1D (F.map TB.er) (il σ.length s) (λb=>b∈s.fz) (one ds) (one (j.map eD)):=by
 have i:aJ (dh σ1D (F.map TB.er) (il σ.length s) (λb=>b∈s.fz)) ds (j.map eD):=by
  induction h generalizing ds with
  |nil=>cases o;exact .nil
  |cons h _ ih=>
   cases o with
   |cons r o=>exact .cons (X.val H1 h r) (ih o)
 generalize j.map eD=es at i ⊢;cases i with
 |nil=>exact dh.aQ .nil
 |cons h r=>
  cases r with
  |nil=>exact h
  |cons u r=>exact dh.aQ (.cons h (.cons u r))
end
end
end Go.Abs
end
section
namespace Go.Abs
noncomputable section
variable[Gl][Y:Ty]
variable{σ σ1 F:TH}{σD σ1D:ar}{ct:CT}
theorem notW_of{b:Nat}{ps:List PC}(h:∀p∈ps,p.rw=true->p.blk≠b):notW (ps.map PC.pl) b/\notM (ps.map PC.pl) b:=by
 refine ⟨λi a=>?_,λj st a=>?_⟩
 ·rw[iT] at a;obtain ⟨p,d,e⟩:=a;cases p with
  |w f g=>simp only[PC.pl,Pl.w.injEq] at e;exact h _ d rfl e.1
  |h=>grind [PC.pl]
  |m=>grind [PC.pl]
 ·rw[iT] at a;obtain ⟨p,d,e⟩:=a;cases p with
  |m f g=>simp only[PC.pl,Pl.m.injEq] at e;exact h _ d rfl e.1
  |h=>grind [PC.pl]
  |w=>grind [PC.pl]
theorem notH_of{b j:Nat}{ps:List PC}(h:∀p,PC.h b j p∉ps):notH (ps.map PC.pl) b j:=by
 intro c a;rw[iT] at a;obtain ⟨p,d,e⟩:=a;cases p with
 |h f g i=>grind [PC.pl]
 |w=>grind [PC.pl]
 |m=>grind [PC.pl]
theorem mx_of{rs rv:List TV}{x:dA ct.items}{ds:List kl}{s1 s2 s:MS}(hs:eC (ct.pl.map PC.pl) 0 σ σ1=true)(h1:Ik σ.length σ1 ct.out rs ⟨[],[],[],[]⟩=some s1)(h2:FP σ.length σ σ1 ct.pl s1=some s2)(h3:Dz σ.length σ1 σ.length ct.nb s2=some s)
  (T:(yf (s.ρ.map Prod.snd)&&(s.fz.all (λb=>Nat.ble σ.length b&&!((s.ρ.map Prod.snd).any (Nat.beq b)))&&s.ρ.all λp=>Nat.blt p.1 (σ.length+ct.nb.length)))=true) (h:uN ct.items (s.rw++s.cl)=some x)
  (L:Laid ct σ ds rv F) (af:dL ct.items x=ds) (H:RH σ σD) (H1:RH σ1 σ1D) (E:Ext σ σ1) (g:∀v∈rs,GV σ1 v) :
  ∃σs,MX σ σ1 σs F s ct.nb.length/\aJ (VM σ.length σ1 σs s) rs rv:=by
 simp only[bG,iB] at T;obtain ⟨ak,an,a8⟩:=T;have hS:=zdo H hs E;have hg:∀(b:Nat) w d,σ1[b]? = some (.cells w d)->∀p∈d,GC σ1 p.2:=λb w d K p hp=>(H1.hg b w d K p hp).1;obtain ⟨La,a1,a2,a3,a4,a5⟩:=mROs_ok h1 g;obtain ⟨L2,Lb,b1,b2,b3,b4,b5,b6,b7⟩:=mPCs_ok hg h2;obtain ⟨L3,Lc,c1,c2,c3,c4,c5,c6⟩:=mNBs_ok hg h3;have hq:ds=L2++(L3++(La++(Lb++(Lc++[])))):=by grind [Xk]
 clear af;subst hq;have Ro:=gJ L.h1 H;have C:=kW L.h4;have S:=L.sr;obtain ⟨n1,_,_⟩:=zu L.h5;obtain ⟨e1,r1⟩:=b6 σ _ _ _ L.h1;have q2:=L.h2;rw[e1] at q2;obtain ⟨e2,r2⟩:=c5 _ _ _ q2;have q3:=L.h3;rw[e2] at q3;obtain ⟨e3,r3⟩:=a5 _ _ _ _ q3;have q4:=L.h4;rw[e3] at q4;have hl:∀(b:Nat) w d w1 t,L.iA[b]? = some (.cells w d)->σ1[b]? = some (.cells w1 t)->d.length=t.length:=λb w d w1 t x y=>by
  obtain ⟨N,z,o⟩:=hS b _ ((Ro.cells b w d).2 x);obtain ⟨w2,av,rfl,hl,_⟩:=o
  grind
 obtain ⟨e4,r4,r5⟩:=b7 _ _ _ _ _ q4 hl;have q5:=L.h5;rw[e4] at q5;have r6:=c6 _ _ _ _ q5;have ax:L.aA.length=σ.length:=by rw[C.len,Ro.len]
 have Z:F.length=σ.length+ct.nb.length:=by grind [Laid.fl]
 have a0:∀k:Nat,F[σ.length+k]? = L.l[k]?:=λk=>by grind [Laid.fa]
 refine ⟨L.iA++L.nb,⟨Z,S.len.symm,S,λi hi=>?_,?_,ak,λb K=>?_,λi hi a9=>?_⟩,aJ.mono (λ_ _=>VM.mono (b3.trans c3)) r3⟩
 ·rcases si i σ.length with f | a6
  ·have aa:il σ.length s i=i:=by rw[il,if_pos f]
   have K:=eH f;obtain ⟨N,x1,o⟩:=hS i _ K;unfold BF;rw[aa];have rm:(∀w d,σ[i]≠.cells w d)->∃x y,σ1[i]? = some x/\F[i]? = some y/\us x y:=λhn=>by
    rcases r1 i with ⟨O,t2⟩ | ⟨x,y,O,t2,U⟩
    ·have hr:L.iA[i]? = some σ[i]:=by grind
     have hF:F[i]? = some σ[i]:=by rw[L.lt H f];exact C.same i _ hr hn
     obtain ⟨nw,nm⟩:=notW_of O;refine ⟨N,_,x1,hF,?_⟩;cases r:σ[i] with
     |cells w d=>grind
     |row i0 l lv cv=>rw[r] at o;obtain ⟨l1,bb,bc,rfl,o⟩:=o;obtain ⟨rfl,rfl,rfl⟩:=o nw;exact .inl ⟨_,_,_,_,_,_,rfl,rfl⟩
     |mp j st l v=>rw[r] at o;obtain ⟨j1,bd,l1,W,rfl,o⟩:=o;have:=o nm;rw[this];exact .inr ⟨_,_,_,_,_,rfl,rfl⟩
    ·refine ⟨x,y,O,?_,U⟩;rw[L.lt H f];refine C.same i y t2 λw d e=>?_;subst e;rcases U with ⟨_,_,_,_,_,_,_,e⟩ | ⟨_,_,_,_,_,_,e⟩ <;> simp at e
   cases r:σ[i] with
   |row i0 l lv cv=>grind
   |mp j st l v=>grind
   |cells w d=>
    rw[r] at o K;obtain ⟨w1,t,rfl,l1,o⟩:=o;have hr:=(Ro.cells i w d).1 K;obtain ⟨w',a7,O,t2⟩:=r5 i w d hr;obtain ⟨w2,av,U,_,t4,_⟩:=C.fwd i w d hr;rw[O] at U;simp only[au,TB.cells.injEq] at U;obtain ⟨rfl,rfl⟩:=U;refine ⟨_,_,x1,by rw[L.lt H f];exact O,.inl ⟨w1,t,w',a7,rfl,rfl,aJ.GL (by grind) λj a b ha u=>?_⟩⟩;rw[lY,cu] at ha u;obtain ⟨p,ha,rfl⟩:=ha;obtain ⟨q,u,rfl⟩:=u;by_cases ab:∃c,PC.h i j c∈ct.pl
    ·obtain ⟨c,T⟩:=ab;obtain ⟨w3,be,w4,bh,x,y,u1,u2,u3,u4,u5⟩:=r4 i j c T;rw[x1] at u1;rw[O] at u2;simp only[au,TB.cells.injEq] at u1 u2;obtain ⟨_,rfl⟩:=u1;obtain ⟨_,rfl⟩:=u2;rw[ha] at u3;rw[u] at u4;simp only[au] at u3 u4;subst u3 u4;exact .inl (u5.mono c3)
    ·have ad:∀c,PC.h i j c∉ct.pl:=λc T=>ab ⟨c,T⟩;have hj:j<d.length:=by grind
     have h0:=eH hj;have W:=o j _ p h0 ha (notH_of ad);have v2:=t2 j ad;rw[u,h0] at v2;simp only[au] at v2;refine .inr ⟨by grind,?_⟩;rw[W];exact (H.hg i w d K _ (Am h0)).1
  ·obtain ⟨k,rfl⟩:=yB6 a6;have hk:k<ct.nb.length:=by omega
   have R:=eH hk;obtain ⟨u1,u2⟩:=r6 k _ R;unfold BF;rw[a0];by_cases G:∃A,ct.nb[k]=.cells A
   ·obtain ⟨A,e⟩:=G;obtain ⟨b',w,d,ys,W,v2,v3,v4⟩:=u1 A e;rw[il,if_neg (by omega),W];exact ⟨_,_,v2,v3,.inl ⟨w,d,0,ys,rfl,rfl,aJ.mono (λ_ _ h=>.inl h) v4⟩⟩
   ·have hn:∀A,ct.nb[k]≠.cells A:=λA e=>G ⟨A,e⟩;obtain ⟨b',x,y,W,v2,v3,v4⟩:=r2 k _ R hn;rw[il,if_neg (by omega),W,u2 hn]
    grind
 ·exact c4 (b4 (a4 ⟨by simp,by simp⟩))
 ·have:=an b K;simp only[bG,iF,yCf] at this;exact ⟨Cq this.1,λhm=>this.2 b hm (yCl b)⟩
 ·obtain ⟨k,rfl⟩:=yB6 hi;have hk:k<ct.nb.length:=by omega
  have R:=eH hk;by_cases G:∃A,ct.nb[k]=.cells A
  ·obtain ⟨A,e⟩:=G
   grind
  grind
theorem absI_mx{rs rv:List TV}{x:dA ct.items}{ds:List kl}(h:WX ct σ σ1 rs=some x)(L:Laid ct σ ds rv F)(a:dL ct.items x=ds)(H:RH σ σD)(H1:RH σ1 σ1D)(E:Ext σ σ1)(g:∀v∈rs,GV σ1 v) :
  ∃s σs,MX σ σ1 σs F s ct.nb.length/\aJ (VM σ.length σ1 σs s) rs rv:=by
 unfold WX at h;split at h
 ·simp at h
 rename_i hs;split at h
 ·simp at h
 rename_i s1 b;split at h
 ·simp at h
 rename_i i d;split at h
 ·simp at h
 rename_i s e;split at h
 rotate_left
 ·simp at h
 rename_i f;exact ⟨s,mx_of hs b d e f h L a H H1 E g⟩
theorem Zm{σ σ1:TH}{rs:List TV}{ct:CT}{x:dA ct.items}:∀{cs:List CT}{y:qa cs},Tq σ σ1 rs cs=some y->tq cs y=some ⟨ct,x⟩->WX ct σ σ1 rs=some x:=by
 intro cs;induction cs with
 |nil=>grind
 |cons c cs ih=>
  intro y h hs;cases cs with
  |nil=>
   simp only[Tq] at h;simp only[tq,au,ZD] at hs
   grind
  |cons d cs=>
   simp only[Tq] at h;split at h
   ·rename_i a f;simp only[au] at h;subst h;simp only[tq,au,ZD] at hs
    grind
   ·split at h
    ·rename_i b e;simp only[au] at h;subst h;exact ih (y:=b) e hs
    simp_all
theorem zip3{σ:TH}{vs:List TV}{ds:List D}(a:fG vs ds):(∀v∈vs,GV σ v)->∀(i t:Nat)(x:RV)(p:Nat),iC t (AK i vs)=some (x,p)->∃d v,x=.v v/\lk t (ke i ds)=some d/\RT v d/\GV σ v:=by
 induction a with
 |nil=>grind [AK,iC]
 |cons b _ ih=>
  intro g i t x p h;simp only[AK,iC] at h;simp only[ke,lk]
  grind
theorem fG.len{vs:List TV}{ds:List D}(a:fG vs ds):vs.length=ds.length:=by
 induction a with
 |nil=>rfl
 |cons _ _ ih=>simp[ih]
def cY.ok(P:Program)(B:cY):Prop:=∀(i:List CT)(j:FuncId)(o:List TV)(σ:TH)(y:qa i)(ct:CT)(x:dA ct.items)(rv:List TV)(aA:TH)(σD:ar)(ds:List D),B i j o σ=some y->tq i y=some ⟨ct,x⟩->mO ct σ x=some (rv,aA)->RH σ σD->fG o ds->(∀v∈o,GV σ v) ->
 aS P j=true/\Ok P j ds σD (one (rv.map eD)) (aA.map TB.er)
theorem cY.ok.inl{P:Program}{B:cY}(A:cY.ok P B)(S:tH)(H:List (Nat×Nat))(J:List (Nat×JH))(C:List (Nat×List CT))(n N:Nat)(X:NQ)(E:Ew):Yy ⟨P,S,H,J,C,n,N,B,X,E⟩:=by
 intro G K O σ y ct x rv aA σD ds h j i z o u;obtain ⟨R,U⟩:=A G K O σ y ct x rv aA σD ds h j i z o u;obtain ⟨L⟩:=lW i;obtain ⟨W,Z,k3,k4,k5,k6⟩:=L.all z
 grind
def NQ.ok(P:Program)(X:NQ):Prop:=∀(ct:CT)(j:FuncId)(o:List TV)(σ:TH)(rv:List TV)(aA:TH)(σD:ar)(ds:List D),X ct j o σ=some (rv,aA)->RH σ σD->fG o ds->(∀v∈o,GV σ v) ->
 aS P j=true/\∃r i,RH aA i/\RT (wE rv) r/\GV aA (wE rv)/\Ext σ aA/\Ok P j ds σD r i/\(∀b,b<σD.length->i[b]? = σD[b]?)
theorem NQ.ok.two{P:Program}{X:NQ}(i:NQ.ok P X)(S:tH)(H:List (Nat×Nat))(J:List (Nat×JH))(C:List (Nat×List CT))(n N:Nat)(B:cY)(j:Ew):ExOk ⟨P,S,H,J,C,n,N,B,X,j⟩:=i
theorem inl1xok{P:Program}{S:tH}{N:Nat}{B I:cY}{X:NQ}{E:Ew}(dx:P.follows .mixedOrders=true)(R:fh P S)(T:cY.ok P B)(U:cY.ok P I)(W:NQ.ok P X):cY.ok P (inl1 P S N B E I X):=by
 intro u Z G σ y ct x rv aA σD ds h g j l k o;cases u with
 |nil=>grind
 |cons e u=>
  simp only[inl1] at h;split at h
  ·exact T _ Z G σ y ct x rv aA σD ds h g j l k o
  split at h
  ·rename_i fn hg;split at h
   ·rename_i r hc;split at h
    ·rename_i K;simp only[bG] at K;obtain ⟨L⟩:=lW j;have R0:Ref (AK 0 G) σ (ke 0 ds) σD:=⟨l,λt x p h=>by
      obtain ⟨d,v,rfl,h1,h2,h3⟩:=zip3 k o 0 t x p h;exact ⟨d,h1,h2,h3⟩⟩
     refine ⟨K.1,?_⟩;refine qg hg hc (by rw[<-k.len];simp_all) ?_;refine (Wa ⟨P,S,e.H,e.J,e.C,r.ntmps,N,I,X,E⟩ dx R ⟨U.inl _ _ _ _ _ _ _ _,W.two _ _ _ _ _ _ _ _⟩ r.body 1 _ _ _ y _ _ h R0).eT λx' q a hP=>.inl ?_;obtain ⟨z,σ',p1,_,p3,p4⟩:=hP;have fin:(match FC (FV z σ') r.results with | some rs=>Tq σ σ' rs (e::u) | none=>none)=some y->∃f ρ F,r.results.mapM (pF q a)=some f/\QR σD.length a (aA.map TB.er) ρ F/\(∀b,F b->σD.length<=b)/\dh a (aA.map TB.er) ρ F (one f) (one (rv.map eD)):=by
      intro O;split at O
      ·rename_i rs A;obtain ⟨f,h5,h6,h7⟩:=Jy p1 A;have h8:=Zm O g;obtain ⟨s,σs,X,hv⟩:=absI_mx h8 L rfl l p1.hh p3 h7;refine ⟨f,_,_,h5,by rw[l.len];exact X.rnH p1.hh,λb hb=>by rw[l.len];exact (X.fz b hb).1,X.vals p1.hh hv h6⟩
      simp_all
     cases x' with
     |exit i=>grind
     |normal=>grind
     |ret=>grind
    simp_all
   simp_all
  simp_all
theorem Yv{n:Nat}{x:TC}(h:Zg n x=true):x≠.any:=λe=>by grind [Zg]
theorem Oh{σ:TH}{x:TC}(h:Zg σ.length x=true):GC σ x:=by
 cases x with
 |d x=>exact h
 |own=>grind [Zg]
 |op=>grind [Zg]
 |ap=>grind [Zg]
 |os=>grind [Zg]
 |FQ=>grind [Zg]
 |_=>trivial
theorem exV_eD{n:Nat}{v:TV}{d:D}(h:ZB n v=true)(r:RT v d):d=eD v:=by
 cases v with
 |c x=>exact RT.c1 (Yv h) r
 |agg a=>obtain ⟨ds,rfl,hd⟩:=r;simp only[ZB,iB] at h;rw[hd.eq λy b=>Yv (h y b)];rfl
 |aQ a=>grind [ZB]
theorem exV_nt{n:Nat}{v:TV}(h:ZB n v=true):nT v:=by
 cases v with
 |aQ a=>grind [ZB]
 |_=>trivial
theorem exV_gv{σ:TH}{v:TV}(h:ZB σ.length v=true):GV σ v:=by
 cases v with
 |c x=>exact Oh h
 |agg a=>simp only[ZB,iB] at h;exact λx b=>Oh (h x b)
 |aQ a=>grind [ZB]
theorem exVs_eD{n:Nat}:∀{vs:List TV}{ds:List D},vs.all (ZB n)=true->fG vs ds->ds=vs.map eD:=by
 intro vs;induction vs with
 |nil=>intro ds _ h;cases h;rfl
 |cons v vs ih=>
  intro ds h a;cases a with
  |cons r a=>
   simp only[List.all_cons,bG] at h
   grind [exV_eD]
theorem H_{pl:List Pl}{σ σ1:TH}(h:eC pl 0 σ σ1=true):σ.length<=σ1.length:=by
 rcases si σ1.length σ.length with a | b
 ·obtain ⟨blk,d,_⟩:=BG h σ1.length _ (eH a)
  simp_all
 omega
theorem Ou{P:Program}{g:FuncId}{fn:Func}{i:kS}{fz:Bool}{ds:List D}{r:D}{σ aA:ar}(hg:P.funcs[g]? = some fn)(j:gM P fn fz=some i)(u:ds.length<=i.ntmps)
  (h:Sem P i.body i.ntmps (ke 0 ds) σ λx al σ1=>(x=.normal∨x=.ret)/\∃a,i.results.mapM (pF al σ1)=some a/\σ1=aA/\one a=r):Ok P g ds σ r aA:=by
 unfold gM at j;split at j
 ·rename_i c hb;split at j
  ·rename_i ac rs h1 h2;simp only[au] at j;subst j;dsimp only at h u;intro M Fz w f R hs G;refine mS hg hb ?_;have A0:eI fn.ntmps σ M Fz w (ke 0 ds) (f++Array.replicate (fn.ntmps-f.size) undef):=by
    refine ⟨by simp_all,λt d K=>?_⟩;obtain ⟨_,Z⟩:=D_ ds 0 t d K;rw[Nat.sub_zero] at Z;have L:t<f.size:=by grind
    exact ⟨f[t],by grind,G t d _ Z (rG L)⟩
   refine Kt (h c h1 M Fz w { tmps:=f++Array.replicate (fn.ntmps-f.size) undef,defers:=[] } _ R A0 λx e σ' a' w' M' Fz' hQ hd R' E EV hl=>?_);obtain ⟨hx,a,hm,rfl,rfl⟩:=hQ;have N:rs.mapM (Np (xC fn.ntmps e) σ')=some a:=by
    have aa:∀(l:List (Nat×Option (Option Nat))) a,l.mapM (pF e σ')=some a->l.mapM (Np (xC fn.ntmps e) σ')=some a:=by
     intro l;induction l with
     |nil=>simp_all
     |cons p l ih=>
      intro a h;rw[Uk] at h ⊢;cases y:pF e σ' p with
      |none=>simp_all
      |some d=>
       rw[y] at h;have:Np (xC fn.ntmps e) σ' p=some d:=by
        obtain ⟨t,o⟩:=p;cases o with
        |none=>exact E.c_.2.2 t d y
        |some k=>
         simp only[pF] at y;split at y
         ·rename_i b off sz O;simp only[Np,E.c_.2.2 t _ O];exact y
         simp_all
       rw[this];cases hr:l.mapM (pF e σ') with
       |none=>simp_all
       |some q=>simp_all
    simp_all
   have S:xX x=.normal∨xX x=.ret:=by rcases hx with rfl | rfl <;> simp[xX]
   refine ⟨S,Mk.end hd R' EV λw'' z A mv=>?_⟩;have T:eI fn.ntmps σ' M' Fz' w'' e a'.tmps:=⟨E.1,λt d K=>by obtain ⟨v,q1,q2⟩:=E.2 t d K;exact ⟨v,q1,mv d v q2⟩⟩
   obtain ⟨v,U,W⟩:=jm (P:=P) z T.c_.1 h2 N;exact ⟨v,U,v,_,_,rfl,z,W,A⟩
  simp_all
 simp_all
theorem SB.er0{b:Nat}{x y:TB}(h:SB [] b x y):y.er=x.er:=by
 cases x with
 |cells w A=>
  obtain ⟨w1,u,rfl,U,o⟩:=h;simp only[TB.er,Ob.cells.injEq];apply TP;intro j;rw[lY,lY];cases e:A[j]? with
  |none=>simp_all
  |some p=>
   have E:j<u.length:=by grind
   have:=o j p _ e (eH E) (λc z=>by grind)
   grind
 |row i l W Z=>
  obtain ⟨G,K,O,rfl,o⟩:=h;obtain ⟨rfl,_,_⟩:=o λc z=>by grind
  rfl
 |mp j st l v=>obtain ⟨j1,R,G,v1,e,o⟩:=h;rw[o λc st z=>by grind]
theorem ex1xok{P:Program}{S:tH}{N:Nat}{I:cY}{X:NQ}{K:Ew}(dx:P.follows .mixedOrders=true)(hS:fh P S)(hI:cY.ok P I)(hX:NQ.ok P X):NQ.ok P (ex1 P S N K I X):=by
 intro ct gi vs σ rv aA σD ds h q j r;unfold ex1 at h;split at h
 ·rename_i fn hg;split at h
  ·rename_i l hc;split at h
   ·rename_i L;simp only[bG] at L;have R0:Ref (AK 0 vs) σ (ke 0 ds) σD:=⟨q,λt x p h=>by
     obtain ⟨d,v,rfl,e,h2,h3⟩:=zip3 j r 0 t x p h;exact ⟨d,e,h2,h3⟩⟩
    obtain ⟨⟨rs,σ1⟩,h,o⟩:=Ak h;have T:=Wa ⟨P,S,ct.H,ct.J,ct.C,l.ntmps,N,I,X,K⟩ dx hS ⟨hI.inl _ _ _ _ _ _ _ _,hX.two _ _ _ _ _ _ _ _⟩ l.body 1 _ _ _ (rs,σ1) _ _ h R0;dsimp only at o;split at o
    rotate_left
    ·grind
    rename_i hk;simp only[bG] at hk;obtain ⟨O,hs,R⟩:=hk;simp only[au,aT] at o;obtain ⟨rfl,rfl⟩:=o;have U:=H_ hs;have ab:(σ++σ1.drop σ.length).length=σ1.length:=by simp_all
    have W:Ext σ (σ++σ1.drop σ.length):=λb blk h=>⟨blk,by grind,BE.refl blk⟩;have u:RH (σ++σ1.drop σ.length) ((σ++σ1.drop σ.length).map TB.er):=by
     refine RH.mk' λb w cs a p Z=>?_;rcases si b σ.length with e | e
     ·rw[HI e] at a;obtain ⟨g1,g2⟩:=q.hg b w cs a p Z;exact ⟨g1.mono W,g2⟩
     ·rw[NG e] at a;rw[iB] at R;have:=R _ (Am a);simp only[sBlk,iB,bG] at this;obtain ⟨t1,t2⟩:=this p Z;exact ⟨Oh (by simp_all),Cq t2⟩
    rw[iB] at O;have y:∀v∈rs,nT v:=λv hv=>exV_nt (O v hv);have z:∀v∈rs,GV (σ++σ1.drop σ.length) v:=λv hv=>exV_gv (by simp_all);refine ⟨L.1,one (rs.map eD),(σ++σ1.drop σ.length).map TB.er,u,Rz y,RZ z,W,?_,λb a=>?_⟩
    ·refine Ou hg hc (by rw[<-j.len];simp_all) (T.eT λx' k g hP=>.inl ?_);obtain ⟨A,σ',p1,_,p3,p4⟩:=hP;have fin:(match FC (FV A σ') l.results with | some rs=>some (rs,σ') | none=>none)=some (rs,σ1)->∃f,l.results.mapM (pF k g)=some f/\g=(σ++σ1.drop σ.length).map TB.er/\one f=one (rs.map eD):=by
      intro E;split at E
      ·rename_i ad G;simp only[au,aT] at E;obtain ⟨rfl,rfl⟩:=E;obtain ⟨f,h5,h6,h7⟩:=Jy p1 G;refine ⟨f,h5,?_,by grind [exVs_eD]⟩;rw[p1.hh.eqD];apply TP;intro b;rw[lY,lY];rcases si b σ.length with e | e
       ·rw[HI e];obtain ⟨aa,e1,e2⟩:=zdo q hs p3 b _ (eH e)
        grind [SB.er0]
       grind [Nat.add_sub_cancel']
      simp_all
     cases x' with
     |exit i=>grind
     |normal=>exact ⟨.inl rfl,fin p4⟩
     |ret=>exact ⟨.inr rfl,fin p4⟩
    grind [RH.eqD]
   simp_all
  simp_all
 simp_all
theorem Of{P:Program}{S:tH}{N:Nat}{B:cY}{b:Ew}(dx:P.follows .mixedOrders=true)(d:fh P S)(e:cY.ok P B):∀(a:Nat),cY.ok P (Qg P S N B b a).1/\NQ.ok P (Qg P S N B b a).2:=by
 intro a;induction a with
 |zero=>exact ⟨λi f g σ y ct x rv aA σD ds h=>by grind [Qg],λct f g σ rv aA σD ds h=>by grind [Qg]⟩
 |succ a ih=>exact ⟨inl1xok dx d e ih.1 ih.2,ex1xok dx d ih.1 ih.2⟩
end
end Go.Abs
end
section
namespace Go.Abs
variable[Gl]
def D.dX(ρ:Nat->Nat):D->D
 |.c x=>.c x
 |.any=>.any
 |.ptr b o s=>.ptr (ρ b) o s
 |.sl b o l e s=>.sl (ρ b) o l e s
 |.mp b=>.mp (ρ b)
 |.fn f a b=>.fn f (wo ρ a) (wo ρ b)
 |.agg ds=>.agg (wo ρ ds)
 |.aQ ds=>.aQ (wo ρ ds)
where wo (ρ:Nat->Nat):List D->List D
 |[]=>[]
 |d::ds=>d.dX ρ::wo ρ ds
theorem CZ(ρ:Nat->Nat)(l:List D):D.dX.wo ρ l=l.map (D.dX ρ):=by
 induction l with
 |nil=>rfl
 |cons d l ih=>grind [D.dX.wo]
theorem kc(ρ:Nat->Nat)(l:List D)(i:Nat):(D.dX.wo ρ l)[i]? = (l[i]?).map (D.dX ρ):=by rw[CZ,lY]
theorem mK(ρ:Nat->Nat)(l:List D):(D.dX.wo ρ l).length=l.length:=by rw[CZ,xw]
def Ob.dX(ρ:Nat->Nat):Ob->Ob
 |.cells j=>.cells (j.map (D.dX ρ))
 |.map o i=>.map (o.map λe=>(e.1,e.2.1.dX ρ,e.2.2)) i
 |.gone n=>.gone n
theorem Ob.ry(ρ:Nat->Nat)(ob:Ob):(ob.dX ρ).sz=ob.sz:=by cases ob <;> simp[Ob.dX,Ob.sz]
section
variable{σ H:ar}{M:Nat->Option Nat}{Fz:Nat->Prop}{w:World}{ρ:Nat->Nat}
theorem V.back{n:Nat}{R:Nat->Option Nat}(hM:∀i,i<n->R i=M (ρ i))(A:∀i,i<n->σ[ρ i]? = (H[i]?).map (Ob.dX ρ)){d:D}{v:Value}(h:V σ M Fz w (d.dX ρ) v):d.low n=true->V H R Fz w d v:=by
 generalize hd:d.dX ρ=d' at h;induction h generalizing d with
 |c h=>intro _;cases d <;> simp only[D.dX,reduceCtorEq,D.c.injEq] at hd;subst hd;exact .c h
 |any v=>intro _;cases d <;> simp only[D.dX,reduceCtorEq] at hd;exact .any v
 |ptr a U h u z=>
  intro j;cases d <;> simp only[D.dX,reduceCtorEq,D.ptr.injEq] at hd
  obtain ⟨rfl,rfl,rfl⟩:=hd;simp only[D.low,br] at j;rw[A _ j,cu] at h;obtain ⟨x,o,rfl⟩:=h;rw[Ob.ry] at u z;exact .ptr a x o u λe=>by simp_all
 |sl a Z cap G U h u z=>
  intro j;cases d <;> simp only[D.dX,reduceCtorEq,D.sl.injEq] at hd
  obtain ⟨rfl,rfl,rfl,rfl,rfl⟩:=hd;simp only[D.low,br] at j;rw[A _ j,cu] at h;obtain ⟨x,o,rfl⟩:=h;rw[Ob.ry] at u z;exact .sl a Z cap G x o u λe=>by simp_all
 |mp c U h z=>
  intro j;cases d <;> simp only[D.dX,reduceCtorEq,D.mp.injEq] at hd
  subst hd;simp only[D.low,br] at j;rw[A _ j,cu] at h;obtain ⟨x,o,rfl⟩:=h;rw[Ob.ry] at z;exact .mp c x o λe=>by simp_all
 |fn E ws o W z hw K O=>
  intro j;cases d <;> simp only[D.dX,reduceCtorEq,D.fn.injEq] at hd
  obtain ⟨rfl,rfl,rfl⟩:=hd;simp only[D.low,bG] at j;rw[mK] at o W;exact .fn E ws o W (λi d v a b=>K i _ v (by grind [kc]) b rfl (D.aV j.1 i d a)) (λi d v a b=>O i _ v (by grind [kc]) b rfl (D.aV j.2 i d a))
 |agg E o z ih=>
  intro j;cases d <;> simp only[D.dX,reduceCtorEq,D.agg.injEq] at hd
  subst hd;simp only[D.low] at j;rw[mK] at o;exact .agg E o (λi d v a b=>ih i _ v (by grind [kc]) b rfl (D.aV j i d a))
 |aQ E o z ih=>
  intro j;cases d <;> simp only[D.dX,reduceCtorEq,D.aQ.injEq] at hd
  subst hd;simp only[D.low] at j;rw[mK] at o;exact .aQ E o (λi d v a b=>ih i _ v (by grind [kc]) b rfl (D.aV j i d a))
theorem V.LW{n:Nat}{E:Nat->Option Nat}(K:∀i,i<n->M (ρ i)=E i)(O:∀i,i<n->σ[ρ i]? = (H[i]?).map (Ob.dX ρ)){d:D}{v:Value}(h:V H E Fz w d v):d.low n=true->V σ M Fz w (d.dX ρ) v:=by
 induction h with
 |c h=>intro _;exact .c h
 |any v=>intro _;exact .any v
 |ptr a u h z o=>intro j;simp only[D.low,br] at j;exact .ptr a (u.dX ρ) (by simp_all) (by grind [Ob.ry]) λe=>by grind [Ob.ry]
 |sl a R cap A u h z o=>intro j;simp only[D.low,br] at j;exact .sl a R cap A (u.dX ρ) (by simp_all) (by grind [Ob.ry]) λe=>by rw[K _ j];exact o (by grind [Ob.ry])
 |mp c u h o=>intro j;simp only[D.low,br] at j;exact .mp c (u.dX ρ) (by simp_all) λe=>by grind [Ob.ry]
 |fn x U G h2 o hw W Z=>
  intro j;simp only[D.low,bG] at j;refine .fn x U (by grind [mK]) (by grind [mK]) (λi d v a b=>?_) (λi d v a b=>?_)
  ·grind [kc,D.aV]
  grind [kc,D.aV]
 |agg x G o ih=>
  intro j;simp only[D.low] at j;refine .agg x (by grind [mK]) (λi d v a b=>?_)
  grind [kc,D.aV]
 |aQ x G o ih=>
  intro j;simp only[D.low] at j;refine .aQ x (by grind [mK]) (λi d v a b=>?_)
  grind [kc,D.aV]
theorem bU.back{n:Nat}{E:Nat->Option Nat}(K:∀i,i<n->E i=M (ρ i))(x:∀i,i<n->σ[ρ i]? = (H[i]?).map (Ob.dX ρ)){ob:Ob}{o:Obj}(O:ob.low n=true)(h:bU σ M Fz w (ob.dX ρ) o):bU H E Fz w ob o:=by
 cases ob with
 |cells W=>obtain ⟨j,T,rfl,u,G⟩:=h;simp only[xw] at u;refine ⟨j,T,rfl,u,λi d v a b=>?_⟩;obtain ⟨R,U⟩:=G i (d.dX ρ) v (by simp_all) b;exact ⟨V.back K x R (D.aV O i d a),U⟩
 |map Z z=>
  obtain ⟨j,A,u,G⟩:=h;simp only[xw] at u;refine ⟨j,A,u,λi k d m e a b=>?_⟩
  grind [Ob.low,V.back]
 |gone m=>exact h
theorem bU.LW{n:Nat}{A:Nat->Option Nat}(K:∀i,i<n->M (ρ i)=A i)(u:∀i,i<n->σ[ρ i]? = (H[i]?).map (Ob.dX ρ)){ob:Ob}{o:Obj}(O:ob.low n=true)(h:bU H A Fz w ob o):bU σ M Fz w (ob.dX ρ) o:=by
 cases ob with
 |cells Z=>obtain ⟨j,T,rfl,R,E⟩:=h;refine ⟨j,T,rfl,by simp_all,λi d v a b=>?_⟩;rw[lY,cu] at a;obtain ⟨G,a,rfl⟩:=a;obtain ⟨U,W⟩:=E i G v a b;exact ⟨V.LW K u U (D.aV O i G a),W⟩
 |map es x=>
  obtain ⟨j,z,R,E⟩:=h;refine ⟨j,z,by simp_all,λi k d m e a b=>?_⟩
  grind [Ob.low,V.LW]
 |gone m=>exact h
end
end Go.Abs
end
