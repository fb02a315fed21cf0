/- Lemmas. -/
import Derived.Test.YtcndmfkgdaipaaaGreatFwD
import Derived.Test.YtcndmfkgdaipaaaGreatFwE
set_option linter.all false
section
namespace Go.Abs
section
variable{Y Y':ar}{M M':Nat->Option Nat}{Fz Fz':Nat->Prop}{w w' w'':World}{P:Program}
def VC.wy(j:∀c:Nat,Fz c->w'.heap[c]? = w.heap[c]?){x:C}{v:Value}(h:VC Fz w x v):VC Fz w' x v:=h.mono λc i=>⟨i,j c i⟩
theorem V.wy(O:∀c:Nat,(Fz c\/∃b,M b=some c)->w'.heap[c]? = w.heap[c]?){d:D}{v:Value}(h:V Y M Fz w d v):V Y M Fz w' d v:=by
 induction h with
 |c h=>exact .c (h.wy λc U=>O c (.inl U))
 |any v=>exact .any v
 |ptr a x h j i=>exact .ptr a x h j i
 |sl a n cap A x h j i=>
  refine .sl a n cap A x h j (λW=>?_);rcases i W with u | ⟨c,o,E,T,R,Z,hn,hl,hh,hb,hr⟩
  ·exact .inl u
  ·exact .inr ⟨c,o,E,T,R,Z,hn,hl,hh,by rw[O c (.inr ⟨_,R⟩)];exact hb,hr⟩
 |mp c x h i=>exact .mp c x h i
 |fn z ws u h2 i hw G K=>exact .fn z ws u h2 G K
 |agg z u i ih=>exact .agg z u ih
 |aV z u i ih=>exact .aV z u ih
theorem ca.wy(G:∀c:Nat,(Fz c\/∃b,M b=some c)->w'.heap[c]? = w.heap[c]?){ob:Ob}{o:Obj}(h:ca Y M Fz w ob o):ca Y M Fz w' ob o:=by
 cases ob with
 |cells K=>obtain ⟨j,T,A,hl,u⟩:=h;exact ⟨j,T,A,hl,λi d v x z=>⟨(u i d v x z).1.wy G,(u i d v x z).2⟩⟩
 |map O E=>obtain ⟨j,A,hl,u⟩:=h;exact ⟨j,A,hl,λi k d n e x z=>let ⟨a,b,c⟩:=u i k d n e x z;⟨a,b,c.wy G⟩⟩
 |gone n=>exact h.elim
variable[Gl]
def Rel.wy(i:∀c:Nat,(Fz c\/∃b,M b=some c)->w'.heap[c]? = w.heap[c]?)(hs:w.heap.size<=w'.heap.size)(R:Rel Y M Fz w):Rel Y M Fz w':={
 blk:=λb c h=>by obtain ⟨u,ob,o,h1,h2,x⟩:=R.blk b c h;exact ⟨u,ob,o,h1,by rw[i c (.inr ⟨b,h⟩)];exact h2,x.wy i⟩
 inj:=R.inj
 fz:=λc h=>FG (R.fz c h) hs
 gl:=Gl.mono (λc j=>⟨j,i c (.inl j)⟩) R.gl }
theorem Rel.none(R:Rel Y M Fz w):Rel [] (λ_=>none) Fz w:=⟨λb c h=>by simp at h,λb i c h=>by simp at h,R.fz,R.gl⟩
omit [Gl] in
theorem bF.wy(E:bF Y M Fz w Y' M' Fz' w')(o:∀c:Nat,(Fz' c\/∃b,M' b=some c)\/c<w.heap.size->w''.heap[c]? = w'.heap[c]?)(hs:w'.heap.size<=w''.heap.size)(u:w''.os=w'.os/\w''.tape=w'.tape/\w''.output=w'.output):bF Y M Fz w Y' M' Fz' w'':={
 size:=jk E.size hs
 frame:=λc i G=>by rw[o c (.inr i)];exact E.frame c i G
 lP:=E.lP
 fz:=λc i=>⟨(E.fz c i).1,by rw[o c (.inl (.inl (E.fz c i).1))];exact (E.fz c i).2⟩
 nF:=E.nF
 qe:=λc x T K i=>by have z:=(CK.1 i).1;obtain ⟨j,h,A⟩:=E.qe c x T K i;exact ⟨j,by rw[o c (.inr z)];exact h,A⟩
 keep:=E.keep
 out:=⟨u.1.trans E.out.1,u.2.1.trans E.out.2.1,u.2.2.trans E.out.2.2⟩ }
theorem V.xT{G:Nat->Prop}(K:∀c,Fz c->G c){d:D}{v:Value}(h:V Y M Fz w d v):V Y M G w d v:=by
 induction h with
 |c h=>exact .c (h.mono λc O=>⟨K c O,rfl⟩)
 |any v=>exact .any v
 |ptr a o h j i=>exact .ptr a o h j i
 |sl a n cap z o h j i=>exact .sl a n cap z o h j i
 |mp c o h i=>exact .mp c o h i
 |fn u R x U i W A E=>exact .fn u R x U A E
 |agg u x i ih=>exact .agg u x ih
 |aV u x i ih=>exact .aV u x ih
theorem Rel.xT{x:Nat->Prop}(R:Rel Y M Fz w)(z:∀c,Fz c->x c)(K:∀c,x c->Fz c\/((∀b,M b≠some c)/\c<w.heap.size)):Rel Y M x w:={
 blk:=λb c h=>by
  obtain ⟨O,ob,o,h1,h2,A⟩:=R.blk b c h;refine ⟨λU=>(K c U).elim O λW=>W.1 b h,ob,o,h1,h2,?_⟩;cases ob with
  |cells cs=>obtain ⟨j,T,E,hl,u⟩:=A;exact ⟨j,T,E,hl,λi d v h1 h2=>⟨(u i d v h1 h2).1.xT z,(u i d v h1 h2).2⟩⟩
  |map es G=>obtain ⟨j,E,hl,u⟩:=A;exact ⟨j,E,hl,λi k d n e h1 h2=>let ⟨a,b,c⟩:=u i k d n e h1 h2;⟨a,b,c.xT z⟩⟩
  |gone n=>exact A.elim
 inj:=R.inj
 fz:=λc h=>(K c h).elim (R.fz c) λh=>h.2
 gl:=Gl.mono (λc Z=>⟨z c Z,rfl⟩) R.gl }
omit [Gl] in
theorem bF.xT{j:Nat->Prop}(E:bF Y M Fz w Y' M' Fz' w')(o:∀c,Fz' c->j c)(u:∀c,j c->Fz' c\/w.heap.size<=c):bF Y M Fz w Y' M' j w':={
 size:=E.size
 frame:=E.frame
 lP:=E.lP
 fz:=λc i=>⟨o c (E.fz c i).1,(E.fz c i).2⟩
 nF:=λc i=>(u c i).elim (E.nF c) λh=>.inr (.inr h)
 qe:=E.qe
 keep:=E.keep
 out:=E.out }
def seen(M:Nat->Option Nat)(Fz:Nat->Prop)(c:Nat):Prop:=Fz c\/∃b,M b=some c
theorem Gz{a:Nat->Prop}(b:∀c,Fz c->a c):(λc=>seen M Fz c\/a c)=seen M a:=funext λc=>propext ⟨λh=>h.elim (λh=>h.imp (b c) id) .inl,λh=>h.elim .inr λh=>.inl (.inr h)⟩
theorem Rel.Jq(R:Rel Y M Fz w){c:Nat}(h:seen M Fz c):c<w.heap.size:=h.elim (R.fz c) λ⟨_,h⟩=>(R.lt h).2
omit [Gl] in
theorem bF.kept{x:Nat->Option Nat}{F j:Nat->Prop}(E:bF Y M Fz w Y' M' Fz' w')(W:KM M' Fz' x j)(A:∀c:Nat,F c->j c/\w'.heap[c]? = w.heap[c]?):Kept F (seen M Fz) w j (seen x j) w':={
 size:=E.size
 off:=λc G i=>by
  unfold seen at i;simp only[not_or,not_exists] at i;have z:∀b,M' b≠some c:=λb hb=>(E.lP b c hb).elim (λ⟨o,u⟩=>i.2 o u) (by omega);have K:¬Fz' c:=λh=>by
   rcases E.nF c h with h | ⟨o,u⟩ | h
   ·exact i.1 h
   ·exact i.2 o u
   ·omega
  refine ⟨E.frame c G i.2,λh=>?_⟩;rcases h with h | ⟨b,h⟩
  ·rcases W.2.1 c h with h | ⟨b,h⟩
   ·exact K h
   ·exact z b h
  ·obtain ⟨O,R⟩:=W.1 b c h;exact z O R
 fz:=A
 out:=E.out }
def Yh:nr->Code
 |.normal=>.skip
 |.exit i=>if i % 2=0 then .exit (i / 2) else .goto (i / 2)
 |.ret=>.ret
omit [Gl] in
theorem wp_jmp{x:nr}{Q:Exit->Act->World->Prop}{a:Act}(h:Q (y_ x) a w):(Yh x).wp P Q a w:=by
 cases x with
 |normal=>exact wp_skip h
 |ret=>exact wp_ret h
 |exit i=>
  unfold y_ at h;unfold Yh;dsimp only at h ⊢;split <;> rename_i e
  ·rw[if_pos e] at h;exact wp_exit h
  ·rw[if_neg e] at h;exact wp_goto h
omit [Gl] in
theorem Lv{I:Nat->(Nat->Prop)->(Nat->Prop)->World->Prop}{f:Code->(Nat->Prop)->(Nat->Prop)->World->Prop}{i:Nat}{F U b d:Nat->Prop}{x:nr}{a:Act}(g:x≠.normal)(k:Kept F U w b d w')(h:f (Yh x) b d w'):rpost I f i F U w (y_ x) a w':=by
 cases x with
 |normal=>exact absurd rfl g
 |ret=>exact ⟨b,d,k,h⟩
 |exit j=>
  unfold Yh at h;unfold y_;dsimp only at h ⊢;split <;> rename_i e
  ·rw[if_pos e] at h;exact ⟨b,d,k,h⟩
  ·rw[if_neg e] at h;exact ⟨b,d,k,h⟩
def NW:List Nat->List D->AL->AL
 |p::ps,d::ds,al=>NW ps ds ((p,d)::al)
 |_,_,al=>al
omit [Gl] in
theorem ed.NW{n:Nat}:∀{ps:List Nat}{ds:List D}{vs:List Value}{al:AL}{i:Array Value},ed n Y M Fz w al i->(∀p∈ps,p<n)->ps.length=ds.length->vs.length=ds.length->(∀(k:Nat) d v,ds[k]? = some d->vs[k]? = some v->V Y M Fz w d v) ->
  ed n Y M Fz w (NW ps ds al) ((ps.zip vs).foldl (λt (p,v)=>t.setIfInBounds p v) i):=by
 intro ps;induction ps with
 |nil=>intro ds vs al i A _ _ _ _;simpa[Abs.NW] using A
 |cons p ps ih=>
  intro ds vs al i A o u x z;cases ds with
  |nil=>simp at u
  |cons d ds=>
   cases vs with
   |nil=>simp at x
   |cons v vs=>
    simp only[Abs.NW,List.zip_cons_cons,List.foldl_cons];refine ih ⟨by simp[A.1],λt E j=>?_⟩ (λq G=>o q (o_ _ G)) (by simpa using u) (by simpa using x) λk d v a b=>z (k+1) d v (by simpa using a) (by simpa using b);simp only[lk] at j;split at j
    ·rename_i hb;have:=dd hb;subst this;simp only[au] at j;subst j;refine ⟨v,?_,z 0 _ _ rfl rfl⟩;rw[yAW,if_pos rfl,if_pos (by rw[A.1];exact o _ (by simp))]
    ·rename_i hb;obtain ⟨K,O,R⟩:=A.2 t E j;refine ⟨K,?_,R⟩;rw[yAW,if_neg (λe=>by rw[e] at hb;simp at hb)];exact O
end
section
variable[Gl][Ty]{P:Program}{n:Nat}{Q:nr->AL->ar->Prop}
def Rng(P:Program)(a b:aQ)(n:Nat)(ps:List Nat)(g:Nat)(x:C)(m:Nat)(Q:nr->AL->ar->Prop):List (List D)->AL->ar->Prop
 |[],al,Y=>(Y[g]? = some (.cells [.c x])/\Y.length=m)/\Q .normal al Y
 |ds :: xs, al, Y => (Y[g]? = some (.cells [.c x]) /\ Y.length = m) /\ Sem P a n (NW ps ds al) Y λe al1 Y1 => e = .normal /\ Sem P b n al1 Y1 λe _ aC => match e with
  |.normal=>∃d f,wP m al aC d f/\Rng P a b n ps g x m Q xs d f
  |e=>Q e al aC
theorem Rng.cap{a b:aQ}{ps:List Nat}{i:Nat}{x:C}{m:Nat}{xs:List (List D)}{al:AL}{Y:ar}(h:Rng P a b n ps i x m Q xs al Y):Y[i]? = some (.cells [.c x])/\Y.length=m:=by
 cases xs with
 |nil=>exact h.1
 |cons d ds=>exact h.1
def Sem.preW{ac:aQ}{al i:AL}{Y aC:ar}(hs:wP Y.length al Y i aC)(h:Sem P ac n i aC Q):Sem P ac n al Y Q:=by intro c u M Fz w a K R A z;obtain ⟨E,G,O,U,W,o,W2⟩:=hs.use R R A (bF.refl R) (cP _);exact h c u E G w a K O U λx j Y' Z w' M' Fz' hQ hd R' A' E' hl=>z x j Y' Z w' M' Fz' hQ hd R' A' (W.trans E' o) (jk o hl)
theorem Sem.Wj{o:aT}{ps:List Nat}{a b:aQ}{gf bc:Nat}{x:C}{items:List (List D)}{al:AL}{Y:ar}(ho:(match o with | .t k=>lk k al | .k d=>some d)=some (.fn (.func gf) [] [.ptr bc 0 1]))
  (af:aW P gf=true) (it:ItOk P gf [[x]] items) (be:∀ds∈items,ds.length=ps.length) (bt:∀p∈ps,p<n) (h:Rng P a b n ps bc x Y.length Q items al Y):Sem P (.Wj o ps a b) n al Y Q:=by
 intro c G M Fz w ab K R A hK;cases c with
 |rangeFunc g pt c1 c2=>
  rcases dZ G with ⟨o',a',b',h1,h2,h3,h4,e⟩ | e
  ·simp only[aQ.Wj.injEq] at e;obtain ⟨rfl,rfl,rfl,rfl⟩:=e;simp only[bG] at h4;refine ⟨?_,λhh=>by simp[Code.calm] at hh⟩;have hv:=nE A.de.1 h1;have bu:o.ev (xU n al)=.fn (.func gf) [] [.ptr bc 0 1]:=by
    cases o with
    |t k=>dsimp only at ho;simp[aT.ev,A.de.2.2 k _ ho]
    |k d=>simp only[au] at ho;subst ho;rfl
   rw[bu] at hv;obtain ⟨lb,bv,bw,b0⟩:∃lb:Array Value,ab.eval g=.func (.func gf) #[] lb/\lb.size=1/\∀v,lb[0]? = some v->V Y M Fz w (.ptr bc 0 1) v:=by
    generalize ab.eval g=y at hv;cases hv with
    |fn vs ws g1 g2 _ g4=>have:vs=#[]:=Array.eq_empty_of_size_eq_zero (by simpa using g1);exact ⟨ws,by rw[this],by simpa using g2,λv hv=>g4 0 _ v rfl hv⟩
   have eg:∀args w,(callFunc gf args).run P w=.ok (.enter gf args) w:=λargs w=>by
    unfold aW at af;split at af
    ·rename_i fn b1;simp only[bG,HU,ne_eq] at af;obtain ⟨hb,b2⟩:=af;have b3:fn.body.isNone=false:=by simp_all
     simp only[callFunc,Sem.run_bind,Sem.run_pure,Result.andThen_ok,run_program,b1,lA,b2,b3,cw,b_]
    ·simp at af
   obtain ⟨I,hI⟩:∃I:Nat->(Nat->Prop)->(Nat->Prop)->World->Prop,I=λi F U W=>∃E z Z,Rng P a b n pt.toList bc x Y.length Q (items.drop i) E z/\Rel z Z F W/\ed n z Z F W E ab.tmps/\bF Y M Fz w z Z F W/\U=seen Z F:=⟨_,rfl⟩;obtain ⟨Ix,ax⟩:∃Ix:Code->(Nat->Prop)->(Nat->Prop)->World->Prop,Ix=λc F U W=>∃e E z Z,c=Yh e/\Q e E z/\Y.length<=z.length/\Rel z Z F W/\ed n z Z F W E ab.tmps/\bF Y M Fz w z Z F W/\U=seen Z F:=⟨_,rfl⟩;have ak:∀{z:ar}{Z:Nat->Option Nat}{F:Nat->Prop}{W W':World}{E:AL}{tm:Array Value},(∀c:Nat,seen Z F c\/c<w.heap.size->W'.heap[c]? = W.heap[c]?)->ed n z Z F W E tm->ed n z Z F W' E tm:=λO A'=>⟨A'.1,λt d ht=>let ⟨v,g1,g2⟩:=A'.2 t d ht;⟨v,g1,g2.wy λc G=>O c (.inl G)⟩⟩
   have fI:∀i,wF w.heap.size (I i):=λi=>by
    subst hI;refine ⟨λF U W ⟨E,z,Z,_,R',_⟩=>R'.none,λF U W ⟨E,z,Z,_,_,_,_,e⟩ c G=>by rw[e];exact .inl G,λF U W ⟨E,z,Z,_,R',_,_,e⟩ c G=>R'.Jq (by rw[e] at G;exact G),λF U W ⟨E,z,Z,_,_,_,E',_⟩=>E'.size,λF U W W' ⟨E,z,Z,hr,R',A',E',e⟩ hs O ad=>?_,λF U W F' ⟨E,z,Z,hr,R',A',E',e⟩ ha hb=>?_⟩
    rotate_left
    ·rw[e] at hb ⊢;exact ⟨E,z,Z,hr,R'.xT ha λc G=>(hb c G).imp id λ⟨q,r⟩=>⟨λb a2=>q (.inr ⟨b,a2⟩),r.2⟩,⟨A'.1,λt d ht=>let ⟨v,g1,g2⟩:=A'.2 t d ht;⟨v,g1,g2.xT ha⟩⟩,E'.xT ha λc G=>(hb c G).imp id λ⟨q,r⟩=>r.1,Gz ha⟩
    rw[e] at O;exact ⟨E,z,Z,hr,R'.wy (λc G=>O c (.inl G)) hs,ak O A',E'.wy O hs ad,e⟩
   have b4:∀c,wF w.heap.size (Ix c):=λc=>by
    subst ax;refine ⟨λF U W ⟨x,E,z,Z,_,_,_,R',_⟩=>R'.none,λF U W ⟨x,E,z,Z,_,_,_,_,_,_,e⟩ c G=>by rw[e];exact .inl G,λF U W ⟨x,E,z,Z,_,_,_,R',_,_,e⟩ c G=>R'.Jq (by rw[e] at G;exact G),λF U W ⟨x,E,z,Z,_,_,_,_,_,E',_⟩=>E'.size,λF U W W' ⟨x,E,z,Z,hx,hq,an,R',A',E',e⟩ hs O ad=>?_,λF U W F' ⟨x,E,z,Z,hx,hq,an,R',A',E',e⟩ ha hb=>?_⟩
    rotate_left
    ·rw[e] at hb ⊢;exact ⟨x,E,z,Z,hx,hq,an,R'.xT ha λc G=>(hb c G).imp id λ⟨q,r⟩=>⟨λb a2=>q (.inr ⟨b,a2⟩),r.2⟩,⟨A'.1,λt d ht=>let ⟨v,g1,g2⟩:=A'.2 t d ht;⟨v,g1,g2.xT ha⟩⟩,E'.xT ha λc G=>(hb c G).imp id λ⟨q,r⟩=>r.1,Gz ha⟩
    rw[e] at O;exact ⟨x,E,z,Z,hx,hq,an,R'.wy (λc G=>O c (.inl G)) hs,ak O A',E'.wy O hs ad,e⟩
   refine WJ (caps:=[[x]]) (items:=items) (F0:=Fz) (U0:=seen M Fz) bv eg it (by simpa using be) I Ix fI b4 ?_ ?_ ?_ ?_ ?_
   ·
    intro i F U W hi;subst hI;obtain ⟨E,z,Z,hr,R',_,E',_⟩:=hi;refine ⟨by simp[bw],λk cs v hk hv=>?_⟩;have b5:k=0:=by have:=(fq.1 hk).1;simp at this;exact this
    subst b5;simp only[xF,au] at hk;subst hk;obtain ⟨c,hM,rfl⟩:=((b0 v hv).mono E').vM (Qk hr.cap.1 (sz:=1) rfl);obtain ⟨a5,T,hh,hl,b6⟩:=R'.row hM hr.cap.1;refine ⟨c,rfl,a5,T,hh,by simpa using hl,λj d u hd hu=>?_⟩;have b7:j=0:=by have:=(fq.1 hd).1;simp at this;exact this
    subst b7;simp only[xF,au] at hd;subst hd;obtain ⟨g1,g2⟩:=b6 0 _ _ rfl hu;exact ⟨g1.pV,g2⟩
   ·subst hI;exact ⟨al,Y,M,by simpa using h,R,A,bF.refl R,rfl⟩
   ·
    intro l i ds F U W vs a6 hi bh;subst hI;obtain ⟨E,z,Z,hr,R',A',E',rfl⟩:=hi;have b8:=(fq.1 a6).1;have b9:items.drop i=ds::items.drop (i+1):=by rw[yB9 b8];simp only[yCi,NT];have:=fq.1 a6;exact this.2
    rw[b9] at hr;obtain ⟨⟨c4,c5⟩,bi⟩:=hr;have cg:=be ds (Av a6);have ch:vs.toList.length=ds.length:=by simpa using bh.1
    have A1:=ed.NW (ps:=pt.toList) (ds:=ds) (vs:=vs.toList) A' bt cg.symm ch λk d v g1 g2=>by have:=bh.2 k d v g1 (by simpa using g2);exact this.sub (λb ob hb=>by simp at hb) (λ_ _ h=>by simp at h) (λc h=>⟨h,rfl⟩) (λc a5 T fr h=>⟨a5,h,rfl⟩)
    have ez:(pt.zip vs).foldl (λt (p,v)=>t.setIfInBounds p v) ab.tmps=(pt.toList.zip vs.toList).foldl (λt (p,v)=>t.setIfInBounds p v) ab.tmps:=by rw[<-xAc,Array.toList_zip]
    rw[ez];refine (bi c1 h2 Z F W { tmps:=_,defers:=[] } _ R' A1 λx1 al1 Y1 a1 w1 M1 F1 ck _ R1 cm E1 c6=>?_).2 h4.1 l 0;obtain ⟨rfl,hb⟩:=ck;refine ⟨F1,seen M1 F1,E1.kept KM.refl E1.fz,λc G=>R1.Jq G,λw2 bk O ad=>?_⟩;have R2:=R1.wy (λc G=>O c (.inl G)) (yCa bk);have co:ed n Y1 M1 F1 w2 al1 a1.tmps:=ak O cm;have Et:bF Y M Fz w Y1 M1 F1 w2:=(E'.trans E1 (by omega)).wy O (yCa bk) ad;refine (hb c2 h3 M1 F1 w2 a1 _ R2 co λx2 c8 aC a3 w3 M3 F3 a7 _ R3 c9 E3 c7=>?_).2 h4.2 l 0;have Ef:bF Y M Fz w aC M3 F3 w3:=Et.trans E3 (by omega);have Vm:∀{d:D}{v:Value},V z Z F W d v->V aC M3 F3 w3 d v:=λhv=>by have:=hv.mono E1;exact (this.wy (λc G=>O c (.inl G))).mono E3
    have a8:ed n aC M3 F3 w3 E ab.tmps:=⟨A'.1,λt d ht=>let ⟨v,g1,g2⟩:=A'.2 t d ht;⟨v,g1,Vm g2⟩⟩;have a0:∀c:Nat,F c->F3 c/\w3.heap[c]? = w2.heap[c]?:=λc G=>E3.fz c (E1.fz c G).1;cases x2 with
    |normal=>obtain ⟨cp,cv,hw,a9⟩:=a7;obtain ⟨M4,F4,R4,A4,W4,E4⟩:=hw.2 n M3 F3 w3 ab.tmps R3 a8;have c0:=E4 Y M Fz w R Ef (cP _);have c3:∀c:Nat,F c->F4 c:=λc G=>W4.2.2 c (a0 c G).1;exact ⟨F4,seen M4 F4,E3.kept W4 λc G=>⟨c3 c G,(a0 c G).2⟩,cp,cv,M4,a9,R4,A4,c0,rfl⟩
    |exit j=>exact Lv (by simp) (E3.kept KM.refl a0) (by subst ax;exact ⟨.exit j,E,aC,M3,rfl,a7,by omega,R3,a8,Ef,rfl⟩)
    |ret=>exact Lv (by simp) (E3.kept KM.refl a0) (by subst ax;exact ⟨.ret,E,aC,M3,rfl,a7,by omega,R3,a8,Ef,rfl⟩)
   ·intro D F U W hD bb aa bd hi;subst hI;obtain ⟨E,z,Z,hr,R',A',E',rfl⟩:=hi;rw[List.drop_length] at hr;unfold seen at aa;simp only[not_or,not_exists] at aa;exact hK .normal E z _ W Z F hr.2 ⟨[D],rfl,by simp,λD' av=>by simp only[zV] at av;subst av;exact ⟨hD,bb,aa.2,aa.1,bd⟩⟩ R' A' E' (yCa hr.1.2.symm)
   ·intro D c F U W hD bb aa bd hi;subst ax;obtain ⟨e,E,z,Z,rfl,hq,an,R',A',E',rfl⟩:=hi;unfold seen at aa;simp only[not_or,not_exists] at aa;exact wp_jmp (hK e E z _ W Z F hq ⟨[D],rfl,by simp,λD' av=>by simp only[zV] at av;subst av;exact ⟨hD,bb,aa.2,aa.1,bd⟩⟩ R' A' E' an)
  ·cases e
 |region id da bl=>
  simp only[bD] at G;split at G
  ·cases bl with
   |false=>simp at G
   |true=>simp only[if_true] at G;split at G <;> simp at G
  ·simp at G
 |seq c1 c2=>simp only[bD] at G;split at G <;> simp at G
 |cond o c1 c2=>simp only[bD] at G;split at G <;> simp at G
 |scope b=>simp only[bD,cC] at G;obtain ⟨a1,_,e1⟩:=G;rcases IQ a1 with ⟨l,r,_,e⟩ | e <;> rw[e] at e1 <;> simp at e1
 |_=>simp[bD] at G
end
end Go.Abs
end
section
namespace Go.Abs
noncomputable section
variable[Gl][σ:Ty]
def Jr(al:AL)(Y:ar)(b:AL)(Y':ar):Prop:=
 Y'.length=Y.length/\∀(n:Nat)(M:Nat->Option Nat)(Fz:Nat->Prop)(w:World)(a:Array Value),Rel Y M Fz w->ed n Y M Fz w al a->∃M' Fz',Rel Y' M' Fz' w/\ed n Y' M' Fz' w b a/\bF Y M Fz w Y' M' Fz' w
theorem Jr.refl(al:AL)(Y:ar):Jr al Y al Y:=⟨rfl,λ_ M Fz _ _ R A=>⟨M,Fz,R,A,bF.refl R⟩⟩
def Jr.trans{al al1 j:AL}{Y Y1 aC:ar}(h:Jr al Y al1 Y1)(o:Jr al1 Y1 j aC):Jr al Y j aC:=⟨o.1.trans h.1,λn M Fz w i R A=>by obtain ⟨u,x,z,E,G⟩:=h.2 n M Fz w i R A;obtain ⟨K,O,U,W,Z⟩:=o.2 n u x w i z E;exact ⟨K,O,U,W,G.trans Z (by rw[h.1];exact cP _)⟩⟩
section
variable{P:Program}{n:Nat}{al al1:AL}{Y Y1:ar}{Q:nr->AL->ar->Prop}{ac:aQ}
def Sem.Bc(hs:Jr al Y al1 Y1)(h:Sem P ac n al1 Y1 Q):Sem P ac n al Y Q:=by intro c j M Fz w a K R A o;obtain ⟨u,z,E,G,O⟩:=hs.2 n M Fz w a.tmps R A;exact h c j u z w a K E G λx i Y' U w' M' Fz' W Z R' A' E' hl=>o x i Y' U w' M' Fz' W Z R' A' (O.trans E' (by rw[hs.1];exact cP _)) (by rw[<-hs.1];exact hl)
def tB(P:Program)(os:List aH)(n:Nat)(al:AL)(Y:ar)(Q:AL->ar->Prop):Prop:=
 ∀ (b : Array Oper) (k : Nat) (g : Exit -> Act -> World -> Prop) (d : List Nat), (∀ j h, os[j]? = some h -> ∃ o, b[k + j]? = some o /\ bp P b o = some h) ->
  ∀(M:Nat->Option Nat)(Fz:Nat->Prop)(w:World)(a:Act),Rel Y M Fz w->ed n Y M Fz w al a.tmps ->
  (∀e Y' f w' M' Fz',Q e Y'->f.defers=a.defers->Rel Y' M' Fz' w'->ed n Y' M' Fz' w' e f.tmps->bF Y M Fz w Y' M' Fz' w'->Y.length<=Y'.length->wpOps P b g d f w') ->
  wpOps P b g (List.range' k os.length++d) a w
theorem tB.mono{os:List aH}{Q Q':AL->ar->Prop}(h:tB P os n al Y Q)(x:∀a s,Q a s->Q' a s):tB P os n al Y Q':=
 λo k z i j M Fz w a R A E=>h o k z i j M Fz w a R A λu Y' G w' M' Fz' K=>E u Y' G w' M' Fz' (x _ _ K)
def tB.Bc{os:List aH}{Q:AL->ar->Prop}(hs:Jr al Y al1 Y1)(h:tB P os n al1 Y1 Q):tB P os n al Y Q:=by intro o k x i j M Fz w a R A z;obtain ⟨E,G,K,O,U⟩:=hs.2 n M Fz w a.tmps R A;exact h o k x i j E G w a K O λu Y' W w' M' Fz' Z hd R' A' E' hl=>z u Y' W w' M' Fz' Z hd R' A' (U.trans E' (by rw[hs.1];exact cP _)) (by rw[<-hs.1];exact hl)
def tB.VF{os o:List aH}{Q:AL->ar->Prop}(h:tB P os n al Y λal1 Y1=>tB P o n al1 Y1 Q):tB P (os++o) n al Y Q:=by
 intro u k W x i M Fz w a R A Z;rw[zJ,<-List.range'_append_1,zg];refine h u k W _ (λj E z=>i j E (by rw[FF (fq.1 z).1];exact z)) M Fz w a R A λal1 Y1 a1 w1 M1 F1 hQ hd R1 A1 E1 hl=>?_;refine hQ u (k+os.length) W x (λj E z=>?_) M1 F1 w1 a1 R1 A1 λG Y' a' w' M' Fz' K O R' A' E' U=>Z G Y' a' w' M' Fz' K (O.trans hd) R' A' (E1.trans E' hl) (jk hl U);have:=i (os.length+j) E (by rw[Np (by omega)];simpa using z)
 rwa [<-yC8] at this
theorem ops_wpR{orc:fA}(O:lT P orc){ops:Array Oper}{Q:Exit->Act->World->Prop}{e:List Nat}:∀(os:List aH)(k:Nat)(Y Y':ar)(M:Nat->Option Nat)(Fz:Nat->Prop)(w:World)(d b:List D)(a:Act)(wr:List Nat),
  (∀j ao,os[j]? = some ao->∃o,ops[k+j]? = some o/\bp P ops o=some ao)->Rel Y M Fz w->dB Y M Fz w d a.tmps->jN P orc os d Y=some (b,Y',wr) ->
  (∀p w' M' Fz',p.defers=a.defers->Rel Y' M' Fz' w'->dB Y' M' Fz' w' b p.tmps->bF Y M Fz w Y' M' Fz' w'->Y.length<=Y'.length->wpOps P ops Q e p w') ->
  wpOps P ops Q (List.range' k os.length++e) a w:=by
 intro os;induction os with
 |nil=>intro k Y Y' M Fz w d b a wr _ R E h q;simp only[jN,au,aU] at h;obtain ⟨rfl,rfl,_⟩:=h;exact q a w M Fz rfl R E (bF.refl R) (cP _)
 |cons ao os ih=>
  intro k Y Y' M Fz w d b a wr f R E h q;simp only[jN] at h;split at h
  ·rename_i g Y1 w1 G;split at h
   ·rename_i i aC w2 K;simp only[au,aU] at h;obtain ⟨rfl,rfl,_⟩:=h;obtain ⟨o,ho,r⟩:=f 0 ao (by simp);simp only[FA,List.range'_succ,JC];rw[wpOps_cons];refine Dn O R E (by omega) r G _ λL w' N t hd S T u l=>?_;refine ih (k+1) Y1 aC N t w' g i L w2 (λj v hj=>?_) S T K λU x W y Z R2 E2 z A=>?_
    ·obtain ⟨o',aa,ab⟩:=f (j+1) v (by simp_all)
     grind
    ·exact q U x W y (by simp_all) R2 E2 (u.trans z l) (jk l A)
   simp_all
  simp_all
def tB.trq{orc:fA}(O:lT P orc){os:List aH}{Q:AL->ar->Prop}(h:cj P orc 0 os n al Y λi Y' _=>Q i Y'):tB P os n al Y Q:=by intro u k Qx o j M Fz w a R A x;obtain ⟨i,Y',is,z,E⟩:=h;obtain ⟨G,K,U⟩:=z _ A.de.2;exact ops_wpR O os k Y Y' M Fz w _ G a _ j R A.de.1 (EQ _ _ _ _ _ _ K) λW w' M' Fz' Z R' E' EV hl=>x i Y' W w' M' Fz' E Z R' (ed.RZ E' U) EV hl
theorem regC{c:Code}{os:List aH}(h:bD P c=some (.Bb os)):∃id ops,c=.region id ops false/\ops.toList.mapM (bp P ops)=some os:=by
 cases c with
 |region id ops d=>
  simp only[bD] at h;split at h
  ·rename_i f i;split at h
   ·split at h <;> simp at h
   ·simp only[au,aQ.Bb.injEq] at h;subst h;exact ⟨id,ops,by simp_all,i⟩
  ·simp at h
 |rangeFunc g j x y=>rcases dZ h with ⟨_,_,_,_,_,_,_,e⟩ | e <;> cases e
 |scope b=>simp only[bD,cC] at h;obtain ⟨x,_,h⟩:=h;rcases IQ x with ⟨_,_,_,e⟩ | e <;> rw[e] at h <;> cases h
 |seq a b=>simp only[bD] at h;split at h <;> simp at h
 |cond x a b=>simp only[bD] at h;split at h <;> simp at h
 |block id b=>simp only[bD,cC] at h;obtain ⟨_,_,h⟩:=h;cases h
 |loop b=>simp only[bD,cC] at h;obtain ⟨_,_,h⟩:=h;cases h
 |_=>simp[bD] at h
def Sem.ofO{os:List aH}(h:tB P os n al Y λi Y'=>Q .normal i Y'):Sem P (.Bb os) n al Y Q:=by
 intro c E M Fz w a K R A G;obtain ⟨id,u,rfl,z⟩:=regC E;obtain ⟨O,U⟩:=KJ z;refine Hy (oe z) ?_;have x:u.size=os.length:=by rw[O,yBl]
 rw[List.range_eq_range',x];have:=h u 0 (kS K) [] (λj W Z=>by
  obtain ⟨o,g1,g2⟩:=U j W Z;exact ⟨o,by rw[PL,<-TJ];exact g1,g2⟩) M Fz w a R A λi Y' a' w' M' Fz' hQ hd R' A' E' hl=>by exact ⟨G .normal i Y' a' w' M' Fz' hQ (Mk.of_eq hd) R' A' E' hl,by simp⟩
 simpa using this
end
section
variable{al:AL}{Y:ar}
def Nz{M:Nat->Option Nat}{Fz:Nat->Prop}{w:World}{b:Nat}{ob ob':Ob}(hb:Y[b]? = some ob)(K:ob.sz<ob'.sz)(R:Rel Y M Fz w) :
  (∀{d:D}{v:Value},V Y M Fz w d v->V (Y.set b ob') (λx=>if x=b then none else M x) (λc=>Fz c\/M b=some c) w d v) /\
  Rel (Y.set b ob') (λx=>if x=b then none else M x) (λc=>Fz c\/M b=some c) w/\bF Y M Fz w (Y.set b ob') (λx=>if x=b then none else M x) (λc=>Fz c\/M b=some c) w:=by
 have cN:∀(x:Nat) o,Y[x]? = some o->∃G,(Y.set b ob')[x]? = some G/\o.sz<=G.sz/\(G.sz=o.sz->x≠b/\G=o):=λx o g=>by
  by_cases e:x=b
  ·subst e;rw[hb] at g;simp only[au] at g;subst g;exact ⟨_,HK hb,yCx K,λe=>by omega⟩
  ·exact ⟨o,by rw[Vz e];exact g,cP _,λ_=>⟨e,rfl⟩⟩
 have conv:∀{d:D}{v:Value},V Y M Fz w d v->V (Y.set b ob') (λx=>if x=b then none else M x) (λc=>Fz c\/M b=some c) w d v:=by
  intro d v f;induction f with
  |c h=>exact .c (h.mono λc L=>⟨.inl L,rfl⟩)
  |any v=>exact .any v
  |ptr a ob h N f=>
   obtain ⟨ob',h1,h2,t⟩:=cN _ _ h;exact .ptr a ob' h1 (by omega) (λz=>by obtain ⟨j,rfl⟩:=t (by omega);rw[if_neg j];exact f z)
  |sl a m cap O ob h N f=>
   obtain ⟨ob',h1,h2,t⟩:=cN _ _ h;exact .sl a m cap O ob' h1 (by omega) (λz=>by obtain ⟨j,rfl⟩:=t (by omega);rw[if_neg j];exact f z)
  |mp c ob h f=>
   obtain ⟨ob',h1,h2,t⟩:=cN _ _ h;exact .mp c ob' h1 (λz=>by obtain ⟨j,rfl⟩:=t (by omega);rw[if_neg j];exact f z)
  |fn A ws h1 h2 f hw S U=>exact .fn A ws h1 h2 S U
  |agg A h1 f ih=>exact .agg A h1 ih
  |aV A h1 f ih=>exact .aV A h1 ih
 have W:∀{ob o},ca Y M Fz w ob o->ca (Y.set b ob') (λx=>if x=b then none else M x) (λc=>Fz c\/M b=some c) w ob o:=λ{ob o} j=>by
  cases ob with
  |cells cs=>obtain ⟨l,T,Z,hl,f⟩:=j;exact ⟨l,T,Z,hl,λi d v x y=>⟨conv (f i d v x y).1,(f i d v x y).2⟩⟩
  |map es aa=>obtain ⟨l,Z,hl,f⟩:=j;exact ⟨l,Z,hl,λi k d n e x y=>let ⟨p,q,r⟩:=f i k d n e x y;⟨p,q,conv r⟩⟩
  |gone n=>exact j.elim
 refine ⟨conv,⟨λx c g=>?_,λx x' c g u=>?_,λc L=>L.elim (R.fz c) λh=>(R.lt h).2,Gl.mono (λc h=>⟨.inl h,rfl⟩) R.gl⟩,{
  size:=cP _
  frame:=λ_ _ _=>rfl
  lP:=λx c h=>by
   split at h
   ·simp at h
   exact .inl ⟨x,h⟩
  fz:=λc h=>⟨.inl h,rfl⟩
  nF:=λc h=>h.elim .inl λh=>.inr (.inl ⟨b,h⟩)
  qe:=λc l T fr h=>⟨l,h,rfl⟩
  keep:=λx ob h=>by obtain ⟨ob',h1,h2,t⟩:=cN x ob h;exact ⟨ob',h1,h2,λe=>by rw[if_neg (t e).1]⟩
  out:=⟨rfl,rfl,rfl⟩ }⟩
 ·split at g
  ·simp at g
  rename_i E;obtain ⟨h1,ob,o,h2,t,j⟩:=R.blk x c g;exact ⟨λhf=>hf.elim h1 λhf=>E (R.inj _ _ c g hf),ob,o,by rw[Vz E];exact h2,t,W j⟩
 ·split at g
  ·simp at g
  split at u
  ·simp at u
  exact R.inj _ _ c g u
def Cvt(Y:ar)(b:Nat)(d:D)(x:C):Prop:=∀(M:Nat->Option Nat)(Fz:Nat->Prop)(w:World)(v:Value),Rel Y M Fz w->V Y M Fz w d v->VC (λc=>Fz c\/M b=some c) w x v
def Jr.rg{t b:Nat}{ob ob':Ob}{d:D}{x:C}(E:lk t al=some d)(hb:Y[b]? = some ob)(i:ob.sz<ob'.sz)(G:Cvt Y b d x):Jr al Y ((t,.c x)::al) (Y.set b ob'):=by
 refine ⟨by simp,λn M Fz w z R A=>?_⟩;obtain ⟨conv,K,O⟩:=Nz hb i R;refine ⟨_,_,K,⟨A.1,λs U hs=>?_⟩,O⟩;simp only[lk] at hs;split at hs
 ·rename_i j;have:=dd j;subst this;simp only[au] at hs;subst hs;obtain ⟨v,o,u⟩:=A.2 _ _ E;exact ⟨v,o,.c (G M Fz w v R u)⟩
 ·obtain ⟨v,o,u⟩:=A.2 s U hs;exact ⟨v,o,conv u⟩
def Jr.cl{b z j:Nat}{ob ob':Ob}{cs:List D}{d:D}{x:C}(h0:Y[z]? = some (.cells cs))(hj:cs[j]? = some d)(G:z≠b)(hb:Y[b]? = some ob)(Z:ob.sz<ob'.sz)(hc:Cvt Y b d x) :
  Jr al Y al ((Y.set b ob').set z (.cells (cs.set j (.c x)))):=by
 refine ⟨by simp,λn M Fz w ad R A=>?_⟩;obtain ⟨conv,K,E1⟩:=Nz hb Z R;have u:(Y.set b ob')[z]? = some (.cells cs):=by rw[Vz G];exact h0
 have U:bF (Y.set b ob') (λx=>if x=b then none else M x) (λc=>Fz c\/M b=some c) w ((Y.set b ob').set z (.cells (cs.set j (.c x)))) (λx=>if x=b then none else M x) (λc=>Fz c\/M b=some c) w:={ bF.refl K with
  keep:=λy ob h=>by
   by_cases e:y=z
   ·subst e;rw[u] at h;simp only[au] at h;subst h;exact ⟨_,HK u,by simp[Ob.sz],λ_=>rfl⟩
   ·exact ⟨ob,by rw[Vz e];exact h,cP _,λ_=>rfl⟩ }
 refine ⟨_,_,⟨λy c hy=>?_,K.inj,K.fz,K.gl⟩,⟨A.1,λs d' hs=>?_⟩,E1.trans U (by simp)⟩
 ·obtain ⟨W,aa,o,E,h3,h4⟩:=K.blk y c hy;by_cases e:y=z
  ·subst e;rw[u] at E;simp only[au] at E;subst E;refine ⟨W,_,o,HK u,h3,?_⟩;rw[if_neg G] at hy;obtain ⟨_,af,o2,g2,g3,g4⟩:=R.blk y c hy;rw[h0] at g2;simp only[au] at g2;subst g2;rw[h3] at g3;simp only[au] at g3;subst g3;obtain ⟨ab,T,ho,hl,hv⟩:=g4;refine ⟨ab,T,ho,by simpa using hl,λi d' v O q2=>?_⟩;by_cases ej:i=j
   ·subst ej;have hi:i<cs.length:=(fq.1 hj).1;rw[xAd hi] at O;simp only[au] at O;subst O;obtain ⟨k1,k2⟩:=hv i _ v hj q2;exact ⟨.c (hc M Fz w v R k1),k2⟩
   ·rw[yCp (λe=>ej e.symm)] at O;obtain ⟨k1,k2⟩:=hv i d' v O q2;exact ⟨(conv k1).mono U,k2⟩
  ·exact ⟨W,aa,o,by rw[Vz e];exact E,h3,h4.mono U⟩
 ·obtain ⟨v,W,E⟩:=A.2 s d' hs;exact ⟨v,W,(conv E).mono U⟩
def cvt_row{b i:Nat}{l:List (TT i)}(hb:Y[b]? = some (OB (enc i) l)):Cvt Y b (OS (aB i) b l.length) (.cJ false (l.map (enc i))):=λM Fz w v R h=>by
 have d:Rn (σ:=σ) 0 Y [] id (λx=>x=b):=⟨cP _,λi hi=>by omega,λi j hi=>by simp at hi,λi hi=>by simp at hi,λx a=>by subst a;exact ⟨i,l,hb⟩,λi hi=>by simp at hi⟩
 exact ((dv.cJ d rfl hb M Fz w v R h).pV).mono λc e=>⟨e.imp id λ⟨x,a,h⟩=>a▸h,rfl⟩
theorem cvt_ptr{b:Nat}{cs:List C}(hb:Y[b]? = some (.cells (cs.map .c))):Cvt Y b (.ptr b 0 cs.length) (.cD cs 0):=λM Fz w v R h=>by
 cases h with
 |ptr a r h t u=>
  rw[hb] at h;simp only[au] at h;subst h;obtain ⟨c,q,rfl⟩:=u (by simp[Ob.sz]);obtain ⟨_,r,o,l,x,y⟩:=R.blk b c q;rw[hb] at l;simp only[au] at l;subst l;obtain ⟨f,T,rfl,hl,p⟩:=y;rw[vR] at hl;have i:∀(j:Nat) d,cs[j]? = some d->∃v,f[j]? = some v/\V Y M Fz w (.c d) v/\v.oneCell'=true:=λj d g=>by have hi:=(fq.1 g).1;have e:f[j]? = some (f[j]'(by omega)):=qB _;obtain ⟨z,A⟩:=p j (.c d) _ (by simp[g]) e;exact ⟨_,e,z,A⟩
  refine .cD c 0 (λj=>(f[j]?).getD undef) (.inr q) (λj d g=>?_) (λj d g=>?_)
  ·obtain ⟨v,e,_,k⟩:=i j d g;rw[PL,cell_of_row w c j f T (0,0) x,e];exact ⟨rfl,k⟩
  ·obtain ⟨v,e,k,_⟩:=i j d g;simp only[e,OE];cases k with
   |c k=>exact k.mono λc E=>⟨.inl E,rfl⟩
end
def ref_c{al:TA}{Y:TH}{alD:AL}{σD:ar}(a:Ref al Y alD σD){t:Nat}{x:TC}(h:OF t al=some (.v (.c x)))(b:x≠.any):lk t alD=some x.er/\GC Y x:=by obtain ⟨p,e⟩:=jJ h;obtain ⟨d,f,g,i⟩:=a.rg t _ p e;have:=RT.c1 b g;subst this;exact ⟨f,i⟩
def Uc{al:TA}{Y:TH}{alD:AL}{σD:ar}(a:Ref al Y alD σD){t:Nat}{x:TC}(h:W_ t al Y=some x)(b:x≠.any):GC Y x:=by
 unfold W_ at h;split at h
 ·split at h
  ·rename_i w d e;split at h
   ·rename_i f;simp only[au] at h;subst h;exact (a.hh.hg _ w d e _ (Av f)).1
   ·simp at h
  ·simp at h
 ·split at h
  ·rename_i g hl;simp only[au] at h;subst h;exact (ref_c a hl b).2
  ·simp at h
def RQ{al l:TA}{Y Y':TH}{alD:AL}{σD:ar}{t b:Nat}{x:TC}{q:C}{y:TC}{blk a:TB}(g:Ref al Y alD σD)(f:W_ t al Y=some x)(R:x≠.any)(r:IK t b=true)(hb:Y[b]? = some blk)(be:BE blk a)
  (u:blk.er.sz<a.er.sz) (hg:∀w cs,a=.cells w cs->∀p∈cs,GC Y p.2/\p.1<=w) (hy:y.er=.c q) (A:∀Y,GC Y y) (hc:Cvt σD b x.er q) (h:setL t y al (Y.set b a)=(l,Y')) :
  ∃i k,Ref l Y' i k/\Jr alD σD i k/\(∃pre,l=pre++al)/\Ext Y Y':=by
 obtain ⟨ob,e1,S⟩:=g.hh.hp b blk hb;have S:ob=blk.er:=S;subst S;have H1:=g.hh.set (ob:=a.er) hb be rfl hg;have L:=Ext.set hb be;unfold W_ at f;unfold setL at h;unfold IK at r;split at f
 ·rename_i T;rw[T] at h r;simp only at h r;generalize (t-1048576) / 1024=bb at f h r;generalize (t-1048576) % 1024=N at f h;have E:bb≠b:=λe=>by simp[e] at r
  split at f
  ·rename_i w cs U;split at f
   ·rename_i w0 x0 hj;simp only[au] at f;subst f;have o:(Y.set b a)[bb]? = some (.cells w cs):=by rw[Vz E];exact U
    rw[o] at h;simp only[aU] at h;obtain ⟨rfl,rfl⟩:=h;have g0:=g.hh.hg _ w cs U;have G:BE (.cells w cs) (.cells (w+1) (cs.set (N) (w+1,y))):=⟨_,_,rfl,by omega,by simp,λj v z v1 z1 q1 K=>by
     by_cases e:j=N
     ·subst e;rw[xAd (fq.1 hj).1] at K;simp only[au,aU] at K;exact .inr (by omega)
     ·rw[yCp (λq=>e q.symm)] at K
      simp_all⟩
    have x2:=Ext.set o G;have H2:=H1.set (ob:=(TB.cells (w+1) (cs.set (N) (w+1,y))).er) o G rfl (λw' aa e p O=>by
     simp only[TB.cells.injEq] at e;obtain ⟨rfl,rfl⟩:=e;rcases yCq O with O | rfl
     ·exact ⟨(g0 p O).1.mono L,Nat.le_succ_of_le (g0 p O).2⟩
     ·exact ⟨A _,cP _⟩)
    obtain ⟨W,k1,Z⟩:=g.hh.hp _ _ U;have Z:W=(TB.cells w cs).er:=Z;subst Z;have x3:=Ext.trans g.hh L x2;refine ⟨alD,_,⟨H2,λs z p hs=>?_⟩,?_,⟨[],rfl⟩,x3⟩
    ·obtain ⟨d,q1,K,q3⟩:=g.rg s z p hs;exact ⟨d,q1,K,GW.mono x3 [] q3⟩
    ·have:=Jr.cl (al:=alD) (j:=N) (x:=q) (d:=x0.er) (ob':=a.er) k1 (by simp[hj]) E e1 u hc;simpa[TB.er,List.map_set,hy] using this
   ·simp at f
  ·simp at f
 ·rename_i T;rw[T] at h;simp only[aU] at h;obtain ⟨rfl,rfl⟩:=h;split at f
  ·rename_i x0 hl;simp only[au] at f;subst f;obtain ⟨g1,_⟩:=ref_c g hl R;exact ⟨_,_,g.set H1 L (Or.inr (by rw[hy])) (A _),Jr.rg g1 e1 u hc,⟨[_],rfl⟩,L⟩
  ·simp at f
theorem Sw:∀(os:List (Nat×Nat))(al g:TA)(Y Y':TH)(alD:AL)(σD:ar),Om os al Y=some (g,Y')->Ref al Y alD σD ->
  ∃d f,Ref g Y' d f/\Jr alD σD d f/\(∃pre,g=pre++al)/\Ext Y Y':=by
 intro os;induction os with
 |nil=>intro al g Y Y' alD σD h r;simp only[Om,au,aU] at h;obtain ⟨rfl,rfl⟩:=h;exact ⟨alD,σD,r,Jr.refl _ _,⟨[],rfl⟩,Ext.refl Y⟩
 |cons o os ih=>
  intro al g Y Y' alD σD h r;obtain ⟨t,i⟩:=o;have fin:∀{al1 Y1},(∃d f,Ref al1 Y1 d f/\Jr alD σD d f/\(∃pre,al1=pre++al)/\Ext Y Y1)->Om os al1 Y1=some (g,Y') ->
    ∃d f,Ref g Y' d f/\Jr alD σD d f/\(∃pre,g=pre++al)/\Ext Y Y':=by
   intro al1 Y1 hs h;obtain ⟨a1,s1,R1,S1,⟨p1,T⟩,U⟩:=hs;obtain ⟨a2,s2,R2,S2,⟨p2,W⟩,x2⟩:=ih _ _ _ _ _ _ h R1;exact ⟨a2,s2,R2,S1.trans S2,⟨p2++p1,by simp_all⟩,Ext.trans r.hh U x2⟩
  simp only[Om] at h;split at h
  ·rename_i i0 b v m G;split at h
   ·rename_i j l K L hb;split at h
    ·rename_i k;simp only[bG] at k;obtain ⟨k,N⟩:=k;have k:=dd k;subst k;have O:GC Y (.own i0 b K m):=Uc r G (by simp);obtain ⟨blk,R,g2⟩:=O;rw[hb] at R;simp only[au] at R;subst R;obtain ⟨rfl,rfl⟩:=(g2 _ _ _ _ rfl).2 rfl;have z:BE (.row j l K L) (.row j (l++[dfl j]) (K+1) (L+1)):=⟨_,K+1,L+1,rfl,by omega,by omega,λe=>by omega,λe=>by omega⟩;exact fin (RQ (q:=.cJ false (l.map (enc j))) (y:=.sl j l) r G (by simp) N hb z (dfl_len j l) (λw u e=>by simp at e) rfl (λ_=>True.intro) (cvt_row (r.hh.row hb)) rfl) h
    ·simp at h
   ·simp at h
  ·rename_i b sz G;split at h
   ·rename_i w u hb;split at h
    ·rename_i a k ha;simp only[bG] at k;obtain ⟨k,N⟩:=k;have k:=dd k;subst k;obtain ⟨m1,_⟩:=yC ha;rw[UX] at m1;obtain ⟨ob,Z,S⟩:=r.hh.hp b _ hb;have S:ob=.cells (u.map λp=>p.2.er):=S;have e3:(u.map λp=>p.2.er)=(enc i a).map .c:=m1;subst S;rw[e3] at Z;have E:u.length=(enc i a).length:=by have:=Ig List.length e3;simpa using this
     have z:BE (.cells w u) (.cells (w+1) (u++[(w+1,.any)])):=⟨_,_,rfl,by omega,by simp,λj v x v1 U T W=>by
      rw[FF (fq.1 T).1] at W
      simp_all⟩
     refine fin (RQ (q:=.cD (enc i a) 0) (y:=.fp i a 0) r G (by simp) N hb z (by simp[TB.er,Ob.sz]) (λw' aa e p A=>?_) rfl (λ_=>True.intro) ?_ rfl) h
     ·simp only[TB.cells.injEq] at e;obtain ⟨rfl,rfl⟩:=e;rcases kL.1 A with A | A
      ·exact ⟨(r.hh.hg b w u hb p A).1,Nat.le_succ_of_le (r.hh.hg b w u hb p A).2⟩
      ·simp only[zV] at A;subst A;exact ⟨True.intro,cP _⟩
     ·show Cvt σD b (.ptr b 0 u.length) _;rw[E];exact cvt_ptr Z
    ·simp at h
   ·simp at h
  ·simp at h
theorem HM{g:Hn}{q:Nat}:∀(k:Nat){os:List aH},lB g q os=true->lB g q (os.take k)=true
 |0,_,_=>by simp[lB]
 |k+1,[],_=>by simp[lB]
 |k + 1, o :: os, h => by
  have e:=HM k (Bh h);simp only[List.take_succ_cons,lB,bG,e,NT];have a:∀(p:aH->Bool),os.any p=false->(os.take k).any p=false:=λp d=>by rw[yCm] at d ⊢;exact λx f=>d x (Mx f)
  simp only[lB,bG] at h;have b:=h.1;split at b
  ·rw[hZ] at b ⊢;exact a _ b
  ·rw[hZ] at b ⊢;exact a _ b
theorem HL{g:Hn}{q:Nat}:∀(k:Nat){os:List aH},lB g q os=true->lB g q (os.drop k)=true
 |0,_,h=>h
 |k+1,[],_=>by simp[lB]
 |k+1,o::os,h=>HL k (Bh h)
theorem Sd{R:Type}(g:Hn)(q:Nat)(O:rV g.P (CW (Gx g.S)))(v:Rv g):∀(zs:List (Nat×Nat×Nat))(os:List aH)(al:TA)(Y:TH)(K:TA->TH->Option R)(r:R)(alD:AL)(σD:ar),
  Xr g q zs os al Y K=some r->lB g q os=true->Ref al Y alD σD->tB g.P os g.n alD σD λf j=>∃d Y',Ref d Y' f j/\(∃pre,d=pre++al)/\Ext Y Y'/\K d Y'=some r
 |[], os, al, Y, K, r, alD, σD, h, l, o => by simp only[Xr] at h;obtain ⟨G,x,_,y⟩:=qM g q O v 1000 0 os [] al Y _ r alD σD h l o (λp b hk=>by grind [AN]) (λp b hk=>by grind [AN]);refine tB.trq x (y.mono λa s i z=>?_);obtain ⟨d,Y',L,u,N,A,_,e⟩:=z;exact ⟨d,Y',u,N,A,e⟩
 |(k, t, i) :: zs, os, al, Y, K, r, alD, σD, h, l, o => by
  simp only[Xr] at h;rw[<-JN k os];refine tB.VF ?_;obtain ⟨G,x,_,y⟩:=qM g q O v 1000 0 (os.take k) [] al Y _ r alD σD h (HM k l) o (λp b hk=>by grind [AN]) (λp b hk=>by grind [AN]);refine tB.trq x (y.mono λa s i z=>?_);obtain ⟨al1,Y1,L,u,⟨p1,q1⟩,A,_,e⟩:=z;dsimp only at e;split at e
  ·rename_i E aC S;obtain ⟨T,U,W,Z,⟨p2,q2⟩,x2⟩:=Sw _ _ _ _ _ _ _ S u;refine tB.Bc Z ((Sd g q O v zs (os.drop k) E aC K r T U e (HL k l) W).mono λa s hs=>?_);obtain ⟨d,Y',g1,⟨p3,g2⟩,g3,g4⟩:=hs;exact ⟨d,Y',g1,⟨p3++(p2++p1),by simp_all⟩,Ext.trans o.hh A (Ext.trans u.hh x2 g3),g4⟩
  ·simp at e
def XE{R:Type}{a b:Nat}{k:Option R}{r:R}(h:BY a b k=some r):a=b/\k=some r:=by
 unfold BY at h;split at h
 ·rename_i e;exact ⟨dd e,h⟩
 ·simp at h
theorem refr_ok{R:Type}{k:TA->Option R}{r:R}{Y:TH}{σD:ar}:∀(hs:List (Nat×Nat))(al:TA)(alD:AL),ZY hs al Y k=some r->Ref al Y alD σD ->
  ∃f a,k f=some r/\Ref f Y a σD/\(∃pre,f=pre++al)/\∀t d,lk t a=some d->lk t alD=some d:=by
 intro hs;induction hs with
 |nil=>intro al alD h g;exact ⟨al,alD,h,g,⟨[],rfl⟩,λ_ _ h=>h⟩
 |cons o hs ih=>
  intro al alD h g;obtain ⟨t,U⟩:=o;simp only[ZY] at h;split at h
  ·rename_i i b v m y;split at h
   ·rename_i j l x W hb;split at h
    ·rename_i q;have q:=dd q;subst q;obtain ⟨z,A⟩:=XE h;clear h;subst z;obtain ⟨p,E⟩:=jJ y;obtain ⟨d,Z,G,_⟩:=g.rg t _ p E;have:=RT.c1 (by simp) G;subst this;have K:Ref ((t,.v (.c (.own j b x l.length)))::al) Y ((t,OS (aB j) b l.length)::alD) σD:=g.set g.hh (Ext.refl Y) (Or.inr rfl) ⟨_,hb,λj' l' L N e=>by grind⟩;obtain ⟨f,a,O,S,⟨pre,g3⟩,T⟩:=ih _ _ A K;refine ⟨f,a,O,S,⟨pre++[(t,.v (.c (.own j b x l.length)))],by simp_all⟩,λs d hs=>?_⟩;have:=T s d hs;simp only[lk] at this;split at this
     ·rename_i u;have:=dd u
      grind [TC.er]
     ·exact this
    ·simp at h
   ·simp at h
  ·simp at h
def wP.lks{m:Nat}{al i:AL}{Y:ar}(hm:m<=Y.length)(h:∀t d,lk t i=some d->lk t al=some d):wP m al Y i Y:=⟨hm,λn M' Fz' w' j R A=>⟨M',Fz',R,⟨A.1,λt d o=>A.2 t d (h t d o)⟩,KM.refl,λY M Fz w _ E _=>E⟩⟩
def qS{R:Type}(al:TA)(Y:TH)(K:KC R)(r:R):nr->AL->ar->Prop:=λx b d=>∃a Y',Ref a Y' b d/\(∃pre,a=pre++al)/\Ext Y Y'/\K x a Y'=some r
def qv{hs:List (Nat×Nat)}{md:List Nat}{al pre:TA}{Y:TH}(h:IY hs md al Y (pre++al)=true):∀y∈pre,y.1∈md\/∃b i l a d,(y.1,b)∈hs/\Y[b]? = some (.row i l a d):=by
 intro y f;unfold IY at h;rw[zJ,Nat.add_sub_cancel,List.take_left,iK] at h;have:=h y f;rw[gE,List.any_eq_true,List.any_eq_true] at this;rcases this with ⟨z,g,e⟩ | ⟨z,g,e⟩
 ·simp_all
 ·simp only[bG] at e
  grind [Nat.eq_of_beq_eq_true,rowAt]
def rJ{h:JH}{md:List Nat}{al al1:TA}{Y Y1:TH}{x:rG h.pl}(e:OX h md al Y al1 Y1=some x):IY h.hs md al Y al1=true/\eQ (h.pl++Lp h.zs) 0 Y Y1=true/\Yr al1 Y1 h.hs=true/\Yp Y.length Y1 h.zs=true/\LO al1 Y1 h.pl=some x:=by
 unfold OX at e
 grind
theorem Au{Y aC:TH}(q:Ext Y aC)(hl:aC.length=Y.length){b i d f:Nat}{l:List (TT i)}(h:aC[b]? = some (.row i l d f)):∃i l d f,Y[b]? = some (.row i l d f):=by
 have a:b<Y.length:=by grind
 obtain ⟨o,k,g⟩:=q b _ (dW a);rw[h] at k;simp only[au] at k;subst k;have r:Y[b]? = some Y[b]:=dW a;rw[r];cases p:Y[b] with
 |row i l d f=>simp_all
 |cells w t=>rw[p] at g;obtain ⟨_,_,e,_⟩:=g;simp at e
 |mp j st l v=>rw[p] at g;obtain ⟨_,_,_,_,e,_⟩:=g;simp at e
def qy(h:JH)(md:List Nat)(al:TA)(Y:TH)(x:rG h.pl):∃pre,dV h md al Y x=pre++al/\∀y∈pre,(∃c,Pl.r y.1 c∈h.pl)\/(∃b i l g j,(y.1,b)∈h.hs/\(cT h md al Y x)[b]? = some (.row i l g j))\/y.1∈md:=by
 obtain ⟨d,t,o,_⟩:=Ho md al;obtain ⟨e,u,k,_⟩:=On (rQ h.pl x Y) h.hs (HG md al);obtain ⟨f,v,p⟩:=HR h.pl x (Rb (rQ h.pl x Y) h.hs (HG md al));refine ⟨f++(e++d),by grind [dV],λy a=>?_⟩;rcases kL.1 a with a | a
 ·grind
 ·rcases kL.1 a with a | a
  ·obtain ⟨b,i,l,g,j,q,r,_⟩:=k y a;exact .inr (.inl ⟨b,i,l,g,j,q,((NG h.zs (rQ h.pl x Y)).row b _ _ _ _).1 r⟩)
  grind
def DW{h:JH}{md:List Nat}{al:TA}{Y:TH}{x:rG h.pl}(f:Ext Y (cT h md al Y x))(hl:(cT h md al Y x).length=Y.length){t:Nat}{q:RV×Nat}(g:t∉md)(j:∀c,Pl.r t c∉h.pl)
  (k:∀b,(t,b)∈h.hs->∀i l a d,Y[b]?≠some (.row i l a d)) (o:iI t al=some q):iI t (dV h md al Y x)=some q:=by
 obtain ⟨pre,e,p⟩:=qy h md al Y x
 grind [qx,Au]
theorem Sem.ownC{P:Program}{n:Nat}{ac:aQ}{Q:nr->AL->ar->Prop}{al:AL}{Y:ar}(b j aB:Nat)(cs:List D)(hb:Y[b]? = some (.cells cs))(hj:cs[j]? = some (.c (.lit (.slice none 0 0))))(h:Sem P ac n al (Y.set b (.cells (cs.set j (.sl Y.length 0 0 aB 0)))++[.cells []]) Q):Sem P ac n al Y Q:=by
 intro c hc M Fz w a K R A hK;have af:=(fq.1 hb).1;have cN:∀(i:Nat) E,Y[i]? = some E->∃G,(Y.set b (.cells (cs.set j (.sl Y.length 0 0 aB 0)))++[.cells []])[i]? = some G/\G.sz=E.sz:=λi E hi=>by
  have aa:=(fq.1 hi).1;rw[FF (by simp_all)];by_cases e:i=b
  ·grind [Ob.sz]
  grind
 have z:∀{d v},V Y M Fz w d v->V (Y.set b (.cells (cs.set j (.sl Y.length 0 0 aB 0)))++[.cells []]) M Fz w d v:=λh=>h.sub cN (λ_ _ h=>h) (λc h=>⟨h,rfl⟩) (λc u T fr h=>⟨u,h,rfl⟩);have ak:∀{E o},ca Y M Fz w E o->ca (Y.set b (.cells (cs.set j (.sl Y.length 0 0 aB 0)))++[.cells []]) M Fz w E o:=λ{E o} W=>by
  cases E with
  |cells cs=>obtain ⟨u,T,Z,hl,U⟩:=W;exact ⟨u,T,Z,hl,λi d v x y=>⟨z (U i d v x y).1,(U i d v x y).2⟩⟩
  |map es ab=>obtain ⟨u,Z,hl,U⟩:=W;exact ⟨u,Z,hl,λi k d n e x y=>let ⟨p,q,r⟩:=U i k d n e x y;⟨p,q,z r⟩⟩
  |gone n=>exact W.elim
 have R1:Rel (Y.set b (.cells (cs.set j (.sl Y.length 0 0 aB 0)))++[.cells []]) M Fz w:=by
  refine ⟨λb' c h=>?_,R.inj,R.fz,R.gl⟩;obtain ⟨h1,E,o,O,h3,W⟩:=R.blk b' c h;have aa:=(fq.1 O).1;by_cases e:b'=b
  ·subst e;rw[hb] at O;simp only[au] at O;subst O;refine ⟨h1,_,o,by rw[FF (by simp_all)];exact HK hb,h3,?_⟩;obtain ⟨u,T,Z,hl,U⟩:=W;refine ⟨u,T,Z,by simp_all,λi d v x y=>?_⟩;by_cases ej:j=i
   ·subst ej;rw[yBM,if_pos rfl] at x;split at x
    ·simp only[au] at x;subst x;obtain ⟨v1,v2⟩:=U j _ v hj y;refine ⟨?_,v2⟩;rw[v1.ce];exact .sl none 0 0 (by simp) (.cells []) (by simp_all) (by omega) (λ_=>.inl ⟨rfl,rfl,rfl,rfl,rfl,rfl⟩)
    simp_all
   grind
  grind
 have E1:bF Y M Fz w (Y.set b (.cells (cs.set j (.sl Y.length 0 0 aB 0)))++[.cells []]) M Fz w:={
  size:=cP _
  frame:=λ_ _ _=>rfl
  lP:=λb c h=>.inl ⟨b,h⟩
  fz:=λc h=>⟨h,rfl⟩
  nF:=λc h=>.inl h
  qe:=λc u T fr h=>⟨u,h,rfl⟩
  keep:=λb E h=>let ⟨G,h1,O⟩:=cN b E h;⟨G,h1,yCa O.symm,λ_=>rfl⟩
  out:=⟨rfl,rfl,rfl⟩ }
 have A1:ed n (Y.set b (.cells (cs.set j (.sl Y.length 0 0 aB 0)))++[.cells []]) M Fz w al a.tmps:=⟨A.1,λs d hs=>let ⟨v,h1,O⟩:=A.2 s d hs;⟨v,h1,z O⟩⟩;exact h c hc M Fz w a K R1 A1 λx ad Y' a' w' M' Fz' hQ hd R' A' E' hl=>hK x ad Y' a' w' M' Fz' hQ hd R' A' (E1.trans E' (by simp)) (by grind)
theorem Kq{P:Program}{n:Nat}{ac:aQ}{Q:nr->AL->ar->Prop}:∀(os:List (Nat×Nat))(al f:TA)(Y Y':TH)(alD:AL)(σD:ar),Gk os al Y=some (f,Y')->Ref al Y alD σD ->
  (∃pre,f=pre++al)/\Ext Y Y'/\((∀u y,Ref f Y' u y->Sem P ac n u y Q)->Sem P ac n alD σD Q):=by
 intro os;induction os with
 |nil=>intro al f Y Y' alD σD h a;simp only[Gk,au,aU] at h;obtain ⟨rfl,rfl⟩:=h;exact ⟨⟨[],rfl⟩,Ext.refl Y,λhs=>hs alD σD a⟩
 |cons o os ih=>
  intro al f Y Y' alD σD h a;obtain ⟨t,i⟩:=o;simp only[Gk] at h;split at h
  ·
   generalize (t-1048576) / 1024=b at h;generalize (t-1048576) % 1024=j at h;split at h
   ·rename_i w z hb;split at h
    ·rename_i v0 hj;obtain ⟨ds,hd,_,_,U⟩:=a.hh.cells hb;have aa:ds[j]? = some (.c (.lit (.slice none 0 0))):=by rw[U,lS,hj];rfl
     have N:BE (.cells w z) (.cells (w+1) (z.set j (w+1,.own i Y.length 0 0))):=⟨w+1,_,rfl,by omega,by simp,λk v x v1 E e K=>by grind⟩
     have E:Ext Y (Y.set b (.cells (w+1) (z.set j (w+1,.own i Y.length 0 0)))++[.row i [] 0 0]):=λg q e=>by
      obtain ⟨W,K,L⟩:=Ext.set hb N g q e
      grind
     have O:Ref al (Y.set b (.cells (w+1) (z.set j (w+1,.own i Y.length 0 0)))++[.row i [] 0 0]) alD (σD.set b (.cells (ds.set j (.sl σD.length 0 0 (aB i) 0)))++[.cells []]):=by
      refine ⟨⟨by simp[a.hh.len],λg q e=>?_,λg w' R e p A=>?_⟩,λt x p h=>?_⟩
      ·rcases rU g Y.length with r | r
       ·rw[FF (by simp_all)] at e;rw[FF (by rw[WD,a.hh.len];exact r)];by_cases G:g=b
        ·subst G;rw[HK hb] at e;simp only[au] at e;subst e;refine ⟨_,HK hd,?_⟩;show _=TB.er _;simp only[TB.er,Ob.cells.injEq];rw[List.map_set,U,a.hh.len];simp[TC.er,OS]
        ·rw[Vz G] at e ⊢;exact a.hh.hp g q e
       ·rw[Np (by simp_all),WD] at e;rw[Np (by rw[WD,a.hh.len];exact r),WD,a.hh.len];have:g-Y.length=0:=by grind
        rw[this] at e ⊢;simp only[xF,au] at e;subst e;exact ⟨_,rfl,rfl⟩
      ·rcases rU g Y.length with r | r
       ·rw[FF (by simp_all)] at e;by_cases G:g=b
        ·subst G;rw[HK hb] at e;simp only[au,TB.cells.injEq] at e;obtain ⟨rfl,rfl⟩:=e;rcases yCq A with A | rfl
         ·obtain ⟨S,Z⟩:=a.hh.hg g w z hb p A;exact ⟨S.mono E,by omega⟩
         ·refine ⟨⟨.row i [] 0 0,?_,λj l lv cv e=>?_⟩,cP _⟩
          ·simp_all
          grind
        ·rw[Vz G] at e;obtain ⟨S,Z⟩:=a.hh.hg g w' R e p A;exact ⟨S.mono E,Z⟩
       grind
      ·obtain ⟨d,r,T,h3⟩:=a.rg t x p h;exact ⟨d,r,T,h3.mono E []⟩
     obtain ⟨⟨pre,K⟩,L,e3⟩:=ih _ _ _ _ _ _ h O;refine ⟨⟨pre,K⟩,Ext.trans a.hh E L,λhs=>?_⟩
     grind [Sem.ownC]
    ·grind
    simp_all
   simp_all
  split at h
  ·rename_i ht;obtain ⟨p,A⟩:=jJ ht;obtain ⟨d,r,T,_⟩:=a.rg t _ p A;have:=RT.c1 (by simp) T;subst this;have O:Ref ((t,.v (.c (.own i Y.length 0 0)))::al) (Y++[.row i [] 0 0]) ((t,OS (aB i) σD.length 0)::alD) (σD++[.cells []]):=
    a.set (a.hh.push (blk:=.row i [] 0 0) (ob:=.cells []) rfl (λw z e=>by simp at e)) (Ext.push Y _) (Or.inr (by rw[a.hh.len];rfl)) (pU (b:=0) rfl)
   obtain ⟨⟨pre,K⟩,L,e3⟩:=ih _ _ _ _ _ _ h O;refine ⟨⟨pre++[(t,.v (.c (.own i Y.length 0 0)))],by simp_all⟩,Ext.trans a.hh (Ext.push Y _) L,λhs=>?_⟩;exact Sem.own t (aB i) r (d:=OS (aB i) σD.length 0) (by simp[OS]) rfl (e3 hs)
  ·grind
  simp_all
def Sem.drwCQ{P:Program}{n:Nat}{al:AL}{Y:ar}{Q:nr->AL->ar->Prop}{orc:fA}{os:List aH}{k:Nat}{i:List Nat}{p:Nat}(j:P.follows .mixedOrders=true)(O:lT P orc)
  (h:cj P orc (V_ os) os n al Y λu Y' o=>(eT i o&&l_ i p (V_ os) os.length&&Nat.ble p (V_ os))=true/\Q .normal u Y'):Sem P (.HH os i k p) n al Y Q:=by
 obtain ⟨al1,Y1,o,h,hp,G⟩:=h;intro c U M Fz w a K R A W;obtain ⟨e',Z,h2⟩:=h _ A.de.2;have aa:∀m r,jO P orc os i p m (xU n al) Y=some r->r=(e',Y1,o.flatMap (·.wr)):=by
  intro m r z;unfold jO at z;split at z
  ·rename_i e2 aC ab E;have:=NH _ _ _ _ _ _ _ E Z
   simp_all
  simp_all
 have E:jO P orc os i p (V_ os) (xU n al) Y=some (e',Y1,o.flatMap (·.wr)):=by
  unfold jO
  simp_all
 have h4:kB P orc 1 (.HH os i k p) (xU n al) Y []=some (.normal,e',Y1,o.flatMap (·.wr)++[]):=by grind [kB]
 have:Sem P (.HH os i k p) n al Y Q:=Sem.EO j O (k:=1) (wr:=[]) (e:=xU n al) (e':=e') (x:=.normal) (Y':=Y1) h4 rfl h2 G;exact this c U M Fz w a K R A W
theorem Ws(g:Hn)(dG:g.P.follows .mixedOrders=true)(hT:fF g.P g.S)(hI:Rv g){R:Type}:∀(ac:aQ)(q:Nat)(al:TA)(Y:TH)(K:KC R)(r:R)(alD:AL)(σD:ar),tC g ac q al Y K=some r->Ref al Y alD σD ->
  Sem g.P ac g.n alD σD (qS al Y K r):=by
 have O:rV g.P (CW (Gx g.S)):=mh (QO hT);intro ac;induction ac with
 |skip=>intro q al Y K r alD σD h S;exact Sem.skip dG ⟨al,Y,S,⟨[],rfl⟩,Ext.refl Y,h⟩
 |exit id=>intro q al Y K r alD σD h S;exact Sem.exit dG ⟨al,Y,S,⟨[],rfl⟩,Ext.refl Y,h⟩
 |ret=>intro q al Y K r alD σD h S;exact Sem.ret dG ⟨al,Y,S,⟨[],rfl⟩,Ext.refl Y,h⟩
 |stuck=>grind [tC]
 |lbl l=>intro q al Y K r alD σD h S;exact Sem.lbl ⟨al,Y,S,⟨[],rfl⟩,Ext.refl Y,h⟩
 |VV l a rr a9 b0=>
  intro q al Y K r alD σD h S;have ev:∀{i:Nat},Nat.beq (i % 2) 0=true->i % 2=0:=λh=>dd h;simp only[tC] at h;split at h
  ·
   refine Sem.VV 1 ((a9 _ _ _ _ _ alD σD h S).fh λex bh a0 hP=>.inl ?_);obtain ⟨al1,Y1,U,⟨pre,e1⟩,W,N⟩:=hP;cases ex with
   |normal=>exact ⟨al1,Y1,U,⟨pre,e1⟩,W,N⟩
   |ret=>exact ⟨al1,Y1,U,⟨pre,e1⟩,W,N⟩
   |exit i=>
    dsimp only at N;split at N
    ·rename_i hi;refine .inl ⟨dd hi,bh,a0,wP.refl (by rw[S.hh.len,U.hh.len];exact W.len),Vp.succ ((b0 _ _ _ _ _ bh a0 N U).fh λex E G hP=>.inl ?_)⟩;obtain ⟨af,aC,g1,⟨ab,e2⟩,g3,g4⟩:=hP;have fin:∀{ex:nr},K ex af aC=some r->qS al Y K r ex E G:=λg4=>⟨af,aC,g1,⟨ab++pre,by simp_all⟩,Ext.trans S.hh W g3,g4⟩;cases ex with
     |normal=>exact fin g4
     |ret=>exact fin g4
     |exit i=>
      dsimp only at g4;split at g4
      ·rename_i he;exact .inr ⟨ev he,fin g4⟩
      simp_all
    ·split at N
     ·rename_i he;exact .inr ⟨ev he,al1,Y1,U,⟨pre,e1⟩,W,N⟩
     simp_all
  ·
   rename_i T hJ;have bd:∀(k:Nat)(x:rG T.pl)(E:AL)(G:ar),Ext Y (cT T (dR a++dR rr) al Y x)->HS (T.pl++Lp T.zs) Y (cT T (dR a++dR rr) al Y x)->(cT T (dR a++dR rr) al Y x).length=Y.length->Ref (dV T (dR a++dR rr) al Y x) (cT T (dR a++dR rr) al Y x) E G ->
     bB (λrec x=>tC g rr (2 * q+1) (dV T (dR a++dR rr) al Y x) (cT T (dR a++dR rr) al Y x) λex al1 Y1=>match ex with
      |.exit i => match Nat.beq i (2 * l + 1) with
       |true=>match FN T (dR a++dR rr) (dV T (dR a++dR rr) al Y x) (cT T (dR a++dR rr) al Y x) al1 Y1 with | some x'=>rec x' | none=>none
       |false=>match Nat.beq (i % 2) 0 with | true=>K (.exit i) al1 Y1 | false=>none
      |ex=>K ex al1 Y1) k x=some r->Vp g.P rr l k g.n E G (qS al Y K r):=by
    intro k;induction k with
    |zero=>grind [bB]
    |succ k be=>
     intro x E G x1 x2 x3 x4 h;have B:=b0 _ _ _ _ _ E G (show tC g rr (2 * q+1) (dV T (dR a++dR rr) al Y x) (cT T (dR a++dR rr) al Y x) _=some r from h) x4;refine Vp.succ (B.fh λex a1 a2 hP=>.inl ?_);obtain ⟨al1,Y1,U,⟨pre,rfl⟩,W,N⟩:=hP;obtain ⟨ak,eA,_⟩:=qy T (dR a++dR rr) al Y x;have fin:∀{ex:nr},K ex (pre++dV T (dR a++dR rr) al Y x) Y1=some r->qS al Y K r ex a1 a2:=λN=>⟨_,Y1,U,⟨pre++ak,by simp_all⟩,Ext.trans S.hh x1 W,N⟩;cases ex with
     |normal=>exact fin N
     |ret=>exact fin N
     |exit i=>
      dsimp only at N;split at N
      ·rename_i hi;split at N
       ·rename_i xv hx;obtain ⟨ab,aC,bi,bk,w1,bu,bv,hx⟩:=Aj x4 U W hx;obtain ⟨d1,d2,d3,d5,d4⟩:=rJ hx;have av:=qv d1;obtain ⟨f1,f2,f3,ax,an,f4,f5⟩:=rj (md:=dR a++dR rr) S bu (λt q h=>by rw[eA,<-zg];exact zB h)
         (λt q m1 m2 m3 h=>qx (λy hy e=>(av y hy).elim (λz=>m1 (e▸z)) λ⟨b,i,l,lv,cv,z1,z2⟩=>let ⟨i,l,lv,cv,z3⟩:=Au x1 x3 z2;m3 b (e▸z1) i l lv cv z3) (DW x1 x3 m1 m2 m3 h)) (x2.trans (zdx x4.hh d2 bv)) d3 (by simp_all) d4
        refine .inl ⟨dd hi,ax,an,?_,be xv ax an f1 f2 f3 f5 N⟩;rw[x4.hh.len,x3];rw[x3] at w1;exact w1.trans f4
       simp_all
      ·split at N
       ·rename_i he;exact .inr ⟨ev he,fin N⟩
       simp_all
   refine Sem.VV g.N ((a9 _ _ _ _ _ alD σD h S).fh λex bh a0 hP=>.inl ?_);obtain ⟨al1,Y1,U,⟨pre,rfl⟩,W,N⟩:=hP;have fin:∀{ex:nr},K ex (pre++al) Y1=some r->qS al Y K r ex bh a0:=λN=>⟨_,Y1,U,⟨pre,rfl⟩,W,N⟩;cases ex with
   |normal=>exact fin N
   |ret=>exact fin N
   |exit i=>
    dsimp only at N;split at N
    ·rename_i hi;split at N
     ·grind
     ·rename_i x0 hx;obtain ⟨ab,aC,bi,bk,w1,bu,bv,hx⟩:=Aj S U W hx;obtain ⟨d1,d2,d3,d5,d4⟩:=rJ hx;have av:=qv d1;obtain ⟨f1,f2,f3,ax,an,f4,f5⟩:=rj (md:=dR a++dR rr) S bu (λt q h=>zB h)
       (λt q m1 _ m3 h=>qx (λy hy e=>(av y hy).elim (λz=>m1 (e▸z)) λ⟨b,i,l,lv,cv,z1,z2⟩=>m3 b (e▸z1) i l lv cv z2) h) (zdx S.hh d2 bv) d3 d5 d4
      refine .inl ⟨dd hi,ax,an,?_,bd g.N x0 ax an f1 f2 f3 f5 N⟩;rw[S.hh.len];exact w1.trans f4
    ·split at N
     ·rename_i he;exact .inr ⟨ev he,fin N⟩
     simp_all
 |Bb os=>
  intro q al Y K r alD σD h S;simp only[tC] at h;split at h
  ·split at h
   ·rename_i hU;obtain ⟨oz,o1,_,o3⟩:=qM g q O hI 1000 0 os [] al Y _ r alD σD h (vE hU) S (λp b hk=>by grind [AN]) (λp b hk=>by grind [AN]);refine Sem.qU dG o1 (o3.mono λa s i hA=>?_);obtain ⟨ad,Y',is,U,h2,W,_,N⟩:=hA;exact ⟨ad,Y',U,h2,W,N⟩
   simp_all
  ·rename_i T hJ;split at h
   ·rename_i L u hz hU;obtain ⟨bb,a5,a8,Sz,⟨a6,eZ⟩,xZ⟩:=Sw T.os al L Y u alD σD hz S;refine Sem.Bc Sz ?_;have hR:=Sd g q O hI T.zs os L u _ r bb a5 h (vE hU) a8;refine Sem.fh (Sem.ofO (Q:=λx Z aa=>x=.normal/\∃ad Y',Ref ad Y' Z aa/\(∃pre,ad=pre++L)/\Ext u Y'/\ZY T.hs ad Y' (λad=>K .normal ad Y')=some r) (hR.mono λa s hs=>⟨rfl,hs⟩)) λx Z aa hA=>.inr ?_;obtain ⟨rfl,ad,Y',U,⟨pre,e1⟩,W,N⟩:=hA;obtain ⟨af,E,g1,g2,⟨ab,e2⟩,g4⟩:=refr_ok T.hs ad Z N U;exact ⟨E,aa,wP.lks (by rw[a8.hh.len,U.hh.len];exact W.len) g4,af,Y',g2,⟨ab++(pre++a6),by simp_all⟩,Ext.trans S.hh xZ W,g1⟩
   ·simp at h
 |HH os cm k p=>
  intro q al Y K r alD σD h S;simp only[tC] at h;split at h
  ·simp at h
  rename_i hU;split at h
  ·obtain ⟨oz,o1,_,o3⟩:=qM g q O hI 1000 os.length os [] al Y _ r alD σD h (vE hU) S (λp b hk=>by grind [AN]) (λp b hk=>by grind [AN]);refine Sem.drwNQ dG o1 (o3.mono λa s i hA=>?_);obtain ⟨ad,Y',is,U,h2,W,h5,N⟩:=hA;dsimp only at N;split at N
   ·rename_i hc;simp only[bG] at hc ⊢;exact ⟨⟨⟨qR h5 hc.1.1,hc.1.2⟩,hc.2⟩,ad,Y',U,h2,W,N⟩
   simp_all
  split at h
  ·rename_i pi _ n0 hl;split at h
   ·rename_i hc;obtain ⟨oz,o1,_,o3⟩:=qM g q O hI 1000 n0 (nK pi os) [] al Y _ r alD σD h (vE hc) S (λp b hk=>by grind [AN]) (λp b hk=>by grind [AN]);refine Sem.drwG dG o1 hl (o3.mono λa s i hA=>?_);obtain ⟨ad,Y',is,U,h2,W,h5,N⟩:=hA;dsimp only at N;split at N
    ·rename_i hc;exact ⟨Ul h5 hc,ad,Y',U,h2,W,N⟩
    simp_all
   simp_all
  split at h
  ·obtain ⟨oz,o1,_,o3⟩:=qM g q O hI 1000 (V_ os) os [] al Y _ r alD σD h (vE hU) S (λp b hk=>by grind [AN]) (λp b hk=>by grind [AN]);refine Sem.drwCQ dG o1 (o3.mono λa s i hA=>?_);obtain ⟨ad,Y',is,U,h2,W,h5,N⟩:=hA;dsimp only at N;split at N
   ·rename_i hc;simp only[bG] at hc ⊢;exact ⟨⟨⟨qR h5 hc.1.1,hc.1.2⟩,hc.2⟩,ad,Y',U,h2,W,N⟩
   simp_all
  ·obtain ⟨oz,o1,_,o3⟩:=qM g q O hI 1000 k os [] al Y _ r alD σD h (vE hU) S (λp b hk=>by grind [AN]) (λp b hk=>by grind [AN]);refine Sem.drwQ dG o1 (o3.mono λa s i hA=>?_);obtain ⟨ad,Y',is,U,h2,W,h5,N⟩:=hA;dsimp only at N;split at N
   ·rename_i hc;simp only[bG] at hc ⊢;exact ⟨⟨⟨qR h5 hc.1.1,hc.1.2⟩,hc.2⟩,ad,Y',U,h2,W,N⟩
   simp_all
 |seq a b a9 a7=>
  intro q al Y K r alD σD h S;simp only[tC] at h;split at h
  ·
   have A:=a9 _ _ _ _ _ alD σD h S;refine Sem.kj (A.fh λx Z aa hP=>.inl ?_);obtain ⟨al1,Y1,U,⟨pre,rfl⟩,W,N⟩:=hP;cases x with
   |normal=>refine .inl ((a7 _ _ _ _ _ Z aa N U).fh λx E G hP=>.inl ?_);obtain ⟨af,aC,g1,⟨ab,rfl⟩,g3,g4⟩:=hP;exact ⟨_,aC,g1,⟨ab++pre,by simp_all⟩,Ext.trans S.hh W g3,g4⟩
   |exit i=>exact ⟨_,Y1,U,⟨pre,rfl⟩,W,N⟩
   |ret=>exact ⟨_,Y1,U,⟨pre,rfl⟩,W,N⟩
  ·
   rename_i T hJ;split at h
   ·simp at h
   rename_i L u hz;obtain ⟨⟨a6,eZ⟩,xZ,sZ⟩:=Kq (P:=g.P) (n:=g.n) (ac:=.seq a b) (Q:=qS al Y K r) T.os al L Y u alD σD hz S;refine sZ λbb a5 a8=>?_;have back:∀{x:nr}{Z:AL}{aa:ar},qS L u K r x Z aa->qS al Y K r x Z aa:=λ⟨al1,Y1,U,⟨pre,e⟩,W,N⟩=>⟨al1,Y1,U,⟨pre++a6,by simp_all⟩,Ext.trans S.hh xZ W,N⟩;refine Sem.fh ?_ (λx ad Y' hP=>.inl (back hP));clear back sZ xZ eZ;replace S:=a8;have A:=a9 _ _ _ _ _ bb a5 (show tC g a (2 * q) L u _=some r from h) S;refine Sem.kj (A.fh λx Z aa hP=>.inl ?_);obtain ⟨al1,Y1,U,⟨pre,rfl⟩,W,N⟩:=hP;cases x with
   |normal=>
    dsimp only at N;split at N
    ·rename_i xv hx;obtain ⟨pre,Y1,Z,aa,w1,U,W,hx⟩:=Aj S U W hx;obtain ⟨c1,c2,c3,c5,c4⟩:=rJ hx;have av:=qv c1;obtain ⟨e1,_,e3,E,G,e4,e5⟩:=rj (md:=dR a) S U (λt q h=>zB h) (λt q hm _ m3 h=>qx (λy hy e=>(av y hy).elim (λz=>hm (e▸z)) λ⟨b,i,l,lv,cv,z1,z2⟩=>m3 b (e▸z1) i l lv cv z2) h) (zdx S.hh c2 W) c3 c5 c4;refine .inr ⟨E,G,by rw[S.hh.len];exact w1.trans e4,(a7 _ _ _ _ _ E G N e5).fh λx a1 a2 hP=>.inl ?_⟩;obtain ⟨af,aC,g1,⟨ab,rfl⟩,g3,g4⟩:=hP;obtain ⟨ak,eA,_⟩:=qy T (dR a) L u xv;exact ⟨_,aC,g1,⟨ab++ak,by simp_all⟩,Ext.trans S.hh e1 g3,g4⟩
    simp_all
   |exit i=>exact ⟨_,Y1,U,⟨pre,rfl⟩,W,N⟩
   |ret=>exact ⟨_,Y1,U,⟨pre,rfl⟩,W,N⟩
 |Wj o ps a b a9 a7=>
  intro q al Y K r alD σD h S;simp only[tC] at h;split at h
  ·simp at h
  rename_i T hJ;split at h
  ·simp at h
  rename_i L u hz;obtain ⟨⟨a6,eZ⟩,xZ,sZ⟩:=Kq (P:=g.P) (n:=g.n) (ac:=.Wj o ps a b) (Q:=qS al Y K r) T.os al L Y u alD σD hz S;refine sZ λbb a5 a8=>?_;have back:∀{x:nr}{Z:AL}{aa:ar},qS L u K r x Z aa->qS al Y K r x Z aa:=λ⟨al1,Y1,U,⟨pre,e⟩,W,N⟩=>⟨al1,Y1,U,⟨pre++a6,by simp_all⟩,Ext.trans S.hh xZ W,N⟩;refine Sem.fh ?_ (λx ad Y' hP=>.inl (back hP));clear back sZ xZ eZ;replace S:=a8;clear a8 hz;split at h
  ·rename_i x0 p bw;obtain ⟨_,c2,c3,c5,c4⟩:=rJ bw;obtain ⟨e1,e2,e3,E,G,e4,e5⟩:=rj (md:=[]) S S (λt q h=>⟨q,h⟩) (λt q _ _ _ h=>h) (zdx S.hh c2 (Ext.refl u)) c3 c5 c4;have hr:dD (cT T [] L u x0) E (Gc (dV T [] L u x0) [] none):=mX e5 (λp b hk=>by grind [AN]) (by simp);split at h
   ·rename_i gf bc hc;obtain ⟨b4,_⟩:=hr.c hc (by simp);split at h
    ·rename_i w0 v0 i l s b5 b6 hb;simp only[bG] at hb;obtain ⟨hp,b7,b1⟩:=hb;have Ow:=hT.iter b6;unfold itF at h;split at h
     ·rename_i i' j f;split at h
      ·rename_i l' b8;obtain ⟨rfl,rfl⟩:=zdK b8;cases hf:f (l',()) with
       |none=>dsimp only at h;rw[hf] at h;simp at h
       |some items=>
       dsimp only at h;rw[hf] at h;simp only[aw] at h;have b9:=Ow l' items hf;have b2:∀{Y1:TH}{a0:ar},RH Y1 a0->HS (T.pl++Lp T.zs) u Y1->a0[bc]? = some (.cells [.c (.cJ false (l'.map (enc i)))]):=λ{Y1 a0} H hs=>by
        obtain ⟨ck,g1,w1,cg,rfl,g2,g3⟩:=hs bc _ b5;cases cg with
        |nil=>simp at g2
        |cons y ys=>
         have:ys=[]:=ZI (by simpa using g2);subst this;have:=g3 0 _ _ rfl rfl λc hm=>by have:=iK.1 b1 _ hm;simp at this
         subst this;obtain ⟨ob,o1,o2⟩:=H.hp bc _ g1;rw[o1,show ob=_ from o2];rfl
       have bd:∀(items:List (TT j))(x:rG T.pl)(E:AL)(G:ar),Ext u (cT T [] L u x)->HS (T.pl++Lp T.zs) u (cT T [] L u x)->(cT T [] L u x).length=u.length->Ref (dV T [] L u x) (cT T [] L u x) E G ->
         lpR (λy x rec=>tC g a (2 * q) ((p,.v (.agg (exp j y)))::dV T [] L u x) (cT T [] L u x) λex al1 Y1=>match ex with
          |.normal => tC g b (2 * q + 1) al1 Y1 λex _ aC => match ex with
           |.normal=>match FN T [] (dV T [] L u x) (cT T [] L u x) (dV T [] L u x) aC with | some x'=>rec x' | none=>none
           |ex=>K ex (dV T [] L u x) aC
          |_=>none) (λx=>K .normal (dV T [] L u x) (cT T [] L u x)) items x=some r ->
         Rng g.P a b g.n [p] bc (.cJ false (l'.map (enc i))) a5.length (qS L u K r) (items.map λa=>[ST (enc j a)]) E G:=by
        intro items;induction items with
        |nil=>intro x E G x1 x2 x3 x4 h;obtain ⟨ak,eA,_⟩:=qy T [] L u x;exact ⟨⟨b2 x4.hh x2,by rw[x4.hh.len,x3,S.hh.len]⟩,_,_,x4,⟨ak,eA⟩,x1,h⟩
        |cons y items be=>
         intro x E G x1 x2 x3 x4 h;obtain ⟨ak,eA,_⟩:=qy T [] L u x;refine ⟨⟨b2 x4.hh x2,by rw[x4.hh.len,x3,S.hh.len]⟩,?_⟩;have R1:Ref ((p,.v (.agg (exp j y)))::dV T [] L u x) (cT T [] L u x) (NW [p] [ST (enc j y)] E) G:=x4.set x4.hh (Ext.refl _) (dt.EA (.st j) y) (Dt (.st j) y);refine (a9 _ _ _ _ _ _ G (show tC g a (2 * q) ((p,.v (.agg (exp j y)))::dV T [] L u x) (cT T [] L u x) _=some r from h) R1).fh λex a1 a2 hP=>.inl ?_;obtain ⟨al1,Y1,U,_,W,N⟩:=hP;cases ex with
         |normal=>
          refine ⟨rfl,(a7 _ _ _ _ _ a1 a2 (show tC g b (2 * q+1) al1 Y1 _=some r from N) U).fh λex ax an hP=>.inl ?_⟩;obtain ⟨af,aC,g1,_,g3,g4⟩:=hP;have x5:Ext (cT T [] L u x) aC:=Ext.trans x4.hh W g3;have R4:Ref (dV T [] L u x) aC E an:=⟨g1.hh,λt v q hq=>let ⟨d,m1,m2,m3⟩:=x4.rg t v q hq;⟨d,m1,m2,m3.mono x5 []⟩⟩;cases ex with
          |normal=>
           dsimp only at g4;split at g4
           ·rename_i xv hx;obtain ⟨pre,co,bi,bk,w1,k1,k3,hx⟩:=Aj (pre:=[]) x4 R4 x5 hx;obtain ⟨d1,d2,d3,d5,d4⟩:=rJ hx;have av:=qv d1;obtain ⟨f1,f2,f3,bl,bt,f4,f5⟩:=rj (md:=[]) S k1 (λt q h=>by rw[eA,<-zg];exact zB h)
             (λt q m1 m2 m3 h=>qx (λy hy e=>(av y hy).elim (λz=>m1 (e▸z)) λ⟨b,i,l,lv,cv,z1,z2⟩=>let ⟨i,l,lv,cv,z3⟩:=Au x1 x3 z2;m3 b (e▸z1) i l lv cv z3) (DW x1 x3 m1 m2 m3 h)) (x2.trans (zdx x4.hh d2 k3)) d3 (by simp_all) d4
            exact ⟨bl,bt,by rw[S.hh.len];rw[x3] at w1;exact w1.trans f4,be xv bl bt f1 f2 f3 f5 g4⟩
           simp_all
          |exit i=>exact ⟨_,aC,R4,⟨ak,eA⟩,Ext.trans S.hh x1 x5,g4⟩
          |ret=>exact ⟨_,aC,R4,⟨ak,eA⟩,Ext.trans S.hh x1 x5,g4⟩
         |exit i=>simp at N
         |ret=>simp at N
       have ch:a5.length=G.length:=by rw[e5.hh.len,e3,S.hh.len]
       refine Sem.preW (by rw[S.hh.len];exact e4) (Sem.Wj (al:=E) (Y:=G) (by cases o <;> exact b4) b7 b9 (λds hd=>?_) (λp' b3=>?_) (ch▸bd items x0 E G e1 e2 e3 e5 h))
       ·obtain ⟨y,_,rfl⟩:=iX.1 hd;rfl
       ·simp only[zV] at b3;subst b3;exact tR.mp hp
      ·simp at h
     ·simp at h
    ·simp at h
   ·simp at h
  ·simp at h
 |cond c a b a9 a7=>
  intro q al Y K r alD σD h S;simp only[tC] at h;have hr:dD Y alD (Gc al [] none):=mX S (λp b hk=>by grind [AN]) (by simp);split at h
  ·rename_i hc;obtain ⟨U,_⟩:=hr.c hc (by simp);exact Sem.cond (b:=true) (by cases c <;> exact U) (λ_=>a9 _ _ _ _ _ alD σD h S) (λe=>by simp at e)
  ·rename_i hc;obtain ⟨U,_⟩:=hr.c hc (by simp);exact Sem.cond (b:=false) (by cases c <;> exact U) (λe=>by simp at e) (λ_=>a7 _ _ _ _ _ alD σD h S)
  ·rename_i e hc;obtain ⟨U,_⟩:=hr.c hc (by simp);refine Sem.cond (b:=e) (by cases c <;> exact U) (λhe=>?_) (λhe=>?_)
   ·grind
   grind
  simp_all
 |block id b a7=>
  intro q al Y K r alD σD h S;simp only[tC] at h;refine Sem.block ((a7 _ _ _ _ _ alD σD h S).fh λx Z aa hP=>.inl ⟨_,_,.refl,?_⟩);obtain ⟨al1,Y1,U,h2,W,N⟩:=hP;cases x with
  |normal=>exact ⟨al1,Y1,U,h2,W,N⟩
  |ret=>exact ⟨al1,Y1,U,h2,W,N⟩
  |exit i=>
   dsimp only at N;refine ⟨λe=>?_,λe=>?_⟩
   ·subst e;have:Nat.beq i i=true:=by simp
    rw[this] at N;exact ⟨al1,Y1,U,h2,W,N⟩
   ·have:Nat.beq i id=false:=by
     grind [Nat.eq_of_beq_eq_true]
    rw[this] at N;exact ⟨al1,Y1,U,h2,W,N⟩
 |loop b a7=>
  intro q al Y K r alD σD h S;simp only[tC] at h;split at h
  ·simp at h
  ·rename_i T hJ;split at h
   ·rename_i nu hu;refine Sem.loop nu ?_;have bd:∀(k:Nat)(af:TA)(aC:TH)(E:AL)(G:ar),(∃pre,af=pre++al)->Ext Y aC->Ref af aC E G ->
      lpU (λrec al Y=>tC g b (2 * q) al Y λex al1 Y1=>match ex with | .normal=>rec al1 Y1 | ex=>K ex al1 Y1) k af aC=some r->lm g.P b k g.n E G (qS al Y K r):=by
     intro k;induction k with
     |zero=>grind [lpU]
     |succ k be=>
      intro af aC E G x1 x2 x4 h;have B:=a7 _ _ _ _ _ E G (show tC g b (2 * q) af aC _=some r from h) x4;refine lm.succ (B.fh (Q':=λx al1 Y1=>match x with | .normal=>∃af aC,Wk G.length al1 Y1 af aC/\lm g.P b k g.n af aC (qS al Y K r) | x=>∃af aC,Wk G.length al1 Y1 af aC/\qS al Y K r x af aC) λex a1 a2 hP=>.inl ?_);obtain ⟨al1,Y1,U,⟨pre,rfl⟩,W,N⟩:=hP;obtain ⟨ab,rfl⟩:=x1;cases ex with
      |normal=>exact ⟨_,_,.refl,be _ _ _ _ ⟨pre++ab,by simp_all⟩ (Ext.trans S.hh x2 W) U N⟩
      |exit i=>exact ⟨_,_,.refl,_,Y1,U,⟨pre++ab,by simp_all⟩,Ext.trans S.hh x2 W,N⟩
      |ret=>exact ⟨_,_,.refl,_,Y1,U,⟨pre++ab,by simp_all⟩,Ext.trans S.hh x2 W,N⟩
    exact bd nu al Y alD σD ⟨[],rfl⟩ (Ext.refl Y) S h
   split at h
   ·simp at h
   rename_i L u hz;obtain ⟨⟨a6,eZ⟩,xZ,sZ⟩:=Kq (P:=g.P) (n:=g.n) (ac:=.loop b) (Q:=qS al Y K r) T.os al L Y u alD σD hz S;refine sZ λbb a5 a8=>?_;have back:∀{x:nr}{Z:AL}{aa:ar},qS L u K r x Z aa->qS al Y K r x Z aa:=λ⟨al1,Y1,U,⟨pre,e⟩,W,N⟩=>⟨al1,Y1,U,⟨pre++a6,by simp_all⟩,Ext.trans S.hh xZ W,N⟩;refine Sem.fh ?_ (λx ad Y' hP=>.inl (back hP));clear back sZ xZ eZ;replace S:=a8;clear a8 hz;split at h
   ·
    simp at h
   split at h
   ·simp at h
   ·rename_i x0 bw;obtain ⟨_,c2,c3,c5,c4⟩:=rJ bw;obtain ⟨e1,e2,e3,E,G,e4,e5⟩:=rj (md:=dR b) S S (λt q h=>⟨q,h⟩) (λt q _ _ _ h=>h) (zdx S.hh c2 (Ext.refl u)) c3 c5 c4;refine Sem.loop g.N (lm.preW (by rw[S.hh.len];exact e4) ?_);have bd:∀(k:Nat)(x:rG T.pl)(E:AL)(G:ar),Ext u (cT T (dR b) L u x)->HS (T.pl++Lp T.zs) u (cT T (dR b) L u x)->(cT T (dR b) L u x).length=u.length->Ref (dV T (dR b) L u x) (cT T (dR b) L u x) E G ->
      bB (λrec x=>tC g b (2 * q) (dV T (dR b) L u x) (cT T (dR b) L u x) λex al1 Y1=>match ex with
       |.normal=>match FN T (dR b) (dV T (dR b) L u x) (cT T (dR b) L u x) al1 Y1 with | some x'=>rec x' | none=>none
       |ex=>K ex al1 Y1) k x=some r->lm g.P b k g.n E G (qS L u K r):=by
     intro k;induction k with
     |zero=>grind [bB]
     |succ k be=>
      intro x E G x1 x2 x3 x4 h;have B:=a7 _ _ _ _ _ E G (show tC g b (2 * q) (dV T (dR b) L u x) (cT T (dR b) L u x) _=some r from h) x4;refine lm.succW (B.fh λex a1 a2 hP=>.inl ?_);obtain ⟨al1,Y1,U,⟨pre,rfl⟩,W,N⟩:=hP;obtain ⟨ak,eA,_⟩:=qy T (dR b) L u x;cases ex with
      |normal=>
       dsimp only at N;split at N
       ·rename_i xv hx;obtain ⟨pre,Y1,a1,a2,w1,U,W,hx⟩:=Aj x4 U W hx;obtain ⟨d1,d2,d3,d5,d4⟩:=rJ hx;have av:=qv d1;obtain ⟨f1,f2,f3,ax,an,f4,f5⟩:=rj (md:=dR b) S U (λt q h=>by rw[eA,<-zg];exact zB h)
         (λt q m1 m2 m3 h=>qx (λy hy e=>(av y hy).elim (λz=>m1 (e▸z)) λ⟨b,i,l,lv,cv,z1,z2⟩=>let ⟨i,l,lv,cv,z3⟩:=Au x1 x3 z2;m3 b (e▸z1) i l lv cv z3) (DW x1 x3 m1 m2 m3 h)) (x2.trans (zdx x4.hh d2 W)) d3 (by simp_all) d4
        exact ⟨ax,an,by rw[x4.hh.len,x3];rw[x3] at w1;exact w1.trans f4,be xv ax an f1 f2 f3 f5 N⟩
       simp_all
      |exit i=>exact ⟨_,Y1,U,⟨pre++ak,by simp_all⟩,Ext.trans S.hh x1 W,N⟩
      |ret=>exact ⟨_,Y1,U,⟨pre++ak,by simp_all⟩,Ext.trans S.hh x1 W,N⟩
    exact bd g.N x0 E G e1 e2 e3 e5 h
theorem zip_ok:∀(cs:List dt)(a:tD cs)(i t:Nat)(x:RV)(p:Nat),iI t (Bf i (tvV cs a))=some (x,p)->∃d v,x=.v v/\lk t (jR i (sF cs a))=some d/\RT v d/\GV [] v:=by
 intro cs;induction cs with
 |nil=>grind [tvV,Bf,iI]
 |cons c cs ih=>
  intro a i t x p h;simp only[tvV,Bf,iI] at h;simp only[sF,jR,lk];split at h
  ·rename_i hb;simp only[au,aU] at h
   try rw[hb]
   exact ⟨_,_,h.1.symm,rfl,c.EA a.1,Dt c a.1⟩
  simp_all
theorem YI:∀(cs:List dt)(a:tD cs),(sF cs a).length=cs.length:=by
 intro cs;induction cs with
 |nil=>intro a;rfl
 |cons c cs ih=>grind [sF]
theorem resT_ok{al:TA}{Y:TH}{alD:AL}{σD:ar}(e:Ref al Y alD σD){q:Nat×Option (Option Nat)}{v:TV}(h:FK al Y q=some v):∃d,oP alD σD q=some d/\RT v d/\GV Y v:=by
 obtain ⟨t,o⟩:=q;cases o with
 |none=>
  simp only[FK] at h;split at h
  ·rename_i x f;simp only[au] at h;subst h;obtain ⟨p,a⟩:=jJ f;obtain ⟨d,g,i,j⟩:=e.rg t _ p a;exact ⟨d,g,i,j⟩
  simp_all
 |some m=>
  simp only[FK] at h;split at h
  ·rename_i b off sz f;obtain ⟨p,a⟩:=jJ f;obtain ⟨d,g,i,_⟩:=e.rg t _ p a;have:=RT.c1 (by simp) i;subst this;split at h
   ·rename_i w l hb;obtain ⟨ds,j,r,A,_⟩:=e.hh.cells hb;split at h
    ·rename_i hs;obtain ⟨d,u,z⟩:=zl h r;refine ⟨d,?_,z,pP h λy k=>?_⟩
     ·simp only[oP,g,TC.er];rw[Qk j (sz:=sz) (by simp_all),aw];exact u
     ·rw[iX] at k;obtain ⟨p,a,rfl⟩:=k;exact (e.hh.hg b w l hb p a).1
    simp_all
   simp_all
  simp_all
theorem Jf{al:TA}{Y:TH}{alD:AL}{σD:ar}(f:Ref al Y alD σD):∀{e:List (Nat×Option (Option Nat))}{vs:List TV},Gf (FK al Y) e=some vs->∃ds,e.mapM (oP alD σD)=some ds/\f_ vs ds/\∀v∈vs,GV Y v:=by
 intro e;induction e with
 |nil=>intro vs h;simp only[Gf,au] at h;subst h;exact ⟨[],rfl,.nil,by simp⟩
 |cons q e ih=>
  intro vs h;simp only[Gf] at h;split at h
  ·rename_i a b g i;simp only[au] at h;subst h;obtain ⟨d,l,j,o⟩:=resT_ok f g;obtain ⟨ds,p,k,r⟩:=ih i;refine ⟨d::ds,?_,.cons j k,λv t=>?_⟩
   ·simp_all
   grind
  simp_all
theorem outs_ok{Y:TH}{σD:ar}(H:RH Y σD):∀{cs:List dt}{vs:List TV}{ds:List D}{r:kY cs},xP Y cs vs=some r->f_ vs ds->(∀v∈vs,GV Y v)->∃es,ds.mapM (nL σD 0 100)=some es/\es.map CQ=sV cs r/\(∀d,ds=[d]->xe σD 0 100 d=nL σD 0 100 d):=by
 intro cs;induction cs with
 |nil=>
  intro vs ds r h a g;cases a with
  |nil=>exact ⟨[],rfl,rfl,λd e=>by simp at e⟩
  |cons _ _=>grind [xP]
 |cons c cs ih=>
  intro vs ds r h a g;cases a with
  |nil=>grind [xP]
  |cons f a=>
   rename_i v d vs ds;cases cs with
   |nil=>
    cases a with
    |nil=>
     simp only[xP] at h;obtain ⟨b,i,j,k⟩:=QD H (g v (by simp)) f h;refine ⟨[b],by simp_all,by grind [sV],λl e=>?_⟩
     simp_all
    |cons _ _=>grind [xP]
   |cons u cs=>
    cases a with
    |nil=>grind [xP]
    |cons o a=>
     simp only[xP] at h;split at h
     ·rename_i x y p q;simp only[au] at h;subst h;obtain ⟨b,i,j,k⟩:=QD H (g v (by simp)) f p;obtain ⟨es,z,A,_⟩:=ih q (.cons o a) λv t=>g v (o_ _ t);refine ⟨b::es,by simp_all,by grind [sV],λl e=>by simp at e⟩
     simp_all
theorem tF_ok{P:Program}{S:sq}{B:dj}{l:D_}{H:List (Nat×Nat)}{J:List (Nat×JH)}{C:List (Nat×List CT)}{u:Nat}{g:FuncId}{fn:Func}{j:kP}{e out:List dt}{N:Nat}{a:tD e}{r:kY out}(dG:P.follows .mixedOrders=true)(hS:fF P S)
  (hg:P.funcs[g]? = some fn) (y:aW P g=true) (hc:il P fn true=some j) (hI:Rv ⟨P,S,H,J,C,j.ntmps,N,(Ph P S N B l u).1,(Ph P S N B l u).2,l⟩) (hn:Nat.ble e.length j.ntmps=true) (h:tF P S B l H J C u j e out N a=some r):Pure P g (sF e a) (sI out r):=by
 refine uR hg y hc (by rw[YI];simp_all) ?_;have R0:Ref (Bf 0 (tvV e a)) [] (jR 0 (sF e a)) []:=⟨⟨rfl,λb blk h=>by simp at h,λb w cs h=>by simp at h⟩,λt x p h=>by obtain ⟨d,v,rfl,G,z,K⟩:=zip_ok e a 0 t x p h;exact ⟨d,G,z,K⟩⟩
 refine (Ws ⟨P,S,H,J,C,j.ntmps,N,(Ph P S N B l u).1,(Ph P S N B l u).2,l⟩ dG hS hI j.body 1 _ _ _ r _ _ h R0).fh λx A f hP=>.inl ?_;obtain ⟨L,Y',G,_,_,z⟩:=hP;have fin:(match Gf (FK L Y') j.results with | some rs=>xP Y' out rs | none=>none)=some r->∃E o,j.results.mapM (oP A f)=some E/\xe f 0 100 (one E)=some o/\Ej o (sI out r):=by
  intro z;split at z
  ·rename_i rs O;obtain ⟨ds,K,h4,h5⟩:=Jf G O;obtain ⟨U,q,h7,h8⟩:=outs_ok G.hh z h4 h5;have W:U.length=ds.length:=(KJ q).1;have k:one ds=.aV ds->one (sV out r)=.aV (sV out r)->∃o,xe f 0 100 (one ds)=some o/\Ej o (sI out r):=λR Z=>by
    rw[R];refine ⟨.aV U,frz_tup q,Ej.Pg ?_⟩
    grind [Vc,sI]
   have T:(sV out r).length=ds.length:=by grind
   cases ds with
   |nil=>
    obtain ⟨o,R,Z⟩:=k rfl (by have:sV out r=[]:=ZI T;rw[this];rfl)
    simp_all
   |cons d ds=>
    cases ds with
    |nil=>
     have e3:=h8 d rfl;rw[US] at q;cases h9:nL f 0 100 d with
     |none=>simp_all
     |some d'=>
      rw[h9] at q;simp only[List.mapM_nil] at q;cases q;refine ⟨[d],d',K,by rw[<-h9];exact e3,?_⟩;have e4:sI out r=CQ d':=by unfold sI;rw[<-h7];rfl
      rw[e4];intro Y M Fz w v hv;exact Ep hv
    |cons d2 ds=>
     obtain ⟨o,R,Z⟩:=k rfl (by
      cases ho:sV out r with
      |nil=>simp_all
      |cons o1 os=>
       cases os with
       |nil=>simp_all
       |cons o2 os=>rfl)
     simp_all
  simp_all
 cases x with
 |exit i=>grind
 |normal=>grind
 |ret=>grind
theorem fF.nil{P:Program}:fF P []:=λp i=>by grind
def fF.cons{P:Program}{g:Nat}{s:bE}{S:sq}(h:bJ P g s)(j:fF P S)(hl:Nat.blt g 1048576=true:=by rfl):fF P ((g,s)::S):=by
 intro p i;rcases gy.1 i with rfl | i
 ·exact ⟨λ_=>h,λe=>by rw[hl] at e;cases e⟩
 ·exact j p i
def fF.it{P:Program}{g:Nat}{s:bE}{S:sq}(h:YQ P g s)(j:fF P S):fF P ((g+1048576,s)::S):=by
 intro p i;rcases gy.1 i with rfl | i
 ·exact ⟨λe=>by have:=tR.mp e;dsimp only at this;omega,λ_=>by simpa using h⟩
 ·exact j p i
section
variable{m:Nat}{Y1 aC:ar}{ρ:Nat->Nat}{F:Nat->Prop}
def pD{P:Program}{g:FuncId}{fn:Func}{j:kP}{fz:Bool}{ds:List D}{r:D}{Y:ar}(hg:P.funcs[g]? = some fn)(u:il P fn fz=some j)(y:ds.length<=j.ntmps)
  (h:Sem P j.body j.ntmps (jR 0 ds) Y λx al Y1=>(x=.normal\/x=.ret)/\∃a ρ F,j.results.mapM (oP al Y1)=some a/\SJ Y.length Y1 aC ρ F/\(∀b,F b->Y.length<=b)/\dv Y1 aC ρ F (one a) r):Ok P g ds Y r aC:=by
 unfold il at u;split at u
 ·rename_i c hb;split at u
  ·rename_i ac rs h1 h2;simp only[au] at u;subst u;dsimp only at h y;intro M Fz w i R hs G;refine nf hg hb ?_;have A0:ed fn.ntmps Y M Fz w (jR 0 ds) (i++Array.replicate (fn.ntmps-i.size) undef):=by
    refine ⟨by simp_all,λt d K=>?_⟩;obtain ⟨_,h3⟩:=Ek ds 0 t d K;rw[yC5] at h3;have L:t<i.size:=by grind
    exact ⟨i[t],by grind,G t d _ h3 (qB L)⟩
   refine Ng (h c h1 M Fz w { tmps:=i++Array.replicate (fn.ntmps-i.size) undef,defers:=[] } _ R A0 λx e Y' a' w' M' Fz' hQ hd R' E EV hl=>?_);obtain ⟨hx,a,ρ,F,hm,hN,hF,N⟩:=hQ;have O:rs.mapM (NZ (xU fn.ntmps e) Y')=some a:=by
    have aa:∀(l:List (Nat×Option (Option Nat))) a,l.mapM (oP e Y')=some a->l.mapM (NZ (xU fn.ntmps e) Y')=some a:=by
     intro l;induction l with
     |nil=>simp_all
     |cons p l ih=>
      intro a h;rw[US] at h ⊢;cases z:oP e Y' p with
      |none=>simp_all
      |some d=>
       rw[z] at h;have:NZ (xU fn.ntmps e) Y' p=some d:=by
        obtain ⟨t,o⟩:=p;cases o with
        |none=>exact E.de.2.2 t d z
        |some k=>
         simp only[oP] at z;split at z
         ·rename_i b off sz S;simp only[NZ,E.de.2.2 t _ S];exact z
         simp_all
       rw[this];cases hr:l.mapM (oP e Y') with
       |none=>simp_all
       |some q=>simp_all
    simp_all
   have T:y_ x=.normal\/y_ x=.ret:=by rcases hx with rfl | rfl <;> simp[y_]
   refine ⟨T,Mk.end hd R' EV λw'' f A mv=>?_⟩;have U:ed fn.ntmps Y' M' Fz' w'' e a'.tmps:=⟨E.1,λt d K=>by obtain ⟨v,q1,q2⟩:=E.2 t d K;exact ⟨v,q1,mv d v q2⟩⟩
   obtain ⟨v,W,Z⟩:=js (P:=P) f U.de.1 h2 O;exact ⟨v,W,v,_,_,rfl,hN.rel f,N M' Fz' w'' v f Z,hN.evo (cP _) hF R f A⟩
  simp_all
 simp_all
end
theorem Ec{c:It}{d:kw}{a:c.dn}(h:kK c d=some a):d=⟨c,a⟩:=by
 unfold kK at h;split at h
 ·rename_i e _;simp only[au] at h;obtain ⟨it,v⟩:=d
  grind
 simp_all
theorem FC(c:It)(a:c.dn):kK c ⟨c,a⟩=some a:=by
 unfold kK;split
 ·rfl
 grind
theorem Xu:∀{cs:List It}{ds:List kw}{x:dF cs},uG cs ds=some x->dS cs x=ds:=by
 intro cs;induction cs with
 |nil=>
  intro ds x h;cases ds with
  |nil=>rfl
  |cons d ds=>grind [uG]
 |cons c cs ih=>
  intro ds x h;cases cs with
  |nil=>
   cases ds with
   |nil=>grind [uG]
   |cons d ds=>
    cases ds with
    |nil=>grind [uG,dS,Ec]
    |cons _ _=>grind [uG]
  |cons a cs=>
   cases ds with
   |nil=>grind [uG]
   |cons d ds=>grind [uG,dS,Ec]
structure SR (σs aC:TH):Prop where
 len:aC.length=σs.length
 row:∀(b:Nat) i (l:List (TT i)) lv cv,σs[b]? = some (.row i l lv cv)->aC[b]? = some (.row i l lv cv)
def GS(σs:TH):TC->Prop
 |.own i b v n=>∃(l:List (TT i))(a:Nat),σs[b]? = some (.row i l v a)/\n=l.length
 |.d x=>x.low σs.length=true
 |.any=>False
 |.op ..=>False
 |.ap ..=>False
 |.os ..=>False
 |.Gt ..=>False
 |_=>True
theorem GS.gc{σs aC:TH}(h:SR σs aC){x:TC}(g:GS σs x):GC aC x:=by
 cases x with
 |own i b v n=>
  obtain ⟨l,o,u,A⟩:=g;refine ⟨_,h.row b i l v o u,λj E G z e=>?_⟩
  grind
 |d x=>show D.low _ _=true;rw[h.len];exact g
 |any=>exact g.elim
 |op=>exact g.elim
 |ap=>exact g.elim
 |os=>exact g.elim
 |Gt=>exact g.elim
 |_=>trivial
theorem Jp(σs:TH)(c:CC)(a:c.dn):GS σs (tc c a):=by cases c <;> first | exact True.intro | rfl
theorem OR{σs:TH}{p:CP}{ds r:List kw}{y:TC}(h:tQ σs p ds=some (y,r)):GS σs y:=by
 unfold tQ at h;split at h
 ·grind [Jp]
 ·split at h
  ·simp only[au,aU] at h;obtain ⟨rfl,_⟩:=h;trivial
  simp_all
 ·split at h
  ·simp only[au,aU] at h;obtain ⟨rfl,_⟩:=h;trivial
  simp_all
 ·split at h
  ·rename_i i l b a hb;simp only[au,aU] at h;obtain ⟨rfl,_⟩:=h;exact ⟨l,a,hb,rfl⟩
  simp_all
 ·split at h
  ·rename_i hb;simp only[au,aU] at h;obtain ⟨rfl,_⟩:=h;show D.low _ _=true;simp only[D.low,bz];simp_all
  simp_all
 ·split at h
  ·rename_i hb;simp only[au,aU] at h;obtain ⟨rfl,_⟩:=h;show D.low _ _=true;simp only[D.low,bz];simp_all
  simp_all
 ·split at h
  ·rename_i hb;simp only[au,aU] at h;obtain ⟨rfl,_⟩:=h;show D.low _ _=true;simp only[D.low,D.low.cW,yC9,Qm,bz];simp_all
  simp_all
 ·split at h
  ·rename_i hb;simp only[au,aU] at h;obtain ⟨rfl,_⟩:=h;exact D.eK (Qf _) hb
  simp_all
 simp_all
theorem SH{σs:TH}:∀{ps:List CP}{ds r:List kw}{a:List TC},Ag σs ps ds=some (a,r)->∀y∈a,GS σs y:=by
 intro ps;induction ps with
 |nil=>grind [Ag]
 |cons p ps ih=>grind [Ag,OR]
def RH.mk'{Y:TH}(i:∀(b:Nat) w cs,Y[b]? = some (.cells w cs)->∀p∈cs,GC Y p.2/\p.1<=w):RH Y (Y.map TB.er):=⟨by simp,λb blk hb=>⟨blk.er,by simp_all,rfl⟩,i⟩
structure yY (ps:List PC) (Y iJ:TH):Prop where
 ext:Ext Y iJ
 len:iJ.length=Y.length
 cells:∀(b:Nat) w cs,Y[b]? = some (.cells w cs)↔iJ[b]? = some (.cells w cs)
 out:∀b,b∉ps.map PC.blk->iJ[b]? = Y[b]?
 row:ps.any PC.rs=false->∀(b:Nat) i (l:List (TT i)) lv cv,Y[b]? = some (.row i l lv cv)->iJ[b]? = some (.row i l lv cv)
 rh:∃σD',RH iJ σD'
theorem gJ:∀{ps:List PC}{Y o:TH}{σD:ar}{ds r:List kw},cd Y ps ds=some (o,r)->RH Y σD->yY ps Y o:=by
 intro ps;induction ps with
 |nil=>intro Y o σD ds r h H;simp only[cd,au,aU] at h;obtain ⟨rfl,_⟩:=h;exact ⟨Ext.refl Y,rfl,λb w f=>Iff.rfl,λb _=>rfl,λ_ b i l q t h=>h,⟨σD,H⟩⟩
 |cons p ps ih=>
  intro Y o σD ds r h H;have one:∀(b:Nat)(blk a:TB)(x:List kw),Y[b]? = some blk->BE blk a->(∀w f,blk≠.cells w f)->(∀w f,a≠.cells w f)->p.blk=b->(p.rs=false->∀i (l:List (TT i)) q t,blk≠.row i l q t)->cd (Y.set b a) ps x=some (o,r)->yY (p::ps) Y o:=by
   intro b blk a x hb A R y E S h;have H1:RH (Y.set b a) (σD.set b a.er):=H.set hb A rfl (λw f e=>absurd e (y w f));have e:=ih h H1;refine ⟨Ext.trans H (Ext.set hb A) e.ext,by rw[e.len];simp,λu w f=>?_,λu g=>?_,λk u i l q t T=>?_,e.rh⟩
   ·rw[<-e.cells]
    grind
   ·simp only[rS,gy,not_or,E] at g;rw[e.out u g.2,Vz g.1]
   ·simp only[List.any_cons,Bool.or_eq_false_iff] at k;refine e.row k.2 u i l q t ?_
    grind
  cases p with
  |h b j p=>simp only[cd] at h;have e:=ih h H;exact ⟨e.ext,e.len,e.cells,λu g=>e.out u (λG=>g (o_ _ G)),λk=>e.row (by simp_all),e.rh⟩
  |w b i=>
   cases ds with
   |nil=>grind [cd]
   |cons d ds=>
    simp only[cd] at h;split at h
    ·rename_i l j K q t L z;split at h
     ·rename_i N;have:=dd N;subst this;exact one b _ _ ds z ⟨l,_,_,rfl,by omega,by omega,λe=>by omega,λe=>by omega⟩ (λw f e=>by simp at e) (λw f e=>by simp at e) rfl (λe=>by grind [PC.rs]) h
     simp_all
    simp_all
  |m b j st=>
   cases ds with
   |nil=>grind [cd]
   |cons d ds=>
    simp only[cd] at h;split at h
    ·rename_i l U O K v L z;exact one b _ _ ds z ⟨_,_,_,_,rfl,by omega,λe=>by omega⟩ (λw f e=>by simp at e) (λw f e=>by simp at e) rfl (λ_ i l q t e=>by simp at e) h
    simp_all
theorem DF:∀{a:List NB}{ds r:List kw}{l:TH},dx a ds=some (l,r)->l.length=a.length:=by
 intro a;induction a with
 |nil=>grind [dx]
 |cons nb a ih=>
  intro ds r l h;cases nb with
  |cells b=>grind [dx]
  |row i=>
   cases ds with
   |nil=>grind [dx]
   |cons d ds=>grind [dx]
  |mp j st=>
   cases ds with
   |nil=>grind [dx]
   |cons d ds=>grind [dx]
theorem AE{σs:TH}:∀{a:List NB}{e l:TH}{ds:List kw},dP σs a e ds=some l->l.length=a.length/\(∀(k:Nat) i (r:List (TT i)) f g,e[k]? = some (.row i r f g)->k<a.length->(∀ps,a[k]?≠some (.cells ps))->l[k]? = some (.row i r f g)) /\
  (∀(k:Nat) w cs,l[k]? = some (.cells w cs)->(∃w' d,e[k]? = some (.cells w' d)/\cs=d/\w=w')\/∀p∈cs,GS σs p.2/\p.1<=w):=by
 intro a;induction a with
 |nil=>intro e l ds h;simp only[dP,au] at h;simp_all
 |cons nb a ih=>
  intro e l ds h;cases e with
  |nil=>grind [dP]
  |cons b e=>
   have q:∀o,dP σs a e ds=some o->l=b::o->l.length=(nb::a).length/\(∀(k:Nat) i (r:List (TT i)) f g,(b::e)[k]? = some (.row i r f g)->k<(nb::a).length->(∀ps,(nb::a)[k]?≠some (.cells ps))->l[k]? = some (.row i r f g)) /\
     (∀(k:Nat) w cs,l[k]? = some (.cells w cs)->(∃w' d,(b::e)[k]? = some (.cells w' d)/\cs=d/\w=w')\/∀p∈cs,GS σs p.2/\p.1<=w):=by
    grind
   cases nb with
   |row i=>
    simp only[dP] at h
    grind
   |mp j st=>
    simp only[dP] at h
    grind
   |cells ps=>
    simp only[dP] at h;split at h
    ·rename_i A r u;split at h
     ·rename_i o v;simp only[au] at h;subst h;obtain ⟨y,E,G⟩:=ih v;refine ⟨by simp[y],λk i r f g hk hl K=>?_,λk w cs hk=>?_⟩
      ·grind
      ·cases k with
       |zero=>simp only[xF,au,TB.cells.injEq] at hk;obtain ⟨rfl,rfl⟩:=hk;refine .inr λp t=>?_;rw[iX] at t;obtain ⟨x,z,rfl⟩:=t;exact ⟨SH u x z,cP _⟩
       |succ k=>grind
     simp_all
    simp_all
theorem yZ:∀{a:List NB}{ds r:List kw}{l:TH},dx a ds=some (l,r)->∀(k:Nat),(∀w cs,l[k]? = some (.cells w cs)->cs=[])/\(∀ps,a[k]? = some (.cells ps)->l[k]? = some (.cells 0 [])):=by
 intro a;induction a with
 |nil=>grind [dx]
 |cons nb a ih=>
  intro ds r l h k;cases nb with
  |cells ps=>
   simp only[dx] at h
   grind
  |row i=>
   cases ds with
   |nil=>grind [dx]
   |cons d ds=>grind [dx]
  |mp j st=>
   cases ds with
   |nil=>grind [dx]
   |cons d ds=>grind [dx]
structure Sx (σs:TH) (ps:List PC) (Y Y':TH):Prop where
 len:Y'.length=Y.length
 same:∀(b:Nat) blk,Y[b]? = some blk->(∀w cs,blk≠.cells w cs)->Y'[b]? = some blk
 fwd:∀(b:Nat) w cs,Y[b]? = some (.cells w cs)->∃w' cs',Y'[b]? = some (.cells w' cs')/\w<=w'/\cs'.length=cs.length/\∀(j:Nat) v1 x1,cs'[j]? = some (v1,x1)->cs[j]? = some (v1,x1)\/(w<v1/\v1<=w'/\GS σs x1)
 out:∀b,b∉ps.map PC.blk->Y'[b]? = Y[b]?
theorem lN{σs:TH}:∀{ps:List PC}{Y Y':TH}{ds r:List kw},dU σs ps Y ds=some (Y',r)->Sx σs ps Y Y':=by
 intro ps;induction ps with
 |nil=>intro Y Y' ds r h;simp only[dU,au,aU] at h;obtain ⟨rfl,_⟩:=h;exact ⟨rfl,λb blk h _=>h,λb w k h=>⟨w,k,h,cP _,rfl,λj y z e=>.inl e⟩,λb _=>rfl⟩
 |cons p ps ih=>
  intro Y Y' ds r h;have skip:dU σs ps Y ds=some (Y',r)->Sx σs (p::ps) Y Y':=λh=>by have e:=ih h;exact ⟨e.len,e.same,e.fwd,λb hb=>e.out b λo=>hb (o_ _ o)⟩
  cases p with
  |w b i=>grind [dU]
  |m b j st=>grind [dU]
  |h b j p=>
   simp only[dU] at h;split at h
   ·rename_i x A w k q l;have g:=OR q;have e:=ih h;refine ⟨by rw[e.len];simp,λa blk hb t=>?_,λa u d hb=>?_,λa hb=>?_⟩
    ·refine e.same a blk ?_ t
     grind
    ·by_cases f:a=b
     ·subst f;rw[l] at hb;simp only[au,TB.cells.injEq] at hb;obtain ⟨rfl,rfl⟩:=hb;obtain ⟨w2,v,E,G,K,L⟩:=e.fwd a _ _ (HK l)
      grind
     ·exact e.fwd a u d (by grind)
    ·simp only[rS,gy,not_or,PC.blk] at hb;rw[e.out a hb.2,Vz hb.1]
   simp_all
def eD:TV->D
 |.c x=>x.er
 |.agg a=>.agg (a.map TC.er)
 |.aV _=>.aV []
def nT:TV->Prop
 |.aV _=>False
 |_=>True
def GVs(σs:TH):TV->Prop
 |.c x=>GS σs x
 |.agg a=>∀x∈a,GS σs x
 |.aV _=>False
def GS.fp(σs:TH)(i:Nat)(a:TT i):GS σs (.fp i a 0):=True.intro
def exp_gs(σs:TH)(i:Nat)(a:TT i):∀y∈exp i a,GS σs y:=by
 have d:∀(b:List CC)(x:aV b),∀y∈uj b x,GS σs y:=by
  intro b;induction b with
  |nil=>grind [uj]
  |cons c b ih=>grind [uj,Jp]
 exact d _ _
theorem pRO_gs{σs:TH}{p:RO}{ds r:List kw}{v:TV}(h:zh σs p ds=some (v,r)):GVs σs v:=by
 unfold zh at h;split at h
 ·split at h
  ·simp only[au,aU] at h;obtain ⟨rfl,_⟩:=h;exact Jp σs _ _
  simp_all
 ·split at h
  ·simp only[au,aU] at h;obtain ⟨rfl,_⟩:=h;exact exp_gs σs _ _
  simp_all
 ·split at h
  ·simp only[au,aU] at h;obtain ⟨rfl,_⟩:=h;exact True.intro
  simp_all
 ·split at h
  ·rename_i x b a;simp only[au,aU] at h;obtain ⟨rfl,_⟩:=h;exact OR a
  simp_all
 ·split at h
  ·rename_i d b a;simp only[au,aU] at h;obtain ⟨rfl,_⟩:=h;exact SH a
  simp_all
 simp_all
theorem Ju{σs:TH}:∀{ps:List RO}{ds r:List kw}{vs:List TV},kz σs ps ds=some (vs,r)->∀v∈vs,GVs σs v:=by
 intro ps;induction ps with
 |nil=>grind [kz]
 |cons p ps ih=>grind [kz,pRO_gs]
theorem GVs.gv{σs aC:TH}(h:SR σs aC){v:TV}(g:GVs σs v):GV aC v:=by
 cases v with
 |c x=>exact GS.gc h g
 |agg i=>exact λx j=>GS.gc h (g x j)
 |aV i=>exact g.elim
theorem GVs.nt{σs:TH}{v:TV}(g:GVs σs v):nT v:=by
 cases v with
 |aV i=>exact g.elim
 |_=>trivial
theorem RT.eD{v:TV}(h:nT v):RT v (eD v):=by
 cases v with
 |c x=>exact .inr rfl
 |agg i=>exact ⟨_,rfl,aM.er i⟩
 |aV i=>exact h.elim
theorem RW{vs:List TV}(h:∀v∈vs,nT v):RT (wC vs) (one (vs.map Go.Abs.eD)):=by
 have aV:∀(vs:List TV),(∀v∈vs,nT v)->aM RE (vs.map teT) (vs.map Go.Abs.eD):=by
  intro vs;induction vs with
  |nil=>intro _;exact .nil
  |cons v vs ih=>
   intro h;refine .cons ?_ (ih λv b=>h v (o_ _ b));have:=h v (qY ..);cases v with
   |c x=>exact ⟨x,rfl,.inr rfl⟩
   |agg a=>exact ⟨_,rfl,aM.er a⟩
   |aV a=>exact this.elim
 cases vs with
 |nil=>exact ⟨[],rfl,.nil⟩
 |cons v vs=>
  cases vs with
  |nil=>exact RT.eD (h v (qY ..))
  |cons d vs=>exact ⟨_,rfl,aV _ h⟩
theorem Si{Y:TH}{vs:List TV}(h:∀v∈vs,GV Y v):GV Y (wC vs):=by
 have aV:∀(vs:List TV),(∀v∈vs,GV Y v)->GV Y (.aV (vs.map teT)):=by
  intro vs h p b x a;rw[iX] at b;obtain ⟨v,d,rfl⟩:=b;have:=h v d;cases v with
  |c y=>simp only[teT,gy,LL,Nj] at a;subst a;exact this
  |agg e=>exact this x a
  |aV e=>grind [teT]
 cases vs with
 |nil=>exact aV _ h
 |cons v vs=>
  cases vs with
  |nil=>exact h v (qY ..)
  |cons f vs=>exact aV _ h
theorem NN:∀{ps:List PC}{Y f:TH}{ds r:List kw},cd Y ps ds=some (f,r)->∀p∈ps,(∃b i,p=.w b i)\/(∃b j st,p=.m b j st)->p.blk<Y.length:=by
 intro ps;induction ps with
 |nil=>simp_all
 |cons p ps ih=>
  intro Y f ds r h q a t;cases p with
  |h b j c=>grind [cd]
  |w b i=>
   cases ds with
   |nil=>grind [cd]
   |cons d ds=>
    simp only[cd] at h;split at h
    ·rename_i l j g u x k e;split at h
     ·rcases gy.1 a with rfl | a
      ·exact (fq.1 e).1
      grind
     simp_all
    simp_all
  |m b j st=>
   cases ds with
   |nil=>grind [cd]
   |cons d ds=>
    simp only[cd] at h;split at h
    ·rename_i l y o g v k e;rcases gy.1 a with rfl | a
     ·exact (fq.1 e).1
     grind
    simp_all
theorem pPCs_in{σs:TH}:∀{ps:List PC}{Y Y':TH}{ds r:List kw},dU σs ps Y ds=some (Y',r)->∀b j p,PC.h b j p∈ps->b<Y.length:=by
 intro ps;induction ps with
 |nil=>simp_all
 |cons q ps ih=>
  intro Y Y' ds r h b j p e;cases q with
  |w a i=>grind [dU]
  |m a d st=>grind [dU]
  |h a d f=>grind [dU]
structure Laid (ct:CT) (Y:TH) (ds:List kw) (rv:List TV) (F:TH) where
 iJ:TH
 d1:List kw
 nb:TH
 d2:List kw
 d3:List kw
 aC:TH
 d4:List kw
 l:TH
 h1:cd Y ct.pl ds=some (iJ,d1)
 h2:dx ct.nb d1=some (nb,d2)
 h3:kz (iJ++nb) ct.out d2=some (rv,d3)
 h4:dU (iJ++nb) ct.pl iJ d3=some (aC,d4)
 h5:dP (iJ++nb) ct.nb nb d4=some l
 e:F=aC++l
theorem lW{ct:CT}{Y F:TH}{x:dF ct.items}{rv:List TV}(h:ma ct Y x=some (rv,F)):Nonempty (Laid ct Y (dS ct.items x) rv F):=by
 unfold ma at h;split at h
 ·simp at h
 ·rename_i a b d;split at h
  ·simp at h
  ·rename_i nb e f;split at h
   ·simp at h
   ·rename_i p g i;split at h
    ·simp at h
    ·rename_i aC j k;split at h
     ·rename_i l o;simp only[au,aU] at h;obtain ⟨rfl,rfl⟩:=h;exact ⟨⟨a,b,nb,e,g,aC,j,l,d,f,i,k,o,rfl⟩⟩
     simp_all
section
variable{ct:CT}{Y F:TH}{σD:ar}{ds:List kw}{rv:List TV}
theorem Laid.fl(L:Laid ct Y ds rv F):F.length=L.aC.length+L.l.length:=by have:=Ig List.length L.e;simp_all
theorem Laid.fa(L:Laid ct Y ds rv F)(b:Nat):F[b]? = (L.aC++L.l)[b]?:=Ig (λl=>l[b]?) L.e
def Laid.sr(L:Laid ct Y ds rv F):SR (L.iJ++L.nb) F:=by
 have C:=lN L.h4;obtain ⟨u,x,G⟩:=AE L.h5;refine ⟨by rw[L.fl,zJ,C.len,u,DF L.h2],λb i l z A hb=>?_⟩;rw[L.fa];rcases rU b L.iJ.length with j | o
 ·rw[FF j] at hb;rw[FF (by grind [Sx.len])];exact C.same b _ hb (λw K e=>by simp at e)
 ·rw[Np o] at hb;rw[Np (by grind [Sx.len]),C.len];refine x _ i l z A hb (by rw[<-DF L.h2];grind) λE e=>?_;rw[(yZ L.h2 _).2 E e] at hb
  grind
def Laid.lt(L:Laid ct Y ds rv F)(H:RH Y σD){b:Nat}(h:b<Y.length):F[b]? = L.aC[b]?:=by have C:=lN L.h4;have i:=gJ L.h1 H;rw[L.fa,FF (by rw[C.len,i.len];exact h)]
theorem Laid.ext(L:Laid ct Y ds rv F)(H:RH Y σD):Ext Y F:=by
 have C:=lN L.h4;have E:=gJ L.h1 H;obtain ⟨G,W⟩:=E.rh;refine Ext.trans H E.ext λb blk hb=>?_;have u:b<Y.length:=by grind [yY.len]
 rw[L.lt H u];have other:(∀w z,blk≠.cells w z)->∃o,L.aC[b]? = some o/\BE blk o:=λK=>⟨blk,C.same b blk hb K,BE.refl blk⟩;cases blk with
 |cells w z=>
  obtain ⟨w',A,O,R,U,Z⟩:=C.fwd b w z hb;refine ⟨_,O,w',A,rfl,R,yCa U.symm,λj v x v1 x1 h h1=>?_⟩
  grind
 |row i l lv cv=>simp_all
 |mp j st l v=>simp_all
def Laid.rh(L:Laid ct Y ds rv F)(H:RH Y σD):RH F (F.map TB.er):=by
 have C:=lN L.h4;have W:=gJ L.h1 H;have S:=L.sr;obtain ⟨Z,Hr⟩:=W.rh;obtain ⟨n1,n2,n3⟩:=AE L.h5;have er:Ext L.iJ F:=λb blk hb=>by
  have A:b<Y.length:=by grind [yY.len]
  rw[L.lt H A];have other:(∀w u,blk≠.cells w u)->∃z,L.aC[b]? = some z/\BE blk z:=λhn=>⟨blk,C.same b blk hb hn,BE.refl blk⟩;cases blk with
  |cells w u=>
   obtain ⟨w',E,K,R,e3,e4⟩:=C.fwd b w u hb;refine ⟨_,K,w',E,rfl,R,yCa e3.symm,λj v x v1 x1 h U=>?_⟩
   grind
  |row i l lv cv=>simp_all
  |mp j st l v=>simp_all
 refine RH.mk' λb w u hb p hp=>?_;rcases rU b Y.length with A | ab
 ·rw[L.lt H A] at hb;have G:=dW (show b<L.iJ.length by grind [yY.len]);cases o:L.iJ[b]'(by grind) with
  |row i l lv cv=>rw[o] at G;rw[C.same b _ G (λw u e=>by simp at e)] at hb;grind
  |mp j st l v=>rw[o] at G;rw[C.same b _ G (λw u e=>by simp at e)] at hb;grind
  |cells w0 O=>
   rw[o] at G;obtain ⟨w',E,K,R,e3,e4⟩:=C.fwd b w0 O G;rw[hb] at K;simp only[au,TB.cells.injEq] at K;obtain ⟨rfl,rfl⟩:=K;obtain ⟨j,hj⟩:=yBH hp;obtain ⟨v1,x1⟩:=p;rcases e4 j v1 x1 hj with h5 | ⟨h5,h6,h7⟩
   ·obtain ⟨h8,h9⟩:=Hr.hg b w0 O G _ (Av h5);exact ⟨h8.mono er,jk h9 R⟩
   grind [GS.gc]
 ·have aa:L.aC.length=Y.length:=by rw[C.len,W.len]
  rw[L.fa,Np (by omega)] at hb;rcases n3 _ w u hb with ⟨w',E,U,rfl,rfl⟩ | U
  ·rw[(yZ L.h2 _).1 w u U] at hp;grind
  grind [GS.gc]
theorem Laid.out(L:Laid ct Y ds rv F)(H:RH Y σD){b:Nat}(hb:b<Y.length)(i:b∉ct.pl.map PC.blk):F[b]? = Y[b]?:=by rw[L.lt H hb,(lN L.h4).out b i,(gJ L.h1 H).out b i]
theorem Laid.szs(L:Laid ct Y ds rv F)(H:RH Y σD)(G:ct.pl.any PC.rs=false){b:Nat}(hb:b<Y.length):∃x y,Y[b]? = some x/\F[b]? = some y/\x.er.sz=y.er.sz:=by
 have C:=lN L.h4;have A:=gJ L.h1 H;have u:=dW hb;cases o:Y[b] with
 |cells w z=>rw[o] at u;obtain ⟨w',K,O,e2,e3,e4⟩:=C.fwd b w z ((A.cells b w z).1 u);exact ⟨_,_,u,by rw[L.lt H hb];exact O,by grind [TB.er,Ob.sz]⟩
 |row i l R U=>rw[o] at u;exact ⟨_,_,u,by rw[L.lt H hb];exact C.same b _ (A.row G b i l R U u) (λw z e=>by simp at e),rfl⟩
 |mp j st l v=>rw[o] at u;obtain ⟨E,W,j1,Z,l1,v1,rfl,_⟩:=L.ext H b _ u;exact ⟨_,_,u,W,rfl⟩
def Laid.all(L:Laid ct Y ds rv F)(H:RH Y σD):RH F (F.map TB.er)/\RT (wC rv) (one (rv.map eD))/\GV F (wC rv)/\Ext Y F/\(∀b,b<σD.length->b∉ct.pl.map PC.blk->(F.map TB.er)[b]? = σD[b]?)/\(ct.pl.any PC.rs=false->kC σD (F.map TB.er) (ct.pl.map PC.blk)=true):=by
 have g:=Ju L.h3;refine ⟨L.rh H,RW λv o=>(g v o).nt,Si λv o=>(g v o).gv L.sr,L.ext H,λb hb A=>?_,λE=>?_⟩
 ·rw[H.eqD,lS,lS,L.out H (by grind [RH.len]) A]
 ·rw[H.eqD,kC,iK];intro b hb;rw[iX] at hb;obtain ⟨p,u,rfl⟩:=hb;have z:p.blk<Y.length:=by
   cases p with
   |w b i=>exact NN L.h1 _ u (.inl ⟨b,i,rfl⟩)
   |m b j st=>exact NN L.h1 _ u (.inr ⟨b,j,st,rfl⟩)
   |h b j c=>have:=pPCs_in L.h4 b j c u;rwa [(gJ L.h1 H).len] at this
  obtain ⟨x,y,G,K,O⟩:=L.szs H E z
  simp_all
end
structure Mo (s s':MS):Prop where
 KQ:∀b o,oW b s.ρ=some o->oW b s'.ρ=some o
 fz:∀b,b∈s.fz->b∈s'.fz
theorem Mo.refl(s:MS):Mo s s:=⟨λ_ _ h=>h,λ_ h=>h⟩
def Mo.trans{a b c:MS}(h:Mo a b)(i:Mo b c):Mo a c:=⟨λx o e=>i.KQ x o (h.KQ x o e),λx e=>i.fz x (h.fz x e)⟩
structure MI (m:Nat) (Y1:TH) (s:MS):Prop where
 ge:∀p∈s.ρ,m<=p.1/\m<=p.2
 fz:∀b∈s.fz,∃(i:Nat)(l:List (TT i))(lv cv:Nat),Y1[b]? = some (.row i l lv cv)
def Bd(m:Nat)(s:MS)(b a:Nat):Prop:=(b<m/\a=b)\/(m<=b/\oW b s.ρ=some a)
theorem Bd.mono{m:Nat}{s s':MS}{b i:Nat}(h:Mo s s'):Bd m s b i->Bd m s' b i
 |.inl a=>.inl a
 |.inr a=>.inr ⟨a.1,h.KQ _ _ a.2⟩
def CM(m:Nat)(Y1 σs:TH)(s:MS)(x y:TC):Prop:=
 (Ej x.er y.er/\y.er.low 0=true/\(x=.d (.c (.lit (.slice none 0 0)))\/x.er=y.er)) \/
 (∃(i b v:Nat)(l:List (TT i))(d:Nat),x=.own i b v l.length/\b∈s.fz/\Y1[b]? = some (.row i l v d)/\y.er=.c (.cJ false (l.map (enc i)))) \/
 (∃(i b a v:Nat)(g:List (TT i))(e j h:Nat)(l:List (TT j))(d:Nat),x=.own i a v g.length/\Bd m s b a/\Y1[a]? = some (.row i g v e)/\y=.own j b h l.length/\σs[b]? = some (.row j l h d)) \/
 (∃b a off sz,x=.d (.ptr a off sz)/\Bd m s b a/\y=.d (.ptr b off sz)/\b<σs.length) \/
 (∃b a,x=.d (.mp a)/\Bd m s b a/\y=.d (.mp b)/\b<σs.length) \/
 (∃f b a sz,x=.d (.fn (.func f) [] [.ptr a 0 sz])/\Bd m s b a/\y=.d (.fn (.func f) [] [.ptr b 0 sz])/\b<σs.length)
variable{m:Nat}{Y Y1 σs:TH}{s s':MS}
theorem CM.mono(h:Mo s s'){x y:TC}(c:CM m Y1 σs s x y):CM m Y1 σs s' x y:=by
 rcases c with c | ⟨i,b,v,l,G,o,u,z,A⟩ | ⟨i,b,E,v,O,K,j,R,l,G,o,u,z,A,U⟩ | ⟨b,E,off,sz,o,u,z,A⟩ | ⟨b,E,o,u,z,A⟩ | ⟨f,b,E,sz,o,u,z,A⟩
 ·exact .inl c
 ·exact .inr (.inl ⟨i,b,v,l,G,o,h.fz _ u,z,A⟩)
 ·exact .inr (.inr (.inl ⟨i,b,E,v,O,K,j,R,l,G,o,u.mono h,z,A,U⟩))
 ·exact .inr (.inr (.inr (.inl ⟨b,E,off,sz,o,u.mono h,z,A⟩)))
 ·exact .inr (.inr (.inr (.inr (.inl ⟨b,E,o,u.mono h,z,A⟩))))
 ·exact .inr (.inr (.inr (.inr (.inr ⟨f,b,E,sz,o,u.mono h,z,A⟩))))
theorem aM.mono{α i:Type}{R j:α->i->Prop}(h:∀a b,R a b->j a b){l:List α}{o:List i}(a:aM R l o):aM j l o:=by
 induction a with
 |nil=>exact .nil
 |cons x _ ih=>exact .cons (h _ _ x) ih
theorem CM.data{c:CC}{x:TC}{a:c.dn}(h:E_ c x=some a):CM m Y1 σs s x (tc c a):=by have i:=oK h;refine .inl ⟨?_,by rw[lu];rfl,by grind [lu,QA]⟩;rw[lu,<-i.2];intro Y M Fz w v j;exact Iz j
theorem PN{c:CC}{x:TC}{a:c.dn}(h:E_ c (CB Y1 x)=some a)(g:GC Y1 x):(∀b∈iS [x],∃(i:Nat)(l:List (TT i))(d e:Nat),Y1[b]? = some (.row i l d e))/\∀m σs s,(∀b∈iS [x],b∈s.fz)->CM m Y1 σs s x (tc c a):=by
 cases x with
 |own i b v n=>
  simp only[CB] at h;split at h
  ·rename_i j l d e hb;split at h
   ·rename_i o;have:=dd o;subst this;obtain ⟨blk,f,p⟩:=g;rw[hb] at f;simp only[au] at f;obtain ⟨_,q⟩:=p _ _ _ _ f.symm;obtain ⟨rfl,rfl⟩:=q rfl;refine ⟨λt k=>?_,λm σs s hs=>.inr (.inl ⟨j,b,d,l,e,rfl,hs b (by simp[iS]),hb,?_⟩)⟩
    ·simp only[iS,gy,LL,Nj] at k
     grind
    ·have r:=oK h;rw[lu,<-r.2];rfl
   grind [E_]
  grind [E_]
 |_=>exact ⟨by simp[iS],λm σs s _=>CM.data h⟩
def Wm{d a:D}(h:eqK d a=true):d=a:=by
 unfold eqK at h;split at h
 ·rfl
 ·rfl
 ·rfl
 ·rfl
 ·simp_all
 ·simp_all
 simp_all
def zS{b g:Nat}(h:Ic m b g s=some s'):Mo s s'/\s'.rw=s.rw/\s'.cl=s.cl/\Bd m s' b g/\(MI m Y1 s->MI m Y1 s'):=by
 unfold Ic at h;split at h
 ·rename_i a;split at h
  ·rename_i e;simp only[au] at h;subst h;exact ⟨Mo.refl s,rfl,rfl,.inl ⟨tR.mp a,(dd e).symm⟩,id⟩
  simp_all
 ·rename_i a;have d:m<=b:=by
   grind [Nat.blt_eq]
  split at h
  ·rename_i o i;split at h
   ·rename_i e;simp only[au] at h;subst h;have:=dd e;subst this;exact ⟨Mo.refl s,rfl,rfl,.inr ⟨d,i⟩,id⟩
   simp_all
  ·rename_i i;split at h
   ·rename_i j;simp only[au] at h;subst h;refine ⟨⟨λq o k=>?_,λ_ h=>h⟩,rfl,rfl,.inr ⟨d,?_⟩,λI=>⟨λp f=>?_,I.fz⟩⟩
    ·grind [oW,Nat.eq_of_beq_eq_true]
    ·grind [oW,Nat.beq_refl]
    ·rcases gy.1 f with rfl | f
     ·simp_all
     ·exact I.ge p f
   simp_all
def PV{p:CP}{x:TC}(h:mCP m Y1 p x s=some s')(g:GC Y1 x):∃Z,s'.cl=s.cl++Z/\s'.rw=s.rw/\Mo s s'/\(MI m Y1 s->MI m Y1 s')/\∀σs e y r,tQ σs p (Z++e)=some (y,r)->r=e/\CM m Y1 σs s' x y:=by
 unfold mCP at h;split at h
 ·rename_i c i b v n;split at h
  ·rename_i a L;simp only[au] at h;subst h;obtain ⟨K,N⟩:=PN L g;refine ⟨_,rfl,rfl,⟨λ_ _ h=>h,λ_ h=>o_ _ h⟩,λI=>⟨I.ge,λq t=>?_⟩,λσs e y r k=>?_⟩
   ·rcases gy.1 t with rfl | t
    ·exact K _ (by simp[iS])
    ·exact I.fz q t
   ·simp only[yB4,tQ,FC,au,aU] at k;obtain ⟨rfl,rfl⟩:=k;exact ⟨rfl,N m σs _ (by simp[iS])⟩
  simp_all
 ·rename_i c x hx;split at h
  ·rename_i a L;simp only[au] at h;subst h;refine ⟨_,rfl,rfl,⟨λ_ _ h=>h,λ_ h=>h⟩,λI=>⟨I.ge,I.fz⟩,λσs e y r k=>?_⟩;simp only[yB4,tQ,FC,au,aU] at k
   grind [CM.data]
  simp_all
 ·rename_i u v;simp only[au] at h;subst h;refine ⟨_,rfl,rfl,⟨λ_ _ h=>h,λ_ h=>h⟩,λI=>⟨I.ge,I.fz⟩,λσs e y r k=>?_⟩;simp only[yB4,tQ,FC,au,aU] at k;obtain ⟨rfl,rfl⟩:=k;exact ⟨rfl,.inl ⟨λ_ _ _ _ _ h=>h,rfl,.inr rfl⟩⟩
 ·rename_i i x;split at h
  ·rename_i a L;simp only[au] at h;subst h;have:=GY L;subst this;refine ⟨_,rfl,rfl,⟨λ_ _ h=>h,λ_ h=>h⟩,λI=>⟨I.ge,I.fz⟩,λσs e y r k=>?_⟩;simp only[yB4,tQ,FC,au,aU] at k;obtain ⟨rfl,rfl⟩:=k;exact ⟨rfl,.inl ⟨λ_ _ _ _ _ h=>h,rfl,.inr rfl⟩⟩
  simp_all
 ·rename_i b i q v n;split at h
  ·rename_i j l lv cv hb;split at h
   ·rename_i o;have:=dd o;subst this;obtain ⟨blk,K,N⟩:=g;rw[hb] at K;simp only[au] at K;obtain ⟨_,h3⟩:=N _ _ _ _ K.symm;obtain ⟨rfl,rfl⟩:=h3 rfl;obtain ⟨z,A,O,E,G⟩:=zS (Y1:=Y1) h;refine ⟨[],by simp_all,A,z,G,λσs e y r k=>?_⟩;simp only[zO,tQ] at k;split at k
    ·rename_i i' l' R S hs;simp only[au,aU] at k;obtain ⟨rfl,rfl⟩:=k;exact ⟨rfl,.inr (.inr (.inl ⟨_,b,q,_,l,cv,i',R,l',S,rfl,E,hb,rfl,hs⟩))⟩
    simp_all
   simp_all
  simp_all
 ·rename_i b off sz q aa T;split at h
  ·rename_i o;simp only[bG] at o;have U:=dd o.1;have W:=dd o.2;subst U W;obtain ⟨z,A,O,E,G⟩:=zS (Y1:=Y1) h;refine ⟨[],by simp_all,A,z,G,λσs e y r k=>?_⟩;simp only[zO,tQ] at k;split at k
   ·rename_i hb;simp only[au,aU] at k;obtain ⟨rfl,rfl⟩:=k;exact ⟨rfl,.inr (.inr (.inr (.inl ⟨b,q,off,sz,rfl,E,rfl,tR.mp hb⟩)))⟩
   simp_all
  simp_all
 ·rename_i b q;obtain ⟨z,A,O,E,G⟩:=zS (Y1:=Y1) h;refine ⟨[],by simp_all,A,z,G,λσs e y r k=>?_⟩;simp only[zO,tQ] at k;split at k
  ·rename_i hb;simp only[au,aU] at k;obtain ⟨rfl,rfl⟩:=k;exact ⟨rfl,.inr (.inr (.inr (.inr (.inl ⟨b,q,rfl,E,rfl,tR.mp hb⟩))))⟩
  simp_all
 ·rename_i f b sz f' q T;split at h
  ·rename_i o;simp only[bG] at o;have U:=dd o.1;have W:=dd o.2;subst U W;obtain ⟨z,A,O,E,G⟩:=zS (Y1:=Y1) h;refine ⟨[],by simp_all,A,z,G,λσs e y r k=>?_⟩;simp only[zO,tQ] at k;split at k
   ·rename_i hb;simp only[au,aU] at k;obtain ⟨rfl,rfl⟩:=k;exact ⟨rfl,.inr (.inr (.inr (.inr (.inr ⟨_,b,q,_,rfl,E,rfl,tR.mp hb⟩))))⟩
   simp_all
  simp_all
 ·rename_i d d';split at h
  ·rename_i o;have:=Wm o;subst this;simp only[au] at h;subst h;refine ⟨[],by simp_all,rfl,Mo.refl s,id,λσs e y r k=>?_⟩;simp only[zO,tQ] at k;split at k
   ·rename_i hb;simp only[au,aU] at k;obtain ⟨rfl,rfl⟩:=k;exact ⟨rfl,.inl ⟨λ_ _ _ _ _ h=>h,hb,.inr rfl⟩⟩
   simp_all
  simp_all
 simp_all
theorem Rw:∀{ps:List CP}{xs:List TC}{s s':MS},NS m Y1 ps xs s=some s'->(∀x∈xs,GC Y1 x)->∃f,s'.cl=s.cl++f/\s'.rw=s.rw/\Mo s s'/\(MI m Y1 s->MI m Y1 s')/\∀σs a d r,Ag σs ps (f++a)=some (d,r)->r=a/\aM (CM m Y1 σs s') xs d:=by
 intro ps;induction ps with
 |nil=>
  intro xs s s' h g;cases xs with
  |nil=>simp only[NS,au] at h;subst h;refine ⟨[],by simp,rfl,Mo.refl s,id,λσs a d r b=>?_⟩;simp only[zO,Ag,au,aU] at b;obtain ⟨rfl,rfl⟩:=b;exact ⟨rfl,.nil⟩
  |cons x xs=>grind [NS]
 |cons p ps ih=>
  intro xs s s' h g;cases xs with
  |nil=>grind [NS]
  |cons x xs=>
   simp only[NS] at h;split at h
   ·rename_i s1 j;obtain ⟨k,L,N,l,o,q⟩:=PV j (g x (qY ..));obtain ⟨t,O,R,i,u,v⟩:=ih h λy b=>g y (o_ _ b);refine ⟨k++t,by grind,by grind,l.trans i,λI=>u (o I),λσs a d r b=>?_⟩;rw[zg] at b;simp only[Ag] at b;split at b
    ·rename_i y z A;obtain ⟨rfl,c1⟩:=q σs _ y z A;split at b
     ·rename_i E S G;simp only[au,aU] at b;obtain ⟨rfl,rfl⟩:=b;obtain ⟨e,K⟩:=v σs _ _ _ G;exact ⟨e,.cons (c1.mono i) K⟩
     grind
    grind
   simp_all
def VM(m:Nat)(Y1 σs:TH)(s:MS):TV->TV->Prop
 |.c x,.c y=>CM m Y1 σs s x y
 |.agg xs,.agg a=>aM (CM m Y1 σs s) xs a
 |_,_=>False
theorem VM.mono(h:Mo s s'){x y:TV}(c:VM m Y1 σs s x y):VM m Y1 σs s' x y:=by
 cases x with
 |c x => cases y with
  |c y=>exact CM.mono h c
  |_=>exact c.elim
 |agg i => cases y with
  |agg j=>exact aM.mono (λ_ _=>CM.mono h) c
  |_=>exact c.elim
 |aV i=>exact c.elim
theorem frTs_cm:∀{cs:List CC}{xs:List TC}{a:aV cs},DS cs (xs.map (CB Y1))=some a->(∀x∈xs,GC Y1 x)->(∀b∈iS xs,∃(i:Nat)(l:List (TT i))(e f:Nat),Y1[b]? = some (.row i l e f))/\∀m σs s,(∀b∈iS xs,b∈s.fz)->aM (CM m Y1 σs s) xs (uj cs a):=by
 intro cs;induction cs with
 |nil=>
  intro xs a h g;cases xs with
  |nil=>exact ⟨by simp[iS],λm σs s _=>.nil⟩
  |cons x xs=>grind [DS]
 |cons c cs ih=>
  intro xs a h g;cases xs with
  |nil=>grind [DS]
  |cons x xs=>
   simp only[rS,DS] at h;split at h
   ·rename_i r t j k;simp only[au] at h;subst h;obtain ⟨u,o⟩:=PN j (g x (qY ..));obtain ⟨v,p⟩:=ih k λy q=>g y (o_ _ q);have d:∀b,b∈iS (x::xs)↔b∈iS [x]\/b∈iS xs:=by
     intro b;cases x <;> simp[iS]
    refine ⟨λb hb=>?_,λm σs s hs=>.cons (o m σs s λb hb=>hs b ((d b).2 (.inl hb))) (p m σs s λb hb=>hs b ((d b).2 (.inr hb)))⟩
    grind
   simp_all
def mRO_ok{p:RO}{v:TV}(h:mRO m Y1 p v s=some s')(g:GV Y1 v):∃K,s'.cl=s.cl++K/\s'.rw=s.rw/\Mo s s'/\(MI m Y1 s->MI m Y1 s')/\∀σs d y r,zh σs p (K++d)=some (y,r)->r=d/\VM m Y1 σs s' v y:=by
 unfold mRO at h;split at h
 ·rename_i c;split at h
  ·rename_i a k;simp only[au] at h;subst h;cases v with
   |c x=>
    obtain ⟨l,q⟩:=PN (c:=c) k g;refine ⟨_,rfl,rfl,⟨λ_ _ h=>h,λ_ h=>yBC _ h⟩,λI=>⟨I.ge,λb hb=>?_⟩,λσs d y r f=>?_⟩
    ·rcases kL.1 hb with hb | hb
     ·exact l b hb
     ·exact I.fz b hb
    ·simp only[yB4,zh,FC,au,aU] at f;obtain ⟨rfl,rfl⟩:=f;exact ⟨rfl,q m σs _ λb hb=>yBI _ hb⟩
   |agg o=>grind [fT,qC,Kc]
   |aV o=>grind [fT,qC,Kc]
  simp_all
 ·rename_i i;split at h
  ·rename_i a k;simp only[au] at h;subst h;cases v with
   |c x=>grind [fT,qC,Cw]
   |aV x=>grind [fT,qC,Cw]
   |agg o=>
    simp only[fT,qC,Cw] at k;split at k
    ·rename_i t O;simp only[au] at k;subst k;obtain ⟨l,q⟩:=frTs_cm O g;refine ⟨_,rfl,rfl,⟨λ_ _ h=>h,λ_ h=>yBC _ h⟩,λI=>⟨I.ge,λb hb=>?_⟩,λσs d y r f=>?_⟩
     ·rcases kL.1 hb with hb | hb
      ·exact l b hb
      ·exact I.fz b hb
     ·simp only[yB4,zh,FC,au,aU] at f;obtain ⟨rfl,rfl⟩:=f;refine ⟨rfl,?_⟩;show aM _ o (uj _ _);rw[σ.pm];exact q m σs _ λb hb=>yBI _ hb
    simp_all
  simp_all
 ·rename_i i;split at h
  ·rename_i a k;simp only[au] at h;subst h;refine ⟨_,rfl,rfl,⟨λ_ _ h=>h,λ_ h=>h⟩,λI=>⟨I.ge,I.fz⟩,λσs d y r f=>?_⟩;simp only[yB4,zh,FC,au,aU] at f;obtain ⟨rfl,rfl⟩:=f;refine ⟨rfl,?_⟩;cases v with
   |c x=>
    cases x with
    |fp j b off=>
     simp only[fT,CB,qC] at k;unfold wx at k;split at k
     ·rename_i T U N;simp only[TV.c.injEq,TC.fp.injEq] at N;obtain ⟨rfl,q,rfl⟩:=N;cases q;split at k
      ·rename_i e _;subst e;simp only[au] at k;subst k;exact .inl ⟨λ_ _ _ _ _ h=>h,rfl,.inr rfl⟩
      simp_all
     simp_all
    |own j b v n=>
     exfalso;simp only[fT,CB,qC] at k;split at k
     ·split at k <;> simp[wx] at k
     grind [wx]
    |_=>grind [fT,CB,qC,wx]
   |agg o=>grind [fT,qC,wx]
   |aV o=>grind [fT,qC,wx]
  simp_all
 ·rename_i p x;obtain ⟨L,u,z,A,E,G⟩:=PV h g;refine ⟨L,u,z,A,E,λσs d y r f=>?_⟩;simp only[zh] at f;split at f
  ·rename_i R S l;simp only[au,aU] at f;obtain ⟨rfl,rfl⟩:=f;exact G σs d _ _ l
  simp_all
 ·rename_i W o;obtain ⟨L,u,z,A,E,G⟩:=Rw h g;refine ⟨L,u,z,A,E,λσs d y r f=>?_⟩;simp only[zh] at f;split at f
  ·rename_i R S l;simp only[au,aU] at f;obtain ⟨rfl,rfl⟩:=f;exact G σs d _ _ l
  simp_all
 simp_all
theorem mROs_ok:∀{ps:List RO}{xs:List TV}{s s':MS},Kw m Y1 ps xs s=some s'->(∀x∈xs,GV Y1 x)->∃f,s'.cl=s.cl++f/\s'.rw=s.rw/\Mo s s'/\(MI m Y1 s->MI m Y1 s')/\∀σs a d r,kz σs ps (f++a)=some (d,r)->r=a/\aM (VM m Y1 σs s') xs d:=by
 intro ps;induction ps with
 |nil=>
  intro xs s s' h g;cases xs with
  |nil=>simp only[Kw,au] at h;subst h;refine ⟨[],by simp,rfl,Mo.refl s,id,λσs a d r b=>?_⟩;simp only[zO,kz,au,aU] at b;obtain ⟨rfl,rfl⟩:=b;exact ⟨rfl,.nil⟩
  |cons x xs=>grind [Kw]
 |cons p ps ih=>
  intro xs s s' h g;cases xs with
  |nil=>grind [Kw]
  |cons x xs=>
   simp only[Kw] at h;split at h
   ·rename_i s1 j;obtain ⟨k,L,N,l,o,q⟩:=mRO_ok j (g x (qY ..));obtain ⟨t,O,R,i,u,v⟩:=ih h λy b=>g y (o_ _ b);refine ⟨k++t,by grind,by grind,l.trans i,λI=>u (o I),λσs a d r b=>?_⟩;rw[zg] at b;simp only[kz] at b;split at b
    ·rename_i y z A;obtain ⟨rfl,c1⟩:=q σs _ y z A;split at b
     ·rename_i E S G;simp only[au,aU] at b;obtain ⟨rfl,rfl⟩:=b;obtain ⟨e,K⟩:=v σs _ _ _ G;exact ⟨e,.cons (c1.mono i) K⟩
     grind
    grind
   simp_all
end
end Go.Abs
end
section
namespace Go.Abs
noncomputable section
variable[Gl][σ:Ty]
def uf(x y:TB):Prop:=(∃(i:Nat)(l:List (TT i))(d e a b:Nat),x=.row i l d e/\y=.row i l a b)\/(∃(j:Nat)(st:Bool)(l:List (Int×TT j))(v f:Nat),x=.mp j st l v/\y=.mp j st l f)
def PC.rw:PC->Bool
 |.h ..=>false
 |_=>true
variable{m:Nat}{Y Y1 σs:TH}{s s':MS}
theorem mPCs_ok(hg:∀(b:Nat) w cs,Y1[b]? = some (.cells w cs)->∀p∈cs,GC Y1 p.2):∀{ps:List PC} {s s':MS},Gq m Y Y1 ps s=some s' ->
  ∃ L Lc, s'.rw = s.rw ++ L /\ s'.cl = s.cl ++ Lc /\ Mo s s' /\ (MI m Y1 s -> MI m Y1 s') /\ (∀ p ∈ ps, p.blk < m) /\
   (∀f d A r,cd f ps (L++d)=some (A,r)->r=d/\∀b:Nat,((∀p∈ps,p.rw=true->p.blk≠b)/\A[b]? = f[b]?)\/∃x y,Y1[b]? = some x/\A[b]? = some y/\uf x y) /\
   (∀σs f d Y' r,dU σs ps f (Lc++d)=some (Y',r)->(∀(b:Nat) w cs w1 t,f[b]? = some (.cells w cs)->Y1[b]? = some (.cells w1 t)->cs.length=t.length)->r=d /\
    (∀(b j:Nat) p,PC.h b j p∈ps->∃w cs w' k x y,Y1[b]? = some (.cells w cs)/\Y'[b]? = some (.cells w' k)/\cs[j]? = some x/\k[j]? = some y/\CM m Y1 σs s' x.2 y.2) /\
    (∀(b:Nat) w cs,f[b]? = some (.cells w cs)->∃w' k,Y'[b]? = some (.cells w' k)/\∀j:Nat,(∀p,PC.h b j p∉ps)->k[j]? = cs[j]?)):=by
 intro ps
 induction ps with
 | nil =>
  intro s s' h
  simp only [Gq,au] at h
  subst h
  refine ⟨[],[],by simp,by simp,Mo.refl s,id,by simp,fun f d A r h=>?_,fun σs f d Y' r h _=>?_⟩
  ·simp only [zO,cd,au,aU] at h
   simp_all
  ·simp only [zO,dU,au,aU] at h
   grind
 | cons p ps ih =>
  intro s s' h
  cases p with
  | h b j p =>
   simp only [Gq] at h
   split at h
   ·rename_i w1 t hb v
    split at h
    ·rename_i x hx
     split at h
     ·rename_i s1 h1
      obtain ⟨L1,a1,a2,a3,a4,a5⟩:=PV h1 (hg b w1 t hb x (Av hx))
      obtain ⟨L,K,R,S,G,N,b5,T,U⟩:=ih h
      refine ⟨L,L1++K,by grind,by grind,a3.trans G,fun I=>N (a4 I),fun q o=>?_,fun f d A r h=>?_,fun σs f d Y' r h hl=>?_⟩
      ·rcases gy.1 o with rfl | o
       ·exact tR.mp v
       grind
      ·grind [cd,PC.rw]
      ·rw [zg] at h
       simp only [dU] at h
       split at h
       ·rename_i y r' w0 W h2 Z
        obtain ⟨rfl,c1⟩:=a5 σs _ y r' h2
        have ad:=hl b w0 W w1 t Z hb
        obtain ⟨e,d1,d2⟩:=U σs _ d Y' r h fun u w cs w2 af z e2=>by
         grind
        refine ⟨e,fun u j' p' hp=>?_,fun u w cs z=>?_⟩
        ·by_cases ak:∃q,PC.h u j' q∈ps
         ·grind
         ·rcases gy.1 hp with z | hp
          ·simp only [PC.h.injEq] at z
           obtain ⟨rfl,rfl,rfl⟩:=z
           obtain ⟨w',k,e2,e3⟩:=d2 u _ _ (HK Z)
           refine ⟨w1,t,w',k,x,(w0+1,y),hb,e2,hx,?_,c1.mono G⟩
           grind
          grind
        ·by_cases g:u=b
         ·subst g
          rw [Z] at z
          simp only [au,TB.cells.injEq] at z
          grind [HK]
         ·obtain ⟨w',k,e2,e3⟩:=d2 u w cs (by grind)
          grind
       grind
     grind
    grind
   grind
  | w b i =>
   simp only [Gq] at h
   split at h
   ·rename_i i0 l0 an av hb v
    split at h
    ·rename_i a ha
     obtain ⟨e,rfl⟩:=zdK ha
     subst e
     obtain ⟨L,K,R,S,G,N,b5,T,U⟩:=ih h
     refine ⟨_::L,K,by rw [R,zg]; rfl,S,⟨G.KQ,G.fz⟩,fun I=>N ⟨I.ge,I.fz⟩,fun q o=>?_,fun f d A r h=>?_,fun σs f d Y' r h hl=>?_⟩
     ·rcases gy.1 o with rfl | o
      ·exact tR.mp v
      grind
     ·simp only [JC,cd,FC] at h
      split at h
      ·rename_i l j l1 ax a0 O z
       simp only [au] at O
       subst O
       split at h
       ·obtain ⟨e,c1⟩:=T _ d A r h
        refine ⟨e,fun u=>?_⟩
        rcases c1 u with ⟨c1,E⟩ | c1
        ·by_cases g:u=b
         ·subst g
          rw [HK z] at E
          exact .inr ⟨_,_,hb,E,.inl ⟨_,_,_,_,_,_,rfl,rfl⟩⟩
         ·rw [Vz g] at E
          refine .inl ⟨fun q o hr=>?_,E⟩
          rcases gy.1 o with rfl | o
          ·exact fun e=>g e.symm
          grind
        grind
       grind
      grind
     grind [dU]
    grind
   grind
  | m b i st =>
   simp only [Gq] at h
   split at h
   ·rename_i i0 aa l0 v0 hb v
    split at h
    ·rename_i a ab ha
     obtain ⟨e,rfl⟩:=yO ha
     subst e
     have:st=aa:=eq_of_beq ab
     subst this
     obtain ⟨L,K,R,S,G,N,b5,T,U⟩:=ih h
     refine ⟨_::L,K,by rw [R,zg]; rfl,S,⟨G.KQ,G.fz⟩,fun I=>N ⟨I.ge,I.fz⟩,fun q o=>?_,fun f d A r h=>?_,fun σs f d Y' r h hl=>?_⟩
     ·rcases gy.1 o with rfl | o
      ·exact tR.mp v
      grind
     ·simp only [JC,cd,FC] at h
      split at h
      ·rename_i l j0 a6 l1 v1 O z
       simp only [au] at O
       subst O
       obtain ⟨e,c1⟩:=T _ d A r h
       refine ⟨e,fun u=>?_⟩
       rcases c1 u with ⟨c1,E⟩ | c1
       ·by_cases g:u=b
        ·subst g
         rw [HK z] at E
         exact .inr ⟨_,_,hb,E,.inr ⟨_,_,_,_,_,rfl,rfl⟩⟩
        ·rw [Vz g] at E
         refine .inl ⟨fun q o hr=>?_,E⟩
         rcases gy.1 o with rfl | o
         ·exact fun e=>g e.symm
         grind
       grind
      grind
     grind [dU]
    grind
   grind
theorem mNBs_ok(hg:∀(b:Nat) w cs,Y1[b]? = some (.cells w cs)->∀p∈cs,GC Y1 p.2):∀{f:List NB} {b:Nat} {s s':MS},DP m Y1 b f s=some s' ->
  ∃ L W, s'.rw = s.rw ++ L /\ s'.cl = s.cl ++ W /\ Mo s s' /\ (MI m Y1 s -> MI m Y1 s') /\
   (∀d l r,dx f (L++d)=some (l,r)->r=d/\∀(k:Nat) nb,f[k]? = some nb->(∀ps,nb≠.cells ps)->∃j x y,oW (b+k) s'.ρ=some j/\Y1[j]? = some x/\l[k]? = some y/\uf x y) /\
   (∀σs g d l,dP σs f g (W++d)=some l->∀(k:Nat) nb,f[k]? = some nb ->
    (∀ps,nb=.cells ps->∃j w cs Z,oW (b+k) s'.ρ=some j/\Y1[j]? = some (.cells w cs)/\l[k]? = some (.cells 0 Z)/\aM (CM m Y1 σs s') (cs.map Prod.snd) (Z.map Prod.snd)) /\
    ((∀ps,nb≠.cells ps)->l[k]? = g[k]?)):=by
 intro f
 induction f with
 | nil =>
  intro b s s' h
  simp only [DP,au] at h
  subst h
  refine ⟨[],[],by simp,by simp,Mo.refl s,id,fun d l r h=>?_,fun σs g d l h k nb hk=>by grind⟩
  grind [dx]
 | cons nb f ih =>
  intro b s s' h
  have sh:∀k:Nat,b+(k+1)=b+1+k:=fun k=>by omega
  cases nb with
  | cells ps =>
   simp only [DP] at h
   split at h
   ·rename_i j o
    split at h
    ·rename_i w cs hb
     split at h
     ·rename_i s1 h1
      obtain ⟨L1,a1,a2,a3,a4,a5⟩:=Rw h1 (fun x hx=>by
       grind)
      obtain ⟨L,u,E,G,q,v,K,N⟩:=ih h
      refine ⟨L,L1++u,by grind,by grind,a3.trans q,fun I=>v (a4 I),fun d l r h=>?_,fun σs g d l h k nb hk=>?_⟩
      ·simp only [dx] at h
       grind
      ·rw [zg] at h
       cases g with
       | nil=>grind [dP]
       | cons b0 g =>
        simp only [dP] at h
        split at h
        ·rename_i xs r' z
         split at h
         ·rename_i t O
          simp only [au] at h
          subst h
          obtain ⟨rfl,c1⟩:=a5 σs _ _ _ z
          have c2:=N σs g d t O
          cases k with
          | zero =>
           simp only [xF,au] at hk
           subst hk
           refine ⟨fun aa e=>?_,fun R=>absurd rfl (R ps)⟩
           refine ⟨j,w,cs,_,q.KQ _ _ (a3.KQ _ _ o),hb,by rw [xF],?_⟩
           rw [UX]
           have:(Prod.snd∘fun x:TC=>(0,x))=id:=rfl
           rw [this,List.map_id]
           grind [aM.mono,CM.mono]
          | succ k =>
           grind
         grind
        grind
     grind
    grind
   grind
  | row i =>
   simp only [DP] at h
   split at h
   ·rename_i j o
    split at h
    ·rename_i i0 l0 ab ad hb
     split at h
     ·rename_i a S
      obtain ⟨e,rfl⟩:=zdK S
      subst e
      obtain ⟨L,u,E,G,q,v,K,N⟩:=ih h
      refine ⟨_::L,u,by rw [E,zg]; rfl,G,⟨q.KQ,q.fz⟩,fun I=>v ⟨I.ge,I.fz⟩,fun d l r h=>?_,fun σs g d l h k nb hk=>?_⟩
      ·simp only [JC,dx,FC] at h
       split at h
       ·rename_i a' t r' A z
        simp only [au,aU] at h A
        subst A
        obtain ⟨rfl,rfl⟩:=h
        obtain ⟨e,c1⟩:=K d t _ z
        refine ⟨e,fun k nb hk R=>?_⟩
        cases k with
        | zero=>exact ⟨j,_,_,q.KQ _ _ o,hb,by rw [xF],.inl ⟨_,_,_,_,_,_,rfl,rfl⟩⟩
        | succ k=>grind
       grind
      ·cases g with
       | nil=>grind [dP]
       | cons b0 g =>
        simp only [dP] at h
        split at h
        ·rename_i t O
         simp only [au] at h
         grind
        grind
     grind
    grind
   grind
  | mp i st =>
   simp only [DP] at h
   split at h
   ·rename_i j o
    split at h
    ·rename_i i0 T l0 v0 hb
     split at h
     ·rename_i a U S
      obtain ⟨e,rfl⟩:=yO S
      subst e
      have:st=T:=eq_of_beq U
      subst this
      obtain ⟨L,u,E,G,q,v,K,N⟩:=ih h
      refine ⟨_::L,u,by rw [E,zg]; rfl,G,⟨q.KQ,q.fz⟩,fun I=>v ⟨I.ge,I.fz⟩,fun d l r h=>?_,fun σs g d l h k nb hk=>?_⟩
      ·simp only [JC,dx,FC] at h
       split at h
       ·rename_i a' t r' A z
        simp only [au,aU] at h A
        subst A
        obtain ⟨rfl,rfl⟩:=h
        obtain ⟨e,c1⟩:=K d t _ z
        refine ⟨e,fun k nb hk R=>?_⟩
        cases k with
        | zero=>exact ⟨j,_,_,q.KQ _ _ o,hb,by rw [xF],.inr ⟨_,_,_,_,_,rfl,rfl⟩⟩
        | succ k=>grind
       grind
      ·cases g with
       | nil=>grind [dP]
       | cons b0 g =>
        simp only [dP] at h
        split at h
        ·rename_i t O
         simp only [au] at h
         subst h
         have c2:=N σs g d t O
         cases k with
         | zero =>
          grind
         | succ k =>
          grind
        grind
     grind
    grind
   grind
end
end Go.Abs
end
section
namespace Go.Abs
noncomputable section
variable[Gl][σ:Ty]
variable{Y Y1 F:TH}{σD σ1D:ar}{s:MS}{ct:CT}
theorem uf.er{x y:TB}(h:uf x y):y.er=x.er:=by rcases h with ⟨i,l,z,A,o,u,rfl,rfl⟩ | ⟨j,st,l,v,E,rfl,rfl⟩ <;> rfl
theorem Jo{j:Nat}{st:Bool}:∀(l:List (Int×TT j))(i:Nat),((FJ (Pv j st) i l).all λe=>e.2.1.low 0)=true:=by
 intro l;induction l with
 |nil=>intro i;rfl
 |cons p l ih=>
  intro i;obtain ⟨k,a⟩:=p;simp only[FJ,SW,ih,Qm];unfold Pv;split
  ·have:∀b:List C,D.low.cW 0 (b.map .c)=true:=by
    intro b;induction b with
    |nil=>rfl
    |cons c b ih=>simp only[rS,D.low.cW,D.low,ih,Qm]
   exact this _
  ·rfl
theorem aM.Hp{α o:Type}{R:α->o->Prop}:∀{l:List α}{i:List o},l.length=i.length->(∀(j:Nat) a b,l[j]? = some a->i[j]? = some b->R a b)->aM R l i:=by
 intro l;induction l with
 |nil=>
  intro i h _;cases i with
  |nil=>exact .nil
  |cons _ _=>simp at h
 |cons a l ih=>
  intro i h u;cases i with
  |nil=>simp at h
  |cons b i=>exact .cons (u 0 a b rfl rfl) (ih (by simp_all) λj x y z A=>u (j+1) x y z A)
theorem aM.map{α i j o:Type}{R:j->o->Prop}{f:α->j}{g:i->o}{u:α->i->Prop}(h:∀a b,u a b->R (f a) (g b)){l:List α}{z:List i}(a:aM u l z):aM R (l.map f) (z.map g):=by
 induction a with
 |nil=>exact .nil
 |cons x _ ih=>exact .cons (h _ _ x) ih
theorem GC.low{x:TC}(g:GC Y x):x.er.low Y.length=true:=by
 cases x with
 |own i c v n=>
  obtain ⟨blk,j,_⟩:=g;simp only[TC.er,D.low,bz]
  grind
 |op i c v n k a off=>
  obtain ⟨blk,j,_⟩:=g;simp only[TC.er,D.low,bz]
  grind
 |os i c v n o len=>
  obtain ⟨blk,j,_⟩:=g;simp only[TC.er,D.low,bz]
  grind
 |ap c off len sz k=>simp only[TC.er,D.low,bz];exact g
 |d x=>exact g
 |Gt f u=>exact Dh g
 |_=>rfl
def gQ(m:Nat)(s:MS)(b:Nat):Nat:=if b<m then b else (oW b s.ρ).getD 0
theorem Bd.KQ{m b j:Nat}(h:Bd m s b j):gQ m s b=j:=by
 rcases h with ⟨o,i⟩ | ⟨o,i⟩
 ·rw[gQ,if_pos o,i]
 ·rw[gQ,if_neg (by omega),i];rfl
def BF(Y Y1 σs F:TH)(s:MS)(i:Nat):Prop:=∃x y,Y1[gQ Y.length s i]? = some x/\F[i]? = some y /\
 ((∃w e w' d,x=.cells w e/\y=.cells w' d/\aM (λa b=>CM Y.length Y1 σs s a b\/(a=b/\GC Y a)) (e.map Prod.snd) (d.map Prod.snd))\/uf x y)
structure MX (Y Y1 σs F:TH) (s:MS) (n:Nat):Prop where
 len:F.length=Y.length+n
 PD:σs.length=F.length
 sr:SR σs F
 bf:∀i,i<F.length->BF Y Y1 σs F s i
 mi:MI Y.length Y1 s
 nd:yB (s.ρ.map Prod.snd)=true
 fz:∀b∈s.fz,Y.length<=b/\b∉s.ρ.map Prod.snd
 kn:∀i,Y.length<=i->i<F.length->∃b',oW i s.ρ=some b'
theorem ve{i o:Nat}:∀{l:List (Nat×Nat)},oW i l=some o->(i,o)∈l:=by
 intro l;induction l with
 |nil=>grind [oW]
 |cons p l ih=>grind [oW,Nat.eq_of_beq_eq_true]
theorem UL:∀{l:List (Nat×Nat)},yB (l.map Prod.snd)=true->∀i j o,(i,o)∈l->(j,o)∈l->i=j:=by
 intro l;induction l with
 |nil=>simp_all
 |cons p l ih=>
  intro h i j o hi a;simp only[rS,yB,bG,hZ,yCm] at h;have no:∀k,(k,p.2)∈l->False:=λk hk=>h.1 p.2 (iX.2 ⟨_,hk,rfl⟩) (yC7 _)
  grind
section
variable{σs:TH}{n:Nat}(X:MX Y Y1 σs F s n)(H1:RH Y1 σ1D)
include X H1
theorem MX.rn:Rn Y.length σ1D (F.map TB.er) (gQ Y.length s) (λb=>b∈s.fz):={
 le:=by grind [MX.len]
 id:=λi hi=>by rw[gQ,if_pos hi]
 inj:=λi j hi A e=>by
  rw[vR] at hi A;unfold gQ at e;split at e
  ·rename_i h1;split at e
   ·exact e
   ·rename_i h2;obtain ⟨o,u⟩:=X.kn j (by omega) A;rw[u] at e;have:=(X.mi.ge _ (ve u)).2
    grind
  ·rename_i h1;obtain ⟨o,u⟩:=X.kn i (by omega) hi;split at e
   ·rw[u] at e;have:=(X.mi.ge _ (ve u)).2
    grind
   ·obtain ⟨K,z⟩:=X.kn j (by omega) A;rw[u,z] at e;simp only[OE] at e;subst e;exact UL X.nd i j o (ve u) (ve z)
 fr:=λi hi G=>by
  rw[vR] at hi;obtain ⟨h1,h2⟩:=X.fz _ G;unfold gQ at h1 h2;split at h1
  ·omega
  ·rename_i E;rw[if_neg E] at h2;obtain ⟨o,u⟩:=X.kn i (by omega) hi;rw[u] at h2;exact h2 (iX.2 ⟨_,ve u,rfl⟩)
 row:=λb hb=>by obtain ⟨i,l,O,R,h⟩:=X.mi.fz b hb;exact ⟨i,l,H1.row h⟩
 sz:=λi hi=>by
  rw[vR] at hi;obtain ⟨x,y,h1,h2,U⟩:=X.bf i hi;refine ⟨x.er,y.er,by rw[H1.eqD,lS,h1];rfl,by simp_all,?_⟩
  grind [aM.len,List.length_map,TB.er,Ob.sz,uf.er] }
theorem MX.cell{x y:TC}(c:CM Y.length Y1 σs s x y):dv σ1D (F.map TB.er) (gQ Y.length s) (λb=>b∈s.fz) x.er y.er:=by
 have N:=X.rn H1;rcases c with ⟨c1,c2,_⟩ | ⟨i,b,v,l,U,rfl,o,z,u⟩ | ⟨i,b,A,v,l0,aa,j,lv,l,U,rfl,o,z,rfl,h5⟩ | ⟨b,A,off,sz,rfl,o,rfl,u⟩ | ⟨b,A,rfl,o,rfl,u⟩ | ⟨f,b,A,sz,rfl,o,rfl,u⟩
 ·grind [dv.le,dv.data]
 ·rw[u];exact dv.cJ N o (H1.row z)
 ·have W:=X.sr.row b j l lv U h5;have E:=(fq.1 W).1;obtain ⟨x,y,G,K,O⟩:=X.bf b E;have q:=o.KQ;subst q;rw[z] at G;rw[W] at K;simp only[au] at G K;subst G K;rcases O with ⟨w,cs,w',ab,e,_⟩ | O
  ·simp at e
  ·rcases O with ⟨i',l',_,_,_,_,R,Z⟩ | ⟨_,_,_,_,_,R,_⟩
   ·simp only[TB.row.injEq] at R Z;obtain ⟨rfl,e6,_,_⟩:=R;obtain ⟨rfl,e7,_,_⟩:=Z;cases e6;cases e7;exact dv.sl N (by simp_all)
   simp_all
 ·have:=dv.ptr (F:=λb=>b∈s.fz) N (i:=b) (off:=off) (sz:=sz) (by grind [MX.PD]);rw[o.KQ] at this;exact this
 ·have:=dv.mp (F:=λb=>b∈s.fz) N (i:=b) (by grind [MX.PD]);rw[o.KQ] at this;exact this
 ·have:=dv.ptr (F:=λb=>b∈s.fz) N (i:=b) (off:=0) (sz:=sz) (by grind [MX.PD]);rw[o.KQ] at this;exact dv.fn1 this
theorem MX.rnH:SJ Y.length σ1D (F.map TB.er) (gQ Y.length s) (λb=>b∈s.fz):={
 toRn:=X.rn H1
 ob:=λi hi=>by
  rw[vR] at hi;obtain ⟨x,y,h1,h2,z⟩:=X.bf i hi;refine ⟨x.er,y.er,by rw[H1.eqD,lS,h1];rfl,by simp_all,?_⟩;rcases z with ⟨w,K,w',A,rfl,rfl,o⟩ | o
  ·refine ⟨_,rfl,?_⟩;have:=aM.map (R:=dv σ1D (F.map TB.er) (gQ Y.length s) (λb=>b∈s.fz)) (f:=TC.er) (g:=TC.er) (λa b h=>?_) o
   ·rw[UX,UX] at this;exact this
   ·rcases h with h | ⟨rfl,h⟩
    ·exact X.cell H1 h
    ·exact dv.low (X.rn H1) h.low
  ·rw[o.er];rcases o with ⟨j,l,O,U,E,G,rfl,rfl⟩ | ⟨j,st,l,v,W,rfl,rfl⟩
   ·refine ⟨_,rfl,aM.Hp rfl λk a b u hb=>?_⟩;rw[u] at hb;simp only[au] at hb;subst hb;rw[lS,cC] at u;obtain ⟨c,_,rfl⟩:=u;exact dv.data (X.rn H1) rfl
   ·exact ⟨rfl,Jo l 0⟩ }
theorem MX.val{v y:TV}{d:D}(h:VM Y.length Y1 σs s v y)(i:RT v d):dv σ1D (F.map TB.er) (gQ Y.length s) (λb=>b∈s.fz) d (eD y):=by
 have cell:∀{x y:TC}{d:D},CM Y.length Y1 σs s x y->RC x d->dv σ1D (F.map TB.er) (gQ Y.length s) (λb=>b∈s.fz) d y.er:=λ{x y d} c r=>by
  rcases r with rfl | rfl
  ·exact dv.le (λ_ _ _ _ _ _=>.any _) (X.cell H1 c)
  ·exact X.cell H1 c
 cases v with
 |c x => cases y with
  |c y=>exact cell h i
  |_=>exact h.elim
 |agg o => cases y with
  |agg G=>
   obtain ⟨ds,rfl,i⟩:=i;refine dv.agg (aM.Hp ?_ λj a b u hb=>?_)
   ·rw[<-i.len,vR];exact aM.len h
   ·rw[lS,cC] at hb;obtain ⟨y,z,rfl⟩:=hb;obtain ⟨x,K,O⟩:=aM.get' h j y z;obtain ⟨R,A,E⟩:=i.get' j a u
    grind
  |_=>exact h.elim
 |aV o=>exact h.elim
theorem MX.valL{vs j:List TV}{ds:List D}(h:aM (VM Y.length Y1 σs s) vs j)(i:f_ vs ds):aM (dv σ1D (F.map TB.er) (gQ Y.length s) (λb=>b∈s.fz)) ds (j.map eD):=by
 induction h generalizing ds with
 |nil=>cases i;exact .nil
 |cons h _ ih=>
  cases i with
  |cons r i=>exact .cons (X.val H1 h r) (ih i)
theorem MX.vals{vs j:List TV}{ds:List D}(h:aM (VM Y.length Y1 σs s) vs j)(o:f_ vs ds):dv σ1D (F.map TB.er) (gQ Y.length s) (λb=>b∈s.fz) (one ds) (one (j.map eD)):=by
 have i:aM (dv σ1D (F.map TB.er) (gQ Y.length s) (λb=>b∈s.fz)) ds (j.map eD):=by
  induction h generalizing ds with
  |nil=>cases o;exact .nil
  |cons h _ ih=>
   cases o with
   |cons r o=>exact .cons (X.val H1 h r) (ih o)
 generalize j.map eD=es at i ⊢;cases i with
 |nil=>exact dv.aV .nil
 |cons h r=>
  cases r with
  |nil=>exact h
  |cons u r=>exact dv.aV (.cons h (.cons u r))
end
end
end Go.Abs
end
