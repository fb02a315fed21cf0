/- DfwPg, DfwPh, DfwPx, DfwPi, DfwPj, DfwPk, DfwPw -/
import Derived.Test.YtmaocdlpgdadnaaGreatFwD
set_option linter.all false
section
namespace Go.Abs
noncomputable section
variable[Gl][Y:Ty]
variable{P:Program}{n:Nat}{alD:AL}{σ σ1:TH}{σD σD1:aa}{o:iA}{Q:TV->TH->Bool->List Nat->Prop}{rd:ay->Option TV}{S:ot}{hint:Nat}{R:Type}{k:KO R}{r:R}{orc:qB}
abbrev im(P:Program)(orc:qB)(n:Nat)(alD:AL)(σ:TH)(σD:aa)(o:iA)(k:KO R)(r:R):Prop:=bW P orc n alD σ σD o (λv σ1 rs wr=>k v σ1 rs wr=some r)
theorem vc{cs:List TC}{ds:List D}(h:ds=cs.map TC.er):RB (.cells 0 (cs.map λc=>(0,c))) (.cells ds):=by grind [RB,TB.er,Function.comp_def]
theorem xE{cs:List TC}(g:∀x∈cs,GC σ x):∀w a,TB.cells 0 (cs.map λc=>(0,c))=.cells w a->∀p∈a,GC σ p.2/\p.1<=w:=by simp_all
theorem Sx{x:ay}(e:ca σ alD rd)(H:RH σ σD)(h:eo P S hint (.box x) rd σ k=some r):im P orc n alD σ σD (.box x) k r:=by
 simp only[eo] at h;split at h
 ·rename_i v f;obtain ⟨d,i,j,l⟩:=e _ _ f;split at h
  ·rename_i b a;obtain ⟨p,s,_⟩:=lW a j;refine bW.new (v:=.c (.d (.ptr σ.length 0 b.length))) (d:=.ptr σ.length 0 b.length) (ob:=.cells (b.map TC.er)) (XM i p (by rw[H.len,vN]) rfl) (Or.inr rfl) ?_ H (vc rfl) (xE (qc a l)) h;show D.low _ _=true;simp[D.low]
  simp_all
 simp_all
theorem Lw{z:List D}(H:RH σ σD)(h:eo P S hint (.alloc z) rd σ k=some r):im P orc n alD σ σD (.alloc z) k r:=by
 simp only[eo] at h;split at h
 ·rename_i a;have e:(z.map λc=>((0:Nat),TC.d c))=(z.map TC.d).map λc=>(0,c):=by simp
  rw[e] at h;refine bW.new (v:=.c (.d (.ptr σ.length 0 z.length))) (d:=.ptr σ.length 0 z.length) (ob:=.cells z) (ER (by rw[H.len]) rfl) (Or.inr rfl) ?_ H (vc (by simp[TC.er,Function.comp_def])) (xE (BA a)) h;show D.low _ _=true;simp[D.low]
 simp_all
theorem LY{z:List D}{ps:List (Nat×Nat×ay)}(b:ca σ alD rd)(H:RH σ σD)(h:eo P S hint (.build z ps) rd σ k=some r):im P orc n alD σ σD (.build z ps) k r:=by
 simp only[eo] at h;split at h
 ·rename_i e f a;obtain ⟨ds,i,j,l⟩:=yX b a (ar.ds z) (BA f);exact bW.pure (v:=.agg e) (Pv i) ⟨ds,rfl,j⟩ l H h
 simp_all
theorem lH{i b m:Nat}{l:List (TT i)}(hm:m=l.length):GC (σ++[TB.row i l 0 0]) (.own i σ.length 0 m):=by
 refine ⟨_,by rw[Jo (bQ _),YH];rfl,λj a f h e=>?_⟩
 grind
theorem Nq:∀{cs:List TC},Jf cs=true->∀y∈cs,y≠.any:=by
 intro cs;induction cs with
 |nil=>simp_all
 |cons x cs ih=>
  intro h y a;simp only[Jf,aU,fJ] at h
  grind [UY]
theorem GY{es len:Nat}{z:List D}{ps:List (Nat×Nat×ay)}(x:ca σ alD rd)(H:RH σ σD)(h:eo P S hint (.fZ es len z ps) rd σ k=some r):im P orc n alD σ σD (.fZ es len z ps) k r:=by
 simp only[eo] at h;split at h
 ·split at h
  ·rename_i f i a;obtain ⟨ds,p,s,y⟩:=yX x a (ar.ds (oH len z)) (Ag i len);split at h
   rotate_left
   ·simp at h
   rename_i u;have e:ds=f.map TC.er:=s.eq (Nq u);refine bW.new (v:=.c (.d (.sl σ.length 0 len es f.length))) (d:=.sl σ.length 0 len es ds.length) (blk:=.cells 0 (f.map λc=>(0,c))) (ob:=.cells ds) (Bk p (by rw[H.len]) rfl) (Or.inr ?_) ?_ H (vc e) (xE y) h
   ·rw[e,vN];rfl
   ·show D.low _ _=true;simp[D.low]
  simp_all
 split at h
 ·rename_i f i a;simp only[aU] at i;have E:=bP i.1;subst E;split at h
  ·rename_i l j;obtain ⟨ds,p,s,y⟩:=yX x a (ar.ds (oH len z)) (Ag i.2 len);obtain ⟨G,A⟩:=PW j s;refine bW.new (v:=.c (.own hint σ.length 0 len)) (d:=OS (ai hint) σ.length len) (ob:=OB (enc hint) l) (gu p G A (nh hint) rfl (by rw[H.len]) rfl) (Or.inr rfl) (lH (b:=0) A.symm) H rfl (λw f e=>by simp at e) h
  simp_all
 simp_all
theorem LC{x:ay}(e:ca σ alD rd)(H:RH σ σD)(h:eo P S hint (.jH x) rd σ k=some r):im P orc n alD σ σD (.jH x) k r:=by
 simp only[eo] at h;split at h
 ·rename_i a;obtain ⟨b,g⟩:=e.c a (by simp);exact bW.one h (FO b) rfl g H
 ·rename_i a;obtain ⟨b,g⟩:=e.c a (by simp);exact bW.one h (Lk b) rfl g H
 ·rename_i a;obtain ⟨b,g⟩:=e.c a (by simp);exact bW.one h (Bo b) rfl g H
 ·rename_i a;obtain ⟨b,g⟩:=e.c a (by simp);exact bW.one h (Ld b) rfl g H
 ·rename_i a;obtain ⟨b,g⟩:=e.c a (by simp);exact bW.one h (FO b) rfl g H
 ·rename_i a;obtain ⟨b,g⟩:=e.c a (by simp);exact bW.one h (Bo b) rfl g H
 simp_all
theorem LJ{j:Nat}{neg:Bool}{x:ay}(f:ca σ alD rd)(H:RH σ σD)(h:eo P S hint (.fS j neg x) rd σ k=some r):im P orc n alD σ σD (.fS j neg x) k r:=by
 simp only[eo] at h;split at h
 ·rename_i y e;obtain ⟨a,g⟩:=f.c e (by simp);split at h
  ·rename_i i;exact bW.one h (dz a i) (by cases neg <;> rfl) rfl H
  ·rename_i i;exact bW.one h (dz a i) (by cases neg <;> rfl) rfl H
  simp_all
 ·rename_i e;obtain ⟨a,g⟩:=f.c e (by simp);split at h
  ·exact bW.one h (dz (b:=false) a rfl) (by cases neg <;> rfl) rfl H
  simp_all
 ·rename_i e;obtain ⟨a,g⟩:=f.c e (by simp);split at h
  ·exact bW.one h (dz (b:=false) a rfl) (by cases neg <;> rfl) rfl H
  simp_all
 simp_all
theorem Tw{off:Nat}{x:ay}(e:ca σ alD rd)(H:RH σ σD)(h:eo P S hint (.Aw off x) rd σ k=some r):im P orc n alD σ σD (.Aw off x) k r:=by
 simp only[eo] at h;split at h
 ·rename_i a;obtain ⟨b,g⟩:=e.c a (by simp);exact bW.one h (CZ b) rfl g H
 ·rename_i a;obtain ⟨b,g⟩:=e.c a (by simp);exact bW.one h (QU b) rfl True.intro H
 ·rename_i a;obtain ⟨b,g⟩:=e.c a (by simp);exact bW.one h (CZ b) (by grind [TC.er]) g H
 simp_all
theorem SN{len j es b off sz:Nat}{x i:ay}{q:Int}(h:lx alD x=some (.ptr b off sz))(a:lx alD i=some (I q))(hk:wi q len=some j):de P orc n alD σD (.idx es (some len) x i) (.ptr b (off+j * es) sz) σD []:=λe f=>by grind [aI,oF,dr]
theorem Sb{i b v q:Nat}{k:Int}{a:TT i}{l:List (TT i)}{h f:Nat}(p:σ[b]? = some (.row i l h f))(s:au l k=some a):GC σ (.op i b f l.length k a 0):=by
 refine ⟨_,p,λj z u x e=>?_⟩;simp only[TB.row.injEq] at e;obtain ⟨rfl,y,rfl,rfl⟩:=e;cases y;refine ⟨bQ _,λ_=>⟨l,?_,rfl,s⟩⟩;unfold dC;split
 ·rfl
 omega
theorem SC{g len es:Nat}{x i:ay}{q z a:Int}{l:List Int}(h:lx alD x=some (.c (.Ml g)))(f:lx alD i=some (I q))(b:au (z::l) q=some a)(j:Gl.VA g=(z::l).map λz=>.int .i64 z)(p:(z::l).length=len) :
  de P orc n alD σD (.idx es (some len) x i) (.c (.bE ((Gl.VA g).map .lit) (q.toNat * es))) σD []:=λe s=>by
 obtain ⟨u,v,y⟩:=kH b;have A:wi q len=some q.toNat:=by unfold wi;simp_all
 grind [aI,oF,dr]
theorem RM{es:Nat}{len:Option Nat}{x i:ay}(s:ca σ alD rd)(H:RH σ σD)(h:eo P S hint (.idx es len x i) rd σ k=some r):im P orc n alD σ σD (.idx es len x i) k r:=by
 cases len with
 |none=>
  simp only[eo] at h;split at h
  ·rename_i j l N u y;obtain ⟨A,g⟩:=s.c u (by simp);split at h
   ·rename_i q p f;have f:=bP f;subst f;obtain ⟨a,G,hk⟩:=uU h;exact bW.one hk (Nz A (s.int y p) G (nh j a)) rfl True.intro H
   simp_all
  ·rename_i j b v m N u y;obtain ⟨A,g⟩:=s.c u (by simp);split at h
   ·rename_i q j' l lv cv p f E;have f:=bP f;subst f;split at h
    ·rename_i l' X L;obtain ⟨a,G,hk⟩:=uU h;obtain ⟨rfl,rfl⟩:=kJ H g E X;have K:=uA H E L;rw[E] at K;simp only[ab,TB.row.injEq,heq_eq_eq,true_and,Kg] at K;subst K;exact bW.one hk (Gr (nh _) A (H.row E) rfl (s.int y p) G) rfl (Sb (v:=0) (q:=0) E G) H
    simp_all
   simp_all
  ·rename_i b off ln Z sz N u y;obtain ⟨A,g⟩:=s.c u (by simp);split at h
   ·rename_i q w cs p E;obtain ⟨ds,U,W,h4,_⟩:=H.cells E;split at h
    ·rename_i j O T;simp only[aU] at O;have e1:=bP O.1;have e2:=bP O.2;subst e2;exact bW.one h (Rc (cs:=ds) A (s.int y p) (Nk U (by omega)) T rfl) rfl g H
    simp_all
   simp_all
  simp_all
 |some len=>
  cases i with
  |k i=>
   simp only[eo] at h;split at h
   ·rename_i b off sz q u p;obtain ⟨A,g⟩:=s.c u (by simp);split at h
    ·rename_i j T;have y:lx alD (.k i)=some (I q):=by
      have:=IA (d:=i) p (by
       unfold Av at p ⊢;split at p
       ·grind [h_]
       ·exact Or.inr rfl)
      grind [lx]
     exact bW.one h (SN A y T) rfl g H
    simp_all
   simp_all
  |t i=>
   simp only[eo] at h;split at h
   ·rename_i b off sz N u y;obtain ⟨A,g⟩:=s.c u (by simp);split at h
    ·rename_i q w cs p f E;have f:=bP f;subst f;obtain ⟨ds,U,W,h4,_⟩:=H.cells E;split at h
     ·rename_i l hs L;simp only[aU] at hs;obtain ⟨a,G,hk⟩:=uU h;have h5:=BG L ((W.drop off).take len);have e:l.length=len:=by
       have:=Dj List.length h5;have q1:=bP hs.1;have q2:=wS hs.2
       grind
      have M:b<σ.length:=(dT.1 E).1;exact bW.one hk (Rp A (s.int y p) G e rfl) rfl M H
     simp_all
    simp_all
   ·rename_i g N u y;obtain ⟨A,_⟩:=s.c u (by simp);split at h
    ·rename_i q z l p f L;have f:=bP f;subst f;split at h
     ·rename_i e;have e:=bP e;obtain ⟨a,G,hk⟩:=uU h;exact bW.one hk (SC A (s.int y p) G (ND L) e) rfl rfl H
     simp_all
    simp_all
   simp_all
theorem TS{α:Type}{f:α->List C}{ai:Nat}{x:ay}{lo v:Option ay}{b:Nat}{l r:List α}{i j:Int}(L:∀a,(f a).length=ai)(h:lx alD x=some (OS ai b l.length))(A:σD[b]? = some (OB f l))(p:(match lo with | none=>some (I 0) | some o=>lx alD o)=some (I i))
  (s:(match v with | none=>some (I l.length) | some o=>lx alD o)=some (I j)) (y:slice? l i j=some r):de P orc n alD σD (.Mp ai x lo v) (.sl b (0+i.toNat * ai) (j.toNat-i.toNat) ai (l.length * ai)) σD []:=λe z=>by
 unfold slice? at y;split at y
 ·rename_i E;have u:jZ σD b (l.length * ai)=some ((l.flatMap f).map .c):=Nk A (by
   rw[vN];clear A h p s y E;induction l with
   |nil=>simp
   |cons a l ih=>grind)
  have G:kI e l.length l.length v=some j.toNat:=by
   cases v with
   |none=>simp only[ab,I,D.c.injEq,C.lit.injEq,Value.int.injEq,true_and] at s;grind [kI]
   |some o=>
    simp only at s;simp only[kI,dr z s,oF,Option.bind_some,Iq]
    grind
  have K:kI e 0 j.toNat lo=some i.toNat:=by
   cases lo with
   |none=>simp only[ab,I,D.c.injEq,C.lit.injEq,Value.int.injEq,true_and] at p;grind [kI]
   |some o=>
    simp only at p;simp only[kI,dr z p,oF,Option.bind_some,Iq]
    grind
  simp only[aI,dr z h,u,G,K,Option.bind_eq_bind,Option.bind_some,if_true,Option.orElse]
 simp_all
theorem Tn{es:Nat}{x:ay}{lo E:Option ay}(y:ca σ alD rd)(H:RH σ σD)(h:eo P S hint (.Mp es x lo E) rd σ k=some r):im P orc n alD σ σD (.Mp es x lo E) k r:=by
 simp only[eo] at h;split at h
 ·rename_i j l L;obtain ⟨M,g⟩:=y.c L (by simp);split at h
  ·rename_i u v f N O;have f:=bP f;subst f;split at h
   ·rename_i z G p s;obtain ⟨a,K,hk⟩:=uU h;refine bW.one hk (Wu (i:=z) (j:=G) (nh j) M ?_ ?_ K) rfl True.intro H
    ·cases lo with
     |none=>grind [h_]
     |some o=>exact y.int N p
    ·cases E with
     |none=>grind [h_]
     |some o=>exact y.int O s
   simp_all
  simp_all
 ·rename_i j b Z n L;obtain ⟨M,g⟩:=y.c L (by simp);split at h
  ·rename_i X l lv cv f T;have f:=bP f;subst f;split at h
   ·rename_i u v A N O;obtain ⟨rfl,rfl⟩:=kJ H g T A;split at h
    ·rename_i z G p s;obtain ⟨a,K,hk⟩:=uU h;have U:=H.row T;refine ⟨.c (.os X b Z l.length z.toNat (G.toNat-z.toNat)),σ,false,[],_,σD,TS (l:=l) (i:=z) (j:=G) (nh X) M U ?_ ?_ K,.inr rfl,?_,H,Ext.refl σ,λ_=>rfl,λ_=>⟨rfl,rfl,rfl⟩,hk⟩
     ·cases lo with
      |none=>grind [h_]
      |some o=>exact y.int N p
     ·cases E with
      |none=>grind [h_]
      |some o=>exact y.int O s
     ·refine ⟨_,T,λj l' ad af e=>?_⟩;simp only[TB.row.injEq] at e;obtain ⟨rfl,W,rfl,rfl⟩:=e;cases W;have ak:=bP A;unfold slice? at K
      grind
    simp_all
   simp_all
  simp_all
 simp_all
theorem Km(H:RH σ σD)(h:eo P S hint .pP rd σ k=some r):im P orc n alD σ σD .pP k r:=by simp only[eo] at h;exact bW.new (v:=.c (.d (.mp σ.length))) (d:=.mp σ.length) (blk:=.mp (hint / 2) (Nat.beq (hint % 2) 1) [] 0) (ob:=MB (Fg (hint / 2) (Nat.beq (hint % 2) 1)) []) (PT (g:=Fg (hint / 2) (Nat.beq (hint % 2) 1)) (by rw[H.len]) rfl) (Or.inr rfl) (by show D.low _ _=true;simp[D.low]) H rfl (λw a e=>by simp at e) h
theorem Oh(j:Nat)(a:TT j):((exp j a).headD (.d (.c (.lit undef)))).er=.c ((enc j a).headD (.lit undef)):=by
 have h:=pf j a;cases b:exp j a with
 |nil=>
  rw[b] at h;cases e:enc j a with
  |nil=>rfl
  |cons c f=>simp_all
 |cons x i=>
  rw[b] at h;cases e:enc j a with
  |nil=>simp_all
  |cons c f=>simp_all
theorem V_(j:Nat)(st:Bool)(a:TT j):RT (Ye j st a) (Fg j st a)/\GV σ (Ye j st a):=by
 cases st with
 |true=>exact ⟨⟨_,rfl,by rw[<-pf];exact ar.er _⟩,oT j a⟩
 |false=>
  refine ⟨.inr ?_,?_⟩
  ·rw[Oh];rfl
  ·show GC σ ((exp j a).headD (.d (.c (.lit undef))));cases e:exp j a with
   |nil=>rfl
   |cons x b=>grind [oT]
theorem Fi{ok e:Bool}{v:TV}{d:D}(h:RT v d)(g:GV σ v)(f:∀xs,v≠.aB xs):RT (EO ok v e) (if ok then .aB [d,B e] else d)/\GV σ (EO ok v e):=by
 cases ok with
 |false=>exact ⟨h,g⟩
 |true=>
  cases v with
  |aB xs=>simp_all
  |c x => exact ⟨⟨_, rfl, .cons ⟨x, rfl, h⟩ (.cons ⟨_, rfl, .inr rfl⟩ .nil)⟩, λp a y b => by
    rcases dO.1 a with rfl | a
    ·rcases dO.1 b with rfl | b
     ·exact g
     simp_all
    ·rcases dO.1 a with rfl | a
     ·rcases dO.1 b with rfl | b
      ·rfl
      simp_all
     simp_all⟩
  |agg xs=>exact ⟨⟨_,rfl,.cons h (.cons ⟨_,rfl,.inr rfl⟩ .nil)⟩,λp a y b=>by
    rcases dO.1 a with rfl | a
    ·exact g y b
    ·rcases dO.1 a with rfl | a
     ·rcases dO.1 b with rfl | b
      ·rfl
      simp_all
     simp_all⟩
theorem Wf(j:Nat)(st:Bool)(a:TT j):∀xs,Ye j st a≠.aB xs:=by intro xs h;cases st <;> simp[Ye] at h
theorem Xg(d:D):∀xs,Av d≠.aB xs:=by intro xs h;cases d <;> simp[Av] at h
theorem Ta{d:D}(h:d.low 0=true):RT (Av d) d/\GV σ (Av d):=by
 have one:∀d:D,d.low 0=true->RT (.c (.d d)) d/\GV σ (.c (.d d)):=λd h=>⟨.inr rfl,D.cY (JG _) h⟩;cases d with
 |agg ds=>simp only[D.low] at h;refine ⟨⟨ds,rfl,ar.ds ds⟩,λx a=>?_⟩;rw[gZ] at a;obtain ⟨y,b,rfl⟩:=a;exact ym h y b
 |_=>exact one _ h
theorem PV{R:Type}{r:R}:∀{a:List Nat}{n:Nat}{f:Nat->Option R},DV a n f=some r->f n=some r:=by
 intro a;induction a with
 |nil=>intro n f h;simp[DV] at h
 |cons g a ih=>
  intro n f h;simp only[DV] at h;cases e:Nat.beq n g with
  |true=>rw[e] at h;rw[bP e];exact h
  |false=>rw[e] at h;exact ih h
theorem QT{R:Type}{r:R}:∀{cs:List CC}{x:aB cs}{k:List TC->Option R},Ue cs x k=some r->k (qi cs x)=some r:=by
 intro cs;induction cs with
 |nil=>intro x k h;exact h
 |cons c cs ih=>
  intro x k h;cases c with
  |fk a=>exact ih (PV h)
  |_=>exact ih h
theorem XG{R:Type}{r:R}{hint j:Nat}{st:Bool}{a:TT j}{k:TV->Option R}(h:lkS hint j st a k=some r):k (Ye j st a)=some r:=by
 unfold lkS at h;split at h
 ·exact QT h
 ·exact h
theorem Hf{kind:TypeDesc}{zero:D}{m A:ay}{ok:Bool}(i:ca σ alD rd)(H:RH σ σD)(h:eo P S hint (.lookup kind zero m A ok) rd σ k=some r):im P orc n alD σ σD (.lookup kind zero m A ok) k r:=by
 simp only[eo] at h;split at h
 ·rename_i T b U L hk M;obtain ⟨E,g⟩:=i.c L (by simp);split at h
  ·rename_i j st l v x N G;obtain ⟨O,K,p⟩:=H.hp b _ N;have p:O=MB (Fg j st) l:=p;subst p;cases f:cq l x with
   |none=>rw[f] at h;obtain ⟨s,u⟩:=Ta (σ:=σ) M;obtain ⟨y,z⟩:=Fi (ok:=ok) (e:=false) s u (Xg zero);exact bW.pure (Pp E K (i.int hk G) f rfl) y z H h
   |some a=>rw[f] at h;obtain ⟨s,u⟩:=V_ (σ:=σ) j st a;obtain ⟨y,z⟩:=Fi (ok:=ok) (e:=true) s u (Wf j st a);exact bW.pure (Uw E K (i.int hk G) f rfl) y z H (XG (k:=λv=>k (EO ok v true) σ false []) h)
  ·simp at h
 ·simp at h
theorem WR{j:Nat}{st:Bool}{v:TV}{d:D}{a:TT j}(h:mkM j st v=some a)(r:RT v d):d=Fg j st a:=by
 unfold mkM at h;split at h
 ·rename_i i;obtain ⟨ds,rfl,hd⟩:=r;obtain ⟨f,b⟩:=u_ h;rw[hd.eq b,f];rfl
 ·rename_i x;obtain ⟨f,b⟩:=u_ h;have:=RT.c1 (b x (li ..)) r;subst this;cases e:enc j a with
  |nil=>simp_all
  |cons c l=>grind [Fg]
 simp_all
theorem Sn{kind:TypeDesc}{m A x:ay}(s:ca σ alD rd)(H:RH σ σD)(h:eo P S hint (.rK kind m A x) rd σ k=some r):im P orc n alD σ σD (.rK kind m A x) k r:=by
 simp only[eo] at h;split at h
 ·rename_i U b W v E hk G;obtain ⟨K,g⟩:=s.c E (by simp);obtain ⟨d,L,M,X⟩:=s _ _ G;split at h
  ·rename_i j st l Mn i u N;obtain ⟨O,y,z⟩:=H.hp b _ u;have z:O=MB (Fg j st) l:=z;subst z;split at h
   ·rename_i a T;have:=WR T M;subst this;have f:BE (.mp j st l Mn) (.mp j st (kj l i a) (Mn+1)):=⟨_,_,_,_,rfl,by omega,λe=>by omega⟩;refine ⟨_,_,_,_,.aB [],σD.set b (MB (Fg j st) (kj l i a)),Xc K y (s.int hk N) L rfl,rt0,?_,H.set u f rfl (λw Z e=>by simp at e),Ext.set u f,λ_=>?_,λe=>by grind [mX],h⟩
    ·intro p hp;grind
    ·simp only[ie,List.all_cons,List.all_nil,EP];rw[y,Ah y];rfl
   simp_all
  simp_all
 simp_all
theorem Uc{kind:TypeDesc}{m v:ay}(x:ca σ alD rd)(H:RH σ σD)(h:eo P S hint (.del kind m v) rd σ k=some r):im P orc n alD σ σD (.del kind m v) k r:=by
 simp only[eo] at h;split at h
 ·rename_i G b K y hk;obtain ⟨z,g⟩:=x.c y (by simp);split at h
  ·rename_i j st l Mn i f A;obtain ⟨E,s,u⟩:=H.hp b _ f;have u:E=MB (Fg j st) l:=u;subst u;have a:BE (.mp j st l Mn) (.mp j st (yd l i) (Mn+1)):=⟨_,_,_,_,rfl,by omega,λe=>by omega⟩;refine ⟨_,_,_,_,.aB [],σD.set b (MB (Fg j st) (yd l i)),VQ z s (x.int hk A) rfl,rt0,?_,H.set f a rfl (λw L e=>by simp at e),Ext.set f a,λ_=>?_,λe=>by grind [mX],h⟩
   ·intro p M;grind
   ·simp only[ie,List.all_cons,List.all_nil,EP];rw[s,Ah s];rfl
  simp_all
 simp_all
theorem SP{x:ay}(f:ca σ alD rd)(H:RH σ σD)(h:eo P S hint (.len x) rd σ k=some r):im P orc n alD σ σD (.len x) k r:=by
 simp only[eo] at h;split at h
 ·rename_i i l a;obtain ⟨e,g⟩:=f.c a (by simp);exact bW.one h (MN e) rfl rfl H
 ·rename_i a;obtain ⟨e,g⟩:=f.c a (by simp);exact bW.one h (TX e) rfl rfl H
 ·rename_i i b v q a;obtain ⟨e,g⟩:=f.c a (by simp);split at h
  ·rename_i j l z A p;split at h
   ·rename_i s;obtain ⟨rfl,rfl⟩:=kJ H g p s;exact bW.one h (Gg (nh _) e (H.row p) rfl) rfl rfl H
   simp_all
  simp_all
 ·rename_i b off E G sz a;obtain ⟨e,g⟩:=f.c a (by simp);split at h
  ·rename_i w cs p;obtain ⟨ds,u,K,L,_⟩:=H.cells p;split at h
   ·rename_i y;have M:=bP y;exact bW.one h (SK (cs:=ds) e (Nk u (by omega)) rfl) rfl rfl H
   simp_all
  simp_all
 simp_all
theorem XE{es a:Nat}{z:List D}{x y:ay}(j:ca σ alD rd)(H:RH σ σD)(h:eo P S hint (.mk es a z x y) rd σ k=some r):im P orc n alD σ σD (.mk es a z x y) k r:=by
 simp only[eo] at h;split at h
 ·rename_i M u v f L p s;simp only[aU] at f;have A:=bP f.1;subst A;split at h
  ·rename_i U N E i;obtain ⟨l,G,hk⟩:=uU h;obtain ⟨O,_⟩:=u_ L;have K:z=(enc hint M).map .c:=by rw[<-O];simp[TC.er,Function.comp_def]
   refine bW.new (v:=.c (.own hint σ.length 0 l.length)) (d:=OS (ai hint) σ.length l.length) (ob:=OB (enc hint) l) (ZZ (j.int p E) (j.int s i) K G f.2.1 (by rw[H.len]) rfl) (Or.inr rfl) (lH (b:=0) rfl) H rfl (λw T e=>by simp at e) hk
  simp_all
 ·rename_i v f L p s;simp only[aU] at f;have A:=bP f.1;subst A;split at h
  ·rename_i N i;obtain ⟨l,G,hk⟩:=uU h;refine bW.new (v:=.c (.own hint σ.length 0 l.length)) (d:=OS (ai hint) σ.length l.length) (ob:=OB (enc hint) l) (Ww (j.int p rfl) (j.int s i) G f.2.1 (by rw[H.len]) rfl) (Or.inr rfl) (lH (b:=0) rfl) H rfl (λw T e=>by simp at e) hk
  simp_all
 simp_all
theorem Ui{es p:Nat}{s x:ay}(A:ca σ alD rd)(H:RH σ σD)(h:eo P S hint (.append es p s x) rd σ k=some r):im P orc n alD σ σD (.append es p s x) k r:=by
 simp only[eo] at h;split at h
 ·rename_i i b v q y hs E;obtain ⟨G,g⟩:=A.c hs (by simp);obtain ⟨d,K,L,M⟩:=A _ _ E;split at h
  ·rename_i j l Z cv u;split at h
   ·rename_i l' m f hl N;simp only[aU] at f;have O:=bP f.2.1;subst O;obtain ⟨rfl,rfl⟩:=kJ H g u f.1;have z:=uA H u hl;rw[u] at z;simp only[ab,TB.row.injEq,heq_eq_eq,true_and,Kg] at z;subst z;obtain ⟨X,ha,hk⟩:=uU h;have T:BE (.row j l Z cv) (.row j X (Z+1) (cv+1)):=⟨_,_,_,rfl,by omega,by omega,λe=>by omega,λe=>by omega⟩;refine ⟨.c (.own j b (Z+1) X.length),_,true,[b],OS (ai j) b X.length,_,qJ (nh j) G (H.row u) rfl K (By H N L M) ha f.2.2 rfl rfl,Or.inr rfl,?_,H.set u T rfl (λw cs e=>by simp at e),Ext.set u T,λe=>by simp at e,λe=>by grind [mX],hk⟩;refine ⟨_,Ah u,λj' l' ad af e=>?_⟩
    grind
   simp_all
  simp_all
 ·rename_i i b v q hs E;obtain ⟨G,_⟩:=A.c hs (by simp);obtain ⟨d,K,L,M⟩:=A _ _ E;split at h
  ·rename_i a l f N;simp only[aU] at f;have O:=bP f.1;subst O;split at h
   ·rename_i U;exact bW.new (v:=.c (.own i σ.length 0 (a::l).length)) (d:=OS (ai i) σ.length (a::l).length) (ob:=OB (enc i) (a::l)) (yw G K (By H N L M) U f.2 (by rw[H.len]) rfl) (Or.inr rfl) (lH (b:=0) rfl) H rfl (λw cs e=>by simp at e) h
   simp_all
  simp_all
 ·rename_i i W hs E;obtain ⟨G,_⟩:=A.c hs (by simp);obtain ⟨d,K,L,M⟩:=A _ _ E;split at h
  ·rename_i f;simp only[aU] at f;have O:=bP f.1;subst O;rw[bC] at h;obtain ⟨X,ha,h⟩:=h;obtain ⟨U,e⟩:=pV ha;rw[e] at h;have N:yr i σ (.c (.sl i W))=some ([]++W):=by
    simp only[yr,dC,List.nil_append];split
    ·rfl
    omega
   exact bW.new (v:=.c (.own i σ.length 0 ([]++W).length)) (d:=OS (ai i) σ.length ([]++W).length) (ob:=OB (enc i) ([]++W)) (yw G K (By H N L M) (Nat.ble_eq.mpr (by simp_all)) f.2 (by rw[H.len]) rfl) (Or.inr rfl) (lH (b:=0) rfl) H rfl (λw cs e=>by simp at e) h
  simp_all
 simp_all
theorem AB{es:Nat}{d s:ay}{y:TV}{i b lo len:Nat}{l:List (TT i)}{m:List (TT i)}{p u:Nat}(v:ca σ alD rd)(H:RH σ σD)(x:lx alD d=some (.sl b (0+lo * ai i) len (ai i) (l.length * ai i)))(z:rd s=some y)(hm:yr i σ y=some m)
  (a:σ[b]? = some (.row i l p u)) (f:lo+len<=l.length) (A:es=ai i) (h:k (.c (.d (I ((m.take len).length:Int)))) (σ.set b (.row i (QP l m lo len) p (u+1))) false [b]=some r):im P orc n alD σ σD (.copy es d s) k r:=by
 subst A;obtain ⟨L,E,G,K⟩:=v _ _ z;have j:BE (.row i l p u) (.row i (QP l m lo len) p (u+1)):=⟨_,_,_,rfl,bQ _,by omega,λ_=>Jy f,λe=>by omega⟩;refine ⟨.c (.d (I ((m.take len).length:Int))),_,false,[b],_,_,Rb (nh i) x (H.row a) f E (Rw H hm G K) rfl,.inr rfl,rfl,H.set a j rfl (λw M e=>by simp at e),Ext.set a j,λ_=>?_,λe=>by grind [mX],h⟩;simp only[ie,List.all_cons,List.all_nil,EP];rw[H.row a,Ah (H.row a)]
 grind [Ob.sz,gL,nh,Jy]
theorem MA{es:Nat}{d s:ay}(f:ca σ alD rd)(H:RH σ σD)(h:eo P S hint (.copy es d s) rd σ k=some r):im P orc n alD σ σD (.copy es d s) k r:=by
 simp only[eo] at h;split at h
 ·rename_i i b v q y hd p;obtain ⟨u,g⟩:=f.c hd (by simp);split at h
  ·rename_i j l G K e;split at h
   ·rename_i E m a x z;simp only[aU] at a;obtain ⟨rfl,rfl⟩:=kJ H g e a.1;obtain ⟨_,rfl⟩:=IU x;exact AB (lo:=0) (len:=E.length) f H (by simpa[TC.er,OS] using u) p z e (by omega) (bP a.2) h
   simp_all
  simp_all
 ·rename_i i b v q lo len y hd p;obtain ⟨u,g⟩:=f.c hd (by simp);split at h
  ·rename_i j l G K e;split at h
   ·rename_i E m a x z;simp only[aU] at a;obtain ⟨rfl,rfl,A⟩:=XA H g e a.1;obtain ⟨_,rfl⟩:=IU x;exact AB f H u p z e A (bP a.2) h
   simp_all
  simp_all
 simp_all
theorem EI{x:ay}{i:Nat}(s:ca σ alD rd)(H:RH σ σD)(h:eo P S hint (.extract x i) rd σ k=some r):im P orc n alD σ σD (.extract x i) k r:=by
 simp only[eo] at h;split at h
 ·rename_i E u;obtain ⟨d,j,⟨ds,rfl,l⟩,p⟩:=s _ _ u;split at h
  ·rename_i z a;obtain ⟨d,b,A,rfl,f⟩:=l.get _ _ a;exact bW.pure (v:=.agg z) (xS j b) ⟨A,rfl,f⟩ (p _ (sT a)) H h
  ·rename_i c a;obtain ⟨d,b,y,e,f⟩:=l.get _ _ a;simp only[XZ,Kg] at e;subst e;exact bW.pure (v:=.c c) (xS j b) f (p _ (sT a) c (by simp)) H h
  simp_all
 simp_all
theorem OR:∀{vs:List TV}{xs:List D}{ds:List D},vs.mapM (λv=>(match v with | .c (.d x)=>some x | _=>none))=some xs->dP vs ds->(∀v∈vs,GV σ v)->ds=xs/\D.low.bM σ.length xs=true:=by
 intro vs;induction vs with
 |nil=>intro xs ds h r _;simp only[List.mapM_nil] at h;cases h;cases r;exact ⟨rfl,rfl⟩
 |cons v vs ih=>
  intro xs ds h r g;cases r with
  |cons b r=>
   rw[Lm] at h;split at h
   ·rename_i x;cases a:vs.mapM (λv=>(match v with | .c (.d x)=>some x | _=>none)) with
    |none=>simp_all
    |some l=>rw[a] at h;cases h;obtain ⟨e,f⟩:=ih a r λv i=>g v (kE _ i);have j:=RT.c1 (by simp) b;subst e j;refine ⟨rfl,?_⟩;simp only[D.low.bM,f,EP];exact g _ (li ..)
   simp_all
theorem Tf{σ:TH}{xs:List TC}{cs:List CV}{ds:List D}(h:xs.mapM Qg=some cs)(r:ar RC xs ds)(g:∀x∈xs,GC σ x):ds=cs.map CV.er/\cs.all (CV.low σ.length)=true:=by
 induction r generalizing cs with
 |nil=>simp_all
 | @cons x d xs ds h1 r ih=>
  rw[Lm] at h;cases a:Qg x with
  |none=>simp_all
  |some c=>
   cases hs:xs.mapM Qg with
   |none=>simp_all
   |some f=>
    rw[a,hs] at h;cases h;obtain ⟨b,e⟩:=ih hs λy i=>g y (kE _ i);have j:=g x (li ..);unfold Qg at a;split at a <;> cases a
    ·have:=RT.c1 (x:=.d _) (by simp) h1;subst this;exact ⟨by rw[b];rfl,by simp only[List.all_cons,e,EP];exact j⟩
    ·have:=RT.c1 (x:=.b _) (by simp) h1;subst this;exact ⟨by rw[b];rfl,by simp only[List.all_cons,e,EP];rfl⟩
    ·have:=RT.c1 (x:=.sl _ _) (by simp) h1;subst this;exact ⟨by rw[b];rfl,by simp only[List.all_cons,e,EP];rfl⟩
theorem MP{f:Fn}{first cap:List ay}(p:ca σ alD rd)(H:RH σ σD)(h:eo P S hint (.yD f first cap) rd σ k=some r):im P orc n alD σ σD (.yD f first cap) k r:=by
 simp only[eo] at h;split at h
 ·rename_i a b z A;obtain ⟨ds,s,u,v⟩:=p.all z;obtain ⟨W,x,y,E⟩:=p.all A;split at h
  ·rename_i g X i;unfold Vi at i;split at i
   rotate_left
   ·grind
   rename_i Z xs;rw[bq] at i;obtain ⟨G,K,e⟩:=i;simp only[aC] at e;obtain ⟨rfl,rfl⟩:=e;cases u with
   |cons L M=>cases M;cases y;obtain ⟨N,rfl,O⟩:=L;obtain ⟨T,U⟩:=Tf K O (v _ (li ..));subst T;exact bW.one h (Jl s x) rfl U H
  split at h
  ·rename_i a' b' j l;obtain ⟨rfl,h7⟩:=OR j u v;obtain ⟨rfl,h8⟩:=OR l y E;refine bW.one h (Jl s x) rfl ?_ H;show D.low _ _=true
   grind [D.low]
  simp_all
 simp_all
theorem PO{off:Nat}{m:Option Nat}{x:ay}(b:ca σ alD rd)(H:RH σ σD)(h:eo P S hint (.part off m x) rd σ k=some r):im P orc n alD σ σD (.part off m x) k r:=by
 simp only[eo] at h;split at h
 ·rename_i s e;obtain ⟨d,f,⟨ds,rfl,i⟩,j⟩:=b _ _ e;split at h
  ·rename_i v a;obtain ⟨d,l,p⟩:=tS a i;exact bW.pure (Sf f l) p (ma a j) H h
  simp_all
 simp_all
theorem Nf{len j es:Nat}{m:Option Nat}{x i:ay}{q:Int}{cs:List D}{d:D}(h:lx alD x=some (.agg cs))(b:lx alD i=some (I q))(hk:wi q len=some j)(f:oW m cs (j * es)=some d):de P orc n alD σD (.wx es len m x i) d σD []:=λe a=>by simp[aI,dr a h,dr a b,oF,hk,f]
theorem Uy{i:Nat}:∀{xs:List TC}{l:List (TT i)},OW i xs=some l->∀{cs:List C},xs.map TC.er=cs.map .c->(cs.map λc=>[c])=l.map (enc i):=by
 intro xs;induction xs with
 |nil=>
  intro l h cs b;simp only[OW,ab] at h;subst h;cases cs with
  |nil=>rfl
  |cons c cs=>simp at b
 |cons x xs ih=>
  intro l h cs b;simp only[OW] at h;split at h
  ·rename_i a r j p;simp only[ab] at h;subst h;cases cs with
   |nil=>simp at b
   |cons c cs=>
    simp only[mb,XZ] at b;obtain ⟨e,_⟩:=u_ j;simp only[mb,Yo] at e;rw[b.1] at e;have s:[c]=enc i a:=by have u:([c]:List C).map D.c=(enc i a).map D.c:=e;have f:=Dj (List.map λd=>match d with | D.c c=>c | _=>default) u;simp only[PE] at f;have v:((λd=>match d with | D.c c=>c | _=>default)∘D.c)=(id:C->C):=rfl;rw[v,List.map_id,List.map_id] at f;exact f
    simp only[mb,s,ih p b.2]
  ·simp at h
theorem Ry{m off:Nat}{x:ay}{cs:List C}{es:List (List C)}(h:lx alD x=some (.c (.bE cs off)))(a:off+m<=cs.length)(f:(((cs.drop off).take m).map λc=>[c])=es):de P orc n alD σD (.yf m x) (.c (.bG false es)) σD []:=λe b=>by subst f;simp only[aI,dr b h,a,if_true]
theorem NP{m:Nat}{x:ay}(e:ca σ alD rd)(H:RH σ σD)(h:eo P S hint (.yf m x) rd σ k=some r):im P orc n alD σ σD (.yf m x) k r:=by
 simp only[eo] at h;split at h
 ·rename_i i a off f;obtain ⟨j,g⟩:=e.c f (by simp);split at h
  ·rename_i l b p;have b:=wS b;exact bW.pure (v:=.c (.sl hint l)) (Ry j (by rw[nh];exact b) (Uy p (by rw[Yd,List.map_drop,pf,Yd,List.map_drop]))) (Or.inr rfl) True.intro H h
  ·simp at h
 ·simp at h
theorem Qu{es len:Nat}{m:Option Nat}{x i:ay}(e:ca σ alD rd)(H:RH σ σD)(h:eo P S hint (.wx es len m x i) rd σ k=some r):im P orc n alD σ σD (.wx es len m x i) k r:=by
 simp only[eo] at h;split at h
 ·rename_i U W G u;obtain ⟨d,y,⟨ds,rfl,A⟩,K⟩:=e _ _ G;split at h
  ·rename_i q p;split at h
   ·rename_i j L;split at h
    ·rename_i v E;obtain ⟨d,M,s⟩:=tS E A;exact bW.pure (Nf y (e.int u p) L M) s (ma E K) H h
    simp_all
   simp_all
  ·rename_i q p;split at h
   ·rename_i l hs N;simp only[aU] at hs;have O:=bP hs.1;have X:=bP hs.2;subst O;obtain ⟨a,T,hk⟩:=uU h;have s:=BG N A;have b:l.length=len:=by grind [ar.len,List.length_map]
    exact bW.one hk (Sz (f:=λz=>.c (.lit (.int .i64 z))) y (e.int u p) T s b) rfl rfl H
   simp_all
  simp_all
 simp_all
theorem NS{f:ay}{args:List ay}(l:ca σ alD rd)(H:RH σ σD)(h:eo P S hint (.call f args) rd σ k=some r):im P (xw (A_ S)) n alD σ σD (.call f args) k r:=by
 simp only[eo] at h;split at h
 ·rename_i g z x b;obtain ⟨p,_⟩:=l.c x (by simp);obtain ⟨ds,u,v,y⟩:=l.all b;split at h
  ·rename_i s hs;split at h
   ·rename_i a e;obtain ⟨q,i,hk⟩:=uU h;exact bW.pure (Cz p u (Xh hs v e i)) (Ir s.out q) (Ar s.out q) H hk
   ·split at h
    ·rename_i a j e;simp only[aU] at j;obtain ⟨q,i,hk⟩:=uU h;exact bW.pure (Cz p u (OJ H hs y v j.1 j.2 e i)) (Ir s.out q) (Ar s.out q) H hk
    simp_all
  simp_all
 simp_all
theorem OL(p:ca σ alD rd)(H:RH σ σD)(h:eo P S hint o rd σ k=some r):im P (xw (A_ S)) n alD σ σD o k r:=by
 cases o with
 |uV x=>
  simp only[eo] at h;split at h
  ·rename_i v A;obtain ⟨d,E,G,K⟩:=p _ _ A;exact bW.pure (um E) G K H h
  simp_all
 |gen op ty=>exact Uo p H h
 |box x=>grind [Sx]
 |alloc z=>exact Lw H h
 |build z L=>grind [LY]
 |fZ l len z L=>grind [GY]
 |load m x=>grind [Oq]
 |store m x y=>grind [JW]
 |jH x=>grind [LC]
 |fS N M x=>grind [LJ]
 |Aw off x=>grind [Tw]
 |idx l len x i=>grind [RM]
 |Mp l x O T=>grind [Tn]
 |pP=>exact Km H h
 |lookup e zero m u ok=>grind [Hf]
 |rK e m u x=>grind [Sn]
 |del e m u=>grind [Uc]
 |len x=>grind [SP]
 |mk l j z x y=>grind [XE]
 |append l j s x=>grind [Ui]
 |copy l d s=>grind [MA]
 |extract x i=>grind [EI]
 |yD f a b=>grind [MP]
 |part off m x=>grind [PO]
 |yf m x=>grind [NP]
 |wx l len m x i=>grind [Qu]
 |call f args=>grind [NS]
 |_=>simp[eo] at h
end
end Go.Abs
end
section
namespace Go.Abs
noncomputable section
variable[Gl][Y:Ty]
def AZ(p:Nat):TA->Option (Nat×RV)
 |[]=>none
 |x::al=>if al.length=p then some x else AZ p al
theorem Gj{p:Nat}{y:Nat×RV}:∀{al:TA},AZ p al=some y->p<al.length:=by
 intro al;induction al with
 |nil=>grind [AZ]
 |cons x al ih=>grind [AZ]
theorem ux{p:Nat}{y z:Nat×RV}{al:TA}(h:AZ p al=some y):AZ p (z::al)=some y:=by
 have:=Gj h;simp only[AZ]
 grind
theorem TZ{p:Nat}{y:Nat×RV}{al:TA}(h:AZ p al=some y):∀(pre:TA),AZ p (pre++al)=some y:=by
 intro pre;induction pre with
 |nil=>exact h
 |cons z pre ih=>exact ux ih
theorem ME{t p:Nat}{x:RV}:∀{al:TA},dt t al=some (x,p)->AZ p al=some (t,x):=by
 intro al;induction al with
 |nil=>grind [dt]
 |cons y al ih=>
  intro h;obtain ⟨s,z⟩:=y;simp only[dt] at h;split at h
  ·rename_i a;have:=bP a;subst this;simp only[ab,aC] at h;obtain ⟨rfl,rfl⟩:=h;simp only[AZ,if_true]
  grind [ux]
def GW(al:TA)(σ:TH):RV->Prop
 |.v x=>GV σ x
 |.g c w p x=>(∃t,AZ p al=some (t,.v (.c (.b c))))/\(c=w->GV σ x)
theorem GW.mono{al:TA}{σ σ1:TH}(h:Ext σ σ1)(pre:TA){x:RV}(g:GW al σ x):GW (pre++al) σ1 x:=by
 cases x with
 |v x=>exact GV.mono h g
 |g c w p x=>exact ⟨let ⟨t,i⟩:=g.1;⟨t,TZ i pre⟩,λe=>(g.2 e).mono h⟩
structure Ref (al:TA) (σ:TH) (alD:AL) (σD:aa):Prop where
 hh:RH σ σD
 rg:∀t x p,dt t al=some (x,p)->∃d,lk t alD=some d/\RR x d/\GW al σ x
def zg(al:TA)(kn:Kn):Prop:=∀p b,vB p kn=some b->∀t e,AZ p al=some (t,.v (.c (.b e)))->e=b
variable{P:Program}{n:Nat}{alD:AL}{σ σ1:TH}{σD σD1:aa}{al:TA}{kn:Kn}{S:ot}
theorem Ref.set{t:Nat}{x:RV}{d:D}(i:Ref al σ alD σD)(H:RH σ1 σD1)(j:Ext σ σ1)(E:RR x d)(G:GW ((t,x)::al) σ1 x):Ref ((t,x)::al) σ1 ((t,d)::alD) σD1:={
 hh:=H
 rg:=λs y p h=>by
  simp only[dt] at h;simp only[lk];split at h
  ·simp_all
  ·rename_i u
   try rw[u]
   obtain ⟨z,h1,h2,A⟩:=i.rg s y p h;exact ⟨z,h1,h2,A.mono j [(t,x)]⟩ }
theorem Ref.heap(i:Ref al σ alD σD)(H:RH σ1 σD1)(j:Ext σ σ1):Ref al σ1 alD σD1:={
 hh:=H
 rg:=λs y p h=>let ⟨u,h1,h2,h3⟩:=i.rg s y p h;⟨u,h1,h2,h3.mono j []⟩ }
theorem zg.cons{z:Nat×RV}(h:zg al kn)(i:∀p b,vB p kn=some b->p<al.length):zg (z::al) kn:=λp b hk t e j=>by
 refine h p b hk t e ?_;have:=i p b hk;simp only[AZ] at j
 grind
def Hy(al:TA)(kn:Kn):Prop:=∀p b,vB p kn=some b->p<al.length
theorem Hy.cons{z:Nat×RV}(h:Hy al kn):Hy (z::al) kn:=λp b hk=>by have:=h p b hk;grind
theorem zg.add{p:Nat}{b:Bool}(h:zg al kn)(j:∀t e,AZ p al=some (t,.v (.c (.b e)))->e=b):zg al ((p,b)::kn):=λq c hk t e i=>by
 simp only[vB] at hk;split at hk
 ·grind [Nat.eq_of_beq_eq_true]
 ·exact h q c hk t e i
theorem Hy.add{p:Nat}{b:Bool}(h:Hy al kn)(i:p<al.length):Hy al ((p,b)::kn):=λq c hk=>by
 simp only[vB] at hk;split at hk
 ·simp_all
 ·exact h q c hk
theorem Ov{d:D}(h:d.low 0=true):RT (Av d) d/\GV σ (Av d):=by
 unfold Av;split
 ·rename_i ds;exact ⟨⟨ds,rfl,ar.ds ds⟩,BA h⟩
 ·exact ⟨.inr rfl,D.cY (JG _) h⟩
theorem jU(A:Ref al σ alD σD)(K:zg al kn){a:Option (Nat×Bool)}(N:∀q w,a=some (q,w)->∀t e,AZ q al=some (t,.v (.c (.b e)))->e=w):ca σ alD (zO al kn a):=by
 intro x v h;cases x with
 |k d=>
  simp only[zO] at h;split at h
  ·rename_i E;simp only[ab] at h;subst h;exact ⟨d,rfl,(Ov (σ:=σ) E).1,(Ov E).2⟩
  simp_all
 |t s=>
  simp only[zO] at h;split at h
  ·rename_i y p l;simp only[ab] at h;subst h;obtain ⟨d,u,j,z⟩:=A.rg s _ p l;exact ⟨d,u,j,z⟩
  ·rename_i c w p y q l;split at h
   ·rename_i f;simp only[ab] at h;subst h;obtain ⟨d,u,j,z⟩:=A.rg s _ q l;obtain ⟨⟨t,G⟩,L⟩:=z;have i:c=w:=by
     unfold Lp at f;split at f
     ·rename_i b M;have:=K p b M t c G
      simp_all
     ·split at f
      ·rename_i O T;simp only[aU] at f;have U:=bP f.1
       grind
      simp_all
    simp only[RR,if_pos i] at j;exact ⟨d,u,j,L i⟩
   simp_all
  simp_all
theorem AQ{t p:Nat}{x:RV}(a:Ref al σ alD σD)(h:dt t al=some (x,p)):∃d,lk t alD=some d/\RR x d:=let ⟨d,h1,h2,_⟩:=a.rg t x p h;⟨d,h1,h2⟩
theorem Wb(M:Ref al σ alD σD)(K:zg al kn)(g:Option (Nat×Bool)):match tGd al kn g with
  |.Lp=>Gd alD g true
  |.shut=>Gd alD g false
  |.sym e p w=>(∃t,AZ p al=some (t,.v (.c (.b e))))/\(e=w->Gd alD g true)/\((!e)=w->Gd alD g false)
  |.spl e p=>∃t,AZ p al=some (t,.v (.c (.b e)))
  |.LU t x=>∃d,lk t alD=some d/\RT x d/\GV σ x
  |.bad=>True:=by
 cases g with
 |none=>exact fB
 |some g=>
  obtain ⟨t,a⟩:=g;simp only[tGd];cases u:dt t al with
  |none=>trivial
  |some q=>
   obtain ⟨x,p⟩:=q;obtain ⟨d,h,i⟩:=AQ M u;cases x with
   |g c w z y=>
    dsimp only;obtain ⟨X,U,A,⟨N,j⟩,W⟩:=M.rg t _ p u;cases hk:vB z kn with
    |none=>simp_all
    |some b=>
     dsimp only;by_cases l:(b == w)=true
     ·rw[if_pos l];have E:c=w:=by rw[K z b hk N c j];simp_all
      simp only[RR,if_pos E] at A
      simp_all
     ·rw[if_neg l];have:=K z b hk N c j;have L:¬c=w:=λe=>l (by simp_all);simp only[RR,if_neg L] at i
      grind [Jm]
   |v y=>
    dsimp only;change RT y d at i;generalize f:gdB kn a p y=G;unfold gdB at f;split at f
    ·have:=RT.c1 (by simp) i;subst this;subst f;cases a
     ·exact Ie h rfl
     ·exact eO h rfl
    ·have:=RT.c1 (by simp) i;subst this;subst f;cases a
     ·exact eO h rfl
     ·exact Ie h rfl
    ·have:=RT.c1 (by simp) i;subst this;subst f;exact Jm h
    ·rename_i e;have:=RT.c1 (by simp) i;subst this;have s:=ME u;cases hk:vB p kn with
     |none=>
      rw[hk] at f;subst f;refine ⟨⟨t,s⟩,λO=>eO h O,λO=>Ie h ?_⟩
      simp_all
     |some b=>
      rw[hk] at f;dsimp only at f;have l:=K p b hk t e s;by_cases T:(b == a)=true
      ·rw[if_pos T] at f;subst f;exact eO h (by simp_all)
      ·rw[if_neg T] at f;subst f;refine Ie h ?_
       try rw[l]
       cases b <;> cases a <;> simp_all
    grind
def EJ(a b:cP):Prop:=a.wr=b.wr/\a.dst=b.dst/\a.Vf=b.Vf/\a.lo=b.lo/\a.hi=b.hi/\(a.cat=0∨(a.cat=b.cat/\a.blk=b.blk))
theorem EJ.refl(a:cP):EJ a a:=⟨rfl,rfl,rfl,rfl,rfl,.inr ⟨rfl,rfl⟩⟩
theorem KG{a b:cP}(h:EJ a b){wr:List Nat}(hs:safe b wr=true):safe a wr=true:=by
 obtain ⟨_,_,_,_,_,h | ⟨e,f⟩⟩:=h
 ·simp[safe,h]
 grind [safe]
theorem zl{a b f i:cP}(h:EJ a b)(j:EJ f i)(hs:apart b i=true):apart a f=true:=by
 simp only[apart,aU] at hs ⊢;obtain ⟨⟨⟨⟨p,s⟩,u⟩,v,x⟩,y,z⟩:=hs;have e:=h;have l:=j;obtain ⟨A,E,G,K,L,_⟩:=e;obtain ⟨f1,M,N,O,T,_⟩:=l
 grind [KG,outside]
theorem mw{b:List Nat}{as e:List cP}(h:ar EJ as e)(f:dk b e=true):dk b as=true:=by
 simp only[dk,eG,Zb,dQ] at f ⊢;intro j l i p;rw[h.len] at l;rcases f j l i p with s | s
 ·simp_all
 ·right;have get:∀q,q<e.length->EJ (as.getD q default) (e.getD q default):=by
   intro q u;obtain ⟨a,v,x⟩:=h.get' q _ (cE u)
   simp_all
  grind [zl]
theorem Ku{b f:List Nat}{as e:List cP}(h:ar EJ as e)(l:GJ b f e=true):GJ b f as=true:=by
 simp only[GJ,eG,Zb,dQ] at l ⊢;intro j p i s;rw[h.len] at p;rcases l j p i s with u | u
 ·simp_all
 ·right;have get:∀q,q<e.length->EJ (as.getD q default) (e.getD q default):=by
   intro q v;obtain ⟨a,x,y⟩:=h.get' q _ (cE v)
   simp_all
  grind [zl]
theorem bj.mono{orc:ey}{k:Nat}{os:List av}{Q Q':AL->aa->List cP->Prop}(h:bj P orc k os n alD σD Q)(j:∀a s i,Q a s i->Q' a s i):bj P orc k os n alD σD Q':=by obtain ⟨a,s,i,u,x⟩:=h;exact ⟨a,s,i,u,j _ _ _ x⟩
theorem OV(b:Ref al σ alD σD){o:iA}(h:okT al o=true):z_ alD o=true:=by
 cases o with
 |load m x=>
  cases x with
  |k d=>rfl
  |t a=>grind [okT,Option.isSome_iff_exists,AQ,z_,lx]
 |_=>rfl
variable{R:Type}
theorem MZ{rd:ay->Option TV}{hint:Nat}{o:iA}{k:KO R}{r:R}(f:ca σ alD rd)(h:eo P S hint o rd σ k=some r):z_ alD o=true/\sR alD o=Sl rd o:=by
 cases o with
 |load m x=>
  simp only[eo] at h;cases a:rd x with
  |none=>rw[a] at h;simp at h
  |some v=>
   obtain ⟨d,e,b,_⟩:=f x v a;refine ⟨by simp[z_,e],?_⟩;simp only[sR,Sl,e,a];cases v with
   |agg i=>obtain ⟨ds,rfl,_⟩:=b;rfl
   |aB i=>obtain ⟨ds,rfl,_⟩:=b;rfl
   |c y=>
    cases y with
    |any=>rw[a] at h;simp at h
    |d z=>have:=RT.c1 (by simp) b;subst this;cases d <;> rfl
    |_=>have:=RT.c1 (by simp) b;subst this;rfl
 |_=>exact ⟨rfl,rfl⟩
def aA(al:TA)(σ:TH)(K:KS R)(r:R)(e:AL)(f:aa)(h:List cP):Prop:=
 ∃a b i,Ref a b e f/\(∃pre,a=pre++al)/\Ext σ b/\ar EJ h i/\K a b i=some r
theorem aA.cons{al al1:TA}{σ σ1:TH}{K:KS R}{r:R}{j:AL}{s u:aa}{x:List cP}{i G:cP}{pre:TA}(h:aA al1 σ1 (λz σ' E=>K z σ' (i::E)) r j s x)(Z:al1=pre++al)(H:RH σ u)(L:Ext σ σ1)(M:EJ G i) :
  aA al σ K r j s (G::x):=by
 obtain ⟨z,σ',E,O,⟨A,rfl⟩,U,W,X⟩:=h;exact ⟨_,σ',i::E,O,⟨A++pre,by simp_all⟩,Ext.trans H L U,.cons M W,X⟩
theorem UH{e:Bool}{u v:TV}{f h:BX}(j:Kf u=some f)(l:Kf v=some h){d:D}(r:RT (if e then u else v) d):d=B (pk e f h):=by
 have b:∀{w:TV}{i:BX},Kf w=some i->RT w d->d=B i.val:=by
  intro w i a r;unfold Kf at a;split at a
  ·simp only[ab] at a;subst a;exact RT.c1 (by simp) r
  ·simp only[ab] at a;subst a;exact RT.c1 (by simp) r
  ·simp only[ab] at a;subst a;exact RT.c1 (by simp) r
  simp_all
 cases e
 ·have:=b l r;rw[this];cases f <;> cases h <;> simp[pk,BX.val]
 ·have:=b j r;rw[this];cases f <;> cases h <;> simp[pk,BX.val]
theorem BI{σ:TH}(c:Bool)(x y:BX):RT (Zi c x y) (B (pk c x y))/\GV σ (Zi c x y):=by cases x <;> cases y <;> first | exact ⟨.inr rfl,True.intro⟩ | (cases c <;> exact ⟨.inr rfl,rfl⟩)
theorem XF{o:iA}{rd:ay->Option TV}{v:TV}(a:ca σ alD rd)(H:RH σ σD)(b:mX o=true)(h:eo (R:=TV) P S 0 o rd σ (λv _ _ _=>some v)=some v) :
  ∃d,de P (xw (A_ S)) n alD σD o d σD []/\RT v d/\GV σ v:=by
 obtain ⟨e,σ1,rs,wr,d,σD1,f,i,j,_,_,_,l,p⟩:=OL (n:=n) a H h
 grind
def tu:(cs:List CT)->mA cs->Option (Σ c:CT,dm c.items)
 |[],_=>none
 |[c],x=>some ⟨c,x⟩
 |c :: d :: cs, x => match x with
  |.inl a=>some ⟨c,a⟩
  |.inr b=>tu (d::cs) b
theorem Mz{R:Type}{f:(c:CT)->dm c.items->Option R}{r:R}:∀{cs:List CT}{x:mA cs},WY cs x f=some r->∃c a,tu cs x=some ⟨c,a⟩/\f c a=some r:=by
 intro cs;induction cs with
 |nil=>grind
 |cons c cs ih=>
  intro x h;cases cs with
  |nil=>exact ⟨c,x,rfl,h⟩
  |cons d cs=>
   cases x with
   |inl a=>exact ⟨c,a,rfl,h⟩
   |inr b=>obtain ⟨e,i,j,l⟩:=ih (x:=b) h;exact ⟨e,i,j,l⟩
def ZP(g:Ga):Prop:=∀(i:CT)(e:FuncId)(f:List TV)(σ:TH)(h:List TV)(am:TH)(σD:aa)(ds:List D),g.exa i e f σ=some (h,am)->RH σ σD->dP f ds->(∀v∈f,GV σ v) ->
 aH g.P e=true/\∃r a,RH am a/\RT (tW h) r/\GV am (tW h)/\Ext σ am/\Ok g.P e ds σD r a/\(∀b,b<σD.length->a[b]? = σD[b]?)
def NL(g:Ga):Prop:=∀(f:List CT)(h:FuncId)(i:List TV)(σ:TH)(y:mA f)(e:CT)(x:dm e.items)(j:List TV)(am:TH)(σD:aa)(ds:List D),g.inl f h i σ=some y->tu f y=some ⟨e,x⟩->pW e σ x=some (j,am)->RH σ σD->dP i ds->(∀v∈i,GV σ v) ->
 aH g.P h=true/\∃r a,RH am a/\RT (tW j) r/\GV am (tW j)/\Ext σ am/\Ok g.P h ds σD r a/\(∀b,b<σD.length->b∉e.pl.map PC.blk->a[b]? = σD[b]?)/\(e.pl.any PC.rs=false->ie σD a (e.pl.map PC.blk)=true)
structure MT (g:Ga):Prop where
 one:NL g
 two:ZP g
theorem HZ{b a:ey}:∀(os:List av)(k:Nat)(e:List D)(σ:aa),(∀o∈os,b o.dst=a o.dst)->iT P b k os e σ=iT P a k os e σ:=by
 intro os;induction os with
 |nil=>intro k e σ _;rfl
 |cons o os ih=>grind [du,iT]
theorem bj.congr{u j:ey}{k:Nat}{os:List av}{Q:AL->aa->List cP->Prop}(h:∀o∈os,u o.dst=j o.dst)(t:bj P u k os n alD σD Q):bj P j k os n alD σD Q:=by
 obtain ⟨a,s,i,x,z⟩:=t;refine ⟨a,s,i,λe A=>?_,z⟩;obtain ⟨E,G,K⟩:=x e A
 grind [HZ]
theorem dP.PS{vs i:List TV}{ds es:List D}(h:dP vs ds)(j:dP i es):dP (vs++i) (ds++es):=by
 induction h with
 |nil=>exact j
 |cons h _ ih=>exact .cons h ih
theorem Wt(d:D):RT (Av d) d:=by
 unfold Av;split
 ·rename_i ds;exact ⟨ds,rfl,ar.ds ds⟩
 ·exact .inr rfl
theorem Cx{d:D}(h:d.low σ.length=true):GV σ (Av d):=by
 unfold Av;split
 ·rename_i ds;intro x a;rw[gZ] at a;obtain ⟨y,b,rfl⟩:=a;obtain ⟨i,e⟩:=Yw b;exact D.aE h i y e
 ·exact h
theorem wY:∀(ds:List D),dP (ds.map Av) ds:=by
 intro ds;induction ds with
 |nil=>exact .nil
 |cons d ds ih=>exact .cons (Wt d) ih
theorem PL{v:TV}{d:D}{K:FuncId}{a b:List TV}(h:fnT v=some (K,a,b))(r:RT v d)(g:GV σ v):∃L M,dP a L/\dP b M/\(∀v∈a,GV σ v)/\(∀v∈b,GV σ v) /\
  ∀(orc:qB)(f:ay)(args:List ay)(ds:List D)(r:D)(σD1:aa)(w:List Nat),lx alD f=some d->Mf alD args=some ds->orc K (L++ds++M) σD=some (r,σD1,w)->de P orc n alD σD (.call f args) r σD1 w:=by
 unfold fnT at h;split at h
 ·rename_i E x y;simp only[ab,aC] at h;obtain ⟨rfl,rfl,rfl⟩:=h;have:=RT.c1 (by simp) r;subst this;refine ⟨x.map .c,y.map .c,?_,?_,λv j=>?_,λv j=>?_,λorc f args ds r σD1 w s u A=>NU s u A⟩
  ·have:=wY (x.map D.c);rw[PE] at this;exact this
  ·have:=wY (y.map D.c);rw[PE] at this;exact this
  ·rw[gZ] at j;obtain ⟨z,_,rfl⟩:=j;exact Cx rfl
  ·rw[gZ] at j;obtain ⟨z,_,rfl⟩:=j;exact Cx rfl
 ·rename_i E x y;simp only[ab,aC] at h;obtain ⟨rfl,rfl,rfl⟩:=h;have:=RT.c1 (by simp) r;subst this;have G:D.low.bM σ.length x=true/\D.low.bM σ.length y=true:=by
   have:(D.low σ.length (.fn (.func E) x y))=true:=g
   grind [D.low]
  refine ⟨x,y,wY x,wY y,λv j=>?_,λv j=>?_,λorc f args ds r σD1 w s u A=>Em s u A⟩
  ·grind [List.getElem?_of_mem,Cx,D.aE]
  grind [List.getElem?_of_mem,Cx,D.aE]
 ·rename_i E p;simp only[ab,aC] at h;obtain ⟨rfl,rfl,rfl⟩:=h;have:=RT.c1 (x:=.zq _ _) (by simp) r;subst this;have G:p.all (CV.low σ.length)=true:=g;have O:ar RC (p.map cvT) (p.map CV.er):=by
   clear G g r;induction p with
   |nil=>exact .nil
   |cons x p ih=>exact .cons (.inr (by cases x <;> rfl)) ih
  refine ⟨[.agg (p.map CV.er)],[],.cons ⟨_,rfl,O⟩ .nil,.nil,λv j=>?_,λv j=>by grind,λorc f args ds r σD1 w s u A=>Em s u A⟩;rw[Mq] at j;subst j;intro y N;rw[gZ] at N;obtain ⟨x,T,rfl⟩:=N;have:=eG.1 G x T;cases x with
  |d x=>exact this
  |b e=>exact True.intro
  |sl i l=>exact True.intro
 simp_all
theorem qu{g:Ga}{q:Nat}{os:List av}(h:Kq g q os=true):uJ g q os=true:=by
 unfold Kq at h;split at h
 ·rename_i a;have:∀o,fP g q o=none:=λo=>by grind [fP]
  clear h;induction os with
  |nil=>rfl
  |cons o os ih=>simp only[uJ,this,ih,EP];simp
 omega
def vZ(g:Ga)(q k:Nat)(os:List av)(alD:AL)(σD:aa)(Q:AL->aa->List cP->Prop):Prop:=
 ∃a,jX g.P a/\(∀t,(∀o∈os,(fP g q o).isSome=true->o.dst≠t)->a t=xw (A_ g.S))/\bj g.P a k os g.n alD σD Q
section
variable{g:Ga}{q k:Nat}{os:List av}{alD:AL}{σD σD1:aa}{Q Q':AL->aa->List cP->Prop}{t:Nat}{ao:iA}{gd:Option (Nat×Bool)}{d:D}{w:List Nat}
theorem vZ.mono(h:vZ g q k os alD σD Q)(j:∀a s i,Q a s i->Q' a s i):vZ g q k os alD σD Q':=by obtain ⟨u,x,z,A⟩:=h;exact ⟨u,x,z,A.mono j⟩
theorem KK{o:av}(h:uJ g q (o::os)=true):uJ g q os=true:=by simp only[uJ,aU] at h;exact h.2
theorem SV{o:av}(h:uJ g q (o::os)=true)(a:fP g q o=none){t:Nat}(b:o.dst=some t):∀o'∈os,(fP g q o').isSome=true->o'.dst≠some t:=by intro o' f i e;simp only[uJ,a,aU,fJ] at h;have:=h.1;rw[yBY] at this;have:=this o' f;simp[Jg,b,e,i] at this
theorem OI{o:av}{ct:List CT}(h:uJ g q (o::os)=true)(a:fP g q o=some ct){t:Nat}(b:o.dst=some t):∀o'∈os,o'.dst≠some t:=by intro o' f e;simp only[uJ,a,aU,fJ] at h;have:=h.1;rw[yBY] at this;have:=this o' f;simp[Jg,b,e] at this
theorem vZ.op(L:uJ g q (⟨some t,ao,gd⟩::os)=true)(M:fP g q ⟨some t,ao,gd⟩=none)(h:de g.P (xw (A_ g.S)) g.n alD σD ao d σD1 w)(s:Gd alD gd true)(hs:(Nat.blt t g.n&&z_ alD ao&&(k == 0 || ie σD σD1 w))=true)
  (r:vZ g q (k-1) os ((t,d)::alD) σD1 λi σ' u=>Q i σ' (zH ⟨some t,ao,gd⟩ (cat ao) (sR alD ao) w σD.length σD1.length::u)):vZ g q k (⟨some t,ao,gd⟩::os) alD σD Q:=by
 obtain ⟨x,z,A,E⟩:=r;refine ⟨x,z,λG j=>A G λo K=>j o (kE _ K),bj.op ?_ s hs E⟩
 grind [SV]
theorem vZ.Yu(h:de g.P (xw (A_ g.S)) g.n alD σD ao d σD1 w)(s:Gd alD gd true)(hs:(z_ alD ao&&(k == 0 || ie σD σD1 w))=true)
  (r:vZ g q (k-1) os alD σD1 λi σ' u=>Q i σ' (zH ⟨none,ao,gd⟩ (cat ao) (sR alD ao) w σD.length σD1.length::u)):vZ g q k (⟨none,ao,gd⟩::os) alD σD Q:=by
 obtain ⟨x,z,A,E⟩:=r;refine ⟨x,z,λG j=>A G λo K=>j o (kE _ K),bj.Yu (d:=d) ?_ s hs E⟩
 grind [fP]
theorem vZ.no(s:Gd alD gd false)(hs:(Nat.blt t g.n&&z_ alD ao)=true)
  (r:vZ g q (k-1) os ((t,.aB [])::alD) σD λi σ' u=>Q i σ' (zH ⟨some t,ao,gd⟩ 0 (sR alD ao) [] σD.length σD.length::u)):vZ g q k (⟨some t,ao,gd⟩::os) alD σD Q:=by
 obtain ⟨x,z,A,E⟩:=r;exact ⟨x,z,λG j=>A G λo K=>j o (kE _ K),bj.no s hs E⟩
theorem vZ.inl{ct:List CT}{u:FuncId}{ds:List D}{wr:List Nat}(O:pj g.P (xw (A_ g.S)))(K:uJ g q (⟨some t,ao,gd⟩::os)=true)(L:fP g q ⟨some t,ao,gd⟩=some ct)(M:Gd alD gd true)
  (he:aH g.P u=true) (ok:Ok g.P u ds σD d σD1) (U:σD.length<=σD1.length) (W:∀b,b<σD.length->b∉wr->σD1[b]? = σD[b]?)
  (z:∀(orc:qB),orc u ds σD=some (d,σD1,wr)->de g.P orc g.n alD σD ao d σD1 wr) (hs:(Nat.blt t g.n&&z_ alD ao&&(k == 0 || ie σD σD1 wr))=true)
  (r:vZ g q (k-1) os ((t,d)::alD) σD1 λA σ' X=>Q A σ' (zH ⟨some t,ao,gd⟩ (cat ao) (sR alD ao) wr σD.length σD1.length::X)):vZ g q k (⟨some t,ao,gd⟩::os) alD σD Q:=by
 classical
 obtain ⟨x,Z,h2,h3⟩:=r
 let i:qB:=λG s σ'=>if G=u/\s=ds/\σ'=σD then some (d,σD1,wr) else none
 let E:ey:=λj=>if j=some t then i else x j
 refine ⟨E,λj=>?_,λj ad=>?_,bj.op (z _ ?_) M hs (h3.congr λo ho=>?_)⟩
 ·show pj g.P (if j=some t then i else x j);split
  ·intro G s σ' r am af h
   grind
  ·exact Z j
 ·grind
 ·grind
 ·show x o.dst=if o.dst=some t then i else x o.dst;rw[if_neg (OI K L rfl o ho)]
end
theorem TE{g:Ga}{q:Nat}{t:Option Nat}{ao:iA}{gd:Option (Nat×Bool)}(h:mX ao=true):fP g q ⟨t,ao,gd⟩=none:=by grind [fP,mX]
theorem qw(g:Ga)(q:Nat)(O:pj g.P (xw (A_ g.S)))(hI:MT g):∀(fu k:Nat)(os:List av)(kn:Kn)(al:TA)(σ:TH)(K:KS R)(r:R)(alD:AL)(σD:aa),gJ g q fu k os kn al σ K=some r->uJ g q os=true->Ref al σ alD σD->zg al kn->Hy al kn ->
  vZ g q k os alD σD (aA al σ K r):=by
 intro fu;induction fu with
 |zero=>grind [gJ]
 |succ fu ih=>
  intro k os kn al σ K r alD σD h hU j Kn A;cases os with
  |nil=>simp only[gJ] at h;exact ⟨λ_=>xw (A_ g.S),λ_=>O,λt _=>rfl,bj.nil ⟨al,σ,[],j,⟨[],rfl⟩,Ext.refl σ,.nil,h⟩⟩
  |cons o os=>
   simp only[gJ] at h;have L:=KK hU;split at h
   ·simp at h
   rename_i hn;obtain ⟨M,op,gd⟩:=o;have G:=Wb j Kn gd;dsimp only at h hn;have W:∀(e:Bool)(p:Nat),(∃t,AZ p al=some (t,.v (.c (.b e))))->(if e=true then gJ g q fu k (⟨M,op,gd⟩::os) ((p,true)::kn) al σ K else gJ g q fu k (⟨M,op,gd⟩::os) ((p,false)::kn) al σ K)=some r ->
     vZ g q k (⟨M,op,gd⟩::os) alD σD (aA al σ K r):=by
    intro e p ⟨t,ht⟩ h;have add:∀b,e=b->zg al ((p,b)::kn):=λb hb=>Kn.add λt' e' ad=>by simp_all
    split at h
    ·rename_i E;exact ih _ _ _ _ _ _ _ _ _ h hU j (add true E) (A.add (Gj ht))
    ·rename_i E;exact ih _ _ _ _ _ _ _ _ _ h hU j (add false (by simp_all)) (A.add (Gj ht))
   cases hg:tGd al kn gd with
   |bad=>simp_all
   |spl e p=>rw[hg] at h G;exact W e p G h
   |LU t x=>
    rw[hg] at h G;obtain ⟨d,l,z,N⟩:=G;have R1:Ref ((t,.v x)::al) σ alD σD:=⟨j.hh,λs y p hs=>by
     simp only[dt] at hs;split at hs
     ·rename_i hb;have:=bP hb;subst this;simp only[ab,aC] at hs;obtain ⟨rfl,rfl⟩:=hs;exact ⟨d,l,z,N⟩
     ·obtain ⟨d',g1,g2,g3⟩:=j.rg s y p hs;exact ⟨d',g1,g2,g3.mono (Ext.refl σ) [(t,.v x)]⟩⟩
    refine (ih _ _ _ _ _ _ _ alD σD h hU R1 (Kn.cons A) A.cons).mono λa s i T=>?_;obtain ⟨a6,ax,is,a1,⟨pre,rfl⟩,a3,a4,a5⟩:=T;exact ⟨_,ax,is,a1,⟨pre++[(t,.v x)],by simp_all⟩,a3,a4,a5⟩
   |shut=>
    rw[hg] at h G;dsimp only at h G;cases M with
    |none=>simp at h
    |some t=>
     dsimp only at h hn;split at h
     ·simp at h
     rename_i bt;change Nat.blt t g.n=true at hn;have a7:=OV j bt;refine vZ.no G (by simp_all) ?_;refine (ih _ _ _ _ _ _ _ ((t,.aB [])::alD) σD h L (j.set j.hh (Ext.refl σ) (.inr rfl) ?_) (Kn.cons A) A.cons).mono λa s i T=>?_
     ·show D.low _ _=true;rfl
     ·refine T.cons (pre:=[(t,.v (.c (.d (.aB []))))]) rfl j.hh (Ext.refl σ) ?_;rw[j.hh.len];exact ⟨rfl,rfl,rfl,rfl,rfl,.inl rfl⟩
   |sym e p w=>
    rw[hg] at h G;dsimp only at h G;obtain ⟨⟨t0,a0⟩,G1,G2⟩:=G;split at h
    ·rename_i t af;change Nat.blt t g.n=true at hn;split at h
     ·rename_i v U;have bw:okT al op=true:=by
       cases op with
       |load m x=>
        cases x with
        |k d=>rfl
        |t a=>
         simp only[okT];simp only[eo] at U
         grind [zO]
       |_=>rfl
      have a7:=OV j bw;by_cases E:e=w
      ·have hr:ca σ alD (zO al kn (some (p,w))):=jU j Kn λq w' e' t e2 z=>by
        simp_all
       obtain ⟨d,l,z,N⟩:=XF (n:=g.n) hr j.hh af U;obtain ⟨b1,b2⟩:=MZ hr U;refine vZ.op hU (TE af) l (G1 E) (by grind [ie]) ?_;refine (ih _ _ _ _ _ _ _ ((t,d)::alD) σD h L (j.set j.hh (Ext.refl σ) (by simp only[RR,if_pos E];exact z) ⟨⟨t0,ux a0⟩,λ_=>N⟩) (Kn.cons A) A.cons).mono λa s i T=>?_;refine T.cons (pre:=[(t,.g e w p v)]) rfl j.hh (Ext.refl σ) ?_;rw[j.hh.len,b2];exact EJ.refl _
      ·have b0:(!e)=w:=by cases e <;> cases w <;> simp_all
       refine vZ.no (G2 b0) (by simp_all) ?_;refine (ih _ _ _ _ _ _ _ ((t,.aB [])::alD) σD h L (j.set j.hh (Ext.refl σ) (by simp only[RR,if_neg E]) ⟨⟨t0,ux a0⟩,λe'=>absurd e' E⟩) (Kn.cons A) A.cons).mono λa s i T=>?_;refine T.cons (pre:=[(t,.g e w p v)]) rfl j.hh (Ext.refl σ) ?_;rw[j.hh.len];exact ⟨rfl,rfl,rfl,rfl,rfl,.inl rfl⟩
     simp_all
    ·exact W e p ⟨t0,a0⟩ h
   |Lp=>
    rw[hg] at h G;dsimp only at h G;cases Z:fP g q ⟨M,op,gd⟩ with
    |some cs=>
     rw[Z] at h;dsimp only at h;have hr:ca σ alD (zO al kn none):=jU j Kn (by simp);cases op with
     |call f args=>
      dsimp only at h;split at h
      ·rename_i fv vs a8 a9;split at h
       ·rename_i gi a b bc;split at h
        ·rename_i ct b4;obtain ⟨⟨rv,σ1⟩,hy,h⟩:=uU h;obtain ⟨df,f1,f2,f3⟩:=hr _ _ a8;obtain ⟨ds,v1,v2,v3⟩:=hr.all a9;obtain ⟨da,db,a1,b1,ga,gb,a2⟩:=PL (P:=g.P) (n:=g.n) (alD:=alD) (σD:=σD) bc f2 f3;obtain ⟨E,r',X,q1,q2,q3,q4,q5,q6⟩:=hI.two ct gi _ σ rv σ1 σD _ hy j.hh ((a1.PS v2).PS b1) (λv U=>by
           grind)
         cases M with
         |none=>grind [fP]
         |some t=>change Nat.blt t g.n=true at hn;refine vZ.inl (wr:=[]) O hU Z G E q5 (by grind) (λb hb _=>q6 b hb) (λorc ho=>a2 orc _ _ _ _ _ _ f1 v1 ho) (by grind [z_,ie]) ?_;refine (ih _ _ _ _ _ _ _ ((t,r')::alD) X h L (j.set q1 q4 q2 q3) (Kn.cons A) A.cons).mono λa s i T=>?_;refine T.cons (pre:=[(t,.v (tW rv))]) rfl j.hh q4 ?_;rw[j.hh.len,q1.len];exact EJ.refl _
        obtain ⟨y,hy,h⟩:=uU h;obtain ⟨ct,x,bd,h⟩:=Mz h;split at h
        ·rename_i rv σ1 be;split at h
         ·rename_i hk;obtain ⟨df,f1,f2,f3⟩:=hr _ _ a8;obtain ⟨ds,v1,v2,v3⟩:=hr.all a9;obtain ⟨da,db,a1,b1,ga,gb,a2⟩:=PL (P:=g.P) (n:=g.n) (alD:=alD) (σD:=σD) bc f2 f3;obtain ⟨E,r',X,q1,q2,q3,q4,q5,q6,q7⟩:=hI.one _ gi _ σ y ct x rv σ1 σD _ hy bd be j.hh ((a1.PS v2).PS b1) (λv U=>by
           grind)
          cases M with
          |none=>grind [fP]
          |some t=>
           change Nat.blt t g.n=true at hn;have bh:(k == 0 || ie σD X (ct.pl.map PC.blk))=true:=by
            simp only[dQ] at hk ⊢
            grind [Nat.eq_of_beq_eq_true]
           refine vZ.inl O hU Z G E q5 (by rw[j.hh.len,q1.len];exact q4.len) q6 (λorc ho=>a2 orc _ _ _ _ _ _ f1 v1 ho) (by rw[hn,bh];rfl) ?_;refine (ih _ _ _ _ _ _ _ ((t,r')::alD) X h L (j.set q1 q4 q2 q3) (Kn.cons A) A.cons).mono λa s i T=>?_;refine T.cons (pre:=[(t,.v (tW rv))]) rfl j.hh q4 ?_;rw[j.hh.len,q1.len];exact EJ.refl _
         simp_all
        simp_all
       simp_all
      simp_all
     |_=>simp at h
    |none=>
    rw[Z] at h;dsimp only at h;split at h
    ·
     rename_i c x y t;change Nat.blt t g.n=true at hn;split at h
     ·rename_i cv p hc;have b3:=ME hc;obtain ⟨dc,c1,c2,_⟩:=j.rg c _ p hc;change RT cv dc at c2;have fin:∀(v:TV)(d:D),de g.P (xw (A_ g.S)) g.n alD σD (.pick (.t c) x y) d σD []->RT v d->GV σ v->(gJ g q fu (k-1) os kn ((t,.v v)::al) σ λa6 ax is=>K a6 ax (zH ⟨some t,.pick (.t c) x y,gd⟩ (cat (.pick (.t c) x y)) none [] σ.length σ.length::is))=some r ->
        vZ g q k (⟨some t,.pick (.t c) x y,gd⟩::os) alD σD (aA al σ K r):=by
       intro v d l z N h;refine vZ.op hU Z l G (by grind [z_,ie]) ?_;refine (ih _ _ _ _ _ _ _ ((t,d)::alD) σD h L (j.set j.hh (Ext.refl σ) z N) (Kn.cons A) A.cons).mono λa s i T=>?_;refine T.cons (pre:=[(t,.v v)]) rfl j.hh (Ext.refl σ) ?_;rw[j.hh.len];exact EJ.refl _
      generalize hG:gdC kn p cv=GG at h;unfold gdC at hG;split at hG
      ·
       have:=RT.c1 (by simp) c2;subst this;subst hG;dsimp only at h;split at h
       ·rename_i v U;obtain ⟨d,l,z,N⟩:=jU j (Kn.add (p:=p) (b:=true) λt' e' ad=>by simp_all) (by simp) x v U;exact fin v d (ql c1 rfl l) z N h
       simp_all
      ·have:=RT.c1 (by simp) c2;subst this;subst hG;dsimp only at h;split at h
       ·rename_i v U;obtain ⟨d,l,z,N⟩:=jU j (Kn.add (p:=p) (b:=false) λt' e' ad=>by simp_all) (by simp) y v U;exact fin v d (lM c1 rfl l) z N h
       simp_all
      ·rename_i _ e _;have:=RT.c1 (by simp) c2;subst this;cases hk:vB p kn with
       |some b=>
        have hb:=Kn p b hk c e b3;have ak:zg al ((p,b)::kn):=Kn.add λt' e' ad=>by simp_all
        cases b with
        |true=>
         rw[hk] at hG;subst hG;dsimp only at h;split at h
         ·rename_i v U;obtain ⟨d,l,z,N⟩:=jU j ak (by simp) x v U;exact fin v d (ql c1 hb l) z N h
         simp_all
        |false=>
         rw[hk] at hG;subst hG;dsimp only at h;split at h
         ·rename_i v U;obtain ⟨d,l,z,N⟩:=jU j ak (by simp) y v U;exact fin v d (lM c1 hb l) z N h
         simp_all
       |none=>
        rw[hk] at hG;subst hG;dsimp only at h;split at h
        ·rename_i u v hu U;split at h
         ·rename_i bu bv bi bk;have bl:∀w,e=w->∀q w',some (p,w)=some (q,w')->∀t' e',AZ q al=some (t',.v (.c (.b e')))->e'=w':=λw hw q w' e1 t' e' ad=>by
           simp_all
          cases E:e with
          |true=>obtain ⟨d,l,z,N⟩:=jU j Kn (bl true E) x u hu;have hd:=UH (e:=true) bi bk z;subst hd;rw[E] at h;exact fin (Zi true bu bv) _ (ql c1 E l) (BI (σ:=σ) _ _ _).1 (BI _ _ _).2 h
          |false=>obtain ⟨d,l,z,N⟩:=jU j Kn (bl false E) y v U;have hd:=UH (e:=false) bi bk z;subst hd;rw[E] at h;exact fin (Zi false bu bv) _ (lM c1 E l) (BI (σ:=σ) _ _ _).1 (BI _ _ _).2 h
         simp_all
        simp_all
      grind
     simp_all
    ·
     have hr:ca σ alD (zO al kn none):=jU j Kn (by simp);obtain ⟨v,σ1,rs,wr,d,σD1,l,z,N,h4,h5,h6,_,h7⟩:=OL (n:=g.n) hr j.hh h;obtain ⟨b1,b2⟩:=MZ hr h;dsimp only at h7;split at h7
     ·rename_i hk;have bh:(k == 0 || ie σD σD1 wr)=true:=by
       simp only[dQ] at hk ⊢
       grind [Nat.eq_of_beq_eq_true]
      cases M with
      |none=>refine vZ.Yu l G (by simp_all) ?_;refine (ih _ _ _ _ _ _ _ alD σD1 h7 L (j.heap h4 h5) Kn A).mono λa s i T=>?_;refine T.cons (pre:=[]) rfl j.hh h5 ?_;rw[j.hh.len,h4.len,b2];exact EJ.refl _
      |some t=>change Nat.blt t g.n=true at hn;refine vZ.op hU Z l G (by simp_all) ?_;refine (ih _ _ _ _ _ _ _ ((t,d)::alD) σD1 h7 L (j.set h4 h5 z N) (Kn.cons A) A.cons).mono λa s i T=>?_;refine T.cons (pre:=[(t,.v v)]) rfl j.hh h5 ?_;rw[j.hh.len,h4.len,b2];exact EJ.refl _
     simp_all
end
end Go.Abs
end
section
namespace Go.Abs
noncomputable section
variable[Gl][Y:Ty]
structure Rn (m:Nat) (σ1 am:aa) (ρ:Nat->Nat) (F:Nat->Prop):Prop where
 le:m<=am.length
 id:∀i,i<m->ρ i=i
 inj:∀i j,i<am.length->j<am.length->ρ i=ρ j->i=j
 fr:∀i,i<am.length->¬F (ρ i)
 row:∀b,F b->∃(i:Nat)(l:List (TT i)),σ1[b]? = some (OB (enc i) l)
 sz:∀(i:Nat),i<am.length->∃ob1 ob2,σ1[ρ i]? = some ob1/\am[i]? = some ob2/\ob2.sz=ob1.sz
def mN(n:Nat)(ρ:Nat->Nat)(M:Nat->Option Nat):Nat->Option Nat:=λi=>if i<n then M (ρ i) else none
def UX(F:Nat->Prop)(M:Nat->Option Nat)(Fz:Nat->Prop):Nat->Prop:=λc=>Fz c∨∃b,F b/\M b=some c
def b_(σ1 am:aa)(ρ:Nat->Nat)(F:Nat->Prop)(d1 d2:D):Prop:=∀(M:Nat->Option Nat)(a:Nat->Prop)(w:World)(v:Value),Rel σ1 M a w->V σ1 M a w d1 v->V am (mN am.length ρ M) (UX F M a) w d2 v
section
variable{m:Nat}{σ1 am:aa}{ρ:Nat->Nat}{F:Nat->Prop}
theorem VC.UX{M:Nat->Option Nat}{Fz:Nat->Prop}{w:World}{x:C}{v:Value}(h:VC Fz w x v):VC (Go.Abs.UX F M Fz) w x v:=h.mono λc i=>⟨.inl i,rfl⟩
theorem b_.any(d:D):b_ σ1 am ρ F d .any:=λ_ _ _ _ _ _=>.any _
theorem b_.le{d1 d2 i:D}(h:xW d1 d2)(j:b_ σ1 am ρ F d2 i):b_ σ1 am ρ F d1 i:=λM s w v R u=>j M s w v R (h _ _ _ _ _ u)
theorem b_.low(N:Rn m σ1 am ρ F){d:D}(s:d.low m=true):b_ σ1 am ρ F d d:=by
 intro M Fz w v R h;have zt:∀b,b<m->∀z,σ1[b]? = some z->∃j,am[b]? = some j/\j.sz=z.sz:=λb A z Z=>by
  obtain ⟨ad,j,x,u,K⟩:=N.sz b (xD A N.le);rw[N.id b A,Z] at x
  simp_all
 have m2:∀b,b<m->mN am.length ρ M b=M b:=λb A=>by unfold mN;rw[if_pos (xD A N.le),N.id b A]
 induction h with
 |c h=>exact .c h.UX
 |any v=>exact .any v
 |ptr a z h L E=>simp only[D.low,aM] at s;obtain ⟨j,u,K⟩:=zt _ s _ h;exact .ptr a j u (by omega) (λX=>by simp_all)
 |sl a n cap O z h L E=>simp only[D.low,aM] at s;obtain ⟨j,u,K⟩:=zt _ s _ h;exact .sl a n cap O j u (by omega) (λX=>by simp_all)
 |mp c z h E=>simp only[D.low,aM] at s;obtain ⟨j,u,K⟩:=zt _ s _ h;exact .mp c j u (λX=>by simp_all)
 |fn G ws x u E hw U W=>simp only[D.low,aU] at s;exact .fn G ws x u (λi d v a b=>U i d v a b (D.aE s.1 i d a)) (λi d v a b=>W i d v a b (D.aE s.2 i d a))
 |agg G x E ih=>simp only[D.low] at s;exact .agg G x (λi d v a b=>ih i d v a b (D.aE s i d a))
 |aB G x E ih=>simp only[D.low] at s;exact .aB G x (λi d v a b=>ih i d v a b (D.aE s i d a))
theorem b_.data(N:Rn m σ1 am ρ F){d:D}(i:d.low 0=true):b_ σ1 am ρ F d d:=b_.low N (D.cY (JG _) i)
theorem b_.ptr(N:Rn m σ1 am ρ F){i off sz:Nat}(s:i<am.length):b_ σ1 am ρ F (.ptr (ρ i) off sz) (.ptr i off sz):=λM K w v R h=>by
 obtain ⟨u,j,x,z,A⟩:=N.sz i s;cases h with
 |ptr a L h E O=>rw[x] at h;simp only[ab] at h;subst h;exact .ptr a j z (by omega) (λG=>by rw[A] at G;unfold mN;simp_all)
theorem b_.sl(N:Rn m σ1 am ρ F){i off len es sz:Nat}(u:i<am.length):b_ σ1 am ρ F (.sl (ρ i) off len es sz) (.sl i off len es sz):=λM L w v R h=>by
 obtain ⟨x,j,z,A,E⟩:=N.sz i u;cases h with
 |sl a n cap s O h G U=>rw[z] at h;simp only[ab] at h;subst h;exact .sl a n cap s j A (by omega) (λK=>by rw[E] at K;unfold mN;simp_all)
theorem b_.mp(N:Rn m σ1 am ρ F){i:Nat}(s:i<am.length):b_ σ1 am ρ F (.mp (ρ i)) (.mp i):=λM G w v R h=>by
 obtain ⟨u,j,x,z,A⟩:=N.sz i s;cases h with
 |mp c K h L=>rw[x] at h;simp only[ab] at h;subst h;exact .mp c j z (λE=>by rw[A] at E;unfold mN;simp_all)
theorem b_.bG(N:Rn m σ1 am ρ F){b i:Nat}{l:List (TT i)}(hF:F b)(hb:σ1[b]? = some (OB (enc i) l)):b_ σ1 am ρ F (OS (ai i) b l.length) (.c (.bG false (l.map (enc i)))):=λM O w v R h=>by
 classical
 let G:Nat->Option Nat:=λb=>if F b then M b else none
 have RF:Rel σ1 G O w:=by
  refine ⟨λb c s=>?_,λb U c s u=>?_,R.fz,R.gl⟩
  ·simp only[G] at s;split at s
   ·rename_i W;obtain ⟨K,X,o,E,Z,h4⟩:=R.blk b c s;refine ⟨K,X,o,E,Z,?_⟩;obtain ⟨i',l',h5⟩:=N.row b W;rw[E] at h5;simp only[ab] at h5;subst h5;obtain ⟨z,T,ho,A,L⟩:=h4;refine ⟨z,T,ho,A,λj d v a b=>?_⟩;obtain ⟨h6,h7⟩:=L j d v a b;rw[gT,bq] at a;obtain ⟨x,_,rfl⟩:=a;cases h6 with
    |c h6=>exact ⟨.c h6,h7⟩
   simp_all
  ·simp only[G] at s u;split at s
   ·split at u
    ·exact R.inj b U c s u
    simp_all
   simp_all
 have L:V σ1 G O w (OS (ai i) b l.length) v:=by
  cases h with
  |sl a n cap ad X h A L=>
   refine .sl a n cap ad X h A λhe=>?_;rcases L he with K | ⟨c,o,z,T,K,E⟩
   ·simp_all
   ·exact .inr ⟨c,o,z,T,by grind,E⟩
 have K:=zh (k:=98) (n:=l.length) (nh i) (Y.ps i) hb rfl;have E:=CD RF 100 _ _ v K L;have Z:VC (UX F M O) w (.bG (Nat.blt 0 l.length) (l.map (enc i))) v:=E.mono λc s=>by
  refine ⟨?_,rfl⟩;rcases s with s | ⟨U,_,s⟩
  ·exact .inl s
  ·simp only[G] at s;split at s
   ·rename_i hf;exact .inr ⟨U,hf,s⟩
   simp_all
 have:=Bu Z;exact .c this
theorem b_.fn1{f:Fn}{d e:D}(h:b_ σ1 am ρ F d e):b_ σ1 am ρ F (.fn f [] [d]) (.fn f [] [e]):=λM s w v R j=>by
 cases j with
 |fn u x z A j E=>
  refine .fn u x z (by simpa using A) (λi d v hd=>by simp at hd) (λi G v hd j=>?_);cases i with
  |zero=>simp only[List.getElem?_cons_zero,ab] at hd;subst hd;exact h M s w v R (E 0 _ v rfl j)
  |succ i=>simp at hd
theorem b_.agg{ds es:List D}(h:ar (b_ σ1 am ρ F) ds es):b_ σ1 am ρ F (.agg ds) (.agg es):=λM s w v R j=>by
 cases j with
 |agg u x j=>refine .agg u (by rw[x,h.len]) λi d v a b=>?_;obtain ⟨z,A,E⟩:=h.get' i d a;exact E M s w v R (j i z v A b)
theorem b_.aB{ds es:List D}(h:ar (b_ σ1 am ρ F) ds es):b_ σ1 am ρ F (.aB ds) (.aB es):=λM s w v R j=>by
 cases j with
 |aB u x j=>refine .aB u (by rw[x,h.len]) λi d v a b=>?_;obtain ⟨z,A,E⟩:=h.get' i d a;exact E M s w v R (j i z v A b)
def ObR(σ1 am:aa)(ρ:Nat->Nat)(F:Nat->Prop):Ob->Ob->Prop
 |.cells ds,ob=>∃a,ob=.cells a/\ar (b_ σ1 am ρ F) ds a
 |.map a k,ob=>ob=.map a k/\(a.all λe=>e.2.1.low 0)=true
 |.gone k,ob=>False
structure IS (m:Nat) (σ1 am:aa) (ρ:Nat->Nat) (F:Nat->Prop):Prop extends Rn m σ1 am ρ F where
 ob:∀(i:Nat),i<am.length->∃ob1 ob2,σ1[ρ i]? = some ob1/\am[i]? = some ob2/\ObR σ1 am ρ F ob1 ob2
theorem IS.rel(N:IS m σ1 am ρ F){M:Nat->Option Nat}{Fz:Nat->Prop}{w:World}(R:Rel σ1 M Fz w):Rel am (mN am.length ρ M) (UX F M Fz) w:=by
 refine ⟨λb c j=>?_,λb b' c j s=>?_,λc u=>?_,Gl.mono (λc h=>⟨.inl h,rfl⟩) R.gl⟩
 ·unfold mN at j;split at j
  ·rename_i A;obtain ⟨h1,ob,o,K,h3,h4⟩:=R.blk _ c j;obtain ⟨ak,L,O,h6,U⟩:=N.ob b A;rw[K] at O;simp only[ab] at O;subst O;refine ⟨λE=>?_,L,o,h6,h3,?_⟩
   ·rcases E with E | ⟨b',E,u⟩
    ·simp_all
    ·rw[R.inj _ _ c u j] at E;exact N.fr b A E
   ·cases ob with
    |cells cs=>obtain ⟨z,T,W,G,X⟩:=h4;obtain ⟨es,rfl,ha⟩:=U;refine ⟨z,T,W,by grind [ar.len],λi d v x y=>?_⟩;obtain ⟨d1,h8,h9⟩:=ha.get' i d x;obtain ⟨Z,ad⟩:=X i d1 v h8 y;exact ⟨h9 M Fz w v R Z,ad⟩
    |map es af=>obtain ⟨z,W,G,X⟩:=h4;obtain ⟨rfl,hl⟩:=U;refine ⟨z,W,G,λi k d n e x y=>?_⟩;obtain ⟨p,q,r⟩:=X i k d n e x y;rw[eG] at hl;exact ⟨p,q,b_.data N.toRn (hl (k,d,n) (sT x)) M Fz w _ R r⟩
    |gone n=>exact U.elim
  simp_all
 ·unfold mN at j s;split at j
  ·rename_i h1;split at s
   ·rename_i K;exact N.inj b b' h1 K (R.inj _ _ c j s)
   simp_all
  simp_all
 ·rcases u with u | ⟨b,_,u⟩
  ·exact R.fz c u
  ·exact (R.lt u).2
theorem IS.Rj(N:IS m σ1 am ρ F){σ:aa}(hm:σ.length<=m){M s:Nat->Option Nat}{Fz j:Nat->Prop}{w u:World}(X:∀b,F b->m<=b)(R:Rel σ M Fz w)(Z:Rel σ1 s j u)(E:aW σ M Fz w σ1 s j u) :
  aW σ M Fz w am (mN am.length ρ s) (UX F s j) u:=by
 refine ⟨E.size,E.frame,λb c h=>?_,λc h=>⟨.inl (E.fz c h).1,(E.fz c h).2⟩,λc h=>?_,E.lm,λb G A=>?_,E.out⟩
 ·unfold mN at h;split at h
  ·exact E.hY _ c h
  simp_all
 ·rcases h with h | ⟨b,_,h⟩
  ·exact E.jj c h
  ·rcases E.hY b c h with K | K
   ·simp_all
   omega
 ·obtain ⟨L,O,h2,h3⟩:=E.bX b G A;have i:b<m:=xD (dT.1 A).1 hm;obtain ⟨U,x,z,W,h6⟩:=N.sz b (xD i N.le);rw[N.id b i,O] at z;simp only[ab] at z;subst z;refine ⟨x,W,by omega,λhe=>?_⟩;unfold mN;rw[if_pos (xD i N.le),N.id b i]
  simp_all
end
end
end Go.Abs
end
section
namespace Go.Abs
noncomputable section
variable[Gl][Y:Ty]
def SzC(m:Nat)(σ1 am:aa):Prop:=∀b,b<m->∀e,σ1[b]? = some e->∃a,am[b]? = some a/\a.sz=e.sz
def ic(m:Nat)(d1 d2:D):Prop:=∀(σ1 am:aa)(M:Nat->Option Nat)(a:Nat->Prop)(w:World)(v:Value),SzC m σ1 am->V σ1 M a w d1 v->V am (bN M m) a w d2 v
theorem ic.any(m:Nat)(d:D):ic m d .any:=λ_ _ _ _ _ _ _ _=>.any _
theorem ic.low{m:Nat}{d:D}(j:d.low m=true):ic m d d:=by
 intro σ1 am M Z w v hs h;induction h with
 |c h=>exact .c h
 |any v=>exact .any v
 |ptr a W h G x=>simp only[D.low,aM] at j;obtain ⟨s,u,K⟩:=hs _ j _ h;exact .ptr a s u (by omega) (λE=>by grind [bN])
 |sl a n cap L W h G x=>simp only[D.low,aM] at j;obtain ⟨s,u,K⟩:=hs _ j _ h;exact .sl a n cap L s u (by omega) (λE=>by rw[K] at E;simpa[bN,j] using x E)
 |mp c W h x=>simp only[D.low,aM] at j;obtain ⟨s,u,K⟩:=hs _ j _ h;exact .mp c s u (λE=>by grind [bN])
 |fn z X A u x hw O U=>simp only[D.low,aU] at j;exact .fn z X A u (λi d v a b=>O i d v a b (D.aE j.1 i d a)) (λi d v a b=>U i d v a b (D.aE j.2 i d a))
 |agg z A x ih=>simp only[D.low] at j;exact .agg z A (λi d v a b=>ih i d v a b (D.aE j i d a))
 |aB z A x ih=>simp only[D.low] at j;exact .aB z A (λi d v a b=>ih i d v a b (D.aE j i d a))
theorem ic.le{m:Nat}{d1 d2 i:D}(h:xW d1 d2)(s:ic m d2 i):ic m d1 i:=λσ1 am M j w v hs u=>s σ1 am M j w v hs (h σ1 M j w v u)
theorem ic.agg{m:Nat}{ds es:List D}(h:ar (ic m) ds es):ic m (.agg ds) (.agg es):=λσ1 am M s w v hs j=>by
 cases j with
 |agg u x j=>refine .agg u (by rw[x,h.len]) λi d v a b=>?_;obtain ⟨z,A,E⟩:=h.get' i d a;exact E σ1 am M s w v hs (j i z v A b)
theorem ic.aB{m:Nat}{ds es:List D}(h:ar (ic m) ds es):ic m (.aB ds) (.aB es):=λσ1 am M s w v hs j=>by
 cases j with
 |aB u x j=>refine .aB u (by rw[x,h.len]) λi d v a b=>?_;obtain ⟨z,A,E⟩:=h.get' i d a;exact E σ1 am M s w v hs (j i z v A b)
def QB(m:Nat):Ob->Ob->Prop
 |.cells ds,ob=>∃a,ob=.cells a/\ar (ic m) ds a
 |.map a k,ob=>ob=.map a k/\(a.all λe=>e.2.1.low m)=true
 |.gone k,ob=>ob=.gone k
theorem QB.sz{m:Nat}{a b:Ob}(h:QB m a b):b.sz=a.sz:=by
 cases a with
 |cells ds=>obtain ⟨i,rfl,h⟩:=h;simp only[Ob.sz,h.len]
 |map i k=>obtain ⟨rfl,_⟩:=h;rfl
 |gone k=>cases h;rfl
structure VT (m:Nat) (σ1 am:aa):Prop where
 len:am.length=m
 le:m<=σ1.length
 ob:∀b ob,σ1[b]? = some ob->b<m->∃ob2,am[b]? = some ob2/\QB m ob ob2
theorem VT.szc{m:Nat}{σ1 am:aa}(h:VT m σ1 am):SzC m σ1 am:=λb j s u=>let ⟨i,h1,h2⟩:=h.ob b s u j;⟨i,h1,h2.sz⟩
theorem VT.rel{m:Nat}{σ1 am:aa}(h:VT m σ1 am){M:Nat->Option Nat}{Fz:Nat->Prop}{w:World}(R:Rel σ1 M Fz w):Rel am (bN M m) Fz w:=by
 refine ⟨λb c j=>?_,λb b' c j s=>?_,R.fz,R.gl⟩
 ·unfold bN at j;split at j
  ·rename_i A;obtain ⟨h1,W,o,h2,h3,E⟩:=R.blk b c j;obtain ⟨G,h5,X⟩:=h.ob b W h2 A;refine ⟨h1,G,o,h5,h3,?_⟩;cases W with
   |cells cs=>obtain ⟨u,T,K,z,L⟩:=E;obtain ⟨es,rfl,ha⟩:=X;refine ⟨u,T,K,by grind [ar.len],λi d v x y=>?_⟩;obtain ⟨d1,h7,h8⟩:=ha.get' i d x;obtain ⟨h9,O⟩:=L i d1 v h7 y;exact ⟨h8 σ1 am M Fz w v h.szc h9,O⟩
   |map es U=>obtain ⟨u,K,z,L⟩:=E;obtain ⟨rfl,Z⟩:=X;refine ⟨u,K,z,λi k d n e x y=>?_⟩;obtain ⟨p,q,r⟩:=L i k d n e x y;rw[eG] at Z;exact ⟨p,q,ic.low (Z (k,d,n) (sT x)) σ1 am M Fz w _ h.szc r⟩
   |gone n=>exact E.elim
  simp_all
 ·unfold bN at j s;split at j
  ·split at s
   ·exact R.inj b b' c j s
   simp_all
  simp_all
theorem VT.Rj{m:Nat}{σ1 am σ:aa}(h:VT m σ1 am){M x:Nat->Option Nat}{Fz i:Nat->Prop}{w z:World}(E:aW σ M Fz w σ1 x i z)(hm:σ.length<=m):aW σ M Fz w am (bN x m) i z:=by
 refine ⟨E.size,E.frame,λb c h=>?_,E.fz,E.jj,E.lm,λb G A=>?_,E.out⟩
 ·unfold bN at h;split at h
  ·exact E.hY b c h
  simp_all
 ·obtain ⟨s,K,O,U⟩:=E.bX b G A;have j:b<m:=xD (dT.1 A).1 hm;obtain ⟨u,L,W⟩:=h.ob b s K j;exact ⟨u,L,by grind [QB.sz],λX=>by simp only[bN,if_pos j];grind [QB.sz]⟩
structure WX (m:Nat) (al1:AL) (σ1:aa) (al2:AL) (am:aa):Prop where
 hp:VT m σ1 am
 rg:∀t d2,lk t al2=some d2->∃d1,lk t al1=some d1/\ic m d1 d2
def lZ(m:Nat)(al1:AL)(σ1:aa)(al2:AL)(am:aa):Prop:=m<=am.length/\∀(n:Nat)(h:Nat->Option Nat)(a:Nat->Prop)(f:World)(e:Array Value),Rel σ1 h a f->dq n σ1 h a f al1 e ->
 ∃i b,Rel am i b f/\dq n am i b f al2 e/\Bp h a i b/\∀(σ:aa)(M:Nat->Option Nat)(j:Nat->Prop)(w:World),Rel σ M j w->aW σ M j w σ1 h a f->σ.length<=m->aW σ M j w am i b f
section
variable{P:Program}{n:Nat}{al al1 al2:AL}{σ σ1 am:aa}{Q Q':jr->AL->aa->Prop}
theorem WX.st{m:Nat}(h:WX m al1 σ1 al2 am):lZ m al1 σ1 al2 am:=⟨by rw[h.hp.len];omega,λn s i U j R A=>by
 refine ⟨bN s m,i,h.hp.rel R,⟨A.1,λt d u=>?_⟩,⟨λb c h=>⟨b,by simp only[bN] at h;split at h <;> simp_all⟩,λc h=>.inl h,λc h=>h⟩,λσ M W w _ E x=>h.hp.Rj E x⟩
 obtain ⟨z,G,K⟩:=h.rg t d u;obtain ⟨v,L,O⟩:=A.2 t z G;exact ⟨v,L,K _ _ _ _ _ _ h.hp.szc O⟩⟩
theorem lZ.refl{m:Nat}(h:m<=σ.length):lZ m al σ al σ:=⟨h,λn s i u j R A=>⟨s,i,R,A,Bp.refl,λσ M x w _ E _=>E⟩⟩
theorem lZ.trans{m:Nat}{j:AL}{s:aa}(h:lZ m al1 σ1 al2 am)(x:lZ m al2 am j s):lZ m al1 σ1 j s:=⟨x.1,λn E u z i R A=>by
 obtain ⟨G,K,L,M,O,E2⟩:=h.2 n E u z i R A;obtain ⟨U,W,X,Z,W3,E3⟩:=x.2 n G K z i L M;refine ⟨U,W,X,Z,O.trans W3,?_⟩
 grind⟩
theorem lZ.rn{m:Nat}{ρ:Nat->Nat}{F:Nat->Prop}(N:IS m σ1 am ρ F)(j:∀b,F b->m<=b)(h:∀t d2,lk t al2=some d2->∃d1,lk t al1=some d1/\b_ σ1 am ρ F d1 d2):lZ m al1 σ1 al2 am:=⟨N.le,λn U s W i R A=>by
 refine ⟨_,_,N.rel R,⟨A.1,λt d u=>?_⟩,⟨λb c h=>⟨ρ b,by unfold mN at h;split at h <;> simp_all⟩,λc h=>h.elim .inl λ⟨b,_,h⟩=>.inr ⟨b,h⟩,λc h=>.inl h⟩,λσ M X w x E z=>N.Rj z j x R E⟩
 obtain ⟨d1,G,K⟩:=h t d u;obtain ⟨v,L,O⟩:=A.2 t d1 G;exact ⟨v,L,K _ _ _ _ R O⟩⟩
theorem lZ.use{m:Nat}(h:lZ m al1 σ1 al2 am){M z:Nat->Option Nat}{Fz i:Nat->Prop}{w u:World}{j:Array Value}(G:Rel σ M Fz w)(R:Rel σ1 z i u)(A:dq n σ1 z i u al1 j)(E:aW σ M Fz w σ1 z i u)(hm:σ.length<=m) :
  ∃x s,Rel am x s u/\dq n am x s u al2 j/\aW σ M Fz w am x s u/\σ.length<=am.length/\Bp z i x s:=by
 obtain ⟨x,K,L,O,U,W⟩:=h.2 n z i u j R A;exact ⟨x,K,L,O,W σ M Fz w G E hm,jI hm h.1,U⟩
theorem Sem.cT{ac:az}(h:Sem P ac n al σ Q)(s:∀x i σ',Q x i σ'->Q' x i σ'∨∃al2 am,lZ σ.length i σ' al2 am/\Q' x al2 am):Sem P ac n al σ Q':=by
 intro c u M z w a K R A Z;refine h c u M z w a K R A λx i σ' a' w' M' E G hd L O U hl=>?_;rcases s x i σ' G with j | ⟨al2,am,W,j⟩
 ·grind
 ·obtain ⟨M2,F2,R2,A2,E2,l2,X⟩:=W.use R L O U (bQ _);have:=hd.Sp X
  grind
theorem Sem.gR{a b:az}(h:Sem P a n al σ λx al1 σ1=>match x with | .normal=>Sem P b n al1 σ1 Q∨∃al2 am,lZ σ.length al1 σ1 al2 am/\Sem P b n al2 am Q | x=>Q x al1 σ1):Sem P (.seq a b) n al σ Q:=by
 refine Sem.seq (h.cT (Q':=λx al1 σ1=>match x with | .normal=>∃al2 am,Wk σ.length al1 σ1 al2 am/\Sem P b n al2 am Q | x=>Q x al1 σ1) λx s u j=>?_);cases x with
 |normal=>
  rcases j with j | ⟨al2,am,z,j⟩
  ·exact .inl ⟨s,u,.refl,j⟩
  ·exact .inr ⟨al2,am,z,al2,am,.refl,j⟩
 |exit i=>simp_all
 |ret=>simp_all
theorem iU.Xw{ac:az}{k:Nat}(hs:lZ σ.length al σ al2 am)(h:iU P ac k n al2 am Q):iU P ac k n al σ Q:=by intro c z M Fz w a K R A E;obtain ⟨G,L,O,U,W,u,W2⟩:=hs.use R R A (aW.refl R) (bQ _);exact h c z G L w a K O U λx i j X Z M' s hQ hd R' A' E' hl=>E x i j X Z M' s hQ hd R' A' (W.trans E' u) (jI u hl)
theorem iU.succW{b:az}{k:Nat}(h:Sem P b n al σ λx al1 σ1=>match x with | .normal=>∃al2 am,lZ σ.length al1 σ1 al2 am/\iU P b k n al2 am Q | x=>Q x al1 σ1):iU P b (k+1) n al σ Q:=by
 refine iU.succ (h.cT (Q':=λx al1 σ1=>match x with | .normal=>∃al2 am,Wk σ.length al1 σ1 al2 am/\iU P b k n al2 am Q | x=>∃al2 am,Wk σ.length al1 σ1 al2 am/\Q x al2 am) λx j s u=>?_);cases x with
 |normal=>obtain ⟨al2,am,z,u⟩:=u;exact .inr ⟨al2,am,z,al2,am,.refl,u⟩
 |exit i=>exact .inl ⟨j,s,.refl,u⟩
 |ret=>exact .inl ⟨j,s,.refl,u⟩
end
section
theorem Ps{σ:TH}{x:TC}{d:D}(r:RC x d)(g:GC σ x):ic σ.length d x.er:=by
 rcases r with rfl | rfl
 ·exact ic.any _ _
 ·cases x with
  |any=>exact ic.any _ _
  |d y=>exact ic.low g
  |own i b v n=>obtain ⟨blk,h,_⟩:=g;exact ic.low (by simp only[TC.er,OS,D.low,aM];grind)
  |op i b v n k a off=>obtain ⟨blk,h,_⟩:=g;exact ic.low (by simp only[TC.er,D.low,aM];grind)
  |os i b v n e len=>obtain ⟨blk,h,_⟩:=g;exact ic.low (by simp only[TC.er,D.low,aM];grind)
  |ap b off len sz k=>exact ic.low (by simp only[TC.er,D.low,aM];exact g)
  |zq f j=>exact ic.low (uH g)
  |_=>exact ic.low rfl
theorem Of{σ:TH}{x:TC}{d:D}(r:RC x d)(g:GC σ x):∃d2,ic σ.length d d2/\RC x d2:=⟨_,Ps r g,.inr rfl⟩
theorem MO{σ:TH}{xs:List TC}{ds:List D}(r:ar RC xs ds)(g:∀x∈xs,GC σ x):∃es,ar (ic σ.length) ds es/\ar RC xs es:=by
 induction r with
 |nil=>exact ⟨[],.nil,.nil⟩
 |cons h _ ih=>obtain ⟨e,a,b⟩:=Of h (g _ (li ..));obtain ⟨es,f,i⟩:=ih λx j=>g x (kE _ j);exact ⟨e::es,.cons a f,.cons b i⟩
theorem Zv{σ:TH}{p:Bool×List TC}{d:D}(r:RE p d)(g:∀x∈p.2,GC σ x):∃d2,ic σ.length d d2/\RE p d2:=by
 obtain ⟨f,j⟩:=p;cases f with
 |true=>obtain ⟨ds,rfl,h⟩:=r;obtain ⟨i,a,b⟩:=MO h g;exact ⟨.agg i,ic.agg a,i,rfl,b⟩
 |false=>obtain ⟨x,rfl,h⟩:=r;obtain ⟨e,a,b⟩:=Of h (g x (by simp));exact ⟨e,a,x,rfl,b⟩
theorem UP{σ:TH}{x:TV}{d:D}(r:RT x d)(g:GV σ x):∃d2,ic σ.length d d2/\RT x d2:=by
 cases x with
 |c x=>exact Of r g
 |agg i=>obtain ⟨ds,rfl,h⟩:=r;obtain ⟨a,b,f⟩:=MO h g;exact ⟨.agg a,ic.agg b,a,rfl,f⟩
 |aB i=>
  obtain ⟨ds,rfl,h⟩:=r;have:∃a,ar (ic σ.length) ds a/\ar RE i a:=by
   induction h with
   |nil=>exact ⟨[],.nil,.nil⟩
   |cons h _ ih=>obtain ⟨e,b,f⟩:=Zv h (g _ (li ..));obtain ⟨a,j,l⟩:=ih λx p=>g x (kE _ p);exact ⟨e::a,.cons b j,.cons f l⟩
  obtain ⟨a,b,f⟩:=this;exact ⟨.aB a,ic.aB b,a,rfl,f⟩
theorem UW{al:TA}{σ:TH}{x:RV}{d:D}(r:RR x d)(g:GW al σ x):∃d2,ic σ.length d d2/\RR x d2:=by
 cases x with
 |v x=>exact UP r g
 |g c w p x=>
  by_cases h:c=w
  ·simp only[RR,if_pos h] at r ⊢;exact UP r (g.2 h)
  ·simp only[RR,if_neg h] at r ⊢;subst r;exact ⟨.aB [],ic.low rfl,rfl⟩
theorem VI{m:Nat}{c:bT}{v:TV}{d:D}{a:c.dn}(h:mc c v=some a)(r:RT v d):ic m d (c.enc a):=by obtain ⟨b,f,_⟩:=GQ h r;refine ic.le (d2:=wy d) (λσ M i w v e=>yP e) ?_;rw[b];exact ic.low (D.cY (JG _) (c.De a))
theorem Wp{m:Nat}{c:CC}{x:TC}{d:D}{a:c.dn}(h:xj c x=some a)(r:RC x d):ic m d (.c (nB enc c a)):=by
 obtain ⟨f,b⟩:=lw h;rcases r with r | rfl
 ·simp_all
 ·rw[<-b];refine ic.le (d2:=qM x.er) (λσ M i w v e=>Cw e) ?_;rw[b];exact ic.low rfl
theorem wk{α:Type}{p:Nat->α->Prop}(m:Nat)(h:∀b,b<m->∃a,p b a):∃l:List α,l.length=m/\∀b a,l[b]? = some a->p b a:=by
 induction m with
 |zero=>simp_all
 |succ m ih=>
  obtain ⟨l,e,f⟩:=ih λb i=>h b (by omega);obtain ⟨a,j⟩:=h m (by omega);refine ⟨l++[a],by simp[e],λb x s=>?_⟩
  grind
theorem CY{t:Nat}:∀{al:TA}{f:Nat->D},(∃x p,dt t al=some (x,p))->lk t (al.map λp=>(p.1,f p.1))=some (f t):=by
 intro al f;induction al with
 |nil=>grind [dt]
 |cons y al ih=>grind [dt,lk,Nat.eq_of_beq_eq_true]
theorem xy{t:Nat}{d:D}:∀{al:TA}{f:Nat->D},lk t (al.map λp=>(p.1,f p.1))=some d->(∃x p,dt t al=some (x,p))/\d=f t:=by
 intro al f;induction al with
 |nil=>grind [lk]
 |cons y al ih=>
  intro h;obtain ⟨s,z⟩:=y;simp only[mb,lk] at h;simp only[dt];split at h
  ·simp_all
  simp_all
theorem VJ{al2:TA}{am:TH}{a:AL}{σD1:aa}(u:am.length<=σD1.length)
  (z:∀t x p,dt t al2=some (x,p)->GW al2 am x/\∃d1 d2,lk t a=some d1/\ic am.length d1 d2/\RR x d2)
  (G:∀(b:Nat) blk,am[b]? = some blk->∃i j,σD1[b]? = some i/\QB am.length i j/\RB blk j)
  (K:∀(b:Nat) w cs,am[b]? = some (.cells w cs)->∀p∈cs,GC am p.2/\p.1<=w) :
  ∃l e,lZ am.length a σD1 l e/\Ref al2 am l e:=by
 have v:∃f:Nat->D,∀t x p,dt t al2=some (x,p)->∃d1,lk t a=some d1/\ic am.length d1 (f t)/\RR x (f t):=by
  have:∀t,∃d2,∀x p,dt t al2=some (x,p)->∃d1,lk t a=some d1/\ic am.length d1 d2/\RR x d2:=by
   intro t;cases L:dt t al2 with
   |none=>simp_all
   |some q=>obtain ⟨x,p⟩:=q;obtain ⟨_,d1,d2,T,M,y⟩:=z t x p L;exact ⟨d2,λU W h=>by simp_all⟩
  exact ⟨λt=>Classical.choose (this t),λt=>yBG (this t)⟩
 obtain ⟨f,v⟩:=v;obtain ⟨e,A,M⟩:=wk (p:=λb j=>∃blk i,am[b]? = some blk/\σD1[b]? = some i/\QB am.length i j/\RB blk j) am.length λb s=>by
  obtain ⟨i,j,y,N,E⟩:=G b _ (cE s)
  grind
 refine ⟨al2.map λp=>(p.1,f p.1),e,WX.st ⟨⟨A,u,λb X Z O=>?_⟩,λt d h=>?_⟩,⟨⟨by rw[A],λb blk s=>?_,K⟩,λt x p h=>?_⟩⟩
 ·grind
 ·obtain ⟨⟨x,p,y⟩,rfl⟩:=xy h
  grind
 ·grind
 ·obtain ⟨d1,y,N,E⟩:=v t x p h;exact ⟨f t,CY ⟨x,p,h⟩,E,(z t x p h).1⟩
end
end
end Go.Abs
end
section
namespace Go.Abs
noncomputable section
variable[Gl][Y:Ty]
def RP(pl:List Pl)(b j:Nat):Prop:=∀c,Pl.h b j c∉pl
def Ul(pl:List Pl)(b:Nat):Prop:=∀i,Pl.w b i∉pl
def notM(pl:List Pl)(b:Nat):Prop:=∀j st,Pl.m b j st∉pl
def SB(pl:List Pl)(b:Nat):TB->TB->Prop
 |.cells w x,a=>∃w1 e,a=.cells w1 e/\e.length=x.length/\∀(j:Nat) p p1,x[j]? = some p->e[j]? = some p1->RP pl b j->p1=p
 |.row i l y z,a=>∃s f h,a=.row i s f h/\(Ul pl b->s=l/\f=y/\h=z)
 |.mp j st l v,a=>∃A u s E,a=.mp A u s E/\(notM pl b->a=.mp j st l v)
def HS(pl:List Pl)(σ σ1:TH):Prop:=∀(b:Nat) blk,σ[b]? = some blk->∃a,σ1[b]? = some a/\SB pl b blk a
theorem SB.trans{pl:List Pl}{b:Nat}{x y z:TB}(u:SB pl b x y)(A:SB pl b y z):SB pl b x z:=by
 cases x with
 |cells w cs=>
  obtain ⟨w1,W,rfl,M,c1⟩:=u;obtain ⟨w2,E,rfl,s,O⟩:=A;refine ⟨w2,E,rfl,by omega,λj p p2 e e2 U=>?_⟩
  grind
 |row i l lv cv=>
  obtain ⟨M,X,Z,rfl,c1⟩:=u;obtain ⟨s,G,K,rfl,O⟩:=A;refine ⟨s,G,K,rfl,λU=>?_⟩
  simp_all
 |mp j st l v=>
  obtain ⟨j1,ad,M,v1,rfl,c1⟩:=u;obtain ⟨j2,L,s,v2,rfl,O⟩:=A;refine ⟨j2,L,s,v2,rfl,λU=>?_⟩
  grind
theorem HS.trans{pl:List Pl}{σ σ1 am:TH}(s:HS pl σ σ1)(u:HS pl σ1 am):HS pl σ am:=λb blk h=>by obtain ⟨i,x,s1⟩:=s b blk h;obtain ⟨j,z,A⟩:=u b i x;exact ⟨j,z,s1.trans A⟩
theorem CL{f:Pl->Bool}{pl:List Pl}(h:pl.any f=true):∃p∈pl,f p=true:=by simp_all
theorem BW{pl:List Pl}{b:Nat}:∀{xs a:List (Nat×TC)}{f:Nat},iZ pl b f xs a=true->xs.length=a.length/\∀(j:Nat) p q,xs[j]? = some p->a[j]? = some q->RP pl b (f+j)->p.1=q.1:=by
 intro xs;induction xs with
 |nil=>
  intro a f h;cases a with
  |nil=>simp_all
  |cons y a=>grind [iZ]
 |cons x xs ih=>
  intro a f h;cases a with
  |nil=>grind [iZ]
  |cons y a=>
   obtain ⟨v,x⟩:=x;obtain ⟨w,y⟩:=y;simp only[iZ,aU,dQ] at h;obtain ⟨i,u⟩:=h;obtain ⟨z,L⟩:=ih u;refine ⟨by simp[z],λj p q e s A=>?_⟩;cases j with
   |zero=>
    simp only[List.getElem?_cons_zero,ab] at e s;subst e s;rcases i with i | i
    ·simp_all
    ·obtain ⟨p,E,l⟩:=CL i;exfalso;split at l
     ·rename_i M N c;simp only[aU] at l;have G:=bP l.1;have K:=bP l.2;subst G K;exact A c E
     grind
   |succ j=>grind
theorem vW{pl:List Pl}:∀{σ σ1:TH}{e:Nat},cW pl e σ σ1=true->∀(b:Nat) blk,σ[b]? = some blk->∃a,σ1[b]? = some a/\tN pl (e+b) blk a=true:=by
 intro σ;induction σ with
 |nil=>simp_all
 |cons x σ ih=>
  intro σ1 e h b blk f;cases σ1 with
  |nil=>grind [cW]
  |cons y σ1=>
   simp only[cW,aU] at h
   grind
theorem PN{pl:List Pl}{σ σ1:TH}{σD:aa}(H:RH σ σD)(h:cW pl 0 σ σ1=true)(X:Ext σ σ1):HS pl σ σ1:=λb blk z=>by
 obtain ⟨f,U,a⟩:=vW h b blk z;rw[Dn] at a;obtain ⟨A,E,G⟩:=X b blk z;rw[U] at E;simp only[ab] at E;subst E;refine ⟨f,U,?_⟩;cases blk with
 |cells w Z=>
  obtain ⟨w1,K,rfl,hw,hl,hc⟩:=G;simp only[tN] at a;obtain ⟨_,h5⟩:=BW a;refine ⟨w1,K,rfl,hl,λj p p1 e s y=>?_⟩;have hv:=h5 j p p1 e s (by simp_all);obtain ⟨v,x⟩:=p;obtain ⟨W,x1⟩:=p1;have ad:=(H.hg b w Z z _ (sT e)).2
  grind
 |row i l lv cv=>
  obtain ⟨L,M,N,rfl,_,_,_,h8⟩:=G;refine ⟨L,M,N,rfl,λy=>?_⟩;simp only[tN,dQ] at a;rcases a with a | a
  ·simp_all
  ·obtain ⟨p,O,u⟩:=CL a;exfalso;split at u
   ·have s:=bP u;subst s;exact y _ O
   simp_all
 |mp j st l v=>
  obtain ⟨j1,T,L,W,rfl,_,h8⟩:=G;refine ⟨j1,T,L,W,rfl,λy=>?_⟩;simp only[tN,dQ] at a;rcases a with a | a
  ·simp_all
  ·obtain ⟨p,O,u⟩:=CL a;exfalso;split at u
   ·have s:=bP u;subst s;exact y _ _ O
   simp_all
def PB(al1:TA)(σ1:TH)(ps:List Pl)(b:Nat):TB->TB->Prop
 |.cells w E,e=>∃w2 f,e=.cells w2 f/\f.length=E.length/\∀(j:Nat) x,f[j]? = some x->x.1<=w2/\((∃c a,x.2=oq c a/\Mj al1 σ1 (.h b j c)=some a/\Pl.h b j c∈ps)∨(E[j]? = some x/\RP ps b j))
 |.row i l K L,e=>∃h p s,e=.row i h p s/\(((∃y z,σ1[b]? = some (.row i h y z))/\∃M,Pl.w b M∈ps)∨(h=l/\p=K/\s=L/\Ul ps b))
 |.mp j st l v,e=>∃G u h N,e=.mp G u h N/\(((∃O,σ1[b]? = some (.mp G u h O))/\∃T A,Pl.m b T A∈ps)∨(e=.mp j st l v/\notM ps b))
def PQ(al1:TA)(σ1:TH)(ps:List Pl)(σ am:TH):Prop:=am.length=σ.length/\∀(b:Nat) blk,σ[b]? = some blk->∃a,am[b]? = some a/\BE blk a/\PB al1 σ1 ps b blk a
theorem sP{i j:Nat}{l:List (Int×TT j)}{m:List (Int×TT i)}(h:DB l=some m):∃e:j=i,m=e▸l:=by
 unfold DB at h;split at h
 ·simp_all
 simp_all
theorem PQ.nil{al1:TA}{σ1 σ:TH}{σD:aa}(H:RH σ σD):PQ al1 σ1 [] σ σ:=⟨rfl,λb blk h=>⟨blk,h,BE.refl blk,by
 cases blk with
 |cells w s=>exact ⟨w,s,rfl,rfl,λj u e=>⟨(H.hg b w s h u (sT e)).2,.inr ⟨e,λc E=>by grind⟩⟩⟩
 |row i l x z=>exact ⟨l,x,z,rfl,.inr ⟨rfl,rfl,rfl,λi A=>by grind⟩⟩
 |mp j st l v=>exact ⟨j,st,l,v,rfl,.inr ⟨rfl,λj st A=>by grind⟩⟩⟩⟩
theorem PB.Hb{al1:TA}{σ1:TH}{ps:List Pl}{b:Nat}{x y:TB}{p:Pl}(h:PB al1 σ1 ps b x y)(h1:∀j c,p≠.h b j c)(h2:∀i,p≠.w b i)(h3:∀j st,p≠.m b j st):PB al1 σ1 (p::ps) b x y:=by
 cases x with
 |cells w cs=>
  obtain ⟨w2,E,e,A,W⟩:=h;refine ⟨w2,E,e,A,λj X Z=>?_⟩;obtain ⟨h4,s⟩:=W j X Z;refine ⟨h4,?_⟩;rcases s with ⟨c,a,s,z,U⟩ | ⟨s,z⟩
  ·grind
  ·refine .inr ⟨s,λc u=>?_⟩;rcases dO.1 u with u | u
   ·grind
   ·exact z c u
 |row i l lv cv=>
  obtain ⟨A,G,K,e,s⟩:=h;refine ⟨A,G,K,e,?_⟩;rcases s with ⟨s,i',z⟩ | ⟨s,z,U,L⟩
  ·grind
  ·refine .inr ⟨s,z,U,λi M=>?_⟩;rcases dO.1 M with u | u
   ·grind
   ·exact L i u
 |mp j st l v=>
  obtain ⟨j2,O,A,v2,e,s⟩:=h;refine ⟨j2,O,A,v2,e,?_⟩;rcases s with ⟨s,j',ad,z⟩ | ⟨s,L⟩
  ·grind
  ·refine .inr ⟨s,λj st M=>?_⟩;rcases dO.1 M with u | u
   ·grind
   ·exact L j st u
theorem PQ.step{al1:TA}{σ1 σ am:TH}{σD:aa}{ps pl:List Pl}(H:RH σ σD)(hs:HS pl σ σ1)(p:Pl)(x:p.dn)(X:Mj al1 σ1 p=some x)(h:PQ al1 σ1 ps σ am):PQ al1 σ1 (p::ps) σ (KE p x am):=by
 obtain ⟨hl,hb⟩:=h;cases p with
 |r t c=>exact ⟨hl,λb blk e=>let ⟨s,G,L,K⟩:=hb b blk e;⟨s,G,L,K.Hb (by simp) (by simp) (by simp)⟩⟩
 |w O i0=>
  simp only[KE];split
  ·rename_i j l lv cv e0;refine ⟨by simp[hl],λb blk e=>?_⟩;obtain ⟨s,G,L,K⟩:=hb b blk e;by_cases u:b=O
   ·subst u;rw[e0] at G;simp only[ab] at G;subst G;refine ⟨_,Ah e0,?_⟩;simp only[Mj] at X;split at X
    ·rename_i j1 l1 a3 a4 e1;obtain ⟨rfl,rfl⟩:=IU X;obtain ⟨af,E,Z⟩:=hs b blk e;rw[e1] at E;simp only[ab] at E;subst E;cases blk with
     |cells w cs=>obtain ⟨_,_,M,_⟩:=Z;grind
     |mp q st l v=>obtain ⟨_,_,_,_,M,_⟩:=Z;grind
     |row i l0 a9 bd=>obtain ⟨l5,be,bh,M,_⟩:=Z;simp only[TB.row.injEq] at M;obtain ⟨rfl,e5,rfl,rfl⟩:=M;cases e5;obtain ⟨l6,bi,bk,e6,b1,b2,b3,b4⟩:=L;simp only[TB.row.injEq] at e6;obtain ⟨rfl,e7,rfl,rfl⟩:=e6;cases e7;exact ⟨⟨_,_,_,rfl,by omega,by omega,λe=>by omega,λe=>by omega⟩,⟨_,_,_,rfl,.inl ⟨⟨a3,a4,e1⟩,_,li ..⟩⟩⟩
    simp_all
   ·exact ⟨s,by grind,L,K.Hb (by simp) (by grind) (by simp)⟩
  ·rename_i ak;refine ⟨hl,λb blk e=>?_⟩;obtain ⟨s,G,L,K⟩:=hb b blk e;refine ⟨s,G,L,?_⟩;by_cases u:b=O
   ·subst u;cases s with
    |row i l lv cv=>grind
    |cells w cs=>
     cases blk with
     |cells w' a5=>
      obtain ⟨w2,ax,E,l2,c2⟩:=K;refine ⟨w2,ax,E,l2,λj p2 M=>?_⟩;obtain ⟨h4,U⟩:=c2 j p2 M;refine ⟨h4,?_⟩;rcases U with ⟨c,a,U,h6,h7⟩ | ⟨U,h6⟩
      ·grind
      ·refine .inr ⟨U,λc W=>?_⟩;rcases dO.1 W with W | W
       ·grind
       ·exact h6 c W
     |row i l lv cv=>obtain ⟨_,_,_,E,_⟩:=K;grind
     |mp q st l v=>obtain ⟨_,_,_,_,E,_⟩:=K;grind
    |mp q st l v=>
     cases blk with
     |mp q' a0 l' v'=>
      obtain ⟨j2,a6,l2,v2,E,U⟩:=K;refine ⟨j2,a6,l2,v2,E,?_⟩;rcases U with ⟨U,j',a0,h6⟩ | ⟨U,h8⟩
      ·grind
      ·refine .inr ⟨U,λj st hi=>?_⟩;rcases dO.1 hi with W | W
       ·grind
       ·exact h8 j st W
     |row i l lv cv=>obtain ⟨_,_,_,E,_⟩:=K;grind
     |cells w cs=>obtain ⟨_,_,E,_⟩:=K;grind
   ·exact K.Hb (by simp) (by grind) (by simp)
 |h O j0 c0=>
  have A:∀blk,σ[O]? = some blk->∃w cs w1 ad y,blk=.cells w cs/\σ1[O]? = some (.cells w1 ad)/\ad[j0]? = some y/\xj c0 y.2=some x/\j0<cs.length:=by
   intro blk e;have bt:=X;simp only[Mj] at X;split at X
   ·rename_i w1 ad e1;split at X
    ·rename_i y G;obtain ⟨af,E,Z⟩:=hs O blk e;rw[e1] at E;simp only[ab] at E;subst E;cases blk with
     |cells w cs=>
      obtain ⟨_,_,M,l4,_⟩:=Z
      grind
     |row i l lv cv=>obtain ⟨_,_,_,M,_⟩:=Z;grind
     |mp q st l v=>obtain ⟨_,_,_,_,M,_⟩:=Z;grind
    simp_all
   simp_all
  simp only[KE];split
  ·rename_i w' a5 e0;refine ⟨by simp[hl],λb blk e=>?_⟩;obtain ⟨s,G,L,K⟩:=hb b blk e;by_cases u:b=O
   ·subst u;rw[e0] at G;simp only[ab] at G;subst G;obtain ⟨w,cs,w1,ad,y,rfl,E,M,e5,e6⟩:=A blk e;refine ⟨_,Ah e0,?_⟩;obtain ⟨w2,ax,e7,l2,c2⟩:=K;simp only[TB.cells.injEq] at e7;obtain ⟨rfl,rfl⟩:=e7;obtain ⟨w3,a7,e8,bw,bl,bc⟩:=L;simp only[TB.cells.injEq] at e8;obtain ⟨rfl,rfl⟩:=e8;refine ⟨⟨w'+1,_,rfl,by omega,by simp[l2],λj v z v1 z1 q1 q2=>?_⟩,⟨w'+1,_,rfl,by simp[l2],λj p2 q=>?_⟩⟩
    ·grind
    ·by_cases hj:j=j0
     ·grind
     ·rw[xAg (λe=>hj e.symm)] at q;obtain ⟨q1,q2⟩:=c2 j p2 q;refine ⟨by omega,?_⟩;rcases q2 with ⟨c,a,U,h6,h7⟩ | ⟨U,h6⟩
      ·grind
      ·refine .inr ⟨U,λc W=>?_⟩;rcases dO.1 W with W | W
       ·simp_all
       ·exact h6 c W
   ·exact ⟨s,by grind,L,K.Hb (by grind) (by simp) (by simp)⟩
  ·rename_i ak;refine ⟨hl,λb blk e=>?_⟩;obtain ⟨s,G,L,K⟩:=hb b blk e;by_cases u:b=O
   ·subst u;obtain ⟨w,cs,_,_,_,rfl,_⟩:=A blk e;obtain ⟨w3,a7,rfl,_⟩:=L
    simp_all
   ·exact ⟨s,G,L,K.Hb (by grind) (by simp) (by simp)⟩
 |m O j0 a1=>
  have A:∀blk,σ[O]? = some blk->∃j st l v v1,blk=.mp j st l v/\σ1[O]? = some (.mp j0 a1 x v1):=by
   intro blk e;simp only[Mj] at X;split at X
   ·rename_i j1 a8 l1 v1 e1;split at X
    ·rename_i a2;have a2:a1=a8:=eq_of_beq a2;obtain ⟨rfl,rfl⟩:=sP X;obtain ⟨af,E,Z⟩:=hs O blk e;rw[e1] at E;simp only[ab] at E;subst E;cases blk with
     |mp q st l v=>simp_all
     |row i l lv cv=>obtain ⟨_,_,_,M,_⟩:=Z;grind
     |cells w cs=>obtain ⟨_,_,M,_⟩:=Z;grind
    simp_all
   simp_all
  simp only[KE];split
  ·rename_i j' a0 l' v' e0;refine ⟨by simp[hl],λb blk e=>?_⟩;obtain ⟨s,G,L,K⟩:=hb b blk e;by_cases u:b=O
   ·subst u;rw[e0] at G;simp only[ab] at G;subst G;obtain ⟨j,st,l,v,v1,rfl,E⟩:=A blk e;obtain ⟨_,_,_,_,M,b1,b2⟩:=L;simp only[TB.mp.injEq] at M;obtain ⟨rfl,rfl,e5,rfl⟩:=M;cases e5;exact ⟨_,Ah e0,⟨_,_,_,_,rfl,by omega,λe=>by omega⟩,⟨_,_,_,_,rfl,.inl ⟨⟨v1,E⟩,_,_,li ..⟩⟩⟩
   ·exact ⟨s,by grind,L,K.Hb (by simp) (by simp) (by grind)⟩
  ·rename_i ak;refine ⟨hl,λb blk e=>?_⟩;obtain ⟨s,G,L,K⟩:=hb b blk e;by_cases u:b=O
   ·subst u;obtain ⟨j,st,l,v,v1,rfl,_⟩:=A blk e;obtain ⟨_,_,_,_,rfl,_⟩:=L
    grind
   ·exact ⟨s,G,L,K.Hb (by simp) (by simp) (by grind)⟩
theorem PQ.all{al1:TA}{σ1 σ:TH}{σD:aa}{pl:List Pl}(H:RH σ σD)(hs:HS pl σ σ1):∀(ps:List Pl)(x:l_ ps),FK al1 σ1 ps=some x->PQ al1 σ1 ps σ (ni ps x σ):=by
 intro ps;induction ps with
 |nil=>intro x _;exact PQ.nil H
 |cons p ps ih=>
  intro x i;cases ps with
  |nil=>exact PQ.step H hs p x i (PQ.nil H)
  |cons q ps=>
   simp only[FK] at i;split at i
   ·rename_i a b j s;simp only[ab] at i;subst i;exact PQ.step H hs p a j (ih b s)
   simp_all
theorem PQ.ext{al1:TA}{σ1 σ am:TH}{ps:List Pl}(h:PQ al1 σ1 ps σ am):Ext σ am:=λb blk e=>let ⟨i,j,h1,_⟩:=h.2 b blk e;⟨i,j,h1⟩
theorem PQ.hs{al1:TA}{σ1 σ am:TH}{ps:List Pl}(h:PQ al1 σ1 ps σ am)(hs:HS ps σ σ1):HS ps σ am:=λb blk e=>by
 obtain ⟨u,U,h1,E⟩:=h.2 b blk e;refine ⟨u,U,?_⟩;cases blk with
 |cells w cs=>
  obtain ⟨w2,G,rfl,x,W⟩:=E;refine ⟨w2,G,rfl,x,λj p p1 q X z=>?_⟩;rcases (W j p1 X).2 with ⟨c,a,_,_,A⟩ | ⟨s,_⟩
  ·exact absurd A (z c)
  simp_all
 |row i l lv cv=>
  obtain ⟨x,K,L,rfl,s⟩:=E;refine ⟨x,K,L,rfl,λz=>?_⟩;rcases s with ⟨_,Z,A⟩ | ⟨s,h4,h5,_⟩
  ·exact absurd A (z Z)
  simp_all
 |mp j st l v=>
  obtain ⟨j2,M,x,v2,rfl,s⟩:=E;refine ⟨j2,M,x,v2,rfl,λz=>?_⟩;rcases s with ⟨_,j',O,A⟩ | ⟨s,_⟩
  ·exact absurd A (z j' O)
  omega
end
end Go.Abs
end
section
namespace Go.Abs
noncomputable section
variable[Gl][Y:Ty]
theorem Jw(t:Nat):∀(al:TA),Hz t al=(dt t al).map Prod.fst:=by
 intro al;induction al with
 |nil=>rfl
 |cons y al ih=>grind [Hz,dt]
theorem gG{t:Nat}{al:TA}{x:RV}(h:Hz t al=some x):∃p,dt t al=some (x,p):=by grind [Jw,Option.map_eq_some_iff]
theorem jt{t:Nat}{q:RV×Nat}:∀{pre al:TA},(∀y∈pre,y.1≠t)->dt t al=some q->dt t (pre++al)=some q:=by
 intro pre al;induction pre with
 |nil=>simp_all
 |cons z pre ih=>grind [dt,Nat.eq_of_beq_eq_true]
theorem qx{t:Nat}{q:RV×Nat}:∀{pre al:TA},dt t al=some q->∃a,dt t (pre++al)=some a:=by
 intro pre al;induction pre with
 |nil=>simp_all
 |cons z pre ih=>
  intro h;obtain ⟨s,y⟩:=z;simp only[List.cons_append,dt]
  grind
theorem Qi{al1:TA}{σ1:TH}{al:TA}{t:Nat}{v:RV}{p:Nat}:∀(ps:List Pl)(x:l_ ps),FK al1 σ1 ps=some x->dt t (AG ps x al)=some (v,p) ->
  (∃c a,v=.v (c.tv a)/\Mj al1 σ1 (.r t c)=some a)∨((∀c,Pl.r t c∉ps)/\dt t al=some (v,p)):=by
 have one:∀(p0:Pl)(x:p0.dn)(f:TA),Mj al1 σ1 p0=some x->dt t (Ng p0 x f)=some (v,p)->(∃c a,v=.v (c.tv a)/\Mj al1 σ1 (.r t c)=some a)∨((∀c,Pl.r t c≠p0)/\dt t f=some (v,p)):=by
  intro p0 x f l h;cases p0 with
  |r A c=>
   simp only[Ng,dt] at h;split at h
   ·grind [Nat.eq_of_beq_eq_true]
   ·rename_i s;refine .inr ⟨λE e=>?_,h⟩
    simp_all
  |w b i=>exact .inr ⟨λc e=>by simp at e,h⟩
  |h b j c=>exact .inr ⟨λc e=>by simp at e,h⟩
  |m b j st=>exact .inr ⟨λc e=>by simp at e,h⟩
 intro ps;induction ps with
 |nil=>intro x _ h;exact .inr ⟨λc G=>by grind,h⟩
 |cons p0 ps ih=>
  intro x l h;cases ps with
  |nil=>
   rcases one p0 x al l h with h | ⟨u,y⟩
   ·simp_all
   simp_all
  |cons q ps=>
   simp only[FK] at l;split at l
   ·rename_i a b z s;simp only[ab] at l;subst l;rcases one p0 a _ z h with h | ⟨u,y⟩
    ·simp_all
    simp_all
   simp_all
theorem AT:∀(ps:List Pl)(x:l_ ps)(al:TA),∃pre,AG ps x al=pre++al/\∀y∈pre,∃c,Pl.r y.1 c∈ps:=by
 have one:∀(p0:Pl)(x:p0.dn)(al:TA),∃pre,Ng p0 x al=pre++al/\∀y∈pre,∃c,Pl.r y.1 c=p0:=by
  intro p0 x al;cases p0 with
  |r t c=>exact ⟨[(t,.v (c.tv x))],rfl,λy a=>by simp_all⟩
  |w b i=>exact ⟨[],rfl,λy a=>by grind⟩
  |h b j c=>exact ⟨[],rfl,λy a=>by grind⟩
  |m b j st=>exact ⟨[],rfl,λy a=>by grind⟩
 intro ps;induction ps with
 |nil=>intro x al;exact ⟨[],rfl,λy a=>by grind⟩
 |cons p0 ps ih=>
  intro x al;cases ps with
  |nil=>obtain ⟨pre,f,l⟩:=one p0 x al;exact ⟨pre,f,λy a=>let ⟨c,e⟩:=l y a;⟨c,by simp_all⟩⟩
  |cons q ps=>
   obtain ⟨pre,f,l⟩:=ih x.2 al;obtain ⟨p,s,u⟩:=one p0 x.1 (AG (q::ps) x.2 al)
   grind [AG]
theorem Fy(σ:TH):∀(hs:List (Nat×Nat))(al:TA),∃pre,HI σ hs al=pre++al/\(∀y∈pre,∃b i l a e,(y.1,b)∈hs/\σ[b]? = some (.row i l a e)/\y.2=.v (.c (.own i b a l.length))) /\
  ∀t b i l a e,(t,b)∈hs->σ[b]? = some (.row i l a e)->∃y∈pre,y.1=t:=by
 intro hs;induction hs with
 |nil=>intro al;exact ⟨[],rfl,λy j=>by grind,λt b i l a e h=>by simp at h⟩
 |cons h hs ih=>
  intro al;obtain ⟨t,b⟩:=h;obtain ⟨pre,s,u,v⟩:=ih al;have p:∀y∈pre,∃f i l a e,(y.1,f)∈(t,b)::hs/\σ[f]? = some (.row i l a e)/\y.2=.v (.c (.own i f a l.length)):=λy j=>by grind
  simp only[HI];split
  ·grind [List.mem_cons_self]
  grind
theorem Jz{t:Nat}{x:RV}{p:Nat}:∀{pre al:TA},dt t (pre++al)=some (x,p)->(t,x)∈pre∨((∀y∈pre,y.1≠t)/\dt t al=some (x,p)):=by
 intro pre al;induction pre with
 |nil=>simp_all
 |cons z pre ih=>
  intro h;obtain ⟨s,y⟩:=z;simp only[List.cons_append,dt] at h;split at h
  ·simp_all
  ·rename_i f;rcases ih h with h | ⟨i,b⟩
   ·simp_all
   ·refine .inr ⟨λy a=>?_,b⟩;rcases dO.1 a with rfl | a
    ·intro e;simp_all
    grind
theorem Ap(md:List Nat)(al:TA):∃pre,Bl md al=pre++al/\(∀y∈pre,y.1∈md/\(Hz y.1 al).isSome/\y.2=.v (.c .any))/\∀t,t∈md->(Hz t al).isSome->∃y∈pre,y.1=t:=by
 refine ⟨_,rfl,λy b=>?_,λt a hs=>?_⟩
 ·grind
 ·exact ⟨(t,.v (.c .any)),gZ.2 ⟨t,Dv.2 ⟨a,hs⟩,rfl⟩,rfl⟩
theorem ar.qf{α i:Type}{R:α->i->Prop}:∀{l:List α}{m:List i},l.length=m.length->(∀(j:Nat) a b,l[j]? = some a->m[j]? = some b->R a b)->ar R l m:=by
 intro l;induction l with
 |nil=>intro m h _;cases m with | nil=>exact .nil | cons b m=>simp at h
 |cons a l ih=>
  intro m h s;cases m with
  |nil=>simp at h
  |cons b m=>exact .cons (s 0 a b rfl rfl) (ih (by simp_all) λj x y u z=>s (j+1) x y u z)
theorem QB.Oe{α:Type}{f:α->List C}{l:List α}{m:Nat}:QB m (OB f l) (OB f l):=by refine ⟨_,rfl,ar.qf rfl λj a b i s=>?_⟩;rw[i] at s;simp only[ab] at s;subst s;rw[gT,bq] at i;obtain ⟨c,_,rfl⟩:=i;exact ic.low rfl
theorem Cr(j:Nat)(st:Bool)(a:TT j)(m:Nat):(Fg j st a).low m=true:=by
 unfold Fg;split
 ·exact MQ _
 ·rfl
theorem CI{α:Type}{g:α->D}{m:Nat}(h:∀a,(g a).low m=true):∀(l:List (Int×α))(i:Nat),((ud g i l).all λe=>e.2.1.low m)=true:=by
 intro l;induction l with
 |nil=>intro i;rfl
 |cons x l ih=>grind [ud]
theorem Tu{al:TA}{σ:TH}{hs:List (Nat×Nat)}(h:NY al σ hs=true){t b:Nat}(hm:(t,b)∈hs):∃i v q j l a e,Hz t al=some (.v (.c (.own i b v q)))/\σ[b]? = some (.row j l a e)/\v=a/\i=j:=by
 simp only[NY,eG] at h;have:=h (t,b) hm;dsimp only at this;split at this
 ·rename_i i f v q j l a e p s;simp only[aU] at this
  grind [Nat.eq_of_beq_eq_true]
 simp_all
theorem HS.mono{pl u:List Pl}{σ σ1:TH}(G:∀p∈pl,p∈u)(h:HS pl σ σ1):HS u σ σ1:=λb blk e=>by
 obtain ⟨z,W,s⟩:=h b blk e;refine ⟨z,W,?_⟩;cases blk with
 |cells w cs=>obtain ⟨w1,K,e,l,c⟩:=s;exact ⟨w1,K,e,l,λj p p1 x y A=>c j p p1 x y λq E=>A q (G _ E)⟩
 |row i l lv cv=>obtain ⟨L,M,O,e,c⟩:=s;exact ⟨L,M,O,e,λA=>c λq E=>A q (G _ E)⟩
 |mp j st l v=>obtain ⟨X,U,L,Z,e,c⟩:=s;exact ⟨X,U,L,Z,e,λA=>c λq st E=>A q st (G _ E)⟩
theorem PQ.hs'{al1:TA}{σ1 σ am:TH}{ps pl:List Pl}(h:PQ al1 σ1 ps σ am)(E:∀p∈ps,p∈pl):HS pl σ am:=λb blk e=>by
 obtain ⟨s,W,h1,G⟩:=h.2 b blk e;refine ⟨s,W,?_⟩;cases blk with
 |cells w cs=>
  obtain ⟨w2,K,rfl,u,X⟩:=G;refine ⟨w2,K,rfl,u,λj p p1 q Z x=>?_⟩;rcases (X j p1 Z).2 with ⟨c,a,_,_,z⟩ | ⟨A,_⟩
  ·exact absurd (E _ z) (x c)
  simp_all
 |row i l lv cv=>
  obtain ⟨u,L,M,rfl,A⟩:=G;refine ⟨u,L,M,rfl,λx=>?_⟩;rcases A with ⟨_,i',z⟩ | ⟨h4,h5,h6,_⟩
  ·exact absurd (E _ z) (x i')
  simp_all
 |mp j st l v=>
  obtain ⟨j2,O,u,v2,rfl,A⟩:=G;refine ⟨j2,O,u,v2,rfl,λx=>?_⟩;rcases A with ⟨_,j',U,z⟩ | ⟨h4,_⟩
  ·exact absurd (E _ z) (x j' U)
  omega
structure Zn (zs:List (Nat×Nat×Nat)) (σ σ':TH):Prop where
 len:σ'.length=σ.length
 row:∀(b:Nat) i (l:List (TT i)) lv cv,σ[b]? = some (.row i l lv cv)↔σ'[b]? = some (.row i l lv cv)
 mp:∀(b:Nat) j st (l:List (Int×TT j)) v,σ[b]? = some (.mp j st l v)->σ'[b]? = some (.mp j st l v)
 cells:∀(b:Nat) w cs,σ[b]? = some (.cells w cs)->∃w' cs',σ'[b]? = some (.cells w' cs')/\w<=w'/\cs'.length=cs.length/\∀(j:Nat) p',cs'[j]? = some p' ->
  (cs[j]? = some p'/\∀r,(b,j,r)∈zs->∀i l lv cv,σ[r]?≠some (.row i l lv cv))∨(∃r i l lv cv,(b,j,r)∈zs/\σ[r]? = some (.row i l lv cv)/\p'.2=.own i r lv l.length/\w<p'.1/\p'.1<=w')
theorem EL:∀(s:List (Nat×Nat×Nat))(σ:TH),Zn s σ (FL s σ):=by
 intro s;induction s with
 |nil=>intro σ;exact ⟨rfl,λb i l a f=>Iff.rfl,λb j st l v h=>h,λb w u h=>⟨w,u,h,bQ _,rfl,λj p' O=>.inl ⟨O,λr hr=>by grind⟩⟩⟩
 |cons z s ih=>
  intro σ;obtain ⟨G,T,U⟩:=z;simp only[FL];split
  ·rename_i E x W X y ad hb hr;have Z:=ih (σ.set G (.cells (E+1) (x.set T (E+1,.own W U y X.length))));have A:∀(b:Nat) i (l:List (TT i)) a f,σ[b]? = some (.row i l a f)↔(σ.set G (.cells (E+1) (x.set T (E+1,.own W U y X.length))))[b]? = some (.row i l a f):=λb i l a f=>by
    grind
   refine ⟨by rw[Z.len,Vn],λb i l a f=>(A b i l a f).trans (Z.row b i l a f),λb j st l v h=>Z.mp b j st l v ?_,λb w u h=>?_⟩
   ·grind
   ·by_cases e:b=G
    ·subst e;rw[hb] at h;simp only[ab,TB.cells.injEq] at h;obtain ⟨rfl,rfl⟩:=h;obtain ⟨K,p,L,M,N,h4⟩:=Z.cells b _ _ (Ah hb)
     grind
    ·obtain ⟨K,p,L,M,N,h4⟩:=Z.cells b w u (by grind)
     grind
  ·rename_i af;have Z:=ih σ;refine ⟨Z.len,Z.row,Z.mp,λb w u h=>?_⟩;obtain ⟨K,p,L,M,N,h4⟩:=Z.cells b w u h;refine ⟨K,p,L,M,N,λj p' O=>?_⟩
   grind
theorem Zn.ext{u:List (Nat×Nat×Nat)}{σ σ':TH}(Z:Zn u σ σ'):Ext σ σ':=λb blk h=>by
 cases blk with
 |cells w z=>
  obtain ⟨A,s,E,G,K,O⟩:=Z.cells b w z h;refine ⟨_,E,A,s,rfl,G,K,λj v x U W e X=>?_⟩
  grind
 |row i l L M=>exact ⟨_,(Z.row b i l L M).1 h,BE.refl _⟩
 |mp j st l v=>exact ⟨_,Z.mp b j st l v h,BE.refl _⟩
theorem QR{a:List (Nat×Nat×Nat)}{b j r:Nat}(h:(b,j,r)∈a):Pl.h b j .bool∈Du a:=gZ.2 ⟨_,h,rfl⟩
theorem Zn.hs{u:List (Nat×Nat×Nat)}{σ σ':TH}(Z:Zn u σ σ'):HS (Du u) σ σ':=λb blk h=>by
 cases blk with
 |cells w x=>
  obtain ⟨z,s,A,W,E,G⟩:=Z.cells b w x h;refine ⟨_,A,z,s,rfl,E,λj p p1 e K L=>?_⟩;rcases G j _ K with ⟨X,_⟩ | ⟨r,_,_,_,_,M,_⟩
  ·simp_all
  ·exact absurd (QR M) (L _)
 |row i l O U=>exact ⟨_,(Z.row b i l O U).1 h,_,_,_,rfl,λ_=>⟨rfl,rfl,rfl⟩⟩
 |mp j st l v=>exact ⟨_,Z.mp b j st l v h,_,_,_,_,rfl,λ_=>rfl⟩
theorem IV{n:Nat}{σ:TH}{f:List (Nat×Nat×Nat)}(h:Ny n σ f=true){b j r:Nat}(hm:(b,j,r)∈f):b<n/\r<n/\∃w cs i l a p q s,σ[b]? = some (.cells w cs)/\σ[r]? = some (.row i l a p)/\cs[j]? = some (s,.own i r a q):=by
 simp only[Ny,eG] at h;have:=h (b,j,r) hm;simp only[aU] at this;obtain ⟨u,x,e⟩:=this;refine ⟨oS.mp u,oS.mp x,?_⟩;split at e
 ·rename_i w cs i l a p y z;split at e
  ·rename_i s A E v q G;simp only[aU] at e
   grind [Nat.eq_of_beq_eq_true]
  grind
 grind
theorem iQ{h:JH}{md:List Nat}{al al1:TA}{σ σ1:TH}{alD ak:AL}{σD σD1:aa}{x:l_ h.pl}(R0:Ref al σ alD σD)(X:Ref al1 σ1 ak σD1)
  (bh:∀t q,dt t al=some q->∃q',dt t al1=some q')
  (hk:∀t q,t∉md->(∀c,Pl.r t c∉h.pl)->(∀b,(t,b)∈h.hs->∀i l O T,σ[b]?≠some (.row i l O T))->dt t al=some q->dt t al1=some q)
  (hs:HS (h.pl++Du h.zs) σ σ1) (hh:NY al1 σ1 h.hs=true) (hz:Ny σ.length σ1 h.zs=true) (hx:FK al1 σ1 h.pl=some x) :
  Ext σ (eC h md al σ x)/\HS (h.pl++Du h.zs) σ (eC h md al σ x)/\(eC h md al σ x).length=σ.length/\∃ax a0,lZ σ.length ak σD1 ax a0/\Ref (bS h md al σ x) (eC h md al σ x) ax a0:=by
 have s:=PQ.all R0.hh hs h.pl x hx;have Z:=EL h.zs (ni h.pl x σ);have ext:Ext σ (eC h md al σ x):=Ext.trans R0.hh s.ext Z.ext;have len:(eC h md al σ x).length=σ.length:=Z.len.trans s.1;refine ⟨ext,(s.hs' λp hp=>Zt _ hp).trans (Z.hs.mono λp hp=>List.mem_append_right _ hp),len,?_⟩;have bi:∀(b i i1 O T ad af:Nat)(l:List (TT i))(l1:List (TT i1)),(ni h.pl x σ)[b]? = some (.row i l O T)->σ1[b]? = some (.row i1 l1 ad af)->i1=i/\l.length=l1.length:=by
  intro b i i1 O T ad af l l1 m2 n2;have z:b<σ.length:=by rw[<-s.1];grind
  obtain ⟨f,U⟩:∃f,σ[b]? = some f:=⟨_,cE z⟩;obtain ⟨u,K,be,A⟩:=s.2 b f U;rw[m2] at K;simp only[ab] at K;subst K;obtain ⟨M,W,G⟩:=hs b f U;rw[n2] at W;simp only[ab] at W;subst W;cases f with
  |cells w cs=>obtain ⟨_,_,e,_⟩:=G;simp at e
  |mp q st l v=>obtain ⟨_,_,_,_,e,_⟩:=G;simp at e
  |row i0 l0 b6 b7=>
   obtain ⟨l5,b8,ch,e5,G⟩:=G;simp only[TB.row.injEq] at e5;obtain ⟨rfl,e6,rfl,rfl⟩:=e5;cases e6;obtain ⟨l6,ck,cm,e7,A⟩:=A;simp only[TB.row.injEq] at e7;obtain ⟨rfl,e8,rfl,rfl⟩:=e7;cases e8;refine ⟨rfl,?_⟩;rcases A with ⟨⟨a2,a3,e9⟩,_⟩ | ⟨rfl,_,_,hn⟩
   ·simp_all
   ·by_cases co:Ul (h.pl++Du h.zs) b
    ·simp_all
    ·exact absurd (λi E=>by
      rcases uQ.1 E with E | E
      ·exact hn i E
      grind [Du]) co
 obtain ⟨bk,es,c0,ea⟩:=Ap md al;obtain ⟨bl,eh,c3,eb⟩:=Fy (ni h.pl x σ) h.hs (Bl md al);obtain ⟨bt,ep,ec⟩:=AT h.pl x (HI (ni h.pl x σ) h.hs (Bl md al));have bu:bS h md al σ x=(bt++(bl++bk))++al:=by grind [bS]
 have d8:Ext σ (ni h.pl x σ):=s.ext;have c4:(eC h md al σ x).length<=σD1.length:=by
  rw[len,X.hh.len];rcases pY σ1.length σ.length with z | eg
  ·obtain ⟨M,e,_⟩:=hs σ1.length _ (cE z)
   grind
  omega
 have gw:∀{v:TV},GV (eC h md al σ x) v->GW (bS h md al σ x) (eC h md al σ x) (.v v):=λg=>g;rw[<-len];refine VJ c4 (λt v p ht=>?_) (λb u bv=>?_) (λb w2 N bv q hq=>?_)
 ·
  rcases Qi h.pl x hx ht with ⟨c,a,rfl,hr⟩ | ⟨c5,ht⟩
  ·simp only[Mj] at hr;split at hr
   ·rename_i v1 h1;obtain ⟨p1,h2⟩:=gG h1;obtain ⟨L,h3,h4,_⟩:=X.rg t _ p1 h2;exact ⟨xq c a,L,c.enc a,h3,VI hr h4,c.zj a⟩
   grind
  ·rw[eh] at ht;rcases Jz ht with hm | ⟨ei,ht⟩
   ·obtain ⟨b,i,l,O,T,m1,m2,m3⟩:=c3 _ hm;dsimp only at m1 m3;subst m3;obtain ⟨i1,v1,q1,j1,l1,ad,af,n1,n2,n3,n4⟩:=Tu hh m1;subst n3;obtain ⟨p1,n5⟩:=gG n1;obtain ⟨L,n6,n7,n8⟩:=X.rg t _ p1 n5;obtain ⟨rfl,rfl⟩:=kJ X.hh n8 n2 (by simp);clear n4;have c6:=(Z.row b _ _ _ _).1 m2;have z:b<σ.length:=by rw[<-s.1];grind
    obtain ⟨f,U⟩:∃f,σ[b]? = some f:=⟨_,cE z⟩;obtain ⟨u,K,be,A⟩:=s.2 b f U;rw[m2] at K;simp only[ab] at K;subst K;obtain ⟨M,W,G⟩:=hs b f U;rw[n2] at W;simp only[ab] at W;subst W;cases f with
    |cells w cs=>obtain ⟨_,_,e,_⟩:=G;simp at e
    |mp q st l v=>obtain ⟨_,_,_,_,e,_⟩:=G;simp at e
    |row i0 l0 b6 b7=>
     obtain ⟨l5,b8,ch,e5,G⟩:=G;simp only[TB.row.injEq] at e5;obtain ⟨rfl,e6,rfl,rfl⟩:=e5;cases e6;obtain ⟨l6,ck,cm,e7,A⟩:=A;simp only[TB.row.injEq] at e7;obtain ⟨rfl,e8,rfl,rfl⟩:=e7;cases e8;have a4:l=l1:=by
      rcases A with ⟨⟨a2,a3,e9⟩,_⟩ | ⟨rfl,_,_,hn⟩
      ·grind
      ·exact (G λi E=>by
        rcases uQ.1 E with E | E
        ·exact hn i E
        grind [Du]).1.symm
     subst a4;refine ⟨⟨_,c6,λj l' c7 c8 e=>?_⟩,L,L,n6,?_,?_⟩
     ·grind
     ·rw[RT.c1 (by simp) n7];refine ic.low ?_;simp only[TC.er,D.low,aM];omega
     ·have:=RT.c1 (by simp) n7;rw[this];exact Or.inr rfl
   ·rw[es] at ht;rcases Jz ht with hm | ⟨ej,ht⟩
    ·obtain ⟨m1,m2,m3⟩:=c0 _ hm;dsimp only at m1 m2 m3;subst m3;rw[VO] at m2;obtain ⟨y,hy⟩:=m2;obtain ⟨p1,n1⟩:=gG hy;obtain ⟨⟨y',p'⟩,n2⟩:=bh t _ n1;obtain ⟨L,n3,_⟩:=X.rg t y' p' n2;exact ⟨True.intro,L,.any,n3,ic.any _ _,Or.inl rfl⟩
    ·have c9:t∉md:=λhm=>by
      grind [Jw]
     have bw:∀b,(t,b)∈h.hs->∀i l O T,σ[b]?≠some (.row i l O T):=by
      intro b hb i l O T e;obtain ⟨u,K,be,_⟩:=s.2 b _ e;obtain ⟨l2,a5,a6,rfl,_⟩:=be
      grind
     have h1:=hk t _ c9 c5 bw ht;obtain ⟨L,n3,n4,_⟩:=X.rg t v p h1;obtain ⟨_,_,_,n5⟩:=R0.rg t v p ht;obtain ⟨d2,n6,n7⟩:=UW n4 n5;refine ⟨?_,L,d2,n3,by grind,n7⟩;rw[bu];exact n5.mono ext _
 ·
  have z:b<σ.length:=by grind
  obtain ⟨f,U⟩:∃f,σ[b]? = some f:=⟨_,cE z⟩;obtain ⟨a7,K,be,A⟩:=s.2 b f U;obtain ⟨M,W,G⟩:=hs b f U;obtain ⟨da,o1,o2⟩:=X.hh.hp b M W;refine ⟨da,?_⟩;cases f with
  |cells w cs=>
   obtain ⟨w1,a8,rfl,l1,c1⟩:=G;obtain ⟨ek,d9,rfl,db,dc⟩:=A;obtain ⟨w2,N,ez,_,b0,a9⟩:=Z.cells b _ _ K;have:u=.cells w2 N:=by grind [eC]
   subst this;have l2:N.length=cs.length:=b0.trans db;obtain ⟨bc,o3,a1,_,_⟩:=X.hh.cells W;rw[o1] at o3;simp only[ab] at o3;subst o3;have dd:ar (λ(p:Nat×TC) d=>RC p.2 d) a8 bc:=by cases o2;refine ar.qf (by simp) λj p d h1 h2=>?_;rw[gT,h1] at h2;simp only[Option.map_some,ab] at h2;exact .inr h2.symm
   clear o2 a1;have a1:=dd;have hl:bc.length=N.length:=by omega
   obtain ⟨es,el,em⟩:=wk (p:=λj e=>∃p2 L,N[j]? = some p2/\bc[j]? = some L/\ic (eC h md al σ x).length L e/\e=p2.2.er) N.length λj hj=>by
    have q2:=cE hj;have q1:a8[j]? = some _:=cE (by omega);obtain ⟨L,q3,q4⟩:=a1.get j _ q1;rcases a9 j _ q2 with ⟨z1,z2⟩ | ⟨r,i,l,O,T,z1,z2,z3,_⟩
    rotate_left
    ·obtain ⟨_,_,w9,df,i9,l9,b1,di,q9,v9,y1,y2,y3⟩:=IV hz z1;rw[W] at y1;simp only[ab,TB.cells.injEq] at y1;obtain ⟨_,rfl⟩:=y1;rw[q1] at y3;simp only[ab] at y3;have g9:=(X.hh.hg b w1 a8 W _ (sT q1)).1;rw[y3] at q4 g9;obtain ⟨t1,t2⟩:=bi r i i9 _ _ _ _ _ _ z2 y2;subst t1;obtain ⟨_,t3⟩:=kJ X.hh g9 y2 (by simp);have b2:L=OS (ai i9) r q9:=RT.c1 (x:=.own i9 r b1 q9) (by simp) q4;have hr:r<σ.length:=by omega
     refine ⟨L,_,L,q2,q3,?_,?_⟩
     ·rw[b2];refine ic.low ?_;simp only[OS,D.low,aM];omega
     ·rw[b2,z3,t3,<-t2];rfl
    obtain ⟨_,q5⟩:=dc j _ z1;rcases q5 with ⟨c,a,q5,q6,_⟩ | ⟨q5,q6⟩
    ·grind [Mj,Wp,iE]
    ·have:=c1 j _ _ q5 q1 λc hc=>by
      rcases uQ.1 hc with hc | hc
      ·exact q6 c hc
      ·simp only[Du,gZ] at hc;obtain ⟨⟨b9,j9,r9⟩,hm,e9⟩:=hc;simp only[Pl.h.injEq] at e9;obtain ⟨rfl,rfl,_⟩:=e9;obtain ⟨_,hr,w9,df,i9,l9,b1,di,q9,v9,y1,y2,y3⟩:=IV hz hm;obtain ⟨b3,y4⟩:∃blk,σ[r9]? = some blk:=⟨_,cE hr⟩;obtain ⟨dp,y5,b4⟩:=hs r9 _ y4;rw[y2] at y5;simp only[ab] at y5;subst y5;cases b3 with
       |cells w cs=>obtain ⟨_,_,e,_⟩:=b4;simp at e
       |mp q st l v=>obtain ⟨_,_,_,_,e,_⟩:=b4;simp at e
       |row i8 l8 et eu=>
        obtain ⟨b5,y6,d0,_⟩:=s.2 r9 _ y4;obtain ⟨l7,a2,a3,rfl,_⟩:=d0
        grind
     rw[this] at q4;exact ⟨_,_,L,q2,q3,by rw[len];exact Ps q4 (R0.hh.hg b w cs U _ (sT q5)).1,rfl⟩
   refine ⟨.cells es,o1,⟨es,rfl,ar.qf (by omega) λj d e h1 h2=>?_⟩,?_⟩
   ·grind
   ·unfold RB TB.er;congr 1;apply L_
    grind
  |row i l O T=>
   obtain ⟨l1,ad,af,rfl,G⟩:=G;obtain ⟨l2,a5,a6,rfl,A⟩:=A;have:u=.row i l2 a5 a6:=by
    have e3:(eC h md al σ x)[b]? = some (.row i l2 a5 a6):=(Z.row b _ _ _ _).1 K
    grind
   subst this;have a4:l2=l1:=by
    rcases A with ⟨⟨a2,a3,e9⟩,_⟩ | ⟨rfl,_,_,hn⟩
    ·grind
    ·exact (G λi E=>by
      rcases uQ.1 E with E | E
      ·exact hn i E
      grind [Du]).1.symm
   subst a4;cases o2;exact ⟨_,o1,QB.Oe,rfl⟩
  |mp j st l v=>
   obtain ⟨j1,d5,l1,v1,rfl,G⟩:=G;obtain ⟨j2,bd,l2,v2,rfl,A⟩:=A;have:u=.mp j2 bd l2 v2:=by
    have e3:(eC h md al σ x)[b]? = some (.mp j2 bd l2 v2):=Z.mp b _ _ _ _ K
    grind
   subst this;have d6:j2=j1/\bd=d5/\HEq l2 l1:=by
    rcases A with ⟨⟨v7,e9⟩,_⟩ | ⟨e9,hn⟩
    ·grind
    ·have ex:=G λj st E=>by
      rcases uQ.1 E with E | E
      ·exact hn j st E
      grind [Du]
     grind
   obtain ⟨rfl,rfl,hl⟩:=d6;cases hl;cases o2;exact ⟨_,o1,⟨rfl,CI (λa=>Cr _ _ _ _) _ _⟩,rfl⟩
 ·
  have z:b<σ.length:=by grind
  obtain ⟨f,U⟩:∃f,σ[b]? = some f:=⟨_,cE z⟩;obtain ⟨a7,K,be,A⟩:=s.2 b f U;cases f with
  |cells w cs=>
   obtain ⟨w3,eA,rfl,l2,c2⟩:=A;obtain ⟨w4,d7,ez,hw,b0,a9⟩:=Z.cells b _ _ K;have e3:(eC h md al σ x)[b]? = some (.cells w4 d7):=ez;rw[bv] at e3;simp only[ab,TB.cells.injEq] at e3;obtain ⟨rfl,rfl⟩:=e3;obtain ⟨j,hj⟩:=Yw hq;rcases a9 j q hj with ⟨z1,_⟩ | ⟨r,i,l,O,T,_,z2,z3,_,z4⟩
   ·obtain ⟨r1,r2⟩:=c2 j q z1;refine ⟨?_,jI r1 hw⟩;rcases r2 with ⟨c,a,r2,_⟩ | ⟨r2,_⟩
    ·grind [qt]
    ·exact (R0.hh.hg b w cs U q (sT r2)).1.mono ext
   ·refine ⟨?_,z4⟩;rw[z3];refine ⟨_,(Z.row r _ _ _ _).1 z2,λj l' c7 c8 e=>?_⟩
    grind
  |row i l O T=>
   obtain ⟨_,_,_,rfl,_⟩:=A;have e3:=(Z.row b _ _ _ _).1 K
   grind [eC]
  |mp j st l v=>
   obtain ⟨_,_,_,_,rfl,_⟩:=A;have e4:(eC h md al σ x)[b]? = _:=Z.mp b _ _ _ _ K
   grind
end
end Go.Abs
end
section
namespace Go.Abs
noncomputable section
variable[Gl][Y:Ty]
theorem OC(m:Nat)(σ:TH)(al:TA):∀(pre:TA),TU m σ pre.length (pre++al)=pre.map (λp=>(p.1,wG m σ p.2))++al:=by
 intro pre;induction pre with
 |nil=>cases al <;> rfl
 |cons x pre ih=>grind [TU]
theorem Rg{m:Nat}{σ:TH}{al:TA}{t:Nat}{x:RV}{p:Nat}:∀{pre:TA},dt t (pre.map (λp=>(p.1,wG m σ p.2))++al)=some (x,p) ->
  (∃a,dt t (pre++al)=some (a,p)/\x=wG m σ a)∨(dt t (pre++al)=some (x,p)/\dt t al=some (x,p)):=by
 intro pre;induction pre with
 |nil=>simp_all
 |cons y pre ih=>
  intro h;obtain ⟨s,y⟩:=y;simp only[mb,List.cons_append,dt] at h ⊢
  grind
theorem QV{j:Nat}{st:Bool}(l:List (Int×TT j)):((ud (Fg j st) 0 l).all λe=>e.2.1.low 0)=true:=CI (λa=>Cr _ _ _ _) _ _
variable{m:Nat}{σ1:TH}{σD1:aa}
theorem Wc{x:TC}(h:Yn m x=true)(e:x≠.any):x.er.low m=true:=by
 cases x with
 |any=>simp_all
 |d x=>exact h
 |own i b v n=>simpa[Yn,TC.er,OS,D.low] using h
 |op i b v n k a o=>simpa[Yn,TC.er,D.low] using h
 |ap b off len sz k=>simpa[Yn,TC.er,D.low] using h
 |os i b v n f len=>simpa[Yn,TC.er,D.low] using h
 |zq g j=>exact uH h
 |_=>rfl
def Gk(m:Nat)(σD1:aa)(b:Nat):Prop:=m<=b/\∃(i:Nat)(l:List (TT i)),σD1[b]? = some (OB (enc i) l)
theorem UC(H:RH σ1 σD1)(hm:m<=σ1.length)(y:(σ1.take m).all (okB m)=true):IS m σD1 (σD1.take m) id (Gk m σD1):=by
 have z:(σD1.take m).length=m:=by grind [RH.len]
 have get:∀i,i<m->∀x,σD1[i]? = some x->(σD1.take m)[i]? = some x:=λi f x h=>by grind
 have N:Rn m σD1 (σD1.take m) id (Gk m σD1):=⟨by omega,λi _=>rfl,λi j _ _ e=>e,λi f h=>by rw[z] at f;have:=h.1;grind,λb h=>h.2,λi f=>by
  rw[z] at f;have A:σD1[i]? = some _:=cE (by grind)
  grind⟩
 refine ⟨N,λi f=>?_⟩;rw[z] at f;have E:i<σ1.length:=by omega
 obtain ⟨x,A,G⟩:=H.hp i _ (cE E);refine ⟨x,x,A,get i f _ A,?_⟩;unfold RB at G;subst G;have hk:okB m σ1[i]=true:=eG.1 y _ (sT (i:=i) (by simp_all));cases K:σ1[i] with
 |cells w O=>
  rw[K] at hk;refine ⟨_,rfl,ar.qf rfl λj a b s u=>?_⟩;rw[s] at u;simp only[ab] at u;subst u;rw[gT,bq] at s;obtain ⟨p,L,rfl⟩:=s;have:=eG.1 hk p (sT L);by_cases M:p.2=.any
  ·rw[M];exact b_.any _
  grind [b_.low,Wc]
 |row i l T U=>refine ⟨_,rfl,ar.qf rfl λj a b s u=>?_⟩;rw[s] at u;simp only[ab] at u;subst u;rw[gT,bq] at s;obtain ⟨c,_,rfl⟩:=s;exact b_.data N rfl
 |mp j st l v=>exact ⟨rfl,QV l⟩
theorem lI{i:Nat}(a:i<m){blk:TB}(h:σ1[i]? = some blk):(σ1.take m)[i]? = some blk:=by simp_all
theorem JQ(H:RH σ1 σD1)(hm:m<=σ1.length)(N:Rn m σD1 (σD1.take m) id (Gk m σD1)){x:TC}{d:D}(K:RC x d)(y:GC σ1 x) :
  ∃s,b_ σD1 (σD1.take m) id (Gk m σD1) d s/\RC (wO m σ1 x) s/\GC (σ1.take m) (wO m σ1 x):=by
 have O:(σ1.take m).length=m:=by simp_all
 rcases K with rfl | rfl
 ·exact ⟨.any,b_.any _,.inl rfl,True.intro⟩
 have any:∃s,b_ σD1 (σD1.take m) id (Gk m σD1) x.er s/\RC .any s/\GC (σ1.take m) .any:=⟨.any,b_.any _,.inl rfl,True.intro⟩;have u:∀{b:Nat},Nat.blt b m=true->b<m:=λh=>oS.mp h;cases x with
 |any=>exact any
 |d x=>
  simp only[wO];split
  ·rename_i h;exact ⟨x,b_.low N h,.inr rfl,by show x.low _=true;simp_all⟩
  omega
 |b e=>exact ⟨_,b_.data N rfl,.inr rfl,True.intro⟩
 |sl i l=>exact ⟨_,b_.data N rfl,.inr rfl,True.intro⟩
 |fp i a o=>exact ⟨_,b_.data N rfl,.inr rfl,True.intro⟩
 |fl n=>exact ⟨_,b_.data N rfl,.inr rfl,True.intro⟩
 |cx a b=>exact ⟨_,b_.data N rfl,.inr rfl,True.intro⟩
 |own i b v n=>
  simp only[wO];obtain ⟨blk,f,p⟩:=y;split
  ·rename_i h;exact ⟨_,b_.low N (by simpa[TC.er,OS,D.low] using u h),.inr rfl,blk,lI (u h) f,p⟩
  ·rename_i h;split
   ·rename_i j l T U z;rw[f] at z;simp only[ab] at z;subst z;split
    ·rename_i A;have A:=bP A;obtain ⟨rfl,rfl⟩:=(p _ _ _ _ rfl).2 A.symm;obtain ⟨W,E,G⟩:=H.hp b _ f;unfold RB at G;subst G;have L:Gk m σD1 b:=⟨by
      grind [Nat.blt_eq],_,_,E⟩
     exact ⟨_,b_.bG N L E,.inr rfl,True.intro⟩
    omega
   omega
 |op i b v n k a o=>
  simp only[wO];obtain ⟨blk,f,p⟩:=y;split
  ·rename_i h;exact ⟨_,b_.low N (by grind [TC.er,D.low]),.inr rfl,blk,lI (u h) f,p⟩
  omega
 |zq g M=>
  simp only[wO];split
  ·rename_i h;exact ⟨_,b_.low N (uH h),.inr rfl,by show M.all (CV.low _)=true;simp_all⟩
  omega
 |ap b off len sz k=>
  simp only[wO];split
  ·rename_i h;exact ⟨_,b_.low N (by grind [TC.er,D.low]),.inr rfl,by show b<_;simp_all⟩
  omega
 |os i b v n X len=>
  simp only[wO];obtain ⟨blk,f,p⟩:=y;split
  ·rename_i h;exact ⟨_,b_.low N (by grind [TC.er,D.low]),.inr rfl,blk,lI (u h) f,p⟩
  omega
theorem PY(H:RH σ1 σD1)(hm:m<=σ1.length)(N:Rn m σD1 (σD1.take m) id (Gk m σD1)){xs:List TC}{ds:List D}(f:ar RC xs ds)(a:∀x∈xs,GC σ1 x) :
  ∃es,ar (b_ σD1 (σD1.take m) id (Gk m σD1)) ds es/\ar RC (xs.map (wO m σ1)) es/\∀x∈xs.map (wO m σ1),GC (σ1.take m) x:=by
 induction f with
 |nil=>exact ⟨[],.nil,.nil,by simp⟩
 |cons h r ih=>
  obtain ⟨e,i,j,s⟩:=JQ H hm N h (a _ (li ..));obtain ⟨es,l,p,u⟩:=ih λx b=>a x (kE _ b);exact ⟨e::es,.cons i l,.cons j p,λx b=>by grind⟩
theorem Tx(H:RH σ1 σD1)(hm:m<=σ1.length)(N:Rn m σD1 (σD1.take m) id (Gk m σD1)){al a:TA}{x:RV}{d:D}(e:RR x d)(f:GW al σ1 x) :
  ∃b,b_ σD1 (σD1.take m) id (Gk m σD1) d b/\RR (wG m σ1 x) b/\GW a (σ1.take m) (wG m σ1 x):=by
 have any:∃b,b_ σD1 (σD1.take m) id (Gk m σD1) d b/\RR (.v (.c .any)) b/\GW a (σ1.take m) (.v (.c .any)):=⟨.any,b_.any _,Or.inl rfl,True.intro⟩;cases x with
 |g c w p x=>exact any
 |v x=>
  cases x with
  |c x=>exact JQ H hm N e f
  |aB h=>exact any
  |agg h=>obtain ⟨ds,rfl,i⟩:=e;obtain ⟨j,l,s,u⟩:=PY H hm N i f;exact ⟨_,b_.agg l,⟨j,rfl,s⟩,u⟩
theorem Wh(N:Rn m σD1 (σD1.take m) id (Gk m σD1))(hm:m<=σD1.length){d1 d2:D}(h:ic m d1 d2):b_ σD1 (σD1.take m) id (Gk m σD1) d1 d2:=λM j w v R l=>by
 have p:(σD1.take m).length=m:=by simp_all
 have s:=h σD1 (σD1.take m) M j w v (λb i a u=>⟨a,by grind,rfl⟩) l;have e:mN (σD1.take m).length id M=bN M m:=by rw[p];rfl
 rw[e];exact s.sub (λb a i=>⟨a,i,rfl⟩) (λ_ _ h=>h) (λc h=>⟨.inl h,rfl⟩) (λc f T x h=>⟨f,h,rfl⟩)
theorem XS{pre al:TA}{σ:TH}{alD j:AL}{σD:aa}(R0:Ref al σ alD σD)(K:Ref (pre++al) σ1 j σD1)(he:Ext σ σ1)(O:(σ1.take σ.length).all (okB σ.length)=true) :
  ∃E G,lZ σ.length j σD1 E G/\Ref (pre.map (λp=>(p.1,wG σ.length σ1 p.2))++al) (σ1.take σ.length) E G/\Ext σ (σ1.take σ.length):=by
 have hm:σ.length<=σ1.length:=by
  rcases pY σ1.length σ.length with s | ak
  ·obtain ⟨T,e,_⟩:=he σ1.length _ (cE s)
   simp_all
  omega
 have ad:σ.length<=σD1.length:=by rw[K.hh.len];exact hm
 have U:Ext σ (σ1.take σ.length):=λb blk u=>by
  obtain ⟨T,l,L⟩:=he b blk u
  grind
 have N:=UC K.hh hm O;have z:∀t,∃A,∀x p,dt t (pre.map (λp=>(p.1,wG σ.length σ1 p.2))++al)=some (x,p)->GW (pre.map (λp=>(p.1,wG σ.length σ1 p.2))++al) (σ1.take σ.length) x/\∃y,lk t j=some y/\b_ σD1 (σD1.take σ.length) id (Gk σ.length σD1) y A/\RR x A:=by
  intro t;cases ht:dt t (pre.map (λp=>(p.1,wG σ.length σ1 p.2))++al) with
  |none=>simp_all
  |some q=>
   obtain ⟨x,p⟩:=q;have:∃A,GW (pre.map (λp=>(p.1,wG σ.length σ1 p.2))++al) (σ1.take σ.length) x/\∃y,lk t j=some y/\b_ σD1 (σD1.take σ.length) id (Gk σ.length σD1) y A/\RR x A:=by
    rcases Rg ht with ⟨x0,l,rfl⟩ | ⟨l,L⟩
    ·obtain ⟨y,W,X,h5⟩:=K.rg t x0 p l;obtain ⟨A,h6,h7,h8⟩:=Tx K.hh hm N.toRn X h5;exact ⟨A,h8,y,W,h6,h7⟩
    ·obtain ⟨y,W,X,_⟩:=K.rg t x p l;obtain ⟨_,_,_,h5⟩:=R0.rg t x p L;obtain ⟨A,h6,h7⟩:=UW X h5;exact ⟨A,h5.mono U _,y,W,Wh N.toRn ad h6,h7⟩
   simp_all
 refine ⟨(pre.map (λp=>(p.1,wG σ.length σ1 p.2))++al).map λp=>(p.1,Classical.choose (z p.1)),σD1.take σ.length,lZ.rn N (λb u=>u.1) (λt d h=>?_),⟨⟨?_,λb blk u=>?_,λb w cs u p hp=>?_⟩,λt x p h=>?_⟩,U⟩
 ·obtain ⟨⟨x,p,W⟩,rfl⟩:=xy (f:=λt=>Classical.choose (z t)) h
  grind
 ·simp_all
 ·have s:b<σ.length:=by grind
  rw[Ya s] at u;obtain ⟨ob,l,L⟩:=K.hh.hp b blk u
  grind
 ·have s:b<σ.length:=by grind
  have af:=u;rw[Ya s] at u;obtain ⟨l,L⟩:=K.hh.hg b w cs u p hp;refine ⟨?_,L⟩;have hk:okB σ.length (.cells w cs)=true:=eG.1 O _ (sT af);have hk:=eG.1 hk p hp;have bt:∀{b:Nat},Nat.blt b σ.length=true->b<σ.length:=λh=>oS.mp h;cases M:p.2 with
  |own i b v n=>rw[M] at l hk;obtain ⟨blk,Z,g2⟩:=l;exact ⟨blk,lI (bt hk) Z,g2⟩
  |op i b v n k a o=>rw[M] at l hk;obtain ⟨blk,Z,g2⟩:=l;exact ⟨blk,lI (bt hk) Z,g2⟩
  |os i b v n lo len=>rw[M] at l hk;obtain ⟨blk,Z,g2⟩:=l;exact ⟨blk,lI (bt hk) Z,g2⟩
  |ap b off len sz k=>rw[M] at hk;show b<_;rw[zp];have:=bt hk;omega
  |zq g xs=>rw[M] at hk;show xs.all (CV.low _)=true;rw[zp,show min σ.length σ1.length=σ.length by omega];exact hk
  |d x=>rw[M] at hk;show x.low _=true;rw[zp,show min σ.length σ1.length=σ.length by omega];exact hk
  |_=>exact True.intro
 ·obtain ⟨l,y,L,W,X⟩:=yBG (z t) x p h;exact ⟨_,CY (f:=λt=>Classical.choose (z t)) ⟨x,p,h⟩,X,l⟩
theorem qv{h:JH}{md:List Nat}{pre al:TA}{σ:TH}{alD a:AL}{σD:aa}{x:l_ h.pl}(y:Ref al σ alD σD)(l:Ref (pre++al) σ1 a σD1)(p:Ext σ σ1)(j:wI h md al σ (pre++al) σ1=some x) :
  ∃i am b f,lZ σ.length a σD1 b f/\Ref (i++al) am b f/\Ext σ am/\DU h md al σ (i++al) am=some x:=by
 unfold wI at j;split at j
 ·rename_i s;obtain ⟨b,f,A,E,G⟩:=XS y l p s;rw[show (pre++al).length-al.length=pre.length by simp_all,OC] at j
  grind
 ·refine ⟨pre,σ1,a,σD1,lZ.refl ?_,l,p,j⟩;rw[l.hh.len];rcases pY σ1.length σ.length with u | z
  ·obtain ⟨v,e,_⟩:=p σ1.length _ (cE u)
   simp_all
  omega
end
end Go.Abs
end
