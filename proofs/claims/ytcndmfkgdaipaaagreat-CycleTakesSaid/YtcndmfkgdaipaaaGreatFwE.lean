/- Lemmas. -/
import Derived.Test.YtcndmfkgdaipaaaGreatFwD
import Derived.ScopeJumps
set_option linter.all false
section
namespace Go.Abs
noncomputable section
variable[Gl][Y:Ty]
variable{P:Program}{n:Nat}{alD:AL}{σ σ1:TH}{σD σD1:ar}{o:kE}{Q:TV->TH->Bool->List Nat->Prop}{rd:aQ->Option TV}{S:sC}{hint:Nat}{R:Type}{k:KO R}{r:R}{orc:wx}
abbrev np(P:Program)(orc:wx)(n:Nat)(alD:AL)(σ:TH)(σD:ar)(o:kE)(k:KO R)(r:R):Prop:=dt P orc n alD σ σD o (λv σ1 rs wr=>k v σ1 rs wr=some r)
theorem AH{cs:List TC}{ds:List D}(h:ds=cs.map TC.er):RB (.cells 0 (cs.map λc=>(0,c))) (.cells ds):=by grind [RB,TB.er,Function.comp_def]
theorem Ee{cs:List TC}(g:∀x∈cs,GC σ x):∀w a,TB.cells 0 (cs.map λc=>(0,c))=.cells w a->∀p∈a,GC σ p.2/\p.1<=w:=by simp_all
theorem tbox_ok{x:aQ}(e:dC σ alD rd)(H:RH σ σD)(h:h_ P S hint (.box x) rd σ k=some r):np P orc n alD σ σD (.box x) k r:=by
 simp only[h_] at h;split at h
 ·rename_i v f;obtain ⟨d,i,j,l⟩:=e _ _ f;split at h
  ·rename_i b a;obtain ⟨p,s,_⟩:=qg a j;refine dt.new (v:=.c (.d (.ptr σ.length 0 b.length))) (d:=.ptr σ.length 0 b.length) (ob:=.cells (b.map TC.er)) (op_box i p (by rw[H.len,wX]) rfl) (Or.inr rfl) ?_ H (AH rfl) (Ee (uX a l)) h;show D.low _ _=true;simp[D.low]
  simp_all
 simp_all
theorem TW{z:List D}(H:RH σ σD)(h:h_ P S hint (.alloc z) rd σ k=some r):np P orc n alD σ σD (.alloc z) k r:=by
 simp only[h_] at h;split at h
 ·rename_i hl;have e:(z.map λc=>((0:Nat),TC.d c))=(z.map TC.d).map λc=>(0,c):=by simp
  rw[e] at h;refine dt.new (v:=.c (.d (.ptr σ.length 0 z.length))) (d:=.ptr σ.length 0 z.length) (ob:=.cells z) (Lw (by rw[H.len]) rfl) (Or.inr rfl) ?_ H (AH (by simp[TC.er,Function.comp_def])) (Ee (Ir hl)) h;show D.low _ _=true;simp[D.low]
 simp_all
theorem UG{z:List D}{ps:List (Nat×Nat×aQ)}(b:dC σ alD rd)(H:RH σ σD)(h:h_ P S hint (.build z ps) rd σ k=some r):np P orc n alD σ σD (.build z ps) k r:=by
 simp only[h_] at h;split at h
 ·rename_i e hl a;obtain ⟨ds,f,i,j⟩:=EO b a (aK.ds z) (Ir hl);exact dt.pure (v:=.agg e) (Yq f) ⟨ds,rfl,i⟩ j H h
 simp_all
theorem po{i b m:Nat}{l:List (TT i)}(hm:m=l.length):GC (σ++[TB.row i l 0 0]) (.own i σ.length 0 m):=by
 refine ⟨_,by rw[KP (cO _),yC3];rfl,λj a f h e=>?_⟩
 grind
theorem Yl:∀{cs:List TC},Sp cs=true->∀y∈cs,y≠.any:=by
 intro cs;induction cs with
 |nil=>simp_all
 |cons x cs ih=>
  intro h y a;simp only[Sp,bI,im] at h
  grind [isAny]
theorem PJ{es len:Nat}{z:List D}{ps:List (Nat×Nat×aQ)}(u:dC σ alD rd)(H:RH σ σD)(h:h_ P S hint (.jf es len z ps) rd σ k=some r):np P orc n alD σ σD (.jf es len z ps) k r:=by
 simp only[h_] at h;split at h
 ·split at h
  ·rename_i f hl a;obtain ⟨ds,j,p,x⟩:=EO u a (aK.ds (dG len z)) (HF hl len);split at h
   rotate_left
   ·simp at h
   rename_i s;have e:ds=f.map TC.er:=p.eq (Yl s);refine dt.new (v:=.c (.d (.sl σ.length 0 len es f.length))) (d:=.sl σ.length 0 len es ds.length) (blk:=.cells 0 (f.map λc=>(0,c))) (ob:=.cells ds) (Gf j (by rw[H.len]) rfl) (Or.inr ?_) ?_ H (AH e) (Ee x) h
   ·rw[e,wX];rfl
   ·show D.low _ _=true;simp[D.low]
  simp_all
 split at h
 ·rename_i f hl a;simp only[bI] at hl;have A:=dd hl.1;subst A;split at h
  ·rename_i l i;obtain ⟨ds,j,p,x⟩:=EO u a (aK.ds (dG len z)) (HF hl.2 len);obtain ⟨E,y⟩:=Zm i p;refine dt.new (v:=.c (.own hint σ.length 0 len)) (d:=OS (aA hint) σ.length len) (ob:=OB (enc hint) l) (js j E y (tj hint) rfl (by rw[H.len]) rfl) (Or.inr rfl) (po (b:=0) y.symm) H rfl (λw f e=>by simp at e) h
  simp_all
 simp_all
theorem UM{x:aQ}(e:dC σ alD rd)(H:RH σ σD)(h:h_ P S hint (.me x) rd σ k=some r):np P orc n alD σ σD (.me x) k r:=by
 simp only[h_] at h;split at h
 ·rename_i a;obtain ⟨b,g⟩:=e.c a (by simp);exact dt.one h (MT b) rfl g H
 ·rename_i a;obtain ⟨b,g⟩:=e.c a (by simp);exact dt.one h (UR b) rfl g H
 ·rename_i a;obtain ⟨b,g⟩:=e.c a (by simp);exact dt.one h (Hn b) rfl g H
 ·rename_i a;obtain ⟨b,g⟩:=e.c a (by simp);exact dt.one h (TS b) rfl g H
 ·rename_i a;obtain ⟨b,g⟩:=e.c a (by simp);exact dt.one h (MT b) rfl g H
 ·rename_i a;obtain ⟨b,g⟩:=e.c a (by simp);exact dt.one h (Hn b) rfl g H
 simp_all
theorem UB{i:Nat}{neg:Bool}{x:aQ}(f:dC σ alD rd)(H:RH σ σD)(h:h_ P S hint (.iR i neg x) rd σ k=some r):np P orc n alD σ σD (.iR i neg x) k r:=by
 simp only[h_] at h;split at h
 ·rename_i y e;obtain ⟨a,g⟩:=f.c e (by simp);split at h
  ·rename_i hb;exact dt.one h (fi a hb) (by cases neg <;> rfl) rfl H
  ·rename_i hb;exact dt.one h (fi a hb) (by cases neg <;> rfl) rfl H
  simp_all
 ·rename_i e;obtain ⟨a,g⟩:=f.c e (by simp);split at h
  ·exact dt.one h (fi (b:=false) a rfl) (by cases neg <;> rfl) rfl H
  simp_all
 ·rename_i e;obtain ⟨a,g⟩:=f.c e (by simp);split at h
  ·exact dt.one h (fi (b:=false) a rfl) (by cases neg <;> rfl) rfl H
  simp_all
 simp_all
theorem tfld_ok{off:Nat}{x:aQ}(e:dC σ alD rd)(H:RH σ σD)(h:h_ P S hint (.Gz off x) rd σ k=some r):np P orc n alD σ σD (.Gz off x) k r:=by
 simp only[h_] at h;split at h
 ·rename_i a;obtain ⟨b,g⟩:=e.c a (by simp);exact dt.one h (Jw b) rfl g H
 ·rename_i a;obtain ⟨b,g⟩:=e.c a (by simp);exact dt.one h (op_fldf b) rfl True.intro H
 ·rename_i a;obtain ⟨b,g⟩:=e.c a (by simp);exact dt.one h (Jw b) (by grind [TC.er]) g H
 simp_all
theorem op_idxR{len j es b off sz:Nat}{x i:aQ}{q:Int}(h:lx alD x=some (.ptr b off sz))(hi:lx alD i=some (I q))(hk:BH q len=some j):eT P orc n alD σD (.idx es (some len) x i) (.ptr b (off+j * es) sz) σD []:=λe a=>by grind [bp,tf,fF]
theorem op_good{i b v q:Nat}{k:Int}{a:TT i}{l:List (TT i)}{h f:Nat}(hb:σ[b]? = some (.row i l h f))(p:aE l k=some a):GC σ (.op i b f l.length k a 0):=by
 refine ⟨_,hb,λj x s u e=>?_⟩;simp only[TB.row.injEq] at e;obtain ⟨rfl,hl,rfl,rfl⟩:=e;cases hl;refine ⟨cO _,λ_=>⟨l,?_,rfl,p⟩⟩;unfold iy;split
 ·rfl
 omega
theorem op_idxG{g len es:Nat}{x i:aQ}{q z a:Int}{l:List Int}(h:lx alD x=some (.c (.Vp g)))(hi:lx alD i=some (I q))(b:aE (z::l) q=some a)(f:Gl.tab g=(z::l).map λz=>.int .i64 z)(hl:(z::l).length=len) :
  eT P orc n alD σD (.idx es (some len) x i) (.c (.cz ((Gl.tab g).map .lit) (q.toNat * es))) σD []:=λe j=>by
 obtain ⟨p,s,u⟩:=nR b;have v:BH q len=some q.toNat:=by unfold BH;simp_all
 grind [bp,tf,fF]
theorem tidx_ok{es:Nat}{len:Option Nat}{x i:aQ}(s:dC σ alD rd)(H:RH σ σD)(h:h_ P S hint (.idx es len x i) rd σ k=some r):np P orc n alD σ σD (.idx es len x i) k r:=by
 cases len with
 |none=>
  simp only[h_] at h;split at h
  ·rename_i j l K u hi;obtain ⟨y,g⟩:=s.c u (by simp);split at h
   ·rename_i q p f;have f:=dd f;subst f;obtain ⟨a,A,hk⟩:=Ah h;exact dt.one hk (Xb y (s.int hi p) A (tj j a)) rfl True.intro H
   simp_all
  ·rename_i j b v m K u hi;obtain ⟨y,g⟩:=s.c u (by simp);split at h
   ·rename_i q j' l lv cv p f hb;have f:=dd f;subst f;split at h
    ·rename_i l' T hl;obtain ⟨a,A,hk⟩:=Ah h;obtain ⟨rfl,rfl⟩:=vD H g hb T;have E:=zq H hb hl;rw[hb] at E;simp only[au,TB.row.injEq,heq_eq_eq,true_and,Kv] at E;subst E;exact dt.one hk (Qo (tj _) y (H.row hb) rfl (s.int hi p) A) rfl (op_good (v:=0) (q:=0) hb A) H
    simp_all
   simp_all
  ·rename_i b off ln U sz K u hi;obtain ⟨y,g⟩:=s.c u (by simp);split at h
   ·rename_i q w cs p hb;obtain ⟨ds,N,O,W,_⟩:=H.cells hb;split at h
    ·rename_i j L M;simp only[bI] at L;have e1:=dd L.1;have X:=dd L.2;subst X;exact dt.one h (op_idxS (cs:=ds) y (s.int hi p) (OK N (by omega)) M rfl) rfl g H
    simp_all
   simp_all
  simp_all
 |some len=>
  cases i with
  |k i=>
   simp only[h_] at h;split at h
   ·rename_i b off sz q u p;obtain ⟨y,g⟩:=s.c u (by simp);split at h
    ·rename_i j M;have hi:lx alD (.k i)=some (I q):=by
      have:=Rs (d:=i) p (by
       unfold Hf at p ⊢;split at p
       ·grind [lz]
       ·exact Or.inr rfl)
      grind [lx]
     exact dt.one h (op_idxR y hi M) rfl g H
    simp_all
   simp_all
  |t i=>
   simp only[h_] at h;split at h
   ·rename_i b off sz K u hi;obtain ⟨y,g⟩:=s.c u (by simp);split at h
    ·rename_i q w cs p f hb;have f:=dd f;subst f;obtain ⟨ds,N,O,W,_⟩:=H.cells hb;split at h
     ·rename_i l hs hl;simp only[bI] at hs;obtain ⟨a,A,hk⟩:=Ah h;have Z:=IP hl ((O.drop off).take len);have e:l.length=len:=by
       have:=HE List.length Z;have q1:=dd hs.1;have q2:=BW hs.2
       grind
      have G:b<σ.length:=(eY.1 hb).1;exact dt.one hk (op_idxA y (s.int hi p) A e rfl) rfl G H
     simp_all
    simp_all
   ·rename_i g K u hi;obtain ⟨y,_⟩:=s.c u (by simp);split at h
    ·rename_i q z l p f hl;have f:=dd f;subst f;split at h
     ·rename_i e;have e:=dd e;obtain ⟨a,A,hk⟩:=Ah h;exact dt.one hk (op_idxG y (s.int hi p) A (XT hl) e) rfl rfl H
     simp_all
    simp_all
   simp_all
theorem op_slcO{α:Type}{f:α->List C}{aA:Nat}{x:aQ}{v hi:Option aQ}{b:Nat}{l r:List α}{i j:Int}(G:∀a,(f a).length=aA)(h:lx alD x=some (OS aA b l.length))(hb:σD[b]? = some (OB f l))(p:(match v with | none=>some (I 0) | some o=>lx alD o)=some (I i))
  (s:(match hi with | none=>some (I l.length) | some o=>lx alD o)=some (I j)) (y:slice? l i j=some r):eT P orc n alD σD (.UX aA x v hi) (.sl b (0+i.toNat * aA) (j.toNat-i.toNat) aA (l.length * aA)) σD []:=λe z=>by
 unfold slice? at y;split at y
 ·rename_i A;have u:nQ σD b (l.length * aA)=some ((l.flatMap f).map .c):=OK hb (by
   rw[wX];clear hb h p s y A;induction l with
   |nil=>simp
   |cons a l ih=>grind)
  have E:nN e l.length l.length hi=some j.toNat:=by
   cases hi with
   |none=>simp only[au,I,D.c.injEq,C.lit.injEq,Value.int.injEq,true_and] at s;grind [nN]
   |some o=>
    simp only at s;simp only[nN,fF z s,tf,aw,QC]
    grind
  have hl:nN e 0 j.toNat v=some i.toNat:=by
   cases v with
   |none=>simp only[au,I,D.c.injEq,C.lit.injEq,Value.int.injEq,true_and] at p;grind [nN]
   |some o=>
    simp only at p;simp only[nN,fF z p,tf,aw,QC]
    grind
  simp only[bp,fF z h,u,E,hl,eR,aw,if_true,Option.orElse]
 simp_all
theorem tslc_ok{es:Nat}{x:aQ}{E hi:Option aQ}(y:dC σ alD rd)(H:RH σ σD)(h:h_ P S hint (.UX es x E hi) rd σ k=some r):np P orc n alD σ σD (.UX es x E hi) k r:=by
 simp only[h_] at h;split at h
 ·rename_i j l L;obtain ⟨M,g⟩:=y.c L (by simp);split at h
  ·rename_i u v f N O;have f:=dd f;subst f;split at h
   ·rename_i z G p s;obtain ⟨a,K,hk⟩:=Ah h;refine dt.one hk (op_slc (i:=z) (j:=G) (tj j) M ?_ ?_ K) rfl True.intro H
    ·cases E with
     |none=>grind [lz]
     |some o=>exact y.int N p
    ·cases hi with
     |none=>grind [lz]
     |some o=>exact y.int O s
   simp_all
  simp_all
 ·rename_i j b X n L;obtain ⟨M,g⟩:=y.c L (by simp);split at h
  ·rename_i W l lv cv f hb;have f:=dd f;subst f;split at h
   ·rename_i u v A N O;obtain ⟨rfl,rfl⟩:=vD H g hb A;split at h
    ·rename_i z G p s;obtain ⟨a,K,hk⟩:=Ah h;have T:=H.row hb;refine ⟨.c (.os W b X l.length z.toNat (G.toNat-z.toNat)),σ,false,[],_,σD,op_slcO (l:=l) (i:=z) (j:=G) (tj W) M T ?_ ?_ K,.inr rfl,?_,H,Ext.refl σ,λ_=>rfl,λ_=>⟨rfl,rfl,rfl⟩,hk⟩
     ·cases E with
      |none=>grind [lz]
      |some o=>exact y.int N p
     ·cases hi with
      |none=>grind [lz]
      |some o=>exact y.int O s
     ·refine ⟨_,hb,λj l' Z aa e=>?_⟩;simp only[TB.row.injEq] at e;obtain ⟨rfl,U,rfl,rfl⟩:=e;cases U;have ab:=dd A;unfold slice? at K
      grind
    simp_all
   simp_all
  simp_all
 simp_all
theorem SI(H:RH σ σD)(h:h_ P S hint .uy rd σ k=some r):np P orc n alD σ σD .uy k r:=by simp only[h_] at h;exact dt.new (v:=.c (.d (.mp σ.length))) (d:=.mp σ.length) (blk:=.mp (hint / 2) (Nat.beq (hint % 2) 1) [] 0) (ob:=MB (P_ (hint / 2) (Nat.beq (hint % 2) 1)) []) (Yc (g:=P_ (hint / 2) (Nat.beq (hint % 2) 1)) (by rw[H.len]) rfl) (Or.inr rfl) (by show D.low _ _=true;simp[D.low]) H rfl (λw a e=>by simp at e) h
theorem XU(j:Nat)(a:TT j):((exp j a).headD (.d (.c (.lit undef)))).er=.c ((enc j a).headD (.lit undef)):=by
 have h:=tn j a;cases b:exp j a with
 |nil=>
  rw[b] at h;cases e:enc j a with
  |nil=>rfl
  |cons c f=>simp_all
 |cons x i=>
  rw[b] at h;cases e:enc j a with
  |nil=>simp_all
  |cons c f=>simp_all
theorem mpV_ok(j:Nat)(st:Bool)(a:TT j):RT (mpV j st a) (P_ j st a)/\GV σ (mpV j st a):=by
 cases st with
 |true=>exact ⟨⟨_,rfl,by rw[<-tn];exact aK.er _⟩,uV j a⟩
 |false=>
  refine ⟨.inr ?_,?_⟩
  ·rw[XU];rfl
  ·show GC σ ((exp j a).headD (.d (.c (.lit undef))));cases e:exp j a with
   |nil=>rfl
   |cons x b=>grind [uV]
theorem Mn{ok e:Bool}{v:TV}{d:D}(h:RT v d)(g:GV σ v)(f:∀xs,v≠.aT xs):RT (MG ok v e) (if ok then .aT [d,B e] else d)/\GV σ (MG ok v e):=by
 cases ok with
 |false=>exact ⟨h,g⟩
 |true=>
  cases v with
  |aT xs=>simp_all
  |c x => exact ⟨⟨_, rfl, .cons ⟨x, rfl, h⟩ (.cons ⟨_, rfl, .inr rfl⟩ .nil)⟩, λp a y b => by
    rcases gu.1 a with rfl | a
    ·rcases gu.1 b with rfl | b
     ·exact g
     simp_all
    ·rcases gu.1 a with rfl | a
     ·rcases gu.1 b with rfl | b
      ·rfl
      simp_all
     simp_all⟩
  |agg xs=>exact ⟨⟨_,rfl,.cons h (.cons ⟨_,rfl,.inr rfl⟩ .nil)⟩,λp a y b=>by
    rcases gu.1 a with rfl | a
    ·exact g y b
    ·rcases gu.1 a with rfl | a
     ·rcases gu.1 b with rfl | b
      ·rfl
      simp_all
     simp_all⟩
theorem mpV_nt(j:Nat)(st:Bool)(a:TT j):∀xs,mpV j st a≠.aT xs:=by intro xs h;cases st <;> simp[mpV] at h
theorem ofD_nt(d:D):∀xs,Hf d≠.aT xs:=by intro xs h;cases d <;> simp[Hf] at h
theorem ofD_okg{d:D}(h:d.low 0=true):RT (Hf d) d/\GV σ (Hf d):=by
 have one:∀d:D,d.low 0=true->RT (.c (.d d)) d/\GV σ (.c (.d d)):=λd h=>⟨.inr rfl,D.eE (PF _) h⟩;cases d with
 |agg ds=>simp only[D.low] at h;refine ⟨⟨ds,rfl,aK.ds ds⟩,λx a=>?_⟩;rw[iP] at a;obtain ⟨y,b,rfl⟩:=a;exact DG h y b
 |_=>exact one _ h
theorem YH{R:Type}{r:R}:∀{a:List Nat}{n:Nat}{f:Nat->Option R},Ku a n f=some r->f n=some r:=by
 intro a;induction a with
 |nil=>intro n f h;simp[Ku] at h
 |cons g a ih=>
  intro n f h;simp only[Ku] at h;cases e:Nat.beq n g with
  |true=>rw[e] at h;rw[dd e];exact h
  |false=>rw[e] at h;exact ih h
theorem splC_ok{R:Type}{r:R}:∀{cs:List CC}{x:aT cs}{k:List TC->Option R},splC cs x k=some r->k (uw cs x)=some r:=by
 intro cs;induction cs with
 |nil=>intro x k h;exact h
 |cons c cs ih=>
  intro x k h;cases c with
  |fk a=>exact ih (YH h)
  |_=>exact ih h
theorem lkS_ok{R:Type}{r:R}{hint j:Nat}{st:Bool}{a:TT j}{k:TV->Option R}(h:lkS hint j st a k=some r):k (mpV j st a)=some r:=by
 unfold lkS at h;split at h
 ·exact splC_ok h
 ·exact h
theorem OG{kind:TypeDesc}{zero:D}{m A:aQ}{ok:Bool}(i:dC σ alD rd)(H:RH σ σD)(h:h_ P S hint (.lookup kind zero m A ok) rd σ k=some r):np P orc n alD σ σD (.lookup kind zero m A ok) k r:=by
 simp only[h_] at h;split at h
 ·rename_i O b T L hk M;obtain ⟨E,g⟩:=i.c L (by simp);split at h
  ·rename_i j st l v x hb G;obtain ⟨N,K,p⟩:=H.hp b _ hb;have p:N=MB (P_ j st) l:=p;subst p;cases f:dq l x with
   |none=>rw[f] at h;obtain ⟨s,u⟩:=ofD_okg (σ:=σ) M;obtain ⟨y,z⟩:=Mn (ok:=ok) (e:=false) s u (ofD_nt zero);exact dt.pure (XY E K (i.int hk G) f rfl) y z H h
   |some a=>rw[f] at h;obtain ⟨s,u⟩:=mpV_ok (σ:=σ) j st a;obtain ⟨y,z⟩:=Mn (ok:=ok) (e:=true) s u (mpV_nt j st a);exact dt.pure (aac E K (i.int hk G) f rfl) y z H (lkS_ok (k:=λv=>k (MG ok v true) σ false []) h)
  ·simp at h
 ·simp at h
theorem mkM_ok{j:Nat}{st:Bool}{v:TV}{d:D}{a:TT j}(h:mkM j st v=some a)(r:RT v d):d=P_ j st a:=by
 unfold mkM at h;split at h
 ·rename_i l;obtain ⟨ds,rfl,i⟩:=r;obtain ⟨f,b⟩:=xY h;rw[i.eq b,f];rfl
 ·rename_i x;obtain ⟨f,b⟩:=xY h;have:=RT.c1 (b x (rJ ..)) r;subst this;cases e:enc j a with
  |nil=>simp_all
  |cons c p=>grind [P_]
 simp_all
theorem tupd_ok{kind:TypeDesc}{m z x:aQ}(s:dC σ alD rd)(H:RH σ σD)(h:h_ P S hint (.xy kind m z x) rd σ k=some r):np P orc n alD σ σD (.xy kind m z x) k r:=by
 simp only[h_] at h;split at h
 ·rename_i O b T v A hk E;obtain ⟨G,g⟩:=s.c A (by simp);obtain ⟨d,K,L,U⟩:=s _ _ E;split at h
  ·rename_i j st l ver i hb hi;obtain ⟨M,u,y⟩:=H.hp b _ hb;have y:M=MB (P_ j st) l:=y;subst y;split at h
   ·rename_i a N;have:=mkM_ok N L;subst this;have f:BE (.mp j st l ver) (.mp j st (kr l i a) (ver+1)):=⟨_,_,_,_,rfl,by omega,λe=>by omega⟩;refine ⟨_,_,_,_,.aT [],σD.set b (MB (P_ j st) (kr l i a)),op_upd G u (s.int hk hi) K rfl,rt0,?_,H.set hb f rfl (λw W e=>by simp at e),Ext.set hb f,λ_=>?_,λe=>by grind [xc],h⟩
    ·intro p X;grind
    ·simp only[ko,Rv,List.all_nil,NP];rw[u,FV u];rfl
   simp_all
  simp_all
 simp_all
theorem tlen_ok{x:aQ}(f:dC σ alD rd)(H:RH σ σD)(h:h_ P S hint (.len x) rd σ k=some r):np P orc n alD σ σD (.len x) k r:=by
 simp only[h_] at h;split at h
 ·rename_i i l a;obtain ⟨e,g⟩:=f.c a (by simp);exact dt.one h (Wb e) rfl rfl H
 ·rename_i a;obtain ⟨e,g⟩:=f.c a (by simp);exact dt.one h (op_len0 e) rfl rfl H
 ·rename_i i b v q a;obtain ⟨e,g⟩:=f.c a (by simp);split at h
  ·rename_i j l y z hb;split at h
   ·rename_i p;obtain ⟨rfl,rfl⟩:=vD H g hb p;exact dt.one h (Oy (tj _) e (H.row hb) rfl) rfl rfl H
   simp_all
  simp_all
 ·rename_i b off A E sz a;obtain ⟨e,g⟩:=f.c a (by simp);split at h
  ·rename_i w cs hb;obtain ⟨ds,s,G,K,_⟩:=H.cells hb;split at h
   ·rename_i u;have L:=dd u;exact dt.one h (op_lenS (cs:=ds) e (OK s (by omega)) rfl) rfl rfl H
   simp_all
  simp_all
 simp_all
theorem tmk_ok{es a:Nat}{z:List D}{x y:aQ}(j:dC σ alD rd)(H:RH σ σD)(h:h_ P S hint (.mk es a z x y) rd σ k=some r):np P orc n alD σ σD (.mk es a z x y) k r:=by
 simp only[h_] at h;split at h
 ·rename_i L u v f K p s;simp only[bI] at f;have A:=dd f.1;subst A;split at h
  ·rename_i T M E i;obtain ⟨l,hl,hk⟩:=Ah h;obtain ⟨N,_⟩:=xY K;have G:z=(enc hint L).map .c:=by rw[<-N];simp[TC.er,Function.comp_def]
   refine dt.new (v:=.c (.own hint σ.length 0 l.length)) (d:=OS (aA hint) σ.length l.length) (ob:=OB (enc hint) l) (op_mk (j.int p E) (j.int s i) G hl f.2.1 (by rw[H.len]) rfl) (Or.inr rfl) (po (b:=0) rfl) H rfl (λw O e=>by simp at e) hk
  simp_all
 ·rename_i v f K p s;simp only[bI] at f;have A:=dd f.1;subst A;split at h
  ·rename_i M i;obtain ⟨l,hl,hk⟩:=Ah h;refine dt.new (v:=.c (.own hint σ.length 0 l.length)) (d:=OS (aA hint) σ.length l.length) (ob:=OB (enc hint) l) (op_mk0 (j.int p rfl) (j.int s i) hl f.2.1 (by rw[H.len]) rfl) (Or.inr rfl) (po (b:=0) rfl) H rfl (λw O e=>by simp at e) hk
  simp_all
 simp_all
theorem tapp_ok{es p:Nat}{s x:aQ}(z:dC σ alD rd)(H:RH σ σD)(h:h_ P S hint (.append es p s x) rd σ k=some r):np P orc n alD σ σD (.append es p s x) k r:=by
 simp only[h_] at h;split at h
 ·rename_i i b v q y hs A;obtain ⟨E,g⟩:=z.c hs (by simp);obtain ⟨d,G,K,L⟩:=z _ _ A;split at h
  ·rename_i j l X cv hb;split at h
   ·rename_i l' m f hl M;simp only[bI] at f;have N:=dd f.2.1;subst N;obtain ⟨rfl,rfl⟩:=vD H g hb f.1;have u:=zq H hb hl;rw[hb] at u;simp only[au,TB.row.injEq,heq_eq_eq,true_and,Kv] at u;subst u;obtain ⟨W,Z,hk⟩:=Ah h;have O:BE (.row j l X cv) (.row j W (X+1) (cv+1)):=⟨_,_,_,rfl,by omega,by omega,λe=>by omega,λe=>by omega⟩;refine ⟨.c (.own j b (X+1) W.length),_,true,[b],OS (aA j) b W.length,_,vj (tj j) E (H.row hb) rfl G (Iz H M K L) Z f.2.2 rfl rfl,Or.inr rfl,?_,H.set hb O rfl (λw cs e=>by simp at e),Ext.set hb O,λe=>by simp at e,λe=>by grind [xc],hk⟩;refine ⟨_,FV hb,λj' l' aa ab e=>?_⟩
    grind
   simp_all
  simp_all
 ·rename_i i b v q hs A;obtain ⟨E,_⟩:=z.c hs (by simp);obtain ⟨d,G,K,L⟩:=z _ _ A;split at h
  ·rename_i a l f M;simp only[bI] at f;have N:=dd f.1;subst N;split at h
   ·rename_i T;exact dt.new (v:=.c (.own i σ.length 0 (a::l).length)) (d:=OS (aA i) σ.length (a::l).length) (ob:=OB (enc i) (a::l)) (DT E G (Iz H M K L) T f.2 (by rw[H.len]) rfl) (Or.inr rfl) (po (b:=0) rfl) H rfl (λw cs e=>by simp at e) h
   simp_all
  simp_all
 ·rename_i i U hs A;obtain ⟨E,_⟩:=z.c hs (by simp);obtain ⟨d,G,K,L⟩:=z _ _ A;split at h
  ·rename_i f;simp only[bI] at f;have N:=dd f.1;subst N;rw[cZ] at h;obtain ⟨W,Z,h⟩:=h;obtain ⟨T,e⟩:=uD Z;rw[e] at h;have M:Uu i σ (.c (.sl i U))=some ([]++U):=by
    simp only[Uu,iy,Aj];split
    ·rfl
    omega
   exact dt.new (v:=.c (.own i σ.length 0 ([]++U).length)) (d:=OS (aA i) σ.length ([]++U).length) (ob:=OB (enc i) ([]++U)) (DT E G (Iz H M K L) (Nat.ble_eq.mpr (by simp_all)) f.2 (by rw[H.len]) rfl) (Or.inr rfl) (po (b:=0) rfl) H rfl (λw cs e=>by simp at e) h
  simp_all
 simp_all
theorem M_{x:aQ}{i:Nat}(p:dC σ alD rd)(H:RH σ σD)(h:h_ P S hint (.extract x i) rd σ k=some r):np P orc n alD σ σD (.extract x i) k r:=by
 simp only[h_] at h;split at h
 ·rename_i A s;obtain ⟨d,f,⟨ds,rfl,j⟩,l⟩:=p _ _ s;split at h
  ·rename_i u hi;obtain ⟨d,a,z,rfl,b⟩:=j.get _ _ hi;exact dt.pure (v:=.agg u) (Dx f a) ⟨z,rfl,b⟩ (l _ (yP hi)) H h
  ·rename_i c hi;obtain ⟨d,a,y,e,b⟩:=j.get _ _ hi;simp only[yCe,Kv] at e;subst e;exact dt.pure (v:=.c c) (Dx f a) b (l _ (yP hi) c (by simp)) H h
  simp_all
 simp_all
theorem VP:∀{vs:List TV}{xs:List D}{ds:List D},vs.mapM (λv=>(match v with | .c (.d x)=>some x | _=>none))=some xs->fU vs ds->(∀v∈vs,GV σ v)->ds=xs/\D.low.cU σ.length xs=true:=by
 intro vs;induction vs with
 |nil=>intro xs ds h r _;simp only[List.mapM_nil] at h;cases h;cases r;exact ⟨rfl,rfl⟩
 |cons v vs ih=>
  intro xs ds h r g;cases r with
  |cons b r=>
   rw[Uq] at h;split at h
   ·rename_i x;cases a:vs.mapM (λv=>(match v with | .c (.d x)=>some x | _=>none)) with
    |none=>simp_all
    |some l=>rw[a] at h;cases h;obtain ⟨e,f⟩:=ih a r λv i=>g v (nS _ i);have j:=RT.c1 (by simp) b;subst e j;refine ⟨rfl,?_⟩;simp only[D.low.cU,f,NP];exact g _ (rJ ..)
   simp_all
theorem cvOf_ok{σ:TH}{xs:List TC}{cs:List CV}{ds:List D}(h:xs.mapM Yo=some cs)(r:aK RC xs ds)(g:∀x∈xs,GC σ x):ds=cs.map CV.er/\cs.all (CV.low σ.length)=true:=by
 induction r generalizing cs with
 |nil=>simp_all
 | @cons x d xs ds h1 r ih=>
  rw[Uq] at h;cases a:Yo x with
  |none=>simp_all
  |some c=>
   cases hs:xs.mapM Yo with
   |none=>simp_all
   |some f=>
    rw[a,hs] at h;cases h;obtain ⟨b,e⟩:=ih hs λy i=>g y (nS _ i);have j:=g x (rJ ..);unfold Yo at a;split at a <;> cases a
    ·have:=RT.c1 (x:=.d _) (by simp) h1;subst this;exact ⟨by rw[b];rfl,by simp only[Rv,e,NP];exact j⟩
    ·have:=RT.c1 (x:=.b _) (by simp) h1;subst this;exact ⟨by rw[b];rfl,by simp only[Rv,e,NP];rfl⟩
    ·have:=RT.c1 (x:=.sl _ _) (by simp) h1;subst this;exact ⟨by rw[b];rfl,by simp only[Rv,e,NP];rfl⟩
theorem VU{f:Fn}{first cap:List aQ}(p:dC σ alD rd)(H:RH σ σD)(h:h_ P S hint (.DN f first cap) rd σ k=some r):np P orc n alD σ σD (.DN f first cap) k r:=by
 simp only[h_] at h;split at h
 ·rename_i a b z hb;obtain ⟨ds,s,u,v⟩:=p.all z;obtain ⟨U,x,y,A⟩:=p.all hb;split at h
  ·rename_i g W i;unfold fnaOf at i;split at i
   rotate_left
   ·grind
   rename_i X Z;rw[cy] at i;obtain ⟨E,G,e⟩:=i;simp only[aS] at e;obtain ⟨rfl,rfl⟩:=e;cases u with
   |cons K L=>cases L;cases y;obtain ⟨M,rfl,N⟩:=K;obtain ⟨O,T⟩:=cvOf_ok G N (v _ (rJ ..));subst O;exact dt.one h (Sn s x) rfl T H
  split at h
  ·rename_i a' b' j l;obtain ⟨rfl,h7⟩:=VP j u v;obtain ⟨rfl,h8⟩:=VP l y A;refine dt.one h (Sn s x) rfl ?_ H;show D.low _ _=true
   grind [D.low]
  simp_all
 simp_all
theorem YR{off:Nat}{m:Option Nat}{x:aQ}(b:dC σ alD rd)(H:RH σ σD)(h:h_ P S hint (.part off m x) rd σ k=some r):np P orc n alD σ σD (.part off m x) k r:=by
 simp only[h_] at h;split at h
 ·rename_i s e;obtain ⟨d,f,⟨ds,rfl,i⟩,j⟩:=b _ _ e;split at h
  ·rename_i v a;obtain ⟨d,l,p⟩:=zB a i;exact dt.pure (aal f l) p (p_ a j) H h
  simp_all
 simp_all
theorem We{len j es:Nat}{m:Option Nat}{x i:aQ}{q:Int}{cs:List D}{d:D}(h:lx alD x=some (.agg cs))(hi:lx alD i=some (I q))(hk:BH q len=some j)(b:uM m cs (j * es)=some d):eT P orc n alD σD (.Ce es len m x i) d σD []:=λe a=>by simp[bp,fF a h,fF a hi,tf,hk,b]
theorem mkTs_ok{i:Nat}:∀{xs:List TC}{l:List (TT i)},Zl i xs=some l->∀{cs:List C},xs.map TC.er=cs.map .c->(cs.map λc=>[c])=l.map (enc i):=by
 intro xs;induction xs with
 |nil=>
  intro l h cs b;simp only[Zl,au] at h;subst h;cases cs with
  |nil=>rfl
  |cons c cs=>simp at b
 |cons x xs ih=>
  intro l h cs b;simp only[Zl] at h;split at h
  ·rename_i a r j p;simp only[au] at h;subst h;cases cs with
   |nil=>simp at b
   |cons c cs=>
    simp only[ql,yCe] at b;obtain ⟨e,_⟩:=xY j;simp only[ql,List.map_nil] at e;rw[b.1] at e;have s:[c]=enc i a:=by have u:([c]:List C).map D.c=(enc i a).map D.c:=e;have f:=HE (List.map λd=>match d with | D.c c=>c | _=>default) u;simp only[TY] at f;have v:((λd=>match d with | D.c c=>c | _=>default)∘D.c)=(id:C->C):=rfl;rw[v,List.map_id,List.map_id] at f;exact f
    simp only[ql,s,ih p b.2]
  ·simp at h
theorem op_slca{m off:Nat}{x:aQ}{cs:List C}{es:List (List C)}(h:lx alD x=some (.c (.cz cs off)))(a:off+m<=cs.length)(f:(((cs.drop off).take m).map λc=>[c])=es):eT P orc n alD σD (.Do m x) (.c (.cD false es)) σD []:=λe b=>by subst f;simp only[bp,fF b h,a,if_true]
theorem Ze{m:Nat}{x:aQ}(e:dC σ alD rd)(H:RH σ σD)(h:h_ P S hint (.Do m x) rd σ k=some r):np P orc n alD σ σD (.Do m x) k r:=by
 simp only[h_] at h;split at h
 ·rename_i i a off f;obtain ⟨j,g⟩:=e.c f (by simp);split at h
  ·rename_i l b hl;have b:=BW b;exact dt.pure (v:=.c (.sl hint l)) (op_slca j (by rw[tj];exact b) (mkTs_ok hl (by rw[List.map_take,List.map_drop,tn,List.map_take,List.map_drop]))) (Or.inr rfl) True.intro H h
  ·simp at h
 ·simp at h
theorem Xm{es len:Nat}{m:Option Nat}{x i:aQ}(e:dC σ alD rd)(H:RH σ σD)(h:h_ P S hint (.Ce es len m x i) rd σ k=some r):np P orc n alD σ σD (.Ce es len m x i) k r:=by
 simp only[h_] at h;split at h
 ·rename_i O T E hi;obtain ⟨d,u,⟨ds,rfl,y⟩,G⟩:=e _ _ E;split at h
  ·rename_i q p;split at h
   ·rename_i j K;split at h
    ·rename_i v A;obtain ⟨d,L,s⟩:=zB A y;exact dt.pure (We u (e.int hi p) K L) s (p_ A G) H h
    simp_all
   simp_all
  ·rename_i q p;split at h
   ·rename_i l hs hl;simp only[bI] at hs;have M:=dd hs.1;have U:=dd hs.2;subst M;obtain ⟨a,N,hk⟩:=Ah h;have s:=IP hl y;have b:l.length=len:=by grind [aK.len,List.length_map]
    exact dt.one hk (op_aidx (f:=λz=>.c (.lit (.int .i64 z))) u (e.int hi p) N s b) rfl rfl H
   simp_all
  simp_all
 simp_all
theorem YT{f:aQ}{args:List aQ}(l:dC σ alD rd)(H:RH σ σD)(h:h_ P S hint (.call f args) rd σ k=some r):np P (Cj (FU S)) n alD σ σD (.call f args) k r:=by
 simp only[h_] at h;split at h
 ·rename_i g z x b;obtain ⟨p,_⟩:=l.c x (by simp);obtain ⟨ds,u,v,y⟩:=l.all b;split at h
  ·rename_i s hs;split at h
   ·rename_i a e;obtain ⟨q,i,hk⟩:=Ah h;exact dt.pure (HW p u (spc_ok hs v e i)) (QS s.out q) (Gb s.out q) H hk
   ·split at h
    ·rename_i a j e;simp only[bI] at j;obtain ⟨q,i,hk⟩:=Ah h;exact dt.pure (HW p u (YB H hs y v j.1 j.2 e i)) (QS s.out q) (Gb s.out q) H hk
    simp_all
  simp_all
 simp_all
theorem VE(p:dC σ alD rd)(H:RH σ σD)(h:h_ P S hint o rd σ k=some r):np P (Cj (FU S)) n alD σ σD o k r:=by
 cases o with
 |Ag x=>
  simp only[h_] at h;split at h
  ·rename_i v A;obtain ⟨d,E,G,K⟩:=p _ _ A;exact dt.pure (zR E) G K H h
  simp_all
 |gen op ty=>exact genT_ok p H h
 |box x=>grind [tbox_ok]
 |alloc z=>exact TW H h
 |build z L=>grind [UG]
 |jf l len z L=>grind [PJ]
 |load m x=>grind [Vt]
 |store m x y=>grind [SO]
 |me x=>grind [UM]
 |iR N M x=>grind [UB]
 |Gz off x=>grind [tfld_ok]
 |idx l len x i=>grind [tidx_ok]
 |UX l x O hi=>grind [tslc_ok]
 |uy=>exact SI H h
 |lookup e zero m u ok=>grind [OG]
 |xy e m u x=>grind [tupd_ok]
 |del e m u=>simp[h_] at h
 |len x=>grind [tlen_ok]
 |mk l j z x y=>grind [tmk_ok]
 |append l j s x=>grind [tapp_ok]
 |copy l d s=>simp[h_] at h
 |extract x i=>grind [M_]
 |DN f a b=>grind [VU]
 |part off m x=>grind [YR]
 |Do m x=>grind [Ze]
 |Ce l len m x i=>grind [Xm]
 |call f args=>grind [YT]
 |_=>simp[h_] at h
end
end Go.Abs
end
section
namespace Go.Abs
noncomputable section
variable[Gl][Y:Ty]
def GA(p:Nat):TA->Option (Nat×RV)
 |[]=>none
 |x::al=>if al.length=p then some x else GA p al
theorem PE{p:Nat}{y:Nat×RV}:∀{al:TA},GA p al=some y->p<al.length:=by
 intro al;induction al with
 |nil=>grind [GA]
 |cons x al ih=>grind [GA]
theorem yR{p:Nat}{y z:Nat×RV}{al:TA}(h:GA p al=some y):GA p (z::al)=some y:=by
 have:=PE h;simp only[GA]
 grind
theorem atP_app{p:Nat}{y:Nat×RV}{al:TA}(h:GA p al=some y):∀(pre:TA),GA p (pre++al)=some y:=by
 intro pre;induction pre with
 |nil=>exact h
 |cons z pre ih=>exact yR ih
theorem Yu{t p:Nat}{x:RV}:∀{al:TA},iC t al=some (x,p)->GA p al=some (t,x):=by
 intro al;induction al with
 |nil=>grind [iC]
 |cons y al ih=>
  intro h;obtain ⟨s,z⟩:=y;simp only[iC] at h;split at h
  ·rename_i hb;have:=dd hb;subst this;simp only[au,aS] at h;obtain ⟨rfl,rfl⟩:=h;simp only[GA,if_true]
  grind [yR]
def GW(al:TA)(σ:TH):RV->Prop
 |.v x=>GV σ x
 |.g c w p x=>(∃t,GA p al=some (t,.v (.c (.b c))))/\(c=w->GV σ x)
theorem GW.mono{al:TA}{σ σ1:TH}(h:Ext σ σ1)(pre:TA){x:RV}(g:GW al σ x):GW (pre++al) σ1 x:=by
 cases x with
 |v x=>exact GV.mono h g
 |g c w p x=>exact ⟨let ⟨t,i⟩:=g.1;⟨t,atP_app i pre⟩,λe=>(g.2 e).mono h⟩
structure Ref (al:TA) (σ:TH) (alD:AL) (σD:ar):Prop where
 hh:RH σ σD
 rg:∀t x p,iC t al=some (x,p)->∃d,lk t alD=some d/\RR x d/\GW al σ x
def EI(al:TA)(kn:Kn):Prop:=∀p b,zV p kn=some b->∀t e,GA p al=some (t,.v (.c (.b e)))->e=b
variable{P:Program}{n:Nat}{alD:AL}{σ σ1:TH}{σD σD1:ar}{al:TA}{kn:Kn}{S:sC}
theorem Ref.set{t:Nat}{x:RV}{d:D}(i:Ref al σ alD σD)(H:RH σ1 σD1)(j:Ext σ σ1)(A:RR x d)(E:GW ((t,x)::al) σ1 x):Ref ((t,x)::al) σ1 ((t,d)::alD) σD1:={
 hh:=H
 rg:=λs y p h=>by
  simp only[iC] at h;simp only[lk];split at h
  ·simp_all
  ·rename_i hb
   try rw[hb]
   obtain ⟨u,h1,h2,z⟩:=i.rg s y p h;exact ⟨u,h1,h2,z.mono j [(t,x)]⟩ }
theorem Ref.heap(i:Ref al σ alD σD)(H:RH σ1 σD1)(j:Ext σ σ1):Ref al σ1 alD σD1:={
 hh:=H
 rg:=λs y p h=>let ⟨u,h1,h2,h3⟩:=i.rg s y p h;⟨u,h1,h2,h3.mono j []⟩ }
theorem EI.cons{z:Nat×RV}(h:EI al kn)(i:∀p b,zV p kn=some b->p<al.length):EI (z::al) kn:=λp b hk t e j=>by
 refine h p b hk t e ?_;have:=i p b hk;simp only[GA] at j
 grind
def OL(al:TA)(kn:Kn):Prop:=∀p b,zV p kn=some b->p<al.length
theorem OL.cons{z:Nat×RV}(h:OL al kn):OL (z::al) kn:=λp b hk=>by have:=h p b hk;grind
theorem EI.add{p:Nat}{b:Bool}(h:EI al kn)(hb:∀t e,GA p al=some (t,.v (.c (.b e)))->e=b):EI al ((p,b)::kn):=λq c hk t e i=>by
 simp only[zV] at hk;split at hk
 ·grind [Nat.eq_of_beq_eq_true]
 ·exact h q c hk t e i
theorem OL.add{p:Nat}{b:Bool}(h:OL al kn)(hb:p<al.length):OL al ((p,b)::kn):=λq c hk=>by
 simp only[zV] at hk;split at hk
 ·simp_all
 ·exact h q c hk
theorem VR{d:D}(h:d.low 0=true):RT (Hf d) d/\GV σ (Hf d):=by
 unfold Hf;split
 ·rename_i ds;exact ⟨⟨ds,rfl,aK.ds ds⟩,Ir h⟩
 ·exact ⟨.inr rfl,D.eE (PF _) h⟩
theorem mJ(A:Ref al σ alD σD)(K:EI al kn){a:Option (Nat×Bool)}(L:∀q w,a=some (q,w)->∀t e,GA q al=some (t,.v (.c (.b e)))->e=w):dC σ alD (Fu al kn a):=by
 intro x v h;cases x with
 |k d=>
  simp only[Fu] at h;split at h
  ·rename_i hl;simp only[au] at h;subst h;exact ⟨d,rfl,(VR (σ:=σ) hl).1,(VR hl).2⟩
  simp_all
 |t s=>
  simp only[Fu] at h;split at h
  ·rename_i y p l;simp only[au] at h;subst h;obtain ⟨d,u,j,z⟩:=A.rg s _ p l;exact ⟨d,u,j,z⟩
  ·rename_i c w p y q l;split at h
   ·rename_i f;simp only[au] at h;subst h;obtain ⟨d,u,j,z⟩:=A.rg s _ q l;obtain ⟨⟨t,E⟩,G⟩:=z;have i:c=w:=by
     unfold TL at f;split at f
     ·rename_i b hb;have:=K p b hb t c E
      simp_all
     ·split at f
      ·rename_i M N;simp only[bI] at f;have O:=dd f.1
       grind
      simp_all
    simp only[RR,if_pos i] at j;exact ⟨d,u,j,G i⟩
   simp_all
  simp_all
theorem GO{t p:Nat}{x:RV}(a:Ref al σ alD σD)(h:iC t al=some (x,p)):∃d,lk t alD=some d/\RR x d:=let ⟨d,h1,h2,_⟩:=a.rg t x p h;⟨d,h1,h2⟩
theorem tGd_ok(E:Ref al σ alD σD)(K:EI al kn)(g:Option (Nat×Bool)):match tGd al kn g with
  |.TL=>Gd alD g true
  |.shut=>Gd alD g false
  |.sym e p w=>(∃t,GA p al=some (t,.v (.c (.b e))))/\(e=w->Gd alD g true)/\((!e)=w->Gd alD g false)
  |.spl e p=>∃t,GA p al=some (t,.v (.c (.b e)))
  |.Tx t x=>∃d,lk t alD=some d/\RT x d/\GV σ x
  |.bad=>True:=by
 cases g with
 |none=>exact ib
 |some g=>
  obtain ⟨t,a⟩:=g;simp only[tGd];cases hl:iC t al with
  |none=>trivial
  |some q=>
   obtain ⟨x,p⟩:=q;obtain ⟨d,h,i⟩:=GO E hl;cases x with
   |g c w s y=>
    dsimp only;obtain ⟨U,O,u,⟨L,j⟩,T⟩:=E.rg t _ p hl;cases hk:zV s kn with
    |none=>simp_all
    |some b=>
     dsimp only;by_cases hb:(b == w)=true
     ·rw[if_pos hb];have z:c=w:=by rw[K s b hk L c j];simp_all
      simp only[RR,if_pos z] at u
      simp_all
     ·rw[if_neg hb];have:=K s b hk L c j;have A:¬c=w:=λe=>hb (by simp_all);simp only[RR,if_neg A] at i
      grind [Rc]
   |v y=>
    dsimp only;change RT y d at i;generalize f:gdB kn a p y=G;unfold gdB at f;split at f
    ·have:=RT.c1 (by simp) i;subst this;subst f;cases a
     ·exact Pm h rfl
     ·exact iB h rfl
    ·have:=RT.c1 (by simp) i;subst this;subst f;cases a
     ·exact iB h rfl
     ·exact Pm h rfl
    ·have:=RT.c1 (by simp) i;subst this;subst f;exact Rc h
    ·rename_i e;have:=RT.c1 (by simp) i;subst this;have l:=Yu hl;cases hk:zV p kn with
     |none=>
      rw[hk] at f;subst f;refine ⟨⟨t,l⟩,λM=>iB h M,λM=>Pm h ?_⟩
      simp_all
     |some b=>
      rw[hk] at f;dsimp only at f;have hb:=K p b hk t e l;by_cases N:(b == a)=true
      ·rw[if_pos N] at f;subst f;exact iB h (by simp_all)
      ·rw[if_neg N] at f;subst f;refine Pm h ?_
       try rw[hb]
       cases b <;> cases a <;> simp_all
    grind
def KE(a b:dZ):Prop:=a.wr=b.wr/\a.dst=b.dst/\a.rds=b.rds/\a.lo=b.lo/\a.hi=b.hi/\(a.cat=0\/(a.cat=b.cat/\a.blk=b.blk))
theorem KE.refl(a:dZ):KE a a:=⟨rfl,rfl,rfl,rfl,rfl,.inr ⟨rfl,rfl⟩⟩
theorem TN{a b:dZ}(h:KE a b){wr:List Nat}(hs:safe b wr=true):safe a wr=true:=by
 obtain ⟨_,_,_,_,_,h | ⟨e,f⟩⟩:=h
 ·simp[safe,h]
 grind [safe]
theorem Dd{a b f i:dZ}(h:KE a b)(j:KE f i)(hs:apart b i=true):apart a f=true:=by
 simp only[apart,bI] at hs ⊢;obtain ⟨⟨⟨⟨p,s⟩,u⟩,v,x⟩,y,z⟩:=hs;have e:=h;have l:=j;obtain ⟨A,E,G,K,L,_⟩:=e;obtain ⟨f1,M,N,O,T,_⟩:=l
 grind [TN,outside]
theorem qC{b:List Nat}{as e:List dZ}(h:aK KE as e)(f:eH b e=true):eH b as=true:=by
 simp only[eH,iE,yBZ,gz] at f ⊢;intro j l i hi;rw[h.len] at l;rcases f j l i hi with p | p
 ·simp_all
 ·right;have get:∀q,q<e.length->KE (as.getD q default) (e.getD q default):=by
   intro q s;obtain ⟨a,u,v⟩:=h.get' q _ (eK s)
   simp_all
  grind [Dd]
theorem SJ{b f:List Nat}{as e:List dZ}(h:aK KE as e)(l:Ph b f e=true):Ph b f as=true:=by
 simp only[Ph,iE,yBZ,gz] at l ⊢;intro j p i hi;rw[h.len] at p;rcases l j p i hi with s | s
 ·simp_all
 ·right;have get:∀q,q<e.length->KE (as.getD q default) (e.getD q default):=by
   intro q u;obtain ⟨a,v,x⟩:=h.get' q _ (eK u)
   simp_all
  grind [Dd]
theorem cf.mono{orc:fj}{k:Nat}{os:List aG}{Q Q':AL->ar->List dZ->Prop}(h:cf P orc k os n alD σD Q)(j:∀a s i,Q a s i->Q' a s i):cf P orc k os n alD σD Q':=by obtain ⟨a,s,i,u,x⟩:=h;exact ⟨a,s,i,u,j _ _ _ x⟩
theorem Xd(b:Ref al σ alD σD){o:kE}(h:okT al o=true):Fv alD o=true:=by
 cases o with
 |load m x=>
  cases x with
  |k d=>rfl
  |t a=>grind [okT,Option.isSome_iff_exists,GO,Fv,lx]
 |_=>rfl
variable{R:Type}
theorem YL{rd:aQ->Option TV}{hint:Nat}{o:kE}{k:KO R}{r:R}(f:dC σ alD rd)(h:h_ P S hint o rd σ k=some r):Fv alD o=true/\yl alD o=blkT rd o:=by
 cases o with
 |load m x=>
  simp only[h_] at h;cases a:rd x with
  |none=>rw[a] at h;simp at h
  |some v=>
   obtain ⟨d,e,b,_⟩:=f x v a;refine ⟨by simp[Fv,e],?_⟩;simp only[yl,blkT,e,a];cases v with
   |agg i=>obtain ⟨ds,rfl,_⟩:=b;rfl
   |aT i=>obtain ⟨ds,rfl,_⟩:=b;rfl
   |c y=>
    cases y with
    |any=>rw[a] at h;simp at h
    |d z=>have:=RT.c1 (by simp) b;subst this;cases d <;> rfl
    |_=>have:=RT.c1 (by simp) b;subst this;rfl
 |_=>exact ⟨rfl,rfl⟩
def aF(al:TA)(σ:TH)(K:KS R)(r:R)(e:AL)(f:ar)(h:List dZ):Prop:=
 ∃a b i,Ref a b e f/\(∃pre,a=pre++al)/\Ext σ b/\aK KE h i/\K a b i=some r
theorem aF.cons{al al1:TA}{σ σ1:TH}{K:KS R}{r:R}{j:AL}{s u:ar}{x:List dZ}{i G:dZ}{pre:TA}(h:aF al1 σ1 (λz σ' E=>K z σ' (i::E)) r j s x)(Z:al1=pre++al)(H:RH σ u)(M:Ext σ σ1)(hi:KE G i) :
  aF al σ K r j s (G::x):=by
 obtain ⟨z,σ',E,O,⟨A,rfl⟩,U,W,X⟩:=h;exact ⟨_,σ',i::E,O,⟨A++pre,by simp_all⟩,Ext.trans H M U,.cons hi W,X⟩
theorem pk_ok{e:Bool}{u v:TV}{f h:BX}(j:SK u=some f)(l:SK v=some h){d:D}(r:RT (if e then u else v) d):d=B (pk e f h):=by
 have b:∀{w:TV}{i:BX},SK w=some i->RT w d->d=B i.val:=by
  intro w i a r;unfold SK at a;split at a
  ·simp only[au] at a;subst a;exact RT.c1 (by simp) r
  ·simp only[au] at a;subst a;exact RT.c1 (by simp) r
  ·simp only[au] at a;subst a;exact RT.c1 (by simp) r
  simp_all
 cases e
 ·have:=b l r;rw[this];cases f <;> cases h <;> simp[pk,BX.val]
 ·have:=b j r;rw[this];cases f <;> cases h <;> simp[pk,BX.val]
theorem Ja{σ:TH}(c:Bool)(x y:BX):RT (pkV c x y) (B (pk c x y))/\GV σ (pkV c x y):=by cases x <;> cases y <;> first | exact ⟨.inr rfl,True.intro⟩ | (cases c <;> exact ⟨.inr rfl,rfl⟩)
theorem tot_ok{o:kE}{rd:aQ->Option TV}{v:TV}(a:dC σ alD rd)(H:RH σ σD)(b:xc o=true)(h:h_ (R:=TV) P S 0 o rd σ (λv _ _ _=>some v)=some v) :
  ∃d,eT P (Cj (FU S)) n alD σD o d σD []/\RT v d/\GV σ v:=by
 obtain ⟨e,σ1,rs,wr,d,σD1,f,i,j,_,_,_,l,p⟩:=VE (n:=n) a H h
 grind
def sm:(cs:List CT)->pS cs->Option (Σ c:CT,dB c.items)
 |[],_=>none
 |[c],x=>some ⟨c,x⟩
 |c :: d :: cs, x => match x with
  |.inl a=>some ⟨c,a⟩
  |.inr b=>sm (d::cs) b
theorem Yv{R:Type}{f:(c:CT)->dB c.items->Option R}{r:R}:∀{cs:List CT}{x:pS cs},altK cs x f=some r->∃c a,sm cs x=some ⟨c,a⟩/\f c a=some r:=by
 intro cs;induction cs with
 |nil=>grind
 |cons c cs ih=>
  intro x h;cases cs with
  |nil=>exact ⟨c,x,rfl,h⟩
  |cons d cs=>
   cases x with
   |inl a=>exact ⟨c,a,rfl,h⟩
   |inr b=>obtain ⟨e,i,j,l⟩:=ih (x:=b) h;exact ⟨e,i,j,l⟩
def ExOk(g:Hm):Prop:=∀(i:CT)(e:FuncId)(f:List TV)(σ:TH)(h:List TV)(aC:TH)(σD:ar)(ds:List D),g.exa i e f σ=some (h,aC)->RH σ σD->fU f ds->(∀v∈f,GV σ v) ->
 aU g.P e=true/\∃r a,RH aC a/\RT (vI h) r/\GV aC (vI h)/\Ext σ aC/\Ok g.P e ds σD r a/\(∀b,b<σD.length->a[b]? = σD[b]?)
def Xf(g:Hm):Prop:=∀(f:List CT)(h:FuncId)(i:List TV)(σ:TH)(y:pS f)(e:CT)(x:dB e.items)(j:List TV)(aC:TH)(σD:ar)(ds:List D),g.inl f h i σ=some y->sm f y=some ⟨e,x⟩->mc e σ x=some (j,aC)->RH σ σD->fU i ds->(∀v∈i,GV σ v) ->
 aU g.P h=true/\∃r a,RH aC a/\RT (vI j) r/\GV aC (vI j)/\Ext σ aC/\Ok g.P h ds σD r a/\(∀b,b<σD.length->b∉e.pl.map PC.blk->a[b]? = σD[b]?)/\(e.pl.any PC.rs=false->ko σD a (e.pl.map PC.blk)=true)
structure QT (g:Hm):Prop where
 one:Xf g
 two:ExOk g
theorem OE{b a:fj}:∀(os:List aG)(k:Nat)(e:List D)(σ:ar),(∀o∈os,b o.dst=a o.dst)->kY P b k os e σ=kY P a k os e σ:=by
 intro os;induction os with
 |nil=>intro k e σ _;rfl
 |cons o os ih=>grind [eU,kY]
theorem cf.congr{u j:fj}{k:Nat}{os:List aG}{Q:AL->ar->List dZ->Prop}(h:∀o∈os,u o.dst=j o.dst)(t:cf P u k os n alD σD Q):cf P j k os n alD σD Q:=by
 obtain ⟨a,s,i,x,z⟩:=t;refine ⟨a,s,i,λe A=>?_,z⟩;obtain ⟨E,G,K⟩:=x e A
 grind [OE]
theorem fU.UL{vs i:List TV}{ds es:List D}(h:fU vs ds)(j:fU i es):fU (vs++i) (ds++es):=by
 induction h with
 |nil=>exact j
 |cons h _ ih=>exact .cons h ih
theorem ofD_rt(d:D):RT (Hf d) d:=by
 unfold Hf;split
 ·rename_i ds;exact ⟨ds,rfl,aK.ds ds⟩
 ·exact .inr rfl
theorem Il{d:D}(h:d.low σ.length=true):GV σ (Hf d):=by
 unfold Hf;split
 ·rename_i ds;intro x a;rw[iP] at a;obtain ⟨y,b,rfl⟩:=a;obtain ⟨i,hi⟩:=yBE b;exact D.aZ h i y hi
 ·exact h
theorem CE:∀(ds:List D),fU (ds.map Hf) ds:=by
 intro ds;induction ds with
 |nil=>exact .nil
 |cons d ds ih=>exact .cons (ofD_rt d) ih
theorem Vs{v:TV}{d:D}{K:FuncId}{a b:List TV}(h:fnT v=some (K,a,b))(r:RT v d)(g:GV σ v):∃L M,fU a L/\fU b M/\(∀v∈a,GV σ v)/\(∀v∈b,GV σ v) /\
  ∀(orc:wx)(f:aQ)(args:List aQ)(ds:List D)(r:D)(σD1:ar)(w:List Nat),lx alD f=some d->Vg alD args=some ds->orc K (L++ds++M) σD=some (r,σD1,w)->eT P orc n alD σD (.call f args) r σD1 w:=by
 unfold fnT at h;split at h
 ·rename_i E x y;simp only[au,aS] at h;obtain ⟨rfl,rfl,rfl⟩:=h;have:=RT.c1 (by simp) r;subst this;refine ⟨x.map .c,y.map .c,?_,?_,λv j=>?_,λv j=>?_,λorc f args ds r σD1 w s u A=>VB s u A⟩
  ·have:=CE (x.map D.c);rw[TY] at this;exact this
  ·have:=CE (y.map D.c);rw[TY] at this;exact this
  ·rw[iP] at j;obtain ⟨z,_,rfl⟩:=j;exact Il rfl
  ·rw[iP] at j;obtain ⟨z,_,rfl⟩:=j;exact Il rfl
 ·rename_i E x y;simp only[au,aS] at h;obtain ⟨rfl,rfl,rfl⟩:=h;have:=RT.c1 (by simp) r;subst this;have G:D.low.cU σ.length x=true/\D.low.cU σ.length y=true:=by
   have:(D.low σ.length (.fn (.func E) x y))=true:=g
   grind [D.low]
  refine ⟨x,y,CE x,CE y,λv j=>?_,λv j=>?_,λorc f args ds r σD1 w s u A=>Nf s u A⟩
  ·grind [List.getElem?_of_mem,Il,D.aZ]
  grind [List.getElem?_of_mem,Il,D.aZ]
 ·rename_i E p;simp only[au,aS] at h;obtain ⟨rfl,rfl,rfl⟩:=h;have:=RT.c1 (x:=.Fx _ _) (by simp) r;subst this;have G:p.all (CV.low σ.length)=true:=g;have O:aK RC (p.map cvT) (p.map CV.er):=by
   clear G g r;induction p with
   |nil=>exact .nil
   |cons x p ih=>exact .cons (.inr (by cases x <;> rfl)) ih
  refine ⟨[.agg (p.map CV.er)],[],.cons ⟨_,rfl,O⟩ .nil,.nil,λv j=>?_,λv j=>by grind,λorc f args ds r σD1 w s u A=>Nf s u A⟩;rw[zK] at j;subst j;intro y N;rw[iP] at N;obtain ⟨x,T,rfl⟩:=N;have:=iE.1 G x T;cases x with
  |d x=>exact this
  |b e=>exact True.intro
  |sl i l=>exact True.intro
 simp_all
theorem vm{g:Hm}{q:Nat}{os:List aG}(h:Tb g q os=true):kR g q os=true:=by
 unfold Tb at h;split at h
 ·rename_i a;have:∀o,iH g q o=none:=λo=>by grind [iH]
  clear h;induction os with
  |nil=>rfl
  |cons o os ih=>simp only[kR,this,ih,NP];simp
 omega
def Br(g:Hm)(q k:Nat)(os:List aG)(alD:AL)(σD:ar)(Q:AL->ar->List dZ->Prop):Prop:=
 ∃a,lN g.P a/\(∀t,(∀o∈os,(iH g q o).isSome=true->o.dst≠t)->a t=Cj (FU g.S))/\cf g.P a k os g.n alD σD Q
section
variable{g:Hm}{q k:Nat}{os:List aG}{alD:AL}{σD σD1:ar}{Q Q':AL->ar->List dZ->Prop}{t:Nat}{ao:kE}{gd:Option (Nat×Bool)}{d:D}{w:List Nat}
theorem Br.mono(h:Br g q k os alD σD Q)(j:∀a s i,Q a s i->Q' a s i):Br g q k os alD σD Q':=by obtain ⟨u,x,z,A⟩:=h;exact ⟨u,x,z,A.mono j⟩
theorem Bn{o:aG}(h:kR g q (o::os)=true):kR g q os=true:=by simp only[kR,bI] at h;exact h.2
theorem inlU_ne{o:aG}(h:kR g q (o::os)=true)(a:iH g q o=none){t:Nat}(b:o.dst=some t):∀o'∈os,(iH g q o').isSome=true->o'.dst≠some t:=by intro o' f hi e;simp only[kR,a,bI,im] at h;have:=h.1;rw[yCj] at this;have:=this o' f;simp[QD,b,e,hi] at this
theorem VN{o:aG}{ct:List CT}(h:kR g q (o::os)=true)(a:iH g q o=some ct){t:Nat}(b:o.dst=some t):∀o'∈os,o'.dst≠some t:=by intro o' f e;simp only[kR,a,bI,im] at h;have:=h.1;rw[yCj] at this;have:=this o' f;simp[QD,b,e] at this
theorem Br.op(M:kR g q (⟨some t,ao,gd⟩::os)=true)(O:iH g q ⟨some t,ao,gd⟩=none)(h:eT g.P (Cj (FU g.S)) g.n alD σD ao d σD1 w)(s:Gd alD gd true)(hs:(Nat.blt t g.n&&Fv alD ao&&(k == 0 || ko σD σD1 w))=true)
  (r:Br g q (k-1) os ((t,d)::alD) σD1 λi σ' u=>Q i σ' (Di ⟨some t,ao,gd⟩ (cat ao) (yl alD ao) w σD.length σD1.length::u)):Br g q k (⟨some t,ao,gd⟩::os) alD σD Q:=by
 obtain ⟨x,z,A,E⟩:=r;refine ⟨x,z,λG j=>A G λo K=>j o (nS _ K),cf.op ?_ s hs E⟩
 grind [inlU_ne]
theorem Br.eff(h:eT g.P (Cj (FU g.S)) g.n alD σD ao d σD1 w)(s:Gd alD gd true)(hs:(Fv alD ao&&(k == 0 || ko σD σD1 w))=true)
  (r:Br g q (k-1) os alD σD1 λi σ' u=>Q i σ' (Di ⟨none,ao,gd⟩ (cat ao) (yl alD ao) w σD.length σD1.length::u)):Br g q k (⟨none,ao,gd⟩::os) alD σD Q:=by
 obtain ⟨x,z,A,E⟩:=r;refine ⟨x,z,λG j=>A G λo K=>j o (nS _ K),cf.eff (d:=d) ?_ s hs E⟩
 grind [iH]
theorem Br.no(s:Gd alD gd false)(hs:(Nat.blt t g.n&&Fv alD ao)=true)
  (r:Br g q (k-1) os ((t,.aT [])::alD) σD λi σ' u=>Q i σ' (Di ⟨some t,ao,gd⟩ 0 (yl alD ao) [] σD.length σD.length::u)):Br g q k (⟨some t,ao,gd⟩::os) alD σD Q:=by
 obtain ⟨x,z,A,E⟩:=r;exact ⟨x,z,λG j=>A G λo K=>j o (nS _ K),cf.no s hs E⟩
theorem Br.inl{ct:List CT}{u:FuncId}{ds:List D}{wr:List Nat}(O:rA g.P (Cj (FU g.S)))(K:kR g q (⟨some t,ao,gd⟩::os)=true)(M:iH g q ⟨some t,ao,gd⟩=some ct)(U:Gd alD gd true)
  (he:aU g.P u=true) (ok:Ok g.P u ds σD d σD1) (W:σD.length<=σD1.length) (X:∀b,b<σD.length->b∉wr->σD1[b]? = σD[b]?)
  (z:∀(orc:wx),orc u ds σD=some (d,σD1,wr)->eT g.P orc g.n alD σD ao d σD1 wr) (hs:(Nat.blt t g.n&&Fv alD ao&&(k == 0 || ko σD σD1 wr))=true)
  (r:Br g q (k-1) os ((t,d)::alD) σD1 λA σ' Z=>Q A σ' (Di ⟨some t,ao,gd⟩ (cat ao) (yl alD ao) wr σD.length σD1.length::Z)):Br g q k (⟨some t,ao,gd⟩::os) alD σD Q:=by
 classical
 obtain ⟨x,h1,h2,h3⟩:=r
 let i:wx:=λG s σ'=>if G=u/\s=ds/\σ'=σD then some (d,σD1,wr) else none
 let E:fj:=λj=>if j=some t then i else x j
 refine ⟨E,λj=>?_,λj aa=>?_,cf.op (z _ ?_) U hs (h3.congr λo ho=>?_)⟩
 ·show rA g.P (if j=some t then i else x j);split
  ·intro G s σ' r aC ab h
   grind
  ·exact h1 j
 ·grind
 ·grind
 ·show x o.dst=if o.dst=some t then i else x o.dst;rw[if_neg (VN K M rfl o ho)]
end
theorem tot_inl{g:Hm}{q:Nat}{t:Option Nat}{ao:kE}{gd:Option (Nat×Bool)}(h:xc ao=true):iH g q ⟨t,ao,gd⟩=none:=by grind [iH,xc]
theorem RH.eqD{σ:TH}{σD:ar}(H:RH σ σD):σD=σ.map TB.er:=by
 apply Vf;intro b;rw[lJ];cases hb:σ[b]? with
 |none=>grind [RH.len]
 |some blk=>obtain ⟨s,i,j⟩:=H.hp b blk hb;rw[i,j];rfl
theorem Ys{R:Type}{x y:TB}{k:Option R}{r:R}(h:Dr x y k=some r):k=some r/\x.er.sz=y.er.sz:=by
 cases x with
 |cells w p=>
  cases y with
  |cells v s=>
   simp only[Dr,Bq] at h;split at h
   ·rename_i e;exact ⟨h,by simpa[TB.er,Ob.sz] using Nat.eq_of_beq_eq_true e⟩
   ·simp at h
  |_=>simp[Dr] at h
 |row i l a b=>
  cases y with
  |row j m c d=>
   simp only[Dr,Bq] at h;split at h
   ·rename_i e;have:=dd e;subst this;split at h
    ·rename_i f;exact ⟨h,by simp only[TB.er,OB,Ob.sz,wX,gU (tj i),dd f]⟩
    ·simp at h
   ·simp at h
  |_=>simp[Dr] at h
 |mp j st l v=>
  cases y with
  |mp=>exact ⟨h,rfl⟩
  |_=>simp[Dr] at h
theorem Ks{R:Type}{σ σ1:TH}{k:Option R}{r:R}:∀{a:List Nat},Ru σ σ1 a k=some r->k=some r/\ko (σ.map TB.er) (σ1.map TB.er) a=true
 |[],h=>⟨h,rfl⟩
 |b :: a, h => by
  simp only[Ru] at h;split at h
  ·rename_i x y f i;obtain ⟨j,l⟩:=Ys h;obtain ⟨p,e⟩:=Ks j;refine ⟨p,?_⟩;unfold ko at e ⊢;rw[Rv,e,lJ,lJ,f,i];simp[l]
  ·simp at h
theorem qL(g:Hm)(q:Nat)(O:rA g.P (Cj (FU g.S)))(hI:QT g):∀(fu k:Nat)(os:List aG)(kn:Kn)(al:TA)(σ:TH)(K:KS R)(r:R)(alD:AL)(σD:ar),gE g q fu k os kn al σ K=some r->kR g q os=true->Ref al σ alD σD->EI al kn->OL al kn ->
  Br g q k os alD σD (aF al σ K r):=by
 intro fu;induction fu with
 |zero=>grind [gE]
 |succ fu ih=>
  intro k os kn al σ K r alD σD h hU j Kn E;cases os with
  |nil=>simp only[gE] at h;exact ⟨λ_=>Cj (FU g.S),λ_=>O,λt _=>rfl,cf.nil ⟨al,σ,[],j,⟨[],rfl⟩,Ext.refl σ,.nil,h⟩⟩
  |cons o os=>
   simp only[gE] at h;have M:=Bn hU;split at h
   ·simp at h
   rename_i hn;obtain ⟨A,op,gd⟩:=o;have G:=tGd_ok j Kn gd;dsimp only at h hn;have W:∀(e:Bool)(p:Nat),(∃t,GA p al=some (t,.v (.c (.b e))))->(if e=true then gE g q fu k (⟨A,op,gd⟩::os) ((p,true)::kn) al σ K else gE g q fu k (⟨A,op,gd⟩::os) ((p,false)::kn) al σ K)=some r ->
     Br g q k (⟨A,op,gd⟩::os) alD σD (aF al σ K r):=by
    intro e p ⟨t,ht⟩ h;have add:∀b,e=b->EI al ((p,b)::kn):=λb hb=>Kn.add λt' e' ab=>by simp_all
    split at h
    ·rename_i L;exact ih _ _ _ _ _ _ _ _ _ h hU j (add true L) (E.add (PE ht))
    ·rename_i L;exact ih _ _ _ _ _ _ _ _ _ h hU j (add false (by simp_all)) (E.add (PE ht))
   cases hg:tGd al kn gd with
   |bad=>simp_all
   |spl e p=>rw[hg] at h G;exact W e p G h
   |Tx t x=>
    rw[hg] at h G;obtain ⟨d,l,z,N⟩:=G;have R1:Ref ((t,.v x)::al) σ alD σD:=⟨j.hh,λs y p hs=>by
     simp only[iC] at hs;split at hs
     ·rename_i hb;have:=dd hb;subst this;simp only[au,aS] at hs;obtain ⟨rfl,rfl⟩:=hs;exact ⟨d,l,z,N⟩
     ·obtain ⟨d',g1,g2,g3⟩:=j.rg s y p hs;exact ⟨d',g1,g2,g3.mono (Ext.refl σ) [(t,.v x)]⟩⟩
    refine (ih _ _ _ _ _ _ _ alD σD h hU R1 (Kn.cons E) E.cons).mono λa s i T=>?_;obtain ⟨ad,aa,is,a1,⟨pre,rfl⟩,a3,a4,a5⟩:=T;exact ⟨_,aa,is,a1,⟨pre++[(t,.v x)],by simp_all⟩,a3,a4,a5⟩
   |shut=>
    rw[hg] at h G;dsimp only at h G;cases A with
    |none=>simp at h
    |some t=>
     dsimp only at h hn;split at h
     ·simp at h
     rename_i be;change Nat.blt t g.n=true at hn;have ax:=Xd j be;refine Br.no G (by simp_all) ?_;refine (ih _ _ _ _ _ _ _ ((t,.aT [])::alD) σD h M (j.set j.hh (Ext.refl σ) (.inr rfl) ?_) (Kn.cons E) E.cons).mono λa s i T=>?_
     ·show D.low _ _=true;rfl
     ·refine T.cons (pre:=[(t,.v (.c (.d (.aT []))))]) rfl j.hh (Ext.refl σ) ?_;rw[j.hh.len];exact ⟨rfl,rfl,rfl,rfl,rfl,.inl rfl⟩
   |sym e p w=>
    rw[hg] at h G;dsimp only at h G;obtain ⟨⟨t0,an⟩,G1,G2⟩:=G;split at h
    ·rename_i t af;change Nat.blt t g.n=true at hn;split at h
     ·rename_i v U;have bh:okT al op=true:=by
       cases op with
       |load m x=>
        cases x with
        |k d=>rfl
        |t a=>
         simp only[okT];simp only[h_] at U
         grind [Fu]
       |_=>rfl
      have ax:=Xd j bh;by_cases L:e=w
      ·have hr:dC σ alD (Fu al kn (some (p,w))):=mJ j Kn λq w' e' t e2 z=>by
        simp_all
       obtain ⟨d,l,z,N⟩:=tot_ok (n:=g.n) hr j.hh af U;obtain ⟨b1,b2⟩:=YL hr U;refine Br.op hU (tot_inl af) l (G1 L) (by grind [ko]) ?_;refine (ih _ _ _ _ _ _ _ ((t,d)::alD) σD h M (j.set j.hh (Ext.refl σ) (by simp only[RR,if_pos L];exact z) ⟨⟨t0,yR an⟩,λ_=>N⟩) (Kn.cons E) E.cons).mono λa s i T=>?_;refine T.cons (pre:=[(t,.g e w p v)]) rfl j.hh (Ext.refl σ) ?_;rw[j.hh.len,b2];exact KE.refl _
      ·have bi:(!e)=w:=by cases e <;> cases w <;> simp_all
       refine Br.no (G2 bi) (by simp_all) ?_;refine (ih _ _ _ _ _ _ _ ((t,.aT [])::alD) σD h M (j.set j.hh (Ext.refl σ) (by simp only[RR,if_neg L]) ⟨⟨t0,yR an⟩,λe'=>absurd e' L⟩) (Kn.cons E) E.cons).mono λa s i T=>?_;refine T.cons (pre:=[(t,.g e w p v)]) rfl j.hh (Ext.refl σ) ?_;rw[j.hh.len];exact ⟨rfl,rfl,rfl,rfl,rfl,.inl rfl⟩
     simp_all
    ·exact W e p ⟨t0,an⟩ h
   |TL=>
    rw[hg] at h G;dsimp only at h G;cases Z:iH g q ⟨A,op,gd⟩ with
    |some cs=>
     rw[Z] at h;dsimp only at h;have hr:dC σ alD (Fu al kn none):=mJ j Kn (by simp);cases op with
     |call f args=>
      dsimp only at h;split at h
      ·rename_i fv vs a0 a2;split at h
       ·rename_i gi a b a6;split at h
        ·rename_i ct bl;obtain ⟨⟨rv,σ1⟩,hy,h⟩:=Ah h;obtain ⟨df,f1,f2,f3⟩:=hr _ _ a0;obtain ⟨ds,v1,v2,v3⟩:=hr.all a2;obtain ⟨da,db,a1,b1,ga,gb,av⟩:=Vs (P:=g.P) (n:=g.n) (alD:=alD) (σD:=σD) a6 f2 f3;obtain ⟨L,r',X,q1,q2,q3,q4,q5,q6⟩:=hI.two ct gi _ σ rv σ1 σD _ hy j.hh ((a1.UL v2).UL b1) (λv U=>by
           grind)
         cases A with
         |none=>grind [iH]
         |some t=>change Nat.blt t g.n=true at hn;refine Br.inl (wr:=[]) O hU Z G L q5 (by grind) (λb hb _=>q6 b hb) (λorc ho=>av orc _ _ _ _ _ _ f1 v1 ho) (by grind [Fv,ko]) ?_;refine (ih _ _ _ _ _ _ _ ((t,r')::alD) X h M (j.set q1 q4 q2 q3) (Kn.cons E) E.cons).mono λa s i T=>?_;refine T.cons (pre:=[(t,.v (vI rv))]) rfl j.hh q4 ?_;rw[j.hh.len,q1.len];exact KE.refl _
        obtain ⟨y,hy,h⟩:=Ah h;obtain ⟨ct,x,a7,h⟩:=Yv h;split at h
        ·rename_i rv σ1 a8;obtain ⟨df,f1,f2,f3⟩:=hr _ _ a0;obtain ⟨ds,v1,v2,v3⟩:=hr.all a2;obtain ⟨da,db,a1,b1,ga,gb,av⟩:=Vs (P:=g.P) (n:=g.n) (alD:=alD) (σD:=σD) a6 f2 f3;obtain ⟨L,r',X,q1,q2,q3,q4,q5,q6,q7⟩:=hI.one _ gi _ σ y ct x rv σ1 σD _ hy a7 a8 j.hh ((a1.UL v2).UL b1) (λv U=>by
           grind)
         have h':(k == 0 || ko σD X (ct.pl.map PC.blk))=true/\gE g q fu (k-1) os kn (YD A (.v (vI rv)) al) σ1 (λad aa is=>K ad aa (Di ⟨A,.call f args,gd⟩ (cat (.call f args)) none (ct.pl.map PC.blk) σ.length σ1.length::is))=some r:=by
          split at h
          ·rename_i hk;refine ⟨?_,h⟩;simp only[gz] at hk ⊢
           grind [Nat.eq_of_beq_eq_true]
          ·obtain ⟨l,z⟩:=Ks h;rw[j.hh.eqD,q1.eqD];exact ⟨by rw[z,Bool.or_true],l⟩
         obtain ⟨a9,h⟩:=h';cases A with
         |none=>grind [iH]
         |some t=>change Nat.blt t g.n=true at hn;refine Br.inl O hU Z G L q5 (by rw[j.hh.len,q1.len];exact q4.len) q6 (λorc ho=>av orc _ _ _ _ _ _ f1 v1 ho) (by rw[hn,a9];rfl) ?_;refine (ih _ _ _ _ _ _ _ ((t,r')::alD) X h M (j.set q1 q4 q2 q3) (Kn.cons E) E.cons).mono λa s i T=>?_;refine T.cons (pre:=[(t,.v (vI rv))]) rfl j.hh q4 ?_;rw[j.hh.len,q1.len];exact KE.refl _
        simp_all
       simp_all
      simp_all
     |_=>simp at h
    |none=>
    rw[Z] at h;dsimp only at h;split at h
    ·
     rename_i c x y t;change Nat.blt t g.n=true at hn;split at h
     ·rename_i cv p hc;have bk:=Yu hc;obtain ⟨dc,c1,c2,_⟩:=j.rg c _ p hc;change RT cv dc at c2;have fin:∀(v:TV)(d:D),eT g.P (Cj (FU g.S)) g.n alD σD (.pick (.t c) x y) d σD []->RT v d->GV σ v->(gE g q fu (k-1) os kn ((t,.v v)::al) σ λad aa is=>K ad aa (Di ⟨some t,.pick (.t c) x y,gd⟩ (cat (.pick (.t c) x y)) none [] σ.length σ.length::is))=some r ->
        Br g q k (⟨some t,.pick (.t c) x y,gd⟩::os) alD σD (aF al σ K r):=by
       intro v d l z N h;refine Br.op hU Z l G (by grind [Fv,ko]) ?_;refine (ih _ _ _ _ _ _ _ ((t,d)::alD) σD h M (j.set j.hh (Ext.refl σ) z N) (Kn.cons E) E.cons).mono λa s i T=>?_;refine T.cons (pre:=[(t,.v v)]) rfl j.hh (Ext.refl σ) ?_;rw[j.hh.len];exact KE.refl _
      generalize hG:gdC kn p cv=GG at h;unfold gdC at hG;split at hG
      ·
       have:=RT.c1 (by simp) c2;subst this;subst hG;dsimp only at h;split at h
       ·rename_i v U;obtain ⟨d,l,z,N⟩:=mJ j (Kn.add (p:=p) (b:=true) λt' e' ab=>by simp_all) (by simp) x v U;exact fin v d (uO c1 rfl l) z N h
       simp_all
      ·have:=RT.c1 (by simp) c2;subst this;subst hG;dsimp only at h;split at h
       ·rename_i v U;obtain ⟨d,l,z,N⟩:=mJ j (Kn.add (p:=p) (b:=false) λt' e' ab=>by simp_all) (by simp) y v U;exact fin v d (pY c1 rfl l) z N h
       simp_all
      ·rename_i _ e _;have:=RT.c1 (by simp) c2;subst this;cases hk:zV p kn with
       |some b=>
        have hb:=Kn p b hk c e bk;have ak:EI al ((p,b)::kn):=Kn.add λt' e' ab=>by simp_all
        cases b with
        |true=>
         rw[hk] at hG;subst hG;dsimp only at h;split at h
         ·rename_i v U;obtain ⟨d,l,z,N⟩:=mJ j ak (by simp) x v U;exact fin v d (uO c1 hb l) z N h
         simp_all
        |false=>
         rw[hk] at hG;subst hG;dsimp only at h;split at h
         ·rename_i v U;obtain ⟨d,l,z,N⟩:=mJ j ak (by simp) y v U;exact fin v d (pY c1 hb l) z N h
         simp_all
       |none=>
        rw[hk] at hG;subst hG;dsimp only at h;split at h
        ·rename_i u v hu U;split at h
         ·rename_i bu bv bb bc;have bd:∀w,e=w->∀q w',some (p,w)=some (q,w')->∀t' e',GA q al=some (t',.v (.c (.b e')))->e'=w':=λw hw q w' e1 t' e' ab=>by
           simp_all
          cases L:e with
          |true=>obtain ⟨d,l,z,N⟩:=mJ j Kn (bd true L) x u hu;have hd:=pk_ok (e:=true) bb bc z;subst hd;rw[L] at h;exact fin (pkV true bu bv) _ (uO c1 L l) (Ja (σ:=σ) _ _ _).1 (Ja _ _ _).2 h
          |false=>obtain ⟨d,l,z,N⟩:=mJ j Kn (bd false L) y v U;have hd:=pk_ok (e:=false) bb bc z;subst hd;rw[L] at h;exact fin (pkV false bu bv) _ (pY c1 L l) (Ja (σ:=σ) _ _ _).1 (Ja _ _ _).2 h
         simp_all
        simp_all
      grind
     simp_all
    ·
     have hr:dC σ alD (Fu al kn none):=mJ j Kn (by simp);obtain ⟨v,σ1,rs,wr,d,σD1,l,z,N,h4,h5,h6,_,h7⟩:=VE (n:=g.n) hr j.hh h;obtain ⟨b1,b2⟩:=YL hr h;dsimp only at h7;split at h7
     ·rename_i hk;have a9:(k == 0 || ko σD σD1 wr)=true:=by
       simp only[gz] at hk ⊢
       grind [Nat.eq_of_beq_eq_true]
      cases A with
      |none=>refine Br.eff l G (by simp_all) ?_;refine (ih _ _ _ _ _ _ _ alD σD1 h7 M (j.heap h4 h5) Kn E).mono λa s i T=>?_;refine T.cons (pre:=[]) rfl j.hh h5 ?_;rw[j.hh.len,h4.len,b2];exact KE.refl _
      |some t=>change Nat.blt t g.n=true at hn;refine Br.op hU Z l G (by simp_all) ?_;refine (ih _ _ _ _ _ _ _ ((t,d)::alD) σD1 h7 M (j.set h4 h5 z N) (Kn.cons E) E.cons).mono λa s i T=>?_;refine T.cons (pre:=[(t,.v v)]) rfl j.hh h5 ?_;rw[j.hh.len,h4.len,b2];exact KE.refl _
     simp_all
end
end Go.Abs
end
section
namespace Go.Abs
noncomputable section
variable[Gl][Y:Ty]
structure Rn (m:Nat) (σ1 aC:ar) (ρ:Nat->Nat) (F:Nat->Prop):Prop where
 le:m<=aC.length
 id:∀i,i<m->ρ i=i
 inj:∀i j,i<aC.length->j<aC.length->ρ i=ρ j->i=j
 fr:∀i,i<aC.length->¬F (ρ i)
 row:∀b,F b->∃(i:Nat)(l:List (TT i)),σ1[b]? = some (OB (enc i) l)
 sz:∀(i:Nat),i<aC.length->∃ob1 ob2,σ1[ρ i]? = some ob1/\aC[i]? = some ob2/\ob2.sz=ob1.sz
def mN(n:Nat)(ρ:Nat->Nat)(M:Nat->Option Nat):Nat->Option Nat:=λi=>if i<n then M (ρ i) else none
def fzN(F:Nat->Prop)(M:Nat->Option Nat)(Fz:Nat->Prop):Nat->Prop:=λc=>Fz c\/∃b,F b/\M b=some c
def du(σ1 aC:ar)(ρ:Nat->Nat)(F:Nat->Prop)(d1 d2:D):Prop:=∀(M:Nat->Option Nat)(a:Nat->Prop)(w:World)(v:Value),Rel σ1 M a w->V σ1 M a w d1 v->V aC (mN aC.length ρ M) (fzN F M a) w d2 v
section
variable{m:Nat}{σ1 aC:ar}{ρ:Nat->Nat}{F:Nat->Prop}
theorem VC.fzN{M:Nat->Option Nat}{Fz:Nat->Prop}{w:World}{x:C}{v:Value}(h:VC Fz w x v):VC (Go.Abs.fzN F M Fz) w x v:=h.mono λc i=>⟨.inl i,rfl⟩
theorem du.any(d:D):du σ1 aC ρ F d .any:=λ_ _ _ _ _ _=>.any _
theorem du.le{d1 d2 i:D}(h:ED d1 d2)(j:du σ1 aC ρ F d2 i):du σ1 aC ρ F d1 i:=λM s w v R u=>j M s w v R (h _ _ _ _ _ u)
theorem du.low(N:Rn m σ1 aC ρ F){d:D}(hl:d.low m=true):du σ1 aC ρ F d d:=by
 intro M Fz w v R h;have cK:∀b,b<m->∀x,σ1[b]? = some x->∃j,aC[b]? = some j/\j.sz=x.sz:=λb hb x X=>by
  obtain ⟨Z,j,u,s,E⟩:=N.sz b (EY hb N.le);rw[N.id b hb,X] at u
  simp_all
 have m2:∀b,b<m->mN aC.length ρ M b=M b:=λb hb=>by unfold mN;rw[if_pos (EY hb N.le),N.id b hb]
 induction h with
 |c h=>exact .c h.fzN
 |any v=>exact .any v
 |ptr a x h G z=>simp only[D.low,bz] at hl;obtain ⟨j,s,E⟩:=cK _ hl _ h;exact .ptr a j s (by omega) (λW=>by simp_all)
 |sl a n cap K x h G z=>simp only[D.low,bz] at hl;obtain ⟨j,s,E⟩:=cK _ hl _ h;exact .sl a n cap K j s (by omega) (λW=>by simp_all)
 |mp c x h z=>simp only[D.low,bz] at hl;obtain ⟨j,s,E⟩:=cK _ hl _ h;exact .mp c j s (λW=>by simp_all)
 |fn A ws u s z hw O U=>simp only[D.low,bI] at hl;exact .fn A ws u s (λi d v a b=>O i d v a b (D.aZ hl.1 i d a)) (λi d v a b=>U i d v a b (D.aZ hl.2 i d a))
 |agg A u z ih=>simp only[D.low] at hl;exact .agg A u (λi d v a b=>ih i d v a b (D.aZ hl i d a))
 |aT A u z ih=>simp only[D.low] at hl;exact .aT A u (λi d v a b=>ih i d v a b (D.aZ hl i d a))
theorem du.data(N:Rn m σ1 aC ρ F){d:D}(hl:d.low 0=true):du σ1 aC ρ F d d:=du.low N (D.eE (PF _) hl)
theorem du.ptr(N:Rn m σ1 aC ρ F){i off sz:Nat}(hi:i<aC.length):du σ1 aC ρ F (.ptr (ρ i) off sz) (.ptr i off sz):=λM G w v R h=>by
 obtain ⟨s,j,u,x,z⟩:=N.sz i hi;cases h with
 |ptr a K h A O=>rw[u] at h;simp only[au] at h;subst h;exact .ptr a j x (by omega) (λE=>by rw[z] at E;unfold mN;simp_all)
theorem du.sl(N:Rn m σ1 aC ρ F){i off len es sz:Nat}(hi:i<aC.length):du σ1 aC ρ F (.sl (ρ i) off len es sz) (.sl i off len es sz):=λM K w v R h=>by
 obtain ⟨u,j,x,z,A⟩:=N.sz i hi;cases h with
 |sl a n cap s O h E U=>rw[x] at h;simp only[au] at h;subst h;exact .sl a n cap s j z (by omega) (λG=>by rw[A] at G;unfold mN;simp_all)
theorem du.mp(N:Rn m σ1 aC ρ F){i:Nat}(hi:i<aC.length):du σ1 aC ρ F (.mp (ρ i)) (.mp i):=λM E w v R h=>by
 obtain ⟨s,j,u,x,z⟩:=N.sz i hi;cases h with
 |mp c G h K=>rw[u] at h;simp only[au] at h;subst h;exact .mp c j x (λA=>by rw[z] at A;unfold mN;simp_all)
theorem du.cD(N:Rn m σ1 aC ρ F){b i:Nat}{l:List (TT i)}(hF:F b)(hb:σ1[b]? = some (OB (enc i) l)):du σ1 aC ρ F (OS (aA i) b l.length) (.c (.cD false (l.map (enc i)))):=λM U w v R h=>by
 classical
 let G:Nat->Option Nat:=λb=>if F b then M b else none
 have RF:Rel σ1 G U w:=by
  refine ⟨λb c s=>?_,λb W c s u=>?_,R.fz,R.gl⟩
  ·simp only[G] at s;split at s
   ·rename_i X;obtain ⟨K,Z,o,E,h3,h4⟩:=R.blk b c s;refine ⟨K,Z,o,E,h3,?_⟩;obtain ⟨i',l',h5⟩:=N.row b X;rw[E] at h5;simp only[au] at h5;subst h5;obtain ⟨z,T,ho,A,O⟩:=h4;refine ⟨z,T,ho,A,λj d v a b=>?_⟩;obtain ⟨h6,h7⟩:=O j d v a b;rw[lJ,cy] at a;obtain ⟨x,_,rfl⟩:=a;cases h6 with
    |c h6=>exact ⟨.c h6,h7⟩
   simp_all
  ·simp only[G] at s u;split at s
   ·split at u
    ·exact R.inj b W c s u
    simp_all
   simp_all
 have O:V σ1 G U w (OS (aA i) b l.length) v:=by
  cases h with
  |sl a n cap aa Z h A O=>
   refine .sl a n cap aa Z h A λhe=>?_;rcases O he with K | ⟨c,o,z,T,K,E⟩
   ·simp_all
   ·exact .inr ⟨c,o,z,T,by grind,E⟩
 have K:=Dy (k:=98) (n:=l.length) (tj i) (Y.ps i) hb rfl;have E:=H_ RF 100 _ _ v K O;have h3:VC (fzN F M U) w (.cD (Nat.blt 0 l.length) (l.map (enc i))) v:=E.mono λc s=>by
  refine ⟨?_,rfl⟩;rcases s with s | ⟨W,_,s⟩
  ·exact .inl s
  ·simp only[G] at s;split at s
   ·rename_i hf;exact .inr ⟨W,hf,s⟩
   simp_all
 have:=Jy h3;exact .c this
theorem du.fn1{f:Fn}{d e:D}(h:du σ1 aC ρ F d e):du σ1 aC ρ F (.fn f [] [d]) (.fn f [] [e]):=λM u w v R s=>by
 cases s with
 |fn x z A E s G=>
  refine .fn x z A (by simpa using E) (λi d v j=>by simp at j) (λi K v j s=>?_);cases i with
  |zero=>simp only[wR,au] at j;subst j;exact h M u w v R (G 0 _ v rfl s)
  |succ i=>simp at j
theorem du.agg{ds es:List D}(h:aK (du σ1 aC ρ F) ds es):du σ1 aC ρ F (.agg ds) (.agg es):=λM s w v R j=>by
 cases j with
 |agg u x j=>refine .agg u (by rw[x,h.len]) λi d v a b=>?_;obtain ⟨z,A,E⟩:=h.get' i d a;exact E M s w v R (j i z v A b)
theorem du.aT{ds es:List D}(h:aK (du σ1 aC ρ F) ds es):du σ1 aC ρ F (.aT ds) (.aT es):=λM s w v R j=>by
 cases j with
 |aT u x j=>refine .aT u (by rw[x,h.len]) λi d v a b=>?_;obtain ⟨z,A,E⟩:=h.get' i d a;exact E M s w v R (j i z v A b)
def ObR(σ1 aC:ar)(ρ:Nat->Nat)(F:Nat->Prop):Ob->Ob->Prop
 |.cells ds,ob=>∃a,ob=.cells a/\aK (du σ1 aC ρ F) ds a
 |.map a k,ob=>ob=.map a k/\(a.all λe=>e.2.1.low 0)=true
 |.gone k,ob=>False
structure Rz (m:Nat) (σ1 aC:ar) (ρ:Nat->Nat) (F:Nat->Prop):Prop extends Rn m σ1 aC ρ F where
 ob:∀(i:Nat),i<aC.length->∃ob1 ob2,σ1[ρ i]? = some ob1/\aC[i]? = some ob2/\ObR σ1 aC ρ F ob1 ob2
theorem Rz.rel(N:Rz m σ1 aC ρ F){M:Nat->Option Nat}{Fz:Nat->Prop}{w:World}(R:Rel σ1 M Fz w):Rel aC (mN aC.length ρ M) (fzN F M Fz) w:=by
 refine ⟨λb c hb=>?_,λb b' c hb j=>?_,λc s=>?_,Gl.mono (λc h=>⟨.inl h,rfl⟩) R.gl⟩
 ·unfold mN at hb;split at hb
  ·rename_i z;obtain ⟨h1,ob,o,G,h3,h4⟩:=R.blk _ c hb;obtain ⟨ad,K,O,h6,U⟩:=N.ob b z;rw[G] at O;simp only[au] at O;subst O;refine ⟨λA=>?_,K,o,h6,h3,?_⟩
   ·rcases A with A | ⟨b',A,s⟩
    ·simp_all
    ·rw[R.inj _ _ c s hb] at A;exact N.fr b z A
   ·cases ob with
    |cells cs=>obtain ⟨u,T,W,E,X⟩:=h4;obtain ⟨es,rfl,ha⟩:=U;refine ⟨u,T,W,by grind [aK.len],λi d v x y=>?_⟩;obtain ⟨d1,h8,h9⟩:=ha.get' i d x;obtain ⟨Z,aa⟩:=X i d1 v h8 y;exact ⟨h9 M Fz w v R Z,aa⟩
    |map es ab=>obtain ⟨u,W,E,X⟩:=h4;obtain ⟨rfl,hl⟩:=U;refine ⟨u,W,E,λi k d n e x y=>?_⟩;obtain ⟨p,q,r⟩:=X i k d n e x y;rw[iE] at hl;exact ⟨p,q,du.data N.toRn (hl (k,d,n) (yP x)) M Fz w _ R r⟩
    |gone n=>exact U.elim
  simp_all
 ·unfold mN at hb j;split at hb
  ·rename_i h1;split at j
   ·rename_i G;exact N.inj b b' h1 G (R.inj _ _ c hb j)
   simp_all
  simp_all
 ·rcases s with s | ⟨b,_,s⟩
  ·exact R.fz c s
  ·exact (R.lt s).2
theorem Rz.evo(N:Rz m σ1 aC ρ F){σ:ar}(hm:σ.length<=m){M s:Nat->Option Nat}{Fz j:Nat->Prop}{w u:World}(X:∀b,F b->m<=b)(R:Rel σ M Fz w)(Z:Rel σ1 s j u)(E:bD σ M Fz w σ1 s j u) :
  bD σ M Fz w aC (mN aC.length ρ s) (fzN F s j) u:=by
 refine ⟨E.size,E.frame,λb c h=>?_,λc h=>⟨.inl (E.fz c h).1,(E.fz c h).2⟩,λc h=>?_,E.pU,λb A hb=>?_,E.out⟩
 ·unfold mN at h;split at h
  ·exact E.lE _ c h
  simp_all
 ·rcases h with h | ⟨b,_,h⟩
  ·exact E.nj c h
  ·rcases E.lE b c h with G | G
   ·simp_all
   omega
 ·obtain ⟨K,O,h2,h3⟩:=E.keep b A hb;have i:b<m:=EY (eY.1 hb).1 hm;obtain ⟨U,x,z,W,h6⟩:=N.sz b (EY i N.le);rw[N.id b i,O] at z;simp only[au] at z;subst z;refine ⟨x,W,by omega,λhe=>?_⟩;unfold mN;rw[if_pos (EY i N.le),N.id b i]
  simp_all
end
end
end Go.Abs
end
section
namespace Go.Abs
noncomputable section
variable[Gl][Y:Ty]
def SzC(m:Nat)(σ1 aC:ar):Prop:=∀b,b<m->∀e,σ1[b]? = some e->∃a,aC[b]? = some a/\a.sz=e.sz
def jK(m:Nat)(d1 d2:D):Prop:=∀(σ1 aC:ar)(M:Nat->Option Nat)(a:Nat->Prop)(w:World)(v:Value),SzC m σ1 aC->V σ1 M a w d1 v->V aC (cV M m) a w d2 v
theorem jK.any(m:Nat)(d:D):jK m d .any:=λ_ _ _ _ _ _ _ _=>.any _
theorem jK.low{m:Nat}{d:D}(hl:d.low m=true):jK m d d:=by
 intro σ1 aC M Z w v hs h;induction h with
 |c h=>exact .c h
 |any v=>exact .any v
 |ptr a W h E u=>simp only[D.low,bz] at hl;obtain ⟨j,s,G⟩:=hs _ hl _ h;exact .ptr a j s (by omega) (λA=>by grind [cV])
 |sl a n cap K W h E u=>simp only[D.low,bz] at hl;obtain ⟨j,s,G⟩:=hs _ hl _ h;exact .sl a n cap K j s (by omega) (λA=>by rw[G] at A;simpa[cV,hl] using u A)
 |mp c W h u=>simp only[D.low,bz] at hl;obtain ⟨j,s,G⟩:=hs _ hl _ h;exact .mp c j s (λA=>by grind [cV])
 |fn x X z s u hw O U=>simp only[D.low,bI] at hl;exact .fn x X z s (λi d v a b=>O i d v a b (D.aZ hl.1 i d a)) (λi d v a b=>U i d v a b (D.aZ hl.2 i d a))
 |agg x z u ih=>simp only[D.low] at hl;exact .agg x z (λi d v a b=>ih i d v a b (D.aZ hl i d a))
 |aT x z u ih=>simp only[D.low] at hl;exact .aT x z (λi d v a b=>ih i d v a b (D.aZ hl i d a))
theorem jK.le{m:Nat}{d1 d2 i:D}(h:ED d1 d2)(s:jK m d2 i):jK m d1 i:=λσ1 aC M j w v hs u=>s σ1 aC M j w v hs (h σ1 M j w v u)
theorem jK.agg{m:Nat}{ds es:List D}(h:aK (jK m) ds es):jK m (.agg ds) (.agg es):=λσ1 aC M s w v hs j=>by
 cases j with
 |agg u x j=>refine .agg u (by rw[x,h.len]) λi d v a b=>?_;obtain ⟨z,A,E⟩:=h.get' i d a;exact E σ1 aC M s w v hs (j i z v A b)
theorem jK.aT{m:Nat}{ds es:List D}(h:aK (jK m) ds es):jK m (.aT ds) (.aT es):=λσ1 aC M s w v hs j=>by
 cases j with
 |aT u x j=>refine .aT u (by rw[x,h.len]) λi d v a b=>?_;obtain ⟨z,A,E⟩:=h.get' i d a;exact E σ1 aC M s w v hs (j i z v A b)
def ZH(m:Nat):Ob->Ob->Prop
 |.cells ds,ob=>∃a,ob=.cells a/\aK (jK m) ds a
 |.map a k,ob=>ob=.map a k/\(a.all λe=>e.2.1.low m)=true
 |.gone k,ob=>ob=.gone k
theorem ZH.sz{m:Nat}{a b:Ob}(h:ZH m a b):b.sz=a.sz:=by
 cases a with
 |cells ds=>obtain ⟨i,rfl,h⟩:=h;simp only[Ob.sz,h.len]
 |map i k=>obtain ⟨rfl,_⟩:=h;rfl
 |gone k=>cases h;rfl
structure HpW (m:Nat) (σ1 aC:ar):Prop where
 len:aC.length=m
 le:m<=σ1.length
 ob:∀b ob,σ1[b]? = some ob->b<m->∃ob2,aC[b]? = some ob2/\ZH m ob ob2
theorem HpW.szc{m:Nat}{σ1 aC:ar}(h:HpW m σ1 aC):SzC m σ1 aC:=λb hb j s=>let ⟨i,h1,h2⟩:=h.ob b j s hb;⟨i,h1,h2.sz⟩
theorem HpW.rel{m:Nat}{σ1 aC:ar}(h:HpW m σ1 aC){M:Nat->Option Nat}{Fz:Nat->Prop}{w:World}(R:Rel σ1 M Fz w):Rel aC (cV M m) Fz w:=by
 refine ⟨λb c hb=>?_,λb Z c hb j=>?_,R.fz,R.gl⟩
 ·unfold cV at hb;split at hb
  ·rename_i z;obtain ⟨h1,W,o,h2,h3,A⟩:=R.blk b c hb;obtain ⟨E,h5,X⟩:=h.ob b W h2 z;refine ⟨h1,E,o,h5,h3,?_⟩;cases W with
   |cells cs=>obtain ⟨s,T,G,u,K⟩:=A;obtain ⟨es,rfl,ha⟩:=X;refine ⟨s,T,G,by grind [aK.len],λi d v x y=>?_⟩;obtain ⟨d1,h7,h8⟩:=ha.get' i d x;obtain ⟨h9,O⟩:=K i d1 v h7 y;exact ⟨h8 σ1 aC M Fz w v h.szc h9,O⟩
   |map es U=>obtain ⟨s,G,u,K⟩:=A;obtain ⟨rfl,hl⟩:=X;refine ⟨s,G,u,λi k d n e x y=>?_⟩;obtain ⟨p,q,r⟩:=K i k d n e x y;rw[iE] at hl;exact ⟨p,q,jK.low (hl (k,d,n) (yP x)) σ1 aC M Fz w _ h.szc r⟩
   |gone n=>exact A.elim
  simp_all
 ·unfold cV at hb j;split at hb
  ·split at j
   ·exact R.inj b Z c hb j
   simp_all
  simp_all
theorem HpW.evo{m:Nat}{σ1 aC σ:ar}(h:HpW m σ1 aC){M x:Nat->Option Nat}{Fz i:Nat->Prop}{w z:World}(E:bD σ M Fz w σ1 x i z)(hm:σ.length<=m):bD σ M Fz w aC (cV x m) i z:=by
 refine ⟨E.size,E.frame,λb c h=>?_,E.fz,E.nj,E.pU,λb A hb=>?_,E.out⟩
 ·unfold cV at h;split at h
  ·exact E.lE b c h
  simp_all
 ·obtain ⟨s,G,O,U⟩:=E.keep b A hb;have j:b<m:=EY (eY.1 hb).1 hm;obtain ⟨u,K,W⟩:=h.ob b s G j;exact ⟨u,K,by grind [ZH.sz],λX=>by simp only[cV,if_pos j];grind [ZH.sz]⟩
structure StW0 (m:Nat) (al1:AL) (σ1:ar) (al2:AL) (aC:ar):Prop where
 hp:HpW m σ1 aC
 rg:∀t d2,lk t al2=some d2->∃d1,lk t al1=some d1/\jK m d1 d2
def wG(m:Nat)(al1:AL)(σ1:ar)(al2:AL)(aC:ar):Prop:=m<=aC.length/\∀(n:Nat)(h:Nat->Option Nat)(a:Nat->Prop)(f:World)(e:Array Value),Rel σ1 h a f->dX n σ1 h a f al1 e ->
 ∃i b,Rel aC i b f/\dX n aC i b f al2 e/\Kd h a i b/\∀(σ:ar)(M:Nat->Option Nat)(j:Nat->Prop)(w:World),Rel σ M j w->bD σ M j w σ1 h a f->σ.length<=m->bD σ M j w aC i b f
section
variable{P:Program}{n:Nat}{al al1 al2:AL}{σ σ1 aC:ar}{Q Q':ni->AL->ar->Prop}
theorem StW0.st{m:Nat}(h:StW0 m al1 σ1 al2 aC):wG m al1 σ1 al2 aC:=⟨by rw[h.hp.len];omega,λn s i W j R A=>by
 refine ⟨cV s m,i,h.hp.rel R,⟨A.1,λt d u=>?_⟩,⟨λb c h=>⟨b,by simp only[cV] at h;split at h <;> simp_all⟩,λc h=>.inl h,λc h=>h⟩,λσ M X w _ E x=>h.hp.evo E x⟩
 obtain ⟨z,G,K⟩:=h.rg t d u;obtain ⟨v,O,U⟩:=A.2 t z G;exact ⟨v,O,K _ _ _ _ _ _ h.hp.szc U⟩⟩
theorem wG.refl{m:Nat}(h:m<=σ.length):wG m al σ al σ:=⟨h,λn s i u j R A=>⟨s,i,R,A,Kd.refl,λσ M x w _ E _=>E⟩⟩
theorem wG.trans{m:Nat}{j:AL}{s:ar}(h:wG m al1 σ1 al2 aC)(x:wG m al2 aC j s):wG m al1 σ1 j s:=⟨x.1,λn E u z i R A=>by
 obtain ⟨G,K,M,O,U,E2⟩:=h.2 n E u z i R A;obtain ⟨W,X,Z,A3,W3,E3⟩:=x.2 n G K z i M O;refine ⟨W,X,Z,A3,U.trans W3,?_⟩
 grind⟩
theorem wG.rn{m:Nat}{ρ:Nat->Nat}{F:Nat->Prop}(N:Rz m σ1 aC ρ F)(j:∀b,F b->m<=b)(h:∀t d2,lk t al2=some d2->∃d1,lk t al1=some d1/\du σ1 aC ρ F d1 d2):wG m al1 σ1 al2 aC:=⟨N.le,λn W s X i R A=>by
 refine ⟨_,_,N.rel R,⟨A.1,λt d u=>?_⟩,⟨λb c h=>⟨ρ b,by unfold mN at h;split at h <;> simp_all⟩,λc h=>h.elim .inl λ⟨b,_,h⟩=>.inr ⟨b,h⟩,λc h=>.inl h⟩,λσ M Z w x E z=>N.evo z j x R E⟩
 obtain ⟨d1,G,K⟩:=h t d u;obtain ⟨v,O,U⟩:=A.2 t d1 G;exact ⟨v,O,K _ _ _ _ R U⟩⟩
theorem wG.use{m:Nat}(h:wG m al1 σ1 al2 aC){M z:Nat->Option Nat}{Fz i:Nat->Prop}{w u:World}{j:Array Value}(G:Rel σ M Fz w)(R:Rel σ1 z i u)(A:dX n σ1 z i u al1 j)(E:bD σ M Fz w σ1 z i u)(hm:σ.length<=m) :
  ∃x s,Rel aC x s u/\dX n aC x s u al2 j/\bD σ M Fz w aC x s u/\σ.length<=aC.length/\Kd z i x s:=by
 obtain ⟨x,K,O,U,W,X⟩:=h.2 n z i u j R A;exact ⟨x,K,O,U,X σ M Fz w G E hm,kj hm h.1,W⟩
theorem Sem.eQ{ac:aP}(h:Sem P ac n al σ Q)(s:∀x i σ',Q x i σ'->Q' x i σ'\/∃al2 aC,wG σ.length i σ' al2 aC/\Q' x al2 aC):Sem P ac n al σ Q':=by
 intro c u M z w a K R A hK;refine h c u M z w a K R A λx i σ' a' w' M' E G O U W X hl=>?_;rcases s x i σ' G with j | ⟨al2,aC,Z,j⟩
 ·grind
 ·obtain ⟨M2,F2,R2,A2,E2,l2,W2⟩:=Z.use R U W X (cO _);have:=O.wth W2
  grind
theorem Sem.jO{a b:aP}(h:Sem P a n al σ λx al1 σ1=>match x with | .normal=>Sem P b n al1 σ1 Q\/∃al2 aC,wG σ.length al1 σ1 al2 aC/\Sem P b n al2 aC Q | x=>Q x al1 σ1):Sem P (.seq a b) n al σ Q:=by
 refine Sem.seq (h.eQ (Q':=λx al1 σ1=>match x with | .normal=>∃al2 aC,Wk σ.length al1 σ1 al2 aC/\Sem P b n al2 aC Q | x=>Q x al1 σ1) λx s u j=>?_);cases x with
 |normal=>
  rcases j with j | ⟨al2,aC,z,j⟩
  ·exact .inl ⟨s,u,.refl,j⟩
  ·exact .inr ⟨al2,aC,z,al2,aC,.refl,j⟩
 |exit i=>simp_all
 |ret=>simp_all
theorem kU.preW{ac:aP}{k:Nat}(hs:wG σ.length al σ al2 aC)(h:kU P ac k n al2 aC Q):kU P ac k n al σ Q:=by intro c z M Fz w a K R A E;obtain ⟨G,O,U,W,X,u,W2⟩:=hs.use R R A (bD.refl R) (cO _);exact h c z G O w a K U W λx i j Z w' M' s hQ hd R' A' E' hl=>E x i j Z w' M' s hQ hd R' A' (X.trans E' u) (kj u hl)
theorem kU.succW{b:aP}{k:Nat}(h:Sem P b n al σ λx al1 σ1=>match x with | .normal=>∃al2 aC,wG σ.length al1 σ1 al2 aC/\kU P b k n al2 aC Q | x=>Q x al1 σ1):kU P b (k+1) n al σ Q:=by
 refine kU.succ (h.eQ (Q':=λx al1 σ1=>match x with | .normal=>∃al2 aC,Wk σ.length al1 σ1 al2 aC/\kU P b k n al2 aC Q | x=>∃al2 aC,Wk σ.length al1 σ1 al2 aC/\Q x al2 aC) λx j s u=>?_);cases x with
 |normal=>obtain ⟨al2,aC,z,u⟩:=u;exact .inr ⟨al2,aC,z,al2,aC,.refl,u⟩
 |exit i=>exact .inl ⟨j,s,.refl,u⟩
 |ret=>exact .inl ⟨j,s,.refl,u⟩
end
section
theorem WN{σ:TH}{x:TC}{d:D}(r:RC x d)(g:GC σ x):jK σ.length d x.er:=by
 rcases r with rfl | rfl
 ·exact jK.any _ _
 ·cases x with
  |any=>exact jK.any _ _
  |d y=>exact jK.low g
  |own i b v n=>obtain ⟨blk,h,_⟩:=g;exact jK.low (by simp only[TC.er,OS,D.low,bz];grind)
  |op i b v n k a off=>obtain ⟨blk,h,_⟩:=g;exact jK.low (by simp only[TC.er,D.low,bz];grind)
  |os i b v n e len=>obtain ⟨blk,h,_⟩:=g;exact jK.low (by simp only[TC.er,D.low,bz];grind)
  |ap b off len sz k=>exact jK.low (by simp only[TC.er,D.low,bz];exact g)
  |Fx f j=>exact jK.low (CJ g)
  |_=>exact jK.low rfl
theorem Yj{σ:TH}{x:TC}{d:D}(r:RC x d)(g:GC σ x):∃d2,jK σ.length d d2/\RC x d2:=⟨_,WN r g,.inr rfl⟩
theorem Zb{σ:TH}{xs:List TC}{ds:List D}(r:aK RC xs ds)(g:∀x∈xs,GC σ x):∃es,aK (jK σ.length) ds es/\aK RC xs es:=by
 induction r with
 |nil=>exact ⟨[],.nil,.nil⟩
 |cons h _ ih=>obtain ⟨e,a,b⟩:=Yj h (g _ (rJ ..));obtain ⟨es,f,i⟩:=ih λx j=>g x (nS _ j);exact ⟨e::es,.cons a f,.cons b i⟩
theorem RE_wk{σ:TH}{p:Bool×List TC}{d:D}(r:RE p d)(g:∀x∈p.2,GC σ x):∃d2,jK σ.length d d2/\RE p d2:=by
 obtain ⟨f,j⟩:=p;cases f with
 |true=>obtain ⟨ds,rfl,h⟩:=r;obtain ⟨i,a,b⟩:=Zb h g;exact ⟨.agg i,jK.agg a,i,rfl,b⟩
 |false=>obtain ⟨x,rfl,h⟩:=r;obtain ⟨e,a,b⟩:=Yj h (g x (by simp));exact ⟨e,a,x,rfl,b⟩
theorem RT_wk{σ:TH}{x:TV}{d:D}(r:RT x d)(g:GV σ x):∃d2,jK σ.length d d2/\RT x d2:=by
 cases x with
 |c x=>exact Yj r g
 |agg i=>obtain ⟨ds,rfl,h⟩:=r;obtain ⟨a,b,f⟩:=Zb h g;exact ⟨.agg a,jK.agg b,a,rfl,f⟩
 |aT i=>
  obtain ⟨ds,rfl,h⟩:=r;have:∃a,aK (jK σ.length) ds a/\aK RE i a:=by
   induction h with
   |nil=>exact ⟨[],.nil,.nil⟩
   |cons h _ ih=>obtain ⟨e,b,f⟩:=RE_wk h (g _ (rJ ..));obtain ⟨a,j,l⟩:=ih λx p=>g x (nS _ p);exact ⟨e::a,.cons b j,.cons f l⟩
  obtain ⟨a,b,f⟩:=this;exact ⟨.aT a,jK.aT b,a,rfl,f⟩
theorem RR_wk{al:TA}{σ:TH}{x:RV}{d:D}(r:RR x d)(g:GW al σ x):∃d2,jK σ.length d d2/\RR x d2:=by
 cases x with
 |v x=>exact RT_wk r g
 |g c w p x=>
  by_cases h:c=w
  ·simp only[RR,if_pos h] at r ⊢;exact RT_wk r (g.2 h)
  ·simp only[RR,if_neg h] at r ⊢;subst r;exact ⟨.aT [],jK.low rfl,rfl⟩
theorem rdV_wk{m:Nat}{c:dr}{v:TV}{d:D}{a:c.dn}(h:qp c v=some a)(r:RT v d):jK m d (c.enc a):=by obtain ⟨b,f,_⟩:=OD h r;refine jK.le (d2:=Ca d) (λσ M i w v e=>Eo e) ?_;rw[b];exact jK.low (D.eE (PF _) (c.Je a))
theorem rdC_wk{m:Nat}{c:CC}{x:TC}{d:D}{a:c.dn}(h:Ew c x=some a)(r:RC x d):jK m d (.c (rR enc c a)):=by
 obtain ⟨f,b⟩:=oD h;rcases r with r | rfl
 ·simp_all
 ·rw[<-b];refine jK.le (d2:=wo x.er) (λσ M i w v e=>HO e) ?_;rw[b];exact jK.low rfl
theorem rdI_wk{m:Nat}{c:It}{x:TC}{d:D}{a:c.dn}(h:rdI c x=some a)(r:RC x d):jK m d (XL c a).er:=by
 cases c with
 |cc c=>rw[XL,lu];exact rdC_wk h r
 |fp i=>
  have:=GU (i:=i) h;subst this;rcases r with r | rfl
  ·cases r
  ·exact jK.low rfl
 |_=>simp[rdI] at h
theorem BK{α:Type}{p:Nat->α->Prop}(m:Nat)(h:∀b,b<m->∃a,p b a):∃l:List α,l.length=m/\∀b a,l[b]? = some a->p b a:=by
 induction m with
 |zero=>simp_all
 |succ m ih=>
  obtain ⟨l,e,f⟩:=ih λb hb=>h b (by omega);obtain ⟨a,i⟩:=h m (by omega);refine ⟨l++[a],by simp[e],λb x j=>?_⟩
  grind
theorem Rl{t:Nat}:∀{al:TA}{f:Nat->D},(∃x p,iC t al=some (x,p))->lk t (al.map λp=>(p.1,f p.1))=some (f t):=by
 intro al f;induction al with
 |nil=>grind [iC]
 |cons y al ih=>grind [iC,lk,Nat.eq_of_beq_eq_true]
theorem Ns{t:Nat}{d:D}:∀{al:TA}{f:Nat->D},lk t (al.map λp=>(p.1,f p.1))=some d->(∃x p,iC t al=some (x,p))/\d=f t:=by
 intro al f;induction al with
 |nil=>grind [lk]
 |cons y al ih=>
  intro h;obtain ⟨s,z⟩:=y;simp only[ql,lk] at h;simp only[iC];split at h
  ·simp_all
  simp_all
theorem stw_of{al2:TA}{aC:TH}{a:AL}{σD1:ar}(u:aC.length<=σD1.length)
  (z:∀t x p,iC t al2=some (x,p)->GW al2 aC x/\∃d1 d2,lk t a=some d1/\jK aC.length d1 d2/\RR x d2)
  (hb:∀(b:Nat) blk,aC[b]? = some blk->∃i j,σD1[b]? = some i/\ZH aC.length i j/\RB blk j)
  (E:∀(b:Nat) w cs,aC[b]? = some (.cells w cs)->∀p∈cs,GC aC p.2/\p.1<=w) :
  ∃l e,wG aC.length a σD1 l e/\Ref al2 aC l e:=by
 have v:∃f:Nat->D,∀t x p,iC t al2=some (x,p)->∃d1,lk t a=some d1/\jK aC.length d1 (f t)/\RR x (f t):=by
  have:∀t,∃d2,∀x p,iC t al2=some (x,p)->∃d1,lk t a=some d1/\jK aC.length d1 d2/\RR x d2:=by
   intro t;cases G:iC t al2 with
   |none=>simp_all
   |some q=>obtain ⟨x,p⟩:=q;obtain ⟨_,d1,d2,N,K,y⟩:=z t x p G;exact ⟨d2,λO T h=>by simp_all⟩
  exact ⟨λt=>Classical.choose (this t),λt=>Classical.choose_spec (this t)⟩
 obtain ⟨f,v⟩:=v;obtain ⟨e,hl,K⟩:=BK (p:=λb j=>∃blk i,aC[b]? = some blk/\σD1[b]? = some i/\ZH aC.length i j/\RB blk j) aC.length λb s=>by
  obtain ⟨i,j,y,L,A⟩:=hb b _ (eK s)
  grind
 refine ⟨al2.map λp=>(p.1,f p.1),e,StW0.st ⟨⟨hl,u,λb U W M=>?_⟩,λt d h=>?_⟩,⟨⟨by rw[hl],λb blk s=>?_,E⟩,λt x p h=>?_⟩⟩
 ·grind
 ·obtain ⟨⟨x,p,y⟩,rfl⟩:=Ns h
  grind
 ·grind
 ·obtain ⟨d1,y,L,A⟩:=v t x p h;exact ⟨f t,Rl ⟨x,p,h⟩,A,(z t x p h).1⟩
end
end
end Go.Abs
end
section
namespace Go.Abs
noncomputable section
variable[Gl][Y:Ty]
def notH(pl:List Pl)(b j:Nat):Prop:=∀c,Pl.h b j c∉pl
def notW(pl:List Pl)(b:Nat):Prop:=∀i,Pl.w b i∉pl
def notM(pl:List Pl)(b:Nat):Prop:=∀j st,Pl.m b j st∉pl
def SB(pl:List Pl)(b:Nat):TB->TB->Prop
 |.cells w x,a=>∃w1 e,a=.cells w1 e/\e.length=x.length/\∀(j:Nat) p p1,x[j]? = some p->e[j]? = some p1->notH pl b j->p1=p
 |.row i l y z,a=>∃s f h,a=.row i s f h/\(notW pl b->s=l/\f=y/\h=z)
 |.mp j st l v,a=>∃A u s E,a=.mp A u s E/\(notM pl b->a=.mp j st l v)
def HS(pl:List Pl)(σ σ1:TH):Prop:=∀(b:Nat) blk,σ[b]? = some blk->∃a,σ1[b]? = some a/\SB pl b blk a
theorem SB.trans{pl:List Pl}{b:Nat}{x y z:TB}(u:SB pl b x y)(A:SB pl b y z):SB pl b x z:=by
 cases x with
 |cells w cs=>
  obtain ⟨w1,X,rfl,O,c1⟩:=u;obtain ⟨w2,E,rfl,s,U⟩:=A;refine ⟨w2,E,rfl,by omega,λj p p2 e e2 W=>?_⟩
  grind
 |row i l lv cv=>
  obtain ⟨O,Z,aa,rfl,c1⟩:=u;obtain ⟨s,G,K,rfl,U⟩:=A;refine ⟨s,G,K,rfl,λW=>?_⟩
  simp_all
 |mp j st l v=>
  obtain ⟨j1,ab,O,v1,rfl,c1⟩:=u;obtain ⟨j2,M,s,v2,rfl,U⟩:=A;refine ⟨j2,M,s,v2,rfl,λW=>?_⟩
  grind
theorem HS.trans{pl:List Pl}{σ σ1 aC:TH}(s:HS pl σ σ1)(u:HS pl σ1 aC):HS pl σ aC:=λb blk h=>by obtain ⟨i,x,s1⟩:=s b blk h;obtain ⟨j,z,A⟩:=u b i x;exact ⟨j,z,s1.trans A⟩
theorem Ic{f:Pl->Bool}{pl:List Pl}(h:pl.any f=true):∃p∈pl,f p=true:=by simp_all
theorem HZ{pl:List Pl}{b:Nat}:∀{xs a:List (Nat×TC)}{f:Nat},lM pl b f xs a=true->xs.length=a.length/\∀(j:Nat) p q,xs[j]? = some p->a[j]? = some q->notH pl b (f+j)->p.1=q.1:=by
 intro xs;induction xs with
 |nil=>
  intro a f h;cases a with
  |nil=>simp_all
  |cons y a=>grind [lM]
 |cons x xs ih=>
  intro a f h;cases a with
  |nil=>grind [lM]
  |cons y a=>
   obtain ⟨v,x⟩:=x;obtain ⟨w,y⟩:=y;simp only[lM,bI,gz] at h;obtain ⟨i,u⟩:=h;obtain ⟨z,L⟩:=ih u;refine ⟨by simp[z],λj p q e s A=>?_⟩;cases j with
   |zero=>
    simp only[wR,au] at e s;subst e s;rcases i with i | i
    ·simp_all
    ·obtain ⟨p,E,l⟩:=Ic i;exfalso;split at l
     ·rename_i M N c;simp only[bI] at l;have G:=dd l.1;have K:=dd l.2;subst G K;exact A c E
     grind
   |succ j=>grind
theorem Bs{pl:List Pl}:∀{σ σ1:TH}{e:Nat},ed pl e σ σ1=true->∀(b:Nat) blk,σ[b]? = some blk->∃a,σ1[b]? = some a/\zQ pl (e+b) blk a=true:=by
 intro σ;induction σ with
 |nil=>simp_all
 |cons x σ ih=>
  intro σ1 e h b blk hb;cases σ1 with
  |nil=>grind [ed]
  |cons y σ1=>
   simp only[ed,bI] at h
   grind
theorem zdp{pl:List Pl}{σ σ1:TH}{σD:ar}(H:RH σ σD)(h:ed pl 0 σ σ1=true)(W:Ext σ σ1):HS pl σ σ1:=λb blk hb=>by
 obtain ⟨f,T,a⟩:=Bs h b blk hb;rw[Pe] at a;obtain ⟨z,A,E⟩:=W b blk hb;rw[T] at A;simp only[au] at A;subst A;refine ⟨f,T,?_⟩;cases blk with
 |cells w X=>
  obtain ⟨w1,G,rfl,hw,_,hc⟩:=E;simp only[zQ] at a;obtain ⟨hl,Z⟩:=HZ a;refine ⟨w1,G,rfl,hl.symm,λj p p1 e s y=>?_⟩;have hv:=Z j p p1 e s (by simp_all);obtain ⟨v,x⟩:=p;obtain ⟨U,x1⟩:=p1;have aa:=(H.hg b w X hb _ (yP e)).2
  grind
 |row i l lv cv=>
  obtain ⟨K,L,M,rfl,_,_,_,h8⟩:=E;refine ⟨K,L,M,rfl,λy=>?_⟩;simp only[zQ,gz] at a;rcases a with a | a
  ·simp_all
  ·obtain ⟨p,N,u⟩:=Ic a;exfalso;split at u
   ·have s:=dd u;subst s;exact y _ N
   simp_all
 |mp j st l v=>
  obtain ⟨j1,O,K,U,rfl,_,h8⟩:=E;refine ⟨j1,O,K,U,rfl,λy=>?_⟩;simp only[zQ,gz] at a;rcases a with a | a
  ·simp_all
  ·obtain ⟨p,N,u⟩:=Ic a;exfalso;split at u
   ·have s:=dd u;subst s;exact y _ _ N
   simp_all
def PB(al1:TA)(σ1:TH)(ps:List Pl)(b:Nat):TB->TB->Prop
 |.cells w E,e=>∃w2 f,e=.cells w2 f/\f.length=E.length/\∀(j:Nat) x,f[j]? = some x->x.1<=w2/\((∃c a,x.2=XL c a/\Vh al1 σ1 (.h b j c)=some a/\Pl.h b j c∈ps)\/(E[j]? = some x/\notH ps b j))
 |.row i l K L,e=>∃h p s,e=.row i h p s/\(((∃y z,σ1[b]? = some (.row i h y z))/\∃M,Pl.w b M∈ps)\/(h=l/\p=K/\s=L/\notW ps b))
 |.mp j st l v,e=>∃G u h N,e=.mp G u h N/\(((∃O,σ1[b]? = some (.mp G u h O))/\∃T A,Pl.m b T A∈ps)\/(e=.mp j st l v/\notM ps b))
def PQ(al1:TA)(σ1:TH)(ps:List Pl)(σ aC:TH):Prop:=aC.length=σ.length/\∀(b:Nat) blk,σ[b]? = some blk->∃a,aC[b]? = some a/\BE blk a/\PB al1 σ1 ps b blk a
theorem yt{i j:Nat}{l:List (Int×TT j)}{m:List (Int×TT i)}(h:MR l=some m):∃e:j=i,m=e▸l:=by
 unfold MR at h;split at h
 ·simp_all
 simp_all
theorem PQ.nil{al1:TA}{σ1 σ:TH}{σD:ar}(H:RH σ σD):PQ al1 σ1 [] σ σ:=⟨rfl,λb blk h=>⟨blk,h,BE.refl blk,by
 cases blk with
 |cells w s=>exact ⟨w,s,rfl,rfl,λj u e=>⟨(H.hg b w s h u (yP e)).2,.inr ⟨e,λc A=>by grind⟩⟩⟩
 |row i l x z=>exact ⟨l,x,z,rfl,.inr ⟨rfl,rfl,rfl,λi hi=>by grind⟩⟩
 |mp j st l v=>exact ⟨j,st,l,v,rfl,.inr ⟨rfl,λj st hi=>by grind⟩⟩⟩⟩
theorem PB.NK{al1:TA}{σ1:TH}{ps:List Pl}{b:Nat}{x y:TB}{p:Pl}(h:PB al1 σ1 ps b x y)(h1:∀j c,p≠.h b j c)(h2:∀i,p≠.w b i)(h3:∀j st,p≠.m b j st):PB al1 σ1 (p::ps) b x y:=by
 cases x with
 |cells w cs=>
  obtain ⟨w2,E,e,A,W⟩:=h;refine ⟨w2,E,e,A,λj X Z=>?_⟩;obtain ⟨h4,s⟩:=W j X Z;refine ⟨h4,?_⟩;rcases s with ⟨c,a,s,z,U⟩ | ⟨s,z⟩
  ·grind
  ·refine .inr ⟨s,λc u=>?_⟩;rcases gu.1 u with u | u
   ·grind
   ·exact z c u
 |row i l lv cv=>
  obtain ⟨A,G,K,e,s⟩:=h;refine ⟨A,G,K,e,?_⟩;rcases s with ⟨s,i',z⟩ | ⟨s,z,U,M⟩
  ·grind
  ·refine .inr ⟨s,z,U,λi hi=>?_⟩;rcases gu.1 hi with u | u
   ·grind
   ·exact M i u
 |mp j st l v=>
  obtain ⟨j2,O,A,v2,e,s⟩:=h;refine ⟨j2,O,A,v2,e,?_⟩;rcases s with ⟨s,j',aa,z⟩ | ⟨s,M⟩
  ·grind
  ·refine .inr ⟨s,λj st hi=>?_⟩;rcases gu.1 hi with u | u
   ·grind
   ·exact M j st u
theorem PQ.step{al1:TA}{σ1 σ aC:TH}{σD:ar}{ps pl:List Pl}(H:RH σ σD)(hs:HS pl σ σ1)(p:Pl)(x:p.dn)(Z:Vh al1 σ1 p=some x)(h:PQ al1 σ1 ps σ aC):PQ al1 σ1 (p::ps) σ (UV p x aC):=by
 obtain ⟨hl,hb⟩:=h;cases p with
 |r t c=>exact ⟨hl,λb blk e=>let ⟨s,G,M,K⟩:=hb b blk e;⟨s,G,M,K.NK (by simp) (by simp) (by simp)⟩⟩
 |w U i0=>
  simp only[UV];split
  ·rename_i j l lv cv e0;refine ⟨by simp[hl],λb blk e=>?_⟩;obtain ⟨s,G,M,K⟩:=hb b blk e;by_cases u:b=U
   ·subst u;rw[e0] at G;simp only[au] at G;subst G;refine ⟨_,FV e0,?_⟩;simp only[Vh] at Z;split at Z
    ·rename_i j1 l1 ax a0 e1;obtain ⟨rfl,rfl⟩:=ZX Z;obtain ⟨ab,E,sb⟩:=hs b blk e;rw[e1] at E;simp only[au] at E;subst E;cases blk with
     |cells w cs=>obtain ⟨_,_,O,_⟩:=sb;grind
     |mp q st l v=>obtain ⟨_,_,_,_,O,_⟩:=sb;grind
     |row i l0 a7 a8=>obtain ⟨l5,a9,bb,O,_⟩:=sb;simp only[TB.row.injEq] at O;obtain ⟨rfl,e5,rfl,rfl⟩:=O;cases e5;obtain ⟨l6,bd,be,e6,b1,b2,b3,b4⟩:=M;simp only[TB.row.injEq] at e6;obtain ⟨rfl,e7,rfl,rfl⟩:=e6;cases e7;exact ⟨⟨_,_,_,rfl,by omega,by omega,λe=>by omega,λe=>by omega⟩,⟨_,_,_,rfl,.inl ⟨⟨ax,a0,e1⟩,_,rJ ..⟩⟩⟩
    simp_all
   ·exact ⟨s,by grind,M,K.NK (by simp) (by grind) (by simp)⟩
  ·rename_i ad;refine ⟨hl,λb blk e=>?_⟩;obtain ⟨s,G,M,K⟩:=hb b blk e;refine ⟨s,G,M,?_⟩;by_cases u:b=U
   ·subst u;cases s with
    |row i l lv cv=>grind
    |cells w cs=>
     cases blk with
     |cells w' a1=>
      obtain ⟨w2,af,E,l2,c2⟩:=K;refine ⟨w2,af,E,l2,λj p2 O=>?_⟩;obtain ⟨h4,W⟩:=c2 j p2 O;refine ⟨h4,?_⟩;rcases W with ⟨c,a,W,h6,h7⟩ | ⟨W,h6⟩
      ·grind
      ·refine .inr ⟨W,λc X=>?_⟩;rcases gu.1 X with X | X
       ·grind
       ·exact h6 c X
     |row i l lv cv=>obtain ⟨_,_,_,E,_⟩:=K;grind
     |mp q st l v=>obtain ⟨_,_,_,_,E,_⟩:=K;grind
    |mp q st l v=>
     cases blk with
     |mp q' ak l' v'=>
      obtain ⟨j2,a2,l2,v2,E,W⟩:=K;refine ⟨j2,a2,l2,v2,E,?_⟩;rcases W with ⟨W,j',ak,h6⟩ | ⟨W,h8⟩
      ·grind
      ·refine .inr ⟨W,λj st hi=>?_⟩;rcases gu.1 hi with X | X
       ·grind
       ·exact h8 j st X
     |row i l lv cv=>obtain ⟨_,_,_,E,_⟩:=K;grind
     |cells w cs=>obtain ⟨_,_,E,_⟩:=K;grind
   ·exact K.NK (by simp) (by grind) (by simp)
 |h U j0 c0=>
  have A:∀blk,σ[U]? = some blk->∃w cs w1 aa y,blk=.cells w cs/\σ1[U]? = some (.cells w1 aa)/\aa[j0]? = some y/\rdI c0 y.2=some x/\j0<cs.length:=by
   intro blk e;have bh:=Z;simp only[Vh] at Z;split at Z
   ·rename_i w1 aa e1;split at Z
    ·rename_i y G;obtain ⟨ab,E,sb⟩:=hs U blk e;rw[e1] at E;simp only[au] at E;subst E;cases blk with
     |cells w cs=>
      obtain ⟨_,_,O,l4,_⟩:=sb
      grind
     |row i l lv cv=>obtain ⟨_,_,_,O,_⟩:=sb;grind
     |mp q st l v=>obtain ⟨_,_,_,_,O,_⟩:=sb;grind
    simp_all
   simp_all
  simp only[UV];split
  ·rename_i w' a1 e0;refine ⟨by simp[hl],λb blk e=>?_⟩;obtain ⟨s,G,M,K⟩:=hb b blk e;by_cases u:b=U
   ·subst u;rw[e0] at G;simp only[au] at G;subst G;obtain ⟨w,cs,w1,aa,y,rfl,E,O,e5,e6⟩:=A blk e;refine ⟨_,FV e0,?_⟩;obtain ⟨w2,af,e7,l2,c2⟩:=K;simp only[TB.cells.injEq] at e7;obtain ⟨rfl,rfl⟩:=e7;obtain ⟨w3,a5,e8,bw,bl,bc⟩:=M;simp only[TB.cells.injEq] at e8;obtain ⟨rfl,rfl⟩:=e8;refine ⟨⟨w'+1,_,rfl,by omega,by simp[l2],λj v z v1 z1 q1 q2=>?_⟩,⟨w'+1,_,rfl,by simp[l2],λj p2 q=>?_⟩⟩
    ·grind
    ·by_cases hj:j=j0
     ·grind
     ·rw[yCm (λe=>hj e.symm)] at q;obtain ⟨q1,q2⟩:=c2 j p2 q;refine ⟨by omega,?_⟩;rcases q2 with ⟨c,a,W,h6,h7⟩ | ⟨W,h6⟩
      ·grind
      ·refine .inr ⟨W,λc X=>?_⟩;rcases gu.1 X with X | X
       ·simp_all
       ·exact h6 c X
   ·exact ⟨s,by grind,M,K.NK (by grind) (by simp) (by simp)⟩
  ·rename_i ad;refine ⟨hl,λb blk e=>?_⟩;obtain ⟨s,G,M,K⟩:=hb b blk e;by_cases u:b=U
   ·subst u;obtain ⟨w,cs,_,_,_,rfl,_⟩:=A blk e;obtain ⟨w3,a5,rfl,_⟩:=M
    simp_all
   ·exact ⟨s,G,M,K.NK (by grind) (by simp) (by simp)⟩
 |m U j0 an=>
  have A:∀blk,σ[U]? = some blk->∃j st l v v1,blk=.mp j st l v/\σ1[U]? = some (.mp j0 an x v1):=by
   intro blk e;simp only[Vh] at Z;split at Z
   ·rename_i j1 a6 l1 v1 e1;split at Z
    ·rename_i av;have av:an=a6:=eq_of_beq av;obtain ⟨rfl,rfl⟩:=yt Z;obtain ⟨ab,E,sb⟩:=hs U blk e;rw[e1] at E;simp only[au] at E;subst E;cases blk with
     |mp q st l v=>simp_all
     |row i l lv cv=>obtain ⟨_,_,_,O,_⟩:=sb;grind
     |cells w cs=>obtain ⟨_,_,O,_⟩:=sb;grind
    simp_all
   simp_all
  simp only[UV];split
  ·rename_i j' ak l' v' e0;refine ⟨by simp[hl],λb blk e=>?_⟩;obtain ⟨s,G,M,K⟩:=hb b blk e;by_cases u:b=U
   ·subst u;rw[e0] at G;simp only[au] at G;subst G;obtain ⟨j,st,l,v,v1,rfl,E⟩:=A blk e;obtain ⟨_,_,_,_,O,b1,b2⟩:=M;simp only[TB.mp.injEq] at O;obtain ⟨rfl,rfl,e5,rfl⟩:=O;cases e5;exact ⟨_,FV e0,⟨_,_,_,_,rfl,by omega,λe=>by omega⟩,⟨_,_,_,_,rfl,.inl ⟨⟨v1,E⟩,_,_,rJ ..⟩⟩⟩
   ·exact ⟨s,by grind,M,K.NK (by simp) (by simp) (by grind)⟩
  ·rename_i ad;refine ⟨hl,λb blk e=>?_⟩;obtain ⟨s,G,M,K⟩:=hb b blk e;by_cases u:b=U
   ·subst u;obtain ⟨j,st,l,v,v1,rfl,_⟩:=A blk e;obtain ⟨_,_,_,_,rfl,_⟩:=M
    grind
   ·exact ⟨s,G,M,K.NK (by simp) (by simp) (by grind)⟩
theorem PQ.all{al1:TA}{σ1 σ:TH}{σD:ar}{pl:List Pl}(H:RH σ σD)(hs:HS pl σ σ1):∀(ps:List Pl)(x:qI ps),LW al1 σ1 ps=some x->PQ al1 σ1 ps σ (rK ps x σ):=by
 intro ps;induction ps with
 |nil=>intro x _;exact PQ.nil H
 |cons p ps ih=>
  intro x i;cases ps with
  |nil=>exact PQ.step H hs p x i (PQ.nil H)
  |cons q ps=>
   simp only[LW] at i;split at i
   ·rename_i a b j s;simp only[au] at i;subst i;exact PQ.step H hs p a j (ih b s)
   simp_all
theorem PQ.ext{al1:TA}{σ1 σ aC:TH}{ps:List Pl}(h:PQ al1 σ1 ps σ aC):Ext σ aC:=λb blk e=>let ⟨i,j,h1,_⟩:=h.2 b blk e;⟨i,j,h1⟩
theorem PQ.hs{al1:TA}{σ1 σ aC:TH}{ps:List Pl}(h:PQ al1 σ1 ps σ aC)(hs:HS ps σ σ1):HS ps σ aC:=λb blk e=>by
 obtain ⟨u,W,h1,E⟩:=h.2 b blk e;refine ⟨u,W,?_⟩;cases blk with
 |cells w cs=>
  obtain ⟨w2,G,rfl,x,X⟩:=E;refine ⟨w2,G,rfl,x,λj p p1 q Z z=>?_⟩;rcases (X j p1 Z).2 with ⟨c,a,_,_,A⟩ | ⟨s,_⟩
  ·exact absurd A (z c)
  simp_all
 |row i l lv cv=>
  obtain ⟨x,K,M,rfl,s⟩:=E;refine ⟨x,K,M,rfl,λz=>?_⟩;rcases s with ⟨_,i',A⟩ | ⟨s,h4,h5,_⟩
  ·exact absurd A (z i')
  simp_all
 |mp j st l v=>
  obtain ⟨j2,O,x,v2,rfl,s⟩:=E;refine ⟨j2,O,x,v2,rfl,λz=>?_⟩;rcases s with ⟨_,j',U,A⟩ | ⟨s,_⟩
  ·exact absurd A (z j' U)
  omega
end
end Go.Abs
end
section
namespace Go.Abs
noncomputable section
variable[Gl][Y:Ty]
theorem Rp(t:Nat):∀(al:TA),NH t al=(iC t al).map Prod.fst:=by
 intro al;induction al with
 |nil=>rfl
 |cons y al ih=>grind [NH,iC]
theorem jE{t:Nat}{al:TA}{x:RV}(h:NH t al=some x):∃p,iC t al=some (x,p):=by grind [Rp,Option.map_eq_some_iff]
theorem qj{t:Nat}{q:RV×Nat}:∀{pre al:TA},(∀y∈pre,y.1≠t)->iC t al=some q->iC t (pre++al)=some q:=by
 intro pre al;induction pre with
 |nil=>simp_all
 |cons z pre ih=>grind [iC,Nat.eq_of_beq_eq_true]
theorem yF{t:Nat}{q:RV×Nat}:∀{pre al:TA},iC t al=some q->∃a,iC t (pre++al)=some a:=by
 intro pre al;induction pre with
 |nil=>simp_all
 |cons z pre ih=>
  intro h;obtain ⟨s,y⟩:=z;simp only[JS,iC]
  grind
theorem XI{al1:TA}{σ1:TH}{al:TA}{t:Nat}{v:RV}{p:Nat}:∀(ps:List Pl)(x:qI ps),LW al1 σ1 ps=some x->iC t (HC ps x al)=some (v,p) ->
  (∃c a,v=.v (c.tv a)/\Vh al1 σ1 (.r t c)=some a)\/((∀c,Pl.r t c∉ps)/\iC t al=some (v,p)):=by
 have one:∀(p0:Pl)(x:p0.dn)(al0:TA),Vh al1 σ1 p0=some x->iC t (YA p0 x al0)=some (v,p)->(∃c a,v=.v (c.tv a)/\Vh al1 σ1 (.r t c)=some a)\/((∀c,Pl.r t c≠p0)/\iC t al0=some (v,p)):=by
  intro p0 x al0 f h;cases p0 with
  |r y c=>
   simp only[YA,iC] at h;split at h
   ·grind [Nat.eq_of_beq_eq_true]
   ·rename_i hb;refine .inr ⟨λz e=>?_,h⟩
    simp_all
  |w b i=>exact .inr ⟨λc e=>by simp at e,h⟩
  |h b j c=>exact .inr ⟨λc e=>by simp at e,h⟩
  |m b j st=>exact .inr ⟨λc e=>by simp at e,h⟩
 intro ps;induction ps with
 |nil=>intro x _ h;exact .inr ⟨λc A=>by grind,h⟩
 |cons p0 ps ih=>
  intro x f h;cases ps with
  |nil=>
   rcases one p0 x al f h with h | ⟨l,s⟩
   ·simp_all
   simp_all
  |cons q ps=>
   simp only[LW] at f;split at f
   ·rename_i a b u hb;simp only[au] at f;subst f;rcases one p0 a _ u h with h | ⟨l,s⟩
    ·simp_all
    simp_all
   simp_all
theorem Hp:∀(ps:List Pl)(x:qI ps)(al:TA),∃pre,HC ps x al=pre++al/\∀y∈pre,∃c,Pl.r y.1 c∈ps:=by
 have one:∀(p0:Pl)(x:p0.dn)(al:TA),∃pre,YA p0 x al=pre++al/\∀y∈pre,∃c,Pl.r y.1 c=p0:=by
  intro p0 x al;cases p0 with
  |r t c=>exact ⟨[(t,.v (c.tv x))],rfl,λy a=>by simp_all⟩
  |w b i=>exact ⟨[],rfl,λy a=>by grind⟩
  |h b j c=>exact ⟨[],rfl,λy a=>by grind⟩
  |m b j st=>exact ⟨[],rfl,λy a=>by grind⟩
 intro ps;induction ps with
 |nil=>intro x al;exact ⟨[],rfl,λy a=>by grind⟩
 |cons p0 ps ih=>
  intro x al;cases ps with
  |nil=>obtain ⟨pre,f,l⟩:=one p0 x al;exact ⟨pre,f,λy a=>let ⟨c,e⟩:=l y a;⟨c,by simp_all⟩⟩
  |cons q ps=>
   obtain ⟨pre,f,l⟩:=ih x.2 al;obtain ⟨p,s,u⟩:=one p0 x.1 (HC (q::ps) x.2 al)
   grind [HC]
theorem Nn(σ:TH):∀(hs:List (Nat×Nat))(al:TA),∃pre,Pp σ hs al=pre++al/\(∀y∈pre,∃b i l a e,(y.1,b)∈hs/\σ[b]? = some (.row i l a e)/\y.2=.v (.c (.own i b a l.length))) /\
  ∀t b i l a e,(t,b)∈hs->σ[b]? = some (.row i l a e)->∃y∈pre,y.1=t:=by
 intro hs;induction hs with
 |nil=>intro al;exact ⟨[],rfl,λy j=>by grind,λt b i l a e h=>by simp at h⟩
 |cons h hs ih=>
  intro al;obtain ⟨t,b⟩:=h;obtain ⟨pre,s,u,v⟩:=ih al;have p:∀y∈pre,∃f i l a e,(y.1,f)∈(t,b)::hs/\σ[f]? = some (.row i l a e)/\y.2=.v (.c (.own i f a l.length)):=λy j=>by grind
  simp only[Pp];split
  ·grind [List.mem_cons_self]
  grind
theorem RU{t:Nat}{x:RV}{p:Nat}:∀{pre al:TA},iC t (pre++al)=some (x,p)->(t,x)∈pre\/((∀y∈pre,y.1≠t)/\iC t al=some (x,p)):=by
 intro pre al;induction pre with
 |nil=>simp_all
 |cons z pre ih=>
  intro h;obtain ⟨s,y⟩:=z;simp only[JS,iC] at h;split at h
  ·simp_all
  ·rename_i hb;rcases ih h with h | ⟨f,b⟩
   ·simp_all
   ·refine .inr ⟨λy a=>?_,b⟩;rcases gu.1 a with rfl | a
    ·intro e;simp_all
    grind
theorem G_(md:List Nat)(al:TA):∃pre,GF md al=pre++al/\(∀y∈pre,y.1∈md/\(NH y.1 al).isSome/\y.2=.v (.c .any))/\∀t,t∈md->(NH t al).isSome->∃y∈pre,y.1=t:=by
 refine ⟨_,rfl,λy b=>?_,λt a hs=>?_⟩
 ·grind
 ·exact ⟨(t,.v (.c .any)),iP.2 ⟨t,ND.2 ⟨a,hs⟩,rfl⟩,rfl⟩
theorem aK.Dj{α i:Type}{R:α->i->Prop}:∀{l:List α}{m:List i},l.length=m.length->(∀(j:Nat) a b,l[j]? = some a->m[j]? = some b->R a b)->aK R l m:=by
 intro l;induction l with
 |nil=>intro m h _;cases m with | nil=>exact .nil | cons b m=>simp at h
 |cons a l ih=>
  intro m h s;cases m with
  |nil=>simp at h
  |cons b m=>exact .cons (s 0 a b rfl rfl) (ih (by simp_all) λj x y u z=>s (j+1) x y u z)
theorem ZH.Xq{α:Type}{f:α->List C}{l:List α}{m:Nat}:ZH m (OB f l) (OB f l):=by refine ⟨_,rfl,aK.Dj rfl λj a b i s=>?_⟩;rw[i] at s;simp only[au] at s;subst s;rw[lJ,cy] at i;obtain ⟨c,_,rfl⟩:=i;exact jK.low rfl
theorem Qt(j:Nat)(st:Bool)(a:TT j)(m:Nat):(P_ j st a).low m=true:=by
 unfold P_;split
 ·exact Zz _
 ·rfl
theorem RK{α:Type}{g:α->D}{m:Nat}(h:∀a,(g a).low m=true):∀(l:List (Int×α))(i:Nat),((EU g i l).all λe=>e.2.1.low m)=true:=by
 intro l;induction l with
 |nil=>intro i;rfl
 |cons x l ih=>grind [EU]
theorem hsOk_at{al:TA}{σ:TH}{hs:List (Nat×Nat)}(h:YG al σ hs=true){t b:Nat}(hm:(t,b)∈hs):∃i v q j l a e,NH t al=some (.v (.c (.own i b v q)))/\σ[b]? = some (.row j l a e)/\v=a/\i=j:=by
 simp only[YG,iE] at h;have:=h (t,b) hm;dsimp only at this;split at this
 ·rename_i i f v q j l a e p s;simp only[bI] at this
  grind [Nat.eq_of_beq_eq_true]
 simp_all
theorem HS.mono{pl u:List Pl}{σ σ1:TH}(G:∀p∈pl,p∈u)(h:HS pl σ σ1):HS u σ σ1:=λb blk e=>by
 obtain ⟨z,X,s⟩:=h b blk e;refine ⟨z,X,?_⟩;cases blk with
 |cells w cs=>obtain ⟨w1,K,e,l,c⟩:=s;exact ⟨w1,K,e,l,λj p p1 x y A=>c j p p1 x y λq E=>A q (G _ E)⟩
 |row i l lv cv=>obtain ⟨M,O,U,e,c⟩:=s;exact ⟨M,O,U,e,λA=>c λq E=>A q (G _ E)⟩
 |mp j st l v=>obtain ⟨Z,W,M,v1,e,c⟩:=s;exact ⟨Z,W,M,v1,e,λA=>c λq st E=>A q st (G _ E)⟩
theorem PQ.RD{al1:TA}{σ1 σ aC:TH}{ps pl:List Pl}(h:PQ al1 σ1 ps σ aC)(E:∀p∈ps,p∈pl):HS pl σ aC:=λb blk e=>by
 obtain ⟨s,X,h1,G⟩:=h.2 b blk e;refine ⟨s,X,?_⟩;cases blk with
 |cells w cs=>
  obtain ⟨w2,K,rfl,u,Z⟩:=G;refine ⟨w2,K,rfl,u,λj p p1 q q1 x=>?_⟩;rcases (Z j p1 q1).2 with ⟨c,a,_,_,z⟩ | ⟨A,_⟩
  ·exact absurd (E _ z) (x c)
  simp_all
 |row i l lv cv=>
  obtain ⟨u,M,O,rfl,A⟩:=G;refine ⟨u,M,O,rfl,λx=>?_⟩;rcases A with ⟨_,i',z⟩ | ⟨h4,h5,h6,_⟩
  ·exact absurd (E _ z) (x i')
  simp_all
 |mp j st l v=>
  obtain ⟨j2,U,u,v2,rfl,A⟩:=G;refine ⟨j2,U,u,v2,rfl,λx=>?_⟩;rcases A with ⟨_,j',W,z⟩ | ⟨h4,_⟩
  ·exact absurd (E _ z) (x j' W)
  omega
structure ZOk (zs:List (Nat×Nat×Nat)) (σ σ':TH):Prop where
 len:σ'.length=σ.length
 row:∀(b:Nat) i (l:List (TT i)) lv cv,σ[b]? = some (.row i l lv cv)↔σ'[b]? = some (.row i l lv cv)
 mp:∀(b:Nat) j st (l:List (Int×TT j)) v,σ[b]? = some (.mp j st l v)->σ'[b]? = some (.mp j st l v)
 cells:∀(b:Nat) w cs,σ[b]? = some (.cells w cs)->∃w' cs',σ'[b]? = some (.cells w' cs')/\w<=w'/\cs'.length=cs.length/\∀(j:Nat) p',cs'[j]? = some p' ->
  (cs[j]? = some p'/\∀r,(b,j,r)∈zs->∀i l lv cv,σ[r]?≠some (.row i l lv cv))\/(∃r i l lv cv,(b,j,r)∈zs/\σ[r]? = some (.row i l lv cv)/\p'.2=.own i r lv l.length/\w<p'.1/\p'.1<=w')
theorem Np:∀(zs:List (Nat×Nat×Nat))(σ:TH),ZOk zs σ (Nv zs σ):=by
 intro zs;induction zs with
 |nil=>intro σ;exact ⟨rfl,λb i l a f=>Iff.rfl,λb j st l v h=>h,λb w s h=>⟨w,s,h,cO _,rfl,λj p' N=>.inl ⟨N,λr hr=>by grind⟩⟩⟩
 |cons z zs ih=>
  intro σ;obtain ⟨E,O,T⟩:=z;simp only[Nv];split
  ·rename_i A u U W x aa hb hr;have Z:=ih (σ.set E (.cells (A+1) (u.set O (A+1,.own U T x W.length))));have y:∀(b:Nat) i (l:List (TT i)) a f,σ[b]? = some (.row i l a f)↔(σ.set E (.cells (A+1) (u.set O (A+1,.own U T x W.length))))[b]? = some (.row i l a f):=λb i l a f=>by
    grind
   refine ⟨by rw[Z.len,WC],λb i l a f=>(y b i l a f).trans (Z.row b i l a f),λb j st l v h=>Z.mp b j st l v ?_,λb w s h=>?_⟩
   ·grind
   ·by_cases e:b=E
    ·subst e;rw[hb] at h;simp only[au,TB.cells.injEq] at h;obtain ⟨rfl,rfl⟩:=h;obtain ⟨G,p,K,L,M,X⟩:=Z.cells b _ _ (FV hb)
     grind
    ·obtain ⟨G,p,K,L,M,X⟩:=Z.cells b w s (by grind)
     grind
  ·rename_i ab;have Z:=ih σ;refine ⟨Z.len,Z.row,Z.mp,λb w s h=>?_⟩;obtain ⟨G,p,K,L,M,X⟩:=Z.cells b w s h;refine ⟨G,p,K,L,M,λj p' N=>?_⟩
   grind
theorem ZOk.ext{zs:List (Nat×Nat×Nat)}{σ σ':TH}(Z:ZOk zs σ σ'):Ext σ σ':=λb blk h=>by
 cases blk with
 |cells w u=>
  obtain ⟨z,s,A,E,G,O⟩:=Z.cells b w u h;refine ⟨_,A,z,s,rfl,E,yBW G.symm,λj v x U W e X=>?_⟩
  grind
 |row i l K M=>exact ⟨_,(Z.row b i l K M).1 h,BE.refl _⟩
 |mp j st l v=>exact ⟨_,Z.mp b j st l v h,BE.refl _⟩
theorem zpl_mem{zs:List (Nat×Nat×Nat)}{b j r:Nat}(h:(b,j,r)∈zs):Pl.h b j (.cc .bool)∈KR zs:=iP.2 ⟨_,h,rfl⟩
theorem ZOk.hs{zs:List (Nat×Nat×Nat)}{σ σ':TH}(Z:ZOk zs σ σ'):HS (KR zs) σ σ':=λb blk h=>by
 cases blk with
 |cells w u=>
  obtain ⟨x,s,z,W,A,E⟩:=Z.cells b w u h;refine ⟨_,z,x,s,rfl,A,λj p p1 e G K=>?_⟩;rcases E j _ G with ⟨X,_⟩ | ⟨r,_,_,_,_,M,_⟩
  ·simp_all
  ·exact absurd (zpl_mem M) (K _)
 |row i l O U=>exact ⟨_,(Z.row b i l O U).1 h,_,_,_,rfl,λ_=>⟨rfl,rfl,rfl⟩⟩
 |mp j st l v=>exact ⟨_,Z.mp b j st l v h,_,_,_,_,rfl,λ_=>rfl⟩
theorem RA{n:Nat}{σ:TH}{zs:List (Nat×Nat×Nat)}(h:Wl n σ zs=true){b j r:Nat}(hm:(b,j,r)∈zs):b<n/\r<n/\∃w cs i l a f q p,σ[b]? = some (.cells w cs)/\σ[r]? = some (.row i l a f)/\cs[j]? = some (p,.own i r a q):=by
 simp only[Wl,iE] at h;have:=h (b,j,r) hm;simp only[bI] at this;obtain ⟨s,u,e⟩:=this;refine ⟨tc.mp s,tc.mp u,?_⟩;split at e
 ·rename_i w cs i l a f x y;split at e
  ·rename_i p z A v q E;simp only[bI] at e
   grind [Nat.eq_of_beq_eq_true]
  grind
 grind
theorem qz{h:JH}{md:List Nat}{al al1:TA}{σ σ1:TH}{alD ad:AL}{σD σD1:ar}{x:qI h.pl}(R0:Ref al σ alD σD)(W:Ref al1 σ1 ad σD1)
  (bb:∀t q,iC t al=some q->∃q',iC t al1=some q')
  (hk:∀t q,t∉md->(∀c,Pl.r t c∉h.pl)->(∀b,(t,b)∈h.hs->∀i l N O,σ[b]?≠some (.row i l N O))->iC t al=some q->iC t al1=some q)
  (hs:HS (h.pl++KR h.zs) σ σ1) (hh:YG al1 σ1 h.hs=true) (hz:Wl σ.length σ1 h.zs=true) (hx:LW al1 σ1 h.pl=some x) :
  Ext σ (cP h md al σ x)/\HS (h.pl++KR h.zs) σ (cP h md al σ x)/\(cP h md al σ x).length=σ.length/\∃af ak,wG σ.length ad σD1 af ak/\Ref (dU h md al σ x) (cP h md al σ x) af ak:=by
 have s:=PQ.all R0.hh hs h.pl x hx;have Z:=Np h.zs (rK h.pl x σ);have ext:Ext σ (cP h md al σ x):=Ext.trans R0.hh s.ext Z.ext;have len:(cP h md al σ x).length=σ.length:=Z.len.trans s.1;refine ⟨ext,(s.RD λp hp=>yBF _ hp).trans (Z.hs.mono λp hp=>yBA _ hp),len,?_⟩;have bc:∀(b i i1 N O aa ab:Nat)(l:List (TT i))(X:List (TT i1)),(rK h.pl x σ)[b]? = some (.row i l N O)->σ1[b]? = some (.row i1 X aa ab)->i1=i/\l.length=X.length:=by
  intro b i i1 N O aa ab l X m2 n2;have z:b<σ.length:=by rw[<-s.1];grind
  obtain ⟨f,T⟩:∃f,σ[b]? = some f:=⟨_,eK z⟩;obtain ⟨u,G,be,A⟩:=s.2 b f T;rw[m2] at G;simp only[au] at G;subst G;obtain ⟨L,U,E⟩:=hs b f T;rw[n2] at U;simp only[au] at U;subst U;cases f with
  |cells w cs=>obtain ⟨_,_,e,_⟩:=E;simp at e
  |mp q st l v=>obtain ⟨_,_,_,_,e,_⟩:=E;simp at e
  |row i0 l0 b3 b4=>
   obtain ⟨l5,b5,b6,e5,E⟩:=E;simp only[TB.row.injEq] at e5;obtain ⟨rfl,e6,rfl,rfl⟩:=e5;cases e6;obtain ⟨l6,b7,b8,e7,A⟩:=A;simp only[TB.row.injEq] at e7;obtain ⟨rfl,e8,rfl,rfl⟩:=e7;cases e8;refine ⟨rfl,?_⟩;rcases A with ⟨⟨an,av,e9⟩,_⟩ | ⟨rfl,_,_,hn⟩
   ·simp_all
   ·by_cases cg:notW (h.pl++KR h.zs) b
    ·simp_all
    ·exact absurd (λi hi=>by
      rcases ld.1 hi with hi | hi
      ·exact hn i hi
      grind [KR]) cg
 obtain ⟨bd,es,ch,d0⟩:=G_ md al;obtain ⟨bh,eh,ck,d5⟩:=Nn (rK h.pl x σ) h.hs (GF md al);obtain ⟨bi,ep,d6⟩:=Hp h.pl x (Pp (rK h.pl x σ) h.hs (GF md al));have bk:dU h md al σ x=(bi++(bh++bd))++al:=by grind [dU]
 have dp:Ext σ (rK h.pl x σ):=s.ext;have cm:(cP h md al σ x).length<=σD1.length:=by
  rw[len,W.hh.len];rcases rE σ1.length σ.length with z | d7
  ·obtain ⟨L,e,_⟩:=hs σ1.length _ (eK z)
   grind
  omega
 have gw:∀{v:TV},GV (cP h md al σ x) v->GW (dU h md al σ x) (cP h md al σ x) (.v v):=λg=>g;rw[<-len];refine stw_of cm (λt v p ht=>?_) (λb u bl=>?_) (λb w2 M bl q hq=>?_)
 ·
  rcases XI h.pl x hx ht with ⟨c,a,rfl,hr⟩ | ⟨co,ht⟩
  ·simp only[Vh] at hr;split at hr
   ·rename_i v1 h1;obtain ⟨p1,h2⟩:=jE h1;obtain ⟨K,h3,h4,_⟩:=W.rg t _ p1 h2;exact ⟨CK c a,K,c.enc a,h3,rdV_wk hr h4,c.DH a⟩
   grind
  ·rw[eh] at ht;rcases RU ht with hm | ⟨d8,ht⟩
   ·obtain ⟨b,i,l,N,O,m1,m2,m3⟩:=ck _ hm;dsimp only at m1 m3;subst m3;obtain ⟨i1,v1,q1,j1,X,aa,ab,n1,n2,n3,n4⟩:=hsOk_at hh m1;subst n3;obtain ⟨p1,n5⟩:=jE n1;obtain ⟨K,n6,n7,n8⟩:=W.rg t _ p1 n5;obtain ⟨rfl,rfl⟩:=vD W.hh n8 n2 (by simp);clear n4;have cp:=(Z.row b _ _ _ _).1 m2;have z:b<σ.length:=by rw[<-s.1];grind
    obtain ⟨f,T⟩:∃f,σ[b]? = some f:=⟨_,eK z⟩;obtain ⟨u,G,be,A⟩:=s.2 b f T;rw[m2] at G;simp only[au] at G;subst G;obtain ⟨L,U,E⟩:=hs b f T;rw[n2] at U;simp only[au] at U;subst U;cases f with
    |cells w cs=>obtain ⟨_,_,e,_⟩:=E;simp at e
    |mp q st l v=>obtain ⟨_,_,_,_,e,_⟩:=E;simp at e
    |row i0 l0 b3 b4=>
     obtain ⟨l5,b5,b6,e5,E⟩:=E;simp only[TB.row.injEq] at e5;obtain ⟨rfl,e6,rfl,rfl⟩:=e5;cases e6;obtain ⟨l6,b7,b8,e7,A⟩:=A;simp only[TB.row.injEq] at e7;obtain ⟨rfl,e8,rfl,rfl⟩:=e7;cases e8;have ax:l=X:=by
      rcases A with ⟨⟨an,av,e9⟩,_⟩ | ⟨rfl,_,_,hn⟩
      ·grind
      ·exact (E λi hi=>by
        rcases ld.1 hi with hi | hi
        ·exact hn i hi
        grind [KR]).1.symm
     subst ax;refine ⟨⟨_,cp,λj l' c0 c3 e=>?_⟩,K,K,n6,?_,?_⟩
     ·grind
     ·rw[RT.c1 (by simp) n7];refine jK.low ?_;simp only[TC.er,D.low,bz];omega
     ·have:=RT.c1 (by simp) n7;rw[this];exact Or.inr rfl
   ·rw[es] at ht;rcases RU ht with hm | ⟨d9,ht⟩
    ·obtain ⟨m1,m2,m3⟩:=ch _ hm;dsimp only at m1 m2 m3;subst m3;rw[yBr] at m2;obtain ⟨y,hy⟩:=m2;obtain ⟨p1,n1⟩:=jE hy;obtain ⟨⟨y',p'⟩,n2⟩:=bb t _ n1;obtain ⟨K,n3,_⟩:=W.rg t y' p' n2;exact ⟨True.intro,K,.any,n3,jK.any _ _,Or.inl rfl⟩
    ·have c4:t∉md:=λhm=>by
      grind [Rp]
     have bt:∀b,(t,b)∈h.hs->∀i l N O,σ[b]?≠some (.row i l N O):=by
      intro b hb i l N O e;obtain ⟨u,G,be,_⟩:=s.2 b _ e;obtain ⟨l2,a0,a2,rfl,_⟩:=be
      grind
     have h1:=hk t _ c4 co bt ht;obtain ⟨K,n3,n4,_⟩:=W.rg t v p h1;obtain ⟨_,_,_,n5⟩:=R0.rg t v p ht;obtain ⟨d2,n6,n7⟩:=RR_wk n4 n5;refine ⟨?_,K,d2,n3,by grind,n7⟩;rw[bk];exact n5.mono ext _
 ·
  have z:b<σ.length:=by grind
  obtain ⟨f,T⟩:∃f,σ[b]? = some f:=⟨_,eK z⟩;obtain ⟨a5,G,be,A⟩:=s.2 b f T;obtain ⟨L,U,E⟩:=hs b f T;obtain ⟨c5,o1,o2⟩:=W.hh.hp b L U;refine ⟨c5,?_⟩;cases f with
  |cells w cs=>
   obtain ⟨w1,a6,rfl,X,c1⟩:=E;obtain ⟨ea,dT,rfl,c6,c7⟩:=A;obtain ⟨w2,M,ez,_,bu,a7⟩:=Z.cells b _ _ G;have:u=.cells w2 M:=by grind [cP]
   subst this;have l2:M.length=cs.length:=bu.trans c6;obtain ⟨a8,o3,a1,_,_⟩:=W.hh.cells U;rw[o1] at o3;simp only[au] at o3;subst o3;have c8:aK (λ(p:Nat×TC) d=>RC p.2 d) a6 a8:=by cases o2;refine aK.Dj (by simp) λj p d h1 h2=>?_;rw[lJ,h1] at h2;simp only[Ch,au] at h2;exact .inr h2.symm
   clear o2 a1;have a1:=c8;have hl:a8.length=M.length:=by omega
   obtain ⟨es,eb,ec⟩:=BK (p:=λj e=>∃p2 K,M[j]? = some p2/\a8[j]? = some K/\jK (cP h md al σ x).length K e/\e=p2.2.er) M.length λj hj=>by
    have q2:=eK hj;have q1:a6[j]? = some _:=eK (by omega);obtain ⟨K,q3,q4⟩:=a1.get j _ q1;rcases a7 j _ q2 with ⟨z1,z2⟩ | ⟨r,i,l,N,O,z1,z2,z3,_⟩
    rotate_left
    ·obtain ⟨_,_,w9,c9,i9,l9,bv,da,q9,v9,y1,y2,y3⟩:=RA hz z1;rw[U] at y1;simp only[au,TB.cells.injEq] at y1;obtain ⟨_,rfl⟩:=y1;rw[q1] at y3;simp only[au] at y3;have g9:=(W.hh.hg b w1 a6 U _ (yP q1)).1;rw[y3] at q4 g9;obtain ⟨t1,t2⟩:=bc r i i9 _ _ _ _ _ _ z2 y2;subst t1;obtain ⟨_,t3⟩:=vD W.hh g9 y2 (by simp);have bw:K=OS (aA i9) r q9:=RT.c1 (x:=.own i9 r bv q9) (by simp) q4;have hr:r<σ.length:=by omega
     refine ⟨K,_,K,q2,q3,?_,?_⟩
     ·rw[bw];refine jK.low ?_;simp only[OS,D.low,bz];omega
     ·rw[bw,z3,t3,<-t2];rfl
    obtain ⟨_,q5⟩:=c7 j _ z1;rcases q5 with ⟨c,a,q5,q6,_⟩ | ⟨q5,q6⟩
    ·grind [Vh,rdI_wk]
    ·have:=c1 j _ _ q5 q1 λc hc=>by
      rcases ld.1 hc with hc | hc
      ·exact q6 c hc
      ·simp only[KR,iP] at hc;obtain ⟨⟨b9,j9,r9⟩,hm,e9⟩:=hc;simp only[Pl.h.injEq] at e9;obtain ⟨rfl,rfl,_⟩:=e9;obtain ⟨_,hr,w9,c9,i9,l9,bv,da,q9,v9,y1,y2,y3⟩:=RA hz hm;obtain ⟨b0,y4⟩:∃blk,σ[r9]? = some blk:=⟨_,eK hr⟩;obtain ⟨db,y5,b1⟩:=hs r9 _ y4;rw[y2] at y5;simp only[au] at y5;subst y5;cases b0 with
       |cells w cs=>obtain ⟨_,_,e,_⟩:=b1;simp at e
       |mp q st l v=>obtain ⟨_,_,_,_,e,_⟩:=b1;simp at e
       |row i8 l8 ee ef=>
        obtain ⟨b2,y6,dc,_⟩:=s.2 r9 _ y4;obtain ⟨l7,an,av,rfl,_⟩:=dc
        grind
     rw[this] at q4;exact ⟨_,_,K,q2,q3,by rw[len];exact WN q4 (R0.hh.hg b w cs T _ (yP q5)).1,rfl⟩
   refine ⟨.cells es,o1,⟨es,rfl,aK.Dj (by omega) λj d e h1 h2=>?_⟩,?_⟩
   ·grind
   ·unfold RB TB.er;congr 1;apply Vf
    grind
  |row i l N O=>
   obtain ⟨X,aa,ab,rfl,E⟩:=E;obtain ⟨l2,a0,a2,rfl,A⟩:=A;have:u=.row i l2 a0 a2:=by
    have e3:(cP h md al σ x)[b]? = some (.row i l2 a0 a2):=(Z.row b _ _ _ _).1 G
    grind
   subst this;have ax:l2=X:=by
    rcases A with ⟨⟨an,av,e9⟩,_⟩ | ⟨rfl,_,_,hn⟩
    ·grind
    ·exact (E λi hi=>by
      rcases ld.1 hi with hi | hi
      ·exact hn i hi
      grind [KR]).1.symm
   subst ax;cases o2;exact ⟨_,o1,ZH.Xq,rfl⟩
  |mp j st l v=>
   obtain ⟨j1,df,X,v1,rfl,E⟩:=E;obtain ⟨j2,a9,l2,v2,rfl,A⟩:=A;have:u=.mp j2 a9 l2 v2:=by
    have e3:(cP h md al σ x)[b]? = some (.mp j2 a9 l2 v2):=Z.mp b _ _ _ _ G
    grind
   subst this;have di:j2=j1/\a9=df/\HEq l2 X:=by
    rcases A with ⟨⟨v7,e9⟩,_⟩ | ⟨e9,hn⟩
    ·grind
    ·have eg:=E λj st hi=>by
      rcases ld.1 hi with hi | hi
      ·exact hn j st hi
      grind [KR]
     grind
   obtain ⟨rfl,rfl,hl⟩:=di;cases hl;cases o2;exact ⟨_,o1,⟨rfl,RK (λa=>Qt _ _ _ _) _ _⟩,rfl⟩
 ·
  have z:b<σ.length:=by grind
  obtain ⟨f,T⟩:∃f,σ[b]? = some f:=⟨_,eK z⟩;obtain ⟨a5,G,be,A⟩:=s.2 b f T;cases f with
  |cells w cs=>
   obtain ⟨w3,ei,rfl,l2,c2⟩:=A;obtain ⟨w4,dl,ez,hw,bu,a7⟩:=Z.cells b _ _ G;have e3:(cP h md al σ x)[b]? = some (.cells w4 dl):=ez;rw[bl] at e3;simp only[au,TB.cells.injEq] at e3;obtain ⟨rfl,rfl⟩:=e3;obtain ⟨j,hj⟩:=yBE hq;rcases a7 j q hj with ⟨z1,_⟩ | ⟨r,i,l,N,O,_,z2,z3,_,z4⟩
   ·obtain ⟨r1,r2⟩:=c2 j q z1;refine ⟨?_,kj r1 hw⟩;rcases r2 with ⟨c,a,r2,_⟩ | ⟨r2,_⟩
    ·grind [Ta]
    ·exact (R0.hh.hg b w cs T q (yP r2)).1.mono ext
   ·refine ⟨?_,z4⟩;rw[z3];refine ⟨_,(Z.row r _ _ _ _).1 z2,λj l' c0 c3 e=>?_⟩
    grind
  |row i l N O=>
   obtain ⟨_,_,_,rfl,_⟩:=A;have e3:=(Z.row b _ _ _ _).1 G
   grind [cP]
  |mp j st l v=>
   obtain ⟨_,_,_,_,rfl,_⟩:=A;have e4:(cP h md al σ x)[b]? = _:=Z.mp b _ _ _ _ G
   grind
end
end Go.Abs
end
section
namespace Go.Abs
noncomputable section
variable[Gl][Y:Ty]
theorem XR(m:Nat)(σ:TH)(al:TA):∀(pre:TA),frzA m σ pre.length (pre++al)=pre.map (λp=>(p.1,BU m σ p.2))++al:=by
 intro pre;induction pre with
 |nil=>cases al <;> rfl
 |cons x pre ih=>grind [frzA]
theorem aam{m:Nat}{σ:TH}{al:TA}{t:Nat}{x:RV}{p:Nat}:∀{pre:TA},iC t (pre.map (λp=>(p.1,BU m σ p.2))++al)=some (x,p) ->
  (∃a,iC t (pre++al)=some (a,p)/\x=BU m σ a)\/(iC t (pre++al)=some (x,p)/\iC t al=some (x,p)):=by
 intro pre;induction pre with
 |nil=>simp_all
 |cons y pre ih=>
  intro h;obtain ⟨s,y⟩:=y;simp only[ql,JS,iC] at h ⊢
  grind
theorem mp_low0{j:Nat}{st:Bool}(l:List (Int×TT j)):((EU (P_ j st) 0 l).all λe=>e.2.1.low 0)=true:=RK (λa=>Qt _ _ _ _) _ _
variable{m:Nat}{σ1:TH}{σD1:ar}
theorem er_low{x:TC}(h:okC m x=true)(e:x≠.any):x.er.low m=true:=by
 cases x with
 |any=>simp_all
 |d x=>exact h
 |own i b v n=>simpa[okC,TC.er,OS,D.low] using h
 |op i b v n k a o=>simpa[okC,TC.er,D.low] using h
 |ap b off len sz k=>simpa[okC,TC.er,D.low] using h
 |os i b v n f len=>simpa[okC,TC.er,D.low] using h
 |Fx g j=>exact CJ h
 |_=>rfl
def PA(m:Nat)(σD1:ar)(b:Nat):Prop:=m<=b/\∃(i:Nat)(l:List (TT i)),σD1[b]? = some (OB (enc i) l)
theorem take_rn(H:RH σ1 σD1)(hm:m<=σ1.length)(x:(σ1.take m).all (okB m)=true):Rz m σD1 (σD1.take m) id (PA m σD1):=by
 have hl:(σD1.take m).length=m:=by grind [RH.len]
 have get:∀i,i<m->∀u,σD1[i]? = some u->(σD1.take m)[i]? = some u:=λi hi u h=>by grind
 have N:Rn m σD1 (σD1.take m) id (PA m σD1):=⟨by omega,λi _=>rfl,λi j _ _ e=>e,λi hi h=>by rw[hl] at hi;have:=h.1;grind,λb h=>h.2,λi hi=>by
  rw[hl] at hi;have y:σD1[i]? = some _:=eK (by grind)
  grind⟩
 refine ⟨N,λi hi=>?_⟩;rw[hl] at hi;have z:i<σ1.length:=by omega
 obtain ⟨u,y,A⟩:=H.hp i _ (eK z);refine ⟨u,u,y,get i hi _ y,?_⟩;unfold RB at A;subst A;have hk:okB m σ1[i]=true:=iE.1 x _ (yP (i:=i) (by simp_all));cases hb:σ1[i] with
 |cells w K=>
  rw[hb] at hk;refine ⟨_,rfl,aK.Dj rfl λj a b f s=>?_⟩;rw[f] at s;simp only[au] at s;subst s;rw[lJ,cy] at f;obtain ⟨p,E,rfl⟩:=f;have:=iE.1 hk p (yP E);by_cases G:p.2=.any
  ·rw[G];exact du.any _
  grind [du.low,er_low]
 |row i l L M=>refine ⟨_,rfl,aK.Dj rfl λj a b f s=>?_⟩;rw[f] at s;simp only[au] at s;subst s;rw[lJ,cy] at f;obtain ⟨c,_,rfl⟩:=f;exact du.data N rfl
 |mp j st l v=>exact ⟨rfl,mp_low0 l⟩
theorem qf{i:Nat}(hi:i<m){blk:TB}(h:σ1[i]? = some blk):(σ1.take m)[i]? = some blk:=by simp_all
theorem Q_(H:RH σ1 σD1)(hm:m<=σ1.length)(N:Rn m σD1 (σD1.take m) id (PA m σD1)){x:TC}{d:D}(G:RC x d)(y:GC σ1 x) :
  ∃s,du σD1 (σD1.take m) id (PA m σD1) d s/\RC (Co m σ1 x) s/\GC (σ1.take m) (Co m σ1 x):=by
 have hl:(σ1.take m).length=m:=by simp_all
 rcases G with rfl | rfl
 ·exact ⟨.any,du.any _,.inl rfl,True.intro⟩
 have any:∃s,du σD1 (σD1.take m) id (PA m σD1) x.er s/\RC .any s/\GC (σ1.take m) .any:=⟨.any,du.any _,.inl rfl,True.intro⟩;have u:∀{b:Nat},Nat.blt b m=true->b<m:=λh=>tc.mp h;cases x with
 |any=>exact any
 |d x=>
  simp only[Co];split
  ·rename_i h;exact ⟨x,du.low N h,.inr rfl,by show x.low _=true;simp_all⟩
  omega
 |b e=>exact ⟨_,du.data N rfl,.inr rfl,True.intro⟩
 |sl i l=>exact ⟨_,du.data N rfl,.inr rfl,True.intro⟩
 |fp i a o=>exact ⟨_,du.data N rfl,.inr rfl,True.intro⟩
 |fl n=>exact ⟨_,du.data N rfl,.inr rfl,True.intro⟩
 |cx a b=>exact ⟨_,du.data N rfl,.inr rfl,True.intro⟩
 |own i b v n=>
  simp only[Co];obtain ⟨blk,f,p⟩:=y;split
  ·rename_i h;exact ⟨_,du.low N (by simpa[TC.er,OS,D.low] using u h),.inr rfl,blk,qf (u h) f,p⟩
  ·rename_i h;split
   ·rename_i j l M O hb;rw[f] at hb;simp only[au] at hb;subst hb;split
    ·rename_i z;have z:=dd z;obtain ⟨rfl,rfl⟩:=(p _ _ _ _ rfl).2 z.symm;obtain ⟨T,A,E⟩:=H.hp b _ f;unfold RB at E;subst E;have K:PA m σD1 b:=⟨by
      grind [Nat.blt_eq],_,_,A⟩
     exact ⟨_,du.cD N K A,.inr rfl,True.intro⟩
    omega
   omega
 |op i b v n k a o=>
  simp only[Co];obtain ⟨blk,f,p⟩:=y;split
  ·rename_i h;exact ⟨_,du.low N (by grind [TC.er,D.low]),.inr rfl,blk,qf (u h) f,p⟩
  omega
 |Fx g L=>
  simp only[Co];split
  ·rename_i h;exact ⟨_,du.low N (CJ h),.inr rfl,by show L.all (CV.low _)=true;simp_all⟩
  omega
 |ap b off len sz k=>
  simp only[Co];split
  ·rename_i h;exact ⟨_,du.low N (by grind [TC.er,D.low]),.inr rfl,by show b<_;simp_all⟩
  omega
 |os i b v n U len=>
  simp only[Co];obtain ⟨blk,f,p⟩:=y;split
  ·rename_i h;exact ⟨_,du.low N (by grind [TC.er,D.low]),.inr rfl,blk,qf (u h) f,p⟩
  omega
theorem XO(H:RH σ1 σD1)(hm:m<=σ1.length)(N:Rn m σD1 (σD1.take m) id (PA m σD1)){xs:List TC}{ds:List D}(f:aK RC xs ds)(a:∀x∈xs,GC σ1 x) :
  ∃es,aK (du σD1 (σD1.take m) id (PA m σD1)) ds es/\aK RC (xs.map (Co m σ1)) es/\∀x∈xs.map (Co m σ1),GC (σ1.take m) x:=by
 induction f with
 |nil=>exact ⟨[],.nil,.nil,by simp⟩
 |cons h r ih=>
  obtain ⟨e,i,j,s⟩:=Q_ H hm N h (a _ (rJ ..));obtain ⟨es,l,p,u⟩:=ih λx b=>a x (nS _ b);exact ⟨e::es,.cons i l,.cons j p,λx b=>by grind⟩
theorem frzV_ok(H:RH σ1 σD1)(hm:m<=σ1.length)(N:Rn m σD1 (σD1.take m) id (PA m σD1)){al a:TA}{x:RV}{d:D}(e:RR x d)(f:GW al σ1 x) :
  ∃b,du σD1 (σD1.take m) id (PA m σD1) d b/\RR (BU m σ1 x) b/\GW a (σ1.take m) (BU m σ1 x):=by
 have any:∃b,du σD1 (σD1.take m) id (PA m σD1) d b/\RR (.v (.c .any)) b/\GW a (σ1.take m) (.v (.c .any)):=⟨.any,du.any _,Or.inl rfl,True.intro⟩;cases x with
 |g c w p x=>exact any
 |v x=>
  cases x with
  |c x=>exact Q_ H hm N e f
  |aT h=>exact any
  |agg h=>obtain ⟨ds,rfl,i⟩:=e;obtain ⟨j,l,s,u⟩:=XO H hm N i f;exact ⟨_,du.agg l,⟨j,rfl,s⟩,u⟩
theorem dwr_wk(N:Rn m σD1 (σD1.take m) id (PA m σD1))(hm:m<=σD1.length){d1 d2:D}(h:jK m d1 d2):du σD1 (σD1.take m) id (PA m σD1) d1 d2:=λM i w v R j=>by
 have hl:(σD1.take m).length=m:=by simp_all
 have l:=h σD1 (σD1.take m) M i w v (λb hb a p=>⟨a,by grind,rfl⟩) j;have e:mN (σD1.take m).length id M=cV M m:=by rw[hl];rfl
 rw[e];exact l.sub (λb a hb=>⟨a,hb,rfl⟩) (λ_ _ h=>h) (λc h=>⟨.inl h,rfl⟩) (λc f T s h=>⟨f,h,rfl⟩)
theorem frz_ok{pre al:TA}{σ:TH}{alD j:AL}{σD:ar}(R0:Ref al σ alD σD)(G:Ref (pre++al) σ1 j σD1)(he:Ext σ σ1)(M:(σ1.take σ.length).all (okB σ.length)=true) :
  ∃A E,wG σ.length j σD1 A E/\Ref (pre.map (λp=>(p.1,BU σ.length σ1 p.2))++al) (σ1.take σ.length) A E/\Ext σ (σ1.take σ.length):=by
 have hm:σ.length<=σ1.length:=by
  rcases rE σ1.length σ.length with s | ad
  ·obtain ⟨O,e,_⟩:=he σ1.length _ (eK s)
   simp_all
  omega
 have aa:σ.length<=σD1.length:=by rw[G.hh.len];exact hm
 have T:Ext σ (σ1.take σ.length):=λb blk hb=>by
  obtain ⟨O,l,K⟩:=he b blk hb
  grind
 have N:=take_rn G.hh hm M;have y:∀t,∃z,∀x p,iC t (pre.map (λp=>(p.1,BU σ.length σ1 p.2))++al)=some (x,p)->GW (pre.map (λp=>(p.1,BU σ.length σ1 p.2))++al) (σ1.take σ.length) x/\∃u,lk t j=some u/\du σD1 (σD1.take σ.length) id (PA σ.length σD1) u z/\RR x z:=by
  intro t;cases ht:iC t (pre.map (λp=>(p.1,BU σ.length σ1 p.2))++al) with
  |none=>simp_all
  |some q=>
   obtain ⟨x,p⟩:=q;have:∃z,GW (pre.map (λp=>(p.1,BU σ.length σ1 p.2))++al) (σ1.take σ.length) x/\∃u,lk t j=some u/\du σD1 (σD1.take σ.length) id (PA σ.length σD1) u z/\RR x z:=by
    rcases aam ht with ⟨x0,l,rfl⟩ | ⟨l,K⟩
    ·obtain ⟨u,U,W,h5⟩:=G.rg t x0 p l;obtain ⟨z,h6,h7,h8⟩:=frzV_ok G.hh hm N.toRn W h5;exact ⟨z,h8,u,U,h6,h7⟩
    ·obtain ⟨u,U,W,_⟩:=G.rg t x p l;obtain ⟨_,_,_,h5⟩:=R0.rg t x p K;obtain ⟨z,h6,h7⟩:=RR_wk W h5;exact ⟨z,h5.mono T _,u,U,dwr_wk N.toRn aa h6,h7⟩
   simp_all
 refine ⟨(pre.map (λp=>(p.1,BU σ.length σ1 p.2))++al).map λp=>(p.1,Classical.choose (y p.1)),σD1.take σ.length,wG.rn N (λb hb=>hb.1) (λt d h=>?_),⟨⟨?_,λb blk hb=>?_,λb w cs hb p hp=>?_⟩,λt x p h=>?_⟩,T⟩
 ·obtain ⟨⟨x,p,U⟩,rfl⟩:=Ns (f:=λt=>Classical.choose (y t)) h
  grind
 ·simp_all
 ·have s:b<σ.length:=by grind
  rw[yB1 s] at hb;obtain ⟨ob,l,K⟩:=G.hh.hp b blk hb
  grind
 ·have s:b<σ.length:=by grind
  have ab:=hb;rw[yB1 s] at hb;obtain ⟨l,K⟩:=G.hh.hg b w cs hb p hp;refine ⟨?_,K⟩;have hk:okB σ.length (.cells w cs)=true:=iE.1 M _ (yP ab);have hk:=iE.1 hk p hp;have bt:∀{b:Nat},Nat.blt b σ.length=true->b<σ.length:=λh=>tc.mp h;cases L:p.2 with
  |own i b v n=>rw[L] at l hk;obtain ⟨blk,X,Z⟩:=l;exact ⟨blk,qf (bt hk) X,Z⟩
  |op i b v n k a o=>rw[L] at l hk;obtain ⟨blk,X,Z⟩:=l;exact ⟨blk,qf (bt hk) X,Z⟩
  |os i b v n lo len=>rw[L] at l hk;obtain ⟨blk,X,Z⟩:=l;exact ⟨blk,qf (bt hk) X,Z⟩
  |ap b off len sz k=>rw[L] at hk;show b<_;rw[BV];have:=bt hk;omega
  |Fx g xs=>rw[L] at hk;show xs.all (CV.low _)=true;rw[BV,show min σ.length σ1.length=σ.length by omega];exact hk
  |d x=>rw[L] at hk;show x.low _=true;rw[BV,show min σ.length σ1.length=σ.length by omega];exact hk
  |_=>exact True.intro
 ·obtain ⟨l,u,K,U,W⟩:=Classical.choose_spec (y t) x p h;exact ⟨_,Rl (f:=λt=>Classical.choose (y t)) ⟨x,p,h⟩,W,l⟩
theorem zX{h:JH}{md:List Nat}{pre al:TA}{σ:TH}{alD a:AL}{σD:ar}{x:qI h.pl}(y:Ref al σ alD σD)(l:Ref (pre++al) σ1 a σD1)(p:Ext σ σ1)(j:FM h md al σ (pre++al) σ1=some x) :
  ∃i aC b f,wG σ.length a σD1 b f/\Ref (i++al) aC b f/\Ext σ aC/\NT h md al σ (i++al) aC=some x:=by
 unfold FM at j;split at j
 ·rename_i s;obtain ⟨b,f,A,E,G⟩:=frz_ok y l p s;rw[show (pre++al).length-al.length=pre.length by simp_all,XR] at j
  grind
 ·refine ⟨pre,σ1,a,σD1,wG.refl ?_,l,p,j⟩;rw[l.hh.len];rcases rE σ1.length σ.length with u | z
  ·obtain ⟨v,e,_⟩:=p σ1.length _ (eK u)
   simp_all
  omega
end
end Go.Abs
end
section
namespace Go.Abs
noncomputable section
variable[Gl][Y:Ty]
section
def mvM(M:Nat->Option Nat)(r t:Nat):Nat->Option Nat:=λb=>if b=t then M r else if b=r then none else M b
def SzM(r t:Nat)(σ1 aC:ar):Prop:=∀b e,b≠t->σ1[b]? = some e->∃a,aC[b]? = some a/\e.sz<=a.sz/\(b=r->e.sz<a.sz)/\(b≠r->a.sz=e.sz)
def Fo(r t:Nat)(σ1 aC:ar)(d1 d2:D):Prop:=∀(M:Nat->Option Nat)(a:Nat->Prop)(w:World)(v:Value),V σ1 M a w d1 v->V aC (mvM M r t) a w d2 v
variable{r t:Nat}{σ1 aC:ar}
theorem Fo.any(d:D):Fo r t σ1 aC d .any:=λ_ _ _ v _=>.any v
theorem Fo.c(x:C):Fo r t σ1 aC (.c x) (.c x):=λ_ _ _ v h=>by
 cases h with
 |c h=>exact .c h
theorem Fo.ptr(S:SzM r t σ1 aC){b off sz:Nat}(hb:b≠t):Fo r t σ1 aC (.ptr b off sz) (.ptr b off sz):=λM z w v h=>by
 cases h with
 |ptr a s h i A=>
  obtain ⟨j,u,x,E,G⟩:=S b s hb h;refine .ptr a j u (kj i x) λK=>?_;by_cases e:b=r
  ·omega
  grind [mvM]
theorem Fo.sl(S:SzM r t σ1 aC){b off len es sz:Nat}(hb:b≠t):Fo r t σ1 aC (.sl b off len es sz) (.sl b off len es sz):=λM K w v h=>by
 cases h with
 |sl a n cap i x h j z=>
  obtain ⟨s,A,E,O,U⟩:=S b x hb h;refine .sl a n cap i s A (kj j E) λW=>?_;by_cases e:b=r
  ·omega
  ·rcases z (by omega) with q | ⟨c,o,u,T,X,G⟩
   ·simp_all
   ·exact .inr ⟨c,o,u,T,by grind [mvM],G⟩
theorem Fo.low(S:SzM r t σ1 aC){d:D}(hl:d.low t=true):Fo r t σ1 aC d d:=by
 intro M O w v h;induction h with
 |c h=>exact .c h
 |any v=>exact .any v
 |ptr a x h j s=>simp only[D.low,bz] at hl;exact Fo.ptr S (by omega) M O w _ (.ptr a x h j s)
 |sl a n cap A x h j s=>simp only[D.low,bz] at hl;exact Fo.sl S (by omega) M O w _ (.sl a n cap A x h j s)
 | @mp b c x h s=>
  simp only[D.low,bz] at hl;obtain ⟨E,u,U,X,Z⟩:=S b x (by omega) h;refine .mp c E u λhe=>?_;by_cases e:b=r
  ·omega
  grind [mvM]
 |fn z W u U s hw G K=>simp only[D.low,bI] at hl;exact .fn z W u U (λi d v a b=>G i d v a b (D.aZ hl.1 i d a)) (λi d v a b=>K i d v a b (D.aZ hl.2 i d a))
 |agg z u s ih=>simp only[D.low] at hl;exact .agg z u (λi d v a b=>ih i d v a b (D.aZ hl i d a))
 |aT z u s ih=>simp only[D.low] at hl;exact .aT z u (λi d v a b=>ih i d v a b (D.aZ hl i d a))
theorem Fo.agg{ds es:List D}(h:aK (Fo r t σ1 aC) ds es):Fo r t σ1 aC (.agg ds) (.agg es):=λM s w v j=>by
 cases j with
 |agg u x j=>refine .agg u (by rw[x,h.len]) λi d v a b=>?_;obtain ⟨z,A,E⟩:=h.get' i d a;exact E M s w v (j i z v A b)
theorem Fo.aT{ds es:List D}(h:aK (Fo r t σ1 aC) ds es):Fo r t σ1 aC (.aT ds) (.aT es):=λM s w v j=>by
 cases j with
 |aT u x j=>refine .aT u (by rw[x,h.len]) λi d v a b=>?_;obtain ⟨z,A,E⟩:=h.get' i d a;exact E M s w v (j i z v A b)
theorem Fo.own{es n:Nat}{cs:List D}(u:σ1[r]? = some (.cells cs))(x:aC[t]? = some (.cells cs))(G:n * es=cs.length):Fo r t σ1 aC (OS es r n) (OS es t n):=λM K w v h=>by
 cases h with
 |sl a n cap i O h j z=>
  rw[u] at h;simp only[au] at h;subst h;refine .sl a n cap i _ x j λA=>?_;rcases z A with q | ⟨c,o,s,T,U,E⟩
  ·simp_all
  ·exact .inr ⟨c,o,s,T,by grind [mvM],E⟩
def ObMv(r t:Nat)(σ1 aC:ar):Ob->Ob->Prop
 |.cells ds,ob=>∃a,ob=.cells a/\aK (Fo r t σ1 aC) ds a
 |.map a k,ob=>ob=.map a k/\(a.all λe=>e.2.1.low t)=true
 |.gone k,ob=>ob=.gone k
theorem ObMv.sz{a b:Ob}(h:ObMv r t σ1 aC a b):b.sz=a.sz:=by
 cases a with
 |cells ds=>obtain ⟨i,rfl,h⟩:=h;simp only[Ob.sz,h.len]
 |map i k=>obtain ⟨rfl,_⟩:=h;rfl
 |gone k=>cases h;rfl
end
theorem wG.le{m m':Nat}{al1 al2:AL}{σ1 aC:ar}(h:wG m al1 σ1 al2 aC)(hm:m'<=m):wG m' al1 σ1 al2 aC:=⟨kj hm h.1,λn s j u i R A=>by
 obtain ⟨x,z,E,G,K,M⟩:=h.2 n s j u i R A;refine ⟨x,z,E,G,K,?_⟩
 grind⟩
section
variable{P:Program}{n:Nat}{al0 al al2:AL}{σ0 σ aC:ar}{Q:ni->AL->ar->Prop}
def Lv(P:Program)(ac:aP)(k:Nat)(n:Nat)(σ0:ar)(al:AL)(σ:ar)(Q:ni->AL->ar->Prop):Prop:=
 ∀ (c : Code), bB P c = some ac -> ∀ (u : Nat -> Option Nat) (f : Nat -> Prop) (h : World) (M : Nat -> Option Nat) (p : Nat -> Prop) (w : World) (a : Act) (K : Exit -> Act -> World -> Prop), Rel σ0 u f h -> Rel σ M p w -> dX n σ M p w al a.tmps ->
  bD σ0 u f h σ M p w->σ0.length<=σ.length->∀i,Mk h.heap.size M p w a.defers i ->
  (∀x j b v l s e,Q x j b->Mk h.heap.size s e l v.defers i->Rel b s e l->dX n b s e l j v.tmps->bD σ0 u f h b s e l->σ0.length<=b.length->K (yk x) v l)->Code.rq P c K k a w
theorem Lv.start{ac:aP}{k:Nat}(hs:wG σ0.length al0 σ0 al σ)(h:Lv P ac k n σ0 al σ Q):kU P ac k n al0 σ0 Q:=by intro c i M j w a K R A s;obtain ⟨u,x,z,E,G,O,U⟩:=hs.use R R A (bD.refl R) (cO _);exact h c i M j w u x w a K R z E G O a.defers (Mk.refl _ _) s
theorem Lv.succ{b:aP}{k:Nat}(h:Sem P b n al σ λx al1 σ1=>match x with | .normal=>∃al2 aC,wG σ0.length al1 σ1 al2 aC/\Lv P b k n σ0 al2 aC Q | x=>Q x al1 σ1):Lv P b (k+1) n σ0 al σ Q:=by
 intro c O M0 s w0 M Fz w u K U R A W X z E Z;rw[Jb];refine h c O M Fz w u _ R A λx al1 σ1 a' w' M' G hQ j R' A' E' hl=>?_;have E1:=W.trans E' X;have j:=Mk.trans E' W.size E j;cases x with
 |normal=>obtain ⟨al2,aC,hw,hs⟩:=hQ;obtain ⟨M2,F2,R2,A2,E2,l2,W2⟩:=hw.use U R' A' E1 (cO _);exact hs c O M0 s w0 M2 F2 w' a' K U R2 A2 E2 l2 z (j.wth W2) Z
 |exit i=>grind [pp]
 |ret=>exact Z .ret al1 σ1 a' w' M' G hQ j R' A' E1 (kj X hl)
end
section
variable{σ σ1:TH}{σD:ar}{alD:AL}{t r:Nat}
theorem dfl_len(i:Nat)(l:List (TT i)):(OB (enc i) l).sz<(OB (enc i) (l++[dfl i])).sz:=by have h:0<aA i:=Y.ps i;simp only[Ob.sz,OB,wX,List.flatMap_append,yZ,yBK,List.flatMap_nil,Ec,tj];omega
end
end
end Go.Abs
end
section
namespace Go.Abs
noncomputable section
variable[Gl][Y:Ty]
def jumps(P:Program)(b:Code)(l:Nat)(Q:Exit->Act->World->Prop):Nat->Act->World->Prop
 |0,_,_=>False
 |k+1,a,w=>b.wp P (Exit.jump l (jumps P b l Q k) Q) a w
theorem Fi{P:Program}{Q:Exit->Act->World->Prop}{c s:Code}{l:Nat}(T:findLabel c l=some s){k:Nat}{a:Act}{w:World}(first:c.wp P (Exit.jump l (jumps P s l Q k) Q) a w):(Code.scope c).wp P Q a w:=by
 intro b E G;have M:gotoIn l (.inScope c::E)=some (.code s::.inScope c::E):=by simp[gotoIn,T]
 have K:∀k a w,jumps P s l Q k a w->∃e N O,Q e N O/\Arrives P (lone (b.at a (.code s::.inScope c::E)) G w) b E G e N O:=by
  intro k;induction k with
  |zero=>intro a w h;exact h.elim
  |succ k ih=>
   intro a w h;obtain ⟨e,f,i,v,j⟩:=h b (.inScope c::E) G;cases e with
   |normal=>exact ⟨.normal,f,i,v,Steps.trans j (.one step_inScope)⟩
   |exit id=>exact ⟨.exit id,f,i,v,λL hk=>j L (by simp[exitTo,hk])⟩
   |goto U=>obtain ⟨rfl,A⟩:=v;obtain ⟨x,y,z,u,p⟩:=ih f i A;exact ⟨x,y,z,u,.of_steps (j _ M) p⟩
   |ret=>exact ⟨_,f,i,v,j⟩
   |panic W=>exact ⟨_,f,i,v,j⟩
   |outgrown=>exact ⟨_,f,i,v,j⟩
 obtain ⟨e,f,i,v,j⟩:=first b (.inScope c::E) G
 cases e with
 |normal=>exact ⟨.normal,f,i,v,.head step_scope (Steps.trans j (.one step_inScope))⟩
 |exit id=>exact ⟨.exit id,f,i,v,λL hk=>.head step_scope (j L (by simp[exitTo,hk]))⟩
 |goto U=>obtain ⟨rfl,A⟩:=v;obtain ⟨x,y,z,u,p⟩:=K _ f i A;exact ⟨x,y,z,u,.of_steps (.head step_scope (j _ M)) p⟩
 |ret=>exact ⟨_,f,i,v,.of_steps (.one step_scope) j⟩
 |panic W=>exact ⟨_,f,i,v,.of_steps (.one step_scope) j⟩
 |outgrown=>exact ⟨_,f,i,v,.of_steps (.one step_scope) j⟩
theorem fl_ok{P:Program}{l:Nat}:∀{b:Code}{a:aP},bB P b=some a->(∀r,O_ l a=some r->∃i,findLabel b l=some i/\bB P i=some r)/\(O_ l a=none->findLabel b l=none):=by
 intro b;induction b with
 |seq v z j p=>
  intro a h;simp only[bB] at h;split at h
  ·rename_i s T A E;simp only[au] at h;subst h;obtain ⟨p1,U⟩:=j A;obtain ⟨W,X⟩:=p E;simp only[O_,findLabel];cases G:O_ l s with
   |some K=>obtain ⟨i,L,Z⟩:=p1 K G;rw[L];refine ⟨λr f=>?_,λM=>by grind⟩;simp only[au] at f;subst f;exact ⟨_,rfl,by grind [bB]⟩
   |none=>simp_all
  simp_all
 |label N=>
  intro a h;simp only[bB,au] at h;subst h;simp only[O_,findLabel];split
  ·refine ⟨λr f=>?_,λM=>by grind⟩;simp only[au] at f;subst f;exact ⟨_,rfl,rfl⟩
  simp_all
 |scope b ih=>intro a h;simp only[bB,cy] at h;obtain ⟨s,_,rfl⟩:=h;rcases JK s with ⟨N,r',_,e⟩ | e <;> rw[e] <;> exact ⟨λr f=>by grind [O_],λ_=>rfl⟩
 |region id O u=>
  intro a h;have:O_ l a=none:=by
   simp only[bB] at h;split at h
   ·cases u with
    |false=>simp only[bX,cr,au] at h;subst h;rfl
    |true=>simp only[if_true] at h;split at h <;> (simp only[au] at h;subst h;rfl)
   ·simp only[au] at h;subst h;rfl
  exact ⟨λr f=>by simp_all,λ_=>rfl⟩
 |cond o v z j p=>
  intro a h;have:O_ l a=none:=by simp only[bB] at h;split at h <;> (simp only[au] at h;subst h;rfl)
  exact ⟨λr f=>by simp_all,λ_=>rfl⟩
 |rangeFunc g ps x y=>intro a h;rcases dS h with ⟨_,_,_,_,_,_,_,rfl⟩ | rfl <;> exact ⟨λr f=>(by cases f),λ_=>rfl⟩
 |block id b ih=>intro a h;simp only[bB,cy] at h;obtain ⟨s,_,rfl⟩:=h;exact ⟨λr f=>by grind [O_],λ_=>rfl⟩
 |loop b ih=>intro a h;simp only[bB,cy] at h;obtain ⟨s,_,rfl⟩:=h;exact ⟨λr f=>by grind [O_],λ_=>rfl⟩
 |_=>intro a h;simp only[bB,au] at h;subst h;exact ⟨λr f=>by grind [O_],λ_=>rfl⟩
section
variable{P:Program}{n:Nat}{al:AL}{σ:ar}{Q:ni->AL->ar->Prop}
theorem Sem.ZO{l:Nat}(z:Q .normal al σ):Sem P (.ZO l) n al σ Q:=by
 intro c i M E w s K R A G;cases c with
 |label X=>exact YV (G .normal al σ s w M E z (Mk.refl _ _) R A (bD.refl R) (cO _))
 |region id O j=>
  simp only[bB] at i;split at i
  ·cases j with
   |false=>simp at i
   |true=>simp only[if_true] at i;split at i <;> simp at i
  ·simp at i
 |seq c1 U=>simp only[bB] at i;split at i <;> simp at i
 |cond o c1 U=>simp only[bB] at i;split at i <;> simp at i
 |scope b=>simp only[bB,cy] at i;obtain ⟨W,_,u⟩:=i;rcases JK W with ⟨l,r,_,e⟩ | e <;> rw[e] at u <;> simp at u
 |rangeFunc g Z x y=>rcases dS i with ⟨_,_,_,_,_,_,_,e⟩ | e <;> cases e
 |_=>simp[bB] at i
def TO(P:Program)(r:aP)(l:Nat)(k:Nat)(n:Nat)(al:AL)(σ:ar)(Q:ni->AL->ar->Prop):Prop:=
 ∀ (c : Code), bB P c = some r -> ∀ (M : Nat -> Option Nat) (j : Nat -> Prop) (w : World) (a : Act) (K : Exit -> Act -> World -> Prop), Rel σ M j w -> dX n σ M j w al a.tmps ->
  (∀x f b p h i e,Q x f b->Mk w.heap.size i e h p.defers a.defers->Rel b i e h->dX n b i e h f p.tmps->bD σ M j w b i e h->σ.length<=b.length->K (yk x) p h)->jumps P c l K k a w
def Jmp(P:Program)(r:aP)(l:Nat)(k:Nat)(n:Nat)(m:Nat)(Q:ni->AL->ar->Prop):ni->AL->ar->Prop
 |.exit i,al,σ=>(i=2 * l+1/\∃al2 aC,wG m al σ al2 aC/\TO P r l k n al2 aC Q)\/(i % 2=0/\Q (.exit i) al σ)
 |x,al,σ=>Q x al σ
theorem Jmp.use{r:aP}{l k:Nat}{c:Code}(hc:bB P c=some r){M:Nat->Option Nat}{Fz:Nat->Prop}{w:World}{a:Act}{K:Exit->Act->World->Prop}(R:Rel σ M Fz w)
  (E:∀x A σ' z s u j,Q x A σ'->Mk w.heap.size u j s z.defers a.defers->Rel σ' u j s->dX n σ' u j s A z.tmps->bD σ M Fz w σ' u j s->σ.length<=σ'.length->K (yk x) z s)
  {x:ni} {al1:AL} {σ1:ar} {z:Act} {s:World} {u:Nat->Option Nat} {j:Nat->Prop} (X:Jmp P r l k n σ.length Q x al1 σ1) (G:Mk w.heap.size u j s z.defers a.defers) (O:Rel σ1 u j s) (U:dX n σ1 u j s al1 z.tmps) (W:bD σ M Fz w σ1 u j s) (hl:σ.length<=σ1.length) :
  Exit.jump l (jumps P c l K k) K (yk x) z s:=by
 cases x with
 |normal=>exact E .normal al1 σ1 z s u j X G O U W hl
 |ret=>exact E .ret al1 σ1 z s u j X G O U W hl
 |exit i=>
  rcases X with ⟨rfl,al2,aC,hw,hs⟩ | ⟨he,hq⟩
  ·rw[Kk];obtain ⟨M2,F2,R2,A2,E2,l2,W2⟩:=hw.use R O U W (cO _);exact ⟨rfl,hs c hc M2 F2 s z K R2 A2 λx Z aa a3 w3 M3 ab ad af R3 A3 E3 ak=>E x Z aa a3 w3 M3 ab ad (Mk.trans E3 E2.size (G.wth W2) af) R3 A3 (E2.trans E3 l2) (kj l2 ak)⟩
  ·have:=E (.exit i) al1 σ1 z s u j hq G O U W hl;rw[AO he] at this ⊢;exact this
theorem TO.succ{r:aP}{l k:Nat}(h:Sem P r n al σ (Jmp P r l k n σ.length Q)):TO P r l (k+1) n al σ Q:=by intro c i M j w a K R A s;exact (h c i M j w a _ R A λx al1 σ1 W X Z u z E G O U hl=>Jmp.use i R s z E G O U hl).1
theorem Sem.Va{l:Nat}{a r:aP}(k:Nat)(h:Sem P a n al σ (Jmp P r l k n σ.length Q)):Sem P (.Va l a r) n al σ Q:=by
 intro c i M G w u K R A O;cases c with
 |scope b=>
  simp only[bB,cy] at i;obtain ⟨U,z,j⟩:=i;rcases JK U with ⟨l',r',W,e⟩ | e
  ·rw[e] at j;simp only[aP.Va.injEq] at j;obtain ⟨rfl,rfl,rfl⟩:=j;obtain ⟨E,f1,X⟩:=(fl_ok z).1 _ W;exact ⟨Fi f1 (k:=k) (h b z M G w u _ R A λx al1 σ1 a' w' M' Z hQ hd R' A' E' hl=>Jmp.use X R O hQ hd R' A' E' hl).1,λhh=>by simp[Code.calm] at hh⟩
  ·rw[e] at j;simp at j
 |region id aa s=>
  simp only[bB] at i;split at i
  ·cases s with
   |false=>simp at i
   |true=>simp only[if_true] at i;split at i <;> simp at i
  ·simp at i
 |seq c1 c2=>simp only[bB] at i;split at i <;> simp at i
 |cond o c1 c2=>simp only[bB] at i;split at i <;> simp at i
 |rangeFunc g ps x y=>rcases dS i with ⟨_,_,_,_,_,_,_,e⟩ | e <;> cases e
 |_=>simp[bB] at i
end
end
end Go.Abs
end
