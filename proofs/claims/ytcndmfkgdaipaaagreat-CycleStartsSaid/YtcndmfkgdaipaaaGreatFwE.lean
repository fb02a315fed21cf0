/- Lemmas. -/
import Derived.Test.YtcndmfkgdaipaaaGreatFwD
import Derived.ScopeJumps
set_option linter.all false
section
namespace Go.Abs
noncomputable section
variable[Gl][σ:Ty]
variable{P:Program}{n:Nat}{alD:AL}{Y Y1:TH}{σD σD1:ar}{o:kN}{Q:TV->TH->Bool->List Nat->Prop}{rd:aT->Option TV}{S:sq}{hint:Nat}{R:Type}{k:KO R}{r:R}{orc:xg}
abbrev nz(P:Program)(orc:xg)(n:Nat)(alD:AL)(Y:TH)(σD:ar)(o:kN)(k:KO R)(r:R):Prop:=dq P orc n alD Y σD o (λv Y1 rs wr=>k v Y1 rs wr=some r)
def Bj{cs:List TC}{ds:List D}(h:ds=cs.map TC.er):RB (.cells 0 (cs.map λc=>(0,c))) (.cells ds):=by grind [RB,TB.er,Function.comp_def]
def Ex{cs:List TC}(g:∀x∈cs,GC Y x):∀w a,TB.cells 0 (cs.map λc=>(0,c))=.cells w a->∀p∈a,GC Y p.2/\p.1<=w:=by simp_all
theorem tbox_ok{x:aT}(e:dD Y alD rd)(H:RH Y σD)(h:gI P S hint (.box x) rd Y k=some r):nz P orc n alD Y σD (.box x) k r:=by
 simp only[gI] at h;split at h
 ·rename_i v f;obtain ⟨d,i,j,l⟩:=e _ _ f;split at h
  ·rename_i b a;obtain ⟨p,s,_⟩:=qh a j;refine dq.new (v:=.c (.d (.ptr Y.length 0 b.length))) (d:=.ptr Y.length 0 b.length) (ob:=.cells (b.map TC.er)) (op_box i p (by rw[H.len,vR]) rfl) (Or.inr rfl) ?_ H (Bj rfl) (Ex (vg a l)) h;show D.low _ _=true;simp[D.low]
  simp_all
 simp_all
def UO{z:List D}(H:RH Y σD)(h:gI P S hint (.alloc z) rd Y k=some r):nz P orc n alD Y σD (.alloc z) k r:=by
 simp only[gI] at h;split at h
 ·rename_i hl;have e:(z.map λc=>((0:Nat),TC.d c))=(z.map TC.d).map λc=>(0,c):=by simp
  rw[e] at h;refine dq.new (v:=.c (.d (.ptr Y.length 0 z.length))) (d:=.ptr Y.length 0 z.length) (ob:=.cells z) (Nc (by rw[H.len]) rfl) (Or.inr rfl) ?_ H (Bj (by simp[TC.er,Function.comp_def])) (Ex (IC hl)) h;show D.low _ _=true;simp[D.low]
 simp_all
theorem VL{z:List D}{ps:List (Nat×Nat×aT)}(b:dD Y alD rd)(H:RH Y σD)(h:gI P S hint (.build z ps) rd Y k=some r):nz P orc n alD Y σD (.build z ps) k r:=by
 simp only[gI] at h;split at h
 ·rename_i e hl a;obtain ⟨ds,f,i,j⟩:=EZ b a (aM.ds z) (IC hl);exact dq.pure (v:=.agg e) (Ym f) ⟨ds,rfl,i⟩ j H h
 simp_all
def pU{i b m:Nat}{l:List (TT i)}(hm:m=l.length):GC (Y++[TB.row i l 0 0]) (.own i Y.length 0 m):=by
 refine ⟨_,by rw[Np (cP _),yCw];rfl,λj a f h e=>?_⟩
 grind
theorem aab:∀{cs:List TC},Tf cs=true->∀y∈cs,y≠.any:=by
 intro cs;induction cs with
 |nil=>simp_all
 |cons x cs ih=>
  intro h y a;simp only[Tf,bG,hZ] at h
  grind [isAny]
theorem QM{es len:Nat}{z:List D}{ps:List (Nat×Nat×aT)}(u:dD Y alD rd)(H:RH Y σD)(h:gI P S hint (.jh es len z ps) rd Y k=some r):nz P orc n alD Y σD (.jh es len z ps) k r:=by
 simp only[gI] at h;split at h
 ·split at h
  ·rename_i f hl a;obtain ⟨ds,j,p,x⟩:=EZ u a (aM.ds (dJ len z)) (G_ hl len);split at h
   rotate_left
   ·simp at h
   rename_i s;have e:ds=f.map TC.er:=p.eq (aab s);refine dq.new (v:=.c (.d (.sl Y.length 0 len es f.length))) (d:=.sl Y.length 0 len es ds.length) (blk:=.cells 0 (f.map λc=>(0,c))) (ob:=.cells ds) (GN j (by rw[H.len]) rfl) (Or.inr ?_) ?_ H (Bj e) (Ex x) h
   ·rw[e,vR];rfl
   ·show D.low _ _=true;simp[D.low]
  simp_all
 split at h
 ·rename_i f hl a;simp only[bG] at hl;have A:=dd hl.1;subst A;split at h
  ·rename_i l i;obtain ⟨ds,j,p,x⟩:=EZ u a (aM.ds (dJ len z)) (G_ hl.2 len);obtain ⟨E,y⟩:=WQ i p;refine dq.new (v:=.c (.own hint Y.length 0 len)) (d:=OS (aB hint) Y.length len) (ob:=OB (enc hint) l) (jC j E y (uU hint) rfl (by rw[H.len]) rfl) (Or.inr rfl) (pU (b:=0) y.symm) H rfl (λw f e=>by simp at e) h
  simp_all
 simp_all
theorem Vq{x:aT}(e:dD Y alD rd)(H:RH Y σD)(h:gI P S hint (.mM x) rd Y k=some r):nz P orc n alD Y σD (.mM x) k r:=by
 simp only[gI] at h;split at h
 ·rename_i a;obtain ⟨b,g⟩:=e.c a (by simp);exact dq.one h (Nm b) rfl g H
 ·rename_i a;obtain ⟨b,g⟩:=e.c a (by simp);exact dq.one h (TW b) rfl g H
 ·rename_i a;obtain ⟨b,g⟩:=e.c a (by simp);exact dq.one h (Im b) rfl g H
 ·rename_i a;obtain ⟨b,g⟩:=e.c a (by simp);exact dq.one h (Vs b) rfl g H
 ·rename_i a;obtain ⟨b,g⟩:=e.c a (by simp);exact dq.one h (Nm b) rfl g H
 ·rename_i a;obtain ⟨b,g⟩:=e.c a (by simp);exact dq.one h (Im b) rfl g H
 simp_all
theorem VI{i:Nat}{neg:Bool}{x:aT}(f:dD Y alD rd)(H:RH Y σD)(h:gI P S hint (.iT i neg x) rd Y k=some r):nz P orc n alD Y σD (.iT i neg x) k r:=by
 simp only[gI] at h;split at h
 ·rename_i y e;obtain ⟨a,g⟩:=f.c e (by simp);split at h
  ·rename_i hb;exact dq.one h (fw a hb) (by cases neg <;> rfl) rfl H
  ·rename_i hb;exact dq.one h (fw a hb) (by cases neg <;> rfl) rfl H
  simp_all
 ·rename_i e;obtain ⟨a,g⟩:=f.c e (by simp);split at h
  ·exact dq.one h (fw (b:=false) a rfl) (by cases neg <;> rfl) rfl H
  simp_all
 ·rename_i e;obtain ⟨a,g⟩:=f.c e (by simp);split at h
  ·exact dq.one h (fw (b:=false) a rfl) (by cases neg <;> rfl) rfl H
  simp_all
 simp_all
theorem tfld_ok{off:Nat}{x:aT}(e:dD Y alD rd)(H:RH Y σD)(h:gI P S hint (.HW off x) rd Y k=some r):nz P orc n alD Y σD (.HW off x) k r:=by
 simp only[gI] at h;split at h
 ·rename_i a;obtain ⟨b,g⟩:=e.c a (by simp);exact dq.one h (Kg b) rfl g H
 ·rename_i a;obtain ⟨b,g⟩:=e.c a (by simp);exact dq.one h (op_fldf b) rfl True.intro H
 ·rename_i a;obtain ⟨b,g⟩:=e.c a (by simp);exact dq.one h (Kg b) (by grind [TC.er]) g H
 simp_all
def op_idxR{len j es b off sz:Nat}{x i:aT}{q:Int}(h:lx alD x=some (.ptr b off sz))(hi:lx alD i=some (I q))(hk:BU q len=some j):ff P orc n alD σD (.idx es (some len) x i) (.ptr b (off+j * es) sz) σD []:=λe a=>by grind [bx,tO,fG]
def op_good{i b v q:Nat}{k:Int}{a:TT i}{l:List (TT i)}{h f:Nat}(hb:Y[b]? = some (.row i l h f))(p:aD l k=some a):GC Y (.op i b f l.length k a 0):=by
 refine ⟨_,hb,λj x s u e=>?_⟩;simp only[TB.row.injEq] at e;obtain ⟨rfl,hl,rfl,rfl⟩:=e;cases hl;refine ⟨cP _,λ_=>⟨l,?_,rfl,p⟩⟩;unfold iB;split
 ·rfl
 omega
def op_idxG{g len es:Nat}{x i:aT}{q z a:Int}{l:List Int}(h:lx alD x=some (.c (.We g)))(hi:lx alD i=some (I q))(b:aD (z::l) q=some a)(f:Gl.tab g=(z::l).map λz=>.int .i64 z)(hl:(z::l).length=len) :
  ff P orc n alD σD (.idx es (some len) x i) (.c (.cD ((Gl.tab g).map .lit) (q.toNat * es))) σD []:=λe j=>by
 obtain ⟨p,s,u⟩:=nJ b;have v:BU q len=some q.toNat:=by unfold BU;simp_all
 grind [bx,tO,fG]
theorem tidx_ok{es:Nat}{len:Option Nat}{x i:aT}(s:dD Y alD rd)(H:RH Y σD)(h:gI P S hint (.idx es len x i) rd Y k=some r):nz P orc n alD Y σD (.idx es len x i) k r:=by
 cases len with
 |none=>
  simp only[gI] at h;split at h
  ·rename_i j l K u hi;obtain ⟨y,g⟩:=s.c u (by simp);split at h
   ·rename_i q p f;have f:=dd f;subst f;obtain ⟨a,A,hk⟩:=AP h;exact dq.one hk (Zf y (s.int hi p) A (uU j a)) rfl True.intro H
   simp_all
  ·rename_i j b v m K u hi;obtain ⟨y,g⟩:=s.c u (by simp);split at h
   ·rename_i q j' l lv cv p f hb;have f:=dd f;subst f;split at h
    ·rename_i l' T hl;obtain ⟨a,A,hk⟩:=AP h;obtain ⟨rfl,rfl⟩:=wj H g hb T;have E:=AI H hb hl;rw[hb] at E;simp only[au,TB.row.injEq,heq_eq_eq,true_and,NT] at E;subst E;exact dq.one hk (Ri (uU _) y (H.row hb) rfl (s.int hi p) A) rfl (op_good (v:=0) (q:=0) hb A) H
    simp_all
   simp_all
  ·rename_i b off ln U sz K u hi;obtain ⟨y,g⟩:=s.c u (by simp);split at h
   ·rename_i q w cs p hb;obtain ⟨ds,N,O,W,_⟩:=H.cells hb;split at h
    ·rename_i j L M;simp only[bG] at L;have e1:=dd L.1;have X:=dd L.2;subst X;exact dq.one h (op_idxS (cs:=ds) y (s.int hi p) (Qk N (by omega)) M rfl) rfl g H
    simp_all
   simp_all
  simp_all
 |some len=>
  cases i with
  |k i=>
   simp only[gI] at h;split at h
   ·rename_i b off sz q u p;obtain ⟨y,g⟩:=s.c u (by simp);split at h
    ·rename_i j M;have hi:lx alD (.k i)=some (I q):=by
      have:=SA (d:=i) p (by
       unfold HF at p ⊢;split at p
       ·grind [lc]
       ·exact Or.inr rfl)
      grind [lx]
     exact dq.one h (op_idxR y hi M) rfl g H
    simp_all
   simp_all
  |t i=>
   simp only[gI] at h;split at h
   ·rename_i b off sz K u hi;obtain ⟨y,g⟩:=s.c u (by simp);split at h
    ·rename_i q w cs p f hb;have f:=dd f;subst f;obtain ⟨ds,N,O,W,_⟩:=H.cells hb;split at h
     ·rename_i l hs hl;simp only[bG] at hs;obtain ⟨a,A,hk⟩:=AP h;have Z:=JD hl ((O.drop off).take len);have e:l.length=len:=by
       have:=Ig List.length Z;have q1:=dd hs.1;have q2:=CH hs.2
       grind
      have G:b<Y.length:=(fq.1 hb).1;exact dq.one hk (op_idxA y (s.int hi p) A e rfl) rfl G H
     simp_all
    simp_all
   ·rename_i g K u hi;obtain ⟨y,_⟩:=s.c u (by simp);split at h
    ·rename_i q z l p f hl;have f:=dd f;subst f;split at h
     ·rename_i e;have e:=dd e;obtain ⟨a,A,hk⟩:=AP h;exact dq.one hk (op_idxG y (s.int hi p) A (ZD hl) e) rfl rfl H
     simp_all
    simp_all
   simp_all
def op_slcO{α:Type}{f:α->List C}{aB:Nat}{x:aT}{v hi:Option aT}{b:Nat}{l r:List α}{i j:Int}(G:∀a,(f a).length=aB)(h:lx alD x=some (OS aB b l.length))(hb:σD[b]? = some (OB f l))(p:(match v with | none=>some (I 0) | some o=>lx alD o)=some (I i))
  (s:(match hi with | none=>some (I l.length) | some o=>lx alD o)=some (I j)) (y:slice? l i j=some r):ff P orc n alD σD (.VT aB x v hi) (.sl b (0+i.toNat * aB) (j.toNat-i.toNat) aB (l.length * aB)) σD []:=λe z=>by
 unfold slice? at y;split at y
 ·rename_i A;have u:nW σD b (l.length * aB)=some ((l.flatMap f).map .c):=Qk hb (by
   rw[vR];clear hb h p s y A;induction l with
   |nil=>simp
   |cons a l ih=>grind)
  have E:oq e l.length l.length hi=some j.toNat:=by
   cases hi with
   |none=>simp only[au,I,D.c.injEq,C.lit.injEq,Value.int.injEq,true_and] at s;grind [oq]
   |some o=>
    simp only at s;simp only[oq,fG z s,tO,aw,Sr]
    grind
  have hl:oq e 0 j.toNat v=some i.toNat:=by
   cases v with
   |none=>simp only[au,I,D.c.injEq,C.lit.injEq,Value.int.injEq,true_and] at p;grind [oq]
   |some o=>
    simp only at p;simp only[oq,fG z p,tO,aw,Sr]
    grind
  simp only[bx,fG z h,u,E,hl,eY,aw,if_true,Option.orElse]
 simp_all
theorem tslc_ok{es:Nat}{x:aT}{E hi:Option aT}(y:dD Y alD rd)(H:RH Y σD)(h:gI P S hint (.VT es x E hi) rd Y k=some r):nz P orc n alD Y σD (.VT es x E hi) k r:=by
 simp only[gI] at h;split at h
 ·rename_i j l L;obtain ⟨M,g⟩:=y.c L (by simp);split at h
  ·rename_i u v f N O;have f:=dd f;subst f;split at h
   ·rename_i z G p s;obtain ⟨a,K,hk⟩:=AP h;refine dq.one hk (op_slc (i:=z) (j:=G) (uU j) M ?_ ?_ K) rfl True.intro H
    ·cases E with
     |none=>grind [lc]
     |some o=>exact y.int N p
    ·cases hi with
     |none=>grind [lc]
     |some o=>exact y.int O s
   simp_all
  simp_all
 ·rename_i j b X n L;obtain ⟨M,g⟩:=y.c L (by simp);split at h
  ·rename_i W l lv cv f hb;have f:=dd f;subst f;split at h
   ·rename_i u v A N O;obtain ⟨rfl,rfl⟩:=wj H g hb A;split at h
    ·rename_i z G p s;obtain ⟨a,K,hk⟩:=AP h;have T:=H.row hb;refine ⟨.c (.os W b X l.length z.toNat (G.toNat-z.toNat)),Y,false,[],_,σD,op_slcO (l:=l) (i:=z) (j:=G) (uU W) M T ?_ ?_ K,.inr rfl,?_,H,Ext.refl Y,λ_=>rfl,λ_=>⟨rfl,rfl,rfl⟩,hk⟩
     ·cases E with
      |none=>grind [lc]
      |some o=>exact y.int N p
     ·cases hi with
      |none=>grind [lc]
      |some o=>exact y.int O s
     ·refine ⟨_,hb,λj l' Z aa e=>?_⟩;simp only[TB.row.injEq] at e;obtain ⟨rfl,U,rfl,rfl⟩:=e;cases U;have ab:=dd A;unfold slice? at K
      grind
    simp_all
   simp_all
  simp_all
 simp_all
def Uw(H:RH Y σD)(h:gI P S hint .uC rd Y k=some r):nz P orc n alD Y σD .uC k r:=by simp only[gI] at h;exact dq.new (v:=.c (.d (.mp Y.length))) (d:=.mp Y.length) (blk:=.mp (hint / 2) (Nat.beq (hint % 2) 1) [] 0) (ob:=MB (Pv (hint / 2) (Nat.beq (hint % 2) 1)) []) (op_mkmap (g:=Pv (hint / 2) (Nat.beq (hint % 2) 1)) (by rw[H.len]) rfl) (Or.inr rfl) (by show D.low _ _=true;simp[D.low]) H rfl (λw a e=>by simp at e) h
theorem XH(j:Nat)(a:TT j):((exp j a).headD (.d (.c (.lit undef)))).er=.c ((enc j a).headD (.lit undef)):=by
 have h:=vj j a;cases b:exp j a with
 |nil=>
  rw[b] at h;cases e:enc j a with
  |nil=>rfl
  |cons c f=>simp_all
 |cons x i=>
  rw[b] at h;cases e:enc j a with
  |nil=>simp_all
  |cons c f=>simp_all
theorem mpV_ok(j:Nat)(st:Bool)(a:TT j):RT (mpV j st a) (Pv j st a)/\GV Y (mpV j st a):=by
 cases st with
 |true=>exact ⟨⟨_,rfl,by rw[<-vj];exact aM.er _⟩,un j a⟩
 |false=>
  refine ⟨.inr ?_,?_⟩
  ·rw[XH];rfl
  ·show GC Y ((exp j a).headD (.d (.c (.lit undef))));cases e:exp j a with
   |nil=>rfl
   |cons x b=>grind [un]
theorem Md{ok e:Bool}{v:TV}{d:D}(h:RT v d)(g:GV Y v)(f:∀xs,v≠.aV xs):RT (Ml ok v e) (if ok then .aV [d,B e] else d)/\GV Y (Ml ok v e):=by
 cases ok with
 |false=>exact ⟨h,g⟩
 |true=>
  cases v with
  |aV xs=>simp_all
  |c x => exact ⟨⟨_, rfl, .cons ⟨x, rfl, h⟩ (.cons ⟨_, rfl, .inr rfl⟩ .nil)⟩, λp a y b => by
    rcases gy.1 a with rfl | a
    ·rcases gy.1 b with rfl | b
     ·exact g
     simp_all
    ·rcases gy.1 a with rfl | a
     ·rcases gy.1 b with rfl | b
      ·rfl
      simp_all
     simp_all⟩
  |agg xs=>exact ⟨⟨_,rfl,.cons h (.cons ⟨_,rfl,.inr rfl⟩ .nil)⟩,λp a y b=>by
    rcases gy.1 a with rfl | a
    ·exact g y b
    ·rcases gy.1 a with rfl | a
     ·rcases gy.1 b with rfl | b
      ·rfl
      simp_all
     simp_all⟩
def mpV_nt(j:Nat)(st:Bool)(a:TT j):∀xs,mpV j st a≠.aV xs:=by intro xs h;cases st <;> simp[mpV] at h
def ofD_nt(d:D):∀xs,HF d≠.aV xs:=by intro xs h;cases d <;> simp[HF] at h
theorem ofD_okg{d:D}(h:d.low 0=true):RT (HF d) d/\GV Y (HF d):=by
 have one:∀d:D,d.low 0=true->RT (.c (.d d)) d/\GV Y (.c (.d d)):=λd h=>⟨.inr rfl,D.eK (Qf _) h⟩;cases d with
 |agg ds=>simp only[D.low] at h;refine ⟨⟨ds,rfl,aM.ds ds⟩,λx a=>?_⟩;rw[iX] at a;obtain ⟨y,b,rfl⟩:=a;exact DI h y b
 |_=>exact one _ h
theorem Xq{R:Type}{r:R}:∀{a:List Nat}{n:Nat}{f:Nat->Option R},LX a n f=some r->f n=some r:=by
 intro a;induction a with
 |nil=>intro n f h;simp[LX] at h
 |cons g a ih=>
  intro n f h;simp only[LX] at h;cases e:Nat.beq n g with
  |true=>rw[e] at h;rw[dd e];exact h
  |false=>rw[e] at h;exact ih h
theorem splC_ok{R:Type}{r:R}:∀{cs:List CC}{x:aV cs}{k:List TC->Option R},splC cs x k=some r->k (uj cs x)=some r:=by
 intro cs;induction cs with
 |nil=>intro x k h;exact h
 |cons c cs ih=>
  intro x k h;cases c with
  |fk a=>exact ih (Xq h)
  |_=>exact ih h
def lkS_ok{R:Type}{r:R}{hint j:Nat}{st:Bool}{a:TT j}{k:TV->Option R}(h:lkS hint j st a k=some r):k (mpV j st a)=some r:=by
 unfold lkS at h;split at h
 ·exact splC_ok h
 ·exact h
theorem QV{kind:TypeDesc}{zero:D}{m A:aT}{ok:Bool}(i:dD Y alD rd)(H:RH Y σD)(h:gI P S hint (.lookup kind zero m A ok) rd Y k=some r):nz P orc n alD Y σD (.lookup kind zero m A ok) k r:=by
 simp only[gI] at h;split at h
 ·rename_i O b T L hk M;obtain ⟨E,g⟩:=i.c L (by simp);split at h
  ·rename_i j st l v x hb G;obtain ⟨N,K,p⟩:=H.hp b _ hb;have p:N=MB (Pv j st) l:=p;subst p;cases f:dm l x with
   |none=>rw[f] at h;obtain ⟨s,u⟩:=ofD_okg (Y:=Y) M;obtain ⟨y,z⟩:=Md (ok:=ok) (e:=false) s u (ofD_nt zero);exact dq.pure (WY E K (i.int hk G) f rfl) y z H h
   |some a=>rw[f] at h;obtain ⟨s,u⟩:=mpV_ok (Y:=Y) j st a;obtain ⟨y,z⟩:=Md (ok:=ok) (e:=true) s u (mpV_nt j st a);exact dq.pure (op_look E K (i.int hk G) f rfl) y z H (lkS_ok (k:=λv=>k (Ml ok v true) Y false []) h)
  ·simp at h
 ·simp at h
def mkM_ok{j:Nat}{st:Bool}{v:TV}{d:D}{a:TT j}(h:mkM j st v=some a)(r:RT v d):d=Pv j st a:=by
 unfold mkM at h;split at h
 ·rename_i l;obtain ⟨ds,rfl,i⟩:=r;obtain ⟨f,b⟩:=yC h;rw[i.eq b,f];rfl
 ·rename_i x;obtain ⟨f,b⟩:=yC h;have:=RT.c1 (b x (qY ..)) r;subst this;cases e:enc j a with
  |nil=>simp_all
  |cons c p=>grind [Pv]
 simp_all
theorem tupd_ok{kind:TypeDesc}{m z x:aT}(s:dD Y alD rd)(H:RH Y σD)(h:gI P S hint (.yg kind m z x) rd Y k=some r):nz P orc n alD Y σD (.yg kind m z x) k r:=by
 simp only[gI] at h;split at h
 ·rename_i O b T v A hk E;obtain ⟨G,g⟩:=s.c A (by simp);obtain ⟨d,K,L,U⟩:=s _ _ E;split at h
  ·rename_i j st l ver i hb hi;obtain ⟨M,u,y⟩:=H.hp b _ hb;have y:M=MB (Pv j st) l:=y;subst y;split at h
   ·rename_i a N;have:=mkM_ok N L;subst this;have f:BE (.mp j st l ver) (.mp j st (kA l i a) (ver+1)):=⟨_,_,_,_,rfl,by omega,λe=>by omega⟩;refine ⟨_,_,_,_,.aV [],σD.set b (MB (Pv j st) (kA l i a)),op_upd G u (s.int hk hi) K rfl,rt0,?_,H.set hb f rfl (λw W e=>by simp at e),Ext.set hb f,λ_=>?_,λe=>by grind [xI],h⟩
    ·intro p X;grind
    ·simp only[kC,SW,List.all_nil,Qm];rw[u,HK u];rfl
   simp_all
  simp_all
 simp_all
theorem tlen_ok{x:aT}(f:dD Y alD rd)(H:RH Y σD)(h:gI P S hint (.len x) rd Y k=some r):nz P orc n alD Y σD (.len x) k r:=by
 simp only[gI] at h;split at h
 ·rename_i i l a;obtain ⟨e,g⟩:=f.c a (by simp);exact dq.one h (op_len e) rfl rfl H
 ·rename_i a;obtain ⟨e,g⟩:=f.c a (by simp);exact dq.one h (op_len0 e) rfl rfl H
 ·rename_i i b v q a;obtain ⟨e,g⟩:=f.c a (by simp);split at h
  ·rename_i j l y z hb;split at h
   ·rename_i p;obtain ⟨rfl,rfl⟩:=wj H g hb p;exact dq.one h (OT (uU _) e (H.row hb) rfl) rfl rfl H
   simp_all
  simp_all
 ·rename_i b off A E sz a;obtain ⟨e,g⟩:=f.c a (by simp);split at h
  ·rename_i w cs hb;obtain ⟨ds,s,G,K,_⟩:=H.cells hb;split at h
   ·rename_i u;have L:=dd u;exact dq.one h (op_lenS (cs:=ds) e (Qk s (by omega)) rfl) rfl rfl H
   simp_all
  simp_all
 simp_all
theorem tmk_ok{es a:Nat}{z:List D}{x y:aT}(j:dD Y alD rd)(H:RH Y σD)(h:gI P S hint (.mk es a z x y) rd Y k=some r):nz P orc n alD Y σD (.mk es a z x y) k r:=by
 simp only[gI] at h;split at h
 ·rename_i L u v f K p s;simp only[bG] at f;have A:=dd f.1;subst A;split at h
  ·rename_i T M E i;obtain ⟨l,hl,hk⟩:=AP h;obtain ⟨N,_⟩:=yC K;have G:z=(enc hint L).map .c:=by rw[<-N];simp[TC.er,Function.comp_def]
   refine dq.new (v:=.c (.own hint Y.length 0 l.length)) (d:=OS (aB hint) Y.length l.length) (ob:=OB (enc hint) l) (op_mk (j.int p E) (j.int s i) G hl f.2.1 (by rw[H.len]) rfl) (Or.inr rfl) (pU (b:=0) rfl) H rfl (λw O e=>by simp at e) hk
  simp_all
 ·rename_i v f K p s;simp only[bG] at f;have A:=dd f.1;subst A;split at h
  ·rename_i M i;obtain ⟨l,hl,hk⟩:=AP h;refine dq.new (v:=.c (.own hint Y.length 0 l.length)) (d:=OS (aB hint) Y.length l.length) (ob:=OB (enc hint) l) (op_mk0 (j.int p rfl) (j.int s i) hl f.2.1 (by rw[H.len]) rfl) (Or.inr rfl) (pU (b:=0) rfl) H rfl (λw O e=>by simp at e) hk
  simp_all
 simp_all
theorem tapp_ok{es p:Nat}{s x:aT}(z:dD Y alD rd)(H:RH Y σD)(h:gI P S hint (.append es p s x) rd Y k=some r):nz P orc n alD Y σD (.append es p s x) k r:=by
 simp only[gI] at h;split at h
 ·rename_i i b v q y hs A;obtain ⟨E,g⟩:=z.c hs (by simp);obtain ⟨d,G,K,L⟩:=z _ _ A;split at h
  ·rename_i j l X cv hb;split at h
   ·rename_i l' m f hl M;simp only[bG] at f;have N:=dd f.2.1;subst N;obtain ⟨rfl,rfl⟩:=wj H g hb f.1;have u:=AI H hb hl;rw[hb] at u;simp only[au,TB.row.injEq,heq_eq_eq,true_and,NT] at u;subst u;obtain ⟨W,Z,hk⟩:=AP h;have O:BE (.row j l X cv) (.row j W (X+1) (cv+1)):=⟨_,_,_,rfl,by omega,by omega,λe=>by omega,λe=>by omega⟩;refine ⟨.c (.own j b (X+1) W.length),_,true,[b],OS (aB j) b W.length,_,wi (uU j) E (H.row hb) rfl G (JP H M K L) Z f.2.2 rfl rfl,Or.inr rfl,?_,H.set hb O rfl (λw cs e=>by simp at e),Ext.set hb O,λe=>by simp at e,λe=>by grind [xI],hk⟩;refine ⟨_,HK hb,λj' l' aa ab e=>?_⟩
    grind
   simp_all
  simp_all
 ·rename_i i b v q hs A;obtain ⟨E,_⟩:=z.c hs (by simp);obtain ⟨d,G,K,L⟩:=z _ _ A;split at h
  ·rename_i a l f M;simp only[bG] at f;have N:=dd f.1;subst N;split at h
   ·rename_i T;exact dq.new (v:=.c (.own i Y.length 0 (a::l).length)) (d:=OS (aB i) Y.length (a::l).length) (ob:=OB (enc i) (a::l)) (Dw E G (JP H M K L) T f.2 (by rw[H.len]) rfl) (Or.inr rfl) (pU (b:=0) rfl) H rfl (λw cs e=>by simp at e) h
   simp_all
  simp_all
 ·rename_i i U hs A;obtain ⟨E,_⟩:=z.c hs (by simp);obtain ⟨d,G,K,L⟩:=z _ _ A;split at h
  ·rename_i f;simp only[bG] at f;have N:=dd f.1;subst N;rw[c_] at h;obtain ⟨W,Z,h⟩:=h;obtain ⟨T,e⟩:=uV Z;rw[e] at h;have M:TS i Y (.c (.sl i U))=some ([]++U):=by
    simp only[TS,iB,zO];split
    ·rfl
    omega
   exact dq.new (v:=.c (.own i Y.length 0 ([]++U).length)) (d:=OS (aB i) Y.length ([]++U).length) (ob:=OB (enc i) ([]++U)) (Dw E G (JP H M K L) (Nat.ble_eq.mpr (by simp_all)) f.2 (by rw[H.len]) rfl) (Or.inr rfl) (pU (b:=0) rfl) H rfl (λw cs e=>by simp at e) h
  simp_all
 simp_all
theorem NI{x:aT}{i:Nat}(p:dD Y alD rd)(H:RH Y σD)(h:gI P S hint (.extract x i) rd Y k=some r):nz P orc n alD Y σD (.extract x i) k r:=by
 simp only[gI] at h;split at h
 ·rename_i A s;obtain ⟨d,f,⟨ds,rfl,j⟩,l⟩:=p _ _ s;split at h
  ·rename_i u hi;obtain ⟨d,a,z,rfl,b⟩:=j.get _ _ hi;exact dq.pure (v:=.agg u) (EU f a) ⟨z,rfl,b⟩ (l _ (Av hi)) H h
  ·rename_i c hi;obtain ⟨d,a,y,e,b⟩:=j.get _ _ hi;simp only[yCi,NT] at e;subst e;exact dq.pure (v:=.c c) (EU f a) b (l _ (Av hi) c (by simp)) H h
  simp_all
 simp_all
theorem fnD_ok:∀{vs:List TV}{xs:List D}{ds:List D},vs.mapM (λv=>(match v with | .c (.d x)=>some x | _=>none))=some xs->f_ vs ds->(∀v∈vs,GV Y v)->ds=xs/\D.low.cW Y.length xs=true:=by
 intro vs;induction vs with
 |nil=>intro xs ds h r _;simp only[List.mapM_nil] at h;cases h;cases r;exact ⟨rfl,rfl⟩
 |cons v vs ih=>
  intro xs ds h r g;cases r with
  |cons b r=>
   rw[US] at h;split at h
   ·rename_i x;cases a:vs.mapM (λv=>(match v with | .c (.d x)=>some x | _=>none)) with
    |none=>simp_all
    |some l=>rw[a] at h;cases h;obtain ⟨e,f⟩:=ih a r λv i=>g v (o_ _ i);have j:=RT.c1 (by simp) b;subst e j;refine ⟨rfl,?_⟩;simp only[D.low.cW,f,Qm];exact g _ (qY ..)
   simp_all
theorem cvOf_ok{Y:TH}{xs:List TC}{cs:List CV}{ds:List D}(h:xs.mapM YG=some cs)(r:aM RC xs ds)(g:∀x∈xs,GC Y x):ds=cs.map CV.er/\cs.all (CV.low Y.length)=true:=by
 induction r generalizing cs with
 |nil=>simp_all
 | @cons x d xs ds h1 r ih=>
  rw[US] at h;cases a:YG x with
  |none=>simp_all
  |some c=>
   cases hs:xs.mapM YG with
   |none=>simp_all
   |some f=>
    rw[a,hs] at h;cases h;obtain ⟨b,e⟩:=ih hs λy i=>g y (o_ _ i);have j:=g x (qY ..);unfold YG at a;split at a <;> cases a
    ·have:=RT.c1 (x:=.d _) (by simp) h1;subst this;exact ⟨by rw[b];rfl,by simp only[SW,e,Qm];exact j⟩
    ·have:=RT.c1 (x:=.b _) (by simp) h1;subst this;exact ⟨by rw[b];rfl,by simp only[SW,e,Qm];rfl⟩
    ·have:=RT.c1 (x:=.sl _ _) (by simp) h1;subst this;exact ⟨by rw[b];rfl,by simp only[SW,e,Qm];rfl⟩
theorem Xc{f:Fn}{first cap:List aT}(p:dD Y alD rd)(H:RH Y σD)(h:gI P S hint (.Ea f first cap) rd Y k=some r):nz P orc n alD Y σD (.Ea f first cap) k r:=by
 simp only[gI] at h;split at h
 ·rename_i a b z hb;obtain ⟨ds,s,u,v⟩:=p.all z;obtain ⟨U,x,y,A⟩:=p.all hb;split at h
  ·rename_i g W i;unfold fnaOf at i;split at i
   rotate_left
   ·grind
   rename_i X Z;rw[cC] at i;obtain ⟨E,G,e⟩:=i;simp only[aU] at e;obtain ⟨rfl,rfl⟩:=e;cases u with
   |cons K L=>cases L;cases y;obtain ⟨M,rfl,N⟩:=K;obtain ⟨O,T⟩:=cvOf_ok G N (v _ (qY ..));subst O;exact dq.one h (SZ s x) rfl T H
  split at h
  ·rename_i a' b' j l;obtain ⟨rfl,h7⟩:=fnD_ok j u v;obtain ⟨rfl,h8⟩:=fnD_ok l y A;refine dq.one h (SZ s x) rfl ?_ H;show D.low _ _=true
   grind [D.low]
  simp_all
 simp_all
theorem ZW{off:Nat}{m:Option Nat}{x:aT}(b:dD Y alD rd)(H:RH Y σD)(h:gI P S hint (.part off m x) rd Y k=some r):nz P orc n alD Y σD (.part off m x) k r:=by
 simp only[gI] at h;split at h
 ·rename_i s e;obtain ⟨d,f,⟨ds,rfl,i⟩,j⟩:=b _ _ e;split at h
  ·rename_i v a;obtain ⟨d,l,p⟩:=zl a i;exact dq.pure (op_part f l) p (pP a j) H h
  simp_all
 simp_all
def ZH{len j es:Nat}{m:Option Nat}{x i:aT}{q:Int}{cs:List D}{d:D}(h:lx alD x=some (.agg cs))(hi:lx alD i=some (I q))(hk:BU q len=some j)(b:uL m cs (j * es)=some d):ff P orc n alD σD (.Cx es len m x i) d σD []:=λe a=>by simp[bx,fG a h,fG a hi,tO,hk,b]
theorem mkTs_ok{i:Nat}:∀{xs:List TC}{l:List (TT i)},mkTs i xs=some l->∀{cs:List C},xs.map TC.er=cs.map .c->(cs.map λc=>[c])=l.map (enc i):=by
 intro xs;induction xs with
 |nil=>
  intro l h cs b;simp only[mkTs,au] at h;subst h;cases cs with
  |nil=>rfl
  |cons c cs=>simp at b
 |cons x xs ih=>
  intro l h cs b;simp only[mkTs] at h;split at h
  ·rename_i a r j p;simp only[au] at h;subst h;cases cs with
   |nil=>simp at b
   |cons c cs=>
    simp only[rS,yCi] at b;obtain ⟨e,_⟩:=yC j;simp only[rS,List.map_nil] at e;rw[b.1] at e;have s:[c]=enc i a:=by have u:([c]:List C).map D.c=(enc i a).map D.c:=e;have f:=Ig (List.map λd=>match d with | D.c c=>c | _=>default) u;simp only[UX] at f;have v:((λd=>match d with | D.c c=>c | _=>default)∘D.c)=(id:C->C):=rfl;rw[v,List.map_id,List.map_id] at f;exact f
    simp only[rS,s,ih p b.2]
  ·simp at h
def op_slca{m off:Nat}{x:aT}{cs:List C}{es:List (List C)}(h:lx alD x=some (.c (.cD cs off)))(a:off+m<=cs.length)(f:(((cs.drop off).take m).map λc=>[c])=es):ff P orc n alD σD (.DM m x) (.c (.cJ false es)) σD []:=λe b=>by subst f;simp only[bx,fG b h,a,if_true]
theorem WP{m:Nat}{x:aT}(e:dD Y alD rd)(H:RH Y σD)(h:gI P S hint (.DM m x) rd Y k=some r):nz P orc n alD Y σD (.DM m x) k r:=by
 simp only[gI] at h;split at h
 ·rename_i i a off f;obtain ⟨j,g⟩:=e.c f (by simp);split at h
  ·rename_i l b hl;have b:=CH b;exact dq.pure (v:=.c (.sl hint l)) (op_slca j (by rw[uU];exact b) (mkTs_ok hl (by rw[List.map_take,List.map_drop,vj,List.map_take,List.map_drop]))) (Or.inr rfl) True.intro H h
  ·simp at h
 ·simp at h
theorem XF{es len:Nat}{m:Option Nat}{x i:aT}(e:dD Y alD rd)(H:RH Y σD)(h:gI P S hint (.Cx es len m x i) rd Y k=some r):nz P orc n alD Y σD (.Cx es len m x i) k r:=by
 simp only[gI] at h;split at h
 ·rename_i O T E hi;obtain ⟨d,u,⟨ds,rfl,y⟩,G⟩:=e _ _ E;split at h
  ·rename_i q p;split at h
   ·rename_i j K;split at h
    ·rename_i v A;obtain ⟨d,L,s⟩:=zl A y;exact dq.pure (ZH u (e.int hi p) K L) s (pP A G) H h
    simp_all
   simp_all
  ·rename_i q p;split at h
   ·rename_i l hs hl;simp only[bG] at hs;have M:=dd hs.1;have U:=dd hs.2;subst M;obtain ⟨a,N,hk⟩:=AP h;have s:=JD hl y;have b:l.length=len:=by grind [aM.len,List.length_map]
    exact dq.one hk (op_aidx (f:=λz=>.c (.lit (.int .i64 z))) u (e.int hi p) N s b) rfl rfl H
   simp_all
  simp_all
 simp_all
theorem YH{f:aT}{args:List aT}(l:dD Y alD rd)(H:RH Y σD)(h:gI P S hint (.call f args) rd Y k=some r):nz P (CW (Gx S)) n alD Y σD (.call f args) k r:=by
 simp only[gI] at h;split at h
 ·rename_i g z x b;obtain ⟨p,_⟩:=l.c x (by simp);obtain ⟨ds,u,v,y⟩:=l.all b;split at h
  ·rename_i s hs;split at h
   ·rename_i a e;obtain ⟨q,i,hk⟩:=AP h;exact dq.pure (Iu p u (spc_ok hs v e i)) (RI s.out q) (HP s.out q) H hk
   ·split at h
    ·rename_i a j e;simp only[bG] at j;obtain ⟨q,i,hk⟩:=AP h;exact dq.pure (Iu p u (YB H hs y v j.1 j.2 e i)) (RI s.out q) (HP s.out q) H hk
    simp_all
  simp_all
 simp_all
theorem tOp_ok(p:dD Y alD rd)(H:RH Y σD)(h:gI P S hint o rd Y k=some r):nz P (CW (Gx S)) n alD Y σD o k r:=by
 cases o with
 |AO x=>
  simp only[gI] at h;split at h
  ·rename_i v A;obtain ⟨d,E,G,K⟩:=p _ _ A;exact dq.pure (Ay E) G K H h
  simp_all
 |gen op ty=>exact genT_ok p H h
 |box x=>grind [tbox_ok]
 |alloc z=>exact UO H h
 |build z L=>grind [VL]
 |jh l len z L=>grind [QM]
 |load m x=>grind [Wz]
 |store m x y=>grind [Vr]
 |mM x=>grind [Vq]
 |iT N M x=>grind [VI]
 |HW off x=>grind [tfld_ok]
 |idx l len x i=>grind [tidx_ok]
 |VT l x O hi=>grind [tslc_ok]
 |uC=>exact Uw H h
 |lookup e zero m u ok=>grind [QV]
 |yg e m u x=>grind [tupd_ok]
 |del e m u=>simp[gI] at h
 |len x=>grind [tlen_ok]
 |mk l j z x y=>grind [tmk_ok]
 |append l j s x=>grind [tapp_ok]
 |copy l d s=>simp[gI] at h
 |extract x i=>grind [NI]
 |Ea f a b=>grind [Xc]
 |part off m x=>grind [ZW]
 |DM m x=>grind [WP]
 |Cx l len m x i=>grind [XF]
 |call f args=>grind [YH]
 |_=>simp[gI] at h
end
end Go.Abs
end
section
namespace Go.Abs
noncomputable section
variable[Gl][σ:Ty]
def Ia(p:Nat):TA->Option (Nat×RV)
 |[]=>none
 |x::al=>if al.length=p then some x else Ia p al
theorem Qq{p:Nat}{y:Nat×RV}:∀{al:TA},Ia p al=some y->p<al.length:=by
 intro al;induction al with
 |nil=>grind [Ia]
 |cons x al ih=>grind [Ia]
theorem zQ{p:Nat}{y z:Nat×RV}{al:TA}(h:Ia p al=some y):Ia p (z::al)=some y:=by
 have:=Qq h;simp only[Ia]
 grind
theorem atP_app{p:Nat}{y:Nat×RV}{al:TA}(h:Ia p al=some y):∀(pre:TA),Ia p (pre++al)=some y:=by
 intro pre;induction pre with
 |nil=>exact h
 |cons z pre ih=>exact zQ ih
theorem YZ{t p:Nat}{x:RV}:∀{al:TA},iI t al=some (x,p)->Ia p al=some (t,x):=by
 intro al;induction al with
 |nil=>grind [iI]
 |cons y al ih=>
  intro h;obtain ⟨s,z⟩:=y;simp only[iI] at h;split at h
  ·rename_i hb;have:=dd hb;subst this;simp only[au,aU] at h;obtain ⟨rfl,rfl⟩:=h;simp only[Ia,if_true]
  grind [zQ]
def GW(al:TA)(Y:TH):RV->Prop
 |.v x=>GV Y x
 |.g c w p x=>(∃t,Ia p al=some (t,.v (.c (.b c))))/\(c=w->GV Y x)
theorem GW.mono{al:TA}{Y Y1:TH}(h:Ext Y Y1)(pre:TA){x:RV}(g:GW al Y x):GW (pre++al) Y1 x:=by
 cases x with
 |v x=>exact GV.mono h g
 |g c w p x=>exact ⟨let ⟨t,i⟩:=g.1;⟨t,atP_app i pre⟩,λe=>(g.2 e).mono h⟩
structure Ref (al:TA) (Y:TH) (alD:AL) (σD:ar):Prop where
 hh:RH Y σD
 rg:∀t x p,iI t al=some (x,p)->∃d,lk t alD=some d/\RR x d/\GW al Y x
def DA(al:TA)(kn:Kn):Prop:=∀p b,AN p kn=some b->∀t e,Ia p al=some (t,.v (.c (.b e)))->e=b
variable{P:Program}{n:Nat}{alD:AL}{Y Y1:TH}{σD σD1:ar}{al:TA}{kn:Kn}{S:sq}
def Ref.set{t:Nat}{x:RV}{d:D}(i:Ref al Y alD σD)(H:RH Y1 σD1)(j:Ext Y Y1)(A:RR x d)(E:GW ((t,x)::al) Y1 x):Ref ((t,x)::al) Y1 ((t,d)::alD) σD1:={
 hh:=H
 rg:=λs y p h=>by
  simp only[iI] at h;simp only[lk];split at h
  ·simp_all
  ·rename_i hb
   try rw[hb]
   obtain ⟨u,h1,h2,z⟩:=i.rg s y p h;exact ⟨u,h1,h2,z.mono j [(t,x)]⟩ }
def Ref.heap(i:Ref al Y alD σD)(H:RH Y1 σD1)(j:Ext Y Y1):Ref al Y1 alD σD1:={
 hh:=H
 rg:=λs y p h=>let ⟨u,h1,h2,h3⟩:=i.rg s y p h;⟨u,h1,h2,h3.mono j []⟩ }
def DA.cons{z:Nat×RV}(h:DA al kn)(i:∀p b,AN p kn=some b->p<al.length):DA (z::al) kn:=λp b hk t e j=>by
 refine h p b hk t e ?_;have:=i p b hk;simp only[Ia] at j
 grind
def QF(al:TA)(kn:Kn):Prop:=∀p b,AN p kn=some b->p<al.length
def QF.cons{z:Nat×RV}(h:QF al kn):QF (z::al) kn:=λp b hk=>by have:=h p b hk;grind
theorem DA.add{p:Nat}{b:Bool}(h:DA al kn)(hb:∀t e,Ia p al=some (t,.v (.c (.b e)))->e=b):DA al ((p,b)::kn):=λq c hk t e i=>by
 simp only[AN] at hk;split at hk
 ·grind [Nat.eq_of_beq_eq_true]
 ·exact h q c hk t e i
theorem QF.add{p:Nat}{b:Bool}(h:QF al kn)(hb:p<al.length):QF al ((p,b)::kn):=λq c hk=>by
 simp only[AN] at hk;split at hk
 ·simp_all
 ·exact h q c hk
def ofD_ok{d:D}(h:d.low 0=true):RT (HF d) d/\GV Y (HF d):=by
 unfold HF;split
 ·rename_i ds;exact ⟨⟨ds,rfl,aM.ds ds⟩,IC h⟩
 ·exact ⟨.inr rfl,D.eK (Qf _) h⟩
theorem mX(A:Ref al Y alD σD)(K:DA al kn){a:Option (Nat×Bool)}(L:∀q w,a=some (q,w)->∀t e,Ia q al=some (t,.v (.c (.b e)))->e=w):dD Y alD (Gc al kn a):=by
 intro x v h;cases x with
 |k d=>
  simp only[Gc] at h;split at h
  ·rename_i hl;simp only[au] at h;subst h;exact ⟨d,rfl,(ofD_ok (Y:=Y) hl).1,(ofD_ok hl).2⟩
  simp_all
 |t s=>
  simp only[Gc] at h;split at h
  ·rename_i y p l;simp only[au] at h;subst h;obtain ⟨d,u,j,z⟩:=A.rg s _ p l;exact ⟨d,u,j,z⟩
  ·rename_i c w p y q l;split at h
   ·rename_i f;simp only[au] at h;subst h;obtain ⟨d,u,j,z⟩:=A.rg s _ q l;obtain ⟨⟨t,E⟩,G⟩:=z;have i:c=w:=by
     unfold Vi at f;split at f
     ·rename_i b hb;have:=K p b hb t c E
      simp_all
     ·split at f
      ·rename_i M N;simp only[bG] at f;have O:=dd f.1
       grind
      simp_all
    simp only[RR,if_pos i] at j;exact ⟨d,u,j,G i⟩
   simp_all
  simp_all
theorem GB{t p:Nat}{x:RV}(a:Ref al Y alD σD)(h:iI t al=some (x,p)):∃d,lk t alD=some d/\RR x d:=let ⟨d,h1,h2,_⟩:=a.rg t x p h;⟨d,h1,h2⟩
theorem tGd_ok(E:Ref al Y alD σD)(K:DA al kn)(g:Option (Nat×Bool)):match tGd al kn g with
  |.Vi=>Gd alD g true
  |.shut=>Gd alD g false
  |.sym e p w=>(∃t,Ia p al=some (t,.v (.c (.b e))))/\(e=w->Gd alD g true)/\((!e)=w->Gd alD g false)
  |.spl e p=>∃t,Ia p al=some (t,.v (.c (.b e)))
  |.UQ t x=>∃d,lk t alD=some d/\RT x d/\GV Y x
  |.bad=>True:=by
 cases g with
 |none=>exact iq
 |some g=>
  obtain ⟨t,a⟩:=g;simp only[tGd];cases hl:iI t al with
  |none=>trivial
  |some q=>
   obtain ⟨x,p⟩:=q;obtain ⟨d,h,i⟩:=GB E hl;cases x with
   |g c w s y=>
    dsimp only;obtain ⟨U,O,u,⟨L,j⟩,T⟩:=E.rg t _ p hl;cases hk:AN s kn with
    |none=>simp_all
    |some b=>
     dsimp only;by_cases hb:(b == w)=true
     ·rw[if_pos hb];have z:c=w:=by rw[K s b hk L c j];simp_all
      simp only[RR,if_pos z] at u
      simp_all
     ·rw[if_neg hb];have:=K s b hk L c j;have A:¬c=w:=λe=>hb (by simp_all);simp only[RR,if_neg A] at i
      grind [Sm]
   |v y=>
    dsimp only;change RT y d at i;generalize f:gdB kn a p y=G;unfold gdB at f;split at f
    ·have:=RT.c1 (by simp) i;subst this;subst f;cases a
     ·exact PP h rfl
     ·exact gH h rfl
    ·have:=RT.c1 (by simp) i;subst this;subst f;cases a
     ·exact gH h rfl
     ·exact PP h rfl
    ·have:=RT.c1 (by simp) i;subst this;subst f;exact Sm h
    ·rename_i e;have:=RT.c1 (by simp) i;subst this;have l:=YZ hl;cases hk:AN p kn with
     |none=>
      rw[hk] at f;subst f;refine ⟨⟨t,l⟩,λM=>gH h M,λM=>PP h ?_⟩
      simp_all
     |some b=>
      rw[hk] at f;dsimp only at f;have hb:=K p b hk t e l;by_cases N:(b == a)=true
      ·rw[if_pos N] at f;subst f;exact gH h (by simp_all)
      ·rw[if_neg N] at f;subst f;refine PP h ?_
       try rw[hb]
       cases b <;> cases a <;> simp_all
    grind
def NY(a b:eC):Prop:=a.wr=b.wr/\a.dst=b.dst/\a.rds=b.rds/\a.lo=b.lo/\a.hi=b.hi/\(a.cat=0\/(a.cat=b.cat/\a.blk=b.blk))
theorem NY.refl(a:eC):NY a a:=⟨rfl,rfl,rfl,rfl,rfl,.inr ⟨rfl,rfl⟩⟩
theorem Ug{a b:eC}(h:NY a b){wr:List Nat}(hs:safe b wr=true):safe a wr=true:=by
 obtain ⟨_,_,_,_,_,h | ⟨e,f⟩⟩:=h
 ·simp[safe,h]
 grind [safe]
theorem DT{a b f i:eC}(h:NY a b)(j:NY f i)(hs:apart b i=true):apart a f=true:=by
 simp only[apart,bG] at hs ⊢;obtain ⟨⟨⟨⟨p,s⟩,u⟩,v,x⟩,y,z⟩:=hs;have e:=h;have l:=j;obtain ⟨A,E,G,K,L,_⟩:=e;obtain ⟨f1,M,N,O,T,_⟩:=l
 grind [Ug,outside]
def qR{b:List Nat}{as e:List eC}(h:aM NY as e)(f:eT b e=true):eT b as=true:=by
 simp only[eT,iK,yCd,gE] at f ⊢;intro j l i hi;rw[h.len] at l;rcases f j l i hi with p | p
 ·simp_all
 ·right;have get:∀q,q<e.length->NY (as.getD q default) (e.getD q default):=by
   intro q s;obtain ⟨a,u,v⟩:=h.get' q _ (dW s)
   simp_all
  grind [DT]
def Ul{b f:List Nat}{as e:List eC}(h:aM NY as e)(l:Ql b f e=true):Ql b f as=true:=by
 simp only[Ql,iK,yCd,gE] at l ⊢;intro j p i hi;rw[h.len] at p;rcases l j p i hi with s | s
 ·simp_all
 ·right;have get:∀q,q<e.length->NY (as.getD q default) (e.getD q default):=by
   intro q u;obtain ⟨a,v,x⟩:=h.get' q _ (dW u)
   simp_all
  grind [DT]
theorem cj.mono{orc:fA}{k:Nat}{os:List aH}{Q Q':AL->ar->List eC->Prop}(h:cj P orc k os n alD σD Q)(j:∀a s i,Q a s i->Q' a s i):cj P orc k os n alD σD Q':=by obtain ⟨a,s,i,u,x⟩:=h;exact ⟨a,s,i,u,j _ _ _ x⟩
theorem Wq(b:Ref al Y alD σD){o:kN}(h:okT al o=true):FU alD o=true:=by
 cases o with
 |load m x=>
  cases x with
  |k d=>rfl
  |t a=>grind [okT,Option.isSome_iff_exists,GB,FU,lx]
 |_=>rfl
variable{R:Type}
theorem X_{rd:aT->Option TV}{hint:Nat}{o:kN}{k:KO R}{r:R}(f:dD Y alD rd)(h:gI P S hint o rd Y k=some r):FU alD o=true/\ya alD o=blkT rd o:=by
 cases o with
 |load m x=>
  simp only[gI] at h;cases a:rd x with
  |none=>rw[a] at h;simp at h
  |some v=>
   obtain ⟨d,e,b,_⟩:=f x v a;refine ⟨by simp[FU,e],?_⟩;simp only[ya,blkT,e,a];cases v with
   |agg i=>obtain ⟨ds,rfl,_⟩:=b;rfl
   |aV i=>obtain ⟨ds,rfl,_⟩:=b;rfl
   |c y=>
    cases y with
    |any=>rw[a] at h;simp at h
    |d z=>have:=RT.c1 (by simp) b;subst this;cases d <;> rfl
    |_=>have:=RT.c1 (by simp) b;subst this;rfl
 |_=>exact ⟨rfl,rfl⟩
def aE(al:TA)(Y:TH)(K:KS R)(r:R)(e:AL)(f:ar)(h:List eC):Prop:=
 ∃a b i,Ref a b e f/\(∃pre,a=pre++al)/\Ext Y b/\aM NY h i/\K a b i=some r
def aE.cons{al al1:TA}{Y Y1:TH}{K:KS R}{r:R}{j:AL}{s u:ar}{x:List eC}{i G:eC}{pre:TA}(h:aE al1 Y1 (λz Y' E=>K z Y' (i::E)) r j s x)(Z:al1=pre++al)(H:RH Y u)(M:Ext Y Y1)(hi:NY G i) :
  aE al Y K r j s (G::x):=by
 obtain ⟨z,Y',E,O,⟨A,rfl⟩,U,W,X⟩:=h;exact ⟨_,Y',i::E,O,⟨A++pre,by simp_all⟩,Ext.trans H M U,.cons hi W,X⟩
def pk_ok{e:Bool}{u v:TV}{f h:BX}(j:UA u=some f)(l:UA v=some h){d:D}(r:RT (if e then u else v) d):d=B (pk e f h):=by
 have b:∀{w:TV}{i:BX},UA w=some i->RT w d->d=B i.val:=by
  intro w i a r;unfold UA at a;split at a
  ·simp only[au] at a;subst a;exact RT.c1 (by simp) r
  ·simp only[au] at a;subst a;exact RT.c1 (by simp) r
  ·simp only[au] at a;subst a;exact RT.c1 (by simp) r
  simp_all
 cases e
 ·have:=b l r;rw[this];cases f <;> cases h <;> simp[pk,BX.val]
 ·have:=b j r;rw[this];cases f <;> cases h <;> simp[pk,BX.val]
def Jm{Y:TH}(c:Bool)(x y:BX):RT (pkV c x y) (B (pk c x y))/\GV Y (pkV c x y):=by cases x <;> cases y <;> first | exact ⟨.inr rfl,True.intro⟩ | (cases c <;> exact ⟨.inr rfl,rfl⟩)
def tot_ok{o:kN}{rd:aT->Option TV}{v:TV}(a:dD Y alD rd)(H:RH Y σD)(b:xI o=true)(h:gI (R:=TV) P S 0 o rd Y (λv _ _ _=>some v)=some v) :
  ∃d,ff P (CW (Gx S)) n alD σD o d σD []/\RT v d/\GV Y v:=by
 obtain ⟨e,Y1,rs,wr,d,σD1,f,i,j,_,_,_,l,p⟩:=tOp_ok (n:=n) a H h
 grind
def sS:(cs:List CT)->qq cs->Option (Σ c:CT,dF c.items)
 |[],_=>none
 |[c],x=>some ⟨c,x⟩
 |c :: d :: cs, x => match x with
  |.inl a=>some ⟨c,a⟩
  |.inr b=>sS (d::cs) b
theorem XY{R:Type}{f:(c:CT)->dF c.items->Option R}{r:R}:∀{cs:List CT}{x:qq cs},altK cs x f=some r->∃c a,sS cs x=some ⟨c,a⟩/\f c a=some r:=by
 intro cs;induction cs with
 |nil=>grind
 |cons c cs ih=>
  intro x h;cases cs with
  |nil=>exact ⟨c,x,rfl,h⟩
  |cons d cs=>
   cases x with
   |inl a=>exact ⟨c,a,rfl,h⟩
   |inr b=>obtain ⟨e,i,j,l⟩:=ih (x:=b) h;exact ⟨e,i,j,l⟩
def ExOk(g:Hn):Prop:=∀(i:CT)(e:FuncId)(f:List TV)(Y:TH)(h:List TV)(aC:TH)(σD:ar)(ds:List D),g.exa i e f Y=some (h,aC)->RH Y σD->f_ f ds->(∀v∈f,GV Y v) ->
 aW g.P e=true/\∃r a,RH aC a/\RT (wC h) r/\GV aC (wC h)/\Ext Y aC/\Ok g.P e ds σD r a/\(∀b,b<σD.length->a[b]? = σD[b]?)
def Za(g:Hn):Prop:=∀(f:List CT)(h:FuncId)(i:List TV)(Y:TH)(y:qq f)(e:CT)(x:dF e.items)(j:List TV)(aC:TH)(σD:ar)(ds:List D),g.inl f h i Y=some y->sS f y=some ⟨e,x⟩->ma e Y x=some (j,aC)->RH Y σD->f_ i ds->(∀v∈i,GV Y v) ->
 aW g.P h=true/\∃r a,RH aC a/\RT (wC j) r/\GV aC (wC j)/\Ext Y aC/\Ok g.P h ds σD r a/\(∀b,b<σD.length->b∉e.pl.map PC.blk->a[b]? = σD[b]?)/\(e.pl.any PC.rs=false->kC σD a (e.pl.map PC.blk)=true)
structure Rv (g:Hn):Prop where
 one:Za g
 two:ExOk g
theorem OJ{b a:fA}:∀(os:List aH)(k:Nat)(e:List D)(Y:ar),(∀o∈os,b o.dst=a o.dst)->lL P b k os e Y=lL P a k os e Y:=by
 intro os;induction os with
 |nil=>intro k e Y _;rfl
 |cons o os ih=>grind [fo,lL]
def cj.congr{u j:fA}{k:Nat}{os:List aH}{Q:AL->ar->List eC->Prop}(h:∀o∈os,u o.dst=j o.dst)(t:cj P u k os n alD σD Q):cj P j k os n alD σD Q:=by
 obtain ⟨a,s,i,x,z⟩:=t;refine ⟨a,s,i,λe A=>?_,z⟩;obtain ⟨E,G,K⟩:=x e A
 grind [OJ]
theorem f_.VF{vs i:List TV}{ds es:List D}(h:f_ vs ds)(j:f_ i es):f_ (vs++i) (ds++es):=by
 induction h with
 |nil=>exact j
 |cons h _ ih=>exact .cons h ih
def ofD_rt(d:D):RT (HF d) d:=by
 unfold HF;split
 ·rename_i ds;exact ⟨ds,rfl,aM.ds ds⟩
 ·exact .inr rfl
theorem JR{d:D}(h:d.low Y.length=true):GV Y (HF d):=by
 unfold HF;split
 ·rename_i ds;intro x a;rw[iX] at a;obtain ⟨y,b,rfl⟩:=a;obtain ⟨i,hi⟩:=yBH b;exact D.a_ h i y hi
 ·exact h
theorem Dq:∀(ds:List D),f_ (ds.map HF) ds:=by
 intro ds;induction ds with
 |nil=>exact .nil
 |cons d ds ih=>exact .cons (ofD_rt d) ih
def Xv{v:TV}{d:D}{K:FuncId}{a b:List TV}(h:fnT v=some (K,a,b))(r:RT v d)(g:GV Y v):∃L M,f_ a L/\f_ b M/\(∀v∈a,GV Y v)/\(∀v∈b,GV Y v) /\
  ∀(orc:xg)(f:aT)(args:List aT)(ds:List D)(r:D)(σD1:ar)(w:List Nat),lx alD f=some d->Wi alD args=some ds->orc K (L++ds++M) σD=some (r,σD1,w)->ff P orc n alD σD (.call f args) r σD1 w:=by
 unfold fnT at h;split at h
 ·rename_i E x y;simp only[au,aU] at h;obtain ⟨rfl,rfl,rfl⟩:=h;have:=RT.c1 (by simp) r;subst this;refine ⟨x.map .c,y.map .c,?_,?_,λv j=>?_,λv j=>?_,λorc f args ds r σD1 w s u A=>Yt s u A⟩
  ·have:=Dq (x.map D.c);rw[UX] at this;exact this
  ·have:=Dq (y.map D.c);rw[UX] at this;exact this
  ·rw[iX] at j;obtain ⟨z,_,rfl⟩:=j;exact JR rfl
  ·rw[iX] at j;obtain ⟨z,_,rfl⟩:=j;exact JR rfl
 ·rename_i E x y;simp only[au,aU] at h;obtain ⟨rfl,rfl,rfl⟩:=h;have:=RT.c1 (by simp) r;subst this;have G:D.low.cW Y.length x=true/\D.low.cW Y.length y=true:=by
   have:(D.low Y.length (.fn (.func E) x y))=true:=g
   grind [D.low]
  refine ⟨x,y,Dq x,Dq y,λv j=>?_,λv j=>?_,λorc f args ds r σD1 w s u A=>Nf s u A⟩
  ·grind [List.getElem?_of_mem,JR,D.a_]
  grind [List.getElem?_of_mem,JR,D.a_]
 ·rename_i E p;simp only[au,aU] at h;obtain ⟨rfl,rfl,rfl⟩:=h;have:=RT.c1 (x:=.Gt _ _) (by simp) r;subst this;have G:p.all (CV.low Y.length)=true:=g;have O:aM RC (p.map cvT) (p.map CV.er):=by
   clear G g r;induction p with
   |nil=>exact .nil
   |cons x p ih=>exact .cons (.inr (by cases x <;> rfl)) ih
  refine ⟨[.agg (p.map CV.er)],[],.cons ⟨_,rfl,O⟩ .nil,.nil,λv j=>?_,λv j=>by grind,λorc f args ds r σD1 w s u A=>Nf s u A⟩;rw[zV] at j;subst j;intro y N;rw[iX] at N;obtain ⟨x,T,rfl⟩:=N;have:=iK.1 G x T;cases x with
  |d x=>exact this
  |b e=>exact True.intro
  |sl i l=>exact True.intro
 simp_all
def vE{g:Hn}{q:Nat}{os:List aH}(h:VD g q os=true):lB g q os=true:=by
 unfold VD at h;split at h
 ·rename_i a;have:∀o,iZ g q o=none:=λo=>by grind [iZ]
  clear h;induction os with
  |nil=>rfl
  |cons o os ih=>simp only[lB,this,ih,Qm];simp
 omega
def Cr(g:Hn)(q k:Nat)(os:List aH)(alD:AL)(σD:ar)(Q:AL->ar->List eC->Prop):Prop:=
 ∃a,lT g.P a/\(∀t,(∀o∈os,(iZ g q o).isSome=true->o.dst≠t)->a t=CW (Gx g.S))/\cj g.P a k os g.n alD σD Q
section
variable{g:Hn}{q k:Nat}{os:List aH}{alD:AL}{σD σD1:ar}{Q Q':AL->ar->List eC->Prop}{t:Nat}{ao:kN}{gd:Option (Nat×Bool)}{d:D}{w:List Nat}
theorem Cr.mono(h:Cr g q k os alD σD Q)(j:∀a s i,Q a s i->Q' a s i):Cr g q k os alD σD Q':=by obtain ⟨u,x,z,A⟩:=h;exact ⟨u,x,z,A.mono j⟩
theorem Bh{o:aH}(h:lB g q (o::os)=true):lB g q os=true:=by simp only[lB,bG] at h;exact h.2
theorem inlU_ne{o:aH}(h:lB g q (o::os)=true)(a:iZ g q o=none){t:Nat}(b:o.dst=some t):∀o'∈os,(iZ g q o').isSome=true->o'.dst≠some t:=by intro o' f hi e;simp only[lB,a,bG,hZ] at h;have:=h.1;rw[yCm] at this;have:=this o' f;simp[Su,b,e,hi] at this
theorem Yu{o:aH}{ct:List CT}(h:lB g q (o::os)=true)(a:iZ g q o=some ct){t:Nat}(b:o.dst=some t):∀o'∈os,o'.dst≠some t:=by intro o' f e;simp only[lB,a,bG,hZ] at h;have:=h.1;rw[yCm] at this;have:=this o' f;simp[Su,b,e] at this
theorem Cr.op(M:lB g q (⟨some t,ao,gd⟩::os)=true)(O:iZ g q ⟨some t,ao,gd⟩=none)(h:ff g.P (CW (Gx g.S)) g.n alD σD ao d σD1 w)(s:Gd alD gd true)(hs:(Nat.blt t g.n&&FU alD ao&&(k == 0 || kC σD σD1 w))=true)
  (r:Cr g q (k-1) os ((t,d)::alD) σD1 λi Y' u=>Q i Y' (DN ⟨some t,ao,gd⟩ (cat ao) (ya alD ao) w σD.length σD1.length::u)):Cr g q k (⟨some t,ao,gd⟩::os) alD σD Q:=by
 obtain ⟨x,z,A,E⟩:=r;refine ⟨x,z,λG j=>A G λo K=>j o (o_ _ K),cj.op ?_ s hs E⟩
 grind [inlU_ne]
theorem Cr.eff(h:ff g.P (CW (Gx g.S)) g.n alD σD ao d σD1 w)(s:Gd alD gd true)(hs:(FU alD ao&&(k == 0 || kC σD σD1 w))=true)
  (r:Cr g q (k-1) os alD σD1 λi Y' u=>Q i Y' (DN ⟨none,ao,gd⟩ (cat ao) (ya alD ao) w σD.length σD1.length::u)):Cr g q k (⟨none,ao,gd⟩::os) alD σD Q:=by
 obtain ⟨x,z,A,E⟩:=r;refine ⟨x,z,λG j=>A G λo K=>j o (o_ _ K),cj.eff (d:=d) ?_ s hs E⟩
 grind [iZ]
theorem Cr.no(s:Gd alD gd false)(hs:(Nat.blt t g.n&&FU alD ao)=true)
  (r:Cr g q (k-1) os ((t,.aV [])::alD) σD λi Y' u=>Q i Y' (DN ⟨some t,ao,gd⟩ 0 (ya alD ao) [] σD.length σD.length::u)):Cr g q k (⟨some t,ao,gd⟩::os) alD σD Q:=by
 obtain ⟨x,z,A,E⟩:=r;exact ⟨x,z,λG j=>A G λo K=>j o (o_ _ K),cj.no s hs E⟩
theorem Cr.inl{ct:List CT}{u:FuncId}{ds:List D}{wr:List Nat}(O:rV g.P (CW (Gx g.S)))(K:lB g q (⟨some t,ao,gd⟩::os)=true)(M:iZ g q ⟨some t,ao,gd⟩=some ct)(U:Gd alD gd true)
  (he:aW g.P u=true) (ok:Ok g.P u ds σD d σD1) (W:σD.length<=σD1.length) (X:∀b,b<σD.length->b∉wr->σD1[b]? = σD[b]?)
  (z:∀(orc:xg),orc u ds σD=some (d,σD1,wr)->ff g.P orc g.n alD σD ao d σD1 wr) (hs:(Nat.blt t g.n&&FU alD ao&&(k == 0 || kC σD σD1 wr))=true)
  (r:Cr g q (k-1) os ((t,d)::alD) σD1 λA Y' Z=>Q A Y' (DN ⟨some t,ao,gd⟩ (cat ao) (ya alD ao) wr σD.length σD1.length::Z)):Cr g q k (⟨some t,ao,gd⟩::os) alD σD Q:=by
 classical
 obtain ⟨x,h1,h2,h3⟩:=r
 let i:xg:=λG s Y'=>if G=u/\s=ds/\Y'=σD then some (d,σD1,wr) else none
 let E:fA:=λj=>if j=some t then i else x j
 refine ⟨E,λj=>?_,λj aa=>?_,cj.op (z _ ?_) U hs (h3.congr λo ho=>?_)⟩
 ·show rV g.P (if j=some t then i else x j);split
  ·intro G s Y' r aC ab h
   grind
  ·exact h1 j
 ·grind
 ·grind
 ·show x o.dst=if o.dst=some t then i else x o.dst;rw[if_neg (Yu K M rfl o ho)]
end
def tot_inl{g:Hn}{q:Nat}{t:Option Nat}{ao:kN}{gd:Option (Nat×Bool)}(h:xI ao=true):iZ g q ⟨t,ao,gd⟩=none:=by grind [iZ,xI]
theorem RH.eqD{Y:TH}{σD:ar}(H:RH Y σD):σD=Y.map TB.er:=by
 apply VW;intro b;rw[lS];cases hb:Y[b]? with
 |none=>grind [RH.len]
 |some blk=>obtain ⟨s,i,j⟩:=H.hp b blk hb;rw[i,j];rfl
theorem ZF{R:Type}{x y:TB}{k:Option R}{r:R}(h:Eg x y k=some r):k=some r/\x.er.sz=y.er.sz:=by
 cases x with
 |cells w p=>
  cases y with
  |cells v s=>
   simp only[Eg,BY] at h;split at h
   ·rename_i e;exact ⟨h,by simpa[TB.er,Ob.sz] using Nat.eq_of_beq_eq_true e⟩
   ·simp at h
  |_=>simp[Eg] at h
 |row i l a b=>
  cases y with
  |row j m c d=>
   simp only[Eg,BY] at h;split at h
   ·rename_i e;have:=dd e;subst this;split at h
    ·rename_i f;exact ⟨h,by simp only[TB.er,OB,Ob.sz,vR,ib (uU i),dd f]⟩
    ·simp at h
   ·simp at h
  |_=>simp[Eg] at h
 |mp j st l v=>
  cases y with
  |mp=>exact ⟨h,rfl⟩
  |_=>simp[Eg] at h
theorem Lw{R:Type}{Y Y1:TH}{k:Option R}{r:R}:∀{a:List Nat},Ry Y Y1 a k=some r->k=some r/\kC (Y.map TB.er) (Y1.map TB.er) a=true
 |[],h=>⟨h,rfl⟩
 |b :: a, h => by
  simp only[Ry] at h;split at h
  ·rename_i x y f i;obtain ⟨j,l⟩:=ZF h;obtain ⟨p,e⟩:=Lw j;refine ⟨p,?_⟩;unfold kC at e ⊢;rw[SW,e,lS,lS,f,i];simp[l]
  ·simp at h
theorem qM(g:Hn)(q:Nat)(O:rV g.P (CW (Gx g.S)))(hI:Rv g):∀(fu k:Nat)(os:List aH)(kn:Kn)(al:TA)(Y:TH)(K:KS R)(r:R)(alD:AL)(σD:ar),iA g q fu k os kn al Y K=some r->lB g q os=true->Ref al Y alD σD->DA al kn->QF al kn ->
  Cr g q k os alD σD (aE al Y K r):=by
 intro fu;induction fu with
 |zero=>grind [iA]
 |succ fu ih=>
  intro k os kn al Y K r alD σD h hU j Kn E;cases os with
  |nil=>simp only[iA] at h;exact ⟨λ_=>CW (Gx g.S),λ_=>O,λt _=>rfl,cj.nil ⟨al,Y,[],j,⟨[],rfl⟩,Ext.refl Y,.nil,h⟩⟩
  |cons o os=>
   simp only[iA] at h;have M:=Bh hU;split at h
   ·simp at h
   rename_i hn;obtain ⟨A,op,gd⟩:=o;have G:=tGd_ok j Kn gd;dsimp only at h hn;have W:∀(e:Bool)(p:Nat),(∃t,Ia p al=some (t,.v (.c (.b e))))->(if e=true then iA g q fu k (⟨A,op,gd⟩::os) ((p,true)::kn) al Y K else iA g q fu k (⟨A,op,gd⟩::os) ((p,false)::kn) al Y K)=some r ->
     Cr g q k (⟨A,op,gd⟩::os) alD σD (aE al Y K r):=by
    intro e p ⟨t,ht⟩ h;have add:∀b,e=b->DA al ((p,b)::kn):=λb hb=>Kn.add λt' e' ab=>by simp_all
    split at h
    ·rename_i L;exact ih _ _ _ _ _ _ _ _ _ h hU j (add true L) (E.add (Qq ht))
    ·rename_i L;exact ih _ _ _ _ _ _ _ _ _ h hU j (add false (by simp_all)) (E.add (Qq ht))
   cases hg:tGd al kn gd with
   |bad=>simp_all
   |spl e p=>rw[hg] at h G;exact W e p G h
   |UQ t x=>
    rw[hg] at h G;obtain ⟨d,l,z,N⟩:=G;have R1:Ref ((t,.v x)::al) Y alD σD:=⟨j.hh,λs y p hs=>by
     simp only[iI] at hs;split at hs
     ·rename_i hb;have:=dd hb;subst this;simp only[au,aU] at hs;obtain ⟨rfl,rfl⟩:=hs;exact ⟨d,l,z,N⟩
     ·obtain ⟨d',g1,g2,g3⟩:=j.rg s y p hs;exact ⟨d',g1,g2,g3.mono (Ext.refl Y) [(t,.v x)]⟩⟩
    refine (ih _ _ _ _ _ _ _ alD σD h hU R1 (Kn.cons E) E.cons).mono λa s i T=>?_;obtain ⟨ad,aa,is,a1,⟨pre,rfl⟩,a3,a4,a5⟩:=T;exact ⟨_,aa,is,a1,⟨pre++[(t,.v x)],by simp_all⟩,a3,a4,a5⟩
   |shut=>
    rw[hg] at h G;dsimp only at h G;cases A with
    |none=>simp at h
    |some t=>
     dsimp only at h hn;split at h
     ·simp at h
     rename_i be;change Nat.blt t g.n=true at hn;have ax:=Wq j be;refine Cr.no G (by simp_all) ?_;refine (ih _ _ _ _ _ _ _ ((t,.aV [])::alD) σD h M (j.set j.hh (Ext.refl Y) (.inr rfl) ?_) (Kn.cons E) E.cons).mono λa s i T=>?_
     ·show D.low _ _=true;rfl
     ·refine T.cons (pre:=[(t,.v (.c (.d (.aV []))))]) rfl j.hh (Ext.refl Y) ?_;rw[j.hh.len];exact ⟨rfl,rfl,rfl,rfl,rfl,.inl rfl⟩
   |sym e p w=>
    rw[hg] at h G;dsimp only at h G;obtain ⟨⟨t0,an⟩,G1,G2⟩:=G;split at h
    ·rename_i t af;change Nat.blt t g.n=true at hn;split at h
     ·rename_i v U;have bh:okT al op=true:=by
       cases op with
       |load m x=>
        cases x with
        |k d=>rfl
        |t a=>
         simp only[okT];simp only[gI] at U
         grind [Gc]
       |_=>rfl
      have ax:=Wq j bh;by_cases L:e=w
      ·have hr:dD Y alD (Gc al kn (some (p,w))):=mX j Kn λq w' e' t e2 z=>by
        simp_all
       obtain ⟨d,l,z,N⟩:=tot_ok (n:=g.n) hr j.hh af U;obtain ⟨b1,b2⟩:=X_ hr U;refine Cr.op hU (tot_inl af) l (G1 L) (by grind [kC]) ?_;refine (ih _ _ _ _ _ _ _ ((t,d)::alD) σD h M (j.set j.hh (Ext.refl Y) (by simp only[RR,if_pos L];exact z) ⟨⟨t0,zQ an⟩,λ_=>N⟩) (Kn.cons E) E.cons).mono λa s i T=>?_;refine T.cons (pre:=[(t,.g e w p v)]) rfl j.hh (Ext.refl Y) ?_;rw[j.hh.len,b2];exact NY.refl _
      ·have bi:(!e)=w:=by cases e <;> cases w <;> simp_all
       refine Cr.no (G2 bi) (by simp_all) ?_;refine (ih _ _ _ _ _ _ _ ((t,.aV [])::alD) σD h M (j.set j.hh (Ext.refl Y) (by simp only[RR,if_neg L]) ⟨⟨t0,zQ an⟩,λe'=>absurd e' L⟩) (Kn.cons E) E.cons).mono λa s i T=>?_;refine T.cons (pre:=[(t,.g e w p v)]) rfl j.hh (Ext.refl Y) ?_;rw[j.hh.len];exact ⟨rfl,rfl,rfl,rfl,rfl,.inl rfl⟩
     simp_all
    ·exact W e p ⟨t0,an⟩ h
   |Vi=>
    rw[hg] at h G;dsimp only at h G;cases Z:iZ g q ⟨A,op,gd⟩ with
    |some cs=>
     rw[Z] at h;dsimp only at h;have hr:dD Y alD (Gc al kn none):=mX j Kn (by simp);cases op with
     |call f args=>
      dsimp only at h;split at h
      ·rename_i fv vs a0 a2;split at h
       ·rename_i gi a b a6;split at h
        ·rename_i ct bl;obtain ⟨⟨rv,Y1⟩,hy,h⟩:=AP h;obtain ⟨df,f1,f2,f3⟩:=hr _ _ a0;obtain ⟨ds,v1,v2,v3⟩:=hr.all a2;obtain ⟨da,db,a1,b1,ga,gb,av⟩:=Xv (P:=g.P) (n:=g.n) (alD:=alD) (σD:=σD) a6 f2 f3;obtain ⟨L,r',X,q1,q2,q3,q4,q5,q6⟩:=hI.two ct gi _ Y rv Y1 σD _ hy j.hh ((a1.VF v2).VF b1) (λv U=>by
           grind)
         cases A with
         |none=>grind [iZ]
         |some t=>change Nat.blt t g.n=true at hn;refine Cr.inl (wr:=[]) O hU Z G L q5 (by grind) (λb hb _=>q6 b hb) (λorc ho=>av orc _ _ _ _ _ _ f1 v1 ho) (by grind [FU,kC]) ?_;refine (ih _ _ _ _ _ _ _ ((t,r')::alD) X h M (j.set q1 q4 q2 q3) (Kn.cons E) E.cons).mono λa s i T=>?_;refine T.cons (pre:=[(t,.v (wC rv))]) rfl j.hh q4 ?_;rw[j.hh.len,q1.len];exact NY.refl _
        obtain ⟨y,hy,h⟩:=AP h;obtain ⟨ct,x,a7,h⟩:=XY h;split at h
        ·rename_i rv Y1 a8;obtain ⟨df,f1,f2,f3⟩:=hr _ _ a0;obtain ⟨ds,v1,v2,v3⟩:=hr.all a2;obtain ⟨da,db,a1,b1,ga,gb,av⟩:=Xv (P:=g.P) (n:=g.n) (alD:=alD) (σD:=σD) a6 f2 f3;obtain ⟨L,r',X,q1,q2,q3,q4,q5,q6,q7⟩:=hI.one _ gi _ Y y ct x rv Y1 σD _ hy a7 a8 j.hh ((a1.VF v2).VF b1) (λv U=>by
           grind)
         have h':(k == 0 || kC σD X (ct.pl.map PC.blk))=true/\iA g q fu (k-1) os kn (Yj A (.v (wC rv)) al) Y1 (λad aa is=>K ad aa (DN ⟨A,.call f args,gd⟩ (cat (.call f args)) none (ct.pl.map PC.blk) Y.length Y1.length::is))=some r:=by
          split at h
          ·rename_i hk;refine ⟨?_,h⟩;simp only[gE] at hk ⊢
           grind [Nat.eq_of_beq_eq_true]
          ·obtain ⟨l,z⟩:=Lw h;rw[j.hh.eqD,q1.eqD];exact ⟨by rw[z,Bool.or_true],l⟩
         obtain ⟨a9,h⟩:=h';cases A with
         |none=>grind [iZ]
         |some t=>change Nat.blt t g.n=true at hn;refine Cr.inl O hU Z G L q5 (by rw[j.hh.len,q1.len];exact q4.len) q6 (λorc ho=>av orc _ _ _ _ _ _ f1 v1 ho) (by rw[hn,a9];rfl) ?_;refine (ih _ _ _ _ _ _ _ ((t,r')::alD) X h M (j.set q1 q4 q2 q3) (Kn.cons E) E.cons).mono λa s i T=>?_;refine T.cons (pre:=[(t,.v (wC rv))]) rfl j.hh q4 ?_;rw[j.hh.len,q1.len];exact NY.refl _
        simp_all
       simp_all
      simp_all
     |_=>simp at h
    |none=>
    rw[Z] at h;dsimp only at h;split at h
    ·
     rename_i c x y t;change Nat.blt t g.n=true at hn;split at h
     ·rename_i cv p hc;have bk:=YZ hc;obtain ⟨dc,c1,c2,_⟩:=j.rg c _ p hc;change RT cv dc at c2;have fin:∀(v:TV)(d:D),ff g.P (CW (Gx g.S)) g.n alD σD (.pick (.t c) x y) d σD []->RT v d->GV Y v->(iA g q fu (k-1) os kn ((t,.v v)::al) Y λad aa is=>K ad aa (DN ⟨some t,.pick (.t c) x y,gd⟩ (cat (.pick (.t c) x y)) none [] Y.length Y.length::is))=some r ->
        Cr g q k (⟨some t,.pick (.t c) x y,gd⟩::os) alD σD (aE al Y K r):=by
       intro v d l z N h;refine Cr.op hU Z l G (by grind [FU,kC]) ?_;refine (ih _ _ _ _ _ _ _ ((t,d)::alD) σD h M (j.set j.hh (Ext.refl Y) z N) (Kn.cons E) E.cons).mono λa s i T=>?_;refine T.cons (pre:=[(t,.v v)]) rfl j.hh (Ext.refl Y) ?_;rw[j.hh.len];exact NY.refl _
      generalize hG:gdC kn p cv=GG at h;unfold gdC at hG;split at hG
      ·
       have:=RT.c1 (by simp) c2;subst this;subst hG;dsimp only at h;split at h
       ·rename_i v U;obtain ⟨d,l,z,N⟩:=mX j (Kn.add (p:=p) (b:=true) λt' e' ab=>by simp_all) (by simp) x v U;exact fin v d (vh c1 rfl l) z N h
       simp_all
      ·have:=RT.c1 (by simp) c2;subst this;subst hG;dsimp only at h;split at h
       ·rename_i v U;obtain ⟨d,l,z,N⟩:=mX j (Kn.add (p:=p) (b:=false) λt' e' ab=>by simp_all) (by simp) y v U;exact fin v d (qc c1 rfl l) z N h
       simp_all
      ·rename_i _ e _;have:=RT.c1 (by simp) c2;subst this;cases hk:AN p kn with
       |some b=>
        have hb:=Kn p b hk c e bk;have ak:DA al ((p,b)::kn):=Kn.add λt' e' ab=>by simp_all
        cases b with
        |true=>
         rw[hk] at hG;subst hG;dsimp only at h;split at h
         ·rename_i v U;obtain ⟨d,l,z,N⟩:=mX j ak (by simp) x v U;exact fin v d (vh c1 hb l) z N h
         simp_all
        |false=>
         rw[hk] at hG;subst hG;dsimp only at h;split at h
         ·rename_i v U;obtain ⟨d,l,z,N⟩:=mX j ak (by simp) y v U;exact fin v d (qc c1 hb l) z N h
         simp_all
       |none=>
        rw[hk] at hG;subst hG;dsimp only at h;split at h
        ·rename_i u v hu U;split at h
         ·rename_i bu bv bb bc;have bd:∀w,e=w->∀q w',some (p,w)=some (q,w')->∀t' e',Ia q al=some (t',.v (.c (.b e')))->e'=w':=λw hw q w' e1 t' e' ab=>by
           simp_all
          cases L:e with
          |true=>obtain ⟨d,l,z,N⟩:=mX j Kn (bd true L) x u hu;have hd:=pk_ok (e:=true) bb bc z;subst hd;rw[L] at h;exact fin (pkV true bu bv) _ (vh c1 L l) (Jm (Y:=Y) _ _ _).1 (Jm _ _ _).2 h
          |false=>obtain ⟨d,l,z,N⟩:=mX j Kn (bd false L) y v U;have hd:=pk_ok (e:=false) bb bc z;subst hd;rw[L] at h;exact fin (pkV false bu bv) _ (qc c1 L l) (Jm (Y:=Y) _ _ _).1 (Jm _ _ _).2 h
         simp_all
        simp_all
      grind
     simp_all
    ·
     have hr:dD Y alD (Gc al kn none):=mX j Kn (by simp);obtain ⟨v,Y1,rs,wr,d,σD1,l,z,N,h4,h5,h6,_,h7⟩:=tOp_ok (n:=g.n) hr j.hh h;obtain ⟨b1,b2⟩:=X_ hr h;dsimp only at h7;split at h7
     ·rename_i hk;have a9:(k == 0 || kC σD σD1 wr)=true:=by
       simp only[gE] at hk ⊢
       grind [Nat.eq_of_beq_eq_true]
      cases A with
      |none=>refine Cr.eff l G (by simp_all) ?_;refine (ih _ _ _ _ _ _ _ alD σD1 h7 M (j.heap h4 h5) Kn E).mono λa s i T=>?_;refine T.cons (pre:=[]) rfl j.hh h5 ?_;rw[j.hh.len,h4.len,b2];exact NY.refl _
      |some t=>change Nat.blt t g.n=true at hn;refine Cr.op hU Z l G (by simp_all) ?_;refine (ih _ _ _ _ _ _ _ ((t,d)::alD) σD1 h7 M (j.set h4 h5 z N) (Kn.cons E) E.cons).mono λa s i T=>?_;refine T.cons (pre:=[(t,.v v)]) rfl j.hh h5 ?_;rw[j.hh.len,h4.len,b2];exact NY.refl _
     simp_all
end
end Go.Abs
end
section
namespace Go.Abs
noncomputable section
variable[Gl][σ:Ty]
structure Rn (m:Nat) (Y1 aC:ar) (ρ:Nat->Nat) (F:Nat->Prop):Prop where
 le:m<=aC.length
 id:∀i,i<m->ρ i=i
 inj:∀i j,i<aC.length->j<aC.length->ρ i=ρ j->i=j
 fr:∀i,i<aC.length->¬F (ρ i)
 row:∀b,F b->∃(i:Nat)(l:List (TT i)),Y1[b]? = some (OB (enc i) l)
 sz:∀(i:Nat),i<aC.length->∃ob1 ob2,Y1[ρ i]? = some ob1/\aC[i]? = some ob2/\ob2.sz=ob1.sz
def mN(n:Nat)(ρ:Nat->Nat)(M:Nat->Option Nat):Nat->Option Nat:=λi=>if i<n then M (ρ i) else none
def fzN(F:Nat->Prop)(M:Nat->Option Nat)(Fz:Nat->Prop):Nat->Prop:=λc=>Fz c\/∃b,F b/\M b=some c
def dv(Y1 aC:ar)(ρ:Nat->Nat)(F:Nat->Prop)(d1 d2:D):Prop:=∀(M:Nat->Option Nat)(a:Nat->Prop)(w:World)(v:Value),Rel Y1 M a w->V Y1 M a w d1 v->V aC (mN aC.length ρ M) (fzN F M a) w d2 v
section
variable{m:Nat}{Y1 aC:ar}{ρ:Nat->Nat}{F:Nat->Prop}
def VC.fzN{M:Nat->Option Nat}{Fz:Nat->Prop}{w:World}{x:C}{v:Value}(h:VC Fz w x v):VC (Go.Abs.fzN F M Fz) w x v:=h.mono λc i=>⟨.inl i,rfl⟩
def dv.any(d:D):dv Y1 aC ρ F d .any:=λ_ _ _ _ _ _=>.any _
theorem dv.le{d1 d2 i:D}(h:Ej d1 d2)(j:dv Y1 aC ρ F d2 i):dv Y1 aC ρ F d1 i:=λM s w v R u=>j M s w v R (h _ _ _ _ _ u)
theorem dv.low(N:Rn m Y1 aC ρ F){d:D}(hl:d.low m=true):dv Y1 aC ρ F d d:=by
 intro M Fz w v R h;have cN:∀b,b<m->∀x,Y1[b]? = some x->∃j,aC[b]? = some j/\j.sz=x.sz:=λb hb x X=>by
  obtain ⟨Z,j,u,s,E⟩:=N.sz b (FG hb N.le);rw[N.id b hb,X] at u
  simp_all
 have m2:∀b,b<m->mN aC.length ρ M b=M b:=λb hb=>by unfold mN;rw[if_pos (FG hb N.le),N.id b hb]
 induction h with
 |c h=>exact .c h.fzN
 |any v=>exact .any v
 |ptr a x h G z=>simp only[D.low,bz] at hl;obtain ⟨j,s,E⟩:=cN _ hl _ h;exact .ptr a j s (by omega) (λW=>by simp_all)
 |sl a n cap K x h G z=>simp only[D.low,bz] at hl;obtain ⟨j,s,E⟩:=cN _ hl _ h;exact .sl a n cap K j s (by omega) (λW=>by simp_all)
 |mp c x h z=>simp only[D.low,bz] at hl;obtain ⟨j,s,E⟩:=cN _ hl _ h;exact .mp c j s (λW=>by simp_all)
 |fn A ws u s z hw O U=>simp only[D.low,bG] at hl;exact .fn A ws u s (λi d v a b=>O i d v a b (D.a_ hl.1 i d a)) (λi d v a b=>U i d v a b (D.a_ hl.2 i d a))
 |agg A u z ih=>simp only[D.low] at hl;exact .agg A u (λi d v a b=>ih i d v a b (D.a_ hl i d a))
 |aV A u z ih=>simp only[D.low] at hl;exact .aV A u (λi d v a b=>ih i d v a b (D.a_ hl i d a))
theorem dv.data(N:Rn m Y1 aC ρ F){d:D}(hl:d.low 0=true):dv Y1 aC ρ F d d:=dv.low N (D.eK (Qf _) hl)
theorem dv.ptr(N:Rn m Y1 aC ρ F){i off sz:Nat}(hi:i<aC.length):dv Y1 aC ρ F (.ptr (ρ i) off sz) (.ptr i off sz):=λM G w v R h=>by
 obtain ⟨s,j,u,x,z⟩:=N.sz i hi;cases h with
 |ptr a K h A O=>rw[u] at h;simp only[au] at h;subst h;exact .ptr a j x (by omega) (λE=>by rw[z] at E;unfold mN;simp_all)
theorem dv.sl(N:Rn m Y1 aC ρ F){i off len es sz:Nat}(hi:i<aC.length):dv Y1 aC ρ F (.sl (ρ i) off len es sz) (.sl i off len es sz):=λM K w v R h=>by
 obtain ⟨u,j,x,z,A⟩:=N.sz i hi;cases h with
 |sl a n cap s O h E U=>rw[x] at h;simp only[au] at h;subst h;exact .sl a n cap s j z (by omega) (λG=>by rw[A] at G;unfold mN;simp_all)
theorem dv.mp(N:Rn m Y1 aC ρ F){i:Nat}(hi:i<aC.length):dv Y1 aC ρ F (.mp (ρ i)) (.mp i):=λM E w v R h=>by
 obtain ⟨s,j,u,x,z⟩:=N.sz i hi;cases h with
 |mp c G h K=>rw[u] at h;simp only[au] at h;subst h;exact .mp c j x (λA=>by rw[z] at A;unfold mN;simp_all)
def dv.cJ(N:Rn m Y1 aC ρ F){b i:Nat}{l:List (TT i)}(hF:F b)(hb:Y1[b]? = some (OB (enc i) l)):dv Y1 aC ρ F (OS (aB i) b l.length) (.c (.cJ false (l.map (enc i)))):=λM U w v R h=>by
 classical
 let G:Nat->Option Nat:=λb=>if F b then M b else none
 have RF:Rel Y1 G U w:=by
  refine ⟨λb c s=>?_,λb W c s u=>?_,R.fz,R.gl⟩
  ·simp only[G] at s;split at s
   ·rename_i X;obtain ⟨K,Z,o,E,h3,h4⟩:=R.blk b c s;refine ⟨K,Z,o,E,h3,?_⟩;obtain ⟨i',l',h5⟩:=N.row b X;rw[E] at h5;simp only[au] at h5;subst h5;obtain ⟨z,T,ho,A,O⟩:=h4;refine ⟨z,T,ho,A,λj d v a b=>?_⟩;obtain ⟨h6,h7⟩:=O j d v a b;rw[lS,cC] at a;obtain ⟨x,_,rfl⟩:=a;cases h6 with
    |c h6=>exact ⟨.c h6,h7⟩
   simp_all
  ·simp only[G] at s u;split at s
   ·split at u
    ·exact R.inj b W c s u
    simp_all
   simp_all
 have O:V Y1 G U w (OS (aB i) b l.length) v:=by
  cases h with
  |sl a n cap aa Z h A O=>
   refine .sl a n cap aa Z h A λhe=>?_;rcases O he with K | ⟨c,o,z,T,K,E⟩
   ·simp_all
   ·exact .inr ⟨c,o,z,T,by grind,E⟩
 have K:=DE (k:=98) (n:=l.length) (uU i) (σ.ps i) hb rfl;have E:=Ku RF 100 _ _ v K O;have h3:VC (fzN F M U) w (.cJ (Nat.blt 0 l.length) (l.map (enc i))) v:=E.mono λc s=>by
  refine ⟨?_,rfl⟩;rcases s with s | ⟨W,_,s⟩
  ·exact .inl s
  ·simp only[G] at s;split at s
   ·rename_i hf;exact .inr ⟨W,hf,s⟩
   simp_all
 have:=JM h3;exact .c this
theorem dv.fn1{f:Fn}{d e:D}(h:dv Y1 aC ρ F d e):dv Y1 aC ρ F (.fn f [] [d]) (.fn f [] [e]):=λM u w v R s=>by
 cases s with
 |fn x z A E s G=>
  refine .fn x z A (by simpa using E) (λi d v j=>by simp at j) (λi K v j s=>?_);cases i with
  |zero=>simp only[xF,au] at j;subst j;exact h M u w v R (G 0 _ v rfl s)
  |succ i=>simp at j
theorem dv.agg{ds es:List D}(h:aM (dv Y1 aC ρ F) ds es):dv Y1 aC ρ F (.agg ds) (.agg es):=λM s w v R j=>by
 cases j with
 |agg u x j=>refine .agg u (by rw[x,h.len]) λi d v a b=>?_;obtain ⟨z,A,E⟩:=h.get' i d a;exact E M s w v R (j i z v A b)
theorem dv.aV{ds es:List D}(h:aM (dv Y1 aC ρ F) ds es):dv Y1 aC ρ F (.aV ds) (.aV es):=λM s w v R j=>by
 cases j with
 |aV u x j=>refine .aV u (by rw[x,h.len]) λi d v a b=>?_;obtain ⟨z,A,E⟩:=h.get' i d a;exact E M s w v R (j i z v A b)
def ObR(Y1 aC:ar)(ρ:Nat->Nat)(F:Nat->Prop):Ob->Ob->Prop
 |.cells ds,ob=>∃a,ob=.cells a/\aM (dv Y1 aC ρ F) ds a
 |.map a k,ob=>ob=.map a k/\(a.all λe=>e.2.1.low 0)=true
 |.gone k,ob=>False
structure SJ (m:Nat) (Y1 aC:ar) (ρ:Nat->Nat) (F:Nat->Prop):Prop extends Rn m Y1 aC ρ F where
 ob:∀(i:Nat),i<aC.length->∃ob1 ob2,Y1[ρ i]? = some ob1/\aC[i]? = some ob2/\ObR Y1 aC ρ F ob1 ob2
def SJ.rel(N:SJ m Y1 aC ρ F){M:Nat->Option Nat}{Fz:Nat->Prop}{w:World}(R:Rel Y1 M Fz w):Rel aC (mN aC.length ρ M) (fzN F M Fz) w:=by
 refine ⟨λb c hb=>?_,λb b' c hb j=>?_,λc s=>?_,Gl.mono (λc h=>⟨.inl h,rfl⟩) R.gl⟩
 ·unfold mN at hb;split at hb
  ·rename_i z;obtain ⟨h1,ob,o,G,h3,h4⟩:=R.blk _ c hb;obtain ⟨ad,K,O,h6,U⟩:=N.ob b z;rw[G] at O;simp only[au] at O;subst O;refine ⟨λA=>?_,K,o,h6,h3,?_⟩
   ·rcases A with A | ⟨b',A,s⟩
    ·simp_all
    ·rw[R.inj _ _ c s hb] at A;exact N.fr b z A
   ·cases ob with
    |cells cs=>obtain ⟨u,T,W,E,X⟩:=h4;obtain ⟨es,rfl,ha⟩:=U;refine ⟨u,T,W,by grind [aM.len],λi d v x y=>?_⟩;obtain ⟨d1,h8,h9⟩:=ha.get' i d x;obtain ⟨Z,aa⟩:=X i d1 v h8 y;exact ⟨h9 M Fz w v R Z,aa⟩
    |map es ab=>obtain ⟨u,W,E,X⟩:=h4;obtain ⟨rfl,hl⟩:=U;refine ⟨u,W,E,λi k d n e x y=>?_⟩;obtain ⟨p,q,r⟩:=X i k d n e x y;rw[iK] at hl;exact ⟨p,q,dv.data N.toRn (hl (k,d,n) (Av x)) M Fz w _ R r⟩
    |gone n=>exact U.elim
  simp_all
 ·unfold mN at hb j;split at hb
  ·rename_i h1;split at j
   ·rename_i G;exact N.inj b b' h1 G (R.inj _ _ c hb j)
   simp_all
  simp_all
 ·rcases s with s | ⟨b,_,s⟩
  ·exact R.fz c s
  ·exact (R.lt s).2
def SJ.evo(N:SJ m Y1 aC ρ F){Y:ar}(hm:Y.length<=m){M s:Nat->Option Nat}{Fz j:Nat->Prop}{w u:World}(X:∀b,F b->m<=b)(R:Rel Y M Fz w)(Z:Rel Y1 s j u)(E:bF Y M Fz w Y1 s j u) :
  bF Y M Fz w aC (mN aC.length ρ s) (fzN F s j) u:=by
 refine ⟨E.size,E.frame,λb c h=>?_,λc h=>⟨.inl (E.fz c h).1,(E.fz c h).2⟩,λc h=>?_,E.qe,λb A hb=>?_,E.out⟩
 ·unfold mN at h;split at h
  ·exact E.lP _ c h
  simp_all
 ·rcases h with h | ⟨b,_,h⟩
  ·exact E.nF c h
  ·rcases E.lP b c h with G | G
   ·simp_all
   omega
 ·obtain ⟨K,O,h2,h3⟩:=E.keep b A hb;have i:b<m:=FG (fq.1 hb).1 hm;obtain ⟨U,x,z,W,h6⟩:=N.sz b (FG i N.le);rw[N.id b i,O] at z;simp only[au] at z;subst z;refine ⟨x,W,by omega,λhe=>?_⟩;unfold mN;rw[if_pos (FG i N.le),N.id b i]
  simp_all
end
def SzC(m:Nat)(Y1 aC:ar):Prop:=∀b,b<m->∀e,Y1[b]? = some e->∃a,aC[b]? = some a/\a.sz=e.sz
def jQ(m:Nat)(d1 d2:D):Prop:=∀(Y1 aC:ar)(M:Nat->Option Nat)(a:Nat->Prop)(w:World)(v:Value),SzC m Y1 aC->V Y1 M a w d1 v->V aC (cZ M m) a w d2 v
def jQ.any(m:Nat)(d:D):jQ m d .any:=λ_ _ _ _ _ _ _ _=>.any _
theorem jQ.low{m:Nat}{d:D}(hl:d.low m=true):jQ m d d:=by
 intro Y1 aC M Z w v hs h;induction h with
 |c h=>exact .c h
 |any v=>exact .any v
 |ptr a W h E u=>simp only[D.low,bz] at hl;obtain ⟨j,s,G⟩:=hs _ hl _ h;exact .ptr a j s (by omega) (λA=>by grind [cZ])
 |sl a n cap K W h E u=>simp only[D.low,bz] at hl;obtain ⟨j,s,G⟩:=hs _ hl _ h;exact .sl a n cap K j s (by omega) (λA=>by rw[G] at A;simpa[cZ,hl] using u A)
 |mp c W h u=>simp only[D.low,bz] at hl;obtain ⟨j,s,G⟩:=hs _ hl _ h;exact .mp c j s (λA=>by grind [cZ])
 |fn x X z s u hw O U=>simp only[D.low,bG] at hl;exact .fn x X z s (λi d v a b=>O i d v a b (D.a_ hl.1 i d a)) (λi d v a b=>U i d v a b (D.a_ hl.2 i d a))
 |agg x z u ih=>simp only[D.low] at hl;exact .agg x z (λi d v a b=>ih i d v a b (D.a_ hl i d a))
 |aV x z u ih=>simp only[D.low] at hl;exact .aV x z (λi d v a b=>ih i d v a b (D.a_ hl i d a))
theorem jQ.le{m:Nat}{d1 d2 i:D}(h:Ej d1 d2)(s:jQ m d2 i):jQ m d1 i:=λY1 aC M j w v hs u=>s Y1 aC M j w v hs (h Y1 M j w v u)
theorem jQ.agg{m:Nat}{ds es:List D}(h:aM (jQ m) ds es):jQ m (.agg ds) (.agg es):=λY1 aC M s w v hs j=>by
 cases j with
 |agg u x j=>refine .agg u (by rw[x,h.len]) λi d v a b=>?_;obtain ⟨z,A,E⟩:=h.get' i d a;exact E Y1 aC M s w v hs (j i z v A b)
theorem jQ.aV{m:Nat}{ds es:List D}(h:aM (jQ m) ds es):jQ m (.aV ds) (.aV es):=λY1 aC M s w v hs j=>by
 cases j with
 |aV u x j=>refine .aV u (by rw[x,h.len]) λi d v a b=>?_;obtain ⟨z,A,E⟩:=h.get' i d a;exact E Y1 aC M s w v hs (j i z v A b)
def ObW(m:Nat):Ob->Ob->Prop
 |.cells ds,ob=>∃a,ob=.cells a/\aM (jQ m) ds a
 |.map a k,ob=>ob=.map a k/\(a.all λe=>e.2.1.low m)=true
 |.gone k,ob=>ob=.gone k
theorem ObW.sz{m:Nat}{a b:Ob}(h:ObW m a b):b.sz=a.sz:=by
 cases a with
 |cells ds=>obtain ⟨i,rfl,h⟩:=h;simp only[Ob.sz,h.len]
 |map i k=>obtain ⟨rfl,_⟩:=h;rfl
 |gone k=>cases h;rfl
structure HpW (m:Nat) (Y1 aC:ar):Prop where
 len:aC.length=m
 le:m<=Y1.length
 ob:∀b ob,Y1[b]? = some ob->b<m->∃ob2,aC[b]? = some ob2/\ObW m ob ob2
def HpW.szc{m:Nat}{Y1 aC:ar}(h:HpW m Y1 aC):SzC m Y1 aC:=λb hb j s=>let ⟨i,h1,h2⟩:=h.ob b j s hb;⟨i,h1,h2.sz⟩
def HpW.rel{m:Nat}{Y1 aC:ar}(h:HpW m Y1 aC){M:Nat->Option Nat}{Fz:Nat->Prop}{w:World}(R:Rel Y1 M Fz w):Rel aC (cZ M m) Fz w:=by
 refine ⟨λb c hb=>?_,λb Z c hb j=>?_,R.fz,R.gl⟩
 ·unfold cZ at hb;split at hb
  ·rename_i z;obtain ⟨h1,W,o,h2,h3,A⟩:=R.blk b c hb;obtain ⟨E,h5,X⟩:=h.ob b W h2 z;refine ⟨h1,E,o,h5,h3,?_⟩;cases W with
   |cells cs=>obtain ⟨s,T,G,u,K⟩:=A;obtain ⟨es,rfl,ha⟩:=X;refine ⟨s,T,G,by grind [aM.len],λi d v x y=>?_⟩;obtain ⟨d1,h7,h8⟩:=ha.get' i d x;obtain ⟨h9,O⟩:=K i d1 v h7 y;exact ⟨h8 Y1 aC M Fz w v h.szc h9,O⟩
   |map es U=>obtain ⟨s,G,u,K⟩:=A;obtain ⟨rfl,hl⟩:=X;refine ⟨s,G,u,λi k d n e x y=>?_⟩;obtain ⟨p,q,r⟩:=K i k d n e x y;rw[iK] at hl;exact ⟨p,q,jQ.low (hl (k,d,n) (Av x)) Y1 aC M Fz w _ h.szc r⟩
   |gone n=>exact A.elim
  simp_all
 ·unfold cZ at hb j;split at hb
  ·split at j
   ·exact R.inj b Z c hb j
   simp_all
  simp_all
def HpW.evo{m:Nat}{Y1 aC Y:ar}(h:HpW m Y1 aC){M x:Nat->Option Nat}{Fz i:Nat->Prop}{w z:World}(E:bF Y M Fz w Y1 x i z)(hm:Y.length<=m):bF Y M Fz w aC (cZ x m) i z:=by
 refine ⟨E.size,E.frame,λb c h=>?_,E.fz,E.nF,E.qe,λb A hb=>?_,E.out⟩
 ·unfold cZ at h;split at h
  ·exact E.lP b c h
  simp_all
 ·obtain ⟨s,G,O,U⟩:=E.keep b A hb;have j:b<m:=FG (fq.1 hb).1 hm;obtain ⟨u,K,W⟩:=h.ob b s G j;exact ⟨u,K,by grind [ObW.sz],λX=>by simp only[cZ,if_pos j];grind [ObW.sz]⟩
structure StW0 (m:Nat) (al1:AL) (Y1:ar) (al2:AL) (aC:ar):Prop where
 hp:HpW m Y1 aC
 rg:∀t d2,lk t al2=some d2->∃d1,lk t al1=some d1/\jQ m d1 d2
def wP(m:Nat)(al1:AL)(Y1:ar)(al2:AL)(aC:ar):Prop:=m<=aC.length/\∀(n:Nat)(h:Nat->Option Nat)(a:Nat->Prop)(f:World)(e:Array Value),Rel Y1 h a f->ed n Y1 h a f al1 e ->
 ∃i b,Rel aC i b f/\ed n aC i b f al2 e/\KM h a i b/\∀(Y:ar)(M:Nat->Option Nat)(j:Nat->Prop)(w:World),Rel Y M j w->bF Y M j w Y1 h a f->Y.length<=m->bF Y M j w aC i b f
section
variable{P:Program}{n:Nat}{al al1 al2:AL}{Y Y1 aC:ar}{Q Q':nr->AL->ar->Prop}
def StW0.st{m:Nat}(h:StW0 m al1 Y1 al2 aC):wP m al1 Y1 al2 aC:=⟨by rw[h.hp.len];omega,λn s i W j R A=>by
 refine ⟨cZ s m,i,h.hp.rel R,⟨A.1,λt d u=>?_⟩,⟨λb c h=>⟨b,by simp only[cZ] at h;split at h <;> simp_all⟩,λc h=>.inl h,λc h=>h⟩,λY M X w _ E x=>h.hp.evo E x⟩
 obtain ⟨z,G,K⟩:=h.rg t d u;obtain ⟨v,O,U⟩:=A.2 t z G;exact ⟨v,O,K _ _ _ _ _ _ h.hp.szc U⟩⟩
theorem wP.refl{m:Nat}(h:m<=Y.length):wP m al Y al Y:=⟨h,λn s i u j R A=>⟨s,i,R,A,KM.refl,λY M x w _ E _=>E⟩⟩
def wP.trans{m:Nat}{j:AL}{s:ar}(h:wP m al1 Y1 al2 aC)(x:wP m al2 aC j s):wP m al1 Y1 j s:=⟨x.1,λn E u z i R A=>by
 obtain ⟨G,K,M,O,U,E2⟩:=h.2 n E u z i R A;obtain ⟨W,X,Z,A3,W3,E3⟩:=x.2 n G K z i M O;refine ⟨W,X,Z,A3,U.trans W3,?_⟩
 grind⟩
def wP.rn{m:Nat}{ρ:Nat->Nat}{F:Nat->Prop}(N:SJ m Y1 aC ρ F)(j:∀b,F b->m<=b)(h:∀t d2,lk t al2=some d2->∃d1,lk t al1=some d1/\dv Y1 aC ρ F d1 d2):wP m al1 Y1 al2 aC:=⟨N.le,λn W s X i R A=>by
 refine ⟨_,_,N.rel R,⟨A.1,λt d u=>?_⟩,⟨λb c h=>⟨ρ b,by unfold mN at h;split at h <;> simp_all⟩,λc h=>h.elim .inl λ⟨b,_,h⟩=>.inr ⟨b,h⟩,λc h=>.inl h⟩,λY M Z w x E z=>N.evo z j x R E⟩
 obtain ⟨d1,G,K⟩:=h t d u;obtain ⟨v,O,U⟩:=A.2 t d1 G;exact ⟨v,O,K _ _ _ _ R U⟩⟩
def wP.use{m:Nat}(h:wP m al1 Y1 al2 aC){M z:Nat->Option Nat}{Fz i:Nat->Prop}{w u:World}{j:Array Value}(G:Rel Y M Fz w)(R:Rel Y1 z i u)(A:ed n Y1 z i u al1 j)(E:bF Y M Fz w Y1 z i u)(hm:Y.length<=m) :
  ∃x s,Rel aC x s u/\ed n aC x s u al2 j/\bF Y M Fz w aC x s u/\Y.length<=aC.length/\KM z i x s:=by
 obtain ⟨x,K,O,U,W,X⟩:=h.2 n z i u j R A;exact ⟨x,K,O,U,X Y M Fz w G E hm,jk hm h.1,W⟩
def Sem.fh{ac:aQ}(h:Sem P ac n al Y Q)(s:∀x i Y',Q x i Y'->Q' x i Y'\/∃al2 aC,wP Y.length i Y' al2 aC/\Q' x al2 aC):Sem P ac n al Y Q':=by
 intro c u M z w a K R A hK;refine h c u M z w a K R A λx i Y' a' w' M' E G O U W X hl=>?_;rcases s x i Y' G with j | ⟨al2,aC,Z,j⟩
 ·grind
 ·obtain ⟨M2,F2,R2,A2,E2,l2,W2⟩:=Z.use R U W X (cP _);have:=O.wth W2
  grind
theorem Sem.kj{a b:aQ}(h:Sem P a n al Y λx al1 Y1=>match x with | .normal=>Sem P b n al1 Y1 Q\/∃al2 aC,wP Y.length al1 Y1 al2 aC/\Sem P b n al2 aC Q | x=>Q x al1 Y1):Sem P (.seq a b) n al Y Q:=by
 refine Sem.seq (h.fh (Q':=λx al1 Y1=>match x with | .normal=>∃al2 aC,Wk Y.length al1 Y1 al2 aC/\Sem P b n al2 aC Q | x=>Q x al1 Y1) λx s u j=>?_);cases x with
 |normal=>
  rcases j with j | ⟨al2,aC,z,j⟩
  ·exact .inl ⟨s,u,.refl,j⟩
  ·exact .inr ⟨al2,aC,z,al2,aC,.refl,j⟩
 |exit i=>simp_all
 |ret=>simp_all
def lm.preW{ac:aQ}{k:Nat}(hs:wP Y.length al Y al2 aC)(h:lm P ac k n al2 aC Q):lm P ac k n al Y Q:=by intro c z M Fz w a K R A E;obtain ⟨G,O,U,W,X,u,W2⟩:=hs.use R R A (bF.refl R) (cP _);exact h c z G O w a K U W λx i j Z w' M' s hQ hd R' A' E' hl=>E x i j Z w' M' s hQ hd R' A' (X.trans E' u) (jk u hl)
theorem lm.succW{b:aQ}{k:Nat}(h:Sem P b n al Y λx al1 Y1=>match x with | .normal=>∃al2 aC,wP Y.length al1 Y1 al2 aC/\lm P b k n al2 aC Q | x=>Q x al1 Y1):lm P b (k+1) n al Y Q:=by
 refine lm.succ (h.fh (Q':=λx al1 Y1=>match x with | .normal=>∃al2 aC,Wk Y.length al1 Y1 al2 aC/\lm P b k n al2 aC Q | x=>∃al2 aC,Wk Y.length al1 Y1 al2 aC/\Q x al2 aC) λx j s u=>?_);cases x with
 |normal=>obtain ⟨al2,aC,z,u⟩:=u;exact .inr ⟨al2,aC,z,al2,aC,.refl,u⟩
 |exit i=>exact .inl ⟨j,s,.refl,u⟩
 |ret=>exact .inl ⟨j,s,.refl,u⟩
end
section
def Yd{Y:TH}{x:TC}{d:D}(r:RC x d)(g:GC Y x):jQ Y.length d x.er:=by
 rcases r with rfl | rfl
 ·exact jQ.any _ _
 ·cases x with
  |any=>exact jQ.any _ _
  |d y=>exact jQ.low g
  |own i b v n=>obtain ⟨blk,h,_⟩:=g;exact jQ.low (by simp only[TC.er,OS,D.low,bz];grind)
  |op i b v n k a off=>obtain ⟨blk,h,_⟩:=g;exact jQ.low (by simp only[TC.er,D.low,bz];grind)
  |os i b v n e len=>obtain ⟨blk,h,_⟩:=g;exact jQ.low (by simp only[TC.er,D.low,bz];grind)
  |ap b off len sz k=>exact jQ.low (by simp only[TC.er,D.low,bz];exact g)
  |Gt f j=>exact jQ.low (Dh g)
  |_=>exact jQ.low rfl
def YY{Y:TH}{x:TC}{d:D}(r:RC x d)(g:GC Y x):∃d2,jQ Y.length d d2/\RC x d2:=⟨_,Yd r g,.inr rfl⟩
theorem Zz{Y:TH}{xs:List TC}{ds:List D}(r:aM RC xs ds)(g:∀x∈xs,GC Y x):∃es,aM (jQ Y.length) ds es/\aM RC xs es:=by
 induction r with
 |nil=>exact ⟨[],.nil,.nil⟩
 |cons h _ ih=>obtain ⟨e,a,b⟩:=YY h (g _ (qY ..));obtain ⟨es,f,i⟩:=ih λx j=>g x (o_ _ j);exact ⟨e::es,.cons a f,.cons b i⟩
theorem RE_wk{Y:TH}{p:Bool×List TC}{d:D}(r:RE p d)(g:∀x∈p.2,GC Y x):∃d2,jQ Y.length d d2/\RE p d2:=by
 obtain ⟨f,j⟩:=p;cases f with
 |true=>obtain ⟨ds,rfl,h⟩:=r;obtain ⟨i,a,b⟩:=Zz h g;exact ⟨.agg i,jQ.agg a,i,rfl,b⟩
 |false=>obtain ⟨x,rfl,h⟩:=r;obtain ⟨e,a,b⟩:=YY h (g x (by simp));exact ⟨e,a,x,rfl,b⟩
theorem RT_wk{Y:TH}{x:TV}{d:D}(r:RT x d)(g:GV Y x):∃d2,jQ Y.length d d2/\RT x d2:=by
 cases x with
 |c x=>exact YY r g
 |agg i=>obtain ⟨ds,rfl,h⟩:=r;obtain ⟨a,b,f⟩:=Zz h g;exact ⟨.agg a,jQ.agg b,a,rfl,f⟩
 |aV i=>
  obtain ⟨ds,rfl,h⟩:=r;have:∃a,aM (jQ Y.length) ds a/\aM RE i a:=by
   induction h with
   |nil=>exact ⟨[],.nil,.nil⟩
   |cons h _ ih=>obtain ⟨e,b,f⟩:=RE_wk h (g _ (qY ..));obtain ⟨a,j,l⟩:=ih λx p=>g x (o_ _ p);exact ⟨e::a,.cons b j,.cons f l⟩
  obtain ⟨a,b,f⟩:=this;exact ⟨.aV a,jQ.aV b,a,rfl,f⟩
theorem RR_wk{al:TA}{Y:TH}{x:RV}{d:D}(r:RR x d)(g:GW al Y x):∃d2,jQ Y.length d d2/\RR x d2:=by
 cases x with
 |v x=>exact RT_wk r g
 |g c w p x=>
  by_cases h:c=w
  ·simp only[RR,if_pos h] at r ⊢;exact RT_wk r (g.2 h)
  ·simp only[RR,if_neg h] at r ⊢;subst r;exact ⟨.aV [],jQ.low rfl,rfl⟩
def rdV_wk{m:Nat}{c:dt}{v:TV}{d:D}{a:c.dn}(h:qC c v=some a)(r:RT v d):jQ m d (c.enc a):=by obtain ⟨b,f,_⟩:=Qj h r;refine jQ.le (d2:=CQ d) (λY M i w v e=>Ep e) ?_;rw[b];exact jQ.low (D.eK (Qf _) (c.I_ a))
def rdC_wk{m:Nat}{c:CC}{x:TC}{d:D}{a:c.dn}(h:E_ c x=some a)(r:RC x d):jQ m d (.c (tL enc c a)):=by
 obtain ⟨f,b⟩:=oK h;rcases r with r | rfl
 ·simp_all
 ·rw[<-b];refine jQ.le (d2:=xk x.er) (λY M i w v e=>Iz e) ?_;rw[b];exact jQ.low rfl
theorem rdI_wk{m:Nat}{c:It}{x:TC}{d:D}{a:c.dn}(h:rdI c x=some a)(r:RC x d):jQ m d (Zb c a).er:=by
 cases c with
 |cc c=>rw[Zb,lu];exact rdC_wk h r
 |fp i=>
  have:=GY (i:=i) h;subst this;rcases r with r | rfl
  ·cases r
  ·exact jQ.low rfl
 |_=>simp[rdI] at h
theorem Cf{α:Type}{p:Nat->α->Prop}(m:Nat)(h:∀b,b<m->∃a,p b a):∃l:List α,l.length=m/\∀b a,l[b]? = some a->p b a:=by
 induction m with
 |zero=>simp_all
 |succ m ih=>
  obtain ⟨l,e,f⟩:=ih λb hb=>h b (by omega);obtain ⟨a,i⟩:=h m (by omega);refine ⟨l++[a],by simp[e],λb x j=>?_⟩
  grind
theorem SU{t:Nat}:∀{al:TA}{f:Nat->D},(∃x p,iI t al=some (x,p))->lk t (al.map λp=>(p.1,f p.1))=some (f t):=by
 intro al f;induction al with
 |nil=>grind [iI]
 |cons y al ih=>grind [iI,lk,Nat.eq_of_beq_eq_true]
theorem LK{t:Nat}{d:D}:∀{al:TA}{f:Nat->D},lk t (al.map λp=>(p.1,f p.1))=some d->(∃x p,iI t al=some (x,p))/\d=f t:=by
 intro al f;induction al with
 |nil=>grind [lk]
 |cons y al ih=>
  intro h;obtain ⟨s,z⟩:=y;simp only[rS,lk] at h;simp only[iI];split at h
  ·simp_all
  simp_all
def stw_of{al2:TA}{aC:TH}{a:AL}{σD1:ar}(u:aC.length<=σD1.length)
  (z:∀t x p,iI t al2=some (x,p)->GW al2 aC x/\∃d1 d2,lk t a=some d1/\jQ aC.length d1 d2/\RR x d2)
  (hb:∀(b:Nat) blk,aC[b]? = some blk->∃i j,σD1[b]? = some i/\ObW aC.length i j/\RB blk j)
  (E:∀(b:Nat) w cs,aC[b]? = some (.cells w cs)->∀p∈cs,GC aC p.2/\p.1<=w) :
  ∃l e,wP aC.length a σD1 l e/\Ref al2 aC l e:=by
 have v:∃f:Nat->D,∀t x p,iI t al2=some (x,p)->∃d1,lk t a=some d1/\jQ aC.length d1 (f t)/\RR x (f t):=by
  have:∀t,∃d2,∀x p,iI t al2=some (x,p)->∃d1,lk t a=some d1/\jQ aC.length d1 d2/\RR x d2:=by
   intro t;cases G:iI t al2 with
   |none=>simp_all
   |some q=>obtain ⟨x,p⟩:=q;obtain ⟨_,d1,d2,N,K,y⟩:=z t x p G;exact ⟨d2,λO T h=>by simp_all⟩
  exact ⟨λt=>Classical.choose (this t),λt=>Classical.choose_spec (this t)⟩
 obtain ⟨f,v⟩:=v;obtain ⟨e,hl,K⟩:=Cf (p:=λb j=>∃blk i,aC[b]? = some blk/\σD1[b]? = some i/\ObW aC.length i j/\RB blk j) aC.length λb s=>by
  obtain ⟨i,j,y,L,A⟩:=hb b _ (dW s)
  grind
 refine ⟨al2.map λp=>(p.1,f p.1),e,StW0.st ⟨⟨hl,u,λb U W M=>?_⟩,λt d h=>?_⟩,⟨⟨by rw[hl],λb blk s=>?_,E⟩,λt x p h=>?_⟩⟩
 ·grind
 ·obtain ⟨⟨x,p,y⟩,rfl⟩:=LK h
  grind
 ·grind
 ·obtain ⟨d1,y,L,A⟩:=v t x p h;exact ⟨f t,SU ⟨x,p,h⟩,A,(z t x p h).1⟩
end
def notH(pl:List Pl)(b j:Nat):Prop:=∀c,Pl.h b j c∉pl
def notW(pl:List Pl)(b:Nat):Prop:=∀i,Pl.w b i∉pl
def notM(pl:List Pl)(b:Nat):Prop:=∀j st,Pl.m b j st∉pl
def SB(pl:List Pl)(b:Nat):TB->TB->Prop
 |.cells w x,a=>∃w1 e,a=.cells w1 e/\e.length=x.length/\∀(j:Nat) p p1,x[j]? = some p->e[j]? = some p1->notH pl b j->p1=p
 |.row i l y z,a=>∃s f h,a=.row i s f h/\(notW pl b->s=l/\f=y/\h=z)
 |.mp j st l v,a=>∃A u s E,a=.mp A u s E/\(notM pl b->a=.mp j st l v)
def HS(pl:List Pl)(Y Y1:TH):Prop:=∀(b:Nat) blk,Y[b]? = some blk->∃a,Y1[b]? = some a/\SB pl b blk a
theorem SB.trans{pl:List Pl}{b:Nat}{x y z:TB}(u:SB pl b x y)(A:SB pl b y z):SB pl b x z:=by
 cases x with
 |cells w cs=>
  obtain ⟨w1,X,rfl,O,c1⟩:=u;obtain ⟨w2,E,rfl,s,U⟩:=A;refine ⟨w2,E,rfl,by omega,λj p p2 e e2 W=>?_⟩
  grind
 |row i l lv cv=>
  obtain ⟨O,Z,aa,rfl,c1⟩:=u;obtain ⟨s,G,K,rfl,U⟩:=A;refine ⟨s,G,K,rfl,λW=>?_⟩
  simp_all
 |mp j st l v=>
  obtain ⟨j1,ab,O,v1,rfl,c1⟩:=u;obtain ⟨j2,M,s,v2,rfl,U⟩:=A;refine ⟨j2,M,s,v2,rfl,λW=>?_⟩
  grind
def HS.trans{pl:List Pl}{Y Y1 aC:TH}(s:HS pl Y Y1)(u:HS pl Y1 aC):HS pl Y aC:=λb blk h=>by obtain ⟨i,x,s1⟩:=s b blk h;obtain ⟨j,z,A⟩:=u b i x;exact ⟨j,z,s1.trans A⟩
def Jn{f:Pl->Bool}{pl:List Pl}(h:pl.any f=true):∃p∈pl,f p=true:=by simp_all
theorem Ky{pl:List Pl}{b:Nat}:∀{xs a:List (Nat×TC)}{f:Nat},lU pl b f xs a=true->xs.length=a.length/\∀(j:Nat) p q,xs[j]? = some p->a[j]? = some q->notH pl b (f+j)->p.1=q.1:=by
 intro xs;induction xs with
 |nil=>
  intro a f h;cases a with
  |nil=>simp_all
  |cons y a=>grind [lU]
 |cons x xs ih=>
  intro a f h;cases a with
  |nil=>grind [lU]
  |cons y a=>
   obtain ⟨v,x⟩:=x;obtain ⟨w,y⟩:=y;simp only[lU,bG,gE] at h;obtain ⟨i,u⟩:=h;obtain ⟨z,L⟩:=ih u;refine ⟨by simp[z],λj p q e s A=>?_⟩;cases j with
   |zero=>
    simp only[xF,au] at e s;subst e s;rcases i with i | i
    ·simp_all
    ·obtain ⟨p,E,l⟩:=Jn i;exfalso;split at l
     ·rename_i M N c;simp only[bG] at l;have G:=dd l.1;have K:=dd l.2;subst G K;exact A c E
     grind
   |succ j=>grind
theorem Ch{pl:List Pl}:∀{Y Y1:TH}{e:Nat},eQ pl e Y Y1=true->∀(b:Nat) blk,Y[b]? = some blk->∃a,Y1[b]? = some a/\Ap pl (e+b) blk a=true:=by
 intro Y;induction Y with
 |nil=>simp_all
 |cons x Y ih=>
  intro Y1 e h b blk hb;cases Y1 with
  |nil=>grind [eQ]
  |cons y Y1=>
   simp only[eQ,bG] at h
   grind
theorem zdx{pl:List Pl}{Y Y1:TH}{σD:ar}(H:RH Y σD)(h:eQ pl 0 Y Y1=true)(W:Ext Y Y1):HS pl Y Y1:=λb blk hb=>by
 obtain ⟨f,T,a⟩:=Ch h b blk hb;rw[PL] at a;obtain ⟨z,A,E⟩:=W b blk hb;rw[T] at A;simp only[au] at A;subst A;refine ⟨f,T,?_⟩;cases blk with
 |cells w X=>
  obtain ⟨w1,G,rfl,hw,_,hc⟩:=E;simp only[Ap] at a;obtain ⟨hl,Z⟩:=Ky a;refine ⟨w1,G,rfl,hl.symm,λj p p1 e s y=>?_⟩;have hv:=Z j p p1 e s (by simp_all);obtain ⟨v,x⟩:=p;obtain ⟨U,x1⟩:=p1;have aa:=(H.hg b w X hb _ (Av e)).2
  grind
 |row i l lv cv=>
  obtain ⟨K,L,M,rfl,_,_,_,h8⟩:=E;refine ⟨K,L,M,rfl,λy=>?_⟩;simp only[Ap,gE] at a;rcases a with a | a
  ·simp_all
  ·obtain ⟨p,N,u⟩:=Jn a;exfalso;split at u
   ·have s:=dd u;subst s;exact y _ N
   simp_all
 |mp j st l v=>
  obtain ⟨j1,O,K,U,rfl,_,h8⟩:=E;refine ⟨j1,O,K,U,rfl,λy=>?_⟩;simp only[Ap,gE] at a;rcases a with a | a
  ·simp_all
  ·obtain ⟨p,N,u⟩:=Jn a;exfalso;split at u
   ·have s:=dd u;subst s;exact y _ _ N
   simp_all
def PB(al1:TA)(Y1:TH)(ps:List Pl)(b:Nat):TB->TB->Prop
 |.cells w E,e=>∃w2 f,e=.cells w2 f/\f.length=E.length/\∀(j:Nat) x,f[j]? = some x->x.1<=w2/\((∃c a,x.2=Zb c a/\VZ al1 Y1 (.h b j c)=some a/\Pl.h b j c∈ps)\/(E[j]? = some x/\notH ps b j))
 |.row i l K L,e=>∃h p s,e=.row i h p s/\(((∃y z,Y1[b]? = some (.row i h y z))/\∃M,Pl.w b M∈ps)\/(h=l/\p=K/\s=L/\notW ps b))
 |.mp j st l v,e=>∃G u h N,e=.mp G u h N/\(((∃O,Y1[b]? = some (.mp G u h O))/\∃T A,Pl.m b T A∈ps)\/(e=.mp j st l v/\notM ps b))
def PQ(al1:TA)(Y1:TH)(ps:List Pl)(Y aC:TH):Prop:=aC.length=Y.length/\∀(b:Nat) blk,Y[b]? = some blk->∃a,aC[b]? = some a/\BE blk a/\PB al1 Y1 ps b blk a
def yO{i j:Nat}{l:List (Int×TT j)}{m:List (Int×TT i)}(h:MJ l=some m):∃e:j=i,m=e▸l:=by
 unfold MJ at h;split at h
 ·simp_all
 simp_all
theorem PQ.nil{al1:TA}{Y1 Y:TH}{σD:ar}(H:RH Y σD):PQ al1 Y1 [] Y Y:=⟨rfl,λb blk h=>⟨blk,h,BE.refl blk,by
 cases blk with
 |cells w s=>exact ⟨w,s,rfl,rfl,λj u e=>⟨(H.hg b w s h u (Av e)).2,.inr ⟨e,λc A=>by grind⟩⟩⟩
 |row i l x z=>exact ⟨l,x,z,rfl,.inr ⟨rfl,rfl,rfl,λi hi=>by grind⟩⟩
 |mp j st l v=>exact ⟨j,st,l,v,rfl,.inr ⟨rfl,λj st hi=>by grind⟩⟩⟩⟩
theorem PB.QC{al1:TA}{Y1:TH}{ps:List Pl}{b:Nat}{x y:TB}{p:Pl}(h:PB al1 Y1 ps b x y)(h1:∀j c,p≠.h b j c)(h2:∀i,p≠.w b i)(h3:∀j st,p≠.m b j st):PB al1 Y1 (p::ps) b x y:=by
 cases x with
 |cells w cs=>
  obtain ⟨w2,E,e,A,W⟩:=h;refine ⟨w2,E,e,A,λj X Z=>?_⟩;obtain ⟨h4,s⟩:=W j X Z;refine ⟨h4,?_⟩;rcases s with ⟨c,a,s,z,U⟩ | ⟨s,z⟩
  ·grind
  ·refine .inr ⟨s,λc u=>?_⟩;rcases gy.1 u with u | u
   ·grind
   ·exact z c u
 |row i l lv cv=>
  obtain ⟨A,G,K,e,s⟩:=h;refine ⟨A,G,K,e,?_⟩;rcases s with ⟨s,i',z⟩ | ⟨s,z,U,M⟩
  ·grind
  ·refine .inr ⟨s,z,U,λi hi=>?_⟩;rcases gy.1 hi with u | u
   ·grind
   ·exact M i u
 |mp j st l v=>
  obtain ⟨j2,O,A,v2,e,s⟩:=h;refine ⟨j2,O,A,v2,e,?_⟩;rcases s with ⟨s,j',aa,z⟩ | ⟨s,M⟩
  ·grind
  ·refine .inr ⟨s,λj st hi=>?_⟩;rcases gy.1 hi with u | u
   ·grind
   ·exact M j st u
theorem PQ.step{al1:TA}{Y1 Y aC:TH}{σD:ar}{ps pl:List Pl}(H:RH Y σD)(hs:HS pl Y Y1)(p:Pl)(x:p.dn)(Z:VZ al1 Y1 p=some x)(h:PQ al1 Y1 ps Y aC):PQ al1 Y1 (p::ps) Y (Uh p x aC):=by
 obtain ⟨hl,hb⟩:=h;cases p with
 |r t c=>exact ⟨hl,λb blk e=>let ⟨s,G,M,K⟩:=hb b blk e;⟨s,G,M,K.QC (by simp) (by simp) (by simp)⟩⟩
 |w U i0=>
  simp only[Uh];split
  ·rename_i j l lv cv e0;refine ⟨by simp[hl],λb blk e=>?_⟩;obtain ⟨s,G,M,K⟩:=hb b blk e;by_cases u:b=U
   ·subst u;rw[e0] at G;simp only[au] at G;subst G;refine ⟨_,HK e0,?_⟩;simp only[VZ] at Z;split at Z
    ·rename_i j1 l1 ax a0 e1;obtain ⟨rfl,rfl⟩:=zdK Z;obtain ⟨ab,E,sb⟩:=hs b blk e;rw[e1] at E;simp only[au] at E;subst E;cases blk with
     |cells w cs=>obtain ⟨_,_,O,_⟩:=sb;grind
     |mp q st l v=>obtain ⟨_,_,_,_,O,_⟩:=sb;grind
     |row i l0 a7 a8=>obtain ⟨l5,a9,bb,O,_⟩:=sb;simp only[TB.row.injEq] at O;obtain ⟨rfl,e5,rfl,rfl⟩:=O;cases e5;obtain ⟨l6,bd,be,e6,b1,b2,b3,b4⟩:=M;simp only[TB.row.injEq] at e6;obtain ⟨rfl,e7,rfl,rfl⟩:=e6;cases e7;exact ⟨⟨_,_,_,rfl,by omega,by omega,λe=>by omega,λe=>by omega⟩,⟨_,_,_,rfl,.inl ⟨⟨ax,a0,e1⟩,_,qY ..⟩⟩⟩
    simp_all
   ·exact ⟨s,by grind,M,K.QC (by simp) (by grind) (by simp)⟩
  ·rename_i ad;refine ⟨hl,λb blk e=>?_⟩;obtain ⟨s,G,M,K⟩:=hb b blk e;refine ⟨s,G,M,?_⟩;by_cases u:b=U
   ·subst u;cases s with
    |row i l lv cv=>grind
    |cells w cs=>
     cases blk with
     |cells w' a1=>
      obtain ⟨w2,af,E,l2,c2⟩:=K;refine ⟨w2,af,E,l2,λj p2 O=>?_⟩;obtain ⟨h4,W⟩:=c2 j p2 O;refine ⟨h4,?_⟩;rcases W with ⟨c,a,W,h6,h7⟩ | ⟨W,h6⟩
      ·grind
      ·refine .inr ⟨W,λc X=>?_⟩;rcases gy.1 X with X | X
       ·grind
       ·exact h6 c X
     |row i l lv cv=>obtain ⟨_,_,_,E,_⟩:=K;grind
     |mp q st l v=>obtain ⟨_,_,_,_,E,_⟩:=K;grind
    |mp q st l v=>
     cases blk with
     |mp q' ak l' v'=>
      obtain ⟨j2,a2,l2,v2,E,W⟩:=K;refine ⟨j2,a2,l2,v2,E,?_⟩;rcases W with ⟨W,j',ak,h6⟩ | ⟨W,h8⟩
      ·grind
      ·refine .inr ⟨W,λj st hi=>?_⟩;rcases gy.1 hi with X | X
       ·grind
       ·exact h8 j st X
     |row i l lv cv=>obtain ⟨_,_,_,E,_⟩:=K;grind
     |cells w cs=>obtain ⟨_,_,E,_⟩:=K;grind
   ·exact K.QC (by simp) (by grind) (by simp)
 |h U j0 c0=>
  have A:∀blk,Y[U]? = some blk->∃w cs w1 aa y,blk=.cells w cs/\Y1[U]? = some (.cells w1 aa)/\aa[j0]? = some y/\rdI c0 y.2=some x/\j0<cs.length:=by
   intro blk e;have bh:=Z;simp only[VZ] at Z;split at Z
   ·rename_i w1 aa e1;split at Z
    ·rename_i y G;obtain ⟨ab,E,sb⟩:=hs U blk e;rw[e1] at E;simp only[au] at E;subst E;cases blk with
     |cells w cs=>
      obtain ⟨_,_,O,l4,_⟩:=sb
      grind
     |row i l lv cv=>obtain ⟨_,_,_,O,_⟩:=sb;grind
     |mp q st l v=>obtain ⟨_,_,_,_,O,_⟩:=sb;grind
    simp_all
   simp_all
  simp only[Uh];split
  ·rename_i w' a1 e0;refine ⟨by simp[hl],λb blk e=>?_⟩;obtain ⟨s,G,M,K⟩:=hb b blk e;by_cases u:b=U
   ·subst u;rw[e0] at G;simp only[au] at G;subst G;obtain ⟨w,cs,w1,aa,y,rfl,E,O,e5,e6⟩:=A blk e;refine ⟨_,HK e0,?_⟩;obtain ⟨w2,af,e7,l2,c2⟩:=K;simp only[TB.cells.injEq] at e7;obtain ⟨rfl,rfl⟩:=e7;obtain ⟨w3,a5,e8,bw,bl,bc⟩:=M;simp only[TB.cells.injEq] at e8;obtain ⟨rfl,rfl⟩:=e8;refine ⟨⟨w'+1,_,rfl,by omega,by simp[l2],λj v z v1 z1 q1 q2=>?_⟩,⟨w'+1,_,rfl,by simp[l2],λj p2 q=>?_⟩⟩
    ·grind
    ·by_cases hj:j=j0
     ·grind
     ·rw[yCp (λe=>hj e.symm)] at q;obtain ⟨q1,q2⟩:=c2 j p2 q;refine ⟨by omega,?_⟩;rcases q2 with ⟨c,a,W,h6,h7⟩ | ⟨W,h6⟩
      ·grind
      ·refine .inr ⟨W,λc X=>?_⟩;rcases gy.1 X with X | X
       ·simp_all
       ·exact h6 c X
   ·exact ⟨s,by grind,M,K.QC (by grind) (by simp) (by simp)⟩
  ·rename_i ad;refine ⟨hl,λb blk e=>?_⟩;obtain ⟨s,G,M,K⟩:=hb b blk e;by_cases u:b=U
   ·subst u;obtain ⟨w,cs,_,_,_,rfl,_⟩:=A blk e;obtain ⟨w3,a5,rfl,_⟩:=M
    simp_all
   ·exact ⟨s,G,M,K.QC (by grind) (by simp) (by simp)⟩
 |m U j0 an=>
  have A:∀blk,Y[U]? = some blk->∃j st l v v1,blk=.mp j st l v/\Y1[U]? = some (.mp j0 an x v1):=by
   intro blk e;simp only[VZ] at Z;split at Z
   ·rename_i j1 a6 l1 v1 e1;split at Z
    ·rename_i av;have av:an=a6:=eq_of_beq av;obtain ⟨rfl,rfl⟩:=yO Z;obtain ⟨ab,E,sb⟩:=hs U blk e;rw[e1] at E;simp only[au] at E;subst E;cases blk with
     |mp q st l v=>simp_all
     |row i l lv cv=>obtain ⟨_,_,_,O,_⟩:=sb;grind
     |cells w cs=>obtain ⟨_,_,O,_⟩:=sb;grind
    simp_all
   simp_all
  simp only[Uh];split
  ·rename_i j' ak l' v' e0;refine ⟨by simp[hl],λb blk e=>?_⟩;obtain ⟨s,G,M,K⟩:=hb b blk e;by_cases u:b=U
   ·subst u;rw[e0] at G;simp only[au] at G;subst G;obtain ⟨j,st,l,v,v1,rfl,E⟩:=A blk e;obtain ⟨_,_,_,_,O,b1,b2⟩:=M;simp only[TB.mp.injEq] at O;obtain ⟨rfl,rfl,e5,rfl⟩:=O;cases e5;exact ⟨_,HK e0,⟨_,_,_,_,rfl,by omega,λe=>by omega⟩,⟨_,_,_,_,rfl,.inl ⟨⟨v1,E⟩,_,_,qY ..⟩⟩⟩
   ·exact ⟨s,by grind,M,K.QC (by simp) (by simp) (by grind)⟩
  ·rename_i ad;refine ⟨hl,λb blk e=>?_⟩;obtain ⟨s,G,M,K⟩:=hb b blk e;by_cases u:b=U
   ·subst u;obtain ⟨j,st,l,v,v1,rfl,_⟩:=A blk e;obtain ⟨_,_,_,_,rfl,_⟩:=M
    grind
   ·exact ⟨s,G,M,K.QC (by simp) (by simp) (by grind)⟩
theorem PQ.all{al1:TA}{Y1 Y:TH}{σD:ar}{pl:List Pl}(H:RH Y σD)(hs:HS pl Y Y1):∀(ps:List Pl)(x:rG ps),LO al1 Y1 ps=some x->PQ al1 Y1 ps Y (rQ ps x Y):=by
 intro ps;induction ps with
 |nil=>intro x _;exact PQ.nil H
 |cons p ps ih=>
  intro x i;cases ps with
  |nil=>exact PQ.step H hs p x i (PQ.nil H)
  |cons q ps=>
   simp only[LO] at i;split at i
   ·rename_i a b j s;simp only[au] at i;subst i;exact PQ.step H hs p a j (ih b s)
   simp_all
def PQ.ext{al1:TA}{Y1 Y aC:TH}{ps:List Pl}(h:PQ al1 Y1 ps Y aC):Ext Y aC:=λb blk e=>let ⟨i,j,h1,_⟩:=h.2 b blk e;⟨i,j,h1⟩
theorem PQ.hs{al1:TA}{Y1 Y aC:TH}{ps:List Pl}(h:PQ al1 Y1 ps Y aC)(hs:HS ps Y Y1):HS ps Y aC:=λb blk e=>by
 obtain ⟨u,W,h1,E⟩:=h.2 b blk e;refine ⟨u,W,?_⟩;cases blk with
 |cells w cs=>
  obtain ⟨w2,G,rfl,x,X⟩:=E;refine ⟨w2,G,rfl,x,λj p p1 q Z z=>?_⟩;rcases (X j p1 Z).2 with ⟨c,a,_,_,A⟩ | ⟨s,_⟩
  ·exact absurd A (z c)
  simp_all
 |row i l lv cv=>
  obtain ⟨x,K,M,rfl,s⟩:=E;refine ⟨x,K,M,rfl,λz=>?_⟩;rcases s with ⟨_,i',A⟩ | ⟨s,h4,h5,_⟩
  ·exact absurd A (z i')
  simp_all
 |mp j st l v=>
  obtain ⟨j2,O,x,v2,rfl,s⟩:=E;refine ⟨j2,O,x,v2,rfl,λz=>?_⟩;rcases s with ⟨_,j',U,A⟩ | ⟨s,_⟩
  ·exact absurd A (z j' U)
  omega
theorem Tn(t:Nat):∀(al:TA),OF t al=(iI t al).map Prod.fst:=by
 intro al;induction al with
 |nil=>rfl
 |cons y al ih=>grind [OF,iI]
def jJ{t:Nat}{al:TA}{x:RV}(h:OF t al=some x):∃p,iI t al=some (x,p):=by grind [Tn,Option.map_eq_some_iff]
theorem qx{t:Nat}{q:RV×Nat}:∀{pre al:TA},(∀y∈pre,y.1≠t)->iI t al=some q->iI t (pre++al)=some q:=by
 intro pre al;induction pre with
 |nil=>simp_all
 |cons z pre ih=>grind [iI,Nat.eq_of_beq_eq_true]
theorem zB{t:Nat}{q:RV×Nat}:∀{pre al:TA},iI t al=some q->∃a,iI t (pre++al)=some a:=by
 intro pre al;induction pre with
 |nil=>simp_all
 |cons z pre ih=>
  intro h;obtain ⟨s,y⟩:=z;simp only[JC,iI]
  grind
theorem putPs_lk{al1:TA}{Y1:TH}{al:TA}{t:Nat}{v:RV}{p:Nat}:∀(ps:List Pl)(x:rG ps),LO al1 Y1 ps=some x->iI t (Hq ps x al)=some (v,p) ->
  (∃c a,v=.v (c.tv a)/\VZ al1 Y1 (.r t c)=some a)\/((∀c,Pl.r t c∉ps)/\iI t al=some (v,p)):=by
 have one:∀(p0:Pl)(x:p0.dn)(al0:TA),VZ al1 Y1 p0=some x->iI t (Wt p0 x al0)=some (v,p)->(∃c a,v=.v (c.tv a)/\VZ al1 Y1 (.r t c)=some a)\/((∀c,Pl.r t c≠p0)/\iI t al0=some (v,p)):=by
  intro p0 x al0 f h;cases p0 with
  |r y c=>
   simp only[Wt,iI] at h;split at h
   ·grind [Nat.eq_of_beq_eq_true]
   ·rename_i hb;refine .inr ⟨λz e=>?_,h⟩
    simp_all
  |w b i=>exact .inr ⟨λc e=>by simp at e,h⟩
  |h b j c=>exact .inr ⟨λc e=>by simp at e,h⟩
  |m b j st=>exact .inr ⟨λc e=>by simp at e,h⟩
 intro ps;induction ps with
 |nil=>intro x _ h;exact .inr ⟨λc A=>by grind,h⟩
 |cons p0 ps ih=>
  intro x f h;cases ps with
  |nil=>
   rcases one p0 x al f h with h | ⟨l,s⟩
   ·simp_all
   simp_all
  |cons q ps=>
   simp only[LO] at f;split at f
   ·rename_i a b u hb;simp only[au] at f;subst f;rcases one p0 a _ u h with h | ⟨l,s⟩
    ·simp_all
    simp_all
   simp_all
theorem HR:∀(ps:List Pl)(x:rG ps)(al:TA),∃pre,Hq ps x al=pre++al/\∀y∈pre,∃c,Pl.r y.1 c∈ps:=by
 have one:∀(p0:Pl)(x:p0.dn)(al:TA),∃pre,Wt p0 x al=pre++al/\∀y∈pre,∃c,Pl.r y.1 c=p0:=by
  intro p0 x al;cases p0 with
  |r t c=>exact ⟨[(t,.v (c.tv x))],rfl,λy a=>by simp_all⟩
  |w b i=>exact ⟨[],rfl,λy a=>by grind⟩
  |h b j c=>exact ⟨[],rfl,λy a=>by grind⟩
  |m b j st=>exact ⟨[],rfl,λy a=>by grind⟩
 intro ps;induction ps with
 |nil=>intro x al;exact ⟨[],rfl,λy a=>by grind⟩
 |cons p0 ps ih=>
  intro x al;cases ps with
  |nil=>obtain ⟨pre,f,l⟩:=one p0 x al;exact ⟨pre,f,λy a=>let ⟨c,e⟩:=l y a;⟨c,by simp_all⟩⟩
  |cons q ps=>
   obtain ⟨pre,f,l⟩:=ih x.2 al;obtain ⟨p,s,u⟩:=one p0 x.1 (Hq (q::ps) x.2 al)
   grind [Hq]
theorem On(Y:TH):∀(hs:List (Nat×Nat))(al:TA),∃pre,Rb Y hs al=pre++al/\(∀y∈pre,∃b i l a e,(y.1,b)∈hs/\Y[b]? = some (.row i l a e)/\y.2=.v (.c (.own i b a l.length))) /\
  ∀t b i l a e,(t,b)∈hs->Y[b]? = some (.row i l a e)->∃y∈pre,y.1=t:=by
 intro hs;induction hs with
 |nil=>intro al;exact ⟨[],rfl,λy j=>by grind,λt b i l a e h=>by simp at h⟩
 |cons h hs ih=>
  intro al;obtain ⟨t,b⟩:=h;obtain ⟨pre,s,u,v⟩:=ih al;have p:∀y∈pre,∃f i l a e,(y.1,f)∈(t,b)::hs/\Y[f]? = some (.row i l a e)/\y.2=.v (.c (.own i f a l.length)):=λy j=>by grind
  simp only[Rb];split
  ·grind [List.mem_cons_self]
  grind
theorem RY{t:Nat}{x:RV}{p:Nat}:∀{pre al:TA},iI t (pre++al)=some (x,p)->(t,x)∈pre\/((∀y∈pre,y.1≠t)/\iI t al=some (x,p)):=by
 intro pre al;induction pre with
 |nil=>simp_all
 |cons z pre ih=>
  intro h;obtain ⟨s,y⟩:=z;simp only[JC,iI] at h;split at h
  ·simp_all
  ·rename_i hb;rcases ih h with h | ⟨f,b⟩
   ·simp_all
   ·refine .inr ⟨λy a=>?_,b⟩;rcases gy.1 a with rfl | a
    ·intro e;simp_all
    grind
def Ho(md:List Nat)(al:TA):∃pre,HG md al=pre++al/\(∀y∈pre,y.1∈md/\(OF y.1 al).isSome/\y.2=.v (.c .any))/\∀t,t∈md->(OF t al).isSome->∃y∈pre,y.1=t:=by
 refine ⟨_,rfl,λy b=>?_,λt a hs=>?_⟩
 ·grind
 ·exact ⟨(t,.v (.c .any)),iX.2 ⟨t,Gp.2 ⟨a,hs⟩,rfl⟩,rfl⟩
theorem aM.Em{α i:Type}{R:α->i->Prop}:∀{l:List α}{m:List i},l.length=m.length->(∀(j:Nat) a b,l[j]? = some a->m[j]? = some b->R a b)->aM R l m:=by
 intro l;induction l with
 |nil=>intro m h _;cases m with | nil=>exact .nil | cons b m=>simp at h
 |cons a l ih=>
  intro m h s;cases m with
  |nil=>simp at h
  |cons b m=>exact .cons (s 0 a b rfl rfl) (ih (by simp_all) λj x y u z=>s (j+1) x y u z)
def ObW.XT{α:Type}{f:α->List C}{l:List α}{m:Nat}:ObW m (OB f l) (OB f l):=by refine ⟨_,rfl,aM.Em rfl λj a b i s=>?_⟩;rw[i] at s;simp only[au] at s;subst s;rw[lS,cC] at i;obtain ⟨c,_,rfl⟩:=i;exact jQ.low rfl
def Rq(j:Nat)(st:Bool)(a:TT j)(m:Nat):(Pv j st a).low m=true:=by
 unfold Pv;split
 ·exact Yq _
 ·rfl
theorem RN{α:Type}{g:α->D}{m:Nat}(h:∀a,(g a).low m=true):∀(l:List (Int×α))(i:Nat),((FJ g i l).all λe=>e.2.1.low m)=true:=by
 intro l;induction l with
 |nil=>intro i;rfl
 |cons x l ih=>grind [FJ]
def hsOk_at{al:TA}{Y:TH}{hs:List (Nat×Nat)}(h:Yr al Y hs=true){t b:Nat}(hm:(t,b)∈hs):∃i v q j l a e,OF t al=some (.v (.c (.own i b v q)))/\Y[b]? = some (.row j l a e)/\v=a/\i=j:=by
 simp only[Yr,iK] at h;have:=h (t,b) hm;dsimp only at this;split at this
 ·rename_i i f v q j l a e p s;simp only[bG] at this
  grind [Nat.eq_of_beq_eq_true]
 simp_all
theorem HS.mono{pl u:List Pl}{Y Y1:TH}(G:∀p∈pl,p∈u)(h:HS pl Y Y1):HS u Y Y1:=λb blk e=>by
 obtain ⟨z,X,s⟩:=h b blk e;refine ⟨z,X,?_⟩;cases blk with
 |cells w cs=>obtain ⟨w1,K,e,l,c⟩:=s;exact ⟨w1,K,e,l,λj p p1 x y A=>c j p p1 x y λq E=>A q (G _ E)⟩
 |row i l lv cv=>obtain ⟨M,O,U,e,c⟩:=s;exact ⟨M,O,U,e,λA=>c λq E=>A q (G _ E)⟩
 |mp j st l v=>obtain ⟨Z,W,M,v1,e,c⟩:=s;exact ⟨Z,W,M,v1,e,λA=>c λq st E=>A q st (G _ E)⟩
theorem PQ.SX{al1:TA}{Y1 Y aC:TH}{ps pl:List Pl}(h:PQ al1 Y1 ps Y aC)(E:∀p∈ps,p∈pl):HS pl Y aC:=λb blk e=>by
 obtain ⟨s,X,h1,G⟩:=h.2 b blk e;refine ⟨s,X,?_⟩;cases blk with
 |cells w cs=>
  obtain ⟨w2,K,rfl,u,Z⟩:=G;refine ⟨w2,K,rfl,u,λj p p1 q q1 x=>?_⟩;rcases (Z j p1 q1).2 with ⟨c,a,_,_,z⟩ | ⟨A,_⟩
  ·exact absurd (E _ z) (x c)
  simp_all
 |row i l lv cv=>
  obtain ⟨u,M,O,rfl,A⟩:=G;refine ⟨u,M,O,rfl,λx=>?_⟩;rcases A with ⟨_,i',z⟩ | ⟨h4,h5,h6,_⟩
  ·exact absurd (E _ z) (x i')
  simp_all
 |mp j st l v=>
  obtain ⟨j2,U,u,v2,rfl,A⟩:=G;refine ⟨j2,U,u,v2,rfl,λx=>?_⟩;rcases A with ⟨_,j',W,z⟩ | ⟨h4,_⟩
  ·exact absurd (E _ z) (x j' W)
  omega
structure ZOk (zs:List (Nat×Nat×Nat)) (Y Y':TH):Prop where
 len:Y'.length=Y.length
 row:∀(b:Nat) i (l:List (TT i)) lv cv,Y[b]? = some (.row i l lv cv)↔Y'[b]? = some (.row i l lv cv)
 mp:∀(b:Nat) j st (l:List (Int×TT j)) v,Y[b]? = some (.mp j st l v)->Y'[b]? = some (.mp j st l v)
 cells:∀(b:Nat) w cs,Y[b]? = some (.cells w cs)->∃w' cs',Y'[b]? = some (.cells w' cs')/\w<=w'/\cs'.length=cs.length/\∀(j:Nat) p',cs'[j]? = some p' ->
  (cs[j]? = some p'/\∀r,(b,j,r)∈zs->∀i l lv cv,Y[r]?≠some (.row i l lv cv))\/(∃r i l lv cv,(b,j,r)∈zs/\Y[r]? = some (.row i l lv cv)/\p'.2=.own i r lv l.length/\w<p'.1/\p'.1<=w')
theorem NG:∀(zs:List (Nat×Nat×Nat))(Y:TH),ZOk zs Y (MT zs Y):=by
 intro zs;induction zs with
 |nil=>intro Y;exact ⟨rfl,λb i l a f=>Iff.rfl,λb j st l v h=>h,λb w s h=>⟨w,s,h,cP _,rfl,λj p' N=>.inl ⟨N,λr hr=>by grind⟩⟩⟩
 |cons z zs ih=>
  intro Y;obtain ⟨E,O,T⟩:=z;simp only[MT];split
  ·rename_i A u U W x aa hb hr;have Z:=ih (Y.set E (.cells (A+1) (u.set O (A+1,.own U T x W.length))));have y:∀(b:Nat) i (l:List (TT i)) a f,Y[b]? = some (.row i l a f)↔(Y.set E (.cells (A+1) (u.set O (A+1,.own U T x W.length))))[b]? = some (.row i l a f):=λb i l a f=>by
    grind
   refine ⟨by rw[Z.len,WD],λb i l a f=>(y b i l a f).trans (Z.row b i l a f),λb j st l v h=>Z.mp b j st l v ?_,λb w s h=>?_⟩
   ·grind
   ·by_cases e:b=E
    ·subst e;rw[hb] at h;simp only[au,TB.cells.injEq] at h;obtain ⟨rfl,rfl⟩:=h;obtain ⟨G,p,K,L,M,X⟩:=Z.cells b _ _ (HK hb)
     grind
    ·obtain ⟨G,p,K,L,M,X⟩:=Z.cells b w s (by grind)
     grind
  ·rename_i ab;have Z:=ih Y;refine ⟨Z.len,Z.row,Z.mp,λb w s h=>?_⟩;obtain ⟨G,p,K,L,M,X⟩:=Z.cells b w s h;refine ⟨G,p,K,L,M,λj p' N=>?_⟩
   grind
theorem ZOk.ext{zs:List (Nat×Nat×Nat)}{Y Y':TH}(Z:ZOk zs Y Y'):Ext Y Y':=λb blk h=>by
 cases blk with
 |cells w u=>
  obtain ⟨z,s,A,E,G,O⟩:=Z.cells b w u h;refine ⟨_,A,z,s,rfl,E,yCa G.symm,λj v x U W e X=>?_⟩
  grind
 |row i l K M=>exact ⟨_,(Z.row b i l K M).1 h,BE.refl _⟩
 |mp j st l v=>exact ⟨_,Z.mp b j st l v h,BE.refl _⟩
def zpl_mem{zs:List (Nat×Nat×Nat)}{b j r:Nat}(h:(b,j,r)∈zs):Pl.h b j (.cc .bool)∈Lp zs:=iX.2 ⟨_,h,rfl⟩
theorem ZOk.hs{zs:List (Nat×Nat×Nat)}{Y Y':TH}(Z:ZOk zs Y Y'):HS (Lp zs) Y Y':=λb blk h=>by
 cases blk with
 |cells w u=>
  obtain ⟨x,s,z,W,A,E⟩:=Z.cells b w u h;refine ⟨_,z,x,s,rfl,A,λj p p1 e G K=>?_⟩;rcases E j _ G with ⟨X,_⟩ | ⟨r,_,_,_,_,M,_⟩
  ·simp_all
  ·exact absurd (zpl_mem M) (K _)
 |row i l O U=>exact ⟨_,(Z.row b i l O U).1 h,_,_,_,rfl,λ_=>⟨rfl,rfl,rfl⟩⟩
 |mp j st l v=>exact ⟨_,Z.mp b j st l v h,_,_,_,_,rfl,λ_=>rfl⟩
def RX{n:Nat}{Y:TH}{zs:List (Nat×Nat×Nat)}(h:Yp n Y zs=true){b j r:Nat}(hm:(b,j,r)∈zs):b<n/\r<n/\∃w cs i l a f q p,Y[b]? = some (.cells w cs)/\Y[r]? = some (.row i l a f)/\cs[j]? = some (p,.own i r a q):=by
 simp only[Yp,iK] at h;have:=h (b,j,r) hm;simp only[bG] at this;obtain ⟨s,u,e⟩:=this;refine ⟨tR.mp s,tR.mp u,?_⟩;split at e
 ·rename_i w cs i l a f x y;split at e
  ·rename_i p z A v q E;simp only[bG] at e
   grind [Nat.eq_of_beq_eq_true]
  grind
 grind
def rj{h:JH}{md:List Nat}{al al1:TA}{Y Y1:TH}{alD ad:AL}{σD σD1:ar}{x:rG h.pl}(R0:Ref al Y alD σD)(W:Ref al1 Y1 ad σD1)
  (bb:∀t q,iI t al=some q->∃q',iI t al1=some q')
  (hk:∀t q,t∉md->(∀c,Pl.r t c∉h.pl)->(∀b,(t,b)∈h.hs->∀i l N O,Y[b]?≠some (.row i l N O))->iI t al=some q->iI t al1=some q)
  (hs:HS (h.pl++Lp h.zs) Y Y1) (hh:Yr al1 Y1 h.hs=true) (hz:Yp Y.length Y1 h.zs=true) (hx:LO al1 Y1 h.pl=some x) :
  Ext Y (cT h md al Y x)/\HS (h.pl++Lp h.zs) Y (cT h md al Y x)/\(cT h md al Y x).length=Y.length/\∃af ak,wP Y.length ad σD1 af ak/\Ref (dV h md al Y x) (cT h md al Y x) af ak:=by
 have s:=PQ.all R0.hh hs h.pl x hx;have Z:=NG h.zs (rQ h.pl x Y);have ext:Ext Y (cT h md al Y x):=Ext.trans R0.hh s.ext Z.ext;have len:(cT h md al Y x).length=Y.length:=Z.len.trans s.1;refine ⟨ext,(s.SX λp hp=>yBI _ hp).trans (Z.hs.mono λp hp=>yBC _ hp),len,?_⟩;have bc:∀(b i i1 N O aa ab:Nat)(l:List (TT i))(X:List (TT i1)),(rQ h.pl x Y)[b]? = some (.row i l N O)->Y1[b]? = some (.row i1 X aa ab)->i1=i/\l.length=X.length:=by
  intro b i i1 N O aa ab l X m2 n2;have z:b<Y.length:=by rw[<-s.1];grind
  obtain ⟨f,T⟩:∃f,Y[b]? = some f:=⟨_,dW z⟩;obtain ⟨u,G,be,A⟩:=s.2 b f T;rw[m2] at G;simp only[au] at G;subst G;obtain ⟨L,U,E⟩:=hs b f T;rw[n2] at U;simp only[au] at U;subst U;cases f with
  |cells w cs=>obtain ⟨_,_,e,_⟩:=E;simp at e
  |mp q st l v=>obtain ⟨_,_,_,_,e,_⟩:=E;simp at e
  |row i0 l0 b3 b4=>
   obtain ⟨l5,b5,b6,e5,E⟩:=E;simp only[TB.row.injEq] at e5;obtain ⟨rfl,e6,rfl,rfl⟩:=e5;cases e6;obtain ⟨l6,b7,b8,e7,A⟩:=A;simp only[TB.row.injEq] at e7;obtain ⟨rfl,e8,rfl,rfl⟩:=e7;cases e8;refine ⟨rfl,?_⟩;rcases A with ⟨⟨an,av,e9⟩,_⟩ | ⟨rfl,_,_,hn⟩
   ·simp_all
   ·by_cases cg:notW (h.pl++Lp h.zs) b
    ·simp_all
    ·exact absurd (λi hi=>by
      rcases kL.1 hi with hi | hi
      ·exact hn i hi
      grind [Lp]) cg
 obtain ⟨bd,es,ch,d0⟩:=Ho md al;obtain ⟨bh,eh,ck,d5⟩:=On (rQ h.pl x Y) h.hs (HG md al);obtain ⟨bi,ep,d6⟩:=HR h.pl x (Rb (rQ h.pl x Y) h.hs (HG md al));have bk:dV h md al Y x=(bi++(bh++bd))++al:=by grind [dV]
 have dp:Ext Y (rQ h.pl x Y):=s.ext;have cm:(cT h md al Y x).length<=σD1.length:=by
  rw[len,W.hh.len];rcases rU Y1.length Y.length with z | d7
  ·obtain ⟨L,e,_⟩:=hs Y1.length _ (dW z)
   grind
  omega
 have gw:∀{v:TV},GV (cT h md al Y x) v->GW (dV h md al Y x) (cT h md al Y x) (.v v):=λg=>g;rw[<-len];refine stw_of cm (λt v p ht=>?_) (λb u bl=>?_) (λb w2 M bl q hq=>?_)
 ·
  rcases putPs_lk h.pl x hx ht with ⟨c,a,rfl,hr⟩ | ⟨co,ht⟩
  ·simp only[VZ] at hr;split at hr
   ·rename_i v1 h1;obtain ⟨p1,h2⟩:=jJ h1;obtain ⟨K,h3,h4,_⟩:=W.rg t _ p1 h2;exact ⟨Dt c a,K,c.enc a,h3,rdV_wk hr h4,c.EA a⟩
   grind
  ·rw[eh] at ht;rcases RY ht with hm | ⟨d8,ht⟩
   ·obtain ⟨b,i,l,N,O,m1,m2,m3⟩:=ck _ hm;dsimp only at m1 m3;subst m3;obtain ⟨i1,v1,q1,j1,X,aa,ab,n1,n2,n3,n4⟩:=hsOk_at hh m1;subst n3;obtain ⟨p1,n5⟩:=jJ n1;obtain ⟨K,n6,n7,n8⟩:=W.rg t _ p1 n5;obtain ⟨rfl,rfl⟩:=wj W.hh n8 n2 (by simp);clear n4;have cp:=(Z.row b _ _ _ _).1 m2;have z:b<Y.length:=by rw[<-s.1];grind
    obtain ⟨f,T⟩:∃f,Y[b]? = some f:=⟨_,dW z⟩;obtain ⟨u,G,be,A⟩:=s.2 b f T;rw[m2] at G;simp only[au] at G;subst G;obtain ⟨L,U,E⟩:=hs b f T;rw[n2] at U;simp only[au] at U;subst U;cases f with
    |cells w cs=>obtain ⟨_,_,e,_⟩:=E;simp at e
    |mp q st l v=>obtain ⟨_,_,_,_,e,_⟩:=E;simp at e
    |row i0 l0 b3 b4=>
     obtain ⟨l5,b5,b6,e5,E⟩:=E;simp only[TB.row.injEq] at e5;obtain ⟨rfl,e6,rfl,rfl⟩:=e5;cases e6;obtain ⟨l6,b7,b8,e7,A⟩:=A;simp only[TB.row.injEq] at e7;obtain ⟨rfl,e8,rfl,rfl⟩:=e7;cases e8;have ax:l=X:=by
      rcases A with ⟨⟨an,av,e9⟩,_⟩ | ⟨rfl,_,_,hn⟩
      ·grind
      ·exact (E λi hi=>by
        rcases kL.1 hi with hi | hi
        ·exact hn i hi
        grind [Lp]).1.symm
     subst ax;refine ⟨⟨_,cp,λj l' c0 c3 e=>?_⟩,K,K,n6,?_,?_⟩
     ·grind
     ·rw[RT.c1 (by simp) n7];refine jQ.low ?_;simp only[TC.er,D.low,bz];omega
     ·have:=RT.c1 (by simp) n7;rw[this];exact Or.inr rfl
   ·rw[es] at ht;rcases RY ht with hm | ⟨d9,ht⟩
    ·obtain ⟨m1,m2,m3⟩:=ch _ hm;dsimp only at m1 m2 m3;subst m3;rw[yBr] at m2;obtain ⟨y,hy⟩:=m2;obtain ⟨p1,n1⟩:=jJ hy;obtain ⟨⟨y',p'⟩,n2⟩:=bb t _ n1;obtain ⟨K,n3,_⟩:=W.rg t y' p' n2;exact ⟨True.intro,K,.any,n3,jQ.any _ _,Or.inl rfl⟩
    ·have c4:t∉md:=λhm=>by
      grind [Tn]
     have bt:∀b,(t,b)∈h.hs->∀i l N O,Y[b]?≠some (.row i l N O):=by
      intro b hb i l N O e;obtain ⟨u,G,be,_⟩:=s.2 b _ e;obtain ⟨l2,a0,a2,rfl,_⟩:=be
      grind
     have h1:=hk t _ c4 co bt ht;obtain ⟨K,n3,n4,_⟩:=W.rg t v p h1;obtain ⟨_,_,_,n5⟩:=R0.rg t v p ht;obtain ⟨d2,n6,n7⟩:=RR_wk n4 n5;refine ⟨?_,K,d2,n3,by grind,n7⟩;rw[bk];exact n5.mono ext _
 ·
  have z:b<Y.length:=by grind
  obtain ⟨f,T⟩:∃f,Y[b]? = some f:=⟨_,dW z⟩;obtain ⟨a5,G,be,A⟩:=s.2 b f T;obtain ⟨L,U,E⟩:=hs b f T;obtain ⟨c5,o1,o2⟩:=W.hh.hp b L U;refine ⟨c5,?_⟩;cases f with
  |cells w cs=>
   obtain ⟨w1,a6,rfl,X,c1⟩:=E;obtain ⟨ea,dT,rfl,c6,c7⟩:=A;obtain ⟨w2,M,ez,_,bu,a7⟩:=Z.cells b _ _ G;have:u=.cells w2 M:=by grind [cT]
   subst this;have l2:M.length=cs.length:=bu.trans c6;obtain ⟨a8,o3,a1,_,_⟩:=W.hh.cells U;rw[o1] at o3;simp only[au] at o3;subst o3;have c8:aM (λ(p:Nat×TC) d=>RC p.2 d) a6 a8:=by cases o2;refine aM.Em (by simp) λj p d h1 h2=>?_;rw[lS,h1] at h2;simp only[Cs,au] at h2;exact .inr h2.symm
   clear o2 a1;have a1:=c8;have hl:a8.length=M.length:=by omega
   obtain ⟨es,eb,ec⟩:=Cf (p:=λj e=>∃p2 K,M[j]? = some p2/\a8[j]? = some K/\jQ (cT h md al Y x).length K e/\e=p2.2.er) M.length λj hj=>by
    have q2:=dW hj;have q1:a6[j]? = some _:=dW (by omega);obtain ⟨K,q3,q4⟩:=a1.get j _ q1;rcases a7 j _ q2 with ⟨z1,z2⟩ | ⟨r,i,l,N,O,z1,z2,z3,_⟩
    rotate_left
    ·obtain ⟨_,_,w9,c9,i9,l9,bv,da,q9,v9,y1,y2,y3⟩:=RX hz z1;rw[U] at y1;simp only[au,TB.cells.injEq] at y1;obtain ⟨_,rfl⟩:=y1;rw[q1] at y3;simp only[au] at y3;have g9:=(W.hh.hg b w1 a6 U _ (Av q1)).1;rw[y3] at q4 g9;obtain ⟨t1,t2⟩:=bc r i i9 _ _ _ _ _ _ z2 y2;subst t1;obtain ⟨_,t3⟩:=wj W.hh g9 y2 (by simp);have bw:K=OS (aB i9) r q9:=RT.c1 (x:=.own i9 r bv q9) (by simp) q4;have hr:r<Y.length:=by omega
     refine ⟨K,_,K,q2,q3,?_,?_⟩
     ·rw[bw];refine jQ.low ?_;simp only[OS,D.low,bz];omega
     ·rw[bw,z3,t3,<-t2];rfl
    obtain ⟨_,q5⟩:=c7 j _ z1;rcases q5 with ⟨c,a,q5,q6,_⟩ | ⟨q5,q6⟩
    ·grind [VZ,rdI_wk]
    ·have:=c1 j _ _ q5 q1 λc hc=>by
      rcases kL.1 hc with hc | hc
      ·exact q6 c hc
      ·simp only[Lp,iX] at hc;obtain ⟨⟨b9,j9,r9⟩,hm,e9⟩:=hc;simp only[Pl.h.injEq] at e9;obtain ⟨rfl,rfl,_⟩:=e9;obtain ⟨_,hr,w9,c9,i9,l9,bv,da,q9,v9,y1,y2,y3⟩:=RX hz hm;obtain ⟨b0,y4⟩:∃blk,Y[r9]? = some blk:=⟨_,dW hr⟩;obtain ⟨db,y5,b1⟩:=hs r9 _ y4;rw[y2] at y5;simp only[au] at y5;subst y5;cases b0 with
       |cells w cs=>obtain ⟨_,_,e,_⟩:=b1;simp at e
       |mp q st l v=>obtain ⟨_,_,_,_,e,_⟩:=b1;simp at e
       |row i8 l8 ef eg=>
        obtain ⟨b2,y6,dc,_⟩:=s.2 r9 _ y4;obtain ⟨l7,an,av,rfl,_⟩:=dc
        grind
     rw[this] at q4;exact ⟨_,_,K,q2,q3,by rw[len];exact Yd q4 (R0.hh.hg b w cs T _ (Av q5)).1,rfl⟩
   refine ⟨.cells es,o1,⟨es,rfl,aM.Em (by omega) λj d e h1 h2=>?_⟩,?_⟩
   ·grind
   ·unfold RB TB.er;congr 1;apply VW
    grind
  |row i l N O=>
   obtain ⟨X,aa,ab,rfl,E⟩:=E;obtain ⟨l2,a0,a2,rfl,A⟩:=A;have:u=.row i l2 a0 a2:=by
    have e3:(cT h md al Y x)[b]? = some (.row i l2 a0 a2):=(Z.row b _ _ _ _).1 G
    grind
   subst this;have ax:l2=X:=by
    rcases A with ⟨⟨an,av,e9⟩,_⟩ | ⟨rfl,_,_,hn⟩
    ·grind
    ·exact (E λi hi=>by
      rcases kL.1 hi with hi | hi
      ·exact hn i hi
      grind [Lp]).1.symm
   subst ax;cases o2;exact ⟨_,o1,ObW.XT,rfl⟩
  |mp j st l v=>
   obtain ⟨j1,df,X,v1,rfl,E⟩:=E;obtain ⟨j2,a9,l2,v2,rfl,A⟩:=A;have:u=.mp j2 a9 l2 v2:=by
    have e3:(cT h md al Y x)[b]? = some (.mp j2 a9 l2 v2):=Z.mp b _ _ _ _ G
    grind
   subst this;have di:j2=j1/\a9=df/\HEq l2 X:=by
    rcases A with ⟨⟨v7,e9⟩,_⟩ | ⟨e9,hn⟩
    ·grind
    ·have ei:=E λj st hi=>by
      rcases kL.1 hi with hi | hi
      ·exact hn j st hi
      grind [Lp]
     grind
   obtain ⟨rfl,rfl,hl⟩:=di;cases hl;cases o2;exact ⟨_,o1,⟨rfl,RN (λa=>Rq _ _ _ _) _ _⟩,rfl⟩
 ·
  have z:b<Y.length:=by grind
  obtain ⟨f,T⟩:∃f,Y[b]? = some f:=⟨_,dW z⟩;obtain ⟨a5,G,be,A⟩:=s.2 b f T;cases f with
  |cells w cs=>
   obtain ⟨w3,ej,rfl,l2,c2⟩:=A;obtain ⟨w4,dl,ez,hw,bu,a7⟩:=Z.cells b _ _ G;have e3:(cT h md al Y x)[b]? = some (.cells w4 dl):=ez;rw[bl] at e3;simp only[au,TB.cells.injEq] at e3;obtain ⟨rfl,rfl⟩:=e3;obtain ⟨j,hj⟩:=yBH hq;rcases a7 j q hj with ⟨z1,_⟩ | ⟨r,i,l,N,O,_,z2,z3,_,z4⟩
   ·obtain ⟨r1,r2⟩:=c2 j q z1;refine ⟨?_,jk r1 hw⟩;rcases r2 with ⟨c,a,r2,_⟩ | ⟨r2,_⟩
    ·grind [TY]
    ·exact (R0.hh.hg b w cs T q (Av r2)).1.mono ext
   ·refine ⟨?_,z4⟩;rw[z3];refine ⟨_,(Z.row r _ _ _ _).1 z2,λj l' c0 c3 e=>?_⟩
    grind
  |row i l N O=>
   obtain ⟨_,_,_,rfl,_⟩:=A;have e3:=(Z.row b _ _ _ _).1 G
   grind [cT]
  |mp j st l v=>
   obtain ⟨_,_,_,_,rfl,_⟩:=A;have e4:(cT h md al Y x)[b]? = _:=Z.mp b _ _ _ _ G
   grind
theorem YU(m:Nat)(Y:TH)(al:TA):∀(pre:TA),frzA m Y pre.length (pre++al)=pre.map (λp=>(p.1,Ct m Y p.2))++al:=by
 intro pre;induction pre with
 |nil=>cases al <;> rfl
 |cons x pre ih=>grind [frzA]
theorem lkP_frz{m:Nat}{Y:TH}{al:TA}{t:Nat}{x:RV}{p:Nat}:∀{pre:TA},iI t (pre.map (λp=>(p.1,Ct m Y p.2))++al)=some (x,p) ->
  (∃a,iI t (pre++al)=some (a,p)/\x=Ct m Y a)\/(iI t (pre++al)=some (x,p)/\iI t al=some (x,p)):=by
 intro pre;induction pre with
 |nil=>simp_all
 |cons y pre ih=>
  intro h;obtain ⟨s,y⟩:=y;simp only[rS,JC,iI] at h ⊢
  grind
def mp_low0{j:Nat}{st:Bool}(l:List (Int×TT j)):((FJ (Pv j st) 0 l).all λe=>e.2.1.low 0)=true:=RN (λa=>Rq _ _ _ _) _ _
variable{m:Nat}{Y1:TH}{σD1:ar}
theorem er_low{x:TC}(h:okC m x=true)(e:x≠.any):x.er.low m=true:=by
 cases x with
 |any=>simp_all
 |d x=>exact h
 |own i b v n=>simpa[okC,TC.er,OS,D.low] using h
 |op i b v n k a o=>simpa[okC,TC.er,D.low] using h
 |ap b off len sz k=>simpa[okC,TC.er,D.low] using h
 |os i b v n f len=>simpa[okC,TC.er,D.low] using h
 |Gt g j=>exact Dh h
 |_=>rfl
def PY(m:Nat)(σD1:ar)(b:Nat):Prop:=m<=b/\∃(i:Nat)(l:List (TT i)),σD1[b]? = some (OB (enc i) l)
theorem take_rn(H:RH Y1 σD1)(hm:m<=Y1.length)(x:(Y1.take m).all (okB m)=true):SJ m σD1 (σD1.take m) id (PY m σD1):=by
 have hl:(σD1.take m).length=m:=by grind [RH.len]
 have get:∀i,i<m->∀u,σD1[i]? = some u->(σD1.take m)[i]? = some u:=λi hi u h=>by grind
 have N:Rn m σD1 (σD1.take m) id (PY m σD1):=⟨by omega,λi _=>rfl,λi j _ _ e=>e,λi hi h=>by rw[hl] at hi;have:=h.1;grind,λb h=>h.2,λi hi=>by
  rw[hl] at hi;have y:σD1[i]? = some _:=dW (by grind)
  grind⟩
 refine ⟨N,λi hi=>?_⟩;rw[hl] at hi;have z:i<Y1.length:=by omega
 obtain ⟨u,y,A⟩:=H.hp i _ (dW z);refine ⟨u,u,y,get i hi _ y,?_⟩;unfold RB at A;subst A;have hk:okB m Y1[i]=true:=iK.1 x _ (Av (i:=i) (by simp_all));cases hb:Y1[i] with
 |cells w K=>
  rw[hb] at hk;refine ⟨_,rfl,aM.Em rfl λj a b f s=>?_⟩;rw[f] at s;simp only[au] at s;subst s;rw[lS,cC] at f;obtain ⟨p,E,rfl⟩:=f;have:=iK.1 hk p (Av E);by_cases G:p.2=.any
  ·rw[G];exact dv.any _
  grind [dv.low,er_low]
 |row i l L M=>refine ⟨_,rfl,aM.Em rfl λj a b f s=>?_⟩;rw[f] at s;simp only[au] at s;subst s;rw[lS,cC] at f;obtain ⟨c,_,rfl⟩:=f;exact dv.data N rfl
 |mp j st l v=>exact ⟨rfl,mp_low0 l⟩
def pE{i:Nat}(hi:i<m){blk:TB}(h:Y1[i]? = some blk):(Y1.take m)[i]? = some blk:=by simp_all
theorem Sq(H:RH Y1 σD1)(hm:m<=Y1.length)(N:Rn m σD1 (σD1.take m) id (PY m σD1)){x:TC}{d:D}(G:RC x d)(y:GC Y1 x) :
  ∃s,dv σD1 (σD1.take m) id (PY m σD1) d s/\RC (Cy m Y1 x) s/\GC (Y1.take m) (Cy m Y1 x):=by
 have hl:(Y1.take m).length=m:=by simp_all
 rcases G with rfl | rfl
 ·exact ⟨.any,dv.any _,.inl rfl,True.intro⟩
 have any:∃s,dv σD1 (σD1.take m) id (PY m σD1) x.er s/\RC .any s/\GC (Y1.take m) .any:=⟨.any,dv.any _,.inl rfl,True.intro⟩;have u:∀{b:Nat},Nat.blt b m=true->b<m:=λh=>tR.mp h;cases x with
 |any=>exact any
 |d x=>
  simp only[Cy];split
  ·rename_i h;exact ⟨x,dv.low N h,.inr rfl,by show x.low _=true;simp_all⟩
  omega
 |b e=>exact ⟨_,dv.data N rfl,.inr rfl,True.intro⟩
 |sl i l=>exact ⟨_,dv.data N rfl,.inr rfl,True.intro⟩
 |fp i a o=>exact ⟨_,dv.data N rfl,.inr rfl,True.intro⟩
 |fl n=>exact ⟨_,dv.data N rfl,.inr rfl,True.intro⟩
 |cx a b=>exact ⟨_,dv.data N rfl,.inr rfl,True.intro⟩
 |own i b v n=>
  simp only[Cy];obtain ⟨blk,f,p⟩:=y;split
  ·rename_i h;exact ⟨_,dv.low N (by simpa[TC.er,OS,D.low] using u h),.inr rfl,blk,pE (u h) f,p⟩
  ·rename_i h;split
   ·rename_i j l M O hb;rw[f] at hb;simp only[au] at hb;subst hb;split
    ·rename_i z;have z:=dd z;obtain ⟨rfl,rfl⟩:=(p _ _ _ _ rfl).2 z.symm;obtain ⟨T,A,E⟩:=H.hp b _ f;unfold RB at E;subst E;have K:PY m σD1 b:=⟨by
      grind [Nat.blt_eq],_,_,A⟩
     exact ⟨_,dv.cJ N K A,.inr rfl,True.intro⟩
    omega
   omega
 |op i b v n k a o=>
  simp only[Cy];obtain ⟨blk,f,p⟩:=y;split
  ·rename_i h;exact ⟨_,dv.low N (by grind [TC.er,D.low]),.inr rfl,blk,pE (u h) f,p⟩
  omega
 |Gt g L=>
  simp only[Cy];split
  ·rename_i h;exact ⟨_,dv.low N (Dh h),.inr rfl,by show L.all (CV.low _)=true;simp_all⟩
  omega
 |ap b off len sz k=>
  simp only[Cy];split
  ·rename_i h;exact ⟨_,dv.low N (by grind [TC.er,D.low]),.inr rfl,by show b<_;simp_all⟩
  omega
 |os i b v n U len=>
  simp only[Cy];obtain ⟨blk,f,p⟩:=y;split
  ·rename_i h;exact ⟨_,dv.low N (by grind [TC.er,D.low]),.inr rfl,blk,pE (u h) f,p⟩
  omega
theorem Zv(H:RH Y1 σD1)(hm:m<=Y1.length)(N:Rn m σD1 (σD1.take m) id (PY m σD1)){xs:List TC}{ds:List D}(f:aM RC xs ds)(a:∀x∈xs,GC Y1 x) :
  ∃es,aM (dv σD1 (σD1.take m) id (PY m σD1)) ds es/\aM RC (xs.map (Cy m Y1)) es/\∀x∈xs.map (Cy m Y1),GC (Y1.take m) x:=by
 induction f with
 |nil=>exact ⟨[],.nil,.nil,by simp⟩
 |cons h r ih=>
  obtain ⟨e,i,j,s⟩:=Sq H hm N h (a _ (qY ..));obtain ⟨es,l,p,u⟩:=ih λx b=>a x (o_ _ b);exact ⟨e::es,.cons i l,.cons j p,λx b=>by grind⟩
theorem frzV_ok(H:RH Y1 σD1)(hm:m<=Y1.length)(N:Rn m σD1 (σD1.take m) id (PY m σD1)){al a:TA}{x:RV}{d:D}(e:RR x d)(f:GW al Y1 x) :
  ∃b,dv σD1 (σD1.take m) id (PY m σD1) d b/\RR (Ct m Y1 x) b/\GW a (Y1.take m) (Ct m Y1 x):=by
 have any:∃b,dv σD1 (σD1.take m) id (PY m σD1) d b/\RR (.v (.c .any)) b/\GW a (Y1.take m) (.v (.c .any)):=⟨.any,dv.any _,Or.inl rfl,True.intro⟩;cases x with
 |g c w p x=>exact any
 |v x=>
  cases x with
  |c x=>exact Sq H hm N e f
  |aV h=>exact any
  |agg h=>obtain ⟨ds,rfl,i⟩:=e;obtain ⟨j,l,s,u⟩:=Zv H hm N i f;exact ⟨_,dv.agg l,⟨j,rfl,s⟩,u⟩
def dwr_wk(N:Rn m σD1 (σD1.take m) id (PY m σD1))(hm:m<=σD1.length){d1 d2:D}(h:jQ m d1 d2):dv σD1 (σD1.take m) id (PY m σD1) d1 d2:=λM i w v R j=>by
 have hl:(σD1.take m).length=m:=by simp_all
 have l:=h σD1 (σD1.take m) M i w v (λb hb a p=>⟨a,by grind,rfl⟩) j;have e:mN (σD1.take m).length id M=cZ M m:=by rw[hl];rfl
 rw[e];exact l.sub (λb a hb=>⟨a,hb,rfl⟩) (λ_ _ h=>h) (λc h=>⟨.inl h,rfl⟩) (λc f T s h=>⟨f,h,rfl⟩)
def frz_ok{pre al:TA}{Y:TH}{alD j:AL}{σD:ar}(R0:Ref al Y alD σD)(G:Ref (pre++al) Y1 j σD1)(he:Ext Y Y1)(M:(Y1.take Y.length).all (okB Y.length)=true) :
  ∃A E,wP Y.length j σD1 A E/\Ref (pre.map (λp=>(p.1,Ct Y.length Y1 p.2))++al) (Y1.take Y.length) A E/\Ext Y (Y1.take Y.length):=by
 have hm:Y.length<=Y1.length:=by
  rcases rU Y1.length Y.length with s | ad
  ·obtain ⟨O,e,_⟩:=he Y1.length _ (dW s)
   simp_all
  omega
 have aa:Y.length<=σD1.length:=by rw[G.hh.len];exact hm
 have T:Ext Y (Y1.take Y.length):=λb blk hb=>by
  obtain ⟨O,l,K⟩:=he b blk hb
  grind
 have N:=take_rn G.hh hm M;have y:∀t,∃z,∀x p,iI t (pre.map (λp=>(p.1,Ct Y.length Y1 p.2))++al)=some (x,p)->GW (pre.map (λp=>(p.1,Ct Y.length Y1 p.2))++al) (Y1.take Y.length) x/\∃u,lk t j=some u/\dv σD1 (σD1.take Y.length) id (PY Y.length σD1) u z/\RR x z:=by
  intro t;cases ht:iI t (pre.map (λp=>(p.1,Ct Y.length Y1 p.2))++al) with
  |none=>simp_all
  |some q=>
   obtain ⟨x,p⟩:=q;have:∃z,GW (pre.map (λp=>(p.1,Ct Y.length Y1 p.2))++al) (Y1.take Y.length) x/\∃u,lk t j=some u/\dv σD1 (σD1.take Y.length) id (PY Y.length σD1) u z/\RR x z:=by
    rcases lkP_frz ht with ⟨x0,l,rfl⟩ | ⟨l,K⟩
    ·obtain ⟨u,U,W,h5⟩:=G.rg t x0 p l;obtain ⟨z,h6,h7,h8⟩:=frzV_ok G.hh hm N.toRn W h5;exact ⟨z,h8,u,U,h6,h7⟩
    ·obtain ⟨u,U,W,_⟩:=G.rg t x p l;obtain ⟨_,_,_,h5⟩:=R0.rg t x p K;obtain ⟨z,h6,h7⟩:=RR_wk W h5;exact ⟨z,h5.mono T _,u,U,dwr_wk N.toRn aa h6,h7⟩
   simp_all
 refine ⟨(pre.map (λp=>(p.1,Ct Y.length Y1 p.2))++al).map λp=>(p.1,Classical.choose (y p.1)),σD1.take Y.length,wP.rn N (λb hb=>hb.1) (λt d h=>?_),⟨⟨?_,λb blk hb=>?_,λb w cs hb p hp=>?_⟩,λt x p h=>?_⟩,T⟩
 ·obtain ⟨⟨x,p,U⟩,rfl⟩:=LK (f:=λt=>Classical.choose (y t)) h
  grind
 ·simp_all
 ·have s:b<Y.length:=by grind
  rw[yB3 s] at hb;obtain ⟨ob,l,K⟩:=G.hh.hp b blk hb
  grind
 ·have s:b<Y.length:=by grind
  have ab:=hb;rw[yB3 s] at hb;obtain ⟨l,K⟩:=G.hh.hg b w cs hb p hp;refine ⟨?_,K⟩;have hk:okB Y.length (.cells w cs)=true:=iK.1 M _ (Av ab);have hk:=iK.1 hk p hp;have bt:∀{b:Nat},Nat.blt b Y.length=true->b<Y.length:=λh=>tR.mp h;cases L:p.2 with
  |own i b v n=>rw[L] at l hk;obtain ⟨blk,X,Z⟩:=l;exact ⟨blk,pE (bt hk) X,Z⟩
  |op i b v n k a o=>rw[L] at l hk;obtain ⟨blk,X,Z⟩:=l;exact ⟨blk,pE (bt hk) X,Z⟩
  |os i b v n lo len=>rw[L] at l hk;obtain ⟨blk,X,Z⟩:=l;exact ⟨blk,pE (bt hk) X,Z⟩
  |ap b off len sz k=>rw[L] at hk;show b<_;rw[BZ];have:=bt hk;omega
  |Gt g xs=>rw[L] at hk;show xs.all (CV.low _)=true;rw[BZ,show min Y.length Y1.length=Y.length by omega];exact hk
  |d x=>rw[L] at hk;show x.low _=true;rw[BZ,show min Y.length Y1.length=Y.length by omega];exact hk
  |_=>exact True.intro
 ·obtain ⟨l,u,K,U,W⟩:=Classical.choose_spec (y t) x p h;exact ⟨_,SU (f:=λt=>Classical.choose (y t)) ⟨x,p,h⟩,W,l⟩
def Aj{h:JH}{md:List Nat}{pre al:TA}{Y:TH}{alD a:AL}{σD:ar}{x:rG h.pl}(y:Ref al Y alD σD)(l:Ref (pre++al) Y1 a σD1)(p:Ext Y Y1)(j:FN h md al Y (pre++al) Y1=some x) :
  ∃i aC b f,wP Y.length a σD1 b f/\Ref (i++al) aC b f/\Ext Y aC/\OX h md al Y (i++al) aC=some x:=by
 unfold FN at j;split at j
 ·rename_i s;obtain ⟨b,f,A,E,G⟩:=frz_ok y l p s;rw[show (pre++al).length-al.length=pre.length by simp_all,YU] at j
  grind
 ·refine ⟨pre,Y1,a,σD1,wP.refl ?_,l,p,j⟩;rw[l.hh.len];rcases rU Y1.length Y.length with u | z
  ·obtain ⟨v,e,_⟩:=p Y1.length _ (dW u)
   simp_all
  omega
end
end Go.Abs
end
section
namespace Go.Abs
noncomputable section
variable[Gl][σ:Ty]
section
def mvM(M:Nat->Option Nat)(r t:Nat):Nat->Option Nat:=λb=>if b=t then M r else if b=r then none else M b
def SzM(r t:Nat)(Y1 aC:ar):Prop:=∀b e,b≠t->Y1[b]? = some e->∃a,aC[b]? = some a/\e.sz<=a.sz/\(b=r->e.sz<a.sz)/\(b≠r->a.sz=e.sz)
def FX(r t:Nat)(Y1 aC:ar)(d1 d2:D):Prop:=∀(M:Nat->Option Nat)(a:Nat->Prop)(w:World)(v:Value),V Y1 M a w d1 v->V aC (mvM M r t) a w d2 v
variable{r t:Nat}{Y1 aC:ar}
def FX.any(d:D):FX r t Y1 aC d .any:=λ_ _ _ v _=>.any v
theorem FX.c(x:C):FX r t Y1 aC (.c x) (.c x):=λ_ _ _ v h=>by
 cases h with
 |c h=>exact .c h
theorem FX.ptr(S:SzM r t Y1 aC){b off sz:Nat}(hb:b≠t):FX r t Y1 aC (.ptr b off sz) (.ptr b off sz):=λM z w v h=>by
 cases h with
 |ptr a s h i A=>
  obtain ⟨j,u,x,E,G⟩:=S b s hb h;refine .ptr a j u (jk i x) λK=>?_;by_cases e:b=r
  ·omega
  grind [mvM]
theorem FX.sl(S:SzM r t Y1 aC){b off len es sz:Nat}(hb:b≠t):FX r t Y1 aC (.sl b off len es sz) (.sl b off len es sz):=λM K w v h=>by
 cases h with
 |sl a n cap i x h j z=>
  obtain ⟨s,A,E,O,U⟩:=S b x hb h;refine .sl a n cap i s A (jk j E) λW=>?_;by_cases e:b=r
  ·omega
  ·rcases z (by omega) with q | ⟨c,o,u,T,X,G⟩
   ·simp_all
   ·exact .inr ⟨c,o,u,T,by grind [mvM],G⟩
theorem FX.low(S:SzM r t Y1 aC){d:D}(hl:d.low t=true):FX r t Y1 aC d d:=by
 intro M O w v h;induction h with
 |c h=>exact .c h
 |any v=>exact .any v
 |ptr a x h j s=>simp only[D.low,bz] at hl;exact FX.ptr S (by omega) M O w _ (.ptr a x h j s)
 |sl a n cap A x h j s=>simp only[D.low,bz] at hl;exact FX.sl S (by omega) M O w _ (.sl a n cap A x h j s)
 | @mp b c x h s=>
  simp only[D.low,bz] at hl;obtain ⟨E,u,U,X,Z⟩:=S b x (by omega) h;refine .mp c E u λhe=>?_;by_cases e:b=r
  ·omega
  grind [mvM]
 |fn z W u U s hw G K=>simp only[D.low,bG] at hl;exact .fn z W u U (λi d v a b=>G i d v a b (D.a_ hl.1 i d a)) (λi d v a b=>K i d v a b (D.a_ hl.2 i d a))
 |agg z u s ih=>simp only[D.low] at hl;exact .agg z u (λi d v a b=>ih i d v a b (D.a_ hl i d a))
 |aV z u s ih=>simp only[D.low] at hl;exact .aV z u (λi d v a b=>ih i d v a b (D.a_ hl i d a))
theorem FX.agg{ds es:List D}(h:aM (FX r t Y1 aC) ds es):FX r t Y1 aC (.agg ds) (.agg es):=λM s w v j=>by
 cases j with
 |agg u x j=>refine .agg u (by rw[x,h.len]) λi d v a b=>?_;obtain ⟨z,A,E⟩:=h.get' i d a;exact E M s w v (j i z v A b)
theorem FX.aV{ds es:List D}(h:aM (FX r t Y1 aC) ds es):FX r t Y1 aC (.aV ds) (.aV es):=λM s w v j=>by
 cases j with
 |aV u x j=>refine .aV u (by rw[x,h.len]) λi d v a b=>?_;obtain ⟨z,A,E⟩:=h.get' i d a;exact E M s w v (j i z v A b)
theorem FX.own{es n:Nat}{cs:List D}(u:Y1[r]? = some (.cells cs))(x:aC[t]? = some (.cells cs))(G:n * es=cs.length):FX r t Y1 aC (OS es r n) (OS es t n):=λM K w v h=>by
 cases h with
 |sl a n cap i O h j z=>
  rw[u] at h;simp only[au] at h;subst h;refine .sl a n cap i _ x j λA=>?_;rcases z A with q | ⟨c,o,s,T,U,E⟩
  ·simp_all
  ·exact .inr ⟨c,o,s,T,by grind [mvM],E⟩
def ObMv(r t:Nat)(Y1 aC:ar):Ob->Ob->Prop
 |.cells ds,ob=>∃a,ob=.cells a/\aM (FX r t Y1 aC) ds a
 |.map a k,ob=>ob=.map a k/\(a.all λe=>e.2.1.low t)=true
 |.gone k,ob=>ob=.gone k
theorem ObMv.sz{a b:Ob}(h:ObMv r t Y1 aC a b):b.sz=a.sz:=by
 cases a with
 |cells ds=>obtain ⟨i,rfl,h⟩:=h;simp only[Ob.sz,h.len]
 |map i k=>obtain ⟨rfl,_⟩:=h;rfl
 |gone k=>cases h;rfl
end
theorem wP.le{m m':Nat}{al1 al2:AL}{Y1 aC:ar}(h:wP m al1 Y1 al2 aC)(hm:m'<=m):wP m' al1 Y1 al2 aC:=⟨jk hm h.1,λn s j u i R A=>by
 obtain ⟨x,z,E,G,K,M⟩:=h.2 n s j u i R A;refine ⟨x,z,E,G,K,?_⟩
 grind⟩
section
variable{P:Program}{n:Nat}{al0 al al2:AL}{Y0 Y aC:ar}{Q:nr->AL->ar->Prop}
def NE(P:Program)(ac:aQ)(k:Nat)(n:Nat)(Y0:ar)(al:AL)(Y:ar)(Q:nr->AL->ar->Prop):Prop:=
 ∀ (c : Code), bD P c = some ac -> ∀ (u : Nat -> Option Nat) (f : Nat -> Prop) (h : World) (M : Nat -> Option Nat) (p : Nat -> Prop) (w : World) (a : Act) (K : Exit -> Act -> World -> Prop), Rel Y0 u f h -> Rel Y M p w -> ed n Y M p w al a.tmps ->
  bF Y0 u f h Y M p w->Y0.length<=Y.length->∀i,Mk h.heap.size M p w a.defers i ->
  (∀x j b v l s e,Q x j b->Mk h.heap.size s e l v.defers i->Rel b s e l->ed n b s e l j v.tmps->bF Y0 u f h b s e l->Y0.length<=b.length->K (y_ x) v l)->Code.rq P c K k a w
def NE.start{ac:aQ}{k:Nat}(hs:wP Y0.length al0 Y0 al Y)(h:NE P ac k n Y0 al Y Q):lm P ac k n al0 Y0 Q:=by intro c i M j w a K R A s;obtain ⟨u,x,z,E,G,O,U⟩:=hs.use R R A (bF.refl R) (cP _);exact h c i M j w u x w a K R z E G O a.defers (Mk.refl _ _) s
theorem NE.succ{b:aQ}{k:Nat}(h:Sem P b n al Y λx al1 Y1=>match x with | .normal=>∃al2 aC,wP Y0.length al1 Y1 al2 aC/\NE P b k n Y0 al2 aC Q | x=>Q x al1 Y1):NE P b (k+1) n Y0 al Y Q:=by
 intro c O M0 s w0 M Fz w u K U R A W X z E Z;rw[Is];refine h c O M Fz w u _ R A λx al1 Y1 a' w' M' G hQ j R' A' E' hl=>?_;have E1:=W.trans E' X;have j:=Mk.trans E' W.size E j;cases x with
 |normal=>obtain ⟨al2,aC,hw,hs⟩:=hQ;obtain ⟨M2,F2,R2,A2,E2,l2,W2⟩:=hw.use U R' A' E1 (cP _);exact hs c O M0 s w0 M2 F2 w' a' K U R2 A2 E2 l2 z (j.wth W2) Z
 |exit i=>grind [qt]
 |ret=>exact Z .ret al1 Y1 a' w' M' G hQ j R' A' E1 (jk X hl)
end
section
variable{Y Y1:TH}{σD:ar}{alD:AL}{t r:Nat}
def dfl_len(i:Nat)(l:List (TT i)):(OB (enc i) l).sz<(OB (enc i) (l++[dfl i])).sz:=by have h:0<aB i:=σ.ps i;simp only[Ob.sz,OB,vR,List.flatMap_append,zJ,yBN,List.flatMap_nil,CD,uU];omega
end
def jumps(P:Program)(b:Code)(l:Nat)(Q:Exit->Act->World->Prop):Nat->Act->World->Prop
 |0,_,_=>False
 |k+1,a,w=>b.wp P (Exit.jump l (jumps P b l Q k) Q) a w
theorem Ga{P:Program}{Q:Exit->Act->World->Prop}{c s:Code}{l:Nat}(T:findLabel c l=some s){k:Nat}{a:Act}{w:World}(first:c.wp P (Exit.jump l (jumps P s l Q k) Q) a w):(Code.scope c).wp P Q a w:=by
 intro b E G;have M:gotoIn l (.inScope c::E)=some (.code s::.inScope c::E):=by simp[gotoIn,T]
 have K:∀k a w,jumps P s l Q k a w->∃e N O,Q e N O/\Arrives P (lone (b.at a (.code s::.inScope c::E)) G w) b E G e N O:=by
  intro k;induction k with
  |zero=>intro a w h;exact h.elim
  |succ k ih=>
   intro a w h;obtain ⟨e,f,i,v,j⟩:=h b (.inScope c::E) G;cases e with
   |normal=>exact ⟨.normal,f,i,v,Steps.trans j (.one step_inScope)⟩
   |exit id=>exact ⟨.exit id,f,i,v,λL hk=>j L (by simp[exitTo,hk])⟩
   |goto U=>obtain ⟨rfl,A⟩:=v;obtain ⟨x,y,z,u,p⟩:=ih f i A;exact ⟨x,y,z,u,.of_steps (j _ M) p⟩
   |ret=>exact ⟨_,f,i,v,j⟩
   |panic W=>exact ⟨_,f,i,v,j⟩
   |outgrown=>exact ⟨_,f,i,v,j⟩
 obtain ⟨e,f,i,v,j⟩:=first b (.inScope c::E) G
 cases e with
 |normal=>exact ⟨.normal,f,i,v,.head step_scope (Steps.trans j (.one step_inScope))⟩
 |exit id=>exact ⟨.exit id,f,i,v,λL hk=>.head step_scope (j L (by simp[exitTo,hk]))⟩
 |goto U=>obtain ⟨rfl,A⟩:=v;obtain ⟨x,y,z,u,p⟩:=K _ f i A;exact ⟨x,y,z,u,.of_steps (.head step_scope (j _ M)) p⟩
 |ret=>exact ⟨_,f,i,v,.of_steps (.one step_scope) j⟩
 |panic W=>exact ⟨_,f,i,v,.of_steps (.one step_scope) j⟩
 |outgrown=>exact ⟨_,f,i,v,.of_steps (.one step_scope) j⟩
theorem fl_ok{P:Program}{l:Nat}:∀{b:Code}{a:aQ},bD P b=some a->(∀r,QS l a=some r->∃i,findLabel b l=some i/\bD P i=some r)/\(QS l a=none->findLabel b l=none):=by
 intro b;induction b with
 |seq v z j p=>
  intro a h;simp only[bD] at h;split at h
  ·rename_i s T A E;simp only[au] at h;subst h;obtain ⟨p1,U⟩:=j A;obtain ⟨W,X⟩:=p E;simp only[QS,findLabel];cases G:QS l s with
   |some K=>obtain ⟨i,L,Z⟩:=p1 K G;rw[L];refine ⟨λr f=>?_,λM=>by grind⟩;simp only[au] at f;subst f;exact ⟨_,rfl,by grind [bD]⟩
   |none=>simp_all
  simp_all
 |label N=>
  intro a h;simp only[bD,au] at h;subst h;simp only[QS,findLabel];split
  ·refine ⟨λr f=>?_,λM=>by grind⟩;simp only[au] at f;subst f;exact ⟨_,rfl,rfl⟩
  simp_all
 |scope b ih=>intro a h;simp only[bD,cC] at h;obtain ⟨s,_,rfl⟩:=h;rcases IQ s with ⟨N,r',_,e⟩ | e <;> rw[e] <;> exact ⟨λr f=>by grind [QS],λ_=>rfl⟩
 |region id O u=>
  intro a h;have:QS l a=none:=by
   simp only[bD] at h;split at h
   ·cases u with
    |false=>simp only[b_,cw,au] at h;subst h;rfl
    |true=>simp only[if_true] at h;split at h <;> (simp only[au] at h;subst h;rfl)
   ·simp only[au] at h;subst h;rfl
  exact ⟨λr f=>by simp_all,λ_=>rfl⟩
 |cond o v z j p=>
  intro a h;have:QS l a=none:=by simp only[bD] at h;split at h <;> (simp only[au] at h;subst h;rfl)
  exact ⟨λr f=>by simp_all,λ_=>rfl⟩
 |rangeFunc g ps x y=>intro a h;rcases dZ h with ⟨_,_,_,_,_,_,_,rfl⟩ | rfl <;> exact ⟨λr f=>(by cases f),λ_=>rfl⟩
 |block id b ih=>intro a h;simp only[bD,cC] at h;obtain ⟨s,_,rfl⟩:=h;exact ⟨λr f=>by grind [QS],λ_=>rfl⟩
 |loop b ih=>intro a h;simp only[bD,cC] at h;obtain ⟨s,_,rfl⟩:=h;exact ⟨λr f=>by grind [QS],λ_=>rfl⟩
 |_=>intro a h;simp only[bD,au] at h;subst h;exact ⟨λr f=>by grind [QS],λ_=>rfl⟩
section
variable{P:Program}{n:Nat}{al:AL}{Y:ar}{Q:nr->AL->ar->Prop}
theorem Sem.lbl{l:Nat}(z:Q .normal al Y):Sem P (.lbl l) n al Y Q:=by
 intro c i M E w s K R A G;cases c with
 |label X=>exact wq_label (G .normal al Y s w M E z (Mk.refl _ _) R A (bF.refl R) (cP _))
 |region id O j=>
  simp only[bD] at i;split at i
  ·cases j with
   |false=>simp at i
   |true=>simp only[if_true] at i;split at i <;> simp at i
  ·simp at i
 |seq c1 U=>simp only[bD] at i;split at i <;> simp at i
 |cond o c1 U=>simp only[bD] at i;split at i <;> simp at i
 |scope b=>simp only[bD,cC] at i;obtain ⟨W,_,u⟩:=i;rcases IQ W with ⟨l,r,_,e⟩ | e <;> rw[e] at u <;> simp at u
 |rangeFunc g Z x y=>rcases dZ i with ⟨_,_,_,_,_,_,_,e⟩ | e <;> cases e
 |_=>simp[bD] at i
def Vp(P:Program)(r:aQ)(l:Nat)(k:Nat)(n:Nat)(al:AL)(Y:ar)(Q:nr->AL->ar->Prop):Prop:=
 ∀ (c : Code), bD P c = some r -> ∀ (M : Nat -> Option Nat) (j : Nat -> Prop) (w : World) (a : Act) (K : Exit -> Act -> World -> Prop), Rel Y M j w -> ed n Y M j w al a.tmps ->
  (∀x f b p h i e,Q x f b->Mk w.heap.size i e h p.defers a.defers->Rel b i e h->ed n b i e h f p.tmps->bF Y M j w b i e h->Y.length<=b.length->K (y_ x) p h)->jumps P c l K k a w
def Jmp(P:Program)(r:aQ)(l:Nat)(k:Nat)(n:Nat)(m:Nat)(Q:nr->AL->ar->Prop):nr->AL->ar->Prop
 |.exit i,al,Y=>(i=2 * l+1/\∃al2 aC,wP m al Y al2 aC/\Vp P r l k n al2 aC Q)\/(i % 2=0/\Q (.exit i) al Y)
 |x,al,Y=>Q x al Y
theorem Jmp.use{r:aQ}{l k:Nat}{c:Code}(hc:bD P c=some r){M:Nat->Option Nat}{Fz:Nat->Prop}{w:World}{a:Act}{K:Exit->Act->World->Prop}(R:Rel Y M Fz w)
  (E:∀x A Y' z s u j,Q x A Y'->Mk w.heap.size u j s z.defers a.defers->Rel Y' u j s->ed n Y' u j s A z.tmps->bF Y M Fz w Y' u j s->Y.length<=Y'.length->K (y_ x) z s)
  {x:nr} {al1:AL} {Y1:ar} {z:Act} {s:World} {u:Nat->Option Nat} {j:Nat->Prop} (X:Jmp P r l k n Y.length Q x al1 Y1) (G:Mk w.heap.size u j s z.defers a.defers) (O:Rel Y1 u j s) (U:ed n Y1 u j s al1 z.tmps) (W:bF Y M Fz w Y1 u j s) (hl:Y.length<=Y1.length) :
  Exit.jump l (jumps P c l K k) K (y_ x) z s:=by
 cases x with
 |normal=>exact E .normal al1 Y1 z s u j X G O U W hl
 |ret=>exact E .ret al1 Y1 z s u j X G O U W hl
 |exit i=>
  rcases X with ⟨rfl,al2,aC,hw,hs⟩ | ⟨he,hq⟩
  ·rw[MU];obtain ⟨M2,F2,R2,A2,E2,l2,W2⟩:=hw.use R O U W (cP _);exact ⟨rfl,hs c hc M2 F2 s z K R2 A2 λx Z aa a3 w3 M3 ab ad af R3 A3 E3 ak=>E x Z aa a3 w3 M3 ab ad (Mk.trans E3 E2.size (G.wth W2) af) R3 A3 (E2.trans E3 l2) (jk l2 ak)⟩
  ·have:=E (.exit i) al1 Y1 z s u j hq G O U W hl;rw[BI he] at this ⊢;exact this
def Vp.succ{r:aQ}{l k:Nat}(h:Sem P r n al Y (Jmp P r l k n Y.length Q)):Vp P r l (k+1) n al Y Q:=by intro c i M j w a K R A s;exact (h c i M j w a _ R A λx al1 Y1 W X Z u z E G O U hl=>Jmp.use i R s z E G O U hl).1
theorem Sem.VV{l:Nat}{a r:aQ}(k:Nat)(h:Sem P a n al Y (Jmp P r l k n Y.length Q)):Sem P (.VV l a r) n al Y Q:=by
 intro c i M G w u K R A O;cases c with
 |scope b=>
  simp only[bD,cC] at i;obtain ⟨U,z,j⟩:=i;rcases IQ U with ⟨l',r',W,e⟩ | e
  ·rw[e] at j;simp only[aQ.VV.injEq] at j;obtain ⟨rfl,rfl,rfl⟩:=j;obtain ⟨E,f1,X⟩:=(fl_ok z).1 _ W;exact ⟨Ga f1 (k:=k) (h b z M G w u _ R A λx al1 Y1 a' w' M' Z hQ hd R' A' E' hl=>Jmp.use X R O hQ hd R' A' E' hl).1,λhh=>by simp[Code.calm] at hh⟩
  ·rw[e] at j;simp at j
 |region id aa s=>
  simp only[bD] at i;split at i
  ·cases s with
   |false=>simp at i
   |true=>simp only[if_true] at i;split at i <;> simp at i
  ·simp at i
 |seq c1 c2=>simp only[bD] at i;split at i <;> simp at i
 |cond o c1 c2=>simp only[bD] at i;split at i <;> simp at i
 |rangeFunc g ps x y=>rcases dZ i with ⟨_,_,_,_,_,_,_,e⟩ | e <;> cases e
 |_=>simp[bD] at i
end
end
end Go.Abs
end
