/- DfwT, DfwU, DfwV, DfwW, DfwX, DfwY, DfwZ, DfwOp, DfwEnc, DfwEq, DfwOwn, DfwTq -/
import Derived.Test.YtidolomakdofhaaGreatDoorFwB
import Derived.LoopN
import GoSem.ClaimChange
import Derived.DataReads
import Derived.Below
import Derived.Laws.StructEq
set_option linter.all false
section
namespace Go.Abs
variable[Gl]
def toE:zcX->Exit
 |.normal=>.normal
 |.exit i=>if i % 2=0 then .exit (i / 2) else .goto (i / 2)
 |.ret=>.ret
theorem toE_exit(i:Nat):toE (.exit (2 * i))=.exit i:=by show (if 2 * i % 2=0 then Exit.exit (2 * i / 2) else Exit.goto (2 * i / 2))=_;rw[if_pos (by omega)];congr 1;omega
theorem toE_goto(i:Nat):toE (.exit (2 * i+1))=.goto i:=by show (if (2 * i+1) % 2=0 then Exit.exit ((2 * i+1) / 2) else Exit.goto ((2 * i+1) / 2))=_;rw[if_neg (by omega)];congr 1;omega
theorem toE_other{i:Nat}(h:i % 2=0):toE (.exit i)=.exit (i / 2):=if_pos h
theorem toE_odd{i:Nat}(h:¬i % 2=0):toE (.exit i)=.goto (i / 2):=if_neg h
theorem then_exit{i:Nat}{R:Act->World->Prop}{Q:Exit->Act->World->Prop}{a:Act}{w:World}(h:Q (toE (.exit i)) a w):Exit.then R Q (toE (.exit i)) a w:=by
 by_cases he:i % 2=0
 ·rw[toE_other he] at h ⊢;exact h
 ·rw[toE_odd he] at h ⊢;exact h
theorem inBlock_in{id:Nat}{Q:Exit->Act->World->Prop}{a:Act}{w:World}(h:Q .normal a w):Exit.inBlock id Q (toE (.exit (2 * id))) a w:=by rw[toE_exit];simp only[Exit.inBlock,if_true];exact h
theorem inBlock_out{i id:Nat}{Q:Exit->Act->World->Prop}{a:Act}{w:World}(hi:i≠2 * id)(h:Q (toE (.exit i)) a w):Exit.inBlock id Q (toE (.exit i)) a w:=by
 by_cases he:i % 2=0
 ·rw[toE_other he] at h ⊢;simp only[Exit.inBlock];rw[if_neg (by omega)];exact h
 ·rw[toE_odd he] at h ⊢;exact h
section
variable{P:Program}{orc:Orc2}
theorem evTr_tr{n:Nat}:∀(os:List AOper)(n:Nat)(e e':List D)(U U':Heap)(is:List Info),evTr P orc n os e U=some (e',U',is) ->
  ∃ (env : Nat -> List D) (sg : Nat -> Heap) (wrs : Nat -> List Nat), env 0 = e /\ sg 0 = U /\ env os.length = e' /\ sg os.length = U' /\ is.length = os.length /\
   (∀(i:Nat) ao,os[i]? = some ao->evOper P orc ao (env i) (sg i)=some (env (i+1),sg (i+1),wrs i)/\is[i]? = some (infoOf ao (env i) (sg i).length (sg (i+1)).length (wrs i))) /\
   (∀i,i<os.length->i<n->wrOk (sg i) (sg (i+1)) (wrs i)=true):=by
 intro os;induction os with
 |nil=>intro n e e' U U' is h;simp only[evTr,yAa,yAc] at h;obtain ⟨rfl,rfl,rfl⟩:=h;exact ⟨λ_=>e,λ_=>U,λ_=>[],rfl,rfl,rfl,rfl,rfl,λi ao h=>by simp at h,λi h=>by simp at h⟩
 |cons o os ih=>
  intro n e e' U U' is h;simp only[evTr] at h;split at h
  ·rename_i e1 U1 w1 h1;split at h
   ·rename_i hw;split at h
    ·rename_i e2 U2 is2 h2;simp only[yAa,yAc] at h;obtain ⟨rfl,rfl,rfl⟩:=h;obtain ⟨env,sg,wrs,k1,k2,k3,k4,k5,k6,k7⟩:=ih (n-1) e1 e2 U1 U2 is2 h2;refine ⟨λi=>match i with | 0=>e | i+1=>env i,λi=>match i with | 0=>U | i+1=>sg i,λi=>match i with | 0=>w1 | i+1=>wrs i,rfl,rfl,k3,k4,by simp[k5],λi ao hi=>?_,λi hi hn=>?_⟩
     ·cases i with
      |zero=>simp only[List.getElem?_cons_zero,yAa] at hi;subst hi;simp only[k1,k2];exact ⟨h1,by simp⟩
      |succ i=>have:=k6 i ao (by simpa using hi);exact ⟨this.1,by simpa using this.2⟩
     ·cases i with
      |zero=>
       simp only[k2];simp only[yAt,yAF] at hw;rcases hw with hw | hw
       ·omega
       ·exact hw
      |succ i=>exact k7 i (by simpa using hi) (by omega)
    ·simp at h
   ·simp at h
  ·simp at h
theorem backward_ok{ops:Array Oper}(h:backward ops.toList=true)(j:Nat)(o:Oper)(e:Edge)(ho:ops[j]? = some o)(he:e∈o.after)(hb:Region.binds .any e=true):e.on<j:=by
 have hj:j<ops.size:=(yAv.1 ho).1;have h1:=yAp.1 h j (by simpa using hj);have h2:ops.toList.getD j default=o:=by rw[yAL,yA5,ho];rfl
 rw[h2] at h1;have h3:=yAp.1 h1 e (by simpa using he);rw[hb] at h3;simpa using h3
theorem zdr{α β:Type}{f:α->Option β}:∀{l:List α}{r:List β},l.mapM f=some r->r.length=l.length/\∀(i:Nat) b,r[i]? = some b->∃a,l[i]? = some a/\f a=some b:=by
 intro l;induction l with
 |nil=>intro r h;simp only[List.mapM_nil,Option.pure_def,yAa] at h;subst h;simp
 |cons a l ih=>
  intro r h;simp only[yAS,Option.pure_def,Option.bind_eq_bind,yAe,yAa] at h;obtain ⟨b,hb,r',hr,rfl⟩:=h;obtain ⟨h1,h2⟩:=ih hr;refine ⟨by simp[h1],λi b' hi=>?_⟩;cases i with
  |zero=>simp at hi;subst hi;exact ⟨a,by simp,hb⟩
  |succ i=>simpa using h2 i b' (by simpa using hi)
theorem evOps_frame(O:zbp P orc):∀(os:List AOper)(e e':List D)(U U':Heap)(wr:List Nat),evOps P orc os e U=some (e',U',wr)->U.length<=U'.length/\∀b,b<U.length->b∉wr->U'[b]? = U[b]?:=by
 intro os;induction os with
 |nil=>intro e e' U U' wr h;simp only[evOps,yAa,yAc] at h;obtain ⟨_,rfl,_⟩:=h;exact ⟨yAo _,λ_ _ _=>rfl⟩
 |cons o os ih=>
  intro e e' U U' wr h;simp only[evOps] at h;split at h
  ·rename_i e1 U1 w1 h1;split at h
   ·rename_i e2 U2 w2 h2;simp only[yAa,yAc] at h;obtain ⟨rfl,rfl,rfl⟩:=h;obtain ⟨k1,k2,_⟩:=evOper_frame O h1;obtain ⟨k3,k4⟩:=ih e1 e2 U1 U2 w2 h2;refine ⟨yAA k1 k3,λb hb hn=>?_⟩;simp only[yAE,not_or] at hn;rw[k4 b (by omega) hn.2,k2 b hb hn.1]
   ·simp at h
  ·simp at h
theorem evTr_frame(O:zbp P orc):∀(os:List AOper)(n:Nat)(e e':List D)(U U':Heap)(is:List Info),evTr P orc n os e U=some (e',U',is) ->
  U.length<=U'.length/\∀b,b<U.length->b∉is.flatMap (·.wr)->U'[b]? = U[b]?:=by
 intro os;induction os with
 |nil=>intro n e e' U U' is h;simp only[evTr,yAa,yAc] at h;obtain ⟨_,rfl,_⟩:=h;exact ⟨yAo _,λ_ _ _=>rfl⟩
 |cons o os ih=>
  intro n e e' U U' is h;simp only[evTr] at h;split at h
  ·rename_i e1 U1 w1 h1;split at h
   ·split at h
    ·rename_i e2 U2 is2 h2;simp only[yAa,yAc] at h;obtain ⟨rfl,rfl,rfl⟩:=h;obtain ⟨k1,k2,_⟩:=evOper_frame O h1;obtain ⟨k3,k4⟩:=ih _ e1 e2 U1 U2 is2 h2;refine ⟨yAA k1 k3,λb hb hn=>?_⟩;simp only[yBi,yAE,not_or] at hn;rw[k4 b (by omega) hn.2,k2 b hb hn.1]
    ·simp at h
   ·simp at h
  ·simp at h
theorem evC_frame(O:zbp P orc):∀(k:Nat)(c:ACode)(e e':List D)(U U':Heap)(wr wr':List Nat)(x:zcX),evC P orc k c e U wr=some (x,e',U',wr') ->
  U.length<=U'.length/\(∀b∈wr,b∈wr')/\∀b,b<U.length->b∉wr'->U'[b]? = U[b]?:=by
 intro k;induction k with
 |zero=>intro c e e' U U' wr wr' x h;simp[evC] at h
 |succ k ih=>
  intro c e e' U U' wr wr' x h;cases c with
  |skip=>simp only[evC,yAa,yAc] at h;obtain ⟨_,_,rfl,rfl⟩:=h;exact ⟨yAo _,λ_ h=>h,λ_ _ _=>rfl⟩
  |exit id=>simp only[evC,yAa,yAc] at h;obtain ⟨_,_,rfl,rfl⟩:=h;exact ⟨yAo _,λ_ h=>h,λ_ _ _=>rfl⟩
  |ret=>simp only[evC,yAa,yAc] at h;obtain ⟨_,_,rfl,rfl⟩:=h;exact ⟨yAo _,λ_ h=>h,λ_ _ _=>rfl⟩
  |stuck=>simp[evC] at h
  |lbl l=>simp[evC] at h
  |scp l a r=>simp[evC] at h
  |reg os=>simp only[evC,yAd,yAc] at h;obtain ⟨⟨e1,U1,w1⟩,h1,_,_,rfl,rfl⟩:=h;obtain ⟨k1,k2⟩:=evOps_frame O os _ _ _ _ _ h1;exact ⟨k1,λb hb=>by simp[hb],λb hb hn=>k2 b hb (λh=>hn (by simp[h]))⟩
  |drw os bef n p=>
   have one:∀n e1 U1 w1,evDrw P orc os bef p n e U=some (e1,U1,w1)->U.length<=U1.length/\∀b,b<U.length->b∉w1->U1[b]? = U[b]?:=by
    intro n e1 U1 w1 h1;unfold evDrw at h1;split at h1
    ·rename_i e2 U2 is h2;split at h1
     ·simp only[yAa,yAc] at h1;obtain ⟨_,rfl,rfl⟩:=h1;exact evTr_frame O os _ _ _ _ _ _ h2
     ·simp at h1
    ·simp at h1
   simp only[evC] at h;split at h
   ·rename_i e1 U1 w1 h1;simp only[yAa,yAc] at h;obtain ⟨_,_,rfl,rfl⟩:=h;obtain ⟨k1,k2⟩:=one _ _ _ _ h1;exact ⟨k1,λb hb=>yAE.2 (.inr hb),λb hb hn=>k2 b hb (λh=>hn (yAE.2 (.inl h)))⟩
   ·split at h
    ·rename_i e1 U1 w1 h1;simp only[yAa,yAc] at h;obtain ⟨_,_,rfl,rfl⟩:=h;obtain ⟨k1,k2⟩:=one _ _ _ _ h1;exact ⟨k1,λb hb=>yAE.2 (.inr hb),λb hb hn=>k2 b hb (λh=>hn (yAE.2 (.inl h)))⟩
    ·split at h
     ·rename_i e1 U1 w1 h1;simp only[yAa,yAc] at h;obtain ⟨_,_,rfl,rfl⟩:=h;obtain ⟨k1,k2⟩:=one _ _ _ _ h1;exact ⟨k1,λb hb=>yAE.2 (.inr hb),λb hb hn=>k2 b hb (λh=>hn (yAE.2 (.inl h)))⟩
     ·simp at h
  |seq a b=>
   simp only[evC] at h;split at h
   ·rename_i e1 U1 wr1 h1;obtain ⟨k1,k2,k3⟩:=ih a _ _ _ _ _ _ _ h1;obtain ⟨m1,m2,m3⟩:=ih b _ _ _ _ _ _ _ h;exact ⟨yAA k1 m1,λb hb=>m2 b (k2 b hb),λb hb hn=>by rw[m3 b (by omega) hn,k3 b hb (λh=>hn (m2 b h))]⟩
   ·exact ih a _ _ _ _ _ _ _ h
  |cond o a b=>
   simp only[evC] at h;split at h
   ·exact ih a _ _ _ _ _ _ _ h
   ·exact ih b _ _ _ _ _ _ _ h
   ·simp at h
  |block id b=>
   simp only[evC] at h;split at h
   ·rename_i i e1 U1 wr1 h1;have:=ih b _ _ _ _ _ _ _ h1;split at h <;> (simp only[yAa,yAc] at h;obtain ⟨_,_,rfl,rfl⟩:=h;exact this)
   ·exact ih b _ _ _ _ _ _ _ h
  |loop b=>
   simp only[evC] at h;split at h
   ·rename_i e1 U1 wr1 h1;obtain ⟨k1,k2,k3⟩:=ih b _ _ _ _ _ _ _ h1;obtain ⟨m1,m2,m3⟩:=ih (.loop b) _ _ _ _ _ _ _ h;exact ⟨yAA k1 m1,λb hb=>m2 b (k2 b hb),λb hb hn=>by rw[m3 b (by omega) hn,k3 b hb (λh=>hn (m2 b h))]⟩
   ·exact ih b _ _ _ _ _ _ _ h
theorem region_wp(O:zbp P orc){id:Nat}{ops:Array Oper}{os:List AOper}{U U':Heap}{M:Nat->Option Nat}{Fz:Nat->Prop}{w:World}{e e':List D}{a:Act}{wr:List Nat}{Q:Exit->Act->World->Prop}
  (hc:ops.toList.mapM (compOper P ops)=some os) (R:Rel U M Fz w) (E:zas U M Fz w e a.tmps) (h:evOps P orc os e U=some (e',U',wr))
  (hQ:∀a' w' M' Fz',a'.defers=a.defers->Rel U' M' Fz' w'->zas U' M' Fz' w' e' a'.tmps->Evo U M Fz w U' M' Fz' w'->Q .normal a' w'):(Code.region id ops false).wp P Q a w:=by
 obtain ⟨h1,h2⟩:=zdr hc;refine wp_region ?_;have:=ops_wp O (ops:=ops) (Q:=Q) os 0 U U' M Fz w e e' a wr (λj ao hj=>by obtain ⟨o,ho,hco⟩:=h2 j ao hj;exact ⟨o,by simpa using ho,hco⟩) R E h (λa' w' M' Fz' x1 x2 x3 x4 _=>hQ a' w' M' Fz' x1 x2 x3 x4)
 rw[List.range_eq_range'];simpa[h1] using this
theorem leads_spec{ops:Array Oper}:∀(k i j:Nat),i<=j->j<i+leads ops k i->leadOk ops j=true:=by
 intro k;induction k with
 |zero=>intro i j h1 h2;simp[leads] at h2;omega
 |succ k ih=>
  intro i j h1 h2;simp only[leads] at h2;split at h2
  ·rename_i h;by_cases e:i=j
   ·subst e;exact h
   ·exact ih (i+1) j (by omega) (by omega)
  ·omega
theorem lead_spec{ops:Array Oper}{i:Nat}(h:i<lead ops):Region.noSelect ops=true/\leadOk ops i=true:=by
 unfold lead at h;split at h
 ·rename_i hn;exact ⟨hn,leads_spec ops.size 0 i (by omega) (by omega)⟩
 ·omega
def normQ(Q:Exit->Act->World->Prop):Exit->Act->World->Prop:=λx a w=>x=.normal/\Q .normal a w
theorem wpOp_normQ{ops:Array Oper}{Q:Exit->Act->World->Prop}{i:Nat}{a:Act}{w:World}{K:Act->World->Prop}(h:wpOp P ops (normQ Q) i K a w):wpOp P ops Q i K a w:=by
 unfold wpOp at *;split
 ·rename_i ho;simpa[ho] using h
 ·rename_i o ho;simp only[ho] at h;split
  ·rename_i hw;simp only[hw,if_true] at h;rcases h with h | ⟨_,a',w',h,_⟩
   ·left;unfold Oper.wp at *;generalize (execOp a.eval o).run P w=r at *;cases r with
    |ok n w'=>
     cases n <;> simp only[Oper.upon] at h ⊢ <;>
      first
       |exact h
       |exact Calls.mono h (λe w'' he=>by
         cases e with
         |returned v=>exact he
         |panicked c=>exact absurd he.1 (by simp)
         |outgrown=>obtain ⟨a',w',h',_⟩:=he;exact absurd h' (by simp))
    |halt x w'=>
     cases x <;> simp only[Oper.upon] at h ⊢
     exact absurd h.1 (by simp)
   ·exact absurd h (by simp)
  ·rename_i hw;simp only[hw] at h;exact h
theorem wpAny_normQ{ops:Array Oper}{Q:Exit->Act->World->Prop}{md:Region.Mode}:∀(fuel:Nat)(listed:Array Bool)(a:Act)(w:World),wpAny P md ops (normQ Q) fuel listed a w->wpAny P md ops Q fuel listed a w:=by
 intro fuel;induction fuel with
 |zero=>intro listed a w h;exact ⟨h.1,h.2.2⟩
 |succ fuel ih=>intro listed a w h;exact ⟨λhr=>(h.1 hr).2,λi hi=>wpOp_normQ (wpOp_mono (λa' w' h'=>ih _ a' w' h') (h.2 i hi))⟩
theorem lead_wp{ops:Array Oper}{Q:Exit->Act->World->Prop}{p:Nat}{w:World}(hp:p<=lead ops)(hps:p<=ops.size)(J:Nat->Act->Prop)
  (hJ:∀i o x a,i<p->ops[i]? = some o->(o.op=.move x∨o.op=.assign x)->o.guard=none->J i a->J (i+1) (a.put o.dst (a.eval x)))
  (hend:∀a,J p a->wpAny P .any ops (normQ Q) (ops.size-p) (zc6 ops.size p) a w):∀k a,k<=p->J (p-k) a->wpAny P .any ops (normQ Q) (ops.size-(p-k)) (zc6 ops.size (p-k)) a w:=by
 intro k;induction k with
 |zero=>intro a _ h;exact hend a h
 |succ k ih=>
  intro a hk h;obtain ⟨i,rfl⟩:∃i,p=i+(k+1):=⟨p-(k+1),by omega⟩;have e1:i+(k+1)-(k+1)=i:=by omega
  have e2:i+(k+1)-k=i+1:=by omega
  rw[e1] at h ⊢;obtain ⟨hns,hlo⟩:=lead_spec (ops:=ops) (i:=i) (by omega);simp only[leadOk,yAj] at hlo;obtain ⟨⟨h1,h2⟩,h3⟩:=hlo;cases ho:ops[i]? with
  |none=>rw[ho] at h1;simp at h1
  |some o=>
   rw[ho] at h1;simp only[Option.map_some,Option.getD_some,isMv,yAj,Option.isNone_iff_eq_none] at h1;obtain ⟨hg,hop⟩:=h1;have hx:∃x,o.op=.move x∨o.op=.assign x:=by
    split at hop
    ·exact ⟨_,.inl ‹_›⟩
    ·exact ⟨_,.inr ‹_›⟩
    ·simp at hop
   obtain ⟨x,hx⟩:=hx;have hy:Go.Yields P ops o (a.eval x) a:=by left;refine ⟨by simp[Region.wanted,hg],λw=>?_⟩;rcases hx with hx | hx <;> simp[execOp,hx]
   have e3:ops.size-i=(ops.size-(i+1))+1:=by omega
   rw[e3];refine wpAny_take ho hns h2 h3 (λc a w h=>absurd h.1 (by simp)) hy ?_;have:=ih (a.put o.dst (a.eval x)) (by omega) (by rw[e2];exact hJ i o x a (by omega) ho hx hg h);rw[e2] at this;exact this
theorem draw_wp (hmix:P.follows .mixedOrders=true) (O:zbp P orc) {id n:Nat} {ops:Array Oper} {os:List AOper} {U U':Heap} {M:Nat→Option Nat} {Fz:Nat→Prop} {w:World} {e e':List D} {a:Act} {is:List Info} {Q:Exit→Act→World→Prop}
  (hc:ops.toList.mapM (compOper P ops)=some os) (hback:backward ops.toList=true) (R:Rel U M Fz w) (E:zas U M Fz w e a.tmps) (h:evTr P orc n os e U=some (e',U',is)) (hn:n≤os.length)
  (hp:pairsOk (befs ops.toList) is=true) (ht:tailOk (befs ops.toList) (lead ops) n os.length=true) (hpn:lead ops≤n)
  (hQ:∀a' w' M' Fz',a'.defers=a.defers→Rel U' M' Fz' w'→zas U' M' Fz' w' e' a'.tmps→Evo U M Fz w U' M' Fz' w'→Q .normal a' w'):(Code.region id ops true).wp P Q a w:=by
 obtain ⟨h1,h2⟩:=zdr hc
 obtain ⟨env,sg,wrs,k1,k2,k3,k4,k5,k6,k7⟩:=evTr_tr (n:=n) os n e e' U U' is h
 subst k1 k2 k3 k4
 have hlen:os.length=ops.size:=by simpa using h1
 have mv:∀i o x,i<lead ops→ops[i]? = some o→(o.op=.move x∨o.op=.assign x)→o.guard=none→∃ox,opd x=some ox∧env (i+1)=putE (env i) o.dst (ox.ev (env i))∧sg (i+1)=sg i∧wrs i=[]:=by
  intro i o x hi ho hx hg
  have hil:i<os.length:=by have:=(yAv.1 ho).1; omega
  obtain ⟨o',ho',hco⟩:=h2 i _ (yAg hil)
  rw [yA5,ho] at ho'
  simp only [yAa] at ho'
  subst ho'
  have hst:=(k6 i _ (yAg hil)).1
  unfold compOper at hco
  rw [hg] at hco
  simp only [compG] at hco
  cases hox:opd x with
  | none=>rcases hx with hx | hx <;> (rw [hx] at hco; simp [comp,zb5,hox] at hco)
  | some ox =>
   have hcm:comp P o.op o.type=some (.mov ox):=by
    rcases hx with hx | hx <;> (rw [hx]; simp [comp,zb5,hox,isCall,isSel])
   rw [hcm] at hco
   simp only [yAa] at hco
   rw [←hco] at hst
   simp only [evOper,wantE,zaB,Option.map_some,yAa,yAc] at hst
   exact ⟨ox,rfl,hst.1.symm,hst.2.1.symm,hst.2.2.symm⟩
 have htl:∀i j,lead ops≤i→i<j→n≤j→j<os.length→Bef ops i j:=fun i j hpi hij hnj hj=>by
  have h3:=yAp.1 ht j (by simpa using hj)
  simp only [yAt,yAf] at h3
  rcases h3 with h3 | h3
  ·omega
  ·have h4:=yAp.1 h3 i (by simpa using hij)
   simp only [yAt] at h4
   rcases h4 with h4 | h4
   ·have:i<lead ops:=yAQ.mp h4
    omega
   ·exact befs_ok h4
 have T:Tr P orc ops os (lead ops) n env sg wrs:={
  len:=hlen
  comp:=fun j ao hj=>by obtain ⟨o,ho,hco⟩:=h2 j ao hj; exact ⟨o,by simpa using ho,hco⟩
  step:=fun i ao hi=>(k6 i ao hi).1
  wrk:=fun i hi=>k7 i (by omega) hi
  le:=hn
  pair:=fun i j x y hij hx hy=>by
   have hj:=(yAb.1 hy).1
   have h3:=yAp.1 hp j (by simp; omega)
   have h4:=yAp.1 h3 i (by simpa using hij)
   simp only [yAt] at h4
   rcases h4 with h4 | h4
   ·exact .inl (befs_ok h4)
   ·right
    simp only [yAL,(k6 i x hx).2,(k6 j y hy).2,Option.getD_some] at h4
    exact h4
  lead:=fun i hi=>by
   obtain ⟨_,hlo⟩:=lead_spec hi
   simp only [leadOk,yAj] at hlo
   cases ho:ops[i]? with
   | none=>rw [ho] at hlo; simp at hlo
   | some o =>
    have h1:=hlo.1.1
    rw [ho] at h1
    simp only [Option.map_some,Option.getD_some,isMv,yAj,Option.isNone_iff_eq_none] at h1
    obtain ⟨hg,hop⟩:=h1
    have hx:∃x,o.op=.move x∨o.op=.assign x:=by
     split at hop
     ·exact ⟨_,.inl ‹_›⟩
     ·exact ⟨_,.inr ‹_›⟩
     ·simp at hop
    obtain ⟨x,hx⟩:=hx
    obtain ⟨_,_,_,h5,h6⟩:=mv i o x hi ho hx hg
    exact ⟨h5,h6⟩
  ple:=hpn }
 refine wp_region_any hmix ?_
 have R1:Rel (sg 0) M Fz { w with drawn:=w.drawn+1 }:=R.heap rfl ⟨rfl,rfl,rfl⟩
 have EH:Evo (sg 0) M Fz w (sg 0) M Fz { w with drawn:=w.drawn+1 }:=Evo.heap R rfl ⟨rfl,rfl,rfl⟩
 refine wpAny_normQ _ _ _ _ ?_
 have main:=lead_wp (P:=P) (ops:=ops) (Q:=Q) (p:=lead ops) (w:={ w with drawn:=w.drawn+1 }) (yAo _) (by omega)
  (fun i b=>zas (sg 0) M Fz { w with drawn:=w.drawn+1 } (env i) b.tmps∧b.defers=a.defers)
  (fun i o x b hi ho hx hg hJ=>by
   obtain ⟨ox,hox,h3,h4,_⟩:=mv i o x hi ho hx hg
   refine ⟨?_,by rw [←hJ.2]; cases o.dst <;> rfl⟩
   rw [h3]
   exact hJ.1.put o.dst (za5 hJ.1 hox))
  (fun b hJ=>by
   refine drawn_wp O T htl (backward_ok hback) R1 hJ.1 fun a' w' M' Fz' hd R' E' EV=>⟨rfl,?_⟩
   exact hQ a' w' M' Fz' (by rw [hd,hJ.2]) R' E' (EH.trans EV (yAo _)))
  (lead ops) a (yAo _) (by rw [yBV]; exact ⟨E.mono EH,rfl⟩)
 rw [yBV,Nat.sub_zero] at main
 exact main
theorem lastCall_le(os:List AOper):lastCall os<=os.length:=by unfold lastCall;omega
theorem firstAppend_le(os:List AOper):firstAppend os<=os.length:=by
 induction os with
 |nil=>simp[firstAppend]
 |cons o os ih=>
  unfold firstAppend;split <;> simp
  exact ih
theorem code_wp (hmix:P.follows .mixedOrders=true) (O:zbp P orc):∀(k:Nat),
  (∀(c:Code) (ac:ACode) (U U':Heap) (M:Nat→Option Nat) (Fz:Nat→Prop) (w:World) (e e':List D) (a:Act) (wr wr':List Nat) (x:zcX) (Q:Exit→Act→World→Prop),zaL P c=some ac→Rel U M Fz w→zas U M Fz w e a.tmps →
   evC P orc k ac e U wr=some (x,e',U',wr')→(∀a' w' M' Fz',a'.defers=a.defers→Rel U' M' Fz' w'→zas U' M' Fz' w' e' a'.tmps→Evo U M Fz w U' M' Fz' w'→Q (toE x) a' w')→c.wp P Q a w) ∧
  (∀(c:Code) (ac:ACode) (U U':Heap) (M:Nat→Option Nat) (Fz:Nat→Prop) (w:World) (e e':List D) (a:Act) (wr wr':List Nat) (x:zcX) (Q:Exit→Act→World→Prop),zaL P c=some ac→Rel U M Fz w→zas U M Fz w e a.tmps →
   evC P orc k (.loop ac) e U wr=some (x,e',U',wr')→(∀a' w' M' Fz',a'.defers=a.defers→Rel U' M' Fz' w'→zas U' M' Fz' w' e' a'.tmps→Evo U M Fz w U' M' Fz' w'→Q (toE x) a' w')→Code.rounds P c Q k a w):=by
 intro k
 induction k with
 | zero=>exact ⟨fun c ac U U' M Fz w e e' a wr wr' x Q _ _ _ h=>by simp [evC] at h,fun c ac U U' M Fz w e e' a wr wr' x Q _ _ _ h=>by simp [evC] at h⟩
 | succ k ih =>
  obtain ⟨ih1,ih2⟩:=ih
  have body:∀(c:Code) (ac:ACode) (U U':Heap) (M:Nat→Option Nat) (Fz:Nat→Prop) (w:World) (e e':List D) (a:Act) (wr wr':List Nat) (x:zcX) (Q:Exit→Act→World→Prop),zaL P c=some ac→Rel U M Fz w→zas U M Fz w e a.tmps →
   evC P orc (k+1) (.loop ac) e U wr=some (x,e',U',wr')→(∀a' w' M' Fz',a'.defers=a.defers→Rel U' M' Fz' w'→zas U' M' Fz' w' e' a'.tmps→Evo U M Fz w U' M' Fz' w'→Q (toE x) a' w')→Code.rounds P c Q (k+1) a w:=by
   intro c ac U U' M Fz w e e' a wr wr' x Q hc R E h hQ
   rw [rounds_succ]
   simp only [evC] at h
   split at h
   ·rename_i e1 U1 wr1 h1
    have hl:=(evC_frame O _ _ _ _ _ _ _ _ _ h1).1
    refine ih1 c ac U U1 M Fz w e e1 a wr wr1 .normal _ hc R E h1 fun a1 w1 M1 Fz1 hd R1 E1 EV1=>?_
    exact ih2 c ac U1 U' M1 Fz1 w1 e1 e' a1 wr1 wr' x Q hc R1 E1 h fun a2 w2 M2 Fz2 hd2 R2 E2 EV2=>hQ a2 w2 M2 Fz2 (by rw [hd2,hd]) R2 E2 (EV1.trans EV2 hl)
   ·rename_i hne
    have hx:x≠.normal:=fun hx=>by subst hx; exact hne _ _ _ h
    refine ih1 c ac U U' M Fz w e e' a wr wr' x _ hc R E h fun a1 w1 M1 Fz1 hd R1 E1 EV1=>?_
    have:=hQ a1 w1 M1 Fz1 hd R1 E1 EV1
    cases x with
    | normal=>exact absurd rfl hx
    | exit i=>exact then_exit this
    | ret=>exact this
  refine ⟨?_,body⟩
  intro c ac U U' M Fz w e e' a wr wr' x Q hc R E h hQ
  cases c with
  | skip =>
   simp only [zaL,yAa] at hc
   subst hc
   simp only [evC,yAa,yAc] at h
   obtain ⟨rfl,rfl,rfl,_⟩:=h
   exact wp_skip (hQ a w M Fz rfl R E (Evo.refl R))
  | exit id =>
   simp only [zaL,yAa] at hc
   subst hc
   simp only [evC,yAa,yAc] at h
   obtain ⟨rfl,rfl,rfl,_⟩:=h
   have:=hQ a w M Fz rfl R E (Evo.refl R)
   rw [toE_exit] at this
   exact wp_exit this
  | goto l =>
   simp only [zaL,yAa] at hc
   subst hc
   simp only [evC,yAa,yAc] at h
   obtain ⟨rfl,rfl,rfl,_⟩:=h
   have:=hQ a w M Fz rfl R E (Evo.refl R)
   rw [toE_goto] at this
   exact wp_goto this
  | scope b =>
   simp only [zaL,yAd] at hc
   obtain ⟨a1,_,rfl⟩:=hc
   rcases zc0 a1 with ⟨l,r,_,e⟩ | e <;> rw [e] at h <;> simp [evC] at h
  | ret =>
   simp only [zaL,yAa] at hc
   subst hc
   simp only [evC,yAa,yAc] at h
   obtain ⟨rfl,rfl,rfl,_⟩:=h
   exact wp_ret (hQ a w M Fz rfl R E (Evo.refl R))
  | region id ops draw =>
   simp only [zaL] at hc
   split at hc
   ·rename_i os hos
    cases draw with
    | false =>
     simp only [yAh,yAx,yAa] at hc
     subst hc
     simp only [evC,yAd,yAc] at h
     obtain ⟨⟨e1,U1,w1⟩,h1,rfl,rfl,rfl,_⟩:=h
     exact region_wp O hos R E h1 hQ
    | true =>
     simp only [if_true] at hc
     split at hc
     ·rename_i hback
      simp only [yAa] at hc
      subst hc
      have one:∀n e1 U1 w1,n≤os.length→evDrw P orc os (befs ops.toList) (lead ops) n e U=some (e1,U1,w1)→x=.normal→e1=e'→U1=U'→(Code.region id ops true).wp P Q a w:=by
       intro n e1 U1 w1 hn h1 hx he hs
       unfold evDrw at h1
       split at h1
       ·rename_i e2 U2 is h2
        split at h1
        ·rename_i hchk
         simp only [yAj] at hchk
         simp only [yAa,yAc] at h1
         obtain ⟨rfl,rfl,rfl⟩:=h1
         subst hx he hs
         exact draw_wp hmix O hos hback R E h2 hn hchk.1.1 hchk.1.2 (yA8 hchk.2) hQ
        ·simp at h1
       ·simp at h1
      simp only [evC] at h
      split at h
      ·rename_i e1 U1 w1 h1
       simp only [yAa,yAc] at h
       exact one _ _ _ _ (firstAppend_le os) h1 h.1.symm h.2.1 h.2.2.1
      ·split at h
       ·rename_i e1 U1 w1 h1
        simp only [yAa,yAc] at h
        exact one _ _ _ _ (lastCall_le os) h1 h.1.symm h.2.1 h.2.2.1
       ·split at h
        ·rename_i e1 U1 w1 h1
         simp only [yAa,yAc] at h
         exact one _ _ _ _ (yAo _) h1 h.1.symm h.2.1 h.2.2.1
        ·simp at h
     ·simp only [yAa] at hc; subst hc; simp [evC] at h
   ·simp only [yAa] at hc; subst hc; simp [evC] at h
  | seq c1 c2 =>
   simp only [zaL] at hc
   split at hc
   ·rename_i a1 a2 h1 h2
    simp only [yAa] at hc
    subst hc
    simp only [evC] at h
    split at h
    ·rename_i e1 U1 wr1 hev
     have hl:=(evC_frame O _ _ _ _ _ _ _ _ _ hev).1
     refine wp_seq (ih1 c1 a1 U U1 M Fz w e e1 a wr wr1 .normal _ h1 R E hev fun a1' w1 M1 Fz1 hd R1 E1 EV1=>?_)
     exact ih1 c2 a2 U1 U' M1 Fz1 w1 e1 e' a1' wr1 wr' x Q h2 R1 E1 h fun a2' w2 M2 Fz2 hd2 R2 E2 EV2=>hQ a2' w2 M2 Fz2 (by rw [hd2,hd]) R2 E2 (EV1.trans EV2 hl)
    ·rename_i hne
     have hx:x≠.normal:=fun hx=>by subst hx; exact hne _ _ _ h
     refine wp_seq (ih1 c1 a1 U U' M Fz w e e' a wr wr' x _ h1 R E h fun a1' w1 M1 Fz1 hd R1 E1 EV1=>?_)
     have:=hQ a1' w1 M1 Fz1 hd R1 E1 EV1
     cases x with
     | normal=>exact absurd rfl hx
     | exit i=>exact then_exit this
     | ret=>exact this
   ·simp at hc
  | cond o c1 c2 =>
   simp only [zaL] at hc
   split at hc
   ·rename_i oo a1 a2 h0 h1 h2
    simp only [yAa] at hc
    subst hc
    simp only [evC] at h
    have hv:=za5 E h0
    split at h
    ·rename_i ht
     exact wp_cond_true (litBool_inv hv ht) (ih1 c1 a1 U U' M Fz w e e' a wr wr' x Q h1 R E h hQ)
    ·rename_i ht
     exact wp_cond_false (litBool_inv hv ht) (ih1 c2 a2 U U' M Fz w e e' a wr wr' x Q h2 R E h hQ)
    ·simp at h
   ·simp only [yAa] at hc; subst hc; simp [evC] at h
  | block id c1 =>
   simp only [zaL,yAd] at hc
   obtain ⟨a1,h1,rfl⟩:=hc
   simp only [evC] at h
   refine wp_block ?_
   split at h
   ·rename_i i e1 U1 wr1 hev
    split at h
    ·rename_i hid
     simp only [yAa,yAc] at h
     obtain ⟨rfl,rfl,rfl,_⟩:=h
     refine ih1 c1 a1 U U1 M Fz w e e1 a wr wr1 (.exit i) _ h1 R E hev fun a1' w1 M1 Fz1 hd R1 E1 EV1=>?_
     have:=hQ a1' w1 M1 Fz1 hd R1 E1 EV1
     rw [hid]
     exact inBlock_in this
    ·rename_i hid
     simp only [yAa,yAc] at h
     obtain ⟨rfl,rfl,rfl,_⟩:=h
     refine ih1 c1 a1 U U1 M Fz w e e1 a wr wr1 (.exit i) _ h1 R E hev fun a1' w1 M1 Fz1 hd R1 E1 EV1=>?_
     have:=hQ a1' w1 M1 Fz1 hd R1 E1 EV1
     exact inBlock_out hid this
   ·rename_i hne
    refine ih1 c1 a1 U U' M Fz w e e' a wr wr' x _ h1 R E h fun a1' w1 M1 Fz1 hd R1 E1 EV1=>?_
    have:=hQ a1' w1 M1 Fz1 hd R1 E1 EV1
    cases x with
    | normal=>exact this
    | exit i=>exact absurd h (hne _ _ _ _)
    | ret=>exact this
  | loop c1 =>
   simp only [zaL,yAd] at hc
   obtain ⟨a1,h1,rfl⟩:=hc
   exact wp_loop_rounds (k+1) (body c1 a1 U U' M Fz w e e' a wr wr' x Q h1 R E h hQ)
  | _=>simp only [zaL,yAa] at hc; subst hc; simp [evC] at h
end
end Go.Abs
end
section
namespace Go.Abs
variable[Gl]
section
variable{P:Program}{U U0:Heap}{M M0:Nat->Option Nat}{Fz Fz0:Nat->Prop}{w w0:World}
def frzF(M:Nat->Option Nat)(Fz:Nat->Prop)(n:Nat):Nat->Prop:=λc=>Fz c∨∃b,n<=b/\M b=some c
theorem chunks_len(n:Nat):∀(k:Nat)(l:List C),(chunks n k l).length=k:=by
 intro k;induction k with
 |zero=>intro l;rfl
 |succ k ih=>intro l;simp[chunks,ih]
theorem chunks_get{n:Nat}:∀(k:Nat)(l:List C),l.length=k * n->∀(i:Nat) e,(chunks n k l)[i]? = some e->e.length=n/\∀(j:Nat),j<n->e[j]? = l[i * n+j]?:=by
 intro k;induction k with
 |zero=>intro l _ i e h;simp[chunks] at h
 |succ k ih=>
  intro l hl i e h;rw[yCo] at hl;cases i with
  |zero=>simp only[chunks,List.getElem?_cons_zero,yAa] at h;subst h;refine ⟨by simp;omega,λj hj=>?_⟩;rw[yA7 hj];simp
  |succ i=>simp only[chunks,List.getElem?_cons_succ] at h;obtain ⟨h1,h2⟩:=ih (l.drop n) (by simp;omega) i e h;refine ⟨h1,λj hj=>?_⟩;rw[h2 j hj,yAT];congr 1;rw[yCo];omega
theorem mapM_get'{α β:Type}{f:α->Option β}:∀{l:List α}{r:List β},l.mapM f=some r->∀(i:Nat) a,l[i]? = some a->∃b,r[i]? = some b/\f a=some b:=by
 intro l;induction l with
 |nil=>intro r h i a hi;simp at hi
 |cons a l ih=>
  intro r h i a' hi;simp only[yAS,Option.pure_def,Option.bind_eq_bind,yAe,yAa] at h;obtain ⟨b,hb,r',hr,rfl⟩:=h;cases i with
  |zero=>simp at hi;subst hi;exact ⟨b,by simp,hb⟩
  |succ i=>simpa using ih hr i a' (by simpa using hi)
theorem frzC_ok(R:Rel U M Fz w){n:Nat}:∀(k:Nat)(d:D)(x:C)(v:Value),frzC U n k d=some x->V U M Fz w d v->VC (frzF M Fz n) w x v:=by
 intro k;induction k with
 |zero=>intro d x v h;simp[frzC] at h
 |succ k ih=>
  intro d x v h hv;cases d with
  |c y=>simp only[frzC,yAa] at h;subst h;exact hv.c_inv.mono (λc hc=>⟨.inl hc,rfl⟩)
  |ptr b off sz=>
   simp only[frzC] at h;split at h
   ·rename_i hb;split at h
    ·rename_i cs hr;simp only[yAd] at h;obtain ⟨l,hl,rfl⟩:=h;obtain ⟨c,hM,rfl⟩:=hv.ptr_inv hr;obtain ⟨hbb,_⟩:=zbZ hr;obtain ⟨arr,T,hh,hla,hcs⟩:=R.row hM hbb;obtain ⟨m1,m2⟩:=zdr hl;have:=VC.fptr (Fz:=frzF M Fz n) (w:=w) (cs:=l) (off:=off) c 0 (λj=>arr[j]!) (.inr ⟨b,hb,hM⟩) (λj d hj=>?_) (λj d hj=>?_)
     ·simpa using this
     ·obtain ⟨a,ha,_⟩:=m2 j d hj;have hjl:=(yAb.1 ha).1;have e:arr[j]? = some (arr[j]'(by omega)):=yAn _;have e2:arr[j]! = arr[j]'(by omega):=yBU arr j (by omega);rw[yBj,cell_of_row w c j arr T (0,0) hh,e,e2];exact ⟨rfl,(hcs j a _ ha e).2⟩
     ·obtain ⟨a,ha,hfa⟩:=m2 j d hj;have hjl:=(yAb.1 ha).1;have e:arr[j]? = some (arr[j]'(by omega)):=yAn _;have e2:arr[j]! = arr[j]'(by omega):=yBU arr j (by omega);rw[e2];exact ih a d _ hfa (hcs j a _ ha e).1
    ·simp at h
   ·simp at h
  |sl b off len esz sz=>
   simp only[frzC] at h;split at h
   ·rename_i hcnd;obtain ⟨hb,hesz,hle⟩:=hcnd;split at h
    ·rename_i cs hr;simp only[yAd] at h;obtain ⟨l,hl,rfl⟩:=h;rcases hv.sl_inv hr with ⟨rfl,e2,_,_,_⟩ | ⟨c,o,cap,arr0,T0,hM,rfl,hlc,hoff,hh0,hcap,_⟩
     ·subst e2;exact VC.frz (nn:=Nat.blt 0 0) (es:=[]) esz none 0 (λh=>by cases h) (λ_=>rfl) (λ_ _=>undef) (λ_ h=>by simp at h) (yAo _) (λi j e d h=>by simp at h) (λi j e d h=>by simp at h)
     obtain ⟨hbb,hsz⟩:=zbZ hr;obtain ⟨arr,T,hh,hla,hcs⟩:=R.row hM hbb;obtain ⟨m1,m2⟩:=zdr hl;have hll:l.length=len * esz:=by rw[m1];simp;omega
     have key:∀(i j:Nat)(e:List C)(d:C),(chunks esz len l)[i]? = some e->e[j]? = some d->j<esz/\i<len/\o=off/\∃a,cs[off+(i * esz+j)]? = some a/\frzC U n k a=some d:=by
      intro i j e d h1 h2;obtain ⟨h3,h4⟩:=chunks_get len l hll i e h1;have hj:j<esz:=by have:=(yAb.1 h2).1;omega
      have hi:i<len:=by have:=(yAb.1 h1).1;rw[chunks_len] at this;exact this
      rw[h4 j hj] at h2;obtain ⟨a,ha,hfa⟩:=m2 _ d h2;have hlt:i * esz+j<len * esz:=by have:=(yAb.1 h2).1;omega
      rw[yA7 hlt,yAT] at ha;refine ⟨hj,hi,?_,a,ha,hfa⟩;rcases hoff with h | h
      ·exact h
      ·omega
     have:=VC.frz (Fz:=frzF M Fz n) (w:=w) (nn:=Nat.blt 0 len) (es:=chunks esz len l) esz (some ⟨c,o,none⟩) cap (λ_=>rfl) (λh=>by cases h) (λi j=>arr[o+i * esz+j]!) (λe he=>?_) (by rw[chunks_len];exact hlc.1) (λi j e d h1 h2=>?_) (λi j e d h1 h2=>?_)
     ·rw[chunks_len] at this;exact this
     ·obtain ⟨i,hi⟩:=yB7.1 he;exact (chunks_get len l hll i e hi).1
     ·obtain ⟨hj,hi,rfl,a,ha,hfa⟩:=key i j e d h1 h2;have hjl:=(yAb.1 ha).1;rw[<-yBL] at ha hjl;have e1:arr[o+i * esz+j]? = some (arr[o+i * esz+j]'(by omega)):=yAn _;have e2:arr[o+i * esz+j]! = arr[o+i * esz+j]'(by omega):=yBU arr _ (by omega);refine ⟨c,o,rfl,.inr ⟨b,hb,hM⟩,?_,?_⟩
      ·rw[cell_of_row w c _ arr T (0,0) hh,e1,e2]
      ·rw[e2];exact (hcs _ a _ ha e1).2
     ·obtain ⟨hj,hi,rfl,a,ha,hfa⟩:=key i j e d h1 h2;have hjl:=(yAb.1 ha).1;rw[<-yBL] at ha hjl;have e1:arr[o+i * esz+j]? = some (arr[o+i * esz+j]'(by omega)):=yAn _;have e2:arr[o+i * esz+j]! = arr[o+i * esz+j]'(by omega):=yBU arr _ (by omega);rw[e2];exact ih a d _ hfa (hcs _ a _ ha e1).1
    ·simp at h
   ·simp at h
  |fn f first cap=>
   simp only[frzC] at h;split at h
   ·rename_i l1 l2 h1 h2;simp only[yAa] at h;subst h;obtain ⟨m1,m2⟩:=zdr h1;obtain ⟨m3,m4⟩:=zdr h2;cases hv with
    |fn vs ws k1 k2 hv hw=>
     refine .fn vs ws (by rw[k1,m1]) (by rw[k2,m3]) (λi d v a b=>?_) (λi d v a b=>?_)
     ·obtain ⟨x,hx,hfx⟩:=m2 i d a;exact ih x d v hfx (hv i x v hx b)
     ·obtain ⟨x,hx,hfx⟩:=m4 i d a;exact ih x d v hfx (hw i x v hx b)
   ·simp at h
  |mp b=>
   simp only[frzC] at h;split at h
   ·rename_i hb;split at h
    ·rename_i es clock hbb;simp only[yAd] at h;obtain ⟨l,hl,rfl⟩:=h;obtain ⟨c,rfl,hM⟩:=hv.mp_inv hbb;obtain ⟨arr,ck,hh,⟨hsz,_⟩,hent⟩:=R.mapAt hbb hM;obtain ⟨m1,m2⟩:=zdr hl;refine .fmp c ck arr (.inr ⟨b,hb,hM⟩) hh (by rw[hsz,m1]) (λi p e hi he=>?_) (λi p e hi he=>?_)
     ·obtain ⟨⟨k0,d0,n0⟩,ha,hfa⟩:=m2 i p hi;simp only[yAd] at hfa;obtain ⟨x,_,rfl⟩:=hfa;exact (hent i k0 d0 n0 e ha he).1
     ·obtain ⟨⟨k0,d0,n0⟩,ha,hfa⟩:=m2 i p hi;simp only[yAd] at hfa;obtain ⟨x,hx,rfl⟩:=hfa;exact ih d0 x _ hx (hent i k0 d0 n0 e ha he).2.2
    ·simp at h
   ·simp at h
  |agg cs=>simp[frzC] at h
  |tup vs=>simp[frzC] at h
  |any=>simp[frzC] at h
theorem frzD1xok(R:Rel U M Fz w){n k:Nat}{d r:D}{v:Value}(h:frzD1 U n k d=some r)(hv:V U M Fz w d v)(U':Heap)(M':Nat->Option Nat):V U' M' (frzF M Fz n) w r v:=by
 have plain:∀d,(frzC U n k d).map D.c=some r->V U M Fz w d v->V U' M' (frzF M Fz n) w r v:=by intro d h hv;simp only[yAd] at h;obtain ⟨x,hx,rfl⟩:=h;exact .c (frzC_ok R k d x v hx hv)
 cases d with
 |agg cs=>
  simp only[frzD1,yAd] at h;obtain ⟨l,hl,rfl⟩:=h;obtain ⟨m1,m2⟩:=zdr hl;cases hv with
  |agg vs k1 hv=>refine .agg vs (by simp[k1,m1]) (λi d v a b=>?_);simp only[yAl,yAd] at a;obtain ⟨x,hx,rfl⟩:=a;obtain ⟨y,hy,hfy⟩:=m2 i x hx;exact .c (frzC_ok R k y x v hfy (hv i y v hy b))
 |_=>exact plain _ h hv
theorem frzD_ok(R:Rel U M Fz w){n k:Nat}{d r:D}{v:Value}(h:frzD U n k d=some r)(hv:V U M Fz w d v)(U':Heap)(M':Nat->Option Nat):V U' M' (frzF M Fz n) w r v:=by
 cases d with
 |tup ds=>
  simp only[frzD,yAd] at h;obtain ⟨l,hl,rfl⟩:=h;obtain ⟨m1,m2⟩:=zdr hl;cases hv with
  |tup vs k1 hv=>refine .tup vs (by simp[k1,m1]) (λi d v a b=>?_);obtain ⟨y,hy,hfy⟩:=m2 i d a;exact frzD1xok R hfy (hv i y v hy b) U' M'
 |_=>simp only[frzD] at h;exact frzD1xok R h hv U' M'
theorem Rel.forget(R0:Rel U0 M0 Fz0 w0)(R:Rel U M Fz w)(EV:Evo U0 M0 Fz0 w0 U M Fz w)(hsame:∀b,b<U0.length->U[b]? = U0[b]?) :
  Rel U0 (cutM M U0.length) (frzF M Fz U0.length) w/\Evo U0 M0 Fz0 w0 U0 (cutM M U0.length) (frzF M Fz U0.length) w:=by
 have hsz:SzLe U0 U:=λb ob hb=>⟨ob,by rw[hsame b (yAb.1 hb).1];exact hb,rfl⟩;have hkeep:∀b,b<U0.length->M b=M0 b:=λb hb=>by obtain ⟨ob',h1,_,h2⟩:=EV.keep b _ (yAg hb);rw[hsame b hb,yAg hb] at h1;simp only[yAa] at h1;exact h2 (by rw[h1])
 refine ⟨⟨λb c h=>?_,λb b' c h h'=>?_,λc h=>?_,Gl.mono (λc h=>⟨.inl h,rfl⟩) R.gl⟩,⟨EV.size,EV.frame,λb c h=>?_,λc h=>⟨.inl (EV.fz c h).1,(EV.fz c h).2⟩,λc h=>?_,EV.shp,λb ob hb=>⟨ob,hb,yAo _,λ_=>?_⟩,EV.out⟩⟩
 ·unfold cutM at h;split at h
  ·rename_i hb;obtain ⟨h1,ob,o,h2,h3,h4⟩:=R.blk b c h;have hM0:M0 b=some c:=by rw[<-hkeep b hb];exact h
   obtain ⟨_,ob0,o0,h5,_,h6⟩:=R0.blk b c hM0;have:ob0=ob:=by rw[hsame b hb,h5] at h2;simpa using h2
   subst this;refine ⟨λhf=>?_,ob0,o,h5,h3,?_⟩
   ·rcases hf with hf | ⟨b',hb',hM'⟩
    ·exact h1 hf
    ·have:=R.inj b b' c h hM';omega
   ·have h7:=(h4.down hsz h6).cut;have e:∀{d v},V U0 (cutM M U0.length) Fz w d v->V U0 (cutM M U0.length) (frzF M Fz U0.length) w d v:=λh=>h.sub SzLe.refl (λ_ _ h=>h) (λc h=>⟨.inl h,rfl⟩) (λc arr T fr h=>⟨arr,h,rfl⟩);cases ob0 with
    |cells cs=>obtain ⟨arr,T,ho,hl,hv⟩:=h7;exact ⟨arr,T,ho,hl,λi d v x y=>⟨e (hv i d v x y).1,(hv i d v x y).2⟩⟩
    |map es clock=>obtain ⟨arr,ho,hl,hv⟩:=h7;exact ⟨arr,ho,hl,λi k d n e' x y=>let ⟨a,b,c⟩:=hv i k d n e' x y;⟨a,b,e c⟩⟩
    |gone n=>exact h7.elim
  ·simp at h
 ·unfold cutM at h h';split at h
  ·split at h'
   ·exact R.inj b b' c h h'
   ·simp at h'
  ·simp at h
 ·rcases h with h | ⟨b,_,h⟩
  ·exact R.fz c h
  ·exact (R.lt h).2
 ·unfold cutM at h;split at h
  ·exact EV.ran b c h
  ·simp at h
 ·rcases h with h | ⟨b,_,h⟩
  ·exact EV.fz' c h
  ·rcases EV.ran b c h with h | h
   ·exact .inr (.inl h)
   ·exact .inr (.inr h)
 ·have hb':=(yAb.1 hb).1;simp only[cutM,if_pos hb'];exact hkeep b hb'
theorem one_ok{ds:List D}{vs:Array Value}(hs:vs.size=ds.length)(hv:∀(i:Nat) d v,ds[i]? = some d->vs[i]? = some v->V U M Fz w d v) :
  V U M Fz w (one ds) (if h:vs.size=1 then vs[0] else .tuple vs):=by
 match ds,hs,hv with
 |[d], hs, hv=>
  have h1:vs.size=1:=by simpa using hs
  rw[dif_pos h1];exact hv 0 d _ (by simp) (yAn (by omega))
 |[], hs, hv=>rw[dif_neg (by simp at hs;simp[hs])];exact .tup vs hs hv
 |a :: b :: l, hs, hv=>rw[dif_neg (by simp at hs;omega)];exact .tup vs hs hv
def resOne(tmps:Array Value):ResultVar->Sem Value
 |.tmp t=>pure (tmps.getD t undef)
 |.cell x t=>do loadVar t (<-asAddr (tmps.getD x undef))
theorem results_eq(fn:Func)(tmps:Array Value):results fn tmps=(do
  let vs <-fn.results.mapM (resOne tmps)
  pure (if h:vs.size=1 then vs[0] else .tuple vs)):=by
 unfold results;congr 2
theorem results_ok(R:Rel U M Fz w){env:List D}{a:Act}(E:zas U M Fz w env a.tmps){fn:Func}{rs:List (Nat×Option (Option Nat))}{ds:List D}(hr:fn.results.toList.mapM (compR P)=some rs)(hd:rs.mapM (zcq env U)=some ds) :
  ∃v,(results fn a.tmps).run P w=.ok v w/\V U M Fz w (one ds) v:=by
 have key:∀(l:List ResultVar)(rs:List (Nat×Option (Option Nat)))(ds:List D),l.mapM (compR P)=some rs->rs.mapM (zcq env U)=some ds ->
   ∃vs:List Value,(l.mapM (resOne a.tmps)).run P w=.ok vs w/\vs.length=ds.length/\∀(i:Nat) d v,ds[i]? = some d->vs[i]? = some v->V U M Fz w d v:=by
  intro l;induction l with
  |nil=>intro rs ds h1 h2;simp only[List.mapM_nil,Option.pure_def,yAa] at h1;subst h1;simp only[List.mapM_nil,Option.pure_def,yAa] at h2;subst h2;exact ⟨[],rfl,rfl,λi d v h=>by simp at h⟩
  |cons x l ih=>
   intro rs ds h1 h2;simp only[yAS,Option.pure_def,Option.bind_eq_bind,yAe,yAa] at h1;obtain ⟨r,hr,rs',hrs,rfl⟩:=h1;simp only[yAS,Option.pure_def,Option.bind_eq_bind,yAe,yAa] at h2;obtain ⟨d,hd,ds',hds,rfl⟩:=h2;obtain ⟨vs,h3,h4,h5⟩:=ih rs' ds' hrs hds;have hx:∃v,(resOne a.tmps x).run P w=.ok v w/\V U M Fz w d v:=by
    cases x with
    |tmp t=>simp only[compR,yAa] at hr;subst hr;simp only[zcq] at hd;have hlt:=(yAb.1 hd).1;have e:a.tmps[t]? = some (a.tmps[t]'(by rw[E.1];exact hlt)):=yAn _;refine ⟨_,rfl,?_⟩;rw[yA9,e];exact E.2 t _ _ hd e
    |cell y t=>
     simp only[compR,yAd] at hr;obtain ⟨n,hn,rfl⟩:=hr;simp only[zcq] at hd;split at hd
     ·rename_i b off sz hy;simp only[yAe] at hd;obtain ⟨cs,hrow,hg⟩:=hd;have hlt:=(yAb.1 hy).1;have e:a.tmps[y]? = some (a.tmps[y]'(by rw[E.1];exact hlt)):=yAn _;have hv:=E.2 y _ _ hy e;obtain ⟨c,hM,hva⟩:=hv.ptr_inv hrow;obtain ⟨hbb,_⟩:=zbZ hrow;obtain ⟨arr,T,hh,hla,hcs⟩:=R.row hM hbb;have hcell:∀(i:Nat) x,cs[i]? = some x->∃u,w.cell? ⟨c,0+i,none⟩=some u/\V U M Fz w x u:=by
       intro i x hxi;have hi:=(yAb.1 hxi).1;have e:arr[i]? = some (arr[i]'(by omega)):=yAn _;exact ⟨_,by rw[yBj,cell_of_row w c i arr T (0,0) hh];exact e,(hcs i _ _ hxi e).1⟩
      obtain ⟨v,hrun,hvv⟩:=loadVar_ok (P:=P) hn hg hcell;refine ⟨v,?_,hvv⟩;rw[yBj] at hrun;have eg:a.tmps.getD y undef=.pointer (some ⟨c,off,none⟩):=by rw[yA9,e,xAc,hva]
      show (do loadVar t (<-asAddr (a.tmps.getD y undef)):Sem Value).run P w=_;rw[eg];simp only[asAddr,Sem.run_bind,Sem.run_pure,Result.andThen_ok,hrun]
     ·simp at hd
   obtain ⟨v,hv1,hv2⟩:=hx;refine ⟨v::vs,?_,by simp[h4],λi d' v' hi hi'=>?_⟩
   ·simp only[yAS,Sem.run_bind];rw[hv1];simp only[Result.andThen_ok,h3,Sem.run_pure]
   ·cases i with
    |zero=>simp at hi hi';subst hi hi';exact hv2
    |succ i=>exact h5 i d' v' (by simpa using hi) (by simpa using hi')
 obtain ⟨vs,h1,h2,h3⟩:=key _ _ _ hr hd;refine ⟨_,?_,one_ok (vs:=vs.toArray) (by simpa using h2) (λi d v a b=>h3 i d v a (by simpa using b))⟩;rw[results_eq];simp only[Sem.run_bind];rw[xAq];simp only[Sem.run_map];rw[h1];simp only[Result.andThen_ok,Sem.run_pure]
end
theorem func_ok{P:Program}(hmix:P.follows .mixedOrders=true){orc:Orc}(O:OrcOk P orc){g:FuncId}{fn:Func}{af:AFunc}{fz:Bool}{k:Nat}{ds:List D}{U U':Heap}{r:D}{wr:List Nat}
  (hg:P.funcs[g]? = some fn) (hc:compF P fn fz=some af) (h:evF1 P orc k af ds U=some (r,U',wr)) :
  Ok P g ds U r U'/\U.length<=U'.length/\∀b,b<U.length->b∉wr->U'[b]? = U[b]?:=by
 unfold compF at hc;split at hc
 ·rename_i c hb;split at hc
  ·rename_i ac rs h1 h2;simp only[yAa] at hc;subst hc;unfold evF1 at h;split at h
   ·rename_i hlen;have main:∀env U1 wr1 x,(x=.normal∨x=.ret)->evC P (λ_=>orc) k ac (ds++List.replicate (fn.ntmps-ds.length) (.tup [])) U []=some (x,env,U1,wr1) ->
      finish ⟨fn.params.size+fn.nfree,fn.ntmps,rs,ac,fz⟩ U env U1 wr1=some (r,U',wr)->Ok P g ds U r U'/\U.length<=U'.length/\∀b,b<U.length->b∉wr->U'[b]? = U[b]?:=by
     intro env U1 wr1 x hx hev hfin;obtain ⟨k1,_,k3⟩:=evC_frame (orc:=λ_=>orc) (λ_=>O) _ _ _ _ _ _ _ _ _ hev;unfold finish at hfin;split at hfin
     ·rename_i ds' hds;dsimp only at hds hfin;have asIs:some (one ds',U1,wr1.filter (·<U.length))=some (r,U',wr)->Ok P g ds U r U'/\U.length<=U'.length/\∀b,b<U.length->b∉wr->U'[b]? = U[b]?:=by
       intro he;simp only[yAa,yAc] at he;obtain ⟨rfl,rfl,rfl⟩:=he;refine ⟨λM Fz w vs R hs hvs=>?_,k1,λb hb hn=>k3 b hb (λhw=>hn (by simp[hw,hb]))⟩;refine calls_of_wp hg hb ?_;have E0:zas U M Fz w (ds++List.replicate (fn.ntmps-ds.length) (.tup [])) (vs++Array.replicate (fn.ntmps-vs.size) undef):=by
        refine ⟨by simp[hs],λi d v a b=>?_⟩;rw[yBb] at a;rw[yBW] at b;split at a
        ·rename_i hi;rw[if_pos (by omega)] at b;exact hvs i d v a b
        ·rename_i hi;rw[if_neg (by omega)] at b;rw[List.getElem?_replicate] at a;rw[yB9] at b;split at a
         ·split at b
          ·simp only[yAa] at a b;subst a b;exact V.undef
          ·simp at b
         ·simp at a
       refine (code_wp hmix (orc:=λ_=>orc) (λ_=>O) k).1 c ac U U1 M Fz w _ env { tmps:=vs++Array.replicate (fn.ntmps-vs.size) undef,defers:=[] } [] wr1 x _ h1 R E0 hev λa' w' M' Fz' hd R' E' EV=>?_;obtain ⟨v,hv1,hv2⟩:=results_ok (P:=P) R' E' h2 hds;have post:a'.defers=[]/\∃v,(results fn a'.tmps).run P w'=.ok v w'/\∃v' M'' Fz'',Ending.returned v=.returned v'/\Rel U1 M'' Fz'' w'/\V U1 M'' Fz'' w' (one ds') v'/\Evo U M Fz w U1 M'' Fz'' w':=
        ⟨hd,v,hv1,v,M',Fz',rfl,R',hv2,EV⟩
       rcases hx with rfl | rfl
       ·exact post
       ·exact post
      split at hfin
      ·rename_i hcnd;simp only[yAj] at hcnd;split at hfin
       ·rename_i r' hfr;simp only[yAa,yAc] at hfin;obtain ⟨rfl,rfl,rfl⟩:=hfin;have hsame:∀b,b<U.length->U1[b]? = U[b]?:=by
         intro b hb;refine k3 b hb (λhw=>?_);have:=hcnd.2;rw[List.isEmpty_iff,xAm] at this;have:=this b hw;simp at this;omega
        refine ⟨λM Fz w vs R hs hvs=>?_,yAo _,λ_ _ _=>rfl⟩;refine calls_of_wp hg hb ?_;have E0:zas U M Fz w (ds++List.replicate (fn.ntmps-ds.length) (.tup [])) (vs++Array.replicate (fn.ntmps-vs.size) undef):=by
         refine ⟨by simp[hs],λi d v a b=>?_⟩;rw[yBb] at a;rw[yBW] at b;split at a
         ·rename_i hi;rw[if_pos (by omega)] at b;exact hvs i d v a b
         ·rename_i hi;rw[if_neg (by omega)] at b;rw[List.getElem?_replicate] at a;rw[yB9] at b;split at a
          ·split at b
           ·simp only[yAa] at a b;subst a b;exact V.undef
           ·simp at b
          ·simp at a
        refine (code_wp hmix (orc:=λ_=>orc) (λ_=>O) k).1 c ac U U1 M Fz w _ env { tmps:=vs++Array.replicate (fn.ntmps-vs.size) undef,defers:=[] } [] wr1 x _ h1 R E0 hev λa' w' M' Fz' hd R' E' EV=>?_;obtain ⟨v,hv1,hv2⟩:=results_ok (P:=P) R' E' h2 hds;obtain ⟨R2,EV2⟩:=Rel.forget R R' EV hsame;have post:a'.defers=[]/\∃v,(results fn a'.tmps).run P w'=.ok v w'/\∃v' M'' Fz'',Ending.returned v=.returned v'/\Rel U M'' Fz'' w'/\V U M'' Fz'' w' r' v'/\Evo U M Fz w U M'' Fz'' w':=
         ⟨hd,v,hv1,v,_,_,rfl,R2,frzD_ok R' hfr hv2 _ _,EV2⟩
        rcases hx with rfl | rfl
        ·exact post
        ·exact post
       ·exact asIs hfin
      ·exact asIs hfin
     ·simp at hfin
    split at h
    ·rename_i env U1 wr1 hev;exact main env U1 wr1 .normal (.inl rfl) hev h
    ·rename_i env U1 wr1 hev;exact main env U1 wr1 .ret (.inr rfl) hev h
    ·simp at h
   ·simp at h
  ·simp at hc
 ·simp at hc
def TblOk(P:Program)(tbl:FuncId->Option AFunc):Prop:=∀g af,tbl g=some af->enterable P g=true/\∃fn fz,P.funcs[g]? = some fn/\compF P fn fz=some af
theorem evF_ok{P:Program}(hmix:P.follows .mixedOrders=true){tbl:FuncId->Option AFunc}(hT:TblOk P tbl){prim:Orc}(hp:OrcOk P prim)(k:Nat):∀n,OrcOk P (evF P tbl prim k n):=by
 intro n;induction n with
 |zero=>intro g ds U r U' wr h;simp[evF] at h
 |succ n ih=>
  intro g ds U r U' wr h;simp only[evF] at h;split at h
  ·rename_i res hres;simp only[yAa] at h;subst h;exact hp g ds U r U' wr hres
  ·split at h
   ·rename_i af haf;obtain ⟨h1,fn,fz,h2,h3⟩:=hT g af haf;obtain ⟨h4,h5,h6⟩:=func_ok hmix ih h2 h3 h;exact ⟨h1,h4,h5,h6⟩
   ·simp at h
end Go.Abs
end
section
namespace Go.Abs
variable[Gl]
inductive Sh where
 |int (k:IntKind)
 |bool
 |str
 |sl (e:List Sh)
 deriving Inhabited
inductive Shaped:Sh->C->Prop where
 |int {k:IntKind} {n:Int} (h:(Lit.int k n).wf=true):Shaped (.int k) (.lit (.int k n))
 |bool (b:Bool):Shaped .bool (.lit (.bool b))
 |str {s:ByteArray} (h:s.size<=maxLen):Shaped .str (.lit (.string s))
 |sl {e:List Sh} {es:List (List C)} (hl:es.length<=maxLen) (hn:∀x∈es,x.length=e.length) (h:∀(x:List C),x∈es->∀(j:Nat) s c,e[j]? = some s->x[j]? = some c->Shaped s c):Shaped (.sl e) (.frz false es)
def shapesOf(P:Program):Nat->TypeId->Option (List Sh)
 |0,_=>none
 |f + 1, t=>
  match P.underlying t with
  |some .bool=>some [.bool]
  |some (.int k)=>some [.int k]
  |some .string=>some [.str]
  |some (.slice e)=>
   match shapesOf P f e with
   |some s=>if s.length=P.cellsOf e/\s≠[] then some [.sl s] else none
   |none=>none
  |some (.struct fs)=>
   match fs.toList.foldl (λacc fd=>match acc,shapesOf P f fd.type with
    |some l,some s=>if fd.offset=l.length/\s.length=P.cellsOf fd.type then some (l++s) else none
    |_,_=>none) (some []) with
   |some l=>if l.length=P.cellsOf t then some l else none
   |none=>none
  |some (.array n e)=>
   match shapesOf P f e with
   |some s=>if s.length=P.cellsOf e/\n * s.length=P.cellsOf t then some (List.replicate n s).flatten else none
   |none=>none
  |_=>none
def zb0(w:World)(shs:List Sh)(xs:List C)(cs:List Value):Prop:=
 xs.length=shs.length/\cs.length=shs.length/\(∀(i:Nat) s x,shs[i]? = some s->xs[i]? = some x->Shaped s x) /\
  ∀(i:Nat) x v,xs[i]? = some x->cs[i]? = some v->VC (λc=>c<w.heap.size) w x v/\v.oneCell'=true
theorem zb0.append{w:World}{s1 s2:List Sh}{x1 x2:List C}{c1 c2:List Value}(h1:zb0 w s1 x1 c1)(h2:zb0 w s2 x2 c2):zb0 w (s1++s2) (x1++x2) (c1++c2):=by
 obtain ⟨a1,a2,a3,a4⟩:=h1;obtain ⟨b1,b2,b3,b4⟩:=h2;refine ⟨by simp[a1,b1],by simp[a2,b2],λi s x hs hx=>?_,λi x v hx hv=>?_⟩
 ·rw[yBb] at hs hx;split at hs
  ·rw[if_pos (by omega)] at hx;exact a3 i s x hs hx
  ·rw[if_neg (by omega)] at hx;exact b3 _ s x hs (by rw[<-a1];exact hx)
 ·rw[yBb] at hx hv;split at hx
  ·rw[if_pos (by omega)] at hv;exact a4 i x v hx hv
  ·rw[if_neg (by omega)] at hv;exact b4 _ x v hx (by rw[a1,<-a2];exact hv)
theorem zb0.nil{w:World}:zb0 w [] [] []:=⟨rfl,rfl,λi s x h=>by simp at h,λi x v h=>by simp at h⟩
theorem zb0.one{w:World}{s:Sh}{x:C}{v:Value}(h1:Shaped s x)(h2:VC (λc=>c<w.heap.size) w x v)(h3:v.oneCell'=true):zb0 w [s] [x] [v]:=by
 refine ⟨rfl,rfl,λi s' x' hs hx=>?_,λi x' v' hx hv=>?_⟩
 ·cases i with
  |zero=>simp at hs hx;subst hs hx;exact h1
  |succ i=>simp at hs
 ·cases i with
  |zero=>simp at hx hv;subst hx hv;exact ⟨h2,h3⟩
  |succ i=>simp at hx
theorem cells_get{w:World}{base:Nat}{a:Addr}{n:Nat}{cs:List Value}(h:w.cells? base a n=some cs):cs.length=n/\∀(j:Nat) v,cs[j]? = some v->w.cell? (a.add j)=some v:=by
 unfold World.cells? at h;split at h
 ·obtain ⟨h1,h2⟩:=zdr h;refine ⟨by simpa using h1,λj v hj=>?_⟩;obtain ⟨i,hi,hv⟩:=h2 j v hj;have hl:=(yAb.1 hi).1;simp at hl;rw[yCm hl] at hi;simp only[yAa] at hi;subst hi;exact hv
 ·simp at h
theorem pick_list{α:Type}{n:Nat}{p:Nat->α->Prop}(h:∀i,i<n->∃a,p i a):∃l:List α,l.length=n/\∀(i:Nat) a,l[i]? = some a->p i a:=by
 induction n with
 |zero=>exact ⟨[],rfl,λi a h=>by simp at h⟩
 |succ n ih=>
  obtain ⟨l,h1,h2⟩:=ih (λi hi=>h i (by omega));obtain ⟨a,ha⟩:=h n (by omega);refine ⟨l++[a],by simp[h1],λi b hb=>?_⟩;rw[yBb] at hb;split at hb
  ·exact h2 i b hb
  ·rename_i hi;have hlt:=(yAb.1 hb).1;simp at hlt;have:i=n:=by omega
   subst this;rw[show i-l.length=0 from by omega] at hb;simp at hb;subst hb;exact ha
theorem trod_slice_inv{H:Type}{enc:TypeId×Value->H}{P:Program}{w:World}{spare:Nat->Bool}{held:Bool}{f:Nat}{t e:TypeId}{cs:List Value}{d:DataW H}{ps:List MemPlace}
  (hu:P.underlying t=some (.slice e)) (h:DataW.trod enc P w 0 spare held (f+1) t cs=some (d,ps)) :
  cs=[.slice none 0 0]∨∃a len cap,cs=[.slice (some a) len cap]/\len<=cap/\cap<=maxLen/\∀i,i<len->∃ci di pi,w.cells? 0 (a.add (i * P.cellsOf e)) (P.cellsOf e)=some ci/\DataW.trod enc P w 0 spare held f e ci=some (di,pi):=by
 unfold DataW.trod at h;rw[hu] at h;split at h <;> rename_i heq <;> first
  |(simp only[yAa,reduceCtorEq] at heq;done)
  |skip
 ·exact .inl rfl
 ·rename_i e' a len cap;simp only[yAa,TypeDesc.slice.injEq] at heq;subst heq;simp only at h;split at h
  ·rename_i hc;simp only[yAe] at h;obtain ⟨elems,hel,_⟩:=h;refine .inr ⟨a,len,cap,rfl,hc.2.1,hc.2.2,λi hi=>?_⟩;obtain ⟨⟨di,pi⟩,_,hdi⟩:=mapM_get' hel i i (yCm hi);simp only[yAe] at hdi;obtain ⟨ci,h1,h2⟩:=hdi;exact ⟨ci,di,pi,h1,h2⟩
  ·simp at h
 ·simp at h
theorem trod_struct_inv{H:Type}{enc:TypeId×Value->H}{P:Program}{w:World}{spare:Nat->Bool}{held:Bool}{f:Nat}{t:TypeId}{fs:Array Field}{cs:List Value}{d:DataW H}{ps:List MemPlace}
  (hu:P.underlying t=some (.struct fs)) (h:DataW.trod enc P w 0 spare held (f+1) t cs=some (d,ps)) :
  cs.length=P.cellsOf t/\∀fd∈fs.toList,∃di pi,DataW.trod enc P w 0 spare held f fd.type ((cs.drop fd.offset).take (P.cellsOf fd.type))=some (di,pi):=by
 unfold DataW.trod at h;rw[hu] at h;split at h <;> rename_i heq <;> first
  |(simp only[yAa,reduceCtorEq] at heq;done)
  |skip
 ·simp only[yAa,TypeDesc.struct.injEq] at heq;subst heq;split at h
  ·rename_i hl;simp only[yAd] at h;obtain ⟨xs,hxs,_⟩:=h;refine ⟨hl,λfd hfd=>?_⟩;obtain ⟨i,hi⟩:=yB7.1 hfd;obtain ⟨⟨di,pi⟩,_,h1⟩:=mapM_get' hxs i fd hi;exact ⟨di,pi,h1⟩
  ·simp at h
 ·exact absurd rfl (‹∀(fs_1:Array Field),some (TypeDesc.struct fs)=some (TypeDesc.struct fs_1)->False› fs)
theorem trod_array_inv{H:Type}{enc:TypeId×Value->H}{P:Program}{w:World}{spare:Nat->Bool}{held:Bool}{f n:Nat}{t e:TypeId}{cs:List Value}{d:DataW H}{ps:List MemPlace}
  (hu:P.underlying t=some (.array n e)) (h:DataW.trod enc P w 0 spare held (f+1) t cs=some (d,ps)) :
  cs.length=P.cellsOf t/\∀i,i<n->∃di pi,DataW.trod enc P w 0 spare held f e ((cs.drop (i * P.cellsOf e)).take (P.cellsOf e))=some (di,pi):=by
 unfold DataW.trod at h;rw[hu] at h;split at h <;> rename_i heq <;> first
  |(simp only[yAa,reduceCtorEq] at heq;done)
  |skip
 ·simp only[yAa,TypeDesc.array.injEq] at heq;obtain ⟨rfl,rfl⟩:=heq;split at h
  ·rename_i hl;simp only[yAd] at h;obtain ⟨xs,hxs,_⟩:=h;refine ⟨hl,λi hi=>?_⟩;obtain ⟨⟨di,pi⟩,_,h1⟩:=mapM_get' hxs i i (yCm hi);exact ⟨di,pi,h1⟩
  ·simp at h
 ·exact absurd rfl (‹∀(n_1:Nat)(e_1:TypeId),some (TypeDesc.array n e)=some (TypeDesc.array n_1 e_1)->False› n e)
theorem trod_cells{H:Type}{enc:TypeId×Value->H}{P:Program}{w:World}{spare:Nat->Bool}{held:Bool}:∀(f:Nat)(f':Nat)(t:TypeId)(cs:List Value)(d:DataW H)(ps:List MemPlace)(shs:List Sh),
  DataW.trod enc P w 0 spare held f' t cs=some (d,ps)->shapesOf P f t=some shs->∃xs,zb0 w shs xs cs:=by
 intro f;induction f with
 |zero=>intro f' t cs d ps shs _ h;simp[shapesOf] at h
 |succ f ih=>
  intro f' t cs d ps shs ht hs;cases f' with
  |zero=>simp[DataW.trod] at ht
  |succ f'=>
   simp only[shapesOf] at hs;split at hs
   ·
    rename_i hu;simp only[yAa] at hs;subst hs;unfold DataW.trod at ht;rw[hu] at ht;split at ht <;> simp_all
    subst_vars
    exact ⟨_,zb0.one (.bool _) (.lit _) rfl⟩
   ·
    rename_i k hu;simp only[yAa] at hs;subst hs;unfold DataW.trod at ht;rw[hu] at ht;split at ht <;> simp_all
    obtain ⟨⟨rfl,hwf⟩,_⟩:=ht;exact ⟨_,zb0.one (.int hwf) (.lit _) rfl⟩
   ·
    rename_i hu;simp only[yAa] at hs;subst hs;unfold DataW.trod at ht;rw[hu] at ht;split at ht <;> simp_all
    exact ⟨_,zb0.one (.str ht.1) (.lit _) rfl⟩
   ·
    rename_i e hu;split at hs
    ·rename_i s hse;split at hs
     ·rename_i hsl;obtain ⟨hsl,hsne⟩:=hsl;simp only[yAa] at hs;subst hs;have hpos:0<s.length:=yBM.2 hsne;rcases trod_slice_inv hu ht with rfl | ⟨ad,len,cap,rfl,hlc,hcm,hel⟩
      ·refine ⟨[.frz false []],zb0.one (.sl (by simp) (λx h=>by simp at h) (λx h=>by simp at h)) ?_ rfl⟩;exact .frz 0 none 0 (by simp) (λ_=>rfl) (λ_ _=>undef) (λe h=>by simp at h) (by simp) (λi j e d h=>by simp at h) (λi j e d h=>by simp at h)
      ·rw[<-hsl] at hel;have hex:∀i,i<len->∃(p:List C×List Value),w.cells? 0 (ad.add (i * s.length)) s.length=some p.2/\zb0 w s p.1 p.2:=by
        intro i hi;obtain ⟨ci,di,pi,h1,h2⟩:=hel i hi;obtain ⟨xs,hxs⟩:=ih f' e ci di pi s h2 hse;exact ⟨(xs,ci),h1,hxs⟩
       obtain ⟨l,hl1,hl2⟩:=pick_list hex;have hspot:0<len->ad.spot=none/\ad.block<w.heap.size:=by
        intro h0;obtain ⟨ci,di,pi,h1,_⟩:=hel 0 h0;obtain ⟨h3,h4⟩:=cells_get h1;have hc:=h4 0 _ (yAg (by omega));have e0:(ad.add (0 * s.length)).add 0=ad:=by simp[Addr.add]
        rw[e0] at hc;exact ⟨World.cell?_spot hc,block_lt_of_cell hc⟩
       let g:Nat->Nat->Value:=λi j=>(((l[i]?).map (·.2)).bind (·[j]?)).getD undef
       have hcellij:∀(i j:Nat)(x:List C)(c:C),(l.map (·.1))[i]? = some x->x[j]? = some c->ad=⟨ad.block,ad.off,none⟩/\ad.block<w.heap.size/\w.cell? ⟨ad.block,ad.off+i * s.length+j,none⟩=some (g i j) /\
         VC (λc=>c<w.heap.size) w c (g i j)/\(g i j).oneCell'=true:=by
        intro i j x c hx hc;simp only[yAl,yAd] at hx;obtain ⟨p,hp,rfl⟩:=hx;obtain ⟨h1,h2,h3,h4,h5⟩:=hl2 i p hp;have hi:i<len:=by rw[<-hl1];exact (yAb.1 hp).1
        obtain ⟨hsp,hbl⟩:=hspot (by omega);have had:ad=⟨ad.block,ad.off,none⟩:=by cases ad;simp_all
        have hjl:j<p.2.length:=by have:=(yAb.1 hc).1;omega
        have hv:p.2[j]? = some p.2[j]:=yAg hjl;have hg:g i j=p.2[j]:=by simp only[g,hp,Option.map_some,Option.bind_some,hv,Option.getD_some]
        have hcell:=(cells_get h1).2 j _ hv;rw[had,add_off,add_off] at hcell;rw[hg];exact ⟨had,hbl,hcell,h5 j c _ hc hv⟩
       have hlen:(l.map (·.1)).length=len:=by simp[hl1]
       refine ⟨[.frz false (l.map (·.1))],zb0.one (.sl (by rw[hlen];omega) (λx hx=>?_) (λx hx j sj c h1 h2=>?_)) ?_ rfl⟩
       ·simp only[yA4] at hx;obtain ⟨p,hp,rfl⟩:=hx;obtain ⟨i,hi⟩:=yB7.1 hp;exact (hl2 i p hi).2.1
       ·simp only[yA4] at hx;obtain ⟨p,hp,rfl⟩:=hx;obtain ⟨i,hi⟩:=yB7.1 hp;exact (hl2 i p hi).2.2.2.1 j sj c h1 h2
       ·have:=VC.frz (Fz:=λc=>c<w.heap.size) (w:=w) (nn:=false) (es:=l.map (·.1)) s.length (some ad) cap (by simp) (λh=>by cases h) g (λx hx=>?_) (by rw[hlen];exact hlc) (λi j x c h1 h2=>?_) (λi j x c h1 h2=>(hcellij i j x c h1 h2).2.2.2.1)
        ·rw[hlen] at this;exact this
        ·simp only[yA4] at hx;obtain ⟨p,hp,rfl⟩:=hx;obtain ⟨i,hi⟩:=yB7.1 hp;exact (hl2 i p hi).2.1
        ·obtain ⟨k1,k2,k3,k4,k5⟩:=hcellij i j x c h1 h2;exact ⟨ad.block,ad.off,by rw[<-k1],k2,k3,k5⟩
     ·simp at hs
    ·simp at hs
   ·
    rename_i fs hu;split at hs
    ·rename_i l hl;split at hs
     ·rename_i hll;simp only[yAa] at hs;subst hs;obtain ⟨h1,h2⟩:=trod_struct_inv hu ht;have key:∀(fl:List Field)(acc:List Sh)(ax:List C),(∀fd∈fl,fd∈fs.toList)->acc.length<=cs.length->zb0 w acc ax (cs.take acc.length) ->
        fl.foldl (λacc fd=>match acc,shapesOf P f fd.type with
         |some l,some s=>if fd.offset=l.length/\s.length=P.cellsOf fd.type then some (l++s) else none
         |_,_=>none) (some acc)=some l->l.length<=cs.length->∃xs,zb0 w l xs (cs.take l.length):=by
       intro fl;induction fl with
       |nil=>intro acc ax _ _ hok he _;simp only[List.foldl_nil,yAa] at he;subst he;exact ⟨ax,hok⟩
       |cons fd fl ihf=>
        intro acc ax hmem hacc hok he hle;simp only[List.foldl_cons] at he;have hnone:∀(gl:List Field),gl.foldl (λacc fd=>match acc,shapesOf P f fd.type with
         |some l,some s=>if fd.offset=l.length/\s.length=P.cellsOf fd.type then some (l++s) else none
         |_,_=>none) none=none:=by
         intro gl;induction gl with
         |nil=>rfl
         |cons _ _ ih=>simp only[List.foldl_cons];exact ih
        cases hsf:shapesOf P f fd.type with
        |none=>rw[hsf] at he;simp only[hnone] at he;simp at he
        |some s=>
         rw[hsf] at he;simp only at he;split at he
         ·rename_i hc;obtain ⟨hoff,hsl⟩:=hc;obtain ⟨di,pi,hd⟩:=h2 fd (hmem fd (by simp));obtain ⟨xs,hxs⟩:=ih f' fd.type _ di pi s hd hsf;have hlen2:acc.length+s.length<=cs.length:=by
           have:=hxs.2.1;simp only[yA6,yBQ] at this;omega
          refine ihf (acc++s) (ax++xs) (λx hx=>hmem x (by simp[hx])) (by simp;omega) ?_ he hle;have htake:cs.take (acc++s).length=cs.take acc.length++(cs.drop fd.offset).take (P.cellsOf fd.type):=by rw[yAC,List.take_add,hoff,hsl]
          rw[htake];exact hok.append hxs
         ·simp only[hnone] at he;simp at he
      obtain ⟨xs,hxs⟩:=key fs.toList [] [] (λ_ h=>h) (by simp) (by simpa using zb0.nil) hl (by omega);rw[yAR (by omega)] at hxs;exact ⟨xs,hxs⟩
     ·simp at hs
    ·simp at hs
   ·
    rename_i n e hu;split at hs
    ·rename_i s hse;split at hs
     ·rename_i hsl;obtain ⟨hsl,hnl⟩:=hsl;simp only[yAa] at hs;subst hs;obtain ⟨h1,h2⟩:=trod_array_inv hu ht;rw[<-hsl] at h2;have key:∀m,m<=n->∃xs,zb0 w (List.replicate m s).flatten xs (cs.take (m * s.length)):=by
       intro m;induction m with
       |zero=>intro _;exact ⟨[],by simpa using zb0.nil⟩
       |succ m ihm=>
        intro hm;obtain ⟨xs,hxs⟩:=ihm (by omega);obtain ⟨di,pi,hd⟩:=h2 m (by omega);obtain ⟨ys,hys⟩:=ih f' e _ di pi s hd hse;refine ⟨xs++ys,?_⟩;have e1:(List.replicate (m+1) s).flatten=(List.replicate m s).flatten++s:=by rw[List.replicate_succ',List.flatten_append];simp
        rw[e1,yCo,List.take_add];exact hxs.append hys
      obtain ⟨xs,hxs⟩:=key n (yAo _);rw[yAR (by omega)] at hxs;exact ⟨xs,hxs⟩
     ·simp at hs
    ·simp at hs
   ·simp at hs
end Go.Abs
end
section
namespace Go.Abs
variable[Gl]
open Go.RowKit
theorem Rel.start(w:World)(hg:Gl.ok (λc=>c<w.heap.size) w):Rel [] (λ_=>none) (λc=>c<w.heap.size) w:={
 blk:=λb c h=>by simp at h
 inj:=λb b' c h=>by simp at h
 fz:=λc h=>h
 gl:=hg }
theorem V.cells_agg{w:World}{shs:List Sh}{xs:List C}{vs:Array Value}(h:zb0 w shs xs vs.toList){U:Heap}{M:Nat->Option Nat}:V U M (λc=>c<w.heap.size) w (.agg (xs.map .c)) (.agg vs):=by obtain ⟨h1,h2,_,h4⟩:=h;refine .agg vs (by simp at h2 ⊢;omega) (λi d v a b=>?_);simp only[yAl,yAd] at a;obtain ⟨x,hx,rfl⟩:=a;exact .c (h4 i x v hx (by simpa using b)).1
theorem V.cells_one{w:World}{s:Sh}{xs:List C}{v:Value}(h:zb0 w [s] xs [v]){U:Heap}{M:Nat->Option Nat}:∃x,xs=[x]/\Shaped s x/\V U M (λc=>c<w.heap.size) w (.c x) v:=by
 obtain ⟨h1,_,h3,h4⟩:=h
 match xs,h1,h3,h4 with
 |[x],_,h3,h4=>exact ⟨x,rfl,h3 0 s x rfl rfl,.c (h4 0 x v rfl rfl).1⟩
theorem Evo.below{U:Heap}{M:Nat->Option Nat}{Fz:Nat->Prop}{w w':World}(R:Rel U M Fz w)(hb:Below w.heap.size w w'):Evo U M Fz w U M Fz w':={
 size:=hb.size
 frame:=λc hc _=>hb.block c hc
 ran:=λb c h=>.inl ⟨b,h⟩
 fz:=λc h=>⟨h,hb.block c (R.fz c h)⟩
 fz':=λc h=>.inl h
 shp:=λc arr T fr h=>⟨arr,by rw[hb.block c (yAv.1 h).1];exact h,rfl⟩
 keep:=λb ob h=>⟨ob,h,yAo _,λ_=>rfl⟩
 out:=⟨hb.os,hb.tape,hb.output⟩ }
theorem Rel.below{U:Heap}{M:Nat->Option Nat}{Fz:Nat->Prop}{w w':World}(R:Rel U M Fz w)(hb:Below w.heap.size w w'):Rel U M Fz w':={
 blk:=λb c h=>by obtain ⟨h1,ob,o,h2,h3,h4⟩:=R.blk b c h;exact ⟨h1,ob,o,h2,by rw[hb.block c (R.lt h).2];exact h3,h4.mono (Evo.below R hb)⟩
 inj:=R.inj
 fz:=λc h=>yAH (R.fz c h) hb.size
 gl:=Gl.mono (Evo.below R hb).fz R.gl }
noncomputable def tblOf(P:Program)(keep:List Nat)(g:FuncId):Option AFunc:=
 match P.funcs[g]? with
 |some fn=>if enterable P g then compF P fn (!keep.contains g) else none
 |none=>none
theorem tblOf_ok(P:Program)(keep:List Nat):TblOk P (tblOf P keep):=by
 intro g af h;unfold tblOf at h;split at h
 ·rename_i fn hfn;split at h
  ·rename_i he;exact ⟨he,fn,_,hfn,h⟩
  ·simp at h
 ·simp at h
end Go.Abs
end
section
namespace Go.Abs
variable[Gl]
abbrev AL:=List (Nat×D)
def lk(t:Nat):AL->Option D
 |[]=>none
 |(s,d)::al=>match Nat.beq s t with | true=>some d | false=>lk t al
def zeu(n:Nat)(al:AL):List D:=(List.range n).map λt=>(lk t al).getD .any
def Env(n:Nat)(al:AL)(e:List D):Prop:=e.length=n/\∀t d,lk t al=some d->e[t]? = some d
def AEnv(n:Nat)(U:Heap)(M:Nat->Option Nat)(Fz:Nat->Prop)(w:World)(al:AL)(tmps:Array Value):Prop:=
 tmps.size=n/\∀t d,lk t al=some d->∃v,tmps[t]? = some v/\V U M Fz w d v
section
variable{P:Program}{orc:Orc}{U U' U1 U2:Heap}{M M':Nat->Option Nat}{Fz Fz':Nat->Prop}{w w':World}{n:Nat}{al al1 al2:AL}
theorem AEnv.toEnv{tmps:Array Value}(h:AEnv n U M Fz w al tmps):zas U M Fz w (zeu n al) tmps/\Env n al (zeu n al):=by
 refine ⟨⟨by simp[zeu,h.1],λi d v a b=>?_⟩,by simp[zeu],λt d ht=>?_⟩
 ·simp only[zeu,yAl,yAd] at a;obtain ⟨j,hj,rfl⟩:=a;have:j=i:=by
   rw[yCm (by rw[yAb] at hj;obtain ⟨h1,_⟩:=hj;simpa using h1)] at hj;simpa using hj.symm
  subst this;cases hl:lk j al with
  |none=>exact .any v
  |some d=>obtain ⟨v',h1,h2⟩:=h.2 j d hl;rw[b] at h1;simp only[yAa] at h1;subst h1;exact h2
 ·obtain ⟨v,h1,_⟩:=h.2 t d ht;have hlt:t<n:=by have:=(yAv.1 h1).1;rw[h.1] at this;exact this
  simp[zeu,hlt,ht]
theorem AEnv.ofEnv{tmps:Array Value}{e:List D}(h:zas U M Fz w e tmps)(he:Env n al e):AEnv n U M Fz w al tmps:=by
 refine ⟨by rw[h.1,he.1],λt d ht=>?_⟩;have h1:=he.2 t d ht;have h2:t<tmps.size:=by rw[h.1];exact (yAb.1 h1).1
 exact ⟨tmps[t],yAn h2,h.2 t d _ h1 (yAn h2)⟩
def Sem(P:Program)(ac:ACode)(n:Nat)(al:AL)(U:Heap)(Q:zcX->AL->Heap->Prop):Prop:=
 ∀ (c : Code), zaL P c = some ac -> ∀ (M : Nat -> Option Nat) (Fz : Nat -> Prop) (w : World) (a : Act) (K : Exit -> Act -> World -> Prop), Rel U M Fz w -> AEnv n U M Fz w al a.tmps ->
  (∀x al' U' a' w' M' Fz',Q x al' U'->a'.defers=a.defers->Rel U' M' Fz' w'->AEnv n U' M' Fz' w' al' a'.tmps->Evo U M Fz w U' M' Fz' w'->U.length<=U'.length->K (toE x) a' w')->c.wp P K a w
def SemL(P:Program)(ac:ACode)(k:Nat)(n:Nat)(al:AL)(U:Heap)(Q:zcX->AL->Heap->Prop):Prop:=
 ∀ (c : Code), zaL P c = some ac -> ∀ (M : Nat -> Option Nat) (Fz : Nat -> Prop) (w : World) (a : Act) (K : Exit -> Act -> World -> Prop), Rel U M Fz w -> AEnv n U M Fz w al a.tmps ->
  (∀x al' U' a' w' M' Fz',Q x al' U'->a'.defers=a.defers->Rel U' M' Fz' w'->AEnv n U' M' Fz' w' al' a'.tmps->Evo U M Fz w U' M' Fz' w'->U.length<=U'.length->K (toE x) a' w')->Code.rounds P c K k a w
def DLe(d d':D):Prop:=∀U M Fz w v,V U M Fz w d v->V U M Fz w d' v
theorem DLe.refl(d:D):DLe d d:=λ_ _ _ _ _ h=>h
def Sub(al1:AL):AL->Prop
 |[]=>True
 |(t,d)::al2=>(∃d1,lk t al1=some d1/\DLe d1 d)/\Sub al1 al2
theorem Sub.get{al1 al2:AL}(h:Sub al1 al2){t:Nat}{d:D}(ht:lk t al2=some d):∃d1,lk t al1=some d1/\DLe d1 d:=by
 induction al2 with
 |nil=>simp[lk] at ht
 |cons p al2 ih=>
  obtain ⟨s,d'⟩:=p;simp only[lk] at ht;split at ht
  ·rename_i hb;have:=yAi hb;simp only[yAa] at ht;subst this ht;exact h.1
  ·exact ih h.2 ht
theorem Sub.one{al1 al2:AL}{t:Nat}{d d1:D}(h:lk t al1=some d1)(hd:DLe d1 d)(r:Sub al1 al2):Sub al1 ((t,d)::al2):=⟨⟨d1,h,hd⟩,r⟩
theorem Sub.same{al1 al2:AL}{t:Nat}{d:D}(h:lk t al1=some d)(r:Sub al1 al2):Sub al1 ((t,d)::al2):=⟨⟨d,h,DLe.refl d⟩,r⟩
theorem AEnv.sub {tmps:Array Value} (h:AEnv n U M Fz w al1 tmps) (hs:Sub al1 al2):AEnv n U M Fz w al2 tmps:=
 ⟨h.1,fun t d ht=>by
  obtain ⟨d1,h1,h2⟩:=hs.get ht
  obtain ⟨v,hv,hV⟩:=h.2 t d1 h1
  exact ⟨v,hv,h2 _ _ _ _ _ hV⟩⟩
def D.low(m:Nat):D->Bool
 |.c _=>true
 |.any=>true
 |.ptr b _ _=>b<m
 |.sl b _ _ _ _=>b<m
 |.mp b=>b<m
 |.fn _ a b=>lows m a&&lows m b
 |.agg ds=>lows m ds
 |.tup ds=>lows m ds
where lows (m:Nat):List D->Bool
 |[]=>true
 |d::ds=>d.low m&&lows m ds
theorem D.lows_get{m:Nat}:∀{ds:List D},D.low.lows m ds=true->∀(i:Nat) d,ds[i]? = some d->d.low m=true:=by
 intro ds;induction ds with
 |nil=>intro _ i d h;simp at h
 |cons x ds ih=>
  intro h i d hi;simp only[D.low.lows,yAj] at h;cases i with
  |zero=>simp at hi;subst hi;exact h.1
  |succ i=>exact ih h.2 i d (by simpa using hi)
def Ob.low(m:Nat):Ob->Bool
 |.cells cs=>D.low.lows m cs
 |.map es _=>es.all λe=>e.2.1.low m
 |.gone _=>true
theorem V.trunc{m:Nat}{d:D}{v:Value}(h:V U M Fz w d v)(hl:d.low m=true):V (U.take m) (cutM M m) Fz w d v:=by
 induction h with
 |c h=>exact .c h
 |any v=>exact .any v
 |ptr a ob h hle hv=>simp only[D.low,yAf] at hl;exact .ptr a ob (by rw[yBA,if_pos hl];exact h) hle (λhe=>by simpa[cutM,hl] using hv he)
 |sl a n cap hnn ob h hle hv=>simp only[D.low,yAf] at hl;exact .sl a n cap hnn ob (by rw[yBA,if_pos hl];exact h) hle (λhe=>by simpa[cutM,hl] using hv he)
 |mp c ob h hv=>simp only[D.low,yAf] at hl;exact .mp c ob (by rw[yBA,if_pos hl];exact h) (λhe=>by simpa[cutM,hl] using hv he)
 |fn vs ws h1 h2 hv hw ih1 ih2=>simp only[D.low,yAj] at hl;exact .fn vs ws h1 h2 (λi d v a b=>ih1 i d v a b (D.lows_get hl.1 i d a)) (λi d v a b=>ih2 i d v a b (D.lows_get hl.2 i d a))
 |agg vs h1 hv ih=>simp only[D.low] at hl;exact .agg vs h1 (λi d v a b=>ih i d v a b (D.lows_get hl i d a))
 |tup vs h1 hv ih=>simp only[D.low] at hl;exact .tup vs h1 (λi d v a b=>ih i d v a b (D.lows_get hl i d a))
theorem Rel.trunc{m:Nat}(R:Rel U M Fz w)(hl:(U.take m).all (Ob.low m)=true):Rel (U.take m) (cutM M m) Fz w:=by
 refine ⟨λb c h=>?_,λb b' c h h'=>?_,R.fz,R.gl⟩
 ·unfold cutM at h;split at h
  ·rename_i hb;obtain ⟨h1,ob,o,h2,h3,h4⟩:=R.blk b c h;have h2':(U.take m)[b]? = some ob:=by rw[yBA,if_pos hb];exact h2
   have hob:ob.low m=true:=yAp.1 hl ob (yAy h2');refine ⟨h1,ob,o,h2',h3,?_⟩;cases ob with
   |cells cs=>obtain ⟨arr,T,ho,hle,hv⟩:=h4;exact ⟨arr,T,ho,hle,λi d v x y=>⟨(hv i d v x y).1.trunc (D.lows_get hob i d x),(hv i d v x y).2⟩⟩
   |map es clock=>obtain ⟨arr,ho,hle,hv⟩:=h4;refine ⟨arr,ho,hle,λi k d n e x y=>?_⟩;obtain ⟨p,q,r⟩:=hv i k d n e x y;simp only[Ob.low,yAp] at hob;exact ⟨p,q,r.trunc (hob (k,d,n) (yAy x))⟩
   |gone n=>exact h4.elim
  ·simp at h
 ·unfold cutM at h h';split at h
  ·split at h'
   ·exact R.inj b b' c h h'
   ·simp at h'
  ·simp at h
theorem Evo.trunc{m:Nat}(E:Evo U M Fz w U1 M' Fz' w')(hm:U.length<=m):Evo U M Fz w (U1.take m) (cutM M' m) Fz' w':=by
 refine ⟨E.size,E.frame,λb c h=>?_,E.fz,E.fz',E.shp,λb ob h=>?_,E.out⟩
 ·unfold cutM at h;split at h
  ·exact E.ran b c h
  ·simp at h
 ·obtain ⟨ob',h1,h2,h3⟩:=E.keep b ob h;have hb:b<m:=yAH (yAb.1 h).1 hm;exact ⟨ob',by rw[yBA,if_pos hb];exact h1,h2,λhe=>by simp only[cutM,if_pos hb];exact h3 he⟩
inductive Wk (k:Nat) (al1:AL) (U1:Heap):AL->Heap->Prop where
 |refl:Wk k al1 U1 al1 U1
 |same {al2:AL} (h:Sub al1 al2):Wk k al1 U1 al2 U1
 |cut {al2:AL} (m:Nat) (hm:k<=m) (hs:m<=U1.length) (h:Sub al1 al2) (hd:al2.all (λp=>p.2.low m)=true) (hl:(U1.take m).all (Ob.low m)=true):Wk k al1 U1 al2 (U1.take m)
theorem lk_mem{t:Nat}{d:D}:∀{al:AL},lk t al=some d->(t,d)∈al:=by
 intro al;induction al with
 |nil=>intro h;simp[lk] at h
 |cons p al ih=>
  intro h;obtain ⟨s,d'⟩:=p;simp only[lk] at h;split at h
  ·rename_i hb;have:=yAi hb;simp only[yAa] at h;subst this h;simp
  ·exact yAm _ (ih h)
theorem Wk.use{U2:Heap}(h:Wk U.length al1 U1 al2 U2){tmps:Array Value}(R:Rel U1 M' Fz' w')(A:AEnv n U1 M' Fz' w' al1 tmps)(E:Evo U M Fz w U1 M' Fz' w')(hl:U.length<=U1.length) :
  ∃M2,Rel U2 M2 Fz' w'/\AEnv n U2 M2 Fz' w' al2 tmps/\Evo U M Fz w U2 M2 Fz' w'/\U.length<=U2.length:=by
 cases h with
 |refl=>exact ⟨M',R,A,E,hl⟩
 |same h=>exact ⟨M',R,A.sub h,E,hl⟩
 |cut m hm hs h hd hlo=>refine ⟨cutM M' m,R.trunc hlo,⟨A.1,λt d ht=>?_⟩,E.trunc hm,by simp;omega⟩;obtain ⟨v,h1,h2⟩:=(A.sub h).2 t d ht;exact ⟨v,h1,h2.trunc (yAp.1 hd (t,d) (lk_mem ht))⟩
end
end Go.Abs
end
section
namespace Go.Abs
variable[Gl]
section
variable{P:Program}{orc:Orc2}{U U' U1 U2:Heap}{n:Nat}{al al1 al2:AL}{Q:zcX->AL->Heap->Prop}
theorem Sem.mono{ac:ACode}{Q':zcX->AL->Heap->Prop}(h:Sem P ac n al U Q)(hq:∀x al' U',Q x al' U'->∃al2 U2,Wk U.length al' U' al2 U2/\Q' x al2 U2):Sem P ac n al U Q':=by intro c hc M Fz w a K R A hK;refine h c hc M Fz w a K R A λx al' U' a' w' M' Fz' hQ hd R' A' E' hl=>?_;obtain ⟨al2,U2,hw,hq'⟩:=hq x al' U' hQ;obtain ⟨M2,R2,A2,E2,l2⟩:=hw.use R' A' E' hl;exact hK x al2 U2 a' w' M2 Fz' hq' hd R2 A2 E2 l2
theorem Sem.pre{ac:ACode}(hs:Sub al al1)(h:Sem P ac n al1 U Q):Sem P ac n al U Q:=by intro c hc M Fz w a K R A hK;exact h c hc M Fz w a K R (A.sub hs) hK
theorem SemL.pre{ac:ACode}{k:Nat}(hs:Sub al al1)(h:SemL P ac k n al1 U Q):SemL P ac k n al U Q:=by intro c hc M Fz w a K R A hK;exact h c hc M Fz w a K R (A.sub hs) hK
theorem Sem.of_ev(hmix:P.follows .mixedOrders=true)(O:zbp P orc){ac:ACode}{k:Nat}{x:zcX}{e e':List D}{wr wr':List Nat}(h:evC P orc k ac e U wr=some (x,e',U',wr'))
  (he:e=zeu n al) (he':Env n al1 e') (hQ:Q x al1 U'):Sem P ac n al U Q:=by
 intro c hc M Fz w a K R A hK;subst he;refine (code_wp hmix O k).1 c ac U U' M Fz w _ e' a wr wr' x K hc R A.toEnv.1 h λa' w' M' Fz' hd R' E' EV=>?_;exact hK x al1 U' a' w' M' Fz' hQ hd R' (AEnv.ofEnv E' he') EV (evC_frame O _ _ _ _ _ _ _ _ _ h).1
theorem Sem.skip(hmix:P.follows .mixedOrders=true)(hQ:Q .normal al U):Sem P .skip n al U Q:=by intro c hc M Fz w a K R A hK;have:Sem P .skip n al U Q:=Sem.of_ev hmix (orc:=λ_ _ _ _=>none) (λt g ds U r U' wr h=>by simp at h) (k:=1) (wr:=[]) (wr':=[]) (e:=zeu n al) rfl rfl A.toEnv.2 hQ;exact this c hc M Fz w a K R A hK
theorem Sem.ret(hmix:P.follows .mixedOrders=true)(hQ:Q .ret al U):Sem P .ret n al U Q:=by intro c hc M Fz w a K R A hK;have:Sem P .ret n al U Q:=Sem.of_ev hmix (orc:=λ_ _ _ _=>none) (λt g ds U r U' wr h=>by simp at h) (k:=1) (wr:=[]) (wr':=[]) (e:=zeu n al) rfl rfl A.toEnv.2 hQ;exact this c hc M Fz w a K R A hK
theorem Sem.exit(hmix:P.follows .mixedOrders=true){id:Nat}(hQ:Q (.exit id) al U):Sem P (.exit id) n al U Q:=by intro c hc M Fz w a K R A hK;have:Sem P (.exit id) n al U Q:=Sem.of_ev hmix (orc:=λ_ _ _ _=>none) (λt g ds U r U' wr h=>by simp at h) (k:=1) (wr:=[]) (wr':=[]) (e:=zeu n al) rfl rfl A.toEnv.2 hQ;exact this c hc M Fz w a K R A hK
theorem Sem.seq{a b:ACode}(h:Sem P a n al U λx al1 U1=>match x with | .normal=>∃al2 U2,Wk U.length al1 U1 al2 U2/\Sem P b n al2 U2 Q | x=>Q x al1 U1):Sem P (.seq a b) n al U Q:=by
 intro c hc M Fz w act K R A hK;cases c with
 |seq c1 c2=>
  simp only[zaL] at hc;split at hc
  ·rename_i a1 a2 h1 h2;simp only[yAa,ACode.seq.injEq] at hc;obtain ⟨rfl,rfl⟩:=hc;refine wp_seq (h c1 h1 M Fz w act _ R A λx al1 U1 a' w' M' Fz' hQ hd R' A' E' hl=>?_);cases x with
   |normal=>obtain ⟨al2,U2,hw,hs⟩:=hQ;obtain ⟨M2,R2,A2,E2,l2⟩:=hw.use R' A' E' hl;exact hs c2 h2 M2 Fz' w' a' K R2 A2 λx al3 U3 a3 w3 M3 Fz3 hQ3 hd3 R3 A3 E3 hl3=>hK x al3 U3 a3 w3 M3 Fz3 hQ3 (by rw[hd3,hd]) R3 A3 (E2.trans E3 l2) (yAA l2 hl3)
   |exit i=>exact then_exit (hK (.exit i) al1 U1 a' w' M' Fz' hQ hd R' A' E' hl)
   |ret=>exact hK .ret al1 U1 a' w' M' Fz' hQ hd R' A' E' hl
  ·simp at hc
 |region id ops draw=>
  simp only[zaL] at hc;split at hc
  ·cases draw with
   |false=>simp at hc
   |true=>simp only[if_true] at hc;split at hc <;> simp at hc
  ·simp at hc
 |cond o c1 c2=>simp only[zaL] at hc;split at hc <;> simp at hc
 |block id c1=>simp[zaL] at hc
 |loop c1=>simp[zaL] at hc
 |scope b=>simp only[zaL,yAd] at hc;obtain ⟨a1,_,e1⟩:=hc;rcases zc0 a1 with ⟨l,r,_,e⟩ | e <;> rw[e] at e1 <;> simp at e1
 |_=>simp[zaL] at hc
theorem Sem.cond{o:Opd}{t e:ACode}{b:Bool}(ho:(match o with | .t k=>lk k al | .k d=>some d)=some (.c (.lit (.bool b))))
  (h1:b=true->Sem P t n al U Q) (h2:b=false->Sem P e n al U Q):Sem P (.cond o t e) n al U Q:=by
 intro c hc M Fz w act K R A hK;cases c with
 |cond x c1 c2=>
  simp only[zaL] at hc;split at hc
  ·rename_i oo a1 a2 h0 h3 h4;simp only[yAa,ACode.cond.injEq] at hc;obtain ⟨rfl,rfl,rfl⟩:=hc;have hv:=za5 A.toEnv.1 h0;have hoe:litBool (oo.ev (zeu n al))=some b:=by
    cases oo with
    |t k=>dsimp only at ho;simp[Opd.ev,A.toEnv.2.2 k _ ho,litBool]
    |k d=>simp only[yAa] at ho;subst ho;rfl
   cases b with
   |true=>exact wp_cond_true (litBool_inv hv hoe) (h1 rfl c1 h3 M Fz w act K R A hK)
   |false=>exact wp_cond_false (litBool_inv hv hoe) (h2 rfl c2 h4 M Fz w act K R A hK)
  ·simp at hc
 |region id ops draw=>
  simp only[zaL] at hc;split at hc
  ·cases draw with
   |false=>simp at hc
   |true=>simp only[if_true] at hc;split at hc <;> simp at hc
  ·simp at hc
 |seq c1 c2=>simp only[zaL] at hc;split at hc <;> simp at hc
 |block id c1=>simp[zaL] at hc
 |loop c1=>simp[zaL] at hc
 |scope b=>simp only[zaL,yAd] at hc;obtain ⟨a1,_,e1⟩:=hc;rcases zc0 a1 with ⟨l,r,_,e⟩ | e <;> rw[e] at e1 <;> simp at e1
 |_=>simp[zaL] at hc
theorem Sem.step{a b:ACode}(al2:AL)(U2:Heap)(h1:Sem P a n al U λx al1 U1=>x=.normal/\Wk U.length al1 U1 al2 U2)(h2:Sem P b n al2 U2 Q):Sem P (.seq a b) n al U Q:=
 Sem.seq (h1.mono λx al1 U1 ⟨hx,hw⟩=>⟨al1,U1,.refl,by subst hx;exact ⟨al2,U2,hw,h2⟩⟩)
def out(id:Nat):zcX->zcX
 |.exit i=>if i=id then .normal else .exit i
 |x=>x
def behind(id:Nat)(Q:zcX->AL->Heap->Prop)(al:AL)(U:Heap):zcX->Prop
 |.normal=>Q .normal al U
 |.ret=>Q .ret al U
 |.exit i=>(i=id->Q .normal al U)/\(i≠id->Q (.exit i) al U)
theorem Sem.block{id:Nat}{b:ACode}(h0:Sem P b n al U λx al1 U1=>∃al2 U2,Wk U.length al1 U1 al2 U2/\behind id Q al2 U2 x):Sem P (.block id b) n al U Q:=by
 have h:Sem P b n al U λx al1 U1=>∃al2 U2,Wk U.length al1 U1 al2 U2/\Q (out id x) al2 U2:=h0.mono λx al1 U1 ⟨al2,U2,hw,hb⟩=>⟨al1,U1,.refl,al2,U2,hw,by
  cases x with
  |normal=>exact hb
  |ret=>exact hb
  |exit i=>
   by_cases hi:i=id
   ·simp only[out,if_pos hi];exact hb.1 hi
   ·simp only[out,if_neg hi];exact hb.2 hi⟩
 intro c hc M Fz w act K R A hK;cases c with
 |block i c1=>
  simp only[zaL,yAd,ACode.block.injEq] at hc;obtain ⟨a1,h1,rfl,rfl⟩:=hc;refine wp_block (h c1 h1 M Fz w act _ R A λx al1 U1 a' w' M' Fz' hQ hd R' A' E' hl=>?_);obtain ⟨al2,U2,hw,hq⟩:=hQ;obtain ⟨M2,R2,A2,E2,l2⟩:=hw.use R' A' E' hl;have:=hK _ al2 U2 a' w' M2 Fz' hq hd R2 A2 E2 l2;cases x with
  |normal=>exact this
  |ret=>exact this
  |exit j=>
   by_cases hj:j=2 * i
   ·simp only[out,if_pos hj] at this;rw[hj];exact inBlock_in this
   ·simp only[out,if_neg hj] at this;exact inBlock_out hj this
 |region id ops draw=>
  simp only[zaL] at hc;split at hc
  ·cases draw with
   |false=>simp at hc
   |true=>simp only[if_true] at hc;split at hc <;> simp at hc
  ·simp at hc
 |seq c1 c2=>simp only[zaL] at hc;split at hc <;> simp at hc
 |cond o c1 c2=>simp only[zaL] at hc;split at hc <;> simp at hc
 |loop c1=>simp[zaL] at hc
 |scope b=>simp only[zaL,yAd] at hc;obtain ⟨a1,_,e1⟩:=hc;rcases zc0 a1 with ⟨l,r,_,e⟩ | e <;> rw[e] at e1 <;> simp at e1
 |_=>simp[zaL] at hc
theorem Sem.loop{b:ACode}(k:Nat)(h:SemL P b k n al U Q):Sem P (.loop b) n al U Q:=by
 intro c hc M Fz w act K R A hK;cases c with
 |loop c1=>simp only[zaL,yAd,ACode.loop.injEq] at hc;obtain ⟨a1,h1,rfl⟩:=hc;exact wp_loop_rounds k (h c1 h1 M Fz w act K R A hK)
 |region id ops draw=>
  simp only[zaL] at hc;split at hc
  ·cases draw with
   |false=>simp at hc
   |true=>simp only[if_true] at hc;split at hc <;> simp at hc
  ·simp at hc
 |seq c1 c2=>simp only[zaL] at hc;split at hc <;> simp at hc
 |cond o c1 c2=>simp only[zaL] at hc;split at hc <;> simp at hc
 |block id c1=>simp[zaL] at hc
 |scope b=>simp only[zaL,yAd] at hc;obtain ⟨a1,_,e1⟩:=hc;rcases zc0 a1 with ⟨l,r,_,e⟩ | e <;> rw[e] at e1 <;> simp at e1
 |_=>simp[zaL] at hc
theorem SemL.succ{b:ACode}{k:Nat}(h:Sem P b n al U λx al1 U1=>match x with | .normal=>∃al2 U2,Wk U.length al1 U1 al2 U2/\SemL P b k n al2 U2 Q | x=>∃al2 U2,Wk U.length al1 U1 al2 U2/\Q x al2 U2):SemL P b (k+1) n al U Q:=by
 intro c hc M Fz w act K R A hK;rw[rounds_succ];refine h c hc M Fz w act _ R A λx al1 U1 a' w' M' Fz' hQ hd R' A' E' hl=>?_;cases x with
 |normal=>obtain ⟨al2,U2,hw,hs⟩:=hQ;obtain ⟨M2,R2,A2,E2,l2⟩:=hw.use R' A' E' hl;exact hs c hc M2 Fz' w' a' K R2 A2 λx al3 U3 a3 w3 M3 Fz3 hQ3 hd3 R3 A3 E3 hl3=>hK x al3 U3 a3 w3 M3 Fz3 hQ3 (by rw[hd3,hd]) R3 A3 (E2.trans E3 l2) (yAA l2 hl3)
 |exit i=>obtain ⟨al2,U2,hw,hq⟩:=hQ;obtain ⟨M2,R2,A2,E2,l2⟩:=hw.use R' A' E' hl;exact then_exit (hK (.exit i) al2 U2 a' w' M2 Fz' hq hd R2 A2 E2 l2)
 |ret=>obtain ⟨al2,U2,hw,hq⟩:=hQ;obtain ⟨M2,R2,A2,E2,l2⟩:=hw.use R' A' E' hl;exact hK .ret al2 U2 a' w' M2 Fz' hq hd R2 A2 E2 l2
theorem Sem.rounds{b:ACode}{V:Type}(L:V->AL)(H:V->Heap)(p:Nat->V->Prop)(k:Nat)(v:V)(hp:p k v)(h0:∀v,p 0 v->False)
  (hs:∀k v,p (k+1) v->Sem P b n (L v) (H v) λx al1 U1=>match x with | .normal=>∃v',p k v'/\Wk (H v).length al1 U1 (L v') (H v') | x=>∃al2 U2,Wk (H v).length al1 U1 al2 U2/\Q x al2 U2)
  (hw:Sub al (L v)) (hσ:U=H v):Sem P (.loop b) n al U Q:=by
 subst hσ;refine Sem.loop k (SemL.pre hw ?_);clear hw;induction k generalizing v with
 |zero=>exact (h0 v hp).elim
 |succ k ih=>
  refine SemL.succ ((hs k v hp).mono λx al1 U1 hq=>⟨al1,U1,.refl,?_⟩);cases x with
  |normal=>obtain ⟨v',hv,hw⟩:=hq;exact ⟨L v',H v',hw,ih v' hv⟩
  |exit i=>exact hq
  |ret=>exact hq
def Trc(P:Program)(orc:Orc2)(k:Nat)(os:List AOper)(n:Nat)(al:AL)(U:Heap)(al':AL)(U':Heap)(is:List Info):Prop:=
 ∀e,Env n al e->∃e',evTr P orc k os e U=some (e',U',is)/\Env n al' e'
theorem evTr_ops:∀(os:List AOper)(e e':List D)(U U':Heap)(is:List Info),evTr P orc 0 os e U=some (e',U',is)->evOps P orc os e U=some (e',U',is.flatMap (·.wr)):=by
 intro os;induction os with
 |nil=>intro e e' U U' is h;simp only[evTr,yAa,yAc] at h;obtain ⟨rfl,rfl,rfl⟩:=h;rfl
 |cons o os ih=>
  intro e e' U U' is h;simp only[evTr] at h;split at h
  ·rename_i env1 U1 w1 h1;split at h
   ·split at h
    ·rename_i env2 U2 is2 h2;simp only[yAa,yAc] at h;obtain ⟨rfl,rfl,rfl⟩:=h;have:=ih _ _ _ _ _ h2;simp[evOps,h1,this,infoOf]
    ·simp at h
   ·simp at h
  ·simp at h
theorem Sem.reg(hmix:P.follows .mixedOrders=true)(O:zbp P orc){os:List AOper}{is:List Info}(h:Trc P orc 0 os n al U al1 U1 is)(hQ:Q .normal al1 U1):Sem P (.reg os) n al U Q:=by intro c hc M Fz w a K R A hK;obtain ⟨e',h1,h2⟩:=h _ A.toEnv.2;have h3:=evTr_ops _ _ _ _ _ _ h1;have:Sem P (.reg os) n al U Q:=Sem.of_ev hmix O (k:=1) (wr:=[]) (e:=zeu n al) (e':=e') (x:=.normal) (U':=U1) (wr':=is.flatMap (·.wr)++[]) (by simp only[evC,h3,Option.map_some]) rfl h2 hQ;exact this c hc M Fz w a K R A hK
theorem Sem.drw(hmix:P.follows .mixedOrders=true)(O:zbp P orc){os:List AOper}{bef:List Nat}{k p:Nat}{is:List Info}(h:Trc P orc k os n al U al1 U1 is)(hp:(pairsOk bef is&&tailOk bef p k os.length&&Nat.ble p k)=true)(hQ:Q .normal al1 U1) :
  Sem P (.drw os bef k p) n al U Q:=by
 intro c hc M Fz w a K R A hK;obtain ⟨e',h1,h2⟩:=h _ A.toEnv.2;have h3:evDrw P orc os bef p k (zeu n al) U=some (e',U1,is.flatMap (·.wr)):=by unfold evDrw;rw[h1];dsimp only;rw[if_pos hp]
 have:Sem P (.drw os bef k p) n al U Q:=Sem.of_ev hmix O (k:=1) (wr:=[]) (e:=zeu n al) (e':=e') (x:=.normal) (U':=U1) (by simp only[evC,h3];rfl) rfl h2 hQ;exact this c hc M Fz w a K R A hK
theorem evTr_det:∀(os:List AOper)(n m:Nat)(e:List D)(U:Heap)(r r':List D×Heap×List Info),evTr P orc n os e U=some r->evTr P orc m os e U=some r'->r=r':=by
 intro os;induction os with
 |nil=>intro n m e U r r' h h';simp only[evTr,yAa] at h h';rw[<-h,<-h']
 |cons o os ih=>
  intro n m e U r r' h h';simp only[evTr] at h h';cases h1:evOper P orc o e U with
  |none=>rw[h1] at h;simp at h
  |some q=>
   obtain ⟨e1,U1,w1⟩:=q;rw[h1] at h h';dsimp only at h h';split at h
   ·split at h'
    ·cases h2:evTr P orc (n-1) os e1 U1 with
     |none=>rw[h2] at h;simp at h
     |some r1=>
      cases h3:evTr P orc (m-1) os e1 U1 with
      |none=>rw[h3] at h';simp at h'
      |some r2=>have:=ih _ _ _ _ _ _ h2 h3;subst this;rw[h2] at h;rw[h3] at h';obtain ⟨a,b,c⟩:=r1;simp only[yAa] at h h';rw[<-h,<-h']
    ·simp at h'
   ·simp at h
theorem Sem.drwN(hmix:P.follows .mixedOrders=true)(O:zbp P orc){os:List AOper}{bef:List Nat}{k p:Nat}{is:List Info}(h:Trc P orc os.length os n al U al1 U1 is)(hp:(pairsOk bef is&&tailOk bef p os.length os.length&&Nat.ble p os.length)=true)(hQ:Q .normal al1 U1) :
  Sem P (.drw os bef k p) n al U Q:=by
 intro c hc M Fz w a K R A hK;obtain ⟨e',h1,h2⟩:=h _ A.toEnv.2;have det:∀m r,evDrw P orc os bef p m (zeu n al) U=some r->r=(e',U1,is.flatMap (·.wr)):=by
  intro m r hr;unfold evDrw at hr;split at hr
  ·rename_i e2 U2 is2 h3;have:=evTr_det _ _ _ _ _ _ _ h3 h1;simp only[yAc] at this;obtain ⟨rfl,rfl,rfl⟩:=this;split at hr
   ·simp only[yAa] at hr;exact hr.symm
   ·simp at hr
  ·simp at hr
 have h3:evDrw P orc os bef p os.length (zeu n al) U=some (e',U1,is.flatMap (·.wr)):=by unfold evDrw;rw[h1];dsimp only;rw[if_pos hp]
 have h4:evC P orc 1 (.drw os bef k p) (zeu n al) U []=some (.normal,e',U1,is.flatMap (·.wr)++[]):=by
  simp only[evC];split
  ·rename_i r e2 U2 w2 hr;have:=det _ _ hr;simp only[yAc] at this;obtain ⟨rfl,rfl,rfl⟩:=this;rfl
  ·split
   ·rename_i r e2 U2 w2 hr;have:=det _ _ hr;simp only[yAc] at this;obtain ⟨rfl,rfl,rfl⟩:=this;rfl
   ·rw[h3]
 have:Sem P (.drw os bef k p) n al U Q:=Sem.of_ev hmix O (k:=1) (wr:=[]) (e:=zeu n al) (e':=e') (x:=.normal) (U':=U1) h4 rfl h2 hQ;exact this c hc M Fz w a K R A hK
end
end Go.Abs
end
section
namespace Go.Abs
variable[Gl]
open Go.RowKit
def Pure(P:Program)(g:FuncId)(ds:List D)(r:D):Prop:=enterable P g=true/\Ok P g ds [] r []
section
variable{P:Program}{U U':Heap}{M M':Nat->Option Nat}{Fz Fz':Nat->Prop}{w w':World}
theorem V.data{d:D}{v:Value}(h:V U M Fz w d v)(hl:d.low 0=true)(U':Heap)(M':Nat->Option Nat):V U' M' Fz w d v:=by
 induction h with
 |c h=>exact .c h
 |any v=>exact .any v
 |ptr a ob h hle hv=>simp[D.low] at hl
 |sl a n cap hnn ob h hle hv=>simp[D.low] at hl
 |mp c ob h hv=>simp[D.low] at hl
 |fn vs ws h1 h2 hv hw ih1 ih2=>simp only[D.low,yAj] at hl;exact .fn vs ws h1 h2 (λi d v a b=>ih1 i d v a b (D.lows_get hl.1 i d a)) (λi d v a b=>ih2 i d v a b (D.lows_get hl.2 i d a))
 |agg vs h1 hv ih=>simp only[D.low] at hl;exact .agg vs h1 (λi d v a b=>ih i d v a b (D.lows_get hl i d a))
 |tup vs h1 hv ih=>simp only[D.low] at hl;exact .tup vs h1 (λi d v a b=>ih i d v a b (D.lows_get hl i d a))
def D.ground:D->Bool
 |.c (.lit _)=>true
 |.agg ds=>grounds ds
 |.tup ds=>grounds ds
 |_=>false
where grounds:List D->Bool
 |[]=>true
 |d::ds=>d.ground&&grounds ds
theorem D.grounds_get:∀{ds:List D},D.ground.grounds ds=true->∀(i:Nat) d,ds[i]? = some d->d.ground=true:=by
 intro ds;induction ds with
 |nil=>intro _ i d h;simp at h
 |cons x ds ih=>
  intro h i d hi;simp only[D.ground.grounds,yAj] at h;cases i with
  |zero=>simp at hi;subst hi;exact h.1
  |succ i=>exact ih h.2 i d (by simpa using hi)
theorem V.lit{d:D}{v:Value}(h:V U M Fz w d v)(hl:d.ground=true)(U':Heap)(M':Nat->Option Nat)(Fz':Nat->Prop)(w':World):V U' M' Fz' w' d v:=by
 induction h with
 |c h=>
  rename_i x v;cases x with
  |lit u=>cases h;exact .c (.lit _)
  |_=>simp[D.ground] at hl
 |any v=>simp[D.ground] at hl
 |ptr a ob h hle hv=>simp[D.ground] at hl
 |sl a n cap hnn ob h hle hv=>simp[D.ground] at hl
 |mp c ob h hv=>simp[D.ground] at hl
 |fn vs ws h1 h2 hv hw ih1 ih2=>simp[D.ground] at hl
 |agg vs h1 hv ih=>simp only[D.ground] at hl;exact .agg vs h1 (λi d v a b=>ih i d v a b (D.grounds_get hl i d a))
 |tup vs h1 hv ih=>simp only[D.ground] at hl;exact .tup vs h1 (λi d v a b=>ih i d v a b (D.grounds_get hl i d a))
theorem Pure.data{g:FuncId}{ds:List D}{r:D}(h:Pure P g ds r)(hd:ds.all (D.low 0)=true)(hr:r.low 0=true):Ok P g ds U r U:=by
 intro M Fz w vs R hs hvs;have R0:Rel [] (λ_=>none) Fz w:=⟨λb c h=>by simp at h,λb b' c h=>by simp at h,R.fz,R.gl⟩;refine (h.2 _ Fz w vs R0 hs λi d v a b=>(hvs i d v a b).data (yAp.1 hd d (yAy a)) _ _).mono λe w' he=>?_;obtain ⟨v,M',Fz',rfl,R',hv,EV⟩:=he;have hb:∀c:Nat,c<w.heap.size->w'.heap[c]? = w.heap[c]?:=λc hc=>EV.frame c hc (λb h=>by simp at h);have E:Evo U M Fz w U M Fz' w':={
  size:=EV.size
  frame:=λc hc _=>hb c hc
  ran:=λb c h=>.inl ⟨b,h⟩
  fz:=EV.fz
  fz':=λc h=>by
   rcases EV.fz' c h with h | ⟨b,h⟩ | h
   ·exact .inl h
   ·simp at h
   ·exact .inr (.inr h)
  shp:=λc arr T fr h=>⟨arr,by rw[hb c (yAv.1 h).1];exact h,rfl⟩
  keep:=λb ob h=>⟨ob,h,yAo _,λ_=>rfl⟩
  out:=EV.out }
 refine ⟨v,M,Fz',rfl,⟨λb c h=>?_,R.inj,R'.fz,R'.gl⟩,hv.data hr _ _,E⟩;obtain ⟨h1,ob,o,h2,h3,h4⟩:=R.blk b c h;have hc:=(R.lt h).2;refine ⟨λhf=>?_,ob,o,h2,by rw[hb c hc];exact h3,h4.mono E⟩;rcases EV.fz' c hf with h | ⟨b,h⟩ | h
 ·exact h1 h
 ·simp at h
 ·omega
theorem Pure.lend{g:FuncId}{ds ds':List D}{r:D}(h:Pure P g ds' r)(hd:ds.mapM (frzD U 0 100)=some ds')(hr:r.ground=true):Ok P g ds U r U:=by
 intro M Fz w vs R hs hvs;have R0:Rel [] (λ_=>none) (frzF M Fz 0) w:=⟨λb c h=>by simp at h,λb b' c h=>by simp at h,λc h=>by
  rcases h with h | ⟨b,_,h⟩
  ·exact R.fz c h
  ·exact (R.lt h).2,Gl.mono (λc h=>⟨.inl h,rfl⟩) R.gl⟩
 have hl:ds'.length=ds.length:=(zdr hd).1;refine (h.2 _ _ w vs R0 (by rw[hs,hl]) λi d v a b=>?_).mono λe w' he=>?_
 ·obtain ⟨d0,h1,h2⟩:=(zdr hd).2 i d a;exact frzD_ok R h2 (hvs i d0 v h1 b) _ _
 ·obtain ⟨v,M',Fz',rfl,R',hv,EV⟩:=he;have hb:Below w.heap.size w w':=⟨EV.out.1,EV.out.2.1,EV.out.2.2,EV.size,λk hk=>EV.frame k hk (λb h=>by simp at h)⟩;exact ⟨v,M,Fz,rfl,R.below hb,hv.lit hr _ _ _ _,Evo.below R hb⟩
end
def nrmC:C->C
 |.lit (.slice none 0 0)=>.frz false []
 |.frz _ es=>.frz false es
 |x=>x
def nrm1:D->D
 |.c x=>.c (nrmC x)
 |d=>d
def nrm:D->D
 |.c x=>.c (nrmC x)
 |.agg ds=>.agg (ds.map nrm1)
 |d=>d
theorem nrmC_ok{Fz:Nat->Prop}{w:World}{x:C}{v:Value}(h:VC Fz w x v):VC Fz w (nrmC x) v:=by
 unfold nrmC;split
 ·cases h;exact .frz (es:=[]) 0 none 0 (by simp) (λ_=>rfl) (λ_ _=>undef) (by simp) (by simp) (by simp) (by simp)
 ·cases h with
  |frz esz a cap hnn hz c hsz hcap hc hv=>exact .frz esz a cap (by simp) hz c hsz hcap hc hv
 ·exact h
theorem nrm1xok{U:Heap}{M:Nat->Option Nat}{Fz:Nat->Prop}{w:World}{d:D}{v:Value}(h:V U M Fz w d v):V U M Fz w (nrm1 d) v:=by
 unfold nrm1;split
 ·cases h with | c h=>exact .c (nrmC_ok h)
 ·exact h
theorem nrm_ok{U:Heap}{M:Nat->Option Nat}{Fz:Nat->Prop}{w:World}{d:D}{v:Value}(h:V U M Fz w d v):V U M Fz w (nrm d) v:=by
 unfold nrm;split
 ·cases h with | c h=>exact .c (nrmC_ok h)
 ·cases h with
  |agg vs h1 hv=>refine .agg vs (by simpa using h1) (λi d v a b=>?_);simp only[yAl,yAd] at a;obtain ⟨d0,h0,rfl⟩:=a;exact nrm1xok (hv i d0 v h0 b)
 ·exact h
theorem Ok.nrm{P:Program}{g:FuncId}{ds:List D}{U U':Heap}{r:D}(h:Ok P g (ds.map nrm) U r U'):Ok P g ds U r U':=by intro M Fz w vs R hs hvs;refine h M Fz w vs R (by simpa using hs) λi d v a b=>?_;simp only[yAl,yAd] at a;obtain ⟨d0,h0,rfl⟩:=a;exact nrm_ok (hvs i d0 v h0 b)
abbrev Specs:=List (Nat×(List D->Option D))
def spk(g:Nat):Specs->Option (List D->Option D)
 |[]=>none
 |(s,f)::l=>match Nat.beq s g with | true=>some f | false=>spk g l
def D.plain:D->Bool
 |.fn ..=>false
 |.agg ds=>ds.all λd=>match d with | .fn ..=>false | _=>true
 |.tup ds=>ds.all λd=>match d with | .fn ..=>false | _=>true
 |_=>true
def zc2(S:Specs):Orc:=λg ds U=>
 match spk g S with
 |none=>none
 |some f=>
  if ds.all (λd=>d.low 0&&d.plain) then (f (ds.map nrm)).bind λr=>if r.low 0 then some (r,U,[]) else none
  else
   match ds.mapM (frzD U 0 100) with
   |some ds'=>(f (ds'.map nrm)).bind λr=>if r.ground then some (r,U,[]) else none
   |none=>none
def SpecsOk(P:Program)(S:Specs):Prop:=∀p∈S,∀ds r,p.2 ds=some r->Pure P p.1 ds r
theorem spk_mem{g:Nat}{f:List D->Option D}:∀{S:Specs},spk g S=some f->(g,f)∈S:=by
 intro S;induction S with
 |nil=>intro h;simp[spk] at h
 |cons p S ih=>
  intro h;obtain ⟨s,f'⟩:=p;simp only[spk] at h;split at h
  ·rename_i hb;have:=yAi hb;simp only[yAa] at h;subst this h;simp
  ·exact yAm _ (ih h)
theorem low_nrm1{m:Nat}{d:D}(h:d.low m=true):(nrm1 d).low m=true:=by unfold nrm1;split <;> simp_all [D.low]
theorem lows_nrm{m:Nat}:∀{ds:List D},D.low.lows m ds=true->D.low.lows m (ds.map nrm1)=true:=by
 intro ds;induction ds with
 |nil=>intro _;rfl
 |cons d ds ih=>intro h;simp only[D.low.lows,yAj,yAw] at h ⊢;exact ⟨low_nrm1 h.1,ih h.2⟩
theorem low_nrm{m:Nat}{d:D}(h:d.low m=true):(nrm d).low m=true:=by
 unfold nrm;split
 ·rfl
 ·simp only[D.low] at h ⊢;exact lows_nrm h
 ·exact h
theorem callOrc_ok{P:Program}{S:Specs}(h:SpecsOk P S):OrcOk P (zc2 S):=by
 intro g ds U r U' wr he;unfold zc2 at he;split at he
 ·simp at he
 ·rename_i f hf;have hm:=spk_mem hf;split at he
  ·rename_i hl;rw[yAe] at he;obtain ⟨r',h1,h2⟩:=he;split at h2
   ·rename_i hr;simp only[yAa,yAc] at h2;obtain ⟨rfl,rfl,rfl⟩:=h2;have hp:=h _ hm _ _ h1;refine ⟨hp.1,(hp.data ?_ hr).nrm,yAo _,λ_ _ _=>rfl⟩;rw[yAp] at hl ⊢;intro d hd;rw[yA4] at hd;obtain ⟨d0,h0,rfl⟩:=hd;have:=hl d0 h0;rw[yAj] at this;exact low_nrm this.1
   ·simp at h2
  ·split at he
   ·rename_i ds' hds;rw[yAe] at he;obtain ⟨r',h1,h2⟩:=he;split at h2
    ·rename_i hr;simp only[yAa,yAc] at h2;obtain ⟨rfl,rfl,rfl⟩:=h2;have hp:=h _ hm _ _ h1;have hp':Pure P g ds' r':=⟨hp.1,hp.2.nrm⟩;exact ⟨hp.1,hp'.lend hds hr,yAo _,λ_ _ _=>rfl⟩
    ·simp at h2
   ·simp at he
noncomputable def spec{A R:Type}(args:A->List D)(res:R->D)(f:A->Option R):List D->Option D:=λds=>open Classical in if h:∃a,args a=ds then (f (Classical.choose h)).map res else none
theorem spec_eq{A R:Type}{args:A->List D}{res:R->D}{f:A->Option R}(inj:∀a b,args a=args b->a=b){a:A}{r:R}(h:f a=some r):spec args res f (args a)=some (res r):=by have hex:∃b,args b=args a:=⟨a,rfl⟩;unfold spec;rw[dif_pos hex,inj _ _ (yBx hex),h];rfl
theorem spec_ok{P:Program}{g:Nat}{A R:Type}{args:A->List D}{res:R->D}{f:A->Option R}(H:∀a r,f a=some r->Pure P g (args a) (res r)):∀ds r,spec args res f ds=some r->Pure P g ds r:=by
 intro ds r h;unfold spec at h;split at h
 ·rename_i hex;rw[yAd] at h;obtain ⟨r',h1,rfl⟩:=h;have:=H _ _ h1;rw[yBx hex] at this;exact this
 ·simp at h
theorem callOrc_data{S:Specs}{g:Nat}{F:List D->Option D}{ds ds':List D}{U:Heap}{r:D}(hS:spk g S=some F)(hl:(ds.all λd=>d.low 0&&d.plain)=true)(hd:ds.map nrm=ds')(h:F ds'=some r)(hr:r.low 0=true) :
  zc2 S g ds U=some (r,U,[]):=by
 subst hd;simp only[zc2,hS,hl,if_true,h,Option.bind_some,hr]
theorem callOrc_lend{S:Specs}{g:Nat}{F:List D->Option D}{ds ds1 ds':List D}{U:Heap}{r:D}(hS:spk g S=some F)(hl:(ds.all λd=>d.low 0&&d.plain)=false)(h1:ds.mapM (frzD U 0 100)=some ds1)(hd:ds1.map nrm=ds')(h:F ds'=some r)(hr:r.ground=true) :
  zc2 S g ds U=some (r,U,[]):=by
 subst hd;simp only[zc2,hS,hl,yAh,yAx,h1,h,Option.bind_some,hr,if_true]
def nrmR:D->D
 |.tup ds=>.tup (ds.map nrm)
 |d=>nrm d
theorem DLe.nrmR(d:D):DLe d (nrmR d):=by
 intro U M Fz w v h;unfold Go.Abs.nrmR;split
 ·cases h with
  |tup vs h1 hv=>refine .tup vs (by simpa using h1) (λi d v a b=>?_);simp only[yAl,yAd] at a;obtain ⟨d0,h0,rfl⟩:=a;exact nrm_ok (hv i d0 v h0 b)
 ·exact nrm_ok h
theorem DLe.of_nrm{d d':D}(h:Go.Abs.nrmR d=d'):DLe d d':=h▸DLe.nrmR d
theorem SpecsOk.nil{P:Program}:SpecsOk P []:=λp hp=>by simp at hp
theorem SpecsOk.cons{P:Program}{g:Nat}{F:List D->Option D}{S:Specs}(h:∀ds r,F ds=some r->Pure P g ds r)(hS:SpecsOk P S):SpecsOk P ((g,F)::S):=by
 intro p hp;rcases yAu.1 hp with rfl | hp
 ·exact h
 ·exact hS p hp
def resA(al:AL)(U:Heap):Nat×Option (Option Nat)->Option D
 |(t,none)=>lk t al
 |(t, some n)=>
  match lk t al with
  |some (.ptr b off sz)=>(zci U b sz).bind λcs=>zaT n cs off
  |_=>none
def zipAL:Nat->List D->AL
 |_,[]=>[]
 |i,d::ds=>(i,d)::zipAL (i+1) ds
theorem zipAL_lk:∀(ds:List D)(i t:Nat)(d:D),lk t (zipAL i ds)=some d->i<=t/\ds[t-i]? = some d:=by
 intro ds;induction ds with
 |nil=>intro i t d h;simp[zipAL,lk] at h
 |cons x ds ih=>
  intro i t d h;simp only[zipAL,lk] at h;split at h
  ·rename_i hb;have:=yAi hb;simp only[yAa] at h;subst this h;simp
  ·rename_i hb;obtain ⟨h1,h2⟩:=ih (i+1) t d h;refine ⟨by omega,?_⟩;have:t-i=(t-(i+1))+1:=by omega
   rw[this,List.getElem?_cons_succ];exact h2
theorem pure_of_sem{P:Program}{g:FuncId}{fn:Func}{af:AFunc}{fz:Bool}{ds:List D}{r:D}(hg:P.funcs[g]? = some fn)(hent:enterable P g=true)(hc:compF P fn fz=some af)
  (hlen:ds.length<=af.ntmps)
  (h:Sem P af.body af.ntmps (zipAL 0 ds) [] λx al U=>(x=.normal∨x=.ret)/\∃ds' r',af.results.mapM (resA al U)=some ds'/\frzD U 0 100 (one ds')=some r'/\DLe r' r):Pure P g ds r:=by
 refine ⟨hent,?_⟩;unfold compF at hc;split at hc
 ·rename_i c hb;split at hc
  ·rename_i ac rs h1 h2;simp only[yAa] at hc;subst hc;dsimp only at h hlen;intro M Fz w vs R hs hvs;refine calls_of_wp hg hb ?_;have A0:AEnv fn.ntmps [] M Fz w (zipAL 0 ds) (vs++Array.replicate (fn.ntmps-vs.size) undef):=by
    refine ⟨by simp;omega,λt d ht=>?_⟩;obtain ⟨_,h3⟩:=zipAL_lk ds 0 t d ht;rw[Nat.sub_zero] at h3;have hlt:t<vs.size:=by rw[hs];exact (yAb.1 h3).1
    exact ⟨vs[t],by rw[yBl hlt,yAn hlt],hvs t d _ h3 (yAn hlt)⟩
   refine h c h1 M Fz w { tmps:=vs++Array.replicate (fn.ntmps-vs.size) undef,defers:=[] } _ R A0 λx al' U' a' w' M' Fz' hQ hd R' A' EV hl=>?_;obtain ⟨hx,ds',r',hm,hfr,hle⟩:=hQ;have hm':rs.mapM (zcq (zeu fn.ntmps al') U')=some ds':=by
    have key:∀(l:List (Nat×Option (Option Nat))) ds',l.mapM (resA al' U')=some ds'->l.mapM (zcq (zeu fn.ntmps al') U')=some ds':=by
     intro l;induction l with
     |nil=>intro ds' h;simpa using h
     |cons p l ih=>
      intro ds' h;rw[yAS] at h ⊢;cases hp:resA al' U' p with
      |none=>rw[hp] at h;simp at h
      |some d=>
       rw[hp] at h;have:zcq (zeu fn.ntmps al') U' p=some d:=by
        obtain ⟨t,o⟩:=p;cases o with
        |none=>exact A'.toEnv.2.2 t d hp
        |some k=>
         simp only[resA] at hp;split at hp
         ·rename_i b off sz hlk;simp only[zcq,A'.toEnv.2.2 t _ hlk];exact hp
         ·simp at hp
       rw[this];cases hr:l.mapM (resA al' U') with
       |none=>rw[hr] at h;simp at h
       |some q=>rw[hr] at h;rw[ih q hr];exact h
    exact key rs ds' hm
   obtain ⟨v,hv1,hv2⟩:=results_ok (P:=P) R' A'.toEnv.1 h2 hm';obtain ⟨R2,EV2⟩:=Rel.forget R R' EV (λb hb=>by simp at hb);have post:a'.defers=[]/\∃v,(results fn a'.tmps).run P w'=.ok v w'/\∃v' M'' Fz'',Ending.returned v=.returned v'/\Rel [] M'' Fz'' w'/\V [] M'' Fz'' w' r v'/\Evo [] M Fz w [] M'' Fz'' w':=
    ⟨hd,v,hv1,v,_,_,rfl,R2,hle _ _ _ _ _ (frzD_ok R' hfr hv2 _ _),EV2⟩
   rcases hx with rfl | rfl
   ·exact post
   ·exact post
  ·simp at hc
 ·simp at hc
end Go.Abs
namespace Go.Abs
variable[Gl]
theorem pure_nil{P:Program}{g:FuncId}{es:List (List C)}{r:D}(hpos:∀e∈es,e≠[])(h1:Pure P g [.c (.frz true es)] r)(h2:es=[]->Pure P g [.c (.lit (.slice none 0 0))] r):Pure P g [.c (.frz false es)] r:=by
 refine ⟨h1.1,λM Fz w vs R hs hv=>?_⟩;have h0:vs[0]? = some (vs[0]'(by rw[hs];simp)):=yAn _;have hv0:=hv 0 _ _ rfl h0;generalize hx:vs[0]'(by rw[hs];simp)=x at hv0 h0;have only:∀d,V [] M Fz w d x->∀(i:Nat) d' v,[d][i]? = some d'->vs[i]? = some v->V [] M Fz w d' v:=by
  intro d hd i d' v a b;cases i with
  |zero=>simp only[List.getElem?_cons_zero,yAa] at a;rw[h0] at b;simp only[yAa] at b;subst a b;exact hd
  |succ i=>simp at a
 cases hv0 with
 |c hc=>
  generalize hy:C.frz false es=y at hc;cases hc with
  |frz esz a cap hnn hz c hsz hcap hcc hvv=>
   simp only[C.frz.injEq] at hy;obtain ⟨rfl,rfl⟩:=hy;cases a with
   |some a=>exact h1.2 M Fz w vs R hs (only _ (.c (.frz esz (some a) cap (λ_=>rfl) hz c hsz hcap hcc hvv)))
   |none=>
    have he:es=[]:=by
     cases es with
     |nil=>rfl
     |cons e es=>
      exfalso;cases e with
      |nil=>exact hpos [] (by simp) rfl
      |cons d e=>obtain ⟨_,_,h,_⟩:=hcc 0 0 _ d rfl rfl;simp at h
    subst he;have:=hz rfl;subst this;exact (h2 rfl).2 M Fz w vs R hs (only _ (.c (.lit _)))
  |_=>simp at hy
end Go.Abs
end
section
namespace Go.Abs
variable[Gl]
abbrev I(n:Int):D:=.c (.lit (.int .i64 n))
abbrev B(b:Bool):D:=.c (.lit (.bool b))
def lx(al:AL):Opd->Option D
 |.t k=>lk k al
 |.k d=>some d
def oev(al:AL)(x:Operand):Option D:=
 match opd x with
 |some o=>lx al o
 |none=>none
def lxs(al:AL):List Opd->Option (List D)
 |[]=>some []
 |x :: xs => match lx al x, lxs al xs with
  |some d,some ds=>some (d::ds)
  |_,_=>none
def OpR(P:Program)(orc:Orc)(n:Nat)(al:AL)(U:Heap)(op:AOp)(d:D)(U1:Heap)(w:List Nat):Prop:=∀e,Env n al e->zaB P orc op e U=some (d,U1,w)
def at?{α:Type}(l:List α)(i:Int):Option α:=if 0<=i/\i<l.length then l[i.toNat]? else none
section
variable{P:Program}{orc:Orc}{n:Nat}{al:AL}{U U1:Heap}{w:List Nat}{d d1 d2:D}{e:List D}
theorem zaY(he:Env n al e){x:Opd}(h:lx al x=some d):x.ev e=d:=by
 cases x with
 |t k=>simp only[lx] at h;simp[Opd.ev,he.2 k d h]
 |k d'=>simp only[lx,yAa] at h;subst h;rfl
theorem ev_lxs(he:Env n al e):∀{xs:List Opd}{ds:List D},lxs al xs=some ds->xs.map (Opd.ev e)=ds:=by
 intro xs;induction xs with
 |nil=>intro ds h;simp only[lxs,yAa] at h;subst h;rfl
 |cons x xs ih=>
  intro ds h;simp only[lxs] at h;split at h
  ·rename_i d1 ds1 h1 h2;simp only[yAa] at h;subst h;simp[zaY he h1,ih h2]
  ·simp at h
theorem zdZ{x:Opd}(h:lx al x=some d):OpR P orc n al U (.mov x) d U []:=λe he=>by simp[zaB,zaY he h]
theorem op_pickT{c x y:Opd}{b:Bool}(hc:lx al c=some (B b))(hb:b=true)(h:lx al x=some d):OpR P orc n al U (.pick c x y) d U []:=λe he=>by simp[zaB,zaY he hc,litBool,hb,zaY he h]
theorem op_pickF{c x y:Opd}{b:Bool}(hc:lx al c=some (B b))(hb:b=false)(h:lx al y=some d):OpR P orc n al U (.pick c x y) d U []:=λe he=>by simp[zaB,zaY he hc,litBool,hb,zaY he h]
def binV(P:Program)(o:BinOp)(t:TypeId)(x y:Operand)(a b:Value):Option Value:=zaH P (do eqGuard o t x y a b;binOp o t a b)
theorem zaq{α β:Type}{s:Go.Sem α}{f:α->Go.Sem β}:zaH P (s >>= f)=(zaH P s).bind λa=>zaH P (f a):=by
 induction s with
 |pure a=>rfl
 |program k ih=>exact ih P
 |_=>rfl
theorem op_bin{o:BinOp}{t ty t':TypeId}{x y:Operand}{a b v:Value}(h1:oev al x=some d1)(h2:oev al y=some d2)(v1:d1.val? = some a)(v2:d2.val? = some b)
  (h:binV P o t x y a b=some v) (hd:ofVal v=d):OpR P orc n al U (.gen (.binOp o t x y t') ty) d U []:=λe he=>by
 subst hd;have hx:∀{x:Operand}{d:D},oev al x=some d->((opd x).map (Opd.ev e))=some d:=by
  intro x d h;simp only[oev] at h;split at h
  ·rename_i o ho;rw[ho];simp[zaY he h]
  ·simp at h
 have e1:((opd x).map (Opd.ev e)).bind D.val? = some a:=by rw[hx h1];exact v1
 have e2:((opd y).map (Opd.ev e)).bind D.val? = some b:=by rw[hx h2];exact v2
 have:genEv P (.binOp o t x y t') ty e=some (ofVal v):=by
  unfold genEv;have hall:(Op.binOp o t x y t').operands.toList.all (λx=>(((opd x).map (Opd.ev e)).bind D.val?).isSome)=true:=by simp[Op.operands,e1,e2]
  rw[if_pos hall];have hp:zaH P (execOp (λx=>((((opd x).map (Opd.ev e)).bind D.val?).getD undef)) { dst:=none,op:=.binOp o t x y t',type:=ty,pos:="",after:=#[],guard:=none })=some (.value v):=by
   have key:∀a' b':Value,a'=a->b'=b->zaH P (do let r <-(do eqGuard o t x y a' b';binOp o t a' b');Go.Sem.pure (Next.value r))=some (.value v):=by intro a' b' ha hb;subst ha hb;rw[zaq];unfold binV at h;rw[h];rfl
   exact key _ _ (by dsimp only;rw[e1];rfl) (by dsimp only;rw[e2];rfl)
  rw[hp]
 simp[zaB,this]
theorem op_un{o:UnOp}{t ty:TypeId}{x:Operand}{a v:Value}(h1:oev al x=some d1)(v1:d1.val? = some a)
  (h:zaH P (Op.unary o a)=some v) (hd:ofVal v=d):OpR P orc n al U (.gen (.unOp o t x) ty) d U []:=λe he=>by
 subst hd;have hx:((opd x).map (Opd.ev e))=some d1:=by
  simp only[oev] at h1;split at h1
  ·rename_i o ho;rw[ho];simp[zaY he h1]
  ·simp at h1
 have e1:((opd x).map (Opd.ev e)).bind D.val? = some a:=by rw[hx];exact v1
 have:genEv P (.unOp o t x) ty e=some (ofVal v):=by
  unfold genEv;have hall:(Op.unOp o t x).operands.toList.all (λx=>(((opd x).map (Opd.ev e)).bind D.val?).isSome)=true:=by simp[Op.operands,e1]
  rw[if_pos hall];have hp:zaH P (execOp (λx=>((((opd x).map (Opd.ev e)).bind D.val?).getD undef)) { dst:=none,op:=.unOp o t x,type:=ty,pos:="",after:=#[],guard:=none })=some (.value v):=by
   have key:∀a':Value,a'=a->zaH P (do let r <-Op.unary o a';Go.Sem.pure (Next.value r))=some (.value v):=by intro a' ha;subst ha;rw[zaq,h];rfl
   exact key _ (by dsimp only;rw[e1];rfl)
  rw[hp]
 simp[zaB,this]
theorem op_conv{t t' ty:TypeId}{x:Operand}{a v:Value}(h1:oev al x=some d1)(v1:d1.val? = some a)
  (h:zaH P (convert t t' a)=some v) (hd:ofVal v=d):OpR P orc n al U (.gen (.convert t t' x) ty) d U []:=λe he=>by
 subst hd;have hx:((opd x).map (Opd.ev e))=some d1:=by
  simp only[oev] at h1;split at h1
  ·rename_i o ho;rw[ho];simp[zaY he h1]
  ·simp at h1
 have e1:((opd x).map (Opd.ev e)).bind D.val? = some a:=by rw[hx];exact v1
 have:genEv P (.convert t t' x) ty e=some (ofVal v):=by
  unfold genEv;have hall:(Op.convert t t' x).operands.toList.all (λx=>(((opd x).map (Opd.ev e)).bind D.val?).isSome)=true:=by simp[Op.operands,e1]
  rw[if_pos hall];have hp:zaH P (execOp (λx=>((((opd x).map (Opd.ev e)).bind D.val?).getD undef)) { dst:=none,op:=.convert t t' x,type:=ty,pos:="",after:=#[],guard:=none })=some (.value v):=by
   have key:∀a':Value,a'=a->zaH P (do let r <-convert t t' a';Go.Sem.pure (Next.value r))=some (.value v):=by intro a' ha;subst ha;rw[zaq,h];rfl
   exact key _ (by dsimp only;rw[e1];rfl)
  rw[hp]
 simp[zaB,this]
theorem op_box{x:Opd}{cs:List D}(h:lx al x=some d)(hc:d.cells? = some cs)(hp:D.ptr U.length 0 cs.length=d1)(hs:U++[.cells cs]=U1):OpR P orc n al U (.box x) d1 U1 []:=λe he=>by subst hp hs;simp[zaB,zaY he h,hc]
theorem op_alloc{z:List D}(hp:D.ptr U.length 0 z.length=d1)(hs:U++[.cells z]=U1):OpR P orc n al U (.alloc z) d1 U1 []:=λe he=>by subst hp hs;simp[zaB]
def fillA(al:AL):List D->List (Nat×Nat×Opd)->Option (List D)
 |cs,[]=>some cs
 |cs, (o, n, x) :: rest=>
  match (lx al x).bind D.cells? with
  |some xs=>if xs.length≠n∨o+n > cs.length then none else fillA al (put cs o xs) rest
  |none=>none
theorem fillA_ok(he:Env n al e):∀{ps:List (Nat×Nat×Opd)}{cs cs':List D},fillA al cs ps=some cs'->fillD e cs ps=some cs':=by
 intro ps;induction ps with
 |nil=>intro cs cs' h;exact h
 |cons p ps ih=>
  intro cs cs' h;obtain ⟨o,m,x⟩:=p;simp only[fillA] at h;split at h
  ·rename_i xs hxs;rw[yAe] at hxs;obtain ⟨d,h1,h2⟩:=hxs;simp only[fillD,zaY he h1,h2,Option.bind_eq_bind,Option.bind_some];split at h
   ·simp at h
   ·rename_i hn;rw[if_neg hn];exact ih h
  ·simp at h
theorem op_build{z cs:List D}{ps:List (Nat×Nat×Opd)}(h:fillA al z ps=some cs):OpR P orc n al U (.build z ps) (.agg cs) U []:=λe he=>by simp[zaB,fillA_ok he h]
theorem op_bslice{z cs:List D}{esz len:Nat}{ps:List (Nat×Nat×Opd)}(h:fillA al (zdu len z) ps=some cs)(hp:D.sl U.length 0 len esz cs.length=d1)(hs:U++[.cells cs]=U1):OpR P orc n al U (.bslice esz len z ps) d1 U1 []:=λe he=>by subst hp hs;simp[zaB,fillA_ok he h]
theorem op_load{m:Option Nat}{a:Opd}{b off sz:Nat}{cs:List D}(h:lx al a=some (.ptr b off sz))(hr:zci U b sz=some cs)(hg:zaT m cs off=some d):OpR P orc n al U (.load m a) d U []:=λe he=>by simp[zaB,zaY he h,hr,hg]
theorem op_loadf{m:Option Nat}{a:Opd}{off:Nat}{cs:List C}(h:lx al a=some (.c (.fptr cs off)))(hg:zaT m (cs.map .c) off=some d):OpR P orc n al U (.load m a) d U []:=λe he=>by simp[zaB,zaY he h,hg]
theorem op_store{m:Nat}{a x:Opd}{b off sz:Nat}{cs xs:List D}(h:lx al a=some (.ptr b off sz))(hr:zci U b sz=some cs)(hx:lx al x=some d)(hc:d.cells? = some xs)(hm:xs.length=m/\off+m<=sz)(hs:U.set b (.cells (put cs off xs))=U1) :
  OpR P orc n al U (.store m a x) (.tup []) U1 [b]:=λe he=>by
 subst hs;simp[zaB,zaY he h,hr,zaY he hx,hc,hm.1,hm.2]
theorem op_nilck{x:Opd}{b off sz:Nat}(h:lx al x=some (.ptr b off sz)):OpR P orc n al U (.nilck x) (.ptr b off sz) U []:=λe he=>by simp[zaB,zaY he h]
theorem op_isnil{k:Nat}{neg:Bool}{x:Opd}{b:Bool}(h:lx al x=some d)(hb:isNil k d=some b):OpR P orc n al U (.isnil k neg x) (B (if neg then !b else b)) U []:=λe he=>by simp[zaB,zaY he h,hb]
theorem op_fld{o:Nat}{x:Opd}{b off sz:Nat}(h:lx al x=some (.ptr b off sz)):OpR P orc n al U (.fld o x) (.ptr b (off+o) sz) U []:=λe he=>by simp[zaB,zaY he h]
theorem op_fldf{o:Nat}{x:Opd}{cs:List C}{off:Nat}(h:lx al x=some (.c (.fptr cs off))):OpR P orc n al U (.fld o x) (.c (.fptr cs (off+o))) U []:=λe he=>by simp[zaB,zaY he h]
theorem at_some{α:Type}{l:List α}{i:Int}{a:α}(h:at? l i=some a):0<=i/\i<l.length/\l[i.toNat]? = some a:=by
 unfold at? at h;split at h
 ·rename_i hi;exact ⟨hi.1,hi.2,h⟩
 ·simp at h
theorem op_idx{α:Type}{esz:Nat}{x i:Opd}{nn:Bool}{l:List α}{f:α->List C}{k:Int}{a:α}(h:lx al x=some (.c (.frz nn (l.map f))))(hi:lx al i=some (I k))(ha:at? l k=some a)(hl:(f a).length=esz) :
  OpR P orc n al U (.idx esz none x i) (.c (.fptr (f a) 0)) U []:=λe he=>by
 obtain ⟨h1,h2,h3⟩:=at_some ha;have h4:inR k (l.map f).length=some k.toNat:=by unfold inR;rw[if_pos ⟨h1,by simpa using h2⟩]
 simp only[zaB,zaY he h,zaY he hi,zbJ,Option.bind_eq_bind,Option.bind_some,h4,yAl,h3,Option.map_some,hl,if_true]
theorem op_len{α:Type}{x:Opd}{nn:Bool}{l:List α}{f:α->List C}(h:lx al x=some (.c (.frz nn (l.map f)))):OpR P orc n al U (.len x) (I l.length) U []:=λe he=>by simp[zaB,zaY he h,zbT]
theorem op_len0{x:Opd}(h:lx al x=some (.c (.lit (.slice none 0 0)))):OpR P orc n al U (.len x) (I 0) U []:=λe he=>by simp[zaB,zaY he h,zbT]
theorem op_extract{x:Opd}{i:Nat}{ds:List D}(h:lx al x=some (.tup ds))(hd:ds[i]? = some d):OpR P orc n al U (.extract x i) d U []:=λe he=>by simp[zaB,zaY he h,hd]
theorem op_part{m:Option Nat}{off:Nat}{x:Opd}{cs:List D}(h:lx al x=some (.agg cs))(hg:zaT m cs off=some d):OpR P orc n al U (.part off m x) d U []:=λe he=>by simp[zaB,zaY he h,hg]
theorem op_call{g:FuncId}{f:Opd}{args:List Opd}{ds:List D}(hf:lx al f=some (.c (.fn (.func g) [] [])))(ha:lxs al args=some ds)(ho:orc g ds U=some (d,U1,w)):OpR P orc n al U (.call f args) d U1 w:=λe he=>by simp[zaB,zaY he hf,ev_lxs he ha,ho]
def mkI(o:AOper)(c:Nat)(blk:Option Nat)(w:List Nat)(lo hi:Nat):Info:={ cat:=c,blk:=blk,wr:=w,dst:=o.dst,rds:=zb1 o,lo:=lo,hi:=hi }
def Gd(al:AL)(g:Option (Nat×Bool))(b:Bool):Prop:=∀n e,Env n al e->wantE e g=some b
theorem za9:Gd al none true:=λ_ _ _=>rfl
theorem gd_open{t:Nat}{want b:Bool}(h:lk t al=some (B b))(hb:b=want):Gd al (some (t,want)) true:=λn e he=>by simp[wantE,he.2 t _ h,hb]
theorem gd_shut{t:Nat}{want b:Bool}(h:lk t al=some (B b))(hb:b=!want):Gd al (some (t,want)) false:=λn e he=>by simp[wantE,he.2 t _ h,hb]
theorem gd_gone{t:Nat}{want:Bool}(h:lk t al=some (.tup [])):Gd al (some (t,want)) false:=λn e he=>by simp[wantE,he.2 t _ h]
def blkA(al:AL):AOp->Option Nat
 |.load _ x=>match lx al x with | some (.ptr b _ _)=>some b | _=>none
 |_=>none
def okA(al:AL):AOp->Bool
 |.load _ x=>(lx al x).isSome
 |_=>true
theorem blk_ok(he:Env n al e){o:AOper}(h:okA al o.op=true)(lo hi:Nat):(infoOf o e lo hi w).blk=blkA al o.op:=by
 obtain ⟨t,op,g⟩:=o;cases op with
 |load m x=>simp only[okA,yAX] at h;obtain ⟨d,hd⟩:=h;simp only[infoOf,ox1,blkA,hd,zaY he hd];cases d <;> rfl
 |_=>rfl
theorem info_ok(he:Env n al e){o:AOper}{b:Bool}(hg:∀n e,Env n al e->wantE e o.g=some b)(h:okA al o.op=true)(lo hi:Nat):infoOf o e lo hi w=mkI o (if b then cat o.op else 0) (blkA al o.op) w lo hi:=by
 have h1:=blk_ok (w:=w) he h lo hi;have h2:(infoOf o e lo hi w).cat=if b then cat o.op else 0:=by simp only[infoOf,hg n e he];cases b <;> rfl
 unfold mkI;rw[<-h1,<-h2];rfl
theorem env_set(he:Env n al e){t:Nat}(ht:t<n)(d:D):Env n ((t,d)::al) (e.set t d):=by
 refine ⟨by simp[he.1],λs d' h=>?_⟩;simp only[lk] at h;split at h
 ·rename_i hb;have:=yAi hb;simp only[yAa] at h;subst this h;rw[yBo (by rw[he.1];exact ht)]
 ·rename_i hb;have hne:t≠s:=λheq=>by subst heq;simp at hb
  rw[yAD hne];exact he.2 s d' h
variable{k:Nat}{os:List AOper}{al':AL}{U':Heap}{is:List Info}{t:Nat}{ao:AOp}{g:Option (Nat×Bool)}
theorem Trc.nil{oz:Orc2}:Trc P oz k [] n al U al U []:=λe he=>⟨e,rfl,he⟩
theorem Trc.op{oz:Orc2}(h:OpR P (oz (some t)) n al U ao d U1 w)(hg:Gd al g true)(hs:(Nat.blt t n&&okA al ao&&(k == 0 || wrOk U U1 w))=true)(r:Trc P oz (k-1) os n ((t,d)::al) U1 al' U' is) :
  Trc P oz k (⟨some t,ao,g⟩::os) n al U al' U' (mkI ⟨some t,ao,g⟩ (cat ao) (blkA al ao) w U.length U1.length::is):=λe he=>by
 simp only[yAj] at hs;obtain ⟨⟨h1,h2⟩,h3⟩:=hs;obtain ⟨e',h4,h5⟩:=r _ (env_set he (yAQ.mp h1) d);refine ⟨e',?_,h5⟩;have h6:=info_ok (w:=w) he (o:=⟨some t,ao,g⟩) hg h2 U.length U1.length;simp only[if_true,yAh,yAx] at h6;simp only[evTr,evOper,hg n e he,h e he,Option.map_some,putE,h3,if_true,h4,h6]
theorem Trc.eff{oz:Orc2}(h:OpR P (oz none) n al U ao d U1 w)(hg:Gd al g true)(hs:(okA al ao&&(k == 0 || wrOk U U1 w))=true)(r:Trc P oz (k-1) os n al U1 al' U' is) :
  Trc P oz k (⟨none,ao,g⟩::os) n al U al' U' (mkI ⟨none,ao,g⟩ (cat ao) (blkA al ao) w U.length U1.length::is):=λe he=>by
 simp only[yAj] at hs;obtain ⟨h2,h3⟩:=hs;obtain ⟨e',h4,h5⟩:=r _ he;refine ⟨e',?_,h5⟩;have h6:=info_ok (w:=w) he (o:=⟨none,ao,g⟩) hg h2 U.length U1.length;simp only[if_true,yAh,yAx] at h6;simp only[evTr,evOper,hg n e he,h e he,Option.map_some,putE,h3,if_true,h4,h6]
theorem Trc.no{oz:Orc2}(hg:Gd al g false)(hs:(Nat.blt t n&&okA al ao)=true)(r:Trc P oz (k-1) os n ((t,.tup [])::al) U al' U' is) :
  Trc P oz k (⟨some t,ao,g⟩::os) n al U al' U' (mkI ⟨some t,ao,g⟩ 0 (blkA al ao) [] U.length U.length::is):=λe he=>by
 simp only[yAj] at hs;obtain ⟨h1,h2⟩:=hs;obtain ⟨e',h4,h5⟩:=r _ (env_set he (yAQ.mp h1) (.tup []));refine ⟨e',?_,h5⟩;have h6:=info_ok (w:=[]) he (o:=⟨some t,ao,g⟩) hg h2 U.length U.length;simp only[if_true,yAh,yAx] at h6;simp only[evTr,evOper,hg n e he,putE,wrOk,List.all_nil,Bool.or_true,if_true,h4,h6]
end
end Go.Abs
end
section
namespace Go.Abs
variable[Gl]
abbrev ST(cs:List C):D:=.agg (cs.map .c)
theorem map_inj{α:Type}{f:α->List C}(hf:∀{a b:α},f a=f b->a=b){l m:List α}(h:l.map f=m.map f):l=m:=by
 induction l generalizing m with
 |nil => cases m with
  |nil=>rfl
  |cons b m=>simp at h
 |cons a l ih => cases m with
  |nil=>simp at h
  |cons b m=>simp only[yAw,yBs] at h;rw[hf h.1,ih h.2]
theorem mapc_inj:∀{l m:List C},l.map D.c=m.map D.c->l=m:=by
 intro l;induction l with
 |nil => intro m h;cases m with
  |nil=>rfl
  |cons b m=>simp at h
 |cons a l ih => intro m h;cases m with
  |nil=>simp at h
  |cons b m=>simp only[yAw,yBs,D.c.injEq] at h;rw[h.1,ih h.2]
theorem ST_inj{α:Type}{f:α->List C}(hf:∀{a b:α},f a=f b->a=b){a b:α}(h:ST (f a)=ST (f b)):a=b:=by simp only[ST,D.agg.injEq] at h;exact hf (mapc_inj h)
theorem ne_t{b:Bool}(h:b=false):¬(b=true):=by rw[h];exact Bool.false_ne_true
theorem sZ{al1:AL}:Sub al1 []:=True.intro
section
variable{P:Program}{orc:Orc}{n:Nat}{al:AL}{U U1:Heap}{w:List Nat}{d d1 d2:D}{e:List D}
theorem op_aidx{α:Type}{len:Nat}{x i:Opd}{cs:List D}{l:List α}{f:α->D}{k:Int}{a:α}(h:lx al x=some (.agg cs))(hi:lx al i=some (I k))(ha:at? l k=some a)(hl:cs=l.map f)(hn:l.length=len) :
  OpR P orc n al U (.aidx 1 len none x i) (f a) U []:=λe he=>by
 obtain ⟨h1,h2,h3⟩:=at_some ha;have h4:inR k len=some k.toNat:=by unfold inR;rw[if_pos ⟨h1,by rw[<-hn];exact h2⟩]
 subst hl;simp[zaB,zaY he h,zaY he hi,zbJ,h4,zaT,h3]
end
end Go.Abs
end
section
namespace Go.Abs
variable[Gl]
section
variable{P:Program}
theorem zbF{t:TypeId}{d:TypeDesc}(h:P.underlying t=some d):zaH P (underlying t)=some d:=by show zaH P (match P.underlying t with | some d=>Go.Sem.pure d | none=>_)=_;rw[h];rfl
theorem eqF_cons{d:Nat}{xs ys:Array Value}{f:Field}{fs:List Field}{a b:Value}{r q:Bool}(hn:(f.name != "_")=true)(ha:zaH P (part f.type xs f.offset)=some a)(hb:zaH P (part f.type ys f.offset)=some b)
  (hr:zaH P (Op.equalIn d f.type a b)=some r) (ht:zaH P (Op.eqFields d xs ys fs)=some q):zaH P (Op.eqFields d xs ys (f::fs))=some (r&&q):=by
 unfold Op.eqFields;have hn':f.name≠"_":=by simpa using hn
 rw[if_pos hn',zaq,ha,xAa,zaq,hb,xAa,zaq,hr,xAa];cases r
 ·rfl
 ·simpa using ht
theorem eq_int{d:Nat}{t:TypeId}{k k':IntKind}{a b:Int}(h:P.underlying t=some (.int k')):zaH P (Op.equalIn (d+1) t (.int k a) (.int k b))=some (a == b):=by simp only[Op.equalIn];rw[zaq,zbF h,xAa];simp only[if_true];rfl
theorem eq_bool{d:Nat}{t:TypeId}{a b:Bool}(h:P.underlying t=some .bool):zaH P (Op.equalIn (d+1) t (.bool a) (.bool b))=some (a == b):=by simp only[Op.equalIn];rw[zaq,zbF h,xAa];rfl
theorem eq_agg{d:Nat}{t:TypeId}{xs ys:Array Value}{r:Bool}(ht:P.underlying t=some (.struct (P.fieldsOf t)))(hp:P.stoodInHeld t=false)(h:zaH P (Op.eqFields d xs ys (P.fieldsOf t).toList)=some r) :
  zaH P (Op.equalIn (d+1) t (.agg xs) (.agg ys))=some r:=by
 simp only[Op.equalIn];rw[zaq,zbF ht,xAa];dsimp only;rw[zaq];show (zaH P (Go.Sem.pure P)).bind _=_;simp only[zaH,Option.bind_some,hp,yAh,yAx];rw[zaq,<-Array.forIn_toList];generalize (P.fieldsOf t).toList=fs at h;clear ht;induction fs generalizing r with
 |nil=>exact h
 |cons f fs ih=>
  simp only[List.forIn_cons,Op.eqFields] at h ⊢;rw[zaq];split at h
  ·rename_i hn;rw[if_pos hn];rw[zaq] at h ⊢;cases h1:zaH P (part f.type xs f.offset) with
   |none=>rw[h1] at h;simp at h
   |some a=>
    rw[h1] at h;simp only[Option.bind_some] at h ⊢;rw[zaq] at h ⊢;cases h2:zaH P (part f.type ys f.offset) with
    |none=>rw[h2] at h;simp at h
    |some b=>
     rw[h2] at h;simp only[Option.bind_some] at h ⊢;rw[zaq] at h ⊢;cases h3:zaH P (Op.equalIn d f.type a b) with
     |none=>rw[h3] at h;simp at h
     |some q=>
      rw[h3] at h;simp only[Option.bind_some] at h ⊢;cases q
      ·simp only[Bool.not_false,if_true] at h ⊢;exact h
      ·simp only[yAY,yAh,yAx] at h ⊢;exact ih h
  ·rename_i hn;rw[if_neg hn];exact ih h
theorem bin_eql{t:TypeId}{x y:Operand}{xs ys:Array Value}{r:Bool}(hm:P.eqGuardType P.depth t=false)(h:zaH P (Op.equalIn 10000 t (.agg xs) (.agg ys))=some r):binV P .eql t x y (.agg xs) (.agg ys)=some (.bool r):=by
 unfold binV;rw[zaq];have hg:zaH P (eqGuard .eql t x y (.agg xs) (.agg ys))=some ():=by simp only[eqGuard,yAY,yAh,yAx];show zaH P (if (!P.eqGuardType P.depth t)=true then Go.Sem.pure () else _)=_;rw[hm];rfl
 rw[hg,xAa];show zaH P (do Go.Sem.pure (Value.bool (<-Op.equal t (.agg xs) (.agg ys))))=_;rw[zaq];unfold Op.equal Op.maxDepth;rw[h];rfl
theorem bin_neq{t:TypeId}{x y:Operand}{xs ys:Array Value}{r:Bool}(hm:P.eqGuardType P.depth t=false)(h:zaH P (Op.equalIn 10000 t (.agg xs) (.agg ys))=some r):binV P .neq t x y (.agg xs) (.agg ys)=some (.bool (!r)):=by
 unfold binV;rw[zaq];have hg:zaH P (eqGuard .neq t x y (.agg xs) (.agg ys))=some ():=by simp only[eqGuard,yAY,yAh,yAx];show zaH P (if (!P.eqGuardType P.depth t)=true then Go.Sem.pure () else _)=_;rw[hm];rfl
 rw[hg,xAa];show zaH P (do Go.Sem.pure (Value.bool (!(<-Op.equal t (.agg xs) (.agg ys)))))=_;rw[zaq];unfold Op.equal Op.maxDepth;rw[h];rfl
end
end Go.Abs
namespace Go.Abs
variable[Gl]
section
variable{P:Program}{orc:Orc}{n:Nat}{al:AL}{U:Heap}{d:D}{e:List D}
def genA(P:Program)(op:Op)(ty:TypeId)(al:AL):Option D:=
 if op.operands.toList.all (λx=>((oev al x).bind D.val?).isSome) then
  match zaH P (execOp (λx=>(((oev al x).bind D.val?).getD undef)) { dst:=none,op:=op,type:=ty,pos:="",after:=#[],guard:=none }) with
  |some (.value v)=>some (ofVal v)
  |_=>none
 else none
theorem genA_ok{op:Op}{ty:TypeId}(hsel:∀cs b,op≠.select cs b)(h:genA P op ty al=some d)(he:Env n al e):genEv P op ty e=some d:=by
 unfold genA at h;split at h
 ·rename_i hall;rw[yAp] at hall;have key:∀x∈op.operands.toList,((opd x).map (Opd.ev e)).bind D.val? = (oev al x).bind D.val?:=by
   intro x hx;have:=hall x hx;rw[yAX] at this;obtain ⟨v,hv⟩:=this;rw[yAe] at hv;obtain ⟨d1,h1,h2⟩:=hv;simp only[oev] at h1;split at h1
   ·rename_i o ho;rw[ho];simp[zaY he h1,oev,ho,h1]
   ·simp at h1
  have key2:∀x:Operand,(x∈op.operands.toList)->((((opd x).map (Opd.ev e)).bind D.val?).getD undef)=(((oev al x).bind D.val?).getD undef):=λx hx=>by rw[key x hx]
  unfold genEv;rw[if_pos (by rw[yAp];intro x hx;rw[key x hx];exact hall x hx)];have:=execOp_congr (ρ:=λx=>((((opd x).map (Opd.ev e)).bind D.val?).getD undef)) (ρ':=λx=>(((oev al x).bind D.val?).getD undef)) { dst:=none,op:=op,type:=ty,pos:="",after:=#[],guard:=none } hsel (λx hx=>key2 x (by simpa using hx))
  rw[this];exact h
 ·simp at h
theorem op_call_gen{c:Call}{ty:TypeId}(h:genA P (.call c) ty al=some d):OpR P orc n al U (.gen (.call c) ty) d U []:=λe he=>by simp[zaB,genA_ok (λcs b=>by simp) h he]
end
end Go.Abs
namespace Go.Abs
variable[Gl]
section
variable{P:Program}{orc:Orc}{n:Nat}{al:AL}{U:Heap}{d:D}{e:List D}
theorem bin_eqlB{t:TypeId}{x y:Operand}{a b:Bool}(h:P.underlying t=some .bool):binV P .eql t x y (.bool a) (.bool b)=some (.bool (a == b)):=by unfold binV;rw[zaq];show (some ()).bind _=_;rw[xAa];show zaH P (do Go.Sem.pure (Value.bool (<-Op.equal t (.bool a) (.bool b))))=_;rw[zaq];unfold Op.equal Op.maxDepth;rw[eq_bool (d:=9999) h];rfl
theorem bin_neqB{t:TypeId}{x y:Operand}{a b:Bool}(h:P.underlying t=some .bool):binV P .neq t x y (.bool a) (.bool b)=some (.bool (!(a == b))):=by unfold binV;rw[zaq];show (some ()).bind _=_;rw[xAa];show zaH P (do Go.Sem.pure (Value.bool (!(<-Op.equal t (.bool a) (.bool b)))))=_;rw[zaq];unfold Op.equal Op.maxDepth;rw[eq_bool (d:=9999) h];rfl
def quo?(k:IntKind)(a b:Int):Option Int:=if b=0 then none else some (k.wrap (a.tdiv b))
def rem?(a b:Int):Option Int:=if b=0 then none else some (a.tmod b)
def shr?(k:IntKind)(a b:Int):Option Int:=if b<0 then none else some (a.fdiv (2 ^ min b.toNat k.bits))
theorem bin_shr{t:TypeId}{x y:Operand}{ka kb:IntKind}{a b v:Int}(h:shr? ka a b=some v):binV P .shr t x y (.int ka a) (.int kb b)=some (.int ka v):=by
 unfold shr? at h;split at h
 ·simp at h
 ·rename_i hb;simp only[yAa] at h;subst h;unfold binV;rw[zaq];show (some ()).bind _=_;rw[xAa];simp only[binOp,Op.shift,if_neg hb];rfl
def shl?(k:IntKind)(a b:Int):Option Int:=if b<0 then none else some (k.wrap (a * 2 ^ min b.toNat k.bits))
theorem bin_shl{t:TypeId}{x y:Operand}{ka kb:IntKind}{a b v:Int}(h:shl? ka a b=some v):binV P .shl t x y (.int ka a) (.int kb b)=some (.int ka v):=by
 unfold shl? at h;split at h
 ·simp at h
 ·rename_i hb;simp only[yAa] at h;subst h;unfold binV;rw[zaq];show (some ()).bind _=_;rw[xAa];simp only[binOp,Op.shift,if_neg hb];rfl
theorem bin_quo{t:TypeId}{x y:Operand}{k:IntKind}{a b v:Int}(h:quo? k a b=some v):binV P .quo t x y (.int k a) (.int k b)=some (.int k v):=by
 unfold quo? at h;split at h
 ·simp at h
 ·rename_i hb;simp only[yAa] at h;subst h;unfold binV;rw[zaq];show (some ()).bind _=_;rw[xAa];simp only[binOp,ne_eq,not_true_eq_false,yAx,Op.intDiv,if_neg hb];rfl
theorem bin_rem{t:TypeId}{x y:Operand}{k:IntKind}{a b v:Int}(h:rem? a b=some v):binV P .rem t x y (.int k a) (.int k b)=some (.int k v):=by
 unfold rem? at h;split at h
 ·simp at h
 ·rename_i hb;simp only[yAa] at h;subst h;unfold binV;rw[zaq];show (some ()).bind _=_;rw[xAa];simp only[binOp,ne_eq,not_true_eq_false,yAx,Op.intDiv,if_neg hb];rfl
theorem op_idxA{α:Type}{x i:Opd}{b off sz len esz:Nat}{k:Int}{l:List α}{a:α}(h:lx al x=some (.ptr b off sz))(hi:lx al i=some (I k))(ha:at? l k=some a)(hn:l.length=len)(hd:D.ptr b (off+k.toNat * esz) sz=d) :
  OpR P orc n al U (.idx esz (some len) x i) d U []:=λe he=>by
 subst hd;obtain ⟨h1,h2,h3⟩:=at_some ha;have h4:inR k len=some k.toNat:=by unfold inR;rw[if_pos ⟨h1,by rw[<-hn];exact h2⟩]
 simp[zaB,zaY he h,zaY he hi,zbJ,h4]
end
end Go.Abs
end
section
namespace Go.Abs
variable[Gl]
abbrev OS(esz b n:Nat):D:=.sl b 0 n esz (n * esz)
abbrev OB{α:Type}(f:α->List C)(l:List α):Ob:=.cells ((l.flatMap f).map .c)
section
variable{α:Type}{f:α->List C}{esz:Nat}
theorem flat_len(hf:∀a,(f a).length=esz):∀(l:List α),(l.flatMap f).length=l.length * esz:=by
 intro l;induction l with
 |nil=>simp
 |cons a l ih=>simp only[yBi,yAC,hf,ih,List.length_cons,yBe,Nat.one_mul];omega
theorem flat_at(hf:∀a,(f a).length=esz):∀(l:List α)(i:Nat)(a:α),l[i]? = some a->((l.flatMap f).drop (i * esz)).take esz=f a:=by
 intro l;induction l with
 |nil=>intro i a h;simp at h
 |cons x l ih=>
  intro i a h;cases i with
  |zero=>simp only[List.getElem?_cons_zero,yAa] at h;subst h;simp only[yBi,yBw,yB4];rw[yBB (by rw[hf];exact yAo _),yAR (by rw[hf];exact yAo _)]
  |succ i=>
   simp only[List.getElem?_cons_succ] at h;simp only[yBi];have:(i+1) * esz=(f x).length+i * esz:=by rw[hf,yBe];omega
   rw[this,xAh,<-ih i a h,yB1 (by omega),xAe];congr 2;omega
theorem flat_sub(hf:∀a,(f a).length=esz)(l:List α)(lo n:Nat):((l.flatMap f).drop (lo * esz)).take (n * esz)=((l.drop lo).take n).flatMap f:=by
 induction l generalizing lo n with
 |nil=>simp
 |cons x l ih=>
  cases lo with
  |succ lo=>
   simp only[yBi,List.drop_succ_cons];have:(lo+1) * esz=(f x).length+lo * esz:=by rw[hf,yBe];omega
   rw[this,xAh,<-ih lo n,yB1 (by omega),xAe];congr 2;omega
  |zero=>
   cases n with
   |zero=>simp
   |succ n=>
    simp only[yBw,yB4,yBi,List.take_succ_cons];have h1:(n+1) * esz=(f x).length+n * esz:=by rw[hf,yBe];omega
    rw[h1,List.take_append];have:=ih 0 n;simp only[yBw,yB4] at this;rw[yAR (by omega),yBD,this]
theorem row_own{U:Heap}{b:Nat}{l:List α}(hf:∀a,(f a).length=esz)(h:U[b]? = some (OB f l)):zci U b (l.length * esz)=some ((l.flatMap f).map .c):=by unfold zci;rw[h];simp[flat_len hf]
theorem chunks_map(hf:∀a,(f a).length=esz):∀(l:List α),chunks esz l.length (l.flatMap f)=l.map f:=by
 intro l;induction l with
 |nil=>rfl
 |cons a l ih=>
  simp only[List.length_cons,chunks,yBi,yAw];rw[yBB (by rw[hf];exact yAo _),yAR (by rw[hf];exact yAo _)];congr 1;have:((f a)++l.flatMap f).drop esz=l.flatMap f:=by have h:=hf a;rw[<-h,List.drop_left]
  rw[this,ih]
theorem mapM_frzC{U:Heap}{n k:Nat}:∀(l:List C),(l.map D.c).mapM (frzC U n (k+1))=some l:=by
 intro l;induction l with
 |nil=>rfl
 |cons x l ih=>rw[yAw,yAS,ih];rfl
theorem frzC_own{U:Heap}{b k n:Nat}{l:List α}(hf:∀a,(f a).length=esz)(he:0<esz)(h:U[b]? = some (OB f l))(hn:l.length=n):frzC U 0 (k+2) (OS esz b n)=some (.frz (Nat.blt 0 n) (l.map f)):=by
 subst hn;have:frzC U 0 (k+2) (OS esz b l.length)=(if 0<=b/\0<esz/\0+l.length * esz<=l.length * esz then
    match zci U b (l.length * esz) with
    |some cs=>(((cs.drop 0).take (l.length * esz)).mapM (frzC U 0 (k+1))).map λr=>C.frz (Nat.blt 0 l.length) (chunks esz l.length r)
    |none=>none
   else none):=rfl
 rw[this,if_pos ⟨yB3 _,he,by omega⟩,row_own hf h];simp only[yB4];rw[yAR (by simp[flat_len hf]),mapM_frzC];simp[chunks_map hf]
theorem frz_own{U:Heap}{b n:Nat}{l:List α}(hf:∀a,(f a).length=esz)(he:0<esz)(h:U[b]? = some (OB f l))(hn:l.length=n):frzD U 0 100 (OS esz b n)=some (.c (.frz (Nat.blt 0 n) (l.map f))):=by show (frzC U 0 100 (OS esz b n)).map D.c=_;rw[frzC_own (k:=98) hf he h hn];rfl
theorem mapM_c{β:Type}{g:D->Option β}{d:D}{ds:List D}{r:β}{rs:List β}(h:g d=some r)(h2:ds.mapM g=some rs):(d::ds).mapM g=some (r::rs):=by rw[yAS,h,h2];rfl
theorem frz_tup{U:Heap}{ds rs:List D}(h:ds.mapM (frzD1 U 0 100)=some rs):frzD U 0 100 (.tup ds)=some (.tup rs):=by show (ds.mapM (frzD1 U 0 100)).map D.tup=_;rw[h];rfl
theorem frz_agg{U:Heap}{ds:List D}{rs:List C}(h:ds.mapM (frzC U 0 100)=some rs):frzD1 U 0 100 (.agg ds)=some (.agg (rs.map .c)):=by show (ds.mapM (frzC U 0 100)).map (λl=>D.agg (l.map .c))=_;rw[h];rfl
def Src(U:Heap)(f:α->List C)(esz:Nat)(d:D)(m:List α):Prop:=zbT U d=some m.length/\zcL U esz m.length d=some ((m.flatMap f).map .c)
def SrcN(U:Heap)(f:α->List C)(esz:Nat)(d:D)(m:List α):Prop:=zbT U d=some m.length/\∀n,n<=m.length->zcL U esz n d=some (((m.take n).flatMap f).map .c)
theorem srcN_frz{U:Heap}{nn:Bool}{m:List α}(hf:∀a,(f a).length=esz):SrcN U f esz (.c (.frz nn (m.map f))) m:=by refine ⟨by simp[zbT],λn hn=>?_⟩;show (if n<=(m.map f).length/\(m.map f).all (λe=>e.length=esz) then some (((m.map f).take n).flatten.map D.c) else none)=_;rw[if_pos ⟨by simpa using hn,by simp[hf]⟩,<-yCa];simp[List.flatMap]
theorem srcN_nil{U:Heap}:SrcN U f esz (.c (.lit (.slice none 0 0))) []:=⟨rfl,λn hn=>by
 obtain rfl:n=0:=by simpa using hn
 rfl⟩
theorem srcN_own{U:Heap}{b n:Nat}{l:List α}(hf:∀a,(f a).length=esz)(h:U[b]? = some (OB f l))(hn:l.length=n):SrcN U f esz (OS esz b n) l:=by subst hn;refine ⟨by simp[zbT,row_own hf h],λk hk=>?_⟩;show ((zci U b (l.length * esz)).bind λcs=>if esz=esz/\k<=l.length/\0+l.length * esz<=l.length * esz then some ((cs.drop 0).take (k * esz)) else none)=_;have:=flat_sub hf l 0 k;simp only[yBw,yB4] at this;rw[row_own hf h,xAa,if_pos ⟨rfl,hk,by omega⟩,yB4,<-yCa,this]
theorem flat_take(hf:∀a,(f a).length=esz)(l:List α)(n:Nat):(l.flatMap f).take (n * esz)=(l.take n).flatMap f:=by have:=flat_sub hf l 0 n;simpa only[yBw,yB4] using this
theorem flat_drop(hf:∀a,(f a).length=esz):∀(l:List α)(n:Nat),(l.flatMap f).drop (n * esz)=(l.drop n).flatMap f:=by
 intro l;induction l with
 |nil=>intro n;simp
 |cons x l ih=>
  intro n;cases n with
  |zero=>simp
  |succ n=>
   have:(n+1) * esz=(f x).length+n * esz:=by rw[hf,yBe];omega
   rw[yBi,List.drop_succ_cons,<-ih n,this,xAh,yB1 (by omega),xAe];congr 1;omega
def cpL(l m:List α)(lo len:Nat):List α:=l.take lo++m.take len++l.drop (lo+(m.take len).length)
theorem cpL_len{l m:List α}{lo len:Nat}(h:lo+len<=l.length):(cpL l m lo len).length=l.length:=by simp only[cpL,yAC,yA6,yBQ];omega
theorem src_frz{U:Heap}{nn:Bool}{m:List α}(hf:∀a,(f a).length=esz):Src U f esz (.c (.frz nn (m.map f))) m:=by refine ⟨by simp[zbT],?_⟩;show (if m.length<=(m.map f).length/\(m.map f).all (λe=>e.length=esz) then some (((m.map f).take m.length).flatten.map D.c) else none)=_;rw[if_pos ⟨by simp,by simp[hf]⟩,yAR (by simp)];simp[List.flatMap]
theorem src_nil{U:Heap}:Src U f esz (.c (.lit (.slice none 0 0))) []:=⟨rfl,rfl⟩
theorem src_own{U:Heap}{b n:Nat}{l:List α}(hf:∀a,(f a).length=esz)(h:U[b]? = some (OB f l))(hn:l.length=n):Src U f esz (OS esz b n) l:=by subst hn;refine ⟨by simp[zbT,row_own hf h],?_⟩;show ((zci U b (l.length * esz)).bind λcs=>if esz=esz/\l.length<=l.length/\0+l.length * esz<=l.length * esz then some ((cs.drop 0).take (l.length * esz)) else none)=_;rw[row_own hf h,xAa,if_pos ⟨rfl,yAo _,by omega⟩,yB4,yAR (by simp[flat_len hf])]
end
section
variable{P:Program}{orc:Orc}{n:Nat}{al:AL}{U U1:Heap}{d d1 d2:D}{α:Type}{f:α->List C}{esz:Nat}{ac:ACode}{Q:zcX->AL->Heap->Prop}
theorem Sem.own(t esz:Nat)(hk:lk t al=some (.c (.lit (.slice none 0 0))))(hd:D.sl U.length 0 0 esz 0=d)(hs:U++[.cells []]=U1)(h:Sem P ac n ((t,d)::al) U1 Q):Sem P ac n al U Q:=by
 subst hd hs;intro c hc M Fz w a K R A hK;have E1:=Evo.ph R;have R1:=R.ph;have hmono:∀{d v},V U M Fz w d v->V (U++[.cells []]) M Fz w d v:=λh=>h.mono E1;have A1:AEnv n (U++[.cells []]) M Fz w ((t,.sl U.length 0 0 esz 0)::al) a.tmps:=by
  refine ⟨A.1,λs d hs=>?_⟩;simp only[lk] at hs;split at hs
  ·rename_i hb;have:=yAi hb;simp only[yAa] at hs;subst this hs;obtain ⟨v,h1,h2⟩:=A.2 t _ hk;refine ⟨v,h1,?_⟩;rw[h2.lit_inv];exact .sl none 0 0 (by simp) (.cells []) (by simp) (by simp[Ob.sz]) (λ_=>.inl ⟨rfl,rfl,rfl,rfl,rfl,rfl⟩)
  ·obtain ⟨v,h1,h2⟩:=A.2 s d hs;exact ⟨v,h1,hmono h2⟩
 exact h c hc M Fz w a K R1 A1 λx al' U' a' w' M' Fz' hQ hd R' A' E' hl=>hK x al' U' a' w' M' Fz' hQ hd R' A' (E1.trans E' (by simp)) (by simp at hl;omega)
theorem op_len_own{x:Opd}{b k:Nat}{l:List α}(hf:∀a,(f a).length=esz)(h:lx al x=some (OS esz b k))(hb:U[b]? = some (OB f l))(hn:l.length=k):OpR P orc n al U (.len x) (I k) U []:=λe he=>by subst hn;simp[zaB,zaY he h,zbT,row_own hf hb]
def app?{α:Type}(l m:List α):Option (List α):=if l.length+m.length<=1000000 then some (l++m) else none
theorem app_some{l m r:List α}(h:app? l m=some r):l.length+m.length<=1000000/\r=l++m:=by
 unfold app? at h;split at h
 ·rename_i hl;simp only[yAa] at h;exact ⟨hl,h.symm⟩
 ·simp at h
theorem op_append{bytes:Nat}{s x:Opd}{b k:Nat}{l m r:List α}(hf:∀a,(f a).length=esz)(h:lx al s=some (OS esz b k))(hb:U[b]? = some (OB f l))(hk:l.length=k)(hx:lx al x=some d)(hm:Src U f esz d m)(ha:app? l m=some r)
  (hby:Nat.ble bytes 1000=true) (hd:OS esz b r.length=d1) (hs:U.set b (OB f r)=U1):OpR P orc n al U (.append esz bytes s x) d1 U1 [b]:=by
 obtain ⟨hlen,rfl⟩:=app_some ha;subst hd hs hk;have hby':bytes<=1000:=yA8 hby;have hroom:zdX (l.length+m.length) bytes=true:=by have:(l.length+m.length) * bytes<=1000000 * 1000:=Nat.mul_le_mul hlen hby';simp only[zdX,yAj,yAf];omega
 have key:∀e,Env n al e->zaB P orc (.append esz bytes s x) e U=(if m.length=0 then some (OS esz b l.length,U,[b]) else some (.sl b 0 (l.length+m.length) esz (l.length * esz+m.length * esz),U.set b (.cells ((l.flatMap f).map .c++(m.flatMap f).map .c)),[b])):=by
  intro e he;have:zaB P orc (.append esz bytes s x) e U=(zbT U d).bind λk=>(zcL U esz k d).bind λnew=>(zci U b (l.length * esz)).bind λcs=>if esz=esz/\0=0/\l.length * esz=l.length * esz/\zdX (l.length+k) bytes then
     if k=0 then some (.sl b 0 l.length esz (l.length * esz),U,[b])
     else some (.sl b 0 (l.length+k) esz (l.length * esz+k * esz),U.set b (.cells (cs++new)),[b])
    else if esz=esz/\0=0/\(l.length+k) * esz<=l.length * esz/\zdX (l.length+k) bytes then
     if k=0 then some (.sl b 0 l.length esz (l.length * esz),U,[b])
     else some (.sl b 0 (l.length+k) esz (l.length * esz),U.set b (.cells (put cs (l.length * esz) new)),[b])
    else none:=by
   simp only[zaB,zaY he h,zaY he hx];rfl
  rw[this,hm.1,xAa,hm.2,xAa,row_own hf hb,xAa,if_pos ⟨rfl,rfl,rfl,hroom⟩]
 intro e he;by_cases hz:m.length=0
 ·rw[key e he,if_pos hz];have:m=[]:=yAJ hz;subst this;have hset:U.set b (OB f (l++[]))=U:=by
   rw[yBv];apply yAM;intro i;rw[yAK];split
   ·rename_i hi;subst hi;split
    ·exact hb.symm
    ·rename_i hlt;rw[yAG (by omega)]
   ·rfl
  rw[hset,yBv]
 ·rw[key e he,if_neg hz];simp[OS,OB,yBe]
theorem op_copy{x y:Opd}{b lo len:Nat}{l m:List α}(hf:∀a,(f a).length=esz)(h:lx al x=some (.sl b (0+lo * esz) len esz (l.length * esz)))(hb:U[b]? = some (OB f l))(hle:lo+len<=l.length)(hy:lx al y=some d)(hm:SrcN U f esz d m)(hs:U.set b (OB f (cpL l m lo len))=U1) :
  OpR P orc n al U (.copy esz x y) (I ((m.take len).length:Int)) U1 [b]:=λe he=>by
 subst hs;have h1:min m.length len=(m.take len).length:=by rw[yA6];omega
 have h2:m.take (min m.length len)=m.take len:=by
  rcases Nat.le_total len m.length with q | q
  ·rw[Nat.min_eq_right q]
  ·rw[xAi q,yAR (yAo _),yAR q]
 have h3:0+lo * esz+len * esz<=l.length * esz:=by have:=yAP esz hle;rw[yBe] at this;omega
 have h4:put ((l.flatMap f).map D.c) (0+lo * esz) (((m.take len).flatMap f).map D.c)=((cpL l m lo len).flatMap f).map D.c:=by simp only[put,cpL,<-yCa,<-yCw,yAz,flat_len hf,List.flatMap_append,yB6,yBj,flat_take hf];rw[<-yBe,flat_drop hf]
 simp only[zaB,zaY he h,zaY he hy,row_own hf hb,hm.1,Option.bind_eq_bind,Option.bind_some,Option.map_some,hm.2 _ (Nat.min_le_left m.length len)];rw[if_pos ⟨trivial,h3⟩,h2,h4,h1]
theorem op_idx_own{x i:Opd}{b m:Nat}{k:Int}{l:List α}{a:α}(hf:∀a,(f a).length=esz)(h:lx al x=some (OS esz b m))(hb:U[b]? = some (OB f l))(hn:l.length=m)(hi:lx al i=some (I k))(ha:at? l k=some a) :
  OpR P orc n al U (.idx esz none x i) (.ptr b (k.toNat * esz) (m * esz)) U []:=λe he=>by
 subst hn;obtain ⟨h1,h2,h3⟩:=at_some ha;have h4:inR k l.length=some k.toNat:=by unfold inR;rw[if_pos ⟨h1,h2⟩]
 simp[zaB,zaY he h,zaY he hi,zbJ,h4,row_own hf hb]
theorem at_get{l:List α}{k:Int}{a:α}(ha:at? l k=some a):l[k.toNat]? = some a:=(at_some ha).2.2
theorem getCells_elem(hf:∀a,(f a).length=esz){l:List α}{i o:Nat}{a:α}{m:Option Nat}(ha:l[i]? = some a)(hg:zaT m ((f a).map .c) o=some d):zaT m ((l.flatMap f).map .c) (i * esz+o)=some d:=by
 have hfa:=flat_at hf l i a ha;have hlen:(i+1) * esz<=(l.flatMap f).length:=by rw[flat_len hf];exact yAP _ (yAb.1 ha).1
 rw[yBe,Nat.one_mul] at hlen;cases m with
 |none=>
  simp only[zaT,yAl,yAd] at hg ⊢;obtain ⟨x,hx,rfl⟩:=hg;refine ⟨x,?_,rfl⟩;have ho:o<esz:=by rw[<-hf a];exact (yAb.1 hx).1
  rw[<-hfa,yA7 ho,yAT] at hx;exact hx
 |some m=>
  simp only[zaT] at hg ⊢;split at hg
  ·rename_i hc;simp only[yAz,hf] at hc;rw[if_pos (by rw[yAz];omega)];simp only[yAa] at hg ⊢;rw[<-hg,<-hfa];congr 1;rw[<-yCw,<-yCa,<-yCw,<-yCa];congr 1;rw[List.drop_take,List.take_take,List.drop_drop];congr 1;omega
  ·simp at hg
theorem op_loade{m:Option Nat}{x:Opd}{b p q o i:Nat}{l:List α}{a:α}(hf:∀a,(f a).length=esz)(h:lx al x=some (.ptr b p (q * esz)))(hp:p=i * esz+o)(hb:U[b]? = some (OB f l))(hn:l.length=q)(ha:l[i]? = some a)
  (hg:zaT m ((f a).map .c) o=some d):OpR P orc n al U (.load m x) d U []:=by
 subst hn hp;exact op_load h (row_own hf hb) (getCells_elem hf ha hg)
theorem flat_put(hf:∀a,(f a).length=esz){xs:List C}:∀(l:List α)(i o:Nat)(a a':α),l[i]? = some a->o+xs.length<=esz->f a'=(f a).take o++xs++(f a).drop (o+xs.length) ->
  (l.flatMap f).take (i * esz+o)++xs++(l.flatMap f).drop (i * esz+o+xs.length)=(l.set i a').flatMap f:=by
 intro l;induction l with
 |nil=>intro i o a a' h;simp at h
 |cons x l ih=>
  intro i o a a' h ho he;cases i with
  |zero=>simp only[List.getElem?_cons_zero,yAa] at h;subst h;simp only[yBw,yBj,yBi,List.set_cons_zero];have hx:=hf x;rw[yBB (by omega),yBR (by omega),he];simp
  |succ i=>
   simp only[List.getElem?_cons_succ] at h;have hx:=hf x;have e1:(i+1) * esz+o=(f x).length+(i * esz+o):=by rw[yBe];omega
   simp only[yBi,List.set_cons_succ];rw[<-ih i o a a' h ho he,e1,List.take_append,yAR (by omega)];have e2:(f x).length+(i * esz+o)+xs.length=(f x).length+(i * esz+o+xs.length):=by omega
   rw[e2,xAh,yB1 (by omega),xAe,yBD,yBD];simp
theorem op_storee{m:Nat}{x y:Opd}{b p q o i:Nat}{l:List α}{a a':α}{xs:List C}(hf:∀a,(f a).length=esz)(h:lx al x=some (.ptr b p (q * esz)))(hp:p=i * esz+o)(hb:U[b]? = some (OB f l))(hn:l.length=q)(ha:l[i]? = some a)
  (hy:lx al y=some d) (hc:d.cells? = some (xs.map .c)) (hm:xs.length=m) (ho:Nat.ble (o+m) esz=true) (he:f a'=(f a).take o++xs++(f a).drop (o+xs.length)) {l2:List α} (hl2:l.set i a'=l2) (hs:U.set b (OB f l2)=U1) :
  OpR P orc n al U (.store m x y) (.tup []) U1 [b]:=by
 subst hn hp hl2 hs hm;have ho':o+xs.length<=esz:=yA8 ho;have hi:=(yAb.1 ha).1;have hle:(i+1) * esz<=l.length * esz:=yAP _ hi;rw[yBe,Nat.one_mul] at hle;refine op_store h (row_own hf hb) hy hc ⟨by simp,by omega⟩ ?_;congr 2;rw[<-flat_put hf l i o a a' ha ho' he];simp[put]
theorem op_bslice_own{len:Nat}{z cs:List D}{ps:List (Nat×Nat×Opd)}{l:List α}(h:fillA al (zdu len z) ps=some cs)(hl:cs=(l.flatMap f).map .c)(hn:l.length=len)(hf:∀a,(f a).length=esz)(hp:OS U.length esz len=OS U.length esz len)(hd:OS esz U.length len=d1)(hs:U++[OB f l]=U1) :
  OpR P orc n al U (.bslice esz len z ps) d1 U1 []:=by
 subst hl hd hs hn;refine op_bslice h ?_ rfl;simp[OS,flat_len hf]
theorem zeros_map{z:α}:∀(k:Nat),zdu k ((f z).map .c)=((List.replicate k z).flatMap f).map .c:=by
 intro k;induction k with
 |zero=>rfl
 |succ k ih=>simp only[zdu,List.replicate_succ,List.flatten_cons,yBi,yB6] at ih ⊢;rw[ih]
def mk?{α:Type}(z:α)(l c:Int):Option (List α):=if 0<=l/\l<=c/\c<=1000000 then some (List.replicate l.toNat z) else none
def mk0?{α:Type}(c:Int):Option (List α):=if 0<=c/\c<=1000000 then some [] else none
theorem op_mk0{bytes:Nat}{zs:List D}{x y:Opd}{c:Int}{l:List α}(hx:lx al x=some (I 0))(hy:lx al y=some (I c))(hm:mk0? c=some l)(hby:Nat.ble bytes 1000=true)
  (hd:OS esz U.length l.length=d1) (hs:U++[OB f l]=U1):OpR P orc n al U (.mk esz bytes zs x y) d1 U1 []:=λe he=>by
 subst hd hs;unfold mk0? at hm;split at hm
 ·rename_i hc;simp only[yAa] at hm;subst hm;have hby':bytes<=1000:=yA8 hby;have hroom:zdX c.toNat bytes=true:=by
   have h1:c.toNat<=1000000:=by omega
   have:c.toNat * bytes<=1000000 * 1000:=Nat.mul_le_mul h1 hby';simp only[zdX,yAj,yAf];omega
  simp only[zaB,zaY he hx,zaY he hy,zbJ,Option.bind_eq_bind,Option.bind_some];rw[if_pos ⟨by omega,by omega,hroom⟩];simp[OS,OB,zdu]
 ·simp at hm
theorem op_mk{bytes:Nat}{zs:List D}{x y:Opd}{k c:Int}{z:α}{l:List α}(hx:lx al x=some (I k))(hy:lx al y=some (I c))(hz:zs=(f z).map .c)(hm:mk? z k c=some l)(hby:Nat.ble bytes 1000=true)
  (hd:OS esz U.length l.length=d1) (hs:U++[OB f l]=U1):OpR P orc n al U (.mk esz bytes zs x y) d1 U1 []:=λe he=>by
 subst hd hs hz;unfold mk? at hm;split at hm
 ·rename_i hc;simp only[yAa] at hm;subst hm;have hby':bytes<=1000:=yA8 hby;have hroom:zdX c.toNat bytes=true:=by
   have h1:c.toNat<=1000000:=by omega
   have:c.toNat * bytes<=1000000 * 1000:=Nat.mul_le_mul h1 hby';simp only[zdX,yAj,yAf];omega
  simp only[zaB,zaY he hx,zaY he hy,zbJ,Option.bind_eq_bind,Option.bind_some];rw[if_pos ⟨hc.1,hc.2.1,hroom⟩,zeros_map];simp[OS]
 ·simp at hm
def slice?{α:Type}(l:List α)(lo hi:Int):Option (List α):=if 0<=lo/\lo<=hi/\hi<=l.length then some ((l.take hi.toNat).drop lo.toNat) else none
theorem op_slc{x:Opd}{lo hi:Option Opd}{nn:Bool}{l r:List α}{i j:Int}(hf:∀a,(f a).length=esz)(h:lx al x=some (.c (.frz nn (l.map f))))(hlo:(match lo with | none=>some (I 0) | some o=>lx al o)=some (I i))
  (hhi:(match hi with | none=>some (I l.length) | some o=>lx al o)=some (I j)) (hr:slice? l i j=some r):OpR P orc n al U (.slc esz x lo hi) (.c (.frz nn (r.map f))) U []:=λe he=>by
 unfold slice? at hr;split at hr
 ·rename_i hc;simp only[yAa] at hr;subst hr;have hh:zaC e (l.map f).length (l.map f).length hi=some j.toNat:=by
   cases hi with
   |none=>simp only[yAa,I,D.c.injEq,C.lit.injEq,Value.int.injEq,yCx] at hhi;subst hhi;simp[zaC]
   |some o=>simp only at hhi;simp only[zaC,zaY he hhi,zbJ,Option.bind_some,inB];rw[if_pos (by simp;omega)]
  have hl:zaC e 0 j.toNat lo=some i.toNat:=by
   cases lo with
   |none=>simp only[yAa,I,D.c.injEq,C.lit.injEq,Value.int.injEq,yCx] at hlo;subst hlo;simp[zaC]
   |some o=>simp only at hlo;simp only[zaC,zaY he hlo,zbJ,Option.bind_some,inB];rw[if_pos (by omega)]
  simp only[zaB,zaY he h,hh,hl,Option.bind_eq_bind,Option.bind_some];rw[if_pos (by simp[hf])];simp[yCa,yCw]
 ·simp at hr
end
end Go.Abs
namespace Go.Abs
variable[Gl]
end Go.Abs
namespace Go.Abs
variable[Gl]
theorem lows_c{m:Nat}:∀(l:List C),D.low.lows m (l.map D.c)=true:=by
 intro l;induction l with
 |nil=>rfl
 |cons x l ih=>simp only[yAw,D.low.lows,D.low,ih,yBO]
end Go.Abs
end
section
namespace Go.Abs
variable[Gl]
def TrQ(P:Program)(orc:Orc2)(k:Nat)(os:List AOper)(n:Nat)(al:AL)(U:Heap)(Q:AL->Heap->List Info->Prop):Prop:=
 ∃al' U' is,Trc P orc k os n al U al' U' is/\Q al' U' is
section
variable{P:Program}{orc:Orc2}{n k:Nat}{al al1:AL}{U U1:Heap}{w:List Nat}{d:D}{os:List AOper}{t:Nat}{ao:AOp}{g:Option (Nat×Bool)}{Q:AL->Heap->List Info->Prop}
theorem TrQ.nil(h:Q al U []):TrQ P orc k [] n al U Q:=⟨al,U,[],Trc.nil,h⟩
theorem TrQ.op(h:OpR P (orc (some t)) n al U ao d U1 w)(hg:Gd al g true)(hs:(Nat.blt t n&&okA al ao&&(k == 0 || wrOk U U1 w))=true)
  (r:TrQ P orc (k-1) os n ((t,d)::al) U1 λal' U' is=>Q al' U' (mkI ⟨some t,ao,g⟩ (cat ao) (blkA al ao) w U.length U1.length::is)):TrQ P orc k (⟨some t,ao,g⟩::os) n al U Q:=by
 obtain ⟨al',U',is,h1,h2⟩:=r;exact ⟨al',U',_,Trc.op h hg hs h1,h2⟩
theorem TrQ.eff(h:OpR P (orc none) n al U ao d U1 w)(hg:Gd al g true)(hs:(okA al ao&&(k == 0 || wrOk U U1 w))=true)
  (r:TrQ P orc (k-1) os n al U1 λal' U' is=>Q al' U' (mkI ⟨none,ao,g⟩ (cat ao) (blkA al ao) w U.length U1.length::is)):TrQ P orc k (⟨none,ao,g⟩::os) n al U Q:=by
 obtain ⟨al',U',is,h1,h2⟩:=r;exact ⟨al',U',_,Trc.eff h hg hs h1,h2⟩
theorem TrQ.no(hg:Gd al g false)(hs:(Nat.blt t n&&okA al ao)=true)
  (r:TrQ P orc (k-1) os n ((t,.tup [])::al) U λal' U' is=>Q al' U' (mkI ⟨some t,ao,g⟩ 0 (blkA al ao) [] U.length U.length::is)):TrQ P orc k (⟨some t,ao,g⟩::os) n al U Q:=by
 obtain ⟨al',U',is,h1,h2⟩:=r;exact ⟨al',U',_,Trc.no hg hs h1,h2⟩
theorem Sem.regQ{Q:zcX->AL->Heap->Prop}(hmix:P.follows .mixedOrders=true)(O:zbp P orc)(h:TrQ P orc 0 os n al U λal' U' _=>Q .normal al' U'):Sem P (.reg os) n al U Q:=by obtain ⟨al',U',is,h1,h2⟩:=h;exact Sem.reg hmix O h1 h2
theorem Sem.drwQ{Q:zcX->AL->Heap->Prop}{bef:List Nat}{p:Nat}(hmix:P.follows .mixedOrders=true)(O:zbp P orc)
  (h:TrQ P orc k os n al U λal' U' is=>(pairsOk bef is&&tailOk bef p k os.length&&Nat.ble p k)=true/\Q .normal al' U'):Sem P (.drw os bef k p) n al U Q:=by
 obtain ⟨al',U',is,h1,h2,h3⟩:=h;exact Sem.drw hmix O h1 h2 h3
theorem Sem.drwNQ{Q:zcX->AL->Heap->Prop}{bef:List Nat}{p:Nat}(hmix:P.follows .mixedOrders=true)(O:zbp P orc)
  (h:TrQ P orc os.length os n al U λal' U' is=>(pairsOk bef is&&tailOk bef p os.length os.length&&Nat.ble p os.length)=true/\Q .normal al' U'):Sem P (.drw os bef k p) n al U Q:=by
 obtain ⟨al',U',is,h1,h2,h3⟩:=h;exact Sem.drwN hmix O h1 h2 h3
def shut(n:Nat)(al:AL)(o:AOper):Option Nat:=
 match o.g,o.dst with
 |some (t, want), some s=>
  match lk t al with
  |some (.c (.lit (.bool b)))=>if (b != want)&&(Nat.blt s n&&okA al o.op) then some s else none
  |some (.tup [])=>if Nat.blt s n&&okA al o.op then some s else none
  |_=>none
 |_,_=>none
end
end Go.Abs
end
