/- DfwPk, DfwPw, DfwPl, DfwPm, DfwPn, DfwPo, DfwPq, DfwPs -/
import Derived.Test.YtgneliafoejmeaaGreatFwE
set_option linter.all false
section
namespace Go.Abs
noncomputable section
variable [Gl] [Y:Ty]
theorem lkT_lkP (t:Nat):∀(al:TA),lkT t al=(lkP t al).map Prod.fst:=by
  intro al
  induction al with
  | nil=>rfl
  | cons y al ih =>
    obtain ⟨s,x⟩:=y
    simp only [lkT,lkP]
    split
    · rfl
    · exact ih
theorem lkT_some {t:Nat} {al:TA} {x:RV} (h:lkT t al=some x):∃p,lkP t al=some (x,p):=by
  rw [lkT_lkP,Option.map_eq_some_iff] at h
  obtain ⟨⟨y,p⟩,h1,rfl⟩:=h
  exact ⟨p,h1⟩
theorem lkP_skip {t:Nat} {q:RV×Nat}:∀{pre al:TA},(∀y∈pre,y.1≠t)→lkP t al=some q→lkP t (pre++al)=some q:=by
  intro pre al
  induction pre with
  | nil=>intro _ h; exact h
  | cons z pre ih =>
    intro hn h
    obtain ⟨s,y⟩:=z
    simp only [List.cons_append,lkP]
    have:Nat.beq s t=false:=by
      cases hb:Nat.beq s t with
      | false=>rfl
      | true=>exact absurd (Nat.eq_of_beq_eq_true hb) (hn (s,y) (List.mem_cons_self ..))
    rw [this]
    exact ih (fun y hy=>hn y (List.mem_cons_of_mem _ hy)) h
theorem lkP_dom {t:Nat} {q:RV×Nat}:∀{pre al:TA},lkP t al=some q→∃q',lkP t (pre++al)=some q':=by
  intro pre al
  induction pre with
  | nil=>intro h; exact ⟨q,h⟩
  | cons z pre ih =>
    intro h
    obtain ⟨s,y⟩:=z
    simp only [List.cons_append,lkP]
    split
    · exact ⟨_,rfl⟩
    · exact ih h
theorem putPs_lk {al1:TA} {σ1:TH} {al:TA} {t:Nat} {v:RV} {p:Nat}:∀(ps:List Pl) (x:tupP ps),rdPs al1 σ1 ps=some x→lkP t (putPs ps x al)=some (v,p) →
    (∃c a,v=.v (c.tv a)∧rdP al1 σ1 (.r t c)=some a)∨((∀c,Pl.r t c∉ps)∧lkP t al=some (v,p)):=by
  have one:∀(p0:Pl) (x:p0.dn) (al0:TA),rdP al1 σ1 p0=some x→lkP t (putP p0 x al0)=some (v,p)→(∃c a,v=.v (c.tv a)∧rdP al1 σ1 (.r t c)=some a)∨((∀c,Pl.r t c≠p0)∧lkP t al0=some (v,p)):=by
    intro p0 x al0 hx h
    cases p0 with
    | r t0 c =>
      simp only [putP,lkP] at h
      split at h
      · rename_i hb
        have:=Nat.eq_of_beq_eq_true hb
        subst this
        simp only [Option.some.injEq,Prod.mk.injEq] at h
        exact .inl ⟨c,x,h.1.symm,hx⟩
      · rename_i hb
        refine .inr ⟨fun c' e=>?_,h⟩
        simp only [Pl.r.injEq] at e
        rw [e.1] at hb
        simp at hb
    | w b i=>exact .inr ⟨fun c e=>by simp at e,h⟩
    | h b j c=>exact .inr ⟨fun c e=>by simp at e,h⟩
    | m b j st=>exact .inr ⟨fun c e=>by simp at e,h⟩
  intro ps
  induction ps with
  | nil=>intro x _ h; exact .inr ⟨fun c hc=>by simp at hc,h⟩
  | cons p0 ps ih =>
    intro x hx h
    cases ps with
    | nil =>
      rcases one p0 x al hx h with h | ⟨h1,h2⟩
      · exact .inl h
      · exact .inr ⟨fun c hc=>by simp only [List.mem_singleton] at hc; exact h1 c hc,h2⟩
    | cons q ps =>
      simp only [rdPs] at hx
      split at hx
      · rename_i a b ha hb
        simp only [Option.some.injEq] at hx
        subst hx
        rcases one p0 a _ ha h with h | ⟨h1,h2⟩
        · exact .inl h
        · rcases ih b hb h2 with h | ⟨h3,h4⟩
          · exact .inl h
          · refine .inr ⟨fun c hc=>?_,h4⟩
            rcases List.mem_cons.1 hc with hc | hc
            · exact h1 c hc
            · exact h3 c hc
      · simp at hx
theorem putPs_pre:∀(ps:List Pl) (x:tupP ps) (al:TA),∃pre,putPs ps x al=pre++al∧∀y∈pre,∃c,Pl.r y.1 c∈ps:=by
  have one:∀(p0:Pl) (x:p0.dn) (al:TA),∃pre,putP p0 x al=pre++al∧∀y∈pre,∃c,Pl.r y.1 c=p0:=by
    intro p0 x al
    cases p0 with
    | r t c=>exact ⟨[(t,.v (c.tv x))],rfl,fun y hy=>by simp only [List.mem_singleton] at hy; subst hy; exact ⟨c,rfl⟩⟩
    | w b i=>exact ⟨[],rfl,fun y hy=>by simp at hy⟩
    | h b j c=>exact ⟨[],rfl,fun y hy=>by simp at hy⟩
    | m b j st=>exact ⟨[],rfl,fun y hy=>by simp at hy⟩
  intro ps
  induction ps with
  | nil=>intro x al; exact ⟨[],rfl,fun y hy=>by simp at hy⟩
  | cons p0 ps ih =>
    intro x al
    cases ps with
    | nil =>
      obtain ⟨pre,h1,h2⟩:=one p0 x al
      exact ⟨pre,h1,fun y hy=>let ⟨c,e⟩:=h2 y hy; ⟨c,by rw [e]; exact List.mem_cons_self ..⟩⟩
    | cons q ps =>
      obtain ⟨pre,h1,h2⟩:=ih x.2 al
      obtain ⟨pre',h3,h4⟩:=one p0 x.1 (putPs (q::ps) x.2 al)
      refine ⟨pre'++pre,by simp only [putPs]; rw [h3,h1,List.append_assoc],fun y hy=>?_⟩
      rcases List.mem_append.1 hy with hy | hy
      · obtain ⟨c,e⟩:=h4 y hy; exact ⟨c,by rw [e]; exact List.mem_cons_self ..⟩
      · obtain ⟨c,e⟩:=h2 y hy; exact ⟨c,List.mem_cons_of_mem _ e⟩
theorem putH_pre (σ:TH):∀(hs:List (Nat×Nat)) (al:TA),∃pre,putH σ hs al=pre++al∧(∀y∈pre,∃b i l lv cv,(y.1,b)∈hs∧σ[b]? = some (.row i l lv cv)∧y.2=.v (.c (.own i b lv l.length))) ∧
    ∀t b i l lv cv,(t,b)∈hs→σ[b]? = some (.row i l lv cv)→∃y∈pre,y.1=t:=by
  intro hs
  induction hs with
  | nil=>intro al; exact ⟨[],rfl,fun y hy=>by simp at hy,fun t b i l lv cv h=>by simp at h⟩
  | cons h hs ih =>
    intro al
    obtain ⟨t,b⟩:=h
    obtain ⟨pre,h1,h2,h3⟩:=ih al
    have h2':∀y∈pre,∃b' i l lv cv,(y.1,b')∈(t,b)::hs∧σ[b']? = some (.row i l lv cv)∧y.2=.v (.c (.own i b' lv l.length)):=fun y hy=>by
      obtain ⟨b',i,l,lv,cv,e1,e2⟩:=h2 y hy
      exact ⟨b',i,l,lv,cv,List.mem_cons_of_mem _ e1,e2⟩
    simp only [putH]
    split
    · rename_i i l lv cv hb
      refine ⟨(t,.v (.c (.own i b lv l.length)))::pre,by rw [h1]; rfl,fun y hy=>?_,fun t' b' i' l' lv' cv' hm he=>?_⟩
      · rcases List.mem_cons.1 hy with rfl | hy
        · exact ⟨b,i,l,lv,cv,List.mem_cons_self ..,hb,rfl⟩
        · exact h2' y hy
      · rcases List.mem_cons.1 hm with hm | hm
        · simp only [Prod.mk.injEq] at hm
          exact ⟨_,List.mem_cons_self ..,hm.1.symm⟩
        · obtain ⟨y,hy,e⟩:=h3 t' b' i' l' lv' cv' hm he
          exact ⟨y,List.mem_cons_of_mem _ hy,e⟩
    · rename_i hne
      refine ⟨pre,h1,h2',fun t' b' i' l' lv' cv' hm he=>?_⟩
      rcases List.mem_cons.1 hm with hm | hm
      · simp only [Prod.mk.injEq] at hm
        obtain ⟨rfl,rfl⟩:=hm
        exact absurd he (hne _ _ _ _)
      · exact h3 t' b' i' l' lv' cv' hm he
theorem lkP_mem {t:Nat} {x:RV} {p:Nat}:∀{pre al:TA},lkP t (pre++al)=some (x,p)→(t,x)∈pre∨((∀y∈pre,y.1≠t)∧lkP t al=some (x,p)):=by
  intro pre al
  induction pre with
  | nil=>intro h; exact .inr ⟨fun y hy=>by simp at hy,h⟩
  | cons z pre ih =>
    intro h
    obtain ⟨s,y⟩:=z
    simp only [List.cons_append,lkP] at h
    split at h
    · rename_i hb
      have:=Nat.eq_of_beq_eq_true hb
      subst this
      simp only [Option.some.injEq,Prod.mk.injEq] at h
      obtain ⟨rfl,rfl⟩:=h
      exact .inl (List.mem_cons_self ..)
    · rename_i hb
      rcases ih h with h | ⟨h1,h2⟩
      · exact .inl (List.mem_cons_of_mem _ h)
      · refine .inr ⟨fun y hy=>?_,h2⟩
        rcases List.mem_cons.1 hy with rfl | hy
        · intro e; subst e; simp at hb
        · exact h1 y hy
theorem shade_pre (md:List Nat) (al:TA):∃pre,shade md al=pre++al∧(∀y∈pre,y.1∈md∧(lkT y.1 al).isSome∧y.2=.v (.c .any))∧∀t,t∈md→(lkT t al).isSome→∃y∈pre,y.1=t:=by
  refine ⟨_,rfl,fun y hy=>?_,fun t ht hs=>?_⟩
  · rw [List.mem_map] at hy
    obtain ⟨t,ht,rfl⟩:=hy
    rw [List.mem_filter] at ht
    exact ⟨ht.1,ht.2,rfl⟩
  · exact ⟨(t,.v (.c .any)),List.mem_map.2 ⟨t,List.mem_filter.2 ⟨ht,hs⟩,rfl⟩,rfl⟩
theorem All2.of_get {α β:Type} {R:α→β→Prop}:∀{l:List α} {m:List β},l.length=m.length→(∀(j:Nat) a b,l[j]? = some a→m[j]? = some b→R a b)→All2 R l m:=by
  intro l
  induction l with
  | nil=>intro m h _; cases m with | nil=>exact .nil | cons b m=>simp at h
  | cons a l ih =>
    intro m h hr
    cases m with
    | nil=>simp at h
    | cons b m=>exact .cons (hr 0 a b rfl rfl) (ih (by simpa using h) fun j x y h1 h2=>hr (j+1) x y h1 h2)
theorem ObW.refl_row {α:Type} {f:α→List C} {l:List α} {m:Nat}:ObW m (OB f l) (OB f l):=by
  refine ⟨_,rfl,All2.of_get rfl fun j a b h1 h2=>?_⟩
  rw [h1] at h2
  simp only [Option.some.injEq] at h2
  subst h2
  rw [List.getElem?_map,Option.map_eq_some_iff] at h1
  obtain ⟨c,_,rfl⟩:=h1
  exact DWk.low rfl
theorem mpE_low (j:Nat) (st:Bool) (a:TT j) (m:Nat):(mpE j st a).low m=true:=by
  unfold mpE
  split
  · exact lows_c _
  · rfl
theorem mbE_low {α:Type} {g:α→D} {m:Nat} (h:∀a,(g a).low m=true):∀(l:List (Int×α)) (i:Nat),((mbE g i l).all fun e=>e.2.1.low m)=true:=by
  intro l
  induction l with
  | nil=>intro i; rfl
  | cons x l ih=>intro i; obtain ⟨k,a⟩:=x; simp only [mbE,List.all_cons,h,ih,Bool.and_self]
theorem hsOk_at {al:TA} {σ:TH} {hs:List (Nat×Nat)} (h:hsOk al σ hs=true) {t b:Nat} (hm:(t,b)∈hs):∃i v q j l lv cv,lkT t al=some (.v (.c (.own i b v q)))∧σ[b]? = some (.row j l lv cv)∧v=lv∧i=j:=by
  simp only [hsOk,List.all_eq_true] at h
  have:=h (t,b) hm
  dsimp only at this
  split at this
  · rename_i i b' v q j l lv cv h1 h2
    simp only [Bool.and_eq_true] at this
    have e1:=Nat.eq_of_beq_eq_true this.1
    have e2:=Nat.eq_of_beq_eq_true this.2.1
    have e3:=Nat.eq_of_beq_eq_true this.2.2
    subst e1
    exact ⟨i,v,q,j,l,lv,cv,h1,h2,e2,e3⟩
  · simp at this
theorem HS.mono {pl pl':List Pl} {σ σ1:TH} (hp:∀p∈pl,p∈pl') (h:HS pl σ σ1):HS pl' σ σ1:=fun b blk e=>by
  obtain ⟨blk1,e1,s⟩:=h b blk e
  refine ⟨blk1,e1,?_⟩
  cases blk with
  | cells w cs =>
    obtain ⟨w1,cs1,e,l,c⟩:=s
    exact ⟨w1,cs1,e,l,fun j p p1 x y hn=>c j p p1 x y fun q hq=>hn q (hp _ hq)⟩
  | row i l lv cv =>
    obtain ⟨l1,lv1,cv1,e,c⟩:=s
    exact ⟨l1,lv1,cv1,e,fun hn=>c fun q hq=>hn q (hp _ hq)⟩
  | mp j st l v =>
    obtain ⟨j1,st1,l1,v1,e,c⟩:=s
    exact ⟨j1,st1,l1,v1,e,fun hn=>c fun q st hq=>hn q st (hp _ hq)⟩
theorem PQ.hs' {al1:TA} {σ1 σ σ2:TH} {ps pl:List Pl} (h:PQ al1 σ1 ps σ σ2) (hp:∀p∈ps,p∈pl):HS pl σ σ2:=fun b blk e=>by
  obtain ⟨blk2,e2,h1,h2⟩:=h.2 b blk e
  refine ⟨blk2,e2,?_⟩
  cases blk with
  | cells w cs =>
    obtain ⟨w2,cs2,rfl,l2,c2⟩:=h2
    refine ⟨w2,cs2,rfl,l2,fun j p p1 q q1 hn=>?_⟩
    rcases (c2 j p1 q1).2 with ⟨c,a,_,_,hm⟩ | ⟨h3,_⟩
    · exact absurd (hp _ hm) (hn c)
    · rw [q] at h3; simp only [Option.some.injEq] at h3; exact h3.symm
  | row i l lv cv =>
    obtain ⟨l2,lv2,cv2,rfl,h3⟩:=h2
    refine ⟨l2,lv2,cv2,rfl,fun hn=>?_⟩
    rcases h3 with ⟨_,i',hm⟩ | ⟨h4,h5,h6,_⟩
    · exact absurd (hp _ hm) (hn i')
    · exact ⟨h4,h5,h6⟩
  | mp j st l v =>
    obtain ⟨j2,st2,l2,v2,rfl,h3⟩:=h2
    refine ⟨j2,st2,l2,v2,rfl,fun hn=>?_⟩
    rcases h3 with ⟨_,j',st',hm⟩ | ⟨h4,_⟩
    · exact absurd (hp _ hm) (hn j' st')
    · exact h4
structure ZOk (zs:List (Nat×Nat×Nat)) (σ σ':TH):Prop where
  len:σ'.length=σ.length
  row:∀(b:Nat) i (l:List (TT i)) lv cv,σ[b]? = some (.row i l lv cv)↔σ'[b]? = some (.row i l lv cv)
  mp:∀(b:Nat) j st (l:List (Int×TT j)) v,σ[b]? = some (.mp j st l v)→σ'[b]? = some (.mp j st l v)
  cells:∀(b:Nat) w cs,σ[b]? = some (.cells w cs)→∃w' cs',σ'[b]? = some (.cells w' cs')∧w≤w'∧cs'.length=cs.length∧∀(j:Nat) p',cs'[j]? = some p' →
    (cs[j]? = some p'∧∀r,(b,j,r)∈zs→∀i l lv cv,σ[r]?≠some (.row i l lv cv))∨(∃r i l lv cv,(b,j,r)∈zs∧σ[r]? = some (.row i l lv cv)∧p'.2=.own i r lv l.length∧w<p'.1∧p'.1≤w')
theorem putZs_ok:∀(zs:List (Nat×Nat×Nat)) (σ:TH),ZOk zs σ (putZs zs σ):=by
  intro zs
  induction zs with
  | nil=>intro σ; exact ⟨rfl,fun b i l lv cv=>Iff.rfl,fun b j st l v h=>h,fun b w cs h=>⟨w,cs,h,Nat.le_refl _,rfl,fun j p' hp=>.inl ⟨hp,fun r hr=>by simp at hr⟩⟩⟩
  | cons z zs ih =>
    intro σ
    obtain ⟨b0,j0,r0⟩:=z
    simp only [putZs]
    split
    · rename_i w0 cs0 i0 l0 lv0 cv0 hb hr
      have Z:=ih (σ.set b0 (.cells (w0+1) (cs0.set j0 (w0+1,.own i0 r0 lv0 l0.length))))
      have rows:∀(b:Nat) i (l:List (TT i)) lv cv,σ[b]? = some (.row i l lv cv)↔(σ.set b0 (.cells (w0+1) (cs0.set j0 (w0+1,.own i0 r0 lv0 l0.length))))[b]? = some (.row i l lv cv):=fun b i l lv cv=>by
        by_cases e:b=b0
        · subst e; rw [hb,zaQ hb]; simp
        · rw [zaF e]
      refine ⟨by rw [Z.len,List.length_set],fun b i l lv cv=>(rows b i l lv cv).trans (Z.row b i l lv cv),fun b j st l v h=>Z.mp b j st l v ?_,fun b w cs h=>?_⟩
      · by_cases e:b=b0
        · subst e; rw [hb] at h; simp at h
        · rw [zaF e]; exact h
      · by_cases e:b=b0
        · subst e
          rw [hb] at h
          simp only [Option.some.injEq,TB.cells.injEq] at h
          obtain ⟨rfl,rfl⟩:=h
          obtain ⟨w',cs',h1,h2,h3,h4⟩:=Z.cells b _ _ (zaQ hb)
          refine ⟨w',cs',h1,by omega,by rw [h3]; simp,fun j p' hp=>?_⟩
          rcases h4 j p' hp with ⟨h5,h6⟩ | ⟨r,i,l,lv,cv,h5,h6,h7,h8,h9⟩
          · by_cases ej:j=j0
            · subst ej
              rw [List.getElem?_set] at h5
              rw [if_pos rfl] at h5
              split at h5
              · simp only [Option.some.injEq] at h5
                subst h5
                exact .inr ⟨r0,i0,l0,lv0,cv0,List.mem_cons_self ..,hr,rfl,by omega,by omega⟩
              · simp at h5
            · rw [List.getElem?_set_ne (fun e=>ej e.symm)] at h5
              refine .inl ⟨h5,fun r hr' i l lv cv e=>?_⟩
              rcases List.mem_cons.1 hr' with e2 | hr'
              · simp only [Prod.mk.injEq] at e2; exact ej e2.2.1
              · exact h6 r hr' i l lv cv ((rows r i l lv cv).1 e)
          · exact .inr ⟨r,i,l,lv,cv,List.mem_cons_of_mem _ h5,(rows r i l lv cv).2 h6,h7,by omega,h9⟩
        · obtain ⟨w',cs',h1,h2,h3,h4⟩:=Z.cells b w cs (by rw [zaF e]; exact h)
          refine ⟨w',cs',h1,h2,h3,fun j p' hp=>?_⟩
          rcases h4 j p' hp with ⟨h5,h6⟩ | ⟨r,i,l,lv,cv,h5,h6,h7,h8⟩
          · refine .inl ⟨h5,fun r hr' i l lv cv e'=>?_⟩
            rcases List.mem_cons.1 hr' with e2 | hr'
            · simp only [Prod.mk.injEq] at e2; exact e e2.1
            · exact h6 r hr' i l lv cv ((rows r i l lv cv).1 e')
          · exact .inr ⟨r,i,l,lv,cv,List.mem_cons_of_mem _ h5,(rows r i l lv cv).2 h6,h7,h8⟩
    · rename_i hne
      have Z:=ih σ
      refine ⟨Z.len,Z.row,Z.mp,fun b w cs h=>?_⟩
      obtain ⟨w',cs',h1,h2,h3,h4⟩:=Z.cells b w cs h
      refine ⟨w',cs',h1,h2,h3,fun j p' hp=>?_⟩
      rcases h4 j p' hp with ⟨h5,h6⟩ | ⟨r,i,l,lv,cv,h5,h6,h7,h8⟩
      · refine .inl ⟨h5,fun r hr' i l lv cv e'=>?_⟩
        rcases List.mem_cons.1 hr' with e2 | hr'
        · simp only [Prod.mk.injEq] at e2
          obtain ⟨rfl,rfl,rfl⟩:=e2
          exact hne _ _ _ _ _ _ h e'
        · exact h6 r hr' i l lv cv e'
      · exact .inr ⟨r,i,l,lv,cv,List.mem_cons_of_mem _ h5,h6,h7,h8⟩
theorem ZOk.ext {zs:List (Nat×Nat×Nat)} {σ σ':TH} (Z:ZOk zs σ σ'):Ext σ σ':=fun b blk h=>by
  cases blk with
  | cells w cs =>
    obtain ⟨w',cs',h1,h2,h3,h4⟩:=Z.cells b w cs h
    refine ⟨_,h1,w',cs',rfl,h2,h3,fun j v x v1 x1 e e1=>?_⟩
    rcases h4 j _ e1 with ⟨h5,_⟩ | ⟨_,_,_,_,_,_,_,_,h6,_⟩
    · rw [e] at h5; simp only [Option.some.injEq,Prod.mk.injEq] at h5; exact .inl ⟨h5.1.symm,h5.2.symm⟩
    · exact .inr h6
  | row i l lv cv=>exact ⟨_,(Z.row b i l lv cv).1 h,BE.refl _⟩
  | mp j st l v=>exact ⟨_,Z.mp b j st l v h,BE.refl _⟩
theorem zpl_mem {zs:List (Nat×Nat×Nat)} {b j r:Nat} (h:(b,j,r)∈zs):Pl.h b j .bool∈zpl zs:=List.mem_map.2 ⟨_,h,rfl⟩
theorem ZOk.hs {zs:List (Nat×Nat×Nat)} {σ σ':TH} (Z:ZOk zs σ σ'):HS (zpl zs) σ σ':=fun b blk h=>by
  cases blk with
  | cells w cs =>
    obtain ⟨w',cs',h1,h2,h3,h4⟩:=Z.cells b w cs h
    refine ⟨_,h1,w',cs',rfl,h3,fun j p p1 e e1 hn=>?_⟩
    rcases h4 j _ e1 with ⟨h5,_⟩ | ⟨r,_,_,_,_,hm,_⟩
    · rw [e] at h5; simp only [Option.some.injEq] at h5; exact h5.symm
    · exact absurd (zpl_mem hm) (hn _)
  | row i l lv cv=>exact ⟨_,(Z.row b i l lv cv).1 h,_,_,_,rfl,fun _=>⟨rfl,rfl,rfl⟩⟩
  | mp j st l v=>exact ⟨_,Z.mp b j st l v h,_,_,_,_,rfl,fun _=>rfl⟩
theorem zsOk_at {n:Nat} {σ:TH} {zs:List (Nat×Nat×Nat)} (h:zsOk n σ zs=true) {b j r:Nat} (hm:(b,j,r)∈zs):b<n∧r<n∧∃w cs i l lv cv q v0,σ[b]? = some (.cells w cs)∧σ[r]? = some (.row i l lv cv)∧cs[j]? = some (v0,.own i r lv q):=by
  simp only [zsOk,List.all_eq_true] at h
  have:=h (b,j,r) hm
  simp only [Bool.and_eq_true] at this
  obtain ⟨h1,h2,h3⟩:=this
  refine ⟨Nat.blt_eq.mp h1,Nat.blt_eq.mp h2,?_⟩
  split at h3
  · rename_i w cs i l lv cv e1 e2
    split at h3
    · rename_i v0 i' r' v q e3
      simp only [Bool.and_eq_true] at h3
      have a1:=Nat.eq_of_beq_eq_true h3.1
      have a2:=Nat.eq_of_beq_eq_true h3.2.1
      have a3:=Nat.eq_of_beq_eq_true h3.2.2
      subst a1 a2 a3
      exact ⟨w,cs,i',l,v,cv,q,v0,e1,e2,e3⟩
    · simp at h3
  · simp at h3
theorem join_ok {h:JH} {md:List Nat} {al al1:TA} {σ σ1:TH} {alD alD1:AL} {σD σD1:Heap} {x:tupP h.pl} (R0:Ref al σ alD σD) (R1:Ref al1 σ1 alD1 σD1)
    (hdom:∀t q,lkP t al=some q→∃q',lkP t al1=some q')
    (hk:∀t q,t∉md→(∀c,Pl.r t c∉h.pl)→(∀b,(t,b)∈h.hs→∀i l lv cv,σ[b]?≠some (.row i l lv cv))→lkP t al=some q→lkP t al1=some q)
    (hs:HS (h.pl++zpl h.zs) σ σ1) (hh:hsOk al1 σ1 h.hs=true) (hz:zsOk σ.length σ1 h.zs=true) (hx:rdPs al1 σ1 h.pl=some x) :
    Ext σ (putZ h md al σ x)∧HS (h.pl++zpl h.zs) σ (putZ h md al σ x)∧(putZ h md al σ x).length=σ.length∧∃alD2 σD2,StW σ.length alD1 σD1 alD2 σD2∧Ref (putX h md al σ x) (putZ h md al σ x) alD2 σD2:=by
  have PQ0:=PQ.all R0.hh hs h.pl x hx
  have Z:=putZs_ok h.zs (putQs h.pl x σ)
  have ext:Ext σ (putZ h md al σ x):=Ext.trans R0.hh PQ0.ext Z.ext
  have len:(putZ h md al σ x).length=σ.length:=Z.len.trans PQ0.1
  refine ⟨ext,(PQ0.hs' fun p hp=>List.mem_append_left _ hp).trans (Z.hs.mono fun p hp=>List.mem_append_right _ hp),len,?_⟩
  -- a row,in both
  have both:∀(b i i1 lv cv lv1 cv1:Nat) (l:List (TT i)) (l1:List (TT i1)),(putQs h.pl x σ)[b]? = some (.row i l lv cv)→σ1[b]? = some (.row i1 l1 lv1 cv1)→i1=i∧l.length=l1.length:=by
    intro b i i1 lv cv lv1 cv1 l l1 m2 n2
    have hlt:b<σ.length:=by rw [←PQ0.1]; exact (List.getElem?_eq_some_iff.1 m2).1
    obtain ⟨blk0,e0⟩:∃blk0,σ[b]? = some blk0:=⟨_,List.getElem?_eq_getElem hlt⟩
    obtain ⟨blk2,e2,be,pb⟩:=PQ0.2 b blk0 e0
    rw [m2] at e2
    simp only [Option.some.injEq] at e2
    subst e2
    obtain ⟨blk1,e1,sb⟩:=hs b blk0 e0
    rw [n2] at e1
    simp only [Option.some.injEq] at e1
    subst e1
    cases blk0 with
    | cells w cs=>obtain ⟨_,_,e,_⟩:=sb; simp at e
    | mp q st l v=>obtain ⟨_,_,_,_,e,_⟩:=sb; simp at e
    | row i0 l0 lv0 cv0 =>
      obtain ⟨l5,lv5,cv5,e5,sb⟩:=sb
      simp only [TB.row.injEq] at e5
      obtain ⟨rfl,e6,rfl,rfl⟩:=e5
      cases e6
      obtain ⟨l6,lv6,cv6,e7,pb⟩:=pb
      simp only [TB.row.injEq] at e7
      obtain ⟨rfl,e8,rfl,rfl⟩:=e7
      cases e8
      refine ⟨rfl,?_⟩
      rcases pb with ⟨⟨lv7,cv7,e9⟩,_⟩ | ⟨rfl,_,_,hn⟩
      · rw [n2] at e9
        simp only [Option.some.injEq,TB.row.injEq,heq_eq_eq,true_and] at e9
        rw [e9.1]
      · by_cases hn':notW (h.pl++zpl h.zs) b
        · rw [(sb hn').1]
        · exact absurd (fun i hi=>by
            rcases List.mem_append.1 hi with hi | hi
            · exact hn i hi
            · simp [zpl] at hi) hn'
  -- the registers' list
  obtain ⟨preS,es,hS1,hS2⟩:=shade_pre md al
  obtain ⟨preH,eh,hH1,hH2⟩:=putH_pre (putQs h.pl x σ) h.hs (shade md al)
  obtain ⟨preP,ep,hP1⟩:=putPs_pre h.pl x (putH (putQs h.pl x σ) h.hs (shade md al))
  have eall:putX h md al σ x=(preP++(preH++preS))++al:=by
    unfold putX
    rw [ep,eh,es,List.append_assoc,List.append_assoc]
  have extW:Ext σ (putQs h.pl x σ):=PQ0.ext
  have hle:(putZ h md al σ x).length≤σD1.length:=by
    rw [len,R1.hh.len]
    rcases Nat.lt_or_ge σ1.length σ.length with hlt | hge
    · obtain ⟨blk1,e,_⟩:=hs σ1.length _ (List.getElem?_eq_getElem hlt)
      rw [List.getElem?_eq_none (Nat.le_refl _)] at e
      simp at e
    · exact hge
  have gw:∀{v:TV},GV (putZ h md al σ x) v→GW (putX h md al σ x) (putZ h md al σ x) (.v v):=fun g=>g
  rw [←len]
  refine stw_of hle (fun t v p ht=>?_) (fun b blk2 hb2=>?_) (fun b w2 cs2 hb2 q hq=>?_)
  · -- a register
    rcases putPs_lk h.pl x hx ht with ⟨c,a,rfl,hr⟩ | ⟨hnp,ht⟩
    · simp only [rdP] at hr
      split at hr
      · rename_i v1 h1
        obtain ⟨p1,h2⟩:=lkT_some h1
        obtain ⟨d1,h3,h4,_⟩:=R1.rg t _ p1 h2
        exact ⟨tv_good c a,d1,c.enc a,h3,rdV_wk hr h4,c.tv_ok a⟩
      · simp at hr
    · rw [eh] at ht
      rcases lkP_mem ht with hm | ⟨hnh,ht⟩
      · obtain ⟨b,i,l,lv,cv,m1,m2,m3⟩:=hH1 _ hm
        dsimp only at m1 m3
        subst m3
        obtain ⟨i1,v1,q1,j1,l1,lv1,cv1,n1,n2,n3,n4⟩:=hsOk_at hh m1
        subst n3
        obtain ⟨p1,n5⟩:=lkT_some n1
        obtain ⟨d1,n6,n7,n8⟩:=R1.rg t _ p1 n5
        obtain ⟨rfl,rfl⟩:=own_row R1.hh n8 n2 (by simp)
        clear n4
        have m2q:=(Z.row b _ _ _ _).1 m2
        -- the row,in both
        have hlt:b<σ.length:=by rw [←PQ0.1]; exact (List.getElem?_eq_some_iff.1 m2).1
        obtain ⟨blk0,e0⟩:∃blk0,σ[b]? = some blk0:=⟨_,List.getElem?_eq_getElem hlt⟩
        obtain ⟨blk2,e2,be,pb⟩:=PQ0.2 b blk0 e0
        rw [m2] at e2
        simp only [Option.some.injEq] at e2
        subst e2
        obtain ⟨blk1,e1,sb⟩:=hs b blk0 e0
        rw [n2] at e1
        simp only [Option.some.injEq] at e1
        subst e1
        cases blk0 with
        | cells w cs=>obtain ⟨_,_,e,_⟩:=sb; simp at e
        | mp q st l v=>obtain ⟨_,_,_,_,e,_⟩:=sb; simp at e
        | row i0 l0 lv0 cv0 =>
          obtain ⟨l5,lv5,cv5,e5,sb⟩:=sb
          simp only [TB.row.injEq] at e5
          obtain ⟨rfl,e6,rfl,rfl⟩:=e5
          cases e6
          obtain ⟨l6,lv6,cv6,e7,pb⟩:=pb
          simp only [TB.row.injEq] at e7
          obtain ⟨rfl,e8,rfl,rfl⟩:=e7
          cases e8
          have hll:l=l1:=by
            rcases pb with ⟨⟨lv7,cv7,e9⟩,_⟩ | ⟨rfl,_,_,hn⟩
            · rw [n2] at e9
              simp only [Option.some.injEq,TB.row.injEq,heq_eq_eq,true_and] at e9
              exact e9.1.symm
            · exact (sb fun i hi=>by
                rcases List.mem_append.1 hi with hi | hi
                · exact hn i hi
                · simp [zpl] at hi).1.symm
          subst hll
          refine ⟨⟨_,m2q,fun j l' lv' cv' e=>?_⟩,d1,d1,n6,?_,?_⟩
          · simp only [TB.row.injEq] at e
            obtain ⟨rfl,e9,rfl,rfl⟩:=e
            cases e9
            exact ⟨Nat.le_refl _,fun _=>⟨rfl,rfl⟩⟩
          · rw [RT.c1 (by simp) n7]
            refine DWk.low ?_
            simp only [TC.er,D.low,decide_eq_true_eq]
            rw [len]; exact hlt
          · have:=RT.c1 (by simp) n7
            rw [this]
            exact Or.inr rfl
      · rw [es] at ht
        rcases lkP_mem ht with hm | ⟨hns,ht⟩
        · obtain ⟨m1,m2,m3⟩:=hS1 _ hm
          dsimp only at m1 m2 m3
          subst m3
          rw [Option.isSome_iff_exists] at m2
          obtain ⟨y,hy⟩:=m2
          obtain ⟨p1,n1⟩:=lkT_some hy
          obtain ⟨⟨y',p'⟩,n2⟩:=hdom t _ n1
          obtain ⟨d1,n3,_⟩:=R1.rg t y' p' n2
          exact ⟨True.intro,d1,.any,n3,DWk.any _ _,Or.inl rfl⟩
        · have hmd:t∉md:=fun hm=>by
            obtain ⟨y,hy,e⟩:=hS2 t hm (by rw [lkT_lkP,ht]; rfl)
            exact hns y hy e
          have hnh':∀b,(t,b)∈h.hs→∀i l lv cv,σ[b]?≠some (.row i l lv cv):=by
            intro b hb i l lv cv e
            obtain ⟨blk2,e2,be,_⟩:=PQ0.2 b _ e
            obtain ⟨l2,lv2,cv2,rfl,_⟩:=be
            obtain ⟨y,hy,e4⟩:=hH2 t b _ _ _ _ hb e2
            exact hnh y hy e4
          have h1:=hk t _ hmd hnp hnh' ht
          obtain ⟨d1,n3,n4,_⟩:=R1.rg t v p h1
          obtain ⟨_,_,_,n5⟩:=R0.rg t v p ht
          obtain ⟨d2,n6,n7⟩:=RR_wk n4 n5
          refine ⟨?_,d1,d2,n3,by rw [len]; exact n6,n7⟩
          rw [eall]
          exact n5.mono ext _
  · -- a block
    have hlt:b<σ.length:=by rw [←len]; exact (List.getElem?_eq_some_iff.1 hb2).1
    obtain ⟨blk0,e0⟩:∃blk0,σ[b]? = some blk0:=⟨_,List.getElem?_eq_getElem hlt⟩
    obtain ⟨blk2',e2,be,pb⟩:=PQ0.2 b blk0 e0
    obtain ⟨blk1,e1,sb⟩:=hs b blk0 e0
    obtain ⟨ob1,o1,o2⟩:=R1.hh.hp b blk1 e1
    refine ⟨ob1,?_⟩
    cases blk0 with
    | cells w cs =>
      obtain ⟨w1,cs1,rfl,l1,c1⟩:=sb
      obtain ⟨w2q,cs2q,rfl,l2q,c2q⟩:=pb
      obtain ⟨w2,cs2,ez,_,l2z,c2z⟩:=Z.cells b _ _ e2
      have:blk2=.cells w2 cs2:=by
        have e3:(putZ h md al σ x)[b]? = some (.cells w2 cs2):=ez
        rw [hb2] at e3
        simp only [Option.some.injEq] at e3
        exact e3
      subst this
      have l2:cs2.length=cs.length:=l2z.trans l2q
      obtain ⟨ds1,o3,a1,_,_⟩:=R1.hh.cells e1
      rw [o1] at o3
      simp only [Option.some.injEq] at o3
      subst o3
      have a1':All2 (fun (p:Nat×TC) d=>RC p.2 d) cs1 ds1:=by
        cases o2
        refine All2.of_get (by simp) fun j p d h1 h2=>?_
        rw [List.getElem?_map,h1] at h2
        simp only [Option.map_some,Option.some.injEq] at h2
        exact .inr h2.symm
      clear o2 a1
      have a1:=a1'
      have hl:ds1.length=cs2.length:=by rw [←a1.len,l1,l2]
      obtain ⟨es,he1,he2⟩:=exists_list (p:=fun j e=>∃p2 d1,cs2[j]? = some p2∧ds1[j]? = some d1∧DWk (putZ h md al σ x).length d1 e∧e=p2.2.er) cs2.length fun j hj=>by
        have q2:=List.getElem?_eq_getElem hj
        have q1:cs1[j]? = some _:=List.getElem?_eq_getElem (by rw [l1,←l2]; exact hj)
        obtain ⟨d1,q3,q4⟩:=a1.get j _ q1
        rcases c2z j _ q2 with ⟨z1,z2⟩ | ⟨r,i,l,lv,cv,z1,z2,z3,_⟩
        rotate_left
        · obtain ⟨_,_,w9,cs9,i9,l9,lv9,cv9,q9,v9,y1,y2,y3⟩:=zsOk_at hz z1
          rw [e1] at y1
          simp only [Option.some.injEq,TB.cells.injEq] at y1
          obtain ⟨_,rfl⟩:=y1
          rw [q1] at y3
          simp only [Option.some.injEq] at y3
          have g9:=(R1.hh.hg b w1 cs1 e1 _ (List.mem_of_getElem? q1)).1
          rw [y3] at q4 g9
          obtain ⟨t1,t2⟩:=both r i i9 _ _ _ _ _ _ z2 y2
          subst t1
          obtain ⟨_,t3⟩:=own_row R1.hh g9 y2 (by simp)
          have q4':d1=OS (esz i9) r q9:=RT.c1 (x:=.own i9 r lv9 q9) (by simp) q4
          have hr:r<σ.length:=by rw [←PQ0.1]; exact (List.getElem?_eq_some_iff.1 z2).1
          refine ⟨d1,_,d1,q2,q3,?_,?_⟩
          · rw [q4']
            refine DWk.low ?_
            simp only [OS,D.low,decide_eq_true_eq]
            rw [len]; exact hr
          · rw [q4',z3,t3,←t2]
            rfl
        obtain ⟨_,q5⟩:=c2q j _ z1
        rcases q5 with ⟨c,a,q5,q6,_⟩ | ⟨q5,q6⟩
        · simp only [rdP,e1,q1] at q6
          exact ⟨.c (encC enc c a),_,d1,q2,q3,rdC_wk q6 q4,by rw [q5]; exact (expC_er c a).symm⟩
        · have:=c1 j _ _ q5 q1 fun c hc=>by
            rcases List.mem_append.1 hc with hc | hc
            · exact q6 c hc
            · simp only [zpl,List.mem_map] at hc
              obtain ⟨⟨b9,j9,r9⟩,hm,e9⟩:=hc
              simp only [Pl.h.injEq] at e9
              obtain ⟨rfl,rfl,_⟩:=e9
              obtain ⟨_,hr,w9,cs9,i9,l9,lv9,cv9,q9,v9,y1,y2,y3⟩:=zsOk_at hz hm
              -- the row stands in all of them
              obtain ⟨blk9,y4⟩:∃blk,σ[r9]? = some blk:=⟨_,List.getElem?_eq_getElem hr⟩
              obtain ⟨blk1',y5,sb'⟩:=hs r9 _ y4
              rw [y2] at y5
              simp only [Option.some.injEq] at y5
              subst y5
              cases blk9 with
              | cells w cs=>obtain ⟨_,_,e,_⟩:=sb'; simp at e
              | mp q st l v=>obtain ⟨_,_,_,_,e,_⟩:=sb'; simp at e
              | row i8 l8 lv8 cv8 =>
                obtain ⟨blk2'',y6,be',_⟩:=PQ0.2 r9 _ y4
                obtain ⟨l7,lv7,cv7,rfl,_⟩:=be'
                exact z2 r9 hm _ _ _ _ y6
          rw [this] at q4
          exact ⟨_,_,d1,q2,q3,by rw [len]; exact RC_wk0 q4 (R0.hh.hg b w cs e0 _ (List.mem_of_getElem? q5)).1,rfl⟩
      refine ⟨.cells es,o1,⟨es,rfl,All2.of_get (by rw [hl,he1]) fun j d e h1 h2=>?_⟩,?_⟩
      · obtain ⟨p2,d1,_,r2,r3,_⟩:=he2 j e h2
        rw [h1] at r2
        simp only [Option.some.injEq] at r2
        subst r2
        exact r3
      · unfold RB TB.er
        congr 1
        apply List.ext_getElem?
        intro j
        rw [List.getElem?_map]
        cases h2:es[j]? with
        | none=>rw [List.getElem?_eq_none (by have:=List.getElem?_eq_none_iff.1 h2; omega)]; rfl
        | some e =>
          obtain ⟨p2',d1,r1,_,_,r4⟩:=he2 j e h2
          rw [r1,r4]; rfl
    | row i l lv cv =>
      obtain ⟨l1,lv1,cv1,rfl,sb⟩:=sb
      obtain ⟨l2,lv2,cv2,rfl,pb⟩:=pb
      have:blk2=.row i l2 lv2 cv2:=by
        have e3:(putZ h md al σ x)[b]? = some (.row i l2 lv2 cv2):=(Z.row b _ _ _ _).1 e2
        rw [hb2] at e3
        simp only [Option.some.injEq] at e3
        exact e3
      subst this
      have hll:l2=l1:=by
        rcases pb with ⟨⟨lv7,cv7,e9⟩,_⟩ | ⟨rfl,_,_,hn⟩
        · rw [e1] at e9
          simp only [Option.some.injEq,TB.row.injEq,heq_eq_eq,true_and] at e9
          exact e9.1.symm
        · exact (sb fun i hi=>by
            rcases List.mem_append.1 hi with hi | hi
            · exact hn i hi
            · simp [zpl] at hi).1.symm
      subst hll
      cases o2
      exact ⟨_,o1,ObW.refl_row,rfl⟩
    | mp j st l v =>
      obtain ⟨j1,st1,l1,v1,rfl,sb⟩:=sb
      obtain ⟨j2,st2,l2,v2,rfl,pb⟩:=pb
      have:blk2=.mp j2 st2 l2 v2:=by
        have e3:(putZ h md al σ x)[b]? = some (.mp j2 st2 l2 v2):=Z.mp b _ _ _ _ e2
        rw [hb2] at e3
        simp only [Option.some.injEq] at e3
        exact e3
      subst this
      have heq:j2=j1∧st2=st1∧HEq l2 l1:=by
        rcases pb with ⟨⟨v7,e9⟩,_⟩ | ⟨e9,hn⟩
        · rw [e1] at e9
          simp only [Option.some.injEq,TB.mp.injEq] at e9
          exact ⟨e9.1.symm,e9.2.1.symm,e9.2.2.1.symm⟩
        · have e10:=sb fun j st hi=>by
            rcases List.mem_append.1 hi with hi | hi
            · exact hn j st hi
            · simp [zpl] at hi
          rw [←e9] at e10
          simp only [TB.mp.injEq] at e10
          exact ⟨e10.1.symm,e10.2.1.symm,e10.2.2.1.symm⟩
      obtain ⟨rfl,rfl,hl⟩:=heq
      cases hl
      cases o2
      exact ⟨_,o1,⟨rfl,mbE_low (fun a=>mpE_low _ _ _ _) _ _⟩,rfl⟩
  · -- what is in cells
    have hlt:b<σ.length:=by rw [←len]; exact (List.getElem?_eq_some_iff.1 hb2).1
    obtain ⟨blk0,e0⟩:∃blk0,σ[b]? = some blk0:=⟨_,List.getElem?_eq_getElem hlt⟩
    obtain ⟨blk2',e2,be,pb⟩:=PQ0.2 b blk0 e0
    cases blk0 with
    | cells w cs =>
      obtain ⟨w3,cs3,rfl,l2,c2⟩:=pb
      obtain ⟨w4,cs4,ez,hw,l2z,c2z⟩:=Z.cells b _ _ e2
      have e3:(putZ h md al σ x)[b]? = some (.cells w4 cs4):=ez
      rw [hb2] at e3
      simp only [Option.some.injEq,TB.cells.injEq] at e3
      obtain ⟨rfl,rfl⟩:=e3
      obtain ⟨j,hj⟩:=List.getElem?_of_mem hq
      rcases c2z j q hj with ⟨z1,_⟩ | ⟨r,i,l,lv,cv,_,z2,z3,_,z4⟩
      · obtain ⟨r1,r2⟩:=c2 j q z1
        refine ⟨?_,Nat.le_trans r1 hw⟩
        rcases r2 with ⟨c,a,r2,_⟩ | ⟨r2,_⟩
        · rw [r2]; exact expC_good c a
        · exact (R0.hh.hg b w cs e0 q (List.mem_of_getElem? r2)).1.mono ext
      · refine ⟨?_,z4⟩
        rw [z3]
        refine ⟨_,(Z.row r _ _ _ _).1 z2,fun j l' lv' cv' e=>?_⟩
        simp only [TB.row.injEq] at e
        obtain ⟨rfl,e9,rfl,rfl⟩:=e
        cases e9
        exact ⟨Nat.le_refl _,fun _=>⟨rfl,rfl⟩⟩
    | row i l lv cv =>
      obtain ⟨_,_,_,rfl,_⟩:=pb
      have e3:=(Z.row b _ _ _ _).1 e2
      have e4:(putZ h md al σ x)[b]? = _:=e3
      rw [hb2] at e4
      simp at e4
    | mp j st l v =>
      obtain ⟨_,_,_,_,rfl,_⟩:=pb
      have e4:(putZ h md al σ x)[b]? = _:=Z.mp b _ _ _ _ e2
      rw [hb2] at e4
      simp at e4
end
end Go.Abs
end
section
namespace Go.Abs
noncomputable section
variable [Gl] [Y:Ty]
theorem frzA_app (m:Nat) (σ:TH) (al:TA):∀(pre:TA),frzA m σ pre.length (pre++al)=pre.map (fun p=>(p.1,frzV m σ p.2))++al:=by
  intro pre
  induction pre with
  | nil=>cases al <;> rfl
  | cons x pre ih=>obtain ⟨t,v⟩:=x; simp only [List.length_cons,List.cons_append,frzA,ih,List.map_cons]
theorem lkP_frz {m:Nat} {σ:TH} {al:TA} {t:Nat} {x:RV} {p:Nat}:∀{pre:TA},lkP t (pre.map (fun p=>(p.1,frzV m σ p.2))++al)=some (x,p) →
    (∃x0,lkP t (pre++al)=some (x0,p)∧x=frzV m σ x0)∨(lkP t (pre++al)=some (x,p)∧lkP t al=some (x,p)):=by
  intro pre
  induction pre with
  | nil=>intro h; exact .inr ⟨h,h⟩
  | cons y pre ih =>
    intro h
    obtain ⟨s,y⟩:=y
    simp only [List.map_cons,List.cons_append,lkP] at h ⊢
    split at h
    · rename_i hb
      simp only [Option.some.injEq,Prod.mk.injEq] at h
      obtain ⟨rfl,rfl⟩:=h
      try rw [hb]
      exact .inl ⟨y,by simp,rfl⟩
    · rename_i hb
      try rw [hb]
      exact ih h
theorem mp_low0 {j:Nat} {st:Bool} (l:List (Int×TT j)):((mbE (mpE j st) 0 l).all fun e=>e.2.1.low 0)=true:=mbE_low (fun a=>mpE_low _ _ _ _) _ _
variable {m:Nat} {σ1:TH} {σD1:Heap}
theorem er_low {x:TC} (h:okC m x=true) (hx:x≠.any):x.er.low m=true:=by
  cases x with
  | any=>exact absurd rfl hx
  | d x=>exact h
  | own i b v n=>simpa [okC,TC.er,OS,D.low] using h
  | op i b v n k a o=>simpa [okC,TC.er,D.low] using h
  | ap b off len sz k=>simpa [okC,TC.er,D.low] using h
  | os i b v n lo len=>simpa [okC,TC.er,D.low] using h
  | _=>rfl
def frF (m:Nat) (σD1:Heap) (b:Nat):Prop:=m≤b∧∃(i:Nat) (l:List (TT i)),σD1[b]? = some (OB (enc i) l)
theorem take_rn (H:RH σ1 σD1) (hm:m≤σ1.length) (hok:(σ1.take m).all (okB m)=true):RnH m σD1 (σD1.take m) id (frF m σD1):=by
  have hl:(σD1.take m).length=m:=by rw [List.length_take,H.len]; omega
  have get:∀i,i<m→∀ob,σD1[i]? = some ob→(σD1.take m)[i]? = some ob:=fun i hi ob h=>by rw [List.getElem?_take_of_lt hi]; exact h
  have N:Rn m σD1 (σD1.take m) id (frF m σD1):=⟨by rw [hl]; exact Nat.le_refl _,fun i _=>rfl,fun i j _ _ e=>e,fun i hi h=>by rw [hl] at hi; have:=h.1; simp only [id] at this; omega,fun b h=>h.2,fun i hi=>by
    rw [hl] at hi
    have h1:σD1[i]? = some _:=List.getElem?_eq_getElem (by rw [H.len]; omega)
    exact ⟨_,_,h1,get i hi _ h1,rfl⟩⟩
  refine ⟨N,fun i hi=>?_⟩
  rw [hl] at hi
  have hi1:i<σ1.length:=by omega
  obtain ⟨ob,h1,h2⟩:=H.hp i _ (List.getElem?_eq_getElem hi1)
  refine ⟨ob,ob,h1,get i hi _ h1,?_⟩
  unfold RB at h2
  subst h2
  have hk:okB m σ1[i]=true:=List.all_eq_true.1 hok _ (List.mem_of_getElem? (i:=i) (by rw [List.getElem?_take_of_lt hi,List.getElem?_eq_getElem hi1]))
  cases hb:σ1[i] with
  | cells w cs =>
    rw [hb] at hk
    refine ⟨_,rfl,All2.of_get rfl fun j a b e1 e2=>?_⟩
    rw [e1] at e2
    simp only [Option.some.injEq] at e2
    subst e2
    rw [List.getElem?_map,Option.map_eq_some_iff] at e1
    obtain ⟨p,hp,rfl⟩:=e1
    have:=List.all_eq_true.1 hk p (List.mem_of_getElem? hp)
    by_cases ha:p.2=.any
    · rw [ha]; exact DWr.any _
    · exact DWr.low N (er_low this ha)
  | row i l lv cv =>
    refine ⟨_,rfl,All2.of_get rfl fun j a b e1 e2=>?_⟩
    rw [e1] at e2
    simp only [Option.some.injEq] at e2
    subst e2
    rw [List.getElem?_map,Option.map_eq_some_iff] at e1
    obtain ⟨c,_,rfl⟩:=e1
    exact DWr.data N rfl
  | mp j st l v=>exact ⟨rfl,mp_low0 l⟩
theorem take_get {i:Nat} (hi:i<m) {blk:TB} (h:σ1[i]? = some blk):(σ1.take m)[i]? = some blk:=by rw [List.getElem?_take_of_lt hi]; exact h
theorem frzT_ok (H:RH σ1 σD1) (hm:m≤σ1.length) (N:Rn m σD1 (σD1.take m) id (frF m σD1)) {x:TC} {d:D} (hr:RC x d) (hg:GC σ1 x) :
    ∃d',DWr σD1 (σD1.take m) id (frF m σD1) d d'∧RC (frzT m σ1 x) d'∧GC (σ1.take m) (frzT m σ1 x):=by
  have hl:(σ1.take m).length=m:=by rw [List.length_take]; omega
  rcases hr with rfl | rfl
  · exact ⟨.any,DWr.any _,.inl rfl,True.intro⟩
  have any:∃d',DWr σD1 (σD1.take m) id (frF m σD1) x.er d'∧RC .any d'∧GC (σ1.take m) .any:=⟨.any,DWr.any _,.inl rfl,True.intro⟩
  have bt:∀{b:Nat},Nat.blt b m=true→b<m:=fun h=>Nat.blt_eq.mp h
  cases x with
  | any=>exact any
  | d x =>
    simp only [frzT]
    split
    · rename_i h; exact ⟨x,DWr.low N h,.inr rfl,by show x.low _=true; rw [hl]; exact h⟩
    · exact any
  | b e=>exact ⟨_,DWr.data N rfl,.inr rfl,True.intro⟩
  | sl i l=>exact ⟨_,DWr.data N rfl,.inr rfl,True.intro⟩
  | fp i a o=>exact ⟨_,DWr.data N rfl,.inr rfl,True.intro⟩
  | fl n=>exact ⟨_,DWr.data N rfl,.inr rfl,True.intro⟩
  | cx a b=>exact ⟨_,DWr.data N rfl,.inr rfl,True.intro⟩
  | own i b v n =>
    simp only [frzT]
    obtain ⟨blk,g1,g2⟩:=hg
    split
    · rename_i h
      exact ⟨_,DWr.low N (by simpa [TC.er,OS,D.low] using bt h),.inr rfl,blk,take_get (bt h) g1,g2⟩
    · rename_i h
      split
      · rename_i j l lv cv hb
        rw [g1] at hb
        simp only [Option.some.injEq] at hb
        subst hb
        split
        · rename_i hv
          have hv:=Nat.eq_of_beq_eq_true hv
          obtain ⟨rfl,rfl⟩:=(g2 _ _ _ _ rfl).2 hv.symm
          obtain ⟨ob,h1,h2⟩:=H.hp b _ g1
          unfold RB at h2
          subst h2
          have hF:frF m σD1 b:=⟨by
            rcases Nat.lt_or_ge b m with hlt | hge
            · rw [Nat.blt_eq.mpr hlt] at h; simp at h
            · exact hge,_,_,h1⟩
          exact ⟨_,DWr.frz N hF h1,.inr rfl,True.intro⟩
        · exact any
      · exact any
  | op i b v n k a o =>
    simp only [frzT]
    obtain ⟨blk,g1,g2⟩:=hg
    split
    · rename_i h; exact ⟨_,DWr.low N (by simpa [TC.er,D.low] using bt h),.inr rfl,blk,take_get (bt h) g1,g2⟩
    · exact any
  | ap b off len sz k =>
    simp only [frzT]
    split
    · rename_i h; exact ⟨_,DWr.low N (by simpa [TC.er,D.low] using bt h),.inr rfl,by show b<_; rw [hl]; exact bt h⟩
    · exact any
  | os i b v n lo len =>
    simp only [frzT]
    obtain ⟨blk,g1,g2⟩:=hg
    split
    · rename_i h; exact ⟨_,DWr.low N (by simpa [TC.er,D.low] using bt h),.inr rfl,blk,take_get (bt h) g1,g2⟩
    · exact any
theorem frzTs_ok (H:RH σ1 σD1) (hm:m≤σ1.length) (N:Rn m σD1 (σD1.take m) id (frF m σD1)) {xs:List TC} {ds:List D} (hr:All2 RC xs ds) (hg:∀x∈xs,GC σ1 x) :
    ∃es,All2 (DWr σD1 (σD1.take m) id (frF m σD1)) ds es∧All2 RC (xs.map (frzT m σ1)) es∧∀x∈xs.map (frzT m σ1),GC (σ1.take m) x:=by
  induction hr with
  | nil=>exact ⟨[],.nil,.nil,by simp⟩
  | cons h r ih =>
    obtain ⟨e,h1,h2,h3⟩:=frzT_ok H hm N h (hg _ (List.mem_cons_self ..))
    obtain ⟨es,h4,h5,h6⟩:=ih fun x hx=>hg x (List.mem_cons_of_mem _ hx)
    exact ⟨e::es,.cons h1 h4,.cons h2 h5,fun x hx=>by
      rw [List.map_cons] at hx
      rcases List.mem_cons.1 hx with rfl | hx
      · exact h3
      · exact h6 x hx⟩
theorem frzV_ok (H:RH σ1 σD1) (hm:m≤σ1.length) (N:Rn m σD1 (σD1.take m) id (frF m σD1)) {al al':TA} {x:RV} {d:D} (hr:RR x d) (hg:GW al σ1 x) :
    ∃d',DWr σD1 (σD1.take m) id (frF m σD1) d d'∧RR (frzV m σ1 x) d'∧GW al' (σ1.take m) (frzV m σ1 x):=by
  have any:∃d',DWr σD1 (σD1.take m) id (frF m σD1) d d'∧RR (.v (.c .any)) d'∧GW al' (σ1.take m) (.v (.c .any)):=⟨.any,DWr.any _,Or.inl rfl,True.intro⟩
  cases x with
  | g c w p x=>exact any
  | v x =>
    cases x with
    | c x=>exact frzT_ok H hm N hr hg
    | tup xs=>exact any
    | agg xs =>
      obtain ⟨ds,rfl,ha⟩:=hr
      obtain ⟨es,h1,h2,h3⟩:=frzTs_ok H hm N ha hg
      exact ⟨_,DWr.agg h1,⟨es,rfl,h2⟩,h3⟩
theorem dwr_wk (N:Rn m σD1 (σD1.take m) id (frF m σD1)) (hm:m≤σD1.length) {d1 d2:D} (h:DWk m d1 d2):DWr σD1 (σD1.take m) id (frF m σD1) d1 d2:=fun M Fz w v R hv=>by
  have hl:(σD1.take m).length=m:=by rw [List.length_take]; omega
  have h1:=h σD1 (σD1.take m) M Fz w v (fun b hb ob ho=>⟨ob,by rw [List.getElem?_take_of_lt hb]; exact ho,rfl⟩) hv
  have e:mN (σD1.take m).length id M=cutM M m:=by rw [hl]; rfl
  rw [e]
  exact h1.sub (fun b ob hb=>⟨ob,hb,rfl⟩) (fun _ _ h=>h) (fun c h=>⟨.inl h,rfl⟩) (fun c arr T fr h=>⟨arr,h,rfl⟩)
theorem frz_ok {pre al:TA} {σ:TH} {alD alD1:AL} {σD:Heap} (R0:Ref al σ alD σD) (R1:Ref (pre++al) σ1 alD1 σD1) (he:Ext σ σ1) (hok:(σ1.take σ.length).all (okB σ.length)=true) :
    ∃alD2 σD2,StW σ.length alD1 σD1 alD2 σD2∧Ref (pre.map (fun p=>(p.1,frzV σ.length σ1 p.2))++al) (σ1.take σ.length) alD2 σD2∧Ext σ (σ1.take σ.length):=by
  have hm:σ.length≤σ1.length:=by
    rcases Nat.lt_or_ge σ1.length σ.length with hlt | hge
    · obtain ⟨blk1,e,_⟩:=he σ1.length _ (List.getElem?_eq_getElem hlt)
      rw [List.getElem?_eq_none (Nat.le_refl _)] at e
      simp at e
    · exact hge
  have hmD:σ.length≤σD1.length:=by rw [R1.hh.len]; exact hm
  have he':Ext σ (σ1.take σ.length):=fun b blk hb=>by
    obtain ⟨blk1,h1,h2⟩:=he b blk hb
    exact ⟨blk1,take_get (List.getElem?_eq_some_iff.1 hb).1 h1,h2⟩
  have N:=take_rn R1.hh hm hok
  have key:∀t,∃d2,∀x p,lkP t (pre.map (fun p=>(p.1,frzV σ.length σ1 p.2))++al)=some (x,p)→GW (pre.map (fun p=>(p.1,frzV σ.length σ1 p.2))++al) (σ1.take σ.length) x∧∃d1,lk t alD1=some d1∧DWr σD1 (σD1.take σ.length) id (frF σ.length σD1) d1 d2∧RR x d2:=by
    intro t
    cases ht:lkP t (pre.map (fun p=>(p.1,frzV σ.length σ1 p.2))++al) with
    | none=>exact ⟨.any,fun x p h=>by simp at h⟩
    | some q =>
      obtain ⟨x,p⟩:=q
      have:∃d2,GW (pre.map (fun p=>(p.1,frzV σ.length σ1 p.2))++al) (σ1.take σ.length) x∧∃d1,lk t alD1=some d1∧DWr σD1 (σD1.take σ.length) id (frF σ.length σD1) d1 d2∧RR x d2:=by
        rcases lkP_frz ht with ⟨x0,h1,rfl⟩ | ⟨h1,h2⟩
        · obtain ⟨d1,h3,h4,h5⟩:=R1.rg t x0 p h1
          obtain ⟨d2,h6,h7,h8⟩:=frzV_ok R1.hh hm N.toRn h4 h5
          exact ⟨d2,h8,d1,h3,h6,h7⟩
        · obtain ⟨d1,h3,h4,_⟩:=R1.rg t x p h1
          obtain ⟨_,_,_,h5⟩:=R0.rg t x p h2
          obtain ⟨d2,h6,h7⟩:=RR_wk h4 h5
          exact ⟨d2,h5.mono he' _,d1,h3,dwr_wk N.toRn hmD h6,h7⟩
      obtain ⟨d2,h⟩:=this
      exact ⟨d2,fun x' p' e=>by simp only [Option.some.injEq,Prod.mk.injEq] at e; obtain ⟨rfl,rfl⟩:=e; exact h⟩
  refine ⟨(pre.map (fun p=>(p.1,frzV σ.length σ1 p.2))++al).map fun p=>(p.1,Classical.choose (key p.1)),σD1.take σ.length,StW.rn N (fun b hb=>hb.1) (fun t d h=>?_),⟨⟨?_,fun b blk hb=>?_,fun b w cs hb p hp=>?_⟩,fun t x p h=>?_⟩,he'⟩
  · obtain ⟨⟨x,p,h3⟩,rfl⟩:=lkP_key' (f:=fun t=>Classical.choose (key t)) h
    obtain ⟨_,d1,h4,h5,_⟩:=Classical.choose_spec (key t) x p h3
    exact ⟨d1,h4,h5⟩
  · rw [List.length_take,List.length_take,R1.hh.len]
  · have hlt:b<σ.length:=by have:=(List.getElem?_eq_some_iff.1 hb).1; rw [List.length_take] at this; omega
    rw [List.getElem?_take_of_lt hlt] at hb
    obtain ⟨ob,h1,h2⟩:=R1.hh.hp b blk hb
    exact ⟨ob,by rw [List.getElem?_take_of_lt hlt]; exact h1,h2⟩
  · have hlt:b<σ.length:=by have:=(List.getElem?_eq_some_iff.1 hb).1; rw [List.length_take] at this; omega
    have hb0:=hb
    rw [List.getElem?_take_of_lt hlt] at hb
    obtain ⟨h1,h2⟩:=R1.hh.hg b w cs hb p hp
    refine ⟨?_,h2⟩
    have hk:okB σ.length (.cells w cs)=true:=List.all_eq_true.1 hok _ (List.mem_of_getElem? hb0)
    have hk:=List.all_eq_true.1 hk p hp
    have bt:∀{b:Nat},Nat.blt b σ.length=true→b<σ.length:=fun h=>Nat.blt_eq.mp h
    cases hx:p.2 with
    | own i b v n=>rw [hx] at h1 hk; obtain ⟨blk,g1,g2⟩:=h1; exact ⟨blk,take_get (bt hk) g1,g2⟩
    | op i b v n k a o=>rw [hx] at h1 hk; obtain ⟨blk,g1,g2⟩:=h1; exact ⟨blk,take_get (bt hk) g1,g2⟩
    | os i b v n lo len=>rw [hx] at h1 hk; obtain ⟨blk,g1,g2⟩:=h1; exact ⟨blk,take_get (bt hk) g1,g2⟩
    | ap b off len sz k=>rw [hx] at hk; show b<_; rw [List.length_take]; have:=bt hk; omega
    | d x=>rw [hx] at hk; show x.low _=true; rw [List.length_take,show min σ.length σ1.length=σ.length by omega]; exact hk
    | _=>exact True.intro
  · obtain ⟨h1,d1,h2,h3,h4⟩:=Classical.choose_spec (key t) x p h
    exact ⟨_,lkP_key (f:=fun t=>Classical.choose (key t)) ⟨x,p,h⟩,h4,h1⟩
theorem absF_ok {h:JH} {md:List Nat} {pre al:TA} {σ:TH} {alD alD1:AL} {σD:Heap} {x:tupP h.pl} (R0:Ref al σ alD σD) (R1:Ref (pre++al) σ1 alD1 σD1) (he:Ext σ σ1) (hx:absF h md al σ (pre++al) σ1=some x) :
    ∃pre' σ2 alD2 σD2,StW σ.length alD1 σD1 alD2 σD2∧Ref (pre'++al) σ2 alD2 σD2∧Ext σ σ2∧absJ h md al σ (pre'++al) σ2=some x:=by
  unfold absF at hx
  split at hx
  · rename_i hok
    obtain ⟨alD2,σD2,h1,h2,h3⟩:=frz_ok R0 R1 he hok
    rw [show (pre++al).length-al.length=pre.length by rw [List.length_append]; omega,frzA_app] at hx
    exact ⟨_,_,alD2,σD2,h1,h2,h3,hx⟩
  · refine ⟨pre,σ1,alD1,σD1,StW.refl ?_,R1,he,hx⟩
    rw [R1.hh.len]
    rcases Nat.lt_or_ge σ1.length σ.length with hlt | hge
    · obtain ⟨blk1,e,_⟩:=he σ1.length _ (List.getElem?_eq_getElem hlt)
      rw [List.getElem?_eq_none (Nat.le_refl _)] at e
      simp at e
    · exact hge
end
end Go.Abs
end
section
namespace Go.Abs
noncomputable section
variable [Gl] [Y:Ty]
def Post {R:Type} (al:TA) (σ:TH) (K:KC R) (r:R):AExit→AL→Heap→Prop:=fun x alD' σD'=>
  ∃al' σ',Ref al' σ' alD' σD'∧(∃pre,al'=pre++al)∧Ext σ σ'∧K x al' σ'=some r
theorem regsOk_ok {md:List Nat} {al pre:TA} (h:regsOk md al (pre++al)=true):∀y∈pre,y.1∈md:=by
  intro y hy
  unfold regsOk at h
  rw [List.length_append,Nat.add_sub_cancel,List.take_left,List.all_eq_true] at h
  have:=h y hy
  rw [List.any_eq_true] at this
  obtain ⟨z,hz,e⟩:=this
  have:=Nat.eq_of_beq_eq_true e
  rw [this]; exact hz
theorem absJ_ok {h:JH} {md:List Nat} {al al1:TA} {σ σ1:TH} {x:tupP h.pl} (e:absJ h md al σ al1 σ1=some x):regsOk md al al1=true∧heapSame (h.pl++zpl h.zs) 0 σ σ1=true∧hsOk al1 σ1 h.hs=true∧zsOk σ.length σ1 h.zs=true∧rdPs al1 σ1 h.pl=some x:=by
  unfold absJ at e
  split at e
  · rename_i hc
    simp only [Bool.and_eq_true] at hc
    exact ⟨hc.1,hc.2.1,hc.2.2.1,hc.2.2.2,e⟩
  · simp at e
theorem row_back {σ σ2:TH} (he:Ext σ σ2) (hl:σ2.length=σ.length) {b i lv cv:Nat} {l:List (TT i)} (h:σ2[b]? = some (.row i l lv cv)):∃i l lv cv,σ[b]? = some (.row i l lv cv):=by
  have hlt:b<σ.length:=by rw [←hl]; exact (List.getElem?_eq_some_iff.1 h).1
  obtain ⟨blk2,e2,be⟩:=he b _ (List.getElem?_eq_getElem hlt)
  rw [h] at e2
  simp only [Option.some.injEq] at e2
  subst e2
  have e0:σ[b]? = some σ[b]:=List.getElem?_eq_getElem hlt
  rw [e0]
  cases hx:σ[b] with
  | row i l lv cv=>exact ⟨i,l,lv,cv,rfl⟩
  | cells w cs=>rw [hx] at be; obtain ⟨_,_,e,_⟩:=be; simp at e
  | mp j st l v=>rw [hx] at be; obtain ⟨_,_,_,_,e,_⟩:=be; simp at e
theorem putX_pre (h:JH) (md:List Nat) (al:TA) (σ:TH) (x:tupP h.pl):∃pre,putX h md al σ x=pre++al∧∀y∈pre,(∃c,Pl.r y.1 c∈h.pl)∨(∃b i l lv cv,(y.1,b)∈h.hs∧(putZ h md al σ x)[b]? = some (.row i l lv cv))∨y.1∈md:=by
  obtain ⟨preS,es,hS1,_⟩:=shade_pre md al
  obtain ⟨preH,eh,hH1,_⟩:=putH_pre (putQs h.pl x σ) h.hs (shade md al)
  obtain ⟨preP,ep,hP1⟩:=putPs_pre h.pl x (putH (putQs h.pl x σ) h.hs (shade md al))
  refine ⟨preP++(preH++preS),by unfold putX; rw [ep,eh,es,List.append_assoc,List.append_assoc],fun y hy=>?_⟩
  rcases List.mem_append.1 hy with hy | hy
  · exact .inl (hP1 y hy)
  · rcases List.mem_append.1 hy with hy | hy
    · obtain ⟨b,i,l,lv,cv,e1,e2,_⟩:=hH1 y hy
      exact .inr (.inl ⟨b,i,l,lv,cv,e1,((putZs_ok h.zs (putQs h.pl x σ)).row b _ _ _ _).1 e2⟩)
    · exact .inr (.inr (hS1 y hy).1)
theorem putX_key {h:JH} {md:List Nat} {al:TA} {σ:TH} {x:tupP h.pl} (he:Ext σ (putZ h md al σ x)) (hl:(putZ h md al σ x).length=σ.length) {t:Nat} {q:RV×Nat} (h1:t∉md) (h2:∀c,Pl.r t c∉h.pl)
    (h3:∀b,(t,b)∈h.hs→∀i l lv cv,σ[b]?≠some (.row i l lv cv)) (h4:lkP t al=some q):lkP t (putX h md al σ x)=some q:=by
  obtain ⟨pre,e,hp⟩:=putX_pre h md al σ x
  rw [e]
  refine lkP_skip (fun y hy e'=>?_) h4
  rcases hp y hy with ⟨c,hc⟩ | ⟨b,i,l,lv,cv,hb,hr⟩ | hm
  · rw [e'] at hc; exact h2 c hc
  · rw [e'] at hb
    obtain ⟨i,l,lv,cv,e2⟩:=row_back he hl hr
    exact h3 b hb i l lv cv e2
  · rw [e'] at hm; exact h1 hm
theorem Sem.ownC {P:Program} {n:Nat} {ac:ACode} {Q:AExit→AL→Heap→Prop} {al:AL} {σ:Heap} (b j esz:Nat) (cs:List D) (hb:σ[b]? = some (.cells cs)) (hj:cs[j]? = some (.c (.lit (.slice none 0 0)))) (h:Sem P ac n al (σ.set b (.cells (cs.set j (.sl σ.length 0 0 esz 0)))++[.cells []]) Q):Sem P ac n al σ Q:=by
  intro c hc M Fz w a K R A hK
  have hlt:=(List.getElem?_eq_some_iff.1 hb).1
  have at':∀(i:Nat) ob,σ[i]? = some ob→∃ob',(σ.set b (.cells (cs.set j (.sl σ.length 0 0 esz 0)))++[.cells []])[i]? = some ob'∧ob'.sz=ob.sz:=fun i ob hi=>by
    have hi':=(List.getElem?_eq_some_iff.1 hi).1
    rw [List.getElem?_append_left (by rw [List.length_set]; exact hi')]
    by_cases e:i=b
    · subst e
      rw [hb] at hi
      simp only [Option.some.injEq] at hi
      subst hi
      exact ⟨_,zaQ hb,by simp [Ob.sz]⟩
    · exact ⟨ob,by rw [zaF e]; exact hi,rfl⟩
  have hmono:∀{d v},V σ M Fz w d v→V (σ.set b (.cells (cs.set j (.sl σ.length 0 0 esz 0)))++[.cells []]) M Fz w d v:=fun h=>h.sub at' (fun _ _ h=>h) (fun c h=>⟨h,rfl⟩) (fun c arr T fr h=>⟨arr,h,rfl⟩)
  have obm:∀{ob o},ObRel σ M Fz w ob o→ObRel (σ.set b (.cells (cs.set j (.sl σ.length 0 0 esz 0)))++[.cells []]) M Fz w ob o:=fun {ob o} h4=>by
    cases ob with
    | cells cs=>obtain ⟨arr,T,ho,hl,hv⟩:=h4; exact ⟨arr,T,ho,hl,fun i d v x y=>⟨hmono (hv i d v x y).1,(hv i d v x y).2⟩⟩
    | map es clock=>obtain ⟨arr,ho,hl,hv⟩:=h4; exact ⟨arr,ho,hl,fun i k d n e x y=>let ⟨p,q,r⟩:=hv i k d n e x y; ⟨p,q,hmono r⟩⟩
    | gone n=>exact h4.elim
  have R1:Rel (σ.set b (.cells (cs.set j (.sl σ.length 0 0 esz 0)))++[.cells []]) M Fz w:=by
    refine ⟨fun b' c h=>?_,R.inj,R.fz,R.gl⟩
    obtain ⟨h1,ob,o,h2,h3,h4⟩:=R.blk b' c h
    have hi':=(List.getElem?_eq_some_iff.1 h2).1
    by_cases e:b'=b
    · subst e
      rw [hb] at h2
      simp only [Option.some.injEq] at h2
      subst h2
      refine ⟨h1,_,o,by rw [List.getElem?_append_left (by rw [List.length_set]; exact hi')]; exact zaQ hb,h3,?_⟩
      obtain ⟨arr,T,ho,hl,hv⟩:=h4
      refine ⟨arr,T,ho,by rw [List.length_set]; exact hl,fun i d v x y=>?_⟩
      by_cases ej:j=i
      · subst ej
        rw [List.getElem?_set,if_pos rfl] at x
        split at x
        · simp only [Option.some.injEq] at x
          subst x
          obtain ⟨v1,v2⟩:=hv j _ v hj y
          refine ⟨?_,v2⟩
          rw [v1.lit_inv]
          exact .sl none 0 0 (by simp) (.cells []) (by rw [List.getElem?_append_right (by rw [List.length_set]; exact Nat.le_refl _),List.length_set,Nat.sub_self]; rfl) (by simp [Ob.sz]) (fun _=>.inl ⟨rfl,rfl,rfl,rfl,rfl,rfl⟩)
        · simp at x
      · rw [List.getElem?_set_ne ej] at x
        exact ⟨hmono (hv i d v x y).1,(hv i d v x y).2⟩
    · exact ⟨h1,ob,o,by rw [List.getElem?_append_left (by rw [List.length_set]; exact hi'),zaF e]; exact h2,h3,obm h4⟩
  have E1:Evo σ M Fz w (σ.set b (.cells (cs.set j (.sl σ.length 0 0 esz 0)))++[.cells []]) M Fz w:={
    size:=Nat.le_refl _
    frame:=fun _ _ _=>rfl
    ran:=fun b c h=>.inl ⟨b,h⟩
    fz:=fun c h=>⟨h,rfl⟩
    fz':=fun c h=>.inl h
    shp:=fun c arr T fr h=>⟨arr,h,rfl⟩
    keep:=fun b ob h=>let ⟨ob',h1,h2⟩:=at' b ob h; ⟨ob',h1,Nat.le_of_eq h2.symm,fun _=>rfl⟩
    out:=⟨rfl,rfl,rfl⟩ }
  have A1:AEnv n (σ.set b (.cells (cs.set j (.sl σ.length 0 0 esz 0)))++[.cells []]) M Fz w al a.tmps:=⟨A.1,fun s d hs=>let ⟨v,h1,h2⟩:=A.2 s d hs; ⟨v,h1,hmono h2⟩⟩
  exact h c hc M Fz w a K R1 A1 fun x al' σ' a' w' M' Fz' hQ hd R' A' E' hl=>hK x al' σ' a' w' M' Fz' hQ hd R' A' (E1.trans E' (by simp)) (by simp at hl; omega)
theorem ownz_ok {P:Program} {n:Nat} {ac:ACode} {Q:AExit→AL→Heap→Prop}:∀(os:List (Nat×Nat)) (al al':TA) (σ σ':TH) (alD:AL) (σD:Heap),ownz os al σ=some (al',σ')→Ref al σ alD σD →
    (∃pre,al'=pre++al)∧Ext σ σ'∧((∀alD' σD',Ref al' σ' alD' σD'→Sem P ac n alD' σD' Q)→Sem P ac n alD σD Q):=by
  intro os
  induction os with
  | nil =>
    intro al al' σ σ' alD σD h Rf
    simp only [ownz,Option.some.injEq,Prod.mk.injEq] at h
    obtain ⟨rfl,rfl⟩:=h
    exact ⟨⟨[],rfl⟩,Ext.refl σ,fun hs=>hs alD σD Rf⟩
  | cons o os ih =>
    intro al al' σ σ' alD σD h Rf
    obtain ⟨t,i⟩:=o
    simp only [ownz] at h
    split at h
    · -- a cell
      generalize (t-1048576) / 1024=b at h
      generalize (t-1048576) % 1024=j at h
      split at h
      · rename_i w cs hb
        split at h
        · rename_i v0 hj
          obtain ⟨ds,hd,_,_,he⟩:=Rf.hh.cells hb
          have hj':ds[j]? = some (.c (.lit (.slice none 0 0))):=by rw [he,List.getElem?_map,hj]; rfl
          have hbe:BE (.cells w cs) (.cells (w+1) (cs.set j (w+1,.own i σ.length 0 0))):=⟨w+1,_,rfl,by omega,by simp,fun k v x v1 x1 e e1=>by
            by_cases ek:j=k
            · subst ek
              rw [List.getElem?_set,if_pos rfl] at e1
              split at e1
              · simp only [Option.some.injEq,Prod.mk.injEq] at e1; exact .inr (by omega)
              · simp at e1
            · rw [List.getElem?_set_ne ek,e] at e1
              simp only [Option.some.injEq,Prod.mk.injEq] at e1
              exact .inl ⟨e1.1.symm,e1.2.symm⟩⟩
          have x1:Ext σ (σ.set b (.cells (w+1) (cs.set j (w+1,.own i σ.length 0 0)))++[.row i [] 0 0]):=fun b' blk' e=>by
            obtain ⟨blk1,e1,e2⟩:=Ext.set hb hbe b' blk' e
            exact ⟨blk1,by rw [List.getElem?_append_left (List.getElem?_eq_some_iff.1 e1).1]; exact e1,e2⟩
          have R1:Ref al (σ.set b (.cells (w+1) (cs.set j (w+1,.own i σ.length 0 0)))++[.row i [] 0 0]) alD (σD.set b (.cells (ds.set j (.sl σD.length 0 0 (esz i) 0)))++[.cells []]):=by
            refine ⟨⟨by simp [Rf.hh.len],fun b' blk' e=>?_,fun b' w' cs' e p hp=>?_⟩,fun t x p h=>?_⟩
            · rcases Nat.lt_or_ge b' σ.length with h1 | h1
              · rw [List.getElem?_append_left (by rw [List.length_set]; exact h1)] at e
                rw [List.getElem?_append_left (by rw [List.length_set,Rf.hh.len]; exact h1)]
                by_cases eb:b'=b
                · subst eb
                  rw [zaQ hb] at e
                  simp only [Option.some.injEq] at e
                  subst e
                  refine ⟨_,zaQ hd,?_⟩
                  show _=TB.er _
                  simp only [TB.er,Ob.cells.injEq]
                  rw [List.map_set,he,Rf.hh.len]
                  simp [TC.er,OS]
                · rw [zaF eb] at e ⊢
                  exact Rf.hh.hp b' blk' e
              · rw [List.getElem?_append_right (by rw [List.length_set]; exact h1),List.length_set] at e
                rw [List.getElem?_append_right (by rw [List.length_set,Rf.hh.len]; exact h1),List.length_set,Rf.hh.len]
                have:b'-σ.length=0:=by have:=(List.getElem?_eq_some_iff.1 e).1; simp at this; omega
                rw [this] at e ⊢
                simp only [List.getElem?_cons_zero,Option.some.injEq] at e
                subst e
                exact ⟨_,rfl,rfl⟩
            · rcases Nat.lt_or_ge b' σ.length with h1 | h1
              · rw [List.getElem?_append_left (by rw [List.length_set]; exact h1)] at e
                by_cases eb:b'=b
                · subst eb
                  rw [zaQ hb] at e
                  simp only [Option.some.injEq,TB.cells.injEq] at e
                  obtain ⟨rfl,rfl⟩:=e
                  rcases List.mem_or_eq_of_mem_set hp with hp | rfl
                  · obtain ⟨g1,g2⟩:=Rf.hh.hg b' w cs hb p hp
                    exact ⟨g1.mono x1,by omega⟩
                  · refine ⟨⟨.row i [] 0 0,?_,fun j l lv cv e=>?_⟩,Nat.le_refl _⟩
                    · rw [List.getElem?_append_right (by rw [List.length_set]; exact Nat.le_refl _),List.length_set,Nat.sub_self]; rfl
                    · simp only [TB.row.injEq] at e
                      obtain ⟨rfl,e9,rfl,rfl⟩:=e
                      cases e9
                      exact ⟨Nat.le_refl _,fun _=>⟨rfl,rfl⟩⟩
                · rw [zaF eb] at e
                  obtain ⟨g1,g2⟩:=Rf.hh.hg b' w' cs' e p hp
                  exact ⟨g1.mono x1,g2⟩
              · rw [List.getElem?_append_right (by rw [List.length_set]; exact h1),List.length_set] at e
                have:b'-σ.length=0:=by have:=(List.getElem?_eq_some_iff.1 e).1; simp at this; omega
                rw [this] at e
                simp at e
            · obtain ⟨d,h1,h2,h3⟩:=Rf.rg t x p h
              exact ⟨d,h1,h2,h3.mono x1 []⟩
          obtain ⟨⟨pre,e1⟩,e2,e3⟩:=ih _ _ _ _ _ _ h R1
          refine ⟨⟨pre,e1⟩,Ext.trans Rf.hh x1 e2,fun hs=>?_⟩
          exact Sem.ownC b j (esz i) ds hd hj' (e3 hs)
        · exact ih _ _ _ _ _ _ h Rf
        · simp at h
      · simp at h
    split at h
    · rename_i ht
      obtain ⟨p,hp⟩:=lkT_some ht
      obtain ⟨d,h1,h2,_⟩:=Rf.rg t _ p hp
      have:=RT.c1 (by simp) h2
      subst this
      have R1:Ref ((t,.v (.c (.own i σ.length 0 0)))::al) (σ++[.row i [] 0 0]) ((t,OS (esz i) σD.length 0)::alD) (σD++[.cells []]):=
        Rf.set (Rf.hh.push (blk:=.row i [] 0 0) (ob:=.cells []) rfl (fun w cs e=>by simp at e)) (Ext.push σ _) (Or.inr (by rw [Rf.hh.len]; rfl)) (own_good (b:=0) rfl)
      obtain ⟨⟨pre,e1⟩,e2,e3⟩:=ih _ _ _ _ _ _ h R1
      refine ⟨⟨pre++[(t,.v (.c (.own i σ.length 0 0)))],by rw [e1,List.append_assoc]; rfl⟩,Ext.trans Rf.hh (Ext.push σ _) e2,fun hs=>?_⟩
      exact Sem.own t (esz i) h1 (d:=OS (esz i) σD.length 0) (by simp [OS]) rfl (e3 hs)
    · exact ih _ _ _ _ _ _ h Rf
    · simp at h
theorem Sem.drwCQ {P:Program} {n:Nat} {al:AL} {σ:Heap} {Q:AExit→AL→Heap→Prop} {orc:Orc2} {os:List AOper} {k:Nat} {bef:List Nat} {p:Nat} (hmix:P.follows .mixedOrders=true) (O:za8 P orc)
    (h:TrQ P orc (lastCall os) os n al σ fun al' σ' is=>(pairsOk bef is&&tailOk bef p (lastCall os) os.length&&Nat.ble p (lastCall os))=true∧Q .normal al' σ'):Sem P (.drw os bef k p) n al σ Q:=by
  obtain ⟨al1,σ1,is,h,hp,hQ⟩:=h
  intro c hc M Fz w a K R A hK
  obtain ⟨e',h1,h2⟩:=h _ A.toEnv.2
  have det:∀m r,evDrw P orc os bef p m (zdC n al) σ=some r→r=(e',σ1,is.flatMap (·.wr)):=by
    intro m r hr
    unfold evDrw at hr
    split at hr
    · rename_i e2 σ2 is2 h3
      have:=evTr_det _ _ _ _ _ _ _ h3 h1
      simp only [Prod.mk.injEq] at this
      obtain ⟨rfl,rfl,rfl⟩:=this
      split at hr
      · simp only [Option.some.injEq] at hr; exact hr.symm
      · simp at hr
    · simp at hr
  have h3:evDrw P orc os bef p (lastCall os) (zdC n al) σ=some (e',σ1,is.flatMap (·.wr)):=by
    unfold evDrw
    rw [h1]
    dsimp only
    rw [if_pos hp]
  have h4:evC P orc 1 (.drw os bef k p) (zdC n al) σ []=some (.normal,e',σ1,is.flatMap (·.wr)++[]):=by
    simp only [evC]
    split
    · rename_i r e2 σ2 w2 hr
      have:=det _ _ hr
      simp only [Prod.mk.injEq] at this
      obtain ⟨rfl,rfl,rfl⟩:=this
      rfl
    · rw [h3]
  have:Sem P (.drw os bef k p) n al σ Q:=Sem.of_ev hmix O (k:=1) (wr:=[]) (e:=zdC n al) (e':=e') (x:=.normal) (σ':=σ1) h4 rfl h2 hQ
  exact this c hc M Fz w a K R A hK
theorem tC_ok (g:Cfg) (mix:g.P.follows .mixedOrders=true) (O:OrcOk g.P (zcp (zcX g.S))) (hI:InlOk g) {R:Type}:∀(ac:ACode) (q:Nat) (al:TA) (σ:TH) (K:KC R) (r:R) (alD:AL) (σD:Heap),tC g ac q al σ K=some r→Ref al σ alD σD →
    Sem g.P ac g.n alD σD (Post al σ K r):=by
  intro ac
  induction ac with
  | skip =>
    intro q al σ K r alD σD h Rf
    exact Sem.skip mix ⟨al,σ,Rf,⟨[],rfl⟩,Ext.refl σ,h⟩
  | exit id =>
    intro q al σ K r alD σD h Rf
    exact Sem.exit mix ⟨al,σ,Rf,⟨[],rfl⟩,Ext.refl σ,h⟩
  | ret =>
    intro q al σ K r alD σD h Rf
    exact Sem.ret mix ⟨al,σ,Rf,⟨[],rfl⟩,Ext.refl σ,h⟩
  | stuck=>intro q al σ K r alD σD h Rf; simp [tC] at h
  | reg os =>
    intro q al σ K r alD σD h Rf
    simp only [tC] at h
    split at h
    · rename_i hU
      obtain ⟨oz,o1,_,o3⟩:=tOps_ok g q O hI 1000 0 os [] al σ _ r alD σD h (inlU_of hU) Rf (fun p b hk=>by simp [knk] at hk) (fun p b hk=>by simp [knk] at hk)
      refine Sem.regQ mix o1 (o3.mono fun a s i hA=>?_)
      obtain ⟨al',σ',is,h1,h2,h3,_,h4⟩:=hA
      exact ⟨al',σ',h1,h2,h3,h4⟩
    · simp at h
  | drw os bef k p =>
    intro q al σ K r alD σD h Rf
    simp only [tC] at h
    split at h
    · simp at h
    rename_i hU
    split at h
    · obtain ⟨oz,o1,_,o3⟩:=tOps_ok g q O hI 1000 os.length os [] al σ _ r alD σD h (inlU_of hU) Rf (fun p b hk=>by simp [knk] at hk) (fun p b hk=>by simp [knk] at hk)
      refine Sem.drwNQ mix o1 (o3.mono fun a s i hA=>?_)
      obtain ⟨al',σ',is,h1,h2,h3,h5,h4⟩:=hA
      dsimp only at h4
      split at h4
      · rename_i hc
        simp only [Bool.and_eq_true] at hc ⊢
        exact ⟨⟨⟨pairsOk_mono h5 hc.1.1,hc.1.2⟩,hc.2⟩,al',σ',h1,h2,h3,h4⟩
      · simp at h4
    split at h
    · rename_i pi _ n0 hl
      split at h
      · rename_i hc
        obtain ⟨oz,o1,_,o3⟩:=tOps_ok g q O hI 1000 n0 (permL pi os) [] al σ _ r alD σD h (inlU_of hc) Rf (fun p b hk=>by simp [knk] at hk) (fun p b hk=>by simp [knk] at hk)
        refine Sem.drwG mix o1 hl (o3.mono fun a s i hA=>?_)
        obtain ⟨al',σ',is,h1,h2,h3,h5,h4⟩:=hA
        dsimp only at h4
        split at h4
        · rename_i hc
          exact ⟨ghOk_mono h5 hc,al',σ',h1,h2,h3,h4⟩
        · simp at h4
      · simp at h
    split at h
    · obtain ⟨oz,o1,_,o3⟩:=tOps_ok g q O hI 1000 (lastCall os) os [] al σ _ r alD σD h (inlU_of hU) Rf (fun p b hk=>by simp [knk] at hk) (fun p b hk=>by simp [knk] at hk)
      refine Sem.drwCQ mix o1 (o3.mono fun a s i hA=>?_)
      obtain ⟨al',σ',is,h1,h2,h3,h5,h4⟩:=hA
      dsimp only at h4
      split at h4
      · rename_i hc
        simp only [Bool.and_eq_true] at hc ⊢
        exact ⟨⟨⟨pairsOk_mono h5 hc.1.1,hc.1.2⟩,hc.2⟩,al',σ',h1,h2,h3,h4⟩
      · simp at h4
    · obtain ⟨oz,o1,_,o3⟩:=tOps_ok g q O hI 1000 k os [] al σ _ r alD σD h (inlU_of hU) Rf (fun p b hk=>by simp [knk] at hk) (fun p b hk=>by simp [knk] at hk)
      refine Sem.drwQ mix o1 (o3.mono fun a s i hA=>?_)
      obtain ⟨al',σ',is,h1,h2,h3,h5,h4⟩:=hA
      dsimp only at h4
      split at h4
      · rename_i hc
        simp only [Bool.and_eq_true] at hc ⊢
        exact ⟨⟨⟨pairsOk_mono h5 hc.1.1,hc.1.2⟩,hc.2⟩,al',σ',h1,h2,h3,h4⟩
      · simp at h4
  | seq a b iha ihb =>
    intro q al σ K r alD σD h Rf
    simp only [tC] at h
    split at h
    · -- straight on
      have A:=iha _ _ _ _ _ alD σD h Rf
      refine Sem.seqW (A.monoW fun x alD' σD' hP=>.inl ?_)
      obtain ⟨al1,σ1,h1,⟨pre,rfl⟩,h3,h4⟩:=hP
      cases x with
      | normal =>
        refine .inl ((ihb _ _ _ _ _ alD' σD' h4 h1).monoW fun x alD2 σD2 hP=>.inl ?_)
        obtain ⟨al2,σ2,g1,⟨pre2,rfl⟩,g3,g4⟩:=hP
        exact ⟨_,σ2,g1,⟨pre2++pre,by rw [List.append_assoc]⟩,Ext.trans Rf.hh h3 g3,g4⟩
      | exit i=>exact ⟨_,σ1,h1,⟨pre,rfl⟩,h3,h4⟩
      | ret=>exact ⟨_,σ1,h1,⟨pre,rfl⟩,h3,h4⟩
    · -- where ways meet
      rename_i hj hJ
      split at h
      · simp at h
      rename_i alz σz hz
      obtain ⟨⟨preZ,eZ⟩,xZ,sZ⟩:=ownz_ok (P:=g.P) (n:=g.n) (ac:=.seq a b) (Q:=Post al σ K r) hj.os al alz σ σz alD σD hz Rf
      refine sZ fun alDz σDz Rfz=>?_
      have back:∀{x:AExit} {alD':AL} {σD':Heap},Post alz σz K r x alD' σD'→Post al σ K r x alD' σD':=fun ⟨al1,σ1,h1,⟨pre,e⟩,h3,h4⟩=>⟨al1,σ1,h1,⟨pre++preZ,by rw [e,eZ,List.append_assoc]⟩,Ext.trans Rf.hh xZ h3,h4⟩
      refine Sem.monoW ?_ (fun x al' σ' hP=>.inl (back hP))
      clear back sZ xZ eZ
      replace Rf:=Rfz
      have A:=iha _ _ _ _ _ alDz σDz (show tC g a (2 * q) alz σz _=some r from h) Rf
      refine Sem.seqW (A.monoW fun x alD' σD' hP=>.inl ?_)
      obtain ⟨al1,σ1,h1,⟨pre,rfl⟩,h3,h4⟩:=hP
      cases x with
      | normal =>
        dsimp only at h4
        split at h4
        · rename_i xv hx
          obtain ⟨pre,σ1,alD',σD',w1,h1,h3,hx⟩:=absF_ok Rf h1 h3 hx
          obtain ⟨c1,c2,c3,c5,c4⟩:=absJ_ok hx
          have hkey:=regsOk_ok c1
          obtain ⟨e1,_,e3,alD2,σD2,e4,e5⟩:=join_ok (md:=asgd a) Rf h1 (fun t q h=>lkP_dom h) (fun t q hm _ _ h=>lkP_skip (fun y hy e=>hm (e▸hkey y hy)) h) (heapSame_ok Rf.hh c2 h3) c3 c5 c4
          refine .inr ⟨alD2,σD2,by rw [Rf.hh.len]; exact w1.trans e4,(ihb _ _ _ _ _ alD2 σD2 h4 e5).monoW fun x alD3 σD3 hP=>.inl ?_⟩
          obtain ⟨al2,σ2,g1,⟨pre2,rfl⟩,g3,g4⟩:=hP
          obtain ⟨preA,eA,_⟩:=putX_pre hj (asgd a) alz σz xv
          exact ⟨_,σ2,g1,⟨pre2++preA,by rw [eA,List.append_assoc]⟩,Ext.trans Rf.hh e1 g3,g4⟩
        · simp at h4
      | exit i=>exact ⟨_,σ1,h1,⟨pre,rfl⟩,h3,h4⟩
      | ret=>exact ⟨_,σ1,h1,⟨pre,rfl⟩,h3,h4⟩
  | cond c a b iha ihb =>
    intro q al σ K r alD σD h Rf
    simp only [tC] at h
    have hr:RdOk σ alD (rdO al [] none):=rdO_ok Rf (fun p b hk=>by simp [knk] at hk) (by simp)
    split at h
    · rename_i hc
      obtain ⟨h1,_⟩:=hr.c hc (by simp)
      exact Sem.cond (b:=true) (by cases c <;> exact h1) (fun _=>iha _ _ _ _ _ alD σD h Rf) (fun e=>by simp at e)
    · rename_i hc
      obtain ⟨h1,_⟩:=hr.c hc (by simp)
      exact Sem.cond (b:=false) (by cases c <;> exact h1) (fun e=>by simp at e) (fun _=>ihb _ _ _ _ _ alD σD h Rf)
    · rename_i e hc
      obtain ⟨h1,_⟩:=hr.c hc (by simp)
      refine Sem.cond (b:=e) (by cases c <;> exact h1) (fun he=>?_) (fun he=>?_)
      · rw [if_pos he] at h; exact iha _ _ _ _ _ alD σD h Rf
      · rw [if_neg (ne_t he)] at h; exact ihb _ _ _ _ _ alD σD h Rf
    · simp at h
  | block id b ihb =>
    intro q al σ K r alD σD h Rf
    simp only [tC] at h
    refine Sem.block ((ihb _ _ _ _ _ alD σD h Rf).monoW fun x alD' σD' hP=>.inl ⟨_,_,.refl,?_⟩)
    obtain ⟨al1,σ1,h1,h2,h3,h4⟩:=hP
    cases x with
    | normal=>exact ⟨al1,σ1,h1,h2,h3,h4⟩
    | ret=>exact ⟨al1,σ1,h1,h2,h3,h4⟩
    | exit i =>
      dsimp only at h4
      refine ⟨fun e=>?_,fun e=>?_⟩
      · subst e
        have:Nat.beq i i=true:=by simp
        rw [this] at h4
        exact ⟨al1,σ1,h1,h2,h3,h4⟩
      · have:Nat.beq i id=false:=by
          cases hb:Nat.beq i id with
          | false=>rfl
          | true=>exact absurd (Nat.eq_of_beq_eq_true hb) e
        rw [this] at h4
        exact ⟨al1,σ1,h1,h2,h3,h4⟩
  | loop b ihb =>
    intro q al σ K r alD σD h Rf
    simp only [tC] at h
    split at h
    · simp at h
    · rename_i hj hJ
      split at h
      · rename_i nu hu
        refine Sem.loop nu ?_
        have key:∀(k:Nat) (al2:TA) (σ2:TH) (alD2:AL) (σD2:Heap),(∃pre,al2=pre++al)→Ext σ σ2→Ref al2 σ2 alD2 σD2 →
            lpU (fun rec al σ=>tC g b (2 * q) al σ fun ex al1 σ1=>match ex with | .normal=>rec al1 σ1 | ex=>K ex al1 σ1) k al2 σ2=some r→SemL g.P b k g.n alD2 σD2 (Post al σ K r):=by
          intro k
          induction k with
          | zero=>intro al2 σ2 alD2 σD2 _ _ _ h; simp [lpU] at h
          | succ k ihk =>
            intro al2 σ2 alD2 σD2 x1 x2 x4 h
            have B:=ihb _ _ _ _ _ alD2 σD2 (show tC g b (2 * q) al2 σ2 _=some r from h) x4
            refine SemL.succ (B.monoW (Q':=fun x al1 σ1=>match x with | .normal=>∃al2 σ2,Wk σD2.length al1 σ1 al2 σ2∧SemL g.P b k g.n al2 σ2 (Post al σ K r) | x=>∃al2 σ2,Wk σD2.length al1 σ1 al2 σ2∧Post al σ K r x al2 σ2) fun ex alD3 σD3 hP=>.inl ?_)
            obtain ⟨al1,σ1,h1,⟨pre,rfl⟩,h3,h4⟩:=hP
            obtain ⟨pre2,rfl⟩:=x1
            cases ex with
            | normal=>exact ⟨_,_,.refl,ihk _ _ _ _ ⟨pre++pre2,by rw [List.append_assoc]⟩ (Ext.trans Rf.hh x2 h3) h1 h4⟩
            | exit i=>exact ⟨_,_,.refl,_,σ1,h1,⟨pre++pre2,by rw [List.append_assoc]⟩,Ext.trans Rf.hh x2 h3,h4⟩
            | ret=>exact ⟨_,_,.refl,_,σ1,h1,⟨pre++pre2,by rw [List.append_assoc]⟩,Ext.trans Rf.hh x2 h3,h4⟩
        exact key nu al σ alD σD ⟨[],rfl⟩ (Ext.refl σ) Rf h
      split at h
      · simp at h
      rename_i alz σz hz
      obtain ⟨⟨preZ,eZ⟩,xZ,sZ⟩:=ownz_ok (P:=g.P) (n:=g.n) (ac:=.loop b) (Q:=Post al σ K r) hj.os al alz σ σz alD σD hz Rf
      refine sZ fun alDz σDz Rfz=>?_
      have back:∀{x:AExit} {alD':AL} {σD':Heap},Post alz σz K r x alD' σD'→Post al σ K r x alD' σD':=fun ⟨al1,σ1,h1,⟨pre,e⟩,h3,h4⟩=>⟨al1,σ1,h1,⟨pre++preZ,by rw [e,eZ,List.append_assoc]⟩,Ext.trans Rf.hh xZ h3,h4⟩
      refine Sem.monoW ?_ (fun x al' σ' hP=>.inl (back hP))
      clear back sZ xZ eZ
      replace Rf:=Rfz
      clear Rfz hz
      split at h
      · simp at h
      · rename_i x0 hx0
        obtain ⟨_,c2,c3,c5,c4⟩:=absJ_ok hx0
        obtain ⟨e1,e2,e3,alD2,σD2,e4,e5⟩:=join_ok (md:=asgd b) Rf Rf (fun t q h=>⟨q,h⟩) (fun t q _ _ _ h=>h) (heapSame_ok Rf.hh c2 (Ext.refl σz)) c3 c5 c4
        refine Sem.loop g.N (SemL.preW (by rw [Rf.hh.len]; exact e4) ?_)
        have key:∀(k:Nat) (x:tupP hj.pl) (alD2:AL) (σD2:Heap),Ext σz (putZ hj (asgd b) alz σz x)→HS (hj.pl++zpl hj.zs) σz (putZ hj (asgd b) alz σz x)→(putZ hj (asgd b) alz σz x).length=σz.length→Ref (putX hj (asgd b) alz σz x) (putZ hj (asgd b) alz σz x) alD2 σD2 →
            lpX (fun rec x=>tC g b (2 * q) (putX hj (asgd b) alz σz x) (putZ hj (asgd b) alz σz x) fun ex al1 σ1=>match ex with
              | .normal=>match absF hj (asgd b) (putX hj (asgd b) alz σz x) (putZ hj (asgd b) alz σz x) al1 σ1 with | some x'=>rec x' | none=>none
              | ex=>K ex al1 σ1) k x=some r→SemL g.P b k g.n alD2 σD2 (Post alz σz K r):=by
          intro k
          induction k with
          | zero=>intro x alD2 σD2 _ _ _ _ h; simp [lpX] at h
          | succ k ihk =>
            intro x alD2 σD2 x1 x2 x3 x4 h
            have B:=ihb _ _ _ _ _ alD2 σD2 (show tC g b (2 * q) (putX hj (asgd b) alz σz x) (putZ hj (asgd b) alz σz x) _=some r from h) x4
            refine SemL.succW (B.monoW fun ex alD3 σD3 hP=>.inl ?_)
            obtain ⟨al1,σ1,h1,⟨pre,rfl⟩,h3,h4⟩:=hP
            obtain ⟨preA,eA,_⟩:=putX_pre hj (asgd b) alz σz x
            cases ex with
            | normal =>
              dsimp only at h4
              split at h4
              · rename_i xv hx
                obtain ⟨pre,σ1,alD3,σD3,w1,h1,h3,hx⟩:=absF_ok x4 h1 h3 hx
                obtain ⟨d1,d2,d3,d5,d4⟩:=absJ_ok hx
                have hkey:=regsOk_ok d1
                obtain ⟨f1,f2,f3,alD4,σD4,f4,f5⟩:=join_ok (md:=asgd b) Rf h1 (fun t q h=>by rw [eA,←List.append_assoc]; exact lkP_dom h)
                  (fun t q m1 m2 m3 h=>lkP_skip (fun y hy e=>m1 (e▸hkey y hy)) (putX_key x1 x3 m1 m2 m3 h)) (x2.trans (heapSame_ok x4.hh d2 h3)) d3 (by rw [x3] at d5; exact d5) d4
                exact ⟨alD4,σD4,by rw [x4.hh.len,x3]; rw [x3] at w1; exact w1.trans f4,ihk xv alD4 σD4 f1 f2 f3 f5 h4⟩
              · simp at h4
            | exit i=>exact ⟨_,σ1,h1,⟨pre++preA,by rw [eA,List.append_assoc]⟩,Ext.trans Rf.hh x1 h3,h4⟩
            | ret=>exact ⟨_,σ1,h1,⟨pre++preA,by rw [eA,List.append_assoc]⟩,Ext.trans Rf.hh x1 h3,h4⟩
        exact key g.N x0 alD2 σD2 e1 e2 e3 e5 h
theorem zip_ok:∀(cs:List VCd) (a:tupV cs) (i t:Nat) (x:RV) (p:Nat),lkP t (zipT i (tvV cs a))=some (x,p)→∃d v,x=.v v∧lk t (zipAL i (encV cs a))=some d∧RT v d∧GV [] v:=by
  intro cs
  induction cs with
  | nil=>intro a i t x p h; simp [tvV,zipT,lkP] at h
  | cons c cs ih =>
    intro a i t x p h
    simp only [tvV,zipT,lkP] at h
    simp only [encV,zipAL,lk]
    split at h
    · rename_i hb
      simp only [Option.some.injEq,Prod.mk.injEq] at h
      try rw [hb]
      exact ⟨_,_,h.1.symm,rfl,c.tv_ok a.1,tv_good c a.1⟩
    · rename_i hb
      try rw [hb]
      exact ih a.2 (i+1) t x p h
theorem encV_len:∀(cs:List VCd) (a:tupV cs),(encV cs a).length=cs.length:=by
  intro cs
  induction cs with
  | nil=>intro a; rfl
  | cons c cs ih=>intro a; simp only [encV,List.length_cons,ih]
theorem resT_ok {al:TA} {σ:TH} {alD:AL} {σD:Heap} (Rf:Ref al σ alD σD) {q:Nat×Option (Option Nat)} {v:TV} (h:resT al σ q=some v):∃d,resA alD σD q=some d∧RT v d∧GV σ v:=by
  obtain ⟨t,o⟩:=q
  cases o with
  | none =>
    simp only [resT] at h
    split at h
    · rename_i x hx
      simp only [Option.some.injEq] at h
      subst h
      obtain ⟨p,hp⟩:=lkT_some hx
      obtain ⟨d,h1,h2,h3⟩:=Rf.rg t _ p hp
      exact ⟨d,h1,h2,h3⟩
    · simp at h
  | some m =>
    simp only [resT] at h
    split at h
    · rename_i b off sz hx
      obtain ⟨p,hp⟩:=lkT_some hx
      obtain ⟨d,h1,h2,_⟩:=Rf.rg t _ p hp
      have:=RT.c1 (by simp) h2
      subst this
      split at h
      · rename_i w cs hb
        obtain ⟨ds,h3,h4,h5,_⟩:=Rf.hh.cells hb
        split at h
        · rename_i hs
          obtain ⟨d,h6,h7⟩:=getT_ok h h4
          refine ⟨d,?_,h7,getT_good h fun y hy=>?_⟩
          · simp only [resA,h1,TC.er]
            rw [zcT h3 (sz:=sz) (by rw [h5]; exact Nat.eq_of_beq_eq_true hs),Option.bind_some]
            exact h6
          · rw [List.mem_map] at hy
            obtain ⟨p,hp,rfl⟩:=hy
            exact (Rf.hh.hg b w cs hb p hp).1
        · simp at h
      · simp at h
    · simp at h
theorem ress_ok {al:TA} {σ:TH} {alD:AL} {σD:Heap} (Rf:Ref al σ alD σD):∀{qs:List (Nat×Option (Option Nat))} {vs:List TV},mapO (resT al σ) qs=some vs→∃ds,qs.mapM (resA alD σD)=some ds∧All3 vs ds∧∀v∈vs,GV σ v:=by
  intro qs
  induction qs with
  | nil=>intro vs h; simp only [mapO,Option.some.injEq] at h; subst h; exact ⟨[],rfl,.nil,by simp⟩
  | cons q qs ih =>
    intro vs h
    simp only [mapO] at h
    split at h
    · rename_i a b h1 h2
      simp only [Option.some.injEq] at h
      subst h
      obtain ⟨d,h3,h4,h5⟩:=resT_ok Rf h1
      obtain ⟨ds,h6,h7,h8⟩:=ih h2
      refine ⟨d::ds,?_,.cons h4 h7,fun v hv=>?_⟩
      · rw [List.mapM_cons,h3,h6]; rfl
      · rcases List.mem_cons.1 hv with rfl | hv
        · exact h5
        · exact h8 v hv
    · simp at h
theorem outs_ok {σ:TH} {σD:Heap} (H:RH σ σD):∀{cs:List VCd} {vs:List TV} {ds:List D} {r:outV cs},rdOut σ cs vs=some r→All3 vs ds→(∀v∈vs,GV σ v)→∃es,ds.mapM (frzD1 σD 0 100)=some es∧es.map nrm=outE cs r∧(∀d,ds=[d]→frzD σD 0 100 d=frzD1 σD 0 100 d):=by
  intro cs
  induction cs with
  | nil =>
    intro vs ds r h a g
    cases a with
    | nil=>exact ⟨[],rfl,rfl,fun d e=>by simp at e⟩
    | cons _ _=>simp [rdOut] at h
  | cons c cs ih =>
    intro vs ds r h a g
    cases a with
    | nil=>cases cs <;> simp [rdOut] at h
    | cons h1 a =>
      rename_i v d vs ds
      cases cs with
      | nil =>
        cases a with
        | nil =>
          simp only [rdOut] at h
          obtain ⟨d',h2,h3,h4⟩:=frV_ok H (g v (by simp)) h1 h
          refine ⟨[d'],by rw [List.mapM_cons,h2]; rfl,by simp only [List.map_cons,List.map_nil,outE,h4],fun d0 e=>?_⟩
          simp only [List.cons.injEq,and_true] at e
          subst e
          rw [h2,h3]
        | cons _ _=>simp [rdOut] at h
      | cons c2 cs =>
        cases a with
        | nil=>simp [rdOut] at h
        | cons h5 a =>
          simp only [rdOut] at h
          split at h
          · rename_i x y h6 h7
            simp only [Option.some.injEq] at h
            subst h
            obtain ⟨d',h2,h3,h4⟩:=frV_ok H (g v (by simp)) h1 h6
            obtain ⟨es,h8,h9,_⟩:=ih h7 (.cons h5 a) fun v hv=>g v (List.mem_cons_of_mem _ hv)
            refine ⟨d'::es,by rw [List.mapM_cons,h2,h8]; rfl,by simp only [List.map_cons,outE,h4,h9],fun d0 e=>by simp at e⟩
          · simp at h
theorem tF_ok {P:Program} {S:TSs} {B:InlB} {RS:ResF} {H:List (Nat×Nat)} {J:List (Nat×JH)} {C:List (Nat×List CT)} {dp:Nat} {g:FuncId} {fn:Func} {af:AFunc} {ins out:List VCd} {N:Nat} {a:tupV ins} {r:outV out} (mix:P.follows .mixedOrders=true) (hS:TSsOk P S)
    (hg:P.funcs[g]? = some fn) (hent:enterable P g=true) (hc:compF P fn true=some af) (hI:InlOk ⟨P,S,H,J,C,af.ntmps,N,(evD P S N B RS dp).1,(evD P S N B RS dp).2,RS⟩) (hn:Nat.ble ins.length af.ntmps=true) (h:tF P S B RS H J C dp af ins out N a=some r):Pure P g (encV ins a) (outD out r):=by
  refine pure_of_sem hg hent hc (by rw [encV_len]; exact Nat.le_of_ble_eq_true hn) ?_
  have R0:Ref (zipT 0 (tvV ins a)) [] (zipAL 0 (encV ins a)) []:=⟨⟨rfl,fun b blk h=>by simp at h,fun b w cs h=>by simp at h⟩,fun t x p h=>by
    obtain ⟨d,v,rfl,h1,h2,h3⟩:=zip_ok ins a 0 t x p h
    exact ⟨d,h1,h2,h3⟩⟩
  refine (tC_ok ⟨P,S,H,J,C,af.ntmps,N,(evD P S N B RS dp).1,(evD P S N B RS dp).2,RS⟩ mix (callOrc_ok (specsOf_ok hS)) hI af.body 1 _ _ _ r _ _ h R0).monoW fun x alD' σD' hP=>.inl ?_
  obtain ⟨al',σ',h1,_,_,h2⟩:=hP
  have fin:(match mapO (resT al' σ') af.results with | some rs=>rdOut σ' out rs | none=>none)=some r→∃ds' r',af.results.mapM (resA alD' σD')=some ds'∧frzD σD' 0 100 (one ds')=some r'∧DLe r' (outD out r):=by
    intro h2
    split at h2
    · rename_i rs hrs
      obtain ⟨ds,h3,h4,h5⟩:=ress_ok h1 hrs
      obtain ⟨es,h6,h7,h8⟩:=outs_ok h1.hh h2 h4 h5
      have hlen:es.length=ds.length:=(zcB h6).1
      have tupc:one ds=.tup ds→one (outE out r)=.tup (outE out r)→∃r',frzD σD' 0 100 (one ds)=some r'∧DLe r' (outD out r):=fun e1 e2=>by
        rw [e1]
        refine ⟨.tup es,frz_tup h6,DLe.of_nrm ?_⟩
        simp only [nrmR,h7,outD,e2]
      have hl2:(outE out r).length=ds.length:=by rw [←h7,List.length_map,hlen]
      cases ds with
      | nil =>
        obtain ⟨r',e1,e2⟩:=tupc rfl (by
          have:outE out r=[]:=List.eq_nil_of_length_eq_zero hl2
          rw [this]; rfl)
        exact ⟨[],r',h3,e1,e2⟩
      | cons d ds =>
        cases ds with
        | nil =>
          have e3:=h8 d rfl
          rw [List.mapM_cons] at h6
          cases h9:frzD1 σD' 0 100 d with
          | none=>rw [h9] at h6; simp at h6
          | some d' =>
            rw [h9] at h6
            simp only [List.mapM_nil] at h6
            cases h6
            refine ⟨[d],d',h3,by rw [←h9]; exact e3,?_⟩
            have e4:outD out r=nrm d':=by
              unfold outD
              rw [←h7]
              rfl
            rw [e4]
            intro σ M Fz w v hv
            exact nrm_ok hv
        | cons d2 ds =>
          obtain ⟨r',e1,e2⟩:=tupc rfl (by
            cases ho:outE out r with
            | nil=>rw [ho] at hl2; simp at hl2
            | cons o1 os =>
              cases os with
              | nil=>rw [ho] at hl2; simp at hl2
              | cons o2 os=>rfl)
          exact ⟨_,r',h3,e1,e2⟩
    · simp at h2
  cases x with
  | exit i=>simp at h2
  | normal=>exact ⟨.inl rfl,fin h2⟩
  | ret=>exact ⟨.inr rfl,fin h2⟩
theorem TSsOk.nil {P:Program}:TSsOk P []:=fun p hp=>by simp at hp
theorem TSsOk.cons {P:Program} {g:Nat} {s:TSp} {S:TSs} (h:zba P g s) (hS:TSsOk P S):TSsOk P ((g,s)::S):=by
  intro p hp
  rcases List.mem_cons.1 hp with rfl | hp
  · exact h
  · exact hS p hp
end
end Go.Abs
end
section
namespace Go.Abs
noncomputable section
variable [Gl] [Y:Ty]
section
variable {m:Nat} {σ1 σ2:Heap} {ρ:Nat→Nat} {F:Nat→Prop}
theorem ok_of_sem {P:Program} {g:FuncId} {fn:Func} {af:AFunc} {fz:Bool} {ds:List D} {r:D} {σ:Heap} (hg:P.funcs[g]? = some fn) (hc:compF P fn fz=some af) (hlen:ds.length≤af.ntmps)
    (h:Sem P af.body af.ntmps (zipAL 0 ds) σ fun x al σ1=>(x=.normal∨x=.ret)∧∃ds' ρ F,af.results.mapM (resA al σ1)=some ds'∧RnH σ.length σ1 σ2 ρ F∧(∀b,F b→σ.length≤b)∧DWr σ1 σ2 ρ F (one ds') r):Ok P g ds σ r σ2:=by
  unfold compF at hc
  split at hc
  · rename_i c hb
    split at hc
    · rename_i ac rs h1 h2
      simp only [Option.some.injEq] at hc
      subst hc
      dsimp only at h hlen
      intro M Fz w vs R hs hvs
      refine calls_of_wp hg hb ?_
      have A0:AEnv fn.ntmps σ M Fz w (zipAL 0 ds) (vs++Array.replicate (fn.ntmps-vs.size) undef):=by
        refine ⟨by simp; omega,fun t d ht=>?_⟩
        obtain ⟨_,h3⟩:=zipAL_lk ds 0 t d ht
        rw [Nat.sub_zero] at h3
        have hlt:t<vs.size:=by rw [hs]; exact (List.getElem?_eq_some_iff.1 h3).1
        exact ⟨vs[t],by rw [Array.getElem?_append_left hlt,Array.getElem?_eq_getElem hlt],hvs t d _ h3 (Array.getElem?_eq_getElem hlt)⟩
      refine h c h1 M Fz w { tmps:=vs++Array.replicate (fn.ntmps-vs.size) undef,defers:=[] } _ R A0 fun x al' σ' a' w' M' Fz' hQ hd R' A' EV hl=>?_
      obtain ⟨hx,ds',ρ,F,hm,hN,hF,hle⟩:=hQ
      have hm':rs.mapM (zb1 (zdC fn.ntmps al') σ')=some ds':=by
        have key:∀(l:List (Nat×Option (Option Nat))) ds',l.mapM (resA al' σ')=some ds'→l.mapM (zb1 (zdC fn.ntmps al') σ')=some ds':=by
          intro l
          induction l with
          | nil=>intro ds' h; simpa using h
          | cons p l ih =>
            intro ds' h
            rw [List.mapM_cons] at h ⊢
            cases hp:resA al' σ' p with
            | none=>rw [hp] at h; simp at h
            | some d =>
              rw [hp] at h
              have:zb1 (zdC fn.ntmps al') σ' p=some d:=by
                obtain ⟨t,o⟩:=p
                cases o with
                | none=>exact A'.toEnv.2.2 t d hp
                | some k =>
                  simp only [resA] at hp
                  split at hp
                  · rename_i b off sz hlk
                    simp only [zb1,A'.toEnv.2.2 t _ hlk]
                    exact hp
                  · simp at hp
              rw [this]
              cases hr:l.mapM (resA al' σ') with
              | none=>rw [hr] at h; simp at h
              | some q=>rw [hr] at h; rw [ih q hr]; exact h
        exact key rs ds' hm
      obtain ⟨v,hv1,hv2⟩:=results_ok (P:=P) R' A'.toEnv.1 h2 hm'
      have post:a'.defers=[]∧∃v,(results fn a'.tmps).run P w'=.ok v w'∧∃v' M'' Fz'',Ending.returned v=.returned v'∧Rel σ2 M'' Fz'' w'∧V σ2 M'' Fz'' w' r v'∧Evo σ M Fz w σ2 M'' Fz'' w':=
        ⟨hd,v,hv1,v,_,_,rfl,hN.rel R',hle M' Fz' w' v R' hv2,hN.evo (Nat.le_refl _) hF R R' EV⟩
      rcases hx with rfl | rfl
      · exact post
      · exact post
    · simp at hc
  · simp at hc
end
end
end Go.Abs
end
section
namespace Go.Abs
noncomputable section
variable [Gl] [Y:Ty]
theorem castI_some {c:It} {d:Dat} {a:c.dn} (h:castI c d=some a):d=⟨c,a⟩:=by
  unfold castI at h
  split at h
  · rename_i e _
    simp only [Option.some.injEq] at h
    obtain ⟨it,v⟩:=d
    dsimp only at e
    subst e
    subst h
    rfl
  · simp at h
theorem zbo (c:It) (a:c.dn):castI c ⟨c,a⟩=some a:=by
  unfold castI
  split
  · rfl
  · rename_i hne _; exact absurd rfl hne
theorem toTup_of:∀{cs:List It} {ds:List Dat} {x:tupI cs},toTup cs ds=some x→ofTup cs x=ds:=by
  intro cs
  induction cs with
  | nil =>
    intro ds x h
    cases ds with
    | nil=>rfl
    | cons d ds=>simp [toTup] at h
  | cons c cs ih =>
    intro ds x h
    cases cs with
    | nil =>
      cases ds with
      | nil=>simp [toTup] at h
      | cons d ds =>
        cases ds with
        | nil=>simp only [toTup] at h; simp only [ofTup,castI_some h]
        | cons _ _=>simp [toTup] at h
    | cons c2 cs =>
      cases ds with
      | nil=>simp [toTup] at h
      | cons d ds =>
        simp only [toTup] at h
        split at h
        · rename_i a b h1 h2
          simp only [Option.some.injEq] at h
          subst h
          simp only [ofTup,castI_some h1,ih h2]
        · simp at h
structure SR (σs σ2:TH):Prop where
  len:σ2.length=σs.length
  row:∀(b:Nat) i (l:List (TT i)) lv cv,σs[b]? = some (.row i l lv cv)→σ2[b]? = some (.row i l lv cv)
def GS (σs:TH):TC→Prop
  | .own i b v n=>∃(l:List (TT i)) (cv:Nat),σs[b]? = some (.row i l v cv)∧n=l.length
  | .d x=>x.low σs.length=true
  | .any=>False
  | .op ..=>False
  | .ap ..=>False
  | .os ..=>False
  | _=>True
theorem GS.gc {σs σ2:TH} (h:SR σs σ2) {x:TC} (g:GS σs x):GC σ2 x:=by
  cases x with
  | own i b v n =>
    obtain ⟨l,cv,h1,h2⟩:=g
    refine ⟨_,h.row b i l v cv h1,fun j l' lv cv' e=>?_⟩
    simp only [TB.row.injEq] at e
    obtain ⟨rfl,e2,rfl,rfl⟩:=e
    cases e2
    exact ⟨Nat.le_refl _,fun _=>⟨rfl,h2⟩⟩
  | d x=>show D.low _ _=true; rw [h.len]; exact g
  | any=>exact g.elim
  | op=>exact g.elim
  | ap=>exact g.elim
  | os=>exact g.elim
  | _=>trivial
theorem expC_gs (σs:TH) (c:CC) (a:c.dn):GS σs (expC c a):=by cases c <;> first | exact True.intro | rfl
theorem pCP_gs {σs:TH} {p:CP} {ds r:List Dat} {y:TC} (h:pCP σs p ds=some (y,r)):GS σs y:=by
  unfold pCP at h
  split at h
  · split at h
    · simp only [Option.some.injEq,Prod.mk.injEq] at h; obtain ⟨rfl,_⟩:=h; exact expC_gs σs _ _
    · simp at h
  · split at h
    · simp only [Option.some.injEq,Prod.mk.injEq] at h; obtain ⟨rfl,_⟩:=h; trivial
    · simp at h
  · split at h
    · rename_i i l lv cv hb
      simp only [Option.some.injEq,Prod.mk.injEq] at h; obtain ⟨rfl,_⟩:=h; exact ⟨l,cv,hb,rfl⟩
    · simp at h
  · split at h
    · rename_i hb
      simp only [Option.some.injEq,Prod.mk.injEq] at h; obtain ⟨rfl,_⟩:=h
      show D.low _ _=true
      simp only [D.low,decide_eq_true_eq]; exact Nat.blt_eq.mp hb
    · simp at h
  · split at h
    · rename_i hb
      simp only [Option.some.injEq,Prod.mk.injEq] at h; obtain ⟨rfl,_⟩:=h
      show D.low _ _=true
      simp only [D.low,decide_eq_true_eq]; exact Nat.blt_eq.mp hb
    · simp at h
  · split at h
    · rename_i hb
      simp only [Option.some.injEq,Prod.mk.injEq] at h; obtain ⟨rfl,_⟩:=h; exact D.low_mono (Nat.zero_le _) hb
    · simp at h
  · simp at h
theorem pCPs_gs {σs:TH}:∀{ps:List CP} {ds r:List Dat} {ys:List TC},pCPs σs ps ds=some (ys,r)→∀y∈ys,GS σs y:=by
  intro ps
  induction ps with
  | nil=>intro ds r ys h; simp only [pCPs,Option.some.injEq,Prod.mk.injEq] at h; obtain ⟨rfl,_⟩:=h; simp
  | cons p ps ih =>
    intro ds r ys h
    simp only [pCPs] at h
    split at h
    · rename_i x d1 h1
      split at h
      · rename_i xs r' h2
        simp only [Option.some.injEq,Prod.mk.injEq] at h
        obtain ⟨rfl,_⟩:=h
        intro y hy
        rcases List.mem_cons.1 hy with rfl | hy
        · exact pCP_gs h1
        · exact ih h2 y hy
      · simp at h
    · simp at h
theorem RH.mk' {σ:TH} (hg:∀(b:Nat) w cs,σ[b]? = some (.cells w cs)→∀p∈cs,GC σ p.2∧p.1≤w):RH σ (σ.map TB.er):=⟨by simp,fun b blk hb=>⟨blk.er,by rw [List.getElem?_map,hb]; rfl,rfl⟩,hg⟩
theorem RH.eqD {σ:TH} {σD:Heap} (H:RH σ σD):σD=σ.map TB.er:=by
  apply List.ext_getElem?
  intro b
  rw [List.getElem?_map]
  cases hb:σ[b]? with
  | none =>
    have:=List.getElem?_eq_none_iff.1 hb
    rw [←H.len] at this
    rw [List.getElem?_eq_none this]; rfl
  | some blk =>
    obtain ⟨ob,h1,h2⟩:=H.hp b blk hb
    rw [h1,h2]; rfl
structure RowsOk (ps:List PC) (σ σr:TH):Prop where
  ext:Ext σ σr
  len:σr.length=σ.length
  cells:∀(b:Nat) w cs,σ[b]? = some (.cells w cs)↔σr[b]? = some (.cells w cs)
  out:∀b,b∉ps.map PC.blk→σr[b]? = σ[b]?
  row:ps.any PC.rs=false→∀(b:Nat) i (l:List (TT i)) lv cv,σ[b]? = some (.row i l lv cv)→σr[b]? = some (.row i l lv cv)
  rh:∃σD',RH σr σD'
theorem pRows_ok:∀{ps:List PC} {σ σr:TH} {σD:Heap} {ds r:List Dat},pRows σ ps ds=some (σr,r)→RH σ σD→RowsOk ps σ σr:=by
  intro ps
  induction ps with
  | nil=>intro σ σr σD ds r h H; simp only [pRows,Option.some.injEq,Prod.mk.injEq] at h; obtain ⟨rfl,_⟩:=h; exact ⟨Ext.refl σ,rfl,fun b w cs=>Iff.rfl,fun b _=>rfl,fun _ b i l lv cv h=>h,⟨σD,H⟩⟩
  | cons p ps ih =>
    intro σ σr σD ds r h H
    have one:∀(b:Nat) (blk blk1:TB) (ds':List Dat),σ[b]? = some blk→BE blk blk1→(∀w cs,blk≠.cells w cs)→(∀w cs,blk1≠.cells w cs)→p.blk=b→(p.rs=false→∀i (l:List (TT i)) lv cv,blk≠.row i l lv cv)→pRows (σ.set b blk1) ps ds'=some (σr,r)→RowsOk (p::ps) σ σr:=by
      intro b blk blk1 ds' hb be hn hn1 hp hr h
      have H1:RH (σ.set b blk1) (σD.set b blk1.er):=H.set hb be rfl (fun w cs e=>absurd e (hn1 w cs))
      have e:=ih h H1
      refine ⟨Ext.trans H (Ext.set hb be) e.ext,by rw [e.len]; simp,fun b' w cs=>?_,fun b' hb'=>?_,fun hrs b' i l lv cv h'=>?_,e.rh⟩
      · rw [←e.cells]
        by_cases hbb:b'=b
        · subst hbb
          rw [hb,zaQ hb]
          simp only [Option.some.injEq]
          exact ⟨fun e=>absurd e (hn w cs),fun e=>absurd e (hn1 w cs)⟩
        · rw [zaF hbb]
      · simp only [List.map_cons,List.mem_cons,not_or,hp] at hb'
        rw [e.out b' hb'.2,zaF hb'.1]
      · simp only [List.any_cons,Bool.or_eq_false_iff] at hrs
        refine e.row hrs.2 b' i l lv cv ?_
        by_cases hbb:b'=b
        · subst hbb
          rw [hb] at h'
          simp only [Option.some.injEq] at h'
          exact absurd h' (hr hrs.1 i l lv cv)
        · rw [zaF hbb]; exact h'
    cases p with
    | h b j p =>
      simp only [pRows] at h
      have e:=ih h H
      exact ⟨e.ext,e.len,e.cells,fun b' hb'=>e.out b' (fun hm=>hb' (List.mem_cons_of_mem _ hm)),fun hrs=>e.row (by simpa [PC.rs] using hrs),e.rh⟩
    | w b i =>
      cases ds with
      | nil=>simp [pRows] at h
      | cons d ds =>
        simp only [pRows] at h
        split at h
        · rename_i l j l0 lv cv h1 h2
          split at h
          · rename_i hj
            have:=Nat.eq_of_beq_eq_true hj
            subst this
            exact one b _ _ ds h2 ⟨l,_,_,rfl,by omega,by omega,fun e=>by omega,fun e=>by omega⟩ (fun w cs e=>by simp at e) (fun w cs e=>by simp at e) rfl (fun e=>by simp [PC.rs] at e) h
          · simp at h
        · simp at h
    | m b j st =>
      cases ds with
      | nil=>simp [pRows] at h
      | cons d ds =>
        simp only [pRows] at h
        split at h
        · rename_i l j0 st0 l0 v h1 h2
          exact one b _ _ ds h2 ⟨_,_,_,_,rfl,by omega,fun e=>by omega⟩ (fun w cs e=>by simp at e) (fun w cs e=>by simp at e) rfl (fun _ i l lv cv e=>by simp at e) h
        · simp at h
theorem pNew_len:∀{nbs:List NB} {ds r:List Dat} {l:TH},pNew nbs ds=some (l,r)→l.length=nbs.length:=by
  intro nbs
  induction nbs with
  | nil=>intro ds r l h; simp only [pNew,Option.some.injEq,Prod.mk.injEq] at h; rw [←h.1]; rfl
  | cons nb nbs ih =>
    intro ds r l h
    cases nb with
    | cells ps =>
      simp only [pNew] at h
      split at h
      · rename_i l' r' h1; simp only [Option.some.injEq,Prod.mk.injEq] at h; rw [←h.1,List.length_cons,ih h1]; rfl
      · simp at h
    | row i =>
      cases ds with
      | nil=>simp [pNew] at h
      | cons d ds =>
        simp only [pNew] at h
        split at h
        · rename_i a l' r' h0 h1; simp only [Option.some.injEq,Prod.mk.injEq] at h; rw [←h.1,List.length_cons,ih h1]; rfl
        · simp at h
    | mp j st =>
      cases ds with
      | nil=>simp [pNew] at h
      | cons d ds =>
        simp only [pNew] at h
        split at h
        · rename_i a l' r' h0 h1; simp only [Option.some.injEq,Prod.mk.injEq] at h; rw [←h.1,List.length_cons,ih h1]; rfl
        · simp at h
theorem pNBs_ok {σs:TH}:∀{nbs:List NB} {bs l:TH} {ds:List Dat},pNBs σs nbs bs ds=some l→l.length=nbs.length∧(∀(k:Nat) i (r:List (TT i)) lv cv,bs[k]? = some (.row i r lv cv)→k<nbs.length→(∀ps,nbs[k]?≠some (.cells ps))→l[k]? = some (.row i r lv cv)) ∧
    (∀(k:Nat) w cs,l[k]? = some (.cells w cs)→(∃w' cs',bs[k]? = some (.cells w' cs')∧cs=cs'∧w=w')∨∀p∈cs,GS σs p.2∧p.1≤w):=by
  intro nbs
  induction nbs with
  | nil=>intro bs l ds h; simp only [pNBs,Option.some.injEq] at h; subst h; exact ⟨rfl,fun k i r lv cv _ hk=>by simp at hk,fun k w cs h=>by simp at h⟩
  | cons nb nbs ih =>
    intro bs l ds h
    cases bs with
    | nil=>cases nb <;> simp [pNBs] at h
    | cons b bs =>
      have keep:∀l',pNBs σs nbs bs ds=some l'→l=b::l'→l.length=(nb::nbs).length∧(∀(k:Nat) i (r:List (TT i)) lv cv,(b::bs)[k]? = some (.row i r lv cv)→k<(nb::nbs).length→(∀ps,(nb::nbs)[k]?≠some (.cells ps))→l[k]? = some (.row i r lv cv)) ∧
          (∀(k:Nat) w cs,l[k]? = some (.cells w cs)→(∃w' cs',(b::bs)[k]? = some (.cells w' cs')∧cs=cs'∧w=w')∨∀p∈cs,GS σs p.2∧p.1≤w):=by
        intro l' h1 e
        subst e
        obtain ⟨e1,e2,e3⟩:=ih h1
        refine ⟨by simp [e1],fun k i r lv cv hk hl hn=>?_,fun k w cs hk=>?_⟩
        · cases k with
          | zero=>exact hk
          | succ k=>simp only [List.getElem?_cons_succ] at hk hn ⊢; exact e2 k i r lv cv hk (by simp at hl; omega) hn
        · cases k with
          | zero=>simp only [List.getElem?_cons_zero,Option.some.injEq] at hk; exact .inl ⟨w,cs,by rw [List.getElem?_cons_zero,hk],rfl,rfl⟩
          | succ k=>simp only [List.getElem?_cons_succ] at hk ⊢; exact e3 k w cs hk
      cases nb with
      | row i =>
        simp only [pNBs] at h
        split at h
        · rename_i l' h1; simp only [Option.some.injEq] at h; exact keep l' h1 h.symm
        · simp at h
      | mp j st =>
        simp only [pNBs] at h
        split at h
        · rename_i l' h1; simp only [Option.some.injEq] at h; exact keep l' h1 h.symm
        · simp at h
      | cells ps =>
        simp only [pNBs] at h
        split at h
        · rename_i xs r h1
          split at h
          · rename_i l' h2
            simp only [Option.some.injEq] at h
            subst h
            obtain ⟨e1,e2,e3⟩:=ih h2
            refine ⟨by simp [e1],fun k i r lv cv hk hl hn=>?_,fun k w cs hk=>?_⟩
            · cases k with
              | zero=>exact absurd rfl (hn ps)
              | succ k=>simp only [List.getElem?_cons_succ] at hk hn ⊢; exact e2 k i r lv cv hk (by simp at hl; omega) hn
            · cases k with
              | zero =>
                simp only [List.getElem?_cons_zero,Option.some.injEq,TB.cells.injEq] at hk
                obtain ⟨rfl,rfl⟩:=hk
                refine .inr fun p hp=>?_
                rw [List.mem_map] at hp
                obtain ⟨x,hx,rfl⟩:=hp
                exact ⟨pCPs_gs h1 x hx,Nat.le_refl _⟩
              | succ k=>simp only [List.getElem?_cons_succ] at hk ⊢; exact e3 k w cs hk
          · simp at h
        · simp at h
theorem pNew_cells:∀{nbs:List NB} {ds r:List Dat} {l:TH},pNew nbs ds=some (l,r)→∀(k:Nat),(∀w cs,l[k]? = some (.cells w cs)→cs=[])∧(∀ps,nbs[k]? = some (.cells ps)→l[k]? = some (.cells 0 [])):=by
  intro nbs
  induction nbs with
  | nil=>intro ds r l h k; simp only [pNew,Option.some.injEq,Prod.mk.injEq] at h; rw [←h.1]; exact ⟨fun w cs e=>by simp at e,fun ps e=>by simp at e⟩
  | cons nb nbs ih =>
    intro ds r l h k
    cases nb with
    | cells ps =>
      simp only [pNew] at h
      split at h
      · rename_i l' r' h1
        simp only [Option.some.injEq,Prod.mk.injEq] at h
        rw [←h.1]
        cases k with
        | zero=>exact ⟨fun w cs e=>by simp only [List.getElem?_cons_zero,Option.some.injEq,TB.cells.injEq] at e; exact e.2.symm,fun ps e=>rfl⟩
        | succ k=>simp only [List.getElem?_cons_succ]; exact ih h1 k
      · simp at h
    | row i =>
      cases ds with
      | nil=>simp [pNew] at h
      | cons d ds =>
        simp only [pNew] at h
        split at h
        · rename_i a l' r' h0 h1
          simp only [Option.some.injEq,Prod.mk.injEq] at h
          rw [←h.1]
          cases k with
          | zero=>exact ⟨fun w cs e=>by simp at e,fun ps e=>by simp at e⟩
          | succ k=>simp only [List.getElem?_cons_succ]; exact ih h1 k
        · simp at h
    | mp j st =>
      cases ds with
      | nil=>simp [pNew] at h
      | cons d ds =>
        simp only [pNew] at h
        split at h
        · rename_i a l' r' h0 h1
          simp only [Option.some.injEq,Prod.mk.injEq] at h
          rw [←h.1]
          cases k with
          | zero=>exact ⟨fun w cs e=>by simp at e,fun ps e=>by simp at e⟩
          | succ k=>simp only [List.getElem?_cons_succ]; exact ih h1 k
        · simp at h
structure ClsOk (σs:TH) (ps:List PC) (σ σ':TH):Prop where
  len:σ'.length=σ.length
  same:∀(b:Nat) blk,σ[b]? = some blk→(∀w cs,blk≠.cells w cs)→σ'[b]? = some blk
  fwd:∀(b:Nat) w cs,σ[b]? = some (.cells w cs)→∃w' cs',σ'[b]? = some (.cells w' cs')∧w≤w'∧cs'.length=cs.length∧∀(j:Nat) v1 x1,cs'[j]? = some (v1,x1)→cs[j]? = some (v1,x1)∨(w<v1∧v1≤w'∧GS σs x1)
  out:∀b,b∉ps.map PC.blk→σ'[b]? = σ[b]?
theorem pPCs_ok {σs:TH}:∀{ps:List PC} {σ σ':TH} {ds r:List Dat},pPCs σs ps σ ds=some (σ',r)→ClsOk σs ps σ σ':=by
  intro ps
  induction ps with
  | nil=>intro σ σ' ds r h; simp only [pPCs,Option.some.injEq,Prod.mk.injEq] at h; obtain ⟨rfl,_⟩:=h; exact ⟨rfl,fun b blk h _=>h,fun b w cs h=>⟨w,cs,h,Nat.le_refl _,rfl,fun j v1 x1 e=>.inl e⟩,fun b _=>rfl⟩
  | cons p ps ih =>
    intro σ σ' ds r h
    have skip:pPCs σs ps σ ds=some (σ',r)→ClsOk σs (p::ps) σ σ':=fun h=>by
      have e:=ih h
      exact ⟨e.len,e.same,e.fwd,fun b hb=>e.out b fun hm=>hb (List.mem_cons_of_mem _ hm)⟩
    cases p with
    | w b i=>exact skip (by simpa only [pPCs] using h)
    | m b j st=>exact skip (by simpa only [pPCs] using h)
    | h b j p =>
      simp only [pPCs] at h
      split at h
      · rename_i x r' w cs h1 h2
        have g:=pCP_gs h1
        have e:=ih h
        refine ⟨by rw [e.len]; simp,fun b' blk hb hn=>?_,fun b' w0 cs0 hb=>?_,fun b' hb=>?_⟩
        · refine e.same b' blk ?_ hn
          by_cases hbb:b'=b
          · subst hbb; rw [h2] at hb; simp only [Option.some.injEq] at hb; exact absurd hb.symm (hn w cs)
          · rw [zaF hbb]; exact hb
        · by_cases hbb:b'=b
          · subst hbb
            rw [h2] at hb
            simp only [Option.some.injEq,TB.cells.injEq] at hb
            obtain ⟨rfl,rfl⟩:=hb
            obtain ⟨w2,cs2,e1,e2,e3,e4⟩:=e.fwd b' _ _ (zaQ h2)
            refine ⟨w2,cs2,e1,by omega,by rw [e3]; simp,fun j' v1 x1 hj=>?_⟩
            rcases e4 j' v1 x1 hj with h5 | ⟨h5,h6,h7⟩
            · by_cases hjj:j=j'
              · subst hjj
                rw [List.getElem?_set] at h5
                rw [if_pos rfl] at h5
                split at h5
                · simp only [Option.some.injEq,Prod.mk.injEq] at h5
                  obtain ⟨rfl,rfl⟩:=h5
                  exact .inr ⟨by omega,by omega,g⟩
                · simp at h5
              · rw [List.getElem?_set_ne hjj] at h5
                exact .inl h5
            · exact .inr ⟨by omega,h6,h7⟩
          · exact e.fwd b' w0 cs0 (by rw [zaF hbb]; exact hb)
        · simp only [List.map_cons,List.mem_cons,not_or,PC.blk] at hb
          rw [e.out b' hb.2,zaF hb.1]
      · simp at h
def eD:TV→D
  | .c x=>x.er
  | .agg xs=>.agg (xs.map TC.er)
  | .tup _=>.tup []
def nT:TV→Prop
  | .tup _=>False
  | _=>True
def GVs (σs:TH):TV→Prop
  | .c x=>GS σs x
  | .agg xs=>∀x∈xs,GS σs x
  | .tup _=>False
theorem GS.fp (σs:TH) (i:Nat) (a:TT i):GS σs (.fp i a 0):=True.intro
theorem exp_gs (σs:TH) (i:Nat) (a:TT i):∀y∈exp i a,GS σs y:=by
  have key:∀(cs:List CC) (x:tup cs),∀y∈expT cs x,GS σs y:=by
    intro cs
    induction cs with
    | nil=>intro x y h; simp [expT] at h
    | cons c cs ih =>
      intro x y h
      simp only [expT,List.mem_cons] at h
      rcases h with rfl | h
      · exact expC_gs σs c x.1
      · exact ih x.2 y h
  exact key _ _
theorem pRO_gs {σs:TH} {p:RO} {ds r:List Dat} {v:TV} (h:pRO σs p ds=some (v,r)):GVs σs v:=by
  unfold pRO at h
  split at h
  · split at h
    · simp only [Option.some.injEq,Prod.mk.injEq] at h; obtain ⟨rfl,_⟩:=h; exact expC_gs σs _ _
    · simp at h
  · split at h
    · simp only [Option.some.injEq,Prod.mk.injEq] at h; obtain ⟨rfl,_⟩:=h; exact exp_gs σs _ _
    · simp at h
  · split at h
    · simp only [Option.some.injEq,Prod.mk.injEq] at h; obtain ⟨rfl,_⟩:=h; exact True.intro
    · simp at h
  · split at h
    · rename_i x r' h1; simp only [Option.some.injEq,Prod.mk.injEq] at h; obtain ⟨rfl,_⟩:=h; exact pCP_gs h1
    · simp at h
  · split at h
    · rename_i xs r' h1; simp only [Option.some.injEq,Prod.mk.injEq] at h; obtain ⟨rfl,_⟩:=h; exact pCPs_gs h1
    · simp at h
  · simp at h
theorem pROs_gs {σs:TH}:∀{ps:List RO} {ds r:List Dat} {vs:List TV},pROs σs ps ds=some (vs,r)→∀v∈vs,GVs σs v:=by
  intro ps
  induction ps with
  | nil=>intro ds r vs h; simp only [pROs,Option.some.injEq,Prod.mk.injEq] at h; obtain ⟨rfl,_⟩:=h; simp
  | cons p ps ih =>
    intro ds r vs h
    simp only [pROs] at h
    split at h
    · rename_i x d1 h1
      split at h
      · rename_i xs r' h2
        simp only [Option.some.injEq,Prod.mk.injEq] at h
        obtain ⟨rfl,_⟩:=h
        intro v hv
        rcases List.mem_cons.1 hv with rfl | hv
        · exact pRO_gs h1
        · exact ih h2 v hv
      · simp at h
    · simp at h
theorem GVs.gv {σs σ2:TH} (h:SR σs σ2) {v:TV} (g:GVs σs v):GV σ2 v:=by
  cases v with
  | c x=>exact GS.gc h g
  | agg xs=>exact fun x hx=>GS.gc h (g x hx)
  | tup xs=>exact g.elim
theorem GVs.nt {σs:TH} {v:TV} (g:GVs σs v):nT v:=by
  cases v with
  | tup xs=>exact g.elim
  | _=>trivial
theorem RT.eD {v:TV} (h:nT v):RT v (eD v):=by
  cases v with
  | c x=>exact .inr rfl
  | agg xs=>exact ⟨_,rfl,All2.er xs⟩
  | tup xs=>exact h.elim
theorem oneT_rt {vs:List TV} (h:∀v∈vs,nT v):RT (oneT vs) (one (vs.map Go.Abs.eD)):=by
  have tup:∀(vs:List TV),(∀v∈vs,nT v)→All2 RE (vs.map teT) (vs.map Go.Abs.eD):=by
    intro vs
    induction vs with
    | nil=>intro _; exact .nil
    | cons v vs ih =>
      intro h
      refine .cons ?_ (ih fun v hv=>h v (List.mem_cons_of_mem _ hv))
      have:=h v (List.mem_cons_self ..)
      cases v with
      | c x=>exact ⟨x,rfl,.inr rfl⟩
      | agg xs=>exact ⟨_,rfl,All2.er xs⟩
      | tup xs=>exact this.elim
  cases vs with
  | nil=>exact ⟨[],rfl,.nil⟩
  | cons v vs =>
    cases vs with
    | nil=>exact RT.eD (h v (List.mem_cons_self ..))
    | cons v2 vs=>exact ⟨_,rfl,tup _ h⟩
theorem oneT_gv {σ:TH} {vs:List TV} (h:∀v∈vs,GV σ v):GV σ (oneT vs):=by
  have tup:∀(vs:List TV),(∀v∈vs,GV σ v)→GV σ (.tup (vs.map teT)):=by
    intro vs h p hp x hx
    rw [List.mem_map] at hp
    obtain ⟨v,hv,rfl⟩:=hp
    have:=h v hv
    cases v with
    | c y=>simp only [teT,List.mem_cons,List.not_mem_nil,or_false] at hx; subst hx; exact this
    | agg ys=>exact this x hx
    | tup ys=>simp [teT] at hx
  cases vs with
  | nil=>exact tup _ h
  | cons v vs =>
    cases vs with
    | nil=>exact h v (List.mem_cons_self ..)
    | cons v2 vs=>exact tup _ h
theorem pRows_in:∀{ps:List PC} {σ σr:TH} {ds r:List Dat},pRows σ ps ds=some (σr,r)→∀p∈ps,(∃b i,p=.w b i)∨(∃b j st,p=.m b j st)→p.blk<σ.length:=by
  intro ps
  induction ps with
  | nil=>intro σ σr ds r h p hp; simp at hp
  | cons p ps ih =>
    intro σ σr ds r h q hq hw
    cases p with
    | h b j c =>
      simp only [pRows] at h
      rcases List.mem_cons.1 hq with rfl | hq
      · rcases hw with ⟨_,_,e⟩ | ⟨_,_,_,e⟩ <;> simp at e
      · exact ih h q hq hw
    | w b i =>
      cases ds with
      | nil=>simp [pRows] at h
      | cons d ds =>
        simp only [pRows] at h
        split at h
        · rename_i l j l0 lv cv h1 h2
          split at h
          · rcases List.mem_cons.1 hq with rfl | hq
            · exact (List.getElem?_eq_some_iff.1 h2).1
            · have:=ih h q hq hw; rwa [List.length_set] at this
          · simp at h
        · simp at h
    | m b j st =>
      cases ds with
      | nil=>simp [pRows] at h
      | cons d ds =>
        simp only [pRows] at h
        split at h
        · rename_i l j0 st0 l0 v h1 h2
          rcases List.mem_cons.1 hq with rfl | hq
          · exact (List.getElem?_eq_some_iff.1 h2).1
          · have:=ih h q hq hw; rwa [List.length_set] at this
        · simp at h
theorem pPCs_in {σs:TH}:∀{ps:List PC} {σ σ':TH} {ds r:List Dat},pPCs σs ps σ ds=some (σ',r)→∀b j p,PC.h b j p∈ps→b<σ.length:=by
  intro ps
  induction ps with
  | nil=>intro σ σ' ds r h b j p hp; simp at hp
  | cons q ps ih =>
    intro σ σ' ds r h b j p hp
    cases q with
    | w b' i=>simp only [pPCs] at h; rcases List.mem_cons.1 hp with e | hp; simp at e; exact ih h b j p hp
    | m b' j' st=>simp only [pPCs] at h; rcases List.mem_cons.1 hp with e | hp; simp at e; exact ih h b j p hp
    | h b' j' p' =>
      simp only [pPCs] at h
      split at h
      · rename_i x r' w cs h1 h2
        rcases List.mem_cons.1 hp with e | hp
        · simp only [PC.h.injEq] at e; obtain ⟨rfl,_⟩:=e; exact (List.getElem?_eq_some_iff.1 h2).1
        · have:=ih h b j p hp; rwa [List.length_set] at this
      · simp at h
structure Laid (ct:CT) (σ:TH) (ds:List Dat) (rv:List TV) (F:TH) where
  σr:TH
  d1:List Dat
  nb:TH
  d2:List Dat
  d3:List Dat
  σ2:TH
  d4:List Dat
  l:TH
  h1:pRows σ ct.pl ds=some (σr,d1)
  h2:pNew ct.nb d1=some (nb,d2)
  h3:pROs (σr++nb) ct.out d2=some (rv,d3)
  h4:pPCs (σr++nb) ct.pl σr d3=some (σ2,d4)
  h5:pNBs (σr++nb) ct.nb nb d4=some l
  e:F=σ2++l
theorem putI_laid {ct:CT} {σ F:TH} {x:tupI ct.items} {rv:List TV} (h:putI ct σ x=some (rv,F)):Nonempty (Laid ct σ (ofTup ct.items x) rv F):=by
  unfold putI at h
  split at h
  · simp at h
  · rename_i σr d1 h1
    split at h
    · simp at h
    · rename_i nb d2 h2
      split at h
      · simp at h
      · rename_i vs d3 h3
        split at h
        · simp at h
        · rename_i σ2 d4 h4
          split at h
          · rename_i l h5
            simp only [Option.some.injEq,Prod.mk.injEq] at h
            obtain ⟨rfl,rfl⟩:=h
            exact ⟨⟨σr,d1,nb,d2,d3,σ2,d4,l,h1,h2,h3,h4,h5,rfl⟩⟩
          · simp at h
section
variable {ct:CT} {σ F:TH} {σD:Heap} {ds:List Dat} {rv:List TV}
theorem Laid.fl (L:Laid ct σ ds rv F):F.length=L.σ2.length+L.l.length:=by have:=congrArg List.length L.e; rwa [List.length_append] at this
theorem Laid.fa (L:Laid ct σ ds rv F) (b:Nat):F[b]? = (L.σ2++L.l)[b]?:=congrArg (fun l=>l[b]?) L.e
theorem Laid.sr (L:Laid ct σ ds rv F):SR (L.σr++L.nb) F:=by
  have C:=pPCs_ok L.h4
  obtain ⟨n1,n2,n3⟩:=pNBs_ok L.h5
  refine ⟨by rw [L.fl,List.length_append,C.len,n1,pNew_len L.h2],fun b i l lv cv hb=>?_⟩
  rw [L.fa]
  rcases Nat.lt_or_ge b L.σr.length with hlt | hge
  · rw [List.getElem?_append_left hlt] at hb
    rw [List.getElem?_append_left (by rw [C.len]; exact hlt)]
    exact C.same b _ hb (fun w cs e=>by simp at e)
  · rw [List.getElem?_append_right hge] at hb
    rw [List.getElem?_append_right (by rw [C.len]; exact hge),C.len]
    refine n2 _ i l lv cv hb (by rw [←pNew_len L.h2]; exact (List.getElem?_eq_some_iff.1 hb).1) fun ps e=>?_
    rw [(pNew_cells L.h2 _).2 ps e] at hb
    simp at hb
theorem Laid.lt (L:Laid ct σ ds rv F) (H:RH σ σD) {b:Nat} (h:b<σ.length):F[b]? = L.σ2[b]?:=by
  have C:=pPCs_ok L.h4
  have Ro:=pRows_ok L.h1 H
  rw [L.fa,List.getElem?_append_left (by rw [C.len,Ro.len]; exact h)]
theorem Laid.ext (L:Laid ct σ ds rv F) (H:RH σ σD):Ext σ F:=by
  have C:=pPCs_ok L.h4
  have Ro:=pRows_ok L.h1 H
  obtain ⟨σD',Hr⟩:=Ro.rh
  refine Ext.trans H Ro.ext fun b blk hb=>?_
  have hlt:b<σ.length:=by rw [←Ro.len]; exact (List.getElem?_eq_some_iff.1 hb).1
  rw [L.lt H hlt]
  have other:(∀w cs,blk≠.cells w cs)→∃blk1,L.σ2[b]? = some blk1∧BE blk blk1:=fun hn=>⟨blk,C.same b blk hb hn,BE.refl blk⟩
  cases blk with
  | cells w cs =>
    obtain ⟨w',cs',e1,e2,e3,e4⟩:=C.fwd b w cs hb
    refine ⟨_,e1,w',cs',rfl,e2,e3,fun j v x v1 x1 h h1=>?_⟩
    rcases e4 j v1 x1 h1 with h5 | h5
    · rw [h] at h5; simp only [Option.some.injEq,Prod.mk.injEq] at h5; exact .inl ⟨h5.1.symm,h5.2.symm⟩
    · exact .inr h5.1
  | row i l lv cv=>exact other fun w cs e=>by simp at e
  | mp j st l v=>exact other fun w cs e=>by simp at e
theorem Laid.rh (L:Laid ct σ ds rv F) (H:RH σ σD):RH F (F.map TB.er):=by
  have C:=pPCs_ok L.h4
  have Ro:=pRows_ok L.h1 H
  have S:=L.sr
  obtain ⟨σD',Hr⟩:=Ro.rh
  obtain ⟨n1,n2,n3⟩:=pNBs_ok L.h5
  have er:Ext L.σr F:=fun b blk hb=>by
    have hlt:b<σ.length:=by rw [←Ro.len]; exact (List.getElem?_eq_some_iff.1 hb).1
    rw [L.lt H hlt]
    have other:(∀w cs,blk≠.cells w cs)→∃blk1,L.σ2[b]? = some blk1∧BE blk blk1:=fun hn=>⟨blk,C.same b blk hb hn,BE.refl blk⟩
    cases blk with
    | cells w cs =>
      obtain ⟨w',cs',e1,e2,e3,e4⟩:=C.fwd b w cs hb
      refine ⟨_,e1,w',cs',rfl,e2,e3,fun j v x v1 x1 h h1=>?_⟩
      rcases e4 j v1 x1 h1 with h5 | h5
      · rw [h] at h5; simp only [Option.some.injEq,Prod.mk.injEq] at h5; exact .inl ⟨h5.1.symm,h5.2.symm⟩
      · exact .inr h5.1
    | row i l lv cv=>exact other fun w cs e=>by simp at e
    | mp j st l v=>exact other fun w cs e=>by simp at e
  refine RH.mk' fun b w cs hb p hp=>?_
  rcases Nat.lt_or_ge b σ.length with hlt | hge
  · rw [L.lt H hlt] at hb
    have hr:=List.getElem?_eq_getElem (show b<L.σr.length by rw [Ro.len]; exact hlt)
    cases hblk:L.σr[b]'(by rw [Ro.len]; exact hlt) with
    | row i l lv cv=>rw [hblk] at hr; rw [C.same b _ hr (fun w cs e=>by simp at e)] at hb; simp at hb
    | mp j st l v=>rw [hblk] at hr; rw [C.same b _ hr (fun w cs e=>by simp at e)] at hb; simp at hb
    | cells w0 cs0 =>
      rw [hblk] at hr
      obtain ⟨w',cs',e1,e2,e3,e4⟩:=C.fwd b w0 cs0 hr
      rw [hb] at e1
      simp only [Option.some.injEq,TB.cells.injEq] at e1
      obtain ⟨rfl,rfl⟩:=e1
      obtain ⟨j,hj⟩:=List.getElem?_of_mem hp
      obtain ⟨v1,x1⟩:=p
      rcases e4 j v1 x1 hj with h5 | ⟨h5,h6,h7⟩
      · obtain ⟨h8,h9⟩:=Hr.hg b w0 cs0 hr _ (List.mem_of_getElem? h5)
        exact ⟨h8.mono er,Nat.le_trans h9 e2⟩
      · exact ⟨GS.gc S h7,h6⟩
  · have hlen:L.σ2.length=σ.length:=by rw [C.len,Ro.len]
    rw [L.fa,List.getElem?_append_right (by rw [hlen]; exact hge)] at hb
    rcases n3 _ w cs hb with ⟨w',cs',h1,rfl,rfl⟩ | h1
    · rw [(pNew_cells L.h2 _).1 w cs h1] at hp; simp at hp
    · exact ⟨GS.gc S (h1 p hp).1,(h1 p hp).2⟩
theorem Laid.out (L:Laid ct σ ds rv F) (H:RH σ σD) {b:Nat} (hb:b<σ.length) (hn:b∉ct.pl.map PC.blk):F[b]? = σ[b]?:=by
  rw [L.lt H hb,(pPCs_ok L.h4).out b hn,(pRows_ok L.h1 H).out b hn]
theorem Laid.szs (L:Laid ct σ ds rv F) (H:RH σ σD) (hr:ct.pl.any PC.rs=false) {b:Nat} (hb:b<σ.length):∃x y,σ[b]? = some x∧F[b]? = some y∧x.er.sz=y.er.sz:=by
  have C:=pPCs_ok L.h4
  have Ro:=pRows_ok L.h1 H
  have hx:=List.getElem?_eq_getElem hb
  cases hblk:σ[b] with
  | cells w cs =>
    rw [hblk] at hx
    obtain ⟨w',cs',e1,e2,e3,e4⟩:=C.fwd b w cs ((Ro.cells b w cs).1 hx)
    exact ⟨_,_,hx,by rw [L.lt H hb]; exact e1,by simp [TB.er,Ob.sz,e3]⟩
  | row i l lv cv =>
    rw [hblk] at hx
    exact ⟨_,_,hx,by rw [L.lt H hb]; exact C.same b _ (Ro.row hr b i l lv cv hx) (fun w cs e=>by simp at e),rfl⟩
  | mp j st l v =>
    rw [hblk] at hx
    obtain ⟨blk1,h1,j1,st1,l1,v1,rfl,_⟩:=L.ext H b _ hx
    exact ⟨_,_,hx,h1,rfl⟩
theorem Laid.all (L:Laid ct σ ds rv F) (H:RH σ σD):RH F (F.map TB.er)∧RT (oneT rv) (one (rv.map eD))∧GV F (oneT rv)∧Ext σ F∧(∀b,b<σD.length→b∉ct.pl.map PC.blk→(F.map TB.er)[b]? = σD[b]?)∧(ct.pl.any PC.rs=false→wrOk σD (F.map TB.er) (ct.pl.map PC.blk)=true):=by
  have g:=pROs_gs L.h3
  refine ⟨L.rh H,oneT_rt fun v hv=>(g v hv).nt,oneT_gv fun v hv=>(g v hv).gv L.sr,L.ext H,fun b hb hn=>?_,fun hr=>?_⟩
  · rw [H.eqD,List.getElem?_map,List.getElem?_map,L.out H (by rw [←H.len]; exact hb) hn]
  · rw [H.eqD,wrOk,List.all_eq_true]
    intro b hb
    rw [List.mem_map] at hb
    obtain ⟨p,hp,rfl⟩:=hb
    have hlt:p.blk<σ.length:=by
      cases p with
      | w b i=>exact pRows_in L.h1 _ hp (.inl ⟨b,i,rfl⟩)
      | m b j st=>exact pRows_in L.h1 _ hp (.inr ⟨b,j,st,rfl⟩)
      | h b j c=>have:=pPCs_in L.h4 b j c hp; rwa [(pRows_ok L.h1 H).len] at this
    obtain ⟨x,y,h1,h2,h3⟩:=L.szs H hr hlt
    rw [List.getElem?_map,List.getElem?_map,h1,h2]
    simp only [Option.map_some,h3,beq_self_eq_true]
end
end
end Go.Abs
end
section
namespace Go.Abs
noncomputable section
variable [Gl] [Y:Ty]
structure Mo (s s':MS):Prop where
  rho:∀b o,rhoK b s.ρ=some o→rhoK b s'.ρ=some o
  fz:∀b,b∈s.fz→b∈s'.fz
theorem Mo.refl (s:MS):Mo s s:=⟨fun _ _ h=>h,fun _ h=>h⟩
theorem Mo.trans {a b c:MS} (h:Mo a b) (h':Mo b c):Mo a c:=⟨fun x o e=>h'.rho x o (h.rho x o e),fun x e=>h'.fz x (h.fz x e)⟩
structure MI (m:Nat) (σ1:TH) (s:MS):Prop where
  ge:∀p∈s.ρ,m≤p.1∧m≤p.2
  fz:∀b∈s.fz,∃(i:Nat) (l:List (TT i)) (lv cv:Nat),σ1[b]? = some (.row i l lv cv)
def Bd (m:Nat) (s:MS) (b b':Nat):Prop:=(b<m∧b'=b)∨(m≤b∧rhoK b s.ρ=some b')
theorem Bd.mono {m:Nat} {s s':MS} {b b':Nat} (h:Mo s s'):Bd m s b b'→Bd m s' b b'
  | .inl a=>.inl a
  | .inr a=>.inr ⟨a.1,h.rho _ _ a.2⟩
def CM (m:Nat) (σ1 σs:TH) (s:MS) (x y:TC):Prop:=
  (DLe x.er y.er∧y.er.low 0=true∧(x=.d (.c (.lit (.slice none 0 0)))∨x.er=y.er)) ∨
  (∃(i b v:Nat) (l:List (TT i)) (cv:Nat),x=.own i b v l.length∧b∈s.fz∧σ1[b]? = some (.row i l v cv)∧y.er=.c (.frz false (l.map (enc i)))) ∨
  (∃(i b b' v:Nat) (l0:List (TT i)) (cv0 j lv:Nat) (l:List (TT j)) (cv:Nat),x=.own i b' v l0.length∧Bd m s b b'∧σ1[b']? = some (.row i l0 v cv0)∧y=.own j b lv l.length∧σs[b]? = some (.row j l lv cv)) ∨
  (∃b b' off sz,x=.d (.ptr b' off sz)∧Bd m s b b'∧y=.d (.ptr b off sz)∧b<σs.length) ∨
  (∃b b',x=.d (.mp b')∧Bd m s b b'∧y=.d (.mp b)∧b<σs.length)
variable {m:Nat} {σ σ1 σs:TH} {s s':MS}
theorem CM.mono (h:Mo s s') {x y:TC} (c:CM m σ1 σs s x y):CM m σ1 σs s' x y:=by
  rcases c with c | ⟨i,b,v,l,cv,h1,h2,h3,h4⟩ | ⟨i,b,b',v,l0,cv0,j,lv,l,cv,h1,h2,h3,h4,h5⟩ | ⟨b,b',off,sz,h1,h2,h3,h4⟩ | ⟨b,b',h1,h2,h3,h4⟩
  · exact .inl c
  · exact .inr (.inl ⟨i,b,v,l,cv,h1,h.fz _ h2,h3,h4⟩)
  · exact .inr (.inr (.inl ⟨i,b,b',v,l0,cv0,j,lv,l,cv,h1,h2.mono h,h3,h4,h5⟩))
  · exact .inr (.inr (.inr (.inl ⟨b,b',off,sz,h1,h2.mono h,h3,h4⟩)))
  · exact .inr (.inr (.inr (.inr ⟨b,b',h1,h2.mono h,h3,h4⟩)))
theorem All2.mono {α β:Type} {R R':α→β→Prop} (h:∀a b,R a b→R' a b) {l:List α} {l':List β} (a:All2 R l l'):All2 R' l l':=by
  induction a with
  | nil=>exact .nil
  | cons x _ ih=>exact .cons (h _ _ x) ih
theorem CM.data {c:CC} {x:TC} {a:c.dn} (h:rdC c x=some a):CM m σ1 σs s x (expC c a):=by
  have h1:=rdC_ok h
  refine .inl ⟨?_,by rw [expC_er]; rfl,by rw [expC_er]; exact rdC_ex h⟩
  rw [expC_er,←h1.2]
  intro σ M Fz w v hv
  exact nrm1xok hv
theorem frT_cm {c:CC} {x:TC} {a:c.dn} (h:rdC c (frT σ1 x)=some a) (g:GC σ1 x):(∀b∈ownsT [x],∃(i:Nat) (l:List (TT i)) (lv cv:Nat),σ1[b]? = some (.row i l lv cv))∧∀m σs s,(∀b∈ownsT [x],b∈s.fz)→CM m σ1 σs s x (expC c a):=by
  cases x with
  | own i b v n =>
    simp only [frT] at h
    split at h
    · rename_i j l lv cv hb
      split at h
      · rename_i he
        have:=Nat.eq_of_beq_eq_true he
        subst this
        obtain ⟨blk,h1,h2⟩:=g
        rw [hb] at h1
        simp only [Option.some.injEq] at h1
        obtain ⟨_,h3⟩:=h2 _ _ _ _ h1.symm
        obtain ⟨rfl,rfl⟩:=h3 rfl
        refine ⟨fun b' hb'=>?_,fun m σs s hs=>.inr (.inl ⟨j,b,lv,l,cv,rfl,hs b (by simp [ownsT]),hb,?_⟩)⟩
        · simp only [ownsT,List.mem_cons,List.not_mem_nil,or_false] at hb'
          subst hb'
          exact ⟨j,l,lv,cv,hb⟩
        · have h4:=rdC_ok h
          rw [expC_er,←h4.2]
          rfl
      · simp [rdC] at h
    · simp [rdC] at h
  | _=>exact ⟨by simp [ownsT],fun m σs s _=>CM.data h⟩
theorem eqK_eq {d d':D} (h:eqK d d'=true):d=d':=by
  unfold eqK at h
  split at h
  · rfl
  · rfl
  · rfl
  · rfl
  · rw [Nat.eq_of_beq_eq_true h]
  · simp only [Bool.and_eq_true,decide_eq_true_eq] at h
    rw [h.1,h.2]
  · simp at h
theorem bindR_ok {b b':Nat} (h:bindR m b b' s=some s'):Mo s s'∧s'.rw=s.rw∧s'.cl=s.cl∧Bd m s' b b'∧(MI m σ1 s→MI m σ1 s'):=by
  unfold bindR at h
  split at h
  · rename_i hlt
    split at h
    · rename_i he
      simp only [Option.some.injEq] at h
      subst h
      exact ⟨Mo.refl s,rfl,rfl,.inl ⟨Nat.blt_eq.mp hlt,(Nat.eq_of_beq_eq_true he).symm⟩,id⟩
    · simp at h
  · rename_i hlt
    have hge:m≤b:=by
      rcases Nat.lt_or_ge b m with h' | h'
      · rw [Nat.blt_eq.mpr h'] at hlt; simp at hlt
      · exact h'
    split at h
    · rename_i o ho
      split at h
      · rename_i he
        simp only [Option.some.injEq] at h
        subst h
        have:=Nat.eq_of_beq_eq_true he
        subst this
        exact ⟨Mo.refl s,rfl,rfl,.inr ⟨hge,ho⟩,id⟩
      · simp at h
    · rename_i ho
      split at h
      · rename_i hle
        simp only [Option.some.injEq] at h
        subst h
        refine ⟨⟨fun q o hq=>?_,fun _ h=>h⟩,rfl,rfl,.inr ⟨hge,?_⟩,fun I=>⟨fun p hp=>?_,I.fz⟩⟩
        · simp only [rhoK]
          split
          · rename_i hb
            have:=Nat.eq_of_beq_eq_true hb
            subst this
            rw [ho] at hq
            simp at hq
          · exact hq
        · simp only [rhoK,Nat.beq_refl]
        · rcases List.mem_cons.1 hp with rfl | hp
          · exact ⟨hge,Nat.le_of_ble_eq_true hle⟩
          · exact I.ge p hp
      · simp at h
theorem mCP_ok {p:CP} {x:TC} (h:mCP m σ1 p x s=some s') (g:GC σ1 x):∃Lc,s'.cl=s.cl++Lc∧s'.rw=s.rw∧Mo s s'∧(MI m σ1 s→MI m σ1 s')∧∀σs rest y r,pCP σs p (Lc++rest)=some (y,r)→r=rest∧CM m σ1 σs s' x y:=by
  unfold mCP at h
  split at h
  · rename_i c i b v n
    split at h
    · rename_i a ha
      simp only [Option.some.injEq] at h
      subst h
      obtain ⟨h1,h2⟩:=frT_cm ha g
      refine ⟨_,rfl,rfl,⟨fun _ _ h=>h,fun _ h=>List.mem_cons_of_mem _ h⟩,fun I=>⟨I.ge,fun b' hb'=>?_⟩,fun σs rest y r hy=>?_⟩
      · rcases List.mem_cons.1 hb' with rfl | hb'
        · exact h1 _ (by simp [ownsT])
        · exact I.fz b' hb'
      · simp only [List.singleton_append,pCP,zbo,Option.some.injEq,Prod.mk.injEq] at hy
        obtain ⟨rfl,rfl⟩:=hy
        exact ⟨rfl,h2 m σs _ (by simp [ownsT])⟩
    · simp at h
  · rename_i c x hx
    split at h
    · rename_i a ha
      simp only [Option.some.injEq] at h
      subst h
      refine ⟨_,rfl,rfl,⟨fun _ _ h=>h,fun _ h=>h⟩,fun I=>⟨I.ge,I.fz⟩,fun σs rest y r hy=>?_⟩
      simp only [List.singleton_append,pCP,zbo,Option.some.injEq,Prod.mk.injEq] at hy
      obtain ⟨rfl,rfl⟩:=hy
      exact ⟨rfl,CM.data ha⟩
    · simp at h
  · rename_i u v
    simp only [Option.some.injEq] at h
    subst h
    refine ⟨_,rfl,rfl,⟨fun _ _ h=>h,fun _ h=>h⟩,fun I=>⟨I.ge,I.fz⟩,fun σs rest y r hy=>?_⟩
    simp only [List.singleton_append,pCP,zbo,Option.some.injEq,Prod.mk.injEq] at hy
    obtain ⟨rfl,rfl⟩:=hy
    exact ⟨rfl,.inl ⟨fun _ _ _ _ _ h=>h,rfl,.inr rfl⟩⟩
  · rename_i b i b' v n
    split at h
    · rename_i j l lv cv hb
      split at h
      · rename_i he
        have:=Nat.eq_of_beq_eq_true he
        subst this
        obtain ⟨blk,h1,h2⟩:=g
        rw [hb] at h1
        simp only [Option.some.injEq] at h1
        obtain ⟨_,h3⟩:=h2 _ _ _ _ h1.symm
        obtain ⟨rfl,rfl⟩:=h3 rfl
        obtain ⟨q1,q2,q3,q4,q5⟩:=bindR_ok (σ1:=σ1) h
        refine ⟨[],by rw [q3,List.append_nil],q2,q1,q5,fun σs rest y r hy=>?_⟩
        simp only [List.nil_append,pCP] at hy
        split at hy
        · rename_i i' l' lv' cv' hs
          simp only [Option.some.injEq,Prod.mk.injEq] at hy
          obtain ⟨rfl,rfl⟩:=hy
          exact ⟨rfl,.inr (.inr (.inl ⟨_,b,b',_,l,cv,i',lv',l',cv',rfl,q4,hb,rfl,hs⟩))⟩
        · simp at hy
      · simp at h
    · simp at h
  · rename_i b off sz b' off' sz'
    split at h
    · rename_i he
      simp only [Bool.and_eq_true] at he
      have e1:=Nat.eq_of_beq_eq_true he.1
      have e2:=Nat.eq_of_beq_eq_true he.2
      subst e1 e2
      obtain ⟨q1,q2,q3,q4,q5⟩:=bindR_ok (σ1:=σ1) h
      refine ⟨[],by rw [q3,List.append_nil],q2,q1,q5,fun σs rest y r hy=>?_⟩
      simp only [List.nil_append,pCP] at hy
      split at hy
      · rename_i hb
        simp only [Option.some.injEq,Prod.mk.injEq] at hy
        obtain ⟨rfl,rfl⟩:=hy
        exact ⟨rfl,.inr (.inr (.inr (.inl ⟨b,b',off,sz,rfl,q4,rfl,Nat.blt_eq.mp hb⟩)))⟩
      · simp at hy
    · simp at h
  · rename_i b b'
    obtain ⟨q1,q2,q3,q4,q5⟩:=bindR_ok (σ1:=σ1) h
    refine ⟨[],by rw [q3,List.append_nil],q2,q1,q5,fun σs rest y r hy=>?_⟩
    simp only [List.nil_append,pCP] at hy
    split at hy
    · rename_i hb
      simp only [Option.some.injEq,Prod.mk.injEq] at hy
      obtain ⟨rfl,rfl⟩:=hy
      exact ⟨rfl,.inr (.inr (.inr (.inr ⟨b,b',rfl,q4,rfl,Nat.blt_eq.mp hb⟩)))⟩
    · simp at hy
  · rename_i d d'
    split at h
    · rename_i he
      have:=eqK_eq he
      subst this
      simp only [Option.some.injEq] at h
      subst h
      refine ⟨[],by rw [List.append_nil],rfl,Mo.refl s,id,fun σs rest y r hy=>?_⟩
      simp only [List.nil_append,pCP] at hy
      split at hy
      · rename_i hb
        simp only [Option.some.injEq,Prod.mk.injEq] at hy
        obtain ⟨rfl,rfl⟩:=hy
        exact ⟨rfl,.inl ⟨fun _ _ _ _ _ h=>h,hb,.inr rfl⟩⟩
      · simp at hy
    · simp at h
  · simp at h
theorem mCPs_ok:∀{ps:List CP} {xs:List TC} {s s':MS},mCPs m σ1 ps xs s=some s'→(∀x∈xs,GC σ1 x)→∃Lc,s'.cl=s.cl++Lc∧s'.rw=s.rw∧Mo s s'∧(MI m σ1 s→MI m σ1 s')∧∀σs rest ys r,pCPs σs ps (Lc++rest)=some (ys,r)→r=rest∧All2 (CM m σ1 σs s') xs ys:=by
  intro ps
  induction ps with
  | nil =>
    intro xs s s' h g
    cases xs with
    | nil =>
      simp only [mCPs,Option.some.injEq] at h
      subst h
      refine ⟨[],by simp,rfl,Mo.refl s,id,fun σs rest ys r hy=>?_⟩
      simp only [List.nil_append,pCPs,Option.some.injEq,Prod.mk.injEq] at hy
      obtain ⟨rfl,rfl⟩:=hy
      exact ⟨rfl,.nil⟩
    | cons x xs=>simp [mCPs] at h
  | cons p ps ih =>
    intro xs s s' h g
    cases xs with
    | nil=>simp [mCPs] at h
    | cons x xs =>
      simp only [mCPs] at h
      split at h
      · rename_i s1 h1
        obtain ⟨L1,a1,a2,a3,a4,a5⟩:=mCP_ok h1 (g x (List.mem_cons_self ..))
        obtain ⟨L2,b1,b2,b3,b4,b5⟩:=ih h fun y hy=>g y (List.mem_cons_of_mem _ hy)
        refine ⟨L1++L2,by rw [b1,a1,List.append_assoc],by rw [b2,a2],a3.trans b3,fun I=>b4 (a4 I),fun σs rest ys r hy=>?_⟩
        rw [List.append_assoc] at hy
        simp only [pCPs] at hy
        split at hy
        · rename_i y d1 h2
          obtain ⟨rfl,c1⟩:=a5 σs _ y d1 h2
          split at hy
          · rename_i ys' r' h3
            simp only [Option.some.injEq,Prod.mk.injEq] at hy
            obtain ⟨rfl,rfl⟩:=hy
            obtain ⟨e,c2⟩:=b5 σs _ _ _ h3
            exact ⟨e,.cons (c1.mono b3) c2⟩
          · simp at hy
        · simp at hy
      · simp at h
def VM (m:Nat) (σ1 σs:TH) (s:MS):TV→TV→Prop
  | .c x,.c y=>CM m σ1 σs s x y
  | .agg xs,.agg ys=>All2 (CM m σ1 σs s) xs ys
  | _,_=>False
theorem VM.mono (h:Mo s s') {x y:TV} (c:VM m σ1 σs s x y):VM m σ1 σs s' x y:=by
  cases x with
  | c x => cases y with
    | c y=>exact CM.mono h c
    | _=>exact c.elim
  | agg xs => cases y with
    | agg ys=>exact All2.mono (fun _ _=>CM.mono h) c
    | _=>exact c.elim
  | tup xs=>exact c.elim
theorem frTs_cm:∀{cs:List CC} {xs:List TC} {a:tup cs},rdT cs (xs.map (frT σ1))=some a→(∀x∈xs,GC σ1 x)→(∀b∈ownsT xs,∃(i:Nat) (l:List (TT i)) (lv cv:Nat),σ1[b]? = some (.row i l lv cv))∧∀m σs s,(∀b∈ownsT xs,b∈s.fz)→All2 (CM m σ1 σs s) xs (expT cs a):=by
  intro cs
  induction cs with
  | nil =>
    intro xs a h g
    cases xs with
    | nil=>exact ⟨by simp [ownsT],fun m σs s _=>.nil⟩
    | cons x xs=>simp [rdT] at h
  | cons c cs ih =>
    intro xs a h g
    cases xs with
    | nil=>simp [rdT] at h
    | cons x xs =>
      simp only [List.map_cons,rdT] at h
      split at h
      · rename_i a1 a2 h1 h2
        simp only [Option.some.injEq] at h
        subst h
        obtain ⟨e1,e2⟩:=frT_cm h1 (g x (List.mem_cons_self ..))
        obtain ⟨e3,e4⟩:=ih h2 fun y hy=>g y (List.mem_cons_of_mem _ hy)
        have hm:∀b,b∈ownsT (x::xs)↔b∈ownsT [x]∨b∈ownsT xs:=by
          intro b
          cases x <;> simp [ownsT]
        refine ⟨fun b hb=>?_,fun m σs s hs=>.cons (e2 m σs s fun b hb=>hs b ((hm b).2 (.inl hb))) (e4 m σs s fun b hb=>hs b ((hm b).2 (.inr hb)))⟩
        rcases (hm b).1 hb with hb | hb
        · exact e1 b hb
        · exact e3 b hb
      · simp at h
theorem mRO_ok {p:RO} {v:TV} (h:mRO m σ1 p v s=some s') (g:GV σ1 v):∃Lc,s'.cl=s.cl++Lc∧s'.rw=s.rw∧Mo s s'∧(MI m σ1 s→MI m σ1 s')∧∀σs rest y r,pRO σs p (Lc++rest)=some (y,r)→r=rest∧VM m σ1 σs s' v y:=by
  unfold mRO at h
  split at h
  · rename_i c
    split at h
    · rename_i a ha
      simp only [Option.some.injEq] at h
      subst h
      cases v with
      | c x =>
        obtain ⟨h1,h2⟩:=frT_cm (c:=c) ha g
        refine ⟨_,rfl,rfl,⟨fun _ _ h=>h,fun _ h=>List.mem_append_right _ h⟩,fun I=>⟨I.ge,fun b hb=>?_⟩,fun σs rest y r hy=>?_⟩
        · rcases List.mem_append.1 hb with hb | hb
          · exact h1 b hb
          · exact I.fz b hb
        · simp only [List.singleton_append,pRO,zbo,Option.some.injEq,Prod.mk.injEq] at hy
          obtain ⟨rfl,rfl⟩:=hy
          exact ⟨rfl,h2 m σs _ fun b hb=>List.mem_append_left _ hb⟩
      | agg xs=>simp [frTV,rdV,rdCV] at ha
      | tup xs=>simp [frTV,rdV,rdCV] at ha
    · simp at h
  · rename_i i
    split at h
    · rename_i a ha
      simp only [Option.some.injEq] at h
      subst h
      cases v with
      | c x=>simp [frTV,rdV,rdSt] at ha
      | tup x=>simp [frTV,rdV,rdSt] at ha
      | agg xs =>
        simp only [frTV,rdV,rdSt] at ha
        split at ha
        · rename_i t ht
          simp only [Option.some.injEq] at ha
          subst ha
          obtain ⟨h1,h2⟩:=frTs_cm ht g
          refine ⟨_,rfl,rfl,⟨fun _ _ h=>h,fun _ h=>List.mem_append_right _ h⟩,fun I=>⟨I.ge,fun b hb=>?_⟩,fun σs rest y r hy=>?_⟩
          · rcases List.mem_append.1 hb with hb | hb
            · exact h1 b hb
            · exact I.fz b hb
          · simp only [List.singleton_append,pRO,zbo,Option.some.injEq,Prod.mk.injEq] at hy
            obtain ⟨rfl,rfl⟩:=hy
            refine ⟨rfl,?_⟩
            show All2 _ xs (expT _ _)
            rw [Y.pm]
            exact h2 m σs _ fun b hb=>List.mem_append_left _ hb
        · simp at ha
    · simp at h
  · rename_i i
    split at h
    · rename_i a ha
      simp only [Option.some.injEq] at h
      subst h
      refine ⟨_,rfl,rfl,⟨fun _ _ h=>h,fun _ h=>h⟩,fun I=>⟨I.ge,I.fz⟩,fun σs rest y r hy=>?_⟩
      simp only [List.singleton_append,pRO,zbo,Option.some.injEq,Prod.mk.injEq] at hy
      obtain ⟨rfl,rfl⟩:=hy
      refine ⟨rfl,?_⟩
      cases v with
      | c x =>
        cases x with
        | fp j b off =>
          simp only [frTV,frT,rdV] at ha
          unfold rdFp at ha
          split at ha
          · rename_i j' a' he
            simp only [TV.c.injEq,TC.fp.injEq] at he
            obtain ⟨rfl,h2,rfl⟩:=he
            cases h2
            split at ha
            · rename_i e _
              subst e
              simp only [Option.some.injEq] at ha
              subst ha
              exact .inl ⟨fun _ _ _ _ _ h=>h,rfl,.inr rfl⟩
            · simp at ha
          · simp at ha
        | own j b v n =>
          exfalso
          simp only [frTV,frT,rdV] at ha
          split at ha
          · split at ha <;> simp [rdFp] at ha
          · simp [rdFp] at ha
        | _=>simp [frTV,frT,rdV,rdFp] at ha
      | agg xs=>simp [frTV,rdV,rdFp] at ha
      | tup xs=>simp [frTV,rdV,rdFp] at ha
    · simp at h
  · rename_i p x
    obtain ⟨L,a1,a2,a3,a4,a5⟩:=mCP_ok h g
    refine ⟨L,a1,a2,a3,a4,fun σs rest y r hy=>?_⟩
    simp only [pRO] at hy
    split at hy
    · rename_i y' r' h1
      simp only [Option.some.injEq,Prod.mk.injEq] at hy
      obtain ⟨rfl,rfl⟩:=hy
      exact a5 σs rest _ _ h1
    · simp at hy
  · rename_i ps xs
    obtain ⟨L,a1,a2,a3,a4,a5⟩:=mCPs_ok h g
    refine ⟨L,a1,a2,a3,a4,fun σs rest y r hy=>?_⟩
    simp only [pRO] at hy
    split at hy
    · rename_i y' r' h1
      simp only [Option.some.injEq,Prod.mk.injEq] at hy
      obtain ⟨rfl,rfl⟩:=hy
      exact a5 σs rest _ _ h1
    · simp at hy
  · simp at h
theorem mROs_ok:∀{ps:List RO} {xs:List TV} {s s':MS},mROs m σ1 ps xs s=some s'→(∀x∈xs,GV σ1 x)→∃Lc,s'.cl=s.cl++Lc∧s'.rw=s.rw∧Mo s s'∧(MI m σ1 s→MI m σ1 s')∧∀σs rest ys r,pROs σs ps (Lc++rest)=some (ys,r)→r=rest∧All2 (VM m σ1 σs s') xs ys:=by
  intro ps
  induction ps with
  | nil =>
    intro xs s s' h g
    cases xs with
    | nil =>
      simp only [mROs,Option.some.injEq] at h
      subst h
      refine ⟨[],by simp,rfl,Mo.refl s,id,fun σs rest ys r hy=>?_⟩
      simp only [List.nil_append,pROs,Option.some.injEq,Prod.mk.injEq] at hy
      obtain ⟨rfl,rfl⟩:=hy
      exact ⟨rfl,.nil⟩
    | cons x xs=>simp [mROs] at h
  | cons p ps ih =>
    intro xs s s' h g
    cases xs with
    | nil=>simp [mROs] at h
    | cons x xs =>
      simp only [mROs] at h
      split at h
      · rename_i s1 h1
        obtain ⟨L1,a1,a2,a3,a4,a5⟩:=mRO_ok h1 (g x (List.mem_cons_self ..))
        obtain ⟨L2,b1,b2,b3,b4,b5⟩:=ih h fun y hy=>g y (List.mem_cons_of_mem _ hy)
        refine ⟨L1++L2,by rw [b1,a1,List.append_assoc],by rw [b2,a2],a3.trans b3,fun I=>b4 (a4 I),fun σs rest ys r hy=>?_⟩
        rw [List.append_assoc] at hy
        simp only [pROs] at hy
        split at hy
        · rename_i y d1 h2
          obtain ⟨rfl,c1⟩:=a5 σs _ y d1 h2
          split at hy
          · rename_i ys' r' h3
            simp only [Option.some.injEq,Prod.mk.injEq] at hy
            obtain ⟨rfl,rfl⟩:=hy
            obtain ⟨e,c2⟩:=b5 σs _ _ _ h3
            exact ⟨e,.cons (c1.mono b3) c2⟩
          · simp at hy
        · simp at hy
      · simp at h
end
end Go.Abs
end
section
namespace Go.Abs
noncomputable section
variable [Gl] [Y:Ty]
def RowEq (x y:TB):Prop:=(∃(i:Nat) (l:List (TT i)) (lv cv lv' cv':Nat),x=.row i l lv cv∧y=.row i l lv' cv')∨(∃(j:Nat) (st:Bool) (l:List (Int×TT j)) (v v':Nat),x=.mp j st l v∧y=.mp j st l v')
def PC.rw:PC→Bool
  | .h ..=>false
  | _=>true
variable {m:Nat} {σ σ1 σs:TH} {s s':MS}
theorem mPCs_ok (hg:∀(b:Nat) w cs,σ1[b]? = some (.cells w cs)→∀p∈cs,GC σ1 p.2):∀{ps:List PC} {s s':MS},mPCs m σ σ1 ps s=some s' →
    ∃ L Lc, s'.rw = s.rw ++ L ∧ s'.cl = s.cl ++ Lc ∧ Mo s s' ∧ (MI m σ1 s → MI m σ1 s') ∧ (∀ p ∈ ps, p.blk < m) ∧
      (∀σa rest σr r,pRows σa ps (L++rest)=some (σr,r)→r=rest∧∀b:Nat,((∀p∈ps,p.rw=true→p.blk≠b)∧σr[b]? = σa[b]?)∨∃x y,σ1[b]? = some x∧σr[b]? = some y∧RowEq x y) ∧
      (∀σs σa rest σ' r,pPCs σs ps σa (Lc++rest)=some (σ',r)→(∀(b:Nat) w cs w1 cs1,σa[b]? = some (.cells w cs)→σ1[b]? = some (.cells w1 cs1)→cs.length=cs1.length)→r=rest ∧
        (∀(b j:Nat) p,PC.h b j p∈ps→∃w cs w' cs' x y,σ1[b]? = some (.cells w cs)∧σ'[b]? = some (.cells w' cs')∧cs[j]? = some x∧cs'[j]? = some y∧CM m σ1 σs s' x.2 y.2) ∧
        (∀(b:Nat) w cs,σa[b]? = some (.cells w cs)→∃w' cs',σ'[b]? = some (.cells w' cs')∧∀j:Nat,(∀p,PC.h b j p∉ps)→cs'[j]? = cs[j]?)):=by
  intro ps
  induction ps with
  | nil =>
    intro s s' h
    simp only [mPCs,Option.some.injEq] at h
    subst h
    refine ⟨[],[],by simp,by simp,Mo.refl s,id,by simp,fun σa rest σr r h=>?_,fun σs σa rest σ' r h _=>?_⟩
    · simp only [List.nil_append,pRows,Option.some.injEq,Prod.mk.injEq] at h
      obtain ⟨rfl,rfl⟩:=h
      exact ⟨rfl,fun b=>.inl ⟨by simp,rfl⟩⟩
    · simp only [List.nil_append,pPCs,Option.some.injEq,Prod.mk.injEq] at h
      obtain ⟨rfl,rfl⟩:=h
      exact ⟨rfl,fun b j p hp=>by simp at hp,fun b w cs hb=>⟨w,cs,hb,fun j _=>rfl⟩⟩
  | cons p ps ih =>
    intro s s' h
    cases p with
    | h b j p =>
      simp only [mPCs] at h
      split at h
      · rename_i w1 cs1 hb hlt
        split at h
        · rename_i x hx
          split at h
          · rename_i s1 h1
            obtain ⟨L1,a1,a2,a3,a4,a5⟩:=mCP_ok h1 (hg b w1 cs1 hb x (List.mem_of_getElem? hx))
            obtain ⟨L,L2,b1,b2,b3,b4,b5,b6,b7⟩:=ih h
            refine ⟨L,L1++L2,by rw [b1,a2],by rw [b2,a1,List.append_assoc],a3.trans b3,fun I=>b4 (a4 I),fun q hq=>?_,fun σa rest σr r h=>?_,fun σs σa rest σ' r h hl=>?_⟩
            · rcases List.mem_cons.1 hq with rfl | hq
              · exact Nat.blt_eq.mp hlt
              · exact b5 q hq
            · simp only [pRows] at h
              obtain ⟨e,c1⟩:=b6 σa rest σr r h
              refine ⟨e,fun b'=>?_⟩
              rcases c1 b' with ⟨c1,c2⟩ | c1
              · refine .inl ⟨fun q hq hr=>?_,c2⟩
                rcases List.mem_cons.1 hq with rfl | hq
                · simp [PC.rw] at hr
                · exact c1 q hq hr
              · exact .inr c1
            · rw [List.append_assoc] at h
              simp only [pPCs] at h
              split at h
              · rename_i y r' w0 cs0 h2 h3
                obtain ⟨rfl,c1⟩:=a5 σs _ y r' h2
                have hlen:=hl b w0 cs0 w1 cs1 h3 hb
                obtain ⟨e,d1,d2⟩:=b7 σs _ rest σ' r h fun b' w cs w2 cs2 e1 e2=>by
                  by_cases hbb:b'=b
                  · subst hbb
                    rw [zaQ h3] at e1
                    simp only [Option.some.injEq,TB.cells.injEq] at e1
                    rw [hb] at e2
                    simp only [Option.some.injEq,TB.cells.injEq] at e2
                    rw [←e1.2,←e2.2,List.length_set,hlen]
                  · rw [zaF hbb] at e1
                    exact hl b' w cs w2 cs2 e1 e2
                refine ⟨e,fun b' j' p' hp=>?_,fun b' w cs e1=>?_⟩
                · by_cases hin:∃q,PC.h b' j' q∈ps
                  · obtain ⟨q,hq⟩:=hin
                    exact d1 b' j' q hq
                  · rcases List.mem_cons.1 hp with e1 | hp
                    · simp only [PC.h.injEq] at e1
                      obtain ⟨rfl,rfl,rfl⟩:=e1
                      obtain ⟨w',cs',e2,e3⟩:=d2 b' _ _ (zaQ h3)
                      refine ⟨w1,cs1,w',cs',x,(w0+1,y),hb,e2,hx,?_,c1.mono b3⟩
                      rw [e3 j' fun q hq=>hin ⟨q,hq⟩,List.getElem?_set_self (by rw [hlen]; exact (List.getElem?_eq_some_iff.1 hx).1)]
                    · exact absurd ⟨p',hp⟩ hin
                · by_cases hbb:b'=b
                  · subst hbb
                    rw [h3] at e1
                    simp only [Option.some.injEq,TB.cells.injEq] at e1
                    obtain ⟨rfl,rfl⟩:=e1
                    obtain ⟨w',cs',e2,e3⟩:=d2 b' _ _ (zaQ h3)
                    refine ⟨w',cs',e2,fun j' hj=>?_⟩
                    rw [e3 j' fun q hq=>hj q (List.mem_cons_of_mem _ hq)]
                    exact List.getElem?_set_ne fun e=>hj p (by rw [←e]; exact List.mem_cons_self ..)
                  · obtain ⟨w',cs',e2,e3⟩:=d2 b' w cs (by rw [zaF hbb]; exact e1)
                    exact ⟨w',cs',e2,fun j' hj=>e3 j' fun q hq=>hj q (List.mem_cons_of_mem _ hq)⟩
              · simp at h
          · simp at h
        · simp at h
      · simp at h
    | w b i =>
      simp only [mPCs] at h
      split at h
      · rename_i i0 l0 lv0 cv0 hb hlt
        split at h
        · rename_i a ha
          obtain ⟨e,rfl⟩:=zbT ha
          subst e
          obtain ⟨L,L2,b1,b2,b3,b4,b5,b6,b7⟩:=ih h
          refine ⟨_::L,L2,by rw [b1,List.append_assoc]; rfl,b2,⟨b3.rho,b3.fz⟩,fun I=>b4 ⟨I.ge,I.fz⟩,fun q hq=>?_,fun σa rest σr r h=>?_,fun σs σa rest σ' r h hl=>?_⟩
          · rcases List.mem_cons.1 hq with rfl | hq
            · exact Nat.blt_eq.mp hlt
            · exact b5 q hq
          · simp only [List.cons_append,pRows,zbo] at h
            split at h
            · rename_i l j l1 lv1 cv1 e0 e1
              simp only [Option.some.injEq] at e0
              subst e0
              split at h
              · obtain ⟨e,c1⟩:=b6 _ rest σr r h
                refine ⟨e,fun b'=>?_⟩
                rcases c1 b' with ⟨c1,c2⟩ | c1
                · by_cases hbb:b'=b
                  · subst hbb
                    rw [zaQ e1] at c2
                    exact .inr ⟨_,_,hb,c2,.inl ⟨_,_,_,_,_,_,rfl,rfl⟩⟩
                  · rw [zaF hbb] at c2
                    refine .inl ⟨fun q hq hr=>?_,c2⟩
                    rcases List.mem_cons.1 hq with rfl | hq
                    · exact fun e=>hbb e.symm
                    · exact c1 q hq hr
                · exact .inr c1
              · simp at h
            · simp at h
          · simp only [pPCs] at h
            obtain ⟨e,d1,d2⟩:=b7 σs σa rest σ' r h hl
            refine ⟨e,fun b' j' p' hp=>?_,fun b' w cs e1=>?_⟩
            · rcases List.mem_cons.1 hp with e1 | hp
              · simp at e1
              · exact d1 b' j' p' hp
            · obtain ⟨w',cs',e2,e3⟩:=d2 b' w cs e1
              exact ⟨w',cs',e2,fun j' hj=>e3 j' fun q hq=>hj q (List.mem_cons_of_mem _ hq)⟩
        · simp at h
      · simp at h
    | m b i st =>
      simp only [mPCs] at h
      split at h
      · rename_i i0 st0 l0 v0 hb hlt
        split at h
        · rename_i a hst ha
          obtain ⟨e,rfl⟩:=castM_some ha
          subst e
          have:st=st0:=eq_of_beq hst
          subst this
          obtain ⟨L,L2,b1,b2,b3,b4,b5,b6,b7⟩:=ih h
          refine ⟨_::L,L2,by rw [b1,List.append_assoc]; rfl,b2,⟨b3.rho,b3.fz⟩,fun I=>b4 ⟨I.ge,I.fz⟩,fun q hq=>?_,fun σa rest σr r h=>?_,fun σs σa rest σ' r h hl=>?_⟩
          · rcases List.mem_cons.1 hq with rfl | hq
            · exact Nat.blt_eq.mp hlt
            · exact b5 q hq
          · simp only [List.cons_append,pRows,zbo] at h
            split at h
            · rename_i l j0 st1 l1 v1 e0 e1
              simp only [Option.some.injEq] at e0
              subst e0
              obtain ⟨e,c1⟩:=b6 _ rest σr r h
              refine ⟨e,fun b'=>?_⟩
              rcases c1 b' with ⟨c1,c2⟩ | c1
              · by_cases hbb:b'=b
                · subst hbb
                  rw [zaQ e1] at c2
                  exact .inr ⟨_,_,hb,c2,.inr ⟨_,_,_,_,_,rfl,rfl⟩⟩
                · rw [zaF hbb] at c2
                  refine .inl ⟨fun q hq hr=>?_,c2⟩
                  rcases List.mem_cons.1 hq with rfl | hq
                  · exact fun e=>hbb e.symm
                  · exact c1 q hq hr
              · exact .inr c1
            · simp at h
          · simp only [pPCs] at h
            obtain ⟨e,d1,d2⟩:=b7 σs σa rest σ' r h hl
            refine ⟨e,fun b' j' p' hp=>?_,fun b' w cs e1=>?_⟩
            · rcases List.mem_cons.1 hp with e1 | hp
              · simp at e1
              · exact d1 b' j' p' hp
            · obtain ⟨w',cs',e2,e3⟩:=d2 b' w cs e1
              exact ⟨w',cs',e2,fun j' hj=>e3 j' fun q hq=>hj q (List.mem_cons_of_mem _ hq)⟩
        · simp at h
      · simp at h
theorem mNBs_ok (hg:∀(b:Nat) w cs,σ1[b]? = some (.cells w cs)→∀p∈cs,GC σ1 p.2):∀{nbs:List NB} {b:Nat} {s s':MS},mNBs m σ1 b nbs s=some s' →
    ∃ L Lc, s'.rw = s.rw ++ L ∧ s'.cl = s.cl ++ Lc ∧ Mo s s' ∧ (MI m σ1 s → MI m σ1 s') ∧
      (∀rest l r,pNew nbs (L++rest)=some (l,r)→r=rest∧∀(k:Nat) nb,nbs[k]? = some nb→(∀ps,nb≠.cells ps)→∃b' x y,rhoK (b+k) s'.ρ=some b'∧σ1[b']? = some x∧l[k]? = some y∧RowEq x y) ∧
      (∀σs bs rest l,pNBs σs nbs bs (Lc++rest)=some l→∀(k:Nat) nb,nbs[k]? = some nb →
        (∀ps,nb=.cells ps→∃b' w cs ys,rhoK (b+k) s'.ρ=some b'∧σ1[b']? = some (.cells w cs)∧l[k]? = some (.cells 0 ys)∧All2 (CM m σ1 σs s') (cs.map Prod.snd) (ys.map Prod.snd)) ∧
        ((∀ps,nb≠.cells ps)→l[k]? = bs[k]?)):=by
  intro nbs
  induction nbs with
  | nil =>
    intro b s s' h
    simp only [mNBs,Option.some.injEq] at h
    subst h
    refine ⟨[],[],by simp,by simp,Mo.refl s,id,fun rest l r h=>?_,fun σs bs rest l h k nb hk=>by simp at hk⟩
    simp only [List.nil_append,pNew,Option.some.injEq,Prod.mk.injEq] at h
    exact ⟨h.2.symm,fun k nb hk=>by simp at hk⟩
  | cons nb nbs ih =>
    intro b s s' h
    have sh:∀k:Nat,b+(k+1)=b+1+k:=fun k=>by omega
    cases nb with
    | cells ps =>
      simp only [mNBs] at h
      split at h
      · rename_i b' hb'
        split at h
        · rename_i w cs hb
          split at h
          · rename_i s1 h1
            obtain ⟨L1,a1,a2,a3,a4,a5⟩:=mCPs_ok h1 (fun x hx=>by
              rw [List.mem_map] at hx
              obtain ⟨p,hp,rfl⟩:=hx
              exact hg b' w cs hb p hp)
            obtain ⟨L,L2,b1,b2,b3,b4,b5,b6⟩:=ih h
            refine ⟨L,L1++L2,by rw [b1,a2],by rw [b2,a1,List.append_assoc],a3.trans b3,fun I=>b4 (a4 I),fun rest l r h=>?_,fun σs bs rest l h k nb hk=>?_⟩
            · simp only [pNew] at h
              split at h
              · rename_i l' r' h2
                simp only [Option.some.injEq,Prod.mk.injEq] at h
                obtain ⟨rfl,rfl⟩:=h
                obtain ⟨e,c1⟩:=b5 rest l' _ h2
                refine ⟨e,fun k nb hk hn=>?_⟩
                cases k with
                | zero=>simp only [List.getElem?_cons_zero,Option.some.injEq] at hk; exact absurd hk.symm (hn ps)
                | succ k=>simp only [List.getElem?_cons_succ] at hk ⊢; rw [sh]; exact c1 k nb hk hn
              · simp at h
            · rw [List.append_assoc] at h
              cases bs with
              | nil=>simp [pNBs] at h
              | cons b0 bs =>
                simp only [pNBs] at h
                split at h
                · rename_i xs r' h2
                  split at h
                  · rename_i l' h3
                    simp only [Option.some.injEq] at h
                    subst h
                    obtain ⟨rfl,c1⟩:=a5 σs _ _ _ h2
                    have c2:=b6 σs bs rest l' h3
                    cases k with
                    | zero =>
                      simp only [List.getElem?_cons_zero,Option.some.injEq] at hk
                      subst hk
                      refine ⟨fun ps' e=>?_,fun hn=>absurd rfl (hn ps)⟩
                      refine ⟨b',w,cs,_,b3.rho _ _ (a3.rho _ _ hb'),hb,by rw [List.getElem?_cons_zero],?_⟩
                      rw [List.map_map]
                      have:(Prod.snd∘fun x:TC=>(0,x))=id:=rfl
                      rw [this,List.map_id]
                      exact All2.mono (fun _ _=>CM.mono b3) c1
                    | succ k =>
                      simp only [List.getElem?_cons_succ] at hk ⊢
                      rw [sh]
                      exact c2 k nb hk
                  · simp at h
                · simp at h
          · simp at h
        · simp at h
      · simp at h
    | row i =>
      simp only [mNBs] at h
      split at h
      · rename_i b' hb'
        split at h
        · rename_i i0 l0 lv0 cv0 hb
          split at h
          · rename_i a ha
            obtain ⟨e,rfl⟩:=zbT ha
            subst e
            obtain ⟨L,L2,b1,b2,b3,b4,b5,b6⟩:=ih h
            refine ⟨_::L,L2,by rw [b1,List.append_assoc]; rfl,b2,⟨b3.rho,b3.fz⟩,fun I=>b4 ⟨I.ge,I.fz⟩,fun rest l r h=>?_,fun σs bs rest l h k nb hk=>?_⟩
            · simp only [List.cons_append,pNew,zbo] at h
              split at h
              · rename_i a' l' r' e0 h2
                simp only [Option.some.injEq,Prod.mk.injEq] at h e0
                subst e0
                obtain ⟨rfl,rfl⟩:=h
                obtain ⟨e,c1⟩:=b5 rest l' _ h2
                refine ⟨e,fun k nb hk hn=>?_⟩
                cases k with
                | zero=>exact ⟨b',_,_,b3.rho _ _ hb',hb,by rw [List.getElem?_cons_zero],.inl ⟨_,_,_,_,_,_,rfl,rfl⟩⟩
                | succ k=>simp only [List.getElem?_cons_succ] at hk ⊢; rw [sh]; exact c1 k nb hk hn
              · simp at h
            · cases bs with
              | nil=>simp [pNBs] at h
              | cons b0 bs =>
                simp only [pNBs] at h
                split at h
                · rename_i l' h3
                  simp only [Option.some.injEq] at h
                  subst h
                  have c2:=b6 σs bs rest l' h3
                  cases k with
                  | zero =>
                    simp only [List.getElem?_cons_zero,Option.some.injEq] at hk
                    subst hk
                    exact ⟨fun ps' e=>by simp at e,fun hn=>rfl⟩
                  | succ k =>
                    simp only [List.getElem?_cons_succ] at hk ⊢
                    rw [sh]
                    exact c2 k nb hk
                · simp at h
          · simp at h
        · simp at h
      · simp at h
    | mp i st =>
      simp only [mNBs] at h
      split at h
      · rename_i b' hb'
        split at h
        · rename_i i0 st0 l0 v0 hb
          split at h
          · rename_i a hst ha
            obtain ⟨e,rfl⟩:=castM_some ha
            subst e
            have:st=st0:=eq_of_beq hst
            subst this
            obtain ⟨L,L2,b1,b2,b3,b4,b5,b6⟩:=ih h
            refine ⟨_::L,L2,by rw [b1,List.append_assoc]; rfl,b2,⟨b3.rho,b3.fz⟩,fun I=>b4 ⟨I.ge,I.fz⟩,fun rest l r h=>?_,fun σs bs rest l h k nb hk=>?_⟩
            · simp only [List.cons_append,pNew,zbo] at h
              split at h
              · rename_i a' l' r' e0 h2
                simp only [Option.some.injEq,Prod.mk.injEq] at h e0
                subst e0
                obtain ⟨rfl,rfl⟩:=h
                obtain ⟨e,c1⟩:=b5 rest l' _ h2
                refine ⟨e,fun k nb hk hn=>?_⟩
                cases k with
                | zero=>exact ⟨b',_,_,b3.rho _ _ hb',hb,by rw [List.getElem?_cons_zero],.inr ⟨_,_,_,_,_,rfl,rfl⟩⟩
                | succ k=>simp only [List.getElem?_cons_succ] at hk ⊢; rw [sh]; exact c1 k nb hk hn
              · simp at h
            · cases bs with
              | nil=>simp [pNBs] at h
              | cons b0 bs =>
                simp only [pNBs] at h
                split at h
                · rename_i l' h3
                  simp only [Option.some.injEq] at h
                  subst h
                  have c2:=b6 σs bs rest l' h3
                  cases k with
                  | zero =>
                    simp only [List.getElem?_cons_zero,Option.some.injEq] at hk
                    subst hk
                    exact ⟨fun ps' e=>by simp at e,fun hn=>rfl⟩
                  | succ k =>
                    simp only [List.getElem?_cons_succ] at hk ⊢
                    rw [sh]
                    exact c2 k nb hk
                · simp at h
          · simp at h
        · simp at h
      · simp at h
end
end Go.Abs
end
section
namespace Go.Abs
noncomputable section
variable [Gl] [Y:Ty]
variable {σ σ1 F:TH} {σD σ1D:Heap} {s:MS} {ct:CT}
theorem RowEq.er {x y:TB} (h:RowEq x y):y.er=x.er:=by
  rcases h with ⟨i,l,lv,cv,lv',cv',rfl,rfl⟩ | ⟨j,st,l,v,v',rfl,rfl⟩ <;> rfl
theorem mbA_low {j:Nat} {st:Bool}:∀(l:List (Int×TT j)) (i:Nat),((mbE (mpE j st) i l).all fun e=>e.2.1.low 0)=true:=by
  intro l
  induction l with
  | nil=>intro i; rfl
  | cons p l ih =>
    intro i
    obtain ⟨k,a⟩:=p
    simp only [mbE,List.all_cons,ih,Bool.and_true]
    unfold mpE
    split
    · have:∀cs:List C,D.low.lows 0 (cs.map .c)=true:=by
        intro cs
        induction cs with
        | nil=>rfl
        | cons c cs ih=>simp only [List.map_cons,D.low.lows,D.low,ih,Bool.and_true]
      exact this _
    · rfl
theorem All2.ofIdx {α β:Type} {R:α→β→Prop}:∀{l:List α} {l':List β},l.length=l'.length→(∀(j:Nat) a b,l[j]? = some a→l'[j]? = some b→R a b)→All2 R l l':=by
  intro l
  induction l with
  | nil =>
    intro l' h _
    cases l' with
    | nil=>exact .nil
    | cons _ _=>simp at h
  | cons a l ih =>
    intro l' h hr
    cases l' with
    | nil=>simp at h
    | cons b l'=>exact .cons (hr 0 a b rfl rfl) (ih (by simpa using h) fun j x y hx hy=>hr (j+1) x y hx hy)
theorem All2.map {α β γ δ:Type} {R:γ→δ→Prop} {f:α→γ} {g:β→δ} {R':α→β→Prop} (h:∀a b,R' a b→R (f a) (g b)) {l:List α} {l':List β} (a:All2 R' l l'):All2 R (l.map f) (l'.map g):=by
  induction a with
  | nil=>exact .nil
  | cons x _ ih=>exact .cons (h _ _ x) ih
theorem GC.low {x:TC} (g:GC σ x):x.er.low σ.length=true:=by
  cases x with
  | own i c v n =>
    obtain ⟨blk,h1,_⟩:=g
    simp only [TC.er,D.low,decide_eq_true_eq]
    exact (List.getElem?_eq_some_iff.1 h1).1
  | op i c v n k a off =>
    obtain ⟨blk,h1,_⟩:=g
    simp only [TC.er,D.low,decide_eq_true_eq]
    exact (List.getElem?_eq_some_iff.1 h1).1
  | os i c v n lo len =>
    obtain ⟨blk,h1,_⟩:=g
    simp only [TC.er,D.low,decide_eq_true_eq]
    exact (List.getElem?_eq_some_iff.1 h1).1
  | ap c off len sz k=>simp only [TC.er,D.low,decide_eq_true_eq]; exact g
  | d x=>exact g
  | _=>rfl
def rhoF (m:Nat) (s:MS) (b:Nat):Nat:=if b<m then b else (rhoK b s.ρ).getD 0
theorem Bd.rho {m b b':Nat} (h:Bd m s b b'):rhoF m s b=b':=by
  rcases h with ⟨h1,h2⟩ | ⟨h1,h2⟩
  · rw [rhoF,if_pos h1,h2]
  · rw [rhoF,if_neg (by omega),h2]; rfl
def BF (σ σ1 σs F:TH) (s:MS) (i:Nat):Prop:=∃x y,σ1[rhoF σ.length s i]? = some x∧F[i]? = some y ∧
  ((∃w cs w' cs',x=.cells w cs∧y=.cells w' cs'∧All2 (fun a b=>CM σ.length σ1 σs s a b∨(a=b∧GC σ a)) (cs.map Prod.snd) (cs'.map Prod.snd))∨RowEq x y)
structure MX (σ σ1 σs F:TH) (s:MS) (n:Nat):Prop where
  len:F.length=σ.length+n
  slen:σs.length=F.length
  sr:SR σs F
  bf:∀i,i<F.length→BF σ σ1 σs F s i
  mi:MI σ.length σ1 s
  nd:nodupN (s.ρ.map Prod.snd)=true
  fz:∀b∈s.fz,σ.length≤b∧b∉s.ρ.map Prod.snd
  kn:∀i,σ.length≤i→i<F.length→∃b',rhoK i s.ρ=some b'
theorem rhoK_mem {i o:Nat}:∀{l:List (Nat×Nat)},rhoK i l=some o→(i,o)∈l:=by
  intro l
  induction l with
  | nil=>intro h; simp [rhoK] at h
  | cons p l ih =>
    intro h
    obtain ⟨q,o'⟩:=p
    simp only [rhoK] at h
    split at h
    · rename_i hb
      have:=Nat.eq_of_beq_eq_true hb
      subst this
      simp only [Option.some.injEq] at h
      subst h
      exact List.mem_cons_self ..
    · exact List.mem_cons_of_mem _ (ih h)
theorem nodup_inj:∀{l:List (Nat×Nat)},nodupN (l.map Prod.snd)=true→∀i j o,(i,o)∈l→(j,o)∈l→i=j:=by
  intro l
  induction l with
  | nil=>intro _ i j o h; simp at h
  | cons p l ih =>
    intro h i j o hi hj
    simp only [List.map_cons,nodupN,Bool.and_eq_true,Bool.not_eq_true',List.any_eq_false] at h
    have no:∀k,(k,p.2)∈l→False:=fun k hk=>h.1 p.2 (List.mem_map.2 ⟨_,hk,rfl⟩) (Nat.beq_refl _)
    rcases List.mem_cons.1 hi with e1 | hi'
    · rcases List.mem_cons.1 hj with e2 | hj'
      · rw [←e2] at e1; simp only [Prod.mk.injEq] at e1; exact e1.1
      · exact (no j (by rw [←e1]; exact hj')).elim
    · rcases List.mem_cons.1 hj with e2 | hj'
      · exact (no i (by rw [←e2]; exact hi')).elim
      · exact ih h.2 i j o hi' hj'
section
variable {σs:TH} {n:Nat} (X:MX σ σ1 σs F s n) (H1:RH σ1 σ1D)
include X H1
theorem MX.rn:Rn σ.length σ1D (F.map TB.er) (rhoF σ.length s) (fun b=>b∈s.fz):={
  le:=by rw [List.length_map,X.len]; omega
  id:=fun i hi=>by rw [rhoF,if_pos hi]
  inj:=fun i j hi hj e=>by
    rw [List.length_map] at hi hj
    unfold rhoF at e
    split at e
    · rename_i h1
      split at e
      · exact e
      · rename_i h2
        obtain ⟨o,ho⟩:=X.kn j (by omega) hj
        rw [ho] at e
        have:=(X.mi.ge _ (rhoK_mem ho)).2
        simp only [Option.getD_some] at e this
        omega
    · rename_i h1
      obtain ⟨o,ho⟩:=X.kn i (by omega) hi
      split at e
      · rw [ho] at e
        have:=(X.mi.ge _ (rhoK_mem ho)).2
        simp only [Option.getD_some] at e this
        omega
      · obtain ⟨o',ho'⟩:=X.kn j (by omega) hj
        rw [ho,ho'] at e
        simp only [Option.getD_some] at e
        subst e
        exact nodup_inj X.nd i j o (rhoK_mem ho) (rhoK_mem ho')
  fr:=fun i hi hf=>by
    rw [List.length_map] at hi
    obtain ⟨h1,h2⟩:=X.fz _ hf
    unfold rhoF at h1 h2
    split at h1
    · omega
    · rename_i hge
      rw [if_neg hge] at h2
      obtain ⟨o,ho⟩:=X.kn i (by omega) hi
      rw [ho] at h2
      exact h2 (List.mem_map.2 ⟨_,rhoK_mem ho,rfl⟩)
  row:=fun b hb=>by
    obtain ⟨i,l,lv,cv,h⟩:=X.mi.fz b hb
    exact ⟨i,l,H1.row h⟩
  sz:=fun i hi=>by
    rw [List.length_map] at hi
    obtain ⟨x,y,h1,h2,h3⟩:=X.bf i hi
    refine ⟨x.er,y.er,by rw [H1.eqD,List.getElem?_map,h1]; rfl,by rw [List.getElem?_map,h2]; rfl,?_⟩
    rcases h3 with ⟨w,cs,w',cs',rfl,rfl,h4⟩ | h4
    · have:=h4.len
      simp only [List.length_map] at this
      simp [TB.er,Ob.sz,this]
    · rw [h4.er] }
theorem MX.cell {x y:TC} (c:CM σ.length σ1 σs s x y):DWr σ1D (F.map TB.er) (rhoF σ.length s) (fun b=>b∈s.fz) x.er y.er:=by
  have N:=X.rn H1
  rcases c with ⟨c1,c2,_⟩ | ⟨i,b,v,l,cv,rfl,h2,h3,h4⟩ | ⟨i,b,b',v,l0,cv0,j,lv,l,cv,rfl,h2,h3,rfl,h5⟩ | ⟨b,b',off,sz,rfl,h2,rfl,h4⟩ | ⟨b,b',rfl,h2,rfl,h4⟩
  · exact DWr.le c1 (DWr.data N c2)
  · rw [h4]
    exact DWr.frz N h2 (H1.row h3)
  · have hF:=X.sr.row b j l lv cv h5
    have hlt:=(List.getElem?_eq_some_iff.1 hF).1
    obtain ⟨x,y,e1,e2,e3⟩:=X.bf b hlt
    have q:=h2.rho
    subst q
    rw [h3] at e1
    rw [hF] at e2
    simp only [Option.some.injEq] at e1 e2
    subst e1 e2
    rcases e3 with ⟨w,cs,w',cs',e,_⟩ | e3
    · simp at e
    · rcases e3 with ⟨i',l',_,_,_,_,e4,e5⟩ | ⟨_,_,_,_,_,e4,_⟩
      · simp only [TB.row.injEq] at e4 e5
        obtain ⟨rfl,e6,_,_⟩:=e4
        obtain ⟨rfl,e7,_,_⟩:=e5
        cases e6
        cases e7
        exact DWr.sl N (by rw [List.length_map]; exact hlt)
      · simp at e4
  · have:=DWr.ptr (F:=fun b=>b∈s.fz) N (i:=b) (off:=off) (sz:=sz) (by rw [List.length_map,←X.slen]; exact h4)
    rw [h2.rho] at this
    exact this
  · have:=DWr.mp (F:=fun b=>b∈s.fz) N (i:=b) (by rw [List.length_map,←X.slen]; exact h4)
    rw [h2.rho] at this
    exact this
theorem MX.rnH:RnH σ.length σ1D (F.map TB.er) (rhoF σ.length s) (fun b=>b∈s.fz):={
  toRn:=X.rn H1
  ob:=fun i hi=>by
    rw [List.length_map] at hi
    obtain ⟨x,y,h1,h2,h3⟩:=X.bf i hi
    refine ⟨x.er,y.er,by rw [H1.eqD,List.getElem?_map,h1]; rfl,by rw [List.getElem?_map,h2]; rfl,?_⟩
    rcases h3 with ⟨w,cs,w',cs',rfl,rfl,h4⟩ | h4
    · refine ⟨_,rfl,?_⟩
      have:=All2.map (R:=DWr σ1D (F.map TB.er) (rhoF σ.length s) (fun b=>b∈s.fz)) (f:=TC.er) (g:=TC.er) (fun a b h=>?_) h4
      · rw [List.map_map,List.map_map] at this; exact this
      · rcases h with h | ⟨rfl,h⟩
        · exact X.cell H1 h
        · exact DWr.low (X.rn H1) h.low
    · rw [h4.er]
      rcases h4 with ⟨j,l,lv,cv,lv',cv',rfl,rfl⟩ | ⟨j,st,l,v,v',rfl,rfl⟩
      · refine ⟨_,rfl,All2.ofIdx rfl fun k a b ha hb=>?_⟩
        rw [ha] at hb
        simp only [Option.some.injEq] at hb
        subst hb
        rw [List.getElem?_map,Option.map_eq_some_iff] at ha
        obtain ⟨c,_,rfl⟩:=ha
        exact DWr.data (X.rn H1) rfl
      · exact ⟨rfl,mbA_low l 0⟩ }
theorem MX.val {v y:TV} {d:D} (h:VM σ.length σ1 σs s v y) (hr:RT v d):DWr σ1D (F.map TB.er) (rhoF σ.length s) (fun b=>b∈s.fz) d (eD y):=by
  have cell:∀{x y:TC} {d:D},CM σ.length σ1 σs s x y→RC x d→DWr σ1D (F.map TB.er) (rhoF σ.length s) (fun b=>b∈s.fz) d y.er:=fun {x y d} c r=>by
    rcases r with rfl | rfl
    · exact DWr.le (fun _ _ _ _ _ _=>.any _) (X.cell H1 c)
    · exact X.cell H1 c
  cases v with
  | c x => cases y with
    | c y=>exact cell h hr
    | _=>exact h.elim
  | agg xs => cases y with
    | agg ys =>
      obtain ⟨ds,rfl,hr⟩:=hr
      refine DWr.agg (All2.ofIdx ?_ fun j a b ha hb=>?_)
      · rw [←hr.len,List.length_map]; exact All2.len h
      · rw [List.getElem?_map,Option.map_eq_some_iff] at hb
        obtain ⟨y,hy,rfl⟩:=hb
        obtain ⟨x,hx,hc⟩:=All2.get' h j y hy
        obtain ⟨x',hx',hc'⟩:=hr.get' j a ha
        rw [hx] at hx'
        simp only [Option.some.injEq] at hx'
        subst hx'
        exact cell hc hc'
    | _=>exact h.elim
  | tup xs=>exact h.elim
theorem MX.valL {vs ys:List TV} {ds:List D} (h:All2 (VM σ.length σ1 σs s) vs ys) (hr:All3 vs ds):All2 (DWr σ1D (F.map TB.er) (rhoF σ.length s) (fun b=>b∈s.fz)) ds (ys.map eD):=by
  induction h generalizing ds with
  | nil=>cases hr; exact .nil
  | cons h _ ih =>
    cases hr with
    | cons r hr=>exact .cons (X.val H1 h r) (ih hr)
theorem MX.vals {vs ys:List TV} {ds:List D} (h:All2 (VM σ.length σ1 σs s) vs ys) (hr:All3 vs ds):DWr σ1D (F.map TB.er) (rhoF σ.length s) (fun b=>b∈s.fz) (one ds) (one (ys.map eD)):=by
  have key:All2 (DWr σ1D (F.map TB.er) (rhoF σ.length s) (fun b=>b∈s.fz)) ds (ys.map eD):=by
    induction h generalizing ds with
    | nil=>cases hr; exact .nil
    | cons h _ ih =>
      cases hr with
      | cons r hr=>exact .cons (X.val H1 h r) (ih hr)
  generalize ys.map eD=es at key ⊢
  cases key with
  | nil=>exact DWr.tup .nil
  | cons h r =>
    cases r with
    | nil=>exact h
    | cons h2 r=>exact DWr.tup (.cons h (.cons h2 r))
end
end
end Go.Abs
end
