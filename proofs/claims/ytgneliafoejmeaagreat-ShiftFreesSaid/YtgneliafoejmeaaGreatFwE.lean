/- DfwPh, DfwPx, DfwPi, DfwPj, DfwPk, DfwPw, DfwPl, DfwPm -/
import Derived.Test.YtgneliafoejmeaaGreatFwD
set_option linter.all false
section
namespace Go.Abs
noncomputable section
variable [Gl] [Y:Ty]
def atP (p:Nat):TA→Option (Nat×RV)
  | []=>none
  | x::al=>if al.length=p then some x else atP p al
theorem atP_lt {p:Nat} {y:Nat×RV}:∀{al:TA},atP p al=some y→p<al.length:=by
  intro al
  induction al with
  | nil=>intro h; simp [atP] at h
  | cons x al ih =>
    intro h
    simp only [atP] at h
    split at h
    · simp only [List.length_cons]; omega
    · have:=ih h; simp only [List.length_cons]; omega
theorem atP_cons {p:Nat} {y z:Nat×RV} {al:TA} (h:atP p al=some y):atP p (z::al)=some y:=by
  have:=atP_lt h
  simp only [atP]
  rw [if_neg (by omega)]
  exact h
theorem atP_app {p:Nat} {y:Nat×RV} {al:TA} (h:atP p al=some y):∀(pre:TA),atP p (pre++al)=some y:=by
  intro pre
  induction pre with
  | nil=>exact h
  | cons z pre ih=>exact atP_cons ih
theorem lkP_at {t p:Nat} {x:RV}:∀{al:TA},lkP t al=some (x,p)→atP p al=some (t,x):=by
  intro al
  induction al with
  | nil=>intro h; simp [lkP] at h
  | cons y al ih =>
    intro h
    obtain ⟨s,z⟩:=y
    simp only [lkP] at h
    split at h
    · rename_i hb
      have:=Nat.eq_of_beq_eq_true hb
      subst this
      simp only [Option.some.injEq,Prod.mk.injEq] at h
      obtain ⟨rfl,rfl⟩:=h
      simp only [atP,if_true]
    · exact atP_cons (ih h)
def GW (al:TA) (σ:TH):RV→Prop
  | .v x=>GV σ x
  | .g c w p x=>(∃t,atP p al=some (t,.v (.c (.b c))))∧(c=w→GV σ x)
theorem GW.mono {al:TA} {σ σ1:TH} (h:Ext σ σ1) (pre:TA) {x:RV} (g:GW al σ x):GW (pre++al) σ1 x:=by
  cases x with
  | v x=>exact GV.mono h g
  | g c w p x=>exact ⟨let ⟨t,ht⟩:=g.1; ⟨t,atP_app ht pre⟩,fun e=>(g.2 e).mono h⟩
structure Ref (al:TA) (σ:TH) (alD:AL) (σD:Heap):Prop where
  hh:RH σ σD
  rg:∀t x p,lkP t al=some (x,p)→∃d,lk t alD=some d∧RR x d∧GW al σ x
def KnOk (al:TA) (kn:Kn):Prop:=∀p b,knk p kn=some b→∀t e,atP p al=some (t,.v (.c (.b e)))→e=b
variable {P:Program} {n:Nat} {alD:AL} {σ σ1:TH} {σD σD1:Heap} {al:TA} {kn:Kn} {S:TSs}
theorem Ref.set {t:Nat} {x:RV} {d:D} (Rf:Ref al σ alD σD) (H:RH σ1 σD1) (he:Ext σ σ1) (hx:RR x d) (hg:GW ((t,x)::al) σ1 x):Ref ((t,x)::al) σ1 ((t,d)::alD) σD1:={
  hh:=H
  rg:=fun s y p h=>by
    simp only [lkP] at h
    simp only [lk]
    split at h
    · rename_i hb
      simp only [Option.some.injEq,Prod.mk.injEq] at h
      obtain ⟨rfl,rfl⟩:=h
      try rw [hb]
      exact ⟨d,rfl,hx,hg⟩
    · rename_i hb
      try rw [hb]
      obtain ⟨d',h1,h2,h3⟩:=Rf.rg s y p h
      exact ⟨d',h1,h2,h3.mono he [(t,x)]⟩ }
theorem Ref.heap (Rf:Ref al σ alD σD) (H:RH σ1 σD1) (he:Ext σ σ1):Ref al σ1 alD σD1:={
  hh:=H
  rg:=fun s y p h=>let ⟨d',h1,h2,h3⟩:=Rf.rg s y p h; ⟨d',h1,h2,h3.mono he []⟩ }
theorem KnOk.cons {z:Nat×RV} (h:KnOk al kn) (hp:∀p b,knk p kn=some b→p<al.length):KnOk (z::al) kn:=fun p b hk t e ha=>by
  refine h p b hk t e ?_
  have:=hp p b hk
  simp only [atP] at ha
  rw [if_neg (by omega)] at ha
  exact ha
def KnIn (al:TA) (kn:Kn):Prop:=∀p b,knk p kn=some b→p<al.length
theorem KnIn.cons {z:Nat×RV} (h:KnIn al kn):KnIn (z::al) kn:=fun p b hk=>by have:=h p b hk; simp only [List.length_cons]; omega
theorem KnOk.add {p:Nat} {b:Bool} (h:KnOk al kn) (hb:∀t e,atP p al=some (t,.v (.c (.b e)))→e=b):KnOk al ((p,b)::kn):=fun q c hk t e ha=>by
  simp only [knk] at hk
  split at hk
  · rename_i hq
    have:=Nat.eq_of_beq_eq_true hq
    simp only [Option.some.injEq] at hk
    subst this hk
    exact hb t e ha
  · exact h q c hk t e ha
theorem KnIn.add {p:Nat} {b:Bool} (h:KnIn al kn) (hb:p<al.length):KnIn al ((p,b)::kn):=fun q c hk=>by
  simp only [knk] at hk
  split at hk
  · rename_i hq
    have:=Nat.eq_of_beq_eq_true hq
    subst this
    exact hb
  · exact h q c hk
theorem ofD_ok {d:D} (h:d.low 0=true):RT (ofD d) d∧GV σ (ofD d):=by
  unfold ofD
  split
  · rename_i ds
    exact ⟨⟨ds,rfl,All2.ds ds⟩,ds_good h⟩
  · exact ⟨.inr rfl,D.low_mono (Nat.zero_le _) h⟩
theorem rdO_ok (Rf:Ref al σ alD σD) (K:KnOk al kn) {cur:Option (Nat×Bool)} (hc:∀q w,cur=some (q,w)→∀t e,atP q al=some (t,.v (.c (.b e)))→e=w):RdOk σ alD (rdO al kn cur):=by
  intro x v h
  cases x with
  | k d =>
    simp only [rdO] at h
    split at h
    · rename_i hl
      simp only [Option.some.injEq] at h
      subst h
      exact ⟨d,rfl,(ofD_ok (σ:=σ) hl).1,(ofD_ok hl).2⟩
    · simp at h
  | t s =>
    simp only [rdO] at h
    split at h
    · rename_i y p hp
      simp only [Option.some.injEq] at h
      subst h
      obtain ⟨d,h1,h2,h3⟩:=Rf.rg s _ p hp
      exact ⟨d,h1,h2,h3⟩
    · rename_i c w p y q hp
      split at h
      · rename_i ho
        simp only [Option.some.injEq] at h
        subst h
        obtain ⟨d,h1,h2,h3⟩:=Rf.rg s _ q hp
        obtain ⟨⟨t,ht⟩,h4⟩:=h3
        have hcw:c=w:=by
          unfold opn at ho
          split at ho
          · rename_i b hb
            have:=K p b hb t c ht
            rw [this]; exact eq_of_beq ho
          · split at ho
            · rename_i q' w'
              simp only [Bool.and_eq_true] at ho
              have e1:=Nat.eq_of_beq_eq_true ho.1
              have e2:w'=w:=eq_of_beq ho.2
              subst e1 e2
              exact hc _ _ rfl t c ht
            · simp at ho
        simp only [RR,if_pos hcw] at h2
        exact ⟨d,h1,h2,h4 hcw⟩
      · simp at h
    · simp at h
theorem lkP_of_gd {t p:Nat} {x:RV} (Rf:Ref al σ alD σD) (h:lkP t al=some (x,p)):∃d,lk t alD=some d∧RR x d:=let ⟨d,h1,h2,_⟩:=Rf.rg t x p h; ⟨d,h1,h2⟩
theorem tGd_ok (Rf:Ref al σ alD σD) (K:KnOk al kn) (g:Option (Nat×Bool)):match tGd al kn g with
    | .opn=>Gd alD g true
    | .shut=>Gd alD g false
    | .sym e p w=>(∃t,atP p al=some (t,.v (.c (.b e))))∧(e=w→Gd alD g true)∧((!e)=w→Gd alD g false)
    | .spl e p=>∃t,atP p al=some (t,.v (.c (.b e)))
    | .res t x=>∃d,lk t alD=some d∧RT x d∧GV σ x
    | .bad=>True:=by
  cases g with
  | none=>exact zaS
  | some g =>
    obtain ⟨t,want⟩:=g
    simp only [tGd]
    cases hl:lkP t al with
    | none=>trivial
    | some q =>
      obtain ⟨x,p⟩:=q
      obtain ⟨d,h1,h2⟩:=lkP_of_gd Rf hl
      cases x with
      | g c w p' y =>
        dsimp only
        obtain ⟨d',h1',h2',⟨t',ht'⟩,h3'⟩:=Rf.rg t _ p hl
        cases hk:knk p' kn with
        | none=>exact ⟨t',ht'⟩
        | some b =>
          dsimp only
          by_cases hb:(b == w)=true
          · rw [if_pos hb]
            have hcw:c=w:=by rw [K p' b hk t' c ht']; exact eq_of_beq hb
            simp only [RR,if_pos hcw] at h2'
            exact ⟨d',h1',h2',h3' hcw⟩
          · rw [if_neg hb]
            have:=K p' b hk t' c ht'
            have hne:¬c=w:=fun e=>hb (by rw [←this,e]; exact beq_self_eq_true w)
            simp only [RR,if_neg hne] at h2
            subst h2
            exact gd_gone h1
      | v y =>
        dsimp only
        change RT y d at h2
        generalize hG:gdB kn want p y=G
        unfold gdB at hG
        split at hG
        · have:=RT.c1 (by simp) h2
          subst this
          subst hG
          cases want
          · exact gd_shut h1 rfl
          · exact gd_open h1 rfl
        · have:=RT.c1 (by simp) h2
          subst this
          subst hG
          cases want
          · exact gd_open h1 rfl
          · exact gd_shut h1 rfl
        · have:=RT.c1 (by simp) h2
          subst this
          subst hG
          exact gd_gone h1
        · rename_i e
          have:=RT.c1 (by simp) h2
          subst this
          have hat:=lkP_at hl
          cases hk:knk p kn with
          | none =>
            rw [hk] at hG
            subst hG
            refine ⟨⟨t,hat⟩,fun e'=>gd_open h1 e',fun e'=>gd_shut h1 ?_⟩
            rw [←e',Bool.not_not]
          | some b =>
            rw [hk] at hG
            dsimp only at hG
            have hb:=K p b hk t e hat
            by_cases hw:(b == want)=true
            · rw [if_pos hw] at hG; subst hG; exact gd_open h1 (by rw [hb]; exact eq_of_beq hw)
            · rw [if_neg hw] at hG
              subst hG
              refine gd_shut h1 ?_
              try rw [hb]
              cases b <;> cases want <;> simp_all
        · subst hG; trivial
def iLe (a b:Info):Prop:=a.wr=b.wr∧a.dst=b.dst∧a.rds=b.rds∧a.lo=b.lo∧a.hi=b.hi∧(a.cat=0∨(a.cat=b.cat∧a.blk=b.blk))
theorem iLe.refl (a:Info):iLe a a:=⟨rfl,rfl,rfl,rfl,rfl,.inr ⟨rfl,rfl⟩⟩
theorem safe_mono {a b:Info} (h:iLe a b) {wr:List Nat} (hs:safe b wr=true):safe a wr=true:=by
  obtain ⟨_,_,_,_,_,h | ⟨h1,h2⟩⟩:=h
  · simp [safe,h]
  · simp only [safe,h1,h2] at hs ⊢; exact hs
theorem apart_mono {a b a' b':Info} (h:iLe a b) (h':iLe a' b') (hs:apart b b'=true):apart a a'=true:=by
  simp only [apart,Bool.and_eq_true] at hs ⊢
  obtain ⟨⟨⟨⟨h1,h2⟩,h3⟩,h4,h5⟩,h6,h7⟩:=hs
  have e:=h; have e':=h'
  obtain ⟨e1,e2,e3,e4,e5,_⟩:=e
  obtain ⟨f1,f2,f3,f4,f5,_⟩:=e'
  refine ⟨⟨⟨⟨by rw [e2,f3]; exact h1,by rw [f2,e3]; exact h2⟩,by rw [e2,f2]; exact h3⟩,by rw [f1]; exact safe_mono h h4,by rw [e1]; exact safe_mono h' h5⟩,?_,?_⟩
  · simp only [outside,e4,e5,f1] at h6 ⊢; exact h6
  · simp only [outside,f4,f5,e1] at h7 ⊢; exact h7
theorem pairsOk_mono {bef:List Nat} {as bs:List Info} (h:All2 iLe as bs) (hp:pairsOk bef bs=true):pairsOk bef as=true:=by
  simp only [pairsOk,List.all_eq_true,List.mem_range,Bool.or_eq_true] at hp ⊢
  intro j hj i hi
  rw [h.len] at hj
  rcases hp j hj i hi with h1 | h1
  · exact .inl h1
  · right
    have get:∀q,q<bs.length→iLe (as.getD q default) (bs.getD q default):=by
      intro q hq
      obtain ⟨a,h2,h3⟩:=h.get' q _ (List.getElem?_eq_getElem hq)
      rw [List.getD_eq_getElem?_getD,List.getD_eq_getElem?_getD,h2,List.getElem?_eq_getElem hq]
      exact h3
    exact apart_mono (get i (by omega)) (get j hj) h1
theorem TrQ.mono {orc:Orc2} {k:Nat} {os:List AOper} {Q Q':AL→Heap→List Info→Prop} (h:TrQ P orc k os n alD σD Q) (hq:∀a s i,Q a s i→Q' a s i):TrQ P orc k os n alD σD Q':=by
  obtain ⟨a,s,i,h1,h2⟩:=h
  exact ⟨a,s,i,h1,hq _ _ _ h2⟩
theorem okT_ok (Rf:Ref al σ alD σD) {o:AOp} (h:okT al o=true):okA alD o=true:=by
  cases o with
  | load m x =>
    cases x with
    | k d=>rfl
    | t a =>
      simp only [okT,Option.isSome_iff_exists] at h
      obtain ⟨⟨x,p⟩,hx⟩:=h
      obtain ⟨d,h1,_⟩:=lkP_of_gd Rf hx
      simp [okA,lx,h1]
  | _=>rfl
variable {R:Type}
theorem blk_of {rd:Opd→Option TV} {hint:Nat} {o:AOp} {k:KO R} {r:R} (hr:RdOk σ alD rd) (h:tOp P S hint o rd σ k=some r):okA alD o=true∧blkA alD o=blkT rd o:=by
  cases o with
  | load m x =>
    simp only [tOp] at h
    cases hx:rd x with
    | none=>rw [hx] at h; simp at h
    | some v =>
      obtain ⟨d,h1,h2,_⟩:=hr x v hx
      refine ⟨by simp [okA,h1],?_⟩
      simp only [blkA,blkT,h1,hx]
      cases v with
      | agg xs=>obtain ⟨ds,rfl,_⟩:=h2; rfl
      | tup xs=>obtain ⟨ds,rfl,_⟩:=h2; rfl
      | c y =>
        cases y with
        | any=>rw [hx] at h; simp at h
        | d z=>have:=RT.c1 (by simp) h2; subst this; cases d <;> rfl
        | _=>have:=RT.c1 (by simp) h2; subst this; rfl
  | _=>exact ⟨rfl,rfl⟩
def After (al:TA) (σ:TH) (K:KS R) (r:R) (alD':AL) (σD':Heap) (isD:List Info):Prop:=
  ∃al' σ' is,Ref al' σ' alD' σD'∧(∃pre,al'=pre++al)∧Ext σ σ'∧All2 iLe isD is∧K al' σ' is=some r
theorem After.cons {al al1:TA} {σ σ1:TH} {K:KS R} {r:R} {alD':AL} {σD' σD0:Heap} {isD:List Info} {i iD:Info} {pre:TA} (h:After al1 σ1 (fun al' σ' is=>K al' σ' (i::is)) r alD' σD' isD) (hp:al1=pre++al) (H:RH σ σD0) (he:Ext σ σ1) (hi:iLe iD i) :
    After al σ K r alD' σD' (iD::isD):=by
  obtain ⟨al',σ',is,h1,⟨pre',rfl⟩,h3,h4,h5⟩:=h
  exact ⟨_,σ',i::is,h1,⟨pre'++pre,by rw [hp,List.append_assoc]⟩,Ext.trans H he h3,.cons hi h4,h5⟩
theorem pk_ok {e:Bool} {u v:TV} {bu bv:BX} (hu:bxOf u=some bu) (hv:bxOf v=some bv) {d:D} (r:RT (if e then u else v) d):d=B (pk e bu bv):=by
  have key:∀{w:TV} {bw:BX},bxOf w=some bw→RT w d→d=B bw.val:=by
    intro w bw hw r
    unfold bxOf at hw
    split at hw
    · simp only [Option.some.injEq] at hw; subst hw; exact RT.c1 (by simp) r
    · simp only [Option.some.injEq] at hw; subst hw; exact RT.c1 (by simp) r
    · simp only [Option.some.injEq] at hw; subst hw; exact RT.c1 (by simp) r
    · simp at hw
  cases e
  · have:=key hv r
    rw [this]
    cases bu <;> cases bv <;> simp [pk,BX.val]
  · have:=key hu r
    rw [this]
    cases bu <;> cases bv <;> simp [pk,BX.val]
theorem pkV_ok {σ:TH} (c:Bool) (x y:BX):RT (pkV c x y) (B (pk c x y))∧GV σ (pkV c x y):=by
  cases x <;> cases y <;> first | exact ⟨.inr rfl,True.intro⟩ | (cases c <;> exact ⟨.inr rfl,rfl⟩)
theorem tot_ok {o:AOp} {rd:Opd→Option TV} {v:TV} (hr:RdOk σ alD rd) (H:RH σ σD) (ht:totOp o=true) (h:tOp (R:=TV) P S 0 o rd σ (fun v _ _ _=>some v)=some v) :
    ∃d,OpR P (zcs (zc4 S)) n alD σD o d σD []∧RT v d∧GV σ v:=by
  obtain ⟨v',σ1,rs,wr,d,σD1,h1,h2,h3,_,_,_,h4,h5⟩:=tOp_ok (n:=n) hr H h
  obtain ⟨rfl,rfl,rfl⟩:=h4 ht
  simp only [Option.some.injEq] at h5
  subst h5
  exact ⟨d,h1,h2,h3⟩
def selA:(cs:List CT)→altT cs→Option (Σ c:CT,tupI c.items)
  | [],_=>none
  | [c],x=>some ⟨c,x⟩
  | c :: d :: cs, x => match x with
    | .inl a=>some ⟨c,a⟩
    | .inr b=>selA (d::cs) b
theorem altK_sel {R:Type} {f:(c:CT)→tupI c.items→Option R} {r:R}:∀{cs:List CT} {x:altT cs},altK cs x f=some r→∃c a,selA cs x=some ⟨c,a⟩∧f c a=some r:=by
  intro cs
  induction cs with
  | nil=>intro x h; simp [altK] at h
  | cons c cs ih =>
    intro x h
    cases cs with
    | nil=>exact ⟨c,x,rfl,h⟩
    | cons d cs =>
      cases x with
      | inl a=>exact ⟨c,a,rfl,h⟩
      | inr b=>obtain ⟨c',a',h1,h2⟩:=ih (x:=b) h; exact ⟨c',a',h1,h2⟩
def ExOk (g:Cfg):Prop:=∀(ct:CT) (gi:FuncId) (vs:List TV) (σ:TH) (rv:List TV) (σ2:TH) (σD:Heap) (ds:List D),g.exa ct gi vs σ=some (rv,σ2)→RH σ σD→All3 vs ds→(∀v∈vs,GV σ v) →
  enterable g.P gi=true∧∃r σD2,RH σ2 σD2∧RT (oneT rv) r∧GV σ2 (oneT rv)∧Ext σ σ2∧Ok g.P gi ds σD r σD2∧(∀b,b<σD.length→σD2[b]? = σD[b]?)
def InlOk0 (g:Cfg):Prop:=∀(cs:List CT) (gi:FuncId) (vs:List TV) (σ:TH) (y:altT cs) (ct:CT) (x:tupI ct.items) (rv:List TV) (σ2:TH) (σD:Heap) (ds:List D),g.inl cs gi vs σ=some y→selA cs y=some ⟨ct,x⟩→putI ct σ x=some (rv,σ2)→RH σ σD→All3 vs ds→(∀v∈vs,GV σ v) →
  enterable g.P gi=true∧∃r σD2,RH σ2 σD2∧RT (oneT rv) r∧GV σ2 (oneT rv)∧Ext σ σ2∧Ok g.P gi ds σD r σD2∧(∀b,b<σD.length→b∉ct.pl.map PC.blk→σD2[b]? = σD[b]?)∧(ct.pl.any PC.rs=false→wrOk σD σD2 (ct.pl.map PC.blk)=true)
structure InlOk (g:Cfg):Prop where
  one:InlOk0 g
  two:ExOk g
theorem evTr_congr {oz oz':Orc2}:∀(os:List AOper) (k:Nat) (e:List D) (σ:Heap),(∀o∈os,oz o.dst=oz' o.dst)→evTr P oz k os e σ=evTr P oz' k os e σ:=by
  intro os
  induction os with
  | nil=>intro k e σ _; rfl
  | cons o os ih =>
    intro k e σ h
    have h1:evOper P oz o e σ=evOper P oz' o e σ:=by
      unfold evOper
      rw [h o (List.mem_cons_self ..)]
    simp only [evTr,h1]
    split
    · split
      · rw [ih _ _ _ fun o ho=>h o (List.mem_cons_of_mem _ ho)]
      · rfl
    · rfl
theorem TrQ.congr {oz oz':Orc2} {k:Nat} {os:List AOper} {Q:AL→Heap→List Info→Prop} (h:∀o∈os,oz o.dst=oz' o.dst) (t:TrQ P oz k os n alD σD Q):TrQ P oz' k os n alD σD Q:=by
  obtain ⟨a,s,i,h1,h2⟩:=t
  refine ⟨a,s,i,fun e he=>?_,h2⟩
  obtain ⟨e',h3,h4⟩:=h1 e he
  exact ⟨e',by rw [←evTr_congr os k e σD h]; exact h3,h4⟩
theorem All3.app {vs ws:List TV} {ds es:List D} (h:All3 vs ds) (h':All3 ws es):All3 (vs++ws) (ds++es):=by
  induction h with
  | nil=>exact h'
  | cons h _ ih=>exact .cons h ih
theorem ofD_rt (d:D):RT (ofD d) d:=by
  unfold ofD
  split
  · rename_i ds; exact ⟨ds,rfl,All2.ds ds⟩
  · exact .inr rfl
theorem ofD_gv {d:D} (h:d.low σ.length=true):GV σ (ofD d):=by
  unfold ofD
  split
  · rename_i ds
    intro x hx
    rw [List.mem_map] at hx
    obtain ⟨y,hy,rfl⟩:=hx
    obtain ⟨i,hi⟩:=List.getElem?_of_mem hy
    exact D.lows_get h i y hi
  · exact h
theorem ofDs_rt:∀(ds:List D),All3 (ds.map ofD) ds:=by
  intro ds
  induction ds with
  | nil=>exact .nil
  | cons d ds ih=>exact .cons (ofD_rt d) ih
theorem fnT_ok {v:TV} {d:D} {gi:FuncId} {a b:List TV} (h:fnT v=some (gi,a,b)) (r:RT v d) (g:GV σ v):∃da db,All3 a da∧All3 b db∧(∀v∈a,GV σ v)∧(∀v∈b,GV σ v) ∧
    ∀(orc:Orc) (f:Opd) (args:List Opd) (ds:List D) (r:D) (σD1:Heap) (w:List Nat),lx alD f=some d→lxs alD args=some ds→orc gi (da++ds++db) σD=some (r,σD1,w)→OpR P orc n alD σD (.call f args) r σD1 w:=by
  unfold fnT at h
  split at h
  · rename_i g' x y
    simp only [Option.some.injEq,Prod.mk.injEq] at h
    obtain ⟨rfl,rfl,rfl⟩:=h
    have:=RT.c1 (by simp) r
    subst this
    refine ⟨x.map .c,y.map .c,?_,?_,fun v hv=>?_,fun v hv=>?_,fun orc f args ds r σD1 w h1 h2 h3=>op_callc h1 h2 h3⟩
    · have:=ofDs_rt (x.map D.c); rw [List.map_map] at this; exact this
    · have:=ofDs_rt (y.map D.c); rw [List.map_map] at this; exact this
    · rw [List.mem_map] at hv; obtain ⟨z,_,rfl⟩:=hv; exact ofD_gv rfl
    · rw [List.mem_map] at hv; obtain ⟨z,_,rfl⟩:=hv; exact ofD_gv rfl
  · rename_i g' x y
    simp only [Option.some.injEq,Prod.mk.injEq] at h
    obtain ⟨rfl,rfl,rfl⟩:=h
    have:=RT.c1 (by simp) r
    subst this
    have gl:D.low.lows σ.length x=true∧D.low.lows σ.length y=true:=by
      have:(D.low σ.length (.fn (.func g') x y))=true:=g
      simpa [D.low] using this
    refine ⟨x,y,ofDs_rt x,ofDs_rt y,fun v hv=>?_,fun v hv=>?_,fun orc f args ds r σD1 w h1 h2 h3=>op_callf h1 h2 h3⟩
    · rw [List.mem_map] at hv; obtain ⟨z,hz,rfl⟩:=hv
      obtain ⟨i,hi⟩:=List.getElem?_of_mem hz
      exact ofD_gv (D.lows_get gl.1 i z hi)
    · rw [List.mem_map] at hv; obtain ⟨z,hz,rfl⟩:=hv
      obtain ⟨i,hi⟩:=List.getElem?_of_mem hz
      exact ofD_gv (D.lows_get gl.2 i z hi)
  · simp at h
theorem inlU_of {g:Cfg} {q:Nat} {os:List AOper} (h:inlR g q os=true):inlU g q os=true:=by
  unfold inlR at h
  split at h
  · rename_i hc
    have:∀o,inlOf g q o=none:=fun o=>by simp only [inlOf,hc]
    clear h
    induction os with
    | nil=>rfl
    | cons o os ih=>simp only [inlU,this,ih,Bool.and_true]; simp
  · exact h
def TrE (g:Cfg) (q k:Nat) (os:List AOper) (alD:AL) (σD:Heap) (Q:AL→Heap→List Info→Prop):Prop:=
  ∃oz,zbw g.P oz∧(∀t,(∀o∈os,(inlOf g q o).isSome=true→o.dst≠t)→oz t=zcs (zc4 g.S))∧TrQ g.P oz k os g.n alD σD Q
section
variable {g:Cfg} {q k:Nat} {os:List AOper} {alD:AL} {σD σD1:Heap} {Q Q':AL→Heap→List Info→Prop} {t:Nat} {ao:AOp} {gd:Option (Nat×Bool)} {d:D} {w:List Nat}
theorem TrE.mono (h:TrE g q k os alD σD Q) (hq:∀a s i,Q a s i→Q' a s i):TrE g q k os alD σD Q':=by
  obtain ⟨oz,h1,h2,h3⟩:=h
  exact ⟨oz,h1,h2,h3.mono hq⟩
theorem inlU_tail {o:AOper} (h:inlU g q (o::os)=true):inlU g q os=true:=by
  simp only [inlU,Bool.and_eq_true] at h; exact h.2
theorem inlU_ne {o:AOper} (h:inlU g q (o::os)=true) (hn:inlOf g q o=none) {t:Nat} (ht:o.dst=some t):∀o'∈os,(inlOf g q o').isSome=true→o'.dst≠some t:=by
  intro o' ho hi e
  simp only [inlU,hn,Bool.and_eq_true,Bool.not_eq_true'] at h
  have:=h.1
  rw [List.any_eq_false] at this
  have:=this o' ho
  simp [sameD,ht,e,hi] at this
theorem inlU_one {o:AOper} {ct:List CT} (h:inlU g q (o::os)=true) (hn:inlOf g q o=some ct) {t:Nat} (ht:o.dst=some t):∀o'∈os,o'.dst≠some t:=by
  intro o' ho e
  simp only [inlU,hn,Bool.and_eq_true,Bool.not_eq_true'] at h
  have:=h.1
  rw [List.any_eq_false] at this
  have:=this o' ho
  simp [sameD,ht,e] at this
theorem TrE.op (hU:inlU g q (⟨some t,ao,gd⟩::os)=true) (hn:inlOf g q ⟨some t,ao,gd⟩=none) (h:OpR g.P (zcs (zc4 g.S)) g.n alD σD ao d σD1 w) (hg:Gd alD gd true) (hs:(Nat.blt t g.n&&okA alD ao&&(k == 0 || wrOk σD σD1 w))=true)
    (r:TrE g q (k-1) os ((t,d)::alD) σD1 fun al' σ' is=>Q al' σ' (mkI ⟨some t,ao,gd⟩ (cat ao) (blkA alD ao) w σD.length σD1.length::is)):TrE g q k (⟨some t,ao,gd⟩::os) alD σD Q:=by
  obtain ⟨oz,h1,h2,h3⟩:=r
  refine ⟨oz,h1,fun t' ht'=>h2 t' fun o ho=>ht' o (List.mem_cons_of_mem _ ho),TrQ.op ?_ hg hs h3⟩
  rw [h2 (some t) (inlU_ne hU hn rfl)]
  exact h
theorem TrE.eff (h:OpR g.P (zcs (zc4 g.S)) g.n alD σD ao d σD1 w) (hg:Gd alD gd true) (hs:(okA alD ao&&(k == 0 || wrOk σD σD1 w))=true)
    (r:TrE g q (k-1) os alD σD1 fun al' σ' is=>Q al' σ' (mkI ⟨none,ao,gd⟩ (cat ao) (blkA alD ao) w σD.length σD1.length::is)):TrE g q k (⟨none,ao,gd⟩::os) alD σD Q:=by
  obtain ⟨oz,h1,h2,h3⟩:=r
  refine ⟨oz,h1,fun t' ht'=>h2 t' fun o ho=>ht' o (List.mem_cons_of_mem _ ho),TrQ.eff (d:=d) ?_ hg hs h3⟩
  rw [h2 none fun o ho hi e=>by
    unfold inlOf at hi
    split at hi
    · simp at hi
    · split at hi
      · rename_i e2; rw [e] at e2; simp at e2
      · simp at hi]
  exact h
theorem TrE.no (hg:Gd alD gd false) (hs:(Nat.blt t g.n&&okA alD ao)=true)
    (r:TrE g q (k-1) os ((t,.tup [])::alD) σD fun al' σ' is=>Q al' σ' (mkI ⟨some t,ao,gd⟩ 0 (blkA alD ao) [] σD.length σD.length::is)):TrE g q k (⟨some t,ao,gd⟩::os) alD σD Q:=by
  obtain ⟨oz,h1,h2,h3⟩:=r
  exact ⟨oz,h1,fun t' ht'=>h2 t' fun o ho=>ht' o (List.mem_cons_of_mem _ ho),TrQ.no hg hs h3⟩
theorem TrE.inl {ct:List CT} {gi:FuncId} {ds:List D} {wr:List Nat} (O:OrcOk g.P (zcs (zc4 g.S))) (hU:inlU g q (⟨some t,ao,gd⟩::os)=true) (hn:inlOf g q ⟨some t,ao,gd⟩=some ct) (hg:Gd alD gd true)
    (he:enterable g.P gi=true) (ok:Ok g.P gi ds σD d σD1) (hle:σD.length≤σD1.length) (hfr:∀b,b<σD.length→b∉wr→σD1[b]? = σD[b]?)
    (hop:∀(orc:Orc),orc gi ds σD=some (d,σD1,wr)→OpR g.P orc g.n alD σD ao d σD1 wr) (hs:(Nat.blt t g.n&&okA alD ao&&(k == 0 || wrOk σD σD1 wr))=true)
    (r:TrE g q (k-1) os ((t,d)::alD) σD1 fun al' σ' is=>Q al' σ' (mkI ⟨some t,ao,gd⟩ (cat ao) (blkA alD ao) wr σD.length σD1.length::is)):TrE g q k (⟨some t,ao,gd⟩::os) alD σD Q:=by
  classical
  obtain ⟨oz,h1,h2,h3⟩:=r
  let ent:Orc:=fun g' ds' σ'=>if g'=gi∧ds'=ds∧σ'=σD then some (d,σD1,wr) else none
  let oz':Orc2:=fun t'=>if t'=some t then ent else oz t'
  refine ⟨oz',fun t'=>?_,fun t' ht'=>?_,TrQ.op (hop _ ?_) hg hs (h3.congr fun o ho=>?_)⟩
  · show OrcOk g.P (if t'=some t then ent else oz t')
    split
    · intro g' ds' σ' r σ2 wr' h
      simp only [ent] at h
      split at h
      · rename_i hc
        obtain ⟨rfl,rfl,rfl⟩:=hc
        simp only [Option.some.injEq,Prod.mk.injEq] at h
        obtain ⟨rfl,rfl,rfl⟩:=h
        exact ⟨he,ok,hle,hfr⟩
      · simp at h
    · exact h1 t'
  · show (if t'=some t then ent else oz t')=_
    rw [if_neg (fun e=>ht' _ (List.mem_cons_self ..) (by rw [hn]; rfl) e.symm)]
    exact h2 t' fun o ho=>ht' o (List.mem_cons_of_mem _ ho)
  · show (if some t=some t then ent else oz (some t)) gi ds σD=_
    rw [if_pos rfl]
    simp only [ent,and_self,if_true]
  · show oz o.dst=if o.dst=some t then ent else oz o.dst
    rw [if_neg (inlU_one hU hn rfl o ho)]
end
theorem tot_inl {g:Cfg} {q:Nat} {t:Option Nat} {ao:AOp} {gd:Option (Nat×Bool)} (h:totOp ao=true):inlOf g q ⟨t,ao,gd⟩=none:=by
  unfold inlOf
  split
  · rfl
  · cases ao <;> first | rfl | simp [totOp] at h
theorem tOps_ok (g:Cfg) (q:Nat) (O:OrcOk g.P (zcs (zc4 g.S))) (hI:InlOk g):∀(fu k:Nat) (os:List AOper) (kn:Kn) (al:TA) (σ:TH) (K:KS R) (r:R) (alD:AL) (σD:Heap),tOps g q fu k os kn al σ K=some r→inlU g q os=true→Ref al σ alD σD→KnOk al kn→KnIn al kn →
    TrE g q k os alD σD (After al σ K r):=by
  intro fu
  induction fu with
  | zero=>intro k os kn al σ K r alD σD h; simp [tOps] at h
  | succ fu ih =>
    intro k os kn al σ K r alD σD h hU Rf Kn Ki
    cases os with
    | nil =>
      simp only [tOps] at h
      exact ⟨fun _=>zcs (zc4 g.S),fun _=>O,fun t _=>rfl,TrQ.nil ⟨al,σ,[],Rf,⟨[],rfl⟩,Ext.refl σ,.nil,h⟩⟩
    | cons o os =>
      simp only [tOps] at h
      have hU':=inlU_tail hU
      split at h
      · simp at h
      rename_i hn
      obtain ⟨dst,op,gd⟩:=o
      have G:=tGd_ok Rf Kn gd
      dsimp only at h hn
      -- a split
      have splitc:∀(e:Bool) (p:Nat),(∃t,atP p al=some (t,.v (.c (.b e))))→(if e=true then tOps g q fu k (⟨dst,op,gd⟩::os) ((p,true)::kn) al σ K else tOps g q fu k (⟨dst,op,gd⟩::os) ((p,false)::kn) al σ K)=some r →
          TrE g q k (⟨dst,op,gd⟩::os) alD σD (After al σ K r):=by
        intro e p ⟨t,ht⟩ h
        have add:∀b,e=b→KnOk al ((p,b)::kn):=fun b hb=>Kn.add fun t' e' ht'=>by
          rw [ht] at ht'
          simp only [Option.some.injEq,Prod.mk.injEq,RV.v.injEq,TV.c.injEq,TC.b.injEq] at ht'
          rw [←ht'.2,hb]
        split at h
        · rename_i he; exact ih _ _ _ _ _ _ _ _ _ h hU Rf (add true he) (Ki.add (atP_lt ht))
        · rename_i he; exact ih _ _ _ _ _ _ _ _ _ h hU Rf (add false (by simpa using he)) (Ki.add (atP_lt ht))
      cases hg:tGd al kn gd with
      | bad=>rw [hg] at h; simp at h
      | spl e p =>
        rw [hg] at h G
        exact splitc e p G h
      | res t x =>
        rw [hg] at h G
        obtain ⟨d,h1,h2,h3⟩:=G
        have R1:Ref ((t,.v x)::al) σ alD σD:=⟨Rf.hh,fun s y p hs=>by
          simp only [lkP] at hs
          split at hs
          · rename_i hb
            have:=Nat.eq_of_beq_eq_true hb
            subst this
            simp only [Option.some.injEq,Prod.mk.injEq] at hs
            obtain ⟨rfl,rfl⟩:=hs
            exact ⟨d,h1,h2,h3⟩
          · obtain ⟨d',g1,g2,g3⟩:=Rf.rg s y p hs
            exact ⟨d',g1,g2,g3.mono (Ext.refl σ) [(t,.v x)]⟩⟩
        refine (ih _ _ _ _ _ _ _ alD σD h hU R1 (Kn.cons Ki) Ki.cons).mono fun a s i hA=>?_
        obtain ⟨al',σ',is,a1,⟨pre,rfl⟩,a3,a4,a5⟩:=hA
        exact ⟨_,σ',is,a1,⟨pre++[(t,.v x)],by rw [List.append_assoc]; rfl⟩,a3,a4,a5⟩
      | shut =>
        rw [hg] at h G
        dsimp only at h G
        cases dst with
        | none=>simp at h
        | some t =>
          dsimp only at h hn
          split at h
          · simp at h
          rename_i hok
          change Nat.blt t g.n=true at hn
          have hok':=okT_ok Rf hok
          refine TrE.no G (by rw [hn,hok']; rfl) ?_
          refine (ih _ _ _ _ _ _ _ ((t,.tup [])::alD) σD h hU' (Rf.set Rf.hh (Ext.refl σ) (.inr rfl) ?_) (Kn.cons Ki) Ki.cons).mono fun a s i hA=>?_
          · show D.low _ _=true
            rfl
          · refine hA.cons (pre:=[(t,.v (.c (.d (.tup []))))]) rfl Rf.hh (Ext.refl σ) ?_
            rw [Rf.hh.len]
            exact ⟨rfl,rfl,rfl,rfl,rfl,.inl rfl⟩
      | sym e p w =>
        rw [hg] at h G
        dsimp only at h G
        obtain ⟨⟨t0,ht0⟩,G1,G2⟩:=G
        split at h
        · rename_i t htot
          change Nat.blt t g.n=true at hn
          split at h
          · rename_i v hv
            -- a value that is there if the guard stands open
            have okc:okT al op=true:=by
              cases op with
              | load m x =>
                cases x with
                | k d=>rfl
                | t a =>
                  simp only [okT]
                  simp only [tOp] at hv
                  cases hx:rdO al kn (some (p,w)) (.t a) with
                  | none=>rw [hx] at hv; simp at hv
                  | some q =>
                    simp only [rdO] at hx
                    cases hq:lkP a al with
                    | none=>rw [hq] at hx; simp at hx
                    | some q=>rfl
              | _=>rfl
            have hok':=okT_ok Rf okc
            by_cases he:e=w
            · have hr:RdOk σ alD (rdO al kn (some (p,w))):=rdO_ok Rf Kn fun q w' e' t e2 h2=>by
                simp only [Option.some.injEq,Prod.mk.injEq] at e'
                obtain ⟨rfl,rfl⟩:=e'
                rw [ht0] at h2
                simp only [Option.some.injEq,Prod.mk.injEq,RV.v.injEq,TV.c.injEq,TC.b.injEq] at h2
                rw [←h2.2,he]
              obtain ⟨d,h1,h2,h3⟩:=tot_ok (n:=g.n) hr Rf.hh htot hv
              obtain ⟨b1,b2⟩:=blk_of hr hv
              refine TrE.op hU (tot_inl htot) h1 (G1 he) (by rw [hn,b1]; simp [wrOk]) ?_
              refine (ih _ _ _ _ _ _ _ ((t,d)::alD) σD h hU' (Rf.set Rf.hh (Ext.refl σ) (by simp only [RR,if_pos he]; exact h2) ⟨⟨t0,atP_cons ht0⟩,fun _=>h3⟩) (Kn.cons Ki) Ki.cons).mono fun a s i hA=>?_
              refine hA.cons (pre:=[(t,.g e w p v)]) rfl Rf.hh (Ext.refl σ) ?_
              rw [Rf.hh.len,b2]
              exact iLe.refl _
            · have he':(!e)=w:=by cases e <;> cases w <;> simp_all
              refine TrE.no (G2 he') (by rw [hn,hok']; rfl) ?_
              refine (ih _ _ _ _ _ _ _ ((t,.tup [])::alD) σD h hU' (Rf.set Rf.hh (Ext.refl σ) (by simp only [RR,if_neg he]) ⟨⟨t0,atP_cons ht0⟩,fun e'=>absurd e' he⟩) (Kn.cons Ki) Ki.cons).mono fun a s i hA=>?_
              refine hA.cons (pre:=[(t,.g e w p v)]) rfl Rf.hh (Ext.refl σ) ?_
              rw [Rf.hh.len]
              exact ⟨rfl,rfl,rfl,rfl,rfl,.inl rfl⟩
          · simp at h
        · exact splitc e p ⟨t0,ht0⟩ h
      | opn =>
        rw [hg] at h G
        dsimp only at h G
        cases hin:inlOf g q ⟨dst,op,gd⟩ with
        | some cs =>
          rw [hin] at h
          dsimp only at h
          have hr:RdOk σ alD (rdO al kn none):=rdO_ok Rf Kn (by simp)
          cases op with
          | call f args =>
            dsimp only at h
            split at h
            · rename_i fv vs hfv hvs
              split at h
              · rename_i gi a b hfn
                split at h
                · rename_i ct hct
                  obtain ⟨⟨rv,σ1⟩,hy,h⟩:=zbE h
                  obtain ⟨df,f1,f2,f3⟩:=hr _ _ hfv
                  obtain ⟨ds,v1,v2,v3⟩:=hr.all hvs
                  obtain ⟨da,db,a1,b1,ga,gb,hop⟩:=fnT_ok (P:=g.P) (n:=g.n) (alD:=alD) (σD:=σD) hfn f2 f3
                  obtain ⟨he,r',σD2,q1,q2,q3,q4,q5,q6⟩:=hI.two ct gi _ σ rv σ1 σD _ hy Rf.hh ((a1.app v2).app b1) (fun v hv=>by
                      rcases List.mem_append.1 hv with hv | hv
                      · rcases List.mem_append.1 hv with hv | hv
                        · exact ga v hv
                        · exact v3 v hv
                      · exact gb v hv)
                  cases dst with
                  | none=>unfold inlOf at hin; split at hin <;> simp at hin
                  | some t =>
                    change Nat.blt t g.n=true at hn
                    refine TrE.inl (wr:=[]) O hU hin G he q5 (by rw [Rf.hh.len,q1.len]; exact q4.len) (fun b hb _=>q6 b hb) (fun orc ho=>hop orc _ _ _ _ _ _ f1 v1 ho) (by rw [hn]; simp [okA,wrOk]) ?_
                    refine (ih _ _ _ _ _ _ _ ((t,r')::alD) σD2 h hU' (Rf.set q1 q4 q2 q3) (Kn.cons Ki) Ki.cons).mono fun a s i hA=>?_
                    refine hA.cons (pre:=[(t,.v (oneT rv))]) rfl Rf.hh q4 ?_
                    rw [Rf.hh.len,q1.len]
                    exact iLe.refl _
                obtain ⟨y,hy,h⟩:=zbE h
                obtain ⟨ct,x,hsel,h⟩:=altK_sel h
                split at h
                · rename_i rv σ1 hput
                  split at h
                  · rename_i hk
                    obtain ⟨df,f1,f2,f3⟩:=hr _ _ hfv
                    obtain ⟨ds,v1,v2,v3⟩:=hr.all hvs
                    obtain ⟨da,db,a1,b1,ga,gb,hop⟩:=fnT_ok (P:=g.P) (n:=g.n) (alD:=alD) (σD:=σD) hfn f2 f3
                    obtain ⟨he,r',σD2,q1,q2,q3,q4,q5,q6,q7⟩:=hI.one _ gi _ σ y ct x rv σ1 σD _ hy hsel hput Rf.hh ((a1.app v2).app b1) (fun v hv=>by
                      rcases List.mem_append.1 hv with hv | hv
                      · rcases List.mem_append.1 hv with hv | hv
                        · exact ga v hv
                        · exact v3 v hv
                      · exact gb v hv)
                    cases dst with
                    | none=>unfold inlOf at hin; split at hin <;> simp at hin
                    | some t =>
                      change Nat.blt t g.n=true at hn
                      have hwr:(k == 0 || wrOk σD σD2 (ct.pl.map PC.blk))=true:=by
                        simp only [Bool.or_eq_true] at hk ⊢
                        rcases hk with hk | hk
                        · left; rw [Nat.eq_of_beq_eq_true hk]; rfl
                        · right; exact q7 (by simpa using hk)
                      refine TrE.inl O hU hin G he q5 (by rw [Rf.hh.len,q1.len]; exact q4.len) q6 (fun orc ho=>hop orc _ _ _ _ _ _ f1 v1 ho) (by rw [hn,hwr]; rfl) ?_
                      refine (ih _ _ _ _ _ _ _ ((t,r')::alD) σD2 h hU' (Rf.set q1 q4 q2 q3) (Kn.cons Ki) Ki.cons).mono fun a s i hA=>?_
                      refine hA.cons (pre:=[(t,.v (oneT rv))]) rfl Rf.hh q4 ?_
                      rw [Rf.hh.len,q1.len]
                      exact iLe.refl _
                  · simp at h
                · simp at h
              · simp at h
            · simp at h
          | _=>simp at h
        | none=>
        rw [hin] at h
        dsimp only at h
        split at h
        · -- pick
          rename_i c x y t
          change Nat.blt t g.n=true at hn
          split at h
          · rename_i cv p hc
            have hat:=lkP_at hc
            obtain ⟨dc,c1,c2,_⟩:=Rf.rg c _ p hc
            change RT cv dc at c2
            -- the one value
            have fin:∀(v:TV) (d:D),OpR g.P (zcs (zc4 g.S)) g.n alD σD (.pick (.t c) x y) d σD []→RT v d→GV σ v→(tOps g q fu (k-1) os kn ((t,.v v)::al) σ fun al' σ' is=>K al' σ' (mkI ⟨some t,.pick (.t c) x y,gd⟩ (cat (.pick (.t c) x y)) none [] σ.length σ.length::is))=some r →
                TrE g q k (⟨some t,.pick (.t c) x y,gd⟩::os) alD σD (After al σ K r):=by
              intro v d h1 h2 h3 h
              refine TrE.op hU hin h1 G (by rw [hn]; simp [okA,wrOk]) ?_
              refine (ih _ _ _ _ _ _ _ ((t,d)::alD) σD h hU' (Rf.set Rf.hh (Ext.refl σ) h2 h3) (Kn.cons Ki) Ki.cons).mono fun a s i hA=>?_
              refine hA.cons (pre:=[(t,.v v)]) rfl Rf.hh (Ext.refl σ) ?_
              rw [Rf.hh.len]
              exact iLe.refl _
            generalize hG:gdC kn p cv=GG at h
            unfold gdC at hG
            split at hG
            · -- true
              have:=RT.c1 (by simp) c2
              subst this
              subst hG
              dsimp only at h
              split at h
              · rename_i v hv
                obtain ⟨d,h1,h2,h3⟩:=rdO_ok Rf (Kn.add (p:=p) (b:=true) fun t' e' ht'=>by rw [hat] at ht'; simp at ht') (by simp) x v hv
                exact fin v d (op_pickT c1 rfl h1) h2 h3 h
              · simp at h
            · have:=RT.c1 (by simp) c2
              subst this
              subst hG
              dsimp only at h
              split at h
              · rename_i v hv
                obtain ⟨d,h1,h2,h3⟩:=rdO_ok Rf (Kn.add (p:=p) (b:=false) fun t' e' ht'=>by rw [hat] at ht'; simp at ht') (by simp) y v hv
                exact fin v d (op_pickF c1 rfl h1) h2 h3 h
              · simp at h
            · rename_i _ e _
              have:=RT.c1 (by simp) c2
              subst this
              cases hk:knk p kn with
              | some b =>
                have hb:=Kn p b hk c e hat
                have hadd:KnOk al ((p,b)::kn):=Kn.add fun t' e' ht'=>by
                  rw [hat] at ht'
                  simp only [Option.some.injEq,Prod.mk.injEq,RV.v.injEq,TV.c.injEq,TC.b.injEq] at ht'
                  rw [←ht'.2,hb]
                cases b with
                | true =>
                  rw [hk] at hG
                  subst hG
                  dsimp only at h
                  split at h
                  · rename_i v hv
                    obtain ⟨d,h1,h2,h3⟩:=rdO_ok Rf hadd (by simp) x v hv
                    exact fin v d (op_pickT c1 hb h1) h2 h3 h
                  · simp at h
                | false =>
                  rw [hk] at hG
                  subst hG
                  dsimp only at h
                  split at h
                  · rename_i v hv
                    obtain ⟨d,h1,h2,h3⟩:=rdO_ok Rf hadd (by simp) y v hv
                    exact fin v d (op_pickF c1 hb h1) h2 h3 h
                  · simp at h
              | none =>
                rw [hk] at hG
                subst hG
                dsimp only at h
                split at h
                · rename_i u v hu hv
                  split at h
                  · rename_i bu bv hbu hbv
                    have cur:∀w,e=w→∀q w',some (p,w)=some (q,w')→∀t' e',atP q al=some (t',.v (.c (.b e')))→e'=w':=fun w hw q w' e1 t' e' ht'=>by
                      simp only [Option.some.injEq,Prod.mk.injEq] at e1
                      obtain ⟨rfl,rfl⟩:=e1
                      rw [hat] at ht'
                      simp only [Option.some.injEq,Prod.mk.injEq,RV.v.injEq,TV.c.injEq,TC.b.injEq] at ht'
                      rw [←ht'.2,hw]
                    cases he:e with
                    | true =>
                      obtain ⟨d,h1,h2,h3⟩:=rdO_ok Rf Kn (cur true he) x u hu
                      have hd:=pk_ok (e:=true) hbu hbv h2
                      subst hd
                      rw [he] at h
                      exact fin (pkV true bu bv) _ (op_pickT c1 he h1) (pkV_ok (σ:=σ) _ _ _).1 (pkV_ok _ _ _).2 h
                    | false =>
                      obtain ⟨d,h1,h2,h3⟩:=rdO_ok Rf Kn (cur false he) y v hv
                      have hd:=pk_ok (e:=false) hbu hbv h2
                      subst hd
                      rw [he] at h
                      exact fin (pkV false bu bv) _ (op_pickF c1 he h1) (pkV_ok (σ:=σ) _ _ _).1 (pkV_ok _ _ _).2 h
                  · simp at h
                · simp at h
            · subst hG; simp at h
          · simp at h
        · -- any other
          have hr:RdOk σ alD (rdO al kn none):=rdO_ok Rf Kn (by simp)
          obtain ⟨v,σ1,rs,wr,d,σD1,h1,h2,h3,h4,h5,h6,_,h7⟩:=tOp_ok (n:=g.n) hr Rf.hh h
          obtain ⟨b1,b2⟩:=blk_of hr h
          dsimp only at h7
          split at h7
          · rename_i hk
            have hwr:(k == 0 || wrOk σD σD1 wr)=true:=by
              simp only [Bool.or_eq_true] at hk ⊢
              rcases hk with hk | hk
              · left; rw [Nat.eq_of_beq_eq_true hk]; rfl
              · right; exact h6 (by simpa using hk)
            cases dst with
            | none =>
              refine TrE.eff h1 G (by rw [b1,hwr]; rfl) ?_
              refine (ih _ _ _ _ _ _ _ alD σD1 h7 hU' (Rf.heap h4 h5) Kn Ki).mono fun a s i hA=>?_
              refine hA.cons (pre:=[]) rfl Rf.hh h5 ?_
              rw [Rf.hh.len,h4.len,b2]
              exact iLe.refl _
            | some t =>
              change Nat.blt t g.n=true at hn
              refine TrE.op hU hin h1 G (by rw [hn,b1,hwr]; rfl) ?_
              refine (ih _ _ _ _ _ _ _ ((t,d)::alD) σD1 h7 hU' (Rf.set h4 h5 h2 h3) (Kn.cons Ki) Ki.cons).mono fun a s i hA=>?_
              refine hA.cons (pre:=[(t,.v v)]) rfl Rf.hh h5 ?_
              rw [Rf.hh.len,h4.len,b2]
              exact iLe.refl _
          · simp at h7
end
end Go.Abs
end
section
namespace Go.Abs
noncomputable section
variable [Gl] [Y:Ty]
structure Rn (m:Nat) (σ1 σ2:Heap) (ρ:Nat→Nat) (F:Nat→Prop):Prop where
  le:m≤σ2.length
  id:∀i,i<m→ρ i=i
  inj:∀i j,i<σ2.length→j<σ2.length→ρ i=ρ j→i=j
  fr:∀i,i<σ2.length→¬F (ρ i)
  row:∀b,F b→∃(i:Nat) (l:List (TT i)),σ1[b]? = some (OB (enc i) l)
  sz:∀(i:Nat),i<σ2.length→∃ob1 ob2,σ1[ρ i]? = some ob1∧σ2[i]? = some ob2∧ob2.sz=ob1.sz
def mN (n:Nat) (ρ:Nat→Nat) (M:Nat→Option Nat):Nat→Option Nat:=fun i=>if i<n then M (ρ i) else none
def fzN (F:Nat→Prop) (M:Nat→Option Nat) (Fz:Nat→Prop):Nat→Prop:=fun c=>Fz c∨∃b,F b∧M b=some c
def DWr (σ1 σ2:Heap) (ρ:Nat→Nat) (F:Nat→Prop) (d1 d2:D):Prop:=∀(M:Nat→Option Nat) (Fz:Nat→Prop) (w:World) (v:Value),Rel σ1 M Fz w→V σ1 M Fz w d1 v→V σ2 (mN σ2.length ρ M) (fzN F M Fz) w d2 v
section
variable {m:Nat} {σ1 σ2:Heap} {ρ:Nat→Nat} {F:Nat→Prop}
theorem VC.fzN {M:Nat→Option Nat} {Fz:Nat→Prop} {w:World} {x:C} {v:Value} (h:VC Fz w x v):VC (Go.Abs.fzN F M Fz) w x v:=h.mono fun c hc=>⟨.inl hc,rfl⟩
theorem DWr.any (d:D):DWr σ1 σ2 ρ F d .any:=fun _ _ _ _ _ _=>.any _
theorem DWr.le {d1 d2 d3:D} (h:DLe d1 d2) (h':DWr σ1 σ2 ρ F d2 d3):DWr σ1 σ2 ρ F d1 d3:=fun M Fz w v R hv=>h' M Fz w v R (h _ _ _ _ _ hv)
theorem DWr.low (N:Rn m σ1 σ2 ρ F) {d:D} (hl:d.low m=true):DWr σ1 σ2 ρ F d d:=by
  intro M Fz w v R h
  have at':∀b,b<m→∀ob,σ1[b]? = some ob→∃ob2,σ2[b]? = some ob2∧ob2.sz=ob.sz:=fun b hb ob ho=>by
    obtain ⟨ob1,ob2,h1,h2,h3⟩:=N.sz b (Nat.lt_of_lt_of_le hb N.le)
    rw [N.id b hb,ho] at h1
    simp only [Option.some.injEq] at h1
    subst h1
    exact ⟨ob2,h2,h3⟩
  have m2:∀b,b<m→mN σ2.length ρ M b=M b:=fun b hb=>by
    unfold mN
    rw [if_pos (Nat.lt_of_lt_of_le hb N.le),N.id b hb]
  induction h with
  | c h=>exact .c h.fzN
  | any v=>exact .any v
  | ptr a ob h hle hv =>
    simp only [D.low,decide_eq_true_eq] at hl
    obtain ⟨ob2,h2,h3⟩:=at' _ hl _ h
    exact .ptr a ob2 h2 (by rw [h3]; exact hle) (fun he=>by rw [h3] at he; rw [m2 _ hl]; exact hv he)
  | sl a n cap hnn ob h hle hv =>
    simp only [D.low,decide_eq_true_eq] at hl
    obtain ⟨ob2,h2,h3⟩:=at' _ hl _ h
    exact .sl a n cap hnn ob2 h2 (by rw [h3]; exact hle) (fun he=>by rw [h3] at he; rw [m2 _ hl]; exact hv he)
  | mp c ob h hv =>
    simp only [D.low,decide_eq_true_eq] at hl
    obtain ⟨ob2,h2,h3⟩:=at' _ hl _ h
    exact .mp c ob2 h2 (fun he=>by rw [h3] at he; rw [m2 _ hl]; exact hv he)
  | fn vs ws h1 h2 hv hw ih1 ih2 =>
    simp only [D.low,Bool.and_eq_true] at hl
    exact .fn vs ws h1 h2 (fun i d v a b=>ih1 i d v a b (D.lows_get hl.1 i d a)) (fun i d v a b=>ih2 i d v a b (D.lows_get hl.2 i d a))
  | agg vs h1 hv ih=>simp only [D.low] at hl; exact .agg vs h1 (fun i d v a b=>ih i d v a b (D.lows_get hl i d a))
  | tup vs h1 hv ih=>simp only [D.low] at hl; exact .tup vs h1 (fun i d v a b=>ih i d v a b (D.lows_get hl i d a))
theorem DWr.data (N:Rn m σ1 σ2 ρ F) {d:D} (hl:d.low 0=true):DWr σ1 σ2 ρ F d d:=DWr.low N (D.low_mono (Nat.zero_le _) hl)
theorem DWr.ptr (N:Rn m σ1 σ2 ρ F) {i off sz:Nat} (hi:i<σ2.length):DWr σ1 σ2 ρ F (.ptr (ρ i) off sz) (.ptr i off sz):=fun M Fz w v R h=>by
  obtain ⟨ob1,ob2,h1,h2,h3⟩:=N.sz i hi
  cases h with
  | ptr a ob h hle hv =>
    rw [h1] at h
    simp only [Option.some.injEq] at h
    subst h
    exact .ptr a ob2 h2 (by rw [h3]; exact hle) (fun he=>by rw [h3] at he; unfold mN; rw [if_pos hi]; exact hv he)
theorem DWr.sl (N:Rn m σ1 σ2 ρ F) {i off len es sz:Nat} (hi:i<σ2.length):DWr σ1 σ2 ρ F (.sl (ρ i) off len es sz) (.sl i off len es sz):=fun M Fz w v R h=>by
  obtain ⟨ob1,ob2,h1,h2,h3⟩:=N.sz i hi
  cases h with
  | sl a n cap hnn ob h hle hv =>
    rw [h1] at h
    simp only [Option.some.injEq] at h
    subst h
    exact .sl a n cap hnn ob2 h2 (by rw [h3]; exact hle) (fun he=>by rw [h3] at he; unfold mN; rw [if_pos hi]; exact hv he)
theorem DWr.mp (N:Rn m σ1 σ2 ρ F) {i:Nat} (hi:i<σ2.length):DWr σ1 σ2 ρ F (.mp (ρ i)) (.mp i):=fun M Fz w v R h=>by
  obtain ⟨ob1,ob2,h1,h2,h3⟩:=N.sz i hi
  cases h with
  | mp c ob h hv =>
    rw [h1] at h
    simp only [Option.some.injEq] at h
    subst h
    exact .mp c ob2 h2 (fun he=>by rw [h3] at he; unfold mN; rw [if_pos hi]; exact hv he)
theorem DWr.frz (N:Rn m σ1 σ2 ρ F) {b i:Nat} {l:List (TT i)} (hF:F b) (hb:σ1[b]? = some (OB (enc i) l)):DWr σ1 σ2 ρ F (OS (esz i) b l.length) (.c (.frz false (l.map (enc i)))):=fun M Fz w v R h=>by
  classical
  let MF:Nat→Option Nat:=fun b=>if F b then M b else none
  have RF:Rel σ1 MF Fz w:=by
    refine ⟨fun b c hc=>?_,fun b b' c hc hc'=>?_,R.fz,R.gl⟩
    · simp only [MF] at hc
      split at hc
      · rename_i hfb
        obtain ⟨h1,ob,o,h2,h3,h4⟩:=R.blk b c hc
        refine ⟨h1,ob,o,h2,h3,?_⟩
        obtain ⟨i',l',h5⟩:=N.row b hfb
        rw [h2] at h5
        simp only [Option.some.injEq] at h5
        subst h5
        obtain ⟨arr,T,ho,hle,hv⟩:=h4
        refine ⟨arr,T,ho,hle,fun j d v a b=>?_⟩
        obtain ⟨h6,h7⟩:=hv j d v a b
        rw [List.getElem?_map,Option.map_eq_some_iff] at a
        obtain ⟨x,_,rfl⟩:=a
        cases h6 with
        | c h6=>exact ⟨.c h6,h7⟩
      · simp at hc
    · simp only [MF] at hc hc'
      split at hc
      · split at hc'
        · exact R.inj b b' c hc hc'
        · simp at hc'
      · simp at hc
  have hv:V σ1 MF Fz w (OS (esz i) b l.length) v:=by
    cases h with
    | sl a n cap hnn ob h hle hv =>
      refine .sl a n cap hnn ob h hle fun he=>?_
      rcases hv he with h1 | ⟨c,o,arr,T,h1,h2⟩
      · exact .inl h1
      · exact .inr ⟨c,o,arr,T,by simp only [MF,if_pos hF]; exact h1,h2⟩
  have h1:=frzC_own (k:=98) (n:=l.length) (zaZ i) (Y.ps i) hb rfl
  have h2:=frzC_ok RF 100 _ _ v h1 hv
  have h3:VC (fzN F M Fz) w (.frz (Nat.blt 0 l.length) (l.map (enc i))) v:=h2.mono fun c hc=>by
    refine ⟨?_,rfl⟩
    rcases hc with hc | ⟨b',_,hc⟩
    · exact .inl hc
    · simp only [MF] at hc
      split at hc
      · rename_i hf; exact .inr ⟨b',hf,hc⟩
      · simp at hc
  have:=nrmC_ok h3
  exact .c this
theorem DWr.agg {ds es:List D} (h:All2 (DWr σ1 σ2 ρ F) ds es):DWr σ1 σ2 ρ F (.agg ds) (.agg es):=fun M Fz w v R hv=>by
  cases hv with
  | agg vs h1 hv =>
    refine .agg vs (by rw [h1,h.len]) fun i d v a b=>?_
    obtain ⟨d1,h2,h3⟩:=h.get' i d a
    exact h3 M Fz w v R (hv i d1 v h2 b)
theorem DWr.tup {ds es:List D} (h:All2 (DWr σ1 σ2 ρ F) ds es):DWr σ1 σ2 ρ F (.tup ds) (.tup es):=fun M Fz w v R hv=>by
  cases hv with
  | tup vs h1 hv =>
    refine .tup vs (by rw [h1,h.len]) fun i d v a b=>?_
    obtain ⟨d1,h2,h3⟩:=h.get' i d a
    exact h3 M Fz w v R (hv i d1 v h2 b)
def ObR (σ1 σ2:Heap) (ρ:Nat→Nat) (F:Nat→Prop):Ob→Ob→Prop
  | .cells ds,ob=>∃es,ob=.cells es∧All2 (DWr σ1 σ2 ρ F) ds es
  | .map es k,ob=>ob=.map es k∧(es.all fun e=>e.2.1.low 0)=true
  | .gone k,ob=>False
structure RnH (m:Nat) (σ1 σ2:Heap) (ρ:Nat→Nat) (F:Nat→Prop):Prop extends Rn m σ1 σ2 ρ F where
  ob:∀(i:Nat),i<σ2.length→∃ob1 ob2,σ1[ρ i]? = some ob1∧σ2[i]? = some ob2∧ObR σ1 σ2 ρ F ob1 ob2
theorem RnH.rel (N:RnH m σ1 σ2 ρ F) {M:Nat→Option Nat} {Fz:Nat→Prop} {w:World} (R:Rel σ1 M Fz w):Rel σ2 (mN σ2.length ρ M) (fzN F M Fz) w:=by
  refine ⟨fun b c hb=>?_,fun b b' c hb hb'=>?_,fun c hc=>?_,Gl.mono (fun c h=>⟨.inl h,rfl⟩) R.gl⟩
  · unfold mN at hb
    split at hb
    · rename_i hlt
      obtain ⟨h1,ob,o,h2,h3,h4⟩:=R.blk _ c hb
      obtain ⟨ob1,ob2,h5,h6,h7⟩:=N.ob b hlt
      rw [h2] at h5
      simp only [Option.some.injEq] at h5
      subst h5
      refine ⟨fun hf=>?_,ob2,o,h6,h3,?_⟩
      · rcases hf with hf | ⟨b',hf,hc⟩
        · exact h1 hf
        · rw [R.inj _ _ c hc hb] at hf
          exact N.fr b hlt hf
      · cases ob with
        | cells cs =>
          obtain ⟨arr,T,ho,hle,hv⟩:=h4
          obtain ⟨es,rfl,ha⟩:=h7
          refine ⟨arr,T,ho,by rw [←ha.len]; exact hle,fun i d v x y=>?_⟩
          obtain ⟨d1,h8,h9⟩:=ha.get' i d x
          obtain ⟨h10,h11⟩:=hv i d1 v h8 y
          exact ⟨h9 M Fz w v R h10,h11⟩
        | map es clock =>
          obtain ⟨arr,ho,hle,hv⟩:=h4
          obtain ⟨rfl,hl⟩:=h7
          refine ⟨arr,ho,hle,fun i k d n e x y=>?_⟩
          obtain ⟨p,q,r⟩:=hv i k d n e x y
          rw [List.all_eq_true] at hl
          exact ⟨p,q,DWr.data N.toRn (hl (k,d,n) (List.mem_of_getElem? x)) M Fz w _ R r⟩
        | gone n=>exact h7.elim
    · simp at hb
  · unfold mN at hb hb'
    split at hb
    · rename_i h1
      split at hb'
      · rename_i h2
        exact N.inj b b' h1 h2 (R.inj _ _ c hb hb')
      · simp at hb'
    · simp at hb
  · rcases hc with hc | ⟨b,_,hc⟩
    · exact R.fz c hc
    · exact (R.lt hc).2
theorem RnH.evo (N:RnH m σ1 σ2 ρ F) {σ:Heap} (hm:σ.length≤m) {M M':Nat→Option Nat} {Fz Fz':Nat→Prop} {w w':World} (hF:∀b,F b→m≤b) (R:Rel σ M Fz w) (R1:Rel σ1 M' Fz' w') (E:Evo σ M Fz w σ1 M' Fz' w') :
    Evo σ M Fz w σ2 (mN σ2.length ρ M') (fzN F M' Fz') w':=by
  refine ⟨E.size,E.frame,fun b c h=>?_,fun c h=>⟨.inl (E.fz c h).1,(E.fz c h).2⟩,fun c h=>?_,E.shp,fun b ob hb=>?_,E.out⟩
  · unfold mN at h
    split at h
    · exact E.ran _ c h
    · simp at h
  · rcases h with h | ⟨b,_,h⟩
    · exact E.fz' c h
    · rcases E.ran b c h with h' | h'
      · exact .inr (.inl h')
      · exact .inr (.inr h')
  · obtain ⟨ob',h1,h2,h3⟩:=E.keep b ob hb
    have hlt:b<m:=Nat.lt_of_lt_of_le (List.getElem?_eq_some_iff.1 hb).1 hm
    obtain ⟨ob1,ob2,h4,h5,h6⟩:=N.sz b (Nat.lt_of_lt_of_le hlt N.le)
    rw [N.id b hlt,h1] at h4
    simp only [Option.some.injEq] at h4
    subst h4
    refine ⟨ob2,h5,by rw [h6]; exact h2,fun he=>?_⟩
    unfold mN
    rw [if_pos (Nat.lt_of_lt_of_le hlt N.le),N.id b hlt]
    exact h3 (by rw [←h6]; exact he)
end
end
end Go.Abs
end
section
namespace Go.Abs
noncomputable section
variable [Gl] [Y:Ty]
def SzC (m:Nat) (σ1 σ2:Heap):Prop:=∀b,b<m→∀ob,σ1[b]? = some ob→∃ob2,σ2[b]? = some ob2∧ob2.sz=ob.sz
def DWk (m:Nat) (d1 d2:D):Prop:=∀(σ1 σ2:Heap) (M:Nat→Option Nat) (Fz:Nat→Prop) (w:World) (v:Value),SzC m σ1 σ2→V σ1 M Fz w d1 v→V σ2 (cutM M m) Fz w d2 v
theorem DWk.any (m:Nat) (d:D):DWk m d .any:=fun _ _ _ _ _ _ _ _=>.any _
theorem DWk.low {m:Nat} {d:D} (hl:d.low m=true):DWk m d d:=by
  intro σ1 σ2 M Fz w v hs h
  induction h with
  | c h=>exact .c h
  | any v=>exact .any v
  | ptr a ob h hle hv =>
    simp only [D.low,decide_eq_true_eq] at hl
    obtain ⟨ob2,h2,h3⟩:=hs _ hl _ h
    exact .ptr a ob2 h2 (by rw [h3]; exact hle) (fun he=>by rw [h3] at he; simpa [cutM,hl] using hv he)
  | sl a n cap hnn ob h hle hv =>
    simp only [D.low,decide_eq_true_eq] at hl
    obtain ⟨ob2,h2,h3⟩:=hs _ hl _ h
    exact .sl a n cap hnn ob2 h2 (by rw [h3]; exact hle) (fun he=>by rw [h3] at he; simpa [cutM,hl] using hv he)
  | mp c ob h hv =>
    simp only [D.low,decide_eq_true_eq] at hl
    obtain ⟨ob2,h2,h3⟩:=hs _ hl _ h
    exact .mp c ob2 h2 (fun he=>by rw [h3] at he; simpa [cutM,hl] using hv he)
  | fn vs ws h1 h2 hv hw ih1 ih2 =>
    simp only [D.low,Bool.and_eq_true] at hl
    exact .fn vs ws h1 h2 (fun i d v a b=>ih1 i d v a b (D.lows_get hl.1 i d a)) (fun i d v a b=>ih2 i d v a b (D.lows_get hl.2 i d a))
  | agg vs h1 hv ih=>simp only [D.low] at hl; exact .agg vs h1 (fun i d v a b=>ih i d v a b (D.lows_get hl i d a))
  | tup vs h1 hv ih=>simp only [D.low] at hl; exact .tup vs h1 (fun i d v a b=>ih i d v a b (D.lows_get hl i d a))
theorem DWk.le {m:Nat} {d1 d2 d3:D} (h:DLe d1 d2) (h':DWk m d2 d3):DWk m d1 d3:=fun σ1 σ2 M Fz w v hs hv=>h' σ1 σ2 M Fz w v hs (h σ1 M Fz w v hv)
theorem DWk.agg {m:Nat} {ds es:List D} (h:All2 (DWk m) ds es):DWk m (.agg ds) (.agg es):=fun σ1 σ2 M Fz w v hs hv=>by
  cases hv with
  | agg vs h1 hv =>
    refine .agg vs (by rw [h1,h.len]) fun i d v a b=>?_
    obtain ⟨d1,h2,h3⟩:=h.get' i d a
    exact h3 σ1 σ2 M Fz w v hs (hv i d1 v h2 b)
theorem DWk.tup {m:Nat} {ds es:List D} (h:All2 (DWk m) ds es):DWk m (.tup ds) (.tup es):=fun σ1 σ2 M Fz w v hs hv=>by
  cases hv with
  | tup vs h1 hv =>
    refine .tup vs (by rw [h1,h.len]) fun i d v a b=>?_
    obtain ⟨d1,h2,h3⟩:=h.get' i d a
    exact h3 σ1 σ2 M Fz w v hs (hv i d1 v h2 b)
def ObW (m:Nat):Ob→Ob→Prop
  | .cells ds,ob=>∃es,ob=.cells es∧All2 (DWk m) ds es
  | .map es k,ob=>ob=.map es k∧(es.all fun e=>e.2.1.low m)=true
  | .gone k,ob=>ob=.gone k
theorem ObW.sz {m:Nat} {a b:Ob} (h:ObW m a b):b.sz=a.sz:=by
  cases a with
  | cells ds=>obtain ⟨es,rfl,h⟩:=h; simp only [Ob.sz,h.len]
  | map es k=>obtain ⟨rfl,_⟩:=h; rfl
  | gone k=>cases h; rfl
structure HpW (m:Nat) (σ1 σ2:Heap):Prop where
  len:σ2.length=m
  le:m≤σ1.length
  ob:∀b ob,σ1[b]? = some ob→b<m→∃ob2,σ2[b]? = some ob2∧ObW m ob ob2
theorem HpW.szc {m:Nat} {σ1 σ2:Heap} (h:HpW m σ1 σ2):SzC m σ1 σ2:=fun b hb ob ho=>let ⟨ob2,h1,h2⟩:=h.ob b ob ho hb; ⟨ob2,h1,h2.sz⟩
theorem HpW.rel {m:Nat} {σ1 σ2:Heap} (h:HpW m σ1 σ2) {M:Nat→Option Nat} {Fz:Nat→Prop} {w:World} (R:Rel σ1 M Fz w):Rel σ2 (cutM M m) Fz w:=by
  refine ⟨fun b c hb=>?_,fun b b' c hb hb'=>?_,R.fz,R.gl⟩
  · unfold cutM at hb
    split at hb
    · rename_i hlt
      obtain ⟨h1,ob,o,h2,h3,h4⟩:=R.blk b c hb
      obtain ⟨ob2,h5,h6⟩:=h.ob b ob h2 hlt
      refine ⟨h1,ob2,o,h5,h3,?_⟩
      cases ob with
      | cells cs =>
        obtain ⟨arr,T,ho,hle,hv⟩:=h4
        obtain ⟨es,rfl,ha⟩:=h6
        refine ⟨arr,T,ho,by rw [←ha.len]; exact hle,fun i d v x y=>?_⟩
        obtain ⟨d1,h7,h8⟩:=ha.get' i d x
        obtain ⟨h9,h10⟩:=hv i d1 v h7 y
        exact ⟨h8 σ1 σ2 M Fz w v h.szc h9,h10⟩
      | map es clock =>
        obtain ⟨arr,ho,hle,hv⟩:=h4
        obtain ⟨rfl,hl⟩:=h6
        refine ⟨arr,ho,hle,fun i k d n e x y=>?_⟩
        obtain ⟨p,q,r⟩:=hv i k d n e x y
        rw [List.all_eq_true] at hl
        exact ⟨p,q,DWk.low (hl (k,d,n) (List.mem_of_getElem? x)) σ1 σ2 M Fz w _ h.szc r⟩
      | gone n=>exact h4.elim
    · simp at hb
  · unfold cutM at hb hb'
    split at hb
    · split at hb'
      · exact R.inj b b' c hb hb'
      · simp at hb'
    · simp at hb
theorem HpW.evo {m:Nat} {σ1 σ2 σ:Heap} (h:HpW m σ1 σ2) {M M':Nat→Option Nat} {Fz Fz':Nat→Prop} {w w':World} (E:Evo σ M Fz w σ1 M' Fz' w') (hm:σ.length≤m):Evo σ M Fz w σ2 (cutM M' m) Fz' w':=by
  refine ⟨E.size,E.frame,fun b c h=>?_,E.fz,E.fz',E.shp,fun b ob hb=>?_,E.out⟩
  · unfold cutM at h
    split at h
    · exact E.ran b c h
    · simp at h
  · obtain ⟨ob',h1,h2,h3⟩:=E.keep b ob hb
    have hlt:b<m:=Nat.lt_of_lt_of_le (List.getElem?_eq_some_iff.1 hb).1 hm
    obtain ⟨ob2,h4,h5⟩:=h.ob b ob' h1 hlt
    exact ⟨ob2,h4,by rw [h5.sz]; exact h2,fun he=>by simp only [cutM,if_pos hlt]; exact h3 (by rw [←h5.sz]; exact he)⟩
structure StW0 (m:Nat) (al1:AL) (σ1:Heap) (al2:AL) (σ2:Heap):Prop where
  hp:HpW m σ1 σ2
  rg:∀t d2,lk t al2=some d2→∃d1,lk t al1=some d1∧DWk m d1 d2
def StW (m:Nat) (al1:AL) (σ1:Heap) (al2:AL) (σ2:Heap):Prop:=m≤σ2.length∧∀(n:Nat) (M':Nat→Option Nat) (Fz':Nat→Prop) (w':World) (tmps:Array Value),Rel σ1 M' Fz' w'→AEnv n σ1 M' Fz' w' al1 tmps →
  ∃M2 Fz2,Rel σ2 M2 Fz2 w'∧AEnv n σ2 M2 Fz2 w' al2 tmps∧∀(σ:Heap) (M:Nat→Option Nat) (Fz:Nat→Prop) (w:World),Rel σ M Fz w→Evo σ M Fz w σ1 M' Fz' w'→σ.length≤m→Evo σ M Fz w σ2 M2 Fz2 w'
section
variable {P:Program} {n:Nat} {al al1 al2:AL} {σ σ1 σ2:Heap} {Q Q':AExit→AL→Heap→Prop}
theorem StW0.st {m:Nat} (h:StW0 m al1 σ1 al2 σ2):StW m al1 σ1 al2 σ2:=⟨by rw [h.hp.len]; exact Nat.le_refl _,fun n M' Fz' w' tmps R A=>by
  refine ⟨cutM M' m,Fz',h.hp.rel R,⟨A.1,fun t d ht=>?_⟩,fun σ M Fz w _ E hm=>h.hp.evo E hm⟩
  obtain ⟨d1,h1,h2⟩:=h.rg t d ht
  obtain ⟨v,h3,h4⟩:=A.2 t d1 h1
  exact ⟨v,h3,h2 _ _ _ _ _ _ h.hp.szc h4⟩⟩
theorem StW.refl {m:Nat} (h:m≤σ.length):StW m al σ al σ:=⟨h,fun n M' Fz' w' tmps R A=>⟨M',Fz',R,A,fun σ M Fz w _ E _=>E⟩⟩
theorem StW.trans {m:Nat} {al3:AL} {σ3:Heap} (h:StW m al1 σ1 al2 σ2) (h':StW m al2 σ2 al3 σ3):StW m al1 σ1 al3 σ3:=⟨h'.1,fun n M' Fz' w' tmps R A=>by
  obtain ⟨M2,F2,R2,A2,E2⟩:=h.2 n M' Fz' w' tmps R A
  obtain ⟨M3,F3,R3,A3,E3⟩:=h'.2 n M2 F2 w' tmps R2 A2
  exact ⟨M3,F3,R3,A3,fun σ M Fz w R0 E hm=>E3 σ M Fz w R0 (E2 σ M Fz w R0 E hm) hm⟩⟩
theorem StW.rn {m:Nat} {ρ:Nat→Nat} {F:Nat→Prop} (N:RnH m σ1 σ2 ρ F) (hF:∀b,F b→m≤b) (h:∀t d2,lk t al2=some d2→∃d1,lk t al1=some d1∧DWr σ1 σ2 ρ F d1 d2):StW m al1 σ1 al2 σ2:=⟨N.le,fun n M' Fz' w' tmps R A=>by
  refine ⟨_,_,N.rel R,⟨A.1,fun t d ht=>?_⟩,fun σ M Fz w R0 E hm=>N.evo hm hF R0 R E⟩
  obtain ⟨d1,h1,h2⟩:=h t d ht
  obtain ⟨v,h3,h4⟩:=A.2 t d1 h1
  exact ⟨v,h3,h2 _ _ _ _ R h4⟩⟩
theorem StW.use {m:Nat} (h:StW m al1 σ1 al2 σ2) {M M':Nat→Option Nat} {Fz Fz':Nat→Prop} {w w':World} {tmps:Array Value} (R0:Rel σ M Fz w) (R:Rel σ1 M' Fz' w') (A:AEnv n σ1 M' Fz' w' al1 tmps) (E:Evo σ M Fz w σ1 M' Fz' w') (hm:σ.length≤m) :
    ∃M2 Fz2,Rel σ2 M2 Fz2 w'∧AEnv n σ2 M2 Fz2 w' al2 tmps∧Evo σ M Fz w σ2 M2 Fz2 w'∧σ.length≤σ2.length:=by
  obtain ⟨M2,F2,R2,A2,E2⟩:=h.2 n M' Fz' w' tmps R A
  exact ⟨M2,F2,R2,A2,E2 σ M Fz w R0 E hm,Nat.le_trans hm h.1⟩
theorem Sem.monoW {ac:ACode} (h:Sem P ac n al σ Q) (hq:∀x al' σ',Q x al' σ'→Q' x al' σ'∨∃al2 σ2,StW σ.length al' σ' al2 σ2∧Q' x al2 σ2):Sem P ac n al σ Q':=by
  intro c hc M Fz w a K R A hK
  refine h c hc M Fz w a K R A fun x al' σ' a' w' M' Fz' hQ hd R' A' E' hl=>?_
  rcases hq x al' σ' hQ with hq' | ⟨al2,σ2,hw,hq'⟩
  · exact hK x al' σ' a' w' M' Fz' hq' hd R' A' E' hl
  · obtain ⟨M2,F2,R2,A2,E2,l2⟩:=hw.use R R' A' E' (Nat.le_refl _)
    exact hK x al2 σ2 a' w' M2 F2 hq' hd R2 A2 E2 l2
theorem Sem.seqW {a b:ACode} (h:Sem P a n al σ fun x al1 σ1=>match x with | .normal=>Sem P b n al1 σ1 Q∨∃al2 σ2,StW σ.length al1 σ1 al2 σ2∧Sem P b n al2 σ2 Q | x=>Q x al1 σ1):Sem P (.seq a b) n al σ Q:=by
  refine Sem.seq (h.monoW (Q':=fun x al1 σ1=>match x with | .normal=>∃al2 σ2,Wk σ.length al1 σ1 al2 σ2∧Sem P b n al2 σ2 Q | x=>Q x al1 σ1) fun x al' σ' hq=>?_)
  cases x with
  | normal =>
    rcases hq with hq | ⟨al2,σ2,hw,hq⟩
    · exact .inl ⟨al',σ',.refl,hq⟩
    · exact .inr ⟨al2,σ2,hw,al2,σ2,.refl,hq⟩
  | exit i=>exact .inl hq
  | ret=>exact .inl hq
theorem SemL.preW {ac:ACode} {k:Nat} (hs:StW σ.length al σ al2 σ2) (h:SemL P ac k n al2 σ2 Q):SemL P ac k n al σ Q:=by
  intro c hc M Fz w a K R A hK
  obtain ⟨M2,F2,R2,A2,E2,l2⟩:=hs.use R R A (Evo.refl R) (Nat.le_refl _)
  exact h c hc M2 F2 w a K R2 A2 fun x al' σ' a' w' M' Fz' hQ hd R' A' E' hl=>hK x al' σ' a' w' M' Fz' hQ hd R' A' (E2.trans E' l2) (Nat.le_trans l2 hl)
theorem SemL.succW {b:ACode} {k:Nat} (h:Sem P b n al σ fun x al1 σ1=>match x with | .normal=>∃al2 σ2,StW σ.length al1 σ1 al2 σ2∧SemL P b k n al2 σ2 Q | x=>Q x al1 σ1):SemL P b (k+1) n al σ Q:=by
  refine SemL.succ (h.monoW (Q':=fun x al1 σ1=>match x with | .normal=>∃al2 σ2,Wk σ.length al1 σ1 al2 σ2∧SemL P b k n al2 σ2 Q | x=>∃al2 σ2,Wk σ.length al1 σ1 al2 σ2∧Q x al2 σ2) fun x al' σ' hq=>?_)
  cases x with
  | normal =>
    obtain ⟨al2,σ2,hw,hq⟩:=hq
    exact .inr ⟨al2,σ2,hw,al2,σ2,.refl,hq⟩
  | exit i=>exact .inl ⟨al',σ',.refl,hq⟩
  | ret=>exact .inl ⟨al',σ',.refl,hq⟩
end
section
theorem RC_wk0 {σ:TH} {x:TC} {d:D} (r:RC x d) (g:GC σ x):DWk σ.length d x.er:=by
  rcases r with rfl | rfl
  · exact DWk.any _ _
  · cases x with
    | any=>exact DWk.any _ _
    | d y=>exact DWk.low g
    | own i b v n=>obtain ⟨blk,h,_⟩:=g; exact DWk.low (by simp only [TC.er,OS,D.low,decide_eq_true_eq]; exact (List.getElem?_eq_some_iff.1 h).1)
    | op i b v n k a off=>obtain ⟨blk,h,_⟩:=g; exact DWk.low (by simp only [TC.er,D.low,decide_eq_true_eq]; exact (List.getElem?_eq_some_iff.1 h).1)
    | os i b v n lo len=>obtain ⟨blk,h,_⟩:=g; exact DWk.low (by simp only [TC.er,D.low,decide_eq_true_eq]; exact (List.getElem?_eq_some_iff.1 h).1)
    | ap b off len sz k=>exact DWk.low (by simp only [TC.er,D.low,decide_eq_true_eq]; exact g)
    | _=>exact DWk.low rfl
theorem RC_wk {σ:TH} {x:TC} {d:D} (r:RC x d) (g:GC σ x):∃d2,DWk σ.length d d2∧RC x d2:=⟨_,RC_wk0 r g,.inr rfl⟩
theorem RCs_wk {σ:TH} {xs:List TC} {ds:List D} (r:All2 RC xs ds) (g:∀x∈xs,GC σ x):∃es,All2 (DWk σ.length) ds es∧All2 RC xs es:=by
  induction r with
  | nil=>exact ⟨[],.nil,.nil⟩
  | cons h _ ih =>
    obtain ⟨e,h1,h2⟩:=RC_wk h (g _ (List.mem_cons_self ..))
    obtain ⟨es,h3,h4⟩:=ih fun x hx=>g x (List.mem_cons_of_mem _ hx)
    exact ⟨e::es,.cons h1 h3,.cons h2 h4⟩
theorem RE_wk {σ:TH} {p:Bool×List TC} {d:D} (r:RE p d) (g:∀x∈p.2,GC σ x):∃d2,DWk σ.length d d2∧RE p d2:=by
  obtain ⟨f,xs⟩:=p
  cases f with
  | true =>
    obtain ⟨ds,rfl,h⟩:=r
    obtain ⟨es,h1,h2⟩:=RCs_wk h g
    exact ⟨.agg es,DWk.agg h1,es,rfl,h2⟩
  | false =>
    obtain ⟨x,rfl,h⟩:=r
    obtain ⟨e,h1,h2⟩:=RC_wk h (g x (by simp))
    exact ⟨e,h1,x,rfl,h2⟩
theorem RT_wk {σ:TH} {x:TV} {d:D} (r:RT x d) (g:GV σ x):∃d2,DWk σ.length d d2∧RT x d2:=by
  cases x with
  | c x=>exact RC_wk r g
  | agg xs =>
    obtain ⟨ds,rfl,h⟩:=r
    obtain ⟨es,h1,h2⟩:=RCs_wk h g
    exact ⟨.agg es,DWk.agg h1,es,rfl,h2⟩
  | tup xs =>
    obtain ⟨ds,rfl,h⟩:=r
    have:∃es,All2 (DWk σ.length) ds es∧All2 RE xs es:=by
      induction h with
      | nil=>exact ⟨[],.nil,.nil⟩
      | cons h _ ih =>
        obtain ⟨e,h1,h2⟩:=RE_wk h (g _ (List.mem_cons_self ..))
        obtain ⟨es,h3,h4⟩:=ih fun x hx=>g x (List.mem_cons_of_mem _ hx)
        exact ⟨e::es,.cons h1 h3,.cons h2 h4⟩
    obtain ⟨es,h1,h2⟩:=this
    exact ⟨.tup es,DWk.tup h1,es,rfl,h2⟩
theorem RR_wk {al:TA} {σ:TH} {x:RV} {d:D} (r:RR x d) (g:GW al σ x):∃d2,DWk σ.length d d2∧RR x d2:=by
  cases x with
  | v x=>exact RT_wk r g
  | g c w p x =>
    by_cases h:c=w
    · simp only [RR,if_pos h] at r ⊢; exact RT_wk r (g.2 h)
    · simp only [RR,if_neg h] at r ⊢; subst r; exact ⟨.tup [],DWk.low rfl,rfl⟩
theorem rdV_wk {m:Nat} {c:VCd} {v:TV} {d:D} {a:c.dn} (h:rdV c v=some a) (r:RT v d):DWk m d (c.enc a):=by
  obtain ⟨h1,h2,_⟩:=rdV_ok h r
  refine DWk.le (d2:=nrm d) (fun σ M Fz w v hv=>nrm_ok hv) ?_
  rw [h1]
  exact DWk.low (D.low_mono (Nat.zero_le _) (c.enc_low a))
theorem rdC_wk {m:Nat} {c:CC} {x:TC} {d:D} {a:c.dn} (h:rdC c x=some a) (r:RC x d):DWk m d (.c (encC enc c a)):=by
  obtain ⟨h1,h2⟩:=rdC_ok h
  rcases r with r | rfl
  · exact absurd r h1
  · rw [←h2]
    refine DWk.le (d2:=nrm1 x.er) (fun σ M Fz w v hv=>nrm1xok hv) ?_
    rw [h2]
    exact DWk.low rfl
theorem exists_list {α:Type} {p:Nat→α→Prop} (m:Nat) (h:∀b,b<m→∃a,p b a):∃l:List α,l.length=m∧∀b a,l[b]? = some a→p b a:=by
  induction m with
  | zero=>exact ⟨[],rfl,fun b a h=>by simp at h⟩
  | succ m ih =>
    obtain ⟨l,h1,h2⟩:=ih fun b hb=>h b (by omega)
    obtain ⟨a,ha⟩:=h m (by omega)
    refine ⟨l++[a],by simp [h1],fun b x hx=>?_⟩
    rcases Nat.lt_or_ge b m with hlt | hge
    · rw [List.getElem?_append_left (by omega)] at hx; exact h2 b x hx
    · have hb:=(List.getElem?_eq_some_iff.1 hx).1
      simp at hb
      have:b=m:=by omega
      subst this
      rw [List.getElem?_append_right (by omega),h1,Nat.sub_self] at hx
      simp only [List.getElem?_cons_zero,Option.some.injEq] at hx
      subst hx
      exact ha
theorem lkP_key {t:Nat}:∀{al:TA} {f:Nat→D},(∃x p,lkP t al=some (x,p))→lk t (al.map fun p=>(p.1,f p.1))=some (f t):=by
  intro al f
  induction al with
  | nil=>intro ⟨x,p,h⟩; simp [lkP] at h
  | cons y al ih =>
    intro ⟨x,p,h⟩
    obtain ⟨s,z⟩:=y
    simp only [lkP] at h
    simp only [List.map_cons,lk]
    split at h
    · rename_i hb
      have:=Nat.eq_of_beq_eq_true hb
      subst this
      first | rw [hb] | rfl
    · rename_i hb
      try rw [hb]
      exact ih ⟨x,p,h⟩
theorem lkP_key' {t:Nat} {d:D}:∀{al:TA} {f:Nat→D},lk t (al.map fun p=>(p.1,f p.1))=some d→(∃x p,lkP t al=some (x,p))∧d=f t:=by
  intro al f
  induction al with
  | nil=>intro h; simp [lk] at h
  | cons y al ih =>
    intro h
    obtain ⟨s,z⟩:=y
    simp only [List.map_cons,lk] at h
    simp only [lkP]
    split at h
    · rename_i hb
      have:=Nat.eq_of_beq_eq_true hb
      simp only [Option.some.injEq] at h
      try rw [hb]
      exact ⟨⟨z,_,rfl⟩,by rw [←h,this]⟩
    · rename_i hb
      try rw [hb]
      exact ih h
theorem stw_of {al2:TA} {σ2:TH} {alD1:AL} {σD1:Heap} (hle:σ2.length≤σD1.length)
    (hr:∀t x p,lkP t al2=some (x,p)→GW al2 σ2 x∧∃d1 d2,lk t alD1=some d1∧DWk σ2.length d1 d2∧RR x d2)
    (hb:∀(b:Nat) blk,σ2[b]? = some blk→∃ob1 ob2,σD1[b]? = some ob1∧ObW σ2.length ob1 ob2∧RB blk ob2)
    (hg:∀(b:Nat) w cs,σ2[b]? = some (.cells w cs)→∀p∈cs,GC σ2 p.2∧p.1≤w) :
    ∃alD2 σD2,StW σ2.length alD1 σD1 alD2 σD2∧Ref al2 σ2 alD2 σD2:=by
  have hf:∃f:Nat→D,∀t x p,lkP t al2=some (x,p)→∃d1,lk t alD1=some d1∧DWk σ2.length d1 (f t)∧RR x (f t):=by
    have:∀t,∃d2,∀x p,lkP t al2=some (x,p)→∃d1,lk t alD1=some d1∧DWk σ2.length d1 d2∧RR x d2:=by
      intro t
      cases ht:lkP t al2 with
      | none=>exact ⟨.any,fun x p h=>by simp at h⟩
      | some q =>
        obtain ⟨x,p⟩:=q
        obtain ⟨_,d1,d2,h1,h2,h3⟩:=hr t x p ht
        exact ⟨d2,fun x' p' h=>by simp only [Option.some.injEq,Prod.mk.injEq] at h; obtain ⟨rfl,rfl⟩:=h; exact ⟨d1,h1,h2,h3⟩⟩
    exact ⟨fun t=>Classical.choose (this t),fun t=>Classical.choose_spec (this t)⟩
  obtain ⟨f,hf⟩:=hf
  obtain ⟨σD2,hl,h2⟩:=exists_list (p:=fun b ob2=>∃blk ob1,σ2[b]? = some blk∧σD1[b]? = some ob1∧ObW σ2.length ob1 ob2∧RB blk ob2) σ2.length fun b hb'=>by
    obtain ⟨ob1,ob2,h3,h4,h5⟩:=hb b _ (List.getElem?_eq_getElem hb')
    exact ⟨ob2,_,ob1,List.getElem?_eq_getElem hb',h3,h4,h5⟩
  refine ⟨al2.map fun p=>(p.1,f p.1),σD2,StW0.st ⟨⟨hl,hle,fun b ob ho hlt=>?_⟩,fun t d h=>?_⟩,⟨⟨by rw [hl],fun b blk hb'=>?_,hg⟩,fun t x p h=>?_⟩⟩
  · have h3:σD2[b]? = some _:=List.getElem?_eq_getElem (by rw [hl]; exact hlt)
    obtain ⟨blk,ob1,h4,h5,h6,h7⟩:=h2 b _ h3
    rw [ho] at h5
    simp only [Option.some.injEq] at h5
    subst h5
    exact ⟨_,h3,h6⟩
  · obtain ⟨⟨x,p,h3⟩,rfl⟩:=lkP_key' h
    obtain ⟨d1,h4,h5,_⟩:=hf t x p h3
    exact ⟨d1,h4,h5⟩
  · have hlt:=(List.getElem?_eq_some_iff.1 hb').1
    have h3:σD2[b]? = some _:=List.getElem?_eq_getElem (by rw [hl]; exact hlt)
    obtain ⟨blk',ob1,h4,h5,h6,h7⟩:=h2 b _ h3
    rw [hb'] at h4
    simp only [Option.some.injEq] at h4
    subst h4
    exact ⟨_,h3,h7⟩
  · obtain ⟨d1,h3,h4,h5⟩:=hf t x p h
    exact ⟨f t,lkP_key ⟨x,p,h⟩,h5,(hr t x p h).1⟩
end
end
end Go.Abs
end
section
namespace Go.Abs
noncomputable section
variable [Gl] [Y:Ty]
def notH (pl:List Pl) (b j:Nat):Prop:=∀c,Pl.h b j c∉pl
def notW (pl:List Pl) (b:Nat):Prop:=∀i,Pl.w b i∉pl
def notM (pl:List Pl) (b:Nat):Prop:=∀j st,Pl.m b j st∉pl
def SB (pl:List Pl) (b:Nat):TB→TB→Prop
  | .cells w cs,blk1=>∃w1 cs1,blk1=.cells w1 cs1∧cs1.length=cs.length∧∀(j:Nat) p p1,cs[j]? = some p→cs1[j]? = some p1→notH pl b j→p1=p
  | .row i l lv cv,blk1=>∃l1 lv1 cv1,blk1=.row i l1 lv1 cv1∧(notW pl b→l1=l∧lv1=lv∧cv1=cv)
  | .mp j st l v,blk1=>∃j1 st1 l1 v1,blk1=.mp j1 st1 l1 v1∧(notM pl b→blk1=.mp j st l v)
def HS (pl:List Pl) (σ σ1:TH):Prop:=∀(b:Nat) blk,σ[b]? = some blk→∃blk1,σ1[b]? = some blk1∧SB pl b blk blk1
theorem SB.trans {pl:List Pl} {b:Nat} {x y z:TB} (h1:SB pl b x y) (h2:SB pl b y z):SB pl b x z:=by
  cases x with
  | cells w cs =>
    obtain ⟨w1,cs1,rfl,l1,c1⟩:=h1
    obtain ⟨w2,cs2,rfl,l2,c2⟩:=h2
    refine ⟨w2,cs2,rfl,by rw [l2,l1],fun j p p2 e e2 hn=>?_⟩
    have hj:j<cs1.length:=by rw [l1]; exact (List.getElem?_eq_some_iff.1 e).1
    have e1:=List.getElem?_eq_getElem hj
    have:=c1 j p _ e e1 hn
    rw [c2 j _ p2 e1 e2 hn,this]
  | row i l lv cv =>
    obtain ⟨l1,lv1,cv1,rfl,c1⟩:=h1
    obtain ⟨l2,lv2,cv2,rfl,c2⟩:=h2
    refine ⟨l2,lv2,cv2,rfl,fun hn=>?_⟩
    obtain ⟨rfl,rfl,rfl⟩:=c1 hn
    exact c2 hn
  | mp j st l v =>
    obtain ⟨j1,st1,l1,v1,rfl,c1⟩:=h1
    obtain ⟨j2,st2,l2,v2,rfl,c2⟩:=h2
    refine ⟨j2,st2,l2,v2,rfl,fun hn=>?_⟩
    rw [c2 hn,c1 hn]
theorem HS.trans {pl:List Pl} {σ σ1 σ2:TH} (h1:HS pl σ σ1) (h2:HS pl σ1 σ2):HS pl σ σ2:=fun b blk h=>by
  obtain ⟨blk1,e1,s1⟩:=h1 b blk h
  obtain ⟨blk2,e2,s2⟩:=h2 b blk1 e1
  exact ⟨blk2,e2,s1.trans s2⟩
theorem any_mem {f:Pl→Bool} {pl:List Pl} (h:pl.any f=true):∃p∈pl,f p=true:=by simpa using h
theorem cellsSame_ok {pl:List Pl} {b:Nat}:∀{xs ys:List (Nat×TC)} {j0:Nat},cellsSame pl b j0 xs ys=true→xs.length=ys.length∧∀(j:Nat) p q,xs[j]? = some p→ys[j]? = some q→notH pl b (j0+j)→p.1=q.1:=by
  intro xs
  induction xs with
  | nil =>
    intro ys j0 h
    cases ys with
    | nil=>exact ⟨rfl,fun j p q e=>by simp at e⟩
    | cons y ys=>simp [cellsSame] at h
  | cons x xs ih =>
    intro ys j0 h
    cases ys with
    | nil=>obtain ⟨a,b⟩:=x; simp [cellsSame] at h
    | cons y ys =>
      obtain ⟨v,x⟩:=x
      obtain ⟨w,y⟩:=y
      simp only [cellsSame,Bool.and_eq_true,Bool.or_eq_true] at h
      obtain ⟨h1,h2⟩:=h
      obtain ⟨h3,h4⟩:=ih h2
      refine ⟨by simp [h3],fun j p q e e' hn=>?_⟩
      cases j with
      | zero =>
        simp only [List.getElem?_cons_zero,Option.some.injEq] at e e'
        subst e e'
        rcases h1 with h1 | h1
        · exact Nat.eq_of_beq_eq_true h1
        · obtain ⟨p,hp,hf⟩:=any_mem h1
          exfalso
          split at hf
          · rename_i b' j' c
            simp only [Bool.and_eq_true] at hf
            have e1:=Nat.eq_of_beq_eq_true hf.1
            have e2:=Nat.eq_of_beq_eq_true hf.2
            subst e1 e2
            exact hn c hp
          · simp at hf
      | succ j =>
        simp only [List.getElem?_cons_succ] at e e'
        refine h4 j p q e e' ?_
        rw [show j0+1+j=j0+(j+1) by omega]
        exact hn
theorem heapSame_at {pl:List Pl}:∀{σ σ1:TH} {b0:Nat},heapSame pl b0 σ σ1=true→∀(b:Nat) blk,σ[b]? = some blk→∃blk1,σ1[b]? = some blk1∧blkSame pl (b0+b) blk blk1=true:=by
  intro σ
  induction σ with
  | nil=>intro σ1 b0 _ b blk h; simp at h
  | cons x σ ih =>
    intro σ1 b0 h b blk hb
    cases σ1 with
    | nil=>simp [heapSame] at h
    | cons y σ1 =>
      simp only [heapSame,Bool.and_eq_true] at h
      cases b with
      | zero=>simp only [List.getElem?_cons_zero,Option.some.injEq] at hb; subst hb; exact ⟨y,rfl,h.1⟩
      | succ b =>
        simp only [List.getElem?_cons_succ] at hb
        obtain ⟨blk1,h1,h2⟩:=ih h.2 b blk hb
        exact ⟨blk1,h1,by rw [show b0+(b+1)=b0+1+b by omega]; exact h2⟩
theorem heapSame_ok {pl:List Pl} {σ σ1:TH} {σD:Heap} (H:RH σ σD) (h:heapSame pl 0 σ σ1=true) (he:Ext σ σ1):HS pl σ σ1:=fun b blk hb=>by
  obtain ⟨blk1,h1,h2⟩:=heapSame_at h b blk hb
  rw [Nat.zero_add] at h2
  obtain ⟨blk1',h3,h4⟩:=he b blk hb
  rw [h1] at h3
  simp only [Option.some.injEq] at h3
  subst h3
  refine ⟨blk1,h1,?_⟩
  cases blk with
  | cells w cs =>
    obtain ⟨w1,cs1,rfl,hw,hl,hc⟩:=h4
    simp only [blkSame] at h2
    obtain ⟨_,h5⟩:=cellsSame_ok h2
    refine ⟨w1,cs1,rfl,hl,fun j p p1 e e1 hn=>?_⟩
    have hv:=h5 j p p1 e e1 (by rw [Nat.zero_add]; exact hn)
    obtain ⟨v,x⟩:=p
    obtain ⟨v1,x1⟩:=p1
    have hle:=(H.hg b w cs hb _ (List.mem_of_getElem? e)).2
    dsimp only at hv hle
    rcases hc j v x v1 x1 e e1 with ⟨h6,h7⟩ | h6
    · rw [h6,h7]
    · omega
  | row i l lv cv =>
    obtain ⟨l1,lv1,cv1,rfl,_,_,_,h8⟩:=h4
    refine ⟨l1,lv1,cv1,rfl,fun hn=>?_⟩
    simp only [blkSame,Bool.or_eq_true] at h2
    rcases h2 with h2 | h2
    · have:=Nat.eq_of_beq_eq_true h2
      obtain ⟨h9,h10⟩:=h8 this
      exact ⟨h9,h10,this.symm⟩
    · obtain ⟨p,hp,hf⟩:=any_mem h2
      exfalso
      split at hf
      · have e1:=Nat.eq_of_beq_eq_true hf
        subst e1
        exact hn _ hp
      · simp at hf
  | mp j st l v =>
    obtain ⟨j1,st1,l1,v1,rfl,_,h8⟩:=h4
    refine ⟨j1,st1,l1,v1,rfl,fun hn=>?_⟩
    simp only [blkSame,Bool.or_eq_true] at h2
    rcases h2 with h2 | h2
    · exact h8 (Nat.eq_of_beq_eq_true h2)
    · obtain ⟨p,hp,hf⟩:=any_mem h2
      exfalso
      split at hf
      · have e1:=Nat.eq_of_beq_eq_true hf
        subst e1
        exact hn _ _ hp
      · simp at hf
def PB (al1:TA) (σ1:TH) (ps:List Pl) (b:Nat):TB→TB→Prop
  | .cells w cs,blk2=>∃w2 cs2,blk2=.cells w2 cs2∧cs2.length=cs.length∧∀(j:Nat) p2,cs2[j]? = some p2→p2.1≤w2∧((∃c a,p2.2=expC c a∧rdP al1 σ1 (.h b j c)=some a∧Pl.h b j c∈ps)∨(cs[j]? = some p2∧notH ps b j))
  | .row i l lv cv,blk2=>∃l2 lv2 cv2,blk2=.row i l2 lv2 cv2∧(((∃lv1 cv1,σ1[b]? = some (.row i l2 lv1 cv1))∧∃i',Pl.w b i'∈ps)∨(l2=l∧lv2=lv∧cv2=cv∧notW ps b))
  | .mp j st l v,blk2=>∃j2 st2 l2 v2,blk2=.mp j2 st2 l2 v2∧(((∃v1,σ1[b]? = some (.mp j2 st2 l2 v1))∧∃j' st',Pl.m b j' st'∈ps)∨(blk2=.mp j st l v∧notM ps b))
def PQ (al1:TA) (σ1:TH) (ps:List Pl) (σ σ2:TH):Prop:=σ2.length=σ.length∧∀(b:Nat) blk,σ[b]? = some blk→∃blk2,σ2[b]? = some blk2∧BE blk blk2∧PB al1 σ1 ps b blk blk2
theorem castM_some {i j:Nat} {l:List (Int×TT j)} {m:List (Int×TT i)} (h:castM l=some m):∃e:j=i,m=e▸l:=by
  unfold castM at h
  split at h
  · rename_i e _; simp only [Option.some.injEq] at h; exact ⟨e,h.symm⟩
  · simp at h
theorem PQ.nil {al1:TA} {σ1 σ:TH} {σD:Heap} (H:RH σ σD):PQ al1 σ1 [] σ σ:=⟨rfl,fun b blk h=>⟨blk,h,BE.refl blk,by
  cases blk with
  | cells w cs=>exact ⟨w,cs,rfl,rfl,fun j p2 e=>⟨(H.hg b w cs h p2 (List.mem_of_getElem? e)).2,.inr ⟨e,fun c hc=>by simp at hc⟩⟩⟩
  | row i l lv cv=>exact ⟨l,lv,cv,rfl,.inr ⟨rfl,rfl,rfl,fun i hi=>by simp at hi⟩⟩
  | mp j st l v=>exact ⟨j,st,l,v,rfl,.inr ⟨rfl,fun j st hi=>by simp at hi⟩⟩⟩⟩
theorem PB.weak {al1:TA} {σ1:TH} {ps:List Pl} {b:Nat} {x y:TB} {p:Pl} (h:PB al1 σ1 ps b x y) (h1:∀j c,p≠.h b j c) (h2:∀i,p≠.w b i) (h3:∀j st,p≠.m b j st):PB al1 σ1 (p::ps) b x y:=by
  cases x with
  | cells w cs =>
    obtain ⟨w2,cs2,e,l2,c2⟩:=h
    refine ⟨w2,cs2,e,l2,fun j p2 e2=>?_⟩
    obtain ⟨h4,h5⟩:=c2 j p2 e2
    refine ⟨h4,?_⟩
    rcases h5 with ⟨c,a,h5,h6,h7⟩ | ⟨h5,h6⟩
    · exact .inl ⟨c,a,h5,h6,List.mem_cons_of_mem _ h7⟩
    · refine .inr ⟨h5,fun c hc=>?_⟩
      rcases List.mem_cons.1 hc with hc | hc
      · exact h1 j c hc.symm
      · exact h6 c hc
  | row i l lv cv =>
    obtain ⟨l2,lv2,cv2,e,h5⟩:=h
    refine ⟨l2,lv2,cv2,e,?_⟩
    rcases h5 with ⟨h5,i',h6⟩ | ⟨h5,h6,h7,h8⟩
    · exact .inl ⟨h5,i',List.mem_cons_of_mem _ h6⟩
    · refine .inr ⟨h5,h6,h7,fun i hi=>?_⟩
      rcases List.mem_cons.1 hi with hc | hc
      · exact h2 i hc.symm
      · exact h8 i hc
  | mp j st l v =>
    obtain ⟨j2,st2,l2,v2,e,h5⟩:=h
    refine ⟨j2,st2,l2,v2,e,?_⟩
    rcases h5 with ⟨h5,j',st',h6⟩ | ⟨h5,h8⟩
    · exact .inl ⟨h5,j',st',List.mem_cons_of_mem _ h6⟩
    · refine .inr ⟨h5,fun j st hi=>?_⟩
      rcases List.mem_cons.1 hi with hc | hc
      · exact h3 j st hc.symm
      · exact h8 j st hc
theorem PQ.step {al1:TA} {σ1 σ σ2:TH} {σD:Heap} {ps pl:List Pl} (H:RH σ σD) (hs:HS pl σ σ1) (p:Pl) (x:p.dn) (hx:rdP al1 σ1 p=some x) (h:PQ al1 σ1 ps σ σ2):PQ al1 σ1 (p::ps) σ (putQ p x σ2):=by
  obtain ⟨hl,hb⟩:=h
  cases p with
  | r t c=>exact ⟨hl,fun b blk e=>let ⟨blk2,e2,h1,h2⟩:=hb b blk e; ⟨blk2,e2,h1,h2.weak (by simp) (by simp) (by simp)⟩⟩
  | w b0 i0 =>
    simp only [putQ]
    split
    · rename_i j l lv cv e0
      refine ⟨by simp [hl],fun b blk e=>?_⟩
      obtain ⟨blk2,e2,h1,h2⟩:=hb b blk e
      by_cases hbb:b=b0
      · subst hbb
        rw [e0] at e2
        simp only [Option.some.injEq] at e2
        subst e2
        refine ⟨_,zaT e0,?_⟩
        -- the row that is read
        simp only [rdP] at hx
        split at hx
        · rename_i j1 l1 lv1 cv1 e1
          obtain ⟨rfl,rfl⟩:=zbS hx
          obtain ⟨blk1,e3,sb⟩:=hs b blk e
          rw [e1] at e3
          simp only [Option.some.injEq] at e3
          subst e3
          cases blk with
          | cells w cs=>obtain ⟨_,_,e4,_⟩:=sb; simp at e4
          | mp q st l v=>obtain ⟨_,_,_,_,e4,_⟩:=sb; simp at e4
          | row i l0 lv0 cv0 =>
            obtain ⟨l5,lv5,cv5,e4,_⟩:=sb
            simp only [TB.row.injEq] at e4
            obtain ⟨rfl,e5,rfl,rfl⟩:=e4
            cases e5
            obtain ⟨l6,lv6,cv6,e6,b1,b2,b3,b4⟩:=h1
            simp only [TB.row.injEq] at e6
            obtain ⟨rfl,e7,rfl,rfl⟩:=e6
            cases e7
            exact ⟨⟨_,_,_,rfl,by omega,by omega,fun e=>by omega,fun e=>by omega⟩,⟨_,_,_,rfl,.inl ⟨⟨lv1,cv1,e1⟩,_,List.mem_cons_self ..⟩⟩⟩
        · simp at hx
      · exact ⟨blk2,by rw [zaN hbb]; exact e2,h1,h2.weak (by simp) (by simp; exact fun e=>absurd e.symm hbb) (by simp)⟩
    · rename_i hne
      refine ⟨hl,fun b blk e=>?_⟩
      obtain ⟨blk2,e2,h1,h2⟩:=hb b blk e
      refine ⟨blk2,e2,h1,?_⟩
      by_cases hbb:b=b0
      · subst hbb
        cases blk2 with
        | row i l lv cv=>exact absurd e2 (hne _ _ _ _)
        | cells w cs =>
          cases blk with
          | cells w' cs' =>
            obtain ⟨w2,cs2,e3,l2,c2⟩:=h2
            refine ⟨w2,cs2,e3,l2,fun j p2 e4=>?_⟩
            obtain ⟨h4,h5⟩:=c2 j p2 e4
            refine ⟨h4,?_⟩
            rcases h5 with ⟨c,a,h5,h6,h7⟩ | ⟨h5,h6⟩
            · exact .inl ⟨c,a,h5,h6,List.mem_cons_of_mem _ h7⟩
            · refine .inr ⟨h5,fun c hc=>?_⟩
              rcases List.mem_cons.1 hc with hc | hc
              · simp at hc
              · exact h6 c hc
          | row i l lv cv=>obtain ⟨_,_,_,e3,_⟩:=h2; simp at e3
          | mp q st l v=>obtain ⟨_,_,_,_,e3,_⟩:=h2; simp at e3
        | mp q st l v =>
          cases blk with
          | mp q' st' l' v' =>
            obtain ⟨j2,st2,l2,v2,e3,h5⟩:=h2
            refine ⟨j2,st2,l2,v2,e3,?_⟩
            rcases h5 with ⟨h5,j',st',h6⟩ | ⟨h5,h8⟩
            · exact .inl ⟨h5,j',st',List.mem_cons_of_mem _ h6⟩
            · refine .inr ⟨h5,fun j st hi=>?_⟩
              rcases List.mem_cons.1 hi with hc | hc
              · simp at hc
              · exact h8 j st hc
          | row i l lv cv=>obtain ⟨_,_,_,e3,_⟩:=h2; simp at e3
          | cells w cs=>obtain ⟨_,_,e3,_⟩:=h2; simp at e3
      · exact h2.weak (by simp) (by simp; exact fun e=>absurd e.symm hbb) (by simp)
  | h b0 j0 c0 =>
    have hread:∀blk,σ[b0]? = some blk→∃w cs w1 cs1 y,blk=.cells w cs∧σ1[b0]? = some (.cells w1 cs1)∧cs1[j0]? = some y∧rdC c0 y.2=some x∧j0<cs.length:=by
      intro blk e
      have hx':=hx
      simp only [rdP] at hx
      split at hx
      · rename_i w1 cs1 e1
        split at hx
        · rename_i y e2
          obtain ⟨blk1,e3,sb⟩:=hs b0 blk e
          rw [e1] at e3
          simp only [Option.some.injEq] at e3
          subst e3
          cases blk with
          | cells w cs =>
            obtain ⟨_,_,e4,l4,_⟩:=sb
            simp only [TB.cells.injEq] at e4
            obtain ⟨rfl,rfl⟩:=e4
            exact ⟨w,cs,w1,cs1,y,rfl,e1,e2,hx,by rw [←l4]; exact (List.getElem?_eq_some_iff.1 e2).1⟩
          | row i l lv cv=>obtain ⟨_,_,_,e4,_⟩:=sb; simp at e4
          | mp q st l v=>obtain ⟨_,_,_,_,e4,_⟩:=sb; simp at e4
        · simp at hx
      · simp at hx
    simp only [putQ]
    split
    · rename_i w' cs' e0
      refine ⟨by simp [hl],fun b blk e=>?_⟩
      obtain ⟨blk2,e2,h1,h2⟩:=hb b blk e
      by_cases hbb:b=b0
      · subst hbb
        rw [e0] at e2
        simp only [Option.some.injEq] at e2
        subst e2
        obtain ⟨w,cs,w1,cs1,y,rfl,e3,e4,e5,e6⟩:=hread blk e
        refine ⟨_,zaT e0,?_⟩
        obtain ⟨w2,cs2,e7,l2,c2⟩:=h2
        simp only [TB.cells.injEq] at e7
        obtain ⟨rfl,rfl⟩:=e7
        obtain ⟨w3,cs3,e8,bw,bl,bc⟩:=h1
        simp only [TB.cells.injEq] at e8
        obtain ⟨rfl,rfl⟩:=e8
        refine ⟨⟨w'+1,_,rfl,by omega,by simp [l2],fun j v z v1 z1 q1 q2=>?_⟩,⟨w'+1,_,rfl,by simp [l2],fun j p2 q=>?_⟩⟩
        · by_cases hj:j=j0
          · subst hj
            rw [List.getElem?_set_self (by rw [l2]; exact e6)] at q2
            simp only [Option.some.injEq,Prod.mk.injEq] at q2
            right; omega
          · rw [List.getElem?_set_ne (fun e=>hj e.symm)] at q2
            exact bc j v z v1 z1 q1 q2
        · by_cases hj:j=j0
          · subst hj
            rw [List.getElem?_set_self (by rw [l2]; exact e6)] at q
            simp only [Option.some.injEq] at q
            subst q
            exact ⟨Nat.le_refl _,.inl ⟨c0,x,rfl,hx,List.mem_cons_self ..⟩⟩
          · rw [List.getElem?_set_ne (fun e=>hj e.symm)] at q
            obtain ⟨q1,q2⟩:=c2 j p2 q
            refine ⟨by omega,?_⟩
            rcases q2 with ⟨c,a,h5,h6,h7⟩ | ⟨h5,h6⟩
            · exact .inl ⟨c,a,h5,h6,List.mem_cons_of_mem _ h7⟩
            · refine .inr ⟨h5,fun c hc=>?_⟩
              rcases List.mem_cons.1 hc with hc | hc
              · simp only [Pl.h.injEq] at hc; exact hj hc.2.1
              · exact h6 c hc
      · exact ⟨blk2,by rw [zaN hbb]; exact e2,h1,h2.weak (by simp; exact fun e=>absurd e.symm hbb) (by simp) (by simp)⟩
    · rename_i hne
      refine ⟨hl,fun b blk e=>?_⟩
      obtain ⟨blk2,e2,h1,h2⟩:=hb b blk e
      by_cases hbb:b=b0
      · subst hbb
        obtain ⟨w,cs,_,_,_,rfl,_⟩:=hread blk e
        obtain ⟨w3,cs3,rfl,_⟩:=h1
        exact absurd e2 (hne _ _)
      · exact ⟨blk2,e2,h1,h2.weak (by simp; exact fun e=>absurd e.symm hbb) (by simp) (by simp)⟩
  | m b0 j0 st0 =>
    have hread:∀blk,σ[b0]? = some blk→∃j st l v v1,blk=.mp j st l v∧σ1[b0]? = some (.mp j0 st0 x v1):=by
      intro blk e
      simp only [rdP] at hx
      split at hx
      · rename_i j1 st1 l1 v1 e1
        split at hx
        · rename_i hst
          have hst:st0=st1:=eq_of_beq hst
          obtain ⟨rfl,rfl⟩:=castM_some hx
          obtain ⟨blk1,e3,sb⟩:=hs b0 blk e
          rw [e1] at e3
          simp only [Option.some.injEq] at e3
          subst e3
          cases blk with
          | mp q st l v=>exact ⟨q,st,l,v,v1,rfl,by rw [hst]; exact e1⟩
          | row i l lv cv=>obtain ⟨_,_,_,e4,_⟩:=sb; simp at e4
          | cells w cs=>obtain ⟨_,_,e4,_⟩:=sb; simp at e4
        · simp at hx
      · simp at hx
    simp only [putQ]
    split
    · rename_i j' st' l' v' e0
      refine ⟨by simp [hl],fun b blk e=>?_⟩
      obtain ⟨blk2,e2,h1,h2⟩:=hb b blk e
      by_cases hbb:b=b0
      · subst hbb
        rw [e0] at e2
        simp only [Option.some.injEq] at e2
        subst e2
        obtain ⟨j,st,l,v,v1,rfl,e3⟩:=hread blk e
        obtain ⟨_,_,_,_,e4,b1,b2⟩:=h1
        simp only [TB.mp.injEq] at e4
        obtain ⟨rfl,rfl,e5,rfl⟩:=e4
        cases e5
        exact ⟨_,zaT e0,⟨_,_,_,_,rfl,by omega,fun e=>by omega⟩,⟨_,_,_,_,rfl,.inl ⟨⟨v1,e3⟩,_,_,List.mem_cons_self ..⟩⟩⟩
      · exact ⟨blk2,by rw [zaN hbb]; exact e2,h1,h2.weak (by simp) (by simp) (by simp; exact fun e=>absurd e.symm hbb)⟩
    · rename_i hne
      refine ⟨hl,fun b blk e=>?_⟩
      obtain ⟨blk2,e2,h1,h2⟩:=hb b blk e
      by_cases hbb:b=b0
      · subst hbb
        obtain ⟨j,st,l,v,v1,rfl,_⟩:=hread blk e
        obtain ⟨_,_,_,_,rfl,_⟩:=h1
        exact absurd e2 (hne _ _ _ _)
      · exact ⟨blk2,e2,h1,h2.weak (by simp) (by simp) (by simp; exact fun e=>absurd e.symm hbb)⟩
theorem PQ.all {al1:TA} {σ1 σ:TH} {σD:Heap} {pl:List Pl} (H:RH σ σD) (hs:HS pl σ σ1):∀(ps:List Pl) (x:tupP ps),rdPs al1 σ1 ps=some x→PQ al1 σ1 ps σ (putQs ps x σ):=by
  intro ps
  induction ps with
  | nil=>intro x _; exact PQ.nil H
  | cons p ps ih =>
    intro x hx
    cases ps with
    | nil=>exact PQ.step H hs p x hx (PQ.nil H)
    | cons q ps =>
      simp only [rdPs] at hx
      split at hx
      · rename_i a b h1 h2
        simp only [Option.some.injEq] at hx
        subst hx
        exact PQ.step H hs p a h1 (ih b h2)
      · simp at hx
theorem PQ.ext {al1:TA} {σ1 σ σ2:TH} {ps:List Pl} (h:PQ al1 σ1 ps σ σ2):Ext σ σ2:=fun b blk e=>let ⟨blk2,e2,h1,_⟩:=h.2 b blk e; ⟨blk2,e2,h1⟩
theorem PQ.hs {al1:TA} {σ1 σ σ2:TH} {ps:List Pl} (h:PQ al1 σ1 ps σ σ2) (hs:HS ps σ σ1):HS ps σ σ2:=fun b blk e=>by
  obtain ⟨blk2,e2,h1,h2⟩:=h.2 b blk e
  refine ⟨blk2,e2,?_⟩
  cases blk with
  | cells w cs =>
    obtain ⟨w2,cs2,rfl,l2,c2⟩:=h2
    refine ⟨w2,cs2,rfl,l2,fun j p p1 q q1 hn=>?_⟩
    rcases (c2 j p1 q1).2 with ⟨c,a,_,_,hm⟩ | ⟨h3,_⟩
    · exact absurd hm (hn c)
    · rw [q] at h3; simp only [Option.some.injEq] at h3; exact h3.symm
  | row i l lv cv =>
    obtain ⟨l2,lv2,cv2,rfl,h3⟩:=h2
    refine ⟨l2,lv2,cv2,rfl,fun hn=>?_⟩
    rcases h3 with ⟨_,i',hm⟩ | ⟨h3,h4,h5,_⟩
    · exact absurd hm (hn i')
    · exact ⟨h3,h4,h5⟩
  | mp j st l v =>
    obtain ⟨j2,st2,l2,v2,rfl,h3⟩:=h2
    refine ⟨j2,st2,l2,v2,rfl,fun hn=>?_⟩
    rcases h3 with ⟨_,j',st',hm⟩ | ⟨h3,_⟩
    · exact absurd hm (hn j' st')
    · exact h3
end
end Go.Abs
end
section
namespace Go.Abs
noncomputable section
variable [Gl] [Y:Ty]
theorem lkT_lkP (t:Nat):∀(al:TA),lkT t al=(lkP t al).map Prod.fst:=by
  intro al
  induction al with
  | nil=>rfl
  | cons y al ih =>
    obtain ⟨s,x⟩:=y
    simp only [lkT,lkP]
    split
    · rfl
    · exact ih
theorem lkT_some {t:Nat} {al:TA} {x:RV} (h:lkT t al=some x):∃p,lkP t al=some (x,p):=by
  rw [lkT_lkP,Option.map_eq_some_iff] at h
  obtain ⟨⟨y,p⟩,h1,rfl⟩:=h
  exact ⟨p,h1⟩
theorem lkP_skip {t:Nat} {q:RV×Nat}:∀{pre al:TA},(∀y∈pre,y.1≠t)→lkP t al=some q→lkP t (pre++al)=some q:=by
  intro pre al
  induction pre with
  | nil=>intro _ h; exact h
  | cons z pre ih =>
    intro hn h
    obtain ⟨s,y⟩:=z
    simp only [List.cons_append,lkP]
    have:Nat.beq s t=false:=by
      cases hb:Nat.beq s t with
      | false=>rfl
      | true=>exact absurd (Nat.eq_of_beq_eq_true hb) (hn (s,y) (List.mem_cons_self ..))
    rw [this]
    exact ih (fun y hy=>hn y (List.mem_cons_of_mem _ hy)) h
theorem lkP_dom {t:Nat} {q:RV×Nat}:∀{pre al:TA},lkP t al=some q→∃q',lkP t (pre++al)=some q':=by
  intro pre al
  induction pre with
  | nil=>intro h; exact ⟨q,h⟩
  | cons z pre ih =>
    intro h
    obtain ⟨s,y⟩:=z
    simp only [List.cons_append,lkP]
    split
    · exact ⟨_,rfl⟩
    · exact ih h
theorem putPs_lk {al1:TA} {σ1:TH} {al:TA} {t:Nat} {v:RV} {p:Nat}:∀(ps:List Pl) (x:tupP ps),rdPs al1 σ1 ps=some x→lkP t (putPs ps x al)=some (v,p) →
    (∃c a,v=.v (c.tv a)∧rdP al1 σ1 (.r t c)=some a)∨((∀c,Pl.r t c∉ps)∧lkP t al=some (v,p)):=by
  have one:∀(p0:Pl) (x:p0.dn) (al0:TA),rdP al1 σ1 p0=some x→lkP t (putP p0 x al0)=some (v,p)→(∃c a,v=.v (c.tv a)∧rdP al1 σ1 (.r t c)=some a)∨((∀c,Pl.r t c≠p0)∧lkP t al0=some (v,p)):=by
    intro p0 x al0 hx h
    cases p0 with
    | r t0 c =>
      simp only [putP,lkP] at h
      split at h
      · rename_i hb
        have:=Nat.eq_of_beq_eq_true hb
        subst this
        simp only [Option.some.injEq,Prod.mk.injEq] at h
        exact .inl ⟨c,x,h.1.symm,hx⟩
      · rename_i hb
        refine .inr ⟨fun c' e=>?_,h⟩
        simp only [Pl.r.injEq] at e
        rw [e.1] at hb
        simp at hb
    | w b i=>exact .inr ⟨fun c e=>by simp at e,h⟩
    | h b j c=>exact .inr ⟨fun c e=>by simp at e,h⟩
    | m b j st=>exact .inr ⟨fun c e=>by simp at e,h⟩
  intro ps
  induction ps with
  | nil=>intro x _ h; exact .inr ⟨fun c hc=>by simp at hc,h⟩
  | cons p0 ps ih =>
    intro x hx h
    cases ps with
    | nil =>
      rcases one p0 x al hx h with h | ⟨h1,h2⟩
      · exact .inl h
      · exact .inr ⟨fun c hc=>by simp only [List.mem_singleton] at hc; exact h1 c hc,h2⟩
    | cons q ps =>
      simp only [rdPs] at hx
      split at hx
      · rename_i a b ha hb
        simp only [Option.some.injEq] at hx
        subst hx
        rcases one p0 a _ ha h with h | ⟨h1,h2⟩
        · exact .inl h
        · rcases ih b hb h2 with h | ⟨h3,h4⟩
          · exact .inl h
          · refine .inr ⟨fun c hc=>?_,h4⟩
            rcases List.mem_cons.1 hc with hc | hc
            · exact h1 c hc
            · exact h3 c hc
      · simp at hx
theorem putPs_pre:∀(ps:List Pl) (x:tupP ps) (al:TA),∃pre,putPs ps x al=pre++al∧∀y∈pre,∃c,Pl.r y.1 c∈ps:=by
  have one:∀(p0:Pl) (x:p0.dn) (al:TA),∃pre,putP p0 x al=pre++al∧∀y∈pre,∃c,Pl.r y.1 c=p0:=by
    intro p0 x al
    cases p0 with
    | r t c=>exact ⟨[(t,.v (c.tv x))],rfl,fun y hy=>by simp only [List.mem_singleton] at hy; subst hy; exact ⟨c,rfl⟩⟩
    | w b i=>exact ⟨[],rfl,fun y hy=>by simp at hy⟩
    | h b j c=>exact ⟨[],rfl,fun y hy=>by simp at hy⟩
    | m b j st=>exact ⟨[],rfl,fun y hy=>by simp at hy⟩
  intro ps
  induction ps with
  | nil=>intro x al; exact ⟨[],rfl,fun y hy=>by simp at hy⟩
  | cons p0 ps ih =>
    intro x al
    cases ps with
    | nil =>
      obtain ⟨pre,h1,h2⟩:=one p0 x al
      exact ⟨pre,h1,fun y hy=>let ⟨c,e⟩:=h2 y hy; ⟨c,by rw [e]; exact List.mem_cons_self ..⟩⟩
    | cons q ps =>
      obtain ⟨pre,h1,h2⟩:=ih x.2 al
      obtain ⟨pre',h3,h4⟩:=one p0 x.1 (putPs (q::ps) x.2 al)
      refine ⟨pre'++pre,by simp only [putPs]; rw [h3,h1,List.append_assoc],fun y hy=>?_⟩
      rcases List.mem_append.1 hy with hy | hy
      · obtain ⟨c,e⟩:=h4 y hy; exact ⟨c,by rw [e]; exact List.mem_cons_self ..⟩
      · obtain ⟨c,e⟩:=h2 y hy; exact ⟨c,List.mem_cons_of_mem _ e⟩
theorem putH_pre (σ:TH):∀(hs:List (Nat×Nat)) (al:TA),∃pre,putH σ hs al=pre++al∧(∀y∈pre,∃b i l lv cv,(y.1,b)∈hs∧σ[b]? = some (.row i l lv cv)∧y.2=.v (.c (.own i b lv l.length))) ∧
    ∀t b i l lv cv,(t,b)∈hs→σ[b]? = some (.row i l lv cv)→∃y∈pre,y.1=t:=by
  intro hs
  induction hs with
  | nil=>intro al; exact ⟨[],rfl,fun y hy=>by simp at hy,fun t b i l lv cv h=>by simp at h⟩
  | cons h hs ih =>
    intro al
    obtain ⟨t,b⟩:=h
    obtain ⟨pre,h1,h2,h3⟩:=ih al
    have h2':∀y∈pre,∃b' i l lv cv,(y.1,b')∈(t,b)::hs∧σ[b']? = some (.row i l lv cv)∧y.2=.v (.c (.own i b' lv l.length)):=fun y hy=>by
      obtain ⟨b',i,l,lv,cv,e1,e2⟩:=h2 y hy
      exact ⟨b',i,l,lv,cv,List.mem_cons_of_mem _ e1,e2⟩
    simp only [putH]
    split
    · rename_i i l lv cv hb
      refine ⟨(t,.v (.c (.own i b lv l.length)))::pre,by rw [h1]; rfl,fun y hy=>?_,fun t' b' i' l' lv' cv' hm he=>?_⟩
      · rcases List.mem_cons.1 hy with rfl | hy
        · exact ⟨b,i,l,lv,cv,List.mem_cons_self ..,hb,rfl⟩
        · exact h2' y hy
      · rcases List.mem_cons.1 hm with hm | hm
        · simp only [Prod.mk.injEq] at hm
          exact ⟨_,List.mem_cons_self ..,hm.1.symm⟩
        · obtain ⟨y,hy,e⟩:=h3 t' b' i' l' lv' cv' hm he
          exact ⟨y,List.mem_cons_of_mem _ hy,e⟩
    · rename_i hne
      refine ⟨pre,h1,h2',fun t' b' i' l' lv' cv' hm he=>?_⟩
      rcases List.mem_cons.1 hm with hm | hm
      · simp only [Prod.mk.injEq] at hm
        obtain ⟨rfl,rfl⟩:=hm
        exact absurd he (hne _ _ _ _)
      · exact h3 t' b' i' l' lv' cv' hm he
theorem lkP_mem {t:Nat} {x:RV} {p:Nat}:∀{pre al:TA},lkP t (pre++al)=some (x,p)→(t,x)∈pre∨((∀y∈pre,y.1≠t)∧lkP t al=some (x,p)):=by
  intro pre al
  induction pre with
  | nil=>intro h; exact .inr ⟨fun y hy=>by simp at hy,h⟩
  | cons z pre ih =>
    intro h
    obtain ⟨s,y⟩:=z
    simp only [List.cons_append,lkP] at h
    split at h
    · rename_i hb
      have:=Nat.eq_of_beq_eq_true hb
      subst this
      simp only [Option.some.injEq,Prod.mk.injEq] at h
      obtain ⟨rfl,rfl⟩:=h
      exact .inl (List.mem_cons_self ..)
    · rename_i hb
      rcases ih h with h | ⟨h1,h2⟩
      · exact .inl (List.mem_cons_of_mem _ h)
      · refine .inr ⟨fun y hy=>?_,h2⟩
        rcases List.mem_cons.1 hy with rfl | hy
        · intro e; subst e; simp at hb
        · exact h1 y hy
theorem shade_pre (md:List Nat) (al:TA):∃pre,shade md al=pre++al∧(∀y∈pre,y.1∈md∧(lkT y.1 al).isSome∧y.2=.v (.c .any))∧∀t,t∈md→(lkT t al).isSome→∃y∈pre,y.1=t:=by
  refine ⟨_,rfl,fun y hy=>?_,fun t ht hs=>?_⟩
  · rw [List.mem_map] at hy
    obtain ⟨t,ht,rfl⟩:=hy
    rw [List.mem_filter] at ht
    exact ⟨ht.1,ht.2,rfl⟩
  · exact ⟨(t,.v (.c .any)),List.mem_map.2 ⟨t,List.mem_filter.2 ⟨ht,hs⟩,rfl⟩,rfl⟩
theorem All2.of_get {α β:Type} {R:α→β→Prop}:∀{l:List α} {m:List β},l.length=m.length→(∀(j:Nat) a b,l[j]? = some a→m[j]? = some b→R a b)→All2 R l m:=by
  intro l
  induction l with
  | nil=>intro m h _; cases m with | nil=>exact .nil | cons b m=>simp at h
  | cons a l ih =>
    intro m h hr
    cases m with
    | nil=>simp at h
    | cons b m=>exact .cons (hr 0 a b rfl rfl) (ih (by simpa using h) fun j x y h1 h2=>hr (j+1) x y h1 h2)
theorem ObW.refl_row {α:Type} {f:α→List C} {l:List α} {m:Nat}:ObW m (OB f l) (OB f l):=by
  refine ⟨_,rfl,All2.of_get rfl fun j a b h1 h2=>?_⟩
  rw [h1] at h2
  simp only [Option.some.injEq] at h2
  subst h2
  rw [List.getElem?_map,Option.map_eq_some_iff] at h1
  obtain ⟨c,_,rfl⟩:=h1
  exact DWk.low rfl
theorem mpE_low (j:Nat) (st:Bool) (a:TT j) (m:Nat):(mpE j st a).low m=true:=by
  unfold mpE
  split
  · exact lows_c _
  · rfl
theorem mbE_low {α:Type} {g:α→D} {m:Nat} (h:∀a,(g a).low m=true):∀(l:List (Int×α)) (i:Nat),((mbE g i l).all fun e=>e.2.1.low m)=true:=by
  intro l
  induction l with
  | nil=>intro i; rfl
  | cons x l ih=>intro i; obtain ⟨k,a⟩:=x; simp only [mbE,List.all_cons,h,ih,Bool.and_self]
theorem hsOk_at {al:TA} {σ:TH} {hs:List (Nat×Nat)} (h:hsOk al σ hs=true) {t b:Nat} (hm:(t,b)∈hs):∃i v q j l lv cv,lkT t al=some (.v (.c (.own i b v q)))∧σ[b]? = some (.row j l lv cv)∧v=lv∧i=j:=by
  simp only [hsOk,List.all_eq_true] at h
  have:=h (t,b) hm
  dsimp only at this
  split at this
  · rename_i i b' v q j l lv cv h1 h2
    simp only [Bool.and_eq_true] at this
    have e1:=Nat.eq_of_beq_eq_true this.1
    have e2:=Nat.eq_of_beq_eq_true this.2.1
    have e3:=Nat.eq_of_beq_eq_true this.2.2
    subst e1
    exact ⟨i,v,q,j,l,lv,cv,h1,h2,e2,e3⟩
  · simp at this
theorem HS.mono {pl pl':List Pl} {σ σ1:TH} (hp:∀p∈pl,p∈pl') (h:HS pl σ σ1):HS pl' σ σ1:=fun b blk e=>by
  obtain ⟨blk1,e1,s⟩:=h b blk e
  refine ⟨blk1,e1,?_⟩
  cases blk with
  | cells w cs =>
    obtain ⟨w1,cs1,e,l,c⟩:=s
    exact ⟨w1,cs1,e,l,fun j p p1 x y hn=>c j p p1 x y fun q hq=>hn q (hp _ hq)⟩
  | row i l lv cv =>
    obtain ⟨l1,lv1,cv1,e,c⟩:=s
    exact ⟨l1,lv1,cv1,e,fun hn=>c fun q hq=>hn q (hp _ hq)⟩
  | mp j st l v =>
    obtain ⟨j1,st1,l1,v1,e,c⟩:=s
    exact ⟨j1,st1,l1,v1,e,fun hn=>c fun q st hq=>hn q st (hp _ hq)⟩
theorem PQ.hs' {al1:TA} {σ1 σ σ2:TH} {ps pl:List Pl} (h:PQ al1 σ1 ps σ σ2) (hp:∀p∈ps,p∈pl):HS pl σ σ2:=fun b blk e=>by
  obtain ⟨blk2,e2,h1,h2⟩:=h.2 b blk e
  refine ⟨blk2,e2,?_⟩
  cases blk with
  | cells w cs =>
    obtain ⟨w2,cs2,rfl,l2,c2⟩:=h2
    refine ⟨w2,cs2,rfl,l2,fun j p p1 q q1 hn=>?_⟩
    rcases (c2 j p1 q1).2 with ⟨c,a,_,_,hm⟩ | ⟨h3,_⟩
    · exact absurd (hp _ hm) (hn c)
    · rw [q] at h3; simp only [Option.some.injEq] at h3; exact h3.symm
  | row i l lv cv =>
    obtain ⟨l2,lv2,cv2,rfl,h3⟩:=h2
    refine ⟨l2,lv2,cv2,rfl,fun hn=>?_⟩
    rcases h3 with ⟨_,i',hm⟩ | ⟨h4,h5,h6,_⟩
    · exact absurd (hp _ hm) (hn i')
    · exact ⟨h4,h5,h6⟩
  | mp j st l v =>
    obtain ⟨j2,st2,l2,v2,rfl,h3⟩:=h2
    refine ⟨j2,st2,l2,v2,rfl,fun hn=>?_⟩
    rcases h3 with ⟨_,j',st',hm⟩ | ⟨h4,_⟩
    · exact absurd (hp _ hm) (hn j' st')
    · exact h4
structure ZOk (zs:List (Nat×Nat×Nat)) (σ σ':TH):Prop where
  len:σ'.length=σ.length
  row:∀(b:Nat) i (l:List (TT i)) lv cv,σ[b]? = some (.row i l lv cv)↔σ'[b]? = some (.row i l lv cv)
  mp:∀(b:Nat) j st (l:List (Int×TT j)) v,σ[b]? = some (.mp j st l v)→σ'[b]? = some (.mp j st l v)
  cells:∀(b:Nat) w cs,σ[b]? = some (.cells w cs)→∃w' cs',σ'[b]? = some (.cells w' cs')∧w≤w'∧cs'.length=cs.length∧∀(j:Nat) p',cs'[j]? = some p' →
    (cs[j]? = some p'∧∀r,(b,j,r)∈zs→∀i l lv cv,σ[r]?≠some (.row i l lv cv))∨(∃r i l lv cv,(b,j,r)∈zs∧σ[r]? = some (.row i l lv cv)∧p'.2=.own i r lv l.length∧w<p'.1∧p'.1≤w')
theorem putZs_ok:∀(zs:List (Nat×Nat×Nat)) (σ:TH),ZOk zs σ (putZs zs σ):=by
  intro zs
  induction zs with
  | nil=>intro σ; exact ⟨rfl,fun b i l lv cv=>Iff.rfl,fun b j st l v h=>h,fun b w cs h=>⟨w,cs,h,Nat.le_refl _,rfl,fun j p' hp=>.inl ⟨hp,fun r hr=>by simp at hr⟩⟩⟩
  | cons z zs ih =>
    intro σ
    obtain ⟨b0,j0,r0⟩:=z
    simp only [putZs]
    split
    · rename_i w0 cs0 i0 l0 lv0 cv0 hb hr
      have Z:=ih (σ.set b0 (.cells (w0+1) (cs0.set j0 (w0+1,.own i0 r0 lv0 l0.length))))
      have rows:∀(b:Nat) i (l:List (TT i)) lv cv,σ[b]? = some (.row i l lv cv)↔(σ.set b0 (.cells (w0+1) (cs0.set j0 (w0+1,.own i0 r0 lv0 l0.length))))[b]? = some (.row i l lv cv):=fun b i l lv cv=>by
        by_cases e:b=b0
        · subst e; rw [hb,zaT hb]; simp
        · rw [zaN e]
      refine ⟨by rw [Z.len,List.length_set],fun b i l lv cv=>(rows b i l lv cv).trans (Z.row b i l lv cv),fun b j st l v h=>Z.mp b j st l v ?_,fun b w cs h=>?_⟩
      · by_cases e:b=b0
        · subst e; rw [hb] at h; simp at h
        · rw [zaN e]; exact h
      · by_cases e:b=b0
        · subst e
          rw [hb] at h
          simp only [Option.some.injEq,TB.cells.injEq] at h
          obtain ⟨rfl,rfl⟩:=h
          obtain ⟨w',cs',h1,h2,h3,h4⟩:=Z.cells b _ _ (zaT hb)
          refine ⟨w',cs',h1,by omega,by rw [h3]; simp,fun j p' hp=>?_⟩
          rcases h4 j p' hp with ⟨h5,h6⟩ | ⟨r,i,l,lv,cv,h5,h6,h7,h8,h9⟩
          · by_cases ej:j=j0
            · subst ej
              rw [List.getElem?_set] at h5
              rw [if_pos rfl] at h5
              split at h5
              · simp only [Option.some.injEq] at h5
                subst h5
                exact .inr ⟨r0,i0,l0,lv0,cv0,List.mem_cons_self ..,hr,rfl,by omega,by omega⟩
              · simp at h5
            · rw [List.getElem?_set_ne (fun e=>ej e.symm)] at h5
              refine .inl ⟨h5,fun r hr' i l lv cv e=>?_⟩
              rcases List.mem_cons.1 hr' with e2 | hr'
              · simp only [Prod.mk.injEq] at e2; exact ej e2.2.1
              · exact h6 r hr' i l lv cv ((rows r i l lv cv).1 e)
          · exact .inr ⟨r,i,l,lv,cv,List.mem_cons_of_mem _ h5,(rows r i l lv cv).2 h6,h7,by omega,h9⟩
        · obtain ⟨w',cs',h1,h2,h3,h4⟩:=Z.cells b w cs (by rw [zaN e]; exact h)
          refine ⟨w',cs',h1,h2,h3,fun j p' hp=>?_⟩
          rcases h4 j p' hp with ⟨h5,h6⟩ | ⟨r,i,l,lv,cv,h5,h6,h7,h8⟩
          · refine .inl ⟨h5,fun r hr' i l lv cv e'=>?_⟩
            rcases List.mem_cons.1 hr' with e2 | hr'
            · simp only [Prod.mk.injEq] at e2; exact e e2.1
            · exact h6 r hr' i l lv cv ((rows r i l lv cv).1 e')
          · exact .inr ⟨r,i,l,lv,cv,List.mem_cons_of_mem _ h5,(rows r i l lv cv).2 h6,h7,h8⟩
    · rename_i hne
      have Z:=ih σ
      refine ⟨Z.len,Z.row,Z.mp,fun b w cs h=>?_⟩
      obtain ⟨w',cs',h1,h2,h3,h4⟩:=Z.cells b w cs h
      refine ⟨w',cs',h1,h2,h3,fun j p' hp=>?_⟩
      rcases h4 j p' hp with ⟨h5,h6⟩ | ⟨r,i,l,lv,cv,h5,h6,h7,h8⟩
      · refine .inl ⟨h5,fun r hr' i l lv cv e'=>?_⟩
        rcases List.mem_cons.1 hr' with e2 | hr'
        · simp only [Prod.mk.injEq] at e2
          obtain ⟨rfl,rfl,rfl⟩:=e2
          exact hne _ _ _ _ _ _ h e'
        · exact h6 r hr' i l lv cv e'
      · exact .inr ⟨r,i,l,lv,cv,List.mem_cons_of_mem _ h5,h6,h7,h8⟩
theorem ZOk.ext {zs:List (Nat×Nat×Nat)} {σ σ':TH} (Z:ZOk zs σ σ'):Ext σ σ':=fun b blk h=>by
  cases blk with
  | cells w cs =>
    obtain ⟨w',cs',h1,h2,h3,h4⟩:=Z.cells b w cs h
    refine ⟨_,h1,w',cs',rfl,h2,h3,fun j v x v1 x1 e e1=>?_⟩
    rcases h4 j _ e1 with ⟨h5,_⟩ | ⟨_,_,_,_,_,_,_,_,h6,_⟩
    · rw [e] at h5; simp only [Option.some.injEq,Prod.mk.injEq] at h5; exact .inl ⟨h5.1.symm,h5.2.symm⟩
    · exact .inr h6
  | row i l lv cv=>exact ⟨_,(Z.row b i l lv cv).1 h,BE.refl _⟩
  | mp j st l v=>exact ⟨_,Z.mp b j st l v h,BE.refl _⟩
theorem zpl_mem {zs:List (Nat×Nat×Nat)} {b j r:Nat} (h:(b,j,r)∈zs):Pl.h b j .bool∈zpl zs:=List.mem_map.2 ⟨_,h,rfl⟩
theorem ZOk.hs {zs:List (Nat×Nat×Nat)} {σ σ':TH} (Z:ZOk zs σ σ'):HS (zpl zs) σ σ':=fun b blk h=>by
  cases blk with
  | cells w cs =>
    obtain ⟨w',cs',h1,h2,h3,h4⟩:=Z.cells b w cs h
    refine ⟨_,h1,w',cs',rfl,h3,fun j p p1 e e1 hn=>?_⟩
    rcases h4 j _ e1 with ⟨h5,_⟩ | ⟨r,_,_,_,_,hm,_⟩
    · rw [e] at h5; simp only [Option.some.injEq] at h5; exact h5.symm
    · exact absurd (zpl_mem hm) (hn _)
  | row i l lv cv=>exact ⟨_,(Z.row b i l lv cv).1 h,_,_,_,rfl,fun _=>⟨rfl,rfl,rfl⟩⟩
  | mp j st l v=>exact ⟨_,Z.mp b j st l v h,_,_,_,_,rfl,fun _=>rfl⟩
theorem zsOk_at {n:Nat} {σ:TH} {zs:List (Nat×Nat×Nat)} (h:zsOk n σ zs=true) {b j r:Nat} (hm:(b,j,r)∈zs):b<n∧r<n∧∃w cs i l lv cv q v0,σ[b]? = some (.cells w cs)∧σ[r]? = some (.row i l lv cv)∧cs[j]? = some (v0,.own i r lv q):=by
  simp only [zsOk,List.all_eq_true] at h
  have:=h (b,j,r) hm
  simp only [Bool.and_eq_true] at this
  obtain ⟨h1,h2,h3⟩:=this
  refine ⟨Nat.blt_eq.mp h1,Nat.blt_eq.mp h2,?_⟩
  split at h3
  · rename_i w cs i l lv cv e1 e2
    split at h3
    · rename_i v0 i' r' v q e3
      simp only [Bool.and_eq_true] at h3
      have a1:=Nat.eq_of_beq_eq_true h3.1
      have a2:=Nat.eq_of_beq_eq_true h3.2.1
      have a3:=Nat.eq_of_beq_eq_true h3.2.2
      subst a1 a2 a3
      exact ⟨w,cs,i',l,v,cv,q,v0,e1,e2,e3⟩
    · simp at h3
  · simp at h3
theorem join_ok {h:JH} {md:List Nat} {al al1:TA} {σ σ1:TH} {alD alD1:AL} {σD σD1:Heap} {x:tupP h.pl} (R0:Ref al σ alD σD) (R1:Ref al1 σ1 alD1 σD1)
    (hdom:∀t q,lkP t al=some q→∃q',lkP t al1=some q')
    (hk:∀t q,t∉md→(∀c,Pl.r t c∉h.pl)→(∀b,(t,b)∈h.hs→∀i l lv cv,σ[b]?≠some (.row i l lv cv))→lkP t al=some q→lkP t al1=some q)
    (hs:HS (h.pl++zpl h.zs) σ σ1) (hh:hsOk al1 σ1 h.hs=true) (hz:zsOk σ.length σ1 h.zs=true) (hx:rdPs al1 σ1 h.pl=some x) :
    Ext σ (putZ h md al σ x)∧HS (h.pl++zpl h.zs) σ (putZ h md al σ x)∧(putZ h md al σ x).length=σ.length∧∃alD2 σD2,StW σ.length alD1 σD1 alD2 σD2∧Ref (putX h md al σ x) (putZ h md al σ x) alD2 σD2:=by
  have PQ0:=PQ.all R0.hh hs h.pl x hx
  have Z:=putZs_ok h.zs (putQs h.pl x σ)
  have ext:Ext σ (putZ h md al σ x):=Ext.trans R0.hh PQ0.ext Z.ext
  have len:(putZ h md al σ x).length=σ.length:=Z.len.trans PQ0.1
  refine ⟨ext,(PQ0.hs' fun p hp=>List.mem_append_left _ hp).trans (Z.hs.mono fun p hp=>List.mem_append_right _ hp),len,?_⟩
  -- a row,in both
  have both:∀(b i i1 lv cv lv1 cv1:Nat) (l:List (TT i)) (l1:List (TT i1)),(putQs h.pl x σ)[b]? = some (.row i l lv cv)→σ1[b]? = some (.row i1 l1 lv1 cv1)→i1=i∧l.length=l1.length:=by
    intro b i i1 lv cv lv1 cv1 l l1 m2 n2
    have hlt:b<σ.length:=by rw [←PQ0.1]; exact (List.getElem?_eq_some_iff.1 m2).1
    obtain ⟨blk0,e0⟩:∃blk0,σ[b]? = some blk0:=⟨_,List.getElem?_eq_getElem hlt⟩
    obtain ⟨blk2,e2,be,pb⟩:=PQ0.2 b blk0 e0
    rw [m2] at e2
    simp only [Option.some.injEq] at e2
    subst e2
    obtain ⟨blk1,e1,sb⟩:=hs b blk0 e0
    rw [n2] at e1
    simp only [Option.some.injEq] at e1
    subst e1
    cases blk0 with
    | cells w cs=>obtain ⟨_,_,e,_⟩:=sb; simp at e
    | mp q st l v=>obtain ⟨_,_,_,_,e,_⟩:=sb; simp at e
    | row i0 l0 lv0 cv0 =>
      obtain ⟨l5,lv5,cv5,e5,sb⟩:=sb
      simp only [TB.row.injEq] at e5
      obtain ⟨rfl,e6,rfl,rfl⟩:=e5
      cases e6
      obtain ⟨l6,lv6,cv6,e7,pb⟩:=pb
      simp only [TB.row.injEq] at e7
      obtain ⟨rfl,e8,rfl,rfl⟩:=e7
      cases e8
      refine ⟨rfl,?_⟩
      rcases pb with ⟨⟨lv7,cv7,e9⟩,_⟩ | ⟨rfl,_,_,hn⟩
      · rw [n2] at e9
        simp only [Option.some.injEq,TB.row.injEq,heq_eq_eq,true_and] at e9
        rw [e9.1]
      · by_cases hn':notW (h.pl++zpl h.zs) b
        · rw [(sb hn').1]
        · exact absurd (fun i hi=>by
            rcases List.mem_append.1 hi with hi | hi
            · exact hn i hi
            · simp [zpl] at hi) hn'
  -- the registers' list
  obtain ⟨preS,es,hS1,hS2⟩:=shade_pre md al
  obtain ⟨preH,eh,hH1,hH2⟩:=putH_pre (putQs h.pl x σ) h.hs (shade md al)
  obtain ⟨preP,ep,hP1⟩:=putPs_pre h.pl x (putH (putQs h.pl x σ) h.hs (shade md al))
  have eall:putX h md al σ x=(preP++(preH++preS))++al:=by
    unfold putX
    rw [ep,eh,es,List.append_assoc,List.append_assoc]
  have extW:Ext σ (putQs h.pl x σ):=PQ0.ext
  have hle:(putZ h md al σ x).length≤σD1.length:=by
    rw [len,R1.hh.len]
    rcases Nat.lt_or_ge σ1.length σ.length with hlt | hge
    · obtain ⟨blk1,e,_⟩:=hs σ1.length _ (List.getElem?_eq_getElem hlt)
      rw [List.getElem?_eq_none (Nat.le_refl _)] at e
      simp at e
    · exact hge
  have gw:∀{v:TV},GV (putZ h md al σ x) v→GW (putX h md al σ x) (putZ h md al σ x) (.v v):=fun g=>g
  rw [←len]
  refine stw_of hle (fun t v p ht=>?_) (fun b blk2 hb2=>?_) (fun b w2 cs2 hb2 q hq=>?_)
  · -- a register
    rcases putPs_lk h.pl x hx ht with ⟨c,a,rfl,hr⟩ | ⟨hnp,ht⟩
    · simp only [rdP] at hr
      split at hr
      · rename_i v1 h1
        obtain ⟨p1,h2⟩:=lkT_some h1
        obtain ⟨d1,h3,h4,_⟩:=R1.rg t _ p1 h2
        exact ⟨tv_good c a,d1,c.enc a,h3,rdV_wk hr h4,c.tv_ok a⟩
      · simp at hr
    · rw [eh] at ht
      rcases lkP_mem ht with hm | ⟨hnh,ht⟩
      · obtain ⟨b,i,l,lv,cv,m1,m2,m3⟩:=hH1 _ hm
        dsimp only at m1 m3
        subst m3
        obtain ⟨i1,v1,q1,j1,l1,lv1,cv1,n1,n2,n3,n4⟩:=hsOk_at hh m1
        subst n3
        obtain ⟨p1,n5⟩:=lkT_some n1
        obtain ⟨d1,n6,n7,n8⟩:=R1.rg t _ p1 n5
        obtain ⟨rfl,rfl⟩:=own_row R1.hh n8 n2 (by simp)
        clear n4
        have m2q:=(Z.row b _ _ _ _).1 m2
        -- the row,in both
        have hlt:b<σ.length:=by rw [←PQ0.1]; exact (List.getElem?_eq_some_iff.1 m2).1
        obtain ⟨blk0,e0⟩:∃blk0,σ[b]? = some blk0:=⟨_,List.getElem?_eq_getElem hlt⟩
        obtain ⟨blk2,e2,be,pb⟩:=PQ0.2 b blk0 e0
        rw [m2] at e2
        simp only [Option.some.injEq] at e2
        subst e2
        obtain ⟨blk1,e1,sb⟩:=hs b blk0 e0
        rw [n2] at e1
        simp only [Option.some.injEq] at e1
        subst e1
        cases blk0 with
        | cells w cs=>obtain ⟨_,_,e,_⟩:=sb; simp at e
        | mp q st l v=>obtain ⟨_,_,_,_,e,_⟩:=sb; simp at e
        | row i0 l0 lv0 cv0 =>
          obtain ⟨l5,lv5,cv5,e5,sb⟩:=sb
          simp only [TB.row.injEq] at e5
          obtain ⟨rfl,e6,rfl,rfl⟩:=e5
          cases e6
          obtain ⟨l6,lv6,cv6,e7,pb⟩:=pb
          simp only [TB.row.injEq] at e7
          obtain ⟨rfl,e8,rfl,rfl⟩:=e7
          cases e8
          have hll:l=l1:=by
            rcases pb with ⟨⟨lv7,cv7,e9⟩,_⟩ | ⟨rfl,_,_,hn⟩
            · rw [n2] at e9
              simp only [Option.some.injEq,TB.row.injEq,heq_eq_eq,true_and] at e9
              exact e9.1.symm
            · exact (sb fun i hi=>by
                rcases List.mem_append.1 hi with hi | hi
                · exact hn i hi
                · simp [zpl] at hi).1.symm
          subst hll
          refine ⟨⟨_,m2q,fun j l' lv' cv' e=>?_⟩,d1,d1,n6,?_,?_⟩
          · simp only [TB.row.injEq] at e
            obtain ⟨rfl,e9,rfl,rfl⟩:=e
            cases e9
            exact ⟨Nat.le_refl _,fun _=>⟨rfl,rfl⟩⟩
          · rw [RT.c1 (by simp) n7]
            refine DWk.low ?_
            simp only [TC.er,D.low,decide_eq_true_eq]
            rw [len]; exact hlt
          · have:=RT.c1 (by simp) n7
            rw [this]
            exact Or.inr rfl
      · rw [es] at ht
        rcases lkP_mem ht with hm | ⟨hns,ht⟩
        · obtain ⟨m1,m2,m3⟩:=hS1 _ hm
          dsimp only at m1 m2 m3
          subst m3
          rw [Option.isSome_iff_exists] at m2
          obtain ⟨y,hy⟩:=m2
          obtain ⟨p1,n1⟩:=lkT_some hy
          obtain ⟨⟨y',p'⟩,n2⟩:=hdom t _ n1
          obtain ⟨d1,n3,_⟩:=R1.rg t y' p' n2
          exact ⟨True.intro,d1,.any,n3,DWk.any _ _,Or.inl rfl⟩
        · have hmd:t∉md:=fun hm=>by
            obtain ⟨y,hy,e⟩:=hS2 t hm (by rw [lkT_lkP,ht]; rfl)
            exact hns y hy e
          have hnh':∀b,(t,b)∈h.hs→∀i l lv cv,σ[b]?≠some (.row i l lv cv):=by
            intro b hb i l lv cv e
            obtain ⟨blk2,e2,be,_⟩:=PQ0.2 b _ e
            obtain ⟨l2,lv2,cv2,rfl,_⟩:=be
            obtain ⟨y,hy,e4⟩:=hH2 t b _ _ _ _ hb e2
            exact hnh y hy e4
          have h1:=hk t _ hmd hnp hnh' ht
          obtain ⟨d1,n3,n4,_⟩:=R1.rg t v p h1
          obtain ⟨_,_,_,n5⟩:=R0.rg t v p ht
          obtain ⟨d2,n6,n7⟩:=RR_wk n4 n5
          refine ⟨?_,d1,d2,n3,by rw [len]; exact n6,n7⟩
          rw [eall]
          exact n5.mono ext _
  · -- a block
    have hlt:b<σ.length:=by rw [←len]; exact (List.getElem?_eq_some_iff.1 hb2).1
    obtain ⟨blk0,e0⟩:∃blk0,σ[b]? = some blk0:=⟨_,List.getElem?_eq_getElem hlt⟩
    obtain ⟨blk2',e2,be,pb⟩:=PQ0.2 b blk0 e0
    obtain ⟨blk1,e1,sb⟩:=hs b blk0 e0
    obtain ⟨ob1,o1,o2⟩:=R1.hh.hp b blk1 e1
    refine ⟨ob1,?_⟩
    cases blk0 with
    | cells w cs =>
      obtain ⟨w1,cs1,rfl,l1,c1⟩:=sb
      obtain ⟨w2q,cs2q,rfl,l2q,c2q⟩:=pb
      obtain ⟨w2,cs2,ez,_,l2z,c2z⟩:=Z.cells b _ _ e2
      have:blk2=.cells w2 cs2:=by
        have e3:(putZ h md al σ x)[b]? = some (.cells w2 cs2):=ez
        rw [hb2] at e3
        simp only [Option.some.injEq] at e3
        exact e3
      subst this
      have l2:cs2.length=cs.length:=l2z.trans l2q
      obtain ⟨ds1,o3,a1,_,_⟩:=R1.hh.cells e1
      rw [o1] at o3
      simp only [Option.some.injEq] at o3
      subst o3
      have a1':All2 (fun (p:Nat×TC) d=>RC p.2 d) cs1 ds1:=by
        cases o2
        refine All2.of_get (by simp) fun j p d h1 h2=>?_
        rw [List.getElem?_map,h1] at h2
        simp only [Option.map_some,Option.some.injEq] at h2
        exact .inr h2.symm
      clear o2 a1
      have a1:=a1'
      have hl:ds1.length=cs2.length:=by rw [←a1.len,l1,l2]
      obtain ⟨es,he1,he2⟩:=exists_list (p:=fun j e=>∃p2 d1,cs2[j]? = some p2∧ds1[j]? = some d1∧DWk (putZ h md al σ x).length d1 e∧e=p2.2.er) cs2.length fun j hj=>by
        have q2:=List.getElem?_eq_getElem hj
        have q1:cs1[j]? = some _:=List.getElem?_eq_getElem (by rw [l1,←l2]; exact hj)
        obtain ⟨d1,q3,q4⟩:=a1.get j _ q1
        rcases c2z j _ q2 with ⟨z1,z2⟩ | ⟨r,i,l,lv,cv,z1,z2,z3,_⟩
        rotate_left
        · obtain ⟨_,_,w9,cs9,i9,l9,lv9,cv9,q9,v9,y1,y2,y3⟩:=zsOk_at hz z1
          rw [e1] at y1
          simp only [Option.some.injEq,TB.cells.injEq] at y1
          obtain ⟨_,rfl⟩:=y1
          rw [q1] at y3
          simp only [Option.some.injEq] at y3
          have g9:=(R1.hh.hg b w1 cs1 e1 _ (List.mem_of_getElem? q1)).1
          rw [y3] at q4 g9
          obtain ⟨t1,t2⟩:=both r i i9 _ _ _ _ _ _ z2 y2
          subst t1
          obtain ⟨_,t3⟩:=own_row R1.hh g9 y2 (by simp)
          have q4':d1=OS (esz i9) r q9:=RT.c1 (x:=.own i9 r lv9 q9) (by simp) q4
          have hr:r<σ.length:=by rw [←PQ0.1]; exact (List.getElem?_eq_some_iff.1 z2).1
          refine ⟨d1,_,d1,q2,q3,?_,?_⟩
          · rw [q4']
            refine DWk.low ?_
            simp only [OS,D.low,decide_eq_true_eq]
            rw [len]; exact hr
          · rw [q4',z3,t3,←t2]
            rfl
        obtain ⟨_,q5⟩:=c2q j _ z1
        rcases q5 with ⟨c,a,q5,q6,_⟩ | ⟨q5,q6⟩
        · simp only [rdP,e1,q1] at q6
          exact ⟨.c (encC enc c a),_,d1,q2,q3,rdC_wk q6 q4,by rw [q5]; exact (expC_er c a).symm⟩
        · have:=c1 j _ _ q5 q1 fun c hc=>by
            rcases List.mem_append.1 hc with hc | hc
            · exact q6 c hc
            · simp only [zpl,List.mem_map] at hc
              obtain ⟨⟨b9,j9,r9⟩,hm,e9⟩:=hc
              simp only [Pl.h.injEq] at e9
              obtain ⟨rfl,rfl,_⟩:=e9
              obtain ⟨_,hr,w9,cs9,i9,l9,lv9,cv9,q9,v9,y1,y2,y3⟩:=zsOk_at hz hm
              -- the row stands in all of them
              obtain ⟨blk9,y4⟩:∃blk,σ[r9]? = some blk:=⟨_,List.getElem?_eq_getElem hr⟩
              obtain ⟨blk1',y5,sb'⟩:=hs r9 _ y4
              rw [y2] at y5
              simp only [Option.some.injEq] at y5
              subst y5
              cases blk9 with
              | cells w cs=>obtain ⟨_,_,e,_⟩:=sb'; simp at e
              | mp q st l v=>obtain ⟨_,_,_,_,e,_⟩:=sb'; simp at e
              | row i8 l8 lv8 cv8 =>
                obtain ⟨blk2'',y6,be',_⟩:=PQ0.2 r9 _ y4
                obtain ⟨l7,lv7,cv7,rfl,_⟩:=be'
                exact z2 r9 hm _ _ _ _ y6
          rw [this] at q4
          exact ⟨_,_,d1,q2,q3,by rw [len]; exact RC_wk0 q4 (R0.hh.hg b w cs e0 _ (List.mem_of_getElem? q5)).1,rfl⟩
      refine ⟨.cells es,o1,⟨es,rfl,All2.of_get (by rw [hl,he1]) fun j d e h1 h2=>?_⟩,?_⟩
      · obtain ⟨p2,d1,_,r2,r3,_⟩:=he2 j e h2
        rw [h1] at r2
        simp only [Option.some.injEq] at r2
        subst r2
        exact r3
      · unfold RB TB.er
        congr 1
        apply List.ext_getElem?
        intro j
        rw [List.getElem?_map]
        cases h2:es[j]? with
        | none=>rw [List.getElem?_eq_none (by have:=List.getElem?_eq_none_iff.1 h2; omega)]; rfl
        | some e =>
          obtain ⟨p2',d1,r1,_,_,r4⟩:=he2 j e h2
          rw [r1,r4]; rfl
    | row i l lv cv =>
      obtain ⟨l1,lv1,cv1,rfl,sb⟩:=sb
      obtain ⟨l2,lv2,cv2,rfl,pb⟩:=pb
      have:blk2=.row i l2 lv2 cv2:=by
        have e3:(putZ h md al σ x)[b]? = some (.row i l2 lv2 cv2):=(Z.row b _ _ _ _).1 e2
        rw [hb2] at e3
        simp only [Option.some.injEq] at e3
        exact e3
      subst this
      have hll:l2=l1:=by
        rcases pb with ⟨⟨lv7,cv7,e9⟩,_⟩ | ⟨rfl,_,_,hn⟩
        · rw [e1] at e9
          simp only [Option.some.injEq,TB.row.injEq,heq_eq_eq,true_and] at e9
          exact e9.1.symm
        · exact (sb fun i hi=>by
            rcases List.mem_append.1 hi with hi | hi
            · exact hn i hi
            · simp [zpl] at hi).1.symm
      subst hll
      cases o2
      exact ⟨_,o1,ObW.refl_row,rfl⟩
    | mp j st l v =>
      obtain ⟨j1,st1,l1,v1,rfl,sb⟩:=sb
      obtain ⟨j2,st2,l2,v2,rfl,pb⟩:=pb
      have:blk2=.mp j2 st2 l2 v2:=by
        have e3:(putZ h md al σ x)[b]? = some (.mp j2 st2 l2 v2):=Z.mp b _ _ _ _ e2
        rw [hb2] at e3
        simp only [Option.some.injEq] at e3
        exact e3
      subst this
      have heq:j2=j1∧st2=st1∧HEq l2 l1:=by
        rcases pb with ⟨⟨v7,e9⟩,_⟩ | ⟨e9,hn⟩
        · rw [e1] at e9
          simp only [Option.some.injEq,TB.mp.injEq] at e9
          exact ⟨e9.1.symm,e9.2.1.symm,e9.2.2.1.symm⟩
        · have e10:=sb fun j st hi=>by
            rcases List.mem_append.1 hi with hi | hi
            · exact hn j st hi
            · simp [zpl] at hi
          rw [←e9] at e10
          simp only [TB.mp.injEq] at e10
          exact ⟨e10.1.symm,e10.2.1.symm,e10.2.2.1.symm⟩
      obtain ⟨rfl,rfl,hl⟩:=heq
      cases hl
      cases o2
      exact ⟨_,o1,⟨rfl,mbE_low (fun a=>mpE_low _ _ _ _) _ _⟩,rfl⟩
  · -- what is in cells
    have hlt:b<σ.length:=by rw [←len]; exact (List.getElem?_eq_some_iff.1 hb2).1
    obtain ⟨blk0,e0⟩:∃blk0,σ[b]? = some blk0:=⟨_,List.getElem?_eq_getElem hlt⟩
    obtain ⟨blk2',e2,be,pb⟩:=PQ0.2 b blk0 e0
    cases blk0 with
    | cells w cs =>
      obtain ⟨w3,cs3,rfl,l2,c2⟩:=pb
      obtain ⟨w4,cs4,ez,hw,l2z,c2z⟩:=Z.cells b _ _ e2
      have e3:(putZ h md al σ x)[b]? = some (.cells w4 cs4):=ez
      rw [hb2] at e3
      simp only [Option.some.injEq,TB.cells.injEq] at e3
      obtain ⟨rfl,rfl⟩:=e3
      obtain ⟨j,hj⟩:=List.getElem?_of_mem hq
      rcases c2z j q hj with ⟨z1,_⟩ | ⟨r,i,l,lv,cv,_,z2,z3,_,z4⟩
      · obtain ⟨r1,r2⟩:=c2 j q z1
        refine ⟨?_,Nat.le_trans r1 hw⟩
        rcases r2 with ⟨c,a,r2,_⟩ | ⟨r2,_⟩
        · rw [r2]; exact expC_good c a
        · exact (R0.hh.hg b w cs e0 q (List.mem_of_getElem? r2)).1.mono ext
      · refine ⟨?_,z4⟩
        rw [z3]
        refine ⟨_,(Z.row r _ _ _ _).1 z2,fun j l' lv' cv' e=>?_⟩
        simp only [TB.row.injEq] at e
        obtain ⟨rfl,e9,rfl,rfl⟩:=e
        cases e9
        exact ⟨Nat.le_refl _,fun _=>⟨rfl,rfl⟩⟩
    | row i l lv cv =>
      obtain ⟨_,_,_,rfl,_⟩:=pb
      have e3:=(Z.row b _ _ _ _).1 e2
      have e4:(putZ h md al σ x)[b]? = _:=e3
      rw [hb2] at e4
      simp at e4
    | mp j st l v =>
      obtain ⟨_,_,_,_,rfl,_⟩:=pb
      have e4:(putZ h md al σ x)[b]? = _:=Z.mp b _ _ _ _ e2
      rw [hb2] at e4
      simp at e4
end
end Go.Abs
end
section
namespace Go.Abs
noncomputable section
variable [Gl] [Y:Ty]
theorem frzA_app (m:Nat) (σ:TH) (al:TA):∀(pre:TA),frzA m σ pre.length (pre++al)=pre.map (fun p=>(p.1,frzV m σ p.2))++al:=by
  intro pre
  induction pre with
  | nil=>cases al <;> rfl
  | cons x pre ih=>obtain ⟨t,v⟩:=x; simp only [List.length_cons,List.cons_append,frzA,ih,List.map_cons]
theorem lkP_frz {m:Nat} {σ:TH} {al:TA} {t:Nat} {x:RV} {p:Nat}:∀{pre:TA},lkP t (pre.map (fun p=>(p.1,frzV m σ p.2))++al)=some (x,p) →
    (∃x0,lkP t (pre++al)=some (x0,p)∧x=frzV m σ x0)∨(lkP t (pre++al)=some (x,p)∧lkP t al=some (x,p)):=by
  intro pre
  induction pre with
  | nil=>intro h; exact .inr ⟨h,h⟩
  | cons y pre ih =>
    intro h
    obtain ⟨s,y⟩:=y
    simp only [List.map_cons,List.cons_append,lkP] at h ⊢
    split at h
    · rename_i hb
      simp only [Option.some.injEq,Prod.mk.injEq] at h
      obtain ⟨rfl,rfl⟩:=h
      try rw [hb]
      exact .inl ⟨y,by simp,rfl⟩
    · rename_i hb
      try rw [hb]
      exact ih h
theorem mp_low0 {j:Nat} {st:Bool} (l:List (Int×TT j)):((mbE (mpE j st) 0 l).all fun e=>e.2.1.low 0)=true:=mbE_low (fun a=>mpE_low _ _ _ _) _ _
variable {m:Nat} {σ1:TH} {σD1:Heap}
theorem er_low {x:TC} (h:okC m x=true) (hx:x≠.any):x.er.low m=true:=by
  cases x with
  | any=>exact absurd rfl hx
  | d x=>exact h
  | own i b v n=>simpa [okC,TC.er,OS,D.low] using h
  | op i b v n k a o=>simpa [okC,TC.er,D.low] using h
  | ap b off len sz k=>simpa [okC,TC.er,D.low] using h
  | os i b v n lo len=>simpa [okC,TC.er,D.low] using h
  | _=>rfl
def frF (m:Nat) (σD1:Heap) (b:Nat):Prop:=m≤b∧∃(i:Nat) (l:List (TT i)),σD1[b]? = some (OB (enc i) l)
theorem take_rn (H:RH σ1 σD1) (hm:m≤σ1.length) (hok:(σ1.take m).all (okB m)=true):RnH m σD1 (σD1.take m) id (frF m σD1):=by
  have hl:(σD1.take m).length=m:=by rw [List.length_take,H.len]; omega
  have get:∀i,i<m→∀ob,σD1[i]? = some ob→(σD1.take m)[i]? = some ob:=fun i hi ob h=>by rw [List.getElem?_take_of_lt hi]; exact h
  have N:Rn m σD1 (σD1.take m) id (frF m σD1):=⟨by rw [hl]; exact Nat.le_refl _,fun i _=>rfl,fun i j _ _ e=>e,fun i hi h=>by rw [hl] at hi; have:=h.1; simp only [id] at this; omega,fun b h=>h.2,fun i hi=>by
    rw [hl] at hi
    have h1:σD1[i]? = some _:=List.getElem?_eq_getElem (by rw [H.len]; omega)
    exact ⟨_,_,h1,get i hi _ h1,rfl⟩⟩
  refine ⟨N,fun i hi=>?_⟩
  rw [hl] at hi
  have hi1:i<σ1.length:=by omega
  obtain ⟨ob,h1,h2⟩:=H.hp i _ (List.getElem?_eq_getElem hi1)
  refine ⟨ob,ob,h1,get i hi _ h1,?_⟩
  unfold RB at h2
  subst h2
  have hk:okB m σ1[i]=true:=List.all_eq_true.1 hok _ (List.mem_of_getElem? (i:=i) (by rw [List.getElem?_take_of_lt hi,List.getElem?_eq_getElem hi1]))
  cases hb:σ1[i] with
  | cells w cs =>
    rw [hb] at hk
    refine ⟨_,rfl,All2.of_get rfl fun j a b e1 e2=>?_⟩
    rw [e1] at e2
    simp only [Option.some.injEq] at e2
    subst e2
    rw [List.getElem?_map,Option.map_eq_some_iff] at e1
    obtain ⟨p,hp,rfl⟩:=e1
    have:=List.all_eq_true.1 hk p (List.mem_of_getElem? hp)
    by_cases ha:p.2=.any
    · rw [ha]; exact DWr.any _
    · exact DWr.low N (er_low this ha)
  | row i l lv cv =>
    refine ⟨_,rfl,All2.of_get rfl fun j a b e1 e2=>?_⟩
    rw [e1] at e2
    simp only [Option.some.injEq] at e2
    subst e2
    rw [List.getElem?_map,Option.map_eq_some_iff] at e1
    obtain ⟨c,_,rfl⟩:=e1
    exact DWr.data N rfl
  | mp j st l v=>exact ⟨rfl,mp_low0 l⟩
theorem take_get {i:Nat} (hi:i<m) {blk:TB} (h:σ1[i]? = some blk):(σ1.take m)[i]? = some blk:=by rw [List.getElem?_take_of_lt hi]; exact h
theorem frzT_ok (H:RH σ1 σD1) (hm:m≤σ1.length) (N:Rn m σD1 (σD1.take m) id (frF m σD1)) {x:TC} {d:D} (hr:RC x d) (hg:GC σ1 x) :
    ∃d',DWr σD1 (σD1.take m) id (frF m σD1) d d'∧RC (frzT m σ1 x) d'∧GC (σ1.take m) (frzT m σ1 x):=by
  have hl:(σ1.take m).length=m:=by rw [List.length_take]; omega
  rcases hr with rfl | rfl
  · exact ⟨.any,DWr.any _,.inl rfl,True.intro⟩
  have any:∃d',DWr σD1 (σD1.take m) id (frF m σD1) x.er d'∧RC .any d'∧GC (σ1.take m) .any:=⟨.any,DWr.any _,.inl rfl,True.intro⟩
  have bt:∀{b:Nat},Nat.blt b m=true→b<m:=fun h=>Nat.blt_eq.mp h
  cases x with
  | any=>exact any
  | d x =>
    simp only [frzT]
    split
    · rename_i h; exact ⟨x,DWr.low N h,.inr rfl,by show x.low _=true; rw [hl]; exact h⟩
    · exact any
  | b e=>exact ⟨_,DWr.data N rfl,.inr rfl,True.intro⟩
  | sl i l=>exact ⟨_,DWr.data N rfl,.inr rfl,True.intro⟩
  | fp i a o=>exact ⟨_,DWr.data N rfl,.inr rfl,True.intro⟩
  | fl n=>exact ⟨_,DWr.data N rfl,.inr rfl,True.intro⟩
  | cx a b=>exact ⟨_,DWr.data N rfl,.inr rfl,True.intro⟩
  | own i b v n =>
    simp only [frzT]
    obtain ⟨blk,g1,g2⟩:=hg
    split
    · rename_i h
      exact ⟨_,DWr.low N (by simpa [TC.er,OS,D.low] using bt h),.inr rfl,blk,take_get (bt h) g1,g2⟩
    · rename_i h
      split
      · rename_i j l lv cv hb
        rw [g1] at hb
        simp only [Option.some.injEq] at hb
        subst hb
        split
        · rename_i hv
          have hv:=Nat.eq_of_beq_eq_true hv
          obtain ⟨rfl,rfl⟩:=(g2 _ _ _ _ rfl).2 hv.symm
          obtain ⟨ob,h1,h2⟩:=H.hp b _ g1
          unfold RB at h2
          subst h2
          have hF:frF m σD1 b:=⟨by
            rcases Nat.lt_or_ge b m with hlt | hge
            · rw [Nat.blt_eq.mpr hlt] at h; simp at h
            · exact hge,_,_,h1⟩
          exact ⟨_,DWr.frz N hF h1,.inr rfl,True.intro⟩
        · exact any
      · exact any
  | op i b v n k a o =>
    simp only [frzT]
    obtain ⟨blk,g1,g2⟩:=hg
    split
    · rename_i h; exact ⟨_,DWr.low N (by simpa [TC.er,D.low] using bt h),.inr rfl,blk,take_get (bt h) g1,g2⟩
    · exact any
  | ap b off len sz k =>
    simp only [frzT]
    split
    · rename_i h; exact ⟨_,DWr.low N (by simpa [TC.er,D.low] using bt h),.inr rfl,by show b<_; rw [hl]; exact bt h⟩
    · exact any
  | os i b v n lo len =>
    simp only [frzT]
    obtain ⟨blk,g1,g2⟩:=hg
    split
    · rename_i h; exact ⟨_,DWr.low N (by simpa [TC.er,D.low] using bt h),.inr rfl,blk,take_get (bt h) g1,g2⟩
    · exact any
theorem frzTs_ok (H:RH σ1 σD1) (hm:m≤σ1.length) (N:Rn m σD1 (σD1.take m) id (frF m σD1)) {xs:List TC} {ds:List D} (hr:All2 RC xs ds) (hg:∀x∈xs,GC σ1 x) :
    ∃es,All2 (DWr σD1 (σD1.take m) id (frF m σD1)) ds es∧All2 RC (xs.map (frzT m σ1)) es∧∀x∈xs.map (frzT m σ1),GC (σ1.take m) x:=by
  induction hr with
  | nil=>exact ⟨[],.nil,.nil,by simp⟩
  | cons h r ih =>
    obtain ⟨e,h1,h2,h3⟩:=frzT_ok H hm N h (hg _ (List.mem_cons_self ..))
    obtain ⟨es,h4,h5,h6⟩:=ih fun x hx=>hg x (List.mem_cons_of_mem _ hx)
    exact ⟨e::es,.cons h1 h4,.cons h2 h5,fun x hx=>by
      rw [List.map_cons] at hx
      rcases List.mem_cons.1 hx with rfl | hx
      · exact h3
      · exact h6 x hx⟩
theorem frzV_ok (H:RH σ1 σD1) (hm:m≤σ1.length) (N:Rn m σD1 (σD1.take m) id (frF m σD1)) {al al':TA} {x:RV} {d:D} (hr:RR x d) (hg:GW al σ1 x) :
    ∃d',DWr σD1 (σD1.take m) id (frF m σD1) d d'∧RR (frzV m σ1 x) d'∧GW al' (σ1.take m) (frzV m σ1 x):=by
  have any:∃d',DWr σD1 (σD1.take m) id (frF m σD1) d d'∧RR (.v (.c .any)) d'∧GW al' (σ1.take m) (.v (.c .any)):=⟨.any,DWr.any _,Or.inl rfl,True.intro⟩
  cases x with
  | g c w p x=>exact any
  | v x =>
    cases x with
    | c x=>exact frzT_ok H hm N hr hg
    | tup xs=>exact any
    | agg xs =>
      obtain ⟨ds,rfl,ha⟩:=hr
      obtain ⟨es,h1,h2,h3⟩:=frzTs_ok H hm N ha hg
      exact ⟨_,DWr.agg h1,⟨es,rfl,h2⟩,h3⟩
theorem dwr_wk (N:Rn m σD1 (σD1.take m) id (frF m σD1)) (hm:m≤σD1.length) {d1 d2:D} (h:DWk m d1 d2):DWr σD1 (σD1.take m) id (frF m σD1) d1 d2:=fun M Fz w v R hv=>by
  have hl:(σD1.take m).length=m:=by rw [List.length_take]; omega
  have h1:=h σD1 (σD1.take m) M Fz w v (fun b hb ob ho=>⟨ob,by rw [List.getElem?_take_of_lt hb]; exact ho,rfl⟩) hv
  have e:mN (σD1.take m).length id M=cutM M m:=by rw [hl]; rfl
  rw [e]
  exact h1.sub (fun b ob hb=>⟨ob,hb,rfl⟩) (fun _ _ h=>h) (fun c h=>⟨.inl h,rfl⟩) (fun c arr T fr h=>⟨arr,h,rfl⟩)
theorem frz_ok {pre al:TA} {σ:TH} {alD alD1:AL} {σD:Heap} (R0:Ref al σ alD σD) (R1:Ref (pre++al) σ1 alD1 σD1) (he:Ext σ σ1) (hok:(σ1.take σ.length).all (okB σ.length)=true) :
    ∃alD2 σD2,StW σ.length alD1 σD1 alD2 σD2∧Ref (pre.map (fun p=>(p.1,frzV σ.length σ1 p.2))++al) (σ1.take σ.length) alD2 σD2∧Ext σ (σ1.take σ.length):=by
  have hm:σ.length≤σ1.length:=by
    rcases Nat.lt_or_ge σ1.length σ.length with hlt | hge
    · obtain ⟨blk1,e,_⟩:=he σ1.length _ (List.getElem?_eq_getElem hlt)
      rw [List.getElem?_eq_none (Nat.le_refl _)] at e
      simp at e
    · exact hge
  have hmD:σ.length≤σD1.length:=by rw [R1.hh.len]; exact hm
  have he':Ext σ (σ1.take σ.length):=fun b blk hb=>by
    obtain ⟨blk1,h1,h2⟩:=he b blk hb
    exact ⟨blk1,take_get (List.getElem?_eq_some_iff.1 hb).1 h1,h2⟩
  have N:=take_rn R1.hh hm hok
  have key:∀t,∃d2,∀x p,lkP t (pre.map (fun p=>(p.1,frzV σ.length σ1 p.2))++al)=some (x,p)→GW (pre.map (fun p=>(p.1,frzV σ.length σ1 p.2))++al) (σ1.take σ.length) x∧∃d1,lk t alD1=some d1∧DWr σD1 (σD1.take σ.length) id (frF σ.length σD1) d1 d2∧RR x d2:=by
    intro t
    cases ht:lkP t (pre.map (fun p=>(p.1,frzV σ.length σ1 p.2))++al) with
    | none=>exact ⟨.any,fun x p h=>by simp at h⟩
    | some q =>
      obtain ⟨x,p⟩:=q
      have:∃d2,GW (pre.map (fun p=>(p.1,frzV σ.length σ1 p.2))++al) (σ1.take σ.length) x∧∃d1,lk t alD1=some d1∧DWr σD1 (σD1.take σ.length) id (frF σ.length σD1) d1 d2∧RR x d2:=by
        rcases lkP_frz ht with ⟨x0,h1,rfl⟩ | ⟨h1,h2⟩
        · obtain ⟨d1,h3,h4,h5⟩:=R1.rg t x0 p h1
          obtain ⟨d2,h6,h7,h8⟩:=frzV_ok R1.hh hm N.toRn h4 h5
          exact ⟨d2,h8,d1,h3,h6,h7⟩
        · obtain ⟨d1,h3,h4,_⟩:=R1.rg t x p h1
          obtain ⟨_,_,_,h5⟩:=R0.rg t x p h2
          obtain ⟨d2,h6,h7⟩:=RR_wk h4 h5
          exact ⟨d2,h5.mono he' _,d1,h3,dwr_wk N.toRn hmD h6,h7⟩
      obtain ⟨d2,h⟩:=this
      exact ⟨d2,fun x' p' e=>by simp only [Option.some.injEq,Prod.mk.injEq] at e; obtain ⟨rfl,rfl⟩:=e; exact h⟩
  refine ⟨(pre.map (fun p=>(p.1,frzV σ.length σ1 p.2))++al).map fun p=>(p.1,Classical.choose (key p.1)),σD1.take σ.length,StW.rn N (fun b hb=>hb.1) (fun t d h=>?_),⟨⟨?_,fun b blk hb=>?_,fun b w cs hb p hp=>?_⟩,fun t x p h=>?_⟩,he'⟩
  · obtain ⟨⟨x,p,h3⟩,rfl⟩:=lkP_key' (f:=fun t=>Classical.choose (key t)) h
    obtain ⟨_,d1,h4,h5,_⟩:=Classical.choose_spec (key t) x p h3
    exact ⟨d1,h4,h5⟩
  · rw [List.length_take,List.length_take,R1.hh.len]
  · have hlt:b<σ.length:=by have:=(List.getElem?_eq_some_iff.1 hb).1; rw [List.length_take] at this; omega
    rw [List.getElem?_take_of_lt hlt] at hb
    obtain ⟨ob,h1,h2⟩:=R1.hh.hp b blk hb
    exact ⟨ob,by rw [List.getElem?_take_of_lt hlt]; exact h1,h2⟩
  · have hlt:b<σ.length:=by have:=(List.getElem?_eq_some_iff.1 hb).1; rw [List.length_take] at this; omega
    have hb0:=hb
    rw [List.getElem?_take_of_lt hlt] at hb
    obtain ⟨h1,h2⟩:=R1.hh.hg b w cs hb p hp
    refine ⟨?_,h2⟩
    have hk:okB σ.length (.cells w cs)=true:=List.all_eq_true.1 hok _ (List.mem_of_getElem? hb0)
    have hk:=List.all_eq_true.1 hk p hp
    have bt:∀{b:Nat},Nat.blt b σ.length=true→b<σ.length:=fun h=>Nat.blt_eq.mp h
    cases hx:p.2 with
    | own i b v n=>rw [hx] at h1 hk; obtain ⟨blk,g1,g2⟩:=h1; exact ⟨blk,take_get (bt hk) g1,g2⟩
    | op i b v n k a o=>rw [hx] at h1 hk; obtain ⟨blk,g1,g2⟩:=h1; exact ⟨blk,take_get (bt hk) g1,g2⟩
    | os i b v n lo len=>rw [hx] at h1 hk; obtain ⟨blk,g1,g2⟩:=h1; exact ⟨blk,take_get (bt hk) g1,g2⟩
    | ap b off len sz k=>rw [hx] at hk; show b<_; rw [List.length_take]; have:=bt hk; omega
    | d x=>rw [hx] at hk; show x.low _=true; rw [List.length_take,show min σ.length σ1.length=σ.length by omega]; exact hk
    | _=>exact True.intro
  · obtain ⟨h1,d1,h2,h3,h4⟩:=Classical.choose_spec (key t) x p h
    exact ⟨_,lkP_key (f:=fun t=>Classical.choose (key t)) ⟨x,p,h⟩,h4,h1⟩
theorem absF_ok {h:JH} {md:List Nat} {pre al:TA} {σ:TH} {alD alD1:AL} {σD:Heap} {x:tupP h.pl} (R0:Ref al σ alD σD) (R1:Ref (pre++al) σ1 alD1 σD1) (he:Ext σ σ1) (hx:absF h md al σ (pre++al) σ1=some x) :
    ∃pre' σ2 alD2 σD2,StW σ.length alD1 σD1 alD2 σD2∧Ref (pre'++al) σ2 alD2 σD2∧Ext σ σ2∧absJ h md al σ (pre'++al) σ2=some x:=by
  unfold absF at hx
  split at hx
  · rename_i hok
    obtain ⟨alD2,σD2,h1,h2,h3⟩:=frz_ok R0 R1 he hok
    rw [show (pre++al).length-al.length=pre.length by rw [List.length_append]; omega,frzA_app] at hx
    exact ⟨_,_,alD2,σD2,h1,h2,h3,hx⟩
  · refine ⟨pre,σ1,alD1,σD1,StW.refl ?_,R1,he,hx⟩
    rw [R1.hh.len]
    rcases Nat.lt_or_ge σ1.length σ.length with hlt | hge
    · obtain ⟨blk1,e,_⟩:=he σ1.length _ (List.getElem?_eq_getElem hlt)
      rw [List.getElem?_eq_none (Nat.le_refl _)] at e
      simp at e
    · exact hge
end
end Go.Abs
end
section
namespace Go.Abs
noncomputable section
variable [Gl] [Y:Ty]
def Post {R:Type} (al:TA) (σ:TH) (K:KC R) (r:R):AExit→AL→Heap→Prop:=fun x alD' σD'=>
  ∃al' σ',Ref al' σ' alD' σD'∧(∃pre,al'=pre++al)∧Ext σ σ'∧K x al' σ'=some r
theorem regsOk_ok {md:List Nat} {al pre:TA} (h:regsOk md al (pre++al)=true):∀y∈pre,y.1∈md:=by
  intro y hy
  unfold regsOk at h
  rw [List.length_append,Nat.add_sub_cancel,List.take_left,List.all_eq_true] at h
  have:=h y hy
  rw [List.any_eq_true] at this
  obtain ⟨z,hz,e⟩:=this
  have:=Nat.eq_of_beq_eq_true e
  rw [this]; exact hz
theorem absJ_ok {h:JH} {md:List Nat} {al al1:TA} {σ σ1:TH} {x:tupP h.pl} (e:absJ h md al σ al1 σ1=some x):regsOk md al al1=true∧heapSame (h.pl++zpl h.zs) 0 σ σ1=true∧hsOk al1 σ1 h.hs=true∧zsOk σ.length σ1 h.zs=true∧rdPs al1 σ1 h.pl=some x:=by
  unfold absJ at e
  split at e
  · rename_i hc
    simp only [Bool.and_eq_true] at hc
    exact ⟨hc.1,hc.2.1,hc.2.2.1,hc.2.2.2,e⟩
  · simp at e
theorem row_back {σ σ2:TH} (he:Ext σ σ2) (hl:σ2.length=σ.length) {b i lv cv:Nat} {l:List (TT i)} (h:σ2[b]? = some (.row i l lv cv)):∃i l lv cv,σ[b]? = some (.row i l lv cv):=by
  have hlt:b<σ.length:=by rw [←hl]; exact (List.getElem?_eq_some_iff.1 h).1
  obtain ⟨blk2,e2,be⟩:=he b _ (List.getElem?_eq_getElem hlt)
  rw [h] at e2
  simp only [Option.some.injEq] at e2
  subst e2
  have e0:σ[b]? = some σ[b]:=List.getElem?_eq_getElem hlt
  rw [e0]
  cases hx:σ[b] with
  | row i l lv cv=>exact ⟨i,l,lv,cv,rfl⟩
  | cells w cs=>rw [hx] at be; obtain ⟨_,_,e,_⟩:=be; simp at e
  | mp j st l v=>rw [hx] at be; obtain ⟨_,_,_,_,e,_⟩:=be; simp at e
theorem putX_pre (h:JH) (md:List Nat) (al:TA) (σ:TH) (x:tupP h.pl):∃pre,putX h md al σ x=pre++al∧∀y∈pre,(∃c,Pl.r y.1 c∈h.pl)∨(∃b i l lv cv,(y.1,b)∈h.hs∧(putZ h md al σ x)[b]? = some (.row i l lv cv))∨y.1∈md:=by
  obtain ⟨preS,es,hS1,_⟩:=shade_pre md al
  obtain ⟨preH,eh,hH1,_⟩:=putH_pre (putQs h.pl x σ) h.hs (shade md al)
  obtain ⟨preP,ep,hP1⟩:=putPs_pre h.pl x (putH (putQs h.pl x σ) h.hs (shade md al))
  refine ⟨preP++(preH++preS),by unfold putX; rw [ep,eh,es,List.append_assoc,List.append_assoc],fun y hy=>?_⟩
  rcases List.mem_append.1 hy with hy | hy
  · exact .inl (hP1 y hy)
  · rcases List.mem_append.1 hy with hy | hy
    · obtain ⟨b,i,l,lv,cv,e1,e2,_⟩:=hH1 y hy
      exact .inr (.inl ⟨b,i,l,lv,cv,e1,((putZs_ok h.zs (putQs h.pl x σ)).row b _ _ _ _).1 e2⟩)
    · exact .inr (.inr (hS1 y hy).1)
theorem putX_key {h:JH} {md:List Nat} {al:TA} {σ:TH} {x:tupP h.pl} (he:Ext σ (putZ h md al σ x)) (hl:(putZ h md al σ x).length=σ.length) {t:Nat} {q:RV×Nat} (h1:t∉md) (h2:∀c,Pl.r t c∉h.pl)
    (h3:∀b,(t,b)∈h.hs→∀i l lv cv,σ[b]?≠some (.row i l lv cv)) (h4:lkP t al=some q):lkP t (putX h md al σ x)=some q:=by
  obtain ⟨pre,e,hp⟩:=putX_pre h md al σ x
  rw [e]
  refine lkP_skip (fun y hy e'=>?_) h4
  rcases hp y hy with ⟨c,hc⟩ | ⟨b,i,l,lv,cv,hb,hr⟩ | hm
  · rw [e'] at hc; exact h2 c hc
  · rw [e'] at hb
    obtain ⟨i,l,lv,cv,e2⟩:=row_back he hl hr
    exact h3 b hb i l lv cv e2
  · rw [e'] at hm; exact h1 hm
theorem Sem.ownC {P:Program} {n:Nat} {ac:ACode} {Q:AExit→AL→Heap→Prop} {al:AL} {σ:Heap} (b j esz:Nat) (cs:List D) (hb:σ[b]? = some (.cells cs)) (hj:cs[j]? = some (.c (.lit (.slice none 0 0)))) (h:Sem P ac n al (σ.set b (.cells (cs.set j (.sl σ.length 0 0 esz 0)))++[.cells []]) Q):Sem P ac n al σ Q:=by
  intro c hc M Fz w a K R A hK
  have hlt:=(List.getElem?_eq_some_iff.1 hb).1
  have at':∀(i:Nat) ob,σ[i]? = some ob→∃ob',(σ.set b (.cells (cs.set j (.sl σ.length 0 0 esz 0)))++[.cells []])[i]? = some ob'∧ob'.sz=ob.sz:=fun i ob hi=>by
    have hi':=(List.getElem?_eq_some_iff.1 hi).1
    rw [List.getElem?_append_left (by rw [List.length_set]; exact hi')]
    by_cases e:i=b
    · subst e
      rw [hb] at hi
      simp only [Option.some.injEq] at hi
      subst hi
      exact ⟨_,zaT hb,by simp [Ob.sz]⟩
    · exact ⟨ob,by rw [zaN e]; exact hi,rfl⟩
  have hmono:∀{d v},V σ M Fz w d v→V (σ.set b (.cells (cs.set j (.sl σ.length 0 0 esz 0)))++[.cells []]) M Fz w d v:=fun h=>h.sub at' (fun _ _ h=>h) (fun c h=>⟨h,rfl⟩) (fun c arr T fr h=>⟨arr,h,rfl⟩)
  have obm:∀{ob o},ObRel σ M Fz w ob o→ObRel (σ.set b (.cells (cs.set j (.sl σ.length 0 0 esz 0)))++[.cells []]) M Fz w ob o:=fun {ob o} h4=>by
    cases ob with
    | cells cs=>obtain ⟨arr,T,ho,hl,hv⟩:=h4; exact ⟨arr,T,ho,hl,fun i d v x y=>⟨hmono (hv i d v x y).1,(hv i d v x y).2⟩⟩
    | map es clock=>obtain ⟨arr,ho,hl,hv⟩:=h4; exact ⟨arr,ho,hl,fun i k d n e x y=>let ⟨p,q,r⟩:=hv i k d n e x y; ⟨p,q,hmono r⟩⟩
    | gone n=>exact h4.elim
  have R1:Rel (σ.set b (.cells (cs.set j (.sl σ.length 0 0 esz 0)))++[.cells []]) M Fz w:=by
    refine ⟨fun b' c h=>?_,R.inj,R.fz,R.gl⟩
    obtain ⟨h1,ob,o,h2,h3,h4⟩:=R.blk b' c h
    have hi':=(List.getElem?_eq_some_iff.1 h2).1
    by_cases e:b'=b
    · subst e
      rw [hb] at h2
      simp only [Option.some.injEq] at h2
      subst h2
      refine ⟨h1,_,o,by rw [List.getElem?_append_left (by rw [List.length_set]; exact hi')]; exact zaT hb,h3,?_⟩
      obtain ⟨arr,T,ho,hl,hv⟩:=h4
      refine ⟨arr,T,ho,by rw [List.length_set]; exact hl,fun i d v x y=>?_⟩
      by_cases ej:j=i
      · subst ej
        rw [List.getElem?_set,if_pos rfl] at x
        split at x
        · simp only [Option.some.injEq] at x
          subst x
          obtain ⟨v1,v2⟩:=hv j _ v hj y
          refine ⟨?_,v2⟩
          rw [v1.lit_inv]
          exact .sl none 0 0 (by simp) (.cells []) (by rw [List.getElem?_append_right (by rw [List.length_set]; exact Nat.le_refl _),List.length_set,Nat.sub_self]; rfl) (by simp [Ob.sz]) (fun _=>.inl ⟨rfl,rfl,rfl,rfl,rfl,rfl⟩)
        · simp at x
      · rw [List.getElem?_set_ne ej] at x
        exact ⟨hmono (hv i d v x y).1,(hv i d v x y).2⟩
    · exact ⟨h1,ob,o,by rw [List.getElem?_append_left (by rw [List.length_set]; exact hi'),zaN e]; exact h2,h3,obm h4⟩
  have E1:Evo σ M Fz w (σ.set b (.cells (cs.set j (.sl σ.length 0 0 esz 0)))++[.cells []]) M Fz w:={
    size:=Nat.le_refl _
    frame:=fun _ _ _=>rfl
    ran:=fun b c h=>.inl ⟨b,h⟩
    fz:=fun c h=>⟨h,rfl⟩
    fz':=fun c h=>.inl h
    shp:=fun c arr T fr h=>⟨arr,h,rfl⟩
    keep:=fun b ob h=>let ⟨ob',h1,h2⟩:=at' b ob h; ⟨ob',h1,Nat.le_of_eq h2.symm,fun _=>rfl⟩
    out:=⟨rfl,rfl,rfl⟩ }
  have A1:AEnv n (σ.set b (.cells (cs.set j (.sl σ.length 0 0 esz 0)))++[.cells []]) M Fz w al a.tmps:=⟨A.1,fun s d hs=>let ⟨v,h1,h2⟩:=A.2 s d hs; ⟨v,h1,hmono h2⟩⟩
  exact h c hc M Fz w a K R1 A1 fun x al' σ' a' w' M' Fz' hQ hd R' A' E' hl=>hK x al' σ' a' w' M' Fz' hQ hd R' A' (E1.trans E' (by simp)) (by simp at hl; omega)
theorem ownz_ok {P:Program} {n:Nat} {ac:ACode} {Q:AExit→AL→Heap→Prop}:∀(os:List (Nat×Nat)) (al al':TA) (σ σ':TH) (alD:AL) (σD:Heap),ownz os al σ=some (al',σ')→Ref al σ alD σD →
    (∃pre,al'=pre++al)∧Ext σ σ'∧((∀alD' σD',Ref al' σ' alD' σD'→Sem P ac n alD' σD' Q)→Sem P ac n alD σD Q):=by
  intro os
  induction os with
  | nil =>
    intro al al' σ σ' alD σD h Rf
    simp only [ownz,Option.some.injEq,Prod.mk.injEq] at h
    obtain ⟨rfl,rfl⟩:=h
    exact ⟨⟨[],rfl⟩,Ext.refl σ,fun hs=>hs alD σD Rf⟩
  | cons o os ih =>
    intro al al' σ σ' alD σD h Rf
    obtain ⟨t,i⟩:=o
    simp only [ownz] at h
    split at h
    · -- a cell
      generalize (t-1048576) / 1024=b at h
      generalize (t-1048576) % 1024=j at h
      split at h
      · rename_i w cs hb
        split at h
        · rename_i v0 hj
          obtain ⟨ds,hd,_,_,he⟩:=Rf.hh.cells hb
          have hj':ds[j]? = some (.c (.lit (.slice none 0 0))):=by rw [he,List.getElem?_map,hj]; rfl
          have hbe:BE (.cells w cs) (.cells (w+1) (cs.set j (w+1,.own i σ.length 0 0))):=⟨w+1,_,rfl,by omega,by simp,fun k v x v1 x1 e e1=>by
            by_cases ek:j=k
            · subst ek
              rw [List.getElem?_set,if_pos rfl] at e1
              split at e1
              · simp only [Option.some.injEq,Prod.mk.injEq] at e1; exact .inr (by omega)
              · simp at e1
            · rw [List.getElem?_set_ne ek,e] at e1
              simp only [Option.some.injEq,Prod.mk.injEq] at e1
              exact .inl ⟨e1.1.symm,e1.2.symm⟩⟩
          have x1:Ext σ (σ.set b (.cells (w+1) (cs.set j (w+1,.own i σ.length 0 0)))++[.row i [] 0 0]):=fun b' blk' e=>by
            obtain ⟨blk1,e1,e2⟩:=Ext.set hb hbe b' blk' e
            exact ⟨blk1,by rw [List.getElem?_append_left (List.getElem?_eq_some_iff.1 e1).1]; exact e1,e2⟩
          have R1:Ref al (σ.set b (.cells (w+1) (cs.set j (w+1,.own i σ.length 0 0)))++[.row i [] 0 0]) alD (σD.set b (.cells (ds.set j (.sl σD.length 0 0 (esz i) 0)))++[.cells []]):=by
            refine ⟨⟨by simp [Rf.hh.len],fun b' blk' e=>?_,fun b' w' cs' e p hp=>?_⟩,fun t x p h=>?_⟩
            · rcases Nat.lt_or_ge b' σ.length with h1 | h1
              · rw [List.getElem?_append_left (by rw [List.length_set]; exact h1)] at e
                rw [List.getElem?_append_left (by rw [List.length_set,Rf.hh.len]; exact h1)]
                by_cases eb:b'=b
                · subst eb
                  rw [zaT hb] at e
                  simp only [Option.some.injEq] at e
                  subst e
                  refine ⟨_,zaT hd,?_⟩
                  show _=TB.er _
                  simp only [TB.er,Ob.cells.injEq]
                  rw [List.map_set,he,Rf.hh.len]
                  simp [TC.er,OS]
                · rw [zaN eb] at e ⊢
                  exact Rf.hh.hp b' blk' e
              · rw [List.getElem?_append_right (by rw [List.length_set]; exact h1),List.length_set] at e
                rw [List.getElem?_append_right (by rw [List.length_set,Rf.hh.len]; exact h1),List.length_set,Rf.hh.len]
                have:b'-σ.length=0:=by have:=(List.getElem?_eq_some_iff.1 e).1; simp at this; omega
                rw [this] at e ⊢
                simp only [List.getElem?_cons_zero,Option.some.injEq] at e
                subst e
                exact ⟨_,rfl,rfl⟩
            · rcases Nat.lt_or_ge b' σ.length with h1 | h1
              · rw [List.getElem?_append_left (by rw [List.length_set]; exact h1)] at e
                by_cases eb:b'=b
                · subst eb
                  rw [zaT hb] at e
                  simp only [Option.some.injEq,TB.cells.injEq] at e
                  obtain ⟨rfl,rfl⟩:=e
                  rcases List.mem_or_eq_of_mem_set hp with hp | rfl
                  · obtain ⟨g1,g2⟩:=Rf.hh.hg b' w cs hb p hp
                    exact ⟨g1.mono x1,by omega⟩
                  · refine ⟨⟨.row i [] 0 0,?_,fun j l lv cv e=>?_⟩,Nat.le_refl _⟩
                    · rw [List.getElem?_append_right (by rw [List.length_set]; exact Nat.le_refl _),List.length_set,Nat.sub_self]; rfl
                    · simp only [TB.row.injEq] at e
                      obtain ⟨rfl,e9,rfl,rfl⟩:=e
                      cases e9
                      exact ⟨Nat.le_refl _,fun _=>⟨rfl,rfl⟩⟩
                · rw [zaN eb] at e
                  obtain ⟨g1,g2⟩:=Rf.hh.hg b' w' cs' e p hp
                  exact ⟨g1.mono x1,g2⟩
              · rw [List.getElem?_append_right (by rw [List.length_set]; exact h1),List.length_set] at e
                have:b'-σ.length=0:=by have:=(List.getElem?_eq_some_iff.1 e).1; simp at this; omega
                rw [this] at e
                simp at e
            · obtain ⟨d,h1,h2,h3⟩:=Rf.rg t x p h
              exact ⟨d,h1,h2,h3.mono x1 []⟩
          obtain ⟨⟨pre,e1⟩,e2,e3⟩:=ih _ _ _ _ _ _ h R1
          refine ⟨⟨pre,e1⟩,Ext.trans Rf.hh x1 e2,fun hs=>?_⟩
          exact Sem.ownC b j (esz i) ds hd hj' (e3 hs)
        · exact ih _ _ _ _ _ _ h Rf
        · simp at h
      · simp at h
    split at h
    · rename_i ht
      obtain ⟨p,hp⟩:=lkT_some ht
      obtain ⟨d,h1,h2,_⟩:=Rf.rg t _ p hp
      have:=RT.c1 (by simp) h2
      subst this
      have R1:Ref ((t,.v (.c (.own i σ.length 0 0)))::al) (σ++[.row i [] 0 0]) ((t,OS (esz i) σD.length 0)::alD) (σD++[.cells []]):=
        Rf.set (Rf.hh.push (blk:=.row i [] 0 0) (ob:=.cells []) rfl (fun w cs e=>by simp at e)) (Ext.push σ _) (Or.inr (by rw [Rf.hh.len]; rfl)) (own_good (b:=0) rfl)
      obtain ⟨⟨pre,e1⟩,e2,e3⟩:=ih _ _ _ _ _ _ h R1
      refine ⟨⟨pre++[(t,.v (.c (.own i σ.length 0 0)))],by rw [e1,List.append_assoc]; rfl⟩,Ext.trans Rf.hh (Ext.push σ _) e2,fun hs=>?_⟩
      exact Sem.own t (esz i) h1 (d:=OS (esz i) σD.length 0) (by simp [OS]) rfl (e3 hs)
    · exact ih _ _ _ _ _ _ h Rf
    · simp at h
theorem Sem.drwCQ {P:Program} {n:Nat} {al:AL} {σ:Heap} {Q:AExit→AL→Heap→Prop} {orc:Orc2} {os:List AOper} {k:Nat} {bef:List Nat} {p:Nat} (hmix:P.follows .mixedOrders=true) (O:zbw P orc)
    (h:TrQ P orc (lastCall os) os n al σ fun al' σ' is=>(pairsOk bef is&&tailOk bef p (lastCall os) os.length&&Nat.ble p (lastCall os))=true∧Q .normal al' σ'):Sem P (.drw os bef k p) n al σ Q:=by
  obtain ⟨al1,σ1,is,h,hp,hQ⟩:=h
  intro c hc M Fz w a K R A hK
  obtain ⟨e',h1,h2⟩:=h _ A.toEnv.2
  have det:∀m r,evDrw P orc os bef p m (zdT n al) σ=some r→r=(e',σ1,is.flatMap (·.wr)):=by
    intro m r hr
    unfold evDrw at hr
    split at hr
    · rename_i e2 σ2 is2 h3
      have:=evTr_det _ _ _ _ _ _ _ h3 h1
      simp only [Prod.mk.injEq] at this
      obtain ⟨rfl,rfl,rfl⟩:=this
      split at hr
      · simp only [Option.some.injEq] at hr; exact hr.symm
      · simp at hr
    · simp at hr
  have h3:evDrw P orc os bef p (lastCall os) (zdT n al) σ=some (e',σ1,is.flatMap (·.wr)):=by
    unfold evDrw
    rw [h1]
    dsimp only
    rw [if_pos hp]
  have h4:evC P orc 1 (.drw os bef k p) (zdT n al) σ []=some (.normal,e',σ1,is.flatMap (·.wr)++[]):=by
    simp only [evC]
    split
    · rename_i r e2 σ2 w2 hr
      have:=det _ _ hr
      simp only [Prod.mk.injEq] at this
      obtain ⟨rfl,rfl,rfl⟩:=this
      rfl
    · rw [h3]
  have:Sem P (.drw os bef k p) n al σ Q:=Sem.of_ev hmix O (k:=1) (wr:=[]) (e:=zdT n al) (e':=e') (x:=.normal) (σ':=σ1) h4 rfl h2 hQ
  exact this c hc M Fz w a K R A hK
theorem tC_ok (g:Cfg) (mix:g.P.follows .mixedOrders=true) (O:OrcOk g.P (zcs (zc4 g.S))) (hI:InlOk g) {R:Type}:∀(ac:ACode) (q:Nat) (al:TA) (σ:TH) (K:KC R) (r:R) (alD:AL) (σD:Heap),tC g ac q al σ K=some r→Ref al σ alD σD →
    Sem g.P ac g.n alD σD (Post al σ K r):=by
  intro ac
  induction ac with
  | skip =>
    intro q al σ K r alD σD h Rf
    exact Sem.skip mix ⟨al,σ,Rf,⟨[],rfl⟩,Ext.refl σ,h⟩
  | exit id =>
    intro q al σ K r alD σD h Rf
    exact Sem.exit mix ⟨al,σ,Rf,⟨[],rfl⟩,Ext.refl σ,h⟩
  | ret =>
    intro q al σ K r alD σD h Rf
    exact Sem.ret mix ⟨al,σ,Rf,⟨[],rfl⟩,Ext.refl σ,h⟩
  | stuck=>intro q al σ K r alD σD h Rf; simp [tC] at h
  | reg os =>
    intro q al σ K r alD σD h Rf
    simp only [tC] at h
    split at h
    · rename_i hU
      obtain ⟨oz,o1,_,o3⟩:=tOps_ok g q O hI 1000 0 os [] al σ _ r alD σD h (inlU_of hU) Rf (fun p b hk=>by simp [knk] at hk) (fun p b hk=>by simp [knk] at hk)
      refine Sem.regQ mix o1 (o3.mono fun a s i hA=>?_)
      obtain ⟨al',σ',is,h1,h2,h3,_,h4⟩:=hA
      exact ⟨al',σ',h1,h2,h3,h4⟩
    · simp at h
  | drw os bef k p =>
    intro q al σ K r alD σD h Rf
    simp only [tC] at h
    split at h
    · simp at h
    rename_i hU
    split at h
    · obtain ⟨oz,o1,_,o3⟩:=tOps_ok g q O hI 1000 os.length os [] al σ _ r alD σD h (inlU_of hU) Rf (fun p b hk=>by simp [knk] at hk) (fun p b hk=>by simp [knk] at hk)
      refine Sem.drwNQ mix o1 (o3.mono fun a s i hA=>?_)
      obtain ⟨al',σ',is,h1,h2,h3,h5,h4⟩:=hA
      dsimp only at h4
      split at h4
      · rename_i hc
        simp only [Bool.and_eq_true] at hc ⊢
        exact ⟨⟨⟨pairsOk_mono h5 hc.1.1,hc.1.2⟩,hc.2⟩,al',σ',h1,h2,h3,h4⟩
      · simp at h4
    split at h
    · obtain ⟨oz,o1,_,o3⟩:=tOps_ok g q O hI 1000 (lastCall os) os [] al σ _ r alD σD h (inlU_of hU) Rf (fun p b hk=>by simp [knk] at hk) (fun p b hk=>by simp [knk] at hk)
      refine Sem.drwCQ mix o1 (o3.mono fun a s i hA=>?_)
      obtain ⟨al',σ',is,h1,h2,h3,h5,h4⟩:=hA
      dsimp only at h4
      split at h4
      · rename_i hc
        simp only [Bool.and_eq_true] at hc ⊢
        exact ⟨⟨⟨pairsOk_mono h5 hc.1.1,hc.1.2⟩,hc.2⟩,al',σ',h1,h2,h3,h4⟩
      · simp at h4
    · obtain ⟨oz,o1,_,o3⟩:=tOps_ok g q O hI 1000 k os [] al σ _ r alD σD h (inlU_of hU) Rf (fun p b hk=>by simp [knk] at hk) (fun p b hk=>by simp [knk] at hk)
      refine Sem.drwQ mix o1 (o3.mono fun a s i hA=>?_)
      obtain ⟨al',σ',is,h1,h2,h3,h5,h4⟩:=hA
      dsimp only at h4
      split at h4
      · rename_i hc
        simp only [Bool.and_eq_true] at hc ⊢
        exact ⟨⟨⟨pairsOk_mono h5 hc.1.1,hc.1.2⟩,hc.2⟩,al',σ',h1,h2,h3,h4⟩
      · simp at h4
  | seq a b iha ihb =>
    intro q al σ K r alD σD h Rf
    simp only [tC] at h
    split at h
    · -- straight on
      have A:=iha _ _ _ _ _ alD σD h Rf
      refine Sem.seqW (A.monoW fun x alD' σD' hP=>.inl ?_)
      obtain ⟨al1,σ1,h1,⟨pre,rfl⟩,h3,h4⟩:=hP
      cases x with
      | normal =>
        refine .inl ((ihb _ _ _ _ _ alD' σD' h4 h1).monoW fun x alD2 σD2 hP=>.inl ?_)
        obtain ⟨al2,σ2,g1,⟨pre2,rfl⟩,g3,g4⟩:=hP
        exact ⟨_,σ2,g1,⟨pre2++pre,by rw [List.append_assoc]⟩,Ext.trans Rf.hh h3 g3,g4⟩
      | exit i=>exact ⟨_,σ1,h1,⟨pre,rfl⟩,h3,h4⟩
      | ret=>exact ⟨_,σ1,h1,⟨pre,rfl⟩,h3,h4⟩
    · -- where ways meet
      rename_i hj hJ
      split at h
      · simp at h
      rename_i alz σz hz
      obtain ⟨⟨preZ,eZ⟩,xZ,sZ⟩:=ownz_ok (P:=g.P) (n:=g.n) (ac:=.seq a b) (Q:=Post al σ K r) hj.os al alz σ σz alD σD hz Rf
      refine sZ fun alDz σDz Rfz=>?_
      have back:∀{x:AExit} {alD':AL} {σD':Heap},Post alz σz K r x alD' σD'→Post al σ K r x alD' σD':=fun ⟨al1,σ1,h1,⟨pre,e⟩,h3,h4⟩=>⟨al1,σ1,h1,⟨pre++preZ,by rw [e,eZ,List.append_assoc]⟩,Ext.trans Rf.hh xZ h3,h4⟩
      refine Sem.monoW ?_ (fun x al' σ' hP=>.inl (back hP))
      clear back sZ xZ eZ
      replace Rf:=Rfz
      have A:=iha _ _ _ _ _ alDz σDz (show tC g a (2 * q) alz σz _=some r from h) Rf
      refine Sem.seqW (A.monoW fun x alD' σD' hP=>.inl ?_)
      obtain ⟨al1,σ1,h1,⟨pre,rfl⟩,h3,h4⟩:=hP
      cases x with
      | normal =>
        dsimp only at h4
        split at h4
        · rename_i xv hx
          obtain ⟨pre,σ1,alD',σD',w1,h1,h3,hx⟩:=absF_ok Rf h1 h3 hx
          obtain ⟨c1,c2,c3,c5,c4⟩:=absJ_ok hx
          have hkey:=regsOk_ok c1
          obtain ⟨e1,_,e3,alD2,σD2,e4,e5⟩:=join_ok (md:=asgd a) Rf h1 (fun t q h=>lkP_dom h) (fun t q hm _ _ h=>lkP_skip (fun y hy e=>hm (e▸hkey y hy)) h) (heapSame_ok Rf.hh c2 h3) c3 c5 c4
          refine .inr ⟨alD2,σD2,by rw [Rf.hh.len]; exact w1.trans e4,(ihb _ _ _ _ _ alD2 σD2 h4 e5).monoW fun x alD3 σD3 hP=>.inl ?_⟩
          obtain ⟨al2,σ2,g1,⟨pre2,rfl⟩,g3,g4⟩:=hP
          obtain ⟨preA,eA,_⟩:=putX_pre hj (asgd a) alz σz xv
          exact ⟨_,σ2,g1,⟨pre2++preA,by rw [eA,List.append_assoc]⟩,Ext.trans Rf.hh e1 g3,g4⟩
        · simp at h4
      | exit i=>exact ⟨_,σ1,h1,⟨pre,rfl⟩,h3,h4⟩
      | ret=>exact ⟨_,σ1,h1,⟨pre,rfl⟩,h3,h4⟩
  | cond c a b iha ihb =>
    intro q al σ K r alD σD h Rf
    simp only [tC] at h
    have hr:RdOk σ alD (rdO al [] none):=rdO_ok Rf (fun p b hk=>by simp [knk] at hk) (by simp)
    split at h
    · rename_i hc
      obtain ⟨h1,_⟩:=hr.c hc (by simp)
      exact Sem.cond (b:=true) (by cases c <;> exact h1) (fun _=>iha _ _ _ _ _ alD σD h Rf) (fun e=>by simp at e)
    · rename_i hc
      obtain ⟨h1,_⟩:=hr.c hc (by simp)
      exact Sem.cond (b:=false) (by cases c <;> exact h1) (fun e=>by simp at e) (fun _=>ihb _ _ _ _ _ alD σD h Rf)
    · rename_i e hc
      obtain ⟨h1,_⟩:=hr.c hc (by simp)
      refine Sem.cond (b:=e) (by cases c <;> exact h1) (fun he=>?_) (fun he=>?_)
      · rw [if_pos he] at h; exact iha _ _ _ _ _ alD σD h Rf
      · rw [if_neg (ne_t he)] at h; exact ihb _ _ _ _ _ alD σD h Rf
    · simp at h
  | block id b ihb =>
    intro q al σ K r alD σD h Rf
    simp only [tC] at h
    refine Sem.block ((ihb _ _ _ _ _ alD σD h Rf).monoW fun x alD' σD' hP=>.inl ⟨_,_,.refl,?_⟩)
    obtain ⟨al1,σ1,h1,h2,h3,h4⟩:=hP
    cases x with
    | normal=>exact ⟨al1,σ1,h1,h2,h3,h4⟩
    | ret=>exact ⟨al1,σ1,h1,h2,h3,h4⟩
    | exit i =>
      dsimp only at h4
      refine ⟨fun e=>?_,fun e=>?_⟩
      · subst e
        have:Nat.beq i i=true:=by simp
        rw [this] at h4
        exact ⟨al1,σ1,h1,h2,h3,h4⟩
      · have:Nat.beq i id=false:=by
          cases hb:Nat.beq i id with
          | false=>rfl
          | true=>exact absurd (Nat.eq_of_beq_eq_true hb) e
        rw [this] at h4
        exact ⟨al1,σ1,h1,h2,h3,h4⟩
  | loop b ihb =>
    intro q al σ K r alD σD h Rf
    simp only [tC] at h
    split at h
    · simp at h
    · rename_i hj hJ
      split at h
      · rename_i nu hu
        refine Sem.loop nu ?_
        have key:∀(k:Nat) (al2:TA) (σ2:TH) (alD2:AL) (σD2:Heap),(∃pre,al2=pre++al)→Ext σ σ2→Ref al2 σ2 alD2 σD2 →
            lpU (fun rec al σ=>tC g b (2 * q) al σ fun ex al1 σ1=>match ex with | .normal=>rec al1 σ1 | ex=>K ex al1 σ1) k al2 σ2=some r→SemL g.P b k g.n alD2 σD2 (Post al σ K r):=by
          intro k
          induction k with
          | zero=>intro al2 σ2 alD2 σD2 _ _ _ h; simp [lpU] at h
          | succ k ihk =>
            intro al2 σ2 alD2 σD2 x1 x2 x4 h
            have B:=ihb _ _ _ _ _ alD2 σD2 (show tC g b (2 * q) al2 σ2 _=some r from h) x4
            refine SemL.succ (B.monoW (Q':=fun x al1 σ1=>match x with | .normal=>∃al2 σ2,Wk σD2.length al1 σ1 al2 σ2∧SemL g.P b k g.n al2 σ2 (Post al σ K r) | x=>∃al2 σ2,Wk σD2.length al1 σ1 al2 σ2∧Post al σ K r x al2 σ2) fun ex alD3 σD3 hP=>.inl ?_)
            obtain ⟨al1,σ1,h1,⟨pre,rfl⟩,h3,h4⟩:=hP
            obtain ⟨pre2,rfl⟩:=x1
            cases ex with
            | normal=>exact ⟨_,_,.refl,ihk _ _ _ _ ⟨pre++pre2,by rw [List.append_assoc]⟩ (Ext.trans Rf.hh x2 h3) h1 h4⟩
            | exit i=>exact ⟨_,_,.refl,_,σ1,h1,⟨pre++pre2,by rw [List.append_assoc]⟩,Ext.trans Rf.hh x2 h3,h4⟩
            | ret=>exact ⟨_,_,.refl,_,σ1,h1,⟨pre++pre2,by rw [List.append_assoc]⟩,Ext.trans Rf.hh x2 h3,h4⟩
        exact key nu al σ alD σD ⟨[],rfl⟩ (Ext.refl σ) Rf h
      split at h
      · simp at h
      rename_i alz σz hz
      obtain ⟨⟨preZ,eZ⟩,xZ,sZ⟩:=ownz_ok (P:=g.P) (n:=g.n) (ac:=.loop b) (Q:=Post al σ K r) hj.os al alz σ σz alD σD hz Rf
      refine sZ fun alDz σDz Rfz=>?_
      have back:∀{x:AExit} {alD':AL} {σD':Heap},Post alz σz K r x alD' σD'→Post al σ K r x alD' σD':=fun ⟨al1,σ1,h1,⟨pre,e⟩,h3,h4⟩=>⟨al1,σ1,h1,⟨pre++preZ,by rw [e,eZ,List.append_assoc]⟩,Ext.trans Rf.hh xZ h3,h4⟩
      refine Sem.monoW ?_ (fun x al' σ' hP=>.inl (back hP))
      clear back sZ xZ eZ
      replace Rf:=Rfz
      clear Rfz hz
      split at h
      · simp at h
      · rename_i x0 hx0
        obtain ⟨_,c2,c3,c5,c4⟩:=absJ_ok hx0
        obtain ⟨e1,e2,e3,alD2,σD2,e4,e5⟩:=join_ok (md:=asgd b) Rf Rf (fun t q h=>⟨q,h⟩) (fun t q _ _ _ h=>h) (heapSame_ok Rf.hh c2 (Ext.refl σz)) c3 c5 c4
        refine Sem.loop g.N (SemL.preW (by rw [Rf.hh.len]; exact e4) ?_)
        have key:∀(k:Nat) (x:tupP hj.pl) (alD2:AL) (σD2:Heap),Ext σz (putZ hj (asgd b) alz σz x)→HS (hj.pl++zpl hj.zs) σz (putZ hj (asgd b) alz σz x)→(putZ hj (asgd b) alz σz x).length=σz.length→Ref (putX hj (asgd b) alz σz x) (putZ hj (asgd b) alz σz x) alD2 σD2 →
            lpX (fun rec x=>tC g b (2 * q) (putX hj (asgd b) alz σz x) (putZ hj (asgd b) alz σz x) fun ex al1 σ1=>match ex with
              | .normal=>match absF hj (asgd b) (putX hj (asgd b) alz σz x) (putZ hj (asgd b) alz σz x) al1 σ1 with | some x'=>rec x' | none=>none
              | ex=>K ex al1 σ1) k x=some r→SemL g.P b k g.n alD2 σD2 (Post alz σz K r):=by
          intro k
          induction k with
          | zero=>intro x alD2 σD2 _ _ _ _ h; simp [lpX] at h
          | succ k ihk =>
            intro x alD2 σD2 x1 x2 x3 x4 h
            have B:=ihb _ _ _ _ _ alD2 σD2 (show tC g b (2 * q) (putX hj (asgd b) alz σz x) (putZ hj (asgd b) alz σz x) _=some r from h) x4
            refine SemL.succW (B.monoW fun ex alD3 σD3 hP=>.inl ?_)
            obtain ⟨al1,σ1,h1,⟨pre,rfl⟩,h3,h4⟩:=hP
            obtain ⟨preA,eA,_⟩:=putX_pre hj (asgd b) alz σz x
            cases ex with
            | normal =>
              dsimp only at h4
              split at h4
              · rename_i xv hx
                obtain ⟨pre,σ1,alD3,σD3,w1,h1,h3,hx⟩:=absF_ok x4 h1 h3 hx
                obtain ⟨d1,d2,d3,d5,d4⟩:=absJ_ok hx
                have hkey:=regsOk_ok d1
                obtain ⟨f1,f2,f3,alD4,σD4,f4,f5⟩:=join_ok (md:=asgd b) Rf h1 (fun t q h=>by rw [eA,←List.append_assoc]; exact lkP_dom h)
                  (fun t q m1 m2 m3 h=>lkP_skip (fun y hy e=>m1 (e▸hkey y hy)) (putX_key x1 x3 m1 m2 m3 h)) (x2.trans (heapSame_ok x4.hh d2 h3)) d3 (by rw [x3] at d5; exact d5) d4
                exact ⟨alD4,σD4,by rw [x4.hh.len,x3]; rw [x3] at w1; exact w1.trans f4,ihk xv alD4 σD4 f1 f2 f3 f5 h4⟩
              · simp at h4
            | exit i=>exact ⟨_,σ1,h1,⟨pre++preA,by rw [eA,List.append_assoc]⟩,Ext.trans Rf.hh x1 h3,h4⟩
            | ret=>exact ⟨_,σ1,h1,⟨pre++preA,by rw [eA,List.append_assoc]⟩,Ext.trans Rf.hh x1 h3,h4⟩
        exact key g.N x0 alD2 σD2 e1 e2 e3 e5 h
theorem zip_ok:∀(cs:List VCd) (a:tupV cs) (i t:Nat) (x:RV) (p:Nat),lkP t (zipT i (tvV cs a))=some (x,p)→∃d v,x=.v v∧lk t (zipAL i (encV cs a))=some d∧RT v d∧GV [] v:=by
  intro cs
  induction cs with
  | nil=>intro a i t x p h; simp [tvV,zipT,lkP] at h
  | cons c cs ih =>
    intro a i t x p h
    simp only [tvV,zipT,lkP] at h
    simp only [encV,zipAL,lk]
    split at h
    · rename_i hb
      simp only [Option.some.injEq,Prod.mk.injEq] at h
      try rw [hb]
      exact ⟨_,_,h.1.symm,rfl,c.tv_ok a.1,tv_good c a.1⟩
    · rename_i hb
      try rw [hb]
      exact ih a.2 (i+1) t x p h
theorem encV_len:∀(cs:List VCd) (a:tupV cs),(encV cs a).length=cs.length:=by
  intro cs
  induction cs with
  | nil=>intro a; rfl
  | cons c cs ih=>intro a; simp only [encV,List.length_cons,ih]
theorem resT_ok {al:TA} {σ:TH} {alD:AL} {σD:Heap} (Rf:Ref al σ alD σD) {q:Nat×Option (Option Nat)} {v:TV} (h:resT al σ q=some v):∃d,resA alD σD q=some d∧RT v d∧GV σ v:=by
  obtain ⟨t,o⟩:=q
  cases o with
  | none =>
    simp only [resT] at h
    split at h
    · rename_i x hx
      simp only [Option.some.injEq] at h
      subst h
      obtain ⟨p,hp⟩:=lkT_some hx
      obtain ⟨d,h1,h2,h3⟩:=Rf.rg t _ p hp
      exact ⟨d,h1,h2,h3⟩
    · simp at h
  | some m =>
    simp only [resT] at h
    split at h
    · rename_i b off sz hx
      obtain ⟨p,hp⟩:=lkT_some hx
      obtain ⟨d,h1,h2,_⟩:=Rf.rg t _ p hp
      have:=RT.c1 (by simp) h2
      subst this
      split at h
      · rename_i w cs hb
        obtain ⟨ds,h3,h4,h5,_⟩:=Rf.hh.cells hb
        split at h
        · rename_i hs
          obtain ⟨d,h6,h7⟩:=getT_ok h h4
          refine ⟨d,?_,h7,getT_good h fun y hy=>?_⟩
          · simp only [resA,h1,TC.er]
            rw [zc8 h3 (sz:=sz) (by rw [h5]; exact Nat.eq_of_beq_eq_true hs),Option.bind_some]
            exact h6
          · rw [List.mem_map] at hy
            obtain ⟨p,hp,rfl⟩:=hy
            exact (Rf.hh.hg b w cs hb p hp).1
        · simp at h
      · simp at h
    · simp at h
theorem ress_ok {al:TA} {σ:TH} {alD:AL} {σD:Heap} (Rf:Ref al σ alD σD):∀{qs:List (Nat×Option (Option Nat))} {vs:List TV},mapO (resT al σ) qs=some vs→∃ds,qs.mapM (resA alD σD)=some ds∧All3 vs ds∧∀v∈vs,GV σ v:=by
  intro qs
  induction qs with
  | nil=>intro vs h; simp only [mapO,Option.some.injEq] at h; subst h; exact ⟨[],rfl,.nil,by simp⟩
  | cons q qs ih =>
    intro vs h
    simp only [mapO] at h
    split at h
    · rename_i a b h1 h2
      simp only [Option.some.injEq] at h
      subst h
      obtain ⟨d,h3,h4,h5⟩:=resT_ok Rf h1
      obtain ⟨ds,h6,h7,h8⟩:=ih h2
      refine ⟨d::ds,?_,.cons h4 h7,fun v hv=>?_⟩
      · rw [List.mapM_cons,h3,h6]; rfl
      · rcases List.mem_cons.1 hv with rfl | hv
        · exact h5
        · exact h8 v hv
    · simp at h
theorem outs_ok {σ:TH} {σD:Heap} (H:RH σ σD):∀{cs:List VCd} {vs:List TV} {ds:List D} {r:outV cs},rdOut σ cs vs=some r→All3 vs ds→(∀v∈vs,GV σ v)→∃es,ds.mapM (frzD1 σD 0 100)=some es∧es.map nrm=outE cs r∧(∀d,ds=[d]→frzD σD 0 100 d=frzD1 σD 0 100 d):=by
  intro cs
  induction cs with
  | nil =>
    intro vs ds r h a g
    cases a with
    | nil=>exact ⟨[],rfl,rfl,fun d e=>by simp at e⟩
    | cons _ _=>simp [rdOut] at h
  | cons c cs ih =>
    intro vs ds r h a g
    cases a with
    | nil=>cases cs <;> simp [rdOut] at h
    | cons h1 a =>
      rename_i v d vs ds
      cases cs with
      | nil =>
        cases a with
        | nil =>
          simp only [rdOut] at h
          obtain ⟨d',h2,h3,h4⟩:=frV_ok H (g v (by simp)) h1 h
          refine ⟨[d'],by rw [List.mapM_cons,h2]; rfl,by simp only [List.map_cons,List.map_nil,outE,h4],fun d0 e=>?_⟩
          simp only [List.cons.injEq,and_true] at e
          subst e
          rw [h2,h3]
        | cons _ _=>simp [rdOut] at h
      | cons c2 cs =>
        cases a with
        | nil=>simp [rdOut] at h
        | cons h5 a =>
          simp only [rdOut] at h
          split at h
          · rename_i x y h6 h7
            simp only [Option.some.injEq] at h
            subst h
            obtain ⟨d',h2,h3,h4⟩:=frV_ok H (g v (by simp)) h1 h6
            obtain ⟨es,h8,h9,_⟩:=ih h7 (.cons h5 a) fun v hv=>g v (List.mem_cons_of_mem _ hv)
            refine ⟨d'::es,by rw [List.mapM_cons,h2,h8]; rfl,by simp only [List.map_cons,outE,h4,h9],fun d0 e=>by simp at e⟩
          · simp at h
theorem tF_ok {P:Program} {S:TSs} {B:InlB} {RS:ResF} {H:List (Nat×Nat)} {J:List (Nat×JH)} {C:List (Nat×List CT)} {dp:Nat} {g:FuncId} {fn:Func} {af:AFunc} {ins out:List VCd} {N:Nat} {a:tupV ins} {r:outV out} (mix:P.follows .mixedOrders=true) (hS:TSsOk P S)
    (hg:P.funcs[g]? = some fn) (hent:enterable P g=true) (hc:compF P fn true=some af) (hI:InlOk ⟨P,S,H,J,C,af.ntmps,N,(evD P S N B RS dp).1,(evD P S N B RS dp).2,RS⟩) (hn:Nat.ble ins.length af.ntmps=true) (h:tF P S B RS H J C dp af ins out N a=some r):Pure P g (encV ins a) (outD out r):=by
  refine pure_of_sem hg hent hc (by rw [encV_len]; exact Nat.le_of_ble_eq_true hn) ?_
  have R0:Ref (zipT 0 (tvV ins a)) [] (zipAL 0 (encV ins a)) []:=⟨⟨rfl,fun b blk h=>by simp at h,fun b w cs h=>by simp at h⟩,fun t x p h=>by
    obtain ⟨d,v,rfl,h1,h2,h3⟩:=zip_ok ins a 0 t x p h
    exact ⟨d,h1,h2,h3⟩⟩
  refine (tC_ok ⟨P,S,H,J,C,af.ntmps,N,(evD P S N B RS dp).1,(evD P S N B RS dp).2,RS⟩ mix (callOrc_ok (specsOf_ok hS)) hI af.body 1 _ _ _ r _ _ h R0).monoW fun x alD' σD' hP=>.inl ?_
  obtain ⟨al',σ',h1,_,_,h2⟩:=hP
  have fin:(match mapO (resT al' σ') af.results with | some rs=>rdOut σ' out rs | none=>none)=some r→∃ds' r',af.results.mapM (resA alD' σD')=some ds'∧frzD σD' 0 100 (one ds')=some r'∧DLe r' (outD out r):=by
    intro h2
    split at h2
    · rename_i rs hrs
      obtain ⟨ds,h3,h4,h5⟩:=ress_ok h1 hrs
      obtain ⟨es,h6,h7,h8⟩:=outs_ok h1.hh h2 h4 h5
      have hlen:es.length=ds.length:=(zda h6).1
      have tupc:one ds=.tup ds→one (outE out r)=.tup (outE out r)→∃r',frzD σD' 0 100 (one ds)=some r'∧DLe r' (outD out r):=fun e1 e2=>by
        rw [e1]
        refine ⟨.tup es,frz_tup h6,DLe.of_nrm ?_⟩
        simp only [nrmR,h7,outD,e2]
      have hl2:(outE out r).length=ds.length:=by rw [←h7,List.length_map,hlen]
      cases ds with
      | nil =>
        obtain ⟨r',e1,e2⟩:=tupc rfl (by
          have:outE out r=[]:=List.eq_nil_of_length_eq_zero hl2
          rw [this]; rfl)
        exact ⟨[],r',h3,e1,e2⟩
      | cons d ds =>
        cases ds with
        | nil =>
          have e3:=h8 d rfl
          rw [List.mapM_cons] at h6
          cases h9:frzD1 σD' 0 100 d with
          | none=>rw [h9] at h6; simp at h6
          | some d' =>
            rw [h9] at h6
            simp only [List.mapM_nil] at h6
            cases h6
            refine ⟨[d],d',h3,by rw [←h9]; exact e3,?_⟩
            have e4:outD out r=nrm d':=by
              unfold outD
              rw [←h7]
              rfl
            rw [e4]
            intro σ M Fz w v hv
            exact nrm_ok hv
        | cons d2 ds =>
          obtain ⟨r',e1,e2⟩:=tupc rfl (by
            cases ho:outE out r with
            | nil=>rw [ho] at hl2; simp at hl2
            | cons o1 os =>
              cases os with
              | nil=>rw [ho] at hl2; simp at hl2
              | cons o2 os=>rfl)
          exact ⟨_,r',h3,e1,e2⟩
    · simp at h2
  cases x with
  | exit i=>simp at h2
  | normal=>exact ⟨.inl rfl,fin h2⟩
  | ret=>exact ⟨.inr rfl,fin h2⟩
theorem TSsOk.nil {P:Program}:TSsOk P []:=fun p hp=>by simp at hp
theorem TSsOk.cons {P:Program} {g:Nat} {s:TSp} {S:TSs} (h:zbb P g s) (hS:TSsOk P S):TSsOk P ((g,s)::S):=by
  intro p hp
  rcases List.mem_cons.1 hp with rfl | hp
  · exact h
  · exact hS p hp
end
end Go.Abs
end
section
namespace Go.Abs
noncomputable section
variable [Gl] [Y:Ty]
section
variable {m:Nat} {σ1 σ2:Heap} {ρ:Nat→Nat} {F:Nat→Prop}
theorem ok_of_sem {P:Program} {g:FuncId} {fn:Func} {af:AFunc} {fz:Bool} {ds:List D} {r:D} {σ:Heap} (hg:P.funcs[g]? = some fn) (hc:compF P fn fz=some af) (hlen:ds.length≤af.ntmps)
    (h:Sem P af.body af.ntmps (zipAL 0 ds) σ fun x al σ1=>(x=.normal∨x=.ret)∧∃ds' ρ F,af.results.mapM (resA al σ1)=some ds'∧RnH σ.length σ1 σ2 ρ F∧(∀b,F b→σ.length≤b)∧DWr σ1 σ2 ρ F (one ds') r):Ok P g ds σ r σ2:=by
  unfold compF at hc
  split at hc
  · rename_i c hb
    split at hc
    · rename_i ac rs h1 h2
      simp only [Option.some.injEq] at hc
      subst hc
      dsimp only at h hlen
      intro M Fz w vs R hs hvs
      refine calls_of_wp hg hb ?_
      have A0:AEnv fn.ntmps σ M Fz w (zipAL 0 ds) (vs++Array.replicate (fn.ntmps-vs.size) undef):=by
        refine ⟨by simp; omega,fun t d ht=>?_⟩
        obtain ⟨_,h3⟩:=zipAL_lk ds 0 t d ht
        rw [Nat.sub_zero] at h3
        have hlt:t<vs.size:=by rw [hs]; exact (List.getElem?_eq_some_iff.1 h3).1
        exact ⟨vs[t],by rw [Array.getElem?_append_left hlt,Array.getElem?_eq_getElem hlt],hvs t d _ h3 (Array.getElem?_eq_getElem hlt)⟩
      refine h c h1 M Fz w { tmps:=vs++Array.replicate (fn.ntmps-vs.size) undef,defers:=[] } _ R A0 fun x al' σ' a' w' M' Fz' hQ hd R' A' EV hl=>?_
      obtain ⟨hx,ds',ρ,F,hm,hN,hF,hle⟩:=hQ
      have hm':rs.mapM (zb2 (zdT fn.ntmps al') σ')=some ds':=by
        have key:∀(l:List (Nat×Option (Option Nat))) ds',l.mapM (resA al' σ')=some ds'→l.mapM (zb2 (zdT fn.ntmps al') σ')=some ds':=by
          intro l
          induction l with
          | nil=>intro ds' h; simpa using h
          | cons p l ih =>
            intro ds' h
            rw [List.mapM_cons] at h ⊢
            cases hp:resA al' σ' p with
            | none=>rw [hp] at h; simp at h
            | some d =>
              rw [hp] at h
              have:zb2 (zdT fn.ntmps al') σ' p=some d:=by
                obtain ⟨t,o⟩:=p
                cases o with
                | none=>exact A'.toEnv.2.2 t d hp
                | some k =>
                  simp only [resA] at hp
                  split at hp
                  · rename_i b off sz hlk
                    simp only [zb2,A'.toEnv.2.2 t _ hlk]
                    exact hp
                  · simp at hp
              rw [this]
              cases hr:l.mapM (resA al' σ') with
              | none=>rw [hr] at h; simp at h
              | some q=>rw [hr] at h; rw [ih q hr]; exact h
        exact key rs ds' hm
      obtain ⟨v,hv1,hv2⟩:=results_ok (P:=P) R' A'.toEnv.1 h2 hm'
      have post:a'.defers=[]∧∃v,(results fn a'.tmps).run P w'=.ok v w'∧∃v' M'' Fz'',Ending.returned v=.returned v'∧Rel σ2 M'' Fz'' w'∧V σ2 M'' Fz'' w' r v'∧Evo σ M Fz w σ2 M'' Fz'' w':=
        ⟨hd,v,hv1,v,_,_,rfl,hN.rel R',hle M' Fz' w' v R' hv2,hN.evo (Nat.le_refl _) hF R R' EV⟩
      rcases hx with rfl | rfl
      · exact post
      · exact post
    · simp at hc
  · simp at hc
end
end
end Go.Abs
end
