/- DfwPd, DfwPe, DfwPf, DfwPg, DfwPh, DfwPx, DfwPi, DfwPj -/
import Derived.Test.YtiejgibbjgdlgaaGreatFwD
set_option linter.all false
section
namespace Go.Abs
section
variable [Gl] [Y:Ty]
variable {P:Program} {orc:Orc} {n:Nat} {alD:AL} {σ σ1:TH} {σD σD1:Heap} {o:AOp} {Q:TV→TH→Bool→List Nat→Prop} {rd:Opd→Option TV}
theorem zbU (hr:RdOk σ alD rd) {x:Operand} {v:TV} (h:valR rd x=some v):∃d,oev alD x=some d∧RT v d∧GV σ v:=by
 unfold valR at h
 split at h
 ·rename_i o ho
  obtain ⟨d,h1,h2⟩:=hr o v h
  exact ⟨d,by simp only [oev,ho]; exact h1,h2⟩
 ·simp at h
theorem valT_ok {v:TV} {d:D} {a:Value} (h:valT v=some a) (r:RT v d):d.val? = some a∧d=.c (.lit a):=by
 unfold valT at h
 split at h
 ·simp only [yAa] at h; subst h
  rcases r with r | rfl
  ·simp at r
  ·exact ⟨rfl,rfl⟩
 ·simp only [yAa] at h; subst h
  rcases r with r | rfl
  ·simp at r
  ·exact ⟨rfl,rfl⟩
 ·simp at h
def flat:Value→Bool
 | .agg _ | .tuple _=>false
 | _=>true
theorem ofVT_ok {v:Value} (h:flat v=true):RT (ofVT v) (ofVal v)∧GV σ (ofVT v):=by
 unfold ofVT
 split
 ·exact ⟨.inr rfl,True.intro⟩
 ·refine ⟨.inr ?_,rfl⟩
  cases v <;> first | rfl | simp [flat] at h
theorem valC_ok {x:TC} {d:D} {a:Value} (h:valC x=some a) (r:RC x d):litOf d=some a:=by
 unfold valC at h
 split at h
 ·simp only [yAa] at h; subst h
  rcases r with r | rfl
  ·simp at r
  ·rfl
 ·simp only [yAa] at h; subst h
  rcases r with r | rfl
  ·simp at r
  ·rfl
 ·simp at h
theorem valCs_ok:∀{xs:List TC} {ds:List D} {vs:List Value},valCs xs=some vs→All2 RC xs ds→ds.mapM litOf=some vs:=by
 intro xs ds vs h r
 induction r generalizing vs with
 | nil=>simp only [valCs,yAa] at h; subst h; rfl
 | cons h1 _ ih =>
  simp only [valCs] at h
  split at h
  ·rename_i a b h2 h3
   simp only [yAa] at h
   subst h
   rw [yAN,valC_ok h2 h1,ih h3]
   rfl
  ·simp at h
theorem eqFs_ok {xs ys:Array Value} {d:Nat}:∀{fs:List Field} {r:Bool},eqFs P xs ys fs=some r→zaz P (Op.eqFields (d+1) xs ys fs)=some r:=by
 intro fs
 induction fs with
 | nil=>intro r h; simp only [eqFs,yAa] at h; subst h; rfl
 | cons f fs ih =>
  intro r h
  simp only [eqFs] at h
  split at h
  ·rename_i k a k' b k2 q h1 h2 h3 h4 h5
   split at h
   ·rename_i e _
    subst e
    simp only [yAa] at h
    subst h
    exact eqF_cons h1 h2 h3 (eq_int h4) (ih h5)
   ·simp at h
  ·rename_i a b q h1 h2 h3 h4 h5
   simp only [yAa] at h
   subst h
   exact eqF_cons h1 h2 h3 (eq_bool h4) (ih h5)
  ·simp at h
theorem eqT_ok {t:TypeId} {xs ys:List TC} {ds es:List D} {r:Bool} (h:eqT P t xs ys=some r) (h1:All2 RC xs ds) (h2:All2 RC ys es) :
  ∃vs ws,(D.agg ds).val? = some (.agg vs)∧(D.agg es).val? = some (.agg ws)∧P.eqGuardType P.depth t=false∧zaz P (Op.equalIn 10000 t (.agg vs) (.agg ws))=some r:=by
 unfold eqT at h
 split at h
 ·rename_i vs ws fs h3 h4 h5 h6 h7
  refine ⟨vs.toArray,ws.toArray,?_,?_,h6,?_⟩
  ·simp only [D.val?,valCs_ok h3 h1,Option.map_some]
  ·simp only [D.val?,valCs_ok h4 h2,Option.map_some]
  ·have hf:P.fieldsOf t=fs:=by simp only [Program.fieldsOf,h5]
   refine eq_agg (d:=9999) (by rw [hf]; exact h5) h7 ?_
   rw [hf]
   exact eqFs_ok (d:=9998) h
 ·simp at h
theorem za8 {α β:Type} {o:Option α} {f:α→Option β} {b:β} (h:o.bind f=some b):∃a,o=some a∧f a=some b:=yAd.1 h
theorem binV_cx {o:BinOp} {t:TypeId} {x y:Operand} {a b c d:Nat} {v:Value} (ho:o≠.eql) (ho2:o≠.neq) (ho3:o≠.shl) (ho4:o≠.shr) (h:Op.complexOp o .f64 a b c d=pure v):binV P o t x y (.complex .f64 a b) (.complex .f64 c d)=some v:=by
 unfold binV
 rw [zan]
 have hg:zaz P (eqGuard o t x y (.complex .f64 a b) (.complex .f64 c d))=some ():=by
  cases o <;> first | rfl | exact absurd rfl ho | exact absurd rfl ho2
 rw [hg,Option.bind_some]
 have:binOp o t (.complex .f64 a b) (.complex .f64 c d)=Op.complexOp o .f64 a b c d:=by
  cases o <;> first | rfl | exact absurd rfl ho | exact absurd rfl ho2 | exact absurd rfl ho3 | exact absurd rfl ho4
 rw [this,h]
 rfl
theorem fsum_ok {a b c:Int} (h:fsum? a b=some c):a.natAbs<2 ^ 52∧b.natAbs<2 ^ 52∧c=a+b:=by
 unfold fsum? at h
 split at h
 ·rename_i hh; simp only [yAa] at h; exact ⟨hh.1,hh.2,h.symm⟩
 ·simp at h
theorem fdif_ok {a b c:Int} (h:fdif? a b=some c):a.natAbs<2 ^ 52∧b.natAbs<2 ^ 52∧c=a-b:=by
 unfold fdif? at h
 split at h
 ·rename_i hh; simp only [yAa] at h; exact ⟨hh.1,hh.2,h.symm⟩
 ·simp at h
theorem fmul_ok {a b c:Int} (h:fmul? a b=some c):0≤a∧a≤1048576∧0≤b∧b≤1048576∧c=a * b:=by
 unfold fmul? at h
 split at h
 ·rename_i hh; simp only [yAa] at h; exact ⟨hh.1,hh.2.1,hh.2.2.1,hh.2.2.2,h.symm⟩
 ·simp at h
theorem valO_ok (hr:RdOk σ alD rd) {x:Operand} {a:Value} (h:valO (valR rd) x=some a):(oev alD x).bind D.val? = some a:=by
 unfold valO at h
 split at h
 ·rename_i v hv
  obtain ⟨d,h1,h2,_⟩:=zbU hr hv
  rw [h1,Option.bind_some]
  exact (valT_ok h h2).1
 ·simp at h
theorem genV_ok (hr:RdOk σ alD rd) {op:Op} {ty:TypeId} {v:Value} (hsel:∀cs b,op≠.select cs b) (h:genV P op ty (valR rd)=some v):genA P op ty alD=some (ofVal v):=by
 unfold genV at h
 split at h
 ·rename_i hall
  rw [yAp] at hall
  have key:∀x∈op.operands.toList,(oev alD x).bind D.val? = valO (valR rd) x:=fun x hx=>by
   have:=hall x hx
   rw [yAW] at this
   obtain ⟨a,ha⟩:=this
   rw [ha]; exact valO_ok hr ha
  unfold genA
  rw [if_pos (by rw [yAp]; intro x hx; rw [key x hx]; exact hall x hx)]
  rw [execOp_congr (ρ:=fun x=>(((oev alD x).bind D.val?).getD undef)) (ρ':=fun x=>(valO (valR rd) x).getD undef) { dst:=none,op:=op,type:=ty,pos:="",after:=#[],guard:=none } hsel (fun x hx=>by rw [key x (by simpa using hx)])]
  split at h
  ·rename_i v' hv
   simp only [yAa] at h
   subst h
   rw [hv]
  ·simp at h
 ·simp at h
theorem conv_fl {t t':TypeId} {ka:IntKind} {a:Int} (ht:P.underlying t'=some (.float .f64)) (hs:(P.underlying t).isSome=true):zaz P (convert t t' (.int ka a))=some (.float .f64 (Fl.fl a)):=by
 obtain ⟨u,hu⟩:=yAW.1 hs
 unfold convert
 rw [zan,za6 hu,Option.bind_some,zan,za6 ht,Option.bind_some]
 cases u <;> rfl
theorem conv_int {t t':TypeId} {a b:Int} (ht:P.underlying t'=some (.int .i64)) (hs:(P.underlying t).isSome=true) (h:fint? a=some b):zaz P (convert t t' (.float .f64 (Fl.fl a)))=some (.int .i64 b):=by
 unfold fint? at h
 split at h
 ·rename_i hh
  simp only [yAa] at h
  subst h
  obtain ⟨u,hu⟩:=yAW.1 hs
  unfold convert
  rw [zan,za6 hu,Option.bind_some,zan,za6 ht,Option.bind_some]
  have e:zaz P (Conv.floatToInt .f64 (Fl.fl a) .i64)=some (.int .i64 a):=by rw [float_int hh]; rfl
  cases u <;> exact e
 ·simp at h
theorem gen_of {c:Call} {ty:TypeId} {b:Builtin} {v:Value} (hc:c.callee=.builtin b) (hall:∀x∈c.args.toList,((oev alD x).bind D.val?).isSome=true)
  (h:zaz P (builtin b c.argTypes ty (c.args.map fun | .const _=>true | _=>false) (c.args.map fun x=>((oev alD x).bind D.val?).getD undef))=some (.value v)):genA P (.call c) ty alD=some (ofVal v):=by
 obtain ⟨callee,args,ts⟩:=c
 dsimp only at hc hall h
 subst hc
 have hop:(Op.operands (.call ⟨.builtin b,args,ts⟩)).toList=args.toList:=by simp [Op.operands,Call.operands]
 unfold genA
 rw [if_pos (by rw [hop,yAp]; exact hall)]
 have:zaz P (execOp (fun x=>((oev alD x).bind D.val?).getD undef) { dst:=none,op:=.call ⟨.builtin b,args,ts⟩,type:=ty,pos:="",after:=#[],guard:=none })=some (.value v):=h
 rw [this]
theorem gen_complex {c:Call} {ty:TypeId} {x y:Operand} {a b:Nat} (hc:c.callee=.builtin .complex) (ha:c.args.toList=[x,y]) (e1:oev alD x=some (.c (.lit (.float .f64 a)))) (e2:oev alD y=some (.c (.lit (.float .f64 b)))) :
  genA P (.call c) ty alD=some (.c (.lit (.complex .f64 a b))):=by
 have ha':c.args=#[x,y]:=by rw [←Array.toArray_toList (xs:=c.args),ha]
 refine gen_of (v:=.complex .f64 a b) hc (by rw [ha]; simp [e1,e2,D.val?]) ?_
 rw [ha']
 have e3:(#[x,y].map fun x=>((oev alD x).bind D.val?).getD undef)=#[.float .f64 a,.float .f64 b]:=by simp [e1,e2,D.val?]
 rw [e3]
 rfl
theorem gen_real {c:Call} {ty:TypeId} {x:Operand} {a b:Nat} (hc:c.callee=.builtin .real) (ha:c.args.toList=[x]) (e1:oev alD x=some (.c (.lit (.complex .f64 a b)))) :
  genA P (.call c) ty alD=some (.c (.lit (.float .f64 a))):=by
 have ha':c.args=#[x]:=by rw [←Array.toArray_toList (xs:=c.args),ha]
 refine gen_of (v:=.float .f64 a) hc (by rw [ha]; simp [e1,D.val?]) ?_
 rw [ha']
 have e3:(#[x].map fun x=>((oev alD x).bind D.val?).getD undef)=#[.complex .f64 a b]:=by simp [e1,D.val?]
 rw [e3]
 rfl
theorem gen_imag {c:Call} {ty:TypeId} {x:Operand} {a b:Nat} (hc:c.callee=.builtin .imag) (ha:c.args.toList=[x]) (e1:oev alD x=some (.c (.lit (.complex .f64 a b)))) :
  genA P (.call c) ty alD=some (.c (.lit (.float .f64 b))):=by
 have ha':c.args=#[x]:=by rw [←Array.toArray_toList (xs:=c.args),ha]
 refine gen_of (v:=.float .f64 b) hc (by rw [ha]; simp [e1,D.val?]) ?_
 rw [ha']
 have e3:(#[x].map fun x=>((oev alD x).bind D.val?).getD undef)=#[.complex .f64 a b]:=by simp [e1,D.val?]
 rw [e3]
 rfl
theorem flat_of {v:Value} (h:isFlat v=true):flat v=true:=by cases v <;> first | rfl | simp [isFlat] at h
variable {R:Type} {k:KO R} {r:R}
theorem OpK.one {x:TC} {d:D} (q:Q (.c x) σ false []) (h:OpR P orc n alD σD o d σD []) (hd:d=x.er) (hg:GC σ x) (H:RH σ σD):OpK P orc n alD σ σD o Q:=
 OpK.pure h (v:=.c x) (Or.inr hd) hg H q
theorem OpK.vt {v:Value} (q:Q (ofVT v) σ false []) (h:OpR P orc n alD σD o (ofVal v) σD []) (hf:isFlat v=true) (H:RH σ σD):OpK P orc n alD σ σD o Q:=
 OpK.pure h (ofVT_ok (σ:=σ) (flat_of hf)).1 (ofVT_ok (flat_of hf)).2 H q
theorem genT_ok {op:Op} {ty:TypeId} (hr:RdOk σ alD rd) (H:RH σ σD) (h:genT P op ty rd σ k=some r):OpK P orc n alD σ σD (.gen op ty) (fun v σ1 rs wr=>k v σ1 rs wr=some r):=by
 unfold genT at h
 split at h
 ·
  rename_i o t x y t'
  split at h
  ·
   rename_i ka a kb b hx hy
   obtain ⟨d1,e1,r1,_⟩:=zbU hr hx
   obtain ⟨d2,e2,r2,_⟩:=zbU hr hy
   rcases r1 with r1 | rfl
   ·simp at r1
   rcases r2 with r2 | rfl
   ·simp at r2
   split at h
   ·split at h
    ·rename_i e _
     subst e
     obtain ⟨v,h1,h2⟩:=za8 h
     exact OpK.one h2 (op_bin e1 e2 rfl rfl (bin_quo h1) rfl) rfl rfl H
    ·simp at h
   ·split at h
    ·rename_i e _
     subst e
     obtain ⟨v,h1,h2⟩:=za8 h
     exact OpK.one h2 (op_bin e1 e2 rfl rfl (bin_rem h1) rfl) rfl rfl H
    ·simp at h
   ·obtain ⟨v,h1,h2⟩:=za8 h
    exact OpK.one h2 (op_bin e1 e2 rfl rfl (bin_shr h1) rfl) rfl rfl H
   ·obtain ⟨v,h1,h2⟩:=za8 h
    exact OpK.one h2 (op_bin e1 e2 rfl rfl (bin_shl h1) rfl) rfl rfl H
   ·split at h
    ·rename_i v hv
     split at h
     ·rename_i hf
      exact OpK.vt h (op_bin e1 e2 rfl rfl hv rfl) hf H
     ·simp at h
    ·simp at h
  ·
   rename_i xs ys hx hy
   obtain ⟨d1,e1,⟨ds,rfl,a1⟩,_⟩:=zbU hr hx
   obtain ⟨d2,e2,⟨es,rfl,a2⟩,_⟩:=zbU hr hy
   split at h
   ·rename_i q hq
    obtain ⟨vs,ws,h1,h2,h3,h4⟩:=eqT_ok hq a1 a2
    split at h
    ·exact OpK.one h (op_bin e1 e2 h1 h2 (bin_eql h3 h4) rfl) rfl True.intro H
    ·exact OpK.one h (op_bin e1 e2 h1 h2 (bin_neq h3 h4) rfl) rfl True.intro H
    ·simp at h
   ·simp at h
  ·
   rename_i a b c d hx hy
   obtain ⟨d1,e1,r1,_⟩:=zbU hr hx
   obtain ⟨d2,e2,r2,_⟩:=zbU hr hy
   rcases r1 with r1 | rfl
   ·simp at r1
   rcases r2 with r2 | rfl
   ·simp at r2
   split at h
   ·obtain ⟨u,h1,h⟩:=za8 h
    obtain ⟨v,h2,h⟩:=za8 h
    obtain ⟨p1,p2,rfl⟩:=fsum_ok h1
    obtain ⟨p3,p4,rfl⟩:=fsum_ok h2
    exact OpK.one h (op_bin e1 e2 rfl rfl (binV_cx (by simp) (by simp) (by simp) (by simp) (complex_add p1 p3 p2 p4)) rfl) rfl True.intro H
   ·obtain ⟨u,h1,h⟩:=za8 h
    obtain ⟨v,h2,h⟩:=za8 h
    obtain ⟨p1,p2,rfl⟩:=fdif_ok h1
    obtain ⟨p3,p4,rfl⟩:=fdif_ok h2
    exact OpK.one h (op_bin e1 e2 rfl rfl (binV_cx (by simp) (by simp) (by simp) (by simp) (complex_sub p1 p3 p2 p4)) rfl) rfl True.intro H
   ·split at h
    ·obtain ⟨u,h1,h⟩:=za8 h
     obtain ⟨v,h2,h⟩:=za8 h
     obtain ⟨p1,p2,p3,p4,rfl⟩:=fmul_ok h1
     obtain ⟨p5,p6,_,_,rfl⟩:=fmul_ok h2
     exact OpK.one h (op_bin e1 e2 rfl rfl (binV_cx (by simp) (by simp) (by simp) (by simp) (complex_mul p1 p5 p3 p2 p6 p4)) rfl) rfl True.intro H
    ·simp at h
   ·simp at h
  ·
   rename_i u v _ _ _ hx hy
   obtain ⟨d1,e1,r1,_⟩:=zbU hr hx
   obtain ⟨d2,e2,r2,_⟩:=zbU hr hy
   split at h
   ·rename_i a b ha hb
    obtain ⟨h1,rfl⟩:=valT_ok ha r1
    obtain ⟨h2,rfl⟩:=valT_ok hb r2
    split at h
    ·rename_i hu
     exact OpK.one h (op_bin e1 e2 rfl rfl (bin_eqlB hu) rfl) rfl True.intro H
    ·rename_i hu
     exact OpK.one h (op_bin e1 e2 rfl rfl (bin_neqB hu) rfl) rfl True.intro H
    ·simp at h
   ·rename_i a b _ ha hb
    obtain ⟨h1,rfl⟩:=valT_ok ha r1
    obtain ⟨h2,rfl⟩:=valT_ok hb r2
    split at h
    ·rename_i w hw
     split at h
     ·rename_i hf
      exact OpK.vt h (op_bin e1 e2 rfl rfl hw rfl) hf H
     ·simp at h
    ·simp at h
   ·simp at h
  ·simp at h
 ·
  rename_i o t x
  split at h
  ·rename_i u hu
   obtain ⟨d1,e1,r1,_⟩:=zbU hr hu
   split at h
   ·rename_i e he
    obtain ⟨h1,rfl⟩:=valT_ok he r1
    exact OpK.one h (op_un e1 rfl rfl rfl) rfl True.intro H
   ·rename_i a _ ha
    obtain ⟨h1,rfl⟩:=valT_ok ha r1
    split at h
    ·rename_i w hw
     split at h
     ·rename_i hf
      exact OpK.vt h (op_un e1 rfl hw rfl) hf H
     ·simp at h
    ·simp at h
   ·simp at h
  ·simp at h
 ·
  rename_i t t' x
  split at h
  ·rename_i ka a ha
   obtain ⟨d1,e1,r1,_⟩:=zbU hr ha
   rcases r1 with r1 | rfl
   ·simp at r1
   split at h
   ·rename_i ht
    split at h
    ·rename_i hs
     exact OpK.one h (op_conv e1 rfl (v:=.float .f64 (Fl.fl a)) (conv_fl ht hs) rfl) rfl True.intro H
    ·simp at h
   ·split at h
    ·rename_i w hw
     split at h
     ·rename_i hf
      exact OpK.vt h (op_conv e1 rfl hw rfl) hf H
     ·simp at h
    ·simp at h
  ·rename_i a ha
   obtain ⟨d1,e1,r1,_⟩:=zbU hr ha
   rcases r1 with r1 | rfl
   ·simp at r1
   split at h
   ·rename_i ht hs
    obtain ⟨b,h1,h2⟩:=za8 h
    exact OpK.one h2 (op_conv e1 rfl (v:=.int .i64 b) (conv_int ht hs h1) rfl) rfl rfl H
   ·simp at h
  ·rename_i u _ _ hu
   obtain ⟨d1,e1,r1,_⟩:=zbU hr hu
   split at h
   ·rename_i a ha
    obtain ⟨h1,rfl⟩:=valT_ok ha r1
    split at h
    ·rename_i w hw
     split at h
     ·rename_i hf
      exact OpK.vt h (op_conv e1 rfl hw rfl) hf H
     ·simp at h
    ·simp at h
   ·simp at h
  ·simp at h
 ·
  rename_i c
  split at h
  ·split at h
   ·rename_i v hv
    split at h
    ·rename_i hf
     refine OpK.vt h (op_call_gen (genV_ok hr (fun cs b=>by simp) hv)) hf H
    ·simp at h
   ·simp at h
  ·split at h
   ·rename_i v hv
    split at h
    ·rename_i hf
     refine OpK.vt h (op_call_gen (genV_ok hr (fun cs b=>by simp) hv)) hf H
    ·simp at h
   ·simp at h
  ·rename_i x y hc ha
   split at h
   ·rename_i a b hx hy
    obtain ⟨d1,e1,r1,_⟩:=zbU hr hx
    obtain ⟨d2,e2,r2,_⟩:=zbU hr hy
    rcases r1 with r1 | rfl
    ·simp at r1
    rcases r2 with r2 | rfl
    ·simp at r2
    exact OpK.one h (op_call_gen (gen_complex hc ha e1 e2)) rfl True.intro H
   ·rename_i a b hx hy
    obtain ⟨d1,e1,r1,_⟩:=zbU hr hx
    obtain ⟨d2,e2,r2,_⟩:=zbU hr hy
    rcases r1 with r1 | rfl
    ·simp at r1
    rcases r2 with r2 | rfl
    ·simp at r2
    split at h
    ·rename_i hb
     have:=yAh hb
     subst this
     exact OpK.one h (op_call_gen (gen_complex hc ha e1 e2)) rfl True.intro H
    ·simp at h
   ·simp at h
  ·rename_i x hc ha
   split at h
   ·rename_i a b hx
    obtain ⟨d1,e1,r1,_⟩:=zbU hr hx
    rcases r1 with r1 | rfl
    ·simp at r1
    exact OpK.one h (op_call_gen (gen_real hc ha e1)) rfl True.intro H
   ·simp at h
  ·rename_i x hc ha
   split at h
   ·rename_i a b hx
    obtain ⟨d1,e1,r1,_⟩:=zbU hr hx
    rcases r1 with r1 | rfl
    ·simp at r1
    exact OpK.one h (op_call_gen (gen_imag hc ha e1)) rfl True.intro H
   ·simp at h
  ·simp at h
 ·simp at h
end
end Go.Abs
end
section
namespace Go.Abs
noncomputable section
variable [Gl] [Y:Ty]
def outE:(cs:List VCd)→outV cs→List D
 | [],_=>[]
 | [c],x=>[c.enc x]
 | c::d::cs,x=>c.enc x.1::outE (d::cs) x.2
def outD (cs:List VCd) (x:outV cs):D:=one (outE cs x)
def zaX (P:Program) (g:Nat) (s:TSp):Prop:=∀a r,s.f a=some r→Pure P g (encV s.ins a) (outD s.out r)
def TSsOk (P:Program) (S:TSs):Prop:=∀p∈S,zaX P p.1 p.2
def zcq (S:TSs):Specs:=S.map fun p=>(p.1,spec (encV p.2.ins) (outD p.2.out) p.2.f)
theorem VCd.inj {c:VCd} {a b:c.dn} (h:c.enc a=c.enc b):a=b:=by
 cases c with
 | c x=>simp only [VCd.enc,D.c.injEq] at h; exact encC_inj (fun j _=>enc_inj j) h
 | st i=>exact ST_inj (fun {a b}=>enc_inj i a b) h
 | fp i=>simp only [VCd.enc,D.c.injEq,C.fptr.injEq,yBL] at h; exact enc_inj i a b h
 | k g=>rfl
theorem encV_inj:∀{cs:List VCd} {a b:tupV cs},encV cs a=encV cs b→a=b:=by
 intro cs
 induction cs with
 | nil=>intro a b _; rfl
 | cons c cs ih =>
  intro a b h
  simp only [encV,yBn] at h
  obtain ⟨a1,a2⟩:=a
  obtain ⟨b1,b2⟩:=b
  have h1:=VCd.inj h.1
  have h2:=ih h.2
  dsimp only at h1 h2
  rw [h1,h2]
theorem specsOf_ok {P:Program} {S:TSs} (h:TSsOk P S):SpecsOk P (zcq S):=by
 intro p hp ds r hr
 simp only [zcq,yA4] at hp
 obtain ⟨q,hq,rfl⟩:=hp
 exact spec_ok (h q hq) ds r hr
theorem spk_of {g:Nat} {s:TSp}:∀{S:TSs},tsk g S=some s→spk g (zcq S)=some (spec (encV s.ins) (outD s.out) s.f):=by
 intro S
 induction S with
 | nil=>intro h; simp [tsk] at h
 | cons p S ih =>
  intro h
  obtain ⟨q,s'⟩:=p
  simp only [tsk] at h
  simp only [zcq,yA3,spk]
  split at h
  ·rename_i hb
   simp only [yAa] at h
   subst h
   try rw [hb]
  ·rename_i hb
   try rw [hb]
   exact ih h
theorem rdSt_agg {i:Nat} {xs:List TC} {a:TT i} (h:rdSt i (.agg xs)=some a):∃x,rdT (Y.fl i) xs=some x∧a=Y.mkt i x:=by
 simp only [rdSt] at h
 cases h1:rdT (Y.fl i) xs with
 | none=>rw [h1] at h; simp at h
 | some x=>rw [h1] at h; simp only [yAa] at h; exact ⟨x,rfl,h.symm⟩
theorem rdV_ok {c:VCd} {v:TV} {d:D} {a:c.dn} (h:rdV c v=some a) (r:RT v d):nrm d=c.enc a∧d.low 0=true∧d.plain=true:=by
 cases c with
 | c x =>
  cases v with
  | c y =>
   simp only [rdV,rdCV] at h
   obtain ⟨h1,h2⟩:=rdC_ok h
   rcases r with r | rfl
   ·exact absurd r h1
   ·obtain ⟨q,hq⟩:∃q,y.er=.c q:=by
     cases hy:y.er with
     | c q=>exact ⟨q,rfl⟩
     | _=>rw [hy] at h2; simp [nrm1] at h2
    rw [hq] at h2 ⊢
    exact ⟨h2,rfl,rfl⟩
  | agg xs=>simp [rdV,rdCV] at h
  | tup xs=>simp [rdV,rdCV] at h
 | st i =>
  cases v with
  | c y=>simp [rdV,rdSt] at h
  | agg xs =>
   obtain ⟨x,h1,rfl⟩:=rdSt_agg h
   obtain ⟨h2,h3⟩:=rdT_ok h1
   obtain ⟨ds,rfl,ha⟩:=r
   rw [ha.eq h2]
   have key:∀(l:List D) (m:List C),l.map nrm1=m.map .c→D.low.lows 0 l=true∧(l.all fun d=>match d with | .fn ..=>false | _=>true)=true:=by
    intro l
    induction l with
    | nil=>intro m _; exact ⟨rfl,rfl⟩
    | cons d l ih =>
     intro m hm
     cases m with
     | nil=>simp at hm
     | cons c m =>
      simp only [yA3,yBn] at hm
      obtain ⟨h4,h5⟩:=ih m hm.2
      cases d with
      | c x=>exact ⟨by simp [D.low.lows,D.low,h4],by simp [h5]⟩
      | _=>simp [nrm1] at hm
   obtain ⟨h4,h5⟩:=key _ _ h3
   refine ⟨?_,h4,h5⟩
   simp only [nrm,h3,VCd.enc,enc_eq,Y.pm]
  | tup xs=>simp [rdV,rdSt] at h
 | fp i =>
  simp only [rdV] at h
  unfold rdFp at h
  split at h
  ·split at h
   ·rename_i e _
    subst e
    simp only [yAa] at h
    subst h
    rcases r with r | rfl
    ·simp at r
    ·exact ⟨rfl,rfl,rfl⟩
   ·simp at h
  ·simp at h
 | k g =>
  simp only [rdV] at h
  unfold rdFn at h
  split at h
  ·split at h
   ·rename_i hb
    have:=yAh hb
    subst this
    rcases r with r | rfl
    ·simp at r
    ·exact ⟨rfl,rfl,rfl⟩
   ·simp at h
  ·simp at h
inductive All3:List TV→List D→Prop where
 | nil:All3 [] []
 | cons {v:TV} {d:D} {vs:List TV} {ds:List D} (h:RT v d) (r:All3 vs ds):All3 (v::vs) (d::ds)
theorem rdVs_ok:∀{cs:List VCd} {vs:List TV} {ds:List D} {a:tupV cs},rdVs cs vs=some a→All3 vs ds→ds.map nrm=encV cs a∧(ds.all fun d=>d.low 0&&d.plain)=true:=by
 intro cs
 induction cs with
 | nil =>
  intro vs ds a h r
  cases r with
  | nil=>exact ⟨rfl,rfl⟩
  | cons _ _=>simp [rdVs] at h
 | cons c cs ih =>
  intro vs ds a h r
  cases r with
  | nil=>simp [rdVs] at h
  | cons h1 r =>
   simp only [rdVs] at h
   split at h
   ·rename_i x y h2 h3
    simp only [yAa] at h
    subst h
    obtain ⟨h4,h5,h6⟩:=rdV_ok h2 h1
    obtain ⟨h7,h8⟩:=ih h3 r
    exact ⟨by simp only [yA3,encV,h4,h7],by simp [h5,h6,h8]⟩
   ·simp at h
theorem VCd.enc_low (c:VCd) (a:c.dn):(c.enc a).low 0=true:=by
 cases c with
 | c x=>rfl
 | st i=>exact lows_c _
 | fp i=>rfl
 | k g=>rfl
theorem outE_low:∀(cs:List VCd) (x:outV cs),D.low.lows 0 (outE cs x)=true:=by
 intro cs
 induction cs with
 | nil=>intro x; rfl
 | cons c cs ih =>
  intro x
  cases cs with
  | nil=>simp only [outE,D.low.lows,VCd.enc_low,yBG]
  | cons d cs=>simp only [outE,D.low.lows,VCd.enc_low,Bool.true_and]; exact ih x.2
theorem outD_low (cs:List VCd) (x:outV cs):(outD cs x).low 0=true:=by
 have:=outE_low cs x
 unfold outD one
 split
 ·rename_i d h; rw [h] at this; simp only [D.low.lows,yBl] at this; exact this
 ·exact this
theorem te_ok (c:VCd) (a:c.dn):RE (c.te a) (c.enc a):=by
 cases c with
 | c x=>exact ⟨_,rfl,.inr (expC_er x a).symm⟩
 | st i=>exact ⟨_,rfl,exp_all i a⟩
 | fp i=>exact ⟨_,rfl,.inr rfl⟩
 | k g=>exact ⟨_,rfl,.inr rfl⟩
theorem outL_ok:∀(cs:List VCd) (x:outV cs),All2 RE (outL cs x) (outE cs x):=by
 intro cs
 induction cs with
 | nil=>intro x; exact .nil
 | cons c cs ih =>
  intro x
  cases cs with
  | nil=>exact .cons (te_ok c x) .nil
  | cons d cs=>exact .cons (te_ok c x.1) (ih x.2)
theorem outT_ok (cs:List VCd) (x:outV cs):RT (outT cs x) (outD cs x):=by
 cases cs with
 | nil=>exact ⟨[],rfl,.nil⟩
 | cons c cs =>
  cases cs with
  | nil=>exact c.tv_ok x
  | cons d cs =>
   refine ⟨outE (c::d::cs) x,?_,outL_ok (c::d::cs) x⟩
   cases cs <;> rfl
theorem te_good {σ:TH} (c:VCd) (a:c.dn):∀x∈(c.te a).2,GC σ x:=by
 cases c with
 | c x=>intro y hy; simp only [VCd.te,yAO] at hy; subst hy; exact expC_good x a
 | st i=>exact exp_good i a
 | fp i=>intro y hy; simp only [VCd.te,yAO] at hy; subst hy; trivial
 | k g=>intro y hy; simp only [VCd.te,yAO] at hy; subst hy; rfl
theorem outL_good {σ:TH}:∀(cs:List VCd) (x:outV cs),∀p∈outL cs x,∀y∈p.2,GC σ y:=by
 intro cs
 induction cs with
 | nil=>intro x p hp; simp [outL] at hp
 | cons c cs ih =>
  intro x p hp
  cases cs with
  | nil=>simp only [outL,yAO] at hp; subst hp; exact te_good c x
  | cons d cs =>
   simp only [outL,yAt] at hp
   rcases hp with rfl | hp
   ·exact te_good c x.1
   ·exact ih x.2 p hp
theorem tv_good {σ:TH} (c:VCd) (a:c.dn):GV σ (c.tv a):=by
 cases c with
 | c x=>exact expC_good x a
 | st i=>exact exp_good i a
 | fp i=>trivial
 | k g=>rfl
theorem outT_good {σ:TH} (cs:List VCd) (x:outV cs):GV σ (outT cs x):=by
 cases cs with
 | nil=>intro p hp; simp [outL] at hp
 | cons c cs =>
  cases cs with
  | nil=>exact tv_good c x
  | cons d cs=>exact outL_good (c::d::cs) x
variable {P:Program} {orc:Orc} {n:Nat} {alD:AL} {σ σ1:TH} {σD σD1:Heap} {o:AOp} {Q:TV→TH→Bool→List Nat→Prop} {rd:Opd→Option TV}
theorem er_c_of_rd {c:CC} {x:TC} {a:c.dn} (h:rdC c x=some a):∃q,x.er=.c q:=by
 obtain ⟨_,h2⟩:=rdC_ok h
 cases hy:x.er with
 | c q=>exact ⟨q,rfl⟩
 | _=>rw [hy] at h2; simp [nrm1] at h2
theorem frT_ok (H:RH σ σD) {x:TC} (g:GC σ x) {c:CC} {a:c.dn} (h:rdC c (frT σ x)=some a):∃q,frzC σD 0 100 x.er=some q∧nrm1 (.c q)=.c (encC enc c a):=by
 have other:frT σ x=x→∃q,frzC σD 0 100 x.er=some q∧nrm1 (.c q)=.c (encC enc c a):=fun e=>by
  rw [e] at h
  obtain ⟨_,h2⟩:=rdC_ok h
  obtain ⟨q,hq⟩:=er_c_of_rd h
  rw [hq] at h2
  exact ⟨q,by rw [hq]; rfl,h2⟩
 cases x with
 | own i b v m =>
  have bad:∀{z:TC} {a:c.dn},z=.own i b v m→rdC c z=some a→False:=fun e h=>by
   subst e; cases c <;> simp [rdC] at h
  cases hb:σ[b]? with
  | none=>simp only [frT,hb] at h; exact (bad rfl h).elim
  | some blk =>
   cases blk with
   | row j l lv cv =>
    cases hv:Nat.beq lv v with
    | false=>simp only [frT,hb,hv] at h; exact (bad rfl h).elim
    | true =>
     simp only [frT,hb,hv] at h
     have hv:=yAh hv
     obtain ⟨blk,h1,h2⟩:=g
     rw [hb] at h1
     simp only [yAa] at h1
     obtain ⟨_,h3⟩:=h2 j l lv cv h1.symm
     obtain ⟨rfl,rfl⟩:=h3 hv.symm
     refine ⟨_,frzC_own (k:=98) (zaU j) (Y.ps j) (H.row hb) rfl,?_⟩
     obtain ⟨_,h5⟩:=rdC_ok h
     rw [←h5]
     rfl
   | cells w cs=>simp only [frT,hb] at h; exact (bad rfl h).elim
   | mp j st l w=>simp only [frT,hb] at h; exact (bad rfl h).elim
 | _=>exact other rfl
theorem frTs_ok (H:RH σ σD):∀{cs:List CC} {xs:List TC} {a:tup cs},(∀x∈xs,GC σ x)→rdT cs (xs.map (frT σ))=some a→∃qs,(xs.map TC.er).mapM (frzC σD 0 100)=some qs∧(qs.map D.c).map nrm1=(encT enc cs a).map .c:=by
 intro cs
 induction cs with
 | nil =>
  intro xs a _ h
  cases xs with
  | nil=>exact ⟨[],rfl,rfl⟩
  | cons x xs=>simp [rdT] at h
 | cons c cs ih =>
  intro xs a g h
  cases xs with
  | nil=>simp [rdT] at h
  | cons x xs =>
   simp only [yA3,rdT] at h
   split at h
   ·rename_i a1 a2 h1 h2
    simp only [yAa] at h
    subst h
    obtain ⟨q,h3,h4⟩:=frT_ok H (g x (yAq ..)) h1
    obtain ⟨qs,h5,h6⟩:=ih (fun y hy=>g y (yAk _ hy)) h2
    refine ⟨q::qs,?_,?_⟩
    ·rw [yA3]; exact mapM_c h3 h5
    ·simp only [yA3,encT,h4,h6]
   ·simp at h
theorem noAny_of_rd (σ:TH):∀{cs:List CC} {xs:List TC} {a:tup cs},rdT cs (xs.map (frT σ))=some a→∀y∈xs,y≠.any:=by
 intro cs xs a h y hy e
 subst e
 have:=(rdT_ok h).1 (frT σ .any) (List.mem_map_of_mem hy)
 exact this rfl
theorem frT_own {i b v m:Nat}:(∃j l,frT σ (.own i b v m)=.sl j l)∨frT σ (.own i b v m)=.own i b v m:=by
 cases hb:σ[b]? with
 | none=>exact .inr (by simp only [frT,hb])
 | some blk =>
  cases blk with
  | row j l lv cv =>
   cases hv:Nat.beq lv v with
   | false=>exact .inr (by simp only [frT,hb,hv])
   | true=>exact .inl ⟨j,l,by simp only [frT,hb,hv]⟩
  | cells w cs=>exact .inr (by simp only [frT,hb])
  | mp j st l w=>exact .inr (by simp only [frT,hb])
theorem frV_ok (H:RH σ σD) {c:VCd} {v:TV} {d:D} {a:c.dn} (g:GV σ v) (r:RT v d) (h:rdV c (frTV σ v)=some a):∃d',frzD1 σD 0 100 d=some d'∧frzD σD 0 100 d=some d'∧nrm d'=c.enc a:=by
 have same:frTV σ v=v→(∃q,d=.c q)→∃d',frzD1 σD 0 100 d=some d'∧frzD σD 0 100 d=some d'∧nrm d'=c.enc a:=fun e ⟨q,hq⟩=>by
  rw [e] at h
  subst hq
  exact ⟨_,rfl,rfl,(rdV_ok h r).1⟩
 cases v with
 | c x =>
  cases c with
  | c cc =>
   simp only [frTV,rdV,rdCV] at h
   have hne:x≠.any:=fun e=>by subst e; exact (rdC_ok h).1 rfl
   rcases r with r | rfl
   ·exact absurd r hne
   obtain ⟨q,h1,h2⟩:=frT_ok H g h
   have h3:frzD1 σD 0 100 x.er=some (.c q):=by
    cases hx:x.er with
    | agg cs=>rw [hx] at h1; simp [frzC] at h1
    | _=>rw [hx] at h1; simp only [frzD1,h1,Option.map_some]
   refine ⟨.c q,h3,?_,h2⟩
   cases hx:x.er with
   | tup cs=>rw [hx] at h1; simp [frzC] at h1
   | _=>rw [hx] at h3; exact h3
  | st i=>simp [frTV,rdV,rdSt] at h
  | fp i =>
   cases x with
   | fp j b off =>
    rcases r with r | rfl
    ·simp at r
    exact same rfl ⟨_,rfl⟩
   | own i b v m =>
    exfalso
    simp only [frTV,rdV] at h
    rcases frT_own (σ:=σ) (i:=i) (b:=b) (v:=v) (m:=m) with ⟨j,l,e⟩ | e <;> rw [e] at h <;> simp [rdFp] at h
   | _=>simp [frTV,frT,rdV,rdFp] at h
  | k f =>
   cases x with
   | d y =>
    rcases r with r | rfl
    ·simp at r
    refine same rfl ?_
    simp only [frTV,frT,rdV,rdFn] at h
    split at h
    ·rename_i e
     simp only [TV.c.injEq,TC.d.injEq] at e
     subst e
     exact ⟨_,rfl⟩
    ·simp at h
   | own i b v m =>
    exfalso
    simp only [frTV,rdV] at h
    rcases frT_own (σ:=σ) (i:=i) (b:=b) (v:=v) (m:=m) with ⟨j,l,e⟩ | e <;> rw [e] at h <;> simp [rdFn] at h
   | _=>simp [frTV,frT,rdV,rdFn] at h
 | agg xs =>
  cases c with
  | st i =>
   obtain ⟨y,h1,rfl⟩:=rdSt_agg h
   obtain ⟨ds,rfl,ha⟩:=r
   rw [ha.eq (noAny_of_rd σ h1)]
   obtain ⟨qs,h2,h3⟩:=frTs_ok H g h1
   have h4:=frz_agg (σ:=σD) h2
   refine ⟨_,h4,h4,?_⟩
   simp only [nrm,h3,VCd.enc,enc_eq,Y.pm]
  | c x=>simp [frTV,rdV,rdCV] at h
  | fp i=>simp [frTV,rdV,rdFp] at h
  | k i=>simp [frTV,rdV,rdFn] at h
 | tup xs =>
  cases c with
  | st i=>simp [frTV,rdV,rdSt] at h
  | c x=>simp [frTV,rdV,rdCV] at h
  | fp i=>simp [frTV,rdV,rdFp] at h
  | k i=>simp [frTV,rdV,rdFn] at h
theorem frVs_ok (H:RH σ σD):∀{cs:List VCd} {vs:List TV} {ds:List D} {a:tupV cs},(∀v∈vs,GV σ v)→All3 vs ds→rdVs cs (vs.map (frTV σ))=some a→∃ds',ds.mapM (frzD σD 0 100)=some ds'∧ds'.map nrm=encV cs a:=by
 intro cs
 induction cs with
 | nil =>
  intro vs ds a _ r h
  cases r with
  | nil=>exact ⟨[],rfl,rfl⟩
  | cons _ _=>simp [rdVs] at h
 | cons c cs ih =>
  intro vs ds a g r h
  cases r with
  | nil=>simp [rdVs] at h
  | cons h1 r =>
   simp only [yA3,rdVs] at h
   split at h
   ·rename_i x y h2 h3
    simp only [yAa] at h
    subst h
    obtain ⟨d',_,h4,h5⟩:=frV_ok H (g _ (yAq ..)) h1 h2
    obtain ⟨ds',h6,h7⟩:=ih (fun v hv=>g v (yAk _ hv)) r h3
    exact ⟨d'::ds',mapM_c h4 h6,by simp only [yA3,encV,h5,h7]⟩
   ·simp at h
theorem gr_ground {cs:List VCd} (h:cs.all VCd.gr=true) (x:outV cs):(outD cs x).ground=true:=by
 have cc:∀(c:CC) (a:c.dn),c.gr=true→(D.c (encC enc c a)).ground=true:=by
  intro c a h
  cases c <;> first | rfl | simp [CC.gr] at h
 have ct:∀(cs:List CC) (x:tup cs),cs.all CC.gr=true→D.ground.grounds ((encT enc cs x).map .c)=true:=by
  intro cs
  induction cs with
  | nil=>intro x _; rfl
  | cons c cs ih =>
   intro x h
   simp only [List.all_cons,yAj] at h
   simp only [encT,yA3,D.ground.grounds,cc c x.1 h.1,ih x.2 h.2,yBG]
 have cv:∀(c:VCd) (a:c.dn),c.gr=true→(c.enc a).ground=true:=by
  intro c a h
  cases c with
  | c x=>exact cc x a h
  | st i=>simp only [VCd.enc,D.ground,enc_eq]; exact ct _ _ h
  | fp i=>simp [VCd.gr] at h
  | k g=>simp [VCd.gr] at h
 have co:∀(cs:List VCd) (x:outV cs),cs.all VCd.gr=true→D.ground.grounds (outE cs x)=true:=by
  intro cs
  induction cs with
  | nil=>intro x _; rfl
  | cons c cs ih =>
   intro x h
   simp only [List.all_cons,yAj] at h
   cases cs with
   | nil=>simp only [outE,D.ground.grounds,cv c x h.1,yBG]
   | cons d cs=>simp only [outE,D.ground.grounds,cv c x.1 h.1,Bool.true_and]; exact ih x.2 (by simpa using h.2)
 have:=co cs x h
 unfold outD one
 split
 ·rename_i d h; rw [h] at this; simp only [D.ground.grounds,yBl] at this; exact this
 ·exact this
theorem spc_ok {S:TSs} {g:Nat} {s:TSp} {vs:List TV} {ds:List D} {a:tupV s.ins} {r:outV s.out} (hs:tsk g S=some s) (hv:All3 vs ds) (hr:rdVs s.ins vs=some a) (hf:s.f a=some r) :
  zbZ (zcq S) g ds σD=some (outD s.out r,σD,[]):=by
 obtain ⟨h1,h2⟩:=rdVs_ok hr hv
 exact callOrc_data (spk_of hs) h2 h1 (spec_eq (fun a b=>encV_inj) hf) (outD_low s.out r)
theorem own_low {v:TV} {d:D} (h:hasOwn v=true) (r:RT v d):d.low 0=false:=by
 cases v with
 | c x =>
  cases x <;> simp [hasOwn,isOwn] at h
  rcases r with r | rfl
  ·simp at r
  ·simp [TC.er,D.low]
 | agg xs =>
  obtain ⟨ds,rfl,ha⟩:=r
  simp only [hasOwn] at h
  simp only [D.low]
  induction ha with
  | nil=>simp at h
  | cons h1 _ ih =>
   rename_i a b l m _
   simp only [List.any_cons,yAu] at h
   simp only [D.low.lows]
   rcases h with h | h
   ·cases a <;> simp [isOwn] at h
    rcases h1 with h1 | rfl
    ·simp at h1
    ·simp [TC.er,D.low]
   ·rw [ih h,Bool.and_false]
 | tup xs=>simp [hasOwn] at h
theorem owns_low {vs:List TV} {ds:List D} (r:All3 vs ds) (h:vs.any hasOwn=true):(ds.all fun d=>d.low 0&&d.plain)=false:=by
 induction r with
 | nil=>simp at h
 | cons h1 _ ih =>
  simp only [List.any_cons,yAu] at h
  simp only [List.all_cons]
  rcases h with h | h
  ·rw [own_low h h1]; rfl
  ·rw [ih h,Bool.and_false]
theorem spc_lend {S:TSs} (H:RH σ σD) {g:Nat} {s:TSp} {vs:List TV} {ds:List D} {a:tupV s.ins} {r:outV s.out} (hs:tsk g S=some s) (hg:∀v∈vs,GV σ v) (hv:All3 vs ds) (ho:s.out.all VCd.gr=true) (hw:vs.any hasOwn=true)
  (hr:rdVs s.ins (vs.map (frTV σ))=some a) (hf:s.f a=some r):zbZ (zcq S) g ds σD=some (outD s.out r,σD,[]):=by
 obtain ⟨ds',h1,h2⟩:=frVs_ok H hg hv hr
 exact callOrc_lend (spk_of hs) (owns_low hv hw) h1 h2 (spec_eq (fun a b=>encV_inj) hf) (gr_ground ho r)
end
end Go.Abs
end
section
namespace Go.Abs
noncomputable section
variable [Gl] [Y:Ty]
variable {P:Program} {orc:Orc} {n:Nat} {alD:AL} {σ σ1:TH} {σD σD1:Heap} {o:AOp} {Q:TV→TH→Bool→List Nat→Prop} {rd:Opd→Option TV}
theorem rt0:RT (.tup []) (.tup []):=⟨[],rfl,.nil⟩
theorem lows_mem:∀{z:List D} {m:Nat},D.low.lows 0 z=true→∀d∈z,d.low m=true:=by
 intro z
 induction z with
 | nil=>intro m _ d hd; simp at hd
 | cons x z ih =>
  intro m h d hd
  simp only [D.low.lows,yAj] at h
  rcases yAt.1 hd with rfl | hd
  ·exact D.low_mono (yB4 _) h.1
  ·exact ih h.2 d hd
theorem All2.ds:∀(z:List D),All2 RC (z.map .d) z:=by
 intro z
 induction z with
 | nil=>exact .nil
 | cons d z ih=>exact .cons (.inr rfl) ih
theorem ds_good {z:List D} (h:D.low.lows 0 z=true):∀x∈z.map TC.d,GC σ x:=by
 intro x hx
 rw [yA4] at hx
 obtain ⟨d,hd,rfl⟩:=hx
 exact lows_mem h d hd
theorem zeros_low {z:List D} (h:D.low.lows 0 z=true) (k:Nat):∀x∈(zcp k z).map TC.d,GC σ x:=by
 intro x hx
 rw [yA4] at hx
 obtain ⟨d,hd,rfl⟩:=hx
 simp only [zcp,List.mem_flatten,List.mem_replicate] at hd
 obtain ⟨l,⟨_,rfl⟩,hd⟩:=hd
 exact lows_mem h d hd
theorem noNil_ok:∀{cs:List CC} {xs:List TC} {a:tup cs},noNil xs=true→rdT cs xs=some a→xs.map TC.er=(encT enc cs a).map .c:=by
 intro cs
 induction cs with
 | nil =>
  intro xs a _ h
  cases xs with
  | nil=>rfl
  | cons x xs=>simp [rdT] at h
 | cons c cs ih =>
  intro xs a hn h
  cases xs with
  | nil=>simp [rdT] at h
  | cons x xs =>
   simp only [rdT] at h
   split at h
   ·rename_i a1 a2 h1 h2
    simp only [yAa] at h
    subst h
    have hn2:noNil xs=true∧x≠.d (.c (.lit (.slice none 0 0))):=by
     refine ⟨?_,fun e=>by subst e; simp [noNil] at hn⟩
     unfold noNil at hn
     split at hn
     ·rename_i e; simp at e
     ·simp at hn
     ·rename_i e
      simp only [yBn] at e
      obtain ⟨rfl,rfl⟩:=e
      exact hn
    rcases rdC_ex h1 with h3 | h3
    ·exact absurd h3 hn2.2
    ·simp only [yA3,encT,h3,ih hn2.1 h2]
   ·simp at h
theorem mkT_ok {i:Nat} {xs:List TC} {a:TT i} (h:mkT i xs=some a):xs.map TC.er=(enc i a).map .c∧∀x∈xs,x≠.any:=by
 unfold mkT at h
 split at h
 ·rename_i x hn hx
  simp only [yAa] at h
  subst h
  rw [enc_eq,Y.pm]
  exact ⟨noNil_ok hn hx,(rdT_ok hx).1⟩
 ·simp at h
theorem mkRow_ok {i:Nat}:∀{k:Nat} {xs:List TC} {l:List (TT i)} {ds:List D},mkRow i k xs=some l→All2 RC xs ds→ds=(l.flatMap (enc i)).map .c∧l.length=k:=by
 intro k
 induction k with
 | zero =>
  intro xs l ds h r
  cases xs with
  | nil=>simp only [mkRow,yAa] at h; subst h; cases r; exact ⟨rfl,rfl⟩
  | cons x xs=>simp [mkRow] at h
 | succ k ih =>
  intro xs l ds h r
  simp only [mkRow] at h
  split at h
  ·rename_i a l' h1 h2
   simp only [yAa] at h
   subst h
   obtain ⟨h3,h4⟩:=mkT_ok h1
   obtain ⟨h5,h6⟩:=ih h2 (r.drop (esz i))
   have h7:=(r.take (esz i)).eq h4
   refine ⟨?_,by simp [h6]⟩
   rw [←List.take_append_drop (esz i) ds,h5,h7,h3]
   simp
  ·simp at h
theorem intT_ok {v:TV} {d:D} {q:Int} (h:intT v=some q) (r:RT v d):d=I q:=by
 unfold intT at h
 split at h
 ·simp only [yAa] at h; subst h
  rcases r with r | rfl
  ·simp at r
  ·rfl
 ·simp at h
theorem RT.c1 {x:TC} {d:D} (hx:x≠.any) (r:RT (.c x) d):d=x.er:=by
 rcases r with r | r
 ·exact absurd r hx
 ·exact r
theorem ints_ok {k:IntKind}:∀{xs:List TC} {l:List Int} {ds:List D},ints k xs=some l→All2 RC xs ds→ds=l.map fun z=>.c (.lit (.int k z)):=by
 intro xs l ds h r
 induction r generalizing l with
 | nil=>simp only [ints,yAa] at h; subst h; rfl
 | cons h1 _ ih =>
  simp only [ints] at h
  split at h
  ·rename_i a l' h2 h3
   simp only [yAa] at h
   subst h
   obtain ⟨h4,_⟩:=rdC_ok h2
   rw [ih h3,yA3]
   congr 1
   rcases h1 with h1 | rfl
   ·exact absurd h1 h4
   ·rcases rdC_ex h2 with h5 | h5
    ·subst h5; simp [rdC] at h2
    ·rw [h5]; rfl
  ·simp at h
theorem RdOk.c {x:Opd} {y:TC} (hr:RdOk σ alD rd) (h:rd x=some (.c y)) (hy:y≠.any):lx alD x=some y.er∧GC σ y:=by
 obtain ⟨d,h1,h2,h3⟩:=hr x _ h
 exact ⟨by rw [h1,RT.c1 hy h2],h3⟩
theorem RdOk.int {x:Opd} {v:TV} {q:Int} (hr:RdOk σ alD rd) (h:rd x=some v) (hq:intT v=some q):lx alD x=some (I q):=by
 obtain ⟨d,h1,h2,_⟩:=hr x _ h
 rw [h1,intT_ok hq h2]
theorem RdOk.all (hr:RdOk σ alD rd):∀{xs:List Opd} {vs:List TV},rdOs rd xs=some vs→∃ds,lxs alD xs=some ds∧All3 vs ds∧∀v∈vs,GV σ v:=by
 intro xs
 induction xs with
 | nil=>intro vs h; simp only [rdOs,yAa] at h; subst h; exact ⟨[],rfl,.nil,by simp⟩
 | cons x xs ih =>
  intro vs h
  simp only [rdOs] at h
  split at h
  ·rename_i a b h1 h2
   simp only [yAa] at h
   subst h
   obtain ⟨d,h3,h4,h5⟩:=hr x a h1
   obtain ⟨ds,h6,h7,h8⟩:=ih h2
   refine ⟨d::ds,by simp only [lxs,h3,h6],.cons h4 h7,fun v hv=>?_⟩
   rcases yAt.1 hv with rfl | hv
   ·exact h5
   ·exact h8 v hv
  ·simp at h
theorem row_cast (H:RH σ σD) {b i j lv cv:Nat} {l:List (TT j)} {m:List (TT i)} (hb:σ[b]? = some (.row j l lv cv)) (h:castL l=some m):σ[b]? = some (.row i m lv cv):=by
 obtain ⟨rfl,rfl⟩:=zbw h; exact hb
theorem srcT_ok (H:RH σ σD) {i:Nat} {v:TV} {d:D} {m:List (TT i)} (h:srcT i σ v=some m) (r:RT v d) (g:GV σ v):Src σD (enc i) (esz i) d m:=by
 unfold srcT at h
 split at h
 ·rename_i j l
  obtain ⟨rfl,rfl⟩:=zbw h
  rw [RT.c1 (by simp) r]
  exact src_frz (zaU j)
 ·simp only [yAa] at h
  subst h
  rw [RT.c1 (by simp) r]
  exact src_nil
 ·rename_i j b v q
  split at h
  ·rename_i j' l lv cv hb
   split at h
   ·rename_i hv
    have hv:=yAh hv
    obtain ⟨blk,h1,h2⟩:=g
    rw [hb] at h1
    simp only [yAa] at h1
    obtain ⟨_,h3⟩:=h2 _ _ _ _ h1.symm
    obtain ⟨rfl,rfl⟩:=h3 hv.symm
    obtain ⟨rfl,rfl⟩:=zbw h
    rw [RT.c1 (by simp) r]
    exact src_own (zaU _) (H.row hb) rfl
   ·simp at h
  ·simp at h
 ·simp at h
theorem srcN_ok (H:RH σ σD) {i:Nat} {v:TV} {d:D} {m:List (TT i)} (h:srcT i σ v=some m) (r:RT v d) (g:GV σ v):SrcN σD (enc i) (esz i) d m:=by
 unfold srcT at h
 split at h
 ·rename_i j l
  obtain ⟨rfl,rfl⟩:=zbw h
  rw [RT.c1 (by simp) r]
  exact srcN_frz (zaU j)
 ·simp only [yAa] at h
  subst h
  rw [RT.c1 (by simp) r]
  exact srcN_nil
 ·rename_i j b v q
  split at h
  ·rename_i j' l lv cv hb
   split at h
   ·rename_i hv
    have hv:=yAh hv
    obtain ⟨blk,h1,h2⟩:=g
    rw [hb] at h1
    simp only [yAa] at h1
    obtain ⟨_,h3⟩:=h2 _ _ _ _ h1.symm
    obtain ⟨rfl,rfl⟩:=h3 hv.symm
    obtain ⟨rfl,rfl⟩:=zbw h
    rw [RT.c1 (by simp) r]
    exact srcN_own (zaU _) (H.row hb) rfl
   ·simp at h
  ·simp at h
 ·simp at h
theorem os_row (H:RH σ σD) {i b v q lo len j lv cv:Nat} {l:List (TT j)} (g:GC σ (.os i b v q lo len)) (hb:σ[b]? = some (.row j l lv cv)) (hv:Nat.beq lv v=true):j=i∧q=l.length∧lo+len≤q:=by
 have hv:=yAh hv
 obtain ⟨blk,h1,h2⟩:=g
 rw [hb] at h1
 simp only [yAa] at h1
 obtain ⟨_,h3⟩:=h2 _ _ _ _ h1.symm
 exact h3 hv.symm
theorem own_row (H:RH σ σD) {i b v q j lv cv:Nat} {l:List (TT j)} (g:GC σ (.own i b v q)) (hb:σ[b]? = some (.row j l lv cv)) (hv:Nat.beq lv v=true):j=i∧q=l.length:=by
 have hv:=yAh hv
 obtain ⟨blk,h1,h2⟩:=g
 rw [hb] at h1
 simp only [yAa] at h1
 obtain ⟨_,h3⟩:=h2 _ _ _ _ h1.symm
 exact h3 hv.symm
theorem op_row (H:RH σ σD) {i b v q j lv cv off:Nat} {k:Int} {a:TT i} {l:List (TT j)} (g:GC σ (.op i b v q k a off)) (hb:σ[b]? = some (.row j l lv cv)) (hv:Nat.beq cv v=true):∃m:List (TT i),castL l=some m∧q=m.length∧at? m k=some a:=by
 have hv:=yAh hv
 obtain ⟨blk,h1,h2⟩:=g
 rw [hb] at h1
 simp only [yAa] at h1
 obtain ⟨_,h3⟩:=h2 _ _ _ _ h1.symm
 exact h3 hv.symm
theorem getT_exp {m:Option Nat} {i:Nat} {a:TT i} {off:Nat} {v:TV} (h:getT m (exp i a) off=some v):∃d,zaF m ((enc i a).map .c) off=some d∧RT v d∧GV σ v:=by
 obtain ⟨d,h1,h2⟩:=getT_ok h (exp_all i a)
 exact ⟨d,h1,h2,getT_good h (exp_good i a)⟩
variable {R:Type} {k:KO R} {r:R}
theorem tload_ok {S:TSs} {hint:Nat} {m:Option Nat} {x:Opd} (hr:RdOk σ alD rd) (H:RH σ σD) (h:tOp P S hint (.load m x) rd σ k=some r):OpK P orc n alD σ σD (.load m x) (fun v σ1 rs wr=>k v σ1 rs wr=some r):=by
 simp only [tOp] at h
 split at h
 ·rename_i b off sz hx
  obtain ⟨h1,_⟩:=hr.c hx (by simp)
  split at h
  ·rename_i w cs hb
   obtain ⟨ds,h2,h3,h4,_⟩:=H.cells hb
   split at h
   ·rename_i v hs hv
    obtain ⟨d,h5,h6⟩:=getT_ok hv h3
    refine OpK.pure (op_load h1 (zdd h2 (by rw [h4]; exact yAh hs)) h5) h6 (getT_good hv fun y hy=>?_) H h
    rw [yA4] at hy
    obtain ⟨p,hp,rfl⟩:=hy
    exact (H.hg b w cs hb p hp).1
   ·simp at h
  ·simp at h
 ·rename_i i a off hx
  obtain ⟨h1,_⟩:=hr.c hx (by simp)
  split at h
  ·rename_i v hv
   obtain ⟨d,h2,h3,h4⟩:=getT_exp (σ:=σ) hv
   exact OpK.pure (op_loadf h1 h2) h3 h4 H h
  ·simp at h
 ·rename_i i b v q z a off hx
  obtain ⟨h1,g⟩:=hr.c hx (by simp)
  split at h
  ·rename_i j l lv cv hb
   split at h
   ·rename_i v' hv hv'
    obtain ⟨m',h2,rfl,h3⟩:=op_row H g hb hv
    have hb':=row_cast H hb h2
    obtain ⟨d,h4,h5,h6⟩:=getT_exp (σ:=σ) hv'
    exact OpK.pure (op_loade (zaU i) h1 rfl (H.row hb') rfl (at_get h3) h4) h5 h6 H h
   ·simp at h
  ·simp at h
 ·rename_i b off len sz i hx
  obtain ⟨h1,g⟩:=hr.c hx (by simp)
  split at h
  ·rename_i w cs hb
   obtain ⟨ds,h2,h3,h4,_⟩:=H.cells hb
   split at h
   ·rename_i l hs hl
    simp only [yAj] at hs
    obtain ⟨a,ha,hk⟩:=za8 h
    have h5:=ints_ok hl ((h3.drop off).take len)
    obtain ⟨a1,a2,a3⟩:=at_some ha
    refine OpK.one hk (op_load h1 (zdd h2 (by rw [h4]; exact yAh hs.1)) (d:=I a) ?_) rfl rfl H
    have h6:((ds.drop off).take len)[i.toNat]? = some (I a):=by rw [h5,yAm,a3]; rfl
    have h7:i.toNat<len:=by
     have:=(yAb.1 h6).1
     rw [yA6] at this
     omega
    rw [yA5 h7,yAS] at h6
    simp only [zaF,Nat.mul_one]
    exact h6
   ·simp at h
  ·simp at h
 ·simp at h
theorem tstore_ok {S:TSs} {hint:Nat} {m:Nat} {x y:Opd} (hr:RdOk σ alD rd) (H:RH σ σD) (h:tOp P S hint (.store m x y) rd σ k=some r):OpK P orc n alD σ σD (.store m x y) (fun v σ1 rs wr=>k v σ1 rs wr=some r):=by
 simp only [tOp] at h
 split at h
 ·rename_i b off sz v hx hv
  obtain ⟨h1,_⟩:=hr.c hx (by simp)
  obtain ⟨d,h2,h3,h4⟩:=hr _ _ hv
  split at h
  ·rename_i w cs xs hb hxs
   obtain ⟨ds,h5,h6,h7,hds⟩:=H.cells hb
   obtain ⟨h8,h9,h10⟩:=cellsT_ok hxs h3
   split at h
   ·rename_i hc
    simp only [yAj] at hc
    have c1:=yAh hc.1
    have c2:=yAh hc.2.1
    have c3:=yAA hc.2.2
    have hlen:(putT cs off (xs.map fun x=>(w+1,x))).length=cs.length:=by
     simp only [putT,yAr,yA6,yBI,yA2]
     omega
    have hbe:BE (.cells w cs) (.cells (w+1) (putT cs off (xs.map fun x=>(w+1,x)))):=by
     refine ⟨w+1,_,rfl,by omega,hlen,fun j v x v1 x1 e1 e2=>?_⟩
     by_cases hj:j<off
     ·left
      simp only [putT] at e2
      rw [yAw,yAs (by rw [yA6]; have:=(yAb.1 e1).1; omega),yA5 hj,e1] at e2
      simp only [yAa,yAc] at e2
      exact ⟨e2.1.symm,e2.2.symm⟩
     ·by_cases hj2:j<off+xs.length
      ·right
       simp only [putT] at e2
       rw [yAw,yAz (by rw [yA6]; omega),yAs (by rw [yA6,yA2]; omega),yAm,yAe] at e2
       obtain ⟨q,_,e3⟩:=e2
       simp only [yAc] at e3
       omega
      ·left
       simp only [putT] at e2
       rw [yAz (by rw [yAr,yA6,yA2]; omega),yAS,yAr,yA6,yA2] at e2
       rw [show off+xs.length+(j-(min off cs.length+xs.length))=j by omega,e1] at e2
       simp only [yAa,yAc] at e2
       exact ⟨e2.1.symm,e2.2.symm⟩
    have hgood:∀w' cs',TB.cells (w+1) (putT cs off (xs.map fun x=>(w+1,x)))=.cells w' cs'→∀p∈cs',GC σ p.2∧p.1≤w':=by
     intro w' cs' e p hp
     simp only [TB.cells.injEq] at e
     obtain ⟨rfl,rfl⟩:=e
     rcases putT_mem hp with hp | hp
     ·obtain ⟨q1,q2⟩:=H.hg b w cs hb p hp
      exact ⟨q1,by omega⟩
     ·rw [yA4] at hp
      obtain ⟨y,hy,rfl⟩:=hp
      exact ⟨cellsT_good hxs h4 y hy,yAn _⟩
    have hrb:RB (.cells (w+1) (putT cs off (xs.map fun x=>(w+1,x)))) (.cells (put ds off (xs.map TC.er))):=by
     unfold RB TB.er
     rw [hds]
     simp [put,putT,Function.comp_def]
    refine ⟨_,_,_,_,.tup [],σD.set b (.cells (put ds off (xs.map TC.er))),op_store h1 (zdd h5 (by rw [h7]; exact c1)) h2 h8 ⟨by rw [yA2]; exact c2,c3⟩ rfl,rt0,?_,H.set hb hbe hrb hgood,Ext.set hb hbe,fun _=>?_,fun e=>by simp [totOp] at e,h⟩
    ·intro p hp; simp at hp
    ·simp only [wrOk,List.all_cons,List.all_nil,yBl]
     rw [h5,zaE h5]
     simp only [Ob.sz,yAP]
     simp only [put,yAr,yA6,yBI,yA2]
     omega
   ·simp at h
  ·simp at h
 ·rename_i i b v q z a off xv hx hv
  obtain ⟨h1,g⟩:=hr.c hx (by simp)
  obtain ⟨d,h2,h3,h4⟩:=hr _ _ hv
  split at h
  ·rename_i j l lv cv xs hb hxs
   obtain ⟨h8,h9,h10⟩:=cellsT_ok hxs h3
   split at h
   ·rename_i a' l' hc ha hl
    simp only [yAj] at hc
    obtain ⟨m',e1,rfl,e2⟩:=op_row H g hb hc.1
    rw [hl] at e1
    simp only [yAa] at e1
    subst e1
    have hb':=row_cast H hb hl
    have c2:=yAh hc.2.1
    obtain ⟨e3,e4⟩:=mkT_ok ha
    have hput:(putT (exp i a) off xs).map TC.er=((exp i a).map TC.er).take off++xs.map TC.er++((exp i a).map TC.er).drop (off+xs.length):=by
     simp [putT]
    rw [e3,exp_er] at hput
    obtain ⟨ys,hys⟩:∃ys:List C,xs.map TC.er=ys.map .c:=by
     have c3:=yAA hc.2.2
     refine ⟨((enc i a').drop off).take xs.length,?_⟩
     rw [yBR,yCp,hput]
     have l1:(((enc i a).map D.c).take off).length=off:=by rw [yA6,yA2,zaU]; omega
     rw [yAw,yBJ (by omega),yB0 (by omega),List.nil_append,yB5 (by rw [yA2]; exact yAn _),yAM (by rw [yA2]; exact yAn _)]
    have hlen:ys.length=xs.length:=by have:=congrArg List.length hys; simpa using this.symm
    have he:enc i a'=(enc i a).take off++ys++(enc i a).drop (off+ys.length):=by
     apply mapc_inj
     rw [hput,hys,hlen]
     simp
    have hbe:BE (.row i l' lv cv) (.row i (l'.set z.toNat a') lv (cv+1)):=⟨_,_,_,rfl,yAn _,by omega,fun _=>by simp,fun e=>by omega⟩
    refine ⟨_,_,_,_,.tup [],σD.set b (OB (enc i) (l'.set z.toNat a')),op_storee (zaU i) h1 rfl (H.row hb') rfl (at_get e2) h2 (by rw [h8,hys]) (by rw [hlen]; exact c2) hc.2.2 he rfl rfl,rt0,?_,H.set hb' hbe rfl (fun w cs e=>by simp at e),Ext.set hb' hbe,fun _=>?_,fun e=>by simp [totOp] at e,h⟩
    ·intro p hp; simp at hp
    ·simp only [wrOk,List.all_cons,List.all_nil,yBl]
     rw [H.row hb',zaE (H.row hb')]
     simp [Ob.sz,zbV (zaU i)]
   ·simp at h
  ·simp at h
 ·simp at h
end
end Go.Abs
end
section
namespace Go.Abs
noncomputable section
variable [Gl] [Y:Ty]
variable {P:Program} {n:Nat} {alD:AL} {σ σ1:TH} {σD σD1:Heap} {o:AOp} {Q:TV→TH→Bool→List Nat→Prop} {rd:Opd→Option TV} {S:TSs} {hint:Nat} {R:Type} {k:KO R} {r:R} {orc:Orc}
abbrev Goal (P:Program) (orc:Orc) (n:Nat) (alD:AL) (σ:TH) (σD:Heap) (o:AOp) (k:KO R) (r:R):Prop:=OpK P orc n alD σ σD o (fun v σ1 rs wr=>k v σ1 rs wr=some r)
theorem new_cells {cs:List TC} {ds:List D} (h:ds=cs.map TC.er):RB (.cells 0 (cs.map fun c=>(0,c))) (.cells ds):=by
 subst h; simp [RB,TB.er,Function.comp_def]
theorem new_good {cs:List TC} (g:∀x∈cs,GC σ x):∀w cs',TB.cells 0 (cs.map fun c=>(0,c))=.cells w cs'→∀p∈cs',GC σ p.2∧p.1≤w:=by
 intro w cs' e p hp
 simp only [TB.cells.injEq] at e
 obtain ⟨rfl,rfl⟩:=e
 rw [yA4] at hp
 obtain ⟨y,hy,rfl⟩:=hp
 exact ⟨g y hy,yAn _⟩
theorem tbox_ok {x:Opd} (hr:RdOk σ alD rd) (H:RH σ σD) (h:tOp P S hint (.box x) rd σ k=some r):Goal P orc n alD σ σD (.box x) k r:=by
 simp only [tOp] at h
 split at h
 ·rename_i v hv
  obtain ⟨d,h1,h2,h3⟩:=hr _ _ hv
  split at h
  ·rename_i cs hcs
   obtain ⟨h4,h5,_⟩:=cellsT_ok hcs h2
   refine OpK.new (v:=.c (.d (.ptr σ.length 0 cs.length))) (d:=.ptr σ.length 0 cs.length) (ob:=.cells (cs.map TC.er)) (op_box h1 h4 (by rw [H.len,yA2]) rfl) (Or.inr rfl) ?_ H (new_cells rfl) (new_good (cellsT_good hcs h3)) h
   show D.low _ _=true
   simp [D.low]
  ·simp at h
 ·simp at h
theorem talloc_ok {z:List D} (H:RH σ σD) (h:tOp P S hint (.alloc z) rd σ k=some r):Goal P orc n alD σ σD (.alloc z) k r:=by
 simp only [tOp] at h
 split at h
 ·rename_i hl
  have e:(z.map fun c=>((0:Nat),TC.d c))=(z.map TC.d).map fun c=>(0,c):=by simp
  rw [e] at h
  refine OpK.new (v:=.c (.d (.ptr σ.length 0 z.length))) (d:=.ptr σ.length 0 z.length) (ob:=.cells z) (op_alloc (by rw [H.len]) rfl) (Or.inr rfl) ?_ H (new_cells (by simp [TC.er,Function.comp_def])) (new_good (ds_good hl)) h
  show D.low _ _=true
  simp [D.low]
 ·simp at h
theorem tbuild_ok {z:List D} {ps:List (Nat×Nat×Opd)} (hr:RdOk σ alD rd) (H:RH σ σD) (h:tOp P S hint (.build z ps) rd σ k=some r):Goal P orc n alD σ σD (.build z ps) k r:=by
 simp only [tOp] at h
 split at h
 ·rename_i cs hl hcs
  obtain ⟨ds,h1,h2,h3⟩:=fillT_ok hr hcs (All2.ds z) (ds_good hl)
  exact OpK.pure (v:=.agg cs) (op_build h1) ⟨ds,rfl,h2⟩ h3 H h
 ·simp at h
theorem own_good {i b m:Nat} {l:List (TT i)} (hm:m=l.length):GC (σ++[TB.row i l 0 0]) (.own i σ.length 0 m):=by
 refine ⟨_,by rw [yAz (yAn _),yBN]; rfl,fun j l' lv cv e=>?_⟩
 simp only [TB.row.injEq] at e
 obtain ⟨rfl,hl,rfl,rfl⟩:=e
 cases hl
 exact ⟨yAn _,fun _=>⟨rfl,hm⟩⟩
theorem noAny_ok:∀{cs:List TC},noAny cs=true→∀y∈cs,y≠.any:=by
 intro cs
 induction cs with
 | nil=>intro _ y hy; simp at hy
 | cons x cs ih =>
  intro h y hy
  simp only [noAny,yAj,yAv] at h
  rcases yAt.1 hy with rfl | hy
  ·intro e; subst e; simp [isAny] at h
  ·exact ih h.2 y hy
theorem tbslice_ok {es len:Nat} {z:List D} {ps:List (Nat×Nat×Opd)} (hr:RdOk σ alD rd) (H:RH σ σD) (h:tOp P S hint (.bslice es len z ps) rd σ k=some r):Goal P orc n alD σ σD (.bslice es len z ps) k r:=by
 simp only [tOp] at h
 split at h
 ·split at h
  ·rename_i cs hl hcs
   obtain ⟨ds,h1,h2,h3⟩:=fillT_ok hr hcs (All2.ds (zcp len z)) (zeros_low hl len)
   split at h
   rotate_left
   ·simp at h
   rename_i hna
   have e:ds=cs.map TC.er:=h2.eq (noAny_ok hna)
   refine OpK.new (v:=.c (.d (.sl σ.length 0 len es cs.length))) (d:=.sl σ.length 0 len es ds.length) (blk:=.cells 0 (cs.map fun c=>(0,c))) (ob:=.cells ds) (op_bslice h1 (by rw [H.len]) rfl) (Or.inr ?_) ?_ H (new_cells e) (new_good h3) h
   ·rw [e,yA2]; rfl
   ·show D.low _ _=true; simp [D.low]
  ·simp at h
 split at h
 ·rename_i cs hl hcs
  simp only [yAj] at hl
  have he:=yAh hl.1
  subst he
  split at h
  ·rename_i l hrow
   obtain ⟨ds,h1,h2,h3⟩:=fillT_ok hr hcs (All2.ds (zcp len z)) (zeros_low hl.2 len)
   obtain ⟨h4,h5⟩:=mkRow_ok hrow h2
   refine OpK.new (v:=.c (.own hint σ.length 0 len)) (d:=OS (esz hint) σ.length len) (ob:=OB (enc hint) l) (op_bslice_own h1 h4 h5 (zaU hint) rfl (by rw [H.len]) rfl) (Or.inr rfl) (own_good (b:=0) h5.symm) H rfl (fun w cs e=>by simp at e) h
  ·simp at h
 ·simp at h
theorem tnilck_ok {x:Opd} (hr:RdOk σ alD rd) (H:RH σ σD) (h:tOp P S hint (.nilck x) rd σ k=some r):Goal P orc n alD σ σD (.nilck x) k r:=by
 simp only [tOp] at h
 split at h
 ·rename_i hx; obtain ⟨h1,g⟩:=hr.c hx (by simp); exact OpK.one h (op_nilck h1) rfl g H
 ·rename_i hx; obtain ⟨h1,g⟩:=hr.c hx (by simp); exact OpK.one h (op_nilckc h1) rfl g H
 ·rename_i hx; obtain ⟨h1,g⟩:=hr.c hx (by simp); exact OpK.one h (op_nilckn h1) rfl g H
 ·rename_i hx; obtain ⟨h1,g⟩:=hr.c hx (by simp); exact OpK.one h (op_nilckf h1) rfl g H
 ·rename_i hx; obtain ⟨h1,g⟩:=hr.c hx (by simp); exact OpK.one h (op_nilck h1) rfl g H
 ·rename_i hx; obtain ⟨h1,g⟩:=hr.c hx (by simp); exact OpK.one h (op_nilckn h1) rfl g H
 ·simp at h
theorem tisnil_ok {kd:Nat} {neg:Bool} {x:Opd} (hr:RdOk σ alD rd) (H:RH σ σD) (h:tOp P S hint (.isnil kd neg x) rd σ k=some r):Goal P orc n alD σ σD (.isnil kd neg x) k r:=by
 simp only [tOp] at h
 split at h
 ·rename_i y hx
  obtain ⟨h1,g⟩:=hr.c hx (by simp)
  split at h
  ·rename_i hb; exact OpK.one h (op_isnil h1 hb) (by cases neg <;> rfl) rfl H
  ·rename_i hb; exact OpK.one h (op_isnil h1 hb) (by cases neg <;> rfl) rfl H
  ·simp at h
 ·rename_i hx
  obtain ⟨h1,g⟩:=hr.c hx (by simp)
  split at h
  ·exact OpK.one h (op_isnil (b:=false) h1 rfl) (by cases neg <;> rfl) rfl H
  ·simp at h
 ·rename_i hx
  obtain ⟨h1,g⟩:=hr.c hx (by simp)
  split at h
  ·exact OpK.one h (op_isnil (b:=false) h1 rfl) (by cases neg <;> rfl) rfl H
  ·simp at h
 ·simp at h
theorem tfld_ok {off:Nat} {x:Opd} (hr:RdOk σ alD rd) (H:RH σ σD) (h:tOp P S hint (.fld off x) rd σ k=some r):Goal P orc n alD σ σD (.fld off x) k r:=by
 simp only [tOp] at h
 split at h
 ·rename_i hx; obtain ⟨h1,g⟩:=hr.c hx (by simp); exact OpK.one h (op_fld h1) rfl g H
 ·rename_i hx; obtain ⟨h1,g⟩:=hr.c hx (by simp); exact OpK.one h (op_fldf h1) rfl True.intro H
 ·rename_i hx; obtain ⟨h1,g⟩:=hr.c hx (by simp); exact OpK.one h (op_fld h1) (by simp only [TC.er,yBA]) g H
 ·simp at h
theorem op_idxR {len j es b off sz:Nat} {x i:Opd} {q:Int} (h:lx alD x=some (.ptr b off sz)) (hi:lx alD i=some (I q)) (hk:inR q len=some j):OpR P orc n alD σD (.idx es (some len) x i) (.ptr b (off+j * es) sz) σD []:=fun e he=>by
 simp [zav,zaI he h,zaI he hi,za7,hk]
theorem op_good {i b v q:Nat} {k:Int} {a:TT i} {l:List (TT i)} {lv cv:Nat} (hb:σ[b]? = some (.row i l lv cv)) (ha:at? l k=some a):GC σ (.op i b cv l.length k a 0):=by
 refine ⟨_,hb,fun j l' lv' cv' e=>?_⟩
 simp only [TB.row.injEq] at e
 obtain ⟨rfl,hl,rfl,rfl⟩:=e
 cases hl
 refine ⟨yAn _,fun _=>⟨l,?_,rfl,ha⟩⟩
 unfold castL
 split
 ·rfl
 ·rename_i hne _; exact absurd rfl hne
theorem tidx_ok {es:Nat} {len:Option Nat} {x i:Opd} (hr:RdOk σ alD rd) (H:RH σ σD) (h:tOp P S hint (.idx es len x i) rd σ k=some r):Goal P orc n alD σ σD (.idx es len x i) k r:=by
 cases len with
 | none =>
  simp only [tOp] at h
  split at h
  ·rename_i j l iv hx hi
   obtain ⟨h1,g⟩:=hr.c hx (by simp)
   split at h
   ·rename_i q hq he
    have he:=yAh he
    subst he
    obtain ⟨a,ha,hk⟩:=za8 h
    exact OpK.one hk (op_idx h1 (hr.int hi hq) ha (zaU j a)) rfl True.intro H
   ·simp at h
  ·rename_i j b v m iv hx hi
   obtain ⟨h1,g⟩:=hr.c hx (by simp)
   split at h
   ·rename_i q j' l lv cv hq he hb
    have he:=yAh he
    subst he
    split at h
    ·rename_i l' hv hl
     obtain ⟨a,ha,hk⟩:=za8 h
     obtain ⟨rfl,rfl⟩:=own_row H g hb hv
     have hb':=row_cast H hb hl
     rw [hb] at hb'
     simp only [yAa,TB.row.injEq,heq_eq_eq,yCq,yBL] at hb'
     subst hb'
     exact OpK.one hk (op_idx_own (zaU _) h1 (H.row hb) rfl (hr.int hi hq) ha) rfl (op_good (v:=0) (q:=0) hb ha) H
    ·simp at h
   ·simp at h
  ·rename_i b off ln es' sz iv hx hi
   obtain ⟨h1,g⟩:=hr.c hx (by simp)
   split at h
   ·rename_i q w cs hq hb
    obtain ⟨ds,h2,h3,h4,_⟩:=H.cells hb
    split at h
    ·rename_i j hc hj
     simp only [yAj] at hc
     have e1:=yAh hc.1
     have e2:=yAh hc.2
     subst e2
     exact OpK.one h (op_idxS (cs:=ds) h1 (hr.int hi hq) (zdd h2 (by rw [h4]; exact e1)) hj rfl) rfl g H
    ·simp at h
   ·simp at h
  ·simp at h
 | some len =>
  cases i with
  | k i =>
   simp only [tOp] at h
   split at h
   ·rename_i b off sz q hx hq
    obtain ⟨h1,g⟩:=hr.c hx (by simp)
    split at h
    ·rename_i j hj
     have hi:lx alD (.k i)=some (I q):=by
      have:=intT_ok (d:=i) hq (by
       unfold ofD at hq ⊢
       split at hq
       ·simp [intT] at hq
       ·exact Or.inr rfl)
      simp only [lx,this]
     exact OpK.one h (op_idxR h1 hi hj) rfl g H
    ·simp at h
   ·simp at h
  | t i =>
   simp only [tOp] at h
   split at h
   ·rename_i b off sz iv hx hi
    obtain ⟨h1,g⟩:=hr.c hx (by simp)
    split at h
    ·rename_i q w cs hq he hb
     have he:=yAh he
     subst he
     obtain ⟨ds,h2,h3,h4,_⟩:=H.cells hb
     split at h
     ·rename_i l hs hl
      simp only [yAj] at hs
      obtain ⟨a,ha,hk⟩:=za8 h
      have h5:=ints_ok hl ((h3.drop off).take len)
      have hlen:l.length=len:=by
       have:=congrArg List.length h5
       have q1:=yAh hs.1
       have q2:=yAA hs.2
       rw [yA6,yBI,yA2] at this
       omega
      have hlow:b<σ.length:=(yAb.1 hb).1
      exact OpK.one hk (op_idxA h1 (hr.int hi hq) ha hlen rfl) rfl hlow H
     ·simp at h
    ·simp at h
   ·simp at h
theorem op_slcO {α:Type} {f:α→List C} {esz:Nat} {x:Opd} {lo hi:Option Opd} {b:Nat} {l r:List α} {i j:Int} (hf:∀a,(f a).length=esz) (h:lx alD x=some (OS esz b l.length)) (hb:σD[b]? = some (OB f l)) (hlo:(match lo with | none=>some (I 0) | some o=>lx alD o)=some (I i))
  (hhi:(match hi with | none=>some (I l.length) | some o=>lx alD o)=some (I j)) (hr:slice? l i j=some r):OpR P orc n alD σD (.slc esz x lo hi) (.sl b (0+i.toNat * esz) (j.toNat-i.toNat) esz (l.length * esz)) σD []:=fun e he=>by
 unfold slice? at hr
 split at hr
 ·rename_i hc
  have hrow:zbF σD b (l.length * esz)=some ((l.flatMap f).map .c):=zdd hb (by
   rw [yA2]
   clear hb h hlo hhi hr hc
   induction l with
   | nil=>simp
   | cons a l ih=>rw [yAQ,yAr,hf,ih,List.length_cons,yAY,Nat.one_mul,Nat.add_comm])
  have hh:zaw e l.length l.length hi=some j.toNat:=by
   cases hi with
   | none=>simp only [yAa,I,D.c.injEq,C.lit.injEq,Value.int.injEq,yCq] at hhi; subst hhi; simp [zaw]
   | some o =>
    simp only at hhi
    simp only [zaw,zaI he hhi,za7,Option.bind_some,inB]
    rw [if_pos (by omega)]
  have hl:zaw e 0 j.toNat lo=some i.toNat:=by
   cases lo with
   | none=>simp only [yAa,I,D.c.injEq,C.lit.injEq,Value.int.injEq,yCq] at hlo; subst hlo; simp [zaw]
   | some o =>
    simp only at hlo
    simp only [zaw,zaI he hlo,za7,Option.bind_some,inB]
    rw [if_pos (by omega)]
  simp only [zav,zaI he h,hrow,hh,hl,Option.bind_eq_bind,Option.bind_some,if_true,Option.orElse]
 ·simp at hr
theorem tslc_ok {es:Nat} {x:Opd} {lo hi:Option Opd} (hr:RdOk σ alD rd) (H:RH σ σD) (h:tOp P S hint (.slc es x lo hi) rd σ k=some r):Goal P orc n alD σ σD (.slc es x lo hi) k r:=by
 simp only [tOp] at h
 split at h
 ·rename_i j l hx
  obtain ⟨h1,g⟩:=hr.c hx (by simp)
  split at h
  ·rename_i u v he hu hv
   have he:=yAh he
   subst he
   split at h
   ·rename_i u' v' hu' hv'
    obtain ⟨a,ha,hk⟩:=za8 h
    refine OpK.one hk (op_slc (i:=u') (j:=v') (zaU j) h1 ?_ ?_ ha) rfl True.intro H
    ·cases lo with
     | none=>simp only [yAa] at hu; subst hu; simp only [intT,yAa] at hu'; subst hu'; rfl
     | some o=>exact hr.int hu hu'
    ·cases hi with
     | none=>simp only [yAa] at hv; subst hv; simp only [intT,yAa] at hv'; subst hv'; rfl
     | some o=>exact hr.int hv hv'
   ·simp at h
  ·simp at h
 ·rename_i j b vv n hx
  obtain ⟨h1,g⟩:=hr.c hx (by simp)
  split at h
  ·rename_i j2 l lv cv he hb
   have he:=yAh he
   subst he
   split at h
   ·rename_i u v hvv hu hv
    obtain ⟨rfl,rfl⟩:=own_row H g hb hvv
    split at h
    ·rename_i u' v' hu' hv'
     obtain ⟨a,ha,hk⟩:=za8 h
     have hb':=H.row hb
     refine ⟨.c (.os j2 b vv l.length u'.toNat (v'.toNat-u'.toNat)),σ,false,[],_,σD,op_slcO (l:=l) (i:=u') (j:=v') (zaU j2) h1 hb' ?_ ?_ ha,.inr rfl,?_,H,Ext.refl σ,fun _=>rfl,fun _=>⟨rfl,rfl,rfl⟩,hk⟩
     ·cases lo with
      | none=>simp only [yAa] at hu; subst hu; simp only [intT,yAa] at hu'; subst hu'; rfl
      | some o=>exact hr.int hu hu'
     ·cases hi with
      | none=>simp only [yAa] at hv; subst hv; simp only [intT,yAa] at hv'; subst hv'; rfl
      | some o=>exact hr.int hv hv'
     ·refine ⟨_,hb,fun j l' lv' cv' e=>?_⟩
      simp only [TB.row.injEq] at e
      obtain ⟨rfl,hl',rfl,rfl⟩:=e
      cases hl'
      have hvq:=yAh hvv
      unfold slice? at ha
      split at ha
      ·exact ⟨Nat.le_of_eq hvq.symm,fun _=>⟨rfl,rfl,by omega⟩⟩
      ·simp at ha
    ·simp at h
   ·simp at h
  ·simp at h
 ·simp at h
theorem tmkmap_ok (H:RH σ σD) (h:tOp P S hint .mkmap rd σ k=some r):Goal P orc n alD σ σD .mkmap k r:=by
 simp only [tOp] at h
 exact OpK.new (v:=.c (.d (.mp σ.length))) (d:=.mp σ.length) (blk:=.mp (hint / 2) (Nat.beq (hint % 2) 1) [] 0) (ob:=MB (mpE (hint / 2) (Nat.beq (hint % 2) 1)) []) (op_mkmap (g:=mpE (hint / 2) (Nat.beq (hint % 2) 1)) (by rw [H.len]) rfl) (Or.inr rfl) (by show D.low _ _=true; simp [D.low]) H rfl (fun w cs e=>by simp at e) h
theorem headD_er (j:Nat) (a:TT j):((exp j a).headD (.d (.c (.lit undef)))).er=.c ((enc j a).headD (.lit undef)):=by
 have h:=exp_er j a
 cases e1:exp j a with
 | nil =>
  rw [e1] at h
  cases e2:enc j a with
  | nil=>rfl
  | cons c cs=>rw [e2] at h; simp at h
 | cons x xs =>
  rw [e1] at h
  cases e2:enc j a with
  | nil=>rw [e2] at h; simp at h
  | cons c cs=>rw [e2] at h; simp only [yA3,yBn] at h; exact h.1
theorem mpV_ok (j:Nat) (st:Bool) (a:TT j):RT (mpV j st a) (mpE j st a)∧GV σ (mpV j st a):=by
 cases st with
 | true=>exact ⟨⟨_,rfl,by rw [←exp_er]; exact All2.er _⟩,exp_good j a⟩
 | false =>
  refine ⟨.inr ?_,?_⟩
  ·rw [headD_er]; rfl
  ·show GC σ ((exp j a).headD (.d (.c (.lit undef))))
   cases e:exp j a with
   | nil=>rfl
   | cons x xs=>exact exp_good j a x (by rw [e]; exact yAq ..)
theorem lkRes_ok {ok e:Bool} {v:TV} {d:D} (h:RT v d) (g:GV σ v) (hn:∀xs,v≠.tup xs):RT (lkRes ok v e) (if ok then .tup [d,B e] else d)∧GV σ (lkRes ok v e):=by
 cases ok with
 | false=>exact ⟨h,g⟩
 | true =>
  cases v with
  | tup xs=>exact absurd rfl (hn xs)
  | c x => exact ⟨⟨_, rfl, .cons ⟨x, rfl, h⟩ (.cons ⟨_, rfl, .inr rfl⟩ .nil)⟩, fun p hp y hy => by
    rcases yAt.1 hp with rfl | hp
    ·rcases yAt.1 hy with rfl | hy
     ·exact g
     ·simp at hy
    ·rcases yAt.1 hp with rfl | hp
     ·rcases yAt.1 hy with rfl | hy
      ·rfl
      ·simp at hy
     ·simp at hp⟩
  | agg xs=>exact ⟨⟨_,rfl,.cons h (.cons ⟨_,rfl,.inr rfl⟩ .nil)⟩,fun p hp y hy=>by
    rcases yAt.1 hp with rfl | hp
    ·exact g y hy
    ·rcases yAt.1 hp with rfl | hp
     ·rcases yAt.1 hy with rfl | hy
      ·rfl
      ·simp at hy
     ·simp at hp⟩
theorem mpV_nt (j:Nat) (st:Bool) (a:TT j):∀xs,mpV j st a≠.tup xs:=by
 intro xs h
 cases st <;> simp [mpV] at h
theorem ofD_nt (d:D):∀xs,ofD d≠.tup xs:=by
 intro xs h
 cases d <;> simp [ofD] at h
theorem ofD_okg {d:D} (h:d.low 0=true):RT (ofD d) d∧GV σ (ofD d):=by
 have one:∀d:D,d.low 0=true→RT (.c (.d d)) d∧GV σ (.c (.d d)):=fun d h=>⟨.inr rfl,D.low_mono (yB4 _) h⟩
 cases d with
 | agg ds =>
  simp only [D.low] at h
  refine ⟨⟨ds,rfl,All2.ds ds⟩,fun x hx=>?_⟩
  rw [yA4] at hx
  obtain ⟨y,hy,rfl⟩:=hx
  exact lows_mem h y hy
 | _=>exact one _ h
theorem tlookup_ok {kind:TypeDesc} {zero:D} {m kx:Opd} {ok:Bool} (hr:RdOk σ alD rd) (H:RH σ σD) (h:tOp P S hint (.lookup kind zero m kx ok) rd σ k=some r):Goal P orc n alD σ σD (.lookup kind zero m kx ok) k r:=by
 simp only [tOp] at h
 split at h
 ·rename_i ik b kv hm hk hz
  obtain ⟨h1,g⟩:=hr.c hm (by simp)
  split at h
  ·rename_i j st l v x hb hx
   obtain ⟨ob,e1,e2⟩:=H.hp b _ hb
   have e2:ob=MB (mpE j st) l:=e2
   subst e2
   cases hq:mget l x with
   | none =>
    rw [hq] at h
    obtain ⟨z1,z2⟩:=ofD_okg (σ:=σ) hz
    obtain ⟨q1,q2⟩:=lkRes_ok (ok:=ok) (e:=false) z1 z2 (ofD_nt zero)
    exact OpK.pure (op_lookN h1 e1 (hr.int hk hx) hq rfl) q1 q2 H h
   | some a =>
    rw [hq] at h
    obtain ⟨z1,z2⟩:=mpV_ok (σ:=σ) j st a
    obtain ⟨q1,q2⟩:=lkRes_ok (ok:=ok) (e:=true) z1 z2 (mpV_nt j st a)
    exact OpK.pure (op_look h1 e1 (hr.int hk hx) hq rfl) q1 q2 H h
  ·simp at h
 ·simp at h
theorem mkM_ok {j:Nat} {st:Bool} {v:TV} {d:D} {a:TT j} (h:mkM j st v=some a) (r:RT v d):d=mpE j st a:=by
 unfold mkM at h
 split at h
 ·rename_i xs
  obtain ⟨ds,rfl,hd⟩:=r
  obtain ⟨e1,e2⟩:=mkT_ok h
  rw [hd.eq e2,e1]
  rfl
 ·rename_i x
  obtain ⟨e1,e2⟩:=mkT_ok h
  have:=RT.c1 (e2 x (yAq ..)) r
  subst this
  cases e:enc j a with
  | nil=>rw [e] at e1; simp at e1
  | cons c cs =>
   rw [e] at e1
   simp only [yA3,yCh,yBn] at e1
   simp only [mpE,e,e1.1,List.headD_cons]
   rfl
 ·simp at h
theorem tupd_ok {kind:TypeDesc} {m kx x:Opd} (hr:RdOk σ alD rd) (H:RH σ σD) (h:tOp P S hint (.upd kind m kx x) rd σ k=some r):Goal P orc n alD σ σD (.upd kind m kx x) k r:=by
 simp only [tOp] at h
 split at h
 ·rename_i ik b kv v hm hk hx
  obtain ⟨h1,g⟩:=hr.c hm (by simp)
  obtain ⟨d,h2,h3,h4⟩:=hr _ _ hx
  split at h
  ·rename_i j st l ver i hb hi
   obtain ⟨ob,e1,e2⟩:=H.hp b _ hb
   have e2:ob=MB (mpE j st) l:=e2
   subst e2
   split at h
   ·rename_i a ha
    have:=mkM_ok ha h3
    subst this
    have hbe:BE (.mp j st l ver) (.mp j st (mset l i a) (ver+1)):=⟨_,_,_,_,rfl,by omega,fun e=>by omega⟩
    refine ⟨_,_,_,_,.tup [],σD.set b (MB (mpE j st) (mset l i a)),op_upd h1 e1 (hr.int hk hi) h2 rfl,rt0,?_,H.set hb hbe rfl (fun w cs e=>by simp at e),Ext.set hb hbe,fun _=>?_,fun e=>by simp [totOp] at e,h⟩
    ·intro p hp; simp at hp
    ·simp only [wrOk,List.all_cons,List.all_nil,yBl]
     rw [e1,zaE e1]
     rfl
   ·simp at h
  ·simp at h
 ·simp at h
theorem tdel_ok {kind:TypeDesc} {m kx:Opd} (hr:RdOk σ alD rd) (H:RH σ σD) (h:tOp P S hint (.del kind m kx) rd σ k=some r):Goal P orc n alD σ σD (.del kind m kx) k r:=by
 simp only [tOp] at h
 split at h
 ·rename_i ik b kv hm hk
  obtain ⟨h1,g⟩:=hr.c hm (by simp)
  split at h
  ·rename_i j st l ver i hb hi
   obtain ⟨ob,e1,e2⟩:=H.hp b _ hb
   have e2:ob=MB (mpE j st) l:=e2
   subst e2
   have hbe:BE (.mp j st l ver) (.mp j st (mdel l i) (ver+1)):=⟨_,_,_,_,rfl,by omega,fun e=>by omega⟩
   refine ⟨_,_,_,_,.tup [],σD.set b (MB (mpE j st) (mdel l i)),op_del h1 e1 (hr.int hk hi) rfl,rt0,?_,H.set hb hbe rfl (fun w cs e=>by simp at e),Ext.set hb hbe,fun _=>?_,fun e=>by simp [totOp] at e,h⟩
   ·intro p hp; simp at hp
   ·simp only [wrOk,List.all_cons,List.all_nil,yBl]
    rw [e1,zaE e1]
    rfl
  ·simp at h
 ·simp at h
theorem tlen_ok {x:Opd} (hr:RdOk σ alD rd) (H:RH σ σD) (h:tOp P S hint (.len x) rd σ k=some r):Goal P orc n alD σ σD (.len x) k r:=by
 simp only [tOp] at h
 split at h
 ·rename_i i l hx; obtain ⟨h1,g⟩:=hr.c hx (by simp); exact OpK.one h (op_len h1) rfl rfl H
 ·rename_i hx; obtain ⟨h1,g⟩:=hr.c hx (by simp); exact OpK.one h (op_len0 h1) rfl rfl H
 ·rename_i i b v q hx
  obtain ⟨h1,g⟩:=hr.c hx (by simp)
  split at h
  ·rename_i j l lv cv hb
   split at h
   ·rename_i hv
    obtain ⟨rfl,rfl⟩:=own_row H g hb hv
    exact OpK.one h (op_len_own (zaU _) h1 (H.row hb) rfl) rfl rfl H
   ·simp at h
  ·simp at h
 ·rename_i b off ln es sz hx
  obtain ⟨h1,g⟩:=hr.c hx (by simp)
  split at h
  ·rename_i w cs hb
   obtain ⟨ds,h2,h3,h4,_⟩:=H.cells hb
   split at h
   ·rename_i hc
    have e1:=yAh hc
    exact OpK.one h (op_lenS (cs:=ds) h1 (zdd h2 (by rw [h4]; exact e1)) rfl) rfl rfl H
   ·simp at h
  ·simp at h
 ·simp at h
theorem tmk_ok {es bytes:Nat} {z:List D} {x y:Opd} (hr:RdOk σ alD rd) (H:RH σ σD) (h:tOp P S hint (.mk es bytes z x y) rd σ k=some r):Goal P orc n alD σ σD (.mk es bytes z x y) k r:=by
 simp only [tOp] at h
 split at h
 ·rename_i z0 u v hc hz hu hv
  simp only [yAj] at hc
  have he:=yAh hc.1
  subst he
  split at h
  ·rename_i u' v' hu' hv'
   obtain ⟨l,hl,hk⟩:=za8 h
   obtain ⟨h3,_⟩:=mkT_ok hz
   have hz':z=(enc hint z0).map .c:=by rw [←h3]; simp [TC.er,Function.comp_def]
   refine OpK.new (v:=.c (.own hint σ.length 0 l.length)) (d:=OS (esz hint) σ.length l.length) (ob:=OB (enc hint) l) (op_mk (hr.int hu hu') (hr.int hv hv') hz' hl hc.2.1 (by rw [H.len]) rfl) (Or.inr rfl) (own_good (b:=0) rfl) H rfl (fun w cs e=>by simp at e) hk
  ·simp at h
 ·rename_i v hc hz hu hv
  simp only [yAj] at hc
  have he:=yAh hc.1
  subst he
  split at h
  ·rename_i v' hv'
   obtain ⟨l,hl,hk⟩:=za8 h
   refine OpK.new (v:=.c (.own hint σ.length 0 l.length)) (d:=OS (esz hint) σ.length l.length) (ob:=OB (enc hint) l) (op_mk0 (hr.int hu rfl) (hr.int hv hv') hl hc.2.1 (by rw [H.len]) rfl) (Or.inr rfl) (own_good (b:=0) rfl) H rfl (fun w cs e=>by simp at e) hk
  ·simp at h
 ·simp at h
theorem tapp_ok {es bytes:Nat} {s x:Opd} (hr:RdOk σ alD rd) (H:RH σ σD) (h:tOp P S hint (.append es bytes s x) rd σ k=some r):Goal P orc n alD σ σD (.append es bytes s x) k r:=by
 simp only [tOp] at h
 split at h
 ·rename_i i b v q y hs hx
  obtain ⟨h1,g⟩:=hr.c hs (by simp)
  obtain ⟨d,h2,h3,h4⟩:=hr _ _ hx
  split at h
  ·rename_i j l lv cv hb
   split at h
   ·rename_i l' m hc hl hm
    simp only [yAj] at hc
    have he:=yAh hc.2.1
    subst he
    obtain ⟨rfl,rfl⟩:=own_row H g hb hc.1
    have hb':=row_cast H hb hl
    rw [hb] at hb'
    simp only [yAa,TB.row.injEq,heq_eq_eq,yCq,yBL] at hb'
    subst hb'
    obtain ⟨rr,ha,hk⟩:=za8 h
    have hbe:BE (.row j l lv cv) (.row j rr (lv+1) (cv+1)):=⟨_,_,_,rfl,by omega,by omega,fun e=>by omega,fun e=>by omega⟩
    refine ⟨.c (.own j b (lv+1) rr.length),_,true,[b],OS (esz j) b rr.length,_,op_append (zaU j) h1 (H.row hb) rfl h2 (srcT_ok H hm h3 h4) ha hc.2.2 rfl rfl,Or.inr rfl,?_,H.set hb hbe rfl (fun w cs e=>by simp at e),Ext.set hb hbe,fun e=>by simp at e,fun e=>by simp [totOp] at e,hk⟩
    refine ⟨_,zaE hb,fun j' l' lv' cv' e=>?_⟩
    simp only [TB.row.injEq] at e
    obtain ⟨rfl,hl,rfl,rfl⟩:=e
    cases hl
    exact ⟨yAn _,fun _=>⟨rfl,rfl⟩⟩
   ·simp at h
  ·simp at h
 ·rename_i i b v q hs hx
  obtain ⟨h1,_⟩:=hr.c hs (by simp)
  obtain ⟨d,h2,h3,h4⟩:=hr _ _ hx
  split at h
  ·rename_i a l hc hm
   simp only [yAj] at hc
   have he:=yAh hc.1
   subst he
   split at h
   ·rename_i hle
    exact OpK.new (v:=.c (.own i σ.length 0 (a::l).length)) (d:=OS (esz i) σ.length (a::l).length) (ob:=OB (enc i) (a::l)) (op_appendN h1 h2 (srcT_ok H hm h3 h4) hle hc.2 (by rw [H.len]) rfl) (Or.inr rfl) (own_good (b:=0) rfl) H rfl (fun w cs e=>by simp at e) h
   ·simp at h
  ·simp at h
 ·rename_i i ll hs hx
  obtain ⟨h1,_⟩:=hr.c hs (by simp)
  obtain ⟨d,h2,h3,h4⟩:=hr _ _ hx
  split at h
  ·rename_i hc
   simp only [yAj] at hc
   have he:=yAh hc.1
   subst he
   rw [yAd] at h
   obtain ⟨rr,ha,h⟩:=h
   obtain ⟨hle,e⟩:=app_some ha
   rw [e] at h
   have hm:srcT i σ (.c (.sl i ll))=some ([]++ll):=by
    simp only [srcT,castL,List.nil_append]
    split
    ·rfl
    ·rename_i h _; exact absurd rfl h
   exact OpK.new (v:=.c (.own i σ.length 0 ([]++ll).length)) (d:=OS (esz i) σ.length ([]++ll).length) (ob:=OB (enc i) ([]++ll)) (op_appendN h1 h2 (srcT_ok H hm h3 h4) (Nat.ble_eq.mpr (by simpa using hle)) hc.2 (by rw [H.len]) rfl) (Or.inr rfl) (own_good (b:=0) rfl) H rfl (fun w cs e=>by simp at e) h
  ·simp at h
 ·simp at h
theorem tcopy1xok {es:Nat} {d s:Opd} {y:TV} {i b lo len:Nat} {l:List (TT i)} {m:List (TT i)} {lv cv:Nat} (hr:RdOk σ alD rd) (H:RH σ σD) (h1:lx alD d=some (.sl b (0+lo * esz i) len (esz i) (l.length * esz i))) (hx:rd s=some y) (hm:srcT i σ y=some m)
  (hb:σ[b]? = some (.row i l lv cv)) (hle:lo+len≤l.length) (he:es=esz i) (h:k (.c (.d (I ((m.take len).length:Int)))) (σ.set b (.row i (cpL l m lo len) lv (cv+1))) false [b]=some r):Goal P orc n alD σ σD (.copy es d s) k r:=by
 subst he
 obtain ⟨dd,h2,h3,h4⟩:=hr _ _ hx
 have hbe:BE (.row i l lv cv) (.row i (cpL l m lo len) lv (cv+1)):=⟨_,_,_,rfl,yAn _,by omega,fun _=>cpL_len hle,fun e=>by omega⟩
 refine ⟨.c (.d (I ((m.take len).length:Int))),_,false,[b],_,_,op_copy (zaU i) h1 (H.row hb) hle h2 (srcN_ok H hm h3 h4) rfl,.inr rfl,rfl,H.set hb hbe rfl (fun w cs e=>by simp at e),Ext.set hb hbe,fun _=>?_,fun e=>by simp [totOp] at e,h⟩
 simp only [wrOk,List.all_cons,List.all_nil,yBl]
 rw [H.row hb,zaE (H.row hb)]
 simp [Ob.sz,zbV (zaU i),cpL_len hle]
theorem tcopy_ok {es:Nat} {d s:Opd} (hr:RdOk σ alD rd) (H:RH σ σD) (h:tOp P S hint (.copy es d s) rd σ k=some r):Goal P orc n alD σ σD (.copy es d s) k r:=by
 simp only [tOp] at h
 split at h
 ·rename_i i b v q y hd hx
  obtain ⟨h1,g⟩:=hr.c hd (by simp)
  split at h
  ·rename_i j l lv cv hb
   split at h
   ·rename_i l' m hc hl hm
    simp only [yAj] at hc
    obtain ⟨rfl,rfl⟩:=own_row H g hb hc.1
    obtain ⟨_,rfl⟩:=zbw hl
    exact tcopy1xok (lo:=0) (len:=l'.length) hr H (by simpa [TC.er,OS] using h1) hx hm hb (by omega) (yAh hc.2) h
   ·simp at h
  ·simp at h
 ·rename_i i b v q lo len y hd hx
  obtain ⟨h1,g⟩:=hr.c hd (by simp)
  split at h
  ·rename_i j l lv cv hb
   split at h
   ·rename_i l' m hc hl hm
    simp only [yAj] at hc
    obtain ⟨rfl,rfl,hle⟩:=os_row H g hb hc.1
    obtain ⟨_,rfl⟩:=zbw hl
    exact tcopy1xok hr H h1 hx hm hb hle (yAh hc.2) h
   ·simp at h
  ·simp at h
 ·simp at h
theorem textract_ok {x:Opd} {i:Nat} (hr:RdOk σ alD rd) (H:RH σ σD) (h:tOp P S hint (.extract x i) rd σ k=some r):Goal P orc n alD σ σD (.extract x i) k r:=by
 simp only [tOp] at h
 split at h
 ·rename_i xs hx
  obtain ⟨d,h1,⟨ds,rfl,h2⟩,h3⟩:=hr _ _ hx
  split at h
  ·rename_i cs hi
   obtain ⟨d,h4,es,rfl,h5⟩:=h2.get _ _ hi
   exact OpK.pure (v:=.agg cs) (op_extract h1 h4) ⟨es,rfl,h5⟩ (h3 _ (yA1 hi)) H h
  ·rename_i c hi
   obtain ⟨d,h4,y,e,h5⟩:=h2.get _ _ hi
   simp only [yBn,yBL] at e
   subst e
   exact OpK.pure (v:=.c c) (op_extract h1 h4) h5 (h3 _ (yA1 hi) c (by simp)) H h
  ·simp at h
 ·simp at h
theorem fnD_ok:∀{vs:List TV} {xs:List D} {ds:List D},vs.mapM (fun v=>(match v with | .c (.d x)=>some x | _=>none))=some xs→All3 vs ds→(∀v∈vs,GV σ v)→ds=xs∧D.low.lows σ.length xs=true:=by
 intro vs
 induction vs with
 | nil=>intro xs ds h r _; simp only [List.mapM_nil] at h; cases h; cases r; exact ⟨rfl,rfl⟩
 | cons v vs ih =>
  intro xs ds h r g
  cases r with
  | cons h1 r =>
   rw [yAN] at h
   split at h
   ·rename_i x
    cases h2:vs.mapM (fun v=>(match v with | .c (.d x)=>some x | _=>none)) with
    | none=>rw [h2] at h; simp at h
    | some ys =>
     rw [h2] at h
     cases h
     obtain ⟨h3,h4⟩:=ih h2 r fun v hv=>g v (yAk _ hv)
     have h5:=RT.c1 (by simp) h1
     subst h3 h5
     refine ⟨rfl,?_⟩
     simp only [D.low.lows,h4,yBl]
     exact g _ (yAq ..)
   ·simp at h
theorem cvOf_ok {σ:TH} {xs:List TC} {cs:List CV} {ds:List D} (h:xs.mapM cvOf=some cs) (r:All2 RC xs ds) (g:∀x∈xs,GC σ x):ds=cs.map CV.er∧cs.all (CV.low σ.length)=true:=by
 induction r generalizing cs with
 | nil =>
  have:cs=[]:=by simpa using h.symm
  subst this; exact ⟨rfl,rfl⟩
 | @cons x d xs ds h1 r ih =>
  rw [yAN] at h
  cases hx:cvOf x with
  | none=>rw [hx] at h; simp at h
  | some c =>
   cases hs:xs.mapM cvOf with
   | none=>rw [hx,hs] at h; simp at h
   | some cs' =>
    rw [hx,hs] at h
    cases h
    obtain ⟨e1,e2⟩:=ih hs fun y hy=>g y (yAk _ hy)
    have gx:=g x (yAq ..)
    unfold cvOf at hx
    split at hx <;> cases hx
    ·have:=RT.c1 (x:=.d _) (by simp) h1
     subst this
     exact ⟨by rw [e1]; rfl,by simp only [List.all_cons,e2,yBl]; exact gx⟩
    ·have:=RT.c1 (x:=.b _) (by simp) h1
     subst this
     exact ⟨by rw [e1]; rfl,by simp only [List.all_cons,e2,yBl]; rfl⟩
    ·have:=RT.c1 (x:=.sl _ _) (by simp) h1
     subst this
     exact ⟨by rw [e1]; rfl,by simp only [List.all_cons,e2,yBl]; rfl⟩
theorem tmkfn_ok {f:Fn} {first cap:List Opd} (hr:RdOk σ alD rd) (H:RH σ σD) (h:tOp P S hint (.mkfn f first cap) rd σ k=some r):Goal P orc n alD σ σD (.mkfn f first cap) k r:=by
 simp only [tOp] at h
 split at h
 ·rename_i a b ha hb
  obtain ⟨ds,h1,h2,h3⟩:=hr.all ha
  obtain ⟨es,h4,h5,h6⟩:=hr.all hb
  split at h
  ·rename_i g cs hf
   unfold fnaOf at hf
   split at hf
   rotate_left
   ·simp at hf
   rename_i g' xs
   rw [yAe] at hf
   obtain ⟨cs',hc,e⟩:=hf
   simp only [yAc] at e
   obtain ⟨rfl,rfl⟩:=e
   cases h2 with
   | cons q1 q2 =>
    cases q2
    cases h5
    obtain ⟨ds',rfl,q3⟩:=q1
    obtain ⟨e1,e2⟩:=cvOf_ok hc q3 (h3 _ (yAq ..))
    subst e1
    exact OpK.one h (op_mkfn h1 h4) rfl e2 H
  split at h
  ·rename_i a' b' ha' hb'
   obtain ⟨rfl,h7⟩:=fnD_ok ha' h2 h3
   obtain ⟨rfl,h8⟩:=fnD_ok hb' h5 h6
   refine OpK.one h (op_mkfn h1 h4) rfl ?_ H
   show D.low _ _=true
   simp only [D.low,h7,h8,yBG]
  ·simp at h
 ·simp at h
theorem tpart_ok {off:Nat} {m:Option Nat} {x:Opd} (hr:RdOk σ alD rd) (H:RH σ σD) (h:tOp P S hint (.part off m x) rd σ k=some r):Goal P orc n alD σ σD (.part off m x) k r:=by
 simp only [tOp] at h
 split at h
 ·rename_i cs hx
  obtain ⟨d,h1,⟨ds,rfl,h2⟩,h3⟩:=hr _ _ hx
  split at h
  ·rename_i v hv
   obtain ⟨d,h4,h5⟩:=getT_ok hv h2
   exact OpK.pure (op_part h1 h4) h5 (getT_good hv h3) H h
  ·simp at h
 ·simp at h
theorem op_aidxR {len j es:Nat} {m:Option Nat} {x i:Opd} {q:Int} {cs:List D} {d:D} (h:lx alD x=some (.agg cs)) (hi:lx alD i=some (I q)) (hk:inR q len=some j) (hg:zaF m cs (j * es)=some d):OpR P orc n alD σD (.aidx es len m x i) d σD []:=fun e he=>by
 simp [zav,zaI he h,zaI he hi,za7,hk,hg]
theorem taidx_ok {es len:Nat} {m:Option Nat} {x i:Opd} (hr:RdOk σ alD rd) (H:RH σ σD) (h:tOp P S hint (.aidx es len m x i) rd σ k=some r):Goal P orc n alD σ σD (.aidx es len m x i) k r:=by
 simp only [tOp] at h
 split at h
 ·rename_i cs iv hx hi
  obtain ⟨d,h1,⟨ds,rfl,h2⟩,h3⟩:=hr _ _ hx
  split at h
  ·rename_i q hq
   split at h
   ·rename_i j hj
    split at h
    ·rename_i v hv
     obtain ⟨d,h4,h5⟩:=getT_ok hv h2
     exact OpK.pure (op_aidxR h1 (hr.int hi hq) hj h4) h5 (getT_good hv h3) H h
    ·simp at h
   ·simp at h
  ·rename_i q hq
   split at h
   ·rename_i l hs hl
    simp only [yAj] at hs
    have he:=yAh hs.1
    have hn:=yAh hs.2
    subst he
    obtain ⟨a,ha,hk⟩:=za8 h
    have h5:=ints_ok hl h2
    have hlen:l.length=len:=by rw [←hn,h2.len,h5,yA2]
    exact OpK.one hk (op_aidx (f:=fun z=>.c (.lit (.int .i64 z))) h1 (hr.int hi hq) ha h5 hlen) rfl rfl H
   ·simp at h
  ·simp at h
 ·simp at h
theorem tcall_ok {f:Opd} {args:List Opd} (hr:RdOk σ alD rd) (H:RH σ σD) (h:tOp P S hint (.call f args) rd σ k=some r):Goal P (zbZ (zcq S)) n alD σ σD (.call f args) k r:=by
 simp only [tOp] at h
 split at h
 ·rename_i g vs hf hvs
  obtain ⟨h1,_⟩:=hr.c hf (by simp)
  obtain ⟨ds,h2,h3,h4⟩:=hr.all hvs
  split at h
  ·rename_i s hs
   split at h
   ·rename_i a ha
    obtain ⟨q,hq,hk⟩:=za8 h
    exact OpK.pure (op_call h1 h2 (spc_ok hs h3 ha hq)) (outT_ok s.out q) (outT_good s.out q) H hk
   ·split at h
    ·rename_i a hc ha
     simp only [yAj] at hc
     obtain ⟨q,hq,hk⟩:=za8 h
     exact OpK.pure (op_call h1 h2 (spc_lend H hs h4 h3 hc.1 hc.2 ha hq)) (outT_ok s.out q) (outT_good s.out q) H hk
    ·simp at h
  ·simp at h
 ·simp at h
theorem tOp_ok (hr:RdOk σ alD rd) (H:RH σ σD) (h:tOp P S hint o rd σ k=some r):Goal P (zbZ (zcq S)) n alD σ σD o k r:=by
 cases o with
 | mov x =>
  simp only [tOp] at h
  split at h
  ·rename_i v hv
   obtain ⟨d,h1,h2,h3⟩:=hr _ _ hv
   exact OpK.pure (op_mov h1) h2 h3 H h
  ·simp at h
 | gen op ty=>exact genT_ok hr H h
 | box x=>exact tbox_ok hr H h
 | alloc z=>exact talloc_ok H h
 | build z ps=>exact tbuild_ok hr H h
 | bslice es len z ps=>exact tbslice_ok hr H h
 | load m x=>exact tload_ok hr H h
 | store m x y=>exact tstore_ok hr H h
 | nilck x=>exact tnilck_ok hr H h
 | isnil kd neg x=>exact tisnil_ok hr H h
 | fld off x=>exact tfld_ok hr H h
 | idx es len x i=>exact tidx_ok hr H h
 | slc es x lo hi=>exact tslc_ok hr H h
 | mkmap=>exact tmkmap_ok H h
 | lookup kind zero m kx ok=>exact tlookup_ok hr H h
 | upd kind m kx x=>exact tupd_ok hr H h
 | del kind m kx=>exact tdel_ok hr H h
 | len x=>exact tlen_ok hr H h
 | mk es bytes z x y=>exact tmk_ok hr H h
 | append es bytes s x=>exact tapp_ok hr H h
 | copy es d s=>exact tcopy_ok hr H h
 | extract x i=>exact textract_ok hr H h
 | mkfn f a b=>exact tmkfn_ok hr H h
 | part off m x=>exact tpart_ok hr H h
 | aidx es len m x i=>exact taidx_ok hr H h
 | call f args=>exact tcall_ok hr H h
 | _=>simp [tOp] at h
end
end Go.Abs
end
section
namespace Go.Abs
noncomputable section
variable [Gl] [Y:Ty]
def atP (p:Nat):TA→Option (Nat×RV)
 | []=>none
 | x::al=>if al.length=p then some x else atP p al
theorem atP_lt {p:Nat} {y:Nat×RV}:∀{al:TA},atP p al=some y→p<al.length:=by
 intro al
 induction al with
 | nil=>intro h; simp [atP] at h
 | cons x al ih =>
  intro h
  simp only [atP] at h
  split at h
  ·simp only [List.length_cons]; omega
  ·have:=ih h; simp only [List.length_cons]; omega
theorem atP_cons {p:Nat} {y z:Nat×RV} {al:TA} (h:atP p al=some y):atP p (z::al)=some y:=by
 have:=atP_lt h
 simp only [atP]
 rw [if_neg (by omega)]
 exact h
theorem atP_app {p:Nat} {y:Nat×RV} {al:TA} (h:atP p al=some y):∀(pre:TA),atP p (pre++al)=some y:=by
 intro pre
 induction pre with
 | nil=>exact h
 | cons z pre ih=>exact atP_cons ih
theorem lkP_at {t p:Nat} {x:RV}:∀{al:TA},lkP t al=some (x,p)→atP p al=some (t,x):=by
 intro al
 induction al with
 | nil=>intro h; simp [lkP] at h
 | cons y al ih =>
  intro h
  obtain ⟨s,z⟩:=y
  simp only [lkP] at h
  split at h
  ·rename_i hb
   have:=yAh hb
   subst this
   simp only [yAa,yAc] at h
   obtain ⟨rfl,rfl⟩:=h
   simp only [atP,if_true]
  ·exact atP_cons (ih h)
def GW (al:TA) (σ:TH):RV→Prop
 | .v x=>GV σ x
 | .g c w p x=>(∃t,atP p al=some (t,.v (.c (.b c))))∧(c=w→GV σ x)
theorem GW.mono {al:TA} {σ σ1:TH} (h:Ext σ σ1) (pre:TA) {x:RV} (g:GW al σ x):GW (pre++al) σ1 x:=by
 cases x with
 | v x=>exact GV.mono h g
 | g c w p x=>exact ⟨let ⟨t,ht⟩:=g.1; ⟨t,atP_app ht pre⟩,fun e=>(g.2 e).mono h⟩
structure Ref (al:TA) (σ:TH) (alD:AL) (σD:Heap):Prop where
 hh:RH σ σD
 rg:∀t x p,lkP t al=some (x,p)→∃d,lk t alD=some d∧RR x d∧GW al σ x
def KnOk (al:TA) (kn:Kn):Prop:=∀p b,knk p kn=some b→∀t e,atP p al=some (t,.v (.c (.b e)))→e=b
variable {P:Program} {n:Nat} {alD:AL} {σ σ1:TH} {σD σD1:Heap} {al:TA} {kn:Kn} {S:TSs}
theorem Ref.set {t:Nat} {x:RV} {d:D} (Rf:Ref al σ alD σD) (H:RH σ1 σD1) (he:Ext σ σ1) (hx:RR x d) (hg:GW ((t,x)::al) σ1 x):Ref ((t,x)::al) σ1 ((t,d)::alD) σD1:={
 hh:=H
 rg:=fun s y p h=>by
  simp only [lkP] at h
  simp only [lk]
  split at h
  ·rename_i hb
   simp only [yAa,yAc] at h
   obtain ⟨rfl,rfl⟩:=h
   try rw [hb]
   exact ⟨d,rfl,hx,hg⟩
  ·rename_i hb
   try rw [hb]
   obtain ⟨d',h1,h2,h3⟩:=Rf.rg s y p h
   exact ⟨d',h1,h2,h3.mono he [(t,x)]⟩ }
theorem Ref.heap (Rf:Ref al σ alD σD) (H:RH σ1 σD1) (he:Ext σ σ1):Ref al σ1 alD σD1:={
 hh:=H
 rg:=fun s y p h=>let ⟨d',h1,h2,h3⟩:=Rf.rg s y p h; ⟨d',h1,h2,h3.mono he []⟩ }
theorem KnOk.cons {z:Nat×RV} (h:KnOk al kn) (hp:∀p b,knk p kn=some b→p<al.length):KnOk (z::al) kn:=fun p b hk t e ha=>by
 refine h p b hk t e ?_
 have:=hp p b hk
 simp only [atP] at ha
 rw [if_neg (by omega)] at ha
 exact ha
def KnIn (al:TA) (kn:Kn):Prop:=∀p b,knk p kn=some b→p<al.length
theorem KnIn.cons {z:Nat×RV} (h:KnIn al kn):KnIn (z::al) kn:=fun p b hk=>by have:=h p b hk; simp only [List.length_cons]; omega
theorem KnOk.add {p:Nat} {b:Bool} (h:KnOk al kn) (hb:∀t e,atP p al=some (t,.v (.c (.b e)))→e=b):KnOk al ((p,b)::kn):=fun q c hk t e ha=>by
 simp only [knk] at hk
 split at hk
 ·rename_i hq
  have:=yAh hq
  simp only [yAa] at hk
  subst this hk
  exact hb t e ha
 ·exact h q c hk t e ha
theorem KnIn.add {p:Nat} {b:Bool} (h:KnIn al kn) (hb:p<al.length):KnIn al ((p,b)::kn):=fun q c hk=>by
 simp only [knk] at hk
 split at hk
 ·rename_i hq
  have:=yAh hq
  subst this
  exact hb
 ·exact h q c hk
theorem ofD_ok {d:D} (h:d.low 0=true):RT (ofD d) d∧GV σ (ofD d):=by
 unfold ofD
 split
 ·rename_i ds
  exact ⟨⟨ds,rfl,All2.ds ds⟩,ds_good h⟩
 ·exact ⟨.inr rfl,D.low_mono (yB4 _) h⟩
theorem rdO_ok (Rf:Ref al σ alD σD) (K:KnOk al kn) {cur:Option (Nat×Bool)} (hc:∀q w,cur=some (q,w)→∀t e,atP q al=some (t,.v (.c (.b e)))→e=w):RdOk σ alD (rdO al kn cur):=by
 intro x v h
 cases x with
 | k d =>
  simp only [rdO] at h
  split at h
  ·rename_i hl
   simp only [yAa] at h
   subst h
   exact ⟨d,rfl,(ofD_ok (σ:=σ) hl).1,(ofD_ok hl).2⟩
  ·simp at h
 | t s =>
  simp only [rdO] at h
  split at h
  ·rename_i y p hp
   simp only [yAa] at h
   subst h
   obtain ⟨d,h1,h2,h3⟩:=Rf.rg s _ p hp
   exact ⟨d,h1,h2,h3⟩
  ·rename_i c w p y q hp
   split at h
   ·rename_i ho
    simp only [yAa] at h
    subst h
    obtain ⟨d,h1,h2,h3⟩:=Rf.rg s _ q hp
    obtain ⟨⟨t,ht⟩,h4⟩:=h3
    have hcw:c=w:=by
     unfold opn at ho
     split at ho
     ·rename_i b hb
      have:=K p b hb t c ht
      rw [this]; exact eq_of_beq ho
     ·split at ho
      ·rename_i q' w'
       simp only [yAj] at ho
       have e1:=yAh ho.1
       have e2:w'=w:=eq_of_beq ho.2
       subst e1 e2
       exact hc _ _ rfl t c ht
      ·simp at ho
    simp only [RR,if_pos hcw] at h2
    exact ⟨d,h1,h2,h4 hcw⟩
   ·simp at h
  ·simp at h
theorem lkP_of_gd {t p:Nat} {x:RV} (Rf:Ref al σ alD σD) (h:lkP t al=some (x,p)):∃d,lk t alD=some d∧RR x d:=let ⟨d,h1,h2,_⟩:=Rf.rg t x p h; ⟨d,h1,h2⟩
theorem tGd_ok (Rf:Ref al σ alD σD) (K:KnOk al kn) (g:Option (Nat×Bool)):match tGd al kn g with
  | .opn=>Gd alD g true
  | .shut=>Gd alD g false
  | .sym e p w=>(∃t,atP p al=some (t,.v (.c (.b e))))∧(e=w→Gd alD g true)∧((!e)=w→Gd alD g false)
  | .spl e p=>∃t,atP p al=some (t,.v (.c (.b e)))
  | .res t x=>∃d,lk t alD=some d∧RT x d∧GV σ x
  | .bad=>True:=by
 cases g with
 | none=>exact zbq
 | some g =>
  obtain ⟨t,want⟩:=g
  simp only [tGd]
  cases hl:lkP t al with
  | none=>trivial
  | some q =>
   obtain ⟨x,p⟩:=q
   obtain ⟨d,h1,h2⟩:=lkP_of_gd Rf hl
   cases x with
   | g c w p' y =>
    dsimp only
    obtain ⟨d',h1',h2',⟨t',ht'⟩,h3'⟩:=Rf.rg t _ p hl
    cases hk:knk p' kn with
    | none=>exact ⟨t',ht'⟩
    | some b =>
     dsimp only
     by_cases hb:(b == w)=true
     ·rw [if_pos hb]
      have hcw:c=w:=by rw [K p' b hk t' c ht']; exact eq_of_beq hb
      simp only [RR,if_pos hcw] at h2'
      exact ⟨d',h1',h2',h3' hcw⟩
     ·rw [if_neg hb]
      have:=K p' b hk t' c ht'
      have hne:¬c=w:=fun e=>hb (by rw [←this,e]; exact yCb w)
      simp only [RR,if_neg hne] at h2
      subst h2
      exact gd_gone h1
   | v y =>
    dsimp only
    change RT y d at h2
    generalize hG:gdB kn want p y=G
    unfold gdB at hG
    split at hG
    ·have:=RT.c1 (by simp) h2
     subst this
     subst hG
     cases want
     ·exact gd_shut h1 rfl
     ·exact gd_open h1 rfl
    ·have:=RT.c1 (by simp) h2
     subst this
     subst hG
     cases want
     ·exact gd_open h1 rfl
     ·exact gd_shut h1 rfl
    ·have:=RT.c1 (by simp) h2
     subst this
     subst hG
     exact gd_gone h1
    ·rename_i e
     have:=RT.c1 (by simp) h2
     subst this
     have hat:=lkP_at hl
     cases hk:knk p kn with
     | none =>
      rw [hk] at hG
      subst hG
      refine ⟨⟨t,hat⟩,fun e'=>gd_open h1 e',fun e'=>gd_shut h1 ?_⟩
      rw [←e',Bool.not_not]
     | some b =>
      rw [hk] at hG
      dsimp only at hG
      have hb:=K p b hk t e hat
      by_cases hw:(b == want)=true
      ·rw [if_pos hw] at hG; subst hG; exact gd_open h1 (by rw [hb]; exact eq_of_beq hw)
      ·rw [if_neg hw] at hG
       subst hG
       refine gd_shut h1 ?_
       try rw [hb]
       cases b <;> cases want <;> simp_all
    ·subst hG; trivial
def iLe (a b:Info):Prop:=a.wr=b.wr∧a.dst=b.dst∧a.rds=b.rds∧a.lo=b.lo∧a.hi=b.hi∧(a.cat=0∨(a.cat=b.cat∧a.blk=b.blk))
theorem iLe.refl (a:Info):iLe a a:=⟨rfl,rfl,rfl,rfl,rfl,.inr ⟨rfl,rfl⟩⟩
theorem safe_mono {a b:Info} (h:iLe a b) {wr:List Nat} (hs:safe b wr=true):safe a wr=true:=by
 obtain ⟨_,_,_,_,_,h | ⟨h1,h2⟩⟩:=h
 ·simp [safe,h]
 ·simp only [safe,h1,h2] at hs ⊢; exact hs
theorem apart_mono {a b a' b':Info} (h:iLe a b) (h':iLe a' b') (hs:apart b b'=true):apart a a'=true:=by
 simp only [apart,yAj] at hs ⊢
 obtain ⟨⟨⟨⟨h1,h2⟩,h3⟩,h4,h5⟩,h6,h7⟩:=hs
 have e:=h; have e':=h'
 obtain ⟨e1,e2,e3,e4,e5,_⟩:=e
 obtain ⟨f1,f2,f3,f4,f5,_⟩:=e'
 refine ⟨⟨⟨⟨by rw [e2,f3]; exact h1,by rw [f2,e3]; exact h2⟩,by rw [e2,f2]; exact h3⟩,by rw [f1]; exact safe_mono h h4,by rw [e1]; exact safe_mono h' h5⟩,?_,?_⟩
 ·simp only [outside,e4,e5,f1] at h6 ⊢; exact h6
 ·simp only [outside,f4,f5,e1] at h7 ⊢; exact h7
theorem pairsOk_mono {bef:List Nat} {as bs:List Info} (h:All2 iLe as bs) (hp:pairsOk bef bs=true):pairsOk bef as=true:=by
 simp only [pairsOk,yAp,yBK,yAu] at hp ⊢
 intro j hj i hi
 rw [h.len] at hj
 rcases hp j hj i hi with h1 | h1
 ·exact .inl h1
 ·right
  have get:∀q,q<bs.length→iLe (as.getD q default) (bs.getD q default):=by
   intro q hq
   obtain ⟨a,h2,h3⟩:=h.get' q _ (yAi hq)
   rw [yAI,yAI,h2,yAi hq]
   exact h3
  exact apart_mono (get i (by omega)) (get j hj) h1
theorem ghOk_mono {bef pi:List Nat} {as bs:List Info} (h:All2 iLe as bs) (hp:ghOk bef pi bs=true):ghOk bef pi as=true:=by
 simp only [ghOk,yAp,yBK,yAu] at hp ⊢
 intro j hj i hi
 rw [h.len] at hj
 rcases hp j hj i hi with h1 | h1
 ·exact .inl h1
 ·right
  have get:∀q,q<bs.length→iLe (as.getD q default) (bs.getD q default):=by
   intro q hq
   obtain ⟨a,h2,h3⟩:=h.get' q _ (yAi hq)
   rw [yAI,yAI,h2,yAi hq]
   exact h3
  exact apart_mono (get i (by omega)) (get j hj) h1
theorem TrQ.mono {orc:Orc2} {k:Nat} {os:List AOper} {Q Q':AL→Heap→List Info→Prop} (h:TrQ P orc k os n alD σD Q) (hq:∀a s i,Q a s i→Q' a s i):TrQ P orc k os n alD σD Q':=by
 obtain ⟨a,s,i,h1,h2⟩:=h
 exact ⟨a,s,i,h1,hq _ _ _ h2⟩
theorem okT_ok (Rf:Ref al σ alD σD) {o:AOp} (h:okT al o=true):okA alD o=true:=by
 cases o with
 | load m x =>
  cases x with
  | k d=>rfl
  | t a =>
   simp only [okT,yAW] at h
   obtain ⟨⟨x,p⟩,hx⟩:=h
   obtain ⟨d,h1,_⟩:=lkP_of_gd Rf hx
   simp [okA,lx,h1]
 | _=>rfl
variable {R:Type}
theorem blk_of {rd:Opd→Option TV} {hint:Nat} {o:AOp} {k:KO R} {r:R} (hr:RdOk σ alD rd) (h:tOp P S hint o rd σ k=some r):okA alD o=true∧blkA alD o=blkT rd o:=by
 cases o with
 | load m x =>
  simp only [tOp] at h
  cases hx:rd x with
  | none=>rw [hx] at h; simp at h
  | some v =>
   obtain ⟨d,h1,h2,_⟩:=hr x v hx
   refine ⟨by simp [okA,h1],?_⟩
   simp only [blkA,blkT,h1,hx]
   cases v with
   | agg xs=>obtain ⟨ds,rfl,_⟩:=h2; rfl
   | tup xs=>obtain ⟨ds,rfl,_⟩:=h2; rfl
   | c y =>
    cases y with
    | any=>rw [hx] at h; simp at h
    | d z=>have:=RT.c1 (by simp) h2; subst this; cases d <;> rfl
    | _=>have:=RT.c1 (by simp) h2; subst this; rfl
 | _=>exact ⟨rfl,rfl⟩
def After (al:TA) (σ:TH) (K:KS R) (r:R) (alD':AL) (σD':Heap) (isD:List Info):Prop:=
 ∃al' σ' is,Ref al' σ' alD' σD'∧(∃pre,al'=pre++al)∧Ext σ σ'∧All2 iLe isD is∧K al' σ' is=some r
theorem After.cons {al al1:TA} {σ σ1:TH} {K:KS R} {r:R} {alD':AL} {σD' σD0:Heap} {isD:List Info} {i iD:Info} {pre:TA} (h:After al1 σ1 (fun al' σ' is=>K al' σ' (i::is)) r alD' σD' isD) (hp:al1=pre++al) (H:RH σ σD0) (he:Ext σ σ1) (hi:iLe iD i) :
  After al σ K r alD' σD' (iD::isD):=by
 obtain ⟨al',σ',is,h1,⟨pre',rfl⟩,h3,h4,h5⟩:=h
 exact ⟨_,σ',i::is,h1,⟨pre'++pre,by rw [hp,yAw]⟩,Ext.trans H he h3,.cons hi h4,h5⟩
theorem pk_ok {e:Bool} {u v:TV} {bu bv:BX} (hu:bxOf u=some bu) (hv:bxOf v=some bv) {d:D} (r:RT (if e then u else v) d):d=B (pk e bu bv):=by
 have key:∀{w:TV} {bw:BX},bxOf w=some bw→RT w d→d=B bw.val:=by
  intro w bw hw r
  unfold bxOf at hw
  split at hw
  ·simp only [yAa] at hw; subst hw; exact RT.c1 (by simp) r
  ·simp only [yAa] at hw; subst hw; exact RT.c1 (by simp) r
  ·simp only [yAa] at hw; subst hw; exact RT.c1 (by simp) r
  ·simp at hw
 cases e
 ·have:=key hv r
  rw [this]
  cases bu <;> cases bv <;> simp [pk,BX.val]
 ·have:=key hu r
  rw [this]
  cases bu <;> cases bv <;> simp [pk,BX.val]
theorem pkV_ok {σ:TH} (c:Bool) (x y:BX):RT (pkV c x y) (B (pk c x y))∧GV σ (pkV c x y):=by
 cases x <;> cases y <;> first | exact ⟨.inr rfl,True.intro⟩ | (cases c <;> exact ⟨.inr rfl,rfl⟩)
theorem tot_ok {o:AOp} {rd:Opd→Option TV} {v:TV} (hr:RdOk σ alD rd) (H:RH σ σD) (ht:totOp o=true) (h:tOp (R:=TV) P S 0 o rd σ (fun v _ _ _=>some v)=some v) :
  ∃d,OpR P (zbZ (zcq S)) n alD σD o d σD []∧RT v d∧GV σ v:=by
 obtain ⟨v',σ1,rs,wr,d,σD1,h1,h2,h3,_,_,_,h4,h5⟩:=tOp_ok (n:=n) hr H h
 obtain ⟨rfl,rfl,rfl⟩:=h4 ht
 simp only [yAa] at h5
 subst h5
 exact ⟨d,h1,h2,h3⟩
def selA:(cs:List CT)→altT cs→Option (Σ c:CT,tupI c.items)
 | [],_=>none
 | [c],x=>some ⟨c,x⟩
 | c :: d :: cs, x => match x with
  | .inl a=>some ⟨c,a⟩
  | .inr b=>selA (d::cs) b
theorem altK_sel {R:Type} {f:(c:CT)→tupI c.items→Option R} {r:R}:∀{cs:List CT} {x:altT cs},altK cs x f=some r→∃c a,selA cs x=some ⟨c,a⟩∧f c a=some r:=by
 intro cs
 induction cs with
 | nil=>intro x h; simp [altK] at h
 | cons c cs ih =>
  intro x h
  cases cs with
  | nil=>exact ⟨c,x,rfl,h⟩
  | cons d cs =>
   cases x with
   | inl a=>exact ⟨c,a,rfl,h⟩
   | inr b=>obtain ⟨c',a',h1,h2⟩:=ih (x:=b) h; exact ⟨c',a',h1,h2⟩
def ExOk (g:Cfg):Prop:=∀(ct:CT) (gi:FuncId) (vs:List TV) (σ:TH) (rv:List TV) (σ2:TH) (σD:Heap) (ds:List D),g.exa ct gi vs σ=some (rv,σ2)→RH σ σD→All3 vs ds→(∀v∈vs,GV σ v) →
 enterable g.P gi=true∧∃r σD2,RH σ2 σD2∧RT (oneT rv) r∧GV σ2 (oneT rv)∧Ext σ σ2∧Ok g.P gi ds σD r σD2∧(∀b,b<σD.length→σD2[b]? = σD[b]?)
def InlOk0 (g:Cfg):Prop:=∀(cs:List CT) (gi:FuncId) (vs:List TV) (σ:TH) (y:altT cs) (ct:CT) (x:tupI ct.items) (rv:List TV) (σ2:TH) (σD:Heap) (ds:List D),g.inl cs gi vs σ=some y→selA cs y=some ⟨ct,x⟩→putI ct σ x=some (rv,σ2)→RH σ σD→All3 vs ds→(∀v∈vs,GV σ v) →
 enterable g.P gi=true∧∃r σD2,RH σ2 σD2∧RT (oneT rv) r∧GV σ2 (oneT rv)∧Ext σ σ2∧Ok g.P gi ds σD r σD2∧(∀b,b<σD.length→b∉ct.pl.map PC.blk→σD2[b]? = σD[b]?)∧(ct.pl.any PC.rs=false→wrOk σD σD2 (ct.pl.map PC.blk)=true)
structure InlOk (g:Cfg):Prop where
 one:InlOk0 g
 two:ExOk g
theorem evTr_congr {oz oz':Orc2}:∀(os:List AOper) (k:Nat) (e:List D) (σ:Heap),(∀o∈os,oz o.dst=oz' o.dst)→evTr P oz k os e σ=evTr P oz' k os e σ:=by
 intro os
 induction os with
 | nil=>intro k e σ _; rfl
 | cons o os ih =>
  intro k e σ h
  have h1:evOper P oz o e σ=evOper P oz' o e σ:=by
   unfold evOper
   rw [h o (yAq ..)]
  simp only [evTr,h1]
  split
  ·split
   ·rw [ih _ _ _ fun o ho=>h o (yAk _ ho)]
   ·rfl
  ·rfl
theorem TrQ.congr {oz oz':Orc2} {k:Nat} {os:List AOper} {Q:AL→Heap→List Info→Prop} (h:∀o∈os,oz o.dst=oz' o.dst) (t:TrQ P oz k os n alD σD Q):TrQ P oz' k os n alD σD Q:=by
 obtain ⟨a,s,i,h1,h2⟩:=t
 refine ⟨a,s,i,fun e he=>?_,h2⟩
 obtain ⟨e',h3,h4⟩:=h1 e he
 exact ⟨e',by rw [←evTr_congr os k e σD h]; exact h3,h4⟩
theorem All3.app {vs ws:List TV} {ds es:List D} (h:All3 vs ds) (h':All3 ws es):All3 (vs++ws) (ds++es):=by
 induction h with
 | nil=>exact h'
 | cons h _ ih=>exact .cons h ih
theorem ofD_rt (d:D):RT (ofD d) d:=by
 unfold ofD
 split
 ·rename_i ds; exact ⟨ds,rfl,All2.ds ds⟩
 ·exact .inr rfl
theorem ofD_gv {d:D} (h:d.low σ.length=true):GV σ (ofD d):=by
 unfold ofD
 split
 ·rename_i ds
  intro x hx
  rw [yA4] at hx
  obtain ⟨y,hy,rfl⟩:=hx
  obtain ⟨i,hi⟩:=yBw hy
  exact D.lows_get h i y hi
 ·exact h
theorem ofDs_rt:∀(ds:List D),All3 (ds.map ofD) ds:=by
 intro ds
 induction ds with
 | nil=>exact .nil
 | cons d ds ih=>exact .cons (ofD_rt d) ih
theorem fnT_ok {v:TV} {d:D} {gi:FuncId} {a b:List TV} (h:fnT v=some (gi,a,b)) (r:RT v d) (g:GV σ v):∃da db,All3 a da∧All3 b db∧(∀v∈a,GV σ v)∧(∀v∈b,GV σ v) ∧
  ∀(orc:Orc) (f:Opd) (args:List Opd) (ds:List D) (r:D) (σD1:Heap) (w:List Nat),lx alD f=some d→lxs alD args=some ds→orc gi (da++ds++db) σD=some (r,σD1,w)→OpR P orc n alD σD (.call f args) r σD1 w:=by
 unfold fnT at h
 split at h
 ·rename_i g' x y
  simp only [yAa,yAc] at h
  obtain ⟨rfl,rfl,rfl⟩:=h
  have:=RT.c1 (by simp) r
  subst this
  refine ⟨x.map .c,y.map .c,?_,?_,fun v hv=>?_,fun v hv=>?_,fun orc f args ds r σD1 w h1 h2 h3=>op_callc h1 h2 h3⟩
  ·have:=ofDs_rt (x.map D.c); rw [yBF] at this; exact this
  ·have:=ofDs_rt (y.map D.c); rw [yBF] at this; exact this
  ·rw [yA4] at hv; obtain ⟨z,_,rfl⟩:=hv; exact ofD_gv rfl
  ·rw [yA4] at hv; obtain ⟨z,_,rfl⟩:=hv; exact ofD_gv rfl
 ·rename_i g' x y
  simp only [yAa,yAc] at h
  obtain ⟨rfl,rfl,rfl⟩:=h
  have:=RT.c1 (by simp) r
  subst this
  have gl:D.low.lows σ.length x=true∧D.low.lows σ.length y=true:=by
   have:(D.low σ.length (.fn (.func g') x y))=true:=g
   simpa [D.low] using this
  refine ⟨x,y,ofDs_rt x,ofDs_rt y,fun v hv=>?_,fun v hv=>?_,fun orc f args ds r σD1 w h1 h2 h3=>op_callf h1 h2 h3⟩
  ·rw [yA4] at hv; obtain ⟨z,hz,rfl⟩:=hv
   obtain ⟨i,hi⟩:=yBw hz
   exact ofD_gv (D.lows_get gl.1 i z hi)
  ·rw [yA4] at hv; obtain ⟨z,hz,rfl⟩:=hv
   obtain ⟨i,hi⟩:=yBw hz
   exact ofD_gv (D.lows_get gl.2 i z hi)
 ·rename_i g' xs
  simp only [yAa,yAc] at h
  obtain ⟨rfl,rfl,rfl⟩:=h
  have:=RT.c1 (x:=.fna _ _) (by simp) r
  subst this
  have gl:xs.all (CV.low σ.length)=true:=g
  have rr:All2 RC (xs.map cvT) (xs.map CV.er):=by
   clear gl g r
   induction xs with
   | nil=>exact .nil
   | cons x xs ih=>exact .cons (.inr (by cases x <;> rfl)) ih
  refine ⟨[.agg (xs.map CV.er)],[],.cons ⟨_,rfl,rr⟩ .nil,.nil,fun v hv=>?_,fun v hv=>by simp at hv,fun orc f args ds r σD1 w h1 h2 h3=>op_callf h1 h2 h3⟩
  rw [yAO] at hv
  subst hv
  intro y hy
  rw [yA4] at hy
  obtain ⟨x,hx,rfl⟩:=hy
  have:=yAp.1 gl x hx
  cases x with
  | d x=>exact this
  | b e=>exact True.intro
  | sl i l=>exact True.intro
 ·simp at h
theorem inlU_of {g:Cfg} {q:Nat} {os:List AOper} (h:inlR g q os=true):inlU g q os=true:=by
 unfold inlR at h
 split at h
 ·rename_i hc
  have:∀o,inlOf g q o=none:=fun o=>by simp only [inlOf,hc]
  clear h
  induction os with
  | nil=>rfl
  | cons o os ih=>simp only [inlU,this,ih,yBl]; simp
 ·exact h
def TrE (g:Cfg) (q k:Nat) (os:List AOper) (alD:AL) (σD:Heap) (Q:AL→Heap→List Info→Prop):Prop:=
 ∃oz,zaV g.P oz∧(∀t,(∀o∈os,(inlOf g q o).isSome=true→o.dst≠t)→oz t=zbZ (zcq g.S))∧TrQ g.P oz k os g.n alD σD Q
section
variable {g:Cfg} {q k:Nat} {os:List AOper} {alD:AL} {σD σD1:Heap} {Q Q':AL→Heap→List Info→Prop} {t:Nat} {ao:AOp} {gd:Option (Nat×Bool)} {d:D} {w:List Nat}
theorem TrE.mono (h:TrE g q k os alD σD Q) (hq:∀a s i,Q a s i→Q' a s i):TrE g q k os alD σD Q':=by
 obtain ⟨oz,h1,h2,h3⟩:=h
 exact ⟨oz,h1,h2,h3.mono hq⟩
theorem inlU_tail {o:AOper} (h:inlU g q (o::os)=true):inlU g q os=true:=by
 simp only [inlU,yAj] at h; exact h.2
theorem inlU_ne {o:AOper} (h:inlU g q (o::os)=true) (hn:inlOf g q o=none) {t:Nat} (ht:o.dst=some t):∀o'∈os,(inlOf g q o').isSome=true→o'.dst≠some t:=by
 intro o' ho hi e
 simp only [inlU,hn,yAj,yAv] at h
 have:=h.1
 rw [yCm] at this
 have:=this o' ho
 simp [sameD,ht,e,hi] at this
theorem inlU_one {o:AOper} {ct:List CT} (h:inlU g q (o::os)=true) (hn:inlOf g q o=some ct) {t:Nat} (ht:o.dst=some t):∀o'∈os,o'.dst≠some t:=by
 intro o' ho e
 simp only [inlU,hn,yAj,yAv] at h
 have:=h.1
 rw [yCm] at this
 have:=this o' ho
 simp [sameD,ht,e] at this
theorem TrE.op (hU:inlU g q (⟨some t,ao,gd⟩::os)=true) (hn:inlOf g q ⟨some t,ao,gd⟩=none) (h:OpR g.P (zbZ (zcq g.S)) g.n alD σD ao d σD1 w) (hg:Gd alD gd true) (hs:(Nat.blt t g.n&&okA alD ao&&(k == 0 || wrOk σD σD1 w))=true)
  (r:TrE g q (k-1) os ((t,d)::alD) σD1 fun al' σ' is=>Q al' σ' (mkI ⟨some t,ao,gd⟩ (cat ao) (blkA alD ao) w σD.length σD1.length::is)):TrE g q k (⟨some t,ao,gd⟩::os) alD σD Q:=by
 obtain ⟨oz,h1,h2,h3⟩:=r
 refine ⟨oz,h1,fun t' ht'=>h2 t' fun o ho=>ht' o (yAk _ ho),TrQ.op ?_ hg hs h3⟩
 rw [h2 (some t) (inlU_ne hU hn rfl)]
 exact h
theorem TrE.eff (h:OpR g.P (zbZ (zcq g.S)) g.n alD σD ao d σD1 w) (hg:Gd alD gd true) (hs:(okA alD ao&&(k == 0 || wrOk σD σD1 w))=true)
  (r:TrE g q (k-1) os alD σD1 fun al' σ' is=>Q al' σ' (mkI ⟨none,ao,gd⟩ (cat ao) (blkA alD ao) w σD.length σD1.length::is)):TrE g q k (⟨none,ao,gd⟩::os) alD σD Q:=by
 obtain ⟨oz,h1,h2,h3⟩:=r
 refine ⟨oz,h1,fun t' ht'=>h2 t' fun o ho=>ht' o (yAk _ ho),TrQ.eff (d:=d) ?_ hg hs h3⟩
 rw [h2 none fun o ho hi e=>by
  unfold inlOf at hi
  split at hi
  ·simp at hi
  ·split at hi
   ·rename_i e2; rw [e] at e2; simp at e2
   ·simp at hi]
 exact h
theorem TrE.no (hg:Gd alD gd false) (hs:(Nat.blt t g.n&&okA alD ao)=true)
  (r:TrE g q (k-1) os ((t,.tup [])::alD) σD fun al' σ' is=>Q al' σ' (mkI ⟨some t,ao,gd⟩ 0 (blkA alD ao) [] σD.length σD.length::is)):TrE g q k (⟨some t,ao,gd⟩::os) alD σD Q:=by
 obtain ⟨oz,h1,h2,h3⟩:=r
 exact ⟨oz,h1,fun t' ht'=>h2 t' fun o ho=>ht' o (yAk _ ho),TrQ.no hg hs h3⟩
theorem TrE.inl {ct:List CT} {gi:FuncId} {ds:List D} {wr:List Nat} (O:OrcOk g.P (zbZ (zcq g.S))) (hU:inlU g q (⟨some t,ao,gd⟩::os)=true) (hn:inlOf g q ⟨some t,ao,gd⟩=some ct) (hg:Gd alD gd true)
  (he:enterable g.P gi=true) (ok:Ok g.P gi ds σD d σD1) (hle:σD.length≤σD1.length) (hfr:∀b,b<σD.length→b∉wr→σD1[b]? = σD[b]?)
  (hop:∀(orc:Orc),orc gi ds σD=some (d,σD1,wr)→OpR g.P orc g.n alD σD ao d σD1 wr) (hs:(Nat.blt t g.n&&okA alD ao&&(k == 0 || wrOk σD σD1 wr))=true)
  (r:TrE g q (k-1) os ((t,d)::alD) σD1 fun al' σ' is=>Q al' σ' (mkI ⟨some t,ao,gd⟩ (cat ao) (blkA alD ao) wr σD.length σD1.length::is)):TrE g q k (⟨some t,ao,gd⟩::os) alD σD Q:=by
 classical
 obtain ⟨oz,h1,h2,h3⟩:=r
 let ent:Orc:=fun g' ds' σ'=>if g'=gi∧ds'=ds∧σ'=σD then some (d,σD1,wr) else none
 let oz':Orc2:=fun t'=>if t'=some t then ent else oz t'
 refine ⟨oz',fun t'=>?_,fun t' ht'=>?_,TrQ.op (hop _ ?_) hg hs (h3.congr fun o ho=>?_)⟩
 ·show OrcOk g.P (if t'=some t then ent else oz t')
  split
  ·intro g' ds' σ' r σ2 wr' h
   simp only [ent] at h
   split at h
   ·rename_i hc
    obtain ⟨rfl,rfl,rfl⟩:=hc
    simp only [yAa,yAc] at h
    obtain ⟨rfl,rfl,rfl⟩:=h
    exact ⟨he,ok,hle,hfr⟩
   ·simp at h
  ·exact h1 t'
 ·show (if t'=some t then ent else oz t')=_
  rw [if_neg (fun e=>ht' _ (yAq ..) (by rw [hn]; rfl) e.symm)]
  exact h2 t' fun o ho=>ht' o (yAk _ ho)
 ·show (if some t=some t then ent else oz (some t)) gi ds σD=_
  rw [if_pos rfl]
  simp only [ent,and_self,if_true]
 ·show oz o.dst=if o.dst=some t then ent else oz o.dst
  rw [if_neg (inlU_one hU hn rfl o ho)]
end
theorem tot_inl {g:Cfg} {q:Nat} {t:Option Nat} {ao:AOp} {gd:Option (Nat×Bool)} (h:totOp ao=true):inlOf g q ⟨t,ao,gd⟩=none:=by
 unfold inlOf
 split
 ·rfl
 ·cases ao <;> first | rfl | simp [totOp] at h
theorem tOps_ok (g:Cfg) (q:Nat) (O:OrcOk g.P (zbZ (zcq g.S))) (hI:InlOk g):∀(fu k:Nat) (os:List AOper) (kn:Kn) (al:TA) (σ:TH) (K:KS R) (r:R) (alD:AL) (σD:Heap),tOps g q fu k os kn al σ K=some r→inlU g q os=true→Ref al σ alD σD→KnOk al kn→KnIn al kn →
  TrE g q k os alD σD (After al σ K r):=by
 intro fu
 induction fu with
 | zero=>intro k os kn al σ K r alD σD h; simp [tOps] at h
 | succ fu ih =>
  intro k os kn al σ K r alD σD h hU Rf Kn Ki
  cases os with
  | nil =>
   simp only [tOps] at h
   exact ⟨fun _=>zbZ (zcq g.S),fun _=>O,fun t _=>rfl,TrQ.nil ⟨al,σ,[],Rf,⟨[],rfl⟩,Ext.refl σ,.nil,h⟩⟩
  | cons o os =>
   simp only [tOps] at h
   have hU':=inlU_tail hU
   split at h
   ·simp at h
   rename_i hn
   obtain ⟨dst,op,gd⟩:=o
   have G:=tGd_ok Rf Kn gd
   dsimp only at h hn
   have splitc:∀(e:Bool) (p:Nat),(∃t,atP p al=some (t,.v (.c (.b e))))→(if e=true then tOps g q fu k (⟨dst,op,gd⟩::os) ((p,true)::kn) al σ K else tOps g q fu k (⟨dst,op,gd⟩::os) ((p,false)::kn) al σ K)=some r →
     TrE g q k (⟨dst,op,gd⟩::os) alD σD (After al σ K r):=by
    intro e p ⟨t,ht⟩ h
    have add:∀b,e=b→KnOk al ((p,b)::kn):=fun b hb=>Kn.add fun t' e' ht'=>by
     rw [ht] at ht'
     simp only [yAa,yAc,RV.v.injEq,TV.c.injEq,TC.b.injEq] at ht'
     rw [←ht'.2,hb]
    split at h
    ·rename_i he; exact ih _ _ _ _ _ _ _ _ _ h hU Rf (add true he) (Ki.add (atP_lt ht))
    ·rename_i he; exact ih _ _ _ _ _ _ _ _ _ h hU Rf (add false (by simpa using he)) (Ki.add (atP_lt ht))
   cases hg:tGd al kn gd with
   | bad=>rw [hg] at h; simp at h
   | spl e p =>
    rw [hg] at h G
    exact splitc e p G h
   | res t x =>
    rw [hg] at h G
    obtain ⟨d,h1,h2,h3⟩:=G
    have R1:Ref ((t,.v x)::al) σ alD σD:=⟨Rf.hh,fun s y p hs=>by
     simp only [lkP] at hs
     split at hs
     ·rename_i hb
      have:=yAh hb
      subst this
      simp only [yAa,yAc] at hs
      obtain ⟨rfl,rfl⟩:=hs
      exact ⟨d,h1,h2,h3⟩
     ·obtain ⟨d',g1,g2,g3⟩:=Rf.rg s y p hs
      exact ⟨d',g1,g2,g3.mono (Ext.refl σ) [(t,.v x)]⟩⟩
    refine (ih _ _ _ _ _ _ _ alD σD h hU R1 (Kn.cons Ki) Ki.cons).mono fun a s i hA=>?_
    obtain ⟨al',σ',is,a1,⟨pre,rfl⟩,a3,a4,a5⟩:=hA
    exact ⟨_,σ',is,a1,⟨pre++[(t,.v x)],by rw [yAw]; rfl⟩,a3,a4,a5⟩
   | shut =>
    rw [hg] at h G
    dsimp only at h G
    cases dst with
    | none=>simp at h
    | some t =>
     dsimp only at h hn
     split at h
     ·simp at h
     rename_i hok
     change Nat.blt t g.n=true at hn
     have hok':=okT_ok Rf hok
     refine TrE.no G (by rw [hn,hok']; rfl) ?_
     refine (ih _ _ _ _ _ _ _ ((t,.tup [])::alD) σD h hU' (Rf.set Rf.hh (Ext.refl σ) (.inr rfl) ?_) (Kn.cons Ki) Ki.cons).mono fun a s i hA=>?_
     ·show D.low _ _=true
      rfl
     ·refine hA.cons (pre:=[(t,.v (.c (.d (.tup []))))]) rfl Rf.hh (Ext.refl σ) ?_
      rw [Rf.hh.len]
      exact ⟨rfl,rfl,rfl,rfl,rfl,.inl rfl⟩
   | sym e p w =>
    rw [hg] at h G
    dsimp only at h G
    obtain ⟨⟨t0,ht0⟩,G1,G2⟩:=G
    split at h
    ·rename_i t htot
     change Nat.blt t g.n=true at hn
     split at h
     ·rename_i v hv
      have okc:okT al op=true:=by
       cases op with
       | load m x =>
        cases x with
        | k d=>rfl
        | t a =>
         simp only [okT]
         simp only [tOp] at hv
         cases hx:rdO al kn (some (p,w)) (.t a) with
         | none=>rw [hx] at hv; simp at hv
         | some q =>
          simp only [rdO] at hx
          cases hq:lkP a al with
          | none=>rw [hq] at hx; simp at hx
          | some q=>rfl
       | _=>rfl
      have hok':=okT_ok Rf okc
      by_cases he:e=w
      ·have hr:RdOk σ alD (rdO al kn (some (p,w))):=rdO_ok Rf Kn fun q w' e' t e2 h2=>by
        simp only [yAa,yAc] at e'
        obtain ⟨rfl,rfl⟩:=e'
        rw [ht0] at h2
        simp only [yAa,yAc,RV.v.injEq,TV.c.injEq,TC.b.injEq] at h2
        rw [←h2.2,he]
       obtain ⟨d,h1,h2,h3⟩:=tot_ok (n:=g.n) hr Rf.hh htot hv
       obtain ⟨b1,b2⟩:=blk_of hr hv
       refine TrE.op hU (tot_inl htot) h1 (G1 he) (by rw [hn,b1]; simp [wrOk]) ?_
       refine (ih _ _ _ _ _ _ _ ((t,d)::alD) σD h hU' (Rf.set Rf.hh (Ext.refl σ) (by simp only [RR,if_pos he]; exact h2) ⟨⟨t0,atP_cons ht0⟩,fun _=>h3⟩) (Kn.cons Ki) Ki.cons).mono fun a s i hA=>?_
       refine hA.cons (pre:=[(t,.g e w p v)]) rfl Rf.hh (Ext.refl σ) ?_
       rw [Rf.hh.len,b2]
       exact iLe.refl _
      ·have he':(!e)=w:=by cases e <;> cases w <;> simp_all
       refine TrE.no (G2 he') (by rw [hn,hok']; rfl) ?_
       refine (ih _ _ _ _ _ _ _ ((t,.tup [])::alD) σD h hU' (Rf.set Rf.hh (Ext.refl σ) (by simp only [RR,if_neg he]) ⟨⟨t0,atP_cons ht0⟩,fun e'=>absurd e' he⟩) (Kn.cons Ki) Ki.cons).mono fun a s i hA=>?_
       refine hA.cons (pre:=[(t,.g e w p v)]) rfl Rf.hh (Ext.refl σ) ?_
       rw [Rf.hh.len]
       exact ⟨rfl,rfl,rfl,rfl,rfl,.inl rfl⟩
     ·simp at h
    ·exact splitc e p ⟨t0,ht0⟩ h
   | opn =>
    rw [hg] at h G
    dsimp only at h G
    cases hin:inlOf g q ⟨dst,op,gd⟩ with
    | some cs =>
     rw [hin] at h
     dsimp only at h
     have hr:RdOk σ alD (rdO al kn none):=rdO_ok Rf Kn (by simp)
     cases op with
     | call f args =>
      dsimp only at h
      split at h
      ·rename_i fv vs hfv hvs
       split at h
       ·rename_i gi a b hfn
        split at h
        ·rename_i ct hct
         obtain ⟨⟨rv,σ1⟩,hy,h⟩:=za8 h
         obtain ⟨df,f1,f2,f3⟩:=hr _ _ hfv
         obtain ⟨ds,v1,v2,v3⟩:=hr.all hvs
         obtain ⟨da,db,a1,b1,ga,gb,hop⟩:=fnT_ok (P:=g.P) (n:=g.n) (alD:=alD) (σD:=σD) hfn f2 f3
         obtain ⟨he,r',σD2,q1,q2,q3,q4,q5,q6⟩:=hI.two ct gi _ σ rv σ1 σD _ hy Rf.hh ((a1.app v2).app b1) (fun v hv=>by
           rcases yA7.1 hv with hv | hv
           ·rcases yA7.1 hv with hv | hv
            ·exact ga v hv
            ·exact v3 v hv
           ·exact gb v hv)
         cases dst with
         | none=>unfold inlOf at hin; split at hin <;> simp at hin
         | some t =>
          change Nat.blt t g.n=true at hn
          refine TrE.inl (wr:=[]) O hU hin G he q5 (by rw [Rf.hh.len,q1.len]; exact q4.len) (fun b hb _=>q6 b hb) (fun orc ho=>hop orc _ _ _ _ _ _ f1 v1 ho) (by rw [hn]; simp [okA,wrOk]) ?_
          refine (ih _ _ _ _ _ _ _ ((t,r')::alD) σD2 h hU' (Rf.set q1 q4 q2 q3) (Kn.cons Ki) Ki.cons).mono fun a s i hA=>?_
          refine hA.cons (pre:=[(t,.v (oneT rv))]) rfl Rf.hh q4 ?_
          rw [Rf.hh.len,q1.len]
          exact iLe.refl _
        obtain ⟨y,hy,h⟩:=za8 h
        obtain ⟨ct,x,hsel,h⟩:=altK_sel h
        split at h
        ·rename_i rv σ1 hput
         split at h
         ·rename_i hk
          obtain ⟨df,f1,f2,f3⟩:=hr _ _ hfv
          obtain ⟨ds,v1,v2,v3⟩:=hr.all hvs
          obtain ⟨da,db,a1,b1,ga,gb,hop⟩:=fnT_ok (P:=g.P) (n:=g.n) (alD:=alD) (σD:=σD) hfn f2 f3
          obtain ⟨he,r',σD2,q1,q2,q3,q4,q5,q6,q7⟩:=hI.one _ gi _ σ y ct x rv σ1 σD _ hy hsel hput Rf.hh ((a1.app v2).app b1) (fun v hv=>by
           rcases yA7.1 hv with hv | hv
           ·rcases yA7.1 hv with hv | hv
            ·exact ga v hv
            ·exact v3 v hv
           ·exact gb v hv)
          cases dst with
          | none=>unfold inlOf at hin; split at hin <;> simp at hin
          | some t =>
           change Nat.blt t g.n=true at hn
           have hwr:(k == 0 || wrOk σD σD2 (ct.pl.map PC.blk))=true:=by
            simp only [yAu] at hk ⊢
            rcases hk with hk | hk
            ·left; rw [yAh hk]; rfl
            ·right; exact q7 (by simpa using hk)
           refine TrE.inl O hU hin G he q5 (by rw [Rf.hh.len,q1.len]; exact q4.len) q6 (fun orc ho=>hop orc _ _ _ _ _ _ f1 v1 ho) (by rw [hn,hwr]; rfl) ?_
           refine (ih _ _ _ _ _ _ _ ((t,r')::alD) σD2 h hU' (Rf.set q1 q4 q2 q3) (Kn.cons Ki) Ki.cons).mono fun a s i hA=>?_
           refine hA.cons (pre:=[(t,.v (oneT rv))]) rfl Rf.hh q4 ?_
           rw [Rf.hh.len,q1.len]
           exact iLe.refl _
         ·simp at h
        ·simp at h
       ·simp at h
      ·simp at h
     | _=>simp at h
    | none=>
    rw [hin] at h
    dsimp only at h
    split at h
    ·
     rename_i c x y t
     change Nat.blt t g.n=true at hn
     split at h
     ·rename_i cv p hc
      have hat:=lkP_at hc
      obtain ⟨dc,c1,c2,_⟩:=Rf.rg c _ p hc
      change RT cv dc at c2
      have fin:∀(v:TV) (d:D),OpR g.P (zbZ (zcq g.S)) g.n alD σD (.pick (.t c) x y) d σD []→RT v d→GV σ v→(tOps g q fu (k-1) os kn ((t,.v v)::al) σ fun al' σ' is=>K al' σ' (mkI ⟨some t,.pick (.t c) x y,gd⟩ (cat (.pick (.t c) x y)) none [] σ.length σ.length::is))=some r →
        TrE g q k (⟨some t,.pick (.t c) x y,gd⟩::os) alD σD (After al σ K r):=by
       intro v d h1 h2 h3 h
       refine TrE.op hU hin h1 G (by rw [hn]; simp [okA,wrOk]) ?_
       refine (ih _ _ _ _ _ _ _ ((t,d)::alD) σD h hU' (Rf.set Rf.hh (Ext.refl σ) h2 h3) (Kn.cons Ki) Ki.cons).mono fun a s i hA=>?_
       refine hA.cons (pre:=[(t,.v v)]) rfl Rf.hh (Ext.refl σ) ?_
       rw [Rf.hh.len]
       exact iLe.refl _
      generalize hG:gdC kn p cv=GG at h
      unfold gdC at hG
      split at hG
      ·
       have:=RT.c1 (by simp) c2
       subst this
       subst hG
       dsimp only at h
       split at h
       ·rename_i v hv
        obtain ⟨d,h1,h2,h3⟩:=rdO_ok Rf (Kn.add (p:=p) (b:=true) fun t' e' ht'=>by rw [hat] at ht'; simp at ht') (by simp) x v hv
        exact fin v d (op_pickT c1 rfl h1) h2 h3 h
       ·simp at h
      ·have:=RT.c1 (by simp) c2
       subst this
       subst hG
       dsimp only at h
       split at h
       ·rename_i v hv
        obtain ⟨d,h1,h2,h3⟩:=rdO_ok Rf (Kn.add (p:=p) (b:=false) fun t' e' ht'=>by rw [hat] at ht'; simp at ht') (by simp) y v hv
        exact fin v d (op_pickF c1 rfl h1) h2 h3 h
       ·simp at h
      ·rename_i _ e _
       have:=RT.c1 (by simp) c2
       subst this
       cases hk:knk p kn with
       | some b =>
        have hb:=Kn p b hk c e hat
        have hadd:KnOk al ((p,b)::kn):=Kn.add fun t' e' ht'=>by
         rw [hat] at ht'
         simp only [yAa,yAc,RV.v.injEq,TV.c.injEq,TC.b.injEq] at ht'
         rw [←ht'.2,hb]
        cases b with
        | true =>
         rw [hk] at hG
         subst hG
         dsimp only at h
         split at h
         ·rename_i v hv
          obtain ⟨d,h1,h2,h3⟩:=rdO_ok Rf hadd (by simp) x v hv
          exact fin v d (op_pickT c1 hb h1) h2 h3 h
         ·simp at h
        | false =>
         rw [hk] at hG
         subst hG
         dsimp only at h
         split at h
         ·rename_i v hv
          obtain ⟨d,h1,h2,h3⟩:=rdO_ok Rf hadd (by simp) y v hv
          exact fin v d (op_pickF c1 hb h1) h2 h3 h
         ·simp at h
       | none =>
        rw [hk] at hG
        subst hG
        dsimp only at h
        split at h
        ·rename_i u v hu hv
         split at h
         ·rename_i bu bv hbu hbv
          have cur:∀w,e=w→∀q w',some (p,w)=some (q,w')→∀t' e',atP q al=some (t',.v (.c (.b e')))→e'=w':=fun w hw q w' e1 t' e' ht'=>by
           simp only [yAa,yAc] at e1
           obtain ⟨rfl,rfl⟩:=e1
           rw [hat] at ht'
           simp only [yAa,yAc,RV.v.injEq,TV.c.injEq,TC.b.injEq] at ht'
           rw [←ht'.2,hw]
          cases he:e with
          | true =>
           obtain ⟨d,h1,h2,h3⟩:=rdO_ok Rf Kn (cur true he) x u hu
           have hd:=pk_ok (e:=true) hbu hbv h2
           subst hd
           rw [he] at h
           exact fin (pkV true bu bv) _ (op_pickT c1 he h1) (pkV_ok (σ:=σ) _ _ _).1 (pkV_ok _ _ _).2 h
          | false =>
           obtain ⟨d,h1,h2,h3⟩:=rdO_ok Rf Kn (cur false he) y v hv
           have hd:=pk_ok (e:=false) hbu hbv h2
           subst hd
           rw [he] at h
           exact fin (pkV false bu bv) _ (op_pickF c1 he h1) (pkV_ok (σ:=σ) _ _ _).1 (pkV_ok _ _ _).2 h
         ·simp at h
        ·simp at h
      ·subst hG; simp at h
     ·simp at h
    ·
     have hr:RdOk σ alD (rdO al kn none):=rdO_ok Rf Kn (by simp)
     obtain ⟨v,σ1,rs,wr,d,σD1,h1,h2,h3,h4,h5,h6,_,h7⟩:=tOp_ok (n:=g.n) hr Rf.hh h
     obtain ⟨b1,b2⟩:=blk_of hr h
     dsimp only at h7
     split at h7
     ·rename_i hk
      have hwr:(k == 0 || wrOk σD σD1 wr)=true:=by
       simp only [yAu] at hk ⊢
       rcases hk with hk | hk
       ·left; rw [yAh hk]; rfl
       ·right; exact h6 (by simpa using hk)
      cases dst with
      | none =>
       refine TrE.eff h1 G (by rw [b1,hwr]; rfl) ?_
       refine (ih _ _ _ _ _ _ _ alD σD1 h7 hU' (Rf.heap h4 h5) Kn Ki).mono fun a s i hA=>?_
       refine hA.cons (pre:=[]) rfl Rf.hh h5 ?_
       rw [Rf.hh.len,h4.len,b2]
       exact iLe.refl _
      | some t =>
       change Nat.blt t g.n=true at hn
       refine TrE.op hU hin h1 G (by rw [hn,b1,hwr]; rfl) ?_
       refine (ih _ _ _ _ _ _ _ ((t,d)::alD) σD1 h7 hU' (Rf.set h4 h5 h2 h3) (Kn.cons Ki) Ki.cons).mono fun a s i hA=>?_
       refine hA.cons (pre:=[(t,.v v)]) rfl Rf.hh h5 ?_
       rw [Rf.hh.len,h4.len,b2]
       exact iLe.refl _
     ·simp at h7
end
end Go.Abs
end
section
namespace Go.Abs
noncomputable section
variable [Gl] [Y:Ty]
structure Rn (m:Nat) (σ1 σ2:Heap) (ρ:Nat→Nat) (F:Nat→Prop):Prop where
 le:m≤σ2.length
 id:∀i,i<m→ρ i=i
 inj:∀i j,i<σ2.length→j<σ2.length→ρ i=ρ j→i=j
 fr:∀i,i<σ2.length→¬F (ρ i)
 row:∀b,F b→∃(i:Nat) (l:List (TT i)),σ1[b]? = some (OB (enc i) l)
 sz:∀(i:Nat),i<σ2.length→∃ob1 ob2,σ1[ρ i]? = some ob1∧σ2[i]? = some ob2∧ob2.sz=ob1.sz
def mN (n:Nat) (ρ:Nat→Nat) (M:Nat→Option Nat):Nat→Option Nat:=fun i=>if i<n then M (ρ i) else none
def fzN (F:Nat→Prop) (M:Nat→Option Nat) (Fz:Nat→Prop):Nat→Prop:=fun c=>Fz c∨∃b,F b∧M b=some c
def DWr (σ1 σ2:Heap) (ρ:Nat→Nat) (F:Nat→Prop) (d1 d2:D):Prop:=∀(M:Nat→Option Nat) (Fz:Nat→Prop) (w:World) (v:Value),Rel σ1 M Fz w→V σ1 M Fz w d1 v→V σ2 (mN σ2.length ρ M) (fzN F M Fz) w d2 v
section
variable {m:Nat} {σ1 σ2:Heap} {ρ:Nat→Nat} {F:Nat→Prop}
theorem VC.fzN {M:Nat→Option Nat} {Fz:Nat→Prop} {w:World} {x:C} {v:Value} (h:VC Fz w x v):VC (Go.Abs.fzN F M Fz) w x v:=h.mono fun c hc=>⟨.inl hc,rfl⟩
theorem DWr.any (d:D):DWr σ1 σ2 ρ F d .any:=fun _ _ _ _ _ _=>.any _
theorem DWr.le {d1 d2 d3:D} (h:DLe d1 d2) (h':DWr σ1 σ2 ρ F d2 d3):DWr σ1 σ2 ρ F d1 d3:=fun M Fz w v R hv=>h' M Fz w v R (h _ _ _ _ _ hv)
theorem DWr.low (N:Rn m σ1 σ2 ρ F) {d:D} (hl:d.low m=true):DWr σ1 σ2 ρ F d d:=by
 intro M Fz w v R h
 have at':∀b,b<m→∀ob,σ1[b]? = some ob→∃ob2,σ2[b]? = some ob2∧ob2.sz=ob.sz:=fun b hb ob ho=>by
  obtain ⟨ob1,ob2,h1,h2,h3⟩:=N.sz b (yAF hb N.le)
  rw [N.id b hb,ho] at h1
  simp only [yAa] at h1
  subst h1
  exact ⟨ob2,h2,h3⟩
 have m2:∀b,b<m→mN σ2.length ρ M b=M b:=fun b hb=>by
  unfold mN
  rw [if_pos (yAF hb N.le),N.id b hb]
 induction h with
 | c h=>exact .c h.fzN
 | any v=>exact .any v
 | ptr a ob h hle hv =>
  simp only [D.low,yAf] at hl
  obtain ⟨ob2,h2,h3⟩:=at' _ hl _ h
  exact .ptr a ob2 h2 (by rw [h3]; exact hle) (fun he=>by rw [h3] at he; rw [m2 _ hl]; exact hv he)
 | sl a n cap hnn ob h hle hv =>
  simp only [D.low,yAf] at hl
  obtain ⟨ob2,h2,h3⟩:=at' _ hl _ h
  exact .sl a n cap hnn ob2 h2 (by rw [h3]; exact hle) (fun he=>by rw [h3] at he; rw [m2 _ hl]; exact hv he)
 | mp c ob h hv =>
  simp only [D.low,yAf] at hl
  obtain ⟨ob2,h2,h3⟩:=at' _ hl _ h
  exact .mp c ob2 h2 (fun he=>by rw [h3] at he; rw [m2 _ hl]; exact hv he)
 | fn vs ws h1 h2 hv hw ih1 ih2 =>
  simp only [D.low,yAj] at hl
  exact .fn vs ws h1 h2 (fun i d v a b=>ih1 i d v a b (D.lows_get hl.1 i d a)) (fun i d v a b=>ih2 i d v a b (D.lows_get hl.2 i d a))
 | agg vs h1 hv ih=>simp only [D.low] at hl; exact .agg vs h1 (fun i d v a b=>ih i d v a b (D.lows_get hl i d a))
 | tup vs h1 hv ih=>simp only [D.low] at hl; exact .tup vs h1 (fun i d v a b=>ih i d v a b (D.lows_get hl i d a))
theorem DWr.data (N:Rn m σ1 σ2 ρ F) {d:D} (hl:d.low 0=true):DWr σ1 σ2 ρ F d d:=DWr.low N (D.low_mono (yB4 _) hl)
theorem DWr.ptr (N:Rn m σ1 σ2 ρ F) {i off sz:Nat} (hi:i<σ2.length):DWr σ1 σ2 ρ F (.ptr (ρ i) off sz) (.ptr i off sz):=fun M Fz w v R h=>by
 obtain ⟨ob1,ob2,h1,h2,h3⟩:=N.sz i hi
 cases h with
 | ptr a ob h hle hv =>
  rw [h1] at h
  simp only [yAa] at h
  subst h
  exact .ptr a ob2 h2 (by rw [h3]; exact hle) (fun he=>by rw [h3] at he; unfold mN; rw [if_pos hi]; exact hv he)
theorem DWr.sl (N:Rn m σ1 σ2 ρ F) {i off len es sz:Nat} (hi:i<σ2.length):DWr σ1 σ2 ρ F (.sl (ρ i) off len es sz) (.sl i off len es sz):=fun M Fz w v R h=>by
 obtain ⟨ob1,ob2,h1,h2,h3⟩:=N.sz i hi
 cases h with
 | sl a n cap hnn ob h hle hv =>
  rw [h1] at h
  simp only [yAa] at h
  subst h
  exact .sl a n cap hnn ob2 h2 (by rw [h3]; exact hle) (fun he=>by rw [h3] at he; unfold mN; rw [if_pos hi]; exact hv he)
theorem DWr.mp (N:Rn m σ1 σ2 ρ F) {i:Nat} (hi:i<σ2.length):DWr σ1 σ2 ρ F (.mp (ρ i)) (.mp i):=fun M Fz w v R h=>by
 obtain ⟨ob1,ob2,h1,h2,h3⟩:=N.sz i hi
 cases h with
 | mp c ob h hv =>
  rw [h1] at h
  simp only [yAa] at h
  subst h
  exact .mp c ob2 h2 (fun he=>by rw [h3] at he; unfold mN; rw [if_pos hi]; exact hv he)
theorem DWr.frz (N:Rn m σ1 σ2 ρ F) {b i:Nat} {l:List (TT i)} (hF:F b) (hb:σ1[b]? = some (OB (enc i) l)):DWr σ1 σ2 ρ F (OS (esz i) b l.length) (.c (.frz false (l.map (enc i)))):=fun M Fz w v R h=>by
 classical
 let MF:Nat→Option Nat:=fun b=>if F b then M b else none
 have RF:Rel σ1 MF Fz w:=by
  refine ⟨fun b c hc=>?_,fun b b' c hc hc'=>?_,R.fz,R.gl⟩
  ·simp only [MF] at hc
   split at hc
   ·rename_i hfb
    obtain ⟨h1,ob,o,h2,h3,h4⟩:=R.blk b c hc
    refine ⟨h1,ob,o,h2,h3,?_⟩
    obtain ⟨i',l',h5⟩:=N.row b hfb
    rw [h2] at h5
    simp only [yAa] at h5
    subst h5
    obtain ⟨arr,T,ho,hle,hv⟩:=h4
    refine ⟨arr,T,ho,hle,fun j d v a b=>?_⟩
    obtain ⟨h6,h7⟩:=hv j d v a b
    rw [yAm,yAe] at a
    obtain ⟨x,_,rfl⟩:=a
    cases h6 with
    | c h6=>exact ⟨.c h6,h7⟩
   ·simp at hc
  ·simp only [MF] at hc hc'
   split at hc
   ·split at hc'
    ·exact R.inj b b' c hc hc'
    ·simp at hc'
   ·simp at hc
 have hv:V σ1 MF Fz w (OS (esz i) b l.length) v:=by
  cases h with
  | sl a n cap hnn ob h hle hv =>
   refine .sl a n cap hnn ob h hle fun he=>?_
   rcases hv he with h1 | ⟨c,o,arr,T,h1,h2⟩
   ·exact .inl h1
   ·exact .inr ⟨c,o,arr,T,by simp only [MF,if_pos hF]; exact h1,h2⟩
 have h1:=frzC_own (k:=98) (n:=l.length) (zaU i) (Y.ps i) hb rfl
 have h2:=frzC_ok RF 100 _ _ v h1 hv
 have h3:VC (fzN F M Fz) w (.frz (Nat.blt 0 l.length) (l.map (enc i))) v:=h2.mono fun c hc=>by
  refine ⟨?_,rfl⟩
  rcases hc with hc | ⟨b',_,hc⟩
  ·exact .inl hc
  ·simp only [MF] at hc
   split at hc
   ·rename_i hf; exact .inr ⟨b',hf,hc⟩
   ·simp at hc
 have:=nrmC_ok h3
 exact .c this
theorem DWr.agg {ds es:List D} (h:All2 (DWr σ1 σ2 ρ F) ds es):DWr σ1 σ2 ρ F (.agg ds) (.agg es):=fun M Fz w v R hv=>by
 cases hv with
 | agg vs h1 hv =>
  refine .agg vs (by rw [h1,h.len]) fun i d v a b=>?_
  obtain ⟨d1,h2,h3⟩:=h.get' i d a
  exact h3 M Fz w v R (hv i d1 v h2 b)
theorem DWr.tup {ds es:List D} (h:All2 (DWr σ1 σ2 ρ F) ds es):DWr σ1 σ2 ρ F (.tup ds) (.tup es):=fun M Fz w v R hv=>by
 cases hv with
 | tup vs h1 hv =>
  refine .tup vs (by rw [h1,h.len]) fun i d v a b=>?_
  obtain ⟨d1,h2,h3⟩:=h.get' i d a
  exact h3 M Fz w v R (hv i d1 v h2 b)
def ObR (σ1 σ2:Heap) (ρ:Nat→Nat) (F:Nat→Prop):Ob→Ob→Prop
 | .cells ds,ob=>∃es,ob=.cells es∧All2 (DWr σ1 σ2 ρ F) ds es
 | .map es k,ob=>ob=.map es k∧(es.all fun e=>e.2.1.low 0)=true
 | .gone k,ob=>False
structure RnH (m:Nat) (σ1 σ2:Heap) (ρ:Nat→Nat) (F:Nat→Prop):Prop extends Rn m σ1 σ2 ρ F where
 ob:∀(i:Nat),i<σ2.length→∃ob1 ob2,σ1[ρ i]? = some ob1∧σ2[i]? = some ob2∧ObR σ1 σ2 ρ F ob1 ob2
theorem RnH.rel (N:RnH m σ1 σ2 ρ F) {M:Nat→Option Nat} {Fz:Nat→Prop} {w:World} (R:Rel σ1 M Fz w):Rel σ2 (mN σ2.length ρ M) (fzN F M Fz) w:=by
 refine ⟨fun b c hb=>?_,fun b b' c hb hb'=>?_,fun c hc=>?_,Gl.mono (fun c h=>⟨.inl h,rfl⟩) R.gl⟩
 ·unfold mN at hb
  split at hb
  ·rename_i hlt
   obtain ⟨h1,ob,o,h2,h3,h4⟩:=R.blk _ c hb
   obtain ⟨ob1,ob2,h5,h6,h7⟩:=N.ob b hlt
   rw [h2] at h5
   simp only [yAa] at h5
   subst h5
   refine ⟨fun hf=>?_,ob2,o,h6,h3,?_⟩
   ·rcases hf with hf | ⟨b',hf,hc⟩
    ·exact h1 hf
    ·rw [R.inj _ _ c hc hb] at hf
     exact N.fr b hlt hf
   ·cases ob with
    | cells cs =>
     obtain ⟨arr,T,ho,hle,hv⟩:=h4
     obtain ⟨es,rfl,ha⟩:=h7
     refine ⟨arr,T,ho,by rw [←ha.len]; exact hle,fun i d v x y=>?_⟩
     obtain ⟨d1,h8,h9⟩:=ha.get' i d x
     obtain ⟨h10,h11⟩:=hv i d1 v h8 y
     exact ⟨h9 M Fz w v R h10,h11⟩
    | map es clock =>
     obtain ⟨arr,ho,hle,hv⟩:=h4
     obtain ⟨rfl,hl⟩:=h7
     refine ⟨arr,ho,hle,fun i k d n e x y=>?_⟩
     obtain ⟨p,q,r⟩:=hv i k d n e x y
     rw [yAp] at hl
     exact ⟨p,q,DWr.data N.toRn (hl (k,d,n) (yA1 x)) M Fz w _ R r⟩
    | gone n=>exact h7.elim
  ·simp at hb
 ·unfold mN at hb hb'
  split at hb
  ·rename_i h1
   split at hb'
   ·rename_i h2
    exact N.inj b b' h1 h2 (R.inj _ _ c hb hb')
   ·simp at hb'
  ·simp at hb
 ·rcases hc with hc | ⟨b,_,hc⟩
  ·exact R.fz c hc
  ·exact (R.lt hc).2
theorem RnH.evo (N:RnH m σ1 σ2 ρ F) {σ:Heap} (hm:σ.length≤m) {M M':Nat→Option Nat} {Fz Fz':Nat→Prop} {w w':World} (hF:∀b,F b→m≤b) (R:Rel σ M Fz w) (R1:Rel σ1 M' Fz' w') (E:Evo σ M Fz w σ1 M' Fz' w') :
  Evo σ M Fz w σ2 (mN σ2.length ρ M') (fzN F M' Fz') w':=by
 refine ⟨E.size,E.frame,fun b c h=>?_,fun c h=>⟨.inl (E.fz c h).1,(E.fz c h).2⟩,fun c h=>?_,E.shp,fun b ob hb=>?_,E.out⟩
 ·unfold mN at h
  split at h
  ·exact E.ran _ c h
  ·simp at h
 ·rcases h with h | ⟨b,_,h⟩
  ·exact E.fz' c h
  ·rcases E.ran b c h with h' | h'
   ·exact .inr (.inl h')
   ·exact .inr (.inr h')
 ·obtain ⟨ob',h1,h2,h3⟩:=E.keep b ob hb
  have hlt:b<m:=yAF (yAb.1 hb).1 hm
  obtain ⟨ob1,ob2,h4,h5,h6⟩:=N.sz b (yAF hlt N.le)
  rw [N.id b hlt,h1] at h4
  simp only [yAa] at h4
  subst h4
  refine ⟨ob2,h5,by rw [h6]; exact h2,fun he=>?_⟩
  unfold mN
  rw [if_pos (yAF hlt N.le),N.id b hlt]
  exact h3 (by rw [←h6]; exact he)
end
end
end Go.Abs
end
section
namespace Go.Abs
noncomputable section
variable [Gl] [Y:Ty]
def SzC (m:Nat) (σ1 σ2:Heap):Prop:=∀b,b<m→∀ob,σ1[b]? = some ob→∃ob2,σ2[b]? = some ob2∧ob2.sz=ob.sz
def DWk (m:Nat) (d1 d2:D):Prop:=∀(σ1 σ2:Heap) (M:Nat→Option Nat) (Fz:Nat→Prop) (w:World) (v:Value),SzC m σ1 σ2→V σ1 M Fz w d1 v→V σ2 (cutM M m) Fz w d2 v
theorem DWk.any (m:Nat) (d:D):DWk m d .any:=fun _ _ _ _ _ _ _ _=>.any _
theorem DWk.low {m:Nat} {d:D} (hl:d.low m=true):DWk m d d:=by
 intro σ1 σ2 M Fz w v hs h
 induction h with
 | c h=>exact .c h
 | any v=>exact .any v
 | ptr a ob h hle hv =>
  simp only [D.low,yAf] at hl
  obtain ⟨ob2,h2,h3⟩:=hs _ hl _ h
  exact .ptr a ob2 h2 (by rw [h3]; exact hle) (fun he=>by rw [h3] at he; simpa [cutM,hl] using hv he)
 | sl a n cap hnn ob h hle hv =>
  simp only [D.low,yAf] at hl
  obtain ⟨ob2,h2,h3⟩:=hs _ hl _ h
  exact .sl a n cap hnn ob2 h2 (by rw [h3]; exact hle) (fun he=>by rw [h3] at he; simpa [cutM,hl] using hv he)
 | mp c ob h hv =>
  simp only [D.low,yAf] at hl
  obtain ⟨ob2,h2,h3⟩:=hs _ hl _ h
  exact .mp c ob2 h2 (fun he=>by rw [h3] at he; simpa [cutM,hl] using hv he)
 | fn vs ws h1 h2 hv hw ih1 ih2 =>
  simp only [D.low,yAj] at hl
  exact .fn vs ws h1 h2 (fun i d v a b=>ih1 i d v a b (D.lows_get hl.1 i d a)) (fun i d v a b=>ih2 i d v a b (D.lows_get hl.2 i d a))
 | agg vs h1 hv ih=>simp only [D.low] at hl; exact .agg vs h1 (fun i d v a b=>ih i d v a b (D.lows_get hl i d a))
 | tup vs h1 hv ih=>simp only [D.low] at hl; exact .tup vs h1 (fun i d v a b=>ih i d v a b (D.lows_get hl i d a))
theorem DWk.le {m:Nat} {d1 d2 d3:D} (h:DLe d1 d2) (h':DWk m d2 d3):DWk m d1 d3:=fun σ1 σ2 M Fz w v hs hv=>h' σ1 σ2 M Fz w v hs (h σ1 M Fz w v hv)
theorem DWk.agg {m:Nat} {ds es:List D} (h:All2 (DWk m) ds es):DWk m (.agg ds) (.agg es):=fun σ1 σ2 M Fz w v hs hv=>by
 cases hv with
 | agg vs h1 hv =>
  refine .agg vs (by rw [h1,h.len]) fun i d v a b=>?_
  obtain ⟨d1,h2,h3⟩:=h.get' i d a
  exact h3 σ1 σ2 M Fz w v hs (hv i d1 v h2 b)
theorem DWk.tup {m:Nat} {ds es:List D} (h:All2 (DWk m) ds es):DWk m (.tup ds) (.tup es):=fun σ1 σ2 M Fz w v hs hv=>by
 cases hv with
 | tup vs h1 hv =>
  refine .tup vs (by rw [h1,h.len]) fun i d v a b=>?_
  obtain ⟨d1,h2,h3⟩:=h.get' i d a
  exact h3 σ1 σ2 M Fz w v hs (hv i d1 v h2 b)
def ObW (m:Nat):Ob→Ob→Prop
 | .cells ds,ob=>∃es,ob=.cells es∧All2 (DWk m) ds es
 | .map es k,ob=>ob=.map es k∧(es.all fun e=>e.2.1.low m)=true
 | .gone k,ob=>ob=.gone k
theorem ObW.sz {m:Nat} {a b:Ob} (h:ObW m a b):b.sz=a.sz:=by
 cases a with
 | cells ds=>obtain ⟨es,rfl,h⟩:=h; simp only [Ob.sz,h.len]
 | map es k=>obtain ⟨rfl,_⟩:=h; rfl
 | gone k=>cases h; rfl
structure HpW (m:Nat) (σ1 σ2:Heap):Prop where
 len:σ2.length=m
 le:m≤σ1.length
 ob:∀b ob,σ1[b]? = some ob→b<m→∃ob2,σ2[b]? = some ob2∧ObW m ob ob2
theorem HpW.szc {m:Nat} {σ1 σ2:Heap} (h:HpW m σ1 σ2):SzC m σ1 σ2:=fun b hb ob ho=>let ⟨ob2,h1,h2⟩:=h.ob b ob ho hb; ⟨ob2,h1,h2.sz⟩
theorem HpW.rel {m:Nat} {σ1 σ2:Heap} (h:HpW m σ1 σ2) {M:Nat→Option Nat} {Fz:Nat→Prop} {w:World} (R:Rel σ1 M Fz w):Rel σ2 (cutM M m) Fz w:=by
 refine ⟨fun b c hb=>?_,fun b b' c hb hb'=>?_,R.fz,R.gl⟩
 ·unfold cutM at hb
  split at hb
  ·rename_i hlt
   obtain ⟨h1,ob,o,h2,h3,h4⟩:=R.blk b c hb
   obtain ⟨ob2,h5,h6⟩:=h.ob b ob h2 hlt
   refine ⟨h1,ob2,o,h5,h3,?_⟩
   cases ob with
   | cells cs =>
    obtain ⟨arr,T,ho,hle,hv⟩:=h4
    obtain ⟨es,rfl,ha⟩:=h6
    refine ⟨arr,T,ho,by rw [←ha.len]; exact hle,fun i d v x y=>?_⟩
    obtain ⟨d1,h7,h8⟩:=ha.get' i d x
    obtain ⟨h9,h10⟩:=hv i d1 v h7 y
    exact ⟨h8 σ1 σ2 M Fz w v h.szc h9,h10⟩
   | map es clock =>
    obtain ⟨arr,ho,hle,hv⟩:=h4
    obtain ⟨rfl,hl⟩:=h6
    refine ⟨arr,ho,hle,fun i k d n e x y=>?_⟩
    obtain ⟨p,q,r⟩:=hv i k d n e x y
    rw [yAp] at hl
    exact ⟨p,q,DWk.low (hl (k,d,n) (yA1 x)) σ1 σ2 M Fz w _ h.szc r⟩
   | gone n=>exact h4.elim
  ·simp at hb
 ·unfold cutM at hb hb'
  split at hb
  ·split at hb'
   ·exact R.inj b b' c hb hb'
   ·simp at hb'
  ·simp at hb
theorem HpW.evo {m:Nat} {σ1 σ2 σ:Heap} (h:HpW m σ1 σ2) {M M':Nat→Option Nat} {Fz Fz':Nat→Prop} {w w':World} (E:Evo σ M Fz w σ1 M' Fz' w') (hm:σ.length≤m):Evo σ M Fz w σ2 (cutM M' m) Fz' w':=by
 refine ⟨E.size,E.frame,fun b c h=>?_,E.fz,E.fz',E.shp,fun b ob hb=>?_,E.out⟩
 ·unfold cutM at h
  split at h
  ·exact E.ran b c h
  ·simp at h
 ·obtain ⟨ob',h1,h2,h3⟩:=E.keep b ob hb
  have hlt:b<m:=yAF (yAb.1 hb).1 hm
  obtain ⟨ob2,h4,h5⟩:=h.ob b ob' h1 hlt
  exact ⟨ob2,h4,by rw [h5.sz]; exact h2,fun he=>by simp only [cutM,if_pos hlt]; exact h3 (by rw [←h5.sz]; exact he)⟩
structure StW0 (m:Nat) (al1:AL) (σ1:Heap) (al2:AL) (σ2:Heap):Prop where
 hp:HpW m σ1 σ2
 rg:∀t d2,lk t al2=some d2→∃d1,lk t al1=some d1∧DWk m d1 d2
def StW (m:Nat) (al1:AL) (σ1:Heap) (al2:AL) (σ2:Heap):Prop:=m≤σ2.length∧∀(n:Nat) (M':Nat→Option Nat) (Fz':Nat→Prop) (w':World) (tmps:Array Value),Rel σ1 M' Fz' w'→AEnv n σ1 M' Fz' w' al1 tmps →
 ∃M2 Fz2,Rel σ2 M2 Fz2 w'∧AEnv n σ2 M2 Fz2 w' al2 tmps∧∀(σ:Heap) (M:Nat→Option Nat) (Fz:Nat→Prop) (w:World),Rel σ M Fz w→Evo σ M Fz w σ1 M' Fz' w'→σ.length≤m→Evo σ M Fz w σ2 M2 Fz2 w'
section
variable {P:Program} {n:Nat} {al al1 al2:AL} {σ σ1 σ2:Heap} {Q Q':zb2→AL→Heap→Prop}
theorem StW0.st {m:Nat} (h:StW0 m al1 σ1 al2 σ2):StW m al1 σ1 al2 σ2:=⟨by rw [h.hp.len]; exact yAn _,fun n M' Fz' w' tmps R A=>by
 refine ⟨cutM M' m,Fz',h.hp.rel R,⟨A.1,fun t d ht=>?_⟩,fun σ M Fz w _ E hm=>h.hp.evo E hm⟩
 obtain ⟨d1,h1,h2⟩:=h.rg t d ht
 obtain ⟨v,h3,h4⟩:=A.2 t d1 h1
 exact ⟨v,h3,h2 _ _ _ _ _ _ h.hp.szc h4⟩⟩
theorem StW.refl {m:Nat} (h:m≤σ.length):StW m al σ al σ:=⟨h,fun n M' Fz' w' tmps R A=>⟨M',Fz',R,A,fun σ M Fz w _ E _=>E⟩⟩
theorem StW.trans {m:Nat} {al3:AL} {σ3:Heap} (h:StW m al1 σ1 al2 σ2) (h':StW m al2 σ2 al3 σ3):StW m al1 σ1 al3 σ3:=⟨h'.1,fun n M' Fz' w' tmps R A=>by
 obtain ⟨M2,F2,R2,A2,E2⟩:=h.2 n M' Fz' w' tmps R A
 obtain ⟨M3,F3,R3,A3,E3⟩:=h'.2 n M2 F2 w' tmps R2 A2
 exact ⟨M3,F3,R3,A3,fun σ M Fz w R0 E hm=>E3 σ M Fz w R0 (E2 σ M Fz w R0 E hm) hm⟩⟩
theorem StW.rn {m:Nat} {ρ:Nat→Nat} {F:Nat→Prop} (N:RnH m σ1 σ2 ρ F) (hF:∀b,F b→m≤b) (h:∀t d2,lk t al2=some d2→∃d1,lk t al1=some d1∧DWr σ1 σ2 ρ F d1 d2):StW m al1 σ1 al2 σ2:=⟨N.le,fun n M' Fz' w' tmps R A=>by
 refine ⟨_,_,N.rel R,⟨A.1,fun t d ht=>?_⟩,fun σ M Fz w R0 E hm=>N.evo hm hF R0 R E⟩
 obtain ⟨d1,h1,h2⟩:=h t d ht
 obtain ⟨v,h3,h4⟩:=A.2 t d1 h1
 exact ⟨v,h3,h2 _ _ _ _ R h4⟩⟩
theorem StW.use {m:Nat} (h:StW m al1 σ1 al2 σ2) {M M':Nat→Option Nat} {Fz Fz':Nat→Prop} {w w':World} {tmps:Array Value} (R0:Rel σ M Fz w) (R:Rel σ1 M' Fz' w') (A:AEnv n σ1 M' Fz' w' al1 tmps) (E:Evo σ M Fz w σ1 M' Fz' w') (hm:σ.length≤m) :
  ∃M2 Fz2,Rel σ2 M2 Fz2 w'∧AEnv n σ2 M2 Fz2 w' al2 tmps∧Evo σ M Fz w σ2 M2 Fz2 w'∧σ.length≤σ2.length:=by
 obtain ⟨M2,F2,R2,A2,E2⟩:=h.2 n M' Fz' w' tmps R A
 exact ⟨M2,F2,R2,A2,E2 σ M Fz w R0 E hm,yAB hm h.1⟩
theorem Sem.monoW {ac:ACode} (h:Sem P ac n al σ Q) (hq:∀x al' σ',Q x al' σ'→Q' x al' σ'∨∃al2 σ2,StW σ.length al' σ' al2 σ2∧Q' x al2 σ2):Sem P ac n al σ Q':=by
 intro c hc M Fz w a K R A hK
 refine h c hc M Fz w a K R A fun x al' σ' a' w' M' Fz' hQ hd R' A' E' hl=>?_
 rcases hq x al' σ' hQ with hq' | ⟨al2,σ2,hw,hq'⟩
 ·exact hK x al' σ' a' w' M' Fz' hq' hd R' A' E' hl
 ·obtain ⟨M2,F2,R2,A2,E2,l2⟩:=hw.use R R' A' E' (yAn _)
  exact hK x al2 σ2 a' w' M2 F2 hq' hd R2 A2 E2 l2
theorem Sem.seqW {a b:ACode} (h:Sem P a n al σ fun x al1 σ1=>match x with | .normal=>Sem P b n al1 σ1 Q∨∃al2 σ2,StW σ.length al1 σ1 al2 σ2∧Sem P b n al2 σ2 Q | x=>Q x al1 σ1):Sem P (.seq a b) n al σ Q:=by
 refine Sem.seq (h.monoW (Q':=fun x al1 σ1=>match x with | .normal=>∃al2 σ2,Wk σ.length al1 σ1 al2 σ2∧Sem P b n al2 σ2 Q | x=>Q x al1 σ1) fun x al' σ' hq=>?_)
 cases x with
 | normal =>
  rcases hq with hq | ⟨al2,σ2,hw,hq⟩
  ·exact .inl ⟨al',σ',.refl,hq⟩
  ·exact .inr ⟨al2,σ2,hw,al2,σ2,.refl,hq⟩
 | exit i=>exact .inl hq
 | ret=>exact .inl hq
theorem SemL.preW {ac:ACode} {k:Nat} (hs:StW σ.length al σ al2 σ2) (h:SemL P ac k n al2 σ2 Q):SemL P ac k n al σ Q:=by
 intro c hc M Fz w a K R A hK
 obtain ⟨M2,F2,R2,A2,E2,l2⟩:=hs.use R R A (Evo.refl R) (yAn _)
 exact h c hc M2 F2 w a K R2 A2 fun x al' σ' a' w' M' Fz' hQ hd R' A' E' hl=>hK x al' σ' a' w' M' Fz' hQ hd R' A' (E2.trans E' l2) (yAB l2 hl)
theorem SemL.succW {b:ACode} {k:Nat} (h:Sem P b n al σ fun x al1 σ1=>match x with | .normal=>∃al2 σ2,StW σ.length al1 σ1 al2 σ2∧SemL P b k n al2 σ2 Q | x=>Q x al1 σ1):SemL P b (k+1) n al σ Q:=by
 refine SemL.succ (h.monoW (Q':=fun x al1 σ1=>match x with | .normal=>∃al2 σ2,Wk σ.length al1 σ1 al2 σ2∧SemL P b k n al2 σ2 Q | x=>∃al2 σ2,Wk σ.length al1 σ1 al2 σ2∧Q x al2 σ2) fun x al' σ' hq=>?_)
 cases x with
 | normal =>
  obtain ⟨al2,σ2,hw,hq⟩:=hq
  exact .inr ⟨al2,σ2,hw,al2,σ2,.refl,hq⟩
 | exit i=>exact .inl ⟨al',σ',.refl,hq⟩
 | ret=>exact .inl ⟨al',σ',.refl,hq⟩
end
section
theorem RC_wk0 {σ:TH} {x:TC} {d:D} (r:RC x d) (g:GC σ x):DWk σ.length d x.er:=by
 rcases r with rfl | rfl
 ·exact DWk.any _ _
 ·cases x with
  | any=>exact DWk.any _ _
  | d y=>exact DWk.low g
  | own i b v n=>obtain ⟨blk,h,_⟩:=g; exact DWk.low (by simp only [TC.er,OS,D.low,yAf]; exact (yAb.1 h).1)
  | op i b v n k a off=>obtain ⟨blk,h,_⟩:=g; exact DWk.low (by simp only [TC.er,D.low,yAf]; exact (yAb.1 h).1)
  | os i b v n lo len=>obtain ⟨blk,h,_⟩:=g; exact DWk.low (by simp only [TC.er,D.low,yAf]; exact (yAb.1 h).1)
  | ap b off len sz k=>exact DWk.low (by simp only [TC.er,D.low,yAf]; exact g)
  | fna f xs=>exact DWk.low (fna_low g)
  | _=>exact DWk.low rfl
theorem RC_wk {σ:TH} {x:TC} {d:D} (r:RC x d) (g:GC σ x):∃d2,DWk σ.length d d2∧RC x d2:=⟨_,RC_wk0 r g,.inr rfl⟩
theorem RCs_wk {σ:TH} {xs:List TC} {ds:List D} (r:All2 RC xs ds) (g:∀x∈xs,GC σ x):∃es,All2 (DWk σ.length) ds es∧All2 RC xs es:=by
 induction r with
 | nil=>exact ⟨[],.nil,.nil⟩
 | cons h _ ih =>
  obtain ⟨e,h1,h2⟩:=RC_wk h (g _ (yAq ..))
  obtain ⟨es,h3,h4⟩:=ih fun x hx=>g x (yAk _ hx)
  exact ⟨e::es,.cons h1 h3,.cons h2 h4⟩
theorem RE_wk {σ:TH} {p:Bool×List TC} {d:D} (r:RE p d) (g:∀x∈p.2,GC σ x):∃d2,DWk σ.length d d2∧RE p d2:=by
 obtain ⟨f,xs⟩:=p
 cases f with
 | true =>
  obtain ⟨ds,rfl,h⟩:=r
  obtain ⟨es,h1,h2⟩:=RCs_wk h g
  exact ⟨.agg es,DWk.agg h1,es,rfl,h2⟩
 | false =>
  obtain ⟨x,rfl,h⟩:=r
  obtain ⟨e,h1,h2⟩:=RC_wk h (g x (by simp))
  exact ⟨e,h1,x,rfl,h2⟩
theorem RT_wk {σ:TH} {x:TV} {d:D} (r:RT x d) (g:GV σ x):∃d2,DWk σ.length d d2∧RT x d2:=by
 cases x with
 | c x=>exact RC_wk r g
 | agg xs =>
  obtain ⟨ds,rfl,h⟩:=r
  obtain ⟨es,h1,h2⟩:=RCs_wk h g
  exact ⟨.agg es,DWk.agg h1,es,rfl,h2⟩
 | tup xs =>
  obtain ⟨ds,rfl,h⟩:=r
  have:∃es,All2 (DWk σ.length) ds es∧All2 RE xs es:=by
   induction h with
   | nil=>exact ⟨[],.nil,.nil⟩
   | cons h _ ih =>
    obtain ⟨e,h1,h2⟩:=RE_wk h (g _ (yAq ..))
    obtain ⟨es,h3,h4⟩:=ih fun x hx=>g x (yAk _ hx)
    exact ⟨e::es,.cons h1 h3,.cons h2 h4⟩
  obtain ⟨es,h1,h2⟩:=this
  exact ⟨.tup es,DWk.tup h1,es,rfl,h2⟩
theorem RR_wk {al:TA} {σ:TH} {x:RV} {d:D} (r:RR x d) (g:GW al σ x):∃d2,DWk σ.length d d2∧RR x d2:=by
 cases x with
 | v x=>exact RT_wk r g
 | g c w p x =>
  by_cases h:c=w
  ·simp only [RR,if_pos h] at r ⊢; exact RT_wk r (g.2 h)
  ·simp only [RR,if_neg h] at r ⊢; subst r; exact ⟨.tup [],DWk.low rfl,rfl⟩
theorem rdV_wk {m:Nat} {c:VCd} {v:TV} {d:D} {a:c.dn} (h:rdV c v=some a) (r:RT v d):DWk m d (c.enc a):=by
 obtain ⟨h1,h2,_⟩:=rdV_ok h r
 refine DWk.le (d2:=nrm d) (fun σ M Fz w v hv=>nrm_ok hv) ?_
 rw [h1]
 exact DWk.low (D.low_mono (yB4 _) (c.enc_low a))
theorem rdC_wk {m:Nat} {c:CC} {x:TC} {d:D} {a:c.dn} (h:rdC c x=some a) (r:RC x d):DWk m d (.c (encC enc c a)):=by
 obtain ⟨h1,h2⟩:=rdC_ok h
 rcases r with r | rfl
 ·exact absurd r h1
 ·rw [←h2]
  refine DWk.le (d2:=nrm1 x.er) (fun σ M Fz w v hv=>nrm1xok hv) ?_
  rw [h2]
  exact DWk.low rfl
theorem exists_list {α:Type} {p:Nat→α→Prop} (m:Nat) (h:∀b,b<m→∃a,p b a):∃l:List α,l.length=m∧∀b a,l[b]? = some a→p b a:=by
 induction m with
 | zero=>exact ⟨[],rfl,fun b a h=>by simp at h⟩
 | succ m ih =>
  obtain ⟨l,h1,h2⟩:=ih fun b hb=>h b (by omega)
  obtain ⟨a,ha⟩:=h m (by omega)
  refine ⟨l++[a],by simp [h1],fun b x hx=>?_⟩
  rcases yAC b m with hlt | hge
  ·rw [yAs (by omega)] at hx; exact h2 b x hx
  ·have hb:=(yAb.1 hx).1
   simp at hb
   have:b=m:=by omega
   subst this
   rw [yAz (by omega),h1,yBN] at hx
   simp only [List.getElem?_cons_zero,yAa] at hx
   subst hx
   exact ha
theorem lkP_key {t:Nat}:∀{al:TA} {f:Nat→D},(∃x p,lkP t al=some (x,p))→lk t (al.map fun p=>(p.1,f p.1))=some (f t):=by
 intro al f
 induction al with
 | nil=>intro ⟨x,p,h⟩; simp [lkP] at h
 | cons y al ih =>
  intro ⟨x,p,h⟩
  obtain ⟨s,z⟩:=y
  simp only [lkP] at h
  simp only [yA3,lk]
  split at h
  ·rename_i hb
   have:=yAh hb
   subst this
   first | rw [hb] | rfl
  ·rename_i hb
   try rw [hb]
   exact ih ⟨x,p,h⟩
theorem lkP_key' {t:Nat} {d:D}:∀{al:TA} {f:Nat→D},lk t (al.map fun p=>(p.1,f p.1))=some d→(∃x p,lkP t al=some (x,p))∧d=f t:=by
 intro al f
 induction al with
 | nil=>intro h; simp [lk] at h
 | cons y al ih =>
  intro h
  obtain ⟨s,z⟩:=y
  simp only [yA3,lk] at h
  simp only [lkP]
  split at h
  ·rename_i hb
   have:=yAh hb
   simp only [yAa] at h
   try rw [hb]
   exact ⟨⟨z,_,rfl⟩,by rw [←h,this]⟩
  ·rename_i hb
   try rw [hb]
   exact ih h
theorem stw_of {al2:TA} {σ2:TH} {alD1:AL} {σD1:Heap} (hle:σ2.length≤σD1.length)
  (hr:∀t x p,lkP t al2=some (x,p)→GW al2 σ2 x∧∃d1 d2,lk t alD1=some d1∧DWk σ2.length d1 d2∧RR x d2)
  (hb:∀(b:Nat) blk,σ2[b]? = some blk→∃ob1 ob2,σD1[b]? = some ob1∧ObW σ2.length ob1 ob2∧RB blk ob2)
  (hg:∀(b:Nat) w cs,σ2[b]? = some (.cells w cs)→∀p∈cs,GC σ2 p.2∧p.1≤w) :
  ∃alD2 σD2,StW σ2.length alD1 σD1 alD2 σD2∧Ref al2 σ2 alD2 σD2:=by
 have hf:∃f:Nat→D,∀t x p,lkP t al2=some (x,p)→∃d1,lk t alD1=some d1∧DWk σ2.length d1 (f t)∧RR x (f t):=by
  have:∀t,∃d2,∀x p,lkP t al2=some (x,p)→∃d1,lk t alD1=some d1∧DWk σ2.length d1 d2∧RR x d2:=by
   intro t
   cases ht:lkP t al2 with
   | none=>exact ⟨.any,fun x p h=>by simp at h⟩
   | some q =>
    obtain ⟨x,p⟩:=q
    obtain ⟨_,d1,d2,h1,h2,h3⟩:=hr t x p ht
    exact ⟨d2,fun x' p' h=>by simp only [yAa,yAc] at h; obtain ⟨rfl,rfl⟩:=h; exact ⟨d1,h1,h2,h3⟩⟩
  exact ⟨fun t=>Classical.choose (this t),fun t=>yBs (this t)⟩
 obtain ⟨f,hf⟩:=hf
 obtain ⟨σD2,hl,h2⟩:=exists_list (p:=fun b ob2=>∃blk ob1,σ2[b]? = some blk∧σD1[b]? = some ob1∧ObW σ2.length ob1 ob2∧RB blk ob2) σ2.length fun b hb'=>by
  obtain ⟨ob1,ob2,h3,h4,h5⟩:=hb b _ (yAi hb')
  exact ⟨ob2,_,ob1,yAi hb',h3,h4,h5⟩
 refine ⟨al2.map fun p=>(p.1,f p.1),σD2,StW0.st ⟨⟨hl,hle,fun b ob ho hlt=>?_⟩,fun t d h=>?_⟩,⟨⟨by rw [hl],fun b blk hb'=>?_,hg⟩,fun t x p h=>?_⟩⟩
 ·have h3:σD2[b]? = some _:=yAi (by rw [hl]; exact hlt)
  obtain ⟨blk,ob1,h4,h5,h6,h7⟩:=h2 b _ h3
  rw [ho] at h5
  simp only [yAa] at h5
  subst h5
  exact ⟨_,h3,h6⟩
 ·obtain ⟨⟨x,p,h3⟩,rfl⟩:=lkP_key' h
  obtain ⟨d1,h4,h5,_⟩:=hf t x p h3
  exact ⟨d1,h4,h5⟩
 ·have hlt:=(yAb.1 hb').1
  have h3:σD2[b]? = some _:=yAi (by rw [hl]; exact hlt)
  obtain ⟨blk',ob1,h4,h5,h6,h7⟩:=h2 b _ h3
  rw [hb'] at h4
  simp only [yAa] at h4
  subst h4
  exact ⟨_,h3,h7⟩
 ·obtain ⟨d1,h3,h4,h5⟩:=hf t x p h
  exact ⟨f t,lkP_key ⟨x,p,h⟩,h5,(hr t x p h).1⟩
end
end
end Go.Abs
end
section
namespace Go.Abs
noncomputable section
variable [Gl] [Y:Ty]
def notH (pl:List Pl) (b j:Nat):Prop:=∀c,Pl.h b j c∉pl
def notW (pl:List Pl) (b:Nat):Prop:=∀i,Pl.w b i∉pl
def notM (pl:List Pl) (b:Nat):Prop:=∀j st,Pl.m b j st∉pl
def SB (pl:List Pl) (b:Nat):TB→TB→Prop
 | .cells w cs,blk1=>∃w1 cs1,blk1=.cells w1 cs1∧cs1.length=cs.length∧∀(j:Nat) p p1,cs[j]? = some p→cs1[j]? = some p1→notH pl b j→p1=p
 | .row i l lv cv,blk1=>∃l1 lv1 cv1,blk1=.row i l1 lv1 cv1∧(notW pl b→l1=l∧lv1=lv∧cv1=cv)
 | .mp j st l v,blk1=>∃j1 st1 l1 v1,blk1=.mp j1 st1 l1 v1∧(notM pl b→blk1=.mp j st l v)
def HS (pl:List Pl) (σ σ1:TH):Prop:=∀(b:Nat) blk,σ[b]? = some blk→∃blk1,σ1[b]? = some blk1∧SB pl b blk blk1
theorem SB.trans {pl:List Pl} {b:Nat} {x y z:TB} (h1:SB pl b x y) (h2:SB pl b y z):SB pl b x z:=by
 cases x with
 | cells w cs =>
  obtain ⟨w1,cs1,rfl,l1,c1⟩:=h1
  obtain ⟨w2,cs2,rfl,l2,c2⟩:=h2
  refine ⟨w2,cs2,rfl,by rw [l2,l1],fun j p p2 e e2 hn=>?_⟩
  have hj:j<cs1.length:=by rw [l1]; exact (yAb.1 e).1
  have e1:=yAi hj
  have:=c1 j p _ e e1 hn
  rw [c2 j _ p2 e1 e2 hn,this]
 | row i l lv cv =>
  obtain ⟨l1,lv1,cv1,rfl,c1⟩:=h1
  obtain ⟨l2,lv2,cv2,rfl,c2⟩:=h2
  refine ⟨l2,lv2,cv2,rfl,fun hn=>?_⟩
  obtain ⟨rfl,rfl,rfl⟩:=c1 hn
  exact c2 hn
 | mp j st l v =>
  obtain ⟨j1,st1,l1,v1,rfl,c1⟩:=h1
  obtain ⟨j2,st2,l2,v2,rfl,c2⟩:=h2
  refine ⟨j2,st2,l2,v2,rfl,fun hn=>?_⟩
  rw [c2 hn,c1 hn]
theorem HS.trans {pl:List Pl} {σ σ1 σ2:TH} (h1:HS pl σ σ1) (h2:HS pl σ1 σ2):HS pl σ σ2:=fun b blk h=>by
 obtain ⟨blk1,e1,s1⟩:=h1 b blk h
 obtain ⟨blk2,e2,s2⟩:=h2 b blk1 e1
 exact ⟨blk2,e2,s1.trans s2⟩
theorem any_mem {f:Pl→Bool} {pl:List Pl} (h:pl.any f=true):∃p∈pl,f p=true:=by simpa using h
theorem cellsSame_ok {pl:List Pl} {b:Nat}:∀{xs ys:List (Nat×TC)} {j0:Nat},cellsSame pl b j0 xs ys=true→xs.length=ys.length∧∀(j:Nat) p q,xs[j]? = some p→ys[j]? = some q→notH pl b (j0+j)→p.1=q.1:=by
 intro xs
 induction xs with
 | nil =>
  intro ys j0 h
  cases ys with
  | nil=>exact ⟨rfl,fun j p q e=>by simp at e⟩
  | cons y ys=>simp [cellsSame] at h
 | cons x xs ih =>
  intro ys j0 h
  cases ys with
  | nil=>obtain ⟨a,b⟩:=x; simp [cellsSame] at h
  | cons y ys =>
   obtain ⟨v,x⟩:=x
   obtain ⟨w,y⟩:=y
   simp only [cellsSame,yAj,yAu] at h
   obtain ⟨h1,h2⟩:=h
   obtain ⟨h3,h4⟩:=ih h2
   refine ⟨by simp [h3],fun j p q e e' hn=>?_⟩
   cases j with
   | zero =>
    simp only [List.getElem?_cons_zero,yAa] at e e'
    subst e e'
    rcases h1 with h1 | h1
    ·exact yAh h1
    ·obtain ⟨p,hp,hf⟩:=any_mem h1
     exfalso
     split at hf
     ·rename_i b' j' c
      simp only [yAj] at hf
      have e1:=yAh hf.1
      have e2:=yAh hf.2
      subst e1 e2
      exact hn c hp
     ·simp at hf
   | succ j =>
    simp only [List.getElem?_cons_succ] at e e'
    refine h4 j p q e e' ?_
    rw [show j0+1+j=j0+(j+1) by omega]
    exact hn
theorem heapSame_at {pl:List Pl}:∀{σ σ1:TH} {b0:Nat},heapSame pl b0 σ σ1=true→∀(b:Nat) blk,σ[b]? = some blk→∃blk1,σ1[b]? = some blk1∧blkSame pl (b0+b) blk blk1=true:=by
 intro σ
 induction σ with
 | nil=>intro σ1 b0 _ b blk h; simp at h
 | cons x σ ih =>
  intro σ1 b0 h b blk hb
  cases σ1 with
  | nil=>simp [heapSame] at h
  | cons y σ1 =>
   simp only [heapSame,yAj] at h
   cases b with
   | zero=>simp only [List.getElem?_cons_zero,yAa] at hb; subst hb; exact ⟨y,rfl,h.1⟩
   | succ b =>
    simp only [List.getElem?_cons_succ] at hb
    obtain ⟨blk1,h1,h2⟩:=ih h.2 b blk hb
    exact ⟨blk1,h1,by rw [show b0+(b+1)=b0+1+b by omega]; exact h2⟩
theorem zbX {pl:List Pl} {σ σ1:TH} {σD:Heap} (H:RH σ σD) (h:heapSame pl 0 σ σ1=true) (he:Ext σ σ1):HS pl σ σ1:=fun b blk hb=>by
 obtain ⟨blk1,h1,h2⟩:=heapSame_at h b blk hb
 rw [yBk] at h2
 obtain ⟨blk1',h3,h4⟩:=he b blk hb
 rw [h1] at h3
 simp only [yAa] at h3
 subst h3
 refine ⟨blk1,h1,?_⟩
 cases blk with
 | cells w cs =>
  obtain ⟨w1,cs1,rfl,hw,hl,hc⟩:=h4
  simp only [blkSame] at h2
  obtain ⟨_,h5⟩:=cellsSame_ok h2
  refine ⟨w1,cs1,rfl,hl,fun j p p1 e e1 hn=>?_⟩
  have hv:=h5 j p p1 e e1 (by rw [yBk]; exact hn)
  obtain ⟨v,x⟩:=p
  obtain ⟨v1,x1⟩:=p1
  have hle:=(H.hg b w cs hb _ (yA1 e)).2
  dsimp only at hv hle
  rcases hc j v x v1 x1 e e1 with ⟨h6,h7⟩ | h6
  ·rw [h6,h7]
  ·omega
 | row i l lv cv =>
  obtain ⟨l1,lv1,cv1,rfl,_,_,_,h8⟩:=h4
  refine ⟨l1,lv1,cv1,rfl,fun hn=>?_⟩
  simp only [blkSame,yAu] at h2
  rcases h2 with h2 | h2
  ·have:=yAh h2
   obtain ⟨h9,h10⟩:=h8 this
   exact ⟨h9,h10,this.symm⟩
  ·obtain ⟨p,hp,hf⟩:=any_mem h2
   exfalso
   split at hf
   ·have e1:=yAh hf
    subst e1
    exact hn _ hp
   ·simp at hf
 | mp j st l v =>
  obtain ⟨j1,st1,l1,v1,rfl,_,h8⟩:=h4
  refine ⟨j1,st1,l1,v1,rfl,fun hn=>?_⟩
  simp only [blkSame,yAu] at h2
  rcases h2 with h2 | h2
  ·exact h8 (yAh h2)
  ·obtain ⟨p,hp,hf⟩:=any_mem h2
   exfalso
   split at hf
   ·have e1:=yAh hf
    subst e1
    exact hn _ _ hp
   ·simp at hf
def PB (al1:TA) (σ1:TH) (ps:List Pl) (b:Nat):TB→TB→Prop
 | .cells w cs,blk2=>∃w2 cs2,blk2=.cells w2 cs2∧cs2.length=cs.length∧∀(j:Nat) p2,cs2[j]? = some p2→p2.1≤w2∧((∃c a,p2.2=expC c a∧rdP al1 σ1 (.h b j c)=some a∧Pl.h b j c∈ps)∨(cs[j]? = some p2∧notH ps b j))
 | .row i l lv cv,blk2=>∃l2 lv2 cv2,blk2=.row i l2 lv2 cv2∧(((∃lv1 cv1,σ1[b]? = some (.row i l2 lv1 cv1))∧∃i',Pl.w b i'∈ps)∨(l2=l∧lv2=lv∧cv2=cv∧notW ps b))
 | .mp j st l v,blk2=>∃j2 st2 l2 v2,blk2=.mp j2 st2 l2 v2∧(((∃v1,σ1[b]? = some (.mp j2 st2 l2 v1))∧∃j' st',Pl.m b j' st'∈ps)∨(blk2=.mp j st l v∧notM ps b))
def PQ (al1:TA) (σ1:TH) (ps:List Pl) (σ σ2:TH):Prop:=σ2.length=σ.length∧∀(b:Nat) blk,σ[b]? = some blk→∃blk2,σ2[b]? = some blk2∧BE blk blk2∧PB al1 σ1 ps b blk blk2
theorem castM_some {i j:Nat} {l:List (Int×TT j)} {m:List (Int×TT i)} (h:castM l=some m):∃e:j=i,m=e▸l:=by
 unfold castM at h
 split at h
 ·rename_i e _; simp only [yAa] at h; exact ⟨e,h.symm⟩
 ·simp at h
theorem PQ.nil {al1:TA} {σ1 σ:TH} {σD:Heap} (H:RH σ σD):PQ al1 σ1 [] σ σ:=⟨rfl,fun b blk h=>⟨blk,h,BE.refl blk,by
 cases blk with
 | cells w cs=>exact ⟨w,cs,rfl,rfl,fun j p2 e=>⟨(H.hg b w cs h p2 (yA1 e)).2,.inr ⟨e,fun c hc=>by simp at hc⟩⟩⟩
 | row i l lv cv=>exact ⟨l,lv,cv,rfl,.inr ⟨rfl,rfl,rfl,fun i hi=>by simp at hi⟩⟩
 | mp j st l v=>exact ⟨j,st,l,v,rfl,.inr ⟨rfl,fun j st hi=>by simp at hi⟩⟩⟩⟩
theorem PB.weak {al1:TA} {σ1:TH} {ps:List Pl} {b:Nat} {x y:TB} {p:Pl} (h:PB al1 σ1 ps b x y) (h1:∀j c,p≠.h b j c) (h2:∀i,p≠.w b i) (h3:∀j st,p≠.m b j st):PB al1 σ1 (p::ps) b x y:=by
 cases x with
 | cells w cs =>
  obtain ⟨w2,cs2,e,l2,c2⟩:=h
  refine ⟨w2,cs2,e,l2,fun j p2 e2=>?_⟩
  obtain ⟨h4,h5⟩:=c2 j p2 e2
  refine ⟨h4,?_⟩
  rcases h5 with ⟨c,a,h5,h6,h7⟩ | ⟨h5,h6⟩
  ·exact .inl ⟨c,a,h5,h6,yAk _ h7⟩
  ·refine .inr ⟨h5,fun c hc=>?_⟩
   rcases yAt.1 hc with hc | hc
   ·exact h1 j c hc.symm
   ·exact h6 c hc
 | row i l lv cv =>
  obtain ⟨l2,lv2,cv2,e,h5⟩:=h
  refine ⟨l2,lv2,cv2,e,?_⟩
  rcases h5 with ⟨h5,i',h6⟩ | ⟨h5,h6,h7,h8⟩
  ·exact .inl ⟨h5,i',yAk _ h6⟩
  ·refine .inr ⟨h5,h6,h7,fun i hi=>?_⟩
   rcases yAt.1 hi with hc | hc
   ·exact h2 i hc.symm
   ·exact h8 i hc
 | mp j st l v =>
  obtain ⟨j2,st2,l2,v2,e,h5⟩:=h
  refine ⟨j2,st2,l2,v2,e,?_⟩
  rcases h5 with ⟨h5,j',st',h6⟩ | ⟨h5,h8⟩
  ·exact .inl ⟨h5,j',st',yAk _ h6⟩
  ·refine .inr ⟨h5,fun j st hi=>?_⟩
   rcases yAt.1 hi with hc | hc
   ·exact h3 j st hc.symm
   ·exact h8 j st hc
theorem PQ.step {al1:TA} {σ1 σ σ2:TH} {σD:Heap} {ps pl:List Pl} (H:RH σ σD) (hs:HS pl σ σ1) (p:Pl) (x:p.dn) (hx:rdP al1 σ1 p=some x) (h:PQ al1 σ1 ps σ σ2):PQ al1 σ1 (p::ps) σ (putQ p x σ2):=by
 obtain ⟨hl,hb⟩:=h
 cases p with
 | r t c=>exact ⟨hl,fun b blk e=>let ⟨blk2,e2,h1,h2⟩:=hb b blk e; ⟨blk2,e2,h1,h2.weak (by simp) (by simp) (by simp)⟩⟩
 | w b0 i0 =>
  simp only [putQ]
  split
  ·rename_i j l lv cv e0
   refine ⟨by simp [hl],fun b blk e=>?_⟩
   obtain ⟨blk2,e2,h1,h2⟩:=hb b blk e
   by_cases hbb:b=b0
   ·subst hbb
    rw [e0] at e2
    simp only [yAa] at e2
    subst e2
    refine ⟨_,zaE e0,?_⟩
    simp only [rdP] at hx
    split at hx
    ·rename_i j1 l1 lv1 cv1 e1
     obtain ⟨rfl,rfl⟩:=zbw hx
     obtain ⟨blk1,e3,sb⟩:=hs b blk e
     rw [e1] at e3
     simp only [yAa] at e3
     subst e3
     cases blk with
     | cells w cs=>obtain ⟨_,_,e4,_⟩:=sb; simp at e4
     | mp q st l v=>obtain ⟨_,_,_,_,e4,_⟩:=sb; simp at e4
     | row i l0 lv0 cv0 =>
      obtain ⟨l5,lv5,cv5,e4,_⟩:=sb
      simp only [TB.row.injEq] at e4
      obtain ⟨rfl,e5,rfl,rfl⟩:=e4
      cases e5
      obtain ⟨l6,lv6,cv6,e6,b1,b2,b3,b4⟩:=h1
      simp only [TB.row.injEq] at e6
      obtain ⟨rfl,e7,rfl,rfl⟩:=e6
      cases e7
      exact ⟨⟨_,_,_,rfl,by omega,by omega,fun e=>by omega,fun e=>by omega⟩,⟨_,_,_,rfl,.inl ⟨⟨lv1,cv1,e1⟩,_,yAq ..⟩⟩⟩
    ·simp at hx
   ·exact ⟨blk2,by rw [zat hbb]; exact e2,h1,h2.weak (by simp) (by simp; exact fun e=>absurd e.symm hbb) (by simp)⟩
  ·rename_i hne
   refine ⟨hl,fun b blk e=>?_⟩
   obtain ⟨blk2,e2,h1,h2⟩:=hb b blk e
   refine ⟨blk2,e2,h1,?_⟩
   by_cases hbb:b=b0
   ·subst hbb
    cases blk2 with
    | row i l lv cv=>exact absurd e2 (hne _ _ _ _)
    | cells w cs =>
     cases blk with
     | cells w' cs' =>
      obtain ⟨w2,cs2,e3,l2,c2⟩:=h2
      refine ⟨w2,cs2,e3,l2,fun j p2 e4=>?_⟩
      obtain ⟨h4,h5⟩:=c2 j p2 e4
      refine ⟨h4,?_⟩
      rcases h5 with ⟨c,a,h5,h6,h7⟩ | ⟨h5,h6⟩
      ·exact .inl ⟨c,a,h5,h6,yAk _ h7⟩
      ·refine .inr ⟨h5,fun c hc=>?_⟩
       rcases yAt.1 hc with hc | hc
       ·simp at hc
       ·exact h6 c hc
     | row i l lv cv=>obtain ⟨_,_,_,e3,_⟩:=h2; simp at e3
     | mp q st l v=>obtain ⟨_,_,_,_,e3,_⟩:=h2; simp at e3
    | mp q st l v =>
     cases blk with
     | mp q' st' l' v' =>
      obtain ⟨j2,st2,l2,v2,e3,h5⟩:=h2
      refine ⟨j2,st2,l2,v2,e3,?_⟩
      rcases h5 with ⟨h5,j',st',h6⟩ | ⟨h5,h8⟩
      ·exact .inl ⟨h5,j',st',yAk _ h6⟩
      ·refine .inr ⟨h5,fun j st hi=>?_⟩
       rcases yAt.1 hi with hc | hc
       ·simp at hc
       ·exact h8 j st hc
     | row i l lv cv=>obtain ⟨_,_,_,e3,_⟩:=h2; simp at e3
     | cells w cs=>obtain ⟨_,_,e3,_⟩:=h2; simp at e3
   ·exact h2.weak (by simp) (by simp; exact fun e=>absurd e.symm hbb) (by simp)
 | h b0 j0 c0 =>
  have hread:∀blk,σ[b0]? = some blk→∃w cs w1 cs1 y,blk=.cells w cs∧σ1[b0]? = some (.cells w1 cs1)∧cs1[j0]? = some y∧rdC c0 y.2=some x∧j0<cs.length:=by
   intro blk e
   have hx':=hx
   simp only [rdP] at hx
   split at hx
   ·rename_i w1 cs1 e1
    split at hx
    ·rename_i y e2
     obtain ⟨blk1,e3,sb⟩:=hs b0 blk e
     rw [e1] at e3
     simp only [yAa] at e3
     subst e3
     cases blk with
     | cells w cs =>
      obtain ⟨_,_,e4,l4,_⟩:=sb
      simp only [TB.cells.injEq] at e4
      obtain ⟨rfl,rfl⟩:=e4
      exact ⟨w,cs,w1,cs1,y,rfl,e1,e2,hx,by rw [←l4]; exact (yAb.1 e2).1⟩
     | row i l lv cv=>obtain ⟨_,_,_,e4,_⟩:=sb; simp at e4
     | mp q st l v=>obtain ⟨_,_,_,_,e4,_⟩:=sb; simp at e4
    ·simp at hx
   ·simp at hx
  simp only [putQ]
  split
  ·rename_i w' cs' e0
   refine ⟨by simp [hl],fun b blk e=>?_⟩
   obtain ⟨blk2,e2,h1,h2⟩:=hb b blk e
   by_cases hbb:b=b0
   ·subst hbb
    rw [e0] at e2
    simp only [yAa] at e2
    subst e2
    obtain ⟨w,cs,w1,cs1,y,rfl,e3,e4,e5,e6⟩:=hread blk e
    refine ⟨_,zaE e0,?_⟩
    obtain ⟨w2,cs2,e7,l2,c2⟩:=h2
    simp only [TB.cells.injEq] at e7
    obtain ⟨rfl,rfl⟩:=e7
    obtain ⟨w3,cs3,e8,bw,bl,bc⟩:=h1
    simp only [TB.cells.injEq] at e8
    obtain ⟨rfl,rfl⟩:=e8
    refine ⟨⟨w'+1,_,rfl,by omega,by simp [l2],fun j v z v1 z1 q1 q2=>?_⟩,⟨w'+1,_,rfl,by simp [l2],fun j p2 q=>?_⟩⟩
    ·by_cases hj:j=j0
     ·subst hj
      rw [yBy (by rw [l2]; exact e6)] at q2
      simp only [yAa,yAc] at q2
      right; omega
     ·rw [yAE (fun e=>hj e.symm)] at q2
      exact bc j v z v1 z1 q1 q2
    ·by_cases hj:j=j0
     ·subst hj
      rw [yBy (by rw [l2]; exact e6)] at q
      simp only [yAa] at q
      subst q
      exact ⟨yAn _,.inl ⟨c0,x,rfl,hx,yAq ..⟩⟩
     ·rw [yAE (fun e=>hj e.symm)] at q
      obtain ⟨q1,q2⟩:=c2 j p2 q
      refine ⟨by omega,?_⟩
      rcases q2 with ⟨c,a,h5,h6,h7⟩ | ⟨h5,h6⟩
      ·exact .inl ⟨c,a,h5,h6,yAk _ h7⟩
      ·refine .inr ⟨h5,fun c hc=>?_⟩
       rcases yAt.1 hc with hc | hc
       ·simp only [Pl.h.injEq] at hc; exact hj hc.2.1
       ·exact h6 c hc
   ·exact ⟨blk2,by rw [zat hbb]; exact e2,h1,h2.weak (by simp; exact fun e=>absurd e.symm hbb) (by simp) (by simp)⟩
  ·rename_i hne
   refine ⟨hl,fun b blk e=>?_⟩
   obtain ⟨blk2,e2,h1,h2⟩:=hb b blk e
   by_cases hbb:b=b0
   ·subst hbb
    obtain ⟨w,cs,_,_,_,rfl,_⟩:=hread blk e
    obtain ⟨w3,cs3,rfl,_⟩:=h1
    exact absurd e2 (hne _ _)
   ·exact ⟨blk2,e2,h1,h2.weak (by simp; exact fun e=>absurd e.symm hbb) (by simp) (by simp)⟩
 | m b0 j0 st0 =>
  have hread:∀blk,σ[b0]? = some blk→∃j st l v v1,blk=.mp j st l v∧σ1[b0]? = some (.mp j0 st0 x v1):=by
   intro blk e
   simp only [rdP] at hx
   split at hx
   ·rename_i j1 st1 l1 v1 e1
    split at hx
    ·rename_i hst
     have hst:st0=st1:=eq_of_beq hst
     obtain ⟨rfl,rfl⟩:=castM_some hx
     obtain ⟨blk1,e3,sb⟩:=hs b0 blk e
     rw [e1] at e3
     simp only [yAa] at e3
     subst e3
     cases blk with
     | mp q st l v=>exact ⟨q,st,l,v,v1,rfl,by rw [hst]; exact e1⟩
     | row i l lv cv=>obtain ⟨_,_,_,e4,_⟩:=sb; simp at e4
     | cells w cs=>obtain ⟨_,_,e4,_⟩:=sb; simp at e4
    ·simp at hx
   ·simp at hx
  simp only [putQ]
  split
  ·rename_i j' st' l' v' e0
   refine ⟨by simp [hl],fun b blk e=>?_⟩
   obtain ⟨blk2,e2,h1,h2⟩:=hb b blk e
   by_cases hbb:b=b0
   ·subst hbb
    rw [e0] at e2
    simp only [yAa] at e2
    subst e2
    obtain ⟨j,st,l,v,v1,rfl,e3⟩:=hread blk e
    obtain ⟨_,_,_,_,e4,b1,b2⟩:=h1
    simp only [TB.mp.injEq] at e4
    obtain ⟨rfl,rfl,e5,rfl⟩:=e4
    cases e5
    exact ⟨_,zaE e0,⟨_,_,_,_,rfl,by omega,fun e=>by omega⟩,⟨_,_,_,_,rfl,.inl ⟨⟨v1,e3⟩,_,_,yAq ..⟩⟩⟩
   ·exact ⟨blk2,by rw [zat hbb]; exact e2,h1,h2.weak (by simp) (by simp) (by simp; exact fun e=>absurd e.symm hbb)⟩
  ·rename_i hne
   refine ⟨hl,fun b blk e=>?_⟩
   obtain ⟨blk2,e2,h1,h2⟩:=hb b blk e
   by_cases hbb:b=b0
   ·subst hbb
    obtain ⟨j,st,l,v,v1,rfl,_⟩:=hread blk e
    obtain ⟨_,_,_,_,rfl,_⟩:=h1
    exact absurd e2 (hne _ _ _ _)
   ·exact ⟨blk2,e2,h1,h2.weak (by simp) (by simp) (by simp; exact fun e=>absurd e.symm hbb)⟩
theorem PQ.all {al1:TA} {σ1 σ:TH} {σD:Heap} {pl:List Pl} (H:RH σ σD) (hs:HS pl σ σ1):∀(ps:List Pl) (x:tupP ps),rdPs al1 σ1 ps=some x→PQ al1 σ1 ps σ (putQs ps x σ):=by
 intro ps
 induction ps with
 | nil=>intro x _; exact PQ.nil H
 | cons p ps ih =>
  intro x hx
  cases ps with
  | nil=>exact PQ.step H hs p x hx (PQ.nil H)
  | cons q ps =>
   simp only [rdPs] at hx
   split at hx
   ·rename_i a b h1 h2
    simp only [yAa] at hx
    subst hx
    exact PQ.step H hs p a h1 (ih b h2)
   ·simp at hx
theorem PQ.ext {al1:TA} {σ1 σ σ2:TH} {ps:List Pl} (h:PQ al1 σ1 ps σ σ2):Ext σ σ2:=fun b blk e=>let ⟨blk2,e2,h1,_⟩:=h.2 b blk e; ⟨blk2,e2,h1⟩
theorem PQ.hs {al1:TA} {σ1 σ σ2:TH} {ps:List Pl} (h:PQ al1 σ1 ps σ σ2) (hs:HS ps σ σ1):HS ps σ σ2:=fun b blk e=>by
 obtain ⟨blk2,e2,h1,h2⟩:=h.2 b blk e
 refine ⟨blk2,e2,?_⟩
 cases blk with
 | cells w cs =>
  obtain ⟨w2,cs2,rfl,l2,c2⟩:=h2
  refine ⟨w2,cs2,rfl,l2,fun j p p1 q q1 hn=>?_⟩
  rcases (c2 j p1 q1).2 with ⟨c,a,_,_,hm⟩ | ⟨h3,_⟩
  ·exact absurd hm (hn c)
  ·rw [q] at h3; simp only [yAa] at h3; exact h3.symm
 | row i l lv cv =>
  obtain ⟨l2,lv2,cv2,rfl,h3⟩:=h2
  refine ⟨l2,lv2,cv2,rfl,fun hn=>?_⟩
  rcases h3 with ⟨_,i',hm⟩ | ⟨h3,h4,h5,_⟩
  ·exact absurd hm (hn i')
  ·exact ⟨h3,h4,h5⟩
 | mp j st l v =>
  obtain ⟨j2,st2,l2,v2,rfl,h3⟩:=h2
  refine ⟨j2,st2,l2,v2,rfl,fun hn=>?_⟩
  rcases h3 with ⟨_,j',st',hm⟩ | ⟨h3,_⟩
  ·exact absurd hm (hn j' st')
  ·exact h3
end
end Go.Abs
end
