/- DfwCx, DfwPd, DfwPe, DfwPf, DfwPg, DfwPh, DfwPx, DfwPi -/
import Derived.Test.YtidolomakdofhaaGreatDoorFwD
import Derived.Test.YtidolomakdofhaaGreatDoorFwC
set_option linter.all false
section
namespace Go.Abs
open Go.Fl
theorem arith_add{a b:Int}(ha:a.natAbs<2 ^ 52)(hb:b.natAbs<2 ^ 52):Op.Complex.arith .add .f64 (fl a) (fl b)=pure (fl (a+b)):=by
 have h:FloatKind.f64.format.add (fl a) (fl b)=some (fl (a+b)):=fl_add ha hb;have e:Op.floatArith .add .f64 (fl a) (fl b)=pure (.float .f64 (fl (a+b))):=by show (match FloatKind.f64.format.add (fl a) (fl b) with | some r=>(pure (.float .f64 r):Go.Sem Value) | none=>_)=_;rw[h]
 unfold Op.Complex.arith;rw[e];rfl
theorem arith_sub{a b:Int}(ha:a.natAbs<2 ^ 52)(hb:b.natAbs<2 ^ 52):Op.Complex.arith .sub .f64 (fl a) (fl b)=pure (fl (a-b)):=by
 have h:FloatKind.f64.format.sub (fl a) (fl b)=some (fl (a-b)):=fl_sub ha hb;have e:Op.floatArith .sub .f64 (fl a) (fl b)=pure (.float .f64 (fl (a-b))):=by show (match FloatKind.f64.format.sub (fl a) (fl b) with | some r=>(pure (.float .f64 r):Go.Sem Value) | none=>_)=_;rw[h]
 unfold Op.Complex.arith;rw[e];rfl
theorem arith_mul{a b:Int}(h0:0<=a)(h1:0<=b)(ha:a.natAbs<2 ^ 53)(hb:b.natAbs<2 ^ 53)(hm:(a * b).natAbs<2 ^ 53):Op.Complex.arith .mul .f64 (fl a) (fl b)=pure (fl (a * b)):=by
 have h:FloatKind.f64.format.mul (fl a) (fl b)=some (fl (a * b)):=fl_mul h0 h1 ha hb hm;have e:Op.floatArith .mul .f64 (fl a) (fl b)=pure (.float .f64 (fl (a * b))):=by show (match FloatKind.f64.format.mul (fl a) (fl b) with | some r=>(pure (.float .f64 r):Go.Sem Value) | none=>_)=_;rw[h]
 unfold Op.Complex.arith;rw[e];rfl
theorem complex_add{a b c d:Int}(ha:a.natAbs<2 ^ 52)(hb:b.natAbs<2 ^ 52)(hc:c.natAbs<2 ^ 52)(hd:d.natAbs<2 ^ 52) :
  Op.complexOp .add .f64 (fl a) (fl b) (fl c) (fl d)=pure (.complex .f64 (fl (a+c)) (fl (b+d))):=by
 unfold Op.complexOp;simp only[arith_add ha hc,arith_add hb hd];rfl
theorem complex_sub{a b c d:Int}(ha:a.natAbs<2 ^ 52)(hb:b.natAbs<2 ^ 52)(hc:c.natAbs<2 ^ 52)(hd:d.natAbs<2 ^ 52) :
  Op.complexOp .sub .f64 (fl a) (fl b) (fl c) (fl d)=pure (.complex .f64 (fl (a-c)) (fl (b-d))):=by
 unfold Op.complexOp;simp only[arith_sub ha hc,arith_sub hb hd];rfl
theorem prod_of{x1 x2 x3 x4 A B z:Nat}(p1:Op.Complex.arith .mul .f64 x1 x3=pure A)(p2:Op.Complex.arith .mul .f64 x2 x4=pure z)(p3:Op.Complex.arith .mul .f64 x1 x4=pure z)(p4:Op.Complex.arith .mul .f64 x2 x3=pure B)
  (p5:Op.Complex.arith .sub .f64 A z=pure A) (p6:Op.Complex.arith .add .f64 z B=pure B):Op.Complex.product x1 x2 x3 x4=pure (A,B):=by
 unfold Op.Complex.product Op.Complex.mul Op.Complex.sub Op.Complex.add;rw[p1,p2,p3,p4];show (do pure (<-Op.Complex.arith .sub .f64 A z,<-Op.Complex.arith .add .f64 z B):Go.Sem (Nat×Nat))=_;rw[p5,p6];rfl
theorem cop_of{x1 x2 x3 x4 A B:Nat}(h:Op.Complex.product x1 x2 x3 x4=pure (A,B)):Op.complexOp .mul .f64 x1 x2 x3 x4=pure (.complex .f64 A B):=by unfold Op.complexOp;show (do let (e,f) <-Op.Complex.product x1 x2 x3 x4;pure (.complex .f64 (<-Op.Complex.conv .f64 e .f64) (<-Op.Complex.conv .f64 f .f64)):Go.Sem Value)=_;rw[h];rfl
theorem complex_mul{a b n:Int}(h0:0<=a)(h1:0<=b)(h2:0<=n)(ha:a<=1048576)(hb:b<=1048576)(hn:n<=1048576) :
  Op.complexOp .mul .f64 (fl a) (fl b) (fl n) (fl 0)=pure (.complex .f64 (fl (a * n)) (fl (b * n))):=by
 have m1:0<=a * n/\a * n<=1048576 * 1048576:=⟨yCf h0 h2,Int.mul_le_mul ha hn h2 (by omega)⟩;have m2:0<=b * n/\b * n<=1048576 * 1048576:=⟨yCf h1 h2,Int.mul_le_mul hb hn h2 (by omega)⟩;have z:(0:Int).natAbs<2 ^ 53:=by omega
 have z2:(0:Int).natAbs<2 ^ 52:=by omega
 refine cop_of (prod_of (z:=fl 0) ?_ ?_ ?_ ?_ ?_ ?_)
 ·exact arith_mul h0 h2 (by omega) (by omega) (by omega)
 ·have h:=arith_mul (a:=b) (b:=0) h1 (Int.le_refl _) (by omega) z (by rw[Int.mul_zero];exact z);rw[Int.mul_zero] at h;exact h
 ·have h:=arith_mul (a:=a) (b:=0) h0 (Int.le_refl _) (by omega) z (by rw[Int.mul_zero];exact z);rw[Int.mul_zero] at h;exact h
 ·exact arith_mul h1 h2 (by omega) (by omega) (by omega)
 ·have h:=arith_sub (a:=a * n) (b:=0) (by omega) z2;rw[Int.sub_zero] at h;exact h
 ·have h:=arith_add (a:=0) (b:=b * n) z2 (by omega);rw[Int.zero_add] at h;exact h
theorem float_int{n:Int}(h:n.natAbs<2 ^ 53):Conv.floatToInt .f64 (fl n) .i64=pure (.int .i64 n):=by unfold Conv.floatToInt;have e:(FloatKind.f64.decode (fl n)).toInt .zero=some n:=fl_int h;simp only[e];have h1:IntKind.i64.min=-9223372036854775808:=rfl;have h2:IntKind.i64.max=9223372036854775807:=rfl;rw[if_pos (by rw[h1,h2];omega)]
end Go.Abs
end
section
namespace Go.Abs
section
variable[Gl][Y:Ty]
variable{P:Program}{orc:Orc}{n:Nat}{alD:AL}{U U1:TH}{σD σD1:Heap}{o:AOp}{Q:TV->TH->Bool->List Nat->Prop}{rd:Opd->Option TV}
theorem zc3(hr:RdOk U alD rd){x:Operand}{v:TV}(h:valR rd x=some v):∃d,oev alD x=some d/\RT v d/\GV U v:=by
 unfold valR at h;split at h
 ·rename_i o ho;obtain ⟨d,h1,h2⟩:=hr o v h;exact ⟨d,by simp only[oev,ho];exact h1,h2⟩
 ·simp at h
theorem valT_ok{v:TV}{d:D}{a:Value}(h:valT v=some a)(r:RT v d):d.val? = some a/\d=.c (.lit a):=by
 unfold valT at h;split at h
 ·simp only[yAa] at h;subst h;rcases r with r | rfl
  ·simp at r
  ·exact ⟨rfl,rfl⟩
 ·simp only[yAa] at h;subst h;rcases r with r | rfl
  ·simp at r
  ·exact ⟨rfl,rfl⟩
 ·simp at h
def flat:Value->Bool
 |.agg _ | .tuple _=>false
 |_=>true
theorem ofVT_ok{v:Value}(h:flat v=true):RT (ofVT v) (ofVal v)/\GV U (ofVT v):=by
 unfold ofVT;split
 ·exact ⟨.inr rfl,True.intro⟩
 ·refine ⟨.inr ?_,rfl⟩;cases v <;> first | rfl | simp[flat] at h
theorem valC_ok{x:TC}{d:D}{a:Value}(h:valC x=some a)(r:RC x d):litOf d=some a:=by
 unfold valC at h;split at h
 ·simp only[yAa] at h;subst h;rcases r with r | rfl
  ·simp at r
  ·rfl
 ·simp only[yAa] at h;subst h;rcases r with r | rfl
  ·simp at r
  ·rfl
 ·simp at h
theorem valCs_ok:∀{xs:List TC}{ds:List D}{vs:List Value},valCs xs=some vs->All2 RC xs ds->ds.mapM litOf=some vs:=by
 intro xs ds vs h r;induction r generalizing vs with
 |nil=>simp only[valCs,yAa] at h;subst h;rfl
 |cons h1 _ ih=>
  simp only[valCs] at h;split at h
  ·rename_i a b h2 h3;simp only[yAa] at h;subst h;rw[yAS,valC_ok h2 h1,ih h3];rfl
  ·simp at h
theorem eqFs_ok{xs ys:Array Value}{d:Nat}:∀{fs:List Field}{r:Bool},eqFs P xs ys fs=some r->zaH P (Op.eqFields (d+1) xs ys fs)=some r:=by
 intro fs;induction fs with
 |nil=>intro r h;simp only[eqFs,yAa] at h;subst h;rfl
 |cons f fs ih=>
  intro r h;simp only[eqFs] at h;split at h
  ·rename_i k a k' b k2 q h1 h2 h3 h4 h5;split at h
   ·rename_i e _;subst e;simp only[yAa] at h;subst h;exact eqF_cons h1 h2 h3 (eq_int h4) (ih h5)
   ·simp at h
  ·rename_i a b q h1 h2 h3 h4 h5;simp only[yAa] at h;subst h;exact eqF_cons h1 h2 h3 (eq_bool h4) (ih h5)
  ·simp at h
theorem eqT_ok{t:TypeId}{xs ys:List TC}{ds es:List D}{r:Bool}(h:eqT P t xs ys=some r)(h1:All2 RC xs ds)(h2:All2 RC ys es) :
  ∃vs ws,(D.agg ds).val? = some (.agg vs)/\(D.agg es).val? = some (.agg ws)/\P.eqGuardType P.depth t=false/\zaH P (Op.equalIn 10000 t (.agg vs) (.agg ws))=some r:=by
 unfold eqT at h;split at h
 ·rename_i vs ws fs h3 h4 h5 h6 h7;refine ⟨vs.toArray,ws.toArray,?_,?_,h6,?_⟩
  ·simp only[D.val?,valCs_ok h3 h1,Option.map_some]
  ·simp only[D.val?,valCs_ok h4 h2,Option.map_some]
  ·have hf:P.fieldsOf t=fs:=by simp only[Program.fieldsOf,h5]
   refine eq_agg (d:=9999) (by rw[hf];exact h5) h7 ?_;rw[hf];exact eqFs_ok (d:=9998) h
 ·simp at h
theorem zby{α β:Type}{o:Option α}{f:α->Option β}{b:β}(h:o.bind f=some b):∃a,o=some a/\f a=some b:=yAe.1 h
theorem binV_cx{o:BinOp}{t:TypeId}{x y:Operand}{a b c d:Nat}{v:Value}(ho:o≠.eql)(ho2:o≠.neq)(ho3:o≠.shl)(ho4:o≠.shr)(h:Op.complexOp o .f64 a b c d=pure v):binV P o t x y (.complex .f64 a b) (.complex .f64 c d)=some v:=by
 unfold binV;rw[zaq];have hg:zaH P (eqGuard o t x y (.complex .f64 a b) (.complex .f64 c d))=some ():=by cases o <;> first | rfl | exact absurd rfl ho | exact absurd rfl ho2
 rw[hg,xAa];have:binOp o t (.complex .f64 a b) (.complex .f64 c d)=Op.complexOp o .f64 a b c d:=by cases o <;> first | rfl | exact absurd rfl ho | exact absurd rfl ho2 | exact absurd rfl ho3 | exact absurd rfl ho4
 rw[this,h];rfl
theorem fsum_ok{a b c:Int}(h:fsum? a b=some c):a.natAbs<2 ^ 52/\b.natAbs<2 ^ 52/\c=a+b:=by
 unfold fsum? at h;split at h
 ·rename_i hh;simp only[yAa] at h;exact ⟨hh.1,hh.2,h.symm⟩
 ·simp at h
theorem fdif_ok{a b c:Int}(h:fdif? a b=some c):a.natAbs<2 ^ 52/\b.natAbs<2 ^ 52/\c=a-b:=by
 unfold fdif? at h;split at h
 ·rename_i hh;simp only[yAa] at h;exact ⟨hh.1,hh.2,h.symm⟩
 ·simp at h
theorem fmul_ok{a b c:Int}(h:fmul? a b=some c):0<=a/\a<=1048576/\0<=b/\b<=1048576/\c=a * b:=by
 unfold fmul? at h;split at h
 ·rename_i hh;simp only[yAa] at h;exact ⟨hh.1,hh.2.1,hh.2.2.1,hh.2.2.2,h.symm⟩
 ·simp at h
theorem valO_ok(hr:RdOk U alD rd){x:Operand}{a:Value}(h:valO (valR rd) x=some a):(oev alD x).bind D.val? = some a:=by
 unfold valO at h;split at h
 ·rename_i v hv;obtain ⟨d,h1,h2,_⟩:=zc3 hr hv;rw[h1,xAa];exact (valT_ok h h2).1
 ·simp at h
theorem genV_ok(hr:RdOk U alD rd){op:Op}{ty:TypeId}{v:Value}(hsel:∀cs b,op≠.select cs b)(h:genV P op ty (valR rd)=some v):genA P op ty alD=some (ofVal v):=by
 unfold genV at h;split at h
 ·rename_i hall;rw[yAp] at hall;have key:∀x∈op.operands.toList,(oev alD x).bind D.val? = valO (valR rd) x:=λx hx=>by
   have:=hall x hx;rw[yAX] at this;obtain ⟨a,ha⟩:=this;rw[ha];exact valO_ok hr ha
  unfold genA;rw[if_pos (by rw[yAp];intro x hx;rw[key x hx];exact hall x hx)];rw[execOp_congr (ρ:=λx=>(((oev alD x).bind D.val?).getD undef)) (ρ':=λx=>(valO (valR rd) x).getD undef) { dst:=none,op:=op,type:=ty,pos:="",after:=#[],guard:=none } hsel (λx hx=>by rw[key x (by simpa using hx)])]
  split at h
  ·rename_i v' hv;simp only[yAa] at h;subst h;rw[hv]
  ·simp at h
 ·simp at h
theorem conv_fl{t t':TypeId}{ka:IntKind}{a:Int}(ht:P.underlying t'=some (.float .f64))(hs:(P.underlying t).isSome=true):zaH P (convert t t' (.int ka a))=some (.float .f64 (Fl.fl a)):=by obtain ⟨u,hu⟩:=yAX.1 hs;unfold convert;rw[zaq,zbF hu,xAa,zaq,zbF ht,xAa];cases u <;> rfl
theorem conv_int{t t':TypeId}{a b:Int}(ht:P.underlying t'=some (.int .i64))(hs:(P.underlying t).isSome=true)(h:fint? a=some b):zaH P (convert t t' (.float .f64 (Fl.fl a)))=some (.int .i64 b):=by
 unfold fint? at h;split at h
 ·rename_i hh;simp only[yAa] at h;subst h;obtain ⟨u,hu⟩:=yAX.1 hs;unfold convert;rw[zaq,zbF hu,xAa,zaq,zbF ht,xAa];have e:zaH P (Conv.floatToInt .f64 (Fl.fl a) .i64)=some (.int .i64 a):=by rw[float_int hh];rfl
  cases u <;> exact e
 ·simp at h
theorem gen_of{c:Call}{ty:TypeId}{b:Builtin}{v:Value}(hc:c.callee=.builtin b)(hall:∀x∈c.args.toList,((oev alD x).bind D.val?).isSome=true)
  (h:zaH P (builtin b c.argTypes ty (c.args.map λ| .const _=>true | _=>false) (c.args.map λx=>((oev alD x).bind D.val?).getD undef))=some (.value v)):genA P (.call c) ty alD=some (ofVal v):=by
 obtain ⟨callee,args,ts⟩:=c;dsimp only at hc hall h;subst hc;have hop:(Op.operands (.call ⟨.builtin b,args,ts⟩)).toList=args.toList:=by simp[Op.operands,Call.operands]
 unfold genA;rw[if_pos (by rw[hop,yAp];exact hall)];have:zaH P (execOp (λx=>((oev alD x).bind D.val?).getD undef) { dst:=none,op:=.call ⟨.builtin b,args,ts⟩,type:=ty,pos:="",after:=#[],guard:=none })=some (.value v):=h
 rw[this]
theorem gen_complex{c:Call}{ty:TypeId}{x y:Operand}{a b:Nat}(hc:c.callee=.builtin .complex)(ha:c.args.toList=[x,y])(e1:oev alD x=some (.c (.lit (.float .f64 a))))(e2:oev alD y=some (.c (.lit (.float .f64 b)))) :
  genA P (.call c) ty alD=some (.c (.lit (.complex .f64 a b))):=by
 have ha':c.args=#[x,y]:=by rw[<-xAn (xs:=c.args),ha]
 refine gen_of (v:=.complex .f64 a b) hc (by rw[ha];simp[e1,e2,D.val?]) ?_;rw[ha'];have e3:(#[x,y].map λx=>((oev alD x).bind D.val?).getD undef)=#[.float .f64 a,.float .f64 b]:=by simp[e1,e2,D.val?]
 rw[e3];rfl
theorem gen_real{c:Call}{ty:TypeId}{x:Operand}{a b:Nat}(hc:c.callee=.builtin .real)(ha:c.args.toList=[x])(e1:oev alD x=some (.c (.lit (.complex .f64 a b)))) :
  genA P (.call c) ty alD=some (.c (.lit (.float .f64 a))):=by
 have ha':c.args=#[x]:=by rw[<-xAn (xs:=c.args),ha]
 refine gen_of (v:=.float .f64 a) hc (by rw[ha];simp[e1,D.val?]) ?_;rw[ha'];have e3:(#[x].map λx=>((oev alD x).bind D.val?).getD undef)=#[.complex .f64 a b]:=by simp[e1,D.val?]
 rw[e3];rfl
theorem gen_imag{c:Call}{ty:TypeId}{x:Operand}{a b:Nat}(hc:c.callee=.builtin .imag)(ha:c.args.toList=[x])(e1:oev alD x=some (.c (.lit (.complex .f64 a b)))) :
  genA P (.call c) ty alD=some (.c (.lit (.float .f64 b))):=by
 have ha':c.args=#[x]:=by rw[<-xAn (xs:=c.args),ha]
 refine gen_of (v:=.float .f64 b) hc (by rw[ha];simp[e1,D.val?]) ?_;rw[ha'];have e3:(#[x].map λx=>((oev alD x).bind D.val?).getD undef)=#[.complex .f64 a b]:=by simp[e1,D.val?]
 rw[e3];rfl
theorem flat_of{v:Value}(h:isFlat v=true):flat v=true:=by cases v <;> first | rfl | simp[isFlat] at h
variable{R:Type}{k:KO R}{r:R}
theorem OpK.one{x:TC}{d:D}(q:Q (.c x) U false [])(h:OpR P orc n alD σD o d σD [])(hd:d=x.er)(hg:GC U x)(H:RH U σD):OpK P orc n alD U σD o Q:=
 OpK.pure h (v:=.c x) (Or.inr hd) hg H q
theorem OpK.vt{v:Value}(q:Q (ofVT v) U false [])(h:OpR P orc n alD σD o (ofVal v) σD [])(hf:isFlat v=true)(H:RH U σD):OpK P orc n alD U σD o Q:=
 OpK.pure h (ofVT_ok (U:=U) (flat_of hf)).1 (ofVT_ok (flat_of hf)).2 H q
theorem genT_ok{op:Op}{ty:TypeId}(hr:RdOk U alD rd)(H:RH U σD)(h:genT P op ty rd U k=some r):OpK P orc n alD U σD (.gen op ty) (λv U1 rs wr=>k v U1 rs wr=some r):=by
 unfold genT at h;split at h
 ·
  rename_i o t x y t';split at h
  ·
   rename_i ka a kb b hx hy;obtain ⟨d1,e1,r1,_⟩:=zc3 hr hx;obtain ⟨d2,e2,r2,_⟩:=zc3 hr hy;rcases r1 with r1 | rfl
   ·simp at r1
   rcases r2 with r2 | rfl
   ·simp at r2
   split at h
   ·split at h
    ·rename_i e _;subst e;obtain ⟨v,h1,h2⟩:=zby h;exact OpK.one h2 (op_bin e1 e2 rfl rfl (bin_quo h1) rfl) rfl rfl H
    ·simp at h
   ·split at h
    ·rename_i e _;subst e;obtain ⟨v,h1,h2⟩:=zby h;exact OpK.one h2 (op_bin e1 e2 rfl rfl (bin_rem h1) rfl) rfl rfl H
    ·simp at h
   ·obtain ⟨v,h1,h2⟩:=zby h;exact OpK.one h2 (op_bin e1 e2 rfl rfl (bin_shr h1) rfl) rfl rfl H
   ·obtain ⟨v,h1,h2⟩:=zby h;exact OpK.one h2 (op_bin e1 e2 rfl rfl (bin_shl h1) rfl) rfl rfl H
   ·split at h
    ·rename_i v hv;split at h
     ·rename_i hf;exact OpK.vt h (op_bin e1 e2 rfl rfl hv rfl) hf H
     ·simp at h
    ·simp at h
  ·
   rename_i xs ys hx hy;obtain ⟨d1,e1,⟨ds,rfl,a1⟩,_⟩:=zc3 hr hx;obtain ⟨d2,e2,⟨es,rfl,a2⟩,_⟩:=zc3 hr hy;split at h
   ·rename_i q hq;obtain ⟨vs,ws,h1,h2,h3,h4⟩:=eqT_ok hq a1 a2;split at h
    ·exact OpK.one h (op_bin e1 e2 h1 h2 (bin_eql h3 h4) rfl) rfl True.intro H
    ·exact OpK.one h (op_bin e1 e2 h1 h2 (bin_neq h3 h4) rfl) rfl True.intro H
    ·simp at h
   ·simp at h
  ·
   rename_i a b c d hx hy;obtain ⟨d1,e1,r1,_⟩:=zc3 hr hx;obtain ⟨d2,e2,r2,_⟩:=zc3 hr hy;rcases r1 with r1 | rfl
   ·simp at r1
   rcases r2 with r2 | rfl
   ·simp at r2
   split at h
   ·obtain ⟨u,h1,h⟩:=zby h;obtain ⟨v,h2,h⟩:=zby h;obtain ⟨p1,p2,rfl⟩:=fsum_ok h1;obtain ⟨p3,p4,rfl⟩:=fsum_ok h2;exact OpK.one h (op_bin e1 e2 rfl rfl (binV_cx (by simp) (by simp) (by simp) (by simp) (complex_add p1 p3 p2 p4)) rfl) rfl True.intro H
   ·obtain ⟨u,h1,h⟩:=zby h;obtain ⟨v,h2,h⟩:=zby h;obtain ⟨p1,p2,rfl⟩:=fdif_ok h1;obtain ⟨p3,p4,rfl⟩:=fdif_ok h2;exact OpK.one h (op_bin e1 e2 rfl rfl (binV_cx (by simp) (by simp) (by simp) (by simp) (complex_sub p1 p3 p2 p4)) rfl) rfl True.intro H
   ·split at h
    ·obtain ⟨u,h1,h⟩:=zby h;obtain ⟨v,h2,h⟩:=zby h;obtain ⟨p1,p2,p3,p4,rfl⟩:=fmul_ok h1;obtain ⟨p5,p6,_,_,rfl⟩:=fmul_ok h2;exact OpK.one h (op_bin e1 e2 rfl rfl (binV_cx (by simp) (by simp) (by simp) (by simp) (complex_mul p1 p5 p3 p2 p6 p4)) rfl) rfl True.intro H
    ·simp at h
   ·simp at h
  ·
   rename_i u v _ _ _ hx hy;obtain ⟨d1,e1,r1,_⟩:=zc3 hr hx;obtain ⟨d2,e2,r2,_⟩:=zc3 hr hy;split at h
   ·rename_i a b ha hb;obtain ⟨h1,rfl⟩:=valT_ok ha r1;obtain ⟨h2,rfl⟩:=valT_ok hb r2;split at h
    ·rename_i hu;exact OpK.one h (op_bin e1 e2 rfl rfl (bin_eqlB hu) rfl) rfl True.intro H
    ·rename_i hu;exact OpK.one h (op_bin e1 e2 rfl rfl (bin_neqB hu) rfl) rfl True.intro H
    ·simp at h
   ·rename_i a b _ ha hb;obtain ⟨h1,rfl⟩:=valT_ok ha r1;obtain ⟨h2,rfl⟩:=valT_ok hb r2;split at h
    ·rename_i w hw;split at h
     ·rename_i hf;exact OpK.vt h (op_bin e1 e2 rfl rfl hw rfl) hf H
     ·simp at h
    ·simp at h
   ·simp at h
  ·simp at h
 ·
  rename_i o t x;split at h
  ·rename_i u hu;obtain ⟨d1,e1,r1,_⟩:=zc3 hr hu;split at h
   ·rename_i e he;obtain ⟨h1,rfl⟩:=valT_ok he r1;exact OpK.one h (op_un e1 rfl rfl rfl) rfl True.intro H
   ·rename_i a _ ha;obtain ⟨h1,rfl⟩:=valT_ok ha r1;split at h
    ·rename_i w hw;split at h
     ·rename_i hf;exact OpK.vt h (op_un e1 rfl hw rfl) hf H
     ·simp at h
    ·simp at h
   ·simp at h
  ·simp at h
 ·
  rename_i t t' x;split at h
  ·rename_i ka a ha;obtain ⟨d1,e1,r1,_⟩:=zc3 hr ha;rcases r1 with r1 | rfl
   ·simp at r1
   split at h
   ·rename_i ht;split at h
    ·rename_i hs;exact OpK.one h (op_conv e1 rfl (v:=.float .f64 (Fl.fl a)) (conv_fl ht hs) rfl) rfl True.intro H
    ·simp at h
   ·split at h
    ·rename_i w hw;split at h
     ·rename_i hf;exact OpK.vt h (op_conv e1 rfl hw rfl) hf H
     ·simp at h
    ·simp at h
  ·rename_i a ha;obtain ⟨d1,e1,r1,_⟩:=zc3 hr ha;rcases r1 with r1 | rfl
   ·simp at r1
   split at h
   ·rename_i ht hs;obtain ⟨b,h1,h2⟩:=zby h;exact OpK.one h2 (op_conv e1 rfl (v:=.int .i64 b) (conv_int ht hs h1) rfl) rfl rfl H
   ·simp at h
  ·rename_i u _ _ hu;obtain ⟨d1,e1,r1,_⟩:=zc3 hr hu;split at h
   ·rename_i a ha;obtain ⟨h1,rfl⟩:=valT_ok ha r1;split at h
    ·rename_i w hw;split at h
     ·rename_i hf;exact OpK.vt h (op_conv e1 rfl hw rfl) hf H
     ·simp at h
    ·simp at h
   ·simp at h
  ·simp at h
 ·
  rename_i c;split at h
  ·split at h
   ·rename_i v hv;split at h
    ·rename_i hf;refine OpK.vt h (op_call_gen (genV_ok hr (λcs b=>by simp) hv)) hf H
    ·simp at h
   ·simp at h
  ·split at h
   ·rename_i v hv;split at h
    ·rename_i hf;refine OpK.vt h (op_call_gen (genV_ok hr (λcs b=>by simp) hv)) hf H
    ·simp at h
   ·simp at h
  ·rename_i x y hc ha;split at h
   ·rename_i a b hx hy;obtain ⟨d1,e1,r1,_⟩:=zc3 hr hx;obtain ⟨d2,e2,r2,_⟩:=zc3 hr hy;rcases r1 with r1 | rfl
    ·simp at r1
    rcases r2 with r2 | rfl
    ·simp at r2
    exact OpK.one h (op_call_gen (gen_complex hc ha e1 e2)) rfl True.intro H
   ·rename_i a b hx hy;obtain ⟨d1,e1,r1,_⟩:=zc3 hr hx;obtain ⟨d2,e2,r2,_⟩:=zc3 hr hy;rcases r1 with r1 | rfl
    ·simp at r1
    rcases r2 with r2 | rfl
    ·simp at r2
    split at h
    ·rename_i hb;have:=yAi hb;subst this;exact OpK.one h (op_call_gen (gen_complex hc ha e1 e2)) rfl True.intro H
    ·simp at h
   ·simp at h
  ·rename_i x hc ha;split at h
   ·rename_i a b hx;obtain ⟨d1,e1,r1,_⟩:=zc3 hr hx;rcases r1 with r1 | rfl
    ·simp at r1
    exact OpK.one h (op_call_gen (gen_real hc ha e1)) rfl True.intro H
   ·simp at h
  ·rename_i x hc ha;split at h
   ·rename_i a b hx;obtain ⟨d1,e1,r1,_⟩:=zc3 hr hx;rcases r1 with r1 | rfl
    ·simp at r1
    exact OpK.one h (op_call_gen (gen_imag hc ha e1)) rfl True.intro H
   ·simp at h
  ·simp at h
 ·simp at h
end
end Go.Abs
end
section
namespace Go.Abs
noncomputable section
variable[Gl][Y:Ty]
def outE:(cs:List VCd)->outV cs->List D
 |[],_=>[]
 |[c],x=>[c.enc x]
 |c::d::cs,x=>c.enc x.1::outE (d::cs) x.2
def outD(cs:List VCd)(x:outV cs):D:=one (outE cs x)
def zaM(P:Program)(g:Nat)(s:TSp):Prop:=∀a r,s.f a=some r->Pure P g (encV s.ins a) (outD s.out r)
def TSsOk(P:Program)(S:TSs):Prop:=∀p∈S,zaM P p.1 p.2
def zdG(S:TSs):Specs:=S.map λp=>(p.1,spec (encV p.2.ins) (outD p.2.out) p.2.f)
theorem VCd.inj{c:VCd}{a b:c.dn}(h:c.enc a=c.enc b):a=b:=by
 cases c with
 |c x=>simp only[VCd.enc,D.c.injEq] at h;exact encC_inj (λj _=>enc_inj j) h
 |st i=>exact ST_inj (λ{a b}=>enc_inj i a b) h
 |fp i=>simp only[VCd.enc,D.c.injEq,C.fptr.injEq,yBN] at h;exact enc_inj i a b h
 |k g=>rfl
theorem encV_inj:∀{cs:List VCd}{a b:tupV cs},encV cs a=encV cs b->a=b:=by
 intro cs;induction cs with
 |nil=>intro a b _;rfl
 |cons c cs ih=>intro a b h;simp only[encV,yBs] at h;obtain ⟨a1,a2⟩:=a;obtain ⟨b1,b2⟩:=b;have h1:=VCd.inj h.1;have h2:=ih h.2;dsimp only at h1 h2;rw[h1,h2]
theorem specsOf_ok{P:Program}{S:TSs}(h:TSsOk P S):SpecsOk P (zdG S):=by intro p hp ds r hr;simp only[zdG,yA4] at hp;obtain ⟨q,hq,rfl⟩:=hp;exact spec_ok (h q hq) ds r hr
theorem spk_of{g:Nat}{s:TSp}:∀{S:TSs},tsk g S=some s->spk g (zdG S)=some (spec (encV s.ins) (outD s.out) s.f):=by
 intro S;induction S with
 |nil=>intro h;simp[tsk] at h
 |cons p S ih=>
  intro h;obtain ⟨q,s'⟩:=p;simp only[tsk] at h;simp only[zdG,yAw,spk];split at h
  ·rename_i hb;simp only[yAa] at h;subst h
   try rw[hb]
  ·rename_i hb
   try rw[hb]
   exact ih h
theorem rdSt_agg{i:Nat}{xs:List TC}{a:TT i}(h:rdSt i (.agg xs)=some a):∃x,rdT (Y.fl i) xs=some x/\a=Y.mkt i x:=by
 simp only[rdSt] at h;cases h1:rdT (Y.fl i) xs with
 |none=>rw[h1] at h;simp at h
 |some x=>rw[h1] at h;simp only[yAa] at h;exact ⟨x,rfl,h.symm⟩
theorem rdV_ok{c:VCd}{v:TV}{d:D}{a:c.dn}(h:rdV c v=some a)(r:RT v d):nrm d=c.enc a/\d.low 0=true/\d.plain=true:=by
 cases c with
 |c x=>
  cases v with
  |c y=>
   simp only[rdV,rdCV] at h;obtain ⟨h1,h2⟩:=rdC_ok h;rcases r with r | rfl
   ·exact absurd r h1
   ·obtain ⟨q,hq⟩:∃q,y.er=.c q:=by
     cases hy:y.er with
     |c q=>exact ⟨q,rfl⟩
     |_=>rw[hy] at h2;simp[nrm1] at h2
    rw[hq] at h2 ⊢;exact ⟨h2,rfl,rfl⟩
  |agg xs=>simp[rdV,rdCV] at h
  |tup xs=>simp[rdV,rdCV] at h
 |st i=>
  cases v with
  |c y=>simp[rdV,rdSt] at h
  |agg xs=>
   obtain ⟨x,h1,rfl⟩:=rdSt_agg h;obtain ⟨h2,h3⟩:=rdT_ok h1;obtain ⟨ds,rfl,ha⟩:=r;rw[ha.eq h2];have key:∀(l:List D)(m:List C),l.map nrm1=m.map .c->D.low.lows 0 l=true/\(l.all λd=>match d with | .fn ..=>false | _=>true)=true:=by
    intro l;induction l with
    |nil=>intro m _;exact ⟨rfl,rfl⟩
    |cons d l ih=>
     intro m hm;cases m with
     |nil=>simp at hm
     |cons c m=>
      simp only[yAw,yBs] at hm;obtain ⟨h4,h5⟩:=ih m hm.2;cases d with
      |c x=>exact ⟨by simp[D.low.lows,D.low,h4],by simp[h5]⟩
      |_=>simp[nrm1] at hm
   obtain ⟨h4,h5⟩:=key _ _ h3;refine ⟨?_,h4,h5⟩;simp only[nrm,h3,VCd.enc,enc_eq,Y.pm]
  |tup xs=>simp[rdV,rdSt] at h
 |fp i=>
  simp only[rdV] at h;unfold rdFp at h;split at h
  ·split at h
   ·rename_i e _;subst e;simp only[yAa] at h;subst h;rcases r with r | rfl
    ·simp at r
    ·exact ⟨rfl,rfl,rfl⟩
   ·simp at h
  ·simp at h
 |k g=>
  simp only[rdV] at h;unfold rdFn at h;split at h
  ·split at h
   ·rename_i hb;have:=yAi hb;subst this;rcases r with r | rfl
    ·simp at r
    ·exact ⟨rfl,rfl,rfl⟩
   ·simp at h
  ·simp at h
inductive All3:List TV->List D->Prop where
 |nil:All3 [] []
 |cons {v:TV} {d:D} {vs:List TV} {ds:List D} (h:RT v d) (r:All3 vs ds):All3 (v::vs) (d::ds)
theorem rdVs_ok:∀{cs:List VCd}{vs:List TV}{ds:List D}{a:tupV cs},rdVs cs vs=some a->All3 vs ds->ds.map nrm=encV cs a/\(ds.all λd=>d.low 0&&d.plain)=true:=by
 intro cs;induction cs with
 |nil=>
  intro vs ds a h r;cases r with
  |nil=>exact ⟨rfl,rfl⟩
  |cons _ _=>simp[rdVs] at h
 |cons c cs ih=>
  intro vs ds a h r;cases r with
  |nil=>simp[rdVs] at h
  |cons h1 r=>
   simp only[rdVs] at h;split at h
   ·rename_i x y h2 h3;simp only[yAa] at h;subst h;obtain ⟨h4,h5,h6⟩:=rdV_ok h2 h1;obtain ⟨h7,h8⟩:=ih h3 r;exact ⟨by simp only[yAw,encV,h4,h7],by simp[h5,h6,h8]⟩
   ·simp at h
theorem VCd.enc_low(c:VCd)(a:c.dn):(c.enc a).low 0=true:=by
 cases c with
 |c x=>rfl
 |st i=>exact lows_c _
 |fp i=>rfl
 |k g=>rfl
theorem outE_low:∀(cs:List VCd)(x:outV cs),D.low.lows 0 (outE cs x)=true:=by
 intro cs;induction cs with
 |nil=>intro x;rfl
 |cons c cs ih=>
  intro x;cases cs with
  |nil=>simp only[outE,D.low.lows,VCd.enc_low,yBO]
  |cons d cs=>simp only[outE,D.low.lows,VCd.enc_low,Bool.true_and];exact ih x.2
theorem outD_low(cs:List VCd)(x:outV cs):(outD cs x).low 0=true:=by
 have:=outE_low cs x;unfold outD one;split
 ·rename_i d h;rw[h] at this;simp only[D.low.lows,yBq] at this;exact this
 ·exact this
theorem te_ok(c:VCd)(a:c.dn):RE (c.te a) (c.enc a):=by
 cases c with
 |c x=>exact ⟨_,rfl,.inr (expC_er x a).symm⟩
 |st i=>exact ⟨_,rfl,exp_all i a⟩
 |fp i=>exact ⟨_,rfl,.inr rfl⟩
 |k g=>exact ⟨_,rfl,.inr rfl⟩
theorem outL_ok:∀(cs:List VCd)(x:outV cs),All2 RE (outL cs x) (outE cs x):=by
 intro cs;induction cs with
 |nil=>intro x;exact .nil
 |cons c cs ih=>
  intro x;cases cs with
  |nil=>exact .cons (te_ok c x) .nil
  |cons d cs=>exact .cons (te_ok c x.1) (ih x.2)
theorem outT_ok(cs:List VCd)(x:outV cs):RT (outT cs x) (outD cs x):=by
 cases cs with
 |nil=>exact ⟨[],rfl,.nil⟩
 |cons c cs=>
  cases cs with
  |nil=>exact c.tv_ok x
  |cons d cs=>refine ⟨outE (c::d::cs) x,?_,outL_ok (c::d::cs) x⟩;cases cs <;> rfl
theorem te_good{U:TH}(c:VCd)(a:c.dn):∀x∈(c.te a).2,GC U x:=by
 cases c with
 |c x=>intro y hy;simp only[VCd.te,yAZ] at hy;subst hy;exact expC_good x a
 |st i=>exact exp_good i a
 |fp i=>intro y hy;simp only[VCd.te,yAZ] at hy;subst hy;trivial
 |k g=>intro y hy;simp only[VCd.te,yAZ] at hy;subst hy;rfl
theorem outL_good{U:TH}:∀(cs:List VCd)(x:outV cs),∀p∈outL cs x,∀y∈p.2,GC U y:=by
 intro cs;induction cs with
 |nil=>intro x p hp;simp[outL] at hp
 |cons c cs ih=>
  intro x p hp;cases cs with
  |nil=>simp only[outL,yAZ] at hp;subst hp;exact te_good c x
  |cons d cs=>
   simp only[outL,yAu] at hp;rcases hp with rfl | hp
   ·exact te_good c x.1
   ·exact ih x.2 p hp
theorem tv_good{U:TH}(c:VCd)(a:c.dn):GV U (c.tv a):=by
 cases c with
 |c x=>exact expC_good x a
 |st i=>exact exp_good i a
 |fp i=>trivial
 |k g=>rfl
theorem outT_good{U:TH}(cs:List VCd)(x:outV cs):GV U (outT cs x):=by
 cases cs with
 |nil=>intro p hp;simp[outL] at hp
 |cons c cs=>
  cases cs with
  |nil=>exact tv_good c x
  |cons d cs=>exact outL_good (c::d::cs) x
variable{P:Program}{orc:Orc}{n:Nat}{alD:AL}{U U1:TH}{σD σD1:Heap}{o:AOp}{Q:TV->TH->Bool->List Nat->Prop}{rd:Opd->Option TV}
theorem er_c_of_rd{c:CC}{x:TC}{a:c.dn}(h:rdC c x=some a):∃q,x.er=.c q:=by
 obtain ⟨_,h2⟩:=rdC_ok h;cases hy:x.er with
 |c q=>exact ⟨q,rfl⟩
 |_=>rw[hy] at h2;simp[nrm1] at h2
theorem frT_ok(H:RH U σD){x:TC}(g:GC U x){c:CC}{a:c.dn}(h:rdC c (frT U x)=some a):∃q,frzC σD 0 100 x.er=some q/\nrm1 (.c q)=.c (encC enc c a):=by
 have other:frT U x=x->∃q,frzC σD 0 100 x.er=some q/\nrm1 (.c q)=.c (encC enc c a):=λe=>by rw[e] at h;obtain ⟨_,h2⟩:=rdC_ok h;obtain ⟨q,hq⟩:=er_c_of_rd h;rw[hq] at h2;exact ⟨q,by rw[hq];rfl,h2⟩
 cases x with
 |own i b v m=>
  have bad:∀{z:TC}{a:c.dn},z=.own i b v m->rdC c z=some a->False:=λe h=>by subst e;cases c <;> simp[rdC] at h
  cases hb:U[b]? with
  |none=>simp only[frT,hb] at h;exact (bad rfl h).elim
  |some blk=>
   cases blk with
   |row j l lv cv=>
    cases hv:Nat.beq lv v with
    |false=>simp only[frT,hb,hv] at h;exact (bad rfl h).elim
    |true=>simp only[frT,hb,hv] at h;have hv:=yAi hv;obtain ⟨blk,h1,h2⟩:=g;rw[hb] at h1;simp only[yAa] at h1;obtain ⟨_,h3⟩:=h2 j l lv cv h1.symm;obtain ⟨rfl,rfl⟩:=h3 hv.symm;refine ⟨_,frzC_own (k:=98) (za8 j) (Y.ps j) (H.row hb) rfl,?_⟩;obtain ⟨_,h5⟩:=rdC_ok h;rw[<-h5];rfl
   |cells w cs=>simp only[frT,hb] at h;exact (bad rfl h).elim
   |mp j st l w=>simp only[frT,hb] at h;exact (bad rfl h).elim
 |_=>exact other rfl
theorem frTs_ok(H:RH U σD):∀{cs:List CC}{xs:List TC}{a:tup cs},(∀x∈xs,GC U x)->rdT cs (xs.map (frT U))=some a->∃qs,(xs.map TC.er).mapM (frzC σD 0 100)=some qs/\(qs.map D.c).map nrm1=(encT enc cs a).map .c:=by
 intro cs;induction cs with
 |nil=>
  intro xs a _ h;cases xs with
  |nil=>exact ⟨[],rfl,rfl⟩
  |cons x xs=>simp[rdT] at h
 |cons c cs ih=>
  intro xs a g h;cases xs with
  |nil=>simp[rdT] at h
  |cons x xs=>
   simp only[yAw,rdT] at h;split at h
   ·rename_i a1 a2 h1 h2;simp only[yAa] at h;subst h;obtain ⟨q,h3,h4⟩:=frT_ok H (g x (yAq ..)) h1;obtain ⟨qs,h5,h6⟩:=ih (λy hy=>g y (yAm _ hy)) h2;refine ⟨q::qs,?_,?_⟩
    ·rw[yAw];exact mapM_c h3 h5
    ·simp only[yAw,encT,h4,h6]
   ·simp at h
theorem noAny_of_rd(U:TH):∀{cs:List CC}{xs:List TC}{a:tup cs},rdT cs (xs.map (frT U))=some a->∀y∈xs,y≠.any:=by intro cs xs a h y hy e;subst e;have:=(rdT_ok h).1 (frT U .any) (List.mem_map_of_mem hy);exact this rfl
theorem frT_own{i b v m:Nat}:(∃j l,frT U (.own i b v m)=.sl j l)∨frT U (.own i b v m)=.own i b v m:=by
 cases hb:U[b]? with
 |none=>exact .inr (by simp only[frT,hb])
 |some blk=>
  cases blk with
  |row j l lv cv=>
   cases hv:Nat.beq lv v with
   |false=>exact .inr (by simp only[frT,hb,hv])
   |true=>exact .inl ⟨j,l,by simp only[frT,hb,hv]⟩
  |cells w cs=>exact .inr (by simp only[frT,hb])
  |mp j st l w=>exact .inr (by simp only[frT,hb])
theorem frV_ok(H:RH U σD){c:VCd}{v:TV}{d:D}{a:c.dn}(g:GV U v)(r:RT v d)(h:rdV c (frTV U v)=some a):∃d',frzD1 σD 0 100 d=some d'/\frzD σD 0 100 d=some d'/\nrm d'=c.enc a:=by
 have same:frTV U v=v->(∃q,d=.c q)->∃d',frzD1 σD 0 100 d=some d'/\frzD σD 0 100 d=some d'/\nrm d'=c.enc a:=λe ⟨q,hq⟩=>by rw[e] at h;subst hq;exact ⟨_,rfl,rfl,(rdV_ok h r).1⟩
 cases v with
 |c x=>
  cases c with
  |c cc=>
   simp only[frTV,rdV,rdCV] at h;have hne:x≠.any:=λe=>by subst e;exact (rdC_ok h).1 rfl
   rcases r with r | rfl
   ·exact absurd r hne
   obtain ⟨q,h1,h2⟩:=frT_ok H g h;have h3:frzD1 σD 0 100 x.er=some (.c q):=by
    cases hx:x.er with
    |agg cs=>rw[hx] at h1;simp[frzC] at h1
    |_=>rw[hx] at h1;simp only[frzD1,h1,Option.map_some]
   refine ⟨.c q,h3,?_,h2⟩;cases hx:x.er with
   |tup cs=>rw[hx] at h1;simp[frzC] at h1
   |_=>rw[hx] at h3;exact h3
  |st i=>simp[frTV,rdV,rdSt] at h
  |fp i=>
   cases x with
   |fp j b off=>
    rcases r with r | rfl
    ·simp at r
    exact same rfl ⟨_,rfl⟩
   |own i b v m=>exfalso;simp only[frTV,rdV] at h;rcases frT_own (U:=U) (i:=i) (b:=b) (v:=v) (m:=m) with ⟨j,l,e⟩ | e <;> rw[e] at h <;> simp[rdFp] at h
   |_=>simp[frTV,frT,rdV,rdFp] at h
  |k f=>
   cases x with
   |d y=>
    rcases r with r | rfl
    ·simp at r
    refine same rfl ?_;simp only[frTV,frT,rdV,rdFn] at h;split at h
    ·rename_i e;simp only[TV.c.injEq,TC.d.injEq] at e;subst e;exact ⟨_,rfl⟩
    ·simp at h
   |own i b v m=>exfalso;simp only[frTV,rdV] at h;rcases frT_own (U:=U) (i:=i) (b:=b) (v:=v) (m:=m) with ⟨j,l,e⟩ | e <;> rw[e] at h <;> simp[rdFn] at h
   |_=>simp[frTV,frT,rdV,rdFn] at h
 |agg xs=>
  cases c with
  |st i=>obtain ⟨y,h1,rfl⟩:=rdSt_agg h;obtain ⟨ds,rfl,ha⟩:=r;rw[ha.eq (noAny_of_rd U h1)];obtain ⟨qs,h2,h3⟩:=frTs_ok H g h1;have h4:=frz_agg (U:=σD) h2;refine ⟨_,h4,h4,?_⟩;simp only[nrm,h3,VCd.enc,enc_eq,Y.pm]
  |c x=>simp[frTV,rdV,rdCV] at h
  |fp i=>simp[frTV,rdV,rdFp] at h
  |k i=>simp[frTV,rdV,rdFn] at h
 |tup xs=>
  cases c with
  |st i=>simp[frTV,rdV,rdSt] at h
  |c x=>simp[frTV,rdV,rdCV] at h
  |fp i=>simp[frTV,rdV,rdFp] at h
  |k i=>simp[frTV,rdV,rdFn] at h
theorem frVs_ok(H:RH U σD):∀{cs:List VCd}{vs:List TV}{ds:List D}{a:tupV cs},(∀v∈vs,GV U v)->All3 vs ds->rdVs cs (vs.map (frTV U))=some a->∃ds',ds.mapM (frzD σD 0 100)=some ds'/\ds'.map nrm=encV cs a:=by
 intro cs;induction cs with
 |nil=>
  intro vs ds a _ r h;cases r with
  |nil=>exact ⟨[],rfl,rfl⟩
  |cons _ _=>simp[rdVs] at h
 |cons c cs ih=>
  intro vs ds a g r h;cases r with
  |nil=>simp[rdVs] at h
  |cons h1 r=>
   simp only[yAw,rdVs] at h;split at h
   ·rename_i x y h2 h3;simp only[yAa] at h;subst h;obtain ⟨d',_,h4,h5⟩:=frV_ok H (g _ (yAq ..)) h1 h2;obtain ⟨ds',h6,h7⟩:=ih (λv hv=>g v (yAm _ hv)) r h3;exact ⟨d'::ds',mapM_c h4 h6,by simp only[yAw,encV,h5,h7]⟩
   ·simp at h
theorem gr_ground{cs:List VCd}(h:cs.all VCd.gr=true)(x:outV cs):(outD cs x).ground=true:=by
 have cc:∀(c:CC)(a:c.dn),c.gr=true->(D.c (encC enc c a)).ground=true:=by intro c a h;cases c <;> first | rfl | simp[CC.gr] at h
 have ct:∀(cs:List CC)(x:tup cs),cs.all CC.gr=true->D.ground.grounds ((encT enc cs x).map .c)=true:=by
  intro cs;induction cs with
  |nil=>intro x _;rfl
  |cons c cs ih=>intro x h;simp only[List.all_cons,yAj] at h;simp only[encT,yAw,D.ground.grounds,cc c x.1 h.1,ih x.2 h.2,yBO]
 have cv:∀(c:VCd)(a:c.dn),c.gr=true->(c.enc a).ground=true:=by
  intro c a h;cases c with
  |c x=>exact cc x a h
  |st i=>simp only[VCd.enc,D.ground,enc_eq];exact ct _ _ h
  |fp i=>simp[VCd.gr] at h
  |k g=>simp[VCd.gr] at h
 have co:∀(cs:List VCd)(x:outV cs),cs.all VCd.gr=true->D.ground.grounds (outE cs x)=true:=by
  intro cs;induction cs with
  |nil=>intro x _;rfl
  |cons c cs ih=>
   intro x h;simp only[List.all_cons,yAj] at h;cases cs with
   |nil=>simp only[outE,D.ground.grounds,cv c x h.1,yBO]
   |cons d cs=>simp only[outE,D.ground.grounds,cv c x.1 h.1,Bool.true_and];exact ih x.2 (by simpa using h.2)
 have:=co cs x h;unfold outD one;split
 ·rename_i d h;rw[h] at this;simp only[D.ground.grounds,yBq] at this;exact this
 ·exact this
theorem spc_ok{S:TSs}{g:Nat}{s:TSp}{vs:List TV}{ds:List D}{a:tupV s.ins}{r:outV s.out}(hs:tsk g S=some s)(hv:All3 vs ds)(hr:rdVs s.ins vs=some a)(hf:s.f a=some r) :
  zc2 (zdG S) g ds σD=some (outD s.out r,σD,[]):=by
 obtain ⟨h1,h2⟩:=rdVs_ok hr hv;exact callOrc_data (spk_of hs) h2 h1 (spec_eq (λa b=>encV_inj) hf) (outD_low s.out r)
theorem own_low{v:TV}{d:D}(h:hasOwn v=true)(r:RT v d):d.low 0=false:=by
 cases v with
 |c x=>
  cases x <;> simp[hasOwn,isOwn] at h
  rcases r with r | rfl
  ·simp at r
  ·simp[TC.er,D.low]
 |agg xs=>
  obtain ⟨ds,rfl,ha⟩:=r;simp only[hasOwn] at h;simp only[D.low];induction ha with
  |nil=>simp at h
  |cons h1 _ ih=>
   rename_i a b l m _;simp only[List.any_cons,yAt] at h;simp only[D.low.lows];rcases h with h | h
   ·cases a <;> simp[isOwn] at h
    rcases h1 with h1 | rfl
    ·simp at h1
    ·simp[TC.er,D.low]
   ·rw[ih h,Bool.and_false]
 |tup xs=>simp[hasOwn] at h
theorem owns_low{vs:List TV}{ds:List D}(r:All3 vs ds)(h:vs.any hasOwn=true):(ds.all λd=>d.low 0&&d.plain)=false:=by
 induction r with
 |nil=>simp at h
 |cons h1 _ ih=>
  simp only[List.any_cons,yAt] at h;simp only[List.all_cons];rcases h with h | h
  ·rw[own_low h h1];rfl
  ·rw[ih h,Bool.and_false]
theorem spc_lend{S:TSs}(H:RH U σD){g:Nat}{s:TSp}{vs:List TV}{ds:List D}{a:tupV s.ins}{r:outV s.out}(hs:tsk g S=some s)(hg:∀v∈vs,GV U v)(hv:All3 vs ds)(ho:s.out.all VCd.gr=true)(hw:vs.any hasOwn=true)
  (hr:rdVs s.ins (vs.map (frTV U))=some a) (hf:s.f a=some r):zc2 (zdG S) g ds σD=some (outD s.out r,σD,[]):=by
 obtain ⟨ds',h1,h2⟩:=frVs_ok H hg hv hr;exact callOrc_lend (spk_of hs) (owns_low hv hw) h1 h2 (spec_eq (λa b=>encV_inj) hf) (gr_ground ho r)
end
end Go.Abs
end
section
namespace Go.Abs
noncomputable section
variable[Gl][Y:Ty]
variable{P:Program}{orc:Orc}{n:Nat}{alD:AL}{U U1:TH}{σD σD1:Heap}{o:AOp}{Q:TV->TH->Bool->List Nat->Prop}{rd:Opd->Option TV}
theorem rt0:RT (.tup []) (.tup []):=⟨[],rfl,.nil⟩
theorem lows_mem:∀{z:List D}{m:Nat},D.low.lows 0 z=true->∀d∈z,d.low m=true:=by
 intro z;induction z with
 |nil=>intro m _ d hd;simp at hd
 |cons x z ih=>
  intro m h d hd;simp only[D.low.lows,yAj] at h;rcases yAu.1 hd with rfl | hd
  ·exact D.low_mono (yB3 _) h.1
  ·exact ih h.2 d hd
theorem All2.ds:∀(z:List D),All2 RC (z.map .d) z:=by
 intro z;induction z with
 |nil=>exact .nil
 |cons d z ih=>exact .cons (.inr rfl) ih
theorem ds_good{z:List D}(h:D.low.lows 0 z=true):∀x∈z.map TC.d,GC U x:=by intro x hx;rw[yA4] at hx;obtain ⟨d,hd,rfl⟩:=hx;exact lows_mem h d hd
theorem zeros_low{z:List D}(h:D.low.lows 0 z=true)(k:Nat):∀x∈(zdu k z).map TC.d,GC U x:=by intro x hx;rw[yA4] at hx;obtain ⟨d,hd,rfl⟩:=hx;simp only[zdu,List.mem_flatten,List.mem_replicate] at hd;obtain ⟨l,⟨_,rfl⟩,hd⟩:=hd;exact lows_mem h d hd
theorem noNil_ok:∀{cs:List CC}{xs:List TC}{a:tup cs},noNil xs=true->rdT cs xs=some a->xs.map TC.er=(encT enc cs a).map .c:=by
 intro cs;induction cs with
 |nil=>
  intro xs a _ h;cases xs with
  |nil=>rfl
  |cons x xs=>simp[rdT] at h
 |cons c cs ih=>
  intro xs a hn h;cases xs with
  |nil=>simp[rdT] at h
  |cons x xs=>
   simp only[rdT] at h;split at h
   ·rename_i a1 a2 h1 h2;simp only[yAa] at h;subst h;have hn2:noNil xs=true/\x≠.d (.c (.lit (.slice none 0 0))):=by
     refine ⟨?_,λe=>by subst e;simp[noNil] at hn⟩;unfold noNil at hn;split at hn
     ·rename_i e;simp at e
     ·simp at hn
     ·rename_i e;simp only[yBs] at e;obtain ⟨rfl,rfl⟩:=e;exact hn
    rcases rdC_ex h1 with h3 | h3
    ·exact absurd h3 hn2.2
    ·simp only[yAw,encT,h3,ih hn2.1 h2]
   ·simp at h
theorem mkT_ok{i:Nat}{xs:List TC}{a:TT i}(h:mkT i xs=some a):xs.map TC.er=(enc i a).map .c/\∀x∈xs,x≠.any:=by
 unfold mkT at h;split at h
 ·rename_i x hn hx;simp only[yAa] at h;subst h;rw[enc_eq,Y.pm];exact ⟨noNil_ok hn hx,(rdT_ok hx).1⟩
 ·simp at h
theorem mkRow_ok{i:Nat}:∀{k:Nat}{xs:List TC}{l:List (TT i)}{ds:List D},mkRow i k xs=some l->All2 RC xs ds->ds=(l.flatMap (enc i)).map .c/\l.length=k:=by
 intro k;induction k with
 |zero=>
  intro xs l ds h r;cases xs with
  |nil=>simp only[mkRow,yAa] at h;subst h;cases r;exact ⟨rfl,rfl⟩
  |cons x xs=>simp[mkRow] at h
 |succ k ih=>
  intro xs l ds h r;simp only[mkRow] at h;split at h
  ·rename_i a l' h1 h2;simp only[yAa] at h;subst h;obtain ⟨h3,h4⟩:=mkT_ok h1;obtain ⟨h5,h6⟩:=ih h2 (r.drop (esz i));have h7:=(r.take (esz i)).eq h4;refine ⟨?_,by simp[h6]⟩;rw[<-List.take_append_drop (esz i) ds,h5,h7,h3];simp
  ·simp at h
theorem intT_ok{v:TV}{d:D}{q:Int}(h:intT v=some q)(r:RT v d):d=I q:=by
 unfold intT at h;split at h
 ·simp only[yAa] at h;subst h;rcases r with r | rfl
  ·simp at r
  ·rfl
 ·simp at h
theorem RT.c1{x:TC}{d:D}(hx:x≠.any)(r:RT (.c x) d):d=x.er:=by
 rcases r with r | r
 ·exact absurd r hx
 ·exact r
theorem ints_ok{k:IntKind}:∀{xs:List TC}{l:List Int}{ds:List D},ints k xs=some l->All2 RC xs ds->ds=l.map λz=>.c (.lit (.int k z)):=by
 intro xs l ds h r;induction r generalizing l with
 |nil=>simp only[ints,yAa] at h;subst h;rfl
 |cons h1 _ ih=>
  simp only[ints] at h;split at h
  ·rename_i a l' h2 h3;simp only[yAa] at h;subst h;obtain ⟨h4,_⟩:=rdC_ok h2;rw[ih h3,yAw];congr 1;rcases h1 with h1 | rfl
   ·exact absurd h1 h4
   ·rcases rdC_ex h2 with h5 | h5
    ·subst h5;simp[rdC] at h2
    ·rw[h5];rfl
  ·simp at h
theorem RdOk.c{x:Opd}{y:TC}(hr:RdOk U alD rd)(h:rd x=some (.c y))(hy:y≠.any):lx alD x=some y.er/\GC U y:=by obtain ⟨d,h1,h2,h3⟩:=hr x _ h;exact ⟨by rw[h1,RT.c1 hy h2],h3⟩
theorem RdOk.int{x:Opd}{v:TV}{q:Int}(hr:RdOk U alD rd)(h:rd x=some v)(hq:intT v=some q):lx alD x=some (I q):=by obtain ⟨d,h1,h2,_⟩:=hr x _ h;rw[h1,intT_ok hq h2]
theorem RdOk.all(hr:RdOk U alD rd):∀{xs:List Opd}{vs:List TV},rdOs rd xs=some vs->∃ds,lxs alD xs=some ds/\All3 vs ds/\∀v∈vs,GV U v:=by
 intro xs;induction xs with
 |nil=>intro vs h;simp only[rdOs,yAa] at h;subst h;exact ⟨[],rfl,.nil,by simp⟩
 |cons x xs ih=>
  intro vs h;simp only[rdOs] at h;split at h
  ·rename_i a b h1 h2;simp only[yAa] at h;subst h;obtain ⟨d,h3,h4,h5⟩:=hr x a h1;obtain ⟨ds,h6,h7,h8⟩:=ih h2;refine ⟨d::ds,by simp only[lxs,h3,h6],.cons h4 h7,λv hv=>?_⟩;rcases yAu.1 hv with rfl | hv
   ·exact h5
   ·exact h8 v hv
  ·simp at h
theorem row_cast(H:RH U σD){b i j lv cv:Nat}{l:List (TT j)}{m:List (TT i)}(hb:U[b]? = some (.row j l lv cv))(h:castL l=some m):U[b]? = some (.row i m lv cv):=by obtain ⟨rfl,rfl⟩:=zcn h;exact hb
theorem srcT_ok(H:RH U σD){i:Nat}{v:TV}{d:D}{m:List (TT i)}(h:srcT i U v=some m)(r:RT v d)(g:GV U v):Src σD (enc i) (esz i) d m:=by
 unfold srcT at h;split at h
 ·rename_i j l;obtain ⟨rfl,rfl⟩:=zcn h;rw[RT.c1 (by simp) r];exact src_frz (za8 j)
 ·simp only[yAa] at h;subst h;rw[RT.c1 (by simp) r];exact src_nil
 ·rename_i j b v q;split at h
  ·rename_i j' l lv cv hb;split at h
   ·rename_i hv;have hv:=yAi hv;obtain ⟨blk,h1,h2⟩:=g;rw[hb] at h1;simp only[yAa] at h1;obtain ⟨_,h3⟩:=h2 _ _ _ _ h1.symm;obtain ⟨rfl,rfl⟩:=h3 hv.symm;obtain ⟨rfl,rfl⟩:=zcn h;rw[RT.c1 (by simp) r];exact src_own (za8 _) (H.row hb) rfl
   ·simp at h
  ·simp at h
 ·simp at h
theorem srcN_ok(H:RH U σD){i:Nat}{v:TV}{d:D}{m:List (TT i)}(h:srcT i U v=some m)(r:RT v d)(g:GV U v):SrcN σD (enc i) (esz i) d m:=by
 unfold srcT at h;split at h
 ·rename_i j l;obtain ⟨rfl,rfl⟩:=zcn h;rw[RT.c1 (by simp) r];exact srcN_frz (za8 j)
 ·simp only[yAa] at h;subst h;rw[RT.c1 (by simp) r];exact srcN_nil
 ·rename_i j b v q;split at h
  ·rename_i j' l lv cv hb;split at h
   ·rename_i hv;have hv:=yAi hv;obtain ⟨blk,h1,h2⟩:=g;rw[hb] at h1;simp only[yAa] at h1;obtain ⟨_,h3⟩:=h2 _ _ _ _ h1.symm;obtain ⟨rfl,rfl⟩:=h3 hv.symm;obtain ⟨rfl,rfl⟩:=zcn h;rw[RT.c1 (by simp) r];exact srcN_own (za8 _) (H.row hb) rfl
   ·simp at h
  ·simp at h
 ·simp at h
theorem os_row(H:RH U σD){i b v q lo len j lv cv:Nat}{l:List (TT j)}(g:GC U (.os i b v q lo len))(hb:U[b]? = some (.row j l lv cv))(hv:Nat.beq lv v=true):j=i/\q=l.length/\lo+len<=q:=by have hv:=yAi hv;obtain ⟨blk,h1,h2⟩:=g;rw[hb] at h1;simp only[yAa] at h1;obtain ⟨_,h3⟩:=h2 _ _ _ _ h1.symm;exact h3 hv.symm
theorem own_row(H:RH U σD){i b v q j lv cv:Nat}{l:List (TT j)}(g:GC U (.own i b v q))(hb:U[b]? = some (.row j l lv cv))(hv:Nat.beq lv v=true):j=i/\q=l.length:=by have hv:=yAi hv;obtain ⟨blk,h1,h2⟩:=g;rw[hb] at h1;simp only[yAa] at h1;obtain ⟨_,h3⟩:=h2 _ _ _ _ h1.symm;exact h3 hv.symm
theorem op_row(H:RH U σD){i b v q j lv cv off:Nat}{k:Int}{a:TT i}{l:List (TT j)}(g:GC U (.op i b v q k a off))(hb:U[b]? = some (.row j l lv cv))(hv:Nat.beq cv v=true):∃m:List (TT i),castL l=some m/\q=m.length/\at? m k=some a:=by have hv:=yAi hv;obtain ⟨blk,h1,h2⟩:=g;rw[hb] at h1;simp only[yAa] at h1;obtain ⟨_,h3⟩:=h2 _ _ _ _ h1.symm;exact h3 hv.symm
theorem getT_exp{m:Option Nat}{i:Nat}{a:TT i}{off:Nat}{v:TV}(h:getT m (exp i a) off=some v):∃d,zaT m ((enc i a).map .c) off=some d/\RT v d/\GV U v:=by obtain ⟨d,h1,h2⟩:=getT_ok h (exp_all i a);exact ⟨d,h1,h2,getT_good h (exp_good i a)⟩
variable{R:Type}{k:KO R}{r:R}
theorem litsI_ok:∀{xs:List Value}{l:List Int},litsI xs=some l->xs=l.map λz=>.int .i64 z:=by
 intro xs;induction xs with
 |nil=>intro l h;simp only[litsI,yAa] at h;subst h;rfl
 |cons x xs ih=>
  intro l h;unfold litsI at h;split at h
  ·rename_i e;cases e;
  ·rename_i a xs' e;cases e;split at h
   ·rename_i l' hl;simp only[yAa] at h;subst h;rw[ih hl,yAw]
   ·simp at h
  ·simp at h
theorem litsC_ok:∀{xs:List C}{l:List Int},litsC xs=some l->xs=l.map λz=>.lit (.int .i64 z):=by
 intro xs;induction xs with
 |nil=>intro l h;simp only[litsC,yAa] at h;subst h;rfl
 |cons x xs ih=>
  intro l h;unfold litsC at h;split at h
  ·rename_i e;cases e
  ·rename_i a xs' e;cases e;split at h
   ·rename_i l' hl;simp only[yAa] at h;subst h;rw[ih hl,yAw]
   ·simp at h
  ·simp at h
theorem tload_ok{S:TSs}{hint:Nat}{m:Option Nat}{x:Opd}(hr:RdOk U alD rd)(H:RH U σD)(h:tOp P S hint (.load m x) rd U k=some r):OpK P orc n alD U σD (.load m x) (λv U1 rs wr=>k v U1 rs wr=some r):=by
 simp only[tOp] at h;split at h
 ·rename_i b off sz hx;obtain ⟨h1,_⟩:=hr.c hx (by simp);split at h
  ·rename_i w cs hb;obtain ⟨ds,h2,h3,h4,_⟩:=H.cells hb;split at h
   ·rename_i v hs hv;obtain ⟨d,h5,h6⟩:=getT_ok hv h3;refine OpK.pure (op_load h1 (zdA h2 (by rw[h4];exact yAi hs)) h5) h6 (getT_good hv λy hy=>?_) H h;rw[yA4] at hy;obtain ⟨p,hp,rfl⟩:=hy;exact (H.hg b w cs hb p hp).1
   ·simp at h
  ·simp at h
 ·rename_i i a off hx;obtain ⟨h1,_⟩:=hr.c hx (by simp);split at h
  ·rename_i v hv;obtain ⟨d,h2,h3,h4⟩:=getT_exp (U:=U) hv;exact OpK.pure (op_loadf h1 h2) h3 h4 H h
  ·simp at h
 ·rename_i i b v q z a off hx;obtain ⟨h1,g⟩:=hr.c hx (by simp);split at h
  ·rename_i j l lv cv hb;split at h
   ·rename_i v' hv hv';obtain ⟨m',h2,rfl,h3⟩:=op_row H g hb hv;have hb':=row_cast H hb h2;obtain ⟨d,h4,h5,h6⟩:=getT_exp (U:=U) hv';exact OpK.pure (op_loade (za8 i) h1 rfl (H.row hb') rfl (at_get h3) h4) h5 h6 H h
   ·simp at h
  ·simp at h
 ·rename_i b off len sz i hx;obtain ⟨h1,g⟩:=hr.c hx (by simp);split at h
  ·rename_i w cs hb;obtain ⟨ds,h2,h3,h4,_⟩:=H.cells hb;split at h
   ·rename_i l hs hl;simp only[yAj] at hs;obtain ⟨a,ha,hk⟩:=zby h;have h5:=ints_ok hl ((h3.drop off).take len);obtain ⟨a1,a2,a3⟩:=at_some ha;refine OpK.one hk (op_load h1 (zdA h2 (by rw[h4];exact yAi hs.1)) (d:=I a) ?_) rfl rfl H;have h6:((ds.drop off).take len)[i.toNat]? = some (I a):=by rw[h5,yAl,a3];rfl
    have h7:i.toNat<len:=by have:=(yAb.1 h6).1;rw[yA6] at this;omega
    rw[yA7 h7,yAT] at h6;simp only[zaT,Nat.mul_one];exact h6
   ·simp at h
  ·simp at h
 ·rename_i cs off hx;obtain ⟨h1,g⟩:=hr.c hx (by simp);split at h
  ·rename_i l hl;obtain ⟨a,ha,hk⟩:=zby h;obtain ⟨a1,a2,a3⟩:=at_some ha;have e:=litsC_ok hl;subst e;refine OpK.one hk (op_loadf h1 (d:=I a) ?_) rfl rfl H;simp only[zaT];rw[xAg] at a3;rw[yB8,yAl,a3];rfl
  ·simp at h
 ·simp at h
theorem tstore_ok{S:TSs}{hint:Nat}{m:Nat}{x y:Opd}(hr:RdOk U alD rd)(H:RH U σD)(h:tOp P S hint (.store m x y) rd U k=some r):OpK P orc n alD U σD (.store m x y) (λv U1 rs wr=>k v U1 rs wr=some r):=by
 simp only[tOp] at h;split at h
 ·rename_i b off sz v hx hv;obtain ⟨h1,_⟩:=hr.c hx (by simp);obtain ⟨d,h2,h3,h4⟩:=hr _ _ hv;split at h
  ·rename_i w cs xs hb hxs;obtain ⟨ds,h5,h6,h7,hds⟩:=H.cells hb;obtain ⟨h8,h9,h10⟩:=cellsT_ok hxs h3;split at h
   ·rename_i hc;simp only[yAj] at hc;have c1:=yAi hc.1;have c2:=yAi hc.2.1;have c3:=yA8 hc.2.2;have hlen:(putT cs off (xs.map λx=>(w+1,x))).length=cs.length:=by
     simp only[putT,yAC,yA6,yBQ,yAz];omega
    have hbe:BE (.cells w cs) (.cells (w+1) (putT cs off (xs.map λx=>(w+1,x)))):=by
     refine ⟨w+1,_,rfl,by omega,hlen,λj v x v1 x1 e1 e2=>?_⟩;by_cases hj:j<off
     ·left;simp only[putT] at e2;rw[yA3,yAr (by rw[yA6];have:=(yAb.1 e1).1;omega),yA7 hj,e1] at e2;simp only[yAa,yAc] at e2;exact ⟨e2.1.symm,e2.2.symm⟩
     ·by_cases hj2:j<off+xs.length
      ·right;simp only[putT] at e2;rw[yA3,yA0 (by rw[yA6];omega),yAr (by rw[yA6,yAz];omega),yAl,yAd] at e2;obtain ⟨q,_,e3⟩:=e2;simp only[yAc] at e3;omega
      ·left;simp only[putT] at e2;rw[yA0 (by rw[yAC,yA6,yAz];omega),yAT,yAC,yA6,yAz] at e2;rw[show off+xs.length+(j-(min off cs.length+xs.length))=j by omega,e1] at e2;simp only[yAa,yAc] at e2;exact ⟨e2.1.symm,e2.2.symm⟩
    have hgood:∀w' cs',TB.cells (w+1) (putT cs off (xs.map λx=>(w+1,x)))=.cells w' cs'->∀p∈cs',GC U p.2/\p.1<=w':=by
     intro w' cs' e p hp;simp only[TB.cells.injEq] at e;obtain ⟨rfl,rfl⟩:=e;rcases putT_mem hp with hp | hp
     ·obtain ⟨q1,q2⟩:=H.hg b w cs hb p hp;exact ⟨q1,by omega⟩
     ·rw[yA4] at hp;obtain ⟨y,hy,rfl⟩:=hp;exact ⟨cellsT_good hxs h4 y hy,yAo _⟩
    have hrb:RB (.cells (w+1) (putT cs off (xs.map λx=>(w+1,x)))) (.cells (put ds off (xs.map TC.er))):=by unfold RB TB.er;rw[hds];simp[put,putT,Function.comp_def]
    refine ⟨_,_,_,_,.tup [],σD.set b (.cells (put ds off (xs.map TC.er))),op_store h1 (zdA h5 (by rw[h7];exact c1)) h2 h8 ⟨by rw[yAz];exact c2,c3⟩ rfl,rt0,?_,H.set hb hbe hrb hgood,Ext.set hb hbe,λ_=>?_,λe=>by simp[totOp] at e,h⟩
    ·intro p hp;simp at hp
    ·simp only[wrOk,List.all_cons,List.all_nil,yBq];rw[h5,zaU h5];simp only[Ob.sz,yAF];simp only[put,yAC,yA6,yBQ,yAz];omega
   ·simp at h
  ·simp at h
 ·rename_i i b v q z a off xv hx hv;obtain ⟨h1,g⟩:=hr.c hx (by simp);obtain ⟨d,h2,h3,h4⟩:=hr _ _ hv;split at h
  ·rename_i j l lv cv xs hb hxs;obtain ⟨h8,h9,h10⟩:=cellsT_ok hxs h3;split at h
   ·rename_i a' l' hc ha hl;simp only[yAj] at hc;obtain ⟨m',e1,rfl,e2⟩:=op_row H g hb hc.1;rw[hl] at e1;simp only[yAa] at e1;subst e1;have hb':=row_cast H hb hl;have c2:=yAi hc.2.1;obtain ⟨e3,e4⟩:=mkT_ok ha;have hput:(putT (exp i a) off xs).map TC.er=((exp i a).map TC.er).take off++xs.map TC.er++((exp i a).map TC.er).drop (off+xs.length):=by
     simp[putT]
    rw[e3,exp_er] at hput;obtain ⟨ys,hys⟩:∃ys:List C,xs.map TC.er=ys.map .c:=by
     have c3:=yA8 hc.2.2;refine ⟨((enc i a').drop off).take xs.length,?_⟩;rw[yCa,yCw,hput];have l1:(((enc i a).map D.c).take off).length=off:=by rw[yA6,yAz,za8];omega
     rw[yA3,yBR (by omega),yB1 (by omega),xAe,yBB (by rw[yAz];exact yAo _),yAR (by rw[yAz];exact yAo _)]
    have hlen:ys.length=xs.length:=by have:=yCj List.length hys;simpa using this.symm
    have he:enc i a'=(enc i a).take off++ys++(enc i a).drop (off+ys.length):=by apply mapc_inj;rw[hput,hys,hlen];simp
    have hbe:BE (.row i l' lv cv) (.row i (l'.set z.toNat a') lv (cv+1)):=⟨_,_,_,rfl,yAo _,by omega,λ_=>by simp,λe=>by omega⟩;refine ⟨_,_,_,_,.tup [],σD.set b (OB (enc i) (l'.set z.toNat a')),op_storee (za8 i) h1 rfl (H.row hb') rfl (at_get e2) h2 (by rw[h8,hys]) (by rw[hlen];exact c2) hc.2.2 he rfl rfl,rt0,?_,H.set hb' hbe rfl (λw cs e=>by simp at e),Ext.set hb' hbe,λ_=>?_,λe=>by simp[totOp] at e,h⟩
    ·intro p hp;simp at hp
    ·simp only[wrOk,List.all_cons,List.all_nil,yBq];rw[H.row hb',zaU (H.row hb')];simp[Ob.sz,flat_len (za8 i)]
   ·simp at h
  ·simp at h
 ·simp at h
end
end Go.Abs
end
section
namespace Go.Abs
noncomputable section
variable[Gl][Y:Ty]
variable{P:Program}{n:Nat}{alD:AL}{U U1:TH}{σD σD1:Heap}{o:AOp}{Q:TV->TH->Bool->List Nat->Prop}{rd:Opd->Option TV}{S:TSs}{hint:Nat}{R:Type}{k:KO R}{r:R}{orc:Orc}
abbrev Goal(P:Program)(orc:Orc)(n:Nat)(alD:AL)(U:TH)(σD:Heap)(o:AOp)(k:KO R)(r:R):Prop:=OpK P orc n alD U σD o (λv U1 rs wr=>k v U1 rs wr=some r)
theorem new_cells{cs:List TC}{ds:List D}(h:ds=cs.map TC.er):RB (.cells 0 (cs.map λc=>(0,c))) (.cells ds):=by subst h;simp[RB,TB.er,Function.comp_def]
theorem new_good{cs:List TC}(g:∀x∈cs,GC U x):∀w cs',TB.cells 0 (cs.map λc=>(0,c))=.cells w cs'->∀p∈cs',GC U p.2/\p.1<=w:=by intro w cs' e p hp;simp only[TB.cells.injEq] at e;obtain ⟨rfl,rfl⟩:=e;rw[yA4] at hp;obtain ⟨y,hy,rfl⟩:=hp;exact ⟨g y hy,yAo _⟩
theorem tbox_ok{x:Opd}(hr:RdOk U alD rd)(H:RH U σD)(h:tOp P S hint (.box x) rd U k=some r):Goal P orc n alD U σD (.box x) k r:=by
 simp only[tOp] at h;split at h
 ·rename_i v hv;obtain ⟨d,h1,h2,h3⟩:=hr _ _ hv;split at h
  ·rename_i cs hcs;obtain ⟨h4,h5,_⟩:=cellsT_ok hcs h2;refine OpK.new (v:=.c (.d (.ptr U.length 0 cs.length))) (d:=.ptr U.length 0 cs.length) (ob:=.cells (cs.map TC.er)) (op_box h1 h4 (by rw[H.len,yAz]) rfl) (Or.inr rfl) ?_ H (new_cells rfl) (new_good (cellsT_good hcs h3)) h;show D.low _ _=true;simp[D.low]
  ·simp at h
 ·simp at h
theorem talloc_ok{z:List D}(H:RH U σD)(h:tOp P S hint (.alloc z) rd U k=some r):Goal P orc n alD U σD (.alloc z) k r:=by
 simp only[tOp] at h;split at h
 ·rename_i hl;have e:(z.map λc=>((0:Nat),TC.d c))=(z.map TC.d).map λc=>(0,c):=by simp
  rw[e] at h;refine OpK.new (v:=.c (.d (.ptr U.length 0 z.length))) (d:=.ptr U.length 0 z.length) (ob:=.cells z) (op_alloc (by rw[H.len]) rfl) (Or.inr rfl) ?_ H (new_cells (by simp[TC.er,Function.comp_def])) (new_good (ds_good hl)) h;show D.low _ _=true;simp[D.low]
 ·simp at h
theorem tbuild_ok{z:List D}{ps:List (Nat×Nat×Opd)}(hr:RdOk U alD rd)(H:RH U σD)(h:tOp P S hint (.build z ps) rd U k=some r):Goal P orc n alD U σD (.build z ps) k r:=by
 simp only[tOp] at h;split at h
 ·rename_i cs hl hcs;obtain ⟨ds,h1,h2,h3⟩:=fillT_ok hr hcs (All2.ds z) (ds_good hl);exact OpK.pure (v:=.agg cs) (op_build h1) ⟨ds,rfl,h2⟩ h3 H h
 ·simp at h
theorem own_good{i b m:Nat}{l:List (TT i)}(hm:m=l.length):GC (U++[TB.row i l 0 0]) (.own i U.length 0 m):=by refine ⟨_,by rw[yA0 (yAo _),yBV];rfl,λj l' lv cv e=>?_⟩;simp only[TB.row.injEq] at e;obtain ⟨rfl,hl,rfl,rfl⟩:=e;cases hl;exact ⟨yAo _,λ_=>⟨rfl,hm⟩⟩
theorem noAny_ok:∀{cs:List TC},noAny cs=true->∀y∈cs,y≠.any:=by
 intro cs;induction cs with
 |nil=>intro _ y hy;simp at hy
 |cons x cs ih=>
  intro h y hy;simp only[noAny,yAj,yAs] at h;rcases yAu.1 hy with rfl | hy
  ·intro e;subst e;simp[isAny] at h
  ·exact ih h.2 y hy
theorem tbslice_ok{es len:Nat}{z:List D}{ps:List (Nat×Nat×Opd)}(hr:RdOk U alD rd)(H:RH U σD)(h:tOp P S hint (.bslice es len z ps) rd U k=some r):Goal P orc n alD U σD (.bslice es len z ps) k r:=by
 simp only[tOp] at h;split at h
 ·split at h
  ·rename_i cs hl hcs;obtain ⟨ds,h1,h2,h3⟩:=fillT_ok hr hcs (All2.ds (zdu len z)) (zeros_low hl len);split at h
   rotate_left
   ·simp at h
   rename_i hna;have e:ds=cs.map TC.er:=h2.eq (noAny_ok hna);refine OpK.new (v:=.c (.d (.sl U.length 0 len es cs.length))) (d:=.sl U.length 0 len es ds.length) (blk:=.cells 0 (cs.map λc=>(0,c))) (ob:=.cells ds) (op_bslice h1 (by rw[H.len]) rfl) (Or.inr ?_) ?_ H (new_cells e) (new_good h3) h
   ·rw[e,yAz];rfl
   ·show D.low _ _=true;simp[D.low]
  ·simp at h
 split at h
 ·rename_i cs hl hcs;simp only[yAj] at hl;have he:=yAi hl.1;subst he;split at h
  ·rename_i l hrow;obtain ⟨ds,h1,h2,h3⟩:=fillT_ok hr hcs (All2.ds (zdu len z)) (zeros_low hl.2 len);obtain ⟨h4,h5⟩:=mkRow_ok hrow h2;refine OpK.new (v:=.c (.own hint U.length 0 len)) (d:=OS (esz hint) U.length len) (ob:=OB (enc hint) l) (op_bslice_own h1 h4 h5 (za8 hint) rfl (by rw[H.len]) rfl) (Or.inr rfl) (own_good (b:=0) h5.symm) H rfl (λw cs e=>by simp at e) h
  ·simp at h
 ·simp at h
theorem tnilck_ok{x:Opd}(hr:RdOk U alD rd)(H:RH U σD)(h:tOp P S hint (.nilck x) rd U k=some r):Goal P orc n alD U σD (.nilck x) k r:=by
 simp only[tOp] at h;split at h
 ·rename_i hx;obtain ⟨h1,g⟩:=hr.c hx (by simp);exact OpK.one h (op_nilck h1) rfl g H
 ·rename_i hx;obtain ⟨h1,g⟩:=hr.c hx (by simp);exact OpK.one h (op_nilckc h1) rfl g H
 ·rename_i hx;obtain ⟨h1,g⟩:=hr.c hx (by simp);exact OpK.one h (op_nilckn h1) rfl g H
 ·rename_i hx;obtain ⟨h1,g⟩:=hr.c hx (by simp);exact OpK.one h (op_nilckf h1) rfl g H
 ·rename_i hx;obtain ⟨h1,g⟩:=hr.c hx (by simp);exact OpK.one h (op_nilck h1) rfl g H
 ·rename_i hx;obtain ⟨h1,g⟩:=hr.c hx (by simp);exact OpK.one h (op_nilckn h1) rfl g H
 ·simp at h
theorem tisnil_ok{kd:Nat}{neg:Bool}{x:Opd}(hr:RdOk U alD rd)(H:RH U σD)(h:tOp P S hint (.isnil kd neg x) rd U k=some r):Goal P orc n alD U σD (.isnil kd neg x) k r:=by
 simp only[tOp] at h;split at h
 ·rename_i y hx;obtain ⟨h1,g⟩:=hr.c hx (by simp);split at h
  ·rename_i hb;exact OpK.one h (op_isnil h1 hb) (by cases neg <;> rfl) rfl H
  ·rename_i hb;exact OpK.one h (op_isnil h1 hb) (by cases neg <;> rfl) rfl H
  ·simp at h
 ·rename_i hx;obtain ⟨h1,g⟩:=hr.c hx (by simp);split at h
  ·exact OpK.one h (op_isnil (b:=false) h1 rfl) (by cases neg <;> rfl) rfl H
  ·simp at h
 ·rename_i hx;obtain ⟨h1,g⟩:=hr.c hx (by simp);split at h
  ·exact OpK.one h (op_isnil (b:=false) h1 rfl) (by cases neg <;> rfl) rfl H
  ·simp at h
 ·simp at h
theorem tfld_ok{off:Nat}{x:Opd}(hr:RdOk U alD rd)(H:RH U σD)(h:tOp P S hint (.fld off x) rd U k=some r):Goal P orc n alD U σD (.fld off x) k r:=by
 simp only[tOp] at h;split at h
 ·rename_i hx;obtain ⟨h1,g⟩:=hr.c hx (by simp);exact OpK.one h (op_fld h1) rfl g H
 ·rename_i hx;obtain ⟨h1,g⟩:=hr.c hx (by simp);exact OpK.one h (op_fldf h1) rfl True.intro H
 ·rename_i hx;obtain ⟨h1,g⟩:=hr.c hx (by simp);exact OpK.one h (op_fld h1) (by simp only[TC.er,yBL]) g H
 ·simp at h
theorem op_idxR{len j es b off sz:Nat}{x i:Opd}{q:Int}(h:lx alD x=some (.ptr b off sz))(hi:lx alD i=some (I q))(hk:inR q len=some j):OpR P orc n alD σD (.idx es (some len) x i) (.ptr b (off+j * es) sz) σD []:=λe he=>by simp[zaB,zaY he h,zaY he hi,zbJ,hk]
theorem op_good{i b v q:Nat}{k:Int}{a:TT i}{l:List (TT i)}{lv cv:Nat}(hb:U[b]? = some (.row i l lv cv))(ha:at? l k=some a):GC U (.op i b cv l.length k a 0):=by
 refine ⟨_,hb,λj l' lv' cv' e=>?_⟩;simp only[TB.row.injEq] at e;obtain ⟨rfl,hl,rfl,rfl⟩:=e;cases hl;refine ⟨yAo _,λ_=>⟨l,?_,rfl,ha⟩⟩;unfold castL;split
 ·rfl
 ·rename_i hne _;exact absurd rfl hne
theorem op_idxG{g len es:Nat}{x i:Opd}{q z a:Int}{l:List Int}(h:lx alD x=some (.c (.glo g)))(hi:lx alD i=some (I q))(ha:at? (z::l) q=some a)(hg:Gl.tab g=(z::l).map λz=>.int .i64 z)(hl:(z::l).length=len) :
  OpR P orc n alD σD (.idx es (some len) x i) (.c (.fptr ((Gl.tab g).map .lit) (q.toNat * es))) σD []:=λe he=>by
 obtain ⟨h1,h2,h3⟩:=at_some ha;have h4:inR q len=some q.toNat:=by unfold inR;rw[if_pos ⟨h1,by rw[<-hl];exact h2⟩]
 simp only[zaB,zaY he h,zaY he hi,zbJ,h4,Option.bind_eq_bind,Option.bind_some];rw[hg];rfl
theorem tidx_ok{es:Nat}{len:Option Nat}{x i:Opd}(hr:RdOk U alD rd)(H:RH U σD)(h:tOp P S hint (.idx es len x i) rd U k=some r):Goal P orc n alD U σD (.idx es len x i) k r:=by
 cases len with
 |none=>
  simp only[tOp] at h;split at h
  ·rename_i j l iv hx hi;obtain ⟨h1,g⟩:=hr.c hx (by simp);split at h
   ·rename_i q hq he;have he:=yAi he;subst he;obtain ⟨a,ha,hk⟩:=zby h;exact OpK.one hk (op_idx h1 (hr.int hi hq) ha (za8 j a)) rfl True.intro H
   ·simp at h
  ·rename_i j b v m iv hx hi;obtain ⟨h1,g⟩:=hr.c hx (by simp);split at h
   ·rename_i q j' l lv cv hq he hb;have he:=yAi he;subst he;split at h
    ·rename_i l' hv hl;obtain ⟨a,ha,hk⟩:=zby h;obtain ⟨rfl,rfl⟩:=own_row H g hb hv;have hb':=row_cast H hb hl;rw[hb] at hb';simp only[yAa,TB.row.injEq,heq_eq_eq,yCx,yBN] at hb';subst hb';exact OpK.one hk (op_idx_own (za8 _) h1 (H.row hb) rfl (hr.int hi hq) ha) rfl (op_good (v:=0) (q:=0) hb ha) H
    ·simp at h
   ·simp at h
  ·rename_i b off ln es' sz iv hx hi;obtain ⟨h1,g⟩:=hr.c hx (by simp);split at h
   ·rename_i q w cs hq hb;obtain ⟨ds,h2,h3,h4,_⟩:=H.cells hb;split at h
    ·rename_i j hc hj;simp only[yAj] at hc;have e1:=yAi hc.1;have e2:=yAi hc.2;subst e2;exact OpK.one h (op_idxS (cs:=ds) h1 (hr.int hi hq) (zdA h2 (by rw[h4];exact e1)) hj rfl) rfl g H
    ·simp at h
   ·simp at h
  ·simp at h
 |some len=>
  cases i with
  |k i=>
   simp only[tOp] at h;split at h
   ·rename_i b off sz q hx hq;obtain ⟨h1,g⟩:=hr.c hx (by simp);split at h
    ·rename_i j hj;have hi:lx alD (.k i)=some (I q):=by
      have:=intT_ok (d:=i) hq (by
       unfold ofD at hq ⊢;split at hq
       ·simp[intT] at hq
       ·exact Or.inr rfl)
      simp only[lx,this]
     exact OpK.one h (op_idxR h1 hi hj) rfl g H
    ·simp at h
   ·simp at h
  |t i=>
   simp only[tOp] at h;split at h
   ·rename_i b off sz iv hx hi;obtain ⟨h1,g⟩:=hr.c hx (by simp);split at h
    ·rename_i q w cs hq he hb;have he:=yAi he;subst he;obtain ⟨ds,h2,h3,h4,_⟩:=H.cells hb;split at h
     ·rename_i l hs hl;simp only[yAj] at hs;obtain ⟨a,ha,hk⟩:=zby h;have h5:=ints_ok hl ((h3.drop off).take len);have hlen:l.length=len:=by
       have:=yCj List.length h5;have q1:=yAi hs.1;have q2:=yA8 hs.2;rw[yA6,yBQ,yAz] at this;omega
      have hlow:b<U.length:=(yAb.1 hb).1;exact OpK.one hk (op_idxA h1 (hr.int hi hq) ha hlen rfl) rfl hlow H
     ·simp at h
    ·simp at h
   ·rename_i g iv hx hi;obtain ⟨h1,_⟩:=hr.c hx (by simp);split at h
    ·rename_i q z l hq he hl;have he:=yAi he;subst he;split at h
     ·rename_i hlen;have hlen:=yAi hlen;obtain ⟨a,ha,hk⟩:=zby h;exact OpK.one hk (op_idxG h1 (hr.int hi hq) ha (litsI_ok hl) hlen) rfl rfl H
     ·simp at h
    ·simp at h
   ·simp at h
theorem op_slcO{α:Type}{f:α->List C}{esz:Nat}{x:Opd}{lo hi:Option Opd}{b:Nat}{l r:List α}{i j:Int}(hf:∀a,(f a).length=esz)(h:lx alD x=some (OS esz b l.length))(hb:σD[b]? = some (OB f l))(hlo:(match lo with | none=>some (I 0) | some o=>lx alD o)=some (I i))
  (hhi:(match hi with | none=>some (I l.length) | some o=>lx alD o)=some (I j)) (hr:slice? l i j=some r):OpR P orc n alD σD (.slc esz x lo hi) (.sl b (0+i.toNat * esz) (j.toNat-i.toNat) esz (l.length * esz)) σD []:=λe he=>by
 unfold slice? at hr;split at hr
 ·rename_i hc;have hrow:zci σD b (l.length * esz)=some ((l.flatMap f).map .c):=zdA hb (by
   rw[yAz];clear hb h hlo hhi hr hc;induction l with
   |nil=>simp
   |cons a l ih=>rw[yBi,yAC,hf,ih,xAd,yBe,Nat.one_mul,Nat.add_comm])
  have hh:zaC e l.length l.length hi=some j.toNat:=by
   cases hi with
   |none=>simp only[yAa,I,D.c.injEq,C.lit.injEq,Value.int.injEq,yCx] at hhi;subst hhi;simp[zaC]
   |some o=>simp only at hhi;simp only[zaC,zaY he hhi,zbJ,Option.bind_some,inB];rw[if_pos (by omega)]
  have hl:zaC e 0 j.toNat lo=some i.toNat:=by
   cases lo with
   |none=>simp only[yAa,I,D.c.injEq,C.lit.injEq,Value.int.injEq,yCx] at hlo;subst hlo;simp[zaC]
   |some o=>simp only at hlo;simp only[zaC,zaY he hlo,zbJ,Option.bind_some,inB];rw[if_pos (by omega)]
  simp only[zaB,zaY he h,hrow,hh,hl,Option.bind_eq_bind,Option.bind_some,if_true,Option.orElse]
 ·simp at hr
theorem tslc_ok{es:Nat}{x:Opd}{lo hi:Option Opd}(hr:RdOk U alD rd)(H:RH U σD)(h:tOp P S hint (.slc es x lo hi) rd U k=some r):Goal P orc n alD U σD (.slc es x lo hi) k r:=by
 simp only[tOp] at h;split at h
 ·rename_i j l hx;obtain ⟨h1,g⟩:=hr.c hx (by simp);split at h
  ·rename_i u v he hu hv;have he:=yAi he;subst he;split at h
   ·rename_i u' v' hu' hv';obtain ⟨a,ha,hk⟩:=zby h;refine OpK.one hk (op_slc (i:=u') (j:=v') (za8 j) h1 ?_ ?_ ha) rfl True.intro H
    ·cases lo with
     |none=>simp only[yAa] at hu;subst hu;simp only[intT,yAa] at hu';subst hu';rfl
     |some o=>exact hr.int hu hu'
    ·cases hi with
     |none=>simp only[yAa] at hv;subst hv;simp only[intT,yAa] at hv';subst hv';rfl
     |some o=>exact hr.int hv hv'
   ·simp at h
  ·simp at h
 ·rename_i j b vv n hx;obtain ⟨h1,g⟩:=hr.c hx (by simp);split at h
  ·rename_i j2 l lv cv he hb;have he:=yAi he;subst he;split at h
   ·rename_i u v hvv hu hv;obtain ⟨rfl,rfl⟩:=own_row H g hb hvv;split at h
    ·rename_i u' v' hu' hv';obtain ⟨a,ha,hk⟩:=zby h;have hb':=H.row hb;refine ⟨.c (.os j2 b vv l.length u'.toNat (v'.toNat-u'.toNat)),U,false,[],_,σD,op_slcO (l:=l) (i:=u') (j:=v') (za8 j2) h1 hb' ?_ ?_ ha,.inr rfl,?_,H,Ext.refl U,λ_=>rfl,λ_=>⟨rfl,rfl,rfl⟩,hk⟩
     ·cases lo with
      |none=>simp only[yAa] at hu;subst hu;simp only[intT,yAa] at hu';subst hu';rfl
      |some o=>exact hr.int hu hu'
     ·cases hi with
      |none=>simp only[yAa] at hv;subst hv;simp only[intT,yAa] at hv';subst hv';rfl
      |some o=>exact hr.int hv hv'
     ·refine ⟨_,hb,λj l' lv' cv' e=>?_⟩;simp only[TB.row.injEq] at e;obtain ⟨rfl,hl',rfl,rfl⟩:=e;cases hl';have hvq:=yAi hvv;unfold slice? at ha;split at ha
      ·exact ⟨Nat.le_of_eq hvq.symm,λ_=>⟨rfl,rfl,by omega⟩⟩
      ·simp at ha
    ·simp at h
   ·simp at h
  ·simp at h
 ·simp at h
theorem tmkmap_ok(H:RH U σD)(h:tOp P S hint .mkmap rd U k=some r):Goal P orc n alD U σD .mkmap k r:=by simp only[tOp] at h;exact OpK.new (v:=.c (.d (.mp U.length))) (d:=.mp U.length) (blk:=.mp (hint / 2) (Nat.beq (hint % 2) 1) [] 0) (ob:=MB (mpE (hint / 2) (Nat.beq (hint % 2) 1)) []) (op_mkmap (g:=mpE (hint / 2) (Nat.beq (hint % 2) 1)) (by rw[H.len]) rfl) (Or.inr rfl) (by show D.low _ _=true;simp[D.low]) H rfl (λw cs e=>by simp at e) h
theorem headD_er(j:Nat)(a:TT j):((exp j a).headD (.d (.c (.lit undef)))).er=.c ((enc j a).headD (.lit undef)):=by
 have h:=exp_er j a;cases e1:exp j a with
 |nil=>
  rw[e1] at h;cases e2:enc j a with
  |nil=>rfl
  |cons c cs=>rw[e2] at h;simp at h
 |cons x xs=>
  rw[e1] at h;cases e2:enc j a with
  |nil=>rw[e2] at h;simp at h
  |cons c cs=>rw[e2] at h;simp only[yAw,yBs] at h;exact h.1
theorem mpV_ok(j:Nat)(st:Bool)(a:TT j):RT (mpV j st a) (mpE j st a)/\GV U (mpV j st a):=by
 cases st with
 |true=>exact ⟨⟨_,rfl,by rw[<-exp_er];exact All2.er _⟩,exp_good j a⟩
 |false=>
  refine ⟨.inr ?_,?_⟩
  ·rw[headD_er];rfl
  ·show GC U ((exp j a).headD (.d (.c (.lit undef))));cases e:exp j a with
   |nil=>rfl
   |cons x xs=>exact exp_good j a x (by rw[e];exact yAq ..)
theorem lkRes_ok{ok e:Bool}{v:TV}{d:D}(h:RT v d)(g:GV U v)(hn:∀xs,v≠.tup xs):RT (lkRes ok v e) (if ok then .tup [d,B e] else d)/\GV U (lkRes ok v e):=by
 cases ok with
 |false=>exact ⟨h,g⟩
 |true=>
  cases v with
  |tup xs=>exact absurd rfl (hn xs)
  |c x => exact ⟨⟨_, rfl, .cons ⟨x, rfl, h⟩ (.cons ⟨_, rfl, .inr rfl⟩ .nil)⟩, λp hp y hy => by
    rcases yAu.1 hp with rfl | hp
    ·rcases yAu.1 hy with rfl | hy
     ·exact g
     ·simp at hy
    ·rcases yAu.1 hp with rfl | hp
     ·rcases yAu.1 hy with rfl | hy
      ·rfl
      ·simp at hy
     ·simp at hp⟩
  |agg xs=>exact ⟨⟨_,rfl,.cons h (.cons ⟨_,rfl,.inr rfl⟩ .nil)⟩,λp hp y hy=>by
    rcases yAu.1 hp with rfl | hp
    ·exact g y hy
    ·rcases yAu.1 hp with rfl | hp
     ·rcases yAu.1 hy with rfl | hy
      ·rfl
      ·simp at hy
     ·simp at hp⟩
theorem mpV_nt(j:Nat)(st:Bool)(a:TT j):∀xs,mpV j st a≠.tup xs:=by intro xs h;cases st <;> simp[mpV] at h
theorem ofD_nt(d:D):∀xs,ofD d≠.tup xs:=by intro xs h;cases d <;> simp[ofD] at h
theorem ofD_okg{d:D}(h:d.low 0=true):RT (ofD d) d/\GV U (ofD d):=by
 have one:∀d:D,d.low 0=true->RT (.c (.d d)) d/\GV U (.c (.d d)):=λd h=>⟨.inr rfl,D.low_mono (yB3 _) h⟩;cases d with
 |agg ds=>simp only[D.low] at h;refine ⟨⟨ds,rfl,All2.ds ds⟩,λx hx=>?_⟩;rw[yA4] at hx;obtain ⟨y,hy,rfl⟩:=hx;exact lows_mem h y hy
 |_=>exact one _ h
theorem tlookup_ok{kind:TypeDesc}{zero:D}{m kx:Opd}{ok:Bool}(hr:RdOk U alD rd)(H:RH U σD)(h:tOp P S hint (.lookup kind zero m kx ok) rd U k=some r):Goal P orc n alD U σD (.lookup kind zero m kx ok) k r:=by
 simp only[tOp] at h;split at h
 ·rename_i ik b kv hm hk hz;obtain ⟨h1,g⟩:=hr.c hm (by simp);split at h
  ·rename_i j st l v x hb hx;obtain ⟨ob,e1,e2⟩:=H.hp b _ hb;have e2:ob=MB (mpE j st) l:=e2;subst e2;cases hq:mget l x with
   |none=>rw[hq] at h;obtain ⟨z1,z2⟩:=ofD_okg (U:=U) hz;obtain ⟨q1,q2⟩:=lkRes_ok (ok:=ok) (e:=false) z1 z2 (ofD_nt zero);exact OpK.pure (op_lookN h1 e1 (hr.int hk hx) hq rfl) q1 q2 H h
   |some a=>rw[hq] at h;obtain ⟨z1,z2⟩:=mpV_ok (U:=U) j st a;obtain ⟨q1,q2⟩:=lkRes_ok (ok:=ok) (e:=true) z1 z2 (mpV_nt j st a);exact OpK.pure (op_look h1 e1 (hr.int hk hx) hq rfl) q1 q2 H h
  ·simp at h
 ·simp at h
theorem mkM_ok{j:Nat}{st:Bool}{v:TV}{d:D}{a:TT j}(h:mkM j st v=some a)(r:RT v d):d=mpE j st a:=by
 unfold mkM at h;split at h
 ·rename_i xs;obtain ⟨ds,rfl,hd⟩:=r;obtain ⟨e1,e2⟩:=mkT_ok h;rw[hd.eq e2,e1];rfl
 ·rename_i x;obtain ⟨e1,e2⟩:=mkT_ok h;have:=RT.c1 (e2 x (yAq ..)) r;subst this;cases e:enc j a with
  |nil=>rw[e] at e1;simp at e1
  |cons c cs=>rw[e] at e1;simp only[yAw,yCp,yBs] at e1;simp only[mpE,e,e1.1,List.headD_cons];rfl
 ·simp at h
theorem tupd_ok{kind:TypeDesc}{m kx x:Opd}(hr:RdOk U alD rd)(H:RH U σD)(h:tOp P S hint (.upd kind m kx x) rd U k=some r):Goal P orc n alD U σD (.upd kind m kx x) k r:=by
 simp only[tOp] at h;split at h
 ·rename_i ik b kv v hm hk hx;obtain ⟨h1,g⟩:=hr.c hm (by simp);obtain ⟨d,h2,h3,h4⟩:=hr _ _ hx;split at h
  ·rename_i j st l ver i hb hi;obtain ⟨ob,e1,e2⟩:=H.hp b _ hb;have e2:ob=MB (mpE j st) l:=e2;subst e2;split at h
   ·rename_i a ha;have:=mkM_ok ha h3;subst this;have hbe:BE (.mp j st l ver) (.mp j st (mset l i a) (ver+1)):=⟨_,_,_,_,rfl,by omega,λe=>by omega⟩;refine ⟨_,_,_,_,.tup [],σD.set b (MB (mpE j st) (mset l i a)),op_upd h1 e1 (hr.int hk hi) h2 rfl,rt0,?_,H.set hb hbe rfl (λw cs e=>by simp at e),Ext.set hb hbe,λ_=>?_,λe=>by simp[totOp] at e,h⟩
    ·intro p hp;simp at hp
    ·simp only[wrOk,List.all_cons,List.all_nil,yBq];rw[e1,zaU e1];rfl
   ·simp at h
  ·simp at h
 ·simp at h
theorem tdel_ok{kind:TypeDesc}{m kx:Opd}(hr:RdOk U alD rd)(H:RH U σD)(h:tOp P S hint (.del kind m kx) rd U k=some r):Goal P orc n alD U σD (.del kind m kx) k r:=by
 simp only[tOp] at h;split at h
 ·rename_i ik b kv hm hk;obtain ⟨h1,g⟩:=hr.c hm (by simp);split at h
  ·rename_i j st l ver i hb hi;obtain ⟨ob,e1,e2⟩:=H.hp b _ hb;have e2:ob=MB (mpE j st) l:=e2;subst e2;have hbe:BE (.mp j st l ver) (.mp j st (mdel l i) (ver+1)):=⟨_,_,_,_,rfl,by omega,λe=>by omega⟩;refine ⟨_,_,_,_,.tup [],σD.set b (MB (mpE j st) (mdel l i)),op_del h1 e1 (hr.int hk hi) rfl,rt0,?_,H.set hb hbe rfl (λw cs e=>by simp at e),Ext.set hb hbe,λ_=>?_,λe=>by simp[totOp] at e,h⟩
   ·intro p hp;simp at hp
   ·simp only[wrOk,List.all_cons,List.all_nil,yBq];rw[e1,zaU e1];rfl
  ·simp at h
 ·simp at h
theorem tlen_ok{x:Opd}(hr:RdOk U alD rd)(H:RH U σD)(h:tOp P S hint (.len x) rd U k=some r):Goal P orc n alD U σD (.len x) k r:=by
 simp only[tOp] at h;split at h
 ·rename_i i l hx;obtain ⟨h1,g⟩:=hr.c hx (by simp);exact OpK.one h (op_len h1) rfl rfl H
 ·rename_i hx;obtain ⟨h1,g⟩:=hr.c hx (by simp);exact OpK.one h (op_len0 h1) rfl rfl H
 ·rename_i i b v q hx;obtain ⟨h1,g⟩:=hr.c hx (by simp);split at h
  ·rename_i j l lv cv hb;split at h
   ·rename_i hv;obtain ⟨rfl,rfl⟩:=own_row H g hb hv;exact OpK.one h (op_len_own (za8 _) h1 (H.row hb) rfl) rfl rfl H
   ·simp at h
  ·simp at h
 ·rename_i b off ln es sz hx;obtain ⟨h1,g⟩:=hr.c hx (by simp);split at h
  ·rename_i w cs hb;obtain ⟨ds,h2,h3,h4,_⟩:=H.cells hb;split at h
   ·rename_i hc;have e1:=yAi hc;exact OpK.one h (op_lenS (cs:=ds) h1 (zdA h2 (by rw[h4];exact e1)) rfl) rfl rfl H
   ·simp at h
  ·simp at h
 ·simp at h
theorem tmk_ok{es bytes:Nat}{z:List D}{x y:Opd}(hr:RdOk U alD rd)(H:RH U σD)(h:tOp P S hint (.mk es bytes z x y) rd U k=some r):Goal P orc n alD U σD (.mk es bytes z x y) k r:=by
 simp only[tOp] at h;split at h
 ·rename_i z0 u v hc hz hu hv;simp only[yAj] at hc;have he:=yAi hc.1;subst he;split at h
  ·rename_i u' v' hu' hv';obtain ⟨l,hl,hk⟩:=zby h;obtain ⟨h3,_⟩:=mkT_ok hz;have hz':z=(enc hint z0).map .c:=by rw[<-h3];simp[TC.er,Function.comp_def]
   refine OpK.new (v:=.c (.own hint U.length 0 l.length)) (d:=OS (esz hint) U.length l.length) (ob:=OB (enc hint) l) (op_mk (hr.int hu hu') (hr.int hv hv') hz' hl hc.2.1 (by rw[H.len]) rfl) (Or.inr rfl) (own_good (b:=0) rfl) H rfl (λw cs e=>by simp at e) hk
  ·simp at h
 ·rename_i v hc hz hu hv;simp only[yAj] at hc;have he:=yAi hc.1;subst he;split at h
  ·rename_i v' hv';obtain ⟨l,hl,hk⟩:=zby h;refine OpK.new (v:=.c (.own hint U.length 0 l.length)) (d:=OS (esz hint) U.length l.length) (ob:=OB (enc hint) l) (op_mk0 (hr.int hu rfl) (hr.int hv hv') hl hc.2.1 (by rw[H.len]) rfl) (Or.inr rfl) (own_good (b:=0) rfl) H rfl (λw cs e=>by simp at e) hk
  ·simp at h
 ·simp at h
theorem tapp_ok{es bytes:Nat}{s x:Opd}(hr:RdOk U alD rd)(H:RH U σD)(h:tOp P S hint (.append es bytes s x) rd U k=some r):Goal P orc n alD U σD (.append es bytes s x) k r:=by
 simp only[tOp] at h;split at h
 ·rename_i i b v q y hs hx;obtain ⟨h1,g⟩:=hr.c hs (by simp);obtain ⟨d,h2,h3,h4⟩:=hr _ _ hx;split at h
  ·rename_i j l lv cv hb;split at h
   ·rename_i l' m hc hl hm;simp only[yAj] at hc;have he:=yAi hc.2.1;subst he;obtain ⟨rfl,rfl⟩:=own_row H g hb hc.1;have hb':=row_cast H hb hl;rw[hb] at hb';simp only[yAa,TB.row.injEq,heq_eq_eq,yCx,yBN] at hb';subst hb';obtain ⟨rr,ha,hk⟩:=zby h;have hbe:BE (.row j l lv cv) (.row j rr (lv+1) (cv+1)):=⟨_,_,_,rfl,by omega,by omega,λe=>by omega,λe=>by omega⟩;refine ⟨.c (.own j b (lv+1) rr.length),_,true,[b],OS (esz j) b rr.length,_,op_append (za8 j) h1 (H.row hb) rfl h2 (srcT_ok H hm h3 h4) ha hc.2.2 rfl rfl,Or.inr rfl,?_,H.set hb hbe rfl (λw cs e=>by simp at e),Ext.set hb hbe,λe=>by simp at e,λe=>by simp[totOp] at e,hk⟩;refine ⟨_,zaU hb,λj' l' lv' cv' e=>?_⟩;simp only[TB.row.injEq] at e;obtain ⟨rfl,hl,rfl,rfl⟩:=e;cases hl;exact ⟨yAo _,λ_=>⟨rfl,rfl⟩⟩
   ·simp at h
  ·simp at h
 ·rename_i i b v q hs hx;obtain ⟨h1,_⟩:=hr.c hs (by simp);obtain ⟨d,h2,h3,h4⟩:=hr _ _ hx;split at h
  ·rename_i a l hc hm;simp only[yAj] at hc;have he:=yAi hc.1;subst he;split at h
   ·rename_i hle;exact OpK.new (v:=.c (.own i U.length 0 (a::l).length)) (d:=OS (esz i) U.length (a::l).length) (ob:=OB (enc i) (a::l)) (op_appendN h1 h2 (srcT_ok H hm h3 h4) hle hc.2 (by rw[H.len]) rfl) (Or.inr rfl) (own_good (b:=0) rfl) H rfl (λw cs e=>by simp at e) h
   ·simp at h
  ·simp at h
 ·rename_i i ll hs hx;obtain ⟨h1,_⟩:=hr.c hs (by simp);obtain ⟨d,h2,h3,h4⟩:=hr _ _ hx;split at h
  ·rename_i hc;simp only[yAj] at hc;have he:=yAi hc.1;subst he;rw[yAe] at h;obtain ⟨rr,ha,h⟩:=h;obtain ⟨hle,e⟩:=app_some ha;rw[e] at h;have hm:srcT i U (.c (.sl i ll))=some ([]++ll):=by
    simp only[srcT,castL,List.nil_append];split
    ·rfl
    ·rename_i h _;exact absurd rfl h
   exact OpK.new (v:=.c (.own i U.length 0 ([]++ll).length)) (d:=OS (esz i) U.length ([]++ll).length) (ob:=OB (enc i) ([]++ll)) (op_appendN h1 h2 (srcT_ok H hm h3 h4) (Nat.ble_eq.mpr (by simpa using hle)) hc.2 (by rw[H.len]) rfl) (Or.inr rfl) (own_good (b:=0) rfl) H rfl (λw cs e=>by simp at e) h
  ·simp at h
 ·simp at h
theorem tcopy1xok{es:Nat}{d s:Opd}{y:TV}{i b lo len:Nat}{l:List (TT i)}{m:List (TT i)}{lv cv:Nat}(hr:RdOk U alD rd)(H:RH U σD)(h1:lx alD d=some (.sl b (0+lo * esz i) len (esz i) (l.length * esz i)))(hx:rd s=some y)(hm:srcT i U y=some m)
  (hb:U[b]? = some (.row i l lv cv)) (hle:lo+len<=l.length) (he:es=esz i) (h:k (.c (.d (I ((m.take len).length:Int)))) (U.set b (.row i (cpL l m lo len) lv (cv+1))) false [b]=some r):Goal P orc n alD U σD (.copy es d s) k r:=by
 subst he;obtain ⟨dd,h2,h3,h4⟩:=hr _ _ hx;have hbe:BE (.row i l lv cv) (.row i (cpL l m lo len) lv (cv+1)):=⟨_,_,_,rfl,yAo _,by omega,λ_=>cpL_len hle,λe=>by omega⟩;refine ⟨.c (.d (I ((m.take len).length:Int))),_,false,[b],_,_,op_copy (za8 i) h1 (H.row hb) hle h2 (srcN_ok H hm h3 h4) rfl,.inr rfl,rfl,H.set hb hbe rfl (λw cs e=>by simp at e),Ext.set hb hbe,λ_=>?_,λe=>by simp[totOp] at e,h⟩;simp only[wrOk,List.all_cons,List.all_nil,yBq];rw[H.row hb,zaU (H.row hb)];simp[Ob.sz,flat_len (za8 i),cpL_len hle]
theorem tcopy_ok{es:Nat}{d s:Opd}(hr:RdOk U alD rd)(H:RH U σD)(h:tOp P S hint (.copy es d s) rd U k=some r):Goal P orc n alD U σD (.copy es d s) k r:=by
 simp only[tOp] at h;split at h
 ·rename_i i b v q y hd hx;obtain ⟨h1,g⟩:=hr.c hd (by simp);split at h
  ·rename_i j l lv cv hb;split at h
   ·rename_i l' m hc hl hm;simp only[yAj] at hc;obtain ⟨rfl,rfl⟩:=own_row H g hb hc.1;obtain ⟨_,rfl⟩:=zcn hl;exact tcopy1xok (lo:=0) (len:=l'.length) hr H (by simpa[TC.er,OS] using h1) hx hm hb (by omega) (yAi hc.2) h
   ·simp at h
  ·simp at h
 ·rename_i i b v q lo len y hd hx;obtain ⟨h1,g⟩:=hr.c hd (by simp);split at h
  ·rename_i j l lv cv hb;split at h
   ·rename_i l' m hc hl hm;simp only[yAj] at hc;obtain ⟨rfl,rfl,hle⟩:=os_row H g hb hc.1;obtain ⟨_,rfl⟩:=zcn hl;exact tcopy1xok hr H h1 hx hm hb hle (yAi hc.2) h
   ·simp at h
  ·simp at h
 ·simp at h
theorem textract_ok{x:Opd}{i:Nat}(hr:RdOk U alD rd)(H:RH U σD)(h:tOp P S hint (.extract x i) rd U k=some r):Goal P orc n alD U σD (.extract x i) k r:=by
 simp only[tOp] at h;split at h
 ·rename_i xs hx;obtain ⟨d,h1,⟨ds,rfl,h2⟩,h3⟩:=hr _ _ hx;split at h
  ·rename_i cs hi;obtain ⟨d,h4,es,rfl,h5⟩:=h2.get _ _ hi;exact OpK.pure (v:=.agg cs) (op_extract h1 h4) ⟨es,rfl,h5⟩ (h3 _ (yAy hi)) H h
  ·rename_i c hi;obtain ⟨d,h4,y,e,h5⟩:=h2.get _ _ hi;simp only[yBs,yBN] at e;subst e;exact OpK.pure (v:=.c c) (op_extract h1 h4) h5 (h3 _ (yAy hi) c (by simp)) H h
  ·simp at h
 ·simp at h
theorem fnD_ok:∀{vs:List TV}{xs:List D}{ds:List D},vs.mapM (λv=>(match v with | .c (.d x)=>some x | _=>none))=some xs->All3 vs ds->(∀v∈vs,GV U v)->ds=xs/\D.low.lows U.length xs=true:=by
 intro vs;induction vs with
 |nil=>intro xs ds h r _;simp only[List.mapM_nil] at h;cases h;cases r;exact ⟨rfl,rfl⟩
 |cons v vs ih=>
  intro xs ds h r g;cases r with
  |cons h1 r=>
   rw[yAS] at h;split at h
   ·rename_i x;cases h2:vs.mapM (λv=>(match v with | .c (.d x)=>some x | _=>none)) with
    |none=>rw[h2] at h;simp at h
    |some ys=>rw[h2] at h;cases h;obtain ⟨h3,h4⟩:=ih h2 r λv hv=>g v (yAm _ hv);have h5:=RT.c1 (by simp) h1;subst h3 h5;refine ⟨rfl,?_⟩;simp only[D.low.lows,h4,yBq];exact g _ (yAq ..)
   ·simp at h
theorem cvOf_ok{U:TH}{xs:List TC}{cs:List CV}{ds:List D}(h:xs.mapM cvOf=some cs)(r:All2 RC xs ds)(g:∀x∈xs,GC U x):ds=cs.map CV.er/\cs.all (CV.low U.length)=true:=by
 induction r generalizing cs with
 |nil=>
  have:cs=[]:=by simpa using h.symm
  subst this;exact ⟨rfl,rfl⟩
 | @cons x d xs ds h1 r ih=>
  rw[yAS] at h;cases hx:cvOf x with
  |none=>rw[hx] at h;simp at h
  |some c=>
   cases hs:xs.mapM cvOf with
   |none=>rw[hx,hs] at h;simp at h
   |some cs'=>
    rw[hx,hs] at h;cases h;obtain ⟨e1,e2⟩:=ih hs λy hy=>g y (yAm _ hy);have gx:=g x (yAq ..);unfold cvOf at hx;split at hx <;> cases hx
    ·have:=RT.c1 (x:=.d _) (by simp) h1;subst this;exact ⟨by rw[e1];rfl,by simp only[List.all_cons,e2,yBq];exact gx⟩
    ·have:=RT.c1 (x:=.b _) (by simp) h1;subst this;exact ⟨by rw[e1];rfl,by simp only[List.all_cons,e2,yBq];rfl⟩
    ·have:=RT.c1 (x:=.sl _ _) (by simp) h1;subst this;exact ⟨by rw[e1];rfl,by simp only[List.all_cons,e2,yBq];rfl⟩
theorem tmkfn_ok{f:Fn}{first cap:List Opd}(hr:RdOk U alD rd)(H:RH U σD)(h:tOp P S hint (.mkfn f first cap) rd U k=some r):Goal P orc n alD U σD (.mkfn f first cap) k r:=by
 simp only[tOp] at h;split at h
 ·rename_i a b ha hb;obtain ⟨ds,h1,h2,h3⟩:=hr.all ha;obtain ⟨es,h4,h5,h6⟩:=hr.all hb;split at h
  ·rename_i g cs hf;unfold fnaOf at hf;split at hf
   rotate_left
   ·simp at hf
   rename_i g' xs;rw[yAd] at hf;obtain ⟨cs',hc,e⟩:=hf;simp only[yAc] at e;obtain ⟨rfl,rfl⟩:=e;cases h2 with
   |cons q1 q2=>cases q2;cases h5;obtain ⟨ds',rfl,q3⟩:=q1;obtain ⟨e1,e2⟩:=cvOf_ok hc q3 (h3 _ (yAq ..));subst e1;exact OpK.one h (op_mkfn h1 h4) rfl e2 H
  split at h
  ·rename_i a' b' ha' hb';obtain ⟨rfl,h7⟩:=fnD_ok ha' h2 h3;obtain ⟨rfl,h8⟩:=fnD_ok hb' h5 h6;refine OpK.one h (op_mkfn h1 h4) rfl ?_ H;show D.low _ _=true;simp only[D.low,h7,h8,yBO]
  ·simp at h
 ·simp at h
theorem tpart_ok{off:Nat}{m:Option Nat}{x:Opd}(hr:RdOk U alD rd)(H:RH U σD)(h:tOp P S hint (.part off m x) rd U k=some r):Goal P orc n alD U σD (.part off m x) k r:=by
 simp only[tOp] at h;split at h
 ·rename_i cs hx;obtain ⟨d,h1,⟨ds,rfl,h2⟩,h3⟩:=hr _ _ hx;split at h
  ·rename_i v hv;obtain ⟨d,h4,h5⟩:=getT_ok hv h2;exact OpK.pure (op_part h1 h4) h5 (getT_good hv h3) H h
  ·simp at h
 ·simp at h
theorem op_aidxR{len j es:Nat}{m:Option Nat}{x i:Opd}{q:Int}{cs:List D}{d:D}(h:lx alD x=some (.agg cs))(hi:lx alD i=some (I q))(hk:inR q len=some j)(hg:zaT m cs (j * es)=some d):OpR P orc n alD σD (.aidx es len m x i) d σD []:=λe he=>by simp[zaB,zaY he h,zaY he hi,zbJ,hk,hg]
theorem taidx_ok{es len:Nat}{m:Option Nat}{x i:Opd}(hr:RdOk U alD rd)(H:RH U σD)(h:tOp P S hint (.aidx es len m x i) rd U k=some r):Goal P orc n alD U σD (.aidx es len m x i) k r:=by
 simp only[tOp] at h;split at h
 ·rename_i cs iv hx hi;obtain ⟨d,h1,⟨ds,rfl,h2⟩,h3⟩:=hr _ _ hx;split at h
  ·rename_i q hq;split at h
   ·rename_i j hj;split at h
    ·rename_i v hv;obtain ⟨d,h4,h5⟩:=getT_ok hv h2;exact OpK.pure (op_aidxR h1 (hr.int hi hq) hj h4) h5 (getT_good hv h3) H h
    ·simp at h
   ·simp at h
  ·rename_i q hq;split at h
   ·rename_i l hs hl;simp only[yAj] at hs;have he:=yAi hs.1;have hn:=yAi hs.2;subst he;obtain ⟨a,ha,hk⟩:=zby h;have h5:=ints_ok hl h2;have hlen:l.length=len:=by rw[<-hn,h2.len,h5,yAz]
    exact OpK.one hk (op_aidx (f:=λz=>.c (.lit (.int .i64 z))) h1 (hr.int hi hq) ha h5 hlen) rfl rfl H
   ·simp at h
  ·simp at h
 ·simp at h
theorem tcall_ok{f:Opd}{args:List Opd}(hr:RdOk U alD rd)(H:RH U σD)(h:tOp P S hint (.call f args) rd U k=some r):Goal P (zc2 (zdG S)) n alD U σD (.call f args) k r:=by
 simp only[tOp] at h;split at h
 ·rename_i g vs hf hvs;obtain ⟨h1,_⟩:=hr.c hf (by simp);obtain ⟨ds,h2,h3,h4⟩:=hr.all hvs;split at h
  ·rename_i s hs;split at h
   ·rename_i a ha;obtain ⟨q,hq,hk⟩:=zby h;exact OpK.pure (op_call h1 h2 (spc_ok hs h3 ha hq)) (outT_ok s.out q) (outT_good s.out q) H hk
   ·split at h
    ·rename_i a hc ha;simp only[yAj] at hc;obtain ⟨q,hq,hk⟩:=zby h;exact OpK.pure (op_call h1 h2 (spc_lend H hs h4 h3 hc.1 hc.2 ha hq)) (outT_ok s.out q) (outT_good s.out q) H hk
    ·simp at h
  ·simp at h
 ·simp at h
theorem tOp_ok(hr:RdOk U alD rd)(H:RH U σD)(h:tOp P S hint o rd U k=some r):Goal P (zc2 (zdG S)) n alD U σD o k r:=by
 cases o with
 |mov x=>
  simp only[tOp] at h;split at h
  ·rename_i v hv;obtain ⟨d,h1,h2,h3⟩:=hr _ _ hv;exact OpK.pure (zdZ h1) h2 h3 H h
  ·simp at h
 |gen op ty=>exact genT_ok hr H h
 |box x=>exact tbox_ok hr H h
 |alloc z=>exact talloc_ok H h
 |build z ps=>exact tbuild_ok hr H h
 |bslice es len z ps=>exact tbslice_ok hr H h
 |load m x=>exact tload_ok hr H h
 |store m x y=>exact tstore_ok hr H h
 |nilck x=>exact tnilck_ok hr H h
 |isnil kd neg x=>exact tisnil_ok hr H h
 |fld off x=>exact tfld_ok hr H h
 |idx es len x i=>exact tidx_ok hr H h
 |slc es x lo hi=>exact tslc_ok hr H h
 |mkmap=>exact tmkmap_ok H h
 |lookup kind zero m kx ok=>exact tlookup_ok hr H h
 |upd kind m kx x=>exact tupd_ok hr H h
 |del kind m kx=>exact tdel_ok hr H h
 |len x=>exact tlen_ok hr H h
 |mk es bytes z x y=>exact tmk_ok hr H h
 |append es bytes s x=>exact tapp_ok hr H h
 |copy es d s=>exact tcopy_ok hr H h
 |extract x i=>exact textract_ok hr H h
 |mkfn f a b=>exact tmkfn_ok hr H h
 |part off m x=>exact tpart_ok hr H h
 |aidx es len m x i=>exact taidx_ok hr H h
 |call f args=>exact tcall_ok hr H h
 |_=>simp[tOp] at h
end
end Go.Abs
end
section
namespace Go.Abs
noncomputable section
variable[Gl][Y:Ty]
def atP(p:Nat):TA->Option (Nat×RV)
 |[]=>none
 |x::al=>if al.length=p then some x else atP p al
theorem atP_lt{p:Nat}{y:Nat×RV}:∀{al:TA},atP p al=some y->p<al.length:=by
 intro al;induction al with
 |nil=>intro h;simp[atP] at h
 |cons x al ih=>
  intro h;simp only[atP] at h;split at h
  ·simp only[List.length_cons];omega
  ·have:=ih h;simp only[List.length_cons];omega
theorem atP_cons{p:Nat}{y z:Nat×RV}{al:TA}(h:atP p al=some y):atP p (z::al)=some y:=by have:=atP_lt h;simp only[atP];rw[if_neg (by omega)];exact h
theorem atP_app{p:Nat}{y:Nat×RV}{al:TA}(h:atP p al=some y):∀(pre:TA),atP p (pre++al)=some y:=by
 intro pre;induction pre with
 |nil=>exact h
 |cons z pre ih=>exact atP_cons ih
theorem lkP_at{t p:Nat}{x:RV}:∀{al:TA},lkP t al=some (x,p)->atP p al=some (t,x):=by
 intro al;induction al with
 |nil=>intro h;simp[lkP] at h
 |cons y al ih=>
  intro h;obtain ⟨s,z⟩:=y;simp only[lkP] at h;split at h
  ·rename_i hb;have:=yAi hb;subst this;simp only[yAa,yAc] at h;obtain ⟨rfl,rfl⟩:=h;simp only[atP,if_true]
  ·exact atP_cons (ih h)
def GW(al:TA)(U:TH):RV->Prop
 |.v x=>GV U x
 |.g c w p x=>(∃t,atP p al=some (t,.v (.c (.b c))))/\(c=w->GV U x)
theorem GW.mono{al:TA}{U U1:TH}(h:Ext U U1)(pre:TA){x:RV}(g:GW al U x):GW (pre++al) U1 x:=by
 cases x with
 |v x=>exact GV.mono h g
 |g c w p x=>exact ⟨let ⟨t,ht⟩:=g.1;⟨t,atP_app ht pre⟩,λe=>(g.2 e).mono h⟩
structure Ref (al:TA) (U:TH) (alD:AL) (σD:Heap):Prop where
 hh:RH U σD
 rg:∀t x p,lkP t al=some (x,p)->∃d,lk t alD=some d/\RR x d/\GW al U x
def KnOk(al:TA)(kn:Kn):Prop:=∀p b,knk p kn=some b->∀t e,atP p al=some (t,.v (.c (.b e)))->e=b
variable{P:Program}{n:Nat}{alD:AL}{U U1:TH}{σD σD1:Heap}{al:TA}{kn:Kn}{S:TSs}
theorem Ref.set{t:Nat}{x:RV}{d:D}(Rf:Ref al U alD σD)(H:RH U1 σD1)(he:Ext U U1)(hx:RR x d)(hg:GW ((t,x)::al) U1 x):Ref ((t,x)::al) U1 ((t,d)::alD) σD1:={
 hh:=H
 rg:=λs y p h=>by
  simp only[lkP] at h;simp only[lk];split at h
  ·rename_i hb;simp only[yAa,yAc] at h;obtain ⟨rfl,rfl⟩:=h
   try rw[hb]
   exact ⟨d,rfl,hx,hg⟩
  ·rename_i hb
   try rw[hb]
   obtain ⟨d',h1,h2,h3⟩:=Rf.rg s y p h;exact ⟨d',h1,h2,h3.mono he [(t,x)]⟩ }
theorem Ref.heap(Rf:Ref al U alD σD)(H:RH U1 σD1)(he:Ext U U1):Ref al U1 alD σD1:={
 hh:=H
 rg:=λs y p h=>let ⟨d',h1,h2,h3⟩:=Rf.rg s y p h;⟨d',h1,h2,h3.mono he []⟩ }
theorem KnOk.cons{z:Nat×RV}(h:KnOk al kn)(hp:∀p b,knk p kn=some b->p<al.length):KnOk (z::al) kn:=λp b hk t e ha=>by refine h p b hk t e ?_;have:=hp p b hk;simp only[atP] at ha;rw[if_neg (by omega)] at ha;exact ha
def KnIn(al:TA)(kn:Kn):Prop:=∀p b,knk p kn=some b->p<al.length
theorem KnIn.cons{z:Nat×RV}(h:KnIn al kn):KnIn (z::al) kn:=λp b hk=>by have:=h p b hk;simp only[List.length_cons];omega
theorem KnOk.add{p:Nat}{b:Bool}(h:KnOk al kn)(hb:∀t e,atP p al=some (t,.v (.c (.b e)))->e=b):KnOk al ((p,b)::kn):=λq c hk t e ha=>by
 simp only[knk] at hk;split at hk
 ·rename_i hq;have:=yAi hq;simp only[yAa] at hk;subst this hk;exact hb t e ha
 ·exact h q c hk t e ha
theorem KnIn.add{p:Nat}{b:Bool}(h:KnIn al kn)(hb:p<al.length):KnIn al ((p,b)::kn):=λq c hk=>by
 simp only[knk] at hk;split at hk
 ·rename_i hq;have:=yAi hq;subst this;exact hb
 ·exact h q c hk
theorem ofD_ok{d:D}(h:d.low 0=true):RT (ofD d) d/\GV U (ofD d):=by
 unfold ofD;split
 ·rename_i ds;exact ⟨⟨ds,rfl,All2.ds ds⟩,ds_good h⟩
 ·exact ⟨.inr rfl,D.low_mono (yB3 _) h⟩
theorem rdO_ok(Rf:Ref al U alD σD)(K:KnOk al kn){cur:Option (Nat×Bool)}(hc:∀q w,cur=some (q,w)->∀t e,atP q al=some (t,.v (.c (.b e)))->e=w):RdOk U alD (rdO al kn cur):=by
 intro x v h;cases x with
 |k d=>
  simp only[rdO] at h;split at h
  ·rename_i hl;simp only[yAa] at h;subst h;exact ⟨d,rfl,(ofD_ok (U:=U) hl).1,(ofD_ok hl).2⟩
  ·simp at h
 |t s=>
  simp only[rdO] at h;split at h
  ·rename_i y p hp;simp only[yAa] at h;subst h;obtain ⟨d,h1,h2,h3⟩:=Rf.rg s _ p hp;exact ⟨d,h1,h2,h3⟩
  ·rename_i c w p y q hp;split at h
   ·rename_i ho;simp only[yAa] at h;subst h;obtain ⟨d,h1,h2,h3⟩:=Rf.rg s _ q hp;obtain ⟨⟨t,ht⟩,h4⟩:=h3;have hcw:c=w:=by
     unfold opn at ho;split at ho
     ·rename_i b hb;have:=K p b hb t c ht;rw[this];exact eq_of_beq ho
     ·split at ho
      ·rename_i q' w';simp only[yAj] at ho;have e1:=yAi ho.1;have e2:w'=w:=eq_of_beq ho.2;subst e1 e2;exact hc _ _ rfl t c ht
      ·simp at ho
    simp only[RR,if_pos hcw] at h2;exact ⟨d,h1,h2,h4 hcw⟩
   ·simp at h
  ·simp at h
theorem lkP_of_gd{t p:Nat}{x:RV}(Rf:Ref al U alD σD)(h:lkP t al=some (x,p)):∃d,lk t alD=some d/\RR x d:=let ⟨d,h1,h2,_⟩:=Rf.rg t x p h;⟨d,h1,h2⟩
theorem tGd_ok(Rf:Ref al U alD σD)(K:KnOk al kn)(g:Option (Nat×Bool)):match tGd al kn g with
  |.opn=>Gd alD g true
  |.shut=>Gd alD g false
  |.sym e p w=>(∃t,atP p al=some (t,.v (.c (.b e))))/\(e=w->Gd alD g true)/\((!e)=w->Gd alD g false)
  |.spl e p=>∃t,atP p al=some (t,.v (.c (.b e)))
  |.res t x=>∃d,lk t alD=some d/\RT x d/\GV U x
  |.bad=>True:=by
 cases g with
 |none=>exact za9
 |some g=>
  obtain ⟨t,want⟩:=g;simp only[tGd];cases hl:lkP t al with
  |none=>trivial
  |some q=>
   obtain ⟨x,p⟩:=q;obtain ⟨d,h1,h2⟩:=lkP_of_gd Rf hl;cases x with
   |g c w p' y=>
    dsimp only;obtain ⟨d',h1',h2',⟨t',ht'⟩,h3'⟩:=Rf.rg t _ p hl;cases hk:knk p' kn with
    |none=>exact ⟨t',ht'⟩
    |some b=>
     dsimp only;by_cases hb:(b == w)=true
     ·rw[if_pos hb];have hcw:c=w:=by rw[K p' b hk t' c ht'];exact eq_of_beq hb
      simp only[RR,if_pos hcw] at h2';exact ⟨d',h1',h2',h3' hcw⟩
     ·rw[if_neg hb];have:=K p' b hk t' c ht';have hne:¬c=w:=λe=>hb (by rw[<-this,e];exact yCk w);simp only[RR,if_neg hne] at h2;subst h2;exact gd_gone h1
   |v y=>
    dsimp only;change RT y d at h2;generalize hG:gdB kn want p y=G;unfold gdB at hG;split at hG
    ·have:=RT.c1 (by simp) h2;subst this;subst hG;cases want
     ·exact gd_shut h1 rfl
     ·exact gd_open h1 rfl
    ·have:=RT.c1 (by simp) h2;subst this;subst hG;cases want
     ·exact gd_open h1 rfl
     ·exact gd_shut h1 rfl
    ·have:=RT.c1 (by simp) h2;subst this;subst hG;exact gd_gone h1
    ·rename_i e;have:=RT.c1 (by simp) h2;subst this;have hat:=lkP_at hl;cases hk:knk p kn with
     |none=>rw[hk] at hG;subst hG;refine ⟨⟨t,hat⟩,λe'=>gd_open h1 e',λe'=>gd_shut h1 ?_⟩;rw[<-e',Bool.not_not]
     |some b=>
      rw[hk] at hG;dsimp only at hG;have hb:=K p b hk t e hat;by_cases hw:(b == want)=true
      ·rw[if_pos hw] at hG;subst hG;exact gd_open h1 (by rw[hb];exact eq_of_beq hw)
      ·rw[if_neg hw] at hG;subst hG;refine gd_shut h1 ?_
       try rw[hb]
       cases b <;> cases want <;> simp_all
    ·subst hG;trivial
def iLe(a b:Info):Prop:=a.wr=b.wr/\a.dst=b.dst/\a.rds=b.rds/\a.lo=b.lo/\a.hi=b.hi/\(a.cat=0∨(a.cat=b.cat/\a.blk=b.blk))
theorem iLe.refl(a:Info):iLe a a:=⟨rfl,rfl,rfl,rfl,rfl,.inr ⟨rfl,rfl⟩⟩
theorem safe_mono{a b:Info}(h:iLe a b){wr:List Nat}(hs:safe b wr=true):safe a wr=true:=by
 obtain ⟨_,_,_,_,_,h | ⟨h1,h2⟩⟩:=h
 ·simp[safe,h]
 ·simp only[safe,h1,h2] at hs ⊢;exact hs
theorem apart_mono{a b a' b':Info}(h:iLe a b)(h':iLe a' b')(hs:apart b b'=true):apart a a'=true:=by
 simp only[apart,yAj] at hs ⊢;obtain ⟨⟨⟨⟨h1,h2⟩,h3⟩,h4,h5⟩,h6,h7⟩:=hs;have e:=h;have e':=h';obtain ⟨e1,e2,e3,e4,e5,_⟩:=e;obtain ⟨f1,f2,f3,f4,f5,_⟩:=e';refine ⟨⟨⟨⟨by rw[e2,f3];exact h1,by rw[f2,e3];exact h2⟩,by rw[e2,f2];exact h3⟩,by rw[f1];exact safe_mono h h4,by rw[e1];exact safe_mono h' h5⟩,?_,?_⟩
 ·simp only[outside,e4,e5,f1] at h6 ⊢;exact h6
 ·simp only[outside,f4,f5,e1] at h7 ⊢;exact h7
theorem pairsOk_mono{bef:List Nat}{as bs:List Info}(h:All2 iLe as bs)(hp:pairsOk bef bs=true):pairsOk bef as=true:=by
 simp only[pairsOk,yAp,yBS,yAt] at hp ⊢;intro j hj i hi;rw[h.len] at hj;rcases hp j hj i hi with h1 | h1
 ·exact .inl h1
 ·right;have get:∀q,q<bs.length->iLe (as.getD q default) (bs.getD q default):=by
   intro q hq;obtain ⟨a,h2,h3⟩:=h.get' q _ (yAg hq);rw[yAL,yAL,h2,yAg hq];exact h3
  exact apart_mono (get i (by omega)) (get j hj) h1
theorem ghOk_mono{bef pi:List Nat}{as bs:List Info}(h:All2 iLe as bs)(hp:ghOk bef pi bs=true):ghOk bef pi as=true:=by
 simp only[ghOk,yAp,yBS,yAt] at hp ⊢;intro j hj i hi;rw[h.len] at hj;rcases hp j hj i hi with h1 | h1
 ·exact .inl h1
 ·right;have get:∀q,q<bs.length->iLe (as.getD q default) (bs.getD q default):=by
   intro q hq;obtain ⟨a,h2,h3⟩:=h.get' q _ (yAg hq);rw[yAL,yAL,h2,yAg hq];exact h3
  exact apart_mono (get i (by omega)) (get j hj) h1
theorem TrQ.mono{orc:Orc2}{k:Nat}{os:List AOper}{Q Q':AL->Heap->List Info->Prop}(h:TrQ P orc k os n alD σD Q)(hq:∀a s i,Q a s i->Q' a s i):TrQ P orc k os n alD σD Q':=by obtain ⟨a,s,i,h1,h2⟩:=h;exact ⟨a,s,i,h1,hq _ _ _ h2⟩
theorem okT_ok(Rf:Ref al U alD σD){o:AOp}(h:okT al o=true):okA alD o=true:=by
 cases o with
 |load m x=>
  cases x with
  |k d=>rfl
  |t a=>simp only[okT,yAX] at h;obtain ⟨⟨x,p⟩,hx⟩:=h;obtain ⟨d,h1,_⟩:=lkP_of_gd Rf hx;simp[okA,lx,h1]
 |_=>rfl
variable{R:Type}
theorem blk_of{rd:Opd->Option TV}{hint:Nat}{o:AOp}{k:KO R}{r:R}(hr:RdOk U alD rd)(h:tOp P S hint o rd U k=some r):okA alD o=true/\blkA alD o=blkT rd o:=by
 cases o with
 |load m x=>
  simp only[tOp] at h;cases hx:rd x with
  |none=>rw[hx] at h;simp at h
  |some v=>
   obtain ⟨d,h1,h2,_⟩:=hr x v hx;refine ⟨by simp[okA,h1],?_⟩;simp only[blkA,blkT,h1,hx];cases v with
   |agg xs=>obtain ⟨ds,rfl,_⟩:=h2;rfl
   |tup xs=>obtain ⟨ds,rfl,_⟩:=h2;rfl
   |c y=>
    cases y with
    |any=>rw[hx] at h;simp at h
    |d z=>have:=RT.c1 (by simp) h2;subst this;cases d <;> rfl
    |_=>have:=RT.c1 (by simp) h2;subst this;rfl
 |_=>exact ⟨rfl,rfl⟩
def After(al:TA)(U:TH)(K:KS R)(r:R)(alD':AL)(σD':Heap)(isD:List Info):Prop:=
 ∃al' U' is,Ref al' U' alD' σD'/\(∃pre,al'=pre++al)/\Ext U U'/\All2 iLe isD is/\K al' U' is=some r
theorem After.cons{al al1:TA}{U U1:TH}{K:KS R}{r:R}{alD':AL}{σD' σD0:Heap}{isD:List Info}{i iD:Info}{pre:TA}(h:After al1 U1 (λal' U' is=>K al' U' (i::is)) r alD' σD' isD)(hp:al1=pre++al)(H:RH U σD0)(he:Ext U U1)(hi:iLe iD i) :
  After al U K r alD' σD' (iD::isD):=by
 obtain ⟨al',U',is,h1,⟨pre',rfl⟩,h3,h4,h5⟩:=h;exact ⟨_,U',i::is,h1,⟨pre'++pre,by rw[hp,yA3]⟩,Ext.trans H he h3,.cons hi h4,h5⟩
theorem pk_ok{e:Bool}{u v:TV}{bu bv:BX}(hu:bxOf u=some bu)(hv:bxOf v=some bv){d:D}(r:RT (if e then u else v) d):d=B (pk e bu bv):=by
 have key:∀{w:TV}{bw:BX},bxOf w=some bw->RT w d->d=B bw.val:=by
  intro w bw hw r;unfold bxOf at hw;split at hw
  ·simp only[yAa] at hw;subst hw;exact RT.c1 (by simp) r
  ·simp only[yAa] at hw;subst hw;exact RT.c1 (by simp) r
  ·simp only[yAa] at hw;subst hw;exact RT.c1 (by simp) r
  ·simp at hw
 cases e
 ·have:=key hv r;rw[this];cases bu <;> cases bv <;> simp[pk,BX.val]
 ·have:=key hu r;rw[this];cases bu <;> cases bv <;> simp[pk,BX.val]
theorem pkV_ok{U:TH}(c:Bool)(x y:BX):RT (pkV c x y) (B (pk c x y))/\GV U (pkV c x y):=by cases x <;> cases y <;> first | exact ⟨.inr rfl,True.intro⟩ | (cases c <;> exact ⟨.inr rfl,rfl⟩)
theorem tot_ok{o:AOp}{rd:Opd->Option TV}{v:TV}(hr:RdOk U alD rd)(H:RH U σD)(ht:totOp o=true)(h:tOp (R:=TV) P S 0 o rd U (λv _ _ _=>some v)=some v) :
  ∃d,OpR P (zc2 (zdG S)) n alD σD o d σD []/\RT v d/\GV U v:=by
 obtain ⟨v',U1,rs,wr,d,σD1,h1,h2,h3,_,_,_,h4,h5⟩:=tOp_ok (n:=n) hr H h;obtain ⟨rfl,rfl,rfl⟩:=h4 ht;simp only[yAa] at h5;subst h5;exact ⟨d,h1,h2,h3⟩
def selA:(cs:List CT)->altT cs->Option (Σ c:CT,tupI c.items)
 |[],_=>none
 |[c],x=>some ⟨c,x⟩
 |c :: d :: cs, x => match x with
  |.inl a=>some ⟨c,a⟩
  |.inr b=>selA (d::cs) b
theorem altK_sel{R:Type}{f:(c:CT)->tupI c.items->Option R}{r:R}:∀{cs:List CT}{x:altT cs},altK cs x f=some r->∃c a,selA cs x=some ⟨c,a⟩/\f c a=some r:=by
 intro cs;induction cs with
 |nil=>intro x h;simp[altK] at h
 |cons c cs ih=>
  intro x h;cases cs with
  |nil=>exact ⟨c,x,rfl,h⟩
  |cons d cs=>
   cases x with
   |inl a=>exact ⟨c,a,rfl,h⟩
   |inr b=>obtain ⟨c',a',h1,h2⟩:=ih (x:=b) h;exact ⟨c',a',h1,h2⟩
def ExOk(g:Cfg):Prop:=∀(ct:CT)(gi:FuncId)(vs:List TV)(U:TH)(rv:List TV)(U2:TH)(σD:Heap)(ds:List D),g.exa ct gi vs U=some (rv,U2)->RH U σD->All3 vs ds->(∀v∈vs,GV U v) ->
 enterable g.P gi=true/\∃r σD2,RH U2 σD2/\RT (oneT rv) r/\GV U2 (oneT rv)/\Ext U U2/\Ok g.P gi ds σD r σD2/\(∀b,b<σD.length->σD2[b]? = σD[b]?)
def InlOk0(g:Cfg):Prop:=∀(cs:List CT)(gi:FuncId)(vs:List TV)(U:TH)(y:altT cs)(ct:CT)(x:tupI ct.items)(rv:List TV)(U2:TH)(σD:Heap)(ds:List D),g.inl cs gi vs U=some y->selA cs y=some ⟨ct,x⟩->putI ct U x=some (rv,U2)->RH U σD->All3 vs ds->(∀v∈vs,GV U v) ->
 enterable g.P gi=true/\∃r σD2,RH U2 σD2/\RT (oneT rv) r/\GV U2 (oneT rv)/\Ext U U2/\Ok g.P gi ds σD r σD2/\(∀b,b<σD.length->b∉ct.pl.map PC.blk->σD2[b]? = σD[b]?)/\(ct.pl.any PC.rs=false->wrOk σD σD2 (ct.pl.map PC.blk)=true)
structure InlOk (g:Cfg):Prop where
 one:InlOk0 g
 two:ExOk g
theorem evTr_congr{oz oz':Orc2}:∀(os:List AOper)(k:Nat)(e:List D)(U:Heap),(∀o∈os,oz o.dst=oz' o.dst)->evTr P oz k os e U=evTr P oz' k os e U:=by
 intro os;induction os with
 |nil=>intro k e U _;rfl
 |cons o os ih=>
  intro k e U h;have h1:evOper P oz o e U=evOper P oz' o e U:=by unfold evOper;rw[h o (yAq ..)]
  simp only[evTr,h1];split
  ·split
   ·rw[ih _ _ _ λo ho=>h o (yAm _ ho)]
   ·rfl
  ·rfl
theorem TrQ.congr{oz oz':Orc2}{k:Nat}{os:List AOper}{Q:AL->Heap->List Info->Prop}(h:∀o∈os,oz o.dst=oz' o.dst)(t:TrQ P oz k os n alD σD Q):TrQ P oz' k os n alD σD Q:=by obtain ⟨a,s,i,h1,h2⟩:=t;refine ⟨a,s,i,λe he=>?_,h2⟩;obtain ⟨e',h3,h4⟩:=h1 e he;exact ⟨e',by rw[<-evTr_congr os k e σD h];exact h3,h4⟩
theorem All3.app{vs ws:List TV}{ds es:List D}(h:All3 vs ds)(h':All3 ws es):All3 (vs++ws) (ds++es):=by
 induction h with
 |nil=>exact h'
 |cons h _ ih=>exact .cons h ih
theorem ofD_rt(d:D):RT (ofD d) d:=by
 unfold ofD;split
 ·rename_i ds;exact ⟨ds,rfl,All2.ds ds⟩
 ·exact .inr rfl
theorem ofD_gv{d:D}(h:d.low U.length=true):GV U (ofD d):=by
 unfold ofD;split
 ·rename_i ds;intro x hx;rw[yA4] at hx;obtain ⟨y,hy,rfl⟩:=hx;obtain ⟨i,hi⟩:=yBt hy;exact D.lows_get h i y hi
 ·exact h
theorem ofDs_rt:∀(ds:List D),All3 (ds.map ofD) ds:=by
 intro ds;induction ds with
 |nil=>exact .nil
 |cons d ds ih=>exact .cons (ofD_rt d) ih
theorem fnT_ok{v:TV}{d:D}{gi:FuncId}{a b:List TV}(h:fnT v=some (gi,a,b))(r:RT v d)(g:GV U v):∃da db,All3 a da/\All3 b db/\(∀v∈a,GV U v)/\(∀v∈b,GV U v) /\
  ∀(orc:Orc)(f:Opd)(args:List Opd)(ds:List D)(r:D)(σD1:Heap)(w:List Nat),lx alD f=some d->lxs alD args=some ds->orc gi (da++ds++db) σD=some (r,σD1,w)->OpR P orc n alD σD (.call f args) r σD1 w:=by
 unfold fnT at h;split at h
 ·rename_i g' x y;simp only[yAa,yAc] at h;obtain ⟨rfl,rfl,rfl⟩:=h;have:=RT.c1 (by simp) r;subst this;refine ⟨x.map .c,y.map .c,?_,?_,λv hv=>?_,λv hv=>?_,λorc f args ds r σD1 w h1 h2 h3=>op_callc h1 h2 h3⟩
  ·have:=ofDs_rt (x.map D.c);rw[yB8] at this;exact this
  ·have:=ofDs_rt (y.map D.c);rw[yB8] at this;exact this
  ·rw[yA4] at hv;obtain ⟨z,_,rfl⟩:=hv;exact ofD_gv rfl
  ·rw[yA4] at hv;obtain ⟨z,_,rfl⟩:=hv;exact ofD_gv rfl
 ·rename_i g' x y;simp only[yAa,yAc] at h;obtain ⟨rfl,rfl,rfl⟩:=h;have:=RT.c1 (by simp) r;subst this;have gl:D.low.lows U.length x=true/\D.low.lows U.length y=true:=by
   have:(D.low U.length (.fn (.func g') x y))=true:=g;simpa[D.low] using this
  refine ⟨x,y,ofDs_rt x,ofDs_rt y,λv hv=>?_,λv hv=>?_,λorc f args ds r σD1 w h1 h2 h3=>op_callf h1 h2 h3⟩
  ·rw[yA4] at hv;obtain ⟨z,hz,rfl⟩:=hv;obtain ⟨i,hi⟩:=yBt hz;exact ofD_gv (D.lows_get gl.1 i z hi)
  ·rw[yA4] at hv;obtain ⟨z,hz,rfl⟩:=hv;obtain ⟨i,hi⟩:=yBt hz;exact ofD_gv (D.lows_get gl.2 i z hi)
 ·rename_i g' xs;simp only[yAa,yAc] at h;obtain ⟨rfl,rfl,rfl⟩:=h;have:=RT.c1 (x:=.fna _ _) (by simp) r;subst this;have gl:xs.all (CV.low U.length)=true:=g;have rr:All2 RC (xs.map cvT) (xs.map CV.er):=by
   clear gl g r;induction xs with
   |nil=>exact .nil
   |cons x xs ih=>exact .cons (.inr (by cases x <;> rfl)) ih
  refine ⟨[.agg (xs.map CV.er)],[],.cons ⟨_,rfl,rr⟩ .nil,.nil,λv hv=>?_,λv hv=>by simp at hv,λorc f args ds r σD1 w h1 h2 h3=>op_callf h1 h2 h3⟩;rw[yAZ] at hv;subst hv;intro y hy;rw[yA4] at hy;obtain ⟨x,hx,rfl⟩:=hy;have:=yAp.1 gl x hx;cases x with
  |d x=>exact this
  |b e=>exact True.intro
  |sl i l=>exact True.intro
 ·simp at h
theorem inlU_of{g:Cfg}{q:Nat}{os:List AOper}(h:inlR g q os=true):inlU g q os=true:=by
 unfold inlR at h;split at h
 ·rename_i hc;have:∀o,inlOf g q o=none:=λo=>by simp only[inlOf,hc]
  clear h;induction os with
  |nil=>rfl
  |cons o os ih=>simp only[inlU,this,ih,yBq];simp
 ·exact h
def TrE(g:Cfg)(q k:Nat)(os:List AOper)(alD:AL)(σD:Heap)(Q:AL->Heap->List Info->Prop):Prop:=
 ∃oz,zbp g.P oz/\(∀t,(∀o∈os,(inlOf g q o).isSome=true->o.dst≠t)->oz t=zc2 (zdG g.S))/\TrQ g.P oz k os g.n alD σD Q
section
variable{g:Cfg}{q k:Nat}{os:List AOper}{alD:AL}{σD σD1:Heap}{Q Q':AL->Heap->List Info->Prop}{t:Nat}{ao:AOp}{gd:Option (Nat×Bool)}{d:D}{w:List Nat}
theorem TrE.mono(h:TrE g q k os alD σD Q)(hq:∀a s i,Q a s i->Q' a s i):TrE g q k os alD σD Q':=by obtain ⟨oz,h1,h2,h3⟩:=h;exact ⟨oz,h1,h2,h3.mono hq⟩
theorem inlU_tail{o:AOper}(h:inlU g q (o::os)=true):inlU g q os=true:=by simp only[inlU,yAj] at h;exact h.2
theorem inlU_ne{o:AOper}(h:inlU g q (o::os)=true)(hn:inlOf g q o=none){t:Nat}(ht:o.dst=some t):∀o'∈os,(inlOf g q o').isSome=true->o'.dst≠some t:=by intro o' ho hi e;simp only[inlU,hn,yAj,yAs] at h;have:=h.1;rw[yCt] at this;have:=this o' ho;simp[sameD,ht,e,hi] at this
theorem inlU_one{o:AOper}{ct:List CT}(h:inlU g q (o::os)=true)(hn:inlOf g q o=some ct){t:Nat}(ht:o.dst=some t):∀o'∈os,o'.dst≠some t:=by intro o' ho e;simp only[inlU,hn,yAj,yAs] at h;have:=h.1;rw[yCt] at this;have:=this o' ho;simp[sameD,ht,e] at this
theorem TrE.op(hU:inlU g q (⟨some t,ao,gd⟩::os)=true)(hn:inlOf g q ⟨some t,ao,gd⟩=none)(h:OpR g.P (zc2 (zdG g.S)) g.n alD σD ao d σD1 w)(hg:Gd alD gd true)(hs:(Nat.blt t g.n&&okA alD ao&&(k == 0 || wrOk σD σD1 w))=true)
  (r:TrE g q (k-1) os ((t,d)::alD) σD1 λal' U' is=>Q al' U' (mkI ⟨some t,ao,gd⟩ (cat ao) (blkA alD ao) w σD.length σD1.length::is)):TrE g q k (⟨some t,ao,gd⟩::os) alD σD Q:=by
 obtain ⟨oz,h1,h2,h3⟩:=r;refine ⟨oz,h1,λt' ht'=>h2 t' λo ho=>ht' o (yAm _ ho),TrQ.op ?_ hg hs h3⟩;rw[h2 (some t) (inlU_ne hU hn rfl)];exact h
theorem TrE.eff(h:OpR g.P (zc2 (zdG g.S)) g.n alD σD ao d σD1 w)(hg:Gd alD gd true)(hs:(okA alD ao&&(k == 0 || wrOk σD σD1 w))=true)
  (r:TrE g q (k-1) os alD σD1 λal' U' is=>Q al' U' (mkI ⟨none,ao,gd⟩ (cat ao) (blkA alD ao) w σD.length σD1.length::is)):TrE g q k (⟨none,ao,gd⟩::os) alD σD Q:=by
 obtain ⟨oz,h1,h2,h3⟩:=r;refine ⟨oz,h1,λt' ht'=>h2 t' λo ho=>ht' o (yAm _ ho),TrQ.eff (d:=d) ?_ hg hs h3⟩;rw[h2 none λo ho hi e=>by
  unfold inlOf at hi;split at hi
  ·simp at hi
  ·split at hi
   ·rename_i e2;rw[e] at e2;simp at e2
   ·simp at hi]
 exact h
theorem TrE.no(hg:Gd alD gd false)(hs:(Nat.blt t g.n&&okA alD ao)=true)
  (r:TrE g q (k-1) os ((t,.tup [])::alD) σD λal' U' is=>Q al' U' (mkI ⟨some t,ao,gd⟩ 0 (blkA alD ao) [] σD.length σD.length::is)):TrE g q k (⟨some t,ao,gd⟩::os) alD σD Q:=by
 obtain ⟨oz,h1,h2,h3⟩:=r;exact ⟨oz,h1,λt' ht'=>h2 t' λo ho=>ht' o (yAm _ ho),TrQ.no hg hs h3⟩
theorem TrE.inl{ct:List CT}{gi:FuncId}{ds:List D}{wr:List Nat}(O:OrcOk g.P (zc2 (zdG g.S)))(hU:inlU g q (⟨some t,ao,gd⟩::os)=true)(hn:inlOf g q ⟨some t,ao,gd⟩=some ct)(hg:Gd alD gd true)
  (he:enterable g.P gi=true) (ok:Ok g.P gi ds σD d σD1) (hle:σD.length<=σD1.length) (hfr:∀b,b<σD.length->b∉wr->σD1[b]? = σD[b]?)
  (hop:∀(orc:Orc),orc gi ds σD=some (d,σD1,wr)->OpR g.P orc g.n alD σD ao d σD1 wr) (hs:(Nat.blt t g.n&&okA alD ao&&(k == 0 || wrOk σD σD1 wr))=true)
  (r:TrE g q (k-1) os ((t,d)::alD) σD1 λal' U' is=>Q al' U' (mkI ⟨some t,ao,gd⟩ (cat ao) (blkA alD ao) wr σD.length σD1.length::is)):TrE g q k (⟨some t,ao,gd⟩::os) alD σD Q:=by
 classical
 obtain ⟨oz,h1,h2,h3⟩:=r
 let ent:Orc:=λg' ds' U'=>if g'=gi/\ds'=ds/\U'=σD then some (d,σD1,wr) else none
 let oz':Orc2:=λt'=>if t'=some t then ent else oz t'
 refine ⟨oz',λt'=>?_,λt' ht'=>?_,TrQ.op (hop _ ?_) hg hs (h3.congr λo ho=>?_)⟩
 ·show OrcOk g.P (if t'=some t then ent else oz t');split
  ·intro g' ds' U' r U2 wr' h;simp only[ent] at h;split at h
   ·rename_i hc;obtain ⟨rfl,rfl,rfl⟩:=hc;simp only[yAa,yAc] at h;obtain ⟨rfl,rfl,rfl⟩:=h;exact ⟨he,ok,hle,hfr⟩
   ·simp at h
  ·exact h1 t'
 ·show (if t'=some t then ent else oz t')=_;rw[if_neg (λe=>ht' _ (yAq ..) (by rw[hn];rfl) e.symm)];exact h2 t' λo ho=>ht' o (yAm _ ho)
 ·show (if some t=some t then ent else oz (some t)) gi ds σD=_;rw[if_pos rfl];simp only[ent,and_self,if_true]
 ·show oz o.dst=if o.dst=some t then ent else oz o.dst;rw[if_neg (inlU_one hU hn rfl o ho)]
end
theorem tot_inl{g:Cfg}{q:Nat}{t:Option Nat}{ao:AOp}{gd:Option (Nat×Bool)}(h:totOp ao=true):inlOf g q ⟨t,ao,gd⟩=none:=by
 unfold inlOf;split
 ·rfl
 ·cases ao <;> first | rfl | simp[totOp] at h
theorem tOps_ok(g:Cfg)(q:Nat)(O:OrcOk g.P (zc2 (zdG g.S)))(hI:InlOk g):∀(fu k:Nat)(os:List AOper)(kn:Kn)(al:TA)(U:TH)(K:KS R)(r:R)(alD:AL)(σD:Heap),tOps g q fu k os kn al U K=some r->inlU g q os=true->Ref al U alD σD->KnOk al kn->KnIn al kn ->
  TrE g q k os alD σD (After al U K r):=by
 intro fu;induction fu with
 |zero=>intro k os kn al U K r alD σD h;simp[tOps] at h
 |succ fu ih=>
  intro k os kn al U K r alD σD h hU Rf Kn Ki;cases os with
  |nil=>simp only[tOps] at h;exact ⟨λ_=>zc2 (zdG g.S),λ_=>O,λt _=>rfl,TrQ.nil ⟨al,U,[],Rf,⟨[],rfl⟩,Ext.refl U,.nil,h⟩⟩
  |cons o os=>
   simp only[tOps] at h;have hU':=inlU_tail hU;split at h
   ·simp at h
   rename_i hn;obtain ⟨dst,op,gd⟩:=o;have G:=tGd_ok Rf Kn gd;dsimp only at h hn;have splitc:∀(e:Bool)(p:Nat),(∃t,atP p al=some (t,.v (.c (.b e))))->(if e=true then tOps g q fu k (⟨dst,op,gd⟩::os) ((p,true)::kn) al U K else tOps g q fu k (⟨dst,op,gd⟩::os) ((p,false)::kn) al U K)=some r ->
     TrE g q k (⟨dst,op,gd⟩::os) alD σD (After al U K r):=by
    intro e p ⟨t,ht⟩ h;have add:∀b,e=b->KnOk al ((p,b)::kn):=λb hb=>Kn.add λt' e' ht'=>by rw[ht] at ht';simp only[yAa,yAc,RV.v.injEq,TV.c.injEq,TC.b.injEq] at ht';rw[<-ht'.2,hb]
    split at h
    ·rename_i he;exact ih _ _ _ _ _ _ _ _ _ h hU Rf (add true he) (Ki.add (atP_lt ht))
    ·rename_i he;exact ih _ _ _ _ _ _ _ _ _ h hU Rf (add false (by simpa using he)) (Ki.add (atP_lt ht))
   cases hg:tGd al kn gd with
   |bad=>rw[hg] at h;simp at h
   |spl e p=>rw[hg] at h G;exact splitc e p G h
   |res t x=>
    rw[hg] at h G;obtain ⟨d,h1,h2,h3⟩:=G;have R1:Ref ((t,.v x)::al) U alD σD:=⟨Rf.hh,λs y p hs=>by
     simp only[lkP] at hs;split at hs
     ·rename_i hb;have:=yAi hb;subst this;simp only[yAa,yAc] at hs;obtain ⟨rfl,rfl⟩:=hs;exact ⟨d,h1,h2,h3⟩
     ·obtain ⟨d',g1,g2,g3⟩:=Rf.rg s y p hs;exact ⟨d',g1,g2,g3.mono (Ext.refl U) [(t,.v x)]⟩⟩
    refine (ih _ _ _ _ _ _ _ alD σD h hU R1 (Kn.cons Ki) Ki.cons).mono λa s i hA=>?_;obtain ⟨al',U',is,a1,⟨pre,rfl⟩,a3,a4,a5⟩:=hA;exact ⟨_,U',is,a1,⟨pre++[(t,.v x)],by rw[yA3];rfl⟩,a3,a4,a5⟩
   |shut=>
    rw[hg] at h G;dsimp only at h G;cases dst with
    |none=>simp at h
    |some t=>
     dsimp only at h hn;split at h
     ·simp at h
     rename_i hok;change Nat.blt t g.n=true at hn;have hok':=okT_ok Rf hok;refine TrE.no G (by rw[hn,hok'];rfl) ?_;refine (ih _ _ _ _ _ _ _ ((t,.tup [])::alD) σD h hU' (Rf.set Rf.hh (Ext.refl U) (.inr rfl) ?_) (Kn.cons Ki) Ki.cons).mono λa s i hA=>?_
     ·show D.low _ _=true;rfl
     ·refine hA.cons (pre:=[(t,.v (.c (.d (.tup []))))]) rfl Rf.hh (Ext.refl U) ?_;rw[Rf.hh.len];exact ⟨rfl,rfl,rfl,rfl,rfl,.inl rfl⟩
   |sym e p w=>
    rw[hg] at h G;dsimp only at h G;obtain ⟨⟨t0,ht0⟩,G1,G2⟩:=G;split at h
    ·rename_i t htot;change Nat.blt t g.n=true at hn;split at h
     ·rename_i v hv;have okc:okT al op=true:=by
       cases op with
       |load m x=>
        cases x with
        |k d=>rfl
        |t a=>
         simp only[okT];simp only[tOp] at hv;cases hx:rdO al kn (some (p,w)) (.t a) with
         |none=>rw[hx] at hv;simp at hv
         |some q=>
          simp only[rdO] at hx;cases hq:lkP a al with
          |none=>rw[hq] at hx;simp at hx
          |some q=>rfl
       |_=>rfl
      have hok':=okT_ok Rf okc;by_cases he:e=w
      ·have hr:RdOk U alD (rdO al kn (some (p,w))):=rdO_ok Rf Kn λq w' e' t e2 h2=>by
        simp only[yAa,yAc] at e';obtain ⟨rfl,rfl⟩:=e';rw[ht0] at h2;simp only[yAa,yAc,RV.v.injEq,TV.c.injEq,TC.b.injEq] at h2;rw[<-h2.2,he]
       obtain ⟨d,h1,h2,h3⟩:=tot_ok (n:=g.n) hr Rf.hh htot hv;obtain ⟨b1,b2⟩:=blk_of hr hv;refine TrE.op hU (tot_inl htot) h1 (G1 he) (by rw[hn,b1];simp[wrOk]) ?_;refine (ih _ _ _ _ _ _ _ ((t,d)::alD) σD h hU' (Rf.set Rf.hh (Ext.refl U) (by simp only[RR,if_pos he];exact h2) ⟨⟨t0,atP_cons ht0⟩,λ_=>h3⟩) (Kn.cons Ki) Ki.cons).mono λa s i hA=>?_;refine hA.cons (pre:=[(t,.g e w p v)]) rfl Rf.hh (Ext.refl U) ?_;rw[Rf.hh.len,b2];exact iLe.refl _
      ·have he':(!e)=w:=by cases e <;> cases w <;> simp_all
       refine TrE.no (G2 he') (by rw[hn,hok'];rfl) ?_;refine (ih _ _ _ _ _ _ _ ((t,.tup [])::alD) σD h hU' (Rf.set Rf.hh (Ext.refl U) (by simp only[RR,if_neg he]) ⟨⟨t0,atP_cons ht0⟩,λe'=>absurd e' he⟩) (Kn.cons Ki) Ki.cons).mono λa s i hA=>?_;refine hA.cons (pre:=[(t,.g e w p v)]) rfl Rf.hh (Ext.refl U) ?_;rw[Rf.hh.len];exact ⟨rfl,rfl,rfl,rfl,rfl,.inl rfl⟩
     ·simp at h
    ·exact splitc e p ⟨t0,ht0⟩ h
   |opn=>
    rw[hg] at h G;dsimp only at h G;cases hin:inlOf g q ⟨dst,op,gd⟩ with
    |some cs=>
     rw[hin] at h;dsimp only at h;have hr:RdOk U alD (rdO al kn none):=rdO_ok Rf Kn (by simp);cases op with
     |call f args=>
      dsimp only at h;split at h
      ·rename_i fv vs hfv hvs;split at h
       ·rename_i gi a b hfn;split at h
        ·rename_i ct hct;obtain ⟨⟨rv,U1⟩,hy,h⟩:=zby h;obtain ⟨df,f1,f2,f3⟩:=hr _ _ hfv;obtain ⟨ds,v1,v2,v3⟩:=hr.all hvs;obtain ⟨da,db,a1,b1,ga,gb,hop⟩:=fnT_ok (P:=g.P) (n:=g.n) (alD:=alD) (σD:=σD) hfn f2 f3;obtain ⟨he,r',σD2,q1,q2,q3,q4,q5,q6⟩:=hI.two ct gi _ U rv U1 σD _ hy Rf.hh ((a1.app v2).app b1) (λv hv=>by
           rcases yAE.1 hv with hv | hv
           ·rcases yAE.1 hv with hv | hv
            ·exact ga v hv
            ·exact v3 v hv
           ·exact gb v hv)
         cases dst with
         |none=>unfold inlOf at hin;split at hin <;> simp at hin
         |some t=>change Nat.blt t g.n=true at hn;refine TrE.inl (wr:=[]) O hU hin G he q5 (by rw[Rf.hh.len,q1.len];exact q4.len) (λb hb _=>q6 b hb) (λorc ho=>hop orc _ _ _ _ _ _ f1 v1 ho) (by rw[hn];simp[okA,wrOk]) ?_;refine (ih _ _ _ _ _ _ _ ((t,r')::alD) σD2 h hU' (Rf.set q1 q4 q2 q3) (Kn.cons Ki) Ki.cons).mono λa s i hA=>?_;refine hA.cons (pre:=[(t,.v (oneT rv))]) rfl Rf.hh q4 ?_;rw[Rf.hh.len,q1.len];exact iLe.refl _
        obtain ⟨y,hy,h⟩:=zby h;obtain ⟨ct,x,hsel,h⟩:=altK_sel h;split at h
        ·rename_i rv U1 hput;split at h
         ·rename_i hk;obtain ⟨df,f1,f2,f3⟩:=hr _ _ hfv;obtain ⟨ds,v1,v2,v3⟩:=hr.all hvs;obtain ⟨da,db,a1,b1,ga,gb,hop⟩:=fnT_ok (P:=g.P) (n:=g.n) (alD:=alD) (σD:=σD) hfn f2 f3;obtain ⟨he,r',σD2,q1,q2,q3,q4,q5,q6,q7⟩:=hI.one _ gi _ U y ct x rv U1 σD _ hy hsel hput Rf.hh ((a1.app v2).app b1) (λv hv=>by
           rcases yAE.1 hv with hv | hv
           ·rcases yAE.1 hv with hv | hv
            ·exact ga v hv
            ·exact v3 v hv
           ·exact gb v hv)
          cases dst with
          |none=>unfold inlOf at hin;split at hin <;> simp at hin
          |some t=>
           change Nat.blt t g.n=true at hn;have hwr:(k == 0 || wrOk σD σD2 (ct.pl.map PC.blk))=true:=by
            simp only[yAt] at hk ⊢;rcases hk with hk | hk
            ·left;rw[yAi hk];rfl
            ·right;exact q7 (by simpa using hk)
           refine TrE.inl O hU hin G he q5 (by rw[Rf.hh.len,q1.len];exact q4.len) q6 (λorc ho=>hop orc _ _ _ _ _ _ f1 v1 ho) (by rw[hn,hwr];rfl) ?_;refine (ih _ _ _ _ _ _ _ ((t,r')::alD) σD2 h hU' (Rf.set q1 q4 q2 q3) (Kn.cons Ki) Ki.cons).mono λa s i hA=>?_;refine hA.cons (pre:=[(t,.v (oneT rv))]) rfl Rf.hh q4 ?_;rw[Rf.hh.len,q1.len];exact iLe.refl _
         ·simp at h
        ·simp at h
       ·simp at h
      ·simp at h
     |_=>simp at h
    |none=>
    rw[hin] at h;dsimp only at h;split at h
    ·
     rename_i c x y t;change Nat.blt t g.n=true at hn;split at h
     ·rename_i cv p hc;have hat:=lkP_at hc;obtain ⟨dc,c1,c2,_⟩:=Rf.rg c _ p hc;change RT cv dc at c2;have fin:∀(v:TV)(d:D),OpR g.P (zc2 (zdG g.S)) g.n alD σD (.pick (.t c) x y) d σD []->RT v d->GV U v->(tOps g q fu (k-1) os kn ((t,.v v)::al) U λal' U' is=>K al' U' (mkI ⟨some t,.pick (.t c) x y,gd⟩ (cat (.pick (.t c) x y)) none [] U.length U.length::is))=some r ->
        TrE g q k (⟨some t,.pick (.t c) x y,gd⟩::os) alD σD (After al U K r):=by
       intro v d h1 h2 h3 h;refine TrE.op hU hin h1 G (by rw[hn];simp[okA,wrOk]) ?_;refine (ih _ _ _ _ _ _ _ ((t,d)::alD) σD h hU' (Rf.set Rf.hh (Ext.refl U) h2 h3) (Kn.cons Ki) Ki.cons).mono λa s i hA=>?_;refine hA.cons (pre:=[(t,.v v)]) rfl Rf.hh (Ext.refl U) ?_;rw[Rf.hh.len];exact iLe.refl _
      generalize hG:gdC kn p cv=GG at h;unfold gdC at hG;split at hG
      ·
       have:=RT.c1 (by simp) c2;subst this;subst hG;dsimp only at h;split at h
       ·rename_i v hv;obtain ⟨d,h1,h2,h3⟩:=rdO_ok Rf (Kn.add (p:=p) (b:=true) λt' e' ht'=>by rw[hat] at ht';simp at ht') (by simp) x v hv;exact fin v d (op_pickT c1 rfl h1) h2 h3 h
       ·simp at h
      ·have:=RT.c1 (by simp) c2;subst this;subst hG;dsimp only at h;split at h
       ·rename_i v hv;obtain ⟨d,h1,h2,h3⟩:=rdO_ok Rf (Kn.add (p:=p) (b:=false) λt' e' ht'=>by rw[hat] at ht';simp at ht') (by simp) y v hv;exact fin v d (op_pickF c1 rfl h1) h2 h3 h
       ·simp at h
      ·rename_i _ e _;have:=RT.c1 (by simp) c2;subst this;cases hk:knk p kn with
       |some b=>
        have hb:=Kn p b hk c e hat;have hadd:KnOk al ((p,b)::kn):=Kn.add λt' e' ht'=>by rw[hat] at ht';simp only[yAa,yAc,RV.v.injEq,TV.c.injEq,TC.b.injEq] at ht';rw[<-ht'.2,hb]
        cases b with
        |true=>
         rw[hk] at hG;subst hG;dsimp only at h;split at h
         ·rename_i v hv;obtain ⟨d,h1,h2,h3⟩:=rdO_ok Rf hadd (by simp) x v hv;exact fin v d (op_pickT c1 hb h1) h2 h3 h
         ·simp at h
        |false=>
         rw[hk] at hG;subst hG;dsimp only at h;split at h
         ·rename_i v hv;obtain ⟨d,h1,h2,h3⟩:=rdO_ok Rf hadd (by simp) y v hv;exact fin v d (op_pickF c1 hb h1) h2 h3 h
         ·simp at h
       |none=>
        rw[hk] at hG;subst hG;dsimp only at h;split at h
        ·rename_i u v hu hv;split at h
         ·rename_i bu bv hbu hbv;have cur:∀w,e=w->∀q w',some (p,w)=some (q,w')->∀t' e',atP q al=some (t',.v (.c (.b e')))->e'=w':=λw hw q w' e1 t' e' ht'=>by
           simp only[yAa,yAc] at e1;obtain ⟨rfl,rfl⟩:=e1;rw[hat] at ht';simp only[yAa,yAc,RV.v.injEq,TV.c.injEq,TC.b.injEq] at ht';rw[<-ht'.2,hw]
          cases he:e with
          |true=>obtain ⟨d,h1,h2,h3⟩:=rdO_ok Rf Kn (cur true he) x u hu;have hd:=pk_ok (e:=true) hbu hbv h2;subst hd;rw[he] at h;exact fin (pkV true bu bv) _ (op_pickT c1 he h1) (pkV_ok (U:=U) _ _ _).1 (pkV_ok _ _ _).2 h
          |false=>obtain ⟨d,h1,h2,h3⟩:=rdO_ok Rf Kn (cur false he) y v hv;have hd:=pk_ok (e:=false) hbu hbv h2;subst hd;rw[he] at h;exact fin (pkV false bu bv) _ (op_pickF c1 he h1) (pkV_ok (U:=U) _ _ _).1 (pkV_ok _ _ _).2 h
         ·simp at h
        ·simp at h
      ·subst hG;simp at h
     ·simp at h
    ·
     have hr:RdOk U alD (rdO al kn none):=rdO_ok Rf Kn (by simp);obtain ⟨v,U1,rs,wr,d,σD1,h1,h2,h3,h4,h5,h6,_,h7⟩:=tOp_ok (n:=g.n) hr Rf.hh h;obtain ⟨b1,b2⟩:=blk_of hr h;dsimp only at h7;split at h7
     ·rename_i hk;have hwr:(k == 0 || wrOk σD σD1 wr)=true:=by
       simp only[yAt] at hk ⊢;rcases hk with hk | hk
       ·left;rw[yAi hk];rfl
       ·right;exact h6 (by simpa using hk)
      cases dst with
      |none=>refine TrE.eff h1 G (by rw[b1,hwr];rfl) ?_;refine (ih _ _ _ _ _ _ _ alD σD1 h7 hU' (Rf.heap h4 h5) Kn Ki).mono λa s i hA=>?_;refine hA.cons (pre:=[]) rfl Rf.hh h5 ?_;rw[Rf.hh.len,h4.len,b2];exact iLe.refl _
      |some t=>change Nat.blt t g.n=true at hn;refine TrE.op hU hin h1 G (by rw[hn,b1,hwr];rfl) ?_;refine (ih _ _ _ _ _ _ _ ((t,d)::alD) σD1 h7 hU' (Rf.set h4 h5 h2 h3) (Kn.cons Ki) Ki.cons).mono λa s i hA=>?_;refine hA.cons (pre:=[(t,.v v)]) rfl Rf.hh h5 ?_;rw[Rf.hh.len,h4.len,b2];exact iLe.refl _
     ·simp at h7
end
end Go.Abs
end
section
namespace Go.Abs
noncomputable section
variable[Gl][Y:Ty]
structure Rn (m:Nat) (U1 U2:Heap) (ρ:Nat->Nat) (F:Nat->Prop):Prop where
 le:m<=U2.length
 id:∀i,i<m->ρ i=i
 inj:∀i j,i<U2.length->j<U2.length->ρ i=ρ j->i=j
 fr:∀i,i<U2.length->¬F (ρ i)
 row:∀b,F b->∃(i:Nat)(l:List (TT i)),U1[b]? = some (OB (enc i) l)
 sz:∀(i:Nat),i<U2.length->∃ob1 ob2,U1[ρ i]? = some ob1/\U2[i]? = some ob2/\ob2.sz=ob1.sz
def mN(n:Nat)(ρ:Nat->Nat)(M:Nat->Option Nat):Nat->Option Nat:=λi=>if i<n then M (ρ i) else none
def fzN(F:Nat->Prop)(M:Nat->Option Nat)(Fz:Nat->Prop):Nat->Prop:=λc=>Fz c∨∃b,F b/\M b=some c
def DWr(U1 U2:Heap)(ρ:Nat->Nat)(F:Nat->Prop)(d1 d2:D):Prop:=∀(M:Nat->Option Nat)(Fz:Nat->Prop)(w:World)(v:Value),Rel U1 M Fz w->V U1 M Fz w d1 v->V U2 (mN U2.length ρ M) (fzN F M Fz) w d2 v
section
variable{m:Nat}{U1 U2:Heap}{ρ:Nat->Nat}{F:Nat->Prop}
theorem VC.fzN{M:Nat->Option Nat}{Fz:Nat->Prop}{w:World}{x:C}{v:Value}(h:VC Fz w x v):VC (Go.Abs.fzN F M Fz) w x v:=h.mono λc hc=>⟨.inl hc,rfl⟩
theorem DWr.any(d:D):DWr U1 U2 ρ F d .any:=λ_ _ _ _ _ _=>.any _
theorem DWr.le{d1 d2 d3:D}(h:DLe d1 d2)(h':DWr U1 U2 ρ F d2 d3):DWr U1 U2 ρ F d1 d3:=λM Fz w v R hv=>h' M Fz w v R (h _ _ _ _ _ hv)
theorem DWr.low(N:Rn m U1 U2 ρ F){d:D}(hl:d.low m=true):DWr U1 U2 ρ F d d:=by
 intro M Fz w v R h;have at':∀b,b<m->∀ob,U1[b]? = some ob->∃ob2,U2[b]? = some ob2/\ob2.sz=ob.sz:=λb hb ob ho=>by obtain ⟨ob1,ob2,h1,h2,h3⟩:=N.sz b (yAH hb N.le);rw[N.id b hb,ho] at h1;simp only[yAa] at h1;subst h1;exact ⟨ob2,h2,h3⟩
 have m2:∀b,b<m->mN U2.length ρ M b=M b:=λb hb=>by unfold mN;rw[if_pos (yAH hb N.le),N.id b hb]
 induction h with
 |c h=>exact .c h.fzN
 |any v=>exact .any v
 |ptr a ob h hle hv=>simp only[D.low,yAf] at hl;obtain ⟨ob2,h2,h3⟩:=at' _ hl _ h;exact .ptr a ob2 h2 (by rw[h3];exact hle) (λhe=>by rw[h3] at he;rw[m2 _ hl];exact hv he)
 |sl a n cap hnn ob h hle hv=>simp only[D.low,yAf] at hl;obtain ⟨ob2,h2,h3⟩:=at' _ hl _ h;exact .sl a n cap hnn ob2 h2 (by rw[h3];exact hle) (λhe=>by rw[h3] at he;rw[m2 _ hl];exact hv he)
 |mp c ob h hv=>simp only[D.low,yAf] at hl;obtain ⟨ob2,h2,h3⟩:=at' _ hl _ h;exact .mp c ob2 h2 (λhe=>by rw[h3] at he;rw[m2 _ hl];exact hv he)
 |fn vs ws h1 h2 hv hw ih1 ih2=>simp only[D.low,yAj] at hl;exact .fn vs ws h1 h2 (λi d v a b=>ih1 i d v a b (D.lows_get hl.1 i d a)) (λi d v a b=>ih2 i d v a b (D.lows_get hl.2 i d a))
 |agg vs h1 hv ih=>simp only[D.low] at hl;exact .agg vs h1 (λi d v a b=>ih i d v a b (D.lows_get hl i d a))
 |tup vs h1 hv ih=>simp only[D.low] at hl;exact .tup vs h1 (λi d v a b=>ih i d v a b (D.lows_get hl i d a))
theorem DWr.data(N:Rn m U1 U2 ρ F){d:D}(hl:d.low 0=true):DWr U1 U2 ρ F d d:=DWr.low N (D.low_mono (yB3 _) hl)
theorem DWr.ptr(N:Rn m U1 U2 ρ F){i off sz:Nat}(hi:i<U2.length):DWr U1 U2 ρ F (.ptr (ρ i) off sz) (.ptr i off sz):=λM Fz w v R h=>by
 obtain ⟨ob1,ob2,h1,h2,h3⟩:=N.sz i hi;cases h with
 |ptr a ob h hle hv=>rw[h1] at h;simp only[yAa] at h;subst h;exact .ptr a ob2 h2 (by rw[h3];exact hle) (λhe=>by rw[h3] at he;unfold mN;rw[if_pos hi];exact hv he)
theorem DWr.sl(N:Rn m U1 U2 ρ F){i off len es sz:Nat}(hi:i<U2.length):DWr U1 U2 ρ F (.sl (ρ i) off len es sz) (.sl i off len es sz):=λM Fz w v R h=>by
 obtain ⟨ob1,ob2,h1,h2,h3⟩:=N.sz i hi;cases h with
 |sl a n cap hnn ob h hle hv=>rw[h1] at h;simp only[yAa] at h;subst h;exact .sl a n cap hnn ob2 h2 (by rw[h3];exact hle) (λhe=>by rw[h3] at he;unfold mN;rw[if_pos hi];exact hv he)
theorem DWr.mp(N:Rn m U1 U2 ρ F){i:Nat}(hi:i<U2.length):DWr U1 U2 ρ F (.mp (ρ i)) (.mp i):=λM Fz w v R h=>by
 obtain ⟨ob1,ob2,h1,h2,h3⟩:=N.sz i hi;cases h with
 |mp c ob h hv=>rw[h1] at h;simp only[yAa] at h;subst h;exact .mp c ob2 h2 (λhe=>by rw[h3] at he;unfold mN;rw[if_pos hi];exact hv he)
theorem DWr.frz(N:Rn m U1 U2 ρ F){b i:Nat}{l:List (TT i)}(hF:F b)(hb:U1[b]? = some (OB (enc i) l)):DWr U1 U2 ρ F (OS (esz i) b l.length) (.c (.frz false (l.map (enc i)))):=λM Fz w v R h=>by
 classical
 let MF:Nat->Option Nat:=λb=>if F b then M b else none
 have RF:Rel U1 MF Fz w:=by
  refine ⟨λb c hc=>?_,λb b' c hc hc'=>?_,R.fz,R.gl⟩
  ·simp only[MF] at hc;split at hc
   ·rename_i hfb;obtain ⟨h1,ob,o,h2,h3,h4⟩:=R.blk b c hc;refine ⟨h1,ob,o,h2,h3,?_⟩;obtain ⟨i',l',h5⟩:=N.row b hfb;rw[h2] at h5;simp only[yAa] at h5;subst h5;obtain ⟨arr,T,ho,hle,hv⟩:=h4;refine ⟨arr,T,ho,hle,λj d v a b=>?_⟩;obtain ⟨h6,h7⟩:=hv j d v a b;rw[yAl,yAd] at a;obtain ⟨x,_,rfl⟩:=a;cases h6 with
    |c h6=>exact ⟨.c h6,h7⟩
   ·simp at hc
  ·simp only[MF] at hc hc';split at hc
   ·split at hc'
    ·exact R.inj b b' c hc hc'
    ·simp at hc'
   ·simp at hc
 have hv:V U1 MF Fz w (OS (esz i) b l.length) v:=by
  cases h with
  |sl a n cap hnn ob h hle hv=>
   refine .sl a n cap hnn ob h hle λhe=>?_;rcases hv he with h1 | ⟨c,o,arr,T,h1,h2⟩
   ·exact .inl h1
   ·exact .inr ⟨c,o,arr,T,by simp only[MF,if_pos hF];exact h1,h2⟩
 have h1:=frzC_own (k:=98) (n:=l.length) (za8 i) (Y.ps i) hb rfl;have h2:=frzC_ok RF 100 _ _ v h1 hv;have h3:VC (fzN F M Fz) w (.frz (Nat.blt 0 l.length) (l.map (enc i))) v:=h2.mono λc hc=>by
  refine ⟨?_,rfl⟩;rcases hc with hc | ⟨b',_,hc⟩
  ·exact .inl hc
  ·simp only[MF] at hc;split at hc
   ·rename_i hf;exact .inr ⟨b',hf,hc⟩
   ·simp at hc
 have:=nrmC_ok h3;exact .c this
theorem DWr.agg{ds es:List D}(h:All2 (DWr U1 U2 ρ F) ds es):DWr U1 U2 ρ F (.agg ds) (.agg es):=λM Fz w v R hv=>by
 cases hv with
 |agg vs h1 hv=>refine .agg vs (by rw[h1,h.len]) λi d v a b=>?_;obtain ⟨d1,h2,h3⟩:=h.get' i d a;exact h3 M Fz w v R (hv i d1 v h2 b)
theorem DWr.tup{ds es:List D}(h:All2 (DWr U1 U2 ρ F) ds es):DWr U1 U2 ρ F (.tup ds) (.tup es):=λM Fz w v R hv=>by
 cases hv with
 |tup vs h1 hv=>refine .tup vs (by rw[h1,h.len]) λi d v a b=>?_;obtain ⟨d1,h2,h3⟩:=h.get' i d a;exact h3 M Fz w v R (hv i d1 v h2 b)
def ObR(U1 U2:Heap)(ρ:Nat->Nat)(F:Nat->Prop):Ob->Ob->Prop
 |.cells ds,ob=>∃es,ob=.cells es/\All2 (DWr U1 U2 ρ F) ds es
 |.map es k,ob=>ob=.map es k/\(es.all λe=>e.2.1.low 0)=true
 |.gone k,ob=>False
structure RnH (m:Nat) (U1 U2:Heap) (ρ:Nat->Nat) (F:Nat->Prop):Prop extends Rn m U1 U2 ρ F where
 ob:∀(i:Nat),i<U2.length->∃ob1 ob2,U1[ρ i]? = some ob1/\U2[i]? = some ob2/\ObR U1 U2 ρ F ob1 ob2
theorem RnH.rel(N:RnH m U1 U2 ρ F){M:Nat->Option Nat}{Fz:Nat->Prop}{w:World}(R:Rel U1 M Fz w):Rel U2 (mN U2.length ρ M) (fzN F M Fz) w:=by
 refine ⟨λb c hb=>?_,λb b' c hb hb'=>?_,λc hc=>?_,Gl.mono (λc h=>⟨.inl h,rfl⟩) R.gl⟩
 ·unfold mN at hb;split at hb
  ·rename_i hlt;obtain ⟨h1,ob,o,h2,h3,h4⟩:=R.blk _ c hb;obtain ⟨ob1,ob2,h5,h6,h7⟩:=N.ob b hlt;rw[h2] at h5;simp only[yAa] at h5;subst h5;refine ⟨λhf=>?_,ob2,o,h6,h3,?_⟩
   ·rcases hf with hf | ⟨b',hf,hc⟩
    ·exact h1 hf
    ·rw[R.inj _ _ c hc hb] at hf;exact N.fr b hlt hf
   ·cases ob with
    |cells cs=>obtain ⟨arr,T,ho,hle,hv⟩:=h4;obtain ⟨es,rfl,ha⟩:=h7;refine ⟨arr,T,ho,by rw[<-ha.len];exact hle,λi d v x y=>?_⟩;obtain ⟨d1,h8,h9⟩:=ha.get' i d x;obtain ⟨h10,h11⟩:=hv i d1 v h8 y;exact ⟨h9 M Fz w v R h10,h11⟩
    |map es clock=>obtain ⟨arr,ho,hle,hv⟩:=h4;obtain ⟨rfl,hl⟩:=h7;refine ⟨arr,ho,hle,λi k d n e x y=>?_⟩;obtain ⟨p,q,r⟩:=hv i k d n e x y;rw[yAp] at hl;exact ⟨p,q,DWr.data N.toRn (hl (k,d,n) (yAy x)) M Fz w _ R r⟩
    |gone n=>exact h7.elim
  ·simp at hb
 ·unfold mN at hb hb';split at hb
  ·rename_i h1;split at hb'
   ·rename_i h2;exact N.inj b b' h1 h2 (R.inj _ _ c hb hb')
   ·simp at hb'
  ·simp at hb
 ·rcases hc with hc | ⟨b,_,hc⟩
  ·exact R.fz c hc
  ·exact (R.lt hc).2
theorem RnH.evo(N:RnH m U1 U2 ρ F){U:Heap}(hm:U.length<=m){M M':Nat->Option Nat}{Fz Fz':Nat->Prop}{w w':World}(hF:∀b,F b->m<=b)(R:Rel U M Fz w)(R1:Rel U1 M' Fz' w')(E:Evo U M Fz w U1 M' Fz' w') :
  Evo U M Fz w U2 (mN U2.length ρ M') (fzN F M' Fz') w':=by
 refine ⟨E.size,E.frame,λb c h=>?_,λc h=>⟨.inl (E.fz c h).1,(E.fz c h).2⟩,λc h=>?_,E.shp,λb ob hb=>?_,E.out⟩
 ·unfold mN at h;split at h
  ·exact E.ran _ c h
  ·simp at h
 ·rcases h with h | ⟨b,_,h⟩
  ·exact E.fz' c h
  ·rcases E.ran b c h with h' | h'
   ·exact .inr (.inl h')
   ·exact .inr (.inr h')
 ·obtain ⟨ob',h1,h2,h3⟩:=E.keep b ob hb;have hlt:b<m:=yAH (yAb.1 hb).1 hm;obtain ⟨ob1,ob2,h4,h5,h6⟩:=N.sz b (yAH hlt N.le);rw[N.id b hlt,h1] at h4;simp only[yAa] at h4;subst h4;refine ⟨ob2,h5,by rw[h6];exact h2,λhe=>?_⟩;unfold mN;rw[if_pos (yAH hlt N.le),N.id b hlt];exact h3 (by rw[<-h6];exact he)
end
end
end Go.Abs
end
section
namespace Go.Abs
noncomputable section
variable[Gl][Y:Ty]
def SzC(m:Nat)(U1 U2:Heap):Prop:=∀b,b<m->∀ob,U1[b]? = some ob->∃ob2,U2[b]? = some ob2/\ob2.sz=ob.sz
def DWk(m:Nat)(d1 d2:D):Prop:=∀(U1 U2:Heap)(M:Nat->Option Nat)(Fz:Nat->Prop)(w:World)(v:Value),SzC m U1 U2->V U1 M Fz w d1 v->V U2 (cutM M m) Fz w d2 v
theorem DWk.any(m:Nat)(d:D):DWk m d .any:=λ_ _ _ _ _ _ _ _=>.any _
theorem DWk.low{m:Nat}{d:D}(hl:d.low m=true):DWk m d d:=by
 intro U1 U2 M Fz w v hs h;induction h with
 |c h=>exact .c h
 |any v=>exact .any v
 |ptr a ob h hle hv=>simp only[D.low,yAf] at hl;obtain ⟨ob2,h2,h3⟩:=hs _ hl _ h;exact .ptr a ob2 h2 (by rw[h3];exact hle) (λhe=>by rw[h3] at he;simpa[cutM,hl] using hv he)
 |sl a n cap hnn ob h hle hv=>simp only[D.low,yAf] at hl;obtain ⟨ob2,h2,h3⟩:=hs _ hl _ h;exact .sl a n cap hnn ob2 h2 (by rw[h3];exact hle) (λhe=>by rw[h3] at he;simpa[cutM,hl] using hv he)
 |mp c ob h hv=>simp only[D.low,yAf] at hl;obtain ⟨ob2,h2,h3⟩:=hs _ hl _ h;exact .mp c ob2 h2 (λhe=>by rw[h3] at he;simpa[cutM,hl] using hv he)
 |fn vs ws h1 h2 hv hw ih1 ih2=>simp only[D.low,yAj] at hl;exact .fn vs ws h1 h2 (λi d v a b=>ih1 i d v a b (D.lows_get hl.1 i d a)) (λi d v a b=>ih2 i d v a b (D.lows_get hl.2 i d a))
 |agg vs h1 hv ih=>simp only[D.low] at hl;exact .agg vs h1 (λi d v a b=>ih i d v a b (D.lows_get hl i d a))
 |tup vs h1 hv ih=>simp only[D.low] at hl;exact .tup vs h1 (λi d v a b=>ih i d v a b (D.lows_get hl i d a))
theorem DWk.le{m:Nat}{d1 d2 d3:D}(h:DLe d1 d2)(h':DWk m d2 d3):DWk m d1 d3:=λU1 U2 M Fz w v hs hv=>h' U1 U2 M Fz w v hs (h U1 M Fz w v hv)
theorem DWk.agg{m:Nat}{ds es:List D}(h:All2 (DWk m) ds es):DWk m (.agg ds) (.agg es):=λU1 U2 M Fz w v hs hv=>by
 cases hv with
 |agg vs h1 hv=>refine .agg vs (by rw[h1,h.len]) λi d v a b=>?_;obtain ⟨d1,h2,h3⟩:=h.get' i d a;exact h3 U1 U2 M Fz w v hs (hv i d1 v h2 b)
theorem DWk.tup{m:Nat}{ds es:List D}(h:All2 (DWk m) ds es):DWk m (.tup ds) (.tup es):=λU1 U2 M Fz w v hs hv=>by
 cases hv with
 |tup vs h1 hv=>refine .tup vs (by rw[h1,h.len]) λi d v a b=>?_;obtain ⟨d1,h2,h3⟩:=h.get' i d a;exact h3 U1 U2 M Fz w v hs (hv i d1 v h2 b)
def ObW(m:Nat):Ob->Ob->Prop
 |.cells ds,ob=>∃es,ob=.cells es/\All2 (DWk m) ds es
 |.map es k,ob=>ob=.map es k/\(es.all λe=>e.2.1.low m)=true
 |.gone k,ob=>ob=.gone k
theorem ObW.sz{m:Nat}{a b:Ob}(h:ObW m a b):b.sz=a.sz:=by
 cases a with
 |cells ds=>obtain ⟨es,rfl,h⟩:=h;simp only[Ob.sz,h.len]
 |map es k=>obtain ⟨rfl,_⟩:=h;rfl
 |gone k=>cases h;rfl
structure HpW (m:Nat) (U1 U2:Heap):Prop where
 len:U2.length=m
 le:m<=U1.length
 ob:∀b ob,U1[b]? = some ob->b<m->∃ob2,U2[b]? = some ob2/\ObW m ob ob2
theorem HpW.szc{m:Nat}{U1 U2:Heap}(h:HpW m U1 U2):SzC m U1 U2:=λb hb ob ho=>let ⟨ob2,h1,h2⟩:=h.ob b ob ho hb;⟨ob2,h1,h2.sz⟩
theorem HpW.rel{m:Nat}{U1 U2:Heap}(h:HpW m U1 U2){M:Nat->Option Nat}{Fz:Nat->Prop}{w:World}(R:Rel U1 M Fz w):Rel U2 (cutM M m) Fz w:=by
 refine ⟨λb c hb=>?_,λb b' c hb hb'=>?_,R.fz,R.gl⟩
 ·unfold cutM at hb;split at hb
  ·rename_i hlt;obtain ⟨h1,ob,o,h2,h3,h4⟩:=R.blk b c hb;obtain ⟨ob2,h5,h6⟩:=h.ob b ob h2 hlt;refine ⟨h1,ob2,o,h5,h3,?_⟩;cases ob with
   |cells cs=>obtain ⟨arr,T,ho,hle,hv⟩:=h4;obtain ⟨es,rfl,ha⟩:=h6;refine ⟨arr,T,ho,by rw[<-ha.len];exact hle,λi d v x y=>?_⟩;obtain ⟨d1,h7,h8⟩:=ha.get' i d x;obtain ⟨h9,h10⟩:=hv i d1 v h7 y;exact ⟨h8 U1 U2 M Fz w v h.szc h9,h10⟩
   |map es clock=>obtain ⟨arr,ho,hle,hv⟩:=h4;obtain ⟨rfl,hl⟩:=h6;refine ⟨arr,ho,hle,λi k d n e x y=>?_⟩;obtain ⟨p,q,r⟩:=hv i k d n e x y;rw[yAp] at hl;exact ⟨p,q,DWk.low (hl (k,d,n) (yAy x)) U1 U2 M Fz w _ h.szc r⟩
   |gone n=>exact h4.elim
  ·simp at hb
 ·unfold cutM at hb hb';split at hb
  ·split at hb'
   ·exact R.inj b b' c hb hb'
   ·simp at hb'
  ·simp at hb
theorem HpW.evo{m:Nat}{U1 U2 U:Heap}(h:HpW m U1 U2){M M':Nat->Option Nat}{Fz Fz':Nat->Prop}{w w':World}(E:Evo U M Fz w U1 M' Fz' w')(hm:U.length<=m):Evo U M Fz w U2 (cutM M' m) Fz' w':=by
 refine ⟨E.size,E.frame,λb c h=>?_,E.fz,E.fz',E.shp,λb ob hb=>?_,E.out⟩
 ·unfold cutM at h;split at h
  ·exact E.ran b c h
  ·simp at h
 ·obtain ⟨ob',h1,h2,h3⟩:=E.keep b ob hb;have hlt:b<m:=yAH (yAb.1 hb).1 hm;obtain ⟨ob2,h4,h5⟩:=h.ob b ob' h1 hlt;exact ⟨ob2,h4,by rw[h5.sz];exact h2,λhe=>by simp only[cutM,if_pos hlt];exact h3 (by rw[<-h5.sz];exact he)⟩
structure StW0 (m:Nat) (al1:AL) (U1:Heap) (al2:AL) (U2:Heap):Prop where
 hp:HpW m U1 U2
 rg:∀t d2,lk t al2=some d2->∃d1,lk t al1=some d1/\DWk m d1 d2
def StW(m:Nat)(al1:AL)(U1:Heap)(al2:AL)(U2:Heap):Prop:=m<=U2.length/\∀(n:Nat)(M':Nat->Option Nat)(Fz':Nat->Prop)(w':World)(tmps:Array Value),Rel U1 M' Fz' w'->AEnv n U1 M' Fz' w' al1 tmps ->
 ∃M2 Fz2,Rel U2 M2 Fz2 w'/\AEnv n U2 M2 Fz2 w' al2 tmps/\∀(U:Heap)(M:Nat->Option Nat)(Fz:Nat->Prop)(w:World),Rel U M Fz w->Evo U M Fz w U1 M' Fz' w'->U.length<=m->Evo U M Fz w U2 M2 Fz2 w'
section
variable{P:Program}{n:Nat}{al al1 al2:AL}{U U1 U2:Heap}{Q Q':zcX->AL->Heap->Prop}
theorem StW0.st{m:Nat}(h:StW0 m al1 U1 al2 U2):StW m al1 U1 al2 U2:=⟨by rw[h.hp.len];exact yAo _,λn M' Fz' w' tmps R A=>by refine ⟨cutM M' m,Fz',h.hp.rel R,⟨A.1,λt d ht=>?_⟩,λU M Fz w _ E hm=>h.hp.evo E hm⟩;obtain ⟨d1,h1,h2⟩:=h.rg t d ht;obtain ⟨v,h3,h4⟩:=A.2 t d1 h1;exact ⟨v,h3,h2 _ _ _ _ _ _ h.hp.szc h4⟩⟩
theorem StW.refl{m:Nat}(h:m<=U.length):StW m al U al U:=⟨h,λn M' Fz' w' tmps R A=>⟨M',Fz',R,A,λU M Fz w _ E _=>E⟩⟩
theorem StW.trans{m:Nat}{al3:AL}{U3:Heap}(h:StW m al1 U1 al2 U2)(h':StW m al2 U2 al3 U3):StW m al1 U1 al3 U3:=⟨h'.1,λn M' Fz' w' tmps R A=>by obtain ⟨M2,F2,R2,A2,E2⟩:=h.2 n M' Fz' w' tmps R A;obtain ⟨M3,F3,R3,A3,E3⟩:=h'.2 n M2 F2 w' tmps R2 A2;exact ⟨M3,F3,R3,A3,λU M Fz w R0 E hm=>E3 U M Fz w R0 (E2 U M Fz w R0 E hm) hm⟩⟩
theorem StW.rn{m:Nat}{ρ:Nat->Nat}{F:Nat->Prop}(N:RnH m U1 U2 ρ F)(hF:∀b,F b->m<=b)(h:∀t d2,lk t al2=some d2->∃d1,lk t al1=some d1/\DWr U1 U2 ρ F d1 d2):StW m al1 U1 al2 U2:=⟨N.le,λn M' Fz' w' tmps R A=>by refine ⟨_,_,N.rel R,⟨A.1,λt d ht=>?_⟩,λU M Fz w R0 E hm=>N.evo hm hF R0 R E⟩;obtain ⟨d1,h1,h2⟩:=h t d ht;obtain ⟨v,h3,h4⟩:=A.2 t d1 h1;exact ⟨v,h3,h2 _ _ _ _ R h4⟩⟩
theorem StW.use{m:Nat}(h:StW m al1 U1 al2 U2){M M':Nat->Option Nat}{Fz Fz':Nat->Prop}{w w':World}{tmps:Array Value}(R0:Rel U M Fz w)(R:Rel U1 M' Fz' w')(A:AEnv n U1 M' Fz' w' al1 tmps)(E:Evo U M Fz w U1 M' Fz' w')(hm:U.length<=m) :
  ∃M2 Fz2,Rel U2 M2 Fz2 w'/\AEnv n U2 M2 Fz2 w' al2 tmps/\Evo U M Fz w U2 M2 Fz2 w'/\U.length<=U2.length:=by
 obtain ⟨M2,F2,R2,A2,E2⟩:=h.2 n M' Fz' w' tmps R A;exact ⟨M2,F2,R2,A2,E2 U M Fz w R0 E hm,yAA hm h.1⟩
theorem Sem.monoW{ac:ACode}(h:Sem P ac n al U Q)(hq:∀x al' U',Q x al' U'->Q' x al' U'∨∃al2 U2,StW U.length al' U' al2 U2/\Q' x al2 U2):Sem P ac n al U Q':=by
 intro c hc M Fz w a K R A hK;refine h c hc M Fz w a K R A λx al' U' a' w' M' Fz' hQ hd R' A' E' hl=>?_;rcases hq x al' U' hQ with hq' | ⟨al2,U2,hw,hq'⟩
 ·exact hK x al' U' a' w' M' Fz' hq' hd R' A' E' hl
 ·obtain ⟨M2,F2,R2,A2,E2,l2⟩:=hw.use R R' A' E' (yAo _);exact hK x al2 U2 a' w' M2 F2 hq' hd R2 A2 E2 l2
theorem Sem.seqW{a b:ACode}(h:Sem P a n al U λx al1 U1=>match x with | .normal=>Sem P b n al1 U1 Q∨∃al2 U2,StW U.length al1 U1 al2 U2/\Sem P b n al2 U2 Q | x=>Q x al1 U1):Sem P (.seq a b) n al U Q:=by
 refine Sem.seq (h.monoW (Q':=λx al1 U1=>match x with | .normal=>∃al2 U2,Wk U.length al1 U1 al2 U2/\Sem P b n al2 U2 Q | x=>Q x al1 U1) λx al' U' hq=>?_);cases x with
 |normal=>
  rcases hq with hq | ⟨al2,U2,hw,hq⟩
  ·exact .inl ⟨al',U',.refl,hq⟩
  ·exact .inr ⟨al2,U2,hw,al2,U2,.refl,hq⟩
 |exit i=>exact .inl hq
 |ret=>exact .inl hq
theorem SemL.preW{ac:ACode}{k:Nat}(hs:StW U.length al U al2 U2)(h:SemL P ac k n al2 U2 Q):SemL P ac k n al U Q:=by intro c hc M Fz w a K R A hK;obtain ⟨M2,F2,R2,A2,E2,l2⟩:=hs.use R R A (Evo.refl R) (yAo _);exact h c hc M2 F2 w a K R2 A2 λx al' U' a' w' M' Fz' hQ hd R' A' E' hl=>hK x al' U' a' w' M' Fz' hQ hd R' A' (E2.trans E' l2) (yAA l2 hl)
theorem SemL.succW{b:ACode}{k:Nat}(h:Sem P b n al U λx al1 U1=>match x with | .normal=>∃al2 U2,StW U.length al1 U1 al2 U2/\SemL P b k n al2 U2 Q | x=>Q x al1 U1):SemL P b (k+1) n al U Q:=by
 refine SemL.succ (h.monoW (Q':=λx al1 U1=>match x with | .normal=>∃al2 U2,Wk U.length al1 U1 al2 U2/\SemL P b k n al2 U2 Q | x=>∃al2 U2,Wk U.length al1 U1 al2 U2/\Q x al2 U2) λx al' U' hq=>?_);cases x with
 |normal=>obtain ⟨al2,U2,hw,hq⟩:=hq;exact .inr ⟨al2,U2,hw,al2,U2,.refl,hq⟩
 |exit i=>exact .inl ⟨al',U',.refl,hq⟩
 |ret=>exact .inl ⟨al',U',.refl,hq⟩
end
section
theorem RC_wk0{U:TH}{x:TC}{d:D}(r:RC x d)(g:GC U x):DWk U.length d x.er:=by
 rcases r with rfl | rfl
 ·exact DWk.any _ _
 ·cases x with
  |any=>exact DWk.any _ _
  |d y=>exact DWk.low g
  |own i b v n=>obtain ⟨blk,h,_⟩:=g;exact DWk.low (by simp only[TC.er,OS,D.low,yAf];exact (yAb.1 h).1)
  |op i b v n k a off=>obtain ⟨blk,h,_⟩:=g;exact DWk.low (by simp only[TC.er,D.low,yAf];exact (yAb.1 h).1)
  |os i b v n lo len=>obtain ⟨blk,h,_⟩:=g;exact DWk.low (by simp only[TC.er,D.low,yAf];exact (yAb.1 h).1)
  |ap b off len sz k=>exact DWk.low (by simp only[TC.er,D.low,yAf];exact g)
  |fna f xs=>exact DWk.low (fna_low g)
  |_=>exact DWk.low rfl
theorem RC_wk{U:TH}{x:TC}{d:D}(r:RC x d)(g:GC U x):∃d2,DWk U.length d d2/\RC x d2:=⟨_,RC_wk0 r g,.inr rfl⟩
theorem RCs_wk{U:TH}{xs:List TC}{ds:List D}(r:All2 RC xs ds)(g:∀x∈xs,GC U x):∃es,All2 (DWk U.length) ds es/\All2 RC xs es:=by
 induction r with
 |nil=>exact ⟨[],.nil,.nil⟩
 |cons h _ ih=>obtain ⟨e,h1,h2⟩:=RC_wk h (g _ (yAq ..));obtain ⟨es,h3,h4⟩:=ih λx hx=>g x (yAm _ hx);exact ⟨e::es,.cons h1 h3,.cons h2 h4⟩
theorem RE_wk{U:TH}{p:Bool×List TC}{d:D}(r:RE p d)(g:∀x∈p.2,GC U x):∃d2,DWk U.length d d2/\RE p d2:=by
 obtain ⟨f,xs⟩:=p;cases f with
 |true=>obtain ⟨ds,rfl,h⟩:=r;obtain ⟨es,h1,h2⟩:=RCs_wk h g;exact ⟨.agg es,DWk.agg h1,es,rfl,h2⟩
 |false=>obtain ⟨x,rfl,h⟩:=r;obtain ⟨e,h1,h2⟩:=RC_wk h (g x (by simp));exact ⟨e,h1,x,rfl,h2⟩
theorem RT_wk{U:TH}{x:TV}{d:D}(r:RT x d)(g:GV U x):∃d2,DWk U.length d d2/\RT x d2:=by
 cases x with
 |c x=>exact RC_wk r g
 |agg xs=>obtain ⟨ds,rfl,h⟩:=r;obtain ⟨es,h1,h2⟩:=RCs_wk h g;exact ⟨.agg es,DWk.agg h1,es,rfl,h2⟩
 |tup xs=>
  obtain ⟨ds,rfl,h⟩:=r;have:∃es,All2 (DWk U.length) ds es/\All2 RE xs es:=by
   induction h with
   |nil=>exact ⟨[],.nil,.nil⟩
   |cons h _ ih=>obtain ⟨e,h1,h2⟩:=RE_wk h (g _ (yAq ..));obtain ⟨es,h3,h4⟩:=ih λx hx=>g x (yAm _ hx);exact ⟨e::es,.cons h1 h3,.cons h2 h4⟩
  obtain ⟨es,h1,h2⟩:=this;exact ⟨.tup es,DWk.tup h1,es,rfl,h2⟩
theorem RR_wk{al:TA}{U:TH}{x:RV}{d:D}(r:RR x d)(g:GW al U x):∃d2,DWk U.length d d2/\RR x d2:=by
 cases x with
 |v x=>exact RT_wk r g
 |g c w p x=>
  by_cases h:c=w
  ·simp only[RR,if_pos h] at r ⊢;exact RT_wk r (g.2 h)
  ·simp only[RR,if_neg h] at r ⊢;subst r;exact ⟨.tup [],DWk.low rfl,rfl⟩
theorem rdV_wk{m:Nat}{c:VCd}{v:TV}{d:D}{a:c.dn}(h:rdV c v=some a)(r:RT v d):DWk m d (c.enc a):=by obtain ⟨h1,h2,_⟩:=rdV_ok h r;refine DWk.le (d2:=nrm d) (λU M Fz w v hv=>nrm_ok hv) ?_;rw[h1];exact DWk.low (D.low_mono (yB3 _) (c.enc_low a))
theorem rdC_wk{m:Nat}{c:CC}{x:TC}{d:D}{a:c.dn}(h:rdC c x=some a)(r:RC x d):DWk m d (.c (encC enc c a)):=by
 obtain ⟨h1,h2⟩:=rdC_ok h;rcases r with r | rfl
 ·exact absurd r h1
 ·rw[<-h2];refine DWk.le (d2:=nrm1 x.er) (λU M Fz w v hv=>nrm1xok hv) ?_;rw[h2];exact DWk.low rfl
theorem exists_list{α:Type}{p:Nat->α->Prop}(m:Nat)(h:∀b,b<m->∃a,p b a):∃l:List α,l.length=m/\∀b a,l[b]? = some a->p b a:=by
 induction m with
 |zero=>exact ⟨[],rfl,λb a h=>by simp at h⟩
 |succ m ih=>
  obtain ⟨l,h1,h2⟩:=ih λb hb=>h b (by omega);obtain ⟨a,ha⟩:=h m (by omega);refine ⟨l++[a],by simp[h1],λb x hx=>?_⟩;rcases yAB b m with hlt | hge
  ·rw[yAr (by omega)] at hx;exact h2 b x hx
  ·have hb:=(yAb.1 hx).1;simp at hb;have:b=m:=by omega
   subst this;rw[yA0 (by omega),h1,yBV] at hx;simp only[List.getElem?_cons_zero,yAa] at hx;subst hx;exact ha
theorem lkP_key{t:Nat}:∀{al:TA}{f:Nat->D},(∃x p,lkP t al=some (x,p))->lk t (al.map λp=>(p.1,f p.1))=some (f t):=by
 intro al f;induction al with
 |nil=>intro ⟨x,p,h⟩;simp[lkP] at h
 |cons y al ih=>
  intro ⟨x,p,h⟩;obtain ⟨s,z⟩:=y;simp only[lkP] at h;simp only[yAw,lk];split at h
  ·rename_i hb;have:=yAi hb;subst this
   first | rw[hb] | rfl
  ·rename_i hb
   try rw[hb]
   exact ih ⟨x,p,h⟩
theorem lkP_key'{t:Nat}{d:D}:∀{al:TA}{f:Nat->D},lk t (al.map λp=>(p.1,f p.1))=some d->(∃x p,lkP t al=some (x,p))/\d=f t:=by
 intro al f;induction al with
 |nil=>intro h;simp[lk] at h
 |cons y al ih=>
  intro h;obtain ⟨s,z⟩:=y;simp only[yAw,lk] at h;simp only[lkP];split at h
  ·rename_i hb;have:=yAi hb;simp only[yAa] at h
   try rw[hb]
   exact ⟨⟨z,_,rfl⟩,by rw[<-h,this]⟩
  ·rename_i hb
   try rw[hb]
   exact ih h
theorem stw_of{al2:TA}{U2:TH}{alD1:AL}{σD1:Heap}(hle:U2.length<=σD1.length)
  (hr:∀t x p,lkP t al2=some (x,p)->GW al2 U2 x/\∃d1 d2,lk t alD1=some d1/\DWk U2.length d1 d2/\RR x d2)
  (hb:∀(b:Nat) blk,U2[b]? = some blk->∃ob1 ob2,σD1[b]? = some ob1/\ObW U2.length ob1 ob2/\RB blk ob2)
  (hg:∀(b:Nat) w cs,U2[b]? = some (.cells w cs)->∀p∈cs,GC U2 p.2/\p.1<=w) :
  ∃alD2 σD2,StW U2.length alD1 σD1 alD2 σD2/\Ref al2 U2 alD2 σD2:=by
 have hf:∃f:Nat->D,∀t x p,lkP t al2=some (x,p)->∃d1,lk t alD1=some d1/\DWk U2.length d1 (f t)/\RR x (f t):=by
  have:∀t,∃d2,∀x p,lkP t al2=some (x,p)->∃d1,lk t alD1=some d1/\DWk U2.length d1 d2/\RR x d2:=by
   intro t;cases ht:lkP t al2 with
   |none=>exact ⟨.any,λx p h=>by simp at h⟩
   |some q=>obtain ⟨x,p⟩:=q;obtain ⟨_,d1,d2,h1,h2,h3⟩:=hr t x p ht;exact ⟨d2,λx' p' h=>by simp only[yAa,yAc] at h;obtain ⟨rfl,rfl⟩:=h;exact ⟨d1,h1,h2,h3⟩⟩
  exact ⟨λt=>Classical.choose (this t),λt=>yBx (this t)⟩
 obtain ⟨f,hf⟩:=hf;obtain ⟨σD2,hl,h2⟩:=exists_list (p:=λb ob2=>∃blk ob1,U2[b]? = some blk/\σD1[b]? = some ob1/\ObW U2.length ob1 ob2/\RB blk ob2) U2.length λb hb'=>by obtain ⟨ob1,ob2,h3,h4,h5⟩:=hb b _ (yAg hb');exact ⟨ob2,_,ob1,yAg hb',h3,h4,h5⟩
 refine ⟨al2.map λp=>(p.1,f p.1),σD2,StW0.st ⟨⟨hl,hle,λb ob ho hlt=>?_⟩,λt d h=>?_⟩,⟨⟨by rw[hl],λb blk hb'=>?_,hg⟩,λt x p h=>?_⟩⟩
 ·have h3:σD2[b]? = some _:=yAg (by rw[hl];exact hlt);obtain ⟨blk,ob1,h4,h5,h6,h7⟩:=h2 b _ h3;rw[ho] at h5;simp only[yAa] at h5;subst h5;exact ⟨_,h3,h6⟩
 ·obtain ⟨⟨x,p,h3⟩,rfl⟩:=lkP_key' h;obtain ⟨d1,h4,h5,_⟩:=hf t x p h3;exact ⟨d1,h4,h5⟩
 ·have hlt:=(yAb.1 hb').1;have h3:σD2[b]? = some _:=yAg (by rw[hl];exact hlt);obtain ⟨blk',ob1,h4,h5,h6,h7⟩:=h2 b _ h3;rw[hb'] at h4;simp only[yAa] at h4;subst h4;exact ⟨_,h3,h7⟩
 ·obtain ⟨d1,h3,h4,h5⟩:=hf t x p h;exact ⟨f t,lkP_key ⟨x,p,h⟩,h5,(hr t x p h).1⟩
end
end
end Go.Abs
end
