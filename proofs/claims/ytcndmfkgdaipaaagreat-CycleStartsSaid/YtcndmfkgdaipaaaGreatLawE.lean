/- Lemmas. -/
import Derived.Test.YtcndmfkgdaipaaaGreatLawD
import Derived.KernelRfl
set_option linter.all false
open Go.IntKind (i64 u64)
set_option maxRecDepth 100000
namespace Go.Plain
open Go.Abs
def Mb:gh 5000=some true:=by kernel_rfl
def HA(l:List aJ)(hl:l.length<=300):fe (bB (λ(b:Int->Option Bool) (a:Int)=>
  if (decide (a<(l.length:Int)))=true then
   (aD l a).bind λd=>
   (Pm 5000 d.State).bind λe=>
   if e=true then
    some false
   else
    b (i64.wrap (a+1))
  else
   some true) 5000 0) (∀j∈l,hasB j.State=false):=by
 refine LH l (λj=>hasB j.State=false) _ (λh=>h) (λi f hi Q g k=>?_) (λf h=>?_) (by omega)
 ·rw[if_pos (cS hi),bY hi,aw,bV (show i<1000000 by omega),show Pm 5000 l[i].State=some (hasB l[i].State) from rfl,yA,bq];refine ⟨λh=>?_,λh=>g (by simpa using h)⟩;rw[aY];exact k (by simp[h])
 ·simp only[eR,b_,cw];exact ⟨true,rfl,by simpa using h⟩
section
variable{s:aX}{st:bZ}(q:aS s st)(hl:st.ah.length<=300)
include q hl
theorem UV{L:List (Int×bW)}(a:L.Perm (mapA st.ai)):fe (zcH 5000 st.az.aq st.ah L st.aO st.Next st.dr st.aA st.eJ st.az.am) (∀j∈st.ah,hasB j.State=false):=by unfold zcH;rw[qG q a,aw];exact HA st.ah hl
theorem ZN:fe (zdj 5000 st) (∀j∈st.ah,hasB j.State=false):=HA st.ah hl
end
def Tw{s:aX}{st0:bZ}(a:aS s st0){L M:List (Int×bW)}(b:L.Perm (mapA st0.ai))(d:M.Perm (mapA st0.ai)) :
  SC 5000 st0.az.aq st0.ah L s.am s.aG s.aq s.aP s.ae.fM s.ae.cu s.ae.dL s.ae.br s.bN s.Mode s.ah s.iN s.aI s.bg s.cV s.In s.Out s.bO st0.aO st0.Next st0.dr st0.aA st0.eJ st0.az.am =
  SC 5000 st0.az.aq st0.ah M s.am s.aG s.aq s.aP s.ae.fM s.ae.cu s.ae.dL s.ae.br s.bN s.Mode s.ah s.iN s.aI s.bg s.cV s.In s.Out s.bO st0.aO st0.Next st0.dr st0.aA st0.eJ st0.az.am:=by
 unfold SC;rw[qG a b,qG a d]
def QP(K:Bool->Option Bool){s:aX}{st:bZ}{r:List aJ}{j:Bool}(a:zcb 5000 s st=some r)(f:zdj 5000 st=some j)(h:∀b,(b=true->j=true/\st.aA=[]/\r≠[])->K b=some true) :
    jn K (fun k=>
          (zcb 5000 s st).bind fun g=>
          if (decide ((g.length:Int) > 0))=true then
          (zdj 5000 st).bind fun i=>
          k (i&&((st.aA.length:Int) == 0))
          else
          k false)=some true:=by
  rw [eE,a,aw]
  by_cases d:(decide ((r.length:Int) > 0))=true
  · rw [if_pos d,f,aw]
    refine h _ fun hb=>?_
    simp only [bG,lA] at hb
    refine ⟨hb.1,Zn.1 (by omega),fun e=>?_⟩
    rw [e] at d
    simp at d
  · rw [if_neg d]
    exact h false fun hb=>by cases hb
def My(w:zdP):zdn 5000 w=some true:=by
 unfold zdn;rw[Mb,aw,if_neg (by simp)];obtain ⟨U,e,h⟩:=few23 w.S w.St;obtain ⟨W,z,X⟩:=few30P w.S w.St;rw[e] at z;simp only[au] at z;subst z;rw[e,aw];by_cases hl:(!U)=true
 ·simp_all
 rw[if_neg hl];simp only[hZ,nI] at hl;have A:=h hl;have d:=X hl;by_cases q:aS w.S w.St
 ·rw[VJ A q,aw];obtain ⟨r,er,σ,C,L',P,hh,o,j⟩:=HJ q d (yC4 (mapA w.St.ai));obtain ⟨m,E,p,_,_⟩:=WK A q d;have F:m=r:=by
   rw[show SC 5000 w.St.az.aq w.St.ah (mapA w.St.ai) w.S.am w.S.aG w.S.aq w.S.aP w.S.ae.fM w.S.ae.cu w.S.ae.dL w.S.ae.br w.S.bN w.S.Mode w.S.ah w.S.iN w.S.aI w.S.bg w.S.cV w.S.In w.S.Out w.S.bO w.St.aO w.St.Next w.St.dr w.St.aA w.St.eJ w.St.az.am=_ from E] at er;exact Option.some.inj er
  subst F;generalize w.S=s at *;generalize w.St=st at *;have R:st.ah.length<=300:=by omega
  obtain ⟨bi,G,K⟩:=ZN q R;dsimp only;rw[if_neg (by simp)];refine QP _ p G λb hb=>?_;have L:b=true->(OD s st m).S≠[]:=λh=>by obtain ⟨Z,h2,h3⟩:=hb h;exact Xg q d (K.1 Z) h2 σ h3
  obtain ⟨⟨n,hn,I⟩,T,none⟩:=C;have pl:=I.xW;rw[show zcr 5000 st.az.aq st.ah (List.map (λa=>(a.bj,a)) st.ai) s.am s.aG s.aq s.aP s.ae.fM s.ae.cu s.ae.dL s.ae.br s.bN s.Mode s.ah s.iN s.aI s.bg s.cV s.In s.Out s.bO st.aO st.Next st.dr st.aA st.eJ st.az.am (cq s.am st.ai)=_ from o,aw,eE];dsimp only;rw[if_neg (by simp)];by_cases t:(OD s st m).S=[]
  ·have M:b=false:=by
    cases b with
    |false=>rfl
    |true=>exact absurd t (L rfl)
   have k:=none t;subst M;rw[if_neg (by simp),if_neg (by simp),t,if_neg (by simp),k];rw[k] at j;obtain ⟨rA,u,_,_,LA,PA,aa,eA,v⟩:=HJ q d j;have N:rA=m:=by rw[Tw q j (yC4 _),er] at u;exact (Option.some.inj u).symm
   subst N;rw[k] at v;rw[eA,aw];dsimp only;rw[t,k,if_pos (by simp),qG q v,aw,PW (En A q),aw]
  ·have ln:0<(OD s st m).S.length:=TO.2 t;have fin:∀f:Option Bool,(if (decide (((OD s st m).S.length:Int) > 0))=true then some true else f)=some true:=λf=>by rw[if_pos (by simp;omega)]
   by_cases x:b=true
   ·subst x;obtain ⟨S,y,O⟩:=UV I.sound (by rw[I.len];exact R) j;rw[I.now,I.next,I.book,I.cF,I.use] at y;have Q:S=false:=by
     cases S with
     |false=>rfl
     |true=>
      exfalso;have al:=T.len;have:0<(OD s st m).st.ai.length:=by omega
      obtain ⟨i,hi,_,_,l,_⟩:=lV (RL I.sound) I.sound (bA this);have g:=O.1 rfl _ (bA hi);have l:hasB (OD s st m).st.ah[i].State=true:=l;rw[g] at l;cases l
    rw[if_pos rfl,y,aw,Q,if_neg (by simp;omega)];exact fin _
   ·rw[if_neg x,if_neg (by simp)];exact fin _
 grind [TL]
end Go.Plain
