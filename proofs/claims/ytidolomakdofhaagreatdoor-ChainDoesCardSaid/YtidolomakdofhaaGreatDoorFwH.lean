/- DfwKy, DfwDl, DfwRw -/
import Derived.Test.YtidolomakdofhaaGreatDoorFwG
import Derived.Lib.SlKeysI
import Derived.KernelRfl
import Derived.Test.YtidolomakdofhaaGreatDoorFwD
import Derived.Test.YtidolomakdofhaaGreatDoorFwC
set_option linter.all false
section
namespace Go.Abs
noncomputable section
open Go.RowKit
variable[Gl][Y:Ty]
structure SortsKeys (P:Program) (gs gk:FuncId) (kt:TypeId):Prop where
 en:enterable P gs=true
 ku:P.underlying kt=some (.int .i64)
 run:∀(Bm b nn:Nat)(D0:DataW Unit)(R:Value->Option (DataW Unit×List MemPlace))(w:World),Bm<w.heap.size->w.cell? ⟨Bm,0,none⟩=some (.map (some b))->w.ownsMap P kt R b nn D0->Maps.size D0<=maxLen->Maps.size D0 * 8<=140737488355328 ->
  Calls P gs #[.func (.func gk) #[] #[.pointer (some ⟨Bm,0,none⟩)]] w λe w'=>∃(v:Value)(ss:List Int)(et:TypeId),e=.returned v/\ss.Perm (intKeys D0)/\w'.ownsRow w.heap.size et 1 v ss.length ((ss.mergeSort (λx y=>decide (x<=y))).map encZ)/\(v=.slice none 0 0↔ss=[])/\Below w.heap.size w w'
def keysI{α β:Type}(c:Int->β)(l:List (Int×α)):Option (List β):=
 if l.length<=1000000/\(l.map Prod.fst).Nodup/\(∀p∈l,(Lit.int .i64 p.1).wf=true) then some (((l.map Prod.fst).mergeSort (λx y=>decide (x<=y))).map c) else none
def rowsEq(ct:CT)(ii:Nat):Bool:=match ct.out,ct.pl,ct.nb with
 |[.v (.c (.sl j))],[],[]=>Nat.beq j ii
 |_,_,_=>false
def inlKeys(gs gk:FuncId)(ii:Nat)(c:Int->TT ii):InlB:=λcs g vs U=>
 match cs with
 |[ct] => match Nat.beq g gs, vs with
  |true, [.c (.d (.fn (.func f) [] [.ptr b 0 1]))] => match Nat.beq f gk, U[b]? with
   |true, some (.cells _ [(_, .d (.mp m))]) => match U[m]? with
    |some (.mp _ _ l _) => match rowsEq ct ii, decEq [It.cc (.sl ii)] ct.items with
     |true,.isTrue h=>cast (yCj (λi=>Option (tupI i)) h) (keysI c l)
     |_,_=>none
    |_=>none
   |_,_=>none
  |_,_=>none
 |_=>none
theorem cast_some2{α β:Type}(p:Option α=Option β)(e:α=β){o:Option α}{y:β}(h:cast p o=some y):∃y0,o=some y0/\HEq y0 y:=by subst e;exact ⟨y,h,HEq.rfl⟩
theorem mbE_get{α:Type}{g:α->D}:∀(l:List (Int×α))(i j:Nat),(mbE g i l)[j]? = (l[j]?).map λp=>(.int .i64 p.1,g p.2,i+j):=by
 intro l;induction l with
 |nil=>intro i j;rfl
 |cons p l ih=>
  intro i j;obtain ⟨k,a⟩:=p;cases j with
  |zero=>rfl
  |succ j=>simp only[mbE,List.getElem?_cons_succ,ih];rw[show i+1+j=i+(j+1) by omega]
theorem mbE_len{α:Type}{g:α->D}:∀(l:List (Int×α))(i:Nat),(mbE g i l).length=l.length:=by
 intro l;induction l with
 |nil=>intro i;rfl
 |cons p l ih=>intro i;obtain ⟨k,a⟩:=p;simp only[mbE,List.length_cons,ih]
theorem keys_ok{P:Program}{gs gk:FuncId}{kt:TypeId}(K:SortsKeys P gs gk kt){ii:Nat}{c:Int->TT ii}(hc:∀k,enc ii (c k)=[.lit (.int .i64 k)]){U:Heap}{b m:Nat}{α:Type}{g:α->D}{l:List (Int×α)}{r:List (TT ii)}
  (hb:U[b]? = some (.cells [.mp m])) (hm:U[m]? = some (MB g l)) (hr:keysI c l=some r):Ok P gs [.fn (.func gk) [] [.ptr b 0 1]] U (.c (.frz false (r.map (enc ii)))) U:=by
 unfold keysI at hr;split at hr
 rotate_left
 ·simp at hr
 rename_i hcond;obtain ⟨hlen,hnd,hwf⟩:=hcond;simp only[yAa] at hr;intro M Fz w vs R hs hvs;have hvs0:vs=#[vs[0]'(by rw[hs];simp)]:=by
  apply yB2;apply yAM;intro i;cases i with
  |zero=>simp
  |succ i=>rw[yA5,yBp (by rw[hs];simp)];simp
 have hv:=hvs 0 _ _ rfl (yAn (by rw[hs];simp));generalize vs[0]'(by rw[hs];simp)=v0 at hv hvs0;subst hvs0;cases hv with
 |fn v1 ws h1 h2 _ hw=>
  have e1:v1=#[]:=by simpa using h1
  subst e1;have e2:ws=#[ws[0]'(by rw[h2];simp)]:=by
   apply yB2;apply yAM;intro i;cases i with
   |zero=>simp
   |succ i=>rw[yA5,yBp (by rw[h2];simp)];simp
  have hp:=hw 0 _ _ rfl (yAn (by rw[h2];simp));generalize ws[0]'(by rw[h2];simp)=p at hp e2;subst e2;have hrow:zci U b 1=some [.mp m]:=zdA hb rfl;obtain ⟨cb,hM,rfl⟩:=hp.ptr_inv hrow;obtain ⟨hbb,_⟩:=zbZ hrow;obtain ⟨arr,T,hh,hl,hcs⟩:=R.row hM hbb;have ea:arr[0]? = some (arr[0]'(by simp at hl;omega)):=yAn _;have hmp:=(hcs 0 _ _ rfl ea).1;obtain ⟨cm,hva,hMm⟩:=hmp.mp_inv hm;obtain ⟨arr',ck,hh',⟨hsz,hB⟩,hent⟩:=R.mapAt hm hMm;rw[mbE_len] at hsz;have hcell:w.cell? ⟨cb,0,none⟩=some (.map (some cm)):=by rw[cell_of_row w cb 0 arr T (0,0) hh,ea,hva]
  have ent:∀(i:Nat) e,arr'[i]? = some e->∃p,l[i]? = some p/\e.key=.int .i64 p.1/\True:=λi e he=>by
   have hi:i<l.length:=by rw[<-hsz];exact (yAv.1 he).1
   have h3:(mbE g 0 l)[i]? = some (.int .i64 l[i].1,g l[i].2,0+i):=by rw[mbE_get,yAg hi];rfl
   obtain ⟨q1,_,_⟩:=hent i _ _ _ e h3 he;exact ⟨l[i],yAg hi,q1,trivial⟩
  let RR:Value->Option (DataW Unit×List MemPlace):=λ_=>some (.nil,[])
  have hsize:arr'.toList.length=l.length:=by rw[xAl];exact hsz
  have keysE:arr'.toList.map (·.key)=(l.map Prod.fst).map (Value.int .i64):=by
   apply yAM;intro i;rw[yAl,yAl,yAl,yA5];cases he:arr'[i]? with
   |none=>
    have:l.length<=i:=by rw[<-hsz];exact Array.getElem?_eq_none_iff.1 he
    rw[yAG this];rfl
   |some e=>obtain ⟨p,h3,h4,_⟩:=ent i e he;rw[h3];simp[h4]
  have rdE:∀e∈arr'.toList,∃p∈l,e.key=.int .i64 p.1/\Go.WideElems.rd P kt RR e=some (.int .i64 p.1,.nil):=λe he=>by obtain ⟨i,hi⟩:=yBt he;rw[yA5] at hi;obtain ⟨p,h3,h4,_⟩:=ent i e hi;have hp:=yAy h3;refine ⟨p,hp,h4,?_⟩;simp only[Go.WideElems.rd,h4,Go.Maps.keyOf_int_mk K.ku (hwf p hp),Option.bind_some,RR,Option.map_some]
  have hfit:Go.WideElems.Fit P kt RR arr' ck:=by
   refine ⟨by rw[hsz];exact yAA hlen (by decide),⟨λe he=>?_,?_,?_⟩,λe he=>?_⟩
   ·exact hB.2 e he
   ·exact hB.1
   ·rw[keysE];exact List.Pairwise.map _ (λa b hab e=>hab (by simpa using e)) hnd
   ·obtain ⟨p,_,_,h⟩:=rdE e he;exact ⟨_,h⟩
  have hperm:((arr'.toList.map (Go.WideElems.rg P kt RR)).foldr DataW.insert []).Perm (arr'.toList.map (Go.WideElems.rg P kt RR)):=Go.WideShapes.sorted_perm _;have hown:w.ownsMap P kt RR cm l.length (.map ((arr'.toList.map (Go.WideElems.rg P kt RR)).foldr DataW.insert [])):=⟨arr',ck,hh',hfit,by rw[hsz];exact yAo _,rfl⟩;have hkeys:(intKeys (.map ((arr'.toList.map (Go.WideElems.rg P kt RR)).foldr DataW.insert []):DataW Unit)).Perm (l.map Prod.fst):=by
   refine (hperm.map _).trans ?_;have:(arr'.toList.map (Go.WideElems.rg P kt RR)).map (λp=>intOf p.1)=l.map Prod.fst:=by
    rw[yB8];have h5:(l.map Prod.fst).map (Value.int .i64)=arr'.toList.map (·.key):=keysE.symm;apply yAM;intro i;rw[yAl,yAl,yA5];cases he:arr'[i]? with
    |none=>
     have:l.length<=i:=by rw[<-hsz];exact Array.getElem?_eq_none_iff.1 he
     rw[yAG this];rfl
    |some e=>obtain ⟨p,h3,h4,_⟩:=ent i e he;have hp:=yAy h3;rw[h3];simp only[Option.map_some,Function.comp,yAa];rw[Go.WideElems.rg_of (show Go.WideElems.rd P kt RR e=some (.int .i64 p.1,.nil) by simp only[Go.WideElems.rd,h4,Go.Maps.keyOf_int_mk K.ku (hwf p hp),xAa,RR,xAb])];rfl
   rw[this]
  have hsz2:Maps.size (.map ((arr'.toList.map (Go.WideElems.rg P kt RR)).foldr DataW.insert []):DataW Unit)=l.length:=by rw[Maps.size_eq,hperm.length_eq,yAz,hsize]
  refine (K.run cb cm l.length _ RR w (R.lt hM).2 hcell hown (by rw[hsz2];exact yAA hlen (by decide)) (by rw[hsz2];omega)).mono λe w' he=>?_;obtain ⟨v,ss,et,rfl,hp,how,hnil,hbl⟩:=he;have hsort:ss.mergeSort (λx y=>decide (x<=y))=(l.map Prod.fst).mergeSort (λx y=>decide (x<=y)):=mergeSort_of_perm_i (hp.trans hkeys);have hr':r.map (enc ii)=((l.map Prod.fst).mergeSort (λx y=>decide (x<=y))).map λk=>[C.lit (.int .i64 k)]:=by rw[<-hr,yB8];exact yCl λk _=>hc k
  rw[hr',<-hsort];have slen:(ss.mergeSort (λx y=>decide (x<=y))).length=ss.length:=List.length_mergeSort ss;obtain ⟨_,how⟩:=how;rcases how with ⟨rfl,h0⟩ | ⟨gb,cap,cur,rfl,hge,hgh,hcap,_,hcsz,htk⟩
  ·have:ss=[]:=yAJ h0;subst this;refine ⟨_,M,Fz,rfl,R.below hbl,.c ?_,Evo.below R hbl⟩;rw[show ([]:List Int).mergeSort (λx y=>decide (x<=y))=[] from yAJ (by rw[List.length_mergeSort];rfl)];exact .frz 1 none 0 (λh=>by simp at h) (λ_=>rfl) (λ_ _=>undef) (λe he=>by simp at he) (yAo _) (λi j e d h=>by simp at h) (λi j e d h=>by simp at h)
  ·have cellE:∀(i:Nat) k,(ss.mergeSort (λx y=>decide (x<=y)))[i]? = some k->w'.cell? ⟨gb,0+i * 1+0,none⟩=some (.int .i64 k):=λi k hk=>by
    rw[cell_of_row w' gb _ cur et (0,0) hgh];have hi:i<ss.length:=by rw[<-slen];exact (yAb.1 hk).1
    have h6:(cur.toList.take (ss.length * 1))[i]? = some (encZ k):=by rw[htk,yAl,hk];rfl
    rw[yA7 (by omega)] at h6;rw[yA5] at h6;rw[show 0+i * 1+0=i by omega];exact h6
   let Fz':Nat->Prop:=λx=>Fz x∨x=gb
   have RB:=R.below hbl;have EB:=Evo.below R hbl;have glt:gb<w'.heap.size:=(yAv.1 hgh).1;have mono:∀x:Nat,Fz x->Fz' x/\w'.heap[x]? = w'.heap[x]?:=λx h=>⟨.inl h,rfl⟩;have mv:∀{d v},V U M Fz w' d v->V U M Fz' w' d v:=λh=>h.sub (λb ob hb=>⟨ob,hb,rfl⟩) (λ_ _ h=>h) mono (λc arr T fr h=>⟨arr,h,rfl⟩);have R2:Rel U M Fz' w':=by
    refine ⟨λb' x h=>?_,RB.inj,λx h=>?_,Gl.mono mono RB.gl⟩
    ·obtain ⟨h1,ob,o,h2,h3,h4⟩:=RB.blk b' x h;have hx:x<w.heap.size:=(R.lt h).2;refine ⟨λhf=>?_,ob,o,h2,h3,?_⟩
     ·rcases hf with hf | rfl
      ·exact h1 hf
      ·omega
     ·cases ob with
      |cells cs=>obtain ⟨arr,T,ho,hl,hv⟩:=h4;exact ⟨arr,T,ho,hl,λi d v x y=>⟨mv (hv i d v x y).1,(hv i d v x y).2⟩⟩
      |map es clock=>obtain ⟨arr,ho,hl,hv⟩:=h4;exact ⟨arr,ho,hl,λi k d n e x y=>let ⟨p,q,r⟩:=hv i k d n e x y;⟨p,q,mv r⟩⟩
      |gone n=>exact h4.elim
    ·rcases h with h | rfl
     ·exact RB.fz x h
     ·exact glt
   have E2:Evo U M Fz w U M Fz' w':=⟨EB.size,EB.frame,EB.ran,λx h=>⟨.inl h,(EB.fz x h).2⟩,λx h=>by
    rcases h with h | rfl
    ·exact .inl h
    ·exact .inr (.inr hge),EB.shp,EB.keep,EB.out⟩
   refine ⟨_,M,Fz',rfl,R2,.c ?_,E2⟩;have e7:ss.length=((ss.mergeSort (λx y=>decide (x<=y))).map λk=>[C.lit (.int .i64 k)]).length:=by rw[yAz,slen]
   rw[e7];refine .frz 1 (some ⟨gb,0,none⟩) cap (λh=>by simp at h) (λh=>by simp at h) (λi _=>.int .i64 ((ss.mergeSort (λx y=>decide (x<=y)))[i]?.getD 0)) (λe he=>?_) (by rw[<-e7];exact hcap) (λi j e d hi hj=>?_) (λi j e d hi hj=>?_)
   ·rw[yA4] at he;obtain ⟨k,_,rfl⟩:=he;rfl
   ·rw[yAl,yAd] at hi;obtain ⟨k,hk,rfl⟩:=hi;cases j with
    |succ j=>simp at hj
    |zero=>refine ⟨gb,0,rfl,.inr rfl,?_,rfl⟩;rw[cellE i k hk,hk];rfl
   ·rw[yAl,yAd] at hi;obtain ⟨k,hk,rfl⟩:=hi;cases j with
    |succ j=>simp at hj
    |zero=>simp only[List.getElem?_cons_zero,yAa] at hj;subst hj;rw[hk];exact .lit _
theorem inlKeys_ok{P:Program}{gs gk:FuncId}{kt:TypeId}(K:SortsKeys P gs gk kt){ii:Nat}{c:Int->TT ii}(hc:∀k,enc ii (c k)=[.lit (.int .i64 k)]):InlB.ok P (inlKeys gs gk ii c):=by
 intro cs gi vs U y ct x rv U2 σD ds h hsel hput Hh hvs hgs;unfold inlKeys at h;split at h
 rotate_left
 ·simp at h
 rename_i ct1;split at h
 rotate_left
 ·simp at h
 rename_i f b hg;split at h
 rotate_left
 ·simp at h
 rename_i w0 v0 m hf hb;split at h
 rotate_left
 ·simp at h
 rename_i j st l ver hm;split at h
 rotate_left
 ·simp at h
 rename_i hit he _;obtain ⟨y0,hk,hy⟩:=cast_some2 _ (show tupI [It.cc (.sl ii)]=altT [ct1] from yCj tupI hit) h;have:=yAi hg;subst this;have:=yAi hf;subst this;simp only[selA,yAa,yBT] at hsel;obtain ⟨rfl,hz⟩:=hsel;cases hz;obtain ⟨out,pl,nb,H,J,C⟩:=ct1;simp only[rowsEq,CT.out,CT.pl,CT.nb] at he;split at he
 rotate_left
 ·simp at he
 obtain rfl:ii=_:=(yAi he).symm;have hds:ds=[.fn (.func f) [] [.ptr b 0 1]]:=by
  cases hvs with
  |cons r a=>cases a;rw[RT.c1 (by simp) r];rfl
 subst hds;have etup:ofTup (CT.items (.mk [.v (.c (.sl ii))] [] [] H J C)) y=[⟨.cc (.sl ii),y0⟩]:=by have:ofTup [It.cc (.sl ii)] y0=ofTup (CT.items (.mk [.v (.c (.sl ii))] [] [] H J C)) y:=ofTup_heq hit hy;rw[<-this];rfl
 have hput':rv=[.c (.sl ii y0)]/\U2=U:=by unfold putI at hput;rw[etup] at hput;simp only[CT.pl,CT.nb,CT.out,pRows,pNew,pROs,pRO,zbG,pPCs,pNBs,yBv,yAa,yAc] at hput;exact ⟨hput.1.symm,hput.2.symm⟩
 obtain ⟨rfl,rfl⟩:=hput';refine ⟨K.en,?_⟩;have hbD:=Hh.hp b _ hb;have hmD:=Hh.hp m _ hm;obtain ⟨ob1,b1,b2⟩:=hbD;obtain ⟨ob2,m1,m2⟩:=hmD;have b2:ob1=.cells [.mp m]:=b2;have m2:ob2=MB (mpE j st) l:=m2;subst b2 m2;have:=keys_ok K hc b1 m1 hk;rw[<-Hh.eqD];exact this
end
end Go.Abs
end
section
namespace Go.Abs
noncomputable section
variable[Gl][Y:Ty]
section
variable{P:Program}{orc:Orc}{n:Nat}{al:AL}{U U1:Heap}
end
theorem Ok.cut{P:Program}{g:FuncId}{ds:List D}{c0 X garb:List D}{k es sz:Nat}(h:Ok P g ds [.cells c0] (.sl 0 0 k es sz) [.cells X])(hX:X.length=sz)(hk:k * es<=sz)(hd:∀d∈X.take (k * es),∃c,d=D.c c)(hg:sz<garb.length)(hc0:c0.length<=sz) :
  Ok P g ds [.cells c0] (.sl 1 0 k es (k * es)) [.cells garb,.cells (X.take (k * es))]:=by
 intro M Fz w vs R hs hv;refine (h M Fz w vs R hs hv).mono λe w' he=>?_;obtain ⟨v,M',Fz',rfl,R',hv',E⟩:=he;have hb1:∀c,M' 0=some c->∀b,M' b=some c->b=0:=λc h b hb=>R'.inj b 0 c hb h;refine ⟨v,λb=>if b=1 then M' 0 else none,Fz',rfl,⟨λb c hb=>?_,λb b' c hb hb'=>?_,R'.fz,R'.gl⟩,?_,?_⟩
 ·split at hb
  ·rename_i e1;subst e1;obtain ⟨h1,ob,o,h2,h3,h4⟩:=R'.blk 0 c hb;simp only[List.getElem?_cons_zero,yAa] at h2;subst h2;obtain ⟨arr,T,ho,hl,hx⟩:=h4;refine ⟨h1,.cells (X.take (k * es)),o,rfl,h3,arr,T,ho,by rw[yA6];omega,λi d v q1 q2=>?_⟩;obtain ⟨x,rfl⟩:=hd d (yAy q1);have q3:X[i]? = some (.c x):=by
    rw[yBA] at q1;split at q1
    ·exact q1
    ·simp at q1
   obtain ⟨q4,q5⟩:=hx i _ v q3 q2;refine ⟨?_,q5⟩;cases q4 with
   |c q4=>exact .c q4
  ·simp at hb
 ·split at hb <;> split at hb' <;> first | omega | simp at hb | simp at hb'
 ·cases hv' with
  |sl a n cap hnn ob h2 hle hvv=>
   simp only[List.getElem?_cons_zero,yAa] at h2;subst h2;refine .sl a n cap hnn (.cells (X.take (k * es))) rfl (by simp[Ob.sz];omega) (λ_=>?_);rcases hvv (by simp[Ob.sz,hX]) with ⟨q1,q2,q3,q4,q5,q6⟩ | ⟨c,o,arr,T,hM,ha,hn,hl,ho,hh,hb,hz⟩
   ·exact .inl ⟨q1,q2,q3,q4,q5,by omega⟩
   ·exact .inr ⟨c,o,arr,T,by simpa using hM,ha,hn,⟨hl.1,by omega⟩,ho,hh,hb,by omega⟩
 ·exact {
   size:=E.size
   frame:=E.frame
   ran:=λb c hb=>by
    split at hb
    ·exact E.ran 0 c hb
    ·simp at hb
   fz:=E.fz
   fz':=E.fz'
   shp:=E.shp
   keep:=λb ob hb=>by
    match b with
    |0=>simp only[List.getElem?_cons_zero,yAa] at hb;subst hb;exact ⟨.cells garb,rfl,by simp[Ob.sz];omega,λe=>by simp[Ob.sz] at e;omega⟩
    |b+1=>simp at hb
   out:=E.out }
section
variable{α:Type}{f:α->List C}{es:Nat}
end
end
end Go.Abs
end
section
namespace Go.Abs
section
variable[Gl]
def Shp(shs:List Sh)(xs:List C):Prop:=xs.length=shs.length/\∀(i:Nat) t x,shs[i]? = some t->xs[i]? = some x->Shaped t x
theorem Shp.cons{s:Sh}{shs:List Sh}{xs:List C}(h:Shp (s::shs) xs):∃x ys,xs=x::ys/\Shaped s x/\Shp shs ys:=by
 obtain ⟨hl,h⟩:=h
 match xs,hl,h with
 |x::ys,hl,h=>exact ⟨x,ys,rfl,h 0 s x rfl rfl,by simpa using hl,λi t y h1 h2=>h (i+1) t y (by simpa using h1) (by simpa using h2)⟩
theorem Shp.nil{xs:List C}(h:Shp [] xs):xs=[]:=by simpa using h.1
variable[Y:Ty]
def shC(rec:Nat->List Sh):CC->Sh
 |.int k=>.int k
 |.bool=>.bool
 |.str=>.str
 |.sl j=>.sl (rec j)
def shN:Nat->Nat->List Sh
 |0,_=>[]
 |k+1,i=>(Y.fl i).map (shC (shN k))
def shT(i:Nat):List Sh:=shN (i+1) i
theorem shC_dec{rec:Nat->List Sh}{r:(j:Nat)->TT j->List C}{c:CC}(hr:∀j,c=.sl j->∀xs,Shp (rec j) xs->∃a:TT j,xs=r j a){x:C}(h:Shaped (shC rec c) x):∃a:c.dn,x=encC r c a:=by
 cases c with
 |int k=>cases h with | int h=>exact ⟨_,rfl⟩
 |bool=>cases h with | bool b=>exact ⟨_,rfl⟩
 |str=>cases h with | str b=>exact ⟨_,rfl⟩
 |sl j=>
  cases h with
  |sl hl hn hh=>
   rename_i es;have:∃l:List (TT j),es=l.map (r j):=by
    clear hl;induction es with
    |nil=>exact ⟨[],rfl⟩
    |cons y es ih=>obtain ⟨a,ha⟩:=hr j rfl y ⟨hn y (by simp),hh y (by simp)⟩;obtain ⟨l,hl⟩:=ih (λz hz=>hn z (by simp[hz])) (λz hz=>hh z (by simp[hz]));exact ⟨a::l,by rw[ha,hl];rfl⟩
   obtain ⟨l,rfl⟩:=this;exact ⟨l,rfl⟩
theorem shL_dec{rec:Nat->List Sh}{r:(j:Nat)->TT j->List C}:∀(cs:List CC),(∀j,CC.sl j∈cs->∀xs,Shp (rec j) xs->∃a:TT j,xs=r j a)->∀xs,Shp (cs.map (shC rec)) xs->∃a:tup cs,xs=encT r cs a:=by
 intro cs;induction cs with
 |nil=>intro _ xs h;exact ⟨(),h.nil⟩
 |cons c cs ih=>intro hr xs h;obtain ⟨x,ys,rfl,h1,h2⟩:=Shp.cons h;obtain ⟨a,rfl⟩:=shC_dec (λj hj=>hr j (by rw[hj];exact yAq ..)) h1;obtain ⟨b,rfl⟩:=ih (λj hj=>hr j (yAm _ hj)) ys h2;exact ⟨(a,b),rfl⟩
theorem shN_dec:∀(k i:Nat),i<k->∀xs,Shp (shN k i) xs->∃a:TT i,xs=encN k i a:=by
 intro k;induction k with
 |zero=>intro i h;omega
 |succ k ih=>intro i hi xs h;obtain ⟨a,rfl⟩:=shL_dec (rec:=shN k) (r:=encN k) (Y.fl i) (λj hj=>ih j (by have:=Y.dn i j hj;omega)) xs h;exact ⟨Y.mkt i a,by simp only[encN,Y.pm]⟩
theorem sh_dec(i:Nat){xs:List C}(h:Shp (shT i) xs):∃a:TT i,xs=enc i a:=shN_dec (i+1) i (by omega) xs h
theorem arg_st(i:Nat){w:World}{xs:List C}{vs:Array Value}(h:zb0 w (shT i) xs vs.toList):∃a:TT i,V [] (λ_=>none) (λc=>c<w.heap.size) w (VCd.enc (.st i) a) (.agg vs):=by have hV:=V.cells_agg h (U:=[]) (M:=λ_=>none);obtain ⟨a,rfl⟩:=sh_dec i ⟨h.1,h.2.2.1⟩;exact ⟨a,hV⟩
theorem arg_c(c:CC){w:World}{xs:List C}{v:Value}(h:zb0 w [shC shT c] xs [v]):∃a:c.dn,V [] (λ_=>none) (λc=>c<w.heap.size) w (VCd.enc (.c c) a) v:=by obtain ⟨x,rfl,hs,hV⟩:=V.cells_one h (U:=[]) (M:=λ_=>none);obtain ⟨a,rfl⟩:=shC_dec (rec:=shT) (r:=enc) (λj _ xs h=>sh_dec j h) hs;exact ⟨a,hV⟩
open Go.RowKit in
theorem law_pure{P:Program}{g:FuncId}{ds:List D}(h:Pure P g ds (B true)){w:World}{vs:Array Value}(hs:vs.size=ds.length)
  (hv:∀(i:Nat) d v,ds[i]? = some d->vs[i]? = some v->V [] (λ_=>none) (λc=>c<w.heap.size) w d v) (hg:Gl.ok (λc=>c<w.heap.size) w) :
  Calls P g vs w λe w'=>e=.returned (.bool true)/\Below w.heap.size w w':=by
 refine (h.2 _ _ w vs (Rel.start w hg) hs hv).mono λe w' he=>?_;obtain ⟨v,M',Fz',rfl,R',hv,EV⟩:=he;exact ⟨by rw[hv.lit_inv],EV.out.1,EV.out.2.1,EV.out.2.2,EV.size,λk hk=>(EV.fz k hk).2⟩
end
end Go.Abs
end
