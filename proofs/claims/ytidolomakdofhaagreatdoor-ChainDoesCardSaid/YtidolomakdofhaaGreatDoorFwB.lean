/- DfwI, DfwJ, DfwK, DfwL, DfwM, DfwN, DfwO, DfwQ, DfwR, DfwS -/
import Derived.Test.YtidolomakdofhaaGreatDoorFwA
set_option linter.all false
section
namespace Go.Abs
variable[Gl]
section
variable{P:Program}{U U':Heap}{M M':Nat->Option Nat}{Fz:Nat->Prop}{w w':World}{env:List D}{a:Act}
theorem growBy_le(n:Nat):∀(r c:Nat),c<=n+(n+768) / 4->Builtin.growBy n r c<=n+(n+768) / 4:=by
 intro r;induction r with
 |zero=>intro c h;exact h
 |succ r ih=>
  intro c h;simp only[Builtin.growBy];split
  ·exact h
  ·exact ih _ (by omega)
theorem nextcap_le(n c:Nat)(h:c<n):Builtin.nextslicecap n c<=2 * n+1000:=by
 unfold Builtin.nextslicecap;split
 ·omega
 ·split
  ·omega
  ·have:=growBy_le n 4 c (by omega);omega
theorem setO_id{c:Nat}{o:Obj}(h:w.heap[c]? = some o):setO w c o=w:=by
 unfold setO;have:w.heap.setIfInBounds c o=w.heap:=by
  apply yB2;apply yAM;intro i;simp only[yA5,yAU];split
  ·rename_i e;subst e;rw[if_pos (yAv.1 h).1];exact h.symm
  ·rfl
 rw[this]
theorem run_storeCells'(P:Program)(T:TypeId)(c:Nat)(xs:List Value)(off:Nat)(w:World)(arr:Array Value)
  (h:w.heap[c]? = some (.cells arr T (0,0))) (hx:∀x∈xs,x.oneCell'=true) (hl:off+xs.length<=arr.size) :
  (storeCells ⟨c,off,none⟩ xs).run P w=.ok () (setO w c (.cells (putA arr off xs) T (0,0))):=by
 rw[run_storeCells P T c xs 0 off w arr h hx (by omega)];congr 1;split
 ·rename_i hn;subst hn;have:putA arr off []=arr:=by apply yB2;simp[putA]
  rw[this,setO_id h]
 ·rfl
theorem zdY.ones{cs:List D}{arr:Array Value}(h:zdY U M Fz w cs arr):∀u∈arr.toList,u.oneCell'=true:=by intro u hu;obtain ⟨i,hi,rfl⟩:=List.mem_iff_getElem.1 hu;simp only[Array.length_toList] at hi;exact (h.2 i _ _ (yAg (by rw[<-h.1];exact hi)) (yAn (by simpa using hi))).2
theorem run_append {t t1 e:TypeId} {et:TypeId} {ats:Array TypeId} {ty:TypeId} {args:Array Value} {base:Option Addr} {sLen sCap n cap':Nat} {ad:Option Addr} {esz:Nat} {i:TypeInfo} {zv:Value}
    (ht:ats[0]? = some t) (ht1:ats[1]? = some t1) (hu:P.underlying t=some (.slice e)) (hu1:P.underlying t1=some (.slice et)) (hsz:sizeOf? P e=some esz) (hi:P.info? e=some i) (hz:i.zero=some zv)
    (h0:args[0]? = some (.slice base sLen sCap)) (h1:args[1]? = some (.slice ad n cap')) (hroom:zdX (sLen+n) i.bytes=true) (w:World) :
    (Builtin.append_ ats ty args).run P w =
      if sLen+n≤sCap then
        ((Builtin.firstCells esz n (.slice ad n cap')).run P w).andThen fun new w1=>
          match (generalizing:=false) base with
          | some b=>((storeCells (b.add (sLen * esz)) new.toList).run P w1).andThen fun _ w2=>.ok (.slice base (sLen+n) sCap) w2
          | none=>.ok (.slice base (sLen+n) sCap) w1
      else
        ((Builtin.firstCells esz sLen (.slice base sLen sCap)).run P w.drew).andThen fun old w1=>
          ((Builtin.firstCells esz n (.slice ad n cap')).run P w1).andThen fun new w2=>
            ((newRow e (old++new++Builtin.zeroCells zv.cells ((Question.appendCap (sLen+n) sCap e).cut (w.tape w.drawn (.appendCap (sLen+n) sCap e))-(sLen+n)))).run P w2).andThen fun r w3=>
              .ok (.slice (some r) (sLen+n) ((Question.appendCap (sLen+n) sCap e).cut (w.tape w.drawn (.appendCap (sLen+n) sCap e)))) w3:=by
  simp only [zdX,yAj,yAf] at hroom
  obtain ⟨⟨hr1,hr2⟩,hr3⟩:=hroom
  have hlen:∀w,(Builtin.lenOf (.slice ad n cap')).run P w=.ok n w:=fun w=>rfl
  simp only [Builtin.append_,ht,ht1,h0,h1,Sem.run_bind,zar hu,zar hu1,zdk hsz,Result.andThen_ok,Sem.run_pure,yAh,yAx,Bool.not_false,if_true,hlen]
  split
  · rename_i hle
    cases base with
    | none=>simp only [Sem.run_bind,Sem.run_pure]
    | some b=>simp only [Sem.run_bind,Sem.run_pure]
  · rename_i hle
    have hb1:¬(((sLen+n:Nat):Int) > IntKind.i64.max∧(False∨i.bytes=0)):=by
      have:IntKind.i64.max=9223372036854775807:=by decide
      rw [this]
      omega
    have hb2:¬(Builtin.nextslicecap (sLen+n) sCap * i.bytes > 2 ^ 48):=by
      have hc:=nextcap_le (sLen+n) sCap (by omega)
      have h2:Builtin.nextslicecap (sLen+n) sCap * i.bytes≤(2 * (sLen+n)+1000) * i.bytes:=yAP _ hc
      rw [yBe,yCv] at h2
      omega
    simp only [Sem.run_bind,zcV hi,Result.andThen_ok,yAh]
    rw [if_neg hb1]
    simp only [Sem.run_bind,Sem.run_pure,zcV hi,Result.andThen_ok]
    rw [if_neg hb2]
    simp only [Sem.run_bind,Sem.run_pure,zcV hi,Result.andThen_ok,run_choose,Question.forced,yAh,yAx,run_askRoom,run_zero hi hz,World.drew_eq]
theorem cut_le(n c:Nat)(e:TypeId)(t:Nat):n<=(Question.appendCap n c e).cut t:=by simp only[Question.cut];omega
theorem zeroCells_size(z:Array Value)(n:Nat):(Builtin.zeroCells z n).size=n * z.size:=by simp[Builtin.zeroCells]
theorem Evo.ph(R:Rel U M Fz w):Evo U M Fz w (U++[.cells []]) M Fz w:={
 size:=yAo _
 frame:=λ_ _ _=>rfl
 ran:=λb c h=>.inl ⟨b,h⟩
 fz:=λc h=>⟨h,rfl⟩
 fz':=λc h=>.inl h
 shp:=λc arr T fr h=>⟨arr,h,rfl⟩
 keep:=λb ob h=>⟨ob,by rw[yAr (yAb.1 h).1];exact h,yAo _,λ_=>rfl⟩
 out:=⟨rfl,rfl,rfl⟩ }
theorem Rel.ph(R:Rel U M Fz w):Rel (U++[.cells []]) M Fz w:=⟨λb c h=>by obtain ⟨h1,ob,o,h2,h3,h4⟩:=R.blk b c h;exact ⟨h1,ob,o,by rw[yAr (yAb.1 h2).1];exact h2,h3,h4.mono (Evo.ph R)⟩,R.inj,R.fz,R.gl⟩
theorem append_ok(R:Rel U M Fz w)(E:zas U M Fz w env a.tmps){o:Oper}{t t1 e et:TypeId}{args:Array Operand}{ats:Array TypeId}{s x:Operand}{os ox:Opd}{esz:Nat}{i:TypeInfo}{z:List D}{d:D}{wr:List Nat}
  (ho:o.op=.call { callee:=.builtin .append,args:=args,argTypes:=ats }) (ht:ats[0]? = some t) (ht1:ats[1]? = some t1) (hs0:args[0]? = some s) (hx0:args[1]? = some x)
  (hu:P.underlying t=some (.slice e)) (hu1:P.underlying t1=some (.slice et)) (hsz:sizeOf? P e=some esz) (hi:P.info? e=some i) (hz:zbu P e=some z) (hn0:¬(esz=0∨z.length≠esz))
  (hs:opd s=some os) (hx:opd x=some ox)
  (h:(do
  let xd:=ox.ev env
  let n <-zbT U xd
  let new <-zcL U esz n xd
  match os.ev env with
  |.c (.lit (.slice none 0 0))=>if zdX n i.bytes then some (.sl U.length 0 n esz (n * esz),U++[.cells new],[]) else none
  |.sl b off len es sz => do
   let cs <-zci U b sz
   if es=esz/\off=0/\len * esz=sz/\zdX (len+n) i.bytes then
    if n=0 then some (.sl b 0 len esz sz,U,[b])
    else some (.sl b 0 (len+n) esz (sz+n * esz),U.set b (.cells (cs++new)),[b])
   else if es=esz/\off=0/\(len+n) * esz<=sz/\zdX (len+n) i.bytes then
    if n=0 then some (.sl b 0 len esz sz,U,[b])
    else some (.sl b 0 (len+n) esz sz,U.set b (.cells (put cs (len * esz) new)),[b])
   else none
  |_=>none)=some (d,U',wr)):Gives P (execOp a.eval o) U M Fz w U' d:=by
 obtain ⟨i',zv,hi',hzv,hzc⟩:=zcQ hz;rw[hi] at hi';simp only[yAa] at hi';subst hi';simp only[not_or,yAN] at hn0;obtain ⟨hesz,hzl⟩:=hn0;have hzs:zv.cells.size=esz:=by have:=(zdY.ofCells (V.ofVal (U:=U) (M:=M) (Fz:=Fz) (w:=w) zv) hzc).1;omega
 simp only[Option.bind_eq_bind,yAe] at h;obtain ⟨n,hn,new,hnew,h⟩:=h;have hvx:=za5 E hx;have hvs:=za5 E hs;obtain ⟨xad,xcap,hxv⟩:=sliceLen_inv hvx hn;have heo:∀r,(Builtin.append_ ats o.type (args.map a.eval)).run P w=r->(execOp a.eval o).run P w=r.andThen λv w'=>.ok (.value v) w':=by intro r hr;simp only[execOp,ho,resolve,invoke,builtin,Sem.run_bind,Sem.run_pure,Result.andThen_ok,hr]
 have ha1:(args.map a.eval)[1]? = some (.slice xad n xcap):=by rw[yAV,hx0,xAb,hxv]
 split at h
 ·rename_i hes;rw[hes] at hvs;have hsv:=hvs.lit_inv;have ha0:(args.map a.eval)[0]? = some (.slice none 0 0):=by rw[yAV,hs0,xAb,hsv]
  split at h
  ·rename_i hroom;have hrun:=run_append (ty:=o.type) ht ht1 hu hu1 hsz hi hzv ha0 ha1 (by simpa using hroom) w;simp only[yAa,yAc] at h;obtain ⟨rfl,rfl,_⟩:=h;by_cases hn0:n=0
   ·subst hn0;obtain ⟨arr,hfc,hrow,hnl⟩:=zbh (P:=P) R hvx hesz hnew;rw[hxv] at hfc;rw[if_pos (by omega),hfc] at hrun;have he:new=[]:=yAJ (by rw[hnl,yBw]);subst he;refine ⟨.value (.slice none 0 0),.slice none 0 0,w,M,by rw[heo _ hrun];rfl,.inl rfl,R.ph,?_,Evo.ph R,by simp⟩;exact .sl none 0 0 (by simp) (.cells []) (by simp) (by simp[Ob.sz]) (λ_=>.inl ⟨rfl,rfl,rfl,rfl,rfl,by simp⟩)
   ·rw[if_neg (by omega)] at hrun;simp only[yBj] at hrun;have EH:Evo U M Fz w U M Fz w.drew:=Evo.heap R rfl ⟨rfl,rfl,rfl⟩;have R1:Rel U M Fz w.drew:=R.heap rfl ⟨rfl,rfl,rfl⟩;obtain ⟨arr,hfc,hrow,hnl⟩:=zbh (P:=P) R1 (hvx.mono EH) hesz hnew;rw[hxv] at hfc;have hold:(Builtin.firstCells esz 0 (.slice none 0 0)).run P w.drew=.ok #[] w.drew:=rfl;rw[hold] at hrun;simp only[Result.andThen_ok,hfc] at hrun;have hnc:=cut_le n 0 e (w.tape w.drawn (.appendCap n 0 e));generalize (Question.appendCap n 0 e).cut (w.tape w.drawn (.appendCap n 0 e))=nc at hrun hnc;have hm:n * esz+(nc-n) * esz=nc * esz:=by rw[<-yBe];congr 1;omega
    have hsize:(#[]++arr++Builtin.zeroCells zv.cells (nc-n)).size=nc * esz:=by simp only[yBZ,zeroCells_size,hzs,hrow.1,hnl,Array.size_empty];omega
    obtain ⟨r1,r2⟩:=newRow_ok (P:=P) R1.fz (cs:=new) (arr:=#[]++arr++Builtin.zeroCells zv.cells (nc-n)) e (by rw[hsize,hnl];omega) (λj y u h1 h2=>by have hj:=(yAb.1 h1).1;rw[yBl (by simp[hrow.1];exact hj)] at h2;exact hrow.2 j y u h1 (by simpa using h2))
    rw[r1] at hrun;refine ⟨_,_,_,_,by rw[heo _ hrun];rfl,.inl rfl,R1.alloc _ _ r2,?_,EH.trans (Evo.alloc R1.fz _ _) (yAo _),by simp⟩;rw[<-hnl];exact V.newSl (by omega) (by rw[hsize];exact yAo _) (by omega) (by rw[hnl];exact yAP _ (by omega))
  ·simp at h
 ·rename_i b off len es sz hes;rw[hes] at hvs;simp only[yAe] at h;obtain ⟨cs,hr,h⟩:=h;split at h
  ·rename_i hcnd;obtain ⟨rfl,rfl,hlsz,hroom⟩:=hcnd;obtain ⟨hb,hcsz⟩:=zbZ hr;rcases hvs.sl_inv hr with ⟨hva,e2,_,e4,e6⟩ | ⟨c,o',cap,arr0,T,hM,hva,hlc,hoff,hh,hcap,_⟩
   ·subst e2 e4 e6;have ha0:(args.map a.eval)[0]? = some (.slice none 0 0):=by rw[yAV,hs0,xAb,hva]
    have hrun:=run_append (ty:=o.type) ht ht1 hu hu1 hsz hi hzv ha0 ha1 hroom w;split at h
    ·rename_i hn0;subst hn0;simp only[yAa,yAc] at h;obtain ⟨rfl,rfl,_⟩:=h;obtain ⟨arr,hfc,hrow,hnl⟩:=zbh (P:=P) R hvx hesz hnew;rw[hxv] at hfc;rw[if_pos (by omega),hfc] at hrun;refine Gives.same R (v:=.slice none 0 0) ?_ (hva▸hvs);rw[heo _ hrun];rfl
    ·rename_i hn0;simp only[yAa,yAc] at h;obtain ⟨rfl,rfl,_⟩:=h;rw[if_neg (by omega)] at hrun;simp only[yBj] at hrun;have EH:Evo U M Fz w U M Fz w.drew:=Evo.heap R rfl ⟨rfl,rfl,rfl⟩;have R1:Rel U M Fz w.drew:=R.heap rfl ⟨rfl,rfl,rfl⟩;obtain ⟨arr,hfc,hrow,hnl⟩:=zbh (P:=P) R1 (hvx.mono EH) hesz hnew;rw[hxv] at hfc;have hold:(Builtin.firstCells es 0 (.slice none 0 0)).run P w.drew=.ok #[] w.drew:=rfl;rw[hold] at hrun;simp only[Result.andThen_ok,hfc] at hrun;have hnc:=cut_le n 0 e (w.tape w.drawn (.appendCap n 0 e));generalize (Question.appendCap n 0 e).cut (w.tape w.drawn (.appendCap n 0 e))=nc at hrun hnc;have hm:n * es+(nc-n) * es=nc * es:=by rw[<-yBe];congr 1;omega
     have hsize:(#[]++arr++Builtin.zeroCells zv.cells (nc-n)).size=nc * es:=by simp only[yBZ,zeroCells_size,hzs,hrow.1,hnl,Array.size_empty];omega
     have hnrun:∀row,(newRow e row).run P w.drew=.ok ⟨w.drew.heap.size,0,none⟩ (w.drew.alloc (.cells row e)):=λ_=>rfl;rw[hnrun] at hrun;have hnp:0<n * es:=Nat.mul_pos (by omega) (by omega);have hss:(Ob.cells []).sz<(Ob.cells ([]++new)).sz:=by simp[Ob.sz,hnl];exact hnp
     have EV:=Evo.move (o':=.cells (#[]++arr++Builtin.zeroCells zv.cells (nc-n)) e) R1 hb hss;refine ⟨_,_,_,_,by rw[heo _ hrun];rfl,.inl rfl,R1.move hb hss ?_,?_,EH.trans EV (yAo _),by simp⟩
     ·refine ⟨_,e,rfl,by rw[hsize];simp[hnl];omega,λj d v h1 h2=>?_⟩;have hjl:=(yAb.1 h1).1;simp[hnl] at hjl;rw[yBl (by simp[hrow.1,hnl];omega)] at h2;have:=hrow.2 j d v (by simpa using h1) (by simpa using h2);exact ⟨this.1.mono EV,this.2⟩
     ·have hbl:=(yAb.1 hb).1;refine .sl _ _ _ (by simp) (.cells ([]++new)) (by simp[yAK,hbl]) (by simp[Ob.sz,hnl]) (λ_=>.inr ?_);refine ⟨w.drew.heap.size,0,_,e,by simp[upM],rfl,by omega,by omega,.inl rfl,heap_alloc_new _ _,by rw[hsize];omega,by simp⟩
   have ha0:(args.map a.eval)[0]? = some (.slice (some ⟨c,o',none⟩) len cap):=by rw[yAV,hs0,xAb,hva]
   have hrun:=run_append (ty:=o.type) ht ht1 hu hu1 hsz hi hzv ha0 ha1 hroom w;obtain ⟨arr0',T',hh',hl0,hcs⟩:=R.row hM hb;rw[hh] at hh';simp only[yAa,Obj.cells.injEq,yBN] at hh';obtain ⟨rfl,rfl⟩:=hh';split at h
   ·rename_i hn0;subst hn0;simp only[yAa,yAc] at h;obtain ⟨rfl,rfl,_⟩:=h;obtain ⟨arr,hfc,hrow,hnl⟩:=zbh (P:=P) R hvx hesz hnew;rw[hxv] at hfc;rw[if_pos (by omega),hfc] at hrun;have harr:arr.toList=[]:=by
     have:arr.size=0:=by rw[hrow.1,hnl];omega
     simpa using this
    simp only[Result.andThen_ok,harr,storeCells,Sem.run_pure] at hrun;refine Gives.same R (v:=.slice (some ⟨c,o',none⟩) len cap) ?_ (hva▸hvs);rw[heo _ hrun];rfl
   ·rename_i hn0;simp only[yAa,yAc] at h;obtain ⟨rfl,rfl,_⟩:=h;by_cases hle:len+n<=cap
    ·rw[if_pos hle] at hrun;obtain ⟨arr,hfc,hrow,hnl⟩:=zbh (P:=P) R hvx hesz hnew;rw[hxv] at hfc;have hoo:o'=0:=by
      rcases hoff with h | h
      ·exact h
      ·omega
     subst hoo;have hm:(len+n) * es<=cap * es:=yAP _ hle;rw[yBe] at hm;have hst:=run_storeCells' P T c arr.toList (0+len * es) w arr0 hh hrow.ones (by simp[hrow.1,hnl];omega);rw[hfc] at hrun;simp only[Result.andThen_ok,add_off,hst] at hrun;have hss:(Ob.cells cs).sz<=(Ob.cells (cs++new)).sz:=by simp[Ob.sz]
     have hshp:∀arr1 T1 fr,Obj.cells arr0 T (0,0)=.cells arr1 T1 fr->∃arr',Obj.cells (putA arr0 (0+len * es) arr.toList) T (0,0)=.cells arr' T1 fr/\arr'.size=arr1.size:=by intro arr1 T1 fr h;simp only[Obj.cells.injEq] at h;obtain ⟨rfl,rfl,rfl⟩:=h;exact ⟨_,rfl,zcv (by simp[hrow.1,hnl];omega)⟩
     have EV:=Evo.upd R hM hb hh hss hshp;refine ⟨_,_,_,M,by rw[heo _ hrun];rfl,.inl rfl,R.upd hM hb hh hss hshp ?_,?_,EV,by simp⟩
     ·refine ⟨_,T,rfl,?_,λj d v h1 h2=>?_⟩
      ·rw[zcv (by simp[hrow.1,hnl];omega)];simp[hnl];omega
      ·rw[getElem?_putA (by simp[hrow.1,hnl];omega)] at h2;simp only[Array.length_toList,hrow.1,hnl] at h2;by_cases hj:j<cs.length
       ·rw[yAr hj] at h1;rw[if_neg (by omega)] at h2;have:=hcs j d v h1 h2;exact ⟨this.1.mono EV,this.2⟩
       ·rw[yA0 (by omega)] at h1;have hjl:=(yAb.1 h1).1;rw[if_pos (by omega)] at h2;have:=hrow.2 (j-cs.length) d v h1 (by
         rw[yA5] at h2;rw[<-h2];congr 1;omega)
        exact ⟨this.1.mono EV,this.2⟩
     ·have hbl:=(yAb.1 hb).1;refine .sl _ _ _ (by simp) (.cells (cs++new)) (by simp[yAK,hbl]) (by simp[Ob.sz,hcsz,hnl]) (λ_=>.inr ?_);refine ⟨c,0,_,T,hM,rfl,rfl,⟨hle,by omega⟩,.inl rfl,setO_same (R.lt hM).2,?_,?_⟩
      ·rw[zcv (by simp[hrow.1,hnl];omega)];omega
      ·rw[yBe];omega
    ·rw[if_neg hle] at hrun;have EH:Evo U M Fz w U M Fz w.drew:=Evo.heap R rfl ⟨rfl,rfl,rfl⟩;have R1:Rel U M Fz w.drew:=R.heap rfl ⟨rfl,rfl,rfl⟩;obtain ⟨arr,hfc,hrow,hnl⟩:=zbh (P:=P) R1 (hvx.mono EH) hesz hnew;rw[hxv] at hfc;have hsc:zcL U es len (.sl b 0 len es sz)=some cs:=by
      have hc:es=es/\len<=len/\0+len * es<=sz:=⟨rfl,yAo _,by omega⟩;show ((zci U b sz).bind λcs=>if es=es/\len<=len/\0+len * es<=sz then some ((cs.drop 0).take (len * es)) else none)=some cs;rw[hr,xAa,if_pos hc,yB4,yAR (by omega)]
     obtain ⟨old,hfo,hro,hol⟩:=zbh (P:=P) R1 (hvs.mono EH) hesz hsc;rw[hva] at hfo;rw[hfo] at hrun;simp only[Result.andThen_ok,hfc] at hrun;have hnc:=cut_le (len+n) cap e (w.tape w.drawn (.appendCap (len+n) cap e));generalize (Question.appendCap (len+n) cap e).cut (w.tape w.drawn (.appendCap (len+n) cap e))=nc at hrun hnc;have hm:(len+n) * es+(nc-(len+n)) * es=nc * es:=by rw[<-yBe];congr 1;omega
     rw[yBe] at hm;have hsize:(old++arr++Builtin.zeroCells zv.cells (nc-(len+n))).size=nc * es:=by simp only[yBZ,zeroCells_size,hzs,hrow.1,hnl,hro.1,hol];omega
     have hnrun:∀row,(newRow e row).run P w.drew=.ok ⟨w.drew.heap.size,0,none⟩ (w.drew.alloc (.cells row e)):=λ_=>rfl;rw[hnrun] at hrun;have hnp:0<n * es:=Nat.mul_pos (by omega) (by omega);have hss:(Ob.cells cs).sz<(Ob.cells (cs++new)).sz:=by simp[Ob.sz,hnl];exact hnp
     have EV:=Evo.move (o':=.cells (old++arr++Builtin.zeroCells zv.cells (nc-(len+n))) e) R1 hb hss;refine ⟨_,_,_,_,by rw[heo _ hrun];rfl,.inl rfl,R1.move hb hss  ?_,?_,EH.trans EV (yAo _),by simp⟩
     ·refine ⟨_,e,rfl,by rw[hsize];simp[hnl];omega,λj d v h1 h2=>?_⟩;have hjl:=(yAb.1 h1).1;simp[hnl] at hjl;rw[yBl (by simp[hro.1,hrow.1,hnl];omega)] at h2;by_cases hj:j<cs.length
      ·rw[yAr hj] at h1;rw[yBl (by rw[hro.1];exact hj)] at h2;have:=hro.2 j d v h1 h2;exact ⟨this.1.mono EV,this.2⟩
      ·rw[yA0 (by omega)] at h1;rw[Array.getElem?_append_right (by rw[hro.1];omega),hro.1] at h2;have:=hrow.2 _ d v h1 h2;exact ⟨this.1.mono EV,this.2⟩
     ·have hbl:=(yAb.1 hb).1;refine .sl _ _ _ (by simp) (.cells (cs++new)) (by simp[yAK,hbl]) (by simp[Ob.sz,hcsz,hnl]) (λ_=>.inr ?_);refine ⟨w.drew.heap.size,0,_,e,by simp[upM],rfl,rfl,by omega,.inl rfl,heap_alloc_new _ _,by rw[hsize];omega,by rw[yBe];omega⟩
  ·rename_i hneg;split at h
   rotate_left
   ·simp at h
   rename_i hcnd;obtain ⟨rfl,rfl,hlsz,hroom⟩:=hcnd;obtain ⟨hb,hcsz⟩:=zbZ hr;have hpos:0<es:=Nat.pos_of_ne_zero hesz;rcases hvs.sl_inv hr with ⟨hva,e2,_,e4,e6⟩ | ⟨c,o',cap,arr0,T,hM,hva,hlc,hoff,hh,hcap,_⟩
   ·subst e2 e4 e6;have hn0:n=0:=by
     rcases Nat.eq_zero_or_pos n with h0 | h0
     ·exact h0
     ·have:=Nat.mul_pos (show 0<0+n by omega) hpos;omega
    subst hn0;have ha0:(args.map a.eval)[0]? = some (.slice none 0 0):=by rw[yAV,hs0,xAb,hva]
    have hrun:=run_append (ty:=o.type) ht ht1 hu hu1 hsz hi hzv ha0 ha1 hroom w;rw[if_pos rfl] at h;simp only[yAa,yAc] at h;obtain ⟨rfl,rfl,_⟩:=h;obtain ⟨arr,hfc,hrow,hnl⟩:=zbh (P:=P) R hvx hesz hnew;rw[hxv] at hfc;rw[if_pos (by omega),hfc] at hrun;refine Gives.same R (v:=.slice none 0 0) ?_ (hva▸hvs);rw[heo _ hrun];rfl
   have ha0:(args.map a.eval)[0]? = some (.slice (some ⟨c,o',none⟩) len cap):=by rw[yAV,hs0,xAb,hva]
   have hrun:=run_append (ty:=o.type) ht ht1 hu hu1 hsz hi hzv ha0 ha1 hroom w;obtain ⟨arr0',T',hh',hl0,hcs⟩:=R.row hM hb;rw[hh] at hh';simp only[yAa,Obj.cells.injEq,yBN] at hh';obtain ⟨rfl,rfl⟩:=hh';have hle:len+n<=cap:=Nat.le_of_mul_le_mul_right (by omega) hpos;rw[if_pos hle] at hrun;obtain ⟨arr,hfc,hrow,hnl⟩:=zbh (P:=P) R hvx hesz hnew;rw[hxv] at hfc;split at h
   ·rename_i hn0;subst hn0;simp only[yAa,yAc] at h;obtain ⟨rfl,rfl,_⟩:=h;have harr:arr.toList=[]:=by
     have:arr.size=0:=by rw[hrow.1,hnl];omega
     simpa using this
    rw[hfc] at hrun;simp only[Result.andThen_ok,harr,storeCells,Sem.run_pure] at hrun;refine Gives.same R (v:=.slice (some ⟨c,o',none⟩) len cap) ?_ (hva▸hvs);rw[heo _ hrun];rfl
   ·rename_i hn0;simp only[yAa,yAc] at h;obtain ⟨rfl,rfl,_⟩:=h;have hoo:o'=0:=by
     rcases hoff with h | h
     ·exact h
     ·omega
    subst hoo;have hm:(len+n) * es<=cap * es:=yAP _ hle;have hm2:=hlsz;rw[yBe] at hm hm2;have hst:=run_storeCells' P T c arr.toList (0+len * es) w arr0 hh hrow.ones (by simp[hrow.1,hnl];omega);rw[hfc] at hrun;simp only[Result.andThen_ok,add_off,hst] at hrun;have hlen:len * es+new.length<=cs.length:=by omega
    have hss:(Ob.cells cs).sz<=(Ob.cells (put cs (len * es) new)).sz:=by simp[Ob.sz,zde hlen]
    have hshp:∀arr1 T1 fr,Obj.cells arr0 T (0,0)=.cells arr1 T1 fr->∃arr',Obj.cells (putA arr0 (0+len * es) arr.toList) T (0,0)=.cells arr' T1 fr/\arr'.size=arr1.size:=by intro arr1 T1 fr h;simp only[Obj.cells.injEq] at h;obtain ⟨rfl,rfl,rfl⟩:=h;exact ⟨_,rfl,zcv (by simp[hrow.1,hnl];omega)⟩
    have EV:=Evo.upd R hM hb hh hss hshp;refine ⟨_,_,_,M,by rw[heo _ hrun];rfl,.inl rfl,R.upd hM hb hh hss hshp ?_,?_,EV,by simp⟩
    ·refine ⟨_,T,rfl,by rw[zde hlen,zcv (by simp[hrow.1,hnl];omega)];exact hl0,λj d v h1 h2=>?_⟩;rw[getElem?_put hlen] at h1;rw[getElem?_putA (by simp[hrow.1,hnl];omega)] at h2;simp only[Array.length_toList,hrow.1,yBj] at h2;split at h1
     ·rename_i hcnd;rw[if_pos hcnd] at h2;have:=hrow.2 _ _ _ h1 (by simpa using h2);exact ⟨this.1.mono EV,this.2⟩
     ·rename_i hcnd;rw[if_neg hcnd] at h2;have:=hcs _ _ _ h1 h2;exact ⟨this.1.mono EV,this.2⟩
    ·have hbl:=(yAb.1 hb).1;refine .sl _ _ _ (by simp) (.cells (put cs (len * es) new)) (by simp[yAK,hbl]) (by simp[Ob.sz,zde hlen,hcsz]) (λ_=>.inr ?_);refine ⟨c,0,_,T,hM,rfl,rfl,⟨hle,hlc.2⟩,.inl rfl,setO_same (R.lt hM).2,?_,?_⟩
     ·rw[zcv (by simp[hrow.1,hnl];omega)];omega
     ·omega
 ·simp at h
theorem copy_ok(R:Rel U M Fz w)(E:zas U M Fz w env a.tmps){o:Oper}{t e:TypeId}{args:Array Operand}{ats:Array TypeId}{s x:Operand}{os ox:Opd}{esz b off len sz n m:Nat}{cs new:List D}
  (ho:o.op=.call { callee:=.builtin .copy,args:=args,argTypes:=ats }) (ht:ats[0]? = some t) (hs0:args[0]? = some s) (hx0:args[1]? = some x)
  (hu:P.underlying t=some (.slice e)) (hsz:sizeOf? P e=some esz) (hn0:esz≠0) (hs:opd s=some os) (hx:opd x=some ox)
  (hes:os.ev env=.sl b off len esz sz) (hr:zci U b sz=some cs) (hm:zbT U (ox.ev env)=some m) (hn:n=min m len) (hnew:zcL U esz n (ox.ev env)=some new) (hle:off+len * esz<=sz) :
  Gives P (execOp a.eval o) U M Fz w (U.set b (.cells (put cs off new))) (.c (.lit (.int .i64 n))):=by
 have hvx:=za5 E hx;have hvs:=za5 E hs;rw[hes] at hvs;obtain ⟨xad,xcap,hxv⟩:=sliceLen_inv hvx hm;rcases hvs.sl_inv hr with ⟨hva,e2,e3,e4,e5⟩ | ⟨c,o',cap,arr0,T,hM,hva,hlc,hoff,hh,hcap,_⟩
 ·subst e2 e3 e4 e5;obtain rfl:n=0:=by omega
  obtain ⟨hb,_⟩:=zbZ hr;obtain ⟨arr,hfc,hrow,hnl⟩:=zbh (P:=P) R hvx hn0 hnew;rw[hxv] at hfc;obtain rfl:new=[]:=yAJ (by omega);have hset:U.set b (.cells (put [] 0 []))=U:=by
   apply yAM;intro i;rw[yAK];split
   ·rename_i hi;subst hi;split
    ·exact hb.symm
    ·rename_i hlt;rw[yAG (by omega)]
   ·rfl
  rw[hset];have ha0:(args.map a.eval)[0]? = some (.slice none 0 0):=by rw[yAV,hs0,xAb,hva]
  have ha1:(args.map a.eval)[1]? = some (.slice xad m xcap):=by rw[yAV,hx0,xAb,hxv]
  have hl:(Builtin.lenOf (.slice xad m xcap)).run P w=.ok m w:=rfl;have hmin:Nat.min m 0=0:=hn.symm;refine Gives.same R (v:=.int .i64 0) ?_ (.c (.lit _));simp only[execOp,ho,resolve,invoke,builtin,Builtin.copy_,ht,ha0,ha1,Sem.run_bind,Sem.run_pure,zar hu,Result.andThen_ok,hl,zdk hsz,hmin,hfc,goInt];rfl
 obtain ⟨hb,hcsz⟩:=zbZ hr;obtain ⟨arr0',T',hh',hl0,hcs⟩:=R.row hM hb;rw[hh] at hh';simp only[yAa,Obj.cells.injEq,yBN] at hh';obtain ⟨rfl,rfl⟩:=hh';obtain ⟨arr,hfc,hrow,hnl⟩:=zbh (P:=P) R hvx hn0 hnew;rw[hxv] at hfc;have hnlen:n * esz<=len * esz:=yAP _ (by omega);have hst:(storeCells ⟨c,o',none⟩ arr.toList).run P w=.ok () (setO w c (.cells (putA arr0 off arr.toList) T (0,0))):=by
  by_cases hz:n=0
  ·have:arr.toList=[]:=by
    have:arr.size=0:=by rw[hrow.1,hnl,hz,yBw]
    simpa using this
   rw[this];have h2:putA arr0 off []=arr0:=by apply yB2;simp[putA]
   rw[h2,setO_id hh];rfl
  ·have hoo:o'=off:=by
    rcases hoff with h | h
    ·exact h
    ·omega
   subst hoo;exact run_storeCells' P T c arr.toList o' w arr0 hh hrow.ones (by simp[hrow.1,hnl];omega)
 have hlen:off+new.length<=cs.length:=by omega
 have hss:(Ob.cells cs).sz<=(Ob.cells (put cs off new)).sz:=by simp[Ob.sz,zde hlen]
 have hshp:∀arr1 T1 fr,Obj.cells arr0 T (0,0)=.cells arr1 T1 fr->∃arr',Obj.cells (putA arr0 off arr.toList) T (0,0)=.cells arr' T1 fr/\arr'.size=arr1.size:=by intro arr1 T1 fr h;simp only[Obj.cells.injEq] at h;obtain ⟨rfl,rfl,rfl⟩:=h;exact ⟨_,rfl,zcv (by simp[hrow.1,hnl];omega)⟩
 have EV:=Evo.upd R hM hb hh hss hshp;refine ⟨.value (.int .i64 n),_,_,M,?_,.inl rfl,R.upd hM hb hh hss hshp ?_,.c (.lit _),EV,by simp⟩
 ·have ha0:(args.map a.eval)[0]? = some (.slice (some ⟨c,o',none⟩) len cap):=by rw[yAV,hs0,xAb,hva]
  have ha1:(args.map a.eval)[1]? = some (.slice xad m xcap):=by rw[yAV,hx0,xAb,hxv]
  have hl:(Builtin.lenOf (.slice xad m xcap)).run P w=.ok m w:=rfl;have hmin:Nat.min m len=n:=hn.symm;simp only[execOp,ho,resolve,invoke,builtin,Builtin.copy_,ht,ha0,ha1,Sem.run_bind,Sem.run_pure,zar hu,Result.andThen_ok,hl,zdk hsz,hmin,hfc,hst,goInt]
 ·refine ⟨_,T,rfl,by rw[zde hlen,zcv (by simp[hrow.1,hnl];omega)];exact hl0,λj d v h1 h2=>?_⟩;rw[getElem?_put hlen] at h1;rw[getElem?_putA (by simp[hrow.1,hnl];omega)] at h2;simp only[Array.length_toList,hrow.1] at h2;split at h1
  ·rename_i hcnd;rw[if_pos hcnd] at h2;have:=hrow.2 _ _ _ h1 (by simpa using h2);exact ⟨this.1.mono EV,this.2⟩
  ·rename_i hcnd;rw[if_neg hcnd] at h2;have:=hcs _ _ _ h1 h2;exact ⟨this.1.mono EV,this.2⟩
theorem clr_ok(R:Rel U M Fz w)(E:zas U M Fz w env a.tmps){o:Oper}{t e:TypeId}{args:Array Operand}{ats:Array TypeId}{x:Operand}{ox:Opd}{esz b off len sz:Nat}{cs z:List D}
  (ho:o.op=.call { callee:=.builtin .clear,args:=args,argTypes:=ats }) (ht:ats[0]? = some t) (hx0:args[0]? = some x)
  (hu:P.underlying t=some (.slice e)) (hz:zbu P e=some z) (hn0:esz≠0) (hzl:z.length=esz) (hx:opd x=some ox)
  (hes:ox.ev env=.sl b off len esz sz) (hr:zci U b sz=some cs) (hle:off+len * esz<=sz) :
  Gives P (execOp a.eval o) U M Fz w (U.set b (.cells (put cs off (zdu len z)))) (.tup []):=by
 obtain ⟨i,zv,hi,hzv,hzc⟩:=zcQ hz;have hzr:=zdY.ofCells (V.ofVal (U:=U) (M:=M) (Fz:=Fz) (w:=w) zv) hzc;have hzs:zv.cells.size=esz:=by rw[hzr.1,hzl]
 have hzne:z≠[]:=λh=>by simp[h] at hzl;omega
 have hv:=za5 E hx;rw[hes] at hv;obtain ⟨hb,hcsz⟩:=zbZ hr;have same:len=0->U.set b (.cells (put cs off (zdu len z)))=U:=λh=>by
  subst h;have h2:put cs off (zdu 0 z)=cs:=by simp[zdu,put]
  rw[h2];apply yAM;intro i;rw[yAK];split
  ·rename_i hi;subst hi;split
   ·exact hb.symm
   ·rename_i hlt;rw[yAG (by omega)]
  ·rfl
 have nope:∀ad cap,len=0->a.eval x=.slice ad len cap->Gives P (execOp a.eval o) U M Fz w (U.set b (.cells (put cs off (zdu len z)))) (.tup []):=λad cap h hva=>by
  rw[same h];subst h;have ha0:(args.map a.eval)[0]? = some (.slice ad 0 cap):=by rw[yAV,hx0,xAb,hva]
  refine Gives.same R (v:=.tuple #[]) ?_ (.tup #[] rfl (λi d v h=>by simp at h));cases ad <;> simp only[execOp,ho,resolve,invoke,builtin,Builtin.clear_,ht,ha0,Sem.run_bind,Sem.run_pure,zar hu,Result.andThen_ok]
 rcases hv.sl_inv hr with ⟨hva,e2,e3,e4,e6⟩ | ⟨c,o',cap,arr0,T,hM,hva,hlc,hoff,hh,hcap,_⟩
 ·exact nope none 0 e2 (by rw[e2];exact hva)
 by_cases h0:len=0
 ·exact nope _ cap h0 hva
 obtain ⟨m,rfl⟩:∃m,len=m+1:=⟨len-1,by omega⟩;obtain ⟨arr0',T',hh',hl0,hcs⟩:=R.row hM hb;rw[hh] at hh';simp only[yAa,Obj.cells.injEq,yBN] at hh';obtain ⟨rfl,rfl⟩:=hh';have hoo:o'=off:=by
  rcases hoff with h | h
  ·exact h
  ·omega
 subst hoo;obtain ⟨hz1,hz2⟩:=zeros_row hzr hzne (m+1) (m+1) (yAo _);generalize hZ:Builtin.zeroCells zv.cells (m+1)=Z;have hZ':(Array.range ((m+1) * zv.cells.size)).map (zv.cells[· % zv.cells.size]!)=Z:=hZ;rw[hZ'] at hz1 hz2;have hZs:Z.size=(m+1) * esz:=by rw[<-hZ,zeroCells_size,hzs]
 have hZl:(zdu (m+1) z).length=(m+1) * esz:=by rw[length_zeros,hzl]
 have hrow:zdY U M Fz w (zdu (m+1) z) Z:=⟨by rw[hZs,hZl],hz2⟩;have hfit:o'+(m+1) * esz<=arr0.size:=by omega
 have hst:=run_storeCells' P T c Z.toList o' w arr0 hh hrow.ones (by simp[hZs];omega);have hlen:o'+(zdu (m+1) z).length<=cs.length:=by omega
 have hss:(Ob.cells cs).sz<=(Ob.cells (put cs o' (zdu (m+1) z))).sz:=by simp[Ob.sz,zde hlen]
 have hshp:∀arr1 T1 fr,Obj.cells arr0 T (0,0)=.cells arr1 T1 fr->∃arr',Obj.cells (putA arr0 o' Z.toList) T (0,0)=.cells arr' T1 fr/\arr'.size=arr1.size:=by intro arr1 T1 fr h;simp only[Obj.cells.injEq] at h;obtain ⟨rfl,rfl,rfl⟩:=h;exact ⟨_,rfl,zcv (by simp[hZs];omega)⟩
 have EV:=Evo.upd R hM hb hh hss hshp;refine ⟨.value (.tuple #[]),_,_,M,?_,.inl rfl,R.upd hM hb hh hss hshp ?_,.tup #[] rfl (λi d v h=>by simp at h),EV,by simp⟩
 ·have ha0:(args.map a.eval)[0]? = some (.slice (some ⟨c,o',none⟩) (m+1) cap):=by rw[yAV,hx0,xAb,hva]
  simp only[execOp,ho,resolve,invoke,builtin,Builtin.clear_,ht,ha0,Sem.run_bind,Sem.run_pure,zar hu,Result.andThen_ok,run_zero hi hzv,hZ,hst]
 ·refine ⟨_,T,rfl,by rw[zde hlen,zcv (by simp[hZs];omega)];exact hl0,λj d v h1 h2=>?_⟩;rw[getElem?_put hlen] at h1;rw[getElem?_putA (by simp[hZs];omega)] at h2;simp only[Array.length_toList,hZs] at h2;rw[hZl] at h1;split at h1
  ·rename_i hcnd;rw[if_pos hcnd] at h2;have:=hrow.2 _ _ _ h1 (by simpa using h2);exact ⟨this.1.mono EV,this.2⟩
  ·rename_i hcnd;rw[if_neg hcnd] at h2;have:=hcs _ _ _ h1 h2;exact ⟨this.1.mono EV,this.2⟩
end
end Go.Abs
end
section
namespace Go.Abs
variable[Gl]
def Ok(P:Program)(g:FuncId)(ds:List D)(U:Heap)(r:D)(U':Heap):Prop:=
 ∀ (M : Nat -> Option Nat) (Fz : Nat -> Prop) (w : World) (vs : Array Value), Rel U M Fz w -> vs.size = ds.length -> (∀ (i : Nat) d v, ds[i]? = some d -> vs[i]? = some v -> V U M Fz w d v) ->
  Calls P g vs w λe w'=>∃v M' Fz',e=.returned v/\Rel U' M' Fz' w'/\V U' M' Fz' w' r v/\Evo U M Fz w U' M' Fz' w'
def enterable(P:Program)(g:FuncId):Bool:=
 match P.funcs[g]? with
 |some fn=>fn.body.isSome&&fn.name != "runtime.NumGoroutine"
 |none=>false
def OrcOk(P:Program)(orc:Orc):Prop:=
 ∀g ds U r U' wr,orc g ds U=some (r,U',wr)->enterable P g=true/\Ok P g ds U r U'/\U.length<=U'.length/\∀b,b<U.length->b∉wr->U'[b]? = U[b]?
abbrev Orc2:=Option Nat->Orc
def zbp(P:Program)(orc:Orc2):Prop:=∀t,OrcOk P (orc t)
section
variable{P:Program}{U U':Heap}{M M':Nat->Option Nat}{Fz:Nat->Prop}{w w':World}{env:List D}{a:Act}{orc:Orc}
theorem mapEs_inv{d:D}{es:List (Value×D×Nat)}(h:mapEs U d=some es):(d=.c (.lit (.map none))/\es=[])∨(∃b clock,d=.mp b/\U[b]? = some (.map es clock))∨∃fs,d=.c (.fmp fs)/\es=fs.map λp=>(p.1,.c p.2,0):=by
 unfold mapEs at h;split at h
 ·simp only[yAa] at h;exact .inl ⟨rfl,h.symm⟩
 ·simp only[yAa] at h;exact .inr (.inr ⟨_,rfl,h.symm⟩)
 ·split at h
  ·rename_i es' clock hb;simp only[yAa] at h;subst h;exact .inr (.inl ⟨_,clock,rfl,hb⟩)
  ·simp at h
 ·simp at h
def ox1(ao:AOp)(env:List D):D:=
 match ao with
 |.load _ x=>x.ev env
 |_=>.any
inductive Out (P:Program) (s:Sem Next) (U:Heap) (M:Nat->Option Nat) (Fz:Nat->Prop) (w:World) (at_:D):AOp->Heap->D->List Nat->Prop where
 |y {ao:AOp} {d:D} (hc:cat ao=0) (h:Yields P s U M Fz w d):Out P s U M Fz w at_ ao U d []
 |l {ao:AOp} {d:D} {U':Heap} (hc:cat ao=1) (hσ:U'=U) (h:(∀b off sz c cs,at_=.ptr b off sz->M b=some c->U[b]? = some (.cells cs)->∃arr T,w.heap[c]? = some (.cells arr T (0,0))/\cs.length<=arr.size/\∀(i:Nat) d v,cs[i]? = some d->arr[i]? = some v->V U M Fz w d v/\v.oneCell'=true)->Yields P s U M Fz w d):Out P s U M Fz w at_ ao U' d []
 |a {ao:AOp} {d:D} {ob:Ob} (hc:cat ao=2) (h:(∀c,Fz c->c<w.heap.size)->Allocs P s U M Fz w ob d):Out P s U M Fz w at_ ao (U++[ob]) d []
 |g {ao:AOp} {d:D} {U':Heap} {wr:List Nat} (hc:cat ao=3) (h:Rel U M Fz w->Gives P s U M Fz w U' d):Out P s U M Fz w at_ ao U' d wr
theorem evOp_out(hgl:Gl.ok Fz w)(E:zas U M Fz w env a.tmps){o:Oper}{ao:AOp}{d:D}{wr:List Nat}(hc:zb5 P o.op o.type=some ao)(hnc:isCall ao=false)
  (h:zaB P orc ao env U=some (d,U',wr)):Out P (execOp a.eval o) U M Fz w (ox1 ao env) ao U' d wr:=by
 cases hop:o.op with
 |move x=>rw[hop] at hc;simp only[zb5,yAd] at hc;obtain ⟨ox,hx,rfl⟩:=hc;simp only[zaB,yAa,yAc] at h;obtain ⟨rfl,rfl,rfl⟩:=h;exact .y rfl (mov_ok E (.inl hop) hx)
 |assign x=>rw[hop] at hc;simp only[zb5,yAd] at hc;obtain ⟨ox,hx,rfl⟩:=hc;simp only[zaB,yAa,yAc] at h;obtain ⟨rfl,rfl,rfl⟩:=h;exact .y rfl (mov_ok E (.inr hop) hx)
 |pick c x y=>rw[hop] at hc;simp only[zb5,Option.bind_eq_bind,yAe,yAa] at hc;obtain ⟨oc,hoc,ox,hx,oy,hy,rfl⟩:=hc;simp only[zaB,yAd,yAc] at h;obtain ⟨t,ht,rfl,rfl,rfl⟩:=h;exact .y rfl (pick_ok E hop hoc hx hy ht)
 |alloc t=>rw[hop] at hc;simp only[zb5,yAd] at hc;obtain ⟨z,hz,rfl⟩:=hc;simp only[zaB,yAa,yAc] at h;obtain ⟨rfl,rfl,rfl⟩:=h;exact .a rfl (λhfz=>alloc_ok hfz hop hz)
 |box t x=>rw[hop] at hc;simp only[zb5,yAd] at hc;obtain ⟨ox,hx,rfl⟩:=hc;simp only[zaB,yAd,yAc] at h;obtain ⟨cs,hcs,rfl,rfl,rfl⟩:=h;exact .a rfl (λhfz=>box_ok hfz E hop hx hcs)
 |build t parts=>
  rw[hop] at hc;simp only[zb5,Option.bind_eq_bind,yAe] at hc;obtain ⟨z,hz,td,hu,hc⟩:=hc;cases td <;> simp only[yAe,yAa,reduceCtorEq] at hc
  ·rename_i len e;obtain ⟨n,hn,qs,hqs,rfl⟩:=hc;simp only[zaB,yAd,yAc] at h;obtain ⟨cs,hcs,rfl,rfl,rfl⟩:=h;exact .y rfl (build_ok E hop hz (.inr ⟨len,e,n,hu,hn,rfl⟩) hqs hcs)
  ·rename_i fs;obtain ⟨ps,hps,qs,hqs,rfl⟩:=hc;simp only[zaB,yAd,yAc] at h;obtain ⟨cs,hcs,rfl,rfl,rfl⟩:=h;exact .y rfl (build_ok E hop hz (.inl ⟨fs,ps,hu,hps,rfl⟩) hqs hcs)
 |buildSlice t len parts=>
  rw[hop] at hc;simp only[zb5,Option.bind_eq_bind,yAe] at hc;obtain ⟨td,hu,hc⟩:=hc;cases td <;> simp only[yAe,reduceCtorEq] at hc
  obtain ⟨n,hn,z,hz,hc⟩:=hc;split at hc
  ·simp at hc
  ·rename_i hn0;simp only[yAe,yAa] at hc;obtain ⟨qs,hqs,rfl⟩:=hc;simp only[zaB,yAd,yAc] at h;obtain ⟨cs,hcs,rfl,rfl,rfl⟩:=h;exact .a rfl (λhfz=>bslice_ok hfz E hop hu hn hz hn0 hqs hcs)
 |load t x=>
  rw[hop] at hc;simp only[zb5,Option.bind_eq_bind,yAe,yAa] at hc;obtain ⟨n,hn,ox,hx,rfl⟩:=hc;simp only[zaB] at h;have hw:wr=[]:=by
   split at h
   ·simp only[Option.bind_eq_bind,yAe,yAa,yAc] at h;obtain ⟨_,_,_,_,_,_,h⟩:=h;exact h.symm
   ·simp only[Option.bind_eq_bind,yAe,yAa,yAc] at h;obtain ⟨_,_,_,_,h⟩:=h;exact h.symm
   ·simp at h
  subst hw;refine .l rfl ?_ (λhR=>(load_ok E hop hx hn hR h).2);revert h;split
  ·simp only[Option.bind_eq_bind,yAe,yAa,yAc];rintro ⟨_,_,_,_,_,h,_⟩;exact h.symm
  ·simp only[Option.bind_eq_bind,yAe,yAa,yAc];rintro ⟨_,_,_,h,_⟩;exact h.symm
  ·simp
 |store t x y=>
  rw[hop] at hc;simp only[zb5,Option.bind_eq_bind,yAe,yAa] at hc;obtain ⟨n,hn,ox,hx,oy,hy,rfl⟩:=hc;simp only[zaB] at h;split at h
  ·rename_i b off sz he;simp only[Option.bind_eq_bind,yAe] at h;obtain ⟨cs,hcs,xs,hxs,h⟩:=h;split at h
   ·rename_i hcnd;simp only[yAa,yAc] at h;obtain ⟨rfl,rfl,rfl⟩:=h;exact .g rfl (λR=>store_ok R E hop hx hy hn he hcs hxs hcnd)
   ·simp at h
  ·simp at h
 |nilCheck x=>
  rw[hop] at hc;simp only[zb5,yAd] at hc;obtain ⟨ox,hx,rfl⟩:=hc;simp only[zaB] at h;have hw:wr=[]:=by split at h <;> simp only[yAa,yAc,reduceCtorEq] at h <;> exact h.2.2.symm
  subst hw;obtain ⟨rfl,hg⟩:=nilck_ok (P:=P) E hop hx h;exact .y rfl hg
 |binOp op t x y t2=>
  rw[hop] at hc;simp only[zb5] at hc;cases hu:P.underlying t with
  |none=>rw[hu] at hc;simp only[Option.bind_none,yAa] at hc;subst hc;simp only[zaB,yAd,yAc] at h;obtain ⟨d',hd,rfl,rfl,rfl⟩:=h;exact .y rfl (gen_ok E (by rw[hop];simp) (by rw[hop];exact hd))
  |some td=>
   rw[hu] at hc;simp only[Option.bind_some] at hc;cases hk:nilKind td with
   |none=>rw[hk] at hc;simp only[yAa] at hc;subst hc;simp only[zaB,yAd,yAc] at h;obtain ⟨d',hd,rfl,rfl,rfl⟩:=h;exact .y rfl (gen_ok E (by rw[hop];simp) (by rw[hop];exact hd))
   |some k=>
    rw[hk] at hc;have shape:∀neg,compNil k neg x y=some ao->∃k' neg' ox,ao=.isnil k' neg' ox:=by
     intro neg hcn;unfold compNil at hcn;split at hcn
     ·simp only[yAd] at hcn;obtain ⟨ox,_,rfl⟩:=hcn;exact ⟨_,_,_,rfl⟩
     ·split at hcn
      ·simp only[yAd] at hcn;obtain ⟨ox,_,rfl⟩:=hcn;exact ⟨_,_,_,rfl⟩
      ·simp at hcn
    cases op <;> simp only[reduceCtorEq] at hc
    ·obtain ⟨k',neg',ox,rfl⟩:=shape false hc;simp only[zaB,yAd,yAc] at h;obtain ⟨b,hb,rfl,rfl,rfl⟩:=h;exact .y rfl (isnil_ok (neg:=false) E (by simpa using hop) hu hk hc hb)
    ·obtain ⟨k',neg',ox,rfl⟩:=shape true hc;simp only[zaB,yAd,yAc] at h;obtain ⟨b,hb,rfl,rfl,rfl⟩:=h;exact .y rfl (isnil_ok (neg:=true) E (by simpa using hop) hu hk hc hb)
 |unOp op t x=>rw[hop] at hc;simp only[zb5,yAa] at hc;subst hc;simp only[zaB,yAd,yAc] at h;obtain ⟨d',hd,rfl,rfl,rfl⟩:=h;exact .y rfl (gen_ok E (by rw[hop];simp) (by rw[hop];exact hd))
 |convert s t x=>rw[hop] at hc;simp only[zb5,yAa] at hc;subst hc;simp only[zaB,yAd,yAc] at h;obtain ⟨d',hd,rfl,rfl,rfl⟩:=h;exact .y rfl (gen_ok E (by rw[hop];simp) (by rw[hop];exact hd))
 |makeFunc f first cap=>rw[hop] at hc;simp only[zb5,Option.bind_eq_bind,yAe,yAa] at hc;obtain ⟨o1,h1,o2,h2,rfl⟩:=hc;simp only[zaB,yAa,yAc] at h;obtain ⟨rfl,rfl,rfl⟩:=h;exact .y rfl (mkfn_ok E hop h1 h2)
 |makeMap t r=>
  rw[hop] at hc;cases r with
  |some _=>simp[zb5] at hc
  |none=>simp only[zb5,yAa] at hc;subst hc;simp only[zaB,yAa,yAc] at h;obtain ⟨rfl,rfl,rfl⟩:=h;exact .a rfl (λhfz=>mkmap_ok hop)
 |makeSlice t x y=>
  rw[hop] at hc;simp only[zb5,Option.bind_eq_bind,yAe] at hc;obtain ⟨td,hu,hc⟩:=hc;cases td <;> simp only[yAe,reduceCtorEq] at hc
  obtain ⟨n,hn,z,hz,i,hi,hc⟩:=hc;split at hc
  ·simp at hc
  ·rename_i hn0;simp only[yAe,yAa] at hc;obtain ⟨ox,hx,oy,hy,rfl⟩:=hc;simp only[zaB,Option.bind_eq_bind,yAe] at h;obtain ⟨l,hl,c,hcc,h⟩:=h;split at h
   ·rename_i hcnd;simp only[yAa,yAc] at h;obtain ⟨rfl,rfl,rfl⟩:=h;exact .a rfl (λhfz=>mk_ok hfz E hop hu hn hz hi hn0 hx hy hl hcc hcnd)
   ·simp at h
 |slice t x lo hi mx=>
  rw[hop] at hc;cases mx with
  |some mx=>
   cases lo with
   |none=>simp[zb5] at hc
   |some lo => cases hi with
    |none=>simp[zb5] at hc
    |some hi=>
     simp only[zb5,Option.bind_eq_bind,yAe] at hc;obtain ⟨td,hu,hc⟩:=hc;cases td <;> simp only[yAe,yAa,reduceCtorEq] at hc
     obtain ⟨n,hn,ox,hx,olo,hlo,ohi,hhi,omx,hmx,rfl⟩:=hc;simp only[zaB] at h;split at h
     ·rename_i b off len es sz he;simp only[Option.bind_eq_bind,yAe] at h;obtain ⟨cs,hr,m,h0,h',h1,l,h2,h⟩:=h;split at h
      ·rename_i hcnd;obtain ⟨rfl,rfl⟩:=hcnd;simp only[yAa,yAc] at h;obtain ⟨rfl,rfl,rfl⟩:=h;exact .y rfl (slc3xok (P:=P) E hop hx hlo hhi hmx hu hn he hr (yAe.2 h0) (yAe.2 h1) (yAe.2 h2))
      ·simp at h
     ·simp at h
  |none=>
   simp only[zb5,Option.bind_eq_bind,yAe] at hc;obtain ⟨td,hu,hc⟩:=hc;cases td <;> simp only[yAe,yAa,reduceCtorEq] at hc
   ·subst hc;simp only[zaB,yAd,yAc] at h;obtain ⟨d',hd,rfl,rfl,rfl⟩:=h;exact .y rfl (gen_ok E (by rw[hop];simp) (by rw[hop];exact hd))
   ·obtain ⟨n,hn,ox,hx,olo,hlo,ohi,hhi,rfl⟩:=hc;simp only[zaB] at h;have hw:wr=[]:=by
     split at h
     ·simp only[Option.bind_eq_bind,yAe,yAa,yAc] at h;obtain ⟨_,_,_,_,_,_,h⟩:=h;exact h.symm
     ·simp only[Option.bind_eq_bind,yAe] at h;obtain ⟨_,_,_,_,h⟩:=h;split at h <;> simp only[yAa,yAc,reduceCtorEq] at h
      exact h.2.2.symm
     ·simp only[Option.bind_eq_bind,yAe] at h;obtain ⟨_,_,_,_,_,_,h⟩:=h;split at h <;> simp only[yAa,yAc,reduceCtorEq] at h
      exact h.2.2.symm
     ·simp at h
    subst hw;obtain ⟨rfl,hg⟩:=slc_ok (P:=P) E hop hx hlo hhi hu hn h;exact .y rfl hg
 |fieldAddr s x f=>
  rw[hop] at hc;simp only[zb5,Option.bind_eq_bind,yAe] at hc;obtain ⟨td,hu,hc⟩:=hc;cases td <;> simp only[yAe,reduceCtorEq] at hc
  obtain ⟨fd,hfd,n,hn,hc⟩:=hc;split at hc
  ·simp at hc
  ·rename_i hn0;simp only[yAe,yAa] at hc;obtain ⟨ox,hx,rfl⟩:=hc;simp only[zaB] at h;have hw:wr=[]:=by
    split at h <;> simp only[yAa,yAc,reduceCtorEq] at h <;> exact h.2.2.symm
   subst hw;obtain ⟨rfl,hg⟩:=fld_ok (P:=P) E hop hx hu hfd hn hn0 h;exact .y rfl hg
 |field t x f=>
  rw[hop] at hc;simp only[zb5,Option.bind_eq_bind,yAe] at hc;obtain ⟨td,hu,hc⟩:=hc;cases td <;> simp only[yAe,yAa,reduceCtorEq] at hc
  obtain ⟨fd,hfd,n,hn,ox,hx,rfl⟩:=hc;simp only[zaB] at h;split at h
  ·rename_i cs he;simp only[yAd,yAc] at h;obtain ⟨d',hd,rfl,rfl,rfl⟩:=h;exact .y rfl (part_ok E hop hx hu hfd hn he hd)
  ·simp at h
 |indexAddr t x i=>
  rw[hop] at hc;simp only[zb5,Option.bind_eq_bind,yAe] at hc;obtain ⟨td,hu,hc⟩:=hc;cases td <;> simp only[yAe,reduceCtorEq] at hc
  ·rename_i e;obtain ⟨n,hn,hc⟩:=hc;split at hc
   ·simp at hc
   ·rename_i hn0;simp only[yAe,yAa] at hc;obtain ⟨ox,hx,oi,hi,rfl⟩:=hc;simp only[zaB] at h;have hw:wr=[]:=by
     simp only[Option.bind_eq_bind,yAe] at h;obtain ⟨_,_,h⟩:=h;split at h
     ·simp only[yAe] at h;obtain ⟨_,_,_,_,h⟩:=h;split at h <;> simp only[yAa,yAc,reduceCtorEq] at h
      exact h.2.2.symm
     ·simp only[yAe] at h;obtain ⟨_,_,_,_,h⟩:=h;split at h <;> simp only[yAa,yAc,reduceCtorEq] at h
      exact h.2.2.symm
     ·simp at h
    subst hw;obtain ⟨rfl,hg⟩:=idx_ok (P:=P) E hop hx hi hu hn hn0 h;exact .y rfl hg
  ·rename_i len e;obtain ⟨n,hn,hc⟩:=hc;split at hc
   ·simp at hc
   ·rename_i hn0;simp only[yAe,yAa] at hc;obtain ⟨ox,hx,oi,hi,rfl⟩:=hc;simp only[zaB] at h;have hw:wr=[]:=by
     simp only[Option.bind_eq_bind,yAe] at h;obtain ⟨_,_,_,_,h⟩:=h;split at h
     ·simp only[yAa,yAc] at h;exact h.2.2.symm
     ·simp only[yAa,yAc] at h;exact h.2.2.symm
     ·split at h
      ·simp at h
      ·simp only[yAa,yAc] at h;exact h.2.2.symm
     ·simp at h
    subst hw;obtain ⟨rfl,hg⟩:=aidxAddr_ok (P:=P) hgl E hop hx hi hu hn h;exact .y rfl hg
 |index t x i=>
  rw[hop] at hc;simp only[zb5,Option.bind_eq_bind,yAe] at hc;obtain ⟨td,hu,hc⟩:=hc;cases td <;> simp only[yAe,yAa,reduceCtorEq] at hc
  ·subst hc;simp only[zaB,yAd,yAc] at h;obtain ⟨d',hd,rfl,rfl,rfl⟩:=h;exact .y rfl (gen_ok E (by rw[hop];simp) (by rw[hop];exact hd))
  ·rename_i len e;obtain ⟨sz,hsz,n,hn,ox,hx,oi,hi,rfl⟩:=hc;simp only[zaB,Option.bind_eq_bind,yAe] at h;obtain ⟨z,hz,k,hk,h⟩:=h;split at h
   ·rename_i cs he;simp only[yAd,yAc] at h;obtain ⟨d',hd,rfl,rfl,rfl⟩:=h;exact .y rfl (aidx_ok E hop hx hi hu hsz hn he hz hk hd)
   ·simp at h
 |lookup t m k ok=>
  rw[hop] at hc;simp only[zb5,Option.bind_eq_bind,yAe] at hc;obtain ⟨td,hu,hc⟩:=hc;cases td <;> simp only[yAe,reduceCtorEq] at hc
  rename_i kt e;obtain ⟨kd,hkd,hc⟩:=hc;split at hc
  ·rename_i hs;simp only[yAe,yAa] at hc;obtain ⟨zero,hz,om,hm,ok',hk,rfl⟩:=hc;simp only[zaB,Option.bind_eq_bind,yAe,yAa,yAc] at h;obtain ⟨kv,hkv,es,hes,r,hr,rfl,rfl,rfl⟩:=h;exact .g rfl (λR=>lookup_ok R E hop hu hkd hs hz hm hk hkv (mapEs_inv hes) hr rfl)
  ·simp at hc
 |mapUpdate t m k x=>
  rw[hop] at hc;simp only[zb5,Option.bind_eq_bind,yAe] at hc;obtain ⟨td,hu,hc⟩:=hc;cases td <;> simp only[yAe,reduceCtorEq] at hc
  rename_i kt e;obtain ⟨kd,hkd,hc⟩:=hc;split at hc
  ·rename_i hs;simp only[yAe,yAa] at hc;obtain ⟨om,hm,ok',hk,ox,hx,rfl⟩:=hc;simp only[zaB,Option.bind_eq_bind,yAe] at h;obtain ⟨kv,hkv,h⟩:=h;split at h
   ·rename_i b he;split at h
    ·rename_i es clock hb;simp only[yAe] at h;obtain ⟨r,hr,h⟩:=h;have:=λR=>upd_ok (P:=P) (U:=U) (M:=M) (Fz:=Fz) (w:=w) R E hop hu hkd hs hm hk hx hkv he hb hr;split at h
     ·simp only[yAa,yAc] at h;obtain ⟨rfl,rfl,rfl⟩:=h;exact .g rfl this
     ·simp only[yAa,yAc] at h;obtain ⟨rfl,rfl,rfl⟩:=h;exact .g rfl this
    ·simp at h
   ·simp at h
  ·simp at hc
 |extract x i=>
  rw[hop] at hc;simp only[zb5,Option.bind_eq_bind,yAe,yAa] at hc;obtain ⟨ox,hx,rfl⟩:=hc;simp only[zaB] at h;split at h
  ·rename_i ds he;simp only[yAd,yAc] at h;obtain ⟨d',hd,rfl,rfl,rfl⟩:=h;exact .y rfl (extract_ok E hop hx he hd)
  ·simp at h
 |call c=>
  obtain ⟨callee,args,ats⟩:=c;rw[hop] at hc;cases callee with
  |value f=>simp only[zb5,Option.bind_eq_bind,yAe,yAa] at hc;obtain ⟨of,hf,os,hos,rfl⟩:=hc;simp[isCall] at hnc
  |invoke r m=>simp[zb5] at hc
  |builtin b=>
   cases b with
   |len=>
    simp only[zb5,Option.bind_eq_bind,yAe] at hc;obtain ⟨t,ht,x,hx0,hc⟩:=hc;split at hc
    ·simp at hc
    ·rename_i hs;simp only[ne_eq,yAN] at hs;simp only[yAe] at hc;obtain ⟨td,hu,hc⟩:=hc;cases td <;> simp only[yAd,yAa,reduceCtorEq] at hc
     ·subst hc;simp only[zaB,yAd,yAc] at h;obtain ⟨d',hd,rfl,rfl,rfl⟩:=h;exact .y rfl (gen_ok E (by rw[hop];simp) (by rw[hop];exact hd))
     ·obtain ⟨ox,hx,rfl⟩:=hc;simp only[zaB,yAd,yAc] at h;obtain ⟨n,hn,rfl,rfl,rfl⟩:=h;exact .y rfl (len_ok E hop ht hx0 hs hx hu hn)
     ·rename_i n e;subst hc;simp only[zaB,Opd.ev,yAa,yAc] at h;obtain ⟨rfl,rfl,rfl⟩:=h;exact .y rfl (lenArr_ok hop ht hx0 hs hu)
     ·obtain ⟨ox,hx,rfl⟩:=hc;simp only[zaB,yAd,yAc] at h;obtain ⟨es,hes,rfl,rfl,rfl⟩:=h;refine .g rfl (λR=>lenMap_ok R E hop ht hx0 hs hx hu ?_);rcases mapEs_inv hes with ⟨he,rfl⟩ | ⟨b,clock,he,hb⟩ | ⟨fs,he,rfl⟩
      ·exact .inr (.inl ⟨he,rfl⟩)
      ·exact .inl ⟨b,es,clock,he,hb,rfl⟩
      ·exact .inr (.inr ⟨fs,he,by simp⟩)
   |append=>
    simp only[zb5,Option.bind_eq_bind,yAe] at hc;obtain ⟨t,ht,t1,ht1,s,hs0,x,hx0,td,hu,td1,hu1,hc⟩:=hc;cases td <;> cases td1 <;> simp only[yAe,reduceCtorEq] at hc
    obtain ⟨n,hn,i,hi,z,hz,hc⟩:=hc;split at hc
    ·simp at hc
    ·rename_i hn0;simp only[yAe,yAa] at hc;obtain ⟨os,hs,ox,hx,rfl⟩:=hc;simp only[zaB] at h;exact .g rfl (λR=>append_ok R E hop ht ht1 hs0 hx0 hu hu1 hn hi hz hn0 hs hx h)
   |copy=>
    simp only[zb5,Option.bind_eq_bind,yAe] at hc;obtain ⟨t,ht,s,hs0,x,hx0,td,hu,hc⟩:=hc;cases td <;> simp only[yAe,reduceCtorEq] at hc
    obtain ⟨n,hn,hc⟩:=hc;split at hc
    ·simp at hc
    ·rename_i hn0;simp only[yAe,yAa] at hc;obtain ⟨os,hs,ox,hx,rfl⟩:=hc;simp only[zaB] at h;split at h
     ·rename_i b off len es sz he;simp only[Option.bind_eq_bind,yAe,yAd] at h;obtain ⟨cs,hr,k,⟨m,hm,hk⟩,new,hnew,h⟩:=h;split at h
      ·rename_i hcnd;obtain ⟨rfl,hle⟩:=hcnd;simp only[yAa,yAc] at h;obtain ⟨rfl,rfl,rfl⟩:=h;exact .g rfl (λR=>copy_ok R E hop ht hs0 hx0 hu hn hn0 hs hx he hr hm hk.symm hnew hle)
      ·simp at h
     ·simp at h
   |clear=>
    simp only[zb5,Option.bind_eq_bind,yAe] at hc;obtain ⟨t,ht,x,hx0,td,hu,hc⟩:=hc;cases td <;> simp only[yAe,reduceCtorEq] at hc
    obtain ⟨n,hn,z,hz,hc⟩:=hc;split at hc
    ·simp at hc
    ·rename_i hn0;simp only[yAe,yAa] at hc;obtain ⟨ox,hx,rfl⟩:=hc;simp only[zaB] at h;split at h
     ·rename_i b off len es sz he;simp only[Option.bind_eq_bind,yAe] at h;obtain ⟨cs,hr,h⟩:=h;split at h
      ·rename_i hcnd;obtain ⟨rfl,hle,hzl⟩:=hcnd;simp only[yAa,yAc] at h;obtain ⟨rfl,rfl,rfl⟩:=h;exact .g rfl (λR=>clr_ok R E hop ht hx0 hu hz (λe=>hn0 (.inl e)) hzl hx he hr hle)
      ·simp at h
     ·simp at h
   |delete=>
    simp only[zb5,Option.bind_eq_bind,yAe] at hc;obtain ⟨t,ht,m,hm0,k,hk0,td,hu,hc⟩:=hc;cases td <;> simp only[yAe,reduceCtorEq] at hc
    rename_i kt e;obtain ⟨kd,hkd,hc⟩:=hc;split at hc
    ·rename_i hs;simp only[yAe,yAa] at hc;obtain ⟨om,hm,ok',hk,rfl⟩:=hc;simp only[zaB,Option.bind_eq_bind,yAe] at h;obtain ⟨kv,hkv,h⟩:=h;split at h
     ·rename_i b he;split at h
      ·rename_i es clock hb;simp only[yAe] at h;obtain ⟨r,hr,h⟩:=h;have:=λR=>del_ok (P:=P) (U:=U) (M:=M) (Fz:=Fz) (w:=w) R E hop ht hm0 hk0 hu hkd hs hm hk hkv he hb hr;split at h
       ·simp only[yAa,yAc] at h;obtain ⟨rfl,rfl,rfl⟩:=h;exact .g rfl this
       ·simp only[yAa,yAc] at h;obtain ⟨rfl,rfl,rfl⟩:=h;exact .g rfl this
      ·simp at h
     ·simp at h
    ·simp at hc
   |min=>simp only[zb5,yAa] at hc;subst hc;simp only[zaB,yAd,yAc] at h;obtain ⟨d',hd,rfl,rfl,rfl⟩:=h;exact .y rfl (gen_ok E (by rw[hop];simp) (by rw[hop];exact hd))
   |max=>simp only[zb5,yAa] at hc;subst hc;simp only[zaB,yAd,yAc] at h;obtain ⟨d',hd,rfl,rfl,rfl⟩:=h;exact .y rfl (gen_ok E (by rw[hop];simp) (by rw[hop];exact hd))
   |complex=>simp only[zb5,yAa] at hc;subst hc;simp only[zaB,yAd,yAc] at h;obtain ⟨d',hd,rfl,rfl,rfl⟩:=h;exact .y rfl (gen_ok E (by rw[hop];simp) (by rw[hop];exact hd))
   |real=>simp only[zb5,yAa] at hc;subst hc;simp only[zaB,yAd,yAc] at h;obtain ⟨d',hd,rfl,rfl,rfl⟩:=h;exact .y rfl (gen_ok E (by rw[hop];simp) (by rw[hop];exact hd))
   |imag=>simp only[zb5,yAa] at hc;subst hc;simp only[zaB,yAd,yAc] at h;obtain ⟨d',hd,rfl,rfl,rfl⟩:=h;exact .y rfl (gen_ok E (by rw[hop];simp) (by rw[hop];exact hd))
   |_=>simp[zb5] at hc
 |_=>rw[hop] at hc;simp[zb5] at hc
theorem evOp_ok(R:Rel U M Fz w)(E:zas U M Fz w env a.tmps){o:Oper}{ao:AOp}{d:D}{wr:List Nat}(hc:zb5 P o.op o.type=some ao)(hnc:isCall ao=false)
  (h:zaB P orc ao env U=some (d,U',wr)):Gives P (execOp a.eval o) U M Fz w U' d:=by
 cases evOp_out (M:=M) (Fz:=Fz) (w:=w) R.gl E hc hnc h with
 |y _ hy=>exact hy.gives R
 |l _ hσ hy=>rw[hσ];exact (hy λb off sz c cs _ hM hb=>R.row hM hb).gives R
 |a _ hy=>exact (hy R.fz).gives R
 |g _ hy=>exact hy R
theorem comp_inv{op:Op}{ty:TypeId}{ao:AOp}(h:comp P op ty=some ao) :
  (∃f args ats of os,op=.call { callee:=.value f,args:=args,argTypes:=ats }/\opd f=some of/\opds args=some os/\ao=.call of os)∨(zb5 P op ty=some ao/\isCall ao=false/\isSel ao=false):=by
 unfold comp at h;split at h
 ·rename_i f args ats;split at h
  ·rename_i of os h1 h2;simp only[yAa] at h;exact .inl ⟨f,args,ats,of,os,rfl,h1,h2,h.symm⟩
  ·simp at h
 ·split at h
  ·rename_i ao' h1;split at h
   ·simp at h
   ·rename_i h2;simp only[yAa] at h;subst h;simp only[yAt,not_or,Bool.not_eq_true] at h2;exact .inr ⟨h1,h2.1,h2.2⟩
  ·simp at h
end
end Go.Abs
end
section
namespace Go.Abs
variable[Gl]
structure AOper where
 dst:Option Nat
 op:AOp
 g:Option (Nat×Bool)
 deriving Inhabited
def putE(env:List D):Option Nat->D->List D
 |some t,d=>env.set t d
 |none,_=>env
def wantE(env:List D):Option (Nat×Bool)->Option Bool
 |none=>some true
 |some (t, want)=>
  match env[t]? with
  |some (.c (.lit (.bool b)))=>some (b == want)
  |some (.tup [])=>some false
  |_=>none
def evOper(P:Program)(orc:Orc2)(o:AOper)(env:List D)(U:Heap):Option (List D×Heap×List Nat):=
 match wantE env o.g with
 |some true=>(zaB P (orc o.dst) o.op env U).map λr=>(putE env o.dst r.1,r.2.1,r.2.2)
 |some false=>some (putE env o.dst (.tup []),U,[])
 |none=>none
def evOps(P:Program)(orc:Orc2):List AOper->List D->Heap->Option (List D×Heap×List Nat)
 |[],env,U=>some (env,U,[])
 |o :: os, env, U=>
  match evOper P orc o env U with
  |some (env1, U1, w1)=>
   match evOps P orc os env1 U1 with
   |some (env2,U2,w2)=>some (env2,U2,w1++w2)
   |none=>none
  |none=>none
def compG(ops:Array Oper):Option (Nat×Bool)->Option (Option (Nat×Bool))
 |none=>some none
 |some (j, want)=>
  match (ops[j]?).bind (·.dst) with
  |some t=>some (some (t,want))
  |none=>none
def compOper(P:Program)(ops:Array Oper)(o:Oper):Option AOper:=
 match compG ops o.guard,comp P o.op o.type with
 |some g,some ao=>some ⟨o.dst,ao,g⟩
 |_,_=>none
section
variable{P:Program}{U U':Heap}{M M':Nat->Option Nat}{Fz Fz':Nat->Prop}{w w':World}{env env':List D}{a:Act}{orc:Orc}
theorem zas.mono(E:zas U M Fz w env a.tmps)(EV:Evo U M Fz w U' M' Fz' w'):zas U' M' Fz' w' env a.tmps:=
 ⟨E.1,λi d v h1 h2=>(E.2 i d v h1 h2).mono EV⟩
theorem zas.put(E:zas U M Fz w env a.tmps){d:D}{v:Value}(dst:Option Nat)(hv:V U M Fz w d v):zas U M Fz w (putE env dst d) (a.put dst v).tmps:=by
 cases dst with
 |none=>exact E
 |some t=>
  refine ⟨by simp[Act.put,putE,E.1],λi d' v' h1 h2=>?_⟩;simp only[putE,yAK] at h1;simp only[Act.put,yAU] at h2;by_cases e:t=i
  ·subst e;simp only[if_true] at h1 h2;split at h1
   ·rename_i hlt;rw[if_pos (by rw[E.1];exact hlt)] at h2;simp only[yAa] at h1 h2;subst h1 h2;exact hv
   ·simp at h1
  ·rw[if_neg e] at h1 h2;exact E.2 i d' v' h1 h2
theorem V.undef:V U M Fz w (.tup []) undef:=.tup #[] rfl (λi d v h=>by simp at h)
theorem want_ok(E:zas U M Fz w env a.tmps){ops:Array Oper}{o:Oper}{g:Option (Nat×Bool)}{b:Bool}(hg:compG ops o.guard=some g)(h:wantE env g=some b) :
  Region.wanted o (yielded ops a.tmps)=b:=by
 unfold Region.wanted;cases hgd:o.guard with
 |none=>rw[hgd] at hg;simp only[compG,yAa] at hg;subst hg;simpa[wantE] using h
 |some p=>
  obtain ⟨j,want⟩:=p;rw[hgd] at hg;simp only[compG] at hg;split at hg
  ·rename_i t ht;simp only[yAa] at hg;subst hg;simp only[wantE] at h;simp only[yielded,ht,Option.bind_some];split at h
   ·rename_i b' hb;have hlt:=(yAb.1 hb).1;have e:a.tmps[t]? = some (a.tmps[t]'(by rw[E.1];exact hlt)):=yAn _;have:=(E.2 t _ _ hb e).lit_inv;rw[e,this];simp only[yAa] at h;rw[<-h];cases b' <;> cases want <;> rfl
   ·rename_i hb;have hlt:=(yAb.1 hb).1;have e:a.tmps[t]? = some (a.tmps[t]'(by rw[E.1];exact hlt)):=yAn _;have hv:=E.2 t _ _ hb e;generalize hx:a.tmps[t]'(by rw[E.1];exact hlt)=x at hv e;rw[e];simp only[yAa] at h;subst h;cases hv with
    |tup vs=>cases want <;> rfl
   ·simp at h
  ·simp at hg
theorem call_ok(E:zas U M Fz w env a.tmps){o:Oper}{f:Operand}{args:Array Operand}{ats:Array TypeId}{of:Opd}{os:List Opd}{g:FuncId}{ds:List D}
  (ho:o.op=.call { callee:=.value f,args:=args,argTypes:=ats }) (hf:opd f=some of) (hos:opds args=some os)
  (hds:(∃first cap,of.ev env=.c (.fn (.func g) first cap)/\ds=first.map .c++os.map (Opd.ev env)++cap.map .c)∨(∃first cap,of.ev env=.fn (.func g) first cap/\ds=first++os.map (Opd.ev env)++cap))
  (hen:enterable P g=true):∃vs:Array Value,(execOp a.eval o).run P w=.ok (.enter g vs) w/\vs.size=ds.length/\∀(i:Nat) d v,ds[i]? = some d->vs[i]? = some v->V U M Fz w d v:=by
 obtain ⟨a1,a2⟩:=opds_ok E hos;have hv:=za5 E hf;have key:∀(first cap:List D)(vs ws:Array Value),a.eval f=.func (.func g) vs ws->ds=first++os.map (Opd.ev env)++cap->vs.size=first.length->ws.size=cap.length ->
   (∀(i:Nat) d v,first[i]? = some d->vs[i]? = some v->V U M Fz w d v)->(∀(i:Nat) d v,cap[i]? = some d->ws[i]? = some v->V U M Fz w d v) ->
   ∃vs:Array Value,(execOp a.eval o).run P w=.ok (.enter g vs) w/\vs.size=ds.length/\∀(i:Nat) d v,ds[i]? = some d->vs[i]? = some v->V U M Fz w d v:=by
  intro first cap vs ws hva hd h1 h2 hv1 hv2
  refine ⟨vs++args.map a.eval++ws,?_,by rw[hd];simp only[yBZ,yAC,h1,h2,a1],λi d v h3 h4=>?_⟩
  ·unfold enterable at hen;split at hen
   ·rename_i fn hfn;simp only[yAj,yBh,ne_eq] at hen;obtain ⟨hb,hnm⟩:=hen;have hnb:fn.body.isNone=false:=by cases hx:fn.body <;> simp_all
    simp only[execOp,ho,resolve,hva,Deferred.ofValue,Sem.run_bind,Sem.run_pure,Result.andThen_ok,invoke,callFunc,run_program,hfn,yAF,hnm,hnb,yAx,yAh]
   ·simp at hen
  ·rw[hd,yBb,yBb] at h3;rw[yBW,yBW] at h4;simp only[yAC,yBZ] at h3 h4;by_cases c1:i<first.length
   ·rw[if_pos (by omega),if_pos c1] at h3;rw[if_pos (by omega),if_pos (by omega)] at h4;exact hv1 i d v h3 h4
   ·by_cases c2:i<first.length+(os.map (Opd.ev env)).length
    ·rw[if_pos c2,if_neg c1] at h3;rw[if_pos (by omega),if_neg (by omega)] at h4;exact a2 _ d v h3 (by rw[<-h1];exact h4)
    ·rw[if_neg c2] at h3;rw[if_neg (by omega)] at h4;exact hv2 _ d v h3 (by rw[<-h1,<-a1];exact h4)
 rcases hds with ⟨first,cap,he,hd⟩ | ⟨first,cap,he,hd⟩
 ·rw[he] at hv;have hvc:=hv.c_inv;generalize hva:a.eval f=va at hvc;cases hvc with
  |fn vs ws h1 h2 hv1 hv2=>
   refine key _ _ vs ws hva hd (by simpa using h1) (by simpa using h2) (λi d v h3 h4=>?_) (λi d v h3 h4=>?_)
   ·simp only[yAl,yAd] at h3;obtain ⟨x,hx,rfl⟩:=h3;exact .c (hv1 i x v hx h4)
   ·simp only[yAl,yAd] at h3;obtain ⟨x,hx,rfl⟩:=h3;exact .c (hv2 i x v hx h4)
 ·rw[he] at hv;generalize hva:a.eval f=va at hv;cases hv with
  |fn vs ws h1 h2 hv1 hv2=>exact key _ _ vs ws hva hd h1 h2 hv1 hv2
theorem op_wp(O:OrcOk P orc)(R:Rel U M Fz w)(E:zas U M Fz w env a.tmps){o:Oper}{ao:AOp}{d:D}{wr:List Nat}{Q:Exit->Act->World->Prop}(hc:comp P o.op o.type=some ao)
  (h:zaB P orc ao env U=some (d,U',wr)) (K:Act->World->Prop)
  (hK:∀v w' M' Fz',Rel U' M' Fz' w'->V U' M' Fz' w' d v->Evo U M Fz w U' M' Fz' w'->U.length<=U'.length->K (a.put o.dst v) w'):o.wp P a w K Q:=by
 rcases comp_inv hc with ⟨f,args,ats,of,os,hop,hf,hos,rfl⟩ | ⟨hc0,hcall,_⟩
 ·simp only[zaB] at h;have main:∀g ds,orc g ds U=some (d,U',wr) ->
    ((∃first cap,of.ev env=.c (.fn (.func g) first cap)/\ds=first.map .c++os.map (Opd.ev env)++cap.map .c)∨(∃first cap,of.ev env=.fn (.func g) first cap/\ds=first++os.map (Opd.ev env)++cap))->o.wp P a w K Q:=by
   intro g ds ho hds;obtain ⟨hen,hok,hl,_⟩:=O g ds U d U' wr ho;obtain ⟨vs,hrun,hs,hvs⟩:=call_ok (P:=P) E hop hf hos hds hen;unfold Oper.wp;rw[hrun];refine (hok M Fz w vs R hs hvs).mono λe w' he=>?_;obtain ⟨v,M',Fz',rfl,R',hv,EV⟩:=he;exact hK v w' M' Fz' R' hv EV hl
  split at h
  ·rename_i g first cap he
   exact main _ _ h (.inl ⟨first,cap,he,rfl⟩)
  ·rename_i g first cap he
   exact main _ _ h (.inr ⟨first,cap,he,rfl⟩)
  ·simp at h
 ·obtain ⟨nx,v,w',M',hrun,hnx,R',hv,EV,hl⟩:=evOp_ok R E hc0 hcall h;unfold Oper.wp;rw[hrun];rcases hnx with rfl | ⟨rfl,rfl⟩
  ·exact hK v w' M' Fz R' hv EV hl
  ·exact hK _ w' M' Fz R' hv EV hl
theorem oper_wp{orc:Orc2}(O:zbp P orc)(R:Rel U M Fz w)(E:zas U M Fz w env a.tmps){ops:Array Oper}{i:Nat}{o:Oper}{ao:AOper}{wr:List Nat}{Q:Exit->Act->World->Prop}(hi:ops[i]? = some o)(hc:compOper P ops o=some ao)
  (h:evOper P orc ao env U=some (env',U',wr)) (K:Act->World->Prop)
  (hK:∀a' w' M' Fz',a'.defers=a.defers->Rel U' M' Fz' w'->zas U' M' Fz' w' env' a'.tmps->Evo U M Fz w U' M' Fz' w'->U.length<=U'.length->K a' w'):wpOp P ops Q i K a w:=by
 unfold compOper at hc;split at hc
 ·rename_i g ao' hg hao;simp only[yAa] at hc;subst hc;unfold evOper at h;have hput:∀v,(a.put o.dst v).defers=a.defers:=λv=>by cases o.dst <;> rfl
  split at h
  ·rename_i hw;have hwant:=want_ok E hg hw;simp only[yAd] at h;obtain ⟨⟨d,U1,wr1⟩,hev,h⟩:=h;simp only[yAc] at h;obtain ⟨rfl,rfl,rfl⟩:=h;unfold wpOp;rw[hi];simp only[hwant,if_true];exact .inl (op_wp (O o.dst) R E hao hev K λv w' M' Fz' R' hv EV hl=>hK _ w' M' Fz' (hput v) R' ((E.mono EV).put o.dst hv) EV hl)
  ·rename_i hw;have hwant:=want_ok E hg hw;simp only[yAa,yAc] at h;obtain ⟨rfl,rfl,rfl⟩:=h;unfold wpOp;rw[hi];simp only[hwant,yAh,yAx];exact hK _ w M Fz (hput _) R (E.put o.dst V.undef) (Evo.refl R) (yAo _)
  ·simp at h
 ·simp at hc
theorem ops_wp{orc:Orc2}(O:zbp P orc){ops:Array Oper}{Q:Exit->Act->World->Prop}:∀(os:List AOper)(k:Nat)(U U':Heap)(M:Nat->Option Nat)(Fz:Nat->Prop)(w:World)(env env':List D)(a:Act)(wr:List Nat),
  (∀j ao,os[j]? = some ao->∃o,ops[k+j]? = some o/\compOper P ops o=some ao)->Rel U M Fz w->zas U M Fz w env a.tmps->evOps P orc os env U=some (env',U',wr) ->
  (∀a' w' M' Fz',a'.defers=a.defers->Rel U' M' Fz' w'->zas U' M' Fz' w' env' a'.tmps->Evo U M Fz w U' M' Fz' w'->U.length<=U'.length->Q .normal a' w') ->
  wpOps P ops Q (List.range' k os.length) a w:=by
 intro os;induction os with
 |nil=>intro k U U' M Fz w env env' a wr _ R E h hQ;simp only[evOps,yAa,yAc] at h;obtain ⟨rfl,rfl,_⟩:=h;exact hQ a w M Fz rfl R E (Evo.refl R) (yAo _)
 |cons ao os ih=>
  intro k U U' M Fz w env env' a wr hops R E h hQ;simp only[evOps] at h;split at h
  ·rename_i env1 U1 w1 h1;split at h
   ·rename_i env2 U2 w2 h2;simp only[yAa,yAc] at h;obtain ⟨rfl,rfl,_⟩:=h;obtain ⟨o,ho,hco⟩:=hops 0 ao (by simp);simp only[List.length_cons,List.range'_succ];rw[wpOps_cons];refine oper_wp O R E (by simpa using ho) hco h1 _ λa1 w' M1 Fz1 hd R1 E1 EV1 hl1=>?_;refine ih (k+1) U1 U2 M1 Fz1 w' env1 env2 a1 w2 (λj ao' hj=>?_) R1 E1 h2 λa2 w2' M2 Fz2 hd2 R2 E2 EV2 hl2=>?_
    ·obtain ⟨o',ho',hc'⟩:=hops (j+1) ao' (by simpa using hj);exact ⟨o',by rw[<-ho'];congr 1;omega,hc'⟩
    ·exact hQ a2 w2' M2 Fz2 (by rw[hd2,hd]) R2 E2 (EV1.trans EV2 hl1) (yAA hl1 hl2)
   ·simp at h
  ·simp at h
end
end Go.Abs
end
section
namespace Go.Abs
variable[Gl]
def za6:AOp->List Opd
 |.mov x=>[x]
 |.pick c a b=>[c,a,b]
 |.gen op _=>op.operands.toList.filterMap opd
 |.box x=>[x]
 |.alloc _=>[]
 |.build _ ps=>ps.map (·.2.2)
 |.bslice _ _ _ ps=>ps.map (·.2.2)
 |.load _ a=>[a]
 |.store _ a x=>[a,x]
 |.nilck x=>[x]
 |.isnil _ _ x=>[x]
 |.fld _ x=>[x]
 |.idx _ _ x i=>[x,i]
 |.slc _ x lo hi=>x::(lo.toList++hi.toList)
 |.len x=>[x]
 |.lenm x=>[x]
 |.mk _ _ _ l c=>[l,c]
 |.mkmap=>[]
 |.lookup _ _ m k _=>[m,k]
 |.upd _ m k x=>[m,k,x]
 |.extract x _=>[x]
 |.mkfn _ f c=>f++c
 |.part _ _ x=>[x]
 |.aidx _ _ _ x i=>[x,i]
 |.append _ _ s x=>[s,x]
 |.copy _ d s=>[d,s]
 |.del _ m k=>[m,k]
 |.slc3 _ x lo hi mx=>[x,lo,hi,mx]
 |.clr _ _ x=>[x]
 |.call f as=>f::as
theorem fillD_congr{env env':List D}:∀(ps:List (Nat×Nat×Opd))(cs:List D),(∀x∈ps.map (·.2.2),x.ev env=x.ev env')->fillD env cs ps=fillD env' cs ps:=by
 intro ps;induction ps with
 |nil=>intro cs _;rfl
 |cons p ps ih=>
  intro cs h;obtain ⟨o,n,x⟩:=p;simp only[fillD,h x (by simp)];congr 1;funext xs;split
  ·rfl
  ·exact ih _ (λy hy=>h y (by simp at hy ⊢;exact .inr hy))
theorem evBound_congr{env env':List D}(d m:Nat)(o:Option Opd)(h:∀x∈o.toList,x.ev env=x.ev env'):zaC env d m o=zaC env' d m o:=by
 cases o with
 |none=>rfl
 |some x=>simp only[zaC,h x (by simp)]
theorem genEv_congr{P:Program}{op:Op}{ty:TypeId}{env env':List D}(hsel:∀cs b,op≠.select cs b)(h:∀x∈op.operands.toList.filterMap opd,x.ev env=x.ev env'):genEv P op ty env=genEv P op ty env':=by
 have hx:∀x∈op.operands.toList,((opd x).map (Opd.ev env))=((opd x).map (Opd.ev env')):=by
  intro x hx;cases ho:opd x with
  |none=>rfl
  |some o=>simp only[Option.map_some,h o (yCq.2 ⟨x,hx,ho⟩)]
 unfold genEv;have h1:op.operands.toList.all (λx=>(((opd x).map (Opd.ev env)).bind D.val?).isSome)=op.operands.toList.all (λx=>(((opd x).map (Opd.ev env')).bind D.val?).isSome):=by
  rw[yBI,yAp,yAp];constructor
  ·intro hh x hm;rw[<-hx x hm];exact hh x hm
  ·intro hh x hm;rw[hx x hm];exact hh x hm
 have h2:∀o:Oper,o.op=op->execOp (λx=>((((opd x).map (Opd.ev env)).bind D.val?).getD undef)) o=execOp (λx=>((((opd x).map (Opd.ev env')).bind D.val?).getD undef)) o:=by intro o ho;refine execOp_congr o (by rw[ho];exact hsel) (λx hm=>?_);rw[ho] at hm;show (((opd x).map (Opd.ev env)).bind D.val?).getD undef=_;rw[hx x (by simpa using hm)]
 rw[h1,h2 _ rfl]
def notSelect:AOp->Prop
 |.gen op _=>∀cs b,op≠.select cs b
 |_=>True
theorem evOp_congr{P:Program}{orc:Orc}{ao:AOp}{env env':List D}{U:Heap}(hs:notSelect ao)(h:∀x∈za6 ao,x.ev env=x.ev env'):zaB P orc ao env U=zaB P orc ao env' U:=by
 cases ao with
 |gen op ty=>simp only[zaB,genEv_congr hs h]
 |build z ps=>simp only[zaB,fillD_congr ps z h]
 |bslice n l z ps=>simp only[zaB,fillD_congr ps _ h]
 |slc e x lo hi=>simp only[zaB,h x (by simp[za6])];have h1:∀d m,zaC env d m lo=zaC env' d m lo:=λd m=>evBound_congr d m lo (λy hy=>h y (by simp[za6];simp at hy;exact .inr (.inl hy)));have h2:∀d m,zaC env d m hi=zaC env' d m hi:=λd m=>evBound_congr d m hi (λy hy=>h y (by simp[za6];simp at hy;exact .inr (.inr hy)));simp only[h1,h2]
 |mkfn f a b=>have h1:a.map (Opd.ev env)=a.map (Opd.ev env'):=yCl (λx hx=>h x (by simp[za6,hx]));have h2:b.map (Opd.ev env)=b.map (Opd.ev env'):=yCl (λx hx=>h x (by simp[za6,hx]));simp only[zaB,h1,h2]
 |call f a=>have h1:a.map (Opd.ev env)=a.map (Opd.ev env'):=yCl (λx hx=>h x (by simp[za6,hx]));simp only[zaB,h1,h f (by simp[za6])]
 |idx e o x i=>cases o <;> simp only[zaB,h x (by simp[za6]),h i (by simp[za6])]
 |mov x=>simp only[zaB,h x (by simp[za6])]
 |pick c a b=>simp only[zaB,h c (by simp[za6]),h a (by simp[za6]),h b (by simp[za6])]
 |box x=>simp only[zaB,h x (by simp[za6])]
 |alloc z=>rfl
 |load n x=>simp only[zaB,h x (by simp[za6])]
 |store n x y=>simp only[zaB,h x (by simp[za6]),h y (by simp[za6])]
 |nilck x=>simp only[zaB,h x (by simp[za6])]
 |isnil k n x=>simp only[zaB,h x (by simp[za6])]
 |fld o x=>simp only[zaB,h x (by simp[za6])]
 |len x=>simp only[zaB,h x (by simp[za6])]
 |lenm x=>simp only[zaB,h x (by simp[za6])]
 |mk e b z x y=>simp only[zaB,h x (by simp[za6]),h y (by simp[za6])]
 |mkmap=>rfl
 |lookup k z x y o=>simp only[zaB,h x (by simp[za6]),h y (by simp[za6])]
 |upd k x y z=>simp only[zaB,h x (by simp[za6]),h y (by simp[za6]),h z (by simp[za6])]
 |extract x i=>simp only[zaB,h x (by simp[za6])]
 |part o n x=>simp only[zaB,h x (by simp[za6])]
 |aidx e l n x y=>simp only[zaB,h x (by simp[za6]),h y (by simp[za6])]
 |append e b x y=>simp only[zaB,h x (by simp[za6]),h y (by simp[za6])]
 |copy e x y=>simp only[zaB,h x (by simp[za6]),h y (by simp[za6])]
 |del k x y=>simp only[zaB,h x (by simp[za6]),h y (by simp[za6])]
 |slc3 e x y z u=>simp only[zaB,h x (by simp[za6]),h y (by simp[za6]),h z (by simp[za6]),h u (by simp[za6])]
 |clr e z x=>simp only[zaB,h x (by simp[za6])]
theorem comp_notSelect{P:Program}{op:Op}{ty:TypeId}{ao:AOp}(h:comp P op ty=some ao):notSelect ao:=by
 rcases comp_inv h with ⟨f,args,ats,of,os,rfl,_,_,rfl⟩ | ⟨_,_,h0⟩
 ·trivial
 ·cases ao with
  |gen op' ty'=>intro cs b he;subst he;simp[isSel] at h0
  |_=>trivial
theorem evOp_frame{P:Program}{orc:Orc}(O:OrcOk P orc){ao:AOp}{env:List D}{U U':Heap}{d:D}{wr:List Nat}(h:zaB P orc ao env U=some (d,U',wr)) :
  U.length<=U'.length/\∀b,b<U.length->b∉wr->U'[b]? = U[b]?:=by
 have same:U'=U->U.length<=U'.length/\∀b,b<U.length->b∉wr->U'[b]? = U[b]?:=by rintro rfl;exact ⟨yAo _,λ_ _ _=>rfl⟩
 have app:∀ob,U'=U++[ob]->U.length<=U'.length/\∀b,b<U.length->b∉wr->U'[b]? = U[b]?:=by rintro ob rfl;exact ⟨by simp,λb hb _=>yAr hb⟩
 have set:∀b ob,U'=U.set b ob->wr=[b]->U.length<=U'.length/\∀b,b<U.length->b∉wr->U'[b]? = U[b]?:=by rintro b ob rfl rfl;refine ⟨by simp,λb' _ hn=>?_⟩;rw[yAD (by simp at hn;omega)]
 cases ao with
 |call f args=>
  simp only[zaB] at h;split at h
  ·exact ⟨(O _ _ _ _ _ _ h).2.2.1,(O _ _ _ _ _ _ h).2.2.2⟩
  ·exact ⟨(O _ _ _ _ _ _ h).2.2.1,(O _ _ _ _ _ _ h).2.2.2⟩
  ·simp at h
 |mov x=>simp only[zaB,yAa,yAc] at h;exact same h.2.1.symm
 |pick c a b=>simp only[zaB,yAd,yAc] at h;obtain ⟨_,_,_,h,_⟩:=h;exact same h.symm
 |gen op ty=>simp only[zaB,yAd,yAc] at h;obtain ⟨_,_,_,h,_⟩:=h;exact same h.symm
 |box x=>simp only[zaB,yAd,yAc] at h;obtain ⟨_,_,_,h,_⟩:=h;exact app _ h.symm
 |alloc z=>simp only[zaB,yAa,yAc] at h;exact app _ h.2.1.symm
 |build z ps=>simp only[zaB,yAd,yAc] at h;obtain ⟨_,_,_,h,_⟩:=h;exact same h.symm
 |bslice n l z ps=>simp only[zaB,yAd,yAc] at h;obtain ⟨_,_,_,h,_⟩:=h;exact app _ h.symm
 |load n x=>
  simp only[zaB] at h;split at h
  ·simp only[Option.bind_eq_bind,yAe,yAa,yAc] at h;obtain ⟨_,_,_,_,_,h,_⟩:=h;exact same h.symm
  ·simp only[Option.bind_eq_bind,yAe,yAa,yAc] at h;obtain ⟨_,_,_,h,_⟩:=h;exact same h.symm
  ·simp at h
 |store n x y=>
  simp only[zaB] at h;split at h
  ·simp only[Option.bind_eq_bind,yAe] at h;obtain ⟨_,_,_,_,h⟩:=h;split at h
   ·simp only[yAa,yAc] at h;exact set _ _ h.2.1.symm h.2.2.symm
   ·simp at h
  ·simp at h
 |nilck x=>simp only[zaB] at h;split at h <;> simp only[yAa,yAc,reduceCtorEq] at h <;> exact same h.2.1.symm
 |isnil k n x=>simp only[zaB,yAd,yAc] at h;obtain ⟨_,_,_,h,_⟩:=h;exact same h.symm
 |fld o x=>simp only[zaB] at h;split at h <;> simp only[yAa,yAc,reduceCtorEq] at h <;> exact same h.2.1.symm
 |idx e o x i=>
  cases o with
  |none=>
   simp only[zaB,Option.bind_eq_bind,yAe] at h;obtain ⟨_,_,h⟩:=h;split at h
   ·simp only[yAe] at h;obtain ⟨_,_,_,_,h⟩:=h;split at h <;> simp only[yAa,yAc,reduceCtorEq] at h
    exact same h.2.1.symm
   ·simp only[yAe] at h;obtain ⟨_,_,_,_,h⟩:=h;split at h <;> simp only[yAa,yAc,reduceCtorEq] at h
    exact same h.2.1.symm
   ·simp at h
  |some len=>
   simp only[zaB,Option.bind_eq_bind,yAe] at h;obtain ⟨_,_,_,_,h⟩:=h;split at h
   ·simp only[yAa,yAc] at h;exact same h.2.1.symm
   ·simp only[yAa,yAc] at h;exact same h.2.1.symm
   ·split at h
    ·simp at h
    ·simp only[yAa,yAc] at h;exact same h.2.1.symm
   ·simp at h
 |slc e x lo hi=>
  simp only[zaB] at h;split at h
  ·simp only[Option.bind_eq_bind,yAe,yAa,yAc] at h;obtain ⟨_,_,_,_,_,h,_⟩:=h;exact same h.symm
  ·simp only[Option.bind_eq_bind,yAe] at h;obtain ⟨_,_,_,_,h⟩:=h;split at h <;> simp only[yAa,yAc,reduceCtorEq] at h
   exact same h.2.1.symm
  ·simp only[Option.bind_eq_bind,yAe] at h;obtain ⟨_,_,_,_,_,_,h⟩:=h;split at h <;> simp only[yAa,yAc,reduceCtorEq] at h
   exact same h.2.1.symm
  ·simp at h
 |len x=>simp only[zaB,yAd,yAc] at h;obtain ⟨_,_,_,h,_⟩:=h;exact same h.symm
 |lenm x=>simp only[zaB,yAd,yAc] at h;obtain ⟨_,_,_,h,_⟩:=h;exact same h.symm
 |mk e b z x y=>
  simp only[zaB,Option.bind_eq_bind,yAe] at h;obtain ⟨_,_,_,_,h⟩:=h;split at h <;> simp only[yAa,yAc,reduceCtorEq] at h
  exact app _ h.2.1.symm
 |mkmap=>simp only[zaB,yAa,yAc] at h;exact app _ h.2.1.symm
 |lookup k z x y o=>simp only[zaB,Option.bind_eq_bind,yAe,yAa,yAc] at h;obtain ⟨_,_,_,_,_,_,_,h,_⟩:=h;exact same h.symm
 |upd k x y z=>
  simp only[zaB,Option.bind_eq_bind,yAe] at h;obtain ⟨_,_,h⟩:=h;split at h
  ·split at h
   ·simp only[yAe] at h;obtain ⟨_,_,h⟩:=h;split at h <;> simp only[yAa,yAc] at h <;> exact set _ _ h.2.1.symm h.2.2.symm
   ·simp at h
  ·simp at h
 |del k x y=>
  simp only[zaB,Option.bind_eq_bind,yAe] at h;obtain ⟨_,_,h⟩:=h;split at h
  ·split at h
   ·simp only[yAe] at h;obtain ⟨_,_,h⟩:=h;split at h <;> simp only[yAa,yAc] at h <;> exact set _ _ h.2.1.symm h.2.2.symm
   ·simp at h
  ·simp at h
 |extract x i=>
  simp only[zaB] at h;split at h
  ·simp only[yAd,yAc] at h;obtain ⟨_,_,_,h,_⟩:=h;exact same h.symm
  ·simp at h
 |mkfn f a b=>simp only[zaB,yAa,yAc] at h;exact same h.2.1.symm
 |part o n x=>
  simp only[zaB] at h;split at h
  ·simp only[yAd,yAc] at h;obtain ⟨_,_,_,h,_⟩:=h;exact same h.symm
  ·simp at h
 |aidx e l n x y=>
  simp only[zaB,Option.bind_eq_bind,yAe] at h;obtain ⟨_,_,_,_,h⟩:=h;split at h
  ·simp only[yAd,yAc] at h;obtain ⟨_,_,_,h,_⟩:=h;exact same h.symm
  ·simp at h
 |append e b x y=>
  simp only[zaB,Option.bind_eq_bind,yAe] at h;obtain ⟨_,_,_,_,h⟩:=h;split at h
  ·split at h
   ·simp only[yAa,yAc] at h;exact app _ h.2.1.symm
   ·simp at h
  ·simp only[yAe] at h;obtain ⟨_,_,h⟩:=h;split at h
   ·split at h
    ·simp only[yAa,yAc] at h;exact same h.2.1.symm
    ·simp only[yAa,yAc] at h;exact set _ _ h.2.1.symm h.2.2.symm
   ·split at h
    ·split at h
     ·simp only[yAa,yAc] at h;exact same h.2.1.symm
     ·simp only[yAa,yAc] at h;exact set _ _ h.2.1.symm h.2.2.symm
    ·simp at h
  ·simp at h
 |slc3 e x y z u=>
  simp only[zaB] at h;split at h
  ·simp only[Option.bind_eq_bind,yAe] at h;obtain ⟨_,_,_,_,_,_,_,_,h⟩:=h;split at h <;> simp only[yAa,yAc,reduceCtorEq] at h
   exact same h.2.1.symm
  ·simp at h
 |clr e z x=>
  simp only[zaB] at h;split at h
  ·simp only[Option.bind_eq_bind,yAe] at h;obtain ⟨_,_,h⟩:=h;split at h <;> simp only[yAa,yAc,reduceCtorEq] at h
   exact set _ _ h.2.1.symm h.2.2.symm
  ·simp at h
 |copy e x y=>
  simp only[zaB] at h;split at h
  ·simp only[Option.bind_eq_bind,yAe] at h;obtain ⟨_,_,_,_,_,_,h⟩:=h;split at h <;> simp only[yAa,yAc,reduceCtorEq] at h
   exact set _ _ h.2.1.symm h.2.2.symm
  ·simp at h
end Go.Abs
end
section
namespace Go.Abs
variable[Gl]
structure Info where
 cat:Nat
 blk:Option Nat
 wr:List Nat
 dst:Option Nat
 rds:List Nat
 lo:Nat
 hi:Nat
 deriving Inhabited
def zb1(o:AOper):List Nat:=(za6 o.op).filterMap (λ| .t n=>some n | _=>none)++(match o.g with | some (t,_)=>[t] | none=>[])
def infoOf (o:AOper) (env:List D) (lo hi:Nat) (wr:List Nat):Info:=
  { cat := match wantE env o.g with | some true => cat o.op | _ => 0,
    blk:=match ox1 o.op env with | .ptr b _ _=>some b | _=>none,
    wr:=wr,dst:=o.dst,rds:=zb1 o,lo:=lo,hi:=hi }
def wrOk(U U':Heap)(wr:List Nat):Bool:=
 wr.all λb=>match U[b]?,U'[b]? with
  |some x,some y=>x.sz == y.sz
  |_,_=>false
def evTr(P:Program)(orc:Orc2):Nat->List AOper->List D->Heap->Option (List D×Heap×List Info)
 |_,[],env,U=>some (env,U,[])
 |n, o :: os, env, U=>
  match evOper P orc o env U with
  |some (env1, U1, w1)=>
   if n == 0 || wrOk U U1 w1 then
    match evTr P orc (n-1) os env1 U1 with
    |some (env2,U2,is)=>some (env2,U2,infoOf o env U.length U1.length w1::is)
    |none=>none
   else none
  |none=>none
def disj(dst:Option Nat)(l:List Nat):Bool:=
 match dst with
 |some t=>!l.contains t
 |none=>true
def safe(i:Info)(wr:List Nat):Bool:=
 wr.isEmpty || i.cat == 0 || i.cat == 2 || (i.cat == 1&&(match i.blk with | some b=>!wr.contains b | none=>true))
def outside(i:Info)(wr:List Nat):Bool:=wr.all λb=>b<i.lo || i.hi<=b
def apart(x y:Info):Bool:=
 disj x.dst y.rds&&disj y.dst x.rds&&(match x.dst,y.dst with | some s,some t=>s != t | _,_=>true)&&(safe x y.wr&&safe y x.wr)&&(outside x y.wr&&outside y x.wr)
def pairsOk(bef:List Nat)(is:List Info):Bool:=
 (List.range is.length).all λj=>(List.range j).all λi=>(bef.getD j 0).testBit i || apart (is.getD i default) (is.getD j default)
def tailOk(bef:List Nat)(p n m:Nat):Bool:=
 (List.range m).all λj=>j<n || (List.range j).all λi=>Nat.blt i p || (bef.getD j 0).testBit i
def isMv(o:Oper):Bool:=
 o.guard.isNone&&(match o.op with
  |.move _ | .assign _=>true
  |_=>false)
def zc6(n:Nat):Nat->Array Bool
 |0=>Array.replicate n false
 |i+1=>(zc6 n i).setIfInBounds i true
def leadOk(ops:Array Oper)(i:Nat):Bool:=
 ((ops[i]?).map isMv).getD false&&Region.free .any ops (zc6 ops.size i) i&&(Region.ready .any ops (zc6 ops.size i)).contains i
def leads(ops:Array Oper):Nat->Nat->Nat
 |0,_=>0
 |k+1,i=>if leadOk ops i then leads ops k (i+1)+1 else 0
def lead(ops:Array Oper):Nat:=if Region.noSelect ops then leads ops ops.size 0 else 0
inductive ACode where
 |skip
 |reg (ops:List AOper)
 |drw (ops:List AOper) (bef:List Nat) (n p:Nat)
 |seq (a b:ACode)
 |cond (c:Opd) (thn els:ACode)
 |block (id:Nat) (body:ACode)
 |loop (body:ACode)
 |exit (id:Nat)
 |ret
 |stuck
 |lbl (l:Nat)
 |scp (l:Nat) (a r:ACode)
 deriving Inhabited
def lblA:ACode->Option Nat
 |.seq a b=>match lblA a with | some l=>some l | none=>lblA b
 |.lbl l=>some l
 |_=>none
def flA(l:Nat):ACode->Option ACode
 |.seq a b=>match flA l a with | some r=>some (.seq r b) | none=>flA l b
 |.lbl l'=>if (l' == l)=true then some .skip else none
 |_=>none
def scpOf(a:ACode):ACode:=match lblA a with
 |some l=>match flA l a with | some r=>.scp l a r | none=>.stuck
 |none=>.stuck
def befOf(acc:List Nat)(o:Oper):Nat:=
 o.after.toList.foldl (λs e=>if Region.binds .any e then s ||| 2 ^ e.on ||| acc.getD e.on 0 else s) 0
def befs(l:List Oper):List Nat:=l.foldl (λacc o=>acc++[befOf acc o]) []
def firstAppend:List AOper->Nat
 |[]=>0
 |o :: os => match o.op with
  |.append ..=>0
  |_=>firstAppend os+1
def backward(l:List Oper):Bool:=(List.range l.length).all λj=>((l.getD j default).after.toList.all λe=>!Region.binds .any e || e.on<j)
def zaL(P:Program):Code->Option ACode
 |.skip=>some .skip
 |.region _ ops draw=>
  match ops.toList.mapM (compOper P ops) with
  |some os=>if draw then (if backward ops.toList then some (.drw os (befs ops.toList) (firstAppend os) (lead ops)) else some .stuck) else some (.reg os)
  |none=>some .stuck
 |.seq a b => match zaL P a, zaL P b with
  |some x,some y=>some (.seq x y)
  |_,_=>none
 |.cond c a b => match opd c, zaL P a, zaL P b with
  |some o,some x,some y=>some (.cond o x y)
  |_,_,_=>some .stuck
 |.block id b=>(zaL P b).map (.block (2 * id))
 |.loop b=>(zaL P b).map .loop
 |.exit id=>some (.exit (2 * id))
 |.goto l=>some (.exit (2 * l+1))
 |.label l=>some (.lbl l)
 |.scope b=>(zaL P b).map scpOf
 |.ret=>some .ret
 |_=>some .stuck
structure AFunc where
 nparams:Nat
 ntmps:Nat
 results:List (Nat×Option (Option Nat))
 body:ACode
 frz:Bool
 deriving Inhabited
def compR(P:Program):ResultVar->Option (Nat×Option (Option Nat))
 |.tmp t=>some (t,none)
 |.cell a t=>(aggN P t).map λn=>(a,some n)
def compF(P:Program)(f:Func)(frz:Bool):Option AFunc:=
 match f.body with
 |some b=>
  match zaL P b,f.results.toList.mapM (compR P) with
  |some c,some rs=>some ⟨f.params.size+f.nfree,f.ntmps,rs,c,frz⟩
  |_,_=>none
 |none=>none
inductive zcX where
 |normal
 |exit (id:Nat)
 |ret
 deriving DecidableEq,Inhabited
def lastCall(os:List AOper):Nat:=os.length-1-(os.reverse.takeWhile λo=>match o.op with | .call ..=>false | _=>true).length
def evDrw(P:Program)(orc:Orc2)(os:List AOper)(bef:List Nat)(p n:Nat)(env:List D)(U:Heap):Option (List D×Heap×List Nat):=
 match evTr P orc n os env U with
 |some (env',U',is)=>if pairsOk bef is&&tailOk bef p n os.length&&Nat.ble p n then some (env',U',is.flatMap (·.wr)) else none
 |none=>none
def evC(P:Program)(orc:Orc2):Nat->ACode->List D->Heap->List Nat->Option (zcX×List D×Heap×List Nat)
 |0,_,_,_,_=>none
 |_+1,.skip,env,U,wr=>some (.normal,env,U,wr)
 |_+1,.reg os,env,U,wr=>(evOps P orc os env U).map λr=>(.normal,r.1,r.2.1,r.2.2++wr)
 |_ + 1, .drw os bef n p, env, U, wr=>
  match evDrw P orc os bef p n env U with
  |some (env',U',w)=>some (.normal,env',U',w++wr)
  |none=>
   match evDrw P orc os bef p (lastCall os) env U with
   |some (env',U',w)=>some (.normal,env',U',w++wr)
   |none=>
    match evDrw P orc os bef p os.length env U with
    |some (env',U',w)=>some (.normal,env',U',w++wr)
    |none=>none
 |k + 1, .seq a b, env, U, wr=>
  match evC P orc k a env U wr with
  |some (.normal,env1,U1,wr1)=>evC P orc k b env1 U1 wr1
  |r=>r
 |k + 1, .cond c a b, env, U, wr=>
  match litBool (c.ev env) with
  |some true=>evC P orc k a env U wr
  |some false=>evC P orc k b env U wr
  |none=>none
 |k + 1, .block id b, env, U, wr=>
  match evC P orc k b env U wr with
  |some (.exit i,env1,U1,wr1)=>if i=id then some (.normal,env1,U1,wr1) else some (.exit i,env1,U1,wr1)
  |r=>r
 |k + 1, .loop b, env, U, wr=>
  match evC P orc k b env U wr with
  |some (.normal,env1,U1,wr1)=>evC P orc k (.loop b) env1 U1 wr1
  |r=>r
 |_+1,.exit id,env,U,wr=>some (.exit id,env,U,wr)
 |_+1,.ret,env,U,wr=>some (.ret,env,U,wr)
 |_+1,.stuck,_,_,_=>none
 |_+1,.lbl _,_,_,_=>none
 |_+1,.scp _ _ _,_,_,_=>none
theorem zc0(a:ACode):(∃l r,flA l a=some r/\scpOf a=.scp l a r)∨scpOf a=.stuck:=by
 unfold scpOf;split
 ·rename_i l _;split
  ·rename_i r hr;exact .inl ⟨l,r,hr,rfl⟩
  ·exact .inr rfl
 ·exact .inr rfl
def chunks(n:Nat):Nat->List C->List (List C)
 |0,_=>[]
 |k+1,l=>l.take n::chunks n k (l.drop n)
def frzC(U:Heap)(n:Nat):Nat->D->Option C
 |0,_=>none
 |k + 1, d=>
  match d with
  |.c x=>some x
  |.ptr b off sz=>
   if n<=b then
    match zci U b sz with
    |some cs=>(cs.mapM (frzC U n k)).map λl=>.fptr l off
    |none=>none
   else none
  |.sl b off len esz sz=>
   if n<=b/\0<esz/\off+len * esz<=sz then
    match zci U b sz with
    |some cs=>(((cs.drop off).take (len * esz)).mapM (frzC U n k)).map λl=>.frz (Nat.blt 0 len) (chunks esz len l)
    |none=>none
   else none
  |.fn f first cap=>
   match first.mapM (frzC U n k),cap.mapM (frzC U n k) with
   |some a,some b=>some (.fn f a b)
   |_,_=>none
  |.mp b=>
   if n<=b then
    match U[b]? with
    |some (.map es _)=>(es.mapM λe=>(frzC U n k e.2.1).map λx=>(e.1,x)).map .fmp
    |_=>none
   else none
  |_=>none
def frzD1(U:Heap)(n k:Nat):D->Option D
 |.agg cs=>(cs.mapM (frzC U n k)).map λl=>.agg (l.map .c)
 |d=>(frzC U n k d).map .c
def frzD(U:Heap)(n k:Nat):D->Option D
 |.tup ds=>(ds.mapM (frzD1 U n k)).map .tup
 |d=>frzD1 U n k d
def zcq(env:List D)(U:Heap):Nat×Option (Option Nat)->Option D
 |(t,none)=>env[t]?
 |(t, some n)=>
  match env[t]? with
  |some (.ptr b off sz)=>(zci U b sz).bind λcs=>zaT n cs off
  |_=>none
def one:List D->D
 |[d]=>d
 |ds=>.tup ds
def finish(f:AFunc)(U0:Heap)(env:List D)(U:Heap)(wr:List Nat):Option (D×Heap×List Nat):=
 match f.results.mapM (zcq env U) with
 |some ds=>
  let wr':=wr.filter (·<U0.length)
  if f.frz&&wr'.isEmpty then
   match frzD U U0.length 100 (one ds) with
   |some r=>some (r,U0,[])
   |none=>some (one ds,U,wr')
  else some (one ds,U,wr')
 |none=>none
def evF1(P:Program)(orc:Orc)(k:Nat)(f:AFunc)(ds:List D)(U:Heap):Option (D×Heap×List Nat):=
 if ds.length=f.nparams then
  match evC P (λ_=>orc) k f.body (ds++List.replicate (f.ntmps-ds.length) (.tup [])) U [] with
  |some (.normal,env,U',wr)=>finish f U env U' wr
  |some (.ret,env,U',wr)=>finish f U env U' wr
  |_=>none
 else none
def evF(P:Program)(tbl:FuncId->Option AFunc)(prim:Orc)(k:Nat):Nat->Orc
 |0=>λ_ _ _=>none
 |n + 1 => λg ds U=>
  match prim g ds U with
  |some r=>some r
  |none=>
   match tbl g with
   |some f=>evF1 P (evF P tbl prim k n) k f ds U
   |none=>none
end Go.Abs
end
section
namespace Go.Abs
variable[Gl]
structure Stp (M:Nat->Option Nat) (Fz:Nat->Prop) (w:World) (M':Nat->Option Nat) (Fz':Nat->Prop) (w':World):Prop where
 size:w.heap.size<=w'.heap.size
 frame:∀c:Nat,c<w.heap.size->(∀b,M b≠some c)->w'.heap[c]? = w.heap[c]?
 ext:∀b c,M b=some c->M' b=some c
 ran:∀b c,M' b=some c->M b=some c∨w.heap.size<=c
 fz:∀c:Nat,Fz c->Fz' c/\w'.heap[c]? = w.heap[c]?
 fz':∀c,Fz' c->Fz c∨w.heap.size<=c
 shp:∀(c:Nat) arr T fr,w.heap[c]? = some (.cells arr T fr)->∃arr',w'.heap[c]? = some (.cells arr' T fr)/\arr'.size=arr.size
 out:w'.os=w.os/\w'.tape=w.tape/\w'.output=w.output
section
variable{U U':Heap}{M M' M'':Nat->Option Nat}{Fz Fz' Fz'':Nat->Prop}{w w' w'':World}
theorem Stp.refl:Stp M Fz w M Fz w:={
 size:=yAo _
 frame:=λ_ _ _=>rfl
 ext:=λ_ _ h=>h
 ran:=λ_ _ h=>.inl h
 fz:=λ_ h=>⟨h,rfl⟩
 fz':=λ_ h=>.inl h
 shp:=λc arr T fr h=>⟨arr,h,rfl⟩
 out:=⟨rfl,rfl,rfl⟩ }
theorem Stp.trans(A:Stp M Fz w M' Fz' w')(B:Stp M' Fz' w' M'' Fz'' w''):Stp M Fz w M'' Fz'' w'':={
 size:=yAA A.size B.size
 frame:=λc hc hM=>by
  rw[<-A.frame c hc hM];refine B.frame c (yAH hc A.size) (λb hb=>?_);rcases A.ran b c hb with h0 | h0
  ·exact hM b h0
  ·omega
 ext:=λb c h=>B.ext b c (A.ext b c h)
 ran:=λb c h=>by
  rcases B.ran b c h with h0 | h0
  ·exact A.ran b c h0
  ·exact .inr (yAA A.size h0)
 fz:=λc h=>⟨(B.fz c (A.fz c h).1).1,by rw[(B.fz c (A.fz c h).1).2,(A.fz c h).2]⟩
 fz':=λc h=>by
  rcases B.fz' c h with h0 | h0
  ·exact A.fz' c h0
  ·exact .inr (yAA A.size h0)
 shp:=λc arr T fr h=>by obtain ⟨a1,h1,e1⟩:=A.shp c arr T fr h;obtain ⟨a2,h2,e2⟩:=B.shp c a1 T fr h1;exact ⟨a2,h2,by rw[e2,e1]⟩
 out:=⟨B.out.1.trans A.out.1,B.out.2.1.trans A.out.2.1,B.out.2.2.trans A.out.2.2⟩ }
def SzLe(U U':Heap):Prop:=∀(b:Nat) ob,U[b]? = some ob->∃ob',U'[b]? = some ob'/\ob'.sz=ob.sz
theorem SzLe.refl:SzLe U U:=λ_ ob h=>⟨ob,h,rfl⟩
theorem V.sub(hσ:SzLe U U')(hext:∀b c,M b=some c->M' b=some c)(hfz:∀c:Nat,Fz c->Fz' c/\w'.heap[c]? = w.heap[c]?)
  (hshp:∀(c:Nat) arr T fr,w.heap[c]? = some (.cells arr T fr)->∃arr',w'.heap[c]? = some (.cells arr' T fr)/\arr'.size=arr.size) {d:D} {v:Value} (h:V U M Fz w d v):V U' M' Fz' w' d v:=by
 induction h with
 |c h=>exact .c (h.mono hfz)
 |any v=>exact .any v
 |ptr a ob h hle hv=>obtain ⟨ob',h',hs⟩:=hσ _ _ h;refine .ptr a ob' h' (by omega) (λhe=>?_);obtain ⟨c,hM,ha⟩:=hv (by omega);exact ⟨c,hext _ _ hM,ha⟩
 |sl a n cap hnn ob h hle hv=>
  obtain ⟨ob',h',hs⟩:=hσ _ _ h;refine .sl a n cap hnn ob' h' (by omega) (λhe=>?_);rcases hv (by omega) with h1 | ⟨c,o,arr,T,hM,ha,hn,hl,ho,hh,hb,hz⟩
  ·exact .inl h1
  ·obtain ⟨arr',hh',hsz⟩:=hshp _ _ _ _ hh;exact .inr ⟨c,o,arr',T,hext _ _ hM,ha,hn,hl,ho,hh',by omega,hz⟩
 |mp c ob h hv=>obtain ⟨ob',h',hs⟩:=hσ _ _ h;exact .mp c ob' h' (λhe=>hext _ _ (hv (by omega)))
 |fn vs ws h1 h2 hv hw ih1 ih2=>exact .fn vs ws h1 h2 ih1 ih2
 |agg vs h1 hv ih=>exact .agg vs h1 ih
 |tup vs h1 hv ih=>exact .tup vs h1 ih
theorem V.ext(hσ:SzLe U U')(S:Stp M Fz w M' Fz' w'){d:D}{v:Value}(h:V U M Fz w d v):V U' M' Fz' w' d v:=h.sub hσ S.ext S.fz S.shp
theorem ObRel.sub(hσ:SzLe U U')(hext:∀b c,M b=some c->M' b=some c){ob:Ob}{o:Obj}(h:ObRel U M Fz w ob o):ObRel U' M' Fz w ob o:=by
 have e:∀{d v},V U M Fz w d v->V U' M' Fz w d v:=λh=>h.sub hσ hext (λc h=>⟨h,rfl⟩) (λc arr T fr h=>⟨arr,h,rfl⟩);cases ob with
 |cells cs=>obtain ⟨arr,T,ho,hl,hv⟩:=h;exact ⟨arr,T,ho,hl,λi d v h1 h2=>⟨e (hv i d v h1 h2).1,(hv i d v h1 h2).2⟩⟩
 |map es clock=>obtain ⟨arr,ho,hl,hv⟩:=h;exact ⟨arr,ho,hl,λi k d n e' h1 h2=>let ⟨a,b,c⟩:=hv i k d n e' h1 h2;⟨a,b,e c⟩⟩
 |gone n=>exact h.elim
theorem ObRel.ext(hσ:SzLe U U')(S:Stp M Fz w M' Fz' w'){ob:Ob}{o:Obj}(h:ObRel U M Fz w ob o):ObRel U' M' Fz' w' ob o:=by
 cases ob with
 |cells cs=>obtain ⟨arr,T,ho,hl,hv⟩:=h;exact ⟨arr,T,ho,hl,λi d v h1 h2=>⟨(hv i d v h1 h2).1.ext hσ S,(hv i d v h1 h2).2⟩⟩
 |map es clock=>obtain ⟨arr,ho,hl,hv⟩:=h;exact ⟨arr,ho,hl,λi k d n e h1 h2=>let ⟨a,b,c⟩:=hv i k d n e h1 h2;⟨a,b,c.ext hσ S⟩⟩
 |gone n=>exact h.elim
theorem V.down(hσ:SzLe U U'){d:D}{v:Value}(h:V U' M' Fz' w' d v):∀{v0:Value},V U M Fz w d v0->V U M' Fz' w' d v:=by
 induction h with
 |c h=>intro _ _;exact .c h
 |any v=>intro _ _;exact .any v
 |ptr a ob h hle hv=>
  intro v0 h0;cases h0 with
  |ptr a0 ob0 hb0 _ _=>obtain ⟨ob',h',hs⟩:=hσ _ _ hb0;rw[h] at h';simp only[yAa] at h';subst h';exact .ptr a ob0 hb0 (by omega) (λhe=>hv (by omega))
 |sl a n cap hnn ob h hle hv=>
  intro v0 h0;cases h0 with
  |sl a0 n0 cap0 _ ob0 hb0 _ _=>obtain ⟨ob',h',hs⟩:=hσ _ _ hb0;rw[h] at h';simp only[yAa] at h';subst h';exact .sl a n cap hnn ob0 hb0 (by omega) (λhe=>hv (by omega))
 |mp c ob h hv=>
  intro v0 h0;cases h0 with
  |mp c0 ob0 hb0 _=>obtain ⟨ob',h',hs⟩:=hσ _ _ hb0;rw[h] at h';simp only[yAa] at h';subst h';exact .mp c ob0 hb0 (λhe=>hv (by omega))
 |fn vs ws h1 h2 hv hw ih1 ih2=>
  intro v0 h0;cases h0 with
  |fn vs0 ws0 k1 k2 hv0 hw0=>
   refine .fn vs ws h1 h2 (λi d v a b=>?_) (λi d v a b=>?_)
   ·have hi:=(yAb.1 a).1;exact ih1 i d v a b (hv0 i d _ a (yAn (by omega)))
   ·have hi:=(yAb.1 a).1;exact ih2 i d v a b (hw0 i d _ a (yAn (by omega)))
 |agg vs h1 hv ih=>
  intro v0 h0;cases h0 with
  |agg vs0 k1 hv0=>refine .agg vs h1 (λi d v a b=>?_);have hi:=(yAb.1 a).1;exact ih i d v a b (hv0 i d _ a (yAn (by omega)))
 |tup vs h1 hv ih=>
  intro v0 h0;cases h0 with
  |tup vs0 k1 hv0=>refine .tup vs h1 (λi d v a b=>?_);have hi:=(yAb.1 a).1;exact ih i d v a b (hv0 i d _ a (yAn (by omega)))
theorem ObRel.down(hσ:SzLe U U'){ob:Ob}{o o0:Obj}(h:ObRel U' M' Fz' w' ob o)(h0:ObRel U M Fz w ob o0):ObRel U M' Fz' w' ob o:=by
 cases ob with
 |cells cs=>obtain ⟨arr,T,ho,hl,hv⟩:=h;obtain ⟨arr0,T0,ho0,hl0,hv0⟩:=h0;refine ⟨arr,T,ho,hl,λi d v h1 h2=>⟨?_,(hv i d v h1 h2).2⟩⟩;have hi:=(yAb.1 h1).1;exact (hv i d v h1 h2).1.down hσ (hv0 i d _ h1 (yAn (by omega))).1
 |map es clock=>obtain ⟨arr,ho,hl,hv⟩:=h;obtain ⟨arr0,ho0,hl0,hv0⟩:=h0;refine ⟨arr,ho,hl,λi k d n e h1 h2=>?_⟩;have hi:=(yAb.1 h1).1;obtain ⟨a,b,c⟩:=hv i k d n e h1 h2;exact ⟨a,b,c.down hσ (hv0 i k d n _ h1 (yAn (by omega))).2.2⟩
 |gone n=>exact h.elim
def cutM(M:Nat->Option Nat)(n:Nat):Nat->Option Nat:=λb=>if b<n then M b else none
theorem V.cut{d:D}{v:Value}(h:V U M Fz w d v):V U (cutM M U.length) Fz w d v:=by
 induction h with
 |c h=>exact .c h
 |any v=>exact .any v
 |ptr a ob h hle hv=>refine .ptr a ob h hle (λhe=>?_);obtain ⟨c,hM,ha⟩:=hv he;exact ⟨c,by simp only[cutM];rw[if_pos (yAb.1 h).1];exact hM,ha⟩
 |sl a n cap hnn ob h hle hv=>
  refine .sl a n cap hnn ob h hle (λhe=>?_);rcases hv he with h1 | ⟨c,o,arr,T,hM,rest⟩
  ·exact .inl h1
  ·exact .inr ⟨c,o,arr,T,by simp only[cutM];rw[if_pos (yAb.1 h).1];exact hM,rest⟩
 |mp c ob h hv=>exact .mp c ob h (λhe=>by simp only[cutM];rw[if_pos (yAb.1 h).1];exact hv he)
 |fn vs ws h1 h2 hv hw ih1 ih2=>exact .fn vs ws h1 h2 ih1 ih2
 |agg vs h1 hv ih=>exact .agg vs h1 ih
 |tup vs h1 hv ih=>exact .tup vs h1 ih
theorem ObRel.cut{ob:Ob}{o:Obj}(h:ObRel U M Fz w ob o):ObRel U (cutM M U.length) Fz w ob o:=by
 cases ob with
 |cells cs=>obtain ⟨arr,T,ho,hl,hv⟩:=h;exact ⟨arr,T,ho,hl,λi d v h1 h2=>⟨(hv i d v h1 h2).1.cut,(hv i d v h1 h2).2⟩⟩
 |map es clock=>obtain ⟨arr,ho,hl,hv⟩:=h;exact ⟨arr,ho,hl,λi k d n e h1 h2=>let ⟨a,b,c⟩:=hv i k d n e h1 h2;⟨a,b,c.cut⟩⟩
 |gone n=>exact h.elim
end
inductive Bef (ops:Array Oper):Nat->Nat->Prop where
 |one {i j:Nat} {o:Oper} {e:Edge} (ho:ops[j]? = some o) (he:e∈o.after) (hb:Region.binds .any e=true) (hi:e.on=i):Bef ops i j
 |more {i j k:Nat} {o:Oper} {e:Edge} (ho:ops[j]? = some o) (he:e∈o.after) (hb:Region.binds .any e=true) (hk:e.on=k) (h:Bef ops i k):Bef ops i j
def Closed(ops:Array Oper)(S:Nat->Prop):Prop:=∀(j:Nat) o e,S j->ops[j]? = some o->e∈o.after->Region.binds .any e=true->S e.on
theorem Bef.in{ops:Array Oper}{S:Nat->Prop}(hC:Closed ops S){i j:Nat}(h:Bef ops i j)(hj:S j):S i:=by
 induction h with
 |one ho he hb hi=>exact hi▸hC _ _ _ hj ho he hb
 |more ho he hb hk h ih=>exact ih (hk▸hC _ _ _ hj ho he hb)
theorem Bef.ready{ops:Array Oper}{S:Nat->Prop}(hC:Closed ops S){i j:Nat}(h:Bef ops i j)(hj:∀o e,ops[j]? = some o->e∈o.after->Region.binds .any e=true->S e.on):S i:=by
 cases h with
 |one ho he hb hi=>exact hi▸hj _ _ ho he hb
 |more ho he hb hk h=>exact h.in hC (hk▸hj _ _ ho he hb)
theorem befOf_ok{ops:Array Oper}{j:Nat}{o:Oper}(ho:ops[j]? = some o){acc:List Nat}(hacc:∀k i,(acc.getD k 0).testBit i=true->Bef ops i k){i:Nat}(h:(befOf acc o).testBit i=true):Bef ops i j:=by
 unfold befOf at h;have key:∀(l:List Edge)(s:Nat),(∀e∈l,e∈o.after)->(s.testBit i=true->Bef ops i j) ->
   (l.foldl (λs e=>if Region.binds .any e then s ||| 2 ^ e.on ||| acc.getD e.on 0 else s) s).testBit i=true->Bef ops i j:=by
  intro l;induction l with
  |nil=>intro s _ hs h;exact hs h
  |cons e l ih=>
   intro s hl hs h;simp only[List.foldl_cons] at h;refine ih _ (λe' he'=>hl e' (by simp[he'])) ?_ h;intro hb;split at hb
   ·rename_i hbind;simp only[Nat.testBit_or,yAt,Nat.testBit_two_pow,yAf] at hb;rcases hb with (hb | hb) | hb
    ·exact hs hb
    ·exact .one ho (hl e (by simp)) hbind hb
    ·exact .more ho (hl e (by simp)) hbind rfl (hacc _ _ hb)
   ·exact hs hb
 exact key _ 0 (λe he=>by simpa using he) (by simp) h
theorem befs_ok{ops:Array Oper}{i j:Nat}(h:((befs ops.toList).getD j 0).testBit i=true):Bef ops i j:=by
 have key:∀(l pre:List Oper)(acc:List Nat),ops.toList=pre++l->acc.length=pre.length->(∀k i,(acc.getD k 0).testBit i=true->Bef ops i k) ->
   ∀k i,((l.foldl (λacc o=>acc++[befOf acc o]) acc).getD k 0).testBit i=true->Bef ops i k:=by
  intro l;induction l with
  |nil=>intro pre acc _ _ hacc k i h;exact hacc k i h
  |cons o l ih=>
   intro pre acc hpre hlen hacc k i h;simp only[List.foldl_cons] at h;refine ih (pre++[o]) (acc++[befOf acc o]) (by simp[hpre]) (by simp[hlen]) ?_ k i h;intro k i hb;rw[yAL,yBb] at hb;split at hb
   ·exact hacc k i (by rw[yAL];exact hb)
   ·rename_i hk;by_cases he:k=acc.length
    ·subst he;simp at hb;refine befOf_ok ?_ hacc hb;rw[<-yA5,hpre,hlen,yA0 (yAo _)];simp
    ·rw[yAG (by simp;omega)] at hb;simp at hb
 exact key ops.toList [] [] rfl rfl (by simp) j i h
end Go.Abs
end
section
namespace Go.Abs
variable[Gl]
structure Tr (P:Program) (orc:Orc2) (ops:Array Oper) (os:List AOper) (p0 n0:Nat) (env:Nat->List D) (sg:Nat->Heap) (wrs:Nat->List Nat):Prop where
 len:os.length=ops.size
 comp:∀(j:Nat) ao,os[j]? = some ao->∃o,ops[j]? = some o/\compOper P ops o=some ao
 step:∀(i:Nat) ao,os[i]? = some ao->evOper P orc ao (env i) (sg i)=some (env (i+1),sg (i+1),wrs i)
 wrk:∀i,i<n0->wrOk (sg i) (sg (i+1)) (wrs i)=true
 le:n0<=os.length
 pair:∀(i j:Nat) x y,i<j->os[i]? = some x->os[j]? = some y->Bef ops i j∨apart (infoOf x (env i) (sg i).length (sg (i+1)).length (wrs i)) (infoOf y (env j) (sg j).length (sg (j+1)).length (wrs j))=true
 lead:∀i,i<p0->sg (i+1)=sg i/\wrs i=[]
 ple:p0<=n0
section
variable{P:Program}{orc:Orc2}{ops:Array Oper}{os:List AOper}{p0 n0:Nat}{env:Nat->List D}{sg:Nat->Heap}{wrs:Nat->List Nat}
theorem evOper_frame(O:zbp P orc){ao:AOper}{e e':List D}{U U':Heap}{wr:List Nat}(h:evOper P orc ao e U=some (e',U',wr)) :
  U.length<=U'.length/\(∀b,b<U.length->b∉wr->U'[b]? = U[b]?)/\∃d,e'=putE e ao.dst d:=by
 unfold evOper at h;split at h
 ·simp only[yAd] at h;obtain ⟨⟨d,U1,wr1⟩,hev,h⟩:=h;simp only[yAc] at h;obtain ⟨rfl,rfl,rfl⟩:=h;obtain ⟨h1,h2⟩:=evOp_frame (O _) hev;exact ⟨h1,h2,d,rfl⟩
 ·simp only[yAa,yAc] at h;obtain ⟨rfl,rfl,rfl⟩:=h;exact ⟨yAo _,λ_ _ _=>rfl,_,rfl⟩
 ·simp at h
theorem Tr.at(T:Tr P orc ops os p0 n0 env sg wrs){i:Nat}(h:i<os.length):∃ao,os[i]? = some ao:=⟨_,yAg h⟩
theorem Tr.frame(T:Tr P orc ops os p0 n0 env sg wrs)(O:zbp P orc){i:Nat}(h:i<os.length) :
  (sg i).length<=(sg (i+1)).length/\∀b,b<(sg i).length->b∉wrs i->(sg (i+1))[b]? = (sg i)[b]?:=by
 obtain ⟨ao,hao⟩:=T.at h;obtain ⟨h1,h2,_⟩:=evOper_frame O (T.step i ao hao);exact ⟨h1,h2⟩
theorem Tr.sz1(T:Tr P orc ops os p0 n0 env sg wrs)(O:zbp P orc){i:Nat}(h:i<n0):SzLe (sg i) (sg (i+1)):=by
 intro b ob hb;have hlt:=(yAb.1 hb).1;by_cases hw:b∈wrs i
 ·have:=yAp.1 (T.wrk i h) b hw;rw[hb] at this;split at this
  ·rename_i x y h1 h2;simp only[yAa] at h1;subst h1;exact ⟨y,h2,(by simpa using this:ob.sz=y.sz).symm⟩
  ·simp at this
 ·exact ⟨ob,by rw[(T.frame O (yAH h T.le)).2 b hlt hw];exact hb,rfl⟩
theorem Tr.sz (T:Tr P orc ops os p0 n0 env sg wrs) (O:zbp P orc) {m m':Nat} (h:m≤m') (h':m'≤n0):SzLe (sg m) (sg m'):=by
  induction m' with
  | zero => obtain rfl : m = 0 := by omega
            exact SzLe.refl
  | succ k ih =>
    by_cases e:m=k+1
    · subst e; exact SzLe.refl
    · intro b ob hb
      obtain ⟨o1,h1,s1⟩:=ih (by omega) (by omega) b ob hb
      obtain ⟨o2,h2,s2⟩:=T.sz1 O (by omega) b o1 h1
      exact ⟨o2,h2,by omega⟩
theorem Tr.len_le (T:Tr P orc ops os p0 n0 env sg wrs) (O:zbp P orc) {m m':Nat} (h:m≤m') (h':m'≤os.length):(sg m).length≤(sg m').length:=by
  induction m' with
  | zero => obtain rfl : m = 0 := by omega
            exact yAo _
  | succ k ih =>
    by_cases e:m=k+1
    · subst e; exact yAo _
    · exact yAA (ih (by omega) (by omega)) (T.frame O (by omega)).1
theorem Tr.stab (T:Tr P orc ops os p0 n0 env sg wrs) (O:zbp P orc) {m m' b:Nat} (h:m≤m') (h':m'≤os.length) (hb:b<(sg m).length) (hn:∀i,m≤i→i<m'→b∉wrs i) :
    (sg m')[b]? = (sg m)[b]?:=by
  induction m' with
  | zero => obtain rfl : m = 0 := by omega
            rfl
  | succ k ih =>
    by_cases e:m=k+1
    · subst e; rfl
    · have h1:=ih (by omega) (by omega) (fun i hi hk=>hn i hi (by omega))
      rw [←h1]
      exact (T.frame O (by omega)).2 b (yAH hb (T.len_le O (by omega) (by omega))) (hn k (by omega) (by omega))
theorem Tr.envlen(T:Tr P orc ops os p0 n0 env sg wrs)(O:zbp P orc){m:Nat}(h:m<=os.length):(env m).length=(env 0).length:=by
 induction m with
 |zero=>rfl
 |succ k ih=>obtain ⟨ao,hao⟩:=T.at (i:=k) (by omega);obtain ⟨_,_,d,hd⟩:=evOper_frame O (T.step k ao hao);rw[hd,<-ih (by omega)];cases ao.dst <;> simp[putE]
theorem Tr.envstab (T:Tr P orc ops os p0 n0 env sg wrs) (O:zbp P orc) {m m' t:Nat} (h:m≤m') (h':m'≤os.length) (hn:∀i ao,m≤i→i<m'→os[i]? = some ao→ao.dst≠some t) :
    (env m')[t]? = (env m)[t]?:=by
  induction m' with
  | zero => obtain rfl : m = 0 := by omega
            rfl
  | succ k ih =>
    by_cases e:m=k+1
    · subst e; rfl
    · rw [←ih (by omega) (by omega) (fun i ao hi hk=>hn i ao hi (by omega))]
      obtain ⟨ao,hao⟩:=T.at (i:=k) (by omega)
      obtain ⟨_,_,d,hd⟩:=evOper_frame O (T.step k ao hao)
      rw [hd]
      have:=hn k ao (by omega) (by omega) hao
      cases hdst:ao.dst with
      | none=>rfl
      | some s =>
        simp only [putE]
        rw [yAD (fun he=>this (by rw [hdst,he]))]
structure Inv (os:List AOper) (n0:Nat) (env:Nat->List D) (sg:Nat->Heap) (wrs:Nat->List Nat) (M0:Nat->Option Nat) (Fz0:Nat->Prop) (w0:World) (dfr:List Deferred)
  (S:Nat->Prop) (M:Nat->Option Nat) (Fz:Nat->Prop) (w:World) (a:Act):Prop where
 tsz:a.tmps.size=(env 0).length
 dfr:a.defers=dfr
 tmp:∀(t m:Nat),m<=n0->(∀i o,i<n0->os[i]? = some o->o.dst=some t->(i<m↔S i))->∀d v,(env m)[t]? = some d->a.tmps[t]? = some v->V (sg m) M Fz w d v
 own:∀b c,M b=some c->¬Fz c/\c<w.heap.size/\((b<(sg 0).length/\M0 b=some c)∨∃j,j<n0/\S j/\(sg j).length<=b/\b<(sg (j+1)).length)
 blk:∀b c,M b=some c->∀m ob,m<=n0->(sg m)[b]? = some ob->(∀i,i<n0->b∈wrs i->(i<m↔S i))->∃o,w.heap[c]? = some o/\ObRel (sg m) M Fz w ob o
 inj:∀b b' c,M b=some c->M b'=some c->b=b'
 fz:∀c,Fz c->c<w.heap.size
 stp:Stp M0 Fz0 w0 M Fz w
 gl0:Gl.ok Fz0 w0
theorem Inv.start{U:Heap}{M:Nat->Option Nat}{Fz:Nat->Prop}{w:World}{a:Act}(R:Rel U M Fz w)(hσ:sg 0=U)(E:zas U M Fz w (env p0) a.tmps){S:Nat->Prop}(hS:∀i,i<os.length->(S i↔i<p0))
  (T:Tr P orc ops os p0 n0 env sg wrs) (O:zbp P orc):Inv os n0 env sg wrs M Fz w a.defers S M Fz w a:={
 tsz:=by rw[E.1,T.envlen O (yAA T.ple T.le)]
 dfr:=rfl
 tmp:=λt m hm hc d v h1 h2=>by
  have hle:=T.le;have hple:=T.ple;have he:(env m)[t]? = (env p0)[t]?:=by
   rcases Nat.le_total m p0 with h | h
   ·exact (T.envstab O (m:=m) (m':=p0) (t:=t) h (by omega) (λi ao hi hip hao hd=>by have:=(hc i ao (by omega) hao hd).2 ((hS i (by omega)).2 hip);omega)).symm
   ·exact T.envstab O (m:=p0) (m':=m) (t:=t) h (by omega) (λi ao hi him hao hd=>by have:=(hS i (by omega)).1 ((hc i ao (by omega) hao hd).1 him);omega)
  rw[he] at h1;have hv:V (sg 0) M Fz w d v:=hσ▸E.2 t d v h1 h2;exact hv.ext (T.sz O (yB3 m) hm) Stp.refl
 own:=λb c h=>by have hl:=R.lt h;exact ⟨(R.blk b c h).1,hl.2,.inl ⟨by rw[hσ];exact hl.1,h⟩⟩
 blk:=λb c h m ob hm hob hc=>by
  have hl:=R.lt h;have hle:=T.le;have:=T.stab O (m:=0) (m':=m) (b:=b) (by omega) (yAA hm T.le) (by rw[hσ];exact hl.1) (λi _ hi hb=>by have h3:=(hS i (by omega)).1 ((hc i (by omega) hb).1 hi);rw[(T.lead i h3).2] at hb;simp at hb)
  rw[this,hσ] at hob;obtain ⟨_,ob',o,h1,h2,h3⟩:=R.blk b c h;rw[hob] at h1;simp only[yAa] at h1;subst h1;exact ⟨o,h2,(hσ▸h3:ObRel (sg 0) M Fz w ob o).ext (T.sz O (by omega) hm) Stp.refl⟩
 inj:=R.inj
 fz:=R.fz
 stp:=Stp.refl
 gl0:=R.gl }
theorem Inv.done{M0 M:Nat->Option Nat}{Fz0 Fz:Nat->Prop}{w0 w:World}{a:Act}{dfr:List Deferred}{S:Nat->Prop}(I:Inv os n0 env sg wrs M0 Fz0 w0 dfr S M Fz w a)(T:Tr P orc ops os p0 n0 env sg wrs)(O:zbp P orc)
  (hS:∀i,i<n0->S i) (hdom:∀b,M0 b≠none->b<(sg 0).length):Rel (sg n0) M Fz w/\zas (sg n0) M Fz w (env n0) a.tmps/\Evo (sg 0) M0 Fz0 w0 (sg n0) M Fz w:=by
 refine ⟨⟨λb c h=>?_,I.inj,I.fz,Gl.mono I.stp.fz I.gl0⟩,⟨by rw[I.tsz,T.envlen O T.le],λt d v h1 h2=>I.tmp t n0 (yAo _) (λi _ hi _ _=>⟨λ_=>hS i hi,λ_=>hi⟩) d v h1 h2⟩,?_⟩
 ·obtain ⟨h1,h2,h3⟩:=I.own b c h;have hb:b<(sg n0).length:=by
   rcases h3 with ⟨h3,_⟩ | ⟨j,hj,_,_,h3⟩
   ·exact yAH h3 (T.len_le O (by omega) T.le)
   ·exact yAH h3 (T.len_le O (by omega) T.le)
  have hob:(sg n0)[b]? = some (sg n0)[b]:=yAg hb;obtain ⟨o,h4,h5⟩:=I.blk b c h n0 _ (yAo _) hob (λi hi _=>⟨λ_=>hS i hi,λ_=>hi⟩);exact ⟨h1,_,o,hob,h4,h5⟩
 ·refine ⟨I.stp.size,I.stp.frame,λb c h=>?_,I.stp.fz,λc h=>?_,I.stp.shp,λb ob hb=>?_,I.stp.out⟩
  ·rcases I.stp.ran b c h with h | h
   ·exact .inl ⟨b,h⟩
   ·exact .inr h
  ·rcases I.stp.fz' c h with h | h
   ·exact .inl h
   ·exact .inr (.inr h)
  ·obtain ⟨ob',h1,h2⟩:=T.sz O (by omega) (yAo n0) b ob hb;refine ⟨ob',h1,by omega,λ_=>?_⟩;have hlt:=(yAb.1 hb).1;cases hM:M0 b with
   |some c=>exact I.stp.ext b c hM
   |none=>
    cases hM':M b with
    |none=>rfl
    |some c=>
     obtain ⟨_,_,h3⟩:=I.own b c hM';rcases h3 with ⟨_,h3⟩ | ⟨j,hj,_,h3,_⟩
     ·rw[hM] at h3;simp at h3
     ·have:=T.len_le O (m:=0) (m':=j) (by omega) (by have:=T.le;omega);omega
end
end Go.Abs
end
section
namespace Go.Abs
variable[Gl]
section
variable{P:Program}{orc:Orc2}{ops:Array Oper}{os:List AOper}{p0 n0:Nat}{env:Nat->List D}{sg:Nat->Heap}{wrs:Nat->List Nat}
variable{M0 M M':Nat->Option Nat}{Fz0 Fz Fz':Nat->Prop}{w0 w w':World}{a:Act}{dfr:List Deferred}{S S':Nat->Prop}
theorem Tr.wr_lt(T:Tr P orc ops os p0 n0 env sg wrs){i b:Nat}(h:i<n0)(hb:b∈wrs i):b<(sg i).length:=by
 have:=yAp.1 (T.wrk i h) b hb;split at this
 ·rename_i x y h1 h2;exact (yAb.1 h1).1
 ·simp at this
theorem apart_parts {x y:Info} (h:apart x y=true) :
  (∀t,x.dst=some t→t∉y.rds)∧(∀t,y.dst=some t→t∉x.rds)∧(∀t,x.dst=some t→y.dst≠some t)∧safe x y.wr=true∧safe y x.wr=true ∧
   (∀b∈y.wr,¬(x.lo≤b∧b<x.hi))∧(∀b∈x.wr,¬(y.lo≤b∧b<y.hi)):=by
 simp only [apart,yAj] at h
 obtain ⟨⟨⟨⟨h1,h2⟩,h3⟩,h4,h5⟩,h6,h7⟩:=h
 refine ⟨fun t ht=>?_,fun t ht=>?_,fun t ht hy=>?_,h4,h5,fun b hb=>?_,fun b hb=>?_⟩
 ·simp only [disj,ht] at h1; simpa using h1
 ·simp only [disj,ht] at h2; simpa using h2
 ·simp [ht,hy] at h3
 ·have:=yAp.1 h6 b hb
  simp at this
  omega
 ·have:=yAp.1 h7 b hb
  simp at this
  omega
theorem Tr.other (T:Tr P orc ops os p0 n0 env sg wrs) (hC:Closed ops S) {k i:Nat} {x y:AOper} (hx:os[k]? = some x) (hy:os[i]? = some y) (hne:i≠k) (hnS:¬S k)
    (hrd:∀o e,ops[k]? = some o→e∈o.after→Region.binds .any e=true→S e.on) :
    (i<k∧S i)∨(k<i∧¬S i) ∨
      ((∀t,y.dst=some t→t∉zb1 x)∧(∀t,x.dst=some t→y.dst≠some t) ∧
        safe (infoOf x (env k) (sg k).length (sg (k+1)).length (wrs k)) (wrs i)=true∧safe (infoOf y (env i) (sg i).length (sg (i+1)).length (wrs i)) (wrs k)=true ∧
        (∀b∈wrs i,¬((sg k).length≤b∧b<(sg (k+1)).length))):=by
  rcases Nat.lt_or_gt_of_ne hne with h | h
  · rcases T.pair i k y x h hy hx with hb | hb
    · exact .inl ⟨h,hb.ready hC hrd⟩
    · obtain ⟨h1,_,h3,h4,h5,_,h7⟩:=apart_parts hb
      exact .inr (.inr ⟨h1,fun t ht hy'=>h3 t hy' ht,h5,h4,h7⟩)
  · rcases T.pair k i x y h hx hy with hb | hb
    · exact .inr (.inl ⟨h,fun hS=>hnS (hb.in hC hS)⟩)
    · obtain ⟨_,h2,h3,h4,h5,h6,_⟩:=apart_parts hb
      exact .inr (.inr ⟨h2,h3,h4,h5,h6⟩)
theorem Inv.next(I:Inv os n0 env sg wrs M0 Fz0 w0 dfr S M Fz w a)(T:Tr P orc ops os p0 n0 env sg wrs)(O:zbp P orc)(hC:Closed ops S){k:Nat}{ao:AOper}{d:D}{v:Value}(hk:k<n0)(hao:os[k]? = some ao)(hnS:¬S k)
  (hrd:∀o e,ops[k]? = some o->e∈o.after->Region.binds .any e=true->S e.on) (hS':∀i,S' i↔S i∨i=k) (st:Stp M Fz w M' Fz' w') (henv:env (k+1)=putE (env k) ao.dst d)
  (hv:V (sg (k+1)) M' Fz' w' d v) (hinj:∀b b' c,M' b=some c->M' b'=some c->b=b') (hfz:∀c,Fz' c->c<w'.heap.size)
  (hown:∀b c,M' b=some c->¬Fz' c/\c<w'.heap.size/\(M b=some c∨((sg k).length<=b/\b<(sg (k+1)).length)))
  (hblk:∀b c,M' b=some c->∀m ob,m<=n0->(sg m)[b]? = some ob->(∀i,i<n0->b∈wrs i->(i<m↔S' i))->∃o,w'.heap[c]? = some o/\ObRel (sg m) M' Fz' w' ob o) :
  Inv os n0 env sg wrs M0 Fz0 w0 dfr S' M' Fz' w' (a.put ao.dst v):={
 tsz:=by rw[<-I.tsz];cases ao.dst <;> simp[Act.put]
 dfr:=by rw[<-I.dfr];cases ao.dst <;> rfl
 tmp:=λt m hm hc d' v' h1 h2=>by
  by_cases ht:ao.dst=some t
  ·have hkm:k<m:=(hc k ao hk hao ht).2 ((hS' k).2 (.inr rfl));have hst:=T.envstab O (m:=k+1) (m':=m) (t:=t) (by omega) (yAA hm T.le) (λi x hi him hx hd=>by
    have hSi:=(hc i x (by omega) hx hd).1 him;rcases (hS' i).1 hSi with hSi | hSi
    ·rcases T.other hC hao hx (by omega) hnS hrd with ⟨h,_⟩ | ⟨_,h⟩ | ⟨_,h,_⟩
     ·omega
     ·exact h hSi
     ·exact h t ht hd
    ·omega)
   rw[hst,henv,ht] at h1;rw[ht] at h2;simp only[putE,yAK] at h1;simp only[Act.put,yAU] at h2;simp only[if_true] at h1 h2;split at h1
   ·rename_i hlt;rw[if_pos (by rw[I.tsz,<-T.envlen O (m:=k) (by have:=T.le;omega)];exact hlt)] at h2;simp only[yAa] at h1 h2;subst h1 h2;exact hv.ext (T.sz O (by omega) hm) Stp.refl
   ·simp at h1
  ·have h2':a.tmps[t]? = some v':=by
    cases hd:ao.dst with
    |none=>rw[hd] at h2;exact h2
    |some s=>rw[hd] at h2;simp only[Act.put,yAU] at h2;rw[if_neg (λe=>ht (by rw[hd,e]))] at h2;exact h2
   refine (I.tmp t m hm (λi o hi ho hd=>?_) d' v' h1 h2').ext SzLe.refl st;rw[hc i o hi ho hd,hS' i];constructor
   ·rintro (h | rfl)
    ·exact h
    ·rw[hao] at ho;simp only[yAa] at ho;subst ho;exact absurd hd ht
   ·exact .inl
 own:=λb c h=>by
  obtain ⟨h1,h2,h3⟩:=hown b c h;refine ⟨h1,h2,?_⟩;rcases h3 with h3 | h3
  ·rcases (I.own b c h3).2.2 with h4 | ⟨j,hj,hSj,h4⟩
   ·exact .inl h4
   ·exact .inr ⟨j,hj,(hS' j).2 (.inl hSj),h4⟩
  ·exact .inr ⟨k,hk,(hS' k).2 (.inr rfl),h3⟩
 blk:=hblk
 inj:=hinj
 fz:=hfz
 stp:=I.stp.trans st
 gl0:=I.gl0 }
theorem Inv.light(I:Inv os n0 env sg wrs M0 Fz0 w0 dfr S M Fz w a)(T:Tr P orc ops os p0 n0 env sg wrs)(O:zbp P orc)(hC:Closed ops S){k:Nat}{ao:AOper}{d:D}{v:Value}(hk:k<n0)(hao:os[k]? = some ao)(hnS:¬S k)
  (hrd:∀o e,ops[k]? = some o->e∈o.after->Region.binds .any e=true->S e.on) (hS':∀i,S' i↔S i∨i=k) (henv:env (k+1)=putE (env k) ao.dst d)
  (hsg:sg (k+1)=sg k) (hwr:wrs k=[]) (hv:V (sg k) M Fz w d v):Inv os n0 env sg wrs M0 Fz0 w0 dfr S' M Fz w (a.put ao.dst v):=by
 refine I.next T O hC hk hao hnS hrd hS' Stp.refl henv (hsg▸hv) I.inj I.fz (λb c h=>⟨(I.own b c h).1,(I.own b c h).2.1,.inl h⟩) (λb c h m ob hm hob hc=>?_);refine I.blk b c h m ob hm hob (λi hi hb=>?_);rw[hc i hi hb,hS' i];constructor
 ·rintro (h | rfl)
  ·exact h
  ·rw[hwr] at hb;simp at hb
 ·exact .inl
theorem Inv.alloc(I:Inv os n0 env sg wrs M0 Fz0 w0 dfr S M Fz w a)(T:Tr P orc ops os p0 n0 env sg wrs)(O:zbp P orc)(hC:Closed ops S){k:Nat}{ao:AOper}{d:D}{v:Value}{ob:Ob}{o:Obj}(hk:k<n0)(hao:os[k]? = some ao)(hnS:¬S k)
  (hrd:∀o e,ops[k]? = some o->e∈o.after->Region.binds .any e=true->S e.on) (hS':∀i,S' i↔S i∨i=k) (henv:env (k+1)=putE (env k) ao.dst d)
  (hsg:sg (k+1)=sg k++[ob]) (hwr:wrs k=[]) (hob:ObRel (sg k++[ob]) (upM M (sg k).length w.heap.size) Fz (w.alloc o) ob o)
  (hv:V (sg k++[ob]) (upM M (sg k).length w.heap.size) Fz (w.alloc o) d v):Inv os n0 env sg wrs M0 Fz0 w0 dfr S' (upM M (sg k).length w.heap.size) Fz (w.alloc o) (a.put ao.dst v):=by
 have hfresh:M (sg k).length=none:=by
  cases h:M (sg k).length with
  |none=>rfl
  |some c=>
   rcases (I.own _ c h).2.2 with ⟨h1,_⟩ | ⟨j,hj,hSj,h1,h2⟩
   ·have:=T.len_le O (m:=0) (m':=k) (by omega) (by have:=T.le;omega);omega
   ·have hle:=T.le;rcases yBE j k with h3 | h3 | h3
    ·have:=T.len_le O (m:=j+1) (m':=k) (by omega) (by omega);omega
    ·subst h3;exact absurd hSj hnS
    ·have:=T.len_le O (m:=k+1) (m':=j) (by omega) (by omega);rw[hsg] at this;simp at this;omega
 have st:Stp M Fz w (upM M (sg k).length w.heap.size) Fz (w.alloc o):=by
  refine ⟨by simp,λc hc _=>heap_alloc_old w o c hc,λb c h=>?_,λb c h=>?_,λc h=>⟨h,heap_alloc_old w o c (I.fz c h)⟩,λc h=>.inl h,
   λc arr T fr h=>⟨arr,by rw[heap_alloc_old w o c (yAv.1 h).1];exact h,rfl⟩,⟨rfl,rfl,rfl⟩⟩
  ·unfold upM;rw[if_neg (λe=>by rw[e,hfresh] at h;simp at h)];exact h
  ·unfold upM at h;split at h
   ·simp only[yAa] at h;exact .inr (by omega)
   ·exact .inl h
 have hpart:∀b c,upM M (sg k).length w.heap.size b=some c->(b=(sg k).length/\c=w.heap.size)∨M b=some c:=by
  intro b c h;unfold upM at h;split at h
  ·simp only[yAa] at h;exact .inl ⟨‹_›,h.symm⟩
  ·exact .inr h
 refine I.next T O hC hk hao hnS hrd hS' st henv (hsg▸hv) (λb b' c h h'=>?_) (λc h=>by have:=I.fz c h;simp;omega) (λb c h=>?_) (λb c h m ob' hm hob' hc=>?_)
 ·rcases hpart b c h with ⟨rfl,rfl⟩ | h1 <;> rcases hpart b' _ h' with ⟨rfl,h2⟩ | h2
  ·rfl
  ·have:=(I.own _ _ h2).2.1;omega
  ·have:=(I.own _ _ h1).2.1;omega
  ·exact I.inj b b' c h1 h2
 ·rcases hpart b c h with ⟨rfl,rfl⟩ | h1
  ·exact ⟨λhf=>by have:=I.fz _ hf;omega,by simp,.inr ⟨yAo _,by rw[hsg];simp⟩⟩
  ·obtain ⟨h2,h3,_⟩:=I.own b c h1;exact ⟨h2,by simp;omega,.inl h1⟩
 ·rcases hpart b c h with ⟨rfl,rfl⟩ | h1
  ·have hkm:k<m:=by
    rcases yAB k m with h | h
    ·exact h
    ·have h1:=T.len_le O h (by have:=T.le;omega);have h2:=(yAb.1 hob').1;omega
   have hst:=T.stab O (m:=k+1) (m':=m) (b:=(sg k).length) (by omega) (yAA hm T.le) (by rw[hsg];simp) (λi hi him hb=>by
    have hSi:=(hc i (by omega) hb).1 him;rcases (hS' i).1 hSi with hSi | hSi
    ·obtain ⟨y,hy⟩:=T.at (i:=i) (by have:=T.le;omega);rcases T.other hC hao hy (by omega) hnS hrd with ⟨h,_⟩ | ⟨_,h⟩ | ⟨_,_,_,_,h⟩
     ·omega
     ·exact h hSi
     ·exact h _ hb ⟨yAo _,by rw[hsg];simp⟩
    ·omega)
   rw[hst,hsg] at hob';simp at hob';subst hob';refine ⟨o,heap_alloc_new w o,hob.ext ?_ Stp.refl⟩;rw[<-hsg];exact T.sz O (by omega) hm
  ·obtain ⟨o',h2,h3⟩:=I.blk b c h1 m ob' hm hob' (λi hi hb=>by
    rw[hc i hi hb,hS' i];constructor
    ·rintro (h | rfl)
     ·exact h
     ·rw[hwr] at hb;simp at hb
    ·exact .inl)
   exact ⟨o',by rw[heap_alloc_old w o c (I.own b c h1).2.1];exact h2,h3.ext SzLe.refl st⟩
end
end Go.Abs
end
section
namespace Go.Abs
variable[Gl]
section
variable{P:Program}{orc:Orc2}{ops:Array Oper}{os:List AOper}{p0 n0:Nat}{env:Nat->List D}{sg:Nat->Heap}{wrs:Nat->List Nat}
variable{M0 M M':Nat->Option Nat}{Fz0 Fz Fz':Nat->Prop}{w0 w w':World}{a:Act}{dfr:List Deferred}{S S':Nat->Prop}
theorem Tr.heavy(T:Tr P orc ops os p0 n0 env sg wrs)(hC:Closed ops S){k i:Nat}{x:AOper}(hk:k<n0)(hx:os[k]? = some x)(hnS:¬S k)
  (hrd:∀o e,ops[k]? = some o->e∈o.after->Region.binds .any e=true->S e.on) (hcat:(infoOf x (env k) (sg k).length (sg (k+1)).length (wrs k)).cat=3) (hi:i<n0) (hw:wrs i≠[]) (hne:i≠k) :
  (i<k/\S i)∨(k<i/\¬S i):=by
 obtain ⟨y,hy⟩:=T.at (i:=i) (by have:=T.le;omega);rcases T.other hC hx hy hne hnS hrd with h | h | ⟨_,_,h,_⟩
 ·exact .inl h
 ·exact .inr h
 ·simp only[safe,hcat] at h;simp at h;exact absurd h hw
theorem Inv.rel(I:Inv os n0 env sg wrs M0 Fz0 w0 dfr S M Fz w a)(T:Tr P orc ops os p0 n0 env sg wrs)(hC:Closed ops S){k:Nat}{x:AOper}(hk:k<n0)(hx:os[k]? = some x)(hnS:¬S k)
  (hrd:∀o e,ops[k]? = some o->e∈o.after->Region.binds .any e=true->S e.on) (hcat:(infoOf x (env k) (sg k).length (sg (k+1)).length (wrs k)).cat=3) :
  Rel (sg k) (cutM M (sg k).length) Fz w:={
 blk:=λb c h=>by
  unfold cutM at h;split at h
  ·rename_i hb;have hob:(sg k)[b]? = some (sg k)[b]:=yAg hb;obtain ⟨o,h1,h2⟩:=I.blk b c h k _ (by omega) hob (λi hi hbw=>by
    by_cases hne:i=k
    ·subst hne;exact ⟨λh=>by omega,λh=>absurd h hnS⟩
    ·rcases T.heavy hC hk hx hnS hrd hcat hi (λhe=>by rw[he] at hbw;simp at hbw) hne with ⟨h1,h2⟩ | ⟨h1,h2⟩
     ·exact ⟨λ_=>h2,λ_=>h1⟩
     ·exact ⟨λh=>by omega,λh=>absurd h h2⟩)
   exact ⟨(I.own b c h).1,_,o,hob,h1,h2.cut⟩
  ·simp at h
 inj:=λb b' c h h'=>by
  unfold cutM at h h';split at h
  ·split at h'
   ·exact I.inj b b' c h h'
   ·simp at h'
  ·simp at h
 fz:=I.fz
 gl:=Gl.mono I.stp.fz I.gl0 }
theorem Inv.heavy(I:Inv os n0 env sg wrs M0 Fz0 w0 dfr S M Fz w a)(T:Tr P orc ops os p0 n0 env sg wrs)(O:zbp P orc)(hC:Closed ops S){k:Nat}{ao:AOper}{d:D}{v:Value}{M1:Nat->Option Nat}{Fz1:Nat->Prop}{w1:World}(hk:k<n0)(hao:os[k]? = some ao)(hnS:¬S k)
  (hrd:∀o e,ops[k]? = some o->e∈o.after->Region.binds .any e=true->S e.on) (hS':∀i,S' i↔S i∨i=k) (henv:env (k+1)=putE (env k) ao.dst d)
  (hcat:(infoOf ao (env k) (sg k).length (sg (k+1)).length (wrs k)).cat=3) (R1:Rel (sg (k+1)) M1 Fz1 w1) (hv:V (sg (k+1)) M1 Fz1 w1 d v) (EV:Evo (sg k) (cutM M (sg k).length) Fz w (sg (k+1)) M1 Fz1 w1) :
  ∃M',Inv os n0 env sg wrs M0 Fz0 w0 dfr S' M' Fz1 w1 (a.put ao.dst v):=by
 have hle:=T.le;have hL:=(T.frame O (i:=k) (by omega)).1;have f1:∀b,b<(sg k).length->M1 b=M b:=by intro b hb;obtain ⟨ob',h1,_,h2⟩:=EV.keep b _ (yAg hb);obtain ⟨ob2,h3,h4⟩:=T.sz1 O hk b _ (yAg hb);rw[h1] at h3;simp only[yAa] at h3;subst h3;rw[h2 h4];simp only[cutM,if_pos hb]
 have f2:∀b,(sg k).length<=b->b<(sg (k+1)).length->M b=none:=by
  intro b h1 h2;cases h:M b with
  |none=>rfl
  |some c=>
   rcases (I.own b c h).2.2 with ⟨h3,_⟩ | ⟨j,hj,hSj,h3,h4⟩
   ·have:=T.len_le O (m:=0) (m':=k) (by omega) (by omega);omega
   ·rcases yBE j k with h5 | h5 | h5
    ·have:=T.len_le O (m:=j+1) (m':=k) (by omega) (by omega);omega
    ·subst h5;exact absurd hSj hnS
    ·have:=T.len_le O (m:=k+1) (m':=j) (by omega) (by omega);omega
 have f3:∀b c,M1 b=some c->b<(sg k).length∨w.heap.size<=c:=by
  intro b c h;by_cases hb:b<(sg k).length
  ·exact .inl hb
  ·right;rcases EV.ran b c h with ⟨b0,h0⟩ | h0
   ·exfalso;unfold cutM at h0;split at h0
    ·rename_i hb0;have:=R1.inj b b0 c h (by rw[f1 b0 hb0];exact h0);omega
    ·simp at h0
   ·exact h0
 let M':Nat->Option Nat:=λb=>if b<(sg (k+1)).length then M1 b else M b
 have hM1:∀b,b<(sg (k+1)).length->M' b=M1 b:=λb h=>by simp only[M',if_pos h]
 have hM2:∀b,¬b<(sg (k+1)).length->M' b=M b:=λb h=>by simp only[M',if_neg h]
 have sub1:∀b c,M1 b=some c->M' b=some c:=λb c h=>by rw[hM1 b (R1.lt h).1];exact h
 have fz':∀c,Fz1 c->Fz c∨w.heap.size<=c:=by
  intro c h;rcases EV.fz' c h with h | ⟨b,h1⟩ | h
  ·exact .inl h
  ·exfalso;unfold cutM at h1;split at h1
   ·rename_i hb;exact (R1.blk b c (by rw[f1 b hb];exact h1)).1 h
   ·simp at h1
  ·exact .inr h
 have st:Stp M Fz w M' Fz1 w1:=by
  refine ⟨EV.size,λc hc hn=>EV.frame c hc (λb hb=>?_),λb c h=>?_,λb c h=>?_,EV.fz,fz',EV.shp,EV.out⟩
  ·unfold cutM at hb;split at hb
   ·exact hn b hb
   ·simp at hb
  ·by_cases h1:b<(sg k).length
   ·rw[hM1 b (by omega),f1 b h1];exact h
   ·by_cases h2:b<(sg (k+1)).length
    ·rw[f2 b (by omega) h2] at h;simp at h
    ·rw[hM2 b h2];exact h
  ·by_cases h2:b<(sg (k+1)).length
   ·rw[hM1 b h2] at h;rcases f3 b c h with h3 | h3
    ·rw[f1 b h3] at h;exact .inl h
    ·exact .inr h3
   ·rw[hM2 b h2] at h;exact .inl h
 refine ⟨M',I.next T O hC hk hao hnS hrd hS' st henv (hv.sub SzLe.refl sub1 (λc h=>⟨h,rfl⟩) (λc arr T fr h=>⟨arr,h,rfl⟩)) (λb b' c h h'=>?_) R1.fz (λb c h=>?_) (λb c h m ob hm hob hc=>?_)⟩
 ·have mixed:∀b b',b<(sg (k+1)).length->¬b'<(sg (k+1)).length->M' b=some c->M' b'=some c->b=b':=by
   intro b b' h1 h2 h3 h4;rw[hM1 b h1] at h3;rw[hM2 b' h2] at h4;rcases f3 b c h3 with h5 | h5
   ·rw[f1 b h5] at h3;exact I.inj b b' c h3 h4
   ·have:=(I.own b' c h4).2.1;omega
  by_cases h1:b<(sg (k+1)).length
  ·by_cases h2:b'<(sg (k+1)).length
   ·rw[hM1 b h1] at h;rw[hM1 b' h2] at h';exact R1.inj b b' c h h'
   ·exact mixed b b' h1 h2 h h'
  ·by_cases h2:b'<(sg (k+1)).length
   ·exact (mixed b' b h2 h1 h' h).symm
   ·rw[hM2 b h1] at h;rw[hM2 b' h2] at h';exact I.inj b b' c h h'
 ·by_cases h1:b<(sg (k+1)).length
  ·rw[hM1 b h1] at h;refine ⟨(R1.blk b c h).1,(R1.lt h).2,?_⟩;by_cases h2:b<(sg k).length
   ·rw[f1 b h2] at h;exact .inl h
   ·exact .inr ⟨by omega,h1⟩
  ·rw[hM2 b h1] at h;obtain ⟨h2,h3,_⟩:=I.own b c h;refine ⟨λhf=>?_,yAH h3 EV.size,.inl h⟩;rcases fz' c hf with h4 | h4
   ·exact h2 h4
   ·omega
 ·have hcS:b∉wrs k->∀i,i<n0->b∈wrs i->(i<m↔S i):=by
   intro hbk i hi hb;rw[hc i hi hb,hS' i];constructor
   ·rintro (h | rfl)
    ·exact h
    ·exact absurd hb hbk
   ·exact .inl
  by_cases h1:b<(sg (k+1)).length
  ·rw[hM1 b h1] at h;have hheavy:∀i,i<n0->b∈wrs i->i≠k->(i<k/\S i)∨(k<i/\¬S i):=λi hi hb hne=>T.heavy hC hk hao hnS hrd hcat hi (λhe=>by rw[he] at hb;simp at hb) hne;obtain ⟨_,ob1,o1,h2,h3,h4⟩:=R1.blk b c h;by_cases hkm:k<m
   ·have hst:=T.stab O (m:=k+1) (m':=m) (b:=b) (by omega) (yAA hm T.le) h1 (λi hi him hb=>by
     have hSi:=(hc i (by omega) hb).1 him;rcases (hS' i).1 hSi with hSi | hSi
     ·rcases hheavy i (by omega) hb (by omega) with ⟨h5,_⟩ | ⟨_,h5⟩
      ·omega
      ·exact h5 hSi
     ·omega)
    rw[hst,h2] at hob;simp only[yAa] at hob;subst hob;exact ⟨o1,h3,h4.sub (T.sz O (by omega) hm) sub1⟩
   ·have hbm:=(yAb.1 hob).1;have hbk:b∉wrs k:=λhb=>hkm ((hc k hk hb).2 ((hS' k).2 (.inr rfl)));have hst:=T.stab O (m:=m) (m':=k+1) (b:=b) (by omega) (by omega) hbm (λi hi him hb=>by
     by_cases hik:i=k
     ·subst hik;exact hbk hb
     ·have hnSi:¬S i:=λhSi=>by have:=(hc i (by omega) hb).2 ((hS' i).2 (.inl hSi));omega
      rcases hheavy i (by omega) hb hik with ⟨_,h5⟩ | ⟨h5,_⟩
      ·exact hnSi h5
      ·omega)
    rw[hst,hob] at h2;simp only[yAa] at h2;subst h2;have hbL:b<(sg k).length:=yAH hbm (T.len_le O (by omega) (by omega));rw[f1 b hbL] at h;obtain ⟨o0,_,h5⟩:=I.blk b c h m ob hm hob (hcS hbk);exact ⟨o1,h3,(h4.down (T.sz O (by omega) (by omega)) h5).sub SzLe.refl sub1⟩
  ·rw[hM2 b h1] at h;have hbk:b∉wrs k:=λhb=>by have:=T.wr_lt hk hb;omega
   obtain ⟨o,h2,h3⟩:=I.blk b c h m ob hm hob (hcS hbk);refine ⟨o,?_,h3.ext SzLe.refl st⟩;rw[EV.frame c (I.own b c h).2.1 (λb0 h0=>?_)]
   ·exact h2
   ·unfold cutM at h0;split at h0
    ·rename_i hb0;have:=I.inj b0 b c h0 h;omega
    ·simp at h0
def maskE(T:List Nat)(e:List D):List D:=e.mapIdx λi d=>if T.contains i then d else .any
theorem maskE_get{T:List Nat}{e:List D}{i:Nat}:(maskE T e)[i]? = (e[i]?).map λd=>if T.contains i then d else .any:=by simp[maskE,List.getElem?_mapIdx]
theorem maskE_ev{T:List Nat}{e:List D}{x:Opd}(h:∀n,x=.t n->n∈T):x.ev (maskE T e)=x.ev e:=by
 cases x with
 |k d=>rfl
 |t n=>simp only[Opd.ev,maskE_get];have:n∈T:=h n rfl;cases e[n]? <;> simp[this]
theorem Inv.step(I:Inv os n0 env sg wrs M0 Fz0 w0 dfr S M Fz w a)(T:Tr P orc ops os p0 n0 env sg wrs)(O:zbp P orc)(hC:Closed ops S){k:Nat}{Q:Exit->Act->World->Prop}(hk:k<n0)(hnS:¬S k)
  (hrd:∀o e,ops[k]? = some o->e∈o.after->Region.binds .any e=true->S e.on) (hS':∀i,S' i↔S i∨i=k) (K:Act->World->Prop)
  (hK:∀a' w' M' Fz',Inv os n0 env sg wrs M0 Fz0 w0 dfr S' M' Fz' w' a'->K a' w'):wpOp P ops Q k K a w:=by
 have hle:=T.le;obtain ⟨ao,hao⟩:=T.at (i:=k) (by omega);obtain ⟨o,ho,hco⟩:=T.comp k ao hao;have hstep:=T.step k ao hao;have hE:zas (sg k) M Fz w (maskE (zb1 ao) (env k)) a.tmps:=by
  refine ⟨by rw[I.tsz,<-T.envlen O (m:=k) (by omega)];simp[maskE],λi d v h1 h2=>?_⟩;rw[maskE_get] at h1;simp only[yAd] at h1;obtain ⟨d0,h3,h4⟩:=h1;by_cases ht:(zb1 ao).contains i=true
  ·rw[if_pos ht] at h4;subst h4;refine I.tmp i k (by omega) (λj x hj hx hd=>?_) d0 v h3 h2;by_cases hjk:j=k
   ·subst hjk;exact ⟨λh=>by omega,λh=>absurd h hnS⟩
   ·rcases T.other hC hao hx hjk hnS hrd with ⟨h5,h6⟩ | ⟨h5,h6⟩ | ⟨h5,_⟩
    ·exact ⟨λ_=>h6,λ_=>h5⟩
    ·exact ⟨λh=>by omega,λh=>absurd h h6⟩
    ·exact absurd (by simpa using ht) (h5 i hd)
  ·rw[if_neg ht] at h4;subst h4;exact .any v
 have hgm:wantE (maskE (zb1 ao) (env k)) ao.g=wantE (env k) ao.g:=by
  cases hg:ao.g with
  |none=>rfl
  |some p=>
   obtain ⟨t,want⟩:=p;have:(zb1 ao).contains t=true:=by simp[zb1,hg]
   simp only[wantE,maskE_get,this,if_true];cases (env k)[t]? <;> rfl
 unfold compOper at hco;split at hco
 ·rename_i g ao' hg hcomp;simp only[yAa] at hco;subst hco;simp only at hstep hgm hE;have hcong:zaB P (orc o.dst) ao' (maskE (zb1 ⟨o.dst,ao',g⟩) (env k)) (sg k)=zaB P (orc o.dst) ao' (env k) (sg k):=by
   refine evOp_congr (comp_notSelect hcomp) (λx hx=>maskE_ev (λn hn=>?_));subst hn;simp only[zb1,yAE,yCq];exact .inl ⟨.t n,hx,rfl⟩
  unfold evOper at hstep;split at hstep
  ·rename_i hw;simp only at hw;have hwant:=want_ok (U:=sg k) (M:=M) (Fz:=Fz) (w:=w) (ops:=ops) (o:=o) hE hg (by rw[hgm];exact hw);simp only[yAd] at hstep;obtain ⟨⟨d,U1,wr1⟩,hev,h⟩:=hstep;simp only[yAc] at h;obtain ⟨henv,hsg,hwr⟩:=h;subst hsg hwr;have hcatk:(infoOf ⟨o.dst,ao',g⟩ (env k) (sg k).length (sg (k+1)).length (wrs k)).cat=cat ao':=by simp only[infoOf,hw]
   unfold wpOp;rw[ho];simp only[hwant,if_true];left;have heavy:cat ao'=3->o.wp P a w K Q:=by intro hc3;have R:=I.rel T hC hk hao hnS hrd (by rw[hcatk];exact hc3);have hE':zas (sg k) (cutM M (sg k).length) Fz w (maskE (zb1 ⟨o.dst,ao',g⟩) (env k)) a.tmps:=⟨hE.1,λi d v h1 h2=>(hE.2 i d v h1 h2).cut⟩;refine op_wp (O o.dst) R hE' hcomp (by rw[hcong];exact hev) K λv w1 M1 Fz1 R1 hv EV _=>?_;obtain ⟨M',hI⟩:=I.heavy (ao:=⟨o.dst,ao',g⟩) T O hC hk hao hnS hrd hS' henv.symm (by rw[hcatk];exact hc3) R1 hv EV;exact hK _ _ M' Fz1 hI
   rcases comp_inv hcomp with ⟨f,args,ats,of,os',_,_,_,rfl⟩ | ⟨hc0,hcall,_⟩
   ·exact heavy rfl
   ·have hev':zaB P (orc o.dst) ao' (maskE (zb1 ⟨o.dst,ao',g⟩) (env k)) (sg k)=some (d,sg (k+1),wrs k):=by rw[hcong];exact hev
    have out:=evOp_out (M:=M) (Fz:=Fz) (w:=w) (Gl.mono I.stp.fz I.gl0) hE hc0 hcall hev';generalize hsk:sg (k+1)=s1 at out;generalize hwk:wrs k=w1 at out;cases out with
    |y _ hy=>obtain ⟨v,hr,hv⟩:=hy;unfold Oper.wp;rw[hr];exact hK _ _ M Fz (I.light (ao:=⟨o.dst,ao',g⟩) T O hC hk hao hnS hrd hS' henv.symm hsk hwk hv)
    |l hc1 hσ hy=>
     obtain ⟨v,hr,hv⟩:=hy (λb off sz c cs hat hM hb=>by
      obtain ⟨o',h1,h2⟩:=I.blk b c hM k _ (by omega) hb (λi hi hbw=>by
       by_cases hne:i=k
       ·subst hne;exact ⟨λh=>by omega,λh=>absurd h hnS⟩
       ·obtain ⟨y,hy⟩:=T.at (i:=i) (by omega);rcases T.other hC hao hy hne hnS hrd with ⟨h5,h6⟩ | ⟨h5,h6⟩ | ⟨_,_,h5,_⟩
        ·exact ⟨λ_=>h6,λ_=>h5⟩
        ·exact ⟨λh=>by omega,λh=>absurd h h6⟩
        ·exfalso;have hblk:(infoOf ⟨o.dst,ao',g⟩ (env k) (sg k).length (sg (k+1)).length (wrs k)).blk=some b:=by
          have:ox1 ao' (env k)=ox1 ao' (maskE (zb1 ⟨o.dst,ao',g⟩) (env k)):=by
           cases ao' with
           |load n x=>simp only[ox1];exact (maskE_ev (λn hn=>by subst hn;simp[zb1,za6])).symm
           |_=>rfl
          simp only[infoOf,this,hat]
         simp only[safe,hcatk,hc1,hblk] at h5;simp at h5;rcases h5 with h5 | h5
         ·rw[h5] at hbw;simp at hbw
         ·exact h5 hbw)
      obtain ⟨arr,T',rfl,h3,h4⟩:=h2;exact ⟨arr,T',h1,h3,h4⟩)
     unfold Oper.wp;rw[hr];exact hK _ _ M Fz (I.light (ao:=⟨o.dst,ao',g⟩) T O hC hk hao hnS hrd hS' henv.symm (by rw[hsk,hσ]) hwk hv)
    |a _ hy=>obtain ⟨ob',v,hr,h1,hv⟩:=hy I.fz;unfold Oper.wp;rw[hr];exact hK _ _ _ Fz (I.alloc (ao:=⟨o.dst,ao',g⟩) T O hC hk hao hnS hrd hS' henv.symm hsk hwk h1 hv)
    |g hc3 _=>exact heavy hc3
  ·rename_i hw;simp only at hw;have hwant:=want_ok (U:=sg k) (M:=M) (Fz:=Fz) (w:=w) (ops:=ops) (o:=o) hE hg (by rw[hgm];exact hw);simp only[yAa,yAc] at hstep;obtain ⟨henv,hsg,hwr⟩:=hstep;unfold wpOp;rw[ho];simp only[hwant,yAh,yAx];exact hK _ _ M Fz (I.light (ao:=⟨o.dst,ao',g⟩) T O hC hk hao hnS hrd hS' henv.symm hsg.symm hwr.symm V.undef)
  ·simp at hstep
 ·simp at hco
end
end Go.Abs
end
section
namespace Go.Abs
variable[Gl]
section
variable{P:Program}{orc:Orc2}{ops:Array Oper}{os:List AOper}{p0 n0:Nat}{env:Nat->List D}{sg:Nat->Heap}{wrs:Nat->List Nat}
variable{M:Nat->Option Nat}{Fz:Nat->Prop}{w:World}{a:Act}
def unl(N:Nat)(listed:Array Bool):Nat:=((List.range N).filter λj=>!listed.getD j false).length
def Lst(listed:Array Bool)(i:Nat):Prop:=listed.getD i false=true
theorem zc1{listed:Array Bool}{k:Nat}(hk:k<listed.size)(i:Nat):Lst (listed.setIfInBounds k true) i↔Lst listed i∨i=k:=by
 unfold Lst;by_cases h:k=i
 ·subst h;simp[hk]
 ·rw[getD_set_ne false h];constructor
  ·exact .inl
  ·rintro (h' | h')
   ·exact h'
   ·exact absurd h'.symm h
theorem unl_set{N:Nat}{listed:Array Bool}{k:Nat}(hs:k<listed.size)(hk:k<N)(hn:¬Lst listed k):unl N (listed.setIfInBounds k true)<unl N listed:=by
 unfold unl;have e:(List.range N).filter (λj=>!(listed.setIfInBounds k true).getD j false)=((List.range N).filter λj=>!listed.getD j false).filter λj=>j != k:=by rw[List.filter_filter];apply List.filter_congr;intro j _;have:=zc1 hs (i:=j);unfold Lst at this;cases h1:listed.getD j false <;> cases h2:(listed.setIfInBounds k true).getD j false <;> by_cases h3:j=k <;> simp_all
 rw[e,List.length_filter_lt_length_iff_exists];refine ⟨k,?_,by simp⟩;rw[yBu];refine ⟨by simpa using hk,?_⟩;unfold Lst at hn;simpa using hn
theorem all_of_none{N:Nat}{listed:Array Bool}(h:unl N listed=0):∀i,i<N->Lst listed i:=by intro i hi;unfold unl at h;have:=yAJ h;rw[xAm] at this;have:=this i (by simpa using hi);unfold Lst;simpa using this
theorem least_unl{N:Nat}{listed:Array Bool}(h:∃i,i<N/\¬Lst listed i):∃i,i<N/\¬Lst listed i/\∀j,j<i->Lst listed j:=by
 obtain ⟨i,hi,hn⟩:=h;induction i using Nat.strongRecOn with
 |_ i ih=>
  by_cases hx:∀j,j<i->Lst listed j
  ·exact ⟨i,hi,hn,hx⟩
  ·have:∃j,j<i/\¬Lst listed j:=by
    refine yCe λhc=>hx λj hj=>yCe λhl=>hc ⟨j,hj,hl⟩
   obtain ⟨j,hj,hl⟩:=this;exact ih j hj (by omega) hl
theorem ready_none{listed:Array Bool}(hsz:listed.size=ops.size)(hback:∀(j:Nat) o e,ops[j]? = some o->e∈o.after->Region.binds .any e=true->e.on<j)
  (h:Region.ready .any ops listed=[]):∀i,i<ops.size->Lst listed i:=by
 intro i hi;refine yCe λhn=>?_;obtain ⟨j,hj,hjn,hall⟩:=least_unl (N:=ops.size) ⟨i,hi,hn⟩;have ho:ops[j]? = some ops[j]:=yAn hj;have:j∈Region.ready .any ops listed:=by rw[mem_ready];refine ⟨?_,ops[j],ho,λe he hb=>hall e.on (hback j _ e ho he hb)⟩;unfold Lst at hjn;have e:listed[j]? = some (listed[j]'(by omega)):=yAn _;simp only[yA9,e,Option.getD_some] at hjn ⊢;simpa using hjn
 rw[h] at this;simp at this
theorem cnt_ge(n0:Nat):∀m,((List.range (n0+m)).filter (λj=>decide (n0<=j))).length=m:=by
 intro m;induction m with
 |zero=>
  have:(List.range (n0+0)).filter (λj=>decide (n0<=j))=[]:=by rw[xAm];intro x hx;simp at hx ⊢;omega
  rw[this];rfl
 |succ m ih=>rw[<-yBL,List.range_succ,List.filter_append,yAC,ih];simp
theorem getD_replicate_false'(m j:Nat):(Array.replicate m false).getD j false=false:=by simp only[yA9,yB9];split <;> rfl
theorem tail_wp(O:zbp P orc)(T:Tr P orc ops os p0 n0 env sg wrs)(htl:∀i j,p0<=i->i<j->n0<=j->j<os.length->Bef ops i j)(hback:∀(j:Nat) o e,ops[j]? = some o->e∈o.after->Region.binds .any e=true->e.on<j){Q:Exit->Act->World->Prop}
  (hQ:∀a' w' M' Fz',a'.defers=a.defers->Rel (sg os.length) M' Fz' w'->zas (sg os.length) M' Fz' w' (env os.length) a'.tmps->Evo (sg 0) M Fz w (sg os.length) M' Fz' w'->Q .normal a' w') :
  ∀ (fuel : Nat) (listed : Array Bool) (k : Nat) (M' : Nat -> Option Nat) (Fz' : Nat -> Prop) (w' : World) (a' : Act), listed.size = ops.size -> n0 <= k -> k <= os.length -> (∀ i, i < ops.size -> (Lst listed i ↔ i < k)) -> os.length - k <= fuel -> a'.defers = a.defers ->
   Rel (sg k) M' Fz' w'->zas (sg k) M' Fz' w' (env k) a'.tmps->Evo (sg 0) M Fz w (sg k) M' Fz' w'->wpAny P .any ops Q fuel listed a' w':=by
 have hlen:=T.len;intro fuel;induction fuel with
 |zero=>
  intro listed k M' Fz' w' a' hsz hk hkl hS hf hd R E EV;have hk2:k=os.length:=by omega
  subst hk2;refine ⟨?_,hQ a' w' M' Fz' hd R E EV⟩;cases hr:Region.ready .any ops listed with
  |nil=>rfl
  |cons j l=>
   have hm:j∈Region.ready .any ops listed:=by rw[hr];simp
   rw[mem_ready] at hm;obtain ⟨h1,o,ho,_⟩:=hm;have hj:j<ops.size:=(yAv.1 ho).1;have:=(hS j hj).2 (by omega);unfold Lst at this;have e:listed[j]? = some (listed[j]'(by omega)):=yAn _;simp only[yA9,e,Option.getD_some] at this h1;rw[this] at h1;simp at h1
 |succ fuel ih=>
  intro listed k M' Fz' w' a' hsz hk hkl hS hf hd R E EV;refine ⟨λhr=>?_,λj hj=>?_⟩
  ·have hall:=ready_none hsz hback hr;have hk2:k=os.length:=by
    rcases yAB k os.length with h | h
    ·have:=(hS k (by omega)).1 (hall k (by omega));omega
    ·omega
   subst hk2;exact hQ a' w' M' Fz' hd R E EV
  ·rw[mem_ready] at hj;obtain ⟨h1,o,ho,hrd⟩:=hj;have hjl:j<ops.size:=(yAv.1 ho).1;have hC:Closed ops (Lst listed):=by
    intro i o' e hi ho' he hb;have hil:i<ops.size:=(yAv.1 ho').1;have h2:=(hS i hil).1 hi;have h3:=hback i o' e ho' he hb;exact (hS e.on (by omega)).2 (by omega)
   have hnj:¬Lst listed j:=by unfold Lst;have e:listed[j]? = some (listed[j]'(by omega)):=yAn _;simp only[yA9,e,Option.getD_some] at h1 ⊢;rw[h1];simp
   have hkj:k<=j:=by
    rcases yAB j k with h | h
    ·exact absurd ((hS j hjl).2 h) hnj
    ·exact h
   have hjk:j=k:=by
    rcases yAB k j with h | h
    ·have hb:=htl k j (by have:=T.ple;omega) h (by omega) (by omega);have:=hb.ready hC (λo' e ho' he hbd=>by rw[ho] at ho';simp only[yAa] at ho';subst ho';exact hrd e he hbd);have:=(hS k (by omega)).1 this;omega
    ·omega
   subst hjk;obtain ⟨ao,hao⟩:=T.at (i:=j) (by omega);obtain ⟨o',ho',hco⟩:=T.comp j ao hao;refine oper_wp O R E ho' hco (T.step j ao hao) _ λa1 w1 M1 Fz1 hd1 R1 E1 EV1 hl1=>?_;refine ih (listed.setIfInBounds j true) (j+1) M1 Fz1 w1 a1 (by simp[hsz]) (by omega) (by omega) (λi hi=>?_) (by omega) (by rw[hd1,hd]) R1 E1 (EV.trans EV1 (T.len_le O (by omega) (by omega)));rw[zc1 (by omega),hS i hi];omega
theorem drawn_wp(O:zbp P orc)(T:Tr P orc ops os p0 n0 env sg wrs)(htl:∀i j,p0<=i->i<j->n0<=j->j<os.length->Bef ops i j)(hback:∀(j:Nat) o e,ops[j]? = some o->e∈o.after->Region.binds .any e=true->e.on<j)(R:Rel (sg 0) M Fz w)(E:zas (sg 0) M Fz w (env p0) a.tmps){Q:Exit->Act->World->Prop}
  (hQ:∀a' w' M' Fz',a'.defers=a.defers->Rel (sg os.length) M' Fz' w'->zas (sg os.length) M' Fz' w' (env os.length) a'.tmps->Evo (sg 0) M Fz w (sg os.length) M' Fz' w'->Q .normal a' w') :
  wpAny P .any ops Q (ops.size-p0) (zc6 ops.size p0) a w:=by
 have hple:=T.ple;have hlen:=T.len;have hle:=T.le;have hdom:∀b,M b≠none->b<(sg 0).length:=λb h=>by
  cases hM:M b with
  |none=>exact absurd hM h
  |some c=>exact (R.lt hM).1
 have main:∀(fuel:Nat)(listed:Array Bool)(M':Nat->Option Nat)(Fz':Nat->Prop)(w':World)(a':Act),listed.size=ops.size->unl ops.size listed<=fuel->Closed ops (Lst listed)->(∀i,i<p0->Lst listed i)->(∀i,Lst listed i->i<n0) ->
   Inv os n0 env sg wrs M Fz w a.defers (Lst listed) M' Fz' w' a'->wpAny P .any ops Q fuel listed a' w':=by
  intro fuel;induction fuel with
  |zero=>
   intro listed M' Fz' w' a' hsz hu hC hpl hlt I;have hall:=all_of_none (N:=ops.size) (listed:=listed) (by omega);have hn:n0=os.length:=by
    rcases yAB n0 os.length with h | h
    ·have:=hlt n0 (hall n0 (by omega));omega
    ·omega
   obtain ⟨R1,E1,EV1⟩:=I.done T O (λi hi=>hall i (by omega)) hdom;refine tail_wp O T htl hback hQ 0 listed n0 M' Fz' w' a' hsz (yAo _) hle (λi hi=>⟨λh=>hlt i h,λ_=>hall i hi⟩) (by omega) I.dfr R1 E1 EV1
  |succ fuel ih=>
   intro listed M' Fz' w' a' hsz hu hC hpl hlt I;by_cases hfull:∀i,i<n0->Lst listed i
   ·obtain ⟨R1,E1,EV1⟩:=I.done T O hfull hdom;refine tail_wp O T htl hback hQ (fuel+1) listed n0 M' Fz' w' a' hsz (yAo _) hle (λi hi=>⟨λh=>hlt i h,λh=>hfull i h⟩) ?_ I.dfr R1 E1 EV1;have:os.length-n0<=unl ops.size listed:=by
     unfold unl;have e:(List.range ops.size).filter (λj=>!listed.getD j false)=(List.range ops.size).filter (λj=>decide (n0<=j)):=by
      apply List.filter_congr;intro j _;have h1:=hlt j;have h2:=hfull j;unfold Lst at h1 h2;cases hx:listed.getD j false
      ·simp only[hx] at h1 h2;simp;rcases yAB j n0 with h | h
       ·exact absurd (h2 h) (by simp)
       ·exact h
      ·have:=h1 hx;simp;omega
     rw[e,show ops.size=n0+(os.length-n0) from by omega,cnt_ge];exact yAo _
    omega
   ·refine ⟨λhr=>?_,λj hj=>?_⟩
    ·exact absurd (λi hi=>ready_none hsz hback hr i (by omega)) hfull
    ·rw[mem_ready] at hj;obtain ⟨h1,o,ho,hrd⟩:=hj;have hjl:j<ops.size:=(yAv.1 ho).1;have hnj:¬Lst listed j:=by
      unfold Lst;have e:listed[j]? = some (listed[j]'(by omega)):=yAn _;simp only[yA9,e,Option.getD_some] at h1 ⊢;rw[h1];simp
     have hrd':∀o' e,ops[j]? = some o'->e∈o'.after->Region.binds .any e=true->Lst listed e.on:=λo' e ho' he hbd=>by rw[ho] at ho';simp only[yAa] at ho';subst ho';exact hrd e he hbd
     have hjn:j<n0:=by
      rcases yAB j n0 with h | h
      ·exact h
      ·refine absurd (λi hi=>?_) hfull;rcases yAB i p0 with hip | hip
       ·exact hpl i hip
       ·exact (htl i j hip (by omega) h (by omega)).ready hC hrd'
     refine I.step (S':=Lst (listed.setIfInBounds j true)) T O hC hjn hnj hrd' (λi=>zc1 (by omega) i) _ λa1 w1 M1 Fz1 I1=>?_;refine ih (listed.setIfInBounds j true) M1 Fz1 w1 a1 (by simp[hsz]) ?_ ?_ (λi hi=>(zc1 (by omega) i).2 (.inl (hpl i hi))) ?_ I1
     ·have:=unl_set (N:=ops.size) (listed:=listed) (k:=j) (by omega) hjl hnj;omega
     ·intro i o' e hi ho' he hb;rw[zc1 (by omega)] at hi ⊢;rcases hi with hi | rfl
      ·exact .inl (hC i o' e hi ho' he hb)
      ·exact .inl (hrd' o' e ho' he hb)
     ·intro i hi;rw[zc1 (by omega)] at hi;rcases hi with hi | rfl
      ·exact hlt i hi
      ·exact hjn
 have hsz:∀k,(zc6 ops.size k).size=ops.size:=by
  intro k;induction k with
  |zero=>simp[zc6]
  |succ k ih=>simp[zc6,ih]
 have hl:∀k i,i<ops.size->(Lst (zc6 ops.size k) i↔i<k):=by
  intro k;induction k with
  |zero=>intro i _;simp only[zc6,Lst];rw[getD_replicate_false'];simp
  |succ k ih=>
   intro i hi;by_cases hk:k<ops.size
   ·simp only[zc6];rw[zc1 (by rw[hsz];exact hk),ih i hi];omega
   ·have:(zc6 ops.size k).setIfInBounds k true=zc6 ops.size k:=by
     apply yB2;simp[Array.setIfInBounds,hsz,hk]
    simp only[zc6,this];rw[ih i hi];omega
 have hlo:∀i,Lst (zc6 ops.size p0) i->i<ops.size:=by
  intro i h;unfold Lst at h;rcases yAB i ops.size with h1 | h1
  ·exact h1
  ·rw[yA9,yBp (by rw[hsz];exact h1)] at h;simp at h
 have hun:∀k,k<=ops.size->unl ops.size (zc6 ops.size k)<=ops.size-k:=by
  intro k;induction k with
  |zero=>intro _;unfold unl;exact yAA (List.length_filter_le _ _) (by simp)
  |succ k ih=>intro hk;have:=unl_set (N:=ops.size) (listed:=zc6 ops.size k) (k:=k) (by rw[hsz];omega) (by omega) (λh=>by have:=(hl k k (by omega)).1 h;omega);have:=ih (by omega);simp only[zc6];omega
 refine main (ops.size-p0) _ M Fz w a (hsz _) (hun p0 (by omega)) ?_ (λi hi=>(hl p0 i (by omega)).2 hi) (λi hi=>?_) (Inv.start R rfl E (λi hi=>hl p0 i (by omega)) T O)
 ·intro j o e hj ho he hb;have h1:=(hl p0 j (hlo j hj)).1 hj;have h2:=hback j o e ho he hb;exact (hl p0 e.on (by omega)).2 (by omega)
 ·have:=(hl p0 i (hlo i hi)).1 hi;omega
end
end Go.Abs
end
