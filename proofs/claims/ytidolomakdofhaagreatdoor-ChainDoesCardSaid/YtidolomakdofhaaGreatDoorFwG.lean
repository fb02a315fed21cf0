/- DfwPn, DfwPo, DfwPq, DfwPs, DfwPt, DfwRl, DfwPu, DfwPv, DfwPz, DfwPy -/
import Derived.Test.YtidolomakdofhaaGreatDoorFwF
import Derived.Test.YtidolomakdofhaaGreatDoorFwC
import Derived.Test.YtidolomakdofhaaGreatDoorFwB
set_option linter.all false
section
namespace Go.Abs
noncomputable section
variable[Gl][Y:Ty]
theorem castI_some{c:It}{d:Dat}{a:c.dn}(h:castI c d=some a):d=⟨c,a⟩:=by
 unfold castI at h;split at h
 ·rename_i e _;simp only[yAa] at h;obtain ⟨it,v⟩:=d;dsimp only at e;subst e;subst h;rfl
 ·simp at h
theorem zbG(c:It)(a:c.dn):castI c ⟨c,a⟩=some a:=by
 unfold castI;split
 ·rfl
 ·rename_i hne _;exact absurd rfl hne
theorem toTup_of:∀{cs:List It}{ds:List Dat}{x:tupI cs},toTup cs ds=some x->ofTup cs x=ds:=by
 intro cs;induction cs with
 |nil=>
  intro ds x h;cases ds with
  |nil=>rfl
  |cons d ds=>simp[toTup] at h
 |cons c cs ih=>
  intro ds x h;cases cs with
  |nil=>
   cases ds with
   |nil=>simp[toTup] at h
   |cons d ds=>
    cases ds with
    |nil=>simp only[toTup] at h;simp only[ofTup,castI_some h]
    |cons _ _=>simp[toTup] at h
  |cons c2 cs=>
   cases ds with
   |nil=>simp[toTup] at h
   |cons d ds=>
    simp only[toTup] at h;split at h
    ·rename_i a b h1 h2;simp only[yAa] at h;subst h;simp only[ofTup,castI_some h1,ih h2]
    ·simp at h
structure SR (σs U2:TH):Prop where
 len:U2.length=σs.length
 row:∀(b:Nat) i (l:List (TT i)) lv cv,σs[b]? = some (.row i l lv cv)->U2[b]? = some (.row i l lv cv)
def GS(σs:TH):TC->Prop
 |.own i b v n=>∃(l:List (TT i))(cv:Nat),σs[b]? = some (.row i l v cv)/\n=l.length
 |.d x=>x.low σs.length=true
 |.any=>False
 |.op ..=>False
 |.ap ..=>False
 |.os ..=>False
 |.fna ..=>False
 |_=>True
theorem GS.gc{σs U2:TH}(h:SR σs U2){x:TC}(g:GS σs x):GC U2 x:=by
 cases x with
 |own i b v n=>obtain ⟨l,cv,h1,h2⟩:=g;refine ⟨_,h.row b i l v cv h1,λj l' lv cv' e=>?_⟩;simp only[TB.row.injEq] at e;obtain ⟨rfl,e2,rfl,rfl⟩:=e;cases e2;exact ⟨yAo _,λ_=>⟨rfl,h2⟩⟩
 |d x=>show D.low _ _=true;rw[h.len];exact g
 |any=>exact g.elim
 |op=>exact g.elim
 |ap=>exact g.elim
 |os=>exact g.elim
 |fna=>exact g.elim
 |_=>trivial
theorem expC_gs(σs:TH)(c:CC)(a:c.dn):GS σs (expC c a):=by cases c <;> first | exact True.intro | rfl
theorem pCP_gs{σs:TH}{p:CP}{ds r:List Dat}{y:TC}(h:pCP σs p ds=some (y,r)):GS σs y:=by
 unfold pCP at h;split at h
 ·split at h
  ·simp only[yAa,yAc] at h;obtain ⟨rfl,_⟩:=h;exact expC_gs σs _ _
  ·simp at h
 ·split at h
  ·simp only[yAa,yAc] at h;obtain ⟨rfl,_⟩:=h;trivial
  ·simp at h
 ·split at h
  ·rename_i i l lv cv hb;simp only[yAa,yAc] at h;obtain ⟨rfl,_⟩:=h;exact ⟨l,cv,hb,rfl⟩
  ·simp at h
 ·split at h
  ·rename_i hb;simp only[yAa,yAc] at h;obtain ⟨rfl,_⟩:=h;show D.low _ _=true;simp only[D.low,yAf];exact yAQ.mp hb
  ·simp at h
 ·split at h
  ·rename_i hb;simp only[yAa,yAc] at h;obtain ⟨rfl,_⟩:=h;show D.low _ _=true;simp only[D.low,yAf];exact yAQ.mp hb
  ·simp at h
 ·split at h
  ·rename_i hb;simp only[yAa,yAc] at h;obtain ⟨rfl,_⟩:=h;exact D.low_mono (yB3 _) hb
  ·simp at h
 ·simp at h
theorem pCPs_gs{σs:TH}:∀{ps:List CP}{ds r:List Dat}{ys:List TC},pCPs σs ps ds=some (ys,r)->∀y∈ys,GS σs y:=by
 intro ps;induction ps with
 |nil=>intro ds r ys h;simp only[pCPs,yAa,yAc] at h;obtain ⟨rfl,_⟩:=h;simp
 |cons p ps ih=>
  intro ds r ys h;simp only[pCPs] at h;split at h
  ·rename_i x d1 h1;split at h
   ·rename_i xs r' h2;simp only[yAa,yAc] at h;obtain ⟨rfl,_⟩:=h;intro y hy;rcases yAu.1 hy with rfl | hy
    ·exact pCP_gs h1
    ·exact ih h2 y hy
   ·simp at h
  ·simp at h
theorem RH.mk'{U:TH}(hg:∀(b:Nat) w cs,U[b]? = some (.cells w cs)->∀p∈cs,GC U p.2/\p.1<=w):RH U (U.map TB.er):=⟨by simp,λb blk hb=>⟨blk.er,by rw[yAl,hb];rfl,rfl⟩,hg⟩
theorem RH.eqD{U:TH}{σD:Heap}(H:RH U σD):σD=U.map TB.er:=by
 apply yAM;intro b;rw[yAl];cases hb:U[b]? with
 |none=>have:=yCg.1 hb;rw[<-H.len] at this;rw[yAG this];rfl
 |some blk=>obtain ⟨ob,h1,h2⟩:=H.hp b blk hb;rw[h1,h2];rfl
structure RowsOk (ps:List PC) (U σr:TH):Prop where
 ext:Ext U σr
 len:σr.length=U.length
 cells:∀(b:Nat) w cs,U[b]? = some (.cells w cs)↔σr[b]? = some (.cells w cs)
 out:∀b,b∉ps.map PC.blk->σr[b]? = U[b]?
 row:ps.any PC.rs=false->∀(b:Nat) i (l:List (TT i)) lv cv,U[b]? = some (.row i l lv cv)->σr[b]? = some (.row i l lv cv)
 rh:∃σD',RH σr σD'
theorem pRows_ok:∀{ps:List PC}{U σr:TH}{σD:Heap}{ds r:List Dat},pRows U ps ds=some (σr,r)->RH U σD->RowsOk ps U σr:=by
 intro ps;induction ps with
 |nil=>intro U σr σD ds r h H;simp only[pRows,yAa,yAc] at h;obtain ⟨rfl,_⟩:=h;exact ⟨Ext.refl U,rfl,λb w cs=>Iff.rfl,λb _=>rfl,λ_ b i l lv cv h=>h,⟨σD,H⟩⟩
 |cons p ps ih=>
  intro U σr σD ds r h H;have one:∀(b:Nat)(blk blk1:TB)(ds':List Dat),U[b]? = some blk->BE blk blk1->(∀w cs,blk≠.cells w cs)->(∀w cs,blk1≠.cells w cs)->p.blk=b->(p.rs=false->∀i (l:List (TT i)) lv cv,blk≠.row i l lv cv)->pRows (U.set b blk1) ps ds'=some (σr,r)->RowsOk (p::ps) U σr:=by
   intro b blk blk1 ds' hb be hn hn1 hp hr h;have H1:RH (U.set b blk1) (σD.set b blk1.er):=H.set hb be rfl (λw cs e=>absurd e (hn1 w cs));have e:=ih h H1;refine ⟨Ext.trans H (Ext.set hb be) e.ext,by rw[e.len];simp,λb' w cs=>?_,λb' hb'=>?_,λhrs b' i l lv cv h'=>?_,e.rh⟩
   ·rw[<-e.cells];by_cases hbb:b'=b
    ·subst hbb;rw[hb,zaU hb];simp only[yAa];exact ⟨λe=>absurd e (hn w cs),λe=>absurd e (hn1 w cs)⟩
    ·rw[zay hbb]
   ·simp only[yAw,yAu,not_or,hp] at hb';rw[e.out b' hb'.2,zay hb'.1]
   ·simp only[List.any_cons,yBG] at hrs;refine e.row hrs.2 b' i l lv cv ?_;by_cases hbb:b'=b
    ·subst hbb;rw[hb] at h';simp only[yAa] at h';exact absurd h' (hr hrs.1 i l lv cv)
    ·rw[zay hbb];exact h'
  cases p with
  |h b j p=>simp only[pRows] at h;have e:=ih h H;exact ⟨e.ext,e.len,e.cells,λb' hb'=>e.out b' (λhm=>hb' (yAm _ hm)),λhrs=>e.row (by simpa[PC.rs] using hrs),e.rh⟩
  |w b i=>
   cases ds with
   |nil=>simp[pRows] at h
   |cons d ds=>
    simp only[pRows] at h;split at h
    ·rename_i l j l0 lv cv h1 h2;split at h
     ·rename_i hj;have:=yAi hj;subst this;exact one b _ _ ds h2 ⟨l,_,_,rfl,by omega,by omega,λe=>by omega,λe=>by omega⟩ (λw cs e=>by simp at e) (λw cs e=>by simp at e) rfl (λe=>by simp[PC.rs] at e) h
     ·simp at h
    ·simp at h
  |m b j st=>
   cases ds with
   |nil=>simp[pRows] at h
   |cons d ds=>
    simp only[pRows] at h;split at h
    ·rename_i l j0 st0 l0 v h1 h2;exact one b _ _ ds h2 ⟨_,_,_,_,rfl,by omega,λe=>by omega⟩ (λw cs e=>by simp at e) (λw cs e=>by simp at e) rfl (λ_ i l lv cv e=>by simp at e) h
    ·simp at h
theorem pNew_len:∀{nbs:List NB}{ds r:List Dat}{l:TH},pNew nbs ds=some (l,r)->l.length=nbs.length:=by
 intro nbs;induction nbs with
 |nil=>intro ds r l h;simp only[pNew,yAa,yAc] at h;rw[<-h.1];rfl
 |cons nb nbs ih=>
  intro ds r l h;cases nb with
  |cells ps=>
   simp only[pNew] at h;split at h
   ·rename_i l' r' h1;simp only[yAa,yAc] at h;rw[<-h.1,xAd,ih h1];rfl
   ·simp at h
  |row i=>
   cases ds with
   |nil=>simp[pNew] at h
   |cons d ds=>
    simp only[pNew] at h;split at h
    ·rename_i a l' r' h0 h1;simp only[yAa,yAc] at h;rw[<-h.1,xAd,ih h1];rfl
    ·simp at h
  |mp j st=>
   cases ds with
   |nil=>simp[pNew] at h
   |cons d ds=>
    simp only[pNew] at h;split at h
    ·rename_i a l' r' h0 h1;simp only[yAa,yAc] at h;rw[<-h.1,xAd,ih h1];rfl
    ·simp at h
theorem pNBs_ok{σs:TH}:∀{nbs:List NB}{bs l:TH}{ds:List Dat},pNBs σs nbs bs ds=some l->l.length=nbs.length/\(∀(k:Nat) i (r:List (TT i)) lv cv,bs[k]? = some (.row i r lv cv)->k<nbs.length->(∀ps,nbs[k]?≠some (.cells ps))->l[k]? = some (.row i r lv cv)) /\
  (∀(k:Nat) w cs,l[k]? = some (.cells w cs)->(∃w' cs',bs[k]? = some (.cells w' cs')/\cs=cs'/\w=w')∨∀p∈cs,GS σs p.2/\p.1<=w):=by
 intro nbs;induction nbs with
 |nil=>intro bs l ds h;simp only[pNBs,yAa] at h;subst h;exact ⟨rfl,λk i r lv cv _ hk=>by simp at hk,λk w cs h=>by simp at h⟩
 |cons nb nbs ih=>
  intro bs l ds h;cases bs with
  |nil=>cases nb <;> simp[pNBs] at h
  |cons b bs=>
   have keep:∀l',pNBs σs nbs bs ds=some l'->l=b::l'->l.length=(nb::nbs).length/\(∀(k:Nat) i (r:List (TT i)) lv cv,(b::bs)[k]? = some (.row i r lv cv)->k<(nb::nbs).length->(∀ps,(nb::nbs)[k]?≠some (.cells ps))->l[k]? = some (.row i r lv cv)) /\
     (∀(k:Nat) w cs,l[k]? = some (.cells w cs)->(∃w' cs',(b::bs)[k]? = some (.cells w' cs')/\cs=cs'/\w=w')∨∀p∈cs,GS σs p.2/\p.1<=w):=by
    intro l' h1 e;subst e;obtain ⟨e1,e2,e3⟩:=ih h1;refine ⟨by simp[e1],λk i r lv cv hk hl hn=>?_,λk w cs hk=>?_⟩
    ·cases k with
     |zero=>exact hk
     |succ k=>simp only[List.getElem?_cons_succ] at hk hn ⊢;exact e2 k i r lv cv hk (by simp at hl;omega) hn
    ·cases k with
     |zero=>simp only[List.getElem?_cons_zero,yAa] at hk;exact .inl ⟨w,cs,by rw[xAf,hk],rfl,rfl⟩
     |succ k=>simp only[List.getElem?_cons_succ] at hk ⊢;exact e3 k w cs hk
   cases nb with
   |row i=>
    simp only[pNBs] at h;split at h
    ·rename_i l' h1;simp only[yAa] at h;exact keep l' h1 h.symm
    ·simp at h
   |mp j st=>
    simp only[pNBs] at h;split at h
    ·rename_i l' h1;simp only[yAa] at h;exact keep l' h1 h.symm
    ·simp at h
   |cells ps=>
    simp only[pNBs] at h;split at h
    ·rename_i xs r h1;split at h
     ·rename_i l' h2;simp only[yAa] at h;subst h;obtain ⟨e1,e2,e3⟩:=ih h2;refine ⟨by simp[e1],λk i r lv cv hk hl hn=>?_,λk w cs hk=>?_⟩
      ·cases k with
       |zero=>exact absurd rfl (hn ps)
       |succ k=>simp only[List.getElem?_cons_succ] at hk hn ⊢;exact e2 k i r lv cv hk (by simp at hl;omega) hn
      ·cases k with
       |zero=>simp only[List.getElem?_cons_zero,yAa,TB.cells.injEq] at hk;obtain ⟨rfl,rfl⟩:=hk;refine .inr λp hp=>?_;rw[yA4] at hp;obtain ⟨x,hx,rfl⟩:=hp;exact ⟨pCPs_gs h1 x hx,yAo _⟩
       |succ k=>simp only[List.getElem?_cons_succ] at hk ⊢;exact e3 k w cs hk
     ·simp at h
    ·simp at h
theorem pNew_cells:∀{nbs:List NB}{ds r:List Dat}{l:TH},pNew nbs ds=some (l,r)->∀(k:Nat),(∀w cs,l[k]? = some (.cells w cs)->cs=[])/\(∀ps,nbs[k]? = some (.cells ps)->l[k]? = some (.cells 0 [])):=by
 intro nbs;induction nbs with
 |nil=>intro ds r l h k;simp only[pNew,yAa,yAc] at h;rw[<-h.1];exact ⟨λw cs e=>by simp at e,λps e=>by simp at e⟩
 |cons nb nbs ih=>
  intro ds r l h k;cases nb with
  |cells ps=>
   simp only[pNew] at h;split at h
   ·rename_i l' r' h1;simp only[yAa,yAc] at h;rw[<-h.1];cases k with
    |zero=>exact ⟨λw cs e=>by simp only[List.getElem?_cons_zero,yAa,TB.cells.injEq] at e;exact e.2.symm,λps e=>rfl⟩
    |succ k=>simp only[List.getElem?_cons_succ];exact ih h1 k
   ·simp at h
  |row i=>
   cases ds with
   |nil=>simp[pNew] at h
   |cons d ds=>
    simp only[pNew] at h;split at h
    ·rename_i a l' r' h0 h1;simp only[yAa,yAc] at h;rw[<-h.1];cases k with
     |zero=>exact ⟨λw cs e=>by simp at e,λps e=>by simp at e⟩
     |succ k=>simp only[List.getElem?_cons_succ];exact ih h1 k
    ·simp at h
  |mp j st=>
   cases ds with
   |nil=>simp[pNew] at h
   |cons d ds=>
    simp only[pNew] at h;split at h
    ·rename_i a l' r' h0 h1;simp only[yAa,yAc] at h;rw[<-h.1];cases k with
     |zero=>exact ⟨λw cs e=>by simp at e,λps e=>by simp at e⟩
     |succ k=>simp only[List.getElem?_cons_succ];exact ih h1 k
    ·simp at h
structure ClsOk (σs:TH) (ps:List PC) (U U':TH):Prop where
 len:U'.length=U.length
 same:∀(b:Nat) blk,U[b]? = some blk->(∀w cs,blk≠.cells w cs)->U'[b]? = some blk
 fwd:∀(b:Nat) w cs,U[b]? = some (.cells w cs)->∃w' cs',U'[b]? = some (.cells w' cs')/\w<=w'/\cs'.length=cs.length/\∀(j:Nat) v1 x1,cs'[j]? = some (v1,x1)->cs[j]? = some (v1,x1)∨(w<v1/\v1<=w'/\GS σs x1)
 out:∀b,b∉ps.map PC.blk->U'[b]? = U[b]?
theorem pPCs_ok{σs:TH}:∀{ps:List PC}{U U':TH}{ds r:List Dat},pPCs σs ps U ds=some (U',r)->ClsOk σs ps U U':=by
 intro ps;induction ps with
 |nil=>intro U U' ds r h;simp only[pPCs,yAa,yAc] at h;obtain ⟨rfl,_⟩:=h;exact ⟨rfl,λb blk h _=>h,λb w cs h=>⟨w,cs,h,yAo _,rfl,λj v1 x1 e=>.inl e⟩,λb _=>rfl⟩
 |cons p ps ih=>
  intro U U' ds r h;have skip:pPCs σs ps U ds=some (U',r)->ClsOk σs (p::ps) U U':=λh=>by have e:=ih h;exact ⟨e.len,e.same,e.fwd,λb hb=>e.out b λhm=>hb (yAm _ hm)⟩
  cases p with
  |w b i=>exact skip (by simpa only[pPCs] using h)
  |m b j st=>exact skip (by simpa only[pPCs] using h)
  |h b j p=>
   simp only[pPCs] at h;split at h
   ·rename_i x r' w cs h1 h2;have g:=pCP_gs h1;have e:=ih h;refine ⟨by rw[e.len];simp,λb' blk hb hn=>?_,λb' w0 cs0 hb=>?_,λb' hb=>?_⟩
    ·refine e.same b' blk ?_ hn;by_cases hbb:b'=b
     ·subst hbb;rw[h2] at hb;simp only[yAa] at hb;exact absurd hb.symm (hn w cs)
     ·rw[zay hbb];exact hb
    ·by_cases hbb:b'=b
     ·subst hbb;rw[h2] at hb;simp only[yAa,TB.cells.injEq] at hb;obtain ⟨rfl,rfl⟩:=hb;obtain ⟨w2,cs2,e1,e2,e3,e4⟩:=e.fwd b' _ _ (zaU h2);refine ⟨w2,cs2,e1,by omega,by rw[e3];simp,λj' v1 x1 hj=>?_⟩;rcases e4 j' v1 x1 hj with h5 | ⟨h5,h6,h7⟩
      ·by_cases hjj:j=j'
       ·subst hjj;rw[yAK] at h5;rw[if_pos rfl] at h5;split at h5
        ·simp only[yAa,yAc] at h5;obtain ⟨rfl,rfl⟩:=h5;exact .inr ⟨by omega,by omega,g⟩
        ·simp at h5
       ·rw[yAD hjj] at h5;exact .inl h5
      ·exact .inr ⟨by omega,h6,h7⟩
     ·exact e.fwd b' w0 cs0 (by rw[zay hbb];exact hb)
    ·simp only[yAw,yAu,not_or,PC.blk] at hb;rw[e.out b' hb.2,zay hb.1]
   ·simp at h
def eD:TV->D
 |.c x=>x.er
 |.agg xs=>.agg (xs.map TC.er)
 |.tup _=>.tup []
def nT:TV->Prop
 |.tup _=>False
 |_=>True
def GVs(σs:TH):TV->Prop
 |.c x=>GS σs x
 |.agg xs=>∀x∈xs,GS σs x
 |.tup _=>False
theorem GS.fp(σs:TH)(i:Nat)(a:TT i):GS σs (.fp i a 0):=True.intro
theorem exp_gs(σs:TH)(i:Nat)(a:TT i):∀y∈exp i a,GS σs y:=by
 have key:∀(cs:List CC)(x:tup cs),∀y∈expT cs x,GS σs y:=by
  intro cs;induction cs with
  |nil=>intro x y h;simp[expT] at h
  |cons c cs ih=>
   intro x y h;simp only[expT,yAu] at h;rcases h with rfl | h
   ·exact expC_gs σs c x.1
   ·exact ih x.2 y h
 exact key _ _
theorem pRO_gs{σs:TH}{p:RO}{ds r:List Dat}{v:TV}(h:pRO σs p ds=some (v,r)):GVs σs v:=by
 unfold pRO at h;split at h
 ·split at h
  ·simp only[yAa,yAc] at h;obtain ⟨rfl,_⟩:=h;exact expC_gs σs _ _
  ·simp at h
 ·split at h
  ·simp only[yAa,yAc] at h;obtain ⟨rfl,_⟩:=h;exact exp_gs σs _ _
  ·simp at h
 ·split at h
  ·simp only[yAa,yAc] at h;obtain ⟨rfl,_⟩:=h;exact True.intro
  ·simp at h
 ·split at h
  ·rename_i x r' h1;simp only[yAa,yAc] at h;obtain ⟨rfl,_⟩:=h;exact pCP_gs h1
  ·simp at h
 ·split at h
  ·rename_i xs r' h1;simp only[yAa,yAc] at h;obtain ⟨rfl,_⟩:=h;exact pCPs_gs h1
  ·simp at h
 ·simp at h
theorem pROs_gs{σs:TH}:∀{ps:List RO}{ds r:List Dat}{vs:List TV},pROs σs ps ds=some (vs,r)->∀v∈vs,GVs σs v:=by
 intro ps;induction ps with
 |nil=>intro ds r vs h;simp only[pROs,yAa,yAc] at h;obtain ⟨rfl,_⟩:=h;simp
 |cons p ps ih=>
  intro ds r vs h;simp only[pROs] at h;split at h
  ·rename_i x d1 h1;split at h
   ·rename_i xs r' h2;simp only[yAa,yAc] at h;obtain ⟨rfl,_⟩:=h;intro v hv;rcases yAu.1 hv with rfl | hv
    ·exact pRO_gs h1
    ·exact ih h2 v hv
   ·simp at h
  ·simp at h
theorem GVs.gv{σs U2:TH}(h:SR σs U2){v:TV}(g:GVs σs v):GV U2 v:=by
 cases v with
 |c x=>exact GS.gc h g
 |agg xs=>exact λx hx=>GS.gc h (g x hx)
 |tup xs=>exact g.elim
theorem GVs.nt{σs:TH}{v:TV}(g:GVs σs v):nT v:=by
 cases v with
 |tup xs=>exact g.elim
 |_=>trivial
theorem RT.eD{v:TV}(h:nT v):RT v (eD v):=by
 cases v with
 |c x=>exact .inr rfl
 |agg xs=>exact ⟨_,rfl,All2.er xs⟩
 |tup xs=>exact h.elim
theorem oneT_rt{vs:List TV}(h:∀v∈vs,nT v):RT (oneT vs) (one (vs.map Go.Abs.eD)):=by
 have tup:∀(vs:List TV),(∀v∈vs,nT v)->All2 RE (vs.map teT) (vs.map Go.Abs.eD):=by
  intro vs;induction vs with
  |nil=>intro _;exact .nil
  |cons v vs ih=>
   intro h;refine .cons ?_ (ih λv hv=>h v (yAm _ hv));have:=h v (yAq ..);cases v with
   |c x=>exact ⟨x,rfl,.inr rfl⟩
   |agg xs=>exact ⟨_,rfl,All2.er xs⟩
   |tup xs=>exact this.elim
 cases vs with
 |nil=>exact ⟨[],rfl,.nil⟩
 |cons v vs=>
  cases vs with
  |nil=>exact RT.eD (h v (yAq ..))
  |cons v2 vs=>exact ⟨_,rfl,tup _ h⟩
theorem oneT_gv{U:TH}{vs:List TV}(h:∀v∈vs,GV U v):GV U (oneT vs):=by
 have tup:∀(vs:List TV),(∀v∈vs,GV U v)->GV U (.tup (vs.map teT)):=by
  intro vs h p hp x hx;rw[yA4] at hp;obtain ⟨v,hv,rfl⟩:=hp;have:=h v hv;cases v with
  |c y=>simp only[teT,yAu,yBC,or_false] at hx;subst hx;exact this
  |agg ys=>exact this x hx
  |tup ys=>simp[teT] at hx
 cases vs with
 |nil=>exact tup _ h
 |cons v vs=>
  cases vs with
  |nil=>exact h v (yAq ..)
  |cons v2 vs=>exact tup _ h
theorem pRows_in:∀{ps:List PC}{U σr:TH}{ds r:List Dat},pRows U ps ds=some (σr,r)->∀p∈ps,(∃b i,p=.w b i)∨(∃b j st,p=.m b j st)->p.blk<U.length:=by
 intro ps;induction ps with
 |nil=>intro U σr ds r h p hp;simp at hp
 |cons p ps ih=>
  intro U σr ds r h q hq hw;cases p with
  |h b j c=>
   simp only[pRows] at h;rcases yAu.1 hq with rfl | hq
   ·rcases hw with ⟨_,_,e⟩ | ⟨_,_,_,e⟩ <;> simp at e
   ·exact ih h q hq hw
  |w b i=>
   cases ds with
   |nil=>simp[pRows] at h
   |cons d ds=>
    simp only[pRows] at h;split at h
    ·rename_i l j l0 lv cv h1 h2;split at h
     ·rcases yAu.1 hq with rfl | hq
      ·exact (yAb.1 h2).1
      ·have:=ih h q hq hw;rwa [yAI] at this
     ·simp at h
    ·simp at h
  |m b j st=>
   cases ds with
   |nil=>simp[pRows] at h
   |cons d ds=>
    simp only[pRows] at h;split at h
    ·rename_i l j0 st0 l0 v h1 h2;rcases yAu.1 hq with rfl | hq
     ·exact (yAb.1 h2).1
     ·have:=ih h q hq hw;rwa [yAI] at this
    ·simp at h
theorem pPCs_in{σs:TH}:∀{ps:List PC}{U U':TH}{ds r:List Dat},pPCs σs ps U ds=some (U',r)->∀b j p,PC.h b j p∈ps->b<U.length:=by
 intro ps;induction ps with
 |nil=>intro U U' ds r h b j p hp;simp at hp
 |cons q ps ih=>
  intro U U' ds r h b j p hp;cases q with
  |w b' i=>simp only[pPCs] at h;rcases yAu.1 hp with e | hp;simp at e;exact ih h b j p hp
  |m b' j' st=>simp only[pPCs] at h;rcases yAu.1 hp with e | hp;simp at e;exact ih h b j p hp
  |h b' j' p'=>
   simp only[pPCs] at h;split at h
   ·rename_i x r' w cs h1 h2;rcases yAu.1 hp with e | hp
    ·simp only[PC.h.injEq] at e;obtain ⟨rfl,_⟩:=e;exact (yAb.1 h2).1
    ·have:=ih h b j p hp;rwa [yAI] at this
   ·simp at h
structure Laid (ct:CT) (U:TH) (ds:List Dat) (rv:List TV) (F:TH) where
 σr:TH
 d1:List Dat
 nb:TH
 d2:List Dat
 d3:List Dat
 U2:TH
 d4:List Dat
 l:TH
 h1:pRows U ct.pl ds=some (σr,d1)
 h2:pNew ct.nb d1=some (nb,d2)
 h3:pROs (σr++nb) ct.out d2=some (rv,d3)
 h4:pPCs (σr++nb) ct.pl σr d3=some (U2,d4)
 h5:pNBs (σr++nb) ct.nb nb d4=some l
 e:F=U2++l
theorem putI_laid{ct:CT}{U F:TH}{x:tupI ct.items}{rv:List TV}(h:putI ct U x=some (rv,F)):Nonempty (Laid ct U (ofTup ct.items x) rv F):=by
 unfold putI at h;split at h
 ·simp at h
 ·rename_i σr d1 h1;split at h
  ·simp at h
  ·rename_i nb d2 h2;split at h
   ·simp at h
   ·rename_i vs d3 h3;split at h
    ·simp at h
    ·rename_i U2 d4 h4;split at h
     ·rename_i l h5;simp only[yAa,yAc] at h;obtain ⟨rfl,rfl⟩:=h;exact ⟨⟨σr,d1,nb,d2,d3,U2,d4,l,h1,h2,h3,h4,h5,rfl⟩⟩
     ·simp at h
section
variable{ct:CT}{U F:TH}{σD:Heap}{ds:List Dat}{rv:List TV}
theorem Laid.fl(L:Laid ct U ds rv F):F.length=L.U2.length+L.l.length:=by have:=yCj List.length L.e;rwa [yAC] at this
theorem Laid.fa(L:Laid ct U ds rv F)(b:Nat):F[b]? = (L.U2++L.l)[b]?:=yCj (λl=>l[b]?) L.e
theorem Laid.sr(L:Laid ct U ds rv F):SR (L.σr++L.nb) F:=by
 have C:=pPCs_ok L.h4;obtain ⟨n1,n2,n3⟩:=pNBs_ok L.h5;refine ⟨by rw[L.fl,yAC,C.len,n1,pNew_len L.h2],λb i l lv cv hb=>?_⟩;rw[L.fa];rcases yAB b L.σr.length with hlt | hge
 ·rw[yAr hlt] at hb;rw[yAr (by rw[C.len];exact hlt)];exact C.same b _ hb (λw cs e=>by simp at e)
 ·rw[yA0 hge] at hb;rw[yA0 (by rw[C.len];exact hge),C.len];refine n2 _ i l lv cv hb (by rw[<-pNew_len L.h2];exact (yAb.1 hb).1) λps e=>?_;rw[(pNew_cells L.h2 _).2 ps e] at hb;simp at hb
theorem Laid.lt(L:Laid ct U ds rv F)(H:RH U σD){b:Nat}(h:b<U.length):F[b]? = L.U2[b]?:=by have C:=pPCs_ok L.h4;have Ro:=pRows_ok L.h1 H;rw[L.fa,yAr (by rw[C.len,Ro.len];exact h)]
theorem Laid.ext(L:Laid ct U ds rv F)(H:RH U σD):Ext U F:=by
 have C:=pPCs_ok L.h4;have Ro:=pRows_ok L.h1 H;obtain ⟨σD',Hr⟩:=Ro.rh;refine Ext.trans H Ro.ext λb blk hb=>?_;have hlt:b<U.length:=by rw[<-Ro.len];exact (yAb.1 hb).1
 rw[L.lt H hlt];have other:(∀w cs,blk≠.cells w cs)->∃blk1,L.U2[b]? = some blk1/\BE blk blk1:=λhn=>⟨blk,C.same b blk hb hn,BE.refl blk⟩;cases blk with
 |cells w cs=>
  obtain ⟨w',cs',e1,e2,e3,e4⟩:=C.fwd b w cs hb;refine ⟨_,e1,w',cs',rfl,e2,e3,λj v x v1 x1 h h1=>?_⟩;rcases e4 j v1 x1 h1 with h5 | h5
  ·rw[h] at h5;simp only[yAa,yAc] at h5;exact .inl ⟨h5.1.symm,h5.2.symm⟩
  ·exact .inr h5.1
 |row i l lv cv=>exact other λw cs e=>by simp at e
 |mp j st l v=>exact other λw cs e=>by simp at e
theorem Laid.rh(L:Laid ct U ds rv F)(H:RH U σD):RH F (F.map TB.er):=by
 have C:=pPCs_ok L.h4;have Ro:=pRows_ok L.h1 H;have S:=L.sr;obtain ⟨σD',Hr⟩:=Ro.rh;obtain ⟨n1,n2,n3⟩:=pNBs_ok L.h5;have er:Ext L.σr F:=λb blk hb=>by
  have hlt:b<U.length:=by rw[<-Ro.len];exact (yAb.1 hb).1
  rw[L.lt H hlt];have other:(∀w cs,blk≠.cells w cs)->∃blk1,L.U2[b]? = some blk1/\BE blk blk1:=λhn=>⟨blk,C.same b blk hb hn,BE.refl blk⟩;cases blk with
  |cells w cs=>
   obtain ⟨w',cs',e1,e2,e3,e4⟩:=C.fwd b w cs hb;refine ⟨_,e1,w',cs',rfl,e2,e3,λj v x v1 x1 h h1=>?_⟩;rcases e4 j v1 x1 h1 with h5 | h5
   ·rw[h] at h5;simp only[yAa,yAc] at h5;exact .inl ⟨h5.1.symm,h5.2.symm⟩
   ·exact .inr h5.1
  |row i l lv cv=>exact other λw cs e=>by simp at e
  |mp j st l v=>exact other λw cs e=>by simp at e
 refine RH.mk' λb w cs hb p hp=>?_;rcases yAB b U.length with hlt | hge
 ·rw[L.lt H hlt] at hb;have hr:=yAg (show b<L.σr.length by rw[Ro.len];exact hlt);cases hblk:L.σr[b]'(by rw[Ro.len];exact hlt) with
  |row i l lv cv=>rw[hblk] at hr;rw[C.same b _ hr (λw cs e=>by simp at e)] at hb;simp at hb
  |mp j st l v=>rw[hblk] at hr;rw[C.same b _ hr (λw cs e=>by simp at e)] at hb;simp at hb
  |cells w0 cs0=>
   rw[hblk] at hr;obtain ⟨w',cs',e1,e2,e3,e4⟩:=C.fwd b w0 cs0 hr;rw[hb] at e1;simp only[yAa,TB.cells.injEq] at e1;obtain ⟨rfl,rfl⟩:=e1;obtain ⟨j,hj⟩:=yBt hp;obtain ⟨v1,x1⟩:=p;rcases e4 j v1 x1 hj with h5 | ⟨h5,h6,h7⟩
   ·obtain ⟨h8,h9⟩:=Hr.hg b w0 cs0 hr _ (yAy h5);exact ⟨h8.mono er,yAA h9 e2⟩
   ·exact ⟨GS.gc S h7,h6⟩
 ·have hlen:L.U2.length=U.length:=by rw[C.len,Ro.len]
  rw[L.fa,yA0 (by rw[hlen];exact hge)] at hb;rcases n3 _ w cs hb with ⟨w',cs',h1,rfl,rfl⟩ | h1
  ·rw[(pNew_cells L.h2 _).1 w cs h1] at hp;simp at hp
  ·exact ⟨GS.gc S (h1 p hp).1,(h1 p hp).2⟩
theorem Laid.out(L:Laid ct U ds rv F)(H:RH U σD){b:Nat}(hb:b<U.length)(hn:b∉ct.pl.map PC.blk):F[b]? = U[b]?:=by rw[L.lt H hb,(pPCs_ok L.h4).out b hn,(pRows_ok L.h1 H).out b hn]
theorem Laid.szs(L:Laid ct U ds rv F)(H:RH U σD)(hr:ct.pl.any PC.rs=false){b:Nat}(hb:b<U.length):∃x y,U[b]? = some x/\F[b]? = some y/\x.er.sz=y.er.sz:=by
 have C:=pPCs_ok L.h4;have Ro:=pRows_ok L.h1 H;have hx:=yAg hb;cases hblk:U[b] with
 |cells w cs=>rw[hblk] at hx;obtain ⟨w',cs',e1,e2,e3,e4⟩:=C.fwd b w cs ((Ro.cells b w cs).1 hx);exact ⟨_,_,hx,by rw[L.lt H hb];exact e1,by simp[TB.er,Ob.sz,e3]⟩
 |row i l lv cv=>rw[hblk] at hx;exact ⟨_,_,hx,by rw[L.lt H hb];exact C.same b _ (Ro.row hr b i l lv cv hx) (λw cs e=>by simp at e),rfl⟩
 |mp j st l v=>rw[hblk] at hx;obtain ⟨blk1,h1,j1,st1,l1,v1,rfl,_⟩:=L.ext H b _ hx;exact ⟨_,_,hx,h1,rfl⟩
theorem Laid.all(L:Laid ct U ds rv F)(H:RH U σD):RH F (F.map TB.er)/\RT (oneT rv) (one (rv.map eD))/\GV F (oneT rv)/\Ext U F/\(∀b,b<σD.length->b∉ct.pl.map PC.blk->(F.map TB.er)[b]? = σD[b]?)/\(ct.pl.any PC.rs=false->wrOk σD (F.map TB.er) (ct.pl.map PC.blk)=true):=by
 have g:=pROs_gs L.h3;refine ⟨L.rh H,oneT_rt λv hv=>(g v hv).nt,oneT_gv λv hv=>(g v hv).gv L.sr,L.ext H,λb hb hn=>?_,λhr=>?_⟩
 ·rw[H.eqD,yAl,yAl,L.out H (by rw[<-H.len];exact hb) hn]
 ·rw[H.eqD,wrOk,yAp];intro b hb;rw[yA4] at hb;obtain ⟨p,hp,rfl⟩:=hb;have hlt:p.blk<U.length:=by
   cases p with
   |w b i=>exact pRows_in L.h1 _ hp (.inl ⟨b,i,rfl⟩)
   |m b j st=>exact pRows_in L.h1 _ hp (.inr ⟨b,j,st,rfl⟩)
   |h b j c=>have:=pPCs_in L.h4 b j c hp;rwa [(pRows_ok L.h1 H).len] at this
  obtain ⟨x,y,h1,h2,h3⟩:=L.szs H hr hlt;rw[yAl,yAl,h1,h2];simp only[Option.map_some,h3,yCk]
end
end
end Go.Abs
end
section
namespace Go.Abs
noncomputable section
variable[Gl][Y:Ty]
structure Mo (s s':MS):Prop where
 rho:∀b o,rhoK b s.ρ=some o->rhoK b s'.ρ=some o
 fz:∀b,b∈s.fz->b∈s'.fz
theorem Mo.refl(s:MS):Mo s s:=⟨λ_ _ h=>h,λ_ h=>h⟩
theorem Mo.trans{a b c:MS}(h:Mo a b)(h':Mo b c):Mo a c:=⟨λx o e=>h'.rho x o (h.rho x o e),λx e=>h'.fz x (h.fz x e)⟩
structure MI (m:Nat) (U1:TH) (s:MS):Prop where
 ge:∀p∈s.ρ,m<=p.1/\m<=p.2
 fz:∀b∈s.fz,∃(i:Nat)(l:List (TT i))(lv cv:Nat),U1[b]? = some (.row i l lv cv)
def Bd(m:Nat)(s:MS)(b b':Nat):Prop:=(b<m/\b'=b)∨(m<=b/\rhoK b s.ρ=some b')
theorem Bd.mono{m:Nat}{s s':MS}{b b':Nat}(h:Mo s s'):Bd m s b b'->Bd m s' b b'
 |.inl a=>.inl a
 |.inr a=>.inr ⟨a.1,h.rho _ _ a.2⟩
def CM(m:Nat)(U1 σs:TH)(s:MS)(x y:TC):Prop:=
 (DLe x.er y.er/\y.er.low 0=true/\(x=.d (.c (.lit (.slice none 0 0)))∨x.er=y.er)) ∨
 (∃(i b v:Nat)(l:List (TT i))(cv:Nat),x=.own i b v l.length/\b∈s.fz/\U1[b]? = some (.row i l v cv)/\y.er=.c (.frz false (l.map (enc i)))) ∨
 (∃(i b b' v:Nat)(l0:List (TT i))(cv0 j lv:Nat)(l:List (TT j))(cv:Nat),x=.own i b' v l0.length/\Bd m s b b'/\U1[b']? = some (.row i l0 v cv0)/\y=.own j b lv l.length/\σs[b]? = some (.row j l lv cv)) ∨
 (∃b b' off sz,x=.d (.ptr b' off sz)/\Bd m s b b'/\y=.d (.ptr b off sz)/\b<σs.length) ∨
 (∃b b',x=.d (.mp b')/\Bd m s b b'/\y=.d (.mp b)/\b<σs.length)
variable{m:Nat}{U U1 σs:TH}{s s':MS}
theorem CM.mono(h:Mo s s'){x y:TC}(c:CM m U1 σs s x y):CM m U1 σs s' x y:=by
 rcases c with c | ⟨i,b,v,l,cv,h1,h2,h3,h4⟩ | ⟨i,b,b',v,l0,cv0,j,lv,l,cv,h1,h2,h3,h4,h5⟩ | ⟨b,b',off,sz,h1,h2,h3,h4⟩ | ⟨b,b',h1,h2,h3,h4⟩
 ·exact .inl c
 ·exact .inr (.inl ⟨i,b,v,l,cv,h1,h.fz _ h2,h3,h4⟩)
 ·exact .inr (.inr (.inl ⟨i,b,b',v,l0,cv0,j,lv,l,cv,h1,h2.mono h,h3,h4,h5⟩))
 ·exact .inr (.inr (.inr (.inl ⟨b,b',off,sz,h1,h2.mono h,h3,h4⟩)))
 ·exact .inr (.inr (.inr (.inr ⟨b,b',h1,h2.mono h,h3,h4⟩)))
theorem All2.mono{α β:Type}{R R':α->β->Prop}(h:∀a b,R a b->R' a b){l:List α}{l':List β}(a:All2 R l l'):All2 R' l l':=by
 induction a with
 |nil=>exact .nil
 |cons x _ ih=>exact .cons (h _ _ x) ih
theorem CM.data{c:CC}{x:TC}{a:c.dn}(h:rdC c x=some a):CM m U1 σs s x (expC c a):=by have h1:=rdC_ok h;refine .inl ⟨?_,by rw[expC_er];rfl,by rw[expC_er];exact rdC_ex h⟩;rw[expC_er,<-h1.2];intro U M Fz w v hv;exact nrm1xok hv
theorem frT_cm{c:CC}{x:TC}{a:c.dn}(h:rdC c (frT U1 x)=some a)(g:GC U1 x):(∀b∈ownsT [x],∃(i:Nat)(l:List (TT i))(lv cv:Nat),U1[b]? = some (.row i l lv cv))/\∀m σs s,(∀b∈ownsT [x],b∈s.fz)->CM m U1 σs s x (expC c a):=by
 cases x with
 |own i b v n=>
  simp only[frT] at h;split at h
  ·rename_i j l lv cv hb;split at h
   ·rename_i he;have:=yAi he;subst this;obtain ⟨blk,h1,h2⟩:=g;rw[hb] at h1;simp only[yAa] at h1;obtain ⟨_,h3⟩:=h2 _ _ _ _ h1.symm;obtain ⟨rfl,rfl⟩:=h3 rfl;refine ⟨λb' hb'=>?_,λm σs s hs=>.inr (.inl ⟨j,b,lv,l,cv,rfl,hs b (by simp[ownsT]),hb,?_⟩)⟩
    ·simp only[ownsT,yAu,yBC,or_false] at hb';subst hb';exact ⟨j,l,lv,cv,hb⟩
    ·have h4:=rdC_ok h;rw[expC_er,<-h4.2];rfl
   ·simp[rdC] at h
  ·simp[rdC] at h
 |_=>exact ⟨by simp[ownsT],λm σs s _=>CM.data h⟩
theorem eqK_eq{d d':D}(h:eqK d d'=true):d=d':=by
 unfold eqK at h;split at h
 ·rfl
 ·rfl
 ·rfl
 ·rfl
 ·rw[yAi h]
 ·simp only[yAj,yAf] at h;rw[h.1,h.2]
 ·simp at h
theorem bindR_ok{b b':Nat}(h:bindR m b b' s=some s'):Mo s s'/\s'.rw=s.rw/\s'.cl=s.cl/\Bd m s' b b'/\(MI m U1 s->MI m U1 s'):=by
 unfold bindR at h;split at h
 ·rename_i hlt;split at h
  ·rename_i he;simp only[yAa] at h;subst h;exact ⟨Mo.refl s,rfl,rfl,.inl ⟨yAQ.mp hlt,(yAi he).symm⟩,id⟩
  ·simp at h
 ·rename_i hlt;have hge:m<=b:=by
   rcases yAB b m with h' | h'
   ·rw[yAQ.mpr h'] at hlt;simp at hlt
   ·exact h'
  split at h
  ·rename_i o ho;split at h
   ·rename_i he;simp only[yAa] at h;subst h;have:=yAi he;subst this;exact ⟨Mo.refl s,rfl,rfl,.inr ⟨hge,ho⟩,id⟩
   ·simp at h
  ·rename_i ho;split at h
   ·rename_i hle;simp only[yAa] at h;subst h;refine ⟨⟨λq o hq=>?_,λ_ h=>h⟩,rfl,rfl,.inr ⟨hge,?_⟩,λI=>⟨λp hp=>?_,I.fz⟩⟩
    ·simp only[rhoK];split
     ·rename_i hb;have:=yAi hb;subst this;rw[ho] at hq;simp at hq
     ·exact hq
    ·simp only[rhoK,Nat.beq_refl]
    ·rcases yAu.1 hp with rfl | hp
     ·exact ⟨hge,yA8 hle⟩
     ·exact I.ge p hp
   ·simp at h
theorem mCP_ok{p:CP}{x:TC}(h:mCP m U1 p x s=some s')(g:GC U1 x):∃Lc,s'.cl=s.cl++Lc/\s'.rw=s.rw/\Mo s s'/\(MI m U1 s->MI m U1 s')/\∀σs rest y r,pCP σs p (Lc++rest)=some (y,r)->r=rest/\CM m U1 σs s' x y:=by
 unfold mCP at h;split at h
 ·rename_i c i b v n;split at h
  ·rename_i a ha;simp only[yAa] at h;subst h;obtain ⟨h1,h2⟩:=frT_cm ha g;refine ⟨_,rfl,rfl,⟨λ_ _ h=>h,λ_ h=>yAm _ h⟩,λI=>⟨I.ge,λb' hb'=>?_⟩,λσs rest y r hy=>?_⟩
   ·rcases yAu.1 hb' with rfl | hb'
    ·exact h1 _ (by simp[ownsT])
    ·exact I.fz b' hb'
   ·simp only[List.singleton_append,pCP,zbG,yAa,yAc] at hy;obtain ⟨rfl,rfl⟩:=hy;exact ⟨rfl,h2 m σs _ (by simp[ownsT])⟩
  ·simp at h
 ·rename_i c x hx;split at h
  ·rename_i a ha;simp only[yAa] at h;subst h;refine ⟨_,rfl,rfl,⟨λ_ _ h=>h,λ_ h=>h⟩,λI=>⟨I.ge,I.fz⟩,λσs rest y r hy=>?_⟩;simp only[List.singleton_append,pCP,zbG,yAa,yAc] at hy;obtain ⟨rfl,rfl⟩:=hy;exact ⟨rfl,CM.data ha⟩
  ·simp at h
 ·rename_i u v;simp only[yAa] at h;subst h;refine ⟨_,rfl,rfl,⟨λ_ _ h=>h,λ_ h=>h⟩,λI=>⟨I.ge,I.fz⟩,λσs rest y r hy=>?_⟩;simp only[List.singleton_append,pCP,zbG,yAa,yAc] at hy;obtain ⟨rfl,rfl⟩:=hy;exact ⟨rfl,.inl ⟨λ_ _ _ _ _ h=>h,rfl,.inr rfl⟩⟩
 ·rename_i b i b' v n;split at h
  ·rename_i j l lv cv hb;split at h
   ·rename_i he;have:=yAi he;subst this;obtain ⟨blk,h1,h2⟩:=g;rw[hb] at h1;simp only[yAa] at h1;obtain ⟨_,h3⟩:=h2 _ _ _ _ h1.symm;obtain ⟨rfl,rfl⟩:=h3 rfl;obtain ⟨q1,q2,q3,q4,q5⟩:=bindR_ok (U1:=U1) h;refine ⟨[],by rw[q3,yBv],q2,q1,q5,λσs rest y r hy=>?_⟩;simp only[List.nil_append,pCP] at hy;split at hy
    ·rename_i i' l' lv' cv' hs;simp only[yAa,yAc] at hy;obtain ⟨rfl,rfl⟩:=hy;exact ⟨rfl,.inr (.inr (.inl ⟨_,b,b',_,l,cv,i',lv',l',cv',rfl,q4,hb,rfl,hs⟩))⟩
    ·simp at hy
   ·simp at h
  ·simp at h
 ·rename_i b off sz b' off' sz';split at h
  ·rename_i he;simp only[yAj] at he;have e1:=yAi he.1;have e2:=yAi he.2;subst e1 e2;obtain ⟨q1,q2,q3,q4,q5⟩:=bindR_ok (U1:=U1) h;refine ⟨[],by rw[q3,yBv],q2,q1,q5,λσs rest y r hy=>?_⟩;simp only[List.nil_append,pCP] at hy;split at hy
   ·rename_i hb;simp only[yAa,yAc] at hy;obtain ⟨rfl,rfl⟩:=hy;exact ⟨rfl,.inr (.inr (.inr (.inl ⟨b,b',off,sz,rfl,q4,rfl,yAQ.mp hb⟩)))⟩
   ·simp at hy
  ·simp at h
 ·rename_i b b';obtain ⟨q1,q2,q3,q4,q5⟩:=bindR_ok (U1:=U1) h;refine ⟨[],by rw[q3,yBv],q2,q1,q5,λσs rest y r hy=>?_⟩;simp only[List.nil_append,pCP] at hy;split at hy
  ·rename_i hb;simp only[yAa,yAc] at hy;obtain ⟨rfl,rfl⟩:=hy;exact ⟨rfl,.inr (.inr (.inr (.inr ⟨b,b',rfl,q4,rfl,yAQ.mp hb⟩)))⟩
  ·simp at hy
 ·rename_i d d';split at h
  ·rename_i he;have:=eqK_eq he;subst this;simp only[yAa] at h;subst h;refine ⟨[],by rw[yBv],rfl,Mo.refl s,id,λσs rest y r hy=>?_⟩;simp only[List.nil_append,pCP] at hy;split at hy
   ·rename_i hb;simp only[yAa,yAc] at hy;obtain ⟨rfl,rfl⟩:=hy;exact ⟨rfl,.inl ⟨λ_ _ _ _ _ h=>h,hb,.inr rfl⟩⟩
   ·simp at hy
  ·simp at h
 ·simp at h
theorem mCPs_ok:∀{ps:List CP}{xs:List TC}{s s':MS},mCPs m U1 ps xs s=some s'->(∀x∈xs,GC U1 x)->∃Lc,s'.cl=s.cl++Lc/\s'.rw=s.rw/\Mo s s'/\(MI m U1 s->MI m U1 s')/\∀σs rest ys r,pCPs σs ps (Lc++rest)=some (ys,r)->r=rest/\All2 (CM m U1 σs s') xs ys:=by
 intro ps;induction ps with
 |nil=>
  intro xs s s' h g;cases xs with
  |nil=>simp only[mCPs,yAa] at h;subst h;refine ⟨[],by simp,rfl,Mo.refl s,id,λσs rest ys r hy=>?_⟩;simp only[List.nil_append,pCPs,yAa,yAc] at hy;obtain ⟨rfl,rfl⟩:=hy;exact ⟨rfl,.nil⟩
  |cons x xs=>simp[mCPs] at h
 |cons p ps ih=>
  intro xs s s' h g;cases xs with
  |nil=>simp[mCPs] at h
  |cons x xs=>
   simp only[mCPs] at h;split at h
   ·rename_i s1 h1;obtain ⟨L1,a1,a2,a3,a4,a5⟩:=mCP_ok h1 (g x (yAq ..));obtain ⟨L2,b1,b2,b3,b4,b5⟩:=ih h λy hy=>g y (yAm _ hy);refine ⟨L1++L2,by rw[b1,a1,yA3],by rw[b2,a2],a3.trans b3,λI=>b4 (a4 I),λσs rest ys r hy=>?_⟩;rw[yA3] at hy;simp only[pCPs] at hy;split at hy
    ·rename_i y d1 h2;obtain ⟨rfl,c1⟩:=a5 σs _ y d1 h2;split at hy
     ·rename_i ys' r' h3;simp only[yAa,yAc] at hy;obtain ⟨rfl,rfl⟩:=hy;obtain ⟨e,c2⟩:=b5 σs _ _ _ h3;exact ⟨e,.cons (c1.mono b3) c2⟩
     ·simp at hy
    ·simp at hy
   ·simp at h
def VM(m:Nat)(U1 σs:TH)(s:MS):TV->TV->Prop
 |.c x,.c y=>CM m U1 σs s x y
 |.agg xs,.agg ys=>All2 (CM m U1 σs s) xs ys
 |_,_=>False
theorem VM.mono(h:Mo s s'){x y:TV}(c:VM m U1 σs s x y):VM m U1 σs s' x y:=by
 cases x with
 |c x => cases y with
  |c y=>exact CM.mono h c
  |_=>exact c.elim
 |agg xs => cases y with
  |agg ys=>exact All2.mono (λ_ _=>CM.mono h) c
  |_=>exact c.elim
 |tup xs=>exact c.elim
theorem frTs_cm:∀{cs:List CC}{xs:List TC}{a:tup cs},rdT cs (xs.map (frT U1))=some a->(∀x∈xs,GC U1 x)->(∀b∈ownsT xs,∃(i:Nat)(l:List (TT i))(lv cv:Nat),U1[b]? = some (.row i l lv cv))/\∀m σs s,(∀b∈ownsT xs,b∈s.fz)->All2 (CM m U1 σs s) xs (expT cs a):=by
 intro cs;induction cs with
 |nil=>
  intro xs a h g;cases xs with
  |nil=>exact ⟨by simp[ownsT],λm σs s _=>.nil⟩
  |cons x xs=>simp[rdT] at h
 |cons c cs ih=>
  intro xs a h g;cases xs with
  |nil=>simp[rdT] at h
  |cons x xs=>
   simp only[yAw,rdT] at h;split at h
   ·rename_i a1 a2 h1 h2;simp only[yAa] at h;subst h;obtain ⟨e1,e2⟩:=frT_cm h1 (g x (yAq ..));obtain ⟨e3,e4⟩:=ih h2 λy hy=>g y (yAm _ hy);have hm:∀b,b∈ownsT (x::xs)↔b∈ownsT [x]∨b∈ownsT xs:=by
     intro b;cases x <;> simp[ownsT]
    refine ⟨λb hb=>?_,λm σs s hs=>.cons (e2 m σs s λb hb=>hs b ((hm b).2 (.inl hb))) (e4 m σs s λb hb=>hs b ((hm b).2 (.inr hb)))⟩;rcases (hm b).1 hb with hb | hb
    ·exact e1 b hb
    ·exact e3 b hb
   ·simp at h
theorem mRO_ok{p:RO}{v:TV}(h:mRO m U1 p v s=some s')(g:GV U1 v):∃Lc,s'.cl=s.cl++Lc/\s'.rw=s.rw/\Mo s s'/\(MI m U1 s->MI m U1 s')/\∀σs rest y r,pRO σs p (Lc++rest)=some (y,r)->r=rest/\VM m U1 σs s' v y:=by
 unfold mRO at h;split at h
 ·rename_i c;split at h
  ·rename_i a ha;simp only[yAa] at h;subst h;cases v with
   |c x=>
    obtain ⟨h1,h2⟩:=frT_cm (c:=c) ha g;refine ⟨_,rfl,rfl,⟨λ_ _ h=>h,λ_ h=>List.mem_append_right _ h⟩,λI=>⟨I.ge,λb hb=>?_⟩,λσs rest y r hy=>?_⟩
    ·rcases yAE.1 hb with hb | hb
     ·exact h1 b hb
     ·exact I.fz b hb
    ·simp only[List.singleton_append,pRO,zbG,yAa,yAc] at hy;obtain ⟨rfl,rfl⟩:=hy;exact ⟨rfl,h2 m σs _ λb hb=>yBH _ hb⟩
   |agg xs=>simp[frTV,rdV,rdCV] at ha
   |tup xs=>simp[frTV,rdV,rdCV] at ha
  ·simp at h
 ·rename_i i;split at h
  ·rename_i a ha;simp only[yAa] at h;subst h;cases v with
   |c x=>simp[frTV,rdV,rdSt] at ha
   |tup x=>simp[frTV,rdV,rdSt] at ha
   |agg xs=>
    simp only[frTV,rdV,rdSt] at ha;split at ha
    ·rename_i t ht;simp only[yAa] at ha;subst ha;obtain ⟨h1,h2⟩:=frTs_cm ht g;refine ⟨_,rfl,rfl,⟨λ_ _ h=>h,λ_ h=>List.mem_append_right _ h⟩,λI=>⟨I.ge,λb hb=>?_⟩,λσs rest y r hy=>?_⟩
     ·rcases yAE.1 hb with hb | hb
      ·exact h1 b hb
      ·exact I.fz b hb
     ·simp only[List.singleton_append,pRO,zbG,yAa,yAc] at hy;obtain ⟨rfl,rfl⟩:=hy;refine ⟨rfl,?_⟩;show All2 _ xs (expT _ _);rw[Y.pm];exact h2 m σs _ λb hb=>yBH _ hb
    ·simp at ha
  ·simp at h
 ·rename_i i;split at h
  ·rename_i a ha;simp only[yAa] at h;subst h;refine ⟨_,rfl,rfl,⟨λ_ _ h=>h,λ_ h=>h⟩,λI=>⟨I.ge,I.fz⟩,λσs rest y r hy=>?_⟩;simp only[List.singleton_append,pRO,zbG,yAa,yAc] at hy;obtain ⟨rfl,rfl⟩:=hy;refine ⟨rfl,?_⟩;cases v with
   |c x=>
    cases x with
    |fp j b off=>
     simp only[frTV,frT,rdV] at ha;unfold rdFp at ha;split at ha
     ·rename_i j' a' he;simp only[TV.c.injEq,TC.fp.injEq] at he;obtain ⟨rfl,h2,rfl⟩:=he;cases h2;split at ha
      ·rename_i e _;subst e;simp only[yAa] at ha;subst ha;exact .inl ⟨λ_ _ _ _ _ h=>h,rfl,.inr rfl⟩
      ·simp at ha
     ·simp at ha
    |own j b v n=>
     exfalso;simp only[frTV,frT,rdV] at ha;split at ha
     ·split at ha <;> simp[rdFp] at ha
     ·simp[rdFp] at ha
    |_=>simp[frTV,frT,rdV,rdFp] at ha
   |agg xs=>simp[frTV,rdV,rdFp] at ha
   |tup xs=>simp[frTV,rdV,rdFp] at ha
  ·simp at h
 ·rename_i p x;obtain ⟨L,a1,a2,a3,a4,a5⟩:=mCP_ok h g;refine ⟨L,a1,a2,a3,a4,λσs rest y r hy=>?_⟩;simp only[pRO] at hy;split at hy
  ·rename_i y' r' h1;simp only[yAa,yAc] at hy;obtain ⟨rfl,rfl⟩:=hy;exact a5 σs rest _ _ h1
  ·simp at hy
 ·rename_i ps xs;obtain ⟨L,a1,a2,a3,a4,a5⟩:=mCPs_ok h g;refine ⟨L,a1,a2,a3,a4,λσs rest y r hy=>?_⟩;simp only[pRO] at hy;split at hy
  ·rename_i y' r' h1;simp only[yAa,yAc] at hy;obtain ⟨rfl,rfl⟩:=hy;exact a5 σs rest _ _ h1
  ·simp at hy
 ·simp at h
theorem mROs_ok:∀{ps:List RO}{xs:List TV}{s s':MS},mROs m U1 ps xs s=some s'->(∀x∈xs,GV U1 x)->∃Lc,s'.cl=s.cl++Lc/\s'.rw=s.rw/\Mo s s'/\(MI m U1 s->MI m U1 s')/\∀σs rest ys r,pROs σs ps (Lc++rest)=some (ys,r)->r=rest/\All2 (VM m U1 σs s') xs ys:=by
 intro ps;induction ps with
 |nil=>
  intro xs s s' h g;cases xs with
  |nil=>simp only[mROs,yAa] at h;subst h;refine ⟨[],by simp,rfl,Mo.refl s,id,λσs rest ys r hy=>?_⟩;simp only[List.nil_append,pROs,yAa,yAc] at hy;obtain ⟨rfl,rfl⟩:=hy;exact ⟨rfl,.nil⟩
  |cons x xs=>simp[mROs] at h
 |cons p ps ih=>
  intro xs s s' h g;cases xs with
  |nil=>simp[mROs] at h
  |cons x xs=>
   simp only[mROs] at h;split at h
   ·rename_i s1 h1;obtain ⟨L1,a1,a2,a3,a4,a5⟩:=mRO_ok h1 (g x (yAq ..));obtain ⟨L2,b1,b2,b3,b4,b5⟩:=ih h λy hy=>g y (yAm _ hy);refine ⟨L1++L2,by rw[b1,a1,yA3],by rw[b2,a2],a3.trans b3,λI=>b4 (a4 I),λσs rest ys r hy=>?_⟩;rw[yA3] at hy;simp only[pROs] at hy;split at hy
    ·rename_i y d1 h2;obtain ⟨rfl,c1⟩:=a5 σs _ y d1 h2;split at hy
     ·rename_i ys' r' h3;simp only[yAa,yAc] at hy;obtain ⟨rfl,rfl⟩:=hy;obtain ⟨e,c2⟩:=b5 σs _ _ _ h3;exact ⟨e,.cons (c1.mono b3) c2⟩
     ·simp at hy
    ·simp at hy
   ·simp at h
end
end Go.Abs
end
section
namespace Go.Abs
noncomputable section
variable[Gl][Y:Ty]
def RowEq(x y:TB):Prop:=(∃(i:Nat)(l:List (TT i))(lv cv lv' cv':Nat),x=.row i l lv cv/\y=.row i l lv' cv')∨(∃(j:Nat)(st:Bool)(l:List (Int×TT j))(v v':Nat),x=.mp j st l v/\y=.mp j st l v')
def PC.rw:PC->Bool
 |.h ..=>false
 |_=>true
variable{m:Nat}{U U1 σs:TH}{s s':MS}
theorem mPCs_ok (hg:∀(b:Nat) w cs,U1[b]? = some (.cells w cs)→∀p∈cs,GC U1 p.2):∀{ps:List PC} {s s':MS},mPCs m U U1 ps s=some s' →
  ∃ L Lc, s'.rw = s.rw ++ L ∧ s'.cl = s.cl ++ Lc ∧ Mo s s' ∧ (MI m U1 s → MI m U1 s') ∧ (∀ p ∈ ps, p.blk < m) ∧
   (∀σa rest σr r,pRows σa ps (L++rest)=some (σr,r)→r=rest∧∀b:Nat,((∀p∈ps,p.rw=true→p.blk≠b)∧σr[b]? = σa[b]?)∨∃x y,U1[b]? = some x∧σr[b]? = some y∧RowEq x y) ∧
   (∀σs σa rest U' r,pPCs σs ps σa (Lc++rest)=some (U',r)→(∀(b:Nat) w cs w1 cs1,σa[b]? = some (.cells w cs)→U1[b]? = some (.cells w1 cs1)→cs.length=cs1.length)→r=rest ∧
    (∀(b j:Nat) p,PC.h b j p∈ps→∃w cs w' cs' x y,U1[b]? = some (.cells w cs)∧U'[b]? = some (.cells w' cs')∧cs[j]? = some x∧cs'[j]? = some y∧CM m U1 σs s' x.2 y.2) ∧
    (∀(b:Nat) w cs,σa[b]? = some (.cells w cs)→∃w' cs',U'[b]? = some (.cells w' cs')∧∀j:Nat,(∀p,PC.h b j p∉ps)→cs'[j]? = cs[j]?)):=by
 intro ps
 induction ps with
 | nil =>
  intro s s' h
  simp only [mPCs,yAa] at h
  subst h
  refine ⟨[],[],by simp,by simp,Mo.refl s,id,by simp,fun σa rest σr r h=>?_,fun σs σa rest U' r h _=>?_⟩
  ·simp only [List.nil_append,pRows,yAa,yAc] at h
   obtain ⟨rfl,rfl⟩:=h
   exact ⟨rfl,fun b=>.inl ⟨by simp,rfl⟩⟩
  ·simp only [List.nil_append,pPCs,yAa,yAc] at h
   obtain ⟨rfl,rfl⟩:=h
   exact ⟨rfl,fun b j p hp=>by simp at hp,fun b w cs hb=>⟨w,cs,hb,fun j _=>rfl⟩⟩
 | cons p ps ih =>
  intro s s' h
  cases p with
  | h b j p =>
   simp only [mPCs] at h
   split at h
   ·rename_i w1 cs1 hb hlt
    split at h
    ·rename_i x hx
     split at h
     ·rename_i s1 h1
      obtain ⟨L1,a1,a2,a3,a4,a5⟩:=mCP_ok h1 (hg b w1 cs1 hb x (yAy hx))
      obtain ⟨L,L2,b1,b2,b3,b4,b5,b6,b7⟩:=ih h
      refine ⟨L,L1++L2,by rw [b1,a2],by rw [b2,a1,yA3],a3.trans b3,fun I=>b4 (a4 I),fun q hq=>?_,fun σa rest σr r h=>?_,fun σs σa rest U' r h hl=>?_⟩
      ·rcases yAu.1 hq with rfl | hq
       ·exact yAQ.mp hlt
       ·exact b5 q hq
      ·simp only [pRows] at h
       obtain ⟨e,c1⟩:=b6 σa rest σr r h
       refine ⟨e,fun b'=>?_⟩
       rcases c1 b' with ⟨c1,c2⟩ | c1
       ·refine .inl ⟨fun q hq hr=>?_,c2⟩
        rcases yAu.1 hq with rfl | hq
        ·simp [PC.rw] at hr
        ·exact c1 q hq hr
       ·exact .inr c1
      ·rw [yA3] at h
       simp only [pPCs] at h
       split at h
       ·rename_i y r' w0 cs0 h2 h3
        obtain ⟨rfl,c1⟩:=a5 σs _ y r' h2
        have hlen:=hl b w0 cs0 w1 cs1 h3 hb
        obtain ⟨e,d1,d2⟩:=b7 σs _ rest U' r h fun b' w cs w2 cs2 e1 e2=>by
         by_cases hbb:b'=b
         ·subst hbb
          rw [zaU h3] at e1
          simp only [yAa,TB.cells.injEq] at e1
          rw [hb] at e2
          simp only [yAa,TB.cells.injEq] at e2
          rw [←e1.2,←e2.2,yAI,hlen]
         ·rw [zay hbb] at e1
          exact hl b' w cs w2 cs2 e1 e2
        refine ⟨e,fun b' j' p' hp=>?_,fun b' w cs e1=>?_⟩
        ·by_cases hin:∃q,PC.h b' j' q∈ps
         ·obtain ⟨q,hq⟩:=hin
          exact d1 b' j' q hq
         ·rcases yAu.1 hp with e1 | hp
          ·simp only [PC.h.injEq] at e1
           obtain ⟨rfl,rfl,rfl⟩:=e1
           obtain ⟨w',cs',e2,e3⟩:=d2 b' _ _ (zaU h3)
           refine ⟨w1,cs1,w',cs',x,(w0+1,y),hb,e2,hx,?_,c1.mono b3⟩
           rw [e3 j' fun q hq=>hin ⟨q,hq⟩,yBo (by rw [hlen]; exact (yAb.1 hx).1)]
          ·exact absurd ⟨p',hp⟩ hin
        ·by_cases hbb:b'=b
         ·subst hbb
          rw [h3] at e1
          simp only [yAa,TB.cells.injEq] at e1
          obtain ⟨rfl,rfl⟩:=e1
          obtain ⟨w',cs',e2,e3⟩:=d2 b' _ _ (zaU h3)
          refine ⟨w',cs',e2,fun j' hj=>?_⟩
          rw [e3 j' fun q hq=>hj q (yAm _ hq)]
          exact yAD fun e=>hj p (by rw [←e]; exact yAq ..)
         ·obtain ⟨w',cs',e2,e3⟩:=d2 b' w cs (by rw [zay hbb]; exact e1)
          exact ⟨w',cs',e2,fun j' hj=>e3 j' fun q hq=>hj q (yAm _ hq)⟩
       ·simp at h
     ·simp at h
    ·simp at h
   ·simp at h
  | w b i =>
   simp only [mPCs] at h
   split at h
   ·rename_i i0 l0 lv0 cv0 hb hlt
    split at h
    ·rename_i a ha
     obtain ⟨e,rfl⟩:=zcn ha
     subst e
     obtain ⟨L,L2,b1,b2,b3,b4,b5,b6,b7⟩:=ih h
     refine ⟨_::L,L2,by rw [b1,yA3]; rfl,b2,⟨b3.rho,b3.fz⟩,fun I=>b4 ⟨I.ge,I.fz⟩,fun q hq=>?_,fun σa rest σr r h=>?_,fun σs σa rest U' r h hl=>?_⟩
     ·rcases yAu.1 hq with rfl | hq
      ·exact yAQ.mp hlt
      ·exact b5 q hq
     ·simp only [List.cons_append,pRows,zbG] at h
      split at h
      ·rename_i l j l1 lv1 cv1 e0 e1
       simp only [yAa] at e0
       subst e0
       split at h
       ·obtain ⟨e,c1⟩:=b6 _ rest σr r h
        refine ⟨e,fun b'=>?_⟩
        rcases c1 b' with ⟨c1,c2⟩ | c1
        ·by_cases hbb:b'=b
         ·subst hbb
          rw [zaU e1] at c2
          exact .inr ⟨_,_,hb,c2,.inl ⟨_,_,_,_,_,_,rfl,rfl⟩⟩
         ·rw [zay hbb] at c2
          refine .inl ⟨fun q hq hr=>?_,c2⟩
          rcases yAu.1 hq with rfl | hq
          ·exact fun e=>hbb e.symm
          ·exact c1 q hq hr
        ·exact .inr c1
       ·simp at h
      ·simp at h
     ·simp only [pPCs] at h
      obtain ⟨e,d1,d2⟩:=b7 σs σa rest U' r h hl
      refine ⟨e,fun b' j' p' hp=>?_,fun b' w cs e1=>?_⟩
      ·rcases yAu.1 hp with e1 | hp
       ·simp at e1
       ·exact d1 b' j' p' hp
      ·obtain ⟨w',cs',e2,e3⟩:=d2 b' w cs e1
       exact ⟨w',cs',e2,fun j' hj=>e3 j' fun q hq=>hj q (yAm _ hq)⟩
    ·simp at h
   ·simp at h
  | m b i st =>
   simp only [mPCs] at h
   split at h
   ·rename_i i0 st0 l0 v0 hb hlt
    split at h
    ·rename_i a hst ha
     obtain ⟨e,rfl⟩:=castM_some ha
     subst e
     have:st=st0:=eq_of_beq hst
     subst this
     obtain ⟨L,L2,b1,b2,b3,b4,b5,b6,b7⟩:=ih h
     refine ⟨_::L,L2,by rw [b1,yA3]; rfl,b2,⟨b3.rho,b3.fz⟩,fun I=>b4 ⟨I.ge,I.fz⟩,fun q hq=>?_,fun σa rest σr r h=>?_,fun σs σa rest U' r h hl=>?_⟩
     ·rcases yAu.1 hq with rfl | hq
      ·exact yAQ.mp hlt
      ·exact b5 q hq
     ·simp only [List.cons_append,pRows,zbG] at h
      split at h
      ·rename_i l j0 st1 l1 v1 e0 e1
       simp only [yAa] at e0
       subst e0
       obtain ⟨e,c1⟩:=b6 _ rest σr r h
       refine ⟨e,fun b'=>?_⟩
       rcases c1 b' with ⟨c1,c2⟩ | c1
       ·by_cases hbb:b'=b
        ·subst hbb
         rw [zaU e1] at c2
         exact .inr ⟨_,_,hb,c2,.inr ⟨_,_,_,_,_,rfl,rfl⟩⟩
        ·rw [zay hbb] at c2
         refine .inl ⟨fun q hq hr=>?_,c2⟩
         rcases yAu.1 hq with rfl | hq
         ·exact fun e=>hbb e.symm
         ·exact c1 q hq hr
       ·exact .inr c1
      ·simp at h
     ·simp only [pPCs] at h
      obtain ⟨e,d1,d2⟩:=b7 σs σa rest U' r h hl
      refine ⟨e,fun b' j' p' hp=>?_,fun b' w cs e1=>?_⟩
      ·rcases yAu.1 hp with e1 | hp
       ·simp at e1
       ·exact d1 b' j' p' hp
      ·obtain ⟨w',cs',e2,e3⟩:=d2 b' w cs e1
       exact ⟨w',cs',e2,fun j' hj=>e3 j' fun q hq=>hj q (yAm _ hq)⟩
    ·simp at h
   ·simp at h
theorem mNBs_ok (hg:∀(b:Nat) w cs,U1[b]? = some (.cells w cs)→∀p∈cs,GC U1 p.2):∀{nbs:List NB} {b:Nat} {s s':MS},mNBs m U1 b nbs s=some s' →
  ∃ L Lc, s'.rw = s.rw ++ L ∧ s'.cl = s.cl ++ Lc ∧ Mo s s' ∧ (MI m U1 s → MI m U1 s') ∧
   (∀rest l r,pNew nbs (L++rest)=some (l,r)→r=rest∧∀(k:Nat) nb,nbs[k]? = some nb→(∀ps,nb≠.cells ps)→∃b' x y,rhoK (b+k) s'.ρ=some b'∧U1[b']? = some x∧l[k]? = some y∧RowEq x y) ∧
   (∀σs bs rest l,pNBs σs nbs bs (Lc++rest)=some l→∀(k:Nat) nb,nbs[k]? = some nb →
    (∀ps,nb=.cells ps→∃b' w cs ys,rhoK (b+k) s'.ρ=some b'∧U1[b']? = some (.cells w cs)∧l[k]? = some (.cells 0 ys)∧All2 (CM m U1 σs s') (cs.map Prod.snd) (ys.map Prod.snd)) ∧
    ((∀ps,nb≠.cells ps)→l[k]? = bs[k]?)):=by
 intro nbs
 induction nbs with
 | nil =>
  intro b s s' h
  simp only [mNBs,yAa] at h
  subst h
  refine ⟨[],[],by simp,by simp,Mo.refl s,id,fun rest l r h=>?_,fun σs bs rest l h k nb hk=>by simp at hk⟩
  simp only [List.nil_append,pNew,yAa,yAc] at h
  exact ⟨h.2.symm,fun k nb hk=>by simp at hk⟩
 | cons nb nbs ih =>
  intro b s s' h
  have sh:∀k:Nat,b+(k+1)=b+1+k:=fun k=>by omega
  cases nb with
  | cells ps =>
   simp only [mNBs] at h
   split at h
   ·rename_i b' hb'
    split at h
    ·rename_i w cs hb
     split at h
     ·rename_i s1 h1
      obtain ⟨L1,a1,a2,a3,a4,a5⟩:=mCPs_ok h1 (fun x hx=>by
       rw [yA4] at hx
       obtain ⟨p,hp,rfl⟩:=hx
       exact hg b' w cs hb p hp)
      obtain ⟨L,L2,b1,b2,b3,b4,b5,b6⟩:=ih h
      refine ⟨L,L1++L2,by rw [b1,a2],by rw [b2,a1,yA3],a3.trans b3,fun I=>b4 (a4 I),fun rest l r h=>?_,fun σs bs rest l h k nb hk=>?_⟩
      ·simp only [pNew] at h
       split at h
       ·rename_i l' r' h2
        simp only [yAa,yAc] at h
        obtain ⟨rfl,rfl⟩:=h
        obtain ⟨e,c1⟩:=b5 rest l' _ h2
        refine ⟨e,fun k nb hk hn=>?_⟩
        cases k with
        | zero=>simp only [List.getElem?_cons_zero,yAa] at hk; exact absurd hk.symm (hn ps)
        | succ k=>simp only [List.getElem?_cons_succ] at hk ⊢; rw [sh]; exact c1 k nb hk hn
       ·simp at h
      ·rw [yA3] at h
       cases bs with
       | nil=>simp [pNBs] at h
       | cons b0 bs =>
        simp only [pNBs] at h
        split at h
        ·rename_i xs r' h2
         split at h
         ·rename_i l' h3
          simp only [yAa] at h
          subst h
          obtain ⟨rfl,c1⟩:=a5 σs _ _ _ h2
          have c2:=b6 σs bs rest l' h3
          cases k with
          | zero =>
           simp only [List.getElem?_cons_zero,yAa] at hk
           subst hk
           refine ⟨fun ps' e=>?_,fun hn=>absurd rfl (hn ps)⟩
           refine ⟨b',w,cs,_,b3.rho _ _ (a3.rho _ _ hb'),hb,by rw [List.getElem?_cons_zero],?_⟩
           rw [yB8]
           have:(Prod.snd∘fun x:TC=>(0,x))=id:=rfl
           rw [this,List.map_id]
           exact All2.mono (fun _ _=>CM.mono b3) c1
          | succ k =>
           simp only [List.getElem?_cons_succ] at hk ⊢
           rw [sh]
           exact c2 k nb hk
         ·simp at h
        ·simp at h
     ·simp at h
    ·simp at h
   ·simp at h
  | row i =>
   simp only [mNBs] at h
   split at h
   ·rename_i b' hb'
    split at h
    ·rename_i i0 l0 lv0 cv0 hb
     split at h
     ·rename_i a ha
      obtain ⟨e,rfl⟩:=zcn ha
      subst e
      obtain ⟨L,L2,b1,b2,b3,b4,b5,b6⟩:=ih h
      refine ⟨_::L,L2,by rw [b1,yA3]; rfl,b2,⟨b3.rho,b3.fz⟩,fun I=>b4 ⟨I.ge,I.fz⟩,fun rest l r h=>?_,fun σs bs rest l h k nb hk=>?_⟩
      ·simp only [List.cons_append,pNew,zbG] at h
       split at h
       ·rename_i a' l' r' e0 h2
        simp only [yAa,yAc] at h e0
        subst e0
        obtain ⟨rfl,rfl⟩:=h
        obtain ⟨e,c1⟩:=b5 rest l' _ h2
        refine ⟨e,fun k nb hk hn=>?_⟩
        cases k with
        | zero=>exact ⟨b',_,_,b3.rho _ _ hb',hb,by rw [List.getElem?_cons_zero],.inl ⟨_,_,_,_,_,_,rfl,rfl⟩⟩
        | succ k=>simp only [List.getElem?_cons_succ] at hk ⊢; rw [sh]; exact c1 k nb hk hn
       ·simp at h
      ·cases bs with
       | nil=>simp [pNBs] at h
       | cons b0 bs =>
        simp only [pNBs] at h
        split at h
        ·rename_i l' h3
         simp only [yAa] at h
         subst h
         have c2:=b6 σs bs rest l' h3
         cases k with
         | zero =>
          simp only [List.getElem?_cons_zero,yAa] at hk
          subst hk
          exact ⟨fun ps' e=>by simp at e,fun hn=>rfl⟩
         | succ k =>
          simp only [List.getElem?_cons_succ] at hk ⊢
          rw [sh]
          exact c2 k nb hk
        ·simp at h
     ·simp at h
    ·simp at h
   ·simp at h
  | mp i st =>
   simp only [mNBs] at h
   split at h
   ·rename_i b' hb'
    split at h
    ·rename_i i0 st0 l0 v0 hb
     split at h
     ·rename_i a hst ha
      obtain ⟨e,rfl⟩:=castM_some ha
      subst e
      have:st=st0:=eq_of_beq hst
      subst this
      obtain ⟨L,L2,b1,b2,b3,b4,b5,b6⟩:=ih h
      refine ⟨_::L,L2,by rw [b1,yA3]; rfl,b2,⟨b3.rho,b3.fz⟩,fun I=>b4 ⟨I.ge,I.fz⟩,fun rest l r h=>?_,fun σs bs rest l h k nb hk=>?_⟩
      ·simp only [List.cons_append,pNew,zbG] at h
       split at h
       ·rename_i a' l' r' e0 h2
        simp only [yAa,yAc] at h e0
        subst e0
        obtain ⟨rfl,rfl⟩:=h
        obtain ⟨e,c1⟩:=b5 rest l' _ h2
        refine ⟨e,fun k nb hk hn=>?_⟩
        cases k with
        | zero=>exact ⟨b',_,_,b3.rho _ _ hb',hb,by rw [List.getElem?_cons_zero],.inr ⟨_,_,_,_,_,rfl,rfl⟩⟩
        | succ k=>simp only [List.getElem?_cons_succ] at hk ⊢; rw [sh]; exact c1 k nb hk hn
       ·simp at h
      ·cases bs with
       | nil=>simp [pNBs] at h
       | cons b0 bs =>
        simp only [pNBs] at h
        split at h
        ·rename_i l' h3
         simp only [yAa] at h
         subst h
         have c2:=b6 σs bs rest l' h3
         cases k with
         | zero =>
          simp only [List.getElem?_cons_zero,yAa] at hk
          subst hk
          exact ⟨fun ps' e=>by simp at e,fun hn=>rfl⟩
         | succ k =>
          simp only [List.getElem?_cons_succ] at hk ⊢
          rw [sh]
          exact c2 k nb hk
        ·simp at h
     ·simp at h
    ·simp at h
   ·simp at h
end
end Go.Abs
end
section
namespace Go.Abs
noncomputable section
variable[Gl][Y:Ty]
variable{U U1 F:TH}{σD U1D:Heap}{s:MS}{ct:CT}
theorem RowEq.er{x y:TB}(h:RowEq x y):y.er=x.er:=by rcases h with ⟨i,l,lv,cv,lv',cv',rfl,rfl⟩ | ⟨j,st,l,v,v',rfl,rfl⟩ <;> rfl
theorem mbA_low{j:Nat}{st:Bool}:∀(l:List (Int×TT j))(i:Nat),((mbE (mpE j st) i l).all λe=>e.2.1.low 0)=true:=by
 intro l;induction l with
 |nil=>intro i;rfl
 |cons p l ih=>
  intro i;obtain ⟨k,a⟩:=p;simp only[mbE,List.all_cons,ih,yBq];unfold mpE;split
  ·have:∀cs:List C,D.low.lows 0 (cs.map .c)=true:=by
    intro cs;induction cs with
    |nil=>rfl
    |cons c cs ih=>simp only[yAw,D.low.lows,D.low,ih,yBq]
   exact this _
  ·rfl
theorem All2.ofIdx{α β:Type}{R:α->β->Prop}:∀{l:List α}{l':List β},l.length=l'.length->(∀(j:Nat) a b,l[j]? = some a->l'[j]? = some b->R a b)->All2 R l l':=by
 intro l;induction l with
 |nil=>
  intro l' h _;cases l' with
  |nil=>exact .nil
  |cons _ _=>simp at h
 |cons a l ih=>
  intro l' h hr;cases l' with
  |nil=>simp at h
  |cons b l'=>exact .cons (hr 0 a b rfl rfl) (ih (by simpa using h) λj x y hx hy=>hr (j+1) x y hx hy)
theorem All2.map{α β γ δ:Type}{R:γ->δ->Prop}{f:α->γ}{g:β->δ}{R':α->β->Prop}(h:∀a b,R' a b->R (f a) (g b)){l:List α}{l':List β}(a:All2 R' l l'):All2 R (l.map f) (l'.map g):=by
 induction a with
 |nil=>exact .nil
 |cons x _ ih=>exact .cons (h _ _ x) ih
theorem GC.low{x:TC}(g:GC U x):x.er.low U.length=true:=by
 cases x with
 |own i c v n=>obtain ⟨blk,h1,_⟩:=g;simp only[TC.er,D.low,yAf];exact (yAb.1 h1).1
 |op i c v n k a off=>obtain ⟨blk,h1,_⟩:=g;simp only[TC.er,D.low,yAf];exact (yAb.1 h1).1
 |os i c v n lo len=>obtain ⟨blk,h1,_⟩:=g;simp only[TC.er,D.low,yAf];exact (yAb.1 h1).1
 |ap c off len sz k=>simp only[TC.er,D.low,yAf];exact g
 |d x=>exact g
 |fna f xs=>exact fna_low g
 |_=>rfl
def rhoF(m:Nat)(s:MS)(b:Nat):Nat:=if b<m then b else (rhoK b s.ρ).getD 0
theorem Bd.rho{m b b':Nat}(h:Bd m s b b'):rhoF m s b=b':=by
 rcases h with ⟨h1,h2⟩ | ⟨h1,h2⟩
 ·rw[rhoF,if_pos h1,h2]
 ·rw[rhoF,if_neg (by omega),h2];rfl
def BF(U U1 σs F:TH)(s:MS)(i:Nat):Prop:=∃x y,U1[rhoF U.length s i]? = some x/\F[i]? = some y /\
 ((∃w cs w' cs',x=.cells w cs/\y=.cells w' cs'/\All2 (λa b=>CM U.length U1 σs s a b∨(a=b/\GC U a)) (cs.map Prod.snd) (cs'.map Prod.snd))∨RowEq x y)
structure MX (U U1 σs F:TH) (s:MS) (n:Nat):Prop where
 len:F.length=U.length+n
 slen:σs.length=F.length
 sr:SR σs F
 bf:∀i,i<F.length->BF U U1 σs F s i
 mi:MI U.length U1 s
 nd:nodupN (s.ρ.map Prod.snd)=true
 fz:∀b∈s.fz,U.length<=b/\b∉s.ρ.map Prod.snd
 kn:∀i,U.length<=i->i<F.length->∃b',rhoK i s.ρ=some b'
theorem rhoK_mem{i o:Nat}:∀{l:List (Nat×Nat)},rhoK i l=some o->(i,o)∈l:=by
 intro l;induction l with
 |nil=>intro h;simp[rhoK] at h
 |cons p l ih=>
  intro h;obtain ⟨q,o'⟩:=p;simp only[rhoK] at h;split at h
  ·rename_i hb;have:=yAi hb;subst this;simp only[yAa] at h;subst h;exact yAq ..
  ·exact yAm _ (ih h)
theorem nodup_inj:∀{l:List (Nat×Nat)},nodupN (l.map Prod.snd)=true->∀i j o,(i,o)∈l->(j,o)∈l->i=j:=by
 intro l;induction l with
 |nil=>intro _ i j o h;simp at h
 |cons p l ih=>
  intro h i j o hi hj;simp only[yAw,nodupN,yAj,yAs,yCt] at h;have no:∀k,(k,p.2)∈l->False:=λk hk=>h.1 p.2 (yA4.2 ⟨_,hk,rfl⟩) (Nat.beq_refl _);rcases yAu.1 hi with e1 | hi'
  ·rcases yAu.1 hj with e2 | hj'
   ·rw[<-e2] at e1;simp only[yAc] at e1;exact e1.1
   ·exact (no j (by rw[<-e1];exact hj')).elim
  ·rcases yAu.1 hj with e2 | hj'
   ·exact (no i (by rw[<-e2];exact hi')).elim
   ·exact ih h.2 i j o hi' hj'
section
variable{σs:TH}{n:Nat}(X:MX U U1 σs F s n)(H1:RH U1 U1D)
include X H1
theorem MX.rn:Rn U.length U1D (F.map TB.er) (rhoF U.length s) (λb=>b∈s.fz):={
 le:=by rw[yAz,X.len];omega
 id:=λi hi=>by rw[rhoF,if_pos hi]
 inj:=λi j hi hj e=>by
  rw[yAz] at hi hj;unfold rhoF at e;split at e
  ·rename_i h1;split at e
   ·exact e
   ·rename_i h2;obtain ⟨o,ho⟩:=X.kn j (by omega) hj;rw[ho] at e;have:=(X.mi.ge _ (rhoK_mem ho)).2;simp only[Option.getD_some] at e this;omega
  ·rename_i h1;obtain ⟨o,ho⟩:=X.kn i (by omega) hi;split at e
   ·rw[ho] at e;have:=(X.mi.ge _ (rhoK_mem ho)).2;simp only[Option.getD_some] at e this;omega
   ·obtain ⟨o',ho'⟩:=X.kn j (by omega) hj;rw[ho,ho'] at e;simp only[Option.getD_some] at e;subst e;exact nodup_inj X.nd i j o (rhoK_mem ho) (rhoK_mem ho')
 fr:=λi hi hf=>by
  rw[yAz] at hi;obtain ⟨h1,h2⟩:=X.fz _ hf;unfold rhoF at h1 h2;split at h1
  ·omega
  ·rename_i hge;rw[if_neg hge] at h2;obtain ⟨o,ho⟩:=X.kn i (by omega) hi;rw[ho] at h2;exact h2 (yA4.2 ⟨_,rhoK_mem ho,rfl⟩)
 row:=λb hb=>by obtain ⟨i,l,lv,cv,h⟩:=X.mi.fz b hb;exact ⟨i,l,H1.row h⟩
 sz:=λi hi=>by
  rw[yAz] at hi;obtain ⟨x,y,h1,h2,h3⟩:=X.bf i hi;refine ⟨x.er,y.er,by rw[H1.eqD,yAl,h1];rfl,by rw[yAl,h2];rfl,?_⟩;rcases h3 with ⟨w,cs,w',cs',rfl,rfl,h4⟩ | h4
  ·have:=h4.len;simp only[yAz] at this;simp[TB.er,Ob.sz,this]
  ·rw[h4.er] }
theorem MX.cell{x y:TC}(c:CM U.length U1 σs s x y):DWr U1D (F.map TB.er) (rhoF U.length s) (λb=>b∈s.fz) x.er y.er:=by
 have N:=X.rn H1;rcases c with ⟨c1,c2,_⟩ | ⟨i,b,v,l,cv,rfl,h2,h3,h4⟩ | ⟨i,b,b',v,l0,cv0,j,lv,l,cv,rfl,h2,h3,rfl,h5⟩ | ⟨b,b',off,sz,rfl,h2,rfl,h4⟩ | ⟨b,b',rfl,h2,rfl,h4⟩
 ·exact DWr.le c1 (DWr.data N c2)
 ·rw[h4];exact DWr.frz N h2 (H1.row h3)
 ·have hF:=X.sr.row b j l lv cv h5;have hlt:=(yAb.1 hF).1;obtain ⟨x,y,e1,e2,e3⟩:=X.bf b hlt;have q:=h2.rho;subst q;rw[h3] at e1;rw[hF] at e2;simp only[yAa] at e1 e2;subst e1 e2;rcases e3 with ⟨w,cs,w',cs',e,_⟩ | e3
  ·simp at e
  ·rcases e3 with ⟨i',l',_,_,_,_,e4,e5⟩ | ⟨_,_,_,_,_,e4,_⟩
   ·simp only[TB.row.injEq] at e4 e5;obtain ⟨rfl,e6,_,_⟩:=e4;obtain ⟨rfl,e7,_,_⟩:=e5;cases e6;cases e7;exact DWr.sl N (by rw[yAz];exact hlt)
   ·simp at e4
 ·have:=DWr.ptr (F:=λb=>b∈s.fz) N (i:=b) (off:=off) (sz:=sz) (by rw[yAz,<-X.slen];exact h4);rw[h2.rho] at this;exact this
 ·have:=DWr.mp (F:=λb=>b∈s.fz) N (i:=b) (by rw[yAz,<-X.slen];exact h4);rw[h2.rho] at this;exact this
theorem MX.rnH:RnH U.length U1D (F.map TB.er) (rhoF U.length s) (λb=>b∈s.fz):={
 toRn:=X.rn H1
 ob:=λi hi=>by
  rw[yAz] at hi;obtain ⟨x,y,h1,h2,h3⟩:=X.bf i hi;refine ⟨x.er,y.er,by rw[H1.eqD,yAl,h1];rfl,by rw[yAl,h2];rfl,?_⟩;rcases h3 with ⟨w,cs,w',cs',rfl,rfl,h4⟩ | h4
  ·refine ⟨_,rfl,?_⟩;have:=All2.map (R:=DWr U1D (F.map TB.er) (rhoF U.length s) (λb=>b∈s.fz)) (f:=TC.er) (g:=TC.er) (λa b h=>?_) h4
   ·rw[yB8,yB8] at this;exact this
   ·rcases h with h | ⟨rfl,h⟩
    ·exact X.cell H1 h
    ·exact DWr.low (X.rn H1) h.low
  ·rw[h4.er];rcases h4 with ⟨j,l,lv,cv,lv',cv',rfl,rfl⟩ | ⟨j,st,l,v,v',rfl,rfl⟩
   ·refine ⟨_,rfl,All2.ofIdx rfl λk a b ha hb=>?_⟩;rw[ha] at hb;simp only[yAa] at hb;subst hb;rw[yAl,yAd] at ha;obtain ⟨c,_,rfl⟩:=ha;exact DWr.data (X.rn H1) rfl
   ·exact ⟨rfl,mbA_low l 0⟩ }
theorem MX.val{v y:TV}{d:D}(h:VM U.length U1 σs s v y)(hr:RT v d):DWr U1D (F.map TB.er) (rhoF U.length s) (λb=>b∈s.fz) d (eD y):=by
 have cell:∀{x y:TC}{d:D},CM U.length U1 σs s x y->RC x d->DWr U1D (F.map TB.er) (rhoF U.length s) (λb=>b∈s.fz) d y.er:=λ{x y d} c r=>by
  rcases r with rfl | rfl
  ·exact DWr.le (λ_ _ _ _ _ _=>.any _) (X.cell H1 c)
  ·exact X.cell H1 c
 cases v with
 |c x => cases y with
  |c y=>exact cell h hr
  |_=>exact h.elim
 |agg xs => cases y with
  |agg ys=>
   obtain ⟨ds,rfl,hr⟩:=hr;refine DWr.agg (All2.ofIdx ?_ λj a b ha hb=>?_)
   ·rw[<-hr.len,yAz];exact All2.len h
   ·rw[yAl,yAd] at hb;obtain ⟨y,hy,rfl⟩:=hb;obtain ⟨x,hx,hc⟩:=All2.get' h j y hy;obtain ⟨x',hx',hc'⟩:=hr.get' j a ha;rw[hx] at hx';simp only[yAa] at hx';subst hx';exact cell hc hc'
  |_=>exact h.elim
 |tup xs=>exact h.elim
theorem MX.valL{vs ys:List TV}{ds:List D}(h:All2 (VM U.length U1 σs s) vs ys)(hr:All3 vs ds):All2 (DWr U1D (F.map TB.er) (rhoF U.length s) (λb=>b∈s.fz)) ds (ys.map eD):=by
 induction h generalizing ds with
 |nil=>cases hr;exact .nil
 |cons h _ ih=>
  cases hr with
  |cons r hr=>exact .cons (X.val H1 h r) (ih hr)
theorem MX.vals{vs ys:List TV}{ds:List D}(h:All2 (VM U.length U1 σs s) vs ys)(hr:All3 vs ds):DWr U1D (F.map TB.er) (rhoF U.length s) (λb=>b∈s.fz) (one ds) (one (ys.map eD)):=by
 have key:All2 (DWr U1D (F.map TB.er) (rhoF U.length s) (λb=>b∈s.fz)) ds (ys.map eD):=by
  induction h generalizing ds with
  |nil=>cases hr;exact .nil
  |cons h _ ih=>
   cases hr with
   |cons r hr=>exact .cons (X.val H1 h r) (ih hr)
 generalize ys.map eD=es at key ⊢;cases key with
 |nil=>exact DWr.tup .nil
 |cons h r=>
  cases r with
  |nil=>exact h
  |cons h2 r=>exact DWr.tup (.cons h (.cons h2 r))
end
end
end Go.Abs
end
section
namespace Go.Abs
noncomputable section
variable[Gl][Y:Ty]
variable{U U1 F:TH}{σD U1D:Heap}{ct:CT}
theorem notW_of{b:Nat}{ps:List PC}(h:∀p∈ps,p.rw=true->p.blk≠b):notW (ps.map PC.pl) b/\notM (ps.map PC.pl) b:=by
 refine ⟨λi hm=>?_,λj st hm=>?_⟩
 ·rw[yA4] at hm;obtain ⟨p,hp,e⟩:=hm;cases p with
  |w b' i'=>simp only[PC.pl,Pl.w.injEq] at e;exact h _ hp rfl e.1
  |h=>simp[PC.pl] at e
  |m=>simp[PC.pl] at e
 ·rw[yA4] at hm;obtain ⟨p,hp,e⟩:=hm;cases p with
  |m b' i'=>simp only[PC.pl,Pl.m.injEq] at e;exact h _ hp rfl e.1
  |h=>simp[PC.pl] at e
  |w=>simp[PC.pl] at e
theorem notH_of{b j:Nat}{ps:List PC}(h:∀p,PC.h b j p∉ps):notH (ps.map PC.pl) b j:=by
 intro c hm;rw[yA4] at hm;obtain ⟨p,hp,e⟩:=hm;cases p with
 |h b' j' p'=>simp only[PC.pl,Pl.h.injEq] at e;obtain ⟨rfl,rfl,_⟩:=e;exact h _ hp
 |w=>simp[PC.pl] at e
 |m=>simp[PC.pl] at e
theorem mx_of{rs rv:List TV}{x:tupI ct.items}{ds:List Dat}{s1 s2 s:MS}(hs:heapSame (ct.pl.map PC.pl) 0 U U1=true)(h1:mROs U.length U1 ct.out rs ⟨[],[],[],[]⟩=some s1)(h2:mPCs U.length U U1 ct.pl s1=some s2)(h3:mNBs U.length U1 U.length ct.nb s2=some s)
  (hc:(nodupN (s.ρ.map Prod.snd)&&(s.fz.all (λb=>Nat.ble U.length b&&!((s.ρ.map Prod.snd).any (Nat.beq b)))&&s.ρ.all λp=>Nat.blt p.1 (U.length+ct.nb.length)))=true) (h:toTup ct.items (s.rw++s.cl)=some x)
  (L:Laid ct U ds rv F) (hds:ofTup ct.items x=ds) (H:RH U σD) (H1:RH U1 U1D) (E:Ext U U1) (g:∀v∈rs,GV U1 v) :
  ∃σs,MX U U1 σs F s ct.nb.length/\All2 (VM U.length U1 σs s) rs rv:=by
 simp only[yAj,yAp] at hc;obtain ⟨hnd,hfz,hlt⟩:=hc;have hS:=zc4 H hs E;have hg:∀(b:Nat) w cs,U1[b]? = some (.cells w cs)->∀p∈cs,GC U1 p.2:=λb w cs hb p hp=>(H1.hg b w cs hb p hp).1;obtain ⟨La,a1,a2,a3,a4,a5⟩:=mROs_ok h1 g;obtain ⟨L2,Lb,b1,b2,b3,b4,b5,b6,b7⟩:=mPCs_ok hg h2;obtain ⟨L3,Lc,c1,c2,c3,c4,c5,c6⟩:=mNBs_ok hg h3;have hq:ds=L2++(L3++(La++(Lb++(Lc++[])))):=by rw[<-hds,toTup_of h,c1,c2,b1,b2,a1,a2];simp
 clear hds;subst hq;have Ro:=pRows_ok L.h1 H;have C:=pPCs_ok L.h4;have S:=L.sr;obtain ⟨n1,_,_⟩:=pNBs_ok L.h5;obtain ⟨e1,r1⟩:=b6 U _ _ _ L.h1;have q2:=L.h2;rw[e1] at q2;obtain ⟨e2,r2⟩:=c5 _ _ _ q2;have q3:=L.h3;rw[e2] at q3;obtain ⟨e3,r3⟩:=a5 _ _ _ _ q3;have q4:=L.h4;rw[e3] at q4;have hl:∀(b:Nat) w cs w1 cs1,L.σr[b]? = some (.cells w cs)->U1[b]? = some (.cells w1 cs1)->cs.length=cs1.length:=λb w cs w1 cs1 x y=>by obtain ⟨blk1,z,sb⟩:=hS b _ ((Ro.cells b w cs).2 x);obtain ⟨w2,cs2,rfl,hl,_⟩:=sb;rw[y] at z;simp only[yAa,TB.cells.injEq] at z;rw[<-hl,<-z.2]
 obtain ⟨e4,r4,r5⟩:=b7 _ _ _ _ _ q4 hl;have q5:=L.h5;rw[e4] at q5;have r6:=c6 _ _ _ _ q5;have hlen2:L.U2.length=U.length:=by rw[C.len,Ro.len]
 have hlen:F.length=U.length+ct.nb.length:=by rw[L.fl,hlen2,n1]
 have Fge:∀k:Nat,F[U.length+k]? = L.l[k]?:=λk=>by rw[L.fa,yA0 (by omega),hlen2];congr 1;omega
 refine ⟨L.σr++L.nb,⟨hlen,S.len.symm,S,λi hi=>?_,?_,hnd,λb hb=>?_,λi hi hi'=>?_⟩,All2.mono (λ_ _=>VM.mono (b3.trans c3)) r3⟩
 ·rcases yAB i U.length with hlt' | hge
  ·have hrho:rhoF U.length s i=i:=by rw[rhoF,if_pos hlt']
   have hb:=yAg hlt';obtain ⟨blk1,x1,sb⟩:=hS i _ hb;unfold BF;rw[hrho];have rm:(∀w cs,U[i]≠.cells w cs)->∃x y,U1[i]? = some x/\F[i]? = some y/\RowEq x y:=λhn=>by
    rcases r1 i with ⟨t1,t2⟩ | ⟨x,y,t1,t2,t3⟩
    ·have hr:L.σr[i]? = some U[i]:=by rw[t2,hb]
     have hF:F[i]? = some U[i]:=by rw[L.lt H hlt'];exact C.same i _ hr hn
     obtain ⟨nw,nm⟩:=notW_of t1;refine ⟨blk1,_,x1,hF,?_⟩;cases hblk:U[i] with
     |cells w cs=>exact absurd hblk (hn w cs)
     |row i0 l lv cv=>rw[hblk] at sb;obtain ⟨l1,lv1,cv1,rfl,sb⟩:=sb;obtain ⟨rfl,rfl,rfl⟩:=sb nw;exact .inl ⟨_,_,_,_,_,_,rfl,rfl⟩
     |mp j st l v=>rw[hblk] at sb;obtain ⟨j1,st1,l1,v1,rfl,sb⟩:=sb;have:=sb nm;rw[this];exact .inr ⟨_,_,_,_,_,rfl,rfl⟩
    ·refine ⟨x,y,t1,?_,t3⟩;rw[L.lt H hlt'];refine C.same i y t2 λw cs e=>?_;subst e;rcases t3 with ⟨_,_,_,_,_,_,_,e⟩ | ⟨_,_,_,_,_,_,e⟩ <;> simp at e
   cases hblk:U[i] with
   |row i0 l lv cv=>obtain ⟨x,y,t1,t2,t3⟩:=rm (λw cs e=>by rw[hblk] at e;simp at e);exact ⟨x,y,t1,t2,.inr t3⟩
   |mp j st l v=>obtain ⟨x,y,t1,t2,t3⟩:=rm (λw cs e=>by rw[hblk] at e;simp at e);exact ⟨x,y,t1,t2,.inr t3⟩
   |cells w cs=>
    rw[hblk] at sb hb;obtain ⟨w1,cs1,rfl,l1,sb⟩:=sb;have hr:=(Ro.cells i w cs).1 hb;obtain ⟨w',cs',t1,t2⟩:=r5 i w cs hr;obtain ⟨w2,cs2,t3,_,t4,_⟩:=C.fwd i w cs hr;rw[t1] at t3;simp only[yAa,TB.cells.injEq] at t3;obtain ⟨rfl,rfl⟩:=t3;refine ⟨_,_,x1,by rw[L.lt H hlt'];exact t1,.inl ⟨w1,cs1,w',cs',rfl,rfl,All2.ofIdx (by simp[l1,t4]) λj a b ha hb'=>?_⟩⟩;rw[yAl,yAd] at ha hb';obtain ⟨p,ha,rfl⟩:=ha;obtain ⟨q,hb',rfl⟩:=hb';by_cases hpl:∃c,PC.h i j c∈ct.pl
    ·obtain ⟨c,hc⟩:=hpl;obtain ⟨w3,cs3,w4,cs4,x,y,u1,u2,u3,u4,u5⟩:=r4 i j c hc;rw[x1] at u1;rw[t1] at u2;simp only[yAa,TB.cells.injEq] at u1 u2;obtain ⟨_,rfl⟩:=u1;obtain ⟨_,rfl⟩:=u2;rw[ha] at u3;rw[hb'] at u4;simp only[yAa] at u3 u4;subst u3 u4;exact .inl (u5.mono c3)
    ·have hnp:∀c,PC.h i j c∉ct.pl:=λc hc=>hpl ⟨c,hc⟩;have hj:j<cs.length:=by rw[<-l1];exact (yAb.1 ha).1
     have h0:=yAg hj;have v1:=sb j _ p h0 ha (notH_of hnp);have v2:=t2 j hnp;rw[hb',h0] at v2;simp only[yAa] at v2;refine .inr ⟨by rw[v1,v2],?_⟩;rw[v1];exact (H.hg i w cs hb _ (yAy h0)).1
  ·obtain ⟨k,rfl⟩:=yBm hge;have hk:k<ct.nb.length:=by omega
   have hnb:=yAg hk;obtain ⟨u1,u2⟩:=r6 k _ hnb;unfold BF;rw[Fge];by_cases hcl:∃ps,ct.nb[k]=.cells ps
   ·obtain ⟨ps,e⟩:=hcl;obtain ⟨b',w,cs,ys,v1,v2,v3,v4⟩:=u1 ps e;rw[rhoF,if_neg (by omega),v1];exact ⟨_,_,v2,v3,.inl ⟨w,cs,0,ys,rfl,rfl,All2.mono (λ_ _ h=>.inl h) v4⟩⟩
   ·have hn:∀ps,ct.nb[k]≠.cells ps:=λps e=>hcl ⟨ps,e⟩;obtain ⟨b',x,y,v1,v2,v3,v4⟩:=r2 k _ hnb hn;rw[rhoF,if_neg (by omega),v1,u2 hn];exact ⟨x,y,v2,v3,.inr v4⟩
 ·exact c4 (b4 (a4 ⟨by simp,by simp⟩))
 ·have:=hfz b hb;simp only[yAj,yAs,yCt] at this;exact ⟨yA8 this.1,λhm=>this.2 b hm (Nat.beq_refl b)⟩
 ·obtain ⟨k,rfl⟩:=yBm hi;have hk:k<ct.nb.length:=by omega
  have hnb:=yAg hk;by_cases hcl:∃ps,ct.nb[k]=.cells ps
  ·obtain ⟨ps,e⟩:=hcl;obtain ⟨b',w,cs,ys,v1,_⟩:=(r6 k _ hnb).1 ps e;exact ⟨b',v1⟩
  ·have hn:∀ps,ct.nb[k]≠.cells ps:=λps e=>hcl ⟨ps,e⟩;obtain ⟨b',x,y,v1,_⟩:=r2 k _ hnb hn;exact ⟨b',v1⟩
theorem absI_mx{rs rv:List TV}{x:tupI ct.items}{ds:List Dat}(h:absI ct U U1 rs=some x)(L:Laid ct U ds rv F)(hds:ofTup ct.items x=ds)(H:RH U σD)(H1:RH U1 U1D)(E:Ext U U1)(g:∀v∈rs,GV U1 v) :
  ∃s σs,MX U U1 σs F s ct.nb.length/\All2 (VM U.length U1 σs s) rs rv:=by
 unfold absI at h;split at h
 ·simp at h
 rename_i hs;split at h
 ·simp at h
 rename_i s1 h1;split at h
 ·simp at h
 rename_i s2 h2;split at h
 ·simp at h
 rename_i s h3;split at h
 rotate_left
 ·simp at h
 rename_i hc;exact ⟨s,mx_of hs h1 h2 h3 hc h L hds H H1 E g⟩
theorem absA_sel{U U1:TH}{rs:List TV}{ct:CT}{x:tupI ct.items}:∀{cs:List CT}{y:altT cs},absA U U1 rs cs=some y->selA cs y=some ⟨ct,x⟩->absI ct U U1 rs=some x:=by
 intro cs;induction cs with
 |nil=>intro y h;simp[absA] at h
 |cons c cs ih=>
  intro y h hs;cases cs with
  |nil=>simp only[absA] at h;simp only[selA,yAa,yBT] at hs;obtain ⟨rfl,hs⟩:=hs;rw[<-eq_of_heq hs];exact h
  |cons d cs=>
   simp only[absA] at h;split at h
   ·rename_i a ha;simp only[yAa] at h;subst h;simp only[selA,yAa,yBT] at hs;obtain ⟨rfl,hs⟩:=hs;rw[<-eq_of_heq hs];exact ha
   ·split at h
    ·rename_i b hb;simp only[yAa] at h;subst h;exact ih (y:=b) hb hs
    ·simp at h
theorem zip3{U:TH}{vs:List TV}{ds:List D}(a:All3 vs ds):(∀v∈vs,GV U v)->∀(i t:Nat)(x:RV)(p:Nat),lkP t (zipT i vs)=some (x,p)->∃d v,x=.v v/\lk t (zipAL i ds)=some d/\RT v d/\GV U v:=by
 induction a with
 |nil=>intro _ i t x p h;simp[zipT,lkP] at h
 |cons hr _ ih=>
  intro g i t x p h;simp only[zipT,lkP] at h;simp only[zipAL,lk];split at h
  ·rename_i hb;simp only[yAa,yAc] at h
   try rw[hb]
   exact ⟨_,_,h.1.symm,rfl,hr,g _ (yAq ..)⟩
  ·rename_i hb
   try rw[hb]
   exact ih (λv hv=>g v (yAm _ hv)) (i+1) t x p h
theorem All3.len{vs:List TV}{ds:List D}(a:All3 vs ds):vs.length=ds.length:=by
 induction a with
 |nil=>rfl
 |cons _ _ ih=>simp[ih]
def InlB.ok(P:Program)(B:InlB):Prop:=∀(cs:List CT)(gi:FuncId)(vs:List TV)(U:TH)(y:altT cs)(ct:CT)(x:tupI ct.items)(rv:List TV)(U2:TH)(σD:Heap)(ds:List D),B cs gi vs U=some y->selA cs y=some ⟨ct,x⟩->putI ct U x=some (rv,U2)->RH U σD->All3 vs ds->(∀v∈vs,GV U v) ->
 enterable P gi=true/\Ok P gi ds σD (one (rv.map eD)) (U2.map TB.er)
theorem InlB.ok.inl{P:Program}{B:InlB}(hB:InlB.ok P B)(S:TSs)(H:List (Nat×Nat))(J:List (Nat×JH))(C:List (Nat×List CT))(n N:Nat)(X:ExB)(RS:ResF):InlOk0 ⟨P,S,H,J,C,n,N,B,X,RS⟩:=by intro cs gi vs U y ct x rv U2 σD ds h hsel hput Hh hvs hgs;obtain ⟨h1,h2⟩:=hB cs gi vs U y ct x rv U2 σD ds h hsel hput Hh hvs hgs;obtain ⟨L⟩:=putI_laid hput;obtain ⟨k1,k2,k3,k4,k5,k6⟩:=L.all Hh;exact ⟨h1,one (rv.map eD),U2.map TB.er,k1,k2,k3,k4,h2,k5,k6⟩
def ExB.ok(P:Program)(X:ExB):Prop:=∀(ct:CT)(gi:FuncId)(vs:List TV)(U:TH)(rv:List TV)(U2:TH)(σD:Heap)(ds:List D),X ct gi vs U=some (rv,U2)->RH U σD->All3 vs ds->(∀v∈vs,GV U v) ->
 enterable P gi=true/\∃r σD2,RH U2 σD2/\RT (oneT rv) r/\GV U2 (oneT rv)/\Ext U U2/\Ok P gi ds σD r σD2/\(∀b,b<σD.length->σD2[b]? = σD[b]?)
theorem ExB.ok.two{P:Program}{X:ExB}(hX:ExB.ok P X)(S:TSs)(H:List (Nat×Nat))(J:List (Nat×JH))(C:List (Nat×List CT))(n N:Nat)(B:InlB)(RS:ResF):ExOk ⟨P,S,H,J,C,n,N,B,X,RS⟩:=hX
theorem inl1xok{P:Program}{S:TSs}{N:Nat}{B I:InlB}{X:ExB}{RS:ResF}(mix:P.follows .mixedOrders=true)(hS:TSsOk P S)(hB:InlB.ok P B)(hI:InlB.ok P I)(hX:ExB.ok P X):InlB.ok P (inl1 P S N B RS I X):=by
 intro cs gi vs U y ct x rv U2 σD ds h hsel hput Hh hvs hgs;cases cs with
 |nil=>simp[inl1] at h
 |cons ct0 cs=>
  simp only[inl1] at h;split at h
  ·exact hB _ gi vs U y ct x rv U2 σD ds h hsel hput Hh hvs hgs
  split at h
  ·rename_i fn hg;split at h
   ·rename_i af hc;split at h
    ·rename_i he;simp only[yAj] at he;obtain ⟨L⟩:=putI_laid hput;have R0:Ref (zipT 0 vs) U (zipAL 0 ds) σD:=⟨Hh,λt x p h=>by
      obtain ⟨d,v,rfl,h1,h2,h3⟩:=zip3 hvs hgs 0 t x p h;exact ⟨d,h1,h2,h3⟩⟩
     refine ⟨he.1,?_⟩;refine ok_of_sem hg hc (by rw[<-hvs.len];exact yA8 he.2) ?_;refine (tC_ok ⟨P,S,ct0.H,ct0.J,ct0.C,af.ntmps,N,I,X,RS⟩ mix (callOrc_ok (specsOf_ok hS)) ⟨hI.inl _ _ _ _ _ _ _ _,hX.two _ _ _ _ _ _ _ _⟩ af.body 1 _ _ _ y _ _ h R0).monoW λx' alD' σD' hP=>.inl ?_;obtain ⟨al',U',p1,_,p3,p4⟩:=hP;have fin:(match mapO (resT al' U') af.results with | some rs=>absA U U' rs (ct0::cs) | none=>none)=some y->∃ds' ρ F,af.results.mapM (resA alD' σD')=some ds'/\RnH σD.length σD' (U2.map TB.er) ρ F/\(∀b,F b->σD.length<=b)/\DWr σD' (U2.map TB.er) ρ F (one ds') (one (rv.map eD)):=by
      intro h4;split at h4
      ·rename_i rs hrs;obtain ⟨ds',h5,h6,h7⟩:=ress_ok p1 hrs;have h8:=absA_sel h4 hsel;obtain ⟨s,σs,X,hv⟩:=absI_mx h8 L rfl Hh p1.hh p3 h7;refine ⟨ds',_,_,h5,by rw[Hh.len];exact X.rnH p1.hh,λb hb=>by rw[Hh.len];exact (X.fz b hb).1,X.vals p1.hh hv h6⟩
      ·simp at h4
     cases x' with
     |exit i=>simp at p4
     |normal=>exact ⟨.inl rfl,fin p4⟩
     |ret=>exact ⟨.inr rfl,fin p4⟩
    ·simp at h
   ·simp at h
  ·simp at h
theorem sTC_ne{n:Nat}{x:TC}(h:sTC n x=true):x≠.any:=λe=>by subst e;simp[sTC] at h
theorem sTC_gc{U:TH}{x:TC}(h:sTC U.length x=true):GC U x:=by
 cases x with
 |d x=>exact h
 |own=>simp[sTC] at h
 |op=>simp[sTC] at h
 |ap=>simp[sTC] at h
 |os=>simp[sTC] at h
 |fna=>simp[sTC] at h
 |_=>trivial
theorem exV_eD{n:Nat}{v:TV}{d:D}(h:exV n v=true)(r:RT v d):d=eD v:=by
 cases v with
 |c x=>exact RT.c1 (sTC_ne h) r
 |agg xs=>obtain ⟨ds,rfl,hd⟩:=r;simp only[exV,yAp] at h;rw[hd.eq λy hy=>sTC_ne (h y hy)];rfl
 |tup xs=>simp[exV] at h
theorem exV_nt{n:Nat}{v:TV}(h:exV n v=true):nT v:=by
 cases v with
 |tup xs=>simp[exV] at h
 |_=>trivial
theorem exV_gv{U:TH}{v:TV}(h:exV U.length v=true):GV U v:=by
 cases v with
 |c x=>exact sTC_gc h
 |agg xs=>simp only[exV,yAp] at h;exact λx hx=>sTC_gc (h x hx)
 |tup xs=>simp[exV] at h
theorem exVs_eD{n:Nat}:∀{vs:List TV}{ds:List D},vs.all (exV n)=true->All3 vs ds->ds=vs.map eD:=by
 intro vs;induction vs with
 |nil=>intro ds _ h;cases h;rfl
 |cons v vs ih=>
  intro ds h a;cases a with
  |cons r a=>simp only[List.all_cons,yAj] at h;rw[yAw,<-exV_eD h.1 r,<-ih h.2 a]
theorem heapSame_len{pl:List Pl}{U U1:TH}(h:heapSame pl 0 U U1=true):U.length<=U1.length:=by
 rcases yAB U1.length U.length with hlt | hge
 ·obtain ⟨blk,h1,_⟩:=heapSame_at h U1.length _ (yAg hlt);rw[yAG (yAo _)] at h1;simp at h1
 ·exact hge
theorem ok_of_semE{P:Program}{g:FuncId}{fn:Func}{af:AFunc}{fz:Bool}{ds:List D}{r:D}{U U2:Heap}(hg:P.funcs[g]? = some fn)(hc:compF P fn fz=some af)(hlen:ds.length<=af.ntmps)
  (h:Sem P af.body af.ntmps (zipAL 0 ds) U λx al U1=>(x=.normal∨x=.ret)/\∃ds',af.results.mapM (resA al U1)=some ds'/\U1=U2/\one ds'=r):Ok P g ds U r U2:=by
 unfold compF at hc;split at hc
 ·rename_i c hb;split at hc
  ·rename_i ac rs h1 h2;simp only[yAa] at hc;subst hc;dsimp only at h hlen;intro M Fz w vs R hs hvs;refine calls_of_wp hg hb ?_;have A0:AEnv fn.ntmps U M Fz w (zipAL 0 ds) (vs++Array.replicate (fn.ntmps-vs.size) undef):=by
    refine ⟨by simp;omega,λt d ht=>?_⟩;obtain ⟨_,h3⟩:=zipAL_lk ds 0 t d ht;rw[Nat.sub_zero] at h3;have hlt:t<vs.size:=by rw[hs];exact (yAb.1 h3).1
    exact ⟨vs[t],by rw[yBl hlt,yAn hlt],hvs t d _ h3 (yAn hlt)⟩
   refine h c h1 M Fz w { tmps:=vs++Array.replicate (fn.ntmps-vs.size) undef,defers:=[] } _ R A0 λx al' U' a' w' M' Fz' hQ hd R' A' EV hl=>?_;obtain ⟨hx,ds',hm,rfl,rfl⟩:=hQ;have hm':rs.mapM (zcq (zeu fn.ntmps al') U')=some ds':=by
    have key:∀(l:List (Nat×Option (Option Nat))) ds',l.mapM (resA al' U')=some ds'->l.mapM (zcq (zeu fn.ntmps al') U')=some ds':=by
     intro l;induction l with
     |nil=>intro ds' h;simpa using h
     |cons p l ih=>
      intro ds' h;rw[yAS] at h ⊢;cases hp:resA al' U' p with
      |none=>rw[hp] at h;simp at h
      |some d=>
       rw[hp] at h;have:zcq (zeu fn.ntmps al') U' p=some d:=by
        obtain ⟨t,o⟩:=p;cases o with
        |none=>exact A'.toEnv.2.2 t d hp
        |some k=>
         simp only[resA] at hp;split at hp
         ·rename_i b off sz hlk;simp only[zcq,A'.toEnv.2.2 t _ hlk];exact hp
         ·simp at hp
       rw[this];cases hr:l.mapM (resA al' U') with
       |none=>rw[hr] at h;simp at h
       |some q=>rw[hr] at h;rw[ih q hr];exact h
    exact key rs ds' hm
   obtain ⟨v,hv1,hv2⟩:=results_ok (P:=P) R' A'.toEnv.1 h2 hm';have post:a'.defers=[]/\∃v,(results fn a'.tmps).run P w'=.ok v w'/\∃v' M'' Fz'',Ending.returned v=.returned v'/\Rel U' M'' Fz'' w'/\V U' M'' Fz'' w' (one ds') v'/\Evo U M Fz w U' M'' Fz'' w':=
    ⟨hd,v,hv1,v,_,_,rfl,R',hv2,EV⟩
   rcases hx with rfl | rfl
   ·exact post
   ·exact post
  ·simp at hc
 ·simp at hc
theorem SB.er0{b:Nat}{x y:TB}(h:SB [] b x y):y.er=x.er:=by
 cases x with
 |cells w cs=>
  obtain ⟨w1,cs1,rfl,hl,hc⟩:=h;simp only[TB.er,Ob.cells.injEq];apply yAM;intro j;rw[yAl,yAl];cases e:cs[j]? with
  |none=>have:=yCg.1 e;rw[yAG (by omega)]
  |some p=>
   have hj:j<cs1.length:=by rw[hl];exact (yAb.1 e).1
   have:=hc j p _ e (yAg hj) (λc hm=>by simp at hm);rw[yAg hj,this]
 |row i l lv cv=>
  obtain ⟨l1,lv1,cv1,rfl,hc⟩:=h;obtain ⟨rfl,_,_⟩:=hc λc hm=>by simp at hm
  rfl
 |mp j st l v=>obtain ⟨j1,st1,l1,v1,e,hc⟩:=h;rw[hc λc st hm=>by simp at hm]
theorem ex1xok{P:Program}{S:TSs}{N:Nat}{I:InlB}{X:ExB}{RS:ResF}(mix:P.follows .mixedOrders=true)(hS:TSsOk P S)(hI:InlB.ok P I)(hX:ExB.ok P X):ExB.ok P (ex1 P S N RS I X):=by
 intro ct gi vs U rv U2 σD ds h Hh hvs hgs;unfold ex1 at h;split at h
 ·rename_i fn hg;split at h
  ·rename_i af hc;split at h
   ·rename_i he;simp only[yAj] at he;have R0:Ref (zipT 0 vs) U (zipAL 0 ds) σD:=⟨Hh,λt x p h=>by
     obtain ⟨d,v,rfl,h1,h2,h3⟩:=zip3 hvs hgs 0 t x p h;exact ⟨d,h1,h2,h3⟩⟩
    obtain ⟨⟨rs,U1⟩,h,hq⟩:=zby h;have T:=tC_ok ⟨P,S,ct.H,ct.J,ct.C,af.ntmps,N,I,X,RS⟩ mix (callOrc_ok (specsOf_ok hS)) ⟨hI.inl _ _ _ _ _ _ _ _,hX.two _ _ _ _ _ _ _ _⟩ af.body 1 _ _ _ (rs,U1) _ _ h R0;dsimp only at hq;split at hq
    rotate_left
    ·simp at hq
    rename_i hk;simp only[yAj] at hk;obtain ⟨hx,hs,hb⟩:=hk;simp only[yAa,yAc] at hq;obtain ⟨rfl,rfl⟩:=hq;have hlen:=heapSame_len hs;have hl2:(U++U1.drop U.length).length=U1.length:=by rw[yAC,yBQ];omega
    have xt:Ext U (U++U1.drop U.length):=λb blk h=>⟨blk,by rw[yAr (yAb.1 h).1];exact h,BE.refl blk⟩;have hrh:RH (U++U1.drop U.length) ((U++U1.drop U.length).map TB.er):=by
     refine RH.mk' λb w cs hb' p hp=>?_;rcases yAB b U.length with h1 | h1
     ·rw[yAr h1] at hb';obtain ⟨g1,g2⟩:=Hh.hg b w cs hb' p hp;exact ⟨g1.mono xt,g2⟩
     ·rw[yA0 h1] at hb';rw[yAp] at hb;have:=hb _ (yAy hb');simp only[sBlk,yAp,yAj] at this;obtain ⟨t1,t2⟩:=this p hp;exact ⟨sTC_gc (by rw[hl2];exact t1),yA8 t2⟩
    rw[yAp] at hx;have hnt:∀v∈rs,nT v:=λv hv=>exV_nt (hx v hv);have hgv:∀v∈rs,GV (U++U1.drop U.length) v:=λv hv=>exV_gv (by rw[hl2];exact hx v hv);refine ⟨he.1,one (rs.map eD),(U++U1.drop U.length).map TB.er,hrh,oneT_rt hnt,oneT_gv hgv,xt,?_,λb hb'=>?_⟩
    ·refine ok_of_semE hg hc (by rw[<-hvs.len];exact yA8 he.2) (T.monoW λx' alD' σD' hP=>.inl ?_);obtain ⟨al',U',p1,_,p3,p4⟩:=hP;have fin:(match mapO (resT al' U') af.results with | some rs=>some (rs,U') | none=>none)=some (rs,U1)->∃ds',af.results.mapM (resA alD' σD')=some ds'/\σD'=(U++U1.drop U.length).map TB.er/\one ds'=one (rs.map eD):=by
      intro h4;split at h4
      ·rename_i rs' hrs;simp only[yAa,yAc] at h4;obtain ⟨rfl,rfl⟩:=h4;obtain ⟨ds',h5,h6,h7⟩:=ress_ok p1 hrs;refine ⟨ds',h5,?_,by rw[exVs_eD (yAp.2 hx) h6]⟩;rw[p1.hh.eqD];apply yAM;intro b;rw[yAl,yAl];rcases yAB b U.length with h1 | h1
       ·rw[yAr h1];obtain ⟨blk1,e1,e2⟩:=zc4 Hh hs p3 b _ (yAg h1);rw[e1,yAg h1];simp only[Option.map_some,e2.er0]
       ·rw[yA0 h1,yAT,Nat.add_sub_cancel' h1]
      ·simp at h4
     cases x' with
     |exit i=>simp at p4
     |normal=>exact ⟨.inl rfl,fin p4⟩
     |ret=>exact ⟨.inr rfl,fin p4⟩
    ·rw[Hh.len] at hb';rw[Hh.eqD,yAl,yAl,yAr hb']
   ·simp at h
  ·simp at h
 ·simp at h
theorem evD_ok{P:Program}{S:TSs}{N:Nat}{B:InlB}{RS:ResF}(mix:P.follows .mixedOrders=true)(hS:TSsOk P S)(hB:InlB.ok P B):∀(dp:Nat),InlB.ok P (evD P S N B RS dp).1/\ExB.ok P (evD P S N B RS dp).2:=by
 intro dp;induction dp with
 |zero=>exact ⟨λcs gi vs U y ct x rv U2 σD ds h=>by simp[evD] at h,λct gi vs U rv U2 σD ds h=>by simp[evD] at h⟩
 |succ dp ih=>exact ⟨inl1xok mix hS hB ih.1 ih.2,ex1xok mix hS ih.1 ih.2⟩
end
end Go.Abs
end
section
namespace Go.Abs
variable[Gl]
def D.ren(ρ:Nat->Nat):D->D
 |.c x=>.c x
 |.any=>.any
 |.ptr b o s=>.ptr (ρ b) o s
 |.sl b o l e s=>.sl (ρ b) o l e s
 |.mp b=>.mp (ρ b)
 |.fn f a b=>.fn f (rens ρ a) (rens ρ b)
 |.agg ds=>.agg (rens ρ ds)
 |.tup ds=>.tup (rens ρ ds)
where rens (ρ:Nat->Nat):List D->List D
 |[]=>[]
 |d::ds=>d.ren ρ::rens ρ ds
theorem rens_map(ρ:Nat->Nat)(l:List D):D.ren.rens ρ l=l.map (D.ren ρ):=by
 induction l with
 |nil=>rfl
 |cons d l ih=>simp only[D.ren.rens,ih,yAw]
theorem rens_get(ρ:Nat->Nat)(l:List D)(i:Nat):(D.ren.rens ρ l)[i]? = (l[i]?).map (D.ren ρ):=by rw[rens_map,yAl]
theorem rens_len(ρ:Nat->Nat)(l:List D):(D.ren.rens ρ l).length=l.length:=by rw[rens_map,yAz]
def Ob.ren(ρ:Nat->Nat):Ob->Ob
 |.cells cs=>.cells (cs.map (D.ren ρ))
 |.map es clock=>.map (es.map λe=>(e.1,e.2.1.ren ρ,e.2.2)) clock
 |.gone n=>.gone n
theorem Ob.ren_sz(ρ:Nat->Nat)(ob:Ob):(ob.ren ρ).sz=ob.sz:=by cases ob <;> simp[Ob.ren,Ob.sz]
section
variable{U H:Heap}{M:Nat->Option Nat}{Fz:Nat->Prop}{w:World}{ρ:Nat->Nat}
theorem V.back{n:Nat}{M0:Nat->Option Nat}(hM:∀i,i<n->M0 i=M (ρ i))(hσ:∀i,i<n->U[ρ i]? = (H[i]?).map (Ob.ren ρ)){d:D}{v:Value}(h:V U M Fz w (d.ren ρ) v):d.low n=true->V H M0 Fz w d v:=by
 generalize hd:d.ren ρ=d' at h;induction h generalizing d with
 |c h=>intro _;cases d <;> simp only[D.ren,reduceCtorEq,D.c.injEq] at hd;subst hd;exact .c h
 |any v=>intro _;cases d <;> simp only[D.ren,reduceCtorEq] at hd;exact .any v
 |ptr a ob h hle hv=>
  intro hl;cases d <;> simp only[D.ren,reduceCtorEq,D.ptr.injEq] at hd
  obtain ⟨rfl,rfl,rfl⟩:=hd;simp only[D.low,yAf] at hl;rw[hσ _ hl,yAd] at h;obtain ⟨ob',h1,rfl⟩:=h;rw[Ob.ren_sz] at hle hv;exact .ptr a ob' h1 hle λe=>by rw[hM _ hl];exact hv e
 |sl a n' cap hnn ob h hle hv=>
  intro hl;cases d <;> simp only[D.ren,reduceCtorEq,D.sl.injEq] at hd
  obtain ⟨rfl,rfl,rfl,rfl,rfl⟩:=hd;simp only[D.low,yAf] at hl;rw[hσ _ hl,yAd] at h;obtain ⟨ob',h1,rfl⟩:=h;rw[Ob.ren_sz] at hle hv;exact .sl a n' cap hnn ob' h1 hle λe=>by rw[hM _ hl];exact hv e
 |mp c ob h hv=>
  intro hl;cases d <;> simp only[D.ren,reduceCtorEq,D.mp.injEq] at hd
  subst hd;simp only[D.low,yAf] at hl;rw[hσ _ hl,yAd] at h;obtain ⟨ob',h1,rfl⟩:=h;rw[Ob.ren_sz] at hv;exact .mp c ob' h1 λe=>by rw[hM _ hl];exact hv e
 |fn vs ws h1 h2 hv hw ih1 ih2=>
  intro hl;cases d <;> simp only[D.ren,reduceCtorEq,D.fn.injEq] at hd
  obtain ⟨rfl,rfl,rfl⟩:=hd;simp only[D.low,yAj] at hl;rw[rens_len] at h1 h2;exact .fn vs ws h1 h2 (λi d v a b=>ih1 i _ v (by rw[rens_get,a];rfl) b rfl (D.lows_get hl.1 i d a)) (λi d v a b=>ih2 i _ v (by rw[rens_get,a];rfl) b rfl (D.lows_get hl.2 i d a))
 |agg vs h1 hv ih=>
  intro hl;cases d <;> simp only[D.ren,reduceCtorEq,D.agg.injEq] at hd
  subst hd;simp only[D.low] at hl;rw[rens_len] at h1;exact .agg vs h1 (λi d v a b=>ih i _ v (by rw[rens_get,a];rfl) b rfl (D.lows_get hl i d a))
 |tup vs h1 hv ih=>
  intro hl;cases d <;> simp only[D.ren,reduceCtorEq,D.tup.injEq] at hd
  subst hd;simp only[D.low] at hl;rw[rens_len] at h1;exact .tup vs h1 (λi d v a b=>ih i _ v (by rw[rens_get,a];rfl) b rfl (D.lows_get hl i d a))
theorem V.forth{n:Nat}{M0:Nat->Option Nat}(hM:∀i,i<n->M (ρ i)=M0 i)(hσ:∀i,i<n->U[ρ i]? = (H[i]?).map (Ob.ren ρ)){d:D}{v:Value}(h:V H M0 Fz w d v):d.low n=true->V U M Fz w (d.ren ρ) v:=by
 induction h with
 |c h=>intro _;exact .c h
 |any v=>intro _;exact .any v
 |ptr a ob h hle hv=>intro hl;simp only[D.low,yAf] at hl;exact .ptr a (ob.ren ρ) (by rw[hσ _ hl,h];rfl) (by rw[Ob.ren_sz];exact hle) λe=>by rw[hM _ hl];exact hv (by rw[Ob.ren_sz] at e;exact e)
 |sl a n' cap hnn ob h hle hv=>intro hl;simp only[D.low,yAf] at hl;exact .sl a n' cap hnn (ob.ren ρ) (by rw[hσ _ hl,h];rfl) (by rw[Ob.ren_sz];exact hle) λe=>by rw[hM _ hl];exact hv (by rw[Ob.ren_sz] at e;exact e)
 |mp c ob h hv=>intro hl;simp only[D.low,yAf] at hl;exact .mp c (ob.ren ρ) (by rw[hσ _ hl,h];rfl) λe=>by rw[hM _ hl];exact hv (by rw[Ob.ren_sz] at e;exact e)
 |fn vs ws h1 h2 hv hw ih1 ih2=>
  intro hl;simp only[D.low,yAj] at hl;refine .fn vs ws (by rw[rens_len];exact h1) (by rw[rens_len];exact h2) (λi d v a b=>?_) (λi d v a b=>?_)
  ·rw[rens_get,yAd] at a;obtain ⟨d0,a,rfl⟩:=a;exact ih1 i d0 v a b (D.lows_get hl.1 i d0 a)
  ·rw[rens_get,yAd] at a;obtain ⟨d0,a,rfl⟩:=a;exact ih2 i d0 v a b (D.lows_get hl.2 i d0 a)
 |agg vs h1 hv ih=>intro hl;simp only[D.low] at hl;refine .agg vs (by rw[rens_len];exact h1) (λi d v a b=>?_);rw[rens_get,yAd] at a;obtain ⟨d0,a,rfl⟩:=a;exact ih i d0 v a b (D.lows_get hl i d0 a)
 |tup vs h1 hv ih=>intro hl;simp only[D.low] at hl;refine .tup vs (by rw[rens_len];exact h1) (λi d v a b=>?_);rw[rens_get,yAd] at a;obtain ⟨d0,a,rfl⟩:=a;exact ih i d0 v a b (D.lows_get hl i d0 a)
theorem ObRel.back{n:Nat}{M0:Nat->Option Nat}(hM:∀i,i<n->M0 i=M (ρ i))(hσ:∀i,i<n->U[ρ i]? = (H[i]?).map (Ob.ren ρ)){ob:Ob}{o:Obj}(hl:ob.low n=true)(h:ObRel U M Fz w (ob.ren ρ) o):ObRel H M0 Fz w ob o:=by
 cases ob with
 |cells cs=>obtain ⟨arr,T,rfl,h1,h2⟩:=h;simp only[yAz] at h1;refine ⟨arr,T,rfl,h1,λi d v a b=>?_⟩;obtain ⟨h3,h4⟩:=h2 i (d.ren ρ) v (by rw[yAl,a];rfl) b;exact ⟨V.back hM hσ h3 (D.lows_get hl i d a),h4⟩
 |map es clock=>obtain ⟨arr,hck,h1,h2⟩:=h;simp only[yAz] at h1;refine ⟨arr,hck,h1,λi k d m e a b=>?_⟩;obtain ⟨h3,h4,h5⟩:=h2 i k (d.ren ρ) m e (by rw[yAl,a];rfl) b;simp only[Ob.low,yAp] at hl;exact ⟨h3,h4,V.back hM hσ h5 (hl _ (yAy a))⟩
 |gone m=>exact h
theorem ObRel.forth{n:Nat}{M0:Nat->Option Nat}(hM:∀i,i<n->M (ρ i)=M0 i)(hσ:∀i,i<n->U[ρ i]? = (H[i]?).map (Ob.ren ρ)){ob:Ob}{o:Obj}(hl:ob.low n=true)(h:ObRel H M0 Fz w ob o):ObRel U M Fz w (ob.ren ρ) o:=by
 cases ob with
 |cells cs=>obtain ⟨arr,T,rfl,h1,h2⟩:=h;refine ⟨arr,T,rfl,by simpa using h1,λi d v a b=>?_⟩;rw[yAl,yAd] at a;obtain ⟨d0,a,rfl⟩:=a;obtain ⟨h3,h4⟩:=h2 i d0 v a b;exact ⟨V.forth hM hσ h3 (D.lows_get hl i d0 a),h4⟩
 |map es clock=>obtain ⟨arr,hck,h1,h2⟩:=h;refine ⟨arr,hck,by simpa using h1,λi k d m e a b=>?_⟩;rw[yAl,yAd] at a;obtain ⟨⟨k0,d0,m0⟩,a,ea⟩:=a;simp only[yAc] at ea;obtain ⟨rfl,rfl,rfl⟩:=ea;obtain ⟨h3,h4,h5⟩:=h2 i k0 d0 m0 e a b;simp only[Ob.low,yAp] at hl;exact ⟨h3,h4,V.forth hM hσ h5 (hl _ (yAy a))⟩
 |gone m=>exact h
end
end Go.Abs
end
section
namespace Go.Abs
noncomputable section
variable[Gl][Y:Ty]
def za4(P:Program)(g:FuncId)(s:OSp):Prop:=enterable P g=true/\∀(x:tupI s.inp.items)(y:altT s.cts)(vs:List TV)(U:TH)(ct:CT)(z:tupI ct.items)(rv:List TV)(U2:TH),
 s.f x=some y->putI s.inp [] x=some (vs,U)->selA s.cts y=some ⟨ct,z⟩->putI ct U z=some (rv,U2)->Ok P g (vs.map eD) (U.map TB.er) (one (rv.map eD)) (U2.map TB.er)
theorem D.ren_low(ρ:Nat->Nat){d:D}(h:d.low 0=true):d.ren ρ=d:=by
 have key:∀(k:Nat)(d:D),SizeOf.sizeOf d<k->d.low 0=true->d.ren ρ=d:=by
  intro k;induction k with
  |zero=>intro d h;omega
  |succ k ih=>
   have lows:∀(ds:List D),SizeOf.sizeOf ds<k+1->D.low.lows 0 ds=true->D.ren.rens ρ ds=ds:=by
    intro ds;induction ds with
    |nil=>intro _ _;rfl
    |cons x ds ih2=>intro hs h;simp only[D.low.lows,yAj,List.cons.sizeOf_spec] at h hs;simp only[D.ren.rens];rw[ih x (by omega) h.1,ih2 (by omega) h.2]
   intro d hs h;cases d with
   |c x=>rfl
   |any=>rfl
   |ptr b o s=>simp[D.low] at h
   |sl b o l e s=>simp[D.low] at h
   |mp b=>simp[D.low] at h
   |fn f a b=>simp only[D.low,yAj,D.fn.sizeOf_spec] at h hs;simp only[D.ren];rw[lows a (by omega) h.1,lows b (by omega) h.2]
   |agg ds=>simp only[D.low,D.agg.sizeOf_spec] at h hs;simp only[D.ren];rw[lows ds (by omega) h]
   |tup ds=>simp only[D.low,D.tup.sizeOf_spec] at h hs;simp only[D.ren];rw[lows ds (by omega) h]
 exact key (SizeOf.sizeOf d+1) d (yCh _) h
theorem map_er_ren(ρ:Nat->Nat)(l:List C):(l.map D.c).map (D.ren ρ)=l.map D.c:=by rw[yB8];rfl
theorem expC_ren(ρ:Nat->Nat)(c:CC)(a:c.dn):(expC c a).er.ren ρ=(expC c a).er:=by rw[expC_er];rfl
theorem exp_ren(ρ:Nat->Nat)(i:Nat)(a:TT i):((exp i a).map TC.er).map (D.ren ρ)=(exp i a).map TC.er:=by rw[exp_er,yB8];rfl
def CanB(ρ:Nat->Nat)(x y:TB):Prop:=(∃w cs w' cs',x=.cells w cs/\y=.cells w' cs'/\All2 (λ(a b:Nat×TC)=>b.2.er=a.2.er.ren ρ) cs cs')∨RowEq x y
structure CanH (ρ:Nat->Nat) (n:Nat) (U0 U:TH):Prop where
 len:U0.length=n
 bs:∀i,i<n->∃x y,U0[i]? = some x/\U[ρ i]? = some y/\CanB ρ x y
variable{ρ:Nat->Nat}{n m0:Nat}{U0 U:TH}
theorem CanH.set(h:CanH ρ n U0 U)(inj:∀i j,i<n->j<n->ρ i=ρ j->i=j){b:Nat}(hb:b<n){x y:TB}(hxy:CanB ρ x y):CanH ρ n (U0.set b x) (U.set (ρ b) y):={
 len:=by rw[yAI];exact h.len
 bs:=λi hi=>by
  by_cases e:i=b
  ·subst e;obtain ⟨x0,y0,h1,h2,_⟩:=h.bs i hi;exact ⟨x,y,zaU h1,zaU h2,hxy⟩
  ·obtain ⟨x0,y0,h1,h2,h3⟩:=h.bs i hi;refine ⟨x0,y0,by rw[zay e];exact h1,?_,h3⟩;rw[zay λe'=>e (inj i b hi hb e')];exact h2 }
theorem CanH.row(h:CanH ρ n U0 U){b i:Nat}(hb:b<n){l:List (TT i)}{lv cv:Nat}(hr:U[ρ b]? = some (.row i l lv cv)):∃lv0 cv0,U0[b]? = some (.row i l lv0 cv0):=by
 obtain ⟨x,y,h1,h2,h3⟩:=h.bs b hb;rw[hr] at h2;simp only[yAa] at h2;subst h2;rcases h3 with ⟨_,_,_,_,_,e,_⟩ | ⟨i',l',lv',cv',lv2,cv2,e1,e2⟩ | ⟨_,_,_,_,_,_,e⟩
 ·simp at e
 ·simp only[TB.row.injEq] at e2;obtain ⟨rfl,e3,_,_⟩:=e2;cases e3;exact ⟨lv',cv',by rw[h1,e1]⟩
 ·simp at e
theorem CanH.mp(h:CanH ρ n U0 U){b j:Nat}{st:Bool}(hb:b<n){l:List (Int×TT j)}{v:Nat}(hr:U[ρ b]? = some (.mp j st l v)):∃v0,U0[b]? = some (.mp j st l v0):=by
 obtain ⟨x,y,h1,h2,h3⟩:=h.bs b hb;rw[hr] at h2;simp only[yAa] at h2;subst h2;rcases h3 with ⟨_,_,_,_,_,e,_⟩ | ⟨_,_,_,_,_,_,_,e⟩ | ⟨j',st',l',v',v2,e1,e2⟩
 ·simp at e
 ·simp at e
 ·simp only[TB.mp.injEq] at e2;obtain ⟨rfl,rfl,e3,_⟩:=e2;cases e3;exact ⟨v',by rw[h1,e1]⟩
theorem CanH.cells(h:CanH ρ n U0 U){b:Nat}(hb:b<n){w:Nat}{cs:List (Nat×TC)}(hr:U[ρ b]? = some (.cells w cs)):∃w0 cs0,U0[b]? = some (.cells w0 cs0)/\All2 (λ(a b:Nat×TC)=>b.2.er=a.2.er.ren ρ) cs0 cs:=by
 obtain ⟨x,y,h1,h2,h3⟩:=h.bs b hb;rw[hr] at h2;simp only[yAa] at h2;subst h2;rcases h3 with ⟨w0,cs0,w',cs',e1,e2,h4⟩ | ⟨_,_,_,_,_,_,_,e⟩ | ⟨_,_,_,_,_,_,e⟩
 ·simp only[TB.cells.injEq] at e2;obtain ⟨_,rfl⟩:=e2;exact ⟨w0,cs0,by rw[h1,e1],h4⟩
 ·simp at e
 ·simp at e
theorem pCP_sim{p q:CP}{ds r:List Dat}{y:TC}(hr:rCP ρ n p q=true)(h:CanH ρ n U0 U)(hq:pCP U q ds=some (y,r)):∃y0,pCP U0 p ds=some (y0,r)/\y.er=y0.er.ren ρ:=by
 unfold rCP at hr;split at hr
 ·rename_i a b;have:=of_decide_eq_true hr;subst this;cases ds with
  |nil=>simp[pCP] at hq
  |cons d ds=>
   simp only[pCP] at hq ⊢;split at hq
   ·rename_i a' ha;simp only[yAa,yAc] at hq;obtain ⟨rfl,rfl⟩:=hq;exact ⟨_,rfl,(expC_ren ρ _ _).symm⟩
   ·simp at hq
 ·cases ds with
  |nil=>simp[pCP] at hq
  |cons d ds=>
   simp only[pCP] at hq ⊢;split at hq
   ·rename_i a' ha;simp only[yAa,yAc] at hq;obtain ⟨rfl,rfl⟩:=hq;exact ⟨_,rfl,rfl⟩
   ·simp at hq
 ·rename_i b b';simp only[yAj] at hr;have e:=yAi hr.1;have hb:=yAQ.mp hr.2;subst e;simp only[pCP] at hq ⊢;split at hq
  ·rename_i i l lv cv hs;simp only[yAa,yAc] at hq;obtain ⟨rfl,rfl⟩:=hq;obtain ⟨lv0,cv0,h0⟩:=h.row hb hs;rw[h0];exact ⟨_,rfl,rfl⟩
  ·simp at hq
 ·rename_i b o s b' o' s';simp only[yAj] at hr;obtain ⟨e,hb,e2,e3⟩:=hr;have e:=yAi e;have hb:=yAQ.mp hb;have e2:=yAi e2;have e3:=yAi e3;subst e e2 e3;simp only[pCP] at hq ⊢;split at hq
  ·simp only[yAa,yAc] at hq;obtain ⟨rfl,rfl⟩:=hq;rw[h.len,yAQ.mpr hb];exact ⟨_,rfl,rfl⟩
  ·simp at hq
 ·rename_i b b';simp only[yAj] at hr;have e:=yAi hr.1;have hb:=yAQ.mp hr.2;subst e;simp only[pCP] at hq ⊢;split at hq
  ·simp only[yAa,yAc] at hq;obtain ⟨rfl,rfl⟩:=hq;rw[h.len,yAQ.mpr hb];exact ⟨_,rfl,rfl⟩
  ·simp at hq
 ·rename_i d d';have:=eqK_eq hr;subst this;simp only[pCP] at hq ⊢;split at hq
  ·rename_i hl;simp only[yAa,yAc] at hq;obtain ⟨rfl,rfl⟩:=hq;exact ⟨_,rfl,(D.ren_low ρ hl).symm⟩
  ·simp at hq
 ·simp at hr
theorem pCPs_sim:∀{ps qs:List CP}{ds r:List Dat}{ys:List TC},rCPs ρ n ps qs=true->CanH ρ n U0 U->pCPs U qs ds=some (ys,r)->∃ys0,pCPs U0 ps ds=some (ys0,r)/\All2 (λ(y y0:TC)=>y.er=y0.er.ren ρ) ys ys0:=by
 intro ps;induction ps with
 |nil=>
  intro qs ds r ys hr h hq;cases qs with
  |nil=>simp only[pCPs,yAa,yAc] at hq;obtain ⟨rfl,rfl⟩:=hq;exact ⟨[],rfl,.nil⟩
  |cons _ _=>simp[rCPs] at hr
 |cons p ps ih=>
  intro qs ds r ys hr h hq;cases qs with
  |nil=>simp[rCPs] at hr
  |cons q qs=>
   simp only[rCPs,yAj] at hr;simp only[pCPs] at hq;split at hq
   ·rename_i x d1 h1;split at hq
    ·rename_i xs r' h2;simp only[yAa,yAc] at hq;obtain ⟨rfl,rfl⟩:=hq;obtain ⟨y0,a1,a2⟩:=pCP_sim hr.1 h h1;obtain ⟨ys0,b1,b2⟩:=ih hr.2 h h2;exact ⟨y0::ys0,by simp only[pCPs,a1,b1],.cons a2 b2⟩
    ·simp at hq
   ·simp at hq
theorem eqVC_eq{a b:VCd}(h:eqVC a b=true):a=b:=by
 unfold eqVC at h;split at h
 ·rw[of_decide_eq_true h]
 ·rw[yAi h]
 ·rw[yAi h]
 ·rw[yAi h]
 ·simp at h
theorem All2.er_ren{ys ys0:List TC}(h:All2 (λ(y y0:TC)=>y.er=y0.er.ren ρ) ys ys0):ys.map TC.er=D.ren.rens ρ (ys0.map TC.er):=by
 induction h with
 |nil=>rfl
 |cons h _ ih=>simp only[yAw,D.ren.rens,h,ih]
theorem pRO_sim{p q:RO}{ds r:List Dat}{v:TV}(hr:rRO ρ n p q=true)(h:CanH ρ n U0 U)(hq:pRO U q ds=some (v,r)):∃v0,pRO U0 p ds=some (v0,r)/\eD v=(eD v0).ren ρ:=by
 unfold rRO at hr;split at hr
 ·rename_i a b;have:=eqVC_eq hr;subst this;cases ds with
  |nil=>simp[pRO] at hq
  |cons d ds=>
   cases a with
   |c c=>
    simp only[pRO] at hq ⊢;split at hq
    ·simp only[yAa,yAc] at hq;obtain ⟨rfl,rfl⟩:=hq;exact ⟨_,rfl,(expC_ren ρ _ _).symm⟩
    ·simp at hq
   |st i=>
    simp only[pRO] at hq ⊢;split at hq
    ·simp only[yAa,yAc] at hq;obtain ⟨rfl,rfl⟩:=hq;refine ⟨_,rfl,?_⟩;simp only[eD,D.ren,rens_map,exp_ren]
    ·simp at hq
   |fp i=>
    simp only[pRO] at hq ⊢;split at hq
    ·simp only[yAa,yAc] at hq;obtain ⟨rfl,rfl⟩:=hq;exact ⟨_,rfl,rfl⟩
    ·simp at hq
   |k g=>simp[pRO] at hq
 ·rename_i a b;simp only[pRO] at hq;split at hq
  ·rename_i x r' h1;simp only[yAa,yAc] at hq;obtain ⟨rfl,rfl⟩:=hq;obtain ⟨y0,a1,a2⟩:=pCP_sim hr h h1;exact ⟨.c y0,by simp only[pRO,a1],a2⟩
  ·simp at hq
 ·rename_i a b;simp only[pRO] at hq;split at hq
  ·rename_i xs r' h1;simp only[yAa,yAc] at hq;obtain ⟨rfl,rfl⟩:=hq;obtain ⟨y0,a1,a2⟩:=pCPs_sim hr h h1;refine ⟨.agg y0,by simp only[pRO,a1],?_⟩;simp only[eD,D.ren,a2.er_ren]
  ·simp at hq
 ·simp at hr
theorem pROs_sim:∀{ps qs:List RO}{ds r:List Dat}{vs:List TV},rROs ρ n ps qs=true->CanH ρ n U0 U->pROs U qs ds=some (vs,r)->∃vs0,pROs U0 ps ds=some (vs0,r)/\All2 (λ(v v0:TV)=>eD v=(eD v0).ren ρ) vs vs0:=by
 intro ps;induction ps with
 |nil=>
  intro qs ds r ys hr h hq;cases qs with
  |nil=>simp only[pROs,yAa,yAc] at hq;obtain ⟨rfl,rfl⟩:=hq;exact ⟨[],rfl,.nil⟩
  |cons _ _=>simp[rROs] at hr
 |cons p ps ih=>
  intro qs ds r ys hr h hq;cases qs with
  |nil=>simp[rROs] at hr
  |cons q qs=>
   simp only[rROs,yAj] at hr;simp only[pROs] at hq;split at hq
   ·rename_i x d1 h1;split at hq
    ·rename_i xs r' h2;simp only[yAa,yAc] at hq;obtain ⟨rfl,rfl⟩:=hq;obtain ⟨y0,a1,a2⟩:=pRO_sim hr.1 h h1;obtain ⟨ys0,b1,b2⟩:=ih hr.2 h h2;exact ⟨y0::ys0,by simp only[pROs,a1,b1],.cons a2 b2⟩
    ·simp at hq
   ·simp at hq
theorem pRows_sim(inj:∀i j,i<m0->j<m0->ρ i=ρ j->i=j):∀{ps qs:List PC}{U0 U σr:TH}{ds r:List Dat},rPCs ρ m0 n ps qs=true->CanH ρ m0 U0 U->pRows U qs ds=some (σr,r)->∃σr0,pRows U0 ps ds=some (σr0,r)/\CanH ρ m0 σr0 σr:=by
 intro ps;induction ps with
 |nil=>
  intro qs U0 U σr ds r hr h hq;cases qs with
  |nil=>simp only[pRows,yAa,yAc] at hq;obtain ⟨rfl,rfl⟩:=hq;exact ⟨U0,rfl,h⟩
  |cons _ _=>simp[rPCs] at hr
 |cons p ps ih=>
  intro qs U0 U σr ds r hr h hq;cases qs with
  |nil=>simp[rPCs] at hr
  |cons q qs=>
   simp only[rPCs,yAj] at hr;obtain ⟨hr1,hr2⟩:=hr;unfold rPC at hr1;split at hr1
   ·simp only[pRows] at hq ⊢;exact ih hr2 h hq
   ·rename_i b i b' i';simp only[yAj] at hr1;obtain ⟨e,hb,e2⟩:=hr1;have e:=yAi e;have hb:=yAQ.mp hb;have e2:=yAi e2;subst e e2;cases ds with
    |nil=>simp[pRows] at hq
    |cons d ds=>
     simp only[pRows] at hq;split at hq
     ·rename_i l j l0 lv cv h1 h2;split at hq
      ·rename_i hj;have:=yAi hj;subst this;obtain ⟨lv0,cv0,h3⟩:=h.row hb h2;obtain ⟨σr0,a1,a2⟩:=ih hr2 (h.set inj hb (.inr (.inl ⟨j,l,lv0+1,cv0+1,lv+1,cv+1,rfl,rfl⟩))) hq;refine ⟨σr0,?_,a2⟩;simp only[pRows,h1,h3,Nat.beq_refl,a1]
      ·simp at hq
     ·simp at hq
   ·rename_i b j st b' j' st';simp only[yAj,yAF] at hr1;obtain ⟨e,hb,e2,e3⟩:=hr1;have e:=yAi e;have hb:=yAQ.mp hb;have e2:=yAi e2;subst e e2 e3;cases ds with
    |nil=>simp[pRows] at hq
    |cons d ds=>
     simp only[pRows] at hq;split at hq
     ·rename_i l j0 st0 l0 v h1 h2;obtain ⟨v0,h3⟩:=h.mp hb h2;obtain ⟨σr0,a1,a2⟩:=ih hr2 (h.set inj hb (.inr (.inr ⟨j,st,l,v0+1,v+1,rfl,rfl⟩))) hq;refine ⟨σr0,?_,a2⟩;simp only[pRows,h1,h3,a1]
     ·simp at hq
   ·simp at hr1
theorem pNew_sim:∀{ps qs:List NB}{ds r:List Dat}{l:TH},rNBs ρ n ps qs=true->pNew qs ds=some (l,r)->pNew ps ds=some (l,r):=by
 intro ps;induction ps with
 |nil=>
  intro qs ds r l hr hq;cases qs with
  |nil=>exact hq
  |cons _ _=>simp[rNBs] at hr
 |cons p ps ih=>
  intro qs ds r l hr hq;cases qs with
  |nil=>simp[rNBs] at hr
  |cons q qs=>
   simp only[rNBs,yAj] at hr;obtain ⟨hr1,hr2⟩:=hr;unfold rNB at hr1;split at hr1
   ·simp only[pNew] at hq ⊢;split at hq
    ·rename_i l' r' h1;rw[ih hr2 h1];exact hq
    ·simp at hq
   ·have:=yAi hr1;subst this;cases ds with
    |nil=>simp[pNew] at hq
    |cons d ds=>
     simp only[pNew] at hq ⊢;split at hq
     ·rename_i a l' r' h0 h1;rw[h0,ih hr2 h1];exact hq
     ·simp at hq
   ·simp only[yAj,yAF] at hr1;have:=yAi hr1.1;subst this;have:=hr1.2;subst this;cases ds with
    |nil=>simp[pNew] at hq
    |cons d ds=>
     simp only[pNew] at hq ⊢;split at hq
     ·rename_i a l' r' h0 h1;rw[h0,ih hr2 h1];exact hq
     ·simp at hq
   ·simp at hr1
theorem All2.set{α β:Type}{R:α->β->Prop}{l:List α}{m:List β}(h:All2 R l m){a:α}{b:β}(hab:R a b):∀j:Nat,All2 R (l.set j a) (m.set j b):=by
 induction h with
 |nil=>intro j;exact .nil
 |cons h r ih=>
  intro j;cases j with
  |zero=>exact .cons hab r
  |succ j=>exact .cons h (ih j)
theorem pPCs_sim(inj:∀i j,i<m0->j<m0->ρ i=ρ j->i=j){σs0 σs:TH}(hs:CanH ρ n σs0 σs):∀{ps qs:List PC}{U0 U σr:TH}{ds r:List Dat},rPCs ρ m0 n ps qs=true->CanH ρ m0 U0 U->pPCs σs qs U ds=some (σr,r)->∃σr0,pPCs σs0 ps U0 ds=some (σr0,r)/\CanH ρ m0 σr0 σr:=by
 intro ps;induction ps with
 |nil=>
  intro qs U0 U σr ds r hr h hq;cases qs with
  |nil=>simp only[pPCs,yAa,yAc] at hq;obtain ⟨rfl,rfl⟩:=hq;exact ⟨U0,rfl,h⟩
  |cons _ _=>simp[rPCs] at hr
 |cons p ps ih=>
  intro qs U0 U σr ds r hr h hq;cases qs with
  |nil=>simp[rPCs] at hr
  |cons q qs=>
   simp only[rPCs,yAj] at hr;obtain ⟨hr1,hr2⟩:=hr;unfold rPC at hr1;split at hr1
   ·rename_i b j p b' j' p';simp only[yAj] at hr1;obtain ⟨e,hb,e2,hp⟩:=hr1;have e:=yAi e;have hb:=yAQ.mp hb;have e2:=yAi e2;subst e e2;simp only[pPCs] at hq;split at hq
    ·rename_i x r' w cs h1 h2;obtain ⟨y0,a1,a2⟩:=pCP_sim hp hs h1;obtain ⟨w0,cs0,h3,h4⟩:=h.cells hb h2;obtain ⟨σr0,b1,b2⟩:=ih hr2 (h.set inj hb (.inl ⟨w0+1,_,w+1,_,rfl,rfl,h4.set (a:=(w0+1,y0)) (b:=(w+1,x)) a2 j⟩)) hq;exact ⟨σr0,by simp only[pPCs,a1,h3,b1],b2⟩
    ·simp at hq
   ·simp only[pPCs] at hq ⊢;exact ih hr2 h hq
   ·simp only[pPCs] at hq ⊢;exact ih hr2 h hq
   ·simp at hr1
theorem pNBs_sim{σs0 σs:TH}(hs:CanH ρ n σs0 σs):∀{ps qs:List NB}{bs l:TH}{ds:List Dat},rNBs ρ n ps qs=true->(∀b∈bs,CanB ρ b b)->pNBs σs qs bs ds=some l->∃l0,pNBs σs0 ps bs ds=some l0/\All2 (CanB ρ) l0 l:=by
 intro ps;induction ps with
 |nil=>
  intro qs bs l ds hr hb hq;cases qs with
  |nil=>simp only[pNBs,yAa] at hq;subst hq;exact ⟨[],rfl,.nil⟩
  |cons _ _=>simp[rNBs] at hr
 |cons p ps ih=>
  intro qs bs l ds hr hb hq;cases qs with
  |nil=>simp[rNBs] at hr
  |cons q qs=>
   simp only[rNBs,yAj] at hr;obtain ⟨hr1,hr2⟩:=hr;cases bs with
   |nil=>cases q <;> simp[pNBs] at hq
   |cons b bs=>
    have hb':∀b∈bs,CanB ρ b b:=λx hx=>hb x (yAm _ hx);unfold rNB at hr1;split at hr1
    ·rename_i as bs';simp only[pNBs] at hq;split at hq
     ·rename_i xs r h1;split at hq
      ·rename_i l' h2;simp only[yAa] at hq;subst hq;obtain ⟨ys0,a1,a2⟩:=pCPs_sim hr1 hs h1;obtain ⟨l0,b1,b2⟩:=ih hr2 hb' h2;refine ⟨.cells 0 (ys0.map λx=>(0,x))::l0,by simp only[pNBs,a1,b1],.cons (.inl ⟨0,_,0,_,rfl,rfl,?_⟩) b2⟩;clear b1 b2 a1 h1 h2 ih;induction a2 with
       |nil=>exact .nil
       |cons h _ ih=>exact .cons h ih
      ·simp at hq
     ·simp at hq
    ·simp only[pNBs] at hq;split at hq
     ·rename_i l' h2;simp only[yAa] at hq;subst hq;obtain ⟨l0,b1,b2⟩:=ih hr2 hb' h2;exact ⟨_,by simp only[pNBs,b1],.cons (hb b (yAq ..)) b2⟩
     ·simp at hq
    ·simp only[pNBs] at hq;split at hq
     ·rename_i l' h2;simp only[yAa] at hq;subst hq;obtain ⟨l0,b1,b2⟩:=ih hr2 hb' h2;exact ⟨_,by simp only[pNBs,b1],.cons (hb b (yAq ..)) b2⟩
     ·simp at hq
    ·simp at hr1
theorem CanB.new{nbs:List NB}{ds r:List Dat}{l:TH}(h:pNew nbs ds=some (l,r)):∀b∈l,CanB ρ b b:=by
 intro b hb;obtain ⟨k,hk⟩:=yBt hb;cases b with
 |cells w cs=>have:=(pNew_cells h k).1 w cs hk;subst this;exact .inl ⟨w,[],w,[],rfl,rfl,.nil⟩
 |row i l lv cv=>exact .inr (.inl ⟨i,l,lv,cv,lv,cv,rfl,rfl⟩)
 |mp j st l v=>exact .inr (.inr ⟨j,st,l,v,v,rfl,rfl⟩)
theorem CanH.app(h:CanH ρ m0 U0 U){l0 l:TH}(hl:All2 (CanB ρ) l0 l)(hn:∀k,ρ (m0+k)=U.length+k)(lt:∀i,i<m0->ρ i<U.length):CanH ρ (m0+l0.length) (U0++l0) (U++l):={
 len:=by rw[yAC,h.len]
 bs:=λi hi=>by
  rcases yAB i m0 with h1 | h1
  ·obtain ⟨x,y,a,b,c⟩:=h.bs i h1;exact ⟨x,y,by rw[yAr (by rw[h.len];exact h1)];exact a,by rw[yAr (lt i h1)];exact b,c⟩
  ·obtain ⟨k,rfl⟩:=yBm h1;have hk:k<l0.length:=by omega
   obtain ⟨y,a,b⟩:=hl.get k _ (yAg hk);refine ⟨_,y,by rw[yA0 (by rw[h.len];omega),h.len,yBD];exact yAg hk,?_,b⟩;rw[hn,yA0 (by omega),yBD];exact a }
theorem All2.refl'{α:Type}{R:α->α->Prop}{l:List α}(h:∀b∈l,R b b):All2 R l l:=by
 induction l with
 |nil=>exact .nil
 |cons a l ih=>exact .cons (h a (yAq ..)) (ih λb hb=>h b (yAm _ hb))
theorem putI_sim{ct0 ct:CT}{F:TH}{rv:List TV}{ds:List Dat}{z0:tupI ct0.items}(inj:∀i j,i<m0->j<m0->ρ i=ρ j->i=j)(hr:rCT ρ m0 ct0 ct=true)(hs:CanH ρ m0 U0 U)(hn:∀k,ρ (m0+k)=U.length+k)(lt:∀i,i<m0->ρ i<U.length)
  {σD:Heap} (H:RH U σD) (L:Laid ct U ds rv F) (hd:ofTup ct0.items z0=ds) :
  ∃rv0 F0,putI ct0 U0 z0=some (rv0,F0)/\All2 (λ(v v0:TV)=>eD v=(eD v0).ren ρ) rv rv0/\CanH ρ (m0+ct0.nb.length) F0 F:=by
 simp only[rCT,yAj] at hr;obtain ⟨hro,hrp,hrn⟩:=hr;have Ro:=pRows_ok L.h1 H;have C:=pPCs_ok L.h4;obtain ⟨σr0,a1,a2⟩:=pRows_sim inj hrp hs L.h1;have b1:=pNew_sim hrn L.h2;have hlen:L.nb.length=ct0.nb.length:=pNew_len b1;have b2:CanH ρ (m0+ct0.nb.length) (σr0++L.nb) (L.σr++L.nb):=by rw[<-hlen];exact a2.app (All2.refl' (CanB.new b1)) (by rw[Ro.len];exact hn) (by rw[Ro.len];exact lt)
 obtain ⟨rv0,c1,c2⟩:=pROs_sim hro b2 L.h3;obtain ⟨U20,d1,d2⟩:=pPCs_sim inj b2 hrp a2 L.h4;obtain ⟨l0,e1,e2⟩:=pNBs_sim b2 hrn (CanB.new b1) L.h5;have hl0:l0.length=ct0.nb.length:=(pNBs_ok e1).1;refine ⟨rv0,U20++l0,?_,c2,?_⟩
 ·unfold putI;rw[hd];simp only[a1,b1,c1,d1,e1]
 ·have hF:F=L.U2++L.l:=L.e;rw[hF,<-hl0];exact d2.app e2 (by rw[C.len,Ro.len];exact hn) (by rw[C.len,Ro.len];exact lt)
end
end Go.Abs
end
section
namespace Go.Abs
noncomputable section
variable[Gl][Y:Ty]
theorem relocH{P:Program}{g:FuncId}{ds ds0:List D}{H H':Heap}{r:D}(ok:Ok P g ds0 H r H')(hlen:H.length<=H'.length)
  (hH':H'.all (Ob.low H'.length)=true) (hr:r.low H'.length=true)
  {U U':Heap} {ρ ρ0:Nat->Nat} (ag:∀i,i<H.length->ρ0 i=ρ i) (N:RnH 0 U H ρ0 (λ_=>False)) (hd:All2 (DWr U H ρ0 (λ_=>False)) ds ds0)
  (inj:∀i j,i<H'.length->j<H'.length->ρ i=ρ j->i=j) (hi:∀i,H.length<=i->i<H'.length->U.length<=ρ i)
  (s2:∀i,i<H'.length->U'[ρ i]? = (H'[i]?).map (Ob.ren ρ)) (s3:∀j,(∀i,i<H'.length->ρ i≠j)->U'[j]? = U[j]?) :
  Ok P g ds U (r.ren ρ) U':=by
 intro M Fz w vs R hs hv
 let M0:Nat->Option Nat:=mN H.length ρ0 M
 have eF:∀Fz:Nat->Prop,fzN (λ_=>False) M Fz=Fz:=λFz=>by
  funext c;refine propext ⟨λh=>?_,.inl⟩;rcases h with h | ⟨b,h,_⟩
  ·exact h
  ·exact h.elim
 have hM0:∀i,i<H.length->M0 i=M (ρ i):=λi h=>by simp only[M0,mN,h,if_true,ag i h]
 have hM0':∀i c,M0 i=some c->i<H.length/\M (ρ i)=some c:=λi c h=>by
  simp only[M0,mN] at h;split at h
  ·rename_i h';exact ⟨h',by rw[<-ag i h'];exact h⟩
  ·cases h
 have R0:Rel H M0 Fz w:=by have:=N.rel R;rw[eF] at this;exact this
 refine (ok M0 Fz w vs R0 (by rw[hs,hd.len]) (λi d v a b=>by obtain ⟨d1,h1,h2⟩:=hd.get' i d a;have:=h2 M Fz w v R (hv i d1 v h1 b);rw[eF] at this;exact this)).mono λe w' he=>?_
 obtain ⟨v,M1,Fz',rfl,R',hv',EV⟩:=he;have hM1:∀i c,M1 i=some c->i<H'.length:=λi c h=>by obtain ⟨_,ob,o,h2,_⟩:=R'.blk i c h;exact (yAb.1 h2).1
 let inv:Nat->Option Nat:=λj=>(List.range H'.length).find? λi=>ρ i == j
 have inv_some:∀i,i<H'.length->inv (ρ i)=some i:=λi h=>by
  cases e:inv (ρ i) with
  |none=>have:=List.find?_eq_none.1 e i (yBS.2 h);simp at this
  |some k=>have h1:=List.find?_some e;have h2:=yBS.1 (List.mem_of_find?_eq_some e);rw[inj k i h2 h (by simpa using h1)]
 have inv_inv:∀j i,inv j=some i->i<H'.length/\ρ i=j:=λj i e=>⟨yBS.1 (List.mem_of_find?_eq_some e),by simpa using List.find?_some e⟩;have inv_none:∀j,inv j=none->∀i,i<H'.length->ρ i≠j:=λj e i h=>by have:=List.find?_eq_none.1 e i (yBS.2 h);simpa using this
 let M':Nat->Option Nat:=λj=>match inv j with | some i=>M1 i | none=>M j
 have m1:∀j i,inv j=some i->M' j=M1 i:=λj i h=>by simp only[M',h]
 have m2:∀j,inv j=none->M' j=M j:=λj h=>by simp only[M',h]
 have hM':∀i,i<H'.length->M' (ρ i)=M1 i:=λi h=>m1 _ _ (inv_some i h);have apart:∀j c b,inv j=none->M j=some c->M0 b≠some c:=λj c b h1 h2 h3=>by obtain ⟨hb,h3⟩:=hM0' b c h3;exact inv_none j h1 b (by omega) (R.inj _ _ _ h3 h2)
 have lt:∀j c,M j=some c->c<w.heap.size:=λj c h=>by obtain ⟨_,_,o,_,h3,_⟩:=R.blk j c h;exact (yAv.1 h3).1
 have EV2:Evo U M Fz w U' M' Fz' w':={
  size:=EV.size
  frame:=λc hc hn=>EV.frame c hc λb hb=>hn (ρ b) (hM0' b c hb).2
  ran:=λj c h=>by
   cases e:inv j with
   |some i=>
    rw[m1 j i e] at h;rcases EV.ran i c h with ⟨b0,h0⟩ | h0
    ·exact .inl ⟨ρ b0,(hM0' b0 c h0).2⟩
    ·exact .inr h0
   |none=>rw[m2 j e] at h;exact .inl ⟨j,h⟩
  fz:=EV.fz
  fz':=λc h=>by
   rcases EV.fz' c h with h0 | ⟨b,h0⟩ | h0
   ·exact .inl h0
   ·exact .inr (.inl ⟨ρ b,(hM0' b c h0).2⟩)
   ·exact .inr (.inr h0)
  shp:=EV.shp
  keep:=λj ob h=>by
   cases e:inv j with
   |some i=>
    obtain ⟨h1,h2⟩:=inv_inv j i e;have hj:j<U.length:=(yAb.1 h).1;have hil:i<H.length:=by
     rcases yAB i H.length with h' | h'
     ·exact h'
     ·have:=hi i h' h1;omega
    obtain ⟨q1,q2,q3,q4,q5⟩:=N.sz i hil;rw[ag i hil,h2,h] at q3;simp only[yAa] at q3;subst q3;obtain ⟨ob1,h4,h5,h6⟩:=EV.keep i q2 q4;refine ⟨ob1.ren ρ,by rw[<-h2,s2 i h1,h4];rfl,by rw[Ob.ren_sz,<-q5];exact h5,λhz=>?_⟩;rw[Ob.ren_sz,<-q5] at hz;rw[m1 j i e,h6 hz,hM0 i hil,h2]
   |none=>exact ⟨ob,by rw[s3 j (inv_none j e)];exact h,yAo _,λ_=>m2 j e⟩
  out:=EV.out }
 have R2:Rel U' M' Fz' w':={
  blk:=λj c h=>by
   cases e:inv j with
   |some i=>rw[m1 j i e] at h;obtain ⟨h1,h2⟩:=inv_inv j i e;obtain ⟨h3,ob,o,h4,h5,h6⟩:=R'.blk i c h;exact ⟨h3,ob.ren ρ,o,by rw[<-h2,s2 i h1,h4];rfl,h5,ObRel.forth hM' s2 (yAp.1 hH' _ (yAy h4)) h6⟩
   |none=>
    rw[m2 j e] at h;obtain ⟨h3,ob,o,h4,h5,h6⟩:=R.blk j c h;refine ⟨λhf=>?_,ob,o,by rw[s3 j (inv_none j e)];exact h4,by rw[EV.frame c (lt j c h) λb=>apart j c b e h];exact h5,h6.mono EV2⟩;rcases EV.fz' c hf with h0 | ⟨b,h0⟩ | h0
    ·exact h3 h0
    ·exact apart j c b e h h0
    ·have:=lt j c h;omega
  inj:=λj j' c h h'=>by
   cases e:inv j with
   |some i=>
    rw[m1 j i e] at h;cases e':inv j' with
    |some i'=>rw[m1 j' i' e'] at h';have:=R'.inj i i' c h h';subst this;rw[<-(inv_inv j i e).2,<-(inv_inv j' i e').2]
    |none=>
     rw[m2 j' e'] at h';rcases EV.ran i c h with ⟨b0,h0⟩ | h0
     ·exact absurd h0 (apart j' c b0 e' h')
     ·have:=lt j' c h';omega
   |none=>
    rw[m2 j e] at h;cases e':inv j' with
    |some i'=>
     rw[m1 j' i' e'] at h';rcases EV.ran i' c h' with ⟨b0,h0⟩ | h0
     ·exact absurd h0 (apart j c b0 e h)
     ·have:=lt j c h;omega
    |none=>rw[m2 j' e'] at h';exact R.inj _ _ _ h h'
  fz:=R'.fz
  gl:=R'.gl }
 exact ⟨v,M',Fz',rfl,R2,V.forth hM' s2 hv' hr,EV2⟩
theorem castO{α β:Type}(e:α=β){o:Option α}{y:β}(h:cast (yCj Option e) o=some y):∃y0,o=some y0/\HEq y0 y:=by subst e;exact ⟨y,h,HEq.rfl⟩
theorem ofTup_heq{i j:List It}(e:i=j){x:tupI i}{y:tupI j}(h:HEq x y):ofTup i x=ofTup j y:=by subst e;cases h;rfl
theorem sum_heq{A B A' B':Type}(e:A=A')(e':B=B'){x:A ⊕ B}{y:A' ⊕ B'}(h:HEq x y):(∃a a',x=.inl a/\y=.inl a'/\HEq a a')∨(∃b b',x=.inr b/\y=.inr b'/\HEq b b'):=by
 subst e e';cases h;cases x with
 |inl a=>exact .inl ⟨a,a,rfl,rfl,HEq.rfl⟩
 |inr b=>exact .inr ⟨b,b,rfl,rfl,HEq.rfl⟩
theorem selA_heq:∀{a b:List CT},a.map CT.items=b.map CT.items->∀{y0:altT a}{y:altT b}{ct:CT}{x:tupI ct.items},HEq y0 y->selA b y=some ⟨ct,x⟩ ->
  ∃(i:Nat)(ct0:CT)(x0:tupI ct0.items),selA a y0=some ⟨ct0,x0⟩/\a[i]? = some ct0/\b[i]? = some ct/\ofTup ct0.items x0=ofTup ct.items x:=by
 intro a;induction a with
 |nil=>intro b e y0;exact y0.elim
 |cons c a ih=>
  intro b e y0 y ct x hy hs;cases b with
  |nil=>simp at e
  |cons d b=>
   simp only[yAw,yBs] at e;cases a with
   |nil=>
    cases b with
    |cons _ _=>simp at e
    |nil=>simp only[selA,yAa,yBT] at hs;obtain ⟨rfl,hs⟩:=hs;cases hs;exact ⟨0,c,y0,rfl,rfl,rfl,ofTup_heq e.1 hy⟩
   |cons c2 a=>
    cases b with
    |nil=>simp at e
    |cons d2 b=>
     rcases sum_heq (by rw[e.1]) (altT_eq e.2) hy with ⟨u,v,rfl,rfl,h⟩ | ⟨u,v,rfl,rfl,h⟩
     ·simp only[selA,yAa,yBT] at hs;obtain ⟨rfl,hs⟩:=hs;cases hs;exact ⟨0,c,u,rfl,rfl,rfl,ofTup_heq e.1 h⟩
     ·obtain ⟨i,ct0,x0,h1,h2,h3,h4⟩:=ih e.2 h hs;exact ⟨i+1,ct0,x0,h1,h2,h3,h4⟩
theorem rCTs_get{ρ:Nat->Nat}{m0:Nat}:∀{a b:List CT},rCTs ρ m0 a b=true->∀(i:Nat) c d,a[i]? = some c->b[i]? = some d->rCT ρ m0 c d=true:=by
 intro a;induction a with
 |nil=>intro b h i c d h1;simp at h1
 |cons x a ih=>
  intro b h i c d h1 h2;cases b with
  |nil=>simp at h2
  |cons y b=>
   simp only[rCTs,yAj] at h;cases i with
   |zero=>simp only[List.getElem?_cons_zero,yAa] at h1 h2;subst h1 h2;exact h.1
   |succ i=>simp only[List.getElem?_cons_succ] at h1 h2;exact ih h.2 i c d h1 h2
theorem rPCs_blk{ρ:Nat->Nat}{m0 n:Nat}:∀{ps qs:List PC},rPCs ρ m0 n ps qs=true->∀q∈qs,∃b,b<m0/\q.blk=ρ b:=by
 intro ps;induction ps with
 |nil=>intro qs h q hq;cases qs with | nil=>simp at hq | cons _ _=>simp[rPCs] at h
 |cons p ps ih=>
  intro qs h q hq;cases qs with
  |nil=>simp at hq
  |cons q0 qs=>
   simp only[rPCs,yAj] at h;rcases yAu.1 hq with rfl | hq
   ·have h1:=h.1;unfold rPC at h1;split at h1
    ·simp only[yAj] at h1;exact ⟨_,yAQ.mp h1.2.1,(yAi h1.1).symm⟩
    ·simp only[yAj] at h1;exact ⟨_,yAQ.mp h1.2.1,(yAi h1.1).symm⟩
    ·simp only[yAj] at h1;exact ⟨_,yAQ.mp h1.2.1,(yAi h1.1).symm⟩
    ·simp at h1
   ·exact ih h.2 q hq
theorem isNil_er{x y:TC}(hx:x=.d (.c (.lit (.slice none 0 0))))(h:(!(isNilT x) || isNilT y)=true):x=y:=by
 subst hx;simp only[isNilT,yAY,Bool.false_or] at h;split at h
 ·rfl
 ·simp at h
theorem exC_get:∀{xs ys:List (Nat×TC)},exN.exC xs ys=true->∀(j:Nat) x y,xs[j]? = some x->ys[j]? = some y->(!(isNilT x.2) || isNilT y.2)=true:=by
 intro xs;induction xs with
 |nil=>intro ys h j x y h1;simp at h1
 |cons a xs ih=>
  intro ys h j x y h1 h2;cases ys with
  |nil=>simp at h2
  |cons b ys=>
   obtain ⟨_,a⟩:=a;obtain ⟨_,b⟩:=b;simp only[exN.exC,yAj] at h;cases j with
   |zero=>simp only[List.getElem?_cons_zero,yAa] at h1 h2;subst h1 h2;exact h.1
   |succ j=>simp only[List.getElem?_cons_succ] at h1 h2;exact ih h.2 j x y h1 h2
theorem exN_get{U:TH}{ρ:List (Nat×Nat)}:∀{bs:TH}{i0:Nat},exN U ρ i0 bs=true->∀(i:Nat) w ys w' xs,bs[i]? = some (.cells w ys)->U[(rhoK (i0+i) ρ).getD 0]? = some (.cells w' xs)->exN.exC xs ys=true:=by
 intro bs;induction bs with
 |nil=>intro i0 h i w ys w' xs h1;simp at h1
 |cons b bs ih=>
  intro i0 h i w ys w' xs h1 h2;cases i with
  |zero=>simp only[List.getElem?_cons_zero,yAa] at h1;subst h1;simp only[exN,yAj] at h;rw[Nat.add_zero] at h2;rw[h2] at h;exact h.1
  |succ i=>
   simp only[List.getElem?_cons_succ] at h1;have h3:exN U ρ (i0+1) bs=true:=by
    cases b with
    |cells w cs=>simp only[exN,yAj] at h;exact h.2
    |row=>exact h
    |mp=>exact h
   exact ih h3 i w ys w' xs h1 (by rw[show i0+1+i=i0+(i+1) by omega];exact h2)
theorem RowEq.symm{x y:TB}(h:RowEq x y):RowEq y x:=by
 rcases h with ⟨i,l,lv,cv,lv',cv',rfl,rfl⟩ | ⟨j,st,l,v,v',rfl,rfl⟩
 ·exact .inl ⟨i,l,lv',cv',lv,cv,rfl,rfl⟩
 ·exact .inr ⟨j,st,l,v',v,rfl,rfl⟩
theorem MX.can{U σs F:TH}{σD:Heap}{s:MS}{n:Nat}(X:MX [] U σs F s n)(H1:RH U σD)(hf:s.fz=[])(he:exN U s.ρ 0 F=true){ρ:Nat->Nat}(hρ:∀i,i<F.length->rhoF 0 s i=ρ i):CanH ρ F.length F U:={
 len:=rfl
 bs:=λi hi=>by
  obtain ⟨x,y,h1,h2,h3⟩:=X.bf i hi;have hl:([]:TH).length=0:=rfl;rw[hl] at h1;refine ⟨y,x,h2,by rw[<-hρ i hi];exact h1,?_⟩;rcases h3 with ⟨w,cs,w',cs',rfl,rfl,h4⟩ | h4
  ·refine .inl ⟨w',cs',w,cs,rfl,rfl,?_⟩;have hrho:rhoF 0 s i=(rhoK i s.ρ).getD 0:=by rw[rhoF,if_neg (by omega)]
   have ex:=exN_get he i w' cs' w cs h2 (by rw[yBj,<-hrho];exact h1);refine All2.ofIdx ?_ λj a b ha hb=>?_
   ·have:=h4.len;simp only[yAz] at this;exact this.symm
   ·have c:=(h4.get j b.2 (by rw[yAl,hb];rfl));obtain ⟨a',ha',c⟩:=c;rw[yAl,ha] at ha';simp only[Option.map_some,yAa] at ha';subst ha';have e1:=exC_get ex j b a hb ha;have blk:∀b b':Nat,Bd 0 s b b'->b<F.length->b'=ρ b:=λb b' hb hl=>by rw[<-hρ b hl,hb.rho]
    rcases c with c | ⟨c1,c2⟩
    ·rcases c with ⟨_,c2,c3⟩ | ⟨i',b',v,l,cv,_,h2',_⟩ | ⟨i',b1,b',v,l0,cv0,j',lv,l,cv,e2,h2',h3,e3,h5⟩ | ⟨b1,b',off,sz,e2,h2',e3,h4'⟩ | ⟨b1,b',e2,h2',e3,h4'⟩
     ·rcases c3 with c3 | c3
      ·rw[isNil_er c3 e1,D.ren_low ρ c2]
      ·rw[c3,D.ren_low ρ c2]
     ·rw[hf] at h2';simp at h2'
     ·have hF:=X.sr.row b1 j' l lv cv h5;have hlt:=(yAb.1 hF).1;obtain ⟨x,y,u1,u2,u3⟩:=X.bf b1 hlt;have q:rhoF 0 s b1=b':=h2'.rho;rw[hl,q,h3] at u1;rw[hF] at u2;simp only[yAa] at u1 u2;subst u1 u2;rcases u3 with ⟨_,_,_,_,e,_⟩ | ⟨i2,l2,_,_,_,_,e4,e5⟩ | ⟨_,_,_,_,_,e4,_⟩
      ·simp at e
      ·simp only[TB.row.injEq] at e4 e5;obtain ⟨rfl,e6,_,_⟩:=e4;obtain ⟨rfl,e7,_,_⟩:=e5;cases e6;cases e7;rw[e2,e3];simp only[TC.er,D.ren];rw[blk b1 b' h2' hlt]
      ·simp at e4
     ·rw[e2,e3];simp only[TC.er,D.ren];rw[blk b1 b' h2' (by rw[<-X.slen];exact h4')]
     ·rw[e2,e3];simp only[TC.er,D.ren];rw[blk b1 b' h2' (by rw[<-X.slen];exact h4')]
    ·rw[c1,D.ren_low ρ (by rw[<-c1];exact c2.low)]
  ·exact .inr h4.symm }
theorem OB_low(m i:Nat)(l:List (TT i)):(OB (enc i) l).low m=true:=by
 have:∀cs:List C,D.low.lows m (cs.map .c)=true:=by
  intro cs;induction cs with
  |nil=>rfl
  |cons c cs ih=>simp only[yAw,D.low.lows,D.low,ih,yBq]
 exact this _
theorem lows_of{m:Nat}:∀{ds:List D},(∀d∈ds,d.low m=true)->D.low.lows m ds=true:=by
 intro ds;induction ds with
 |nil=>intro _;rfl
 |cons d ds ih=>intro h;simp only[D.low.lows,yAj];exact ⟨h d (yAq ..),ih λx hx=>h x (yAm _ hx)⟩
theorem RH.low{U:TH}(H:RH U (U.map TB.er)):(U.map TB.er).all (Ob.low (U.map TB.er).length)=true:=by
 rw[yAp];intro ob hob;rw[yA4] at hob;obtain ⟨blk,hb,rfl⟩:=hob;obtain ⟨b,hb⟩:=yBt hb;rw[yAz];cases blk with
 |cells w cs=>refine lows_of λd hd=>?_;rw[yA4] at hd;obtain ⟨p,hp,rfl⟩:=hd;exact ((H.hg b w cs hb p hp).1).low
 |row i l lv cv=>exact OB_low _ i l
 |mp j st l v=>have:=mbA_low (st:=st) l 0;simp only[TB.er,Ob.low];rw[yAp] at this ⊢;exact λe he=>D.low_mono (yB3 _) (this e he)
theorem eD_low{U:TH}{v:TV}(g:GV U v)(hn:nT v):(eD v).low U.length=true:=by
 cases v with
 |c x=>exact GC.low g
 |agg xs=>refine lows_of λd hd=>?_;rw[yA4] at hd;obtain ⟨x,hx,rfl⟩:=hd;exact (g x hx).low
 |tup xs=>exact hn.elim
theorem one_low{m:Nat}{ds:List D}(h:∀d∈ds,d.low m=true):(one ds).low m=true:=by
 cases ds with
 |nil=>rfl
 |cons d ds=>
  cases ds with
  |nil=>exact h d (yAq ..)
  |cons d2 ds=>exact lows_of h
theorem one_ren{ρ:Nat->Nat}{rv rv0:List TV}(h:All2 (λ(v v0:TV)=>eD v=(eD v0).ren ρ) rv rv0):one (rv.map eD)=(one (rv0.map eD)).ren ρ:=by
 have key:rv.map eD=D.ren.rens ρ (rv0.map eD):=by
  induction h with
  |nil=>rfl
  |cons h _ ih=>simp only[yAw,D.ren.rens,h,ih]
 rw[key];cases rv0 with
 |nil=>rfl
 |cons v vs=>
  cases vs with
  |nil=>rfl
  |cons v2 vs=>rfl
theorem map_low_ren(ρ:Nat->Nat):∀{l:List (Value×D×Nat)},(∀e∈l,e.2.1.low 0=true)->(l.map λe=>(e.1,e.2.1.ren ρ,e.2.2))=l:=by
 intro l;induction l with
 |nil=>intro _;rfl
 |cons e l ih=>intro h;rw[yAw,ih λx hx=>h x (yAm _ hx),D.ren_low ρ (h e (yAq ..))]
theorem er_ren{ρ:Nat->Nat}{x y:TB}(h:CanB ρ x y):y.er=x.er.ren ρ:=by
 rcases h with ⟨w,cs,w',cs',rfl,rfl,h⟩ | h
 ·simp only[TB.er,Ob.ren,Ob.cells.injEq];rw[yB8];induction h with
  |nil=>rfl
  |cons h _ ih=>simp only[yAw,ih,h,Function.comp]
 ·rw[h.er];rcases h with ⟨i,l,lv,cv,lv',cv',rfl,rfl⟩ | ⟨j,st,l,v,v',rfl,rfl⟩
  ·simp only[TB.er,Ob.ren,Ob.cells.injEq];exact (map_er_ren ρ _).symm
  ·have:=mbA_low (st:=st) l 0;rw[yAp] at this;simp only[TB.er,Ob.ren,Ob.map.injEq,yBN];exact (map_low_ren ρ this).symm
theorem inlS_ok{P:Program}{O:OSs}(hO:∀p∈O,za4 P p.1 p.2):InlB.ok P (inlS O):=by
 intro cs gi vs U y ct x rv U2 σD ds h hsel hput Hh hvs hgs;cases cs with
 |nil=>simp[inlS] at h
 |cons ct1 cs=>
  simp only[inlS] at h;split at h
  rotate_left
  ·simp at h
  rename_i k0 k hH;split at h
  rotate_left
  ·simp at h
  rename_i g s hk;split at h
  rotate_left
  ·simp at h
  rename_i ρl x0 hg hab;split at h
  rotate_left
  ·simp at h
  rename_i vs0 U0 hp0;split at h
  rotate_left
  ·simp at h
  rename_i hex;simp only[yAj] at hex;obtain ⟨hex,hrct⟩:=hex;split at h
  rotate_left
  ·simp at h
  rename_i heq _;obtain ⟨y0,hy0,hy⟩:=castO (altT_eq heq) h;have:=yAi hg;subst this;obtain ⟨hent,hok⟩:=hO _ (yAy hk);refine ⟨hent,?_⟩;dsimp only at hok;obtain ⟨i,ct0,z0,hs0,ha,hb,htup⟩:=selA_heq heq hy hsel;have hr:=rCTs_get hrct i ct0 ct ha hb;unfold absS at hab;split at hab
  ·simp at hab
  rename_i s1 h1;split at hab
  ·simp at hab
  rename_i ms h2;split at hab
  rotate_left
  ·simp at hab
  rename_i hc;split at hab
  rotate_left
  ·simp at hab
  rename_i x1 htt;simp only[yAa,yAc] at hab;obtain ⟨rfl,rfl⟩:=hab;simp only[yAj,List.isEmpty_iff] at hc;obtain ⟨hnd,hfz,hpl,hlt⟩:=hc;obtain ⟨L0⟩:=putI_laid hp0;have H0:RH ([]:TH) []:=⟨rfl,λb blk h=>by simp at h,λb w cs h=>by simp at h⟩;obtain ⟨σs,X,hvm⟩:=mx_of (ct:=s.inp) (U:=[]) (U1:=U) (s2:=s1) rfl h1 (by rw[hpl];rfl) h2 (by rw[hnd,hfz,Bool.true_and];exact hlt) htt L0 rfl H0 Hh (λb blk h=>by simp at h) hgs
  have hn0:U0.length=s.inp.nb.length:=by have:=X.len;simpa using this
  let ρ:=rhoA s.inp.nb.length U.length ms.ρ
  have hρ:∀i,i<U0.length->rhoF 0 ms i=ρ i:=λi hi=>by simp only[ρ,rhoA,rhoF];rw[if_neg (by omega),yAQ.mpr (by omega)]
  have hρn:∀k,ρ (U0.length+k)=U.length+k:=λk=>by
   simp only[ρ,rhoA];have:Nat.blt (U0.length+k) s.inp.nb.length=false:=by rw[Bool.eq_false_iff];intro h;have:=yAQ.mp h;omega
   rw[this];dsimp only;omega
  have C0:CanH ρ U0.length U0 U:=X.can Hh hfz hex hρ;have N:RnH 0 σD (U0.map TB.er) (rhoF 0 ms) (λ_=>False):=by
   have:=X.rnH Hh;rw[hfz] at this;have e:(λb:Nat=>b∈([]:List Nat))=(λ_=>False):=by funext b;simp
   rw[e] at this;exact this
  have hd:All2 (DWr σD (U0.map TB.er) (rhoF 0 ms) (λ_=>False)) ds (vs0.map eD):=by
   have:=X.valL Hh hvm hvs;rw[hfz] at this;have e:(λb:Nat=>b∈([]:List Nat))=(λ_=>False):=by funext b;simp
   rw[e] at this;exact this
  have lt:∀i,i<U0.length->ρ i<U.length:=λi hi=>by obtain ⟨x,y,u1,u2,_⟩:=C0.bs i hi;exact (yAb.1 u2).1
  have inj0:∀i j,i<U0.length->j<U0.length->ρ i=ρ j->i=j:=λi j hi hj e=>by rw[<-hρ i hi,<-hρ j hj] at e;exact N.inj i j (by rw[yAz];exact hi) (by rw[yAz];exact hj) e
  obtain ⟨L⟩:=putI_laid hput;obtain ⟨k1,k2,k3,k4,k5,k6⟩:=L.all Hh;have hr:rCT ρ U0.length ct0 ct=true:=by rw[hn0];exact hr
  obtain ⟨rv0,F0,hput0,hrv,CF⟩:=putI_sim inj0 hr C0 hρn lt Hh L htup;obtain ⟨j1,j2,j3,j4,j5,j6⟩:=L0.all H0;obtain ⟨LF⟩:=putI_laid hput0;obtain ⟨i1,i2,i3,i4,i5,i6⟩:=LF.all j1;have ok:=hok x1 y0 vs0 U0 ct0 z0 rv0 F0 hy0 hp0 hs0 hput0;have lenF:F0.length=U0.length+ct0.nb.length:=CF.len;have lenF2:U2.length=U.length+ct.nb.length:=by have a:=(pPCs_ok L.h4).len;have b:=(pRows_ok L.h1 Hh).len;have c:=(pNBs_ok L.h5).1;rw[L.fl,a,b,c]
  have lenN:ct.nb.length=ct0.nb.length:=by
   have:∀{ps qs:List NB},rNBs ρ (U0.length+ct0.nb.length) ps qs=true->qs.length=ps.length:=by
    intro ps;induction ps with
    |nil=>intro qs h;cases qs with | nil=>rfl | cons _ _=>simp[rNBs] at h
    |cons p ps ih=>intro qs h;cases qs with | nil=>simp[rNBs] at h | cons q qs=>simp only[rNBs,yAj] at h;simp[ih h.2]
   simp only[rCT,yAj] at hr;exact this hr.2.2
  have g0:=pROs_gs LF.h3;have lens:(U0.map TB.er).length=U0.length:=yAz _;have lensF:(F0.map TB.er).length=F0.length:=yAz _;rw[one_ren hrv];refine relocH ok (by rw[lens,lensF];omega) i1.low ?_ (ρ0:=rhoF 0 ms) (λi hi=>hρ i (by rwa [lens] at hi)) N hd ?_ ?_ ?_ ?_
  ·rw[lensF];refine one_low λd hd=>?_;rw[yA4] at hd;obtain ⟨v,hv,rfl⟩:=hd;exact eD_low ((g0 v hv).gv LF.sr) (g0 v hv).nt
  ·intro i j hi hj e;rw[lensF] at hi hj;rcases yAB i U0.length with h1 | h1
   ·rcases yAB j U0.length with h2 | h2
    ·exact inj0 i j h1 h2 e
    ·obtain ⟨k,rfl⟩:=yBm h2;rw[hρn] at e;have:=lt i h1;omega
   ·obtain ⟨k,rfl⟩:=yBm h1;rw[hρn] at e;rcases yAB j U0.length with h2 | h2
    ·have:=lt j h2;omega
    ·obtain ⟨k',rfl⟩:=yBm h2;rw[hρn] at e;omega
  ·intro i h1 h2;rw[lens] at h1;obtain ⟨k,rfl⟩:=yBm h1;rw[hρn,Hh.len];omega
  ·intro i hi;rw[lensF,lenF] at hi;obtain ⟨x,y,u1,u2,u3⟩:=CF.bs i hi;rw[yAl,yAl,u1,u2];simp only[Option.map_some,er_ren u3]
  ·intro j hj;rw[lensF,lenF] at hj;rcases yAB j σD.length with h1 | h1
   ·refine k5 j h1 λhm=>?_;rw[yA4] at hm;obtain ⟨q,hq,e⟩:=hm;simp only[rCT,yAj] at hr;obtain ⟨b,hb1,hb2⟩:=rPCs_blk hr.2.1 q hq;exact hj b (by omega) (by rw[<-hb2,e])
   ·rw[Hh.len] at h1;obtain ⟨k,rfl⟩:=yBm h1;have:ct0.nb.length<=k:=by
     rcases yAB k ct0.nb.length with h2 | h2
     ·exact absurd (hρn k) (hj (U0.length+k) (by omega))
     ·exact h2
    rw[yAG (by rw[yAz];omega),yAG (by rw[Hh.len];omega)]
theorem osp_ok{P:Program}{B:InlB}(hB:InlB.ok P B){g:FuncId}{s:OSp}(he:enterable P g=true)
  (h:∀x,(match putI s.inp [] x with | some (vs,U)=>B s.cts g vs U | none=>none)=s.f x):za4 P g s:=by
 refine ⟨he,λx y vs U ct z rv U2 hf hp hs hq=>?_⟩;rw[<-h x,hp] at hf;dsimp only at hf;obtain ⟨L0⟩:=putI_laid hp;have H0:RH ([]:TH) []:=⟨rfl,λb blk h=>by simp at h,λb w cs h=>by simp at h⟩;obtain ⟨j1,j2,j3,j4,j5,j6⟩:=L0.all H0;have g0:=pROs_gs L0.h3;have a3:All3 vs (vs.map eD):=by
  have:∀(vs:List TV),(∀v∈vs,nT v)->All3 vs (vs.map eD):=by
   intro vs;induction vs with
   |nil=>intro _;exact .nil
   |cons v vs ih=>intro h;exact .cons (RT.eD (h v (yAq ..))) (ih λx hx=>h x (yAm _ hx))
  exact this vs λv hv=>(g0 v hv).nt
 exact (hB s.cts g vs U y ct z rv U2 _ _ hf hs hq j1 a3 λv hv=>(g0 v hv).gv L0.sr).2
end
end Go.Abs
end
section
namespace Go.Abs
noncomputable section
variable[Gl][Y:Ty]
def OSsOk(P:Program)(O:OSs):Prop:=∀p∈O,za4 P p.1 p.2
theorem OSsOk.nil{P:Program}:OSsOk P []:=λp h=>by simp at h
theorem OSsOk.cons{P:Program}{O:OSs}{g:FuncId}{s:OSp}(h:za4 P g s)(r:OSsOk P O):OSsOk P ((g,s)::O):=λp hp=>by
 rcases yAu.1 hp with rfl | hp
 ·exact h
 ·exact r p hp
def inlT(O:OSs)(K:InlB):InlB:=λcs g vs U=>match cs with
 |[]=>none
 |ct :: cs => match ct.H with
  |[(_,k)]=>match Nat.beq k 999999 with | true=>K (ct::cs) g vs U | false=>inlS O (ct::cs) g vs U
  |_=>none
theorem inlT_ok{P:Program}{O:OSs}{K:InlB}(hO:OSsOk P O)(hK:InlB.ok P K):InlB.ok P (inlT O K):=by
 intro cs gi vs U y ct x rv U2 σD ds h hsel hput Hh hvs hgs;unfold inlT at h;split at h
 ·simp at h
 split at h
 ·split at h
  ·exact hK _ gi vs U y ct x rv U2 σD ds h hsel hput Hh hvs hgs
  ·exact inlS_ok hO _ gi vs U y ct x rv U2 σD ds h hsel hput Hh hvs hgs
 ·simp at h
def inlG(P:Program)(S:TSs)(N:Nat)(O:OSs)(K:InlB):InlB:=(evD P S N (inlT O K) (resO O) 30).1
theorem inlG_ok{P:Program}{S:TSs}{N:Nat}{O:OSs}{K:InlB}(mix:P.follows .mixedOrders=true)(hS:TSsOk P S)(hO:OSsOk P O)(hK:InlB.ok P K):InlB.ok P (inlG P S N O K):=(evD_ok mix hS (inlT_ok hO hK) 30).1
def tG(P:Program)(g:Nat)(S:TSs)(O:OSs)(K:InlB)(H:List (Nat×Nat))(J:List (Nat×JH))(C:List (Nat×List CT))(ins out:List VCd)(N:Nat)(a:tupV ins):Option (outV out):=
 match P.funcs[g]? with
 |some f => match compF P f true with
  |some af => match enterable P g && Nat.ble ins.length af.ntmps with
   |true=>tF P S (inlT O K) (resO O) H J C 30 af ins out N a
   |false=>none
  |none=>none
 |none=>none
theorem tG_ok{P:Program}{g:Nat}{S:TSs}{O:OSs}{K:InlB}{H:List (Nat×Nat)}{J:List (Nat×JH)}{C:List (Nat×List CT)}{ins out:List VCd}{N:Nat}{f:tupV ins->Option (outV out)}(mix:P.follows .mixedOrders=true)(hS:TSsOk P S)(hO:OSsOk P O)(hK:InlB.ok P K)(h:∀a,tG P g S O K H J C ins out N a=f a):zaM P g ⟨ins,out,f⟩:=by
 intro a r hf;dsimp only at a r hf ⊢;rw[<-h a] at hf;unfold tG at hf;split at hf
 ·rename_i fn hg;split at hf
  ·rename_i af hc;split at hf
   ·rename_i he;simp only[yAj] at he;exact tF_ok mix hS hg he.1 hc ⟨(evD_ok (B:=inlT O K) mix hS (inlT_ok hO hK) 30).1.inl _ _ _ _ _ _ _ _,(evD_ok (B:=inlT O K) mix hS (inlT_ok hO hK) 30).2.two _ _ _ _ _ _ _ _⟩ he.2 hf
   ·simp at hf
  ·simp at hf
 ·simp at hf
def oG(P:Program)(g:Nat)(S:TSs)(O:OSs)(K:InlB)(N:Nat)(s:OSp)(x:tupI s.inp.items):Option (altT s.cts):=
 match putI s.inp [] x with
 |some (vs,U)=>inlG P S N O K s.cts g vs U
 |none=>none
theorem oG_ok{P:Program}{g:Nat}{S:TSs}{O:OSs}{K:InlB}{N:Nat}{s:OSp}(mix:P.follows .mixedOrders=true)(hS:TSsOk P S)(hO:OSsOk P O)(hK:InlB.ok P K)(he:enterable P g=true)(h:∀x,oG P g S O K N s x=s.f x):za4 P g s:=osp_ok (inlG_ok mix hS hO hK) he h
end
end Go.Abs
end
section
namespace Go.Abs
noncomputable section
variable[Gl][Y:Ty]
abbrev nilD:D:=.c (.lit (.slice none 0 0))
def cloneA (es sz:Nat) (z:List D):AFunc:=⟨1,8,[(2,none)],.seq (.reg [⟨some 2,.mov (.k nilD),none⟩])
 (.seq (.seq (.reg [⟨some 3,.mov (.t 0),none⟩,⟨some 4,.isnil 3 false (.t 3),none⟩])
  (.cond (.t 4) (.seq (.reg [⟨some 2,.mov (.k nilD),none⟩]) .ret) .skip))
 (.seq (.reg [⟨some 5,.bslice es 0 z [],none⟩,⟨some 6,.mov (.t 0),none⟩,⟨some 7,.append es sz (.t 5) (.t 6),none⟩,⟨some 2,.mov (.t 7),none⟩]) .ret)),true⟩
def cloneF(i:Nat)(a:tupV [VCd.c (.sl i)]):Option (outV [VCd.c (.sl i)]):=app? ([]:List (TT i)) a.1
theorem noOrcs{P:Program}:zbp P (λ_ _ _ _=>none):=λt g ds U r U' wr h=>by simp at h
theorem clone_ok{P:Program}{g i sz:Nat}{z:List D}{fn:Func}(mix:P.follows .mixedOrders=true)(hg:P.funcs[g]? = some fn)(he:enterable P g=true)(hc:compF P fn true=some (cloneA (esz i) sz z))(hs:Nat.ble sz 1000=true):zaM P g ⟨[.c (.sl i)],[.c (.sl i)],cloneF i⟩:=by
 intro a r hf;obtain ⟨l,u⟩:=a;dsimp only at hf;show Pure P g [.c (.frz false (l.map (enc i)))] (.c (.frz false (r.map (enc i))));obtain ⟨hlen,rfl⟩:=app_some (l:=([]:List (TT i))) (m:=l) hf;refine pure_nil (λe h0=>?_) ?_ ?_
 ·rw[yA4] at h0;obtain ⟨x,_,rfl⟩:=h0;intro h;have:=za8 i x;rw[h] at this;have hp:=Y.ps i;simp only[List.length_nil] at this;exact absurd hp (by unfold esz at this;omega)
 ·refine pure_of_sem hg he hc (yA8 rfl) ?_;refine Sem.seqW (Sem.regQ mix noOrcs (TrQ.op (zdZ rfl) za9 rfl (TrQ.nil (.inl ?_))));refine Sem.seqW ?_;refine Sem.seqW (Sem.regQ mix noOrcs (TrQ.op (zdZ rfl) za9 rfl (TrQ.op (op_isnil (b:=false) rfl rfl) za9 rfl (TrQ.nil (.inl ?_)))));refine Sem.cond (b:=false) rfl (λh=>by simp at h) λ_=>Sem.skip mix (.inl ?_);refine Sem.seqW (Sem.regQ mix noOrcs (TrQ.op (op_bslice_own (f:=enc i) (l:=([]:List (TT i))) rfl rfl rfl (za8 i) rfl rfl rfl) za9 rfl (TrQ.op (zdZ rfl) za9 rfl
   (TrQ.op (op_append (f:=enc i) (l:=([]:List (TT i))) (m:=r) (r:=r) (za8 i) rfl rfl rfl rfl (src_frz (za8 i)) hf hs rfl rfl) za9 rfl (TrQ.op (zdZ rfl) za9 rfl (TrQ.nil (.inl ?_)))))))
  refine Sem.ret mix ⟨.inr rfl,_,_,rfl,frz_own (l:=r) (za8 i) (Y.ps i) rfl rfl,DLe.of_nrm rfl⟩
 ·intro h0;rw[h0];refine pure_of_sem hg he hc (yA8 rfl) ?_;refine Sem.seqW (Sem.regQ mix noOrcs (TrQ.op (zdZ rfl) za9 rfl (TrQ.nil (.inl ?_))));refine Sem.seqW ?_;refine Sem.seqW (Sem.regQ mix noOrcs (TrQ.op (zdZ rfl) za9 rfl (TrQ.op (op_isnil (b:=true) rfl rfl) za9 rfl (TrQ.nil (.inl ?_)))));refine Sem.cond (b:=true) rfl (λ_=>?_) λh=>by simp at h
  refine Sem.seqW (Sem.regQ mix noOrcs (TrQ.op (zdZ rfl) za9 rfl (TrQ.nil (.inl ?_))));refine Sem.ret mix ⟨.inr rfl,_,_,rfl,rfl,DLe.of_nrm rfl⟩
theorem ok_nil{P:Program}{g:FuncId}{es:List (List C)}{r:D}{U U':Heap}(hpos:∀e∈es,e≠[])(h1:Ok P g [.c (.frz true es)] U r U')(h2:es=[]->Ok P g [.c (.lit (.slice none 0 0))] U r U'):Ok P g [.c (.frz false es)] U r U':=by
 intro M Fz w vs R hs hv;have h0:vs[0]? = some (vs[0]'(by rw[hs];simp)):=yAn _;have hv0:=hv 0 _ _ rfl h0;generalize hx:vs[0]'(by rw[hs];simp)=x at hv0 h0;have only:∀d,V U M Fz w d x->∀(i:Nat) d' v,[d][i]? = some d'->vs[i]? = some v->V U M Fz w d' v:=by
  intro d hd i d' v a b;cases i with
  |zero=>simp only[List.getElem?_cons_zero,yAa] at a;rw[h0] at b;simp only[yAa] at b;subst a b;exact hd
  |succ i=>simp at a
 cases hv0 with
 |c hc=>
  generalize hy:C.frz false es=y at hc;cases hc with
  |frz esz a cap hnn hz c hsz hcap hcc hvv=>
   simp only[C.frz.injEq] at hy;obtain ⟨rfl,rfl⟩:=hy;cases a with
   |some a=>exact h1 M Fz w vs R hs (only _ (.c (.frz esz (some a) cap (λ_=>rfl) hz c hsz hcap hcc hvv)))
   |none=>
    have he:es=[]:=by
     cases es with
     |nil=>rfl
     |cons e es=>
      exfalso;cases e with
      |nil=>exact hpos [] (by simp) rfl
      |cons d e=>obtain ⟨_,_,h,_⟩:=hcc 0 0 _ d rfl rfl;simp at h
    subst he;have:=hz rfl;subst this;exact h2 rfl M Fz w vs R hs (only _ (.c (.lit _)))
  |_=>simp at hy
theorem ok_nilOwn{P:Program}{g:FuncId}{ds:List D}(h:Ok P g ds [] nilD [])(es:Nat):Ok P g ds [] (.sl 0 0 0 es 0) [.cells []]:=by
 intro M Fz w vs R hs hv;refine (h M Fz w vs R hs hv).mono λe w' hK=>?_;obtain ⟨v,M',Fz',e1,R',hv',EV⟩:=hK;have hM':∀b,M' b=none:=λb=>by
  cases hb:M' b with
  |none=>rfl
  |some c=>obtain ⟨_,ob,o,h2,_⟩:=R'.blk b c hb;simp at h2
 refine ⟨v,M',Fz',e1,⟨λb c hb=>(by rw[hM'] at hb;cases hb),R'.inj,R'.fz,R'.gl⟩,?_,⟨EV.size,EV.frame,EV.ran,EV.fz,EV.fz',EV.shp,λb ob hb=>by simp at hb,EV.out⟩⟩;cases hv' with
 |c hc=>
  cases hc with
  |lit=>exact .sl none 0 0 (λh=>absurd rfl h) (.cells []) rfl (yAo _) λ_=>.inl ⟨rfl,rfl,rfl,rfl,rfl,rfl⟩
theorem rn_id{i:Nat}{l:List (TT i)}:RnH 0 [OB (enc i) l] [OB (enc i) l] id (λ_=>False):={
 le:=yB3 _
 id:=λi h=>rfl
 inj:=λi j _ _ h=>h
 fr:=λ_ _ h=>h
 row:=λ_ h=>h.elim
 sz:=λj hj=>by
  have:j=0:=by simp at hj;exact hj
  subst this;exact ⟨_,_,rfl,rfl,rfl⟩
 ob:=λj hj=>by
  have:j=0:=by simp at hj;exact hj
  subst this;have N:Rn 0 [OB (enc i) l] [OB (enc i) l] id (λ_=>False):=⟨yB3 _,λi h=>rfl,λi j _ _ h=>h,λ_ _ h=>h,λ_ h=>h.elim,λj hj=>by
   have:j=0:=by simp at hj;exact hj
   subst this;exact ⟨_,_,rfl,rfl,rfl⟩⟩
  refine ⟨_,_,rfl,rfl,_,rfl,All2.ofIdx rfl λk a b ha hb=>?_⟩;rw[ha] at hb;simp only[yAa] at hb;subst hb;rw[yAl,yAd] at ha;obtain ⟨c,_,rfl⟩:=ha;exact DWr.data N rfl }
theorem clone_own{P:Program}{g i sz:Nat}{z:List D}{fn:Func}(mix:P.follows .mixedOrders=true)(hg:P.funcs[g]? = some fn)(he:enterable P g=true)(hc:compF P fn true=some (cloneA (esz i) sz z))(hs:Nat.ble sz 1000=true) :
  za4 P g ⟨.mk [.v (.c (.sl i))] [] [] [] [] [],[.mk [.p (.hd 0)] [] [.row i] [] [] []],λx=>app? ([]:List (TT i)) x⟩:=by
 refine ⟨he,λx y vs U ct z rv U2 hf hp hsel hq=>?_⟩;dsimp only at hf hp hsel;change tupI [It.cc (.sl i)] at x;change tupI [It.ls i] at y;have hp':some ([TV.c (.sl i x)],([]:TH))=some (vs,U):=by rw[<-hp];have e:ofTup (CT.items (.mk [.v (.c (.sl i))] [] [] [] [] [])) x=[⟨.cc (.sl i),x⟩]:=rfl;unfold putI;rw[e];simp only[CT.pl,CT.nb,CT.out,pRows,pNew,pROs,pRO,zbG,pPCs,pNBs,yBv];rfl
 simp only[yAa,yAc] at hp';obtain ⟨rfl,rfl⟩:=hp';simp only[selA,yAa,yBT] at hsel;obtain ⟨rfl,hz⟩:=hsel;have hq':some ([TV.c (.own i 0 0 (List.length (α:=TT i) y))],[TB.row i y 0 0])=some (rv,U2):=by rw[<-hq];have e:ofTup (CT.items (.mk [.p (.hd 0)] [] [.row i] [] [] [])) y=[⟨.ls i,y⟩]:=rfl;unfold putI;rw[e];simp only[CT.pl,CT.nb,CT.out,pRows,pNew,pROs,pRO,pCP,zbG,pPCs,pNBs,yBv,List.nil_append,List.getElem?_cons_zero]
 simp only[yAa,yAc] at hq';obtain ⟨rfl,rfl⟩:=hq';obtain ⟨hlen,rfl⟩:=app_some (l:=([]:List (TT i))) (m:=x) hf;show Ok P g [.c (.frz false (List.map (enc i) y))] [] (OS (esz i) 0 (List.length (α:=TT i) y)) [OB (enc i) y];refine ok_nil (λe h0=>?_) ?_ ?_
 ·rw[yA4] at h0;obtain ⟨x,_,rfl⟩:=h0;intro h;have:=za8 i x;rw[h] at this;have hp:=Y.ps i;simp only[List.length_nil] at this;exact absurd hp (by unfold esz at this;omega)
 ·refine ok_of_sem hg hc (yA8 rfl) ?_;refine Sem.seqW (Sem.regQ mix noOrcs (TrQ.op (zdZ rfl) za9 rfl (TrQ.nil (.inl ?_))));refine Sem.seqW ?_;refine Sem.seqW (Sem.regQ mix noOrcs (TrQ.op (zdZ rfl) za9 rfl (TrQ.op (op_isnil (b:=false) rfl rfl) za9 rfl (TrQ.nil (.inl ?_)))));refine Sem.cond (b:=false) rfl (λh=>by simp at h) λ_=>Sem.skip mix (.inl ?_);refine Sem.seqW (Sem.regQ mix noOrcs (TrQ.op (op_bslice_own (f:=enc i) (l:=([]:List (TT i))) rfl rfl rfl (za8 i) rfl rfl rfl) za9 rfl (TrQ.op (zdZ rfl) za9 rfl
   (TrQ.op (op_append (f:=enc i) (l:=([]:List (TT i))) (za8 i) rfl rfl rfl rfl (src_frz (za8 i)) hf hs rfl rfl) za9 rfl (TrQ.op (zdZ rfl) za9 rfl (TrQ.nil (.inl ?_)))))))
  refine Sem.ret mix ⟨.inr rfl,_,id,λ_=>False,rfl,rn_id,λ_ h=>h.elim,?_⟩;exact DWr.sl rn_id.toRn (i:=0) (yCh 0)
 ·intro h0;have h0:y=([]:List (TT i)):=List.map_eq_nil_iff.1 h0;subst h0;have e:OS (esz i) 0 (List.length (α:=TT i) [])=.sl 0 0 0 (esz i) 0:=by simp[OS]
  rw[e];refine ok_nilOwn ?_ (esz i);refine ok_of_sem hg hc (yA8 rfl) ?_;refine Sem.seqW (Sem.regQ mix noOrcs (TrQ.op (zdZ rfl) za9 rfl (TrQ.nil (.inl ?_))));refine Sem.seqW ?_;refine Sem.seqW (Sem.regQ mix noOrcs (TrQ.op (zdZ rfl) za9 rfl (TrQ.op (op_isnil (b:=true) rfl rfl) za9 rfl (TrQ.nil (.inl ?_)))));refine Sem.cond (b:=true) rfl (λ_=>?_) λh=>by simp at h
  refine Sem.seqW (Sem.regQ mix noOrcs (TrQ.op (zdZ rfl) za9 rfl (TrQ.nil (.inl ?_))));refine Sem.ret mix ⟨.inr rfl,_,id,λ_=>False,rfl,⟨⟨yAo _,λi h=>rfl,λi j _ _ h=>h,λ_ _ h=>h,λ_ h=>h.elim,λi h=>by simp at h⟩,λi h=>by simp at h⟩,λ_ h=>h.elim,?_⟩;exact DWr.data ⟨yAo _,λi h=>rfl,λi j _ _ h=>h,λ_ _ h=>h,λ_ h=>h.elim,λi h=>by simp at h⟩ rfl
theorem rn_rows{U:Heap}(h:∀ob∈U,∃(i:Nat)(l:List (TT i)),ob=OB (enc i) l){m:Nat}(hm:m<=U.length):RnH m U U id (λ_=>False):=by have N:Rn m U U id (λ_=>False):=⟨hm,λi _=>rfl,λi j _ _ e=>e,λ_ _ e=>e,λ_ e=>e.elim,λi hi=>⟨_,_,yAg hi,yAg hi,rfl⟩⟩;refine ⟨N,λi hi=>⟨_,_,yAg hi,yAg hi,?_⟩⟩;obtain ⟨k,l,e⟩:=h _ (yAk hi);rw[e];refine ⟨_,rfl,All2.ofIdx rfl λk a b ha hb=>?_⟩;rw[ha] at hb;simp only[yAa] at hb;subst hb;rw[yAl,yAd] at ha;obtain ⟨c,_,rfl⟩:=ha;exact DWr.data N rfl
theorem clone_oo{P:Program}{g ii sz:Nat}{z:List D}{fn:Func}(mix:P.follows .mixedOrders=true)(hg:P.funcs[g]? = some fn)(he:enterable P g=true)(hc:compF P fn true=some (cloneA (esz ii) sz z))(hs:Nat.ble sz 1000=true) :
  za4 P g ⟨.mk [.p (.hd 0)] [] [.row ii] [] [] [],[.mk [.p (.hd 1)] [] [.row ii] [] [] []],λx=>app? ([]:List (TT ii)) x⟩:=by
 refine ⟨he,λx y vs U ct z rv U2 hf hp hsel hq=>?_⟩;dsimp only at hf hp hsel;change tupI [It.ls ii] at x;change tupI [It.ls ii] at y;have hp':some ([TV.c (.own ii 0 0 (List.length (α:=TT ii) x))],[TB.row ii x 0 0])=some (vs,U):=by rw[<-hp];have e:ofTup (CT.items (.mk [.p (.hd 0)] [] [.row ii] [] [] [])) x=[⟨.ls ii,x⟩]:=rfl;unfold putI;rw[e];simp only[CT.pl,CT.nb,CT.out,pRows,pNew,pROs,pRO,pCP,zbG,pPCs,pNBs,yBv,List.nil_append,List.getElem?_cons_zero]
 simp only[yAa,yAc] at hp';obtain ⟨rfl,rfl⟩:=hp';simp only[selA,yAa,yBT] at hsel;obtain ⟨rfl,hz⟩:=hsel;have hq':some ([TV.c (.own ii 1 0 (List.length (α:=TT ii) y))],[TB.row ii x 0 0,TB.row ii y 0 0])=some (rv,U2):=by rw[<-hq];have e:ofTup (CT.items (.mk [.p (.hd 1)] [] [.row ii] [] [] [])) y=[⟨.ls ii,y⟩]:=rfl;unfold putI;rw[e];simp only[CT.pl,CT.nb,CT.out,pRows,pNew,pROs,pRO,pCP,zbG,pPCs,pNBs,List.cons_append,List.nil_append,List.getElem?_cons_zero,List.getElem?_cons_succ]
 simp only[yAa,yAc] at hq';obtain ⟨rfl,rfl⟩:=hq';obtain ⟨hlen,rfl⟩:=app_some (l:=([]:List (TT ii))) (m:=x) hf;show Ok P g [OS (esz ii) 0 (List.length (α:=TT ii) y)] [OB (enc ii) y] (OS (esz ii) 1 (List.length (α:=TT ii) y)) [OB (enc ii) y,OB (enc ii) y];have rn:RnH 1 [OB (enc ii) y,OB (enc ii) y] [OB (enc ii) y,OB (enc ii) y] id (λ_=>False):=rn_rows (λob h=>by simp only[yAu,yBC,or_false] at h;rcases h with rfl | rfl <;> exact ⟨ii,y,rfl⟩) (by simp)
 have fin:DWr [OB (enc ii) y,OB (enc ii) y] [OB (enc ii) y,OB (enc ii) y] id (λ_=>False) (OS (esz ii) 1 (List.length (α:=TT ii) y)) (OS (esz ii) 1 (List.length (α:=TT ii) y)):=DWr.sl rn.toRn (i:=1) (yCh 1);have go:∀d,(isNil 3 d=some false)->Src [OB (enc ii) y,OB (enc ii) ([]:List (TT ii))] (enc ii) (esz ii) d y->Ok P g [d] [OB (enc ii) y] (OS (esz ii) 1 (List.length (α:=TT ii) y)) [OB (enc ii) y,OB (enc ii) y]:=λd hd hsr=>by
  refine ok_of_sem hg hc (yA8 rfl) ?_;refine Sem.seqW (Sem.regQ mix noOrcs (TrQ.op (zdZ rfl) za9 rfl (TrQ.nil (.inl ?_))));refine Sem.seqW ?_;refine Sem.seqW (Sem.regQ mix noOrcs (TrQ.op (zdZ rfl) za9 rfl (TrQ.op (op_isnil (b:=false) rfl hd) za9 rfl (TrQ.nil (.inl ?_)))));refine Sem.cond (b:=false) rfl (λh=>by simp at h) λ_=>Sem.skip mix (.inl ?_);refine Sem.seqW (Sem.regQ mix noOrcs (TrQ.op (op_bslice_own (f:=enc ii) (l:=([]:List (TT ii))) rfl rfl rfl (za8 ii) rfl rfl rfl) za9 rfl (TrQ.op (zdZ rfl) za9 rfl
   (TrQ.op (op_append (f:=enc ii) (l:=([]:List (TT ii))) (m:=y) (r:=y) (za8 ii) rfl rfl rfl rfl hsr hf hs rfl rfl) za9 rfl (TrQ.op (zdZ rfl) za9 rfl (TrQ.nil (.inl ?_)))))))
  exact Sem.ret mix ⟨.inr rfl,_,id,λ_=>False,rfl,rn,λ_ h=>h.elim,fin⟩
 cases y with
 |cons a l=>exact go _ rfl (src_own (za8 ii) rfl rfl)
 |nil=>
  intro M Fz w vs R hs hv;have h0:vs[0]? = some (vs[0]'(by rw[hs];simp)):=yAn _;have hv0:=hv 0 _ _ rfl h0;generalize hx:vs[0]'(by rw[hs];simp)=x at hv0 h0;have only:∀d,V [OB (enc ii) ([]:List (TT ii))] M Fz w d x->∀(i:Nat) d' v,[d][i]? = some d'->vs[i]? = some v->V [OB (enc ii) ([]:List (TT ii))] M Fz w d' v:=by
   intro d hd i d' v a b;cases i with
   |zero=>simp only[List.getElem?_cons_zero,yAa] at a;rw[h0] at b;simp only[yAa] at b;subst a b;exact hd
   |succ i=>simp at a
  have e0:OS (esz ii) 0 (List.length (α:=TT ii) [])=.sl 0 0 0 (esz ii) 0:=by simp[OS]
  rw[e0] at hv0;cases hv0 with
  |sl a n cap hnn ob h hle hvv=>
   simp only[List.getElem?_cons_zero,yAa] at h;subst h;rcases hvv rfl with ⟨rfl,rfl,rfl,_⟩ | ⟨c,o,arr,T,h1,rfl,rfl,h2,h3,h4,h5,h6⟩
   ·refine (show Ok P g [nilD] [OB (enc ii) ([]:List (TT ii))] (OS (esz ii) 1 0) [OB (enc ii) ([]:List (TT ii)),OB (enc ii) ([]:List (TT ii))] from ?_) M Fz w vs R hs (only _ (.c (.lit _)));refine ok_of_sem hg hc (yA8 rfl) ?_;refine Sem.seqW (Sem.regQ mix noOrcs (TrQ.op (zdZ rfl) za9 rfl (TrQ.nil (.inl ?_))));refine Sem.seqW ?_;refine Sem.seqW (Sem.regQ mix noOrcs (TrQ.op (zdZ rfl) za9 rfl (TrQ.op (op_isnil (b:=true) rfl rfl) za9 rfl (TrQ.nil (.inl ?_)))));refine Sem.cond (b:=true) rfl (λ_=>?_) λh=>by simp at h
    refine Sem.seqW (Sem.regQ mix noOrcs (TrQ.op (zdZ rfl) za9 rfl (TrQ.nil (.inl ?_))));refine Sem.own 2 (esz ii) rfl rfl rfl ?_;refine Sem.ret mix ⟨.inr rfl,_,id,λ_=>False,rfl,rn,λ_ h=>h.elim,?_⟩;have:=fin;rw[show OS (esz ii) 1 (List.length (α:=TT ii) [])=.sl 1 0 0 (esz ii) 0 by simp[OS]] at this;rw[show OS (esz ii) 1 0=.sl 1 0 0 (esz ii) 0 by simp[OS]];exact this
   ·exact go (.c (.frz true [])) rfl (src_frz (nn:=true) (m:=([]:List (TT ii))) (za8 ii)) M Fz w vs R hs (only _ (.c (.frz (esz ii) _ cap (λ_=>rfl) (λh=>by simp at h) (λ_ _=>undef) (λe h=>by simp at h) (yB3 _) (λi j e d h=>by simp at h) (λi j e d h=>by simp at h))))
theorem clo_ok{P:Program}{g:Nat}{out:List VCd}(f:tupV []->Option (outV out))(mix:P.follows .mixedOrders=true)(h:(evF P (tblOf P []) (λ_ _ _=>none) 1000 1 g [] []).map (λp=>(nrmY p.1,p.2.1))=(f ()).map λv=>(outD out v,[])):zaM P g ⟨[],out,f⟩:=by
 intro a r hf;have hf':f ()=some r:=hf;rw[hf'] at h;cases he:evF P (tblOf P []) (λ_ _ _=>none) 1000 1 g [] [] with
 |none=>rw[he] at h;simp at h
 |some p=>obtain ⟨r',U',wr⟩:=p;rw[he] at h;simp only[Option.map_some,yAa,yAc] at h;obtain ⟨h1,rfl⟩:=h;have O:=evF_ok mix (tblOf_ok P []) (prim:=λ_ _ _=>none) (λg ds U r U' wr h=>by simp at h) 1000 1 g [] [] r' [] wr he;refine ⟨O.1,λM Fz w vs R hs hv=>?_⟩;refine (O.2.1 M Fz w vs R hs hv).mono λe w' hK=>?_;obtain ⟨v,M',Fz',e1,e2,e3,e4⟩:=hK;exact ⟨v,M',Fz',e1,e2,DLe.of_nrmY h1 _ _ _ _ _ e3,e4⟩
end
end Go.Abs
end
