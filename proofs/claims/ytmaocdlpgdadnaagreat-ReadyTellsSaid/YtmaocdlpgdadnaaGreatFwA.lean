/- DfwA, DfwB, DfwC, DfwD, DfwE, DfwF, DfwG, DfwH, DfwI -/
import Derived.Calls
import Derived.Orders
import Derived.Laws.Sem
import Derived.Laws.World
import Derived.Laws.Cells
import Derived.Laws.Rows
import GoSem.Dispatch
import Derived.IntWalk
set_option linter.all false
namespace Go
abbrev aF:=@Option.bind_some
abbrev QF:=@List.nil_append
abbrev xAc:=@List.drop_append
abbrev xAd:=@List.getElem?_cons_zero
abbrev xAe:=@List.getElem?_eq_none
abbrev xAf:=@Array.foldl_toList
abbrev xAg:=@List.getElem?_set_ne
abbrev xAh:=@Array.getElem?_append_right
abbrev ab:=@Option.some.injEq
abbrev aM:=@decide_eq_true_eq
abbrev aV:=@Bool.false_eq_true
abbrev bq:=@Option.map_eq_some_iff
abbrev bC:=@Option.bind_eq_some_iff
abbrev aC:=@Prod.mk.injEq
abbrev aU:=@Bool.and_eq_true
abbrev bP:=@Nat.eq_of_beq_eq_true
abbrev cE:=@List.getElem?_eq_getElem
abbrev dT:=@List.getElem?_eq_some_iff
abbrev bZ:=@List.getElem_mem
abbrev nE:=@Array.getElem?_eq_getElem
abbrev fJ:=@Bool.not_eq_true'
abbrev eG:=@List.all_eq_true
abbrev bQ:=@Nat.le_refl
abbrev dQ:=@Bool.or_eq_true
abbrev kE:=@List.mem_cons_of_mem
abbrev gT:=@List.getElem?_map
abbrev bm:=@if_false
abbrev li:=@List.mem_cons_self
abbrev dO:=@List.mem_cons
abbrev kO:=@Bool.not_eq_false
abbrev sT:=@List.mem_of_getElem?
abbrev tE:=@List.getElem_of_mem
abbrev gZ:=@List.mem_map
abbrev CS:=@Array.getElem?_eq_some_iff
abbrev wS:=@Nat.le_of_ble_eq_true
abbrev jI:=@Nat.le_trans
abbrev tD:=@List.append_assoc
abbrev CU:=@List.getElem?_append_left
abbrev mb:=@List.map_cons
abbrev vU:=@List.length_append
abbrev xD:=@Nat.lt_of_lt_of_le
abbrev uQ:=@List.mem_append
abbrev Jo:=@List.getElem?_append_right
abbrev pY:=@Nat.lt_or_ge
abbrev vN:=@List.length_map
abbrev LQ:=@List.getD_eq_getElem?_getD
abbrev zp:=@List.length_take
abbrev Gq:=@Array.getElem?_toList
abbrev Hi:=@List.take_append_drop
abbrev RW:=@List.take_succ_eq_append_getElem
abbrev QI:=@List.eq_nil_of_length_eq_zero
abbrev QH:=@Array.getElem?_setIfInBounds
abbrev oQ:=@beq_iff_eq
abbrev oS:=@Nat.blt_eq
abbrev FU:=@Nat.lt_or_eq_of_le
abbrev KZ:=@List.mem_of_mem_take
abbrev FG:=@List.not_mem_nil
abbrev Up:=@Array.getD_eq_getD_getElem?
abbrev Dv:=@List.mem_filter
abbrev DA:=@List.append_nil
abbrev Mb:=@List.pairwise_append
abbrev QJ:=@List.length_eq_zero_iff
abbrev GN:=@List.getElem_map
abbrev Me:=@List.length_pos_iff
abbrev Ol:=@Nat.mul_le_mul_right
abbrev KM:=@Decidable.not_not
abbrev Dm:=@Bool.not_true
abbrev Mq:=@List.mem_singleton
abbrev EP:=@Bool.and_true
abbrev L_:=@List.ext_getElem?
abbrev Dn:=@Nat.zero_add
abbrev YG:=@Int.mul_le_mul_of_nonneg_right
abbrev XC:=@Array.getElem?_append_left
abbrev UO:=@decide_eq_false_iff_not
abbrev Mw:=@List.take_length
abbrev UK:=@List.drop_eq_nil_of_le
abbrev VO:=@Option.isSome_iff_exists
abbrev zC:=@bne_iff_ne
abbrev wZ:=@false_iff
abbrev Lm:=@List.mapM_cons
abbrev Yh:=@List.pairwise_iff_getElem
abbrev Ya:=@List.getElem?_take_of_lt
abbrev Vz:=@Bool.and_eq_false_iff
abbrev QN:=@Nat.lt_succ_iff
abbrev VK:=@List.getElem?_append
abbrev WN:=@List.mem_of_mem_drop
abbrev UJ:=@List.getElem?_set
abbrev JG:=@Nat.zero_le
abbrev Vl:=@List.flatMap_cons
abbrev UT:=@List.getElem_take
abbrev ZY:=@List.drop_eq_getElem_cons
abbrev Yw:=@List.getElem?_of_mem
abbrev ZD:=@Nat.exists_eq_add_of_le
abbrev PE:=@List.map_map
abbrev Vn:=@List.length_set
abbrev Za:=@List.take_of_length_le
abbrev Dj:=@congrArg
abbrev Xs:=@Bool.not_eq_true
abbrev yB2:=@List.mem_iff_getElem?
abbrev Ph:=@Nat.add_mul
abbrev yB4:=@Classical.not_and_iff_not_or_not
abbrev Zt:=@List.mem_append_left
abbrev EG:=@or_false
abbrev Yj:=@Go.heap_alloc_old
abbrev Yx:=@Nat.lt_trichotomy
abbrev Yi:=@List.take_add_one
abbrev UZ:=@Bool.true_and
abbrev YD:=@List.filter_cons
abbrev Xa:=@Sigma.mk.injEq
abbrev Hp:=@true_iff
abbrev YI:=@List.map_append
abbrev XZ:=@List.cons.injEq
abbrev yBG:=@Classical.choose_spec
abbrev yBH:=@List.concat_eq_append
abbrev yBI:=@List.Perm.append_left
abbrev yBJ:=@List.perm_append_comm
abbrev yBK:=@List.set_getElem_self
abbrev yBL:=@Int.tdiv_eq_ediv_of_nonneg
abbrev Ys:=@Int.mul_nonneg
abbrev yBN:=@List.mem_or_eq_of_mem_set
abbrev yBO:=@Decidable.byContradiction
abbrev Kg:=@and_true
abbrev YN:=@beq_self_eq_true
abbrev VU:=@Nat.zero_mul
abbrev yBS:=@Array.getElem?_replicate
abbrev yBT:=@List.getElem?_drop
abbrev Yd:=@List.map_take
abbrev yBV:=@Nat.add_sub_cancel_left
abbrev yBW:=@List.pairwise_cons
abbrev VH:=@Nat.pow_add
abbrev yBY:=@List.any_eq_false
abbrev yBZ:=@bne_self_eq_false
abbrev ZL:=@List.drop_zero
abbrev Zb:=@List.mem_range
abbrev yCc:=@Bool.false_and
abbrev YH:=@Nat.sub_self
abbrev Yo:=@List.map_nil
abbrev yCf:=@Bool.false_or
end Go
section
namespace Go.Abs
inductive C where
 |lit (v:Value)
 |bG (nn:Bool) (es:List (List C))
 |bE (cs:List C) (off:Nat)
 |fn (f:Fn) (first cap:List C)
 |Ei (es:List (Value×C))
 |Ml (g:Nat)
 deriving Inhabited
inductive D where
 |c (x:C)
 |ptr (b off sz:Nat)
 |sl (b off len ai sz:Nat)
 |mp (b:Nat)
 |fn (f:Fn) (first cap:List D)
 |agg (cs:List D)
 |aB (vs:List D)
 |any
 deriving Inhabited
inductive Ob where
 |cells (cs:List D)
 |map (es:List (Value×D×Nat)) (clock:Nat)
 |gone (n:Nat)
 deriving Inhabited
def Ob.sz:Ob->Nat
 |.cells i=>i.length
 |.map _ _=>0
 |.gone n=>n
abbrev aa:=List Ob
inductive VC (Fz:Nat->Prop) (w:World):C->Value->Prop where
 |lit (v:Value):VC Fz w (.lit v) v
 |bG {nn:Bool} {es:List (List C)} (ai:Nat) (a:Option Addr) (cap:Nat) (hnn:nn=true->a.isSome=true) (hz:a=none->cap=0) (c:Nat->Nat->Value) (hsz:∀e∈es,e.length=ai) (hcap:es.length<=cap)
   (hc:∀(i j:Nat) e d,es[i]? = some e->e[j]? = some d->∃blk o,a=some ⟨blk,o,none⟩/\Fz blk/\w.cell? ⟨blk,o+i * ai+j,none⟩=some (c i j)/\(c i j).oneCell'=true)
   (hv:∀(i j:Nat) e d,es[i]? = some e->e[j]? = some d->VC Fz w d (c i j)):VC Fz w (.bG nn es) (.slice a es.length cap)
 |bE {cs:List C} {off:Nat} (blk o:Nat) (c:Nat->Value) (hF:Fz blk) (hc:∀(j:Nat) d,cs[j]? = some d->w.cell? ⟨blk,o+j,none⟩=some (c j)/\(c j).oneCell'=true)
   (hv:∀(j:Nat) d,cs[j]? = some d->VC Fz w d (c j)):VC Fz w (.bE cs off) (.pointer (some ⟨blk,o+off,none⟩))
 |fn {f:Fn} {first cap:List C} (vs ws:Array Value) (h1:vs.size=first.length) (h2:ws.size=cap.length)
   (hv:∀(i:Nat) d v,first[i]? = some d->vs[i]? = some v->VC Fz w d v) (hw:∀(i:Nat) d v,cap[i]? = some d->ws[i]? = some v->VC Fz w d v) :
   VC Fz w (.fn f first cap) (.func f vs ws)
 |Ei {es:List (Value×C)} (blk clock:Nat) (arr:Array MapEntry) (hF:Fz blk) (hh:w.heap[blk]? = some (.map arr clock)) (hs:arr.size=es.length)
   (hk:∀(i:Nat) p e,es[i]? = some p->arr[i]? = some e->e.key=p.1) (hv:∀(i:Nat) p e,es[i]? = some p->arr[i]? = some e->VC Fz w p.2 e.val):VC Fz w (.Ei es) (.map (some blk))
 |Ml (g:Nat):VC Fz w (.Ml g) (.pointer (some ⟨g,0,none⟩))
theorem Bh{w w':World}{blk o:Nat}(h:w'.heap[blk]? = w.heap[blk]?):w'.cell? ⟨blk,o,none⟩=w.cell? ⟨blk,o,none⟩:=by grind [Go.World.cell?]
theorem VC.mono{Fz Fz':Nat->Prop}{w w':World}(O:∀c:Nat,Fz c->Fz' c/\w'.heap[c]? = w.heap[c]?){x:C}{v:Value}(h:VC Fz w x v):VC Fz' w' x v:=by
 induction h with
 |lit v=>exact .lit v
 |bG ai a cap z W c A u Q E ih=>
  refine .bG ai a cap z W c A u (λi j e d R U=>?_) ih
  grind [Bh]
 |bE blk o c F Q E ih=>exact .bE blk o c (O _ F).1 (λj d h=>⟨by grind [Bh],(Q j d h).2⟩) ih
 |fn X Y R U E Z G K=>exact .fn X Y R U G K
 |Ei blk s L F hh hs hk E ih=>exact .Ei blk s L (O _ F).1 (by simp_all) hs hk ih
 |Ml g=>exact .Ml g
inductive V (σ:aa) (M:Nat→Option Nat) (Fz:Nat→Prop) (w:World):D→Value→Prop where
 | c {x:C} {v:Value} (h:VC Fz w x v):V σ M Fz w (.c x) v
 | any (v:Value):V σ M Fz w .any v
 | ptr {b off sz:Nat} (a:Addr) (ob:Ob) (h:σ[b]? = some ob) (hle:sz≤ob.sz)
   (hv:ob.sz=sz→∃c,M b=some c∧a=⟨c,off,none⟩):V σ M Fz w (.ptr b off sz) (.pointer (some a))
 | sl {b off len ai sz:Nat} (a:Option Addr) (n cap:Nat) (hnn:len≠0→a≠none) (ob:Ob) (h:σ[b]? = some ob) (hle:sz≤ob.sz)
   (hv:ob.sz=sz→(a=none∧n=0∧cap=0∧len=0∧off=0∧sz=0)∨∃c o arr T,M b=some c∧a=some ⟨c,o,none⟩∧n=len∧(len≤cap∧sz≤off+cap * ai)∧(o=off∨cap=0) ∧
    w.heap[c]? = some (.cells arr T (0,0))∧o+cap * ai≤arr.size∧off+len * ai≤sz):V σ M Fz w (.sl b off len ai sz) (.slice a n cap)
 | mp {b:Nat} (c:Nat) (ob:Ob) (h:σ[b]? = some ob) (hv:ob.sz=0→M b=some c):V σ M Fz w (.mp b) (.map (some c))
 | fn {f:Fn} {first cap:List D} (vs ws:Array Value) (h1:vs.size=first.length) (h2:ws.size=cap.length)
   (hv:∀(i:Nat) d v,first[i]? = some d→vs[i]? = some v→V σ M Fz w d v) (hw:∀(i:Nat) d v,cap[i]? = some d→ws[i]? = some v→V σ M Fz w d v) :
   V σ M Fz w (.fn f first cap) (.func f vs ws)
 | agg {cs:List D} (vs:Array Value) (h1:vs.size=cs.length) (hv:∀(i:Nat) d v,cs[i]? = some d→vs[i]? = some v→V σ M Fz w d v):V σ M Fz w (.agg cs) (.agg vs)
 | aB {cs:List D} (vs:Array Value) (h1:vs.size=cs.length) (hv:∀(i:Nat) d v,cs[i]? = some d→vs[i]? = some v→V σ M Fz w d v):V σ M Fz w (.aB cs) (.tuple vs)
def fX(arr:Array MapEntry)(b:Nat):Prop:=(arr.toList.map MapEntry.born).Nodup/\∀e∈arr.toList,e.born<b
theorem fX.nil(i:Nat):fX #[] i:=⟨by simp,by simp⟩
theorem fX.push{arr:Array MapEntry}{i:Nat}(h:fX arr i)(k v:Value):fX (arr.push { key:=k,val:=v,born:=i }) (i+1):=by
 refine ⟨?_,λe he=>?_⟩
 ·rw[Array.toList_push,YI,List.nodup_append];refine ⟨h.1,by simp,λa j b o=>?_⟩;obtain ⟨e,he,rfl⟩:=gZ.1 j;have:=h.2 e he
  grind
 ·rw[Array.toList_push,uQ] at he;rcases he with he | he
  ·have:=h.2 e he;omega
  simp_all
theorem fX.same{arr i:Array MapEntry}{j:Nat}(h:fX arr j)(e:i.toList.map MapEntry.born=arr.toList.map MapEntry.born):fX i j:=by
 refine ⟨by rw[e];exact h.1,λx s=>?_⟩;have:x.born∈arr.toList.map MapEntry.born:=by grind
 obtain ⟨y,o,q⟩:=gZ.1 this;rw[<-q];exact h.2 y o
theorem fX.sub{arr i:Array MapEntry}{j:Nat}(h:fX arr j)(e:i.toList.Sublist arr.toList):fX i j:=
 ⟨h.1.sublist (e.map _),λx o=>h.2 x (e.subset o)⟩
def bb(σ:aa)(M:Nat->Option Nat)(Fz:Nat->Prop)(w:World):Ob->Obj->Prop
 |.cells f,o=>∃b T,o=.cells b T (0,0)/\f.length<=b.size/\∀(i:Nat) d v,f[i]? = some d->b[i]? = some v->V σ M Fz w d v/\v.oneCell'=true
 |.map es _,o=>∃b,(∃g,o=.map b g/\fX b g)/\b.size=es.length/\∀(i:Nat) k d n e,es[i]? = some (k,d,n)->b[i]? = some e->e.key=k/\True/\V σ M Fz w d e.val
 |.gone _,_=>False
class Gl where
 ok:(Nat->Prop)->World->Prop
 mono:∀{Fz Fz':Nat->Prop}{w w':World},(∀c:Nat,Fz c->Fz' c/\w'.heap[c]? = w.heap[c]?)->ok Fz w->ok Fz' w'
 VA:Nat->List Value:=λ_=>[]
 ZS:∀{Fz:Nat->Prop}{w:World}(g j:Nat)(v:Value),ok Fz w->(VA g)[j]? = some v->Fz g/\w.cell? ⟨g,j,none⟩=some v/\v.oneCell'=true:=by intro _ _ g j v _ h;simp at h
structure Rel [Gl] (σ:aa) (M:Nat->Option Nat) (Fz:Nat->Prop) (w:World):Prop where
 blk:∀(b c:Nat),M b=some c->¬Fz c/\∃ob o,σ[b]? = some ob/\w.heap[c]? = some o/\bb σ M Fz w ob o
 inj:∀b b' c,M b=some c->M b'=some c->b=b'
 fz:∀c,Fz c->c<w.heap.size
 gl:Gl.ok Fz w
structure aW (σ:aa) (M:Nat->Option Nat) (Fz:Nat->Prop) (w:World) (σ':aa) (M':Nat->Option Nat) (Fz':Nat->Prop) (w':World):Prop where
 size:w.heap.size<=w'.heap.size
 frame:∀c:Nat,c<w.heap.size->(∀b,M b≠some c)->w'.heap[c]? = w.heap[c]?
 hY:∀b c,M' b=some c->(∃b0,M b0=some c)∨w.heap.size<=c
 fz:∀c:Nat,Fz c->Fz' c/\w'.heap[c]? = w.heap[c]?
 jj:∀c,Fz' c->Fz c∨(∃b,M b=some c)∨w.heap.size<=c
 lm:∀(c:Nat) arr T fr,w.heap[c]? = some (.cells arr T fr)->∃arr',w'.heap[c]? = some (.cells arr' T fr)/\arr'.size=arr.size
 bX:∀(b:Nat) ob,σ[b]? = some ob->∃ob',σ'[b]? = some ob'/\ob.sz<=ob'.sz/\(ob'.sz=ob.sz->M' b=M b)
 out:w'.os=w.os/\w'.tape=w.tape/\w'.output=w.output
section
variable{σ σ' σ'':aa}{M M' M'':Nat->Option Nat}{Fz Fz' Fz'':Nat->Prop}{w w' w'':World}
theorem V.mono(E:aW σ M Fz w σ' M' Fz' w'){d:D}{v:Value}(h:V σ M Fz w d v):V σ' M' Fz' w' d v:=by
 induction h with
 |c h=>exact .c (h.mono E.fz)
 |any v=>exact .any v
 |ptr a O h A j=>
  obtain ⟨i,u,hs,hk⟩:=E.bX _ _ h;refine .ptr a i u (by omega) (λQ=>?_)
  grind
 |sl a n cap F O h A j=>
  obtain ⟨i,u,hs,hk⟩:=E.bX _ _ h;refine .sl a n cap F i u (by omega) (λQ=>?_);rcases j (by omega) with ⟨s,R,h3,h4,h5,h6⟩ | ⟨c,o,U,T,hM,W,X,Y,Z,hh,hb,hz⟩
  ·simp_all
  ·obtain ⟨x,G,ad⟩:=E.lm _ _ _ _ hh;exact .inr ⟨c,o,x,T,by grind,W,X,Y,Z,G,by omega,hz⟩
 |mp c O h j=>obtain ⟨i,u,hs,hk⟩:=E.bX _ _ h;exact .mp c i u (λQ=>by simp_all)
 |fn z ws s R j hw K L=>exact .fn z ws s R K L
 |agg z s j ih=>exact .agg z s ih
 |aB z s j ih=>exact .aB z s ih
variable[Gl] in
theorem aW.refl(R:Rel σ M Fz w):aW σ M Fz w σ M Fz w:={
 size:=bQ _
 frame:=λ_ _ _=>rfl
 hY:=λb c h=>.inl ⟨b,h⟩
 fz:=λc h=>⟨h,rfl⟩
 jj:=λc h=>.inl h
 lm:=λc i T o h=>⟨i,h,rfl⟩
 bX:=λb j h=>⟨j,h,bQ _,λ_=>rfl⟩
 out:=⟨rfl,rfl,rfl⟩ }
theorem aW.trans(A:aW σ M Fz w σ' M' Fz' w')(B:aW σ' M' Fz' w' σ'' M'' Fz'' w'')(K:σ.length<=σ'.length):aW σ M Fz w σ'' M'' Fz'' w'':={
 size:=jI A.size B.size
 frame:=λc s x=>by
  rw[<-A.frame c s x];refine B.frame c (xD s A.size) (λb z=>?_);rcases A.hY b c z with ⟨j,i⟩ | i
  ·simp_all
  ·omega
 hY:=λb c h=>by
  rcases B.hY b c h with ⟨j,i⟩ | i
  ·exact A.hY j c i
  ·exact .inr (jI A.size i)
 fz:=λc h=>by
  obtain ⟨h1,h2⟩:=A.fz c h;obtain ⟨L,O⟩:=B.fz c h1
  simp_all
 jj:=λc h=>by
  rcases B.jj c h with h | ⟨b,h⟩ | h
  ·exact A.jj c h
  ·rcases A.hY b c h with ⟨j,i⟩ | i
   ·grind
   omega
  ·exact .inr (.inr (jI A.size h))
 lm:=λc o T u h=>by
  obtain ⟨E,h1,Q⟩:=A.lm c o T u h;obtain ⟨R,h2,U⟩:=B.lm c E T u h1
  simp_all
 bX:=λb F h=>by
  obtain ⟨G,h1,s1,W⟩:=A.bX b F h;obtain ⟨X,h2,s2,Y⟩:=B.bX b G h1
  grind
 out:=⟨B.out.1.trans A.out.1,B.out.2.1.trans A.out.2.1,B.out.2.2.trans A.out.2.2⟩ }
theorem bb.mono(E:aW σ M Fz w σ' M' Fz' w'){ob:Ob}{o:Obj}(h:bb σ M Fz w ob o):bb σ' M' Fz' w' ob o:=by
 cases ob with
 |cells G=>obtain ⟨j,T,z,A,s⟩:=h;exact ⟨j,T,z,A,λi d v u x=>⟨(s i d v u x).1.mono E,(s i d v u x).2⟩⟩
 |map K F=>obtain ⟨j,z,A,s⟩:=h;exact ⟨j,z,A,λi k d n e u x=>let ⟨a,b,c⟩:=s i k d n e u x;⟨a,b,c.mono E⟩⟩
 |gone n=>exact h.elim
end
end Go.Abs
end
section
namespace Go.Abs
variable[Gl]
def ee{α:Type}(P:Program):Sem α->Option α
 |.pure a=>some a
 |.program k=>ee P (k P)
 |_=>none
theorem HK{α:Type}{P:Program}{s:Sem α}{a:α}(w:World)(h:ee P s=some a):s.run P w=.ok a w:=by
 induction s with
 |pure b=>simp only[ee,ab] at h;simp_all
 |program k ih=>simp only[ee] at h;exact ih P h
 |_=>grind [ee]
inductive ay where
 |t (n:Nat)
 |k (d:D)
 deriving Inhabited
def cp:Value->D
 |.agg b=>.agg (b.toList.map λv=>.c (.lit v))
 |.tuple b=>.aB (b.toList.map λv=>.c (.lit v))
 |v=>.c (.lit v)
def ay.ev(env:List D):ay->D
 |.t n=>(env[n]?).getD (.aB [])
 |.k d=>d
def ba:Operand->Option ay
 |.tmp t=>some (.t t)
 |.const v=>some (.k (cp v))
 |.func f=>some (.k (.c (.fn (.func f) [] [])))
 |.global g=>some (.k (.c (.Ml g)))
def fA:D->Option Value
 |.c (.lit v)=>some v
 |_=>none
def D.bO:D->Option Value
 |.c (.lit v)=>some v
 |.agg ds=>(ds.mapM fA).map λl=>.agg l.toArray
 |_=>none
def D.scalar:D->Bool
 |.c (.lit v)=>v.oneCell'
 |.c _ | .ptr .. | .sl .. | .mp _ | .fn ..=>true
 |_=>false
def D.cells?:D->Option (List D)
 |.agg i=>if i.all D.scalar then some i else none
 |d=>if d.scalar then some [d] else none
inductive iA where
 |uV (x:ay)
 |pick (c a b:ay)
 |gen (op:Op) (ty:TypeId)
 |box (x:ay)
 |alloc (z:List D)
 |build (z:List D) (parts:List (Nat×Nat×ay))
 |fZ (ai len:Nat) (z:List D) (parts:List (Nat×Nat×ay))
 |load (n:Option Nat) (a:ay)
 |store (n:Nat) (a x:ay)
 |jH (x:ay)
 |fS (k:Nat) (neg:Bool) (x:ay)
 |Aw (off:Nat) (x:ay)
 |idx (ai:Nat) (arr:Option Nat) (x i:ay)
 |Mp (ai:Nat) (x:ay) (lo hi:Option ay)
 |len (x:ay)
 |Nd (x:ay)
 |mk (ai bytes:Nat) (z:List D) (l c:ay)
 |pP
 |lookup (kind:TypeDesc) (zero:D) (m k:ay) (ok:Bool)
 |rK (kind:TypeDesc) (m k x:ay)
 |extract (x:ay) (i:Nat)
 |yD (f:Fn) (first cap:List ay)
 |part (off:Nat) (n:Option Nat) (x:ay)
 |wx (ai len:Nat) (n:Option Nat) (x i:ay)
 |append (ai bytes:Nat) (s x:ay)
 |copy (ai:Nat) (d s:ay)
 |del (kind:TypeDesc) (m k:ay)
 |Lj (ai:Nat) (x lo hi mx:ay)
 |yf (n:Nat) (x:ay)
 |Zw (ai:Nat) (z:List D) (x:ay)
 |call (f:ay) (args:List ay)
 deriving Inhabited
def Bv(xs:Array Operand):Option (List ay):=xs.toList.mapM ba
def zR:Option Operand->Option (Option ay)
 |none=>some none
 |some x=>(ba x).map some
def yF(P:Program)(t:TypeId):Option (Option Nat):=
 match P.info? t,P.underlying t with
 |some i,some (.struct _)=>some (some i.size)
 |some i,some (.array _ _)=>some (some i.size)
 |some _,some _=>some none
 |_,_=>none
def zeroOf(P:Program)(t:TypeId):Option D:=
 match P.info? t with
 |some i=>i.zero.map cp
 |none=>none
def Iu(P:Program)(t:TypeId):Option (List D):=(zeroOf P t).bind D.cells?
def aQ(P:Program)(t:TypeId):Option Nat:=(P.info? t).map (·.size)
def CJ(P:Program)(b:Array Field):Option (List (Nat×Nat)):=b.toList.mapM λf=>(aQ P f.type).map λn=>(f.offset,n)
def uh:TypeDesc->Option Nat
 |.pointer _=>some 0
 |.map _ _=>some 1
 |.func ..=>some 2
 |.slice _=>some 3
 |_=>none
def mM(k:Nat):Operand->Bool
 |.const (.pointer none)=>k == 0
 |.const (.map none)=>k == 1
 |.const .nilFunc=>k == 2
 |.const (.slice none 0 0)=>k == 3
 |_=>false
def qC(k:Nat)(neg:Bool)(x y:Operand):Option iA:=
 if mM k y then (ba x).map (.fS k neg) else if mM k x then (ba y).map (.fS k neg) else none
def isNil:Nat->D->Option Bool
 |0,.ptr ..=>some false
 |0,.c (.bE ..)=>some false
 |0,.c (.lit (.pointer none))=>some true
 |1,.mp _=>some false
 |1,.c (.Ei _)=>some false
 |1,.c (.lit (.map none))=>some true
 |2,.fn ..=>some false
 |2,.c (.fn ..)=>some false
 |2,.c (.lit .nilFunc)=>some true
 |3,.sl _ _ (_+1) _ _=>some false
 |3,.c (.bG true _)=>some false
 |3,.c (.lit (.slice none 0 0))=>some true
 |_,_=>none
def QE:TypeDesc->Bool
 |.int _=>true
 |_=>false
def iO(P:Program)(op:Op)(ty:TypeId):Option iA:=
 match op with
 |.move x | .assign x=>(ba x).map .uV
 |.pick c a b=>do some (.pick (<-ba c) (<-ba a) (<-ba b))
 |.alloc t=>(Iu P t).map .alloc
 |.box _ x=>(ba x).map .box
 |.build t d => do
  let z <-Iu P t
  match <-P.underlying t with
  |.struct h => do
   let ps <-CJ P h
   some (.build z (<-d.toList.mapM λ(i,x)=>do let (o,n) <-ps[i]?;some (o,n,<-ba x)))
  |.array _ e => do
   let n <-aQ P e
   some (.build z (<-d.toList.mapM λ(i,x)=>do some (i * n,n,<-ba x)))
  |_=>none
 |.buildSlice t len d => do
  match <-P.underlying t with
  |.slice e => do
   let n <-aQ P e
   let z <-Iu P e
   if n=0∨z.length≠n∨len * n > 2 ^ 20 then none else
   some (.fZ n len z (<-d.toList.mapM λ(i,x)=>do some (i * n,n,<-ba x)))
  |_=>none
 |.load t a=>do some (.load (<-yF P t) (<-ba a))
 |.store t a x=>do some (.store (<-aQ P t) (<-ba a) (<-ba x))
 |.nilCheck x=>(ba x).map .jH
 |.binOp o t x y _=>
  match (P.underlying t).bind uh with
  |some k=>
   match o with
   |.eql=>qC k false x y
   |.neq=>qC k true x y
   |_=>none
  |none=>some (.gen op ty)
 |.unOp ..=>some (.gen op ty)
 |.convert ..=>some (.gen op ty)
 |.makeFunc f first cap=>do some (.yD f (<-Bv first) (<-Bv cap))
 |.makeMap _ none=>some .pP
 |.makeSlice t l c => do
  match <-P.underlying t with
  |.slice e => do
   let n <-aQ P e
   let z <-Iu P e
   let i <-P.info? e
   if n=0∨z.length≠n then none else some (.mk n i.bytes z (<-ba l) (<-ba c))
  |_=>none
 |.slice t x p q none => do
  match <-P.underlying t with
  |.slice e=>do some (.Mp (<-aQ P e) (<-ba x) (<-zR p) (<-zR q))
  |.string=>some (.gen op ty)
  |.array m e => match p, q with
   |none, none => do
    let k <-aQ P e
    let r <-ba x
    if k=1 then some (.yf m r) else none
   |_,_=>none
  |_=>none
 |.slice t x (some p) (some q) (some u) => do
  match <-P.underlying t with
  |.slice e=>do some (.Lj (<-aQ P e) (<-ba x) (<-ba p) (<-ba q) (<-ba u))
  |_=>none
 |.fieldAddr s x f => do
  match <-P.underlying s with
  |.struct h => do
   let fd <-h[f]?
   let n <-aQ P fd.type
   if n=0 then none else some (.Aw fd.offset (<-ba x))
  |_=>none
 |.field t x f => do
  match <-P.underlying t with
  |.struct h => do
   let fd <-h[f]?
   some (.part fd.offset (<-yF P fd.type) (<-ba x))
  |_=>none
 |.indexAddr t x i => do
  match <-P.underlying t with
  |.slice e => do
   let n <-aQ P e
   if n=0 then none else some (.idx n none (<-ba x) (<-ba i))
  |.array len e => do
   let n <-aQ P e
   if n=0 then none else some (.idx n (some len) (<-ba x) (<-ba i))
  |_=>none
 |.index t x i => do
  match <-P.underlying t with
  |.array len e=>do some (.wx (<-aQ P e) len (<-yF P e) (<-ba x) (<-ba i))
  |.string=>some (.gen op ty)
  |_=>none
 |.lookup t m k ok => do
  match <-P.underlying t with
  |.map j e => do
   let g <-P.underlying j
   if QE g then some (.lookup g (<-zeroOf P e) (<-ba m) (<-ba k) ok) else none
  |_=>none
 |.mapUpdate t m k x | .insert t m k x => do
  match <-P.underlying t with
  |.map j _ => do
   let g <-P.underlying j
   if QE g then some (.rK g (<-ba m) (<-ba k) (<-ba x)) else none
  |_=>none
 |.extract x i=>do some (.extract (<-ba x) i)
 |.call { callee:=.value f,args,.. }=>do some (.call (<-ba f) (<-Bv args))
 |.call { callee := .builtin .len, args, argTypes } => do
  let t <-argTypes[0]?
  let x <-args[0]?
  if args.size≠1 then none else
  match <-P.underlying t with
  |.slice _=>(ba x).map .len
  |.map _ _=>(ba x).map .Nd
  |.array n _=>some (.uV (.k (.c (.lit (.int .i64 n)))))
  |.string=>some (.gen op ty)
  |_=>none
 |.call { callee := .builtin .append, args, argTypes } => do
  let t <-argTypes[0]?
  let t1 <-argTypes[1]?
  let s <-args[0]?
  let x <-args[1]?
  match <-P.underlying t,<-P.underlying t1 with
  |.slice e, .slice _ => do
   let n <-aQ P e
   let i <-P.info? e
   let z <-Iu P e
   if n=0∨z.length≠n then none else some (.append n i.bytes (<-ba s) (<-ba x))
  |_,_=>none
 |.call { callee := .builtin .copy, args, argTypes } => do
  let t <-argTypes[0]?
  let s <-args[0]?
  let x <-args[1]?
  match <-P.underlying t with
  |.slice e => do
   let n <-aQ P e
   if n=0 then none else some (.copy n (<-ba s) (<-ba x))
  |_=>none
 |.call { callee := .builtin .delete, args, argTypes } => do
  let t <-argTypes[0]?
  let m <-args[0]?
  let k <-args[1]?
  match <-P.underlying t with
  |.map j _ => do
   let g <-P.underlying j
   if QE g then some (.del g (<-ba m) (<-ba k)) else none
  |_=>none
 |.call { callee := .builtin .clear, args, argTypes } => do
  let t <-argTypes[0]?
  let x <-args[0]?
  match <-P.underlying t with
  |.slice e => do
   let n <-aQ P e
   let z <-Iu P e
   if n=0∨z.length≠n then none else some (.Zw n z (<-ba x))
  |_=>none
 |.call { callee:=.builtin .min,.. } | .call { callee:=.builtin .max,.. } | .call { callee:=.builtin .complex,.. }
 |.call { callee:=.builtin .real,.. } | .call { callee:=.builtin .imag,.. }=>some (.gen op ty)
 |_=>none
def vw:iA->Bool
 |.call ..=>true
 |_=>false
def Qq:iA->Bool
 |.gen (.select ..) _=>true
 |_=>false
def cat:iA->Nat
 |.uV .. | .pick .. | .gen .. | .build .. | .jH .. | .fS .. | .Aw .. | .idx .. | .Mp .. | .Lj .. | .yf .. | .len .. | .extract .. | .yD .. | .part .. | .wx ..=>0
 |.load ..=>1
 |.alloc .. | .box .. | .fZ .. | .mk .. | .pP=>2
 |_=>3
def comp(P:Program)(op:Op)(ty:TypeId):Option iA:=
 match op with
 |.call { callee := .value f, args, .. }=>
  match ba f,Bv args with
  |some of,some os=>some (.call of os)
  |_,_=>none
 |_=>
  match iO P op ty with
  |some b=>if vw b || Qq b then none else some b
  |none=>none
def jQ:Nat->List (Value×D×Nat)->List (Value×D×Nat)
 |_,[]=>[]
 |i,(k,d,_)::l=>(k,d,i)::jQ (i+1) l
abbrev qB:=FuncId->List D->aa->Option (D×aa×List Nat)
def oF:D->Option Int
 |.c (.lit (.int _ n))=>some n
 |_=>none
def fD:D->Option Bool
 |.c (.lit (.bool b))=>some b
 |_=>none
def kl(P:Program)(op:Op)(ty:TypeId)(env:List D):Option D:=
 if op.operands.toList.all (λx=>(((ba x).map (ay.ev env)).bind D.bO).isSome) then
  match ee P (execOp (λx=>((((ba x).map (ay.ev env)).bind D.bO).getD undef)) { dst:=none,op:=op,type:=ty,pos:="",after:=#[],guard:=none }) with
  |some (.value v)=>some (cp v)
  |_=>none
 else none
def put(cs:List D)(off:Nat)(xs:List D):List D:=cs.take off++xs++cs.drop (off+xs.length)
def lL(env:List D):List D->List (Nat×Nat×ay)->Option (List D)
 |b,[]=>some b
 |b, (o, n, x) :: rest => do
  let xs <-(x.ev env).cells?
  if xs.length≠n∨o+n > b.length then none else lL env (put b o xs) rest
def jZ(σ:aa)(b sz:Nat):Option (List D):=
 match σ[b]? with
 |some (.cells d)=>if d.length=sz then some d else none
 |_=>none
def oW(n:Option Nat)(cs:List D)(off:Nat):Option D:=
 match n with
 |none=>cs[off]?
 |some n=>if off+n<=cs.length then some (.agg ((cs.drop off).take n)) else none
def oH(n:Nat)(z:List D):List D:=(List.replicate n z).flatten
def AV(σ:aa):D->Option Nat
 |.c (.lit (.slice none 0 0))=>some 0
 |.c (.bG _ es)=>some es.length
 |.sl b _ len _ sz=>if (jZ σ b sz).isSome then some len else none
 |_=>none
def Nc(σ:aa)(ai:Nat)(n:Nat):D->Option (List D)
 |.c (.lit (.slice none 0 0))=>if n=0 then some [] else none
 |.c (.bG _ d)=>if n<=d.length/\d.all (λe=>e.length=ai) then some ((d.take n).flatten.map .c) else none
 |.sl b off len d sz => do
  let f <-jZ σ b sz
  if d=ai/\n<=len/\off+len * ai<=sz then some ((f.drop off).take (n * ai)) else none
 |_=>none
def mY(kind:TypeDesc)(k:Value):List (Value×D×Nat)->Nat->Option (Option (Nat×D))
 |[],_=>some none
 |(b, d, _) :: es, i=>
  match Instr.sameNow kind k b with
  |some true=>some (some (i,d))
  |some false=>mY kind k es (i+1)
  |none=>none
def AK(σ:aa):D->Option (List (Value×D×Nat))
 |.c (.lit (.map none))=>some []
 |.c (.Ei es)=>some (es.map λp=>(p.1,.c p.2,0))
 |.mp b => match σ[b]? with
  |some (.map es _)=>some es
  |_=>none
 |_=>none
def Dr(zero:D):Option (Nat×D)->D×Bool
 |some (_,d)=>(d,true)
 |none=>(zero,false)
def wi(i:Int)(n:Nat):Option Nat:=if 0<=i/\i<n then some i.toNat else none
def Iq(i:Int)(n:Nat):Option Nat:=if 0<=i/\i<=n then some i.toNat else none
def kI(env:List D)(b d:Nat):Option ay->Option Nat
 |none=>some b
 |some x=>(oF (x.ev env)).bind λi=>Iq i d
def zn(n b:Nat):Bool:=(n * b<=2 ^ 40&&n<=2 ^ 40)&&b<=2 ^ 20
def aI(P:Program)(orc:qB)(o:iA)(env:List D)(σ:aa):Option (D×aa×List Nat):=
 match o with
 |.uV x=>some (x.ev env,σ,[])
 |.pick c a b=>(fD (c.ev env)).map λt=>(if t then a.ev env else b.ev env,σ,[])
 |.gen op ty=>(kl P op ty env).map λd=>(d,σ,[])
 |.box x=>((x.ev env).cells?).map λp=>(.ptr σ.length 0 p.length,σ++[.cells p],[])
 |.alloc z=>some (.ptr σ.length 0 z.length,σ++[.cells z],[])
 |.build z F=>(lL env z F).map λp=>(.agg p,σ,[])
 |.fZ ai len z F=>(lL env (oH len z) F).map λp=>(.sl σ.length 0 len ai p.length,σ++[.cells p],[])
 |.load n a=>
  match a.ev env with
  |.ptr b off sz=>do some (<-oW n (<-jZ σ b sz) off,σ,[])
  |.c (.bE p off)=>do some (<-oW n (p.map .c) off,σ,[])
  |_=>none
 |.store n a x=>
  match a.ev env with
  |.ptr b off sz => do
   let p <-jZ σ b sz
   let xs <-(x.ev env).cells?
   if xs.length=n/\off+n<=sz then some (.aB [],σ.set b (.cells (put p off xs)),[b]) else none
  |_=>none
 |.jH x=>
  match x.ev env with
  |.ptr b off sz=>some (.ptr b off sz,σ,[])
  |.c (.bE p off)=>some (.c (.bE p off),σ,[])
  |.c (.fn (.func f) first cap)=>some (.c (.fn (.func f) first cap),σ,[])
  |.fn (.func f) first cap=>some (.fn (.func f) first cap,σ,[])
  |_=>none
 |.fS k G x=>(isNil k (x.ev env)).map λb=>(.c (.lit (.bool (if G then !b else b))),σ,[])
 |.Aw off x=>
  match x.ev env with
  |.ptr b o sz=>some (.ptr b (o+off) sz,σ,[])
  |.c (.bE p o)=>some (.c (.bE p (o+off)),σ,[])
  |_=>none
 |.idx ai none x i => do
  let i <-oF (i.ev env)
  match x.ev env with
  |.sl b off len j sz => do
   let _ <-jZ σ b sz
   let k <-wi i len
   if j=ai then some (.ptr b (off+k * ai) sz,σ,[]) else none
  |.c (.bG _ j) => do
   let k <-wi i j.length
   let e <-j[k]?
   if e.length=ai then some (.c (.bE e 0),σ,[]) else none
  |_=>none
 |.idx ai (some len) x i => do
  let i <-oF (i.ev env)
  let k <-wi i len
  match x.ev env with
  |.ptr b off sz=>some (.ptr b (off+k * ai) sz,σ,[])
  |.c (.bE p off)=>some (.c (.bE p (off+k * ai)),σ,[])
  |.c (.Ml g) => match Gl.VA g with
   |[]=>none
   |v::N=>some (.c (.bE ((v::N).map .lit) (k * ai)),σ,[])
  |_=>none
 |.Mp ai x E y=>
  match x.ev env with
  |.c (.lit (.slice none 0 0)) => do
   let h <-kI env 0 0 y
   let _ <-kI env 0 h E
   some (.c (.lit (.slice none 0 0)),σ,[])
  |.c (.bG nn j) => do
   let h <-kI env j.length j.length y
   let l <-kI env 0 h E
   if j.all (λe=>e.length=ai) then some (.c (.bG nn ((j.take h).drop l)),σ,[]) else none
  |.sl b off len j sz => do
   let _ <-jZ σ b sz
   let h <-(kI env len len y).orElse λ_=>kI env len ((sz-off) / j) y
   let l <-kI env 0 h E
   if j=ai then some (.sl b (off+l * ai) (h-l) ai sz,σ,[]) else none
  |_=>none
 |.len x=>(AV σ (x.ev env)).map λ(n:Nat)=>(.c (.lit (.int .i64 (Int.ofNat n))),σ,[])
 |.Nd x=>(AK σ (x.ev env)).map λj=>(.c (.lit (.int .i64 (Int.ofNat j.length))),σ,[])
 |.mk ai q z l c => do
  let l <-oF (l.ev env)
  let c <-oF (c.ev env)
  if 0<=l/\l<=c/\zn c.toNat q then some (.sl σ.length 0 l.toNat ai (l.toNat * ai),σ++[.cells (oH l.toNat z)],[]) else none
 |.pP=>some (.mp σ.length,σ++[.map [] 0],[])
 |.lookup u zero m k ok => do
  let A <-fA (k.ev env)
  let j <-AK σ (m.ev env)
  let r <-mY u A j 0
  some (if ok then .aB [(Dr zero r).1,.c (.lit (.bool (Dr zero r).2))] else (Dr zero r).1,σ,[])
 |.rK u m k x => do
  let A <-fA (k.ev env)
  match m.ev env with
  |.mp b => match σ[b]? with
   |some (.map j clock) => do
    match <-mY u A j 0 with
    |some (i,_)=>some (.aB [],σ.set b (.map (j.modify i λ(k,_,n)=>(k,x.ev env,n)) clock),[b])
    |none=>some (.aB [],σ.set b (.map (j++[(A,x.ev env,clock)]) (clock+1)),[b])
   |_=>none
  |_=>none
 |.del u m k => do
  let A <-fA (k.ev env)
  match m.ev env with
  |.mp b => match σ[b]? with
   |some (.map j clock) => do
    match <-mY u A j 0 with
    |some (i,_)=>some (.aB [],σ.set b (.map (jQ 0 (j.eraseIdx i)) (clock-1)),[b])
    |none=>some (.aB [],σ.set b (.map j clock),[b])
   |_=>none
  |_=>none
 |.extract x i=>
  match x.ev env with
  |.aB ds=>(ds[i]?).map λd=>(d,σ,[])
  |_=>none
 |.yD f first cap=>some (.fn f (first.map (ay.ev env)) (cap.map (ay.ev env)),σ,[])
 |.part off n x=>
  match x.ev env with
  |.agg p=>(oW n p off).map λd=>(d,σ,[])
  |_=>none
 |.wx ai len n x i => do
  let i <-oF (i.ev env)
  let k <-wi i len
  match x.ev env with
  |.agg p=>(oW n p (k * ai)).map λd=>(d,σ,[])
  |_=>none
 |.append ai q s x => do
  let K:=x.ev env
  let n <-AV σ K
  let new <-Nc σ ai n K
  match s.ev env with
  |.c (.lit (.slice none 0 0))=>if zn n q then some (.sl σ.length 0 n ai (n * ai),σ++[.cells new],[]) else none
  |.sl b off len j sz => do
   let p <-jZ σ b sz
   if j=ai/\off=0/\len * ai=sz/\zn (len+n) q then
    if n=0 then some (.sl b 0 len ai sz,σ,[b])
    else some (.sl b 0 (len+n) ai (sz+n * ai),σ.set b (.cells (p++new)),[b])
   else if j=ai/\off=0/\(len+n) * ai<=sz/\zn (len+n) q then
    if n=0 then some (.sl b 0 len ai sz,σ,[b])
    else some (.sl b 0 (len+n) ai sz,σ.set b (.cells (put p (len * ai) new)),[b])
   else none
  |_=>none
 |.yf m x=>
  match x.ev env with
  |.c (.bE p off)=>if off+m<=p.length then some (.c (.bG false (((p.drop off).take m).map λc=>[c])),σ,[]) else none
  |_=>none
 |.Lj ai x E y O=>
  match x.ev env with
  |.sl b _ len j sz => do
   let _ <-jZ σ b sz
   let m <-(oF (O.ev env)).bind λi=>Iq i len
   let h <-(oF (y.ev env)).bind λi=>Iq i len
   let _ <-(oF (E.ev env)).bind λi=>Iq i h
   if m=len/\j=ai then some (.any,σ,[]) else none
  |_=>none
 |.Zw ai z x=>
  match x.ev env with
  |.sl b off len j sz => do
   let p <-jZ σ b sz
   if j=ai/\off+len * ai<=sz/\z.length=ai then some (.aB [],σ.set b (.cells (put p off (oH len z))),[b]) else none
  |_=>none
 |.copy ai d s => do
  let L:=s.ev env
  match d.ev env with
  |.sl b off len j sz => do
   let p <-jZ σ b sz
   let n <-(AV σ L).map λm=>min m len
   let new <-Nc σ ai n L
   if j=ai/\off+len * ai<=sz then some (.c (.lit (.int .i64 n)),σ.set b (.cells (put p off new)),[b]) else none
  |_=>none
 |.call f args=>
  match f.ev env with
  |.c (.fn (.func g) first cap)=>orc g (first.map .c++args.map (ay.ev env)++cap.map .c) σ
  |.fn (.func g) first cap=>orc g (first++args.map (ay.ev env)++cap) σ
  |_=>none
end Go.Abs
end
section
namespace Go.Abs
variable[Gl]
section
variable{σ σ':aa}{M M':Nat->Option Nat}{Fz Fz':Nat->Prop}{w w':World}
theorem Rel.lt(R:Rel σ M Fz w){b c:Nat}(h:M b=some c):b<σ.length/\c<w.heap.size:=by
 obtain ⟨_,i,o,j,s,_⟩:=R.blk b c h
 grind
theorem VC.heap(i:w'.heap=w.heap){x:C}{v:Value}(h:VC Fz w x v):VC Fz w' x v:=h.mono λc j=>⟨j,by rw[i]⟩
theorem aW.heap(R:Rel σ M Fz w)(j:w'.heap=w.heap)(o:w'.os=w.os/\w'.tape=w.tape/\w'.output=w.output):aW σ M Fz w σ M Fz w':={
 size:=by simp_all
 frame:=λ_ _ _=>by rw[j]
 hY:=λb c h=>.inl ⟨b,h⟩
 fz:=λc h=>⟨h,by rw[j]⟩
 jj:=λc h=>.inl h
 lm:=λc i T u h=>⟨i,by simp_all,rfl⟩
 bX:=λb s h=>⟨s,h,bQ _,λ_=>rfl⟩
 out:=o }
theorem Rel.heap(R:Rel σ M Fz w)(i:w'.heap=w.heap)(j:w'.os=w.os/\w'.tape=w.tape/\w'.output=w.output):Rel σ M Fz w':={
 blk:=λb c h=>by obtain ⟨s,ob,o,h1,h2,u⟩:=R.blk b c h;exact ⟨s,ob,o,h1,by simp_all,u.mono (aW.heap R i j)⟩
 inj:=R.inj
 fz:=λc h=>by rw[i];exact R.fz c h
 gl:=Gl.mono (aW.heap R i j).fz R.gl }
def rS(M:Nat->Option Nat)(b c:Nat):Nat->Option Nat:=λx=>if x=b then some c else M x
theorem aW.alloc(i:∀c,Fz c->c<w.heap.size)(ob:Ob)(o:Obj):aW σ M Fz w (σ++[ob]) (rS M σ.length w.heap.size) Fz (w.alloc o):={
 size:=by simp
 frame:=λc u _=>Yj w o c u
 hY:=λb c h=>by grind [rS]
 fz:=λc h=>⟨h,Yj w o c (i c h)⟩
 jj:=λc h=>.inl h
 lm:=λc j T x h=>⟨j,by grind [Go.heap_alloc_old],rfl⟩
 bX:=λb s h=>by
  have z:=(dT.1 h).1;refine ⟨s,by grind,bQ _,λ_=>?_⟩;unfold rS
  grind
 out:=⟨rfl,rfl,rfl⟩ }
theorem Rel.alloc(R:Rel σ M Fz w)(ob:Ob)(o:Obj)(h:bb (σ++[ob]) (rS M σ.length w.heap.size) Fz (w.alloc o) ob o) :
  Rel (σ++[ob]) (rS M σ.length w.heap.size) Fz (w.alloc o):={
 blk:=λb c i=>by
  unfold rS at i;split at i
  ·rename_i x;subst x;simp only[ab] at i;subst i;exact ⟨λs=>by have:=R.fz _ s;omega,ob,o,by simp,heap_alloc_new w o,h⟩
  ·obtain ⟨s,u,z,h1,h2,A⟩:=R.blk b c i;have F:=R.lt i;exact ⟨s,u,z,by grind,by grind [Go.heap_alloc_old],A.mono (aW.alloc R.fz ob o)⟩
 inj:=λb E c h j=>by
  unfold rS at h j;split at h <;> split at j
  ·omega
  ·simp only[ab] at h;have:=(R.lt j).2;omega
  ·simp only[ab] at j;have:=(R.lt h).2;omega
  ·exact R.inj b E c h j
 fz:=λc h=>by have:=R.fz c h;simp;omega
 gl:=Gl.mono (aW.alloc (σ:=σ) (M:=M) R.fz ob o).fz R.gl }
def ew(w:World)(c:Nat)(o:Obj):World:={ w with heap:=w.heap.setIfInBounds c o }
theorem lR{c:Nat}{o:Obj}(h:c<w.heap.size):(ew w c o).heap[c]? = some o:=by simp[ew,h]
theorem mQ{c k:Nat}{o:Obj}(h:k≠c):(ew w c o).heap[k]? = w.heap[k]?:=by grind [ew]
@[simp] theorem Yl{c:Nat}{o:Obj}:(ew w c o).heap.size=w.heap.size:=by simp[ew]
theorem aW.rK(R:Rel σ M Fz w){b c:Nat}(x:M b=some c){ob ob':Ob}{o o':Obj}(A:σ[b]? = some ob)(E:w.heap[c]? = some o)(hs:ob.sz<=ob'.sz)
  (s:∀arr T j,o=.cells arr T j->∃i,o'=.cells i T j/\i.size=arr.size):aW σ M Fz w (σ.set b ob') M Fz (ew w c o'):={
 size:=by simp
 frame:=λk hk z=>mQ (λh=>z b (by grind))
 hY:=λb c h=>.inl ⟨b,h⟩
 fz:=λk h=>⟨h,mQ (λe=>(R.blk b c x).1 (e▸h))⟩
 jj:=λc h=>.inl h
 lm:=λk arr T j h=>by grind [lR,mQ]
 bX:=λk u h=>by grind
 out:=⟨rfl,rfl,rfl⟩ }
theorem Rel.rK(R:Rel σ M Fz w){b c:Nat}(s:M b=some c){ob ob':Ob}{o o':Obj}(z:σ[b]? = some ob)(A:w.heap[c]? = some o)(hs:ob.sz<=ob'.sz)
  (i:∀arr T E,o=.cells arr T E->∃j,o'=.cells j T E/\j.size=arr.size)
  (h:bb (σ.set b ob') M Fz (ew w c o') ob' o'):Rel (σ.set b ob') M Fz (ew w c o'):={
 blk:=λu c1 F=>by
  obtain ⟨G,x,K,h2,h3,L⟩:=R.blk u c1 F;by_cases e:u=b
  ·subst e;have:c1=c:=by simp_all
   grind [lR]
  ·refine ⟨G,x,K,by grind,?_,L.mono (aW.rK R s z A hs i)⟩;rw[mQ (λO:c1=c=>e (R.inj u b c (by simp_all) s))];exact h3
 inj:=R.inj
 fz:=λc h=>by simp;exact R.fz c h
 gl:=Gl.mono (aW.rK R s z A hs i).fz R.gl }
theorem aW.move(R:Rel σ M Fz w){b:Nat}{ob ob':Ob}{o':Obj}(s:σ[b]? = some ob)(hs:ob.sz<ob'.sz) :
  aW σ M Fz w (σ.set b ob') (rS M b w.heap.size) Fz (w.alloc o'):={
 size:=by simp
 frame:=λc o _=>Yj w o' c o
 hY:=λb c h=>by grind [rS]
 fz:=λc h=>⟨h,Yj w o' c (R.fz c h)⟩
 jj:=λc h=>.inl h
 lm:=λc j T u h=>⟨j,by grind [Go.heap_alloc_old],rfl⟩
 bX:=λk i h=>by
  by_cases e:k=b
  ·grind
  ·refine ⟨i,by grind,bQ _,λ_=>?_⟩;unfold rS
   simp_all
 out:=⟨rfl,rfl,rfl⟩ }
theorem Rel.move(R:Rel σ M Fz w){b:Nat}{ob ob':Ob}{o':Obj}(u:σ[b]? = some ob)(hs:ob.sz<ob'.sz)
  (h:bb (σ.set b ob') (rS M b w.heap.size) Fz (w.alloc o') ob' o'):Rel (σ.set b ob') (rS M b w.heap.size) Fz (w.alloc o'):={
 blk:=λj c1 i=>by
  unfold rS at i;split at i
  ·rename_i e;subst e;simp only[ab] at i;subst i;exact ⟨λo=>by have:=R.fz _ o;omega,ob',o',by grind,heap_alloc_new w o',h⟩
  ·rename_i e;obtain ⟨o,s,x,h2,h3,z⟩:=R.blk j c1 i;exact ⟨o,s,x,by grind,by grind [Go.heap_alloc_old],z.mono (aW.move R u hs)⟩
 inj:=λj A c i h2=>by
  unfold rS at i h2;split at i <;> split at h2
  ·omega
  ·simp only[ab] at i;have:=(R.lt h2).2;omega
  ·simp only[ab] at h2;have:=(R.lt i).2;omega
  ·exact R.inj j A c i h2
 fz:=λc h=>by have:=R.fz c h;simp;omega
 gl:=Gl.mono (aW.move (o':=o') R u hs).fz R.gl }
def fH(arr:Array Value)(off:Nat)(xs:List Value):Array Value:=(arr.toList.take off++xs++arr.toList.drop (off+xs.length)).toArray
theorem f_{arr:Array Value}{off:Nat}{xs:List Value}(h:off+xs.length<=arr.size):(fH arr off xs).size=arr.size:=by grind [fH]
theorem vl{arr:Array Value}{off:Nat}{x:Value}{xs:List Value}(h:off+(xs.length+1)<=arr.size) :
  fH (arr.setIfInBounds off x) (off+1) xs=fH arr off (x::xs):=by
 apply Array.ext';simp only[fH,Array.toList_setIfInBounds,List.length_cons];apply L_;intro i;have b:arr.toList.length=arr.size:=by simp
 simp only[VK,vU,zp,Vn,b,List.length_cons]
 grind
theorem cH{arr:Array Value}{off:Nat}{xs:List Value}(h:off+xs.length<=arr.size)(i:Nat) :
  (fH arr off xs)[i]? = if off<=i/\i<off+xs.length then xs[i-off]? else arr[i]?:=by
 have b:arr.toList.length=arr.size:=by simp
 simp only[fH,List.getElem?_toArray,VK,vU,zp,b]
 grind
theorem ft{cs xs:List D}{off:Nat}(h:off+xs.length<=cs.length)(i:Nat) :
  (put cs off xs)[i]? = if off<=i/\i<off+xs.length then xs[i-off]? else cs[i]?:=by
 simp only[put,VK,vU,zp]
 grind
theorem Ud{cs xs:List D}{off:Nat}(h:off+xs.length<=cs.length):(put cs off xs).length=cs.length:=by grind [put]
theorem dg(blk o i:Nat):(Addr.mk blk o none).add i=⟨blk,o+i,none⟩:=by grind [Go.Addr.add]
theorem BK{c off:Nat}{arr:Array Value}{T:TypeId}{v:Value}(h:w.heap[c]? = some (.cells arr T (0,0))) :
  w.setCell ⟨c,off,none⟩ v=ew w c (.cells (arr.setIfInBounds off v) T (0,0)):=by
 unfold World.setCell ew;congr 1
 grind
theorem Kv{c:Nat}{o o':Obj}:ew (ew w c o) c o'=ew w c o':=by simp[ew]
theorem pB(P:Program)(T:TypeId)(c:Nat):∀(xs:List Value)(i off:Nat)(w:World)(arr:Array Value),
  w.heap[c]? = some (.cells arr T (0,0))->(∀x∈xs,x.oneCell'=true)->off+i+xs.length<=arr.size ->
  (storeCells ⟨c,off,none⟩ xs i).run P w=.ok () (if xs=[] then w else ew w c (.cells (fH arr (off+i) xs) T (0,0))):=by
 intro xs;induction xs with
 |nil=>intro i off w arr _ _ _;simp[storeCells]
 |cons x xs ih=>
  intro i off w arr d f h;simp only[List.length_cons] at h;have e:=(CS.1 d).1;have b:w.cell? ⟨c,off+i,none⟩=some (arr[off+i]'(by omega)):=by
   rw[cell_of_row w c (off+i) arr T (0,0) d]
   simp_all
  simp only[storeCells,Sem.run_bind,dg];rw[run_store P w _ x _ (f x (by simp)),b];simp only[frozen_of_row w c (off+i) arr T d,aV,bm,Result.andThen_ok];rw[BK d];have j:=ih (i+1) off (ew w c (.cells (arr.setIfInBounds (off+i) x) T (0,0))) (arr.setIfInBounds (off+i) x) (lR e)
   (λy k=>f y (by simp[k])) (by grind)
  rw[j];simp only[List.cons_ne_nil,bm,reduceCtorEq];congr 1;by_cases g:xs=[]
  ·subst g;simp only[if_true];rw[<-vl (by omega)];congr 2;apply Array.ext';simp[fH]
  ·rw[if_neg g,Kv,<-vl (by omega)];rfl
end
end Go.Abs
end
section
namespace Go.Abs
variable[Gl]
def cf(σ:aa)(M:Nat->Option Nat)(Fz:Nat->Prop)(w:World)(env:List D)(b:Array Value):Prop:=
 b.size=env.length/\∀(i:Nat) d v,env[i]? = some d->b[i]? = some v->V σ M Fz w d v
def cz(P:Program)(s:Sem Next)(σ:aa)(M:Nat->Option Nat)(Fz:Nat->Prop)(w:World)(σ':aa)(d:D):Prop:=
 ∃b v w' M',s.run P w=.ok b w'/\(b=.value v∨b=.skip/\v=undef)/\Rel σ' M' Fz w'/\V σ' M' Fz w' d v/\aW σ M Fz w σ' M' Fz w'/\σ.length<=σ'.length
section
variable{P:Program}{σ σ':aa}{M M':Nat->Option Nat}{Fz:Nat->Prop}{w w':World}{env:List D}{a:Act}
theorem cz.same{s:Sem Next}{v:Value}{d:D}(R:Rel σ M Fz w)(i:s.run P w=.ok (.value v) w)(j:V σ M Fz w d v):cz P s σ M Fz w σ d:=
 ⟨_,v,w,M,i,.inl rfl,R,j,aW.refl R,bQ _⟩
def Yields(P:Program)(s:Sem Next)(σ:aa)(M:Nat->Option Nat)(Fz:Nat->Prop)(w:World)(d:D):Prop:=∃v,s.run P w=.ok (.value v) w/\V σ M Fz w d v
def aj(P:Program)(s:Sem Next)(σ:aa)(M:Nat->Option Nat)(Fz:Nat->Prop)(w:World)(ob:Ob)(d:D):Prop:=
 ∃o v,s.run P w=.ok (.value v) (w.alloc o)/\bb (σ++[ob]) (rS M σ.length w.heap.size) Fz (w.alloc o) ob o/\V (σ++[ob]) (rS M σ.length w.heap.size) Fz (w.alloc o) d v
theorem Yields.same{s:Sem Next}{v:Value}{d:D}(i:s.run P w=.ok (.value v) w)(j:V σ M Fz w d v):Yields P s σ M Fz w d:=⟨v,i,j⟩
theorem Yields.gives{s:Sem Next}{d:D}(R:Rel σ M Fz w)(h:Yields P s σ M Fz w d):cz P s σ M Fz w σ d:=
 let ⟨_,i,j⟩:=h;cz.same R i j
theorem aj.gives{s:Sem Next}{d:D}{ob:Ob}(R:Rel σ M Fz w)(h:aj P s σ M Fz w ob d):cz P s σ M Fz w (σ++[ob]) d:=
 let ⟨o,v,i,j,u⟩:=h;⟨_,v,_,_,i,.inl rfl,R.alloc ob o j,u,aW.alloc R.fz ob o,by simp⟩
theorem V.cp (v:Value):V σ M Fz w (cp v) v:=by
  cases v <;> first
    | exact .c (.lit _)
    | (refine .agg _ (by simp) (fun i d v j o=>?_)
       simp only [gT,Gq,o,Option.map_some,ab] at j
       subst j
       exact .c (.lit _))
    | (refine .aB _ (by simp) (fun i d v j o=>?_)
       simp only [gT,Gq,o,Option.map_some,ab] at j
       subst j
       exact .c (.lit _))
theorem jc(E:cf σ M Fz w env a.tmps){x:Operand}{o:ay}(h:ba x=some o):V σ M Fz w (o.ev env) (a.eval x):=by
 cases x with
 |tmp t=>
  simp only[ba,ab] at h;subst h;simp only[ay.ev,Act.eval];by_cases e:t<env.length
  ·have j:env[t]? = some env[t]:=cE e;have k:a.tmps[t]? = some (a.tmps[t]'(by rw[E.1];exact e)):=nE _;rw[j,Option.getD_some,Up,k,Option.getD_some];exact E.2 t _ _ j k
  ·have b:env.length<=t:=Nat.le_of_not_lt e;rw[xAe b,Up,Array.getElem?_eq_none (by rw[E.1];exact b)];exact .aB #[] rfl (λi d v h=>by simp at h)
 |const v=>simp only[ba,ab] at h;subst h;exact V.cp v
 |global g=>simp only[ba,ab] at h;subst h;exact .c (.Ml g)
 |func f=>simp only[ba,ab] at h;subst h;exact .c (.fn #[] #[] rfl rfl (λi d v h=>by simp at h) (λi d v h=>by simp at h))
theorem V.bx{v i:Value}(h:V σ M Fz w (.c (.lit v)) i):i=v:=by
 cases h with
 |c h=>cases h;rfl
theorem HB{ds:List D}{l:List Value}(h:ds.mapM fA=some l):ds.length=l.length/\∀(i:Nat) d,ds[i]? = some d->∃v,l[i]? = some v/\d=.c (.lit v):=by
 induction ds generalizing l with
 |nil=>simp_all
 |cons d ds ih=>
  simp only[Lm,Option.pure_def,Option.bind_eq_bind,bC,ab] at h;obtain ⟨v,b,g,e,rfl⟩:=h;obtain ⟨f,j⟩:=ih e;refine ⟨by simp[f],λi k hd=>?_⟩;cases i with
  |zero=>
   simp only[List.getElem?_cons_zero,ab] at hd;subst hd;cases d with
   |c x=>cases x <;> simp[fA] at b;simp_all
   |_=>grind [fA]
  |succ i=>simp_all
theorem V.SY{d:D}{v s:Value}(h:V σ M Fz w d s)(j:d.bO = some v):s=v:=by
 cases d with
 |c x=>cases x <;> simp[D.bO] at j;grind [V.bx]
 |agg ds=>
  simp only[D.bO,bq] at j;obtain ⟨l,G,rfl⟩:=j;obtain ⟨O,K⟩:=HB G;cases h with
  |agg z hs o=>
   congr 1;apply Array.ext';apply L_;intro i;simp only[Gq];by_cases L:i<ds.length
   ·have A:ds[i]? = some ds[i]:=cE L;have E:z[i]? = some (z[i]'(by omega)):=nE _;obtain ⟨u,Q,hd⟩:=K i _ A;have F:=o i _ _ A E;rw[hd] at F;rw[E,F.bx]
    simp_all
   simp_all
 |_=>grind [D.bO]
theorem Od(E:cf σ M Fz w env a.tmps){o:Oper}{x:Operand}{d:ay}(b:o.op=.move x∨o.op=.assign x)(e:ba x=some d) :
  Yields P (execOp a.eval o) σ M Fz w (d.ev env):=by
 refine Yields.same (v:=a.eval x) ?_ (jc E e);rcases b with b | b <;> simp[execOp,b]
theorem kG{d:D}{v:Value}{t:Bool}(h:V σ M Fz w d v)(b:fD d=some t):v=.bool t:=by
 cases d with
 |c x=>
  cases x with
  |lit u=>
   cases u <;> simp[fD] at b
   grind [V.bx]
  |_=>grind [fD]
 |_=>grind [fD]
theorem gq{d:D}{v:Value}{n:Int}(h:V σ M Fz w d v)(b:oF d=some n):∃k,v=.int k n:=by
 cases d with
 |c x=>
  cases x with
  |lit u=>
   cases u <;> simp[oF] at b
   grind [V.bx]
  |_=>grind [oF]
 |_=>grind [oF]
theorem UB(E:cf σ M Fz w env a.tmps){o:Oper}{c x y:Operand}{b d e:ay}{t:Bool}(f:o.op=.pick c x y)
  (g:ba c=some b) (i:ba x=some d) (j:ba y=some e) (h:fD (b.ev env)=some t) :
  Yields P (execOp a.eval o) σ M Fz w (if t then d.ev env else e.ev env):=by
 refine Yields.same (v:=if t then a.eval x else a.eval y) ?_ ?_
 ·simp[execOp,f,kG (jc E g) h,asBool]
 grind [jc]
theorem ig(E:cf σ M Fz w env a.tmps){o:Oper}{d:D}(e:∀cs b,o.op≠.select cs b)(h:kl P o.op o.type env=some d) :
  Yields P (execOp a.eval o) σ M Fz w d:=by
 unfold kl at h;split at h
 ·rename_i f;generalize j:(λx=>((((ba x).map (ay.ev env)).bind D.bO).getD undef))=ρ at h;have k:execOp a.eval o=execOp ρ o:=by
   refine execOp_congr o e (λx n=>?_);have g:=(eG.1 f) x (by simp_all);rw[<-j];cases i:ba x with
   |none=>simp_all
   |some p=>simp only[i,Option.map_some,Option.bind_some] at g ⊢;obtain ⟨v,m⟩:=VO.1 g;rw[m,Option.getD_some];exact (jc E i).SY m
  have l:execOp ρ o=execOp ρ { dst:=none,op:=o.op,type:=o.type,pos:="",after:=#[],guard:=none }:=rfl
  grind [Yields.same,V.cp,HK]
 simp_all
theorem V.one{d:D}{v:Value}(h:V σ M Fz w d v)(hs:d.scalar=true):v.oneCell'=true/\v.cells=#[v]:=by
 cases h with
 |c h=>
  cases h with
  |lit v=>simp only[D.scalar] at hs;cases v <;> first | exact ⟨rfl,rfl⟩ | simp[Value.oneCell'] at hs
  |_=>exact ⟨rfl,rfl⟩
 |any v=>grind [D.scalar]
 |agg=>grind [D.scalar]
 |aB=>grind [D.scalar]
 |_=>exact ⟨rfl,rfl⟩
theorem V.cells{d:D}{v:Value}{cs:List D}(h:V σ M Fz w d v)(j:d.cells? = some cs) :
  v.cells.size=cs.length/\(∀(i:Nat) x u,cs[i]? = some x->v.cells[i]? = some u->V σ M Fz w x u)/\(∀u∈v.cells.toList,u.oneCell'=true)/\(∀x∈cs,x.scalar=true):=by
 have s:d.scalar=true->d.cells? = some [d]->v.cells.size=cs.length/\(∀(i:Nat) x u,cs[i]? = some x->v.cells[i]? = some u->V σ M Fz w x u)/\(∀u∈v.cells.toList,u.oneCell'=true)/\(∀x∈cs,x.scalar=true):=by
  intro hs z;rw[z] at j;simp only[ab] at j;subst j;obtain ⟨Q,R⟩:=h.one hs
  grind
 cases d with
 |agg ds=>
  simp only[D.cells?] at j;split at j
  ·rename_i o;simp only[ab] at j;subst j;cases h with
   |agg A z E=>refine ⟨z,E,λu F=>?_,λx G=>eG.1 o x G⟩;obtain ⟨i,K,rfl⟩:=List.mem_iff_getElem.1 F;simp only[Value.cells,Array.length_toList] at K;have L:ds[i]? = some (ds[i]'(by omega)):=cE _;have O:A[i]? = some A[i]:=nE _;exact ((E i _ _ L O).one (eG.1 o _ (bZ _))).1
  simp_all
 |_=>
  simp only[D.cells?] at j;split at j
  ·rename_i hs;exact s hs (by simp only[D.cells?,hs,if_true])
  simp_all
theorem sW{arr:Array Value}{i:Nat}{u:Value}(h:arr[i]? = some u):u∈arr.toList:=by grind
theorem lX (b:∀c,Fz c→c<w.heap.size) {cs:List D} {arr:Array Value} (T:TypeId) (hs:cs.length≤arr.size)
  (e:∀(i:Nat) x u,cs[i]? = some x→arr[i]? = some u→V σ M Fz w x u∧u.oneCell'=true) :
  (newRow T arr).run P w=.ok ⟨w.heap.size,0,none⟩ (w.alloc (.cells arr T)) ∧
   bb (σ++[.cells cs]) (rS M σ.length w.heap.size) Fz (w.alloc (.cells arr T)) (.cells cs) (.cells arr T):=
 ⟨rfl,arr,T,rfl,hs,fun i d v f g=>⟨(e i d v f g).1.mono (aW.alloc b _ _),(e i d v f g).2⟩⟩
theorem V.Nn(cs:List D)(o:Obj):V (σ++[.cells cs]) (rS M σ.length w.heap.size) Fz (w.alloc o) (.ptr σ.length 0 cs.length) (.pointer (some ⟨w.heap.size,0,none⟩)):=
 .ptr _ (.cells cs) (by simp) (by simp[Ob.sz]) (λ_=>⟨w.heap.size,by simp[rS],rfl⟩)
theorem WU(b:∀c,Fz c->c<w.heap.size)(E:cf σ M Fz w env a.tmps){o:Oper}{t:TypeId}{x:Operand}{e:ay}{cs:List D}(g:o.op=.box t x)(d:ba x=some e)
  (h:(e.ev env).cells? = some cs):aj P (execOp a.eval o) σ M Fz w (.cells cs) (.ptr σ.length 0 cs.length):=by
 obtain ⟨n,j,k,_⟩:=(jc E d).cells h;obtain ⟨l,m⟩:=lX (P:=P) b t (by omega) (λi x u d f=>⟨j i x u d f,k u (sW f)⟩);exact ⟨_,_,by simp[execOp,g,Instr.box,newVar,l],m,V.Nn cs _⟩
theorem XW{t:TypeId}{z:List D}(h:Iu P t=some z):∃i v,P.info? t=some i/\i.zero=some v/\(cp v).cells? = some z:=by grind [Iu,zeroOf,Option.bind_eq_some_iff]
theorem UU{t:TypeId}{i:TypeInfo}(h:P.info? t=some i)(w:World):(typeInfo t).run P w=.ok i w:=by simp[typeInfo,h]
theorem eQ{t:TypeId}{i:TypeInfo}{v:Value}(h:P.info? t=some i)(b:i.zero=some v)(w:World):(zeroValue t).run P w=.ok v w:=by simp[zeroValue,UU h,b]
theorem HX{t:TypeId}{n:Nat}(h:aQ P t=some n)(w:World):(sizeOf t).run P w=.ok n w:=by simp only[aQ,bq] at h;obtain ⟨i,b,rfl⟩:=h;simp[sizeOf,UU b]
theorem me{t:TypeId}{d:TypeDesc}(h:P.underlying t=some d)(w:World):(underlying t).run P w=.ok d w:=by simp[underlying,h]
theorem MY(b:∀c,Fz c->c<w.heap.size){o:Oper}{t:TypeId}{z:List D}(e:o.op=.alloc t)(f:Iu P t=some z) :
  aj P (execOp a.eval o) σ M Fz w (.cells z) (.ptr σ.length 0 z.length):=by
 obtain ⟨i,v,g,h,j⟩:=XW f;obtain ⟨q,k,l,_⟩:=(V.cp (σ:=σ) (M:=M) (Fz:=Fz) (w:=w) v).cells j;obtain ⟨m,n⟩:=lX (P:=P) b t (by omega) (λi x u p d=>⟨k i x u p d,l u (sW d)⟩);exact ⟨_,_,by simp[execOp,e,Instr.alloc,eQ g h,newVar,m],n,V.Nn z _⟩
theorem FV{b sz:Nat}{cs:List D}(h:jZ σ b sz=some cs):σ[b]? = some (.cells cs)/\cs.length=sz:=by grind [jZ]
theorem V.qG{b off sz:Nat}{v:Value}{cs:List D}(h:V σ M Fz w (.ptr b off sz) v)(j:jZ σ b sz=some cs):∃c,M b=some c/\v=.pointer (some ⟨c,off,none⟩):=by
 obtain ⟨o,s⟩:=FV j;cases h with
 |ptr z A i u x=>
  rw[o] at i;simp only[ab] at i;subst i;obtain ⟨c,E,F⟩:=x s
  simp_all
theorem Rel.row(R:Rel σ M Fz w){b c:Nat}{cs:List D}(s:M b=some c)(u:σ[b]? = some (.cells cs)) :
  ∃arr T,w.heap[c]? = some (.cells arr T (0,0))/\cs.length<=arr.size/\∀(i:Nat) d v,cs[i]? = some d->arr[i]? = some v->V σ M Fz w d v/\v.oneCell'=true:=by
 obtain ⟨_,z,o,j,A,x⟩:=R.blk b c s;rw[u] at j;simp only[ab] at j;subst j;obtain ⟨arr,T,rfl,E,F⟩:=x
 grind
theorem sH{t:TypeId}{n:Option Nat}{cs:List D}{blk g off:Nat}{d:D}(h:yF P t=some n)(k:oW n cs off=some d)
  (b:∀(i:Nat) x,cs[i]? = some x->∃u,w.cell? ⟨blk,g+i,none⟩=some u/\V σ M Fz w x u) :
  ∃v,(loadVar t ⟨blk,g+off,none⟩).run P w=.ok v w/\V σ M Fz w d v:=by
 unfold yF at h;have agg:∀(i:TypeInfo),P.info? t=some i->n=some i.size->(isAgg t).run P w=.ok true w->∃v,(loadVar t ⟨blk,g+off,none⟩).run P w=.ok v w/\V σ M Fz w d v:=by
  intro i p h e;subst h;simp only[oW] at k;split at k
  ·rename_i y;simp only[ab] at k;subst k;have z:∀j,j<i.size->∃u,w.cell? ⟨blk,g+off+j,none⟩=some u/\∀x,cs[off+j]? = some x->V σ M Fz w x u:=by
    intro j E;obtain ⟨u,q,r⟩:=b (off+j) _ (cE (by omega))
    grind
   let f:Nat->Value:=λj=>(w.cell? ⟨blk,g+off+j,none⟩).getD undef
   have A:∀j,j<i.size->w.cell? ((Addr.mk blk (g+off) none).add j)=some (f j):=by grind [dg]
   have l:=run_loadCells (P:=P) (w:=w) ⟨blk,g+off,none⟩ i.size f A;refine ⟨.agg (List.map f (List.range i.size)).toArray,by simp only[loadVar,Sem.run_bind,e,Result.andThen_ok,if_true,sizeOf,UU p,Sem.run_pure,l],?_⟩;refine .agg _ (by grind) (λj x v q r=>?_)
   grind
  simp_all
 have one:n=none->(isAgg t).run P w=.ok false w->∃v,(loadVar t ⟨blk,g+off,none⟩).run P w=.ok v w/\V σ M Fz w d v:=by intro h e;subst h;obtain ⟨u,q,r⟩:=b off d k;exact ⟨u,by simp only[loadVar,Sem.run_bind,e,Result.andThen_ok,aV,bm,run_load,q],r⟩
 cases p:P.info? t with
 |none=>simp_all
 |some i=>
  cases s:P.underlying t with
  |none=>simp_all
  |some m=>
   rw[p,s] at h;have o:(isAgg t).run P w=.ok (m matches .struct _ | .array _ _) w:=by simp only[isAgg,Sem.run_bind,me s,Result.andThen_ok];cases m <;> rfl
   grind
theorem Sm (E:cf σ M Fz w env a.tmps) {o:Oper} {t:TypeId} {x:Operand} {q:ay} {n:Option Nat} {d:D} (A:o.op=.load t x) (L:ba x=some q)
  (F:yF P t=some n) (N:∀b off sz c cs,q.ev env=.ptr b off sz→M b=some c→σ[b]? = some (.cells cs)→∃arr T,w.heap[c]? = some (.cells arr T (0,0))∧cs.length≤arr.size∧∀(i:Nat) d v,cs[i]? = some d→arr[i]? = some v→V σ M Fz w d v∧v.oneCell'=true)
  (h:(match q.ev env with
   | .ptr b off sz=>do some (←oW n (←jZ σ b sz) off,σ,([]:List Nat))
   | .c (.bE cs off)=>do some (←oW n (cs.map .c) off,σ,[])
   | _=>none)=some (d,σ',[])):σ'=σ∧Yields P (execOp a.eval o) σ M Fz w d:=by
 have k:=jc E L
 split at h
 ·rename_i b off sz p
  rw [p] at k
  simp only [Option.bind_eq_bind,bC,ab,aC] at h
  obtain ⟨cs,G,O,r,rfl,rfl,_⟩:=h
  refine ⟨rfl,?_⟩
  obtain ⟨c,Q,l⟩:=k.qG G
  obtain ⟨R,_⟩:=FV G
  obtain ⟨arr,T,S,X,s⟩:=N b off sz c cs p Q R
  have f:∀(i:Nat) x,cs[i]? = some x→∃u,w.cell? ⟨c,0+i,none⟩=some u∧V σ M Fz w x u:=by
   intro i x j
   have Y:=(dT.1 j).1
   have e:arr[i]? = some (arr[i]'(by omega)):=nE _
   exact ⟨_,by rw [Dn,cell_of_row w c i arr T (0,0) S]; exact e,(s i _ _ j e).1⟩
  obtain ⟨v,g,m⟩:=sH (P:=P) F r f
  refine Yields.same (v:=v) ?_ m
  rw [Dn] at g
  simp [execOp,A,Instr.loadAt,l,Instr.sureAddr,g]
 ·rename_i cs off p
  rw [p] at k
  simp only [Option.bind_eq_bind,bC,ab,aC] at h
  obtain ⟨O,r,rfl,rfl,_⟩:=h
  refine ⟨rfl,?_⟩
  cases k with
  | c k =>
   generalize l:a.eval x=Z at k
   cases k with
   | bE blk U c hF W z =>
    have f:∀(i:Nat) x,(cs.map D.c)[i]? = some x→∃u,w.cell? ⟨blk,U+i,none⟩=some u∧V σ M Fz w x u:=by
     intro i x j
     simp only [gT,bq] at j
     obtain ⟨y,K,rfl⟩:=j
     exact ⟨_,(W i y K).1,.c (z i y K)⟩
    obtain ⟨v,g,m⟩:=sH (P:=P) F r f
    refine Yields.same (v:=v) ?_ m
    simp [execOp,A,Instr.loadAt,l,Instr.sureAddr,g]
 simp_all
end
end Go.Abs
end
section
namespace Go.Abs
variable[Gl]
section
variable{P:Program}{σ σ':aa}{M M':Nat->Option Nat}{Fz:Nat->Prop}{w w':World}{env:List D}{a:Act}
theorem xV(off:Nat):∀(l:List Value)(k:Nat)(arr:Array Value),off+k+l.length<=arr.size ->
  (l.zipIdx k).foldl (λcs (p:Value×Nat)=>cs.setIfInBounds (off+p.2) p.1) arr=fH arr (off+k) l:=by
 intro l;induction l with
 |nil=>intro k arr _;apply Array.ext';simp[fH]
 |cons x l ih=>grind [List.zipIdx_cons,vl]
def zr(σ:aa)(M:Nat->Option Nat)(Fz:Nat->Prop)(w:World)(cs:List D)(arr:Array Value):Prop:=
 arr.size=cs.length/\∀(i:Nat) x u,cs[i]? = some x->arr[i]? = some u->V σ M Fz w x u/\u.oneCell'=true
theorem zr.put{cs xs:List D}{arr:Array Value}{vs:List Value}{off:Nat}(h:zr σ M Fz w cs arr)(z:vs.length=xs.length)(s:off+xs.length<=cs.length)
  (E:∀(i:Nat) x u,xs[i]? = some x->vs[i]? = some u->V σ M Fz w x u/\u.oneCell'=true):zr σ M Fz w (put cs off xs) (fH arr off vs):=by
 refine ⟨by rw[f_ (by rw[h.1];omega),Ud s,h.1],λi x u j o=>?_⟩;rw[ft s] at j;rw[cH (by rw[h.1];omega),z] at o;split at j
 ·grind
 ·rename_i A;rw[if_neg A] at o;exact h.2 _ _ _ j o
theorem zr.mz{d:D}{v:Value}{cs:List D}(h:V σ M Fz w d v)(o:d.cells? = some cs):zr σ M Fz w cs v.cells:=by obtain ⟨s,z,A,_⟩:=h.cells o;exact ⟨s,λi x u E j=>⟨z i x u E j,A u (sW j)⟩⟩
theorem Ij(E:cf σ M Fz w env a.tmps)(pl:Nat->Option (Nat×Nat)):∀(ps:List (Nat×Operand))(k:List (Nat×Nat×ay))(cs e:List D)(arr:Array Value),
  (ps.mapM λ(i,x)=>(pl i).bind λ(o,n)=>(ba x).bind λz=>some (o,n,z))=some k->zr σ M Fz w cs arr->lL env cs k=some e ->
  ∃b,Instr.fill pl arr (ps.map λ(i,x)=>(i,a.eval x))=some b/\zr σ M Fz w e b:=by
 intro ps;induction ps with
 |nil=>intro k cs e arr h j g;simp only[List.mapM_nil,Option.pure_def,ab] at h;subst h;simp only[lL,ab] at g;subst g;exact ⟨arr,rfl,j⟩
 |cons p ps ih=>
  intro k cs e arr h j g;obtain ⟨i,x⟩:=p;simp only[Lm,Option.pure_def,Option.bind_eq_bind,bC,ab] at h;obtain ⟨q,⟨⟨o,n⟩,l,z,m,rfl⟩,r,s,rfl⟩:=h;simp only[lL,Option.bind_eq_bind,bC] at g;obtain ⟨K,t,g⟩:=g;split at g
  ·grind
  ·rename_i f;simp only[not_or,KM,Nat.not_lt] at f;obtain ⟨F,G⟩:=f;have d:=zr.mz (jc E m) t;obtain ⟨b,v,A⟩:=ih r _ e (fH arr o (a.eval x).cells.toList) s (j.put (by simp[d.1]) (by omega) (λi y u v A=>d.2 i y u v (by simp_all))) g;refine ⟨b,?_,A⟩;simp only[mb,Instr.fill,l];rw[if_neg (by simp[d.1,F,j.1];omega)];rw[<-v];congr 1;have:=xV o (a.eval x).cells.toList 0 arr (by simp[d.1,j.1];omega);rw[<-xAf]
   simp_all
theorem Ho{d:Array Field}{ps:List (Nat×Nat)}(h:CJ P d=some ps)(w:World) :
  (d.mapM λ(f:Field)=>(do pure (f.offset,<-sizeOf f.type):Sem (Nat×Nat))).run P w=.ok ps.toArray w:=by
 have e:∀(l:List Field)(ps:List (Nat×Nat)),(l.mapM λf=>(aQ P f.type).map λn=>(f.offset,n))=some ps ->
   (l.mapM λf=>(do pure (f.offset,<-sizeOf f.type):Sem (Nat×Nat))).run P w=.ok ps w:=by
  intro l;induction l with
  |nil=>simp_all
  |cons f l ih=>intro ps h;simp only[Lm,Option.pure_def,Option.bind_eq_bind,bC,bq,ab] at h;obtain ⟨q,⟨n,g,rfl⟩,i,b,rfl⟩:=h;simp only[Lm,Sem.run_bind,HX g,Result.andThen_ok,Sem.run_pure,ih i b]
 grind [CJ,Array.mapM_eq_mapM_toList,Go.Sem.run_map,Go.Result.andThen_ok]
theorem FH(E:cf σ M Fz w env a.tmps){o:Oper}{t:TypeId}{b:Array (Nat×Operand)}{z:List D}{h:List (Nat×Nat×ay)}{pl:Nat->Option (Nat×Nat)}{cs:List D}
  (p:o.op=.build t b) (u:Iu P t=some z)
  (j:(∃k ps,P.underlying t=some (.struct k)/\CJ P k=some ps/\pl=(ps[·]?))∨(∃m e n,P.underlying t=some (.array m e)/\aQ P e=some n/\pl=λi=>some (i * n,n)))
  (y:(b.toList.mapM λ(i,x)=>(pl i).bind λ(o,n)=>(ba x).bind λA=>some (o,n,A))=some h) (F:lL env z h=some cs) :
  Yields P (execOp a.eval o) σ M Fz w (.agg cs):=by
 obtain ⟨i,v,q,r,G⟩:=XW u;have f:=zr.mz (V.cp (σ:=σ) (M:=M) (Fz:=Fz) (w:=w) v) G;obtain ⟨g,Q,s⟩:=Ij E pl b.toList h z cs v.cells y f F;refine Yields.same (v:=.agg g) ?_ (.agg g s.1 (λi d v K L=>(s.2 i d v K L).1));rcases j with ⟨k,ps,l,N,rfl⟩ | ⟨m,e,n,l,O,rfl⟩
 ·simp only[execOp,p,Instr.build,Sem.run_bind,eQ q r,Result.andThen_ok,me l,Ho N]
  simp_all
 ·simp only[execOp,p,Instr.build,Sem.run_bind,eQ q r,Result.andThen_ok,me l,HX O]
  simp_all
theorem iF(n:Nat)(z:List D):(oH n z).length=n * z.length:=by simp[oH]
theorem yK{z:List D}(b:z≠[]):∀(n i:Nat),i<n * z.length->(oH n z)[i]? = z[i % z.length]?:=by
 intro n;have d:0<z.length:=Me.2 b;induction n with
 |zero=>omega
 |succ n ih=>
  intro i f;have e:oH (n+1) z=z++oH n z:=by simp[oH,List.replicate_succ]
  rw[e,VK];split
  ·grind [Nat.mod_eq_of_lt]
  ·rename_i h;rw[ih (i-z.length) (by grind)];congr 1
   conv=>rhs;rw[show i=i-z.length+z.length from by omega]
   rw[Nat.add_mod_right]
theorem vI{z:List D}{v:Value}(b:zr σ M Fz w z v.cells)(g:z≠[])(n m:Nat)(d:n<=m) :
  n * z.length<=((Array.range (m * v.cells.size)).map (v.cells[· % v.cells.size]!)).size /\
  ∀(i:Nat) x u,(oH n z)[i]? = some x->((Array.range (m * v.cells.size)).map (v.cells[· % v.cells.size]!))[i]? = some u->V σ M Fz w x u/\u.oneCell'=true:=by
 have k:0<z.length:=Me.2 g;refine ⟨by simp[b.1];exact Ol _ d,λi x u e h=>?_⟩;have j:=(dT.1 e).1;rw[iF] at j;rw[yK g n i j] at e;have l:i % z.length<v.cells.size:=by rw[b.1];grind
 have f:i<m * v.cells.size:=by grind
 refine b.2 (i % z.length) x u e ?_;rw[Array.getElem?_map,Array.getElem?_range,if_pos f] at h;simp only[Option.map_some,ab,b.1] at h
 simp_all
theorem V.Nl{cs:List D}{arr:Array Value}{T:TypeId}{len ai cap:Nat}(i:len<=cap)(j:cap * ai<=arr.size)(o:len * ai<=cs.length)(hs:cs.length<=cap * ai) :
  V (σ++[.cells cs]) (rS M σ.length w.heap.size) Fz (w.alloc (.cells arr T)) (.sl σ.length 0 len ai cs.length) (.slice (some ⟨w.heap.size,0,none⟩) len cap):=
 .sl _ _ _ (by simp) (.cells cs) (by simp) (by simp[Ob.sz]) (λ_=>.inr ⟨w.heap.size,0,arr,T,by simp[rS],rfl,rfl,⟨i,by omega⟩,.inl rfl,heap_alloc_new w _,by omega,by omega⟩)
theorem LN(q:∀c,Fz c->c<w.heap.size)(E:cf σ M Fz w env a.tmps){o:Oper}{t e:TypeId}{len n:Nat}{b:Array (Nat×Operand)}{z:List D}{r:List (Nat×Nat×ay)}{cs:List D}
  (N:o.op=.buildSlice t len b) (O:P.underlying t=some (.slice e)) (Q:aQ P e=some n) (R:Iu P e=some z) (f:¬(n=0∨z.length≠n∨len * n > 2 ^ 20))
  (S:(b.toList.mapM λ(i,x)=>(some (i * n,n)).bind λ(p:Nat×Nat)=>(ba x).bind λT=>some (p.1,p.2,T))=some r) (U:lL env (oH len z) r=some cs) :
  aj P (execOp a.eval o) σ M Fz w (.cells cs) (.sl σ.length 0 len n cs.length):=by
 obtain ⟨i,v,W,X,Y⟩:=XW R;have d:=zr.mz (V.cp (σ:=σ) (M:=M) (Fz:=Fz) (w:=w) v) Y;simp only[not_or,KM,Nat.not_lt] at f;obtain ⟨Z,s,L⟩:=f;have g:z≠[]:=λh=>by simp_all
 have ad:v.cells.size=n:=by rw[d.1,s]
 obtain ⟨af,A⟩:=vI d g len len (bQ _);have F:zr σ M Fz w (oH len z) ((Array.range (len * v.cells.size)).map (v.cells[· % v.cells.size]!)):=⟨by grind [iF],A⟩;obtain ⟨arr,h1,m⟩:=Ij E (λi=>some (i * n,n)) b.toList r (oH len z) cs _ S F U;have j:cs.length=len * n:=by
  have:arr.size=len * n:=by
   have G:∀(l:List (Nat×Value))(x y:Array Value),Instr.fill (λi=>some (i * n,n)) x l=some y->y.size=x.size:=by
    intro l;induction l with
    |nil=>grind [Go.Instr.fill]
    |cons p l ih=>
     intro x y h;obtain ⟨i,u⟩:=p;simp only[Instr.fill] at h;split at h
     ·simp at h
     ·rename_i k;simp at k;rw[ih _ _ h,<-xAf];have:=xV (i * n) u.cells.toList 0 x (by grind);simp only[Nat.add_zero] at this
      grind [f_]
   grind
  rw[<-m.1,this]
 obtain ⟨r1,r2⟩:=lX (P:=P) q (arr:=arr) (cs:=cs) e (by rw[m.1];omega) m.2;refine ⟨_,.slice (some ⟨w.heap.size,0,none⟩) len len,?_,r2,V.Nl (cap:=len) (bQ _) (by rw[m.1,j];omega) (by omega) (by omega)⟩;simp only[execOp,N,Instr.buildSlice,Sem.run_bind,me O,Result.andThen_ok,HX Q];rw[if_neg (by omega)];by_cases h0:len * n=0
 ·have K:len=0:=by
   grind [Nat.mul_eq_zero]
  subst K;simp only[VU] at h1 ⊢;simp only[if_true,Sem.run_bind,Sem.run_pure,Result.andThen_ok]
  grind [Array.toList_map,Go.Sem.run_bind,Go.Result.andThen_ok,Go.Sem.run_pure]
 ·rw[if_neg h0];simp only[Sem.run_bind,eQ W X,Result.andThen_ok,Sem.run_pure]
  simp_all
theorem Ql(R:Rel σ M Fz w)(E:cf σ M Fz w env a.tmps){o:Oper}{t:TypeId}{x y:Operand}{Q S:ay}{n b off sz:Nat}{cs xs:List D}(ho:o.op=.store t x y)
  (hx:ba x=some Q) (U:ba y=some S) (hn:aQ P t=some n) (he:Q.ev env=.ptr b off sz) (W:jZ σ b sz=some cs) (q:(S.ev env).cells? = some xs)
  (hc:xs.length=n/\off+n<=sz):cz P (execOp a.eval o) σ M Fz w (σ.set b (.cells (put cs off xs))) (.aB []):=by
 have X:=jc E hx;rw[he] at X;obtain ⟨c,A,F⟩:=X.qG W;obtain ⟨G,ad⟩:=FV W;obtain ⟨e,T,u,hl,K⟩:=R.row A G;have g:=zr.mz (jc E U) q;obtain ⟨_,_,L,_⟩:=(jc E U).cells q;have N:off+xs.length<=cs.length:=by omega
 have r:=pB P T c (a.eval y).cells.toList 0 off w e u L (by grind);have j:∀k Y Z,Obj.cells e T (0,0)=.cells k Y Z->∃l,Obj.cells (fH e off (a.eval y).cells.toList) T (0,0)=.cells l Y Z/\l.size=k.size:=by grind [f_]
 have m:(if (a.eval y).cells.toList=[] then w else ew w c (.cells (fH e (off+0) (a.eval y).cells.toList) T (0,0)))=ew w c (.cells (fH e off (a.eval y).cells.toList) T (0,0)):=by
  split
  ·rename_i s;rw[s];have:fH e off []=e:=by grind [fH]
   rw[this];unfold ew;have af:=(CS.1 u).1;have:w.heap.setIfInBounds c (.cells e T (0,0))=w.heap:=by grind
   rw[this]
  ·rfl
 rw[m] at r;have hs:(Ob.cells cs).sz<=(Ob.cells (put cs off xs)).sz:=by grind [Ob.sz,Ud]
 have O:=aW.rK R A G u hs j;refine ⟨.skip,undef,_,M,?_,.inr ⟨rfl,rfl⟩,R.rK A G u hs j ?_,.aB #[] rfl (λi d v h=>by simp at h),O,by simp⟩
 ·simp only[execOp,ho,Instr.storeAt,F,Instr.sureAddr,Sem.run_bind,Sem.run_pure,Result.andThen_ok,storeVar,HX hn]
  simp_all
 ·refine ⟨_,T,rfl,by grind [Ud],λi d v z p=>?_⟩;rw[ft N] at z;rw[cH (by grind)] at p;simp only[Array.length_toList,g.1] at p;split at z
  ·rename_i f;rw[if_pos f] at p;have:=g.2 _ _ _ z (by simpa using p);exact ⟨this.1.mono O,this.2⟩
  ·rename_i f;rw[if_neg f] at p;have:=K _ _ _ z p;exact ⟨this.1.mono O,this.2⟩
end
end Go.Abs
end
section
namespace Go.Abs
variable[Gl]
section
variable{P:Program}{σ σ':aa}{M M':Nat->Option Nat}{Fz:Nat->Prop}{w w':World}{env:List D}{a:Act}
theorem V.Aw{b o sz off:Nat}{v:Value}(h:V σ M Fz w (.ptr b o sz) v):∃i,v=.pointer (some i)/\V σ M Fz w (.ptr b (o+off) sz) (.pointer (some (i.add off))):=by
 cases h with
 |ptr i s u j x=>
  refine ⟨i,rfl,.ptr _ s u j (λz=>?_)⟩
  grind [dg]
theorem VC.Aw{cs:List C}{o off:Nat}{v:Value}(h:VC Fz w (.bE cs o) v):∃i,v=.pointer (some i)/\VC Fz w (.bE cs (o+off)) (.pointer (some (i.add off))):=by
 generalize j:C.bE cs o=x at h;cases h with
 |bE blk s c u z A=>simp only[C.bE.injEq] at j;obtain ⟨rfl,rfl⟩:=j;refine ⟨_,rfl,?_⟩;rw[dg,Nat.add_assoc];exact .bE blk s c u z A
 |_=>grind
theorem V.lU{x:C}{v:Value}(h:V σ M Fz w (.c x) v):VC Fz w x v:=by cases h with | c h=>exact h
theorem Wn(E:cf σ M Fz w env a.tmps){o:Oper}{s:TypeId}{x:Operand}{m:ay}{f n:Nat}{p:Array Field}{g:Field}{d:D}(t:o.op=.fieldAddr s x f)
  (u:ba x=some m) (v:P.underlying s=some (.struct p)) (y:p[f]? = some g) (z:aQ P g.type=some n) (A:n≠0)
  (h:(match m.ev env with
  |.ptr b o sz=>some (.ptr b (o+g.offset) sz,σ,([]:List Nat))
  |.c (.bE q o)=>some (.c (.bE q (o+g.offset)),σ,[])
  |_=>none)=some (d,σ',[])):σ'=σ/\Yields P (execOp a.eval o) σ M Fz w d:=by
 have j:=jc E u;have k:∀i,a.eval x=.pointer (some i)->(execOp a.eval o).run P w=.ok (.value (.pointer (some (i.add g.offset)))) w:=by
  intro i e;simp only[execOp,t,Instr.fieldAt,Sem.run_bind,me v,Result.andThen_ok,y,e,Instr.sureAddr,Sem.run_pure,fieldPlace,HX z]
  simp_all
 split at h
 ·rename_i b F sz l;rw[l] at j;simp only[ab,aC] at h;obtain ⟨rfl,rfl,_⟩:=h;obtain ⟨i,e,r⟩:=j.Aw (off:=g.offset)
  grind [Yields.same]
 ·rename_i q F l;rw[l] at j;simp only[ab,aC] at h;obtain ⟨rfl,rfl,_⟩:=h;obtain ⟨i,e,r⟩:=j.lU.Aw (off:=g.offset);exact ⟨rfl,Yields.same (k i e) (.c r)⟩
 simp_all
theorem xp{i:Int}{n k:Nat}(h:wi i n=some k):0<=i/\i<n/\i.toNat=k/\k<n:=by grind [wi]
theorem Sq{i:Int}{n k:Nat}(h:Iq i n=some k):0<=i/\i<=n/\i.toNat=k/\k<=n:=by grind [Iq]
theorem V.ld{b off len ai sz:Nat}{v:Value}{cs:List D}(h:V σ M Fz w (.sl b off len ai sz) v)(j:jZ σ b sz=some cs) :
  (v=.slice none 0 0/\len=0/\off=0/\sz=0/\cs=[])∨∃c o cap arr T,M b=some c/\v=.slice (some ⟨c,o,none⟩) len cap/\(len<=cap/\sz<=off+cap * ai)/\(o=off∨cap=0)/\w.heap[c]? = some (.cells arr T (0,0))/\o+cap * ai<=arr.size/\off+len * ai<=sz:=by
 obtain ⟨s,u⟩:=FV j;cases h with
 |sl O n cap x Q i z A=>
  rw[s] at i;simp only[ab] at i;subst i;rcases A u with ⟨R,U,W,X,Y,Z⟩ | ⟨c,o,arr,T,E,ha,hn,F,G,K,i,L⟩
  ·simp_all
  ·exact .inr ⟨c,o,cap,arr,T,E,by simp_all,F,G,K,i,L⟩
theorem V.ZK{b c off sz:Nat}{cs:List D}(i:jZ σ b sz=some cs)(j:M b=some c):V σ M Fz w (.ptr b off sz) (.pointer (some ⟨c,off,none⟩)):=by obtain ⟨o,s⟩:=FV i;exact .ptr _ _ o (by grind [Ob.sz]) (λ_=>⟨c,j,rfl⟩)
theorem Wq(E:cf σ M Fz w env a.tmps){o:Oper}{t e:TypeId}{x i:Operand}{S U:ay}{n:Nat}{d:D}(ho:o.op=.indexAddr t x i)
  (hx:ba x=some S) (hi:ba i=some U) (hu:P.underlying t=some (.slice e)) (hn:aQ P e=some n) (af:n≠0)
  (h:(do
  let i <-oF (U.ev env)
  match S.ev env with
  |.sl b off len f sz => do
   let _ <-jZ σ b sz
   let k <-wi i len
   if f=n then some (.ptr b (off+k * n) sz,σ,([]:List Nat)) else none
  |.c (.bG _ f) => do
   let k <-wi i f.length
   let e <-f[k]?
   if e.length=n then some (.c (.bE e 0),σ,[]) else none
  |_=>none)=some (d,σ',[])):σ'=σ/\Yields P (execOp a.eval o) σ M Fz w d:=by
 have u:=jc E hx;have F:=jc E hi;simp only[Option.bind_eq_bind,bC] at h;obtain ⟨z,W,h⟩:=h;obtain ⟨k0,G⟩:=gq F W;have K:∀v len cap,a.eval x=.slice (some v) len cap->0<=z->z<len->(execOp a.eval o).run P w=.ok (.value (.pointer (some (v.add (z.toNat * n))))) w:=by intro v len cap L y A;simp only[execOp,ho,Instr.indexAt,Sem.run_bind,G,asIntOf,Sem.run_pure,Result.andThen_ok,me hu,L];rw[if_pos ⟨y,A⟩];simp only[Sem.run_bind,HX hn,Result.andThen_ok,Sem.run_pure]
 split at h
 ·rename_i b off len f sz N;rw[N] at u;simp only[bC] at h;obtain ⟨cs,hr,k,hk,h⟩:=h;split at h
  ·rename_i O;simp only[ab,aC] at h;obtain ⟨rfl,rfl,_⟩:=h;obtain ⟨y,A,X,h4⟩:=xp hk;rcases u.ld hr with ⟨_,e2,_⟩ | ⟨c,o',cap,ak,T,hM,g,hl,Y,hh,l,Q⟩
   ·omega
   grind [Yields.same,dg,V.ZK]
  simp_all
 ·rename_i nn f N;rw[N] at u;simp only[bC] at h;obtain ⟨k,hk,m,p,h⟩:=h;split at h
  ·rename_i O;simp only[ab,aC] at h;obtain ⟨rfl,rfl,_⟩:=h;obtain ⟨y,A,X,h4⟩:=xp hk;have q:=u.lU;generalize g:a.eval x=va at q;cases q with
   |bG ai v cap ax W c Q l hc R=>
    have r:ai=n:=by grind
    subst r;have s:0<m.length:=by omega
    obtain ⟨blk,o0,rfl,hF,_,_⟩:=hc k 0 m m[0] p (cE s);refine ⟨rfl,Yields.same (K _ _ _ g y A) ?_⟩;rw[dg,X];refine .c ?_;have:=VC.bE (Fz:=Fz) (w:=w) (cs:=m) (off:=0) blk (o0+k * ai) (c k) hF (λj d Z=>?_) (λj d Z=>R k j m d p Z)
    ·omega
    grind
  simp_all
 simp_all
theorem Fs(A:Gl.ok Fz w)(E:cf σ M Fz w env a.tmps){o:Oper}{t e:TypeId}{x i:Operand}{L N:ay}{n len:Nat}{d:D}(Q:o.op=.indexAddr t x i)
  (R:ba x=some L) (S:ba i=some N) (F:P.underlying t=some (.array len e)) (T:aQ P e=some n)
  (h:(do
  let i <-oF (N.ev env)
  let k <-wi i len
  match L.ev env with
  |.ptr b off sz=>some (.ptr b (off+k * n) sz,σ,([]:List Nat))
  |.c (.bE cs off)=>some (.c (.bE cs (off+k * n)),σ,[])
  |.c (.Ml g) => match Gl.VA g with
   |[]=>none
   |v::p=>some (.c (.bE ((v::p).map .lit) (k * n)),σ,[])
  |_=>none)=some (d,σ',[])):σ'=σ/\Yields P (execOp a.eval o) σ M Fz w d:=by
 have l:=jc E R;have G:=jc E S;simp only[Option.bind_eq_bind,bC] at h;obtain ⟨z,U,k,hk,h⟩:=h;obtain ⟨k0,K⟩:=gq G U;obtain ⟨W,X,Y,h4⟩:=xp hk;have q:∀m,a.eval x=.pointer (some m)->(execOp a.eval o).run P w=.ok (.value (.pointer (some (m.add (k * n))))) w:=by intro m f;simp only[execOp,Q,Instr.indexAt,Sem.run_bind,K,asIntOf,Sem.run_pure,Result.andThen_ok,me F,f,Instr.sureAddr];rw[if_pos ⟨W,X⟩];simp only[Sem.run_bind,HX T,Result.andThen_ok,Sem.run_pure,Y]
 split at h
 ·rename_i b off sz r;rw[r] at l;simp only[ab,aC] at h;obtain ⟨rfl,rfl,_⟩:=h;obtain ⟨m,f,O⟩:=l.Aw (off:=k * n)
  grind [Yields.same]
 ·rename_i cs off r;rw[r] at l;simp only[ab,aC] at h;obtain ⟨rfl,rfl,_⟩:=h;obtain ⟨m,f,O⟩:=l.lU.Aw (off:=k * n);exact ⟨rfl,Yields.same (q m f) (.c O)⟩
 ·rename_i g r;rw[r] at l;split at h
  ·simp at h
  ·rename_i v p hg;simp only[ab,aC] at h;obtain ⟨rfl,rfl,_⟩:=h;have f:a.eval x=.pointer (some ⟨g,0,none⟩):=by
    generalize a.eval x=y at l;cases l with
    |c l=>cases l;rfl
   have Z:∀(j:Nat) u,(v::p)[j]? = some u->Fz g/\w.cell? ⟨g,j,none⟩=some u/\u.oneCell'=true:=λj u s=>Gl.ZS g j u A (by simp_all);refine ⟨rfl,Yields.same (q _ f) (.c ?_)⟩;have:=VC.bE (Fz:=Fz) (w:=w) (cs:=(v::p).map .lit) (off:=k * n) g 0 (λj=>((v::p)[j]?).getD default) (Z 0 v rfl).1 (λj d s=>?_) (λj d s=>?_)
   ·have e:(⟨g,0,none⟩:Addr).add (k * n)=⟨g,k * n,none⟩:=by
     simp only[Addr.add,Dn]
     simp_all
    simp_all
   ·grind
   ·rw[gT,bq] at s;obtain ⟨u,F,rfl⟩:=s;simp only[F,Option.getD_some];exact .lit u
 simp_all
theorem dx(E:cf σ M Fz w env a.tmps){x:Operand}{f:ay}{n k:Nat}(g:ba x=some f)(h:((oF (f.ev env)).bind λi=>Iq i n)=some k)(b:Nat)(hm:n<=b)(d:BoundsCode) :
  (Instr.sliceBound (a.eval x) b d).run P w=.ok k w/\k<=n:=by
 simp only[bC] at h;obtain ⟨i,j,l⟩:=h;obtain ⟨q,e⟩:=gq (jc E g) j;obtain ⟨m,r,o,p⟩:=Sq l;refine ⟨?_,p⟩;simp only[Instr.sliceBound,Sem.run_bind,e,asIntOf,Sem.run_pure,Result.andThen_ok];rw[if_pos ⟨m,by omega⟩,o];rfl
theorem fy(E:cf σ M Fz w env a.tmps){lo g:Option Operand}{i e:Option ay}{len j cap l h:Nat}(b:zR lo=some i)(d:zR g=some e)(r:j<=cap)(s:e=none->len<=j)
  (o:kI env len j e=some h) (n:kI env 0 h i=some l) :
  (Instr.sliceBounds true len cap (lo.map a.eval) (g.map a.eval) none).run P w=.ok (l,h,cap) w/\h<=j/\l<=h:=by
 have p:h<=j/\(match g.map a.eval,(none:Option Value) with
  |some v,some _=>Instr.sliceBound v cap .slice3B
  |some v,none=>Instr.sliceBound v cap (if true then .sliceAcap else .sliceAlen)
  |none,none=>pure len
  |none,some _=>stuck "Slice: max without high" : Sem Nat).run P w=.ok h w:=by
  cases g with
  |none=>
   simp only[zR,ab] at d;subst d;simp only[kI,ab] at o
   simp_all
  |some x=>
   simp only[zR,bq] at d;obtain ⟨t,f,rfl⟩:=d;simp only[kI] at o;obtain ⟨u,y⟩:=dx (P:=P) (w:=w) E f o cap r .sliceAcap
   simp_all
 have q:l<=h/\(match lo.map a.eval with
  |some v=>Instr.sliceBound v h (if (none:Option Value).isSome then .slice3C else .sliceB)
  |none=>pure 0:Sem Nat).run P w=.ok l w:=by
  cases lo with
  |none=>
   simp only[zR,ab] at b;subst b;simp only[kI,ab] at n;subst n
   simp_all
  |some x=>
   simp only[zR,bq] at b;obtain ⟨t,f,rfl⟩:=b;simp only[kI] at n;obtain ⟨u,y⟩:=dx (P:=P) (w:=w) E f n h (bQ _) .sliceB
   simp_all
 refine ⟨?_,p.1,q.1⟩;have k:=p.2;have m:=q.2;clear p q;cases g <;> cases lo <;> simp only[Option.map_some,Option.map_none,Sem.run_pure,Result.ok.injEq,Kg] at k m <;>
  simp only[Instr.sliceBounds,Option.map_some,Option.map_none,Sem.run_bind,Sem.run_pure,Result.andThen_ok,k,m]
theorem Wi(E:cf σ M Fz w env a.tmps){o:Oper}{t e:TypeId}{x:Operand}{lo S:Option Operand}{ox:ay}{p g:Option ay}{n:Nat}{d:D}
  (ho:o.op=.slice t x lo S none) (hx:ba x=some ox) (r:zR lo=some p) (u:zR S=some g) (hu:P.underlying t=some (.slice e)) (hn:aQ P e=some n)
  (h:(match ox.ev env with
  |.c (.lit (.slice none 0 0)) => do
   let h <-kI env 0 0 g
   let _ <-kI env 0 h p
   some (.c (.lit (.slice none 0 0)),σ,([]:List Nat))
  |.c (.bG nn f) => do
   let h <-kI env f.length f.length g
   let l <-kI env 0 h p
   if f.all (λe=>e.length=n) then some (.c (.bG nn ((f.take h).drop l)),σ,[]) else none
  |.sl b off len f sz => do
   let _ <-jZ σ b sz
   let h <-(kI env len len g).orElse λ_=>kI env len ((sz-off) / f) g
   let l <-kI env 0 h p
   if f=n then some (.sl b (off+l * n) (h-l) n sz,σ,[]) else none
  |_=>none)=some (d,σ',[])):σ'=σ/\Yields P (execOp a.eval o) σ M Fz w d:=by
 have L:=jc E hx;have F:∀U len cap l h,a.eval x=.slice U len cap->(Instr.sliceBounds true len cap (lo.map a.eval) (S.map a.eval) none).run P w=.ok (l,h,cap) w ->
   (execOp a.eval o).run P w=.ok (.value (.slice (if cap=l then U else U.map (·.add (l * n))) (h-l) (cap-l))) w:=by
  intro U len cap l h k z;have W:∀(s:Sem Value),(match TypeDesc.slice e with | .array _ _=>s | _=>Instr.slice t (a.eval x) (lo.map a.eval) (S.map a.eval) none)=Instr.slice t (a.eval x) (lo.map a.eval) (S.map a.eval) none:=λ_=>rfl;simp only[execOp,ho,Instr.sliceAt,Sem.run_bind,me hu,Result.andThen_ok,Option.map_none];simp only[Instr.slice,Sem.run_bind,me hu,Result.andThen_ok,k,z,HX hn,Sem.run_pure]
 split at h
 ·rename_i N;rw[N] at L;simp only[Option.bind_eq_bind,bC,ab,aC] at h;obtain ⟨m,v,l,O,rfl,rfl,_⟩:=h;obtain ⟨z,h3,h4⟩:=fy (P:=P) (w:=w) E r u (bQ 0) (λ_=>bQ _) v O;refine ⟨rfl,Yields.same (F _ _ _ _ _ L.bx z) ?_⟩;obtain rfl:m=0:=by omega
  obtain rfl:l=0:=by omega
  exact .c (.lit _)
 ·rename_i nn f N;rw[N] at L;simp only[Option.bind_eq_bind,bC] at h;obtain ⟨m,v,l,O,h⟩:=h;split at h
  ·rename_i a7;simp only[ab,aC] at h;obtain ⟨rfl,rfl,_⟩:=h;have X:=L.lU;generalize k:a.eval x=va at X;cases X with
   |bG ai U cap a9 hz c ak A hc bc=>
    obtain ⟨z,h3,h4⟩:=fy (P:=P) (w:=w) E r u A (λ_=>bQ _) v O;refine ⟨rfl,Yields.same (F _ _ _ _ _ k z) (.c ?_)⟩;have Y:((f.take m).drop l).length=m-l:=by simp_all
    rw[<-Y];refine .bG n _ _ (λhn=>by grind) (λhn=>by
     by_cases y:cap=l
     ·omega
     simp_all) (λi j=>c (l+i) j) (λe N=>?_) (by omega) (λi j e d G h6=>?_) (λi j e d G h6=>?_)
    ·grind
    ·rw[yBT] at G;have ax:=(dT.1 G).1;simp at ax;rw[Ya (by omega)] at G;obtain ⟨blk,o0,rfl,hF,a0,a1⟩:=hc (l+i) j e d G h6;have Z:ai=n:=by
      grind
     subst Z;refine ⟨blk,o0+l * ai,by rw[if_neg (by omega)];simp[dg],hF,?_,a1⟩
     grind
    grind
  simp_all
 ·rename_i b off len f sz N;rw[N] at L;simp only[Option.bind_eq_bind,bC] at h;obtain ⟨cs,hr,m,v,l,O,h⟩:=h;split at h
  ·rename_i a2;subst a2;simp only[ab,aC] at h;obtain ⟨rfl,rfl,_⟩:=h;obtain ⟨G,h6⟩:=FV hr;rcases L.ld hr with ⟨k,e2,e3,e4,e6⟩ | ⟨c,Q,cap,af,T,hM,k,hl,a8,hh,A,ak⟩
   ·subst e2;have a3:kI env 0 0 g=some m:=by
     simp_all
    obtain ⟨z,h3,h4⟩:=fy (P:=P) (w:=w) E r u (bQ 0) (λ_=>bQ _) a3 O
    grind [Yields.same]
   obtain ⟨R,a4,a5,bd,v⟩:∃R,R<=cap/\(g=none->len<=R)/\off+R * f<=sz/\kI env len R g=some m:=by
    cases a6:kI env len len g with
    |some q=>grind
    |none=>
     rw[a6] at v;have v:kI env len ((sz-off) / f) g=some m:=by simp_all
     have hd:(sz-off) / f * f<=sz-off:=Nat.div_mul_le_self _ _;refine ⟨_,?_,λe=>by grind [kI],by omega,v⟩;rcases Nat.eq_zero_or_pos f with h0 | h0
     ·simp_all
     ·exact Nat.div_le_of_le_mul (by grind)
   obtain ⟨z,h3,h4⟩:=fy (P:=P) (w:=w) E r u a4 a5 v O;refine ⟨rfl,Yields.same (F _ _ _ _ _ k z) ?_⟩;have K:(if cap=l then some (Addr.mk c Q none) else (some (Addr.mk c Q none)).map (·.add (l * f)))=some (if cap=l then Addr.mk c Q none else (Addr.mk c Q none).add (l * f)):=by grind
   rw[K];refine .sl _ _ _ (by simp) _ G (by grind [Ob.sz]) (λ_=>?_);have be:l * f+(m-l) * f=m * f:=by rw[<-Ph];simp_all
   have bh:m * f<=R * f:=Ol _ h3;by_cases y:cap=l
   ·rw[if_pos y];have h0:cap-l=0:=by omega
    subst y;refine .inr ⟨c,Q,af,T,hM,rfl,rfl,⟨by omega,by omega⟩,.inr (by omega),hh,?_,?_⟩
    ·grind
    ·omega
   ·rw[if_neg y];have bi:l * f+(cap-l) * f=cap * f:=by rw[<-Ph];grind
    refine .inr ⟨c,Q+l * f,af,T,hM,by rw[dg],rfl,⟨by omega,by omega⟩,?_,hh,by omega,by omega⟩;omega
  simp_all
 simp_all
theorem Ti(E:cf σ M Fz w env a.tmps){o:Oper}{t e:TypeId}{x:Operand}{v:ay}{m off:Nat}{cs:List C}
  (z:o.op=.slice t x none none none) (A:ba x=some v) (F:P.underlying t=some (.array m e)) (G:aQ P e=some 1)
  (p:v.ev env=.c (.bE cs off)) (K:off+m<=cs.length):Yields P (execOp a.eval o) σ M Fz w (.c (.bG false (((cs.drop off).take m).map λc=>[c]))):=by
 have y:=jc E A;rw[p] at y;have k:=y.lU;generalize q:a.eval x=S at k;cases k with
 |bE blk l c L N r=>
  have f:(((cs.drop off).take m).map λc=>[c]).length=m:=by simp;omega
  have n:(execOp a.eval o).run P w=.ok (.value (.slice (some ⟨blk,l+off,none⟩) (((cs.drop off).take m).map λc=>[c]).length m)) w:=by rw[f];simp only[execOp,z,Instr.sliceAt,Sem.run_bind,me F,Result.andThen_ok,Option.map_none,q,Instr.sureAddr,Sem.run_pure,Instr.sliceBounds,HX G];simp only[VU,Nat.sub_zero];split <;> rfl
  have get:∀(i j:Nat)(e:List C)(d:C),(((cs.drop off).take m).map λc=>[c])[i]? = some e->e[j]? = some d->j=0/\i<m/\cs[off+i]? = some d:=by
   intro i j e d b g;rw[gT,bq] at b;obtain ⟨x,b,rfl⟩:=b;have s:=(dT.1 b).1;have O:j=0:=by have:=(dT.1 g).1;simp at this;exact this
   subst O;simp only[List.getElem?_cons_zero,ab] at g;subst g;simp only[zp,List.length_drop] at s;refine ⟨rfl,by omega,?_⟩;rw[Ya (by omega),yBT] at b;exact b
  refine Yields.same n (.c (.bG 1 (some ⟨blk,l+off,none⟩) m (λ_=>rfl) (λh=>by cases h) (λi _=>c (off+i)) (λe p=>?_) (Nat.le_of_eq f) (λi j e d b g=>?_) (λi j e d b g=>?_)))
  ·obtain ⟨x,_,rfl⟩:=gZ.1 p;rfl
  ·obtain ⟨rfl,s,u⟩:=get i j e d b g;obtain ⟨Q,R⟩:=N _ d u;exact ⟨blk,l+off,rfl,L,by rw[show l+off+i * 1+0=l+(off+i) by omega];exact Q,R⟩
  ·obtain ⟨rfl,s,u⟩:=get i j e d b g;exact r _ d u
theorem RQ(E:cf σ M Fz w env a.tmps){o:Oper}{t e:TypeId}{x lo m p:Operand}{u f g j:ay}{n b off len es sz h l:Nat}{cs:List D}
  (A:o.op=.slice t x (some lo) (some m) (some p)) (F:ba x=some u) (q:ba lo=some f) (r:ba m=some g) (s:ba p=some j) (y:P.underlying t=some (.slice e)) (G:aQ P e=some n)
  (K:u.ev env=.sl b off len es sz) (L:jZ σ b sz=some cs) (N:((oF (j.ev env)).bind λi=>Iq i len)=some len) (O:((oF (g.ev env)).bind λi=>Iq i len)=some h) (Q:((oF (f.ev env)).bind λi=>Iq i h)=some l) :
  Yields P (execOp a.eval o) σ M Fz w .any:=by
 have z:=jc E F;rw[K] at z;have Z:∀k cap,len<=cap->a.eval x=.slice k len cap->Yields P (execOp a.eval o) σ M Fz w .any:=by
  intro k cap R d;have S:=(dx (P:=P) (w:=w) E s N cap R .slice3Acap).1;have U:=(dx (P:=P) (w:=w) E r O len (bQ _) .slice3B).1;have W:=(dx (P:=P) (w:=w) E q Q h (bQ _) .slice3C).1;have X:(Instr.sliceBounds true len cap (some (a.eval lo)) (some (a.eval m)) (some (a.eval p))).run P w=.ok (l,h,len) w:=by simp only[Instr.sliceBounds,Sem.run_bind,if_true,S,Result.andThen_ok,U,Option.isSome,W,Sem.run_pure]
  refine Yields.same (v:=.slice (if len=l then k else k.map (·.add (l * n))) (h-l) (len-l)) ?_ (.any _);simp only[execOp,A,Instr.sliceAt,Sem.run_bind,me y,Result.andThen_ok,Option.map_some];simp only[Instr.slice,Sem.run_bind,me y,Result.andThen_ok,d,X,HX G,Sem.run_pure]
 rcases z.ld L with ⟨d,e2,_,_,_⟩ | ⟨c,o',cap,Y,T,hM,d,hl,_,_,_,_⟩
 ·simp_all
 grind
theorem GP(E:cf σ M Fz w env a.tmps){o:Oper}{x:Operand}{i:Nat}{h:ay}{ds:List D}{d:D}(k:o.op=.extract x i)(l:ba x=some h)
  (m:h.ev env=.aB ds) (hd:ds[i]? = some d):Yields P (execOp a.eval o) σ M Fz w d:=by
 have b:=jc E l;rw[m] at b;generalize f:a.eval x=n at b;cases b with
 |aB j p g=>have q:=(dT.1 hd).1;have e:j[i]? = some (j[i]'(by omega)):=nE _;refine Yields.same ?_ (g i _ _ hd e);simp[execOp,k,Instr.extract,f,e]
theorem Rz(E:cf σ M Fz w env a.tmps):∀(xs:List Operand)(os:List ay),xs.mapM ba=some os ->
  (xs.map a.eval).length=(os.map (ay.ev env)).length/\∀(i:Nat) d v,(os.map (ay.ev env))[i]? = some d->(xs.map a.eval)[i]? = some v->V σ M Fz w d v:=by
 intro xs;induction xs with
 |nil=>simp_all
 |cons x xs ih=>grind [Option.bind_eq_some_iff,jc]
theorem Cy(E:cf σ M Fz w env a.tmps){xs:Array Operand}{os:List ay}(h:Bv xs=some os) :
  (xs.map a.eval).size=(os.map (ay.ev env)).length/\∀(i:Nat) d v,(os.map (ay.ev env))[i]? = some d->(xs.map a.eval)[i]? = some v->V σ M Fz w d v:=by
 obtain ⟨b,e⟩:=Rz E xs.toList os h
 grind
theorem SZ(E:cf σ M Fz w env a.tmps){o:Oper}{f:Fn}{first cap:Array Operand}{b d:List ay}(e:o.op=.makeFunc f first cap)(g:Bv first=some b)(h:Bv cap=some d) :
  Yields P (execOp a.eval o) σ M Fz w (.fn f (b.map (ay.ev env)) (d.map (ay.ev env))):=by
 obtain ⟨i,j⟩:=Cy E g;obtain ⟨k,l⟩:=Cy E h;refine Yields.same (v:=.func f (first.map a.eval) (cap.map a.eval)) ?_ (.fn _ _ i k j l);simp[execOp,e,Instr.makeFunc]
theorem Eh{t:TypeId}{n:Option Nat}{cs:List D}{vs:Array Value}{off:Nat}{d:D}(g:yF P t=some n)(f:oW n cs off=some d)(q:vs.size=cs.length)
  (o:∀(i:Nat) d v,cs[i]? = some d->vs[i]? = some v->V σ M Fz w d v):∃v,(part t vs off).run P w=.ok v w/\V σ M Fz w d v:=by
 unfold yF at g;have agg:∀(i:TypeInfo),P.info? t=some i->n=some i.size->(isAgg t).run P w=.ok true w->∃v,(part t vs off).run P w=.ok v w/\V σ M Fz w d v:=by
  intro i k g b;subst g;simp only[oW] at f;split at f
  ·rename_i p;simp only[ab] at f;subst f;refine ⟨.agg (vs.extract off (off+i.size)),by simp only[part,Sem.run_bind,b,Result.andThen_ok,if_true,sizeOf,UU k,Sem.run_pure],?_⟩;refine .agg _ (by grind) (λj x v r s=>?_)
   grind
  simp_all
 have one:n=none->(isAgg t).run P w=.ok false w->∃v,(part t vs off).run P w=.ok v w/\V σ M Fz w d v:=by intro g b;subst g;simp only[oW] at f;have k:=(dT.1 f).1;have e:vs[off]? = some (vs[off]'(by omega)):=nE _;exact ⟨_,by simp only[part,Sem.run_bind,b,Result.andThen_ok,aV,bm,e,Sem.run_pure],o _ _ _ f e⟩
 cases k:P.info? t with
 |none=>simp_all
 |some i=>
  cases m:P.underlying t with
  |none=>simp_all
  |some h=>
   rw[k,m] at g;have l:(isAgg t).run P w=.ok (h matches .struct _ | .array _ _) w:=by simp only[isAgg,Sem.run_bind,me m,Result.andThen_ok];cases h <;> rfl
   grind
theorem Ut(E:cf σ M Fz w env a.tmps){o:Oper}{t:TypeId}{x:Operand}{i:ay}{f:Nat}{j:Array Field}{b:Field}{n:Option Nat}{cs:List D}{d:D}(k:o.op=.field t x f)
  (l:ba x=some i) (m:P.underlying t=some (.struct j)) (p:j[f]? = some b) (q:yF P b.type=some n) (r:i.ev env=.agg cs) (s:oW n cs b.offset=some d) :
  Yields P (execOp a.eval o) σ M Fz w d:=by
 have e:=jc E l;rw[r] at e;generalize g:a.eval x=A at e;cases e with
 |agg F u h=>obtain ⟨v,y,z⟩:=Eh (P:=P) q s u h;refine Yields.same (v:=v) ?_ z;simp only[execOp,k,Instr.field,Sem.run_bind,me m,Result.andThen_ok,p,g,asAgg,Sem.run_pure,y]
theorem TO(E:cf σ M Fz w env a.tmps){o:Oper}{t e:TypeId}{x i:Operand}{j l:ay}{len sz k:Nat}{n:Option Nat}{cs:List D}{d:D}{z:Int}(m:o.op=.index t x i)
  (p:ba x=some j) (q:ba i=some l) (r:P.underlying t=some (.array len e)) (hs:aQ P e=some sz) (s:yF P e=some n) (u:j.ev env=.agg cs) (y:oF (l.ev env)=some z) (hk:wi z len=some k)
  (A:oW n cs (k * sz)=some d):Yields P (execOp a.eval o) σ M Fz w d:=by
 have b:=jc E p;rw[u] at b;obtain ⟨Q,f⟩:=gq (jc E q) y;obtain ⟨F,G,K,R⟩:=xp hk;generalize g:a.eval x=S at b;cases b with
 |agg T L h=>obtain ⟨v,N,O⟩:=Eh (P:=P) s A L h;refine Yields.same (v:=v) ?_ O;simp only[execOp,m,Instr.index,Sem.run_bind,f,asIntOf,Sem.run_pure,Result.andThen_ok,me r,g];rw[if_pos ⟨F,G⟩];simp only[Sem.run_bind,HX hs,Result.andThen_ok,K,N]
end
end Go.Abs
end
section
namespace Go.Abs
variable[Gl]
section
variable{P:Program}{σ σ':aa}{M M':Nat->Option Nat}{Fz:Nat->Prop}{w w':World}{env:List D}{a:Act}
theorem Qw(E:cf σ M Fz w env a.tmps){o:Oper}{x:Operand}{l:ay}{d:D}(j:o.op=.nilCheck x)(m:ba x=some l)
  (h:(match l.ev env with
  |.ptr b off sz=>some (.ptr b off sz,σ,([]:List Nat))
  |.c (.bE n off)=>some (.c (.bE n off),σ,[])
  |.c (.fn (.func f) first cap)=>some (.c (.fn (.func f) first cap),σ,[])
  |.fn (.func f) first cap=>some (.fn (.func f) first cap,σ,[])
  |_=>none)=some (d,σ',[])):σ'=σ/\Yields P (execOp a.eval o) σ M Fz w d:=by
 have e:=jc E m;split at h
 ·rename_i i;rw[i] at e;simp only[ab,aC] at h;obtain ⟨rfl,rfl,_⟩:=h;refine ⟨rfl,Yields.same (v:=a.eval x) ?_ e⟩;generalize g:a.eval x=k at e;cases e with
  |ptr=>simp[execOp,j,g]
 ·rename_i i;rw[i] at e;simp only[ab,aC] at h;obtain ⟨rfl,rfl,_⟩:=h;refine ⟨rfl,Yields.same (v:=a.eval x) ?_ e⟩;generalize g:a.eval x=k at e;cases e with
  |c e => cases e with
   |bE=>simp[execOp,j,g]
 ·rename_i i;rw[i] at e;simp only[ab,aC] at h;obtain ⟨rfl,rfl,_⟩:=h;refine ⟨rfl,Yields.same (v:=a.eval x) ?_ e⟩;generalize g:a.eval x=k at e;cases e with
  |c e => cases e with
   |fn=>simp[execOp,j,g]
 ·rename_i i;rw[i] at e;simp only[ab,aC] at h;obtain ⟨rfl,rfl,_⟩:=h;refine ⟨rfl,Yields.same (v:=a.eval x) ?_ e⟩;generalize g:a.eval x=k at e;cases e with
  |fn=>simp[execOp,j,g]
 simp_all
inductive fq:TypeDesc->Value->Value->Bool->Prop where
 |p0 (e:TypeId):fq (.pointer e) (.pointer none) (.pointer none) true
 |p1 (e:TypeId) (ad:Addr):fq (.pointer e) (.pointer (some ad)) (.pointer none) false
 |m0 (k e:TypeId):fq (.map k e) (.map none) (.map none) true
 |m1 (k e:TypeId) (r:Nat):fq (.map k e) (.map (some r)) (.map none) false
 |f0 (p r:Array TypeId) (v:Bool):fq (.func p r v) .nilFunc .nilFunc true
 |f1 (p r:Array TypeId) (v:Bool) (f:Fn) (x y:Array Value):fq (.func p r v) (.func f x y) .nilFunc false
 |s0 (e:TypeId):fq (.slice e) (.slice none 0 0) (.slice none 0 0) true
 |s1 (e:TypeId) (ad:Addr) (n c:Nat):fq (.slice e) (.slice (some ad) n c) (.slice none 0 0) false
theorem KT{t:TypeId}{d:TypeDesc}{x y:Value}{b:Bool}(e:P.underlying t=some d)(h:fq d x y b)(w:World) :
  (Op.equal t x y).run P w=.ok b w/\(Op.equal t y x).run P w=.ok b w:=by
 constructor
 ·show (Op.equalIn (9999+1) t x y).run P w=_;generalize 9999=n;cases h <;> (unfold Op.equalIn;simp[me e])
 ·show (Op.equalIn (9999+1) t y x).run P w=_;generalize 9999=n;cases h <;> (unfold Op.equalIn;simp[me e])
theorem v_{t:TypeId}{d:TypeDesc}{x y:Value}{b:Bool}(e:P.underlying t=some d)(h:fq d x y b)(neg:Bool)(X Y:Operand)(w:World) :
  ((do eqGuard (if neg then .neq else .eql) t X Y x y;binOp (if neg then .neq else .eql) t x y:Sem Value).run P w=.ok (.bool (if neg then !b else b)) w) /\
  ((do eqGuard (if neg then .neq else .eql) t Y X y x;binOp (if neg then .neq else .eql) t y x:Sem Value).run P w=.ok (.bool (if neg then !b else b)) w):=by
 obtain ⟨f,g⟩:=KT e h w;have i:∀op,(eqGuard op t X Y x y).run P w=.ok () w:=by intro op;cases h <;> cases op <;> rfl
 have j:∀op,(eqGuard op t Y X y x).run P w=.ok () w:=by intro op;cases h <;> cases op <;> rfl
 have k:(binOp (if neg then .neq else .eql) t x y).run P w=.ok (.bool (if neg then !b else b)) w:=by
  cases neg
  ·have:binOp .eql t x y=(do pure (.bool (<-Op.equal t x y)):Sem Value):=by cases h <;> rfl
   simp_all
  ·have:binOp .neq t x y=(do pure (.bool (!(<-Op.equal t x y))):Sem Value):=by cases h <;> rfl
   simp_all
 have l:(binOp (if neg then .neq else .eql) t y x).run P w=.ok (.bool (if neg then !b else b)) w:=by
  cases neg
  ·have:binOp .eql t y x=(do pure (.bool (<-Op.equal t y x)):Sem Value):=by cases h <;> rfl
   simp_all
  ·have:binOp .neq t y x=(do pure (.bool (!(<-Op.equal t y x))):Sem Value):=by cases h <;> rfl
   simp_all
 simp_all
theorem AJ{l:TypeDesc}{k:Nat}{d:D}{v:Value}{b:Bool}(hk:uh l=some k)(e:V σ M Fz w d v)(h:isNil k d=some b) :
  ∃f,fq l v f b/\((k=0/\f=.pointer none)∨(k=1/\f=.map none)∨(k=2/\f=.nilFunc)∨(k=3/\f=.slice none 0 0)):=by
 cases l <;> simp only[uh,ab,reduceCtorEq] at hk <;> subst hk
 ·cases d with
  |ptr=>
   simp only[isNil,ab] at h;subst h;cases e with
   |ptr g=>exact ⟨_,.p1 _ g,.inl ⟨rfl,rfl⟩⟩
  |c x=>
   cases x with
   |bE=>
    simp only[isNil,ab] at h;subst h;cases e with
    |c e => cases e with
     |bE=>exact ⟨_,.p1 _ _,.inl ⟨rfl,rfl⟩⟩
   |lit u=>
    cases u <;> simp[isNil] at h
    rename_i p;cases p <;> simp at h
    subst h;rw[e.bx];exact ⟨_,.p0 _,.inl ⟨rfl,rfl⟩⟩
   |_=>grind [isNil]
  |_=>grind [isNil]
 ·cases d with
  |sl b off len ai sz=>
   cases len with
   |zero=>simp[isNil] at h
   |succ len=>
    simp only[isNil,ab] at h;subst h;cases e with
    |sl g n cap i=>
     cases g with
     |none=>simp_all
     |some g=>exact ⟨_,.s1 _ _ _ _,.inr (.inr (.inr ⟨rfl,rfl⟩))⟩
  |c x=>
   cases x with
   |bG nn o=>
    cases nn <;> simp only[isNil,ab,reduceCtorEq] at h
    subst h;have j:=e.lU;generalize m:C.bG true o=x at j;cases j with
    |bG ai g cap i=>simp only[C.bG.injEq] at m;obtain ⟨rfl,rfl⟩:=m;obtain ⟨q,rfl⟩:=VO.1 (i rfl);exact ⟨_,.s1 _ _ _ _,.inr (.inr (.inr ⟨rfl,rfl⟩))⟩
    |_=>grind
   |lit u=>
    cases u <;> try grind [isNil]
    rename_i p n c;cases p <;> cases n <;> cases c <;> simp[isNil] at h
    subst h;rw[e.bx];exact ⟨_,.s0 _,.inr (.inr (.inr ⟨rfl,rfl⟩))⟩
   |_=>grind [isNil]
  |_=>grind [isNil]
 ·cases d with
  |mp=>
   simp only[isNil,ab] at h;subst h;cases e with
   |mp=>exact ⟨_,.m1 _ _ _,.inr (.inl ⟨rfl,rfl⟩)⟩
  |c x=>
   cases x with
   |Ei=>
    simp only[isNil,ab] at h;subst h;cases e with
    |c e => cases e with
     |Ei=>exact ⟨_,.m1 _ _ _,.inr (.inl ⟨rfl,rfl⟩)⟩
   |lit u=>
    cases u <;> simp[isNil] at h
    rename_i p;cases p <;> simp at h
    subst h;rw[e.bx];exact ⟨_,.m0 _ _,.inr (.inl ⟨rfl,rfl⟩)⟩
   |_=>grind [isNil]
  |_=>grind [isNil]
 ·cases d with
  |fn=>
   simp only[isNil,ab] at h;subst h;cases e with
   |fn=>exact ⟨_,.f1 _ _ _ _ _ _,.inr (.inr (.inl ⟨rfl,rfl⟩))⟩
  |c x=>
   cases x with
   |fn=>
    simp only[isNil,ab] at h;subst h;cases e with
    |c e => cases e with
     |fn=>exact ⟨_,.f1 _ _ _ _ _ _,.inr (.inr (.inl ⟨rfl,rfl⟩))⟩
   |lit u=>
    cases u <;> simp[isNil] at h
    subst h;rw[e.bx];exact ⟨_,.f0 _ _ _,.inr (.inr (.inl ⟨rfl,rfl⟩))⟩
   |_=>grind [isNil]
  |_=>grind [isNil]
theorem qj{k:Nat}{x:Operand}{b:Value}(h:mM k x=true)(d:(k=0/\b=.pointer none)∨(k=1/\b=.map none)∨(k=2/\b=.nilFunc)∨(k=3/\b=.slice none 0 0)):x=.const b:=by
 unfold mM at h
 grind
theorem Fo(E:cf σ M Fz w env a.tmps){o:Oper}{t u:TypeId}{m:TypeDesc}{x y:Operand}{neg:Bool}{k n:Nat}{d:Bool}{p:ay}{b:Bool}
  (q:o.op=.binOp (if neg then .neq else .eql) t x y u) (r:P.underlying t=some m) (hk:uh m=some k) (f:qC k neg x y=some (.fS n d p)) (s:isNil n (p.ev env)=some b) :
  Yields P (execOp a.eval o) σ M Fz w (.c (.lit (.bool (if d then !b else b)))):=by
 unfold qC at f;split at f
 ·rename_i z;simp only[bq,iA.fS.injEq] at f;obtain ⟨j,g,rfl,rfl,rfl⟩:=f;obtain ⟨h,l,i⟩:=AJ hk (jc E g) s;obtain rfl:=qj z i;refine Yields.same (v:=.bool (if neg then !b else b)) ?_ (.c (.lit _));have:=(v_ r l neg x (.const h) w).1;simp only[execOp,q,Sem.run_bind];simp only[Sem.run_bind] at this;have e:a.eval (.const h)=h:=rfl
  simp_all
 ·split at f
  ·rename_i A;simp only[bq,iA.fS.injEq] at f;obtain ⟨j,g,rfl,rfl,rfl⟩:=f;obtain ⟨h,l,i⟩:=AJ hk (jc E g) s;obtain rfl:=qj A i;refine Yields.same (v:=.bool (if neg then !b else b)) ?_ (.c (.lit _));have:=(v_ r l neg y (.const h) w).2;simp only[execOp,q,Sem.run_bind];simp only[Sem.run_bind] at this;have e:a.eval (.const h)=h:=rfl
   simp_all
  simp_all
theorem mI{d:D}{v:Value}{n:Nat}(b:V σ M Fz w d v)(h:AV σ d=some n):∃g cap,v=.slice g n cap:=by
 unfold AV at h;split at h
 ·grind [V.bx]
 ·simp only[ab] at h;subst h;cases b with
  |c b => cases b with
   |bG=>simp_all
 ·split at h
  ·rename_i e;simp only[ab] at h;subst h;obtain ⟨j,e⟩:=VO.1 e;rcases b.ld e with ⟨f,k,_⟩ | ⟨c,o,cap,i,T,_,f,_⟩
   ·simp_all
   simp_all
  simp_all
 simp_all
theorem FC{es:List (List C)}{n:Nat}(h:∀e∈es,e.length=n):∀(i j:Nat) e d,es[i]? = some e->e[j]? = some d->es.flatten[i * n+j]? = some d:=by
 induction es with
 |nil=>simp_all
 |cons b es ih=>
  intro i j e d f g;have k:=h b (by simp);cases i with
  |zero=>grind
  |succ i=>grind
theorem DW{es:List (List C)}{n:Nat}(h:∀e∈es,e.length=n):es.flatten.length=es.length * n:=by
 induction es with
 |nil=>simp
 |cons b es ih=>grind
theorem M_(R:Rel σ M Fz w){d:D}{v:Value}{ai n:Nat}{cs:List D}(S:V σ M Fz w d v)(h0:ai≠0)(h:Nc σ ai n d=some cs) :
  ∃arr,(Builtin.firstCells ai n v).run P w=.ok arr w/\zr σ M Fz w cs arr/\cs.length=n * ai:=by
 have load:∀(l:Addr)(len cap:Nat)(cs:List D),v=.slice (some l) len cap->cs.length=n * ai ->
   (∀(i:Nat) x,cs[i]? = some x->∃u,w.cell? (l.add i)=some u/\V σ M Fz w x u/\u.oneCell'=true) ->
   ∃arr,(Builtin.firstCells ai n v).run P w=.ok arr w/\zr σ M Fz w cs arr/\cs.length=n * ai:=by
  intro l len cap cs g m r
  let f:Nat->Value:=λj=>(w.cell? (l.add j)).getD undef
  have hf:∀j,j<n * ai->w.cell? (l.add j)=some (f j):=by
   intro j O;obtain ⟨u,Q,_⟩:=r j _ (cE (by omega))
   grind
  have z:=run_loadCells (P:=P) (w:=w) l (n * ai) f hf;refine ⟨_,by rw[g];simp only[Builtin.firstCells];exact z,⟨by simp_all,λi x u Q h2=>?_⟩,m⟩
  grind
 have s:∀(cs:List D),n=0->cs=[]->(∃l len cap,v=.slice l len cap)->∃arr,(Builtin.firstCells ai n v).run P w=.ok arr w/\zr σ M Fz w cs arr/\cs.length=n * ai:=by
  intro cs t A ⟨l,len,cap,g⟩;subst t A;cases l with
  |none=>exact ⟨#[],by rw[g];rfl,⟨rfl,λi x u h=>by simp at h⟩,by simp⟩
  |some l=>simp_all
 unfold Nc at h;split at h
 ·split at h
  ·rename_i t;simp only[ab] at h;exact s cs t h.symm ⟨_,_,_,S.bx⟩
  simp_all
 ·rename_i nn k;split at h
  ·rename_i U;simp only[ab] at h;subst h;obtain ⟨t,ax⟩:=U;have m:∀e∈k.take n,e.length=ai:=λe he=>by grind
   have W:((k.take n).flatten.map D.c).length=n * ai:=by grind [DW,List.length_take]
   have E:=S.lU;generalize g:v=va at E;cases E with
   |bG sz l cap a4 _ c F G K X=>
    by_cases Y:n=0
    ·simp_all
    ·have hp:0<k.length:=by omega
     have Z:k[0]? = some k[0]:=cE hp;have a5:k[0].length=ai:=by grind
     have L:sz=ai:=by simp_all
     subst L;obtain ⟨blk,o0,rfl,_⟩:=K 0 0 k[0] (k[0][0]'(by omega)) Z (cE _);refine g▸load _ _ _ _ g W (λi x y=>?_);have p:i<n * sz:=by grind
     have a0:i / sz<n:=Nat.div_lt_of_lt_mul (by grind);have a1:i % sz<sz:=Nat.mod_lt _ (by omega);have hk:k[i / sz]? = some (k[i / sz]'(by omega)):=cE _;have af:(k.take n)[i / sz]? = some (k[i / sz]'(by omega)):=by simp_all
     have a6:(k[i / sz]'(by omega)).length=sz:=F _ (bZ _);have O:(k[i / sz]'(by omega))[i % sz]? = some ((k[i / sz]'(by omega))[i % sz]'(by omega)):=cE _;have N:=FC m (i / sz) (i % sz) _ _ af O;rw[show i / sz * sz+i % sz=i from by grind [Nat.div_add_mod]] at N;rw[gT,N] at y;simp only[Option.map_some,ab] at y;subst y;obtain ⟨a2,a7,Q,h2,h3,h4⟩:=K _ _ _ _ hk O;simp only[ab,Addr.mk.injEq,Kg] at Q;obtain ⟨rfl,rfl⟩:=Q;refine ⟨_,?_,.c (X _ _ _ _ hk O),h4⟩
     grind [dg,Nat.div_add_mod]
  simp_all
 ·rename_i b off len k sz;simp only[Option.bind_eq_bind,bC] at h;obtain ⟨row,hr,h⟩:=h;split at h
  ·rename_i U;obtain ⟨rfl,t,a8⟩:=U;simp only[ab] at h;subst h;obtain ⟨hb,F⟩:=FV hr;rcases S.ld hr with ⟨g,e2,_⟩ | ⟨c,o,cap,arr,T,hM,g,hl,a3,hh,G,_⟩
   ·simp_all
   by_cases Y:n=0
   ·simp_all
   ·have ak:o=off:=by
     omega
    subst ak;have a9:n * k<=len * k:=Ol _ t;obtain ⟨q,T',bc,bd,A⟩:=R.row hM hb;refine load _ _ _ _ g (by grind) (λi x y=>?_);have p:i<n * k:=by grind
    rw[Ya p,yBT] at y;have be:=(dT.1 y).1;have e:q[o+i]? = some (q[o+i]'(by omega)):=nE _
    grind [dg,Go.cell_of_row]
  simp_all
 simp_all
theorem VB(E:cf σ M Fz w env a.tmps){o:Oper}{t e:TypeId}{x:Operand}{g:ay}{args:Array Operand}{d:Array TypeId}{n:Nat}(i:o.op=.call { callee:=.builtin .len,args:=args,argTypes:=d })
  (j:d[0]? = some t) (k:args[0]? = some x) (hs:args.size=1) (l:ba x=some g) (m:P.underlying t=some (.slice e)) (h:AV σ (g.ev env)=some n) :
  Yields P (execOp a.eval o) σ M Fz w (.c (.lit (.int .i64 n))):=by
 obtain ⟨p,cap,f⟩:=mI (jc E l) h;have b:args=#[x]:=by grind
 subst b;refine Yields.same (v:=.int .i64 n) ?_ (.c (.lit _));simp[execOp,i,resolve,invoke,builtin,Builtin.len_,j,me m,f,goInt]
theorem Kw{o:Oper}{t e:TypeId}{x:Operand}{args:Array Operand}{d:Array TypeId}{n:Nat}(f:o.op=.call { callee:=.builtin .len,args:=args,argTypes:=d })
  (g:d[0]? = some t) (h:args[0]? = some x) (hs:args.size=1) (i:P.underlying t=some (.array n e)) :
  Yields P (execOp a.eval o) σ M Fz w (.c (.lit (.int .i64 n))):=by
 have b:args=#[x]:=by grind
 subst b;refine Yields.same (v:=.int .i64 n) ?_ (.c (.lit _));simp[execOp,f,resolve,invoke,builtin,Builtin.len_,g,me i,goInt]
theorem Lv(R:Rel σ M Fz w)(E:cf σ M Fz w env a.tmps){o:Oper}{t k e:TypeId}{x:Operand}{q:ay}{args:Array Operand}{m:Array TypeId}{n:Nat}(r:o.op=.call { callee:=.builtin .len,args:=args,argTypes:=m })
  (s:m[0]? = some t) (K:args[0]? = some x) (hs:args.size=1) (L:ba x=some q) (u:P.underlying t=some (.map k e))
  (h:(∃b y d,q.ev env=.mp b/\σ[b]? = some (.map y d)/\n=y.length)∨(q.ev env=.c (.lit (.map none))/\n=0)∨∃z,q.ev env=.c (.Ei z)/\n=z.length) :
  cz P (execOp a.eval o) σ M Fz w σ (.c (.lit (.int .i64 n))):=by
 have g:args=#[x]:=by grind
 subst g;refine cz.same R (v:=.int .i64 n) ?_ (.c (.lit _));have f:=jc E L;rcases h with ⟨b,y,d,p,G,rfl⟩ | ⟨p,rfl⟩ | ⟨z,p,rfl⟩
 ·rw[p] at f;generalize i:a.eval x=N at f;cases f with
  |mp c Y j O=>rw[G] at j;simp only[ab] at j;subst j;obtain ⟨_,Q,Z,A,S,T⟩:=R.blk b c (O rfl);rw[G] at A;simp only[ab] at A;subst A;obtain ⟨F,⟨ck,rfl,_⟩,l,_⟩:=T;simp[execOp,r,resolve,invoke,builtin,Builtin.len_,s,me u,i,goInt,getObj,Sem.run,S,l]
 ·rw[p] at f;simp[execOp,r,resolve,invoke,builtin,Builtin.len_,s,me u,f.bx,goInt]
 ·rw[p] at f;generalize i:a.eval x=N at f;cases f with
  |c f => cases f with
   |Ei blk d F hF U l W X=>simp[execOp,r,resolve,invoke,builtin,Builtin.len_,s,me u,i,goInt,getObj,Sem.run,U,l]
theorem IL(u:∀c,Fz c->c<w.heap.size)(E:cf σ M Fz w env a.tmps){o:Oper}{t e:TypeId}{x y:Operand}{S T:ay}{n:Nat}{i:TypeInfo}{z:List D}{l c:Int}(W:o.op=.makeSlice t x y)
  (X:P.underlying t=some (.slice e)) (Y:aQ P e=some n) (Z:Iu P e=some z) (A:P.info? e=some i) (g:¬(n=0∨z.length≠n)) (hx:ba x=some S) (hy:ba y=some T)
  (hl:oF (S.ev env)=some l) (hc:oF (T.ev env)=some c) (j:0<=l/\l<=c/\zn c.toNat i.bytes=true) :
  aj P (execOp a.eval o) σ M Fz w (.cells (oH l.toNat z)) (.sl σ.length 0 l.toNat n (l.toNat * n)):=by
 obtain ⟨i',v,f,hv,F⟩:=XW Z;rw[A] at f;simp only[ab] at f;subst f;have d:=zr.mz (V.cp (σ:=σ) (M:=M) (Fz:=Fz) (w:=w) v) F;simp only[not_or,KM] at g;obtain ⟨ad,k⟩:=g;have p:z≠[]:=λh=>by simp_all
 have af:v.cells.size=n:=by rw[d.1,k]
 obtain ⟨h0,ak,b⟩:=j;simp only[zn,aU,aM] at b;obtain ⟨⟨ax,a0⟩,_⟩:=b;obtain ⟨k1,G⟩:=gq (jc E hx) hl;obtain ⟨k2,K⟩:=gq (jc E hy) hc;obtain ⟨a1,L⟩:=vI d p l.toNat c.toNat (by omega);have N:(oH l.toNat z).length=l.toNat * n:=by rw[iF,k]
 have U:c<=1099511627776:=by omega
 have O:IntKind.i64.wrap l=l:=IntWalk.i64_in _ (by omega);have Q:IntKind.i64.wrap c=c:=IntWalk.i64_in _ (by omega)
 let arr:Array Value:=(Array.range (c.toNat * n)).map (λ(x:Nat)=>v.cells[x % v.cells.size]!)
 have q:arr=(Array.range (c.toNat * v.cells.size)).map (v.cells[· % v.cells.size]!):=by grind
 obtain ⟨r1,r2⟩:=lX (P:=P) u (arr:=arr) (cs:=oH l.toNat z) e (by simp_all) (by rw[q];exact L);refine ⟨_,.slice (some ⟨w.heap.size,0,none⟩) l.toNat c.toNat,?_,r2,?_⟩
 ·have r:∀m:Int,0<=m->m<=c->(m<0 || (i.bytes:Int) * m > 2 ^ 48)=false:=by
   intro m a2 R;have h1:(i.bytes:Int) * m<=i.bytes * c:=Int.mul_le_mul_of_nonneg_left R (by omega)
   grind
  simp only[execOp,W,Instr.makeSlice,Sem.run_bind,me X,Result.andThen_ok,G,K,asInt,asIntOf,Sem.run_pure,UU A,O,Q];rw[r c (by omega) (Int.le_refl _)];rw[if_neg (by simp_all)];simp only[Sem.run_bind,Sem.run_pure,Result.andThen_ok,run_askRoom,HX Y];by_cases s:c.toNat * n=0
  ·have a3:c.toNat=0:=by
    grind [Nat.mul_eq_zero]
   have a4:l.toNat=0:=by omega
   rw[if_pos s];simp only[Sem.run_bind,Sem.run_pure,Result.andThen_ok];have:(Array.range (c.toNat * n)).map (λ(x:Nat)=>(#[]:Array Value)[x % (#[]:Array Value).size]!)=arr:=by grind
   simp_all
  ·rw[if_neg s];simp only[Sem.run_bind,eQ A hv,Result.andThen_ok,Sem.run_pure]
   simp_all
 ·rw[<-N];refine V.Nl (cap:=c.toNat) (by omega) ?_ (by omega) (by simp_all)
  grind
end
end Go.Abs
end
section
namespace Go.Abs
variable[Gl]
section
variable{P:Program}{σ σ':aa}{M M':Nat->Option Nat}{Fz:Nat->Prop}{w w':World}{env:List D}{a:Act}
theorem Qf{o:Oper}{t:TypeId}(b:o.op=.makeMap t none):aj P (execOp a.eval o) σ M Fz w (.map [] 0) (.mp σ.length):=by
 refine ⟨.map #[] 0,.map (some w.heap.size),?_,?_,?_⟩
 ·simp only[execOp,b,Instr.makeMap,Option.map_none,Sem.run_bind,Sem.run_pure,Result.andThen_ok,run_newObj];rfl
 ·exact ⟨#[],⟨0,rfl,.nil 0⟩,rfl,λi k d n e h=>by simp at h⟩
 ·exact .mp _ (.map [] 0) (by simp) (λ_=>by simp[rS])
theorem Rel.Ff(R:Rel σ M Fz w){b c:Nat}{es:List (Value×D×Nat)}{j:Nat}(u:σ[b]? = some (.map es j))(x:M b=some c) :
  ∃arr o,w.heap[c]? = some (.map arr o)/\(arr.size=es.length/\fX arr o)/\∀(i:Nat) k d n e,es[i]? = some (k,d,n)->arr[i]? = some e->e.key=k/\True/\V σ M Fz w d e.val:=by
 obtain ⟨_,z,F,s,G,A⟩:=R.blk b c x;rw[u] at s;simp only[ab] at s;subst s;obtain ⟨arr,⟨o,rfl,K⟩,E,L⟩:=A
 grind
theorem V.xJ{b:Nat}{v:Value}{es:List (Value×D×Nat)}{i:Nat}(h:V σ M Fz w (.mp b) v)(o:σ[b]? = some (.map es i)):∃c,v=.map (some c)/\M b=some c:=by
 cases h with
 |mp c u j s=>rw[o] at j;simp only[ab] at j;subst j;exact ⟨c,rfl,s rfl⟩
theorem WW{d:TypeId}{e:TypeDesc}(f:P.underlying d=some e)(hs:QE e=true)(b:Bool)(v:Value)(w:World):(Instr.checkKey b 10000 d v).run P w=.ok () w:=by show (Instr.checkKey b (9999+1) d v).run P w=_;generalize 9999=n;unfold Instr.checkKey;cases e <;> simp[QE] at hs <;> simp[me f]
theorem yC{kind:TypeDesc}{k:Value}:∀(es:List (Value×D×Nat))(l:List MapEntry)(i:Nat)(r:Option (Nat×D)),l.length=es.length ->
  (∀(j:Nat) k d n e,es[j]? = some (k,d,n)->l[j]? = some e->e.key=k/\V σ M Fz w d e.val)->mY kind k es i=some r ->
  ∃ b, Instr.findNow kind k l i = some b /\ (match r, b with
   |none,none=>True
   |some (j,d),some (m,v)=>j=m/\i<=j/\j<i+es.length/\V σ M Fz w d v/\∃e,l[j-i]? = some e/\Instr.sameNow kind k e.key=some true
   |_,_=>False):=by
 intro es;induction es with
 |nil=>
  intro l i r o _ h;simp only[mY,ab] at h;subst h;have:l=[]:=by simp_all
  subst this;exact ⟨none,rfl,trivial⟩
 |cons x es ih=>
  intro l i r o f h;obtain ⟨g,d,n⟩:=x;cases l with
  |nil=>grind
  |cons e l=>
   obtain ⟨hk,s⟩:=f 0 g d n e (by simp) (by simp);simp only[mY] at h;simp only[Instr.findNow,hk];cases hs:Instr.sameNow kind k g with
   |none=>simp_all
   |some t=>
    cases t with
    |true=>grind
    |false=>
     simp only[hs] at h;obtain ⟨b,p,q⟩:=ih l (i+1) r (by simp_all) (λj k d n e p q=>f (j+1) k d n e (by simp_all) (by simp_all)) h
     grind
theorem vF{d:D}{v b:Value}(h:V σ M Fz w d b)(e:fA d=some v):b=v:=by
 cases d with
 |c x=>cases x <;> simp[fA] at e;grind [V.bx]
 |_=>grind [fA]
theorem Ls(R:Rel σ M Fz w)(E:cf σ M Fz w env a.tmps){o:Oper}{t kt e:TypeId}{X:TypeDesc}{m k:Operand}{Y ok:ay}{f:Bool}{zero d:D}{s:Bool}{Z:Value}{es:List (Value×D×Nat)}{r:Option (Nat×D)}
  (ho:o.op=.lookup t m k f) (hu:P.underlying t=some (.map kt e)) (hk:P.underlying kt=some X) (hs:QE X=true) (hz:zeroOf P e=some zero) (hm:ba m=some Y) (ad:ba k=some ok)
  (af:fA (ok.ev env)=some Z) (ak:(Y.ev env=.c (.lit (.map none))/\es=[])∨(∃b g,Y.ev env=.mp b/\σ[b]? = some (.map es g))∨∃fs,Y.ev env=.c (.Ei fs)/\es=fs.map λp=>(p.1,.c p.2,0))
  (hf:mY X Z es 0=some r) (hr:(d,s)=Dr zero r) :
  cz P (execOp a.eval o) σ M Fz w σ (if f then .aB [d,.c (.lit (.bool s))] else d):=by
 have F:=vF (jc E ad) af;obtain ⟨i,K,hi,N,ax⟩:∃i K,P.info? e=some i/\i.zero=some K/\zero=cp K:=by
  unfold zeroOf at hz
  grind [Option.map_eq_some_iff]
 have G:=jc E hm;obtain ⟨l,O,a0,Q⟩:∃l:Array MapEntry,((a.eval m=.map none/\l=#[])∨∃c,a.eval m=.map (some c)/\∃g,(getObj c).run P w=.ok (.map l g) w)/\l.size=es.length /\
   ∀(i:Nat) k d n e,es[i]? = some (k,d,n)->l[i]? = some e->e.key=k/\V σ M Fz w d e.val:=by
  rcases ak with ⟨S,rfl⟩ | ⟨b,g,S,hb⟩ | ⟨fs,S,rfl⟩
  ·rw[S] at G;exact ⟨#[],.inl ⟨G.bx,rfl⟩,rfl,λi k d n e h=>by simp at h⟩
  ·rw[S] at G;obtain ⟨c,A,hM⟩:=G.xJ hb;obtain ⟨l,ck,T,⟨h2,_⟩,h3⟩:=R.Ff hb hM
   grind [Go.getObj,Go.Sem.run]
  ·rw[S] at G;generalize A:a.eval m=va at G;cases G with
   |c G => cases G with
    |Ei blk g l hF hh a0 a1 a2=>refine ⟨l,.inr ⟨blk,rfl,g,by simp[getObj,Sem.run,hh]⟩,by simp_all,λi k d n e x y=>?_⟩;simp only[gT,bq,aC] at x;obtain ⟨p,hp,rfl,rfl,_⟩:=x;exact ⟨a1 i p e hp y,.c (a2 i p e hp y)⟩
 obtain ⟨U,a3,a4⟩:=yC (kind:=X) (k:=Z) es l.toList 0 r (by omega)
  (λj k d n e T h2=>Q j k d n e T (by simp_all)) hf
 have L:(Instr.findKey kt Z l.toList).run P w=.ok U w:=by simp only[Instr.findKey,Sem.run_bind,me hk,Result.andThen_ok,a3,Sem.run_pure]
 have W:∀v z,(U=none/\v=K/\z=false∨∃j,U=some (j,v)/\z=true) ->
   (execOp a.eval o).run P w=.ok (.value (if f then .tuple #[v,.bool z] else v)) w:=by
  intro v z h;rcases h with ⟨rfl,rfl,rfl⟩ | ⟨j,rfl,rfl⟩ <;> rcases O with ⟨A,rfl⟩ | ⟨c,A,g,hg⟩
  ·simp only[execOp,ho,Instr.lookup,Sem.run_bind,me hu,Result.andThen_ok,A,Sem.run_pure,F,WW hk hs,L,eQ hi N]
  ·simp only[execOp,ho,Instr.lookup,Sem.run_bind,me hu,Result.andThen_ok,A,hg,Sem.run_pure,F,WW hk hs,L,eQ hi N]
  ·grind
  ·simp only[execOp,ho,Instr.lookup,Sem.run_bind,me hu,Result.andThen_ok,A,hg,Sem.run_pure,F,WW hk hs,L]
 have fin:∀v z,V σ M Fz w d v->s=z->V σ M Fz w (if f then .aB [d,.c (.lit (.bool s))] else d) (if f then .tuple #[v,.bool z] else v):=by
  intro v z hV ht;subst ht;cases f
  ·exact hV
  ·refine .aB _ rfl (λi x u T h2=>?_)
   match i with
   |0=>simp_all
   |1=>simp at T h2;subst T h2;exact .c (.lit _)
   |i+2=>grind
 cases r with
 |none=>
  cases U with
  |some _=>simp_all
  |none=>simp only[Dr,aC] at hr;obtain ⟨rfl,rfl⟩:=hr;exact cz.same R (W K false (.inl ⟨rfl,rfl,rfl⟩)) (fin K false (ax▸V.cp K) rfl)
 |some p=>
  obtain ⟨j,d'⟩:=p;cases U with
  |none=>simp_all
  |some q=>
   obtain ⟨j',v⟩:=q;obtain ⟨rfl,_,_,hV,_⟩:=a4;simp only[Dr,aC] at hr
   grind [cz.same]
theorem HJ{b:TypeDesc}{x y:Value}(hs:QE b=true)(h:Instr.sameNow b x y=some true):x=y/\∀n,Instr.sameBits n x y=true:=by
 cases b <;> simp[QE] at hs
 cases x <;> cases y <;> simp[Instr.sameNow] at h
 obtain ⟨rfl,rfl⟩:=h;exact ⟨rfl,λn=>by grind [Go.Instr.sameBits]⟩
theorem XB(R:Rel σ M Fz w)(E:cf σ M Fz w env a.tmps){o:Oper}{t kt e:TypeId}{kd:TypeDesc}{m k x:Operand}{om ok W:ay}{K:Value}{b f:Nat}{es:List (Value×D×Nat)}{r:Option (Nat×D)}
  (ho:o.op=.mapUpdate t m k x∨o.op=.insert t m k x) (hu:P.underlying t=some (.map kt e)) (hk:P.underlying kt=some kd) (hs:QE kd=true) (hm:ba m=some om) (a4:ba k=some ok) (hx:ba x=some W)
  (a5:fA (ok.ev env)=some K) (he:om.ev env=.mp b) (Z:σ[b]? = some (.map es f)) (hf:mY kd K es 0=some r) :
  cz P (execOp a.eval o) σ M Fz w (σ.set b (match r with
   |some (i,_)=>.map (es.modify i λ(k,_,n)=>(k,W.ev env,n)) f
   |none=>.map (es++[(K,W.ev env,f)]) (f+1))) (.aB []):=by
 have ad:execOp a.eval o=execOp a.eval { o with op:=.mapUpdate t m k x }:=by rcases ho with ho | ho <;> simp only[execOp,ho]
 have N:=vF (jc E a4) a5;have hv:=jc E hm;rw[he] at hv;have af:=jc E hx;obtain ⟨c,ak,hM⟩:=hv.xJ Z;obtain ⟨g,O,Q,⟨a6,hB⟩,s⟩:=R.Ff Z hM;obtain ⟨r',a7,a8⟩:=yC (kind:=kd) (k:=K) es g.toList 0 r (by omega)
  (λj k d n e Q F=>let ⟨x,_,y⟩:=s j k d n e Q (by simp_all);⟨x,y⟩) hf
 have ax:(Instr.findKey kt K g.toList).run P w=.ok r' w:=by simp only[Instr.findKey,Sem.run_bind,me hk,Result.andThen_ok,a7,Sem.run_pure]
 have a0:(getObj c).run P w=.ok (.map g O) w:=by simp[getObj,Sem.run,Q]
 have a1:∀G,(setObj c G).run P w=.ok () (ew w c G):=by intro G;simp only[setObj,Sem.run,Q];rfl
 have u:∀G:Obj,∀S T fr,Obj.map g O=.cells S T fr->∃U,G=.cells U T fr/\U.size=S.size:=by simp_all
 have fin:∀z G,z.sz=0->(execOp a.eval o).run P w=.ok .skip (ew w c G)->bb (σ.set b z) M Fz (ew w c G) z G->cz P (execOp a.eval o) σ M Fz w (σ.set b z) (.aB []):=by
  intro z G hz a2 a9;have A:(Ob.map es f).sz<=z.sz:=by simp[Ob.sz]
  exact ⟨.skip,undef,_,M,a2,.inr ⟨rfl,rfl⟩,R.rK hM Z Q A (u G) a9,.aB #[] rfl (λi d v h=>by simp at h),aW.rK R hM Z Q A (u G),by simp⟩
 cases r with
 |none=>
  cases r' with
  |some _=>simp_all
  |none=>
   refine fin (.map (es++[(K,W.ev env,f)]) (f+1)) (.map (g.push { key:=K,val:=a.eval x,born:=O }) (O+1)) rfl ?_ ?_
   ·rw[ad];simp only[execOp,Instr.mapUpdate,Sem.run_bind,me hu,Result.andThen_ok,ak,a0,N,WW hk hs,ax,a1,Sem.run_pure]
   ·have A:(Ob.map es f).sz<=(Ob.map (es++[(K,W.ev env,f)]) (f+1)).sz:=by simp[Ob.sz]
    have EV:=aW.rK R hM Z Q A (u (.map (g.push { key:=K,val:=a.eval x,born:=O }) (O+1)));refine ⟨_,⟨_,rfl,hB.push _ _⟩,by grind,λi k' d n en F L=>?_⟩;by_cases hi:i<es.length
    ·rw[CU hi] at F;rw[Array.getElem?_push_lt (by omega)] at L;obtain ⟨x1,x2,x3⟩:=s i k' d n en F (by simp_all);exact ⟨x1,x2,x3.mono EV⟩
    ·have bc:=(dT.1 F).1;simp at bc;have:i=es.length:=by omega
     subst this;rw[Jo (bQ _)] at F;simp at F;obtain ⟨rfl,rfl,rfl⟩:=F;rw[<-a6] at L;simp at L;subst L;exact ⟨rfl,trivial,af.mono EV⟩
 |some p=>
  obtain ⟨j,d'⟩:=p;cases r' with
  |none=>simp_all
  |some q=>
   obtain ⟨j',v⟩:=q;obtain ⟨rfl,_,hj,_,bd,l,be⟩:=a8;simp only[Nat.sub_zero,Gq] at l;obtain ⟨a3,X⟩:=HJ hs be;have bi:j<g.size:=(CS.1 l).1;have bh:∀Y new,Instr.sameBits 10000 Y new=true->(Instr.keyThatStays Y new).run P w=.ok new w:=by intro Y new h;simp only[Instr.keyThatStays,h,if_true,Sem.run_pure]
   refine fin (.map (es.modify j λ(k,_,n)=>(k,W.ev env,n)) f) (.map (g.modify j λe=>{ e with key:=K,val:=a.eval x }) O) rfl ?_ ?_
   ·rw[ad];simp only[execOp,Instr.mapUpdate,Sem.run_bind,me hu,Result.andThen_ok,ak,a0,N,WW hk hs,ax];rw[l];simp only[Option.map_some,Option.getD_some];rw[bh _ _ (by have:=X 10000;rw[a3] at this ⊢;exact this)];simp only[Result.andThen_ok,a1,Sem.run_pure]
   ·have A:(Ob.map es f).sz<=(Ob.map (es.modify j λ(k,_,n)=>(k,W.ev env,n)) f).sz:=by simp[Ob.sz]
    have EV:=aW.rK R hM Z Q A (u (.map (g.modify j λe=>{ e with key:=K,val:=a.eval x }) O));refine ⟨_,⟨_,rfl,hB.same (by
     apply L_
     grind)⟩,by grind,λi k' d n en F L=>?_⟩
    rw[List.getElem?_modify] at F;rw[Array.getElem?_modify] at L;by_cases hi:j=i
    ·subst hi;rw[l] at L;simp only[if_true,Option.map_some,ab] at L;subst L;cases h4:es[j]? with
     |none=>simp_all
     |some p=>obtain ⟨k0,d0,n0⟩:=p;simp[h4] at F;obtain ⟨rfl,rfl,rfl⟩:=F;obtain ⟨x1,x2,_⟩:=s j k0 d0 n0 bd h4 l;exact ⟨by simp_all,x2,af.mono EV⟩
    ·simp only[hi,bm] at F L;obtain ⟨x1,x2,x3⟩:=s i k' d n en (by simp_all) (by omega);exact ⟨x1,x2,x3.mono EV⟩
theorem Bb:∀(l:List (Value×D×Nat))(i:Nat),(jQ i l).length=l.length
 |[],_=>rfl
 |(_,_,_)::l,i=>by simp[jQ,Bb l]
theorem Bc:∀(l:List (Value×D×Nat))(i j:Nat)(k:Value)(d:D)(n:Nat),(jQ i l)[j]? = some (k,d,n)->∃m,l[j]? = some (k,d,m)
 |[],_,_,_,_,_,h=>by grind [jQ]
 |(b, d0, e) :: l, i, 0, k, d, n, h => by grind [jQ]
 |(b, d0, e) :: l, i, j + 1, k, d, n, h => by simp only[jQ,List.getElem?_cons_succ] at h ⊢;exact Bc l (i+1) j k d n h
theorem VL(R:Rel σ M Fz w)(E:cf σ M Fz w env a.tmps){o:Oper}{t kt e:TypeId}{kd:TypeDesc}{m k:Operand}{om ok:ay}{Q:Value}{b f:Nat}{es:List (Value×D×Nat)}{r:Option (Nat×D)}{args:Array Operand}{S:Array TypeId}
  (ho:o.op=.call { callee:=.builtin .delete,args:=args,argTypes:=S }) (ht:S[0]? = some t) (a7:args[0]? = some m) (a8:args[1]? = some k) (hu:P.underlying t=some (.map kt e)) (hk:P.underlying kt=some kd) (hs:QE kd=true) (hm:ba m=some om) (ax:ba k=some ok)
  (a0:fA (ok.ev env)=some Q) (he:om.ev env=.mp b) (O:σ[b]? = some (.map es f)) (hf:mY kd Q es 0=some r) :
  cz P (execOp a.eval o) σ M Fz w (σ.set b (match r with
   |some (i,_)=>.map (jQ 0 (es.eraseIdx i)) (f-1)
   |none=>.map es f)) (.aB []):=by
 have a6:=vF (jc E ax) a0;have hv:=jc E hm;rw[he] at hv;obtain ⟨c,a9,U⟩:=hv.xJ O;obtain ⟨g,A,F,⟨a1,hB⟩,l⟩:=R.Ff O U;obtain ⟨r',a2,a3⟩:=yC (kind:=kd) (k:=Q) es g.toList 0 r (by omega)
  (λj k d n e F z=>let ⟨x,_,y⟩:=l j k d n e F (by simp_all);⟨x,y⟩) hf
 have W:(Instr.findKey kt Q g.toList).run P w=.ok r' w:=by simp only[Instr.findKey,Sem.run_bind,me hk,Result.andThen_ok,a2,Sem.run_pure]
 have X:(getObj c).run P w=.ok (.map g A) w:=by simp[getObj,Sem.run,F]
 have Y:∀u,(setObj c u).run P w=.ok () (ew w c u):=by intro u;simp only[setObj,Sem.run,F];rfl
 have s:∀u:Obj,∀G T fr,Obj.map g A=.cells G T fr->∃K,u=.cells K T fr/\K.size=G.size:=by simp_all
 have Z:(args.map a.eval)[0]? = some (.map (some c)):=by simp_all
 have ad:(args.map a.eval)[1]? = some Q:=by simp_all
 have fin:∀ob' u,ob'.sz=0->(execOp a.eval o).run P w=.ok (.value (.tuple #[])) (ew w c u)->bb (σ.set b ob') M Fz (ew w c u) ob' u->cz P (execOp a.eval o) σ M Fz w (σ.set b ob') (.aB []):=by
  intro ob' u hz af a4;have ak:(Ob.map es f).sz<=ob'.sz:=by simp[Ob.sz]
  exact ⟨.value (.tuple #[]),.tuple #[],_,M,af,.inl rfl,R.rK U O F ak (s u) a4,.aB #[] rfl (λi d v h=>by simp at h),aW.rK R U O F ak (s u),by simp⟩
 cases r with
 |none=>
  cases r' with
  |some _=>simp_all
  |none=>
   refine fin (.map es f) (.map g A) rfl ?_ ?_
   ·simp only[execOp,ho,resolve,invoke,builtin,Builtin.delete_,ht,Z,ad,Sem.run_bind,Sem.run_pure,me hu,Result.andThen_ok,X,WW hk hs,W,Y]
   ·have EV:=aW.rK R U O F (ob':=.map es f) (bQ _) (s (.map g A));exact ⟨g,⟨A,rfl,hB⟩,a1,λi k' d n en z N=>by obtain ⟨x1,x2,x3⟩:=l i k' d n en z N;exact ⟨x1,x2,x3.mono EV⟩⟩
 |some p=>
  obtain ⟨j,d'⟩:=p;cases r' with
  |none=>simp_all
  |some q=>
   obtain ⟨j',v⟩:=q;obtain ⟨rfl,_,hj,_,bc,L,bd⟩:=a3;simp only[Nat.sub_zero,Gq] at L;have be:j<g.size:=(CS.1 L).1;have a5:(g.eraseIdxIfInBounds j).toList=g.toList.eraseIdx j:=by simp_all
   refine fin (.map (jQ 0 (es.eraseIdx j)) (f-1)) (.map (g.eraseIdxIfInBounds j) A) rfl ?_ ?_
   ·simp only[execOp,ho,resolve,invoke,builtin,Builtin.delete_,ht,Z,ad,Sem.run_bind,Sem.run_pure,me hu,Result.andThen_ok,X,WW hk hs,W,Y]
   ·have EV:=aW.rK R U O F (ob':=.map (jQ 0 (es.eraseIdx j)) (f-1)) (by simp[Ob.sz]) (s (.map (g.eraseIdxIfInBounds j) A));refine ⟨_,⟨A,rfl,hB.sub (by grind)⟩,?_,λi k' d n en z N=>?_⟩
    ·grind [Bb]
    ·obtain ⟨m',z⟩:=Bc _ _ _ _ _ _ z;rw[<-Gq,a5,List.getElem?_eraseIdx] at N;rw[List.getElem?_eraseIdx] at z;split at z
     ·rename_i hi;rw[if_pos hi,Gq] at N;obtain ⟨x1,_,x3⟩:=l i k' d m' en z N;exact ⟨x1,trivial,x3.mono EV⟩
     ·rename_i hi;rw[if_neg hi,Gq] at N;obtain ⟨x1,_,x3⟩:=l (i+1) k' d m' en z N;exact ⟨x1,trivial,x3.mono EV⟩
end
end Go.Abs
end
section
namespace Go.Abs
variable[Gl]
section
variable{P:Program}{σ σ':aa}{M M':Nat->Option Nat}{Fz:Nat->Prop}{w w':World}{env:List D}{a:Act}
theorem LW(n:Nat):∀(r c:Nat),c<=n+(n+768) / 4->Builtin.growBy n r c<=n+(n+768) / 4:=by
 intro r;induction r with
 |zero=>intro c h;exact h
 |succ r ih=>grind [Go.Builtin.growBy]
theorem Gn(n c:Nat)(h:c<n):Builtin.nextslicecap n c<=2 * n+1000:=by grind [Go.Builtin.nextslicecap,LW]
theorem JB{c:Nat}{o:Obj}(h:w.heap[c]? = some o):ew w c o=w:=by
 unfold ew;have:w.heap.setIfInBounds c o=w.heap:=by grind
 rw[this]
theorem dJ(P:Program)(T:TypeId)(c:Nat)(xs:List Value)(off:Nat)(w:World)(arr:Array Value)
  (h:w.heap[c]? = some (.cells arr T (0,0))) (b:∀x∈xs,x.oneCell'=true) (e:off+xs.length<=arr.size) :
  (storeCells ⟨c,off,none⟩ xs).run P w=.ok () (ew w c (.cells (fH arr off xs) T (0,0))):=by
 rw[pB P T c xs 0 off w arr h b (by omega)];congr 1;split
 ·rename_i d;subst d;have:fH arr off []=arr:=by grind [fH]
  grind [JB]
 ·rfl
theorem zr.TQ{cs:List D}{arr:Array Value}(h:zr σ M Fz w cs arr):∀u∈arr.toList,u.oneCell'=true:=by intro u o;obtain ⟨i,j,rfl⟩:=List.mem_iff_getElem.1 o;simp only[Array.length_toList] at j;exact (h.2 i _ _ (cE (by rw[<-h.1];exact j)) (nE (by omega))).2
theorem mU {t y e:TypeId} {A:TypeId} {k:Array TypeId} {ty:TypeId} {args:Array Value} {g:Option Addr} {d f n h:Nat} {m:Option Addr} {ai:Nat} {i:TypeInfo} {z:Value}
    (E:k[0]? = some t) (p:k[1]? = some y) (F:P.underlying t=some (.slice e)) (q:P.underlying y=some (.slice A)) (s:aQ P e=some ai) (o:P.info? e=some i) (G:i.zero=some z)
    (K:args[0]? = some (.slice g d f)) (L:args[1]? = some (.slice m n h)) (j:zn (d+n) i.bytes=true) (w:World) :
    (Builtin.append_ k ty args).run P w =
      if d+n≤f then
        ((Builtin.firstCells ai n (.slice m n h)).run P w).andThen fun new w1=>
          match (generalizing:=false) g with
          | some b=>((storeCells (b.add (d * ai)) new.toList).run P w1).andThen fun _ w2=>.ok (.slice g (d+n) f) w2
          | none=>.ok (.slice g (d+n) f) w1
      else
        ((Builtin.firstCells ai d (.slice g d f)).run P w.drew).andThen fun u w1=>
          ((Builtin.firstCells ai n (.slice m n h)).run P w1).andThen fun new w2=>
            ((newRow e (u++new++Builtin.zeroCells z.cells ((Question.appendCap (d+n) f e).cut (w.tape w.drawn (.appendCap (d+n) f e))-(d+n)))).run P w2).andThen fun r w3=>
              .ok (.slice (some r) (d+n) ((Question.appendCap (d+n) f e).cut (w.tape w.drawn (.appendCap (d+n) f e)))) w3:=by
  simp only [zn,aU,aM] at j
  obtain ⟨⟨N,O⟩,Q⟩:=j
  have l:∀w,(Builtin.lenOf (.slice m n h)).run P w=.ok n w:=fun w=>rfl
  simp only [Builtin.append_,E,p,K,L,Sem.run_bind,me F,me q,HX s,Result.andThen_ok,Sem.run_pure,aV,bm,Bool.not_false,if_true,l]
  split
  · grind [Go.Sem.run_bind,Go.Sem.run_pure]
  · rename_i R
    have v:¬(((d+n:Nat):Int) > IntKind.i64.max∧(False∨i.bytes=0)):=by
      have:IntKind.i64.max=9223372036854775807:=by decide
      omega
    have x:¬(Builtin.nextslicecap (d+n) f * i.bytes > 2 ^ 48):=by
      have S:=Gn (d+n) f (by omega)
      have T:Builtin.nextslicecap (d+n) f * i.bytes≤(2 * (d+n)+1000) * i.bytes:=Ol _ S
      grind
    simp only [Sem.run_bind,UU o,Result.andThen_ok,aV]
    rw [if_neg v]
    simp only [Sem.run_bind,Sem.run_pure,UU o,Result.andThen_ok]
    rw [if_neg x]
    simp only [Sem.run_bind,Sem.run_pure,UU o,Result.andThen_ok,run_choose,Question.forced,aV,bm,run_askRoom,eQ o G,World.drew_eq]
theorem Ig(n c:Nat)(e:TypeId)(t:Nat):n<=(Question.appendCap n c e).cut t:=by grind [Go.Question.cut]
theorem jx(z:Array Value)(n:Nat):(Builtin.zeroCells z n).size=n * z.size:=by simp[Builtin.zeroCells]
theorem aW.ph(R:Rel σ M Fz w):aW σ M Fz w (σ++[.cells []]) M Fz w:={
 size:=bQ _
 frame:=λ_ _ _=>rfl
 hY:=λb c h=>.inl ⟨b,h⟩
 fz:=λc h=>⟨h,rfl⟩
 jj:=λc h=>.inl h
 lm:=λc i T o h=>⟨i,h,rfl⟩
 bX:=λb j h=>⟨j,by grind,bQ _,λ_=>rfl⟩
 out:=⟨rfl,rfl,rfl⟩ }
theorem Rel.ph(R:Rel σ M Fz w):Rel (σ++[.cells []]) M Fz w:=⟨λb c h=>by obtain ⟨i,j,o,x,s,u⟩:=R.blk b c h;exact ⟨i,j,o,by grind,s,u.mono (aW.ph R)⟩,R.inj,R.fz,R.gl⟩
theorem LD(R:Rel σ M Fz w)(E:cf σ M Fz w env a.tmps){o:Oper}{t t1 e et:TypeId}{args:Array Operand}{a6:Array TypeId}{s x:Operand}{os ox:ay}{ai:Nat}{i:TypeInfo}{z:List D}{d:D}{wr:List Nat}
  (ho:o.op=.call { callee:=.builtin .append,args:=args,argTypes:=a6 }) (ht:a6[0]? = some t) (a7:a6[1]? = some t1) (c5:args[0]? = some s) (c6:args[1]? = some x)
  (hu:P.underlying t=some (.slice e)) (a8:P.underlying t1=some (.slice et)) (a9:aQ P e=some ai) (hi:P.info? e=some i) (hz:Iu P e=some z) (q:¬(ai=0∨z.length≠ai))
  (hs:ba s=some os) (hx:ba x=some ox)
  (h:(do
  let xd:=ox.ev env
  let n <-AV σ xd
  let new <-Nc σ ai n xd
  match os.ev env with
  |.c (.lit (.slice none 0 0))=>if zn n i.bytes then some (.sl σ.length 0 n ai (n * ai),σ++[.cells new],[]) else none
  |.sl b off len m sz => do
   let cs <-jZ σ b sz
   if m=ai/\off=0/\len * ai=sz/\zn (len+n) i.bytes then
    if n=0 then some (.sl b 0 len ai sz,σ,[b])
    else some (.sl b 0 (len+n) ai (sz+n * ai),σ.set b (.cells (cs++new)),[b])
   else if m=ai/\off=0/\(len+n) * ai<=sz/\zn (len+n) i.bytes then
    if n=0 then some (.sl b 0 len ai sz,σ,[b])
    else some (.sl b 0 (len+n) ai sz,σ.set b (.cells (put cs (len * ai) new)),[b])
   else none
  |_=>none)=some (d,σ',wr)):cz P (execOp a.eval o) σ M Fz w σ' d:=by
 obtain ⟨i',zv,bi,bc,ck⟩:=XW hz;rw[hi] at bi;simp only[ab] at bi;subst bi;simp only[not_or,KM] at q;obtain ⟨p,c7⟩:=q;have bk:zv.cells.size=ai:=by have:=(zr.mz (V.cp (σ:=σ) (M:=M) (Fz:=Fz) (w:=w) zv) ck).1;omega
 simp only[Option.bind_eq_bind,bC] at h;obtain ⟨n,hn,new,A,h⟩:=h;have S:=jc E hx;have ad:=jc E hs;obtain ⟨cm,b1,U⟩:=mI S hn;have a1:∀r,(Builtin.append_ a6 o.type (args.map a.eval)).run P w=r->(execOp a.eval o).run P w=r.andThen λv w'=>.ok (.value v) w':=by intro r hr;simp only[execOp,ho,resolve,invoke,builtin,Sem.run_bind,Sem.run_pure,Result.andThen_ok,hr]
 have bd:(args.map a.eval)[1]? = some (.slice cm n b1):=by simp_all
 split at h
 ·rename_i bl;rw[bl] at ad;have c8:=ad.bx;have af:(args.map a.eval)[0]? = some (.slice none 0 0):=by simp_all
  split at h
  ·rename_i F;have f:=mU (ty:=o.type) ht a7 hu a8 a9 hi bc af bd (by simp_all) w;simp only[ab,aC] at h;obtain ⟨rfl,rfl,_⟩:=h;by_cases q:n=0
   ·subst q;obtain ⟨arr,l,g,k⟩:=M_ (P:=P) R S p A;rw[U] at l;rw[if_pos (by omega),l] at f;have he:new=[]:=QI (by omega);subst he;refine ⟨.value (.slice none 0 0),.slice none 0 0,w,M,by simp_all,.inl rfl,R.ph,?_,aW.ph R,by simp⟩;exact .sl none 0 0 (by simp) (.cells []) (by simp) (by omega) (λ_=>.inl ⟨rfl,rfl,rfl,rfl,rfl,by simp⟩)
   ·rw[if_neg (by omega)] at f;simp only[Dn] at f;have EH:aW σ M Fz w σ M Fz w.drew:=aW.heap R rfl ⟨rfl,rfl,rfl⟩;have R1:Rel σ M Fz w.drew:=R.heap rfl ⟨rfl,rfl,rfl⟩;obtain ⟨arr,l,g,k⟩:=M_ (P:=P) R1 (S.mono EH) p A;rw[U] at l;have a2:(Builtin.firstCells ai 0 (.slice none 0 0)).run P w.drew=.ok #[] w.drew:=rfl;rw[a2] at f;simp only[Result.andThen_ok,l] at f;have a3:=Ig n 0 e (w.tape w.drawn (.appendCap n 0 e));generalize (Question.appendCap n 0 e).cut (w.tape w.drawn (.appendCap n 0 e))=W at f a3;have hm:n * ai+(W-n) * ai=W * ai:=by rw[<-Ph];simp_all
    have a4:(#[]++arr++Builtin.zeroCells zv.cells (W-n)).size=W * ai:=by simp only[Array.size_append,jx,bk,g.1,k,Array.size_empty];omega
    obtain ⟨r1,r2⟩:=lX (P:=P) R1.fz (cs:=new) (arr:=#[]++arr++Builtin.zeroCells zv.cells (W-n)) e (by omega) (λj y u Q O=>by have hj:=(dT.1 Q).1;rw[XC (by simp[g.1];exact hj)] at O;exact g.2 j y u Q (by simp_all))
    rw[r1] at f;refine ⟨_,_,_,_,by rw[a1 _ f];rfl,.inl rfl,R1.alloc _ _ r2,?_,EH.trans (aW.alloc R1.fz _ _) (bQ _),by simp⟩;rw[<-k];exact V.Nl (by omega) (by omega) (by omega) (by omega)
  simp_all
 ·rename_i b off len m sz bl;rw[bl] at ad;simp only[bC] at h;obtain ⟨cs,hr,h⟩:=h;split at h
  ·rename_i G;obtain ⟨rfl,rfl,bh,F⟩:=G;obtain ⟨hb,b2⟩:=FV hr;rcases ad.ld hr with ⟨a5,e2,_,e4,e6⟩ | ⟨c,o',cap,K,T,hM,a5,b3,b4,hh,b5,_⟩
   ·subst e2 e4 e6;have af:(args.map a.eval)[0]? = some (.slice none 0 0):=by simp_all
    have f:=mU (ty:=o.type) ht a7 hu a8 a9 hi bc af bd F w;split at h
    ·rename_i q;subst q;simp only[ab,aC] at h;obtain ⟨rfl,rfl,_⟩:=h;obtain ⟨arr,l,g,k⟩:=M_ (P:=P) R S p A;rw[U] at l;rw[if_pos (by omega),l] at f;refine cz.same R (v:=.slice none 0 0) ?_ (a5▸ad)
     simp_all
    ·rename_i q;simp only[ab,aC] at h;obtain ⟨rfl,rfl,_⟩:=h;rw[if_neg (by omega)] at f;simp only[Dn] at f;have EH:aW σ M Fz w σ M Fz w.drew:=aW.heap R rfl ⟨rfl,rfl,rfl⟩;have R1:Rel σ M Fz w.drew:=R.heap rfl ⟨rfl,rfl,rfl⟩;obtain ⟨arr,l,g,k⟩:=M_ (P:=P) R1 (S.mono EH) p A;rw[U] at l;have a2:(Builtin.firstCells m 0 (.slice none 0 0)).run P w.drew=.ok #[] w.drew:=rfl;rw[a2] at f;simp only[Result.andThen_ok,l] at f;have a3:=Ig n 0 e (w.tape w.drawn (.appendCap n 0 e));generalize (Question.appendCap n 0 e).cut (w.tape w.drawn (.appendCap n 0 e))=W at f a3;have hm:n * m+(W-n) * m=W * m:=by rw[<-Ph];simp_all
     have a4:(#[]++arr++Builtin.zeroCells zv.cells (W-n)).size=W * m:=by simp only[Array.size_append,jx,bk,g.1,k,Array.size_empty];omega
     have ak:∀row,(newRow e row).run P w.drew=.ok ⟨w.drew.heap.size,0,none⟩ (w.drew.alloc (.cells row e)):=λ_=>rfl;rw[ak] at f;have co:0<n * m:=Nat.mul_pos (by omega) (by omega);have L:(Ob.cells []).sz<(Ob.cells ([]++new)).sz:=by grind [Ob.sz]
     have EV:=aW.move (o':=.cells (#[]++arr++Builtin.zeroCells zv.cells (W-n)) e) R1 hb L;refine ⟨_,_,_,_,by rw[a1 _ f];rfl,.inl rfl,R1.move hb L ?_,?_,EH.trans EV (bQ _),by simp⟩
     ·refine ⟨_,e,rfl,by grind,λj d v Q O=>?_⟩;have be:=(dT.1 Q).1;simp[k] at be;rw[XC (by simp[g.1,k];omega)] at O;have:=g.2 j d v (by simp_all) (by simp_all);exact ⟨this.1.mono EV,this.2⟩
     ·have bt:=(dT.1 hb).1;refine .sl _ _ _ (by simp) (.cells ([]++new)) (by simp_all) (by grind [Ob.sz]) (λ_=>.inr ?_);refine ⟨w.drew.heap.size,0,_,e,by simp[rS],rfl,by omega,by omega,.inl rfl,heap_alloc_new _ _,by omega,by simp⟩
   have af:(args.map a.eval)[0]? = some (.slice (some ⟨c,o',none⟩) len cap):=by simp_all
   have f:=mU (ty:=o.type) ht a7 hu a8 a9 hi bc af bd F w;obtain ⟨bu,T',ax,cv,bv⟩:=R.row hM hb;rw[hh] at ax;simp only[ab,Obj.cells.injEq,Kg] at ax;obtain ⟨rfl,rfl⟩:=ax;split at h
   ·rename_i q;subst q;simp only[ab,aC] at h;obtain ⟨rfl,rfl,_⟩:=h;obtain ⟨arr,l,g,k⟩:=M_ (P:=P) R S p A;rw[U] at l;rw[if_pos (by omega),l] at f;have b6:arr.toList=[]:=by
     have:arr.size=0:=by rw[g.1,k];omega
     simp_all
    grind [Go.Result.andThen_ok,Go.storeCells,Go.Sem.run_pure,cz.same]
   ·rename_i q;simp only[ab,aC] at h;obtain ⟨rfl,rfl,_⟩:=h;by_cases X:len+n<=cap
    ·rw[if_pos X] at f;obtain ⟨arr,l,g,k⟩:=M_ (P:=P) R S p A;rw[U] at l;have bw:o'=0:=by
      omega
     subst bw;have hm:(len+n) * m<=cap * m:=Ol _ X;rw[Ph] at hm;have b0:=dJ P T c arr.toList (0+len * m) w K hh g.TQ (by simp[g.1,k];omega);rw[l] at f;simp only[Result.andThen_ok,dg,b0] at f;have L:(Ob.cells cs).sz<=(Ob.cells (cs++new)).sz:=by simp[Ob.sz]
     have Y:∀N T1 fr,Obj.cells K T (0,0)=.cells N T1 fr->∃Z,Obj.cells (fH K (0+len * m) arr.toList) T (0,0)=.cells Z T1 fr/\Z.size=N.size:=by intro N T1 fr h;simp only[Obj.cells.injEq] at h;obtain ⟨rfl,rfl,rfl⟩:=h;exact ⟨_,rfl,f_ (by simp[g.1,k];omega)⟩
     have EV:=aW.rK R hM hb hh L Y;refine ⟨_,_,_,M,by rw[a1 _ f];rfl,.inl rfl,R.rK hM hb hh L Y ?_,?_,EV,by simp⟩
     ·refine ⟨_,T,rfl,?_,λj d v Q O=>?_⟩
      ·grind
      ·rw[cH (by simp[g.1,k];omega)] at O;simp only[Array.length_toList,g.1,k] at O;by_cases hj:j<cs.length
       ·rw[CU hj] at Q;rw[if_neg (by omega)] at O;have:=bv j d v Q O;exact ⟨this.1.mono EV,this.2⟩
       ·rw[Jo (by omega)] at Q;have be:=(dT.1 Q).1;rw[if_pos (by omega)] at O;have:=g.2 (j-cs.length) d v Q (by
         simp_all)
        exact ⟨this.1.mono EV,this.2⟩
     ·have bt:=(dT.1 hb).1;refine .sl _ _ _ (by simp) (.cells (cs++new)) (by simp_all) (by grind [Ob.sz]) (λ_=>.inr ?_);refine ⟨c,0,_,T,hM,rfl,rfl,⟨X,by omega⟩,.inl rfl,lR (R.lt hM).2,?_,?_⟩
      ·simp_all
      grind
    ·rw[if_neg X] at f;have EH:aW σ M Fz w σ M Fz w.drew:=aW.heap R rfl ⟨rfl,rfl,rfl⟩;have R1:Rel σ M Fz w.drew:=R.heap rfl ⟨rfl,rfl,rfl⟩;obtain ⟨arr,l,g,k⟩:=M_ (P:=P) R1 (S.mono EH) p A;rw[U] at l;have c0:Nc σ m len (.sl b 0 len m sz)=some cs:=by
      have hc:m=m/\len<=len/\0+len * m<=sz:=⟨rfl,bQ _,by omega⟩;show ((jZ σ b sz).bind λcs=>if m=m/\len<=len/\0+len * m<=sz then some ((cs.drop 0).take (len * m)) else none)=some cs
      grind
     obtain ⟨b7,b8,a0,c2⟩:=M_ (P:=P) R1 (ad.mono EH) p c0;rw[a5] at b8;rw[b8] at f;simp only[Result.andThen_ok,l] at f;have a3:=Ig (len+n) cap e (w.tape w.drawn (.appendCap (len+n) cap e));generalize (Question.appendCap (len+n) cap e).cut (w.tape w.drawn (.appendCap (len+n) cap e))=W at f a3;have hm:(len+n) * m+(W-(len+n)) * m=W * m:=by rw[<-Ph];simp_all
     rw[Ph] at hm;have a4:(b7++arr++Builtin.zeroCells zv.cells (W-(len+n))).size=W * m:=by simp only[Array.size_append,jx,bk,g.1,k,a0.1,c2];omega
     have ak:∀row,(newRow e row).run P w.drew=.ok ⟨w.drew.heap.size,0,none⟩ (w.drew.alloc (.cells row e)):=λ_=>rfl;rw[ak] at f;have co:0<n * m:=Nat.mul_pos (by omega) (by omega);have L:(Ob.cells cs).sz<(Ob.cells (cs++new)).sz:=by grind [Ob.sz]
     have EV:=aW.move (o':=.cells (b7++arr++Builtin.zeroCells zv.cells (W-(len+n))) e) R1 hb L;refine ⟨_,_,_,_,by rw[a1 _ f];rfl,.inl rfl,R1.move hb L  ?_,?_,EH.trans EV (bQ _),by simp⟩
     ·refine ⟨_,e,rfl,by grind,λj d v Q O=>?_⟩;have be:=(dT.1 Q).1;simp[k] at be;rw[XC (by simp[a0.1,g.1,k];omega)] at O;by_cases hj:j<cs.length
      ·rw[CU hj] at Q;rw[XC (by rw[a0.1];exact hj)] at O;have:=a0.2 j d v Q O;exact ⟨this.1.mono EV,this.2⟩
      ·rw[Jo (by omega)] at Q;rw[xAh (by rw[a0.1];omega),a0.1] at O;have:=g.2 _ d v Q O;exact ⟨this.1.mono EV,this.2⟩
     ·have bt:=(dT.1 hb).1;refine .sl _ _ _ (by simp) (.cells (cs++new)) (by simp_all) (by grind [Ob.sz]) (λ_=>.inr ?_);refine ⟨w.drew.heap.size,0,_,e,by simp[rS],rfl,rfl,by omega,.inl rfl,heap_alloc_new _ _,by omega,by grind⟩
  ·rename_i c4;split at h
   rotate_left
   ·simp at h
   rename_i G;obtain ⟨rfl,rfl,bh,F⟩:=G;obtain ⟨hb,b2⟩:=FV hr;have b9:0<m:=Nat.pos_of_ne_zero p;rcases ad.ld hr with ⟨a5,e2,_,e4,e6⟩ | ⟨c,o',cap,K,T,hM,a5,b3,b4,hh,b5,_⟩
   ·simp_all
   have af:(args.map a.eval)[0]? = some (.slice (some ⟨c,o',none⟩) len cap):=by simp_all
   have f:=mU (ty:=o.type) ht a7 hu a8 a9 hi bc af bd F w;obtain ⟨bu,T',ax,cv,bv⟩:=R.row hM hb;rw[hh] at ax;simp only[ab,Obj.cells.injEq,Kg] at ax;obtain ⟨rfl,rfl⟩:=ax;have X:len+n<=cap:=Nat.le_of_mul_le_mul_right (by omega) b9;rw[if_pos X] at f;obtain ⟨arr,l,g,k⟩:=M_ (P:=P) R S p A;rw[U] at l;split at h
   ·rename_i q;subst q;simp only[ab,aC] at h;obtain ⟨rfl,rfl,_⟩:=h;have b6:arr.toList=[]:=by
     have:arr.size=0:=by rw[g.1,k];omega
     simp_all
    grind [Go.Result.andThen_ok,Go.storeCells,Go.Sem.run_pure,cz.same]
   ·rename_i q;simp only[ab,aC] at h;obtain ⟨rfl,rfl,_⟩:=h;have bw:o'=0:=by
     omega
    subst bw;have hm:(len+n) * m<=cap * m:=Ol _ X;have c3:=bh;rw[Ph] at hm c3;have b0:=dJ P T c arr.toList (0+len * m) w K hh g.TQ (by simp[g.1,k];omega);rw[l] at f;simp only[Result.andThen_ok,dg,b0] at f;have ch:len * m+new.length<=cs.length:=by omega
    have L:(Ob.cells cs).sz<=(Ob.cells (put cs (len * m) new)).sz:=by grind [Ob.sz,Ud]
    have Y:∀N T1 fr,Obj.cells K T (0,0)=.cells N T1 fr->∃Z,Obj.cells (fH K (0+len * m) arr.toList) T (0,0)=.cells Z T1 fr/\Z.size=N.size:=by intro N T1 fr h;simp only[Obj.cells.injEq] at h;obtain ⟨rfl,rfl,rfl⟩:=h;exact ⟨_,rfl,f_ (by simp[g.1,k];omega)⟩
    have EV:=aW.rK R hM hb hh L Y;refine ⟨_,_,_,M,by rw[a1 _ f];rfl,.inl rfl,R.rK hM hb hh L Y ?_,?_,EV,by simp⟩
    ·refine ⟨_,T,rfl,by grind [Ud],λj d v Q O=>?_⟩;rw[ft ch] at Q;rw[cH (by simp[g.1,k];omega)] at O;simp only[Array.length_toList,g.1,Dn] at O;split at Q
     ·rename_i G;rw[if_pos G] at O;have:=g.2 _ _ _ Q (by simpa using O);exact ⟨this.1.mono EV,this.2⟩
     ·rename_i G;rw[if_neg G] at O;have:=bv _ _ _ Q O;exact ⟨this.1.mono EV,this.2⟩
    ·have bt:=(dT.1 hb).1;refine .sl _ _ _ (by simp) (.cells (put cs (len * m) new)) (by simp_all) (by grind [Ob.sz]) (λ_=>.inr ?_);refine ⟨c,0,_,T,hM,rfl,rfl,⟨X,b3.2⟩,.inl rfl,lR (R.lt hM).2,?_,?_⟩
     ·simp_all
     ·omega
 simp_all
theorem xf(R:Rel σ M Fz w)(E:cf σ M Fz w env a.tmps){o:Oper}{t e:TypeId}{args:Array Operand}{S:Array TypeId}{s x:Operand}{os ox:ay}{ai b off len sz n m:Nat}{cs new:List D}
  (ho:o.op=.call { callee:=.builtin .copy,args:=args,argTypes:=S }) (ht:S[0]? = some t) (a9:args[0]? = some s) (bc:args[1]? = some x)
  (hu:P.underlying t=some (.slice e)) (U:aQ P e=some ai) (W:ai≠0) (hs:ba s=some os) (hx:ba x=some ox)
  (ax:os.ev env=.sl b off len ai sz) (hr:jZ σ b sz=some cs) (hm:AV σ (ox.ev env)=some m) (hn:n=min m len) (A:Nc σ ai n (ox.ev env)=some new) (bd:off+len * ai<=sz) :
  cz P (execOp a.eval o) σ M Fz w (σ.set b (.cells (put cs off new))) (.c (.lit (.int .i64 n))):=by
 have L:=jc E hx;have X:=jc E hs;rw[ax] at X;obtain ⟨z,l,Y⟩:=mI L hm;rcases X.ld hr with ⟨a0,e2,e3,e4,e5⟩ | ⟨c,o',cap,g,T,hM,a0,be,a6,Z,a7,_⟩
 ·subst e2 e3 e4 e5;obtain rfl:n=0:=by omega
  obtain ⟨hb,_⟩:=FV hr;obtain ⟨k,p,f,q⟩:=M_ (P:=P) R L W A;rw[Y] at p;obtain rfl:new=[]:=QI (by omega);have ad:σ.set b (.cells (put [] 0 []))=σ:=by
   apply L_;intro i;rw[UJ];split
   ·rename_i hi;subst hi;split
    ·exact hb.symm
    grind
   ·rfl
  rw[ad];have N:(args.map a.eval)[0]? = some (.slice none 0 0):=by grind
  have O:(args.map a.eval)[1]? = some (.slice z m l):=by grind
  have hl:(Builtin.lenOf (.slice z m l)).run P w=.ok m w:=rfl;have r:Nat.min m 0=0:=hn.symm;refine cz.same R (v:=.int .i64 0) ?_ (.c (.lit _));simp only[execOp,ho,resolve,invoke,builtin,Builtin.copy_,ht,N,O,Sem.run_bind,Sem.run_pure,me hu,Result.andThen_ok,hl,HX U,r,p,goInt];rfl
 obtain ⟨hb,a8⟩:=FV hr;obtain ⟨a1,T',Q,bh,a2⟩:=R.row hM hb;rw[Z] at Q;simp only[ab,Obj.cells.injEq,Kg] at Q;obtain ⟨rfl,rfl⟩:=Q;obtain ⟨k,p,f,q⟩:=M_ (P:=P) R L W A;rw[Y] at p;have a3:n * ai<=len * ai:=Ol _ (by omega);have a4:(storeCells ⟨c,o',none⟩ k.toList).run P w=.ok () (ew w c (.cells (fH g off k.toList) T (0,0))):=by
  by_cases hz:n=0
  ·have:k.toList=[]:=by
    have:k.size=0:=by rw[f.1,q,hz,VU]
    grind
   rw[this];have F:fH g off []=g:=by grind [fH]
   rw[F,JB Z];rfl
  ·have a5:o'=off:=by
    omega
   subst a5;exact dJ P T c k.toList o' w g Z f.TQ (by simp[f.1,q];omega)
 have af:off+new.length<=cs.length:=by omega
 have ak:(Ob.cells cs).sz<=(Ob.cells (put cs off new)).sz:=by grind [Ob.sz,Ud]
 have G:∀u T1 fr,Obj.cells g T (0,0)=.cells u T1 fr->∃K,Obj.cells (fH g off k.toList) T (0,0)=.cells K T1 fr/\K.size=u.size:=by intro u T1 fr h;simp only[Obj.cells.injEq] at h;obtain ⟨rfl,rfl,rfl⟩:=h;exact ⟨_,rfl,f_ (by simp[f.1,q];omega)⟩
 have EV:=aW.rK R hM hb Z ak G;refine ⟨.value (.int .i64 n),_,_,M,?_,.inl rfl,R.rK hM hb Z ak G ?_,.c (.lit _),EV,by simp⟩
 ·have N:(args.map a.eval)[0]? = some (.slice (some ⟨c,o',none⟩) len cap):=by simp_all
  have O:(args.map a.eval)[1]? = some (.slice z m l):=by simp_all
  have hl:(Builtin.lenOf (.slice z m l)).run P w=.ok m w:=rfl;have r:Nat.min m len=n:=hn.symm;simp only[execOp,ho,resolve,invoke,builtin,Builtin.copy_,ht,N,O,Sem.run_bind,Sem.run_pure,me hu,Result.andThen_ok,hl,HX U,r,p,a4,goInt]
 ·refine ⟨_,T,rfl,by grind [Ud],λj d v h1 F=>?_⟩;rw[ft af] at h1;rw[cH (by simp[f.1,q];omega)] at F;simp only[Array.length_toList,f.1] at F;split at h1
  ·rename_i y;rw[if_pos y] at F;have:=f.2 _ _ _ h1 (by simpa using F);exact ⟨this.1.mono EV,this.2⟩
  ·rename_i y;rw[if_neg y] at F;have:=a2 _ _ _ h1 F;exact ⟨this.1.mono EV,this.2⟩
theorem Xy(R:Rel σ M Fz w)(E:cf σ M Fz w env a.tmps){o:Oper}{t e:TypeId}{args:Array Operand}{A:Array TypeId}{x:Operand}{ox:ay}{ai b off len sz:Nat}{cs z:List D}
  (ho:o.op=.call { callee:=.builtin .clear,args:=args,argTypes:=A }) (ht:A[0]? = some t) (bd:args[0]? = some x)
  (hu:P.underlying t=some (.slice e)) (hz:Iu P e=some z) (be:ai≠0) (F:z.length=ai) (hx:ba x=some ox)
  (X:ox.ev env=.sl b off len ai sz) (hr:jZ σ b sz=some cs) (bh:off+len * ai<=sz) :
  cz P (execOp a.eval o) σ M Fz w (σ.set b (.cells (put cs off (oH len z)))) (.aB []):=by
 obtain ⟨i,y,hi,Y,af⟩:=XW hz;have G:=zr.mz (V.cp (σ:=σ) (M:=M) (Fz:=Fz) (w:=w) y) af;have bi:y.cells.size=ai:=by rw[G.1,F]
 have K:z≠[]:=λh=>by simp_all
 have hv:=jc E hx;rw[X] at hv;obtain ⟨hb,a6⟩:=FV hr;have same:len=0->σ.set b (.cells (put cs off (oH len z)))=σ:=λh=>by
  subst h;have k:put cs off (oH 0 z)=cs:=by simp[oH,put]
  rw[k];apply L_
  grind
 have a7:∀U cap,len=0->a.eval x=.slice U len cap->cz P (execOp a.eval o) σ M Fz w (σ.set b (.cells (put cs off (oH len z)))) (.aB []):=λU cap h L=>by
  rw[same h];subst h;have r:(args.map a.eval)[0]? = some (.slice U 0 cap):=by simp_all
  refine cz.same R (v:=.tuple #[]) ?_ (.aB #[] rfl (λi d v h=>by simp at h));cases U <;> simp only[execOp,ho,resolve,invoke,builtin,Builtin.clear_,ht,r,Sem.run_bind,Sem.run_pure,me hu,Result.andThen_ok]
 rcases hv.ld hr with ⟨L,e2,e3,e4,e6⟩ | ⟨c,s,cap,f,T,hM,L,bk,a8,W,a9,_⟩
 ·simp_all
 by_cases h0:len=0
 ·simp_all
 obtain ⟨m,rfl⟩:∃m,len=m+1:=⟨len-1,by omega⟩;obtain ⟨ak,T',u,bl,ax⟩:=R.row hM hb;rw[W] at u;simp only[ab,Obj.cells.injEq,Kg] at u;obtain ⟨rfl,rfl⟩:=u;have a0:s=off:=by omega
 subst a0;obtain ⟨a1,N⟩:=vI G K (m+1) (m+1) (bQ _);generalize hZ:Builtin.zeroCells y.cells (m+1)=Z;have a2:(Array.range ((m+1) * y.cells.size)).map (y.cells[· % y.cells.size]!)=Z:=hZ;rw[a2] at a1 N;have a3:Z.size=(m+1) * ai:=by grind
 have a4:(oH (m+1) z).length=(m+1) * ai:=by rw[iF,F]
 have l:zr σ M Fz w (oH (m+1) z) Z:=⟨by omega,N⟩;have bc:s+(m+1) * ai<=f.size:=by omega
 have a5:=dJ P T c Z.toList s w f W l.TQ (by simp_all);have O:s+(oH (m+1) z).length<=cs.length:=by omega
 have Q:(Ob.cells cs).sz<=(Ob.cells (put cs s (oH (m+1) z))).sz:=by grind [Ob.sz,Ud]
 have n:∀p T1 fr,Obj.cells f T (0,0)=.cells p T1 fr->∃q,Obj.cells (fH f s Z.toList) T (0,0)=.cells q T1 fr/\q.size=p.size:=by grind [f_]
 have EV:=aW.rK R hM hb W Q n;refine ⟨.value (.tuple #[]),_,_,M,?_,.inl rfl,R.rK hM hb W Q n ?_,.aB #[] rfl (λi d v h=>by simp at h),EV,by simp⟩
 ·have r:(args.map a.eval)[0]? = some (.slice (some ⟨c,s,none⟩) (m+1) cap):=by simp_all
  simp only[execOp,ho,resolve,invoke,builtin,Builtin.clear_,ht,r,Sem.run_bind,Sem.run_pure,me hu,Result.andThen_ok,eQ hi Y,hZ,a5]
 ·refine ⟨_,T,rfl,by grind [Ud],λj d v S k=>?_⟩;rw[ft O] at S;rw[cH (by simp_all)] at k;simp only[Array.length_toList,a3] at k;rw[a4] at S;split at S
  ·rename_i g;rw[if_pos g] at k;have:=l.2 _ _ _ S (by simpa using k);exact ⟨this.1.mono EV,this.2⟩
  ·rename_i g;rw[if_neg g] at k;have:=ax _ _ _ S k;exact ⟨this.1.mono EV,this.2⟩
end
end Go.Abs
end
