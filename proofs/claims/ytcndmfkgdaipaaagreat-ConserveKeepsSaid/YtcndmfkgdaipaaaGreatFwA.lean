/- DfwA, DfwB, DfwC, DfwD, DfwE, DfwF, DfwG, DfwH, DfwI -/
import Derived.Calls
import Derived.Orders
import Derived.Laws.Sem
import Derived.Laws.World
import Derived.Laws.Cells
import Derived.Laws.Rows
import GoSem.Dispatch
import Derived.IntWalk
set_option linter.all false
open Go.IntKind (i64 u64)
namespace Go
abbrev aD:=@Option.bind_some
abbrev xAb:=@List.nil_append
abbrev xAc:=@Int.toNat_natCast
abbrev xAd:=@Option.getD_some
abbrev xAe:=@List.drop_append
abbrev xAf:=@List.getElem?_cons_zero
abbrev xAg:=@List.getElem?_eq_none
abbrev xAh:=@Array.foldl_toList
abbrev xAi:=@List.length_singleton
abbrev xAj:=@List.take_append_of_le_length
abbrev au:=@Option.some.injEq
abbrev bA:=@decide_eq_true_eq
abbrev cE:=@Option.map_eq_some_iff
abbrev cM:=@Option.bind_eq_some_iff
abbrev aX:=@Prod.mk.injEq
abbrev bG:=@List.getElem_mem
abbrev b_:=@Bool.false_eq_true
abbrev bN:=@Bool.and_eq_true
abbrev cY:=@Nat.eq_of_beq_eq_true
abbrev eS:=@List.getElem?_eq_getElem
abbrev gC:=@List.getElem?_eq_some_iff
abbrev iX:=@List.getElem_of_mem
abbrev sI:=@Array.getElem?_eq_getElem
abbrev lI:=@List.mem_cons_of_mem
abbrev cX:=@Nat.le_refl
abbrev iU:=@Bool.not_eq_true'
abbrev iR:=@List.all_eq_true
abbrev gp:=@List.mem_append
abbrev gF:=@Bool.or_eq_true
abbrev DC:=@List.take_succ_eq_append_getElem
abbrev mE:=@List.getElem?_map
abbrev ql:=@List.mem_cons_self
abbrev cw:=@if_false
abbrev gq:=@List.mem_cons
abbrev pc:=@Bool.not_eq_false
abbrev Cy:=@Array.getElem?_eq_some_iff
abbrev gD:=@List.mem_map
abbrev Bb:=@List.mem_of_getElem?
abbrev uj:=@List.take_length
abbrev zi:=@List.mem_singleton
abbrev xI:=@List.append_assoc
abbrev CY:=@Nat.le_of_ble_eq_true
abbrev lK:=@Nat.le_trans
abbrev HA:=@List.getElem?_append_left
abbrev AH:=@List.length_append
abbrev wj:=@List.length_map
abbrev ru:=@List.map_cons
abbrev OG:=@List.getElem?_append_right
abbrev Gv:=@Nat.mul_le_mul_right
abbrev BY:=@List.length_take
abbrev sO:=@Nat.lt_or_ge
abbrev FY:=@Nat.lt_of_lt_of_le
abbrev nB:=@beq_iff_eq
abbrev KX:=@List.mem_iff_getElem
abbrev Lw:=@List.take_append_drop
abbrev OD:=@Array.getElem?_toList
abbrev DA:=@List.append_nil
abbrev Yy:=@List.eq_nil_of_length_eq_zero
abbrev OH:=@List.mem_of_mem_take
abbrev OO:=@List.pairwise_append
abbrev yAO:=@Int.mul_le_mul_of_nonneg_right
abbrev ug:=@Nat.blt_eq
abbrev yAQ:=@Array.getElem?_setIfInBounds
abbrev Kk:=@List.getElem_map
abbrev KY:=@List.not_mem_nil
abbrev yAT:=@List.getD_eq_getElem?_getD
abbrev yAU:=@List.pairwise_iff_getElem
abbrev yAV:=@Array.getD_eq_getD_getElem?
abbrev Po:=@List.getElem_take
abbrev yAX:=@List.length_eq_zero_iff
abbrev Wg:=@List.length_pos_iff
abbrev T_:=@List.ext_getElem?
abbrev UA:=@Decidable.not_not
abbrev yBb:=@List.mem_of_mem_drop
abbrev Np:=@Bool.and_true
abbrev VV:=@Nat.lt_trichotomy
abbrev SE:=@List.mem_filter
abbrev XX:=@Nat.lt_or_eq_of_le
abbrev OK:=@Bool.not_true
abbrev yBh:=@decide_eq_false_iff_not
abbrev Jz:=@Int.le_refl
abbrev yBj:=@Option.isSome_iff_exists
abbrev Vw:=@List.mapM_cons
abbrev MO:=@Nat.add_mul
abbrev yBm:=@List.pairwise_cons
abbrev JP:=@bne_iff_ne
abbrev yBo:=@List.drop_eq_nil_of_le
abbrev Yb:=@List.map_append
abbrev Wu:=@List.length_set
abbrev FU:=@false_iff
abbrev Rz:=@Nat.zero_add
abbrev yBt:=@List.getElem?_take_of_lt
abbrev yBu:=@List.Perm.append_left
abbrev yBv:=@List.perm_append_comm
abbrev Px:=@Nat.zero_le
abbrev Dr:=@congrArg
abbrev yBy:=@List.getElem?_append
abbrev yBz:=@List.flatMap_cons
abbrev yB0:=@List.getElem_set_ne
abbrev yB1:=@List.drop_eq_getElem_cons
abbrev yB2:=@Sigma.mk.injEq
abbrev yB3:=@List.mem_of_find?_eq_some
abbrev Wd:=@List.map_map
abbrev yB5:=@List.mem_append_right
abbrev yB6:=@Bool.and_eq_false_iff
abbrev yB7:=@List.getElem_set_self
abbrev yB8:=@List.getElem?_of_mem
abbrev yB9:=@List.mem_append_left
abbrev yBA:=@Nat.add_sub_cancel_left
abbrev yBB:=@Nat.exists_eq_add_of_le
abbrev yBC:=@List.getElem?_set
abbrev yBD:=@List.take_of_length_le
abbrev yBE:=@Array.getElem?_append_left
abbrev yBF:=@List.getElem?_drop
abbrev yBG:=@List.mem_iff_getElem?
abbrev KU:=@or_false
abbrev yBI:=@Classical.not_and_iff_not_or_not
abbrev Oa:=@and_true
abbrev yBK:=@Go.heap_alloc_old
abbrev yBL:=@List.getElem_append_left
abbrev yBM:=@Int.toNat_of_nonneg
abbrev yBN:=@List.length_drop
abbrev yBO:=@Int.mul_nonneg
abbrev yBP:=@List.mem_range
abbrev Rk:=@true_iff
abbrev yBR:=@Nat.mul_lt_mul_of_pos_right
abbrev yBS:=@Int.lt_or_le
abbrev yBT:=@List.cons.injEq
abbrev yBU:=@List.set_getElem_self
abbrev yBV:=@List.concat_eq_append
abbrev yBW:=@List.getElem_drop
abbrev yBX:=@Decidable.byContradiction
abbrev yBY:=@beq_self_eq_true
abbrev yBZ:=@List.ext_getElem
abbrev yCa:=@Nat.zero_mul
abbrev yCb:=@Array.getElem?_replicate
abbrev yCc:=@Nat.le_of_lt
abbrev yCd:=@Int.le_trans
abbrev yCe:=@List.map_take
abbrev yCf:=@Nat.lt_succ_iff
abbrev yCg:=@Nat.pow_add
abbrev yCh:=@List.any_eq_false
abbrev yCi:=@bne_self_eq_false
abbrev yCj:=@List.drop_zero
abbrev yCk:=@Nat.mul_le_mul
abbrev yCl:=@Nat.sub_self
abbrev yCm:=@Nat.beq_refl
abbrev yCn:=@Bool.true_and
end Go
section
namespace Go.Abs
inductive C where
 |lit (v:Value)
 |cJ (nn:Bool) (es:List (List C))
 |cK (cs:List C) (off:Nat)
 |fn (f:Fn) (first cap:List C)
 |Ng (es:List (Value×C))
 |V_ (g:Nat)
 deriving Inhabited
inductive D where
 |c (x:C)
 |ptr (b off sz:Nat)
 |sl (b off len aw sz:Nat)
 |mp (b:Nat)
 |fn (f:Fn) (first cap:List D)
 |agg (cs:List D)
 |aS (vs:List D)
 |any
 deriving Inhabited
inductive Ob where
 |cells (cs:List D)
 |map (es:List (Value×D×Nat)) (clock:Nat)
 |gone (n:Nat)
 deriving Inhabited
def Ob.sz:Ob->Nat
 |.cells i=>i.length
 |.map _ _=>0
 |.gone n=>n
abbrev ar:=List Ob
inductive VC (Fz:Nat->Prop) (w:World):C->Value->Prop where
 |lit (v:Value):VC Fz w (.lit v) v
 |cJ {nn:Bool} {es:List (List C)} (aw:Nat) (a:Option Addr) (cap:Nat) (hnn:nn=true->a.isSome=true) (hz:a=none->cap=0) (c:Nat->Nat->Value) (hsz:∀e∈es,e.length=aw) (hcap:es.length<=cap)
   (hc:∀(i j:Nat) e d,es[i]? = some e->e[j]? = some d->∃blk o,a=some ⟨blk,o,none⟩/\Fz blk/\w.cell? ⟨blk,o+i * aw+j,none⟩=some (c i j)/\(c i j).oneCell'=true)
   (hv:∀(i j:Nat) e d,es[i]? = some e->e[j]? = some d->VC Fz w d (c i j)):VC Fz w (.cJ nn es) (.slice a es.length cap)
 |cK {cs:List C} {off:Nat} (blk o:Nat) (c:Nat->Value) (hF:Fz blk) (hc:∀(j:Nat) d,cs[j]? = some d->w.cell? ⟨blk,o+j,none⟩=some (c j)/\(c j).oneCell'=true)
   (hv:∀(j:Nat) d,cs[j]? = some d->VC Fz w d (c j)):VC Fz w (.cK cs off) (.pointer (some ⟨blk,o+off,none⟩))
 |fn {f:Fn} {first cap:List C} (vs ws:Array Value) (h1:vs.size=first.length) (h2:ws.size=cap.length)
   (hv:∀(i:Nat) d v,first[i]? = some d->vs[i]? = some v->VC Fz w d v) (hw:∀(i:Nat) d v,cap[i]? = some d->ws[i]? = some v->VC Fz w d v) :
   VC Fz w (.fn f first cap) (.func f vs ws)
 |Ng {es:List (Value×C)} (blk clock:Nat) (arr:Array MapEntry) (hF:Fz blk) (hh:w.heap[blk]? = some (.map arr clock)) (hs:arr.size=es.length)
   (hk:∀(i:Nat) p e,es[i]? = some p->arr[i]? = some e->e.key=p.1) (hv:∀(i:Nat) p e,es[i]? = some p->arr[i]? = some e->VC Fz w p.2 e.val):VC Fz w (.Ng es) (.map (some blk))
 |V_ (g:Nat):VC Fz w (.V_ g) (.pointer (some ⟨g,0,none⟩))
theorem Ht{w w':World}{blk o:Nat}(h:w'.heap[blk]? = w.heap[blk]?):w'.cell? ⟨blk,o,none⟩=w.cell? ⟨blk,o,none⟩:=by grind [Go.World.cell?]
theorem VC.mono{Fz Fz':Nat->Prop}{w w':World}(Q:∀c:Nat,Fz c->Fz' c/\w'.heap[c]? = w.heap[c]?){x:C}{v:Value}(h:VC Fz w x v):VC Fz' w' x v:=by
 induction h with
 |lit v=>exact .lit v
 |cJ aw a cap z X c A u R E ih=>
  refine .cJ aw a cap z X c A u (λi j e d U W=>?_) ih
  grind [Ht]
 |cK blk o c F R E ih=>exact .cK blk o c (Q _ F).1 (λj d h=>⟨by grind [Ht],(R j d h).2⟩) ih
 |fn Y Z U W E hw G K=>exact .fn Y Z U W G K
 |Ng blk s O F hh hs hk E ih=>exact .Ng blk s O (Q _ F).1 (by simp_all) hs hk ih
 |V_ g=>exact .V_ g
inductive V (σ:ar) (M:Nat→Option Nat) (Fz:Nat→Prop) (w:World):D→Value→Prop where
 | c {x:C} {v:Value} (h:VC Fz w x v):V σ M Fz w (.c x) v
 | any (v:Value):V σ M Fz w .any v
 | ptr {b off sz:Nat} (a:Addr) (ob:Ob) (h:σ[b]? = some ob) (hle:sz≤ob.sz)
   (hv:ob.sz=sz→∃c,M b=some c∧a=⟨c,off,none⟩):V σ M Fz w (.ptr b off sz) (.pointer (some a))
 | sl {b off len aw sz:Nat} (a:Option Addr) (n cap:Nat) (hnn:len≠0→a≠none) (ob:Ob) (h:σ[b]? = some ob) (hle:sz≤ob.sz)
   (hv:ob.sz=sz→(a=none∧n=0∧cap=0∧len=0∧off=0∧sz=0)∨∃c o arr T,M b=some c∧a=some ⟨c,o,none⟩∧n=len∧(len≤cap∧sz≤off+cap * aw)∧(o=off∨cap=0) ∧
    w.heap[c]? = some (.cells arr T (0,0))∧o+cap * aw≤arr.size∧off+len * aw≤sz):V σ M Fz w (.sl b off len aw sz) (.slice a n cap)
 | mp {b:Nat} (c:Nat) (ob:Ob) (h:σ[b]? = some ob) (hv:ob.sz=0→M b=some c):V σ M Fz w (.mp b) (.map (some c))
 | fn {f:Fn} {first cap:List D} (vs ws:Array Value) (h1:vs.size=first.length) (h2:ws.size=cap.length)
   (hv:∀(i:Nat) d v,first[i]? = some d→vs[i]? = some v→V σ M Fz w d v) (hw:∀(i:Nat) d v,cap[i]? = some d→ws[i]? = some v→V σ M Fz w d v) :
   V σ M Fz w (.fn f first cap) (.func f vs ws)
 | agg {cs:List D} (vs:Array Value) (h1:vs.size=cs.length) (hv:∀(i:Nat) d v,cs[i]? = some d→vs[i]? = some v→V σ M Fz w d v):V σ M Fz w (.agg cs) (.agg vs)
 | aS {cs:List D} (vs:Array Value) (h1:vs.size=cs.length) (hv:∀(i:Nat) d v,cs[i]? = some d→vs[i]? = some v→V σ M Fz w d v):V σ M Fz w (.aS cs) (.tuple vs)
def jx(arr:Array MapEntry)(b:Nat):Prop:=(arr.toList.map MapEntry.born).Nodup/\∀e∈arr.toList,e.born<b
theorem jx.nil(i:Nat):jx #[] i:=⟨by simp,by simp⟩
theorem jx.push{arr:Array MapEntry}{i:Nat}(h:jx arr i)(k v:Value):jx (arr.push { key:=k,val:=v,born:=i }) (i+1):=by
 refine ⟨?_,λe he=>?_⟩
 ·rw[Array.toList_push,Yb,List.nodup_append];refine ⟨h.1,by simp,λa j b o=>?_⟩;obtain ⟨e,he,rfl⟩:=gD.1 j;have:=h.2 e he
  grind
 ·rw[Array.toList_push,gp] at he;rcases he with he | he
  ·have:=h.2 e he;omega
  simp_all
theorem jx.same{arr i:Array MapEntry}{j:Nat}(h:jx arr j)(e:i.toList.map MapEntry.born=arr.toList.map MapEntry.born):jx i j:=by
 refine ⟨by rw[e];exact h.1,λx s=>?_⟩;have:x.born∈arr.toList.map MapEntry.born:=by grind
 obtain ⟨y,o,q⟩:=gD.1 this;rw[<-q];exact h.2 y o
theorem jx.sub{arr i:Array MapEntry}{j:Nat}(h:jx arr j)(e:i.toList.Sublist arr.toList):jx i j:=
 ⟨h.1.sublist (e.map _),λx o=>h.2 x (e.subset o)⟩
def bY(σ:ar)(M:Nat->Option Nat)(Fz:Nat->Prop)(w:World):Ob->Obj->Prop
 |.cells f,o=>∃b T,o=.cells b T (0,0)/\f.length<=b.size/\∀(i:Nat) d v,f[i]? = some d->b[i]? = some v->V σ M Fz w d v/\v.oneCell'=true
 |.map es _,o=>∃b,(∃g,o=.map b g/\jx b g)/\b.size=es.length/\∀(i:Nat) k d n e,es[i]? = some (k,d,n)->b[i]? = some e->e.key=k/\True/\V σ M Fz w d e.val
 |.gone _,_=>False
class Gl where
 ok:(Nat->Prop)->World->Prop
 mono:∀{Fz Fz':Nat->Prop}{w w':World},(∀c:Nat,Fz c->Fz' c/\w'.heap[c]? = w.heap[c]?)->ok Fz w->ok Fz' w'
 tab:Nat->List Value:=λ_=>[]
 tabOk:∀{Fz:Nat->Prop}{w:World}(g j:Nat)(v:Value),ok Fz w->(tab g)[j]? = some v->Fz g/\w.cell? ⟨g,j,none⟩=some v/\v.oneCell'=true:=by intro _ _ g j v _ h;simp at h
structure Rel [Gl] (σ:ar) (M:Nat->Option Nat) (Fz:Nat->Prop) (w:World):Prop where
 blk:∀(b c:Nat),M b=some c->¬Fz c/\∃ob o,σ[b]? = some ob/\w.heap[c]? = some o/\bY σ M Fz w ob o
 inj:∀b b' c,M b=some c->M b'=some c->b=b'
 fz:∀c,Fz c->c<w.heap.size
 gl:Gl.ok Fz w
structure bH (σ:ar) (M:Nat->Option Nat) (Fz:Nat->Prop) (w:World) (σ':ar) (M':Nat->Option Nat) (Fz':Nat->Prop) (w':World):Prop where
 size:w.heap.size<=w'.heap.size
 frame:∀c:Nat,c<w.heap.size->(∀b,M b≠some c)->w'.heap[c]? = w.heap[c]?
 ld:∀b c,M' b=some c->(∃b0,M b0=some c)∨w.heap.size<=c
 fz:∀c:Nat,Fz c->Fz' c/\w'.heap[c]? = w.heap[c]?
 ow:∀c,Fz' c->Fz c∨(∃b,M b=some c)∨w.heap.size<=c
 qo:∀(c:Nat) arr T fr,w.heap[c]? = some (.cells arr T fr)->∃arr',w'.heap[c]? = some (.cells arr' T fr)/\arr'.size=arr.size
 keep:∀(b:Nat) ob,σ[b]? = some ob->∃ob',σ'[b]? = some ob'/\ob.sz<=ob'.sz/\(ob'.sz=ob.sz->M' b=M b)
 out:w'.os=w.os/\w'.tape=w.tape/\w'.output=w.output
section
variable{σ σ' σ'':ar}{M M' M'':Nat->Option Nat}{Fz Fz' Fz'':Nat->Prop}{w w' w'':World}
theorem V.mono(E:bH σ M Fz w σ' M' Fz' w'){d:D}{v:Value}(h:V σ M Fz w d v):V σ' M' Fz' w' d v:=by
 induction h with
 |c h=>exact .c (h.mono E.fz)
 |any v=>exact .any v
 |ptr a Q h A j=>
  obtain ⟨i,u,hs,hk⟩:=E.keep _ _ h;refine .ptr a i u (by omega) (λR=>?_)
  grind
 |sl a n cap F Q h A j=>
  obtain ⟨i,u,hs,hk⟩:=E.keep _ _ h;refine .sl a n cap F i u (by omega) (λR=>?_);rcases j (by omega) with ⟨s,U,h3,h4,h5,h6⟩ | ⟨c,o,W,T,hM,X,Y,Z,ho,hh,hb,hz⟩
  ·simp_all
  ·obtain ⟨x,G,aa⟩:=E.qo _ _ _ _ hh;exact .inr ⟨c,o,x,T,by grind,X,Y,Z,ho,G,by omega,hz⟩
 |mp c Q h j=>obtain ⟨i,u,hs,hk⟩:=E.keep _ _ h;exact .mp c i u (λR=>by simp_all)
 |fn z ws s U j hw K O=>exact .fn z ws s U K O
 |agg z s j ih=>exact .agg z s ih
 |aS z s j ih=>exact .aS z s ih
variable[Gl] in
theorem bH.refl(R:Rel σ M Fz w):bH σ M Fz w σ M Fz w:={
 size:=cX _
 frame:=λ_ _ _=>rfl
 ld:=λb c h=>.inl ⟨b,h⟩
 fz:=λc h=>⟨h,rfl⟩
 ow:=λc h=>.inl h
 qo:=λc i T o h=>⟨i,h,rfl⟩
 keep:=λb j h=>⟨j,h,cX _,λ_=>rfl⟩
 out:=⟨rfl,rfl,rfl⟩ }
theorem bH.trans(A:bH σ M Fz w σ' M' Fz' w')(B:bH σ' M' Fz' w' σ'' M'' Fz'' w'')(K:σ.length<=σ'.length):bH σ M Fz w σ'' M'' Fz'' w'':={
 size:=lK A.size B.size
 frame:=λc s x=>by
  rw[<-A.frame c s x];refine B.frame c (FY s A.size) (λb z=>?_);rcases A.ld b c z with ⟨j,i⟩ | i
  ·simp_all
  ·omega
 ld:=λb c h=>by
  rcases B.ld b c h with ⟨j,i⟩ | i
  ·exact A.ld j c i
  ·exact .inr (lK A.size i)
 fz:=λc h=>by
  obtain ⟨h1,h2⟩:=A.fz c h;obtain ⟨O,Q⟩:=B.fz c h1
  simp_all
 ow:=λc h=>by
  rcases B.ow c h with h | ⟨b,h⟩ | h
  ·exact A.ow c h
  ·rcases A.ld b c h with ⟨j,i⟩ | i
   ·grind
   omega
  ·exact .inr (.inr (lK A.size h))
 qo:=λc o T u h=>by
  obtain ⟨E,h1,R⟩:=A.qo c o T u h;obtain ⟨U,h2,W⟩:=B.qo c E T u h1
  simp_all
 keep:=λb F h=>by
  obtain ⟨G,h1,s1,X⟩:=A.keep b F h;obtain ⟨Y,h2,s2,Z⟩:=B.keep b G h1
  grind
 out:=⟨B.out.1.trans A.out.1,B.out.2.1.trans A.out.2.1,B.out.2.2.trans A.out.2.2⟩ }
theorem bY.mono(E:bH σ M Fz w σ' M' Fz' w'){ob:Ob}{o:Obj}(h:bY σ M Fz w ob o):bY σ' M' Fz' w' ob o:=by
 cases ob with
 |cells G=>obtain ⟨j,T,z,A,s⟩:=h;exact ⟨j,T,z,A,λi d v u x=>⟨(s i d v u x).1.mono E,(s i d v u x).2⟩⟩
 |map K F=>obtain ⟨j,z,A,s⟩:=h;exact ⟨j,z,A,λi k d n e u x=>let ⟨a,b,c⟩:=s i k d n e u x;⟨a,b,c.mono E⟩⟩
 |gone n=>exact h.elim
end
end Go.Abs
end
section
namespace Go.Abs
variable[Gl]
def fE{α:Type}(P:Program):Sem α->Option α
 |.pure a=>some a
 |.program k=>fE P (k P)
 |_=>none
theorem PV{α:Type}{P:Program}{s:Sem α}{a:α}(w:World)(h:fE P s=some a):s.run P w=.ok a w:=by
 induction s with
 |pure b=>simp only[fE,au] at h;simp_all
 |program k ih=>simp only[fE] at h;exact ih P h
 |_=>grind [fE]
inductive aP where
 |t (n:Nat)
 |k (d:D)
 deriving Inhabited
def dH:Value->D
 |.agg b=>.agg (b.toList.map λv=>.c (.lit v))
 |.tuple b=>.aS (b.toList.map λv=>.c (.lit v))
 |v=>.c (.lit v)
def aP.ev(env:List D):aP->D
 |.t n=>(env[n]?).getD (.aS [])
 |.k d=>d
def bW:Operand->Option aP
 |.tmp t=>some (.t t)
 |.const v=>some (.k (dH v))
 |.func f=>some (.k (.c (.fn (.func f) [] [])))
 |.global g=>some (.k (.c (.V_ g)))
def gN:D->Option Value
 |.c (.lit v)=>some v
 |_=>none
def D.de:D->Option Value
 |.c (.lit v)=>some v
 |.agg ds=>(ds.mapM gN).map λl=>.agg l.toArray
 |_=>none
def D.scalar:D->Bool
 |.c (.lit v)=>v.oneCell'
 |.c _ | .ptr .. | .sl .. | .mp _ | .fn ..=>true
 |_=>false
def D.cells?:D->Option (List D)
 |.agg i=>if i.all D.scalar then some i else none
 |d=>if d.scalar then some [d] else none
inductive lm where
 |Ba (x:aP)
 |pick (c a b:aP)
 |gen (op:Op) (ty:TypeId)
 |box (x:aP)
 |alloc (z:List D)
 |build (z:List D) (parts:List (Nat×Nat×aP))
 |js (aw len:Nat) (z:List D) (parts:List (Nat×Nat×aP))
 |load (n:Option Nat) (a:aP)
 |store (n:Nat) (a x:aP)
 |mT (x:aP)
 |iZ (k:Nat) (neg:Bool) (x:aP)
 |Ik (off:Nat) (x:aP)
 |idx (aw:Nat) (arr:Option Nat) (x i:aP)
 |Wf (aw:Nat) (x:aP) (lo hi:Option aP)
 |len (x:aP)
 |Zp (x:aP)
 |mk (aw bytes:Nat) (z:List D) (l c:aP)
 |vq
 |lookup (kind:TypeDesc) (zero:D) (m k:aP) (ok:Bool)
 |tH (kind:TypeDesc) (m k x:aP)
 |extract (x:aP) (i:Nat)
 |EL (f:Fn) (first cap:List aP)
 |part (off:Nat) (n:Option Nat) (x:aP)
 |Db (aw len:Nat) (n:Option Nat) (x i:aP)
 |append (aw bytes:Nat) (s x:aP)
 |copy (aw:Nat) (d s:aP)
 |del (kind:TypeDesc) (m k:aP)
 |TW (aw:Nat) (x lo hi mx:aP)
 |FK (n:Nat) (x:aP)
 |clr (aw:Nat) (z:List D) (x:aP)
 |call (f:aP) (args:List aP)
 deriving Inhabited
def IW(xs:Array Operand):Option (List aP):=xs.toList.mapM bW
def GY:Option Operand->Option (Option aP)
 |none=>some none
 |some x=>(bW x).map some
def Ep(P:Program)(t:TypeId):Option (Option Nat):=
 match P.info? t,P.underlying t with
 |some i,some (.struct _)=>some (some i.size)
 |some i,some (.array _ _)=>some (some i.size)
 |some _,some _=>some none
 |_,_=>none
def zeroOf(P:Program)(t:TypeId):Option D:=
 match P.info? t with
 |some i=>i.zero.map dH
 |none=>none
def CW:D->D
 |.c (.lit (.slice none 0 0))=>.c (.cJ false [])
 |d=>d
def Ry(P:Program)(t:TypeId):Option (List D):=(zeroOf P t).bind D.cells?
def bE(P:Program)(t:TypeId):Option Nat:=(P.info? t).map (·.size)
def Jj(P:Program)(b:Array Field):Option (List (Nat×Nat)):=b.toList.mapM λf=>(bE P f.type).map λn=>(f.offset,n)
def Ac:TypeDesc->Option Nat
 |.pointer _=>some 0
 |.map _ _=>some 1
 |.func ..=>some 2
 |.slice _=>some 3
 |_=>none
def su(k:Nat):Operand->Bool
 |.const (.pointer none)=>k == 0
 |.const (.map none)=>k == 1
 |.const .nilFunc=>k == 2
 |.const (.slice none 0 0)=>k == 3
 |_=>false
def wL(k:Nat)(neg:Bool)(x y:Operand):Option lm:=
 if su k y then (bW x).map (.iZ k neg) else if su k x then (bW y).map (.iZ k neg) else none
def isNil:Nat->D->Option Bool
 |0,.ptr ..=>some false
 |0,.c (.cK ..)=>some false
 |0,.c (.lit (.pointer none))=>some true
 |1,.mp _=>some false
 |1,.c (.Ng _)=>some false
 |1,.c (.lit (.map none))=>some true
 |2,.fn ..=>some false
 |2,.c (.fn ..)=>some false
 |2,.c (.lit .nilFunc)=>some true
 |3,.sl _ _ (_+1) _ _=>some false
 |3,.c (.cJ true _)=>some false
 |3,.c (.lit (.slice none 0 0))=>some true
 |_,_=>none
def zeJ:TypeDesc->Bool
 |.int _=>true
 |_=>false
def lJ(P:Program)(op:Op)(ty:TypeId):Option lm:=
 match op with
 |.move x | .assign x=>(bW x).map .Ba
 |.pick c a b=>do some (.pick (<-bW c) (<-bW a) (<-bW b))
 |.alloc t=>(Ry P t).map .alloc
 |.box _ x=>(bW x).map .box
 |.build t d => do
  let z <-Ry P t
  match <-P.underlying t with
  |.struct h => do
   let ps <-Jj P h
   some (.build z (<-d.toList.mapM λ(i,x)=>do let (o,n) <-ps[i]?;some (o,n,<-bW x)))
  |.array _ e => do
   let n <-bE P e
   some (.build z (<-d.toList.mapM λ(i,x)=>do some (i * n,n,<-bW x)))
  |_=>none
 |.buildSlice t len d => do
  match <-P.underlying t with
  |.slice e => do
   let n <-bE P e
   let z <-Ry P e
   if n=0∨z.length≠n∨len * n > 2 ^ 20 then none else
   some (.js n len z (<-d.toList.mapM λ(i,x)=>do some (i * n,n,<-bW x)))
  |_=>none
 |.load t a=>do some (.load (<-Ep P t) (<-bW a))
 |.store t a x=>do some (.store (<-bE P t) (<-bW a) (<-bW x))
 |.nilCheck x=>(bW x).map .mT
 |.binOp o t x y _=>
  match (P.underlying t).bind Ac with
  |some k=>
   match o with
   |.eql=>wL k false x y
   |.neq=>wL k true x y
   |_=>none
  |none=>some (.gen op ty)
 |.unOp ..=>some (.gen op ty)
 |.convert ..=>some (.gen op ty)
 |.makeFunc f first cap=>do some (.EL f (<-IW first) (<-IW cap))
 |.makeMap _ none=>some .vq
 |.makeSlice t l c => do
  match <-P.underlying t with
  |.slice e => do
   let n <-bE P e
   let z <-Ry P e
   let i <-P.info? e
   if n=0∨z.length≠n then none else some (.mk n i.bytes (z.map CW) (<-bW l) (<-bW c))
  |_=>none
 |.slice t x p q none => do
  match <-P.underlying t with
  |.slice e=>do some (.Wf (<-bE P e) (<-bW x) (<-GY p) (<-GY q))
  |.string=>some (.gen op ty)
  |.array m e => match p, q with
   |none, none => do
    let k <-bE P e
    let r <-bW x
    if k=1 then some (.FK m r) else none
   |_,_=>none
  |_=>none
 |.slice t x (some p) (some q) (some u) => do
  match <-P.underlying t with
  |.slice e=>do some (.TW (<-bE P e) (<-bW x) (<-bW p) (<-bW q) (<-bW u))
  |_=>none
 |.fieldAddr s x f => do
  match <-P.underlying s with
  |.struct h => do
   let fd <-h[f]?
   let n <-bE P fd.type
   if n=0 then none else some (.Ik fd.offset (<-bW x))
  |_=>none
 |.field t x f => do
  match <-P.underlying t with
  |.struct h => do
   let fd <-h[f]?
   some (.part fd.offset (<-Ep P fd.type) (<-bW x))
  |_=>none
 |.indexAddr t x i => do
  match <-P.underlying t with
  |.slice e => do
   let n <-bE P e
   if n=0 then none else some (.idx n none (<-bW x) (<-bW i))
  |.array len e => do
   let n <-bE P e
   if n=0 then none else some (.idx n (some len) (<-bW x) (<-bW i))
  |_=>none
 |.index t x i => do
  match <-P.underlying t with
  |.array len e=>do some (.Db (<-bE P e) len (<-Ep P e) (<-bW x) (<-bW i))
  |.string=>some (.gen op ty)
  |_=>none
 |.lookup t m k ok => do
  match <-P.underlying t with
  |.map j e => do
   let g <-P.underlying j
   if zeJ g then some (.lookup g (<-zeroOf P e) (<-bW m) (<-bW k) ok) else none
  |_=>none
 |.mapUpdate t m k x | .insert t m k x => do
  match <-P.underlying t with
  |.map j _ => do
   let g <-P.underlying j
   if zeJ g then some (.tH g (<-bW m) (<-bW k) (<-bW x)) else none
  |_=>none
 |.extract x i=>do some (.extract (<-bW x) i)
 |.call { callee:=.value f,args,.. }=>do some (.call (<-bW f) (<-IW args))
 |.call { callee := .builtin .len, args, argTypes } => do
  let t <-argTypes[0]?
  let x <-args[0]?
  if args.size≠1 then none else
  match <-P.underlying t with
  |.slice _=>(bW x).map .len
  |.map _ _=>(bW x).map .Zp
  |.array n _=>some (.Ba (.k (.c (.lit (.int .i64 n)))))
  |.string=>some (.gen op ty)
  |_=>none
 |.call { callee := .builtin .append, args, argTypes } => do
  let t <-argTypes[0]?
  let t1 <-argTypes[1]?
  let s <-args[0]?
  let x <-args[1]?
  match <-P.underlying t,<-P.underlying t1 with
  |.slice e, .slice _ => do
   let n <-bE P e
   let i <-P.info? e
   let z <-Ry P e
   if n=0∨z.length≠n then none else some (.append n i.bytes (<-bW s) (<-bW x))
  |_,_=>none
 |.call { callee := .builtin .copy, args, argTypes } => do
  let t <-argTypes[0]?
  let s <-args[0]?
  let x <-args[1]?
  match <-P.underlying t with
  |.slice e => do
   let n <-bE P e
   if n=0 then none else some (.copy n (<-bW s) (<-bW x))
  |_=>none
 |.call { callee := .builtin .delete, args, argTypes } => do
  let t <-argTypes[0]?
  let m <-args[0]?
  let k <-args[1]?
  match <-P.underlying t with
  |.map j _ => do
   let g <-P.underlying j
   if zeJ g then some (.del g (<-bW m) (<-bW k)) else none
  |_=>none
 |.call { callee := .builtin .clear, args, argTypes } => do
  let t <-argTypes[0]?
  let x <-args[0]?
  match <-P.underlying t with
  |.slice e => do
   let n <-bE P e
   let z <-Ry P e
   if n=0∨z.length≠n then none else some (.clr n z (<-bW x))
  |_=>none
 |.call { callee:=.builtin .min,.. } | .call { callee:=.builtin .max,.. } | .call { callee:=.builtin .complex,.. }
 |.call { callee:=.builtin .real,.. } | .call { callee:=.builtin .imag,.. }=>some (.gen op ty)
 |_=>none
def Bu:lm->Bool
 |.call ..=>true
 |_=>false
def YR:lm->Bool
 |.gen (.select ..) _=>true
 |_=>false
def cat:lm->Nat
 |.Ba .. | .pick .. | .gen .. | .build .. | .mT .. | .iZ .. | .Ik .. | .idx .. | .Wf .. | .TW .. | .FK .. | .len .. | .extract .. | .EL .. | .part .. | .Db ..=>0
 |.load ..=>1
 |.alloc .. | .box .. | .js .. | .mk .. | .vq=>2
 |_=>3
def comp(P:Program)(op:Op)(ty:TypeId):Option lm:=
 match op with
 |.call { callee := .value f, args, .. }=>
  match bW f,IW args with
  |some of,some os=>some (.call of os)
  |_,_=>none
 |_=>
  match lJ P op ty with
  |some b=>if Bu b || YR b then none else some b
  |none=>none
def ol:Nat->List (Value×D×Nat)->List (Value×D×Nat)
 |_,[]=>[]
 |i,(k,d,_)::l=>(k,d,i)::ol (i+1) l
abbrev wK:=FuncId->List D->ar->Option (D×ar×List Nat)
def ui:D->Option Int
 |.c (.lit (.int _ n))=>some n
 |_=>none
def iz:D->Option Bool
 |.c (.lit (.bool b))=>some b
 |_=>none
def oQ(P:Program)(op:Op)(ty:TypeId)(env:List D):Option D:=
 if op.operands.toList.all (λx=>(((bW x).map (aP.ev env)).bind D.de).isSome) then
  match fE P (execOp (λx=>((((bW x).map (aP.ev env)).bind D.de).getD undef)) { dst:=none,op:=op,type:=ty,pos:="",after:=#[],guard:=none }) with
  |some (.value v)=>some (dH v)
  |_=>none
 else none
def put(cs:List D)(off:Nat)(xs:List D):List D:=cs.take off++xs++cs.drop (off+xs.length)
def rc(env:List D):List D->List (Nat×Nat×aP)->Option (List D)
 |b,[]=>some b
 |b, (o, n, x) :: rest => do
  let xs <-(x.ev env).cells?
  if xs.length≠n∨o+n > b.length then none else rc env (put b o xs) rest
def od(σ:ar)(b sz:Nat):Option (List D):=
 match σ[b]? with
 |some (.cells d)=>if d.length=sz then some d else none
 |_=>none
def uq(n:Option Nat)(cs:List D)(off:Nat):Option D:=
 match n with
 |none=>cs[off]?
 |some n=>if off+n<=cs.length then some (.agg ((cs.drop off).take n)) else none
def uf(n:Nat)(z:List D):List D:=(List.replicate n z).flatten
def Im(σ:ar):D->Option Nat
 |.c (.lit (.slice none 0 0))=>some 0
 |.c (.cJ _ es)=>some es.length
 |.sl b _ len _ sz=>if (od σ b sz).isSome then some len else none
 |_=>none
def WZ(σ:ar)(aw:Nat)(n:Nat):D->Option (List D)
 |.c (.lit (.slice none 0 0))=>if n=0 then some [] else none
 |.c (.cJ _ d)=>if n<=d.length/\d.all (λe=>e.length=aw) then some ((d.take n).flatten.map .c) else none
 |.sl b off len d sz => do
  let f <-od σ b sz
  if d=aw/\n<=len/\off+len * aw<=sz then some ((f.drop off).take (n * aw)) else none
 |_=>none
def sM(kind:TypeDesc)(k:Value):List (Value×D×Nat)->Nat->Option (Option (Nat×D))
 |[],_=>some none
 |(b, d, _) :: es, i=>
  match Instr.sameNow kind k b with
  |some true=>some (some (i,d))
  |some false=>sM kind k es (i+1)
  |none=>none
def Ip(σ:ar):D->Option (List (Value×D×Nat))
 |.c (.lit (.map none))=>some []
 |.c (.Ng es)=>some (es.map λp=>(p.1,.c p.2,0))
 |.mp b => match σ[b]? with
  |some (.map es _)=>some es
  |_=>none
 |_=>none
def OM(zero:D):Option (Nat×D)->D×Bool
 |some (_,d)=>(d,true)
 |none=>(zero,false)
def Cz(i:Int)(n:Nat):Option Nat:=if 0<=i/\i<n then some i.toNat else none
def Sn(i:Int)(n:Nat):Option Nat:=if 0<=i/\i<=n then some i.toNat else none
def oS(env:List D)(b d:Nat):Option aP->Option Nat
 |none=>some b
 |some x=>(ui (x.ev env)).bind λi=>Sn i d
def FT(n b:Nat):Bool:=(n * b<=2 ^ 40&&n<=2 ^ 40)&&b<=2 ^ 20
def bm(P:Program)(orc:wK)(o:lm)(env:List D)(σ:ar):Option (D×ar×List Nat):=
 match o with
 |.Ba x=>some (x.ev env,σ,[])
 |.pick c a b=>(iz (c.ev env)).map λt=>(if t then a.ev env else b.ev env,σ,[])
 |.gen op ty=>(oQ P op ty env).map λd=>(d,σ,[])
 |.box x=>((x.ev env).cells?).map λp=>(.ptr σ.length 0 p.length,σ++[.cells p],[])
 |.alloc z=>some (.ptr σ.length 0 z.length,σ++[.cells z],[])
 |.build z F=>(rc env z F).map λp=>(.agg p,σ,[])
 |.js aw len z F=>(rc env (uf len z) F).map λp=>(.sl σ.length 0 len aw p.length,σ++[.cells p],[])
 |.load n a=>
  match a.ev env with
  |.ptr b off sz=>do some (<-uq n (<-od σ b sz) off,σ,[])
  |.c (.cK p off)=>do some (<-uq n (p.map .c) off,σ,[])
  |_=>none
 |.store n a x=>
  match a.ev env with
  |.ptr b off sz => do
   let p <-od σ b sz
   let xs <-(x.ev env).cells?
   if xs.length=n/\off+n<=sz then some (.aS [],σ.set b (.cells (put p off xs)),[b]) else none
  |_=>none
 |.mT x=>
  match x.ev env with
  |.ptr b off sz=>some (.ptr b off sz,σ,[])
  |.c (.cK p off)=>some (.c (.cK p off),σ,[])
  |.c (.fn (.func f) first cap)=>some (.c (.fn (.func f) first cap),σ,[])
  |.fn (.func f) first cap=>some (.fn (.func f) first cap,σ,[])
  |_=>none
 |.iZ k G x=>(isNil k (x.ev env)).map λb=>(.c (.lit (.bool (if G then !b else b))),σ,[])
 |.Ik off x=>
  match x.ev env with
  |.ptr b o sz=>some (.ptr b (o+off) sz,σ,[])
  |.c (.cK p o)=>some (.c (.cK p (o+off)),σ,[])
  |_=>none
 |.idx aw none x i => do
  let i <-ui (i.ev env)
  match x.ev env with
  |.sl b off len j sz => do
   let _ <-od σ b sz
   let k <-Cz i len
   if j=aw then some (.ptr b (off+k * aw) sz,σ,[]) else none
  |.c (.cJ _ j) => do
   let k <-Cz i j.length
   let e <-j[k]?
   if e.length=aw then some (.c (.cK e 0),σ,[]) else none
  |_=>none
 |.idx aw (some len) x i => do
  let i <-ui (i.ev env)
  let k <-Cz i len
  match x.ev env with
  |.ptr b off sz=>some (.ptr b (off+k * aw) sz,σ,[])
  |.c (.cK p off)=>some (.c (.cK p (off+k * aw)),σ,[])
  |.c (.V_ g) => match Gl.tab g with
   |[]=>none
   |v::N=>some (.c (.cK ((v::N).map .lit) (k * aw)),σ,[])
  |_=>none
 |.Wf aw x E y=>
  match x.ev env with
  |.c (.lit (.slice none 0 0)) => do
   let h <-oS env 0 0 y
   let _ <-oS env 0 h E
   some (.c (.lit (.slice none 0 0)),σ,[])
  |.c (.cJ nn j) => do
   let h <-oS env j.length j.length y
   let l <-oS env 0 h E
   if j.all (λe=>e.length=aw) then some (.c (.cJ nn ((j.take h).drop l)),σ,[]) else none
  |.sl b off len j sz => do
   let _ <-od σ b sz
   let h <-(oS env len len y).orElse λ_=>oS env len ((sz-off) / j) y
   let l <-oS env 0 h E
   if j=aw then some (.sl b (off+l * aw) (h-l) aw sz,σ,[]) else none
  |_=>none
 |.len x=>(Im σ (x.ev env)).map λ(n:Nat)=>(.c (.lit (.int .i64 (Int.ofNat n))),σ,[])
 |.Zp x=>(Ip σ (x.ev env)).map λj=>(.c (.lit (.int .i64 (Int.ofNat j.length))),σ,[])
 |.mk aw q z l c => do
  let l <-ui (l.ev env)
  let c <-ui (c.ev env)
  if 0<=l/\l<=c/\FT c.toNat q then some (.sl σ.length 0 l.toNat aw (l.toNat * aw),σ++[.cells (uf l.toNat z)],[]) else none
 |.vq=>some (.mp σ.length,σ++[.map [] 0],[])
 |.lookup u zero m k ok => do
  let A <-gN (k.ev env)
  let j <-Ip σ (m.ev env)
  let r <-sM u A j 0
  some (if ok then .aS [(OM zero r).1,.c (.lit (.bool (OM zero r).2))] else (OM zero r).1,σ,[])
 |.tH u m k x => do
  let A <-gN (k.ev env)
  match m.ev env with
  |.mp b => match σ[b]? with
   |some (.map j clock) => do
    match <-sM u A j 0 with
    |some (i,_)=>some (.aS [],σ.set b (.map (j.modify i λ(k,_,n)=>(k,x.ev env,n)) clock),[b])
    |none=>some (.aS [],σ.set b (.map (j++[(A,x.ev env,clock)]) (clock+1)),[b])
   |_=>none
  |_=>none
 |.del u m k => do
  let A <-gN (k.ev env)
  match m.ev env with
  |.mp b => match σ[b]? with
   |some (.map j clock) => do
    match <-sM u A j 0 with
    |some (i,_)=>some (.aS [],σ.set b (.map (ol 0 (j.eraseIdx i)) (clock-1)),[b])
    |none=>some (.aS [],σ.set b (.map j clock),[b])
   |_=>none
  |_=>none
 |.extract x i=>
  match x.ev env with
  |.aS ds=>(ds[i]?).map λd=>(d,σ,[])
  |_=>none
 |.EL f first cap=>some (.fn f (first.map (aP.ev env)) (cap.map (aP.ev env)),σ,[])
 |.part off n x=>
  match x.ev env with
  |.agg p=>(uq n p off).map λd=>(d,σ,[])
  |_=>none
 |.Db aw len n x i => do
  let i <-ui (i.ev env)
  let k <-Cz i len
  match x.ev env with
  |.agg p=>(uq n p (k * aw)).map λd=>(d,σ,[])
  |_=>none
 |.append aw q s x => do
  let K:=x.ev env
  let n <-Im σ K
  let new <-WZ σ aw n K
  match s.ev env with
  |.c (.lit (.slice none 0 0))=>if FT n q then some (.sl σ.length 0 n aw (n * aw),σ++[.cells new],[]) else none
  |.sl b off len j sz => do
   let p <-od σ b sz
   if j=aw/\off=0/\len * aw=sz/\FT (len+n) q then
    if n=0 then some (.sl b 0 len aw sz,σ,[b])
    else some (.sl b 0 (len+n) aw (sz+n * aw),σ.set b (.cells (p++new)),[b])
   else if j=aw/\off=0/\(len+n) * aw<=sz/\FT (len+n) q then
    if n=0 then some (.sl b 0 len aw sz,σ,[b])
    else some (.sl b 0 (len+n) aw sz,σ.set b (.cells (put p (len * aw) new)),[b])
   else none
  |_=>none
 |.FK m x=>
  match x.ev env with
  |.c (.cK p off)=>if off+m<=p.length then some (.c (.cJ false (((p.drop off).take m).map λc=>[c])),σ,[]) else none
  |_=>none
 |.TW aw x E y O=>
  match x.ev env with
  |.sl b _ len j sz => do
   let _ <-od σ b sz
   let m <-(ui (O.ev env)).bind λi=>Sn i len
   let h <-(ui (y.ev env)).bind λi=>Sn i len
   let _ <-(ui (E.ev env)).bind λi=>Sn i h
   if m=len/\j=aw then some (.any,σ,[]) else none
  |_=>none
 |.clr aw z x=>
  match x.ev env with
  |.sl b off len j sz => do
   let p <-od σ b sz
   if j=aw/\off+len * aw<=sz/\z.length=aw then some (.aS [],σ.set b (.cells (put p off (uf len z))),[b]) else none
  |_=>none
 |.copy aw d s => do
  let L:=s.ev env
  match d.ev env with
  |.sl b off len j sz => do
   let p <-od σ b sz
   let n <-(Im σ L).map λm=>min m len
   let new <-WZ σ aw n L
   if j=aw/\off+len * aw<=sz then some (.c (.lit (.int .i64 n)),σ.set b (.cells (put p off new)),[b]) else none
  |_=>none
 |.call f args=>
  match f.ev env with
  |.c (.fn (.func g) first cap)=>orc g (first.map .c++args.map (aP.ev env)++cap.map .c) σ
  |.fn (.func g) first cap=>orc g (first++args.map (aP.ev env)++cap) σ
  |_=>none
end Go.Abs
end
section
namespace Go.Abs
variable[Gl]
section
variable{σ σ':ar}{M M':Nat->Option Nat}{Fz Fz':Nat->Prop}{w w':World}
theorem Rel.lt(R:Rel σ M Fz w){b c:Nat}(h:M b=some c):b<σ.length/\c<w.heap.size:=by
 obtain ⟨_,i,o,j,s,_⟩:=R.blk b c h
 grind
theorem Rel.fresh(R:Rel σ M Fz w){b:Nat}(h:σ.length<=b):M b=none:=by
 cases i:M b with
 |none=>rfl
 |some c=>have:=(R.lt i).1;omega
theorem VC.heap(i:w'.heap=w.heap){x:C}{v:Value}(h:VC Fz w x v):VC Fz w' x v:=h.mono λc j=>⟨j,by rw[i]⟩
theorem bH.heap(R:Rel σ M Fz w)(j:w'.heap=w.heap)(o:w'.os=w.os/\w'.tape=w.tape/\w'.output=w.output):bH σ M Fz w σ M Fz w':={
 size:=by simp_all
 frame:=λ_ _ _=>by rw[j]
 ld:=λb c h=>.inl ⟨b,h⟩
 fz:=λc h=>⟨h,by rw[j]⟩
 ow:=λc h=>.inl h
 qo:=λc i T u h=>⟨i,by simp_all,rfl⟩
 keep:=λb s h=>⟨s,h,cX _,λ_=>rfl⟩
 out:=o }
theorem Rel.heap(R:Rel σ M Fz w)(i:w'.heap=w.heap)(j:w'.os=w.os/\w'.tape=w.tape/\w'.output=w.output):Rel σ M Fz w':={
 blk:=λb c h=>by obtain ⟨s,ob,o,h1,h2,u⟩:=R.blk b c h;exact ⟨s,ob,o,h1,by simp_all,u.mono (bH.heap R i j)⟩
 inj:=R.inj
 fz:=λc h=>by rw[i];exact R.fz c h
 gl:=Gl.mono (bH.heap R i j).fz R.gl }
def xD(M:Nat->Option Nat)(b c:Nat):Nat->Option Nat:=λx=>if x=b then some c else M x
theorem bH.alloc(i:∀c,Fz c->c<w.heap.size)(ob:Ob)(o:Obj):bH σ M Fz w (σ++[ob]) (xD M σ.length w.heap.size) Fz (w.alloc o):={
 size:=by simp
 frame:=λc u _=>yBK w o c u
 ld:=λb c h=>by grind [xD]
 fz:=λc h=>⟨h,yBK w o c (i c h)⟩
 ow:=λc h=>.inl h
 qo:=λc j T x h=>⟨j,by grind [Go.heap_alloc_old],rfl⟩
 keep:=λb s h=>by
  have z:=(gC.1 h).1;refine ⟨s,by grind,cX _,λ_=>?_⟩;unfold xD
  grind
 out:=⟨rfl,rfl,rfl⟩ }
theorem Rel.alloc(R:Rel σ M Fz w)(ob:Ob)(o:Obj)(h:bY (σ++[ob]) (xD M σ.length w.heap.size) Fz (w.alloc o) ob o) :
  Rel (σ++[ob]) (xD M σ.length w.heap.size) Fz (w.alloc o):={
 blk:=λb c i=>by
  unfold xD at i;split at i
  ·rename_i x;subst x;simp only[au] at i;subst i;exact ⟨λs=>by have:=R.fz _ s;omega,ob,o,by simp,heap_alloc_new w o,h⟩
  ·obtain ⟨s,u,z,h1,h2,A⟩:=R.blk b c i;have F:=R.lt i;exact ⟨s,u,z,by grind,by grind [Go.heap_alloc_old],A.mono (bH.alloc R.fz ob o)⟩
 inj:=λb E c h j=>by
  unfold xD at h j;split at h <;> split at j
  ·omega
  ·simp only[au] at h;have:=(R.lt j).2;omega
  ·simp only[au] at j;have:=(R.lt h).2;omega
  ·exact R.inj b E c h j
 fz:=λc h=>by have:=R.fz c h;simp;omega
 gl:=Gl.mono (bH.alloc (σ:=σ) (M:=M) R.fz ob o).fz R.gl }
def cI(w:World)(c:Nat)(o:Obj):World:={ w with heap:=w.heap.setIfInBounds c o }
theorem eX{c:Nat}{o:Obj}(h:c<w.heap.size):(cI w c o).heap[c]? = some o:=by simp[cI,h]
theorem fQ{c k:Nat}{o:Obj}(h:k≠c):(cI w c o).heap[k]? = w.heap[k]?:=by grind [cI]
@[simp] theorem setO_size{c:Nat}{o:Obj}:(cI w c o).heap.size=w.heap.size:=by simp[cI]
theorem bH.tH(R:Rel σ M Fz w){b c:Nat}(x:M b=some c){ob ob':Ob}{o o':Obj}(A:σ[b]? = some ob)(E:w.heap[c]? = some o)(hs:ob.sz<=ob'.sz)
  (s:∀arr T j,o=.cells arr T j->∃i,o'=.cells i T j/\i.size=arr.size):bH σ M Fz w (σ.set b ob') M Fz (cI w c o'):={
 size:=by simp
 frame:=λk hk z=>fQ (λh=>z b (by grind))
 ld:=λb c h=>.inl ⟨b,h⟩
 fz:=λk h=>⟨h,fQ (λe=>(R.blk b c x).1 (e▸h))⟩
 ow:=λc h=>.inl h
 qo:=λk arr T j h=>by grind [eX,fQ]
 keep:=λk u h=>by grind
 out:=⟨rfl,rfl,rfl⟩ }
theorem Rel.tH(R:Rel σ M Fz w){b c:Nat}(s:M b=some c){ob ob':Ob}{o o':Obj}(z:σ[b]? = some ob)(A:w.heap[c]? = some o)(hs:ob.sz<=ob'.sz)
  (i:∀arr T E,o=.cells arr T E->∃j,o'=.cells j T E/\j.size=arr.size)
  (h:bY (σ.set b ob') M Fz (cI w c o') ob' o'):Rel (σ.set b ob') M Fz (cI w c o'):={
 blk:=λu c1 F=>by
  obtain ⟨G,x,K,h2,h3,O⟩:=R.blk u c1 F;by_cases e:u=b
  ·subst e;have:c1=c:=by simp_all
   grind [eX]
  ·refine ⟨G,x,K,by grind,?_,O.mono (bH.tH R s z A hs i)⟩;rw[fQ (λQ:c1=c=>e (R.inj u b c (by simp_all) s))];exact h3
 inj:=R.inj
 fz:=λc h=>by simp;exact R.fz c h
 gl:=Gl.mono (bH.tH R s z A hs i).fz R.gl }
theorem bH.move(R:Rel σ M Fz w){b:Nat}{ob ob':Ob}{o':Obj}(s:σ[b]? = some ob)(hs:ob.sz<ob'.sz) :
  bH σ M Fz w (σ.set b ob') (xD M b w.heap.size) Fz (w.alloc o'):={
 size:=by simp
 frame:=λc o _=>yBK w o' c o
 ld:=λb c h=>by grind [xD]
 fz:=λc h=>⟨h,yBK w o' c (R.fz c h)⟩
 ow:=λc h=>.inl h
 qo:=λc j T u h=>⟨j,by grind [Go.heap_alloc_old],rfl⟩
 keep:=λk i h=>by
  by_cases e:k=b
  ·grind
  ·refine ⟨i,by grind,cX _,λ_=>?_⟩;unfold xD
   simp_all
 out:=⟨rfl,rfl,rfl⟩ }
theorem Rel.move(R:Rel σ M Fz w){b:Nat}{ob ob':Ob}{o':Obj}(u:σ[b]? = some ob)(hs:ob.sz<ob'.sz)
  (h:bY (σ.set b ob') (xD M b w.heap.size) Fz (w.alloc o') ob' o'):Rel (σ.set b ob') (xD M b w.heap.size) Fz (w.alloc o'):={
 blk:=λj c1 i=>by
  unfold xD at i;split at i
  ·rename_i e;subst e;simp only[au] at i;subst i;exact ⟨λo=>by have:=R.fz _ o;omega,ob',o',by grind,heap_alloc_new w o',h⟩
  ·rename_i e;obtain ⟨o,s,x,h2,h3,z⟩:=R.blk j c1 i;exact ⟨o,s,x,by grind,by grind [Go.heap_alloc_old],z.mono (bH.move R u hs)⟩
 inj:=λj A c i h2=>by
  unfold xD at i h2;split at i <;> split at h2
  ·omega
  ·simp only[au] at i;have:=(R.lt h2).2;omega
  ·simp only[au] at h2;have:=(R.lt i).2;omega
  ·exact R.inj j A c i h2
 fz:=λc h=>by have:=R.fz c h;simp;omega
 gl:=Gl.mono (bH.move (o':=o') R u hs).fz R.gl }
def cQ(arr:Array Value)(off:Nat)(xs:List Value):Array Value:=(arr.toList.take off++xs++arr.toList.drop (off+xs.length)).toArray
theorem TL{arr:Array Value}{off:Nat}{xs:List Value}(h:off+xs.length<=arr.size):(cQ arr off xs).size=arr.size:=by grind [cQ]
theorem BC{arr:Array Value}{off:Nat}{x:Value}{xs:List Value}(h:off+(xs.length+1)<=arr.size) :
  cQ (arr.setIfInBounds off x) (off+1) xs=cQ arr off (x::xs):=by
 apply Array.ext';simp only[cQ,Array.toList_setIfInBounds,List.length_cons];apply T_;intro i;have b:arr.toList.length=arr.size:=by simp
 simp only[yBy,AH,BY,Wu,b,List.length_cons]
 grind
theorem cB{arr:Array Value}{off:Nat}{xs:List Value}(h:off+xs.length<=arr.size)(i:Nat) :
  (cQ arr off xs)[i]? = if off<=i/\i<off+xs.length then xs[i-off]? else arr[i]?:=by
 have b:arr.toList.length=arr.size:=by simp
 simp only[cQ,List.getElem?_toArray,yBy,AH,BY,b]
 grind
theorem ie{cs xs:List D}{off:Nat}(h:off+xs.length<=cs.length)(i:Nat) :
  (put cs off xs)[i]? = if off<=i/\i<off+xs.length then xs[i-off]? else cs[i]?:=by
 simp only[put,yBy,AH,BY]
 grind
theorem zet{cs xs:List D}{off:Nat}(h:off+xs.length<=cs.length):(put cs off xs).length=cs.length:=by grind [put]
theorem eW(blk o i:Nat):(Addr.mk blk o none).add i=⟨blk,o+i,none⟩:=by grind [Go.Addr.add]
theorem KN{c off:Nat}{arr:Array Value}{T:TypeId}{v:Value}(h:w.heap[c]? = some (.cells arr T (0,0))) :
  w.setCell ⟨c,off,none⟩ v=cI w c (.cells (arr.setIfInBounds off v) T (0,0)):=by
 unfold World.setCell cI;congr 1
 grind
theorem Hj{c:Nat}{o o':Obj}:cI (cI w c o) c o'=cI w c o':=by simp[cI]
theorem um(P:Program)(T:TypeId)(c:Nat):∀(xs:List Value)(i off:Nat)(w:World)(arr:Array Value),
  w.heap[c]? = some (.cells arr T (0,0))->(∀x∈xs,x.oneCell'=true)->off+i+xs.length<=arr.size ->
  (storeCells ⟨c,off,none⟩ xs i).run P w=.ok () (if xs=[] then w else cI w c (.cells (cQ arr (off+i) xs) T (0,0))):=by
 intro xs;induction xs with
 |nil=>intro i off w arr _ _ _;simp[storeCells]
 |cons x xs ih=>
  intro i off w arr d f h;simp only[List.length_cons] at h;have e:=(Cy.1 d).1;have b:w.cell? ⟨c,off+i,none⟩=some (arr[off+i]'(by omega)):=by
   rw[cell_of_row w c (off+i) arr T (0,0) d]
   simp_all
  simp only[storeCells,Sem.run_bind,eW];rw[run_store P w _ x _ (f x (by simp)),b];simp only[frozen_of_row w c (off+i) arr T d,b_,cw,Result.andThen_ok];rw[KN d];have j:=ih (i+1) off (cI w c (.cells (arr.setIfInBounds (off+i) x) T (0,0))) (arr.setIfInBounds (off+i) x) (eX e)
   (λy k=>f y (by simp[k])) (by grind)
  rw[j];simp only[List.cons_ne_nil,cw,reduceCtorEq];congr 1;by_cases g:xs=[]
  ·subst g;simp only[if_true];rw[<-BC (by omega)];congr 2;apply Array.ext';simp[cQ]
  ·rw[if_neg g,Hj,<-BC (by omega)];rfl
end
end Go.Abs
end
section
namespace Go.Abs
variable[Gl]
def dB(σ:ar)(M:Nat->Option Nat)(Fz:Nat->Prop)(w:World)(env:List D)(b:Array Value):Prop:=
 b.size=env.length/\∀(i:Nat) d v,env[i]? = some d->b[i]? = some v->V σ M Fz w d v
def dL(P:Program)(s:Sem Next)(σ:ar)(M:Nat->Option Nat)(Fz:Nat->Prop)(w:World)(σ':ar)(d:D):Prop:=
 ∃b v w' M',s.run P w=.ok b w'/\(b=.value v∨b=.skip/\v=undef)/\Rel σ' M' Fz w'/\V σ' M' Fz w' d v/\bH σ M Fz w σ' M' Fz w'/\σ.length<=σ'.length
section
variable{P:Program}{σ σ':ar}{M M':Nat->Option Nat}{Fz:Nat->Prop}{w w':World}{env:List D}{a:Act}
theorem dL.same{s:Sem Next}{v:Value}{d:D}(R:Rel σ M Fz w)(i:s.run P w=.ok (.value v) w)(j:V σ M Fz w d v):dL P s σ M Fz w σ d:=
 ⟨_,v,w,M,i,.inl rfl,R,j,bH.refl R,cX _⟩
def Yields(P:Program)(s:Sem Next)(σ:ar)(M:Nat->Option Nat)(Fz:Nat->Prop)(w:World)(d:D):Prop:=∃v,s.run P w=.ok (.value v) w/\V σ M Fz w d v
def ai(P:Program)(s:Sem Next)(σ:ar)(M:Nat->Option Nat)(Fz:Nat->Prop)(w:World)(ob:Ob)(d:D):Prop:=
 ∃o v,s.run P w=.ok (.value v) (w.alloc o)/\bY (σ++[ob]) (xD M σ.length w.heap.size) Fz (w.alloc o) ob o/\V (σ++[ob]) (xD M σ.length w.heap.size) Fz (w.alloc o) d v
theorem Yields.same{s:Sem Next}{v:Value}{d:D}(i:s.run P w=.ok (.value v) w)(j:V σ M Fz w d v):Yields P s σ M Fz w d:=⟨v,i,j⟩
theorem Yields.gives{s:Sem Next}{d:D}(R:Rel σ M Fz w)(h:Yields P s σ M Fz w d):dL P s σ M Fz w σ d:=
 let ⟨_,i,j⟩:=h;dL.same R i j
theorem ai.gives{s:Sem Next}{d:D}{ob:Ob}(R:Rel σ M Fz w)(h:ai P s σ M Fz w ob d):dL P s σ M Fz w (σ++[ob]) d:=
 let ⟨o,v,i,j,u⟩:=h;⟨_,v,_,_,i,.inl rfl,R.alloc ob o j,u,bH.alloc R.fz ob o,by simp⟩
theorem V.dH (v:Value):V σ M Fz w (dH v) v:=by
  cases v <;> first
    | exact .c (.lit _)
    | (refine .agg _ (by simp) (fun i d v j o=>?_)
       simp only [mE,OD,o,Option.map_some,au] at j
       subst j
       exact .c (.lit _))
    | (refine .aS _ (by simp) (fun i d v j o=>?_)
       simp only [mE,OD,o,Option.map_some,au] at j
       subst j
       exact .c (.lit _))
theorem my(E:dB σ M Fz w env a.tmps){x:Operand}{o:aP}(h:bW x=some o):V σ M Fz w (o.ev env) (a.eval x):=by
 cases x with
 |tmp t=>
  simp only[bW,au] at h;subst h;simp only[aP.ev,Act.eval];by_cases e:t<env.length
  ·have j:env[t]? = some env[t]:=eS e;have k:a.tmps[t]? = some (a.tmps[t]'(by rw[E.1];exact e)):=sI _;rw[j,xAd,yAV,k,xAd];exact E.2 t _ _ j k
  ·have b:env.length<=t:=Nat.le_of_not_lt e;rw[xAg b,yAV,Array.getElem?_eq_none (by rw[E.1];exact b)];exact .aS #[] rfl (λi d v h=>by simp at h)
 |const v=>simp only[bW,au] at h;subst h;exact V.dH v
 |global g=>simp only[bW,au] at h;subst h;exact .c (.V_ g)
 |func f=>simp only[bW,au] at h;subst h;exact .c (.fn #[] #[] rfl rfl (λi d v h=>by simp at h) (λi d v h=>by simp at h))
theorem V.cj{v i:Value}(h:V σ M Fz w (.c (.lit v)) i):i=v:=by
 cases h with
 |c h=>cases h;rfl
theorem Qk{ds:List D}{l:List Value}(h:ds.mapM gN=some l):ds.length=l.length/\∀(i:Nat) d,ds[i]? = some d->∃v,l[i]? = some v/\d=.c (.lit v):=by
 induction ds generalizing l with
 |nil=>simp_all
 |cons d ds ih=>
  simp only[Vw,Option.pure_def,Option.bind_eq_bind,cM,au] at h;obtain ⟨v,b,g,e,rfl⟩:=h;obtain ⟨f,j⟩:=ih e;refine ⟨by simp[f],λi k hd=>?_⟩;cases i with
  |zero=>
   simp only[List.getElem?_cons_zero,au] at hd;subst hd;cases d with
   |c x=>cases x <;> simp[gN] at b;simp_all
   |_=>grind [gN]
  |succ i=>simp_all
theorem V.val_inv{d:D}{v s:Value}(h:V σ M Fz w d s)(j:d.de = some v):s=v:=by
 cases d with
 |c x=>cases x <;> simp[D.de] at j;grind [V.cj]
 |agg ds=>
  simp only[D.de,cE] at j;obtain ⟨l,G,rfl⟩:=j;obtain ⟨Q,K⟩:=Qk G;cases h with
  |agg z hs o=>
   congr 1;apply Array.ext';apply T_;intro i;simp only[OD];by_cases O:i<ds.length
   ·have A:ds[i]? = some ds[i]:=eS O;have E:z[i]? = some (z[i]'(by omega)):=sI _;obtain ⟨u,R,hd⟩:=K i _ A;have F:=o i _ _ A E;rw[hd] at F;rw[E,F.cj]
    simp_all
   simp_all
 |_=>grind [D.de]
theorem Zn(E:dB σ M Fz w env a.tmps){o:Oper}{x:Operand}{d:aP}(b:o.op=.move x∨o.op=.assign x)(e:bW x=some d) :
  Yields P (execOp a.eval o) σ M Fz w (d.ev env):=by
 refine Yields.same (v:=a.eval x) ?_ (my E e);rcases b with b | b <;> simp[execOp,b]
theorem pr{d:D}{v:Value}{t:Bool}(h:V σ M Fz w d v)(b:iz d=some t):v=.bool t:=by
 cases d with
 |c x=>
  cases x with
  |lit u=>
   cases u <;> simp[iz] at b
   grind [V.cj]
  |_=>grind [iz]
 |_=>grind [iz]
theorem ju{d:D}{v:Value}{n:Int}(h:V σ M Fz w d v)(b:ui d=some n):∃k,v=.int k n:=by
 cases d with
 |c x=>
  cases x with
  |lit u=>
   cases u <;> simp[ui] at b
   grind [V.cj]
  |_=>grind [ui]
 |_=>grind [ui]
theorem pick_ok(E:dB σ M Fz w env a.tmps){o:Oper}{c x y:Operand}{b d e:aP}{t:Bool}(f:o.op=.pick c x y)
  (g:bW c=some b) (i:bW x=some d) (j:bW y=some e) (h:iz (b.ev env)=some t) :
  Yields P (execOp a.eval o) σ M Fz w (if t then d.ev env else e.ev env):=by
 refine Yields.same (v:=if t then a.eval x else a.eval y) ?_ ?_
 ·simp[execOp,f,pr (my E g) h,asBool]
 grind [my]
theorem kT(E:dB σ M Fz w env a.tmps){o:Oper}{d:D}(e:∀cs b,o.op≠.select cs b)(h:oQ P o.op o.type env=some d) :
  Yields P (execOp a.eval o) σ M Fz w d:=by
 unfold oQ at h;split at h
 ·rename_i f;generalize j:(λx=>((((bW x).map (aP.ev env)).bind D.de).getD undef))=ρ at h;have k:execOp a.eval o=execOp ρ o:=by
   refine execOp_congr o e (λx n=>?_);have g:=(iR.1 f) x (by simp_all);rw[<-j];cases i:bW x with
   |none=>simp_all
   |some p=>simp only[i,Option.map_some,Option.bind_some] at g ⊢;obtain ⟨v,m⟩:=yBj.1 g;rw[m,xAd];exact (my E i).val_inv m
  have l:execOp ρ o=execOp ρ { dst:=none,op:=o.op,type:=o.type,pos:="",after:=#[],guard:=none }:=rfl
  grind [Yields.same,V.dH,PV]
 simp_all
theorem V.one{d:D}{v:Value}(h:V σ M Fz w d v)(hs:d.scalar=true):v.oneCell'=true/\v.cells=#[v]:=by
 cases h with
 |c h=>
  cases h with
  |lit v=>simp only[D.scalar] at hs;cases v <;> first | exact ⟨rfl,rfl⟩ | simp[Value.oneCell'] at hs
  |_=>exact ⟨rfl,rfl⟩
 |any v=>grind [D.scalar]
 |agg=>grind [D.scalar]
 |aS=>grind [D.scalar]
 |_=>exact ⟨rfl,rfl⟩
theorem V.cells{d:D}{v:Value}{cs:List D}(h:V σ M Fz w d v)(j:d.cells? = some cs) :
  v.cells.size=cs.length/\(∀(i:Nat) x u,cs[i]? = some x->v.cells[i]? = some u->V σ M Fz w x u)/\(∀u∈v.cells.toList,u.oneCell'=true)/\(∀x∈cs,x.scalar=true):=by
 have s:d.scalar=true->d.cells? = some [d]->v.cells.size=cs.length/\(∀(i:Nat) x u,cs[i]? = some x->v.cells[i]? = some u->V σ M Fz w x u)/\(∀u∈v.cells.toList,u.oneCell'=true)/\(∀x∈cs,x.scalar=true):=by
  intro hs z;rw[z] at j;simp only[au] at j;subst j;obtain ⟨R,U⟩:=h.one hs
  grind
 cases d with
 |agg ds=>
  simp only[D.cells?] at j;split at j
  ·rename_i o;simp only[au] at j;subst j;cases h with
   |agg A z E=>refine ⟨z,E,λu F=>?_,λx G=>iR.1 o x G⟩;obtain ⟨i,K,rfl⟩:=KX.1 F;simp only[Value.cells,Array.length_toList] at K;have O:ds[i]? = some (ds[i]'(by omega)):=eS _;have Q:A[i]? = some A[i]:=sI _;exact ((E i _ _ O Q).one (iR.1 o _ (bG _))).1
  simp_all
 |_=>
  simp only[D.cells?] at j;split at j
  ·rename_i hs;exact s hs (by simp only[D.cells?,hs,if_true])
  simp_all
theorem ze{arr:Array Value}{i:Nat}{u:Value}(h:arr[i]? = some u):u∈arr.toList:=by grind
theorem qA (b:∀c,Fz c→c<w.heap.size) {cs:List D} {arr:Array Value} (T:TypeId) (hs:cs.length≤arr.size)
  (e:∀(i:Nat) x u,cs[i]? = some x→arr[i]? = some u→V σ M Fz w x u∧u.oneCell'=true) :
  (newRow T arr).run P w=.ok ⟨w.heap.size,0,none⟩ (w.alloc (.cells arr T)) ∧
   bY (σ++[.cells cs]) (xD M σ.length w.heap.size) Fz (w.alloc (.cells arr T)) (.cells cs) (.cells arr T):=
 ⟨rfl,arr,T,rfl,hs,fun i d v f g=>⟨(e i d v f g).1.mono (bH.alloc b _ _),(e i d v f g).2⟩⟩
theorem V.YL(cs:List D)(o:Obj):V (σ++[.cells cs]) (xD M σ.length w.heap.size) Fz (w.alloc o) (.ptr σ.length 0 cs.length) (.pointer (some ⟨w.heap.size,0,none⟩)):=
 .ptr _ (.cells cs) (by simp) (by simp[Ob.sz]) (λ_=>⟨w.heap.size,by simp[xD],rfl⟩)
theorem box_ok(b:∀c,Fz c->c<w.heap.size)(E:dB σ M Fz w env a.tmps){o:Oper}{t:TypeId}{x:Operand}{e:aP}{cs:List D}(g:o.op=.box t x)(d:bW x=some e)
  (h:(e.ev env).cells? = some cs):ai P (execOp a.eval o) σ M Fz w (.cells cs) (.ptr σ.length 0 cs.length):=by
 obtain ⟨n,j,k,_⟩:=(my E d).cells h;obtain ⟨l,m⟩:=qA (P:=P) b t (by omega) (λi x u d f=>⟨j i x u d f,k u (ze f)⟩);exact ⟨_,_,by simp[execOp,g,Instr.box,newVar,l],m,V.YL cs _⟩
theorem zc9{t:TypeId}{z:List D}(h:Ry P t=some z):∃i v,P.info? t=some i/\i.zero=some v/\(dH v).cells? = some z:=by grind [Ry,zeroOf,Option.bind_eq_some_iff]
theorem zdn{t:TypeId}{i:TypeInfo}(h:P.info? t=some i)(w:World):(typeInfo t).run P w=.ok i w:=by simp[typeInfo,h]
theorem gQ{t:TypeId}{i:TypeInfo}{v:Value}(h:P.info? t=some i)(b:i.zero=some v)(w:World):(zeroValue t).run P w=.ok v w:=by simp[zeroValue,zdn h,b]
theorem OY{t:TypeId}{n:Nat}(h:bE P t=some n)(w:World):(sizeOf t).run P w=.ok n w:=by simp only[bE,cE] at h;obtain ⟨i,b,rfl⟩:=h;simp[sizeOf,zdn b]
theorem rp{t:TypeId}{d:TypeDesc}(h:P.underlying t=some d)(w:World):(underlying t).run P w=.ok d w:=by simp[underlying,h]
theorem Zt(b:∀c,Fz c->c<w.heap.size){o:Oper}{t:TypeId}{z:List D}(e:o.op=.alloc t)(f:Ry P t=some z) :
  ai P (execOp a.eval o) σ M Fz w (.cells z) (.ptr σ.length 0 z.length):=by
 obtain ⟨i,v,g,h,j⟩:=zc9 f;obtain ⟨q,k,l,_⟩:=(V.dH (σ:=σ) (M:=M) (Fz:=Fz) (w:=w) v).cells j;obtain ⟨m,n⟩:=qA (P:=P) b t (by omega) (λi x u p d=>⟨k i x u p d,l u (ze d)⟩);exact ⟨_,_,by simp[execOp,e,Instr.alloc,gQ g h,newVar,m],n,V.YL z _⟩
theorem OJ{b sz:Nat}{cs:List D}(h:od σ b sz=some cs):σ[b]? = some (.cells cs)/\cs.length=sz:=by grind [od]
theorem V.wP{b off sz:Nat}{v:Value}{cs:List D}(h:V σ M Fz w (.ptr b off sz) v)(j:od σ b sz=some cs):∃c,M b=some c/\v=.pointer (some ⟨c,off,none⟩):=by
 obtain ⟨o,s⟩:=OJ j;cases h with
 |ptr z A i u x=>
  rw[o] at i;simp only[au] at i;subst i;obtain ⟨c,E,F⟩:=x s
  simp_all
theorem Rel.row(R:Rel σ M Fz w){b c:Nat}{cs:List D}(s:M b=some c)(u:σ[b]? = some (.cells cs)) :
  ∃arr T,w.heap[c]? = some (.cells arr T (0,0))/\cs.length<=arr.size/\∀(i:Nat) d v,cs[i]? = some d->arr[i]? = some v->V σ M Fz w d v/\v.oneCell'=true:=by
 obtain ⟨_,z,o,j,A,x⟩:=R.blk b c s;rw[u] at j;simp only[au] at j;subst j;obtain ⟨arr,T,rfl,E,F⟩:=x
 grind
theorem yH{t:TypeId}{n:Option Nat}{cs:List D}{blk g off:Nat}{d:D}(h:Ep P t=some n)(k:uq n cs off=some d)
  (b:∀(i:Nat) x,cs[i]? = some x->∃u,w.cell? ⟨blk,g+i,none⟩=some u/\V σ M Fz w x u) :
  ∃v,(loadVar t ⟨blk,g+off,none⟩).run P w=.ok v w/\V σ M Fz w d v:=by
 unfold Ep at h;have agg:∀(i:TypeInfo),P.info? t=some i->n=some i.size->(isAgg t).run P w=.ok true w->∃v,(loadVar t ⟨blk,g+off,none⟩).run P w=.ok v w/\V σ M Fz w d v:=by
  intro i p h e;subst h;simp only[uq] at k;split at k
  ·rename_i y;simp only[au] at k;subst k;have z:∀j,j<i.size->∃u,w.cell? ⟨blk,g+off+j,none⟩=some u/\∀x,cs[off+j]? = some x->V σ M Fz w x u:=by
    intro j E;obtain ⟨u,q,r⟩:=b (off+j) _ (eS (by omega))
    grind
   let f:Nat->Value:=λj=>(w.cell? ⟨blk,g+off+j,none⟩).getD undef
   have A:∀j,j<i.size->w.cell? ((Addr.mk blk (g+off) none).add j)=some (f j):=by grind [eW]
   have l:=run_loadCells (P:=P) (w:=w) ⟨blk,g+off,none⟩ i.size f A;refine ⟨.agg (List.map f (List.range i.size)).toArray,by simp only[loadVar,Sem.run_bind,e,Result.andThen_ok,if_true,sizeOf,zdn p,Sem.run_pure,l],?_⟩;refine .agg _ (by grind) (λj x v q r=>?_)
   grind
  simp_all
 have one:n=none->(isAgg t).run P w=.ok false w->∃v,(loadVar t ⟨blk,g+off,none⟩).run P w=.ok v w/\V σ M Fz w d v:=by intro h e;subst h;obtain ⟨u,q,r⟩:=b off d k;exact ⟨u,by simp only[loadVar,Sem.run_bind,e,Result.andThen_ok,b_,cw,run_load,q],r⟩
 cases p:P.info? t with
 |none=>simp_all
 |some i=>
  cases s:P.underlying t with
  |none=>simp_all
  |some m=>
   rw[p,s] at h;have o:(isAgg t).run P w=.ok (m matches .struct _ | .array _ _) w:=by simp only[isAgg,Sem.run_bind,rp s,Result.andThen_ok];cases m <;> rfl
   grind
theorem load_ok (E:dB σ M Fz w env a.tmps) {o:Oper} {t:TypeId} {x:Operand} {q:aP} {n:Option Nat} {d:D} (A:o.op=.load t x) (L:bW x=some q)
  (F:Ep P t=some n) (N:∀b off sz c cs,q.ev env=.ptr b off sz→M b=some c→σ[b]? = some (.cells cs)→∃arr T,w.heap[c]? = some (.cells arr T (0,0))∧cs.length≤arr.size∧∀(i:Nat) d v,cs[i]? = some d→arr[i]? = some v→V σ M Fz w d v∧v.oneCell'=true)
  (h:(match q.ev env with
   | .ptr b off sz=>do some (←uq n (←od σ b sz) off,σ,([]:List Nat))
   | .c (.cK cs off)=>do some (←uq n (cs.map .c) off,σ,[])
   | _=>none)=some (d,σ',[])):σ'=σ∧Yields P (execOp a.eval o) σ M Fz w d:=by
 have k:=my E L
 split at h
 ·rename_i b off sz p
  rw [p] at k
  simp only [Option.bind_eq_bind,cM,au,aX] at h
  obtain ⟨cs,G,O,r,rfl,rfl,_⟩:=h
  refine ⟨rfl,?_⟩
  obtain ⟨c,Q,l⟩:=k.wP G
  obtain ⟨R,_⟩:=OJ G
  obtain ⟨arr,T,S,X,s⟩:=N b off sz c cs p Q R
  have f:∀(i:Nat) x,cs[i]? = some x→∃u,w.cell? ⟨c,0+i,none⟩=some u∧V σ M Fz w x u:=by
   intro i x j
   have Y:=(gC.1 j).1
   have e:arr[i]? = some (arr[i]'(by omega)):=sI _
   exact ⟨_,by rw [Rz,cell_of_row w c i arr T (0,0) S]; exact e,(s i _ _ j e).1⟩
  obtain ⟨v,g,m⟩:=yH (P:=P) F r f
  refine Yields.same (v:=v) ?_ m
  rw [Rz] at g
  simp [execOp,A,Instr.loadAt,l,Instr.sureAddr,g]
 ·rename_i cs off p
  rw [p] at k
  simp only [Option.bind_eq_bind,cM,au,aX] at h
  obtain ⟨O,r,rfl,rfl,_⟩:=h
  refine ⟨rfl,?_⟩
  cases k with
  | c k =>
   generalize l:a.eval x=Z at k
   cases k with
   | cK blk U c hF W z =>
    have f:∀(i:Nat) x,(cs.map D.c)[i]? = some x→∃u,w.cell? ⟨blk,U+i,none⟩=some u∧V σ M Fz w x u:=by
     intro i x j
     simp only [mE,cE] at j
     obtain ⟨y,K,rfl⟩:=j
     exact ⟨_,(W i y K).1,.c (z i y K)⟩
    obtain ⟨v,g,m⟩:=yH (P:=P) F r f
    refine Yields.same (v:=v) ?_ m
    simp [execOp,A,Instr.loadAt,l,Instr.sureAddr,g]
 simp_all
end
end Go.Abs
end
section
namespace Go.Abs
variable[Gl]
section
variable{P:Program}{σ σ':ar}{M M':Nat->Option Nat}{Fz:Nat->Prop}{w w':World}{env:List D}{a:Act}
theorem EI(off:Nat):∀(l:List Value)(k:Nat)(arr:Array Value),off+k+l.length<=arr.size ->
  (l.zipIdx k).foldl (λcs (p:Value×Nat)=>cs.setIfInBounds (off+p.2) p.1) arr=cQ arr (off+k) l:=by
 intro l;induction l with
 |nil=>intro k arr _;apply Array.ext';simp[cQ]
 |cons x l ih=>grind [List.zipIdx_cons,BC]
def CN(σ:ar)(M:Nat->Option Nat)(Fz:Nat->Prop)(w:World)(cs:List D)(arr:Array Value):Prop:=
 arr.size=cs.length/\∀(i:Nat) x u,cs[i]? = some x->arr[i]? = some u->V σ M Fz w x u/\u.oneCell'=true
theorem CN.put{cs xs:List D}{arr:Array Value}{vs:List Value}{off:Nat}(h:CN σ M Fz w cs arr)(z:vs.length=xs.length)(s:off+xs.length<=cs.length)
  (E:∀(i:Nat) x u,xs[i]? = some x->vs[i]? = some u->V σ M Fz w x u/\u.oneCell'=true):CN σ M Fz w (put cs off xs) (cQ arr off vs):=by
 refine ⟨by rw[TL (by rw[h.1];omega),zet s,h.1],λi x u j o=>?_⟩;rw[ie s] at j;rw[cB (by rw[h.1];omega),z] at o;split at j
 ·grind
 ·rename_i A;rw[if_neg A] at o;exact h.2 _ _ _ j o
theorem CN.r_{d:D}{v:Value}{cs:List D}(h:V σ M Fz w d v)(o:d.cells? = some cs):CN σ M Fz w cs v.cells:=by obtain ⟨s,z,A,_⟩:=h.cells o;exact ⟨s,λi x u E j=>⟨z i x u E j,A u (ze j)⟩⟩
theorem Tb(E:dB σ M Fz w env a.tmps)(pl:Nat->Option (Nat×Nat)):∀(ps:List (Nat×Operand))(k:List (Nat×Nat×aP))(cs e:List D)(arr:Array Value),
  (ps.mapM λ(i,x)=>(pl i).bind λ(o,n)=>(bW x).bind λz=>some (o,n,z))=some k->CN σ M Fz w cs arr->rc env cs k=some e ->
  ∃b,Instr.fill pl arr (ps.map λ(i,x)=>(i,a.eval x))=some b/\CN σ M Fz w e b:=by
 intro ps;induction ps with
 |nil=>intro k cs e arr h j g;simp only[List.mapM_nil,Option.pure_def,au] at h;subst h;simp only[rc,au] at g;subst g;exact ⟨arr,rfl,j⟩
 |cons p ps ih=>
  intro k cs e arr h j g;obtain ⟨i,x⟩:=p;simp only[Vw,Option.pure_def,Option.bind_eq_bind,cM,au] at h;obtain ⟨q,⟨⟨o,n⟩,l,z,m,rfl⟩,r,s,rfl⟩:=h;simp only[rc,Option.bind_eq_bind,cM] at g;obtain ⟨K,t,g⟩:=g;split at g
  ·grind
  ·rename_i f;simp only[not_or,UA,Nat.not_lt] at f;obtain ⟨F,G⟩:=f;have d:=CN.r_ (my E m) t;obtain ⟨b,v,A⟩:=ih r _ e (cQ arr o (a.eval x).cells.toList) s (j.put (by simp[d.1]) (by omega) (λi y u v A=>d.2 i y u v (by simp_all))) g;refine ⟨b,?_,A⟩;simp only[ru,Instr.fill,l];rw[if_neg (by simp[d.1,F,j.1];omega)];rw[<-v];congr 1;have:=EI o (a.eval x).cells.toList 0 arr (by simp[d.1,j.1];omega);rw[<-xAh]
   simp_all
theorem Pq{d:Array Field}{ps:List (Nat×Nat)}(h:Jj P d=some ps)(w:World) :
  (d.mapM λ(f:Field)=>(do pure (f.offset,<-sizeOf f.type):Sem (Nat×Nat))).run P w=.ok ps.toArray w:=by
 have e:∀(l:List Field)(ps:List (Nat×Nat)),(l.mapM λf=>(bE P f.type).map λn=>(f.offset,n))=some ps ->
   (l.mapM λf=>(do pure (f.offset,<-sizeOf f.type):Sem (Nat×Nat))).run P w=.ok ps w:=by
  intro l;induction l with
  |nil=>simp_all
  |cons f l ih=>intro ps h;simp only[Vw,Option.pure_def,Option.bind_eq_bind,cM,cE,au] at h;obtain ⟨q,⟨n,g,rfl⟩,i,b,rfl⟩:=h;simp only[Vw,Sem.run_bind,OY g,Result.andThen_ok,Sem.run_pure,ih i b]
 grind [Jj,Array.mapM_eq_mapM_toList,Go.Sem.run_map,Go.Result.andThen_ok]
theorem Mn(E:dB σ M Fz w env a.tmps){o:Oper}{t:TypeId}{b:Array (Nat×Operand)}{z:List D}{h:List (Nat×Nat×aP)}{pl:Nat->Option (Nat×Nat)}{cs:List D}
  (p:o.op=.build t b) (u:Ry P t=some z)
  (j:(∃k ps,P.underlying t=some (.struct k)/\Jj P k=some ps/\pl=(ps[·]?))∨(∃m e n,P.underlying t=some (.array m e)/\bE P e=some n/\pl=λi=>some (i * n,n)))
  (y:(b.toList.mapM λ(i,x)=>(pl i).bind λ(o,n)=>(bW x).bind λA=>some (o,n,A))=some h) (F:rc env z h=some cs) :
  Yields P (execOp a.eval o) σ M Fz w (.agg cs):=by
 obtain ⟨i,v,q,r,G⟩:=zc9 u;have f:=CN.r_ (V.dH (σ:=σ) (M:=M) (Fz:=Fz) (w:=w) v) G;obtain ⟨g,Q,s⟩:=Tb E pl b.toList h z cs v.cells y f F;refine Yields.same (v:=.agg g) ?_ (.agg g s.1 (λi d v K L=>(s.2 i d v K L).1));rcases j with ⟨k,ps,l,N,rfl⟩ | ⟨m,e,n,l,O,rfl⟩
 ·simp only[execOp,p,Instr.build,Sem.run_bind,gQ q r,Result.andThen_ok,rp l,Pq N]
  simp_all
 ·simp only[execOp,p,Instr.build,Sem.run_bind,gQ q r,Result.andThen_ok,rp l,OY O]
  simp_all
theorem lu(n:Nat)(z:List D):(uf n z).length=n * z.length:=by simp[uf]
theorem Ez{z:List D}(b:z≠[]):∀(n i:Nat),i<n * z.length->(uf n z)[i]? = z[i % z.length]?:=by
 intro n;have d:0<z.length:=Wg.2 b;induction n with
 |zero=>omega
 |succ n ih=>
  intro i f;have e:uf (n+1) z=z++uf n z:=by simp[uf,List.replicate_succ]
  rw[e,yBy];split
  ·grind [Nat.mod_eq_of_lt]
  ·rename_i h;rw[ih (i-z.length) (by grind)];congr 1
   conv=>rhs;rw[show i=i-z.length+z.length from by omega]
   rw[Nat.add_mod_right]
theorem BN{z:List D}{v:Value}(b:CN σ M Fz w z v.cells)(g:z≠[])(n m:Nat)(d:n<=m) :
  n * z.length<=((Array.range (m * v.cells.size)).map (v.cells[· % v.cells.size]!)).size /\
  ∀(i:Nat) x u,(uf n z)[i]? = some x->((Array.range (m * v.cells.size)).map (v.cells[· % v.cells.size]!))[i]? = some u->V σ M Fz w x u/\u.oneCell'=true:=by
 have k:0<z.length:=Wg.2 g;refine ⟨by simp[b.1];exact Gv _ d,λi x u e h=>?_⟩;have j:=(gC.1 e).1;rw[lu] at j;rw[Ez g n i j] at e;have l:i % z.length<v.cells.size:=by rw[b.1];grind
 have f:i<m * v.cells.size:=by grind
 refine b.2 (i % z.length) x u e ?_;rw[Array.getElem?_map,Array.getElem?_range,if_pos f] at h;simp only[Option.map_some,au,b.1] at h
 simp_all
theorem V.WB{cs:List D}{arr:Array Value}{T:TypeId}{len aw cap:Nat}(i:len<=cap)(j:cap * aw<=arr.size)(o:len * aw<=cs.length)(hs:cs.length<=cap * aw) :
  V (σ++[.cells cs]) (xD M σ.length w.heap.size) Fz (w.alloc (.cells arr T)) (.sl σ.length 0 len aw cs.length) (.slice (some ⟨w.heap.size,0,none⟩) len cap):=
 .sl _ _ _ (by simp) (.cells cs) (by simp) (by simp[Ob.sz]) (λ_=>.inr ⟨w.heap.size,0,arr,T,by simp[xD],rfl,rfl,⟨i,by omega⟩,.inl rfl,heap_alloc_new w _,by omega,by omega⟩)
theorem UX(q:∀c,Fz c->c<w.heap.size)(E:dB σ M Fz w env a.tmps){o:Oper}{t e:TypeId}{len n:Nat}{b:Array (Nat×Operand)}{z:List D}{r:List (Nat×Nat×aP)}{cs:List D}
  (N:o.op=.buildSlice t len b) (O:P.underlying t=some (.slice e)) (Q:bE P e=some n) (R:Ry P e=some z) (f:¬(n=0∨z.length≠n∨len * n > 2 ^ 20))
  (S:(b.toList.mapM λ(i,x)=>(some (i * n,n)).bind λ(p:Nat×Nat)=>(bW x).bind λT=>some (p.1,p.2,T))=some r) (U:rc env (uf len z) r=some cs) :
  ai P (execOp a.eval o) σ M Fz w (.cells cs) (.sl σ.length 0 len n cs.length):=by
 obtain ⟨i,v,W,X,Y⟩:=zc9 R;have d:=CN.r_ (V.dH (σ:=σ) (M:=M) (Fz:=Fz) (w:=w) v) Y;simp only[not_or,UA,Nat.not_lt] at f;obtain ⟨Z,s,L⟩:=f;have g:z≠[]:=λh=>by simp_all
 have aa:v.cells.size=n:=by rw[d.1,s]
 obtain ⟨ab,A⟩:=BN d g len len (cX _);have F:CN σ M Fz w (uf len z) ((Array.range (len * v.cells.size)).map (v.cells[· % v.cells.size]!)):=⟨by grind [lu],A⟩;obtain ⟨arr,h1,m⟩:=Tb E (λi=>some (i * n,n)) b.toList r (uf len z) cs _ S F U;have j:cs.length=len * n:=by
  have:arr.size=len * n:=by
   have G:∀(l:List (Nat×Value))(x y:Array Value),Instr.fill (λi=>some (i * n,n)) x l=some y->y.size=x.size:=by
    intro l;induction l with
    |nil=>grind [Go.Instr.fill]
    |cons p l ih=>
     intro x y h;obtain ⟨i,u⟩:=p;simp only[Instr.fill] at h;split at h
     ·simp at h
     ·rename_i k;simp at k;rw[ih _ _ h,<-xAh];have:=EI (i * n) u.cells.toList 0 x (by grind);simp only[Nat.add_zero] at this
      grind [TL]
   grind
  rw[<-m.1,this]
 obtain ⟨r1,r2⟩:=qA (P:=P) q (arr:=arr) (cs:=cs) e (by rw[m.1];omega) m.2;refine ⟨_,.slice (some ⟨w.heap.size,0,none⟩) len len,?_,r2,V.WB (cap:=len) (cX _) (by rw[m.1,j];omega) (by omega) (by omega)⟩;simp only[execOp,N,Instr.buildSlice,Sem.run_bind,rp O,Result.andThen_ok,OY Q];rw[if_neg (by omega)];by_cases h0:len * n=0
 ·have K:len=0:=by
   grind [Nat.mul_eq_zero]
  subst K;simp only[yCa] at h1 ⊢;simp only[if_true,Sem.run_bind,Sem.run_pure,Result.andThen_ok]
  grind [Array.toList_map,Go.Sem.run_bind,Go.Result.andThen_ok,Go.Sem.run_pure]
 ·rw[if_neg h0];simp only[Sem.run_bind,gQ W X,Result.andThen_ok,Sem.run_pure]
  simp_all
theorem WD(R:Rel σ M Fz w)(E:dB σ M Fz w env a.tmps){o:Oper}{t:TypeId}{x y:Operand}{Q S:aP}{n b off sz:Nat}{cs xs:List D}(ho:o.op=.store t x y)
  (hx:bW x=some Q) (U:bW y=some S) (hn:bE P t=some n) (he:Q.ev env=.ptr b off sz) (W:od σ b sz=some cs) (q:(S.ev env).cells? = some xs)
  (hc:xs.length=n/\off+n<=sz):dL P (execOp a.eval o) σ M Fz w (σ.set b (.cells (put cs off xs))) (.aS []):=by
 have X:=my E hx;rw[he] at X;obtain ⟨c,A,F⟩:=X.wP W;obtain ⟨G,aa⟩:=OJ W;obtain ⟨e,T,u,hl,K⟩:=R.row A G;have g:=CN.r_ (my E U) q;obtain ⟨_,_,L,_⟩:=(my E U).cells q;have N:off+xs.length<=cs.length:=by omega
 have r:=um P T c (a.eval y).cells.toList 0 off w e u L (by grind);have j:∀k Y Z,Obj.cells e T (0,0)=.cells k Y Z->∃l,Obj.cells (cQ e off (a.eval y).cells.toList) T (0,0)=.cells l Y Z/\l.size=k.size:=by grind [TL]
 have m:(if (a.eval y).cells.toList=[] then w else cI w c (.cells (cQ e (off+0) (a.eval y).cells.toList) T (0,0)))=cI w c (.cells (cQ e off (a.eval y).cells.toList) T (0,0)):=by
  split
  ·rename_i s;rw[s];have:cQ e off []=e:=by grind [cQ]
   rw[this];unfold cI;have ab:=(Cy.1 u).1;have:w.heap.setIfInBounds c (.cells e T (0,0))=w.heap:=by grind
   rw[this]
  ·rfl
 rw[m] at r;have hs:(Ob.cells cs).sz<=(Ob.cells (put cs off xs)).sz:=by grind [Ob.sz,zet]
 have O:=bH.tH R A G u hs j;refine ⟨.skip,undef,_,M,?_,.inr ⟨rfl,rfl⟩,R.tH A G u hs j ?_,.aS #[] rfl (λi d v h=>by simp at h),O,by simp⟩
 ·simp only[execOp,ho,Instr.storeAt,F,Instr.sureAddr,Sem.run_bind,Sem.run_pure,Result.andThen_ok,storeVar,OY hn]
  simp_all
 ·refine ⟨_,T,rfl,by grind [zet],λi d v z p=>?_⟩;rw[ie N] at z;rw[cB (by grind)] at p;simp only[Array.length_toList,g.1] at p;split at z
  ·rename_i f;rw[if_pos f] at p;have:=g.2 _ _ _ z (by simpa using p);exact ⟨this.1.mono O,this.2⟩
  ·rename_i f;rw[if_neg f] at p;have:=K _ _ _ z p;exact ⟨this.1.mono O,this.2⟩
end
end Go.Abs
end
section
namespace Go.Abs
variable[Gl]
section
variable{P:Program}{σ σ':ar}{M M':Nat->Option Nat}{Fz:Nat->Prop}{w w':World}{env:List D}{a:Act}
theorem V.Ik{b o sz off:Nat}{v:Value}(h:V σ M Fz w (.ptr b o sz) v):∃i,v=.pointer (some i)/\V σ M Fz w (.ptr b (o+off) sz) (.pointer (some (i.add off))):=by
 cases h with
 |ptr i s u j x=>
  refine ⟨i,rfl,.ptr _ s u j (λz=>?_)⟩
  grind [eW]
theorem VC.Ik{cs:List C}{o off:Nat}{v:Value}(h:VC Fz w (.cK cs o) v):∃i,v=.pointer (some i)/\VC Fz w (.cK cs (o+off)) (.pointer (some (i.add off))):=by
 generalize j:C.cK cs o=x at h;cases h with
 |cK blk s c u z A=>simp only[C.cK.injEq] at j;obtain ⟨rfl,rfl⟩:=j;refine ⟨_,rfl,?_⟩;rw[eW,Nat.add_assoc];exact .cK blk s c u z A
 |_=>grind
theorem V.qC{x:C}{v:Value}(h:V σ M Fz w (.c x) v):VC Fz w x v:=by cases h with | c h=>exact h
theorem fld_ok(E:dB σ M Fz w env a.tmps){o:Oper}{s:TypeId}{x:Operand}{m:aP}{f n:Nat}{p:Array Field}{g:Field}{d:D}(t:o.op=.fieldAddr s x f)
  (u:bW x=some m) (v:P.underlying s=some (.struct p)) (y:p[f]? = some g) (z:bE P g.type=some n) (A:n≠0)
  (h:(match m.ev env with
  |.ptr b o sz=>some (.ptr b (o+g.offset) sz,σ,([]:List Nat))
  |.c (.cK q o)=>some (.c (.cK q (o+g.offset)),σ,[])
  |_=>none)=some (d,σ',[])):σ'=σ/\Yields P (execOp a.eval o) σ M Fz w d:=by
 have j:=my E u;have k:∀i,a.eval x=.pointer (some i)->(execOp a.eval o).run P w=.ok (.value (.pointer (some (i.add g.offset)))) w:=by
  intro i e;simp only[execOp,t,Instr.fieldAt,Sem.run_bind,rp v,Result.andThen_ok,y,e,Instr.sureAddr,Sem.run_pure,fieldPlace,OY z]
  simp_all
 split at h
 ·rename_i b F sz l;rw[l] at j;simp only[au,aX] at h;obtain ⟨rfl,rfl,_⟩:=h;obtain ⟨i,e,r⟩:=j.Ik (off:=g.offset)
  grind [Yields.same]
 ·rename_i q F l;rw[l] at j;simp only[au,aX] at h;obtain ⟨rfl,rfl,_⟩:=h;obtain ⟨i,e,r⟩:=j.qC.Ik (off:=g.offset);exact ⟨rfl,Yields.same (k i e) (.c r)⟩
 simp_all
theorem Dk{i:Int}{n k:Nat}(h:Cz i n=some k):0<=i/\i<n/\i.toNat=k/\k<n:=by grind [Cz]
theorem inB_inv{i:Int}{n k:Nat}(h:Sn i n=some k):0<=i/\i<=n/\i.toNat=k/\k<=n:=by grind [Sn]
theorem V.ft{b off len aw sz:Nat}{v:Value}{cs:List D}(h:V σ M Fz w (.sl b off len aw sz) v)(j:od σ b sz=some cs) :
  (v=.slice none 0 0/\len=0/\off=0/\sz=0/\cs=[])∨∃c o cap arr T,M b=some c/\v=.slice (some ⟨c,o,none⟩) len cap/\(len<=cap/\sz<=off+cap * aw)/\(o=off∨cap=0)/\w.heap[c]? = some (.cells arr T (0,0))/\o+cap * aw<=arr.size/\off+len * aw<=sz:=by
 obtain ⟨s,u⟩:=OJ j;cases h with
 |sl Q n cap x R i z A=>
  rw[s] at i;simp only[au] at i;subst i;rcases A u with ⟨U,W,X,Y,Z,e6⟩ | ⟨c,o,arr,T,E,ha,hn,F,G,K,i,O⟩
  ·simp_all
  ·exact .inr ⟨c,o,cap,arr,T,E,by simp_all,F,G,K,i,O⟩
theorem V.mkPtr{b c off sz:Nat}{cs:List D}(i:od σ b sz=some cs)(j:M b=some c):V σ M Fz w (.ptr b off sz) (.pointer (some ⟨c,off,none⟩)):=by obtain ⟨o,s⟩:=OJ i;exact .ptr _ _ o (by grind [Ob.sz]) (λ_=>⟨c,j,rfl⟩)
theorem idx_ok(E:dB σ M Fz w env a.tmps){o:Oper}{t e:TypeId}{x i:Operand}{S U:aP}{n:Nat}{d:D}(ho:o.op=.indexAddr t x i)
  (hx:bW x=some S) (hi:bW i=some U) (hu:P.underlying t=some (.slice e)) (hn:bE P e=some n) (aa:n≠0)
  (h:(do
  let i <-ui (U.ev env)
  match S.ev env with
  |.sl b off len f sz => do
   let _ <-od σ b sz
   let k <-Cz i len
   if f=n then some (.ptr b (off+k * n) sz,σ,([]:List Nat)) else none
  |.c (.cJ _ f) => do
   let k <-Cz i f.length
   let e <-f[k]?
   if e.length=n then some (.c (.cK e 0),σ,[]) else none
  |_=>none)=some (d,σ',[])):σ'=σ/\Yields P (execOp a.eval o) σ M Fz w d:=by
 have u:=my E hx;have F:=my E hi;simp only[Option.bind_eq_bind,cM] at h;obtain ⟨z,W,h⟩:=h;obtain ⟨k0,G⟩:=ju F W;have K:∀v len cap,a.eval x=.slice (some v) len cap->0<=z->z<len->(execOp a.eval o).run P w=.ok (.value (.pointer (some (v.add (z.toNat * n))))) w:=by intro v len cap L y A;simp only[execOp,ho,Instr.indexAt,Sem.run_bind,G,asIntOf,Sem.run_pure,Result.andThen_ok,rp hu,L];rw[if_pos ⟨y,A⟩];simp only[Sem.run_bind,OY hn,Result.andThen_ok,Sem.run_pure]
 split at h
 ·rename_i b off len f sz N;rw[N] at u;simp only[cM] at h;obtain ⟨cs,hr,k,hk,h⟩:=h;split at h
  ·rename_i O;simp only[au,aX] at h;obtain ⟨rfl,rfl,_⟩:=h;obtain ⟨y,A,X,h4⟩:=Dk hk;rcases u.ft hr with ⟨_,e2,_⟩ | ⟨c,o',cap,ab,T,hM,g,hl,Y,hh,l,Q⟩
   ·omega
   grind [Yields.same,eW,V.mkPtr]
  simp_all
 ·rename_i nn f N;rw[N] at u;simp only[cM] at h;obtain ⟨k,hk,m,p,h⟩:=h;split at h
  ·rename_i O;simp only[au,aX] at h;obtain ⟨rfl,rfl,_⟩:=h;obtain ⟨y,A,X,h4⟩:=Dk hk;have q:=u.qC;generalize g:a.eval x=va at q;cases q with
   |cJ aw v cap af W c Q l hc R=>
    have r:aw=n:=by grind
    subst r;have s:0<m.length:=by omega
    obtain ⟨blk,o0,rfl,hF,_,_⟩:=hc k 0 m m[0] p (eS s);refine ⟨rfl,Yields.same (K _ _ _ g y A) ?_⟩;rw[eW,X];refine .c ?_;have:=VC.cK (Fz:=Fz) (w:=w) (cs:=m) (off:=0) blk (o0+k * aw) (c k) hF (λj d Z=>?_) (λj d Z=>R k j m d p Z)
    ·omega
    grind
  simp_all
 simp_all
theorem NK(A:Gl.ok Fz w)(E:dB σ M Fz w env a.tmps){o:Oper}{t e:TypeId}{x i:Operand}{L N:aP}{n len:Nat}{d:D}(Q:o.op=.indexAddr t x i)
  (R:bW x=some L) (S:bW i=some N) (F:P.underlying t=some (.array len e)) (T:bE P e=some n)
  (h:(do
  let i <-ui (N.ev env)
  let k <-Cz i len
  match L.ev env with
  |.ptr b off sz=>some (.ptr b (off+k * n) sz,σ,([]:List Nat))
  |.c (.cK cs off)=>some (.c (.cK cs (off+k * n)),σ,[])
  |.c (.V_ g) => match Gl.tab g with
   |[]=>none
   |v::p=>some (.c (.cK ((v::p).map .lit) (k * n)),σ,[])
  |_=>none)=some (d,σ',[])):σ'=σ/\Yields P (execOp a.eval o) σ M Fz w d:=by
 have l:=my E R;have G:=my E S;simp only[Option.bind_eq_bind,cM] at h;obtain ⟨z,U,k,hk,h⟩:=h;obtain ⟨k0,K⟩:=ju G U;obtain ⟨W,X,Y,h4⟩:=Dk hk;have q:∀m,a.eval x=.pointer (some m)->(execOp a.eval o).run P w=.ok (.value (.pointer (some (m.add (k * n))))) w:=by intro m f;simp only[execOp,Q,Instr.indexAt,Sem.run_bind,K,asIntOf,Sem.run_pure,Result.andThen_ok,rp F,f,Instr.sureAddr];rw[if_pos ⟨W,X⟩];simp only[Sem.run_bind,OY T,Result.andThen_ok,Sem.run_pure,Y]
 split at h
 ·rename_i b off sz r;rw[r] at l;simp only[au,aX] at h;obtain ⟨rfl,rfl,_⟩:=h;obtain ⟨m,f,O⟩:=l.Ik (off:=k * n)
  grind [Yields.same]
 ·rename_i cs off r;rw[r] at l;simp only[au,aX] at h;obtain ⟨rfl,rfl,_⟩:=h;obtain ⟨m,f,O⟩:=l.qC.Ik (off:=k * n);exact ⟨rfl,Yields.same (q m f) (.c O)⟩
 ·rename_i g r;rw[r] at l;split at h
  ·simp at h
  ·rename_i v p hg;simp only[au,aX] at h;obtain ⟨rfl,rfl,_⟩:=h;have f:a.eval x=.pointer (some ⟨g,0,none⟩):=by
    generalize a.eval x=y at l;cases l with
    |c l=>cases l;rfl
   have Z:∀(j:Nat) u,(v::p)[j]? = some u->Fz g/\w.cell? ⟨g,j,none⟩=some u/\u.oneCell'=true:=λj u s=>Gl.tabOk g j u A (by simp_all);refine ⟨rfl,Yields.same (q _ f) (.c ?_)⟩;have:=VC.cK (Fz:=Fz) (w:=w) (cs:=(v::p).map .lit) (off:=k * n) g 0 (λj=>((v::p)[j]?).getD default) (Z 0 v rfl).1 (λj d s=>?_) (λj d s=>?_)
   ·have e:(⟨g,0,none⟩:Addr).add (k * n)=⟨g,k * n,none⟩:=by
     simp only[Addr.add,Rz]
     simp_all
    simp_all
   ·grind
   ·rw[mE,cE] at s;obtain ⟨u,F,rfl⟩:=s;simp only[F,Option.getD_some];exact .lit u
 simp_all
theorem fC(E:dB σ M Fz w env a.tmps){x:Operand}{f:aP}{n k:Nat}(g:bW x=some f)(h:((ui (f.ev env)).bind λi=>Sn i n)=some k)(b:Nat)(hm:n<=b)(d:BoundsCode) :
  (Instr.sliceBound (a.eval x) b d).run P w=.ok k w/\k<=n:=by
 simp only[cM] at h;obtain ⟨i,j,l⟩:=h;obtain ⟨q,e⟩:=ju (my E g) j;obtain ⟨m,r,o,p⟩:=inB_inv l;refine ⟨?_,p⟩;simp only[Instr.sliceBound,Sem.run_bind,e,asIntOf,Sem.run_pure,Result.andThen_ok];rw[if_pos ⟨m,by omega⟩,o];rfl
theorem iJ(E:dB σ M Fz w env a.tmps){lo g:Option Operand}{i e:Option aP}{len j cap l h:Nat}(b:GY lo=some i)(d:GY g=some e)(r:j<=cap)(s:e=none->len<=j)
  (o:oS env len j e=some h) (n:oS env 0 h i=some l) :
  (Instr.sliceBounds true len cap (lo.map a.eval) (g.map a.eval) none).run P w=.ok (l,h,cap) w/\h<=j/\l<=h:=by
 have p:h<=j/\(match g.map a.eval,(none:Option Value) with
  |some v,some _=>Instr.sliceBound v cap .slice3B
  |some v,none=>Instr.sliceBound v cap (if true then .sliceAcap else .sliceAlen)
  |none,none=>pure len
  |none,some _=>stuck "Slice: max without high" : Sem Nat).run P w=.ok h w:=by
  cases g with
  |none=>
   simp only[GY,au] at d;subst d;simp only[oS,au] at o
   simp_all
  |some x=>
   simp only[GY,cE] at d;obtain ⟨t,f,rfl⟩:=d;simp only[oS] at o;obtain ⟨u,y⟩:=fC (P:=P) (w:=w) E f o cap r .sliceAcap
   simp_all
 have q:l<=h/\(match lo.map a.eval with
  |some v=>Instr.sliceBound v h (if (none:Option Value).isSome then .slice3C else .sliceB)
  |none=>pure 0:Sem Nat).run P w=.ok l w:=by
  cases lo with
  |none=>
   simp only[GY,au] at b;subst b;simp only[oS,au] at n;subst n
   simp_all
  |some x=>
   simp only[GY,cE] at b;obtain ⟨t,f,rfl⟩:=b;simp only[oS] at n;obtain ⟨u,y⟩:=fC (P:=P) (w:=w) E f n h (cX _) .sliceB
   simp_all
 refine ⟨?_,p.1,q.1⟩;have k:=p.2;have m:=q.2;clear p q;cases g <;> cases lo <;> simp only[Option.map_some,Option.map_none,Sem.run_pure,Result.ok.injEq,Oa] at k m <;>
  simp only[Instr.sliceBounds,Option.map_some,Option.map_none,Sem.run_bind,Sem.run_pure,Result.andThen_ok,k,m]
theorem slc_ok(E:dB σ M Fz w env a.tmps){o:Oper}{t e:TypeId}{x:Operand}{lo S:Option Operand}{ox:aP}{p g:Option aP}{n:Nat}{d:D}
  (ho:o.op=.slice t x lo S none) (hx:bW x=some ox) (r:GY lo=some p) (u:GY S=some g) (hu:P.underlying t=some (.slice e)) (hn:bE P e=some n)
  (h:(match ox.ev env with
  |.c (.lit (.slice none 0 0)) => do
   let h <-oS env 0 0 g
   let _ <-oS env 0 h p
   some (.c (.lit (.slice none 0 0)),σ,([]:List Nat))
  |.c (.cJ nn f) => do
   let h <-oS env f.length f.length g
   let l <-oS env 0 h p
   if f.all (λe=>e.length=n) then some (.c (.cJ nn ((f.take h).drop l)),σ,[]) else none
  |.sl b off len f sz => do
   let _ <-od σ b sz
   let h <-(oS env len len g).orElse λ_=>oS env len ((sz-off) / f) g
   let l <-oS env 0 h p
   if f=n then some (.sl b (off+l * n) (h-l) n sz,σ,[]) else none
  |_=>none)=some (d,σ',[])):σ'=σ/\Yields P (execOp a.eval o) σ M Fz w d:=by
 have L:=my E hx;have F:∀U len cap l h,a.eval x=.slice U len cap->(Instr.sliceBounds true len cap (lo.map a.eval) (S.map a.eval) none).run P w=.ok (l,h,cap) w ->
   (execOp a.eval o).run P w=.ok (.value (.slice (if cap=l then U else U.map (·.add (l * n))) (h-l) (cap-l))) w:=by
  intro U len cap l h k z;have W:∀(s:Sem Value),(match TypeDesc.slice e with | .array _ _=>s | _=>Instr.slice t (a.eval x) (lo.map a.eval) (S.map a.eval) none)=Instr.slice t (a.eval x) (lo.map a.eval) (S.map a.eval) none:=λ_=>rfl;simp only[execOp,ho,Instr.sliceAt,Sem.run_bind,rp hu,Result.andThen_ok,Option.map_none];simp only[Instr.slice,Sem.run_bind,rp hu,Result.andThen_ok,k,z,OY hn,Sem.run_pure]
 split at h
 ·rename_i N;rw[N] at L;simp only[Option.bind_eq_bind,cM,au,aX] at h;obtain ⟨m,v,l,O,rfl,rfl,_⟩:=h;obtain ⟨z,h3,h4⟩:=iJ (P:=P) (w:=w) E r u (cX 0) (λ_=>cX _) v O;refine ⟨rfl,Yields.same (F _ _ _ _ _ L.cj z) ?_⟩;obtain rfl:m=0:=by omega
  obtain rfl:l=0:=by omega
  exact .c (.lit _)
 ·rename_i nn f N;rw[N] at L;simp only[Option.bind_eq_bind,cM] at h;obtain ⟨m,v,l,O,h⟩:=h;split at h
  ·rename_i a5;simp only[au,aX] at h;obtain ⟨rfl,rfl,_⟩:=h;have X:=L.qC;generalize k:a.eval x=va at X;cases X with
   |cJ aw U cap a7 hz c ab A hc a8=>
    obtain ⟨z,h3,h4⟩:=iJ (P:=P) (w:=w) E r u A (λ_=>cX _) v O;refine ⟨rfl,Yields.same (F _ _ _ _ _ k z) (.c ?_)⟩;have Y:((f.take m).drop l).length=m-l:=by simp_all
    rw[<-Y];refine .cJ n _ _ (λhn=>by grind) (λhn=>by
     by_cases y:cap=l
     ·omega
     simp_all) (λi j=>c (l+i) j) (λe N=>?_) (by omega) (λi j e d G h6=>?_) (λi j e d G h6=>?_)
    ·grind
    ·rw[yBF] at G;have af:=(gC.1 G).1;simp at af;rw[yBt (by omega)] at G;obtain ⟨blk,o0,rfl,hF,ak,an⟩:=hc (l+i) j e d G h6;have Z:aw=n:=by
      grind
     subst Z;refine ⟨blk,o0+l * aw,by rw[if_neg (by omega)];simp[eW],hF,?_,an⟩
     grind
    grind
  simp_all
 ·rename_i b off len f sz N;rw[N] at L;simp only[Option.bind_eq_bind,cM] at h;obtain ⟨cs,hr,m,v,l,O,h⟩:=h;split at h
  ·rename_i av;subst av;simp only[au,aX] at h;obtain ⟨rfl,rfl,_⟩:=h;obtain ⟨G,h6⟩:=OJ hr;rcases L.ft hr with ⟨k,e2,e3,e4,e6⟩ | ⟨c,Q,cap,aa,T,hM,k,hl,a6,hh,A,ab⟩
   ·subst e2;have ax:oS env 0 0 g=some m:=by
     simp_all
    obtain ⟨z,h3,h4⟩:=iJ (P:=P) (w:=w) E r u (cX 0) (λ_=>cX _) ax O
    grind [Yields.same]
   obtain ⟨R,a0,a1,a9,v⟩:∃R,R<=cap/\(g=none->len<=R)/\off+R * f<=sz/\oS env len R g=some m:=by
    cases a2:oS env len len g with
    |some q=>grind
    |none=>
     rw[a2] at v;have v:oS env len ((sz-off) / f) g=some m:=by simp_all
     have hd:(sz-off) / f * f<=sz-off:=Nat.div_mul_le_self _ _;refine ⟨_,?_,λe=>by grind [oS],by omega,v⟩;rcases Nat.eq_zero_or_pos f with h0 | h0
     ·simp_all
     ·exact Nat.div_le_of_le_mul (by grind)
   obtain ⟨z,h3,h4⟩:=iJ (P:=P) (w:=w) E r u a0 a1 v O;refine ⟨rfl,Yields.same (F _ _ _ _ _ k z) ?_⟩;have K:(if cap=l then some (Addr.mk c Q none) else (some (Addr.mk c Q none)).map (·.add (l * f)))=some (if cap=l then Addr.mk c Q none else (Addr.mk c Q none).add (l * f)):=by grind
   rw[K];refine .sl _ _ _ (by simp) _ G (by grind [Ob.sz]) (λ_=>?_);have bb:l * f+(m-l) * f=m * f:=by rw[<-MO];simp_all
   have bc:m * f<=R * f:=Gv _ h3;by_cases y:cap=l
   ·rw[if_pos y];have h0:cap-l=0:=by omega
    subst y;refine .inr ⟨c,Q,aa,T,hM,rfl,rfl,⟨by omega,by omega⟩,.inr (by omega),hh,?_,?_⟩
    ·grind
    ·omega
   ·rw[if_neg y];have bd:l * f+(cap-l) * f=cap * f:=by rw[<-MO];grind
    refine .inr ⟨c,Q+l * f,aa,T,hM,by rw[eW],rfl,⟨by omega,by omega⟩,?_,hh,by omega,by omega⟩;omega
  simp_all
 simp_all
theorem slca_ok(E:dB σ M Fz w env a.tmps){o:Oper}{t e:TypeId}{x:Operand}{v:aP}{m off:Nat}{cs:List C}
  (z:o.op=.slice t x none none none) (A:bW x=some v) (F:P.underlying t=some (.array m e)) (G:bE P e=some 1)
  (p:v.ev env=.c (.cK cs off)) (K:off+m<=cs.length):Yields P (execOp a.eval o) σ M Fz w (.c (.cJ false (((cs.drop off).take m).map λc=>[c]))):=by
 have y:=my E A;rw[p] at y;have k:=y.qC;generalize q:a.eval x=S at k;cases k with
 |cK blk l c L N r=>
  have f:(((cs.drop off).take m).map λc=>[c]).length=m:=by simp;omega
  have n:(execOp a.eval o).run P w=.ok (.value (.slice (some ⟨blk,l+off,none⟩) (((cs.drop off).take m).map λc=>[c]).length m)) w:=by rw[f];simp only[execOp,z,Instr.sliceAt,Sem.run_bind,rp F,Result.andThen_ok,Option.map_none,q,Instr.sureAddr,Sem.run_pure,Instr.sliceBounds,OY G];simp only[yCa,Nat.sub_zero];split <;> rfl
  have get:∀(i j:Nat)(e:List C)(d:C),(((cs.drop off).take m).map λc=>[c])[i]? = some e->e[j]? = some d->j=0/\i<m/\cs[off+i]? = some d:=by
   intro i j e d b g;rw[mE,cE] at b;obtain ⟨x,b,rfl⟩:=b;have s:=(gC.1 b).1;have O:j=0:=by have:=(gC.1 g).1;simp at this;exact this
   subst O;simp only[List.getElem?_cons_zero,au] at g;subst g;simp only[BY,yBN] at s;refine ⟨rfl,by omega,?_⟩;rw[yBt (by omega),yBF] at b;exact b
  refine Yields.same n (.c (.cJ 1 (some ⟨blk,l+off,none⟩) m (λ_=>rfl) (λh=>by cases h) (λi _=>c (off+i)) (λe p=>?_) (Nat.le_of_eq f) (λi j e d b g=>?_) (λi j e d b g=>?_)))
  ·obtain ⟨x,_,rfl⟩:=gD.1 p;rfl
  ·obtain ⟨rfl,s,u⟩:=get i j e d b g;obtain ⟨Q,R⟩:=N _ d u;exact ⟨blk,l+off,rfl,L,by rw[show l+off+i * 1+0=l+(off+i) by omega];exact Q,R⟩
  ·obtain ⟨rfl,s,u⟩:=get i j e d b g;exact r _ d u
theorem slc3xok(E:dB σ M Fz w env a.tmps){o:Oper}{t e:TypeId}{x lo m p:Operand}{u f g j:aP}{n b off len es sz h l:Nat}{cs:List D}
  (A:o.op=.slice t x (some lo) (some m) (some p)) (F:bW x=some u) (q:bW lo=some f) (r:bW m=some g) (s:bW p=some j) (y:P.underlying t=some (.slice e)) (G:bE P e=some n)
  (K:u.ev env=.sl b off len es sz) (L:od σ b sz=some cs) (N:((ui (j.ev env)).bind λi=>Sn i len)=some len) (O:((ui (g.ev env)).bind λi=>Sn i len)=some h) (Q:((ui (f.ev env)).bind λi=>Sn i h)=some l) :
  Yields P (execOp a.eval o) σ M Fz w .any:=by
 have z:=my E F;rw[K] at z;have Z:∀k cap,len<=cap->a.eval x=.slice k len cap->Yields P (execOp a.eval o) σ M Fz w .any:=by
  intro k cap R d;have S:=(fC (P:=P) (w:=w) E s N cap R .slice3Acap).1;have U:=(fC (P:=P) (w:=w) E r O len (cX _) .slice3B).1;have W:=(fC (P:=P) (w:=w) E q Q h (cX _) .slice3C).1;have X:(Instr.sliceBounds true len cap (some (a.eval lo)) (some (a.eval m)) (some (a.eval p))).run P w=.ok (l,h,len) w:=by simp only[Instr.sliceBounds,Sem.run_bind,if_true,S,Result.andThen_ok,U,Option.isSome,W,Sem.run_pure]
  refine Yields.same (v:=.slice (if len=l then k else k.map (·.add (l * n))) (h-l) (len-l)) ?_ (.any _);simp only[execOp,A,Instr.sliceAt,Sem.run_bind,rp y,Result.andThen_ok,Option.map_some];simp only[Instr.slice,Sem.run_bind,rp y,Result.andThen_ok,d,X,OY G,Sem.run_pure]
 rcases z.ft L with ⟨d,e2,_,_,_⟩ | ⟨c,o',cap,Y,T,hM,d,hl,_,_,_,_⟩
 ·simp_all
 grind
theorem PH(E:dB σ M Fz w env a.tmps){o:Oper}{x:Operand}{i:Nat}{h:aP}{ds:List D}{d:D}(k:o.op=.extract x i)(l:bW x=some h)
  (m:h.ev env=.aS ds) (hd:ds[i]? = some d):Yields P (execOp a.eval o) σ M Fz w d:=by
 have b:=my E l;rw[m] at b;generalize f:a.eval x=n at b;cases b with
 |aS j p g=>have q:=(gC.1 hd).1;have e:j[i]? = some (j[i]'(by omega)):=sI _;refine Yields.same ?_ (g i _ _ hd e);simp[execOp,k,Instr.extract,f,e]
theorem list_ok(E:dB σ M Fz w env a.tmps):∀(xs:List Operand)(os:List aP),xs.mapM bW=some os ->
  (xs.map a.eval).length=(os.map (aP.ev env)).length/\∀(i:Nat) d v,(os.map (aP.ev env))[i]? = some d->(xs.map a.eval)[i]? = some v->V σ M Fz w d v:=by
 intro xs;induction xs with
 |nil=>simp_all
 |cons x xs ih=>grind [Option.bind_eq_some_iff,my]
theorem Kx(E:dB σ M Fz w env a.tmps){xs:Array Operand}{os:List aP}(h:IW xs=some os) :
  (xs.map a.eval).size=(os.map (aP.ev env)).length/\∀(i:Nat) d v,(os.map (aP.ev env))[i]? = some d->(xs.map a.eval)[i]? = some v->V σ M Fz w d v:=by
 obtain ⟨b,e⟩:=list_ok E xs.toList os h
 grind
theorem mkfn_ok(E:dB σ M Fz w env a.tmps){o:Oper}{f:Fn}{first cap:Array Operand}{b d:List aP}(e:o.op=.makeFunc f first cap)(g:IW first=some b)(h:IW cap=some d) :
  Yields P (execOp a.eval o) σ M Fz w (.fn f (b.map (aP.ev env)) (d.map (aP.ev env))):=by
 obtain ⟨i,j⟩:=Kx E g;obtain ⟨k,l⟩:=Kx E h;refine Yields.same (v:=.func f (first.map a.eval) (cap.map a.eval)) ?_ (.fn _ _ i k j l);simp[execOp,e,Instr.makeFunc]
theorem LG{t:TypeId}{n:Option Nat}{cs:List D}{vs:Array Value}{off:Nat}{d:D}(g:Ep P t=some n)(f:uq n cs off=some d)(q:vs.size=cs.length)
  (o:∀(i:Nat) d v,cs[i]? = some d->vs[i]? = some v->V σ M Fz w d v):∃v,(part t vs off).run P w=.ok v w/\V σ M Fz w d v:=by
 unfold Ep at g;have agg:∀(i:TypeInfo),P.info? t=some i->n=some i.size->(isAgg t).run P w=.ok true w->∃v,(part t vs off).run P w=.ok v w/\V σ M Fz w d v:=by
  intro i k g b;subst g;simp only[uq] at f;split at f
  ·rename_i p;simp only[au] at f;subst f;refine ⟨.agg (vs.extract off (off+i.size)),by simp only[part,Sem.run_bind,b,Result.andThen_ok,if_true,sizeOf,zdn k,Sem.run_pure],?_⟩;refine .agg _ (by grind) (λj x v r s=>?_)
   grind
  simp_all
 have one:n=none->(isAgg t).run P w=.ok false w->∃v,(part t vs off).run P w=.ok v w/\V σ M Fz w d v:=by intro g b;subst g;simp only[uq] at f;have k:=(gC.1 f).1;have e:vs[off]? = some (vs[off]'(by omega)):=sI _;exact ⟨_,by simp only[part,Sem.run_bind,b,Result.andThen_ok,b_,cw,e,Sem.run_pure],o _ _ _ f e⟩
 cases k:P.info? t with
 |none=>simp_all
 |some i=>
  cases m:P.underlying t with
  |none=>simp_all
  |some h=>
   rw[k,m] at g;have l:(isAgg t).run P w=.ok (h matches .struct _ | .array _ _) w:=by simp only[isAgg,Sem.run_bind,rp m,Result.andThen_ok];cases h <;> rfl
   grind
theorem part_ok(E:dB σ M Fz w env a.tmps){o:Oper}{t:TypeId}{x:Operand}{i:aP}{f:Nat}{j:Array Field}{b:Field}{n:Option Nat}{cs:List D}{d:D}(k:o.op=.field t x f)
  (l:bW x=some i) (m:P.underlying t=some (.struct j)) (p:j[f]? = some b) (q:Ep P b.type=some n) (r:i.ev env=.agg cs) (s:uq n cs b.offset=some d) :
  Yields P (execOp a.eval o) σ M Fz w d:=by
 have e:=my E l;rw[r] at e;generalize g:a.eval x=A at e;cases e with
 |agg F u h=>obtain ⟨v,y,z⟩:=LG (P:=P) q s u h;refine Yields.same (v:=v) ?_ z;simp only[execOp,k,Instr.field,Sem.run_bind,rp m,Result.andThen_ok,p,g,asAgg,Sem.run_pure,y]
theorem aidx_ok(E:dB σ M Fz w env a.tmps){o:Oper}{t e:TypeId}{x i:Operand}{j l:aP}{len sz k:Nat}{n:Option Nat}{cs:List D}{d:D}{z:Int}(m:o.op=.index t x i)
  (p:bW x=some j) (q:bW i=some l) (r:P.underlying t=some (.array len e)) (hs:bE P e=some sz) (s:Ep P e=some n) (u:j.ev env=.agg cs) (y:ui (l.ev env)=some z) (hk:Cz z len=some k)
  (A:uq n cs (k * sz)=some d):Yields P (execOp a.eval o) σ M Fz w d:=by
 have b:=my E p;rw[u] at b;obtain ⟨Q,f⟩:=ju (my E q) y;obtain ⟨F,G,K,R⟩:=Dk hk;generalize g:a.eval x=S at b;cases b with
 |agg T L h=>obtain ⟨v,N,O⟩:=LG (P:=P) s A L h;refine Yields.same (v:=v) ?_ O;simp only[execOp,m,Instr.index,Sem.run_bind,f,asIntOf,Sem.run_pure,Result.andThen_ok,rp r,g];rw[if_pos ⟨F,G⟩];simp only[Sem.run_bind,OY hs,Result.andThen_ok,K,N]
end
end Go.Abs
end
section
namespace Go.Abs
variable[Gl]
section
variable{P:Program}{σ σ':ar}{M M':Nat->Option Nat}{Fz:Nat->Prop}{w w':World}{env:List D}{a:Act}
theorem ZX(E:dB σ M Fz w env a.tmps){o:Oper}{x:Operand}{l:aP}{d:D}(j:o.op=.nilCheck x)(m:bW x=some l)
  (h:(match l.ev env with
  |.ptr b off sz=>some (.ptr b off sz,σ,([]:List Nat))
  |.c (.cK n off)=>some (.c (.cK n off),σ,[])
  |.c (.fn (.func f) first cap)=>some (.c (.fn (.func f) first cap),σ,[])
  |.fn (.func f) first cap=>some (.fn (.func f) first cap,σ,[])
  |_=>none)=some (d,σ',[])):σ'=σ/\Yields P (execOp a.eval o) σ M Fz w d:=by
 have e:=my E m;split at h
 ·rename_i i;rw[i] at e;simp only[au,aX] at h;obtain ⟨rfl,rfl,_⟩:=h;refine ⟨rfl,Yields.same (v:=a.eval x) ?_ e⟩;generalize g:a.eval x=k at e;cases e with
  |ptr=>simp[execOp,j,g]
 ·rename_i i;rw[i] at e;simp only[au,aX] at h;obtain ⟨rfl,rfl,_⟩:=h;refine ⟨rfl,Yields.same (v:=a.eval x) ?_ e⟩;generalize g:a.eval x=k at e;cases e with
  |c e => cases e with
   |cK=>simp[execOp,j,g]
 ·rename_i i;rw[i] at e;simp only[au,aX] at h;obtain ⟨rfl,rfl,_⟩:=h;refine ⟨rfl,Yields.same (v:=a.eval x) ?_ e⟩;generalize g:a.eval x=k at e;cases e with
  |c e => cases e with
   |fn=>simp[execOp,j,g]
 ·rename_i i;rw[i] at e;simp only[au,aX] at h;obtain ⟨rfl,rfl,_⟩:=h;refine ⟨rfl,Yields.same (v:=a.eval x) ?_ e⟩;generalize g:a.eval x=k at e;cases e with
  |fn=>simp[execOp,j,g]
 simp_all
inductive gJ:TypeDesc->Value->Value->Bool->Prop where
 |p0 (e:TypeId):gJ (.pointer e) (.pointer none) (.pointer none) true
 |p1 (e:TypeId) (ad:Addr):gJ (.pointer e) (.pointer (some ad)) (.pointer none) false
 |m0 (k e:TypeId):gJ (.map k e) (.map none) (.map none) true
 |m1 (k e:TypeId) (r:Nat):gJ (.map k e) (.map (some r)) (.map none) false
 |f0 (p r:Array TypeId) (v:Bool):gJ (.func p r v) .nilFunc .nilFunc true
 |f1 (p r:Array TypeId) (v:Bool) (f:Fn) (x y:Array Value):gJ (.func p r v) (.func f x y) .nilFunc false
 |s0 (e:TypeId):gJ (.slice e) (.slice none 0 0) (.slice none 0 0) true
 |s1 (e:TypeId) (ad:Addr) (n c:Nat):gJ (.slice e) (.slice (some ad) n c) (.slice none 0 0) false
theorem UJ{t:TypeId}{d:TypeDesc}{x y:Value}{b:Bool}(e:P.underlying t=some d)(h:gJ d x y b)(w:World) :
  (Op.equal t x y).run P w=.ok b w/\(Op.equal t y x).run P w=.ok b w:=by
 constructor
 ·show (Op.equalIn (9999+1) t x y).run P w=_;generalize 9999=n;cases h <;> (unfold Op.equalIn;simp[rp e])
 ·show (Op.equalIn (9999+1) t y x).run P w=_;generalize 9999=n;cases h <;> (unfold Op.equalIn;simp[rp e])
theorem Ce{t:TypeId}{d:TypeDesc}{x y:Value}{b:Bool}(e:P.underlying t=some d)(h:gJ d x y b)(neg:Bool)(X Y:Operand)(w:World) :
  ((do eqGuard (if neg then .neq else .eql) t X Y x y;binOp (if neg then .neq else .eql) t x y:Sem Value).run P w=.ok (.bool (if neg then !b else b)) w) /\
  ((do eqGuard (if neg then .neq else .eql) t Y X y x;binOp (if neg then .neq else .eql) t y x:Sem Value).run P w=.ok (.bool (if neg then !b else b)) w):=by
 obtain ⟨f,g⟩:=UJ e h w;have i:∀op,(eqGuard op t X Y x y).run P w=.ok () w:=by intro op;cases h <;> cases op <;> rfl
 have j:∀op,(eqGuard op t Y X y x).run P w=.ok () w:=by intro op;cases h <;> cases op <;> rfl
 have k:(binOp (if neg then .neq else .eql) t x y).run P w=.ok (.bool (if neg then !b else b)) w:=by
  cases neg
  ·have:binOp .eql t x y=(do pure (.bool (<-Op.equal t x y)):Sem Value):=by cases h <;> rfl
   simp_all
  ·have:binOp .neq t x y=(do pure (.bool (!(<-Op.equal t x y))):Sem Value):=by cases h <;> rfl
   simp_all
 have l:(binOp (if neg then .neq else .eql) t y x).run P w=.ok (.bool (if neg then !b else b)) w:=by
  cases neg
  ·have:binOp .eql t y x=(do pure (.bool (<-Op.equal t y x)):Sem Value):=by cases h <;> rfl
   simp_all
  ·have:binOp .neq t y x=(do pure (.bool (!(<-Op.equal t y x))):Sem Value):=by cases h <;> rfl
   simp_all
 simp_all
theorem Hd{l:TypeDesc}{k:Nat}{d:D}{v:Value}{b:Bool}(hk:Ac l=some k)(e:V σ M Fz w d v)(h:isNil k d=some b) :
  ∃f,gJ l v f b/\((k=0/\f=.pointer none)∨(k=1/\f=.map none)∨(k=2/\f=.nilFunc)∨(k=3/\f=.slice none 0 0)):=by
 cases l <;> simp only[Ac,au,reduceCtorEq] at hk <;> subst hk
 ·cases d with
  |ptr=>
   simp only[isNil,au] at h;subst h;cases e with
   |ptr g=>exact ⟨_,.p1 _ g,.inl ⟨rfl,rfl⟩⟩
  |c x=>
   cases x with
   |cK=>
    simp only[isNil,au] at h;subst h;cases e with
    |c e => cases e with
     |cK=>exact ⟨_,.p1 _ _,.inl ⟨rfl,rfl⟩⟩
   |lit u=>
    cases u <;> simp[isNil] at h
    rename_i p;cases p <;> simp at h
    subst h;rw[e.cj];exact ⟨_,.p0 _,.inl ⟨rfl,rfl⟩⟩
   |_=>grind [isNil]
  |_=>grind [isNil]
 ·cases d with
  |sl b off len aw sz=>
   cases len with
   |zero=>simp[isNil] at h
   |succ len=>
    simp only[isNil,au] at h;subst h;cases e with
    |sl g n cap i=>
     cases g with
     |none=>simp_all
     |some g=>exact ⟨_,.s1 _ _ _ _,.inr (.inr (.inr ⟨rfl,rfl⟩))⟩
  |c x=>
   cases x with
   |cJ nn o=>
    cases nn <;> simp only[isNil,au,reduceCtorEq] at h
    subst h;have j:=e.qC;generalize m:C.cJ true o=x at j;cases j with
    |cJ aw g cap i=>simp only[C.cJ.injEq] at m;obtain ⟨rfl,rfl⟩:=m;obtain ⟨q,rfl⟩:=yBj.1 (i rfl);exact ⟨_,.s1 _ _ _ _,.inr (.inr (.inr ⟨rfl,rfl⟩))⟩
    |_=>grind
   |lit u=>
    cases u <;> try grind [isNil]
    rename_i p n c;cases p <;> cases n <;> cases c <;> simp[isNil] at h
    subst h;rw[e.cj];exact ⟨_,.s0 _,.inr (.inr (.inr ⟨rfl,rfl⟩))⟩
   |_=>grind [isNil]
  |_=>grind [isNil]
 ·cases d with
  |mp=>
   simp only[isNil,au] at h;subst h;cases e with
   |mp=>exact ⟨_,.m1 _ _ _,.inr (.inl ⟨rfl,rfl⟩)⟩
  |c x=>
   cases x with
   |Ng=>
    simp only[isNil,au] at h;subst h;cases e with
    |c e => cases e with
     |Ng=>exact ⟨_,.m1 _ _ _,.inr (.inl ⟨rfl,rfl⟩)⟩
   |lit u=>
    cases u <;> simp[isNil] at h
    rename_i p;cases p <;> simp at h
    subst h;rw[e.cj];exact ⟨_,.m0 _ _,.inr (.inl ⟨rfl,rfl⟩)⟩
   |_=>grind [isNil]
  |_=>grind [isNil]
 ·cases d with
  |fn=>
   simp only[isNil,au] at h;subst h;cases e with
   |fn=>exact ⟨_,.f1 _ _ _ _ _ _,.inr (.inr (.inl ⟨rfl,rfl⟩))⟩
  |c x=>
   cases x with
   |fn=>
    simp only[isNil,au] at h;subst h;cases e with
    |c e => cases e with
     |fn=>exact ⟨_,.f1 _ _ _ _ _ _,.inr (.inr (.inl ⟨rfl,rfl⟩))⟩
   |lit u=>
    cases u <;> simp[isNil] at h
    subst h;rw[e.cj];exact ⟨_,.f0 _ _ _,.inr (.inr (.inl ⟨rfl,rfl⟩))⟩
   |_=>grind [isNil]
  |_=>grind [isNil]
theorem vp{k:Nat}{x:Operand}{b:Value}(h:su k x=true)(d:(k=0/\b=.pointer none)∨(k=1/\b=.map none)∨(k=2/\b=.nilFunc)∨(k=3/\b=.slice none 0 0)):x=.const b:=by
 unfold su at h
 grind
theorem Oo(E:dB σ M Fz w env a.tmps){o:Oper}{t u:TypeId}{m:TypeDesc}{x y:Operand}{neg:Bool}{k n:Nat}{d:Bool}{p:aP}{b:Bool}
  (q:o.op=.binOp (if neg then .neq else .eql) t x y u) (r:P.underlying t=some m) (hk:Ac m=some k) (f:wL k neg x y=some (.iZ n d p)) (s:isNil n (p.ev env)=some b) :
  Yields P (execOp a.eval o) σ M Fz w (.c (.lit (.bool (if d then !b else b)))):=by
 unfold wL at f;split at f
 ·rename_i z;simp only[cE,lm.iZ.injEq] at f;obtain ⟨j,g,rfl,rfl,rfl⟩:=f;obtain ⟨h,l,i⟩:=Hd hk (my E g) s;obtain rfl:=vp z i;refine Yields.same (v:=.bool (if neg then !b else b)) ?_ (.c (.lit _));have:=(Ce r l neg x (.const h) w).1;simp only[execOp,q,Sem.run_bind];simp only[Sem.run_bind] at this;have e:a.eval (.const h)=h:=rfl
  simp_all
 ·split at f
  ·rename_i A;simp only[cE,lm.iZ.injEq] at f;obtain ⟨j,g,rfl,rfl,rfl⟩:=f;obtain ⟨h,l,i⟩:=Hd hk (my E g) s;obtain rfl:=vp A i;refine Yields.same (v:=.bool (if neg then !b else b)) ?_ (.c (.lit _));have:=(Ce r l neg y (.const h) w).2;simp only[execOp,q,Sem.run_bind];simp only[Sem.run_bind] at this;have e:a.eval (.const h)=h:=rfl
   simp_all
  simp_all
theorem sy{d:D}{v:Value}{n:Nat}(b:V σ M Fz w d v)(h:Im σ d=some n):∃g cap,v=.slice g n cap:=by
 unfold Im at h;split at h
 ·grind [V.cj]
 ·simp only[au] at h;subst h;cases b with
  |c b => cases b with
   |cJ=>simp_all
 ·split at h
  ·rename_i e;simp only[au] at h;subst h;obtain ⟨j,e⟩:=yBj.1 e;rcases b.ft e with ⟨f,k,_⟩ | ⟨c,o,cap,i,T,_,f,_⟩
   ·simp_all
   simp_all
  simp_all
 simp_all
theorem LD{es:List (List C)}{n:Nat}(h:∀e∈es,e.length=n):∀(i j:Nat) e d,es[i]? = some e->e[j]? = some d->es.flatten[i * n+j]? = some d:=by
 induction es with
 |nil=>simp_all
 |cons b es ih=>
  intro i j e d f g;have k:=h b (by simp);cases i with
  |zero=>grind
  |succ i=>grind
theorem NR{es:List (List C)}{n:Nat}(h:∀e∈es,e.length=n):es.flatten.length=es.length * n:=by
 induction es with
 |nil=>simp
 |cons b es ih=>grind
theorem Wq(R:Rel σ M Fz w){d:D}{v:Value}{aw n:Nat}{cs:List D}(S:V σ M Fz w d v)(h0:aw≠0)(h:WZ σ aw n d=some cs) :
  ∃arr,(Builtin.firstCells aw n v).run P w=.ok arr w/\CN σ M Fz w cs arr/\cs.length=n * aw:=by
 have load:∀(l:Addr)(len cap:Nat)(cs:List D),v=.slice (some l) len cap->cs.length=n * aw ->
   (∀(i:Nat) x,cs[i]? = some x->∃u,w.cell? (l.add i)=some u/\V σ M Fz w x u/\u.oneCell'=true) ->
   ∃arr,(Builtin.firstCells aw n v).run P w=.ok arr w/\CN σ M Fz w cs arr/\cs.length=n * aw:=by
  intro l len cap cs g m r
  let f:Nat->Value:=λj=>(w.cell? (l.add j)).getD undef
  have hf:∀j,j<n * aw->w.cell? (l.add j)=some (f j):=by
   intro j O;obtain ⟨u,Q,_⟩:=r j _ (eS (by omega))
   grind
  have z:=run_loadCells (P:=P) (w:=w) l (n * aw) f hf;refine ⟨_,by rw[g];simp only[Builtin.firstCells];exact z,⟨by simp_all,λi x u Q h2=>?_⟩,m⟩
  grind
 have s:∀(cs:List D),n=0->cs=[]->(∃l len cap,v=.slice l len cap)->∃arr,(Builtin.firstCells aw n v).run P w=.ok arr w/\CN σ M Fz w cs arr/\cs.length=n * aw:=by
  intro cs t A ⟨l,len,cap,g⟩;subst t A;cases l with
  |none=>exact ⟨#[],by rw[g];rfl,⟨rfl,λi x u h=>by simp at h⟩,by simp⟩
  |some l=>simp_all
 unfold WZ at h;split at h
 ·split at h
  ·rename_i t;simp only[au] at h;exact s cs t h.symm ⟨_,_,_,S.cj⟩
  simp_all
 ·rename_i nn k;split at h
  ·rename_i U;simp only[au] at h;subst h;obtain ⟨t,af⟩:=U;have m:∀e∈k.take n,e.length=aw:=λe he=>by grind
   have W:((k.take n).flatten.map D.c).length=n * aw:=by grind [NR,List.length_take]
   have E:=S.qC;generalize g:v=va at E;cases E with
   |cJ sz l cap a0 _ c F G K X=>
    by_cases Y:n=0
    ·simp_all
    ·have hp:0<k.length:=by omega
     have Z:k[0]? = some k[0]:=eS hp;have a1:k[0].length=aw:=by grind
     have L:sz=aw:=by simp_all
     subst L;obtain ⟨blk,o0,rfl,_⟩:=K 0 0 k[0] (k[0][0]'(by omega)) Z (eS _);refine g▸load _ _ _ _ g W (λi x y=>?_);have p:i<n * sz:=by grind
     have ak:i / sz<n:=Nat.div_lt_of_lt_mul (by grind);have an:i % sz<sz:=Nat.mod_lt _ (by omega);have hk:k[i / sz]? = some (k[i / sz]'(by omega)):=eS _;have aa:(k.take n)[i / sz]? = some (k[i / sz]'(by omega)):=by simp_all
     have a2:(k[i / sz]'(by omega)).length=sz:=F _ (bG _);have O:(k[i / sz]'(by omega))[i % sz]? = some ((k[i / sz]'(by omega))[i % sz]'(by omega)):=eS _;have N:=LD m (i / sz) (i % sz) _ _ aa O;rw[show i / sz * sz+i % sz=i from by grind [Nat.div_add_mod]] at N;rw[mE,N] at y;simp only[Option.map_some,au] at y;subst y;obtain ⟨av,a5,Q,h2,h3,h4⟩:=K _ _ _ _ hk O;simp only[au,Addr.mk.injEq,Oa] at Q;obtain ⟨rfl,rfl⟩:=Q;refine ⟨_,?_,.c (X _ _ _ _ hk O),h4⟩
     grind [eW,Nat.div_add_mod]
  simp_all
 ·rename_i b off len k sz;simp only[Option.bind_eq_bind,cM] at h;obtain ⟨row,hr,h⟩:=h;split at h
  ·rename_i U;obtain ⟨rfl,t,a6⟩:=U;simp only[au] at h;subst h;obtain ⟨hb,F⟩:=OJ hr;rcases S.ft hr with ⟨g,e2,_⟩ | ⟨c,o,cap,arr,T,hM,g,hl,ax,hh,G,_⟩
   ·simp_all
   by_cases Y:n=0
   ·simp_all
   ·have ab:o=off:=by
     omega
    subst ab;have a7:n * k<=len * k:=Gv _ t;obtain ⟨q,T',a8,a9,A⟩:=R.row hM hb;refine load _ _ _ _ g (by grind) (λi x y=>?_);have p:i<n * k:=by grind
    rw[yBt p,yBF] at y;have bb:=(gC.1 y).1;have e:q[o+i]? = some (q[o+i]'(by omega)):=sI _
    grind [eW,Go.cell_of_row]
  simp_all
 simp_all
theorem len_ok(E:dB σ M Fz w env a.tmps){o:Oper}{t e:TypeId}{x:Operand}{g:aP}{args:Array Operand}{d:Array TypeId}{n:Nat}(i:o.op=.call { callee:=.builtin .len,args:=args,argTypes:=d })
  (j:d[0]? = some t) (k:args[0]? = some x) (hs:args.size=1) (l:bW x=some g) (m:P.underlying t=some (.slice e)) (h:Im σ (g.ev env)=some n) :
  Yields P (execOp a.eval o) σ M Fz w (.c (.lit (.int .i64 n))):=by
 obtain ⟨p,cap,f⟩:=sy (my E l) h;have b:args=#[x]:=by grind
 subst b;refine Yields.same (v:=.int .i64 n) ?_ (.c (.lit _));simp[execOp,i,resolve,invoke,builtin,Builtin.len_,j,rp m,f,goInt]
theorem Ur{o:Oper}{t e:TypeId}{x:Operand}{args:Array Operand}{d:Array TypeId}{n:Nat}(f:o.op=.call { callee:=.builtin .len,args:=args,argTypes:=d })
  (g:d[0]? = some t) (h:args[0]? = some x) (hs:args.size=1) (i:P.underlying t=some (.array n e)) :
  Yields P (execOp a.eval o) σ M Fz w (.c (.lit (.int .i64 n))):=by
 have b:args=#[x]:=by grind
 subst b;refine Yields.same (v:=.int .i64 n) ?_ (.c (.lit _));simp[execOp,f,resolve,invoke,builtin,Builtin.len_,g,rp i,goInt]
theorem VP(R:Rel σ M Fz w)(E:dB σ M Fz w env a.tmps){o:Oper}{t k e:TypeId}{x:Operand}{q:aP}{args:Array Operand}{m:Array TypeId}{n:Nat}(r:o.op=.call { callee:=.builtin .len,args:=args,argTypes:=m })
  (s:m[0]? = some t) (K:args[0]? = some x) (hs:args.size=1) (L:bW x=some q) (u:P.underlying t=some (.map k e))
  (h:(∃b y d,q.ev env=.mp b/\σ[b]? = some (.map y d)/\n=y.length)∨(q.ev env=.c (.lit (.map none))/\n=0)∨∃z,q.ev env=.c (.Ng z)/\n=z.length) :
  dL P (execOp a.eval o) σ M Fz w σ (.c (.lit (.int .i64 n))):=by
 have g:args=#[x]:=by grind
 subst g;refine dL.same R (v:=.int .i64 n) ?_ (.c (.lit _));have f:=my E L;rcases h with ⟨b,y,d,p,G,rfl⟩ | ⟨p,rfl⟩ | ⟨z,p,rfl⟩
 ·rw[p] at f;generalize i:a.eval x=N at f;cases f with
  |mp c Y j O=>rw[G] at j;simp only[au] at j;subst j;obtain ⟨_,Q,Z,A,S,T⟩:=R.blk b c (O rfl);rw[G] at A;simp only[au] at A;subst A;obtain ⟨F,⟨ck,rfl,_⟩,l,_⟩:=T;simp[execOp,r,resolve,invoke,builtin,Builtin.len_,s,rp u,i,goInt,getObj,Sem.run,S,l]
 ·rw[p] at f;simp[execOp,r,resolve,invoke,builtin,Builtin.len_,s,rp u,f.cj,goInt]
 ·rw[p] at f;generalize i:a.eval x=N at f;cases f with
  |c f => cases f with
   |Ng blk d F hF U l W X=>simp[execOp,r,resolve,invoke,builtin,Builtin.len_,s,rp u,i,goInt,getObj,Sem.run,U,l]
theorem V.CW{d:D}{v:Value}(h:V σ M Fz w d v):V σ M Fz w (CW d) v:=by
 unfold Abs.CW;split
 ·have:=h.cj;subst this;exact .c (.cJ (nn:=false) (es:=[]) 0 none 0 (by simp) (by simp) (λ_ _=>default) (by simp) (by simp) (by simp) (by simp))
 ·exact h
theorem CN.CW {cs:List D} {arr:Array Value} (h:CN σ M Fz w cs arr):CN σ M Fz w (cs.map CW) arr:=
 ⟨by simpa using h.1,fun i x u j o=>by
  rw [mE,cE] at j
  obtain ⟨y,s,rfl⟩:=j
  exact ⟨(h.2 i y u s o).1.CW,(h.2 i y u s o).2⟩⟩
theorem Sk(A:∀c,Fz c->c<w.heap.size)(E:dB σ M Fz w env a.tmps){o:Oper}{t e:TypeId}{x y:Operand}{T U:aP}{n:Nat}{i:TypeInfo}{z:List D}{l c:Int}(X:o.op=.makeSlice t x y)
  (Y:P.underlying t=some (.slice e)) (Z:bE P e=some n) (hz:Ry P e=some z) (F:P.info? e=some i) (k:¬(n=0∨z.length≠n)) (hx:bW x=some T) (hy:bW y=some U)
  (hl:ui (T.ev env)=some l) (hc:ui (U.ev env)=some c) (p:0<=l/\l<=c/\FT c.toNat i.bytes=true) :
  ai P (execOp a.eval o) σ M Fz w (.cells (uf l.toNat (z.map CW))) (.sl σ.length 0 l.toNat n (l.toNat * n)):=by
 obtain ⟨i',v,g,hv,G⟩:=zc9 hz;rw[F] at g;simp only[au] at g;subst g;have d:=(CN.r_ (V.dH (σ:=σ) (M:=M) (Fz:=Fz) (w:=w) v) G).CW;simp only[not_or,UA] at k;obtain ⟨aa,j⟩:=k;have q:z.map CW≠[]:=λh=>by simp_all
 rw[<-wj (f:=CW)] at j;generalize z.map CW=z at *;have ab:v.cells.size=n:=by rw[d.1,j]
 obtain ⟨h0,ad,b⟩:=p;simp only[FT,bN,bA] at b;obtain ⟨⟨af,ak⟩,_⟩:=b;obtain ⟨k1,K⟩:=ju (my E hx) hl;obtain ⟨k2,L⟩:=ju (my E hy) hc;obtain ⟨an,N⟩:=BN d q l.toNat c.toNat (by omega);have O:(uf l.toNat z).length=l.toNat * n:=by rw[lu,j]
 have W:c<=1099511627776:=by omega
 have Q:i64.wrap l=l:=IntWalk.i64_in _ (by omega);have R:i64.wrap c=c:=IntWalk.i64_in _ (by omega)
 let arr:Array Value:=(Array.range (c.toNat * n)).map (λ(x:Nat)=>v.cells[x % v.cells.size]!)
 have r:arr=(Array.range (c.toNat * v.cells.size)).map (v.cells[· % v.cells.size]!):=by grind
 obtain ⟨r1,r2⟩:=qA (P:=P) A (arr:=arr) (cs:=uf l.toNat z) e (by simp_all) (by rw[r];exact N);refine ⟨_,.slice (some ⟨w.heap.size,0,none⟩) l.toNat c.toNat,?_,r2,?_⟩
 ·have s:∀m:Int,0<=m->m<=c->(m<0 || (i.bytes:Int) * m > 2 ^ 48)=false:=by
   intro m av S;have h1:(i.bytes:Int) * m<=i.bytes * c:=Int.mul_le_mul_of_nonneg_left S (by omega)
   grind
  simp only[execOp,X,Instr.makeSlice,Sem.run_bind,rp Y,Result.andThen_ok,K,L,asInt,asIntOf,Sem.run_pure,zdn F,Q,R];rw[s c (by omega) (Jz _)];rw[if_neg (by simp_all)];simp only[Sem.run_bind,Sem.run_pure,Result.andThen_ok,run_askRoom,OY Z];by_cases u:c.toNat * n=0
  ·have ax:c.toNat=0:=by
    grind [Nat.mul_eq_zero]
   have a0:l.toNat=0:=by omega
   rw[if_pos u];simp only[Sem.run_bind,Sem.run_pure,Result.andThen_ok];have:(Array.range (c.toNat * n)).map (λ(x:Nat)=>(#[]:Array Value)[x % (#[]:Array Value).size]!)=arr:=by grind
   simp_all
  ·rw[if_neg u];simp only[Sem.run_bind,gQ F hv,Result.andThen_ok,Sem.run_pure]
   simp_all
 ·rw[<-O];refine V.WB (cap:=c.toNat) (by omega) ?_ (by omega) (by simp_all)
  grind
end
end Go.Abs
end
section
namespace Go.Abs
variable[Gl]
section
variable{P:Program}{σ σ':ar}{M M':Nat->Option Nat}{Fz:Nat->Prop}{w w':World}{env:List D}{a:Act}
theorem WP{o:Oper}{t:TypeId}(b:o.op=.makeMap t none):ai P (execOp a.eval o) σ M Fz w (.map [] 0) (.mp σ.length):=by
 refine ⟨.map #[] 0,.map (some w.heap.size),?_,?_,?_⟩
 ·simp only[execOp,b,Instr.makeMap,Option.map_none,Sem.run_bind,Sem.run_pure,Result.andThen_ok,run_newObj];rfl
 ·exact ⟨#[],⟨0,rfl,.nil 0⟩,rfl,λi k d n e h=>by simp at h⟩
 ·exact .mp _ (.map [] 0) (by simp) (λ_=>by simp[xD])
theorem Rel.Oi(R:Rel σ M Fz w){b c:Nat}{es:List (Value×D×Nat)}{j:Nat}(u:σ[b]? = some (.map es j))(x:M b=some c) :
  ∃arr o,w.heap[c]? = some (.map arr o)/\(arr.size=es.length/\jx arr o)/\∀(i:Nat) k d n e,es[i]? = some (k,d,n)->arr[i]? = some e->e.key=k/\True/\V σ M Fz w d e.val:=by
 obtain ⟨_,z,F,s,G,A⟩:=R.blk b c x;rw[u] at s;simp only[au] at s;subst s;obtain ⟨arr,⟨o,rfl,K⟩,E,O⟩:=A
 grind
theorem V.DM{b:Nat}{v:Value}{es:List (Value×D×Nat)}{i:Nat}(h:V σ M Fz w (.mp b) v)(o:σ[b]? = some (.map es i)):∃c,v=.map (some c)/\M b=some c:=by
 cases h with
 |mp c u j s=>rw[o] at j;simp only[au] at j;subst j;exact ⟨c,rfl,s rfl⟩
theorem zcs{d:TypeId}{e:TypeDesc}(f:P.underlying d=some e)(hs:zeJ e=true)(b:Bool)(v:Value)(w:World):(Instr.checkKey b 10000 d v).run P w=.ok () w:=by show (Instr.checkKey b (9999+1) d v).run P w=_;generalize 9999=n;unfold Instr.checkKey;cases e <;> simp[zeJ] at hs <;> simp[rp f]
theorem DQ{kind:TypeDesc}{k:Value}:∀(es:List (Value×D×Nat))(l:List MapEntry)(i:Nat)(r:Option (Nat×D)),l.length=es.length ->
  (∀(j:Nat) k d n e,es[j]? = some (k,d,n)->l[j]? = some e->e.key=k/\V σ M Fz w d e.val)->sM kind k es i=some r ->
  ∃ b, Instr.findNow kind k l i = some b /\ (match r, b with
   |none,none=>True
   |some (j,d),some (m,v)=>j=m/\i<=j/\j<i+es.length/\V σ M Fz w d v/\∃e,l[j-i]? = some e/\Instr.sameNow kind k e.key=some true
   |_,_=>False):=by
 intro es;induction es with
 |nil=>
  intro l i r o _ h;simp only[sM,au] at h;subst h;have:l=[]:=by simp_all
  subst this;exact ⟨none,rfl,trivial⟩
 |cons x es ih=>
  intro l i r o f h;obtain ⟨g,d,n⟩:=x;cases l with
  |nil=>grind
  |cons e l=>
   obtain ⟨hk,s⟩:=f 0 g d n e (by simp) (by simp);simp only[sM] at h;simp only[Instr.findNow,hk];cases hs:Instr.sameNow kind k g with
   |none=>simp_all
   |some t=>
    cases t with
    |true=>grind
    |false=>
     simp only[hs] at h;obtain ⟨b,p,q⟩:=ih l (i+1) r (by simp_all) (λj k d n e p q=>f (j+1) k d n e (by simp_all) (by simp_all)) h
     grind
theorem BT{d:D}{v b:Value}(h:V σ M Fz w d b)(e:gN d=some v):b=v:=by
 cases d with
 |c x=>cases x <;> simp[gN] at e;grind [V.cj]
 |_=>grind [gN]
theorem Uh(R:Rel σ M Fz w)(E:dB σ M Fz w env a.tmps){o:Oper}{t kt e:TypeId}{X:TypeDesc}{m k:Operand}{Y ok:aP}{f:Bool}{zero d:D}{s:Bool}{Z:Value}{es:List (Value×D×Nat)}{r:Option (Nat×D)}
  (ho:o.op=.lookup t m k f) (hu:P.underlying t=some (.map kt e)) (hk:P.underlying kt=some X) (hs:zeJ X=true) (hz:zeroOf P e=some zero) (hm:bW m=some Y) (aa:bW k=some ok)
  (ab:gN (ok.ev env)=some Z) (ad:(Y.ev env=.c (.lit (.map none))/\es=[])∨(∃b g,Y.ev env=.mp b/\σ[b]? = some (.map es g))∨∃fs,Y.ev env=.c (.Ng fs)/\es=fs.map λp=>(p.1,.c p.2,0))
  (hf:sM X Z es 0=some r) (hr:(d,s)=OM zero r) :
  dL P (execOp a.eval o) σ M Fz w σ (if f then .aS [d,.c (.lit (.bool s))] else d):=by
 have F:=BT (my E aa) ab;obtain ⟨i,K,hi,N,af⟩:∃i K,P.info? e=some i/\i.zero=some K/\zero=dH K:=by
  unfold zeroOf at hz
  grind [Option.map_eq_some_iff]
 have G:=my E hm;obtain ⟨l,O,ak,Q⟩:∃l:Array MapEntry,((a.eval m=.map none/\l=#[])∨∃c,a.eval m=.map (some c)/\∃g,(getObj c).run P w=.ok (.map l g) w)/\l.size=es.length /\
   ∀(i:Nat) k d n e,es[i]? = some (k,d,n)->l[i]? = some e->e.key=k/\V σ M Fz w d e.val:=by
  rcases ad with ⟨S,rfl⟩ | ⟨b,g,S,hb⟩ | ⟨fs,S,rfl⟩
  ·rw[S] at G;exact ⟨#[],.inl ⟨G.cj,rfl⟩,rfl,λi k d n e h=>by simp at h⟩
  ·rw[S] at G;obtain ⟨c,A,hM⟩:=G.DM hb;obtain ⟨l,ck,T,⟨h2,_⟩,h3⟩:=R.Oi hb hM
   grind [Go.getObj,Go.Sem.run]
  ·rw[S] at G;generalize A:a.eval m=va at G;cases G with
   |c G => cases G with
    |Ng blk g l hF hh ak an av=>refine ⟨l,.inr ⟨blk,rfl,g,by simp[getObj,Sem.run,hh]⟩,by simp_all,λi k d n e x y=>?_⟩;simp only[mE,cE,aX] at x;obtain ⟨p,hp,rfl,rfl,_⟩:=x;exact ⟨an i p e hp y,.c (av i p e hp y)⟩
 obtain ⟨U,ax,a0⟩:=DQ (kind:=X) (k:=Z) es l.toList 0 r (by omega)
  (λj k d n e T h2=>Q j k d n e T (by simp_all)) hf
 have L:(Instr.findKey kt Z l.toList).run P w=.ok U w:=by simp only[Instr.findKey,Sem.run_bind,rp hk,Result.andThen_ok,ax,Sem.run_pure]
 have W:∀v z,(U=none/\v=K/\z=false∨∃j,U=some (j,v)/\z=true) ->
   (execOp a.eval o).run P w=.ok (.value (if f then .tuple #[v,.bool z] else v)) w:=by
  intro v z h;rcases h with ⟨rfl,rfl,rfl⟩ | ⟨j,rfl,rfl⟩ <;> rcases O with ⟨A,rfl⟩ | ⟨c,A,g,hg⟩
  ·simp only[execOp,ho,Instr.lookup,Sem.run_bind,rp hu,Result.andThen_ok,A,Sem.run_pure,F,zcs hk hs,L,gQ hi N]
  ·simp only[execOp,ho,Instr.lookup,Sem.run_bind,rp hu,Result.andThen_ok,A,hg,Sem.run_pure,F,zcs hk hs,L,gQ hi N]
  ·grind
  ·simp only[execOp,ho,Instr.lookup,Sem.run_bind,rp hu,Result.andThen_ok,A,hg,Sem.run_pure,F,zcs hk hs,L]
 have fin:∀v z,V σ M Fz w d v->s=z->V σ M Fz w (if f then .aS [d,.c (.lit (.bool s))] else d) (if f then .tuple #[v,.bool z] else v):=by
  intro v z hV ht;subst ht;cases f
  ·exact hV
  ·refine .aS _ rfl (λi x u T h2=>?_)
   match i with
   |0=>simp_all
   |1=>simp at T h2;subst T h2;exact .c (.lit _)
   |i+2=>grind
 cases r with
 |none=>
  cases U with
  |some _=>simp_all
  |none=>simp only[OM,aX] at hr;obtain ⟨rfl,rfl⟩:=hr;exact dL.same R (W K false (.inl ⟨rfl,rfl,rfl⟩)) (fin K false (af▸V.dH K) rfl)
 |some p=>
  obtain ⟨j,d'⟩:=p;cases U with
  |none=>simp_all
  |some q=>
   obtain ⟨j',v⟩:=q;obtain ⟨rfl,_,_,hV,_⟩:=a0;simp only[OM,aX] at hr
   grind [dL.same]
theorem Pn{b:TypeDesc}{x y:Value}(hs:zeJ b=true)(h:Instr.sameNow b x y=some true):x=y/\∀n,Instr.sameBits n x y=true:=by
 cases b <;> simp[zeJ] at hs
 cases x <;> cases y <;> simp[Instr.sameNow] at h
 obtain ⟨rfl,rfl⟩:=h;exact ⟨rfl,λn=>by grind [Go.Instr.sameBits]⟩
theorem upd_ok(R:Rel σ M Fz w)(E:dB σ M Fz w env a.tmps){o:Oper}{t kt e:TypeId}{kd:TypeDesc}{m k x:Operand}{om ok W:aP}{K:Value}{b f:Nat}{es:List (Value×D×Nat)}{r:Option (Nat×D)}
  (ho:o.op=.mapUpdate t m k x∨o.op=.insert t m k x) (hu:P.underlying t=some (.map kt e)) (hk:P.underlying kt=some kd) (hs:zeJ kd=true) (hm:bW m=some om) (ax:bW k=some ok) (hx:bW x=some W)
  (a0:gN (ok.ev env)=some K) (he:om.ev env=.mp b) (Y:σ[b]? = some (.map es f)) (hf:sM kd K es 0=some r) :
  dL P (execOp a.eval o) σ M Fz w (σ.set b (match r with
   |some (i,_)=>.map (es.modify i λ(k,_,n)=>(k,W.ev env,n)) f
   |none=>.map (es++[(K,W.ev env,f)]) (f+1))) (.aS []):=by
 have Z:execOp a.eval o=execOp a.eval { o with op:=.mapUpdate t m k x }:=by rcases ho with ho | ho <;> simp only[execOp,ho]
 have N:=BT (my E ax) a0;have hv:=my E hm;rw[he] at hv;have aa:=my E hx;obtain ⟨c,ab,hM⟩:=hv.DM Y;obtain ⟨g,O,Q,⟨a1,hB⟩,s⟩:=R.Oi Y hM;obtain ⟨r',a2,a5⟩:=DQ (kind:=kd) (k:=K) es g.toList 0 r (by omega)
  (λj k d n e Q F=>let ⟨x,_,y⟩:=s j k d n e Q (by simp_all);⟨x,y⟩) hf
 have ad:(Instr.findKey kt K g.toList).run P w=.ok r' w:=by simp only[Instr.findKey,Sem.run_bind,rp hk,Result.andThen_ok,a2,Sem.run_pure]
 have af:(getObj c).run P w=.ok (.map g O) w:=by simp[getObj,Sem.run,Q]
 have ak:∀G,(setObj c G).run P w=.ok () (cI w c G):=by intro G;simp only[setObj,Sem.run,Q];rfl
 have u:∀G:Obj,∀S T fr,Obj.map g O=.cells S T fr->∃U,G=.cells U T fr/\U.size=S.size:=by simp_all
 have fin:∀z G,z.sz=0->(execOp a.eval o).run P w=.ok .skip (cI w c G)->bY (σ.set b z) M Fz (cI w c G) z G->dL P (execOp a.eval o) σ M Fz w (σ.set b z) (.aS []):=by
  intro z G hz an a6;have A:(Ob.map es f).sz<=z.sz:=by simp[Ob.sz]
  exact ⟨.skip,undef,_,M,an,.inr ⟨rfl,rfl⟩,R.tH hM Y Q A (u G) a6,.aS #[] rfl (λi d v h=>by simp at h),bH.tH R hM Y Q A (u G),by simp⟩
 cases r with
 |none=>
  cases r' with
  |some _=>simp_all
  |none=>
   refine fin (.map (es++[(K,W.ev env,f)]) (f+1)) (.map (g.push { key:=K,val:=a.eval x,born:=O }) (O+1)) rfl ?_ ?_
   ·rw[Z];simp only[execOp,Instr.mapUpdate,Sem.run_bind,rp hu,Result.andThen_ok,ab,af,N,zcs hk hs,ad,ak,Sem.run_pure]
   ·have A:(Ob.map es f).sz<=(Ob.map (es++[(K,W.ev env,f)]) (f+1)).sz:=by simp[Ob.sz]
    have EV:=bH.tH R hM Y Q A (u (.map (g.push { key:=K,val:=a.eval x,born:=O }) (O+1)));refine ⟨_,⟨_,rfl,hB.push _ _⟩,by grind,λi k' d n en F L=>?_⟩;by_cases hi:i<es.length
    ·rw[HA hi] at F;rw[Array.getElem?_push_lt (by omega)] at L;obtain ⟨x1,x2,x3⟩:=s i k' d n en F (by simp_all);exact ⟨x1,x2,x3.mono EV⟩
    ·have a7:=(gC.1 F).1;simp at a7;have:i=es.length:=by omega
     subst this;rw[OG (cX _)] at F;simp at F;obtain ⟨rfl,rfl,rfl⟩:=F;rw[<-a1] at L;simp at L;subst L;exact ⟨rfl,trivial,aa.mono EV⟩
 |some p=>
  obtain ⟨j,d'⟩:=p;cases r' with
  |none=>simp_all
  |some q=>
   obtain ⟨j',v⟩:=q;obtain ⟨rfl,_,hj,_,a8,l,a9⟩:=a5;simp only[Nat.sub_zero,OD] at l;obtain ⟨av,X⟩:=Pn hs a9;have bc:j<g.size:=(Cy.1 l).1;have bb:∀RI new,Instr.sameBits 10000 RI new=true->(Instr.keyThatStays RI new).run P w=.ok new w:=by intro RI new h;simp only[Instr.keyThatStays,h,if_true,Sem.run_pure]
   refine fin (.map (es.modify j λ(k,_,n)=>(k,W.ev env,n)) f) (.map (g.modify j λe=>{ e with key:=K,val:=a.eval x }) O) rfl ?_ ?_
   ·rw[Z];simp only[execOp,Instr.mapUpdate,Sem.run_bind,rp hu,Result.andThen_ok,ab,af,N,zcs hk hs,ad];rw[l];simp only[Option.map_some,Option.getD_some];rw[bb _ _ (by have:=X 10000;rw[av] at this ⊢;exact this)];simp only[Result.andThen_ok,ak,Sem.run_pure]
   ·have A:(Ob.map es f).sz<=(Ob.map (es.modify j λ(k,_,n)=>(k,W.ev env,n)) f).sz:=by simp[Ob.sz]
    have EV:=bH.tH R hM Y Q A (u (.map (g.modify j λe=>{ e with key:=K,val:=a.eval x }) O));refine ⟨_,⟨_,rfl,hB.same (by
     apply T_
     grind)⟩,by grind,λi k' d n en F L=>?_⟩
    rw[List.getElem?_modify] at F;rw[Array.getElem?_modify] at L;by_cases hi:j=i
    ·subst hi;rw[l] at L;simp only[if_true,Option.map_some,au] at L;subst L;cases h4:es[j]? with
     |none=>simp_all
     |some p=>obtain ⟨k0,d0,n0⟩:=p;simp[h4] at F;obtain ⟨rfl,rfl,rfl⟩:=F;obtain ⟨x1,x2,_⟩:=s j k0 d0 n0 a8 h4 l;exact ⟨by simp_all,x2,aa.mono EV⟩
    ·simp only[hi,cw] at F L;obtain ⟨x1,x2,x3⟩:=s i k' d n en (by simp_all) (by omega);exact ⟨x1,x2,x3.mono EV⟩
theorem HV:∀(l:List (Value×D×Nat))(i:Nat),(ol i l).length=l.length
 |[],_=>rfl
 |(_,_,_)::l,i=>by simp[ol,HV l]
theorem Hm:∀(l:List (Value×D×Nat))(i j:Nat)(k:Value)(d:D)(n:Nat),(ol i l)[j]? = some (k,d,n)->∃m,l[j]? = some (k,d,m)
 |[],_,_,_,_,_,h=>by grind [ol]
 |(b, d0, e) :: l, i, 0, k, d, n, h => by grind [ol]
 |(b, d0, e) :: l, i, j + 1, k, d, n, h => by simp only[ol,List.getElem?_cons_succ] at h ⊢;exact Hm l (i+1) j k d n h
theorem del_ok(R:Rel σ M Fz w)(E:dB σ M Fz w env a.tmps){o:Oper}{t kt e:TypeId}{kd:TypeDesc}{m k:Operand}{om ok:aP}{Q:Value}{b f:Nat}{es:List (Value×D×Nat)}{r:Option (Nat×D)}{args:Array Operand}{S:Array TypeId}
  (ho:o.op=.call { callee:=.builtin .delete,args:=args,argTypes:=S }) (ht:S[0]? = some t) (a5:args[0]? = some m) (a6:args[1]? = some k) (hu:P.underlying t=some (.map kt e)) (hk:P.underlying kt=some kd) (hs:zeJ kd=true) (hm:bW m=some om) (af:bW k=some ok)
  (ak:gN (ok.ev env)=some Q) (he:om.ev env=.mp b) (O:σ[b]? = some (.map es f)) (hf:sM kd Q es 0=some r) :
  dL P (execOp a.eval o) σ M Fz w (σ.set b (match r with
   |some (i,_)=>.map (ol 0 (es.eraseIdx i)) (f-1)
   |none=>.map es f)) (.aS []):=by
 have a2:=BT (my E af) ak;have hv:=my E hm;rw[he] at hv;obtain ⟨c,a7,U⟩:=hv.DM O;obtain ⟨g,A,F,⟨an,hB⟩,l⟩:=R.Oi O U;obtain ⟨r',av,ax⟩:=DQ (kind:=kd) (k:=Q) es g.toList 0 r (by omega)
  (λj k d n e F z=>let ⟨x,_,y⟩:=l j k d n e F (by simp_all);⟨x,y⟩) hf
 have W:(Instr.findKey kt Q g.toList).run P w=.ok r' w:=by simp only[Instr.findKey,Sem.run_bind,rp hk,Result.andThen_ok,av,Sem.run_pure]
 have X:(getObj c).run P w=.ok (.map g A) w:=by simp[getObj,Sem.run,F]
 have Y:∀u,(setObj c u).run P w=.ok () (cI w c u):=by intro u;simp only[setObj,Sem.run,F];rfl
 have s:∀u:Obj,∀G T fr,Obj.map g A=.cells G T fr->∃K,u=.cells K T fr/\K.size=G.size:=by simp_all
 have Z:(args.map a.eval)[0]? = some (.map (some c)):=by simp_all
 have aa:(args.map a.eval)[1]? = some Q:=by simp_all
 have fin:∀ob' u,ob'.sz=0->(execOp a.eval o).run P w=.ok (.value (.tuple #[])) (cI w c u)->bY (σ.set b ob') M Fz (cI w c u) ob' u->dL P (execOp a.eval o) σ M Fz w (σ.set b ob') (.aS []):=by
  intro ob' u hz ab a0;have ad:(Ob.map es f).sz<=ob'.sz:=by simp[Ob.sz]
  exact ⟨.value (.tuple #[]),.tuple #[],_,M,ab,.inl rfl,R.tH U O F ad (s u) a0,.aS #[] rfl (λi d v h=>by simp at h),bH.tH R U O F ad (s u),by simp⟩
 cases r with
 |none=>
  cases r' with
  |some _=>simp_all
  |none=>
   refine fin (.map es f) (.map g A) rfl ?_ ?_
   ·simp only[execOp,ho,resolve,invoke,builtin,Builtin.delete_,ht,Z,aa,Sem.run_bind,Sem.run_pure,rp hu,Result.andThen_ok,X,zcs hk hs,W,Y]
   ·have EV:=bH.tH R U O F (ob':=.map es f) (cX _) (s (.map g A));exact ⟨g,⟨A,rfl,hB⟩,an,λi k' d n en z N=>by obtain ⟨x1,x2,x3⟩:=l i k' d n en z N;exact ⟨x1,x2,x3.mono EV⟩⟩
 |some p=>
  obtain ⟨j,d'⟩:=p;cases r' with
  |none=>simp_all
  |some q=>
   obtain ⟨j',v⟩:=q;obtain ⟨rfl,_,hj,_,a8,L,a9⟩:=ax;simp only[Nat.sub_zero,OD] at L;have bb:j<g.size:=(Cy.1 L).1;have a1:(g.eraseIdxIfInBounds j).toList=g.toList.eraseIdx j:=by simp_all
   refine fin (.map (ol 0 (es.eraseIdx j)) (f-1)) (.map (g.eraseIdxIfInBounds j) A) rfl ?_ ?_
   ·simp only[execOp,ho,resolve,invoke,builtin,Builtin.delete_,ht,Z,aa,Sem.run_bind,Sem.run_pure,rp hu,Result.andThen_ok,X,zcs hk hs,W,Y]
   ·have EV:=bH.tH R U O F (ob':=.map (ol 0 (es.eraseIdx j)) (f-1)) (by simp[Ob.sz]) (s (.map (g.eraseIdxIfInBounds j) A));refine ⟨_,⟨A,rfl,hB.sub (by grind)⟩,?_,λi k' d n en z N=>?_⟩
    ·grind [HV]
    ·obtain ⟨m',z⟩:=Hm _ _ _ _ _ _ z;rw[<-OD,a1,List.getElem?_eraseIdx] at N;rw[List.getElem?_eraseIdx] at z;split at z
     ·rename_i hi;rw[if_pos hi,OD] at N;obtain ⟨x1,_,x3⟩:=l i k' d m' en z N;exact ⟨x1,trivial,x3.mono EV⟩
     ·rename_i hi;rw[if_neg hi,OD] at N;obtain ⟨x1,_,x3⟩:=l (i+1) k' d m' en z N;exact ⟨x1,trivial,x3.mono EV⟩
end
end Go.Abs
end
section
namespace Go.Abs
variable[Gl]
section
variable{P:Program}{σ σ':ar}{M M':Nat->Option Nat}{Fz:Nat->Prop}{w w':World}{env:List D}{a:Act}
theorem Vs(n:Nat):∀(r c:Nat),c<=n+(n+768) / 4->Builtin.growBy n r c<=n+(n+768) / 4:=by
 intro r;induction r with
 |zero=>intro c h;exact h
 |succ r ih=>grind [Go.Builtin.growBy]
theorem QQ(n c:Nat)(h:c<n):Builtin.nextslicecap n c<=2 * n+1000:=by grind [Go.Builtin.nextslicecap,Vs]
theorem Tt{c:Nat}{o:Obj}(h:w.heap[c]? = some o):cI w c o=w:=by
 unfold cI;have:w.heap.setIfInBounds c o=w.heap:=by grind
 rw[this]
theorem zd3(P:Program)(T:TypeId)(c:Nat)(xs:List Value)(off:Nat)(w:World)(arr:Array Value)
  (h:w.heap[c]? = some (.cells arr T (0,0))) (b:∀x∈xs,x.oneCell'=true) (e:off+xs.length<=arr.size) :
  (storeCells ⟨c,off,none⟩ xs).run P w=.ok () (cI w c (.cells (cQ arr off xs) T (0,0))):=by
 rw[um P T c xs 0 off w arr h b (by omega)];congr 1;split
 ·rename_i d;subst d;have:cQ arr off []=arr:=by grind [cQ]
  grind [Tt]
 ·rfl
theorem CN.ones{cs:List D}{arr:Array Value}(h:CN σ M Fz w cs arr):∀u∈arr.toList,u.oneCell'=true:=by intro u o;obtain ⟨i,j,rfl⟩:=KX.1 o;simp only[Array.length_toList] at j;exact (h.2 i _ _ (eS (by rw[<-h.1];exact j)) (sI (by omega))).2
theorem rX {t x e:TypeId} {z:TypeId} {k:Array TypeId} {ty:TypeId} {args:Array Value} {g:Option Addr} {d f n h:Nat} {m:Option Addr} {aw:Nat} {i:TypeInfo} {y:Value}
    (A:k[0]? = some t) (p:k[1]? = some x) (E:P.underlying t=some (.slice e)) (q:P.underlying x=some (.slice z)) (s:bE P e=some aw) (o:P.info? e=some i) (F:i.zero=some y)
    (G:args[0]? = some (.slice g d f)) (K:args[1]? = some (.slice m n h)) (j:FT (d+n) i.bytes=true) (w:World) :
    (Builtin.append_ k ty args).run P w =
      if d+n≤f then
        ((Builtin.firstCells aw n (.slice m n h)).run P w).andThen fun new w1=>
          match (generalizing:=false) g with
          | some b=>((storeCells (b.add (d * aw)) new.toList).run P w1).andThen fun _ w2=>.ok (.slice g (d+n) f) w2
          | none=>.ok (.slice g (d+n) f) w1
      else
        ((Builtin.firstCells aw d (.slice g d f)).run P w.drew).andThen fun L w1=>
          ((Builtin.firstCells aw n (.slice m n h)).run P w1).andThen fun new w2=>
            ((newRow e (L++new++Builtin.zeroCells y.cells ((Question.appendCap (d+n) f e).cut (w.tape w.drawn (.appendCap (d+n) f e))-(d+n)))).run P w2).andThen fun r w3=>
              .ok (.slice (some r) (d+n) ((Question.appendCap (d+n) f e).cut (w.tape w.drawn (.appendCap (d+n) f e)))) w3:=by
  simp only [FT,bN,bA] at j
  obtain ⟨⟨N,O⟩,Q⟩:=j
  have l:∀w,(Builtin.lenOf (.slice m n h)).run P w=.ok n w:=fun w=>rfl
  simp only [Builtin.append_,A,p,G,K,Sem.run_bind,rp E,rp q,OY s,Result.andThen_ok,Sem.run_pure,b_,cw,Bool.not_false,if_true,l]
  split
  · grind [Go.Sem.run_bind,Go.Sem.run_pure]
  · rename_i R
    have u:¬(((d+n:Nat):Int) > IntKind.i64.max∧(False∨i.bytes=0)):=by
      have:IntKind.i64.max=9223372036854775807:=by decide
      omega
    have v:¬(Builtin.nextslicecap (d+n) f * i.bytes > 2 ^ 48):=by
      have S:=QQ (d+n) f (by omega)
      have T:Builtin.nextslicecap (d+n) f * i.bytes≤(2 * (d+n)+1000) * i.bytes:=Gv _ S
      grind
    simp only [Sem.run_bind,zdn o,Result.andThen_ok,b_]
    rw [if_neg u]
    simp only [Sem.run_bind,Sem.run_pure,zdn o,Result.andThen_ok]
    rw [if_neg v]
    simp only [Sem.run_bind,Sem.run_pure,zdn o,Result.andThen_ok,run_choose,Question.forced,b_,cw,run_askRoom,gQ o F,World.drew_eq]
theorem Pt(n c:Nat)(e:TypeId)(t:Nat):n<=(Question.appendCap n c e).cut t:=by grind [Go.Question.cut]
theorem ic(z:Array Value)(n:Nat):(Builtin.zeroCells z n).size=n * z.size:=by simp[Builtin.zeroCells]
theorem bH.ph(R:Rel σ M Fz w):bH σ M Fz w (σ++[.cells []]) M Fz w:={
 size:=cX _
 frame:=λ_ _ _=>rfl
 ld:=λb c h=>.inl ⟨b,h⟩
 fz:=λc h=>⟨h,rfl⟩
 ow:=λc h=>.inl h
 qo:=λc i T o h=>⟨i,h,rfl⟩
 keep:=λb j h=>⟨j,by grind,cX _,λ_=>rfl⟩
 out:=⟨rfl,rfl,rfl⟩ }
theorem Rel.ph(R:Rel σ M Fz w):Rel (σ++[.cells []]) M Fz w:=⟨λb c h=>by obtain ⟨i,j,o,x,s,u⟩:=R.blk b c h;exact ⟨i,j,o,by grind,s,u.mono (bH.ph R)⟩,R.inj,R.fz,R.gl⟩
theorem UD(R:Rel σ M Fz w)(E:dB σ M Fz w env a.tmps){o:Oper}{t t1 e et:TypeId}{args:Array Operand}{a2:Array TypeId}{s x:Operand}{os ox:aP}{aw:Nat}{i:TypeInfo}{z:List D}{d:D}{wr:List Nat}
  (ho:o.op=.call { callee:=.builtin .append,args:=args,argTypes:=a2 }) (ht:a2[0]? = some t) (a5:a2[1]? = some t1) (cp:args[0]? = some s) (cv:args[1]? = some x)
  (hu:P.underlying t=some (.slice e)) (a6:P.underlying t1=some (.slice et)) (a7:bE P e=some aw) (hi:P.info? e=some i) (hz:Ry P e=some z) (q:¬(aw=0∨z.length≠aw))
  (hs:bW s=some os) (hx:bW x=some ox)
  (h:(do
  let xd:=ox.ev env
  let n <-Im σ xd
  let new <-WZ σ aw n xd
  match os.ev env with
  |.c (.lit (.slice none 0 0))=>if FT n i.bytes then some (.sl σ.length 0 n aw (n * aw),σ++[.cells new],[]) else none
  |.sl b off len m sz => do
   let cs <-od σ b sz
   if m=aw/\off=0/\len * aw=sz/\FT (len+n) i.bytes then
    if n=0 then some (.sl b 0 len aw sz,σ,[b])
    else some (.sl b 0 (len+n) aw (sz+n * aw),σ.set b (.cells (cs++new)),[b])
   else if m=aw/\off=0/\(len+n) * aw<=sz/\FT (len+n) i.bytes then
    if n=0 then some (.sl b 0 len aw sz,σ,[b])
    else some (.sl b 0 (len+n) aw sz,σ.set b (.cells (put cs (len * aw) new)),[b])
   else none
  |_=>none)=some (d,σ',wr)):dL P (execOp a.eval o) σ M Fz w σ' d:=by
 obtain ⟨i',zv,bd,a8,b7⟩:=zc9 hz;rw[hi] at bd;simp only[au] at bd;subst bd;simp only[not_or,UA] at q;obtain ⟨p,c0⟩:=q;have be:zv.cells.size=aw:=by have:=(CN.r_ (V.dH (σ:=σ) (M:=M) (Fz:=Fz) (w:=w) zv) b7).1;omega
 simp only[Option.bind_eq_bind,cM] at h;obtain ⟨n,hn,new,A,h⟩:=h;have S:=my E hx;have aa:=my E hs;obtain ⟨b8,bv,U⟩:=sy S hn;have an:∀r,(Builtin.append_ a2 o.type (args.map a.eval)).run P w=r->(execOp a.eval o).run P w=r.andThen λv w'=>.ok (.value v) w':=by intro r hr;simp only[execOp,ho,resolve,invoke,builtin,Sem.run_bind,Sem.run_pure,Result.andThen_ok,hr]
 have a9:(args.map a.eval)[1]? = some (.slice b8 n bv):=by simp_all
 split at h
 ·rename_i bh;rw[bh] at aa;have c2:=aa.cj;have ab:(args.map a.eval)[0]? = some (.slice none 0 0):=by simp_all
  split at h
  ·rename_i F;have f:=rX (ty:=o.type) ht a5 hu a6 a7 hi a8 ab a9 (by simp_all) w;simp only[au,aX] at h;obtain ⟨rfl,rfl,_⟩:=h;by_cases q:n=0
   ·subst q;obtain ⟨arr,l,g,k⟩:=Wq (P:=P) R S p A;rw[U] at l;rw[if_pos (by omega),l] at f;have he:new=[]:=Yy (by omega);subst he;refine ⟨.value (.slice none 0 0),.slice none 0 0,w,M,by simp_all,.inl rfl,R.ph,?_,bH.ph R,by simp⟩;exact .sl none 0 0 (by simp) (.cells []) (by simp) (by omega) (λ_=>.inl ⟨rfl,rfl,rfl,rfl,rfl,by simp⟩)
   ·rw[if_neg (by omega)] at f;simp only[Rz] at f;have EH:bH σ M Fz w σ M Fz w.drew:=bH.heap R rfl ⟨rfl,rfl,rfl⟩;have R1:Rel σ M Fz w.drew:=R.heap rfl ⟨rfl,rfl,rfl⟩;obtain ⟨arr,l,g,k⟩:=Wq (P:=P) R1 (S.mono EH) p A;rw[U] at l;have av:(Builtin.firstCells aw 0 (.slice none 0 0)).run P w.drew=.ok #[] w.drew:=rfl;rw[av] at f;simp only[Result.andThen_ok,l] at f;have ax:=Pt n 0 e (w.tape w.drawn (.appendCap n 0 e));generalize (Question.appendCap n 0 e).cut (w.tape w.drawn (.appendCap n 0 e))=W at f ax;have hm:n * aw+(W-n) * aw=W * aw:=by rw[<-MO];simp_all
    have a0:(#[]++arr++Builtin.zeroCells zv.cells (W-n)).size=W * aw:=by simp only[Array.size_append,ic,be,g.1,k,Array.size_empty];omega
    obtain ⟨r1,r2⟩:=qA (P:=P) R1.fz (cs:=new) (arr:=#[]++arr++Builtin.zeroCells zv.cells (W-n)) e (by omega) (λj y u Q O=>by have hj:=(gC.1 Q).1;rw[yBE (by simp[g.1];exact hj)] at O;exact g.2 j y u Q (by simp_all))
    rw[r1] at f;refine ⟨_,_,_,_,by rw[an _ f];rfl,.inl rfl,R1.alloc _ _ r2,?_,EH.trans (bH.alloc R1.fz _ _) (cX _),by simp⟩;rw[<-k];exact V.WB (by omega) (by omega) (by omega) (by omega)
  simp_all
 ·rename_i b off len m sz bh;rw[bh] at aa;simp only[cM] at h;obtain ⟨cs,hr,h⟩:=h;split at h
  ·rename_i G;obtain ⟨rfl,rfl,bc,F⟩:=G;obtain ⟨hb,bw⟩:=OJ hr;rcases aa.ft hr with ⟨a1,e2,_,e4,e6⟩ | ⟨c,o',cap,K,T,hM,a1,b0,b1,hh,b2,_⟩
   ·subst e2 e4 e6;have ab:(args.map a.eval)[0]? = some (.slice none 0 0):=by simp_all
    have f:=rX (ty:=o.type) ht a5 hu a6 a7 hi a8 ab a9 F w;split at h
    ·rename_i q;subst q;simp only[au,aX] at h;obtain ⟨rfl,rfl,_⟩:=h;obtain ⟨arr,l,g,k⟩:=Wq (P:=P) R S p A;rw[U] at l;rw[if_pos (by omega),l] at f;refine dL.same R (v:=.slice none 0 0) ?_ (a1▸aa)
     simp_all
    ·rename_i q;simp only[au,aX] at h;obtain ⟨rfl,rfl,_⟩:=h;rw[if_neg (by omega)] at f;simp only[Rz] at f;have EH:bH σ M Fz w σ M Fz w.drew:=bH.heap R rfl ⟨rfl,rfl,rfl⟩;have R1:Rel σ M Fz w.drew:=R.heap rfl ⟨rfl,rfl,rfl⟩;obtain ⟨arr,l,g,k⟩:=Wq (P:=P) R1 (S.mono EH) p A;rw[U] at l;have av:(Builtin.firstCells m 0 (.slice none 0 0)).run P w.drew=.ok #[] w.drew:=rfl;rw[av] at f;simp only[Result.andThen_ok,l] at f;have ax:=Pt n 0 e (w.tape w.drawn (.appendCap n 0 e));generalize (Question.appendCap n 0 e).cut (w.tape w.drawn (.appendCap n 0 e))=W at f ax;have hm:n * m+(W-n) * m=W * m:=by rw[<-MO];simp_all
     have a0:(#[]++arr++Builtin.zeroCells zv.cells (W-n)).size=W * m:=by simp only[Array.size_append,ic,be,g.1,k,Array.size_empty];omega
     have ad:∀row,(newRow e row).run P w.drew=.ok ⟨w.drew.heap.size,0,none⟩ (w.drew.alloc (.cells row e)):=λ_=>rfl;rw[ad] at f;have b9:0<n * m:=Nat.mul_pos (by omega) (by omega);have L:(Ob.cells []).sz<(Ob.cells ([]++new)).sz:=by grind [Ob.sz]
     have EV:=bH.move (o':=.cells (#[]++arr++Builtin.zeroCells zv.cells (W-n)) e) R1 hb L;refine ⟨_,_,_,_,by rw[an _ f];rfl,.inl rfl,R1.move hb L ?_,?_,EH.trans EV (cX _),by simp⟩
     ·refine ⟨_,e,rfl,by grind,λj d v Q O=>?_⟩;have bb:=(gC.1 Q).1;simp[k] at bb;rw[yBE (by simp[g.1,k];omega)] at O;have:=g.2 j d v (by simp_all) (by simp_all);exact ⟨this.1.mono EV,this.2⟩
     ·have bi:=(gC.1 hb).1;refine .sl _ _ _ (by simp) (.cells ([]++new)) (by simp_all) (by grind [Ob.sz]) (λ_=>.inr ?_);refine ⟨w.drew.heap.size,0,_,e,by simp[xD],rfl,by omega,by omega,.inl rfl,heap_alloc_new _ _,by omega,by simp⟩
   have ab:(args.map a.eval)[0]? = some (.slice (some ⟨c,o',none⟩) len cap):=by simp_all
   have f:=rX (ty:=o.type) ht a5 hu a6 a7 hi a8 ab a9 F w;obtain ⟨bk,T',af,cg,bl⟩:=R.row hM hb;rw[hh] at af;simp only[au,Obj.cells.injEq,Oa] at af;obtain ⟨rfl,rfl⟩:=af;split at h
   ·rename_i q;subst q;simp only[au,aX] at h;obtain ⟨rfl,rfl,_⟩:=h;obtain ⟨arr,l,g,k⟩:=Wq (P:=P) R S p A;rw[U] at l;rw[if_pos (by omega),l] at f;have b3:arr.toList=[]:=by
     have:arr.size=0:=by rw[g.1,k];omega
     simp_all
    grind [Go.Result.andThen_ok,Go.storeCells,Go.Sem.run_pure,dL.same]
   ·rename_i q;simp only[au,aX] at h;obtain ⟨rfl,rfl,_⟩:=h;by_cases X:len+n<=cap
    ·rw[if_pos X] at f;obtain ⟨arr,l,g,k⟩:=Wq (P:=P) R S p A;rw[U] at l;have bt:o'=0:=by
      omega
     subst bt;have hm:(len+n) * m<=cap * m:=Gv _ X;rw[MO] at hm;have bu:=zd3 P T c arr.toList (0+len * m) w K hh g.ones (by simp[g.1,k];omega);rw[l] at f;simp only[Result.andThen_ok,eW,bu] at f;have L:(Ob.cells cs).sz<=(Ob.cells (cs++new)).sz:=by simp[Ob.sz]
     have Y:∀N T1 fr,Obj.cells K T (0,0)=.cells N T1 fr->∃Z,Obj.cells (cQ K (0+len * m) arr.toList) T (0,0)=.cells Z T1 fr/\Z.size=N.size:=by intro N T1 fr h;simp only[Obj.cells.injEq] at h;obtain ⟨rfl,rfl,rfl⟩:=h;exact ⟨_,rfl,TL (by simp[g.1,k];omega)⟩
     have EV:=bH.tH R hM hb hh L Y;refine ⟨_,_,_,M,by rw[an _ f];rfl,.inl rfl,R.tH hM hb hh L Y ?_,?_,EV,by simp⟩
     ·refine ⟨_,T,rfl,?_,λj d v Q O=>?_⟩
      ·grind
      ·rw[cB (by simp[g.1,k];omega)] at O;simp only[Array.length_toList,g.1,k] at O;by_cases hj:j<cs.length
       ·rw[HA hj] at Q;rw[if_neg (by omega)] at O;have:=bl j d v Q O;exact ⟨this.1.mono EV,this.2⟩
       ·rw[OG (by omega)] at Q;have bb:=(gC.1 Q).1;rw[if_pos (by omega)] at O;have:=g.2 (j-cs.length) d v Q (by
         simp_all)
        exact ⟨this.1.mono EV,this.2⟩
     ·have bi:=(gC.1 hb).1;refine .sl _ _ _ (by simp) (.cells (cs++new)) (by simp_all) (by grind [Ob.sz]) (λ_=>.inr ?_);refine ⟨c,0,_,T,hM,rfl,rfl,⟨X,by omega⟩,.inl rfl,eX (R.lt hM).2,?_,?_⟩
      ·simp_all
      grind
    ·rw[if_neg X] at f;have EH:bH σ M Fz w σ M Fz w.drew:=bH.heap R rfl ⟨rfl,rfl,rfl⟩;have R1:Rel σ M Fz w.drew:=R.heap rfl ⟨rfl,rfl,rfl⟩;obtain ⟨arr,l,g,k⟩:=Wq (P:=P) R1 (S.mono EH) p A;rw[U] at l;have ch:WZ σ m len (.sl b 0 len m sz)=some cs:=by
      have hc:m=m/\len<=len/\0+len * m<=sz:=⟨rfl,cX _,by omega⟩;show ((od σ b sz).bind λcs=>if m=m/\len<=len/\0+len * m<=sz then some ((cs.drop 0).take (len * m)) else none)=some cs
      grind
     obtain ⟨RI,b4,ak,ck⟩:=Wq (P:=P) R1 (aa.mono EH) p ch;rw[a1] at b4;rw[b4] at f;simp only[Result.andThen_ok,l] at f;have ax:=Pt (len+n) cap e (w.tape w.drawn (.appendCap (len+n) cap e));generalize (Question.appendCap (len+n) cap e).cut (w.tape w.drawn (.appendCap (len+n) cap e))=W at f ax;have hm:(len+n) * m+(W-(len+n)) * m=W * m:=by rw[<-MO];simp_all
     rw[MO] at hm;have a0:(RI++arr++Builtin.zeroCells zv.cells (W-(len+n))).size=W * m:=by simp only[Array.size_append,ic,be,g.1,k,ak.1,ck];omega
     have ad:∀row,(newRow e row).run P w.drew=.ok ⟨w.drew.heap.size,0,none⟩ (w.drew.alloc (.cells row e)):=λ_=>rfl;rw[ad] at f;have b9:0<n * m:=Nat.mul_pos (by omega) (by omega);have L:(Ob.cells cs).sz<(Ob.cells (cs++new)).sz:=by grind [Ob.sz]
     have EV:=bH.move (o':=.cells (RI++arr++Builtin.zeroCells zv.cells (W-(len+n))) e) R1 hb L;refine ⟨_,_,_,_,by rw[an _ f];rfl,.inl rfl,R1.move hb L  ?_,?_,EH.trans EV (cX _),by simp⟩
     ·refine ⟨_,e,rfl,by grind,λj d v Q O=>?_⟩;have bb:=(gC.1 Q).1;simp[k] at bb;rw[yBE (by simp[ak.1,g.1,k];omega)] at O;by_cases hj:j<cs.length
      ·rw[HA hj] at Q;rw[yBE (by rw[ak.1];exact hj)] at O;have:=ak.2 j d v Q O;exact ⟨this.1.mono EV,this.2⟩
      ·rw[OG (by omega)] at Q;rw[Array.getElem?_append_right (by rw[ak.1];omega),ak.1] at O;have:=g.2 _ d v Q O;exact ⟨this.1.mono EV,this.2⟩
     ·have bi:=(gC.1 hb).1;refine .sl _ _ _ (by simp) (.cells (cs++new)) (by simp_all) (by grind [Ob.sz]) (λ_=>.inr ?_);refine ⟨w.drew.heap.size,0,_,e,by simp[xD],rfl,rfl,by omega,.inl rfl,heap_alloc_new _ _,by omega,by grind⟩
  ·rename_i co;split at h
   rotate_left
   ·simp at h
   rename_i G;obtain ⟨rfl,rfl,bc,F⟩:=G;obtain ⟨hb,bw⟩:=OJ hr;have b5:0<m:=Nat.pos_of_ne_zero p;rcases aa.ft hr with ⟨a1,e2,_,e4,e6⟩ | ⟨c,o',cap,K,T,hM,a1,b0,b1,hh,b2,_⟩
   ·simp_all
   have ab:(args.map a.eval)[0]? = some (.slice (some ⟨c,o',none⟩) len cap):=by simp_all
   have f:=rX (ty:=o.type) ht a5 hu a6 a7 hi a8 ab a9 F w;obtain ⟨bk,T',af,cg,bl⟩:=R.row hM hb;rw[hh] at af;simp only[au,Obj.cells.injEq,Oa] at af;obtain ⟨rfl,rfl⟩:=af;have X:len+n<=cap:=Nat.le_of_mul_le_mul_right (by omega) b5;rw[if_pos X] at f;obtain ⟨arr,l,g,k⟩:=Wq (P:=P) R S p A;rw[U] at l;split at h
   ·rename_i q;subst q;simp only[au,aX] at h;obtain ⟨rfl,rfl,_⟩:=h;have b3:arr.toList=[]:=by
     have:arr.size=0:=by rw[g.1,k];omega
     simp_all
    grind [Go.Result.andThen_ok,Go.storeCells,Go.Sem.run_pure,dL.same]
   ·rename_i q;simp only[au,aX] at h;obtain ⟨rfl,rfl,_⟩:=h;have bt:o'=0:=by
     omega
    subst bt;have hm:(len+n) * m<=cap * m:=Gv _ X;have cm:=bc;rw[MO] at hm cm;have bu:=zd3 P T c arr.toList (0+len * m) w K hh g.ones (by simp[g.1,k];omega);rw[l] at f;simp only[Result.andThen_ok,eW,bu] at f;have b6:len * m+new.length<=cs.length:=by omega
    have L:(Ob.cells cs).sz<=(Ob.cells (put cs (len * m) new)).sz:=by grind [Ob.sz,zet]
    have Y:∀N T1 fr,Obj.cells K T (0,0)=.cells N T1 fr->∃Z,Obj.cells (cQ K (0+len * m) arr.toList) T (0,0)=.cells Z T1 fr/\Z.size=N.size:=by intro N T1 fr h;simp only[Obj.cells.injEq] at h;obtain ⟨rfl,rfl,rfl⟩:=h;exact ⟨_,rfl,TL (by simp[g.1,k];omega)⟩
    have EV:=bH.tH R hM hb hh L Y;refine ⟨_,_,_,M,by rw[an _ f];rfl,.inl rfl,R.tH hM hb hh L Y ?_,?_,EV,by simp⟩
    ·refine ⟨_,T,rfl,by grind [zet],λj d v Q O=>?_⟩;rw[ie b6] at Q;rw[cB (by simp[g.1,k];omega)] at O;simp only[Array.length_toList,g.1,Rz] at O;split at Q
     ·rename_i G;rw[if_pos G] at O;have:=g.2 _ _ _ Q (by simpa using O);exact ⟨this.1.mono EV,this.2⟩
     ·rename_i G;rw[if_neg G] at O;have:=bl _ _ _ Q O;exact ⟨this.1.mono EV,this.2⟩
    ·have bi:=(gC.1 hb).1;refine .sl _ _ _ (by simp) (.cells (put cs (len * m) new)) (by simp_all) (by grind [Ob.sz]) (λ_=>.inr ?_);refine ⟨c,0,_,T,hM,rfl,rfl,⟨X,b0.2⟩,.inl rfl,eX (R.lt hM).2,?_,?_⟩
     ·simp_all
     ·omega
 simp_all
theorem Dx(R:Rel σ M Fz w)(E:dB σ M Fz w env a.tmps){o:Oper}{t e:TypeId}{args:Array Operand}{S:Array TypeId}{s x:Operand}{os ox:aP}{aw b off len sz n m:Nat}{cs new:List D}
  (ho:o.op=.call { callee:=.builtin .copy,args:=args,argTypes:=S }) (ht:S[0]? = some t) (a7:args[0]? = some s) (a8:args[1]? = some x)
  (hu:P.underlying t=some (.slice e)) (U:bE P e=some aw) (W:aw≠0) (hs:bW s=some os) (hx:bW x=some ox)
  (af:os.ev env=.sl b off len aw sz) (hr:od σ b sz=some cs) (hm:Im σ (ox.ev env)=some m) (hn:n=min m len) (A:WZ σ aw n (ox.ev env)=some new) (a9:off+len * aw<=sz) :
  dL P (execOp a.eval o) σ M Fz w (σ.set b (.cells (put cs off new))) (.c (.lit (.int .i64 n))):=by
 have L:=my E hx;have X:=my E hs;rw[af] at X;obtain ⟨z,l,Y⟩:=sy L hm;rcases X.ft hr with ⟨ak,e2,e3,e4,e5⟩ | ⟨c,o',cap,g,T,hM,ak,bb,a2,Z,a5,_⟩
 ·subst e2 e3 e4 e5;obtain rfl:n=0:=by omega
  obtain ⟨hb,_⟩:=OJ hr;obtain ⟨k,p,f,q⟩:=Wq (P:=P) R L W A;rw[Y] at p;obtain rfl:new=[]:=Yy (by omega);have aa:σ.set b (.cells (put [] 0 []))=σ:=by
   apply T_;intro i;rw[yBC];split
   ·rename_i hi;subst hi;split
    ·exact hb.symm
    grind
   ·rfl
  rw[aa];have N:(args.map a.eval)[0]? = some (.slice none 0 0):=by grind
  have O:(args.map a.eval)[1]? = some (.slice z m l):=by grind
  have hl:(Builtin.lenOf (.slice z m l)).run P w=.ok m w:=rfl;have r:Nat.min m 0=0:=hn.symm;refine dL.same R (v:=.int .i64 0) ?_ (.c (.lit _));simp only[execOp,ho,resolve,invoke,builtin,Builtin.copy_,ht,N,O,Sem.run_bind,Sem.run_pure,rp hu,Result.andThen_ok,hl,OY U,r,p,goInt];rfl
 obtain ⟨hb,a6⟩:=OJ hr;obtain ⟨an,T',Q,bc,av⟩:=R.row hM hb;rw[Z] at Q;simp only[au,Obj.cells.injEq,Oa] at Q;obtain ⟨rfl,rfl⟩:=Q;obtain ⟨k,p,f,q⟩:=Wq (P:=P) R L W A;rw[Y] at p;have ax:n * aw<=len * aw:=Gv _ (by omega);have a0:(storeCells ⟨c,o',none⟩ k.toList).run P w=.ok () (cI w c (.cells (cQ g off k.toList) T (0,0))):=by
  by_cases hz:n=0
  ·have:k.toList=[]:=by
    have:k.size=0:=by rw[f.1,q,hz,yCa]
    grind
   rw[this];have F:cQ g off []=g:=by grind [cQ]
   rw[F,Tt Z];rfl
  ·have a1:o'=off:=by
    omega
   subst a1;exact zd3 P T c k.toList o' w g Z f.ones (by simp[f.1,q];omega)
 have ab:off+new.length<=cs.length:=by omega
 have ad:(Ob.cells cs).sz<=(Ob.cells (put cs off new)).sz:=by grind [Ob.sz,zet]
 have G:∀u T1 fr,Obj.cells g T (0,0)=.cells u T1 fr->∃K,Obj.cells (cQ g off k.toList) T (0,0)=.cells K T1 fr/\K.size=u.size:=by intro u T1 fr h;simp only[Obj.cells.injEq] at h;obtain ⟨rfl,rfl,rfl⟩:=h;exact ⟨_,rfl,TL (by simp[f.1,q];omega)⟩
 have EV:=bH.tH R hM hb Z ad G;refine ⟨.value (.int .i64 n),_,_,M,?_,.inl rfl,R.tH hM hb Z ad G ?_,.c (.lit _),EV,by simp⟩
 ·have N:(args.map a.eval)[0]? = some (.slice (some ⟨c,o',none⟩) len cap):=by simp_all
  have O:(args.map a.eval)[1]? = some (.slice z m l):=by simp_all
  have hl:(Builtin.lenOf (.slice z m l)).run P w=.ok m w:=rfl;have r:Nat.min m len=n:=hn.symm;simp only[execOp,ho,resolve,invoke,builtin,Builtin.copy_,ht,N,O,Sem.run_bind,Sem.run_pure,rp hu,Result.andThen_ok,hl,OY U,r,p,a0,goInt]
 ·refine ⟨_,T,rfl,by grind [zet],λj d v h1 F=>?_⟩;rw[ie ab] at h1;rw[cB (by simp[f.1,q];omega)] at F;simp only[Array.length_toList,f.1] at F;split at h1
  ·rename_i y;rw[if_pos y] at F;have:=f.2 _ _ _ h1 (by simpa using F);exact ⟨this.1.mono EV,this.2⟩
  ·rename_i y;rw[if_neg y] at F;have:=av _ _ _ h1 F;exact ⟨this.1.mono EV,this.2⟩
theorem clr_ok(R:Rel σ M Fz w)(E:dB σ M Fz w env a.tmps){o:Oper}{t e:TypeId}{args:Array Operand}{A:Array TypeId}{x:Operand}{ox:aP}{aw b off len sz:Nat}{cs z:List D}
  (ho:o.op=.call { callee:=.builtin .clear,args:=args,argTypes:=A }) (ht:A[0]? = some t) (a9:args[0]? = some x)
  (hu:P.underlying t=some (.slice e)) (hz:Ry P e=some z) (bb:aw≠0) (F:z.length=aw) (hx:bW x=some ox)
  (X:ox.ev env=.sl b off len aw sz) (hr:od σ b sz=some cs) (bc:off+len * aw<=sz) :
  dL P (execOp a.eval o) σ M Fz w (σ.set b (.cells (put cs off (uf len z)))) (.aS []):=by
 obtain ⟨i,y,hi,Y,aa⟩:=zc9 hz;have G:=CN.r_ (V.dH (σ:=σ) (M:=M) (Fz:=Fz) (w:=w) y) aa;have bd:y.cells.size=aw:=by rw[G.1,F]
 have K:z≠[]:=λh=>by simp_all
 have hv:=my E hx;rw[X] at hv;obtain ⟨hb,a2⟩:=OJ hr;have same:len=0->σ.set b (.cells (put cs off (uf len z)))=σ:=λh=>by
  subst h;have k:put cs off (uf 0 z)=cs:=by simp[uf,put]
  rw[k];apply T_
  grind
 have a5:∀U cap,len=0->a.eval x=.slice U len cap->dL P (execOp a.eval o) σ M Fz w (σ.set b (.cells (put cs off (uf len z)))) (.aS []):=λU cap h L=>by
  rw[same h];subst h;have r:(args.map a.eval)[0]? = some (.slice U 0 cap):=by simp_all
  refine dL.same R (v:=.tuple #[]) ?_ (.aS #[] rfl (λi d v h=>by simp at h));cases U <;> simp only[execOp,ho,resolve,invoke,builtin,Builtin.clear_,ht,r,Sem.run_bind,Sem.run_pure,rp hu,Result.andThen_ok]
 rcases hv.ft hr with ⟨L,e2,e3,e4,e6⟩ | ⟨c,s,cap,f,T,hM,L,be,a6,W,a7,_⟩
 ·simp_all
 by_cases h0:len=0
 ·simp_all
 obtain ⟨m,rfl⟩:∃m,len=m+1:=⟨len-1,by omega⟩;obtain ⟨ab,T',u,bh,af⟩:=R.row hM hb;rw[W] at u;simp only[au,Obj.cells.injEq,Oa] at u;obtain ⟨rfl,rfl⟩:=u;have ak:s=off:=by omega
 subst ak;obtain ⟨an,N⟩:=BN G K (m+1) (m+1) (cX _);generalize hZ:Builtin.zeroCells y.cells (m+1)=Z;have av:(Array.range ((m+1) * y.cells.size)).map (y.cells[· % y.cells.size]!)=Z:=hZ;rw[av] at an N;have ax:Z.size=(m+1) * aw:=by grind
 have a0:(uf (m+1) z).length=(m+1) * aw:=by rw[lu,F]
 have l:CN σ M Fz w (uf (m+1) z) Z:=⟨by omega,N⟩;have a8:s+(m+1) * aw<=f.size:=by omega
 have a1:=zd3 P T c Z.toList s w f W l.ones (by simp_all);have O:s+(uf (m+1) z).length<=cs.length:=by omega
 have Q:(Ob.cells cs).sz<=(Ob.cells (put cs s (uf (m+1) z))).sz:=by grind [Ob.sz,zet]
 have n:∀p T1 fr,Obj.cells f T (0,0)=.cells p T1 fr->∃q,Obj.cells (cQ f s Z.toList) T (0,0)=.cells q T1 fr/\q.size=p.size:=by grind [TL]
 have EV:=bH.tH R hM hb W Q n;refine ⟨.value (.tuple #[]),_,_,M,?_,.inl rfl,R.tH hM hb W Q n ?_,.aS #[] rfl (λi d v h=>by simp at h),EV,by simp⟩
 ·have r:(args.map a.eval)[0]? = some (.slice (some ⟨c,s,none⟩) (m+1) cap):=by simp_all
  simp only[execOp,ho,resolve,invoke,builtin,Builtin.clear_,ht,r,Sem.run_bind,Sem.run_pure,rp hu,Result.andThen_ok,gQ hi Y,hZ,a1]
 ·refine ⟨_,T,rfl,by grind [zet],λj d v S k=>?_⟩;rw[ie O] at S;rw[cB (by simp_all)] at k;simp only[Array.length_toList,ax] at k;rw[a0] at S;split at S
  ·rename_i g;rw[if_pos g] at k;have:=l.2 _ _ _ S (by simpa using k);exact ⟨this.1.mono EV,this.2⟩
  ·rename_i g;rw[if_neg g] at k;have:=af _ _ _ S k;exact ⟨this.1.mono EV,this.2⟩
end
end Go.Abs
end
