/- Lemmas. -/
import Derived.Calls
import Derived.Orders
import Derived.Laws.Sem
import Derived.Laws.World
import Derived.Laws.Cells
import Derived.Laws.Rows
import GoSem.Dispatch
import Derived.IntWalk
set_option linter.all false
open Go.IntKind (i64 u64)
namespace Go
abbrev yA:=@Option.bind_some
abbrev xAb:=@List.getElem?_eq_none
abbrev xAc:=@Array.foldl_toList
abbrev xAd:=@List.getElem?_set_self
abbrev xAe:=@List.length_singleton
abbrev xAf:=@List.replicate_succ
abbrev xAg:=@List.replicate_zero
abbrev xAh:=@Int.tdiv_eq_ediv_of_nonneg
abbrev au:=@Option.some.injEq
abbrev aw:=@Option.bind_some
abbrev bz:=@decide_eq_true_eq
abbrev bA:=@List.getElem_mem
abbrev cC:=@Option.map_eq_some_iff
abbrev aU:=@Prod.mk.injEq
abbrev bG:=@Bool.and_eq_true
abbrev b_:=@Bool.false_eq_true
abbrev c_:=@Option.bind_eq_some_iff
abbrev dd:=@Nat.eq_of_beq_eq_true
abbrev dW:=@List.getElem?_eq_getElem
abbrev fq:=@List.getElem?_eq_some_iff
abbrev eY:=@Option.bind_eq_bind
abbrev iM:=@List.getElem_of_mem
abbrev qB:=@Array.getElem?_eq_getElem
abbrev cP:=@Nat.le_refl
abbrev hZ:=@Bool.not_eq_true'
abbrev iK:=@List.all_eq_true
abbrev o_:=@List.mem_cons_of_mem
abbrev gE:=@Bool.or_eq_true
abbrev lS:=@List.getElem?_map
abbrev xF:=@List.getElem?_cons_zero
abbrev cw:=@if_false
abbrev gy:=@List.mem_cons
abbrev nI:=@Bool.not_eq_false
abbrev kL:=@List.mem_append
abbrev qY:=@List.mem_cons_self
abbrev Hw:=@List.take_succ_eq_append_getElem
abbrev CK:=@Array.getElem?_eq_some_iff
abbrev iX:=@List.mem_map
abbrev jk:=@Nat.le_trans
abbrev Av:=@List.mem_of_getElem?
abbrev FF:=@List.getElem?_append_left
abbrev CH:=@Nat.le_of_ble_eq_true
abbrev zJ:=@List.length_append
abbrev zV:=@List.mem_singleton
abbrev zg:=@List.append_assoc
abbrev xB:=@List.take_length
abbrev vR:=@List.length_map
abbrev Np:=@List.getElem?_append_right
abbrev rS:=@List.map_cons
abbrev zO:=@List.nil_append
abbrev lA:=@beq_iff_eq
abbrev rU:=@Nat.lt_or_ge
abbrev JN:=@List.take_append_drop
abbrev HT:=@Nat.mul_le_mul_right
abbrev BZ:=@List.length_take
abbrev FG:=@Nat.lt_of_lt_of_le
abbrev IZ:=@List.pairwise_append
abbrev Cs:=@Option.map_some
abbrev CD:=@List.append_nil
abbrev Vo:=@List.getD_eq_getElem?_getD
abbrev Mx:=@List.mem_of_mem_take
abbrev FA:=@List.length_cons
abbrev ZI:=@List.eq_nil_of_length_eq_zero
abbrev OA:=@List.mem_iff_getElem
abbrev tR:=@Nat.blt_eq
abbrev Gp:=@List.mem_filter
abbrev yAW:=@Array.getElem?_setIfInBounds
abbrev JC:=@List.cons_append
abbrev yAY:=@Int.mul_le_mul_of_nonneg_right
abbrev TJ:=@Array.getElem?_toList
abbrev LL:=@List.not_mem_nil
abbrev Zn:=@List.length_eq_zero_iff
abbrev yBc:=@Array.getD_eq_getD_getElem?
abbrev Rk:=@List.getElem_take
abbrev OE:=@Option.getD_some
abbrev TO:=@List.length_pos_iff
abbrev yBg:=@List.pairwise_iff_getElem
abbrev Un:=@Decidable.not_not
abbrev VX:=@Nat.lt_or_eq_of_le
abbrev VW:=@List.ext_getElem?
abbrev Wh:=@Nat.lt_trichotomy
abbrev yBl:=@Array.length_toList
abbrev Ot:=@Bool.not_true
abbrev yBn:=@decide_eq_false_iff_not
abbrev Wc:=@List.getElem_map
abbrev yBp:=@List.mem_of_mem_drop
abbrev Qm:=@Bool.and_true
abbrev yBr:=@Option.isSome_iff_exists
abbrev US:=@List.mapM_cons
abbrev HU:=@bne_iff_ne
abbrev yBu:=@List.getElem?_cons_succ
abbrev SW:=@List.all_cons
abbrev MG:=@Int.le_refl
abbrev PL:=@Nat.zero_add
abbrev yBy:=@List.pairwise_cons
abbrev yBz:=@List.take_of_length_le
abbrev WD:=@List.length_set
abbrev FH:=@false_iff
abbrev OI:=@Nat.add_mul
abbrev yB3:=@List.getElem?_take_of_lt
abbrev yB4:=@List.singleton_append
abbrev Qf:=@Nat.zero_le
abbrev yB6:=@List.getElem?_append
abbrev UX:=@List.map_map
abbrev yB8:=@List.drop_eq_nil_of_le
abbrev yB9:=@List.drop_eq_getElem_cons
abbrev yBA:=@Sigma.mk.injEq
abbrev yBB:=@List.mem_of_find?_eq_some
abbrev yBC:=@List.mem_append_right
abbrev yBD:=@Bool.and_eq_false_iff
abbrev yBE:=@List.getElem_set_self
abbrev yBF:=@List.length_filter_le
abbrev yBG:=@List.length_nil
abbrev yBH:=@List.getElem?_of_mem
abbrev yBI:=@List.mem_append_left
abbrev yBJ:=@Nat.add_sub_cancel_left
abbrev Ig:=@congrArg
abbrev yBL:=@Nat.exists_eq_add_of_le
abbrev yBM:=@List.getElem?_set
abbrev yBN:=@List.flatMap_cons
abbrev yBO:=@List.getElem_set_ne
abbrev yBP:=@Array.getElem?_append_left
abbrev yBQ:=@List.getElem?_drop
abbrev yBR:=@List.mem_iff_getElem?
abbrev yBS:=@List.perm_append_comm
abbrev yBT:=@Int.mul_nonneg
abbrev yBU:=@Classical.not_and_iff_not_or_not
abbrev NT:=@and_true
abbrev Nj:=@or_false
abbrev yBX:=@List.map_append
abbrev yBY:=@Go.heap_alloc_old
abbrev yBZ:=@List.take_add_one
abbrev yCa:=@Nat.le_of_eq
abbrev yCb:=@List.length_drop
abbrev yCc:=@List.ext_getElem
abbrev yCd:=@List.mem_range
abbrev OO:=@true_iff
abbrev yCf:=@Option.pure_def
abbrev yCg:=@Option.map_none
abbrev yCh:=@Nat.mul_lt_mul_of_pos_right
abbrev yCi:=@List.cons.injEq
abbrev yCj:=@List.set_getElem_self
abbrev yCk:=@List.concat_eq_append
abbrev yCl:=@List.Perm.append_left
abbrev yCm:=@List.any_eq_false
abbrev yCn:=@List.getElem_drop
abbrev yCo:=@Int.toNat_natCast
abbrev yCp:=@List.getElem?_set_ne
abbrev yCq:=@List.mem_or_eq_of_mem_set
abbrev yCr:=@Decidable.byContradiction
abbrev yCs:=@beq_self_eq_true
abbrev yCt:=@Int.toNat_of_nonneg
abbrev yCu:=@Nat.zero_mul
abbrev yCv:=@Array.getElem?_replicate
abbrev yCw:=@Nat.sub_self
abbrev yCx:=@Nat.le_of_lt
abbrev yCy:=@List.getElem_append_left
abbrev yCz:=@Nat.lt_succ_iff
abbrev yC0:=@Nat.pow_add
abbrev yC1:=@bne_self_eq_false
abbrev yC2:=@List.drop_zero
abbrev yC3:=@Nat.mul_le_mul
abbrev yC4:=@List.Perm.refl
abbrev yC5:=@Nat.sub_zero
abbrev yC6:=@Int.lt_or_le
abbrev yC7:=@Nat.beq_refl
abbrev yC8:=@Nat.add_assoc
abbrev yC9:=@Bool.true_and
end Go
section
namespace Go.Abs
inductive C where
 |lit (v:Value)
 |cJ (nn:Bool) (es:List (List C))
 |cD (cs:List C) (off:Nat)
 |fn (f:Fn) (first cap:List C)
 |No (es:List (Value×C))
 |We (g:Nat)
 deriving Inhabited
inductive D where
 |c (x:C)
 |ptr (b off sz:Nat)
 |sl (b off len aB sz:Nat)
 |mp (b:Nat)
 |fn (f:Fn) (first cap:List D)
 |agg (cs:List D)
 |aV (vs:List D)
 |any
 deriving Inhabited
inductive Ob where
 |cells (cs:List D)
 |map (es:List (Value×D×Nat)) (clock:Nat)
 |gone (n:Nat)
 deriving Inhabited
def Ob.sz:Ob->Nat
 |.cells i=>i.length
 |.map _ _=>0
 |.gone n=>n
abbrev ar:=List Ob
inductive VC (Fz:Nat->Prop) (w:World):C->Value->Prop where
 |lit (v:Value):VC Fz w (.lit v) v
 |cJ {nn:Bool} {es:List (List C)} (aB:Nat) (a:Option Addr) (cap:Nat) (hnn:nn=true->a.isSome=true) (hz:a=none->cap=0) (c:Nat->Nat->Value) (hsz:∀e∈es,e.length=aB) (hcap:es.length<=cap)
   (hc:∀(i j:Nat) e d,es[i]? = some e->e[j]? = some d->∃blk o,a=some ⟨blk,o,none⟩/\Fz blk/\w.cell? ⟨blk,o+i * aB+j,none⟩=some (c i j)/\(c i j).oneCell'=true)
   (hv:∀(i j:Nat) e d,es[i]? = some e->e[j]? = some d->VC Fz w d (c i j)):VC Fz w (.cJ nn es) (.slice a es.length cap)
 |cD {cs:List C} {off:Nat} (blk o:Nat) (c:Nat->Value) (hF:Fz blk) (hc:∀(j:Nat) d,cs[j]? = some d->w.cell? ⟨blk,o+j,none⟩=some (c j)/\(c j).oneCell'=true)
   (hv:∀(j:Nat) d,cs[j]? = some d->VC Fz w d (c j)):VC Fz w (.cD cs off) (.pointer (some ⟨blk,o+off,none⟩))
 |fn {f:Fn} {first cap:List C} (vs ws:Array Value) (h1:vs.size=first.length) (h2:ws.size=cap.length)
   (hv:∀(i:Nat) d v,first[i]? = some d->vs[i]? = some v->VC Fz w d v) (hw:∀(i:Nat) d v,cap[i]? = some d->ws[i]? = some v->VC Fz w d v) :
   VC Fz w (.fn f first cap) (.func f vs ws)
 |No {es:List (Value×C)} (blk clock:Nat) (arr:Array MapEntry) (hF:Fz blk) (hh:w.heap[blk]? = some (.map arr clock)) (hs:arr.size=es.length)
   (hk:∀(i:Nat) p e,es[i]? = some p->arr[i]? = some e->e.key=p.1) (hv:∀(i:Nat) p e,es[i]? = some p->arr[i]? = some e->VC Fz w p.2 e.val):VC Fz w (.No es) (.map (some blk))
 |We (g:Nat):VC Fz w (.We g) (.pointer (some ⟨g,0,none⟩))
theorem Ha{w w':World}{blk o:Nat}(h:w'.heap[blk]? = w.heap[blk]?):w'.cell? ⟨blk,o,none⟩=w.cell? ⟨blk,o,none⟩:=by grind [Go.World.cell?]
theorem VC.mono{Fz Fz':Nat->Prop}{w w':World}(Q:∀c:Nat,Fz c->Fz' c/\w'.heap[c]? = w.heap[c]?){x:C}{v:Value}(h:VC Fz w x v):VC Fz' w' x v:=by
 induction h with
 |lit v=>exact .lit v
 |cJ aB a cap z X c A u R E ih=>
  refine .cJ aB a cap z X c A u (λi j e d U W=>?_) ih
  grind [Ha]
 |cD blk o c F R E ih=>exact .cD blk o c (Q _ F).1 (λj d h=>⟨by grind [Ha],(R j d h).2⟩) ih
 |fn σ Z U W E hw G K=>exact .fn σ Z U W G K
 |No blk s O F hh hs hk E ih=>exact .No blk s O (Q _ F).1 (by simp_all) hs hk ih
 |We g=>exact .We g
inductive V (Y:ar) (M:Nat->Option Nat) (Fz:Nat->Prop) (w:World):D->Value->Prop where
 | c {x:C} {v:Value} (h:VC Fz w x v):V Y M Fz w (.c x) v
 | any (v:Value):V Y M Fz w .any v
 | ptr {b off sz:Nat} (a:Addr) (ob:Ob) (h:Y[b]? = some ob) (hle:sz≤ob.sz)
   (hv:ob.sz=sz->∃c,M b=some c/\a=⟨c,off,none⟩):V Y M Fz w (.ptr b off sz) (.pointer (some a))
 | sl {b off len aB sz:Nat} (a:Option Addr) (n cap:Nat) (hnn:len≠0->a≠none) (ob:Ob) (h:Y[b]? = some ob) (hle:sz≤ob.sz)
   (hv:ob.sz=sz->(a=none/\n=0/\cap=0/\len=0/\off=0/\sz=0)\/∃c o arr T,M b=some c/\a=some ⟨c,o,none⟩/\n=len/\(len≤cap/\sz≤off+cap * aB)/\(o=off\/cap=0) /\
    w.heap[c]? = some (.cells arr T (0,0))/\o+cap * aB≤arr.size/\off+len * aB≤sz):V Y M Fz w (.sl b off len aB sz) (.slice a n cap)
 | mp {b:Nat} (c:Nat) (ob:Ob) (h:Y[b]? = some ob) (hv:ob.sz=0->M b=some c):V Y M Fz w (.mp b) (.map (some c))
 | fn {f:Fn} {first cap:List D} (vs ws:Array Value) (h1:vs.size=first.length) (h2:ws.size=cap.length)
   (hv:∀(i:Nat) d v,first[i]? = some d->vs[i]? = some v->V Y M Fz w d v) (hw:∀(i:Nat) d v,cap[i]? = some d->ws[i]? = some v->V Y M Fz w d v) :
   V Y M Fz w (.fn f first cap) (.func f vs ws)
 | agg {cs:List D} (vs:Array Value) (h1:vs.size=cs.length) (hv:∀(i:Nat) d v,cs[i]? = some d->vs[i]? = some v->V Y M Fz w d v):V Y M Fz w (.agg cs) (.agg vs)
 | aV {cs:List D} (vs:Array Value) (h1:vs.size=cs.length) (hv:∀(i:Nat) d v,cs[i]? = some d->vs[i]? = some v->V Y M Fz w d v):V Y M Fz w (.aV cs) (.tuple vs)
def jb(arr:Array MapEntry)(b:Nat):Prop:=(arr.toList.map MapEntry.born).Nodup/\∀e∈arr.toList,e.born<b
theorem jb.nil(i:Nat):jb #[] i:=⟨by simp,by simp⟩
def jb.push{arr:Array MapEntry}{i:Nat}(h:jb arr i)(k v:Value):jb (arr.push { key:=k,val:=v,born:=i }) (i+1):=by
 refine ⟨?_,λe he=>?_⟩
 ·rw[Array.toList_push,yBX,List.nodup_append];refine ⟨h.1,by simp,λa j b hb=>?_⟩;obtain ⟨e,he,rfl⟩:=iX.1 j;have:=h.2 e he
  grind
 ·rw[Array.toList_push,kL] at he;rcases he with he | he
  ·have:=h.2 e he;omega
  simp_all
theorem jb.same{arr i:Array MapEntry}{j:Nat}(h:jb arr j)(e:i.toList.map MapEntry.born=arr.toList.map MapEntry.born):jb i j:=by
 refine ⟨by rw[e];exact h.1,λx s=>?_⟩;have:x.born∈arr.toList.map MapEntry.born:=by grind
 obtain ⟨y,o,q⟩:=iX.1 this;rw[<-q];exact h.2 y o
def jb.sub{arr i:Array MapEntry}{j:Nat}(h:jb arr j)(e:i.toList.Sublist arr.toList):jb i j:=
 ⟨h.1.sublist (e.map _),λx o=>h.2 x (e.subset o)⟩
def ca(Y:ar)(M:Nat->Option Nat)(Fz:Nat->Prop)(w:World):Ob->Obj->Prop
 |.cells f,o=>∃b T,o=.cells b T (0,0)/\f.length<=b.size/\∀(i:Nat) d v,f[i]? = some d->b[i]? = some v->V Y M Fz w d v/\v.oneCell'=true
 |.map es _,o=>∃b,(∃g,o=.map b g/\jb b g)/\b.size=es.length/\∀(i:Nat) k d n e,es[i]? = some (k,d,n)->b[i]? = some e->e.key=k/\True/\V Y M Fz w d e.val
 |.gone _,_=>False
class Gl where
 ok:(Nat->Prop)->World->Prop
 mono:∀{Fz Fz':Nat->Prop}{w w':World},(∀c:Nat,Fz c->Fz' c/\w'.heap[c]? = w.heap[c]?)->ok Fz w->ok Fz' w'
 tab:Nat->List Value:=λ_=>[]
 tabOk:∀{Fz:Nat->Prop}{w:World}(g j:Nat)(v:Value),ok Fz w->(tab g)[j]? = some v->Fz g/\w.cell? ⟨g,j,none⟩=some v/\v.oneCell'=true:=by intro _ _ g j v _ h;simp at h
structure Rel [Gl] (Y:ar) (M:Nat->Option Nat) (Fz:Nat->Prop) (w:World):Prop where
 blk:∀(b c:Nat),M b=some c->¬Fz c/\∃ob o,Y[b]? = some ob/\w.heap[c]? = some o/\ca Y M Fz w ob o
 inj:∀b b' c,M b=some c->M b'=some c->b=b'
 fz:∀c,Fz c->c<w.heap.size
 gl:Gl.ok Fz w
structure bF (Y:ar) (M:Nat->Option Nat) (Fz:Nat->Prop) (w:World) (Y':ar) (M':Nat->Option Nat) (Fz':Nat->Prop) (w':World):Prop where
 size:w.heap.size<=w'.heap.size
 frame:∀c:Nat,c<w.heap.size->(∀b,M b≠some c)->w'.heap[c]? = w.heap[c]?
 lP:∀b c,M' b=some c->(∃b0,M b0=some c)\/w.heap.size<=c
 fz:∀c:Nat,Fz c->Fz' c/\w'.heap[c]? = w.heap[c]?
 nF:∀c,Fz' c->Fz c\/(∃b,M b=some c)\/w.heap.size<=c
 qe:∀(c:Nat) arr T fr,w.heap[c]? = some (.cells arr T fr)->∃arr',w'.heap[c]? = some (.cells arr' T fr)/\arr'.size=arr.size
 keep:∀(b:Nat) ob,Y[b]? = some ob->∃ob',Y'[b]? = some ob'/\ob.sz<=ob'.sz/\(ob'.sz=ob.sz->M' b=M b)
 out:w'.os=w.os/\w'.tape=w.tape/\w'.output=w.output
section
variable{Y Y' Y'':ar}{M M' M'':Nat->Option Nat}{Fz Fz' Fz'':Nat->Prop}{w w' w'':World}
theorem V.mono(E:bF Y M Fz w Y' M' Fz' w'){d:D}{v:Value}(h:V Y M Fz w d v):V Y' M' Fz' w' d v:=by
 induction h with
 |c h=>exact .c (h.mono E.fz)
 |any v=>exact .any v
 |ptr a Q h A j=>
  obtain ⟨i,u,hs,hk⟩:=E.keep _ _ h;refine .ptr a i u (by omega) (λR=>?_)
  grind
 |sl a n cap F Q h A j=>
  obtain ⟨i,u,hs,hk⟩:=E.keep _ _ h;refine .sl a n cap F i u (by omega) (λR=>?_);rcases j (by omega) with ⟨s,U,h3,h4,h5,h6⟩ | ⟨c,o,W,T,hM,X,σ,hl,Z,hh,hb,hz⟩
  ·simp_all
  ·obtain ⟨x,G,aa⟩:=E.qe _ _ _ _ hh;exact .inr ⟨c,o,x,T,by grind,X,σ,hl,Z,G,by omega,hz⟩
 |mp c Q h j=>obtain ⟨i,u,hs,hk⟩:=E.keep _ _ h;exact .mp c i u (λR=>by simp_all)
 |fn z ws s U j hw K O=>exact .fn z ws s U K O
 |agg z s j ih=>exact .agg z s ih
 |aV z s j ih=>exact .aV z s ih
variable[Gl] in
theorem bF.refl(R:Rel Y M Fz w):bF Y M Fz w Y M Fz w:={
 size:=cP _
 frame:=λ_ _ _=>rfl
 lP:=λb c h=>.inl ⟨b,h⟩
 fz:=λc h=>⟨h,rfl⟩
 nF:=λc h=>.inl h
 qe:=λc i T o h=>⟨i,h,rfl⟩
 keep:=λb j h=>⟨j,h,cP _,λ_=>rfl⟩
 out:=⟨rfl,rfl,rfl⟩ }
def bF.trans(A:bF Y M Fz w Y' M' Fz' w')(B:bF Y' M' Fz' w' Y'' M'' Fz'' w'')(hl:Y.length<=Y'.length):bF Y M Fz w Y'' M'' Fz'' w'':={
 size:=jk A.size B.size
 frame:=λc s x=>by
  rw[<-A.frame c s x];refine B.frame c (FG s A.size) (λb hb=>?_);rcases A.lP b c hb with ⟨j,i⟩ | i
  ·simp_all
  ·omega
 lP:=λb c h=>by
  rcases B.lP b c h with ⟨j,i⟩ | i
  ·exact A.lP j c i
  ·exact .inr (jk A.size i)
 fz:=λc h=>by
  obtain ⟨h1,h2⟩:=A.fz c h;obtain ⟨G,K⟩:=B.fz c h1
  simp_all
 nF:=λc h=>by
  rcases B.nF c h with h | ⟨b,h⟩ | h
  ·exact A.nF c h
  ·rcases A.lP b c h with ⟨j,i⟩ | i
   ·grind
   omega
  ·exact .inr (.inr (jk A.size h))
 qe:=λc o T u h=>by
  obtain ⟨z,h1,O⟩:=A.qe c o T u h;obtain ⟨Q,h2,R⟩:=B.qe c z T u h1
  simp_all
 keep:=λb E h=>by
  obtain ⟨F,h1,s1,U⟩:=A.keep b E h;obtain ⟨W,h2,s2,X⟩:=B.keep b F h1
  grind
 out:=⟨B.out.1.trans A.out.1,B.out.2.1.trans A.out.2.1,B.out.2.2.trans A.out.2.2⟩ }
theorem ca.mono(E:bF Y M Fz w Y' M' Fz' w'){ob:Ob}{o:Obj}(h:ca Y M Fz w ob o):ca Y' M' Fz' w' ob o:=by
 cases ob with
 |cells F=>obtain ⟨j,T,z,hl,s⟩:=h;exact ⟨j,T,z,hl,λi d v u x=>⟨(s i d v u x).1.mono E,(s i d v u x).2⟩⟩
 |map G A=>obtain ⟨j,z,hl,s⟩:=h;exact ⟨j,z,hl,λi k d n e u x=>let ⟨a,b,c⟩:=s i k d n e u x;⟨a,b,c.mono E⟩⟩
 |gone n=>exact h.elim
end
end Go.Abs
end
section
namespace Go.Abs
variable[Gl]
def fE{α:Type}(P:Program):Sem α->Option α
 |.pure a=>some a
 |.program k=>fE P (k P)
 |_=>none
theorem Qb{α:Type}{P:Program}{s:Sem α}{a:α}(w:World)(h:fE P s=some a):s.run P w=.ok a w:=by
 induction s with
 |pure b=>simp only[fE,au] at h;simp_all
 |program k ih=>simp only[fE] at h;exact ih P h
 |_=>grind [fE]
inductive aT where
 |t (n:Nat)
 |k (d:D)
 deriving Inhabited
def dH:Value->D
 |.agg b=>.agg (b.toList.map λv=>.c (.lit v))
 |.tuple b=>.aV (b.toList.map λv=>.c (.lit v))
 |v=>.c (.lit v)
def aT.ev(env:List D):aT->D
 |.t n=>(env[n]?).getD (.aV [])
 |.k d=>d
def cf:Operand->Option aT
 |.tmp t=>some (.t t)
 |.const v=>some (.k (dH v))
 |.func f=>some (.k (.c (.fn (.func f) [] [])))
 |.global g=>some (.k (.c (.We g)))
def kR:D->Option Value
 |.c (.lit v)=>some v
 |_=>none
def D.cX:D->Option Value
 |.c (.lit v)=>some v
 |.agg ds=>(ds.mapM kR).map λl=>.agg l.toArray
 |_=>none
def D.scalar:D->Bool
 |.c (.lit v)=>v.oneCell'
 |.c _ | .ptr .. | .sl .. | .mp _ | .fn ..=>true
 |_=>false
def D.cells?:D->Option (List D)
 |.agg i=>if i.all D.scalar then some i else none
 |d=>if d.scalar then some [d] else none
inductive kN where
 |AO (x:aT)
 |pick (c a b:aT)
 |gen (op:Op) (ty:TypeId)
 |box (x:aT)
 |alloc (z:List D)
 |build (z:List D) (parts:List (Nat×Nat×aT))
 |jh (aB len:Nat) (z:List D) (parts:List (Nat×Nat×aT))
 |load (n:Option Nat) (a:aT)
 |store (n:Nat) (a x:aT)
 |mM (x:aT)
 |iT (k:Nat) (neg:Bool) (x:aT)
 |HW (off:Nat) (x:aT)
 |idx (aB:Nat) (arr:Option Nat) (x i:aT)
 |VT (aB:Nat) (x:aT) (lo hi:Option aT)
 |len (x:aT)
 |Zu (x:aT)
 |mk (aB bytes:Nat) (z:List D) (l c:aT)
 |uC
 |lookup (kind:TypeDesc) (zero:D) (m k:aT) (ok:Bool)
 |yg (kind:TypeDesc) (m k x:aT)
 |extract (x:aT) (i:Nat)
 |Ea (f:Fn) (first cap:List aT)
 |part (off:Nat) (n:Option Nat) (x:aT)
 |Cx (aB len:Nat) (n:Option Nat) (x i:aT)
 |append (aB bytes:Nat) (s x:aT)
 |copy (aB:Nat) (d s:aT)
 |del (kind:TypeDesc) (m k:aT)
 |VH (aB:Nat) (x lo hi mx:aT)
 |DM (n:Nat) (x:aT)
 |clr (aB:Nat) (z:List D) (x:aT)
 |call (f:aT) (args:List aT)
 deriving Inhabited
def Kk(xs:Array Operand):Option (List aT):=xs.toList.mapM cf
def FO:Option Operand->Option (Option aT)
 |none=>some none
 |some x=>(cf x).map some
def Fc(P:Program)(t:TypeId):Option (Option Nat):=
 match P.info? t,P.underlying t with
 |some i,some (.struct _)=>some (some i.size)
 |some i,some (.array _ _)=>some (some i.size)
 |some _,some _=>some none
 |_,_=>none
def zeroOf(P:Program)(t:TypeId):Option D:=
 match P.info? t with
 |some i=>i.zero.map dH
 |none=>none
def CG:D->D
 |.c (.lit (.slice none 0 0))=>.c (.cJ false [])
 |d=>d
def VU(P:Program)(t:TypeId):Option (List D):=(zeroOf P t).bind D.cells?
def bP(P:Program)(t:TypeId):Option Nat:=(P.info? t).map (·.size)
def Ks(P:Program)(b:Array Field):Option (List (Nat×Nat)):=b.toList.mapM λf=>(bP P f.type).map λn=>(f.offset,n)
def zG:TypeDesc->Option Nat
 |.pointer _=>some 0
 |.map _ _=>some 1
 |.func ..=>some 2
 |.slice _=>some 3
 |_=>none
def qX(k:Nat):Operand->Bool
 |.const (.pointer none)=>k == 0
 |.const (.map none)=>k == 1
 |.const .nilFunc=>k == 2
 |.const (.slice none 0 0)=>k == 3
 |_=>false
def vH(k:Nat)(neg:Bool)(x y:Operand):Option kN:=
 if qX k y then (cf x).map (.iT k neg) else if qX k x then (cf y).map (.iT k neg) else none
def isNil:Nat->D->Option Bool
 |0,.ptr ..=>some false
 |0,.c (.cD ..)=>some false
 |0,.c (.lit (.pointer none))=>some true
 |1,.mp _=>some false
 |1,.c (.No _)=>some false
 |1,.c (.lit (.map none))=>some true
 |2,.fn ..=>some false
 |2,.c (.fn ..)=>some false
 |2,.c (.lit .nilFunc)=>some true
 |3,.sl _ _ (_+1) _ _=>some false
 |3,.c (.cJ true _)=>some false
 |3,.c (.lit (.slice none 0 0))=>some true
 |_,_=>none
def gp:TypeDesc->Bool
 |.int _=>true
 |_=>false
def lI(P:Program)(op:Op)(ty:TypeId):Option kN:=
 match op with
 |.move x | .assign x=>(cf x).map .AO
 |.pick c a b=>do some (.pick (<-cf c) (<-cf a) (<-cf b))
 |.alloc t=>(VU P t).map .alloc
 |.box _ x=>(cf x).map .box
 |.build t d => do
  let z <-VU P t
  match <-P.underlying t with
  |.struct g => do
   let ps <-Ks P g
   some (.build z (<-d.toList.mapM λ(i,x)=>do let (o,n) <-ps[i]?;some (o,n,<-cf x)))
  |.array _ e => do
   let n <-bP P e
   some (.build z (<-d.toList.mapM λ(i,x)=>do some (i * n,n,<-cf x)))
  |_=>none
 |.buildSlice t len d => do
  match <-P.underlying t with
  |.slice e => do
   let n <-bP P e
   let z <-VU P e
   if n=0\/z.length≠n\/len * n > 2 ^ 20 then none else
   some (.jh n len z (<-d.toList.mapM λ(i,x)=>do some (i * n,n,<-cf x)))
  |_=>none
 |.load t a=>do some (.load (<-Fc P t) (<-cf a))
 |.store t a x=>do some (.store (<-bP P t) (<-cf a) (<-cf x))
 |.nilCheck x=>(cf x).map .mM
 |.binOp o t x y _=>
  match (P.underlying t).bind zG with
  |some k=>
   match o with
   |.eql=>vH k false x y
   |.neq=>vH k true x y
   |_=>none
  |none=>some (.gen op ty)
 |.unOp ..=>some (.gen op ty)
 |.convert ..=>some (.gen op ty)
 |.makeFunc f first cap=>do some (.Ea f (<-Kk first) (<-Kk cap))
 |.makeMap _ none=>some .uC
 |.makeSlice t l c => do
  match <-P.underlying t with
  |.slice e => do
   let n <-bP P e
   let z <-VU P e
   let i <-P.info? e
   if n=0\/z.length≠n then none else some (.mk n i.bytes (z.map CG) (<-cf l) (<-cf c))
  |_=>none
 |.slice t x j hi none => do
  match <-P.underlying t with
  |.slice e=>do some (.VT (<-bP P e) (<-cf x) (<-FO j) (<-FO hi))
  |.string=>some (.gen op ty)
  |.array m e => match j, hi with
   |none, none => do
    let k <-bP P e
    let q <-cf x
    if k=1 then some (.DM m q) else none
   |_,_=>none
  |_=>none
 |.slice t x (some j) (some hi) (some r) => do
  match <-P.underlying t with
  |.slice e=>do some (.VH (<-bP P e) (<-cf x) (<-cf j) (<-cf hi) (<-cf r))
  |_=>none
 |.fieldAddr s x f => do
  match <-P.underlying s with
  |.struct g => do
   let fd <-g[f]?
   let n <-bP P fd.type
   if n=0 then none else some (.HW fd.offset (<-cf x))
  |_=>none
 |.field t x f => do
  match <-P.underlying t with
  |.struct g => do
   let fd <-g[f]?
   some (.part fd.offset (<-Fc P fd.type) (<-cf x))
  |_=>none
 |.indexAddr t x i => do
  match <-P.underlying t with
  |.slice e => do
   let n <-bP P e
   if n=0 then none else some (.idx n none (<-cf x) (<-cf i))
  |.array len e => do
   let n <-bP P e
   if n=0 then none else some (.idx n (some len) (<-cf x) (<-cf i))
  |_=>none
 |.index t x i => do
  match <-P.underlying t with
  |.array len e=>do some (.Cx (<-bP P e) len (<-Fc P e) (<-cf x) (<-cf i))
  |.string=>some (.gen op ty)
  |_=>none
 |.lookup t m k ok => do
  match <-P.underlying t with
  |.map p e => do
   let h <-P.underlying p
   if gp h then some (.lookup h (<-zeroOf P e) (<-cf m) (<-cf k) ok) else none
  |_=>none
 |.mapUpdate t m k x | .insert t m k x => do
  match <-P.underlying t with
  |.map p _ => do
   let h <-P.underlying p
   if gp h then some (.yg h (<-cf m) (<-cf k) (<-cf x)) else none
  |_=>none
 |.extract x i=>do some (.extract (<-cf x) i)
 |.call { callee:=.value f,args,.. }=>do some (.call (<-cf f) (<-Kk args))
 |.call { callee := .builtin .len, args, argTypes } => do
  let t <-argTypes[0]?
  let x <-args[0]?
  if args.size≠1 then none else
  match <-P.underlying t with
  |.slice _=>(cf x).map .len
  |.map _ _=>(cf x).map .Zu
  |.array n _=>some (.AO (.k (.c (.lit (.int .i64 n)))))
  |.string=>some (.gen op ty)
  |_=>none
 |.call { callee := .builtin .append, args, argTypes } => do
  let t <-argTypes[0]?
  let t1 <-argTypes[1]?
  let s <-args[0]?
  let x <-args[1]?
  match <-P.underlying t,<-P.underlying t1 with
  |.slice e, .slice _ => do
   let n <-bP P e
   let i <-P.info? e
   let z <-VU P e
   if n=0\/z.length≠n then none else some (.append n i.bytes (<-cf s) (<-cf x))
  |_,_=>none
 |.call { callee:=.builtin .min,.. } | .call { callee:=.builtin .max,.. } | .call { callee:=.builtin .complex,.. }
 |.call { callee:=.builtin .real,.. } | .call { callee:=.builtin .imag,.. }=>some (.gen op ty)
 |_=>none
def AX:kN->Bool
 |.call ..=>true
 |_=>false
def XS:kN->Bool
 |.gen (.select ..) _=>true
 |_=>false
def cat:kN->Nat
 |.AO .. | .pick .. | .gen .. | .build .. | .mM .. | .iT .. | .HW .. | .idx .. | .VT .. | .VH .. | .DM .. | .len .. | .extract .. | .Ea .. | .part .. | .Cx ..=>0
 |.load ..=>1
 |.alloc .. | .box .. | .jh .. | .mk .. | .uC=>2
 |_=>3
def comp(P:Program)(op:Op)(ty:TypeId):Option kN:=
 match op with
 |.call { callee := .value f, args, .. }=>
  match cf f,Kk args with
  |some of,some os=>some (.call of os)
  |_,_=>none
 |_=>
  match lI P op ty with
  |some b=>if AX b || XS b then none else some b
  |none=>none
abbrev xg:=FuncId->List D->ar->Option (D×ar×List Nat)
def tO:D->Option Int
 |.c (.lit (.int _ n))=>some n
 |_=>none
def gP:D->Option Bool
 |.c (.lit (.bool b))=>some b
 |_=>none
def nO(P:Program)(op:Op)(ty:TypeId)(env:List D):Option D:=
 if op.operands.toList.all (λx=>(((cf x).map (aT.ev env)).bind D.cX).isSome) then
  match fE P (execOp (λx=>((((cf x).map (aT.ev env)).bind D.cX).getD undef)) { dst:=none,op:=op,type:=ty,pos:="",after:=#[],guard:=none }) with
  |some (.value v)=>some (dH v)
  |_=>none
 else none
def put(cs:List D)(off:Nat)(xs:List D):List D:=cs.take off++xs++cs.drop (off+xs.length)
def pN(env:List D):List D->List (Nat×Nat×aT)->Option (List D)
 |b,[]=>some b
 |b, (o, n, x) :: rest => do
  let xs <-(x.ev env).cells?
  if xs.length≠n\/o+n > b.length then none else pN env (put b o xs) rest
def nW(Y:ar)(b sz:Nat):Option (List D):=
 match Y[b]? with
 |some (.cells d)=>if d.length=sz then some d else none
 |_=>none
def uL(n:Option Nat)(cs:List D)(off:Nat):Option D:=
 match n with
 |none=>cs[off]?
 |some n=>if off+n<=cs.length then some (.agg ((cs.drop off).take n)) else none
def dJ(n:Nat)(z:List D):List D:=(List.replicate n z).flatten
def KK(Y:ar):D->Option Nat
 |.c (.lit (.slice none 0 0))=>some 0
 |.c (.cJ _ es)=>some es.length
 |.sl b _ len _ sz=>if (nW Y b sz).isSome then some len else none
 |_=>none
def zdL(Y:ar)(aB:Nat)(n:Nat):D->Option (List D)
 |.c (.lit (.slice none 0 0))=>if n=0 then some [] else none
 |.c (.cJ _ d)=>if n<=d.length/\d.all (λe=>e.length=aB) then some ((d.take n).flatten.map .c) else none
 |.sl b off len d sz => do
  let f <-nW Y b sz
  if d=aB/\n<=len/\off+len * aB<=sz then some ((f.drop off).take (n * aB)) else none
 |_=>none
def xM(kind:TypeDesc)(k:Value):List (Value×D×Nat)->Nat->Option (Option (Nat×D))
 |[],_=>some none
 |(b, d, _) :: es, i=>
  match Instr.sameNow kind k b with
  |some true=>some (some (i,d))
  |some false=>xM kind k es (i+1)
  |none=>none
def HI(Y:ar):D->Option (List (Value×D×Nat))
 |.c (.lit (.map none))=>some []
 |.c (.No es)=>some (es.map λp=>(p.1,.c p.2,0))
 |.mp b => match Y[b]? with
  |some (.map es _)=>some es
  |_=>none
 |_=>none
def Ow(zero:D):Option (Nat×D)->D×Bool
 |some (_,d)=>(d,true)
 |none=>(zero,false)
def BU(i:Int)(n:Nat):Option Nat:=if 0<=i/\i<n then some i.toNat else none
def Sr(i:Int)(n:Nat):Option Nat:=if 0<=i/\i<=n then some i.toNat else none
def oq(env:List D)(b d:Nat):Option aT->Option Nat
 |none=>some b
 |some x=>(tO (x.ev env)).bind λi=>Sr i d
def Fy(n b:Nat):Bool:=(n * b<=2 ^ 40&&n<=2 ^ 40)&&b<=2 ^ 20
def bx(P:Program)(orc:xg)(o:kN)(env:List D)(Y:ar):Option (D×ar×List Nat):=
 match o with
 |.AO x=>some (x.ev env,Y,[])
 |.pick c a b=>(gP (c.ev env)).map λt=>(if t then a.ev env else b.ev env,Y,[])
 |.gen op ty=>(nO P op ty env).map λd=>(d,Y,[])
 |.box x=>((x.ev env).cells?).map λj=>(.ptr Y.length 0 j.length,Y++[.cells j],[])
 |.alloc z=>some (.ptr Y.length 0 z.length,Y++[.cells z],[])
 |.build z E=>(pN env z E).map λj=>(.agg j,Y,[])
 |.jh aB len z E=>(pN env (dJ len z) E).map λj=>(.sl Y.length 0 len aB j.length,Y++[.cells j],[])
 |.load n a=>
  match a.ev env with
  |.ptr b off sz=>do some (<-uL n (<-nW Y b sz) off,Y,[])
  |.c (.cD j off)=>do some (<-uL n (j.map .c) off,Y,[])
  |_=>none
 |.store n a x=>
  match a.ev env with
  |.ptr b off sz => do
   let j <-nW Y b sz
   let xs <-(x.ev env).cells?
   if xs.length=n/\off+n<=sz then some (.aV [],Y.set b (.cells (put j off xs)),[b]) else none
  |_=>none
 |.mM x=>
  match x.ev env with
  |.ptr b off sz=>some (.ptr b off sz,Y,[])
  |.c (.cD j off)=>some (.c (.cD j off),Y,[])
  |.c (.fn (.func f) first cap)=>some (.c (.fn (.func f) first cap),Y,[])
  |.fn (.func f) first cap=>some (.fn (.func f) first cap,Y,[])
  |_=>none
 |.iT k F x=>(isNil k (x.ev env)).map λb=>(.c (.lit (.bool (if F then !b else b))),Y,[])
 |.HW off x=>
  match x.ev env with
  |.ptr b o sz=>some (.ptr b (o+off) sz,Y,[])
  |.c (.cD j o)=>some (.c (.cD j (o+off)),Y,[])
  |_=>none
 |.idx aB none x i => do
  let i <-tO (i.ev env)
  match x.ev env with
  |.sl b off len p sz => do
   let _ <-nW Y b sz
   let k <-BU i len
   if p=aB then some (.ptr b (off+k * aB) sz,Y,[]) else none
  |.c (.cJ _ p) => do
   let k <-BU i p.length
   let e <-p[k]?
   if e.length=aB then some (.c (.cD e 0),Y,[]) else none
  |_=>none
 |.idx aB (some len) x i => do
  let i <-tO (i.ev env)
  let k <-BU i len
  match x.ev env with
  |.ptr b off sz=>some (.ptr b (off+k * aB) sz,Y,[])
  |.c (.cD j off)=>some (.c (.cD j (off+k * aB)),Y,[])
  |.c (.We g) => match Gl.tab g with
   |[]=>none
   |v::K=>some (.c (.cD ((v::K).map .lit) (k * aB)),Y,[])
  |_=>none
 |.VT aB x y hi=>
  match x.ev env with
  |.c (.lit (.slice none 0 0)) => do
   let h <-oq env 0 0 hi
   let _ <-oq env 0 h y
   some (.c (.lit (.slice none 0 0)),Y,[])
  |.c (.cJ nn p) => do
   let h <-oq env p.length p.length hi
   let l <-oq env 0 h y
   if p.all (λe=>e.length=aB) then some (.c (.cJ nn ((p.take h).drop l)),Y,[]) else none
  |.sl b off len p sz => do
   let _ <-nW Y b sz
   let h <-(oq env len len hi).orElse λ_=>oq env len ((sz-off) / p) hi
   let l <-oq env 0 h y
   if p=aB then some (.sl b (off+l * aB) (h-l) aB sz,Y,[]) else none
  |_=>none
 |.len x=>(KK Y (x.ev env)).map λ(n:Nat)=>(.c (.lit (.int .i64 (Int.ofNat n))),Y,[])
 |.Zu x=>(HI Y (x.ev env)).map λp=>(.c (.lit (.int .i64 (Int.ofNat p.length))),Y,[])
 |.mk aB q z l c => do
  let l <-tO (l.ev env)
  let c <-tO (c.ev env)
  if 0<=l/\l<=c/\Fy c.toNat q then some (.sl Y.length 0 l.toNat aB (l.toNat * aB),Y++[.cells (dJ l.toNat z)],[]) else none
 |.uC=>some (.mp Y.length,Y++[.map [] 0],[])
 |.lookup u zero m k ok => do
  let A <-kR (k.ev env)
  let p <-HI Y (m.ev env)
  let r <-xM u A p 0
  some (if ok then .aV [(Ow zero r).1,.c (.lit (.bool (Ow zero r).2))] else (Ow zero r).1,Y,[])
 |.yg u m k x => do
  let A <-kR (k.ev env)
  match m.ev env with
  |.mp b => match Y[b]? with
   |some (.map p clock) => do
    match <-xM u A p 0 with
    |some (i,_)=>some (.aV [],Y.set b (.map (p.modify i λ(k,_,n)=>(k,x.ev env,n)) clock),[b])
    |none=>some (.aV [],Y.set b (.map (p++[(A,x.ev env,clock)]) (clock+1)),[b])
   |_=>none
  |_=>none
 |.extract x i=>
  match x.ev env with
  |.aV ds=>(ds[i]?).map λd=>(d,Y,[])
  |_=>none
 |.Ea f first cap=>some (.fn f (first.map (aT.ev env)) (cap.map (aT.ev env)),Y,[])
 |.part off n x=>
  match x.ev env with
  |.agg j=>(uL n j off).map λd=>(d,Y,[])
  |_=>none
 |.Cx aB len n x i => do
  let i <-tO (i.ev env)
  let k <-BU i len
  match x.ev env with
  |.agg j=>(uL n j (k * aB)).map λd=>(d,Y,[])
  |_=>none
 |.append aB q s x => do
  let G:=x.ev env
  let n <-KK Y G
  let new <-zdL Y aB n G
  match s.ev env with
  |.c (.lit (.slice none 0 0))=>if Fy n q then some (.sl Y.length 0 n aB (n * aB),Y++[.cells new],[]) else none
  |.sl b off len p sz => do
   let j <-nW Y b sz
   if p=aB/\off=0/\len * aB=sz/\Fy (len+n) q then
    if n=0 then some (.sl b 0 len aB sz,Y,[b])
    else some (.sl b 0 (len+n) aB (sz+n * aB),Y.set b (.cells (j++new)),[b])
   else if p=aB/\off=0/\(len+n) * aB<=sz/\Fy (len+n) q then
    if n=0 then some (.sl b 0 len aB sz,Y,[b])
    else some (.sl b 0 (len+n) aB sz,Y.set b (.cells (put j (len * aB) new)),[b])
   else none
  |_=>none
 |.DM m x=>
  match x.ev env with
  |.c (.cD j off)=>if off+m<=j.length then some (.c (.cJ false (((j.drop off).take m).map λc=>[c])),Y,[]) else none
  |_=>none
 |.VH aB x y hi L=>
  match x.ev env with
  |.sl b _ len p sz => do
   let _ <-nW Y b sz
   let m <-(tO (L.ev env)).bind λi=>Sr i len
   let h <-(tO (hi.ev env)).bind λi=>Sr i len
   let _ <-(tO (y.ev env)).bind λi=>Sr i h
   if m=len/\p=aB then some (.any,Y,[]) else none
  |_=>none
 |.del .. | .clr .. | .copy ..=>none
 |.call f args=>
  match f.ev env with
  |.c (.fn (.func g) first cap)=>orc g (first.map .c++args.map (aT.ev env)++cap.map .c) Y
  |.fn (.func g) first cap=>orc g (first++args.map (aT.ev env)++cap) Y
  |_=>none
section
variable{Y Y':ar}{M M':Nat->Option Nat}{Fz Fz':Nat->Prop}{w w':World}
def Rel.lt(R:Rel Y M Fz w){b c:Nat}(h:M b=some c):b<Y.length/\c<w.heap.size:=by
 obtain ⟨_,i,o,j,s,_⟩:=R.blk b c h
 grind
def VC.heap(i:w'.heap=w.heap){x:C}{v:Value}(h:VC Fz w x v):VC Fz w' x v:=h.mono λc j=>⟨j,by rw[i]⟩
def bF.heap(R:Rel Y M Fz w)(j:w'.heap=w.heap)(o:w'.os=w.os/\w'.tape=w.tape/\w'.output=w.output):bF Y M Fz w Y M Fz w':={
 size:=by simp_all
 frame:=λ_ _ _=>by rw[j]
 lP:=λb c h=>.inl ⟨b,h⟩
 fz:=λc h=>⟨h,by rw[j]⟩
 nF:=λc h=>.inl h
 qe:=λc i T u h=>⟨i,by simp_all,rfl⟩
 keep:=λb s h=>⟨s,h,cP _,λ_=>rfl⟩
 out:=o }
def Rel.heap(R:Rel Y M Fz w)(i:w'.heap=w.heap)(j:w'.os=w.os/\w'.tape=w.tape/\w'.output=w.output):Rel Y M Fz w':={
 blk:=λb c h=>by obtain ⟨s,ob,o,h1,h2,u⟩:=R.blk b c h;exact ⟨s,ob,o,h1,by simp_all,u.mono (bF.heap R i j)⟩
 inj:=R.inj
 fz:=λc h=>by rw[i];exact R.fz c h
 gl:=Gl.mono (bF.heap R i j).fz R.gl }
def wV(M:Nat->Option Nat)(b c:Nat):Nat->Option Nat:=λx=>if x=b then some c else M x
theorem bF.alloc(i:∀c,Fz c->c<w.heap.size)(ob:Ob)(o:Obj):bF Y M Fz w (Y++[ob]) (wV M Y.length w.heap.size) Fz (w.alloc o):={
 size:=by simp
 frame:=λc u _=>yBY w o c u
 lP:=λb c h=>by grind [wV]
 fz:=λc h=>⟨h,yBY w o c (i c h)⟩
 nF:=λc h=>.inl h
 qe:=λc j T x h=>⟨j,by grind [Go.heap_alloc_old],rfl⟩
 keep:=λb s h=>by
  have hb:=(fq.1 h).1;refine ⟨s,by grind,cP _,λ_=>?_⟩;unfold wV
  grind
 out:=⟨rfl,rfl,rfl⟩ }
theorem Rel.alloc(R:Rel Y M Fz w)(ob:Ob)(o:Obj)(h:ca (Y++[ob]) (wV M Y.length w.heap.size) Fz (w.alloc o) ob o) :
  Rel (Y++[ob]) (wV M Y.length w.heap.size) Fz (w.alloc o):={
 blk:=λb c i=>by
  unfold wV at i;split at i
  ·rename_i hb;subst hb;simp only[au] at i;subst i;exact ⟨λs=>by have:=R.fz _ s;omega,ob,o,by simp,heap_alloc_new w o,h⟩
  ·obtain ⟨s,u,x,h1,h2,z⟩:=R.blk b c i;have hl:=R.lt i;exact ⟨s,u,x,by grind,by grind [Go.heap_alloc_old],z.mono (bF.alloc R.fz ob o)⟩
 inj:=λb A c h j=>by
  unfold wV at h j;split at h <;> split at j
  ·omega
  ·simp only[au] at h;have:=(R.lt j).2;omega
  ·simp only[au] at j;have:=(R.lt h).2;omega
  ·exact R.inj b A c h j
 fz:=λc h=>by have:=R.fz c h;simp;omega
 gl:=Gl.mono (bF.alloc (Y:=Y) (M:=M) R.fz ob o).fz R.gl }
def cQ(w:World)(c:Nat)(o:Obj):World:={ w with heap:=w.heap.setIfInBounds c o }
theorem eU{c:Nat}{o:Obj}(h:c<w.heap.size):(cQ w c o).heap[c]? = some o:=by simp[cQ,h]
theorem fZ{c k:Nat}{o:Obj}(h:k≠c):(cQ w c o).heap[k]? = w.heap[k]?:=by grind [cQ]
@[simp] theorem setO_size{c:Nat}{o:Obj}:(cQ w c o).heap.size=w.heap.size:=by simp[cQ]
theorem bF.yg(R:Rel Y M Fz w){b c:Nat}(x:M b=some c){ob ob':Ob}{o o':Obj}(hb:Y[b]? = some ob)(A:w.heap[c]? = some o)(hs:ob.sz<=ob'.sz)
  (s:∀arr T j,o=.cells arr T j->∃i,o'=.cells i T j/\i.size=arr.size):bF Y M Fz w (Y.set b ob') M Fz (cQ w c o'):={
 size:=by simp
 frame:=λk hk z=>fZ (λh=>z b (by grind))
 lP:=λb c h=>.inl ⟨b,h⟩
 fz:=λk h=>⟨h,fZ (λe=>(R.blk b c x).1 (e▸h))⟩
 nF:=λc h=>.inl h
 qe:=λk arr T j h=>by grind [eU,fZ]
 keep:=λk u h=>by grind
 out:=⟨rfl,rfl,rfl⟩ }
def Rel.yg(R:Rel Y M Fz w){b c:Nat}(s:M b=some c){ob ob':Ob}{o o':Obj}(hb:Y[b]? = some ob)(z:w.heap[c]? = some o)(hs:ob.sz<=ob'.sz)
  (i:∀arr T A,o=.cells arr T A->∃j,o'=.cells j T A/\j.size=arr.size)
  (h:ca (Y.set b ob') M Fz (cQ w c o') ob' o'):Rel (Y.set b ob') M Fz (cQ w c o'):={
 blk:=λu c1 E=>by
  obtain ⟨F,x,G,h2,h3,K⟩:=R.blk u c1 E;by_cases e:u=b
  ·subst e;have:c1=c:=by simp_all
   grind [eU]
  ·refine ⟨F,x,G,by grind,?_,K.mono (bF.yg R s hb z hs i)⟩;rw[fZ (λO:c1=c=>e (R.inj u b c (by simp_all) s))];exact h3
 inj:=R.inj
 fz:=λc h=>by simp;exact R.fz c h
 gl:=Gl.mono (bF.yg R s hb z hs i).fz R.gl }
def bF.move(R:Rel Y M Fz w){b:Nat}{ob ob':Ob}{o':Obj}(hb:Y[b]? = some ob)(hs:ob.sz<ob'.sz) :
  bF Y M Fz w (Y.set b ob') (wV M b w.heap.size) Fz (w.alloc o'):={
 size:=by simp
 frame:=λc o _=>yBY w o' c o
 lP:=λb c h=>by grind [wV]
 fz:=λc h=>⟨h,yBY w o' c (R.fz c h)⟩
 nF:=λc h=>.inl h
 qe:=λc j T s h=>⟨j,by grind [Go.heap_alloc_old],rfl⟩
 keep:=λk i h=>by
  by_cases e:k=b
  ·grind
  ·refine ⟨i,by grind,cP _,λ_=>?_⟩;unfold wV
   simp_all
 out:=⟨rfl,rfl,rfl⟩ }
def Rel.move(R:Rel Y M Fz w){b:Nat}{ob ob':Ob}{o':Obj}(hb:Y[b]? = some ob)(hs:ob.sz<ob'.sz)
  (h:ca (Y.set b ob') (wV M b w.heap.size) Fz (w.alloc o') ob' o'):Rel (Y.set b ob') (wV M b w.heap.size) Fz (w.alloc o'):={
 blk:=λj c1 i=>by
  unfold wV at i;split at i
  ·rename_i e;subst e;simp only[au] at i;subst i;exact ⟨λo=>by have:=R.fz _ o;omega,ob',o',by grind,heap_alloc_new w o',h⟩
  ·rename_i e;obtain ⟨o,s,u,h2,h3,x⟩:=R.blk j c1 i;exact ⟨o,s,u,by grind,by grind [Go.heap_alloc_old],x.mono (bF.move R hb hs)⟩
 inj:=λj z c i h2=>by
  unfold wV at i h2;split at i <;> split at h2
  ·omega
  ·simp only[au] at i;have:=(R.lt h2).2;omega
  ·simp only[au] at h2;have:=(R.lt i).2;omega
  ·exact R.inj j z c i h2
 fz:=λc h=>by have:=R.fz c h;simp;omega
 gl:=Gl.mono (bF.move (o':=o') R hb hs).fz R.gl }
def cU(arr:Array Value)(off:Nat)(xs:List Value):Array Value:=(arr.toList.take off++xs++arr.toList.drop (off+xs.length)).toArray
theorem VR{arr:Array Value}{off:Nat}{xs:List Value}(h:off+xs.length<=arr.size):(cU arr off xs).size=arr.size:=by grind [cU]
theorem Bt{arr:Array Value}{off:Nat}{x:Value}{xs:List Value}(h:off+(xs.length+1)<=arr.size) :
  cU (arr.setIfInBounds off x) (off+1) xs=cU arr off (x::xs):=by
 apply Array.ext';simp only[cU,Array.toList_setIfInBounds,FA];apply VW;intro i;have b:arr.toList.length=arr.size:=by simp
 simp only[yB6,zJ,BZ,WD,b,FA]
 grind
def cL{arr:Array Value}{off:Nat}{xs:List Value}(h:off+xs.length<=arr.size)(i:Nat) :
  (cU arr off xs)[i]? = if off<=i/\i<off+xs.length then xs[i-off]? else arr[i]?:=by
 have b:arr.toList.length=arr.size:=by simp
 simp only[cU,List.getElem?_toArray,yB6,zJ,BZ,b]
 grind
def lO{cs xs:List D}{off:Nat}(h:off+xs.length<=cs.length)(i:Nat) :
  (put cs off xs)[i]? = if off<=i/\i<off+xs.length then xs[i-off]? else cs[i]?:=by
 simp only[put,yB6,zJ,BZ]
 grind
theorem fS{cs xs:List D}{off:Nat}(h:off+xs.length<=cs.length):(put cs off xs).length=cs.length:=by grind [put]
theorem eW(blk o i:Nat):(Addr.mk blk o none).add i=⟨blk,o+i,none⟩:=by grind [Go.Addr.add]
def Kh{c off:Nat}{arr:Array Value}{T:TypeId}{v:Value}(h:w.heap[c]? = some (.cells arr T (0,0))) :
  w.setCell ⟨c,off,none⟩ v=cQ w c (.cells (arr.setIfInBounds off v) T (0,0)):=by
 unfold World.setCell cQ;congr 1
 grind
def Hc{c:Nat}{o o':Obj}:cQ (cQ w c o) c o'=cQ w c o':=by simp[cQ]
theorem vd(P:Program)(T:TypeId)(c:Nat):∀(xs:List Value)(i off:Nat)(w:World)(arr:Array Value),
  w.heap[c]? = some (.cells arr T (0,0))->(∀x∈xs,x.oneCell'=true)->off+i+xs.length<=arr.size ->
  (storeCells ⟨c,off,none⟩ xs i).run P w=.ok () (if xs=[] then w else cQ w c (.cells (cU arr (off+i) xs) T (0,0))):=by
 intro xs;induction xs with
 |nil=>intro i off w arr _ _ _;simp[storeCells]
 |cons x xs ih=>
  intro i off w arr d f hl;simp only[FA] at hl;have e:=(CK.1 d).1;have b:w.cell? ⟨c,off+i,none⟩=some (arr[off+i]'(by omega)):=by
   rw[cell_of_row w c (off+i) arr T (0,0) d]
   simp_all
  simp only[storeCells,Sem.run_bind,eW];rw[run_store P w _ x _ (f x (by simp)),b];simp only[frozen_of_row w c (off+i) arr T d,b_,cw,Result.andThen_ok];rw[Kh d];have h:=ih (i+1) off (cQ w c (.cells (arr.setIfInBounds (off+i) x) T (0,0))) (arr.setIfInBounds (off+i) x) (eU e)
   (λy j=>f y (by simp[j])) (by grind)
  rw[h];simp only[List.cons_ne_nil,cw,reduceCtorEq];congr 1;by_cases g:xs=[]
  ·subst g;simp only[if_true];rw[<-Bt (by omega)];congr 2;apply Array.ext';simp[cU]
  ·rw[if_neg g,Hc,<-Bt (by omega)];rfl
end
end Go.Abs
end
section
namespace Go.Abs
variable[Gl]
def dB(Y:ar)(M:Nat->Option Nat)(Fz:Nat->Prop)(w:World)(env:List D)(b:Array Value):Prop:=
 b.size=env.length/\∀(i:Nat) d v,env[i]? = some d->b[i]? = some v->V Y M Fz w d v
def fy(P:Program)(s:Sem Next)(Y:ar)(M:Nat->Option Nat)(Fz:Nat->Prop)(w:World)(Y':ar)(d:D):Prop:=
 ∃b v w' M',s.run P w=.ok b w'/\(b=.value v\/b=.skip/\v=undef)/\Rel Y' M' Fz w'/\V Y' M' Fz w' d v/\bF Y M Fz w Y' M' Fz w'/\Y.length<=Y'.length
section
variable{P:Program}{Y Y':ar}{M M':Nat->Option Nat}{Fz:Nat->Prop}{w w':World}{env:List D}{a:Act}
theorem fy.same{s:Sem Next}{v:Value}{d:D}(R:Rel Y M Fz w)(i:s.run P w=.ok (.value v) w)(j:V Y M Fz w d v):fy P s Y M Fz w Y d:=
 ⟨_,v,w,M,i,.inl rfl,R,j,bF.refl R,cP _⟩
def Yields(P:Program)(s:Sem Next)(Y:ar)(M:Nat->Option Nat)(Fz:Nat->Prop)(w:World)(d:D):Prop:=∃v,s.run P w=.ok (.value v) w/\V Y M Fz w d v
def ai(P:Program)(s:Sem Next)(Y:ar)(M:Nat->Option Nat)(Fz:Nat->Prop)(w:World)(ob:Ob)(d:D):Prop:=
 ∃o v,s.run P w=.ok (.value v) (w.alloc o)/\ca (Y++[ob]) (wV M Y.length w.heap.size) Fz (w.alloc o) ob o/\V (Y++[ob]) (wV M Y.length w.heap.size) Fz (w.alloc o) d v
theorem Yields.same{s:Sem Next}{v:Value}{d:D}(i:s.run P w=.ok (.value v) w)(j:V Y M Fz w d v):Yields P s Y M Fz w d:=⟨v,i,j⟩
def Yields.gives{s:Sem Next}{d:D}(R:Rel Y M Fz w)(h:Yields P s Y M Fz w d):fy P s Y M Fz w Y d:=
 let ⟨_,i,j⟩:=h;fy.same R i j
def ai.gives{s:Sem Next}{d:D}{ob:Ob}(R:Rel Y M Fz w)(h:ai P s Y M Fz w ob d):fy P s Y M Fz w (Y++[ob]) d:=
 let ⟨o,v,i,j,u⟩:=h;⟨_,v,_,_,i,.inl rfl,R.alloc ob o j,u,bF.alloc R.fz ob o,by simp⟩
theorem V.dH(v:Value):V Y M Fz w (dH v) v:=by
  cases v <;> first
    | exact .c (.lit _)
    | (refine .agg _ (by simp) (fun i d v j o=>?_)
       simp only [lS,TJ,o,Cs,au] at j
       subst j
       exact .c (.lit _))
    | (refine .aV _ (by simp) (fun i d v j o=>?_)
       simp only [lS,TJ,o,Cs,au] at j
       subst j
       exact .c (.lit _))
theorem nE(E:dB Y M Fz w env a.tmps){x:Operand}{o:aT}(h:cf x=some o):V Y M Fz w (o.ev env) (a.eval x):=by
 cases x with
 |tmp t=>
  simp only[cf,au] at h;subst h;simp only[aT.ev,Act.eval];by_cases e:t<env.length
  ·have j:env[t]? = some env[t]:=dW e;have k:a.tmps[t]? = some (a.tmps[t]'(by rw[E.1];exact e)):=qB _;rw[j,OE,yBc,k,OE];exact E.2 t _ _ j k
  ·have b:env.length<=t:=Nat.le_of_not_lt e;rw[xAb b,yBc,Array.getElem?_eq_none (by rw[E.1];exact b)];exact .aV #[] rfl (λi d v h=>by simp at h)
 |const v=>simp only[cf,au] at h;subst h;exact V.dH v
 |global g=>simp only[cf,au] at h;subst h;exact .c (.We g)
 |func f=>simp only[cf,au] at h;subst h;exact .c (.fn #[] #[] rfl rfl (λi d v h=>by simp at h) (λi d v h=>by simp at h))
theorem V.ce{v i:Value}(h:V Y M Fz w (.c (.lit v)) i):i=v:=by
 cases h with
 |c h=>cases h;rfl
theorem Qg{ds:List D}{l:List Value}(h:ds.mapM kR=some l):ds.length=l.length/\∀(i:Nat) d,ds[i]? = some d->∃v,l[i]? = some v/\d=.c (.lit v):=by
 induction ds generalizing l with
 |nil=>simp_all
 |cons d ds ih=>
  simp only[US,yCf,eY,c_,au] at h;obtain ⟨v,e,g,hl,rfl⟩:=h;obtain ⟨f,j⟩:=ih hl;refine ⟨by simp[f],λi k b=>?_⟩;cases i with
  |zero=>
   simp only[xF,au] at b;subst b;cases d with
   |c x=>cases x <;> simp[kR] at e;simp_all
   |_=>grind [kR]
  |succ i=>simp_all
theorem V.val_inv{d:D}{v s:Value}(h:V Y M Fz w d s)(j:d.cX = some v):s=v:=by
 cases d with
 |c x=>cases x <;> simp[D.cX] at j;grind [V.ce]
 |agg ds=>
  simp only[D.cX,cC] at j;obtain ⟨l,hl,rfl⟩:=j;obtain ⟨O,G⟩:=Qg hl;cases h with
  |agg z hs o=>
   congr 1;apply Array.ext';apply VW;intro i;simp only[TJ];by_cases hi:i<ds.length
   ·have A:ds[i]? = some ds[i]:=dW hi;have E:z[i]? = some (z[i]'(by omega)):=qB _;obtain ⟨u,Q,K⟩:=G i _ A;have F:=o i _ _ A E;rw[K] at F;rw[E,F.ce]
    simp_all
   simp_all
 |_=>grind [D.cX]
def YS(E:dB Y M Fz w env a.tmps){o:Oper}{x:Operand}{d:aT}(b:o.op=.move x\/o.op=.assign x)(e:cf x=some d) :
  Yields P (execOp a.eval o) Y M Fz w (d.ev env):=by
 refine Yields.same (v:=a.eval x) ?_ (nE E e);rcases b with b | b <;> simp[execOp,b]
theorem oA{d:D}{v:Value}{t:Bool}(h:V Y M Fz w d v)(b:gP d=some t):v=.bool t:=by
 cases d with
 |c x=>
  cases x with
  |lit u=>
   cases u <;> simp[gP] at b
   grind [V.ce]
  |_=>grind [gP]
 |_=>grind [gP]
theorem ja{d:D}{v:Value}{n:Int}(h:V Y M Fz w d v)(b:tO d=some n):∃k,v=.int k n:=by
 cases d with
 |c x=>
  cases x with
  |lit u=>
   cases u <;> simp[tO] at b
   grind [V.ce]
  |_=>grind [tO]
 |_=>grind [tO]
def pick_ok(E:dB Y M Fz w env a.tmps){o:Oper}{c x y:Operand}{b d e:aT}{t:Bool}(f:o.op=.pick c x y)
  (g:cf c=some b) (i:cf x=some d) (j:cf y=some e) (h:gP (b.ev env)=some t) :
  Yields P (execOp a.eval o) Y M Fz w (if t then d.ev env else e.ev env):=by
 refine Yields.same (v:=if t then a.eval x else a.eval y) ?_ ?_
 ·simp[execOp,f,oA (nE E g) h,asBool]
 grind [nE]
def kE(E:dB Y M Fz w env a.tmps){o:Oper}{d:D}(e:∀cs b,o.op≠.select cs b)(h:nO P o.op o.type env=some d) :
  Yields P (execOp a.eval o) Y M Fz w d:=by
 unfold nO at h;split at h
 ·rename_i f;generalize j:(λx=>((((cf x).map (aT.ev env)).bind D.cX).getD undef))=ρ at h;have k:execOp a.eval o=execOp ρ o:=by
   refine execOp_congr o e (λx n=>?_);have g:=(iK.1 f) x (by simp_all);rw[<-j];cases i:cf x with
   |none=>simp_all
   |some p=>simp only[i,Cs,aw] at g ⊢;obtain ⟨v,m⟩:=yBr.1 g;rw[m,OE];exact (nE E i).val_inv m
  have l:execOp ρ o=execOp ρ { dst:=none,op:=o.op,type:=o.type,pos:="",after:=#[],guard:=none }:=rfl
  grind [Yields.same,V.dH,Qb]
 simp_all
theorem V.one{d:D}{v:Value}(h:V Y M Fz w d v)(hs:d.scalar=true):v.oneCell'=true/\v.cells=#[v]:=by
 cases h with
 |c h=>
  cases h with
  |lit v=>simp only[D.scalar] at hs;cases v <;> first | exact ⟨rfl,rfl⟩ | simp[Value.oneCell'] at hs
  |_=>exact ⟨rfl,rfl⟩
 |any v=>grind [D.scalar]
 |agg=>grind [D.scalar]
 |aV=>grind [D.scalar]
 |_=>exact ⟨rfl,rfl⟩
theorem V.cells{d:D}{v:Value}{cs:List D}(h:V Y M Fz w d v)(j:d.cells? = some cs) :
  v.cells.size=cs.length/\(∀(i:Nat) x u,cs[i]? = some x->v.cells[i]? = some u->V Y M Fz w x u)/\(∀u∈v.cells.toList,u.oneCell'=true)/\(∀x∈cs,x.scalar=true):=by
 have s:d.scalar=true->d.cells? = some [d]->v.cells.size=cs.length/\(∀(i:Nat) x u,cs[i]? = some x->v.cells[i]? = some u->V Y M Fz w x u)/\(∀u∈v.cells.toList,u.oneCell'=true)/\(∀x∈cs,x.scalar=true):=by
  intro hs z;rw[z] at j;simp only[au] at j;subst j;obtain ⟨Q,R⟩:=h.one hs
  grind
 cases d with
 |agg ds=>
  simp only[D.cells?] at j;split at j
  ·rename_i o;simp only[au] at j;subst j;cases h with
   |agg A z E=>refine ⟨z,E,λu F=>?_,λx G=>iK.1 o x G⟩;obtain ⟨i,hi,rfl⟩:=OA.1 F;simp only[Value.cells,yBl] at hi;have K:ds[i]? = some (ds[i]'(by omega)):=dW _;have O:A[i]? = some A[i]:=qB _;exact ((E i _ _ K O).one (iK.1 o _ (bA _))).1
  simp_all
 |_=>
  simp only[D.cells?] at j;split at j
  ·rename_i hs;exact s hs (by simp only[D.cells?,hs,if_true])
  simp_all
def yr{arr:Array Value}{i:Nat}{u:Value}(h:arr[i]? = some u):u∈arr.toList:=by grind
def qz(b:∀c,Fz c->c<w.heap.size){cs:List D}{arr:Array Value}(T:TypeId)(hs:cs.length≤arr.size)
  (e:∀(i:Nat) x u,cs[i]? = some x->arr[i]? = some u->V Y M Fz w x u/\u.oneCell'=true) :
  (newRow T arr).run P w=.ok ⟨w.heap.size,0,none⟩ (w.alloc (.cells arr T)) /\
   ca (Y++[.cells cs]) (wV M Y.length w.heap.size) Fz (w.alloc (.cells arr T)) (.cells cs) (.cells arr T):=
 ⟨rfl,arr,T,rfl,hs,fun i d v f g=>⟨(e i d v f g).1.mono (bF.alloc b _ _),(e i d v f g).2⟩⟩
def V.Z_(cs:List D)(o:Obj):V (Y++[.cells cs]) (wV M Y.length w.heap.size) Fz (w.alloc o) (.ptr Y.length 0 cs.length) (.pointer (some ⟨w.heap.size,0,none⟩)):=
 .ptr _ (.cells cs) (by simp) (by simp[Ob.sz]) (λ_=>⟨w.heap.size,by simp[wV],rfl⟩)
def box_ok(b:∀c,Fz c->c<w.heap.size)(E:dB Y M Fz w env a.tmps){o:Oper}{t:TypeId}{x:Operand}{e:aT}{cs:List D}(g:o.op=.box t x)(d:cf x=some e)
  (h:(e.ev env).cells? = some cs):ai P (execOp a.eval o) Y M Fz w (.cells cs) (.ptr Y.length 0 cs.length):=by
 obtain ⟨n,j,k,_⟩:=(nE E d).cells h;obtain ⟨l,m⟩:=qz (P:=P) b t (by omega) (λi x u d f=>⟨j i x u d f,k u (yr f)⟩);exact ⟨_,_,by simp[execOp,g,Instr.box,newVar,l],m,V.Z_ cs _⟩
def zed{t:TypeId}{z:List D}(h:VU P t=some z):∃i v,P.info? t=some i/\i.zero=some v/\(dH v).cells? = some z:=by grind [VU,zeroOf,Option.bind_eq_some_iff]
theorem zds{t:TypeId}{i:TypeInfo}(h:P.info? t=some i)(w:World):(typeInfo t).run P w=.ok i w:=by simp[typeInfo,h]
theorem jT{t:TypeId}{i:TypeInfo}{v:Value}(h:P.info? t=some i)(b:i.zero=some v)(w:World):(zeroValue t).run P w=.ok v w:=by simp[zeroValue,zds h,b]
theorem Qe{t:TypeId}{n:Nat}(h:bP P t=some n)(w:World):(sizeOf t).run P w=.ok n w:=by simp only[bP,cC] at h;obtain ⟨i,hi,rfl⟩:=h;simp[sizeOf,zds hi]
theorem uX{t:TypeId}{d:TypeDesc}(h:P.underlying t=some d)(w:World):(underlying t).run P w=.ok d w:=by simp[underlying,h]
def Zl(b:∀c,Fz c->c<w.heap.size){o:Oper}{t:TypeId}{z:List D}(e:o.op=.alloc t)(f:VU P t=some z) :
  ai P (execOp a.eval o) Y M Fz w (.cells z) (.ptr Y.length 0 z.length):=by
 obtain ⟨i,v,hi,g,h⟩:=zed f;obtain ⟨p,j,k,_⟩:=(V.dH (Y:=Y) (M:=M) (Fz:=Fz) (w:=w) v).cells h;obtain ⟨l,m⟩:=qz (P:=P) b t (by omega) (λi x u n d=>⟨j i x u n d,k u (yr d)⟩);exact ⟨_,_,by simp[execOp,e,Instr.alloc,jT hi g,newVar,l],m,V.Z_ z _⟩
def Qv{b sz:Nat}{cs:List D}(h:nW Y b sz=some cs):Y[b]? = some (.cells cs)/\cs.length=sz:=by grind [nW]
theorem V.vM{b off sz:Nat}{v:Value}{cs:List D}(h:V Y M Fz w (.ptr b off sz) v)(i:nW Y b sz=some cs):∃c,M b=some c/\v=.pointer (some ⟨c,off,none⟩):=by
 obtain ⟨j,o⟩:=Qv i;cases h with
 |ptr x z hb s u=>
  rw[j] at hb;simp only[au] at hb;subst hb;obtain ⟨c,A,E⟩:=u o
  simp_all
def Rel.row(R:Rel Y M Fz w){b c:Nat}{cs:List D}(s:M b=some c)(hb:Y[b]? = some (.cells cs)) :
  ∃arr T,w.heap[c]? = some (.cells arr T (0,0))/\cs.length<=arr.size/\∀(i:Nat) d v,cs[i]? = some d->arr[i]? = some v->V Y M Fz w d v/\v.oneCell'=true:=by
 obtain ⟨_,x,o,j,z,u⟩:=R.blk b c s;rw[hb] at j;simp only[au] at j;subst j;obtain ⟨arr,T,rfl,hl,A⟩:=u
 grind
theorem za{t:TypeId}{n:Option Nat}{cs:List D}{blk g off:Nat}{d:D}(h:Fc P t=some n)(k:uL n cs off=some d)
  (b:∀(i:Nat) x,cs[i]? = some x->∃u,w.cell? ⟨blk,g+i,none⟩=some u/\V Y M Fz w x u) :
  ∃v,(loadVar t ⟨blk,g+off,none⟩).run P w=.ok v w/\V Y M Fz w d v:=by
 unfold Fc at h;have agg:∀(i:TypeInfo),P.info? t=some i->n=some i.size->(isAgg t).run P w=.ok true w->∃v,(loadVar t ⟨blk,g+off,none⟩).run P w=.ok v w/\V Y M Fz w d v:=by
  intro i hi h e;subst h;simp only[uL] at k;split at k
  ·rename_i s;simp only[au] at k;subst k;have y:∀j,j<i.size->∃u,w.cell? ⟨blk,g+off+j,none⟩=some u/\∀x,cs[off+j]? = some x->V Y M Fz w x u:=by
    intro j A;obtain ⟨u,p,q⟩:=b (off+j) _ (dW (by omega))
    grind
   let f:Nat->Value:=λj=>(w.cell? ⟨blk,g+off+j,none⟩).getD undef
   have z:∀j,j<i.size->w.cell? ((Addr.mk blk (g+off) none).add j)=some (f j):=by grind [eW]
   have l:=run_loadCells (P:=P) (w:=w) ⟨blk,g+off,none⟩ i.size f z;refine ⟨.agg (List.map f (List.range i.size)).toArray,by simp only[loadVar,Sem.run_bind,e,Result.andThen_ok,if_true,sizeOf,zds hi,Sem.run_pure,l],?_⟩;refine .agg _ (by grind) (λj x v p q=>?_)
   grind
  simp_all
 have one:n=none->(isAgg t).run P w=.ok false w->∃v,(loadVar t ⟨blk,g+off,none⟩).run P w=.ok v w/\V Y M Fz w d v:=by intro h e;subst h;obtain ⟨u,p,q⟩:=b off d k;exact ⟨u,by simp only[loadVar,Sem.run_bind,e,Result.andThen_ok,b_,cw,run_load,p],q⟩
 cases hi:P.info? t with
 |none=>simp_all
 |some i=>
  cases r:P.underlying t with
  |none=>simp_all
  |some m=>
   rw[hi,r] at h;have o:(isAgg t).run P w=.ok (m matches .struct _ | .array _ _) w:=by simp only[isAgg,Sem.run_bind,uX r,Result.andThen_ok];cases m <;> rfl
   grind
def load_ok(E:dB Y M Fz w env a.tmps){o:Oper}{t:TypeId}{x:Operand}{q:aT}{n:Option Nat}{d:D}(A:o.op=.load t x)(L:cf x=some q)
  (F:Fc P t=some n) (N:∀b off sz c cs,q.ev env=.ptr b off sz->M b=some c->Y[b]? = some (.cells cs)->∃arr T,w.heap[c]? = some (.cells arr T (0,0))/\cs.length≤arr.size/\∀(i:Nat) d v,cs[i]? = some d->arr[i]? = some v->V Y M Fz w d v/\v.oneCell'=true)
  (h:(match q.ev env with
   | .ptr b off sz=>do some (←uL n (←nW Y b sz) off,Y,([]:List Nat))
   | .c (.cD cs off)=>do some (←uL n (cs.map .c) off,Y,[])
   | _=>none)=some (d,Y',[])):Y'=Y/\Yields P (execOp a.eval o) Y M Fz w d:=by
 have k:=nE E L
 split at h
 ·rename_i b off sz p
  rw [p] at k
  simp only [eY,c_,au,aU] at h
  obtain ⟨cs,G,O,r,rfl,rfl,_⟩:=h
  refine ⟨rfl,?_⟩
  obtain ⟨c,Q,l⟩:=k.vM G
  obtain ⟨hb,_⟩:=Qv G
  obtain ⟨arr,T,R,hl,s⟩:=N b off sz c cs p Q hb
  have f:∀(i:Nat) x,cs[i]? = some x->∃u,w.cell? ⟨c,0+i,none⟩=some u/\V Y M Fz w x u:=by
   intro i x j
   have hi:=(fq.1 j).1
   have e:arr[i]? = some (arr[i]'(by omega)):=qB _
   exact ⟨_,by rw [PL,cell_of_row w c i arr T (0,0) R]; exact e,(s i _ _ j e).1⟩
  obtain ⟨v,g,m⟩:=za (P:=P) F r f
  refine Yields.same (v:=v) ?_ m
  rw [PL] at g
  simp [execOp,A,Instr.loadAt,l,Instr.sureAddr,g]
 ·rename_i cs off p
  rw [p] at k
  simp only [eY,c_,au,aU] at h
  obtain ⟨O,r,rfl,rfl,_⟩:=h
  refine ⟨rfl,?_⟩
  cases k with
  | c k =>
   generalize l:a.eval x=W at k
   cases k with
   | cD blk S c X U z =>
    have f:∀(i:Nat) x,(cs.map D.c)[i]? = some x->∃u,w.cell? ⟨blk,S+i,none⟩=some u/\V Y M Fz w x u:=by
     intro i x j
     simp only [lS,cC] at j
     obtain ⟨y,K,rfl⟩:=j
     exact ⟨_,(U i y K).1,.c (z i y K)⟩
    obtain ⟨v,g,m⟩:=za (P:=P) F r f
    refine Yields.same (v:=v) ?_ m
    simp [execOp,A,Instr.loadAt,l,Instr.sureAddr,g]
 simp_all
end
end Go.Abs
end
section
namespace Go.Abs
variable[Gl]
section
variable{P:Program}{Y Y':ar}{M M':Nat->Option Nat}{Fz:Nat->Prop}{w w':World}{env:List D}{a:Act}
theorem DO(off:Nat):∀(l:List Value)(k:Nat)(arr:Array Value),off+k+l.length<=arr.size ->
  (l.zipIdx k).foldl (λcs (p:Value×Nat)=>cs.setIfInBounds (off+p.2) p.1) arr=cU arr (off+k) l:=by
 intro l;induction l with
 |nil=>intro k arr _;apply Array.ext';simp[cU]
 |cons x l ih=>grind [List.zipIdx_cons,Bt]
def DC(Y:ar)(M:Nat->Option Nat)(Fz:Nat->Prop)(w:World)(cs:List D)(arr:Array Value):Prop:=
 arr.size=cs.length/\∀(i:Nat) x u,cs[i]? = some x->arr[i]? = some u->V Y M Fz w x u/\u.oneCell'=true
theorem DC.put{cs xs:List D}{arr:Array Value}{vs:List Value}{off:Nat}(h:DC Y M Fz w cs arr)(hl:vs.length=xs.length)(s:off+xs.length<=cs.length)
  (A:∀(i:Nat) x u,xs[i]? = some x->vs[i]? = some u->V Y M Fz w x u/\u.oneCell'=true):DC Y M Fz w (put cs off xs) (cU arr off vs):=by
 refine ⟨by rw[VR (by rw[h.1];omega),fS s,h.1],λi x u j o=>?_⟩;rw[lO s] at j;rw[cL (by rw[h.1];omega),hl] at o;split at j
 ·grind
 ·rename_i z;rw[if_neg z] at o;exact h.2 _ _ _ j o
def DC.vO{d:D}{v:Value}{cs:List D}(h:V Y M Fz w d v)(o:d.cells? = some cs):DC Y M Fz w cs v.cells:=by obtain ⟨s,z,A,_⟩:=h.cells o;exact ⟨s,λi x u E j=>⟨z i x u E j,A u (yr j)⟩⟩
theorem Te(E:dB Y M Fz w env a.tmps)(pl:Nat->Option (Nat×Nat)):∀(ps:List (Nat×Operand))(k:List (Nat×Nat×aT))(cs e:List D)(arr:Array Value),
  (ps.mapM λ(i,x)=>(pl i).bind λ(o,n)=>(cf x).bind λz=>some (o,n,z))=some k->DC Y M Fz w cs arr->pN env cs k=some e ->
  ∃b,Instr.fill pl arr (ps.map λ(i,x)=>(i,a.eval x))=some b/\DC Y M Fz w e b:=by
 intro ps;induction ps with
 |nil=>intro k cs e arr h j g;simp only[List.mapM_nil,yCf,au] at h;subst h;simp only[pN,au] at g;subst g;exact ⟨arr,rfl,j⟩
 |cons p ps ih=>
  intro k cs e arr h j g;obtain ⟨i,x⟩:=p;simp only[US,yCf,eY,c_,au] at h;obtain ⟨q,⟨⟨o,n⟩,l,z,m,rfl⟩,r,s,rfl⟩:=h;simp only[pN,eY,c_] at g;obtain ⟨K,t,g⟩:=g;split at g
  ·grind
  ·rename_i f;simp only[not_or,Un,Nat.not_lt] at f;obtain ⟨F,G⟩:=f;have d:=DC.vO (nE E m) t;obtain ⟨b,v,A⟩:=ih r _ e (cU arr o (a.eval x).cells.toList) s (j.put (by simp[d.1]) (by omega) (λi y u v A=>d.2 i y u v (by simp_all))) g;refine ⟨b,?_,A⟩;simp only[rS,Instr.fill,l];rw[if_neg (by simp[d.1,F,j.1];omega)];rw[<-v];congr 1;have:=DO o (a.eval x).cells.toList 0 arr (by simp[d.1,j.1];omega);rw[<-xAc]
   simp_all
theorem QZ{d:Array Field}{ps:List (Nat×Nat)}(h:Ks P d=some ps)(w:World) :
  (d.mapM λ(f:Field)=>(do pure (f.offset,<-sizeOf f.type):Sem (Nat×Nat))).run P w=.ok ps.toArray w:=by
 have e:∀(l:List Field)(ps:List (Nat×Nat)),(l.mapM λf=>(bP P f.type).map λn=>(f.offset,n))=some ps ->
   (l.mapM λf=>(do pure (f.offset,<-sizeOf f.type):Sem (Nat×Nat))).run P w=.ok ps w:=by
  intro l;induction l with
  |nil=>simp_all
  |cons f l ih=>intro ps h;simp only[US,yCf,eY,c_,cC,au] at h;obtain ⟨q,⟨n,g,rfl⟩,i,b,rfl⟩:=h;simp only[US,Sem.run_bind,Qe g,Result.andThen_ok,Sem.run_pure,ih i b]
 grind [Ks,Array.mapM_eq_mapM_toList,Go.Sem.run_map,Go.Result.andThen_ok]
def Og(E:dB Y M Fz w env a.tmps){o:Oper}{t:TypeId}{b:Array (Nat×Operand)}{z:List D}{h:List (Nat×Nat×aT)}{pl:Nat->Option (Nat×Nat)}{cs:List D}
  (p:o.op=.build t b) (s:VU P t=some z)
  (j:(∃k ps,P.underlying t=some (.struct k)/\Ks P k=some ps/\pl=(ps[·]?))\/(∃m e n,P.underlying t=some (.array m e)/\bP P e=some n/\pl=λi=>some (i * n,n)))
  (u:(b.toList.mapM λ(i,x)=>(pl i).bind λ(o,n)=>(cf x).bind λy=>some (o,n,y))=some h) (A:pN env z h=some cs) :
  Yields P (execOp a.eval o) Y M Fz w (.agg cs):=by
 obtain ⟨i,v,hi,q,F⟩:=zed s;have f:=DC.vO (V.dH (Y:=Y) (M:=M) (Fz:=Fz) (w:=w) v) F;obtain ⟨g,O,r⟩:=Te E pl b.toList h z cs v.cells u f A;refine Yields.same (v:=.agg g) ?_ (.agg g r.1 (λi d v G K=>(r.2 i d v G K).1));rcases j with ⟨k,ps,l,L,rfl⟩ | ⟨m,e,n,l,N,rfl⟩
 ·simp only[execOp,p,Instr.build,Sem.run_bind,jT hi q,Result.andThen_ok,uX l,QZ L]
  simp_all
 ·simp only[execOp,p,Instr.build,Sem.run_bind,jT hi q,Result.andThen_ok,uX l,Qe N]
  simp_all
theorem ri(n:Nat)(z:List D):(dJ n z).length=n * z.length:=by simp[dJ]
theorem Eo{z:List D}(b:z≠[]):∀(n i:Nat),i<n * z.length->(dJ n z)[i]? = z[i % z.length]?:=by
 intro n;have d:0<z.length:=TO.2 b;induction n with
 |zero=>omega
 |succ n ih=>
  intro i hi;have e:dJ (n+1) z=z++dJ n z:=by simp[dJ,List.replicate_succ]
  rw[e,yB6];split
  ·grind [Nat.mod_eq_of_lt]
  ·rename_i h;rw[ih (i-z.length) (by grind)];congr 1
   conv=>rhs;rw[show i=i-z.length+z.length from by omega]
   rw[Nat.add_mod_right]
def GO{z:List D}{v:Value}(b:DC Y M Fz w z v.cells)(g:z≠[])(n m:Nat)(d:n<=m) :
  n * z.length<=((Array.range (m * v.cells.size)).map (v.cells[· % v.cells.size]!)).size /\
  ∀(i:Nat) x u,(dJ n z)[i]? = some x->((Array.range (m * v.cells.size)).map (v.cells[· % v.cells.size]!))[i]? = some u->V Y M Fz w x u/\u.oneCell'=true:=by
 have j:0<z.length:=TO.2 g;refine ⟨by simp[b.1];exact HT _ d,λi x u e h=>?_⟩;have hi:=(fq.1 e).1;rw[ri] at hi;rw[Eo g n i hi] at e;have k:i % z.length<v.cells.size:=by rw[b.1];grind
 have f:i<m * v.cells.size:=by grind
 refine b.2 (i % z.length) x u e ?_;rw[Array.getElem?_map,Array.getElem?_range,if_pos f] at h;simp only[Cs,au,b.1] at h
 simp_all
def V.Yw{cs:List D}{arr:Array Value}{T:TypeId}{len aB cap:Nat}(i:len<=cap)(j:cap * aB<=arr.size)(hl:len * aB<=cs.length)(hs:cs.length<=cap * aB) :
  V (Y++[.cells cs]) (wV M Y.length w.heap.size) Fz (w.alloc (.cells arr T)) (.sl Y.length 0 len aB cs.length) (.slice (some ⟨w.heap.size,0,none⟩) len cap):=
 .sl _ _ _ (by simp) (.cells cs) (by simp) (by simp[Ob.sz]) (λ_=>.inr ⟨w.heap.size,0,arr,T,by simp[wV],rfl,rfl,⟨i,by omega⟩,.inl rfl,heap_alloc_new w _,by omega,by omega⟩)
def UH(q:∀c,Fz c->c<w.heap.size)(E:dB Y M Fz w env a.tmps){o:Oper}{t e:TypeId}{len n:Nat}{b:Array (Nat×Operand)}{z:List D}{r:List (Nat×Nat×aT)}{cs:List D}
  (N:o.op=.buildSlice t len b) (O:P.underlying t=some (.slice e)) (Q:bP P e=some n) (R:VU P e=some z) (f:¬(n=0\/z.length≠n\/len * n > 2 ^ 20))
  (S:(b.toList.mapM λ(i,x)=>(some (i * n,n)).bind λ(p:Nat×Nat)=>(cf x).bind λT=>some (p.1,p.2,T))=some r) (U:pN env (dJ len z) r=some cs) :
  ai P (execOp a.eval o) Y M Fz w (.cells cs) (.sl Y.length 0 len n cs.length):=by
 obtain ⟨i,v,hi,W,X⟩:=zed R;have d:=DC.vO (V.dH (Y:=Y) (M:=M) (Fz:=Fz) (w:=w) v) X;simp only[not_or,Un,Nat.not_lt] at f;obtain ⟨σ,s,L⟩:=f;have g:z≠[]:=λh=>by simp_all
 have Z:v.cells.size=n:=by rw[d.1,s]
 obtain ⟨aa,A⟩:=GO d g len len (cP _);have F:DC Y M Fz w (dJ len z) ((Array.range (len * v.cells.size)).map (v.cells[· % v.cells.size]!)):=⟨by grind [ri],A⟩;obtain ⟨arr,h1,m⟩:=Te E (λi=>some (i * n,n)) b.toList r (dJ len z) cs _ S F U;have j:cs.length=len * n:=by
  have:arr.size=len * n:=by
   have G:∀(l:List (Nat×Value))(x y:Array Value),Instr.fill (λi=>some (i * n,n)) x l=some y->y.size=x.size:=by
    intro l;induction l with
    |nil=>grind [Go.Instr.fill]
    |cons p l ih=>
     intro x y h;obtain ⟨i,u⟩:=p;simp only[Instr.fill] at h;split at h
     ·simp at h
     ·rename_i k;simp at k;rw[ih _ _ h,<-xAc];have:=DO (i * n) u.cells.toList 0 x (by grind);simp only[Nat.add_zero] at this
      grind [VR]
   grind
  rw[<-m.1,this]
 obtain ⟨r1,r2⟩:=qz (P:=P) q (arr:=arr) (cs:=cs) e (by rw[m.1];omega) m.2;refine ⟨_,.slice (some ⟨w.heap.size,0,none⟩) len len,?_,r2,V.Yw (cap:=len) (cP _) (by rw[m.1,j];omega) (by omega) (by omega)⟩;simp only[execOp,N,Instr.buildSlice,Sem.run_bind,uX O,Result.andThen_ok,Qe Q];rw[if_neg (by omega)];by_cases h0:len * n=0
 ·have K:len=0:=by
   grind [Nat.mul_eq_zero]
  subst K;simp only[yCu] at h1 ⊢;simp only[if_true,Sem.run_bind,Sem.run_pure,Result.andThen_ok]
  grind [Array.toList_map,Go.Sem.run_bind,Go.Result.andThen_ok,Go.Sem.run_pure]
 ·rw[if_neg h0];simp only[Sem.run_bind,jT hi W,Result.andThen_ok,Sem.run_pure]
  simp_all
def YP(R:Rel Y M Fz w)(E:dB Y M Fz w env a.tmps){o:Oper}{t:TypeId}{x y:Operand}{O Q:aT}{n b off sz:Nat}{cs xs:List D}(Z:o.op=.store t x y)
  (hx:cf x=some O) (S:cf y=some Q) (hn:bP P t=some n) (he:O.ev env=.ptr b off sz) (U:nW Y b sz=some cs) (q:(Q.ev env).cells? = some xs)
  (hc:xs.length=n/\off+n<=sz):fy P (execOp a.eval o) Y M Fz w (Y.set b (.cells (put cs off xs))) (.aV []):=by
 have W:=nE E hx;rw[he] at W;obtain ⟨c,A,F⟩:=W.vM U;obtain ⟨hb,aa⟩:=Qv U;obtain ⟨e,T,u,hl,G⟩:=R.row A hb;have g:=DC.vO (nE E S) q;obtain ⟨_,_,K,_⟩:=(nE E S).cells q;have L:off+xs.length<=cs.length:=by omega
 have r:=vd P T c (a.eval y).cells.toList 0 off w e u K (by grind);have j:∀k X σ,Obj.cells e T (0,0)=.cells k X σ->∃l,Obj.cells (cU e off (a.eval y).cells.toList) T (0,0)=.cells l X σ/\l.size=k.size:=by grind [VR]
 have m:(if (a.eval y).cells.toList=[] then w else cQ w c (.cells (cU e (off+0) (a.eval y).cells.toList) T (0,0)))=cQ w c (.cells (cU e off (a.eval y).cells.toList) T (0,0)):=by
  split
  ·rename_i s;rw[s];have:cU e off []=e:=by grind [cU]
   rw[this];unfold cQ;have ab:=(CK.1 u).1;have:w.heap.setIfInBounds c (.cells e T (0,0))=w.heap:=by grind
   rw[this]
  ·rfl
 rw[m] at r;have hs:(Ob.cells cs).sz<=(Ob.cells (put cs off xs)).sz:=by grind [Ob.sz,fS]
 have N:=bF.yg R A hb u hs j;refine ⟨.skip,undef,_,M,?_,.inr ⟨rfl,rfl⟩,R.yg A hb u hs j ?_,.aV #[] rfl (λi d v h=>by simp at h),N,by simp⟩
 ·simp only[execOp,Z,Instr.storeAt,F,Instr.sureAddr,Sem.run_bind,Sem.run_pure,Result.andThen_ok,storeVar,Qe hn]
  simp_all
 ·refine ⟨_,T,rfl,by grind [fS],λi d v z p=>?_⟩;rw[lO L] at z;rw[cL (by grind)] at p;simp only[yBl,g.1] at p;split at z
  ·rename_i f;rw[if_pos f] at p;have:=g.2 _ _ _ z (by simpa using p);exact ⟨this.1.mono N,this.2⟩
  ·rename_i f;rw[if_neg f] at p;have:=G _ _ _ z p;exact ⟨this.1.mono N,this.2⟩
end
end Go.Abs
end
section
namespace Go.Abs
variable[Gl]
section
variable{P:Program}{Y Y':ar}{M M':Nat->Option Nat}{Fz:Nat->Prop}{w w':World}{env:List D}{a:Act}
theorem V.HW{b o sz off:Nat}{v:Value}(h:V Y M Fz w (.ptr b o sz) v):∃i,v=.pointer (some i)/\V Y M Fz w (.ptr b (o+off) sz) (.pointer (some (i.add off))):=by
 cases h with
 |ptr i s hb j u=>
  refine ⟨i,rfl,.ptr _ s hb j (λx=>?_)⟩
  grind [eW]
theorem VC.HW{cs:List C}{o off:Nat}{v:Value}(h:VC Fz w (.cD cs o) v):∃i,v=.pointer (some i)/\VC Fz w (.cD cs (o+off)) (.pointer (some (i.add off))):=by
 generalize j:C.cD cs o=x at h;cases h with
 |cD blk s c u z A=>simp only[C.cD.injEq] at j;obtain ⟨rfl,rfl⟩:=j;refine ⟨_,rfl,?_⟩;rw[eW,yC8];exact .cD blk s c u z A
 |_=>grind
theorem V.pV{x:C}{v:Value}(h:V Y M Fz w (.c x) v):VC Fz w x v:=by cases h with | c h=>exact h
def fld_ok(E:dB Y M Fz w env a.tmps){o:Oper}{s:TypeId}{x:Operand}{m:aT}{f n:Nat}{p:Array Field}{g:Field}{d:D}(t:o.op=.fieldAddr s x f)
  (u:cf x=some m) (v:P.underlying s=some (.struct p)) (y:p[f]? = some g) (z:bP P g.type=some n) (A:n≠0)
  (h:(match m.ev env with
  |.ptr b o sz=>some (.ptr b (o+g.offset) sz,Y,([]:List Nat))
  |.c (.cD q o)=>some (.c (.cD q (o+g.offset)),Y,[])
  |_=>none)=some (d,Y',[])):Y'=Y/\Yields P (execOp a.eval o) Y M Fz w d:=by
 have j:=nE E u;have k:∀i,a.eval x=.pointer (some i)->(execOp a.eval o).run P w=.ok (.value (.pointer (some (i.add g.offset)))) w:=by
  intro i e;simp only[execOp,t,Instr.fieldAt,Sem.run_bind,uX v,Result.andThen_ok,y,e,Instr.sureAddr,Sem.run_pure,fieldPlace,Qe z]
  simp_all
 split at h
 ·rename_i b F sz l;rw[l] at j;simp only[au,aU] at h;obtain ⟨rfl,rfl,_⟩:=h;obtain ⟨i,e,r⟩:=j.HW (off:=g.offset)
  grind [Yields.same]
 ·rename_i q F l;rw[l] at j;simp only[au,aU] at h;obtain ⟨rfl,rfl,_⟩:=h;obtain ⟨i,e,r⟩:=j.pV.HW (off:=g.offset);exact ⟨rfl,Yields.same (k i e) (.c r)⟩
 simp_all
def Da{i:Int}{n k:Nat}(h:BU i n=some k):0<=i/\i<n/\i.toNat=k/\k<n:=by grind [BU]
def inB_inv{i:Int}{n k:Nat}(h:Sr i n=some k):0<=i/\i<=n/\i.toNat=k/\k<=n:=by grind [Sr]
theorem V.fU{b off len aB sz:Nat}{v:Value}{cs:List D}(h:V Y M Fz w (.sl b off len aB sz) v)(i:nW Y b sz=some cs) :
  (v=.slice none 0 0/\len=0/\off=0/\sz=0/\cs=[])\/∃c o cap arr T,M b=some c/\v=.slice (some ⟨c,o,none⟩) len cap/\(len<=cap/\sz<=off+cap * aB)/\(o=off\/cap=0)/\w.heap[c]? = some (.cells arr T (0,0))/\o+cap * aB<=arr.size/\off+len * aB<=sz:=by
 obtain ⟨j,s⟩:=Qv i;cases h with
 |sl K n cap u O hb x z=>
  rw[j] at hb;simp only[au] at hb;subst hb;rcases z s with ⟨Q,R,U,W,X,σ⟩ | ⟨c,o,arr,T,A,Z,hn,hl,E,F,hb,G⟩
  ·simp_all
  ·exact .inr ⟨c,o,cap,arr,T,A,by simp_all,hl,E,F,hb,G⟩
theorem V.mkPtr{b c off sz:Nat}{cs:List D}(i:nW Y b sz=some cs)(j:M b=some c):V Y M Fz w (.ptr b off sz) (.pointer (some ⟨c,off,none⟩)):=by obtain ⟨o,s⟩:=Qv i;exact .ptr _ _ o (by grind [Ob.sz]) (λ_=>⟨c,j,rfl⟩)
def idx_ok(E:dB Y M Fz w env a.tmps){o:Oper}{t e:TypeId}{x i:Operand}{S U:aT}{n:Nat}{d:D}(ho:o.op=.indexAddr t x i)
  (hx:cf x=some S) (hi:cf i=some U) (hu:P.underlying t=some (.slice e)) (hn:bP P e=some n) (aa:n≠0)
  (h:(do
  let i <-tO (U.ev env)
  match S.ev env with
  |.sl b off len f sz => do
   let _ <-nW Y b sz
   let k <-BU i len
   if f=n then some (.ptr b (off+k * n) sz,Y,([]:List Nat)) else none
  |.c (.cJ _ f) => do
   let k <-BU i f.length
   let e <-f[k]?
   if e.length=n then some (.c (.cD e 0),Y,[]) else none
  |_=>none)=some (d,Y',[])):Y'=Y/\Yields P (execOp a.eval o) Y M Fz w d:=by
 have u:=nE E hx;have F:=nE E hi;simp only[eY,c_] at h;obtain ⟨z,W,h⟩:=h;obtain ⟨k0,G⟩:=ja F W;have K:∀v len cap,a.eval x=.slice (some v) len cap->0<=z->z<len->(execOp a.eval o).run P w=.ok (.value (.pointer (some (v.add (z.toNat * n))))) w:=by intro v len cap L y A;simp only[execOp,ho,Instr.indexAt,Sem.run_bind,G,asIntOf,Sem.run_pure,Result.andThen_ok,uX hu,L];rw[if_pos ⟨y,A⟩];simp only[Sem.run_bind,Qe hn,Result.andThen_ok,Sem.run_pure]
 split at h
 ·rename_i b off len f sz N;rw[N] at u;simp only[c_] at h;obtain ⟨cs,hr,k,hk,h⟩:=h;split at h
  ·rename_i O;simp only[au,aU] at h;obtain ⟨rfl,rfl,_⟩:=h;obtain ⟨y,A,X,h4⟩:=Da hk;rcases u.fU hr with ⟨_,e2,_⟩ | ⟨c,o',cap,ab,T,hM,g,hl,σ,hh,l,Q⟩
   ·omega
   grind [Yields.same,eW,V.mkPtr]
  simp_all
 ·rename_i nn f N;rw[N] at u;simp only[c_] at h;obtain ⟨k,hk,m,p,h⟩:=h;split at h
  ·rename_i O;simp only[au,aU] at h;obtain ⟨rfl,rfl,_⟩:=h;obtain ⟨y,A,X,h4⟩:=Da hk;have q:=u.pV;generalize g:a.eval x=va at q;cases q with
   |cJ aB v cap af W c Q l hc R=>
    have r:aB=n:=by grind
    subst r;have s:0<m.length:=by omega
    obtain ⟨blk,o0,rfl,hF,_,_⟩:=hc k 0 m m[0] p (dW s);refine ⟨rfl,Yields.same (K _ _ _ g y A) ?_⟩;rw[eW,X];refine .c ?_;have:=VC.cD (Fz:=Fz) (w:=w) (cs:=m) (off:=0) blk (o0+k * aB) (c k) hF (λj d Z=>?_) (λj d Z=>R k j m d p Z)
    ·omega
    grind
  simp_all
 simp_all
def MY(A:Gl.ok Fz w)(E:dB Y M Fz w env a.tmps){o:Oper}{t e:TypeId}{x i:Operand}{L N:aT}{n len:Nat}{d:D}(Q:o.op=.indexAddr t x i)
  (R:cf x=some L) (hi:cf i=some N) (F:P.underlying t=some (.array len e)) (S:bP P e=some n)
  (h:(do
  let i <-tO (N.ev env)
  let k <-BU i len
  match L.ev env with
  |.ptr b off sz=>some (.ptr b (off+k * n) sz,Y,([]:List Nat))
  |.c (.cD cs off)=>some (.c (.cD cs (off+k * n)),Y,[])
  |.c (.We g) => match Gl.tab g with
   |[]=>none
   |v::p=>some (.c (.cD ((v::p).map .lit) (k * n)),Y,[])
  |_=>none)=some (d,Y',[])):Y'=Y/\Yields P (execOp a.eval o) Y M Fz w d:=by
 have l:=nE E R;have G:=nE E hi;simp only[eY,c_] at h;obtain ⟨z,T,k,hk,h⟩:=h;obtain ⟨Z,K⟩:=ja G T;obtain ⟨U,W,X,h4⟩:=Da hk;have q:∀m,a.eval x=.pointer (some m)->(execOp a.eval o).run P w=.ok (.value (.pointer (some (m.add (k * n))))) w:=by intro m f;simp only[execOp,Q,Instr.indexAt,Sem.run_bind,K,asIntOf,Sem.run_pure,Result.andThen_ok,uX F,f,Instr.sureAddr];rw[if_pos ⟨U,W⟩];simp only[Sem.run_bind,Qe S,Result.andThen_ok,Sem.run_pure,X]
 split at h
 ·rename_i b off sz r;rw[r] at l;simp only[au,aU] at h;obtain ⟨rfl,rfl,_⟩:=h;obtain ⟨m,f,O⟩:=l.HW (off:=k * n)
  grind [Yields.same]
 ·rename_i cs off r;rw[r] at l;simp only[au,aU] at h;obtain ⟨rfl,rfl,_⟩:=h;obtain ⟨m,f,O⟩:=l.pV.HW (off:=k * n);exact ⟨rfl,Yields.same (q m f) (.c O)⟩
 ·rename_i g r;rw[r] at l;split at h
  ·simp at h
  ·rename_i v p hg;simp only[au,aU] at h;obtain ⟨rfl,rfl,_⟩:=h;have f:a.eval x=.pointer (some ⟨g,0,none⟩):=by
    generalize a.eval x=y at l;cases l with
    |c l=>cases l;rfl
   have σ:∀(j:Nat) u,(v::p)[j]? = some u->Fz g/\w.cell? ⟨g,j,none⟩=some u/\u.oneCell'=true:=λj u s=>Gl.tabOk g j u A (by simp_all);refine ⟨rfl,Yields.same (q _ f) (.c ?_)⟩;have:=VC.cD (Fz:=Fz) (w:=w) (cs:=(v::p).map .lit) (off:=k * n) g 0 (λj=>((v::p)[j]?).getD default) (σ 0 v rfl).1 (λj d s=>?_) (λj d s=>?_)
   ·have e:(⟨g,0,none⟩:Addr).add (k * n)=⟨g,k * n,none⟩:=by
     simp only[Addr.add,PL]
     simp_all
    simp_all
   ·grind
   ·rw[lS,cC] at s;obtain ⟨u,F,rfl⟩:=s;simp only[F,OE];exact .lit u
 simp_all
def fx(E:dB Y M Fz w env a.tmps){x:Operand}{f:aT}{n k:Nat}(g:cf x=some f)(h:((tO (f.ev env)).bind λi=>Sr i n)=some k)(b:Nat)(hm:n<=b)(d:BoundsCode) :
  (Instr.sliceBound (a.eval x) b d).run P w=.ok k w/\k<=n:=by
 simp only[c_] at h;obtain ⟨i,hi,hb⟩:=h;obtain ⟨o,e⟩:=ja (nE E g) hi;obtain ⟨j,p,l,m⟩:=inB_inv hb;refine ⟨?_,m⟩;simp only[Instr.sliceBound,Sem.run_bind,e,asIntOf,Sem.run_pure,Result.andThen_ok];rw[if_pos ⟨j,by omega⟩,l];rfl
def im(E:dB Y M Fz w env a.tmps){g hi:Option Operand}{i e:Option aT}{len j cap l h:Nat}(b:FO g=some i)(d:FO hi=some e)(q:j<=cap)(r:e=none->len<=j)
  (o:oq env len j e=some h) (n:oq env 0 h i=some l) :
  (Instr.sliceBounds true len cap (g.map a.eval) (hi.map a.eval) none).run P w=.ok (l,h,cap) w/\h<=j/\l<=h:=by
 have p:h<=j/\(match hi.map a.eval,(none:Option Value) with
  |some v,some _=>Instr.sliceBound v cap .slice3B
  |some v,none=>Instr.sliceBound v cap (if true then .sliceAcap else .sliceAlen)
  |none,none=>pure len
  |none,some _=>stuck "Slice: max without high" : Sem Nat).run P w=.ok h w:=by
  cases hi with
  |none=>
   simp only[FO,au] at d;subst d;simp only[oq,au] at o
   simp_all
  |some x=>
   simp only[FO,cC] at d;obtain ⟨s,f,rfl⟩:=d;simp only[oq] at o;obtain ⟨t,u⟩:=fx (P:=P) (w:=w) E f o cap q .sliceAcap
   simp_all
 have hl:l<=h/\(match g.map a.eval with
  |some v=>Instr.sliceBound v h (if (none:Option Value).isSome then .slice3C else .sliceB)
  |none=>pure 0:Sem Nat).run P w=.ok l w:=by
  cases g with
  |none=>
   simp only[FO,au] at b;subst b;simp only[oq,au] at n;subst n
   simp_all
  |some x=>
   simp only[FO,cC] at b;obtain ⟨s,f,rfl⟩:=b;simp only[oq] at n;obtain ⟨t,u⟩:=fx (P:=P) (w:=w) E f n h (cP _) .sliceB
   simp_all
 refine ⟨?_,p.1,hl.1⟩;have k:=p.2;have m:=hl.2;clear p hl;cases hi <;> cases g <;> simp only[Cs,yCg,Sem.run_pure,Result.ok.injEq,NT] at k m <;>
  simp only[Instr.sliceBounds,Cs,yCg,Sem.run_bind,Sem.run_pure,Result.andThen_ok,k,m]
def slc_ok(E:dB Y M Fz w env a.tmps){o:Oper}{t e:TypeId}{x:Operand}{R hi:Option Operand}{ox:aT}{p g:Option aT}{n:Nat}{d:D}
  (ho:o.op=.slice t x R hi none) (hx:cf x=some ox) (r:FO R=some p) (u:FO hi=some g) (hu:P.underlying t=some (.slice e)) (hn:bP P e=some n)
  (h:(match ox.ev env with
  |.c (.lit (.slice none 0 0)) => do
   let h <-oq env 0 0 g
   let _ <-oq env 0 h p
   some (.c (.lit (.slice none 0 0)),Y,([]:List Nat))
  |.c (.cJ nn f) => do
   let h <-oq env f.length f.length g
   let l <-oq env 0 h p
   if f.all (λe=>e.length=n) then some (.c (.cJ nn ((f.take h).drop l)),Y,[]) else none
  |.sl b off len f sz => do
   let _ <-nW Y b sz
   let h <-(oq env len len g).orElse λ_=>oq env len ((sz-off) / f) g
   let l <-oq env 0 h p
   if f=n then some (.sl b (off+l * n) (h-l) n sz,Y,[]) else none
  |_=>none)=some (d,Y',[])):Y'=Y/\Yields P (execOp a.eval o) Y M Fz w d:=by
 have K:=nE E hx;have A:∀S len cap l h,a.eval x=.slice S len cap->(Instr.sliceBounds true len cap (R.map a.eval) (hi.map a.eval) none).run P w=.ok (l,h,cap) w ->
   (execOp a.eval o).run P w=.ok (.value (.slice (if cap=l then S else S.map (·.add (l * n))) (h-l) (cap-l))) w:=by
  intro S len cap l h k hb;have U:∀(s:Sem Value),(match TypeDesc.slice e with | .array _ _=>s | _=>Instr.slice t (a.eval x) (R.map a.eval) (hi.map a.eval) none)=Instr.slice t (a.eval x) (R.map a.eval) (hi.map a.eval) none:=λ_=>rfl;simp only[execOp,ho,Instr.sliceAt,Sem.run_bind,uX hu,Result.andThen_ok,yCg];simp only[Instr.slice,Sem.run_bind,uX hu,Result.andThen_ok,k,hb,Qe hn,Sem.run_pure]
 split at h
 ·rename_i L;rw[L] at K;simp only[eY,c_,au,aU] at h;obtain ⟨m,v,l,N,rfl,rfl,_⟩:=h;obtain ⟨hb,h3,h4⟩:=im (P:=P) (w:=w) E r u (cP 0) (λ_=>cP _) v N;refine ⟨rfl,Yields.same (A _ _ _ _ _ K.ce hb) ?_⟩;obtain rfl:m=0:=by omega
  obtain rfl:l=0:=by omega
  exact .c (.lit _)
 ·rename_i nn f L;rw[L] at K;simp only[eY,c_] at h;obtain ⟨m,v,l,N,h⟩:=h;split at h
  ·rename_i a2;simp only[au,aU] at h;obtain ⟨rfl,rfl,_⟩:=h;have W:=K.pV;generalize k:a.eval x=va at W;cases W with
   |cJ aB S cap a6 hz c aa z hc a7=>
    obtain ⟨hb,h3,h4⟩:=im (P:=P) (w:=w) E r u z (λ_=>cP _) v N;refine ⟨rfl,Yields.same (A _ _ _ _ _ k hb) (.c ?_)⟩;have X:((f.take m).drop l).length=m-l:=by simp_all
    rw[<-X];refine .cJ n _ _ (λhn=>by grind) (λhn=>by
     by_cases y:cap=l
     ·omega
     simp_all) (λi j=>c (l+i) j) (λe L=>?_) (by omega) (λi j e d F h6=>?_) (λi j e d F h6=>?_)
    ·grind
    ·rw[yBQ] at F;have ab:=(fq.1 F).1;simp at ab;rw[yB3 (by omega)] at F;obtain ⟨blk,o0,rfl,hF,af,ak⟩:=hc (l+i) j e d F h6;have σ:aB=n:=by
      grind
     subst σ;refine ⟨blk,o0+l * aB,by rw[if_neg (by omega)];simp[eW],hF,?_,ak⟩
     grind
    grind
  simp_all
 ·rename_i b off len f sz L;rw[L] at K;simp only[eY,c_] at h;obtain ⟨cs,hr,m,v,l,N,h⟩:=h;split at h
  ·rename_i an;subst an;simp only[au,aU] at h;obtain ⟨rfl,rfl,_⟩:=h;obtain ⟨F,h6⟩:=Qv hr;rcases K.fU hr with ⟨k,e2,e3,e4,e6⟩ | ⟨c,O,cap,Z,T,hM,k,hl,a5,hh,z,aa⟩
   ·subst e2;have av:oq env 0 0 g=some m:=by
     simp_all
    obtain ⟨hb,h3,h4⟩:=im (P:=P) (w:=w) E r u (cP 0) (λ_=>cP _) av N
    grind [Yields.same]
   obtain ⟨Q,ax,a0,a8,v⟩:∃Q,Q<=cap/\(g=none->len<=Q)/\off+Q * f<=sz/\oq env len Q g=some m:=by
    cases a1:oq env len len g with
    |some q=>grind
    |none=>
     rw[a1] at v;have v:oq env len ((sz-off) / f) g=some m:=by simp_all
     have hd:(sz-off) / f * f<=sz-off:=Nat.div_mul_le_self _ _;refine ⟨_,?_,λe=>by grind [oq],by omega,v⟩;rcases Nat.eq_zero_or_pos f with h0 | h0
     ·simp_all
     ·exact Nat.div_le_of_le_mul (by grind)
   obtain ⟨hb,h3,h4⟩:=im (P:=P) (w:=w) E r u ax a0 v N;refine ⟨rfl,Yields.same (A _ _ _ _ _ k hb) ?_⟩;have G:(if cap=l then some (Addr.mk c O none) else (some (Addr.mk c O none)).map (·.add (l * f)))=some (if cap=l then Addr.mk c O none else (Addr.mk c O none).add (l * f)):=by grind
   rw[G];refine .sl _ _ _ (by simp) _ F (by grind [Ob.sz]) (λ_=>?_);have a9:l * f+(m-l) * f=m * f:=by rw[<-OI];simp_all
   have bb:m * f<=Q * f:=HT _ h3;by_cases y:cap=l
   ·rw[if_pos y];have h0:cap-l=0:=by omega
    subst y;refine .inr ⟨c,O,Z,T,hM,rfl,rfl,⟨by omega,by omega⟩,.inr (by omega),hh,?_,?_⟩
    ·grind
    ·omega
   ·rw[if_neg y];have bc:l * f+(cap-l) * f=cap * f:=by rw[<-OI];grind
    refine .inr ⟨c,O+l * f,Z,T,hM,by rw[eW],rfl,⟨by omega,by omega⟩,?_,hh,by omega,by omega⟩;omega
  simp_all
 simp_all
theorem slca_ok(E:dB Y M Fz w env a.tmps){o:Oper}{t e:TypeId}{x:Operand}{u:aT}{m off:Nat}{cs:List C}
  (y:o.op=.slice t x none none none) (z:cf x=some u) (A:P.underlying t=some (.array m e)) (F:bP P e=some 1)
  (p:u.ev env=.c (.cD cs off)) (G:off+m<=cs.length):Yields P (execOp a.eval o) Y M Fz w (.c (.cJ false (((cs.drop off).take m).map λc=>[c]))):=by
 have v:=nE E z;rw[p] at v;have k:=v.pV;generalize q:a.eval x=R at k;cases k with
 |cD blk l c K L r=>
  have f:(((cs.drop off).take m).map λc=>[c]).length=m:=by simp;omega
  have n:(execOp a.eval o).run P w=.ok (.value (.slice (some ⟨blk,l+off,none⟩) (((cs.drop off).take m).map λc=>[c]).length m)) w:=by rw[f];simp only[execOp,y,Instr.sliceAt,Sem.run_bind,uX A,Result.andThen_ok,yCg,q,Instr.sureAddr,Sem.run_pure,Instr.sliceBounds,Qe F];simp only[yCu,yC5];split <;> rfl
  have get:∀(i j:Nat)(e:List C)(d:C),(((cs.drop off).take m).map λc=>[c])[i]? = some e->e[j]? = some d->j=0/\i<m/\cs[off+i]? = some d:=by
   intro i j e d b g;rw[lS,cC] at b;obtain ⟨x,b,rfl⟩:=b;have hi:=(fq.1 b).1;have N:j=0:=by have:=(fq.1 g).1;simp at this;exact this
   subst N;simp only[xF,au] at g;subst g;simp only[BZ,yCb] at hi;refine ⟨rfl,by omega,?_⟩;rw[yB3 (by omega),yBQ] at b;exact b
  refine Yields.same n (.c (.cJ 1 (some ⟨blk,l+off,none⟩) m (λ_=>rfl) (λh=>by cases h) (λi _=>c (off+i)) (λe p=>?_) (yCa f) (λi j e d b g=>?_) (λi j e d b g=>?_)))
  ·obtain ⟨x,_,rfl⟩:=iX.1 p;rfl
  ·obtain ⟨rfl,hi,s⟩:=get i j e d b g;obtain ⟨O,Q⟩:=L _ d s;exact ⟨blk,l+off,rfl,K,by rw[show l+off+i * 1+0=l+(off+i) by omega];exact O,Q⟩
  ·obtain ⟨rfl,hi,s⟩:=get i j e d b g;exact r _ d s
def slc3xok(E:dB Y M Fz w env a.tmps){o:Oper}{t e:TypeId}{x m hi p:Operand}{u f g j:aT}{n b off len es sz h l:Nat}{cs:List D}
  (A:o.op=.slice t x (some m) (some hi) (some p)) (F:cf x=some u) (q:cf m=some f) (r:cf hi=some g) (s:cf p=some j) (y:P.underlying t=some (.slice e)) (G:bP P e=some n)
  (K:u.ev env=.sl b off len es sz) (L:nW Y b sz=some cs) (N:((tO (j.ev env)).bind λi=>Sr i len)=some len) (O:((tO (g.ev env)).bind λi=>Sr i len)=some h) (Q:((tO (f.ev env)).bind λi=>Sr i h)=some l) :
  Yields P (execOp a.eval o) Y M Fz w .any:=by
 have z:=nE E F;rw[K] at z;have σ:∀k cap,len<=cap->a.eval x=.slice k len cap->Yields P (execOp a.eval o) Y M Fz w .any:=by
  intro k cap R d;have S:=(fx (P:=P) (w:=w) E s N cap R .slice3Acap).1;have U:=(fx (P:=P) (w:=w) E r O len (cP _) .slice3B).1;have W:=(fx (P:=P) (w:=w) E q Q h (cP _) .slice3C).1;have hb:(Instr.sliceBounds true len cap (some (a.eval m)) (some (a.eval hi)) (some (a.eval p))).run P w=.ok (l,h,len) w:=by simp only[Instr.sliceBounds,Sem.run_bind,if_true,S,Result.andThen_ok,U,Option.isSome,W,Sem.run_pure]
  refine Yields.same (v:=.slice (if len=l then k else k.map (·.add (l * n))) (h-l) (len-l)) ?_ (.any _);simp only[execOp,A,Instr.sliceAt,Sem.run_bind,uX y,Result.andThen_ok,Cs];simp only[Instr.slice,Sem.run_bind,uX y,Result.andThen_ok,d,hb,Qe G,Sem.run_pure]
 rcases z.fU L with ⟨d,Z,_,_,_⟩ | ⟨c,o',cap,X,T,hM,d,hl,_,_,_,_⟩
 ·simp_all
 grind
theorem PO(E:dB Y M Fz w env a.tmps){o:Oper}{x:Operand}{i:Nat}{h:aT}{ds:List D}{d:D}(l:o.op=.extract x i)(m:cf x=some h)
  (n:h.ev env=.aV ds) (j:ds[i]? = some d):Yields P (execOp a.eval o) Y M Fz w d:=by
 have b:=nE E m;rw[n] at b;generalize f:a.eval x=p at b;cases b with
 |aV k q g=>have hi:=(fq.1 j).1;have e:k[i]? = some (k[i]'(by omega)):=qB _;refine Yields.same ?_ (g i _ _ j e);simp[execOp,l,Instr.extract,f,e]
theorem list_ok(E:dB Y M Fz w env a.tmps):∀(xs:List Operand)(os:List aT),xs.mapM cf=some os ->
  (xs.map a.eval).length=(os.map (aT.ev env)).length/\∀(i:Nat) d v,(os.map (aT.ev env))[i]? = some d->(xs.map a.eval)[i]? = some v->V Y M Fz w d v:=by
 intro xs;induction xs with
 |nil=>simp_all
 |cons x xs ih=>grind [Option.bind_eq_some_iff,nE]
def Jc(E:dB Y M Fz w env a.tmps){xs:Array Operand}{os:List aT}(h:Kk xs=some os) :
  (xs.map a.eval).size=(os.map (aT.ev env)).length/\∀(i:Nat) d v,(os.map (aT.ev env))[i]? = some d->(xs.map a.eval)[i]? = some v->V Y M Fz w d v:=by
 obtain ⟨b,e⟩:=list_ok E xs.toList os h
 grind
def mkfn_ok(E:dB Y M Fz w env a.tmps){o:Oper}{f:Fn}{first cap:Array Operand}{b d:List aT}(e:o.op=.makeFunc f first cap)(g:Kk first=some b)(h:Kk cap=some d) :
  Yields P (execOp a.eval o) Y M Fz w (.fn f (b.map (aT.ev env)) (d.map (aT.ev env))):=by
 obtain ⟨i,j⟩:=Jc E g;obtain ⟨k,l⟩:=Jc E h;refine Yields.same (v:=.func f (first.map a.eval) (cap.map a.eval)) ?_ (.fn _ _ i k j l);simp[execOp,e,Instr.makeFunc]
theorem MN{t:TypeId}{n:Option Nat}{cs:List D}{vs:Array Value}{off:Nat}{d:D}(g:Fc P t=some n)(f:uL n cs off=some d)(p:vs.size=cs.length)
  (m:∀(i:Nat) d v,cs[i]? = some d->vs[i]? = some v->V Y M Fz w d v):∃v,(part t vs off).run P w=.ok v w/\V Y M Fz w d v:=by
 unfold Fc at g;have agg:∀(i:TypeInfo),P.info? t=some i->n=some i.size->(isAgg t).run P w=.ok true w->∃v,(part t vs off).run P w=.ok v w/\V Y M Fz w d v:=by
  intro i hi g b;subst g;simp only[uL] at f;split at f
  ·rename_i o;simp only[au] at f;subst f;refine ⟨.agg (vs.extract off (off+i.size)),by simp only[part,Sem.run_bind,b,Result.andThen_ok,if_true,sizeOf,zds hi,Sem.run_pure],?_⟩;refine .agg _ (by grind) (λj x v q r=>?_)
   grind
  simp_all
 have one:n=none->(isAgg t).run P w=.ok false w->∃v,(part t vs off).run P w=.ok v w/\V Y M Fz w d v:=by intro g b;subst g;simp only[uL] at f;have hi:=(fq.1 f).1;have e:vs[off]? = some (vs[off]'(by omega)):=qB _;exact ⟨_,by simp only[part,Sem.run_bind,b,Result.andThen_ok,b_,cw,e,Sem.run_pure],m _ _ _ f e⟩
 cases hi:P.info? t with
 |none=>simp_all
 |some i=>
  cases l:P.underlying t with
  |none=>simp_all
  |some h=>
   rw[hi,l] at g;have k:(isAgg t).run P w=.ok (h matches .struct _ | .array _ _) w:=by simp only[isAgg,Sem.run_bind,uX l,Result.andThen_ok];cases h <;> rfl
   grind
theorem part_ok(E:dB Y M Fz w env a.tmps){o:Oper}{t:TypeId}{x:Operand}{i:aT}{f:Nat}{j:Array Field}{b:Field}{n:Option Nat}{cs:List D}{d:D}(k:o.op=.field t x f)
  (l:cf x=some i) (m:P.underlying t=some (.struct j)) (p:j[f]? = some b) (q:Fc P b.type=some n) (r:i.ev env=.agg cs) (s:uL n cs b.offset=some d) :
  Yields P (execOp a.eval o) Y M Fz w d:=by
 have e:=nE E l;rw[r] at e;generalize g:a.eval x=A at e;cases e with
 |agg F u h=>obtain ⟨v,y,z⟩:=MN (P:=P) q s u h;refine Yields.same (v:=v) ?_ z;simp only[execOp,k,Instr.field,Sem.run_bind,uX m,Result.andThen_ok,p,g,asAgg,Sem.run_pure,y]
theorem aidx_ok(E:dB Y M Fz w env a.tmps){o:Oper}{t e:TypeId}{x i:Operand}{j l:aT}{len sz k:Nat}{n:Option Nat}{cs:List D}{d:D}{z:Int}(m:o.op=.index t x i)
  (p:cf x=some j) (hi:cf i=some l) (q:P.underlying t=some (.array len e)) (hs:bP P e=some sz) (r:Fc P e=some n) (s:j.ev env=.agg cs) (u:tO (l.ev env)=some z) (hk:BU z len=some k)
  (y:uL n cs (k * sz)=some d):Yields P (execOp a.eval o) Y M Fz w d:=by
 have b:=nE E p;rw[s] at b;obtain ⟨O,f⟩:=ja (nE E hi) u;obtain ⟨A,F,G,Q⟩:=Da hk;generalize g:a.eval x=R at b;cases b with
 |agg S K h=>obtain ⟨v,L,N⟩:=MN (P:=P) r y K h;refine Yields.same (v:=v) ?_ N;simp only[execOp,m,Instr.index,Sem.run_bind,f,asIntOf,Sem.run_pure,Result.andThen_ok,uX q,g];rw[if_pos ⟨A,F⟩];simp only[Sem.run_bind,Qe hs,Result.andThen_ok,G,L]
end
end Go.Abs
end
section
namespace Go.Abs
variable[Gl]
section
variable{P:Program}{Y Y':ar}{M M':Nat->Option Nat}{Fz:Nat->Prop}{w w':World}{env:List D}{a:Act}
def nilck_ok(E:dB Y M Fz w env a.tmps){o:Oper}{x:Operand}{l:aT}{d:D}(j:o.op=.nilCheck x)(m:cf x=some l)
  (h:(match l.ev env with
  |.ptr b off sz=>some (.ptr b off sz,Y,([]:List Nat))
  |.c (.cD n off)=>some (.c (.cD n off),Y,[])
  |.c (.fn (.func f) first cap)=>some (.c (.fn (.func f) first cap),Y,[])
  |.fn (.func f) first cap=>some (.fn (.func f) first cap,Y,[])
  |_=>none)=some (d,Y',[])):Y'=Y/\Yields P (execOp a.eval o) Y M Fz w d:=by
 have e:=nE E m;split at h
 ·rename_i i;rw[i] at e;simp only[au,aU] at h;obtain ⟨rfl,rfl,_⟩:=h;refine ⟨rfl,Yields.same (v:=a.eval x) ?_ e⟩;generalize g:a.eval x=k at e;cases e with
  |ptr=>simp[execOp,j,g]
 ·rename_i i;rw[i] at e;simp only[au,aU] at h;obtain ⟨rfl,rfl,_⟩:=h;refine ⟨rfl,Yields.same (v:=a.eval x) ?_ e⟩;generalize g:a.eval x=k at e;cases e with
  |c e => cases e with
   |cD=>simp[execOp,j,g]
 ·rename_i i;rw[i] at e;simp only[au,aU] at h;obtain ⟨rfl,rfl,_⟩:=h;refine ⟨rfl,Yields.same (v:=a.eval x) ?_ e⟩;generalize g:a.eval x=k at e;cases e with
  |c e => cases e with
   |fn=>simp[execOp,j,g]
 ·rename_i i;rw[i] at e;simp only[au,aU] at h;obtain ⟨rfl,rfl,_⟩:=h;refine ⟨rfl,Yields.same (v:=a.eval x) ?_ e⟩;generalize g:a.eval x=k at e;cases e with
  |fn=>simp[execOp,j,g]
 simp_all
inductive gK:TypeDesc->Value->Value->Bool->Prop where
 |p0 (e:TypeId):gK (.pointer e) (.pointer none) (.pointer none) true
 |p1 (e:TypeId) (ad:Addr):gK (.pointer e) (.pointer (some ad)) (.pointer none) false
 |m0 (k e:TypeId):gK (.map k e) (.map none) (.map none) true
 |m1 (k e:TypeId) (r:Nat):gK (.map k e) (.map (some r)) (.map none) false
 |f0 (p r:Array TypeId) (v:Bool):gK (.func p r v) .nilFunc .nilFunc true
 |f1 (p r:Array TypeId) (v:Bool) (f:Fn) (x y:Array Value):gK (.func p r v) (.func f x y) .nilFunc false
 |s0 (e:TypeId):gK (.slice e) (.slice none 0 0) (.slice none 0 0) true
 |s1 (e:TypeId) (ad:Addr) (n c:Nat):gK (.slice e) (.slice (some ad) n c) (.slice none 0 0) false
def Vx{t:TypeId}{d:TypeDesc}{x y:Value}{b:Bool}(e:P.underlying t=some d)(h:gK d x y b)(w:World) :
  (Op.equal t x y).run P w=.ok b w/\(Op.equal t y x).run P w=.ok b w:=by
 constructor
 ·show (Op.equalIn (9999+1) t x y).run P w=_;generalize 9999=n;cases h <;> (unfold Op.equalIn;simp[uX e])
 ·show (Op.equalIn (9999+1) t y x).run P w=_;generalize 9999=n;cases h <;> (unfold Op.equalIn;simp[uX e])
def Cg{t:TypeId}{d:TypeDesc}{x y:Value}{b:Bool}(e:P.underlying t=some d)(h:gK d x y b)(neg:Bool)(X σ:Operand)(w:World) :
  ((do eqGuard (if neg then .neq else .eql) t X σ x y;binOp (if neg then .neq else .eql) t x y:Sem Value).run P w=.ok (.bool (if neg then !b else b)) w) /\
  ((do eqGuard (if neg then .neq else .eql) t σ X y x;binOp (if neg then .neq else .eql) t y x:Sem Value).run P w=.ok (.bool (if neg then !b else b)) w):=by
 obtain ⟨f,g⟩:=Vx e h w;have i:∀op,(eqGuard op t X σ x y).run P w=.ok () w:=by intro op;cases h <;> cases op <;> rfl
 have j:∀op,(eqGuard op t σ X y x).run P w=.ok () w:=by intro op;cases h <;> cases op <;> rfl
 have k:(binOp (if neg then .neq else .eql) t x y).run P w=.ok (.bool (if neg then !b else b)) w:=by
  cases neg
  ·have:binOp .eql t x y=(do pure (.bool (<-Op.equal t x y)):Sem Value):=by cases h <;> rfl
   simp_all
  ·have:binOp .neq t x y=(do pure (.bool (!(<-Op.equal t x y))):Sem Value):=by cases h <;> rfl
   simp_all
 have l:(binOp (if neg then .neq else .eql) t y x).run P w=.ok (.bool (if neg then !b else b)) w:=by
  cases neg
  ·have:binOp .eql t y x=(do pure (.bool (<-Op.equal t y x)):Sem Value):=by cases h <;> rfl
   simp_all
  ·have:binOp .neq t y x=(do pure (.bool (!(<-Op.equal t y x))):Sem Value):=by cases h <;> rfl
   simp_all
 simp_all
def GM{l:TypeDesc}{k:Nat}{d:D}{v:Value}{b:Bool}(hk:zG l=some k)(e:V Y M Fz w d v)(h:isNil k d=some b) :
  ∃f,gK l v f b/\((k=0/\f=.pointer none)\/(k=1/\f=.map none)\/(k=2/\f=.nilFunc)\/(k=3/\f=.slice none 0 0)):=by
 cases l <;> simp only[zG,au,reduceCtorEq] at hk <;> subst hk
 ·cases d with
  |ptr=>
   simp only[isNil,au] at h;subst h;cases e with
   |ptr g=>exact ⟨_,.p1 _ g,.inl ⟨rfl,rfl⟩⟩
  |c x=>
   cases x with
   |cD=>
    simp only[isNil,au] at h;subst h;cases e with
    |c e => cases e with
     |cD=>exact ⟨_,.p1 _ _,.inl ⟨rfl,rfl⟩⟩
   |lit u=>
    cases u <;> simp[isNil] at h
    rename_i p;cases p <;> simp at h
    subst h;rw[e.ce];exact ⟨_,.p0 _,.inl ⟨rfl,rfl⟩⟩
   |_=>grind [isNil]
  |_=>grind [isNil]
 ·cases d with
  |sl b off len aB sz=>
   cases len with
   |zero=>simp[isNil] at h
   |succ len=>
    simp only[isNil,au] at h;subst h;cases e with
    |sl g n cap i=>
     cases g with
     |none=>simp_all
     |some g=>exact ⟨_,.s1 _ _ _ _,.inr (.inr (.inr ⟨rfl,rfl⟩))⟩
  |c x=>
   cases x with
   |cJ nn o=>
    cases nn <;> simp only[isNil,au,reduceCtorEq] at h
    subst h;have j:=e.pV;generalize m:C.cJ true o=x at j;cases j with
    |cJ aB g cap i=>simp only[C.cJ.injEq] at m;obtain ⟨rfl,rfl⟩:=m;obtain ⟨q,rfl⟩:=yBr.1 (i rfl);exact ⟨_,.s1 _ _ _ _,.inr (.inr (.inr ⟨rfl,rfl⟩))⟩
    |_=>grind
   |lit u=>
    cases u <;> try grind [isNil]
    rename_i p n c;cases p <;> cases n <;> cases c <;> simp[isNil] at h
    subst h;rw[e.ce];exact ⟨_,.s0 _,.inr (.inr (.inr ⟨rfl,rfl⟩))⟩
   |_=>grind [isNil]
  |_=>grind [isNil]
 ·cases d with
  |mp=>
   simp only[isNil,au] at h;subst h;cases e with
   |mp=>exact ⟨_,.m1 _ _ _,.inr (.inl ⟨rfl,rfl⟩)⟩
  |c x=>
   cases x with
   |No=>
    simp only[isNil,au] at h;subst h;cases e with
    |c e => cases e with
     |No=>exact ⟨_,.m1 _ _ _,.inr (.inl ⟨rfl,rfl⟩)⟩
   |lit u=>
    cases u <;> simp[isNil] at h
    rename_i p;cases p <;> simp at h
    subst h;rw[e.ce];exact ⟨_,.m0 _ _,.inr (.inl ⟨rfl,rfl⟩)⟩
   |_=>grind [isNil]
  |_=>grind [isNil]
 ·cases d with
  |fn=>
   simp only[isNil,au] at h;subst h;cases e with
   |fn=>exact ⟨_,.f1 _ _ _ _ _ _,.inr (.inr (.inl ⟨rfl,rfl⟩))⟩
  |c x=>
   cases x with
   |fn=>
    simp only[isNil,au] at h;subst h;cases e with
    |c e => cases e with
     |fn=>exact ⟨_,.f1 _ _ _ _ _ _,.inr (.inr (.inl ⟨rfl,rfl⟩))⟩
   |lit u=>
    cases u <;> simp[isNil] at h
    subst h;rw[e.ce];exact ⟨_,.f0 _ _ _,.inr (.inr (.inl ⟨rfl,rfl⟩))⟩
   |_=>grind [isNil]
  |_=>grind [isNil]
def ua{k:Nat}{x:Operand}{b:Value}(h:qX k x=true)(d:(k=0/\b=.pointer none)\/(k=1/\b=.map none)\/(k=2/\b=.nilFunc)\/(k=3/\b=.slice none 0 0)):x=.const b:=by
 unfold qX at h
 grind
def LJ(E:dB Y M Fz w env a.tmps){o:Oper}{t s:TypeId}{m:TypeDesc}{x y:Operand}{neg:Bool}{k n:Nat}{d:Bool}{p:aT}{b:Bool}
  (q:o.op=.binOp (if neg then .neq else .eql) t x y s) (r:P.underlying t=some m) (hk:zG m=some k) (f:vH k neg x y=some (.iT n d p)) (hb:isNil n (p.ev env)=some b) :
  Yields P (execOp a.eval o) Y M Fz w (.c (.lit (.bool (if d then !b else b)))):=by
 unfold vH at f;split at f
 ·rename_i u;simp only[cC,kN.iT.injEq] at f;obtain ⟨j,g,rfl,rfl,rfl⟩:=f;obtain ⟨h,l,i⟩:=GM hk (nE E g) hb;obtain rfl:=ua u i;refine Yields.same (v:=.bool (if neg then !b else b)) ?_ (.c (.lit _));have:=(Cg r l neg x (.const h) w).1;simp only[execOp,q,Sem.run_bind];simp only[Sem.run_bind] at this;have e:a.eval (.const h)=h:=rfl
  simp_all
 ·split at f
  ·rename_i z;simp only[cC,kN.iT.injEq] at f;obtain ⟨j,g,rfl,rfl,rfl⟩:=f;obtain ⟨h,l,i⟩:=GM hk (nE E g) hb;obtain rfl:=ua z i;refine Yields.same (v:=.bool (if neg then !b else b)) ?_ (.c (.lit _));have:=(Cg r l neg y (.const h) w).2;simp only[execOp,q,Sem.run_bind];simp only[Sem.run_bind] at this;have e:a.eval (.const h)=h:=rfl
   simp_all
  simp_all
def qH{d:D}{v:Value}{n:Nat}(b:V Y M Fz w d v)(h:KK Y d=some n):∃g cap,v=.slice g n cap:=by
 unfold KK at h;split at h
 ·grind [V.ce]
 ·simp only[au] at h;subst h;cases b with
  |c b => cases b with
   |cJ=>simp_all
 ·split at h
  ·rename_i e;simp only[au] at h;subst h;obtain ⟨j,e⟩:=yBr.1 e;rcases b.fU e with ⟨f,k,_⟩ | ⟨c,o,cap,i,T,_,f,_⟩
   ·simp_all
   simp_all
  simp_all
 simp_all
theorem MD{es:List (List C)}{n:Nat}(h:∀e∈es,e.length=n):∀(i j:Nat) e d,es[i]? = some e->e[j]? = some d->es.flatten[i * n+j]? = some d:=by
 induction es with
 |nil=>simp_all
 |cons b es ih=>
  intro i j e d f g;have k:=h b (by simp);cases i with
  |zero=>grind
  |succ i=>grind
theorem Nk{es:List (List C)}{n:Nat}(h:∀e∈es,e.length=n):es.flatten.length=es.length * n:=by
 induction es with
 |nil=>simp
 |cons b es ih=>grind
def zbA(R:Rel Y M Fz w){d:D}{v:Value}{aB n:Nat}{cs:List D}(Q:V Y M Fz w d v)(h0:aB≠0)(h:zdL Y aB n d=some cs) :
  ∃arr,(Builtin.firstCells aB n v).run P w=.ok arr w/\DC Y M Fz w cs arr/\cs.length=n * aB:=by
 have load:∀(l:Addr)(len cap:Nat)(cs:List D),v=.slice (some l) len cap->cs.length=n * aB ->
   (∀(i:Nat) x,cs[i]? = some x->∃u,w.cell? (l.add i)=some u/\V Y M Fz w x u/\u.oneCell'=true) ->
   ∃arr,(Builtin.firstCells aB n v).run P w=.ok arr w/\DC Y M Fz w cs arr/\cs.length=n * aB:=by
  intro l len cap cs g m r
  let f:Nat->Value:=λj=>(w.cell? (l.add j)).getD undef
  have hf:∀j,j<n * aB->w.cell? (l.add j)=some (f j):=by
   intro j N;obtain ⟨u,O,_⟩:=r j _ (dW (by omega))
   grind
  have y:=run_loadCells (P:=P) (w:=w) l (n * aB) f hf;refine ⟨_,by rw[g];simp only[Builtin.firstCells];exact y,⟨by simp_all,λi x u O h2=>?_⟩,m⟩
  grind
 have s:∀(cs:List D),n=0->cs=[]->(∃l len cap,v=.slice l len cap)->∃arr,(Builtin.firstCells aB n v).run P w=.ok arr w/\DC Y M Fz w cs arr/\cs.length=n * aB:=by
  intro cs t z ⟨l,len,cap,g⟩;subst t z;cases l with
  |none=>exact ⟨#[],by rw[g];rfl,⟨rfl,λi x u h=>by simp at h⟩,by simp⟩
  |some l=>simp_all
 unfold zdL at h;split at h
 ·split at h
  ·rename_i t;simp only[au] at h;exact s cs t h.symm ⟨_,_,_,Q.ce⟩
  simp_all
 ·rename_i nn k;split at h
  ·rename_i S;simp only[au] at h;subst h;obtain ⟨t,ab⟩:=S;have m:∀e∈k.take n,e.length=aB:=λe he=>by grind
   have U:((k.take n).flatten.map D.c).length=n * aB:=by grind [Nk,List.length_take]
   have A:=Q.pV;generalize g:v=va at A;cases A with
   |cJ sz l cap ax _ c E F G W=>
    by_cases X:n=0
    ·simp_all
    ·have hp:0<k.length:=by omega
     have σ:k[0]? = some k[0]:=dW hp;have a0:k[0].length=aB:=by grind
     have K:sz=aB:=by simp_all
     subst K;obtain ⟨blk,o0,rfl,_⟩:=G 0 0 k[0] (k[0][0]'(by omega)) σ (dW _);refine g▸load _ _ _ _ g U (λi x hi=>?_);have p:i<n * sz:=by grind
     have af:i / sz<n:=Nat.div_lt_of_lt_mul (by grind);have ak:i % sz<sz:=Nat.mod_lt _ (by omega);have hk:k[i / sz]? = some (k[i / sz]'(by omega)):=dW _;have Z:(k.take n)[i / sz]? = some (k[i / sz]'(by omega)):=by simp_all
     have a1:(k[i / sz]'(by omega)).length=sz:=E _ (bA _);have N:(k[i / sz]'(by omega))[i % sz]? = some ((k[i / sz]'(by omega))[i % sz]'(by omega)):=dW _;have L:=MD m (i / sz) (i % sz) _ _ Z N;rw[show i / sz * sz+i % sz=i from by grind [Nat.div_add_mod]] at L;rw[lS,L] at hi;simp only[Cs,au] at hi;subst hi;obtain ⟨an,a2,O,h2,h3,h4⟩:=G _ _ _ _ hk N;simp only[au,Addr.mk.injEq,NT] at O;obtain ⟨rfl,rfl⟩:=O;refine ⟨_,?_,.c (W _ _ _ _ hk N),h4⟩
     grind [eW,Nat.div_add_mod]
  simp_all
 ·rename_i b off len k sz;simp only[eY,c_] at h;obtain ⟨row,hr,h⟩:=h;split at h
  ·rename_i S;obtain ⟨rfl,t,a5⟩:=S;simp only[au] at h;subst h;obtain ⟨hb,E⟩:=Qv hr;rcases Q.fU hr with ⟨g,e2,_⟩ | ⟨c,o,cap,arr,T,hM,g,hl,av,hh,F,_⟩
   ·simp_all
   by_cases X:n=0
   ·simp_all
   ·have aa:o=off:=by
     omega
    subst aa;have a6:n * k<=len * k:=HT _ t;obtain ⟨q,T',a7,a8,z⟩:=R.row hM hb;refine load _ _ _ _ g (by grind) (λi x hi=>?_);have p:i<n * k:=by grind
    rw[yB3 p,yBQ] at hi;have a9:=(fq.1 hi).1;have e:q[o+i]? = some (q[o+i]'(by omega)):=qB _
    grind [eW,Go.cell_of_row]
  simp_all
 simp_all
def len_ok(E:dB Y M Fz w env a.tmps){o:Oper}{t e:TypeId}{x:Operand}{g:aT}{args:Array Operand}{d:Array TypeId}{n:Nat}(i:o.op=.call { callee:=.builtin .len,args:=args,argTypes:=d })
  (j:d[0]? = some t) (k:args[0]? = some x) (hs:args.size=1) (l:cf x=some g) (m:P.underlying t=some (.slice e)) (h:KK Y (g.ev env)=some n) :
  Yields P (execOp a.eval o) Y M Fz w (.c (.lit (.int .i64 n))):=by
 obtain ⟨p,cap,f⟩:=qH (nE E l) h;have b:args=#[x]:=by grind
 subst b;refine Yields.same (v:=.int .i64 n) ?_ (.c (.lit _));simp[execOp,i,resolve,invoke,builtin,Builtin.len_,j,uX m,f,goInt]
def Uf{o:Oper}{t e:TypeId}{x:Operand}{args:Array Operand}{d:Array TypeId}{n:Nat}(f:o.op=.call { callee:=.builtin .len,args:=args,argTypes:=d })
  (g:d[0]? = some t) (h:args[0]? = some x) (hs:args.size=1) (i:P.underlying t=some (.array n e)) :
  Yields P (execOp a.eval o) Y M Fz w (.c (.lit (.int .i64 n))):=by
 have b:args=#[x]:=by grind
 subst b;refine Yields.same (v:=.int .i64 n) ?_ (.c (.lit _));simp[execOp,f,resolve,invoke,builtin,Builtin.len_,g,uX i,goInt]
def Ud(R:Rel Y M Fz w)(E:dB Y M Fz w env a.tmps){o:Oper}{t k e:TypeId}{x:Operand}{q:aT}{args:Array Operand}{m:Array TypeId}{n:Nat}(r:o.op=.call { callee:=.builtin .len,args:=args,argTypes:=m })
  (s:m[0]? = some t) (G:args[0]? = some x) (hs:args.size=1) (K:cf x=some q) (u:P.underlying t=some (.map k e))
  (h:(∃b y d,q.ev env=.mp b/\Y[b]? = some (.map y d)/\n=y.length)\/(q.ev env=.c (.lit (.map none))/\n=0)\/∃z,q.ev env=.c (.No z)/\n=z.length) :
  fy P (execOp a.eval o) Y M Fz w Y (.c (.lit (.int .i64 n))):=by
 have g:args=#[x]:=by grind
 subst g;refine fy.same R (v:=.int .i64 n) ?_ (.c (.lit _));have f:=nE E K;rcases h with ⟨b,y,d,p,hb,rfl⟩ | ⟨p,rfl⟩ | ⟨z,p,rfl⟩
 ·rw[p] at f;generalize i:a.eval x=L at f;cases f with
  |mp c X j N=>rw[hb] at j;simp only[au] at j;subst j;obtain ⟨_,O,σ,A,Q,S⟩:=R.blk b c (N rfl);rw[hb] at A;simp only[au] at A;subst A;obtain ⟨F,⟨Z,rfl,_⟩,l,_⟩:=S;simp[execOp,r,resolve,invoke,builtin,Builtin.len_,s,uX u,i,goInt,getObj,Sem.run,Q,l]
 ·rw[p] at f;simp[execOp,r,resolve,invoke,builtin,Builtin.len_,s,uX u,f.ce,goInt]
 ·rw[p] at f;generalize i:a.eval x=L at f;cases f with
  |c f => cases f with
   |No blk d F hF T l U W=>simp[execOp,r,resolve,invoke,builtin,Builtin.len_,s,uX u,i,goInt,getObj,Sem.run,T,l]
theorem V.CG{d:D}{v:Value}(h:V Y M Fz w d v):V Y M Fz w (CG d) v:=by
 unfold Abs.CG;split
 ·have:=h.ce;subst this;exact .c (.cJ (nn:=false) (es:=[]) 0 none 0 (by simp) (by simp) (λ_ _=>default) (by simp) (by simp) (by simp) (by simp))
 ·exact h
theorem DC.CG{cs:List D}{arr:Array Value}(h:DC Y M Fz w cs arr):DC Y M Fz w (cs.map CG) arr:=
 ⟨by simpa using h.1,fun i x u j o=>by
  rw [lS,cC] at j
  obtain ⟨y,s,rfl⟩:=j
  exact ⟨(h.2 i y u s o).1.CG,(h.2 i y u s o).2⟩⟩
def LZ(A:∀c,Fz c->c<w.heap.size)(E:dB Y M Fz w env a.tmps){o:Oper}{t e:TypeId}{x y:Operand}{S T:aT}{n:Nat}{i:TypeInfo}{z:List D}{l c:Int}(W:o.op=.makeSlice t x y)
  (X:P.underlying t=some (.slice e)) (σ:bP P e=some n) (Z:VU P e=some z) (hi:P.info? e=some i) (k:¬(n=0\/z.length≠n)) (hx:cf x=some S) (hy:cf y=some T)
  (hl:tO (S.ev env)=some l) (hc:tO (T.ev env)=some c) (p:0<=l/\l<=c/\Fy c.toNat i.bytes=true) :
  ai P (execOp a.eval o) Y M Fz w (.cells (dJ l.toNat (z.map CG))) (.sl Y.length 0 l.toNat n (l.toNat * n)):=by
 obtain ⟨i',v,g,hv,F⟩:=zed Z;rw[hi] at g;simp only[au] at g;subst g;have d:=(DC.vO (V.dH (Y:=Y) (M:=M) (Fz:=Fz) (w:=w) v) F).CG;simp only[not_or,Un] at k;obtain ⟨aa,j⟩:=k;have q:z.map CG≠[]:=λh=>by simp_all
 rw[<-vR (f:=CG)] at j;generalize z.map CG=z at *;have ab:v.cells.size=n:=by rw[d.1,j]
 obtain ⟨h0,ad,b⟩:=p;simp only[Fy,bG,bz] at b;obtain ⟨⟨af,ak⟩,_⟩:=b;obtain ⟨k1,G⟩:=ja (nE E hx) hl;obtain ⟨k2,K⟩:=ja (nE E hy) hc;obtain ⟨an,L⟩:=GO d q l.toNat c.toNat (by omega);have N:(dJ l.toNat z).length=l.toNat * n:=by rw[ri,j]
 have U:c<=1099511627776:=by omega
 have O:i64.wrap l=l:=IntWalk.i64_in _ (by omega);have Q:i64.wrap c=c:=IntWalk.i64_in _ (by omega)
 let arr:Array Value:=(Array.range (c.toNat * n)).map (λ(x:Nat)=>v.cells[x % v.cells.size]!)
 have r:arr=(Array.range (c.toNat * v.cells.size)).map (v.cells[· % v.cells.size]!):=by grind
 obtain ⟨r1,r2⟩:=qz (P:=P) A (arr:=arr) (cs:=dJ l.toNat z) e (by simp_all) (by rw[r];exact L);refine ⟨_,.slice (some ⟨w.heap.size,0,none⟩) l.toNat c.toNat,?_,r2,?_⟩
 ·have s:∀m:Int,0<=m->m<=c->(m<0 || (i.bytes:Int) * m > 2 ^ 48)=false:=by
   intro m av R;have h1:(i.bytes:Int) * m<=i.bytes * c:=Int.mul_le_mul_of_nonneg_left R (by omega)
   grind
  simp only[execOp,W,Instr.makeSlice,Sem.run_bind,uX X,Result.andThen_ok,G,K,asInt,asIntOf,Sem.run_pure,zds hi,O,Q];rw[s c (by omega) (MG _)];rw[if_neg (by simp_all)];simp only[Sem.run_bind,Sem.run_pure,Result.andThen_ok,run_askRoom,Qe σ];by_cases u:c.toNat * n=0
  ·have ax:c.toNat=0:=by
    grind [Nat.mul_eq_zero]
   have a0:l.toNat=0:=by omega
   rw[if_pos u];simp only[Sem.run_bind,Sem.run_pure,Result.andThen_ok];have:(Array.range (c.toNat * n)).map (λ(x:Nat)=>(#[]:Array Value)[x % (#[]:Array Value).size]!)=arr:=by grind
   simp_all
  ·rw[if_neg u];simp only[Sem.run_bind,jT hi hv,Result.andThen_ok,Sem.run_pure]
   simp_all
 ·rw[<-N];refine V.Yw (cap:=c.toNat) (by omega) ?_ (by omega) (by simp_all)
  grind
end
end Go.Abs
end
section
namespace Go.Abs
variable[Gl]
section
variable{P:Program}{Y Y':ar}{M M':Nat->Option Nat}{Fz:Nat->Prop}{w w':World}{env:List D}{a:Act}
def Yy{o:Oper}{t:TypeId}(b:o.op=.makeMap t none):ai P (execOp a.eval o) Y M Fz w (.map [] 0) (.mp Y.length):=by
 refine ⟨.map #[] 0,.map (some w.heap.size),?_,?_,?_⟩
 ·simp only[execOp,b,Instr.makeMap,yCg,Sem.run_bind,Sem.run_pure,Result.andThen_ok,run_newObj];rfl
 ·exact ⟨#[],⟨0,rfl,.nil 0⟩,rfl,λi k d n e h=>by simp at h⟩
 ·exact .mp _ (.map [] 0) (by simp) (λ_=>by simp[wV])
def Rel.SF(R:Rel Y M Fz w){b c:Nat}{es:List (Value×D×Nat)}{j:Nat}(hb:Y[b]? = some (.map es j))(u:M b=some c) :
  ∃arr o,w.heap[c]? = some (.map arr o)/\(arr.size=es.length/\jb arr o)/\∀(i:Nat) k d n e,es[i]? = some (k,d,n)->arr[i]? = some e->e.key=k/\True/\V Y M Fz w d e.val:=by
 obtain ⟨_,x,E,s,F,z⟩:=R.blk b c u;rw[hb] at s;simp only[au] at s;subst s;obtain ⟨arr,⟨o,rfl,G⟩,A,K⟩:=z
 grind
theorem V.Jl{b:Nat}{v:Value}{es:List (Value×D×Nat)}{i:Nat}(h:V Y M Fz w (.mp b) v)(hb:Y[b]? = some (.map es i)):∃c,v=.map (some c)/\M b=some c:=by
 cases h with
 |mp c s j o=>rw[hb] at j;simp only[au] at j;subst j;exact ⟨c,rfl,o rfl⟩
theorem zee{d:TypeId}{e:TypeDesc}(f:P.underlying d=some e)(hs:gp e=true)(b:Bool)(v:Value)(w:World):(Instr.checkKey b 10000 d v).run P w=.ok () w:=by show (Instr.checkKey b (9999+1) d v).run P w=_;generalize 9999=n;unfold Instr.checkKey;cases e <;> simp[gp] at hs <;> simp[uX f]
theorem Oi{kind:TypeDesc}{k:Value}:∀(es:List (Value×D×Nat))(l:List MapEntry)(i:Nat)(r:Option (Nat×D)),l.length=es.length ->
  (∀(j:Nat) k d n e,es[j]? = some (k,d,n)->l[j]? = some e->e.key=k/\V Y M Fz w d e.val)->xM kind k es i=some r ->
  ∃ b, Instr.findNow kind k l i = some b /\ (match r, b with
   |none,none=>True
   |some (j,d),some (m,v)=>j=m/\i<=j/\j<i+es.length/\V Y M Fz w d v/\∃e,l[j-i]? = some e/\Instr.sameNow kind k e.key=some true
   |_,_=>False):=by
 intro es;induction es with
 |nil=>
  intro l i r hl _ h;simp only[xM,au] at h;subst h;have:l=[]:=by simp_all
  subst this;exact ⟨none,rfl,trivial⟩
 |cons x es ih=>
  intro l i r hl f h;obtain ⟨g,d,n⟩:=x;cases l with
  |nil=>grind
  |cons e l=>
   obtain ⟨hk,q⟩:=f 0 g d n e (by simp) (by simp);simp only[xM] at h;simp only[Instr.findNow,hk];cases hs:Instr.sameNow kind k g with
   |none=>simp_all
   |some t=>
    cases t with
    |true=>grind
    |false=>
     simp only[hs] at h;obtain ⟨b,o,p⟩:=ih l (i+1) r (by simp_all) (λj k d n e o p=>f (j+1) k d n e (by simp_all) (by simp_all)) h
     grind
theorem Ik{d:D}{v b:Value}(h:V Y M Fz w d b)(hl:kR d=some v):b=v:=by
 cases d with
 |c x=>cases x <;> simp[kR] at hl;grind [V.ce]
 |_=>grind [kR]
theorem Ve(R:Rel Y M Fz w)(E:dB Y M Fz w env a.tmps){o:Oper}{t kt e:TypeId}{X:TypeDesc}{m k:Operand}{σ ok:aT}{f:Bool}{zero d:D}{s:Bool}{Z:Value}{es:List (Value×D×Nat)}{r:Option (Nat×D)}
  (ho:o.op=.lookup t m k f) (hu:P.underlying t=some (.map kt e)) (hk:P.underlying kt=some X) (hs:gp X=true) (hz:zeroOf P e=some zero) (hm:cf m=some σ) (aa:cf k=some ok)
  (ab:kR (ok.ev env)=some Z) (ad:(σ.ev env=.c (.lit (.map none))/\es=[])\/(∃b g,σ.ev env=.mp b/\Y[b]? = some (.map es g))\/∃fs,σ.ev env=.c (.No fs)/\es=fs.map λp=>(p.1,.c p.2,0))
  (hf:xM X Z es 0=some r) (hr:(d,s)=Ow zero r) :
  fy P (execOp a.eval o) Y M Fz w Y (if f then .aV [d,.c (.lit (.bool s))] else d):=by
 have F:=Ik (nE E aa) ab;obtain ⟨i,K,hi,N,af⟩:∃i K,P.info? e=some i/\i.zero=some K/\zero=dH K:=by
  unfold zeroOf at hz
  grind [Option.map_eq_some_iff]
 have G:=nE E hm;obtain ⟨l,O,ak,Q⟩:∃l:Array MapEntry,((a.eval m=.map none/\l=#[])\/∃c,a.eval m=.map (some c)/\∃g,(getObj c).run P w=.ok (.map l g) w)/\l.size=es.length /\
   ∀(i:Nat) k d n e,es[i]? = some (k,d,n)->l[i]? = some e->e.key=k/\V Y M Fz w d e.val:=by
  rcases ad with ⟨S,rfl⟩ | ⟨b,g,S,hb⟩ | ⟨fs,S,rfl⟩
  ·rw[S] at G;exact ⟨#[],.inl ⟨G.ce,rfl⟩,rfl,λi k d n e h=>by simp at h⟩
  ·rw[S] at G;obtain ⟨c,A,hM⟩:=G.Jl hb;obtain ⟨l,ck,T,⟨h2,_⟩,h3⟩:=R.SF hb hM
   grind [Go.getObj,Go.Sem.run]
  ·rw[S] at G;generalize A:a.eval m=va at G;cases G with
   |c G => cases G with
    |No blk g l hF hh ak an av=>refine ⟨l,.inr ⟨blk,rfl,g,by simp[getObj,Sem.run,hh]⟩,by simp_all,λi k d n e x y=>?_⟩;simp only[lS,cC,aU] at x;obtain ⟨p,hp,rfl,rfl,_⟩:=x;exact ⟨an i p e hp y,.c (av i p e hp y)⟩
 obtain ⟨U,ax,a0⟩:=Oi (kind:=X) (k:=Z) es l.toList 0 r (by omega)
  (λj k d n e T h2=>Q j k d n e T (by simp_all)) hf
 have L:(Instr.findKey kt Z l.toList).run P w=.ok U w:=by simp only[Instr.findKey,Sem.run_bind,uX hk,Result.andThen_ok,ax,Sem.run_pure]
 have W:∀v z,(U=none/\v=K/\z=false\/∃j,U=some (j,v)/\z=true) ->
   (execOp a.eval o).run P w=.ok (.value (if f then .tuple #[v,.bool z] else v)) w:=by
  intro v z h;rcases h with ⟨rfl,rfl,rfl⟩ | ⟨j,rfl,rfl⟩ <;> rcases O with ⟨A,rfl⟩ | ⟨c,A,g,hg⟩
  ·simp only[execOp,ho,Instr.lookup,Sem.run_bind,uX hu,Result.andThen_ok,A,Sem.run_pure,F,zee hk hs,L,jT hi N]
  ·simp only[execOp,ho,Instr.lookup,Sem.run_bind,uX hu,Result.andThen_ok,A,hg,Sem.run_pure,F,zee hk hs,L,jT hi N]
  ·grind
  ·simp only[execOp,ho,Instr.lookup,Sem.run_bind,uX hu,Result.andThen_ok,A,hg,Sem.run_pure,F,zee hk hs,L]
 have fin:∀v z,V Y M Fz w d v->s=z->V Y M Fz w (if f then .aV [d,.c (.lit (.bool s))] else d) (if f then .tuple #[v,.bool z] else v):=by
  intro v z hV ht;subst ht;cases f
  ·exact hV
  ·refine .aV _ rfl (λi x u T h2=>?_)
   match i with
   |0=>simp_all
   |1=>simp at T h2;subst T h2;exact .c (.lit _)
   |i+2=>grind
 cases r with
 |none=>
  cases U with
  |some _=>simp_all
  |none=>simp only[Ow,aU] at hr;obtain ⟨rfl,rfl⟩:=hr;exact fy.same R (W K false (.inl ⟨rfl,rfl,rfl⟩)) (fin K false (af▸V.dH K) rfl)
 |some p=>
  obtain ⟨j,d'⟩:=p;cases U with
  |none=>simp_all
  |some q=>
   obtain ⟨j',v⟩:=q;obtain ⟨rfl,_,_,hV,_⟩:=a0;simp only[Ow,aU] at hr
   grind [fy.same]
def PZ{b:TypeDesc}{x y:Value}(hs:gp b=true)(h:Instr.sameNow b x y=some true):x=y/\∀n,Instr.sameBits n x y=true:=by
 cases b <;> simp[gp] at hs
 cases x <;> cases y <;> simp[Instr.sameNow] at h
 obtain ⟨rfl,rfl⟩:=h;exact ⟨rfl,λn=>by grind [Go.Instr.sameBits]⟩
theorem upd_ok(R:Rel Y M Fz w)(E:dB Y M Fz w env a.tmps){o:Oper}{t kt e:TypeId}{kd:TypeDesc}{m k x:Operand}{om ok W:aT}{K:Value}{b f:Nat}{es:List (Value×D×Nat)}{r:Option (Nat×D)}
  (ho:o.op=.mapUpdate t m k x\/o.op=.insert t m k x) (hu:P.underlying t=some (.map kt e)) (hk:P.underlying kt=some kd) (hs:gp kd=true) (hm:cf m=some om) (av:cf k=some ok) (hx:cf x=some W)
  (ax:kR (ok.ev env)=some K) (he:om.ev env=.mp b) (hb:Y[b]? = some (.map es f)) (hf:xM kd K es 0=some r) :
  fy P (execOp a.eval o) Y M Fz w (Y.set b (match r with
   |some (i,_)=>.map (es.modify i λ(k,_,n)=>(k,W.ev env,n)) f
   |none=>.map (es++[(K,W.ev env,f)]) (f+1))) (.aV []):=by
 have σ:execOp a.eval o=execOp a.eval { o with op:=.mapUpdate t m k x }:=by rcases ho with ho | ho <;> simp only[execOp,ho]
 have N:=Ik (nE E av) ax;have hv:=nE E hm;rw[he] at hv;have Z:=nE E hx;obtain ⟨c,aa,hM⟩:=hv.Jl hb;obtain ⟨g,O,Q,⟨a0,hB⟩,s⟩:=R.SF hb hM;obtain ⟨r',a1,a2⟩:=Oi (kind:=kd) (k:=K) es g.toList 0 r (by omega)
  (λj k d n e Q F=>let ⟨x,_,y⟩:=s j k d n e Q (by simp_all);⟨x,y⟩) hf
 have ab:(Instr.findKey kt K g.toList).run P w=.ok r' w:=by simp only[Instr.findKey,Sem.run_bind,uX hk,Result.andThen_ok,a1,Sem.run_pure]
 have ad:(getObj c).run P w=.ok (.map g O) w:=by simp[getObj,Sem.run,Q]
 have af:∀G,(setObj c G).run P w=.ok () (cQ w c G):=by intro G;simp only[setObj,Sem.run,Q];rfl
 have u:∀G:Obj,∀S T fr,Obj.map g O=.cells S T fr->∃U,G=.cells U T fr/\U.size=S.size:=by simp_all
 have fin:∀z G,z.sz=0->(execOp a.eval o).run P w=.ok .skip (cQ w c G)->ca (Y.set b z) M Fz (cQ w c G) z G->fy P (execOp a.eval o) Y M Fz w (Y.set b z) (.aV []):=by
  intro z G hz ak a5;have A:(Ob.map es f).sz<=z.sz:=by simp[Ob.sz]
  exact ⟨.skip,undef,_,M,ak,.inr ⟨rfl,rfl⟩,R.yg hM hb Q A (u G) a5,.aV #[] rfl (λi d v h=>by simp at h),bF.yg R hM hb Q A (u G),by simp⟩
 cases r with
 |none=>
  cases r' with
  |some _=>simp_all
  |none=>
   refine fin (.map (es++[(K,W.ev env,f)]) (f+1)) (.map (g.push { key:=K,val:=a.eval x,born:=O }) (O+1)) rfl ?_ ?_
   ·rw[σ];simp only[execOp,Instr.mapUpdate,Sem.run_bind,uX hu,Result.andThen_ok,aa,ad,N,zee hk hs,ab,af,Sem.run_pure]
   ·have A:(Ob.map es f).sz<=(Ob.map (es++[(K,W.ev env,f)]) (f+1)).sz:=by simp[Ob.sz]
    have EV:=bF.yg R hM hb Q A (u (.map (g.push { key:=K,val:=a.eval x,born:=O }) (O+1)));refine ⟨_,⟨_,rfl,hB.push _ _⟩,by grind,λi k' d n en F L=>?_⟩;by_cases hi:i<es.length
    ·rw[FF hi] at F;rw[Array.getElem?_push_lt (by omega)] at L;obtain ⟨x1,x2,x3⟩:=s i k' d n en F (by simp_all);exact ⟨x1,x2,x3.mono EV⟩
    ·have a6:=(fq.1 F).1;simp at a6;have:i=es.length:=by omega
     subst this;rw[Np (cP _)] at F;simp at F;obtain ⟨rfl,rfl,rfl⟩:=F;rw[<-a0] at L;simp at L;subst L;exact ⟨rfl,trivial,Z.mono EV⟩
 |some p=>
  obtain ⟨j,d'⟩:=p;cases r' with
  |none=>simp_all
  |some q=>
   obtain ⟨j',v⟩:=q;obtain ⟨rfl,_,hj,_,a7,l,a8⟩:=a2;simp only[yC5,TJ] at l;obtain ⟨an,X⟩:=PZ hs a8;have bb:j<g.size:=(CK.1 l).1;have a9:∀VQ new,Instr.sameBits 10000 VQ new=true->(Instr.keyThatStays VQ new).run P w=.ok new w:=by intro VQ new h;simp only[Instr.keyThatStays,h,if_true,Sem.run_pure]
   refine fin (.map (es.modify j λ(k,_,n)=>(k,W.ev env,n)) f) (.map (g.modify j λe=>{ e with key:=K,val:=a.eval x }) O) rfl ?_ ?_
   ·rw[σ];simp only[execOp,Instr.mapUpdate,Sem.run_bind,uX hu,Result.andThen_ok,aa,ad,N,zee hk hs,ab];rw[l];simp only[Cs,OE];rw[a9 _ _ (by have:=X 10000;rw[an] at this ⊢;exact this)];simp only[Result.andThen_ok,af,Sem.run_pure]
   ·have A:(Ob.map es f).sz<=(Ob.map (es.modify j λ(k,_,n)=>(k,W.ev env,n)) f).sz:=by simp[Ob.sz]
    have EV:=bF.yg R hM hb Q A (u (.map (g.modify j λe=>{ e with key:=K,val:=a.eval x }) O));refine ⟨_,⟨_,rfl,hB.same (by
     apply VW
     grind)⟩,by grind,λi k' d n en F L=>?_⟩
    rw[List.getElem?_modify] at F;rw[Array.getElem?_modify] at L;by_cases hi:j=i
    ·subst hi;rw[l] at L;simp only[if_true,Cs,au] at L;subst L;cases h4:es[j]? with
     |none=>simp_all
     |some p=>obtain ⟨k0,d0,n0⟩:=p;simp[h4] at F;obtain ⟨rfl,rfl,rfl⟩:=F;obtain ⟨x1,x2,_⟩:=s j k0 d0 n0 a7 h4 l;exact ⟨by simp_all,x2,Z.mono EV⟩
    ·simp only[hi,cw] at F L;obtain ⟨x1,x2,x3⟩:=s i k' d n en (by simp_all) (by omega);exact ⟨x1,x2,x3.mono EV⟩
end
end Go.Abs
end
section
namespace Go.Abs
variable[Gl]
section
variable{P:Program}{Y Y':ar}{M M':Nat->Option Nat}{Fz:Nat->Prop}{w w':World}{env:List D}{a:Act}
theorem UU(n:Nat):∀(r c:Nat),c<=n+(n+768) / 4->Builtin.growBy n r c<=n+(n+768) / 4:=by
 intro r;induction r with
 |zero=>intro c h;exact h
 |succ r ih=>grind [Go.Builtin.growBy]
def OK(n c:Nat)(h:c<n):Builtin.nextslicecap n c<=2 * n+1000:=by grind [Go.Builtin.nextslicecap,UU]
theorem SO{c:Nat}{o:Obj}(h:w.heap[c]? = some o):cQ w c o=w:=by
 unfold cQ;have:w.heap.setIfInBounds c o=w.heap:=by grind
 rw[this]
def fP(P:Program)(T:TypeId)(c:Nat)(xs:List Value)(off:Nat)(w:World)(arr:Array Value)
  (h:w.heap[c]? = some (.cells arr T (0,0))) (b:∀x∈xs,x.oneCell'=true) (hl:off+xs.length<=arr.size) :
  (storeCells ⟨c,off,none⟩ xs).run P w=.ok () (cQ w c (.cells (cU arr off xs) T (0,0))):=by
 rw[vd P T c xs 0 off w arr h b (by omega)];congr 1;split
 ·rename_i d;subst d;have:cU arr off []=arr:=by grind [cU]
  grind [SO]
 ·rfl
def DC.ones{cs:List D}{arr:Array Value}(h:DC Y M Fz w cs arr):∀u∈arr.toList,u.oneCell'=true:=by intro u j;obtain ⟨i,hi,rfl⟩:=OA.1 j;simp only[yBl] at hi;exact (h.2 i _ _ (dW (by rw[<-h.1];exact hi)) (qB (by omega))).2
def qN{t v e:TypeId}{y:TypeId}{k:Array TypeId}{ty:TypeId}{args:Array Value}{g:Option Addr}{d f n h:Nat}{m:Option Addr}{aB:Nat}{i:TypeInfo}{x:Value}
    (z:k[0]? = some t) (o:k[1]? = some v) (A:P.underlying t=some (.slice e)) (p:P.underlying v=some (.slice y)) (q:bP P e=some aB) (hi:P.info? e=some i) (E:i.zero=some x)
    (F:args[0]? = some (.slice g d f)) (G:args[1]? = some (.slice m n h)) (j:Fy (d+n) i.bytes=true) (w:World) :
    (Builtin.append_ k ty args).run P w =
      if d+n≤f then
        ((Builtin.firstCells aB n (.slice m n h)).run P w).andThen fun new w1=>
          match (generalizing:=false) g with
          | some b=>((storeCells (b.add (d * aB)) new.toList).run P w1).andThen fun _ w2=>.ok (.slice g (d+n) f) w2
          | none=>.ok (.slice g (d+n) f) w1
      else
        ((Builtin.firstCells aB d (.slice g d f)).run P w.drew).andThen fun K w1=>
          ((Builtin.firstCells aB n (.slice m n h)).run P w1).andThen fun new w2=>
            ((newRow e (K++new++Builtin.zeroCells x.cells ((Question.appendCap (d+n) f e).cut (w.tape w.drawn (.appendCap (d+n) f e))-(d+n)))).run P w2).andThen fun r w3=>
              .ok (.slice (some r) (d+n) ((Question.appendCap (d+n) f e).cut (w.tape w.drawn (.appendCap (d+n) f e)))) w3:=by
  simp only [Fy,bG,bz] at j
  obtain ⟨⟨L,N⟩,O⟩:=j
  have l:∀w,(Builtin.lenOf (.slice m n h)).run P w=.ok n w:=fun w=>rfl
  simp only [Builtin.append_,z,o,F,G,Sem.run_bind,uX A,uX p,Qe q,Result.andThen_ok,Sem.run_pure,b_,cw,Bool.not_false,if_true,l]
  split
  · grind [Go.Sem.run_bind,Go.Sem.run_pure]
  · rename_i Q
    have s:¬(((d+n:Nat):Int) > IntKind.i64.max/\(False\/i.bytes=0)):=by
      have:IntKind.i64.max=9223372036854775807:=by decide
      omega
    have u:¬(Builtin.nextslicecap (d+n) f * i.bytes > 2 ^ 48):=by
      have R:=OK (d+n) f (by omega)
      have S:Builtin.nextslicecap (d+n) f * i.bytes≤(2 * (d+n)+1000) * i.bytes:=HT _ R
      grind
    simp only [Sem.run_bind,zds hi,Result.andThen_ok,b_]
    rw [if_neg s]
    simp only [Sem.run_bind,Sem.run_pure,zds hi,Result.andThen_ok]
    rw [if_neg u]
    simp only [Sem.run_bind,Sem.run_pure,zds hi,Result.andThen_ok,run_choose,Question.forced,b_,cw,run_askRoom,jT hi E,World.drew_eq]
def Py(n c:Nat)(e:TypeId)(t:Nat):n<=(Question.appendCap n c e).cut t:=by grind [Go.Question.cut]
theorem iu(z:Array Value)(n:Nat):(Builtin.zeroCells z n).size=n * z.size:=by simp[Builtin.zeroCells]
def bF.ph(R:Rel Y M Fz w):bF Y M Fz w (Y++[.cells []]) M Fz w:={
 size:=cP _
 frame:=λ_ _ _=>rfl
 lP:=λb c h=>.inl ⟨b,h⟩
 fz:=λc h=>⟨h,rfl⟩
 nF:=λc h=>.inl h
 qe:=λc i T o h=>⟨i,h,rfl⟩
 keep:=λb j h=>⟨j,by grind,cP _,λ_=>rfl⟩
 out:=⟨rfl,rfl,rfl⟩ }
def Rel.ph(R:Rel Y M Fz w):Rel (Y++[.cells []]) M Fz w:=⟨λb c h=>by obtain ⟨i,j,o,x,s,u⟩:=R.blk b c h;exact ⟨i,j,o,by grind,s,u.mono (bF.ph R)⟩,R.inj,R.fz,R.gl⟩
def TM(R:Rel Y M Fz w)(E:dB Y M Fz w env a.tmps){o:Oper}{t t1 e et:TypeId}{args:Array Operand}{a2:Array TypeId}{s x:Operand}{os ox:aT}{aB:Nat}{i:TypeInfo}{z:List D}{d:D}{wr:List Nat}
  (ho:o.op=.call { callee:=.builtin .append,args:=args,argTypes:=a2 }) (ht:a2[0]? = some t) (a5:a2[1]? = some t1) (cp:args[0]? = some s) (cv:args[1]? = some x)
  (hu:P.underlying t=some (.slice e)) (a6:P.underlying t1=some (.slice et)) (a7:bP P e=some aB) (hi:P.info? e=some i) (hz:VU P e=some z) (q:¬(aB=0\/z.length≠aB))
  (hs:cf s=some os) (hx:cf x=some ox)
  (h:(do
  let xd:=ox.ev env
  let n <-KK Y xd
  let new <-zdL Y aB n xd
  match os.ev env with
  |.c (.lit (.slice none 0 0))=>if Fy n i.bytes then some (.sl Y.length 0 n aB (n * aB),Y++[.cells new],[]) else none
  |.sl b off len m sz => do
   let cs <-nW Y b sz
   if m=aB/\off=0/\len * aB=sz/\Fy (len+n) i.bytes then
    if n=0 then some (.sl b 0 len aB sz,Y,[b])
    else some (.sl b 0 (len+n) aB (sz+n * aB),Y.set b (.cells (cs++new)),[b])
   else if m=aB/\off=0/\(len+n) * aB<=sz/\Fy (len+n) i.bytes then
    if n=0 then some (.sl b 0 len aB sz,Y,[b])
    else some (.sl b 0 (len+n) aB sz,Y.set b (.cells (put cs (len * aB) new)),[b])
   else none
  |_=>none)=some (d,Y',wr)):fy P (execOp a.eval o) Y M Fz w Y' d:=by
 obtain ⟨i',zv,bd,a8,b7⟩:=zed hz;rw[hi] at bd;simp only[au] at bd;subst bd;simp only[not_or,Un] at q;obtain ⟨p,c0⟩:=q;have be:zv.cells.size=aB:=by have:=(DC.vO (V.dH (Y:=Y) (M:=M) (Fz:=Fz) (w:=w) zv) b7).1;omega
 simp only[eY,c_] at h;obtain ⟨n,hn,new,A,h⟩:=h;have S:=nE E hx;have aa:=nE E hs;obtain ⟨b8,bv,U⟩:=qH S hn;have an:∀r,(Builtin.append_ a2 o.type (args.map a.eval)).run P w=r->(execOp a.eval o).run P w=r.andThen λv w'=>.ok (.value v) w':=by intro r hr;simp only[execOp,ho,resolve,invoke,builtin,Sem.run_bind,Sem.run_pure,Result.andThen_ok,hr]
 have a9:(args.map a.eval)[1]? = some (.slice b8 n bv):=by simp_all
 split at h
 ·rename_i bh;rw[bh] at aa;have c2:=aa.ce;have ab:(args.map a.eval)[0]? = some (.slice none 0 0):=by simp_all
  split at h
  ·rename_i F;have f:=qN (ty:=o.type) ht a5 hu a6 a7 hi a8 ab a9 (by simp_all) w;simp only[au,aU] at h;obtain ⟨rfl,rfl,_⟩:=h;by_cases q:n=0
   ·subst q;obtain ⟨arr,l,g,k⟩:=zbA (P:=P) R S p A;rw[U] at l;rw[if_pos (by omega),l] at f;have he:new=[]:=ZI (by omega);subst he;refine ⟨.value (.slice none 0 0),.slice none 0 0,w,M,by simp_all,.inl rfl,R.ph,?_,bF.ph R,by simp⟩;exact .sl none 0 0 (by simp) (.cells []) (by simp) (by omega) (λ_=>.inl ⟨rfl,rfl,rfl,rfl,rfl,by simp⟩)
   ·rw[if_neg (by omega)] at f;simp only[PL] at f;have EH:bF Y M Fz w Y M Fz w.drew:=bF.heap R rfl ⟨rfl,rfl,rfl⟩;have R1:Rel Y M Fz w.drew:=R.heap rfl ⟨rfl,rfl,rfl⟩;obtain ⟨arr,l,g,k⟩:=zbA (P:=P) R1 (S.mono EH) p A;rw[U] at l;have av:(Builtin.firstCells aB 0 (.slice none 0 0)).run P w.drew=.ok #[] w.drew:=rfl;rw[av] at f;simp only[Result.andThen_ok,l] at f;have ax:=Py n 0 e (w.tape w.drawn (.appendCap n 0 e));generalize (Question.appendCap n 0 e).cut (w.tape w.drawn (.appendCap n 0 e))=W at f ax;have hm:n * aB+(W-n) * aB=W * aB:=by rw[<-OI];simp_all
    have a0:(#[]++arr++Builtin.zeroCells zv.cells (W-n)).size=W * aB:=by simp only[Array.size_append,iu,be,g.1,k,Array.size_empty];omega
    obtain ⟨r1,r2⟩:=qz (P:=P) R1.fz (cs:=new) (arr:=#[]++arr++Builtin.zeroCells zv.cells (W-n)) e (by omega) (λj y u Q O=>by have hj:=(fq.1 Q).1;rw[yBP (by simp[g.1];exact hj)] at O;exact g.2 j y u Q (by simp_all))
    rw[r1] at f;refine ⟨_,_,_,_,by rw[an _ f];rfl,.inl rfl,R1.alloc _ _ r2,?_,EH.trans (bF.alloc R1.fz _ _) (cP _),by simp⟩;rw[<-k];exact V.Yw (by omega) (by omega) (by omega) (by omega)
  simp_all
 ·rename_i b off len m sz bh;rw[bh] at aa;simp only[c_] at h;obtain ⟨cs,hr,h⟩:=h;split at h
  ·rename_i G;obtain ⟨rfl,rfl,bc,F⟩:=G;obtain ⟨hb,bw⟩:=Qv hr;rcases aa.fU hr with ⟨a1,e2,_,e4,e6⟩ | ⟨c,o',cap,K,T,hM,a1,b0,b1,hh,b2,_⟩
   ·subst e2 e4 e6;have ab:(args.map a.eval)[0]? = some (.slice none 0 0):=by simp_all
    have f:=qN (ty:=o.type) ht a5 hu a6 a7 hi a8 ab a9 F w;split at h
    ·rename_i q;subst q;simp only[au,aU] at h;obtain ⟨rfl,rfl,_⟩:=h;obtain ⟨arr,l,g,k⟩:=zbA (P:=P) R S p A;rw[U] at l;rw[if_pos (by omega),l] at f;refine fy.same R (v:=.slice none 0 0) ?_ (a1▸aa)
     simp_all
    ·rename_i q;simp only[au,aU] at h;obtain ⟨rfl,rfl,_⟩:=h;rw[if_neg (by omega)] at f;simp only[PL] at f;have EH:bF Y M Fz w Y M Fz w.drew:=bF.heap R rfl ⟨rfl,rfl,rfl⟩;have R1:Rel Y M Fz w.drew:=R.heap rfl ⟨rfl,rfl,rfl⟩;obtain ⟨arr,l,g,k⟩:=zbA (P:=P) R1 (S.mono EH) p A;rw[U] at l;have av:(Builtin.firstCells m 0 (.slice none 0 0)).run P w.drew=.ok #[] w.drew:=rfl;rw[av] at f;simp only[Result.andThen_ok,l] at f;have ax:=Py n 0 e (w.tape w.drawn (.appendCap n 0 e));generalize (Question.appendCap n 0 e).cut (w.tape w.drawn (.appendCap n 0 e))=W at f ax;have hm:n * m+(W-n) * m=W * m:=by rw[<-OI];simp_all
     have a0:(#[]++arr++Builtin.zeroCells zv.cells (W-n)).size=W * m:=by simp only[Array.size_append,iu,be,g.1,k,Array.size_empty];omega
     have ad:∀row,(newRow e row).run P w.drew=.ok ⟨w.drew.heap.size,0,none⟩ (w.drew.alloc (.cells row e)):=λ_=>rfl;rw[ad] at f;have b9:0<n * m:=Nat.mul_pos (by omega) (by omega);have L:(Ob.cells []).sz<(Ob.cells ([]++new)).sz:=by grind [Ob.sz]
     have EV:=bF.move (o':=.cells (#[]++arr++Builtin.zeroCells zv.cells (W-n)) e) R1 hb L;refine ⟨_,_,_,_,by rw[an _ f];rfl,.inl rfl,R1.move hb L ?_,?_,EH.trans EV (cP _),by simp⟩
     ·refine ⟨_,e,rfl,by grind,λj d v Q O=>?_⟩;have bb:=(fq.1 Q).1;simp[k] at bb;rw[yBP (by simp[g.1,k];omega)] at O;have:=g.2 j d v (by simp_all) (by simp_all);exact ⟨this.1.mono EV,this.2⟩
     ·have bi:=(fq.1 hb).1;refine .sl _ _ _ (by simp) (.cells ([]++new)) (by simp_all) (by grind [Ob.sz]) (λ_=>.inr ?_);refine ⟨w.drew.heap.size,0,_,e,by simp[wV],rfl,by omega,by omega,.inl rfl,heap_alloc_new _ _,by omega,by simp⟩
   have ab:(args.map a.eval)[0]? = some (.slice (some ⟨c,o',none⟩) len cap):=by simp_all
   have f:=qN (ty:=o.type) ht a5 hu a6 a7 hi a8 ab a9 F w;obtain ⟨bk,T',af,cg,bl⟩:=R.row hM hb;rw[hh] at af;simp only[au,Obj.cells.injEq,NT] at af;obtain ⟨rfl,rfl⟩:=af;split at h
   ·rename_i q;subst q;simp only[au,aU] at h;obtain ⟨rfl,rfl,_⟩:=h;obtain ⟨arr,l,g,k⟩:=zbA (P:=P) R S p A;rw[U] at l;rw[if_pos (by omega),l] at f;have b3:arr.toList=[]:=by
     have:arr.size=0:=by rw[g.1,k];omega
     simp_all
    grind [Go.Result.andThen_ok,Go.storeCells,Go.Sem.run_pure,fy.same]
   ·rename_i q;simp only[au,aU] at h;obtain ⟨rfl,rfl,_⟩:=h;by_cases X:len+n<=cap
    ·rw[if_pos X] at f;obtain ⟨arr,l,g,k⟩:=zbA (P:=P) R S p A;rw[U] at l;have bt:o'=0:=by
      omega
     subst bt;have hm:(len+n) * m<=cap * m:=HT _ X;rw[OI] at hm;have bu:=fP P T c arr.toList (0+len * m) w K hh g.ones (by simp[g.1,k];omega);rw[l] at f;simp only[Result.andThen_ok,eW,bu] at f;have L:(Ob.cells cs).sz<=(Ob.cells (cs++new)).sz:=by simp[Ob.sz]
     have σ:∀N T1 fr,Obj.cells K T (0,0)=.cells N T1 fr->∃Z,Obj.cells (cU K (0+len * m) arr.toList) T (0,0)=.cells Z T1 fr/\Z.size=N.size:=by intro N T1 fr h;simp only[Obj.cells.injEq] at h;obtain ⟨rfl,rfl,rfl⟩:=h;exact ⟨_,rfl,VR (by simp[g.1,k];omega)⟩
     have EV:=bF.yg R hM hb hh L σ;refine ⟨_,_,_,M,by rw[an _ f];rfl,.inl rfl,R.yg hM hb hh L σ ?_,?_,EV,by simp⟩
     ·refine ⟨_,T,rfl,?_,λj d v Q O=>?_⟩
      ·grind
      ·rw[cL (by simp[g.1,k];omega)] at O;simp only[yBl,g.1,k] at O;by_cases hj:j<cs.length
       ·rw[FF hj] at Q;rw[if_neg (by omega)] at O;have:=bl j d v Q O;exact ⟨this.1.mono EV,this.2⟩
       ·rw[Np (by omega)] at Q;have bb:=(fq.1 Q).1;rw[if_pos (by omega)] at O;have:=g.2 (j-cs.length) d v Q (by
         simp_all)
        exact ⟨this.1.mono EV,this.2⟩
     ·have bi:=(fq.1 hb).1;refine .sl _ _ _ (by simp) (.cells (cs++new)) (by simp_all) (by grind [Ob.sz]) (λ_=>.inr ?_);refine ⟨c,0,_,T,hM,rfl,rfl,⟨X,by omega⟩,.inl rfl,eU (R.lt hM).2,?_,?_⟩
      ·simp_all
      grind
    ·rw[if_neg X] at f;have EH:bF Y M Fz w Y M Fz w.drew:=bF.heap R rfl ⟨rfl,rfl,rfl⟩;have R1:Rel Y M Fz w.drew:=R.heap rfl ⟨rfl,rfl,rfl⟩;obtain ⟨arr,l,g,k⟩:=zbA (P:=P) R1 (S.mono EH) p A;rw[U] at l;have ch:zdL Y m len (.sl b 0 len m sz)=some cs:=by
      have hc:m=m/\len<=len/\0+len * m<=sz:=⟨rfl,cP _,by omega⟩;show ((nW Y b sz).bind λcs=>if m=m/\len<=len/\0+len * m<=sz then some ((cs.drop 0).take (len * m)) else none)=some cs
      grind
     obtain ⟨VQ,b4,ak,ck⟩:=zbA (P:=P) R1 (aa.mono EH) p ch;rw[a1] at b4;rw[b4] at f;simp only[Result.andThen_ok,l] at f;have ax:=Py (len+n) cap e (w.tape w.drawn (.appendCap (len+n) cap e));generalize (Question.appendCap (len+n) cap e).cut (w.tape w.drawn (.appendCap (len+n) cap e))=W at f ax;have hm:(len+n) * m+(W-(len+n)) * m=W * m:=by rw[<-OI];simp_all
     rw[OI] at hm;have a0:(VQ++arr++Builtin.zeroCells zv.cells (W-(len+n))).size=W * m:=by simp only[Array.size_append,iu,be,g.1,k,ak.1,ck];omega
     have ad:∀row,(newRow e row).run P w.drew=.ok ⟨w.drew.heap.size,0,none⟩ (w.drew.alloc (.cells row e)):=λ_=>rfl;rw[ad] at f;have b9:0<n * m:=Nat.mul_pos (by omega) (by omega);have L:(Ob.cells cs).sz<(Ob.cells (cs++new)).sz:=by grind [Ob.sz]
     have EV:=bF.move (o':=.cells (VQ++arr++Builtin.zeroCells zv.cells (W-(len+n))) e) R1 hb L;refine ⟨_,_,_,_,by rw[an _ f];rfl,.inl rfl,R1.move hb L  ?_,?_,EH.trans EV (cP _),by simp⟩
     ·refine ⟨_,e,rfl,by grind,λj d v Q O=>?_⟩;have bb:=(fq.1 Q).1;simp[k] at bb;rw[yBP (by simp[ak.1,g.1,k];omega)] at O;by_cases hj:j<cs.length
      ·rw[FF hj] at Q;rw[yBP (by rw[ak.1];exact hj)] at O;have:=ak.2 j d v Q O;exact ⟨this.1.mono EV,this.2⟩
      ·rw[Np (by omega)] at Q;rw[Array.getElem?_append_right (by rw[ak.1];omega),ak.1] at O;have:=g.2 _ d v Q O;exact ⟨this.1.mono EV,this.2⟩
     ·have bi:=(fq.1 hb).1;refine .sl _ _ _ (by simp) (.cells (cs++new)) (by simp_all) (by grind [Ob.sz]) (λ_=>.inr ?_);refine ⟨w.drew.heap.size,0,_,e,by simp[wV],rfl,rfl,by omega,.inl rfl,heap_alloc_new _ _,by omega,by grind⟩
  ·rename_i co;split at h
   rotate_left
   ·simp at h
   rename_i G;obtain ⟨rfl,rfl,bc,F⟩:=G;obtain ⟨hb,bw⟩:=Qv hr;have b5:0<m:=Nat.pos_of_ne_zero p;rcases aa.fU hr with ⟨a1,e2,_,e4,e6⟩ | ⟨c,o',cap,K,T,hM,a1,b0,b1,hh,b2,_⟩
   ·simp_all
   have ab:(args.map a.eval)[0]? = some (.slice (some ⟨c,o',none⟩) len cap):=by simp_all
   have f:=qN (ty:=o.type) ht a5 hu a6 a7 hi a8 ab a9 F w;obtain ⟨bk,T',af,cg,bl⟩:=R.row hM hb;rw[hh] at af;simp only[au,Obj.cells.injEq,NT] at af;obtain ⟨rfl,rfl⟩:=af;have X:len+n<=cap:=Nat.le_of_mul_le_mul_right (by omega) b5;rw[if_pos X] at f;obtain ⟨arr,l,g,k⟩:=zbA (P:=P) R S p A;rw[U] at l;split at h
   ·rename_i q;subst q;simp only[au,aU] at h;obtain ⟨rfl,rfl,_⟩:=h;have b3:arr.toList=[]:=by
     have:arr.size=0:=by rw[g.1,k];omega
     simp_all
    grind [Go.Result.andThen_ok,Go.storeCells,Go.Sem.run_pure,fy.same]
   ·rename_i q;simp only[au,aU] at h;obtain ⟨rfl,rfl,_⟩:=h;have bt:o'=0:=by
     omega
    subst bt;have hm:(len+n) * m<=cap * m:=HT _ X;have cm:=bc;rw[OI] at hm cm;have bu:=fP P T c arr.toList (0+len * m) w K hh g.ones (by simp[g.1,k];omega);rw[l] at f;simp only[Result.andThen_ok,eW,bu] at f;have b6:len * m+new.length<=cs.length:=by omega
    have L:(Ob.cells cs).sz<=(Ob.cells (put cs (len * m) new)).sz:=by grind [Ob.sz,fS]
    have σ:∀N T1 fr,Obj.cells K T (0,0)=.cells N T1 fr->∃Z,Obj.cells (cU K (0+len * m) arr.toList) T (0,0)=.cells Z T1 fr/\Z.size=N.size:=by intro N T1 fr h;simp only[Obj.cells.injEq] at h;obtain ⟨rfl,rfl,rfl⟩:=h;exact ⟨_,rfl,VR (by simp[g.1,k];omega)⟩
    have EV:=bF.yg R hM hb hh L σ;refine ⟨_,_,_,M,by rw[an _ f];rfl,.inl rfl,R.yg hM hb hh L σ ?_,?_,EV,by simp⟩
    ·refine ⟨_,T,rfl,by grind [fS],λj d v Q O=>?_⟩;rw[lO b6] at Q;rw[cL (by simp[g.1,k];omega)] at O;simp only[yBl,g.1,PL] at O;split at Q
     ·rename_i G;rw[if_pos G] at O;have:=g.2 _ _ _ Q (by simpa using O);exact ⟨this.1.mono EV,this.2⟩
     ·rename_i G;rw[if_neg G] at O;have:=bl _ _ _ Q O;exact ⟨this.1.mono EV,this.2⟩
    ·have bi:=(fq.1 hb).1;refine .sl _ _ _ (by simp) (.cells (put cs (len * m) new)) (by simp_all) (by grind [Ob.sz]) (λ_=>.inr ?_);refine ⟨c,0,_,T,hM,rfl,rfl,⟨X,b0.2⟩,.inl rfl,eU (R.lt hM).2,?_,?_⟩
     ·simp_all
     ·omega
 simp_all
def Ke(R:Rel Y M Fz w)(E:dB Y M Fz w env a.tmps){o:Oper}{t e:TypeId}{args:Array Operand}{S:Array TypeId}{s x:Operand}{os ox:aT}{aB b off len sz n m:Nat}{cs new:List D}
  (ho:o.op=.call { callee:=.builtin .copy,args:=args,argTypes:=S }) (ht:S[0]? = some t) (a7:args[0]? = some s) (a8:args[1]? = some x)
  (hu:P.underlying t=some (.slice e)) (U:bP P e=some aB) (W:aB≠0) (hs:cf s=some os) (hx:cf x=some ox)
  (af:os.ev env=.sl b off len aB sz) (hr:nW Y b sz=some cs) (hm:KK Y (ox.ev env)=some m) (hn:n=min m len) (A:zdL Y aB n (ox.ev env)=some new) (a9:off+len * aB<=sz) :
  fy P (execOp a.eval o) Y M Fz w (Y.set b (.cells (put cs off new))) (.c (.lit (.int .i64 n))):=by
 have L:=nE E hx;have X:=nE E hs;rw[af] at X;obtain ⟨z,l,σ⟩:=qH L hm;rcases X.fU hr with ⟨ak,e2,e3,e4,e5⟩ | ⟨c,o',cap,g,T,hM,ak,bb,a2,Z,a5,_⟩
 ·subst e2 e3 e4 e5;obtain rfl:n=0:=by omega
  obtain ⟨hb,_⟩:=Qv hr;obtain ⟨k,p,f,q⟩:=zbA (P:=P) R L W A;rw[σ] at p;obtain rfl:new=[]:=ZI (by omega);have aa:Y.set b (.cells (put [] 0 []))=Y:=by
   apply VW;intro i;rw[yBM];split
   ·rename_i hi;subst hi;split
    ·exact hb.symm
    grind
   ·rfl
  rw[aa];have N:(args.map a.eval)[0]? = some (.slice none 0 0):=by grind
  have O:(args.map a.eval)[1]? = some (.slice z m l):=by grind
  have hl:(Builtin.lenOf (.slice z m l)).run P w=.ok m w:=rfl;have r:Nat.min m 0=0:=hn.symm;refine fy.same R (v:=.int .i64 0) ?_ (.c (.lit _));simp only[execOp,ho,resolve,invoke,builtin,Builtin.copy_,ht,N,O,Sem.run_bind,Sem.run_pure,uX hu,Result.andThen_ok,hl,Qe U,r,p,goInt];rfl
 obtain ⟨hb,a6⟩:=Qv hr;obtain ⟨an,T',Q,bc,av⟩:=R.row hM hb;rw[Z] at Q;simp only[au,Obj.cells.injEq,NT] at Q;obtain ⟨rfl,rfl⟩:=Q;obtain ⟨k,p,f,q⟩:=zbA (P:=P) R L W A;rw[σ] at p;have ax:n * aB<=len * aB:=HT _ (by omega);have a0:(storeCells ⟨c,o',none⟩ k.toList).run P w=.ok () (cQ w c (.cells (cU g off k.toList) T (0,0))):=by
  by_cases hz:n=0
  ·have:k.toList=[]:=by
    have:k.size=0:=by rw[f.1,q,hz,yCu]
    grind
   rw[this];have F:cU g off []=g:=by grind [cU]
   rw[F,SO Z];rfl
  ·have a1:o'=off:=by
    omega
   subst a1;exact fP P T c k.toList o' w g Z f.ones (by simp[f.1,q];omega)
 have ab:off+new.length<=cs.length:=by omega
 have ad:(Ob.cells cs).sz<=(Ob.cells (put cs off new)).sz:=by grind [Ob.sz,fS]
 have G:∀u T1 fr,Obj.cells g T (0,0)=.cells u T1 fr->∃K,Obj.cells (cU g off k.toList) T (0,0)=.cells K T1 fr/\K.size=u.size:=by intro u T1 fr h;simp only[Obj.cells.injEq] at h;obtain ⟨rfl,rfl,rfl⟩:=h;exact ⟨_,rfl,VR (by simp[f.1,q];omega)⟩
 have EV:=bF.yg R hM hb Z ad G;refine ⟨.value (.int .i64 n),_,_,M,?_,.inl rfl,R.yg hM hb Z ad G ?_,.c (.lit _),EV,by simp⟩
 ·have N:(args.map a.eval)[0]? = some (.slice (some ⟨c,o',none⟩) len cap):=by simp_all
  have O:(args.map a.eval)[1]? = some (.slice z m l):=by simp_all
  have hl:(Builtin.lenOf (.slice z m l)).run P w=.ok m w:=rfl;have r:Nat.min m len=n:=hn.symm;simp only[execOp,ho,resolve,invoke,builtin,Builtin.copy_,ht,N,O,Sem.run_bind,Sem.run_pure,uX hu,Result.andThen_ok,hl,Qe U,r,p,a0,goInt]
 ·refine ⟨_,T,rfl,by grind [fS],λj d v h1 F=>?_⟩;rw[lO ab] at h1;rw[cL (by simp[f.1,q];omega)] at F;simp only[yBl,f.1] at F;split at h1
  ·rename_i y;rw[if_pos y] at F;have:=f.2 _ _ _ h1 (by simpa using F);exact ⟨this.1.mono EV,this.2⟩
  ·rename_i y;rw[if_neg y] at F;have:=av _ _ _ h1 F;exact ⟨this.1.mono EV,this.2⟩
end
end Go.Abs
end
section
namespace Go.Abs
variable[Gl]
def Ok(P:Program)(g:FuncId)(ds:List D)(Y:ar)(r:D)(Y':ar):Prop:=
 ∀ (M : Nat -> Option Nat) (Fz : Nat -> Prop) (w : World) (b : Array Value), Rel Y M Fz w -> b.size = ds.length -> (∀ (i : Nat) d v, ds[i]? = some d -> b[i]? = some v -> V Y M Fz w d v) ->
  Calls P g b w λe w'=>∃v M' Fz',e=.returned v/\Rel Y' M' Fz' w'/\V Y' M' Fz' w' r v/\bF Y M Fz w Y' M' Fz' w'
def aW(P:Program)(g:FuncId):Bool:=
 match P.funcs[g]? with
 |some fn=>fn.body.isSome&&fn.name != "runtime.NumGoroutine"
 |none=>false
def rV(P:Program)(orc:xg):Prop:=
 ∀g ds Y r Y' wr,orc g ds Y=some (r,Y',wr)->aW P g=true/\Ok P g ds Y r Y'/\Y.length<=Y'.length/\∀b,b<Y.length->b∉wr->Y'[b]? = Y[b]?
abbrev fA:=Option Nat->xg
def lT(P:Program)(orc:fA):Prop:=∀t,rV P (orc t)
section
variable{P:Program}{Y Y':ar}{M M':Nat->Option Nat}{Fz:Nat->Prop}{w w':World}{env:List D}{a:Act}{orc:xg}
theorem HV{d:D}{es:List (Value×D×Nat)}(h:HI Y d=some es):(d=.c (.lit (.map none))/\es=[])\/(∃b e,d=.mp b/\Y[b]? = some (.map es e))\/∃f,d=.c (.No f)/\es=f.map λp=>(p.1,.c p.2,0):=by
 unfold HI at h;split at h
 ·simp_all
 ·simp_all
 ·grind
 simp_all
def XB(ao:kN)(env:List D):D:=
 match ao with
 |.load _ x=>x.ev env
 |_=>.any
inductive Out (P:Program) (s:Sem Next) (Y:ar) (M:Nat->Option Nat) (Fz:Nat->Prop) (w:World) (at_:D):kN->ar->D->List Nat->Prop where
 |y {ao:kN} {d:D} (hc:cat ao=0) (h:Yields P s Y M Fz w d):Out P s Y M Fz w at_ ao Y d []
 |l {ao:kN} {d:D} {Y':ar} (hc:cat ao=1) (hσ:Y'=Y) (h:(∀b off sz c cs,at_=.ptr b off sz->M b=some c->Y[b]? = some (.cells cs)->∃arr T,w.heap[c]? = some (.cells arr T (0,0))/\cs.length<=arr.size/\∀(i:Nat) d v,cs[i]? = some d->arr[i]? = some v->V Y M Fz w d v/\v.oneCell'=true)->Yields P s Y M Fz w d):Out P s Y M Fz w at_ ao Y' d []
 |a {ao:kN} {d:D} {ob:Ob} (hc:cat ao=2) (h:(∀c,Fz c->c<w.heap.size)->ai P s Y M Fz w ob d):Out P s Y M Fz w at_ ao (Y++[ob]) d []
 |g {ao:kN} {d:D} {Y':ar} {wr:List Nat} (hc:cat ao=3) (h:Rel Y M Fz w->fy P s Y M Fz w Y' d):Out P s Y M Fz w at_ ao Y' d wr
theorem DL(a0:Gl.ok Fz w)(E:dB Y M Fz w env a.tmps){o:Oper}{ao:kN}{d:D}{wr:List Nat}(g:lI P o.op o.type=some ao)(bu:AX ao=false)
  (h:bx P orc ao env Y=some (d,Y',wr)):Out P (execOp a.eval o) Y M Fz w (XB ao env) ao Y' d wr:=by
 cases j:o.op with
 |move x=>rw[j] at g;simp only[lI,cC] at g;obtain ⟨A,p,rfl⟩:=g;simp only[bx,au,aU] at h;obtain ⟨rfl,rfl,rfl⟩:=h;exact .y rfl (YS E (.inl j) p)
 |assign x=>rw[j] at g;simp only[lI,cC] at g;obtain ⟨A,p,rfl⟩:=g;simp only[bx,au,aU] at h;obtain ⟨rfl,rfl,rfl⟩:=h;exact .y rfl (YS E (.inr j) p)
 |pick c x y=>rw[j] at g;simp only[lI,eY,c_,au] at g;obtain ⟨oc,a1,A,p,oy,hy,rfl⟩:=g;simp only[bx,cC,aU] at h;obtain ⟨t,ht,rfl,rfl,rfl⟩:=h;exact .y rfl (pick_ok E j a1 p hy ht)
 |alloc t=>rw[j] at g;simp only[lI,cC] at g;obtain ⟨z,O,rfl⟩:=g;simp only[bx,au,aU] at h;obtain ⟨rfl,rfl,rfl⟩:=h;exact .a rfl (λK=>Zl K j O)
 |box t x=>rw[j] at g;simp only[lI,cC] at g;obtain ⟨A,p,rfl⟩:=g;simp only[bx,cC,aU] at h;obtain ⟨cs,G,rfl,rfl,rfl⟩:=h;exact .a rfl (λK=>box_ok K E j p G)
 |build t ab=>
  rw[j] at g;simp only[lI,eY,c_] at g;obtain ⟨z,O,u,q,g⟩:=g;cases u <;> simp only[c_,au,reduceCtorEq] at g
  ·rename_i len e;obtain ⟨n,v,qs,T,rfl⟩:=g;simp only[bx,cC,aU] at h;obtain ⟨cs,G,rfl,rfl,rfl⟩:=h;exact .y rfl (Og E j O (.inr ⟨len,e,n,q,v,rfl⟩) T G)
  ·rename_i fs;obtain ⟨ps,a2,qs,T,rfl⟩:=g;simp only[bx,cC,aU] at h;obtain ⟨cs,G,rfl,rfl,rfl⟩:=h;exact .y rfl (Og E j O (.inl ⟨fs,ps,q,a2,rfl⟩) T G)
 |buildSlice t len ab=>
  rw[j] at g;simp only[lI,eY,c_] at g;obtain ⟨u,q,g⟩:=g;cases u <;> simp only[c_,reduceCtorEq] at g
  obtain ⟨n,v,z,O,g⟩:=g;split at g
  ·grind
  ·rename_i F;simp only[c_,au] at g;obtain ⟨qs,T,rfl⟩:=g;simp only[bx,cC,aU] at h;obtain ⟨cs,G,rfl,rfl,rfl⟩:=h;exact .a rfl (λK=>UH K E j q v O F T G)
 |load t x=>
  rw[j] at g;simp only[lI,eY,c_,au] at g;obtain ⟨n,v,A,p,rfl⟩:=g;simp only[bx] at h;have U:wr=[]:=by
   split at h
   ·simp only[eY,c_,au,aU] at h;grind
   ·simp only[eY,c_,au,aU] at h;grind
   simp_all
  subst U;refine .l rfl ?_ (λhR=>(load_ok E j p v hR h).2);revert h;split
  ·simp only[eY,c_,au,aU];simp_all
  ·simp only[eY,c_,au,aU];simp_all
  ·simp
 |store t x y=>
  rw[j] at g;simp only[lI,eY,c_,au] at g;obtain ⟨n,v,A,p,oy,hy,rfl⟩:=g;simp only[bx] at h;split at h
  ·rename_i b off sz S;simp only[eY,c_] at h;obtain ⟨cs,G,xs,a5,h⟩:=h;split at h
   ·rename_i L;simp only[au,aU] at h;obtain ⟨rfl,rfl,rfl⟩:=h;exact .g rfl (λR=>YP R E j p hy v S G a5 L)
   simp_all
  simp_all
 |nilCheck x=>
  rw[j] at g;simp only[lI,cC] at g;obtain ⟨A,p,rfl⟩:=g;simp only[bx] at h;have U:wr=[]:=by grind
  subst U;obtain ⟨rfl,Z⟩:=nilck_ok (P:=P) E j p h;exact .y rfl Z
 |binOp op t x y t2=>
  rw[j] at g;simp only[lI] at g;cases q:P.underlying t with
  |none=>rw[q] at g;simp only[Option.bind_none,au] at g;subst g;simp only[bx,cC,aU] at h;obtain ⟨Q,N,rfl,rfl,rfl⟩:=h;exact .y rfl (kE E (by simp_all) (by simp_all))
  |some u=>
   rw[q] at g;simp only[aw] at g;cases hk:zG u with
   |none=>rw[hk] at g;simp only[au] at g;subst g;simp only[bx,cC,aU] at h;obtain ⟨Q,N,rfl,rfl,rfl⟩:=h;exact .y rfl (kE E (by simp_all) (by simp_all))
   |some k=>
    rw[hk] at g;have W:∀neg,vH k neg x y=some ao->∃k' X A,ao=.iT k' X A:=by
     intro neg a6;unfold vH at a6
     grind [Option.map_eq_some_iff]
    cases op <;> simp only[reduceCtorEq] at g
    ·obtain ⟨k',X,A,rfl⟩:=W false g;simp only[bx,cC,aU] at h;obtain ⟨b,hb,rfl,rfl,rfl⟩:=h;exact .y rfl (LJ (neg:=false) E (by simpa using j) q hk g hb)
    ·obtain ⟨k',X,A,rfl⟩:=W true g;simp only[bx,cC,aU] at h;obtain ⟨b,hb,rfl,rfl,rfl⟩:=h;exact .y rfl (LJ (neg:=true) E (by simpa using j) q hk g hb)
 |unOp op t x=>rw[j] at g;simp only[lI,au] at g;subst g;simp only[bx,cC,aU] at h;obtain ⟨Q,N,rfl,rfl,rfl⟩:=h;exact .y rfl (kE E (by simp_all) (by simp_all))
 |convert s t x=>rw[j] at g;simp only[lI,au] at g;subst g;simp only[bx,cC,aU] at h;obtain ⟨Q,N,rfl,rfl,rfl⟩:=h;exact .y rfl (kE E (by simp_all) (by simp_all))
 |makeFunc f first cap=>rw[j] at g;simp only[lI,eY,c_,au] at g;obtain ⟨o1,h1,o2,h2,rfl⟩:=g;simp only[bx,au,aU] at h;obtain ⟨rfl,rfl,rfl⟩:=h;exact .y rfl (mkfn_ok E j h1 h2)
 |makeMap t r=>
  rw[j] at g;cases r with
  |some _=>grind [lI]
  |none=>simp only[lI,au] at g;subst g;simp only[bx,au,aU] at h;obtain ⟨rfl,rfl,rfl⟩:=h;exact .a rfl (λK=>Yy j)
 |makeSlice t x y=>
  rw[j] at g;simp only[lI,eY,c_] at g;obtain ⟨u,q,g⟩:=g;cases u <;> simp only[c_,reduceCtorEq] at g
  obtain ⟨n,v,z,O,i,hi,g⟩:=g;split at g
  ·grind
  ·rename_i F;simp only[c_,au] at g;obtain ⟨A,p,oy,hy,rfl⟩:=g;simp only[bx,eY,c_] at h;obtain ⟨l,hl,c,a7,h⟩:=h;split at h
   ·rename_i L;simp only[au,aU] at h;obtain ⟨rfl,rfl,rfl⟩:=h;exact .a rfl (λK=>LZ K E j q v O hi F p hy hl a7 L)
   simp_all
 |slice t x lo hi mx=>
  rw[j] at g;cases mx with
  |some mx=>
   cases lo with
   |none=>grind [lI]
   |some lo => cases hi with
    |none=>grind [lI]
    |some hi=>
     simp only[lI,eY,c_] at g;obtain ⟨u,q,g⟩:=g;cases u <;> simp only[c_,au,reduceCtorEq] at g
     obtain ⟨n,v,A,p,a8,ad,a9,af,bv,bb,rfl⟩:=g;simp only[bx] at h;split at h
     ·rename_i b off len es sz S;simp only[eY,c_] at h;obtain ⟨cs,hr,m,h0,h',h1,l,h2,h⟩:=h;split at h
      ·rename_i L;obtain ⟨rfl,rfl⟩:=L;simp only[au,aU] at h;obtain ⟨rfl,rfl,rfl⟩:=h;exact .y rfl (slc3xok (P:=P) E j p ad af bb q v S hr (c_.2 h0) (c_.2 h1) (c_.2 h2))
      simp_all
     simp_all
  |none=>
   simp only[lI,eY,c_] at g;obtain ⟨u,q,g⟩:=g;cases u <;> simp only[c_,au,reduceCtorEq] at g
   ·subst g;simp only[bx,cC,aU] at h;obtain ⟨Q,N,rfl,rfl,rfl⟩:=h;exact .y rfl (kE E (by simp_all) (by simp_all))
   rotate_left
   ·rename_i m e;split at g
    ·simp only[c_] at g;obtain ⟨k,hk,A,p,g⟩:=g;split at g
     ·rename_i h1;subst h1;simp only[au] at g;subst g;simp only[bx] at h;split at h
      ·rename_i cs off S;split at h
       ·rename_i bc;simp only[au,aU] at h;obtain ⟨rfl,rfl,rfl⟩:=h;exact .y rfl (slca_ok (P:=P) E j p q hk S bc)
       ·simp at h
      ·simp at h
     ·simp at g
    ·simp at g
   ·obtain ⟨n,v,A,p,a8,ad,a9,af,rfl⟩:=g;simp only[bx] at h;have U:wr=[]:=by
     split at h
     ·simp only[eY,c_,au,aU] at h;grind
     ·grind [Option.bind_eq_some_iff]
     ·grind [Option.bind_eq_some_iff]
     simp_all
    subst U;obtain ⟨rfl,Z⟩:=slc_ok (P:=P) E j p ad af q v h;exact .y rfl Z
 |fieldAddr s x f=>
  rw[j] at g;simp only[lI,eY,c_] at g;obtain ⟨u,q,g⟩:=g;cases u <;> simp only[c_,reduceCtorEq] at g
  obtain ⟨fd,ak,n,v,g⟩:=g;split at g
  ·grind
  ·rename_i F;simp only[c_,au] at g;obtain ⟨A,p,rfl⟩:=g;simp only[bx] at h;have U:wr=[]:=by
    grind
   subst U;obtain ⟨rfl,Z⟩:=fld_ok (P:=P) E j p q ak v F h;exact .y rfl Z
 |field t x f=>
  rw[j] at g;simp only[lI,eY,c_] at g;obtain ⟨u,q,g⟩:=g;cases u <;> simp only[c_,au,reduceCtorEq] at g
  obtain ⟨fd,ak,n,v,A,p,rfl⟩:=g;simp only[bx] at h;split at h
  ·rename_i cs S;simp only[cC,aU] at h;obtain ⟨Q,N,rfl,rfl,rfl⟩:=h;exact .y rfl (part_ok E j p q ak v S N)
  simp_all
 |indexAddr t x i=>
  rw[j] at g;simp only[lI,eY,c_] at g;obtain ⟨u,q,g⟩:=g;cases u <;> simp only[c_,reduceCtorEq] at g
  ·rename_i e;obtain ⟨n,v,g⟩:=g;split at g
   ·grind
   ·rename_i F;simp only[c_,au] at g;obtain ⟨A,p,oi,hi,rfl⟩:=g;simp only[bx] at h;have U:wr=[]:=by
     grind [Option.bind_eq_some_iff]
    subst U;obtain ⟨rfl,Z⟩:=idx_ok (P:=P) E j p hi q v F h;exact .y rfl Z
  ·rename_i len e;obtain ⟨n,v,g⟩:=g;split at g
   ·grind
   ·rename_i F;simp only[c_,au] at g;obtain ⟨A,p,oi,hi,rfl⟩:=g;simp only[bx] at h;have U:wr=[]:=by
     simp only[eY,c_] at h;obtain ⟨_,_,_,_,h⟩:=h;split at h
     ·simp_all
     ·simp_all
     ·grind
     simp_all
    subst U;obtain ⟨rfl,Z⟩:=MY (P:=P) a0 E j p hi q v h;exact .y rfl Z
 |index t x i=>
  rw[j] at g;simp only[lI,eY,c_] at g;obtain ⟨u,q,g⟩:=g;cases u <;> simp only[c_,au,reduceCtorEq] at g
  ·subst g;simp only[bx,cC,aU] at h;obtain ⟨Q,N,rfl,rfl,rfl⟩:=h;exact .y rfl (kE E (by simp_all) (by simp_all))
  ·rename_i len e;obtain ⟨sz,bd,n,v,A,p,oi,hi,rfl⟩:=g;simp only[bx,eY,c_] at h;obtain ⟨z,O,k,hk,h⟩:=h;split at h
   ·rename_i cs S;simp only[cC,aU] at h;obtain ⟨Q,N,rfl,rfl,rfl⟩:=h;exact .y rfl (aidx_ok E j p hi q bd v S O hk N)
   simp_all
 |lookup t m k ok=>
  rw[j] at g;simp only[lI,eY,c_] at g;obtain ⟨u,q,g⟩:=g;cases u <;> simp only[c_,reduceCtorEq] at g
  rename_i kt e;obtain ⟨kd,an,g⟩:=g;split at g
  ·rename_i hs;simp only[c_,au] at g;obtain ⟨zero,O,om,hm,be,hk,rfl⟩:=g;simp only[bx,eY,c_,au,aU] at h;obtain ⟨kv,av,es,ax,r,hr,rfl,rfl,rfl⟩:=h;exact .g rfl (λR=>Ve R E j q an hs O hm hk av (HV ax) hr rfl)
  ·simp at g
 |mapUpdate t m k x | insert t m k x=>
  rw[j] at g;simp only[lI,eY,c_] at g;obtain ⟨u,q,g⟩:=g;cases u <;> simp only[c_,reduceCtorEq] at g
  rename_i kt e;obtain ⟨kd,an,g⟩:=g;split at g
  ·rename_i hs;simp only[c_,au] at g;obtain ⟨om,hm,be,hk,A,p,rfl⟩:=g;simp only[bx,eY,c_] at h;obtain ⟨kv,av,h⟩:=h;split at h
   ·rename_i b S;split at h
    ·rename_i es bh hb;simp only[c_] at h;obtain ⟨r,hr,h⟩:=h;have:=λR=>upd_ok (P:=P) (Y:=Y) (M:=M) (Fz:=Fz) (w:=w) R E (by first | exact .inl j | exact .inr j) q an hs hm hk p av S hb hr;split at h
     ·simp only[au,aU] at h;obtain ⟨rfl,rfl,rfl⟩:=h;exact .g rfl this
     ·simp only[au,aU] at h;obtain ⟨rfl,rfl,rfl⟩:=h;exact .g rfl this
    simp_all
   simp_all
  simp_all
 |extract x i=>
  rw[j] at g;simp only[lI,eY,c_,au] at g;obtain ⟨A,p,rfl⟩:=g;simp only[bx] at h;split at h
  ·rename_i ds S;simp only[cC,aU] at h;obtain ⟨Q,N,rfl,rfl,rfl⟩:=h;exact .y rfl (PO E j p S N)
  simp_all
 |call c=>
  obtain ⟨aa,args,bw⟩:=c;rw[j] at g;cases aa with
  |value f=>grind [lI,Option.bind_eq_some_iff,AX]
  |invoke r m=>grind [lI]
  |builtin b=>
   cases b with
   |len=>
    simp only[lI,eY,c_] at g;obtain ⟨t,ht,x,σ,g⟩:=g;split at g
    ·grind
    ·rename_i hs;simp only[ne_eq,Un] at hs;simp only[c_] at g;obtain ⟨u,q,g⟩:=g;cases u <;> simp only[cC,au,reduceCtorEq] at g
     ·subst g;simp only[bx,cC,aU] at h;obtain ⟨Q,N,rfl,rfl,rfl⟩:=h;exact .y rfl (kE E (by simp_all) (by simp_all))
     ·obtain ⟨A,p,rfl⟩:=g;simp only[bx,cC,aU] at h;obtain ⟨n,v,rfl,rfl,rfl⟩:=h;exact .y rfl (len_ok E j ht σ hs p q v)
     ·rename_i n e;subst g;simp only[bx,aT.ev,au,aU] at h;obtain ⟨rfl,rfl,rfl⟩:=h;exact .y rfl (Uf j ht σ hs q)
     ·obtain ⟨A,p,rfl⟩:=g;simp only[bx,cC,aU] at h;obtain ⟨es,ax,rfl,rfl,rfl⟩:=h;refine .g rfl (λR=>Ud R E j ht σ hs p q ?_)
      grind [HV]
   |append=>
    simp only[lI,eY,c_] at g;obtain ⟨t,ht,t1,bi,s,bk,x,σ,u,q,bl,bt,g⟩:=g;cases u <;> cases bl <;> simp only[c_,reduceCtorEq] at g
    obtain ⟨n,v,i,hi,z,O,g⟩:=g;split at g
    ·grind
    ·rename_i F;simp only[c_,au] at g;obtain ⟨os,hs,A,p,rfl⟩:=g;simp only[bx] at h;exact .g rfl (λR=>TM R E j ht bi bk σ q bt v hi O F hs p h)
   |copy=>simp[lI] at g
   |clear=>simp[lI] at g
   |delete=>simp[lI] at g
   |min=>simp only[lI,au] at g;subst g;simp only[bx,cC,aU] at h;obtain ⟨Q,N,rfl,rfl,rfl⟩:=h;exact .y rfl (kE E (by simp_all) (by simp_all))
   |max=>simp only[lI,au] at g;subst g;simp only[bx,cC,aU] at h;obtain ⟨Q,N,rfl,rfl,rfl⟩:=h;exact .y rfl (kE E (by simp_all) (by simp_all))
   |complex=>simp only[lI,au] at g;subst g;simp only[bx,cC,aU] at h;obtain ⟨Q,N,rfl,rfl,rfl⟩:=h;exact .y rfl (kE E (by simp_all) (by simp_all))
   |real=>simp only[lI,au] at g;subst g;simp only[bx,cC,aU] at h;obtain ⟨Q,N,rfl,rfl,rfl⟩:=h;exact .y rfl (kE E (by simp_all) (by simp_all))
   |imag=>simp only[lI,au] at g;subst g;simp only[bx,cC,aU] at h;obtain ⟨Q,N,rfl,rfl,rfl⟩:=h;exact .y rfl (kE E (by simp_all) (by simp_all))
   |_=>grind [lI]
 |_=>grind [lI]
theorem evOp_ok(R:Rel Y M Fz w)(E:dB Y M Fz w env a.tmps){o:Oper}{ao:kN}{d:D}{wr:List Nat}(j:lI P o.op o.type=some ao)(f:AX ao=false)
  (h:bx P orc ao env Y=some (d,Y',wr)):fy P (execOp a.eval o) Y M Fz w Y' d:=by
 cases DL (M:=M) (Fz:=Fz) (w:=w) R.gl E j f h with
 |y _ e=>exact e.gives R
 |l _ i e=>rw[i];exact (e λb off sz c m _ k hb=>R.row k hb).gives R
 |a _ e=>exact (e R.fz).gives R
 |g _ e=>grind
def uT{op:Op}{ty:TypeId}{ao:kN}(h:comp P op ty=some ao) :
  (∃f args b of os,op=.call { callee:=.value f,args:=args,argTypes:=b }/\cf f=some of/\Kk args=some os/\ao=.call of os)\/(lI P op ty=some ao/\AX ao=false/\XS ao=false):=by
 unfold comp at h
 grind
end
end Go.Abs
end
