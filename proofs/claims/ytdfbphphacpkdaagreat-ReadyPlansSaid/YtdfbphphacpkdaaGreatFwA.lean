/- DfwA, DfwB, DfwC, DfwD, DfwE, DfwF, DfwG, DfwH, DfwI -/
import Derived.Calls
import Derived.Orders
import Derived.Laws.Sem
import Derived.Laws.World
import Derived.Laws.Cells
import Derived.Laws.Rows
import GoSem.Dispatch
import Derived.IntWalk
set_option linter.all false
namespace Go
abbrev aE:=@Option.bind_some
abbrev OE:=@Option.getD_some
abbrev Xd:=@Int.toNat_natCast
abbrev xAd:=@List.foldl_cons
abbrev xAe:=@Nat.sub_zero
abbrev xAf:=@List.nil_append
abbrev xAg:=@Int.add_zero
abbrev xAh:=@List.sum_cons
abbrev xAi:=@List.drop_append
abbrev xAj:=@List.getElem?_cons_zero
abbrev xAk:=@List.length_singleton
abbrev xAl:=@List.length_cons
abbrev xAm:=@Array.foldl_toList
abbrev xAn:=@List.foldl_append
abbrev xAo:=@Array.getElem?_append_right
abbrev xAp:=@Int.tdiv_eq_ediv_of_nonneg
abbrev xAq:=@List.getElem_append_right
abbrev aj:=@Option.some.injEq
abbrev aQ:=@decide_eq_true_eq
abbrev bU:=@Option.map_eq_some_iff
abbrev b_:=@Option.bind_eq_some_iff
abbrev aM:=@Prod.mk.injEq
abbrev bA:=@Bool.false_eq_true
abbrev bn:=@List.getElem_mem
abbrev bp:=@Bool.and_eq_true
abbrev cr:=@Nat.eq_of_beq_eq_true
abbrev cT:=@List.getElem?_eq_getElem
abbrev d_:=@List.getElem?_eq_some_iff
abbrev h_:=@List.mem_cons_of_mem
abbrev eS:=@Bool.not_eq_true'
abbrev oF:=@Array.getElem?_eq_getElem
abbrev vU:=@List.take_succ_eq_append_getElem
abbrev cn:=@Nat.le_refl
abbrev jj:=@List.getElem_of_mem
abbrev iz:=@List.mem_cons_self
abbrev dZ:=@Bool.or_eq_true
abbrev gP:=@List.getElem?_map
abbrev fE:=@List.all_eq_true
abbrev lN:=@Bool.not_eq_false
abbrev eU:=@List.mem_cons
abbrev km:=@List.length_take
abbrev xR:=@Array.getElem?_eq_some_iff
abbrev nL:=@List.mem_singleton
abbrev bT:=@if_false
abbrev dY:=@List.mem_map
abbrev iH:=@List.map_cons
abbrev mw:=@List.mem_append
abbrev vB:=@List.mem_of_getElem?
abbrev jz:=@Nat.le_trans
abbrev zE:=@Nat.le_of_ble_eq_true
abbrev ql:=@List.length_map
abbrev DK:=@List.getElem?_append_left
abbrev uo:=@List.take_length
abbrev Ce:=@Nat.mul_le_mul_right
abbrev By:=@Nat.lt_of_lt_of_le
abbrev KE:=@List.getElem?_append_right
abbrev PM:=@List.eq_nil_of_length_eq_zero
abbrev qG:=@Nat.lt_or_ge
abbrev lO:=@beq_iff_eq
abbrev Rk:=@Array.getElem?_setIfInBounds
abbrev Dx:=@Nat.lt_or_eq_of_le
abbrev Kr:=@Array.getElem?_toList
abbrev Kw:=@List.mem_of_mem_take
abbrev Jw:=@List.length_append
abbrev qK:=@Nat.blt_eq
abbrev He:=@List.getElem_take
abbrev GB:=@List.getElem_map
abbrev Hj:=@List.not_mem_nil
abbrev Pg:=@List.mem_iff_getElem
abbrev Vd:=@decide_eq_false_iff_not
abbrev We:=@List.pairwise_iff_getElem
abbrev YO:=@Array.getD_eq_getD_getElem?
abbrev Hk:=@List.mem_filter
abbrev Ic:=@List.map_append
abbrev Ri:=@List.mem_append_left
abbrev Aa:=@Int.le_refl
abbrev Kp:=@List.append_nil
abbrev Kv:=@Nat.lt_succ_iff
abbrev Fj:=@Bool.not_true
abbrev yBa:=@Int.mul_le_mul_of_nonneg_right
abbrev ZX:=@Array.getElem?_append_left
abbrev Qg:=@List.ext_getElem?
abbrev Pt:=@Decidable.not_not
abbrev Qc:=@Nat.lt_trichotomy
abbrev PI:=@List.append_assoc
abbrev GA:=@Nat.zero_add
abbrev Yd:=@List.take_of_length_le
abbrev JX:=@Bool.and_true
abbrev Wy:=@List.mem_append_right
abbrev Zn:=@List.mem_of_mem_drop
abbrev VU:=@List.getElem?_take
abbrev zj:=@false_iff
abbrev yBn:=@Option.isSome_iff_exists
abbrev Pq:=@List.mapM_cons
abbrev VB:=@List.length_drop
abbrev EE:=@bne_iff_ne
abbrev VZ:=@List.flatMap_cons
abbrev Jm:=@Nat.add_mul
abbrev yBt:=@List.getElem?_take_of_lt
abbrev yBu:=@List.take_append_drop
abbrev yBv:=@Bool.and_eq_false_iff
abbrev yBw:=@List.getElem_append_left
abbrev yBx:=@List.getElem?_drop
abbrev KZ:=@Nat.zero_le
abbrev yBz:=@List.getElem?_append
abbrev yB0:=@List.pairwise_append
abbrev yB1:=@List.drop_eq_nil_of_le
abbrev yB2:=@List.getElem?_set
abbrev ZN:=@List.getElem_drop
abbrev yB4:=@List.drop_eq_getElem_cons
abbrev Wg:=@Sigma.mk.injEq
abbrev Q_:=@List.map_map
abbrev yB7:=@List.getElem?_of_mem
abbrev yB8:=@Nat.exists_eq_add_of_le
abbrev XZ:=@List.mem_range
abbrev TI:=@List.map_nil
abbrev yBB:=@List.length_set
abbrev yBC:=@List.getElem?_eq_none
abbrev yBD:=@List.mem_iff_getElem?
abbrev Hg:=@or_false
abbrev yBF:=@List.length_mergeSort
abbrev yBG:=@List.getElem_set_self
abbrev Iq:=@and_true
abbrev yBI:=@Go.heap_alloc_old
abbrev yBJ:=@Nat.add_sub_cancel_left
abbrev yBK:=@List.getElem_set_ne
abbrev yBL:=@Int.mul_nonneg
abbrev LI:=@true_iff
abbrev yBN:=@Nat.mul_lt_mul_of_pos_right
abbrev ZH:=@Int.lt_or_le
abbrev yBP:=@List.cons.injEq
abbrev yBQ:=@Classical.choose_spec
abbrev yBR:=@Nat.le_of_lt
abbrev yBS:=@List.sum_append
abbrev yBT:=@List.set_getElem_self
abbrev yBU:=@List.map_take
abbrev M_:=@congrArg
abbrev yBW:=@List.getD_eq_getElem?_getD
abbrev yBX:=@List.getElem?_set_ne
abbrev yBY:=@List.mem_or_eq_of_mem_set
abbrev yBZ:=@Decidable.byContradiction
abbrev yCa:=@beq_self_eq_true
abbrev yCb:=@Int.toNat_of_nonneg
abbrev yCc:=@Nat.zero_mul
abbrev yCd:=@Array.getElem?_replicate
abbrev yCe:=@getElem!_pos
abbrev yCf:=@Nat.beq_refl
abbrev yCg:=@Nat.eq_zero_or_pos
abbrev yCh:=@Array.size_append
abbrev yCi:=@Nat.pow_add
abbrev yCj:=@List.any_eq_false
abbrev yCk:=@bne_self_eq_false
abbrev yCl:=@List.drop_zero
abbrev yCm:=@Nat.mul_le_mul
end Go
section
namespace Go.Abs
inductive C where
 |lit (v:Value)
 |ca (nn:Bool) (es:List (List C))
 |bZ (cs:List C) (off:Nat)
 |fn (f:Fn) (first cap:List C)
 |Ib (es:List (Value×C))
 |Rr (g:Nat)
 deriving Inhabited
inductive D where
 |c (x:C)
 |ptr (b off sz:Nat)
 |sl (b off len ar sz:Nat)
 |mp (b:Nat)
 |fn (f:Fn) (first cap:List D)
 |agg (cs:List D)
 |aI (vs:List D)
 |any
 deriving Inhabited
inductive Ob where
 |cells (cs:List D)
 |map (es:List (Value×D×Nat)) (clock:Nat)
 |gone (n:Nat)
 deriving Inhabited
def Ob.sz:Ob->Nat
 |.cells i=>i.length
 |.map _ _=>0
 |.gone n=>n
abbrev ae:=List Ob
inductive VC (Fz:Nat->Prop) (w:World):C->Value->Prop where
 |lit (v:Value):VC Fz w (.lit v) v
 |ca {nn:Bool} {es:List (List C)} (ar:Nat) (a:Option Addr) (cap:Nat) (hnn:nn=true->a.isSome=true) (hz:a=none->cap=0) (c:Nat->Nat->Value) (hsz:∀e∈es,e.length=ar) (hcap:es.length<=cap)
   (hc:∀(i j:Nat) e d,es[i]? = some e->e[j]? = some d->∃blk o,a=some ⟨blk,o,none⟩/\Fz blk/\w.cell? ⟨blk,o+i * ar+j,none⟩=some (c i j)/\(c i j).oneCell'=true)
   (hv:∀(i j:Nat) e d,es[i]? = some e->e[j]? = some d->VC Fz w d (c i j)):VC Fz w (.ca nn es) (.slice a es.length cap)
 |bZ {cs:List C} {off:Nat} (blk o:Nat) (c:Nat->Value) (hF:Fz blk) (hc:∀(j:Nat) d,cs[j]? = some d->w.cell? ⟨blk,o+j,none⟩=some (c j)/\(c j).oneCell'=true)
   (hv:∀(j:Nat) d,cs[j]? = some d->VC Fz w d (c j)):VC Fz w (.bZ cs off) (.pointer (some ⟨blk,o+off,none⟩))
 |fn {f:Fn} {first cap:List C} (vs ws:Array Value) (h1:vs.size=first.length) (h2:ws.size=cap.length)
   (hv:∀(i:Nat) d v,first[i]? = some d->vs[i]? = some v->VC Fz w d v) (hw:∀(i:Nat) d v,cap[i]? = some d->ws[i]? = some v->VC Fz w d v) :
   VC Fz w (.fn f first cap) (.func f vs ws)
 |Ib {es:List (Value×C)} (blk clock:Nat) (arr:Array MapEntry) (hF:Fz blk) (hh:w.heap[blk]? = some (.map arr clock)) (hs:arr.size=es.length)
   (hk:∀(i:Nat) p e,es[i]? = some p->arr[i]? = some e->e.key=p.1) (hv:∀(i:Nat) p e,es[i]? = some p->arr[i]? = some e->VC Fz w p.2 e.val):VC Fz w (.Ib es) (.map (some blk))
 |Rr (g:Nat):VC Fz w (.Rr g) (.pointer (some ⟨g,0,none⟩))
theorem Eh{w w':World}{blk o:Nat}(h:w'.heap[blk]? = w.heap[blk]?):w'.cell? ⟨blk,o,none⟩=w.cell? ⟨blk,o,none⟩:=by grind [Go.World.cell?]
theorem VC.mono{Fz Fz':Nat->Prop}{w w':World}(Q:∀c:Nat,Fz c->Fz' c/\w'.heap[c]? = w.heap[c]?){x:C}{v:Value}(h:VC Fz w x v):VC Fz' w' x v:=by
 induction h with
 |lit v=>exact .lit v
 |ca ar a cap z X c A u R E ih=>
  refine .ca ar a cap z X c A u (λi j e d U W=>?_) ih
  grind [Eh]
 |bZ blk o c F R E ih=>exact .bZ blk o c (Q _ F).1 (λj d h=>⟨by grind [Eh],(R j d h).2⟩) ih
 |fn Y Z U W E hw G K=>exact .fn Y Z U W G K
 |Ib blk s O F hh hs hk E ih=>exact .Ib blk s O (Q _ F).1 (by simp_all) hs hk ih
 |Rr g=>exact .Rr g
inductive V (σ:ae) (M:Nat→Option Nat) (Fz:Nat→Prop) (w:World):D→Value→Prop where
 | c {x:C} {v:Value} (h:VC Fz w x v):V σ M Fz w (.c x) v
 | any (v:Value):V σ M Fz w .any v
 | ptr {b off sz:Nat} (a:Addr) (ob:Ob) (h:σ[b]? = some ob) (hle:sz≤ob.sz)
   (hv:ob.sz=sz→∃c,M b=some c∧a=⟨c,off,none⟩):V σ M Fz w (.ptr b off sz) (.pointer (some a))
 | sl {b off len ar sz:Nat} (a:Option Addr) (n cap:Nat) (hnn:len≠0→a≠none) (ob:Ob) (h:σ[b]? = some ob) (hle:sz≤ob.sz)
   (hv:ob.sz=sz→(a=none∧n=0∧cap=0∧len=0∧off=0∧sz=0)∨∃c o arr T,M b=some c∧a=some ⟨c,o,none⟩∧n=len∧(len≤cap∧sz≤off+cap * ar)∧(o=off∨cap=0) ∧
    w.heap[c]? = some (.cells arr T (0,0))∧o+cap * ar≤arr.size∧off+len * ar≤sz):V σ M Fz w (.sl b off len ar sz) (.slice a n cap)
 | mp {b:Nat} (c:Nat) (ob:Ob) (h:σ[b]? = some ob) (hv:ob.sz=0→M b=some c):V σ M Fz w (.mp b) (.map (some c))
 | fn {f:Fn} {first cap:List D} (vs ws:Array Value) (h1:vs.size=first.length) (h2:ws.size=cap.length)
   (hv:∀(i:Nat) d v,first[i]? = some d→vs[i]? = some v→V σ M Fz w d v) (hw:∀(i:Nat) d v,cap[i]? = some d→ws[i]? = some v→V σ M Fz w d v) :
   V σ M Fz w (.fn f first cap) (.func f vs ws)
 | agg {cs:List D} (vs:Array Value) (h1:vs.size=cs.length) (hv:∀(i:Nat) d v,cs[i]? = some d→vs[i]? = some v→V σ M Fz w d v):V σ M Fz w (.agg cs) (.agg vs)
 | aI {cs:List D} (vs:Array Value) (h1:vs.size=cs.length) (hv:∀(i:Nat) d v,cs[i]? = some d→vs[i]? = some v→V σ M Fz w d v):V σ M Fz w (.aI cs) (.tuple vs)
def iq(arr:Array MapEntry)(b:Nat):Prop:=(arr.toList.map MapEntry.born).Nodup/\∀e∈arr.toList,e.born<b
theorem iq.nil(i:Nat):iq #[] i:=⟨by simp,by simp⟩
theorem iq.push{arr:Array MapEntry}{i:Nat}(h:iq arr i)(k v:Value):iq (arr.push { key:=k,val:=v,born:=i }) (i+1):=by
 refine ⟨?_,λe he=>?_⟩
 ·rw[Array.toList_push,Ic,List.nodup_append];refine ⟨h.1,by simp,λa j b o=>?_⟩;obtain ⟨e,he,rfl⟩:=dY.1 j;have:=h.2 e he
  grind
 ·rw[Array.toList_push,mw] at he;rcases he with he | he
  ·have:=h.2 e he;omega
  simp_all
theorem iq.same{arr i:Array MapEntry}{j:Nat}(h:iq arr j)(e:i.toList.map MapEntry.born=arr.toList.map MapEntry.born):iq i j:=by
 refine ⟨by rw[e];exact h.1,λx s=>?_⟩;have:x.born∈arr.toList.map MapEntry.born:=by grind
 obtain ⟨y,o,q⟩:=dY.1 this;rw[<-q];exact h.2 y o
theorem iq.sub{arr i:Array MapEntry}{j:Nat}(h:iq arr j)(e:i.toList.Sublist arr.toList):iq i j:=
 ⟨h.1.sublist (e.map _),λx o=>h.2 x (e.subset o)⟩
def bE(σ:ae)(M:Nat->Option Nat)(Fz:Nat->Prop)(w:World):Ob->Obj->Prop
 |.cells f,o=>∃b T,o=.cells b T (0,0)/\f.length<=b.size/\∀(i:Nat) d v,f[i]? = some d->b[i]? = some v->V σ M Fz w d v/\v.oneCell'=true
 |.map es _,o=>∃b,(∃g,o=.map b g/\iq b g)/\b.size=es.length/\∀(i:Nat) k d n e,es[i]? = some (k,d,n)->b[i]? = some e->e.key=k/\True/\V σ M Fz w d e.val
 |.gone _,_=>False
class Gl where
 ok:(Nat->Prop)->World->Prop
 mono:∀{Fz Fz':Nat->Prop}{w w':World},(∀c:Nat,Fz c->Fz' c/\w'.heap[c]? = w.heap[c]?)->ok Fz w->ok Fz' w'
 tab:Nat->List Value:=λ_=>[]
 tabOk:∀{Fz:Nat->Prop}{w:World}(g j:Nat)(v:Value),ok Fz w->(tab g)[j]? = some v->Fz g/\w.cell? ⟨g,j,none⟩=some v/\v.oneCell'=true:=by intro _ _ g j v _ h;simp at h
structure Rel [Gl] (σ:ae) (M:Nat->Option Nat) (Fz:Nat->Prop) (w:World):Prop where
 blk:∀(b c:Nat),M b=some c->¬Fz c/\∃ob o,σ[b]? = some ob/\w.heap[c]? = some o/\bE σ M Fz w ob o
 inj:∀b b' c,M b=some c->M b'=some c->b=b'
 fz:∀c,Fz c->c<w.heap.size
 gl:Gl.ok Fz w
structure ba (σ:ae) (M:Nat->Option Nat) (Fz:Nat->Prop) (w:World) (σ':ae) (M':Nat->Option Nat) (Fz':Nat->Prop) (w':World):Prop where
 size:w.heap.size<=w'.heap.size
 frame:∀c:Nat,c<w.heap.size->(∀b,M b≠some c)->w'.heap[c]? = w.heap[c]?
 ja:∀b c,M' b=some c->(∃b0,M b0=some c)∨w.heap.size<=c
 fz:∀c:Nat,Fz c->Fz' c/\w'.heap[c]? = w.heap[c]?
 lD:∀c,Fz' c->Fz c∨(∃b,M b=some c)∨w.heap.size<=c
 nF:∀(c:Nat) arr T fr,w.heap[c]? = some (.cells arr T fr)->∃arr',w'.heap[c]? = some (.cells arr' T fr)/\arr'.size=arr.size
 keep:∀(b:Nat) ob,σ[b]? = some ob->∃ob',σ'[b]? = some ob'/\ob.sz<=ob'.sz/\(ob'.sz=ob.sz->M' b=M b)
 out:w'.os=w.os/\w'.tape=w.tape/\w'.output=w.output
section
variable{σ σ' σ'':ae}{M M' M'':Nat->Option Nat}{Fz Fz' Fz'':Nat->Prop}{w w' w'':World}
theorem V.mono(E:ba σ M Fz w σ' M' Fz' w'){d:D}{v:Value}(h:V σ M Fz w d v):V σ' M' Fz' w' d v:=by
 induction h with
 |c h=>exact .c (h.mono E.fz)
 |any v=>exact .any v
 |ptr a Q h A j=>
  obtain ⟨i,u,hs,hk⟩:=E.keep _ _ h;refine .ptr a i u (by omega) (λR=>?_)
  grind
 |sl a n cap F Q h A j=>
  obtain ⟨i,u,hs,hk⟩:=E.keep _ _ h;refine .sl a n cap F i u (by omega) (λR=>?_);rcases j (by omega) with ⟨s,U,h3,h4,h5,h6⟩ | ⟨c,o,W,T,hM,X,Y,Z,ho,hh,hb,hz⟩
  ·simp_all
  ·obtain ⟨x,G,aa⟩:=E.nF _ _ _ _ hh;exact .inr ⟨c,o,x,T,by grind,X,Y,Z,ho,G,by omega,hz⟩
 |mp c Q h j=>obtain ⟨i,u,hs,hk⟩:=E.keep _ _ h;exact .mp c i u (λR=>by simp_all)
 |fn z ws s U j hw K O=>exact .fn z ws s U K O
 |agg z s j ih=>exact .agg z s ih
 |aI z s j ih=>exact .aI z s ih
variable[Gl] in
theorem ba.refl(R:Rel σ M Fz w):ba σ M Fz w σ M Fz w:={
 size:=cn _
 frame:=λ_ _ _=>rfl
 ja:=λb c h=>.inl ⟨b,h⟩
 fz:=λc h=>⟨h,rfl⟩
 lD:=λc h=>.inl h
 nF:=λc i T o h=>⟨i,h,rfl⟩
 keep:=λb j h=>⟨j,h,cn _,λ_=>rfl⟩
 out:=⟨rfl,rfl,rfl⟩ }
theorem ba.trans(A:ba σ M Fz w σ' M' Fz' w')(B:ba σ' M' Fz' w' σ'' M'' Fz'' w'')(K:σ.length<=σ'.length):ba σ M Fz w σ'' M'' Fz'' w'':={
 size:=jz A.size B.size
 frame:=λc s x=>by
  rw[<-A.frame c s x];refine B.frame c (By s A.size) (λb z=>?_);rcases A.ja b c z with ⟨j,i⟩ | i
  ·simp_all
  ·omega
 ja:=λb c h=>by
  rcases B.ja b c h with ⟨j,i⟩ | i
  ·exact A.ja j c i
  ·exact .inr (jz A.size i)
 fz:=λc h=>by
  obtain ⟨h1,h2⟩:=A.fz c h;obtain ⟨O,Q⟩:=B.fz c h1
  simp_all
 lD:=λc h=>by
  rcases B.lD c h with h | ⟨b,h⟩ | h
  ·exact A.lD c h
  ·rcases A.ja b c h with ⟨j,i⟩ | i
   ·grind
   omega
  ·exact .inr (.inr (jz A.size h))
 nF:=λc o T u h=>by
  obtain ⟨E,h1,R⟩:=A.nF c o T u h;obtain ⟨U,h2,W⟩:=B.nF c E T u h1
  simp_all
 keep:=λb F h=>by
  obtain ⟨G,h1,s1,X⟩:=A.keep b F h;obtain ⟨Y,h2,s2,Z⟩:=B.keep b G h1
  grind
 out:=⟨B.out.1.trans A.out.1,B.out.2.1.trans A.out.2.1,B.out.2.2.trans A.out.2.2⟩ }
theorem bE.mono(E:ba σ M Fz w σ' M' Fz' w'){ob:Ob}{o:Obj}(h:bE σ M Fz w ob o):bE σ' M' Fz' w' ob o:=by
 cases ob with
 |cells G=>obtain ⟨j,T,z,A,s⟩:=h;exact ⟨j,T,z,A,λi d v u x=>⟨(s i d v u x).1.mono E,(s i d v u x).2⟩⟩
 |map K F=>obtain ⟨j,z,A,s⟩:=h;exact ⟨j,z,A,λi k d n e u x=>let ⟨a,b,c⟩:=s i k d n e u x;⟨a,b,c.mono E⟩⟩
 |gone n=>exact h.elim
end
end Go.Abs
end
section
namespace Go.Abs
variable[Gl]
def eB{α:Type}(P:Program):Sem α->Option α
 |.pure a=>some a
 |.program k=>eB P (k P)
 |_=>none
theorem Lv{α:Type}{P:Program}{s:Sem α}{a:α}(w:World)(h:eB P s=some a):s.run P w=.ok a w:=by
 induction s with
 |pure b=>simp only[eB,aj] at h;simp_all
 |program k ih=>simp only[eB] at h;exact ih P h
 |_=>grind [eB]
inductive aG where
 |t (n:Nat)
 |k (d:D)
 deriving Inhabited
def cX:Value->D
 |.agg b=>.agg (b.toList.map λv=>.c (.lit v))
 |.tuple b=>.aI (b.toList.map λv=>.c (.lit v))
 |v=>.c (.lit v)
def aG.ev(env:List D):aG->D
 |.t n=>(env[n]?).getD (.aI [])
 |.k d=>d
def bB:Operand->Option aG
 |.tmp t=>some (.t t)
 |.const v=>some (.k (cX v))
 |.func f=>some (.k (.c (.fn (.func f) [] [])))
 |.global g=>some (.k (.c (.Rr g)))
def fF:D->Option Value
 |.c (.lit v)=>some v
 |_=>none
def D.cy:D->Option Value
 |.c (.lit v)=>some v
 |.agg ds=>(ds.mapM fF).map λl=>.agg l.toArray
 |_=>none
def D.scalar:D->Bool
 |.c (.lit v)=>v.oneCell'
 |.c _ | .ptr .. | .sl .. | .mp _ | .fn ..=>true
 |_=>false
def D.cells?:D->Option (List D)
 |.agg i=>if i.all D.scalar then some i else none
 |d=>if d.scalar then some [d] else none
inductive jB where
 |xQ (x:aG)
 |pick (c a b:aG)
 |gen (op:Op) (ty:TypeId)
 |box (x:aG)
 |alloc (z:List D)
 |build (z:List D) (parts:List (Nat×Nat×aG))
 |ic (ar len:Nat) (z:List D) (parts:List (Nat×Nat×aG))
 |load (n:Option Nat) (a:aG)
 |store (n:Nat) (a x:aG)
 |kQ (x:aG)
 |gY (k:Nat) (neg:Bool) (x:aG)
 |Dw (off:Nat) (x:aG)
 |idx (ar:Nat) (arr:Option Nat) (x i:aG)
 |Rq (ar:Nat) (x:aG) (lo hi:Option aG)
 |len (x:aG)
 |TJ (x:aG)
 |mk (ar bytes:Nat) (z:List D) (l c:aG)
 |rT
 |lookup (kind:TypeDesc) (zero:D) (m k:aG) (ok:Bool)
 |qp (kind:TypeDesc) (m k x:aG)
 |extract (x:aG) (i:Nat)
 |Cg (f:Fn) (first cap:List aG)
 |part (off:Nat) (n:Option Nat) (x:aG)
 |zg (ar len:Nat) (n:Option Nat) (x i:aG)
 |append (ar bytes:Nat) (s x:aG)
 |copy (ar:Nat) (d s:aG)
 |del (kind:TypeDesc) (m k:aG)
 |QK (ar:Nat) (x lo hi mx:aG)
 |BI (n:Nat) (x:aG)
 |clr (ar:Nat) (z:List D) (x:aG)
 |call (f:aG) (args:List aG)
 deriving Inhabited
def EQ(xs:Array Operand):Option (List aG):=xs.toList.mapM bB
def Cn:Option Operand->Option (Option aG)
 |none=>some none
 |some x=>(bB x).map some
def BM(P:Program)(t:TypeId):Option (Option Nat):=
 match P.info? t,P.underlying t with
 |some i,some (.struct _)=>some (some i.size)
 |some i,some (.array _ _)=>some (some i.size)
 |some _,some _=>some none
 |_,_=>none
def zeroOf(P:Program)(t:TypeId):Option D:=
 match P.info? t with
 |some i=>i.zero.map cX
 |none=>none
def zq:D->D
 |.c (.lit (.slice none 0 0))=>.c (.ca false [])
 |d=>d
def Nm(P:Program)(t:TypeId):Option (List D):=(zeroOf P t).bind D.cells?
def aY(P:Program)(t:TypeId):Option Nat:=(P.info? t).map (·.size)
def Ga(P:Program)(b:Array Field):Option (List (Nat×Nat)):=b.toList.mapM λf=>(aY P f.type).map λn=>(f.offset,n)
def xg:TypeDesc->Option Nat
 |.pointer _=>some 0
 |.map _ _=>some 1
 |.func ..=>some 2
 |.slice _=>some 3
 |_=>none
def oL(k:Nat):Operand->Bool
 |.const (.pointer none)=>k == 0
 |.const (.map none)=>k == 1
 |.const .nilFunc=>k == 2
 |.const (.slice none 0 0)=>k == 3
 |_=>false
def tH(k:Nat)(neg:Bool)(x y:Operand):Option jB:=
 if oL k y then (bB x).map (.gY k neg) else if oL k x then (bB y).map (.gY k neg) else none
def isNil:Nat->D->Option Bool
 |0,.ptr ..=>some false
 |0,.c (.bZ ..)=>some false
 |0,.c (.lit (.pointer none))=>some true
 |1,.mp _=>some false
 |1,.c (.Ib _)=>some false
 |1,.c (.lit (.map none))=>some true
 |2,.fn ..=>some false
 |2,.c (.fn ..)=>some false
 |2,.c (.lit .nilFunc)=>some true
 |3,.sl _ _ (_+1) _ _=>some false
 |3,.c (.ca true _)=>some false
 |3,.c (.lit (.slice none 0 0))=>some true
 |_,_=>none
def Wf:TypeDesc->Bool
 |.int _=>true
 |_=>false
def jG(P:Program)(op:Op)(ty:TypeId):Option jB:=
 match op with
 |.move x | .assign x=>(bB x).map .xQ
 |.pick c a b=>do some (.pick (<-bB c) (<-bB a) (<-bB b))
 |.alloc t=>(Nm P t).map .alloc
 |.box _ x=>(bB x).map .box
 |.build t d => do
  let z <-Nm P t
  match <-P.underlying t with
  |.struct h => do
   let ps <-Ga P h
   some (.build z (<-d.toList.mapM λ(i,x)=>do let (o,n) <-ps[i]?;some (o,n,<-bB x)))
  |.array _ e => do
   let n <-aY P e
   some (.build z (<-d.toList.mapM λ(i,x)=>do some (i * n,n,<-bB x)))
  |_=>none
 |.buildSlice t len d => do
  match <-P.underlying t with
  |.slice e => do
   let n <-aY P e
   let z <-Nm P e
   if n=0∨z.length≠n∨len * n > 2 ^ 20 then none else
   some (.ic n len z (<-d.toList.mapM λ(i,x)=>do some (i * n,n,<-bB x)))
  |_=>none
 |.load t a=>do some (.load (<-BM P t) (<-bB a))
 |.store t a x=>do some (.store (<-aY P t) (<-bB a) (<-bB x))
 |.nilCheck x=>(bB x).map .kQ
 |.binOp o t x y _=>
  match (P.underlying t).bind xg with
  |some k=>
   match o with
   |.eql=>tH k false x y
   |.neq=>tH k true x y
   |_=>none
  |none=>some (.gen op ty)
 |.unOp ..=>some (.gen op ty)
 |.convert ..=>some (.gen op ty)
 |.makeFunc f first cap=>do some (.Cg f (<-EQ first) (<-EQ cap))
 |.makeMap _ none=>some .rT
 |.makeSlice t l c => do
  match <-P.underlying t with
  |.slice e => do
   let n <-aY P e
   let z <-Nm P e
   let i <-P.info? e
   if n=0∨z.length≠n then none else some (.mk n i.bytes (z.map zq) (<-bB l) (<-bB c))
  |_=>none
 |.slice t x p q none => do
  match <-P.underlying t with
  |.slice e=>do some (.Rq (<-aY P e) (<-bB x) (<-Cn p) (<-Cn q))
  |.string=>some (.gen op ty)
  |.array m e => match p, q with
   |none, none => do
    let k <-aY P e
    let r <-bB x
    if k=1 then some (.BI m r) else none
   |_,_=>none
  |_=>none
 |.slice t x (some p) (some q) (some u) => do
  match <-P.underlying t with
  |.slice e=>do some (.QK (<-aY P e) (<-bB x) (<-bB p) (<-bB q) (<-bB u))
  |_=>none
 |.fieldAddr s x f => do
  match <-P.underlying s with
  |.struct h => do
   let fd <-h[f]?
   let n <-aY P fd.type
   if n=0 then none else some (.Dw fd.offset (<-bB x))
  |_=>none
 |.field t x f => do
  match <-P.underlying t with
  |.struct h => do
   let fd <-h[f]?
   some (.part fd.offset (<-BM P fd.type) (<-bB x))
  |_=>none
 |.indexAddr t x i => do
  match <-P.underlying t with
  |.slice e => do
   let n <-aY P e
   if n=0 then none else some (.idx n none (<-bB x) (<-bB i))
  |.array len e => do
   let n <-aY P e
   if n=0 then none else some (.idx n (some len) (<-bB x) (<-bB i))
  |_=>none
 |.index t x i => do
  match <-P.underlying t with
  |.array len e=>do some (.zg (<-aY P e) len (<-BM P e) (<-bB x) (<-bB i))
  |.string=>some (.gen op ty)
  |_=>none
 |.lookup t m k ok => do
  match <-P.underlying t with
  |.map j e => do
   let g <-P.underlying j
   if Wf g then some (.lookup g (<-zeroOf P e) (<-bB m) (<-bB k) ok) else none
  |_=>none
 |.mapUpdate t m k x | .insert t m k x => do
  match <-P.underlying t with
  |.map j _ => do
   let g <-P.underlying j
   if Wf g then some (.qp g (<-bB m) (<-bB k) (<-bB x)) else none
  |_=>none
 |.extract x i=>do some (.extract (<-bB x) i)
 |.call { callee:=.value f,args,.. }=>do some (.call (<-bB f) (<-EQ args))
 |.call { callee := .builtin .len, args, argTypes } => do
  let t <-argTypes[0]?
  let x <-args[0]?
  if args.size≠1 then none else
  match <-P.underlying t with
  |.slice _=>(bB x).map .len
  |.map _ _=>(bB x).map .TJ
  |.array n _=>some (.xQ (.k (.c (.lit (.int .i64 n)))))
  |.string=>some (.gen op ty)
  |_=>none
 |.call { callee := .builtin .append, args, argTypes } => do
  let t <-argTypes[0]?
  let t1 <-argTypes[1]?
  let s <-args[0]?
  let x <-args[1]?
  match <-P.underlying t,<-P.underlying t1 with
  |.slice e, .slice _ => do
   let n <-aY P e
   let i <-P.info? e
   let z <-Nm P e
   if n=0∨z.length≠n then none else some (.append n i.bytes (<-bB s) (<-bB x))
  |_,_=>none
 |.call { callee := .builtin .copy, args, argTypes } => do
  let t <-argTypes[0]?
  let s <-args[0]?
  let x <-args[1]?
  match <-P.underlying t with
  |.slice e => do
   let n <-aY P e
   if n=0 then none else some (.copy n (<-bB s) (<-bB x))
  |_=>none
 |.call { callee := .builtin .delete, args, argTypes } => do
  let t <-argTypes[0]?
  let m <-args[0]?
  let k <-args[1]?
  match <-P.underlying t with
  |.map j _ => do
   let g <-P.underlying j
   if Wf g then some (.del g (<-bB m) (<-bB k)) else none
  |_=>none
 |.call { callee := .builtin .clear, args, argTypes } => do
  let t <-argTypes[0]?
  let x <-args[0]?
  match <-P.underlying t with
  |.slice e => do
   let n <-aY P e
   let z <-Nm P e
   if n=0∨z.length≠n then none else some (.clr n z (<-bB x))
  |_=>none
 |.call { callee:=.builtin .min,.. } | .call { callee:=.builtin .max,.. } | .call { callee:=.builtin .complex,.. }
 |.call { callee:=.builtin .real,.. } | .call { callee:=.builtin .imag,.. }=>some (.gen op ty)
 |_=>none
def xY:jB->Bool
 |.call ..=>true
 |_=>false
def SZ:jB->Bool
 |.gen (.select ..) _=>true
 |_=>false
def cat:jB->Nat
 |.xQ .. | .pick .. | .gen .. | .build .. | .kQ .. | .gY .. | .Dw .. | .idx .. | .Rq .. | .QK .. | .BI .. | .len .. | .extract .. | .Cg .. | .part .. | .zg ..=>0
 |.load ..=>1
 |.alloc .. | .box .. | .ic .. | .mk .. | .rT=>2
 |_=>3
def comp(P:Program)(op:Op)(ty:TypeId):Option jB:=
 match op with
 |.call { callee := .value f, args, .. }=>
  match bB f,EQ args with
  |some of,some os=>some (.call of os)
  |_,_=>none
 |_=>
  match jG P op ty with
  |some b=>if xY b || SZ b then none else some b
  |none=>none
def lC:Nat->List (Value×D×Nat)->List (Value×D×Nat)
 |_,[]=>[]
 |i,(k,d,_)::l=>(k,d,i)::lC (i+1) l
abbrev ta:=FuncId->List D->ae->Option (D×ae×List Nat)
def qI:D->Option Int
 |.c (.lit (.int _ n))=>some n
 |_=>none
def fO:D->Option Bool
 |.c (.lit (.bool b))=>some b
 |_=>none
def mJ(P:Program)(op:Op)(ty:TypeId)(env:List D):Option D:=
 if op.operands.toList.all (λx=>(((bB x).map (aG.ev env)).bind D.cy).isSome) then
  match eB P (execOp (λx=>((((bB x).map (aG.ev env)).bind D.cy).getD undef)) { dst:=none,op:=op,type:=ty,pos:="",after:=#[],guard:=none }) with
  |some (.value v)=>some (cX v)
  |_=>none
 else none
def put(cs:List D)(off:Nat)(xs:List D):List D:=cs.take off++xs++cs.drop (off+xs.length)
def nK(env:List D):List D->List (Nat×Nat×aG)->Option (List D)
 |b,[]=>some b
 |b, (o, n, x) :: rest => do
  let xs <-(x.ev env).cells?
  if xs.length≠n∨o+n > b.length then none else nK env (put b o xs) rest
def lu(σ:ae)(b sz:Nat):Option (List D):=
 match σ[b]? with
 |some (.cells d)=>if d.length=sz then some d else none
 |_=>none
def rD(n:Option Nat)(cs:List D)(off:Nat):Option D:=
 match n with
 |none=>cs[off]?
 |some n=>if off+n<=cs.length then some (.agg ((cs.drop off).take n)) else none
def qJ(n:Nat)(z:List D):List D:=(List.replicate n z).flatten
def Dt(σ:ae):D->Option Nat
 |.c (.lit (.slice none 0 0))=>some 0
 |.c (.ca _ es)=>some es.length
 |.sl b _ len _ sz=>if (lu σ b sz).isSome then some len else none
 |_=>none
def RU(σ:ae)(ar:Nat)(n:Nat):D->Option (List D)
 |.c (.lit (.slice none 0 0))=>if n=0 then some [] else none
 |.c (.ca _ d)=>if n<=d.length/\d.all (λe=>e.length=ar) then some ((d.take n).flatten.map .c) else none
 |.sl b off len d sz => do
  let f <-lu σ b sz
  if d=ar/\n<=len/\off+len * ar<=sz then some ((f.drop off).take (n * ar)) else none
 |_=>none
def pJ(kind:TypeDesc)(k:Value):List (Value×D×Nat)->Nat->Option (Option (Nat×D))
 |[],_=>some none
 |(b, d, _) :: es, i=>
  match Instr.sameNow kind k b with
  |some true=>some (some (i,d))
  |some false=>pJ kind k es (i+1)
  |none=>none
def Ev(σ:ae):D->Option (List (Value×D×Nat))
 |.c (.lit (.map none))=>some []
 |.c (.Ib es)=>some (es.map λp=>(p.1,.c p.2,0))
 |.mp b => match σ[b]? with
  |some (.map es _)=>some es
  |_=>none
 |_=>none
def Hb(zero:D):Option (Nat×D)->D×Bool
 |some (_,d)=>(d,true)
 |none=>(zero,false)
def yX(i:Int)(n:Nat):Option Nat:=if 0<=i/\i<n then some i.toNat else none
def Nj(i:Int)(n:Nat):Option Nat:=if 0<=i/\i<=n then some i.toNat else none
def lX(env:List D)(b d:Nat):Option aG->Option Nat
 |none=>some b
 |some x=>(qI (x.ev env)).bind λi=>Nj i d
def Ck(n b:Nat):Bool:=(n * b<=2 ^ 40&&n<=2 ^ 40)&&b<=2 ^ 20
def aR(P:Program)(orc:ta)(o:jB)(env:List D)(σ:ae):Option (D×ae×List Nat):=
 match o with
 |.xQ x=>some (x.ev env,σ,[])
 |.pick c a b=>(fO (c.ev env)).map λt=>(if t then a.ev env else b.ev env,σ,[])
 |.gen op ty=>(mJ P op ty env).map λd=>(d,σ,[])
 |.box x=>((x.ev env).cells?).map λp=>(.ptr σ.length 0 p.length,σ++[.cells p],[])
 |.alloc z=>some (.ptr σ.length 0 z.length,σ++[.cells z],[])
 |.build z F=>(nK env z F).map λp=>(.agg p,σ,[])
 |.ic ar len z F=>(nK env (qJ len z) F).map λp=>(.sl σ.length 0 len ar p.length,σ++[.cells p],[])
 |.load n a=>
  match a.ev env with
  |.ptr b off sz=>do some (<-rD n (<-lu σ b sz) off,σ,[])
  |.c (.bZ p off)=>do some (<-rD n (p.map .c) off,σ,[])
  |_=>none
 |.store n a x=>
  match a.ev env with
  |.ptr b off sz => do
   let p <-lu σ b sz
   let xs <-(x.ev env).cells?
   if xs.length=n/\off+n<=sz then some (.aI [],σ.set b (.cells (put p off xs)),[b]) else none
  |_=>none
 |.kQ x=>
  match x.ev env with
  |.ptr b off sz=>some (.ptr b off sz,σ,[])
  |.c (.bZ p off)=>some (.c (.bZ p off),σ,[])
  |.c (.fn (.func f) first cap)=>some (.c (.fn (.func f) first cap),σ,[])
  |.fn (.func f) first cap=>some (.fn (.func f) first cap,σ,[])
  |_=>none
 |.gY k G x=>(isNil k (x.ev env)).map λb=>(.c (.lit (.bool (if G then !b else b))),σ,[])
 |.Dw off x=>
  match x.ev env with
  |.ptr b o sz=>some (.ptr b (o+off) sz,σ,[])
  |.c (.bZ p o)=>some (.c (.bZ p (o+off)),σ,[])
  |_=>none
 |.idx ar none x i => do
  let i <-qI (i.ev env)
  match x.ev env with
  |.sl b off len j sz => do
   let _ <-lu σ b sz
   let k <-yX i len
   if j=ar then some (.ptr b (off+k * ar) sz,σ,[]) else none
  |.c (.ca _ j) => do
   let k <-yX i j.length
   let e <-j[k]?
   if e.length=ar then some (.c (.bZ e 0),σ,[]) else none
  |_=>none
 |.idx ar (some len) x i => do
  let i <-qI (i.ev env)
  let k <-yX i len
  match x.ev env with
  |.ptr b off sz=>some (.ptr b (off+k * ar) sz,σ,[])
  |.c (.bZ p off)=>some (.c (.bZ p (off+k * ar)),σ,[])
  |.c (.Rr g) => match Gl.tab g with
   |[]=>none
   |v::N=>some (.c (.bZ ((v::N).map .lit) (k * ar)),σ,[])
  |_=>none
 |.Rq ar x E y=>
  match x.ev env with
  |.c (.lit (.slice none 0 0)) => do
   let h <-lX env 0 0 y
   let _ <-lX env 0 h E
   some (.c (.lit (.slice none 0 0)),σ,[])
  |.c (.ca nn j) => do
   let h <-lX env j.length j.length y
   let l <-lX env 0 h E
   if j.all (λe=>e.length=ar) then some (.c (.ca nn ((j.take h).drop l)),σ,[]) else none
  |.sl b off len j sz => do
   let _ <-lu σ b sz
   let h <-(lX env len len y).orElse λ_=>lX env len ((sz-off) / j) y
   let l <-lX env 0 h E
   if j=ar then some (.sl b (off+l * ar) (h-l) ar sz,σ,[]) else none
  |_=>none
 |.len x=>(Dt σ (x.ev env)).map λ(n:Nat)=>(.c (.lit (.int .i64 (Int.ofNat n))),σ,[])
 |.TJ x=>(Ev σ (x.ev env)).map λj=>(.c (.lit (.int .i64 (Int.ofNat j.length))),σ,[])
 |.mk ar q z l c => do
  let l <-qI (l.ev env)
  let c <-qI (c.ev env)
  if 0<=l/\l<=c/\Ck c.toNat q then some (.sl σ.length 0 l.toNat ar (l.toNat * ar),σ++[.cells (qJ l.toNat z)],[]) else none
 |.rT=>some (.mp σ.length,σ++[.map [] 0],[])
 |.lookup u zero m k ok => do
  let A <-fF (k.ev env)
  let j <-Ev σ (m.ev env)
  let r <-pJ u A j 0
  some (if ok then .aI [(Hb zero r).1,.c (.lit (.bool (Hb zero r).2))] else (Hb zero r).1,σ,[])
 |.qp u m k x => do
  let A <-fF (k.ev env)
  match m.ev env with
  |.mp b => match σ[b]? with
   |some (.map j clock) => do
    match <-pJ u A j 0 with
    |some (i,_)=>some (.aI [],σ.set b (.map (j.modify i λ(k,_,n)=>(k,x.ev env,n)) clock),[b])
    |none=>some (.aI [],σ.set b (.map (j++[(A,x.ev env,clock)]) (clock+1)),[b])
   |_=>none
  |_=>none
 |.del u m k => do
  let A <-fF (k.ev env)
  match m.ev env with
  |.mp b => match σ[b]? with
   |some (.map j clock) => do
    match <-pJ u A j 0 with
    |some (i,_)=>some (.aI [],σ.set b (.map (lC 0 (j.eraseIdx i)) (clock-1)),[b])
    |none=>some (.aI [],σ.set b (.map j clock),[b])
   |_=>none
  |_=>none
 |.extract x i=>
  match x.ev env with
  |.aI ds=>(ds[i]?).map λd=>(d,σ,[])
  |_=>none
 |.Cg f first cap=>some (.fn f (first.map (aG.ev env)) (cap.map (aG.ev env)),σ,[])
 |.part off n x=>
  match x.ev env with
  |.agg p=>(rD n p off).map λd=>(d,σ,[])
  |_=>none
 |.zg ar len n x i => do
  let i <-qI (i.ev env)
  let k <-yX i len
  match x.ev env with
  |.agg p=>(rD n p (k * ar)).map λd=>(d,σ,[])
  |_=>none
 |.append ar q s x => do
  let K:=x.ev env
  let n <-Dt σ K
  let new <-RU σ ar n K
  match s.ev env with
  |.c (.lit (.slice none 0 0))=>if Ck n q then some (.sl σ.length 0 n ar (n * ar),σ++[.cells new],[]) else none
  |.sl b off len j sz => do
   let p <-lu σ b sz
   if j=ar/\off=0/\len * ar=sz/\Ck (len+n) q then
    if n=0 then some (.sl b 0 len ar sz,σ,[b])
    else some (.sl b 0 (len+n) ar (sz+n * ar),σ.set b (.cells (p++new)),[b])
   else if j=ar/\off=0/\(len+n) * ar<=sz/\Ck (len+n) q then
    if n=0 then some (.sl b 0 len ar sz,σ,[b])
    else some (.sl b 0 (len+n) ar sz,σ.set b (.cells (put p (len * ar) new)),[b])
   else none
  |_=>none
 |.BI m x=>
  match x.ev env with
  |.c (.bZ p off)=>if off+m<=p.length then some (.c (.ca false (((p.drop off).take m).map λc=>[c])),σ,[]) else none
  |_=>none
 |.QK ar x E y O=>
  match x.ev env with
  |.sl b _ len j sz => do
   let _ <-lu σ b sz
   let m <-(qI (O.ev env)).bind λi=>Nj i len
   let h <-(qI (y.ev env)).bind λi=>Nj i len
   let _ <-(qI (E.ev env)).bind λi=>Nj i h
   if m=len/\j=ar then some (.any,σ,[]) else none
  |_=>none
 |.clr ar z x=>
  match x.ev env with
  |.sl b off len j sz => do
   let p <-lu σ b sz
   if j=ar/\off+len * ar<=sz/\z.length=ar then some (.aI [],σ.set b (.cells (put p off (qJ len z))),[b]) else none
  |_=>none
 |.copy ar d s => do
  let L:=s.ev env
  match d.ev env with
  |.sl b off len j sz => do
   let p <-lu σ b sz
   let n <-(Dt σ L).map λm=>min m len
   let new <-RU σ ar n L
   if j=ar/\off+len * ar<=sz then some (.c (.lit (.int .i64 n)),σ.set b (.cells (put p off new)),[b]) else none
  |_=>none
 |.call f args=>
  match f.ev env with
  |.c (.fn (.func g) first cap)=>orc g (first.map .c++args.map (aG.ev env)++cap.map .c) σ
  |.fn (.func g) first cap=>orc g (first++args.map (aG.ev env)++cap) σ
  |_=>none
end Go.Abs
end
section
namespace Go.Abs
variable[Gl]
section
variable{σ σ':ae}{M M':Nat->Option Nat}{Fz Fz':Nat->Prop}{w w':World}
theorem Rel.lt(R:Rel σ M Fz w){b c:Nat}(h:M b=some c):b<σ.length/\c<w.heap.size:=by
 obtain ⟨_,i,o,j,s,_⟩:=R.blk b c h
 grind
theorem VC.heap(i:w'.heap=w.heap){x:C}{v:Value}(h:VC Fz w x v):VC Fz w' x v:=h.mono λc j=>⟨j,by rw[i]⟩
theorem ba.heap(R:Rel σ M Fz w)(j:w'.heap=w.heap)(o:w'.os=w.os/\w'.tape=w.tape/\w'.output=w.output):ba σ M Fz w σ M Fz w':={
 size:=by simp_all
 frame:=λ_ _ _=>by rw[j]
 ja:=λb c h=>.inl ⟨b,h⟩
 fz:=λc h=>⟨h,by rw[j]⟩
 lD:=λc h=>.inl h
 nF:=λc i T u h=>⟨i,by simp_all,rfl⟩
 keep:=λb s h=>⟨s,h,cn _,λ_=>rfl⟩
 out:=o }
theorem Rel.heap(R:Rel σ M Fz w)(i:w'.heap=w.heap)(j:w'.os=w.os/\w'.tape=w.tape/\w'.output=w.output):Rel σ M Fz w':={
 blk:=λb c h=>by obtain ⟨s,ob,o,h1,h2,u⟩:=R.blk b c h;exact ⟨s,ob,o,h1,by simp_all,u.mono (ba.heap R i j)⟩
 inj:=R.inj
 fz:=λc h=>by rw[i];exact R.fz c h
 gl:=Gl.mono (ba.heap R i j).fz R.gl }
def ut(M:Nat->Option Nat)(b c:Nat):Nat->Option Nat:=λx=>if x=b then some c else M x
theorem ba.alloc(i:∀c,Fz c->c<w.heap.size)(ob:Ob)(o:Obj):ba σ M Fz w (σ++[ob]) (ut M σ.length w.heap.size) Fz (w.alloc o):={
 size:=by simp
 frame:=λc u _=>yBI w o c u
 ja:=λb c h=>by grind [ut]
 fz:=λc h=>⟨h,yBI w o c (i c h)⟩
 lD:=λc h=>.inl h
 nF:=λc j T x h=>⟨j,by grind [Go.heap_alloc_old],rfl⟩
 keep:=λb s h=>by
  have z:=(d_.1 h).1;refine ⟨s,by grind,cn _,λ_=>?_⟩;unfold ut
  grind
 out:=⟨rfl,rfl,rfl⟩ }
theorem Rel.alloc(R:Rel σ M Fz w)(ob:Ob)(o:Obj)(h:bE (σ++[ob]) (ut M σ.length w.heap.size) Fz (w.alloc o) ob o) :
  Rel (σ++[ob]) (ut M σ.length w.heap.size) Fz (w.alloc o):={
 blk:=λb c i=>by
  unfold ut at i;split at i
  ·rename_i x;subst x;simp only[aj] at i;subst i;exact ⟨λs=>by have:=R.fz _ s;omega,ob,o,by simp,heap_alloc_new w o,h⟩
  ·obtain ⟨s,u,z,h1,h2,A⟩:=R.blk b c i;have F:=R.lt i;exact ⟨s,u,z,by grind,by grind [Go.heap_alloc_old],A.mono (ba.alloc R.fz ob o)⟩
 inj:=λb E c h j=>by
  unfold ut at h j;split at h <;> split at j
  ·omega
  ·simp only[aj] at h;have:=(R.lt j).2;omega
  ·simp only[aj] at j;have:=(R.lt h).2;omega
  ·exact R.inj b E c h j
 fz:=λc h=>by have:=R.fz c h;simp;omega
 gl:=Gl.mono (ba.alloc (σ:=σ) (M:=M) R.fz ob o).fz R.gl }
def bX(w:World)(c:Nat)(o:Obj):World:={ w with heap:=w.heap.setIfInBounds c o }
theorem dN{c:Nat}{o:Obj}(h:c<w.heap.size):(bX w c o).heap[c]? = some o:=by simp[bX,h]
theorem fe{c k:Nat}{o:Obj}(h:k≠c):(bX w c o).heap[k]? = w.heap[k]?:=by grind [bX]
@[simp] theorem PH{c:Nat}{o:Obj}:(bX w c o).heap.size=w.heap.size:=by simp[bX]
theorem ba.qp(R:Rel σ M Fz w){b c:Nat}(x:M b=some c){ob ob':Ob}{o o':Obj}(A:σ[b]? = some ob)(E:w.heap[c]? = some o)(hs:ob.sz<=ob'.sz)
  (s:∀arr T j,o=.cells arr T j->∃i,o'=.cells i T j/\i.size=arr.size):ba σ M Fz w (σ.set b ob') M Fz (bX w c o'):={
 size:=by simp
 frame:=λk hk z=>fe (λh=>z b (by grind))
 ja:=λb c h=>.inl ⟨b,h⟩
 fz:=λk h=>⟨h,fe (λe=>(R.blk b c x).1 (e▸h))⟩
 lD:=λc h=>.inl h
 nF:=λk arr T j h=>by grind [dN,fe]
 keep:=λk u h=>by grind
 out:=⟨rfl,rfl,rfl⟩ }
theorem Rel.qp(R:Rel σ M Fz w){b c:Nat}(s:M b=some c){ob ob':Ob}{o o':Obj}(z:σ[b]? = some ob)(A:w.heap[c]? = some o)(hs:ob.sz<=ob'.sz)
  (i:∀arr T E,o=.cells arr T E->∃j,o'=.cells j T E/\j.size=arr.size)
  (h:bE (σ.set b ob') M Fz (bX w c o') ob' o'):Rel (σ.set b ob') M Fz (bX w c o'):={
 blk:=λu c1 F=>by
  obtain ⟨G,x,K,h2,h3,O⟩:=R.blk u c1 F;by_cases e:u=b
  ·subst e;have:c1=c:=by simp_all
   grind [dN]
  ·refine ⟨G,x,K,by grind,?_,O.mono (ba.qp R s z A hs i)⟩;rw[fe (λQ:c1=c=>e (R.inj u b c (by simp_all) s))];exact h3
 inj:=R.inj
 fz:=λc h=>by simp;exact R.fz c h
 gl:=Gl.mono (ba.qp R s z A hs i).fz R.gl }
theorem ba.move(R:Rel σ M Fz w){b:Nat}{ob ob':Ob}{o':Obj}(s:σ[b]? = some ob)(hs:ob.sz<ob'.sz) :
  ba σ M Fz w (σ.set b ob') (ut M b w.heap.size) Fz (w.alloc o'):={
 size:=by simp
 frame:=λc o _=>yBI w o' c o
 ja:=λb c h=>by grind [ut]
 fz:=λc h=>⟨h,yBI w o' c (R.fz c h)⟩
 lD:=λc h=>.inl h
 nF:=λc j T u h=>⟨j,by grind [Go.heap_alloc_old],rfl⟩
 keep:=λk i h=>by
  by_cases e:k=b
  ·grind
  ·refine ⟨i,by grind,cn _,λ_=>?_⟩;unfold ut
   simp_all
 out:=⟨rfl,rfl,rfl⟩ }
theorem Rel.move(R:Rel σ M Fz w){b:Nat}{ob ob':Ob}{o':Obj}(u:σ[b]? = some ob)(hs:ob.sz<ob'.sz)
  (h:bE (σ.set b ob') (ut M b w.heap.size) Fz (w.alloc o') ob' o'):Rel (σ.set b ob') (ut M b w.heap.size) Fz (w.alloc o'):={
 blk:=λj c1 i=>by
  unfold ut at i;split at i
  ·rename_i e;subst e;simp only[aj] at i;subst i;exact ⟨λo=>by have:=R.fz _ o;omega,ob',o',by grind,heap_alloc_new w o',h⟩
  ·rename_i e;obtain ⟨o,s,x,h2,h3,z⟩:=R.blk j c1 i;exact ⟨o,s,x,by grind,by grind [Go.heap_alloc_old],z.mono (ba.move R u hs)⟩
 inj:=λj A c i h2=>by
  unfold ut at i h2;split at i <;> split at h2
  ·omega
  ·simp only[aj] at i;have:=(R.lt h2).2;omega
  ·simp only[aj] at h2;have:=(R.lt i).2;omega
  ·exact R.inj j A c i h2
 fz:=λc h=>by have:=R.fz c h;simp;omega
 gl:=Gl.mono (ba.move (o':=o') R u hs).fz R.gl }
def ce(arr:Array Value)(off:Nat)(xs:List Value):Array Value:=(arr.toList.take off++xs++arr.toList.drop (off+xs.length)).toArray
theorem Qv{arr:Array Value}{off:Nat}{xs:List Value}(h:off+xs.length<=arr.size):(ce arr off xs).size=arr.size:=by grind [ce]
theorem xU{arr:Array Value}{off:Nat}{x:Value}{xs:List Value}(h:off+(xs.length+1)<=arr.size) :
  ce (arr.setIfInBounds off x) (off+1) xs=ce arr off (x::xs):=by
 apply Array.ext';simp only[ce,Array.toList_setIfInBounds,List.length_cons];apply Qg;intro i;have b:arr.toList.length=arr.size:=by simp
 simp only[yBz,Jw,km,yBB,b,List.length_cons]
 grind
theorem bV{arr:Array Value}{off:Nat}{xs:List Value}(h:off+xs.length<=arr.size)(i:Nat) :
  (ce arr off xs)[i]? = if off<=i/\i<off+xs.length then xs[i-off]? else arr[i]?:=by
 have b:arr.toList.length=arr.size:=by simp
 simp only[ce,List.getElem?_toArray,yBz,Jw,km,b]
 grind
theorem gy{cs xs:List D}{off:Nat}(h:off+xs.length<=cs.length)(i:Nat) :
  (put cs off xs)[i]? = if off<=i/\i<off+xs.length then xs[i-off]? else cs[i]?:=by
 simp only[put,yBz,Jw,km]
 grind
theorem WT{cs xs:List D}{off:Nat}(h:off+xs.length<=cs.length):(put cs off xs).length=cs.length:=by grind [put]
theorem dM(blk o i:Nat):(Addr.mk blk o none).add i=⟨blk,o+i,none⟩:=by grind [Go.Addr.add]
theorem FC{c off:Nat}{arr:Array Value}{T:TypeId}{v:Value}(h:w.heap[c]? = some (.cells arr T (0,0))) :
  w.setCell ⟨c,off,none⟩ v=bX w c (.cells (arr.setIfInBounds off v) T (0,0)):=by
 unfold World.setCell bX;congr 1
 grind
theorem DV{c:Nat}{o o':Obj}:bX (bX w c o) c o'=bX w c o':=by simp[bX]
theorem rf(P:Program)(T:TypeId)(c:Nat):∀(xs:List Value)(i off:Nat)(w:World)(arr:Array Value),
  w.heap[c]? = some (.cells arr T (0,0))->(∀x∈xs,x.oneCell'=true)->off+i+xs.length<=arr.size ->
  (storeCells ⟨c,off,none⟩ xs i).run P w=.ok () (if xs=[] then w else bX w c (.cells (ce arr (off+i) xs) T (0,0))):=by
 intro xs;induction xs with
 |nil=>intro i off w arr _ _ _;simp[storeCells]
 |cons x xs ih=>
  intro i off w arr d f h;simp only[List.length_cons] at h;have e:=(xR.1 d).1;have b:w.cell? ⟨c,off+i,none⟩=some (arr[off+i]'(by omega)):=by
   rw[cell_of_row w c (off+i) arr T (0,0) d]
   simp_all
  simp only[storeCells,Sem.run_bind,dM];rw[run_store P w _ x _ (f x (by simp)),b];simp only[frozen_of_row w c (off+i) arr T d,bA,bT,Result.andThen_ok];rw[FC d];have j:=ih (i+1) off (bX w c (.cells (arr.setIfInBounds (off+i) x) T (0,0))) (arr.setIfInBounds (off+i) x) (dN e)
   (λy k=>f y (by simp[k])) (by grind)
  rw[j];simp only[List.cons_ne_nil,bT,reduceCtorEq];congr 1;by_cases g:xs=[]
  ·subst g;simp only[if_true];rw[<-xU (by omega)];congr 2;apply Array.ext';simp[ce]
  ·rw[if_neg g,DV,<-xU (by omega)];rfl
end
end Go.Abs
end
section
namespace Go.Abs
variable[Gl]
def cR(σ:ae)(M:Nat->Option Nat)(Fz:Nat->Prop)(w:World)(env:List D)(b:Array Value):Prop:=
 b.size=env.length/\∀(i:Nat) d v,env[i]? = some d->b[i]? = some v->V σ M Fz w d v
def c_(P:Program)(s:Sem Next)(σ:ae)(M:Nat->Option Nat)(Fz:Nat->Prop)(w:World)(σ':ae)(d:D):Prop:=
 ∃b v w' M',s.run P w=.ok b w'/\(b=.value v∨b=.skip/\v=undef)/\Rel σ' M' Fz w'/\V σ' M' Fz w' d v/\ba σ M Fz w σ' M' Fz w'/\σ.length<=σ'.length
section
variable{P:Program}{σ σ':ae}{M M':Nat->Option Nat}{Fz:Nat->Prop}{w w':World}{env:List D}{a:Act}
theorem c_.same{s:Sem Next}{v:Value}{d:D}(R:Rel σ M Fz w)(i:s.run P w=.ok (.value v) w)(j:V σ M Fz w d v):c_ P s σ M Fz w σ d:=
 ⟨_,v,w,M,i,.inl rfl,R,j,ba.refl R,cn _⟩
def Yields(P:Program)(s:Sem Next)(σ:ae)(M:Nat->Option Nat)(Fz:Nat->Prop)(w:World)(d:D):Prop:=∃v,s.run P w=.ok (.value v) w/\V σ M Fz w d v
def ai(P:Program)(s:Sem Next)(σ:ae)(M:Nat->Option Nat)(Fz:Nat->Prop)(w:World)(ob:Ob)(d:D):Prop:=
 ∃o v,s.run P w=.ok (.value v) (w.alloc o)/\bE (σ++[ob]) (ut M σ.length w.heap.size) Fz (w.alloc o) ob o/\V (σ++[ob]) (ut M σ.length w.heap.size) Fz (w.alloc o) d v
theorem Yields.same{s:Sem Next}{v:Value}{d:D}(i:s.run P w=.ok (.value v) w)(j:V σ M Fz w d v):Yields P s σ M Fz w d:=⟨v,i,j⟩
theorem Yields.gives{s:Sem Next}{d:D}(R:Rel σ M Fz w)(h:Yields P s σ M Fz w d):c_ P s σ M Fz w σ d:=
 let ⟨_,i,j⟩:=h;c_.same R i j
theorem ai.gives{s:Sem Next}{d:D}{ob:Ob}(R:Rel σ M Fz w)(h:ai P s σ M Fz w ob d):c_ P s σ M Fz w (σ++[ob]) d:=
 let ⟨o,v,i,j,u⟩:=h;⟨_,v,_,_,i,.inl rfl,R.alloc ob o j,u,ba.alloc R.fz ob o,by simp⟩
theorem V.cX (v:Value):V σ M Fz w (cX v) v:=by
  cases v <;> first
    | exact .c (.lit _)
    | (refine .agg _ (by simp) (fun i d v j o=>?_)
       simp only [gP,Kr,o,Option.map_some,aj] at j
       subst j
       exact .c (.lit _))
    | (refine .aI _ (by simp) (fun i d v j o=>?_)
       simp only [gP,Kr,o,Option.map_some,aj] at j
       subst j
       exact .c (.lit _))
theorem ki(E:cR σ M Fz w env a.tmps){x:Operand}{o:aG}(h:bB x=some o):V σ M Fz w (o.ev env) (a.eval x):=by
 cases x with
 |tmp t=>
  simp only[bB,aj] at h;subst h;simp only[aG.ev,Act.eval];by_cases e:t<env.length
  ·have j:env[t]? = some env[t]:=cT e;have k:a.tmps[t]? = some (a.tmps[t]'(by rw[E.1];exact e)):=oF _;rw[j,OE,YO,k,OE];exact E.2 t _ _ j k
  ·have b:env.length<=t:=Nat.le_of_not_lt e;rw[yBC b,YO,Array.getElem?_eq_none (by rw[E.1];exact b)];exact .aI #[] rfl (λi d v h=>by simp at h)
 |const v=>simp only[bB,aj] at h;subst h;exact V.cX v
 |global g=>simp only[bB,aj] at h;subst h;exact .c (.Rr g)
 |func f=>simp only[bB,aj] at h;subst h;exact .c (.fn #[] #[] rfl rfl (λi d v h=>by simp at h) (λi d v h=>by simp at h))
theorem V.bI{v i:Value}(h:V σ M Fz w (.c (.lit v)) i):i=v:=by
 cases h with
 |c h=>cases h;rfl
theorem Lk{ds:List D}{l:List Value}(h:ds.mapM fF=some l):ds.length=l.length/\∀(i:Nat) d,ds[i]? = some d->∃v,l[i]? = some v/\d=.c (.lit v):=by
 induction ds generalizing l with
 |nil=>simp_all
 |cons d ds ih=>
  simp only[Pq,Option.pure_def,Option.bind_eq_bind,b_,aj] at h;obtain ⟨v,b,g,e,rfl⟩:=h;obtain ⟨f,j⟩:=ih e;refine ⟨by simp[f],λi k hd=>?_⟩;cases i with
  |zero=>
   simp only[List.getElem?_cons_zero,aj] at hd;subst hd;cases d with
   |c x=>cases x <;> simp[fF] at b;simp_all
   |_=>grind [fF]
  |succ i=>simp_all
theorem V.Yf{d:D}{v s:Value}(h:V σ M Fz w d s)(j:d.cy = some v):s=v:=by
 cases d with
 |c x=>cases x <;> simp[D.cy] at j;grind [V.bI]
 |agg ds=>
  simp only[D.cy,bU] at j;obtain ⟨l,G,rfl⟩:=j;obtain ⟨Q,K⟩:=Lk G;cases h with
  |agg z hs o=>
   congr 1;apply Array.ext';apply Qg;intro i;simp only[Kr];by_cases O:i<ds.length
   ·have A:ds[i]? = some ds[i]:=cT O;have E:z[i]? = some (z[i]'(by omega)):=oF _;obtain ⟨u,R,hd⟩:=K i _ A;have F:=o i _ _ A E;rw[hd] at F;rw[E,F.bI]
    simp_all
   simp_all
 |_=>grind [D.cy]
theorem Vw(E:cR σ M Fz w env a.tmps){o:Oper}{x:Operand}{d:aG}(b:o.op=.move x∨o.op=.assign x)(e:bB x=some d) :
  Yields P (execOp a.eval o) σ M Fz w (d.ev env):=by
 refine Yields.same (v:=a.eval x) ?_ (ki E e);rcases b with b | b <;> simp[execOp,b]
theorem mo{d:D}{v:Value}{t:Bool}(h:V σ M Fz w d v)(b:fO d=some t):v=.bool t:=by
 cases d with
 |c x=>
  cases x with
  |lit u=>
   cases u <;> simp[fO] at b
   grind [V.bI]
  |_=>grind [fO]
 |_=>grind [fO]
theorem ij{d:D}{v:Value}{n:Int}(h:V σ M Fz w d v)(b:qI d=some n):∃k,v=.int k n:=by
 cases d with
 |c x=>
  cases x with
  |lit u=>
   cases u <;> simp[qI] at b
   grind [V.bI]
  |_=>grind [qI]
 |_=>grind [qI]
theorem Zq(E:cR σ M Fz w env a.tmps){o:Oper}{c x y:Operand}{b d e:aG}{t:Bool}(f:o.op=.pick c x y)
  (g:bB c=some b) (i:bB x=some d) (j:bB y=some e) (h:fO (b.ev env)=some t) :
  Yields P (execOp a.eval o) σ M Fz w (if t then d.ev env else e.ev env):=by
 refine Yields.same (v:=if t then a.eval x else a.eval y) ?_ ?_
 ·simp[execOp,f,mo (ki E g) h,asBool]
 grind [ki]
theorem ju(E:cR σ M Fz w env a.tmps){o:Oper}{d:D}(e:∀cs b,o.op≠.select cs b)(h:mJ P o.op o.type env=some d) :
  Yields P (execOp a.eval o) σ M Fz w d:=by
 unfold mJ at h;split at h
 ·rename_i f;generalize j:(λx=>((((bB x).map (aG.ev env)).bind D.cy).getD undef))=ρ at h;have k:execOp a.eval o=execOp ρ o:=by
   refine execOp_congr o e (λx n=>?_);have g:=(fE.1 f) x (by simp_all);rw[<-j];cases i:bB x with
   |none=>simp_all
   |some p=>simp only[i,Option.map_some,Option.bind_some] at g ⊢;obtain ⟨v,m⟩:=yBn.1 g;rw[m,OE];exact (ki E i).Yf m
  have l:execOp ρ o=execOp ρ { dst:=none,op:=o.op,type:=o.type,pos:="",after:=#[],guard:=none }:=rfl
  grind [Yields.same,V.cX,Lv]
 simp_all
theorem V.one{d:D}{v:Value}(h:V σ M Fz w d v)(hs:d.scalar=true):v.oneCell'=true/\v.cells=#[v]:=by
 cases h with
 |c h=>
  cases h with
  |lit v=>simp only[D.scalar] at hs;cases v <;> first | exact ⟨rfl,rfl⟩ | simp[Value.oneCell'] at hs
  |_=>exact ⟨rfl,rfl⟩
 |any v=>grind [D.scalar]
 |agg=>grind [D.scalar]
 |aI=>grind [D.scalar]
 |_=>exact ⟨rfl,rfl⟩
theorem V.cells{d:D}{v:Value}{cs:List D}(h:V σ M Fz w d v)(j:d.cells? = some cs) :
  v.cells.size=cs.length/\(∀(i:Nat) x u,cs[i]? = some x->v.cells[i]? = some u->V σ M Fz w x u)/\(∀u∈v.cells.toList,u.oneCell'=true)/\(∀x∈cs,x.scalar=true):=by
 have s:d.scalar=true->d.cells? = some [d]->v.cells.size=cs.length/\(∀(i:Nat) x u,cs[i]? = some x->v.cells[i]? = some u->V σ M Fz w x u)/\(∀u∈v.cells.toList,u.oneCell'=true)/\(∀x∈cs,x.scalar=true):=by
  intro hs z;rw[z] at j;simp only[aj] at j;subst j;obtain ⟨R,U⟩:=h.one hs
  grind
 cases d with
 |agg ds=>
  simp only[D.cells?] at j;split at j
  ·rename_i o;simp only[aj] at j;subst j;cases h with
   |agg A z E=>refine ⟨z,E,λu F=>?_,λx G=>fE.1 o x G⟩;obtain ⟨i,K,rfl⟩:=Pg.1 F;simp only[Value.cells,Array.length_toList] at K;have O:ds[i]? = some (ds[i]'(by omega)):=cT _;have Q:A[i]? = some A[i]:=oF _;exact ((E i _ _ O Q).one (fE.1 o _ (bn _))).1
  simp_all
 |_=>
  simp only[D.cells?] at j;split at j
  ·rename_i hs;exact s hs (by simp only[D.cells?,hs,if_true])
  simp_all
theorem uV{arr:Array Value}{i:Nat}{u:Value}(h:arr[i]? = some u):u∈arr.toList:=by grind
theorem nU (b:∀c,Fz c→c<w.heap.size) {cs:List D} {arr:Array Value} (T:TypeId) (hs:cs.length≤arr.size)
  (e:∀(i:Nat) x u,cs[i]? = some x→arr[i]? = some u→V σ M Fz w x u∧u.oneCell'=true) :
  (newRow T arr).run P w=.ok ⟨w.heap.size,0,none⟩ (w.alloc (.cells arr T)) ∧
   bE (σ++[.cells cs]) (ut M σ.length w.heap.size) Fz (w.alloc (.cells arr T)) (.cells cs) (.cells arr T):=
 ⟨rfl,arr,T,rfl,hs,fun i d v f g=>⟨(e i d v f g).1.mono (ba.alloc b _ _),(e i d v f g).2⟩⟩
theorem V.SI(cs:List D)(o:Obj):V (σ++[.cells cs]) (ut M σ.length w.heap.size) Fz (w.alloc o) (.ptr σ.length 0 cs.length) (.pointer (some ⟨w.heap.size,0,none⟩)):=
 .ptr _ (.cells cs) (by simp) (by simp[Ob.sz]) (λ_=>⟨w.heap.size,by simp[ut],rfl⟩)
theorem box_ok(b:∀c,Fz c->c<w.heap.size)(E:cR σ M Fz w env a.tmps){o:Oper}{t:TypeId}{x:Operand}{e:aG}{cs:List D}(g:o.op=.box t x)(d:bB x=some e)
  (h:(e.ev env).cells? = some cs):ai P (execOp a.eval o) σ M Fz w (.cells cs) (.ptr σ.length 0 cs.length):=by
 obtain ⟨n,j,k,_⟩:=(ki E d).cells h;obtain ⟨l,m⟩:=nU (P:=P) b t (by omega) (λi x u d f=>⟨j i x u d f,k u (uV f)⟩);exact ⟨_,_,by simp[execOp,g,Instr.box,newVar,l],m,V.SI cs _⟩
theorem zcM{t:TypeId}{z:List D}(h:Nm P t=some z):∃i v,P.info? t=some i/\i.zero=some v/\(cX v).cells? = some z:=by grind [Nm,zeroOf,Option.bind_eq_some_iff]
theorem ZV{t:TypeId}{i:TypeInfo}(h:P.info? t=some i)(w:World):(typeInfo t).run P w=.ok i w:=by simp[typeInfo,h]
theorem gn{t:TypeId}{i:TypeInfo}{v:Value}(h:P.info? t=some i)(b:i.zero=some v)(w:World):(zeroValue t).run P w=.ok v w:=by simp[zeroValue,ZV h,b]
theorem LP{t:TypeId}{n:Nat}(h:aY P t=some n)(w:World):(sizeOf t).run P w=.ok n w:=by simp only[aY,bU] at h;obtain ⟨i,b,rfl⟩:=h;simp[sizeOf,ZV b]
theorem oE{t:TypeId}{d:TypeDesc}(h:P.underlying t=some d)(w:World):(underlying t).run P w=.ok d w:=by simp[underlying,h]
theorem SH(b:∀c,Fz c->c<w.heap.size){o:Oper}{t:TypeId}{z:List D}(e:o.op=.alloc t)(f:Nm P t=some z) :
  ai P (execOp a.eval o) σ M Fz w (.cells z) (.ptr σ.length 0 z.length):=by
 obtain ⟨i,v,g,h,j⟩:=zcM f;obtain ⟨q,k,l,_⟩:=(V.cX (σ:=σ) (M:=M) (Fz:=Fz) (w:=w) v).cells j;obtain ⟨m,n⟩:=nU (P:=P) b t (by omega) (λi x u p d=>⟨k i x u p d,l u (uV d)⟩);exact ⟨_,_,by simp[execOp,e,Instr.alloc,gn g h,newVar,m],n,V.SI z _⟩
theorem Kk{b sz:Nat}{cs:List D}(h:lu σ b sz=some cs):σ[b]? = some (.cells cs)/\cs.length=sz:=by grind [lu]
theorem V.tc{b off sz:Nat}{v:Value}{cs:List D}(h:V σ M Fz w (.ptr b off sz) v)(j:lu σ b sz=some cs):∃c,M b=some c/\v=.pointer (some ⟨c,off,none⟩):=by
 obtain ⟨o,s⟩:=Kk j;cases h with
 |ptr z A i u x=>
  rw[o] at i;simp only[aj] at i;subst i;obtain ⟨c,E,F⟩:=x s
  simp_all
theorem Rel.row(R:Rel σ M Fz w){b c:Nat}{cs:List D}(s:M b=some c)(u:σ[b]? = some (.cells cs)) :
  ∃arr T,w.heap[c]? = some (.cells arr T (0,0))/\cs.length<=arr.size/\∀(i:Nat) d v,cs[i]? = some d->arr[i]? = some v->V σ M Fz w d v/\v.oneCell'=true:=by
 obtain ⟨_,z,o,j,A,x⟩:=R.blk b c s;rw[u] at j;simp only[aj] at j;subst j;obtain ⟨arr,T,rfl,E,F⟩:=x
 grind
theorem uX{t:TypeId}{n:Option Nat}{cs:List D}{blk g off:Nat}{d:D}(h:BM P t=some n)(k:rD n cs off=some d)
  (b:∀(i:Nat) x,cs[i]? = some x->∃u,w.cell? ⟨blk,g+i,none⟩=some u/\V σ M Fz w x u) :
  ∃v,(loadVar t ⟨blk,g+off,none⟩).run P w=.ok v w/\V σ M Fz w d v:=by
 unfold BM at h;have agg:∀(i:TypeInfo),P.info? t=some i->n=some i.size->(isAgg t).run P w=.ok true w->∃v,(loadVar t ⟨blk,g+off,none⟩).run P w=.ok v w/\V σ M Fz w d v:=by
  intro i p h e;subst h;simp only[rD] at k;split at k
  ·rename_i y;simp only[aj] at k;subst k;have z:∀j,j<i.size->∃u,w.cell? ⟨blk,g+off+j,none⟩=some u/\∀x,cs[off+j]? = some x->V σ M Fz w x u:=by
    intro j E;obtain ⟨u,q,r⟩:=b (off+j) _ (cT (by omega))
    grind
   let f:Nat->Value:=λj=>(w.cell? ⟨blk,g+off+j,none⟩).getD undef
   have A:∀j,j<i.size->w.cell? ((Addr.mk blk (g+off) none).add j)=some (f j):=by grind [dM]
   have l:=run_loadCells (P:=P) (w:=w) ⟨blk,g+off,none⟩ i.size f A;refine ⟨.agg (List.map f (List.range i.size)).toArray,by simp only[loadVar,Sem.run_bind,e,Result.andThen_ok,if_true,sizeOf,ZV p,Sem.run_pure,l],?_⟩;refine .agg _ (by grind) (λj x v q r=>?_)
   grind
  simp_all
 have one:n=none->(isAgg t).run P w=.ok false w->∃v,(loadVar t ⟨blk,g+off,none⟩).run P w=.ok v w/\V σ M Fz w d v:=by intro h e;subst h;obtain ⟨u,q,r⟩:=b off d k;exact ⟨u,by simp only[loadVar,Sem.run_bind,e,Result.andThen_ok,bA,bT,run_load,q],r⟩
 cases p:P.info? t with
 |none=>simp_all
 |some i=>
  cases s:P.underlying t with
  |none=>simp_all
  |some m=>
   rw[p,s] at h;have o:(isAgg t).run P w=.ok (m matches .struct _ | .array _ _) w:=by simp only[isAgg,Sem.run_bind,oE s,Result.andThen_ok];cases m <;> rfl
   grind
theorem Xh (E:cR σ M Fz w env a.tmps) {o:Oper} {t:TypeId} {x:Operand} {q:aG} {n:Option Nat} {d:D} (A:o.op=.load t x) (L:bB x=some q)
  (F:BM P t=some n) (N:∀b off sz c cs,q.ev env=.ptr b off sz→M b=some c→σ[b]? = some (.cells cs)→∃arr T,w.heap[c]? = some (.cells arr T (0,0))∧cs.length≤arr.size∧∀(i:Nat) d v,cs[i]? = some d→arr[i]? = some v→V σ M Fz w d v∧v.oneCell'=true)
  (h:(match q.ev env with
   | .ptr b off sz=>do some (←rD n (←lu σ b sz) off,σ,([]:List Nat))
   | .c (.bZ cs off)=>do some (←rD n (cs.map .c) off,σ,[])
   | _=>none)=some (d,σ',[])):σ'=σ∧Yields P (execOp a.eval o) σ M Fz w d:=by
 have k:=ki E L
 split at h
 ·rename_i b off sz p
  rw [p] at k
  simp only [Option.bind_eq_bind,b_,aj,aM] at h
  obtain ⟨cs,G,O,r,rfl,rfl,_⟩:=h
  refine ⟨rfl,?_⟩
  obtain ⟨c,Q,l⟩:=k.tc G
  obtain ⟨R,_⟩:=Kk G
  obtain ⟨arr,T,S,X,s⟩:=N b off sz c cs p Q R
  have f:∀(i:Nat) x,cs[i]? = some x→∃u,w.cell? ⟨c,0+i,none⟩=some u∧V σ M Fz w x u:=by
   intro i x j
   have Y:=(d_.1 j).1
   have e:arr[i]? = some (arr[i]'(by omega)):=oF _
   exact ⟨_,by rw [GA,cell_of_row w c i arr T (0,0) S]; exact e,(s i _ _ j e).1⟩
  obtain ⟨v,g,m⟩:=uX (P:=P) F r f
  refine Yields.same (v:=v) ?_ m
  rw [GA] at g
  simp [execOp,A,Instr.loadAt,l,Instr.sureAddr,g]
 ·rename_i cs off p
  rw [p] at k
  simp only [Option.bind_eq_bind,b_,aj,aM] at h
  obtain ⟨O,r,rfl,rfl,_⟩:=h
  refine ⟨rfl,?_⟩
  cases k with
  | c k =>
   generalize l:a.eval x=Z at k
   cases k with
   | bZ blk U c hF W z =>
    have f:∀(i:Nat) x,(cs.map D.c)[i]? = some x→∃u,w.cell? ⟨blk,U+i,none⟩=some u∧V σ M Fz w x u:=by
     intro i x j
     simp only [gP,bU] at j
     obtain ⟨y,K,rfl⟩:=j
     exact ⟨_,(W i y K).1,.c (z i y K)⟩
    obtain ⟨v,g,m⟩:=uX (P:=P) F r f
    refine Yields.same (v:=v) ?_ m
    simp [execOp,A,Instr.loadAt,l,Instr.sureAddr,g]
 simp_all
end
end Go.Abs
end
section
namespace Go.Abs
variable[Gl]
section
variable{P:Program}{σ σ':ae}{M M':Nat->Option Nat}{Fz:Nat->Prop}{w w':World}{env:List D}{a:Act}
theorem Bj(off:Nat):∀(l:List Value)(k:Nat)(arr:Array Value),off+k+l.length<=arr.size ->
  (l.zipIdx k).foldl (λcs (p:Value×Nat)=>cs.setIfInBounds (off+p.2) p.1) arr=ce arr (off+k) l:=by
 intro l;induction l with
 |nil=>intro k arr _;apply Array.ext';simp[ce]
 |cons x l ih=>grind [List.zipIdx_cons,xU]
def zk(σ:ae)(M:Nat->Option Nat)(Fz:Nat->Prop)(w:World)(cs:List D)(arr:Array Value):Prop:=
 arr.size=cs.length/\∀(i:Nat) x u,cs[i]? = some x->arr[i]? = some u->V σ M Fz w x u/\u.oneCell'=true
theorem zk.put{cs xs:List D}{arr:Array Value}{vs:List Value}{off:Nat}(h:zk σ M Fz w cs arr)(z:vs.length=xs.length)(s:off+xs.length<=cs.length)
  (E:∀(i:Nat) x u,xs[i]? = some x->vs[i]? = some u->V σ M Fz w x u/\u.oneCell'=true):zk σ M Fz w (put cs off xs) (ce arr off vs):=by
 refine ⟨by rw[Qv (by rw[h.1];omega),WT s,h.1],λi x u j o=>?_⟩;rw[gy s] at j;rw[bV (by rw[h.1];omega),z] at o;split at j
 ·grind
 ·rename_i A;rw[if_neg A] at o;exact h.2 _ _ _ j o
theorem zk.oO{d:D}{v:Value}{cs:List D}(h:V σ M Fz w d v)(o:d.cells? = some cs):zk σ M Fz w cs v.cells:=by obtain ⟨s,z,A,_⟩:=h.cells o;exact ⟨s,λi x u E j=>⟨z i x u E j,A u (uV j)⟩⟩
theorem OL(E:cR σ M Fz w env a.tmps)(pl:Nat->Option (Nat×Nat)):∀(ps:List (Nat×Operand))(k:List (Nat×Nat×aG))(cs e:List D)(arr:Array Value),
  (ps.mapM λ(i,x)=>(pl i).bind λ(o,n)=>(bB x).bind λz=>some (o,n,z))=some k->zk σ M Fz w cs arr->nK env cs k=some e ->
  ∃b,Instr.fill pl arr (ps.map λ(i,x)=>(i,a.eval x))=some b/\zk σ M Fz w e b:=by
 intro ps;induction ps with
 |nil=>intro k cs e arr h j g;simp only[List.mapM_nil,Option.pure_def,aj] at h;subst h;simp only[nK,aj] at g;subst g;exact ⟨arr,rfl,j⟩
 |cons p ps ih=>
  intro k cs e arr h j g;obtain ⟨i,x⟩:=p;simp only[Pq,Option.pure_def,Option.bind_eq_bind,b_,aj] at h;obtain ⟨q,⟨⟨o,n⟩,l,z,m,rfl⟩,r,s,rfl⟩:=h;simp only[nK,Option.bind_eq_bind,b_] at g;obtain ⟨K,t,g⟩:=g;split at g
  ·grind
  ·rename_i f;simp only[not_or,Pt,Nat.not_lt] at f;obtain ⟨F,G⟩:=f;have d:=zk.oO (ki E m) t;obtain ⟨b,v,A⟩:=ih r _ e (ce arr o (a.eval x).cells.toList) s (j.put (by simp[d.1]) (by omega) (λi y u v A=>d.2 i y u v (by simp_all))) g;refine ⟨b,?_,A⟩;simp only[iH,Instr.fill,l];rw[if_neg (by simp[d.1,F,j.1];omega)];rw[<-v];congr 1;have:=Bj o (a.eval x).cells.toList 0 arr (by simp[d.1,j.1];omega);rw[<-xAm]
   simp_all
theorem LO{d:Array Field}{ps:List (Nat×Nat)}(h:Ga P d=some ps)(w:World) :
  (d.mapM λ(f:Field)=>(do pure (f.offset,<-sizeOf f.type):Sem (Nat×Nat))).run P w=.ok ps.toArray w:=by
 have e:∀(l:List Field)(ps:List (Nat×Nat)),(l.mapM λf=>(aY P f.type).map λn=>(f.offset,n))=some ps ->
   (l.mapM λf=>(do pure (f.offset,<-sizeOf f.type):Sem (Nat×Nat))).run P w=.ok ps w:=by
  intro l;induction l with
  |nil=>simp_all
  |cons f l ih=>intro ps h;simp only[Pq,Option.pure_def,Option.bind_eq_bind,b_,bU,aj] at h;obtain ⟨q,⟨n,g,rfl⟩,i,b,rfl⟩:=h;simp only[Pq,Sem.run_bind,LP g,Result.andThen_ok,Sem.run_pure,ih i b]
 grind [Ga,Array.mapM_eq_mapM_toList,Go.Sem.run_map,Go.Result.andThen_ok]
theorem HZ(E:cR σ M Fz w env a.tmps){o:Oper}{t:TypeId}{b:Array (Nat×Operand)}{z:List D}{h:List (Nat×Nat×aG)}{pl:Nat->Option (Nat×Nat)}{cs:List D}
  (p:o.op=.build t b) (u:Nm P t=some z)
  (j:(∃k ps,P.underlying t=some (.struct k)/\Ga P k=some ps/\pl=(ps[·]?))∨(∃m e n,P.underlying t=some (.array m e)/\aY P e=some n/\pl=λi=>some (i * n,n)))
  (y:(b.toList.mapM λ(i,x)=>(pl i).bind λ(o,n)=>(bB x).bind λA=>some (o,n,A))=some h) (F:nK env z h=some cs) :
  Yields P (execOp a.eval o) σ M Fz w (.agg cs):=by
 obtain ⟨i,v,q,r,G⟩:=zcM u;have f:=zk.oO (V.cX (σ:=σ) (M:=M) (Fz:=Fz) (w:=w) v) G;obtain ⟨g,Q,s⟩:=OL E pl b.toList h z cs v.cells y f F;refine Yields.same (v:=.agg g) ?_ (.agg g s.1 (λi d v K L=>(s.2 i d v K L).1));rcases j with ⟨k,ps,l,N,rfl⟩ | ⟨m,e,n,l,O,rfl⟩
 ·simp only[execOp,p,Instr.build,Sem.run_bind,gn q r,Result.andThen_ok,oE l,LO N]
  simp_all
 ·simp only[execOp,p,Instr.build,Sem.run_bind,gn q r,Result.andThen_ok,oE l,LP O]
  simp_all
theorem jX(n:Nat)(z:List D):(qJ n z).length=n * z.length:=by simp[qJ]
theorem AZ{z:List D}(b:z≠[]):∀(n i:Nat),i<n * z.length->(qJ n z)[i]? = z[i % z.length]?:=by
 intro n;have d:0<z.length:=List.length_pos_iff.2 b;induction n with
 |zero=>omega
 |succ n ih=>
  intro i f;have e:qJ (n+1) z=z++qJ n z:=by simp[qJ,List.replicate_succ]
  rw[e,yBz];split
  ·grind [Nat.mod_eq_of_lt]
  ·rename_i h;rw[ih (i-z.length) (by grind)];congr 1
   conv=>rhs;rw[show i=i-z.length+z.length from by omega]
   rw[Nat.add_mod_right]
theorem xT{z:List D}{v:Value}(b:zk σ M Fz w z v.cells)(g:z≠[])(n m:Nat)(d:n<=m) :
  n * z.length<=((Array.range (m * v.cells.size)).map (v.cells[· % v.cells.size]!)).size /\
  ∀(i:Nat) x u,(qJ n z)[i]? = some x->((Array.range (m * v.cells.size)).map (v.cells[· % v.cells.size]!))[i]? = some u->V σ M Fz w x u/\u.oneCell'=true:=by
 have k:0<z.length:=List.length_pos_iff.2 g;refine ⟨by simp[b.1];exact Ce _ d,λi x u e h=>?_⟩;have j:=(d_.1 e).1;rw[jX] at j;rw[AZ g n i j] at e;have l:i % z.length<v.cells.size:=by rw[b.1];grind
 have f:i<m * v.cells.size:=by grind
 refine b.2 (i % z.length) x u e ?_;rw[Array.getElem?_map,Array.getElem?_range,if_pos f] at h;simp only[Option.map_some,aj,b.1] at h
 simp_all
theorem V.SS{cs:List D}{arr:Array Value}{T:TypeId}{len ar cap:Nat}(i:len<=cap)(j:cap * ar<=arr.size)(o:len * ar<=cs.length)(hs:cs.length<=cap * ar) :
  V (σ++[.cells cs]) (ut M σ.length w.heap.size) Fz (w.alloc (.cells arr T)) (.sl σ.length 0 len ar cs.length) (.slice (some ⟨w.heap.size,0,none⟩) len cap):=
 .sl _ _ _ (by simp) (.cells cs) (by simp) (by simp[Ob.sz]) (λ_=>.inr ⟨w.heap.size,0,arr,T,by simp[ut],rfl,rfl,⟨i,by omega⟩,.inl rfl,heap_alloc_new w _,by omega,by omega⟩)
theorem Pw(q:∀c,Fz c->c<w.heap.size)(E:cR σ M Fz w env a.tmps){o:Oper}{t e:TypeId}{len n:Nat}{b:Array (Nat×Operand)}{z:List D}{r:List (Nat×Nat×aG)}{cs:List D}
  (N:o.op=.buildSlice t len b) (O:P.underlying t=some (.slice e)) (Q:aY P e=some n) (R:Nm P e=some z) (f:¬(n=0∨z.length≠n∨len * n > 2 ^ 20))
  (S:(b.toList.mapM λ(i,x)=>(some (i * n,n)).bind λ(p:Nat×Nat)=>(bB x).bind λT=>some (p.1,p.2,T))=some r) (U:nK env (qJ len z) r=some cs) :
  ai P (execOp a.eval o) σ M Fz w (.cells cs) (.sl σ.length 0 len n cs.length):=by
 obtain ⟨i,v,W,X,Y⟩:=zcM R;have d:=zk.oO (V.cX (σ:=σ) (M:=M) (Fz:=Fz) (w:=w) v) Y;simp only[not_or,Pt,Nat.not_lt] at f;obtain ⟨Z,s,L⟩:=f;have g:z≠[]:=λh=>by simp_all
 have aa:v.cells.size=n:=by rw[d.1,s]
 obtain ⟨ab,A⟩:=xT d g len len (cn _);have F:zk σ M Fz w (qJ len z) ((Array.range (len * v.cells.size)).map (v.cells[· % v.cells.size]!)):=⟨by grind [jX],A⟩;obtain ⟨arr,h1,m⟩:=OL E (λi=>some (i * n,n)) b.toList r (qJ len z) cs _ S F U;have j:cs.length=len * n:=by
  have:arr.size=len * n:=by
   have G:∀(l:List (Nat×Value))(x y:Array Value),Instr.fill (λi=>some (i * n,n)) x l=some y->y.size=x.size:=by
    intro l;induction l with
    |nil=>grind [Go.Instr.fill]
    |cons p l ih=>
     intro x y h;obtain ⟨i,u⟩:=p;simp only[Instr.fill] at h;split at h
     ·simp at h
     ·rename_i k;simp at k;rw[ih _ _ h,<-xAm];have:=Bj (i * n) u.cells.toList 0 x (by grind);simp only[Nat.add_zero] at this
      grind [Qv]
   grind
  rw[<-m.1,this]
 obtain ⟨r1,r2⟩:=nU (P:=P) q (arr:=arr) (cs:=cs) e (by rw[m.1];omega) m.2;refine ⟨_,.slice (some ⟨w.heap.size,0,none⟩) len len,?_,r2,V.SS (cap:=len) (cn _) (by rw[m.1,j];omega) (by omega) (by omega)⟩;simp only[execOp,N,Instr.buildSlice,Sem.run_bind,oE O,Result.andThen_ok,LP Q];rw[if_neg (by omega)];by_cases h0:len * n=0
 ·have K:len=0:=by
   grind [Nat.mul_eq_zero]
  subst K;simp only[yCc] at h1 ⊢;simp only[if_true,Sem.run_bind,Sem.run_pure,Result.andThen_ok]
  grind [Array.toList_map,Go.Sem.run_bind,Go.Result.andThen_ok,Go.Sem.run_pure]
 ·rw[if_neg h0];simp only[Sem.run_bind,gn W X,Result.andThen_ok,Sem.run_pure]
  simp_all
theorem Ur(R:Rel σ M Fz w)(E:cR σ M Fz w env a.tmps){o:Oper}{t:TypeId}{x y:Operand}{Q S:aG}{n b off sz:Nat}{cs xs:List D}(ho:o.op=.store t x y)
  (hx:bB x=some Q) (U:bB y=some S) (hn:aY P t=some n) (he:Q.ev env=.ptr b off sz) (W:lu σ b sz=some cs) (q:(S.ev env).cells? = some xs)
  (hc:xs.length=n/\off+n<=sz):c_ P (execOp a.eval o) σ M Fz w (σ.set b (.cells (put cs off xs))) (.aI []):=by
 have X:=ki E hx;rw[he] at X;obtain ⟨c,A,F⟩:=X.tc W;obtain ⟨G,aa⟩:=Kk W;obtain ⟨e,T,u,hl,K⟩:=R.row A G;have g:=zk.oO (ki E U) q;obtain ⟨_,_,L,_⟩:=(ki E U).cells q;have N:off+xs.length<=cs.length:=by omega
 have r:=rf P T c (a.eval y).cells.toList 0 off w e u L (by grind);have j:∀k Y Z,Obj.cells e T (0,0)=.cells k Y Z->∃l,Obj.cells (ce e off (a.eval y).cells.toList) T (0,0)=.cells l Y Z/\l.size=k.size:=by grind [Qv]
 have m:(if (a.eval y).cells.toList=[] then w else bX w c (.cells (ce e (off+0) (a.eval y).cells.toList) T (0,0)))=bX w c (.cells (ce e off (a.eval y).cells.toList) T (0,0)):=by
  split
  ·rename_i s;rw[s];have:ce e off []=e:=by grind [ce]
   rw[this];unfold bX;have ab:=(xR.1 u).1;have:w.heap.setIfInBounds c (.cells e T (0,0))=w.heap:=by grind
   rw[this]
  ·rfl
 rw[m] at r;have hs:(Ob.cells cs).sz<=(Ob.cells (put cs off xs)).sz:=by grind [Ob.sz,WT]
 have O:=ba.qp R A G u hs j;refine ⟨.skip,undef,_,M,?_,.inr ⟨rfl,rfl⟩,R.qp A G u hs j ?_,.aI #[] rfl (λi d v h=>by simp at h),O,by simp⟩
 ·simp only[execOp,ho,Instr.storeAt,F,Instr.sureAddr,Sem.run_bind,Sem.run_pure,Result.andThen_ok,storeVar,LP hn]
  simp_all
 ·refine ⟨_,T,rfl,by grind [WT],λi d v z p=>?_⟩;rw[gy N] at z;rw[bV (by grind)] at p;simp only[Array.length_toList,g.1] at p;split at z
  ·rename_i f;rw[if_pos f] at p;have:=g.2 _ _ _ z (by simpa using p);exact ⟨this.1.mono O,this.2⟩
  ·rename_i f;rw[if_neg f] at p;have:=K _ _ _ z p;exact ⟨this.1.mono O,this.2⟩
end
end Go.Abs
end
section
namespace Go.Abs
variable[Gl]
section
variable{P:Program}{σ σ':ae}{M M':Nat->Option Nat}{Fz:Nat->Prop}{w w':World}{env:List D}{a:Act}
theorem V.Dw{b o sz off:Nat}{v:Value}(h:V σ M Fz w (.ptr b o sz) v):∃i,v=.pointer (some i)/\V σ M Fz w (.ptr b (o+off) sz) (.pointer (some (i.add off))):=by
 cases h with
 |ptr i s u j x=>
  refine ⟨i,rfl,.ptr _ s u j (λz=>?_)⟩
  grind [dM]
theorem VC.Dw{cs:List C}{o off:Nat}{v:Value}(h:VC Fz w (.bZ cs o) v):∃i,v=.pointer (some i)/\VC Fz w (.bZ cs (o+off)) (.pointer (some (i.add off))):=by
 generalize j:C.bZ cs o=x at h;cases h with
 |bZ blk s c u z A=>simp only[C.bZ.injEq] at j;obtain ⟨rfl,rfl⟩:=j;refine ⟨_,rfl,?_⟩;rw[dM,Nat.add_assoc];exact .bZ blk s c u z A
 |_=>grind
theorem V.oe{x:C}{v:Value}(h:V σ M Fz w (.c x) v):VC Fz w x v:=by cases h with | c h=>exact h
theorem fld_ok(E:cR σ M Fz w env a.tmps){o:Oper}{s:TypeId}{x:Operand}{m:aG}{f n:Nat}{p:Array Field}{g:Field}{d:D}(t:o.op=.fieldAddr s x f)
  (u:bB x=some m) (v:P.underlying s=some (.struct p)) (y:p[f]? = some g) (z:aY P g.type=some n) (A:n≠0)
  (h:(match m.ev env with
  |.ptr b o sz=>some (.ptr b (o+g.offset) sz,σ,([]:List Nat))
  |.c (.bZ q o)=>some (.c (.bZ q (o+g.offset)),σ,[])
  |_=>none)=some (d,σ',[])):σ'=σ/\Yields P (execOp a.eval o) σ M Fz w d:=by
 have j:=ki E u;have k:∀i,a.eval x=.pointer (some i)->(execOp a.eval o).run P w=.ok (.value (.pointer (some (i.add g.offset)))) w:=by
  intro i e;simp only[execOp,t,Instr.fieldAt,Sem.run_bind,oE v,Result.andThen_ok,y,e,Instr.sureAddr,Sem.run_pure,fieldPlace,LP z]
  simp_all
 split at h
 ·rename_i b F sz l;rw[l] at j;simp only[aj,aM] at h;obtain ⟨rfl,rfl,_⟩:=h;obtain ⟨i,e,r⟩:=j.Dw (off:=g.offset)
  grind [Yields.same]
 ·rename_i q F l;rw[l] at j;simp only[aj,aM] at h;obtain ⟨rfl,rfl,_⟩:=h;obtain ⟨i,e,r⟩:=j.oe.Dw (off:=g.offset);exact ⟨rfl,Yields.same (k i e) (.c r)⟩
 simp_all
theorem Ad{i:Int}{n k:Nat}(h:yX i n=some k):0<=i/\i<n/\i.toNat=k/\k<n:=by grind [yX]
theorem YI{i:Int}{n k:Nat}(h:Nj i n=some k):0<=i/\i<=n/\i.toNat=k/\k<=n:=by grind [Nj]
theorem V.dV{b off len ar sz:Nat}{v:Value}{cs:List D}(h:V σ M Fz w (.sl b off len ar sz) v)(j:lu σ b sz=some cs) :
  (v=.slice none 0 0/\len=0/\off=0/\sz=0/\cs=[])∨∃c o cap arr T,M b=some c/\v=.slice (some ⟨c,o,none⟩) len cap/\(len<=cap/\sz<=off+cap * ar)/\(o=off∨cap=0)/\w.heap[c]? = some (.cells arr T (0,0))/\o+cap * ar<=arr.size/\off+len * ar<=sz:=by
 obtain ⟨s,u⟩:=Kk j;cases h with
 |sl Q n cap x R i z A=>
  rw[s] at i;simp only[aj] at i;subst i;rcases A u with ⟨U,W,X,Y,Z,e6⟩ | ⟨c,o,arr,T,E,ha,hn,F,G,K,i,O⟩
  ·simp_all
  ·exact .inr ⟨c,o,cap,arr,T,E,by simp_all,F,G,K,i,O⟩
theorem V.mkPtr{b c off sz:Nat}{cs:List D}(i:lu σ b sz=some cs)(j:M b=some c):V σ M Fz w (.ptr b off sz) (.pointer (some ⟨c,off,none⟩)):=by obtain ⟨o,s⟩:=Kk i;exact .ptr _ _ o (by grind [Ob.sz]) (λ_=>⟨c,j,rfl⟩)
theorem idx_ok(E:cR σ M Fz w env a.tmps){o:Oper}{t e:TypeId}{x i:Operand}{S U:aG}{n:Nat}{d:D}(ho:o.op=.indexAddr t x i)
  (hx:bB x=some S) (hi:bB i=some U) (hu:P.underlying t=some (.slice e)) (hn:aY P e=some n) (aa:n≠0)
  (h:(do
  let i <-qI (U.ev env)
  match S.ev env with
  |.sl b off len f sz => do
   let _ <-lu σ b sz
   let k <-yX i len
   if f=n then some (.ptr b (off+k * n) sz,σ,([]:List Nat)) else none
  |.c (.ca _ f) => do
   let k <-yX i f.length
   let e <-f[k]?
   if e.length=n then some (.c (.bZ e 0),σ,[]) else none
  |_=>none)=some (d,σ',[])):σ'=σ/\Yields P (execOp a.eval o) σ M Fz w d:=by
 have u:=ki E hx;have F:=ki E hi;simp only[Option.bind_eq_bind,b_] at h;obtain ⟨z,W,h⟩:=h;obtain ⟨k0,G⟩:=ij F W;have K:∀v len cap,a.eval x=.slice (some v) len cap->0<=z->z<len->(execOp a.eval o).run P w=.ok (.value (.pointer (some (v.add (z.toNat * n))))) w:=by intro v len cap L y A;simp only[execOp,ho,Instr.indexAt,Sem.run_bind,G,asIntOf,Sem.run_pure,Result.andThen_ok,oE hu,L];rw[if_pos ⟨y,A⟩];simp only[Sem.run_bind,LP hn,Result.andThen_ok,Sem.run_pure]
 split at h
 ·rename_i b off len f sz N;rw[N] at u;simp only[b_] at h;obtain ⟨cs,hr,k,hk,h⟩:=h;split at h
  ·rename_i O;simp only[aj,aM] at h;obtain ⟨rfl,rfl,_⟩:=h;obtain ⟨y,A,X,h4⟩:=Ad hk;rcases u.dV hr with ⟨_,e2,_⟩ | ⟨c,o',cap,ab,T,hM,g,hl,Y,hh,l,Q⟩
   ·omega
   grind [Yields.same,dM,V.mkPtr]
  simp_all
 ·rename_i nn f N;rw[N] at u;simp only[b_] at h;obtain ⟨k,hk,m,p,h⟩:=h;split at h
  ·rename_i O;simp only[aj,aM] at h;obtain ⟨rfl,rfl,_⟩:=h;obtain ⟨y,A,X,h4⟩:=Ad hk;have q:=u.oe;generalize g:a.eval x=va at q;cases q with
   |ca ar v cap af W c Q l hc R=>
    have r:ar=n:=by grind
    subst r;have s:0<m.length:=by omega
    obtain ⟨blk,o0,rfl,hF,_,_⟩:=hc k 0 m m[0] p (cT s);refine ⟨rfl,Yields.same (K _ _ _ g y A) ?_⟩;rw[dM,X];refine .c ?_;have:=VC.bZ (Fz:=Fz) (w:=w) (cs:=m) (off:=0) blk (o0+k * ar) (c k) hF (λj d Z=>?_) (λj d Z=>R k j m d p Z)
    ·omega
    grind
  simp_all
 simp_all
theorem ID(A:Gl.ok Fz w)(E:cR σ M Fz w env a.tmps){o:Oper}{t e:TypeId}{x i:Operand}{L N:aG}{n len:Nat}{d:D}(Q:o.op=.indexAddr t x i)
  (R:bB x=some L) (S:bB i=some N) (F:P.underlying t=some (.array len e)) (T:aY P e=some n)
  (h:(do
  let i <-qI (N.ev env)
  let k <-yX i len
  match L.ev env with
  |.ptr b off sz=>some (.ptr b (off+k * n) sz,σ,([]:List Nat))
  |.c (.bZ cs off)=>some (.c (.bZ cs (off+k * n)),σ,[])
  |.c (.Rr g) => match Gl.tab g with
   |[]=>none
   |v::p=>some (.c (.bZ ((v::p).map .lit) (k * n)),σ,[])
  |_=>none)=some (d,σ',[])):σ'=σ/\Yields P (execOp a.eval o) σ M Fz w d:=by
 have l:=ki E R;have G:=ki E S;simp only[Option.bind_eq_bind,b_] at h;obtain ⟨z,U,k,hk,h⟩:=h;obtain ⟨k0,K⟩:=ij G U;obtain ⟨W,X,Y,h4⟩:=Ad hk;have q:∀m,a.eval x=.pointer (some m)->(execOp a.eval o).run P w=.ok (.value (.pointer (some (m.add (k * n))))) w:=by intro m f;simp only[execOp,Q,Instr.indexAt,Sem.run_bind,K,asIntOf,Sem.run_pure,Result.andThen_ok,oE F,f,Instr.sureAddr];rw[if_pos ⟨W,X⟩];simp only[Sem.run_bind,LP T,Result.andThen_ok,Sem.run_pure,Y]
 split at h
 ·rename_i b off sz r;rw[r] at l;simp only[aj,aM] at h;obtain ⟨rfl,rfl,_⟩:=h;obtain ⟨m,f,O⟩:=l.Dw (off:=k * n)
  grind [Yields.same]
 ·rename_i cs off r;rw[r] at l;simp only[aj,aM] at h;obtain ⟨rfl,rfl,_⟩:=h;obtain ⟨m,f,O⟩:=l.oe.Dw (off:=k * n);exact ⟨rfl,Yields.same (q m f) (.c O)⟩
 ·rename_i g r;rw[r] at l;split at h
  ·simp at h
  ·rename_i v p hg;simp only[aj,aM] at h;obtain ⟨rfl,rfl,_⟩:=h;have f:a.eval x=.pointer (some ⟨g,0,none⟩):=by
    generalize a.eval x=y at l;cases l with
    |c l=>cases l;rfl
   have Z:∀(j:Nat) u,(v::p)[j]? = some u->Fz g/\w.cell? ⟨g,j,none⟩=some u/\u.oneCell'=true:=λj u s=>Gl.tabOk g j u A (by simp_all);refine ⟨rfl,Yields.same (q _ f) (.c ?_)⟩;have:=VC.bZ (Fz:=Fz) (w:=w) (cs:=(v::p).map .lit) (off:=k * n) g 0 (λj=>((v::p)[j]?).getD default) (Z 0 v rfl).1 (λj d s=>?_) (λj d s=>?_)
   ·have e:(⟨g,0,none⟩:Addr).add (k * n)=⟨g,k * n,none⟩:=by
     simp only[Addr.add,GA]
     simp_all
    simp_all
   ·grind
   ·rw[gP,bU] at s;obtain ⟨u,F,rfl⟩:=s;simp only[F,Option.getD_some];exact .lit u
 simp_all
theorem eG(E:cR σ M Fz w env a.tmps){x:Operand}{f:aG}{n k:Nat}(g:bB x=some f)(h:((qI (f.ev env)).bind λi=>Nj i n)=some k)(b:Nat)(hm:n<=b)(d:BoundsCode) :
  (Instr.sliceBound (a.eval x) b d).run P w=.ok k w/\k<=n:=by
 simp only[b_] at h;obtain ⟨i,j,l⟩:=h;obtain ⟨q,e⟩:=ij (ki E g) j;obtain ⟨m,r,o,p⟩:=YI l;refine ⟨?_,p⟩;simp only[Instr.sliceBound,Sem.run_bind,e,asIntOf,Sem.run_pure,Result.andThen_ok];rw[if_pos ⟨m,by omega⟩,o];rfl
theorem gD(E:cR σ M Fz w env a.tmps){lo g:Option Operand}{i e:Option aG}{len j cap l h:Nat}(b:Cn lo=some i)(d:Cn g=some e)(r:j<=cap)(s:e=none->len<=j)
  (o:lX env len j e=some h) (n:lX env 0 h i=some l) :
  (Instr.sliceBounds true len cap (lo.map a.eval) (g.map a.eval) none).run P w=.ok (l,h,cap) w/\h<=j/\l<=h:=by
 have p:h<=j/\(match g.map a.eval,(none:Option Value) with
  |some v,some _=>Instr.sliceBound v cap .slice3B
  |some v,none=>Instr.sliceBound v cap (if true then .sliceAcap else .sliceAlen)
  |none,none=>pure len
  |none,some _=>stuck "Slice: max without high" : Sem Nat).run P w=.ok h w:=by
  cases g with
  |none=>
   simp only[Cn,aj] at d;subst d;simp only[lX,aj] at o
   simp_all
  |some x=>
   simp only[Cn,bU] at d;obtain ⟨t,f,rfl⟩:=d;simp only[lX] at o;obtain ⟨u,y⟩:=eG (P:=P) (w:=w) E f o cap r .sliceAcap
   simp_all
 have q:l<=h/\(match lo.map a.eval with
  |some v=>Instr.sliceBound v h (if (none:Option Value).isSome then .slice3C else .sliceB)
  |none=>pure 0:Sem Nat).run P w=.ok l w:=by
  cases lo with
  |none=>
   simp only[Cn,aj] at b;subst b;simp only[lX,aj] at n;subst n
   simp_all
  |some x=>
   simp only[Cn,bU] at b;obtain ⟨t,f,rfl⟩:=b;simp only[lX] at n;obtain ⟨u,y⟩:=eG (P:=P) (w:=w) E f n h (cn _) .sliceB
   simp_all
 refine ⟨?_,p.1,q.1⟩;have k:=p.2;have m:=q.2;clear p q;cases g <;> cases lo <;> simp only[Option.map_some,Option.map_none,Sem.run_pure,Result.ok.injEq,Iq] at k m <;>
  simp only[Instr.sliceBounds,Option.map_some,Option.map_none,Sem.run_bind,Sem.run_pure,Result.andThen_ok,k,m]
theorem slc_ok(E:cR σ M Fz w env a.tmps){o:Oper}{t e:TypeId}{x:Operand}{lo S:Option Operand}{ox:aG}{p g:Option aG}{n:Nat}{d:D}
  (ho:o.op=.slice t x lo S none) (hx:bB x=some ox) (r:Cn lo=some p) (u:Cn S=some g) (hu:P.underlying t=some (.slice e)) (hn:aY P e=some n)
  (h:(match ox.ev env with
  |.c (.lit (.slice none 0 0)) => do
   let h <-lX env 0 0 g
   let _ <-lX env 0 h p
   some (.c (.lit (.slice none 0 0)),σ,([]:List Nat))
  |.c (.ca nn f) => do
   let h <-lX env f.length f.length g
   let l <-lX env 0 h p
   if f.all (λe=>e.length=n) then some (.c (.ca nn ((f.take h).drop l)),σ,[]) else none
  |.sl b off len f sz => do
   let _ <-lu σ b sz
   let h <-(lX env len len g).orElse λ_=>lX env len ((sz-off) / f) g
   let l <-lX env 0 h p
   if f=n then some (.sl b (off+l * n) (h-l) n sz,σ,[]) else none
  |_=>none)=some (d,σ',[])):σ'=σ/\Yields P (execOp a.eval o) σ M Fz w d:=by
 have L:=ki E hx;have F:∀U len cap l h,a.eval x=.slice U len cap->(Instr.sliceBounds true len cap (lo.map a.eval) (S.map a.eval) none).run P w=.ok (l,h,cap) w ->
   (execOp a.eval o).run P w=.ok (.value (.slice (if cap=l then U else U.map (·.add (l * n))) (h-l) (cap-l))) w:=by
  intro U len cap l h k z;have W:∀(s:Sem Value),(match TypeDesc.slice e with | .array _ _=>s | _=>Instr.slice t (a.eval x) (lo.map a.eval) (S.map a.eval) none)=Instr.slice t (a.eval x) (lo.map a.eval) (S.map a.eval) none:=λ_=>rfl;simp only[execOp,ho,Instr.sliceAt,Sem.run_bind,oE hu,Result.andThen_ok,Option.map_none];simp only[Instr.slice,Sem.run_bind,oE hu,Result.andThen_ok,k,z,LP hn,Sem.run_pure]
 split at h
 ·rename_i N;rw[N] at L;simp only[Option.bind_eq_bind,b_,aj,aM] at h;obtain ⟨m,v,l,O,rfl,rfl,_⟩:=h;obtain ⟨z,h3,h4⟩:=gD (P:=P) (w:=w) E r u (cn 0) (λ_=>cn _) v O;refine ⟨rfl,Yields.same (F _ _ _ _ _ L.bI z) ?_⟩;obtain rfl:m=0:=by omega
  obtain rfl:l=0:=by omega
  exact .c (.lit _)
 ·rename_i nn f N;rw[N] at L;simp only[Option.bind_eq_bind,b_] at h;obtain ⟨m,v,l,O,h⟩:=h;split at h
  ·rename_i a6;simp only[aj,aM] at h;obtain ⟨rfl,rfl,_⟩:=h;have X:=L.oe;generalize k:a.eval x=va at X;cases X with
   |ca ar U cap a8 hz c ab A hc a9=>
    obtain ⟨z,h3,h4⟩:=gD (P:=P) (w:=w) E r u A (λ_=>cn _) v O;refine ⟨rfl,Yields.same (F _ _ _ _ _ k z) (.c ?_)⟩;have Y:((f.take m).drop l).length=m-l:=by simp_all
    rw[<-Y];refine .ca n _ _ (λhn=>by grind) (λhn=>by
     by_cases y:cap=l
     ·omega
     simp_all) (λi j=>c (l+i) j) (λe N=>?_) (by omega) (λi j e d G h6=>?_) (λi j e d G h6=>?_)
    ·grind
    ·rw[yBx] at G;have af:=(d_.1 G).1;simp at af;rw[yBt (by omega)] at G;obtain ⟨blk,o0,rfl,hF,ak,an⟩:=hc (l+i) j e d G h6;have Z:ar=n:=by
      grind
     subst Z;refine ⟨blk,o0+l * ar,by rw[if_neg (by omega)];simp[dM],hF,?_,an⟩
     grind
    grind
  simp_all
 ·rename_i b off len f sz N;rw[N] at L;simp only[Option.bind_eq_bind,b_] at h;obtain ⟨cs,hr,m,v,l,O,h⟩:=h;split at h
  ·rename_i ax;subst ax;simp only[aj,aM] at h;obtain ⟨rfl,rfl,_⟩:=h;obtain ⟨G,h6⟩:=Kk hr;rcases L.dV hr with ⟨k,e2,e3,e4,e6⟩ | ⟨c,Q,cap,aa,T,hM,k,hl,a7,hh,A,ab⟩
   ·subst e2;have a0:lX env 0 0 g=some m:=by
     simp_all
    obtain ⟨z,h3,h4⟩:=gD (P:=P) (w:=w) E r u (cn 0) (λ_=>cn _) a0 O
    grind [Yields.same]
   obtain ⟨R,a1,a2,bb,v⟩:∃R,R<=cap/\(g=none->len<=R)/\off+R * f<=sz/\lX env len R g=some m:=by
    cases a5:lX env len len g with
    |some q=>grind
    |none=>
     rw[a5] at v;have v:lX env len ((sz-off) / f) g=some m:=by simp_all
     have hd:(sz-off) / f * f<=sz-off:=Nat.div_mul_le_self _ _;refine ⟨_,?_,λe=>by grind [lX],by omega,v⟩;rcases yCg f with h0 | h0
     ·simp_all
     ·exact Nat.div_le_of_le_mul (by grind)
   obtain ⟨z,h3,h4⟩:=gD (P:=P) (w:=w) E r u a1 a2 v O;refine ⟨rfl,Yields.same (F _ _ _ _ _ k z) ?_⟩;have K:(if cap=l then some (Addr.mk c Q none) else (some (Addr.mk c Q none)).map (·.add (l * f)))=some (if cap=l then Addr.mk c Q none else (Addr.mk c Q none).add (l * f)):=by grind
   rw[K];refine .sl _ _ _ (by simp) _ G (by grind [Ob.sz]) (λ_=>?_);have bc:l * f+(m-l) * f=m * f:=by rw[<-Jm];simp_all
   have bd:m * f<=R * f:=Ce _ h3;by_cases y:cap=l
   ·rw[if_pos y];have h0:cap-l=0:=by omega
    subst y;refine .inr ⟨c,Q,aa,T,hM,rfl,rfl,⟨by omega,by omega⟩,.inr (by omega),hh,?_,?_⟩
    ·grind
    ·omega
   ·rw[if_neg y];have be:l * f+(cap-l) * f=cap * f:=by rw[<-Jm];grind
    refine .inr ⟨c,Q+l * f,aa,T,hM,by rw[dM],rfl,⟨by omega,by omega⟩,?_,hh,by omega,by omega⟩;omega
  simp_all
 simp_all
theorem Xo(E:cR σ M Fz w env a.tmps){o:Oper}{t e:TypeId}{x:Operand}{v:aG}{m off:Nat}{cs:List C}
  (z:o.op=.slice t x none none none) (A:bB x=some v) (F:P.underlying t=some (.array m e)) (G:aY P e=some 1)
  (p:v.ev env=.c (.bZ cs off)) (K:off+m<=cs.length):Yields P (execOp a.eval o) σ M Fz w (.c (.ca false (((cs.drop off).take m).map λc=>[c]))):=by
 have y:=ki E A;rw[p] at y;have k:=y.oe;generalize q:a.eval x=S at k;cases k with
 |bZ blk l c L N r=>
  have f:(((cs.drop off).take m).map λc=>[c]).length=m:=by simp;omega
  have n:(execOp a.eval o).run P w=.ok (.value (.slice (some ⟨blk,l+off,none⟩) (((cs.drop off).take m).map λc=>[c]).length m)) w:=by rw[f];simp only[execOp,z,Instr.sliceAt,Sem.run_bind,oE F,Result.andThen_ok,Option.map_none,q,Instr.sureAddr,Sem.run_pure,Instr.sliceBounds,LP G];simp only[yCc,Nat.sub_zero];split <;> rfl
  have get:∀(i j:Nat)(e:List C)(d:C),(((cs.drop off).take m).map λc=>[c])[i]? = some e->e[j]? = some d->j=0/\i<m/\cs[off+i]? = some d:=by
   intro i j e d b g;rw[gP,bU] at b;obtain ⟨x,b,rfl⟩:=b;have s:=(d_.1 b).1;have O:j=0:=by have:=(d_.1 g).1;simp at this;exact this
   subst O;simp only[List.getElem?_cons_zero,aj] at g;subst g;simp only[km,VB] at s;refine ⟨rfl,by omega,?_⟩;rw[yBt (by omega),yBx] at b;exact b
  refine Yields.same n (.c (.ca 1 (some ⟨blk,l+off,none⟩) m (λ_=>rfl) (λh=>by cases h) (λi _=>c (off+i)) (λe p=>?_) (Nat.le_of_eq f) (λi j e d b g=>?_) (λi j e d b g=>?_)))
  ·obtain ⟨x,_,rfl⟩:=dY.1 p;rfl
  ·obtain ⟨rfl,s,u⟩:=get i j e d b g;obtain ⟨Q,R⟩:=N _ d u;exact ⟨blk,l+off,rfl,L,by rw[show l+off+i * 1+0=l+(off+i) by omega];exact Q,R⟩
  ·obtain ⟨rfl,s,u⟩:=get i j e d b g;exact r _ d u
theorem Xf(E:cR σ M Fz w env a.tmps){o:Oper}{t e:TypeId}{x lo m p:Operand}{u f g j:aG}{n b off len es sz h l:Nat}{cs:List D}
  (A:o.op=.slice t x (some lo) (some m) (some p)) (F:bB x=some u) (q:bB lo=some f) (r:bB m=some g) (s:bB p=some j) (y:P.underlying t=some (.slice e)) (G:aY P e=some n)
  (K:u.ev env=.sl b off len es sz) (L:lu σ b sz=some cs) (N:((qI (j.ev env)).bind λi=>Nj i len)=some len) (O:((qI (g.ev env)).bind λi=>Nj i len)=some h) (Q:((qI (f.ev env)).bind λi=>Nj i h)=some l) :
  Yields P (execOp a.eval o) σ M Fz w .any:=by
 have z:=ki E F;rw[K] at z;have Z:∀k cap,len<=cap->a.eval x=.slice k len cap->Yields P (execOp a.eval o) σ M Fz w .any:=by
  intro k cap R d;have S:=(eG (P:=P) (w:=w) E s N cap R .slice3Acap).1;have U:=(eG (P:=P) (w:=w) E r O len (cn _) .slice3B).1;have W:=(eG (P:=P) (w:=w) E q Q h (cn _) .slice3C).1;have X:(Instr.sliceBounds true len cap (some (a.eval lo)) (some (a.eval m)) (some (a.eval p))).run P w=.ok (l,h,len) w:=by simp only[Instr.sliceBounds,Sem.run_bind,if_true,S,Result.andThen_ok,U,Option.isSome,W,Sem.run_pure]
  refine Yields.same (v:=.slice (if len=l then k else k.map (·.add (l * n))) (h-l) (len-l)) ?_ (.any _);simp only[execOp,A,Instr.sliceAt,Sem.run_bind,oE y,Result.andThen_ok,Option.map_some];simp only[Instr.slice,Sem.run_bind,oE y,Result.andThen_ok,d,X,LP G,Sem.run_pure]
 rcases z.dV L with ⟨d,e2,_,_,_⟩ | ⟨c,o',cap,Y,T,hM,d,hl,_,_,_,_⟩
 ·simp_all
 grind
theorem LQ(E:cR σ M Fz w env a.tmps){o:Oper}{x:Operand}{i:Nat}{h:aG}{ds:List D}{d:D}(k:o.op=.extract x i)(l:bB x=some h)
  (m:h.ev env=.aI ds) (hd:ds[i]? = some d):Yields P (execOp a.eval o) σ M Fz w d:=by
 have b:=ki E l;rw[m] at b;generalize f:a.eval x=n at b;cases b with
 |aI j p g=>have q:=(d_.1 hd).1;have e:j[i]? = some (j[i]'(by omega)):=oF _;refine Yields.same ?_ (g i _ _ hd e);simp[execOp,k,Instr.extract,f,e]
theorem YS(E:cR σ M Fz w env a.tmps):∀(xs:List Operand)(os:List aG),xs.mapM bB=some os ->
  (xs.map a.eval).length=(os.map (aG.ev env)).length/\∀(i:Nat) d v,(os.map (aG.ev env))[i]? = some d->(xs.map a.eval)[i]? = some v->V σ M Fz w d v:=by
 intro xs;induction xs with
 |nil=>simp_all
 |cons x xs ih=>grind [Option.bind_eq_some_iff,ki]
theorem Fk(E:cR σ M Fz w env a.tmps){xs:Array Operand}{os:List aG}(h:EQ xs=some os) :
  (xs.map a.eval).size=(os.map (aG.ev env)).length/\∀(i:Nat) d v,(os.map (aG.ev env))[i]? = some d->(xs.map a.eval)[i]? = some v->V σ M Fz w d v:=by
 obtain ⟨b,e⟩:=YS E xs.toList os h
 grind
theorem Y_(E:cR σ M Fz w env a.tmps){o:Oper}{f:Fn}{first cap:Array Operand}{b d:List aG}(e:o.op=.makeFunc f first cap)(g:EQ first=some b)(h:EQ cap=some d) :
  Yields P (execOp a.eval o) σ M Fz w (.fn f (b.map (aG.ev env)) (d.map (aG.ev env))):=by
 obtain ⟨i,j⟩:=Fk E g;obtain ⟨k,l⟩:=Fk E h;refine Yields.same (v:=.func f (first.map a.eval) (cap.map a.eval)) ?_ (.fn _ _ i k j l);simp[execOp,e,Instr.makeFunc]
theorem Il{t:TypeId}{n:Option Nat}{cs:List D}{vs:Array Value}{off:Nat}{d:D}(g:BM P t=some n)(f:rD n cs off=some d)(q:vs.size=cs.length)
  (o:∀(i:Nat) d v,cs[i]? = some d->vs[i]? = some v->V σ M Fz w d v):∃v,(part t vs off).run P w=.ok v w/\V σ M Fz w d v:=by
 unfold BM at g;have agg:∀(i:TypeInfo),P.info? t=some i->n=some i.size->(isAgg t).run P w=.ok true w->∃v,(part t vs off).run P w=.ok v w/\V σ M Fz w d v:=by
  intro i k g b;subst g;simp only[rD] at f;split at f
  ·rename_i p;simp only[aj] at f;subst f;refine ⟨.agg (vs.extract off (off+i.size)),by simp only[part,Sem.run_bind,b,Result.andThen_ok,if_true,sizeOf,ZV k,Sem.run_pure],?_⟩;refine .agg _ (by grind) (λj x v r s=>?_)
   grind
  simp_all
 have one:n=none->(isAgg t).run P w=.ok false w->∃v,(part t vs off).run P w=.ok v w/\V σ M Fz w d v:=by intro g b;subst g;simp only[rD] at f;have k:=(d_.1 f).1;have e:vs[off]? = some (vs[off]'(by omega)):=oF _;exact ⟨_,by simp only[part,Sem.run_bind,b,Result.andThen_ok,bA,bT,e,Sem.run_pure],o _ _ _ f e⟩
 cases k:P.info? t with
 |none=>simp_all
 |some i=>
  cases m:P.underlying t with
  |none=>simp_all
  |some h=>
   rw[k,m] at g;have l:(isAgg t).run P w=.ok (h matches .struct _ | .array _ _) w:=by simp only[isAgg,Sem.run_bind,oE m,Result.andThen_ok];cases h <;> rfl
   grind
theorem X_(E:cR σ M Fz w env a.tmps){o:Oper}{t:TypeId}{x:Operand}{i:aG}{f:Nat}{j:Array Field}{b:Field}{n:Option Nat}{cs:List D}{d:D}(k:o.op=.field t x f)
  (l:bB x=some i) (m:P.underlying t=some (.struct j)) (p:j[f]? = some b) (q:BM P b.type=some n) (r:i.ev env=.agg cs) (s:rD n cs b.offset=some d) :
  Yields P (execOp a.eval o) σ M Fz w d:=by
 have e:=ki E l;rw[r] at e;generalize g:a.eval x=A at e;cases e with
 |agg F u h=>obtain ⟨v,y,z⟩:=Il (P:=P) q s u h;refine Yields.same (v:=v) ?_ z;simp only[execOp,k,Instr.field,Sem.run_bind,oE m,Result.andThen_ok,p,g,asAgg,Sem.run_pure,y]
theorem Zw(E:cR σ M Fz w env a.tmps){o:Oper}{t e:TypeId}{x i:Operand}{j l:aG}{len sz k:Nat}{n:Option Nat}{cs:List D}{d:D}{z:Int}(m:o.op=.index t x i)
  (p:bB x=some j) (q:bB i=some l) (r:P.underlying t=some (.array len e)) (hs:aY P e=some sz) (s:BM P e=some n) (u:j.ev env=.agg cs) (y:qI (l.ev env)=some z) (hk:yX z len=some k)
  (A:rD n cs (k * sz)=some d):Yields P (execOp a.eval o) σ M Fz w d:=by
 have b:=ki E p;rw[u] at b;obtain ⟨Q,f⟩:=ij (ki E q) y;obtain ⟨F,G,K,R⟩:=Ad hk;generalize g:a.eval x=S at b;cases b with
 |agg T L h=>obtain ⟨v,N,O⟩:=Il (P:=P) s A L h;refine Yields.same (v:=v) ?_ O;simp only[execOp,m,Instr.index,Sem.run_bind,f,asIntOf,Sem.run_pure,Result.andThen_ok,oE r,g];rw[if_pos ⟨F,G⟩];simp only[Sem.run_bind,LP hs,Result.andThen_ok,K,N]
end
end Go.Abs
end
section
namespace Go.Abs
variable[Gl]
section
variable{P:Program}{σ σ':ae}{M M':Nat->Option Nat}{Fz:Nat->Prop}{w w':World}{env:List D}{a:Act}
theorem VH(E:cR σ M Fz w env a.tmps){o:Oper}{x:Operand}{l:aG}{d:D}(j:o.op=.nilCheck x)(m:bB x=some l)
  (h:(match l.ev env with
  |.ptr b off sz=>some (.ptr b off sz,σ,([]:List Nat))
  |.c (.bZ n off)=>some (.c (.bZ n off),σ,[])
  |.c (.fn (.func f) first cap)=>some (.c (.fn (.func f) first cap),σ,[])
  |.fn (.func f) first cap=>some (.fn (.func f) first cap,σ,[])
  |_=>none)=some (d,σ',[])):σ'=σ/\Yields P (execOp a.eval o) σ M Fz w d:=by
 have e:=ki E m;split at h
 ·rename_i i;rw[i] at e;simp only[aj,aM] at h;obtain ⟨rfl,rfl,_⟩:=h;refine ⟨rfl,Yields.same (v:=a.eval x) ?_ e⟩;generalize g:a.eval x=k at e;cases e with
  |ptr=>simp[execOp,j,g]
 ·rename_i i;rw[i] at e;simp only[aj,aM] at h;obtain ⟨rfl,rfl,_⟩:=h;refine ⟨rfl,Yields.same (v:=a.eval x) ?_ e⟩;generalize g:a.eval x=k at e;cases e with
  |c e => cases e with
   |bZ=>simp[execOp,j,g]
 ·rename_i i;rw[i] at e;simp only[aj,aM] at h;obtain ⟨rfl,rfl,_⟩:=h;refine ⟨rfl,Yields.same (v:=a.eval x) ?_ e⟩;generalize g:a.eval x=k at e;cases e with
  |c e => cases e with
   |fn=>simp[execOp,j,g]
 ·rename_i i;rw[i] at e;simp only[aj,aM] at h;obtain ⟨rfl,rfl,_⟩:=h;refine ⟨rfl,Yields.same (v:=a.eval x) ?_ e⟩;generalize g:a.eval x=k at e;cases e with
  |fn=>simp[execOp,j,g]
 simp_all
inductive fU:TypeDesc->Value->Value->Bool->Prop where
 |p0 (e:TypeId):fU (.pointer e) (.pointer none) (.pointer none) true
 |p1 (e:TypeId) (ad:Addr):fU (.pointer e) (.pointer (some ad)) (.pointer none) false
 |m0 (k e:TypeId):fU (.map k e) (.map none) (.map none) true
 |m1 (k e:TypeId) (r:Nat):fU (.map k e) (.map (some r)) (.map none) false
 |f0 (p r:Array TypeId) (v:Bool):fU (.func p r v) .nilFunc .nilFunc true
 |f1 (p r:Array TypeId) (v:Bool) (f:Fn) (x y:Array Value):fU (.func p r v) (.func f x y) .nilFunc false
 |s0 (e:TypeId):fU (.slice e) (.slice none 0 0) (.slice none 0 0) true
 |s1 (e:TypeId) (ad:Addr) (n c:Nat):fU (.slice e) (.slice (some ad) n c) (.slice none 0 0) false
theorem Pk{t:TypeId}{d:TypeDesc}{x y:Value}{b:Bool}(e:P.underlying t=some d)(h:fU d x y b)(w:World) :
  (Op.equal t x y).run P w=.ok b w/\(Op.equal t y x).run P w=.ok b w:=by
 constructor
 ·show (Op.equalIn (9999+1) t x y).run P w=_;generalize 9999=n;cases h <;> (unfold Op.equalIn;simp[oE e])
 ·show (Op.equalIn (9999+1) t y x).run P w=_;generalize 9999=n;cases h <;> (unfold Op.equalIn;simp[oE e])
theorem zd{t:TypeId}{d:TypeDesc}{x y:Value}{b:Bool}(e:P.underlying t=some d)(h:fU d x y b)(neg:Bool)(X Y:Operand)(w:World) :
  ((do eqGuard (if neg then .neq else .eql) t X Y x y;binOp (if neg then .neq else .eql) t x y:Sem Value).run P w=.ok (.bool (if neg then !b else b)) w) /\
  ((do eqGuard (if neg then .neq else .eql) t Y X y x;binOp (if neg then .neq else .eql) t y x:Sem Value).run P w=.ok (.bool (if neg then !b else b)) w):=by
 obtain ⟨f,g⟩:=Pk e h w;have i:∀op,(eqGuard op t X Y x y).run P w=.ok () w:=by intro op;cases h <;> cases op <;> rfl
 have j:∀op,(eqGuard op t Y X y x).run P w=.ok () w:=by intro op;cases h <;> cases op <;> rfl
 have k:(binOp (if neg then .neq else .eql) t x y).run P w=.ok (.bool (if neg then !b else b)) w:=by
  cases neg
  ·have:binOp .eql t x y=(do pure (.bool (<-Op.equal t x y)):Sem Value):=by cases h <;> rfl
   simp_all
  ·have:binOp .neq t x y=(do pure (.bool (!(<-Op.equal t x y))):Sem Value):=by cases h <;> rfl
   simp_all
 have l:(binOp (if neg then .neq else .eql) t y x).run P w=.ok (.bool (if neg then !b else b)) w:=by
  cases neg
  ·have:binOp .eql t y x=(do pure (.bool (<-Op.equal t y x)):Sem Value):=by cases h <;> rfl
   simp_all
  ·have:binOp .neq t y x=(do pure (.bool (!(<-Op.equal t y x))):Sem Value):=by cases h <;> rfl
   simp_all
 simp_all
theorem Ea{l:TypeDesc}{k:Nat}{d:D}{v:Value}{b:Bool}(hk:xg l=some k)(e:V σ M Fz w d v)(h:isNil k d=some b) :
  ∃f,fU l v f b/\((k=0/\f=.pointer none)∨(k=1/\f=.map none)∨(k=2/\f=.nilFunc)∨(k=3/\f=.slice none 0 0)):=by
 cases l <;> simp only[xg,aj,reduceCtorEq] at hk <;> subst hk
 ·cases d with
  |ptr=>
   simp only[isNil,aj] at h;subst h;cases e with
   |ptr g=>exact ⟨_,.p1 _ g,.inl ⟨rfl,rfl⟩⟩
  |c x=>
   cases x with
   |bZ=>
    simp only[isNil,aj] at h;subst h;cases e with
    |c e => cases e with
     |bZ=>exact ⟨_,.p1 _ _,.inl ⟨rfl,rfl⟩⟩
   |lit u=>
    cases u <;> simp[isNil] at h
    rename_i p;cases p <;> simp at h
    subst h;rw[e.bI];exact ⟨_,.p0 _,.inl ⟨rfl,rfl⟩⟩
   |_=>grind [isNil]
  |_=>grind [isNil]
 ·cases d with
  |sl b off len ar sz=>
   cases len with
   |zero=>simp[isNil] at h
   |succ len=>
    simp only[isNil,aj] at h;subst h;cases e with
    |sl g n cap i=>
     cases g with
     |none=>simp_all
     |some g=>exact ⟨_,.s1 _ _ _ _,.inr (.inr (.inr ⟨rfl,rfl⟩))⟩
  |c x=>
   cases x with
   |ca nn o=>
    cases nn <;> simp only[isNil,aj,reduceCtorEq] at h
    subst h;have j:=e.oe;generalize m:C.ca true o=x at j;cases j with
    |ca ar g cap i=>simp only[C.ca.injEq] at m;obtain ⟨rfl,rfl⟩:=m;obtain ⟨q,rfl⟩:=yBn.1 (i rfl);exact ⟨_,.s1 _ _ _ _,.inr (.inr (.inr ⟨rfl,rfl⟩))⟩
    |_=>grind
   |lit u=>
    cases u <;> try grind [isNil]
    rename_i p n c;cases p <;> cases n <;> cases c <;> simp[isNil] at h
    subst h;rw[e.bI];exact ⟨_,.s0 _,.inr (.inr (.inr ⟨rfl,rfl⟩))⟩
   |_=>grind [isNil]
  |_=>grind [isNil]
 ·cases d with
  |mp=>
   simp only[isNil,aj] at h;subst h;cases e with
   |mp=>exact ⟨_,.m1 _ _ _,.inr (.inl ⟨rfl,rfl⟩)⟩
  |c x=>
   cases x with
   |Ib=>
    simp only[isNil,aj] at h;subst h;cases e with
    |c e => cases e with
     |Ib=>exact ⟨_,.m1 _ _ _,.inr (.inl ⟨rfl,rfl⟩)⟩
   |lit u=>
    cases u <;> simp[isNil] at h
    rename_i p;cases p <;> simp at h
    subst h;rw[e.bI];exact ⟨_,.m0 _ _,.inr (.inl ⟨rfl,rfl⟩)⟩
   |_=>grind [isNil]
  |_=>grind [isNil]
 ·cases d with
  |fn=>
   simp only[isNil,aj] at h;subst h;cases e with
   |fn=>exact ⟨_,.f1 _ _ _ _ _ _,.inr (.inr (.inl ⟨rfl,rfl⟩))⟩
  |c x=>
   cases x with
   |fn=>
    simp only[isNil,aj] at h;subst h;cases e with
    |c e => cases e with
     |fn=>exact ⟨_,.f1 _ _ _ _ _ _,.inr (.inr (.inl ⟨rfl,rfl⟩))⟩
   |lit u=>
    cases u <;> simp[isNil] at h
    subst h;rw[e.bI];exact ⟨_,.f0 _ _ _,.inr (.inr (.inl ⟨rfl,rfl⟩))⟩
   |_=>grind [isNil]
  |_=>grind [isNil]
theorem rM{k:Nat}{x:Operand}{b:Value}(h:oL k x=true)(d:(k=0/\b=.pointer none)∨(k=1/\b=.map none)∨(k=2/\b=.nilFunc)∨(k=3/\b=.slice none 0 0)):x=.const b:=by
 unfold oL at h
 grind
theorem Kg(E:cR σ M Fz w env a.tmps){o:Oper}{t u:TypeId}{m:TypeDesc}{x y:Operand}{neg:Bool}{k n:Nat}{d:Bool}{p:aG}{b:Bool}
  (q:o.op=.binOp (if neg then .neq else .eql) t x y u) (r:P.underlying t=some m) (hk:xg m=some k) (f:tH k neg x y=some (.gY n d p)) (s:isNil n (p.ev env)=some b) :
  Yields P (execOp a.eval o) σ M Fz w (.c (.lit (.bool (if d then !b else b)))):=by
 unfold tH at f;split at f
 ·rename_i z;simp only[bU,jB.gY.injEq] at f;obtain ⟨j,g,rfl,rfl,rfl⟩:=f;obtain ⟨h,l,i⟩:=Ea hk (ki E g) s;obtain rfl:=rM z i;refine Yields.same (v:=.bool (if neg then !b else b)) ?_ (.c (.lit _));have:=(zd r l neg x (.const h) w).1;simp only[execOp,q,Sem.run_bind];simp only[Sem.run_bind] at this;have e:a.eval (.const h)=h:=rfl
  simp_all
 ·split at f
  ·rename_i A;simp only[bU,jB.gY.injEq] at f;obtain ⟨j,g,rfl,rfl,rfl⟩:=f;obtain ⟨h,l,i⟩:=Ea hk (ki E g) s;obtain rfl:=rM A i;refine Yields.same (v:=.bool (if neg then !b else b)) ?_ (.c (.lit _));have:=(zd r l neg y (.const h) w).2;simp only[execOp,q,Sem.run_bind];simp only[Sem.run_bind] at this;have e:a.eval (.const h)=h:=rfl
   simp_all
  simp_all
theorem oK{d:D}{v:Value}{n:Nat}(b:V σ M Fz w d v)(h:Dt σ d=some n):∃g cap,v=.slice g n cap:=by
 unfold Dt at h;split at h
 ·grind [V.bI]
 ·simp only[aj] at h;subst h;cases b with
  |c b => cases b with
   |ca=>simp_all
 ·split at h
  ·rename_i e;simp only[aj] at h;subst h;obtain ⟨j,e⟩:=yBn.1 e;rcases b.dV e with ⟨f,k,_⟩ | ⟨c,o,cap,i,T,_,f,_⟩
   ·simp_all
   simp_all
  simp_all
 simp_all
theorem IJ{es:List (List C)}{n:Nat}(h:∀e∈es,e.length=n):∀(i j:Nat) e d,es[i]? = some e->e[j]? = some d->es.flatten[i * n+j]? = some d:=by
 induction es with
 |nil=>simp_all
 |cons b es ih=>
  intro i j e d f g;have k:=h b (by simp);cases i with
  |zero=>grind
  |succ i=>grind
theorem HA{es:List (List C)}{n:Nat}(h:∀e∈es,e.length=n):es.flatten.length=es.length * n:=by
 induction es with
 |nil=>simp
 |cons b es ih=>grind
theorem Ui(R:Rel σ M Fz w){d:D}{v:Value}{ar n:Nat}{cs:List D}(S:V σ M Fz w d v)(h0:ar≠0)(h:RU σ ar n d=some cs) :
  ∃arr,(Builtin.firstCells ar n v).run P w=.ok arr w/\zk σ M Fz w cs arr/\cs.length=n * ar:=by
 have load:∀(l:Addr)(len cap:Nat)(cs:List D),v=.slice (some l) len cap->cs.length=n * ar ->
   (∀(i:Nat) x,cs[i]? = some x->∃u,w.cell? (l.add i)=some u/\V σ M Fz w x u/\u.oneCell'=true) ->
   ∃arr,(Builtin.firstCells ar n v).run P w=.ok arr w/\zk σ M Fz w cs arr/\cs.length=n * ar:=by
  intro l len cap cs g m r
  let f:Nat->Value:=λj=>(w.cell? (l.add j)).getD undef
  have hf:∀j,j<n * ar->w.cell? (l.add j)=some (f j):=by
   intro j O;obtain ⟨u,Q,_⟩:=r j _ (cT (by omega))
   grind
  have z:=run_loadCells (P:=P) (w:=w) l (n * ar) f hf;refine ⟨_,by rw[g];simp only[Builtin.firstCells];exact z,⟨by simp_all,λi x u Q h2=>?_⟩,m⟩
  grind
 have s:∀(cs:List D),n=0->cs=[]->(∃l len cap,v=.slice l len cap)->∃arr,(Builtin.firstCells ar n v).run P w=.ok arr w/\zk σ M Fz w cs arr/\cs.length=n * ar:=by
  intro cs t A ⟨l,len,cap,g⟩;subst t A;cases l with
  |none=>exact ⟨#[],by rw[g];rfl,⟨rfl,λi x u h=>by simp at h⟩,by simp⟩
  |some l=>simp_all
 unfold RU at h;split at h
 ·split at h
  ·rename_i t;simp only[aj] at h;exact s cs t h.symm ⟨_,_,_,S.bI⟩
  simp_all
 ·rename_i nn k;split at h
  ·rename_i U;simp only[aj] at h;subst h;obtain ⟨t,af⟩:=U;have m:∀e∈k.take n,e.length=ar:=λe he=>by grind
   have W:((k.take n).flatten.map D.c).length=n * ar:=by grind [HA,List.length_take]
   have E:=S.oe;generalize g:v=va at E;cases E with
   |ca sz l cap a1 _ c F G K X=>
    by_cases Y:n=0
    ·simp_all
    ·have hp:0<k.length:=by omega
     have Z:k[0]? = some k[0]:=cT hp;have a2:k[0].length=ar:=by grind
     have L:sz=ar:=by simp_all
     subst L;obtain ⟨blk,o0,rfl,_⟩:=K 0 0 k[0] (k[0][0]'(by omega)) Z (cT _);refine g▸load _ _ _ _ g W (λi x y=>?_);have p:i<n * sz:=by grind
     have ak:i / sz<n:=Nat.div_lt_of_lt_mul (by grind);have an:i % sz<sz:=Nat.mod_lt _ (by omega);have hk:k[i / sz]? = some (k[i / sz]'(by omega)):=cT _;have aa:(k.take n)[i / sz]? = some (k[i / sz]'(by omega)):=by simp_all
     have a5:(k[i / sz]'(by omega)).length=sz:=F _ (bn _);have O:(k[i / sz]'(by omega))[i % sz]? = some ((k[i / sz]'(by omega))[i % sz]'(by omega)):=cT _;have N:=IJ m (i / sz) (i % sz) _ _ aa O;rw[show i / sz * sz+i % sz=i from by grind [Nat.div_add_mod]] at N;rw[gP,N] at y;simp only[Option.map_some,aj] at y;subst y;obtain ⟨ax,a6,Q,h2,h3,h4⟩:=K _ _ _ _ hk O;simp only[aj,Addr.mk.injEq,Iq] at Q;obtain ⟨rfl,rfl⟩:=Q;refine ⟨_,?_,.c (X _ _ _ _ hk O),h4⟩
     grind [dM,Nat.div_add_mod]
  simp_all
 ·rename_i b off len k sz;simp only[Option.bind_eq_bind,b_] at h;obtain ⟨row,hr,h⟩:=h;split at h
  ·rename_i U;obtain ⟨rfl,t,a7⟩:=U;simp only[aj] at h;subst h;obtain ⟨hb,F⟩:=Kk hr;rcases S.dV hr with ⟨g,e2,_⟩ | ⟨c,o,cap,arr,T,hM,g,hl,a0,hh,G,_⟩
   ·simp_all
   by_cases Y:n=0
   ·simp_all
   ·have ab:o=off:=by
     omega
    subst ab;have a8:n * k<=len * k:=Ce _ t;obtain ⟨q,T',a9,bb,A⟩:=R.row hM hb;refine load _ _ _ _ g (by grind) (λi x y=>?_);have p:i<n * k:=by grind
    rw[yBt p,yBx] at y;have bc:=(d_.1 y).1;have e:q[o+i]? = some (q[o+i]'(by omega)):=oF _
    grind [dM,Go.cell_of_row]
  simp_all
 simp_all
theorem len_ok(E:cR σ M Fz w env a.tmps){o:Oper}{t e:TypeId}{x:Operand}{g:aG}{args:Array Operand}{d:Array TypeId}{n:Nat}(i:o.op=.call { callee:=.builtin .len,args:=args,argTypes:=d })
  (j:d[0]? = some t) (k:args[0]? = some x) (hs:args.size=1) (l:bB x=some g) (m:P.underlying t=some (.slice e)) (h:Dt σ (g.ev env)=some n) :
  Yields P (execOp a.eval o) σ M Fz w (.c (.lit (.int .i64 n))):=by
 obtain ⟨p,cap,f⟩:=oK (ki E l) h;have b:args=#[x]:=by grind
 subst b;refine Yields.same (v:=.int .i64 n) ?_ (.c (.lit _));simp[execOp,i,resolve,invoke,builtin,Builtin.len_,j,oE m,f,goInt]
theorem QT{o:Oper}{t e:TypeId}{x:Operand}{args:Array Operand}{d:Array TypeId}{n:Nat}(f:o.op=.call { callee:=.builtin .len,args:=args,argTypes:=d })
  (g:d[0]? = some t) (h:args[0]? = some x) (hs:args.size=1) (i:P.underlying t=some (.array n e)) :
  Yields P (execOp a.eval o) σ M Fz w (.c (.lit (.int .i64 n))):=by
 have b:args=#[x]:=by grind
 subst b;refine Yields.same (v:=.int .i64 n) ?_ (.c (.lit _));simp[execOp,f,resolve,invoke,builtin,Builtin.len_,g,oE i,goInt]
theorem PF(R:Rel σ M Fz w)(E:cR σ M Fz w env a.tmps){o:Oper}{t k e:TypeId}{x:Operand}{q:aG}{args:Array Operand}{m:Array TypeId}{n:Nat}(r:o.op=.call { callee:=.builtin .len,args:=args,argTypes:=m })
  (s:m[0]? = some t) (K:args[0]? = some x) (hs:args.size=1) (L:bB x=some q) (u:P.underlying t=some (.map k e))
  (h:(∃b y d,q.ev env=.mp b/\σ[b]? = some (.map y d)/\n=y.length)∨(q.ev env=.c (.lit (.map none))/\n=0)∨∃z,q.ev env=.c (.Ib z)/\n=z.length) :
  c_ P (execOp a.eval o) σ M Fz w σ (.c (.lit (.int .i64 n))):=by
 have g:args=#[x]:=by grind
 subst g;refine c_.same R (v:=.int .i64 n) ?_ (.c (.lit _));have f:=ki E L;rcases h with ⟨b,y,d,p,G,rfl⟩ | ⟨p,rfl⟩ | ⟨z,p,rfl⟩
 ·rw[p] at f;generalize i:a.eval x=N at f;cases f with
  |mp c Y j O=>rw[G] at j;simp only[aj] at j;subst j;obtain ⟨_,Q,Z,A,S,T⟩:=R.blk b c (O rfl);rw[G] at A;simp only[aj] at A;subst A;obtain ⟨F,⟨ck,rfl,_⟩,l,_⟩:=T;simp[execOp,r,resolve,invoke,builtin,Builtin.len_,s,oE u,i,goInt,getObj,Sem.run,S,l]
 ·rw[p] at f;simp[execOp,r,resolve,invoke,builtin,Builtin.len_,s,oE u,f.bI,goInt]
 ·rw[p] at f;generalize i:a.eval x=N at f;cases f with
  |c f => cases f with
   |Ib blk d F hF U l W X=>simp[execOp,r,resolve,invoke,builtin,Builtin.len_,s,oE u,i,goInt,getObj,Sem.run,U,l]
theorem V.zq{d:D}{v:Value}(h:V σ M Fz w d v):V σ M Fz w (zq d) v:=by
 unfold Abs.zq;split
 ·have:=h.bI;subst this;exact .c (.ca (nn:=false) (es:=[]) 0 none 0 (by simp) (by simp) (λ_ _=>default) (by simp) (by simp) (by simp) (by simp))
 ·exact h
theorem zk.zq {cs:List D} {arr:Array Value} (h:zk σ M Fz w cs arr):zk σ M Fz w (cs.map zq) arr:=
 ⟨by simpa using h.1,fun i x u j o=>by
  rw [gP,bU] at j
  obtain ⟨y,s,rfl⟩:=j
  exact ⟨(h.2 i y u s o).1.zq,(h.2 i y u s o).2⟩⟩
theorem mk_ok(A:∀c,Fz c->c<w.heap.size)(E:cR σ M Fz w env a.tmps){o:Oper}{t e:TypeId}{x y:Operand}{T U:aG}{n:Nat}{i:TypeInfo}{z:List D}{l c:Int}(X:o.op=.makeSlice t x y)
  (Y:P.underlying t=some (.slice e)) (Z:aY P e=some n) (hz:Nm P e=some z) (F:P.info? e=some i) (k:¬(n=0∨z.length≠n)) (hx:bB x=some T) (hy:bB y=some U)
  (hl:qI (T.ev env)=some l) (hc:qI (U.ev env)=some c) (p:0<=l/\l<=c/\Ck c.toNat i.bytes=true) :
  ai P (execOp a.eval o) σ M Fz w (.cells (qJ l.toNat (z.map zq))) (.sl σ.length 0 l.toNat n (l.toNat * n)):=by
 obtain ⟨i',v,g,hv,G⟩:=zcM hz;rw[F] at g;simp only[aj] at g;subst g;have d:=(zk.oO (V.cX (σ:=σ) (M:=M) (Fz:=Fz) (w:=w) v) G).zq;simp only[not_or,Pt] at k;obtain ⟨aa,j⟩:=k;have q:z.map zq≠[]:=λh=>by simp_all
 rw[<-ql (f:=zq)] at j;generalize z.map zq=z at *;have ab:v.cells.size=n:=by rw[d.1,j]
 obtain ⟨h0,ad,b⟩:=p;simp only[Ck,bp,aQ] at b;obtain ⟨⟨af,ak⟩,_⟩:=b;obtain ⟨k1,K⟩:=ij (ki E hx) hl;obtain ⟨k2,L⟩:=ij (ki E hy) hc;obtain ⟨an,N⟩:=xT d q l.toNat c.toNat (by omega);have O:(qJ l.toNat z).length=l.toNat * n:=by rw[jX,j]
 have W:c<=1099511627776:=by omega
 have Q:IntKind.i64.wrap l=l:=IntWalk.i64_in _ (by omega);have R:IntKind.i64.wrap c=c:=IntWalk.i64_in _ (by omega)
 let arr:Array Value:=(Array.range (c.toNat * n)).map (λ(x:Nat)=>v.cells[x % v.cells.size]!)
 have r:arr=(Array.range (c.toNat * v.cells.size)).map (v.cells[· % v.cells.size]!):=by grind
 obtain ⟨r1,r2⟩:=nU (P:=P) A (arr:=arr) (cs:=qJ l.toNat z) e (by simp_all) (by rw[r];exact N);refine ⟨_,.slice (some ⟨w.heap.size,0,none⟩) l.toNat c.toNat,?_,r2,?_⟩
 ·have s:∀m:Int,0<=m->m<=c->(m<0 || (i.bytes:Int) * m > 2 ^ 48)=false:=by
   intro m ax S;have h1:(i.bytes:Int) * m<=i.bytes * c:=Int.mul_le_mul_of_nonneg_left S (by omega)
   grind
  simp only[execOp,X,Instr.makeSlice,Sem.run_bind,oE Y,Result.andThen_ok,K,L,asInt,asIntOf,Sem.run_pure,ZV F,Q,R];rw[s c (by omega) (Aa _)];rw[if_neg (by simp_all)];simp only[Sem.run_bind,Sem.run_pure,Result.andThen_ok,run_askRoom,LP Z];by_cases u:c.toNat * n=0
  ·have a0:c.toNat=0:=by
    grind [Nat.mul_eq_zero]
   have a1:l.toNat=0:=by omega
   rw[if_pos u];simp only[Sem.run_bind,Sem.run_pure,Result.andThen_ok];have:(Array.range (c.toNat * n)).map (λ(x:Nat)=>(#[]:Array Value)[x % (#[]:Array Value).size]!)=arr:=by grind
   simp_all
  ·rw[if_neg u];simp only[Sem.run_bind,gn F hv,Result.andThen_ok,Sem.run_pure]
   simp_all
 ·rw[<-O];refine V.SS (cap:=c.toNat) (by omega) ?_ (by omega) (by simp_all)
  grind
end
end Go.Abs
end
section
namespace Go.Abs
variable[Gl]
section
variable{P:Program}{σ σ':ae}{M M':Nat->Option Nat}{Fz:Nat->Prop}{w w':World}{env:List D}{a:Act}
theorem Sa{o:Oper}{t:TypeId}(b:o.op=.makeMap t none):ai P (execOp a.eval o) σ M Fz w (.map [] 0) (.mp σ.length):=by
 refine ⟨.map #[] 0,.map (some w.heap.size),?_,?_,?_⟩
 ·simp only[execOp,b,Instr.makeMap,Option.map_none,Sem.run_bind,Sem.run_pure,Result.andThen_ok,run_newObj];rfl
 ·exact ⟨#[],⟨0,rfl,.nil 0⟩,rfl,λi k d n e h=>by simp at h⟩
 ·exact .mp _ (.map [] 0) (by simp) (λ_=>by simp[ut])
theorem Rel.Hv(R:Rel σ M Fz w){b c:Nat}{es:List (Value×D×Nat)}{j:Nat}(u:σ[b]? = some (.map es j))(x:M b=some c) :
  ∃arr o,w.heap[c]? = some (.map arr o)/\(arr.size=es.length/\iq arr o)/\∀(i:Nat) k d n e,es[i]? = some (k,d,n)->arr[i]? = some e->e.key=k/\True/\V σ M Fz w d e.val:=by
 obtain ⟨_,z,F,s,G,A⟩:=R.blk b c x;rw[u] at s;simp only[aj] at s;subst s;obtain ⟨arr,⟨o,rfl,K⟩,E,O⟩:=A
 grind
theorem V.AE{b:Nat}{v:Value}{es:List (Value×D×Nat)}{i:Nat}(h:V σ M Fz w (.mp b) v)(o:σ[b]? = some (.map es i)):∃c,v=.map (some c)/\M b=some c:=by
 cases h with
 |mp c u j s=>rw[o] at j;simp only[aj] at j;subst j;exact ⟨c,rfl,s rfl⟩
theorem zci{d:TypeId}{e:TypeDesc}(f:P.underlying d=some e)(hs:Wf e=true)(b:Bool)(v:Value)(w:World):(Instr.checkKey b 10000 d v).run P w=.ok () w:=by show (Instr.checkKey b (9999+1) d v).run P w=_;generalize 9999=n;unfold Instr.checkKey;cases e <;> simp[Wf] at hs <;> simp[oE f]
theorem AW{kind:TypeDesc}{k:Value}:∀(es:List (Value×D×Nat))(l:List MapEntry)(i:Nat)(r:Option (Nat×D)),l.length=es.length ->
  (∀(j:Nat) k d n e,es[j]? = some (k,d,n)->l[j]? = some e->e.key=k/\V σ M Fz w d e.val)->pJ kind k es i=some r ->
  ∃ b, Instr.findNow kind k l i = some b /\ (match r, b with
   |none,none=>True
   |some (j,d),some (m,v)=>j=m/\i<=j/\j<i+es.length/\V σ M Fz w d v/\∃e,l[j-i]? = some e/\Instr.sameNow kind k e.key=some true
   |_,_=>False):=by
 intro es;induction es with
 |nil=>
  intro l i r o _ h;simp only[pJ,aj] at h;subst h;have:l=[]:=by simp_all
  subst this;exact ⟨none,rfl,trivial⟩
 |cons x es ih=>
  intro l i r o f h;obtain ⟨g,d,n⟩:=x;cases l with
  |nil=>grind
  |cons e l=>
   obtain ⟨hk,s⟩:=f 0 g d n e (by simp) (by simp);simp only[pJ] at h;simp only[Instr.findNow,hk];cases hs:Instr.sameNow kind k g with
   |none=>simp_all
   |some t=>
    cases t with
    |true=>grind
    |false=>
     simp only[hs] at h;obtain ⟨b,p,q⟩:=ih l (i+1) r (by simp_all) (λj k d n e p q=>f (j+1) k d n e (by simp_all) (by simp_all)) h
     grind
theorem yh{d:D}{v b:Value}(h:V σ M Fz w d b)(e:fF d=some v):b=v:=by
 cases d with
 |c x=>cases x <;> simp[fF] at e;grind [V.bI]
 |_=>grind [fF]
theorem PO(R:Rel σ M Fz w)(E:cR σ M Fz w env a.tmps){o:Oper}{t kt e:TypeId}{X:TypeDesc}{m k:Operand}{Y ok:aG}{f:Bool}{zero d:D}{s:Bool}{Z:Value}{es:List (Value×D×Nat)}{r:Option (Nat×D)}
  (ho:o.op=.lookup t m k f) (hu:P.underlying t=some (.map kt e)) (hk:P.underlying kt=some X) (hs:Wf X=true) (hz:zeroOf P e=some zero) (hm:bB m=some Y) (aa:bB k=some ok)
  (ab:fF (ok.ev env)=some Z) (ad:(Y.ev env=.c (.lit (.map none))/\es=[])∨(∃b g,Y.ev env=.mp b/\σ[b]? = some (.map es g))∨∃fs,Y.ev env=.c (.Ib fs)/\es=fs.map λp=>(p.1,.c p.2,0))
  (hf:pJ X Z es 0=some r) (hr:(d,s)=Hb zero r) :
  c_ P (execOp a.eval o) σ M Fz w σ (if f then .aI [d,.c (.lit (.bool s))] else d):=by
 have F:=yh (ki E aa) ab;obtain ⟨i,K,hi,N,af⟩:∃i K,P.info? e=some i/\i.zero=some K/\zero=cX K:=by
  unfold zeroOf at hz
  grind [Option.map_eq_some_iff]
 have G:=ki E hm;obtain ⟨l,O,ak,Q⟩:∃l:Array MapEntry,((a.eval m=.map none/\l=#[])∨∃c,a.eval m=.map (some c)/\∃g,(getObj c).run P w=.ok (.map l g) w)/\l.size=es.length /\
   ∀(i:Nat) k d n e,es[i]? = some (k,d,n)->l[i]? = some e->e.key=k/\V σ M Fz w d e.val:=by
  rcases ad with ⟨S,rfl⟩ | ⟨b,g,S,hb⟩ | ⟨fs,S,rfl⟩
  ·rw[S] at G;exact ⟨#[],.inl ⟨G.bI,rfl⟩,rfl,λi k d n e h=>by simp at h⟩
  ·rw[S] at G;obtain ⟨c,A,hM⟩:=G.AE hb;obtain ⟨l,ck,T,⟨h2,_⟩,h3⟩:=R.Hv hb hM
   grind [Go.getObj,Go.Sem.run]
  ·rw[S] at G;generalize A:a.eval m=va at G;cases G with
   |c G => cases G with
    |Ib blk g l hF hh ak an ax=>refine ⟨l,.inr ⟨blk,rfl,g,by simp[getObj,Sem.run,hh]⟩,by simp_all,λi k d n e x y=>?_⟩;simp only[gP,bU,aM] at x;obtain ⟨p,hp,rfl,rfl,_⟩:=x;exact ⟨an i p e hp y,.c (ax i p e hp y)⟩
 obtain ⟨U,a0,a1⟩:=AW (kind:=X) (k:=Z) es l.toList 0 r (by omega)
  (λj k d n e T h2=>Q j k d n e T (by simp_all)) hf
 have L:(Instr.findKey kt Z l.toList).run P w=.ok U w:=by simp only[Instr.findKey,Sem.run_bind,oE hk,Result.andThen_ok,a0,Sem.run_pure]
 have W:∀v z,(U=none/\v=K/\z=false∨∃j,U=some (j,v)/\z=true) ->
   (execOp a.eval o).run P w=.ok (.value (if f then .tuple #[v,.bool z] else v)) w:=by
  intro v z h;rcases h with ⟨rfl,rfl,rfl⟩ | ⟨j,rfl,rfl⟩ <;> rcases O with ⟨A,rfl⟩ | ⟨c,A,g,hg⟩
  ·simp only[execOp,ho,Instr.lookup,Sem.run_bind,oE hu,Result.andThen_ok,A,Sem.run_pure,F,zci hk hs,L,gn hi N]
  ·simp only[execOp,ho,Instr.lookup,Sem.run_bind,oE hu,Result.andThen_ok,A,hg,Sem.run_pure,F,zci hk hs,L,gn hi N]
  ·grind
  ·simp only[execOp,ho,Instr.lookup,Sem.run_bind,oE hu,Result.andThen_ok,A,hg,Sem.run_pure,F,zci hk hs,L]
 have fin:∀v z,V σ M Fz w d v->s=z->V σ M Fz w (if f then .aI [d,.c (.lit (.bool s))] else d) (if f then .tuple #[v,.bool z] else v):=by
  intro v z hV ht;subst ht;cases f
  ·exact hV
  ·refine .aI _ rfl (λi x u T h2=>?_)
   match i with
   |0=>simp_all
   |1=>simp at T h2;subst T h2;exact .c (.lit _)
   |i+2=>grind
 cases r with
 |none=>
  cases U with
  |some _=>simp_all
  |none=>simp only[Hb,aM] at hr;obtain ⟨rfl,rfl⟩:=hr;exact c_.same R (W K false (.inl ⟨rfl,rfl,rfl⟩)) (fin K false (af▸V.cX K) rfl)
 |some p=>
  obtain ⟨j,d'⟩:=p;cases U with
  |none=>simp_all
  |some q=>
   obtain ⟨j',v⟩:=q;obtain ⟨rfl,_,_,hV,_⟩:=a1;simp only[Hb,aM] at hr
   grind [c_.same]
theorem LA{b:TypeDesc}{x y:Value}(hs:Wf b=true)(h:Instr.sameNow b x y=some true):x=y/\∀n,Instr.sameBits n x y=true:=by
 cases b <;> simp[Wf] at hs
 cases x <;> cases y <;> simp[Instr.sameNow] at h
 obtain ⟨rfl,rfl⟩:=h;exact ⟨rfl,λn=>by grind [Go.Instr.sameBits]⟩
theorem upd_ok(R:Rel σ M Fz w)(E:cR σ M Fz w env a.tmps){o:Oper}{t kt e:TypeId}{kd:TypeDesc}{m k x:Operand}{om ok W:aG}{K:Value}{b f:Nat}{es:List (Value×D×Nat)}{r:Option (Nat×D)}
  (ho:o.op=.mapUpdate t m k x∨o.op=.insert t m k x) (hu:P.underlying t=some (.map kt e)) (hk:P.underlying kt=some kd) (hs:Wf kd=true) (hm:bB m=some om) (a0:bB k=some ok) (hx:bB x=some W)
  (a1:fF (ok.ev env)=some K) (he:om.ev env=.mp b) (Y:σ[b]? = some (.map es f)) (hf:pJ kd K es 0=some r) :
  c_ P (execOp a.eval o) σ M Fz w (σ.set b (match r with
   |some (i,_)=>.map (es.modify i λ(k,_,n)=>(k,W.ev env,n)) f
   |none=>.map (es++[(K,W.ev env,f)]) (f+1))) (.aI []):=by
 have Z:execOp a.eval o=execOp a.eval { o with op:=.mapUpdate t m k x }:=by rcases ho with ho | ho <;> simp only[execOp,ho]
 have N:=yh (ki E a0) a1;have hv:=ki E hm;rw[he] at hv;have aa:=ki E hx;obtain ⟨c,ab,hM⟩:=hv.AE Y;obtain ⟨g,O,Q,⟨a2,hB⟩,s⟩:=R.Hv Y hM;obtain ⟨r',a5,a6⟩:=AW (kind:=kd) (k:=K) es g.toList 0 r (by omega)
  (λj k d n e Q F=>let ⟨x,_,y⟩:=s j k d n e Q (by simp_all);⟨x,y⟩) hf
 have ad:(Instr.findKey kt K g.toList).run P w=.ok r' w:=by simp only[Instr.findKey,Sem.run_bind,oE hk,Result.andThen_ok,a5,Sem.run_pure]
 have af:(getObj c).run P w=.ok (.map g O) w:=by simp[getObj,Sem.run,Q]
 have ak:∀G,(setObj c G).run P w=.ok () (bX w c G):=by intro G;simp only[setObj,Sem.run,Q];rfl
 have u:∀G:Obj,∀S T fr,Obj.map g O=.cells S T fr->∃U,G=.cells U T fr/\U.size=S.size:=by simp_all
 have fin:∀z G,z.sz=0->(execOp a.eval o).run P w=.ok .skip (bX w c G)->bE (σ.set b z) M Fz (bX w c G) z G->c_ P (execOp a.eval o) σ M Fz w (σ.set b z) (.aI []):=by
  intro z G hz an a7;have A:(Ob.map es f).sz<=z.sz:=by simp[Ob.sz]
  exact ⟨.skip,undef,_,M,an,.inr ⟨rfl,rfl⟩,R.qp hM Y Q A (u G) a7,.aI #[] rfl (λi d v h=>by simp at h),ba.qp R hM Y Q A (u G),by simp⟩
 cases r with
 |none=>
  cases r' with
  |some _=>simp_all
  |none=>
   refine fin (.map (es++[(K,W.ev env,f)]) (f+1)) (.map (g.push { key:=K,val:=a.eval x,born:=O }) (O+1)) rfl ?_ ?_
   ·rw[Z];simp only[execOp,Instr.mapUpdate,Sem.run_bind,oE hu,Result.andThen_ok,ab,af,N,zci hk hs,ad,ak,Sem.run_pure]
   ·have A:(Ob.map es f).sz<=(Ob.map (es++[(K,W.ev env,f)]) (f+1)).sz:=by simp[Ob.sz]
    have EV:=ba.qp R hM Y Q A (u (.map (g.push { key:=K,val:=a.eval x,born:=O }) (O+1)));refine ⟨_,⟨_,rfl,hB.push _ _⟩,by grind,λi k' d n en F L=>?_⟩;by_cases hi:i<es.length
    ·rw[DK hi] at F;rw[Array.getElem?_push_lt (by omega)] at L;obtain ⟨x1,x2,x3⟩:=s i k' d n en F (by simp_all);exact ⟨x1,x2,x3.mono EV⟩
    ·have a8:=(d_.1 F).1;simp at a8;have:i=es.length:=by omega
     subst this;rw[KE (cn _)] at F;simp at F;obtain ⟨rfl,rfl,rfl⟩:=F;rw[<-a2] at L;simp at L;subst L;exact ⟨rfl,trivial,aa.mono EV⟩
 |some p=>
  obtain ⟨j,d'⟩:=p;cases r' with
  |none=>simp_all
  |some q=>
   obtain ⟨j',v⟩:=q;obtain ⟨rfl,_,hj,_,a9,l,bb⟩:=a6;simp only[Nat.sub_zero,Kr] at l;obtain ⟨ax,X⟩:=LA hs bb;have bd:j<g.size:=(xR.1 l).1;have bc:∀Rc new,Instr.sameBits 10000 Rc new=true->(Instr.keyThatStays Rc new).run P w=.ok new w:=by intro Rc new h;simp only[Instr.keyThatStays,h,if_true,Sem.run_pure]
   refine fin (.map (es.modify j λ(k,_,n)=>(k,W.ev env,n)) f) (.map (g.modify j λe=>{ e with key:=K,val:=a.eval x }) O) rfl ?_ ?_
   ·rw[Z];simp only[execOp,Instr.mapUpdate,Sem.run_bind,oE hu,Result.andThen_ok,ab,af,N,zci hk hs,ad];rw[l];simp only[Option.map_some,Option.getD_some];rw[bc _ _ (by have:=X 10000;rw[ax] at this ⊢;exact this)];simp only[Result.andThen_ok,ak,Sem.run_pure]
   ·have A:(Ob.map es f).sz<=(Ob.map (es.modify j λ(k,_,n)=>(k,W.ev env,n)) f).sz:=by simp[Ob.sz]
    have EV:=ba.qp R hM Y Q A (u (.map (g.modify j λe=>{ e with key:=K,val:=a.eval x }) O));refine ⟨_,⟨_,rfl,hB.same (by
     apply Qg
     grind)⟩,by grind,λi k' d n en F L=>?_⟩
    rw[List.getElem?_modify] at F;rw[Array.getElem?_modify] at L;by_cases hi:j=i
    ·subst hi;rw[l] at L;simp only[if_true,Option.map_some,aj] at L;subst L;cases h4:es[j]? with
     |none=>simp_all
     |some p=>obtain ⟨k0,d0,n0⟩:=p;simp[h4] at F;obtain ⟨rfl,rfl,rfl⟩:=F;obtain ⟨x1,x2,_⟩:=s j k0 d0 n0 a9 h4 l;exact ⟨by simp_all,x2,aa.mono EV⟩
    ·simp only[hi,bT] at F L;obtain ⟨x1,x2,x3⟩:=s i k' d n en (by simp_all) (by omega);exact ⟨x1,x2,x3.mono EV⟩
theorem DN:∀(l:List (Value×D×Nat))(i:Nat),(lC i l).length=l.length
 |[],_=>rfl
 |(_,_,_)::l,i=>by simp[lC,DN l]
theorem Dn:∀(l:List (Value×D×Nat))(i j:Nat)(k:Value)(d:D)(n:Nat),(lC i l)[j]? = some (k,d,n)->∃m,l[j]? = some (k,d,m)
 |[],_,_,_,_,_,h=>by grind [lC]
 |(b, d0, e) :: l, i, 0, k, d, n, h => by grind [lC]
 |(b, d0, e) :: l, i, j + 1, k, d, n, h => by simp only[lC,List.getElem?_cons_succ] at h ⊢;exact Dn l (i+1) j k d n h
theorem del_ok(R:Rel σ M Fz w)(E:cR σ M Fz w env a.tmps){o:Oper}{t kt e:TypeId}{kd:TypeDesc}{m k:Operand}{om ok:aG}{Q:Value}{b f:Nat}{es:List (Value×D×Nat)}{r:Option (Nat×D)}{args:Array Operand}{S:Array TypeId}
  (ho:o.op=.call { callee:=.builtin .delete,args:=args,argTypes:=S }) (ht:S[0]? = some t) (a6:args[0]? = some m) (a7:args[1]? = some k) (hu:P.underlying t=some (.map kt e)) (hk:P.underlying kt=some kd) (hs:Wf kd=true) (hm:bB m=some om) (af:bB k=some ok)
  (ak:fF (ok.ev env)=some Q) (he:om.ev env=.mp b) (O:σ[b]? = some (.map es f)) (hf:pJ kd Q es 0=some r) :
  c_ P (execOp a.eval o) σ M Fz w (σ.set b (match r with
   |some (i,_)=>.map (lC 0 (es.eraseIdx i)) (f-1)
   |none=>.map es f)) (.aI []):=by
 have a5:=yh (ki E af) ak;have hv:=ki E hm;rw[he] at hv;obtain ⟨c,a8,U⟩:=hv.AE O;obtain ⟨g,A,F,⟨an,hB⟩,l⟩:=R.Hv O U;obtain ⟨r',ax,a0⟩:=AW (kind:=kd) (k:=Q) es g.toList 0 r (by omega)
  (λj k d n e F z=>let ⟨x,_,y⟩:=l j k d n e F (by simp_all);⟨x,y⟩) hf
 have W:(Instr.findKey kt Q g.toList).run P w=.ok r' w:=by simp only[Instr.findKey,Sem.run_bind,oE hk,Result.andThen_ok,ax,Sem.run_pure]
 have X:(getObj c).run P w=.ok (.map g A) w:=by simp[getObj,Sem.run,F]
 have Y:∀u,(setObj c u).run P w=.ok () (bX w c u):=by intro u;simp only[setObj,Sem.run,F];rfl
 have s:∀u:Obj,∀G T fr,Obj.map g A=.cells G T fr->∃K,u=.cells K T fr/\K.size=G.size:=by simp_all
 have Z:(args.map a.eval)[0]? = some (.map (some c)):=by simp_all
 have aa:(args.map a.eval)[1]? = some Q:=by simp_all
 have fin:∀ob' u,ob'.sz=0->(execOp a.eval o).run P w=.ok (.value (.tuple #[])) (bX w c u)->bE (σ.set b ob') M Fz (bX w c u) ob' u->c_ P (execOp a.eval o) σ M Fz w (σ.set b ob') (.aI []):=by
  intro ob' u hz ab a1;have ad:(Ob.map es f).sz<=ob'.sz:=by simp[Ob.sz]
  exact ⟨.value (.tuple #[]),.tuple #[],_,M,ab,.inl rfl,R.qp U O F ad (s u) a1,.aI #[] rfl (λi d v h=>by simp at h),ba.qp R U O F ad (s u),by simp⟩
 cases r with
 |none=>
  cases r' with
  |some _=>simp_all
  |none=>
   refine fin (.map es f) (.map g A) rfl ?_ ?_
   ·simp only[execOp,ho,resolve,invoke,builtin,Builtin.delete_,ht,Z,aa,Sem.run_bind,Sem.run_pure,oE hu,Result.andThen_ok,X,zci hk hs,W,Y]
   ·have EV:=ba.qp R U O F (ob':=.map es f) (cn _) (s (.map g A));exact ⟨g,⟨A,rfl,hB⟩,an,λi k' d n en z N=>by obtain ⟨x1,x2,x3⟩:=l i k' d n en z N;exact ⟨x1,x2,x3.mono EV⟩⟩
 |some p=>
  obtain ⟨j,d'⟩:=p;cases r' with
  |none=>simp_all
  |some q=>
   obtain ⟨j',v⟩:=q;obtain ⟨rfl,_,hj,_,a9,L,bb⟩:=a0;simp only[Nat.sub_zero,Kr] at L;have bc:j<g.size:=(xR.1 L).1;have a2:(g.eraseIdxIfInBounds j).toList=g.toList.eraseIdx j:=by simp_all
   refine fin (.map (lC 0 (es.eraseIdx j)) (f-1)) (.map (g.eraseIdxIfInBounds j) A) rfl ?_ ?_
   ·simp only[execOp,ho,resolve,invoke,builtin,Builtin.delete_,ht,Z,aa,Sem.run_bind,Sem.run_pure,oE hu,Result.andThen_ok,X,zci hk hs,W,Y]
   ·have EV:=ba.qp R U O F (ob':=.map (lC 0 (es.eraseIdx j)) (f-1)) (by simp[Ob.sz]) (s (.map (g.eraseIdxIfInBounds j) A));refine ⟨_,⟨A,rfl,hB.sub (by grind)⟩,?_,λi k' d n en z N=>?_⟩
    ·grind [DN]
    ·obtain ⟨m',z⟩:=Dn _ _ _ _ _ _ z;rw[<-Kr,a2,List.getElem?_eraseIdx] at N;rw[List.getElem?_eraseIdx] at z;split at z
     ·rename_i hi;rw[if_pos hi,Kr] at N;obtain ⟨x1,_,x3⟩:=l i k' d m' en z N;exact ⟨x1,trivial,x3.mono EV⟩
     ·rename_i hi;rw[if_neg hi,Kr] at N;obtain ⟨x1,_,x3⟩:=l (i+1) k' d m' en z N;exact ⟨x1,trivial,x3.mono EV⟩
end
end Go.Abs
end
section
namespace Go.Abs
variable[Gl]
section
variable{P:Program}{σ σ':ae}{M M':Nat->Option Nat}{Fz:Nat->Prop}{w w':World}{env:List D}{a:Act}
theorem Qf(n:Nat):∀(r c:Nat),c<=n+(n+768) / 4->Builtin.growBy n r c<=n+(n+768) / 4:=by
 intro r;induction r with
 |zero=>intro c h;exact h
 |succ r ih=>grind [Go.Builtin.growBy]
theorem MQ(n c:Nat)(h:c<n):Builtin.nextslicecap n c<=2 * n+1000:=by grind [Go.Builtin.nextslicecap,Qf]
theorem Ol{c:Nat}{o:Obj}(h:w.heap[c]? = some o):bX w c o=w:=by
 unfold bX;have:w.heap.setIfInBounds c o=w.heap:=by grind
 rw[this]
theorem zdK(P:Program)(T:TypeId)(c:Nat)(xs:List Value)(off:Nat)(w:World)(arr:Array Value)
  (h:w.heap[c]? = some (.cells arr T (0,0))) (b:∀x∈xs,x.oneCell'=true) (e:off+xs.length<=arr.size) :
  (storeCells ⟨c,off,none⟩ xs).run P w=.ok () (bX w c (.cells (ce arr off xs) T (0,0))):=by
 rw[rf P T c xs 0 off w arr h b (by omega)];congr 1;split
 ·rename_i d;subst d;have:ce arr off []=arr:=by grind [ce]
  grind [Ol]
 ·rfl
theorem zk.Yb{cs:List D}{arr:Array Value}(h:zk σ M Fz w cs arr):∀u∈arr.toList,u.oneCell'=true:=by intro u o;obtain ⟨i,j,rfl⟩:=Pg.1 o;simp only[Array.length_toList] at j;exact (h.2 i _ _ (cT (by rw[<-h.1];exact j)) (oF (by omega))).2
theorem oW {t x e:TypeId} {z:TypeId} {k:Array TypeId} {ty:TypeId} {args:Array Value} {g:Option Addr} {d f n h:Nat} {m:Option Addr} {ar:Nat} {i:TypeInfo} {y:Value}
    (A:k[0]? = some t) (p:k[1]? = some x) (E:P.underlying t=some (.slice e)) (q:P.underlying x=some (.slice z)) (s:aY P e=some ar) (o:P.info? e=some i) (F:i.zero=some y)
    (G:args[0]? = some (.slice g d f)) (K:args[1]? = some (.slice m n h)) (j:Ck (d+n) i.bytes=true) (w:World) :
    (Builtin.append_ k ty args).run P w =
      if d+n≤f then
        ((Builtin.firstCells ar n (.slice m n h)).run P w).andThen fun new w1=>
          match (generalizing:=false) g with
          | some b=>((storeCells (b.add (d * ar)) new.toList).run P w1).andThen fun _ w2=>.ok (.slice g (d+n) f) w2
          | none=>.ok (.slice g (d+n) f) w1
      else
        ((Builtin.firstCells ar d (.slice g d f)).run P w.drew).andThen fun L w1=>
          ((Builtin.firstCells ar n (.slice m n h)).run P w1).andThen fun new w2=>
            ((newRow e (L++new++Builtin.zeroCells y.cells ((Question.appendCap (d+n) f e).cut (w.tape w.drawn (.appendCap (d+n) f e))-(d+n)))).run P w2).andThen fun r w3=>
              .ok (.slice (some r) (d+n) ((Question.appendCap (d+n) f e).cut (w.tape w.drawn (.appendCap (d+n) f e)))) w3:=by
  simp only [Ck,bp,aQ] at j
  obtain ⟨⟨N,O⟩,Q⟩:=j
  have l:∀w,(Builtin.lenOf (.slice m n h)).run P w=.ok n w:=fun w=>rfl
  simp only [Builtin.append_,A,p,G,K,Sem.run_bind,oE E,oE q,LP s,Result.andThen_ok,Sem.run_pure,bA,bT,Bool.not_false,if_true,l]
  split
  · grind [Go.Sem.run_bind,Go.Sem.run_pure]
  · rename_i R
    have u:¬(((d+n:Nat):Int) > IntKind.i64.max∧(False∨i.bytes=0)):=by
      have:IntKind.i64.max=9223372036854775807:=by decide
      omega
    have v:¬(Builtin.nextslicecap (d+n) f * i.bytes > 2 ^ 48):=by
      have S:=MQ (d+n) f (by omega)
      have T:Builtin.nextslicecap (d+n) f * i.bytes≤(2 * (d+n)+1000) * i.bytes:=Ce _ S
      grind
    simp only [Sem.run_bind,ZV o,Result.andThen_ok,bA]
    rw [if_neg u]
    simp only [Sem.run_bind,Sem.run_pure,ZV o,Result.andThen_ok]
    rw [if_neg v]
    simp only [Sem.run_bind,Sem.run_pure,ZV o,Result.andThen_ok,run_choose,Question.forced,bA,bT,run_askRoom,gn o F,World.drew_eq]
theorem LG(n c:Nat)(e:TypeId)(t:Nat):n<=(Question.appendCap n c e).cut t:=by grind [Go.Question.cut]
theorem gq(z:Array Value)(n:Nat):(Builtin.zeroCells z n).size=n * z.size:=by simp[Builtin.zeroCells]
theorem ba.ph(R:Rel σ M Fz w):ba σ M Fz w (σ++[.cells []]) M Fz w:={
 size:=cn _
 frame:=λ_ _ _=>rfl
 ja:=λb c h=>.inl ⟨b,h⟩
 fz:=λc h=>⟨h,rfl⟩
 lD:=λc h=>.inl h
 nF:=λc i T o h=>⟨i,h,rfl⟩
 keep:=λb j h=>⟨j,by grind,cn _,λ_=>rfl⟩
 out:=⟨rfl,rfl,rfl⟩ }
theorem Rel.ph(R:Rel σ M Fz w):Rel (σ++[.cells []]) M Fz w:=⟨λb c h=>by obtain ⟨i,j,o,x,s,u⟩:=R.blk b c h;exact ⟨i,j,o,by grind,s,u.mono (ba.ph R)⟩,R.inj,R.fz,R.gl⟩
theorem Qr(R:Rel σ M Fz w)(E:cR σ M Fz w env a.tmps){o:Oper}{t t1 e et:TypeId}{args:Array Operand}{a5:Array TypeId}{s x:Operand}{os ox:aG}{ar:Nat}{i:TypeInfo}{z:List D}{d:D}{wr:List Nat}
  (ho:o.op=.call { callee:=.builtin .append,args:=args,argTypes:=a5 }) (ht:a5[0]? = some t) (a6:a5[1]? = some t1) (cv:args[0]? = some s) (c0:args[1]? = some x)
  (hu:P.underlying t=some (.slice e)) (a7:P.underlying t1=some (.slice et)) (a8:aY P e=some ar) (hi:P.info? e=some i) (hz:Nm P e=some z) (q:¬(ar=0∨z.length≠ar))
  (hs:bB s=some os) (hx:bB x=some ox)
  (h:(do
  let xd:=ox.ev env
  let n <-Dt σ xd
  let new <-RU σ ar n xd
  match os.ev env with
  |.c (.lit (.slice none 0 0))=>if Ck n i.bytes then some (.sl σ.length 0 n ar (n * ar),σ++[.cells new],[]) else none
  |.sl b off len m sz => do
   let cs <-lu σ b sz
   if m=ar/\off=0/\len * ar=sz/\Ck (len+n) i.bytes then
    if n=0 then some (.sl b 0 len ar sz,σ,[b])
    else some (.sl b 0 (len+n) ar (sz+n * ar),σ.set b (.cells (cs++new)),[b])
   else if m=ar/\off=0/\(len+n) * ar<=sz/\Ck (len+n) i.bytes then
    if n=0 then some (.sl b 0 len ar sz,σ,[b])
    else some (.sl b 0 (len+n) ar sz,σ.set b (.cells (put cs (len * ar) new)),[b])
   else none
  |_=>none)=some (d,σ',wr)):c_ P (execOp a.eval o) σ M Fz w σ' d:=by
 obtain ⟨i',zv,be,a9,b8⟩:=zcM hz;rw[hi] at be;simp only[aj] at be;subst be;simp only[not_or,Pt] at q;obtain ⟨p,c2⟩:=q;have bh:zv.cells.size=ar:=by have:=(zk.oO (V.cX (σ:=σ) (M:=M) (Fz:=Fz) (w:=w) zv) b8).1;omega
 simp only[Option.bind_eq_bind,b_] at h;obtain ⟨n,hn,new,A,h⟩:=h;have S:=ki E hx;have aa:=ki E hs;obtain ⟨b9,bw,U⟩:=oK S hn;have an:∀r,(Builtin.append_ a5 o.type (args.map a.eval)).run P w=r->(execOp a.eval o).run P w=r.andThen λv w'=>.ok (.value v) w':=by intro r hr;simp only[execOp,ho,resolve,invoke,builtin,Sem.run_bind,Sem.run_pure,Result.andThen_ok,hr]
 have bb:(args.map a.eval)[1]? = some (.slice b9 n bw):=by simp_all
 split at h
 ·rename_i bi;rw[bi] at aa;have c3:=aa.bI;have ab:(args.map a.eval)[0]? = some (.slice none 0 0):=by simp_all
  split at h
  ·rename_i F;have f:=oW (ty:=o.type) ht a6 hu a7 a8 hi a9 ab bb (by simp_all) w;simp only[aj,aM] at h;obtain ⟨rfl,rfl,_⟩:=h;by_cases q:n=0
   ·subst q;obtain ⟨arr,l,g,k⟩:=Ui (P:=P) R S p A;rw[U] at l;rw[if_pos (by omega),l] at f;have he:new=[]:=PM (by omega);subst he;refine ⟨.value (.slice none 0 0),.slice none 0 0,w,M,by simp_all,.inl rfl,R.ph,?_,ba.ph R,by simp⟩;exact .sl none 0 0 (by simp) (.cells []) (by simp) (by omega) (λ_=>.inl ⟨rfl,rfl,rfl,rfl,rfl,by simp⟩)
   ·rw[if_neg (by omega)] at f;simp only[GA] at f;have EH:ba σ M Fz w σ M Fz w.drew:=ba.heap R rfl ⟨rfl,rfl,rfl⟩;have R1:Rel σ M Fz w.drew:=R.heap rfl ⟨rfl,rfl,rfl⟩;obtain ⟨arr,l,g,k⟩:=Ui (P:=P) R1 (S.mono EH) p A;rw[U] at l;have ax:(Builtin.firstCells ar 0 (.slice none 0 0)).run P w.drew=.ok #[] w.drew:=rfl;rw[ax] at f;simp only[Result.andThen_ok,l] at f;have a0:=LG n 0 e (w.tape w.drawn (.appendCap n 0 e));generalize (Question.appendCap n 0 e).cut (w.tape w.drawn (.appendCap n 0 e))=W at f a0;have hm:n * ar+(W-n) * ar=W * ar:=by rw[<-Jm];simp_all
    have a1:(#[]++arr++Builtin.zeroCells zv.cells (W-n)).size=W * ar:=by simp only[yCh,gq,bh,g.1,k,Array.size_empty];omega
    obtain ⟨r1,r2⟩:=nU (P:=P) R1.fz (cs:=new) (arr:=#[]++arr++Builtin.zeroCells zv.cells (W-n)) e (by omega) (λj y u Q O=>by have hj:=(d_.1 Q).1;rw[ZX (by simp[g.1];exact hj)] at O;exact g.2 j y u Q (by simp_all))
    rw[r1] at f;refine ⟨_,_,_,_,by rw[an _ f];rfl,.inl rfl,R1.alloc _ _ r2,?_,EH.trans (ba.alloc R1.fz _ _) (cn _),by simp⟩;rw[<-k];exact V.SS (by omega) (by omega) (by omega) (by omega)
  simp_all
 ·rename_i b off len m sz bi;rw[bi] at aa;simp only[b_] at h;obtain ⟨cs,hr,h⟩:=h;split at h
  ·rename_i G;obtain ⟨rfl,rfl,bd,F⟩:=G;obtain ⟨hb,b0⟩:=Kk hr;rcases aa.dV hr with ⟨a2,e2,_,e4,e6⟩ | ⟨c,o',cap,K,T,hM,a2,b1,b2,hh,b3,_⟩
   ·subst e2 e4 e6;have ab:(args.map a.eval)[0]? = some (.slice none 0 0):=by simp_all
    have f:=oW (ty:=o.type) ht a6 hu a7 a8 hi a9 ab bb F w;split at h
    ·rename_i q;subst q;simp only[aj,aM] at h;obtain ⟨rfl,rfl,_⟩:=h;obtain ⟨arr,l,g,k⟩:=Ui (P:=P) R S p A;rw[U] at l;rw[if_pos (by omega),l] at f;refine c_.same R (v:=.slice none 0 0) ?_ (a2▸aa)
     simp_all
    ·rename_i q;simp only[aj,aM] at h;obtain ⟨rfl,rfl,_⟩:=h;rw[if_neg (by omega)] at f;simp only[GA] at f;have EH:ba σ M Fz w σ M Fz w.drew:=ba.heap R rfl ⟨rfl,rfl,rfl⟩;have R1:Rel σ M Fz w.drew:=R.heap rfl ⟨rfl,rfl,rfl⟩;obtain ⟨arr,l,g,k⟩:=Ui (P:=P) R1 (S.mono EH) p A;rw[U] at l;have ax:(Builtin.firstCells m 0 (.slice none 0 0)).run P w.drew=.ok #[] w.drew:=rfl;rw[ax] at f;simp only[Result.andThen_ok,l] at f;have a0:=LG n 0 e (w.tape w.drawn (.appendCap n 0 e));generalize (Question.appendCap n 0 e).cut (w.tape w.drawn (.appendCap n 0 e))=W at f a0;have hm:n * m+(W-n) * m=W * m:=by rw[<-Jm];simp_all
     have a1:(#[]++arr++Builtin.zeroCells zv.cells (W-n)).size=W * m:=by simp only[yCh,gq,bh,g.1,k,Array.size_empty];omega
     have ad:∀row,(newRow e row).run P w.drew=.ok ⟨w.drew.heap.size,0,none⟩ (w.drew.alloc (.cells row e)):=λ_=>rfl;rw[ad] at f;have cg:0<n * m:=Nat.mul_pos (by omega) (by omega);have L:(Ob.cells []).sz<(Ob.cells ([]++new)).sz:=by grind [Ob.sz]
     have EV:=ba.move (o':=.cells (#[]++arr++Builtin.zeroCells zv.cells (W-n)) e) R1 hb L;refine ⟨_,_,_,_,by rw[an _ f];rfl,.inl rfl,R1.move hb L ?_,?_,EH.trans EV (cn _),by simp⟩
     ·refine ⟨_,e,rfl,by grind,λj d v Q O=>?_⟩;have bc:=(d_.1 Q).1;simp[k] at bc;rw[ZX (by simp[g.1,k];omega)] at O;have:=g.2 j d v (by simp_all) (by simp_all);exact ⟨this.1.mono EV,this.2⟩
     ·have bk:=(d_.1 hb).1;refine .sl _ _ _ (by simp) (.cells ([]++new)) (by simp_all) (by grind [Ob.sz]) (λ_=>.inr ?_);refine ⟨w.drew.heap.size,0,_,e,by simp[ut],rfl,by omega,by omega,.inl rfl,heap_alloc_new _ _,by omega,by simp⟩
   have ab:(args.map a.eval)[0]? = some (.slice (some ⟨c,o',none⟩) len cap):=by simp_all
   have f:=oW (ty:=o.type) ht a6 hu a7 a8 hi a9 ab bb F w;obtain ⟨bl,T',af,ch,bt⟩:=R.row hM hb;rw[hh] at af;simp only[aj,Obj.cells.injEq,Iq] at af;obtain ⟨rfl,rfl⟩:=af;split at h
   ·rename_i q;subst q;simp only[aj,aM] at h;obtain ⟨rfl,rfl,_⟩:=h;obtain ⟨arr,l,g,k⟩:=Ui (P:=P) R S p A;rw[U] at l;rw[if_pos (by omega),l] at f;have b4:arr.toList=[]:=by
     have:arr.size=0:=by rw[g.1,k];omega
     simp_all
    grind [Go.Result.andThen_ok,Go.storeCells,Go.Sem.run_pure,c_.same]
   ·rename_i q;simp only[aj,aM] at h;obtain ⟨rfl,rfl,_⟩:=h;by_cases X:len+n<=cap
    ·rw[if_pos X] at f;obtain ⟨arr,l,g,k⟩:=Ui (P:=P) R S p A;rw[U] at l;have bu:o'=0:=by
      omega
     subst bu;have hm:(len+n) * m<=cap * m:=Ce _ X;rw[Jm] at hm;have bv:=zdK P T c arr.toList (0+len * m) w K hh g.Yb (by simp[g.1,k];omega);rw[l] at f;simp only[Result.andThen_ok,dM,bv] at f;have L:(Ob.cells cs).sz<=(Ob.cells (cs++new)).sz:=by simp[Ob.sz]
     have Y:∀N T1 fr,Obj.cells K T (0,0)=.cells N T1 fr->∃Z,Obj.cells (ce K (0+len * m) arr.toList) T (0,0)=.cells Z T1 fr/\Z.size=N.size:=by intro N T1 fr h;simp only[Obj.cells.injEq] at h;obtain ⟨rfl,rfl,rfl⟩:=h;exact ⟨_,rfl,Qv (by simp[g.1,k];omega)⟩
     have EV:=ba.qp R hM hb hh L Y;refine ⟨_,_,_,M,by rw[an _ f];rfl,.inl rfl,R.qp hM hb hh L Y ?_,?_,EV,by simp⟩
     ·refine ⟨_,T,rfl,?_,λj d v Q O=>?_⟩
      ·grind
      ·rw[bV (by simp[g.1,k];omega)] at O;simp only[Array.length_toList,g.1,k] at O;by_cases hj:j<cs.length
       ·rw[DK hj] at Q;rw[if_neg (by omega)] at O;have:=bt j d v Q O;exact ⟨this.1.mono EV,this.2⟩
       ·rw[KE (by omega)] at Q;have bc:=(d_.1 Q).1;rw[if_pos (by omega)] at O;have:=g.2 (j-cs.length) d v Q (by
         simp_all)
        exact ⟨this.1.mono EV,this.2⟩
     ·have bk:=(d_.1 hb).1;refine .sl _ _ _ (by simp) (.cells (cs++new)) (by simp_all) (by grind [Ob.sz]) (λ_=>.inr ?_);refine ⟨c,0,_,T,hM,rfl,rfl,⟨X,by omega⟩,.inl rfl,dN (R.lt hM).2,?_,?_⟩
      ·simp_all
      grind
    ·rw[if_neg X] at f;have EH:ba σ M Fz w σ M Fz w.drew:=ba.heap R rfl ⟨rfl,rfl,rfl⟩;have R1:Rel σ M Fz w.drew:=R.heap rfl ⟨rfl,rfl,rfl⟩;obtain ⟨arr,l,g,k⟩:=Ui (P:=P) R1 (S.mono EH) p A;rw[U] at l;have ck:RU σ m len (.sl b 0 len m sz)=some cs:=by
      have hc:m=m/\len<=len/\0+len * m<=sz:=⟨rfl,cn _,by omega⟩;show ((lu σ b sz).bind λcs=>if m=m/\len<=len/\0+len * m<=sz then some ((cs.drop 0).take (len * m)) else none)=some cs
      grind
     obtain ⟨Rc,b5,ak,cm⟩:=Ui (P:=P) R1 (aa.mono EH) p ck;rw[a2] at b5;rw[b5] at f;simp only[Result.andThen_ok,l] at f;have a0:=LG (len+n) cap e (w.tape w.drawn (.appendCap (len+n) cap e));generalize (Question.appendCap (len+n) cap e).cut (w.tape w.drawn (.appendCap (len+n) cap e))=W at f a0;have hm:(len+n) * m+(W-(len+n)) * m=W * m:=by rw[<-Jm];simp_all
     rw[Jm] at hm;have a1:(Rc++arr++Builtin.zeroCells zv.cells (W-(len+n))).size=W * m:=by simp only[yCh,gq,bh,g.1,k,ak.1,cm];omega
     have ad:∀row,(newRow e row).run P w.drew=.ok ⟨w.drew.heap.size,0,none⟩ (w.drew.alloc (.cells row e)):=λ_=>rfl;rw[ad] at f;have cg:0<n * m:=Nat.mul_pos (by omega) (by omega);have L:(Ob.cells cs).sz<(Ob.cells (cs++new)).sz:=by grind [Ob.sz]
     have EV:=ba.move (o':=.cells (Rc++arr++Builtin.zeroCells zv.cells (W-(len+n))) e) R1 hb L;refine ⟨_,_,_,_,by rw[an _ f];rfl,.inl rfl,R1.move hb L  ?_,?_,EH.trans EV (cn _),by simp⟩
     ·refine ⟨_,e,rfl,by grind,λj d v Q O=>?_⟩;have bc:=(d_.1 Q).1;simp[k] at bc;rw[ZX (by simp[ak.1,g.1,k];omega)] at O;by_cases hj:j<cs.length
      ·rw[DK hj] at Q;rw[ZX (by rw[ak.1];exact hj)] at O;have:=ak.2 j d v Q O;exact ⟨this.1.mono EV,this.2⟩
      ·rw[KE (by omega)] at Q;rw[xAo (by rw[ak.1];omega),ak.1] at O;have:=g.2 _ d v Q O;exact ⟨this.1.mono EV,this.2⟩
     ·have bk:=(d_.1 hb).1;refine .sl _ _ _ (by simp) (.cells (cs++new)) (by simp_all) (by grind [Ob.sz]) (λ_=>.inr ?_);refine ⟨w.drew.heap.size,0,_,e,by simp[ut],rfl,rfl,by omega,.inl rfl,heap_alloc_new _ _,by omega,by grind⟩
  ·rename_i cp;split at h
   rotate_left
   ·simp at h
   rename_i G;obtain ⟨rfl,rfl,bd,F⟩:=G;obtain ⟨hb,b0⟩:=Kk hr;have b6:0<m:=Nat.pos_of_ne_zero p;rcases aa.dV hr with ⟨a2,e2,_,e4,e6⟩ | ⟨c,o',cap,K,T,hM,a2,b1,b2,hh,b3,_⟩
   ·simp_all
   have ab:(args.map a.eval)[0]? = some (.slice (some ⟨c,o',none⟩) len cap):=by simp_all
   have f:=oW (ty:=o.type) ht a6 hu a7 a8 hi a9 ab bb F w;obtain ⟨bl,T',af,ch,bt⟩:=R.row hM hb;rw[hh] at af;simp only[aj,Obj.cells.injEq,Iq] at af;obtain ⟨rfl,rfl⟩:=af;have X:len+n<=cap:=Nat.le_of_mul_le_mul_right (by omega) b6;rw[if_pos X] at f;obtain ⟨arr,l,g,k⟩:=Ui (P:=P) R S p A;rw[U] at l;split at h
   ·rename_i q;subst q;simp only[aj,aM] at h;obtain ⟨rfl,rfl,_⟩:=h;have b4:arr.toList=[]:=by
     have:arr.size=0:=by rw[g.1,k];omega
     simp_all
    grind [Go.Result.andThen_ok,Go.storeCells,Go.Sem.run_pure,c_.same]
   ·rename_i q;simp only[aj,aM] at h;obtain ⟨rfl,rfl,_⟩:=h;have bu:o'=0:=by
     omega
    subst bu;have hm:(len+n) * m<=cap * m:=Ce _ X;have co:=bd;rw[Jm] at hm co;have bv:=zdK P T c arr.toList (0+len * m) w K hh g.Yb (by simp[g.1,k];omega);rw[l] at f;simp only[Result.andThen_ok,dM,bv] at f;have b7:len * m+new.length<=cs.length:=by omega
    have L:(Ob.cells cs).sz<=(Ob.cells (put cs (len * m) new)).sz:=by grind [Ob.sz,WT]
    have Y:∀N T1 fr,Obj.cells K T (0,0)=.cells N T1 fr->∃Z,Obj.cells (ce K (0+len * m) arr.toList) T (0,0)=.cells Z T1 fr/\Z.size=N.size:=by intro N T1 fr h;simp only[Obj.cells.injEq] at h;obtain ⟨rfl,rfl,rfl⟩:=h;exact ⟨_,rfl,Qv (by simp[g.1,k];omega)⟩
    have EV:=ba.qp R hM hb hh L Y;refine ⟨_,_,_,M,by rw[an _ f];rfl,.inl rfl,R.qp hM hb hh L Y ?_,?_,EV,by simp⟩
    ·refine ⟨_,T,rfl,by grind [WT],λj d v Q O=>?_⟩;rw[gy b7] at Q;rw[bV (by simp[g.1,k];omega)] at O;simp only[Array.length_toList,g.1,GA] at O;split at Q
     ·rename_i G;rw[if_pos G] at O;have:=g.2 _ _ _ Q (by simpa using O);exact ⟨this.1.mono EV,this.2⟩
     ·rename_i G;rw[if_neg G] at O;have:=bt _ _ _ Q O;exact ⟨this.1.mono EV,this.2⟩
    ·have bk:=(d_.1 hb).1;refine .sl _ _ _ (by simp) (.cells (put cs (len * m) new)) (by simp_all) (by grind [Ob.sz]) (λ_=>.inr ?_);refine ⟨c,0,_,T,hM,rfl,rfl,⟨X,b1.2⟩,.inl rfl,dN (R.lt hM).2,?_,?_⟩
     ·simp_all
     ·omega
 simp_all
theorem zQ(R:Rel σ M Fz w)(E:cR σ M Fz w env a.tmps){o:Oper}{t e:TypeId}{args:Array Operand}{S:Array TypeId}{s x:Operand}{os ox:aG}{ar b off len sz n m:Nat}{cs new:List D}
  (ho:o.op=.call { callee:=.builtin .copy,args:=args,argTypes:=S }) (ht:S[0]? = some t) (a8:args[0]? = some s) (a9:args[1]? = some x)
  (hu:P.underlying t=some (.slice e)) (U:aY P e=some ar) (W:ar≠0) (hs:bB s=some os) (hx:bB x=some ox)
  (af:os.ev env=.sl b off len ar sz) (hr:lu σ b sz=some cs) (hm:Dt σ (ox.ev env)=some m) (hn:n=min m len) (A:RU σ ar n (ox.ev env)=some new) (bb:off+len * ar<=sz) :
  c_ P (execOp a.eval o) σ M Fz w (σ.set b (.cells (put cs off new))) (.c (.lit (.int .i64 n))):=by
 have L:=ki E hx;have X:=ki E hs;rw[af] at X;obtain ⟨z,l,Y⟩:=oK L hm;rcases X.dV hr with ⟨ak,e2,e3,e4,e5⟩ | ⟨c,o',cap,g,T,hM,ak,bc,a5,Z,a6,_⟩
 ·subst e2 e3 e4 e5;obtain rfl:n=0:=by omega
  obtain ⟨hb,_⟩:=Kk hr;obtain ⟨k,p,f,q⟩:=Ui (P:=P) R L W A;rw[Y] at p;obtain rfl:new=[]:=PM (by omega);have aa:σ.set b (.cells (put [] 0 []))=σ:=by
   apply Qg;intro i;rw[yB2];split
   ·rename_i hi;subst hi;split
    ·exact hb.symm
    grind
   ·rfl
  rw[aa];have N:(args.map a.eval)[0]? = some (.slice none 0 0):=by grind
  have O:(args.map a.eval)[1]? = some (.slice z m l):=by grind
  have hl:(Builtin.lenOf (.slice z m l)).run P w=.ok m w:=rfl;have r:Nat.min m 0=0:=hn.symm;refine c_.same R (v:=.int .i64 0) ?_ (.c (.lit _));simp only[execOp,ho,resolve,invoke,builtin,Builtin.copy_,ht,N,O,Sem.run_bind,Sem.run_pure,oE hu,Result.andThen_ok,hl,LP U,r,p,goInt];rfl
 obtain ⟨hb,a7⟩:=Kk hr;obtain ⟨an,T',Q,bd,ax⟩:=R.row hM hb;rw[Z] at Q;simp only[aj,Obj.cells.injEq,Iq] at Q;obtain ⟨rfl,rfl⟩:=Q;obtain ⟨k,p,f,q⟩:=Ui (P:=P) R L W A;rw[Y] at p;have a0:n * ar<=len * ar:=Ce _ (by omega);have a1:(storeCells ⟨c,o',none⟩ k.toList).run P w=.ok () (bX w c (.cells (ce g off k.toList) T (0,0))):=by
  by_cases hz:n=0
  ·have:k.toList=[]:=by
    have:k.size=0:=by rw[f.1,q,hz,yCc]
    grind
   rw[this];have F:ce g off []=g:=by grind [ce]
   rw[F,Ol Z];rfl
  ·have a2:o'=off:=by
    omega
   subst a2;exact zdK P T c k.toList o' w g Z f.Yb (by simp[f.1,q];omega)
 have ab:off+new.length<=cs.length:=by omega
 have ad:(Ob.cells cs).sz<=(Ob.cells (put cs off new)).sz:=by grind [Ob.sz,WT]
 have G:∀u T1 fr,Obj.cells g T (0,0)=.cells u T1 fr->∃K,Obj.cells (ce g off k.toList) T (0,0)=.cells K T1 fr/\K.size=u.size:=by intro u T1 fr h;simp only[Obj.cells.injEq] at h;obtain ⟨rfl,rfl,rfl⟩:=h;exact ⟨_,rfl,Qv (by simp[f.1,q];omega)⟩
 have EV:=ba.qp R hM hb Z ad G;refine ⟨.value (.int .i64 n),_,_,M,?_,.inl rfl,R.qp hM hb Z ad G ?_,.c (.lit _),EV,by simp⟩
 ·have N:(args.map a.eval)[0]? = some (.slice (some ⟨c,o',none⟩) len cap):=by simp_all
  have O:(args.map a.eval)[1]? = some (.slice z m l):=by simp_all
  have hl:(Builtin.lenOf (.slice z m l)).run P w=.ok m w:=rfl;have r:Nat.min m len=n:=hn.symm;simp only[execOp,ho,resolve,invoke,builtin,Builtin.copy_,ht,N,O,Sem.run_bind,Sem.run_pure,oE hu,Result.andThen_ok,hl,LP U,r,p,a1,goInt]
 ·refine ⟨_,T,rfl,by grind [WT],λj d v h1 F=>?_⟩;rw[gy ab] at h1;rw[bV (by simp[f.1,q];omega)] at F;simp only[Array.length_toList,f.1] at F;split at h1
  ·rename_i y;rw[if_pos y] at F;have:=f.2 _ _ _ h1 (by simpa using F);exact ⟨this.1.mono EV,this.2⟩
  ·rename_i y;rw[if_neg y] at F;have:=ax _ _ _ h1 F;exact ⟨this.1.mono EV,this.2⟩
theorem clr_ok(R:Rel σ M Fz w)(E:cR σ M Fz w env a.tmps){o:Oper}{t e:TypeId}{args:Array Operand}{A:Array TypeId}{x:Operand}{ox:aG}{ar b off len sz:Nat}{cs z:List D}
  (ho:o.op=.call { callee:=.builtin .clear,args:=args,argTypes:=A }) (ht:A[0]? = some t) (bb:args[0]? = some x)
  (hu:P.underlying t=some (.slice e)) (hz:Nm P e=some z) (bc:ar≠0) (F:z.length=ar) (hx:bB x=some ox)
  (X:ox.ev env=.sl b off len ar sz) (hr:lu σ b sz=some cs) (bd:off+len * ar<=sz) :
  c_ P (execOp a.eval o) σ M Fz w (σ.set b (.cells (put cs off (qJ len z)))) (.aI []):=by
 obtain ⟨i,y,hi,Y,aa⟩:=zcM hz;have G:=zk.oO (V.cX (σ:=σ) (M:=M) (Fz:=Fz) (w:=w) y) aa;have be:y.cells.size=ar:=by rw[G.1,F]
 have K:z≠[]:=λh=>by simp_all
 have hv:=ki E hx;rw[X] at hv;obtain ⟨hb,a5⟩:=Kk hr;have same:len=0->σ.set b (.cells (put cs off (qJ len z)))=σ:=λh=>by
  subst h;have k:put cs off (qJ 0 z)=cs:=by simp[qJ,put]
  rw[k];apply Qg
  grind
 have a6:∀U cap,len=0->a.eval x=.slice U len cap->c_ P (execOp a.eval o) σ M Fz w (σ.set b (.cells (put cs off (qJ len z)))) (.aI []):=λU cap h L=>by
  rw[same h];subst h;have r:(args.map a.eval)[0]? = some (.slice U 0 cap):=by simp_all
  refine c_.same R (v:=.tuple #[]) ?_ (.aI #[] rfl (λi d v h=>by simp at h));cases U <;> simp only[execOp,ho,resolve,invoke,builtin,Builtin.clear_,ht,r,Sem.run_bind,Sem.run_pure,oE hu,Result.andThen_ok]
 rcases hv.dV hr with ⟨L,e2,e3,e4,e6⟩ | ⟨c,s,cap,f,T,hM,L,bh,a7,W,a8,_⟩
 ·simp_all
 by_cases h0:len=0
 ·simp_all
 obtain ⟨m,rfl⟩:∃m,len=m+1:=⟨len-1,by omega⟩;obtain ⟨ab,T',u,bi,af⟩:=R.row hM hb;rw[W] at u;simp only[aj,Obj.cells.injEq,Iq] at u;obtain ⟨rfl,rfl⟩:=u;have ak:s=off:=by omega
 subst ak;obtain ⟨an,N⟩:=xT G K (m+1) (m+1) (cn _);generalize hZ:Builtin.zeroCells y.cells (m+1)=Z;have ax:(Array.range ((m+1) * y.cells.size)).map (y.cells[· % y.cells.size]!)=Z:=hZ;rw[ax] at an N;have a0:Z.size=(m+1) * ar:=by grind
 have a1:(qJ (m+1) z).length=(m+1) * ar:=by rw[jX,F]
 have l:zk σ M Fz w (qJ (m+1) z) Z:=⟨by omega,N⟩;have a9:s+(m+1) * ar<=f.size:=by omega
 have a2:=zdK P T c Z.toList s w f W l.Yb (by simp_all);have O:s+(qJ (m+1) z).length<=cs.length:=by omega
 have Q:(Ob.cells cs).sz<=(Ob.cells (put cs s (qJ (m+1) z))).sz:=by grind [Ob.sz,WT]
 have n:∀p T1 fr,Obj.cells f T (0,0)=.cells p T1 fr->∃q,Obj.cells (ce f s Z.toList) T (0,0)=.cells q T1 fr/\q.size=p.size:=by grind [Qv]
 have EV:=ba.qp R hM hb W Q n;refine ⟨.value (.tuple #[]),_,_,M,?_,.inl rfl,R.qp hM hb W Q n ?_,.aI #[] rfl (λi d v h=>by simp at h),EV,by simp⟩
 ·have r:(args.map a.eval)[0]? = some (.slice (some ⟨c,s,none⟩) (m+1) cap):=by simp_all
  simp only[execOp,ho,resolve,invoke,builtin,Builtin.clear_,ht,r,Sem.run_bind,Sem.run_pure,oE hu,Result.andThen_ok,gn hi Y,hZ,a2]
 ·refine ⟨_,T,rfl,by grind [WT],λj d v S k=>?_⟩;rw[gy O] at S;rw[bV (by simp_all)] at k;simp only[Array.length_toList,a0] at k;rw[a1] at S;split at S
  ·rename_i g;rw[if_pos g] at k;have:=l.2 _ _ _ S (by simpa using k);exact ⟨this.1.mono EV,this.2⟩
  ·rename_i g;rw[if_neg g] at k;have:=af _ _ _ S k;exact ⟨this.1.mono EV,this.2⟩
end
end Go.Abs
end
