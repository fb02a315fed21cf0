/- DfwA, DfwB, DfwC, DfwD, DfwE, DfwF, DfwG, DfwH -/
import Derived.Calls
import Derived.Orders
import Derived.Laws.Sem
import Derived.Laws.World
import Derived.Laws.Cells
import Derived.Laws.Rows
import GoSem.Dispatch
import Derived.IntWalk
set_option linter.all false
namespace Go
abbrev xAa:=@Option.bind_some
abbrev xAb:=@Option.map_some
abbrev xAc:=@Option.getD_some
abbrev xAd:=@List.length_cons
abbrev xAe:=@List.nil_append
abbrev xAf:=@List.getElem?_cons_zero
abbrev xAg:=@Int.toNat_natCast
abbrev xAh:=@List.drop_append
abbrev xAi:=@Nat.min_eq_left
abbrev xAj:=@Nat.shiftLeft_eq
abbrev xAk:=@List.filter_cons
abbrev xAl:=@Array.length_toList
abbrev xAm:=@List.filter_eq_nil_iff
abbrev xAn:=@Array.toArray_toList
abbrev xAo:=@List.pairwise_cons
abbrev xAp:=@List.take_add_one
abbrev xAq:=@Array.mapM_eq_mapM_toList
abbrev xAr:=@Int.tdiv_eq_ediv_of_nonneg
abbrev xAs:=@List.drop_eq_getElem_cons
abbrev yAa:=@Option.some.injEq
abbrev yAb:=@List.getElem?_eq_some_iff
abbrev yAc:=@Prod.mk.injEq
abbrev yAd:=@Option.map_eq_some_iff
abbrev yAe:=@Option.bind_eq_some_iff
abbrev yAf:=@decide_eq_true_eq
abbrev yAg:=@List.getElem?_eq_getElem
abbrev yAh:=@Bool.false_eq_true
abbrev yAi:=@Nat.eq_of_beq_eq_true
abbrev yAj:=@Bool.and_eq_true
abbrev yAk:=@List.getElem_mem
abbrev yAl:=@List.getElem?_map
abbrev yAm:=@List.mem_cons_of_mem
abbrev yAn:=@Array.getElem?_eq_getElem
abbrev yAo:=@Nat.le_refl
abbrev yAp:=@List.all_eq_true
abbrev yAq:=@List.mem_cons_self
abbrev yAr:=@List.getElem?_append_left
abbrev yAs:=@Bool.not_eq_true'
abbrev yAt:=@Bool.or_eq_true
abbrev yAu:=@List.mem_cons
abbrev yAv:=@Array.getElem?_eq_some_iff
abbrev yAw:=@List.map_cons
abbrev yAx:=@if_false
abbrev yAy:=@List.mem_of_getElem?
abbrev yAz:=@List.length_map
abbrev yA0:=@List.getElem?_append_right
abbrev yA1:=@Bool.not_eq_false
abbrev yA2:=@List.getElem_of_mem
abbrev yA3:=@List.append_assoc
abbrev yA4:=@List.mem_map
abbrev yA5:=@Array.getElem?_toList
abbrev yA6:=@List.length_take
abbrev yA7:=@List.getElem?_take_of_lt
abbrev yA8:=@Nat.le_of_ble_eq_true
abbrev yA9:=@Array.getD_eq_getD_getElem?
abbrev yAA:=@Nat.le_trans
abbrev yAB:=@Nat.lt_or_ge
abbrev yAC:=@List.length_append
abbrev yAD:=@List.getElem?_set_ne
abbrev yAE:=@List.mem_append
abbrev yAF:=@beq_iff_eq
abbrev yAG:=@List.getElem?_eq_none
abbrev yAH:=@Nat.lt_of_lt_of_le
abbrev yAI:=@List.length_set
abbrev yAJ:=@List.eq_nil_of_length_eq_zero
abbrev yAK:=@List.getElem?_set
abbrev yAL:=@List.getD_eq_getElem?_getD
abbrev yAM:=@List.ext_getElem?
abbrev yAN:=@Decidable.not_not
abbrev yAO:=@List.take_succ_eq_append_getElem
abbrev yAP:=@Nat.mul_le_mul_right
abbrev yAQ:=@Nat.blt_eq
abbrev yAR:=@List.take_of_length_le
abbrev yAS:=@List.mapM_cons
abbrev yAT:=@List.getElem?_drop
abbrev yAU:=@Array.getElem?_setIfInBounds
abbrev yAV:=@Array.getElem?_map
abbrev yAW:=@decide_eq_false_iff_not
abbrev yAX:=@Option.isSome_iff_exists
abbrev yAY:=@Bool.not_true
abbrev yAZ:=@List.mem_singleton
abbrev yBa:=@List.take_length
abbrev yBb:=@List.getElem?_append
abbrev yBc:=@Nat.lt_or_eq_of_le
abbrev yBd:=@List.getElem_map
abbrev yBe:=@Nat.add_mul
abbrev yBf:=@Int.mul_le_mul_of_nonneg_right
abbrev yBg:=@List.mem_of_mem_take
abbrev yBh:=@bne_iff_ne
abbrev yBi:=@List.flatMap_cons
abbrev yBj:=@Nat.zero_add
abbrev yBk:=@not_not_intro
abbrev yBl:=@Array.getElem?_append_left
abbrev yBm:=@Nat.exists_eq_add_of_le
abbrev yBn:=@List.mem_or_eq_of_mem_set
abbrev yBo:=@List.getElem?_set_self
abbrev yBp:=@Array.getElem?_eq_none
abbrev yBq:=@Bool.and_true
abbrev yBr:=@false_iff
abbrev yBs:=@List.cons.injEq
abbrev yBt:=@List.getElem?_of_mem
abbrev yBu:=@List.mem_filter
abbrev yBv:=@List.append_nil
abbrev yBw:=@Nat.zero_mul
abbrev yBx:=@Classical.choose_spec
abbrev yBy:=@Bool.and_eq_false_iff
abbrev yBz:=@List.set_getElem_self
abbrev yB0:=@Nat.lt_succ_iff
abbrev yB1:=@List.drop_eq_nil_of_le
abbrev yB2:=@Array.ext'
abbrev yB3:=@Nat.zero_le
abbrev yB4:=@List.drop_zero
abbrev yB5:=@Decidable.byContradiction
abbrev yB6:=@List.map_append
abbrev yB7:=@List.mem_iff_getElem?
abbrev yB8:=@List.map_map
abbrev yB9:=@Array.getElem?_replicate
abbrev yBA:=@List.getElem?_take
abbrev yBB:=@List.take_append_of_le_length
abbrev yBC:=@List.not_mem_nil
abbrev yBD:=@Nat.add_sub_cancel_left
abbrev yBE:=@Nat.lt_trichotomy
abbrev yBF:=@List.pairwise_iff_getElem
abbrev yBG:=@Bool.or_eq_false_iff
abbrev yBH:=@List.mem_append_left
abbrev yBI:=@Bool.eq_iff_iff
abbrev yBJ:=@List.getElem_take
abbrev yBK:=@Int.mul_comm
abbrev yBL:=@Nat.add_assoc
abbrev yBM:=@List.length_pos_iff
abbrev yBN:=@and_true
abbrev yBO:=@Bool.and_self
abbrev yBP:=@true_iff
abbrev yBQ:=@List.length_drop
abbrev yBR:=@List.drop_append_of_le_length
abbrev yBS:=@List.mem_range
abbrev yBT:=@Sigma.mk.injEq
abbrev yBU:=@getElem!_pos
abbrev yBV:=@Nat.sub_self
abbrev yBW:=@Array.getElem?_append
abbrev yBX:=@Option.some.inj
abbrev yBY:=@List.getElem_set_self
abbrev yBZ:=@Array.size_append
abbrev yCa:=@List.map_take
abbrev yCb:=@Classical.not_not
abbrev yCc:=@List.mem_of_mem_drop
abbrev yCd:=@Classical.not_forall
abbrev yCe:=@Classical.byContradiction
abbrev yCf:=@Int.mul_nonneg
abbrev yCg:=@List.getElem?_eq_none_iff
abbrev yCh:=@Nat.lt_succ_self
abbrev yCi:=@Array.toList_map
abbrev yCj:=@congrArg
abbrev yCk:=@beq_self_eq_true
abbrev yCl:=@List.map_congr_left
abbrev yCm:=@List.getElem?_range
abbrev yCn:=@Nat.pow_add
abbrev yCo:=@Nat.succ_mul
abbrev yCp:=@List.map_nil
abbrev yCq:=@List.mem_filterMap
abbrev yCr:=@Nat.pow_pos
abbrev yCs:=@Int.add_mul
abbrev yCt:=@List.any_eq_false
abbrev yCu:=@bne_self_eq_false
abbrev yCv:=@Nat.mul_assoc
abbrev yCw:=@List.map_drop
abbrev yCx:=@true_and
end Go
section
namespace Go.Abs
inductive C where
 |lit (v:Value)
 |frz (nn:Bool) (es:List (List C))
 |fptr (cs:List C) (off:Nat)
 |fn (f:Fn) (first cap:List C)
 |fmp (es:List (Value×C))
 |glo (g:Nat)
 deriving Inhabited
inductive D where
 |c (x:C)
 |ptr (b off sz:Nat)
 |sl (b off len esz sz:Nat)
 |mp (b:Nat)
 |fn (f:Fn) (first cap:List D)
 |agg (cs:List D)
 |tup (vs:List D)
 |any
 deriving Inhabited
inductive Ob where
 |cells (cs:List D)
 |map (es:List (Value×D×Nat)) (clock:Nat)
 |gone (n:Nat)
 deriving Inhabited
def Ob.sz:Ob->Nat
 |.cells cs=>cs.length
 |.map _ _=>0
 |.gone n=>n
abbrev Heap:=List Ob
inductive VC (Fz:Nat->Prop) (w:World):C->Value->Prop where
 |lit (v:Value):VC Fz w (.lit v) v
 |frz {nn:Bool} {es:List (List C)} (esz:Nat) (a:Option Addr) (cap:Nat) (hnn:nn=true->a.isSome=true) (hz:a=none->cap=0) (c:Nat->Nat->Value) (hsz:∀e∈es,e.length=esz) (hcap:es.length<=cap)
   (hc:∀(i j:Nat) e d,es[i]? = some e->e[j]? = some d->∃blk o,a=some ⟨blk,o,none⟩/\Fz blk/\w.cell? ⟨blk,o+i * esz+j,none⟩=some (c i j)/\(c i j).oneCell'=true)
   (hv:∀(i j:Nat) e d,es[i]? = some e->e[j]? = some d->VC Fz w d (c i j)):VC Fz w (.frz nn es) (.slice a es.length cap)
 |fptr {cs:List C} {off:Nat} (blk o:Nat) (c:Nat->Value) (hF:Fz blk) (hc:∀(j:Nat) d,cs[j]? = some d->w.cell? ⟨blk,o+j,none⟩=some (c j)/\(c j).oneCell'=true)
   (hv:∀(j:Nat) d,cs[j]? = some d->VC Fz w d (c j)):VC Fz w (.fptr cs off) (.pointer (some ⟨blk,o+off,none⟩))
 |fn {f:Fn} {first cap:List C} (vs ws:Array Value) (h1:vs.size=first.length) (h2:ws.size=cap.length)
   (hv:∀(i:Nat) d v,first[i]? = some d->vs[i]? = some v->VC Fz w d v) (hw:∀(i:Nat) d v,cap[i]? = some d->ws[i]? = some v->VC Fz w d v) :
   VC Fz w (.fn f first cap) (.func f vs ws)
 |fmp {es:List (Value×C)} (blk clock:Nat) (arr:Array MapEntry) (hF:Fz blk) (hh:w.heap[blk]? = some (.map arr clock)) (hs:arr.size=es.length)
   (hk:∀(i:Nat) p e,es[i]? = some p->arr[i]? = some e->e.key=p.1) (hv:∀(i:Nat) p e,es[i]? = some p->arr[i]? = some e->VC Fz w p.2 e.val):VC Fz w (.fmp es) (.map (some blk))
 |glo (g:Nat):VC Fz w (.glo g) (.pointer (some ⟨g,0,none⟩))
theorem cell_heap{w w':World}{blk o:Nat}(h:w'.heap[blk]? = w.heap[blk]?):w'.cell? ⟨blk,o,none⟩=w.cell? ⟨blk,o,none⟩:=by unfold World.cell?;simp only[h]
theorem VC.mono{Fz Fz':Nat->Prop}{w w':World}(hF:∀c:Nat,Fz c->Fz' c/\w'.heap[c]? = w.heap[c]?){x:C}{v:Value}(h:VC Fz w x v):VC Fz' w' x v:=by
 induction h with
 |lit v=>exact .lit v
 |frz esz a cap hnn hz c hsz hcap hc hv ih=>refine .frz esz a cap hnn hz c hsz hcap (λi j e d h1 h2=>?_) ih;obtain ⟨blk,o,ha,hf,hcell,h1c⟩:=hc i j e d h1 h2;exact ⟨blk,o,ha,(hF _ hf).1,by rw[cell_heap (hF _ hf).2];exact hcell,h1c⟩
 |fptr blk o c hf hc hv ih=>exact .fptr blk o c (hF _ hf).1 (λj d h=>⟨by rw[cell_heap (hF _ hf).2];exact (hc j d h).1,(hc j d h).2⟩) ih
 |fn vs ws h1 h2 hv hw ih1 ih2=>exact .fn vs ws h1 h2 ih1 ih2
 |fmp blk clock arr hf hh hs hk hv ih=>exact .fmp blk clock arr (hF _ hf).1 (by rw[(hF _ hf).2];exact hh) hs hk ih
 |glo g=>exact .glo g
inductive V (U:Heap) (M:Nat→Option Nat) (Fz:Nat→Prop) (w:World):D→Value→Prop where
 | c {x:C} {v:Value} (h:VC Fz w x v):V U M Fz w (.c x) v
 | any (v:Value):V U M Fz w .any v
 | ptr {b off sz:Nat} (a:Addr) (ob:Ob) (h:U[b]? = some ob) (hle:sz≤ob.sz)
   (hv:ob.sz=sz→∃c,M b=some c∧a=⟨c,off,none⟩):V U M Fz w (.ptr b off sz) (.pointer (some a))
 | sl {b off len esz sz:Nat} (a:Option Addr) (n cap:Nat) (hnn:len≠0→a≠none) (ob:Ob) (h:U[b]? = some ob) (hle:sz≤ob.sz)
   (hv:ob.sz=sz→(a=none∧n=0∧cap=0∧len=0∧off=0∧sz=0)∨∃c o arr T,M b=some c∧a=some ⟨c,o,none⟩∧n=len∧(len≤cap∧sz≤off+cap * esz)∧(o=off∨cap=0) ∧
    w.heap[c]? = some (.cells arr T (0,0))∧o+cap * esz≤arr.size∧off+len * esz≤sz):V U M Fz w (.sl b off len esz sz) (.slice a n cap)
 | mp {b:Nat} (c:Nat) (ob:Ob) (h:U[b]? = some ob) (hv:ob.sz=0→M b=some c):V U M Fz w (.mp b) (.map (some c))
 | fn {f:Fn} {first cap:List D} (vs ws:Array Value) (h1:vs.size=first.length) (h2:ws.size=cap.length)
   (hv:∀(i:Nat) d v,first[i]? = some d→vs[i]? = some v→V U M Fz w d v) (hw:∀(i:Nat) d v,cap[i]? = some d→ws[i]? = some v→V U M Fz w d v) :
   V U M Fz w (.fn f first cap) (.func f vs ws)
 | agg {cs:List D} (vs:Array Value) (h1:vs.size=cs.length) (hv:∀(i:Nat) d v,cs[i]? = some d→vs[i]? = some v→V U M Fz w d v):V U M Fz w (.agg cs) (.agg vs)
 | tup {cs:List D} (vs:Array Value) (h1:vs.size=cs.length) (hv:∀(i:Nat) d v,cs[i]? = some d→vs[i]? = some v→V U M Fz w d v):V U M Fz w (.tup cs) (.tuple vs)
def Births(arr:Array MapEntry)(ck:Nat):Prop:=(arr.toList.map MapEntry.born).Nodup/\∀e∈arr.toList,e.born<ck
theorem Births.nil(ck:Nat):Births #[] ck:=⟨by simp,by simp⟩
theorem Births.push{arr:Array MapEntry}{ck:Nat}(h:Births arr ck)(k v:Value):Births (arr.push { key:=k,val:=v,born:=ck }) (ck+1):=by
 refine ⟨?_,λe he=>?_⟩
 ·rw[Array.toList_push,yB6,List.nodup_append];refine ⟨h.1,by simp,λa ha b hb=>?_⟩;obtain ⟨e,he,rfl⟩:=yA4.1 ha;have:=h.2 e he;simp at hb;omega
 ·rw[Array.toList_push,yAE] at he;rcases he with he | he
  ·have:=h.2 e he;omega
  ·simp at he;subst he;exact yCh _
theorem Births.same{arr arr':Array MapEntry}{ck:Nat}(h:Births arr ck)(e:arr'.toList.map MapEntry.born=arr.toList.map MapEntry.born):Births arr' ck:=by
 refine ⟨by rw[e];exact h.1,λx hx=>?_⟩;have:x.born∈arr.toList.map MapEntry.born:=by rw[<-e];exact yA4.2 ⟨x,hx,rfl⟩
 obtain ⟨y,hy,q⟩:=yA4.1 this;rw[<-q];exact h.2 y hy
theorem Births.sub{arr arr':Array MapEntry}{ck:Nat}(h:Births arr ck)(e:arr'.toList.Sublist arr.toList):Births arr' ck:=
 ⟨h.1.sublist (e.map _),λx hx=>h.2 x (e.subset hx)⟩
def ObRel(U:Heap)(M:Nat->Option Nat)(Fz:Nat->Prop)(w:World):Ob->Obj->Prop
 |.cells cs,o=>∃arr T,o=.cells arr T (0,0)/\cs.length<=arr.size/\∀(i:Nat) d v,cs[i]? = some d->arr[i]? = some v->V U M Fz w d v/\v.oneCell'=true
 |.map es _,o=>∃arr,(∃ck,o=.map arr ck/\Births arr ck)/\arr.size=es.length/\∀(i:Nat) k d n e,es[i]? = some (k,d,n)->arr[i]? = some e->e.key=k/\True/\V U M Fz w d e.val
 |.gone _,_=>False
class Gl where
 ok:(Nat->Prop)->World->Prop
 mono:∀{Fz Fz':Nat->Prop}{w w':World},(∀c:Nat,Fz c->Fz' c/\w'.heap[c]? = w.heap[c]?)->ok Fz w->ok Fz' w'
 tab:Nat->List Value:=λ_=>[]
 tabOk:∀{Fz:Nat->Prop}{w:World}(g j:Nat)(v:Value),ok Fz w->(tab g)[j]? = some v->Fz g/\w.cell? ⟨g,j,none⟩=some v/\v.oneCell'=true:=by intro _ _ g j v _ h;simp at h
structure Rel [Gl] (U:Heap) (M:Nat->Option Nat) (Fz:Nat->Prop) (w:World):Prop where
 blk:∀(b c:Nat),M b=some c->¬Fz c/\∃ob o,U[b]? = some ob/\w.heap[c]? = some o/\ObRel U M Fz w ob o
 inj:∀b b' c,M b=some c->M b'=some c->b=b'
 fz:∀c,Fz c->c<w.heap.size
 gl:Gl.ok Fz w
structure Evo (U:Heap) (M:Nat->Option Nat) (Fz:Nat->Prop) (w:World) (U':Heap) (M':Nat->Option Nat) (Fz':Nat->Prop) (w':World):Prop where
 size:w.heap.size<=w'.heap.size
 frame:∀c:Nat,c<w.heap.size->(∀b,M b≠some c)->w'.heap[c]? = w.heap[c]?
 ran:∀b c,M' b=some c->(∃b0,M b0=some c)∨w.heap.size<=c
 fz:∀c:Nat,Fz c->Fz' c/\w'.heap[c]? = w.heap[c]?
 fz':∀c,Fz' c->Fz c∨(∃b,M b=some c)∨w.heap.size<=c
 shp:∀(c:Nat) arr T fr,w.heap[c]? = some (.cells arr T fr)->∃arr',w'.heap[c]? = some (.cells arr' T fr)/\arr'.size=arr.size
 keep:∀(b:Nat) ob,U[b]? = some ob->∃ob',U'[b]? = some ob'/\ob.sz<=ob'.sz/\(ob'.sz=ob.sz->M' b=M b)
 out:w'.os=w.os/\w'.tape=w.tape/\w'.output=w.output
section
variable{U U' U'':Heap}{M M' M'':Nat->Option Nat}{Fz Fz' Fz'':Nat->Prop}{w w' w'':World}
theorem V.mono(E:Evo U M Fz w U' M' Fz' w'){d:D}{v:Value}(h:V U M Fz w d v):V U' M' Fz' w' d v:=by
 induction h with
 |c h=>exact .c (h.mono E.fz)
 |any v=>exact .any v
 |ptr a ob h hle hv=>obtain ⟨ob',h',hs,hk⟩:=E.keep _ _ h;refine .ptr a ob' h' (by omega) (λhe=>?_);obtain ⟨c,hM,ha⟩:=hv (by omega);exact ⟨c,by rw[hk (by omega)];exact hM,ha⟩
 |sl a n cap hnn ob h hle hv=>
  obtain ⟨ob',h',hs,hk⟩:=E.keep _ _ h;refine .sl a n cap hnn ob' h' (by omega) (λhe=>?_);rcases hv (by omega) with ⟨h1,h2,h3,h4,h5,h6⟩ | ⟨c,o,arr,T,hM,ha,hn,hl,ho,hh,hb,hz⟩
  ·exact .inl ⟨h1,h2,h3,h4,h5,h6⟩
  ·obtain ⟨arr',hh',hsz⟩:=E.shp _ _ _ _ hh;exact .inr ⟨c,o,arr',T,by rw[hk (by omega)];exact hM,ha,hn,hl,ho,hh',by omega,hz⟩
 |mp c ob h hv=>obtain ⟨ob',h',hs,hk⟩:=E.keep _ _ h;exact .mp c ob' h' (λhe=>by rw[hk (by omega)];exact hv (by omega))
 |fn vs ws h1 h2 hv hw ih1 ih2=>exact .fn vs ws h1 h2 ih1 ih2
 |agg vs h1 hv ih=>exact .agg vs h1 ih
 |tup vs h1 hv ih=>exact .tup vs h1 ih
variable[Gl] in
theorem Evo.refl(R:Rel U M Fz w):Evo U M Fz w U M Fz w:={
 size:=yAo _
 frame:=λ_ _ _=>rfl
 ran:=λb c h=>.inl ⟨b,h⟩
 fz:=λc h=>⟨h,rfl⟩
 fz':=λc h=>.inl h
 shp:=λc arr T fr h=>⟨arr,h,rfl⟩
 keep:=λb ob h=>⟨ob,h,yAo _,λ_=>rfl⟩
 out:=⟨rfl,rfl,rfl⟩ }
theorem Evo.trans(A:Evo U M Fz w U' M' Fz' w')(B:Evo U' M' Fz' w' U'' M'' Fz'' w'')(hl:U.length<=U'.length):Evo U M Fz w U'' M'' Fz'' w'':={
 size:=yAA A.size B.size
 frame:=λc hc hM=>by
  rw[<-A.frame c hc hM];refine B.frame c (yAH hc A.size) (λb hb=>?_);rcases A.ran b c hb with ⟨b0,h0⟩ | h0
  ·exact hM b0 h0
  ·omega
 ran:=λb c h=>by
  rcases B.ran b c h with ⟨b0,h0⟩ | h0
  ·exact A.ran b0 c h0
  ·exact .inr (yAA A.size h0)
 fz:=λc h=>by obtain ⟨h1,h2⟩:=A.fz c h;obtain ⟨h3,h4⟩:=B.fz c h1;exact ⟨h3,by rw[h4,h2]⟩
 fz':=λc h=>by
  rcases B.fz' c h with h | ⟨b,h⟩ | h
  ·exact A.fz' c h
  ·rcases A.ran b c h with ⟨b0,h0⟩ | h0
   ·exact .inr (.inl ⟨b0,h0⟩)
   ·exact .inr (.inr h0)
  ·exact .inr (.inr (yAA A.size h))
 shp:=λc arr T fr h=>by obtain ⟨a1,h1,e1⟩:=A.shp c arr T fr h;obtain ⟨a2,h2,e2⟩:=B.shp c a1 T fr h1;exact ⟨a2,h2,by rw[e2,e1]⟩
 keep:=λb ob h=>by obtain ⟨o1,h1,s1,k1⟩:=A.keep b ob h;obtain ⟨o2,h2,s2,k2⟩:=B.keep b o1 h1;refine ⟨o2,h2,by omega,λhe=>?_⟩;rw[k2 (by omega),k1 (by omega)]
 out:=⟨B.out.1.trans A.out.1,B.out.2.1.trans A.out.2.1,B.out.2.2.trans A.out.2.2⟩ }
theorem ObRel.mono(E:Evo U M Fz w U' M' Fz' w'){ob:Ob}{o:Obj}(h:ObRel U M Fz w ob o):ObRel U' M' Fz' w' ob o:=by
 cases ob with
 |cells cs=>obtain ⟨arr,T,ho,hl,hv⟩:=h;exact ⟨arr,T,ho,hl,λi d v h1 h2=>⟨(hv i d v h1 h2).1.mono E,(hv i d v h1 h2).2⟩⟩
 |map es clock=>obtain ⟨arr,ho,hl,hv⟩:=h;exact ⟨arr,ho,hl,λi k d n e h1 h2=>let ⟨a,b,c⟩:=hv i k d n e h1 h2;⟨a,b,c.mono E⟩⟩
 |gone n=>exact h.elim
end
end Go.Abs
end
section
namespace Go.Abs
variable[Gl]
def zaH{α:Type}(P:Program):Sem α->Option α
 |.pure a=>some a
 |.program k=>zaH P (k P)
 |_=>none
theorem pureIn_run{α:Type}{P:Program}{s:Sem α}{a:α}(w:World)(h:zaH P s=some a):s.run P w=.ok a w:=by
 induction s with
 |pure b=>simp only[zaH,yAa] at h;subst h;rfl
 |program k ih=>simp only[zaH] at h;exact ih P h
 |_=>simp[zaH] at h
inductive Opd where
 |t (n:Nat)
 |k (d:D)
 deriving Inhabited
def ofVal:Value->D
 |.agg vs=>.agg (vs.toList.map λv=>.c (.lit v))
 |.tuple vs=>.tup (vs.toList.map λv=>.c (.lit v))
 |v=>.c (.lit v)
def Opd.ev(env:List D):Opd->D
 |.t n=>(env[n]?).getD (.tup [])
 |.k d=>d
def opd:Operand->Option Opd
 |.tmp t=>some (.t t)
 |.const v=>some (.k (ofVal v))
 |.func f=>some (.k (.c (.fn (.func f) [] [])))
 |.global g=>some (.k (.c (.glo g)))
def litOf:D->Option Value
 |.c (.lit v)=>some v
 |_=>none
def D.val?:D->Option Value
 |.c (.lit v)=>some v
 |.agg ds=>(ds.mapM litOf).map λl=>.agg l.toArray
 |_=>none
def D.scalar:D->Bool
 |.c (.lit v)=>v.oneCell'
 |.c _ | .ptr .. | .sl .. | .mp _ | .fn ..=>true
 |_=>false
def D.cells?:D->Option (List D)
 |.agg cs=>if cs.all D.scalar then some cs else none
 |d=>if d.scalar then some [d] else none
inductive AOp where
 |mov (x:Opd)
 |pick (c a b:Opd)
 |gen (op:Op) (ty:TypeId)
 |box (x:Opd)
 |alloc (z:List D)
 |build (z:List D) (parts:List (Nat×Nat×Opd))
 |bslice (esz len:Nat) (z:List D) (parts:List (Nat×Nat×Opd))
 |load (n:Option Nat) (a:Opd)
 |store (n:Nat) (a x:Opd)
 |nilck (x:Opd)
 |isnil (k:Nat) (neg:Bool) (x:Opd)
 |fld (off:Nat) (x:Opd)
 |idx (esz:Nat) (arr:Option Nat) (x i:Opd)
 |slc (esz:Nat) (x:Opd) (lo hi:Option Opd)
 |len (x:Opd)
 |lenm (x:Opd)
 |mk (esz bytes:Nat) (z:List D) (l c:Opd)
 |mkmap
 |lookup (kind:TypeDesc) (zero:D) (m k:Opd) (ok:Bool)
 |upd (kind:TypeDesc) (m k x:Opd)
 |extract (x:Opd) (i:Nat)
 |mkfn (f:Fn) (first cap:List Opd)
 |part (off:Nat) (n:Option Nat) (x:Opd)
 |aidx (esz len:Nat) (n:Option Nat) (x i:Opd)
 |append (esz bytes:Nat) (s x:Opd)
 |copy (esz:Nat) (d s:Opd)
 |del (kind:TypeDesc) (m k:Opd)
 |slc3 (esz:Nat) (x lo hi mx:Opd)
 |clr (esz:Nat) (z:List D) (x:Opd)
 |call (f:Opd) (args:List Opd)
 deriving Inhabited
def opds(xs:Array Operand):Option (List Opd):=xs.toList.mapM opd
def opdO:Option Operand->Option (Option Opd)
 |none=>some none
 |some x=>(opd x).map some
def aggN(P:Program)(t:TypeId):Option (Option Nat):=
 match P.info? t,P.underlying t with
 |some i,some (.struct _)=>some (some i.size)
 |some i,some (.array _ _)=>some (some i.size)
 |some _,some _=>some none
 |_,_=>none
def zeroOf(P:Program)(t:TypeId):Option D:=
 match P.info? t with
 |some i=>i.zero.map ofVal
 |none=>none
def zbu(P:Program)(t:TypeId):Option (List D):=(zeroOf P t).bind D.cells?
def sizeOf?(P:Program)(t:TypeId):Option Nat:=(P.info? t).map (·.size)
def places(P:Program)(fs:Array Field):Option (List (Nat×Nat)):=fs.toList.mapM λf=>(sizeOf? P f.type).map λn=>(f.offset,n)
def nilKind:TypeDesc->Option Nat
 |.pointer _=>some 0
 |.map _ _=>some 1
 |.func ..=>some 2
 |.slice _=>some 3
 |_=>none
def isNilConst(k:Nat):Operand->Bool
 |.const (.pointer none)=>k == 0
 |.const (.map none)=>k == 1
 |.const .nilFunc=>k == 2
 |.const (.slice none 0 0)=>k == 3
 |_=>false
def compNil(k:Nat)(neg:Bool)(x y:Operand):Option AOp:=
 if isNilConst k y then (opd x).map (.isnil k neg) else if isNilConst k x then (opd y).map (.isnil k neg) else none
def isNil:Nat->D->Option Bool
 |0,.ptr ..=>some false
 |0,.c (.fptr ..)=>some false
 |0,.c (.lit (.pointer none))=>some true
 |1,.mp _=>some false
 |1,.c (.fmp _)=>some false
 |1,.c (.lit (.map none))=>some true
 |2,.fn ..=>some false
 |2,.c (.fn ..)=>some false
 |2,.c (.lit .nilFunc)=>some true
 |3,.sl _ _ (_+1) _ _=>some false
 |3,.c (.frz true _)=>some false
 |3,.c (.lit (.slice none 0 0))=>some true
 |_,_=>none
def zee:TypeDesc->Bool
 |.int _=>true
 |_=>false
def zb5(P:Program)(op:Op)(ty:TypeId):Option AOp:=
 match op with
 |.move x | .assign x=>(opd x).map .mov
 |.pick c a b=>do some (.pick (<-opd c) (<-opd a) (<-opd b))
 |.alloc t=>(zbu P t).map .alloc
 |.box _ x=>(opd x).map .box
 |.build t parts => do
  let z <-zbu P t
  match <-P.underlying t with
  |.struct fs => do
   let ps <-places P fs
   some (.build z (<-parts.toList.mapM λ(i,x)=>do let (o,n) <-ps[i]?;some (o,n,<-opd x)))
  |.array _ e => do
   let n <-sizeOf? P e
   some (.build z (<-parts.toList.mapM λ(i,x)=>do some (i * n,n,<-opd x)))
  |_=>none
 |.buildSlice t len parts => do
  match <-P.underlying t with
  |.slice e => do
   let n <-sizeOf? P e
   let z <-zbu P e
   if n=0∨z.length≠n∨len * n > 2 ^ 20 then none else
   some (.bslice n len z (<-parts.toList.mapM λ(i,x)=>do some (i * n,n,<-opd x)))
  |_=>none
 |.load t a=>do some (.load (<-aggN P t) (<-opd a))
 |.store t a x=>do some (.store (<-sizeOf? P t) (<-opd a) (<-opd x))
 |.nilCheck x=>(opd x).map .nilck
 |.binOp o t x y _=>
  match (P.underlying t).bind nilKind with
  |some k=>
   match o with
   |.eql=>compNil k false x y
   |.neq=>compNil k true x y
   |_=>none
  |none=>some (.gen op ty)
 |.unOp ..=>some (.gen op ty)
 |.convert ..=>some (.gen op ty)
 |.makeFunc f first cap=>do some (.mkfn f (<-opds first) (<-opds cap))
 |.makeMap _ none=>some .mkmap
 |.makeSlice t l c => do
  match <-P.underlying t with
  |.slice e => do
   let n <-sizeOf? P e
   let z <-zbu P e
   let i <-P.info? e
   if n=0∨z.length≠n then none else some (.mk n i.bytes z (<-opd l) (<-opd c))
  |_=>none
 |.slice t x lo hi none => do
  match <-P.underlying t with
  |.slice e=>do some (.slc (<-sizeOf? P e) (<-opd x) (<-opdO lo) (<-opdO hi))
  |.string=>some (.gen op ty)
  |_=>none
 |.slice t x (some lo) (some hi) (some mx) => do
  match <-P.underlying t with
  |.slice e=>do some (.slc3 (<-sizeOf? P e) (<-opd x) (<-opd lo) (<-opd hi) (<-opd mx))
  |_=>none
 |.fieldAddr s x f => do
  match <-P.underlying s with
  |.struct fs => do
   let fd <-fs[f]?
   let n <-sizeOf? P fd.type
   if n=0 then none else some (.fld fd.offset (<-opd x))
  |_=>none
 |.field t x f => do
  match <-P.underlying t with
  |.struct fs => do
   let fd <-fs[f]?
   some (.part fd.offset (<-aggN P fd.type) (<-opd x))
  |_=>none
 |.indexAddr t x i => do
  match <-P.underlying t with
  |.slice e => do
   let n <-sizeOf? P e
   if n=0 then none else some (.idx n none (<-opd x) (<-opd i))
  |.array len e => do
   let n <-sizeOf? P e
   if n=0 then none else some (.idx n (some len) (<-opd x) (<-opd i))
  |_=>none
 |.index t x i => do
  match <-P.underlying t with
  |.array len e=>do some (.aidx (<-sizeOf? P e) len (<-aggN P e) (<-opd x) (<-opd i))
  |.string=>some (.gen op ty)
  |_=>none
 |.lookup t m k ok => do
  match <-P.underlying t with
  |.map kt e => do
   let kd <-P.underlying kt
   if zee kd then some (.lookup kd (<-zeroOf P e) (<-opd m) (<-opd k) ok) else none
  |_=>none
 |.mapUpdate t m k x => do
  match <-P.underlying t with
  |.map kt _ => do
   let kd <-P.underlying kt
   if zee kd then some (.upd kd (<-opd m) (<-opd k) (<-opd x)) else none
  |_=>none
 |.extract x i=>do some (.extract (<-opd x) i)
 |.call { callee:=.value f,args,.. }=>do some (.call (<-opd f) (<-opds args))
 |.call { callee := .builtin .len, args, argTypes } => do
  let t <-argTypes[0]?
  let x <-args[0]?
  if args.size≠1 then none else
  match <-P.underlying t with
  |.slice _=>(opd x).map .len
  |.map _ _=>(opd x).map .lenm
  |.array n _=>some (.mov (.k (.c (.lit (.int .i64 n)))))
  |.string=>some (.gen op ty)
  |_=>none
 |.call { callee := .builtin .append, args, argTypes } => do
  let t <-argTypes[0]?
  let t1 <-argTypes[1]?
  let s <-args[0]?
  let x <-args[1]?
  match <-P.underlying t,<-P.underlying t1 with
  |.slice e, .slice _ => do
   let n <-sizeOf? P e
   let i <-P.info? e
   let z <-zbu P e
   if n=0∨z.length≠n then none else some (.append n i.bytes (<-opd s) (<-opd x))
  |_,_=>none
 |.call { callee := .builtin .copy, args, argTypes } => do
  let t <-argTypes[0]?
  let s <-args[0]?
  let x <-args[1]?
  match <-P.underlying t with
  |.slice e => do
   let n <-sizeOf? P e
   if n=0 then none else some (.copy n (<-opd s) (<-opd x))
  |_=>none
 |.call { callee := .builtin .delete, args, argTypes } => do
  let t <-argTypes[0]?
  let m <-args[0]?
  let k <-args[1]?
  match <-P.underlying t with
  |.map kt _ => do
   let kd <-P.underlying kt
   if zee kd then some (.del kd (<-opd m) (<-opd k)) else none
  |_=>none
 |.call { callee := .builtin .clear, args, argTypes } => do
  let t <-argTypes[0]?
  let x <-args[0]?
  match <-P.underlying t with
  |.slice e => do
   let n <-sizeOf? P e
   let z <-zbu P e
   if n=0∨z.length≠n then none else some (.clr n z (<-opd x))
  |_=>none
 |.call { callee:=.builtin .min,.. } | .call { callee:=.builtin .max,.. } | .call { callee:=.builtin .complex,.. }
 |.call { callee:=.builtin .real,.. } | .call { callee:=.builtin .imag,.. }=>some (.gen op ty)
 |_=>none
def isCall:AOp->Bool
 |.call ..=>true
 |_=>false
def isSel:AOp->Bool
 |.gen (.select ..) _=>true
 |_=>false
def cat:AOp->Nat
 |.mov .. | .pick .. | .gen .. | .build .. | .nilck .. | .isnil .. | .fld .. | .idx .. | .slc .. | .slc3 .. | .len .. | .extract .. | .mkfn .. | .part .. | .aidx ..=>0
 |.load ..=>1
 |.alloc .. | .box .. | .bslice .. | .mk .. | .mkmap=>2
 |_=>3
def comp(P:Program)(op:Op)(ty:TypeId):Option AOp:=
 match op with
 |.call { callee := .value f, args, .. }=>
  match opd f,opds args with
  |some of,some os=>some (.call of os)
  |_,_=>none
 |_=>
  match zb5 P op ty with
  |some ao=>if isCall ao || isSel ao then none else some ao
  |none=>none
def renum:Nat->List (Value×D×Nat)->List (Value×D×Nat)
 |_,[]=>[]
 |i,(k,d,_)::l=>(k,d,i)::renum (i+1) l
abbrev Orc:=FuncId->List D->Heap->Option (D×Heap×List Nat)
def zbJ:D->Option Int
 |.c (.lit (.int _ n))=>some n
 |_=>none
def litBool:D->Option Bool
 |.c (.lit (.bool b))=>some b
 |_=>none
def genEv(P:Program)(op:Op)(ty:TypeId)(env:List D):Option D:=
 if op.operands.toList.all (λx=>(((opd x).map (Opd.ev env)).bind D.val?).isSome) then
  match zaH P (execOp (λx=>((((opd x).map (Opd.ev env)).bind D.val?).getD undef)) { dst:=none,op:=op,type:=ty,pos:="",after:=#[],guard:=none }) with
  |some (.value v)=>some (ofVal v)
  |_=>none
 else none
def put(cs:List D)(off:Nat)(xs:List D):List D:=cs.take off++xs++cs.drop (off+xs.length)
def fillD(env:List D):List D->List (Nat×Nat×Opd)->Option (List D)
 |cs,[]=>some cs
 |cs, (o, n, x) :: rest => do
  let xs <-(x.ev env).cells?
  if xs.length≠n∨o+n > cs.length then none else fillD env (put cs o xs) rest
def zci(U:Heap)(b sz:Nat):Option (List D):=
 match U[b]? with
 |some (.cells cs)=>if cs.length=sz then some cs else none
 |_=>none
def zaT(n:Option Nat)(cs:List D)(off:Nat):Option D:=
 match n with
 |none=>cs[off]?
 |some n=>if off+n<=cs.length then some (.agg ((cs.drop off).take n)) else none
def zdu(n:Nat)(z:List D):List D:=(List.replicate n z).flatten
def zbT(U:Heap):D->Option Nat
 |.c (.lit (.slice none 0 0))=>some 0
 |.c (.frz _ es)=>some es.length
 |.sl b _ len _ sz=>if (zci U b sz).isSome then some len else none
 |_=>none
def zcL(U:Heap)(esz:Nat)(n:Nat):D->Option (List D)
 |.c (.lit (.slice none 0 0))=>if n=0 then some [] else none
 |.c (.frz _ es)=>if n<=es.length/\es.all (λe=>e.length=esz) then some ((es.take n).flatten.map .c) else none
 |.sl b off len es sz => do
  let cs <-zci U b sz
  if es=esz/\n<=len/\off+len * esz<=sz then some ((cs.drop off).take (n * esz)) else none
 |_=>none
def findK(kind:TypeDesc)(k:Value):List (Value×D×Nat)->Nat->Option (Option (Nat×D))
 |[],_=>some none
 |(k', d, _) :: es, i=>
  match Instr.sameNow kind k k' with
  |some true=>some (some (i,d))
  |some false=>findK kind k es (i+1)
  |none=>none
def mapEs(U:Heap):D->Option (List (Value×D×Nat))
 |.c (.lit (.map none))=>some []
 |.c (.fmp es)=>some (es.map λp=>(p.1,.c p.2,0))
 |.mp b => match U[b]? with
  |some (.map es _)=>some es
  |_=>none
 |_=>none
def hit(zero:D):Option (Nat×D)->D×Bool
 |some (_,d)=>(d,true)
 |none=>(zero,false)
def inR(i:Int)(n:Nat):Option Nat:=if 0<=i/\i<n then some i.toNat else none
def inB(i:Int)(n:Nat):Option Nat:=if 0<=i/\i<=n then some i.toNat else none
def zaC(env:List D)(dflt most:Nat):Option Opd->Option Nat
 |none=>some dflt
 |some x=>(zbJ (x.ev env)).bind λi=>inB i most
def zdX(n bytes:Nat):Bool:=(n * bytes<=2 ^ 40&&n<=2 ^ 40)&&bytes<=2 ^ 20
def zaB(P:Program)(orc:Orc)(o:AOp)(env:List D)(U:Heap):Option (D×Heap×List Nat):=
 match o with
 |.mov x=>some (x.ev env,U,[])
 |.pick c a b=>(litBool (c.ev env)).map λt=>(if t then a.ev env else b.ev env,U,[])
 |.gen op ty=>(genEv P op ty env).map λd=>(d,U,[])
 |.box x=>((x.ev env).cells?).map λcs=>(.ptr U.length 0 cs.length,U++[.cells cs],[])
 |.alloc z=>some (.ptr U.length 0 z.length,U++[.cells z],[])
 |.build z ps=>(fillD env z ps).map λcs=>(.agg cs,U,[])
 |.bslice esz len z ps=>(fillD env (zdu len z) ps).map λcs=>(.sl U.length 0 len esz cs.length,U++[.cells cs],[])
 |.load n a=>
  match a.ev env with
  |.ptr b off sz=>do some (<-zaT n (<-zci U b sz) off,U,[])
  |.c (.fptr cs off)=>do some (<-zaT n (cs.map .c) off,U,[])
  |_=>none
 |.store n a x=>
  match a.ev env with
  |.ptr b off sz => do
   let cs <-zci U b sz
   let xs <-(x.ev env).cells?
   if xs.length=n/\off+n<=sz then some (.tup [],U.set b (.cells (put cs off xs)),[b]) else none
  |_=>none
 |.nilck x=>
  match x.ev env with
  |.ptr b off sz=>some (.ptr b off sz,U,[])
  |.c (.fptr cs off)=>some (.c (.fptr cs off),U,[])
  |.c (.fn (.func f) first cap)=>some (.c (.fn (.func f) first cap),U,[])
  |.fn (.func f) first cap=>some (.fn (.func f) first cap,U,[])
  |_=>none
 |.isnil k neg x=>(isNil k (x.ev env)).map λb=>(.c (.lit (.bool (if neg then !b else b))),U,[])
 |.fld off x=>
  match x.ev env with
  |.ptr b o sz=>some (.ptr b (o+off) sz,U,[])
  |.c (.fptr cs o)=>some (.c (.fptr cs (o+off)),U,[])
  |_=>none
 |.idx esz none x i => do
  let i <-zbJ (i.ev env)
  match x.ev env with
  |.sl b off len es sz => do
   let _ <-zci U b sz
   let k <-inR i len
   if es=esz then some (.ptr b (off+k * esz) sz,U,[]) else none
  |.c (.frz _ es) => do
   let k <-inR i es.length
   let e <-es[k]?
   if e.length=esz then some (.c (.fptr e 0),U,[]) else none
  |_=>none
 |.idx esz (some len) x i => do
  let i <-zbJ (i.ev env)
  let k <-inR i len
  match x.ev env with
  |.ptr b off sz=>some (.ptr b (off+k * esz) sz,U,[])
  |.c (.fptr cs off)=>some (.c (.fptr cs (off+k * esz)),U,[])
  |.c (.glo g) => match Gl.tab g with
   |[]=>none
   |v::vs=>some (.c (.fptr ((v::vs).map .lit) (k * esz)),U,[])
  |_=>none
 |.slc esz x lo hi=>
  match x.ev env with
  |.c (.lit (.slice none 0 0)) => do
   let h <-zaC env 0 0 hi
   let _ <-zaC env 0 h lo
   some (.c (.lit (.slice none 0 0)),U,[])
  |.c (.frz nn es) => do
   let h <-zaC env es.length es.length hi
   let l <-zaC env 0 h lo
   if es.all (λe=>e.length=esz) then some (.c (.frz nn ((es.take h).drop l)),U,[]) else none
  |.sl b off len es sz => do
   let _ <-zci U b sz
   let h <-(zaC env len len hi).orElse λ_=>zaC env len ((sz-off) / es) hi
   let l <-zaC env 0 h lo
   if es=esz then some (.sl b (off+l * esz) (h-l) esz sz,U,[]) else none
  |_=>none
 |.len x=>(zbT U (x.ev env)).map λ(n:Nat)=>(.c (.lit (.int .i64 (Int.ofNat n))),U,[])
 |.lenm x=>(mapEs U (x.ev env)).map λes=>(.c (.lit (.int .i64 (Int.ofNat es.length))),U,[])
 |.mk esz bytes z l c => do
  let l <-zbJ (l.ev env)
  let c <-zbJ (c.ev env)
  if 0<=l/\l<=c/\zdX c.toNat bytes then some (.sl U.length 0 l.toNat esz (l.toNat * esz),U++[.cells (zdu l.toNat z)],[]) else none
 |.mkmap=>some (.mp U.length,U++[.map [] 0],[])
 |.lookup kind zero m k ok => do
  let kv <-litOf (k.ev env)
  let es <-mapEs U (m.ev env)
  let r <-findK kind kv es 0
  some (if ok then .tup [(hit zero r).1,.c (.lit (.bool (hit zero r).2))] else (hit zero r).1,U,[])
 |.upd kind m k x => do
  let kv <-litOf (k.ev env)
  match m.ev env with
  |.mp b => match U[b]? with
   |some (.map es clock) => do
    match <-findK kind kv es 0 with
    |some (i,_)=>some (.tup [],U.set b (.map (es.modify i λ(k,_,n)=>(k,x.ev env,n)) clock),[b])
    |none=>some (.tup [],U.set b (.map (es++[(kv,x.ev env,clock)]) (clock+1)),[b])
   |_=>none
  |_=>none
 |.del kind m k => do
  let kv <-litOf (k.ev env)
  match m.ev env with
  |.mp b => match U[b]? with
   |some (.map es clock) => do
    match <-findK kind kv es 0 with
    |some (i,_)=>some (.tup [],U.set b (.map (renum 0 (es.eraseIdx i)) (clock-1)),[b])
    |none=>some (.tup [],U.set b (.map es clock),[b])
   |_=>none
  |_=>none
 |.extract x i=>
  match x.ev env with
  |.tup ds=>(ds[i]?).map λd=>(d,U,[])
  |_=>none
 |.mkfn f first cap=>some (.fn f (first.map (Opd.ev env)) (cap.map (Opd.ev env)),U,[])
 |.part off n x=>
  match x.ev env with
  |.agg cs=>(zaT n cs off).map λd=>(d,U,[])
  |_=>none
 |.aidx esz len n x i => do
  let i <-zbJ (i.ev env)
  let k <-inR i len
  match x.ev env with
  |.agg cs=>(zaT n cs (k * esz)).map λd=>(d,U,[])
  |_=>none
 |.append esz bytes s x => do
  let xd:=x.ev env
  let n <-zbT U xd
  let new <-zcL U esz n xd
  match s.ev env with
  |.c (.lit (.slice none 0 0))=>if zdX n bytes then some (.sl U.length 0 n esz (n * esz),U++[.cells new],[]) else none
  |.sl b off len es sz => do
   let cs <-zci U b sz
   if es=esz/\off=0/\len * esz=sz/\zdX (len+n) bytes then
    if n=0 then some (.sl b 0 len esz sz,U,[b])
    else some (.sl b 0 (len+n) esz (sz+n * esz),U.set b (.cells (cs++new)),[b])
   else if es=esz/\off=0/\(len+n) * esz<=sz/\zdX (len+n) bytes then
    if n=0 then some (.sl b 0 len esz sz,U,[b])
    else some (.sl b 0 (len+n) esz sz,U.set b (.cells (put cs (len * esz) new)),[b])
   else none
  |_=>none
 |.slc3 esz x lo hi mx=>
  match x.ev env with
  |.sl b _ len es sz => do
   let _ <-zci U b sz
   let m <-(zbJ (mx.ev env)).bind λi=>inB i len
   let h <-(zbJ (hi.ev env)).bind λi=>inB i len
   let _ <-(zbJ (lo.ev env)).bind λi=>inB i h
   if m=len/\es=esz then some (.any,U,[]) else none
  |_=>none
 |.clr esz z x=>
  match x.ev env with
  |.sl b off len es sz => do
   let cs <-zci U b sz
   if es=esz/\off+len * esz<=sz/\z.length=esz then some (.tup [],U.set b (.cells (put cs off (zdu len z))),[b]) else none
  |_=>none
 |.copy esz d s => do
  let sd:=s.ev env
  match d.ev env with
  |.sl b off len es sz => do
   let cs <-zci U b sz
   let n <-(zbT U sd).map λm=>min m len
   let new <-zcL U esz n sd
   if es=esz/\off+len * esz<=sz then some (.c (.lit (.int .i64 n)),U.set b (.cells (put cs off new)),[b]) else none
  |_=>none
 |.call f args=>
  match f.ev env with
  |.c (.fn (.func g) first cap)=>orc g (first.map .c++args.map (Opd.ev env)++cap.map .c) U
  |.fn (.func g) first cap=>orc g (first++args.map (Opd.ev env)++cap) U
  |_=>none
end Go.Abs
end
section
namespace Go.Abs
variable[Gl]
section
variable{U U':Heap}{M M':Nat->Option Nat}{Fz Fz':Nat->Prop}{w w':World}
theorem Rel.lt(R:Rel U M Fz w){b c:Nat}(h:M b=some c):b<U.length/\c<w.heap.size:=by obtain ⟨_,ob,o,h1,h2,_⟩:=R.blk b c h;exact ⟨(yAb.1 h1).1,(yAv.1 h2).1⟩
theorem VC.heap(hh:w'.heap=w.heap){x:C}{v:Value}(h:VC Fz w x v):VC Fz w' x v:=h.mono λc hc=>⟨hc,by rw[hh]⟩
theorem Evo.heap(R:Rel U M Fz w)(hh:w'.heap=w.heap)(ho:w'.os=w.os/\w'.tape=w.tape/\w'.output=w.output):Evo U M Fz w U M Fz w':={
 size:=by rw[hh];exact yAo _
 frame:=λ_ _ _=>by rw[hh]
 ran:=λb c h=>.inl ⟨b,h⟩
 fz:=λc h=>⟨h,by rw[hh]⟩
 fz':=λc h=>.inl h
 shp:=λc arr T fr h=>⟨arr,by rw[hh];exact h,rfl⟩
 keep:=λb ob h=>⟨ob,h,yAo _,λ_=>rfl⟩
 out:=ho }
theorem Rel.heap(R:Rel U M Fz w)(hh:w'.heap=w.heap)(ho:w'.os=w.os/\w'.tape=w.tape/\w'.output=w.output):Rel U M Fz w':={
 blk:=λb c h=>by obtain ⟨hf,ob,o,h1,h2,h3⟩:=R.blk b c h;exact ⟨hf,ob,o,h1,by rw[hh];exact h2,h3.mono (Evo.heap R hh ho)⟩
 inj:=R.inj
 fz:=λc h=>by rw[hh];exact R.fz c h
 gl:=Gl.mono (Evo.heap R hh ho).fz R.gl }
def upM(M:Nat->Option Nat)(b c:Nat):Nat->Option Nat:=λx=>if x=b then some c else M x
theorem Evo.alloc(hfz:∀c,Fz c->c<w.heap.size)(ob:Ob)(o:Obj):Evo U M Fz w (U++[ob]) (upM M U.length w.heap.size) Fz (w.alloc o):={
 size:=by simp
 frame:=λc hc _=>heap_alloc_old w o c hc
 ran:=λb c h=>by
  unfold upM at h;split at h
  ·simp only[yAa] at h;exact .inr (by omega)
  ·exact .inl ⟨b,h⟩
 fz:=λc h=>⟨h,heap_alloc_old w o c (hfz c h)⟩
 fz':=λc h=>.inl h
 shp:=λc arr T fr h=>⟨arr,by rw[heap_alloc_old w o c (yAv.1 h).1];exact h,rfl⟩
 keep:=λb ob' h=>by have hb:=(yAb.1 h).1;refine ⟨ob',by rw[yAr hb];exact h,yAo _,λ_=>?_⟩;unfold upM;rw[if_neg (by omega)]
 out:=⟨rfl,rfl,rfl⟩ }
theorem Rel.alloc(R:Rel U M Fz w)(ob:Ob)(o:Obj)(h:ObRel (U++[ob]) (upM M U.length w.heap.size) Fz (w.alloc o) ob o) :
  Rel (U++[ob]) (upM M U.length w.heap.size) Fz (w.alloc o):={
 blk:=λb c hM=>by
  unfold upM at hM;split at hM
  ·rename_i hb;subst hb;simp only[yAa] at hM;subst hM;exact ⟨λhf=>by have:=R.fz _ hf;omega,ob,o,by simp,heap_alloc_new w o,h⟩
  ·obtain ⟨hf,ob',o',h1,h2,h3⟩:=R.blk b c hM;have hl:=R.lt hM;exact ⟨hf,ob',o',by rw[yAr hl.1];exact h1,by rw[heap_alloc_old w o c hl.2];exact h2,h3.mono (Evo.alloc R.fz ob o)⟩
 inj:=λb b' c h h'=>by
  unfold upM at h h';split at h <;> split at h'
  ·omega
  ·simp only[yAa] at h;have:=(R.lt h').2;omega
  ·simp only[yAa] at h';have:=(R.lt h).2;omega
  ·exact R.inj b b' c h h'
 fz:=λc h=>by have:=R.fz c h;simp;omega
 gl:=Gl.mono (Evo.alloc (U:=U) (M:=M) R.fz ob o).fz R.gl }
def setO(w:World)(c:Nat)(o:Obj):World:={ w with heap:=w.heap.setIfInBounds c o }
theorem setO_same{c:Nat}{o:Obj}(h:c<w.heap.size):(setO w c o).heap[c]? = some o:=by simp[setO,h]
theorem setO_other{c k:Nat}{o:Obj}(h:k≠c):(setO w c o).heap[k]? = w.heap[k]?:=by simp only[setO];rw[Array.getElem?_setIfInBounds_ne (by omega)]
@[simp] theorem setO_size{c:Nat}{o:Obj}:(setO w c o).heap.size=w.heap.size:=by simp[setO]
theorem Evo.upd(R:Rel U M Fz w){b c:Nat}(hM:M b=some c){ob ob':Ob}{o o':Obj}(hb:U[b]? = some ob)(hc:w.heap[c]? = some o)(hs:ob.sz<=ob'.sz)
  (hshp:∀arr T fr,o=.cells arr T fr->∃arr',o'=.cells arr' T fr/\arr'.size=arr.size):Evo U M Fz w (U.set b ob') M Fz (setO w c o'):={
 size:=by simp
 frame:=λk hk hn=>setO_other (λh=>hn b (by rw[hM,h]))
 ran:=λb c h=>.inl ⟨b,h⟩
 fz:=λk h=>⟨h,setO_other (λe=>(R.blk b c hM).1 (e▸h))⟩
 fz':=λc h=>.inl h
 shp:=λk arr T fr h=>by
  by_cases e:k=c
  ·subst e;obtain ⟨arr',h1,h2⟩:=hshp arr T fr (by rw[hc] at h;simpa using h);exact ⟨arr',by rw[setO_same (R.lt hM).2,h1],h2⟩
  ·exact ⟨arr,by rw[setO_other e];exact h,rfl⟩
 keep:=λk ob'' h=>by
  by_cases e:k=b
  ·subst e;have hl:=(yAb.1 h).1;have:ob=ob'':=by rw[hb] at h;simpa using h
   subst this;exact ⟨ob',by simp[yAK,hl],hs,λ_=>rfl⟩
  ·exact ⟨ob'',by rw[yAD (by omega)];exact h,yAo _,λ_=>rfl⟩
 out:=⟨rfl,rfl,rfl⟩ }
theorem Rel.upd(R:Rel U M Fz w){b c:Nat}(hM:M b=some c){ob ob':Ob}{o o':Obj}(hb:U[b]? = some ob)(hc:w.heap[c]? = some o)(hs:ob.sz<=ob'.sz)
  (hshp:∀arr T fr,o=.cells arr T fr->∃arr',o'=.cells arr' T fr/\arr'.size=arr.size)
  (h:ObRel (U.set b ob') M Fz (setO w c o') ob' o'):Rel (U.set b ob') M Fz (setO w c o'):={
 blk:=λb1 c1 h1=>by
  obtain ⟨hf,ob1,o1,h2,h3,h4⟩:=R.blk b1 c1 h1;by_cases e:b1=b
  ·subst e;have:c1=c:=by rw[hM] at h1;simpa using h1.symm
   subst this;exact ⟨hf,ob',o',by simp[yAK,(R.lt hM).1],setO_same (R.lt hM).2,h⟩
  ·refine ⟨hf,ob1,o1,by rw[yAD (by omega)];exact h2,?_,h4.mono (Evo.upd R hM hb hc hs hshp)⟩;rw[setO_other (λe2:c1=c=>e (R.inj b1 b c (by rw[h1,e2]) hM))];exact h3
 inj:=R.inj
 fz:=λc h=>by simp;exact R.fz c h
 gl:=Gl.mono (Evo.upd R hM hb hc hs hshp).fz R.gl }
theorem Evo.move(R:Rel U M Fz w){b:Nat}{ob ob':Ob}{o':Obj}(hb:U[b]? = some ob)(hs:ob.sz<ob'.sz) :
  Evo U M Fz w (U.set b ob') (upM M b w.heap.size) Fz (w.alloc o'):={
 size:=by simp
 frame:=λc hc _=>heap_alloc_old w o' c hc
 ran:=λb c h=>by
  unfold upM at h;split at h
  ·simp only[yAa] at h;exact .inr (by omega)
  ·exact .inl ⟨_,h⟩
 fz:=λc h=>⟨h,heap_alloc_old w o' c (R.fz c h)⟩
 fz':=λc h=>.inl h
 shp:=λc arr T fr h=>⟨arr,by rw[heap_alloc_old w o' c (yAv.1 h).1];exact h,rfl⟩
 keep:=λk ob'' h=>by
  by_cases e:k=b
  ·subst e;have hl:=(yAb.1 h).1;have:ob=ob'':=by rw[hb] at h;simpa using h
   subst this;exact ⟨ob',by simp[yAK,hl],by omega,λhe=>by omega⟩
  ·refine ⟨ob'',by rw[yAD (by omega)];exact h,yAo _,λ_=>?_⟩;unfold upM;rw[if_neg e]
 out:=⟨rfl,rfl,rfl⟩ }
theorem Rel.move(R:Rel U M Fz w){b:Nat}{ob ob':Ob}{o':Obj}(hb:U[b]? = some ob)(hs:ob.sz<ob'.sz)
  (h:ObRel (U.set b ob') (upM M b w.heap.size) Fz (w.alloc o') ob' o'):Rel (U.set b ob') (upM M b w.heap.size) Fz (w.alloc o'):={
 blk:=λb1 c1 h1=>by
  unfold upM at h1;split at h1
  ·rename_i e;subst e;simp only[yAa] at h1;subst h1;exact ⟨λhf=>by have:=R.fz _ hf;omega,ob',o',by simp[yAK,(yAb.1 hb).1],heap_alloc_new w o',h⟩
  ·rename_i e;obtain ⟨hf,ob1,o1,h2,h3,h4⟩:=R.blk b1 c1 h1;exact ⟨hf,ob1,o1,by rw[yAD (by omega)];exact h2,by rw[heap_alloc_old w o' c1 (R.lt h1).2];exact h3,h4.mono (Evo.move R hb hs)⟩
 inj:=λb1 b2 c h1 h2=>by
  unfold upM at h1 h2;split at h1 <;> split at h2
  ·omega
  ·simp only[yAa] at h1;have:=(R.lt h2).2;omega
  ·simp only[yAa] at h2;have:=(R.lt h1).2;omega
  ·exact R.inj b1 b2 c h1 h2
 fz:=λc h=>by have:=R.fz c h;simp;omega
 gl:=Gl.mono (Evo.move (o':=o') R hb hs).fz R.gl }
def putA(arr:Array Value)(off:Nat)(xs:List Value):Array Value:=(arr.toList.take off++xs++arr.toList.drop (off+xs.length)).toArray
theorem zcv{arr:Array Value}{off:Nat}{xs:List Value}(h:off+xs.length<=arr.size):(putA arr off xs).size=arr.size:=by simp[putA];omega
theorem putA_cons{arr:Array Value}{off:Nat}{x:Value}{xs:List Value}(h:off+(xs.length+1)<=arr.size) :
  putA (arr.setIfInBounds off x) (off+1) xs=putA arr off (x::xs):=by
 apply yB2;simp only[putA,Array.toList_setIfInBounds,List.length_cons];apply yAM;intro i;have hsz:arr.toList.length=arr.size:=by simp
 simp only[yBb,yAC,yA6,yAI,hsz,List.length_cons];by_cases h1:i<off
 ·rw[if_pos (by omega),if_pos (by omega),if_pos (by omega),if_pos (by omega)];rw[yA7 (by omega),yA7 h1,yAD (by omega)]
 ·by_cases h2:i=off
  ·subst h2;rw[if_pos (by omega),if_pos (by omega),if_pos (by omega),if_neg (by omega)];rw[yA7 (by omega)];have:i-min i arr.size=0:=by omega
   rw[this,yBo (by simp;omega)];rfl
  ·by_cases h3:i<off+(xs.length+1)
   ·rw[if_pos (by omega),if_neg (by omega),if_pos (by omega),if_neg (by omega)];have e1:i-min (off+1) arr.size=i-(off+1):=by omega
    have e2:i-min off arr.size=(i-(off+1))+1:=by omega
    rw[e1,e2];simp
   ·rw[if_neg (by omega),if_neg (by omega)];rw[yAT,yAT,yAD (by omega)];congr 1;omega
theorem getElem?_putA{arr:Array Value}{off:Nat}{xs:List Value}(h:off+xs.length<=arr.size)(i:Nat) :
  (putA arr off xs)[i]? = if off<=i/\i<off+xs.length then xs[i-off]? else arr[i]?:=by
 have hsz:arr.toList.length=arr.size:=by simp
 simp only[putA,List.getElem?_toArray,yBb,yAC,yA6,hsz];by_cases h1:i<off
 ·rw[if_pos (by omega),if_pos (by omega),if_neg (by omega),yA7 h1];simp
 ·by_cases h2:i<off+xs.length
  ·rw[if_pos (by omega),if_neg (by omega),if_pos (by omega)];congr 1;omega
  ·rw[if_neg (by omega),if_neg (by omega),yAT];rw[show off+xs.length+(i-(min off arr.size+xs.length))=i from by omega];simp
theorem getElem?_put{cs xs:List D}{off:Nat}(h:off+xs.length<=cs.length)(i:Nat) :
  (put cs off xs)[i]? = if off<=i/\i<off+xs.length then xs[i-off]? else cs[i]?:=by
 simp only[put,yBb,yAC,yA6];by_cases h1:i<off
 ·rw[if_pos (by omega),if_pos (by omega),if_neg (by omega),yA7 h1]
 ·by_cases h2:i<off+xs.length
  ·rw[if_pos (by omega),if_neg (by omega),if_pos (by omega)];congr 1;omega
  ·rw[if_neg (by omega),if_neg (by omega),yAT];congr 1;omega
theorem zde{cs xs:List D}{off:Nat}(h:off+xs.length<=cs.length):(put cs off xs).length=cs.length:=by simp[put];omega
theorem add_off(blk o i:Nat):(Addr.mk blk o none).add i=⟨blk,o+i,none⟩:=by
 unfold Addr.add;split
 ·subst_vars;rfl
 ·rfl
theorem setCell_setO{c off:Nat}{arr:Array Value}{T:TypeId}{v:Value}(h:w.heap[c]? = some (.cells arr T (0,0))) :
  w.setCell ⟨c,off,none⟩ v=setO w c (.cells (arr.setIfInBounds off v) T (0,0)):=by
 unfold World.setCell setO;congr 1;have hl:=(yAv.1 h).1;apply yB2;apply yAM;intro i;simp only[yA5,Array.getElem?_modify,yAU];by_cases e:c=i
 ·subst e;rw[if_pos rfl,if_pos rfl,if_pos hl,h];simp
 ·rw[if_neg e,if_neg e]
theorem setO_setO{c:Nat}{o o':Obj}:setO (setO w c o) c o'=setO w c o':=by simp[setO]
theorem run_storeCells(P:Program)(T:TypeId)(c:Nat):∀(xs:List Value)(i off:Nat)(w:World)(arr:Array Value),
  w.heap[c]? = some (.cells arr T (0,0))->(∀x∈xs,x.oneCell'=true)->off+i+xs.length<=arr.size ->
  (storeCells ⟨c,off,none⟩ xs i).run P w=.ok () (if xs=[] then w else setO w c (.cells (putA arr (off+i) xs) T (0,0))):=by
 intro xs;induction xs with
 |nil=>intro i off w arr _ _ _;simp[storeCells]
 |cons x xs ih=>
  intro i off w arr hc hx hl;simp only[List.length_cons] at hl;have hlt:=(yAv.1 hc).1;have hcell:w.cell? ⟨c,off+i,none⟩=some (arr[off+i]'(by omega)):=by rw[cell_of_row w c (off+i) arr T (0,0) hc];exact yAn (by omega)
  simp only[storeCells,Sem.run_bind,add_off];rw[run_store P w _ x _ (hx x (by simp)),hcell];simp only[frozen_of_row w c (off+i) arr T hc,yAh,yAx,Result.andThen_ok];rw[setCell_setO hc];have h2:=ih (i+1) off (setO w c (.cells (arr.setIfInBounds (off+i) x) T (0,0))) (arr.setIfInBounds (off+i) x) (setO_same hlt)
   (λy hy=>hx y (by simp[hy])) (by simp;omega)
  rw[h2];simp only[List.cons_ne_nil,yAx,reduceCtorEq];congr 1;by_cases hn:xs=[]
  ·subst hn;simp only[if_true];rw[<-putA_cons (by simp;omega)];congr 2;apply yB2;simp[putA]
  ·rw[if_neg hn,setO_setO,<-putA_cons (by omega)];rfl
end
end Go.Abs
end
section
namespace Go.Abs
variable[Gl]
def zas(U:Heap)(M:Nat->Option Nat)(Fz:Nat->Prop)(w:World)(env:List D)(tmps:Array Value):Prop:=
 tmps.size=env.length/\∀(i:Nat) d v,env[i]? = some d->tmps[i]? = some v->V U M Fz w d v
def Gives(P:Program)(s:Sem Next)(U:Heap)(M:Nat->Option Nat)(Fz:Nat->Prop)(w:World)(U':Heap)(d:D):Prop:=
 ∃nx v w' M',s.run P w=.ok nx w'/\(nx=.value v∨nx=.skip/\v=undef)/\Rel U' M' Fz w'/\V U' M' Fz w' d v/\Evo U M Fz w U' M' Fz w'/\U.length<=U'.length
section
variable{P:Program}{U U':Heap}{M M':Nat->Option Nat}{Fz:Nat->Prop}{w w':World}{env:List D}{a:Act}
theorem Gives.same{s:Sem Next}{v:Value}{d:D}(R:Rel U M Fz w)(hr:s.run P w=.ok (.value v) w)(hv:V U M Fz w d v):Gives P s U M Fz w U d:=
 ⟨_,v,w,M,hr,.inl rfl,R,hv,Evo.refl R,yAo _⟩
def Yields(P:Program)(s:Sem Next)(U:Heap)(M:Nat->Option Nat)(Fz:Nat->Prop)(w:World)(d:D):Prop:=∃v,s.run P w=.ok (.value v) w/\V U M Fz w d v
def Allocs(P:Program)(s:Sem Next)(U:Heap)(M:Nat->Option Nat)(Fz:Nat->Prop)(w:World)(ob:Ob)(d:D):Prop:=
 ∃o v,s.run P w=.ok (.value v) (w.alloc o)/\ObRel (U++[ob]) (upM M U.length w.heap.size) Fz (w.alloc o) ob o/\V (U++[ob]) (upM M U.length w.heap.size) Fz (w.alloc o) d v
theorem Yields.same{s:Sem Next}{v:Value}{d:D}(hr:s.run P w=.ok (.value v) w)(hv:V U M Fz w d v):Yields P s U M Fz w d:=⟨v,hr,hv⟩
theorem Yields.gives{s:Sem Next}{d:D}(R:Rel U M Fz w)(h:Yields P s U M Fz w d):Gives P s U M Fz w U d:=
 let ⟨_,hr,hv⟩:=h;Gives.same R hr hv
theorem Allocs.gives{s:Sem Next}{d:D}{ob:Ob}(R:Rel U M Fz w)(h:Allocs P s U M Fz w ob d):Gives P s U M Fz w (U++[ob]) d:=
 let ⟨o,v,hr,ho,hv⟩:=h;⟨_,v,_,_,hr,.inl rfl,R.alloc ob o ho,hv,Evo.alloc R.fz ob o,by simp⟩
theorem V.ofVal (v:Value):V U M Fz w (ofVal v) v:=by
  cases v <;> first
    | exact .c (.lit _)
    | (refine .agg _ (by simp) (fun i d v h1 h2=>?_)
       simp only [yAl,yA5,h2,Option.map_some,yAa] at h1
       subst h1
       exact .c (.lit _))
    | (refine .tup _ (by simp) (fun i d v h1 h2=>?_)
       simp only [yAl,yA5,h2,Option.map_some,yAa] at h1
       subst h1
       exact .c (.lit _))
theorem za5(E:zas U M Fz w env a.tmps){x:Operand}{o:Opd}(h:opd x=some o):V U M Fz w (o.ev env) (a.eval x):=by
 cases x with
 |tmp t=>
  simp only[opd,yAa] at h;subst h;simp only[Opd.ev,Act.eval];by_cases ht:t<env.length
  ·have h1:env[t]? = some env[t]:=yAg ht;have h2:a.tmps[t]? = some (a.tmps[t]'(by rw[E.1];exact ht)):=yAn _;rw[h1,xAc,yA9,h2,xAc];exact E.2 t _ _ h1 h2
  ·have ht':env.length<=t:=Nat.le_of_not_lt ht;rw[yAG ht',yA9,yBp (by rw[E.1];exact ht')];exact .tup #[] rfl (λi d v h=>by simp at h)
 |const v=>simp only[opd,yAa] at h;subst h;exact V.ofVal v
 |global g=>simp only[opd,yAa] at h;subst h;exact .c (.glo g)
 |func f=>simp only[opd,yAa] at h;subst h;exact .c (.fn #[] #[] rfl rfl (λi d v h=>by simp at h) (λi d v h=>by simp at h))
theorem V.lit_inv{v v':Value}(h:V U M Fz w (.c (.lit v)) v'):v'=v:=by
 cases h with
 |c h=>cases h;rfl
theorem mapM_litOf{ds:List D}{l:List Value}(h:ds.mapM litOf=some l):ds.length=l.length/\∀(i:Nat) d,ds[i]? = some d->∃v,l[i]? = some v/\d=.c (.lit v):=by
 induction ds generalizing l with
 |nil=>simp only[List.mapM_nil,Option.pure_def,yAa] at h;subst h;simp
 |cons d ds ih=>
  simp only[yAS,Option.pure_def,Option.bind_eq_bind,yAe,yAa] at h;obtain ⟨v,hv,l',hl,rfl⟩:=h;obtain ⟨h1,h2⟩:=ih hl;refine ⟨by simp[h1],λi d' hd=>?_⟩;cases i with
  |zero=>
   simp only[List.getElem?_cons_zero,yAa] at hd;subst hd;cases d with
   |c x=>cases x <;> simp[litOf] at hv;subst hv;exact ⟨_,by simp,rfl⟩
   |_=>simp[litOf] at hv
  |succ i=>simpa using h2 i d' (by simpa using hd)
theorem V.val_inv{d:D}{v v':Value}(h:V U M Fz w d v')(hv:d.val? = some v):v'=v:=by
 cases d with
 |c x=>cases x <;> simp[D.val?] at hv;subst hv;exact h.lit_inv
 |agg ds=>
  simp only[D.val?,yAd] at hv;obtain ⟨l,hl,rfl⟩:=hv;obtain ⟨h1,h2⟩:=mapM_litOf hl;cases h with
  |agg vs hs hvs=>
   congr 1;apply yB2;apply yAM;intro i;simp only[yA5];by_cases hi:i<ds.length
   ·have e1:ds[i]? = some ds[i]:=yAg hi;have e2:vs[i]? = some (vs[i]'(by omega)):=yAn _;obtain ⟨u,hu,hd⟩:=h2 i _ e1;have h3:=hvs i _ _ e1 e2;rw[hd] at h3;rw[e2,h3.lit_inv];simpa using hu.symm
   ·rw[yBp (by omega)];simp;omega
 |_=>simp[D.val?] at hv
theorem mov_ok(E:zas U M Fz w env a.tmps){o:Oper}{x:Operand}{ox:Opd}(ho:o.op=.move x∨o.op=.assign x)(hx:opd x=some ox) :
  Yields P (execOp a.eval o) U M Fz w (ox.ev env):=by
 refine Yields.same (v:=a.eval x) ?_ (za5 E hx);rcases ho with ho | ho <;> simp[execOp,ho]
theorem litBool_inv{d:D}{v:Value}{t:Bool}(h:V U M Fz w d v)(ht:litBool d=some t):v=.bool t:=by
 cases d with
 |c x=>
  cases x with
  |lit u=>
   cases u <;> simp[litBool] at ht
   subst ht;exact h.lit_inv
  |_=>simp[litBool] at ht
 |_=>simp[litBool] at ht
theorem litInt_inv{d:D}{v:Value}{n:Int}(h:V U M Fz w d v)(ht:zbJ d=some n):∃k,v=.int k n:=by
 cases d with
 |c x=>
  cases x with
  |lit u=>
   cases u <;> simp[zbJ] at ht
   subst ht;exact ⟨_,h.lit_inv⟩
  |_=>simp[zbJ] at ht
 |_=>simp[zbJ] at ht
theorem pick_ok(E:zas U M Fz w env a.tmps){o:Oper}{c x y:Operand}{oc ox oy:Opd}{t:Bool}(ho:o.op=.pick c x y)
  (hc:opd c=some oc) (hx:opd x=some ox) (hy:opd y=some oy) (ht:litBool (oc.ev env)=some t) :
  Yields P (execOp a.eval o) U M Fz w (if t then ox.ev env else oy.ev env):=by
 refine Yields.same (v:=if t then a.eval x else a.eval y) ?_ ?_
 ·simp[execOp,ho,litBool_inv (za5 E hc) ht,asBool]
 ·cases t
  ·exact za5 E hy
  ·exact za5 E hx
theorem gen_ok(E:zas U M Fz w env a.tmps){o:Oper}{d:D}(hsel:∀cs b,o.op≠.select cs b)(h:genEv P o.op o.type env=some d) :
  Yields P (execOp a.eval o) U M Fz w d:=by
 unfold genEv at h;split at h
 ·rename_i hall;generalize hρ:(λx=>((((opd x).map (Opd.ev env)).bind D.val?).getD undef))=ρ at h;have hcong:execOp a.eval o=execOp ρ o:=by
   refine execOp_congr o hsel (λx hx=>?_);have hx':=(yAp.1 hall) x (by simpa using hx);rw[<-hρ];cases hox:opd x with
   |none=>simp[hox] at hx'
   |some ox=>simp only[hox,Option.map_some,Option.bind_some] at hx' ⊢;obtain ⟨v,hv⟩:=yAX.1 hx';rw[hv,xAc];exact (za5 E hox).val_inv hv
  have hsame:execOp ρ o=execOp ρ { dst:=none,op:=o.op,type:=o.type,pos:="",after:=#[],guard:=none }:=rfl
  split at h
  ·rename_i v hp;simp only[yAa] at h;subst h;refine Yields.same (v:=v) ?_ (V.ofVal v);rw[hcong,hsame];exact pureIn_run w hp
  ·simp at h
 ·simp at h
theorem V.one{d:D}{v:Value}(h:V U M Fz w d v)(hs:d.scalar=true):v.oneCell'=true/\v.cells=#[v]:=by
 cases h with
 |c h=>
  cases h with
  |lit v=>simp only[D.scalar] at hs;cases v <;> first | exact ⟨rfl,rfl⟩ | simp[Value.oneCell'] at hs
  |_=>exact ⟨rfl,rfl⟩
 |any v=>simp[D.scalar] at hs
 |agg=>simp[D.scalar] at hs
 |tup=>simp[D.scalar] at hs
 |_=>exact ⟨rfl,rfl⟩
theorem V.cells{d:D}{v:Value}{cs:List D}(h:V U M Fz w d v)(hc:d.cells? = some cs) :
  v.cells.size=cs.length/\(∀(i:Nat) x u,cs[i]? = some x->v.cells[i]? = some u->V U M Fz w x u)/\(∀u∈v.cells.toList,u.oneCell'=true)/\(∀x∈cs,x.scalar=true):=by
 have key:d.scalar=true->d.cells? = some [d]->v.cells.size=cs.length/\(∀(i:Nat) x u,cs[i]? = some x->v.cells[i]? = some u->V U M Fz w x u)/\(∀u∈v.cells.toList,u.oneCell'=true)/\(∀x∈cs,x.scalar=true):=by
  intro hs h1;rw[h1] at hc;simp only[yAa] at hc;subst hc;obtain ⟨h2,h3⟩:=h.one hs;rw[h3];refine ⟨rfl,λi x u hi hu=>?_,by simp[h2],by simpa using hs⟩;cases i with
  |zero=>simp at hi hu;subst hi hu;exact h
  |succ i=>simp at hi
 cases d with
 |agg ds=>
  simp only[D.cells?] at hc;split at hc
  ·rename_i hall;simp only[yAa] at hc;subst hc;cases h with
   |agg vs h1 hv=>refine ⟨h1,hv,λu hu=>?_,λx hx=>yAp.1 hall x hx⟩;obtain ⟨i,hi,rfl⟩:=List.mem_iff_getElem.1 hu;simp only[Value.cells,Array.length_toList] at hi;have e1:ds[i]? = some (ds[i]'(by omega)):=yAg _;have e2:vs[i]? = some vs[i]:=yAn _;exact ((hv i _ _ e1 e2).one (yAp.1 hall _ (yAk _))).1
  ·simp at hc
 |_=>
  simp only[D.cells?] at hc;split at hc
  ·rename_i hs;exact key hs (by simp only[D.cells?,hs,if_true])
  ·simp at hc
theorem mem_of_get{arr:Array Value}{i:Nat}{u:Value}(h:arr[i]? = some u):u∈arr.toList:=by rw[<-yA5] at h;exact yAy h
theorem newRow_ok (hfz:∀c,Fz c→c<w.heap.size) {cs:List D} {arr:Array Value} (T:TypeId) (hs:cs.length≤arr.size)
  (hv:∀(i:Nat) x u,cs[i]? = some x→arr[i]? = some u→V U M Fz w x u∧u.oneCell'=true) :
  (newRow T arr).run P w=.ok ⟨w.heap.size,0,none⟩ (w.alloc (.cells arr T)) ∧
   ObRel (U++[.cells cs]) (upM M U.length w.heap.size) Fz (w.alloc (.cells arr T)) (.cells cs) (.cells arr T):=
 ⟨rfl,arr,T,rfl,hs,fun i d v h1 h2=>⟨(hv i d v h1 h2).1.mono (Evo.alloc hfz _ _),(hv i d v h1 h2).2⟩⟩
theorem V.newPtr(cs:List D)(o:Obj):V (U++[.cells cs]) (upM M U.length w.heap.size) Fz (w.alloc o) (.ptr U.length 0 cs.length) (.pointer (some ⟨w.heap.size,0,none⟩)):=
 .ptr _ (.cells cs) (by simp) (by simp[Ob.sz]) (λ_=>⟨w.heap.size,by simp[upM],rfl⟩)
theorem box_ok(hfz:∀c,Fz c->c<w.heap.size)(E:zas U M Fz w env a.tmps){o:Oper}{t:TypeId}{x:Operand}{ox:Opd}{cs:List D}(ho:o.op=.box t x)(hx:opd x=some ox)
  (hc:(ox.ev env).cells? = some cs):Allocs P (execOp a.eval o) U M Fz w (.cells cs) (.ptr U.length 0 cs.length):=by
 obtain ⟨h1,h2,h3,_⟩:=(za5 E hx).cells hc;obtain ⟨r1,r2⟩:=newRow_ok (P:=P) hfz t (by omega) (λi x u hx hu=>⟨h2 i x u hx hu,h3 u (mem_of_get hu)⟩);exact ⟨_,_,by simp[execOp,ho,Instr.box,newVar,r1],r2,V.newPtr cs _⟩
theorem zcQ{t:TypeId}{z:List D}(h:zbu P t=some z):∃i v,P.info? t=some i/\i.zero=some v/\(ofVal v).cells? = some z:=by
 simp only[zbu,zeroOf,yAe] at h;obtain ⟨d,hd,hz⟩:=h;split at hd
 ·rename_i i hi;simp only[yAd] at hd;obtain ⟨v,hv,rfl⟩:=hd;exact ⟨i,v,hi,hv,hz⟩
 ·simp at hd
theorem zcV{t:TypeId}{i:TypeInfo}(h:P.info? t=some i)(w:World):(typeInfo t).run P w=.ok i w:=by simp[typeInfo,h]
theorem run_zero{t:TypeId}{i:TypeInfo}{v:Value}(h:P.info? t=some i)(hz:i.zero=some v)(w:World):(zeroValue t).run P w=.ok v w:=by simp[zeroValue,zcV h,hz]
theorem zdk{t:TypeId}{n:Nat}(h:sizeOf? P t=some n)(w:World):(sizeOf t).run P w=.ok n w:=by simp only[sizeOf?,yAd] at h;obtain ⟨i,hi,rfl⟩:=h;simp[sizeOf,zcV hi]
theorem zar{t:TypeId}{d:TypeDesc}(h:P.underlying t=some d)(w:World):(underlying t).run P w=.ok d w:=by simp[underlying,h]
theorem alloc_ok(hfz:∀c,Fz c->c<w.heap.size){o:Oper}{t:TypeId}{z:List D}(ho:o.op=.alloc t)(hz:zbu P t=some z) :
  Allocs P (execOp a.eval o) U M Fz w (.cells z) (.ptr U.length 0 z.length):=by
 obtain ⟨i,v,hi,hv,hc⟩:=zcQ hz;obtain ⟨h1,h2,h3,_⟩:=(V.ofVal (U:=U) (M:=M) (Fz:=Fz) (w:=w) v).cells hc;obtain ⟨r1,r2⟩:=newRow_ok (P:=P) hfz t (by omega) (λi x u hx hu=>⟨h2 i x u hx hu,h3 u (mem_of_get hu)⟩);exact ⟨_,_,by simp[execOp,ho,Instr.alloc,run_zero hi hv,newVar,r1],r2,V.newPtr z _⟩
theorem zbZ{b sz:Nat}{cs:List D}(h:zci U b sz=some cs):U[b]? = some (.cells cs)/\cs.length=sz:=by
 unfold zci at h;split at h
 ·rename_i cs' hb;split at h
  ·rename_i hl;simp only[yAa] at h;subst h;exact ⟨hb,hl⟩
  ·simp at h
 ·simp at h
theorem V.ptr_inv{b off sz:Nat}{v:Value}{cs:List D}(h:V U M Fz w (.ptr b off sz) v)(hr:zci U b sz=some cs):∃c,M b=some c/\v=.pointer (some ⟨c,off,none⟩):=by
 obtain ⟨h1,h2⟩:=zbZ hr;cases h with
 |ptr ad ob hb hle hv=>rw[h1] at hb;simp only[yAa] at hb;subst hb;obtain ⟨c,hc,ha⟩:=hv h2;exact ⟨c,hc,by rw[ha]⟩
theorem Rel.row(R:Rel U M Fz w){b c:Nat}{cs:List D}(hM:M b=some c)(hb:U[b]? = some (.cells cs)) :
  ∃arr T,w.heap[c]? = some (.cells arr T (0,0))/\cs.length<=arr.size/\∀(i:Nat) d v,cs[i]? = some d->arr[i]? = some v->V U M Fz w d v/\v.oneCell'=true:=by
 obtain ⟨_,ob,o,h1,h2,h3⟩:=R.blk b c hM;rw[hb] at h1;simp only[yAa] at h1;subst h1;obtain ⟨arr,T,rfl,hl,hv⟩:=h3;exact ⟨arr,T,h2,hl,hv⟩
theorem loadVar_ok{t:TypeId}{n:Option Nat}{cs:List D}{blk o0 off:Nat}{d:D}(hn:aggN P t=some n)(hg:zaT n cs off=some d)
  (hcell:∀(i:Nat) x,cs[i]? = some x->∃u,w.cell? ⟨blk,o0+i,none⟩=some u/\V U M Fz w x u) :
  ∃v,(loadVar t ⟨blk,o0+off,none⟩).run P w=.ok v w/\V U M Fz w d v:=by
 unfold aggN at hn;have agg:∀(i:TypeInfo),P.info? t=some i->n=some i.size->(isAgg t).run P w=.ok true w->∃v,(loadVar t ⟨blk,o0+off,none⟩).run P w=.ok v w/\V U M Fz w d v:=by
  intro i hi hn hagg;subst hn;simp only[zaT] at hg;split at hg
  ·rename_i hle;simp only[yAa] at hg;subst hg;have hex:∀j,j<i.size->∃u,w.cell? ⟨blk,o0+off+j,none⟩=some u/\∀x,cs[off+j]? = some x->V U M Fz w x u:=by
    intro j hj;obtain ⟨u,h1,h2⟩:=hcell (off+j) _ (yAg (by omega));refine ⟨u,by rw[yBL];exact h1,λx hx=>?_⟩;rw[yAg (by omega)] at hx;simp only[yAa] at hx;subst hx;exact h2
   let f:Nat->Value:=λj=>(w.cell? ⟨blk,o0+off+j,none⟩).getD undef
   have hf:∀j,j<i.size->w.cell? ((Addr.mk blk (o0+off) none).add j)=some (f j):=by intro j hj;obtain ⟨u,h1,_⟩:=hex j hj;rw[add_off];simp only[f,h1,Option.getD_some]
   have hrun:=run_loadCells (P:=P) (w:=w) ⟨blk,o0+off,none⟩ i.size f hf;refine ⟨.agg (List.map f (List.range i.size)).toArray,by simp only[loadVar,Sem.run_bind,hagg,Result.andThen_ok,if_true,sizeOf,zcV hi,Sem.run_pure,hrun],?_⟩;refine .agg _ (by simp;omega) (λj x v h1 h2=>?_);have hj:j<i.size:=by have:=(yAb.1 h1).1;simp at this;omega
   obtain ⟨u,h3,h4⟩:=hex j hj;have h1':cs[off+j]? = some x:=by rw[yA7 hj,yAT] at h1;exact h1
   have h5:v=u:=by simp[hj,f,h3] at h2;exact h2.symm
   rw[h5];exact h4 x h1'
  ·simp at hg
 have one:n=none->(isAgg t).run P w=.ok false w->∃v,(loadVar t ⟨blk,o0+off,none⟩).run P w=.ok v w/\V U M Fz w d v:=by intro hn hagg;subst hn;obtain ⟨u,h1,h2⟩:=hcell off d hg;exact ⟨u,by simp only[loadVar,Sem.run_bind,hagg,Result.andThen_ok,yAh,yAx,run_load,h1],h2⟩
 cases hi:P.info? t with
 |none=>simp[hi] at hn
 |some i=>
  cases hu:P.underlying t with
  |none=>simp[hi,hu] at hn
  |some dsc=>
   rw[hi,hu] at hn;have hisagg:(isAgg t).run P w=.ok (dsc matches .struct _ | .array _ _) w:=by simp only[isAgg,Sem.run_bind,zar hu,Result.andThen_ok];cases dsc <;> rfl
   cases dsc <;> simp only[yAa] at hn <;>
    first
     |exact agg i hi hn.symm hisagg
     |exact one hn.symm hisagg
theorem load_ok (E:zas U M Fz w env a.tmps) {o:Oper} {t:TypeId} {x:Operand} {ox:Opd} {n:Option Nat} {d:D} (ho:o.op=.load t x) (hx:opd x=some ox)
  (hn:aggN P t=some n) (hR:∀b off sz c cs,ox.ev env=.ptr b off sz→M b=some c→U[b]? = some (.cells cs)→∃arr T,w.heap[c]? = some (.cells arr T (0,0))∧cs.length≤arr.size∧∀(i:Nat) d v,cs[i]? = some d→arr[i]? = some v→V U M Fz w d v∧v.oneCell'=true)
  (h:(match ox.ev env with
   | .ptr b off sz=>do some (←zaT n (←zci U b sz) off,U,([]:List Nat))
   | .c (.fptr cs off)=>do some (←zaT n (cs.map .c) off,U,[])
   | _=>none)=some (d,U',[])):U'=U∧Yields P (execOp a.eval o) U M Fz w d:=by
 have hv:=za5 E hx
 split at h
 ·rename_i b off sz he
  rw [he] at hv
  simp only [Option.bind_eq_bind,yAe,yAa,yAc] at h
  obtain ⟨cs,hr,d',hg,rfl,rfl,_⟩:=h
  refine ⟨rfl,?_⟩
  obtain ⟨c,hM,hva⟩:=hv.ptr_inv hr
  obtain ⟨hb,_⟩:=zbZ hr
  obtain ⟨arr,T,hh,hl,hcs⟩:=hR b off sz c cs he hM hb
  have hcell:∀(i:Nat) x,cs[i]? = some x→∃u,w.cell? ⟨c,0+i,none⟩=some u∧V U M Fz w x u:=by
   intro i x hxi
   have hi:=(yAb.1 hxi).1
   have e:arr[i]? = some (arr[i]'(by omega)):=yAn _
   exact ⟨_,by rw [yBj,cell_of_row w c i arr T (0,0) hh]; exact e,(hcs i _ _ hxi e).1⟩
  obtain ⟨v,hrun,hvv⟩:=loadVar_ok (P:=P) hn hg hcell
  refine Yields.same (v:=v) ?_ hvv
  rw [yBj] at hrun
  simp [execOp,ho,Instr.loadAt,hva,Instr.sureAddr,hrun]
 ·rename_i cs off he
  rw [he] at hv
  simp only [Option.bind_eq_bind,yAe,yAa,yAc] at h
  obtain ⟨d',hg,rfl,rfl,_⟩:=h
  refine ⟨rfl,?_⟩
  cases hv with
  | c hv =>
   generalize hva:a.eval x=va at hv
   cases hv with
   | fptr blk o0 c hF hc hvc =>
    have hcell:∀(i:Nat) x,(cs.map D.c)[i]? = some x→∃u,w.cell? ⟨blk,o0+i,none⟩=some u∧V U M Fz w x u:=by
     intro i x hxi
     simp only [yAl,yAd] at hxi
     obtain ⟨y,hy,rfl⟩:=hxi
     exact ⟨_,(hc i y hy).1,.c (hvc i y hy)⟩
    obtain ⟨v,hrun,hvv⟩:=loadVar_ok (P:=P) hn hg hcell
    refine Yields.same (v:=v) ?_ hvv
    simp [execOp,ho,Instr.loadAt,hva,Instr.sureAddr,hrun]
 ·simp at h
end
end Go.Abs
end
section
namespace Go.Abs
variable[Gl]
section
variable{P:Program}{U U':Heap}{M M':Nat->Option Nat}{Fz:Nat->Prop}{w w':World}{env:List D}{a:Act}
theorem foldl_putA(off:Nat):∀(l:List Value)(k:Nat)(arr:Array Value),off+k+l.length<=arr.size ->
  (l.zipIdx k).foldl (λcs (p:Value×Nat)=>cs.setIfInBounds (off+p.2) p.1) arr=putA arr (off+k) l:=by
 intro l;induction l with
 |nil=>intro k arr _;apply yB2;simp[putA]
 |cons x l ih=>intro k arr h;simp only[List.length_cons] at h;simp only[List.zipIdx_cons,List.foldl_cons];rw[ih (k+1) _ (by simp;omega),<-putA_cons (by omega)];rfl
def zdY(U:Heap)(M:Nat->Option Nat)(Fz:Nat->Prop)(w:World)(cs:List D)(arr:Array Value):Prop:=
 arr.size=cs.length/\∀(i:Nat) x u,cs[i]? = some x->arr[i]? = some u->V U M Fz w x u/\u.oneCell'=true
theorem zdY.put{cs xs:List D}{arr:Array Value}{vs:List Value}{off:Nat}(h:zdY U M Fz w cs arr)(hl:vs.length=xs.length)(ho:off+xs.length<=cs.length)
  (hx:∀(i:Nat) x u,xs[i]? = some x->vs[i]? = some u->V U M Fz w x u/\u.oneCell'=true):zdY U M Fz w (put cs off xs) (putA arr off vs):=by
 refine ⟨by rw[zcv (by rw[h.1];omega),zde ho,h.1],λi x u h1 h2=>?_⟩;rw[getElem?_put ho] at h1;rw[getElem?_putA (by rw[h.1];omega),hl] at h2;split at h1
 ·rename_i hc;rw[if_pos hc] at h2;exact hx _ _ _ h1 h2
 ·rename_i hc;rw[if_neg hc] at h2;exact h.2 _ _ _ h1 h2
theorem zdY.ofCells{d:D}{v:Value}{cs:List D}(h:V U M Fz w d v)(hc:d.cells? = some cs):zdY U M Fz w cs v.cells:=by obtain ⟨h1,h2,h3,_⟩:=h.cells hc;exact ⟨h1,λi x u hx hu=>⟨h2 i x u hx hu,h3 u (mem_of_get hu)⟩⟩
theorem fill_ok(E:zas U M Fz w env a.tmps)(pl:Nat->Option (Nat×Nat)):∀(ps:List (Nat×Operand))(qs:List (Nat×Nat×Opd))(cs cs':List D)(arr:Array Value),
  (ps.mapM λ(i,x)=>(pl i).bind λ(o,n)=>(opd x).bind λox=>some (o,n,ox))=some qs->zdY U M Fz w cs arr->fillD env cs qs=some cs' ->
  ∃arr',Instr.fill pl arr (ps.map λ(i,x)=>(i,a.eval x))=some arr'/\zdY U M Fz w cs' arr':=by
 intro ps;induction ps with
 |nil=>intro qs cs cs' arr hq hr hf;simp only[List.mapM_nil,Option.pure_def,yAa] at hq;subst hq;simp only[fillD,yAa] at hf;subst hf;exact ⟨arr,rfl,hr⟩
 |cons p ps ih=>
  intro qs cs cs' arr hq hr hf;obtain ⟨i,x⟩:=p;simp only[yAS,Option.pure_def,Option.bind_eq_bind,yAe,yAa] at hq;obtain ⟨q,⟨⟨o,n⟩,hpl,ox,hox,rfl⟩,qs',hqs,rfl⟩:=hq;simp only[fillD,Option.bind_eq_bind,yAe] at hf;obtain ⟨xs,hxs,hf⟩:=hf;split at hf
  ·simp at hf
  ·rename_i hcond;simp only[not_or,yAN,Nat.not_lt] at hcond;obtain ⟨hn,hle⟩:=hcond;have hrow:=zdY.ofCells (za5 E hox) hxs;obtain ⟨arr',h1,h2⟩:=ih qs' _ cs' (putA arr o (a.eval x).cells.toList) hqs (hr.put (by simp[hrow.1]) (by omega) (λi y u h1 h2=>hrow.2 i y u h1 (by simpa using h2))) hf;refine ⟨arr',?_,h2⟩;simp only[yAw,Instr.fill,hpl];rw[if_neg (by simp[hrow.1,hn,hr.1];omega)];rw[<-h1];congr 1;have:=foldl_putA o (a.eval x).cells.toList 0 arr (by simp[hrow.1,hr.1];omega);rw[<-Array.foldl_toList];simpa using this
theorem places_inv{fs:Array Field}{ps:List (Nat×Nat)}(h:places P fs=some ps)(w:World) :
  (fs.mapM λ(f:Field)=>(do pure (f.offset,<-sizeOf f.type):Sem (Nat×Nat))).run P w=.ok ps.toArray w:=by
 have key:∀(l:List Field)(ps:List (Nat×Nat)),(l.mapM λf=>(sizeOf? P f.type).map λn=>(f.offset,n))=some ps ->
   (l.mapM λf=>(do pure (f.offset,<-sizeOf f.type):Sem (Nat×Nat))).run P w=.ok ps w:=by
  intro l;induction l with
  |nil=>intro ps h;simp only[List.mapM_nil,Option.pure_def,yAa] at h;subst h;simp
  |cons f l ih=>intro ps h;simp only[yAS,Option.pure_def,Option.bind_eq_bind,yAe,yAd,yAa] at h;obtain ⟨q,⟨n,hn,rfl⟩,qs,hqs,rfl⟩:=h;simp only[yAS,Sem.run_bind,zdk hn,Result.andThen_ok,Sem.run_pure,ih qs hqs]
 unfold places at h;rw[xAq];simp only[Sem.run_map,key _ _ h,Result.andThen_ok]
theorem build_ok(E:zas U M Fz w env a.tmps){o:Oper}{t:TypeId}{parts:Array (Nat×Operand)}{z:List D}{qs:List (Nat×Nat×Opd)}{pl:Nat->Option (Nat×Nat)}{cs:List D}
  (ho:o.op=.build t parts) (hz:zbu P t=some z)
  (hpl:(∃fs ps,P.underlying t=some (.struct fs)/\places P fs=some ps/\pl=(ps[·]?))∨(∃m e n,P.underlying t=some (.array m e)/\sizeOf? P e=some n/\pl=λi=>some (i * n,n)))
  (hq:(parts.toList.mapM λ(i,x)=>(pl i).bind λ(o,n)=>(opd x).bind λox=>some (o,n,ox))=some qs) (hf:fillD env z qs=some cs) :
  Yields P (execOp a.eval o) U M Fz w (.agg cs):=by
 obtain ⟨i,v,hi,hv,hc⟩:=zcQ hz;have hrow:=zdY.ofCells (V.ofVal (U:=U) (M:=M) (Fz:=Fz) (w:=w) v) hc;obtain ⟨arr,h1,h2⟩:=fill_ok E pl parts.toList qs z cs v.cells hq hrow hf;refine Yields.same (v:=.agg arr) ?_ (.agg arr h2.1 (λi d v h3 h4=>(h2.2 i d v h3 h4).1));rcases hpl with ⟨fs,ps,hu,hp,rfl⟩ | ⟨m,e,n,hu,hn,rfl⟩
 ·simp only[execOp,ho,Instr.build,Sem.run_bind,run_zero hi hv,Result.andThen_ok,zar hu,places_inv hp];simp only[yCi,List.getElem?_toArray,h1,Sem.run_pure,Result.andThen_ok]
 ·simp only[execOp,ho,Instr.build,Sem.run_bind,run_zero hi hv,Result.andThen_ok,zar hu,zdk hn];simp only[yCi,h1,Sem.run_pure,Result.andThen_ok]
theorem length_zeros(n:Nat)(z:List D):(zdu n z).length=n * z.length:=by simp[zdu]
theorem getElem?_zeros{z:List D}(hz:z≠[]):∀(n i:Nat),i<n * z.length->(zdu n z)[i]? = z[i % z.length]?:=by
 intro n;have hp:0<z.length:=yBM.2 hz;induction n with
 |zero=>intro i hi;omega
 |succ n ih=>
  intro i hi;have e:zdu (n+1) z=z++zdu n z:=by simp[zdu,List.replicate_succ]
  rw[e,yBb];split
  ·rename_i h;rw[Nat.mod_eq_of_lt h]
  ·rename_i h;rw[ih (i-z.length) (by rw[yCo] at hi;omega)];congr 1
   conv=>rhs;rw[show i=i-z.length+z.length from by omega]
   rw[Nat.add_mod_right]
theorem zeros_row{z:List D}{v:Value}(hrow:zdY U M Fz w z v.cells)(hz:z≠[])(n m:Nat)(hnm:n<=m) :
  n * z.length<=((Array.range (m * v.cells.size)).map (v.cells[· % v.cells.size]!)).size /\
  ∀(i:Nat) x u,(zdu n z)[i]? = some x->((Array.range (m * v.cells.size)).map (v.cells[· % v.cells.size]!))[i]? = some u->V U M Fz w x u/\u.oneCell'=true:=by
 have hp:0<z.length:=yBM.2 hz;refine ⟨by simp[hrow.1];exact yAP _ hnm,λi x u h1 h2=>?_⟩;have hi:=(yAb.1 h1).1;rw[length_zeros] at hi;rw[getElem?_zeros hz n i hi] at h1;have hm:i % z.length<v.cells.size:=by rw[hrow.1];exact Nat.mod_lt _ hp
 have hi2:i<m * v.cells.size:=by rw[hrow.1];exact yAH hi (yAP _ hnm)
 refine hrow.2 (i % z.length) x u h1 ?_;rw[yAV,Array.getElem?_range,if_pos hi2] at h2;simp only[Option.map_some,yAa,hrow.1] at h2;rw[yBU v.cells (i % z.length) hm] at h2;rw[yAn hm,h2]
theorem V.newSl{cs:List D}{arr:Array Value}{T:TypeId}{len esz cap:Nat}(hlen:len<=cap)(hcap:cap * esz<=arr.size)(hl:len * esz<=cs.length)(hs:cs.length<=cap * esz) :
  V (U++[.cells cs]) (upM M U.length w.heap.size) Fz (w.alloc (.cells arr T)) (.sl U.length 0 len esz cs.length) (.slice (some ⟨w.heap.size,0,none⟩) len cap):=
 .sl _ _ _ (by simp) (.cells cs) (by simp) (by simp[Ob.sz]) (λ_=>.inr ⟨w.heap.size,0,arr,T,by simp[upM],rfl,rfl,⟨hlen,by omega⟩,.inl rfl,heap_alloc_new w _,by omega,by omega⟩)
theorem bslice_ok(hfz:∀c,Fz c->c<w.heap.size)(E:zas U M Fz w env a.tmps){o:Oper}{t e:TypeId}{len n:Nat}{parts:Array (Nat×Operand)}{z:List D}{qs:List (Nat×Nat×Opd)}{cs:List D}
  (ho:o.op=.buildSlice t len parts) (hu:P.underlying t=some (.slice e)) (hn:sizeOf? P e=some n) (hz:zbu P e=some z) (hn0:¬(n=0∨z.length≠n∨len * n > 2 ^ 20))
  (hq:(parts.toList.mapM λ(i,x)=>(some (i * n,n)).bind λ(p:Nat×Nat)=>(opd x).bind λox=>some (p.1,p.2,ox))=some qs) (hf:fillD env (zdu len z) qs=some cs) :
  Allocs P (execOp a.eval o) U M Fz w (.cells cs) (.sl U.length 0 len n cs.length):=by
 obtain ⟨i,v,hi,hv,hc⟩:=zcQ hz;have hrow:=zdY.ofCells (V.ofVal (U:=U) (M:=M) (Fz:=Fz) (w:=w) v) hc;simp only[not_or,yAN,Nat.not_lt] at hn0;obtain ⟨hn1,hzn,hlim⟩:=hn0;have hzne:z≠[]:=λh=>by simp[h] at hzn;omega
 have hvn:v.cells.size=n:=by rw[hrow.1,hzn]
 obtain ⟨hz1,hz2⟩:=zeros_row hrow hzne len len (yAo _);have hzr:zdY U M Fz w (zdu len z) ((Array.range (len * v.cells.size)).map (v.cells[· % v.cells.size]!)):=⟨by simp[length_zeros,hvn,hzn],hz2⟩;obtain ⟨arr,h1,h2⟩:=fill_ok E (λi=>some (i * n,n)) parts.toList qs (zdu len z) cs _ hq hzr hf;have hcsz:cs.length=len * n:=by
  have:arr.size=len * n:=by
   have hpres:∀(l:List (Nat×Value))(x y:Array Value),Instr.fill (λi=>some (i * n,n)) x l=some y->y.size=x.size:=by
    intro l;induction l with
    |nil=>intro x y h;simp only[Instr.fill,yAa] at h;rw[h]
    |cons p l ih=>
     intro x y h;obtain ⟨i,u⟩:=p;simp only[Instr.fill] at h;split at h
     ·simp at h
     ·rename_i hcnd;simp at hcnd;rw[ih _ _ h,<-Array.foldl_toList];have:=foldl_putA (i * n) u.cells.toList 0 x (by simp;omega);simp only[Nat.add_zero] at this;simp only[Array.toList_zipIdx];rw[this,zcv (by simp;omega)]
   rw[hpres _ _ _ h1];simp[hvn]
  rw[<-h2.1,this]
 obtain ⟨r1,r2⟩:=newRow_ok (P:=P) hfz (arr:=arr) (cs:=cs) e (by rw[h2.1];exact yAo _) h2.2;refine ⟨_,.slice (some ⟨w.heap.size,0,none⟩) len len,?_,r2,V.newSl (cap:=len) (yAo _) (by rw[h2.1,hcsz];exact yAo _) (by omega) (by rw[hcsz];exact yAo _)⟩;simp only[execOp,ho,Instr.buildSlice,Sem.run_bind,zar hu,Result.andThen_ok,zdk hn];rw[if_neg (by omega)];by_cases h0:len * n=0
 ·have hl0:len=0:=by
   rcases Nat.mul_eq_zero.1 h0 with h | h
   ·exact h
   ·exact absurd h hn1
  subst hl0;simp only[yBw] at h1 ⊢;simp only[if_true,Sem.run_bind,Sem.run_pure,Result.andThen_ok];have e0:(Array.range 0).map (λ(x:Nat)=>(#[]:Array Value)[x % (#[]:Array Value).size]!)=(Array.range 0).map (λ(x:Nat)=>v.cells[x % v.cells.size]!):=by simp
  rw[e0,yCi,h1];simp only[Sem.run_bind,r1,Result.andThen_ok,Sem.run_pure]
 ·rw[if_neg h0];simp only[Sem.run_bind,run_zero hi hv,Result.andThen_ok,Sem.run_pure];rw[hvn] at h1;rw[hvn,yCi,h1];simp only[Sem.run_bind,r1,Result.andThen_ok,Sem.run_pure]
theorem store_ok(R:Rel U M Fz w)(E:zas U M Fz w env a.tmps){o:Oper}{t:TypeId}{x y:Operand}{ox oy:Opd}{n b off sz:Nat}{cs xs:List D}(ho:o.op=.store t x y)
  (hx:opd x=some ox) (hy:opd y=some oy) (hn:sizeOf? P t=some n) (he:ox.ev env=.ptr b off sz) (hr:zci U b sz=some cs) (hxs:(oy.ev env).cells? = some xs)
  (hc:xs.length=n/\off+n<=sz):Gives P (execOp a.eval o) U M Fz w (U.set b (.cells (put cs off xs))) (.tup []):=by
 have hv:=za5 E hx;rw[he] at hv;obtain ⟨c,hM,hva⟩:=hv.ptr_inv hr;obtain ⟨hb,hsz⟩:=zbZ hr;obtain ⟨arr,T,hh,hl,hcs⟩:=R.row hM hb;have hrow:=zdY.ofCells (za5 E hy) hxs;obtain ⟨_,_,h1c,_⟩:=(za5 E hy).cells hxs;have hle:off+xs.length<=cs.length:=by omega
 have hrun:=run_storeCells P T c (a.eval y).cells.toList 0 off w arr hh h1c (by simp[hrow.1];omega);have hshp:∀arr0 T0 fr,Obj.cells arr T (0,0)=.cells arr0 T0 fr->∃arr',Obj.cells (putA arr off (a.eval y).cells.toList) T (0,0)=.cells arr' T0 fr/\arr'.size=arr0.size:=by intro arr0 T0 fr h;simp only[Obj.cells.injEq] at h;obtain ⟨rfl,rfl,rfl⟩:=h;exact ⟨_,rfl,zcv (by simp[hrow.1];omega)⟩
 have hsame:(if (a.eval y).cells.toList=[] then w else setO w c (.cells (putA arr (off+0) (a.eval y).cells.toList) T (0,0)))=setO w c (.cells (putA arr off (a.eval y).cells.toList) T (0,0)):=by
  split
  ·rename_i hnil;rw[hnil];have:putA arr off []=arr:=by apply yB2;simp[putA]
   rw[this];unfold setO;have hlt:=(yAv.1 hh).1;have:w.heap.setIfInBounds c (.cells arr T (0,0))=w.heap:=by
    apply yB2;apply yAM;intro i;simp only[yA5,yAU];split
    ·rename_i e;subst e;exact hh.symm
    ·rfl
   rw[this]
  ·rfl
 rw[hsame] at hrun;have hs:(Ob.cells cs).sz<=(Ob.cells (put cs off xs)).sz:=by simp[Ob.sz,zde hle]
 have EV:=Evo.upd R hM hb hh hs hshp;refine ⟨.skip,undef,_,M,?_,.inr ⟨rfl,rfl⟩,R.upd hM hb hh hs hshp ?_,.tup #[] rfl (λi d v h=>by simp at h),EV,by simp⟩
 ·simp only[execOp,ho,Instr.storeAt,hva,Instr.sureAddr,Sem.run_bind,Sem.run_pure,Result.andThen_ok,storeVar,zdk hn];rw[if_neg (by simp[hrow.1];omega)];simp[hrun]
 ·refine ⟨_,T,rfl,by rw[zde hle,zcv (by simp[hrow.1];omega)];exact hl,λi d v h1 h2=>?_⟩;rw[getElem?_put hle] at h1;rw[getElem?_putA (by simp[hrow.1];omega)] at h2;simp only[Array.length_toList,hrow.1] at h2;split at h1
  ·rename_i hcnd;rw[if_pos hcnd] at h2;have:=hrow.2 _ _ _ h1 (by simpa using h2);exact ⟨this.1.mono EV,this.2⟩
  ·rename_i hcnd;rw[if_neg hcnd] at h2;have:=hcs _ _ _ h1 h2;exact ⟨this.1.mono EV,this.2⟩
end
end Go.Abs
end
section
namespace Go.Abs
variable[Gl]
section
variable{P:Program}{U U':Heap}{M M':Nat->Option Nat}{Fz:Nat->Prop}{w w':World}{env:List D}{a:Act}
theorem V.fld{b o sz off:Nat}{v:Value}(h:V U M Fz w (.ptr b o sz) v):∃ad,v=.pointer (some ad)/\V U M Fz w (.ptr b (o+off) sz) (.pointer (some (ad.add off))):=by
 cases h with
 |ptr ad ob hb hle hv=>refine ⟨ad,rfl,.ptr _ ob hb hle (λhe=>?_)⟩;obtain ⟨c,hc,rfl⟩:=hv he;exact ⟨c,hc,by rw[add_off]⟩
theorem VC.fld{cs:List C}{o off:Nat}{v:Value}(h:VC Fz w (.fptr cs o) v):∃ad,v=.pointer (some ad)/\VC Fz w (.fptr cs (o+off)) (.pointer (some (ad.add off))):=by
 generalize hx:C.fptr cs o=x at h;cases h with
 |fptr blk o0 c hF hc hv=>simp only[C.fptr.injEq] at hx;obtain ⟨rfl,rfl⟩:=hx;refine ⟨_,rfl,?_⟩;rw[add_off,yBL];exact .fptr blk o0 c hF hc hv
 |_=>simp at hx
theorem V.c_inv{x:C}{v:Value}(h:V U M Fz w (.c x) v):VC Fz w x v:=by cases h with | c h=>exact h
theorem fld_ok(E:zas U M Fz w env a.tmps){o:Oper}{s:TypeId}{x:Operand}{ox:Opd}{f n:Nat}{fs:Array Field}{fd:Field}{d:D}(ho:o.op=.fieldAddr s x f)
  (hx:opd x=some ox) (hu:P.underlying s=some (.struct fs)) (hf:fs[f]? = some fd) (hn:sizeOf? P fd.type=some n) (hn0:n≠0)
  (h:(match ox.ev env with
  |.ptr b o sz=>some (.ptr b (o+fd.offset) sz,U,([]:List Nat))
  |.c (.fptr cs o)=>some (.c (.fptr cs (o+fd.offset)),U,[])
  |_=>none)=some (d,U',[])):U'=U/\Yields P (execOp a.eval o) U M Fz w d:=by
 have hv:=za5 E hx;have key:∀ad,a.eval x=.pointer (some ad)->(execOp a.eval o).run P w=.ok (.value (.pointer (some (ad.add fd.offset)))) w:=by intro ad had;simp only[execOp,ho,Instr.fieldAt,Sem.run_bind,zar hu,Result.andThen_ok,hf,had,Instr.sureAddr,Sem.run_pure,fieldPlace,zdk hn];rw[if_neg hn0];simp only[Sem.run_pure,Result.andThen_ok]
 split at h
 ·rename_i b o' sz he;rw[he] at hv;simp only[yAa,yAc] at h;obtain ⟨rfl,rfl,_⟩:=h;obtain ⟨ad,had,hV⟩:=hv.fld (off:=fd.offset);exact ⟨rfl,Yields.same (key ad had) hV⟩
 ·rename_i cs o' he;rw[he] at hv;simp only[yAa,yAc] at h;obtain ⟨rfl,rfl,_⟩:=h;obtain ⟨ad,had,hV⟩:=hv.c_inv.fld (off:=fd.offset);exact ⟨rfl,Yields.same (key ad had) (.c hV)⟩
 ·simp at h
theorem inR_inv{i:Int}{n k:Nat}(h:inR i n=some k):0<=i/\i<n/\i.toNat=k/\k<n:=by
 unfold inR at h;split at h
 ·rename_i hc;simp only[yAa] at h;omega
 ·simp at h
theorem inB_inv{i:Int}{n k:Nat}(h:inB i n=some k):0<=i/\i<=n/\i.toNat=k/\k<=n:=by
 unfold inB at h;split at h
 ·rename_i hc;simp only[yAa] at h;omega
 ·simp at h
theorem V.sl_inv{b off len esz sz:Nat}{v:Value}{cs:List D}(h:V U M Fz w (.sl b off len esz sz) v)(hr:zci U b sz=some cs) :
  (v=.slice none 0 0/\len=0/\off=0/\sz=0/\cs=[])∨∃c o cap arr T,M b=some c/\v=.slice (some ⟨c,o,none⟩) len cap/\(len<=cap/\sz<=off+cap * esz)/\(o=off∨cap=0)/\w.heap[c]? = some (.cells arr T (0,0))/\o+cap * esz<=arr.size/\off+len * esz<=sz:=by
 obtain ⟨h1,h2⟩:=zbZ hr;cases h with
 |sl ad n cap hnn ob hb hle hv=>
  rw[h1] at hb;simp only[yAa] at hb;subst hb;rcases hv h2 with ⟨e1,e2,e3,e4,e5,e6⟩ | ⟨c,o,arr,T,hc,ha,hn,hl,ho,hh,hb,hz⟩
  ·subst e1 e2 e3;refine .inl ⟨rfl,e4,e5,e6,?_⟩;rw[e6] at h2;exact yAJ h2
  ·exact .inr ⟨c,o,cap,arr,T,hc,by rw[ha,hn],hl,ho,hh,hb,hz⟩
theorem V.mkPtr{b c off sz:Nat}{cs:List D}(hr:zci U b sz=some cs)(hM:M b=some c):V U M Fz w (.ptr b off sz) (.pointer (some ⟨c,off,none⟩)):=by obtain ⟨h1,h2⟩:=zbZ hr;exact .ptr _ _ h1 (by simp[Ob.sz,h2]) (λ_=>⟨c,hM,rfl⟩)
theorem idx_ok(E:zas U M Fz w env a.tmps){o:Oper}{t e:TypeId}{x i:Operand}{ox oi:Opd}{n:Nat}{d:D}(ho:o.op=.indexAddr t x i)
  (hx:opd x=some ox) (hi:opd i=some oi) (hu:P.underlying t=some (.slice e)) (hn:sizeOf? P e=some n) (hn0:n≠0)
  (h:(do
  let i <-zbJ (oi.ev env)
  match ox.ev env with
  |.sl b off len es sz => do
   let _ <-zci U b sz
   let k <-inR i len
   if es=n then some (.ptr b (off+k * n) sz,U,([]:List Nat)) else none
  |.c (.frz _ es) => do
   let k <-inR i es.length
   let e <-es[k]?
   if e.length=n then some (.c (.fptr e 0),U,[]) else none
  |_=>none)=some (d,U',[])):U'=U/\Yields P (execOp a.eval o) U M Fz w d:=by
 have hv:=za5 E hx;have hvi:=za5 E hi;simp only[Option.bind_eq_bind,yAe] at h;obtain ⟨z,hz,h⟩:=h;obtain ⟨k0,hk0⟩:=litInt_inv hvi hz;have key:∀ad len cap,a.eval x=.slice (some ad) len cap->0<=z->z<len->(execOp a.eval o).run P w=.ok (.value (.pointer (some (ad.add (z.toNat * n))))) w:=by intro ad len cap had h1 h2;simp only[execOp,ho,Instr.indexAt,Sem.run_bind,hk0,asIntOf,Sem.run_pure,Result.andThen_ok,zar hu,had];rw[if_pos ⟨h1,h2⟩];simp only[Sem.run_bind,zdk hn,Result.andThen_ok,Sem.run_pure]
 split at h
 ·rename_i b off len es sz he;rw[he] at hv;simp only[yAe] at h;obtain ⟨cs,hr,k,hk,h⟩:=h;split at h
  ·rename_i hes;simp only[yAa,yAc] at h;obtain ⟨rfl,rfl,_⟩:=h;obtain ⟨h1,h2,h3,h4⟩:=inR_inv hk;rcases hv.sl_inv hr with ⟨_,e2,_⟩ | ⟨c,o',cap,arr,T,hM,hva,hl,hoff,hh,hcap,hsz⟩
   ·omega
   have hoo:o'=off:=by
    rcases hoff with h | h
    ·exact h
    ·omega
   subst hoo;refine ⟨rfl,Yields.same (key _ _ _ hva h1 h2) ?_⟩;rw[add_off,h3];exact V.mkPtr hr hM
  ·simp at h
 ·rename_i nn es he;rw[he] at hv;simp only[yAe] at h;obtain ⟨k,hk,el,hel,h⟩:=h;split at h
  ·rename_i hes;simp only[yAa,yAc] at h;obtain ⟨rfl,rfl,_⟩:=h;obtain ⟨h1,h2,h3,h4⟩:=inR_inv hk;have hvc:=hv.c_inv;generalize hva:a.eval x=va at hvc;cases hvc with
   |frz esz ad cap hnn hz c hsz hcap hc hvv=>
    have hesz:esz=n:=by rw[<-hes];exact (hsz el (yAy hel)).symm
    subst hesz;have hpos:0<el.length:=by omega
    obtain ⟨blk,o0,rfl,hF,_,_⟩:=hc k 0 el el[0] hel (yAg hpos);refine ⟨rfl,Yields.same (key _ _ _ hva h1 h2) ?_⟩;rw[add_off,h3];refine .c ?_;have:=VC.fptr (Fz:=Fz) (w:=w) (cs:=el) (off:=0) blk (o0+k * esz) (c k) hF (λj d hj=>?_) (λj d hj=>hvv k j el d hel hj)
    ·simpa using this
    ·obtain ⟨blk',o0',h5,_,h6,h7⟩:=hc k j el d hel hj;simp only[yAa,Addr.mk.injEq,yBN] at h5;obtain ⟨rfl,rfl⟩:=h5;exact ⟨h6,h7⟩
  ·simp at h
 ·simp at h
theorem aidxAddr_ok(hgl:Gl.ok Fz w)(E:zas U M Fz w env a.tmps){o:Oper}{t e:TypeId}{x i:Operand}{ox oi:Opd}{n len:Nat}{d:D}(ho:o.op=.indexAddr t x i)
  (hx:opd x=some ox) (hi:opd i=some oi) (hu:P.underlying t=some (.array len e)) (hn:sizeOf? P e=some n)
  (h:(do
  let i <-zbJ (oi.ev env)
  let k <-inR i len
  match ox.ev env with
  |.ptr b off sz=>some (.ptr b (off+k * n) sz,U,([]:List Nat))
  |.c (.fptr cs off)=>some (.c (.fptr cs (off+k * n)),U,[])
  |.c (.glo g) => match Gl.tab g with
   |[]=>none
   |v::vs=>some (.c (.fptr ((v::vs).map .lit) (k * n)),U,[])
  |_=>none)=some (d,U',[])):U'=U/\Yields P (execOp a.eval o) U M Fz w d:=by
 have hv:=za5 E hx;have hvi:=za5 E hi;simp only[Option.bind_eq_bind,yAe] at h;obtain ⟨z,hz,k,hk,h⟩:=h;obtain ⟨k0,hk0⟩:=litInt_inv hvi hz;obtain ⟨h1,h2,h3,h4⟩:=inR_inv hk;have key:∀ad,a.eval x=.pointer (some ad)->(execOp a.eval o).run P w=.ok (.value (.pointer (some (ad.add (k * n))))) w:=by intro ad had;simp only[execOp,ho,Instr.indexAt,Sem.run_bind,hk0,asIntOf,Sem.run_pure,Result.andThen_ok,zar hu,had,Instr.sureAddr];rw[if_pos ⟨h1,h2⟩];simp only[Sem.run_bind,zdk hn,Result.andThen_ok,Sem.run_pure,h3]
 split at h
 ·rename_i b off sz he;rw[he] at hv;simp only[yAa,yAc] at h;obtain ⟨rfl,rfl,_⟩:=h;obtain ⟨ad,had,hV⟩:=hv.fld (off:=k * n);exact ⟨rfl,Yields.same (key ad had) hV⟩
 ·rename_i cs off he;rw[he] at hv;simp only[yAa,yAc] at h;obtain ⟨rfl,rfl,_⟩:=h;obtain ⟨ad,had,hV⟩:=hv.c_inv.fld (off:=k * n);exact ⟨rfl,Yields.same (key ad had) (.c hV)⟩
 ·rename_i g he;rw[he] at hv;split at h
  ·simp at h
  ·rename_i v vs hg;simp only[yAa,yAc] at h;obtain ⟨rfl,rfl,_⟩:=h;have had:a.eval x=.pointer (some ⟨g,0,none⟩):=by
    generalize a.eval x=y at hv;cases hv with
    |c hv=>cases hv;rfl
   have ht:∀(j:Nat) u,(v::vs)[j]? = some u->Fz g/\w.cell? ⟨g,j,none⟩=some u/\u.oneCell'=true:=λj u hj=>Gl.tabOk g j u hgl (by rw[hg];exact hj);refine ⟨rfl,Yields.same (key _ had) (.c ?_)⟩;have:=VC.fptr (Fz:=Fz) (w:=w) (cs:=(v::vs).map .lit) (off:=k * n) g 0 (λj=>((v::vs)[j]?).getD default) (ht 0 v rfl).1 (λj d hj=>?_) (λj d hj=>?_)
   ·have e:(⟨g,0,none⟩:Addr).add (k * n)=⟨g,k * n,none⟩:=by
     simp only[Addr.add,yBj];split
     ·rename_i h0;rw[h0]
     ·rfl
    rw[e];simpa using this
   ·rw[yAl,yAd] at hj;obtain ⟨u,hu,rfl⟩:=hj;rw[hu,xAc,yBj];exact (ht j u hu).2
   ·rw[yAl,yAd] at hj;obtain ⟨u,hu,rfl⟩:=hj;simp only[hu,Option.getD_some];exact .lit u
 ·simp at h
theorem sliceBound_ok(E:zas U M Fz w env a.tmps){x:Operand}{ox:Opd}{n k:Nat}(hx:opd x=some ox)(h:((zbJ (ox.ev env)).bind λi=>inB i n)=some k)(most:Nat)(hm:n<=most)(code:BoundsCode) :
  (Instr.sliceBound (a.eval x) most code).run P w=.ok k w/\k<=n:=by
 simp only[yAe] at h;obtain ⟨i,hi,hb⟩:=h;obtain ⟨k0,hk0⟩:=litInt_inv (za5 E hx) hi;obtain ⟨h1,h2,h3,h4⟩:=inB_inv hb;refine ⟨?_,h4⟩;simp only[Instr.sliceBound,Sem.run_bind,hk0,asIntOf,Sem.run_pure,Result.andThen_ok];rw[if_pos ⟨h1,by omega⟩,h3];rfl
theorem sliceBounds_ok(E:zas U M Fz w env a.tmps){lo hi:Option Operand}{olo ohi:Option Opd}{len mx cap l h:Nat}(hlo:opdO lo=some olo)(hhi:opdO hi=some ohi)(hc:mx<=cap)(hlm:ohi=none->len<=mx)
  (h1:zaC env len mx ohi=some h) (h2:zaC env 0 h olo=some l) :
  (Instr.sliceBounds true len cap (lo.map a.eval) (hi.map a.eval) none).run P w=.ok (l,h,cap) w/\h<=mx/\l<=h:=by
 have hh:h<=mx/\(match hi.map a.eval,(none:Option Value) with
  |some v,some _=>Instr.sliceBound v cap .slice3B
  |some v,none=>Instr.sliceBound v cap (if true then .sliceAcap else .sliceAlen)
  |none,none=>pure len
  |none,some _=>stuck "Slice: max without high" : Sem Nat).run P w=.ok h w:=by
  cases hi with
  |none=>simp only[opdO,yAa] at hhi;subst hhi;simp only[zaC,yAa] at h1;subst h1;exact ⟨hlm rfl,rfl⟩
  |some x=>simp only[opdO,yAd] at hhi;obtain ⟨ox,hox,rfl⟩:=hhi;simp only[zaC] at h1;obtain ⟨h3,h4⟩:=sliceBound_ok (P:=P) (w:=w) E hox h1 cap hc .sliceAcap;exact ⟨h4,by simpa using h3⟩
 have hl:l<=h/\(match lo.map a.eval with
  |some v=>Instr.sliceBound v h (if (none:Option Value).isSome then .slice3C else .sliceB)
  |none=>pure 0:Sem Nat).run P w=.ok l w:=by
  cases lo with
  |none=>simp only[opdO,yAa] at hlo;subst hlo;simp only[zaC,yAa] at h2;subst h2;exact ⟨yB3 _,rfl⟩
  |some x=>simp only[opdO,yAd] at hlo;obtain ⟨ox,hox,rfl⟩:=hlo;simp only[zaC] at h2;obtain ⟨h3,h4⟩:=sliceBound_ok (P:=P) (w:=w) E hox h2 h (yAo _) .sliceB;exact ⟨h4,by simpa using h3⟩
 refine ⟨?_,hh.1,hl.1⟩;have hh2:=hh.2;have hl2:=hl.2;clear hh hl;cases hi <;> cases lo <;> simp only[Option.map_some,Option.map_none,Sem.run_pure,Result.ok.injEq,yBN] at hh2 hl2 <;>
  simp only[Instr.sliceBounds,Option.map_some,Option.map_none,Sem.run_bind,Sem.run_pure,Result.andThen_ok,hh2,hl2]
theorem slc_ok(E:zas U M Fz w env a.tmps){o:Oper}{t e:TypeId}{x:Operand}{lo hi:Option Operand}{ox:Opd}{olo ohi:Option Opd}{n:Nat}{d:D}
  (ho:o.op=.slice t x lo hi none) (hx:opd x=some ox) (hlo:opdO lo=some olo) (hhi:opdO hi=some ohi) (hu:P.underlying t=some (.slice e)) (hn:sizeOf? P e=some n)
  (h:(match ox.ev env with
  |.c (.lit (.slice none 0 0)) => do
   let h <-zaC env 0 0 ohi
   let _ <-zaC env 0 h olo
   some (.c (.lit (.slice none 0 0)),U,([]:List Nat))
  |.c (.frz nn es) => do
   let h <-zaC env es.length es.length ohi
   let l <-zaC env 0 h olo
   if es.all (λe=>e.length=n) then some (.c (.frz nn ((es.take h).drop l)),U,[]) else none
  |.sl b off len es sz => do
   let _ <-zci U b sz
   let h <-(zaC env len len ohi).orElse λ_=>zaC env len ((sz-off) / es) ohi
   let l <-zaC env 0 h olo
   if es=n then some (.sl b (off+l * n) (h-l) n sz,U,[]) else none
  |_=>none)=some (d,U',[])):U'=U/\Yields P (execOp a.eval o) U M Fz w d:=by
 have hv:=za5 E hx;have key:∀ad len cap l h,a.eval x=.slice ad len cap->(Instr.sliceBounds true len cap (lo.map a.eval) (hi.map a.eval) none).run P w=.ok (l,h,cap) w ->
   (execOp a.eval o).run P w=.ok (.value (.slice (if cap=l then ad else ad.map (·.add (l * n))) (h-l) (cap-l))) w:=by
  intro ad len cap l h hva hb;have hnotarr:∀(s:Sem Value),(match TypeDesc.slice e with | .array _ _=>s | _=>Instr.slice t (a.eval x) (lo.map a.eval) (hi.map a.eval) none)=Instr.slice t (a.eval x) (lo.map a.eval) (hi.map a.eval) none:=λ_=>rfl;simp only[execOp,ho,Instr.sliceAt,Sem.run_bind,zar hu,Result.andThen_ok,Option.map_none];simp only[Instr.slice,Sem.run_bind,zar hu,Result.andThen_ok,hva,hb,zdk hn,Sem.run_pure]
 split at h
 ·rename_i he;rw[he] at hv;simp only[Option.bind_eq_bind,yAe,yAa,yAc] at h;obtain ⟨h',h1,l,h2,rfl,rfl,_⟩:=h;obtain ⟨hb,h3,h4⟩:=sliceBounds_ok (P:=P) (w:=w) E hlo hhi (yAo 0) (λ_=>yAo _) h1 h2;refine ⟨rfl,Yields.same (key _ _ _ _ _ hv.lit_inv hb) ?_⟩;obtain rfl:h'=0:=by omega
  obtain rfl:l=0:=by omega
  exact .c (.lit _)
 ·rename_i nn es he;rw[he] at hv;simp only[Option.bind_eq_bind,yAe] at h;obtain ⟨h',h1,l,h2,h⟩:=h;split at h
  ·rename_i hall;simp only[yAa,yAc] at h;obtain ⟨rfl,rfl,_⟩:=h;have hvc:=hv.c_inv;generalize hva:a.eval x=va at hvc;cases hvc with
   |frz esz ad cap hnn hz c hsz hcap hc hvv=>
    obtain ⟨hb,h3,h4⟩:=sliceBounds_ok (P:=P) (w:=w) E hlo hhi hcap (λ_=>yAo _) h1 h2;refine ⟨rfl,Yields.same (key _ _ _ _ _ hva hb) (.c ?_)⟩;have hlen:((es.take h').drop l).length=h'-l:=by simp;omega
    rw[<-hlen];refine .frz n _ _ (λhn=>by have:=hnn hn;split <;> simp[this]) (λhn=>by
     by_cases hcl:cap=l
     ·omega
     ·rw[if_neg hcl] at hn;simp only[Option.map_eq_none_iff] at hn;have:=hz hn;omega) (λi j=>c (l+i) j) (λe he=>?_) (by rw[hlen];omega) (λi j e d h5 h6=>?_) (λi j e d h5 h6=>?_)
    ·have:=yAp.1 hall e (yBg (yCc he));simpa using this
    ·rw[yAT] at h5;have hlt:=(yAb.1 h5).1;simp at hlt;rw[yA7 (by omega)] at h5;obtain ⟨blk,o0,rfl,hF,hcell,h1c⟩:=hc (l+i) j e d h5 h6;have hesz:esz=n:=by
      rw[<-hsz e (yAy h5)];have:=yAp.1 hall e (yAy h5);simpa using this
     subst hesz;refine ⟨blk,o0+l * esz,by rw[if_neg (by omega)];simp[add_off],hF,?_,h1c⟩;rw[<-hcell];congr 2;rw[yBe];omega
    ·rw[yAT] at h5;have hlt:=(yAb.1 h5).1;simp at hlt;rw[yA7 (by omega)] at h5;exact hvv (l+i) j e d h5 h6
  ·simp at h
 ·rename_i b off len es sz he;rw[he] at hv;simp only[Option.bind_eq_bind,yAe] at h;obtain ⟨cs,hr,h',h1,l,h2,h⟩:=h;split at h
  ·rename_i hes;subst hes;simp only[yAa,yAc] at h;obtain ⟨rfl,rfl,_⟩:=h;obtain ⟨h5,h6⟩:=zbZ hr;rcases hv.sl_inv hr with ⟨hva,e2,e3,e4,e6⟩ | ⟨c,o',cap,arr,T,hM,hva,hl,hoff,hh,hcap,hsz⟩
   ·subst e2;have h1':zaC env 0 0 ohi=some h':=by
     rw[e4,e3] at h1;simp only[yBV,Nat.zero_div] at h1;cases hx':zaC env 0 0 ohi with
     |none=>rw[hx'] at h1;simp[Option.orElse] at h1
     |some q=>rw[hx'] at h1;simpa[Option.orElse] using h1
    obtain ⟨hb,h3,h4⟩:=sliceBounds_ok (P:=P) (w:=w) E hlo hhi (yAo 0) (λ_=>yAo _) h1' h2;refine ⟨rfl,Yields.same (key _ _ _ _ _ hva hb) ?_⟩;obtain rfl:h'=0:=by omega
    obtain rfl:l=0:=by omega
    exact .sl _ _ _ (by simp) _ h5 (by simp[Ob.sz,h6]) (λ_=>.inl ⟨rfl,rfl,rfl,rfl,by omega,e4⟩)
   obtain ⟨mx,hmc,hlm,hms,h1⟩:∃mx,mx<=cap/\(ohi=none->len<=mx)/\off+mx * es<=sz/\zaC env len mx ohi=some h':=by
    cases hx':zaC env len len ohi with
    |some q=>rw[hx'] at h1;exact ⟨len,hl.1,λ_=>yAo _,hsz,by simpa[Option.orElse,hx'] using h1⟩
    |none=>
     rw[hx'] at h1;have h1:zaC env len ((sz-off) / es) ohi=some h':=by simpa[Option.orElse] using h1
     have hd:(sz-off) / es * es<=sz-off:=Nat.div_mul_le_self _ _;refine ⟨_,?_,λe=>by rw[e] at hx';simp[zaC] at hx',by omega,h1⟩;rcases Nat.eq_zero_or_pos es with h0 | h0
     ·rw[h0,Nat.div_zero];omega
     ·exact Nat.div_le_of_le_mul (by rw[Nat.mul_comm];omega)
   obtain ⟨hb,h3,h4⟩:=sliceBounds_ok (P:=P) (w:=w) E hlo hhi hmc hlm h1 h2;refine ⟨rfl,Yields.same (key _ _ _ _ _ hva hb) ?_⟩;have hsome:(if cap=l then some (Addr.mk c o' none) else (some (Addr.mk c o' none)).map (·.add (l * es)))=some (if cap=l then Addr.mk c o' none else (Addr.mk c o' none).add (l * es)):=by split <;> rfl
   rw[hsome];refine .sl _ _ _ (by simp) _ h5 (by simp[Ob.sz,h6]) (λ_=>?_);have hm1:l * es+(h'-l) * es=h' * es:=by rw[<-yBe];congr 1;omega
   have hm2:h' * es<=mx * es:=yAP _ h3;by_cases hcl:cap=l
   ·rw[if_pos hcl];have h0:cap-l=0:=by omega
    subst hcl;refine .inr ⟨c,o',arr,T,hM,rfl,rfl,⟨by omega,by rw[h0];omega⟩,.inr (by omega),hh,?_,?_⟩
    ·rw[h0];omega
    ·omega
   ·rw[if_neg hcl];have hm3:l * es+(cap-l) * es=cap * es:=by rw[<-yBe];congr 1;omega
    refine .inr ⟨c,o'+l * es,arr,T,hM,by rw[add_off],rfl,⟨by omega,by omega⟩,?_,hh,by omega,by omega⟩;rcases hoff with h | h
    ·exact .inl (by omega)
    ·exact .inr (by omega)
  ·simp at h
 ·simp at h
theorem slc3xok(E:zas U M Fz w env a.tmps){o:Oper}{t e:TypeId}{x lo hi mx:Operand}{ox olo ohi omx:Opd}{n b off len es sz h l:Nat}{cs:List D}
  (ho:o.op=.slice t x (some lo) (some hi) (some mx)) (hx:opd x=some ox) (hlo:opd lo=some olo) (hhi:opd hi=some ohi) (hmx:opd mx=some omx) (hu:P.underlying t=some (.slice e)) (hn:sizeOf? P e=some n)
  (he:ox.ev env=.sl b off len es sz) (hr:zci U b sz=some cs) (h0:((zbJ (omx.ev env)).bind λi=>inB i len)=some len) (h1:((zbJ (ohi.ev env)).bind λi=>inB i len)=some h) (h2:((zbJ (olo.ev env)).bind λi=>inB i h)=some l) :
  Yields P (execOp a.eval o) U M Fz w .any:=by
 have hv:=za5 E hx;rw[he] at hv;have go:∀ad cap,len<=cap->a.eval x=.slice ad len cap->Yields P (execOp a.eval o) U M Fz w .any:=by
  intro ad cap hc hva;have b0:=(sliceBound_ok (P:=P) (w:=w) E hmx h0 cap hc .slice3Acap).1;have b1:=(sliceBound_ok (P:=P) (w:=w) E hhi h1 len (yAo _) .slice3B).1;have b2:=(sliceBound_ok (P:=P) (w:=w) E hlo h2 h (yAo _) .slice3C).1;have hb:(Instr.sliceBounds true len cap (some (a.eval lo)) (some (a.eval hi)) (some (a.eval mx))).run P w=.ok (l,h,len) w:=by simp only[Instr.sliceBounds,Sem.run_bind,if_true,b0,Result.andThen_ok,b1,Option.isSome,b2,Sem.run_pure]
  refine Yields.same (v:=.slice (if len=l then ad else ad.map (·.add (l * n))) (h-l) (len-l)) ?_ (.any _);simp only[execOp,ho,Instr.sliceAt,Sem.run_bind,zar hu,Result.andThen_ok,Option.map_some];simp only[Instr.slice,Sem.run_bind,zar hu,Result.andThen_ok,hva,hb,zdk hn,Sem.run_pure]
 rcases hv.sl_inv hr with ⟨hva,e2,_,_,_⟩ | ⟨c,o',cap,arr,T,hM,hva,hl,_,_,_,_⟩
 ·subst e2;exact go none 0 (yAo _) hva
 ·exact go _ cap hl.1 hva
theorem extract_ok(E:zas U M Fz w env a.tmps){o:Oper}{x:Operand}{i:Nat}{ox:Opd}{ds:List D}{d:D}(ho:o.op=.extract x i)(hx:opd x=some ox)
  (he:ox.ev env=.tup ds) (hd:ds[i]? = some d):Yields P (execOp a.eval o) U M Fz w d:=by
 have hv:=za5 E hx;rw[he] at hv;generalize hva:a.eval x=va at hv;cases hv with
 |tup vs h1 hvs=>have hi:=(yAb.1 hd).1;have e:vs[i]? = some (vs[i]'(by omega)):=yAn _;refine Yields.same ?_ (hvs i _ _ hd e);simp[execOp,ho,Instr.extract,hva,e]
theorem list_ok(E:zas U M Fz w env a.tmps):∀(xs:List Operand)(os:List Opd),xs.mapM opd=some os ->
  (xs.map a.eval).length=(os.map (Opd.ev env)).length/\∀(i:Nat) d v,(os.map (Opd.ev env))[i]? = some d->(xs.map a.eval)[i]? = some v->V U M Fz w d v:=by
 intro xs;induction xs with
 |nil=>intro os h;simp only[List.mapM_nil,Option.pure_def,yAa] at h;subst h;simp
 |cons x xs ih=>
  intro os h;simp only[yAS,Option.pure_def,Option.bind_eq_bind,yAe,yAa] at h;obtain ⟨ox,hox,os',hos,rfl⟩:=h;obtain ⟨h1,h2⟩:=ih os' hos;refine ⟨by simp at h1 ⊢;exact h1,λi d v h3 h4=>?_⟩;cases i with
  |zero=>simp at h3 h4;subst h3 h4;exact za5 E hox
  |succ i=>exact h2 i d v (by simpa using h3) (by simpa using h4)
theorem opds_ok(E:zas U M Fz w env a.tmps){xs:Array Operand}{os:List Opd}(h:opds xs=some os) :
  (xs.map a.eval).size=(os.map (Opd.ev env)).length/\∀(i:Nat) d v,(os.map (Opd.ev env))[i]? = some d->(xs.map a.eval)[i]? = some v->V U M Fz w d v:=by
 obtain ⟨h1,h2⟩:=list_ok E xs.toList os h;refine ⟨by simpa using h1,λi d v h3 h4=>h2 i d v h3 ?_⟩;rw[<-yCi,yA5];exact h4
theorem mkfn_ok(E:zas U M Fz w env a.tmps){o:Oper}{f:Fn}{first cap:Array Operand}{o1 o2:List Opd}(ho:o.op=.makeFunc f first cap)(h1:opds first=some o1)(h2:opds cap=some o2) :
  Yields P (execOp a.eval o) U M Fz w (.fn f (o1.map (Opd.ev env)) (o2.map (Opd.ev env))):=by
 obtain ⟨a1,a2⟩:=opds_ok E h1;obtain ⟨b1,b2⟩:=opds_ok E h2;refine Yields.same (v:=.func f (first.map a.eval) (cap.map a.eval)) ?_ (.fn _ _ a1 b1 a2 b2);simp[execOp,ho,Instr.makeFunc]
theorem part_run{t:TypeId}{n:Option Nat}{cs:List D}{vs:Array Value}{off:Nat}{d:D}(hn:aggN P t=some n)(hg:zaT n cs off=some d)(h1:vs.size=cs.length)
  (hv:∀(i:Nat) d v,cs[i]? = some d->vs[i]? = some v->V U M Fz w d v):∃v,(part t vs off).run P w=.ok v w/\V U M Fz w d v:=by
 unfold aggN at hn;have agg:∀(i:TypeInfo),P.info? t=some i->n=some i.size->(isAgg t).run P w=.ok true w->∃v,(part t vs off).run P w=.ok v w/\V U M Fz w d v:=by
  intro i hi hn hagg;subst hn;simp only[zaT] at hg;split at hg
  ·rename_i hle;simp only[yAa] at hg;subst hg;refine ⟨.agg (vs.extract off (off+i.size)),by simp only[part,Sem.run_bind,hagg,Result.andThen_ok,if_true,sizeOf,zcV hi,Sem.run_pure],?_⟩;refine .agg _ (by simp;omega) (λj x v h3 h4=>?_);have hj:j<i.size:=by
    have:=(yAb.1 h3).1;simp at this;omega
   rw[yA7 hj,yAT] at h3;rw[Array.getElem?_extract,if_pos (by omega)] at h4;exact hv _ _ _ h3 h4
  ·simp at hg
 have one:n=none->(isAgg t).run P w=.ok false w->∃v,(part t vs off).run P w=.ok v w/\V U M Fz w d v:=by intro hn hagg;subst hn;simp only[zaT] at hg;have hi:=(yAb.1 hg).1;have e:vs[off]? = some (vs[off]'(by omega)):=yAn _;exact ⟨_,by simp only[part,Sem.run_bind,hagg,Result.andThen_ok,yAh,yAx,e,Sem.run_pure],hv _ _ _ hg e⟩
 cases hi:P.info? t with
 |none=>simp[hi] at hn
 |some i=>
  cases hu:P.underlying t with
  |none=>simp[hi,hu] at hn
  |some dsc=>
   rw[hi,hu] at hn;have hisagg:(isAgg t).run P w=.ok (dsc matches .struct _ | .array _ _) w:=by simp only[isAgg,Sem.run_bind,zar hu,Result.andThen_ok];cases dsc <;> rfl
   cases dsc <;> simp only[yAa] at hn <;>
    first
     |exact agg i hi hn.symm hisagg
     |exact one hn.symm hisagg
theorem part_ok(E:zas U M Fz w env a.tmps){o:Oper}{t:TypeId}{x:Operand}{ox:Opd}{f:Nat}{fs:Array Field}{fd:Field}{n:Option Nat}{cs:List D}{d:D}(ho:o.op=.field t x f)
  (hx:opd x=some ox) (hu:P.underlying t=some (.struct fs)) (hf:fs[f]? = some fd) (hn:aggN P fd.type=some n) (he:ox.ev env=.agg cs) (hg:zaT n cs fd.offset=some d) :
  Yields P (execOp a.eval o) U M Fz w d:=by
 have hv:=za5 E hx;rw[he] at hv;generalize hva:a.eval x=va at hv;cases hv with
 |agg vs h1 hvs=>obtain ⟨v,hr,hV⟩:=part_run (P:=P) hn hg h1 hvs;refine Yields.same (v:=v) ?_ hV;simp only[execOp,ho,Instr.field,Sem.run_bind,zar hu,Result.andThen_ok,hf,hva,asAgg,Sem.run_pure,hr]
theorem aidx_ok(E:zas U M Fz w env a.tmps){o:Oper}{t e:TypeId}{x i:Operand}{ox oi:Opd}{len sz k:Nat}{n:Option Nat}{cs:List D}{d:D}{z:Int}(ho:o.op=.index t x i)
  (hx:opd x=some ox) (hi:opd i=some oi) (hu:P.underlying t=some (.array len e)) (hs:sizeOf? P e=some sz) (hn:aggN P e=some n) (he:ox.ev env=.agg cs) (hz:zbJ (oi.ev env)=some z) (hk:inR z len=some k)
  (hg:zaT n cs (k * sz)=some d):Yields P (execOp a.eval o) U M Fz w d:=by
 have hv:=za5 E hx;rw[he] at hv;obtain ⟨k0,hk0⟩:=litInt_inv (za5 E hi) hz;obtain ⟨h1,h2,h3,h4⟩:=inR_inv hk;generalize hva:a.eval x=va at hv;cases hv with
 |agg vs h5 hvs=>obtain ⟨v,hr,hV⟩:=part_run (P:=P) hn hg h5 hvs;refine Yields.same (v:=v) ?_ hV;simp only[execOp,ho,Instr.index,Sem.run_bind,hk0,asIntOf,Sem.run_pure,Result.andThen_ok,zar hu,hva];rw[if_pos ⟨h1,h2⟩];simp only[Sem.run_bind,zdk hs,Result.andThen_ok,h3,hr]
end
end Go.Abs
end
section
namespace Go.Abs
variable[Gl]
section
variable{P:Program}{U U':Heap}{M M':Nat->Option Nat}{Fz:Nat->Prop}{w w':World}{env:List D}{a:Act}
theorem nilck_ok(E:zas U M Fz w env a.tmps){o:Oper}{x:Operand}{ox:Opd}{d:D}(ho:o.op=.nilCheck x)(hx:opd x=some ox)
  (h:(match ox.ev env with
  |.ptr b off sz=>some (.ptr b off sz,U,([]:List Nat))
  |.c (.fptr cs off)=>some (.c (.fptr cs off),U,[])
  |.c (.fn (.func f) first cap)=>some (.c (.fn (.func f) first cap),U,[])
  |.fn (.func f) first cap=>some (.fn (.func f) first cap,U,[])
  |_=>none)=some (d,U',[])):U'=U/\Yields P (execOp a.eval o) U M Fz w d:=by
 have hv:=za5 E hx;split at h
 ·rename_i he;rw[he] at hv;simp only[yAa,yAc] at h;obtain ⟨rfl,rfl,_⟩:=h;refine ⟨rfl,Yields.same (v:=a.eval x) ?_ hv⟩;generalize hva:a.eval x=va at hv;cases hv with
  |ptr=>simp[execOp,ho,hva]
 ·rename_i he;rw[he] at hv;simp only[yAa,yAc] at h;obtain ⟨rfl,rfl,_⟩:=h;refine ⟨rfl,Yields.same (v:=a.eval x) ?_ hv⟩;generalize hva:a.eval x=va at hv;cases hv with
  |c hv => cases hv with
   |fptr=>simp[execOp,ho,hva]
 ·rename_i he;rw[he] at hv;simp only[yAa,yAc] at h;obtain ⟨rfl,rfl,_⟩:=h;refine ⟨rfl,Yields.same (v:=a.eval x) ?_ hv⟩;generalize hva:a.eval x=va at hv;cases hv with
  |c hv => cases hv with
   |fn=>simp[execOp,ho,hva]
 ·rename_i he;rw[he] at hv;simp only[yAa,yAc] at h;obtain ⟨rfl,rfl,_⟩:=h;refine ⟨rfl,Yields.same (v:=a.eval x) ?_ hv⟩;generalize hva:a.eval x=va at hv;cases hv with
  |fn=>simp[execOp,ho,hva]
 ·simp at h
inductive NilLike:TypeDesc->Value->Value->Bool->Prop where
 |p0 (e:TypeId):NilLike (.pointer e) (.pointer none) (.pointer none) true
 |p1 (e:TypeId) (ad:Addr):NilLike (.pointer e) (.pointer (some ad)) (.pointer none) false
 |m0 (k e:TypeId):NilLike (.map k e) (.map none) (.map none) true
 |m1 (k e:TypeId) (r:Nat):NilLike (.map k e) (.map (some r)) (.map none) false
 |f0 (p r:Array TypeId) (v:Bool):NilLike (.func p r v) .nilFunc .nilFunc true
 |f1 (p r:Array TypeId) (v:Bool) (f:Fn) (x y:Array Value):NilLike (.func p r v) (.func f x y) .nilFunc false
 |s0 (e:TypeId):NilLike (.slice e) (.slice none 0 0) (.slice none 0 0) true
 |s1 (e:TypeId) (ad:Addr) (n c:Nat):NilLike (.slice e) (.slice (some ad) n c) (.slice none 0 0) false
theorem equal_nil{t:TypeId}{td:TypeDesc}{x y:Value}{b:Bool}(hu:P.underlying t=some td)(h:NilLike td x y b)(w:World) :
  (Op.equal t x y).run P w=.ok b w/\(Op.equal t y x).run P w=.ok b w:=by
 constructor
 ·show (Op.equalIn (9999+1) t x y).run P w=_;generalize 9999=n;cases h <;> (unfold Op.equalIn;simp[zar hu])
 ·show (Op.equalIn (9999+1) t y x).run P w=_;generalize 9999=n;cases h <;> (unfold Op.equalIn;simp[zar hu])
theorem nilLike_run{t:TypeId}{td:TypeDesc}{x y:Value}{b:Bool}(hu:P.underlying t=some td)(h:NilLike td x y b)(neg:Bool)(X Y:Operand)(w:World) :
  ((do eqGuard (if neg then .neq else .eql) t X Y x y;binOp (if neg then .neq else .eql) t x y:Sem Value).run P w=.ok (.bool (if neg then !b else b)) w) /\
  ((do eqGuard (if neg then .neq else .eql) t Y X y x;binOp (if neg then .neq else .eql) t y x:Sem Value).run P w=.ok (.bool (if neg then !b else b)) w):=by
 obtain ⟨h1,h2⟩:=equal_nil hu h w;have g1:∀op,(eqGuard op t X Y x y).run P w=.ok () w:=by intro op;cases h <;> cases op <;> rfl
 have g2:∀op,(eqGuard op t Y X y x).run P w=.ok () w:=by intro op;cases h <;> cases op <;> rfl
 have b1:(binOp (if neg then .neq else .eql) t x y).run P w=.ok (.bool (if neg then !b else b)) w:=by
  cases neg
  ·have:binOp .eql t x y=(do pure (.bool (<-Op.equal t x y)):Sem Value):=by cases h <;> rfl
   simp only[yAh,yAx,this,Sem.run_bind,h1,Result.andThen_ok,Sem.run_pure]
  ·have:binOp .neq t x y=(do pure (.bool (!(<-Op.equal t x y))):Sem Value):=by cases h <;> rfl
   simp only[if_true,this,Sem.run_bind,h1,Result.andThen_ok,Sem.run_pure]
 have b2:(binOp (if neg then .neq else .eql) t y x).run P w=.ok (.bool (if neg then !b else b)) w:=by
  cases neg
  ·have:binOp .eql t y x=(do pure (.bool (<-Op.equal t y x)):Sem Value):=by cases h <;> rfl
   simp only[yAh,yAx,this,Sem.run_bind,h2,Result.andThen_ok,Sem.run_pure]
  ·have:binOp .neq t y x=(do pure (.bool (!(<-Op.equal t y x))):Sem Value):=by cases h <;> rfl
   simp only[if_true,this,Sem.run_bind,h2,Result.andThen_ok,Sem.run_pure]
 exact ⟨by simp only[Sem.run_bind,g1,Result.andThen_ok,b1],by simp only[Sem.run_bind,g2,Result.andThen_ok,b2]⟩
theorem isNil_inv{td:TypeDesc}{k:Nat}{d:D}{v:Value}{b:Bool}(hk:nilKind td=some k)(hv:V U M Fz w d v)(h:isNil k d=some b) :
  ∃nv,NilLike td v nv b/\((k=0/\nv=.pointer none)∨(k=1/\nv=.map none)∨(k=2/\nv=.nilFunc)∨(k=3/\nv=.slice none 0 0)):=by
 cases td <;> simp only[nilKind,yAa,reduceCtorEq] at hk <;> subst hk
 ·cases d with
  |ptr=>
   simp only[isNil,yAa] at h;subst h;cases hv with
   |ptr ad=>exact ⟨_,.p1 _ ad,.inl ⟨rfl,rfl⟩⟩
  |c x=>
   cases x with
   |fptr=>
    simp only[isNil,yAa] at h;subst h;cases hv with
    |c hv => cases hv with
     |fptr=>exact ⟨_,.p1 _ _,.inl ⟨rfl,rfl⟩⟩
   |lit u=>
    cases u <;> simp[isNil] at h
    rename_i p;cases p <;> simp at h
    subst h;rw[hv.lit_inv];exact ⟨_,.p0 _,.inl ⟨rfl,rfl⟩⟩
   |_=>simp[isNil] at h
  |_=>simp[isNil] at h
 ·cases d with
  |sl b off len esz sz=>
   cases len with
   |zero=>simp[isNil] at h
   |succ len=>
    simp only[isNil,yAa] at h;subst h;cases hv with
    |sl ad n cap hnn=>
     cases ad with
     |none=>exact absurd rfl (hnn (by omega))
     |some ad=>exact ⟨_,.s1 _ _ _ _,.inr (.inr (.inr ⟨rfl,rfl⟩))⟩
  |c x=>
   cases x with
   |frz nn es=>
    cases nn <;> simp only[isNil,yAa,reduceCtorEq] at h
    subst h;have hvc:=hv.c_inv;generalize hx:C.frz true es=x at hvc;cases hvc with
    |frz esz ad cap hnn=>simp only[C.frz.injEq] at hx;obtain ⟨rfl,rfl⟩:=hx;obtain ⟨ad',rfl⟩:=yAX.1 (hnn rfl);exact ⟨_,.s1 _ _ _ _,.inr (.inr (.inr ⟨rfl,rfl⟩))⟩
    |_=>simp at hx
   |lit u=>
    cases u <;> try (simp[isNil] at h;done)
    rename_i p n c;cases p <;> cases n <;> cases c <;> simp[isNil] at h
    subst h;rw[hv.lit_inv];exact ⟨_,.s0 _,.inr (.inr (.inr ⟨rfl,rfl⟩))⟩
   |_=>simp[isNil] at h
  |_=>simp[isNil] at h
 ·cases d with
  |mp=>
   simp only[isNil,yAa] at h;subst h;cases hv with
   |mp=>exact ⟨_,.m1 _ _ _,.inr (.inl ⟨rfl,rfl⟩)⟩
  |c x=>
   cases x with
   |fmp=>
    simp only[isNil,yAa] at h;subst h;cases hv with
    |c hv => cases hv with
     |fmp=>exact ⟨_,.m1 _ _ _,.inr (.inl ⟨rfl,rfl⟩)⟩
   |lit u=>
    cases u <;> simp[isNil] at h
    rename_i p;cases p <;> simp at h
    subst h;rw[hv.lit_inv];exact ⟨_,.m0 _ _,.inr (.inl ⟨rfl,rfl⟩)⟩
   |_=>simp[isNil] at h
  |_=>simp[isNil] at h
 ·cases d with
  |fn=>
   simp only[isNil,yAa] at h;subst h;cases hv with
   |fn=>exact ⟨_,.f1 _ _ _ _ _ _,.inr (.inr (.inl ⟨rfl,rfl⟩))⟩
  |c x=>
   cases x with
   |fn=>
    simp only[isNil,yAa] at h;subst h;cases hv with
    |c hv => cases hv with
     |fn=>exact ⟨_,.f1 _ _ _ _ _ _,.inr (.inr (.inl ⟨rfl,rfl⟩))⟩
   |lit u=>
    cases u <;> simp[isNil] at h
    subst h;rw[hv.lit_inv];exact ⟨_,.f0 _ _ _,.inr (.inr (.inl ⟨rfl,rfl⟩))⟩
   |_=>simp[isNil] at h
  |_=>simp[isNil] at h
theorem isNilConst_inv{k:Nat}{x:Operand}{nv:Value}(h:isNilConst k x=true)(hn:(k=0/\nv=.pointer none)∨(k=1/\nv=.map none)∨(k=2/\nv=.nilFunc)∨(k=3/\nv=.slice none 0 0)):x=.const nv:=by unfold isNilConst at h;split at h <;> simp at h <;> subst h <;> rcases hn with ⟨h1,h2⟩ | ⟨h1,h2⟩ | ⟨h1,h2⟩ | ⟨h1,h2⟩ <;> first | (subst h2;rfl) | omega
theorem isnil_ok(E:zas U M Fz w env a.tmps){o:Oper}{t t2:TypeId}{td:TypeDesc}{x y:Operand}{neg:Bool}{k k':Nat}{neg':Bool}{ox:Opd}{b:Bool}
  (ho:o.op=.binOp (if neg then .neq else .eql) t x y t2) (hu:P.underlying t=some td) (hk:nilKind td=some k) (hc:compNil k neg x y=some (.isnil k' neg' ox)) (hb:isNil k' (ox.ev env)=some b) :
  Yields P (execOp a.eval o) U M Fz w (.c (.lit (.bool (if neg' then !b else b)))):=by
 unfold compNil at hc;split at hc
 ·rename_i hy;simp only[yAd,AOp.isnil.injEq] at hc;obtain ⟨ox',hox,rfl,rfl,rfl⟩:=hc;obtain ⟨nv,hN,hnv⟩:=isNil_inv hk (za5 E hox) hb;obtain rfl:=isNilConst_inv hy hnv;refine Yields.same (v:=.bool (if neg then !b else b)) ?_ (.c (.lit _));have:=(nilLike_run hu hN neg x (.const nv) w).1;simp only[execOp,ho,Sem.run_bind];simp only[Sem.run_bind] at this;have e:a.eval (.const nv)=nv:=rfl;rw[e,this];rfl
 ·split at hc
  ·rename_i hx;simp only[yAd,AOp.isnil.injEq] at hc;obtain ⟨ox',hox,rfl,rfl,rfl⟩:=hc;obtain ⟨nv,hN,hnv⟩:=isNil_inv hk (za5 E hox) hb;obtain rfl:=isNilConst_inv hx hnv;refine Yields.same (v:=.bool (if neg then !b else b)) ?_ (.c (.lit _));have:=(nilLike_run hu hN neg y (.const nv) w).2;simp only[execOp,ho,Sem.run_bind];simp only[Sem.run_bind] at this;have e:a.eval (.const nv)=nv:=rfl;rw[e,this];rfl
  ·simp at hc
theorem sliceLen_inv{d:D}{v:Value}{n:Nat}(hv:V U M Fz w d v)(h:zbT U d=some n):∃ad cap,v=.slice ad n cap:=by
 unfold zbT at h;split at h
 ·simp only[yAa] at h;subst h;exact ⟨_,_,hv.lit_inv⟩
 ·simp only[yAa] at h;subst h;cases hv with
  |c hv => cases hv with
   |frz=>exact ⟨_,_,rfl⟩
 ·split at h
  ·rename_i hr;simp only[yAa] at h;subst h;obtain ⟨cs,hr⟩:=yAX.1 hr;rcases hv.sl_inv hr with ⟨hv',e2,_⟩ | ⟨c,o,cap,arr,T,_,hv',_⟩
   ·exact ⟨_,_,by rw[e2];exact hv'⟩
   ·exact ⟨_,_,hv'⟩
  ·simp at h
 ·simp at h
theorem flatten_get{es:List (List C)}{n:Nat}(h:∀e∈es,e.length=n):∀(i j:Nat) e d,es[i]? = some e->e[j]? = some d->es.flatten[i * n+j]? = some d:=by
 induction es with
 |nil=>intro i j e d h1;simp at h1
 |cons e0 es ih=>
  intro i j e d h1 h2;have h0:=h e0 (by simp);cases i with
  |zero=>simp at h1;subst h1;simp only[List.flatten_cons,yBw,yBj];rw[yAr (yAb.1 h2).1];exact h2
  |succ i=>simp only[List.flatten_cons];rw[yA0 (by rw[h0,yCo];omega)];have:=ih (λe he=>h e (by simp[he])) i j e d (by simpa using h1) h2;rw[<-this];congr 1;rw[h0,yCo];omega
theorem flatten_len{es:List (List C)}{n:Nat}(h:∀e∈es,e.length=n):es.flatten.length=es.length * n:=by
 induction es with
 |nil=>simp
 |cons e0 es ih=>simp only[List.flatten_cons,yAC,List.length_cons];rw[ih (λe he=>h e (by simp[he])),h e0 (by simp),yCo];omega
theorem zbh (R:Rel U M Fz w) {d:D} {v:Value} {esz n:Nat} {cs:List D} (hv:V U M Fz w d v) (h0:esz≠0) (h:zcL U esz n d=some cs) :
    ∃arr,(Builtin.firstCells esz n v).run P w=.ok arr w∧zdY U M Fz w cs arr∧cs.length=n * esz:=by
  have load:∀(ad:Addr) (len cap:Nat) (cs:List D),v=.slice (some ad) len cap→cs.length=n * esz →
      (∀(i:Nat) x,cs[i]? = some x→∃u,w.cell? (ad.add i)=some u∧V U M Fz w x u∧u.oneCell'=true) →
      ∃arr,(Builtin.firstCells esz n v).run P w=.ok arr w∧zdY U M Fz w cs arr∧cs.length=n * esz:=by
    intro ad len cap cs hva hlen hcell
    let f:Nat→Value:=fun j=>(w.cell? (ad.add j)).getD undef
    have hf:∀j,j<n * esz→w.cell? (ad.add j)=some (f j):=by
      intro j hj
      obtain ⟨u,h1,_⟩:=hcell j _ (yAg (by omega))
      simp only [f,h1,Option.getD_some]
    have hrun:=run_loadCells (P:=P) (w:=w) ad (n * esz) f hf
    refine ⟨_,by rw [hva]; simp only [Builtin.firstCells]; exact hrun,⟨by simp [hlen],fun i x u h1 h2=>?_⟩,hlen⟩
    obtain ⟨u',h3,h4,h5⟩:=hcell i x h1
    have hi:i<n * esz:=by rw [←hlen]; exact (yAb.1 h1).1
    have:u=u':=by
      simp [hi,f,h3] at h2
      exact h2.symm
    rw [this]
    exact ⟨h4,h5⟩
  have empty:∀(cs:List D),n=0→cs=[]→(∃ad len cap,v=.slice ad len cap)→∃arr,(Builtin.firstCells esz n v).run P w=.ok arr w∧zdY U M Fz w cs arr∧cs.length=n * esz:=by
    intro cs hn hcs ⟨ad,len,cap,hva⟩
    subst hn hcs
    cases ad with
    | none=>exact ⟨#[],by rw [hva]; rfl,⟨rfl,fun i x u h=>by simp at h⟩,by simp⟩
    | some ad=>exact load ad len cap [] hva (by simp) (fun i x h=>by simp at h)
  unfold zcL at h
  split at h
  · split at h
    · rename_i hn
      simp only [yAa] at h
      exact empty cs hn h.symm ⟨_,_,_,hv.lit_inv⟩
    · simp at h
  · rename_i nn es
    split at h
    · rename_i hc
      simp only [yAa] at h
      subst h
      obtain ⟨hn,hall⟩:=hc
      have hlen:∀e∈es.take n,e.length=esz:=fun e he=>by simpa using List.all_eq_true.1 hall e (yBg he)
      have hfl:((es.take n).flatten.map D.c).length=n * esz:=by
        rw [yAz,flatten_len hlen,yA6]
        congr 1
        omega
      have hvc:=hv.c_inv
      generalize hva:v=va at hvc
      cases hvc with
      | frz sz ad cap hnn _ c hsz hcap hcc hvv =>
        by_cases hn0:n=0
        · exact hva▸empty _ hn0 (by subst hn0; simp) ⟨_,_,_,hva⟩
        · have hp:0<es.length:=by omega
          have he0:es[0]? = some es[0]:=yAg hp
          have hl0:es[0].length=esz:=by simpa using List.all_eq_true.1 hall es[0] (yAk _)
          have hsz0:sz=esz:=by rw [←hsz es[0] (yAk _),hl0]
          subst hsz0
          obtain ⟨blk,o0,rfl,_⟩:=hcc 0 0 es[0] (es[0][0]'(by omega)) he0 (yAg _)
          refine hva▸load _ _ _ _ hva hfl (fun i x hi=>?_)
          have hilt:i<n * sz:=by rw [←hfl]; exact (yAb.1 hi).1
          have hdiv:i / sz<n:=Nat.div_lt_of_lt_mul (by rw [Nat.mul_comm]; exact hilt)
          have hmod:i % sz<sz:=Nat.mod_lt _ (by omega)
          have hk:es[i / sz]? = some (es[i / sz]'(by omega)):=yAg _
          have hk':(es.take n)[i / sz]? = some (es[i / sz]'(by omega)):=by rw [yA7 hdiv]; exact hk
          have hkl:(es[i / sz]'(by omega)).length=sz:=hsz _ (yAk _)
          have hj:(es[i / sz]'(by omega))[i % sz]? = some ((es[i / sz]'(by omega))[i % sz]'(by omega)):=yAg _
          have hfg:=flatten_get hlen (i / sz) (i % sz) _ _ hk' hj
          rw [show i / sz * sz+i % sz=i from by rw [Nat.mul_comm]; exact Nat.div_add_mod i sz] at hfg
          rw [yAl,hfg] at hi
          simp only [Option.map_some,yAa] at hi
          subst hi
          obtain ⟨blk',o0',h1,h2,h3,h4⟩:=hcc _ _ _ _ hk hj
          simp only [yAa,Addr.mk.injEq,yBN] at h1
          obtain ⟨rfl,rfl⟩:=h1
          refine ⟨_,?_,.c (hvv _ _ _ _ hk hj),h4⟩
          rw [add_off,←h3]
          congr 2
          rw [yBL]
          congr 1
          rw [Nat.mul_comm]
          exact (Nat.div_add_mod i sz).symm
    · simp at h
  · rename_i b off len es sz
    simp only [Option.bind_eq_bind,yAe] at h
    obtain ⟨row,hr,h⟩:=h
    split at h
    · rename_i hc
      obtain ⟨rfl,hn,hle⟩:=hc
      simp only [yAa] at h
      subst h
      obtain ⟨hb,hsz⟩:=zbZ hr
      rcases hv.sl_inv hr with ⟨hva,e2,_⟩ | ⟨c,o,cap,arr,T,hM,hva,hl,hoff,hh,hcap,_⟩
      · exact empty _ (by omega) (by have : n = 0 := by omega
                                     subst this; simp) ⟨_,_,_,hva⟩
      by_cases hn0:n=0
      · exact empty _ hn0 (by subst hn0; simp) ⟨_,_,_,hva⟩
      · have hoo:o=off:=by
          rcases hoff with h | h
          · exact h
          · omega
        subst hoo
        have hnl:n * es≤len * es:=yAP _ hn
        obtain ⟨arr',T',hh',hl',hcs⟩:=R.row hM hb
        refine load _ _ _ _ hva (by simp; omega) (fun i x hi=>?_)
        have hilt:i<n * es:=by have:=(yAb.1 hi).1; simp at this; omega
        rw [yA7 hilt,yAT] at hi
        have hil:=(yAb.1 hi).1
        have e:arr'[o+i]? = some (arr'[o+i]'(by omega)):=yAn _
        have:=hcs _ _ _ hi e
        exact ⟨_,by rw [add_off,cell_of_row w c _ arr' T' (0,0) hh']; exact e,this.1,this.2⟩
    · simp at h
  · simp at h
theorem len_ok(E:zas U M Fz w env a.tmps){o:Oper}{t e:TypeId}{x:Operand}{ox:Opd}{args:Array Operand}{ats:Array TypeId}{n:Nat}(ho:o.op=.call { callee:=.builtin .len,args:=args,argTypes:=ats })
  (ht:ats[0]? = some t) (hx0:args[0]? = some x) (hs:args.size=1) (hx:opd x=some ox) (hu:P.underlying t=some (.slice e)) (h:zbT U (ox.ev env)=some n) :
  Yields P (execOp a.eval o) U M Fz w (.c (.lit (.int .i64 n))):=by
 obtain ⟨ad,cap,hva⟩:=sliceLen_inv (za5 E hx) h;have hargs:args=#[x]:=by
  apply yB2;apply yAM;intro i;simp only[yA5];cases i with
  |zero=>simpa using hx0
  |succ i=>rw[yBp (by omega)];simp
 subst hargs;refine Yields.same (v:=.int .i64 n) ?_ (.c (.lit _));simp[execOp,ho,resolve,invoke,builtin,Builtin.len_,ht,zar hu,hva,goInt]
theorem lenArr_ok{o:Oper}{t e:TypeId}{x:Operand}{args:Array Operand}{ats:Array TypeId}{n:Nat}(ho:o.op=.call { callee:=.builtin .len,args:=args,argTypes:=ats })
  (ht:ats[0]? = some t) (hx0:args[0]? = some x) (hs:args.size=1) (hu:P.underlying t=some (.array n e)) :
  Yields P (execOp a.eval o) U M Fz w (.c (.lit (.int .i64 n))):=by
 have hargs:args=#[x]:=by
  apply yB2;apply yAM;intro i;simp only[yA5];cases i with
  |zero=>simpa using hx0
  |succ i=>rw[yBp (by omega)];simp
 subst hargs;refine Yields.same (v:=.int .i64 n) ?_ (.c (.lit _));simp[execOp,ho,resolve,invoke,builtin,Builtin.len_,ht,zar hu,goInt]
theorem lenMap_ok(R:Rel U M Fz w)(E:zas U M Fz w env a.tmps){o:Oper}{t k e:TypeId}{x:Operand}{ox:Opd}{args:Array Operand}{ats:Array TypeId}{n:Nat}(ho:o.op=.call { callee:=.builtin .len,args:=args,argTypes:=ats })
  (ht:ats[0]? = some t) (hx0:args[0]? = some x) (hs:args.size=1) (hx:opd x=some ox) (hu:P.underlying t=some (.map k e))
  (h:(∃b es clock,ox.ev env=.mp b/\U[b]? = some (.map es clock)/\n=es.length)∨(ox.ev env=.c (.lit (.map none))/\n=0)∨∃fs,ox.ev env=.c (.fmp fs)/\n=fs.length) :
  Gives P (execOp a.eval o) U M Fz w U (.c (.lit (.int .i64 n))):=by
 have hargs:args=#[x]:=by
  apply yB2;apply yAM;intro i;simp only[yA5];cases i with
  |zero=>simpa using hx0
  |succ i=>rw[yBp (by omega)];simp
 subst hargs;refine Gives.same R (v:=.int .i64 n) ?_ (.c (.lit _));have hv:=za5 E hx;rcases h with ⟨b,es,clock,he,hb,rfl⟩ | ⟨he,rfl⟩ | ⟨fs,he,rfl⟩
 ·rw[he] at hv;generalize hva:a.eval x=va at hv;cases hv with
  |mp c ob hob hM=>rw[hb] at hob;simp only[yAa] at hob;subst hob;obtain ⟨_,ob',o',h1,h2,h3⟩:=R.blk b c (hM rfl);rw[hb] at h1;simp only[yAa] at h1;subst h1;obtain ⟨arr,⟨ck,rfl,_⟩,hsz,_⟩:=h3;simp[execOp,ho,resolve,invoke,builtin,Builtin.len_,ht,zar hu,hva,goInt,getObj,Sem.run,h2,hsz]
 ·rw[he] at hv;simp[execOp,ho,resolve,invoke,builtin,Builtin.len_,ht,zar hu,hv.lit_inv,goInt]
 ·rw[he] at hv;generalize hva:a.eval x=va at hv;cases hv with
  |c hv => cases hv with
   |fmp blk clock arr hF hh hsz hk' hv'=>simp[execOp,ho,resolve,invoke,builtin,Builtin.len_,ht,zar hu,hva,goInt,getObj,Sem.run,hh,hsz]
theorem mk_ok(hfz:∀c,Fz c->c<w.heap.size)(E:zas U M Fz w env a.tmps){o:Oper}{t e:TypeId}{x y:Operand}{ox oy:Opd}{n:Nat}{i:TypeInfo}{z:List D}{l c:Int}(ho:o.op=.makeSlice t x y)
  (hu:P.underlying t=some (.slice e)) (hn:sizeOf? P e=some n) (hz:zbu P e=some z) (hi:P.info? e=some i) (hn0:¬(n=0∨z.length≠n)) (hx:opd x=some ox) (hy:opd y=some oy)
  (hl:zbJ (ox.ev env)=some l) (hc:zbJ (oy.ev env)=some c) (hcnd:0<=l/\l<=c/\zdX c.toNat i.bytes=true) :
  Allocs P (execOp a.eval o) U M Fz w (.cells (zdu l.toNat z)) (.sl U.length 0 l.toNat n (l.toNat * n)):=by
 obtain ⟨i',v,hi',hv,hcz⟩:=zcQ hz;rw[hi] at hi';simp only[yAa] at hi';subst hi';have hrow:=zdY.ofCells (V.ofVal (U:=U) (M:=M) (Fz:=Fz) (w:=w) v) hcz;simp only[not_or,yAN] at hn0;obtain ⟨hn1,hzn⟩:=hn0;have hzne:z≠[]:=λh=>by simp[h] at hzn;omega
 have hvn:v.cells.size=n:=by rw[hrow.1,hzn]
 obtain ⟨h0,hlc,hroom⟩:=hcnd;simp only[zdX,yAj,yAf] at hroom;obtain ⟨⟨hr1,hr2⟩,_⟩:=hroom;obtain ⟨k1,hk1⟩:=litInt_inv (za5 E hx) hl;obtain ⟨k2,hk2⟩:=litInt_inv (za5 E hy) hc;obtain ⟨hz1,hz2⟩:=zeros_row hrow hzne l.toNat c.toNat (by omega);have hcs:(zdu l.toNat z).length=l.toNat * n:=by rw[length_zeros,hzn]
 have hlim:c<=1099511627776:=by omega
 have hwl:IntKind.i64.wrap l=l:=IntWalk.i64_in _ (by omega);have hwc:IntKind.i64.wrap c=c:=IntWalk.i64_in _ (by omega)
 let arr:Array Value:=(Array.range (c.toNat * n)).map (λ(x:Nat)=>v.cells[x % v.cells.size]!)
 have harr:arr=(Array.range (c.toNat * v.cells.size)).map (v.cells[· % v.cells.size]!):=by simp only[arr,hvn]
 obtain ⟨r1,r2⟩:=newRow_ok (P:=P) hfz (arr:=arr) (cs:=zdu l.toNat z) e (by rw[hcs,harr];rw[hzn] at hz1;exact hz1) (by rw[harr];exact hz2);refine ⟨_,.slice (some ⟨w.heap.size,0,none⟩) l.toNat c.toNat,?_,r2,?_⟩
 ·have htoo:∀m:Int,0<=m->m<=c->(m<0 || (i.bytes:Int) * m > 2 ^ 48)=false:=by
   intro m hm1 hm2;have h1:(i.bytes:Int) * m<=i.bytes * c:=Int.mul_le_mul_of_nonneg_left hm2 (by omega);have h2:((c.toNat * i.bytes:Nat):Int)<=((2 ^ 40:Nat):Int):=by exact_mod_cast hr1
   have h3:((c.toNat * i.bytes:Nat):Int)=i.bytes * c:=by rw[Int.natCast_mul,Int.toNat_of_nonneg (by omega),yBK]
   simp only[yBG,yAW];constructor
   ·omega
   ·rw[h3] at h2;have:((2:Int) ^ 48)=281474976710656:=by decide
    have h4:(((2:Nat) ^ 40:Nat):Int)=1099511627776:=by decide
    omega
  simp only[execOp,ho,Instr.makeSlice,Sem.run_bind,zar hu,Result.andThen_ok,hk1,hk2,asInt,asIntOf,Sem.run_pure,zcV hi,hwl,hwc];rw[htoo c (by omega) (Int.le_refl _)];rw[if_neg (by simp;omega)];simp only[Sem.run_bind,Sem.run_pure,Result.andThen_ok,run_askRoom,zdk hn];by_cases hcn:c.toNat * n=0
  ·have hc0:c.toNat=0:=by
    rcases Nat.mul_eq_zero.1 hcn with h | h
    ·exact h
    ·exact absurd h hn1
   have hl0:l.toNat=0:=by omega
   rw[if_pos hcn];simp only[Sem.run_bind,Sem.run_pure,Result.andThen_ok];have:(Array.range (c.toNat * n)).map (λ(x:Nat)=>(#[]:Array Value)[x % (#[]:Array Value).size]!)=arr:=by simp only[arr,hc0,yBw];simp
   rw[this];simp only[Sem.run_bind,r1,Result.andThen_ok,Sem.run_pure]
  ·rw[if_neg hcn];simp only[Sem.run_bind,run_zero hi hv,Result.andThen_ok,Sem.run_pure];rw[show (Array.range (c.toNat * n)).map (λ(x:Nat)=>v.cells[x % v.cells.size]!)=arr from rfl];simp only[Sem.run_bind,r1,Result.andThen_ok,Sem.run_pure]
 ·rw[<-hcs];refine V.newSl (cap:=c.toNat) (by omega) ?_ (by rw[hcs];exact yAo _) (by rw[hcs];exact yAP _ (by omega));simp[arr]
end
end Go.Abs
end
section
namespace Go.Abs
variable[Gl]
section
variable{P:Program}{U U':Heap}{M M':Nat->Option Nat}{Fz:Nat->Prop}{w w':World}{env:List D}{a:Act}
theorem mkmap_ok{o:Oper}{t:TypeId}(ho:o.op=.makeMap t none):Allocs P (execOp a.eval o) U M Fz w (.map [] 0) (.mp U.length):=by
 refine ⟨.map #[] 0,.map (some w.heap.size),?_,?_,?_⟩
 ·simp only[execOp,ho,Instr.makeMap,Option.map_none,Sem.run_bind,Sem.run_pure,Result.andThen_ok,run_newObj];rfl
 ·exact ⟨#[],⟨0,rfl,.nil 0⟩,rfl,λi k d n e h=>by simp at h⟩
 ·exact .mp _ (.map [] 0) (by simp) (λ_=>by simp[upM])
theorem Rel.mapAt(R:Rel U M Fz w){b c:Nat}{es:List (Value×D×Nat)}{clock:Nat}(hb:U[b]? = some (.map es clock))(hM:M b=some c) :
  ∃arr ck,w.heap[c]? = some (.map arr ck)/\(arr.size=es.length/\Births arr ck)/\∀(i:Nat) k d n e,es[i]? = some (k,d,n)->arr[i]? = some e->e.key=k/\True/\V U M Fz w d e.val:=by
 obtain ⟨_,ob',o',h1,h2,h3⟩:=R.blk b c hM;rw[hb] at h1;simp only[yAa] at h1;subst h1;obtain ⟨arr,⟨ck,rfl,hB⟩,hsz,hv⟩:=h3;exact ⟨arr,ck,h2,⟨hsz,hB⟩,hv⟩
theorem V.mp_inv{b:Nat}{v:Value}{es:List (Value×D×Nat)}{clock:Nat}(h:V U M Fz w (.mp b) v)(hb:U[b]? = some (.map es clock)):∃c,v=.map (some c)/\M b=some c:=by
 cases h with
 |mp c ob hob hM=>rw[hb] at hob;simp only[yAa] at hob;subst hob;exact ⟨c,rfl,hM rfl⟩
theorem zbK{kt:TypeId}{kd:TypeDesc}(hu:P.underlying kt=some kd)(hs:zee kd=true)(empty:Bool)(v:Value)(w:World):(Instr.checkKey empty 10000 kt v).run P w=.ok () w:=by show (Instr.checkKey empty (9999+1) kt v).run P w=_;generalize 9999=n;unfold Instr.checkKey;cases kd <;> simp[zee] at hs <;> simp[zar hu]
theorem findK_ok{kind:TypeDesc}{k:Value}:∀(es:List (Value×D×Nat))(l:List MapEntry)(i:Nat)(r:Option (Nat×D)),l.length=es.length ->
  (∀(j:Nat) k d n e,es[j]? = some (k,d,n)->l[j]? = some e->e.key=k/\V U M Fz w d e.val)->findK kind k es i=some r ->
  ∃ r', Instr.findNow kind k l i = some r' /\ (match r, r' with
   |none,none=>True
   |some (j,d),some (j',v)=>j=j'/\i<=j/\j<i+es.length/\V U M Fz w d v/\∃e,l[j-i]? = some e/\Instr.sameNow kind k e.key=some true
   |_,_=>False):=by
 intro es;induction es with
 |nil=>
  intro l i r hl _ h;simp only[findK,yAa] at h;subst h;have:l=[]:=by simpa using hl
  subst this;exact ⟨none,rfl,trivial⟩
 |cons x es ih=>
  intro l i r hl hv h;obtain ⟨k',d,n⟩:=x;cases l with
  |nil=>simp at hl
  |cons e l=>
   obtain ⟨hk,hV⟩:=hv 0 k' d n e (by simp) (by simp);simp only[findK] at h;simp only[Instr.findNow,hk];cases hs:Instr.sameNow kind k k' with
   |none=>simp[hs] at h
   |some t=>
    cases t with
    |true=>simp only[hs,yAa] at h;subst h;exact ⟨_,rfl,rfl,yAo _,by simp,hV,e,by simp,by rw[hk];exact hs⟩
    |false=>
     simp only[hs] at h;obtain ⟨r',h1,h2⟩:=ih l (i+1) r (by simpa using hl) (λj k d n e h1 h2=>hv (j+1) k d n e (by simpa using h1) (by simpa using h2)) h;refine ⟨r',h1,?_⟩;cases r with
     |none => cases r' with
      |none=>trivial
      |some _=>exact h2
     |some p => cases r' with
      |none=>exact h2
      |some q=>obtain ⟨j,d'⟩:=p;obtain ⟨j',v⟩:=q;obtain ⟨rfl,h3,h4,h5,e',h6,h7⟩:=h2;refine ⟨rfl,by omega,by simp;omega,h5,e',?_,h7⟩;rw[show j-i=(j-(i+1))+1 from by omega];simpa using h6
theorem litOf_inv{d:D}{v v':Value}(h:V U M Fz w d v')(hl:litOf d=some v):v'=v:=by
 cases d with
 |c x=>cases x <;> simp[litOf] at hl;subst hl;exact h.lit_inv
 |_=>simp[litOf] at hl
theorem lookup_ok(R:Rel U M Fz w)(E:zas U M Fz w env a.tmps){o:Oper}{t kt e:TypeId}{kd:TypeDesc}{m k:Operand}{om ok:Opd}{commaOk:Bool}{zero d:D}{there:Bool}{kv:Value}{es:List (Value×D×Nat)}{r:Option (Nat×D)}
  (ho:o.op=.lookup t m k commaOk) (hu:P.underlying t=some (.map kt e)) (hk:P.underlying kt=some kd) (hs:zee kd=true) (hz:zeroOf P e=some zero) (hm:opd m=some om) (hkk:opd k=some ok)
  (hkv:litOf (ok.ev env)=some kv) (hes:(om.ev env=.c (.lit (.map none))/\es=[])∨(∃b clock,om.ev env=.mp b/\U[b]? = some (.map es clock))∨∃fs,om.ev env=.c (.fmp fs)/\es=fs.map λp=>(p.1,.c p.2,0))
  (hf:findK kd kv es 0=some r) (hr:(d,there)=hit zero r) :
  Gives P (execOp a.eval o) U M Fz w U (if commaOk then .tup [d,.c (.lit (.bool there))] else d):=by
 have hkey:=litOf_inv (za5 E hkk) hkv;obtain ⟨i,zv,hi,hzv,hzd⟩:∃i zv,P.info? e=some i/\i.zero=some zv/\zero=ofVal zv:=by
  unfold zeroOf at hz;split at hz
  ·rename_i i hi;simp only[yAd] at hz;obtain ⟨v,hv,rfl⟩:=hz;exact ⟨i,v,hi,hv,rfl⟩
  ·simp at hz
 have hv:=za5 E hm;obtain ⟨arr,hget,hsz,hent⟩:∃arr:Array MapEntry,((a.eval m=.map none/\arr=#[])∨∃c,a.eval m=.map (some c)/\∃clock,(getObj c).run P w=.ok (.map arr clock) w)/\arr.size=es.length /\
   ∀(i:Nat) k d n e,es[i]? = some (k,d,n)->arr[i]? = some e->e.key=k/\V U M Fz w d e.val:=by
  rcases hes with ⟨he,rfl⟩ | ⟨b,clock,he,hb⟩ | ⟨fs,he,rfl⟩
  ·rw[he] at hv;exact ⟨#[],.inl ⟨hv.lit_inv,rfl⟩,rfl,λi k d n e h=>by simp at h⟩
  ·rw[he] at hv;obtain ⟨c,hva,hM⟩:=hv.mp_inv hb;obtain ⟨arr,ck,h1,⟨h2,_⟩,h3⟩:=R.mapAt hb hM;exact ⟨arr,.inr ⟨c,hva,ck,by simp[getObj,Sem.run,h1]⟩,h2,λi k d n e x y=>let ⟨p,_,q⟩:=h3 i k d n e x y;⟨p,q⟩⟩
  ·rw[he] at hv;generalize hva:a.eval m=va at hv;cases hv with
   |c hv => cases hv with
    |fmp blk clock arr hF hh hsz hk' hv'=>refine ⟨arr,.inr ⟨blk,rfl,clock,by simp[getObj,Sem.run,hh]⟩,by simpa using hsz,λi k d n e x y=>?_⟩;simp only[yAl,yAd,yAc] at x;obtain ⟨p,hp,rfl,rfl,_⟩:=x;exact ⟨hk' i p e hp y,.c (hv' i p e hp y)⟩
 obtain ⟨r',hfn,hrr⟩:=findK_ok (kind:=kd) (k:=kv) es arr.toList 0 r (by simpa using hsz)
  (λj k d n e h1 h2=>hent j k d n e h1 (by simpa using h2)) hf
 have hfk:(Instr.findKey kt kv arr.toList).run P w=.ok r' w:=by simp only[Instr.findKey,Sem.run_bind,zar hk,Result.andThen_ok,hfn,Sem.run_pure]
 have main:∀v ok',(r'=none/\v=zv/\ok'=false∨∃j,r'=some (j,v)/\ok'=true) ->
   (execOp a.eval o).run P w=.ok (.value (if commaOk then .tuple #[v,.bool ok'] else v)) w:=by
  intro v ok' h;rcases h with ⟨rfl,rfl,rfl⟩ | ⟨j,rfl,rfl⟩ <;> rcases hget with ⟨hva,rfl⟩ | ⟨c,hva,clock,hg⟩
  ·simp only[execOp,ho,Instr.lookup,Sem.run_bind,zar hu,Result.andThen_ok,hva,Sem.run_pure,hkey,zbK hk hs,hfk,run_zero hi hzv]
  ·simp only[execOp,ho,Instr.lookup,Sem.run_bind,zar hu,Result.andThen_ok,hva,hg,Sem.run_pure,hkey,zbK hk hs,hfk,run_zero hi hzv]
  ·simp only[execOp,ho,Instr.lookup,Sem.run_bind,zar hu,Result.andThen_ok,hva,Sem.run_pure,hkey,zbK hk hs,hfk]
  ·simp only[execOp,ho,Instr.lookup,Sem.run_bind,zar hu,Result.andThen_ok,hva,hg,Sem.run_pure,hkey,zbK hk hs,hfk]
 have fin:∀v ok',V U M Fz w d v->there=ok'->V U M Fz w (if commaOk then .tup [d,.c (.lit (.bool there))] else d) (if commaOk then .tuple #[v,.bool ok'] else v):=by
  intro v ok' hV ht;subst ht;cases commaOk
  ·exact hV
  ·refine .tup _ rfl (λi x u h1 h2=>?_)
   match i with
   |0=>simp at h1 h2;subst h1 h2;exact hV
   |1=>simp at h1 h2;subst h1 h2;exact .c (.lit _)
   |i+2=>simp at h1
 cases r with
 |none=>
  cases r' with
  |some _=>exact hrr.elim
  |none=>simp only[hit,yAc] at hr;obtain ⟨rfl,rfl⟩:=hr;exact Gives.same R (main zv false (.inl ⟨rfl,rfl,rfl⟩)) (fin zv false (hzd▸V.ofVal zv) rfl)
 |some p=>
  obtain ⟨j,d'⟩:=p;cases r' with
  |none=>exact hrr.elim
  |some q=>obtain ⟨j',v⟩:=q;obtain ⟨rfl,_,_,hV,_⟩:=hrr;simp only[hit,yAc] at hr;obtain ⟨rfl,rfl⟩:=hr;exact Gives.same R (main v true (.inr ⟨j,rfl,rfl⟩)) (fin v true hV rfl)
theorem sameNow_eq{kd:TypeDesc}{x y:Value}(hs:zee kd=true)(h:Instr.sameNow kd x y=some true):x=y/\∀n,Instr.sameBits n x y=true:=by
 cases kd <;> simp[zee] at hs
 cases x <;> cases y <;> simp[Instr.sameNow] at h
 obtain ⟨rfl,rfl⟩:=h;exact ⟨rfl,λn=>by cases n <;> simp[Instr.sameBits]⟩
theorem upd_ok(R:Rel U M Fz w)(E:zas U M Fz w env a.tmps){o:Oper}{t kt e:TypeId}{kd:TypeDesc}{m k x:Operand}{om ok ox:Opd}{kv:Value}{b clock:Nat}{es:List (Value×D×Nat)}{r:Option (Nat×D)}
  (ho:o.op=.mapUpdate t m k x) (hu:P.underlying t=some (.map kt e)) (hk:P.underlying kt=some kd) (hs:zee kd=true) (hm:opd m=some om) (hkk:opd k=some ok) (hx:opd x=some ox)
  (hkv:litOf (ok.ev env)=some kv) (he:om.ev env=.mp b) (hb:U[b]? = some (.map es clock)) (hf:findK kd kv es 0=some r) :
  Gives P (execOp a.eval o) U M Fz w (U.set b (match r with
   |some (i,_)=>.map (es.modify i λ(k,_,n)=>(k,ox.ev env,n)) clock
   |none=>.map (es++[(kv,ox.ev env,clock)]) (clock+1))) (.tup []):=by
 have hkey:=litOf_inv (za5 E hkk) hkv;have hv:=za5 E hm;rw[he] at hv;have hvx:=za5 E hx;obtain ⟨c,hva,hM⟩:=hv.mp_inv hb;obtain ⟨arr,ck,h1,⟨hsz,hB⟩,hent⟩:=R.mapAt hb hM;obtain ⟨r',hfn,hrr⟩:=findK_ok (kind:=kd) (k:=kv) es arr.toList 0 r (by simpa using hsz)
  (λj k d n e h1 h2=>let ⟨x,_,y⟩:=hent j k d n e h1 (by simpa using h2);⟨x,y⟩) hf
 have hfk:(Instr.findKey kt kv arr.toList).run P w=.ok r' w:=by simp only[Instr.findKey,Sem.run_bind,zar hk,Result.andThen_ok,hfn,Sem.run_pure]
 have hgo:(getObj c).run P w=.ok (.map arr ck) w:=by simp[getObj,Sem.run,h1]
 have hso:∀o',(setObj c o').run P w=.ok () (setO w c o'):=by intro o';simp only[setObj,Sem.run,h1];rfl
 have hshp:∀o':Obj,∀arr0 T fr,Obj.map arr ck=.cells arr0 T fr->∃arr',o'=.cells arr' T fr/\arr'.size=arr0.size:=by intro o' arr0 T fr h;simp at h
 have fin:∀ob' o',ob'.sz=0->(execOp a.eval o).run P w=.ok .skip (setO w c o')->ObRel (U.set b ob') M Fz (setO w c o') ob' o'->Gives P (execOp a.eval o) U M Fz w (U.set b ob') (.tup []):=by
  intro ob' o' hz hrun hob;have hss:(Ob.map es clock).sz<=ob'.sz:=by simp[Ob.sz]
  exact ⟨.skip,undef,_,M,hrun,.inr ⟨rfl,rfl⟩,R.upd hM hb h1 hss (hshp o') hob,.tup #[] rfl (λi d v h=>by simp at h),Evo.upd R hM hb h1 hss (hshp o'),by simp⟩
 cases r with
 |none=>
  cases r' with
  |some _=>exact hrr.elim
  |none=>
   refine fin (.map (es++[(kv,ox.ev env,clock)]) (clock+1)) (.map (arr.push { key:=kv,val:=a.eval x,born:=ck }) (ck+1)) rfl ?_ ?_
   ·simp only[execOp,ho,Instr.mapUpdate,Sem.run_bind,zar hu,Result.andThen_ok,hva,hgo,hkey,zbK hk hs,hfk,hso,Sem.run_pure]
   ·have hss:(Ob.map es clock).sz<=(Ob.map (es++[(kv,ox.ev env,clock)]) (clock+1)).sz:=by simp[Ob.sz]
    have EV:=Evo.upd R hM hb h1 hss (hshp (.map (arr.push { key:=kv,val:=a.eval x,born:=ck }) (ck+1)));refine ⟨_,⟨_,rfl,hB.push _ _⟩,by simp[hsz],λi k' d n en h2 h3=>?_⟩;by_cases hi:i<es.length
    ·rw[yAr hi] at h2;rw[Array.getElem?_push_lt (by omega)] at h3;obtain ⟨x1,x2,x3⟩:=hent i k' d n en h2 (by rw[yAn (by omega)];exact h3);exact ⟨x1,x2,x3.mono EV⟩
    ·have hlt:=(yAb.1 h2).1;simp at hlt;have:i=es.length:=by omega
     subst this;rw[yA0 (yAo _)] at h2;simp at h2;obtain ⟨rfl,rfl,rfl⟩:=h2;rw[<-hsz] at h3;simp at h3;subst h3;exact ⟨rfl,trivial,hvx.mono EV⟩
 |some p=>
  obtain ⟨j,d'⟩:=p;cases r' with
  |none=>exact hrr.elim
  |some q=>
   obtain ⟨j',v⟩:=q;obtain ⟨rfl,_,hj,_,en0,hen0,hsm⟩:=hrr;simp only[Nat.sub_zero,yA5] at hen0;obtain ⟨hkeq,hbits⟩:=sameNow_eq hs hsm;have hj2:j<arr.size:=(yAv.1 hen0).1;have hks:∀old new,Instr.sameBits 10000 old new=true->(Instr.keyThatStays old new).run P w=.ok new w:=by intro old new h;simp only[Instr.keyThatStays,h,if_true,Sem.run_pure]
   refine fin (.map (es.modify j λ(k,_,n)=>(k,ox.ev env,n)) clock) (.map (arr.modify j λe=>{ e with key:=kv,val:=a.eval x }) ck) rfl ?_ ?_
   ·simp only[execOp,ho,Instr.mapUpdate,Sem.run_bind,zar hu,Result.andThen_ok,hva,hgo,hkey,zbK hk hs,hfk];rw[hen0];simp only[Option.map_some,Option.getD_some];rw[hks _ _ (by have:=hbits 10000;rw[hkeq] at this ⊢;exact this)];simp only[Result.andThen_ok,hso,Sem.run_pure]
   ·have hss:(Ob.map es clock).sz<=(Ob.map (es.modify j λ(k,_,n)=>(k,ox.ev env,n)) clock).sz:=by simp[Ob.sz]
    have EV:=Evo.upd R hM hb h1 hss (hshp (.map (arr.modify j λe=>{ e with key:=kv,val:=a.eval x }) ck));refine ⟨_,⟨_,rfl,hB.same (by
     apply yAM;intro i;rw[yAl,yAl,yA5,yA5,Array.getElem?_modify];split
     ·cases arr[i]? <;> rfl
     ·rfl)⟩,by simp[hsz],λi k' d n en h2 h3=>?_⟩
    rw[List.getElem?_modify] at h2;rw[Array.getElem?_modify] at h3;by_cases hi:j=i
    ·subst hi;rw[hen0] at h3;simp only[if_true,Option.map_some,yAa] at h3;subst h3;cases h4:es[j]? with
     |none=>simp[h4] at h2
     |some p=>obtain ⟨k0,d0,n0⟩:=p;simp[h4] at h2;obtain ⟨rfl,rfl,rfl⟩:=h2;obtain ⟨x1,x2,_⟩:=hent j k0 d0 n0 en0 h4 hen0;exact ⟨by rw[<-x1];exact hkeq,x2,hvx.mono EV⟩
    ·simp only[hi,yAx] at h2 h3;obtain ⟨x1,x2,x3⟩:=hent i k' d n en (by simpa using h2) (by simpa using h3);exact ⟨x1,x2,x3.mono EV⟩
theorem renum_len:∀(l:List (Value×D×Nat))(i:Nat),(renum i l).length=l.length
 |[],_=>rfl
 |(_,_,_)::l,i=>by simp[renum,renum_len l]
theorem renum_get:∀(l:List (Value×D×Nat))(i j:Nat)(k:Value)(d:D)(n:Nat),(renum i l)[j]? = some (k,d,n)->∃m,l[j]? = some (k,d,m)
 |[],_,_,_,_,_,h=>by simp[renum] at h
 |(k0, d0, n0) :: l, i, 0, k, d, n, h => by simp[renum] at h;exact ⟨n0,by simp[h.1,h.2.1]⟩
 |(k0, d0, n0) :: l, i, j + 1, k, d, n, h => by simp only[renum,List.getElem?_cons_succ] at h ⊢;exact renum_get l (i+1) j k d n h
theorem del_ok(R:Rel U M Fz w)(E:zas U M Fz w env a.tmps){o:Oper}{t kt e:TypeId}{kd:TypeDesc}{m k:Operand}{om ok:Opd}{kv:Value}{b clock:Nat}{es:List (Value×D×Nat)}{r:Option (Nat×D)}{args:Array Operand}{ats:Array TypeId}
  (ho:o.op=.call { callee:=.builtin .delete,args:=args,argTypes:=ats }) (ht:ats[0]? = some t) (hm0:args[0]? = some m) (hk0:args[1]? = some k) (hu:P.underlying t=some (.map kt e)) (hk:P.underlying kt=some kd) (hs:zee kd=true) (hm:opd m=some om) (hkk:opd k=some ok)
  (hkv:litOf (ok.ev env)=some kv) (he:om.ev env=.mp b) (hb:U[b]? = some (.map es clock)) (hf:findK kd kv es 0=some r) :
  Gives P (execOp a.eval o) U M Fz w (U.set b (match r with
   |some (i,_)=>.map (renum 0 (es.eraseIdx i)) (clock-1)
   |none=>.map es clock)) (.tup []):=by
 have hkey:=litOf_inv (za5 E hkk) hkv;have hv:=za5 E hm;rw[he] at hv;obtain ⟨c,hva,hM⟩:=hv.mp_inv hb;obtain ⟨arr,ck,h1,⟨hsz,hB⟩,hent⟩:=R.mapAt hb hM;obtain ⟨r',hfn,hrr⟩:=findK_ok (kind:=kd) (k:=kv) es arr.toList 0 r (by simpa using hsz)
  (λj k d n e h1 h2=>let ⟨x,_,y⟩:=hent j k d n e h1 (by simpa using h2);⟨x,y⟩) hf
 have hfk:(Instr.findKey kt kv arr.toList).run P w=.ok r' w:=by simp only[Instr.findKey,Sem.run_bind,zar hk,Result.andThen_ok,hfn,Sem.run_pure]
 have hgo:(getObj c).run P w=.ok (.map arr ck) w:=by simp[getObj,Sem.run,h1]
 have hso:∀o',(setObj c o').run P w=.ok () (setO w c o'):=by intro o';simp only[setObj,Sem.run,h1];rfl
 have hshp:∀o':Obj,∀arr0 T fr,Obj.map arr ck=.cells arr0 T fr->∃arr',o'=.cells arr' T fr/\arr'.size=arr0.size:=by intro o' arr0 T fr h;simp at h
 have ha0:(args.map a.eval)[0]? = some (.map (some c)):=by rw[yAV,hm0,xAb,hva]
 have ha1:(args.map a.eval)[1]? = some kv:=by rw[yAV,hk0,xAb,hkey]
 have fin:∀ob' o',ob'.sz=0->(execOp a.eval o).run P w=.ok (.value (.tuple #[])) (setO w c o')->ObRel (U.set b ob') M Fz (setO w c o') ob' o'->Gives P (execOp a.eval o) U M Fz w (U.set b ob') (.tup []):=by
  intro ob' o' hz hrun hob;have hss:(Ob.map es clock).sz<=ob'.sz:=by simp[Ob.sz]
  exact ⟨.value (.tuple #[]),.tuple #[],_,M,hrun,.inl rfl,R.upd hM hb h1 hss (hshp o') hob,.tup #[] rfl (λi d v h=>by simp at h),Evo.upd R hM hb h1 hss (hshp o'),by simp⟩
 cases r with
 |none=>
  cases r' with
  |some _=>exact hrr.elim
  |none=>
   refine fin (.map es clock) (.map arr ck) rfl ?_ ?_
   ·simp only[execOp,ho,resolve,invoke,builtin,Builtin.delete_,ht,ha0,ha1,Sem.run_bind,Sem.run_pure,zar hu,Result.andThen_ok,hgo,zbK hk hs,hfk,hso]
   ·have EV:=Evo.upd R hM hb h1 (ob':=.map es clock) (yAo _) (hshp (.map arr ck));exact ⟨arr,⟨ck,rfl,hB⟩,hsz,λi k' d n en h2 h3=>by obtain ⟨x1,x2,x3⟩:=hent i k' d n en h2 h3;exact ⟨x1,x2,x3.mono EV⟩⟩
 |some p=>
  obtain ⟨j,d'⟩:=p;cases r' with
  |none=>exact hrr.elim
  |some q=>
   obtain ⟨j',v⟩:=q;obtain ⟨rfl,_,hj,_,en0,hen0,hsm⟩:=hrr;simp only[Nat.sub_zero,yA5] at hen0;have hj2:j<arr.size:=(yAv.1 hen0).1;have hel:(arr.eraseIdxIfInBounds j).toList=arr.toList.eraseIdx j:=by rw[Array.eraseIdxIfInBounds,dif_pos hj2,Array.toList_eraseIdx]
   refine fin (.map (renum 0 (es.eraseIdx j)) (clock-1)) (.map (arr.eraseIdxIfInBounds j) ck) rfl ?_ ?_
   ·simp only[execOp,ho,resolve,invoke,builtin,Builtin.delete_,ht,ha0,ha1,Sem.run_bind,Sem.run_pure,zar hu,Result.andThen_ok,hgo,zbK hk hs,hfk,hso]
   ·have EV:=Evo.upd R hM hb h1 (ob':=.map (renum 0 (es.eraseIdx j)) (clock-1)) (by simp[Ob.sz]) (hshp (.map (arr.eraseIdxIfInBounds j) ck));refine ⟨_,⟨ck,rfl,hB.sub (by rw[hel];exact List.eraseIdx_sublist _ _)⟩,?_,λi k' d n en h2 h3=>?_⟩
    ·rw[<-xAl,hel,renum_len,List.length_eraseIdx,List.length_eraseIdx,xAl,hsz]
    ·obtain ⟨m',h2⟩:=renum_get _ _ _ _ _ _ h2;rw[<-yA5,hel,List.getElem?_eraseIdx] at h3;rw[List.getElem?_eraseIdx] at h2;split at h2
     ·rename_i hi;rw[if_pos hi,yA5] at h3;obtain ⟨x1,_,x3⟩:=hent i k' d m' en h2 h3;exact ⟨x1,trivial,x3.mono EV⟩
     ·rename_i hi;rw[if_neg hi,yA5] at h3;obtain ⟨x1,_,x3⟩:=hent (i+1) k' d m' en h2 h3;exact ⟨x1,trivial,x3.mono EV⟩
end
end Go.Abs
end
