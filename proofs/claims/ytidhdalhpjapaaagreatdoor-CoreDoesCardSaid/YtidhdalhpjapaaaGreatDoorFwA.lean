/- DfwA, DfwB, DfwC, DfwD, DfwE, DfwF, DfwG, DfwH, DfwI -/
import Derived.Calls
import Derived.Orders
import Derived.Laws.Sem
import Derived.Laws.World
import Derived.Laws.Cells
import Derived.Laws.Rows
import GoSem.Dispatch
import Derived.IntWalk
set_option linter.all false
namespace Go
abbrev aE:=@Option.bind_some
abbrev xAb:=@Int.toNat_natCast
abbrev xAc:=@Option.getD_some
abbrev xAd:=@List.nil_append
abbrev xAe:=@List.drop_append
abbrev xAf:=@List.getElem?_cons_zero
abbrev xAg:=@List.length_drop
abbrev xAh:=@List.getElem?_eq_none
abbrev xAi:=@List.getElem?_drop
abbrev xAj:=@List.getElem?_set_ne
abbrev xAk:=@List.filter_eq_self
abbrev xAl:=@List.getElem_set_ne
abbrev xAm:=@Int.tdiv_eq_ediv_of_nonneg
abbrev aw:=@Option.some.injEq
abbrev a_:=@Bool.false_eq_true
abbrev bb:=@decide_eq_true_eq
abbrev cr:=@Option.bind_eq_some_iff
abbrev cu:=@Option.map_eq_some_iff
abbrev ba:=@Prod.mk.injEq
abbrev bJ:=@Bool.and_eq_true
abbrev bR:=@List.getElem_mem
abbrev dB:=@List.getElem?_eq_getElem
abbrev cY:=@Nat.eq_of_beq_eq_true
abbrev jy:=@List.getElem?_eq_some_iff
abbrev bn:=@if_false
abbrev ic:=@Bool.not_eq_true'
abbrev dW:=@Bool.or_eq_true
abbrev tc:=@Array.getElem?_eq_getElem
abbrev gH:=@List.all_eq_true
abbrev jX:=@List.getElem?_map
abbrev cT:=@Nat.le_refl
abbrev pG:=@List.mem_cons_of_mem
abbrev pD:=@List.getElem_of_mem
abbrev pe:=@List.mem_cons_self
abbrev oN:=@Bool.not_eq_false
abbrev yl:=@List.mem_of_getElem?
abbrev jJ:=@List.mem_map
abbrev me:=@List.mem_cons
abbrev uC:=@List.length_take
abbrev oK:=@List.map_cons
abbrev OI:=@List.take_succ_eq_append_getElem
abbrev mA:=@Nat.le_trans
abbrev Ie:=@List.getElem?_append_left
abbrev DM:=@Nat.le_of_ble_eq_true
abbrev KR:=@Array.getElem?_eq_some_iff
abbrev lm:=@beq_iff_eq
abbrev zC:=@List.mem_append
abbrev uS:=@Nat.lt_or_ge
abbrev EM:=@Nat.lt_of_lt_of_le
abbrev Pv:=@List.getElem?_append_right
abbrev A_:=@List.length_map
abbrev DO:=@List.take_length
abbrev Gh:=@List.length_append
abbrev zM:=@Bool.not_true
abbrev HH:=@Decidable.not_not
abbrev VD:=@List.eq_nil_of_length_eq_zero
abbrev Kz:=@List.mem_singleton
abbrev OY:=@Array.getElem?_toList
abbrev Vr:=@List.mem_or_eq_of_mem_set
abbrev Ux:=@decide_eq_false_iff_not
abbrev Xz:=@Array.getD_eq_getD_getElem?
abbrev CQ:=@Int.add_zero
abbrev yh:=@Nat.blt_eq
abbrev O_:=@Nat.lt_or_eq_of_le
abbrev Ll:=@List.getElem_map
abbrev ZQ:=@Int.mul_le_mul_of_nonneg_right
abbrev Sd:=@Nat.mul_le_mul_right
abbrev Ak:=@bne_iff_ne
abbrev ZA:=@List.pairwise_iff_getElem
abbrev IM:=@Bool.and_true
abbrev JD:=@not_not_intro
abbrev Rg:=@List.ext_getElem?
abbrev Rj:=@beq_self_eq_true
abbrev Tz:=@List.append_assoc
abbrev WV:=@List.mem_of_mem_take
abbrev yBa:=@Array.getElem?_setIfInBounds
abbrev AP:=@false_iff
abbrev ZV:=@Option.isSome_iff_exists
abbrev Qf:=@List.mapM_cons
abbrev Zk:=@List.mem_append_left
abbrev yBf:=@List.drop_eq_nil_of_le
abbrev SU:=@List.length_set
abbrev S_:=@List.mem_filter
abbrev N_:=@Nat.zero_add
abbrev YA:=@List.flatMap_cons
abbrev yBk:=@Bool.and_eq_false_iff
abbrev Vw:=@Nat.lt_succ_iff
abbrev yBm:=@List.getElem?_append
abbrev OL:=@Nat.zero_le
abbrev yBo:=@Decidable.byContradiction
abbrev Wv:=@List.map_append
abbrev yBq:=@List.getElem?_take_of_lt
abbrev yBr:=@List.getElem?_of_mem
abbrev yBs:=@Nat.exists_eq_add_of_le
abbrev Uc:=@List.map_map
abbrev yBu:=@List.getElem?_set
abbrev yBv:=@Nat.lt_trichotomy
abbrev yBw:=@List.getElem_take
abbrev Zr:=@List.append_nil
abbrev yBy:=@List.take_of_length_le
abbrev yBz:=@Array.getElem?_append_left
abbrev yB0:=@List.not_mem_nil
abbrev yB1:=@List.mem_iff_getElem?
abbrev TD:=@Nat.add_mul
abbrev yB3:=@List.drop_eq_getElem_cons
abbrev KG:=@true_iff
abbrev yB5:=@Sigma.mk.injEq
abbrev yB6:=@Classical.choose_spec
abbrev yB7:=@List.mem_append_right
abbrev yB8:=@Bool.eq_iff_iff
abbrev YV:=@Int.mul_comm
abbrev yBA:=@List.set_getElem_self
abbrev yBB:=@Bool.false_or
abbrev yBC:=@Classical.not_not
abbrev yBD:=@List.getD_eq_getElem?_getD
abbrev yBE:=@List.mem_iff_getElem
abbrev yBF:=@Bool.or_eq_false_iff
abbrev yBG:=@Classical.not_forall
abbrev Qa:=@and_true
abbrev yBI:=@List.filter_cons
abbrev yBJ:=@List.flatMap_append
abbrev yBK:=@Array.getElem?_replicate
abbrev yBL:=@List.getElem_append_left
abbrev yBM:=@List.sum_append
abbrev yBN:=@List.filter_cons_of_neg
abbrev yBO:=@List.filter_cons_of_pos
abbrev yBP:=@List.pairwise_cons
abbrev yBQ:=@Nat.pow_add
abbrev yBR:=@Int.add_mul
abbrev yBS:=@List.any_eq_false
abbrev yBT:=@bne_self_eq_false
abbrev yBU:=@List.drop_zero
abbrev yBV:=@Int.mul_nonneg
abbrev Ts:=@congrArg
abbrev yBX:=@Nat.zero_mul
abbrev yBY:=@Int.le_refl
end Go
section
namespace Go.Abs
inductive C where
 |lit (v:Value)
 |cU (nn:Bool) (es:List (List C))
 |cA (cs:List C) (off:Nat)
 |fn (f:Fn) (first cap:List C)
 |Kl (es:List (Value×C))
 |Rb (g:Nat)
 deriving Inhabited
inductive D where
 |c (x:C)
 |ptr (b off sz:Nat)
 |sl (b off len aA sz:Nat)
 |mp (b:Nat)
 |fn (f:Fn) (first cap:List D)
 |agg (cs:List D)
 |aT (vs:List D)
 |any
 deriving Inhabited
inductive Ob where
 |cells (cs:List D)
 |map (es:List (Value×D×Nat)) (clock:Nat)
 |gone (n:Nat)
 deriving Inhabited
def Ob.sz:Ob->Nat
 |.cells i=>i.length
 |.map _ _=>0
 |.gone n=>n
abbrev aq:=List Ob
inductive VC (Fz:Nat->Prop) (w:World):C->Value->Prop where
 |lit (v:Value):VC Fz w (.lit v) v
 |cU {nn:Bool} {es:List (List C)} (aA:Nat) (a:Option Addr) (cap:Nat) (hnn:nn=true->a.isSome=true) (hz:a=none->cap=0) (c:Nat->Nat->Value) (hsz:∀e∈es,e.length=aA) (hcap:es.length<=cap)
   (hc:∀(i j:Nat) e d,es[i]? = some e->e[j]? = some d->∃blk o,a=some ⟨blk,o,none⟩/\Fz blk/\w.cell? ⟨blk,o+i * aA+j,none⟩=some (c i j)/\(c i j).oneCell'=true)
   (hv:∀(i j:Nat) e d,es[i]? = some e->e[j]? = some d->VC Fz w d (c i j)):VC Fz w (.cU nn es) (.slice a es.length cap)
 |cA {cs:List C} {off:Nat} (blk o:Nat) (c:Nat->Value) (hF:Fz blk) (hc:∀(j:Nat) d,cs[j]? = some d->w.cell? ⟨blk,o+j,none⟩=some (c j)/\(c j).oneCell'=true)
   (hv:∀(j:Nat) d,cs[j]? = some d->VC Fz w d (c j)):VC Fz w (.cA cs off) (.pointer (some ⟨blk,o+off,none⟩))
 |fn {f:Fn} {first cap:List C} (vs ws:Array Value) (h1:vs.size=first.length) (h2:ws.size=cap.length)
   (hv:∀(i:Nat) d v,first[i]? = some d->vs[i]? = some v->VC Fz w d v) (hw:∀(i:Nat) d v,cap[i]? = some d->ws[i]? = some v->VC Fz w d v) :
   VC Fz w (.fn f first cap) (.func f vs ws)
 |Kl {es:List (Value×C)} (blk clock:Nat) (arr:Array MapEntry) (hF:Fz blk) (hh:w.heap[blk]? = some (.map arr clock)) (hs:arr.size=es.length)
   (hk:∀(i:Nat) p e,es[i]? = some p->arr[i]? = some e->e.key=p.1) (hv:∀(i:Nat) p e,es[i]? = some p->arr[i]? = some e->VC Fz w p.2 e.val):VC Fz w (.Kl es) (.map (some blk))
 |Rb (g:Nat):VC Fz w (.Rb g) (.pointer (some ⟨g,0,none⟩))
theorem zQ{w w':World}{blk o:Nat}(h:w'.heap[blk]? = w.heap[blk]?):w'.cell? ⟨blk,o,none⟩=w.cell? ⟨blk,o,none⟩:=by grind [Go.World.cell?]
theorem VC.mono{Fz Fz':Nat->Prop}{w w':World}(Q:∀c:Nat,Fz c->Fz' c/\w'.heap[c]? = w.heap[c]?){x:C}{v:Value}(h:VC Fz w x v):VC Fz' w' x v:=by
 induction h with
 |lit v=>exact .lit v
 |cU aA a z A Y c E u R F ih=>
  refine .cU aA a z A Y c E u (λi j e d W X=>?_) ih
  grind [zQ]
 |cA blk o c G R F ih=>exact .cA blk o c (Q _ G).1 (λj d h=>⟨by grind [zQ],(R j d h).2⟩) ih
 |fn Z ws W X F hw K L=>exact .fn Z ws W X K L
 |Kl blk s O G hh hs hk F ih=>exact .Kl blk s O (Q _ G).1 (by simp_all) hs hk ih
 |Rb g=>exact .Rb g
inductive V (U:aq) (M:Nat→Option Nat) (Fz:Nat→Prop) (w:World):D→Value→Prop where
 | c {x:C} {v:Value} (h:VC Fz w x v):V U M Fz w (.c x) v
 | any (v:Value):V U M Fz w .any v
 | ptr {b off sz:Nat} (a:Addr) (ob:Ob) (h:U[b]? = some ob) (hle:sz≤ob.sz)
   (hv:ob.sz=sz→∃c,M b=some c∧a=⟨c,off,none⟩):V U M Fz w (.ptr b off sz) (.pointer (some a))
 | sl {b off len aA sz:Nat} (a:Option Addr) (n cap:Nat) (hnn:len≠0→a≠none) (ob:Ob) (h:U[b]? = some ob) (hle:sz≤ob.sz)
   (hv:ob.sz=sz→(a=none∧n=0∧cap=0∧len=0∧off=0∧sz=0)∨∃c o arr T,M b=some c∧a=some ⟨c,o,none⟩∧n=len∧(len≤cap∧sz≤off+cap * aA)∧(o=off∨cap=0) ∧
    w.heap[c]? = some (.cells arr T (0,0))∧o+cap * aA≤arr.size∧off+len * aA≤sz):V U M Fz w (.sl b off len aA sz) (.slice a n cap)
 | mp {b:Nat} (c:Nat) (ob:Ob) (h:U[b]? = some ob) (hv:ob.sz=0→M b=some c):V U M Fz w (.mp b) (.map (some c))
 | fn {f:Fn} {first cap:List D} (vs ws:Array Value) (h1:vs.size=first.length) (h2:ws.size=cap.length)
   (hv:∀(i:Nat) d v,first[i]? = some d→vs[i]? = some v→V U M Fz w d v) (hw:∀(i:Nat) d v,cap[i]? = some d→ws[i]? = some v→V U M Fz w d v) :
   V U M Fz w (.fn f first cap) (.func f vs ws)
 | agg {cs:List D} (vs:Array Value) (h1:vs.size=cs.length) (hv:∀(i:Nat) d v,cs[i]? = some d→vs[i]? = some v→V U M Fz w d v):V U M Fz w (.agg cs) (.agg vs)
 | aT {cs:List D} (vs:Array Value) (h1:vs.size=cs.length) (hv:∀(i:Nat) d v,cs[i]? = some d→vs[i]? = some v→V U M Fz w d v):V U M Fz w (.aT cs) (.tuple vs)
def iO(arr:Array MapEntry)(b:Nat):Prop:=(arr.toList.map MapEntry.born).Nodup/\∀e∈arr.toList,e.born<b
theorem iO.nil(i:Nat):iO #[] i:=⟨by simp,by simp⟩
theorem iO.push{arr:Array MapEntry}{i:Nat}(h:iO arr i)(k v:Value):iO (arr.push { key:=k,val:=v,born:=i }) (i+1):=by
 refine ⟨?_,λe he=>?_⟩
 ·rw[Array.toList_push,Wv,List.nodup_append];refine ⟨h.1,by simp,λa j b o=>?_⟩;obtain ⟨e,he,rfl⟩:=jJ.1 j;have:=h.2 e he
  grind
 ·rw[Array.toList_push,zC] at he;rcases he with he | he
  ·have:=h.2 e he;omega
  simp_all
theorem iO.same{arr i:Array MapEntry}{j:Nat}(h:iO arr j)(e:i.toList.map MapEntry.born=arr.toList.map MapEntry.born):iO i j:=by
 refine ⟨by rw[e];exact h.1,λx s=>?_⟩;have:x.born∈arr.toList.map MapEntry.born:=by grind
 obtain ⟨y,o,q⟩:=jJ.1 this;rw[<-q];exact h.2 y o
theorem iO.sub{arr i:Array MapEntry}{j:Nat}(h:iO arr j)(e:i.toList.Sublist arr.toList):iO i j:=
 ⟨h.1.sublist (e.map _),λx o=>h.2 x (e.subset o)⟩
def cf(U:aq)(M:Nat->Option Nat)(Fz:Nat->Prop)(w:World):Ob->Obj->Prop
 |.cells f,o=>∃b T,o=.cells b T (0,0)/\f.length<=b.size/\∀(i:Nat) d v,f[i]? = some d->b[i]? = some v->V U M Fz w d v/\v.oneCell'=true
 |.map es _,o=>∃b,(∃g,o=.map b g/\iO b g)/\b.size=es.length/\∀(i:Nat) k d n e,es[i]? = some (k,d,n)->b[i]? = some e->e.key=k/\True/\V U M Fz w d e.val
 |.gone _,_=>False
class Gl where
 ok:(Nat->Prop)->World->Prop
 mono:∀{Fz Fz':Nat->Prop}{w w':World},(∀c:Nat,Fz c->Fz' c/\w'.heap[c]? = w.heap[c]?)->ok Fz w->ok Fz' w'
 Zs:Nat->List Value:=λ_=>[]
 ZD:∀{Fz:Nat->Prop}{w:World}(g j:Nat)(v:Value),ok Fz w->(Zs g)[j]? = some v->Fz g/\w.cell? ⟨g,j,none⟩=some v/\v.oneCell'=true:=by intro _ _ g j v _ h;simp at h
structure Rel [Gl] (U:aq) (M:Nat->Option Nat) (Fz:Nat->Prop) (w:World):Prop where
 blk:∀(b c:Nat),M b=some c->¬Fz c/\∃ob o,U[b]? = some ob/\w.heap[c]? = some o/\cf U M Fz w ob o
 inj:∀b b' c,M b=some c->M b'=some c->b=b'
 fz:∀c,Fz c->c<w.heap.size
 gl:Gl.ok Fz w
structure bQ (U:aq) (M:Nat->Option Nat) (Fz:Nat->Prop) (w:World) (U':aq) (M':Nat->Option Nat) (Fz':Nat->Prop) (w':World):Prop where
 size:w.heap.size<=w'.heap.size
 frame:∀c:Nat,c<w.heap.size->(∀b,M b≠some c)->w'.heap[c]? = w.heap[c]?
 oA:∀b c,M' b=some c->(∃b0,M b0=some c)∨w.heap.size<=c
 fz:∀c:Nat,Fz c->Fz' c/\w'.heap[c]? = w.heap[c]?
 rS:∀c,Fz' c->Fz c∨(∃b,M b=some c)∨w.heap.size<=c
 sa:∀(c:Nat) arr T fr,w.heap[c]? = some (.cells arr T fr)->∃arr',w'.heap[c]? = some (.cells arr' T fr)/\arr'.size=arr.size
 cX:∀(b:Nat) ob,U[b]? = some ob->∃ob',U'[b]? = some ob'/\ob.sz<=ob'.sz/\(ob'.sz=ob.sz->M' b=M b)
 out:w'.os=w.os/\w'.tape=w.tape/\w'.output=w.output
section
variable{U U' U'':aq}{M M' M'':Nat->Option Nat}{Fz Fz' Fz'':Nat->Prop}{w w' w'':World}
theorem V.mono(E:bQ U M Fz w U' M' Fz' w'){d:D}{v:Value}(h:V U M Fz w d v):V U' M' Fz' w' d v:=by
 induction h with
 |c h=>exact .c (h.mono E.fz)
 |any v=>exact .any v
 |ptr a Q h A j=>
  obtain ⟨i,u,hs,hk⟩:=E.cX _ _ h;refine .ptr a i u (by omega) (λR=>?_)
  grind
 |sl a n F G Q h A j=>
  obtain ⟨i,u,hs,hk⟩:=E.cX _ _ h;refine .sl a n F G i u (by omega) (λR=>?_);rcases j (by omega) with ⟨s,W,h3,h4,h5,h6⟩ | ⟨c,o,X,T,hM,Y,Z,hl,ho,hh,hb,hz⟩
  ·simp_all
  ·obtain ⟨x,K,ad⟩:=E.sa _ _ _ _ hh;exact .inr ⟨c,o,x,T,by grind,Y,Z,hl,ho,K,by omega,hz⟩
 |mp c Q h j=>obtain ⟨i,u,hs,hk⟩:=E.cX _ _ h;exact .mp c i u (λR=>by simp_all)
 |fn z ws s W j hw L O=>exact .fn z ws s W L O
 |agg z s j ih=>exact .agg z s ih
 |aT z s j ih=>exact .aT z s ih
variable[Gl] in
theorem bQ.refl(R:Rel U M Fz w):bQ U M Fz w U M Fz w:={
 size:=cT _
 frame:=λ_ _ _=>rfl
 oA:=λb c h=>.inl ⟨b,h⟩
 fz:=λc h=>⟨h,rfl⟩
 rS:=λc h=>.inl h
 sa:=λc i T o h=>⟨i,h,rfl⟩
 cX:=λb j h=>⟨j,h,cT _,λ_=>rfl⟩
 out:=⟨rfl,rfl,rfl⟩ }
theorem bQ.trans(A:bQ U M Fz w U' M' Fz' w')(B:bQ U' M' Fz' w' U'' M'' Fz'' w'')(K:U.length<=U'.length):bQ U M Fz w U'' M'' Fz'' w'':={
 size:=mA A.size B.size
 frame:=λc s x=>by
  rw[<-A.frame c s x];refine B.frame c (EM s A.size) (λb z=>?_);rcases A.oA b c z with ⟨j,i⟩ | i
  ·simp_all
  ·omega
 oA:=λb c h=>by
  rcases B.oA b c h with ⟨j,i⟩ | i
  ·exact A.oA j c i
  ·exact .inr (mA A.size i)
 fz:=λc h=>by
  obtain ⟨h1,h2⟩:=A.fz c h;obtain ⟨L,O⟩:=B.fz c h1
  simp_all
 rS:=λc h=>by
  rcases B.rS c h with h | ⟨b,h⟩ | h
  ·exact A.rS c h
  ·rcases A.oA b c h with ⟨j,i⟩ | i
   ·grind
   omega
  ·exact .inr (.inr (mA A.size h))
 sa:=λc o T u h=>by
  obtain ⟨E,h1,Q⟩:=A.sa c o T u h;obtain ⟨R,h2,W⟩:=B.sa c E T u h1
  simp_all
 cX:=λb F h=>by
  obtain ⟨G,h1,s1,X⟩:=A.cX b F h;obtain ⟨Y,h2,s2,Z⟩:=B.cX b G h1
  grind
 out:=⟨B.out.1.trans A.out.1,B.out.2.1.trans A.out.2.1,B.out.2.2.trans A.out.2.2⟩ }
theorem cf.mono(E:bQ U M Fz w U' M' Fz' w'){ob:Ob}{o:Obj}(h:cf U M Fz w ob o):cf U' M' Fz' w' ob o:=by
 cases ob with
 |cells G=>obtain ⟨j,T,z,A,s⟩:=h;exact ⟨j,T,z,A,λi d v u x=>⟨(s i d v u x).1.mono E,(s i d v u x).2⟩⟩
 |map K F=>obtain ⟨j,z,A,s⟩:=h;exact ⟨j,z,A,λi k d n e u x=>let ⟨a,b,c⟩:=s i k d n e u x;⟨a,b,c.mono E⟩⟩
 |gone n=>exact h.elim
end
end Go.Abs
end
section
namespace Go.Abs
variable[Gl]
def gu{α:Type}(P:Program):Sem α->Option α
 |.pure a=>some a
 |.program k=>gu P (k P)
 |_=>none
theorem LC{α:Type}{P:Program}{s:Sem α}{a:α}(w:World)(h:gu P s=some a):s.run P w=.ok a w:=by
 induction s with
 |pure b=>simp only[gu,aw] at h;simp_all
 |program k ih=>simp only[gu] at h;exact ih P h
 |_=>grind [gu]
inductive aP where
 |t (n:Nat)
 |k (d:D)
 deriving Inhabited
def de:Value->D
 |.agg b=>.agg (b.toList.map λv=>.c (.lit v))
 |.tuple b=>.aT (b.toList.map λv=>.c (.lit v))
 |v=>.c (.lit v)
def aP.ev(env:List D):aP->D
 |.t n=>(env[n]?).getD (.aT [])
 |.k d=>d
def bO:Operand->Option aP
 |.tmp t=>some (.t t)
 |.const v=>some (.k (de v))
 |.func f=>some (.k (.c (.fn (.func f) [] [])))
 |.global g=>some (.k (.c (.Rb g)))
def gZ:D->Option Value
 |.c (.lit v)=>some v
 |_=>none
def D.cD:D->Option Value
 |.c (.lit v)=>some v
 |.agg ds=>(ds.mapM gZ).map λl=>.agg l.toArray
 |_=>none
def D.scalar:D->Bool
 |.c (.lit v)=>v.oneCell'
 |.c _ | .ptr .. | .sl .. | .mp _ | .fn ..=>true
 |_=>false
def D.cells?:D->Option (List D)
 |.agg i=>if i.all D.scalar then some i else none
 |d=>if d.scalar then some [d] else none
inductive lg where
 |DR (x:aP)
 |pick (c a b:aP)
 |gen (op:Op) (ty:TypeId)
 |box (x:aP)
 |alloc (z:List D)
 |build (z:List D) (parts:List (Nat×Nat×aP))
 |iV (aA len:Nat) (z:List D) (parts:List (Nat×Nat×aP))
 |load (n:Option Nat) (a:aP)
 |store (n:Nat) (a x:aP)
 |lD (x:aP)
 |iy (k:Nat) (neg:Bool) (x:aP)
 |HE (off:Nat) (x:aP)
 |idx (aA:Nat) (arr:Option Nat) (x i:aP)
 |Rh (aA:Nat) (x:aP) (lo hi:Option aP)
 |len (x:aP)
 |Ti (x:aP)
 |mk (aA bytes:Nat) (z:List D) (l c:aP)
 |sx
 |lookup (kind:TypeDesc) (zero:D) (m k:aP) (ok:Bool)
 |vD (kind:TypeDesc) (m k x:aP)
 |extract (x:aP) (i:Nat)
 |CR (f:Fn) (first cap:List aP)
 |part (off:Nat) (n:Option Nat) (x:aP)
 |AD (aA len:Nat) (n:Option Nat) (x i:aP)
 |append (aA bytes:Nat) (s x:aP)
 |copy (aA:Nat) (d s:aP)
 |del (kind:TypeDesc) (m k:aP)
 |Pf (aA:Nat) (x lo hi mx:aP)
 |clr (aA:Nat) (z:List D) (x:aP)
 |call (f:aP) (args:List aP)
 deriving Inhabited
def Hc(b:Array Operand):Option (List aP):=b.toList.mapM bO
def Ek:Option Operand->Option (Option aP)
 |none=>some none
 |some x=>(bO x).map some
def Dk(P:Program)(t:TypeId):Option (Option Nat):=
 match P.info? t,P.underlying t with
 |some i,some (.struct _)=>some (some i.size)
 |some i,some (.array _ _)=>some (some i.size)
 |some _,some _=>some none
 |_,_=>none
def zeroOf(P:Program)(t:TypeId):Option D:=
 match P.info? t with
 |some i=>i.zero.map de
 |none=>none
def Nu(P:Program)(t:TypeId):Option (List D):=(zeroOf P t).bind D.cells?
def bH(P:Program)(t:TypeId):Option Nat:=(P.info? t).map (·.size)
def places(P:Program)(b:Array Field):Option (List (Nat×Nat)):=b.toList.mapM λf=>(bH P f.type).map λn=>(f.offset,n)
def yr:TypeDesc->Option Nat
 |.pointer _=>some 0
 |.map _ _=>some 1
 |.func ..=>some 2
 |.slice _=>some 3
 |_=>none
def pJ(k:Nat):Operand->Bool
 |.const (.pointer none)=>k == 0
 |.const (.map none)=>k == 1
 |.const .nilFunc=>k == 2
 |.const (.slice none 0 0)=>k == 3
 |_=>false
def uH(k:Nat)(neg:Bool)(x y:Operand):Option lg:=
 if pJ k y then (bO x).map (.iy k neg) else if pJ k x then (bO y).map (.iy k neg) else none
def isNil:Nat->D->Option Bool
 |0,.ptr ..=>some false
 |0,.c (.cA ..)=>some false
 |0,.c (.lit (.pointer none))=>some true
 |1,.mp _=>some false
 |1,.c (.Kl _)=>some false
 |1,.c (.lit (.map none))=>some true
 |2,.fn ..=>some false
 |2,.c (.fn ..)=>some false
 |2,.c (.lit .nilFunc)=>some true
 |3,.sl _ _ (_+1) _ _=>some false
 |3,.c (.cU true _)=>some false
 |3,.c (.lit (.slice none 0 0))=>some true
 |_,_=>none
def VI:TypeDesc->Bool
 |.int _=>true
 |_=>false
def lj(P:Program)(op:Op)(ty:TypeId):Option lg:=
 match op with
 |.move x | .assign x=>(bO x).map .DR
 |.pick c a b=>do some (.pick (<-bO c) (<-bO a) (<-bO b))
 |.alloc t=>(Nu P t).map .alloc
 |.box _ x=>(bO x).map .box
 |.build t d => do
  let z <-Nu P t
  match <-P.underlying t with
  |.struct h => do
   let ps <-places P h
   some (.build z (<-d.toList.mapM λ(i,x)=>do let (o,n) <-ps[i]?;some (o,n,<-bO x)))
  |.array _ e => do
   let n <-bH P e
   some (.build z (<-d.toList.mapM λ(i,x)=>do some (i * n,n,<-bO x)))
  |_=>none
 |.buildSlice t len d => do
  match <-P.underlying t with
  |.slice e => do
   let n <-bH P e
   let z <-Nu P e
   if n=0∨z.length≠n∨len * n > 2 ^ 20 then none else
   some (.iV n len z (<-d.toList.mapM λ(i,x)=>do some (i * n,n,<-bO x)))
  |_=>none
 |.load t a=>do some (.load (<-Dk P t) (<-bO a))
 |.store t a x=>do some (.store (<-bH P t) (<-bO a) (<-bO x))
 |.nilCheck x=>(bO x).map .lD
 |.binOp o t x y _=>
  match (P.underlying t).bind yr with
  |some k=>
   match o with
   |.eql=>uH k false x y
   |.neq=>uH k true x y
   |_=>none
  |none=>some (.gen op ty)
 |.unOp ..=>some (.gen op ty)
 |.convert ..=>some (.gen op ty)
 |.makeFunc f first p=>do some (.CR f (<-Hc first) (<-Hc p))
 |.makeMap _ none=>some .sx
 |.makeSlice t l c => do
  match <-P.underlying t with
  |.slice e => do
   let n <-bH P e
   let z <-Nu P e
   let i <-P.info? e
   if n=0∨z.length≠n then none else some (.mk n i.bytes z (<-bO l) (<-bO c))
  |_=>none
 |.slice t x q r none => do
  match <-P.underlying t with
  |.slice e=>do some (.Rh (<-bH P e) (<-bO x) (<-Ek q) (<-Ek r))
  |.string=>some (.gen op ty)
  |_=>none
 |.slice t x (some q) (some r) (some u) => do
  match <-P.underlying t with
  |.slice e=>do some (.Pf (<-bH P e) (<-bO x) (<-bO q) (<-bO r) (<-bO u))
  |_=>none
 |.fieldAddr s x f => do
  match <-P.underlying s with
  |.struct h => do
   let fd <-h[f]?
   let n <-bH P fd.type
   if n=0 then none else some (.HE fd.offset (<-bO x))
  |_=>none
 |.field t x f => do
  match <-P.underlying t with
  |.struct h => do
   let fd <-h[f]?
   some (.part fd.offset (<-Dk P fd.type) (<-bO x))
  |_=>none
 |.indexAddr t x i => do
  match <-P.underlying t with
  |.slice e => do
   let n <-bH P e
   if n=0 then none else some (.idx n none (<-bO x) (<-bO i))
  |.array len e => do
   let n <-bH P e
   if n=0 then none else some (.idx n (some len) (<-bO x) (<-bO i))
  |_=>none
 |.index t x i => do
  match <-P.underlying t with
  |.array len e=>do some (.AD (<-bH P e) len (<-Dk P e) (<-bO x) (<-bO i))
  |.string=>some (.gen op ty)
  |_=>none
 |.lookup t m k ok => do
  match <-P.underlying t with
  |.map j e => do
   let g <-P.underlying j
   if VI g then some (.lookup g (<-zeroOf P e) (<-bO m) (<-bO k) ok) else none
  |_=>none
 |.mapUpdate t m k x | .insert t m k x => do
  match <-P.underlying t with
  |.map j _ => do
   let g <-P.underlying j
   if VI g then some (.vD g (<-bO m) (<-bO k) (<-bO x)) else none
  |_=>none
 |.extract x i=>do some (.extract (<-bO x) i)
 |.call { callee:=.value f,args,.. }=>do some (.call (<-bO f) (<-Hc args))
 |.call { callee := .builtin .len, args, argTypes } => do
  let t <-argTypes[0]?
  let x <-args[0]?
  if args.size≠1 then none else
  match <-P.underlying t with
  |.slice _=>(bO x).map .len
  |.map _ _=>(bO x).map .Ti
  |.array n _=>some (.DR (.k (.c (.lit (.int .i64 n)))))
  |.string=>some (.gen op ty)
  |_=>none
 |.call { callee := .builtin .append, args, argTypes } => do
  let t <-argTypes[0]?
  let t1 <-argTypes[1]?
  let s <-args[0]?
  let x <-args[1]?
  match <-P.underlying t,<-P.underlying t1 with
  |.slice e, .slice _ => do
   let n <-bH P e
   let i <-P.info? e
   let z <-Nu P e
   if n=0∨z.length≠n then none else some (.append n i.bytes (<-bO s) (<-bO x))
  |_,_=>none
 |.call { callee := .builtin .copy, args, argTypes } => do
  let t <-argTypes[0]?
  let s <-args[0]?
  let x <-args[1]?
  match <-P.underlying t with
  |.slice e => do
   let n <-bH P e
   if n=0 then none else some (.copy n (<-bO s) (<-bO x))
  |_=>none
 |.call { callee := .builtin .delete, args, argTypes } => do
  let t <-argTypes[0]?
  let m <-args[0]?
  let k <-args[1]?
  match <-P.underlying t with
  |.map j _ => do
   let g <-P.underlying j
   if VI g then some (.del g (<-bO m) (<-bO k)) else none
  |_=>none
 |.call { callee := .builtin .clear, args, argTypes } => do
  let t <-argTypes[0]?
  let x <-args[0]?
  match <-P.underlying t with
  |.slice e => do
   let n <-bH P e
   let z <-Nu P e
   if n=0∨z.length≠n then none else some (.clr n z (<-bO x))
  |_=>none
 |.call { callee:=.builtin .min,.. } | .call { callee:=.builtin .max,.. } | .call { callee:=.builtin .complex,.. }
 |.call { callee:=.builtin .real,.. } | .call { callee:=.builtin .imag,.. }=>some (.gen op ty)
 |_=>none
def DI:lg->Bool
 |.call ..=>true
 |_=>false
def Ui:lg->Bool
 |.gen (.select ..) _=>true
 |_=>false
def cat:lg->Nat
 |.DR .. | .pick .. | .gen .. | .build .. | .lD .. | .iy .. | .HE .. | .idx .. | .Rh .. | .Pf .. | .len .. | .extract .. | .CR .. | .part .. | .AD ..=>0
 |.load ..=>1
 |.alloc .. | .box .. | .iV .. | .mk .. | .sx=>2
 |_=>3
def comp(P:Program)(op:Op)(ty:TypeId):Option lg:=
 match op with
 |.call { callee := .value f, args, .. }=>
  match bO f,Hc args with
  |some of,some os=>some (.call of os)
  |_,_=>none
 |_=>
  match lj P op ty with
  |some b=>if DI b || Ui b then none else some b
  |none=>none
def lV:Nat->List (Value×D×Nat)->List (Value×D×Nat)
 |_,[]=>[]
 |i,(k,d,_)::l=>(k,d,i)::lV (i+1) l
abbrev uE:=FuncId->List D->aq->Option (D×aq×List Nat)
def sc:D->Option Int
 |.c (.lit (.int _ n))=>some n
 |_=>none
def gM:D->Option Bool
 |.c (.lit (.bool b))=>some b
 |_=>none
def mL(P:Program)(op:Op)(ty:TypeId)(env:List D):Option D:=
 if op.operands.toList.all (λx=>(((bO x).map (aP.ev env)).bind D.cD).isSome) then
  match gu P (execOp (λx=>((((bO x).map (aP.ev env)).bind D.cD).getD undef)) { dst:=none,op:=op,type:=ty,pos:="",after:=#[],guard:=none }) with
  |some (.value v)=>some (de v)
  |_=>none
 else none
def put(cs:List D)(off:Nat)(b:List D):List D:=cs.take off++b++cs.drop (off+b.length)
def pz(env:List D):List D->List (Nat×Nat×aP)->Option (List D)
 |b,[]=>some b
 |b, (o, n, x) :: rest => do
  let xs <-(x.ev env).cells?
  if xs.length≠n∨o+n > b.length then none else pz env (put b o xs) rest
def nl(U:aq)(b sz:Nat):Option (List D):=
 match U[b]? with
 |some (.cells d)=>if d.length=sz then some d else none
 |_=>none
def xI(n:Option Nat)(cs:List D)(off:Nat):Option D:=
 match n with
 |none=>cs[off]?
 |some n=>if off+n<=cs.length then some (.agg ((cs.drop off).take n)) else none
def si(n:Nat)(z:List D):List D:=(List.replicate n z).flatten
def Fc(U:aq):D->Option Nat
 |.c (.lit (.slice none 0 0))=>some 0
 |.c (.cU _ es)=>some es.length
 |.sl b _ len _ sz=>if (nl U b sz).isSome then some len else none
 |_=>none
def Sl(U:aq)(aA:Nat)(n:Nat):D->Option (List D)
 |.c (.lit (.slice none 0 0))=>if n=0 then some [] else none
 |.c (.cU _ d)=>if n<=d.length/\d.all (λe=>e.length=aA) then some ((d.take n).flatten.map .c) else none
 |.sl b off len d sz => do
  let f <-nl U b sz
  if d=aA/\n<=len/\off+len * aA<=sz then some ((f.drop off).take (n * aA)) else none
 |_=>none
def qJ(kind:TypeDesc)(k:Value):List (Value×D×Nat)->Nat->Option (Option (Nat×D))
 |[],_=>some none
 |(b, d, _) :: es, i=>
  match Instr.sameNow kind k b with
  |some true=>some (some (i,d))
  |some false=>qJ kind k es (i+1)
  |none=>none
def EJ(U:aq):D->Option (List (Value×D×Nat))
 |.c (.lit (.map none))=>some []
 |.c (.Kl es)=>some (es.map λp=>(p.1,.c p.2,0))
 |.mp b => match U[b]? with
  |some (.map es _)=>some es
  |_=>none
 |_=>none
def Vt(zero:D):Option (Nat×D)->D×Bool
 |some (_,d)=>(d,true)
 |none=>(zero,false)
def Af(i:Int)(n:Nat):Option Nat:=if 0<=i/\i<n then some i.toNat else none
def Od(i:Int)(n:Nat):Option Nat:=if 0<=i/\i<=n then some i.toNat else none
def m_(env:List D)(b d:Nat):Option aP->Option Nat
 |none=>some b
 |some x=>(sc (x.ev env)).bind λi=>Od i d
def DL(n b:Nat):Bool:=(n * b<=2 ^ 40&&n<=2 ^ 40)&&b<=2 ^ 20
def bg(P:Program)(orc:uE)(o:lg)(env:List D)(U:aq):Option (D×aq×List Nat):=
 match o with
 |.DR x=>some (x.ev env,U,[])
 |.pick c a b=>(gM (c.ev env)).map λt=>(if t then a.ev env else b.ev env,U,[])
 |.gen op ty=>(mL P op ty env).map λd=>(d,U,[])
 |.box x=>((x.ev env).cells?).map λp=>(.ptr U.length 0 p.length,U++[.cells p],[])
 |.alloc z=>some (.ptr U.length 0 z.length,U++[.cells z],[])
 |.build z G=>(pz env z G).map λp=>(.agg p,U,[])
 |.iV aA len z G=>(pz env (si len z) G).map λp=>(.sl U.length 0 len aA p.length,U++[.cells p],[])
 |.load n a=>
  match a.ev env with
  |.ptr b off sz=>do some (<-xI n (<-nl U b sz) off,U,[])
  |.c (.cA p off)=>do some (<-xI n (p.map .c) off,U,[])
  |_=>none
 |.store n a x=>
  match a.ev env with
  |.ptr b off sz => do
   let p <-nl U b sz
   let xs <-(x.ev env).cells?
   if xs.length=n/\off+n<=sz then some (.aT [],U.set b (.cells (put p off xs)),[b]) else none
  |_=>none
 |.lD x=>
  match x.ev env with
  |.ptr b off sz=>some (.ptr b off sz,U,[])
  |.c (.cA p off)=>some (.c (.cA p off),U,[])
  |.c (.fn (.func f) first u)=>some (.c (.fn (.func f) first u),U,[])
  |.fn (.func f) first u=>some (.fn (.func f) first u,U,[])
  |_=>none
 |.iy k K x=>(isNil k (x.ev env)).map λb=>(.c (.lit (.bool (if K then !b else b))),U,[])
 |.HE off x=>
  match x.ev env with
  |.ptr b o sz=>some (.ptr b (o+off) sz,U,[])
  |.c (.cA p o)=>some (.c (.cA p (o+off)),U,[])
  |_=>none
 |.idx aA none x i => do
  let i <-sc (i.ev env)
  match x.ev env with
  |.sl b off len j sz => do
   let _ <-nl U b sz
   let k <-Af i len
   if j=aA then some (.ptr b (off+k * aA) sz,U,[]) else none
  |.c (.cU _ j) => do
   let k <-Af i j.length
   let e <-j[k]?
   if e.length=aA then some (.c (.cA e 0),U,[]) else none
  |_=>none
 |.idx aA (some len) x i => do
  let i <-sc (i.ev env)
  let k <-Af i len
  match x.ev env with
  |.ptr b off sz=>some (.ptr b (off+k * aA) sz,U,[])
  |.c (.cA p off)=>some (.c (.cA p (off+k * aA)),U,[])
  |.c (.Rb g) => match Gl.Zs g with
   |[]=>none
   |v::O=>some (.c (.cA ((v::O).map .lit) (k * aA)),U,[])
  |_=>none
 |.Rh aA x F A=>
  match x.ev env with
  |.c (.lit (.slice none 0 0)) => do
   let h <-m_ env 0 0 A
   let _ <-m_ env 0 h F
   some (.c (.lit (.slice none 0 0)),U,[])
  |.c (.cU nn j) => do
   let h <-m_ env j.length j.length A
   let l <-m_ env 0 h F
   if j.all (λe=>e.length=aA) then some (.c (.cU nn ((j.take h).drop l)),U,[]) else none
  |.sl b off len j sz => do
   let _ <-nl U b sz
   let h <-(m_ env len len A).orElse λ_=>m_ env len ((sz-off) / j) A
   let l <-m_ env 0 h F
   if j=aA then some (.sl b (off+l * aA) (h-l) aA sz,U,[]) else none
  |_=>none
 |.len x=>(Fc U (x.ev env)).map λ(n:Nat)=>(.c (.lit (.int .i64 (Int.ofNat n))),U,[])
 |.Ti x=>(EJ U (x.ev env)).map λj=>(.c (.lit (.int .i64 (Int.ofNat j.length))),U,[])
 |.mk aA q z l c => do
  let l <-sc (l.ev env)
  let c <-sc (c.ev env)
  if 0<=l/\l<=c/\DL c.toNat q then some (.sl U.length 0 l.toNat aA (l.toNat * aA),U++[.cells (si l.toNat z)],[]) else none
 |.sx=>some (.mp U.length,U++[.map [] 0],[])
 |.lookup y zero m k ok => do
  let E <-gZ (k.ev env)
  let j <-EJ U (m.ev env)
  let r <-qJ y E j 0
  some (if ok then .aT [(Vt zero r).1,.c (.lit (.bool (Vt zero r).2))] else (Vt zero r).1,U,[])
 |.vD y m k x => do
  let E <-gZ (k.ev env)
  match m.ev env with
  |.mp b => match U[b]? with
   |some (.map j clock) => do
    match <-qJ y E j 0 with
    |some (i,_)=>some (.aT [],U.set b (.map (j.modify i λ(k,_,n)=>(k,x.ev env,n)) clock),[b])
    |none=>some (.aT [],U.set b (.map (j++[(E,x.ev env,clock)]) (clock+1)),[b])
   |_=>none
  |_=>none
 |.del y m k => do
  let E <-gZ (k.ev env)
  match m.ev env with
  |.mp b => match U[b]? with
   |some (.map j clock) => do
    match <-qJ y E j 0 with
    |some (i,_)=>some (.aT [],U.set b (.map (lV 0 (j.eraseIdx i)) (clock-1)),[b])
    |none=>some (.aT [],U.set b (.map j clock),[b])
   |_=>none
  |_=>none
 |.extract x i=>
  match x.ev env with
  |.aT ds=>(ds[i]?).map λd=>(d,U,[])
  |_=>none
 |.CR f first u=>some (.fn f (first.map (aP.ev env)) (u.map (aP.ev env)),U,[])
 |.part off n x=>
  match x.ev env with
  |.agg p=>(xI n p off).map λd=>(d,U,[])
  |_=>none
 |.AD aA len n x i => do
  let i <-sc (i.ev env)
  let k <-Af i len
  match x.ev env with
  |.agg p=>(xI n p (k * aA)).map λd=>(d,U,[])
  |_=>none
 |.append aA q s x => do
  let L:=x.ev env
  let n <-Fc U L
  let new <-Sl U aA n L
  match s.ev env with
  |.c (.lit (.slice none 0 0))=>if DL n q then some (.sl U.length 0 n aA (n * aA),U++[.cells new],[]) else none
  |.sl b off len j sz => do
   let p <-nl U b sz
   if j=aA/\off=0/\len * aA=sz/\DL (len+n) q then
    if n=0 then some (.sl b 0 len aA sz,U,[b])
    else some (.sl b 0 (len+n) aA (sz+n * aA),U.set b (.cells (p++new)),[b])
   else if j=aA/\off=0/\(len+n) * aA<=sz/\DL (len+n) q then
    if n=0 then some (.sl b 0 len aA sz,U,[b])
    else some (.sl b 0 (len+n) aA sz,U.set b (.cells (put p (len * aA) new)),[b])
   else none
  |_=>none
 |.Pf aA x F A Q=>
  match x.ev env with
  |.sl b _ len j sz => do
   let _ <-nl U b sz
   let m <-(sc (Q.ev env)).bind λi=>Od i len
   let h <-(sc (A.ev env)).bind λi=>Od i len
   let _ <-(sc (F.ev env)).bind λi=>Od i h
   if m=len/\j=aA then some (.any,U,[]) else none
  |_=>none
 |.clr aA z x=>
  match x.ev env with
  |.sl b off len j sz => do
   let p <-nl U b sz
   if j=aA/\off+len * aA<=sz/\z.length=aA then some (.aT [],U.set b (.cells (put p off (si len z))),[b]) else none
  |_=>none
 |.copy aA d s => do
  let N:=s.ev env
  match d.ev env with
  |.sl b off len j sz => do
   let p <-nl U b sz
   let n <-(Fc U N).map λm=>min m len
   let new <-Sl U aA n N
   if j=aA/\off+len * aA<=sz then some (.c (.lit (.int .i64 n)),U.set b (.cells (put p off new)),[b]) else none
  |_=>none
 |.call f args=>
  match f.ev env with
  |.c (.fn (.func g) first u)=>orc g (first.map .c++args.map (aP.ev env)++u.map .c) U
  |.fn (.func g) first u=>orc g (first++args.map (aP.ev env)++u) U
  |_=>none
end Go.Abs
end
section
namespace Go.Abs
variable[Gl]
section
variable{U U':aq}{M M':Nat->Option Nat}{Fz Fz':Nat->Prop}{w w':World}
theorem Rel.lt(R:Rel U M Fz w){b c:Nat}(h:M b=some c):b<U.length/\c<w.heap.size:=by
 obtain ⟨_,i,o,j,s,_⟩:=R.blk b c h
 grind
theorem VC.heap(i:w'.heap=w.heap){x:C}{v:Value}(h:VC Fz w x v):VC Fz w' x v:=h.mono λc j=>⟨j,by rw[i]⟩
theorem bQ.heap(R:Rel U M Fz w)(j:w'.heap=w.heap)(o:w'.os=w.os/\w'.tape=w.tape/\w'.output=w.output):bQ U M Fz w U M Fz w':={
 size:=by simp_all
 frame:=λ_ _ _=>by rw[j]
 oA:=λb c h=>.inl ⟨b,h⟩
 fz:=λc h=>⟨h,by rw[j]⟩
 rS:=λc h=>.inl h
 sa:=λc i T u h=>⟨i,by simp_all,rfl⟩
 cX:=λb s h=>⟨s,h,cT _,λ_=>rfl⟩
 out:=o }
theorem Rel.heap(R:Rel U M Fz w)(i:w'.heap=w.heap)(j:w'.os=w.os/\w'.tape=w.tape/\w'.output=w.output):Rel U M Fz w':={
 blk:=λb c h=>by obtain ⟨s,ob,o,h1,h2,u⟩:=R.blk b c h;exact ⟨s,ob,o,h1,by simp_all,u.mono (bQ.heap R i j)⟩
 inj:=R.inj
 fz:=λc h=>by rw[i];exact R.fz c h
 gl:=Gl.mono (bQ.heap R i j).fz R.gl }
def vY(M:Nat->Option Nat)(b c:Nat):Nat->Option Nat:=λx=>if x=b then some c else M x
theorem bQ.alloc(i:∀c,Fz c->c<w.heap.size)(ob:Ob)(o:Obj):bQ U M Fz w (U++[ob]) (vY M U.length w.heap.size) Fz (w.alloc o):={
 size:=by simp
 frame:=λc u _=>heap_alloc_old w o c u
 oA:=λb c h=>by grind [vY]
 fz:=λc h=>⟨h,heap_alloc_old w o c (i c h)⟩
 rS:=λc h=>.inl h
 sa:=λc j T x h=>⟨j,by grind [Go.heap_alloc_old],rfl⟩
 cX:=λb s h=>by
  have z:=(jy.1 h).1;refine ⟨s,by grind,cT _,λ_=>?_⟩;unfold vY
  grind
 out:=⟨rfl,rfl,rfl⟩ }
theorem Rel.alloc(R:Rel U M Fz w)(ob:Ob)(o:Obj)(h:cf (U++[ob]) (vY M U.length w.heap.size) Fz (w.alloc o) ob o) :
  Rel (U++[ob]) (vY M U.length w.heap.size) Fz (w.alloc o):={
 blk:=λb c i=>by
  unfold vY at i;split at i
  ·rename_i x;subst x;simp only[aw] at i;subst i;exact ⟨λs=>by have:=R.fz _ s;omega,ob,o,by simp,heap_alloc_new w o,h⟩
  ·obtain ⟨s,u,z,h1,h2,A⟩:=R.blk b c i;have F:=R.lt i;exact ⟨s,u,z,by grind,by grind [Go.heap_alloc_old],A.mono (bQ.alloc R.fz ob o)⟩
 inj:=λb E c h j=>by
  unfold vY at h j;split at h <;> split at j
  ·omega
  ·simp only[aw] at h;have:=(R.lt j).2;omega
  ·simp only[aw] at j;have:=(R.lt h).2;omega
  ·exact R.inj b E c h j
 fz:=λc h=>by have:=R.fz c h;simp;omega
 gl:=Gl.mono (bQ.alloc (U:=U) (M:=M) R.fz ob o).fz R.gl }
def fT(w:World)(c:Nat)(o:Obj):World:={ w with heap:=w.heap.setIfInBounds c o }
theorem oF{c:Nat}{o:Obj}(h:c<w.heap.size):(fT w c o).heap[c]? = some o:=by simp[fT,h]
theorem qh{c k:Nat}{o:Obj}(h:k≠c):(fT w c o).heap[k]? = w.heap[k]?:=by grind [fT]
@[simp] theorem setO_size{c:Nat}{o:Obj}:(fT w c o).heap.size=w.heap.size:=by simp[fT]
theorem bQ.vD(R:Rel U M Fz w){b c:Nat}(x:M b=some c){ob ob':Ob}{o o':Obj}(A:U[b]? = some ob)(E:w.heap[c]? = some o)(hs:ob.sz<=ob'.sz)
  (s:∀arr T j,o=.cells arr T j->∃i,o'=.cells i T j/\i.size=arr.size):bQ U M Fz w (U.set b ob') M Fz (fT w c o'):={
 size:=by simp
 frame:=λk hk z=>qh (λh=>z b (by grind))
 oA:=λb c h=>.inl ⟨b,h⟩
 fz:=λk h=>⟨h,qh (λe=>(R.blk b c x).1 (e▸h))⟩
 rS:=λc h=>.inl h
 sa:=λk arr T j h=>by grind [oF,qh]
 cX:=λk u h=>by grind
 out:=⟨rfl,rfl,rfl⟩ }
theorem Rel.vD(R:Rel U M Fz w){b c:Nat}(s:M b=some c){ob ob':Ob}{o o':Obj}(z:U[b]? = some ob)(A:w.heap[c]? = some o)(hs:ob.sz<=ob'.sz)
  (i:∀arr T E,o=.cells arr T E->∃j,o'=.cells j T E/\j.size=arr.size)
  (h:cf (U.set b ob') M Fz (fT w c o') ob' o'):Rel (U.set b ob') M Fz (fT w c o'):={
 blk:=λu c1 F=>by
  obtain ⟨G,x,K,h2,h3,L⟩:=R.blk u c1 F;by_cases e:u=b
  ·subst e;have:c1=c:=by simp_all
   grind [oF]
  ·refine ⟨G,x,K,by grind,?_,L.mono (bQ.vD R s z A hs i)⟩;rw[qh (λO:c1=c=>e (R.inj u b c (by simp_all) s))];exact h3
 inj:=R.inj
 fz:=λc h=>by simp;exact R.fz c h
 gl:=Gl.mono (bQ.vD R s z A hs i).fz R.gl }
theorem bQ.move(R:Rel U M Fz w){b:Nat}{ob ob':Ob}{o':Obj}(s:U[b]? = some ob)(hs:ob.sz<ob'.sz) :
  bQ U M Fz w (U.set b ob') (vY M b w.heap.size) Fz (w.alloc o'):={
 size:=by simp
 frame:=λc o _=>heap_alloc_old w o' c o
 oA:=λb c h=>by grind [vY]
 fz:=λc h=>⟨h,heap_alloc_old w o' c (R.fz c h)⟩
 rS:=λc h=>.inl h
 sa:=λc j T u h=>⟨j,by grind [Go.heap_alloc_old],rfl⟩
 cX:=λk i h=>by
  by_cases e:k=b
  ·grind
  ·refine ⟨i,by grind,cT _,λ_=>?_⟩;unfold vY
   simp_all
 out:=⟨rfl,rfl,rfl⟩ }
theorem Rel.move(R:Rel U M Fz w){b:Nat}{ob ob':Ob}{o':Obj}(u:U[b]? = some ob)(hs:ob.sz<ob'.sz)
  (h:cf (U.set b ob') (vY M b w.heap.size) Fz (w.alloc o') ob' o'):Rel (U.set b ob') (vY M b w.heap.size) Fz (w.alloc o'):={
 blk:=λj c1 i=>by
  unfold vY at i;split at i
  ·rename_i e;subst e;simp only[aw] at i;subst i;exact ⟨λo=>by have:=R.fz _ o;omega,ob',o',by grind,heap_alloc_new w o',h⟩
  ·rename_i e;obtain ⟨o,s,x,h2,h3,z⟩:=R.blk j c1 i;exact ⟨o,s,x,by grind,by grind [Go.heap_alloc_old],z.mono (bQ.move R u hs)⟩
 inj:=λj A c i h2=>by
  unfold vY at i h2;split at i <;> split at h2
  ·omega
  ·simp only[aw] at i;have:=(R.lt h2).2;omega
  ·simp only[aw] at h2;have:=(R.lt i).2;omega
  ·exact R.inj j A c i h2
 fz:=λc h=>by have:=R.fz c h;simp;omega
 gl:=Gl.mono (bQ.move (o':=o') R u hs).fz R.gl }
def ie(arr:Array Value)(off:Nat)(b:List Value):Array Value:=(arr.toList.take off++b++arr.toList.drop (off+b.length)).toArray
theorem iP{arr:Array Value}{off:Nat}{b:List Value}(h:off+b.length<=arr.size):(ie arr off b).size=arr.size:=by grind [ie]
theorem zy{arr:Array Value}{off:Nat}{x:Value}{b:List Value}(h:off+(b.length+1)<=arr.size) :
  ie (arr.setIfInBounds off x) (off+1) b=ie arr off (x::b):=by
 apply Array.ext';simp only[ie,Array.toList_setIfInBounds,List.length_cons];apply Rg;intro i;have d:arr.toList.length=arr.size:=by simp
 simp only[yBm,Gh,uC,SU,d,List.length_cons]
 grind
theorem du{arr:Array Value}{off:Nat}{b:List Value}(h:off+b.length<=arr.size)(i:Nat) :
  (ie arr off b)[i]? = if off<=i/\i<off+b.length then b[i-off]? else arr[i]?:=by
 have d:arr.toList.length=arr.size:=by simp
 simp only[ie,List.getElem?_toArray,yBm,Gh,uC,d]
 grind
theorem gW{cs b:List D}{off:Nat}(h:off+b.length<=cs.length)(i:Nat) :
  (put cs off b)[i]? = if off<=i/\i<off+b.length then b[i-off]? else cs[i]?:=by
 simp only[put,yBm,Gh,uC]
 grind
theorem V_{cs b:List D}{off:Nat}(h:off+b.length<=cs.length):(put cs off b).length=cs.length:=by grind [put]
theorem dP(blk o i:Nat):(Addr.mk blk o none).add i=⟨blk,o+i,none⟩:=by grind [Go.Addr.add]
theorem Hl{c off:Nat}{arr:Array Value}{T:TypeId}{v:Value}(h:w.heap[c]? = some (.cells arr T (0,0))) :
  w.setCell ⟨c,off,none⟩ v=fT w c (.cells (arr.setIfInBounds off v) T (0,0)):=by
 unfold World.setCell fT;congr 1
 grind
theorem Pr{c:Nat}{o o':Obj}:fT (fT w c o) c o'=fT w c o':=by simp[fT]
theorem uk(P:Program)(T:TypeId)(c:Nat):∀(b:List Value)(i off:Nat)(w:World)(arr:Array Value),
  w.heap[c]? = some (.cells arr T (0,0))->(∀x∈b,x.oneCell'=true)->off+i+b.length<=arr.size ->
  (storeCells ⟨c,off,none⟩ b i).run P w=.ok () (if b=[] then w else fT w c (.cells (ie arr (off+i) b) T (0,0))):=by
 intro b;induction b with
 |nil=>intro i off w arr _ _ _;simp[storeCells]
 |cons x b ih=>
  intro i off w arr e g j;simp only[List.length_cons] at j;have f:=(KR.1 e).1;have d:w.cell? ⟨c,off+i,none⟩=some (arr[off+i]'(by omega)):=by
   rw[cell_of_row w c (off+i) arr T (0,0) e]
   simp_all
  simp only[storeCells,Sem.run_bind,dP];rw[run_store P w _ x _ (g x (by simp)),d];simp only[frozen_of_row w c (off+i) arr T e,a_,bn,Result.andThen_ok];rw[Hl e];have k:=ih (i+1) off (fT w c (.cells (arr.setIfInBounds (off+i) x) T (0,0))) (arr.setIfInBounds (off+i) x) (oF f)
   (λy l=>g y (by simp[l])) (by grind)
  rw[k];simp only[List.cons_ne_nil,bn,reduceCtorEq];congr 1;by_cases h:b=[]
  ·subst h;simp only[if_true];rw[<-zy (by omega)];congr 2;apply Array.ext';simp[ie]
  ·rw[if_neg h,Pr,<-zy (by omega)];rfl
end
end Go.Abs
end
section
namespace Go.Abs
variable[Gl]
def dk(U:aq)(M:Nat->Option Nat)(Fz:Nat->Prop)(w:World)(env:List D)(b:Array Value):Prop:=
 b.size=env.length/\∀(i:Nat) d v,env[i]? = some d->b[i]? = some v->V U M Fz w d v
def dj(P:Program)(s:Sem Next)(U:aq)(M:Nat->Option Nat)(Fz:Nat->Prop)(w:World)(U':aq)(d:D):Prop:=
 ∃b v w' M',s.run P w=.ok b w'/\(b=.value v∨b=.skip/\v=undef)/\Rel U' M' Fz w'/\V U' M' Fz w' d v/\bQ U M Fz w U' M' Fz w'/\U.length<=U'.length
section
variable{P:Program}{U U':aq}{M M':Nat->Option Nat}{Fz:Nat->Prop}{w w':World}{env:List D}{a:Act}
theorem dj.same{s:Sem Next}{v:Value}{d:D}(R:Rel U M Fz w)(i:s.run P w=.ok (.value v) w)(j:V U M Fz w d v):dj P s U M Fz w U d:=
 ⟨_,v,w,M,i,.inl rfl,R,j,bQ.refl R,cT _⟩
def Yields(P:Program)(s:Sem Next)(U:aq)(M:Nat->Option Nat)(Fz:Nat->Prop)(w:World)(d:D):Prop:=∃v,s.run P w=.ok (.value v) w/\V U M Fz w d v
def ai(P:Program)(s:Sem Next)(U:aq)(M:Nat->Option Nat)(Fz:Nat->Prop)(w:World)(ob:Ob)(d:D):Prop:=
 ∃o v,s.run P w=.ok (.value v) (w.alloc o)/\cf (U++[ob]) (vY M U.length w.heap.size) Fz (w.alloc o) ob o/\V (U++[ob]) (vY M U.length w.heap.size) Fz (w.alloc o) d v
theorem Yields.same{s:Sem Next}{v:Value}{d:D}(i:s.run P w=.ok (.value v) w)(j:V U M Fz w d v):Yields P s U M Fz w d:=⟨v,i,j⟩
theorem Yields.Nk{s:Sem Next}{d:D}(R:Rel U M Fz w)(h:Yields P s U M Fz w d):dj P s U M Fz w U d:=
 let ⟨_,i,j⟩:=h;dj.same R i j
theorem ai.Nk{s:Sem Next}{d:D}{ob:Ob}(R:Rel U M Fz w)(h:ai P s U M Fz w ob d):dj P s U M Fz w (U++[ob]) d:=
 let ⟨o,v,i,j,u⟩:=h;⟨_,v,_,_,i,.inl rfl,R.alloc ob o j,u,bQ.alloc R.fz ob o,by simp⟩
theorem V.de (v:Value):V U M Fz w (de v) v:=by
  cases v <;> first
    | exact .c (.lit _)
    | (refine .agg _ (by simp) (fun i d v j o=>?_)
       simp only [jX,OY,o,Option.map_some,aw] at j
       subst j
       exact .c (.lit _))
    | (refine .aT _ (by simp) (fun i d v j o=>?_)
       simp only [jX,OY,o,Option.map_some,aw] at j
       subst j
       exact .c (.lit _))
theorem mf(E:dk U M Fz w env a.tmps){x:Operand}{o:aP}(h:bO x=some o):V U M Fz w (o.ev env) (a.eval x):=by
 cases x with
 |tmp t=>
  simp only[bO,aw] at h;subst h;simp only[aP.ev,Act.eval];by_cases e:t<env.length
  ·have j:env[t]? = some env[t]:=dB e;have k:a.tmps[t]? = some (a.tmps[t]'(by rw[E.1];exact e)):=tc _;rw[j,xAc,Xz,k,xAc];exact E.2 t _ _ j k
  ·have b:env.length<=t:=Nat.le_of_not_lt e;rw[xAh b,Xz,Array.getElem?_eq_none (by rw[E.1];exact b)];exact .aT #[] rfl (λi d v h=>by simp at h)
 |const v=>simp only[bO,aw] at h;subst h;exact V.de v
 |global g=>simp only[bO,aw] at h;subst h;exact .c (.Rb g)
 |func f=>simp only[bO,aw] at h;subst h;exact .c (.fn #[] #[] rfl rfl (λi d v h=>by simp at h) (λi d v h=>by simp at h))
theorem V.cC{v i:Value}(h:V U M Fz w (.c (.lit v)) i):i=v:=by
 cases h with
 |c h=>cases h;rfl
theorem Lh{ds:List D}{l:List Value}(h:ds.mapM gZ=some l):ds.length=l.length/\∀(i:Nat) d,ds[i]? = some d->∃v,l[i]? = some v/\d=.c (.lit v):=by
 induction ds generalizing l with
 |nil=>simp_all
 |cons d ds ih=>
  simp only[Qf,Option.pure_def,Option.bind_eq_bind,cr,aw] at h;obtain ⟨v,b,g,e,rfl⟩:=h;obtain ⟨f,j⟩:=ih e;refine ⟨by simp[f],λi k hd=>?_⟩;cases i with
  |zero=>
   simp only[List.getElem?_cons_zero,aw] at hd;subst hd;cases d with
   |c x=>cases x <;> simp[gZ] at b;simp_all
   |_=>grind [gZ]
  |succ i=>simp_all
theorem V.Wq{d:D}{v s:Value}(h:V U M Fz w d s)(j:d.cD = some v):s=v:=by
 cases d with
 |c x=>cases x <;> simp[D.cD] at j;grind [V.cC]
 |agg ds=>
  simp only[D.cD,cu] at j;obtain ⟨l,G,rfl⟩:=j;obtain ⟨O,K⟩:=Lh G;cases h with
  |agg z hs o=>
   congr 1;apply Array.ext';apply Rg;intro i;simp only[OY];by_cases L:i<ds.length
   ·have A:ds[i]? = some ds[i]:=dB L;have E:z[i]? = some (z[i]'(by omega)):=tc _;obtain ⟨u,Q,hd⟩:=K i _ A;have F:=o i _ _ A E;rw[hd] at F;rw[E,F.cC]
    simp_all
   simp_all
 |_=>grind [D.cD]
theorem R_(E:dk U M Fz w env a.tmps){o:Oper}{x:Operand}{d:aP}(b:o.op=.move x∨o.op=.assign x)(e:bO x=some d) :
  Yields P (execOp a.eval o) U M Fz w (d.ev env):=by
 refine Yields.same (v:=a.eval x) ?_ (mf E e);rcases b with b | b <;> simp[execOp,b]
theorem mS{d:D}{v:Value}{t:Bool}(h:V U M Fz w d v)(b:gM d=some t):v=.bool t:=by
 cases d with
 |c x=>
  cases x with
  |lit u=>
   cases u <;> simp[gM] at b
   grind [V.cC]
  |_=>grind [gM]
 |_=>grind [gM]
theorem iR{d:D}{v:Value}{n:Int}(h:V U M Fz w d v)(b:sc d=some n):∃k,v=.int k n:=by
 cases d with
 |c x=>
  cases x with
  |lit u=>
   cases u <;> simp[sc] at b
   grind [V.cC]
  |_=>grind [sc]
 |_=>grind [sc]
theorem Wi(E:dk U M Fz w env a.tmps){o:Oper}{c x y:Operand}{b d e:aP}{t:Bool}(f:o.op=.pick c x y)
  (g:bO c=some b) (i:bO x=some d) (j:bO y=some e) (h:gM (b.ev env)=some t) :
  Yields P (execOp a.eval o) U M Fz w (if t then d.ev env else e.ev env):=by
 refine Yields.same (v:=if t then a.eval x else a.eval y) ?_ ?_
 ·simp[execOp,f,mS (mf E g) h,asBool]
 grind [mf]
theorem kc(E:dk U M Fz w env a.tmps){o:Oper}{d:D}(e:∀cs b,o.op≠.select cs b)(h:mL P o.op o.type env=some d) :
  Yields P (execOp a.eval o) U M Fz w d:=by
 unfold mL at h;split at h
 ·rename_i f;generalize j:(λx=>((((bO x).map (aP.ev env)).bind D.cD).getD undef))=ρ at h;have k:execOp a.eval o=execOp ρ o:=by
   refine execOp_congr o e (λx n=>?_);have g:=(gH.1 f) x (by simp_all);rw[<-j];cases i:bO x with
   |none=>simp_all
   |some p=>simp only[i,Option.map_some,Option.bind_some] at g ⊢;obtain ⟨v,m⟩:=ZV.1 g;rw[m,xAc];exact (mf E i).Wq m
  have l:execOp ρ o=execOp ρ { dst:=none,op:=o.op,type:=o.type,pos:="",after:=#[],guard:=none }:=rfl
  grind [Yields.same,V.de,LC]
 simp_all
theorem V.one{d:D}{v:Value}(h:V U M Fz w d v)(hs:d.scalar=true):v.oneCell'=true/\v.cells=#[v]:=by
 cases h with
 |c h=>
  cases h with
  |lit v=>simp only[D.scalar] at hs;cases v <;> first | exact ⟨rfl,rfl⟩ | simp[Value.oneCell'] at hs
  |_=>exact ⟨rfl,rfl⟩
 |any v=>grind [D.scalar]
 |agg=>grind [D.scalar]
 |aT=>grind [D.scalar]
 |_=>exact ⟨rfl,rfl⟩
theorem V.cells{d:D}{v:Value}{cs:List D}(h:V U M Fz w d v)(j:d.cells? = some cs) :
  v.cells.size=cs.length/\(∀(i:Nat) x u,cs[i]? = some x->v.cells[i]? = some u->V U M Fz w x u)/\(∀u∈v.cells.toList,u.oneCell'=true)/\(∀x∈cs,x.scalar=true):=by
 have s:d.scalar=true->d.cells? = some [d]->v.cells.size=cs.length/\(∀(i:Nat) x u,cs[i]? = some x->v.cells[i]? = some u->V U M Fz w x u)/\(∀u∈v.cells.toList,u.oneCell'=true)/\(∀x∈cs,x.scalar=true):=by
  intro hs z;rw[z] at j;simp only[aw] at j;subst j;obtain ⟨Q,R⟩:=h.one hs
  grind
 cases d with
 |agg ds=>
  simp only[D.cells?] at j;split at j
  ·rename_i o;simp only[aw] at j;subst j;cases h with
   |agg A z E=>refine ⟨z,E,λu F=>?_,λx G=>gH.1 o x G⟩;obtain ⟨i,K,rfl⟩:=yBE.1 F;simp only[Value.cells,Array.length_toList] at K;have L:ds[i]? = some (ds[i]'(by omega)):=dB _;have O:A[i]? = some A[i]:=tc _;exact ((E i _ _ L O).one (gH.1 o _ (bR _))).1
  simp_all
 |_=>
  simp only[D.cells?] at j;split at j
  ·rename_i hs;exact s hs (by simp only[D.cells?,hs,if_true])
  simp_all
theorem w_{arr:Array Value}{i:Nat}{u:Value}(h:arr[i]? = some u):u∈arr.toList:=by grind
theorem pf (b:∀c,Fz c→c<w.heap.size) {cs:List D} {arr:Array Value} (T:TypeId) (hs:cs.length≤arr.size)
  (e:∀(i:Nat) x u,cs[i]? = some x→arr[i]? = some u→V U M Fz w x u∧u.oneCell'=true) :
  (newRow T arr).run P w=.ok ⟨w.heap.size,0,none⟩ (w.alloc (.cells arr T)) ∧
   cf (U++[.cells cs]) (vY M U.length w.heap.size) Fz (w.alloc (.cells arr T)) (.cells cs) (.cells arr T):=
 ⟨rfl,arr,T,rfl,hs,fun i d v f g=>⟨(e i d v f g).1.mono (bQ.alloc b _ _),(e i d v f g).2⟩⟩
theorem V.SO(cs:List D)(o:Obj):V (U++[.cells cs]) (vY M U.length w.heap.size) Fz (w.alloc o) (.ptr U.length 0 cs.length) (.pointer (some ⟨w.heap.size,0,none⟩)):=
 .ptr _ (.cells cs) (by simp) (by simp[Ob.sz]) (λ_=>⟨w.heap.size,by simp[vY],rfl⟩)
theorem box_ok(b:∀c,Fz c->c<w.heap.size)(E:dk U M Fz w env a.tmps){o:Oper}{t:TypeId}{x:Operand}{e:aP}{cs:List D}(g:o.op=.box t x)(d:bO x=some e)
  (h:(e.ev env).cells? = some cs):ai P (execOp a.eval o) U M Fz w (.cells cs) (.ptr U.length 0 cs.length):=by
 obtain ⟨n,j,k,_⟩:=(mf E d).cells h;obtain ⟨l,m⟩:=pf (P:=P) b t (by omega) (λi x u d f=>⟨j i x u d f,k u (w_ f)⟩);exact ⟨_,_,by simp[execOp,g,Instr.box,newVar,l],m,V.SO cs _⟩
theorem zc9{t:TypeId}{z:List D}(h:Nu P t=some z):∃i v,P.info? t=some i/\i.zero=some v/\(de v).cells? = some z:=by grind [Nu,zeroOf,Option.bind_eq_some_iff]
theorem Zu{t:TypeId}{i:TypeInfo}(h:P.info? t=some i)(w:World):(typeInfo t).run P w=.ok i w:=by simp[typeInfo,h]
theorem h_{t:TypeId}{i:TypeInfo}{v:Value}(h:P.info? t=some i)(b:i.zero=some v)(w:World):(zeroValue t).run P w=.ok v w:=by simp[zeroValue,Zu h,b]
theorem NU{t:TypeId}{n:Nat}(h:bH P t=some n)(w:World):(sizeOf t).run P w=.ok n w:=by simp only[bH,cu] at h;obtain ⟨i,b,rfl⟩:=h;simp[sizeOf,Zu b]
theorem qv{t:TypeId}{d:TypeDesc}(h:P.underlying t=some d)(w:World):(underlying t).run P w=.ok d w:=by simp[underlying,h]
theorem Th(b:∀c,Fz c->c<w.heap.size){o:Oper}{t:TypeId}{z:List D}(e:o.op=.alloc t)(f:Nu P t=some z) :
  ai P (execOp a.eval o) U M Fz w (.cells z) (.ptr U.length 0 z.length):=by
 obtain ⟨i,v,g,h,j⟩:=zc9 f;obtain ⟨q,k,l,_⟩:=(V.de (U:=U) (M:=M) (Fz:=Fz) (w:=w) v).cells j;obtain ⟨m,n⟩:=pf (P:=P) b t (by omega) (λi x u p d=>⟨k i x u p d,l u (w_ d)⟩);exact ⟨_,_,by simp[execOp,e,Instr.alloc,h_ g h,newVar,m],n,V.SO z _⟩
theorem KI{b sz:Nat}{cs:List D}(h:nl U b sz=some cs):U[b]? = some (.cells cs)/\cs.length=sz:=by grind [nl]
theorem V.ya{b off sz:Nat}{v:Value}{cs:List D}(h:V U M Fz w (.ptr b off sz) v)(j:nl U b sz=some cs):∃c,M b=some c/\v=.pointer (some ⟨c,off,none⟩):=by
 obtain ⟨o,s⟩:=KI j;cases h with
 |ptr z A i u x=>
  rw[o] at i;simp only[aw] at i;subst i;obtain ⟨c,E,F⟩:=x s
  simp_all
theorem Rel.row(R:Rel U M Fz w){b c:Nat}{cs:List D}(s:M b=some c)(u:U[b]? = some (.cells cs)) :
  ∃arr T,w.heap[c]? = some (.cells arr T (0,0))/\cs.length<=arr.size/\∀(i:Nat) d v,cs[i]? = some d->arr[i]? = some v->V U M Fz w d v/\v.oneCell'=true:=by
 obtain ⟨_,z,o,j,A,x⟩:=R.blk b c s;rw[u] at j;simp only[aw] at j;subst j;obtain ⟨arr,T,rfl,E,F⟩:=x
 grind
theorem wZ{t:TypeId}{n:Option Nat}{cs:List D}{blk g off:Nat}{d:D}(h:Dk P t=some n)(k:xI n cs off=some d)
  (b:∀(i:Nat) x,cs[i]? = some x->∃u,w.cell? ⟨blk,g+i,none⟩=some u/\V U M Fz w x u) :
  ∃v,(loadVar t ⟨blk,g+off,none⟩).run P w=.ok v w/\V U M Fz w d v:=by
 unfold Dk at h;have agg:∀(i:TypeInfo),P.info? t=some i->n=some i.size->(isAgg t).run P w=.ok true w->∃v,(loadVar t ⟨blk,g+off,none⟩).run P w=.ok v w/\V U M Fz w d v:=by
  intro i p h e;subst h;simp only[xI] at k;split at k
  ·rename_i y;simp only[aw] at k;subst k;have z:∀j,j<i.size->∃u,w.cell? ⟨blk,g+off+j,none⟩=some u/\∀x,cs[off+j]? = some x->V U M Fz w x u:=by
    intro j E;obtain ⟨u,q,r⟩:=b (off+j) _ (dB (by omega))
    grind
   let f:Nat->Value:=λj=>(w.cell? ⟨blk,g+off+j,none⟩).getD undef
   have A:∀j,j<i.size->w.cell? ((Addr.mk blk (g+off) none).add j)=some (f j):=by grind [dP]
   have l:=run_loadCells (P:=P) (w:=w) ⟨blk,g+off,none⟩ i.size f A;refine ⟨.agg (List.map f (List.range i.size)).toArray,by simp only[loadVar,Sem.run_bind,e,Result.andThen_ok,if_true,sizeOf,Zu p,Sem.run_pure,l],?_⟩;refine .agg _ (by grind) (λj x v q r=>?_)
   grind
  simp_all
 have one:n=none->(isAgg t).run P w=.ok false w->∃v,(loadVar t ⟨blk,g+off,none⟩).run P w=.ok v w/\V U M Fz w d v:=by intro h e;subst h;obtain ⟨u,q,r⟩:=b off d k;exact ⟨u,by simp only[loadVar,Sem.run_bind,e,Result.andThen_ok,a_,bn,run_load,q],r⟩
 cases p:P.info? t with
 |none=>simp_all
 |some i=>
  cases s:P.underlying t with
  |none=>simp_all
  |some m=>
   rw[p,s] at h;have o:(isAgg t).run P w=.ok (m matches .struct _ | .array _ _) w:=by simp only[isAgg,Sem.run_bind,qv s,Result.andThen_ok];cases m <;> rfl
   grind
theorem Wo (E:dk U M Fz w env a.tmps) {o:Oper} {t:TypeId} {x:Operand} {q:aP} {n:Option Nat} {d:D} (A:o.op=.load t x) (L:bO x=some q)
  (F:Dk P t=some n) (N:∀b off sz c cs,q.ev env=.ptr b off sz→M b=some c→U[b]? = some (.cells cs)→∃arr T,w.heap[c]? = some (.cells arr T (0,0))∧cs.length≤arr.size∧∀(i:Nat) d v,cs[i]? = some d→arr[i]? = some v→V U M Fz w d v∧v.oneCell'=true)
  (h:(match q.ev env with
   | .ptr b off sz=>do some (←xI n (←nl U b sz) off,U,([]:List Nat))
   | .c (.cA cs off)=>do some (←xI n (cs.map .c) off,U,[])
   | _=>none)=some (d,U',[])):U'=U∧Yields P (execOp a.eval o) U M Fz w d:=by
 have k:=mf E L
 split at h
 ·rename_i b off sz p
  rw [p] at k
  simp only [Option.bind_eq_bind,cr,aw,ba] at h
  obtain ⟨cs,G,O,r,rfl,rfl,_⟩:=h
  refine ⟨rfl,?_⟩
  obtain ⟨c,Q,l⟩:=k.ya G
  obtain ⟨R,_⟩:=KI G
  obtain ⟨arr,T,S,Y,s⟩:=N b off sz c cs p Q R
  have f:∀(i:Nat) x,cs[i]? = some x→∃u,w.cell? ⟨c,0+i,none⟩=some u∧V U M Fz w x u:=by
   intro i x j
   have Z:=(jy.1 j).1
   have e:arr[i]? = some (arr[i]'(by omega)):=tc _
   exact ⟨_,by rw [N_,cell_of_row w c i arr T (0,0) S]; exact e,(s i _ _ j e).1⟩
  obtain ⟨v,g,m⟩:=wZ (P:=P) F r f
  refine Yields.same (v:=v) ?_ m
  rw [N_] at g
  simp [execOp,A,Instr.loadAt,l,Instr.sureAddr,g]
 ·rename_i cs off p
  rw [p] at k
  simp only [Option.bind_eq_bind,cr,aw,ba] at h
  obtain ⟨O,r,rfl,rfl,_⟩:=h
  refine ⟨rfl,?_⟩
  cases k with
  | c k =>
   generalize l:a.eval x=va at k
   cases k with
   | cA blk W c hF X z =>
    have f:∀(i:Nat) x,(cs.map D.c)[i]? = some x→∃u,w.cell? ⟨blk,W+i,none⟩=some u∧V U M Fz w x u:=by
     intro i x j
     simp only [jX,cu] at j
     obtain ⟨y,K,rfl⟩:=j
     exact ⟨_,(X i y K).1,.c (z i y K)⟩
    obtain ⟨v,g,m⟩:=wZ (P:=P) F r f
    refine Yields.same (v:=v) ?_ m
    simp [execOp,A,Instr.loadAt,l,Instr.sureAddr,g]
 simp_all
end
end Go.Abs
end
section
namespace Go.Abs
variable[Gl]
section
variable{P:Program}{U U':aq}{M M':Nat->Option Nat}{Fz:Nat->Prop}{w w':World}{env:List D}{a:Act}
theorem Dd(off:Nat):∀(l:List Value)(k:Nat)(arr:Array Value),off+k+l.length<=arr.size ->
  (l.zipIdx k).foldl (λcs (p:Value×Nat)=>cs.setIfInBounds (off+p.2) p.1) arr=ie arr (off+k) l:=by
 intro l;induction l with
 |nil=>intro k arr _;apply Array.ext';simp[ie]
 |cons x l ih=>grind [List.zipIdx_cons,zy]
def DN(U:aq)(M:Nat->Option Nat)(Fz:Nat->Prop)(w:World)(cs:List D)(arr:Array Value):Prop:=
 arr.size=cs.length/\∀(i:Nat) x u,cs[i]? = some x->arr[i]? = some u->V U M Fz w x u/\u.oneCell'=true
theorem DN.put{cs j:List D}{arr:Array Value}{vs:List Value}{off:Nat}(h:DN U M Fz w cs arr)(A:vs.length=j.length)(z:off+j.length<=cs.length)
  (F:∀(i:Nat) x u,j[i]? = some x->vs[i]? = some u->V U M Fz w x u/\u.oneCell'=true):DN U M Fz w (put cs off j) (ie arr off vs):=by
 refine ⟨by rw[iP (by rw[h.1];omega),V_ z,h.1],λi x u o s=>?_⟩;rw[gW z] at o;rw[du (by rw[h.1];omega),A] at s;split at o
 ·grind
 ·rename_i E;rw[if_neg E] at s;exact h.2 _ _ _ o s
theorem DN.qq{d:D}{v:Value}{cs:List D}(h:V U M Fz w d v)(o:d.cells? = some cs):DN U M Fz w cs v.cells:=by obtain ⟨s,z,A,_⟩:=h.cells o;exact ⟨s,λi x u E j=>⟨z i x u E j,A u (w_ j)⟩⟩
theorem OE(E:dk U M Fz w env a.tmps)(pl:Nat->Option (Nat×Nat)):∀(h:List (Nat×Operand))(l:List (Nat×Nat×aP))(cs e:List D)(arr:Array Value),
  (h.mapM λ(i,x)=>(pl i).bind λ(o,n)=>(bO x).bind λA=>some (o,n,A))=some l->DN U M Fz w cs arr->pz env cs l=some e ->
  ∃b,Instr.fill pl arr (h.map λ(i,x)=>(i,a.eval x))=some b/\DN U M Fz w e b:=by
 intro h;induction h with
 |nil=>intro l cs e arr j k g;simp only[List.mapM_nil,Option.pure_def,aw] at j;subst j;simp only[pz,aw] at g;subst g;exact ⟨arr,rfl,k⟩
 |cons p h ih=>
  intro l cs e arr j k g;obtain ⟨i,x⟩:=p;simp only[Qf,Option.pure_def,Option.bind_eq_bind,cr,aw] at j;obtain ⟨q,⟨⟨o,n⟩,m,A,r,rfl⟩,s,t,rfl⟩:=j;simp only[pz,Option.bind_eq_bind,cr] at g;obtain ⟨L,v,g⟩:=g;split at g
  ·grind
  ·rename_i f;simp only[not_or,HH,Nat.not_lt] at f;obtain ⟨G,K⟩:=f;have d:=DN.qq (mf E r) v;obtain ⟨b,z,F⟩:=ih s _ e (ie arr o (a.eval x).cells.toList) t (k.put (by simp[d.1]) (by omega) (λi y u z F=>d.2 i y u z (by simp_all))) g;refine ⟨b,?_,F⟩;simp only[oK,Instr.fill,m];rw[if_neg (by simp[d.1,G,k.1];omega)];rw[<-z];congr 1;have:=Dd o (a.eval x).cells.toList 0 arr (by simp[d.1,k.1];omega);rw[<-Array.foldl_toList]
   simp_all
theorem Ls{e:Array Field}{b:List (Nat×Nat)}(h:places P e=some b)(w:World) :
  (e.mapM λ(f:Field)=>(do pure (f.offset,<-sizeOf f.type):Sem (Nat×Nat))).run P w=.ok b.toArray w:=by
 have g:∀(l:List Field)(b:List (Nat×Nat)),(l.mapM λf=>(bH P f.type).map λn=>(f.offset,n))=some b ->
   (l.mapM λf=>(do pure (f.offset,<-sizeOf f.type):Sem (Nat×Nat))).run P w=.ok b w:=by
  intro l;induction l with
  |nil=>simp_all
  |cons f l ih=>intro b h;simp only[Qf,Option.pure_def,Option.bind_eq_bind,cr,cu,aw] at h;obtain ⟨q,⟨n,i,rfl⟩,j,d,rfl⟩:=h;simp only[Qf,Sem.run_bind,NU i,Result.andThen_ok,Sem.run_pure,ih j d]
 grind [places,Array.mapM_eq_mapM_toList,Go.Sem.run_map,Go.Result.andThen_ok]
theorem Is(E:dk U M Fz w env a.tmps){o:Oper}{t:TypeId}{b:Array (Nat×Operand)}{z:List D}{h:List (Nat×Nat×aP)}{pl:Nat->Option (Nat×Nat)}{cs:List D}
  (q:o.op=.build t b) (y:Nu P t=some z)
  (j:(∃k l,P.underlying t=some (.struct k)/\places P k=some l/\pl=(l[·]?))∨(∃m e n,P.underlying t=some (.array m e)/\bH P e=some n/\pl=λi=>some (i * n,n)))
  (A:(b.toList.mapM λ(i,x)=>(pl i).bind λ(o,n)=>(bO x).bind λF=>some (o,n,F))=some h) (G:pz env z h=some cs) :
  Yields P (execOp a.eval o) U M Fz w (.agg cs):=by
 obtain ⟨i,v,r,s,K⟩:=zc9 y;have f:=DN.qq (V.de (U:=U) (M:=M) (Fz:=Fz) (w:=w) v) K;obtain ⟨g,R,u⟩:=OE E pl b.toList h z cs v.cells A f G;refine Yields.same (v:=.agg g) ?_ (.agg g u.1 (λi d v L N=>(u.2 i d v L N).1));rcases j with ⟨k,l,p,O,rfl⟩ | ⟨m,e,n,p,Q,rfl⟩
 ·simp only[execOp,q,Instr.build,Sem.run_bind,h_ r s,Result.andThen_ok,qv p,Ls O]
  simp_all
 ·simp only[execOp,q,Instr.build,Sem.run_bind,h_ r s,Result.andThen_ok,qv p,NU Q]
  simp_all
theorem kZ(n:Nat)(z:List D):(si n z).length=n * z.length:=by simp[si]
theorem CA{z:List D}(b:z≠[]):∀(n i:Nat),i<n * z.length->(si n z)[i]? = z[i % z.length]?:=by
 intro n;have d:0<z.length:=List.length_pos_iff.2 b;induction n with
 |zero=>omega
 |succ n ih=>
  intro i f;have e:si (n+1) z=z++si n z:=by simp[si,List.replicate_succ]
  rw[e,yBm];split
  ·grind [Nat.mod_eq_of_lt]
  ·rename_i h;rw[ih (i-z.length) (by grind)];congr 1
   conv=>rhs;rw[show i=i-z.length+z.length from by omega]
   rw[Nat.add_mod_right]
theorem zT{z:List D}{v:Value}(b:DN U M Fz w z v.cells)(g:z≠[])(n m:Nat)(d:n<=m) :
  n * z.length<=((Array.range (m * v.cells.size)).map (v.cells[· % v.cells.size]!)).size /\
  ∀(i:Nat) x u,(si n z)[i]? = some x->((Array.range (m * v.cells.size)).map (v.cells[· % v.cells.size]!))[i]? = some u->V U M Fz w x u/\u.oneCell'=true:=by
 have k:0<z.length:=List.length_pos_iff.2 g;refine ⟨by simp[b.1];exact Sd _ d,λi x u e h=>?_⟩;have j:=(jy.1 e).1;rw[kZ] at j;rw[CA g n i j] at e;have l:i % z.length<v.cells.size:=by rw[b.1];grind
 have f:i<m * v.cells.size:=by grind
 refine b.2 (i % z.length) x u e ?_;rw[Array.getElem?_map,Array.getElem?_range,if_pos f] at h;simp only[Option.map_some,aw,b.1] at h
 simp_all
theorem V.UV{cs:List D}{arr:Array Value}{T:TypeId}{len aA cap:Nat}(i:len<=cap)(j:cap * aA<=arr.size)(o:len * aA<=cs.length)(hs:cs.length<=cap * aA) :
  V (U++[.cells cs]) (vY M U.length w.heap.size) Fz (w.alloc (.cells arr T)) (.sl U.length 0 len aA cs.length) (.slice (some ⟨w.heap.size,0,none⟩) len cap):=
 .sl _ _ _ (by simp) (.cells cs) (by simp) (by simp[Ob.sz]) (λ_=>.inr ⟨w.heap.size,0,arr,T,by simp[vY],rfl,rfl,⟨i,by omega⟩,.inl rfl,heap_alloc_new w _,by omega,by omega⟩)
theorem PF(q:∀c,Fz c->c<w.heap.size)(E:dk U M Fz w env a.tmps){o:Oper}{t e:TypeId}{len n:Nat}{b:Array (Nat×Operand)}{z:List D}{r:List (Nat×Nat×aP)}{cs:List D}
  (N:o.op=.buildSlice t len b) (O:P.underlying t=some (.slice e)) (Q:bH P e=some n) (R:Nu P e=some z) (f:¬(n=0∨z.length≠n∨len * n > 2 ^ 20))
  (S:(b.toList.mapM λ(i,x)=>(some (i * n,n)).bind λ(p:Nat×Nat)=>(bO x).bind λT=>some (p.1,p.2,T))=some r) (W:pz env (si len z) r=some cs) :
  ai P (execOp a.eval o) U M Fz w (.cells cs) (.sl U.length 0 len n cs.length):=by
 obtain ⟨i,v,X,Y,Z⟩:=zc9 R;have d:=DN.qq (V.de (U:=U) (M:=M) (Fz:=Fz) (w:=w) v) Z;simp only[not_or,HH,Nat.not_lt] at f;obtain ⟨ad,s,L⟩:=f;have g:z≠[]:=λh=>by simp_all
 have af:v.cells.size=n:=by rw[d.1,s]
 obtain ⟨ak,A⟩:=zT d g len len (cT _);have F:DN U M Fz w (si len z) ((Array.range (len * v.cells.size)).map (v.cells[· % v.cells.size]!)):=⟨by grind [kZ],A⟩;obtain ⟨arr,h1,m⟩:=OE E (λi=>some (i * n,n)) b.toList r (si len z) cs _ S F W;have j:cs.length=len * n:=by
  have:arr.size=len * n:=by
   have G:∀(l:List (Nat×Value))(x y:Array Value),Instr.fill (λi=>some (i * n,n)) x l=some y->y.size=x.size:=by
    intro l;induction l with
    |nil=>grind [Go.Instr.fill]
    |cons p l ih=>
     intro x y h;obtain ⟨i,u⟩:=p;simp only[Instr.fill] at h;split at h
     ·simp at h
     ·rename_i k;simp at k;rw[ih _ _ h,<-Array.foldl_toList];have:=Dd (i * n) u.cells.toList 0 x (by grind);simp only[Nat.add_zero] at this
      grind [iP]
   grind
  rw[<-m.1,this]
 obtain ⟨r1,r2⟩:=pf (P:=P) q (arr:=arr) (cs:=cs) e (by rw[m.1];omega) m.2;refine ⟨_,.slice (some ⟨w.heap.size,0,none⟩) len len,?_,r2,V.UV (cap:=len) (cT _) (by rw[m.1,j];omega) (by omega) (by omega)⟩;simp only[execOp,N,Instr.buildSlice,Sem.run_bind,qv O,Result.andThen_ok,NU Q];rw[if_neg (by omega)];by_cases h0:len * n=0
 ·have K:len=0:=by
   grind [Nat.mul_eq_zero]
  subst K;simp only[yBX] at h1 ⊢;simp only[if_true,Sem.run_bind,Sem.run_pure,Result.andThen_ok]
  grind [Array.toList_map,Go.Sem.run_bind,Go.Result.andThen_ok,Go.Sem.run_pure]
 ·rw[if_neg h0];simp only[Sem.run_bind,h_ X Y,Result.andThen_ok,Sem.run_pure]
  simp_all
theorem Tj(R:Rel U M Fz w)(E:dk U M Fz w env a.tmps){o:Oper}{t:TypeId}{x y:Operand}{S W:aP}{n b off sz:Nat}{cs q:List D}(ho:o.op=.store t x y)
  (hx:bO x=some S) (X:bO y=some W) (hn:bH P t=some n) (he:S.ev env=.ptr b off sz) (Y:nl U b sz=some cs) (r:(W.ev env).cells? = some q)
  (hc:q.length=n/\off+n<=sz):dj P (execOp a.eval o) U M Fz w (U.set b (.cells (put cs off q))) (.aT []):=by
 have Z:=mf E hx;rw[he] at Z;obtain ⟨c,F,G⟩:=Z.ya Y;obtain ⟨K,ad⟩:=KI Y;obtain ⟨e,T,z,hl,L⟩:=R.row F K;have g:=DN.qq (mf E X) r;obtain ⟨_,_,N,_⟩:=(mf E X).cells r;have O:off+q.length<=cs.length:=by omega
 have s:=uk P T c (a.eval y).cells.toList 0 off w e z N (by grind);have j:∀k T0 fr,Obj.cells e T (0,0)=.cells k T0 fr->∃l,Obj.cells (ie e off (a.eval y).cells.toList) T (0,0)=.cells l T0 fr/\l.size=k.size:=by grind [iP]
 have m:(if (a.eval y).cells.toList=[] then w else fT w c (.cells (ie e (off+0) (a.eval y).cells.toList) T (0,0)))=fT w c (.cells (ie e off (a.eval y).cells.toList) T (0,0)):=by
  split
  ·rename_i u;rw[u];have:ie e off []=e:=by grind [ie]
   rw[this];unfold fT;have af:=(KR.1 z).1;have:w.heap.setIfInBounds c (.cells e T (0,0))=w.heap:=by grind
   rw[this]
  ·rfl
 rw[m] at s;have hs:(Ob.cells cs).sz<=(Ob.cells (put cs off q)).sz:=by grind [Ob.sz,V_]
 have Q:=bQ.vD R F K z hs j;refine ⟨.skip,undef,_,M,?_,.inr ⟨rfl,rfl⟩,R.vD F K z hs j ?_,.aT #[] rfl (λi d v h=>by simp at h),Q,by simp⟩
 ·simp only[execOp,ho,Instr.storeAt,G,Instr.sureAddr,Sem.run_bind,Sem.run_pure,Result.andThen_ok,storeVar,NU hn]
  simp_all
 ·refine ⟨_,T,rfl,by grind [V_],λi d v A p=>?_⟩;rw[gW O] at A;rw[du (by grind)] at p;simp only[Array.length_toList,g.1] at p;split at A
  ·rename_i f;rw[if_pos f] at p;have:=g.2 _ _ _ A (by simpa using p);exact ⟨this.1.mono Q,this.2⟩
  ·rename_i f;rw[if_neg f] at p;have:=L _ _ _ A p;exact ⟨this.1.mono Q,this.2⟩
end
end Go.Abs
end
section
namespace Go.Abs
variable[Gl]
section
variable{P:Program}{U U':aq}{M M':Nat->Option Nat}{Fz:Nat->Prop}{w w':World}{env:List D}{a:Act}
theorem V.HE{b o sz off:Nat}{v:Value}(h:V U M Fz w (.ptr b o sz) v):∃i,v=.pointer (some i)/\V U M Fz w (.ptr b (o+off) sz) (.pointer (some (i.add off))):=by
 cases h with
 |ptr i s u j x=>
  refine ⟨i,rfl,.ptr _ s u j (λz=>?_)⟩
  grind [dP]
theorem VC.HE{cs:List C}{o off:Nat}{v:Value}(h:VC Fz w (.cA cs o) v):∃i,v=.pointer (some i)/\VC Fz w (.cA cs (o+off)) (.pointer (some (i.add off))):=by
 generalize j:C.cA cs o=x at h;cases h with
 |cA blk s c u z A=>simp only[C.cA.injEq] at j;obtain ⟨rfl,rfl⟩:=j;refine ⟨_,rfl,?_⟩;rw[dP,Nat.add_assoc];exact .cA blk s c u z A
 |_=>grind
theorem V.Ao{x:C}{v:Value}(h:V U M Fz w (.c x) v):VC Fz w x v:=by cases h with | c h=>exact h
theorem fld_ok(E:dk U M Fz w env a.tmps){o:Oper}{s:TypeId}{x:Operand}{m:aP}{f n:Nat}{p:Array Field}{g:Field}{d:D}(t:o.op=.fieldAddr s x f)
  (u:bO x=some m) (v:P.underlying s=some (.struct p)) (y:p[f]? = some g) (z:bH P g.type=some n) (A:n≠0)
  (h:(match m.ev env with
  |.ptr b o sz=>some (.ptr b (o+g.offset) sz,U,([]:List Nat))
  |.c (.cA q o)=>some (.c (.cA q (o+g.offset)),U,[])
  |_=>none)=some (d,U',[])):U'=U/\Yields P (execOp a.eval o) U M Fz w d:=by
 have j:=mf E u;have k:∀i,a.eval x=.pointer (some i)->(execOp a.eval o).run P w=.ok (.value (.pointer (some (i.add g.offset)))) w:=by
  intro i e;simp only[execOp,t,Instr.fieldAt,Sem.run_bind,qv v,Result.andThen_ok,y,e,Instr.sureAddr,Sem.run_pure,fieldPlace,NU z]
  simp_all
 split at h
 ·rename_i b F sz l;rw[l] at j;simp only[aw,ba] at h;obtain ⟨rfl,rfl,_⟩:=h;obtain ⟨i,e,r⟩:=j.HE (off:=g.offset)
  grind [Yields.same]
 ·rename_i q F l;rw[l] at j;simp only[aw,ba] at h;obtain ⟨rfl,rfl,_⟩:=h;obtain ⟨i,e,r⟩:=j.Ao.HE (off:=g.offset);exact ⟨rfl,Yields.same (k i e) (.c r)⟩
 simp_all
theorem BA{i:Int}{n k:Nat}(h:Af i n=some k):0<=i/\i<n/\i.toNat=k/\k<n:=by grind [Af]
theorem XY{i:Int}{n k:Nat}(h:Od i n=some k):0<=i/\i<=n/\i.toNat=k/\k<=n:=by grind [Od]
theorem V.oj{b off len aA sz:Nat}{v:Value}{cs:List D}(h:V U M Fz w (.sl b off len aA sz) v)(j:nl U b sz=some cs) :
  (v=.slice none 0 0/\len=0/\off=0/\sz=0/\cs=[])∨∃c o cap arr T,M b=some c/\v=.slice (some ⟨c,o,none⟩) len cap/\(len<=cap/\sz<=off+cap * aA)/\(o=off∨cap=0)/\w.heap[c]? = some (.cells arr T (0,0))/\o+cap * aA<=arr.size/\off+len * aA<=sz:=by
 obtain ⟨s,u⟩:=KI j;cases h with
 |sl O n cap x Q i z A=>
  rw[s] at i;simp only[aw] at i;subst i;rcases A u with ⟨R,W,X,Y,Z,e6⟩ | ⟨c,o,arr,T,E,ha,hn,F,G,K,i,L⟩
  ·simp_all
  ·exact .inr ⟨c,o,cap,arr,T,E,by simp_all,F,G,K,i,L⟩
theorem V.mkPtr{b c off sz:Nat}{cs:List D}(i:nl U b sz=some cs)(j:M b=some c):V U M Fz w (.ptr b off sz) (.pointer (some ⟨c,off,none⟩)):=by obtain ⟨o,s⟩:=KI i;exact .ptr _ _ o (by grind [Ob.sz]) (λ_=>⟨c,j,rfl⟩)
theorem idx_ok(E:dk U M Fz w env a.tmps){o:Oper}{t e:TypeId}{x i:Operand}{W X:aP}{n:Nat}{d:D}(ho:o.op=.indexAddr t x i)
  (hx:bO x=some W) (hi:bO i=some X) (hu:P.underlying t=some (.slice e)) (hn:bH P e=some n) (ak:n≠0)
  (h:(do
  let i <-sc (X.ev env)
  match W.ev env with
  |.sl b off len g sz => do
   let _ <-nl U b sz
   let k <-Af i len
   if g=n then some (.ptr b (off+k * n) sz,U,([]:List Nat)) else none
  |.c (.cU _ g) => do
   let k <-Af i g.length
   let e <-g[k]?
   if e.length=n then some (.c (.cA e 0),U,[]) else none
  |_=>none)=some (d,U',[])):U'=U/\Yields P (execOp a.eval o) U M Fz w d:=by
 have v:=mf E hx;have G:=mf E hi;simp only[Option.bind_eq_bind,cr] at h;obtain ⟨z,Y,h⟩:=h;obtain ⟨k0,K⟩:=iR G Y;have L:∀y len f,a.eval x=.slice (some y) len f->0<=z->z<len->(execOp a.eval o).run P w=.ok (.value (.pointer (some (y.add (z.toNat * n))))) w:=by intro y len f N A F;simp only[execOp,ho,Instr.indexAt,Sem.run_bind,K,asIntOf,Sem.run_pure,Result.andThen_ok,qv hu,N];rw[if_pos ⟨A,F⟩];simp only[Sem.run_bind,NU hn,Result.andThen_ok,Sem.run_pure]
 split at h
 ·rename_i b off len g sz O;rw[O] at v;simp only[cr] at h;obtain ⟨cs,hr,k,hk,h⟩:=h;split at h
  ·rename_i Q;simp only[aw,ba] at h;obtain ⟨rfl,rfl,_⟩:=h;obtain ⟨A,F,Z,h4⟩:=BA hk;rcases v.oj hr with ⟨_,e2,_⟩ | ⟨c,o',f,av,T,hM,l,hl,af,hh,m,R⟩
   ·omega
   grind [Yields.same,dP,V.mkPtr]
  simp_all
 ·rename_i nn g O;rw[O] at v;simp only[cr] at h;obtain ⟨k,hk,p,q,h⟩:=h;split at h
  ·rename_i Q;simp only[aw,ba] at h;obtain ⟨rfl,rfl,_⟩:=h;obtain ⟨A,F,Z,h4⟩:=BA hk;have r:=v.Ao;generalize l:a.eval x=va at r;cases r with
   |cU aA y f ax Y c R m hc S=>
    have s:aA=n:=by grind
    subst s;have u:0<p.length:=by omega
    obtain ⟨blk,o0,rfl,hF,_,_⟩:=hc k 0 p p[0] q (dB u);refine ⟨rfl,Yields.same (L _ _ _ l A F) ?_⟩;rw[dP,Z];refine .c ?_;have:=VC.cA (Fz:=Fz) (w:=w) (cs:=p) (off:=0) blk (o0+k * aA) (c k) hF (λj d hj=>?_) (λj d hj=>S k j p d q hj)
    ·omega
    grind
  simp_all
 simp_all
theorem IU(A:Gl.ok Fz w)(E:dk U M Fz w env a.tmps){o:Oper}{t e:TypeId}{x i:Operand}{L N:aP}{n len:Nat}{d:D}(Q:o.op=.indexAddr t x i)
  (R:bO x=some L) (S:bO i=some N) (F:P.underlying t=some (.array len e)) (T:bH P e=some n)
  (h:(do
  let i <-sc (N.ev env)
  let k <-Af i len
  match L.ev env with
  |.ptr b off sz=>some (.ptr b (off+k * n) sz,U,([]:List Nat))
  |.c (.cA cs off)=>some (.c (.cA cs (off+k * n)),U,[])
  |.c (.Rb g) => match Gl.Zs g with
   |[]=>none
   |v::p=>some (.c (.cA ((v::p).map .lit) (k * n)),U,[])
  |_=>none)=some (d,U',[])):U'=U/\Yields P (execOp a.eval o) U M Fz w d:=by
 have l:=mf E R;have G:=mf E S;simp only[Option.bind_eq_bind,cr] at h;obtain ⟨z,W,k,hk,h⟩:=h;obtain ⟨k0,K⟩:=iR G W;obtain ⟨X,Y,Z,h4⟩:=BA hk;have q:∀m,a.eval x=.pointer (some m)->(execOp a.eval o).run P w=.ok (.value (.pointer (some (m.add (k * n))))) w:=by intro m f;simp only[execOp,Q,Instr.indexAt,Sem.run_bind,K,asIntOf,Sem.run_pure,Result.andThen_ok,qv F,f,Instr.sureAddr];rw[if_pos ⟨X,Y⟩];simp only[Sem.run_bind,NU T,Result.andThen_ok,Sem.run_pure,Z]
 split at h
 ·rename_i b off sz r;rw[r] at l;simp only[aw,ba] at h;obtain ⟨rfl,rfl,_⟩:=h;obtain ⟨m,f,O⟩:=l.HE (off:=k * n)
  grind [Yields.same]
 ·rename_i cs off r;rw[r] at l;simp only[aw,ba] at h;obtain ⟨rfl,rfl,_⟩:=h;obtain ⟨m,f,O⟩:=l.Ao.HE (off:=k * n);exact ⟨rfl,Yields.same (q m f) (.c O)⟩
 ·rename_i g r;rw[r] at l;split at h
  ·simp at h
  ·rename_i v p hg;simp only[aw,ba] at h;obtain ⟨rfl,rfl,_⟩:=h;have f:a.eval x=.pointer (some ⟨g,0,none⟩):=by
    generalize a.eval x=y at l;cases l with
    |c l=>cases l;rfl
   have ht:∀(j:Nat) u,(v::p)[j]? = some u->Fz g/\w.cell? ⟨g,j,none⟩=some u/\u.oneCell'=true:=λj u s=>Gl.ZD g j u A (by simp_all);refine ⟨rfl,Yields.same (q _ f) (.c ?_)⟩;have:=VC.cA (Fz:=Fz) (w:=w) (cs:=(v::p).map .lit) (off:=k * n) g 0 (λj=>((v::p)[j]?).getD default) (ht 0 v rfl).1 (λj d s=>?_) (λj d s=>?_)
   ·have e:(⟨g,0,none⟩:Addr).add (k * n)=⟨g,k * n,none⟩:=by
     simp only[Addr.add,N_]
     simp_all
    simp_all
   ·grind
   ·rw[jX,cu] at s;obtain ⟨u,F,rfl⟩:=s;simp only[F,Option.getD_some];exact .lit u
 simp_all
theorem eI(E:dk U M Fz w env a.tmps){x:Operand}{f:aP}{n k:Nat}(g:bO x=some f)(h:((sc (f.ev env)).bind λi=>Od i n)=some k)(b:Nat)(q:n<=b)(d:BoundsCode) :
  (Instr.sliceBound (a.eval x) b d).run P w=.ok k w/\k<=n:=by
 simp only[cr] at h;obtain ⟨i,j,l⟩:=h;obtain ⟨r,e⟩:=iR (mf E g) j;obtain ⟨m,s,o,p⟩:=XY l;refine ⟨?_,p⟩;simp only[Instr.sliceBound,Sem.run_bind,e,asIntOf,Sem.run_pure,Result.andThen_ok];rw[if_pos ⟨m,by omega⟩,o];rfl
theorem gm(E:dk U M Fz w env a.tmps){lo g:Option Operand}{i e:Option aP}{len j cap l h:Nat}(b:Ek lo=some i)(d:Ek g=some e)(r:j<=cap)(s:e=none->len<=j)
  (o:m_ env len j e=some h) (n:m_ env 0 h i=some l) :
  (Instr.sliceBounds true len cap (lo.map a.eval) (g.map a.eval) none).run P w=.ok (l,h,cap) w/\h<=j/\l<=h:=by
 have p:h<=j/\(match g.map a.eval,(none:Option Value) with
  |some v,some _=>Instr.sliceBound v cap .slice3B
  |some v,none=>Instr.sliceBound v cap (if true then .sliceAcap else .sliceAlen)
  |none,none=>pure len
  |none,some _=>stuck "Slice: max without high" : Sem Nat).run P w=.ok h w:=by
  cases g with
  |none=>
   simp only[Ek,aw] at d;subst d;simp only[m_,aw] at o
   simp_all
  |some x=>
   simp only[Ek,cu] at d;obtain ⟨t,f,rfl⟩:=d;simp only[m_] at o;obtain ⟨u,y⟩:=eI (P:=P) (w:=w) E f o cap r .sliceAcap
   simp_all
 have q:l<=h/\(match lo.map a.eval with
  |some v=>Instr.sliceBound v h (if (none:Option Value).isSome then .slice3C else .sliceB)
  |none=>pure 0:Sem Nat).run P w=.ok l w:=by
  cases lo with
  |none=>
   simp only[Ek,aw] at b;subst b;simp only[m_,aw] at n;subst n
   simp_all
  |some x=>
   simp only[Ek,cu] at b;obtain ⟨t,f,rfl⟩:=b;simp only[m_] at n;obtain ⟨u,y⟩:=eI (P:=P) (w:=w) E f n h (cT _) .sliceB
   simp_all
 refine ⟨?_,p.1,q.1⟩;have k:=p.2;have m:=q.2;clear p q;cases g <;> cases lo <;> simp only[Option.map_some,Option.map_none,Sem.run_pure,Result.ok.injEq,Qa] at k m <;>
  simp only[Instr.sliceBounds,Option.map_some,Option.map_none,Sem.run_bind,Sem.run_pure,Result.andThen_ok,k,m]
theorem slc_ok(E:dk U M Fz w env a.tmps){o:Oper}{t e:TypeId}{x:Operand}{lo W:Option Operand}{ox:aP}{r k:Option aP}{n:Nat}{d:D}
  (ho:o.op=.slice t x lo W none) (hx:bO x=some ox) (u:Ek lo=some r) (v:Ek W=some k) (hu:P.underlying t=some (.slice e)) (hn:bH P e=some n)
  (h:(match ox.ev env with
  |.c (.lit (.slice none 0 0)) => do
   let h <-m_ env 0 0 k
   let _ <-m_ env 0 h r
   some (.c (.lit (.slice none 0 0)),U,([]:List Nat))
  |.c (.cU nn g) => do
   let h <-m_ env g.length g.length k
   let l <-m_ env 0 h r
   if g.all (λe=>e.length=n) then some (.c (.cU nn ((g.take h).drop l)),U,[]) else none
  |.sl b off len g sz => do
   let _ <-nl U b sz
   let h <-(m_ env len len k).orElse λ_=>m_ env len ((sz-off) / g) k
   let l <-m_ env 0 h r
   if g=n then some (.sl b (off+l * n) (h-l) n sz,U,[]) else none
  |_=>none)=some (d,U',[])):U'=U/\Yields P (execOp a.eval o) U M Fz w d:=by
 have N:=mf E hx;have G:∀X len f l h,a.eval x=.slice X len f->(Instr.sliceBounds true len f (lo.map a.eval) (W.map a.eval) none).run P w=.ok (l,h,f) w ->
   (execOp a.eval o).run P w=.ok (.value (.slice (if f=l then X else X.map (·.add (l * n))) (h-l) (f-l))) w:=by
  intro X len f l h m A;have Y:∀(s:Sem Value),(match TypeDesc.slice e with | .array _ _=>s | _=>Instr.slice t (a.eval x) (lo.map a.eval) (W.map a.eval) none)=Instr.slice t (a.eval x) (lo.map a.eval) (W.map a.eval) none:=λ_=>rfl;simp only[execOp,ho,Instr.sliceAt,Sem.run_bind,qv hu,Result.andThen_ok,Option.map_none];simp only[Instr.slice,Sem.run_bind,qv hu,Result.andThen_ok,m,A,NU hn,Sem.run_pure]
 split at h
 ·rename_i O;rw[O] at N;simp only[Option.bind_eq_bind,cr,aw,ba] at h;obtain ⟨p,y,l,Q,rfl,rfl,_⟩:=h;obtain ⟨A,h3,h4⟩:=gm (P:=P) (w:=w) E u v (cT 0) (λ_=>cT _) y Q;refine ⟨rfl,Yields.same (G _ _ _ _ _ N.cC A) ?_⟩;obtain rfl:p=0:=by omega
  obtain rfl:l=0:=by omega
  exact .c (.lit _)
 ·rename_i nn g O;rw[O] at N;simp only[Option.bind_eq_bind,cr] at h;obtain ⟨p,y,l,Q,h⟩:=h;split at h
  ·rename_i a8;simp only[aw,ba] at h;obtain ⟨rfl,rfl,_⟩:=h;have Z:=N.Ao;generalize m:a.eval x=va at Z;cases Z with
   |cU aA X f bc hz c ax F hc bd=>
    obtain ⟨A,h3,h4⟩:=gm (P:=P) (w:=w) E u v F (λ_=>cT _) y Q;refine ⟨rfl,Yields.same (G _ _ _ _ _ m A) (.c ?_)⟩;have af:((g.take p).drop l).length=p-l:=by simp_all
    rw[<-af];refine .cU n _ _ (λhn=>by grind) (λhn=>by
     by_cases z:f=l
     ·omega
     simp_all) (λi j=>c (l+i) j) (λe O=>?_) (by omega) (λi j e d K h6=>?_) (λi j e d K h6=>?_)
    ·grind
    ·rw[xAi] at K;have a0:=(jy.1 K).1;simp at a0;rw[yBq (by omega)] at K;obtain ⟨blk,o0,rfl,hF,a1,a2⟩:=hc (l+i) j e d K h6;have ak:aA=n:=by
      grind
     subst ak;refine ⟨blk,o0+l * aA,by rw[if_neg (by omega)];simp[dP],hF,?_,a2⟩
     grind
    grind
  simp_all
 ·rename_i b off len g sz O;rw[O] at N;simp only[Option.bind_eq_bind,cr] at h;obtain ⟨cs,hr,p,y,l,Q,h⟩:=h;split at h
  ·rename_i a3;subst a3;simp only[aw,ba] at h;obtain ⟨rfl,rfl,_⟩:=h;obtain ⟨K,h6⟩:=KI hr;rcases N.oj hr with ⟨m,e2,e3,e4,e6⟩ | ⟨c,R,f,av,T,hM,m,hl,a9,hh,F,ax⟩
   ·subst e2;have a4:m_ env 0 0 k=some p:=by
     simp_all
    obtain ⟨A,h3,h4⟩:=gm (P:=P) (w:=w) E u v (cT 0) (λ_=>cT _) a4 Q
    grind [Yields.same]
   obtain ⟨S,a5,a6,be,y⟩:∃S,S<=f/\(k=none->len<=S)/\off+S * g<=sz/\m_ env len S k=some p:=by
    cases a7:m_ env len len k with
    |some q=>grind
    |none=>
     rw[a7] at y;have y:m_ env len ((sz-off) / g) k=some p:=by simp_all
     have hd:(sz-off) / g * g<=sz-off:=Nat.div_mul_le_self _ _;refine ⟨_,?_,λe=>by grind [m_],by omega,y⟩;rcases Nat.eq_zero_or_pos g with h0 | h0
     ·simp_all
     ·exact Nat.div_le_of_le_mul (by grind)
   obtain ⟨A,h3,h4⟩:=gm (P:=P) (w:=w) E u v a5 a6 y Q;refine ⟨rfl,Yields.same (G _ _ _ _ _ m A) ?_⟩;have L:(if f=l then some (Addr.mk c R none) else (some (Addr.mk c R none)).map (·.add (l * g)))=some (if f=l then Addr.mk c R none else (Addr.mk c R none).add (l * g)):=by grind
   rw[L];refine .sl _ _ _ (by simp) _ K (by grind [Ob.sz]) (λ_=>?_);have bh:l * g+(p-l) * g=p * g:=by rw[<-TD];simp_all
   have bi:p * g<=S * g:=Sd _ h3;by_cases z:f=l
   ·rw[if_pos z];have h0:f-l=0:=by omega
    subst z;refine .inr ⟨c,R,av,T,hM,rfl,rfl,⟨by omega,by omega⟩,.inr (by omega),hh,?_,?_⟩
    ·grind
    ·omega
   ·rw[if_neg z];have bt:l * g+(f-l) * g=f * g:=by rw[<-TD];grind
    refine .inr ⟨c,R+l * g,av,T,hM,by rw[dP],rfl,⟨by omega,by omega⟩,?_,hh,by omega,by omega⟩;omega
  simp_all
 simp_all
theorem XU(E:dk U M Fz w env a.tmps){o:Oper}{t e:TypeId}{x lo p q:Operand}{y g j k:aP}{n b off len es sz h l:Nat}{cs:List D}
  (F:o.op=.slice t x (some lo) (some p) (some q)) (G:bO x=some y) (r:bO lo=some g) (s:bO p=some j) (u:bO q=some k) (z:P.underlying t=some (.slice e)) (K:bH P e=some n)
  (L:y.ev env=.sl b off len es sz) (N:nl U b sz=some cs) (O:((sc (k.ev env)).bind λi=>Od i len)=some len) (Q:((sc (j.ev env)).bind λi=>Od i len)=some h) (R:((sc (g.ev env)).bind λi=>Od i h)=some l) :
  Yields P (execOp a.eval o) U M Fz w .any:=by
 have A:=mf E G;rw[L] at A;have go:∀m d,len<=d->a.eval x=.slice m len d->Yields P (execOp a.eval o) U M Fz w .any:=by
  intro m d S f;have W:=(eI (P:=P) (w:=w) E u O d S .slice3Acap).1;have X:=(eI (P:=P) (w:=w) E s Q len (cT _) .slice3B).1;have Y:=(eI (P:=P) (w:=w) E r R h (cT _) .slice3C).1;have Z:(Instr.sliceBounds true len d (some (a.eval lo)) (some (a.eval p)) (some (a.eval q))).run P w=.ok (l,h,len) w:=by simp only[Instr.sliceBounds,Sem.run_bind,if_true,W,Result.andThen_ok,X,Option.isSome,Y,Sem.run_pure]
  refine Yields.same (v:=.slice (if len=l then m else m.map (·.add (l * n))) (h-l) (len-l)) ?_ (.any _);simp only[execOp,F,Instr.sliceAt,Sem.run_bind,qv z,Result.andThen_ok,Option.map_some];simp only[Instr.slice,Sem.run_bind,qv z,Result.andThen_ok,f,Z,NU K,Sem.run_pure]
 rcases A.oj N with ⟨f,e2,_,_,_⟩ | ⟨c,o',d,af,T,hM,f,hl,_,_,_,_⟩
 ·simp_all
 grind
theorem Lk(E:dk U M Fz w env a.tmps){o:Oper}{x:Operand}{i:Nat}{h:aP}{ds:List D}{d:D}(k:o.op=.extract x i)(l:bO x=some h)
  (m:h.ev env=.aT ds) (hd:ds[i]? = some d):Yields P (execOp a.eval o) U M Fz w d:=by
 have b:=mf E l;rw[m] at b;generalize f:a.eval x=n at b;cases b with
 |aT j p g=>have q:=(jy.1 hd).1;have e:j[i]? = some (j[i]'(by omega)):=tc _;refine Yields.same ?_ (g i _ _ hd e);simp[execOp,k,Instr.extract,f,e]
theorem VZ(E:dk U M Fz w env a.tmps):∀(b:List Operand)(e:List aP),b.mapM bO=some e ->
  (b.map a.eval).length=(e.map (aP.ev env)).length/\∀(i:Nat) d v,(e.map (aP.ev env))[i]? = some d->(b.map a.eval)[i]? = some v->V U M Fz w d v:=by
 intro b;induction b with
 |nil=>simp_all
 |cons x b ih=>grind [Option.bind_eq_some_iff,mf]
theorem Hg(E:dk U M Fz w env a.tmps){b:Array Operand}{e:List aP}(h:Hc b=some e) :
  (b.map a.eval).size=(e.map (aP.ev env)).length/\∀(i:Nat) d v,(e.map (aP.ev env))[i]? = some d->(b.map a.eval)[i]? = some v->V U M Fz w d v:=by
 obtain ⟨f,g⟩:=VZ E b.toList e h
 grind
theorem VJ(E:dk U M Fz w env a.tmps){o:Oper}{f:Fn}{first cap:Array Operand}{b d:List aP}(e:o.op=.makeFunc f first cap)(g:Hc first=some b)(h:Hc cap=some d) :
  Yields P (execOp a.eval o) U M Fz w (.fn f (b.map (aP.ev env)) (d.map (aP.ev env))):=by
 obtain ⟨i,j⟩:=Hg E g;obtain ⟨k,l⟩:=Hg E h;refine Yields.same (v:=.func f (first.map a.eval) (cap.map a.eval)) ?_ (.fn _ _ i k j l);simp[execOp,e,Instr.makeFunc]
theorem Kb{t:TypeId}{n:Option Nat}{cs:List D}{vs:Array Value}{off:Nat}{d:D}(g:Dk P t=some n)(f:xI n cs off=some d)(q:vs.size=cs.length)
  (o:∀(i:Nat) d v,cs[i]? = some d->vs[i]? = some v->V U M Fz w d v):∃v,(part t vs off).run P w=.ok v w/\V U M Fz w d v:=by
 unfold Dk at g;have agg:∀(i:TypeInfo),P.info? t=some i->n=some i.size->(isAgg t).run P w=.ok true w->∃v,(part t vs off).run P w=.ok v w/\V U M Fz w d v:=by
  intro i k g b;subst g;simp only[xI] at f;split at f
  ·rename_i p;simp only[aw] at f;subst f;refine ⟨.agg (vs.extract off (off+i.size)),by simp only[part,Sem.run_bind,b,Result.andThen_ok,if_true,sizeOf,Zu k,Sem.run_pure],?_⟩;refine .agg _ (by grind) (λj x v r s=>?_)
   grind
  simp_all
 have one:n=none->(isAgg t).run P w=.ok false w->∃v,(part t vs off).run P w=.ok v w/\V U M Fz w d v:=by intro g b;subst g;simp only[xI] at f;have k:=(jy.1 f).1;have e:vs[off]? = some (vs[off]'(by omega)):=tc _;exact ⟨_,by simp only[part,Sem.run_bind,b,Result.andThen_ok,a_,bn,e,Sem.run_pure],o _ _ _ f e⟩
 cases k:P.info? t with
 |none=>simp_all
 |some i=>
  cases m:P.underlying t with
  |none=>simp_all
  |some h=>
   rw[k,m] at g;have l:(isAgg t).run P w=.ok (h matches .struct _ | .array _ _) w:=by simp only[isAgg,Sem.run_bind,qv m,Result.andThen_ok];cases h <;> rfl
   grind
theorem VP(E:dk U M Fz w env a.tmps){o:Oper}{t:TypeId}{x:Operand}{i:aP}{f:Nat}{j:Array Field}{b:Field}{n:Option Nat}{cs:List D}{d:D}(k:o.op=.field t x f)
  (l:bO x=some i) (m:P.underlying t=some (.struct j)) (p:j[f]? = some b) (q:Dk P b.type=some n) (r:i.ev env=.agg cs) (s:xI n cs b.offset=some d) :
  Yields P (execOp a.eval o) U M Fz w d:=by
 have e:=mf E l;rw[r] at e;generalize g:a.eval x=A at e;cases e with
 |agg F u h=>obtain ⟨v,y,z⟩:=Kb (P:=P) q s u h;refine Yields.same (v:=v) ?_ z;simp only[execOp,k,Instr.field,Sem.run_bind,qv m,Result.andThen_ok,p,g,asAgg,Sem.run_pure,y]
theorem Yc(E:dk U M Fz w env a.tmps){o:Oper}{t e:TypeId}{x i:Operand}{j l:aP}{len sz k:Nat}{n:Option Nat}{cs:List D}{d:D}{z:Int}(m:o.op=.index t x i)
  (p:bO x=some j) (q:bO i=some l) (r:P.underlying t=some (.array len e)) (hs:bH P e=some sz) (s:Dk P e=some n) (u:j.ev env=.agg cs) (y:sc (l.ev env)=some z) (hk:Af z len=some k)
  (A:xI n cs (k * sz)=some d):Yields P (execOp a.eval o) U M Fz w d:=by
 have b:=mf E p;rw[u] at b;obtain ⟨Q,f⟩:=iR (mf E q) y;obtain ⟨F,G,K,R⟩:=BA hk;generalize g:a.eval x=S at b;cases b with
 |agg T L h=>obtain ⟨v,N,O⟩:=Kb (P:=P) s A L h;refine Yields.same (v:=v) ?_ O;simp only[execOp,m,Instr.index,Sem.run_bind,f,asIntOf,Sem.run_pure,Result.andThen_ok,qv r,g];rw[if_pos ⟨F,G⟩];simp only[Sem.run_bind,NU hs,Result.andThen_ok,K,N]
end
end Go.Abs
end
section
namespace Go.Abs
variable[Gl]
section
variable{P:Program}{U U':aq}{M M':Nat->Option Nat}{Fz:Nat->Prop}{w w':World}{env:List D}{a:Act}
theorem UB(E:dk U M Fz w env a.tmps){o:Oper}{x:Operand}{l:aP}{d:D}(j:o.op=.nilCheck x)(m:bO x=some l)
  (h:(match l.ev env with
  |.ptr b off sz=>some (.ptr b off sz,U,([]:List Nat))
  |.c (.cA n off)=>some (.c (.cA n off),U,[])
  |.c (.fn (.func f) first cap)=>some (.c (.fn (.func f) first cap),U,[])
  |.fn (.func f) first cap=>some (.fn (.func f) first cap,U,[])
  |_=>none)=some (d,U',[])):U'=U/\Yields P (execOp a.eval o) U M Fz w d:=by
 have e:=mf E m;split at h
 ·rename_i i;rw[i] at e;simp only[aw,ba] at h;obtain ⟨rfl,rfl,_⟩:=h;refine ⟨rfl,Yields.same (v:=a.eval x) ?_ e⟩;generalize g:a.eval x=k at e;cases e with
  |ptr=>simp[execOp,j,g]
 ·rename_i i;rw[i] at e;simp only[aw,ba] at h;obtain ⟨rfl,rfl,_⟩:=h;refine ⟨rfl,Yields.same (v:=a.eval x) ?_ e⟩;generalize g:a.eval x=k at e;cases e with
  |c e => cases e with
   |cA=>simp[execOp,j,g]
 ·rename_i i;rw[i] at e;simp only[aw,ba] at h;obtain ⟨rfl,rfl,_⟩:=h;refine ⟨rfl,Yields.same (v:=a.eval x) ?_ e⟩;generalize g:a.eval x=k at e;cases e with
  |c e => cases e with
   |fn=>simp[execOp,j,g]
 ·rename_i i;rw[i] at e;simp only[aw,ba] at h;obtain ⟨rfl,rfl,_⟩:=h;refine ⟨rfl,Yields.same (v:=a.eval x) ?_ e⟩;generalize g:a.eval x=k at e;cases e with
  |fn=>simp[execOp,j,g]
 simp_all
inductive gQ:TypeDesc->Value->Value->Bool->Prop where
 |p0 (e:TypeId):gQ (.pointer e) (.pointer none) (.pointer none) true
 |p1 (e:TypeId) (ad:Addr):gQ (.pointer e) (.pointer (some ad)) (.pointer none) false
 |m0 (k e:TypeId):gQ (.map k e) (.map none) (.map none) true
 |m1 (k e:TypeId) (r:Nat):gQ (.map k e) (.map (some r)) (.map none) false
 |f0 (p r:Array TypeId) (v:Bool):gQ (.func p r v) .nilFunc .nilFunc true
 |f1 (p r:Array TypeId) (v:Bool) (f:Fn) (x y:Array Value):gQ (.func p r v) (.func f x y) .nilFunc false
 |s0 (e:TypeId):gQ (.slice e) (.slice none 0 0) (.slice none 0 0) true
 |s1 (e:TypeId) (ad:Addr) (n c:Nat):gQ (.slice e) (.slice (some ad) n c) (.slice none 0 0) false
theorem Pm{t:TypeId}{d:TypeDesc}{x y:Value}{b:Bool}(e:P.underlying t=some d)(h:gQ d x y b)(w:World) :
  (Op.equal t x y).run P w=.ok b w/\(Op.equal t y x).run P w=.ok b w:=by
 constructor
 ·show (Op.equalIn (9999+1) t x y).run P w=_;generalize 9999=n;cases h <;> (unfold Op.equalIn;simp[qv e])
 ·show (Op.equalIn (9999+1) t y x).run P w=_;generalize 9999=n;cases h <;> (unfold Op.equalIn;simp[qv e])
theorem z_{t:TypeId}{d:TypeDesc}{x y:Value}{b:Bool}(e:P.underlying t=some d)(h:gQ d x y b)(neg:Bool)(X Y:Operand)(w:World) :
  ((do eqGuard (if neg then .neq else .eql) t X Y x y;binOp (if neg then .neq else .eql) t x y:Sem Value).run P w=.ok (.bool (if neg then !b else b)) w) /\
  ((do eqGuard (if neg then .neq else .eql) t Y X y x;binOp (if neg then .neq else .eql) t y x:Sem Value).run P w=.ok (.bool (if neg then !b else b)) w):=by
 obtain ⟨f,g⟩:=Pm e h w;have i:∀op,(eqGuard op t X Y x y).run P w=.ok () w:=by intro op;cases h <;> cases op <;> rfl
 have j:∀op,(eqGuard op t Y X y x).run P w=.ok () w:=by intro op;cases h <;> cases op <;> rfl
 have k:(binOp (if neg then .neq else .eql) t x y).run P w=.ok (.bool (if neg then !b else b)) w:=by
  cases neg
  ·have:binOp .eql t x y=(do pure (.bool (<-Op.equal t x y)):Sem Value):=by cases h <;> rfl
   simp_all
  ·have:binOp .neq t x y=(do pure (.bool (!(<-Op.equal t x y))):Sem Value):=by cases h <;> rfl
   simp_all
 have l:(binOp (if neg then .neq else .eql) t y x).run P w=.ok (.bool (if neg then !b else b)) w:=by
  cases neg
  ·have:binOp .eql t y x=(do pure (.bool (<-Op.equal t y x)):Sem Value):=by cases h <;> rfl
   simp_all
  ·have:binOp .neq t y x=(do pure (.bool (!(<-Op.equal t y x))):Sem Value):=by cases h <;> rfl
   simp_all
 simp_all
theorem Fk{l:TypeDesc}{k:Nat}{d:D}{v:Value}{b:Bool}(hk:yr l=some k)(e:V U M Fz w d v)(h:isNil k d=some b) :
  ∃f,gQ l v f b/\((k=0/\f=.pointer none)∨(k=1/\f=.map none)∨(k=2/\f=.nilFunc)∨(k=3/\f=.slice none 0 0)):=by
 cases l <;> simp only[yr,aw,reduceCtorEq] at hk <;> subst hk
 ·cases d with
  |ptr=>
   simp only[isNil,aw] at h;subst h;cases e with
   |ptr g=>exact ⟨_,.p1 _ g,.inl ⟨rfl,rfl⟩⟩
  |c x=>
   cases x with
   |cA=>
    simp only[isNil,aw] at h;subst h;cases e with
    |c e => cases e with
     |cA=>exact ⟨_,.p1 _ _,.inl ⟨rfl,rfl⟩⟩
   |lit u=>
    cases u <;> simp[isNil] at h
    rename_i p;cases p <;> simp at h
    subst h;rw[e.cC];exact ⟨_,.p0 _,.inl ⟨rfl,rfl⟩⟩
   |_=>grind [isNil]
  |_=>grind [isNil]
 ·cases d with
  |sl b off len aA sz=>
   cases len with
   |zero=>simp[isNil] at h
   |succ len=>
    simp only[isNil,aw] at h;subst h;cases e with
    |sl g n m i=>
     cases g with
     |none=>simp_all
     |some g=>exact ⟨_,.s1 _ _ _ _,.inr (.inr (.inr ⟨rfl,rfl⟩))⟩
  |c x=>
   cases x with
   |cU nn q=>
    cases nn <;> simp only[isNil,aw,reduceCtorEq] at h
    subst h;have j:=e.Ao;generalize o:C.cU true q=x at j;cases j with
    |cU aA g m i=>simp only[C.cU.injEq] at o;obtain ⟨rfl,rfl⟩:=o;obtain ⟨r,rfl⟩:=ZV.1 (i rfl);exact ⟨_,.s1 _ _ _ _,.inr (.inr (.inr ⟨rfl,rfl⟩))⟩
    |_=>grind
   |lit u=>
    cases u <;> try grind [isNil]
    rename_i p n c;cases p <;> cases n <;> cases c <;> simp[isNil] at h
    subst h;rw[e.cC];exact ⟨_,.s0 _,.inr (.inr (.inr ⟨rfl,rfl⟩))⟩
   |_=>grind [isNil]
  |_=>grind [isNil]
 ·cases d with
  |mp=>
   simp only[isNil,aw] at h;subst h;cases e with
   |mp=>exact ⟨_,.m1 _ _ _,.inr (.inl ⟨rfl,rfl⟩)⟩
  |c x=>
   cases x with
   |Kl=>
    simp only[isNil,aw] at h;subst h;cases e with
    |c e => cases e with
     |Kl=>exact ⟨_,.m1 _ _ _,.inr (.inl ⟨rfl,rfl⟩)⟩
   |lit u=>
    cases u <;> simp[isNil] at h
    rename_i p;cases p <;> simp at h
    subst h;rw[e.cC];exact ⟨_,.m0 _ _,.inr (.inl ⟨rfl,rfl⟩)⟩
   |_=>grind [isNil]
  |_=>grind [isNil]
 ·cases d with
  |fn=>
   simp only[isNil,aw] at h;subst h;cases e with
   |fn=>exact ⟨_,.f1 _ _ _ _ _ _,.inr (.inr (.inl ⟨rfl,rfl⟩))⟩
  |c x=>
   cases x with
   |fn=>
    simp only[isNil,aw] at h;subst h;cases e with
    |c e => cases e with
     |fn=>exact ⟨_,.f1 _ _ _ _ _ _,.inr (.inr (.inl ⟨rfl,rfl⟩))⟩
   |lit u=>
    cases u <;> simp[isNil] at h
    subst h;rw[e.cC];exact ⟨_,.f0 _ _ _,.inr (.inr (.inl ⟨rfl,rfl⟩))⟩
   |_=>grind [isNil]
  |_=>grind [isNil]
theorem ul{k:Nat}{x:Operand}{b:Value}(h:pJ k x=true)(d:(k=0/\b=.pointer none)∨(k=1/\b=.map none)∨(k=2/\b=.nilFunc)∨(k=3/\b=.slice none 0 0)):x=.const b:=by
 unfold pJ at h
 grind
theorem Ih(E:dk U M Fz w env a.tmps){o:Oper}{t u:TypeId}{m:TypeDesc}{x y:Operand}{neg:Bool}{k n:Nat}{d:Bool}{p:aP}{b:Bool}
  (q:o.op=.binOp (if neg then .neq else .eql) t x y u) (r:P.underlying t=some m) (hk:yr m=some k) (f:uH k neg x y=some (.iy n d p)) (s:isNil n (p.ev env)=some b) :
  Yields P (execOp a.eval o) U M Fz w (.c (.lit (.bool (if d then !b else b)))):=by
 unfold uH at f;split at f
 ·rename_i z;simp only[cu,lg.iy.injEq] at f;obtain ⟨j,g,rfl,rfl,rfl⟩:=f;obtain ⟨h,l,i⟩:=Fk hk (mf E g) s;obtain rfl:=ul z i;refine Yields.same (v:=.bool (if neg then !b else b)) ?_ (.c (.lit _));have:=(z_ r l neg x (.const h) w).1;simp only[execOp,q,Sem.run_bind];simp only[Sem.run_bind] at this;have e:a.eval (.const h)=h:=rfl
  simp_all
 ·split at f
  ·rename_i A;simp only[cu,lg.iy.injEq] at f;obtain ⟨j,g,rfl,rfl,rfl⟩:=f;obtain ⟨h,l,i⟩:=Fk hk (mf E g) s;obtain rfl:=ul A i;refine Yields.same (v:=.bool (if neg then !b else b)) ?_ (.c (.lit _));have:=(z_ r l neg y (.const h) w).2;simp only[execOp,q,Sem.run_bind];simp only[Sem.run_bind] at this;have e:a.eval (.const h)=h:=rfl
   simp_all
  simp_all
theorem pV{d:D}{v:Value}{n:Nat}(b:V U M Fz w d v)(h:Fc U d=some n):∃g cap,v=.slice g n cap:=by
 unfold Fc at h;split at h
 ·grind [V.cC]
 ·simp only[aw] at h;subst h;cases b with
  |c b => cases b with
   |cU=>simp_all
 ·split at h
  ·rename_i e;simp only[aw] at h;subst h;obtain ⟨j,e⟩:=ZV.1 e;rcases b.oj e with ⟨f,k,_⟩ | ⟨c,o,cap,i,T,_,f,_⟩
   ·simp_all
   simp_all
  simp_all
 simp_all
theorem IS{es:List (List C)}{n:Nat}(h:∀e∈es,e.length=n):∀(i j:Nat) e d,es[i]? = some e->e[j]? = some d->es.flatten[i * n+j]? = some d:=by
 induction es with
 |nil=>simp_all
 |cons b es ih=>
  intro i j e d f g;have k:=h b (by simp);cases i with
  |zero=>grind
  |succ i=>grind
theorem Kj{es:List (List C)}{n:Nat}(h:∀e∈es,e.length=n):es.flatten.length=es.length * n:=by
 induction es with
 |nil=>simp
 |cons b es ih=>grind
theorem Tb(R:Rel U M Fz w){d:D}{v:Value}{aA n:Nat}{cs:List D}(W:V U M Fz w d v)(h0:aA≠0)(h:Sl U aA n d=some cs) :
  ∃arr,(Builtin.firstCells aA n v).run P w=.ok arr w/\DN U M Fz w cs arr/\cs.length=n * aA:=by
 have load:∀(m:Addr)(len l:Nat)(cs:List D),v=.slice (some m) len l->cs.length=n * aA ->
   (∀(i:Nat) x,cs[i]? = some x->∃u,w.cell? (m.add i)=some u/\V U M Fz w x u/\u.oneCell'=true) ->
   ∃arr,(Builtin.firstCells aA n v).run P w=.ok arr w/\DN U M Fz w cs arr/\cs.length=n * aA:=by
  intro m len l cs g p s
  let f:Nat->Value:=λj=>(w.cell? (m.add j)).getD undef
  have hf:∀j,j<n * aA->w.cell? (m.add j)=some (f j):=by
   intro j Q;obtain ⟨u,S,_⟩:=s j _ (dB (by omega))
   grind
  have A:=run_loadCells (P:=P) (w:=w) m (n * aA) f hf;refine ⟨_,by rw[g];simp only[Builtin.firstCells];exact A,⟨by simp_all,λi x u S h2=>?_⟩,p⟩
  grind
 have t:∀(cs:List D),n=0->cs=[]->(∃m len l,v=.slice m len l)->∃arr,(Builtin.firstCells aA n v).run P w=.ok arr w/\DN U M Fz w cs arr/\cs.length=n * aA:=by
  intro cs y E ⟨m,len,l,g⟩;subst y E;cases m with
  |none=>exact ⟨#[],by rw[g];rfl,⟨rfl,λi x u h=>by simp at h⟩,by simp⟩
  |some m=>simp_all
 unfold Sl at h;split at h
 ·split at h
  ·rename_i y;simp only[aw] at h;exact t cs y h.symm ⟨_,_,_,W.cC⟩
  simp_all
 ·rename_i nn k;split at h
  ·rename_i X;simp only[aw] at h;subst h;obtain ⟨y,a0⟩:=X;have p:∀e∈k.take n,e.length=aA:=λe he=>by grind
   have Y:((k.take n).flatten.map D.c).length=n * aA:=by grind [Kj,List.length_take]
   have F:=W.Ao;generalize g:v=va at F;cases F with
   |cU sz m l a5 _ c G K L Z=>
    by_cases af:n=0
    ·simp_all
    ·have hp:0<k.length:=by omega
     have ak:k[0]? = some k[0]:=dB hp;have a6:k[0].length=aA:=by grind
     have N:sz=aA:=by simp_all
     subst N;obtain ⟨blk,o0,rfl,_⟩:=L 0 0 k[0] (k[0][0]'(by omega)) ak (dB _);refine g▸load _ _ _ _ g Y (λi x z=>?_);have q:i<n * sz:=by grind
     have a1:i / sz<n:=Nat.div_lt_of_lt_mul (by grind);have a2:i % sz<sz:=Nat.mod_lt _ (by omega);have hk:k[i / sz]? = some (k[i / sz]'(by omega)):=dB _;have av:(k.take n)[i / sz]? = some (k[i / sz]'(by omega)):=by simp_all
     have a7:(k[i / sz]'(by omega)).length=sz:=G _ (bR _);have Q:(k[i / sz]'(by omega))[i % sz]? = some ((k[i / sz]'(by omega))[i % sz]'(by omega)):=dB _;have O:=IS p (i / sz) (i % sz) _ _ av Q;rw[show i / sz * sz+i % sz=i from by grind [Nat.div_add_mod]] at O;rw[jX,O] at z;simp only[Option.map_some,aw] at z;subst z;obtain ⟨a3,a8,S,h2,h3,h4⟩:=L _ _ _ _ hk Q;simp only[aw,Addr.mk.injEq,Qa] at S;obtain ⟨rfl,rfl⟩:=S;refine ⟨_,?_,.c (Z _ _ _ _ hk Q),h4⟩
     grind [dP,Nat.div_add_mod]
  simp_all
 ·rename_i b off len k sz;simp only[Option.bind_eq_bind,cr] at h;obtain ⟨row,hr,h⟩:=h;split at h
  ·rename_i X;obtain ⟨rfl,y,a9⟩:=X;simp only[aw] at h;subst h;obtain ⟨hb,G⟩:=KI hr;rcases W.oj hr with ⟨g,e2,_⟩ | ⟨c,o,l,arr,T,hM,g,hl,a4,hh,K,_⟩
   ·simp_all
   by_cases af:n=0
   ·simp_all
   ·have ax:o=off:=by
     omega
    subst ax;have bc:n * k<=len * k:=Sd _ y;obtain ⟨r,T',bd,be,E⟩:=R.row hM hb;refine load _ _ _ _ g (by grind) (λi x z=>?_);have q:i<n * k:=by grind
    rw[yBq q,xAi] at z;have bh:=(jy.1 z).1;have e:r[o+i]? = some (r[o+i]'(by omega)):=tc _
    grind [dP,Go.cell_of_row]
  simp_all
 simp_all
theorem len_ok(E:dk U M Fz w env a.tmps){o:Oper}{t e:TypeId}{x:Operand}{g:aP}{args:Array Operand}{d:Array TypeId}{n:Nat}(i:o.op=.call { callee:=.builtin .len,args:=args,argTypes:=d })
  (j:d[0]? = some t) (k:args[0]? = some x) (hs:args.size=1) (l:bO x=some g) (m:P.underlying t=some (.slice e)) (h:Fc U (g.ev env)=some n) :
  Yields P (execOp a.eval o) U M Fz w (.c (.lit (.int .i64 n))):=by
 obtain ⟨q,p,f⟩:=pV (mf E l) h;have b:args=#[x]:=by grind
 subst b;refine Yields.same (v:=.int .i64 n) ?_ (.c (.lit _));simp[execOp,i,resolve,invoke,builtin,Builtin.len_,j,qv m,f,goInt]
theorem QX{o:Oper}{t e:TypeId}{x:Operand}{args:Array Operand}{d:Array TypeId}{n:Nat}(f:o.op=.call { callee:=.builtin .len,args:=args,argTypes:=d })
  (g:d[0]? = some t) (h:args[0]? = some x) (hs:args.size=1) (i:P.underlying t=some (.array n e)) :
  Yields P (execOp a.eval o) U M Fz w (.c (.lit (.int .i64 n))):=by
 have b:args=#[x]:=by grind
 subst b;refine Yields.same (v:=.int .i64 n) ?_ (.c (.lit _));simp[execOp,f,resolve,invoke,builtin,Builtin.len_,g,qv i,goInt]
theorem QD(R:Rel U M Fz w)(E:dk U M Fz w env a.tmps){o:Oper}{t k e:TypeId}{x:Operand}{q:aP}{args:Array Operand}{m:Array TypeId}{n:Nat}(r:o.op=.call { callee:=.builtin .len,args:=args,argTypes:=m })
  (s:m[0]? = some t) (K:args[0]? = some x) (hs:args.size=1) (L:bO x=some q) (u:P.underlying t=some (.map k e))
  (h:(∃b y d,q.ev env=.mp b/\U[b]? = some (.map y d)/\n=y.length)∨(q.ev env=.c (.lit (.map none))/\n=0)∨∃z,q.ev env=.c (.Kl z)/\n=z.length) :
  dj P (execOp a.eval o) U M Fz w U (.c (.lit (.int .i64 n))):=by
 have g:args=#[x]:=by grind
 subst g;refine dj.same R (v:=.int .i64 n) ?_ (.c (.lit _));have f:=mf E L;rcases h with ⟨b,y,d,p,G,rfl⟩ | ⟨p,rfl⟩ | ⟨z,p,rfl⟩
 ·rw[p] at f;generalize i:a.eval x=N at f;cases f with
  |mp c Z j O=>rw[G] at j;simp only[aw] at j;subst j;obtain ⟨_,Q,o',A,S,T⟩:=R.blk b c (O rfl);rw[G] at A;simp only[aw] at A;subst A;obtain ⟨F,⟨ck,rfl,_⟩,l,_⟩:=T;simp[execOp,r,resolve,invoke,builtin,Builtin.len_,s,qv u,i,goInt,getObj,Sem.run,S,l]
 ·rw[p] at f;simp[execOp,r,resolve,invoke,builtin,Builtin.len_,s,qv u,f.cC,goInt]
 ·rw[p] at f;generalize i:a.eval x=N at f;cases f with
  |c f => cases f with
   |Kl blk d F hF W l X Y=>simp[execOp,r,resolve,invoke,builtin,Builtin.len_,s,qv u,i,goInt,getObj,Sem.run,W,l]
theorem mk_ok(u:∀c,Fz c->c<w.heap.size)(E:dk U M Fz w env a.tmps){o:Oper}{t e:TypeId}{x y:Operand}{S T:aP}{n:Nat}{i:TypeInfo}{z:List D}{l c:Int}(X:o.op=.makeSlice t x y)
  (Y:P.underlying t=some (.slice e)) (Z:bH P e=some n) (hz:Nu P e=some z) (A:P.info? e=some i) (g:¬(n=0∨z.length≠n)) (hx:bO x=some S) (hy:bO y=some T)
  (hl:sc (S.ev env)=some l) (hc:sc (T.ev env)=some c) (j:0<=l/\l<=c/\DL c.toNat i.bytes=true) :
  ai P (execOp a.eval o) U M Fz w (.cells (si l.toNat z)) (.sl U.length 0 l.toNat n (l.toNat * n)):=by
 obtain ⟨i',v,f,hv,F⟩:=zc9 hz;rw[A] at f;simp only[aw] at f;subst f;have d:=DN.qq (V.de (U:=U) (M:=M) (Fz:=Fz) (w:=w) v) F;simp only[not_or,HH] at g;obtain ⟨ad,k⟩:=g;have p:z≠[]:=λh=>by simp_all
 have af:v.cells.size=n:=by rw[d.1,k]
 obtain ⟨h0,ak,b⟩:=j;simp only[DL,bJ,bb] at b;obtain ⟨⟨av,ax⟩,_⟩:=b;obtain ⟨k1,G⟩:=iR (mf E hx) hl;obtain ⟨k2,K⟩:=iR (mf E hy) hc;obtain ⟨a0,L⟩:=zT d p l.toNat c.toNat (by omega);have N:(si l.toNat z).length=l.toNat * n:=by rw[kZ,k]
 have W:c<=1099511627776:=by omega
 have O:IntKind.i64.wrap l=l:=IntWalk.i64_in _ (by omega);have Q:IntKind.i64.wrap c=c:=IntWalk.i64_in _ (by omega)
 let arr:Array Value:=(Array.range (c.toNat * n)).map (λ(x:Nat)=>v.cells[x % v.cells.size]!)
 have q:arr=(Array.range (c.toNat * v.cells.size)).map (v.cells[· % v.cells.size]!):=by grind
 obtain ⟨r1,r2⟩:=pf (P:=P) u (arr:=arr) (cs:=si l.toNat z) e (by simp_all) (by rw[q];exact L);refine ⟨_,.slice (some ⟨w.heap.size,0,none⟩) l.toNat c.toNat,?_,r2,?_⟩
 ·have r:∀m:Int,0<=m->m<=c->(m<0 || (i.bytes:Int) * m > 2 ^ 48)=false:=by
   intro m a1 R;have h1:(i.bytes:Int) * m<=i.bytes * c:=Int.mul_le_mul_of_nonneg_left R (by omega)
   grind
  simp only[execOp,X,Instr.makeSlice,Sem.run_bind,qv Y,Result.andThen_ok,G,K,asInt,asIntOf,Sem.run_pure,Zu A,O,Q];rw[r c (by omega) (yBY _)];rw[if_neg (by simp_all)];simp only[Sem.run_bind,Sem.run_pure,Result.andThen_ok,run_askRoom,NU Z];by_cases s:c.toNat * n=0
  ·have a2:c.toNat=0:=by
    grind [Nat.mul_eq_zero]
   have a3:l.toNat=0:=by omega
   rw[if_pos s];simp only[Sem.run_bind,Sem.run_pure,Result.andThen_ok];have:(Array.range (c.toNat * n)).map (λ(x:Nat)=>(#[]:Array Value)[x % (#[]:Array Value).size]!)=arr:=by grind
   simp_all
  ·rw[if_neg s];simp only[Sem.run_bind,h_ A hv,Result.andThen_ok,Sem.run_pure]
   simp_all
 ·rw[<-N];refine V.UV (cap:=c.toNat) (by omega) ?_ (by omega) (by simp_all)
  grind
end
end Go.Abs
end
section
namespace Go.Abs
variable[Gl]
section
variable{P:Program}{U U':aq}{M M':Nat->Option Nat}{Fz:Nat->Prop}{w w':World}{env:List D}{a:Act}
theorem UX{o:Oper}{t:TypeId}(b:o.op=.makeMap t none):ai P (execOp a.eval o) U M Fz w (.map [] 0) (.mp U.length):=by
 refine ⟨.map #[] 0,.map (some w.heap.size),?_,?_,?_⟩
 ·simp only[execOp,b,Instr.makeMap,Option.map_none,Sem.run_bind,Sem.run_pure,Result.andThen_ok,run_newObj];rfl
 ·exact ⟨#[],⟨0,rfl,.nil 0⟩,rfl,λi k d n e h=>by simp at h⟩
 ·exact .mp _ (.map [] 0) (by simp) (λ_=>by simp[vY])
theorem Rel.IL(R:Rel U M Fz w){b c:Nat}{es:List (Value×D×Nat)}{j:Nat}(u:U[b]? = some (.map es j))(x:M b=some c) :
  ∃arr o,w.heap[c]? = some (.map arr o)/\(arr.size=es.length/\iO arr o)/\∀(i:Nat) k d n e,es[i]? = some (k,d,n)->arr[i]? = some e->e.key=k/\True/\V U M Fz w d e.val:=by
 obtain ⟨_,z,F,s,G,A⟩:=R.blk b c x;rw[u] at s;simp only[aw] at s;subst s;obtain ⟨arr,⟨o,rfl,K⟩,E,L⟩:=A
 grind
theorem V.BM{b:Nat}{v:Value}{es:List (Value×D×Nat)}{i:Nat}(h:V U M Fz w (.mp b) v)(o:U[b]? = some (.map es i)):∃c,v=.map (some c)/\M b=some c:=by
 cases h with
 |mp c u j s=>rw[o] at j;simp only[aw] at j;subst j;exact ⟨c,rfl,s rfl⟩
theorem zcA{d:TypeId}{e:TypeDesc}(f:P.underlying d=some e)(hs:VI e=true)(b:Bool)(v:Value)(w:World):(Instr.checkKey b 10000 d v).run P w=.ok () w:=by show (Instr.checkKey b (9999+1) d v).run P w=_;generalize 9999=n;unfold Instr.checkKey;cases e <;> simp[VI] at hs <;> simp[qv f]
theorem Ce{kind:TypeDesc}{k:Value}:∀(es:List (Value×D×Nat))(l:List MapEntry)(i:Nat)(r:Option (Nat×D)),l.length=es.length ->
  (∀(j:Nat) k d n e,es[j]? = some (k,d,n)->l[j]? = some e->e.key=k/\V U M Fz w d e.val)->qJ kind k es i=some r ->
  ∃ b, Instr.findNow kind k l i = some b /\ (match r, b with
   |none,none=>True
   |some (j,d),some (m,v)=>j=m/\i<=j/\j<i+es.length/\V U M Fz w d v/\∃e,l[j-i]? = some e/\Instr.sameNow kind k e.key=some true
   |_,_=>False):=by
 intro es;induction es with
 |nil=>
  intro l i r o _ h;simp only[qJ,aw] at h;subst h;have:l=[]:=by simp_all
  subst this;exact ⟨none,rfl,trivial⟩
 |cons x es ih=>
  intro l i r o f h;obtain ⟨g,d,n⟩:=x;cases l with
  |nil=>grind
  |cons e l=>
   obtain ⟨hk,s⟩:=f 0 g d n e (by simp) (by simp);simp only[qJ] at h;simp only[Instr.findNow,hk];cases hs:Instr.sameNow kind k g with
   |none=>simp_all
   |some t=>
    cases t with
    |true=>grind
    |false=>
     simp only[hs] at h;obtain ⟨b,p,q⟩:=ih l (i+1) r (by simp_all) (λj k d n e p q=>f (j+1) k d n e (by simp_all) (by simp_all)) h
     grind
theorem zq{d:D}{v b:Value}(h:V U M Fz w d b)(e:gZ d=some v):b=v:=by
 cases d with
 |c x=>cases x <;> simp[gZ] at e;grind [V.cC]
 |_=>grind [gZ]
theorem PH(R:Rel U M Fz w)(E:dk U M Fz w env a.tmps){o:Oper}{t kt e:TypeId}{Y:TypeDesc}{m k:Operand}{Z ok:aP}{f:Bool}{zero d:D}{s:Bool}{kv:Value}{es:List (Value×D×Nat)}{r:Option (Nat×D)}
  (ho:o.op=.lookup t m k f) (hu:P.underlying t=some (.map kt e)) (hk:P.underlying kt=some Y) (hs:VI Y=true) (hz:zeroOf P e=some zero) (hm:bO m=some Z) (ad:bO k=some ok)
  (af:gZ (ok.ev env)=some kv) (ak:(Z.ev env=.c (.lit (.map none))/\es=[])∨(∃b g,Z.ev env=.mp b/\U[b]? = some (.map es g))∨∃fs,Z.ev env=.c (.Kl fs)/\es=fs.map λp=>(p.1,.c p.2,0))
  (hf:qJ Y kv es 0=some r) (hr:(d,s)=Vt zero r) :
  dj P (execOp a.eval o) U M Fz w U (if f then .aT [d,.c (.lit (.bool s))] else d):=by
 have F:=zq (mf E ad) af;obtain ⟨i,K,hi,N,av⟩:∃i K,P.info? e=some i/\i.zero=some K/\zero=de K:=by
  unfold zeroOf at hz
  grind [Option.map_eq_some_iff]
 have G:=mf E hm;obtain ⟨l,O,ax,Q⟩:∃l:Array MapEntry,((a.eval m=.map none/\l=#[])∨∃c,a.eval m=.map (some c)/\∃g,(getObj c).run P w=.ok (.map l g) w)/\l.size=es.length /\
   ∀(i:Nat) k d n e,es[i]? = some (k,d,n)->l[i]? = some e->e.key=k/\V U M Fz w d e.val:=by
  rcases ak with ⟨S,rfl⟩ | ⟨b,g,S,hb⟩ | ⟨fs,S,rfl⟩
  ·rw[S] at G;exact ⟨#[],.inl ⟨G.cC,rfl⟩,rfl,λi k d n e h=>by simp at h⟩
  ·rw[S] at G;obtain ⟨c,A,hM⟩:=G.BM hb;obtain ⟨l,ck,T,⟨h2,_⟩,h3⟩:=R.IL hb hM
   grind [Go.getObj,Go.Sem.run]
  ·rw[S] at G;generalize A:a.eval m=va at G;cases G with
   |c G => cases G with
    |Kl blk g l hF hh ax a0 a1=>refine ⟨l,.inr ⟨blk,rfl,g,by simp[getObj,Sem.run,hh]⟩,by simp_all,λi k d n e x y=>?_⟩;simp only[jX,cu,ba] at x;obtain ⟨p,hp,rfl,rfl,_⟩:=x;exact ⟨a0 i p e hp y,.c (a1 i p e hp y)⟩
 obtain ⟨W,a2,a3⟩:=Ce (kind:=Y) (k:=kv) es l.toList 0 r (by omega)
  (λj k d n e T h2=>Q j k d n e T (by simp_all)) hf
 have L:(Instr.findKey kt kv l.toList).run P w=.ok W w:=by simp only[Instr.findKey,Sem.run_bind,qv hk,Result.andThen_ok,a2,Sem.run_pure]
 have X:∀v z,(W=none/\v=K/\z=false∨∃j,W=some (j,v)/\z=true) ->
   (execOp a.eval o).run P w=.ok (.value (if f then .tuple #[v,.bool z] else v)) w:=by
  intro v z h;rcases h with ⟨rfl,rfl,rfl⟩ | ⟨j,rfl,rfl⟩ <;> rcases O with ⟨A,rfl⟩ | ⟨c,A,g,hg⟩
  ·simp only[execOp,ho,Instr.lookup,Sem.run_bind,qv hu,Result.andThen_ok,A,Sem.run_pure,F,zcA hk hs,L,h_ hi N]
  ·simp only[execOp,ho,Instr.lookup,Sem.run_bind,qv hu,Result.andThen_ok,A,hg,Sem.run_pure,F,zcA hk hs,L,h_ hi N]
  ·grind
  ·simp only[execOp,ho,Instr.lookup,Sem.run_bind,qv hu,Result.andThen_ok,A,hg,Sem.run_pure,F,zcA hk hs,L]
 have fin:∀v z,V U M Fz w d v->s=z->V U M Fz w (if f then .aT [d,.c (.lit (.bool s))] else d) (if f then .tuple #[v,.bool z] else v):=by
  intro v z hV ht;subst ht;cases f
  ·exact hV
  ·refine .aT _ rfl (λi x u T h2=>?_)
   match i with
   |0=>simp_all
   |1=>simp at T h2;subst T h2;exact .c (.lit _)
   |i+2=>grind
 cases r with
 |none=>
  cases W with
  |some _=>simp_all
  |none=>simp only[Vt,ba] at hr;obtain ⟨rfl,rfl⟩:=hr;exact dj.same R (X K false (.inl ⟨rfl,rfl,rfl⟩)) (fin K false (av▸V.de K) rfl)
 |some p=>
  obtain ⟨j,d'⟩:=p;cases W with
  |none=>simp_all
  |some q=>
   obtain ⟨j',v⟩:=q;obtain ⟨rfl,_,_,hV,_⟩:=a3;simp only[Vt,ba] at hr
   grind [dj.same]
theorem Lj{b:TypeDesc}{x y:Value}(hs:VI b=true)(h:Instr.sameNow b x y=some true):x=y/\∀n,Instr.sameBits n x y=true:=by
 cases b <;> simp[VI] at hs
 cases x <;> cases y <;> simp[Instr.sameNow] at h
 obtain ⟨rfl,rfl⟩:=h;exact ⟨rfl,λn=>by grind [Go.Instr.sameBits]⟩
theorem upd_ok(R:Rel U M Fz w)(E:dk U M Fz w env a.tmps){o:Oper}{t kt e:TypeId}{kd:TypeDesc}{m k x:Operand}{om ok X:aP}{K:Value}{b f:Nat}{es:List (Value×D×Nat)}{r:Option (Nat×D)}
  (ho:o.op=.mapUpdate t m k x∨o.op=.insert t m k x) (hu:P.underlying t=some (.map kt e)) (hk:P.underlying kt=some kd) (hs:VI kd=true) (hm:bO m=some om) (a3:bO k=some ok) (hx:bO x=some X)
  (a4:gZ (ok.ev env)=some K) (he:om.ev env=.mp b) (Z:U[b]? = some (.map es f)) (hf:qJ kd K es 0=some r) :
  dj P (execOp a.eval o) U M Fz w (U.set b (match r with
   |some (i,_)=>.map (es.modify i λ(k,_,n)=>(k,X.ev env,n)) f
   |none=>.map (es++[(K,X.ev env,f)]) (f+1))) (.aT []):=by
 have ad:execOp a.eval o=execOp a.eval { o with op:=.mapUpdate t m k x }:=by rcases ho with ho | ho <;> simp only[execOp,ho]
 have N:=zq (mf E a3) a4;have hv:=mf E hm;rw[he] at hv;have af:=mf E hx;obtain ⟨c,ak,hM⟩:=hv.BM Z;obtain ⟨g,O,Q,⟨a5,hB⟩,s⟩:=R.IL Z hM;obtain ⟨r',a6,a7⟩:=Ce (kind:=kd) (k:=K) es g.toList 0 r (by omega)
  (λj k d n e Q F=>let ⟨x,_,y⟩:=s j k d n e Q (by simp_all);⟨x,y⟩) hf
 have av:(Instr.findKey kt K g.toList).run P w=.ok r' w:=by simp only[Instr.findKey,Sem.run_bind,qv hk,Result.andThen_ok,a6,Sem.run_pure]
 have ax:(getObj c).run P w=.ok (.map g O) w:=by simp[getObj,Sem.run,Q]
 have a0:∀G,(setObj c G).run P w=.ok () (fT w c G):=by intro G;simp only[setObj,Sem.run,Q];rfl
 have u:∀G:Obj,∀S T fr,Obj.map g O=.cells S T fr->∃W,G=.cells W T fr/\W.size=S.size:=by simp_all
 have fin:∀z G,z.sz=0->(execOp a.eval o).run P w=.ok .skip (fT w c G)->cf (U.set b z) M Fz (fT w c G) z G->dj P (execOp a.eval o) U M Fz w (U.set b z) (.aT []):=by
  intro z G hz a1 a8;have A:(Ob.map es f).sz<=z.sz:=by simp[Ob.sz]
  exact ⟨.skip,undef,_,M,a1,.inr ⟨rfl,rfl⟩,R.vD hM Z Q A (u G) a8,.aT #[] rfl (λi d v h=>by simp at h),bQ.vD R hM Z Q A (u G),by simp⟩
 cases r with
 |none=>
  cases r' with
  |some _=>simp_all
  |none=>
   refine fin (.map (es++[(K,X.ev env,f)]) (f+1)) (.map (g.push { key:=K,val:=a.eval x,born:=O }) (O+1)) rfl ?_ ?_
   ·rw[ad];simp only[execOp,Instr.mapUpdate,Sem.run_bind,qv hu,Result.andThen_ok,ak,ax,N,zcA hk hs,av,a0,Sem.run_pure]
   ·have A:(Ob.map es f).sz<=(Ob.map (es++[(K,X.ev env,f)]) (f+1)).sz:=by simp[Ob.sz]
    have EV:=bQ.vD R hM Z Q A (u (.map (g.push { key:=K,val:=a.eval x,born:=O }) (O+1)));refine ⟨_,⟨_,rfl,hB.push _ _⟩,by grind,λi k' d n en F L=>?_⟩;by_cases hi:i<es.length
    ·rw[Ie hi] at F;rw[Array.getElem?_push_lt (by omega)] at L;obtain ⟨x1,x2,x3⟩:=s i k' d n en F (by simp_all);exact ⟨x1,x2,x3.mono EV⟩
    ·have a9:=(jy.1 F).1;simp at a9;have:i=es.length:=by omega
     subst this;rw[Pv (cT _)] at F;simp at F;obtain ⟨rfl,rfl,rfl⟩:=F;rw[<-a5] at L;simp at L;subst L;exact ⟨rfl,trivial,af.mono EV⟩
 |some p=>
  obtain ⟨j,d'⟩:=p;cases r' with
  |none=>simp_all
  |some q=>
   obtain ⟨j',v⟩:=q;obtain ⟨rfl,_,hj,_,bc,l,bd⟩:=a7;simp only[Nat.sub_zero,OY] at l;obtain ⟨a2,Y⟩:=Lj hs bd;have bh:j<g.size:=(KR.1 l).1;have be:∀SS new,Instr.sameBits 10000 SS new=true->(Instr.keyThatStays SS new).run P w=.ok new w:=by intro SS new h;simp only[Instr.keyThatStays,h,if_true,Sem.run_pure]
   refine fin (.map (es.modify j λ(k,_,n)=>(k,X.ev env,n)) f) (.map (g.modify j λe=>{ e with key:=K,val:=a.eval x }) O) rfl ?_ ?_
   ·rw[ad];simp only[execOp,Instr.mapUpdate,Sem.run_bind,qv hu,Result.andThen_ok,ak,ax,N,zcA hk hs,av];rw[l];simp only[Option.map_some,Option.getD_some];rw[be _ _ (by have:=Y 10000;rw[a2] at this ⊢;exact this)];simp only[Result.andThen_ok,a0,Sem.run_pure]
   ·have A:(Ob.map es f).sz<=(Ob.map (es.modify j λ(k,_,n)=>(k,X.ev env,n)) f).sz:=by simp[Ob.sz]
    have EV:=bQ.vD R hM Z Q A (u (.map (g.modify j λe=>{ e with key:=K,val:=a.eval x }) O));refine ⟨_,⟨_,rfl,hB.same (by
     apply Rg
     grind)⟩,by grind,λi k' d n en F L=>?_⟩
    rw[List.getElem?_modify] at F;rw[Array.getElem?_modify] at L;by_cases hi:j=i
    ·subst hi;rw[l] at L;simp only[if_true,Option.map_some,aw] at L;subst L;cases h4:es[j]? with
     |none=>simp_all
     |some p=>obtain ⟨k0,d0,n0⟩:=p;simp[h4] at F;obtain ⟨rfl,rfl,rfl⟩:=F;obtain ⟨x1,x2,_⟩:=s j k0 d0 n0 bc h4 l;exact ⟨by simp_all,x2,af.mono EV⟩
    ·simp only[hi,bn] at F L;obtain ⟨x1,x2,x3⟩:=s i k' d n en (by simp_all) (by omega);exact ⟨x1,x2,x3.mono EV⟩
theorem FH:∀(l:List (Value×D×Nat))(i:Nat),(lV i l).length=l.length
 |[],_=>rfl
 |(_,_,_)::l,i=>by simp[lV,FH l]
theorem Ft:∀(l:List (Value×D×Nat))(i j:Nat)(k:Value)(d:D)(n:Nat),(lV i l)[j]? = some (k,d,n)->∃m,l[j]? = some (k,d,m)
 |[],_,_,_,_,_,h=>by grind [lV]
 |(b, d0, e) :: l, i, 0, k, d, n, h => by grind [lV]
 |(b, d0, e) :: l, i, j + 1, k, d, n, h => by simp only[lV,List.getElem?_cons_succ] at h ⊢;exact Ft l (i+1) j k d n h
theorem ZY(R:Rel U M Fz w)(E:dk U M Fz w env a.tmps){o:Oper}{t kt e:TypeId}{kd:TypeDesc}{m k:Operand}{om ok:aP}{Q:Value}{b f:Nat}{es:List (Value×D×Nat)}{r:Option (Nat×D)}{args:Array Operand}{S:Array TypeId}
  (ho:o.op=.call { callee:=.builtin .delete,args:=args,argTypes:=S }) (ht:S[0]? = some t) (a7:args[0]? = some m) (a8:args[1]? = some k) (hu:P.underlying t=some (.map kt e)) (hk:P.underlying kt=some kd) (hs:VI kd=true) (hm:bO m=some om) (ax:bO k=some ok)
  (a0:gZ (ok.ev env)=some Q) (he:om.ev env=.mp b) (O:U[b]? = some (.map es f)) (hf:qJ kd Q es 0=some r) :
  dj P (execOp a.eval o) U M Fz w (U.set b (match r with
   |some (i,_)=>.map (lV 0 (es.eraseIdx i)) (f-1)
   |none=>.map es f)) (.aT []):=by
 have a6:=zq (mf E ax) a0;have hv:=mf E hm;rw[he] at hv;obtain ⟨c,a9,W⟩:=hv.BM O;obtain ⟨g,A,F,⟨a1,hB⟩,l⟩:=R.IL O W;obtain ⟨r',a2,a3⟩:=Ce (kind:=kd) (k:=Q) es g.toList 0 r (by omega)
  (λj k d n e F z=>let ⟨x,_,y⟩:=l j k d n e F (by simp_all);⟨x,y⟩) hf
 have X:(Instr.findKey kt Q g.toList).run P w=.ok r' w:=by simp only[Instr.findKey,Sem.run_bind,qv hk,Result.andThen_ok,a2,Sem.run_pure]
 have Y:(getObj c).run P w=.ok (.map g A) w:=by simp[getObj,Sem.run,F]
 have Z:∀u,(setObj c u).run P w=.ok () (fT w c u):=by intro u;simp only[setObj,Sem.run,F];rfl
 have s:∀u:Obj,∀G T fr,Obj.map g A=.cells G T fr->∃K,u=.cells K T fr/\K.size=G.size:=by simp_all
 have ad:(args.map a.eval)[0]? = some (.map (some c)):=by simp_all
 have af:(args.map a.eval)[1]? = some Q:=by simp_all
 have fin:∀ob' u,ob'.sz=0->(execOp a.eval o).run P w=.ok (.value (.tuple #[])) (fT w c u)->cf (U.set b ob') M Fz (fT w c u) ob' u->dj P (execOp a.eval o) U M Fz w (U.set b ob') (.aT []):=by
  intro ob' u hz ak a4;have av:(Ob.map es f).sz<=ob'.sz:=by simp[Ob.sz]
  exact ⟨.value (.tuple #[]),.tuple #[],_,M,ak,.inl rfl,R.vD W O F av (s u) a4,.aT #[] rfl (λi d v h=>by simp at h),bQ.vD R W O F av (s u),by simp⟩
 cases r with
 |none=>
  cases r' with
  |some _=>simp_all
  |none=>
   refine fin (.map es f) (.map g A) rfl ?_ ?_
   ·simp only[execOp,ho,resolve,invoke,builtin,Builtin.delete_,ht,ad,af,Sem.run_bind,Sem.run_pure,qv hu,Result.andThen_ok,Y,zcA hk hs,X,Z]
   ·have EV:=bQ.vD R W O F (ob':=.map es f) (cT _) (s (.map g A));exact ⟨g,⟨A,rfl,hB⟩,a1,λi k' d n en z N=>by obtain ⟨x1,x2,x3⟩:=l i k' d n en z N;exact ⟨x1,x2,x3.mono EV⟩⟩
 |some p=>
  obtain ⟨j,d'⟩:=p;cases r' with
  |none=>simp_all
  |some q=>
   obtain ⟨j',v⟩:=q;obtain ⟨rfl,_,hj,_,bc,L,bd⟩:=a3;simp only[Nat.sub_zero,OY] at L;have be:j<g.size:=(KR.1 L).1;have a5:(g.eraseIdxIfInBounds j).toList=g.toList.eraseIdx j:=by simp_all
   refine fin (.map (lV 0 (es.eraseIdx j)) (f-1)) (.map (g.eraseIdxIfInBounds j) A) rfl ?_ ?_
   ·simp only[execOp,ho,resolve,invoke,builtin,Builtin.delete_,ht,ad,af,Sem.run_bind,Sem.run_pure,qv hu,Result.andThen_ok,Y,zcA hk hs,X,Z]
   ·have EV:=bQ.vD R W O F (ob':=.map (lV 0 (es.eraseIdx j)) (f-1)) (by simp[Ob.sz]) (s (.map (g.eraseIdxIfInBounds j) A));refine ⟨_,⟨A,rfl,hB.sub (by grind)⟩,?_,λi k' d n en z N=>?_⟩
    ·grind [FH]
    ·obtain ⟨m',z⟩:=Ft _ _ _ _ _ _ z;rw[<-OY,a5,List.getElem?_eraseIdx] at N;rw[List.getElem?_eraseIdx] at z;split at z
     ·rename_i hi;rw[if_pos hi,OY] at N;obtain ⟨x1,_,x3⟩:=l i k' d m' en z N;exact ⟨x1,trivial,x3.mono EV⟩
     ·rename_i hi;rw[if_neg hi,OY] at N;obtain ⟨x1,_,x3⟩:=l (i+1) k' d m' en z N;exact ⟨x1,trivial,x3.mono EV⟩
end
end Go.Abs
end
section
namespace Go.Abs
variable[Gl]
section
variable{P:Program}{U U':aq}{M M':Nat->Option Nat}{Fz:Nat->Prop}{w w':World}{env:List D}{a:Act}
theorem Pe(n:Nat):∀(r c:Nat),c<=n+(n+768) / 4->Builtin.growBy n r c<=n+(n+768) / 4:=by
 intro r;induction r with
 |zero=>intro c h;exact h
 |succ r ih=>grind [Go.Builtin.growBy]
theorem LK(n c:Nat)(h:c<n):Builtin.nextslicecap n c<=2 * n+1000:=by grind [Go.Builtin.nextslicecap,Pe]
theorem On{c:Nat}{o:Obj}(h:w.heap[c]? = some o):fT w c o=w:=by
 unfold fT;have:w.heap.setIfInBounds c o=w.heap:=by grind
 rw[this]
theorem eY(P:Program)(T:TypeId)(c:Nat)(b:List Value)(off:Nat)(w:World)(arr:Array Value)
  (h:w.heap[c]? = some (.cells arr T (0,0))) (d:∀x∈b,x.oneCell'=true) (f:off+b.length<=arr.size) :
  (storeCells ⟨c,off,none⟩ b).run P w=.ok () (fT w c (.cells (ie arr off b) T (0,0))):=by
 rw[uk P T c b 0 off w arr h d (by omega)];congr 1;split
 ·rename_i e;subst e;have:ie arr off []=arr:=by grind [ie]
  grind [On]
 ·rfl
theorem DN.VN{cs:List D}{arr:Array Value}(h:DN U M Fz w cs arr):∀u∈arr.toList,u.oneCell'=true:=by intro u o;obtain ⟨i,j,rfl⟩:=yBE.1 o;simp only[Array.length_toList] at j;exact (h.2 i _ _ (dB (by rw[<-h.1];exact j)) (tc (by omega))).2
theorem qa {t x e:TypeId} {z:TypeId} {k:Array TypeId} {ty:TypeId} {args:Array Value} {g:Option Addr} {d f n h:Nat} {m:Option Addr} {aA:Nat} {i:TypeInfo} {y:Value}
    (A:k[0]? = some t) (p:k[1]? = some x) (E:P.underlying t=some (.slice e)) (q:P.underlying x=some (.slice z)) (s:bH P e=some aA) (o:P.info? e=some i) (F:i.zero=some y)
    (G:args[0]? = some (.slice g d f)) (K:args[1]? = some (.slice m n h)) (j:DL (d+n) i.bytes=true) (w:World) :
    (Builtin.append_ k ty args).run P w =
      if d+n≤f then
        ((Builtin.firstCells aA n (.slice m n h)).run P w).andThen fun new w1=>
          match (generalizing:=false) g with
          | some b=>((storeCells (b.add (d * aA)) new.toList).run P w1).andThen fun _ w2=>.ok (.slice g (d+n) f) w2
          | none=>.ok (.slice g (d+n) f) w1
      else
        ((Builtin.firstCells aA d (.slice g d f)).run P w.drew).andThen fun L w1=>
          ((Builtin.firstCells aA n (.slice m n h)).run P w1).andThen fun new w2=>
            ((newRow e (L++new++Builtin.zeroCells y.cells ((Question.appendCap (d+n) f e).cut (w.tape w.drawn (.appendCap (d+n) f e))-(d+n)))).run P w2).andThen fun r w3=>
              .ok (.slice (some r) (d+n) ((Question.appendCap (d+n) f e).cut (w.tape w.drawn (.appendCap (d+n) f e)))) w3:=by
  simp only [DL,bJ,bb] at j
  obtain ⟨⟨N,O⟩,Q⟩:=j
  have l:∀w,(Builtin.lenOf (.slice m n h)).run P w=.ok n w:=fun w=>rfl
  simp only [Builtin.append_,A,p,G,K,Sem.run_bind,qv E,qv q,NU s,Result.andThen_ok,Sem.run_pure,a_,bn,Bool.not_false,if_true,l]
  split
  · grind [Go.Sem.run_bind,Go.Sem.run_pure]
  · rename_i R
    have u:¬(((d+n:Nat):Int) > IntKind.i64.max∧(False∨i.bytes=0)):=by
      have:IntKind.i64.max=9223372036854775807:=by decide
      omega
    have v:¬(Builtin.nextslicecap (d+n) f * i.bytes > 2 ^ 48):=by
      have S:=LK (d+n) f (by omega)
      have T:Builtin.nextslicecap (d+n) f * i.bytes≤(2 * (d+n)+1000) * i.bytes:=Sd _ S
      grind
    simp only [Sem.run_bind,Zu o,Result.andThen_ok,a_]
    rw [if_neg u]
    simp only [Sem.run_bind,Sem.run_pure,Zu o,Result.andThen_ok]
    rw [if_neg v]
    simp only [Sem.run_bind,Sem.run_pure,Zu o,Result.andThen_ok,run_choose,Question.forced,a_,bn,run_askRoom,h_ o F,World.drew_eq]
theorem LG(n c:Nat)(e:TypeId)(t:Nat):n<=(Question.appendCap n c e).cut t:=by grind [Go.Question.cut]
theorem lK(z:Array Value)(n:Nat):(Builtin.zeroCells z n).size=n * z.size:=by simp[Builtin.zeroCells]
theorem bQ.ph(R:Rel U M Fz w):bQ U M Fz w (U++[.cells []]) M Fz w:={
 size:=cT _
 frame:=λ_ _ _=>rfl
 oA:=λb c h=>.inl ⟨b,h⟩
 fz:=λc h=>⟨h,rfl⟩
 rS:=λc h=>.inl h
 sa:=λc i T o h=>⟨i,h,rfl⟩
 cX:=λb j h=>⟨j,by grind,cT _,λ_=>rfl⟩
 out:=⟨rfl,rfl,rfl⟩ }
theorem Rel.ph(R:Rel U M Fz w):Rel (U++[.cells []]) M Fz w:=⟨λb c h=>by obtain ⟨i,j,o,x,s,u⟩:=R.blk b c h;exact ⟨i,j,o,by grind,s,u.mono (bQ.ph R)⟩,R.inj,R.fz,R.gl⟩
theorem Pw(R:Rel U M Fz w)(E:dk U M Fz w env a.tmps){o:Oper}{t t1 e et:TypeId}{args:Array Operand}{a7:Array TypeId}{s x:Operand}{os ox:aP}{aA:Nat}{i:TypeInfo}{z:List D}{d:D}{wr:List Nat}
  (ho:o.op=.call { callee:=.builtin .append,args:=args,argTypes:=a7 }) (ht:a7[0]? = some t) (a8:a7[1]? = some t1) (c7:args[0]? = some s) (c8:args[1]? = some x)
  (hu:P.underlying t=some (.slice e)) (a9:P.underlying t1=some (.slice et)) (bc:bH P e=some aA) (hi:P.info? e=some i) (hz:Nu P e=some z) (q:¬(aA=0∨z.length≠aA))
  (hs:bO s=some os) (hx:bO x=some ox)
  (h:(do
  let xd:=ox.ev env
  let n <-Fc U xd
  let new <-Sl U aA n xd
  match os.ev env with
  |.c (.lit (.slice none 0 0))=>if DL n i.bytes then some (.sl U.length 0 n aA (n * aA),U++[.cells new],[]) else none
  |.sl b off len m sz => do
   let cs <-nl U b sz
   if m=aA/\off=0/\len * aA=sz/\DL (len+n) i.bytes then
    if n=0 then some (.sl b 0 len aA sz,U,[b])
    else some (.sl b 0 (len+n) aA (sz+n * aA),U.set b (.cells (cs++new)),[b])
   else if m=aA/\off=0/\(len+n) * aA<=sz/\DL (len+n) i.bytes then
    if n=0 then some (.sl b 0 len aA sz,U,[b])
    else some (.sl b 0 (len+n) aA sz,U.set b (.cells (put cs (len * aA) new)),[b])
   else none
  |_=>none)=some (d,U',wr)):dj P (execOp a.eval o) U M Fz w U' d:=by
 obtain ⟨i',zv,bt,bd,co⟩:=zc9 hz;rw[hi] at bt;simp only[aw] at bt;subst bt;simp only[not_or,HH] at q;obtain ⟨p,c9⟩:=q;have bu:zv.cells.size=aA:=by have:=(DN.qq (V.de (U:=U) (M:=M) (Fz:=Fz) (w:=w) zv) co).1;omega
 simp only[Option.bind_eq_bind,cr] at h;obtain ⟨n,hn,new,A,h⟩:=h;have W:=mf E hx;have ak:=mf E hs;obtain ⟨cv,b4,X⟩:=pV W hn;have a2:∀r,(Builtin.append_ a7 o.type (args.map a.eval)).run P w=r->(execOp a.eval o).run P w=r.andThen λv w'=>.ok (.value v) w':=by intro r hr;simp only[execOp,ho,resolve,invoke,builtin,Sem.run_bind,Sem.run_pure,Result.andThen_ok,hr]
 have be:(args.map a.eval)[1]? = some (.slice cv n b4):=by simp_all
 split at h
 ·rename_i bv;rw[bv] at ak;have da:=ak.cC;have av:(args.map a.eval)[0]? = some (.slice none 0 0):=by simp_all
  split at h
  ·rename_i F;have f:=qa (ty:=o.type) ht a8 hu a9 bc hi bd av be (by simp_all) w;simp only[aw,ba] at h;obtain ⟨rfl,rfl,_⟩:=h;by_cases q:n=0
   ·subst q;obtain ⟨arr,l,g,k⟩:=Tb (P:=P) R W p A;rw[X] at l;rw[if_pos (by omega),l] at f;have he:new=[]:=VD (by omega);subst he;refine ⟨.value (.slice none 0 0),.slice none 0 0,w,M,by simp_all,.inl rfl,R.ph,?_,bQ.ph R,by simp⟩;exact .sl none 0 0 (by simp) (.cells []) (by simp) (by omega) (λ_=>.inl ⟨rfl,rfl,rfl,rfl,rfl,by simp⟩)
   ·rw[if_neg (by omega)] at f;simp only[N_] at f;have EH:bQ U M Fz w U M Fz w.drew:=bQ.heap R rfl ⟨rfl,rfl,rfl⟩;have R1:Rel U M Fz w.drew:=R.heap rfl ⟨rfl,rfl,rfl⟩;obtain ⟨arr,l,g,k⟩:=Tb (P:=P) R1 (W.mono EH) p A;rw[X] at l;have a3:(Builtin.firstCells aA 0 (.slice none 0 0)).run P w.drew=.ok #[] w.drew:=rfl;rw[a3] at f;simp only[Result.andThen_ok,l] at f;have a4:=LG n 0 e (w.tape w.drawn (.appendCap n 0 e));generalize (Question.appendCap n 0 e).cut (w.tape w.drawn (.appendCap n 0 e))=Y at f a4;have hm:n * aA+(Y-n) * aA=Y * aA:=by rw[<-TD];simp_all
    have a5:(#[]++arr++Builtin.zeroCells zv.cells (Y-n)).size=Y * aA:=by simp only[Array.size_append,lK,bu,g.1,k,Array.size_empty];omega
    obtain ⟨r1,r2⟩:=pf (P:=P) R1.fz (cs:=new) (arr:=#[]++arr++Builtin.zeroCells zv.cells (Y-n)) e (by omega) (λj y u S Q=>by have hj:=(jy.1 S).1;rw[yBz (by simp[g.1];exact hj)] at Q;exact g.2 j y u S (by simp_all))
    rw[r1] at f;refine ⟨_,_,_,_,by rw[a2 _ f];rfl,.inl rfl,R1.alloc _ _ r2,?_,EH.trans (bQ.alloc R1.fz _ _) (cT _),by simp⟩;rw[<-k];exact V.UV (by omega) (by omega) (by omega) (by omega)
  simp_all
 ·rename_i b off len m sz bv;rw[bv] at ak;simp only[cr] at h;obtain ⟨cs,hr,h⟩:=h;split at h
  ·rename_i G;obtain ⟨rfl,rfl,bi,F⟩:=G;obtain ⟨hb,b5⟩:=KI hr;rcases ak.oj hr with ⟨a6,e2,_,e4,e6⟩ | ⟨c,o',K,L,T,hM,a6,b6,b7,hh,b8,_⟩
   ·subst e2 e4 e6;have av:(args.map a.eval)[0]? = some (.slice none 0 0):=by simp_all
    have f:=qa (ty:=o.type) ht a8 hu a9 bc hi bd av be F w;split at h
    ·rename_i q;subst q;simp only[aw,ba] at h;obtain ⟨rfl,rfl,_⟩:=h;obtain ⟨arr,l,g,k⟩:=Tb (P:=P) R W p A;rw[X] at l;rw[if_pos (by omega),l] at f;refine dj.same R (v:=.slice none 0 0) ?_ (a6▸ak)
     simp_all
    ·rename_i q;simp only[aw,ba] at h;obtain ⟨rfl,rfl,_⟩:=h;rw[if_neg (by omega)] at f;simp only[N_] at f;have EH:bQ U M Fz w U M Fz w.drew:=bQ.heap R rfl ⟨rfl,rfl,rfl⟩;have R1:Rel U M Fz w.drew:=R.heap rfl ⟨rfl,rfl,rfl⟩;obtain ⟨arr,l,g,k⟩:=Tb (P:=P) R1 (W.mono EH) p A;rw[X] at l;have a3:(Builtin.firstCells m 0 (.slice none 0 0)).run P w.drew=.ok #[] w.drew:=rfl;rw[a3] at f;simp only[Result.andThen_ok,l] at f;have a4:=LG n 0 e (w.tape w.drawn (.appendCap n 0 e));generalize (Question.appendCap n 0 e).cut (w.tape w.drawn (.appendCap n 0 e))=Y at f a4;have hm:n * m+(Y-n) * m=Y * m:=by rw[<-TD];simp_all
     have a5:(#[]++arr++Builtin.zeroCells zv.cells (Y-n)).size=Y * m:=by simp only[Array.size_append,lK,bu,g.1,k,Array.size_empty];omega
     have ax:∀row,(newRow e row).run P w.drew=.ok ⟨w.drew.heap.size,0,none⟩ (w.drew.alloc (.cells row e)):=λ_=>rfl;rw[ax] at f;have c0:0<n * m:=Nat.mul_pos (by omega) (by omega);have N:(Ob.cells []).sz<(Ob.cells ([]++new)).sz:=by grind [Ob.sz]
     have EV:=bQ.move (o':=.cells (#[]++arr++Builtin.zeroCells zv.cells (Y-n)) e) R1 hb N;refine ⟨_,_,_,_,by rw[a2 _ f];rfl,.inl rfl,R1.move hb N ?_,?_,EH.trans EV (cT _),by simp⟩
     ·refine ⟨_,e,rfl,by grind,λj d v S Q=>?_⟩;have bh:=(jy.1 S).1;simp[k] at bh;rw[yBz (by simp[g.1,k];omega)] at Q;have:=g.2 j d v (by simp_all) (by simp_all);exact ⟨this.1.mono EV,this.2⟩
     ·have bw:=(jy.1 hb).1;refine .sl _ _ _ (by simp) (.cells ([]++new)) (by simp_all) (by grind [Ob.sz]) (λ_=>.inr ?_);refine ⟨w.drew.heap.size,0,_,e,by simp[vY],rfl,by omega,by omega,.inl rfl,heap_alloc_new _ _,by omega,by simp⟩
   have av:(args.map a.eval)[0]? = some (.slice (some ⟨c,o',none⟩) len K):=by simp_all
   have f:=qa (ty:=o.type) ht a8 hu a9 bc hi bd av be F w;obtain ⟨b0,T',a0,c2,b1⟩:=R.row hM hb;rw[hh] at a0;simp only[aw,Obj.cells.injEq,Qa] at a0;obtain ⟨rfl,rfl⟩:=a0;split at h
   ·rename_i q;subst q;simp only[aw,ba] at h;obtain ⟨rfl,rfl,_⟩:=h;obtain ⟨arr,l,g,k⟩:=Tb (P:=P) R W p A;rw[X] at l;rw[if_pos (by omega),l] at f;have b9:arr.toList=[]:=by
     have:arr.size=0:=by rw[g.1,k];omega
     simp_all
    grind [Go.Result.andThen_ok,Go.storeCells,Go.Sem.run_pure,dj.same]
   ·rename_i q;simp only[aw,ba] at h;obtain ⟨rfl,rfl,_⟩:=h;by_cases Z:len+n<=K
    ·rw[if_pos Z] at f;obtain ⟨arr,l,g,k⟩:=Tb (P:=P) R W p A;rw[X] at l;have b2:o'=0:=by
      omega
     subst b2;have hm:(len+n) * m<=K * m:=Sd _ Z;rw[TD] at hm;have b3:=eY P T c arr.toList (0+len * m) w L hh g.VN (by simp[g.1,k];omega);rw[l] at f;simp only[Result.andThen_ok,dP,b3] at f;have N:(Ob.cells cs).sz<=(Ob.cells (cs++new)).sz:=by simp[Ob.sz]
     have ad:∀O T1 fr,Obj.cells L T (0,0)=.cells O T1 fr->∃af,Obj.cells (ie L (0+len * m) arr.toList) T (0,0)=.cells af T1 fr/\af.size=O.size:=by intro O T1 fr h;simp only[Obj.cells.injEq] at h;obtain ⟨rfl,rfl,rfl⟩:=h;exact ⟨_,rfl,iP (by simp[g.1,k];omega)⟩
     have EV:=bQ.vD R hM hb hh N ad;refine ⟨_,_,_,M,by rw[a2 _ f];rfl,.inl rfl,R.vD hM hb hh N ad ?_,?_,EV,by simp⟩
     ·refine ⟨_,T,rfl,?_,λj d v S Q=>?_⟩
      ·grind
      ·rw[du (by simp[g.1,k];omega)] at Q;simp only[Array.length_toList,g.1,k] at Q;by_cases hj:j<cs.length
       ·rw[Ie hj] at S;rw[if_neg (by omega)] at Q;have:=b1 j d v S Q;exact ⟨this.1.mono EV,this.2⟩
       ·rw[Pv (by omega)] at S;have bh:=(jy.1 S).1;rw[if_pos (by omega)] at Q;have:=g.2 (j-cs.length) d v S (by
         simp_all)
        exact ⟨this.1.mono EV,this.2⟩
     ·have bw:=(jy.1 hb).1;refine .sl _ _ _ (by simp) (.cells (cs++new)) (by simp_all) (by grind [Ob.sz]) (λ_=>.inr ?_);refine ⟨c,0,_,T,hM,rfl,rfl,⟨Z,by omega⟩,.inl rfl,oF (R.lt hM).2,?_,?_⟩
      ·simp_all
      grind
    ·rw[if_neg Z] at f;have EH:bQ U M Fz w U M Fz w.drew:=bQ.heap R rfl ⟨rfl,rfl,rfl⟩;have R1:Rel U M Fz w.drew:=R.heap rfl ⟨rfl,rfl,rfl⟩;obtain ⟨arr,l,g,k⟩:=Tb (P:=P) R1 (W.mono EH) p A;rw[X] at l;have c3:Sl U m len (.sl b 0 len m sz)=some cs:=by
      have hc:m=m/\len<=len/\0+len * m<=sz:=⟨rfl,cT _,by omega⟩;show ((nl U b sz).bind λcs=>if m=m/\len<=len/\0+len * m<=sz then some ((cs.drop 0).take (len * m)) else none)=some cs
      grind
     obtain ⟨SS,ch,a1,c4⟩:=Tb (P:=P) R1 (ak.mono EH) p c3;rw[a6] at ch;rw[ch] at f;simp only[Result.andThen_ok,l] at f;have a4:=LG (len+n) K e (w.tape w.drawn (.appendCap (len+n) K e));generalize (Question.appendCap (len+n) K e).cut (w.tape w.drawn (.appendCap (len+n) K e))=Y at f a4;have hm:(len+n) * m+(Y-(len+n)) * m=Y * m:=by rw[<-TD];simp_all
     rw[TD] at hm;have a5:(SS++arr++Builtin.zeroCells zv.cells (Y-(len+n))).size=Y * m:=by simp only[Array.size_append,lK,bu,g.1,k,a1.1,c4];omega
     have ax:∀row,(newRow e row).run P w.drew=.ok ⟨w.drew.heap.size,0,none⟩ (w.drew.alloc (.cells row e)):=λ_=>rfl;rw[ax] at f;have c0:0<n * m:=Nat.mul_pos (by omega) (by omega);have N:(Ob.cells cs).sz<(Ob.cells (cs++new)).sz:=by grind [Ob.sz]
     have EV:=bQ.move (o':=.cells (SS++arr++Builtin.zeroCells zv.cells (Y-(len+n))) e) R1 hb N;refine ⟨_,_,_,_,by rw[a2 _ f];rfl,.inl rfl,R1.move hb N  ?_,?_,EH.trans EV (cT _),by simp⟩
     ·refine ⟨_,e,rfl,by grind,λj d v S Q=>?_⟩;have bh:=(jy.1 S).1;simp[k] at bh;rw[yBz (by simp[a1.1,g.1,k];omega)] at Q;by_cases hj:j<cs.length
      ·rw[Ie hj] at S;rw[yBz (by rw[a1.1];exact hj)] at Q;have:=a1.2 j d v S Q;exact ⟨this.1.mono EV,this.2⟩
      ·rw[Pv (by omega)] at S;rw[Array.getElem?_append_right (by rw[a1.1];omega),a1.1] at Q;have:=g.2 _ d v S Q;exact ⟨this.1.mono EV,this.2⟩
     ·have bw:=(jy.1 hb).1;refine .sl _ _ _ (by simp) (.cells (cs++new)) (by simp_all) (by grind [Ob.sz]) (λ_=>.inr ?_);refine ⟨w.drew.heap.size,0,_,e,by simp[vY],rfl,rfl,by omega,.inl rfl,heap_alloc_new _ _,by omega,by grind⟩
  ·rename_i c6;split at h
   rotate_left
   ·simp at h
   rename_i G;obtain ⟨rfl,rfl,bi,F⟩:=G;obtain ⟨hb,b5⟩:=KI hr;have ck:0<m:=Nat.pos_of_ne_zero p;rcases ak.oj hr with ⟨a6,e2,_,e4,e6⟩ | ⟨c,o',K,L,T,hM,a6,b6,b7,hh,b8,_⟩
   ·simp_all
   have av:(args.map a.eval)[0]? = some (.slice (some ⟨c,o',none⟩) len K):=by simp_all
   have f:=qa (ty:=o.type) ht a8 hu a9 bc hi bd av be F w;obtain ⟨b0,T',a0,c2,b1⟩:=R.row hM hb;rw[hh] at a0;simp only[aw,Obj.cells.injEq,Qa] at a0;obtain ⟨rfl,rfl⟩:=a0;have Z:len+n<=K:=Nat.le_of_mul_le_mul_right (by omega) ck;rw[if_pos Z] at f;obtain ⟨arr,l,g,k⟩:=Tb (P:=P) R W p A;rw[X] at l;split at h
   ·rename_i q;subst q;simp only[aw,ba] at h;obtain ⟨rfl,rfl,_⟩:=h;have b9:arr.toList=[]:=by
     have:arr.size=0:=by rw[g.1,k];omega
     simp_all
    grind [Go.Result.andThen_ok,Go.storeCells,Go.Sem.run_pure,dj.same]
   ·rename_i q;simp only[aw,ba] at h;obtain ⟨rfl,rfl,_⟩:=h;have b2:o'=0:=by
     omega
    subst b2;have hm:(len+n) * m<=K * m:=Sd _ Z;have c5:=bi;rw[TD] at hm c5;have b3:=eY P T c arr.toList (0+len * m) w L hh g.VN (by simp[g.1,k];omega);rw[l] at f;simp only[Result.andThen_ok,dP,b3] at f;have cm:len * m+new.length<=cs.length:=by omega
    have N:(Ob.cells cs).sz<=(Ob.cells (put cs (len * m) new)).sz:=by grind [Ob.sz,V_]
    have ad:∀O T1 fr,Obj.cells L T (0,0)=.cells O T1 fr->∃af,Obj.cells (ie L (0+len * m) arr.toList) T (0,0)=.cells af T1 fr/\af.size=O.size:=by intro O T1 fr h;simp only[Obj.cells.injEq] at h;obtain ⟨rfl,rfl,rfl⟩:=h;exact ⟨_,rfl,iP (by simp[g.1,k];omega)⟩
    have EV:=bQ.vD R hM hb hh N ad;refine ⟨_,_,_,M,by rw[a2 _ f];rfl,.inl rfl,R.vD hM hb hh N ad ?_,?_,EV,by simp⟩
    ·refine ⟨_,T,rfl,by grind [V_],λj d v S Q=>?_⟩;rw[gW cm] at S;rw[du (by simp[g.1,k];omega)] at Q;simp only[Array.length_toList,g.1,N_] at Q;split at S
     ·rename_i G;rw[if_pos G] at Q;have:=g.2 _ _ _ S (by simpa using Q);exact ⟨this.1.mono EV,this.2⟩
     ·rename_i G;rw[if_neg G] at Q;have:=b1 _ _ _ S Q;exact ⟨this.1.mono EV,this.2⟩
    ·have bw:=(jy.1 hb).1;refine .sl _ _ _ (by simp) (.cells (put cs (len * m) new)) (by simp_all) (by grind [Ob.sz]) (λ_=>.inr ?_);refine ⟨c,0,_,T,hM,rfl,rfl,⟨Z,b6.2⟩,.inl rfl,oF (R.lt hM).2,?_,?_⟩
     ·simp_all
     ·omega
 simp_all
theorem BB(R:Rel U M Fz w)(E:dk U M Fz w env a.tmps){o:Oper}{t e:TypeId}{args:Array Operand}{S:Array TypeId}{s x:Operand}{os ox:aP}{aA b off len sz n m:Nat}{cs new:List D}
  (ho:o.op=.call { callee:=.builtin .copy,args:=args,argTypes:=S }) (ht:S[0]? = some t) (a9:args[0]? = some s) (bc:args[1]? = some x)
  (hu:P.underlying t=some (.slice e)) (W:bH P e=some aA) (X:aA≠0) (hs:bO s=some os) (hx:bO x=some ox)
  (av:os.ev env=.sl b off len aA sz) (hr:nl U b sz=some cs) (hm:Fc U (ox.ev env)=some m) (hn:n=min m len) (A:Sl U aA n (ox.ev env)=some new) (bd:off+len * aA<=sz) :
  dj P (execOp a.eval o) U M Fz w (U.set b (.cells (put cs off new))) (.c (.lit (.int .i64 n))):=by
 have L:=mf E hx;have Y:=mf E hs;rw[av] at Y;obtain ⟨z,l,Z⟩:=pV L hm;rcases Y.oj hr with ⟨ax,e2,e3,e4,e5⟩ | ⟨c,o',a0,g,T,hM,ax,be,a6,hh,a7,_⟩
 ·subst e2 e3 e4 e5;obtain rfl:n=0:=by omega
  obtain ⟨hb,_⟩:=KI hr;obtain ⟨k,p,f,q⟩:=Tb (P:=P) R L X A;rw[Z] at p;obtain rfl:new=[]:=VD (by omega);have ad:U.set b (.cells (put [] 0 []))=U:=by
   apply Rg;intro i;rw[yBu];split
   ·rename_i hi;subst hi;split
    ·exact hb.symm
    grind
   ·rfl
  rw[ad];have N:(args.map a.eval)[0]? = some (.slice none 0 0):=by grind
  have O:(args.map a.eval)[1]? = some (.slice z m l):=by grind
  have hl:(Builtin.lenOf (.slice z m l)).run P w=.ok m w:=rfl;have r:Nat.min m 0=0:=hn.symm;refine dj.same R (v:=.int .i64 0) ?_ (.c (.lit _));simp only[execOp,ho,resolve,invoke,builtin,Builtin.copy_,ht,N,O,Sem.run_bind,Sem.run_pure,qv hu,Result.andThen_ok,hl,NU W,r,p,goInt];rfl
 obtain ⟨hb,a8⟩:=KI hr;obtain ⟨a1,T',Q,bh,a2⟩:=R.row hM hb;rw[hh] at Q;simp only[aw,Obj.cells.injEq,Qa] at Q;obtain ⟨rfl,rfl⟩:=Q;obtain ⟨k,p,f,q⟩:=Tb (P:=P) R L X A;rw[Z] at p;have a3:n * aA<=len * aA:=Sd _ (by omega);have a4:(storeCells ⟨c,o',none⟩ k.toList).run P w=.ok () (fT w c (.cells (ie g off k.toList) T (0,0))):=by
  by_cases hz:n=0
  ·have:k.toList=[]:=by
    have:k.size=0:=by rw[f.1,q,hz,yBX]
    grind
   rw[this];have F:ie g off []=g:=by grind [ie]
   rw[F,On hh];rfl
  ·have a5:o'=off:=by
    omega
   subst a5;exact eY P T c k.toList o' w g hh f.VN (by simp[f.1,q];omega)
 have af:off+new.length<=cs.length:=by omega
 have ak:(Ob.cells cs).sz<=(Ob.cells (put cs off new)).sz:=by grind [Ob.sz,V_]
 have G:∀u T1 fr,Obj.cells g T (0,0)=.cells u T1 fr->∃K,Obj.cells (ie g off k.toList) T (0,0)=.cells K T1 fr/\K.size=u.size:=by intro u T1 fr h;simp only[Obj.cells.injEq] at h;obtain ⟨rfl,rfl,rfl⟩:=h;exact ⟨_,rfl,iP (by simp[f.1,q];omega)⟩
 have EV:=bQ.vD R hM hb hh ak G;refine ⟨.value (.int .i64 n),_,_,M,?_,.inl rfl,R.vD hM hb hh ak G ?_,.c (.lit _),EV,by simp⟩
 ·have N:(args.map a.eval)[0]? = some (.slice (some ⟨c,o',none⟩) len a0):=by simp_all
  have O:(args.map a.eval)[1]? = some (.slice z m l):=by simp_all
  have hl:(Builtin.lenOf (.slice z m l)).run P w=.ok m w:=rfl;have r:Nat.min m len=n:=hn.symm;simp only[execOp,ho,resolve,invoke,builtin,Builtin.copy_,ht,N,O,Sem.run_bind,Sem.run_pure,qv hu,Result.andThen_ok,hl,NU W,r,p,a4,goInt]
 ·refine ⟨_,T,rfl,by grind [V_],λj d v h1 F=>?_⟩;rw[gW af] at h1;rw[du (by simp[f.1,q];omega)] at F;simp only[Array.length_toList,f.1] at F;split at h1
  ·rename_i y;rw[if_pos y] at F;have:=f.2 _ _ _ h1 (by simpa using F);exact ⟨this.1.mono EV,this.2⟩
  ·rename_i y;rw[if_neg y] at F;have:=a2 _ _ _ h1 F;exact ⟨this.1.mono EV,this.2⟩
theorem aaa(R:Rel U M Fz w)(E:dk U M Fz w env a.tmps){o:Oper}{t e:TypeId}{args:Array Operand}{F:Array TypeId}{x:Operand}{ox:aP}{aA b off len sz:Nat}{cs z:List D}
  (ho:o.op=.call { callee:=.builtin .clear,args:=args,argTypes:=F }) (ht:F[0]? = some t) (be:args[0]? = some x)
  (hu:P.underlying t=some (.slice e)) (hz:Nu P e=some z) (bh:aA≠0) (G:z.length=aA) (hx:bO x=some ox)
  (af:ox.ev env=.sl b off len aA sz) (hr:nl U b sz=some cs) (bi:off+len * aA<=sz) :
  dj P (execOp a.eval o) U M Fz w (U.set b (.cells (put cs off (si len z)))) (.aT []):=by
 obtain ⟨i,A,hi,ak,av⟩:=zc9 hz;have K:=DN.qq (V.de (U:=U) (M:=M) (Fz:=Fz) (w:=w) A) av;have bt:A.cells.size=aA:=by rw[K.1,G]
 have L:z≠[]:=λh=>by simp_all
 have hv:=mf E hx;rw[af] at hv;obtain ⟨hb,a7⟩:=KI hr;have same:len=0->U.set b (.cells (put cs off (si len z)))=U:=λh=>by
  subst h;have l:put cs off (si 0 z)=cs:=by simp[si,put]
  rw[l];apply Rg
  grind
 have a8:∀X g,len=0->a.eval x=.slice X len g->dj P (execOp a.eval o) U M Fz w (U.set b (.cells (put cs off (si len z)))) (.aT []):=λX g h N=>by
  rw[same h];subst h;have s:(args.map a.eval)[0]? = some (.slice X 0 g):=by simp_all
  refine dj.same R (v:=.tuple #[]) ?_ (.aT #[] rfl (λi d v h=>by simp at h));cases X <;> simp only[execOp,ho,resolve,invoke,builtin,Builtin.clear_,ht,s,Sem.run_bind,Sem.run_pure,qv hu,Result.andThen_ok]
 rcases hv.oj hr with ⟨N,e2,e3,e4,e6⟩ | ⟨c,u,g,f,T,hM,N,bu,a9,Y,bc,_⟩
 ·simp_all
 by_cases h0:len=0
 ·simp_all
 obtain ⟨m,rfl⟩:∃m,len=m+1:=⟨len-1,by omega⟩;obtain ⟨ax,T',y,bv,a0⟩:=R.row hM hb;rw[Y] at y;simp only[aw,Obj.cells.injEq,Qa] at y;obtain ⟨rfl,rfl⟩:=y;have a1:u=off:=by omega
 subst a1;obtain ⟨a2,O⟩:=zT K L (m+1) (m+1) (cT _);generalize hZ:Builtin.zeroCells A.cells (m+1)=Z;have a3:(Array.range ((m+1) * A.cells.size)).map (A.cells[· % A.cells.size]!)=Z:=hZ;rw[a3] at a2 O;have a4:Z.size=(m+1) * aA:=by grind
 have a5:(si (m+1) z).length=(m+1) * aA:=by rw[kZ,G]
 have n:DN U M Fz w (si (m+1) z) Z:=⟨by omega,O⟩;have bd:u+(m+1) * aA<=f.size:=by omega
 have a6:=eY P T c Z.toList u w f Y n.VN (by simp_all);have Q:u+(si (m+1) z).length<=cs.length:=by omega
 have S:(Ob.cells cs).sz<=(Ob.cells (put cs u (si (m+1) z))).sz:=by grind [Ob.sz,V_]
 have p:∀q T1 fr,Obj.cells f T (0,0)=.cells q T1 fr->∃r,Obj.cells (ie f u Z.toList) T (0,0)=.cells r T1 fr/\r.size=q.size:=by grind [iP]
 have EV:=bQ.vD R hM hb Y S p;refine ⟨.value (.tuple #[]),_,_,M,?_,.inl rfl,R.vD hM hb Y S p ?_,.aT #[] rfl (λi d v h=>by simp at h),EV,by simp⟩
 ·have s:(args.map a.eval)[0]? = some (.slice (some ⟨c,u,none⟩) (m+1) g):=by simp_all
  simp only[execOp,ho,resolve,invoke,builtin,Builtin.clear_,ht,s,Sem.run_bind,Sem.run_pure,qv hu,Result.andThen_ok,h_ hi ak,hZ,a6]
 ·refine ⟨_,T,rfl,by grind [V_],λj d v W l=>?_⟩;rw[gW Q] at W;rw[du (by simp_all)] at l;simp only[Array.length_toList,a4] at l;rw[a5] at W;split at W
  ·rename_i k;rw[if_pos k] at l;have:=n.2 _ _ _ W (by simpa using l);exact ⟨this.1.mono EV,this.2⟩
  ·rename_i k;rw[if_neg k] at l;have:=a0 _ _ _ W l;exact ⟨this.1.mono EV,this.2⟩
end
end Go.Abs
end
