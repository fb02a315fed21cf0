/- Lemmas. -/
import Derived.Calls
import Derived.Orders
import Derived.Laws.Sem
import Derived.Laws.World
import Derived.Laws.Cells
import Derived.Laws.Rows
import GoSem.Dispatch
import Derived.IntWalk
set_option linter.all false
open _root_ renaming Go.Addr->t8,Go.Addr.mk->qo,Array->Φ,Array.ext'->o8,Array.range->ϰ,Array.size_append->kx,Array.size_empty->B4,Array.toList_push->y9,Bool->Μ,Go.Builtin.append_->pG,Go.Builtin.firstCells->Ϗ,Go.Builtin.lenOf->rF,Go.Builtin.len_->Ϻ,Go.Builtin.nextslicecap->fm,Go.Builtin.zeroCells->ϐ,Go.Field->s8,Inhabited->ν,Go.Instr.checkKey->ra,Go.Instr.fill->q8,Go.Instr.findKey->ks,Go.Instr.keyThatStays->C6,Go.Instr.lookup->wd,Go.Instr.mapUpdate->F8,Go.Instr.sameNow->ϵ,Go.Instr.slice->o9,Go.Instr.sliceAt->rx,Go.Instr.sliceBound->Ϫ,Go.Instr.sliceBounds->Ϟ,Go.Instr.sureAddr->Ϧ,Int->Ζ,List->Β,List.length_take->B3,List.replicate_succ->t7,Go.MapEntry->ew,Go.MapEntry.born->kq,Nat->Ε,Nat.div_add_mod->C5,Nat.mul_eq_zero->C4,Go.Next->D9,Go.Obj->C3,Go.Obj.cells->Ϯ,Go.Obj.cells.injEq->Ϡ,Go.Oper->ϊ,Go.Operand->ε,Option->Δ,Option.bind_eq_some_iff->ζ,Option.bind_some->χ,Option.map_eq_some_iff->ψ,Go.Program->Ν,Go.Question.appendCap->Ϝ,Go.Result.andThen_ok->Ξ,Go.TypeDesc->ϑ,Go.TypeId->Ψ,Go.TypeInfo->ey,Go.Value->Ο,Go.World->Ρ,Go.asIntOf->vb,Go.binOp->pF,Go.eqGuard->mu,Go.execOp->Ω,Bool.false->Ι,Go.getObj->vv,Go.goInt->zb,Go.heap_alloc_new->ϯ,if_neg->Κ,if_pos->Λ,if_true->Υ,Go.isAgg->s9,Go.loadVar->uo,Option.none->Η,not_or->ϟ,Option.some->Α,Go.storeCells->Ϲ,Bool.true->Γ,Go.undef->ϛ
open Go.IntKind (i64 u64)
namespace Go
abbrev lm:=@χ
abbrev xAb:=@Β.getElem?_eq_none
abbrev xAc:=@Φ.foldl_toList
abbrev xAd:=@Β.getElem?_set_self
abbrev xAe:=@t7
abbrev xAf:=@Β.replicate_zero
abbrev xAg:=@Ζ.tdiv_eq_ediv_of_nonneg
abbrev xAh:=@Β.take_append_of_le_length
abbrev aw:=@χ
abbrev az:=@Δ.some.injEq
abbrev bH:=@decide_eq_true_eq
abbrev bG:=@Β.getElem_mem
abbrev cL:=@ψ
abbrev cf:=@Μ.false_eq_true
abbrev ba:=@Prod.mk.injEq
abbrev bS:=@Μ.and_eq_true
abbrev dt:=@ζ
abbrev dv:=@Ε.eq_of_beq_eq_true
abbrev eI:=@Β.getElem?_eq_getElem
abbrev fF:=@Β.getElem?_eq_some_iff
abbrev ft:=@Δ.bind_eq_bind
abbrev jb:=@Β.getElem_of_mem
abbrev cR:=@Ε.le_refl
abbrev sf:=@Φ.getElem?_eq_getElem
abbrev gY:=@Μ.not_eq_true'
abbrev nk:=@Β.mem_cons_of_mem
abbrev jc:=@Β.all_eq_true
abbrev gV:=@Μ.or_eq_true
abbrev nq:=@Β.getElem?_map
abbrev jI:=@Β.mem_append
abbrev cD:=@if_false
abbrev zT:=@Β.getElem?_cons_zero
abbrev HV:=@Β.take_succ_eq_append_getElem
abbrev gC:=@Β.mem_cons
abbrev pC:=@Μ.not_eq_false
abbrev rP:=@Β.mem_cons_self
abbrev EK:=@Φ.getElem?_eq_some_iff
abbrev yk:=@Β.mem_singleton
abbrev jp:=@Β.mem_map
abbrev tU:=@Β.take_length
abbrev Bx:=@Β.mem_of_getElem?
abbrev HP:=@Β.getElem?_append_left
abbrev ld:=@Ε.le_trans
abbrev yj:=@Β.append_assoc
abbrev AZ:=@Β.length_append
abbrev Eu:=@Ε.le_of_ble_eq_true
abbrev xM:=@Β.length_map
abbrev Pt:=@Β.getElem?_append_right
abbrev sv:=@Β.map_cons
abbrev Cr:=@Β.nil_append
abbrev tT:=@Ε.lt_or_ge
abbrev Lx:=@Β.take_append_drop
abbrev J_:=@Ε.mul_le_mul_right
abbrev DU:=@B3
abbrev HO:=@Ε.lt_of_lt_of_le
abbrev ot:=@beq_iff_eq
abbrev Lu:=@Β.pairwise_append
abbrev Ei:=@Β.append_nil
abbrev Ep:=@Δ.map_some
abbrev Xb:=@Β.getD_eq_getElem?_getD
abbrev OF:=@Β.mem_iff_getElem
abbrev PZ:=@Β.mem_of_mem_take
abbrev HT:=@Β.length_cons
abbrev yAT:=@Β.eq_nil_of_length_eq_zero
abbrev yAU:=@Ζ.mul_le_mul_of_nonneg_right
abbrev vi:=@Ε.blt_eq
abbrev yAW:=@Φ.getElem?_setIfInBounds
abbrev MU:=@Β.cons_append
abbrev Kk:=@Β.mem_filter
abbrev XJ:=@Φ.getElem?_toList
abbrev Nm:=@Β.not_mem_nil
abbrev yBb:=@Β.pairwise_iff_getElem
abbrev yBc:=@Φ.getD_eq_getD_getElem?
abbrev Tx:=@Β.getElem_take
abbrev XH:=@Β.length_pos_iff
abbrev yBf:=@Β.length_eq_zero_iff
abbrev UJ:=@Δ.getD_some
abbrev WU:=@Decidable.not_not
abbrev Uj:=@Β.getElem_map
abbrev Yl:=@Ε.lt_or_eq_of_le
abbrev yBk:=@decide_eq_false_iff_not
abbrev Yy:=@Β.ext_getElem?
abbrev Ic:=@Ζ.le_refl
abbrev Yj:=@Ε.lt_trichotomy
abbrev yBo:=@Φ.length_toList
abbrev QP:=@Μ.not_true
abbrev yBq:=@Β.mem_of_mem_drop
abbrev Sk:=@Μ.and_true
abbrev yBs:=@Δ.isSome_iff_exists
abbrev XY:=@Β.mapM_cons
abbrev IS:=@bne_iff_ne
abbrev yBv:=@Β.getElem?_cons_succ
abbrev Uw:=@Β.all_cons
abbrev TW:=@Ε.zero_add
abbrev yBy:=@Β.pairwise_cons
abbrev yBz:=@Β.take_of_length_le
abbrev yB0:=@Β.length_set
abbrev HU:=@false_iff
abbrev QV:=@Ε.add_mul
abbrev yB3:=@Β.getElem?_take_of_lt
abbrev yB4:=@Β.singleton_append
abbrev yB5:=@Μ.and_eq_false_iff
abbrev yB6:=@Β.perm_append_comm
abbrev Q_:=@Ε.zero_le
abbrev yB8:=@Β.getElem?_append
abbrev WR:=@Β.map_map
abbrev yBA:=@Β.drop_eq_nil_of_le
abbrev yBB:=@Ζ.toNat_natCast
abbrev yBC:=@Β.getElem_set_ne
abbrev yBD:=@Β.drop_eq_getElem_cons
abbrev yBE:=@Sigma.mk.injEq
abbrev yBF:=@Β.mem_of_find?_eq_some
abbrev yBG:=@Β.map_append
abbrev yBH:=@Β.mem_append_right
abbrev yBI:=@Β.getElem_set_self
abbrev yBJ:=@Β.length_nil
abbrev yBK:=@Β.Perm.append_left
abbrev yBL:=@Β.getElem?_of_mem
abbrev yBM:=@Β.mem_append_left
abbrev yBN:=@Ε.add_sub_cancel_left
abbrev Km:=@congrArg
abbrev yBP:=@Ε.exists_eq_add_of_le
abbrev yBQ:=@Β.getElem?_set
abbrev yBR:=@Β.flatMap_cons
abbrev yBS:=@Φ.getElem?_append_left
abbrev yBT:=@Β.getElem?_drop
abbrev yBU:=@Β.mem_iff_getElem?
abbrev yBV:=@Μ.true_and
abbrev Ni:=@or_false
abbrev yBX:=@Ζ.mul_nonneg
abbrev yBY:=@Β.Perm.refl
abbrev yBZ:=@Classical.not_and_iff_not_or_not
abbrev Nz:=@and_true
abbrev yCb:=@Go.heap_alloc_old
abbrev yCc:=@Β.getElem_append_left
abbrev yCd:=@Β.take_add_one
abbrev yCe:=@Ε.le_of_eq
abbrev yCf:=@Ζ.toNat_of_nonneg
abbrev yCg:=@Β.length_drop
abbrev yCh:=@Β.ext_getElem
abbrev yCi:=@Β.mem_range
abbrev SH:=@true_iff
abbrev yCk:=@Δ.pure_def
abbrev yCl:=@Δ.map_none
abbrev yCm:=@Β.foldl_cons
abbrev yCn:=@Ε.mul_lt_mul_of_pos_right
abbrev yCo:=@Ζ.lt_or_le
abbrev yCp:=@Β.cons.injEq
abbrev yCq:=@Β.length_singleton
abbrev yCr:=@Β.set_getElem_self
abbrev yCs:=@Β.length_filter_le
abbrev yCt:=@Ζ.le_trans
abbrev yCu:=@Β.concat_eq_append
abbrev yCv:=@Β.any_eq_false
abbrev yCw:=@Β.sum_cons
abbrev yCx:=@Β.getElem_drop
abbrev yCy:=@Β.getElem?_set_ne
abbrev yCz:=@Β.mem_or_eq_of_mem_set
abbrev yC0:=@Decidable.byContradiction
abbrev yC1:=@beq_self_eq_true
abbrev yC2:=@Μ.not_eq_true
abbrev yC3:=@Ε.zero_mul
abbrev yC4:=@Φ.getElem?_replicate
abbrev yC5:=@Ε.sub_self
abbrev yC6:=@Ε.le_of_lt
abbrev yC7:=@Ε.lt_succ_iff
abbrev yC8:=@Ε.pow_add
abbrev yC9:=@bne_self_eq_false
abbrev yCA:=@Β.drop_zero
abbrev yCB:=@Ε.mul_le_mul
abbrev yCC:=@Ε.sub_zero
abbrev yCD:=@Ε.beq_refl
abbrev yCE:=@Ε.add_assoc
abbrev yCF:=@Μ.false_or
end Go
section
namespace Go.Abs
inductive C where|lit (v:Ο)|cY (nn:Μ) (es:Β (Β C))|cM (cs:Β C) (off:Ε)|fn (f:Fn) (first cap:Β C)|Qr (es:Β (Ο×C))|Yt (g:Ε) deriving ν
inductive D where|c (x:C)|ptr (b off sz:Ε)|sl (b off len aD sz:Ε)|mp (b:Ε)|fn (f:Fn) (first cap:Β D)|agg (cs:Β D)|bj (vs:Β D)|any deriving ν
inductive Ob where|cells (cs:Β D)|map (es:Β (Ο×D×Ε)) (clock:Ε)|gone (n:Ε) deriving ν
def Ob.sz:Ob->Ε|.cells i=>i.length|.map _ _=>0|.gone n=>n
abbrev ar:=Β Ob
inductive VC (Fz:Ε->Prop) (w:Ρ):C->Ο->Prop where|lit (v:Ο):VC Fz w (.lit v) v|cY {nn:Μ} {es:Β (Β C)} (aD:Ε) (a:Δ t8) (cap:Ε) (hnn:nn=Γ->a.isSome=Γ) (hz:a=Η->cap=0) (c:Ε->Ε->Ο) (hsz:∀e∈es,e.length=aD) (hcap:es.length<=cap) (hc:∀(i j:Ε) e d,es[i]? = Α e->e[j]? = Α d->∃blk o,a=Α ⟨blk,o,Η⟩/\Fz blk/\w.cell? ⟨blk,o+i * aD+j,Η⟩=Α (c i j)/\(c i j).oneCell'=Γ) (hv:∀(i j:Ε) e d,es[i]? = Α e->e[j]? = Α d->VC Fz w d (c i j)):VC Fz w (.cY nn es) (.slice a es.length cap)|cM {cs:Β C} {off:Ε} (blk o:Ε) (c:Ε->Ο) (hF:Fz blk) (hc:∀(j:Ε) d,cs[j]? = Α d->w.cell? ⟨blk,o+j,Η⟩=Α (c j)/\(c j).oneCell'=Γ) (hv:∀(j:Ε) d,cs[j]? = Α d->VC Fz w d (c j)):VC Fz w (.cM cs off) (.pointer (Α ⟨blk,o+off,Η⟩))|fn {f:Fn} {first cap:Β C} (vs ws:Φ Ο) (h1:vs.size=first.length) (h2:ws.size=cap.length) (hv:∀(i:Ε) d v,first[i]? = Α d->vs[i]? = Α v->VC Fz w d v) (hw:∀(i:Ε) d v,cap[i]? = Α d->ws[i]? = Α v->VC Fz w d v) : VC Fz w (.fn f first cap) (.func f vs ws)|Qr {es:Β (Ο×C)} (blk clock:Ε) (arr:Φ ew) (hF:Fz blk) (hh:w.heap[blk]? = Α (.map arr clock)) (hs:arr.size=es.length) (hk:∀(i:Ε) p e,es[i]? = Α p->arr[i]? = Α e->e.key=p.1) (hv:∀(i:Ε) p e,es[i]? = Α p->arr[i]? = Α e->VC Fz w p.2 e.val):VC Fz w (.Qr es) (.map (Α blk))|Yt (g:Ε):VC Fz w (.Yt g) (.pointer (Α ⟨g,0,Η⟩))
theorem Kq{w w':Ρ}{blk o:Ε}(h:w'.heap[blk]? = w.heap[blk]?):w'.cell? ⟨blk,o,Η⟩=w.cell? ⟨blk,o,Η⟩:=by grind [Go.World.cell?]
theorem VC.mono{Fz Fz':Ε->Prop}{w w':Ρ}(Q:∀c:Ε,Fz c->Fz' c/\w'.heap[c]? = w.heap[c]?){x:C}{v:Ο}(h:VC Fz w x v):VC Fz' w' x v:=by induction h with|lit v=>exact .lit v|cY aD a cap z X c A u R E ih=>refine .cY aD a cap z X c A u (λi j e d U W=>?_) ih;grind [Kq]|cM blk o c F R E ih=>exact .cM blk o c (Q _ F).1 (λj d h=>⟨by grind [Kq],(R j d h).2⟩) ih|fn σ Z U W E hw G K=>exact .fn σ Z U W G K|Qr blk s O F hh hs hk E ih=>exact .Qr blk s O (Q _ F).1 (by simp_all) hs hk ih|Yt g=>exact .Yt g
inductive V (Y:ar) (M:Ε->Δ Ε) (Fz:Ε->Prop) (w:Ρ):D->Ο->Prop where| c {x:C} {v:Ο} (h:VC Fz w x v):V Y M Fz w (.c x) v| any (v:Ο):V Y M Fz w .any v| ptr {b off sz:Ε} (a:t8) (ob:Ob) (h:Y[b]? = Α ob) (hle:sz≤ob.sz) (hv:ob.sz=sz->∃c,M b=Α c/\a=⟨c,off,Η⟩):V Y M Fz w (.ptr b off sz) (.pointer (Α a))| sl {b off len aD sz:Ε} (a:Δ t8) (n cap:Ε) (hnn:len≠0->a≠Η) (ob:Ob) (h:Y[b]? = Α ob) (hle:sz≤ob.sz) (hv:ob.sz=sz->(a=Η/\n=0/\cap=0/\len=0/\off=0/\sz=0)\/∃c o arr T,M b=Α c/\a=Α ⟨c,o,Η⟩/\n=len/\(len≤cap/\sz≤off+cap * aD)/\(o=off\/cap=0) /\ w.heap[c]? = Α (.cells arr T (0,0))/\o+cap * aD≤arr.size/\off+len * aD≤sz):V Y M Fz w (.sl b off len aD sz) (.slice a n cap)| mp {b:Ε} (c:Ε) (ob:Ob) (h:Y[b]? = Α ob) (hv:ob.sz=0->M b=Α c):V Y M Fz w (.mp b) (.map (Α c))| fn {f:Fn} {first cap:Β D} (vs ws:Φ Ο) (h1:vs.size=first.length) (h2:ws.size=cap.length) (hv:∀(i:Ε) d v,first[i]? = Α d->vs[i]? = Α v->V Y M Fz w d v) (hw:∀(i:Ε) d v,cap[i]? = Α d->ws[i]? = Α v->V Y M Fz w d v) : V Y M Fz w (.fn f first cap) (.func f vs ws)| agg {cs:Β D} (vs:Φ Ο) (h1:vs.size=cs.length) (hv:∀(i:Ε) d v,cs[i]? = Α d->vs[i]? = Α v->V Y M Fz w d v):V Y M Fz w (.agg cs) (.agg vs)| bj {cs:Β D} (vs:Φ Ο) (h1:vs.size=cs.length) (hv:∀(i:Ε) d v,cs[i]? = Α d->vs[i]? = Α v->V Y M Fz w d v):V Y M Fz w (.bj cs) (.tuple vs)
def jW(arr:Φ ew)(b:Ε):Prop:=(arr.toList.map kq).Nodup/\∀e∈arr.toList,e.born<b
theorem jW.nil(i:Ε):jW #[] i:=⟨by simp,by simp⟩
def jW.push{arr:Φ ew}{i:Ε}(h:jW arr i)(k v:Ο):jW (arr.push { key:=k,val:=v,born:=i }) (i+1):=by refine ⟨?_,λe he=>?_⟩;{rw[y9,yBG,Β.nodup_append];refine ⟨h.1,by simp,λa j b hb=>?_⟩;obtain ⟨e,he,rfl⟩:=jp.1 j;have:=h.2 e he;grind};rw[y9,jI] at he;rcases he with he | he;{have:=h.2 e he;omega};simp_all
theorem jW.same{arr i:Φ ew}{j:Ε}(h:jW arr j)(e:i.toList.map kq=arr.toList.map kq):jW i j:=by refine ⟨by rw[e];exact h.1,λx s=>?_⟩;have:x.born∈arr.toList.map kq:=by{grind};obtain ⟨y,o,q⟩:=jp.1 this;rw[<-q];exact h.2 y o
def jW.sub{arr i:Φ ew}{j:Ε}(h:jW arr j)(e:i.toList.Sublist arr.toList):jW i j:=⟨h.1.sublist (e.map _),λx o=>h.2 x (e.subset o)⟩
def cu(Y:ar)(M:Ε->Δ Ε)(Fz:Ε->Prop)(w:Ρ):Ob->C3->Prop|.cells f,o=>∃b T,o=.cells b T (0,0)/\f.length<=b.size/\∀(i:Ε) d v,f[i]? = Α d->b[i]? = Α v->V Y M Fz w d v/\v.oneCell'=Γ|.map es _,o=>∃b,(∃g,o=.map b g/\jW b g)/\b.size=es.length/\∀(i:Ε) k d n e,es[i]? = Α (k,d,n)->b[i]? = Α e->e.key=k/\True/\V Y M Fz w d e.val|.gone _,_=>False
class Gl where
 ok:(Ε->Prop)->Ρ->Prop
 mono:∀{Fz Fz':Ε->Prop}{w w':Ρ},(∀c:Ε,Fz c->Fz' c/\w'.heap[c]? = w.heap[c]?)->ok Fz w->ok Fz' w'
 tab:Ε->Β Ο:=λ_=>[]
 tabOk:∀{Fz:Ε->Prop}{w:Ρ}(g j:Ε)(v:Ο),ok Fz w->(tab g)[j]? = Α v->Fz g/\w.cell? ⟨g,j,Η⟩=Α v/\v.oneCell'=Γ:=by intro _ _ g j v _ h;simp at h
structure Rel [Gl] (Y:ar) (M:Ε->Δ Ε) (Fz:Ε->Prop) (w:Ρ):Prop where
 blk:∀(b c:Ε),M b=Α c->¬Fz c/\∃ob o,Y[b]? = Α ob/\w.heap[c]? = Α o/\cu Y M Fz w ob o
 inj:∀b b' c,M b=Α c->M b'=Α c->b=b'
 fz:∀c,Fz c->c<w.heap.size
 gl:Gl.ok Fz w
structure bP (Y:ar) (M:Ε->Δ Ε) (Fz:Ε->Prop) (w:Ρ) (Y':ar) (M':Ε->Δ Ε) (Fz':Ε->Prop) (w':Ρ):Prop where
 size:w.heap.size<=w'.heap.size
 frame:∀c:Ε,c<w.heap.size->(∀b,M b≠Α c)->w'.heap[c]? = w.heap[c]?
 mA:∀b c,M' b=Α c->(∃b0,M b0=Α c)\/w.heap.size<=c
 fz:∀c:Ε,Fz c->Fz' c/\w'.heap[c]? = w.heap[c]?
 oW:∀c,Fz' c->Fz c\/(∃b,M b=Α c)\/w.heap.size<=c
 ru:∀(c:Ε) arr T fr,w.heap[c]? = Α (.cells arr T fr)->∃arr',w'.heap[c]? = Α (.cells arr' T fr)/\arr'.size=arr.size
 keep:∀(b:Ε) ob,Y[b]? = Α ob->∃ob',Y'[b]? = Α ob'/\ob.sz<=ob'.sz/\(ob'.sz=ob.sz->M' b=M b)
 out:w'.os=w.os/\w'.tape=w.tape/\w'.output=w.output
section
variable{Y Y' Y'':ar}{M M' M'':Ε->Δ Ε}{Fz Fz' Fz'':Ε->Prop}{w w' w'':Ρ}
theorem V.mono(E:bP Y M Fz w Y' M' Fz' w'){d:D}{v:Ο}(h:V Y M Fz w d v):V Y' M' Fz' w' d v:=by induction h with|c h=>exact .c (h.mono E.fz)|any v=>exact .any v|ptr a Q h A j=>obtain ⟨i,u,hs,hk⟩:=E.keep _ _ h;refine .ptr a i u (by omega) (λR=>?_);grind|sl a n cap F Q h A j=>obtain ⟨i,u,hs,hk⟩:=E.keep _ _ h;refine .sl a n cap F i u (by omega) (λR=>?_);rcases j (by omega) with ⟨s,U,h3,h4,h5,h6⟩ | ⟨c,o,W,T,hM,X,σ,hl,Z,hh,hb,hz⟩;{simp_all};obtain ⟨x,G,aa⟩:=E.ru _ _ _ _ hh;exact .inr ⟨c,o,x,T,by grind,X,σ,hl,Z,G,by omega,hz⟩|mp c Q h j=>obtain ⟨i,u,hs,hk⟩:=E.keep _ _ h;exact .mp c i u (λR=>by simp_all)|fn z ws s U j hw K O=>exact .fn z ws s U K O|agg z s j ih=>exact .agg z s ih|bj z s j ih=>exact .bj z s ih
variable[Gl] in
theorem bP.refl(R:Rel Y M Fz w):bP Y M Fz w Y M Fz w:={
 size:=cR _
 frame:=λ_ _ _=>rfl
 mA:=λb c h=>.inl ⟨b,h⟩
 fz:=λc h=>⟨h,rfl⟩
 oW:=λc h=>.inl h
 ru:=λc i T o h=>⟨i,h,rfl⟩
 keep:=λb j h=>⟨j,h,cR _,λ_=>rfl⟩
 out:=⟨rfl,rfl,rfl⟩ }
def bP.trans(A:bP Y M Fz w Y' M' Fz' w')(B:bP Y' M' Fz' w' Y'' M'' Fz'' w'')(hl:Y.length<=Y'.length):bP Y M Fz w Y'' M'' Fz'' w'':={size:=ld A.size B.size,frame:=λc s x=>by rw[<-A.frame c s x];refine B.frame c (HO s A.size) (λb hb=>?_);rcases A.mA b c hb with ⟨j,i⟩ | i;{simp_all};omega,mA:=λb c h=>by rcases B.mA b c h with ⟨j,i⟩ | i;{exact A.mA j c i};exact .inr (ld A.size i),fz:=λc h=>by obtain ⟨h1,h2⟩:=A.fz c h;obtain ⟨G,K⟩:=B.fz c h1;simp_all,oW:=λc h=>by rcases B.oW c h with h | ⟨b,h⟩ | h;{exact A.oW c h};{rcases A.mA b c h with ⟨j,i⟩ | i;{grind};omega};exact .inr (.inr (ld A.size h)),ru:=λc o T u h=>by obtain ⟨z,h1,O⟩:=A.ru c o T u h;obtain ⟨Q,h2,R⟩:=B.ru c z T u h1;simp_all,keep:=λb E h=>by obtain ⟨F,h1,s1,U⟩:=A.keep b E h;obtain ⟨W,h2,s2,X⟩:=B.keep b F h1;grind,out:=⟨B.out.1.trans A.out.1,B.out.2.1.trans A.out.2.1,B.out.2.2.trans A.out.2.2⟩ }
theorem cu.mono(E:bP Y M Fz w Y' M' Fz' w'){ob:Ob}{o:C3}(h:cu Y M Fz w ob o):cu Y' M' Fz' w' ob o:=by cases ob with|cells F=>obtain ⟨j,T,z,hl,s⟩:=h;exact ⟨j,T,z,hl,λi d v u x=>⟨(s i d v u x).1.mono E,(s i d v u x).2⟩⟩|map G A=>obtain ⟨j,z,hl,s⟩:=h;exact ⟨j,z,hl,λi k d n e u x=>let ⟨a,b,c⟩:=s i k d n e u x;⟨a,b,c.mono E⟩⟩|gone n=>exact h.elim
end
end Go.Abs
end
section
namespace Go.Abs
variable[Gl]
def fN{α:Type}(P:Ν):Sem α->Δ α|.pure a=>Α a|.program k=>fN P (k P)|_=>Η
theorem SE{α:Type}{P:Ν}{s:Sem α}{a:α}(w:Ρ)(h:fN P s=Α a):s.run P w=.ok a w:=by induction s with|pure b=>simp only[fN,az] at h;simp_all|program k ih=>simp only[fN] at h;exact ih P h|_=>grind [fN]
inductive aY where|t (n:Ε)|k (d:D) deriving ν
def dV:Ο->D|.agg b=>.agg (b.toList.map λv=>.c (.lit v))|.tuple b=>.bj (b.toList.map λv=>.c (.lit v))|v=>.c (.lit v)
def aY.ev(env:Β D):aY->D|.t n=>(env[n]?).getD (.bj [])|.k d=>d
def cA:ε->Δ aY|.tmp t=>Α (.t t)|.const v=>Α (.k (dV v))|.func f=>Α (.k (.c (.fn (.func f) [] [])))|.global g=>Α (.k (.c (.Yt g)))
def lS:D->Δ Ο|.c (.lit v)=>Α v|_=>Η
def D.dm:D->Δ Ο|.c (.lit v)=>Α v|.agg ds=>(ds.mapM lS).map λl=>.agg l.toArray|_=>Η
def D.scalar:D->Μ|.c (.lit v)=>v.oneCell'|.c _ | .ptr .. | .sl .. | .mp _ | .fn ..=>Γ|_=>Ι
def D.cells?:D->Δ (Β D)|.agg i=>if i.all D.scalar then Α i else Η|d=>if d.scalar then Α [d] else Η
inductive lY where|CG (x:aY)|pick (c a b:aY)|gen (op:Op) (ty:Ψ)|box (x:aY)|alloc (z:Β D)|build (z:Β D) (parts:Β (Ε×Ε×aY))|jB (aD len:Ε) (z:Β D) (parts:Β (Ε×Ε×aY))|load (n:Δ Ε) (a:aY)|store (n:Ε) (a x:aY)|oE (x:aY)|jA (k:Ε) (neg:Μ) (x:aY)|Kx (off:Ε) (x:aY)|idx (aD:Ε) (arr:Δ Ε) (x i:aY)|Yz (aD:Ε) (x:aY) (lo hi:Δ aY)|len (x:aY)|lenm (x:aY)|mk (aD bytes:Ε) (z:Β D) (l c:aY)|v_|lookup (kind:ϑ) (zero:D) (m k:aY) (ok:Μ)|AV (kind:ϑ) (m k x:aY)|extract (x:aY) (i:Ε)|Gy (f:Fn) (first cap:Β aY)|part (off:Ε) (n:Δ Ε) (x:aY)|EA (aD len:Ε) (n:Δ Ε) (x i:aY)|append (aD bytes:Ε) (s x:aY)|copy (aD:Ε) (d s:aY)|del (kind:ϑ) (m k:aY)|Xc (aD:Ε) (x lo hi mx:aY)|Hn (n:Ε) (x:aY)|clr (aD:Ε) (z:Β D) (x:aY)|call (f:aY) (args:Β aY) deriving ν
def Mg(xs:Φ ε):Δ (Β aY):=xs.toList.mapM cA
def ID:Δ ε->Δ (Δ aY)|Η=>Α Η|Α x=>(cA x).map Α
def Gs(P:Ν)(t:Ψ):Δ (Δ Ε):=match P.info? t,P.underlying t with|Α i,Α (.struct _)=>Α (Α i.size)|Α i,Α (.array _ _)=>Α (Α i.size)|Α _,Α _=>Α Η|_,_=>Η
def zeroOf(P:Ν)(t:Ψ):Δ D:=match P.info? t with|Α i=>i.zero.map dV|Η=>Η
def EM:D->D|.c (.lit (.slice Η 0 0))=>.c (.cY Ι [])|d=>d
def Ys(P:Ν)(t:Ψ):Δ (Β D):=(zeroOf P t).bind D.cells?
def b_(P:Ν)(t:Ψ):Δ Ε:=(P.info? t).map (·.size)
def Ld(P:Ν)(b:Φ s8):Δ (Β (Ε×Ε)):=b.toList.mapM λf=>(b_ P f.type).map λn=>(f.offset,n)
def Cd:ϑ->Δ Ε|.pointer _=>Α 0|.map _ _=>Α 1|.func ..=>Α 2|.slice _=>Α 3|_=>Η
def tL(k:Ε):ε->Μ|.const (.pointer Η)=>k == 0|.const (.map Η)=>k == 1|.const .nilFunc=>k == 2|.const (.slice Η 0 0)=>k == 3|_=>Ι
def xG(k:Ε)(neg:Μ)(x y:ε):Δ lY:=if tL k y then (cA x).map (.jA k neg) else if tL k x then (cA y).map (.jA k neg) else Η
def isNil:Ε->D->Δ Μ|0,.ptr ..=>Α Ι|0,.c (.cM ..)=>Α Ι|0,.c (.lit (.pointer Η))=>Α Γ|1,.mp _=>Α Ι|1,.c (.Qr _)=>Α Ι|1,.c (.lit (.map Η))=>Α Γ|2,.fn ..=>Α Ι|2,.c (.fn ..)=>Α Ι|2,.c (.lit .nilFunc)=>Α Γ|3,.sl _ _ (_+1) _ _=>Α Ι|3,.c (.cY Γ _)=>Α Ι|3,.c (.lit (.slice Η 0 0))=>Α Γ|_,_=>Η
def gH:ϑ->Μ|.int _=>Γ|_=>Ι
def mR(P:Ν)(op:Op)(ty:Ψ):Δ lY:=
 match op with
 |.move x | .assign x=>(cA x).map .CG
 |.pick c a b=>do Α (.pick (<-cA c) (<-cA a) (<-cA b))
 |.alloc t=>(Ys P t).map .alloc
 |.box _ x=>(cA x).map .box
 |.build t d => do
  let z <-Ys P t
  match <-P.underlying t with
  |.struct g => do
   let ps <-Ld P g
   Α (.build z (<-d.toList.mapM λ(i,x)=>do let (o,n) <-ps[i]?;Α (o,n,<-cA x)))
  |.array _ e => do
   let n <-b_ P e
   Α (.build z (<-d.toList.mapM λ(i,x)=>do Α (i * n,n,<-cA x)))
  |_=>Η
 |.buildSlice t len d => do
  match <-P.underlying t with
  |.slice e => do
   let n <-b_ P e
   let z <-Ys P e
   if n=0\/z.length≠n\/len * n > 2 ^ 20 then Η else
   Α (.jB n len z (<-d.toList.mapM λ(i,x)=>do Α (i * n,n,<-cA x)))
  |_=>Η
 |.load t a=>do Α (.load (<-Gs P t) (<-cA a))
 |.store t a x=>do Α (.store (<-b_ P t) (<-cA a) (<-cA x))
 |.nilCheck x=>(cA x).map .oE
 |.binOp o t x y _=>
  match (P.underlying t).bind Cd with
  |Α k=>
   match o with
   |.eql=>xG k Ι x y
   |.neq=>xG k Γ x y
   |_=>Η
  |Η=>Α (.gen op ty)
 |.unOp ..=>Α (.gen op ty)
 |.convert ..=>Α (.gen op ty)
 |.makeFunc f first cap=>do Α (.Gy f (<-Mg first) (<-Mg cap))
 |.makeMap _ Η=>Α .v_
 |.makeSlice t l c => do
  match <-P.underlying t with
  |.slice e => do
   let n <-b_ P e
   let z <-Ys P e
   let i <-P.info? e
   if n=0\/z.length≠n then Η else Α (.mk n i.bytes (z.map EM) (<-cA l) (<-cA c))
  |_=>Η
 |.slice t x j hi Η => do
  match <-P.underlying t with
  |.slice e=>do Α (.Yz (<-b_ P e) (<-cA x) (<-ID j) (<-ID hi))
  |.string=>Α (.gen op ty)
  |.array m e => match j, hi with
   |Η, Η => do
    let k <-b_ P e
    let q <-cA x
    if k=1 then Α (.Hn m q) else Η
   |_,_=>Η
  |_=>Η
 |.slice t x (Α j) (Α hi) (Α r) => do
  match <-P.underlying t with
  |.slice e=>do Α (.Xc (<-b_ P e) (<-cA x) (<-cA j) (<-cA hi) (<-cA r))
  |_=>Η
 |.fieldAddr s x f => do
  match <-P.underlying s with
  |.struct g => do
   let fd <-g[f]?
   let n <-b_ P fd.type
   if n=0 then Η else Α (.Kx fd.offset (<-cA x))
  |_=>Η
 |.field t x f => do
  match <-P.underlying t with
  |.struct g => do
   let fd <-g[f]?
   Α (.part fd.offset (<-Gs P fd.type) (<-cA x))
  |_=>Η
 |.indexAddr t x i => do
  match <-P.underlying t with
  |.slice e => do
   let n <-b_ P e
   if n=0 then Η else Α (.idx n Η (<-cA x) (<-cA i))
  |.array len e => do
   let n <-b_ P e
   if n=0 then Η else Α (.idx n (Α len) (<-cA x) (<-cA i))
  |_=>Η
 |.index t x i => do
  match <-P.underlying t with
  |.array len e=>do Α (.EA (<-b_ P e) len (<-Gs P e) (<-cA x) (<-cA i))
  |.string=>Α (.gen op ty)
  |_=>Η
 |.lookup t m k ok => do
  match <-P.underlying t with
  |.map p e => do
   let h <-P.underlying p
   if gH h then Α (.lookup h (<-zeroOf P e) (<-cA m) (<-cA k) ok) else Η
  |_=>Η
 |.mapUpdate t m k x | .insert t m k x => do
  match <-P.underlying t with
  |.map p _ => do
   let h <-P.underlying p
   if gH h then Α (.AV h (<-cA m) (<-cA k) (<-cA x)) else Η
  |_=>Η
 |.extract x i=>do Α (.extract (<-cA x) i)
 |.call { callee:=.value f,args,.. }=>do Α (.call (<-cA f) (<-Mg args))
 |.call { callee := .builtin .len, args, argTypes } => do
  let t <-argTypes[0]?
  let x <-args[0]?
  if args.size≠1 then Η else
  match <-P.underlying t with
  |.slice _=>(cA x).map .len
  |.map _ _=>(cA x).map .lenm
  |.array n _=>Α (.CG (.k (.c (.lit (.int .i64 n)))))
  |.string=>Α (.gen op ty)
  |_=>Η
 |.call { callee := .builtin .append, args, argTypes } => do
  let t <-argTypes[0]?
  let t1 <-argTypes[1]?
  let s <-args[0]?
  let x <-args[1]?
  match <-P.underlying t,<-P.underlying t1 with
  |.slice e, .slice _ => do
   let n <-b_ P e
   let i <-P.info? e
   let z <-Ys P e
   if n=0\/z.length≠n then Η else Α (.append n i.bytes (<-cA s) (<-cA x))
  |_,_=>Η
 |.call { callee:=.builtin .min,.. } | .call { callee:=.builtin .max,.. } | .call { callee:=.builtin .complex,.. }
 |.call { callee:=.builtin .real,.. } | .call { callee:=.builtin .imag,.. }=>Α (.gen op ty)
 |_=>Η
def CK:lY->Μ|.call ..=>Γ|_=>Ι
def isSel:lY->Μ|.gen (.select ..) _=>Γ|_=>Ι
def cat:lY->Ε|.CG .. | .pick .. | .gen .. | .build .. | .oE .. | .jA .. | .Kx .. | .idx .. | .Yz .. | .Xc .. | .Hn .. | .len .. | .extract .. | .Gy .. | .part .. | .EA ..=>0|.load ..=>1|.alloc .. | .box .. | .jB .. | .mk .. | .v_=>2|_=>3
def comp(P:Ν)(op:Op)(ty:Ψ):Δ lY:=match op with|.call { callee := .value f, args, .. }=>(match cA f,Mg args with|Α of,Α os=>Α (.call of os)|_,_=>Η)|_=>match mR P op ty with|Α b=>if CK b || isSel b then Η else Α b|Η=>Η
abbrev yy:=FuncId->Β D->ar->Δ (D×ar×Β Ε)
def vj:D->Δ Ζ|.c (.lit (.int _ n))=>Α n|_=>Η
def iu:D->Δ Μ|.c (.lit (.bool b))=>Α b|_=>Η
def pV(P:Ν)(op:Op)(ty:Ψ)(env:Β D):Δ D:=if op.operands.toList.all (λx=>(((cA x).map (aY.ev env)).bind D.dm).isSome) then match fN P (Ω (λx=>((((cA x).map (aY.ev env)).bind D.dm).getD ϛ)) { dst:=Η,op:=op,type:=ty,pos:="",after:=#[],guard:=Η }) with|Α (.value v)=>Α (dV v)|_=>Η else Η
def put(cs:Β D)(off:Ε)(xs:Β D):Β D:=cs.take off++xs++cs.drop (off+xs.length)
def rK(env:Β D):Β D->Β (Ε×Ε×aY)->Δ (Β D)
 |b,[]=>Α b
 |b, (o, n, x) :: rest => do
  let xs <-(x.ev env).cells?
  if xs.length≠n\/o+n > b.length then Η else rK env (put b o xs) rest
def pJ(Y:ar)(b sz:Ε):Δ (Β D):=match Y[b]? with|Α (.cells d)=>if d.length=sz then Α d else Η|_=>Η
def wU(n:Δ Ε)(cs:Β D)(off:Ε):Δ D:=match n with|Η=>cs[off]?|Α n=>if off+n<=cs.length then Α (.agg ((cs.drop off).take n)) else Η
def dU(n:Ε)(z:Β D):Β D:=(Β.replicate n z).flatten
def Nn(Y:ar):D->Δ Ε|.c (.lit (.slice Η 0 0))=>Α 0|.c (.cY _ es)=>Α es.length|.sl b _ len _ sz=>if (pJ Y b sz).isSome then Α len else Η|_=>Η
def zee(Y:ar)(aD:Ε)(n:Ε):D->Δ (Β D)
 |.c (.lit (.slice Η 0 0))=>if n=0 then Α [] else Η
 |.c (.cY _ d)=>if n<=d.length/\d.all (λe=>e.length=aD) then Α ((d.take n).flatten.map .c) else Η
 |.sl b off len d sz => do
  let f <-pJ Y b sz
  if d=aD/\n<=len/\off+len * aD<=sz then Α ((f.drop off).take (n * aD)) else Η
 |_=>Η
def zG(kind:ϑ)(k:Ο):Β (Ο×D×Ε)->Ε->Δ (Δ (Ε×D))|[],_=>Α Η|(b, d, _) :: es, i=>match ϵ kind k b with|Α Γ=>Α (Α (i,d))|Α Ι=>zG kind k es (i+1)|Η=>Η
def JW(Y:ar):D->Δ (Β (Ο×D×Ε))|.c (.lit (.map Η))=>Α []|.c (.Qr es)=>Α (es.map λp=>(p.1,.c p.2,0))|.mp b => (match Y[b]? with|Α (.map es _)=>Α es|_=>Η)|_=>Η
def QU(zero:D):Δ (Ε×D)->D×Μ|Α (_,d)=>(d,Γ)|Η=>(zero,Ι)
def Ec(i:Ζ)(n:Ε):Δ Ε:=if 0<=i/\i<n then Α i.toNat else Η
def Vl(i:Ζ)(n:Ε):Δ Ε:=if 0<=i/\i<=n then Α i.toNat else Η
def pW(env:Β D)(b d:Ε):Δ aY->Δ Ε|Η=>Α b|Α x=>(vj (x.ev env)).bind λi=>Vl i d
def HK(n b:Ε):Μ:=(n * b<=2 ^ 40&&n<=2 ^ 40)&&b<=2 ^ 20
def bD(P:Ν)(orc:yy)(o:lY)(env:Β D)(Y:ar):Δ (D×ar×Β Ε):=
 match o with
 |.CG x=>Α (x.ev env,Y,[])
 |.pick c a b=>(iu (c.ev env)).map λt=>(if t then a.ev env else b.ev env,Y,[])
 |.gen op ty=>(pV P op ty env).map λd=>(d,Y,[])
 |.box x=>((x.ev env).cells?).map λj=>(.ptr Y.length 0 j.length,Y++[.cells j],[])
 |.alloc z=>Α (.ptr Y.length 0 z.length,Y++[.cells z],[])
 |.build z E=>(rK env z E).map λj=>(.agg j,Y,[])
 |.jB aD len z E=>(rK env (dU len z) E).map λj=>(.sl Y.length 0 len aD j.length,Y++[.cells j],[])
 |.load n a=>
  match a.ev env with
  |.ptr b off sz=>do Α (<-wU n (<-pJ Y b sz) off,Y,[])
  |.c (.cM j off)=>do Α (<-wU n (j.map .c) off,Y,[])
  |_=>Η
 |.store n a x=>
  match a.ev env with
  |.ptr b off sz => do
   let j <-pJ Y b sz
   let xs <-(x.ev env).cells?
   if xs.length=n/\off+n<=sz then Α (.bj [],Y.set b (.cells (put j off xs)),[b]) else Η
  |_=>Η
 |.oE x=>
  match x.ev env with
  |.ptr b off sz=>Α (.ptr b off sz,Y,[])
  |.c (.cM j off)=>Α (.c (.cM j off),Y,[])
  |.c (.fn (.func f) first cap)=>Α (.c (.fn (.func f) first cap),Y,[])
  |.fn (.func f) first cap=>Α (.fn (.func f) first cap,Y,[])
  |_=>Η
 |.jA k F x=>(isNil k (x.ev env)).map λb=>(.c (.lit (.bool (if F then !b else b))),Y,[])
 |.Kx off x=>
  match x.ev env with
  |.ptr b o sz=>Α (.ptr b (o+off) sz,Y,[])
  |.c (.cM j o)=>Α (.c (.cM j (o+off)),Y,[])
  |_=>Η
 |.idx aD Η x i => do
  let i <-vj (i.ev env)
  match x.ev env with
  |.sl b off len p sz => do
   let _ <-pJ Y b sz
   let k <-Ec i len
   if p=aD then Α (.ptr b (off+k * aD) sz,Y,[]) else Η
  |.c (.cY _ p) => do
   let k <-Ec i p.length
   let e <-p[k]?
   if e.length=aD then Α (.c (.cM e 0),Y,[]) else Η
  |_=>Η
 |.idx aD (Α len) x i => do
  let i <-vj (i.ev env)
  let k <-Ec i len
  match x.ev env with
  |.ptr b off sz=>Α (.ptr b (off+k * aD) sz,Y,[])
  |.c (.cM j off)=>Α (.c (.cM j (off+k * aD)),Y,[])
  |.c (.Yt g) => match Gl.tab g with
   |[]=>Η
   |v::K=>Α (.c (.cM ((v::K).map .lit) (k * aD)),Y,[])
  |_=>Η
 |.Yz aD x y hi=>
  match x.ev env with
  |.c (.lit (.slice Η 0 0)) => do
   let h <-pW env 0 0 hi
   let _ <-pW env 0 h y
   Α (.c (.lit (.slice Η 0 0)),Y,[])
  |.c (.cY nn p) => do
   let h <-pW env p.length p.length hi
   let l <-pW env 0 h y
   if p.all (λe=>e.length=aD) then Α (.c (.cY nn ((p.take h).drop l)),Y,[]) else Η
  |.sl b off len p sz => do
   let _ <-pJ Y b sz
   let h <-(pW env len len hi).orElse λ_=>pW env len ((sz-off) / p) hi
   let l <-pW env 0 h y
   if p=aD then Α (.sl b (off+l * aD) (h-l) aD sz,Y,[]) else Η
  |_=>Η
 |.len x=>(Nn Y (x.ev env)).map λ(n:Ε)=>(.c (.lit (.int .i64 (Ζ.ofNat n))),Y,[])
 |.lenm x=>(JW Y (x.ev env)).map λp=>(.c (.lit (.int .i64 (Ζ.ofNat p.length))),Y,[])
 |.mk aD q z l c => do
  let l <-vj (l.ev env)
  let c <-vj (c.ev env)
  if 0<=l/\l<=c/\HK c.toNat q then Α (.sl Y.length 0 l.toNat aD (l.toNat * aD),Y++[.cells (dU l.toNat z)],[]) else Η
 |.v_=>Α (.mp Y.length,Y++[.map [] 0],[])
 |.lookup u zero m k ok => do
  let A <-lS (k.ev env)
  let p <-JW Y (m.ev env)
  let r <-zG u A p 0
  Α (if ok then .bj [(QU zero r).1,.c (.lit (.bool (QU zero r).2))] else (QU zero r).1,Y,[])
 |.AV u m k x => do
  let A <-lS (k.ev env)
  match m.ev env with
  |.mp b => match Y[b]? with
   |Α (.map p clock) => do
    match <-zG u A p 0 with
    |Α (i,_)=>Α (.bj [],Y.set b (.map (p.modify i λ(k,_,n)=>(k,x.ev env,n)) clock),[b])
    |Η=>Α (.bj [],Y.set b (.map (p++[(A,x.ev env,clock)]) (clock+1)),[b])
   |_=>Η
  |_=>Η
 |.extract x i=>
  match x.ev env with
  |.bj ds=>(ds[i]?).map λd=>(d,Y,[])
  |_=>Η
 |.Gy f first cap=>Α (.fn f (first.map (aY.ev env)) (cap.map (aY.ev env)),Y,[])
 |.part off n x=>
  match x.ev env with
  |.agg j=>(wU n j off).map λd=>(d,Y,[])
  |_=>Η
 |.EA aD len n x i => do
  let i <-vj (i.ev env)
  let k <-Ec i len
  match x.ev env with
  |.agg j=>(wU n j (k * aD)).map λd=>(d,Y,[])
  |_=>Η
 |.append aD q s x => do
  let G:=x.ev env
  let n <-Nn Y G
  let new <-zee Y aD n G
  match s.ev env with
  |.c (.lit (.slice Η 0 0))=>if HK n q then Α (.sl Y.length 0 n aD (n * aD),Y++[.cells new],[]) else Η
  |.sl b off len p sz => do
   let j <-pJ Y b sz
   if p=aD/\off=0/\len * aD=sz/\HK (len+n) q then
    if n=0 then Α (.sl b 0 len aD sz,Y,[b])
    else Α (.sl b 0 (len+n) aD (sz+n * aD),Y.set b (.cells (j++new)),[b])
   else if p=aD/\off=0/\(len+n) * aD<=sz/\HK (len+n) q then
    if n=0 then Α (.sl b 0 len aD sz,Y,[b])
    else Α (.sl b 0 (len+n) aD sz,Y.set b (.cells (put j (len * aD) new)),[b])
   else Η
  |_=>Η
 |.Hn m x=>
  match x.ev env with
  |.c (.cM j off)=>if off+m<=j.length then Α (.c (.cY Ι (((j.drop off).take m).map λc=>[c])),Y,[]) else Η
  |_=>Η
 |.Xc aD x y hi L=>
  match x.ev env with
  |.sl b _ len p sz => do
   let _ <-pJ Y b sz
   let m <-(vj (L.ev env)).bind λi=>Vl i len
   let h <-(vj (hi.ev env)).bind λi=>Vl i len
   let _ <-(vj (y.ev env)).bind λi=>Vl i h
   if m=len/\p=aD then Α (.any,Y,[]) else Η
  |_=>Η
 |.del .. | .clr .. | .copy ..=>Η
 |.call f args=>
  match f.ev env with
  |.c (.fn (.func g) first cap)=>orc g (first.map .c++args.map (aY.ev env)++cap.map .c) Y
  |.fn (.func g) first cap=>orc g (first++args.map (aY.ev env)++cap) Y
  |_=>Η
section
variable{Y Y':ar}{M M':Ε->Δ Ε}{Fz Fz':Ε->Prop}{w w':Ρ}
def Rel.lt(R:Rel Y M Fz w){b c:Ε}(h:M b=Α c):b<Y.length/\c<w.heap.size:=by obtain ⟨_,i,o,j,s,_⟩:=R.blk b c h;grind
theorem Rel.fresh(R:Rel Y M Fz w){b:Ε}(h:Y.length<=b):M b=Η:=by cases i:M b with|none=>rfl|some c=>have:=(R.lt i).1;omega
def VC.heap(i:w'.heap=w.heap){x:C}{v:Ο}(h:VC Fz w x v):VC Fz w' x v:=h.mono λc j=>⟨j,by rw[i]⟩
def bP.heap(R:Rel Y M Fz w)(j:w'.heap=w.heap)(o:w'.os=w.os/\w'.tape=w.tape/\w'.output=w.output):bP Y M Fz w Y M Fz w':={size:=by simp_all,frame:=λ_ _ _=>by rw[j],mA:=λb c h=>.inl ⟨b,h⟩,fz:=λc h=>⟨h,by rw[j]⟩,oW:=λc h=>.inl h,ru:=λc i T u h=>⟨i,by simp_all,rfl⟩,keep:=λb s h=>⟨s,h,cR _,λ_=>rfl⟩,out:=o }
def Rel.heap(R:Rel Y M Fz w)(i:w'.heap=w.heap)(j:w'.os=w.os/\w'.tape=w.tape/\w'.output=w.output):Rel Y M Fz w':={blk:=λb c h=>by obtain ⟨s,ob,o,h1,h2,u⟩:=R.blk b c h;exact ⟨s,ob,o,h1,by simp_all,u.mono (bP.heap R i j)⟩,inj:=R.inj,fz:=λc h=>by rw[i];exact R.fz c h,gl:=Gl.mono (bP.heap R i j).fz R.gl }
def yG(M:Ε->Δ Ε)(b c:Ε):Ε->Δ Ε:=λx=>if x=b then Α c else M x
theorem bP.alloc(i:∀c,Fz c->c<w.heap.size)(ob:Ob)(o:C3):bP Y M Fz w (Y++[ob]) (yG M Y.length w.heap.size) Fz (w.alloc o):={size:=by simp,frame:=λc u _=>yCb w o c u,mA:=λb c h=>by grind [yG],fz:=λc h=>⟨h,yCb w o c (i c h)⟩,oW:=λc h=>.inl h,ru:=λc j T x h=>⟨j,by grind [Go.heap_alloc_old],rfl⟩,keep:=λb s h=>by have hb:=(fF.1 h).1;refine ⟨s,by grind,cR _,λ_=>?_⟩;unfold yG;grind,out:=⟨rfl,rfl,rfl⟩ }
theorem Rel.alloc(R:Rel Y M Fz w)(ob:Ob)(o:C3)(h:cu (Y++[ob]) (yG M Y.length w.heap.size) Fz (w.alloc o) ob o) : Rel (Y++[ob]) (yG M Y.length w.heap.size) Fz (w.alloc o):={blk:=λb c i=>by unfold yG at i;split at i;{rename_i hb;subst hb;simp only[az] at i;subst i;exact ⟨λs=>by have:=R.fz _ s;omega,ob,o,by simp,ϯ w o,h⟩};obtain ⟨s,u,x,h1,h2,z⟩:=R.blk b c i;have hl:=R.lt i;exact ⟨s,u,x,by grind,by grind [Go.heap_alloc_old],z.mono (bP.alloc R.fz ob o)⟩,inj:=λb A c h j=>by unfold yG at h j;split at h <;> split at j;{omega};{simp only[az] at h;have:=(R.lt j).2;omega};{simp only[az] at j;have:=(R.lt h).2;omega};exact R.inj b A c h j,fz:=λc h=>by have:=R.fz c h;simp;omega,gl:=Gl.mono (bP.alloc (Y:=Y) (M:=M) R.fz ob o).fz R.gl }
def c_(w:Ρ)(c:Ε)(o:C3):Ρ:={ w with heap:=w.heap.setIfInBounds c o }
theorem fq{c:Ε}{o:C3}(h:c<w.heap.size):(c_ w c o).heap[c]? = Α o:=by simp[c_,h]
theorem gB{c k:Ε}{o:C3}(h:k≠c):(c_ w c o).heap[k]? = w.heap[k]?:=by grind [c_]
@[simp] theorem setO_size{c:Ε}{o:C3}:(c_ w c o).heap.size=w.heap.size:=by simp[c_]
theorem bP.AV(R:Rel Y M Fz w){b c:Ε}(x:M b=Α c){ob ob':Ob}{o o':C3}(hb:Y[b]? = Α ob)(A:w.heap[c]? = Α o)(hs:ob.sz<=ob'.sz) (s:∀arr T j,o=.cells arr T j->∃i,o'=.cells i T j/\i.size=arr.size):bP Y M Fz w (Y.set b ob') M Fz (c_ w c o'):={size:=by simp,frame:=λk hk z=>gB (λh=>z b (by grind)),mA:=λb c h=>.inl ⟨b,h⟩,fz:=λk h=>⟨h,gB (λe=>(R.blk b c x).1 (e▸h))⟩,oW:=λc h=>.inl h,ru:=λk arr T j h=>by grind [fq,gB],keep:=λk u h=>by grind,out:=⟨rfl,rfl,rfl⟩ }
def Rel.AV(R:Rel Y M Fz w){b c:Ε}(s:M b=Α c){ob ob':Ob}{o o':C3}(hb:Y[b]? = Α ob)(z:w.heap[c]? = Α o)(hs:ob.sz<=ob'.sz) (i:∀arr T A,o=.cells arr T A->∃j,o'=.cells j T A/\j.size=arr.size) (h:cu (Y.set b ob') M Fz (c_ w c o') ob' o'):Rel (Y.set b ob') M Fz (c_ w c o'):={blk:=λu c1 E=>by obtain ⟨F,x,G,h2,h3,K⟩:=R.blk u c1 E;by_cases e:u=b;{subst e;have:c1=c:=by{simp_all};grind [fq]};refine ⟨F,x,G,by grind,?_,K.mono (bP.AV R s hb z hs i)⟩;rw[gB (λO:c1=c=>e (R.inj u b c (by simp_all) s))];exact h3,inj:=R.inj,fz:=λc h=>by simp;exact R.fz c h,gl:=Gl.mono (bP.AV R s hb z hs i).fz R.gl }
def bP.move(R:Rel Y M Fz w){b:Ε}{ob ob':Ob}{o':C3}(hb:Y[b]? = Α ob)(hs:ob.sz<ob'.sz) : bP Y M Fz w (Y.set b ob') (yG M b w.heap.size) Fz (w.alloc o'):={size:=by simp,frame:=λc o _=>yCb w o' c o,mA:=λb c h=>by grind [yG],fz:=λc h=>⟨h,yCb w o' c (R.fz c h)⟩,oW:=λc h=>.inl h,ru:=λc j T s h=>⟨j,by grind [Go.heap_alloc_old],rfl⟩,keep:=λk i h=>by by_cases e:k=b;{grind};refine ⟨i,by grind,cR _,λ_=>?_⟩;unfold yG;simp_all,out:=⟨rfl,rfl,rfl⟩ }
def Rel.move(R:Rel Y M Fz w){b:Ε}{ob ob':Ob}{o':C3}(hb:Y[b]? = Α ob)(hs:ob.sz<ob'.sz) (h:cu (Y.set b ob') (yG M b w.heap.size) Fz (w.alloc o') ob' o'):Rel (Y.set b ob') (yG M b w.heap.size) Fz (w.alloc o'):={blk:=λj c1 i=>by unfold yG at i;split at i;{rename_i e;subst e;simp only[az] at i;subst i;exact ⟨λo=>by have:=R.fz _ o;omega,ob',o',by grind,ϯ w o',h⟩};rename_i e;obtain ⟨o,s,u,h2,h3,x⟩:=R.blk j c1 i;exact ⟨o,s,u,by grind,by grind [Go.heap_alloc_old],x.mono (bP.move R hb hs)⟩,inj:=λj z c i h2=>by unfold yG at i h2;split at i <;> split at h2;{omega};{simp only[az] at i;have:=(R.lt h2).2;omega};{simp only[az] at h2;have:=(R.lt i).2;omega};exact R.inj j z c i h2,fz:=λc h=>by have:=R.fz c h;simp;omega,gl:=Gl.mono (bP.move (o':=o') R hb hs).fz R.gl }
def de(arr:Φ Ο)(off:Ε)(xs:Β Ο):Φ Ο:=(arr.toList.take off++xs++arr.toList.drop (off+xs.length)).toArray
theorem Yq{arr:Φ Ο}{off:Ε}{xs:Β Ο}(h:off+xs.length<=arr.size):(de arr off xs).size=arr.size:=by grind [de]
theorem CY{arr:Φ Ο}{off:Ε}{x:Ο}{xs:Β Ο}(h:off+(xs.length+1)<=arr.size) : de (arr.setIfInBounds off x) (off+1) xs=de arr off (x::xs):=by apply o8;simp only[de,Φ.toList_setIfInBounds,HT];apply Yy;intro i;have b:arr.toList.length=arr.size:=by{simp};simp only[yB8,AZ,DU,yB0,b,HT];grind
def cV{arr:Φ Ο}{off:Ε}{xs:Β Ο}(h:off+xs.length<=arr.size)(i:Ε) : (de arr off xs)[i]? = if off<=i/\i<off+xs.length then xs[i-off]? else arr[i]?:=by have b:arr.toList.length=arr.size:=by{simp};simp only[de,Β.getElem?_toArray,yB8,AZ,DU,b];grind
def mW{cs xs:Β D}{off:Ε}(h:off+xs.length<=cs.length)(i:Ε) : (put cs off xs)[i]? = if off<=i/\i<off+xs.length then xs[i-off]? else cs[i]?:=by simp only[put,yB8,AZ,DU];grind
theorem gz{cs xs:Β D}{off:Ε}(h:off+xs.length<=cs.length):(put cs off xs).length=cs.length:=by grind [put]
theorem fo(blk o i:Ε):(qo blk o Η).add i=⟨blk,o+i,Η⟩:=by grind [Go.Addr.add]
def LZ{c off:Ε}{arr:Φ Ο}{T:Ψ}{v:Ο}(h:w.heap[c]? = Α (.cells arr T (0,0))) : w.setCell ⟨c,off,Η⟩ v=c_ w c (.cells (arr.setIfInBounds off v) T (0,0)):=by unfold Ρ.setCell c_;congr 1;grind
def JN{c:Ε}{o o':C3}:c_ (c_ w c o) c o'=c_ w c o':=by simp[c_]
theorem xo(P:Ν)(T:Ψ)(c:Ε):∀(xs:Β Ο)(i off:Ε)(w:Ρ)(arr:Φ Ο),w.heap[c]? = Α (.cells arr T (0,0))->(∀x∈xs,x.oneCell'=Γ)->off+i+xs.length<=arr.size -> (Ϲ ⟨c,off,Η⟩ xs i).run P w=.ok () (if xs=[] then w else c_ w c (.cells (de arr (off+i) xs) T (0,0))):=by intro xs;induction xs with|nil=>intro i off w arr _ _ _;simp[Ϲ]|cons x xs ih=>intro i off w arr d f hl;simp only[HT] at hl;have e:=(EK.1 d).1;have b:w.cell? ⟨c,off+i,Η⟩=Α (arr[off+i]'(by omega)):=by{rw[cell_of_row w c (off+i) arr T (0,0) d];simp_all};simp only[Ϲ,Sem.run_bind,fo];rw[run_store P w _ x _ (f x (by simp)),b];simp only[frozen_of_row w c (off+i) arr T d,cf,cD,Ξ];rw[LZ d];have h:=ih (i+1) off (c_ w c (.cells (arr.setIfInBounds (off+i) x) T (0,0))) (arr.setIfInBounds (off+i) x) (fq e) (λy j=>f y (by simp[j])) (by grind);rw[h];simp only[Β.cons_ne_nil,cD,reduceCtorEq];congr 1;by_cases g:xs=[];{subst g;simp only[Υ];rw[<-CY (by omega)];congr 2;apply o8;simp[de]};rw[Κ g,JN,<-CY (by omega)];rfl
end
end Go.Abs
end
section
namespace Go.Abs
variable[Gl]
def dJ(Y:ar)(M:Ε->Δ Ε)(Fz:Ε->Prop)(w:Ρ)(env:Β D)(b:Φ Ο):Prop:=b.size=env.length/\∀(i:Ε) d v,env[i]? = Α d->b[i]? = Α v->V Y M Fz w d v
def fH(P:Ν)(s:Sem D9)(Y:ar)(M:Ε->Δ Ε)(Fz:Ε->Prop)(w:Ρ)(Y':ar)(d:D):Prop:=∃b v w' M',s.run P w=.ok b w'/\(b=.value v\/b=.skip/\v=ϛ)/\Rel Y' M' Fz w'/\V Y' M' Fz w' d v/\bP Y M Fz w Y' M' Fz w'/\Y.length<=Y'.length
section
variable{P:Ν}{Y Y':ar}{M M':Ε->Δ Ε}{Fz:Ε->Prop}{w w':Ρ}{env:Β D}{a:Act}
theorem fH.same{s:Sem D9}{v:Ο}{d:D}(R:Rel Y M Fz w)(i:s.run P w=.ok (.value v) w)(j:V Y M Fz w d v):fH P s Y M Fz w Y d:=⟨_,v,w,M,i,.inl rfl,R,j,bP.refl R,cR _⟩
def Yields(P:Ν)(s:Sem D9)(Y:ar)(M:Ε->Δ Ε)(Fz:Ε->Prop)(w:Ρ)(d:D):Prop:=∃v,s.run P w=.ok (.value v) w/\V Y M Fz w d v
def ai(P:Ν)(s:Sem D9)(Y:ar)(M:Ε->Δ Ε)(Fz:Ε->Prop)(w:Ρ)(ob:Ob)(d:D):Prop:=∃o v,s.run P w=.ok (.value v) (w.alloc o)/\cu (Y++[ob]) (yG M Y.length w.heap.size) Fz (w.alloc o) ob o/\V (Y++[ob]) (yG M Y.length w.heap.size) Fz (w.alloc o) d v
theorem Yields.same{s:Sem D9}{v:Ο}{d:D}(i:s.run P w=.ok (.value v) w)(j:V Y M Fz w d v):Yields P s Y M Fz w d:=⟨v,i,j⟩
def Yields.gives{s:Sem D9}{d:D}(R:Rel Y M Fz w)(h:Yields P s Y M Fz w d):fH P s Y M Fz w Y d:=let ⟨_,i,j⟩:=h;fH.same R i j
def ai.gives{s:Sem D9}{d:D}{ob:Ob}(R:Rel Y M Fz w)(h:ai P s Y M Fz w ob d):fH P s Y M Fz w (Y++[ob]) d:=let ⟨o,v,i,j,u⟩:=h;⟨_,v,_,_,i,.inl rfl,R.alloc ob o j,u,bP.alloc R.fz ob o,by simp⟩
theorem V.dV(v:Ο):V Y M Fz w (dV v) v:=by cases v <;> first| exact .c (.lit _)| (refine .agg _ (by simp) (fun i d v j o=>?_);simp only [nq,XJ,o,Ep,az] at j;subst j;exact .c (.lit _))| (refine .bj _ (by simp) (fun i d v j o=>?_);simp only [nq,XJ,o,Ep,az] at j;subst j;exact .c (.lit _))
theorem oY(E:dJ Y M Fz w env a.tmps){x:ε}{o:aY}(h:cA x=Α o):V Y M Fz w (o.ev env) (a.eval x):=by cases x with|tmp t=>simp only[cA,az] at h;subst h;simp only[aY.ev,Act.eval];by_cases e:t<env.length;{have j:env[t]? = Α env[t]:=eI e;have k:a.tmps[t]? = Α (a.tmps[t]'(by rw[E.1];exact e)):=sf _;rw[j,UJ,yBc,k,UJ];exact E.2 t _ _ j k};have b:env.length<=t:=Ε.le_of_not_lt e;rw[xAb b,yBc,Φ.getElem?_eq_none (by rw[E.1];exact b)];exact .bj #[] rfl (λi d v h=>by simp at h)|const v=>simp only[cA,az] at h;subst h;exact V.dV v|global g=>simp only[cA,az] at h;subst h;exact .c (.Yt g)|func f=>simp only[cA,az] at h;subst h;exact .c (.fn #[] #[] rfl rfl (λi d v h=>by simp at h) (λi d v h=>by simp at h))
theorem V.cz{v i:Ο}(h:V Y M Fz w (.c (.lit v)) i):i=v:=by cases h with|c h=>cases h;rfl
theorem Rk{ds:Β D}{l:Β Ο}(h:ds.mapM lS=Α l):ds.length=l.length/\∀(i:Ε) d,ds[i]? = Α d->∃v,l[i]? = Α v/\d=.c (.lit v):=by induction ds generalizing l with|nil=>simp_all|cons d ds ih=>simp only[XY,yCk,ft,dt,az] at h;obtain ⟨v,e,g,hl,rfl⟩:=h;obtain ⟨f,j⟩:=ih hl;refine ⟨by simp[f],λi k b=>?_⟩;cases i with|zero=>{simp only[zT,az] at b;subst b;cases d with|c x=>cases x <;> simp[lS] at e;simp_all|_=>grind [lS]}|succ i=>simp_all
theorem V.val_inv{d:D}{v s:Ο}(h:V Y M Fz w d s)(j:d.dm = Α v):s=v:=by cases d with|c x=>cases x <;> simp[D.dm] at j;grind [V.cz]|agg ds=>{simp only[D.dm,cL] at j;obtain ⟨l,hl,rfl⟩:=j;obtain ⟨O,G⟩:=Rk hl;cases h with|agg z hs o=>congr 1;apply o8;apply Yy;intro i;simp only[XJ];by_cases hi:i<ds.length;{have A:ds[i]? = Α ds[i]:=eI hi;have E:z[i]? = Α (z[i]'(by omega)):=sf _;obtain ⟨u,Q,K⟩:=G i _ A;have F:=o i _ _ A E;rw[K] at F;rw[E,F.cz];simp_all};simp_all}|_=>grind [D.dm]
def YS(E:dJ Y M Fz w env a.tmps){o:ϊ}{x:ε}{d:aY}(b:o.op=.move x\/o.op=.assign x)(e:cA x=Α d) : Yields P (Ω a.eval o) Y M Fz w (d.ev env):=by refine Yields.same (v:=a.eval x) ?_ (oY E e);rcases b with b | b <;> simp[Ω,b]
theorem pN{d:D}{v:Ο}{t:Μ}(h:V Y M Fz w d v)(b:iu d=Α t):v=.bool t:=by cases d with|c x=>{cases x with|lit u=>cases u <;> simp[iu] at b;grind [V.cz]|_=>grind [iu]}|_=>grind [iu]
theorem jQ{d:D}{v:Ο}{n:Ζ}(h:V Y M Fz w d v)(b:vj d=Α n):∃k,v=.int k n:=by cases d with|c x=>{cases x with|lit u=>cases u <;> simp[vj] at b;grind [V.cz]|_=>grind [vj]}|_=>grind [vj]
def pick_ok(E:dJ Y M Fz w env a.tmps){o:ϊ}{c x y:ε}{b d e:aY}{t:Μ}(f:o.op=.pick c x y) (g:cA c=Α b) (i:cA x=Α d) (j:cA y=Α e) (h:iu (b.ev env)=Α t) : Yields P (Ω a.eval o) Y M Fz w (if t then d.ev env else e.ev env):=by refine Yields.same (v:=if t then a.eval x else a.eval y) ?_ ?_;{simp[Ω,f,pN (oY E g) h,asBool]};grind [oY]
def lB(E:dJ Y M Fz w env a.tmps){o:ϊ}{d:D}(e:∀cs b,o.op≠.select cs b)(h:pV P o.op o.type env=Α d) : Yields P (Ω a.eval o) Y M Fz w d:=by unfold pV at h;split at h;{rename_i f;generalize j:(λx=>((((cA x).map (aY.ev env)).bind D.dm).getD ϛ))=ρ at h;have k:Ω a.eval o=Ω ρ o:=by{refine execOp_congr o e (λx n=>?_);have g:=(jc.1 f) x (by simp_all);rw[<-j];cases i:cA x with|none=>simp_all|some p=>simp only[i,Ep,aw] at g ⊢;obtain ⟨v,m⟩:=yBs.1 g;rw[m,UJ];exact (oY E i).val_inv m};have l:Ω ρ o=Ω ρ { dst:=Η,op:=o.op,type:=o.type,pos:="",after:=#[],guard:=Η }:=rfl;grind [Yields.same,V.dV,SE]};simp_all
theorem V.one{d:D}{v:Ο}(h:V Y M Fz w d v)(hs:d.scalar=Γ):v.oneCell'=Γ/\v.cells=#[v]:=by cases h with|c h=>{cases h with|lit v=>{simp only[D.scalar] at hs;cases v <;> first | exact ⟨rfl,rfl⟩ | simp[Ο.oneCell'] at hs}|_=>exact ⟨rfl,rfl⟩}|any v=>grind [D.scalar]|agg=>grind [D.scalar]|bj=>grind [D.scalar]|_=>exact ⟨rfl,rfl⟩
theorem V.cells{d:D}{v:Ο}{cs:Β D}(h:V Y M Fz w d v)(j:d.cells? = Α cs) : v.cells.size=cs.length/\(∀(i:Ε) x u,cs[i]? = Α x->v.cells[i]? = Α u->V Y M Fz w x u)/\(∀u∈v.cells.toList,u.oneCell'=Γ)/\(∀x∈cs,x.scalar=Γ):=by have s:d.scalar=Γ->d.cells? = Α [d]->v.cells.size=cs.length/\(∀(i:Ε) x u,cs[i]? = Α x->v.cells[i]? = Α u->V Y M Fz w x u)/\(∀u∈v.cells.toList,u.oneCell'=Γ)/\(∀x∈cs,x.scalar=Γ):=by{intro hs z;rw[z] at j;simp only[az] at j;subst j;obtain ⟨Q,R⟩:=h.one hs;grind};cases d with|agg ds=>simp only[D.cells?] at j;split at j;{rename_i o;simp only[az] at j;subst j;cases h with|agg A z E=>refine ⟨z,E,λu F=>?_,λx G=>jc.1 o x G⟩;obtain ⟨i,hi,rfl⟩:=OF.1 F;simp only[Ο.cells,yBo] at hi;have K:ds[i]? = Α (ds[i]'(by omega)):=eI _;have O:A[i]? = Α A[i]:=sf _;exact ((E i _ _ K O).one (jc.1 o _ (bG _))).1};simp_all|_=>simp only[D.cells?] at j;split at j;{rename_i hs;exact s hs (by simp only[D.cells?,hs,Υ])};simp_all
def Ak{arr:Φ Ο}{i:Ε}{u:Ο}(h:arr[i]? = Α u):u∈arr.toList:=by grind
def rO(b:∀c,Fz c->c<w.heap.size){cs:Β D}{arr:Φ Ο}(T:Ψ)(hs:cs.length≤arr.size) (e:∀(i:Ε) x u,cs[i]? = Α x->arr[i]? = Α u->V Y M Fz w x u/\u.oneCell'=Γ) : (newRow T arr).run P w=.ok ⟨w.heap.size,0,Η⟩ (w.alloc (.cells arr T)) /\ cu (Y++[.cells cs]) (yG M Y.length w.heap.size) Fz (w.alloc (.cells arr T)) (.cells cs) (.cells arr T):=⟨rfl,arr,T,rfl,hs,fun i d v f g=>⟨(e i d v f g).1.mono (bP.alloc b _ _),(e i d v f g).2⟩⟩
def V.newPtr(cs:Β D)(o:C3):V (Y++[.cells cs]) (yG M Y.length w.heap.size) Fz (w.alloc o) (.ptr Y.length 0 cs.length) (.pointer (Α ⟨w.heap.size,0,Η⟩)):=.ptr _ (.cells cs) (by simp) (by simp[Ob.sz]) (λ_=>⟨w.heap.size,by simp[yG],rfl⟩)
def box_ok(b:∀c,Fz c->c<w.heap.size)(E:dJ Y M Fz w env a.tmps){o:ϊ}{t:Ψ}{x:ε}{e:aY}{cs:Β D}(g:o.op=.box t x)(d:cA x=Α e) (h:(e.ev env).cells? = Α cs):ai P (Ω a.eval o) Y M Fz w (.cells cs) (.ptr Y.length 0 cs.length):=by obtain ⟨n,j,k,_⟩:=(oY E d).cells h;obtain ⟨l,m⟩:=rO (P:=P) b t (by omega) (λi x u d f=>⟨j i x u d f,k u (Ak f)⟩);exact ⟨_,_,by simp[Ω,g,Instr.box,newVar,l],m,V.newPtr cs _⟩
def zeN{t:Ψ}{z:Β D}(h:Ys P t=Α z):∃i v,P.info? t=Α i/\i.zero=Α v/\(dV v).cells? = Α z:=by grind [Ys,zeroOf,ζ]
theorem zdQ{t:Ψ}{i:ey}(h:P.info? t=Α i)(w:Ρ):(typeInfo t).run P w=.ok i w:=by simp[typeInfo,h]
theorem kJ{t:Ψ}{i:ey}{v:Ο}(h:P.info? t=Α i)(b:i.zero=Α v)(w:Ρ):(zeroValue t).run P w=.ok v w:=by simp[zeroValue,zdQ h,b]
theorem Ss{t:Ψ}{n:Ε}(h:b_ P t=Α n)(w:Ρ):(sizeOf t).run P w=.ok n w:=by simp only[b_,cL] at h;obtain ⟨i,hi,rfl⟩:=h;simp[sizeOf,zdQ hi]
theorem xa{t:Ψ}{d:ϑ}(h:P.underlying t=Α d)(w:Ρ):(underlying t).run P w=.ok d w:=by simp[underlying,h]
def aaa(b:∀c,Fz c->c<w.heap.size){o:ϊ}{t:Ψ}{z:Β D}(e:o.op=.alloc t)(f:Ys P t=Α z) : ai P (Ω a.eval o) Y M Fz w (.cells z) (.ptr Y.length 0 z.length):=by obtain ⟨i,v,hi,g,h⟩:=zeN f;obtain ⟨p,j,k,_⟩:=(V.dV (Y:=Y) (M:=M) (Fz:=Fz) (w:=w) v).cells h;obtain ⟨l,m⟩:=rO (P:=P) b t (by omega) (λi x u n d=>⟨j i x u n d,k u (Ak d)⟩);exact ⟨_,_,by simp[Ω,e,Instr.alloc,kJ hi g,newVar,l],m,V.newPtr z _⟩
def Rz{b sz:Ε}{cs:Β D}(h:pJ Y b sz=Α cs):Y[b]? = Α (.cells cs)/\cs.length=sz:=by grind [pJ]
theorem V.xW{b off sz:Ε}{v:Ο}{cs:Β D}(h:V Y M Fz w (.ptr b off sz) v)(i:pJ Y b sz=Α cs):∃c,M b=Α c/\v=.pointer (Α ⟨c,off,Η⟩):=by obtain ⟨j,o⟩:=Rz i;cases h with|ptr x z hb s u=>rw[j] at hb;simp only[az] at hb;subst hb;obtain ⟨c,A,E⟩:=u o;simp_all
def Rel.row(R:Rel Y M Fz w){b c:Ε}{cs:Β D}(s:M b=Α c)(hb:Y[b]? = Α (.cells cs)) : ∃arr T,w.heap[c]? = Α (.cells arr T (0,0))/\cs.length<=arr.size/\∀(i:Ε) d v,cs[i]? = Α d->arr[i]? = Α v->V Y M Fz w d v/\v.oneCell'=Γ:=by obtain ⟨_,x,o,j,z,u⟩:=R.blk b c s;rw[hb] at j;simp only[az] at j;subst j;obtain ⟨arr,T,rfl,hl,A⟩:=u;grind
theorem Au{t:Ψ}{n:Δ Ε}{cs:Β D}{blk g off:Ε}{d:D}(h:Gs P t=Α n)(k:wU n cs off=Α d) (b:∀(i:Ε) x,cs[i]? = Α x->∃u,w.cell? ⟨blk,g+i,Η⟩=Α u/\V Y M Fz w x u) : ∃v,(uo t ⟨blk,g+off,Η⟩).run P w=.ok v w/\V Y M Fz w d v:=by unfold Gs at h;have agg:∀(i:ey),P.info? t=Α i->n=Α i.size->(s9 t).run P w=.ok Γ w->∃v,(uo t ⟨blk,g+off,Η⟩).run P w=.ok v w/\V Y M Fz w d v:=by{intro i hi h e;subst h;simp only[wU] at k;split at k;{rename_i s;simp only[az] at k;subst k;have y:∀j,j<i.size->∃u,w.cell? ⟨blk,g+off+j,Η⟩=Α u/\∀x,cs[off+j]? = Α x->V Y M Fz w x u:=by{intro j A;obtain ⟨u,p,q⟩:=b (off+j) _ (eI (by omega));grind};let f:Ε->Ο:=λj=>(w.cell? ⟨blk,g+off+j,Η⟩).getD ϛ;have z:∀j,j<i.size->w.cell? ((qo blk (g+off) Η).add j)=Α (f j):=by{grind [fo]};have l:=run_loadCells (P:=P) (w:=w) ⟨blk,g+off,Η⟩ i.size f z;refine ⟨.agg (Β.map f (Β.range i.size)).toArray,by simp only[uo,Sem.run_bind,e,Ξ,Υ,sizeOf,zdQ hi,Sem.run_pure,l],?_⟩;refine .agg _ (by grind) (λj x v p q=>?_);grind};simp_all};have one:n=Η->(s9 t).run P w=.ok Ι w->∃v,(uo t ⟨blk,g+off,Η⟩).run P w=.ok v w/\V Y M Fz w d v:=by{intro h e;subst h;obtain ⟨u,p,q⟩:=b off d k;exact ⟨u,by simp only[uo,Sem.run_bind,e,Ξ,cf,cD,run_load,p],q⟩};cases hi:P.info? t with|none=>simp_all|some i=>cases r:P.underlying t with|none=>simp_all|some m=>rw[hi,r] at h;have o:(s9 t).run P w=.ok (m matches .struct _ | .array _ _) w:=by{simp only[s9,Sem.run_bind,xa r,Ξ];cases m <;> rfl};grind
def load_ok(E:dJ Y M Fz w env a.tmps){o:ϊ}{t:Ψ}{x:ε}{q:aY}{n:Δ Ε}{d:D}(A:o.op=.load t x)(L:cA x=Α q)
  (F:Gs P t=Α n) (N:∀b off sz c cs,q.ev env=.ptr b off sz->M b=Α c->Y[b]? = Α (.cells cs)->∃arr T,w.heap[c]? = Α (.cells arr T (0,0))/\cs.length≤arr.size/\∀(i:Ε) d v,cs[i]? = Α d->arr[i]? = Α v->V Y M Fz w d v/\v.oneCell'=Γ)
  (h:(match q.ev env with
   | .ptr b off sz=>do Α (←wU n (←pJ Y b sz) off,Y,([]:Β Ε))
   | .c (.cM cs off)=>do Α (←wU n (cs.map .c) off,Y,[])
   | _=>Η)=Α (d,Y',[])):Y'=Y/\Yields P (Ω a.eval o) Y M Fz w d:=by
 have k:=oY E L
 split at h
 ·rename_i b off sz p
  rw [p] at k
  simp only [ft,dt,az,ba] at h
  obtain ⟨cs,G,O,r,rfl,rfl,_⟩:=h
  refine ⟨rfl,?_⟩
  obtain ⟨c,Q,l⟩:=k.xW G
  obtain ⟨hb,_⟩:=Rz G
  obtain ⟨arr,T,R,hl,s⟩:=N b off sz c cs p Q hb
  have f:∀(i:Ε) x,cs[i]? = Α x->∃u,w.cell? ⟨c,0+i,Η⟩=Α u/\V Y M Fz w x u:=by
   intro i x j
   have hi:=(fF.1 j).1
   have e:arr[i]? = Α (arr[i]'(by omega)):=sf _
   exact ⟨_,by rw [TW,cell_of_row w c i arr T (0,0) R]; exact e,(s i _ _ j e).1⟩
  obtain ⟨v,g,m⟩:=Au (P:=P) F r f
  refine Yields.same (v:=v) ?_ m
  rw [TW] at g
  simp [Ω,A,Instr.loadAt,l,Ϧ,g]
 ·rename_i cs off p
  rw [p] at k
  simp only [ft,dt,az,ba] at h
  obtain ⟨O,r,rfl,rfl,_⟩:=h
  refine ⟨rfl,?_⟩
  cases k with
  | c k =>
   generalize l:a.eval x=W at k
   cases k with
   | cM blk S c X U z =>
    have f:∀(i:Ε) x,(cs.map D.c)[i]? = Α x->∃u,w.cell? ⟨blk,S+i,Η⟩=Α u/\V Y M Fz w x u:=by
     intro i x j
     simp only [nq,cL] at j
     obtain ⟨y,K,rfl⟩:=j
     exact ⟨_,(U i y K).1,.c (z i y K)⟩
    obtain ⟨v,g,m⟩:=Au (P:=P) F r f
    refine Yields.same (v:=v) ?_ m
    simp [Ω,A,Instr.loadAt,l,Ϧ,g]
 simp_all
end
end Go.Abs
end
section
namespace Go.Abs
variable[Gl]
section
variable{P:Ν}{Y Y':ar}{M M':Ε->Δ Ε}{Fz:Ε->Prop}{w w':Ρ}{env:Β D}{a:Act}
theorem GM(off:Ε):∀(l:Β Ο)(k:Ε)(arr:Φ Ο),off+k+l.length<=arr.size -> (l.zipIdx k).foldl (λcs (p:Ο×Ε)=>cs.setIfInBounds (off+p.2) p.1) arr=de arr (off+k) l:=by intro l;induction l with|nil=>intro k arr _;apply o8;simp[de]|cons x l ih=>grind [Β.zipIdx_cons,CY]
def FP(Y:ar)(M:Ε->Δ Ε)(Fz:Ε->Prop)(w:Ρ)(cs:Β D)(arr:Φ Ο):Prop:=arr.size=cs.length/\∀(i:Ε) x u,cs[i]? = Α x->arr[i]? = Α u->V Y M Fz w x u/\u.oneCell'=Γ
theorem FP.put{cs xs:Β D}{arr:Φ Ο}{vs:Β Ο}{off:Ε}(h:FP Y M Fz w cs arr)(hl:vs.length=xs.length)(s:off+xs.length<=cs.length) (A:∀(i:Ε) x u,xs[i]? = Α x->vs[i]? = Α u->V Y M Fz w x u/\u.oneCell'=Γ):FP Y M Fz w (put cs off xs) (de arr off vs):=by refine ⟨by rw[Yq (by rw[h.1];omega),gz s,h.1],λi x u j o=>?_⟩;rw[mW s] at j;rw[cV (by rw[h.1];omega),hl] at o;split at j;{grind};rename_i z;rw[Κ z] at o;exact h.2 _ _ _ j o
def FP.xH{d:D}{v:Ο}{cs:Β D}(h:V Y M Fz w d v)(o:d.cells? = Α cs):FP Y M Fz w cs v.cells:=by obtain ⟨s,z,A,_⟩:=h.cells o;exact ⟨s,λi x u E j=>⟨z i x u E j,A u (Ak j)⟩⟩
theorem UZ(E:dJ Y M Fz w env a.tmps)(pl:Ε->Δ (Ε×Ε)):∀(ps:Β (Ε×ε))(k:Β (Ε×Ε×aY))(cs e:Β D)(arr:Φ Ο),(ps.mapM λ(i,x)=>(pl i).bind λ(o,n)=>(cA x).bind λz=>Α (o,n,z))=Α k->FP Y M Fz w cs arr->rK env cs k=Α e -> ∃b,q8 pl arr (ps.map λ(i,x)=>(i,a.eval x))=Α b/\FP Y M Fz w e b:=by intro ps;induction ps with|nil=>intro k cs e arr h j g;simp only[Β.mapM_nil,yCk,az] at h;subst h;simp only[rK,az] at g;subst g;exact ⟨arr,rfl,j⟩|cons p ps ih=>intro k cs e arr h j g;obtain ⟨i,x⟩:=p;simp only[XY,yCk,ft,dt,az] at h;obtain ⟨q,⟨⟨o,n⟩,l,z,m,rfl⟩,r,s,rfl⟩:=h;simp only[rK,ft,dt] at g;obtain ⟨K,t,g⟩:=g;split at g;{grind};rename_i f;simp only[ϟ,WU,Ε.not_lt] at f;obtain ⟨F,G⟩:=f;have d:=FP.xH (oY E m) t;obtain ⟨b,v,A⟩:=ih r _ e (de arr o (a.eval x).cells.toList) s (j.put (by simp[d.1]) (by omega) (λi y u v A=>d.2 i y u v (by simp_all))) g;refine ⟨b,?_,A⟩;simp only[sv,q8,l];rw[Κ (by simp[d.1,F,j.1];omega)];rw[<-v];congr 1;have:=GM o (a.eval x).cells.toList 0 arr (by simp[d.1,j.1];omega);rw[<-xAc];simp_all
theorem Sn{d:Φ s8}{ps:Β (Ε×Ε)}(h:Ld P d=Α ps)(w:Ρ) :
  (d.mapM λ(f:s8)=>(do pure (f.offset,<-sizeOf f.type):Sem (Ε×Ε))).run P w=.ok ps.toArray w:=by
 have e:∀(l:Β s8)(ps:Β (Ε×Ε)),(l.mapM λf=>(b_ P f.type).map λn=>(f.offset,n))=Α ps ->
   (l.mapM λf=>(do pure (f.offset,<-sizeOf f.type):Sem (Ε×Ε))).run P w=.ok ps w:=by
  intro l;induction l with
  |nil=>simp_all
  |cons f l ih=>intro ps h;simp only[XY,yCk,ft,dt,cL,az] at h;obtain ⟨q,⟨n,g,rfl⟩,i,b,rfl⟩:=h;simp only[XY,Sem.run_bind,Ss g,Ξ,Sem.run_pure,ih i b]
 grind [Ld,Φ.mapM_eq_mapM_toList,Go.Sem.run_map,Go.Result.andThen_ok]
def Oi(E:dJ Y M Fz w env a.tmps){o:ϊ}{t:Ψ}{b:Φ (Ε×ε)}{z:Β D}{h:Β (Ε×Ε×aY)}{pl:Ε->Δ (Ε×Ε)}{cs:Β D} (p:o.op=.build t b) (s:Ys P t=Α z) (j:(∃k ps,P.underlying t=Α (.struct k)/\Ld P k=Α ps/\pl=(ps[·]?))\/(∃m e n,P.underlying t=Α (.array m e)/\b_ P e=Α n/\pl=λi=>Α (i * n,n))) (u:(b.toList.mapM λ(i,x)=>(pl i).bind λ(o,n)=>(cA x).bind λy=>Α (o,n,y))=Α h) (A:rK env z h=Α cs) : Yields P (Ω a.eval o) Y M Fz w (.agg cs):=by obtain ⟨i,v,hi,q,F⟩:=zeN s;have f:=FP.xH (V.dV (Y:=Y) (M:=M) (Fz:=Fz) (w:=w) v) F;obtain ⟨g,O,r⟩:=UZ E pl b.toList h z cs v.cells u f A;refine Yields.same (v:=.agg g) ?_ (.agg g r.1 (λi d v G K=>(r.2 i d v G K).1));rcases j with ⟨k,ps,l,L,rfl⟩ | ⟨m,e,n,l,N,rfl⟩;{simp only[Ω,p,Instr.build,Sem.run_bind,kJ hi q,Ξ,xa l,Sn L];simp_all};simp only[Ω,p,Instr.build,Sem.run_bind,kJ hi q,Ξ,xa l,Ss N];simp_all
theorem sU(n:Ε)(z:Β D):(dU n z).length=n * z.length:=by simp[dU]
theorem FD{z:Β D}(b:z≠[]):∀(n i:Ε),i<n * z.length->(dU n z)[i]? = z[i % z.length]?:=by intro n;have d:0<z.length:=XH.2 b;induction n with|zero=>omega|succ n ih=>intro i hi;have e:dU (n+1) z=z++dU n z:=by{simp[dU,t7]};rw[e,yB8];split;{grind [Ε.mod_eq_of_lt]};rename_i h;rw[ih (i-z.length) (by grind)];congr 1;(conv=>rhs;rw[show i=i-z.length+z.length from by omega]);rw[Ε.add_mod_right]
def JZ{z:Β D}{v:Ο}(b:FP Y M Fz w z v.cells)(g:z≠[])(n m:Ε)(d:n<=m) : n * z.length<=((ϰ (m * v.cells.size)).map (v.cells[· % v.cells.size]!)).size /\ ∀(i:Ε) x u,(dU n z)[i]? = Α x->((ϰ (m * v.cells.size)).map (v.cells[· % v.cells.size]!))[i]? = Α u->V Y M Fz w x u/\u.oneCell'=Γ:=by have j:0<z.length:=XH.2 g;refine ⟨by simp[b.1];exact J_ _ d,λi x u e h=>?_⟩;have hi:=(fF.1 e).1;rw[sU] at hi;rw[FD g n i hi] at e;have k:i % z.length<v.cells.size:=by{rw[b.1];grind};have f:i<m * v.cells.size:=by{grind};refine b.2 (i % z.length) x u e ?_;rw[Φ.getElem?_map,Φ.getElem?_range,Λ f] at h;simp only[Ep,az,b.1] at h;simp_all
def V.newSl{cs:Β D}{arr:Φ Ο}{T:Ψ}{len aD cap:Ε}(i:len<=cap)(j:cap * aD<=arr.size)(hl:len * aD<=cs.length)(hs:cs.length<=cap * aD) : V (Y++[.cells cs]) (yG M Y.length w.heap.size) Fz (w.alloc (.cells arr T)) (.sl Y.length 0 len aD cs.length) (.slice (Α ⟨w.heap.size,0,Η⟩) len cap):=.sl _ _ _ (by simp) (.cells cs) (by simp) (by simp[Ob.sz]) (λ_=>.inr ⟨w.heap.size,0,arr,T,by simp[yG],rfl,rfl,⟨i,by omega⟩,.inl rfl,ϯ w _,by omega,by omega⟩)
def XC(q:∀c,Fz c->c<w.heap.size)(E:dJ Y M Fz w env a.tmps){o:ϊ}{t e:Ψ}{len n:Ε}{b:Φ (Ε×ε)}{z:Β D}{r:Β (Ε×Ε×aY)}{cs:Β D} (N:o.op=.buildSlice t len b) (O:P.underlying t=Α (.slice e)) (Q:b_ P e=Α n) (R:Ys P e=Α z) (f:¬(n=0\/z.length≠n\/len * n > 2 ^ 20)) (S:(b.toList.mapM λ(i,x)=>(Α (i * n,n)).bind λ(p:Ε×Ε)=>(cA x).bind λT=>Α (p.1,p.2,T))=Α r) (U:rK env (dU len z) r=Α cs) : ai P (Ω a.eval o) Y M Fz w (.cells cs) (.sl Y.length 0 len n cs.length):=by obtain ⟨i,v,hi,W,X⟩:=zeN R;have d:=FP.xH (V.dV (Y:=Y) (M:=M) (Fz:=Fz) (w:=w) v) X;simp only[ϟ,WU,Ε.not_lt] at f;obtain ⟨σ,s,L⟩:=f;have g:z≠[]:=λh=>by{simp_all};have Z:v.cells.size=n:=by{rw[d.1,s]};obtain ⟨aa,A⟩:=JZ d g len len (cR _);have F:FP Y M Fz w (dU len z) ((ϰ (len * v.cells.size)).map (v.cells[· % v.cells.size]!)):=⟨by grind [sU],A⟩;obtain ⟨arr,h1,m⟩:=UZ E (λi=>Α (i * n,n)) b.toList r (dU len z) cs _ S F U;have j:cs.length=len * n:=by{have:arr.size=len * n:=by{have G:∀(l:Β (Ε×Ο))(x y:Φ Ο),q8 (λi=>Α (i * n,n)) x l=Α y->y.size=x.size:=by{intro l;induction l with|nil=>grind [Go.Instr.fill]|cons p l ih=>intro x y h;obtain ⟨i,u⟩:=p;simp only[q8] at h;split at h;{simp at h};rename_i k;simp at k;rw[ih _ _ h,<-xAc];have:=GM (i * n) u.cells.toList 0 x (by grind);simp only[Ε.add_zero] at this;grind [Yq]};grind};rw[<-m.1,this]};obtain ⟨r1,r2⟩:=rO (P:=P) q (arr:=arr) (cs:=cs) e (by rw[m.1];omega) m.2;refine ⟨_,.slice (Α ⟨w.heap.size,0,Η⟩) len len,?_,r2,V.newSl (cap:=len) (cR _) (by rw[m.1,j];omega) (by omega) (by omega)⟩;simp only[Ω,N,Instr.buildSlice,Sem.run_bind,xa O,Ξ,Ss Q];rw[Κ (by omega)];by_cases h0:len * n=0;{have K:len=0:=by{grind [C4]};subst K;simp only[yC3] at h1 ⊢;simp only[Υ,Sem.run_bind,Sem.run_pure,Ξ];grind [Φ.toList_map,Go.Sem.run_bind,Go.Result.andThen_ok,Go.Sem.run_pure]};rw[Κ h0];simp only[Sem.run_bind,kJ hi W,Ξ,Sem.run_pure];simp_all
def store_ok(R:Rel Y M Fz w)(E:dJ Y M Fz w env a.tmps){o:ϊ}{t:Ψ}{x y:ε}{O Q:aY}{n b off sz:Ε}{cs xs:Β D}(Z:o.op=.store t x y) (hx:cA x=Α O) (S:cA y=Α Q) (hn:b_ P t=Α n) (he:O.ev env=.ptr b off sz) (U:pJ Y b sz=Α cs) (q:(Q.ev env).cells? = Α xs) (hc:xs.length=n/\off+n<=sz):fH P (Ω a.eval o) Y M Fz w (Y.set b (.cells (put cs off xs))) (.bj []):=by have W:=oY E hx;rw[he] at W;obtain ⟨c,A,F⟩:=W.xW U;obtain ⟨hb,aa⟩:=Rz U;obtain ⟨e,T,u,hl,G⟩:=R.row A hb;have g:=FP.xH (oY E S) q;obtain ⟨_,_,K,_⟩:=(oY E S).cells q;have L:off+xs.length<=cs.length:=by{omega};have r:=xo P T c (a.eval y).cells.toList 0 off w e u K (by grind);have j:∀k X σ,Ϯ e T (0,0)=.cells k X σ->∃l,Ϯ (de e off (a.eval y).cells.toList) T (0,0)=.cells l X σ/\l.size=k.size:=by{grind [Yq]};have m:(if (a.eval y).cells.toList=[] then w else c_ w c (.cells (de e (off+0) (a.eval y).cells.toList) T (0,0)))=c_ w c (.cells (de e off (a.eval y).cells.toList) T (0,0)):=by{split;{rename_i s;rw[s];have:de e off []=e:=by{grind [de]};rw[this];unfold c_;have ab:=(EK.1 u).1;have:w.heap.setIfInBounds c (.cells e T (0,0))=w.heap:=by{grind};rw[this]};rfl};rw[m] at r;have hs:(Ob.cells cs).sz<=(Ob.cells (put cs off xs)).sz:=by{grind [Ob.sz,gz]};have N:=bP.AV R A hb u hs j;refine ⟨.skip,ϛ,_,M,?_,.inr ⟨rfl,rfl⟩,R.AV A hb u hs j ?_,.bj #[] rfl (λi d v h=>by simp at h),N,by simp⟩;{simp only[Ω,Z,Instr.storeAt,F,Ϧ,Sem.run_bind,Sem.run_pure,Ξ,storeVar,Ss hn];simp_all};refine ⟨_,T,rfl,by grind [gz],λi d v z p=>?_⟩;rw[mW L] at z;rw[cV (by grind)] at p;simp only[yBo,g.1] at p;split at z;{rename_i f;rw[Λ f] at p;have:=g.2 _ _ _ z (by simpa using p);exact ⟨this.1.mono N,this.2⟩};rename_i f;rw[Κ f] at p;have:=G _ _ _ z p;exact ⟨this.1.mono N,this.2⟩
end
end Go.Abs
end
section
namespace Go.Abs
variable[Gl]
section
variable{P:Ν}{Y Y':ar}{M M':Ε->Δ Ε}{Fz:Ε->Prop}{w w':Ρ}{env:Β D}{a:Act}
theorem V.Kx{b o sz off:Ε}{v:Ο}(h:V Y M Fz w (.ptr b o sz) v):∃i,v=.pointer (Α i)/\V Y M Fz w (.ptr b (o+off) sz) (.pointer (Α (i.add off))):=by cases h with|ptr i s hb j u=>refine ⟨i,rfl,.ptr _ s hb j (λx=>?_)⟩;grind [fo]
theorem VC.Kx{cs:Β C}{o off:Ε}{v:Ο}(h:VC Fz w (.cM cs o) v):∃i,v=.pointer (Α i)/\VC Fz w (.cM cs (o+off)) (.pointer (Α (i.add off))):=by generalize j:C.cM cs o=x at h;cases h with|cM blk s c u z A=>simp only[C.cM.injEq] at j;obtain ⟨rfl,rfl⟩:=j;refine ⟨_,rfl,?_⟩;rw[fo,yCE];exact .cM blk s c u z A|_=>grind
theorem V.q_{x:C}{v:Ο}(h:V Y M Fz w (.c x) v):VC Fz w x v:=by cases h with | c h=>exact h
def fld_ok(E:dJ Y M Fz w env a.tmps){o:ϊ}{s:Ψ}{x:ε}{m:aY}{f n:Ε}{p:Φ s8}{g:s8}{d:D}(t:o.op=.fieldAddr s x f) (u:cA x=Α m) (v:P.underlying s=Α (.struct p)) (y:p[f]? = Α g) (z:b_ P g.type=Α n) (A:n≠0) (h:(match m.ev env with|.ptr b o sz=>Α (.ptr b (o+g.offset) sz,Y,([]:Β Ε))|.c (.cM q o)=>Α (.c (.cM q (o+g.offset)),Y,[])|_=>Η)=Α (d,Y',[])):Y'=Y/\Yields P (Ω a.eval o) Y M Fz w d:=by have j:=oY E u;have k:∀i,a.eval x=.pointer (Α i)->(Ω a.eval o).run P w=.ok (.value (.pointer (Α (i.add g.offset)))) w:=by{intro i e;simp only[Ω,t,Instr.fieldAt,Sem.run_bind,xa v,Ξ,y,e,Ϧ,Sem.run_pure,fieldPlace,Ss z];simp_all};split at h;{rename_i b F sz l;rw[l] at j;simp only[az,ba] at h;obtain ⟨rfl,rfl,_⟩:=h;obtain ⟨i,e,r⟩:=j.Kx (off:=g.offset);grind [Yields.same]};{rename_i q F l;rw[l] at j;simp only[az,ba] at h;obtain ⟨rfl,rfl,_⟩:=h;obtain ⟨i,e,r⟩:=j.q_.Kx (off:=g.offset);exact ⟨rfl,Yields.same (k i e) (.c r)⟩};simp_all
def EP{i:Ζ}{n k:Ε}(h:Ec i n=Α k):0<=i/\i<n/\i.toNat=k/\k<n:=by grind [Ec]
def inB_inv{i:Ζ}{n k:Ε}(h:Vl i n=Α k):0<=i/\i<=n/\i.toNat=k/\k<=n:=by grind [Vl]
theorem V.gq{b off len aD sz:Ε}{v:Ο}{cs:Β D}(h:V Y M Fz w (.sl b off len aD sz) v)(i:pJ Y b sz=Α cs) : (v=.slice Η 0 0/\len=0/\off=0/\sz=0/\cs=[])\/∃c o cap arr T,M b=Α c/\v=.slice (Α ⟨c,o,Η⟩) len cap/\(len<=cap/\sz<=off+cap * aD)/\(o=off\/cap=0)/\w.heap[c]? = Α (.cells arr T (0,0))/\o+cap * aD<=arr.size/\off+len * aD<=sz:=by obtain ⟨j,s⟩:=Rz i;cases h with|sl K n cap u O hb x z=>rw[j] at hb;simp only[az] at hb;subst hb;rcases z s with ⟨Q,R,U,W,X,σ⟩ | ⟨c,o,arr,T,A,Z,hn,hl,E,F,hb,G⟩;{simp_all};exact .inr ⟨c,o,cap,arr,T,A,by simp_all,hl,E,F,hb,G⟩
theorem V.mkPtr{b c off sz:Ε}{cs:Β D}(i:pJ Y b sz=Α cs)(j:M b=Α c):V Y M Fz w (.ptr b off sz) (.pointer (Α ⟨c,off,Η⟩)):=by obtain ⟨o,s⟩:=Rz i;exact .ptr _ _ o (by grind [Ob.sz]) (λ_=>⟨c,j,rfl⟩)
def idx_ok(E:dJ Y M Fz w env a.tmps){o:ϊ}{t e:Ψ}{x i:ε}{S U:aY}{n:Ε}{d:D}(ho:o.op=.indexAddr t x i)
  (hx:cA x=Α S) (hi:cA i=Α U) (hu:P.underlying t=Α (.slice e)) (hn:b_ P e=Α n) (aa:n≠0)
  (h:(do
  let i <-vj (U.ev env)
  match S.ev env with
  |.sl b off len f sz => do
   let _ <-pJ Y b sz
   let k <-Ec i len
   if f=n then Α (.ptr b (off+k * n) sz,Y,([]:Β Ε)) else Η
  |.c (.cY _ f) => do
   let k <-Ec i f.length
   let e <-f[k]?
   if e.length=n then Α (.c (.cM e 0),Y,[]) else Η
  |_=>Η)=Α (d,Y',[])):Y'=Y/\Yields P (Ω a.eval o) Y M Fz w d:=by
 have u:=oY E hx;have F:=oY E hi;simp only[ft,dt] at h;obtain ⟨z,W,h⟩:=h;obtain ⟨k0,G⟩:=jQ F W;have K:∀v len cap,a.eval x=.slice (Α v) len cap->0<=z->z<len->(Ω a.eval o).run P w=.ok (.value (.pointer (Α (v.add (z.toNat * n))))) w:=by intro v len cap L y A;simp only[Ω,ho,Instr.indexAt,Sem.run_bind,G,vb,Sem.run_pure,Ξ,xa hu,L];rw[Λ ⟨y,A⟩];simp only[Sem.run_bind,Ss hn,Ξ,Sem.run_pure]
 split at h
 ·rename_i b off len f sz N;rw[N] at u;simp only[dt] at h;obtain ⟨cs,hr,k,hk,h⟩:=h;split at h
  ·rename_i O;simp only[az,ba] at h;obtain ⟨rfl,rfl,_⟩:=h;obtain ⟨y,A,X,h4⟩:=EP hk;rcases u.gq hr with ⟨_,e2,_⟩ | ⟨c,o',cap,ab,T,hM,g,hl,σ,hh,l,Q⟩
   ·omega
   grind [Yields.same,fo,V.mkPtr]
  simp_all
 ·rename_i nn f N;rw[N] at u;simp only[dt] at h;obtain ⟨k,hk,m,p,h⟩:=h;split at h
  ·rename_i O;simp only[az,ba] at h;obtain ⟨rfl,rfl,_⟩:=h;obtain ⟨y,A,X,h4⟩:=EP hk;have q:=u.q_;generalize g:a.eval x=va at q;cases q with
   |cY aD v cap af W c Q l hc R=>
    have r:aD=n:=by grind
    subst r;have s:0<m.length:=by omega
    obtain ⟨blk,o0,rfl,hF,_,_⟩:=hc k 0 m m[0] p (eI s);refine ⟨rfl,Yields.same (K _ _ _ g y A) ?_⟩;rw[fo,X];refine .c ?_;have:=VC.cM (Fz:=Fz) (w:=w) (cs:=m) (off:=0) blk (o0+k * aD) (c k) hF (λj d Z=>?_) (λj d Z=>R k j m d p Z)
    ·omega
    grind
  simp_all
 simp_all
def PP(A:Gl.ok Fz w)(E:dJ Y M Fz w env a.tmps){o:ϊ}{t e:Ψ}{x i:ε}{L N:aY}{n len:Ε}{d:D}(Q:o.op=.indexAddr t x i)
  (R:cA x=Α L) (hi:cA i=Α N) (F:P.underlying t=Α (.array len e)) (S:b_ P e=Α n)
  (h:(do
  let i <-vj (N.ev env)
  let k <-Ec i len
  match L.ev env with
  |.ptr b off sz=>Α (.ptr b (off+k * n) sz,Y,([]:Β Ε))
  |.c (.cM cs off)=>Α (.c (.cM cs (off+k * n)),Y,[])
  |.c (.Yt g) => match Gl.tab g with
   |[]=>Η
   |v::p=>Α (.c (.cM ((v::p).map .lit) (k * n)),Y,[])
  |_=>Η)=Α (d,Y',[])):Y'=Y/\Yields P (Ω a.eval o) Y M Fz w d:=by
 have l:=oY E R;have G:=oY E hi;simp only[ft,dt] at h;obtain ⟨z,T,k,hk,h⟩:=h;obtain ⟨Z,K⟩:=jQ G T;obtain ⟨U,W,X,h4⟩:=EP hk;have q:∀m,a.eval x=.pointer (Α m)->(Ω a.eval o).run P w=.ok (.value (.pointer (Α (m.add (k * n))))) w:=by intro m f;simp only[Ω,Q,Instr.indexAt,Sem.run_bind,K,vb,Sem.run_pure,Ξ,xa F,f,Ϧ];rw[Λ ⟨U,W⟩];simp only[Sem.run_bind,Ss S,Ξ,Sem.run_pure,X]
 split at h
 ·rename_i b off sz r;rw[r] at l;simp only[az,ba] at h;obtain ⟨rfl,rfl,_⟩:=h;obtain ⟨m,f,O⟩:=l.Kx (off:=k * n)
  grind [Yields.same]
 ·rename_i cs off r;rw[r] at l;simp only[az,ba] at h;obtain ⟨rfl,rfl,_⟩:=h;obtain ⟨m,f,O⟩:=l.q_.Kx (off:=k * n);exact ⟨rfl,Yields.same (q m f) (.c O)⟩
 ·rename_i g r;rw[r] at l;split at h
  ·simp at h
  ·rename_i v p hg;simp only[az,ba] at h;obtain ⟨rfl,rfl,_⟩:=h;have f:a.eval x=.pointer (Α ⟨g,0,Η⟩):=by
    generalize a.eval x=y at l;cases l with
    |c l=>cases l;rfl
   have σ:∀(j:Ε) u,(v::p)[j]? = Α u->Fz g/\w.cell? ⟨g,j,Η⟩=Α u/\u.oneCell'=Γ:=λj u s=>Gl.tabOk g j u A (by simp_all);refine ⟨rfl,Yields.same (q _ f) (.c ?_)⟩;have:=VC.cM (Fz:=Fz) (w:=w) (cs:=(v::p).map .lit) (off:=k * n) g 0 (λj=>((v::p)[j]?).getD default) (σ 0 v rfl).1 (λj d s=>?_) (λj d s=>?_)
   ·have e:(⟨g,0,Η⟩:t8).add (k * n)=⟨g,k * n,Η⟩:=by
     simp only[t8.add,TW]
     simp_all
    simp_all
   ·grind
   ·rw[nq,cL] at s;obtain ⟨u,F,rfl⟩:=s;simp only[F,UJ];exact .lit u
 simp_all
def fM(E:dJ Y M Fz w env a.tmps){x:ε}{f:aY}{n k:Ε}(g:cA x=Α f)(h:((vj (f.ev env)).bind λi=>Vl i n)=Α k)(b:Ε)(hm:n<=b)(d:BoundsCode) : (Ϫ (a.eval x) b d).run P w=.ok k w/\k<=n:=by simp only[dt] at h;obtain ⟨i,hi,hb⟩:=h;obtain ⟨o,e⟩:=jQ (oY E g) hi;obtain ⟨j,p,l,m⟩:=inB_inv hb;refine ⟨?_,m⟩;simp only[Ϫ,Sem.run_bind,e,vb,Sem.run_pure,Ξ];rw[Λ ⟨j,by omega⟩,l];rfl
def iN(E:dJ Y M Fz w env a.tmps){g hi:Δ ε}{i e:Δ aY}{len j cap l h:Ε}(b:ID g=Α i)(d:ID hi=Α e)(q:j<=cap)(r:e=Η->len<=j) (o:pW env len j e=Α h) (n:pW env 0 h i=Α l) : (Ϟ Γ len cap (g.map a.eval) (hi.map a.eval) Η).run P w=.ok (l,h,cap) w/\h<=j/\l<=h:=by have p:h<=j/\(match hi.map a.eval,(Η:Δ Ο) with|Α v,Α _=>Ϫ v cap .slice3B|Α v,Η=>Ϫ v cap (if Γ then .sliceAcap else .sliceAlen)|Η,Η=>pure len|Η,Α _=>stuck "Slice: max without high" : Sem Ε).run P w=.ok h w:=by{cases hi with|none=>simp only[ID,az] at d;subst d;simp only[pW,az] at o;simp_all|some x=>simp only[ID,cL] at d;obtain ⟨s,f,rfl⟩:=d;simp only[pW] at o;obtain ⟨t,u⟩:=fM (P:=P) (w:=w) E f o cap q .sliceAcap;simp_all};have hl:l<=h/\(match g.map a.eval with|Α v=>Ϫ v h (if (Η:Δ Ο).isSome then .slice3C else .sliceB)|Η=>pure 0:Sem Ε).run P w=.ok l w:=by{cases g with|none=>simp only[ID,az] at b;subst b;simp only[pW,az] at n;subst n;simp_all|some x=>simp only[ID,cL] at b;obtain ⟨s,f,rfl⟩:=b;simp only[pW] at n;obtain ⟨t,u⟩:=fM (P:=P) (w:=w) E f n h (cR _) .sliceB;simp_all};refine ⟨?_,p.1,hl.1⟩;have k:=p.2;have m:=hl.2;clear p hl;cases hi <;> cases g <;> simp only[Ep,yCl,Sem.run_pure,Result.ok.injEq,Nz] at k m <;>simp only[Ϟ,Ep,yCl,Sem.run_bind,Sem.run_pure,Ξ,k,m]
def slc_ok(E:dJ Y M Fz w env a.tmps){o:ϊ}{t e:Ψ}{x:ε}{R hi:Δ ε}{ox:aY}{p g:Δ aY}{n:Ε}{d:D}
  (ho:o.op=.slice t x R hi Η) (hx:cA x=Α ox) (r:ID R=Α p) (u:ID hi=Α g) (hu:P.underlying t=Α (.slice e)) (hn:b_ P e=Α n)
  (h:(match ox.ev env with
  |.c (.lit (.slice Η 0 0)) => do
   let h <-pW env 0 0 g
   let _ <-pW env 0 h p
   Α (.c (.lit (.slice Η 0 0)),Y,([]:Β Ε))
  |.c (.cY nn f) => do
   let h <-pW env f.length f.length g
   let l <-pW env 0 h p
   if f.all (λe=>e.length=n) then Α (.c (.cY nn ((f.take h).drop l)),Y,[]) else Η
  |.sl b off len f sz => do
   let _ <-pJ Y b sz
   let h <-(pW env len len g).orElse λ_=>pW env len ((sz-off) / f) g
   let l <-pW env 0 h p
   if f=n then Α (.sl b (off+l * n) (h-l) n sz,Y,[]) else Η
  |_=>Η)=Α (d,Y',[])):Y'=Y/\Yields P (Ω a.eval o) Y M Fz w d:=by
 have K:=oY E hx;have A:∀S len cap l h,a.eval x=.slice S len cap->(Ϟ Γ len cap (R.map a.eval) (hi.map a.eval) Η).run P w=.ok (l,h,cap) w ->
   (Ω a.eval o).run P w=.ok (.value (.slice (if cap=l then S else S.map (·.add (l * n))) (h-l) (cap-l))) w:=by
  intro S len cap l h k hb;have U:∀(s:Sem Ο),(match ϑ.slice e with | .array _ _=>s | _=>o9 t (a.eval x) (R.map a.eval) (hi.map a.eval) Η)=o9 t (a.eval x) (R.map a.eval) (hi.map a.eval) Η:=λ_=>rfl;simp only[Ω,ho,rx,Sem.run_bind,xa hu,Ξ,yCl];simp only[o9,Sem.run_bind,xa hu,Ξ,k,hb,Ss hn,Sem.run_pure]
 split at h
 ·rename_i L;rw[L] at K;simp only[ft,dt,az,ba] at h;obtain ⟨m,v,l,N,rfl,rfl,_⟩:=h;obtain ⟨hb,h3,h4⟩:=iN (P:=P) (w:=w) E r u (cR 0) (λ_=>cR _) v N;refine ⟨rfl,Yields.same (A _ _ _ _ _ K.cz hb) ?_⟩;obtain rfl:m=0:=by omega
  obtain rfl:l=0:=by omega
  exact .c (.lit _)
 ·rename_i nn f L;rw[L] at K;simp only[ft,dt] at h;obtain ⟨m,v,l,N,h⟩:=h;split at h
  ·rename_i a2;simp only[az,ba] at h;obtain ⟨rfl,rfl,_⟩:=h;have W:=K.q_;generalize k:a.eval x=va at W;cases W with
   |cY aD S cap a6 hz c aa z hc a7=>
    obtain ⟨hb,h3,h4⟩:=iN (P:=P) (w:=w) E r u z (λ_=>cR _) v N;refine ⟨rfl,Yields.same (A _ _ _ _ _ k hb) (.c ?_)⟩;have X:((f.take m).drop l).length=m-l:=by simp_all
    rw[<-X];refine .cY n _ _ (λhn=>by grind) (λhn=>by
     by_cases y:cap=l
     ·omega
     simp_all) (λi j=>c (l+i) j) (λe L=>?_) (by omega) (λi j e d F h6=>?_) (λi j e d F h6=>?_)
    ·grind
    ·rw[yBT] at F;have ab:=(fF.1 F).1;simp at ab;rw[yB3 (by omega)] at F;obtain ⟨blk,o0,rfl,hF,af,ak⟩:=hc (l+i) j e d F h6;have σ:aD=n:=by
      grind
     subst σ;refine ⟨blk,o0+l * aD,by rw[Κ (by omega)];simp[fo],hF,?_,ak⟩
     grind
    grind
  simp_all
 ·rename_i b off len f sz L;rw[L] at K;simp only[ft,dt] at h;obtain ⟨cs,hr,m,v,l,N,h⟩:=h;split at h
  ·rename_i an;subst an;simp only[az,ba] at h;obtain ⟨rfl,rfl,_⟩:=h;obtain ⟨F,h6⟩:=Rz hr;rcases K.gq hr with ⟨k,e2,e3,e4,e6⟩ | ⟨c,O,cap,Z,T,hM,k,hl,a5,hh,z,aa⟩
   ·subst e2;have av:pW env 0 0 g=Α m:=by
     simp_all
    obtain ⟨hb,h3,h4⟩:=iN (P:=P) (w:=w) E r u (cR 0) (λ_=>cR _) av N
    grind [Yields.same]
   obtain ⟨Q,ax,a0,a8,v⟩:∃Q,Q<=cap/\(g=Η->len<=Q)/\off+Q * f<=sz/\pW env len Q g=Α m:=by
    cases a1:pW env len len g with
    |some q=>grind
    |none=>
     rw[a1] at v;have v:pW env len ((sz-off) / f) g=Α m:=by simp_all
     have hd:(sz-off) / f * f<=sz-off:=Ε.div_mul_le_self _ _;refine ⟨_,?_,λe=>by grind [pW],by omega,v⟩;rcases Ε.eq_zero_or_pos f with h0 | h0
     ·simp_all
     ·exact Ε.div_le_of_le_mul (by grind)
   obtain ⟨hb,h3,h4⟩:=iN (P:=P) (w:=w) E r u ax a0 v N;refine ⟨rfl,Yields.same (A _ _ _ _ _ k hb) ?_⟩;have G:(if cap=l then Α (qo c O Η) else (Α (qo c O Η)).map (·.add (l * f)))=Α (if cap=l then qo c O Η else (qo c O Η).add (l * f)):=by grind
   rw[G];refine .sl _ _ _ (by simp) _ F (by grind [Ob.sz]) (λ_=>?_);have a9:l * f+(m-l) * f=m * f:=by rw[<-QV];simp_all
   have bb:m * f<=Q * f:=J_ _ h3;by_cases y:cap=l
   ·rw[Λ y];have h0:cap-l=0:=by omega
    subst y;refine .inr ⟨c,O,Z,T,hM,rfl,rfl,⟨by omega,by omega⟩,.inr (by omega),hh,?_,?_⟩
    ·grind
    ·omega
   ·rw[Κ y];have bc:l * f+(cap-l) * f=cap * f:=by rw[<-QV];grind
    refine .inr ⟨c,O+l * f,Z,T,hM,by rw[fo],rfl,⟨by omega,by omega⟩,?_,hh,by omega,by omega⟩;omega
  simp_all
 simp_all
theorem slca_ok(E:dJ Y M Fz w env a.tmps){o:ϊ}{t e:Ψ}{x:ε}{u:aY}{m off:Ε}{cs:Β C} (y:o.op=.slice t x Η Η Η) (z:cA x=Α u) (A:P.underlying t=Α (.array m e)) (F:b_ P e=Α 1) (p:u.ev env=.c (.cM cs off)) (G:off+m<=cs.length):Yields P (Ω a.eval o) Y M Fz w (.c (.cY Ι (((cs.drop off).take m).map λc=>[c]))):=by have v:=oY E z;rw[p] at v;have k:=v.q_;generalize q:a.eval x=R at k;cases k with|cM blk l c K L r=>have f:(((cs.drop off).take m).map λc=>[c]).length=m:=by{simp;omega};have n:(Ω a.eval o).run P w=.ok (.value (.slice (Α ⟨blk,l+off,Η⟩) (((cs.drop off).take m).map λc=>[c]).length m)) w:=by{rw[f];simp only[Ω,y,rx,Sem.run_bind,xa A,Ξ,yCl,q,Ϧ,Sem.run_pure,Ϟ,Ss F];simp only[yC3,yCC];split <;> rfl};have get:∀(i j:Ε)(e:Β C)(d:C),(((cs.drop off).take m).map λc=>[c])[i]? = Α e->e[j]? = Α d->j=0/\i<m/\cs[off+i]? = Α d:=by{intro i j e d b g;rw[nq,cL] at b;obtain ⟨x,b,rfl⟩:=b;have hi:=(fF.1 b).1;have N:j=0:=by{have:=(fF.1 g).1;simp at this;exact this};subst N;simp only[zT,az] at g;subst g;simp only[DU,yCg] at hi;refine ⟨rfl,by omega,?_⟩;rw[yB3 (by omega),yBT] at b;exact b};refine Yields.same n (.c (.cY 1 (Α ⟨blk,l+off,Η⟩) m (λ_=>rfl) (λh=>by cases h) (λi _=>c (off+i)) (λe p=>?_) (yCe f) (λi j e d b g=>?_) (λi j e d b g=>?_)));{obtain ⟨x,_,rfl⟩:=jp.1 p;rfl};{obtain ⟨rfl,hi,s⟩:=get i j e d b g;obtain ⟨O,Q⟩:=L _ d s;exact ⟨blk,l+off,rfl,K,by rw[show l+off+i * 1+0=l+(off+i) by omega];exact O,Q⟩};obtain ⟨rfl,hi,s⟩:=get i j e d b g;exact r _ d s
def slc3xok(E:dJ Y M Fz w env a.tmps){o:ϊ}{t e:Ψ}{x m hi p:ε}{u f g j:aY}{n b off len es sz h l:Ε}{cs:Β D} (A:o.op=.slice t x (Α m) (Α hi) (Α p)) (F:cA x=Α u) (q:cA m=Α f) (r:cA hi=Α g) (s:cA p=Α j) (y:P.underlying t=Α (.slice e)) (G:b_ P e=Α n) (K:u.ev env=.sl b off len es sz) (L:pJ Y b sz=Α cs) (N:((vj (j.ev env)).bind λi=>Vl i len)=Α len) (O:((vj (g.ev env)).bind λi=>Vl i len)=Α h) (Q:((vj (f.ev env)).bind λi=>Vl i h)=Α l) : Yields P (Ω a.eval o) Y M Fz w .any:=by have z:=oY E F;rw[K] at z;have σ:∀k cap,len<=cap->a.eval x=.slice k len cap->Yields P (Ω a.eval o) Y M Fz w .any:=by{intro k cap R d;have S:=(fM (P:=P) (w:=w) E s N cap R .slice3Acap).1;have U:=(fM (P:=P) (w:=w) E r O len (cR _) .slice3B).1;have W:=(fM (P:=P) (w:=w) E q Q h (cR _) .slice3C).1;have hb:(Ϟ Γ len cap (Α (a.eval m)) (Α (a.eval hi)) (Α (a.eval p))).run P w=.ok (l,h,len) w:=by{simp only[Ϟ,Sem.run_bind,Υ,S,Ξ,U,Δ.isSome,W,Sem.run_pure]};refine Yields.same (v:=.slice (if len=l then k else k.map (·.add (l * n))) (h-l) (len-l)) ?_ (.any _);simp only[Ω,A,rx,Sem.run_bind,xa y,Ξ,Ep];simp only[o9,Sem.run_bind,xa y,Ξ,d,hb,Ss G,Sem.run_pure]};rcases z.gq L with ⟨d,Z,_,_,_⟩ | ⟨c,o',cap,X,T,hM,d,hl,_,_,_,_⟩;{simp_all};grind
theorem Ri(E:dJ Y M Fz w env a.tmps){o:ϊ}{x:ε}{i:Ε}{h:aY}{ds:Β D}{d:D}(l:o.op=.extract x i)(m:cA x=Α h) (n:h.ev env=.bj ds) (j:ds[i]? = Α d):Yields P (Ω a.eval o) Y M Fz w d:=by have b:=oY E m;rw[n] at b;generalize f:a.eval x=p at b;cases b with|bj k q g=>have hi:=(fF.1 j).1;have e:k[i]? = Α (k[i]'(by omega)):=sf _;refine Yields.same ?_ (g i _ _ j e);simp[Ω,l,Instr.extract,f,e]
theorem list_ok(E:dJ Y M Fz w env a.tmps):∀(xs:Β ε)(os:Β aY),xs.mapM cA=Α os -> (xs.map a.eval).length=(os.map (aY.ev env)).length/\∀(i:Ε) d v,(os.map (aY.ev env))[i]? = Α d->(xs.map a.eval)[i]? = Α v->V Y M Fz w d v:=by intro xs;induction xs with|nil=>simp_all|cons x xs ih=>grind [ζ,oY]
def KG(E:dJ Y M Fz w env a.tmps){xs:Φ ε}{os:Β aY}(h:Mg xs=Α os) : (xs.map a.eval).size=(os.map (aY.ev env)).length/\∀(i:Ε) d v,(os.map (aY.ev env))[i]? = Α d->(xs.map a.eval)[i]? = Α v->V Y M Fz w d v:=by obtain ⟨b,e⟩:=list_ok E xs.toList os h;grind
def mkfn_ok(E:dJ Y M Fz w env a.tmps){o:ϊ}{f:Fn}{first cap:Φ ε}{b d:Β aY}(e:o.op=.makeFunc f first cap)(g:Mg first=Α b)(h:Mg cap=Α d) : Yields P (Ω a.eval o) Y M Fz w (.fn f (b.map (aY.ev env)) (d.map (aY.ev env))):=by obtain ⟨i,j⟩:=KG E g;obtain ⟨k,l⟩:=KG E h;refine Yields.same (v:=.func f (first.map a.eval) (cap.map a.eval)) ?_ (.fn _ _ i k j l);simp[Ω,e,Instr.makeFunc]
theorem Qi{t:Ψ}{n:Δ Ε}{cs:Β D}{vs:Φ Ο}{off:Ε}{d:D}(g:Gs P t=Α n)(f:wU n cs off=Α d)(p:vs.size=cs.length) (m:∀(i:Ε) d v,cs[i]? = Α d->vs[i]? = Α v->V Y M Fz w d v):∃v,(part t vs off).run P w=.ok v w/\V Y M Fz w d v:=by unfold Gs at g;have agg:∀(i:ey),P.info? t=Α i->n=Α i.size->(s9 t).run P w=.ok Γ w->∃v,(part t vs off).run P w=.ok v w/\V Y M Fz w d v:=by{intro i hi g b;subst g;simp only[wU] at f;split at f;{rename_i o;simp only[az] at f;subst f;refine ⟨.agg (vs.extract off (off+i.size)),by simp only[part,Sem.run_bind,b,Ξ,Υ,sizeOf,zdQ hi,Sem.run_pure],?_⟩;refine .agg _ (by grind) (λj x v q r=>?_);grind};simp_all};have one:n=Η->(s9 t).run P w=.ok Ι w->∃v,(part t vs off).run P w=.ok v w/\V Y M Fz w d v:=by{intro g b;subst g;simp only[wU] at f;have hi:=(fF.1 f).1;have e:vs[off]? = Α (vs[off]'(by omega)):=sf _;exact ⟨_,by simp only[part,Sem.run_bind,b,Ξ,cf,cD,e,Sem.run_pure],m _ _ _ f e⟩};cases hi:P.info? t with|none=>simp_all|some i=>cases l:P.underlying t with|none=>simp_all|some h=>rw[hi,l] at g;have k:(s9 t).run P w=.ok (h matches .struct _ | .array _ _) w:=by{simp only[s9,Sem.run_bind,xa l,Ξ];cases h <;> rfl};grind
theorem part_ok(E:dJ Y M Fz w env a.tmps){o:ϊ}{t:Ψ}{x:ε}{i:aY}{f:Ε}{j:Φ s8}{b:s8}{n:Δ Ε}{cs:Β D}{d:D}(k:o.op=.field t x f) (l:cA x=Α i) (m:P.underlying t=Α (.struct j)) (p:j[f]? = Α b) (q:Gs P b.type=Α n) (r:i.ev env=.agg cs) (s:wU n cs b.offset=Α d) : Yields P (Ω a.eval o) Y M Fz w d:=by have e:=oY E l;rw[r] at e;generalize g:a.eval x=A at e;cases e with|agg F u h=>obtain ⟨v,y,z⟩:=Qi (P:=P) q s u h;refine Yields.same (v:=v) ?_ z;simp only[Ω,k,Instr.field,Sem.run_bind,xa m,Ξ,p,g,asAgg,Sem.run_pure,y]
theorem aidx_ok(E:dJ Y M Fz w env a.tmps){o:ϊ}{t e:Ψ}{x i:ε}{j l:aY}{len sz k:Ε}{n:Δ Ε}{cs:Β D}{d:D}{z:Ζ}(m:o.op=.index t x i) (p:cA x=Α j) (hi:cA i=Α l) (q:P.underlying t=Α (.array len e)) (hs:b_ P e=Α sz) (r:Gs P e=Α n) (s:j.ev env=.agg cs) (u:vj (l.ev env)=Α z) (hk:Ec z len=Α k) (y:wU n cs (k * sz)=Α d):Yields P (Ω a.eval o) Y M Fz w d:=by have b:=oY E p;rw[s] at b;obtain ⟨O,f⟩:=jQ (oY E hi) u;obtain ⟨A,F,G,Q⟩:=EP hk;generalize g:a.eval x=R at b;cases b with|agg S K h=>obtain ⟨v,L,N⟩:=Qi (P:=P) r y K h;refine Yields.same (v:=v) ?_ N;simp only[Ω,m,Instr.index,Sem.run_bind,f,vb,Sem.run_pure,Ξ,xa q,g];rw[Λ ⟨A,F⟩];simp only[Sem.run_bind,Ss hs,Ξ,G,L]
end
end Go.Abs
end
section
namespace Go.Abs
variable[Gl]
section
variable{P:Ν}{Y Y':ar}{M M':Ε->Δ Ε}{Fz:Ε->Prop}{w w':Ρ}{env:Β D}{a:Act}
def Za(E:dJ Y M Fz w env a.tmps){o:ϊ}{x:ε}{l:aY}{d:D}(j:o.op=.nilCheck x)(m:cA x=Α l) (h:(match l.ev env with|.ptr b off sz=>Α (.ptr b off sz,Y,([]:Β Ε))|.c (.cM n off)=>Α (.c (.cM n off),Y,[])|.c (.fn (.func f) first cap)=>Α (.c (.fn (.func f) first cap),Y,[])|.fn (.func f) first cap=>Α (.fn (.func f) first cap,Y,[])|_=>Η)=Α (d,Y',[])):Y'=Y/\Yields P (Ω a.eval o) Y M Fz w d:=by have e:=oY E m;split at h;{rename_i i;rw[i] at e;simp only[az,ba] at h;obtain ⟨rfl,rfl,_⟩:=h;refine ⟨rfl,Yields.same (v:=a.eval x) ?_ e⟩;generalize g:a.eval x=k at e;cases e with|ptr=>simp[Ω,j,g]};{rename_i i;rw[i] at e;simp only[az,ba] at h;obtain ⟨rfl,rfl,_⟩:=h;refine ⟨rfl,Yields.same (v:=a.eval x) ?_ e⟩;generalize g:a.eval x=k at e;cases e with|c e => cases e with|cM=>simp[Ω,j,g]};{rename_i i;rw[i] at e;simp only[az,ba] at h;obtain ⟨rfl,rfl,_⟩:=h;refine ⟨rfl,Yields.same (v:=a.eval x) ?_ e⟩;generalize g:a.eval x=k at e;cases e with|c e => cases e with|fn=>simp[Ω,j,g]};{rename_i i;rw[i] at e;simp only[az,ba] at h;obtain ⟨rfl,rfl,_⟩:=h;refine ⟨rfl,Yields.same (v:=a.eval x) ?_ e⟩;generalize g:a.eval x=k at e;cases e with|fn=>simp[Ω,j,g]};simp_all
inductive iS:ϑ->Ο->Ο->Μ->Prop where|p0 (e:Ψ):iS (.pointer e) (.pointer Η) (.pointer Η) Γ|p1 (e:Ψ) (ad:t8):iS (.pointer e) (.pointer (Α ad)) (.pointer Η) Ι|m0 (k e:Ψ):iS (.map k e) (.map Η) (.map Η) Γ|m1 (k e:Ψ) (r:Ε):iS (.map k e) (.map (Α r)) (.map Η) Ι|f0 (p r:Φ Ψ) (v:Μ):iS (.func p r v) .nilFunc .nilFunc Γ|f1 (p r:Φ Ψ) (v:Μ) (f:Fn) (x y:Φ Ο):iS (.func p r v) (.func f x y) .nilFunc Ι|s0 (e:Ψ):iS (.slice e) (.slice Η 0 0) (.slice Η 0 0) Γ|s1 (e:Ψ) (ad:t8) (n c:Ε):iS (.slice e) (.slice (Α ad) n c) (.slice Η 0 0) Ι
def Yf{t:Ψ}{d:ϑ}{x y:Ο}{b:Μ}(e:P.underlying t=Α d)(h:iS d x y b)(w:Ρ) : (Op.equal t x y).run P w=.ok b w/\(Op.equal t y x).run P w=.ok b w:=by constructor;{show (Op.equalIn (9999+1) t x y).run P w=_;generalize 9999=n;cases h <;> (unfold Op.equalIn;simp[xa e])};show (Op.equalIn (9999+1) t y x).run P w=_;generalize 9999=n;cases h <;> (unfold Op.equalIn;simp[xa e])
def DO{t:Ψ}{d:ϑ}{x y:Ο}{b:Μ}(e:P.underlying t=Α d)(h:iS d x y b)(neg:Μ)(X σ:ε)(w:Ρ) :
  ((do mu (if neg then .neq else .eql) t X σ x y;pF (if neg then .neq else .eql) t x y:Sem Ο).run P w=.ok (.bool (if neg then !b else b)) w) /\
  ((do mu (if neg then .neq else .eql) t σ X y x;pF (if neg then .neq else .eql) t y x:Sem Ο).run P w=.ok (.bool (if neg then !b else b)) w):=by
 obtain ⟨f,g⟩:=Yf e h w;have i:∀op,(mu op t X σ x y).run P w=.ok () w:=by intro op;cases h <;> cases op <;> rfl
 have j:∀op,(mu op t σ X y x).run P w=.ok () w:=by intro op;cases h <;> cases op <;> rfl
 have k:(pF (if neg then .neq else .eql) t x y).run P w=.ok (.bool (if neg then !b else b)) w:=by
  cases neg
  ·have:pF .eql t x y=(do pure (.bool (<-Op.equal t x y)):Sem Ο):=by cases h <;> rfl
   simp_all
  ·have:pF .neq t x y=(do pure (.bool (!(<-Op.equal t x y))):Sem Ο):=by cases h <;> rfl
   simp_all
 have l:(pF (if neg then .neq else .eql) t y x).run P w=.ok (.bool (if neg then !b else b)) w:=by
  cases neg
  ·have:pF .eql t y x=(do pure (.bool (<-Op.equal t y x)):Sem Ο):=by cases h <;> rfl
   simp_all
  ·have:pF .neq t y x=(do pure (.bool (!(<-Op.equal t y x))):Sem Ο):=by cases h <;> rfl
   simp_all
 simp_all
def Ji{l:ϑ}{k:Ε}{d:D}{v:Ο}{b:Μ}(hk:Cd l=Α k)(e:V Y M Fz w d v)(h:isNil k d=Α b) : ∃f,iS l v f b/\((k=0/\f=.pointer Η)\/(k=1/\f=.map Η)\/(k=2/\f=.nilFunc)\/(k=3/\f=.slice Η 0 0)):=by cases l <;> simp only[Cd,az,reduceCtorEq] at hk <;> subst hk;{cases d with|ptr=>{simp only[isNil,az] at h;subst h;cases e with|ptr g=>exact ⟨_,.p1 _ g,.inl ⟨rfl,rfl⟩⟩}|c x=>{cases x with|cM=>{simp only[isNil,az] at h;subst h;cases e with|c e => cases e with|cM=>exact ⟨_,.p1 _ _,.inl ⟨rfl,rfl⟩⟩}|lit u=>cases u <;> simp[isNil] at h;rename_i p;cases p <;> simp at h;subst h;rw[e.cz];exact ⟨_,.p0 _,.inl ⟨rfl,rfl⟩⟩|_=>grind [isNil]}|_=>grind [isNil]};{cases d with|sl b off len aD sz=>{cases len with|zero=>simp[isNil] at h|succ len=>simp only[isNil,az] at h;subst h;cases e with|sl g n cap i=>cases g with|none=>simp_all|some g=>exact ⟨_,.s1 _ _ _ _,.inr (.inr (.inr ⟨rfl,rfl⟩))⟩}|c x=>{cases x with|cY nn o=>{cases nn <;> simp only[isNil,az,reduceCtorEq] at h;subst h;have j:=e.q_;generalize m:C.cY Γ o=x at j;cases j with|cY aD g cap i=>simp only[C.cY.injEq] at m;obtain ⟨rfl,rfl⟩:=m;obtain ⟨q,rfl⟩:=yBs.1 (i rfl);exact ⟨_,.s1 _ _ _ _,.inr (.inr (.inr ⟨rfl,rfl⟩))⟩|_=>grind}|lit u=>(cases u <;> try grind [isNil]);rename_i p n c;cases p <;> cases n <;> cases c <;> simp[isNil] at h;subst h;rw[e.cz];exact ⟨_,.s0 _,.inr (.inr (.inr ⟨rfl,rfl⟩))⟩|_=>grind [isNil]}|_=>grind [isNil]};{cases d with|mp=>{simp only[isNil,az] at h;subst h;cases e with|mp=>exact ⟨_,.m1 _ _ _,.inr (.inl ⟨rfl,rfl⟩)⟩}|c x=>{cases x with|Qr=>{simp only[isNil,az] at h;subst h;cases e with|c e => cases e with|Qr=>exact ⟨_,.m1 _ _ _,.inr (.inl ⟨rfl,rfl⟩)⟩}|lit u=>cases u <;> simp[isNil] at h;rename_i p;cases p <;> simp at h;subst h;rw[e.cz];exact ⟨_,.m0 _ _,.inr (.inl ⟨rfl,rfl⟩)⟩|_=>grind [isNil]}|_=>grind [isNil]};cases d with|fn=>{simp only[isNil,az] at h;subst h;cases e with|fn=>exact ⟨_,.f1 _ _ _ _ _ _,.inr (.inr (.inl ⟨rfl,rfl⟩))⟩}|c x=>{cases x with|fn=>{simp only[isNil,az] at h;subst h;cases e with|c e => cases e with|fn=>exact ⟨_,.f1 _ _ _ _ _ _,.inr (.inr (.inl ⟨rfl,rfl⟩))⟩}|lit u=>cases u <;> simp[isNil] at h;subst h;rw[e.cz];exact ⟨_,.f0 _ _ _,.inr (.inr (.inl ⟨rfl,rfl⟩))⟩|_=>grind [isNil]}|_=>grind [isNil]
def wh{k:Ε}{x:ε}{b:Ο}(h:tL k x=Γ)(d:(k=0/\b=.pointer Η)\/(k=1/\b=.map Η)\/(k=2/\b=.nilFunc)\/(k=3/\b=.slice Η 0 0)):x=.const b:=by unfold tL at h;grind
def Po(E:dJ Y M Fz w env a.tmps){o:ϊ}{t s:Ψ}{m:ϑ}{x y:ε}{neg:Μ}{k n:Ε}{d:Μ}{p:aY}{b:Μ} (q:o.op=.binOp (if neg then .neq else .eql) t x y s) (r:P.underlying t=Α m) (hk:Cd m=Α k) (f:xG k neg x y=Α (.jA n d p)) (hb:isNil n (p.ev env)=Α b) : Yields P (Ω a.eval o) Y M Fz w (.c (.lit (.bool (if d then !b else b)))):=by unfold xG at f;split at f;{rename_i u;simp only[cL,lY.jA.injEq] at f;obtain ⟨j,g,rfl,rfl,rfl⟩:=f;obtain ⟨h,l,i⟩:=Ji hk (oY E g) hb;obtain rfl:=wh u i;refine Yields.same (v:=.bool (if neg then !b else b)) ?_ (.c (.lit _));have:=(DO r l neg x (.const h) w).1;simp only[Ω,q,Sem.run_bind];simp only[Sem.run_bind] at this;have e:a.eval (.const h)=h:=rfl;simp_all};split at f;{rename_i z;simp only[cL,lY.jA.injEq] at f;obtain ⟨j,g,rfl,rfl,rfl⟩:=f;obtain ⟨h,l,i⟩:=Ji hk (oY E g) hb;obtain rfl:=wh z i;refine Yields.same (v:=.bool (if neg then !b else b)) ?_ (.c (.lit _));have:=(DO r l neg y (.const h) w).2;simp only[Ω,q,Sem.run_bind];simp only[Sem.run_bind] at this;have e:a.eval (.const h)=h:=rfl;simp_all};simp_all
def sY{d:D}{v:Ο}{n:Ε}(b:V Y M Fz w d v)(h:Nn Y d=Α n):∃g cap,v=.slice g n cap:=by unfold Nn at h;split at h;{grind [V.cz]};{simp only[az] at h;subst h;cases b with|c b => cases b with|cY=>simp_all};{split at h;{rename_i e;simp only[az] at h;subst h;obtain ⟨j,e⟩:=yBs.1 e;rcases b.gq e with ⟨f,k,_⟩ | ⟨c,o,cap,i,T,_,f,_⟩;{simp_all};simp_all};simp_all};simp_all
theorem NQ{es:Β (Β C)}{n:Ε}(h:∀e∈es,e.length=n):∀(i j:Ε) e d,es[i]? = Α e->e[j]? = Α d->es.flatten[i * n+j]? = Α d:=by induction es with|nil=>simp_all|cons b es ih=>intro i j e d f g;have k:=h b (by simp);cases i with|zero=>grind|succ i=>grind
theorem NJ{es:Β (Β C)}{n:Ε}(h:∀e∈es,e.length=n):es.flatten.length=es.length * n:=by induction es with|nil=>simp|cons b es ih=>grind
def zbK(R:Rel Y M Fz w){d:D}{v:Ο}{aD n:Ε}{cs:Β D}(Q:V Y M Fz w d v)(h0:aD≠0)(h:zee Y aD n d=Α cs) : ∃arr,(Ϗ aD n v).run P w=.ok arr w/\FP Y M Fz w cs arr/\cs.length=n * aD:=by have load:∀(l:t8)(len cap:Ε)(cs:Β D),v=.slice (Α l) len cap->cs.length=n * aD -> (∀(i:Ε) x,cs[i]? = Α x->∃u,w.cell? (l.add i)=Α u/\V Y M Fz w x u/\u.oneCell'=Γ) -> ∃arr,(Ϗ aD n v).run P w=.ok arr w/\FP Y M Fz w cs arr/\cs.length=n * aD:=by{intro l len cap cs g m r;let f:Ε->Ο:=λj=>(w.cell? (l.add j)).getD ϛ;have hf:∀j,j<n * aD->w.cell? (l.add j)=Α (f j):=by{intro j N;obtain ⟨u,O,_⟩:=r j _ (eI (by omega));grind};have y:=run_loadCells (P:=P) (w:=w) l (n * aD) f hf;refine ⟨_,by rw[g];simp only[Ϗ];exact y,⟨by simp_all,λi x u O h2=>?_⟩,m⟩;grind};have s:∀(cs:Β D),n=0->cs=[]->(∃l len cap,v=.slice l len cap)->∃arr,(Ϗ aD n v).run P w=.ok arr w/\FP Y M Fz w cs arr/\cs.length=n * aD:=by{intro cs t z ⟨l,len,cap,g⟩;subst t z;cases l with|none=>exact ⟨#[],by rw[g];rfl,⟨rfl,λi x u h=>by simp at h⟩,by simp⟩|some l=>simp_all};unfold zee at h;split at h;{split at h;{rename_i t;simp only[az] at h;exact s cs t h.symm ⟨_,_,_,Q.cz⟩};simp_all};{rename_i nn k;split at h;{rename_i S;simp only[az] at h;subst h;obtain ⟨t,ab⟩:=S;have m:∀e∈k.take n,e.length=aD:=λe he=>by{grind};have U:((k.take n).flatten.map D.c).length=n * aD:=by{grind [NJ,B3]};have A:=Q.q_;generalize g:v=va at A;cases A with|cY sz l cap ax _ c E F G W=>by_cases X:n=0;{simp_all};have hp:0<k.length:=by{omega};have σ:k[0]? = Α k[0]:=eI hp;have a0:k[0].length=aD:=by{grind};have K:sz=aD:=by{simp_all};subst K;obtain ⟨blk,o0,rfl,_⟩:=G 0 0 k[0] (k[0][0]'(by omega)) σ (eI _);refine g▸load _ _ _ _ g U (λi x hi=>?_);have p:i<n * sz:=by{grind};have af:i / sz<n:=Ε.div_lt_of_lt_mul (by grind);have ak:i % sz<sz:=Ε.mod_lt _ (by omega);have hk:k[i / sz]? = Α (k[i / sz]'(by omega)):=eI _;have Z:(k.take n)[i / sz]? = Α (k[i / sz]'(by omega)):=by{simp_all};have a1:(k[i / sz]'(by omega)).length=sz:=E _ (bG _);have N:(k[i / sz]'(by omega))[i % sz]? = Α ((k[i / sz]'(by omega))[i % sz]'(by omega)):=eI _;have L:=NQ m (i / sz) (i % sz) _ _ Z N;rw[show i / sz * sz+i % sz=i from by grind [C5]] at L;rw[nq,L] at hi;simp only[Ep,az] at hi;subst hi;obtain ⟨an,a2,O,h2,h3,h4⟩:=G _ _ _ _ hk N;simp only[az,t8.mk.injEq,Nz] at O;obtain ⟨rfl,rfl⟩:=O;refine ⟨_,?_,.c (W _ _ _ _ hk N),h4⟩;grind [fo,C5]};simp_all};{rename_i b off len k sz;simp only[ft,dt] at h;obtain ⟨row,hr,h⟩:=h;split at h;{rename_i S;obtain ⟨rfl,t,a5⟩:=S;simp only[az] at h;subst h;obtain ⟨hb,E⟩:=Rz hr;rcases Q.gq hr with ⟨g,e2,_⟩ | ⟨c,o,cap,arr,T,hM,g,hl,av,hh,F,_⟩;{simp_all};by_cases X:n=0;{simp_all};have aa:o=off:=by{omega};subst aa;have a6:n * k<=len * k:=J_ _ t;obtain ⟨q,T',a7,a8,z⟩:=R.row hM hb;refine load _ _ _ _ g (by grind) (λi x hi=>?_);have p:i<n * k:=by{grind};rw[yB3 p,yBT] at hi;have a9:=(fF.1 hi).1;have e:q[o+i]? = Α (q[o+i]'(by omega)):=sf _;grind [fo,Go.cell_of_row]};simp_all};simp_all
def len_ok(E:dJ Y M Fz w env a.tmps){o:ϊ}{t e:Ψ}{x:ε}{g:aY}{args:Φ ε}{d:Φ Ψ}{n:Ε}(i:o.op=.call { callee:=.builtin .len,args:=args,argTypes:=d }) (j:d[0]? = Α t) (k:args[0]? = Α x) (hs:args.size=1) (l:cA x=Α g) (m:P.underlying t=Α (.slice e)) (h:Nn Y (g.ev env)=Α n) : Yields P (Ω a.eval o) Y M Fz w (.c (.lit (.int .i64 n))):=by obtain ⟨p,cap,f⟩:=sY (oY E l) h;have b:args=#[x]:=by{grind};subst b;refine Yields.same (v:=.int .i64 n) ?_ (.c (.lit _));simp[Ω,i,resolve,invoke,builtin,Ϻ,j,xa m,f,zb]
def Xk{o:ϊ}{t e:Ψ}{x:ε}{args:Φ ε}{d:Φ Ψ}{n:Ε}(f:o.op=.call { callee:=.builtin .len,args:=args,argTypes:=d }) (g:d[0]? = Α t) (h:args[0]? = Α x) (hs:args.size=1) (i:P.underlying t=Α (.array n e)) : Yields P (Ω a.eval o) Y M Fz w (.c (.lit (.int .i64 n))):=by have b:args=#[x]:=by{grind};subst b;refine Yields.same (v:=.int .i64 n) ?_ (.c (.lit _));simp[Ω,f,resolve,invoke,builtin,Ϻ,g,xa i,zb]
def Wn(R:Rel Y M Fz w)(E:dJ Y M Fz w env a.tmps){o:ϊ}{t k e:Ψ}{x:ε}{q:aY}{args:Φ ε}{m:Φ Ψ}{n:Ε}(r:o.op=.call { callee:=.builtin .len,args:=args,argTypes:=m }) (s:m[0]? = Α t) (G:args[0]? = Α x) (hs:args.size=1) (K:cA x=Α q) (u:P.underlying t=Α (.map k e)) (h:(∃b y d,q.ev env=.mp b/\Y[b]? = Α (.map y d)/\n=y.length)\/(q.ev env=.c (.lit (.map Η))/\n=0)\/∃z,q.ev env=.c (.Qr z)/\n=z.length) : fH P (Ω a.eval o) Y M Fz w Y (.c (.lit (.int .i64 n))):=by have g:args=#[x]:=by{grind};subst g;refine fH.same R (v:=.int .i64 n) ?_ (.c (.lit _));have f:=oY E K;rcases h with ⟨b,y,d,p,hb,rfl⟩ | ⟨p,rfl⟩ | ⟨z,p,rfl⟩;{rw[p] at f;generalize i:a.eval x=L at f;cases f with|mp c X j N=>rw[hb] at j;simp only[az] at j;subst j;obtain ⟨_,O,σ,A,Q,S⟩:=R.blk b c (N rfl);rw[hb] at A;simp only[az] at A;subst A;obtain ⟨F,⟨Z,rfl,_⟩,l,_⟩:=S;simp[Ω,r,resolve,invoke,builtin,Ϻ,s,xa u,i,zb,vv,Sem.run,Q,l]};{rw[p] at f;simp[Ω,r,resolve,invoke,builtin,Ϻ,s,xa u,f.cz,zb]};rw[p] at f;generalize i:a.eval x=L at f;cases f with|c f => cases f with|Qr blk d F hF T l U W=>simp[Ω,r,resolve,invoke,builtin,Ϻ,s,xa u,i,zb,vv,Sem.run,T,l]
theorem V.EM{d:D}{v:Ο}(h:V Y M Fz w d v):V Y M Fz w (EM d) v:=by unfold Abs.EM;split;{have:=h.cz;subst this;exact .c (.cY (nn:=Ι) (es:=[]) 0 Η 0 (by simp) (by simp) (λ_ _=>default) (by simp) (by simp) (by simp) (by simp))};exact h
theorem FP.EM{cs:Β D}{arr:Φ Ο}(h:FP Y M Fz w cs arr):FP Y M Fz w (cs.map EM) arr:=⟨by simpa using h.1,fun i x u j o=>by rw [nq,cL] at j;obtain ⟨y,s,rfl⟩:=j;exact ⟨(h.2 i y u s o).1.EM,(h.2 i y u s o).2⟩⟩
def Pg(A:∀c,Fz c->c<w.heap.size)(E:dJ Y M Fz w env a.tmps){o:ϊ}{t e:Ψ}{x y:ε}{S T:aY}{n:Ε}{i:ey}{z:Β D}{l c:Ζ}(W:o.op=.makeSlice t x y) (X:P.underlying t=Α (.slice e)) (σ:b_ P e=Α n) (Z:Ys P e=Α z) (hi:P.info? e=Α i) (k:¬(n=0\/z.length≠n)) (hx:cA x=Α S) (hy:cA y=Α T) (hl:vj (S.ev env)=Α l) (hc:vj (T.ev env)=Α c) (p:0<=l/\l<=c/\HK c.toNat i.bytes=Γ) : ai P (Ω a.eval o) Y M Fz w (.cells (dU l.toNat (z.map EM))) (.sl Y.length 0 l.toNat n (l.toNat * n)):=by obtain ⟨i',v,g,hv,F⟩:=zeN Z;rw[hi] at g;simp only[az] at g;subst g;have d:=(FP.xH (V.dV (Y:=Y) (M:=M) (Fz:=Fz) (w:=w) v) F).EM;simp only[ϟ,WU] at k;obtain ⟨aa,j⟩:=k;have q:z.map EM≠[]:=λh=>by{simp_all};rw[<-xM (f:=EM)] at j;generalize z.map EM=z at *;have ab:v.cells.size=n:=by{rw[d.1,j]};obtain ⟨h0,ad,b⟩:=p;simp only[HK,bS,bH] at b;obtain ⟨⟨af,ak⟩,_⟩:=b;obtain ⟨k1,G⟩:=jQ (oY E hx) hl;obtain ⟨k2,K⟩:=jQ (oY E hy) hc;obtain ⟨an,L⟩:=JZ d q l.toNat c.toNat (by omega);have N:(dU l.toNat z).length=l.toNat * n:=by{rw[sU,j]};have U:c<=1099511627776:=by{omega};have O:i64.wrap l=l:=IntWalk.i64_in _ (by omega);have Q:i64.wrap c=c:=IntWalk.i64_in _ (by omega);let arr:Φ Ο:=(ϰ (c.toNat * n)).map (λ(x:Ε)=>v.cells[x % v.cells.size]!);have r:arr=(ϰ (c.toNat * v.cells.size)).map (v.cells[· % v.cells.size]!):=by{grind};obtain ⟨r1,r2⟩:=rO (P:=P) A (arr:=arr) (cs:=dU l.toNat z) e (by simp_all) (by rw[r];exact L);refine ⟨_,.slice (Α ⟨w.heap.size,0,Η⟩) l.toNat c.toNat,?_,r2,?_⟩;{have s:∀m:Ζ,0<=m->m<=c->(m<0 || (i.bytes:Ζ) * m > 2 ^ 48)=Ι:=by{intro m av R;have h1:(i.bytes:Ζ) * m<=i.bytes * c:=Ζ.mul_le_mul_of_nonneg_left R (by omega);grind};simp only[Ω,W,Instr.makeSlice,Sem.run_bind,xa X,Ξ,G,K,asInt,vb,Sem.run_pure,zdQ hi,O,Q];rw[s c (by omega) (Ic _)];rw[Κ (by simp_all)];simp only[Sem.run_bind,Sem.run_pure,Ξ,run_askRoom,Ss σ];by_cases u:c.toNat * n=0;{have ax:c.toNat=0:=by{grind [C4]};have a0:l.toNat=0:=by{omega};rw[Λ u];simp only[Sem.run_bind,Sem.run_pure,Ξ];have:(ϰ (c.toNat * n)).map (λ(x:Ε)=>(#[]:Φ Ο)[x % (#[]:Φ Ο).size]!)=arr:=by{grind};simp_all};rw[Κ u];simp only[Sem.run_bind,kJ hi hv,Ξ,Sem.run_pure];simp_all};rw[<-N];refine V.newSl (cap:=c.toNat) (by omega) ?_ (by omega) (by simp_all);grind
end
end Go.Abs
end
section
namespace Go.Abs
variable[Gl]
section
variable{P:Ν}{Y Y':ar}{M M':Ε->Δ Ε}{Fz:Ε->Prop}{w w':Ρ}{env:Β D}{a:Act}
def ZB{o:ϊ}{t:Ψ}(b:o.op=.makeMap t Η):ai P (Ω a.eval o) Y M Fz w (.map [] 0) (.mp Y.length):=by refine ⟨.map #[] 0,.map (Α w.heap.size),?_,?_,?_⟩;{simp only[Ω,b,Instr.makeMap,yCl,Sem.run_bind,Sem.run_pure,Ξ,run_newObj];rfl};{exact ⟨#[],⟨0,rfl,.nil 0⟩,rfl,λi k d n e h=>by simp at h⟩};exact .mp _ (.map [] 0) (by simp) (λ_=>by simp[yG])
def Rel.VJ(R:Rel Y M Fz w){b c:Ε}{es:Β (Ο×D×Ε)}{j:Ε}(hb:Y[b]? = Α (.map es j))(u:M b=Α c) : ∃arr o,w.heap[c]? = Α (.map arr o)/\(arr.size=es.length/\jW arr o)/\∀(i:Ε) k d n e,es[i]? = Α (k,d,n)->arr[i]? = Α e->e.key=k/\True/\V Y M Fz w d e.val:=by obtain ⟨_,x,E,s,F,z⟩:=R.blk b c u;rw[hb] at s;simp only[az] at s;subst s;obtain ⟨arr,⟨o,rfl,G⟩,A,K⟩:=z;grind
theorem V.MK{b:Ε}{v:Ο}{es:Β (Ο×D×Ε)}{i:Ε}(h:V Y M Fz w (.mp b) v)(hb:Y[b]? = Α (.map es i)):∃c,v=.map (Α c)/\M b=Α c:=by cases h with|mp c s j o=>rw[hb] at j;simp only[az] at j;subst j;exact ⟨c,rfl,o rfl⟩
theorem zeW{d:Ψ}{e:ϑ}(f:P.underlying d=Α e)(hs:gH e=Γ)(b:Μ)(v:Ο)(w:Ρ):(ra b 10000 d v).run P w=.ok () w:=by show (ra b (9999+1) d v).run P w=_;generalize 9999=n;unfold ra;cases e <;> simp[gH] at hs <;> simp[xa f]
theorem NH{kind:ϑ}{k:Ο}:∀(es:Β (Ο×D×Ε))(l:Β ew)(i:Ε)(r:Δ (Ε×D)),l.length=es.length -> (∀(j:Ε) k d n e,es[j]? = Α (k,d,n)->l[j]? = Α e->e.key=k/\V Y M Fz w d e.val)->zG kind k es i=Α r -> ∃ b, Instr.findNow kind k l i = Α b /\ (match r, b with|Η,Η=>True|Α (j,d),Α (m,v)=>j=m/\i<=j/\j<i+es.length/\V Y M Fz w d v/\∃e,l[j-i]? = Α e/\ϵ kind k e.key=Α Γ|_,_=>False):=by intro es;induction es with|nil=>intro l i r hl _ h;simp only[zG,az] at h;subst h;have:l=[]:=by{simp_all};subst this;exact ⟨Η,rfl,trivial⟩|cons x es ih=>intro l i r hl f h;obtain ⟨g,d,n⟩:=x;cases l with|nil=>grind|cons e l=>obtain ⟨hk,q⟩:=f 0 g d n e (by simp) (by simp);simp only[zG] at h;simp only[Instr.findNow,hk];cases hs:ϵ kind k g with|none=>simp_all|some t=>cases t with|true=>grind|false=>simp only[hs] at h;obtain ⟨b,o,p⟩:=ih l (i+1) r (by simp_all) (λj k d n e o p=>f (j+1) k d n e (by simp_all) (by simp_all)) h;grind
theorem Ke{d:D}{v b:Ο}(h:V Y M Fz w d b)(hl:lS d=Α v):b=v:=by cases d with|c x=>cases x <;> simp[lS] at hl;grind [V.cz]|_=>grind [lS]
theorem WQ(R:Rel Y M Fz w)(E:dJ Y M Fz w env a.tmps){o:ϊ}{t kt e:Ψ}{X:ϑ}{m k:ε}{σ ok:aY}{f:Μ}{zero d:D}{s:Μ}{Z:Ο}{es:Β (Ο×D×Ε)}{r:Δ (Ε×D)} (ho:o.op=.lookup t m k f) (hu:P.underlying t=Α (.map kt e)) (hk:P.underlying kt=Α X) (hs:gH X=Γ) (hz:zeroOf P e=Α zero) (hm:cA m=Α σ) (aa:cA k=Α ok) (ab:lS (ok.ev env)=Α Z) (ad:(σ.ev env=.c (.lit (.map Η))/\es=[])\/(∃b g,σ.ev env=.mp b/\Y[b]? = Α (.map es g))\/∃fs,σ.ev env=.c (.Qr fs)/\es=fs.map λp=>(p.1,.c p.2,0)) (hf:zG X Z es 0=Α r) (hr:(d,s)=QU zero r) : fH P (Ω a.eval o) Y M Fz w Y (if f then .bj [d,.c (.lit (.bool s))] else d):=by have F:=Ke (oY E aa) ab;obtain ⟨i,K,hi,N,af⟩:∃i K,P.info? e=Α i/\i.zero=Α K/\zero=dV K:=by{unfold zeroOf at hz;grind [ψ]};have G:=oY E hm;obtain ⟨l,O,ak,Q⟩:∃l:Φ ew,((a.eval m=.map Η/\l=#[])\/∃c,a.eval m=.map (Α c)/\∃g,(vv c).run P w=.ok (.map l g) w)/\l.size=es.length /\ ∀(i:Ε) k d n e,es[i]? = Α (k,d,n)->l[i]? = Α e->e.key=k/\V Y M Fz w d e.val:=by{rcases ad with ⟨S,rfl⟩ | ⟨b,g,S,hb⟩ | ⟨fs,S,rfl⟩;{rw[S] at G;exact ⟨#[],.inl ⟨G.cz,rfl⟩,rfl,λi k d n e h=>by simp at h⟩};{rw[S] at G;obtain ⟨c,A,hM⟩:=G.MK hb;obtain ⟨l,ck,T,⟨h2,_⟩,h3⟩:=R.VJ hb hM;grind [Go.getObj,Go.Sem.run]};rw[S] at G;generalize A:a.eval m=va at G;cases G with|c G => cases G with|Qr blk g l hF hh ak an av=>refine ⟨l,.inr ⟨blk,rfl,g,by simp[vv,Sem.run,hh]⟩,by simp_all,λi k d n e x y=>?_⟩;simp only[nq,cL,ba] at x;obtain ⟨p,hp,rfl,rfl,_⟩:=x;exact ⟨an i p e hp y,.c (av i p e hp y)⟩};obtain ⟨U,ax,a0⟩:=NH (kind:=X) (k:=Z) es l.toList 0 r (by omega) (λj k d n e T h2=>Q j k d n e T (by simp_all)) hf;have L:(ks kt Z l.toList).run P w=.ok U w:=by{simp only[ks,Sem.run_bind,xa hk,Ξ,ax,Sem.run_pure]};have W:∀v z,(U=Η/\v=K/\z=Ι\/∃j,U=Α (j,v)/\z=Γ) -> (Ω a.eval o).run P w=.ok (.value (if f then .tuple #[v,.bool z] else v)) w:=by{intro v z h;rcases h with ⟨rfl,rfl,rfl⟩ | ⟨j,rfl,rfl⟩ <;> rcases O with ⟨A,rfl⟩ | ⟨c,A,g,hg⟩;{simp only[Ω,ho,wd,Sem.run_bind,xa hu,Ξ,A,Sem.run_pure,F,zeW hk hs,L,kJ hi N]};{simp only[Ω,ho,wd,Sem.run_bind,xa hu,Ξ,A,hg,Sem.run_pure,F,zeW hk hs,L,kJ hi N]};{grind};simp only[Ω,ho,wd,Sem.run_bind,xa hu,Ξ,A,hg,Sem.run_pure,F,zeW hk hs,L]};have fin:∀v z,V Y M Fz w d v->s=z->V Y M Fz w (if f then .bj [d,.c (.lit (.bool s))] else d) (if f then .tuple #[v,.bool z] else v):=by{intro v z hV ht;subst ht;cases f;{exact hV};refine .bj _ rfl (λi x u T h2=>?_);match i with|0=>simp_all|1=>simp at T h2;subst T h2;exact .c (.lit _)|i+2=>grind};cases r with|none=>{cases U with|some _=>simp_all|none=>simp only[QU,ba] at hr;obtain ⟨rfl,rfl⟩:=hr;exact fH.same R (W K Ι (.inl ⟨rfl,rfl,rfl⟩)) (fin K Ι (af▸V.dV K) rfl)}|some p=>obtain ⟨j,d'⟩:=p;cases U with|none=>simp_all|some q=>obtain ⟨j',v⟩:=q;obtain ⟨rfl,_,_,hV,_⟩:=a0;simp only[QU,ba] at hr;grind [fH.same]
def Rr{b:ϑ}{x y:Ο}(hs:gH b=Γ)(h:ϵ b x y=Α Γ):x=y/\∀n,Instr.sameBits n x y=Γ:=by cases b <;> simp[gH] at hs;cases x <;> cases y <;> simp[ϵ] at h;obtain ⟨rfl,rfl⟩:=h;exact ⟨rfl,λn=>by grind [Go.Instr.sameBits]⟩
theorem upd_ok(R:Rel Y M Fz w)(E:dJ Y M Fz w env a.tmps){o:ϊ}{t kt e:Ψ}{kd:ϑ}{m k x:ε}{om ok W:aY}{K:Ο}{b f:Ε}{es:Β (Ο×D×Ε)}{r:Δ (Ε×D)} (ho:o.op=.mapUpdate t m k x\/o.op=.insert t m k x) (hu:P.underlying t=Α (.map kt e)) (hk:P.underlying kt=Α kd) (hs:gH kd=Γ) (hm:cA m=Α om) (av:cA k=Α ok) (hx:cA x=Α W) (ax:lS (ok.ev env)=Α K) (he:om.ev env=.mp b) (hb:Y[b]? = Α (.map es f)) (hf:zG kd K es 0=Α r) : fH P (Ω a.eval o) Y M Fz w (Y.set b (match r with|Α (i,_)=>.map (es.modify i λ(k,_,n)=>(k,W.ev env,n)) f|Η=>.map (es++[(K,W.ev env,f)]) (f+1))) (.bj []):=by have σ:Ω a.eval o=Ω a.eval { o with op:=.mapUpdate t m k x }:=by{rcases ho with ho | ho <;> simp only[Ω,ho]};have N:=Ke (oY E av) ax;have hv:=oY E hm;rw[he] at hv;have Z:=oY E hx;obtain ⟨c,aa,hM⟩:=hv.MK hb;obtain ⟨g,O,Q,⟨a0,hB⟩,s⟩:=R.VJ hb hM;obtain ⟨r',a1,a2⟩:=NH (kind:=kd) (k:=K) es g.toList 0 r (by omega) (λj k d n e Q F=>let ⟨x,_,y⟩:=s j k d n e Q (by simp_all);⟨x,y⟩) hf;have ab:(ks kt K g.toList).run P w=.ok r' w:=by{simp only[ks,Sem.run_bind,xa hk,Ξ,a1,Sem.run_pure]};have ad:(vv c).run P w=.ok (.map g O) w:=by{simp[vv,Sem.run,Q]};have af:∀G,(setObj c G).run P w=.ok () (c_ w c G):=by{intro G;simp only[setObj,Sem.run,Q];rfl};have u:∀G:C3,∀S T fr,C3.map g O=.cells S T fr->∃U,G=.cells U T fr/\U.size=S.size:=by{simp_all};have fin:∀z G,z.sz=0->(Ω a.eval o).run P w=.ok .skip (c_ w c G)->cu (Y.set b z) M Fz (c_ w c G) z G->fH P (Ω a.eval o) Y M Fz w (Y.set b z) (.bj []):=by{intro z G hz ak a5;have A:(Ob.map es f).sz<=z.sz:=by{simp[Ob.sz]};exact ⟨.skip,ϛ,_,M,ak,.inr ⟨rfl,rfl⟩,R.AV hM hb Q A (u G) a5,.bj #[] rfl (λi d v h=>by simp at h),bP.AV R hM hb Q A (u G),by simp⟩};cases r with|none=>{cases r' with|some _=>simp_all|none=>refine fin (.map (es++[(K,W.ev env,f)]) (f+1)) (.map (g.push { key:=K,val:=a.eval x,born:=O }) (O+1)) rfl ?_ ?_;{rw[σ];simp only[Ω,F8,Sem.run_bind,xa hu,Ξ,aa,ad,N,zeW hk hs,ab,af,Sem.run_pure]};have A:(Ob.map es f).sz<=(Ob.map (es++[(K,W.ev env,f)]) (f+1)).sz:=by{simp[Ob.sz]};have EV:=bP.AV R hM hb Q A (u (.map (g.push { key:=K,val:=a.eval x,born:=O }) (O+1)));refine ⟨_,⟨_,rfl,hB.push _ _⟩,by grind,λi k' d n en F L=>?_⟩;by_cases hi:i<es.length;{rw[HP hi] at F;rw[Φ.getElem?_push_lt (by omega)] at L;obtain ⟨x1,x2,x3⟩:=s i k' d n en F (by simp_all);exact ⟨x1,x2,x3.mono EV⟩};have a6:=(fF.1 F).1;simp at a6;have:i=es.length:=by{omega};subst this;rw[Pt (cR _)] at F;simp at F;obtain ⟨rfl,rfl,rfl⟩:=F;rw[<-a0] at L;simp at L;subst L;exact ⟨rfl,trivial,Z.mono EV⟩}|some p=>obtain ⟨j,d'⟩:=p;cases r' with|none=>simp_all|some q=>obtain ⟨j',v⟩:=q;obtain ⟨rfl,_,hj,_,a7,l,a8⟩:=a2;simp only[yCC,XJ] at l;obtain ⟨an,X⟩:=Rr hs a8;have bb:j<g.size:=(EK.1 l).1;have a9:∀VG new,Instr.sameBits 10000 VG new=Γ->(C6 VG new).run P w=.ok new w:=by{intro VG new h;simp only[C6,h,Υ,Sem.run_pure]};refine fin (.map (es.modify j λ(k,_,n)=>(k,W.ev env,n)) f) (.map (g.modify j λe=>{ e with key:=K,val:=a.eval x }) O) rfl ?_ ?_;{rw[σ];simp only[Ω,F8,Sem.run_bind,xa hu,Ξ,aa,ad,N,zeW hk hs,ab];rw[l];simp only[Ep,UJ];rw[a9 _ _ (by have:=X 10000;rw[an] at this ⊢;exact this)];simp only[Ξ,af,Sem.run_pure]};have A:(Ob.map es f).sz<=(Ob.map (es.modify j λ(k,_,n)=>(k,W.ev env,n)) f).sz:=by{simp[Ob.sz]};have EV:=bP.AV R hM hb Q A (u (.map (g.modify j λe=>{ e with key:=K,val:=a.eval x }) O));refine ⟨_,⟨_,rfl,hB.same (by apply Yy;grind)⟩,by grind,λi k' d n en F L=>?_⟩;rw[Β.getElem?_modify] at F;rw[Φ.getElem?_modify] at L;by_cases hi:j=i;{subst hi;rw[l] at L;simp only[Υ,Ep,az] at L;subst L;cases h4:es[j]? with|none=>simp_all|some p=>obtain ⟨k0,d0,n0⟩:=p;simp[h4] at F;obtain ⟨rfl,rfl,rfl⟩:=F;obtain ⟨x1,x2,_⟩:=s j k0 d0 n0 a7 h4 l;exact ⟨by simp_all,x2,Z.mono EV⟩};simp only[hi,cD] at F L;obtain ⟨x1,x2,x3⟩:=s i k' d n en (by simp_all) (by omega);exact ⟨x1,x2,x3.mono EV⟩
end
end Go.Abs
end
section
namespace Go.Abs
variable[Gl]
section
variable{P:Ν}{Y Y':ar}{M M':Ε->Δ Ε}{Fz:Ε->Prop}{w w':Ρ}{env:Β D}{a:Act}
theorem Xs(n:Ε):∀(r c:Ε),c<=n+(n+768) / 4->Builtin.growBy n r c<=n+(n+768) / 4:=by intro r;induction r with|zero=>intro c h;exact h|succ r ih=>grind [Go.Builtin.growBy]
def Sp(n c:Ε)(h:c<n):fm n c<=2 * n+1000:=by grind [Go.Builtin.nextslicecap,Xs]
theorem UY{c:Ε}{o:C3}(h:w.heap[c]? = Α o):c_ w c o=w:=by unfold c_;have:w.heap.setIfInBounds c o=w.heap:=by{grind};rw[this]
def fV(P:Ν)(T:Ψ)(c:Ε)(xs:Β Ο)(off:Ε)(w:Ρ)(arr:Φ Ο) (h:w.heap[c]? = Α (.cells arr T (0,0))) (b:∀x∈xs,x.oneCell'=Γ) (hl:off+xs.length<=arr.size) : (Ϲ ⟨c,off,Η⟩ xs).run P w=.ok () (c_ w c (.cells (de arr off xs) T (0,0))):=by rw[xo P T c xs 0 off w arr h b (by omega)];congr 1;split;{rename_i d;subst d;have:de arr off []=arr:=by{grind [de]};grind [UY]};rfl
def FP.ones{cs:Β D}{arr:Φ Ο}(h:FP Y M Fz w cs arr):∀u∈arr.toList,u.oneCell'=Γ:=by intro u j;obtain ⟨i,hi,rfl⟩:=OF.1 j;simp only[yBo] at hi;exact (h.2 i _ _ (eI (by rw[<-h.1];exact hi)) (sf (by omega))).2
def tM{t v e:Ψ}{y:Ψ}{k:Φ Ψ}{ty:Ψ}{args:Φ Ο}{g:Δ t8}{d f n h:Ε}{m:Δ t8}{aD:Ε}{i:ey}{x:Ο} (z:k[0]? = Α t) (o:k[1]? = Α v) (A:P.underlying t=Α (.slice e)) (p:P.underlying v=Α (.slice y)) (q:b_ P e=Α aD) (hi:P.info? e=Α i) (E:i.zero=Α x) (F:args[0]? = Α (.slice g d f)) (G:args[1]? = Α (.slice m n h)) (j:HK (d+n) i.bytes=Γ) (w:Ρ) : (pG k ty args).run P w = if d+n≤f then ((Ϗ aD n (.slice m n h)).run P w).andThen fun new w1=>match (generalizing:=false) g with| Α b=>((Ϲ (b.add (d * aD)) new.toList).run P w1).andThen fun _ w2=>.ok (.slice g (d+n) f) w2| Η=>.ok (.slice g (d+n) f) w1 else ((Ϗ aD d (.slice g d f)).run P w.drew).andThen fun K w1=>((Ϗ aD n (.slice m n h)).run P w1).andThen fun new w2=>((newRow e (K++new++ϐ x.cells ((Ϝ (d+n) f e).cut (w.tape w.drawn (.appendCap (d+n) f e))-(d+n)))).run P w2).andThen fun r w3=>.ok (.slice (Α r) (d+n) ((Ϝ (d+n) f e).cut (w.tape w.drawn (.appendCap (d+n) f e)))) w3:=by simp only [HK,bS,bH] at j;obtain ⟨⟨L,N⟩,O⟩:=j;have l:∀w,(rF (.slice m n h)).run P w=.ok n w:=fun w=>rfl;simp only [pG,z,o,F,G,Sem.run_bind,xa A,xa p,Ss q,Ξ,Sem.run_pure,cf,cD,Μ.not_false,Υ,l];split;{grind [Go.Sem.run_bind,Go.Sem.run_pure]};rename_i Q;have s:¬(((d+n:Ε):Ζ) > IntKind.i64.max/\(False\/i.bytes=0)):=by{have:IntKind.i64.max=9223372036854775807:=by{decide};omega};have u:¬(fm (d+n) f * i.bytes > 2 ^ 48):=by{have R:=Sp (d+n) f (by omega);have S:fm (d+n) f * i.bytes≤(2 * (d+n)+1000) * i.bytes:=J_ _ R;grind};simp only [Sem.run_bind,zdQ hi,Ξ,cf];rw [Κ s];simp only [Sem.run_bind,Sem.run_pure,zdQ hi,Ξ];rw [Κ u];simp only [Sem.run_bind,Sem.run_pure,zdQ hi,Ξ,run_choose,Question.forced,cf,cD,run_askRoom,kJ hi E,Ρ.drew_eq]
def Rp(n c:Ε)(e:Ψ)(t:Ε):n<=(Ϝ n c e).cut t:=by grind [Go.Question.cut]
theorem gX(z:Φ Ο)(n:Ε):(ϐ z n).size=n * z.size:=by simp[ϐ]
def bP.ph(R:Rel Y M Fz w):bP Y M Fz w (Y++[.cells []]) M Fz w:={size:=cR _,frame:=λ_ _ _=>rfl,mA:=λb c h=>.inl ⟨b,h⟩,fz:=λc h=>⟨h,rfl⟩,oW:=λc h=>.inl h,ru:=λc i T o h=>⟨i,h,rfl⟩,keep:=λb j h=>⟨j,by grind,cR _,λ_=>rfl⟩,out:=⟨rfl,rfl,rfl⟩ }
def Rel.ph(R:Rel Y M Fz w):Rel (Y++[.cells []]) M Fz w:=⟨λb c h=>by obtain ⟨i,j,o,x,s,u⟩:=R.blk b c h;exact ⟨i,j,o,by grind,s,u.mono (bP.ph R)⟩,R.inj,R.fz,R.gl⟩
def Xd(R:Rel Y M Fz w)(E:dJ Y M Fz w env a.tmps){o:ϊ}{t t1 e et:Ψ}{args:Φ ε}{a2:Φ Ψ}{s x:ε}{os ox:aY}{aD:Ε}{i:ey}{z:Β D}{d:D}{wr:Β Ε}
  (ho:o.op=.call { callee:=.builtin .append,args:=args,argTypes:=a2 }) (ht:a2[0]? = Α t) (a5:a2[1]? = Α t1) (cp:args[0]? = Α s) (cv:args[1]? = Α x)
  (hu:P.underlying t=Α (.slice e)) (a6:P.underlying t1=Α (.slice et)) (a7:b_ P e=Α aD) (hi:P.info? e=Α i) (hz:Ys P e=Α z) (q:¬(aD=0\/z.length≠aD))
  (hs:cA s=Α os) (hx:cA x=Α ox)
  (h:(do
  let xd:=ox.ev env
  let n <-Nn Y xd
  let new <-zee Y aD n xd
  match os.ev env with
  |.c (.lit (.slice Η 0 0))=>if HK n i.bytes then Α (.sl Y.length 0 n aD (n * aD),Y++[.cells new],[]) else Η
  |.sl b off len m sz => do
   let cs <-pJ Y b sz
   if m=aD/\off=0/\len * aD=sz/\HK (len+n) i.bytes then
    if n=0 then Α (.sl b 0 len aD sz,Y,[b])
    else Α (.sl b 0 (len+n) aD (sz+n * aD),Y.set b (.cells (cs++new)),[b])
   else if m=aD/\off=0/\(len+n) * aD<=sz/\HK (len+n) i.bytes then
    if n=0 then Α (.sl b 0 len aD sz,Y,[b])
    else Α (.sl b 0 (len+n) aD sz,Y.set b (.cells (put cs (len * aD) new)),[b])
   else Η
  |_=>Η)=Α (d,Y',wr)):fH P (Ω a.eval o) Y M Fz w Y' d:=by
 obtain ⟨i',zv,bd,a8,b7⟩:=zeN hz;rw[hi] at bd;simp only[az] at bd;subst bd;simp only[ϟ,WU] at q;obtain ⟨p,c0⟩:=q;have be:zv.cells.size=aD:=by have:=(FP.xH (V.dV (Y:=Y) (M:=M) (Fz:=Fz) (w:=w) zv) b7).1;omega
 simp only[ft,dt] at h;obtain ⟨n,hn,new,A,h⟩:=h;have S:=oY E hx;have aa:=oY E hs;obtain ⟨b8,bv,U⟩:=sY S hn;have an:∀r,(pG a2 o.type (args.map a.eval)).run P w=r->(Ω a.eval o).run P w=r.andThen λv w'=>.ok (.value v) w':=by intro r hr;simp only[Ω,ho,resolve,invoke,builtin,Sem.run_bind,Sem.run_pure,Ξ,hr]
 have a9:(args.map a.eval)[1]? = Α (.slice b8 n bv):=by simp_all
 split at h
 ·rename_i bh;rw[bh] at aa;have c2:=aa.cz;have ab:(args.map a.eval)[0]? = Α (.slice Η 0 0):=by simp_all
  split at h
  ·rename_i F;have f:=tM (ty:=o.type) ht a5 hu a6 a7 hi a8 ab a9 (by simp_all) w;simp only[az,ba] at h;obtain ⟨rfl,rfl,_⟩:=h;by_cases q:n=0
   ·subst q;obtain ⟨arr,l,g,k⟩:=zbK (P:=P) R S p A;rw[U] at l;rw[Λ (by omega),l] at f;have he:new=[]:=yAT (by omega);subst he;refine ⟨.value (.slice Η 0 0),.slice Η 0 0,w,M,by simp_all,.inl rfl,R.ph,?_,bP.ph R,by simp⟩;exact .sl Η 0 0 (by simp) (.cells []) (by simp) (by omega) (λ_=>.inl ⟨rfl,rfl,rfl,rfl,rfl,by simp⟩)
   ·rw[Κ (by omega)] at f;simp only[TW] at f;have EH:bP Y M Fz w Y M Fz w.drew:=bP.heap R rfl ⟨rfl,rfl,rfl⟩;have R1:Rel Y M Fz w.drew:=R.heap rfl ⟨rfl,rfl,rfl⟩;obtain ⟨arr,l,g,k⟩:=zbK (P:=P) R1 (S.mono EH) p A;rw[U] at l;have av:(Ϗ aD 0 (.slice Η 0 0)).run P w.drew=.ok #[] w.drew:=rfl;rw[av] at f;simp only[Ξ,l] at f;have ax:=Rp n 0 e (w.tape w.drawn (.appendCap n 0 e));generalize (Ϝ n 0 e).cut (w.tape w.drawn (.appendCap n 0 e))=W at f ax;have hm:n * aD+(W-n) * aD=W * aD:=by rw[<-QV];simp_all
    have a0:(#[]++arr++ϐ zv.cells (W-n)).size=W * aD:=by simp only[kx,gX,be,g.1,k,B4];omega
    obtain ⟨r1,r2⟩:=rO (P:=P) R1.fz (cs:=new) (arr:=#[]++arr++ϐ zv.cells (W-n)) e (by omega) (λj y u Q O=>by have hj:=(fF.1 Q).1;rw[yBS (by simp[g.1];exact hj)] at O;exact g.2 j y u Q (by simp_all))
    rw[r1] at f;refine ⟨_,_,_,_,by rw[an _ f];rfl,.inl rfl,R1.alloc _ _ r2,?_,EH.trans (bP.alloc R1.fz _ _) (cR _),by simp⟩;rw[<-k];exact V.newSl (by omega) (by omega) (by omega) (by omega)
  simp_all
 ·rename_i b off len m sz bh;rw[bh] at aa;simp only[dt] at h;obtain ⟨cs,hr,h⟩:=h;split at h
  ·rename_i G;obtain ⟨rfl,rfl,bc,F⟩:=G;obtain ⟨hb,bw⟩:=Rz hr;rcases aa.gq hr with ⟨a1,e2,_,e4,e6⟩ | ⟨c,o',cap,K,T,hM,a1,b0,b1,hh,b2,_⟩
   ·subst e2 e4 e6;have ab:(args.map a.eval)[0]? = Α (.slice Η 0 0):=by simp_all
    have f:=tM (ty:=o.type) ht a5 hu a6 a7 hi a8 ab a9 F w;split at h
    ·rename_i q;subst q;simp only[az,ba] at h;obtain ⟨rfl,rfl,_⟩:=h;obtain ⟨arr,l,g,k⟩:=zbK (P:=P) R S p A;rw[U] at l;rw[Λ (by omega),l] at f;refine fH.same R (v:=.slice Η 0 0) ?_ (a1▸aa)
     simp_all
    ·rename_i q;simp only[az,ba] at h;obtain ⟨rfl,rfl,_⟩:=h;rw[Κ (by omega)] at f;simp only[TW] at f;have EH:bP Y M Fz w Y M Fz w.drew:=bP.heap R rfl ⟨rfl,rfl,rfl⟩;have R1:Rel Y M Fz w.drew:=R.heap rfl ⟨rfl,rfl,rfl⟩;obtain ⟨arr,l,g,k⟩:=zbK (P:=P) R1 (S.mono EH) p A;rw[U] at l;have av:(Ϗ m 0 (.slice Η 0 0)).run P w.drew=.ok #[] w.drew:=rfl;rw[av] at f;simp only[Ξ,l] at f;have ax:=Rp n 0 e (w.tape w.drawn (.appendCap n 0 e));generalize (Ϝ n 0 e).cut (w.tape w.drawn (.appendCap n 0 e))=W at f ax;have hm:n * m+(W-n) * m=W * m:=by rw[<-QV];simp_all
     have a0:(#[]++arr++ϐ zv.cells (W-n)).size=W * m:=by simp only[kx,gX,be,g.1,k,B4];omega
     have ad:∀row,(newRow e row).run P w.drew=.ok ⟨w.drew.heap.size,0,Η⟩ (w.drew.alloc (.cells row e)):=λ_=>rfl;rw[ad] at f;have b9:0<n * m:=Ε.mul_pos (by omega) (by omega);have L:(Ob.cells []).sz<(Ob.cells ([]++new)).sz:=by grind [Ob.sz]
     have EV:=bP.move (o':=.cells (#[]++arr++ϐ zv.cells (W-n)) e) R1 hb L;refine ⟨_,_,_,_,by rw[an _ f];rfl,.inl rfl,R1.move hb L ?_,?_,EH.trans EV (cR _),by simp⟩
     ·refine ⟨_,e,rfl,by grind,λj d v Q O=>?_⟩;have bb:=(fF.1 Q).1;simp[k] at bb;rw[yBS (by simp[g.1,k];omega)] at O;have:=g.2 j d v (by simp_all) (by simp_all);exact ⟨this.1.mono EV,this.2⟩
     ·have bi:=(fF.1 hb).1;refine .sl _ _ _ (by simp) (.cells ([]++new)) (by simp_all) (by grind [Ob.sz]) (λ_=>.inr ?_);refine ⟨w.drew.heap.size,0,_,e,by simp[yG],rfl,by omega,by omega,.inl rfl,ϯ _ _,by omega,by simp⟩
   have ab:(args.map a.eval)[0]? = Α (.slice (Α ⟨c,o',Η⟩) len cap):=by simp_all
   have f:=tM (ty:=o.type) ht a5 hu a6 a7 hi a8 ab a9 F w;obtain ⟨bk,T',af,cg,bl⟩:=R.row hM hb;rw[hh] at af;simp only[az,Ϡ,Nz] at af;obtain ⟨rfl,rfl⟩:=af;split at h
   ·rename_i q;subst q;simp only[az,ba] at h;obtain ⟨rfl,rfl,_⟩:=h;obtain ⟨arr,l,g,k⟩:=zbK (P:=P) R S p A;rw[U] at l;rw[Λ (by omega),l] at f;have b3:arr.toList=[]:=by
     have:arr.size=0:=by rw[g.1,k];omega
     simp_all
    grind [Go.Result.andThen_ok,Go.storeCells,Go.Sem.run_pure,fH.same]
   ·rename_i q;simp only[az,ba] at h;obtain ⟨rfl,rfl,_⟩:=h;by_cases X:len+n<=cap
    ·rw[Λ X] at f;obtain ⟨arr,l,g,k⟩:=zbK (P:=P) R S p A;rw[U] at l;have bt:o'=0:=by
      omega
     subst bt;have hm:(len+n) * m<=cap * m:=J_ _ X;rw[QV] at hm;have bu:=fV P T c arr.toList (0+len * m) w K hh g.ones (by simp[g.1,k];omega);rw[l] at f;simp only[Ξ,fo,bu] at f;have L:(Ob.cells cs).sz<=(Ob.cells (cs++new)).sz:=by simp[Ob.sz]
     have σ:∀N T1 fr,Ϯ K T (0,0)=.cells N T1 fr->∃Z,Ϯ (de K (0+len * m) arr.toList) T (0,0)=.cells Z T1 fr/\Z.size=N.size:=by intro N T1 fr h;simp only[Ϡ] at h;obtain ⟨rfl,rfl,rfl⟩:=h;exact ⟨_,rfl,Yq (by simp[g.1,k];omega)⟩
     have EV:=bP.AV R hM hb hh L σ;refine ⟨_,_,_,M,by rw[an _ f];rfl,.inl rfl,R.AV hM hb hh L σ ?_,?_,EV,by simp⟩
     ·refine ⟨_,T,rfl,?_,λj d v Q O=>?_⟩
      ·grind
      ·rw[cV (by simp[g.1,k];omega)] at O;simp only[yBo,g.1,k] at O;by_cases hj:j<cs.length
       ·rw[HP hj] at Q;rw[Κ (by omega)] at O;have:=bl j d v Q O;exact ⟨this.1.mono EV,this.2⟩
       ·rw[Pt (by omega)] at Q;have bb:=(fF.1 Q).1;rw[Λ (by omega)] at O;have:=g.2 (j-cs.length) d v Q (by
         simp_all)
        exact ⟨this.1.mono EV,this.2⟩
     ·have bi:=(fF.1 hb).1;refine .sl _ _ _ (by simp) (.cells (cs++new)) (by simp_all) (by grind [Ob.sz]) (λ_=>.inr ?_);refine ⟨c,0,_,T,hM,rfl,rfl,⟨X,by omega⟩,.inl rfl,fq (R.lt hM).2,?_,?_⟩
      ·simp_all
      grind
    ·rw[Κ X] at f;have EH:bP Y M Fz w Y M Fz w.drew:=bP.heap R rfl ⟨rfl,rfl,rfl⟩;have R1:Rel Y M Fz w.drew:=R.heap rfl ⟨rfl,rfl,rfl⟩;obtain ⟨arr,l,g,k⟩:=zbK (P:=P) R1 (S.mono EH) p A;rw[U] at l;have ch:zee Y m len (.sl b 0 len m sz)=Α cs:=by
      have hc:m=m/\len<=len/\0+len * m<=sz:=⟨rfl,cR _,by omega⟩;show ((pJ Y b sz).bind λcs=>if m=m/\len<=len/\0+len * m<=sz then Α ((cs.drop 0).take (len * m)) else Η)=Α cs
      grind
     obtain ⟨VG,b4,ak,ck⟩:=zbK (P:=P) R1 (aa.mono EH) p ch;rw[a1] at b4;rw[b4] at f;simp only[Ξ,l] at f;have ax:=Rp (len+n) cap e (w.tape w.drawn (.appendCap (len+n) cap e));generalize (Ϝ (len+n) cap e).cut (w.tape w.drawn (.appendCap (len+n) cap e))=W at f ax;have hm:(len+n) * m+(W-(len+n)) * m=W * m:=by rw[<-QV];simp_all
     rw[QV] at hm;have a0:(VG++arr++ϐ zv.cells (W-(len+n))).size=W * m:=by simp only[kx,gX,be,g.1,k,ak.1,ck];omega
     have ad:∀row,(newRow e row).run P w.drew=.ok ⟨w.drew.heap.size,0,Η⟩ (w.drew.alloc (.cells row e)):=λ_=>rfl;rw[ad] at f;have b9:0<n * m:=Ε.mul_pos (by omega) (by omega);have L:(Ob.cells cs).sz<(Ob.cells (cs++new)).sz:=by grind [Ob.sz]
     have EV:=bP.move (o':=.cells (VG++arr++ϐ zv.cells (W-(len+n))) e) R1 hb L;refine ⟨_,_,_,_,by rw[an _ f];rfl,.inl rfl,R1.move hb L  ?_,?_,EH.trans EV (cR _),by simp⟩
     ·refine ⟨_,e,rfl,by grind,λj d v Q O=>?_⟩;have bb:=(fF.1 Q).1;simp[k] at bb;rw[yBS (by simp[ak.1,g.1,k];omega)] at O;by_cases hj:j<cs.length
      ·rw[HP hj] at Q;rw[yBS (by rw[ak.1];exact hj)] at O;have:=ak.2 j d v Q O;exact ⟨this.1.mono EV,this.2⟩
      ·rw[Pt (by omega)] at Q;rw[Φ.getElem?_append_right (by rw[ak.1];omega),ak.1] at O;have:=g.2 _ d v Q O;exact ⟨this.1.mono EV,this.2⟩
     ·have bi:=(fF.1 hb).1;refine .sl _ _ _ (by simp) (.cells (cs++new)) (by simp_all) (by grind [Ob.sz]) (λ_=>.inr ?_);refine ⟨w.drew.heap.size,0,_,e,by simp[yG],rfl,rfl,by omega,.inl rfl,ϯ _ _,by omega,by grind⟩
  ·rename_i co;split at h
   rotate_left
   ·simp at h
   rename_i G;obtain ⟨rfl,rfl,bc,F⟩:=G;obtain ⟨hb,bw⟩:=Rz hr;have b5:0<m:=Ε.pos_of_ne_zero p;rcases aa.gq hr with ⟨a1,e2,_,e4,e6⟩ | ⟨c,o',cap,K,T,hM,a1,b0,b1,hh,b2,_⟩
   ·simp_all
   have ab:(args.map a.eval)[0]? = Α (.slice (Α ⟨c,o',Η⟩) len cap):=by simp_all
   have f:=tM (ty:=o.type) ht a5 hu a6 a7 hi a8 ab a9 F w;obtain ⟨bk,T',af,cg,bl⟩:=R.row hM hb;rw[hh] at af;simp only[az,Ϡ,Nz] at af;obtain ⟨rfl,rfl⟩:=af;have X:len+n<=cap:=Ε.le_of_mul_le_mul_right (by omega) b5;rw[Λ X] at f;obtain ⟨arr,l,g,k⟩:=zbK (P:=P) R S p A;rw[U] at l;split at h
   ·rename_i q;subst q;simp only[az,ba] at h;obtain ⟨rfl,rfl,_⟩:=h;have b3:arr.toList=[]:=by
     have:arr.size=0:=by rw[g.1,k];omega
     simp_all
    grind [Go.Result.andThen_ok,Go.storeCells,Go.Sem.run_pure,fH.same]
   ·rename_i q;simp only[az,ba] at h;obtain ⟨rfl,rfl,_⟩:=h;have bt:o'=0:=by
     omega
    subst bt;have hm:(len+n) * m<=cap * m:=J_ _ X;have cm:=bc;rw[QV] at hm cm;have bu:=fV P T c arr.toList (0+len * m) w K hh g.ones (by simp[g.1,k];omega);rw[l] at f;simp only[Ξ,fo,bu] at f;have b6:len * m+new.length<=cs.length:=by omega
    have L:(Ob.cells cs).sz<=(Ob.cells (put cs (len * m) new)).sz:=by grind [Ob.sz,gz]
    have σ:∀N T1 fr,Ϯ K T (0,0)=.cells N T1 fr->∃Z,Ϯ (de K (0+len * m) arr.toList) T (0,0)=.cells Z T1 fr/\Z.size=N.size:=by intro N T1 fr h;simp only[Ϡ] at h;obtain ⟨rfl,rfl,rfl⟩:=h;exact ⟨_,rfl,Yq (by simp[g.1,k];omega)⟩
    have EV:=bP.AV R hM hb hh L σ;refine ⟨_,_,_,M,by rw[an _ f];rfl,.inl rfl,R.AV hM hb hh L σ ?_,?_,EV,by simp⟩
    ·refine ⟨_,T,rfl,by grind [gz],λj d v Q O=>?_⟩;rw[mW b6] at Q;rw[cV (by simp[g.1,k];omega)] at O;simp only[yBo,g.1,TW] at O;split at Q
     ·rename_i G;rw[Λ G] at O;have:=g.2 _ _ _ Q (by simpa using O);exact ⟨this.1.mono EV,this.2⟩
     ·rename_i G;rw[Κ G] at O;have:=bl _ _ _ Q O;exact ⟨this.1.mono EV,this.2⟩
    ·have bi:=(fF.1 hb).1;refine .sl _ _ _ (by simp) (.cells (put cs (len * m) new)) (by simp_all) (by grind [Ob.sz]) (λ_=>.inr ?_);refine ⟨c,0,_,T,hM,rfl,rfl,⟨X,b0.2⟩,.inl rfl,fq (R.lt hM).2,?_,?_⟩
     ·simp_all
     ·omega
 simp_all
def Nb(R:Rel Y M Fz w)(E:dJ Y M Fz w env a.tmps){o:ϊ}{t e:Ψ}{args:Φ ε}{S:Φ Ψ}{s x:ε}{os ox:aY}{aD b off len sz n m:Ε}{cs new:Β D} (ho:o.op=.call { callee:=.builtin .copy,args:=args,argTypes:=S }) (ht:S[0]? = Α t) (a7:args[0]? = Α s) (a8:args[1]? = Α x) (hu:P.underlying t=Α (.slice e)) (U:b_ P e=Α aD) (W:aD≠0) (hs:cA s=Α os) (hx:cA x=Α ox) (af:os.ev env=.sl b off len aD sz) (hr:pJ Y b sz=Α cs) (hm:Nn Y (ox.ev env)=Α m) (hn:n=min m len) (A:zee Y aD n (ox.ev env)=Α new) (a9:off+len * aD<=sz) : fH P (Ω a.eval o) Y M Fz w (Y.set b (.cells (put cs off new))) (.c (.lit (.int .i64 n))):=by have L:=oY E hx;have X:=oY E hs;rw[af] at X;obtain ⟨z,l,σ⟩:=sY L hm;rcases X.gq hr with ⟨ak,e2,e3,e4,e5⟩ | ⟨c,o',cap,g,T,hM,ak,bb,a2,Z,a5,_⟩;{subst e2 e3 e4 e5;obtain rfl:n=0:=by{omega};obtain ⟨hb,_⟩:=Rz hr;obtain ⟨k,p,f,q⟩:=zbK (P:=P) R L W A;rw[σ] at p;obtain rfl:new=[]:=yAT (by omega);have aa:Y.set b (.cells (put [] 0 []))=Y:=by{apply Yy;intro i;rw[yBQ];split;{rename_i hi;subst hi;split;{exact hb.symm};grind};rfl};rw[aa];have N:(args.map a.eval)[0]? = Α (.slice Η 0 0):=by{grind};have O:(args.map a.eval)[1]? = Α (.slice z m l):=by{grind};have hl:(rF (.slice z m l)).run P w=.ok m w:=rfl;have r:Ε.min m 0=0:=hn.symm;refine fH.same R (v:=.int .i64 0) ?_ (.c (.lit _));simp only[Ω,ho,resolve,invoke,builtin,Builtin.copy_,ht,N,O,Sem.run_bind,Sem.run_pure,xa hu,Ξ,hl,Ss U,r,p,zb];rfl};obtain ⟨hb,a6⟩:=Rz hr;obtain ⟨an,T',Q,bc,av⟩:=R.row hM hb;rw[Z] at Q;simp only[az,Ϡ,Nz] at Q;obtain ⟨rfl,rfl⟩:=Q;obtain ⟨k,p,f,q⟩:=zbK (P:=P) R L W A;rw[σ] at p;have ax:n * aD<=len * aD:=J_ _ (by omega);have a0:(Ϲ ⟨c,o',Η⟩ k.toList).run P w=.ok () (c_ w c (.cells (de g off k.toList) T (0,0))):=by{by_cases hz:n=0;{have:k.toList=[]:=by{have:k.size=0:=by{rw[f.1,q,hz,yC3]};grind};rw[this];have F:de g off []=g:=by{grind [de]};rw[F,UY Z];rfl};have a1:o'=off:=by{omega};subst a1;exact fV P T c k.toList o' w g Z f.ones (by simp[f.1,q];omega)};have ab:off+new.length<=cs.length:=by{omega};have ad:(Ob.cells cs).sz<=(Ob.cells (put cs off new)).sz:=by{grind [Ob.sz,gz]};have G:∀u T1 fr,Ϯ g T (0,0)=.cells u T1 fr->∃K,Ϯ (de g off k.toList) T (0,0)=.cells K T1 fr/\K.size=u.size:=by{intro u T1 fr h;simp only[Ϡ] at h;obtain ⟨rfl,rfl,rfl⟩:=h;exact ⟨_,rfl,Yq (by simp[f.1,q];omega)⟩};have EV:=bP.AV R hM hb Z ad G;refine ⟨.value (.int .i64 n),_,_,M,?_,.inl rfl,R.AV hM hb Z ad G ?_,.c (.lit _),EV,by simp⟩;{have N:(args.map a.eval)[0]? = Α (.slice (Α ⟨c,o',Η⟩) len cap):=by{simp_all};have O:(args.map a.eval)[1]? = Α (.slice z m l):=by{simp_all};have hl:(rF (.slice z m l)).run P w=.ok m w:=rfl;have r:Ε.min m len=n:=hn.symm;simp only[Ω,ho,resolve,invoke,builtin,Builtin.copy_,ht,N,O,Sem.run_bind,Sem.run_pure,xa hu,Ξ,hl,Ss U,r,p,a0,zb]};refine ⟨_,T,rfl,by grind [gz],λj d v h1 F=>?_⟩;rw[mW ab] at h1;rw[cV (by simp[f.1,q];omega)] at F;simp only[yBo,f.1] at F;split at h1;{rename_i y;rw[Λ y] at F;have:=f.2 _ _ _ h1 (by simpa using F);exact ⟨this.1.mono EV,this.2⟩};rename_i y;rw[Κ y] at F;have:=av _ _ _ h1 F;exact ⟨this.1.mono EV,this.2⟩
end
end Go.Abs
end
section
namespace Go.Abs
variable[Gl]
def Ok(P:Ν)(g:FuncId)(ds:Β D)(Y:ar)(r:D)(Y':ar):Prop:=∀ (M : Ε -> Δ Ε) (Fz : Ε -> Prop) (w : Ρ) (b : Φ Ο), Rel Y M Fz w -> b.size = ds.length -> (∀ (i : Ε) d v, ds[i]? = Α d -> b[i]? = Α v -> V Y M Fz w d v) -> Calls P g b w λe w'=>∃v M' Fz',e=.returned v/\Rel Y' M' Fz' w'/\V Y' M' Fz' w' r v/\bP Y M Fz w Y' M' Fz' w'
def bm(P:Ν)(g:FuncId):Μ:=match P.funcs[g]? with|Α fn=>fn.body.isSome&&fn.name != "runtime.NumGoroutine"|Η=>Ι
def tR(P:Ν)(orc:yy):Prop:=∀g ds Y r Y' wr,orc g ds Y=Α (r,Y',wr)->bm P g=Γ/\Ok P g ds Y r Y'/\Y.length<=Y'.length/\∀b,b<Y.length->b∉wr->Y'[b]? = Y[b]?
abbrev fQ:=Δ Ε->yy
def ni(P:Ν)(orc:fQ):Prop:=∀t,tR P (orc t)
section
variable{P:Ν}{Y Y':ar}{M M':Ε->Δ Ε}{Fz:Ε->Prop}{w w':Ρ}{env:Β D}{a:Act}{orc:yy}
theorem Kg{d:D}{es:Β (Ο×D×Ε)}(h:JW Y d=Α es):(d=.c (.lit (.map Η))/\es=[])\/(∃b e,d=.mp b/\Y[b]? = Α (.map es e))\/∃f,d=.c (.Qr f)/\es=f.map λp=>(p.1,.c p.2,0):=by unfold JW at h;split at h;{simp_all};{simp_all};{grind};simp_all
def ox1(ao:lY)(env:Β D):D:=match ao with|.load _ x=>x.ev env|_=>.any
inductive Out (P:Ν) (s:Sem D9) (Y:ar) (M:Ε->Δ Ε) (Fz:Ε->Prop) (w:Ρ) (at_:D):lY->ar->D->Β Ε->Prop where|y {ao:lY} {d:D} (hc:cat ao=0) (h:Yields P s Y M Fz w d):Out P s Y M Fz w at_ ao Y d []|l {ao:lY} {d:D} {Y':ar} (hc:cat ao=1) (hσ:Y'=Y) (h:(∀b off sz c cs,at_=.ptr b off sz->M b=Α c->Y[b]? = Α (.cells cs)->∃arr T,w.heap[c]? = Α (.cells arr T (0,0))/\cs.length<=arr.size/\∀(i:Ε) d v,cs[i]? = Α d->arr[i]? = Α v->V Y M Fz w d v/\v.oneCell'=Γ)->Yields P s Y M Fz w d):Out P s Y M Fz w at_ ao Y' d []|a {ao:lY} {d:D} {ob:Ob} (hc:cat ao=2) (h:(∀c,Fz c->c<w.heap.size)->ai P s Y M Fz w ob d):Out P s Y M Fz w at_ ao (Y++[ob]) d []|g {ao:lY} {d:D} {Y':ar} {wr:Β Ε} (hc:cat ao=3) (h:Rel Y M Fz w->fH P s Y M Fz w Y' d):Out P s Y M Fz w at_ ao Y' d wr
theorem GB(a0:Gl.ok Fz w)(E:dJ Y M Fz w env a.tmps){o:ϊ}{ao:lY}{d:D}{wr:Β Ε}(g:mR P o.op o.type=Α ao)(bu:CK ao=Ι) (h:bD P orc ao env Y=Α (d,Y',wr)):Out P (Ω a.eval o) Y M Fz w (ox1 ao env) ao Y' d wr:=by cases j:o.op with|move x=>rw[j] at g;simp only[mR,cL] at g;obtain ⟨A,p,rfl⟩:=g;simp only[bD,az,ba] at h;obtain ⟨rfl,rfl,rfl⟩:=h;exact .y rfl (YS E (.inl j) p)|assign x=>rw[j] at g;simp only[mR,cL] at g;obtain ⟨A,p,rfl⟩:=g;simp only[bD,az,ba] at h;obtain ⟨rfl,rfl,rfl⟩:=h;exact .y rfl (YS E (.inr j) p)|pick c x y=>rw[j] at g;simp only[mR,ft,dt,az] at g;obtain ⟨oc,a1,A,p,oy,hy,rfl⟩:=g;simp only[bD,cL,ba] at h;obtain ⟨t,ht,rfl,rfl,rfl⟩:=h;exact .y rfl (pick_ok E j a1 p hy ht)|alloc t=>rw[j] at g;simp only[mR,cL] at g;obtain ⟨z,O,rfl⟩:=g;simp only[bD,az,ba] at h;obtain ⟨rfl,rfl,rfl⟩:=h;exact .a rfl (λK=>aaa K j O)|box t x=>rw[j] at g;simp only[mR,cL] at g;obtain ⟨A,p,rfl⟩:=g;simp only[bD,cL,ba] at h;obtain ⟨cs,G,rfl,rfl,rfl⟩:=h;exact .a rfl (λK=>box_ok K E j p G)|build t ab=>rw[j] at g;simp only[mR,ft,dt] at g;obtain ⟨z,O,u,q,g⟩:=g;cases u <;> simp only[dt,az,reduceCtorEq] at g;{rename_i len e;obtain ⟨n,v,qs,T,rfl⟩:=g;simp only[bD,cL,ba] at h;obtain ⟨cs,G,rfl,rfl,rfl⟩:=h;exact .y rfl (Oi E j O (.inr ⟨len,e,n,q,v,rfl⟩) T G)};rename_i fs;obtain ⟨ps,a2,qs,T,rfl⟩:=g;simp only[bD,cL,ba] at h;obtain ⟨cs,G,rfl,rfl,rfl⟩:=h;exact .y rfl (Oi E j O (.inl ⟨fs,ps,q,a2,rfl⟩) T G)|buildSlice t len ab=>rw[j] at g;simp only[mR,ft,dt] at g;obtain ⟨u,q,g⟩:=g;cases u <;> simp only[dt,reduceCtorEq] at g;obtain ⟨n,v,z,O,g⟩:=g;split at g;{grind};rename_i F;simp only[dt,az] at g;obtain ⟨qs,T,rfl⟩:=g;simp only[bD,cL,ba] at h;obtain ⟨cs,G,rfl,rfl,rfl⟩:=h;exact .a rfl (λK=>XC K E j q v O F T G)|load t x=>rw[j] at g;simp only[mR,ft,dt,az] at g;obtain ⟨n,v,A,p,rfl⟩:=g;simp only[bD] at h;have U:wr=[]:=by{split at h;{simp only[ft,dt,az,ba] at h;grind};{simp only[ft,dt,az,ba] at h;grind};simp_all};subst U;refine .l rfl ?_ (λhR=>(load_ok E j p v hR h).2);revert h;split;{simp only[ft,dt,az,ba];simp_all};{simp only[ft,dt,az,ba];simp_all};simp|store t x y=>rw[j] at g;simp only[mR,ft,dt,az] at g;obtain ⟨n,v,A,p,oy,hy,rfl⟩:=g;simp only[bD] at h;split at h;{rename_i b off sz S;simp only[ft,dt] at h;obtain ⟨cs,G,xs,a5,h⟩:=h;split at h;{rename_i L;simp only[az,ba] at h;obtain ⟨rfl,rfl,rfl⟩:=h;exact .g rfl (λR=>store_ok R E j p hy v S G a5 L)};simp_all};simp_all|nilCheck x=>rw[j] at g;simp only[mR,cL] at g;obtain ⟨A,p,rfl⟩:=g;simp only[bD] at h;have U:wr=[]:=by{grind};subst U;obtain ⟨rfl,Z⟩:=Za (P:=P) E j p h;exact .y rfl Z|binOp op t x y t2=>{rw[j] at g;simp only[mR] at g;cases q:P.underlying t with|none=>rw[q] at g;simp only[Δ.bind_none,az] at g;subst g;simp only[bD,cL,ba] at h;obtain ⟨Q,N,rfl,rfl,rfl⟩:=h;exact .y rfl (lB E (by simp_all) (by simp_all))|some u=>rw[q] at g;simp only[aw] at g;cases hk:Cd u with|none=>rw[hk] at g;simp only[az] at g;subst g;simp only[bD,cL,ba] at h;obtain ⟨Q,N,rfl,rfl,rfl⟩:=h;exact .y rfl (lB E (by simp_all) (by simp_all))|some k=>rw[hk] at g;have W:∀neg,xG k neg x y=Α ao->∃k' X A,ao=.jA k' X A:=by{intro neg a6;unfold xG at a6;grind [ψ]};cases op <;> simp only[reduceCtorEq] at g;{obtain ⟨k',X,A,rfl⟩:=W Ι g;simp only[bD,cL,ba] at h;obtain ⟨b,hb,rfl,rfl,rfl⟩:=h;exact .y rfl (Po (neg:=Ι) E (by simpa using j) q hk g hb)};obtain ⟨k',X,A,rfl⟩:=W Γ g;simp only[bD,cL,ba] at h;obtain ⟨b,hb,rfl,rfl,rfl⟩:=h;exact .y rfl (Po (neg:=Γ) E (by simpa using j) q hk g hb)}|unOp op t x=>rw[j] at g;simp only[mR,az] at g;subst g;simp only[bD,cL,ba] at h;obtain ⟨Q,N,rfl,rfl,rfl⟩:=h;exact .y rfl (lB E (by simp_all) (by simp_all))|convert s t x=>rw[j] at g;simp only[mR,az] at g;subst g;simp only[bD,cL,ba] at h;obtain ⟨Q,N,rfl,rfl,rfl⟩:=h;exact .y rfl (lB E (by simp_all) (by simp_all))|makeFunc f first cap=>rw[j] at g;simp only[mR,ft,dt,az] at g;obtain ⟨o1,h1,o2,h2,rfl⟩:=g;simp only[bD,az,ba] at h;obtain ⟨rfl,rfl,rfl⟩:=h;exact .y rfl (mkfn_ok E j h1 h2)|makeMap t r=>{rw[j] at g;cases r with|some _=>grind [mR]|none=>simp only[mR,az] at g;subst g;simp only[bD,az,ba] at h;obtain ⟨rfl,rfl,rfl⟩:=h;exact .a rfl (λK=>ZB j)}|makeSlice t x y=>rw[j] at g;simp only[mR,ft,dt] at g;obtain ⟨u,q,g⟩:=g;cases u <;> simp only[dt,reduceCtorEq] at g;obtain ⟨n,v,z,O,i,hi,g⟩:=g;split at g;{grind};rename_i F;simp only[dt,az] at g;obtain ⟨A,p,oy,hy,rfl⟩:=g;simp only[bD,ft,dt] at h;obtain ⟨l,hl,c,a7,h⟩:=h;split at h;{rename_i L;simp only[az,ba] at h;obtain ⟨rfl,rfl,rfl⟩:=h;exact .a rfl (λK=>Pg K E j q v O hi F p hy hl a7 L)};simp_all|slice t x lo hi mx=>{rw[j] at g;cases mx with|some mx=>{cases lo with|none=>grind [mR]|some lo => cases hi with|none=>grind [mR]|some hi=>simp only[mR,ft,dt] at g;obtain ⟨u,q,g⟩:=g;cases u <;> simp only[dt,az,reduceCtorEq] at g;obtain ⟨n,v,A,p,a8,ad,a9,af,bv,bb,rfl⟩:=g;simp only[bD] at h;split at h;{rename_i b off len es sz S;simp only[ft,dt] at h;obtain ⟨cs,hr,m,h0,h',h1,l,h2,h⟩:=h;split at h;{rename_i L;obtain ⟨rfl,rfl⟩:=L;simp only[az,ba] at h;obtain ⟨rfl,rfl,rfl⟩:=h;exact .y rfl (slc3xok (P:=P) E j p ad af bb q v S hr (dt.2 h0) (dt.2 h1) (dt.2 h2))};simp_all};simp_all}|none=>simp only[mR,ft,dt] at g;obtain ⟨u,q,g⟩:=g;cases u <;> simp only[dt,az,reduceCtorEq] at g;{subst g;simp only[bD,cL,ba] at h;obtain ⟨Q,N,rfl,rfl,rfl⟩:=h;exact .y rfl (lB E (by simp_all) (by simp_all))};rotate_left;{rename_i m e;split at g;{simp only[dt] at g;obtain ⟨k,hk,A,p,g⟩:=g;split at g;{rename_i h1;subst h1;simp only[az] at g;subst g;simp only[bD] at h;split at h;{rename_i cs off S;split at h;{rename_i bc;simp only[az,ba] at h;obtain ⟨rfl,rfl,rfl⟩:=h;exact .y rfl (slca_ok (P:=P) E j p q hk S bc)};simp at h};simp at h};simp at g};simp at g};obtain ⟨n,v,A,p,a8,ad,a9,af,rfl⟩:=g;simp only[bD] at h;have U:wr=[]:=by{split at h;{simp only[ft,dt,az,ba] at h;grind};{grind [ζ]};{grind [ζ]};simp_all};subst U;obtain ⟨rfl,Z⟩:=slc_ok (P:=P) E j p ad af q v h;exact .y rfl Z}|fieldAddr s x f=>rw[j] at g;simp only[mR,ft,dt] at g;obtain ⟨u,q,g⟩:=g;cases u <;> simp only[dt,reduceCtorEq] at g;obtain ⟨fd,ak,n,v,g⟩:=g;split at g;{grind};rename_i F;simp only[dt,az] at g;obtain ⟨A,p,rfl⟩:=g;simp only[bD] at h;have U:wr=[]:=by{grind};subst U;obtain ⟨rfl,Z⟩:=fld_ok (P:=P) E j p q ak v F h;exact .y rfl Z|field t x f=>rw[j] at g;simp only[mR,ft,dt] at g;obtain ⟨u,q,g⟩:=g;cases u <;> simp only[dt,az,reduceCtorEq] at g;obtain ⟨fd,ak,n,v,A,p,rfl⟩:=g;simp only[bD] at h;split at h;{rename_i cs S;simp only[cL,ba] at h;obtain ⟨Q,N,rfl,rfl,rfl⟩:=h;exact .y rfl (part_ok E j p q ak v S N)};simp_all|indexAddr t x i=>rw[j] at g;simp only[mR,ft,dt] at g;obtain ⟨u,q,g⟩:=g;cases u <;> simp only[dt,reduceCtorEq] at g;{rename_i e;obtain ⟨n,v,g⟩:=g;split at g;{grind};rename_i F;simp only[dt,az] at g;obtain ⟨A,p,oi,hi,rfl⟩:=g;simp only[bD] at h;have U:wr=[]:=by{grind [ζ]};subst U;obtain ⟨rfl,Z⟩:=idx_ok (P:=P) E j p hi q v F h;exact .y rfl Z};rename_i len e;obtain ⟨n,v,g⟩:=g;split at g;{grind};rename_i F;simp only[dt,az] at g;obtain ⟨A,p,oi,hi,rfl⟩:=g;simp only[bD] at h;have U:wr=[]:=by{simp only[ft,dt] at h;obtain ⟨_,_,_,_,h⟩:=h;split at h;{simp_all};{simp_all};{grind};simp_all};subst U;obtain ⟨rfl,Z⟩:=PP (P:=P) a0 E j p hi q v h;exact .y rfl Z|index t x i=>rw[j] at g;simp only[mR,ft,dt] at g;obtain ⟨u,q,g⟩:=g;cases u <;> simp only[dt,az,reduceCtorEq] at g;{subst g;simp only[bD,cL,ba] at h;obtain ⟨Q,N,rfl,rfl,rfl⟩:=h;exact .y rfl (lB E (by simp_all) (by simp_all))};rename_i len e;obtain ⟨sz,bd,n,v,A,p,oi,hi,rfl⟩:=g;simp only[bD,ft,dt] at h;obtain ⟨z,O,k,hk,h⟩:=h;split at h;{rename_i cs S;simp only[cL,ba] at h;obtain ⟨Q,N,rfl,rfl,rfl⟩:=h;exact .y rfl (aidx_ok E j p hi q bd v S O hk N)};simp_all|lookup t m k ok=>rw[j] at g;simp only[mR,ft,dt] at g;obtain ⟨u,q,g⟩:=g;cases u <;> simp only[dt,reduceCtorEq] at g;rename_i kt e;obtain ⟨kd,an,g⟩:=g;split at g;{rename_i hs;simp only[dt,az] at g;obtain ⟨zero,O,om,hm,be,hk,rfl⟩:=g;simp only[bD,ft,dt,az,ba] at h;obtain ⟨kv,av,es,ax,r,hr,rfl,rfl,rfl⟩:=h;exact .g rfl (λR=>WQ R E j q an hs O hm hk av (Kg ax) hr rfl)};simp at g|mapUpdate t m k x | insert t m k x=>rw[j] at g;simp only[mR,ft,dt] at g;obtain ⟨u,q,g⟩:=g;cases u <;> simp only[dt,reduceCtorEq] at g;rename_i kt e;obtain ⟨kd,an,g⟩:=g;split at g;{rename_i hs;simp only[dt,az] at g;obtain ⟨om,hm,be,hk,A,p,rfl⟩:=g;simp only[bD,ft,dt] at h;obtain ⟨kv,av,h⟩:=h;split at h;{rename_i b S;split at h;{rename_i es bh hb;simp only[dt] at h;obtain ⟨r,hr,h⟩:=h;have:=λR=>upd_ok (P:=P) (Y:=Y) (M:=M) (Fz:=Fz) (w:=w) R E (by first | exact .inl j | exact .inr j) q an hs hm hk p av S hb hr;split at h;{simp only[az,ba] at h;obtain ⟨rfl,rfl,rfl⟩:=h;exact .g rfl this};simp only[az,ba] at h;obtain ⟨rfl,rfl,rfl⟩:=h;exact .g rfl this};simp_all};simp_all};simp_all|extract x i=>rw[j] at g;simp only[mR,ft,dt,az] at g;obtain ⟨A,p,rfl⟩:=g;simp only[bD] at h;split at h;{rename_i ds S;simp only[cL,ba] at h;obtain ⟨Q,N,rfl,rfl,rfl⟩:=h;exact .y rfl (Ri E j p S N)};simp_all|call c=>{obtain ⟨aa,args,bw⟩:=c;rw[j] at g;cases aa with|value f=>grind [mR,ζ,CK]|invoke r m=>grind [mR]|builtin b=>cases b with|len=>simp only[mR,ft,dt] at g;obtain ⟨t,ht,x,σ,g⟩:=g;split at g;{grind};rename_i hs;simp only[ne_eq,WU] at hs;simp only[dt] at g;obtain ⟨u,q,g⟩:=g;cases u <;> simp only[cL,az,reduceCtorEq] at g;{subst g;simp only[bD,cL,ba] at h;obtain ⟨Q,N,rfl,rfl,rfl⟩:=h;exact .y rfl (lB E (by simp_all) (by simp_all))};{obtain ⟨A,p,rfl⟩:=g;simp only[bD,cL,ba] at h;obtain ⟨n,v,rfl,rfl,rfl⟩:=h;exact .y rfl (len_ok E j ht σ hs p q v)};{rename_i n e;subst g;simp only[bD,aY.ev,az,ba] at h;obtain ⟨rfl,rfl,rfl⟩:=h;exact .y rfl (Xk j ht σ hs q)};obtain ⟨A,p,rfl⟩:=g;simp only[bD,cL,ba] at h;obtain ⟨es,ax,rfl,rfl,rfl⟩:=h;refine .g rfl (λR=>Wn R E j ht σ hs p q ?_);grind [Kg]|append=>simp only[mR,ft,dt] at g;obtain ⟨t,ht,t1,bi,s,bk,x,σ,u,q,bl,bt,g⟩:=g;cases u <;> cases bl <;> simp only[dt,reduceCtorEq] at g;obtain ⟨n,v,i,hi,z,O,g⟩:=g;split at g;{grind};rename_i F;simp only[dt,az] at g;obtain ⟨os,hs,A,p,rfl⟩:=g;simp only[bD] at h;exact .g rfl (λR=>Xd R E j ht bi bk σ q bt v hi O F hs p h)|copy=>simp[mR] at g|clear=>simp[mR] at g|delete=>simp[mR] at g|min=>simp only[mR,az] at g;subst g;simp only[bD,cL,ba] at h;obtain ⟨Q,N,rfl,rfl,rfl⟩:=h;exact .y rfl (lB E (by simp_all) (by simp_all))|max=>simp only[mR,az] at g;subst g;simp only[bD,cL,ba] at h;obtain ⟨Q,N,rfl,rfl,rfl⟩:=h;exact .y rfl (lB E (by simp_all) (by simp_all))|complex=>simp only[mR,az] at g;subst g;simp only[bD,cL,ba] at h;obtain ⟨Q,N,rfl,rfl,rfl⟩:=h;exact .y rfl (lB E (by simp_all) (by simp_all))|real=>simp only[mR,az] at g;subst g;simp only[bD,cL,ba] at h;obtain ⟨Q,N,rfl,rfl,rfl⟩:=h;exact .y rfl (lB E (by simp_all) (by simp_all))|imag=>simp only[mR,az] at g;subst g;simp only[bD,cL,ba] at h;obtain ⟨Q,N,rfl,rfl,rfl⟩:=h;exact .y rfl (lB E (by simp_all) (by simp_all))|_=>grind [mR]}|_=>grind [mR]
theorem evOp_ok(R:Rel Y M Fz w)(E:dJ Y M Fz w env a.tmps){o:ϊ}{ao:lY}{d:D}{wr:Β Ε}(j:mR P o.op o.type=Α ao)(f:CK ao=Ι) (h:bD P orc ao env Y=Α (d,Y',wr)):fH P (Ω a.eval o) Y M Fz w Y' d:=by cases GB (M:=M) (Fz:=Fz) (w:=w) R.gl E j f h with|y _ e=>exact e.gives R|l _ i e=>rw[i];exact (e λb off sz c m _ k hb=>R.row k hb).gives R|a _ e=>exact (e R.fz).gives R|g _ e=>grind
def wk{op:Op}{ty:Ψ}{ao:lY}(h:comp P op ty=Α ao) : (∃f args b of os,op=.call { callee:=.value f,args:=args,argTypes:=b }/\cA f=Α of/\Mg args=Α os/\ao=.call of os)\/(mR P op ty=Α ao/\CK ao=Ι/\isSel ao=Ι):=by unfold comp at h;grind
end
end Go.Abs
end
