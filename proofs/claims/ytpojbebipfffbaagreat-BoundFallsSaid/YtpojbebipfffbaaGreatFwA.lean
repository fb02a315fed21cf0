/- Lemmas. -/
import Derived.Calls
import Derived.Orders
import Derived.Laws.Sem
import Derived.Laws.World
import Derived.Laws.Cells
import Derived.Laws.Rows
import GoSem.Dispatch
import Derived.IntWalk
set_option linter.all false
open _root_ renaming Go.Addr->C8,Go.Addr.mk->xf,Array->Φ,Array.ext'->ts,Array.range->Ϭ,Array.size_append->ks,Array.size_empty->H4,Array.toList_push->F9,Bool->Λ,Go.Builtin->D2,Go.Builtin.append_->wd,Go.Builtin.delete_->K6,Go.Builtin.firstCells->ϒ,Go.Builtin.lenOf->B5,Go.Builtin.len_->ef,Go.Builtin.nextslicecap->io,Go.Builtin.zeroCells->Ϗ,Go.Field->uo,Inhabited->ξ,Go.Instr.checkKey->A9,Go.Instr.fill->A8,Go.Instr.findKey->Ϯ,Go.Instr.keyThatStays->I2,Go.Instr.lookup->D1,Go.Instr.mapUpdate->K5,Go.Instr.sameNow->ϵ,Go.Instr.slice->ul,Go.Instr.sliceAt->B4,Go.Instr.sliceBound->ϭ,Go.Instr.sliceBounds->ϟ,Go.Instr.sureAddr->ϩ,Int->Η,List->Β,List.getElem?_eraseIdx->B3,List.length_take->H3,Go.MapEntry->gx,Go.MapEntry.born->kq,Nat->Ε,Nat.div_add_mod->I0,Nat.mul_eq_zero->H9,Go.Obj->GE,Go.Obj.cells->Ϣ,Go.Obj.cells.injEq->ϙ,Go.Oper->ω,Go.Operand->ε,Option->Δ,Option.bind_eq_some_iff->ζ,Option.bind_some->ϓ,Option.map_eq_some_iff->ψ,Go.Program->Μ,Go.Question.appendCap->ϝ,Go.Result.andThen_ok->Ξ,Go.TypeDesc->ϑ,Go.TypeId->Ψ,Go.TypeInfo->ik,Go.Value->Ο,Go.World->Τ,Go.asIntOf->Ds,Go.binOp->vv,Go.eqGuard->na,Go.execOp->Ω,Bool.false->Θ,Go.getObj->sd,Go.goInt->GT,Go.heap_alloc_new->ϲ,if_neg->Κ,if_pos->Ν,if_true->Υ,Go.isAgg->Cv,Go.loadVar->C9,Option.none->Ζ,not_or->ϥ,Option.some->Α,Go.storeCells->ϻ,Bool.true->Γ,Go.undef->Ϟ
open Go.IntKind (i64 u64)
namespace Go
abbrev tx:=@ϓ
abbrev xAb:=@Β.drop_append
abbrev xAc:=@Λ.eq_iff_iff
abbrev xAd:=@Β.nodup_append
abbrev xAe:=@Β.getElem?_eq_none
abbrev xAf:=@Φ.foldl_toList
abbrev xAg:=@Β.getElem?_set_self
abbrev xAh:=@Β.length_singleton
abbrev xAi:=@Β.take_append_of_le_length
abbrev ay:=@Δ.some.injEq
abbrev az:=@ϓ
abbrev bD:=@decide_eq_true_eq
abbrev bB:=@Β.getElem_mem
abbrev cA:=@ψ
abbrev aY:=@Prod.mk.injEq
abbrev bY:=@Λ.false_eq_true
abbrev cQ:=@ζ
abbrev bH:=@Λ.and_eq_true
abbrev c_:=@Ε.eq_of_beq_eq_true
abbrev eW:=@Β.getElem?_eq_getElem
abbrev fK:=@Β.getElem?_eq_some_iff
abbrev dZ:=@Δ.bind_eq_bind
abbrev gz:=@Β.getElem_of_mem
abbrev cO:=@Ε.le_refl
abbrev rR:=@Φ.getElem?_eq_getElem
abbrev il:=@Λ.not_eq_true'
abbrev jq:=@Β.getElem?_map
abbrev ie:=@Β.all_eq_true
abbrev oJ:=@Β.mem_cons_of_mem
abbrev gy:=@Λ.or_eq_true
abbrev Ee:=@Β.take_succ_eq_append_getElem
abbrev uL:=@Β.getElem?_cons_zero
abbrev cq:=@if_false
abbrev fO:=@Β.mem_cons
abbrev ft:=@Β.mem_map
abbrev li:=@Β.mem_append
abbrev pM:=@Λ.not_eq_false
abbrev rO:=@Β.mem_cons_self
abbrev DT:=@Φ.getElem?_eq_some_iff
abbrev yJ:=@Β.mem_of_getElem?
abbrev vZ:=@Β.length_append
abbrev qF:=@Β.length_map
abbrev B_:=@Ε.le_of_ble_eq_true
abbrev H_:=@Β.getElem?_append_left
abbrev kz:=@Ε.le_trans
abbrev zC:=@Β.mem_singleton
abbrev yP:=@Β.append_assoc
abbrev xh:=@Β.take_length
abbrev qE:=@Β.map_cons
abbrev vH:=@Β.nil_append
abbrev QB:=@Β.getElem?_append_right
abbrev Aq:=@Β.length_cons
abbrev Ar:=@H3
abbrev jN:=@beq_iff_eq
abbrev Ic:=@Ε.mul_le_mul_right
abbrev sE:=@Ε.lt_or_ge
abbrev Bj:=@Δ.map_some
abbrev Bh:=@Β.append_nil
abbrev Hy:=@Ε.lt_of_lt_of_le
abbrev Xg:=@Β.eq_nil_of_length_eq_zero
abbrev Ez:=@Β.cons_append
abbrev ND:=@Β.take_append_drop
abbrev Mn:=@Β.mem_of_mem_take
abbrev OE:=@Φ.getElem?_toList
abbrev Rt:=@Β.mem_iff_getElem
abbrev Rv:=@Β.pairwise_append
abbrev yAV:=@Η.mul_le_mul_of_nonneg_right
abbrev Jm:=@Β.getElem_map
abbrev uM:=@Ε.blt_eq
abbrev Ig:=@Β.mem_filter
abbrev yAZ:=@Φ.getElem?_setIfInBounds
abbrev NI:=@Β.not_mem_nil
abbrev yBb:=@Β.getD_eq_getElem?_getD
abbrev Rs:=@Decidable.not_not
abbrev yBd:=@Β.pairwise_iff_getElem
abbrev yBe:=@Φ.getD_eq_getD_getElem?
abbrev yBf:=@Β.length_eq_zero_iff
abbrev yBg:=@Β.mem_or_eq_of_mem_set
abbrev Wy:=@Β.getElem_take
abbrev Zi:=@Β.length_pos_iff
abbrev Fc:=@Η.le_refl
abbrev YM:=@Β.ext_getElem?
abbrev UD:=@Δ.getD_some
abbrev yBm:=@Β.getElem?_cons_succ
abbrev NM:=@Β.all_cons
abbrev Tf:=@Β.length_nil
abbrev yBp:=@decide_eq_false_iff_not
abbrev yBq:=@Φ.length_toList
abbrev OG:=@Λ.not_true
abbrev yBs:=@Β.mem_of_mem_drop
abbrev Om:=@Λ.and_true
abbrev Uw:=@Β.length_set
abbrev Zg:=@Ε.lt_trichotomy
abbrev yBw:=@Ε.lt_or_eq_of_le
abbrev NH:=@Ε.zero_add
abbrev yBy:=@Β.pairwise_cons
abbrev yBz:=@Δ.isSome_iff_exists
abbrev Jf:=@bne_iff_ne
abbrev NK:=@Ε.add_mul
abbrev WR:=@Β.mapM_cons
abbrev yB3:=@Β.flatMap_cons
abbrev yB4:=@Β.drop_eq_nil_of_le
abbrev yB5:=@Β.map_append
abbrev Y_:=@Sigma.mk.injEq
abbrev HX:=@false_iff
abbrev yB8:=@Β.getElem?_take_of_lt
abbrev VK:=@Β.map_map
abbrev yBA:=@Β.singleton_append
abbrev T_:=@Ε.zero_le
abbrev yBC:=@Ε.mul_lt_mul_of_pos_right
abbrev yBD:=@Β.getElem?_append
abbrev yBE:=@Β.take_of_length_le
abbrev yBF:=@Β.getElem?_set
abbrev yBG:=@Η.toNat_natCast
abbrev HW:=@congrArg
abbrev yBI:=@Β.drop_eq_getElem_cons
abbrev yBJ:=@Β.mem_of_find?_eq_some
abbrev yBK:=@Β.mem_append_right
abbrev yBL:=@Λ.and_eq_false_iff
abbrev yBM:=@Β.getElem_set_self
abbrev yBN:=@Β.length_drop
abbrev yBO:=@Β.ext_getElem
abbrev yBP:=@Β.getElem?_of_mem
abbrev yBQ:=@Β.mem_append_left
abbrev yBR:=@Ε.add_sub_cancel_left
abbrev yBS:=@Ε.exists_eq_add_of_le
abbrev yBT:=@Β.sum_cons
abbrev yBU:=@Β.getElem_drop
abbrev yBV:=@Β.getElem_set_ne
abbrev yBW:=@Φ.getElem?_append_left
abbrev Nz:=@and_true
abbrev yBY:=@Β.getElem?_drop
abbrev yBZ:=@Β.mem_iff_getElem?
abbrev NE:=@or_false
abbrev yCb:=@Β.length_filter_le
abbrev yCc:=@Classical.not_and_iff_not_or_not
abbrev yCd:=@Β.getElem?_set_ne
abbrev yCe:=@Go.heap_alloc_old
abbrev yCf:=@Ε.le_of_eq
abbrev Rg:=@true_iff
abbrev yCh:=@Η.mul_nonneg
abbrev yCi:=@Β.mem_range
abbrev yCj:=@Β.set_cons_zero
abbrev yCk:=@Δ.pure_def
abbrev yCl:=@Δ.map_none
abbrev yCm:=@Ε.sub_zero
abbrev yCn:=@Β.cons.injEq
abbrev yCo:=@Classical.choose_spec
abbrev yCp:=@Ε.le_of_lt
abbrev yCq:=@Β.concat_eq_append
abbrev yCr:=@Β.perm_append_comm
abbrev yCs:=@Β.set_getElem_self
abbrev yCt:=@Β.map_take
abbrev yCu:=@Β.any_eq_false
abbrev yCv:=@Classical.not_forall
abbrev yCw:=@Ε.mul_le_mul
abbrev yCx:=@Decidable.byContradiction
abbrev yCy:=@Ε.lt_succ_self
abbrev yCz:=@beq_self_eq_true
abbrev yC0:=@Β.getElem_set
abbrev yC1:=@Β.flatMap_append
abbrev yC2:=@Η.toNat_of_nonneg
abbrev yC3:=@Ε.zero_mul
abbrev yC4:=@Φ.getElem?_replicate
abbrev yC5:=@Ε.beq_refl
abbrev yC6:=@Β.getElem_append_left
abbrev yC7:=@Β.foldl_cons
abbrev yC8:=@Β.sum_append
abbrev yC9:=@Ε.lt_succ_iff
abbrev yCA:=@Ε.pow_add
abbrev yCB:=@bne_self_eq_false
abbrev yCC:=@Β.drop_zero
abbrev yCD:=@Ε.sub_self
abbrev yCE:=@Β.all_nil
abbrev yCF:=@Η.lt_or_le
abbrev yCG:=@Ε.add_assoc
abbrev yCH:=@Β.map_drop
abbrev yCI:=@Λ.true_and
abbrev yCJ:=@Ε.sub_mul
end Go
section
namespace Go.Abs
inductive C where|lit (v:Ο)|cS (nn:Λ) (es:Β (Β C))|cG (cs:Β C) (off:Ε)|fn (f:Fn) (first cap:Β C)|OO (es:Β (Ο×C))|Zc (g:Ε) deriving ξ
inductive D where|c (x:C)|ptr (b off sz:Ε)|sl (b off len aC sz:Ε)|mp (b:Ε)|fn (f:Fn) (first cap:Β D)|agg (cs:Β D)|aW (vs:Β D)|any deriving ξ
inductive Ob where|cells (cs:Β D)|map (es:Β (Ο×D×Ε)) (clock:Ε)|gone (n:Ε) deriving ξ
def Ob.sz:Ob->Ε|.cells i=>i.length|.map _ _=>0|.gone n=>n
abbrev au:=Β Ob
inductive VC (Fz:Ε->Prop) (w:Τ):C->Ο->Prop where|lit (v:Ο):VC Fz w (.lit v) v|cS {nn:Λ} {es:Β (Β C)} (aC:Ε) (a:Δ C8) (cap:Ε) (hnn:nn=Γ->a.isSome=Γ) (hz:a=Ζ->cap=0) (c:Ε->Ε->Ο) (hsz:∀e∈es,e.length=aC) (hcap:es.length<=cap) (hc:∀(i j:Ε) e d,es[i]? = Α e->e[j]? = Α d->∃blk o,a=Α ⟨blk,o,Ζ⟩/\Fz blk/\w.cell? ⟨blk,o+i * aC+j,Ζ⟩=Α (c i j)/\(c i j).oneCell'=Γ) (hv:∀(i j:Ε) e d,es[i]? = Α e->e[j]? = Α d->VC Fz w d (c i j)):VC Fz w (.cS nn es) (.slice a es.length cap)|cG {cs:Β C} {off:Ε} (blk o:Ε) (c:Ε->Ο) (hF:Fz blk) (hc:∀(j:Ε) d,cs[j]? = Α d->w.cell? ⟨blk,o+j,Ζ⟩=Α (c j)/\(c j).oneCell'=Γ) (hv:∀(j:Ε) d,cs[j]? = Α d->VC Fz w d (c j)):VC Fz w (.cG cs off) (.pointer (Α ⟨blk,o+off,Ζ⟩))|fn {f:Fn} {first cap:Β C} (vs ws:Φ Ο) (h1:vs.size=first.length) (h2:ws.size=cap.length) (hv:∀(i:Ε) d v,first[i]? = Α d->vs[i]? = Α v->VC Fz w d v) (hw:∀(i:Ε) d v,cap[i]? = Α d->ws[i]? = Α v->VC Fz w d v) : VC Fz w (.fn f first cap) (.func f vs ws)|OO {es:Β (Ο×C)} (blk clock:Ε) (arr:Φ gx) (hF:Fz blk) (hh:w.heap[blk]? = Α (.map arr clock)) (hs:arr.size=es.length) (hk:∀(i:Ε) p e,es[i]? = Α p->arr[i]? = Α e->e.key=p.1) (hv:∀(i:Ε) p e,es[i]? = Α p->arr[i]? = Α e->VC Fz w p.2 e.val):VC Fz w (.OO es) (.map (Α blk))|Zc (g:Ε):VC Fz w (.Zc g) (.pointer (Α ⟨g,0,Ζ⟩))
theorem Kg{w w':Τ}{blk o:Ε}(h:w'.heap[blk]? = w.heap[blk]?):w'.cell? ⟨blk,o,Ζ⟩=w.cell? ⟨blk,o,Ζ⟩:=by grind [Go.World.cell?]
theorem VC.mono{Fz Fz':Ε->Prop}{w w':Τ}(Q:∀c:Ε,Fz c->Fz' c/\w'.heap[c]? = w.heap[c]?){x:C}{v:Ο}(h:VC Fz w x v):VC Fz' w' x v:=by induction h with|lit v=>exact .lit v|cS aC a cap z X c A u R E ih=>refine .cS aC a cap z X c A u (λi j e d U W=>?_) ih;grind [Kg]|cG blk o c F R E ih=>exact .cG blk o c (Q _ F).1 (λj d h=>⟨by grind [Kg],(R j d h).2⟩) ih|fn Y Z U W E hw G K=>exact .fn Y Z U W G K|OO blk s O F hh hs hk E ih=>exact .OO blk s O (Q _ F).1 (by simp_all) hs hk ih|Zc g=>exact .Zc g
inductive σ (V:au) (M:Ε->Δ Ε) (Fz:Ε->Prop) (w:Τ):D->Ο->Prop where| c {x:C} {v:Ο} (h:VC Fz w x v):σ V M Fz w (.c x) v| any (v:Ο):σ V M Fz w .any v| ptr {b off sz:Ε} (a:C8) (ob:Ob) (h:V[b]? = Α ob) (hle:sz≤ob.sz) (hv:ob.sz=sz->∃c,M b=Α c/\a=⟨c,off,Ζ⟩):σ V M Fz w (.ptr b off sz) (.pointer (Α a))| sl {b off len aC sz:Ε} (a:Δ C8) (n cap:Ε) (hnn:len≠0->a≠Ζ) (ob:Ob) (h:V[b]? = Α ob) (hle:sz≤ob.sz) (hv:ob.sz=sz->(a=Ζ/\n=0/\cap=0/\len=0/\off=0/\sz=0)\/∃c o arr T,M b=Α c/\a=Α ⟨c,o,Ζ⟩/\n=len/\(len≤cap/\sz≤off+cap * aC)/\(o=off\/cap=0) /\ w.heap[c]? = Α (.cells arr T (0,0))/\o+cap * aC≤arr.size/\off+len * aC≤sz):σ V M Fz w (.sl b off len aC sz) (.slice a n cap)| mp {b:Ε} (c:Ε) (ob:Ob) (h:V[b]? = Α ob) (hv:ob.sz=0->M b=Α c):σ V M Fz w (.mp b) (.map (Α c))| fn {f:Fn} {first cap:Β D} (vs ws:Φ Ο) (h1:vs.size=first.length) (h2:ws.size=cap.length) (hv:∀(i:Ε) d v,first[i]? = Α d->vs[i]? = Α v->σ V M Fz w d v) (hw:∀(i:Ε) d v,cap[i]? = Α d->ws[i]? = Α v->σ V M Fz w d v) : σ V M Fz w (.fn f first cap) (.func f vs ws)| agg {cs:Β D} (vs:Φ Ο) (h1:vs.size=cs.length) (hv:∀(i:Ε) d v,cs[i]? = Α d->vs[i]? = Α v->σ V M Fz w d v):σ V M Fz w (.agg cs) (.agg vs)| aW {cs:Β D} (vs:Φ Ο) (h1:vs.size=cs.length) (hv:∀(i:Ε) d v,cs[i]? = Α d->vs[i]? = Α v->σ V M Fz w d v):σ V M Fz w (.aW cs) (.tuple vs)
def jY(arr:Φ gx)(b:Ε):Prop:=(arr.toList.map kq).Nodup/\∀e∈arr.toList,e.born<b
theorem jY.nil(i:Ε):jY #[] i:=⟨by simp,by simp⟩
def jY.push{arr:Φ gx}{i:Ε}(h:jY arr i)(k v:Ο):jY (arr.push { key:=k,val:=v,born:=i }) (i+1):=by refine ⟨?_,λe he=>?_⟩;{rw[F9,yB5,xAd];refine ⟨h.1,by simp,λa j b hb=>?_⟩;obtain ⟨e,he,rfl⟩:=ft.1 j;have:=h.2 e he;grind};rw[F9,li] at he;rcases he with he | he;{have:=h.2 e he;omega};simp_all
theorem jY.same{arr i:Φ gx}{j:Ε}(h:jY arr j)(e:i.toList.map kq=arr.toList.map kq):jY i j:=by refine ⟨by rw[e];exact h.1,λx s=>?_⟩;have:x.born∈arr.toList.map kq:=by{grind};obtain ⟨y,o,q⟩:=ft.1 this;rw[<-q];exact h.2 y o
def jY.sub{arr i:Φ gx}{j:Ε}(h:jY arr j)(e:i.toList.Sublist arr.toList):jY i j:=⟨h.1.sublist (e.map _),λx o=>h.2 x (e.subset o)⟩
def cj(V:au)(M:Ε->Δ Ε)(Fz:Ε->Prop)(w:Τ):Ob->GE->Prop|.cells f,o=>∃b T,o=.cells b T (0,0)/\f.length<=b.size/\∀(i:Ε) d v,f[i]? = Α d->b[i]? = Α v->σ V M Fz w d v/\v.oneCell'=Γ|.map es _,o=>∃b,(∃g,o=.map b g/\jY b g)/\b.size=es.length/\∀(i:Ε) k d n e,es[i]? = Α (k,d,n)->b[i]? = Α e->e.key=k/\True/\σ V M Fz w d e.val|.gone _,_=>False
class Gl where
 ok:(Ε->Prop)->Τ->Prop
 mono:∀{Fz Fz':Ε->Prop}{w w':Τ},(∀c:Ε,Fz c->Fz' c/\w'.heap[c]? = w.heap[c]?)->ok Fz w->ok Fz' w'
 tab:Ε->Β Ο:=λ_=>[]
 tabOk:∀{Fz:Ε->Prop}{w:Τ}(g j:Ε)(v:Ο),ok Fz w->(tab g)[j]? = Α v->Fz g/\w.cell? ⟨g,j,Ζ⟩=Α v/\v.oneCell'=Γ:=by intro _ _ g j v _ h;simp at h
structure Rel [Gl] (V:au) (M:Ε->Δ Ε) (Fz:Ε->Prop) (w:Τ):Prop where
 blk:∀(b c:Ε),M b=Α c->¬Fz c/\∃ob o,V[b]? = Α ob/\w.heap[c]? = Α o/\cj V M Fz w ob o
 inj:∀b b' c,M b=Α c->M b'=Α c->b=b'
 fz:∀c,Fz c->c<w.heap.size
 gl:Gl.ok Fz w
structure bI (V:au) (M:Ε->Δ Ε) (Fz:Ε->Prop) (w:Τ) (V':au) (M':Ε->Δ Ε) (Fz':Ε->Prop) (w':Τ):Prop where
 size:w.heap.size<=w'.heap.size
 frame:∀c:Ε,c<w.heap.size->(∀b,M b≠Α c)->w'.heap[c]? = w.heap[c]?
 lh:∀b c,M' b=Α c->(∃b0,M b0=Α c)\/w.heap.size<=c
 fz:∀c:Ε,Fz c->Fz' c/\w'.heap[c]? = w.heap[c]?
 nK:∀c,Fz' c->Fz c\/(∃b,M b=Α c)\/w.heap.size<=c
 qx:∀(c:Ε) arr T fr,w.heap[c]? = Α (.cells arr T fr)->∃arr',w'.heap[c]? = Α (.cells arr' T fr)/\arr'.size=arr.size
 keep:∀(b:Ε) ob,V[b]? = Α ob->∃ob',V'[b]? = Α ob'/\ob.sz<=ob'.sz/\(ob'.sz=ob.sz->M' b=M b)
 out:w'.os=w.os/\w'.tape=w.tape/\w'.output=w.output
section
variable{V V' V'':au}{M M' M'':Ε->Δ Ε}{Fz Fz' Fz'':Ε->Prop}{w w' w'':Τ}
theorem σ.mono(E:bI V M Fz w V' M' Fz' w'){d:D}{v:Ο}(h:σ V M Fz w d v):σ V' M' Fz' w' d v:=by induction h with|c h=>exact .c (h.mono E.fz)|any v=>exact .any v|ptr a Q h A j=>obtain ⟨i,u,hs,hk⟩:=E.keep _ _ h;refine .ptr a i u (by omega) (λR=>?_);grind|sl a n cap F Q h A j=>obtain ⟨i,u,hs,hk⟩:=E.keep _ _ h;refine .sl a n cap F i u (by omega) (λR=>?_);rcases j (by omega) with ⟨s,U,h3,h4,h5,h6⟩ | ⟨c,o,W,T,hM,X,Y,hl,Z,hh,hb,hz⟩;{simp_all};obtain ⟨x,G,aa⟩:=E.qx _ _ _ _ hh;exact .inr ⟨c,o,x,T,by grind,X,Y,hl,Z,G,by omega,hz⟩|mp c Q h j=>obtain ⟨i,u,hs,hk⟩:=E.keep _ _ h;exact .mp c i u (λR=>by simp_all)|fn z ws s U j hw K O=>exact .fn z ws s U K O|agg z s j ih=>exact .agg z s ih|aW z s j ih=>exact .aW z s ih
variable[Gl] in
theorem bI.refl(R:Rel V M Fz w):bI V M Fz w V M Fz w:={
 size:=cO _
 frame:=λ_ _ _=>rfl
 lh:=λb c h=>.inl ⟨b,h⟩
 fz:=λc h=>⟨h,rfl⟩
 nK:=λc h=>.inl h
 qx:=λc i T o h=>⟨i,h,rfl⟩
 keep:=λb j h=>⟨j,h,cO _,λ_=>rfl⟩
 out:=⟨rfl,rfl,rfl⟩ }
def bI.trans(A:bI V M Fz w V' M' Fz' w')(B:bI V' M' Fz' w' V'' M'' Fz'' w'')(hl:V.length<=V'.length):bI V M Fz w V'' M'' Fz'' w'':={size:=kz A.size B.size,frame:=λc s x=>by rw[<-A.frame c s x];refine B.frame c (Hy s A.size) (λb hb=>?_);rcases A.lh b c hb with ⟨j,i⟩ | i;{simp_all};omega,lh:=λb c h=>by rcases B.lh b c h with ⟨j,i⟩ | i;{exact A.lh j c i};exact .inr (kz A.size i),fz:=λc h=>by obtain ⟨h1,h2⟩:=A.fz c h;obtain ⟨G,K⟩:=B.fz c h1;simp_all,nK:=λc h=>by rcases B.nK c h with h | ⟨b,h⟩ | h;{exact A.nK c h};{rcases A.lh b c h with ⟨j,i⟩ | i;{grind};omega};exact .inr (.inr (kz A.size h)),qx:=λc o T u h=>by obtain ⟨z,h1,O⟩:=A.qx c o T u h;obtain ⟨Q,h2,R⟩:=B.qx c z T u h1;simp_all,keep:=λb E h=>by obtain ⟨F,h1,s1,U⟩:=A.keep b E h;obtain ⟨W,h2,s2,X⟩:=B.keep b F h1;grind,out:=⟨B.out.1.trans A.out.1,B.out.2.1.trans A.out.2.1,B.out.2.2.trans A.out.2.2⟩ }
theorem cj.mono(E:bI V M Fz w V' M' Fz' w'){ob:Ob}{o:GE}(h:cj V M Fz w ob o):cj V' M' Fz' w' ob o:=by cases ob with|cells F=>obtain ⟨j,T,z,hl,s⟩:=h;exact ⟨j,T,z,hl,λi d v u x=>⟨(s i d v u x).1.mono E,(s i d v u x).2⟩⟩|map G A=>obtain ⟨j,z,hl,s⟩:=h;exact ⟨j,z,hl,λi k d n e u x=>let ⟨a,b,c⟩:=s i k d n e u x;⟨a,b,c.mono E⟩⟩|gone n=>exact h.elim
end
end Go.Abs
end
section
namespace Go.Abs
variable[Gl]
def fZ{α:Type}(P:Μ):Sem α->Δ α|.pure a=>Α a|.program k=>fZ P (k P)|_=>Ζ
theorem Rz{α:Type}{P:Μ}{s:Sem α}{a:α}(w:Τ)(h:fZ P s=Α a):s.run P w=.ok a w:=by induction s with|pure b=>simp only[fZ,ay] at h;simp_all|program k ih=>simp only[fZ] at h;exact ih P h|_=>grind [fZ]
inductive aT where|t (n:Ε)|k (d:D) deriving ξ
def dV:Ο->D|.agg b=>.agg (b.toList.map λv=>.c (.lit v))|.tuple b=>.aW (b.toList.map λv=>.c (.lit v))|v=>.c (.lit v)
def aT.ev(env:Β D):aT->D|.t n=>(env[n]?).getD (.aW [])|.k d=>d
def cf:ε->Δ aT|.tmp t=>Α (.t t)|.const v=>Α (.k (dV v))|.func f=>Α (.k (.c (.fn (.func f) [] [])))|.global g=>Α (.k (.c (.Zc g)))
def jf:D->Δ Ο|.c (.lit v)=>Α v|_=>Ζ
def D.dr:D->Δ Ο|.c (.lit v)=>Α v|.agg ds=>(ds.mapM jf).map λl=>.agg l.toArray|_=>Ζ
def D.scalar:D->Λ|.c (.lit v)=>v.oneCell'|.c _ | .ptr .. | .sl .. | .mp _ | .fn ..=>Γ|_=>Θ
def D.cells?:D->Δ (Β D)|.agg i=>if i.all D.scalar then Α i else Ζ|d=>if d.scalar then Α [d] else Ζ
inductive lP where|lX (x:aT)|pick (c a b:aT)|gen (op:Op) (ty:Ψ)|box (x:aT)|alloc (z:Β D)|build (z:Β D) (parts:Β (Ε×Ε×aT))|jM (aC len:Ε) (z:Β D) (parts:Β (Ε×Ε×aT))|load (n:Δ Ε) (a:aT)|store (n:Ε) (a x:aT)|nN (x:aT)|jD (k:Ε) (neg:Λ) (x:aT)|Kl (off:Ε) (x:aT)|idx (aC:Ε) (arr:Δ Ε) (x i:aT)|Rh (aC:Ε) (x:aT) (lo hi:Δ aT)|len (x:aT)|Zu (x:aT)|mk (aC bytes:Ε) (z:Β D) (l c:aT)|wQ|lookup (kind:ϑ) (zero:D) (m k:aT) (ok:Λ)|tQ (kind:ϑ) (m k x:aT)|extract (x:aT) (i:Ε)|Fx (f:Fn) (first cap:Β aT)|part (off:Ε) (n:Δ Ε) (x:aT)|EK (aC len:Ε) (n:Δ Ε) (x i:aT)|append (aC bytes:Ε) (s x:aT)|copy (aC:Ε) (d s:aT)|del (kind:ϑ) (m k:aT)|PJ (aC:Ε) (x lo hi mx:aT)|Hz (n:Ε) (x:aT)|clr (aC:Ε) (z:Β D) (x:aT)|call (f:aT) (args:Β aT) deriving ξ
def Mg(xs:Φ ε):Δ (Β aT):=xs.toList.mapM cf
def IR:Δ ε->Δ (Δ aT)|Ζ=>Α Ζ|Α x=>(cf x).map Α
def Gb(P:Μ)(t:Ψ):Δ (Δ Ε):=match P.info? t,P.underlying t with|Α i,Α (.struct _)=>Α (Α i.size)|Α i,Α (.array _ _)=>Α (Α i.size)|Α _,Α _=>Α Ζ|_,_=>Ζ
def zeroOf(P:Μ)(t:Ψ):Δ D:=match P.info? t with|Α i=>i.zero.map dV|Ζ=>Ζ
def El:D->D|.c (.lit (.slice Ζ 0 0))=>.c (.cS Θ [])|d=>d
def UW(P:Μ)(t:Ψ):Δ (Β D):=(zeroOf P t).bind D.cells?
def bM(P:Μ)(t:Ψ):Δ Ε:=(P.info? t).map (·.size)
def Lk(P:Μ)(b:Φ uo):Δ (Β (Ε×Ε)):=b.toList.mapM λf=>(bM P f.type).map λn=>(f.offset,n)
def Bk:ϑ->Δ Ε|.pointer _=>Α 0|.map _ _=>Α 1|.func ..=>Α 2|.slice _=>Α 3|_=>Ζ
def sI(k:Ε):ε->Λ|.const (.pointer Ζ)=>k == 0|.const (.map Ζ)=>k == 1|.const .nilFunc=>k == 2|.const (.slice Ζ 0 0)=>k == 3|_=>Θ
def xD(k:Ε)(neg:Λ)(x y:ε):Δ lP:=if sI k y then (cf x).map (.jD k neg) else if sI k x then (cf y).map (.jD k neg) else Ζ
def isNil:Ε->D->Δ Λ|0,.ptr ..=>Α Θ|0,.c (.cG ..)=>Α Θ|0,.c (.lit (.pointer Ζ))=>Α Γ|1,.mp _=>Α Θ|1,.c (.OO _)=>Α Θ|1,.c (.lit (.map Ζ))=>Α Γ|2,.fn ..=>Α Θ|2,.c (.fn ..)=>Α Θ|2,.c (.lit .nilFunc)=>Α Γ|3,.sl _ _ (_+1) _ _=>Α Θ|3,.c (.cS Γ _)=>Α Θ|3,.c (.lit (.slice Ζ 0 0))=>Α Γ|_,_=>Ζ
def ze1:ϑ->Λ|.int _=>Γ|_=>Θ
def mj(P:Μ)(op:Op)(ty:Ψ):Δ lP:=
 match op with
 |.move x | .assign x=>(cf x).map .lX
 |.pick c a b=>do Α (.pick (<-cf c) (<-cf a) (<-cf b))
 |.alloc t=>(UW P t).map .alloc
 |.box _ x=>(cf x).map .box
 |.build t d => do
  let z <-UW P t
  match <-P.underlying t with
  |.struct h => do
   let ps <-Lk P h
   Α (.build z (<-d.toList.mapM λ(i,x)=>do let (o,n) <-ps[i]?;Α (o,n,<-cf x)))
  |.array _ e => do
   let n <-bM P e
   Α (.build z (<-d.toList.mapM λ(i,x)=>do Α (i * n,n,<-cf x)))
  |_=>Ζ
 |.buildSlice t len d => do
  match <-P.underlying t with
  |.slice e => do
   let n <-bM P e
   let z <-UW P e
   if n=0\/z.length≠n\/len * n > 2 ^ 20 then Ζ else
   Α (.jM n len z (<-d.toList.mapM λ(i,x)=>do Α (i * n,n,<-cf x)))
  |_=>Ζ
 |.load t a=>do Α (.load (<-Gb P t) (<-cf a))
 |.store t a x=>do Α (.store (<-bM P t) (<-cf a) (<-cf x))
 |.nilCheck x=>(cf x).map .nN
 |.binOp o t x y _=>
  match (P.underlying t).bind Bk with
  |Α k=>
   match o with
   |.eql=>xD k Θ x y
   |.neq=>xD k Γ x y
   |_=>Ζ
  |Ζ=>Α (.gen op ty)
 |.unOp ..=>Α (.gen op ty)
 |.convert ..=>Α (.gen op ty)
 |.makeFunc f first cap=>do Α (.Fx f (<-Mg first) (<-Mg cap))
 |.makeMap _ Ζ=>Α .wQ
 |.makeSlice t l c => do
  match <-P.underlying t with
  |.slice e => do
   let n <-bM P e
   let z <-UW P e
   let i <-P.info? e
   if n=0\/z.length≠n then Ζ else Α (.mk n i.bytes (z.map El) (<-cf l) (<-cf c))
  |_=>Ζ
 |.slice t x p hi Ζ => do
  match <-P.underlying t with
  |.slice e=>do Α (.Rh (<-bM P e) (<-cf x) (<-IR p) (<-IR hi))
  |.string=>Α (.gen op ty)
  |.array m e => match p, hi with
   |Ζ, Ζ => do
    let k <-bM P e
    let q <-cf x
    if k=1 then Α (.Hz m q) else Ζ
   |_,_=>Ζ
  |_=>Ζ
 |.slice t x (Α p) (Α hi) (Α r) => do
  match <-P.underlying t with
  |.slice e=>do Α (.PJ (<-bM P e) (<-cf x) (<-cf p) (<-cf hi) (<-cf r))
  |_=>Ζ
 |.fieldAddr s x f => do
  match <-P.underlying s with
  |.struct h => do
   let fd <-h[f]?
   let n <-bM P fd.type
   if n=0 then Ζ else Α (.Kl fd.offset (<-cf x))
  |_=>Ζ
 |.field t x f => do
  match <-P.underlying t with
  |.struct h => do
   let fd <-h[f]?
   Α (.part fd.offset (<-Gb P fd.type) (<-cf x))
  |_=>Ζ
 |.indexAddr t x i => do
  match <-P.underlying t with
  |.slice e => do
   let n <-bM P e
   if n=0 then Ζ else Α (.idx n Ζ (<-cf x) (<-cf i))
  |.array len e => do
   let n <-bM P e
   if n=0 then Ζ else Α (.idx n (Α len) (<-cf x) (<-cf i))
  |_=>Ζ
 |.index t x i => do
  match <-P.underlying t with
  |.array len e=>do Α (.EK (<-bM P e) len (<-Gb P e) (<-cf x) (<-cf i))
  |.string=>Α (.gen op ty)
  |_=>Ζ
 |.lookup t m k ok => do
  match <-P.underlying t with
  |.map j e => do
   let g <-P.underlying j
   if ze1 g then Α (.lookup g (<-zeroOf P e) (<-cf m) (<-cf k) ok) else Ζ
  |_=>Ζ
 |.mapUpdate t m k x | .insert t m k x => do
  match <-P.underlying t with
  |.map j _ => do
   let g <-P.underlying j
   if ze1 g then Α (.tQ g (<-cf m) (<-cf k) (<-cf x)) else Ζ
  |_=>Ζ
 |.extract x i=>do Α (.extract (<-cf x) i)
 |.call { callee:=.value f,args,.. }=>do Α (.call (<-cf f) (<-Mg args))
 |.call { callee := .builtin .len, args, argTypes } => do
  let t <-argTypes[0]?
  let x <-args[0]?
  if args.size≠1 then Ζ else
  match <-P.underlying t with
  |.slice _=>(cf x).map .len
  |.map _ _=>(cf x).map .Zu
  |.array n _=>Α (.lX (.k (.c (.lit (.int .i64 n)))))
  |.string=>Α (.gen op ty)
  |_=>Ζ
 |.call { callee := .builtin .append, args, argTypes } => do
  let t <-argTypes[0]?
  let t1 <-argTypes[1]?
  let s <-args[0]?
  let x <-args[1]?
  match <-P.underlying t,<-P.underlying t1 with
  |.slice e, .slice _ => do
   let n <-bM P e
   let i <-P.info? e
   let z <-UW P e
   if n=0\/z.length≠n then Ζ else Α (.append n i.bytes (<-cf s) (<-cf x))
  |_,_=>Ζ
 |.call { callee := .builtin .copy, args, argTypes } => do
  let t <-argTypes[0]?
  let s <-args[0]?
  let x <-args[1]?
  match <-P.underlying t with
  |.slice e => do
   let n <-bM P e
   if n=0 then Ζ else Α (.copy n (<-cf s) (<-cf x))
  |_=>Ζ
 |.call { callee := .builtin .delete, args, argTypes } => do
  let t <-argTypes[0]?
  let m <-args[0]?
  let k <-args[1]?
  match <-P.underlying t with
  |.map j _ => do
   let g <-P.underlying j
   if ze1 g then Α (.del g (<-cf m) (<-cf k)) else Ζ
  |_=>Ζ
 |.call { callee := .builtin .clear, args, argTypes } => do
  let t <-argTypes[0]?
  let x <-args[0]?
  match <-P.underlying t with
  |.slice e => do
   let n <-bM P e
   let z <-UW P e
   if n=0\/z.length≠n then Ζ else Α (.clr n z (<-cf x))
  |_=>Ζ
 |.call { callee:=.builtin .min,.. } | .call { callee:=.builtin .max,.. } | .call { callee:=.builtin .complex,.. }
 |.call { callee:=.builtin .real,.. } | .call { callee:=.builtin .imag,.. }=>Α (.gen op ty)
 |_=>Ζ
def Cj:lP->Λ|.call ..=>Γ|_=>Θ
def isSel:lP->Λ|.gen (.select ..) _=>Γ|_=>Θ
def cat:lP->Ε|.lX .. | .pick .. | .gen .. | .build .. | .nN .. | .jD .. | .Kl .. | .idx .. | .Rh .. | .PJ .. | .Hz .. | .len .. | .extract .. | .Fx .. | .part .. | .EK ..=>0|.load ..=>1|.alloc .. | .box .. | .jM .. | .mk .. | .wQ=>2|_=>3
def comp(P:Μ)(op:Op)(ty:Ψ):Δ lP:=match op with|.call { callee := .value f, args, .. }=>(match cf f,Mg args with|Α of,Α os=>Α (.call of os)|_,_=>Ζ)|_=>match mj P op ty with|Α b=>if Cj b || isSel b then Ζ else Α b|Ζ=>Ζ
def nq:Ε->Β (Ο×D×Ε)->Β (Ο×D×Ε)|_,[]=>[]|i,(k,d,_)::l=>(k,d,i)::nq (i+1) l
abbrev xQ:=FuncId->Β D->au->Δ (D×au×Β Ε)
def tz:D->Δ Η|.c (.lit (.int _ n))=>Α n|_=>Ζ
def iK:D->Δ Λ|.c (.lit (.bool b))=>Α b|_=>Ζ
def pN(P:Μ)(op:Op)(ty:Ψ)(env:Β D):Δ D:=if op.operands.toList.all (λx=>(((cf x).map (aT.ev env)).bind D.dr).isSome) then match fZ P (Ω (λx=>((((cf x).map (aT.ev env)).bind D.dr).getD Ϟ)) { dst:=Ζ,op:=op,type:=ty,pos:="",after:=#[],guard:=Ζ }) with|Α (.value v)=>Α (dV v)|_=>Ζ else Ζ
def put(cs:Β D)(off:Ε)(xs:Β D):Β D:=cs.take off++xs++cs.drop (off+xs.length)
def qI(env:Β D):Β D->Β (Ε×Ε×aT)->Δ (Β D)
 |b,[]=>Α b
 |b, (o, n, x) :: rest => do
  let xs <-(x.ev env).cells?
  if xs.length≠n\/o+n > b.length then Ζ else qI env (put b o xs) rest
def kk(V:au)(b sz:Ε):Δ (Β D):=match V[b]? with|Α (.cells d)=>if d.length=sz then Α d else Ζ|_=>Ζ
def wR(n:Δ Ε)(cs:Β D)(off:Ε):Δ D:=match n with|Ζ=>cs[off]?|Α n=>if off+n<=cs.length then Α (.agg ((cs.drop off).take n)) else Ζ
def rj(n:Ε)(z:Β D):Β D:=(Β.replicate n z).flatten
def He(V:au):D->Δ Ε|.c (.lit (.slice Ζ 0 0))=>Α 0|.c (.cS _ es)=>Α es.length|.sl b _ len _ sz=>if (kk V b sz).isSome then Α len else Ζ|_=>Ζ
def XC(V:au)(aC:Ε)(n:Ε):D->Δ (Β D)
 |.c (.lit (.slice Ζ 0 0))=>if n=0 then Α [] else Ζ
 |.c (.cS _ d)=>if n<=d.length/\d.all (λe=>e.length=aC) then Α ((d.take n).flatten.map .c) else Ζ
 |.sl b off len d sz => do
  let f <-kk V b sz
  if d=aC/\n<=len/\off+len * aC<=sz then Α ((f.drop off).take (n * aC)) else Ζ
 |_=>Ζ
def tu(kind:ϑ)(k:Ο):Β (Ο×D×Ε)->Ε->Δ (Δ (Ε×D))|[],_=>Α Ζ|(b, d, _) :: es, i=>match ϵ kind k b with|Α Γ=>Α (Α (i,d))|Α Θ=>tu kind k es (i+1)|Ζ=>Ζ
def Ku(V:au):D->Δ (Β (Ο×D×Ε))|.c (.lit (.map Ζ))=>Α []|.c (.OO es)=>Α (es.map λp=>(p.1,.c p.2,0))|.mp b => (match V[b]? with|Α (.map es _)=>Α es|_=>Ζ)|_=>Ζ
def Rp(zero:D):Δ (Ε×D)->D×Λ|Α (_,d)=>(d,Γ)|Ζ=>(zero,Θ)
def Ea(i:Η)(n:Ε):Δ Ε:=if 0<=i/\i<n then Α i.toNat else Ζ
def Rb(i:Η)(n:Ε):Δ Ε:=if 0<=i/\i<=n then Α i.toNat else Ζ
def oM(env:Β D)(b d:Ε):Δ aT->Δ Ε|Ζ=>Α b|Α x=>(tz (x.ev env)).bind λi=>Rb i d
def Ey(n bytes:Ε):Λ:=(n * bytes<=2 ^ 40&&n<=2 ^ 40)&&bytes<=2 ^ 20
def bz(P:Μ)(orc:xQ)(o:lP)(env:Β D)(V:au):Δ (D×au×Β Ε):=
 match o with
 |.lX x=>Α (x.ev env,V,[])
 |.pick c a b=>(iK (c.ev env)).map λt=>(if t then a.ev env else b.ev env,V,[])
 |.gen op ty=>(pN P op ty env).map λd=>(d,V,[])
 |.box x=>((x.ev env).cells?).map λp=>(.ptr V.length 0 p.length,V++[.cells p],[])
 |.alloc z=>Α (.ptr V.length 0 z.length,V++[.cells z],[])
 |.build z E=>(qI env z E).map λp=>(.agg p,V,[])
 |.jM aC len z E=>(qI env (rj len z) E).map λp=>(.sl V.length 0 len aC p.length,V++[.cells p],[])
 |.load n a=>
  match a.ev env with
  |.ptr b off sz=>do Α (<-wR n (<-kk V b sz) off,V,[])
  |.c (.cG p off)=>do Α (<-wR n (p.map .c) off,V,[])
  |_=>Ζ
 |.store n a x=>
  match a.ev env with
  |.ptr b off sz => do
   let p <-kk V b sz
   let xs <-(x.ev env).cells?
   if xs.length=n/\off+n<=sz then Α (.aW [],V.set b (.cells (put p off xs)),[b]) else Ζ
  |_=>Ζ
 |.nN x=>
  match x.ev env with
  |.ptr b off sz=>Α (.ptr b off sz,V,[])
  |.c (.cG p off)=>Α (.c (.cG p off),V,[])
  |.c (.fn (.func f) first cap)=>Α (.c (.fn (.func f) first cap),V,[])
  |.fn (.func f) first cap=>Α (.fn (.func f) first cap,V,[])
  |_=>Ζ
 |.jD k F x=>(isNil k (x.ev env)).map λb=>(.c (.lit (.bool (if F then !b else b))),V,[])
 |.Kl off x=>
  match x.ev env with
  |.ptr b o sz=>Α (.ptr b (o+off) sz,V,[])
  |.c (.cG p o)=>Α (.c (.cG p (o+off)),V,[])
  |_=>Ζ
 |.idx aC Ζ x i => do
  let i <-tz (i.ev env)
  match x.ev env with
  |.sl b off len j sz => do
   let _ <-kk V b sz
   let k <-Ea i len
   if j=aC then Α (.ptr b (off+k * aC) sz,V,[]) else Ζ
  |.c (.cS _ j) => do
   let k <-Ea i j.length
   let e <-j[k]?
   if e.length=aC then Α (.c (.cG e 0),V,[]) else Ζ
  |_=>Ζ
 |.idx aC (Α len) x i => do
  let i <-tz (i.ev env)
  let k <-Ea i len
  match x.ev env with
  |.ptr b off sz=>Α (.ptr b (off+k * aC) sz,V,[])
  |.c (.cG p off)=>Α (.c (.cG p (off+k * aC)),V,[])
  |.c (.Zc g) => match Gl.tab g with
   |[]=>Ζ
   |v::L=>Α (.c (.cG ((v::L).map .lit) (k * aC)),V,[])
  |_=>Ζ
 |.Rh aC x A hi=>
  match x.ev env with
  |.c (.lit (.slice Ζ 0 0)) => do
   let h <-oM env 0 0 hi
   let _ <-oM env 0 h A
   Α (.c (.lit (.slice Ζ 0 0)),V,[])
  |.c (.cS nn j) => do
   let h <-oM env j.length j.length hi
   let l <-oM env 0 h A
   if j.all (λe=>e.length=aC) then Α (.c (.cS nn ((j.take h).drop l)),V,[]) else Ζ
  |.sl b off len j sz => do
   let _ <-kk V b sz
   let h <-(oM env len len hi).orElse λ_=>oM env len ((sz-off) / j) hi
   let l <-oM env 0 h A
   if j=aC then Α (.sl b (off+l * aC) (h-l) aC sz,V,[]) else Ζ
  |_=>Ζ
 |.len x=>(He V (x.ev env)).map λ(n:Ε)=>(.c (.lit (.int .i64 (Η.ofNat n))),V,[])
 |.Zu x=>(Ku V (x.ev env)).map λj=>(.c (.lit (.int .i64 (Η.ofNat j.length))),V,[])
 |.mk aC q z l c => do
  let l <-tz (l.ev env)
  let c <-tz (c.ev env)
  if 0<=l/\l<=c/\Ey c.toNat q then Α (.sl V.length 0 l.toNat aC (l.toNat * aC),V++[.cells (rj l.toNat z)],[]) else Ζ
 |.wQ=>Α (.mp V.length,V++[.map [] 0],[])
 |.lookup u zero m k ok => do
  let y <-jf (k.ev env)
  let j <-Ku V (m.ev env)
  let r <-tu u y j 0
  Α (if ok then .aW [(Rp zero r).1,.c (.lit (.bool (Rp zero r).2))] else (Rp zero r).1,V,[])
 |.tQ u m k x => do
  let y <-jf (k.ev env)
  match m.ev env with
  |.mp b => match V[b]? with
   |Α (.map j clock) => do
    match <-tu u y j 0 with
    |Α (i,_)=>Α (.aW [],V.set b (.map (j.modify i λ(k,_,n)=>(k,x.ev env,n)) clock),[b])
    |Ζ=>Α (.aW [],V.set b (.map (j++[(y,x.ev env,clock)]) (clock+1)),[b])
   |_=>Ζ
  |_=>Ζ
 |.del u m k => do
  let y <-jf (k.ev env)
  match m.ev env with
  |.mp b => match V[b]? with
   |Α (.map j clock) => do
    match <-tu u y j 0 with
    |Α (i,_)=>Α (.aW [],V.set b (.map (nq 0 (j.eraseIdx i)) (clock-1)),[b])
    |Ζ=>Α (.aW [],V.set b (.map j clock),[b])
   |_=>Ζ
  |_=>Ζ
 |.extract x i=>
  match x.ev env with
  |.aW ds=>(ds[i]?).map λd=>(d,V,[])
  |_=>Ζ
 |.Fx f first cap=>Α (.fn f (first.map (aT.ev env)) (cap.map (aT.ev env)),V,[])
 |.part off n x=>
  match x.ev env with
  |.agg p=>(wR n p off).map λd=>(d,V,[])
  |_=>Ζ
 |.EK aC len n x i => do
  let i <-tz (i.ev env)
  let k <-Ea i len
  match x.ev env with
  |.agg p=>(wR n p (k * aC)).map λd=>(d,V,[])
  |_=>Ζ
 |.append aC q s x => do
  let G:=x.ev env
  let n <-He V G
  let new <-XC V aC n G
  match s.ev env with
  |.c (.lit (.slice Ζ 0 0))=>if Ey n q then Α (.sl V.length 0 n aC (n * aC),V++[.cells new],[]) else Ζ
  |.sl b off len j sz => do
   let p <-kk V b sz
   if j=aC/\off=0/\len * aC=sz/\Ey (len+n) q then
    if n=0 then Α (.sl b 0 len aC sz,V,[b])
    else Α (.sl b 0 (len+n) aC (sz+n * aC),V.set b (.cells (p++new)),[b])
   else if j=aC/\off=0/\(len+n) * aC<=sz/\Ey (len+n) q then
    if n=0 then Α (.sl b 0 len aC sz,V,[b])
    else Α (.sl b 0 (len+n) aC sz,V.set b (.cells (put p (len * aC) new)),[b])
   else Ζ
  |_=>Ζ
 |.Hz m x=>
  match x.ev env with
  |.c (.cG p off)=>if off+m<=p.length then Α (.c (.cS Θ (((p.drop off).take m).map λc=>[c])),V,[]) else Ζ
  |_=>Ζ
 |.PJ aC x A hi N=>
  match x.ev env with
  |.sl b _ len j sz => do
   let _ <-kk V b sz
   let m <-(tz (N.ev env)).bind λi=>Rb i len
   let h <-(tz (hi.ev env)).bind λi=>Rb i len
   let _ <-(tz (A.ev env)).bind λi=>Rb i h
   if m=len/\j=aC then Α (.any,V,[]) else Ζ
  |_=>Ζ
 |.clr aC z x=>
  match x.ev env with
  |.sl b off len j sz => do
   let p <-kk V b sz
   if j=aC/\off+len * aC<=sz/\z.length=aC then Α (.aW [],V.set b (.cells (put p off (rj len z))),[b]) else Ζ
  |_=>Ζ
 |.copy aC d s => do
  let K:=s.ev env
  match d.ev env with
  |.sl b off len j sz => do
   let p <-kk V b sz
   let n <-(He V K).map λm=>min m len
   let new <-XC V aC n K
   if j=aC/\off+len * aC<=sz then Α (.c (.lit (.int .i64 n)),V.set b (.cells (put p off new)),[b]) else Ζ
  |_=>Ζ
 |.call f args=>
  match f.ev env with
  |.c (.fn (.func g) first cap)=>orc g (first.map .c++args.map (aT.ev env)++cap.map .c) V
  |.fn (.func g) first cap=>orc g (first++args.map (aT.ev env)++cap) V
  |_=>Ζ
section
variable{V V':au}{M M':Ε->Δ Ε}{Fz Fz':Ε->Prop}{w w':Τ}
def Rel.lt(R:Rel V M Fz w){b c:Ε}(h:M b=Α c):b<V.length/\c<w.heap.size:=by obtain ⟨_,i,o,j,s,_⟩:=R.blk b c h;grind
def VC.heap(i:w'.heap=w.heap){x:C}{v:Ο}(h:VC Fz w x v):VC Fz w' x v:=h.mono λc j=>⟨j,by rw[i]⟩
def bI.heap(R:Rel V M Fz w)(j:w'.heap=w.heap)(o:w'.os=w.os/\w'.tape=w.tape/\w'.output=w.output):bI V M Fz w V M Fz w':={size:=by simp_all,frame:=λ_ _ _=>by rw[j],lh:=λb c h=>.inl ⟨b,h⟩,fz:=λc h=>⟨h,by rw[j]⟩,nK:=λc h=>.inl h,qx:=λc i T u h=>⟨i,by simp_all,rfl⟩,keep:=λb s h=>⟨s,h,cO _,λ_=>rfl⟩,out:=o }
def Rel.heap(R:Rel V M Fz w)(i:w'.heap=w.heap)(j:w'.os=w.os/\w'.tape=w.tape/\w'.output=w.output):Rel V M Fz w':={blk:=λb c h=>by obtain ⟨s,ob,o,h1,h2,u⟩:=R.blk b c h;exact ⟨s,ob,o,h1,by simp_all,u.mono (bI.heap R i j)⟩,inj:=R.inj,fz:=λc h=>by rw[i];exact R.fz c h,gl:=Gl.mono (bI.heap R i j).fz R.gl }
def xR(M:Ε->Δ Ε)(b c:Ε):Ε->Δ Ε:=λx=>if x=b then Α c else M x
theorem bI.alloc(i:∀c,Fz c->c<w.heap.size)(ob:Ob)(o:GE):bI V M Fz w (V++[ob]) (xR M V.length w.heap.size) Fz (w.alloc o):={size:=by simp,frame:=λc u _=>yCe w o c u,lh:=λb c h=>by grind [xR],fz:=λc h=>⟨h,yCe w o c (i c h)⟩,nK:=λc h=>.inl h,qx:=λc j T x h=>⟨j,by grind [Go.heap_alloc_old],rfl⟩,keep:=λb s h=>by have hb:=(fK.1 h).1;refine ⟨s,by grind,cO _,λ_=>?_⟩;unfold xR;grind,out:=⟨rfl,rfl,rfl⟩ }
theorem Rel.alloc(R:Rel V M Fz w)(ob:Ob)(o:GE)(h:cj (V++[ob]) (xR M V.length w.heap.size) Fz (w.alloc o) ob o) : Rel (V++[ob]) (xR M V.length w.heap.size) Fz (w.alloc o):={blk:=λb c i=>by unfold xR at i;split at i;{rename_i hb;subst hb;simp only[ay] at i;subst i;exact ⟨λs=>by have:=R.fz _ s;omega,ob,o,by simp,ϲ w o,h⟩};obtain ⟨s,u,x,h1,h2,z⟩:=R.blk b c i;have hl:=R.lt i;exact ⟨s,u,x,by grind,by grind [Go.heap_alloc_old],z.mono (bI.alloc R.fz ob o)⟩,inj:=λb A c h j=>by unfold xR at h j;split at h <;> split at j;{omega};{simp only[ay] at h;have:=(R.lt j).2;omega};{simp only[ay] at j;have:=(R.lt h).2;omega};exact R.inj b A c h j,fz:=λc h=>by have:=R.fz c h;simp;omega,gl:=Gl.mono (bI.alloc (V:=V) (M:=M) R.fz ob o).fz R.gl }
def cL(w:Τ)(c:Ε)(o:GE):Τ:={ w with heap:=w.heap.setIfInBounds c o }
theorem fA{c:Ε}{o:GE}(h:c<w.heap.size):(cL w c o).heap[c]? = Α o:=by simp[cL,h]
theorem gH{c k:Ε}{o:GE}(h:k≠c):(cL w c o).heap[k]? = w.heap[k]?:=by grind [cL]
@[simp] theorem setO_size{c:Ε}{o:GE}:(cL w c o).heap.size=w.heap.size:=by simp[cL]
theorem bI.tQ(R:Rel V M Fz w){b c:Ε}(x:M b=Α c){ob ob':Ob}{o o':GE}(hb:V[b]? = Α ob)(A:w.heap[c]? = Α o)(hs:ob.sz<=ob'.sz) (s:∀arr T j,o=.cells arr T j->∃i,o'=.cells i T j/\i.size=arr.size):bI V M Fz w (V.set b ob') M Fz (cL w c o'):={size:=by simp,frame:=λk hk z=>gH (λh=>z b (by grind)),lh:=λb c h=>.inl ⟨b,h⟩,fz:=λk h=>⟨h,gH (λe=>(R.blk b c x).1 (e▸h))⟩,nK:=λc h=>.inl h,qx:=λk arr T j h=>by grind [fA,gH],keep:=λk u h=>by grind,out:=⟨rfl,rfl,rfl⟩ }
def Rel.tQ(R:Rel V M Fz w){b c:Ε}(s:M b=Α c){ob ob':Ob}{o o':GE}(hb:V[b]? = Α ob)(z:w.heap[c]? = Α o)(hs:ob.sz<=ob'.sz) (i:∀arr T A,o=.cells arr T A->∃j,o'=.cells j T A/\j.size=arr.size) (h:cj (V.set b ob') M Fz (cL w c o') ob' o'):Rel (V.set b ob') M Fz (cL w c o'):={blk:=λu c1 E=>by obtain ⟨F,x,G,h2,h3,K⟩:=R.blk u c1 E;by_cases e:u=b;{subst e;have:c1=c:=by{simp_all};grind [fA]};refine ⟨F,x,G,by grind,?_,K.mono (bI.tQ R s hb z hs i)⟩;rw[gH (λO:c1=c=>e (R.inj u b c (by simp_all) s))];exact h3,inj:=R.inj,fz:=λc h=>by simp;exact R.fz c h,gl:=Gl.mono (bI.tQ R s hb z hs i).fz R.gl }
def bI.move(R:Rel V M Fz w){b:Ε}{ob ob':Ob}{o':GE}(hb:V[b]? = Α ob)(hs:ob.sz<ob'.sz) : bI V M Fz w (V.set b ob') (xR M b w.heap.size) Fz (w.alloc o'):={size:=by simp,frame:=λc o _=>yCe w o' c o,lh:=λb c h=>by grind [xR],fz:=λc h=>⟨h,yCe w o' c (R.fz c h)⟩,nK:=λc h=>.inl h,qx:=λc j T s h=>⟨j,by grind [Go.heap_alloc_old],rfl⟩,keep:=λk i h=>by by_cases e:k=b;{grind};refine ⟨i,by grind,cO _,λ_=>?_⟩;unfold xR;simp_all,out:=⟨rfl,rfl,rfl⟩ }
def Rel.move(R:Rel V M Fz w){b:Ε}{ob ob':Ob}{o':GE}(hb:V[b]? = Α ob)(hs:ob.sz<ob'.sz) (h:cj (V.set b ob') (xR M b w.heap.size) Fz (w.alloc o') ob' o'):Rel (V.set b ob') (xR M b w.heap.size) Fz (w.alloc o'):={blk:=λj c1 i=>by unfold xR at i;split at i;{rename_i e;subst e;simp only[ay] at i;subst i;exact ⟨λo=>by have:=R.fz _ o;omega,ob',o',by grind,ϲ w o',h⟩};rename_i e;obtain ⟨o,s,u,h2,h3,x⟩:=R.blk j c1 i;exact ⟨o,s,u,by grind,by grind [Go.heap_alloc_old],x.mono (bI.move R hb hs)⟩,inj:=λj z c i h2=>by unfold xR at i h2;split at i <;> split at h2;{omega};{simp only[ay] at i;have:=(R.lt h2).2;omega};{simp only[ay] at h2;have:=(R.lt i).2;omega};exact R.inj j z c i h2,fz:=λc h=>by have:=R.fz c h;simp;omega,gl:=Gl.mono (bI.move (o':=o') R hb hs).fz R.gl }
def de(arr:Φ Ο)(off:Ε)(xs:Β Ο):Φ Ο:=(arr.toList.take off++xs++arr.toList.drop (off+xs.length)).toArray
theorem WC{arr:Φ Ο}{off:Ε}{xs:Β Ο}(h:off+xs.length<=arr.size):(de arr off xs).size=arr.size:=by grind [de]
theorem CO{arr:Φ Ο}{off:Ε}{x:Ο}{xs:Β Ο}(h:off+(xs.length+1)<=arr.size) : de (arr.setIfInBounds off x) (off+1) xs=de arr off (x::xs):=by apply ts;simp only[de,Φ.toList_setIfInBounds,Aq];apply YM;intro i;have b:arr.toList.length=arr.size:=by{simp};simp only[yBD,vZ,Ar,Uw,b,Aq];grind
def cF{arr:Φ Ο}{off:Ε}{xs:Β Ο}(h:off+xs.length<=arr.size)(i:Ε) : (de arr off xs)[i]? = if off<=i/\i<off+xs.length then xs[i-off]? else arr[i]?:=by have b:arr.toList.length=arr.size:=by{simp};simp only[de,Β.getElem?_toArray,yBD,vZ,Ar,b];grind
def iu{cs xs:Β D}{off:Ε}(h:off+xs.length<=cs.length)(i:Ε) : (put cs off xs)[i]? = if off<=i/\i<off+xs.length then xs[i-off]? else cs[i]?:=by simp only[put,yBD,vZ,Ar];grind
theorem ZJ{cs xs:Β D}{off:Ε}(h:off+xs.length<=cs.length):(put cs off xs).length=cs.length:=by grind [put]
theorem fy(blk o i:Ε):(xf blk o Ζ).add i=⟨blk,o+i,Ζ⟩:=by grind [Go.Addr.add]
def LI{c off:Ε}{arr:Φ Ο}{T:Ψ}{v:Ο}(h:w.heap[c]? = Α (.cells arr T (0,0))) : w.setCell ⟨c,off,Ζ⟩ v=cL w c (.cells (arr.setIfInBounds off v) T (0,0)):=by unfold Τ.setCell cL;congr 1;grind
def KJ{c:Ε}{o o':GE}:cL (cL w c o) c o'=cL w c o':=by simp[cL]
theorem xc(P:Μ)(T:Ψ)(c:Ε):∀(xs:Β Ο)(i off:Ε)(w:Τ)(arr:Φ Ο),w.heap[c]? = Α (.cells arr T (0,0))->(∀x∈xs,x.oneCell'=Γ)->off+i+xs.length<=arr.size -> (ϻ ⟨c,off,Ζ⟩ xs i).run P w=.ok () (if xs=[] then w else cL w c (.cells (de arr (off+i) xs) T (0,0))):=by intro xs;induction xs with|nil=>intro i off w arr _ _ _;simp[ϻ]|cons x xs ih=>intro i off w arr d f hl;simp only[Aq] at hl;have e:=(DT.1 d).1;have b:w.cell? ⟨c,off+i,Ζ⟩=Α (arr[off+i]'(by omega)):=by{rw[cell_of_row w c (off+i) arr T (0,0) d];simp_all};simp only[ϻ,Sem.run_bind,fy];rw[run_store P w _ x _ (f x (by simp)),b];simp only[frozen_of_row w c (off+i) arr T d,bY,cq,Ξ];rw[LI d];have h:=ih (i+1) off (cL w c (.cells (arr.setIfInBounds (off+i) x) T (0,0))) (arr.setIfInBounds (off+i) x) (fA e) (λy j=>f y (by simp[j])) (by grind);rw[h];simp only[Β.cons_ne_nil,cq,reduceCtorEq];congr 1;by_cases g:xs=[];{subst g;simp only[Υ];rw[<-CO (by omega)];congr 2;apply ts;simp[de]};rw[Κ g,KJ,<-CO (by omega)];rfl
end
end Go.Abs
end
section
namespace Go.Abs
variable[Gl]
def dM(V:au)(M:Ε->Δ Ε)(Fz:Ε->Prop)(w:Τ)(env:Β D)(b:Φ Ο):Prop:=b.size=env.length/\∀(i:Ε) d v,env[i]? = Α d->b[i]? = Α v->σ V M Fz w d v
def d_(P:Μ)(s:Sem Next)(V:au)(M:Ε->Δ Ε)(Fz:Ε->Prop)(w:Τ)(V':au)(d:D):Prop:=∃b v w' M',s.run P w=.ok b w'/\(b=.value v\/b=.skip/\v=Ϟ)/\Rel V' M' Fz w'/\σ V' M' Fz w' d v/\bI V M Fz w V' M' Fz w'/\V.length<=V'.length
section
variable{P:Μ}{V V':au}{M M':Ε->Δ Ε}{Fz:Ε->Prop}{w w':Τ}{env:Β D}{a:Act}
theorem d_.same{s:Sem Next}{v:Ο}{d:D}(R:Rel V M Fz w)(i:s.run P w=.ok (.value v) w)(j:σ V M Fz w d v):d_ P s V M Fz w V d:=⟨_,v,w,M,i,.inl rfl,R,j,bI.refl R,cO _⟩
def Yields(P:Μ)(s:Sem Next)(V:au)(M:Ε->Δ Ε)(Fz:Ε->Prop)(w:Τ)(d:D):Prop:=∃v,s.run P w=.ok (.value v) w/\σ V M Fz w d v
def ah(P:Μ)(s:Sem Next)(V:au)(M:Ε->Δ Ε)(Fz:Ε->Prop)(w:Τ)(ob:Ob)(d:D):Prop:=∃o v,s.run P w=.ok (.value v) (w.alloc o)/\cj (V++[ob]) (xR M V.length w.heap.size) Fz (w.alloc o) ob o/\σ (V++[ob]) (xR M V.length w.heap.size) Fz (w.alloc o) d v
theorem Yields.same{s:Sem Next}{v:Ο}{d:D}(i:s.run P w=.ok (.value v) w)(j:σ V M Fz w d v):Yields P s V M Fz w d:=⟨v,i,j⟩
def Yields.gives{s:Sem Next}{d:D}(R:Rel V M Fz w)(h:Yields P s V M Fz w d):d_ P s V M Fz w V d:=let ⟨_,i,j⟩:=h;d_.same R i j
def ah.gives{s:Sem Next}{d:D}{ob:Ob}(R:Rel V M Fz w)(h:ah P s V M Fz w ob d):d_ P s V M Fz w (V++[ob]) d:=let ⟨o,v,i,j,u⟩:=h;⟨_,v,_,_,i,.inl rfl,R.alloc ob o j,u,bI.alloc R.fz ob o,by simp⟩
theorem σ.dV(v:Ο):σ V M Fz w (dV v) v:=by cases v <;> first| exact .c (.lit _)| (refine .agg _ (by simp) (fun i d v j o=>?_);simp only [jq,OE,o,Bj,ay] at j;subst j;exact .c (.lit _))| (refine .aW _ (by simp) (fun i d v j o=>?_);simp only [jq,OE,o,Bj,ay] at j;subst j;exact .c (.lit _))
theorem mQ(E:dM V M Fz w env a.tmps){x:ε}{o:aT}(h:cf x=Α o):σ V M Fz w (o.ev env) (a.eval x):=by cases x with|tmp t=>simp only[cf,ay] at h;subst h;simp only[aT.ev,Act.eval];by_cases e:t<env.length;{have j:env[t]? = Α env[t]:=eW e;have k:a.tmps[t]? = Α (a.tmps[t]'(by rw[E.1];exact e)):=rR _;rw[j,UD,yBe,k,UD];exact E.2 t _ _ j k};have b:env.length<=t:=Ε.le_of_not_lt e;rw[xAe b,yBe,Φ.getElem?_eq_none (by rw[E.1];exact b)];exact .aW #[] rfl (λi d v h=>by simp at h)|const v=>simp only[cf,ay] at h;subst h;exact σ.dV v|global g=>simp only[cf,ay] at h;subst h;exact .c (.Zc g)|func f=>simp only[cf,ay] at h;subst h;exact .c (.fn #[] #[] rfl rfl (λi d v h=>by simp at h) (λi d v h=>by simp at h))
theorem σ.cr{v i:Ο}(h:σ V M Fz w (.c (.lit v)) i):i=v:=by cases h with|c h=>cases h;rfl
theorem Ua{ds:Β D}{l:Β Ο}(h:ds.mapM jf=Α l):ds.length=l.length/\∀(i:Ε) d,ds[i]? = Α d->∃v,l[i]? = Α v/\d=.c (.lit v):=by induction ds generalizing l with|nil=>simp_all|cons d ds ih=>simp only[WR,yCk,dZ,cQ,ay] at h;obtain ⟨v,e,g,hl,rfl⟩:=h;obtain ⟨f,j⟩:=ih hl;refine ⟨by simp[f],λi k b=>?_⟩;cases i with|zero=>{simp only[uL,ay] at b;subst b;cases d with|c x=>cases x <;> simp[jf] at e;simp_all|_=>grind [jf]}|succ i=>simp_all
theorem σ.val_inv{d:D}{v s:Ο}(h:σ V M Fz w d s)(j:d.dr = Α v):s=v:=by cases d with|c x=>cases x <;> simp[D.dr] at j;grind [σ.cr]|agg ds=>{simp only[D.dr,cA] at j;obtain ⟨l,hl,rfl⟩:=j;obtain ⟨O,G⟩:=Ua hl;cases h with|agg z hs o=>congr 1;apply ts;apply YM;intro i;simp only[OE];by_cases hi:i<ds.length;{have A:ds[i]? = Α ds[i]:=eW hi;have E:z[i]? = Α (z[i]'(by omega)):=rR _;obtain ⟨u,Q,K⟩:=G i _ A;have F:=o i _ _ A E;rw[K] at F;rw[E,F.cr];simp_all};simp_all}|_=>grind [D.dr]
def aaa(E:dM V M Fz w env a.tmps){o:ω}{x:ε}{d:aT}(b:o.op=.move x\/o.op=.assign x)(e:cf x=Α d) : Yields P (Ω a.eval o) V M Fz w (d.ev env):=by refine Yields.same (v:=a.eval x) ?_ (mQ E e);rcases b with b | b <;> simp[Ω,b]
theorem pK{d:D}{v:Ο}{t:Λ}(h:σ V M Fz w d v)(b:iK d=Α t):v=.bool t:=by cases d with|c x=>{cases x with|lit u=>cases u <;> simp[iK] at b;grind [σ.cr]|_=>grind [iK]}|_=>grind [iK]
theorem jQ{d:D}{v:Ο}{n:Η}(h:σ V M Fz w d v)(b:tz d=Α n):∃k,v=.int k n:=by cases d with|c x=>{cases x with|lit u=>cases u <;> simp[tz] at b;grind [σ.cr]|_=>grind [tz]}|_=>grind [tz]
def pick_ok(E:dM V M Fz w env a.tmps){o:ω}{c x y:ε}{b d e:aT}{t:Λ}(f:o.op=.pick c x y) (g:cf c=Α b) (i:cf x=Α d) (j:cf y=Α e) (h:iK (b.ev env)=Α t) : Yields P (Ω a.eval o) V M Fz w (if t then d.ev env else e.ev env):=by refine Yields.same (v:=if t then a.eval x else a.eval y) ?_ ?_;{simp[Ω,f,pK (mQ E g) h,asBool]};grind [mQ]
def lI(E:dM V M Fz w env a.tmps){o:ω}{d:D}(e:∀cs b,o.op≠.select cs b)(h:pN P o.op o.type env=Α d) : Yields P (Ω a.eval o) V M Fz w d:=by unfold pN at h;split at h;{rename_i f;generalize j:(λx=>((((cf x).map (aT.ev env)).bind D.dr).getD Ϟ))=ρ at h;have k:Ω a.eval o=Ω ρ o:=by{refine execOp_congr o e (λx n=>?_);have g:=(ie.1 f) x (by simp_all);rw[<-j];cases i:cf x with|none=>simp_all|some p=>simp only[i,Bj,az] at g ⊢;obtain ⟨v,m⟩:=yBz.1 g;rw[m,UD];exact (mQ E i).val_inv m};have l:Ω ρ o=Ω ρ { dst:=Ζ,op:=o.op,type:=o.type,pos:="",after:=#[],guard:=Ζ }:=rfl;grind [Yields.same,σ.dV,Rz]};simp_all
theorem σ.one{d:D}{v:Ο}(h:σ V M Fz w d v)(hs:d.scalar=Γ):v.oneCell'=Γ/\v.cells=#[v]:=by cases h with|c h=>{cases h with|lit v=>{simp only[D.scalar] at hs;cases v <;> first | exact ⟨rfl,rfl⟩ | simp[Ο.oneCell'] at hs}|_=>exact ⟨rfl,rfl⟩}|any v=>grind [D.scalar]|agg=>grind [D.scalar]|aW=>grind [D.scalar]|_=>exact ⟨rfl,rfl⟩
theorem σ.cells{d:D}{v:Ο}{cs:Β D}(h:σ V M Fz w d v)(j:d.cells? = Α cs) : v.cells.size=cs.length/\(∀(i:Ε) x u,cs[i]? = Α x->v.cells[i]? = Α u->σ V M Fz w x u)/\(∀u∈v.cells.toList,u.oneCell'=Γ)/\(∀x∈cs,x.scalar=Γ):=by have s:d.scalar=Γ->d.cells? = Α [d]->v.cells.size=cs.length/\(∀(i:Ε) x u,cs[i]? = Α x->v.cells[i]? = Α u->σ V M Fz w x u)/\(∀u∈v.cells.toList,u.oneCell'=Γ)/\(∀x∈cs,x.scalar=Γ):=by{intro hs z;rw[z] at j;simp only[ay] at j;subst j;obtain ⟨Q,R⟩:=h.one hs;grind};cases d with|agg ds=>simp only[D.cells?] at j;split at j;{rename_i o;simp only[ay] at j;subst j;cases h with|agg A z E=>refine ⟨z,E,λu F=>?_,λx G=>ie.1 o x G⟩;obtain ⟨i,hi,rfl⟩:=Rt.1 F;simp only[Ο.cells,yBq] at hi;have K:ds[i]? = Α (ds[i]'(by omega)):=eW _;have O:A[i]? = Α A[i]:=rR _;exact ((E i _ _ K O).one (ie.1 o _ (bB _))).1};simp_all|_=>simp only[D.cells?] at j;split at j;{rename_i hs;exact s hs (by simp only[D.cells?,hs,Υ])};simp_all
def zZ{arr:Φ Ο}{i:Ε}{u:Ο}(h:arr[i]? = Α u):u∈arr.toList:=by grind
def rK(b:∀c,Fz c->c<w.heap.size){cs:Β D}{arr:Φ Ο}(T:Ψ)(hs:cs.length≤arr.size) (e:∀(i:Ε) x u,cs[i]? = Α x->arr[i]? = Α u->σ V M Fz w x u/\u.oneCell'=Γ) : (newRow T arr).run P w=.ok ⟨w.heap.size,0,Ζ⟩ (w.alloc (.cells arr T)) /\ cj (V++[.cells cs]) (xR M V.length w.heap.size) Fz (w.alloc (.cells arr T)) (.cells cs) (.cells arr T):=⟨rfl,arr,T,rfl,hs,fun i d v f g=>⟨(e i d v f g).1.mono (bI.alloc b _ _),(e i d v f g).2⟩⟩
def σ.newPtr(cs:Β D)(o:GE):σ (V++[.cells cs]) (xR M V.length w.heap.size) Fz (w.alloc o) (.ptr V.length 0 cs.length) (.pointer (Α ⟨w.heap.size,0,Ζ⟩)):=.ptr _ (.cells cs) (by simp) (by simp[Ob.sz]) (λ_=>⟨w.heap.size,by simp[xR],rfl⟩)
def box_ok(b:∀c,Fz c->c<w.heap.size)(E:dM V M Fz w env a.tmps){o:ω}{t:Ψ}{x:ε}{e:aT}{cs:Β D}(g:o.op=.box t x)(d:cf x=Α e) (h:(e.ev env).cells? = Α cs):ah P (Ω a.eval o) V M Fz w (.cells cs) (.ptr V.length 0 cs.length):=by obtain ⟨n,j,k,_⟩:=(mQ E d).cells h;obtain ⟨l,m⟩:=rK (P:=P) b t (by omega) (λi x u d f=>⟨j i x u d f,k u (zZ f)⟩);exact ⟨_,_,by simp[Ω,g,Instr.box,newVar,l],m,σ.newPtr cs _⟩
def zdD{t:Ψ}{z:Β D}(h:UW P t=Α z):∃i v,P.info? t=Α i/\i.zero=Α v/\(dV v).cells? = Α z:=by grind [UW,zeroOf,ζ]
theorem zdI{t:Ψ}{i:ik}(h:P.info? t=Α i)(w:Τ):(typeInfo t).run P w=.ok i w:=by simp[typeInfo,h]
theorem jj{t:Ψ}{i:ik}{v:Ο}(h:P.info? t=Α i)(b:i.zero=Α v)(w:Τ):(zeroValue t).run P w=.ok v w:=by simp[zeroValue,zdI h,b]
theorem TX{t:Ψ}{n:Ε}(h:bM P t=Α n)(w:Τ):(sizeOf t).run P w=.ok n w:=by simp only[bM,cA] at h;obtain ⟨i,hi,rfl⟩:=h;simp[sizeOf,zdI hi]
theorem rS{t:Ψ}{d:ϑ}(h:P.underlying t=Α d)(w:Τ):(underlying t).run P w=.ok d w:=by simp[underlying,h]
def aav(b:∀c,Fz c->c<w.heap.size){o:ω}{t:Ψ}{z:Β D}(e:o.op=.alloc t)(f:UW P t=Α z) : ah P (Ω a.eval o) V M Fz w (.cells z) (.ptr V.length 0 z.length):=by obtain ⟨i,v,hi,g,h⟩:=zdD f;obtain ⟨p,j,k,_⟩:=(σ.dV (V:=V) (M:=M) (Fz:=Fz) (w:=w) v).cells h;obtain ⟨l,m⟩:=rK (P:=P) b t (by omega) (λi x u n d=>⟨j i x u n d,k u (zZ d)⟩);exact ⟨_,_,by simp[Ω,e,Instr.alloc,jj hi g,newVar,l],m,σ.newPtr z _⟩
def Rl{b sz:Ε}{cs:Β D}(h:kk V b sz=Α cs):V[b]? = Α (.cells cs)/\cs.length=sz:=by grind [kk]
theorem σ.xA{b off sz:Ε}{v:Ο}{cs:Β D}(h:σ V M Fz w (.ptr b off sz) v)(i:kk V b sz=Α cs):∃c,M b=Α c/\v=.pointer (Α ⟨c,off,Ζ⟩):=by obtain ⟨j,o⟩:=Rl i;cases h with|ptr x z hb s u=>rw[j] at hb;simp only[ay] at hb;subst hb;obtain ⟨c,A,E⟩:=u o;simp_all
def Rel.row(R:Rel V M Fz w){b c:Ε}{cs:Β D}(s:M b=Α c)(hb:V[b]? = Α (.cells cs)) : ∃arr T,w.heap[c]? = Α (.cells arr T (0,0))/\cs.length<=arr.size/\∀(i:Ε) d v,cs[i]? = Α d->arr[i]? = Α v->σ V M Fz w d v/\v.oneCell'=Γ:=by obtain ⟨_,x,o,j,z,u⟩:=R.blk b c s;rw[hb] at j;simp only[ay] at j;subst j;obtain ⟨arr,T,rfl,hl,A⟩:=u;grind
theorem Ab{t:Ψ}{n:Δ Ε}{cs:Β D}{blk g off:Ε}{d:D}(h:Gb P t=Α n)(k:wR n cs off=Α d) (b:∀(i:Ε) x,cs[i]? = Α x->∃u,w.cell? ⟨blk,g+i,Ζ⟩=Α u/\σ V M Fz w x u) : ∃v,(C9 t ⟨blk,g+off,Ζ⟩).run P w=.ok v w/\σ V M Fz w d v:=by unfold Gb at h;have agg:∀(i:ik),P.info? t=Α i->n=Α i.size->(Cv t).run P w=.ok Γ w->∃v,(C9 t ⟨blk,g+off,Ζ⟩).run P w=.ok v w/\σ V M Fz w d v:=by{intro i hi h e;subst h;simp only[wR] at k;split at k;{rename_i s;simp only[ay] at k;subst k;have y:∀j,j<i.size->∃u,w.cell? ⟨blk,g+off+j,Ζ⟩=Α u/\∀x,cs[off+j]? = Α x->σ V M Fz w x u:=by{intro j A;obtain ⟨u,p,q⟩:=b (off+j) _ (eW (by omega));grind};let f:Ε->Ο:=λj=>(w.cell? ⟨blk,g+off+j,Ζ⟩).getD Ϟ;have z:∀j,j<i.size->w.cell? ((xf blk (g+off) Ζ).add j)=Α (f j):=by{grind [fy]};have l:=run_loadCells (P:=P) (w:=w) ⟨blk,g+off,Ζ⟩ i.size f z;refine ⟨.agg (Β.map f (Β.range i.size)).toArray,by simp only[C9,Sem.run_bind,e,Ξ,Υ,sizeOf,zdI hi,Sem.run_pure,l],?_⟩;refine .agg _ (by grind) (λj x v p q=>?_);grind};simp_all};have one:n=Ζ->(Cv t).run P w=.ok Θ w->∃v,(C9 t ⟨blk,g+off,Ζ⟩).run P w=.ok v w/\σ V M Fz w d v:=by{intro h e;subst h;obtain ⟨u,p,q⟩:=b off d k;exact ⟨u,by simp only[C9,Sem.run_bind,e,Ξ,bY,cq,run_load,p],q⟩};cases hi:P.info? t with|none=>simp_all|some i=>cases r:P.underlying t with|none=>simp_all|some m=>rw[hi,r] at h;have o:(Cv t).run P w=.ok (m matches .struct _ | .array _ _) w:=by{simp only[Cv,Sem.run_bind,rS r,Ξ];cases m <;> rfl};grind
def load_ok(E:dM V M Fz w env a.tmps){o:ω}{t:Ψ}{x:ε}{q:aT}{n:Δ Ε}{d:D}(A:o.op=.load t x)(L:cf x=Α q)
  (F:Gb P t=Α n) (N:∀b off sz c cs,q.ev env=.ptr b off sz->M b=Α c->V[b]? = Α (.cells cs)->∃arr T,w.heap[c]? = Α (.cells arr T (0,0))/\cs.length≤arr.size/\∀(i:Ε) d v,cs[i]? = Α d->arr[i]? = Α v->σ V M Fz w d v/\v.oneCell'=Γ)
  (h:(match q.ev env with
   | .ptr b off sz=>do Α (←wR n (←kk V b sz) off,V,([]:Β Ε))
   | .c (.cG cs off)=>do Α (←wR n (cs.map .c) off,V,[])
   | _=>Ζ)=Α (d,V',[])):V'=V/\Yields P (Ω a.eval o) V M Fz w d:=by
 have k:=mQ E L
 split at h
 ·rename_i b off sz p
  rw [p] at k
  simp only [dZ,cQ,ay,aY] at h
  obtain ⟨cs,G,O,r,rfl,rfl,_⟩:=h
  refine ⟨rfl,?_⟩
  obtain ⟨c,Q,l⟩:=k.xA G
  obtain ⟨hb,_⟩:=Rl G
  obtain ⟨arr,T,R,hl,s⟩:=N b off sz c cs p Q hb
  have f:∀(i:Ε) x,cs[i]? = Α x->∃u,w.cell? ⟨c,0+i,Ζ⟩=Α u/\σ V M Fz w x u:=by
   intro i x j
   have hi:=(fK.1 j).1
   have e:arr[i]? = Α (arr[i]'(by omega)):=rR _
   exact ⟨_,by rw [NH,cell_of_row w c i arr T (0,0) R]; exact e,(s i _ _ j e).1⟩
  obtain ⟨v,g,m⟩:=Ab (P:=P) F r f
  refine Yields.same (v:=v) ?_ m
  rw [NH] at g
  simp [Ω,A,Instr.loadAt,l,ϩ,g]
 ·rename_i cs off p
  rw [p] at k
  simp only [dZ,cQ,ay,aY] at h
  obtain ⟨O,r,rfl,rfl,_⟩:=h
  refine ⟨rfl,?_⟩
  cases k with
  | c k =>
   generalize l:a.eval x=W at k
   cases k with
   | cG blk S c X U z =>
    have f:∀(i:Ε) x,(cs.map D.c)[i]? = Α x->∃u,w.cell? ⟨blk,S+i,Ζ⟩=Α u/\σ V M Fz w x u:=by
     intro i x j
     simp only [jq,cA] at j
     obtain ⟨y,K,rfl⟩:=j
     exact ⟨_,(U i y K).1,.c (z i y K)⟩
    obtain ⟨v,g,m⟩:=Ab (P:=P) F r f
    refine Yields.same (v:=v) ?_ m
    simp [Ω,A,Instr.loadAt,l,ϩ,g]
 simp_all
end
end Go.Abs
end
section
namespace Go.Abs
variable[Gl]
section
variable{P:Μ}{V V':au}{M M':Ε->Δ Ε}{Fz:Ε->Prop}{w w':Τ}{env:Β D}{a:Act}
theorem Gy(off:Ε):∀(l:Β Ο)(k:Ε)(arr:Φ Ο),off+k+l.length<=arr.size -> (l.zipIdx k).foldl (λcs (p:Ο×Ε)=>cs.setIfInBounds (off+p.2) p.1) arr=de arr (off+k) l:=by intro l;induction l with|nil=>intro k arr _;apply ts;simp[de]|cons x l ih=>grind [Β.zipIdx_cons,CO]
def Em(V:au)(M:Ε->Δ Ε)(Fz:Ε->Prop)(w:Τ)(cs:Β D)(arr:Φ Ο):Prop:=arr.size=cs.length/\∀(i:Ε) x u,cs[i]? = Α x->arr[i]? = Α u->σ V M Fz w x u/\u.oneCell'=Γ
theorem Em.put{cs xs:Β D}{arr:Φ Ο}{vs:Β Ο}{off:Ε}(h:Em V M Fz w cs arr)(hl:vs.length=xs.length)(s:off+xs.length<=cs.length) (A:∀(i:Ε) x u,xs[i]? = Α x->vs[i]? = Α u->σ V M Fz w x u/\u.oneCell'=Γ):Em V M Fz w (put cs off xs) (de arr off vs):=by refine ⟨by rw[WC (by rw[h.1];omega),ZJ s,h.1],λi x u j o=>?_⟩;rw[iu s] at j;rw[cF (by rw[h.1];omega),hl] at o;split at j;{grind};rename_i z;rw[Κ z] at o;exact h.2 _ _ _ j o
def Em.sC{d:D}{v:Ο}{cs:Β D}(h:σ V M Fz w d v)(o:d.cells? = Α cs):Em V M Fz w cs v.cells:=by obtain ⟨s,z,A,_⟩:=h.cells o;exact ⟨s,λi x u E j=>⟨z i x u E j,A u (zZ j)⟩⟩
theorem VH(E:dM V M Fz w env a.tmps)(pl:Ε->Δ (Ε×Ε)):∀(ps:Β (Ε×ε))(k:Β (Ε×Ε×aT))(cs e:Β D)(arr:Φ Ο),(ps.mapM λ(i,x)=>(pl i).bind λ(o,n)=>(cf x).bind λz=>Α (o,n,z))=Α k->Em V M Fz w cs arr->qI env cs k=Α e -> ∃b,A8 pl arr (ps.map λ(i,x)=>(i,a.eval x))=Α b/\Em V M Fz w e b:=by intro ps;induction ps with|nil=>intro k cs e arr h j g;simp only[Β.mapM_nil,yCk,ay] at h;subst h;simp only[qI,ay] at g;subst g;exact ⟨arr,rfl,j⟩|cons p ps ih=>intro k cs e arr h j g;obtain ⟨i,x⟩:=p;simp only[WR,yCk,dZ,cQ,ay] at h;obtain ⟨q,⟨⟨o,n⟩,l,z,m,rfl⟩,r,s,rfl⟩:=h;simp only[qI,dZ,cQ] at g;obtain ⟨K,t,g⟩:=g;split at g;{grind};rename_i f;simp only[ϥ,Rs,Ε.not_lt] at f;obtain ⟨F,G⟩:=f;have d:=Em.sC (mQ E m) t;obtain ⟨b,v,A⟩:=ih r _ e (de arr o (a.eval x).cells.toList) s (j.put (by simp[d.1]) (by omega) (λi y u v A=>d.2 i y u v (by simp_all))) g;refine ⟨b,?_,A⟩;simp only[qE,A8,l];rw[Κ (by simp[d.1,F,j.1];omega)];rw[<-v];congr 1;have:=Gy o (a.eval x).cells.toList 0 arr (by simp[d.1,j.1];omega);rw[<-xAf];simp_all
theorem RJ{d:Φ uo}{ps:Β (Ε×Ε)}(h:Lk P d=Α ps)(w:Τ) :
  (d.mapM λ(f:uo)=>(do pure (f.offset,<-sizeOf f.type):Sem (Ε×Ε))).run P w=.ok ps.toArray w:=by
 have e:∀(l:Β uo)(ps:Β (Ε×Ε)),(l.mapM λf=>(bM P f.type).map λn=>(f.offset,n))=Α ps ->
   (l.mapM λf=>(do pure (f.offset,<-sizeOf f.type):Sem (Ε×Ε))).run P w=.ok ps w:=by
  intro l;induction l with
  |nil=>simp_all
  |cons f l ih=>intro ps h;simp only[WR,yCk,dZ,cQ,cA,ay] at h;obtain ⟨q,⟨n,g,rfl⟩,i,b,rfl⟩:=h;simp only[WR,Sem.run_bind,TX g,Ξ,Sem.run_pure,ih i b]
 grind [Lk,Φ.mapM_eq_mapM_toList,Go.Sem.run_map,Go.Result.andThen_ok]
def Q_(E:dM V M Fz w env a.tmps){o:ω}{t:Ψ}{b:Φ (Ε×ε)}{z:Β D}{h:Β (Ε×Ε×aT)}{pl:Ε->Δ (Ε×Ε)}{cs:Β D} (p:o.op=.build t b) (s:UW P t=Α z) (j:(∃k ps,P.underlying t=Α (.struct k)/\Lk P k=Α ps/\pl=(ps[·]?))\/(∃m e n,P.underlying t=Α (.array m e)/\bM P e=Α n/\pl=λi=>Α (i * n,n))) (u:(b.toList.mapM λ(i,x)=>(pl i).bind λ(o,n)=>(cf x).bind λy=>Α (o,n,y))=Α h) (A:qI env z h=Α cs) : Yields P (Ω a.eval o) V M Fz w (.agg cs):=by obtain ⟨i,v,hi,q,F⟩:=zdD s;have f:=Em.sC (σ.dV (V:=V) (M:=M) (Fz:=Fz) (w:=w) v) F;obtain ⟨g,O,r⟩:=VH E pl b.toList h z cs v.cells u f A;refine Yields.same (v:=.agg g) ?_ (.agg g r.1 (λi d v G K=>(r.2 i d v G K).1));rcases j with ⟨k,ps,l,L,rfl⟩ | ⟨m,e,n,l,N,rfl⟩;{simp only[Ω,p,Instr.build,Sem.run_bind,jj hi q,Ξ,rS l,RJ L];simp_all};simp only[Ω,p,Instr.build,Sem.run_bind,jj hi q,Ξ,rS l,TX N];simp_all
theorem iz(n:Ε)(z:Β D):(rj n z).length=n * z.length:=by simp[rj]
theorem Gm{z:Β D}(b:z≠[]):∀(n i:Ε),i<n * z.length->(rj n z)[i]? = z[i % z.length]?:=by intro n;have d:0<z.length:=Zi.2 b;induction n with|zero=>omega|succ n ih=>intro i hi;have e:rj (n+1) z=z++rj n z:=by{simp[rj,Β.replicate_succ]};rw[e,yBD];split;{grind [Ε.mod_eq_of_lt]};rename_i h;rw[ih (i-z.length) (by grind)];congr 1;(conv=>rhs;rw[show i=i-z.length+z.length from by omega]);rw[Ε.add_mod_right]
def Dp{z:Β D}{v:Ο}(b:Em V M Fz w z v.cells)(g:z≠[])(n m:Ε)(d:n<=m) : n * z.length<=((Ϭ (m * v.cells.size)).map (v.cells[· % v.cells.size]!)).size /\ ∀(i:Ε) x u,(rj n z)[i]? = Α x->((Ϭ (m * v.cells.size)).map (v.cells[· % v.cells.size]!))[i]? = Α u->σ V M Fz w x u/\u.oneCell'=Γ:=by have j:0<z.length:=Zi.2 g;refine ⟨by simp[b.1];exact Ic _ d,λi x u e h=>?_⟩;have hi:=(fK.1 e).1;rw[iz] at hi;rw[Gm g n i hi] at e;have k:i % z.length<v.cells.size:=by{rw[b.1];grind};have f:i<m * v.cells.size:=by{grind};refine b.2 (i % z.length) x u e ?_;rw[Φ.getElem?_map,Φ.getElem?_range,Ν f] at h;simp only[Bj,ay,b.1] at h;simp_all
def σ.Z_{cs:Β D}{arr:Φ Ο}{T:Ψ}{len aC cap:Ε}(i:len<=cap)(j:cap * aC<=arr.size)(hl:len * aC<=cs.length)(hs:cs.length<=cap * aC) : σ (V++[.cells cs]) (xR M V.length w.heap.size) Fz (w.alloc (.cells arr T)) (.sl V.length 0 len aC cs.length) (.slice (Α ⟨w.heap.size,0,Ζ⟩) len cap):=.sl _ _ _ (by simp) (.cells cs) (by simp) (by simp[Ob.sz]) (λ_=>.inr ⟨w.heap.size,0,arr,T,by simp[xR],rfl,rfl,⟨i,by omega⟩,.inl rfl,ϲ w _,by omega,by omega⟩)
def WW(q:∀c,Fz c->c<w.heap.size)(E:dM V M Fz w env a.tmps){o:ω}{t e:Ψ}{len n:Ε}{b:Φ (Ε×ε)}{z:Β D}{r:Β (Ε×Ε×aT)}{cs:Β D} (N:o.op=.buildSlice t len b) (O:P.underlying t=Α (.slice e)) (Q:bM P e=Α n) (R:UW P e=Α z) (f:¬(n=0\/z.length≠n\/len * n > 2 ^ 20)) (S:(b.toList.mapM λ(i,x)=>(Α (i * n,n)).bind λ(p:Ε×Ε)=>(cf x).bind λT=>Α (p.1,p.2,T))=Α r) (U:qI env (rj len z) r=Α cs) : ah P (Ω a.eval o) V M Fz w (.cells cs) (.sl V.length 0 len n cs.length):=by obtain ⟨i,v,hi,W,X⟩:=zdD R;have d:=Em.sC (σ.dV (V:=V) (M:=M) (Fz:=Fz) (w:=w) v) X;simp only[ϥ,Rs,Ε.not_lt] at f;obtain ⟨Y,s,L⟩:=f;have g:z≠[]:=λh=>by{simp_all};have Z:v.cells.size=n:=by{rw[d.1,s]};obtain ⟨aa,A⟩:=Dp d g len len (cO _);have F:Em V M Fz w (rj len z) ((Ϭ (len * v.cells.size)).map (v.cells[· % v.cells.size]!)):=⟨by grind [iz],A⟩;obtain ⟨arr,h1,m⟩:=VH E (λi=>Α (i * n,n)) b.toList r (rj len z) cs _ S F U;have j:cs.length=len * n:=by{have:arr.size=len * n:=by{have G:∀(l:Β (Ε×Ο))(x y:Φ Ο),A8 (λi=>Α (i * n,n)) x l=Α y->y.size=x.size:=by{intro l;induction l with|nil=>grind [Go.Instr.fill]|cons p l ih=>intro x y h;obtain ⟨i,u⟩:=p;simp only[A8] at h;split at h;{simp at h};rename_i k;simp at k;rw[ih _ _ h,<-xAf];have:=Gy (i * n) u.cells.toList 0 x (by grind);simp only[Ε.add_zero] at this;grind [WC]};grind};rw[<-m.1,this]};obtain ⟨r1,r2⟩:=rK (P:=P) q (arr:=arr) (cs:=cs) e (by rw[m.1];omega) m.2;refine ⟨_,.slice (Α ⟨w.heap.size,0,Ζ⟩) len len,?_,r2,σ.Z_ (cap:=len) (cO _) (by rw[m.1,j];omega) (by omega) (by omega)⟩;simp only[Ω,N,Instr.buildSlice,Sem.run_bind,rS O,Ξ,TX Q];rw[Κ (by omega)];by_cases h0:len * n=0;{have K:len=0:=by{grind [H9]};subst K;simp only[yC3] at h1 ⊢;simp only[Υ,Sem.run_bind,Sem.run_pure,Ξ];grind [Φ.toList_map,Go.Sem.run_bind,Go.Result.andThen_ok,Go.Sem.run_pure]};rw[Κ h0];simp only[Sem.run_bind,jj hi W,Ξ,Sem.run_pure];simp_all
def store_ok(R:Rel V M Fz w)(E:dM V M Fz w env a.tmps){o:ω}{t:Ψ}{x y:ε}{O Q:aT}{n b off sz:Ε}{cs xs:Β D}(Z:o.op=.store t x y) (hx:cf x=Α O) (S:cf y=Α Q) (hn:bM P t=Α n) (he:O.ev env=.ptr b off sz) (U:kk V b sz=Α cs) (q:(Q.ev env).cells? = Α xs) (hc:xs.length=n/\off+n<=sz):d_ P (Ω a.eval o) V M Fz w (V.set b (.cells (put cs off xs))) (.aW []):=by have W:=mQ E hx;rw[he] at W;obtain ⟨c,A,F⟩:=W.xA U;obtain ⟨hb,aa⟩:=Rl U;obtain ⟨e,T,u,hl,G⟩:=R.row A hb;have g:=Em.sC (mQ E S) q;obtain ⟨_,_,K,_⟩:=(mQ E S).cells q;have L:off+xs.length<=cs.length:=by{omega};have r:=xc P T c (a.eval y).cells.toList 0 off w e u K (by grind);have j:∀k X Y,Ϣ e T (0,0)=.cells k X Y->∃l,Ϣ (de e off (a.eval y).cells.toList) T (0,0)=.cells l X Y/\l.size=k.size:=by{grind [WC]};have m:(if (a.eval y).cells.toList=[] then w else cL w c (.cells (de e (off+0) (a.eval y).cells.toList) T (0,0)))=cL w c (.cells (de e off (a.eval y).cells.toList) T (0,0)):=by{split;{rename_i s;rw[s];have:de e off []=e:=by{grind [de]};rw[this];unfold cL;have ab:=(DT.1 u).1;have:w.heap.setIfInBounds c (.cells e T (0,0))=w.heap:=by{grind};rw[this]};rfl};rw[m] at r;have hs:(Ob.cells cs).sz<=(Ob.cells (put cs off xs)).sz:=by{grind [Ob.sz,ZJ]};have N:=bI.tQ R A hb u hs j;refine ⟨.skip,Ϟ,_,M,?_,.inr ⟨rfl,rfl⟩,R.tQ A hb u hs j ?_,.aW #[] rfl (λi d v h=>by simp at h),N,by simp⟩;{simp only[Ω,Z,Instr.storeAt,F,ϩ,Sem.run_bind,Sem.run_pure,Ξ,storeVar,TX hn];simp_all};refine ⟨_,T,rfl,by grind [ZJ],λi d v z p=>?_⟩;rw[iu L] at z;rw[cF (by grind)] at p;simp only[yBq,g.1] at p;split at z;{rename_i f;rw[Ν f] at p;have:=g.2 _ _ _ z (by simpa using p);exact ⟨this.1.mono N,this.2⟩};rename_i f;rw[Κ f] at p;have:=G _ _ _ z p;exact ⟨this.1.mono N,this.2⟩
end
end Go.Abs
end
section
namespace Go.Abs
variable[Gl]
section
variable{P:Μ}{V V':au}{M M':Ε->Δ Ε}{Fz:Ε->Prop}{w w':Τ}{env:Β D}{a:Act}
theorem σ.Kl{b o sz off:Ε}{v:Ο}(h:σ V M Fz w (.ptr b o sz) v):∃i,v=.pointer (Α i)/\σ V M Fz w (.ptr b (o+off) sz) (.pointer (Α (i.add off))):=by cases h with|ptr i s hb j u=>refine ⟨i,rfl,.ptr _ s hb j (λx=>?_)⟩;grind [fy]
theorem VC.Kl{cs:Β C}{o off:Ε}{v:Ο}(h:VC Fz w (.cG cs o) v):∃i,v=.pointer (Α i)/\VC Fz w (.cG cs (o+off)) (.pointer (Α (i.add off))):=by generalize j:C.cG cs o=x at h;cases h with|cG blk s c u z A=>simp only[C.cG.injEq] at j;obtain ⟨rfl,rfl⟩:=j;refine ⟨_,rfl,?_⟩;rw[fy,yCG];exact .cG blk s c u z A|_=>grind
theorem σ.ry{x:C}{v:Ο}(h:σ V M Fz w (.c x) v):VC Fz w x v:=by cases h with | c h=>exact h
def fld_ok(E:dM V M Fz w env a.tmps){o:ω}{s:Ψ}{x:ε}{m:aT}{f n:Ε}{p:Φ uo}{g:uo}{d:D}(t:o.op=.fieldAddr s x f) (u:cf x=Α m) (v:P.underlying s=Α (.struct p)) (y:p[f]? = Α g) (z:bM P g.type=Α n) (A:n≠0) (h:(match m.ev env with|.ptr b o sz=>Α (.ptr b (o+g.offset) sz,V,([]:Β Ε))|.c (.cG q o)=>Α (.c (.cG q (o+g.offset)),V,[])|_=>Ζ)=Α (d,V',[])):V'=V/\Yields P (Ω a.eval o) V M Fz w d:=by have j:=mQ E u;have k:∀i,a.eval x=.pointer (Α i)->(Ω a.eval o).run P w=.ok (.value (.pointer (Α (i.add g.offset)))) w:=by{intro i e;simp only[Ω,t,Instr.fieldAt,Sem.run_bind,rS v,Ξ,y,e,ϩ,Sem.run_pure,fieldPlace,TX z];simp_all};split at h;{rename_i b F sz l;rw[l] at j;simp only[ay,aY] at h;obtain ⟨rfl,rfl,_⟩:=h;obtain ⟨i,e,r⟩:=j.Kl (off:=g.offset);grind [Yields.same]};{rename_i q F l;rw[l] at j;simp only[ay,aY] at h;obtain ⟨rfl,rfl,_⟩:=h;obtain ⟨i,e,r⟩:=j.ry.Kl (off:=g.offset);exact ⟨rfl,Yields.same (k i e) (.c r)⟩};simp_all
def Fi{i:Η}{n k:Ε}(h:Ea i n=Α k):0<=i/\i<n/\i.toNat=k/\k<n:=by grind [Ea]
def inB_inv{i:Η}{n k:Ε}(h:Rb i n=Α k):0<=i/\i<=n/\i.toNat=k/\k<=n:=by grind [Rb]
theorem σ.fJ{b off len aC sz:Ε}{v:Ο}{cs:Β D}(h:σ V M Fz w (.sl b off len aC sz) v)(i:kk V b sz=Α cs) : (v=.slice Ζ 0 0/\len=0/\off=0/\sz=0/\cs=[])\/∃c o cap arr T,M b=Α c/\v=.slice (Α ⟨c,o,Ζ⟩) len cap/\(len<=cap/\sz<=off+cap * aC)/\(o=off\/cap=0)/\w.heap[c]? = Α (.cells arr T (0,0))/\o+cap * aC<=arr.size/\off+len * aC<=sz:=by obtain ⟨j,s⟩:=Rl i;cases h with|sl K n cap u O hb x z=>rw[j] at hb;simp only[ay] at hb;subst hb;rcases z s with ⟨Q,R,U,W,X,Y⟩ | ⟨c,o,arr,T,A,Z,hn,hl,E,F,hb,G⟩;{simp_all};exact .inr ⟨c,o,cap,arr,T,A,by simp_all,hl,E,F,hb,G⟩
theorem σ.mkPtr{b c off sz:Ε}{cs:Β D}(i:kk V b sz=Α cs)(j:M b=Α c):σ V M Fz w (.ptr b off sz) (.pointer (Α ⟨c,off,Ζ⟩)):=by obtain ⟨o,s⟩:=Rl i;exact .ptr _ _ o (by grind [Ob.sz]) (λ_=>⟨c,j,rfl⟩)
def idx_ok(E:dM V M Fz w env a.tmps){o:ω}{t e:Ψ}{x i:ε}{S U:aT}{n:Ε}{d:D}(ho:o.op=.indexAddr t x i)
  (hx:cf x=Α S) (hi:cf i=Α U) (hu:P.underlying t=Α (.slice e)) (hn:bM P e=Α n) (aa:n≠0)
  (h:(do
  let i <-tz (U.ev env)
  match S.ev env with
  |.sl b off len f sz => do
   let _ <-kk V b sz
   let k <-Ea i len
   if f=n then Α (.ptr b (off+k * n) sz,V,([]:Β Ε)) else Ζ
  |.c (.cS _ f) => do
   let k <-Ea i f.length
   let e <-f[k]?
   if e.length=n then Α (.c (.cG e 0),V,[]) else Ζ
  |_=>Ζ)=Α (d,V',[])):V'=V/\Yields P (Ω a.eval o) V M Fz w d:=by
 have u:=mQ E hx;have F:=mQ E hi;simp only[dZ,cQ] at h;obtain ⟨z,W,h⟩:=h;obtain ⟨k0,G⟩:=jQ F W;have K:∀v len cap,a.eval x=.slice (Α v) len cap->0<=z->z<len->(Ω a.eval o).run P w=.ok (.value (.pointer (Α (v.add (z.toNat * n))))) w:=by intro v len cap L y A;simp only[Ω,ho,Instr.indexAt,Sem.run_bind,G,Ds,Sem.run_pure,Ξ,rS hu,L];rw[Ν ⟨y,A⟩];simp only[Sem.run_bind,TX hn,Ξ,Sem.run_pure]
 split at h
 ·rename_i b off len f sz N;rw[N] at u;simp only[cQ] at h;obtain ⟨cs,hr,k,hk,h⟩:=h;split at h
  ·rename_i O;simp only[ay,aY] at h;obtain ⟨rfl,rfl,_⟩:=h;obtain ⟨y,A,X,h4⟩:=Fi hk;rcases u.fJ hr with ⟨_,e2,_⟩ | ⟨c,o',cap,ab,T,hM,g,hl,Y,hh,l,Q⟩
   ·omega
   grind [Yields.same,fy,σ.mkPtr]
  simp_all
 ·rename_i nn f N;rw[N] at u;simp only[cQ] at h;obtain ⟨k,hk,m,p,h⟩:=h;split at h
  ·rename_i O;simp only[ay,aY] at h;obtain ⟨rfl,rfl,_⟩:=h;obtain ⟨y,A,X,h4⟩:=Fi hk;have q:=u.ry;generalize g:a.eval x=va at q;cases q with
   |cS aC v cap af W c Q l hc R=>
    have r:aC=n:=by grind
    subst r;have s:0<m.length:=by omega
    obtain ⟨blk,o0,rfl,hF,_,_⟩:=hc k 0 m m[0] p (eW s);refine ⟨rfl,Yields.same (K _ _ _ g y A) ?_⟩;rw[fy,X];refine .c ?_;have:=VC.cG (Fz:=Fz) (w:=w) (cs:=m) (off:=0) blk (o0+k * aC) (c k) hF (λj d Z=>?_) (λj d Z=>R k j m d p Z)
    ·omega
    grind
  simp_all
 simp_all
def Ov(A:Gl.ok Fz w)(E:dM V M Fz w env a.tmps){o:ω}{t e:Ψ}{x i:ε}{L N:aT}{n len:Ε}{d:D}(Q:o.op=.indexAddr t x i)
  (R:cf x=Α L) (hi:cf i=Α N) (F:P.underlying t=Α (.array len e)) (S:bM P e=Α n)
  (h:(do
  let i <-tz (N.ev env)
  let k <-Ea i len
  match L.ev env with
  |.ptr b off sz=>Α (.ptr b (off+k * n) sz,V,([]:Β Ε))
  |.c (.cG cs off)=>Α (.c (.cG cs (off+k * n)),V,[])
  |.c (.Zc g) => match Gl.tab g with
   |[]=>Ζ
   |v::p=>Α (.c (.cG ((v::p).map .lit) (k * n)),V,[])
  |_=>Ζ)=Α (d,V',[])):V'=V/\Yields P (Ω a.eval o) V M Fz w d:=by
 have l:=mQ E R;have G:=mQ E hi;simp only[dZ,cQ] at h;obtain ⟨z,T,k,hk,h⟩:=h;obtain ⟨Z,K⟩:=jQ G T;obtain ⟨U,W,X,h4⟩:=Fi hk;have q:∀m,a.eval x=.pointer (Α m)->(Ω a.eval o).run P w=.ok (.value (.pointer (Α (m.add (k * n))))) w:=by intro m f;simp only[Ω,Q,Instr.indexAt,Sem.run_bind,K,Ds,Sem.run_pure,Ξ,rS F,f,ϩ];rw[Ν ⟨U,W⟩];simp only[Sem.run_bind,TX S,Ξ,Sem.run_pure,X]
 split at h
 ·rename_i b off sz r;rw[r] at l;simp only[ay,aY] at h;obtain ⟨rfl,rfl,_⟩:=h;obtain ⟨m,f,O⟩:=l.Kl (off:=k * n)
  grind [Yields.same]
 ·rename_i cs off r;rw[r] at l;simp only[ay,aY] at h;obtain ⟨rfl,rfl,_⟩:=h;obtain ⟨m,f,O⟩:=l.ry.Kl (off:=k * n);exact ⟨rfl,Yields.same (q m f) (.c O)⟩
 ·rename_i g r;rw[r] at l;split at h
  ·simp at h
  ·rename_i v p hg;simp only[ay,aY] at h;obtain ⟨rfl,rfl,_⟩:=h;have f:a.eval x=.pointer (Α ⟨g,0,Ζ⟩):=by
    generalize a.eval x=y at l;cases l with
    |c l=>cases l;rfl
   have Y:∀(j:Ε) u,(v::p)[j]? = Α u->Fz g/\w.cell? ⟨g,j,Ζ⟩=Α u/\u.oneCell'=Γ:=λj u s=>Gl.tabOk g j u A (by simp_all);refine ⟨rfl,Yields.same (q _ f) (.c ?_)⟩;have:=VC.cG (Fz:=Fz) (w:=w) (cs:=(v::p).map .lit) (off:=k * n) g 0 (λj=>((v::p)[j]?).getD default) (Y 0 v rfl).1 (λj d s=>?_) (λj d s=>?_)
   ·have e:(⟨g,0,Ζ⟩:C8).add (k * n)=⟨g,k * n,Ζ⟩:=by
     simp only[C8.add,NH]
     simp_all
    simp_all
   ·grind
   ·rw[jq,cA] at s;obtain ⟨u,F,rfl⟩:=s;simp only[F,UD];exact .lit u
 simp_all
def fP(E:dM V M Fz w env a.tmps){x:ε}{f:aT}{n k:Ε}(g:cf x=Α f)(h:((tz (f.ev env)).bind λi=>Rb i n)=Α k)(b:Ε)(hm:n<=b)(d:BoundsCode) : (ϭ (a.eval x) b d).run P w=.ok k w/\k<=n:=by simp only[cQ] at h;obtain ⟨i,hi,hb⟩:=h;obtain ⟨o,e⟩:=jQ (mQ E g) hi;obtain ⟨j,p,l,m⟩:=inB_inv hb;refine ⟨?_,m⟩;simp only[ϭ,Sem.run_bind,e,Ds,Sem.run_pure,Ξ];rw[Ν ⟨j,by omega⟩,l];rfl
def iC(E:dM V M Fz w env a.tmps){lo hi:Δ ε}{g e:Δ aT}{len i cap l h:Ε}(b:IR lo=Α g)(d:IR hi=Α e)(p:i<=cap)(q:e=Ζ->len<=i) (n:oM env len i e=Α h) (m:oM env 0 h g=Α l) : (ϟ Γ len cap (lo.map a.eval) (hi.map a.eval) Ζ).run P w=.ok (l,h,cap) w/\h<=i/\l<=h:=by have o:h<=i/\(match hi.map a.eval,(Ζ:Δ Ο) with|Α v,Α _=>ϭ v cap .slice3B|Α v,Ζ=>ϭ v cap (if Γ then .sliceAcap else .sliceAlen)|Ζ,Ζ=>pure len|Ζ,Α _=>stuck "Slice: max without high" : Sem Ε).run P w=.ok h w:=by{cases hi with|none=>simp only[IR,ay] at d;subst d;simp only[oM,ay] at n;simp_all|some x=>simp only[IR,cA] at d;obtain ⟨r,f,rfl⟩:=d;simp only[oM] at n;obtain ⟨s,t⟩:=fP (P:=P) (w:=w) E f n cap p .sliceAcap;simp_all};have hl:l<=h/\(match lo.map a.eval with|Α v=>ϭ v h (if (Ζ:Δ Ο).isSome then .slice3C else .sliceB)|Ζ=>pure 0:Sem Ε).run P w=.ok l w:=by{cases lo with|none=>simp only[IR,ay] at b;subst b;simp only[oM,ay] at m;subst m;simp_all|some x=>simp only[IR,cA] at b;obtain ⟨r,f,rfl⟩:=b;simp only[oM] at m;obtain ⟨s,t⟩:=fP (P:=P) (w:=w) E f m h (cO _) .sliceB;simp_all};refine ⟨?_,o.1,hl.1⟩;have j:=o.2;have k:=hl.2;clear o hl;cases hi <;> cases lo <;> simp only[Bj,yCl,Sem.run_pure,Result.ok.injEq,Nz] at j k <;>simp only[ϟ,Bj,yCl,Sem.run_bind,Sem.run_pure,Ξ,j,k]
def slc_ok(E:dM V M Fz w env a.tmps){o:ω}{t e:Ψ}{x:ε}{lo hi:Δ ε}{ox:aT}{p g:Δ aT}{n:Ε}{d:D}
  (ho:o.op=.slice t x lo hi Ζ) (hx:cf x=Α ox) (r:IR lo=Α p) (u:IR hi=Α g) (hu:P.underlying t=Α (.slice e)) (hn:bM P e=Α n)
  (h:(match ox.ev env with
  |.c (.lit (.slice Ζ 0 0)) => do
   let h <-oM env 0 0 g
   let _ <-oM env 0 h p
   Α (.c (.lit (.slice Ζ 0 0)),V,([]:Β Ε))
  |.c (.cS nn f) => do
   let h <-oM env f.length f.length g
   let l <-oM env 0 h p
   if f.all (λe=>e.length=n) then Α (.c (.cS nn ((f.take h).drop l)),V,[]) else Ζ
  |.sl b off len f sz => do
   let _ <-kk V b sz
   let h <-(oM env len len g).orElse λ_=>oM env len ((sz-off) / f) g
   let l <-oM env 0 h p
   if f=n then Α (.sl b (off+l * n) (h-l) n sz,V,[]) else Ζ
  |_=>Ζ)=Α (d,V',[])):V'=V/\Yields P (Ω a.eval o) V M Fz w d:=by
 have K:=mQ E hx;have A:∀R len cap l h,a.eval x=.slice R len cap->(ϟ Γ len cap (lo.map a.eval) (hi.map a.eval) Ζ).run P w=.ok (l,h,cap) w ->
   (Ω a.eval o).run P w=.ok (.value (.slice (if cap=l then R else R.map (·.add (l * n))) (h-l) (cap-l))) w:=by
  intro R len cap l h k hb;have S:∀(s:Sem Ο),(match ϑ.slice e with | .array _ _=>s | _=>ul t (a.eval x) (lo.map a.eval) (hi.map a.eval) Ζ)=ul t (a.eval x) (lo.map a.eval) (hi.map a.eval) Ζ:=λ_=>rfl;simp only[Ω,ho,B4,Sem.run_bind,rS hu,Ξ,yCl];simp only[ul,Sem.run_bind,rS hu,Ξ,k,hb,TX hn,Sem.run_pure]
 split at h
 ·rename_i L;rw[L] at K;simp only[dZ,cQ,ay,aY] at h;obtain ⟨m,v,l,N,rfl,rfl,_⟩:=h;obtain ⟨hb,Z,h4⟩:=iC (P:=P) (w:=w) E r u (cO 0) (λ_=>cO _) v N;refine ⟨rfl,Yields.same (A _ _ _ _ _ K.cr hb) ?_⟩;obtain rfl:m=0:=by omega
  obtain rfl:l=0:=by omega
  exact .c (.lit _)
 ·rename_i nn f L;rw[L] at K;simp only[dZ,cQ] at h;obtain ⟨m,v,l,N,h⟩:=h;split at h
  ·rename_i a1;simp only[ay,aY] at h;obtain ⟨rfl,rfl,_⟩:=h;have U:=K.ry;generalize k:a.eval x=va at U;cases U with
   |cS aC R cap a5 hz c aa z hc a6=>
    obtain ⟨hb,Z,h4⟩:=iC (P:=P) (w:=w) E r u z (λ_=>cO _) v N;refine ⟨rfl,Yields.same (A _ _ _ _ _ k hb) (.c ?_)⟩;have W:((f.take m).drop l).length=m-l:=by simp_all
    rw[<-W];refine .cS n _ _ (λhn=>by grind) (λhn=>by
     by_cases y:cap=l
     ·omega
     simp_all) (λi j=>c (l+i) j) (λe L=>?_) (by omega) (λi j e d F h6=>?_) (λi j e d F h6=>?_)
    ·grind
    ·rw[yBY] at F;have ab:=(fK.1 F).1;simp at ab;rw[yB8 (by omega)] at F;obtain ⟨blk,o0,rfl,hF,af,ak⟩:=hc (l+i) j e d F h6;have X:aC=n:=by
      grind
     subst X;refine ⟨blk,o0+l * aC,by rw[Κ (by omega)];simp[fy],hF,?_,ak⟩
     grind
    grind
  simp_all
 ·rename_i b off len f sz L;rw[L] at K;simp only[dZ,cQ] at h;obtain ⟨cs,hr,m,v,l,N,h⟩:=h;split at h
  ·rename_i an;subst an;simp only[ay,aY] at h;obtain ⟨rfl,rfl,_⟩:=h;obtain ⟨F,h6⟩:=Rl hr;rcases K.fJ hr with ⟨k,e2,e3,e4,e6⟩ | ⟨c,O,cap,Y,T,hM,k,hl,a2,hh,z,aa⟩
   ·subst e2;have av:oM env 0 0 g=Α m:=by
     simp_all
    obtain ⟨hb,Z,h4⟩:=iC (P:=P) (w:=w) E r u (cO 0) (λ_=>cO _) av N
    grind [Yields.same]
   obtain ⟨Q,aw,ax,a7,v⟩:∃Q,Q<=cap/\(g=Ζ->len<=Q)/\off+Q * f<=sz/\oM env len Q g=Α m:=by
    cases a0:oM env len len g with
    |some q=>grind
    |none=>
     rw[a0] at v;have v:oM env len ((sz-off) / f) g=Α m:=by simp_all
     have hd:(sz-off) / f * f<=sz-off:=Ε.div_mul_le_self _ _;refine ⟨_,?_,λe=>by grind [oM],by omega,v⟩;rcases Ε.eq_zero_or_pos f with h0 | h0
     ·simp_all
     ·exact Ε.div_le_of_le_mul (by grind)
   obtain ⟨hb,Z,h4⟩:=iC (P:=P) (w:=w) E r u aw ax v N;refine ⟨rfl,Yields.same (A _ _ _ _ _ k hb) ?_⟩;have G:(if cap=l then Α (xf c O Ζ) else (Α (xf c O Ζ)).map (·.add (l * f)))=Α (if cap=l then xf c O Ζ else (xf c O Ζ).add (l * f)):=by grind
   rw[G];refine .sl _ _ _ (by simp) _ F (by grind [Ob.sz]) (λ_=>?_);have a8:l * f+(m-l) * f=m * f:=by rw[<-NK];simp_all
   have a9:m * f<=Q * f:=Ic _ Z;by_cases y:cap=l
   ·rw[Ν y];have h0:cap-l=0:=by omega
    subst y;refine .inr ⟨c,O,Y,T,hM,rfl,rfl,⟨by omega,by omega⟩,.inr (by omega),hh,?_,?_⟩
    ·grind
    ·omega
   ·rw[Κ y];have bb:l * f+(cap-l) * f=cap * f:=by rw[<-NK];grind
    refine .inr ⟨c,O+l * f,Y,T,hM,by rw[fy],rfl,⟨by omega,by omega⟩,?_,hh,by omega,by omega⟩;omega
  simp_all
 simp_all
theorem slca_ok(E:dM V M Fz w env a.tmps){o:ω}{t e:Ψ}{x:ε}{u:aT}{m off:Ε}{cs:Β C} (y:o.op=.slice t x Ζ Ζ Ζ) (z:cf x=Α u) (A:P.underlying t=Α (.array m e)) (F:bM P e=Α 1) (p:u.ev env=.c (.cG cs off)) (G:off+m<=cs.length):Yields P (Ω a.eval o) V M Fz w (.c (.cS Θ (((cs.drop off).take m).map λc=>[c]))):=by have v:=mQ E z;rw[p] at v;have k:=v.ry;generalize q:a.eval x=R at k;cases k with|cG blk l c K L r=>have f:(((cs.drop off).take m).map λc=>[c]).length=m:=by{simp;omega};have n:(Ω a.eval o).run P w=.ok (.value (.slice (Α ⟨blk,l+off,Ζ⟩) (((cs.drop off).take m).map λc=>[c]).length m)) w:=by{rw[f];simp only[Ω,y,B4,Sem.run_bind,rS A,Ξ,yCl,q,ϩ,Sem.run_pure,ϟ,TX F];simp only[yC3,yCm];split <;> rfl};have get:∀(i j:Ε)(e:Β C)(d:C),(((cs.drop off).take m).map λc=>[c])[i]? = Α e->e[j]? = Α d->j=0/\i<m/\cs[off+i]? = Α d:=by{intro i j e d b g;rw[jq,cA] at b;obtain ⟨x,b,rfl⟩:=b;have hi:=(fK.1 b).1;have N:j=0:=by{have:=(fK.1 g).1;simp at this;exact this};subst N;simp only[uL,ay] at g;subst g;simp only[Ar,yBN] at hi;refine ⟨rfl,by omega,?_⟩;rw[yB8 (by omega),yBY] at b;exact b};refine Yields.same n (.c (.cS 1 (Α ⟨blk,l+off,Ζ⟩) m (λ_=>rfl) (λh=>by cases h) (λi _=>c (off+i)) (λe p=>?_) (yCf f) (λi j e d b g=>?_) (λi j e d b g=>?_)));{obtain ⟨x,_,rfl⟩:=ft.1 p;rfl};{obtain ⟨rfl,hi,s⟩:=get i j e d b g;obtain ⟨O,Q⟩:=L _ d s;exact ⟨blk,l+off,rfl,K,by rw[show l+off+i * 1+0=l+(off+i) by omega];exact O,Q⟩};obtain ⟨rfl,hi,s⟩:=get i j e d b g;exact r _ d s
def slc3xok(E:dM V M Fz w env a.tmps){o:ω}{t e:Ψ}{x lo hi m:ε}{s f g j:aT}{n b off len es sz h l:Ε}{cs:Β D} (z:o.op=.slice t x (Α lo) (Α hi) (Α m)) (A:cf x=Α s) (p:cf lo=Α f) (q:cf hi=Α g) (r:cf m=Α j) (u:P.underlying t=Α (.slice e)) (F:bM P e=Α n) (G:s.ev env=.sl b off len es sz) (K:kk V b sz=Α cs) (L:((tz (j.ev env)).bind λi=>Rb i len)=Α len) (N:((tz (g.ev env)).bind λi=>Rb i len)=Α h) (O:((tz (f.ev env)).bind λi=>Rb i h)=Α l) : Yields P (Ω a.eval o) V M Fz w .any:=by have y:=mQ E A;rw[G] at y;have X:∀k cap,len<=cap->a.eval x=.slice k len cap->Yields P (Ω a.eval o) V M Fz w .any:=by{intro k cap Q d;have R:=(fP (P:=P) (w:=w) E r L cap Q .slice3Acap).1;have S:=(fP (P:=P) (w:=w) E q N len (cO _) .slice3B).1;have U:=(fP (P:=P) (w:=w) E p O h (cO _) .slice3C).1;have hb:(ϟ Γ len cap (Α (a.eval lo)) (Α (a.eval hi)) (Α (a.eval m))).run P w=.ok (l,h,len) w:=by{simp only[ϟ,Sem.run_bind,Υ,R,Ξ,S,Δ.isSome,U,Sem.run_pure]};refine Yields.same (v:=.slice (if len=l then k else k.map (·.add (l * n))) (h-l) (len-l)) ?_ (.any _);simp only[Ω,z,B4,Sem.run_bind,rS u,Ξ,Bj];simp only[ul,Sem.run_bind,rS u,Ξ,d,hb,TX F,Sem.run_pure]};rcases y.fJ K with ⟨d,Y,_,_,_⟩ | ⟨c,Z,cap,W,T,hM,d,hl,_,_,_,_⟩;{simp_all};grind
theorem Us(E:dM V M Fz w env a.tmps){o:ω}{x:ε}{i:Ε}{h:aT}{ds:Β D}{d:D}(l:o.op=.extract x i)(m:cf x=Α h) (n:h.ev env=.aW ds) (j:ds[i]? = Α d):Yields P (Ω a.eval o) V M Fz w d:=by have b:=mQ E m;rw[n] at b;generalize f:a.eval x=p at b;cases b with|aW k q g=>have hi:=(fK.1 j).1;have e:k[i]? = Α (k[i]'(by omega)):=rR _;refine Yields.same ?_ (g i _ _ j e);simp[Ω,l,Instr.extract,f,e]
theorem list_ok(E:dM V M Fz w env a.tmps):∀(xs:Β ε)(os:Β aT),xs.mapM cf=Α os -> (xs.map a.eval).length=(os.map (aT.ev env)).length/\∀(i:Ε) d v,(os.map (aT.ev env))[i]? = Α d->(xs.map a.eval)[i]? = Α v->σ V M Fz w d v:=by intro xs;induction xs with|nil=>simp_all|cons x xs ih=>grind [ζ,mQ]
def MR(E:dM V M Fz w env a.tmps){xs:Φ ε}{os:Β aT}(h:Mg xs=Α os) : (xs.map a.eval).size=(os.map (aT.ev env)).length/\∀(i:Ε) d v,(os.map (aT.ev env))[i]? = Α d->(xs.map a.eval)[i]? = Α v->σ V M Fz w d v:=by obtain ⟨b,e⟩:=list_ok E xs.toList os h;grind
def mkfn_ok(E:dM V M Fz w env a.tmps){o:ω}{f:Fn}{first cap:Φ ε}{b d:Β aT}(e:o.op=.makeFunc f first cap)(g:Mg first=Α b)(h:Mg cap=Α d) : Yields P (Ω a.eval o) V M Fz w (.fn f (b.map (aT.ev env)) (d.map (aT.ev env))):=by obtain ⟨i,j⟩:=MR E g;obtain ⟨k,l⟩:=MR E h;refine Yields.same (v:=.func f (first.map a.eval) (cap.map a.eval)) ?_ (.fn _ _ i k j l);simp[Ω,e,Instr.makeFunc]
theorem Pc{t:Ψ}{n:Δ Ε}{cs:Β D}{vs:Φ Ο}{off:Ε}{d:D}(g:Gb P t=Α n)(f:wR n cs off=Α d)(p:vs.size=cs.length) (m:∀(i:Ε) d v,cs[i]? = Α d->vs[i]? = Α v->σ V M Fz w d v):∃v,(part t vs off).run P w=.ok v w/\σ V M Fz w d v:=by unfold Gb at g;have agg:∀(i:ik),P.info? t=Α i->n=Α i.size->(Cv t).run P w=.ok Γ w->∃v,(part t vs off).run P w=.ok v w/\σ V M Fz w d v:=by{intro i hi g b;subst g;simp only[wR] at f;split at f;{rename_i o;simp only[ay] at f;subst f;refine ⟨.agg (vs.extract off (off+i.size)),by simp only[part,Sem.run_bind,b,Ξ,Υ,sizeOf,zdI hi,Sem.run_pure],?_⟩;refine .agg _ (by grind) (λj x v q r=>?_);grind};simp_all};have one:n=Ζ->(Cv t).run P w=.ok Θ w->∃v,(part t vs off).run P w=.ok v w/\σ V M Fz w d v:=by{intro g b;subst g;simp only[wR] at f;have hi:=(fK.1 f).1;have e:vs[off]? = Α (vs[off]'(by omega)):=rR _;exact ⟨_,by simp only[part,Sem.run_bind,b,Ξ,bY,cq,e,Sem.run_pure],m _ _ _ f e⟩};cases hi:P.info? t with|none=>simp_all|some i=>cases l:P.underlying t with|none=>simp_all|some h=>rw[hi,l] at g;have k:(Cv t).run P w=.ok (h matches .struct _ | .array _ _) w:=by{simp only[Cv,Sem.run_bind,rS l,Ξ];cases h <;> rfl};grind
theorem part_ok(E:dM V M Fz w env a.tmps){o:ω}{t:Ψ}{x:ε}{i:aT}{f:Ε}{j:Φ uo}{b:uo}{n:Δ Ε}{cs:Β D}{d:D}(k:o.op=.field t x f) (l:cf x=Α i) (m:P.underlying t=Α (.struct j)) (p:j[f]? = Α b) (q:Gb P b.type=Α n) (r:i.ev env=.agg cs) (s:wR n cs b.offset=Α d) : Yields P (Ω a.eval o) V M Fz w d:=by have e:=mQ E l;rw[r] at e;generalize g:a.eval x=A at e;cases e with|agg F u h=>obtain ⟨v,y,z⟩:=Pc (P:=P) q s u h;refine Yields.same (v:=v) ?_ z;simp only[Ω,k,Instr.field,Sem.run_bind,rS m,Ξ,p,g,asAgg,Sem.run_pure,y]
theorem aidx_ok(E:dM V M Fz w env a.tmps){o:ω}{t e:Ψ}{x i:ε}{j l:aT}{len sz k:Ε}{n:Δ Ε}{cs:Β D}{d:D}{z:Η}(m:o.op=.index t x i) (p:cf x=Α j) (hi:cf i=Α l) (q:P.underlying t=Α (.array len e)) (hs:bM P e=Α sz) (r:Gb P e=Α n) (s:j.ev env=.agg cs) (u:tz (l.ev env)=Α z) (hk:Ea z len=Α k) (y:wR n cs (k * sz)=Α d):Yields P (Ω a.eval o) V M Fz w d:=by have b:=mQ E p;rw[s] at b;obtain ⟨O,f⟩:=jQ (mQ E hi) u;obtain ⟨A,F,G,Q⟩:=Fi hk;generalize g:a.eval x=R at b;cases b with|agg S K h=>obtain ⟨v,L,N⟩:=Pc (P:=P) r y K h;refine Yields.same (v:=v) ?_ N;simp only[Ω,m,Instr.index,Sem.run_bind,f,Ds,Sem.run_pure,Ξ,rS q,g];rw[Ν ⟨A,F⟩];simp only[Sem.run_bind,TX hs,Ξ,G,L]
end
end Go.Abs
end
section
namespace Go.Abs
variable[Gl]
section
variable{P:Μ}{V V':au}{M M':Ε->Δ Ε}{Fz:Ε->Prop}{w w':Τ}{env:Β D}{a:Act}
def nilck_ok(E:dM V M Fz w env a.tmps){o:ω}{x:ε}{l:aT}{d:D}(j:o.op=.nilCheck x)(m:cf x=Α l) (h:(match l.ev env with|.ptr b off sz=>Α (.ptr b off sz,V,([]:Β Ε))|.c (.cG n off)=>Α (.c (.cG n off),V,[])|.c (.fn (.func f) first cap)=>Α (.c (.fn (.func f) first cap),V,[])|.fn (.func f) first cap=>Α (.fn (.func f) first cap,V,[])|_=>Ζ)=Α (d,V',[])):V'=V/\Yields P (Ω a.eval o) V M Fz w d:=by have e:=mQ E m;split at h;{rename_i i;rw[i] at e;simp only[ay,aY] at h;obtain ⟨rfl,rfl,_⟩:=h;refine ⟨rfl,Yields.same (v:=a.eval x) ?_ e⟩;generalize g:a.eval x=k at e;cases e with|ptr=>simp[Ω,j,g]};{rename_i i;rw[i] at e;simp only[ay,aY] at h;obtain ⟨rfl,rfl,_⟩:=h;refine ⟨rfl,Yields.same (v:=a.eval x) ?_ e⟩;generalize g:a.eval x=k at e;cases e with|c e => cases e with|cG=>simp[Ω,j,g]};{rename_i i;rw[i] at e;simp only[ay,aY] at h;obtain ⟨rfl,rfl,_⟩:=h;refine ⟨rfl,Yields.same (v:=a.eval x) ?_ e⟩;generalize g:a.eval x=k at e;cases e with|c e => cases e with|fn=>simp[Ω,j,g]};{rename_i i;rw[i] at e;simp only[ay,aY] at h;obtain ⟨rfl,rfl,_⟩:=h;refine ⟨rfl,Yields.same (v:=a.eval x) ?_ e⟩;generalize g:a.eval x=k at e;cases e with|fn=>simp[Ω,j,g]};simp_all
inductive iJ:ϑ->Ο->Ο->Λ->Prop where|p0 (e:Ψ):iJ (.pointer e) (.pointer Ζ) (.pointer Ζ) Γ|p1 (e:Ψ) (ad:C8):iJ (.pointer e) (.pointer (Α ad)) (.pointer Ζ) Θ|m0 (k e:Ψ):iJ (.map k e) (.map Ζ) (.map Ζ) Γ|m1 (k e:Ψ) (r:Ε):iJ (.map k e) (.map (Α r)) (.map Ζ) Θ|f0 (p r:Φ Ψ) (v:Λ):iJ (.func p r v) .nilFunc .nilFunc Γ|f1 (p r:Φ Ψ) (v:Λ) (f:Fn) (x y:Φ Ο):iJ (.func p r v) (.func f x y) .nilFunc Θ|s0 (e:Ψ):iJ (.slice e) (.slice Ζ 0 0) (.slice Ζ 0 0) Γ|s1 (e:Ψ) (ad:C8) (n c:Ε):iJ (.slice e) (.slice (Α ad) n c) (.slice Ζ 0 0) Θ
def XB{t:Ψ}{d:ϑ}{x y:Ο}{b:Λ}(e:P.underlying t=Α d)(h:iJ d x y b)(w:Τ) : (Op.equal t x y).run P w=.ok b w/\(Op.equal t y x).run P w=.ok b w:=by constructor;{show (Op.equalIn (9999+1) t x y).run P w=_;generalize 9999=n;cases h <;> (unfold Op.equalIn;simp[rS e])};show (Op.equalIn (9999+1) t y x).run P w=_;generalize 9999=n;cases h <;> (unfold Op.equalIn;simp[rS e])
def DM{t:Ψ}{d:ϑ}{x y:Ο}{b:Λ}(e:P.underlying t=Α d)(h:iJ d x y b)(neg:Λ)(X Y:ε)(w:Τ) :
  ((do na (if neg then .neq else .eql) t X Y x y;vv (if neg then .neq else .eql) t x y:Sem Ο).run P w=.ok (.bool (if neg then !b else b)) w) /\
  ((do na (if neg then .neq else .eql) t Y X y x;vv (if neg then .neq else .eql) t y x:Sem Ο).run P w=.ok (.bool (if neg then !b else b)) w):=by
 obtain ⟨f,g⟩:=XB e h w;have i:∀op,(na op t X Y x y).run P w=.ok () w:=by intro op;cases h <;> cases op <;> rfl
 have j:∀op,(na op t Y X y x).run P w=.ok () w:=by intro op;cases h <;> cases op <;> rfl
 have k:(vv (if neg then .neq else .eql) t x y).run P w=.ok (.bool (if neg then !b else b)) w:=by
  cases neg
  ·have:vv .eql t x y=(do pure (.bool (<-Op.equal t x y)):Sem Ο):=by cases h <;> rfl
   simp_all
  ·have:vv .neq t x y=(do pure (.bool (!(<-Op.equal t x y))):Sem Ο):=by cases h <;> rfl
   simp_all
 have l:(vv (if neg then .neq else .eql) t y x).run P w=.ok (.bool (if neg then !b else b)) w:=by
  cases neg
  ·have:vv .eql t y x=(do pure (.bool (<-Op.equal t y x)):Sem Ο):=by cases h <;> rfl
   simp_all
  ·have:vv .neq t y x=(do pure (.bool (!(<-Op.equal t y x))):Sem Ο):=by cases h <;> rfl
   simp_all
 simp_all
def Kd{l:ϑ}{k:Ε}{d:D}{v:Ο}{b:Λ}(hk:Bk l=Α k)(e:σ V M Fz w d v)(h:isNil k d=Α b) : ∃f,iJ l v f b/\((k=0/\f=.pointer Ζ)\/(k=1/\f=.map Ζ)\/(k=2/\f=.nilFunc)\/(k=3/\f=.slice Ζ 0 0)):=by cases l <;> simp only[Bk,ay,reduceCtorEq] at hk <;> subst hk;{cases d with|ptr=>{simp only[isNil,ay] at h;subst h;cases e with|ptr g=>exact ⟨_,.p1 _ g,.inl ⟨rfl,rfl⟩⟩}|c x=>{cases x with|cG=>{simp only[isNil,ay] at h;subst h;cases e with|c e => cases e with|cG=>exact ⟨_,.p1 _ _,.inl ⟨rfl,rfl⟩⟩}|lit u=>cases u <;> simp[isNil] at h;rename_i p;cases p <;> simp at h;subst h;rw[e.cr];exact ⟨_,.p0 _,.inl ⟨rfl,rfl⟩⟩|_=>grind [isNil]}|_=>grind [isNil]};{cases d with|sl b off len aC sz=>{cases len with|zero=>simp[isNil] at h|succ len=>simp only[isNil,ay] at h;subst h;cases e with|sl g n cap i=>cases g with|none=>simp_all|some g=>exact ⟨_,.s1 _ _ _ _,.inr (.inr (.inr ⟨rfl,rfl⟩))⟩}|c x=>{cases x with|cS nn o=>{cases nn <;> simp only[isNil,ay,reduceCtorEq] at h;subst h;have j:=e.ry;generalize m:C.cS Γ o=x at j;cases j with|cS aC g cap i=>simp only[C.cS.injEq] at m;obtain ⟨rfl,rfl⟩:=m;obtain ⟨q,rfl⟩:=yBz.1 (i rfl);exact ⟨_,.s1 _ _ _ _,.inr (.inr (.inr ⟨rfl,rfl⟩))⟩|_=>grind}|lit u=>(cases u <;> try grind [isNil]);rename_i p n c;cases p <;> cases n <;> cases c <;> simp[isNil] at h;subst h;rw[e.cr];exact ⟨_,.s0 _,.inr (.inr (.inr ⟨rfl,rfl⟩))⟩|_=>grind [isNil]}|_=>grind [isNil]};{cases d with|mp=>{simp only[isNil,ay] at h;subst h;cases e with|mp=>exact ⟨_,.m1 _ _ _,.inr (.inl ⟨rfl,rfl⟩)⟩}|c x=>{cases x with|OO=>{simp only[isNil,ay] at h;subst h;cases e with|c e => cases e with|OO=>exact ⟨_,.m1 _ _ _,.inr (.inl ⟨rfl,rfl⟩)⟩}|lit u=>cases u <;> simp[isNil] at h;rename_i p;cases p <;> simp at h;subst h;rw[e.cr];exact ⟨_,.m0 _ _,.inr (.inl ⟨rfl,rfl⟩)⟩|_=>grind [isNil]}|_=>grind [isNil]};cases d with|fn=>{simp only[isNil,ay] at h;subst h;cases e with|fn=>exact ⟨_,.f1 _ _ _ _ _ _,.inr (.inr (.inl ⟨rfl,rfl⟩))⟩}|c x=>{cases x with|fn=>{simp only[isNil,ay] at h;subst h;cases e with|c e => cases e with|fn=>exact ⟨_,.f1 _ _ _ _ _ _,.inr (.inr (.inl ⟨rfl,rfl⟩))⟩}|lit u=>cases u <;> simp[isNil] at h;subst h;rw[e.cr];exact ⟨_,.f0 _ _ _,.inr (.inr (.inl ⟨rfl,rfl⟩))⟩|_=>grind [isNil]}|_=>grind [isNil]
def vP{k:Ε}{x:ε}{b:Ο}(h:sI k x=Γ)(d:(k=0/\b=.pointer Ζ)\/(k=1/\b=.map Ζ)\/(k=2/\b=.nilFunc)\/(k=3/\b=.slice Ζ 0 0)):x=.const b:=by unfold sI at h;grind
def Oi(E:dM V M Fz w env a.tmps){o:ω}{t s:Ψ}{m:ϑ}{x y:ε}{neg:Λ}{k n:Ε}{d:Λ}{p:aT}{b:Λ} (q:o.op=.binOp (if neg then .neq else .eql) t x y s) (r:P.underlying t=Α m) (hk:Bk m=Α k) (f:xD k neg x y=Α (.jD n d p)) (hb:isNil n (p.ev env)=Α b) : Yields P (Ω a.eval o) V M Fz w (.c (.lit (.bool (if d then !b else b)))):=by unfold xD at f;split at f;{rename_i u;simp only[cA,lP.jD.injEq] at f;obtain ⟨j,g,rfl,rfl,rfl⟩:=f;obtain ⟨h,l,i⟩:=Kd hk (mQ E g) hb;obtain rfl:=vP u i;refine Yields.same (v:=.bool (if neg then !b else b)) ?_ (.c (.lit _));have:=(DM r l neg x (.const h) w).1;simp only[Ω,q,Sem.run_bind];simp only[Sem.run_bind] at this;have e:a.eval (.const h)=h:=rfl;simp_all};split at f;{rename_i z;simp only[cA,lP.jD.injEq] at f;obtain ⟨j,g,rfl,rfl,rfl⟩:=f;obtain ⟨h,l,i⟩:=Kd hk (mQ E g) hb;obtain rfl:=vP z i;refine Yields.same (v:=.bool (if neg then !b else b)) ?_ (.c (.lit _));have:=(DM r l neg y (.const h) w).2;simp only[Ω,q,Sem.run_bind];simp only[Sem.run_bind] at this;have e:a.eval (.const h)=h:=rfl;simp_all};simp_all
def sq{d:D}{v:Ο}{n:Ε}(b:σ V M Fz w d v)(h:He V d=Α n):∃g cap,v=.slice g n cap:=by unfold He at h;split at h;{grind [σ.cr]};{simp only[ay] at h;subst h;cases b with|c b => cases b with|cS=>simp_all};{split at h;{rename_i e;simp only[ay] at h;subst h;obtain ⟨j,e⟩:=yBz.1 e;rcases b.fJ e with ⟨f,k,_⟩ | ⟨c,o,cap,i,T,_,f,_⟩;{simp_all};simp_all};simp_all};simp_all
theorem Qs{es:Β (Β C)}{n:Ε}(h:∀e∈es,e.length=n):∀(i j:Ε) e d,es[i]? = Α e->e[j]? = Α d->es.flatten[i * n+j]? = Α d:=by induction es with|nil=>simp_all|cons b es ih=>intro i j e d f g;have k:=h b (by simp);cases i with|zero=>grind|succ i=>grind
theorem Qd{es:Β (Β C)}{n:Ε}(h:∀e∈es,e.length=n):es.flatten.length=es.length * n:=by induction es with|nil=>simp|cons b es ih=>grind
def zbO(R:Rel V M Fz w){d:D}{v:Ο}{aC n:Ε}{cs:Β D}(Q:σ V M Fz w d v)(h0:aC≠0)(h:XC V aC n d=Α cs) : ∃arr,(ϒ aC n v).run P w=.ok arr w/\Em V M Fz w cs arr/\cs.length=n * aC:=by have load:∀(l:C8)(len cap:Ε)(cs:Β D),v=.slice (Α l) len cap->cs.length=n * aC -> (∀(i:Ε) x,cs[i]? = Α x->∃u,w.cell? (l.add i)=Α u/\σ V M Fz w x u/\u.oneCell'=Γ) -> ∃arr,(ϒ aC n v).run P w=.ok arr w/\Em V M Fz w cs arr/\cs.length=n * aC:=by{intro l len cap cs g m r;let f:Ε->Ο:=λj=>(w.cell? (l.add j)).getD Ϟ;have hf:∀j,j<n * aC->w.cell? (l.add j)=Α (f j):=by{intro j N;obtain ⟨u,O,_⟩:=r j _ (eW (by omega));grind};have y:=run_loadCells (P:=P) (w:=w) l (n * aC) f hf;refine ⟨_,by rw[g];simp only[ϒ];exact y,⟨by simp_all,λi x u O h2=>?_⟩,m⟩;grind};have s:∀(cs:Β D),n=0->cs=[]->(∃l len cap,v=.slice l len cap)->∃arr,(ϒ aC n v).run P w=.ok arr w/\Em V M Fz w cs arr/\cs.length=n * aC:=by{intro cs t z ⟨l,len,cap,g⟩;subst t z;cases l with|none=>exact ⟨#[],by rw[g];rfl,⟨rfl,λi x u h=>by simp at h⟩,by simp⟩|some l=>simp_all};unfold XC at h;split at h;{split at h;{rename_i t;simp only[ay] at h;exact s cs t h.symm ⟨_,_,_,Q.cr⟩};simp_all};{rename_i nn k;split at h;{rename_i S;simp only[ay] at h;subst h;obtain ⟨t,ab⟩:=S;have m:∀e∈k.take n,e.length=aC:=λe he=>by{grind};have U:((k.take n).flatten.map D.c).length=n * aC:=by{grind [Qd,H3]};have A:=Q.ry;generalize g:v=va at A;cases A with|cS sz l cap aw _ c E F G W=>by_cases X:n=0;{simp_all};have hp:0<k.length:=by{omega};have Y:k[0]? = Α k[0]:=eW hp;have ax:k[0].length=aC:=by{grind};have K:sz=aC:=by{simp_all};subst K;obtain ⟨blk,o0,rfl,_⟩:=G 0 0 k[0] (k[0][0]'(by omega)) Y (eW _);refine g▸load _ _ _ _ g U (λi x hi=>?_);have p:i<n * sz:=by{grind};have af:i / sz<n:=Ε.div_lt_of_lt_mul (by grind);have ak:i % sz<sz:=Ε.mod_lt _ (by omega);have hk:k[i / sz]? = Α (k[i / sz]'(by omega)):=eW _;have Z:(k.take n)[i / sz]? = Α (k[i / sz]'(by omega)):=by{simp_all};have a0:(k[i / sz]'(by omega)).length=sz:=E _ (bB _);have N:(k[i / sz]'(by omega))[i % sz]? = Α ((k[i / sz]'(by omega))[i % sz]'(by omega)):=eW _;have L:=Qs m (i / sz) (i % sz) _ _ Z N;rw[show i / sz * sz+i % sz=i from by grind [I0]] at L;rw[jq,L] at hi;simp only[Bj,ay] at hi;subst hi;obtain ⟨an,a1,O,h2,h3,h4⟩:=G _ _ _ _ hk N;simp only[ay,C8.mk.injEq,Nz] at O;obtain ⟨rfl,rfl⟩:=O;refine ⟨_,?_,.c (W _ _ _ _ hk N),h4⟩;grind [fy,I0]};simp_all};{rename_i b off len k sz;simp only[dZ,cQ] at h;obtain ⟨row,hr,h⟩:=h;split at h;{rename_i S;obtain ⟨rfl,t,a2⟩:=S;simp only[ay] at h;subst h;obtain ⟨hb,E⟩:=Rl hr;rcases Q.fJ hr with ⟨g,e2,_⟩ | ⟨c,o,cap,arr,T,hM,g,hl,av,hh,F,_⟩;{simp_all};by_cases X:n=0;{simp_all};have aa:o=off:=by{omega};subst aa;have a5:n * k<=len * k:=Ic _ t;obtain ⟨q,T',a6,a7,z⟩:=R.row hM hb;refine load _ _ _ _ g (by grind) (λi x hi=>?_);have p:i<n * k:=by{grind};rw[yB8 p,yBY] at hi;have a8:=(fK.1 hi).1;have e:q[o+i]? = Α (q[o+i]'(by omega)):=rR _;grind [fy,Go.cell_of_row]};simp_all};simp_all
def len_ok(E:dM V M Fz w env a.tmps){o:ω}{t e:Ψ}{x:ε}{g:aT}{args:Φ ε}{d:Φ Ψ}{n:Ε}(i:o.op=.call { callee:=.builtin .len,args:=args,argTypes:=d }) (j:d[0]? = Α t) (k:args[0]? = Α x) (hs:args.size=1) (l:cf x=Α g) (m:P.underlying t=Α (.slice e)) (h:He V (g.ev env)=Α n) : Yields P (Ω a.eval o) V M Fz w (.c (.lit (.int .i64 n))):=by obtain ⟨p,cap,f⟩:=sq (mQ E l) h;have b:args=#[x]:=by{grind};subst b;refine Yields.same (v:=.int .i64 n) ?_ (.c (.lit _));simp[Ω,i,resolve,invoke,builtin,ef,j,rS m,f,GT]
def Xc{o:ω}{t e:Ψ}{x:ε}{args:Φ ε}{d:Φ Ψ}{n:Ε}(f:o.op=.call { callee:=.builtin .len,args:=args,argTypes:=d }) (g:d[0]? = Α t) (h:args[0]? = Α x) (hs:args.size=1) (i:P.underlying t=Α (.array n e)) : Yields P (Ω a.eval o) V M Fz w (.c (.lit (.int .i64 n))):=by have b:args=#[x]:=by{grind};subst b;refine Yields.same (v:=.int .i64 n) ?_ (.c (.lit _));simp[Ω,f,resolve,invoke,builtin,ef,g,rS i,GT]
def Yf(R:Rel V M Fz w)(E:dM V M Fz w env a.tmps){o:ω}{t k e:Ψ}{x:ε}{q:aT}{args:Φ ε}{m:Φ Ψ}{n:Ε}(r:o.op=.call { callee:=.builtin .len,args:=args,argTypes:=m }) (s:m[0]? = Α t) (G:args[0]? = Α x) (hs:args.size=1) (K:cf x=Α q) (u:P.underlying t=Α (.map k e)) (h:(∃b y d,q.ev env=.mp b/\V[b]? = Α (.map y d)/\n=y.length)\/(q.ev env=.c (.lit (.map Ζ))/\n=0)\/∃z,q.ev env=.c (.OO z)/\n=z.length) : d_ P (Ω a.eval o) V M Fz w V (.c (.lit (.int .i64 n))):=by have g:args=#[x]:=by{grind};subst g;refine d_.same R (v:=.int .i64 n) ?_ (.c (.lit _));have f:=mQ E K;rcases h with ⟨b,y,d,p,hb,rfl⟩ | ⟨p,rfl⟩ | ⟨z,p,rfl⟩;{rw[p] at f;generalize i:a.eval x=L at f;cases f with|mp c X j N=>rw[hb] at j;simp only[ay] at j;subst j;obtain ⟨_,O,Y,A,Q,S⟩:=R.blk b c (N rfl);rw[hb] at A;simp only[ay] at A;subst A;obtain ⟨F,⟨Z,rfl,_⟩,l,_⟩:=S;simp[Ω,r,resolve,invoke,builtin,ef,s,rS u,i,GT,sd,Sem.run,Q,l]};{rw[p] at f;simp[Ω,r,resolve,invoke,builtin,ef,s,rS u,f.cr,GT]};rw[p] at f;generalize i:a.eval x=L at f;cases f with|c f => cases f with|OO blk d F hF T l U W=>simp[Ω,r,resolve,invoke,builtin,ef,s,rS u,i,GT,sd,Sem.run,T,l]
theorem σ.El{d:D}{v:Ο}(h:σ V M Fz w d v):σ V M Fz w (El d) v:=by unfold Abs.El;split;{have:=h.cr;subst this;exact .c (.cS (nn:=Θ) (es:=[]) 0 Ζ 0 (by simp) (by simp) (λ_ _=>default) (by simp) (by simp) (by simp) (by simp))};exact h
theorem Em.El{cs:Β D}{arr:Φ Ο}(h:Em V M Fz w cs arr):Em V M Fz w (cs.map El) arr:=⟨by simpa using h.1,fun i x u j o=>by rw [jq,cA] at j;obtain ⟨y,s,rfl⟩:=j;exact ⟨(h.2 i y u s o).1.El,(h.2 i y u s o).2⟩⟩
def Wa(A:∀c,Fz c->c<w.heap.size)(E:dM V M Fz w env a.tmps){o:ω}{t e:Ψ}{x y:ε}{S T:aT}{n:Ε}{i:ik}{z:Β D}{l c:Η}(W:o.op=.makeSlice t x y) (X:P.underlying t=Α (.slice e)) (Y:bM P e=Α n) (Z:UW P e=Α z) (hi:P.info? e=Α i) (k:¬(n=0\/z.length≠n)) (hx:cf x=Α S) (hy:cf y=Α T) (hl:tz (S.ev env)=Α l) (hc:tz (T.ev env)=Α c) (p:0<=l/\l<=c/\Ey c.toNat i.bytes=Γ) : ah P (Ω a.eval o) V M Fz w (.cells (rj l.toNat (z.map El))) (.sl V.length 0 l.toNat n (l.toNat * n)):=by obtain ⟨i',v,g,hv,F⟩:=zdD Z;rw[hi] at g;simp only[ay] at g;subst g;have d:=(Em.sC (σ.dV (V:=V) (M:=M) (Fz:=Fz) (w:=w) v) F).El;simp only[ϥ,Rs] at k;obtain ⟨aa,j⟩:=k;have q:z.map El≠[]:=λh=>by{simp_all};rw[<-qF (f:=El)] at j;generalize z.map El=z at *;have ab:v.cells.size=n:=by{rw[d.1,j]};obtain ⟨h0,ad,b⟩:=p;simp only[Ey,bH,bD] at b;obtain ⟨⟨af,ak⟩,_⟩:=b;obtain ⟨k1,G⟩:=jQ (mQ E hx) hl;obtain ⟨k2,K⟩:=jQ (mQ E hy) hc;obtain ⟨an,L⟩:=Dp d q l.toNat c.toNat (by omega);have N:(rj l.toNat z).length=l.toNat * n:=by{rw[iz,j]};have U:c<=1099511627776:=by{omega};have O:i64.wrap l=l:=IntWalk.i64_in _ (by omega);have Q:i64.wrap c=c:=IntWalk.i64_in _ (by omega);let arr:Φ Ο:=(Ϭ (c.toNat * n)).map (λ(x:Ε)=>v.cells[x % v.cells.size]!);have r:arr=(Ϭ (c.toNat * v.cells.size)).map (v.cells[· % v.cells.size]!):=by{grind};obtain ⟨r1,r2⟩:=rK (P:=P) A (arr:=arr) (cs:=rj l.toNat z) e (by simp_all) (by rw[r];exact L);refine ⟨_,.slice (Α ⟨w.heap.size,0,Ζ⟩) l.toNat c.toNat,?_,r2,?_⟩;{have s:∀m:Η,0<=m->m<=c->(m<0 || (i.bytes:Η) * m > 2 ^ 48)=Θ:=by{intro m av R;have h1:(i.bytes:Η) * m<=i.bytes * c:=Η.mul_le_mul_of_nonneg_left R (by omega);grind};simp only[Ω,W,Instr.makeSlice,Sem.run_bind,rS X,Ξ,G,K,asInt,Ds,Sem.run_pure,zdI hi,O,Q];rw[s c (by omega) (Fc _)];rw[Κ (by simp_all)];simp only[Sem.run_bind,Sem.run_pure,Ξ,run_askRoom,TX Y];by_cases u:c.toNat * n=0;{have aw:c.toNat=0:=by{grind [H9]};have ax:l.toNat=0:=by{omega};rw[Ν u];simp only[Sem.run_bind,Sem.run_pure,Ξ];have:(Ϭ (c.toNat * n)).map (λ(x:Ε)=>(#[]:Φ Ο)[x % (#[]:Φ Ο).size]!)=arr:=by{grind};simp_all};rw[Κ u];simp only[Sem.run_bind,jj hi hv,Ξ,Sem.run_pure];simp_all};rw[<-N];refine σ.Z_ (cap:=c.toNat) (by omega) ?_ (by omega) (by simp_all);grind
end
end Go.Abs
end
section
namespace Go.Abs
variable[Gl]
section
variable{P:Μ}{V V':au}{M M':Ε->Δ Ε}{Fz:Ε->Prop}{w w':Τ}{env:Β D}{a:Act}
def aas{o:ω}{t:Ψ}(b:o.op=.makeMap t Ζ):ah P (Ω a.eval o) V M Fz w (.map [] 0) (.mp V.length):=by refine ⟨.map #[] 0,.map (Α w.heap.size),?_,?_,?_⟩;{simp only[Ω,b,Instr.makeMap,yCl,Sem.run_bind,Sem.run_pure,Ξ,run_newObj];rfl};{exact ⟨#[],⟨0,rfl,.nil 0⟩,rfl,λi k d n e h=>by simp at h⟩};exact .mp _ (.map [] 0) (by simp) (λ_=>by simp[xR])
def Rel.NT(R:Rel V M Fz w){b c:Ε}{es:Β (Ο×D×Ε)}{j:Ε}(hb:V[b]? = Α (.map es j))(u:M b=Α c) : ∃arr o,w.heap[c]? = Α (.map arr o)/\(arr.size=es.length/\jY arr o)/\∀(i:Ε) k d n e,es[i]? = Α (k,d,n)->arr[i]? = Α e->e.key=k/\True/\σ V M Fz w d e.val:=by obtain ⟨_,x,E,s,F,z⟩:=R.blk b c u;rw[hb] at s;simp only[ay] at s;subst s;obtain ⟨arr,⟨o,rfl,G⟩,A,K⟩:=z;grind
theorem σ.FN{b:Ε}{v:Ο}{es:Β (Ο×D×Ε)}{i:Ε}(h:σ V M Fz w (.mp b) v)(hb:V[b]? = Α (.map es i)):∃c,v=.map (Α c)/\M b=Α c:=by cases h with|mp c s j o=>rw[hb] at j;simp only[ay] at j;subst j;exact ⟨c,rfl,o rfl⟩
theorem zcU{d:Ψ}{e:ϑ}(f:P.underlying d=Α e)(hs:ze1 e=Γ)(b:Λ)(v:Ο)(w:Τ):(A9 b 10000 d v).run P w=.ok () w:=by show (A9 b (9999+1) d v).run P w=_;generalize 9999=n;unfold A9;cases e <;> simp[ze1] at hs <;> simp[rS f]
theorem GF{kind:ϑ}{k:Ο}:∀(es:Β (Ο×D×Ε))(l:Β gx)(i:Ε)(r:Δ (Ε×D)),l.length=es.length -> (∀(j:Ε) k d n e,es[j]? = Α (k,d,n)->l[j]? = Α e->e.key=k/\σ V M Fz w d e.val)->tu kind k es i=Α r -> ∃ b, Instr.findNow kind k l i = Α b /\ (match r, b with|Ζ,Ζ=>True|Α (j,d),Α (m,v)=>j=m/\i<=j/\j<i+es.length/\σ V M Fz w d v/\∃e,l[j-i]? = Α e/\ϵ kind k e.key=Α Γ|_,_=>False):=by intro es;induction es with|nil=>intro l i r hl _ h;simp only[tu,ay] at h;subst h;have:l=[]:=by{simp_all};subst this;exact ⟨Ζ,rfl,trivial⟩|cons x es ih=>intro l i r hl f h;obtain ⟨g,d,n⟩:=x;cases l with|nil=>grind|cons e l=>obtain ⟨hk,q⟩:=f 0 g d n e (by simp) (by simp);simp only[tu] at h;simp only[Instr.findNow,hk];cases hs:ϵ kind k g with|none=>simp_all|some t=>cases t with|true=>grind|false=>simp only[hs] at h;obtain ⟨b,o,p⟩:=ih l (i+1) r (by simp_all) (λj k d n e o p=>f (j+1) k d n e (by simp_all) (by simp_all)) h;grind
theorem CU{d:D}{v b:Ο}(h:σ V M Fz w d b)(hl:jf d=Α v):b=v:=by cases d with|c x=>cases x <;> simp[jf] at hl;grind [σ.cr]|_=>grind [jf]
theorem Ys(R:Rel V M Fz w)(E:dM V M Fz w env a.tmps){o:ω}{t kt e:Ψ}{X:ϑ}{m k:ε}{Y ok:aT}{f:Λ}{zero d:D}{s:Λ}{Z:Ο}{es:Β (Ο×D×Ε)}{r:Δ (Ε×D)} (ho:o.op=.lookup t m k f) (hu:P.underlying t=Α (.map kt e)) (hk:P.underlying kt=Α X) (hs:ze1 X=Γ) (hz:zeroOf P e=Α zero) (hm:cf m=Α Y) (aa:cf k=Α ok) (ab:jf (ok.ev env)=Α Z) (ad:(Y.ev env=.c (.lit (.map Ζ))/\es=[])\/(∃b g,Y.ev env=.mp b/\V[b]? = Α (.map es g))\/∃fs,Y.ev env=.c (.OO fs)/\es=fs.map λp=>(p.1,.c p.2,0)) (hf:tu X Z es 0=Α r) (hr:(d,s)=Rp zero r) : d_ P (Ω a.eval o) V M Fz w V (if f then .aW [d,.c (.lit (.bool s))] else d):=by have F:=CU (mQ E aa) ab;obtain ⟨i,K,hi,N,af⟩:∃i K,P.info? e=Α i/\i.zero=Α K/\zero=dV K:=by{unfold zeroOf at hz;grind [ψ]};have G:=mQ E hm;obtain ⟨l,O,ak,Q⟩:∃l:Φ gx,((a.eval m=.map Ζ/\l=#[])\/∃c,a.eval m=.map (Α c)/\∃g,(sd c).run P w=.ok (.map l g) w)/\l.size=es.length /\ ∀(i:Ε) k d n e,es[i]? = Α (k,d,n)->l[i]? = Α e->e.key=k/\σ V M Fz w d e.val:=by{rcases ad with ⟨S,rfl⟩ | ⟨b,g,S,hb⟩ | ⟨fs,S,rfl⟩;{rw[S] at G;exact ⟨#[],.inl ⟨G.cr,rfl⟩,rfl,λi k d n e h=>by simp at h⟩};{rw[S] at G;obtain ⟨c,A,hM⟩:=G.FN hb;obtain ⟨l,ck,T,⟨h2,_⟩,h3⟩:=R.NT hb hM;grind [Go.getObj,Go.Sem.run]};rw[S] at G;generalize A:a.eval m=va at G;cases G with|c G => cases G with|OO blk g l hF hh ak an av=>refine ⟨l,.inr ⟨blk,rfl,g,by simp[sd,Sem.run,hh]⟩,by simp_all,λi k d n e x y=>?_⟩;simp only[jq,cA,aY] at x;obtain ⟨p,hp,rfl,rfl,_⟩:=x;exact ⟨an i p e hp y,.c (av i p e hp y)⟩};obtain ⟨U,aw,ax⟩:=GF (kind:=X) (k:=Z) es l.toList 0 r (by omega) (λj k d n e T h2=>Q j k d n e T (by simp_all)) hf;have L:(Ϯ kt Z l.toList).run P w=.ok U w:=by{simp only[Ϯ,Sem.run_bind,rS hk,Ξ,aw,Sem.run_pure]};have W:∀v z,(U=Ζ/\v=K/\z=Θ\/∃j,U=Α (j,v)/\z=Γ) -> (Ω a.eval o).run P w=.ok (.value (if f then .tuple #[v,.bool z] else v)) w:=by{intro v z h;rcases h with ⟨rfl,rfl,rfl⟩ | ⟨j,rfl,rfl⟩ <;> rcases O with ⟨A,rfl⟩ | ⟨c,A,g,hg⟩;{simp only[Ω,ho,D1,Sem.run_bind,rS hu,Ξ,A,Sem.run_pure,F,zcU hk hs,L,jj hi N]};{simp only[Ω,ho,D1,Sem.run_bind,rS hu,Ξ,A,hg,Sem.run_pure,F,zcU hk hs,L,jj hi N]};{grind};simp only[Ω,ho,D1,Sem.run_bind,rS hu,Ξ,A,hg,Sem.run_pure,F,zcU hk hs,L]};have fin:∀v z,σ V M Fz w d v->s=z->σ V M Fz w (if f then .aW [d,.c (.lit (.bool s))] else d) (if f then .tuple #[v,.bool z] else v):=by{intro v z hV ht;subst ht;cases f;{exact hV};refine .aW _ rfl (λi x u T h2=>?_);match i with|0=>simp_all|1=>simp at T h2;subst T h2;exact .c (.lit _)|i+2=>grind};cases r with|none=>{cases U with|some _=>simp_all|none=>simp only[Rp,aY] at hr;obtain ⟨rfl,rfl⟩:=hr;exact d_.same R (W K Θ (.inl ⟨rfl,rfl,rfl⟩)) (fin K Θ (af▸σ.dV K) rfl)}|some p=>obtain ⟨j,d'⟩:=p;cases U with|none=>simp_all|some q=>obtain ⟨j',v⟩:=q;obtain ⟨rfl,_,_,hV,_⟩:=ax;simp only[Rp,aY] at hr;grind [d_.same]
def RK{b:ϑ}{x y:Ο}(hs:ze1 b=Γ)(h:ϵ b x y=Α Γ):x=y/\∀n,Instr.sameBits n x y=Γ:=by cases b <;> simp[ze1] at hs;cases x <;> cases y <;> simp[ϵ] at h;obtain ⟨rfl,rfl⟩:=h;exact ⟨rfl,λn=>by grind [Go.Instr.sameBits]⟩
theorem upd_ok(R:Rel V M Fz w)(E:dM V M Fz w env a.tmps){o:ω}{t kt e:Ψ}{kd:ϑ}{m k x:ε}{om ok W:aT}{K:Ο}{b f:Ε}{es:Β (Ο×D×Ε)}{r:Δ (Ε×D)} (ho:o.op=.mapUpdate t m k x\/o.op=.insert t m k x) (hu:P.underlying t=Α (.map kt e)) (hk:P.underlying kt=Α kd) (hs:ze1 kd=Γ) (hm:cf m=Α om) (av:cf k=Α ok) (hx:cf x=Α W) (aw:jf (ok.ev env)=Α K) (he:om.ev env=.mp b) (hb:V[b]? = Α (.map es f)) (hf:tu kd K es 0=Α r) : d_ P (Ω a.eval o) V M Fz w (V.set b (match r with|Α (i,_)=>.map (es.modify i λ(k,_,n)=>(k,W.ev env,n)) f|Ζ=>.map (es++[(K,W.ev env,f)]) (f+1))) (.aW []):=by have Y:Ω a.eval o=Ω a.eval { o with op:=.mapUpdate t m k x }:=by{rcases ho with ho | ho <;> simp only[Ω,ho]};have N:=CU (mQ E av) aw;have hv:=mQ E hm;rw[he] at hv;have Z:=mQ E hx;obtain ⟨c,aa,hM⟩:=hv.FN hb;obtain ⟨g,O,Q,⟨ax,hB⟩,s⟩:=R.NT hb hM;obtain ⟨r',a0,a1⟩:=GF (kind:=kd) (k:=K) es g.toList 0 r (by omega) (λj k d n e Q F=>let ⟨x,_,y⟩:=s j k d n e Q (by simp_all);⟨x,y⟩) hf;have ab:(Ϯ kt K g.toList).run P w=.ok r' w:=by{simp only[Ϯ,Sem.run_bind,rS hk,Ξ,a0,Sem.run_pure]};have ad:(sd c).run P w=.ok (.map g O) w:=by{simp[sd,Sem.run,Q]};have af:∀G,(setObj c G).run P w=.ok () (cL w c G):=by{intro G;simp only[setObj,Sem.run,Q];rfl};have u:∀G:GE,∀S T fr,GE.map g O=.cells S T fr->∃U,G=.cells U T fr/\U.size=S.size:=by{simp_all};have fin:∀z G,z.sz=0->(Ω a.eval o).run P w=.ok .skip (cL w c G)->cj (V.set b z) M Fz (cL w c G) z G->d_ P (Ω a.eval o) V M Fz w (V.set b z) (.aW []):=by{intro z G hz ak a2;have A:(Ob.map es f).sz<=z.sz:=by{simp[Ob.sz]};exact ⟨.skip,Ϟ,_,M,ak,.inr ⟨rfl,rfl⟩,R.tQ hM hb Q A (u G) a2,.aW #[] rfl (λi d v h=>by simp at h),bI.tQ R hM hb Q A (u G),by simp⟩};cases r with|none=>{cases r' with|some _=>simp_all|none=>refine fin (.map (es++[(K,W.ev env,f)]) (f+1)) (.map (g.push { key:=K,val:=a.eval x,born:=O }) (O+1)) rfl ?_ ?_;{rw[Y];simp only[Ω,K5,Sem.run_bind,rS hu,Ξ,aa,ad,N,zcU hk hs,ab,af,Sem.run_pure]};have A:(Ob.map es f).sz<=(Ob.map (es++[(K,W.ev env,f)]) (f+1)).sz:=by{simp[Ob.sz]};have EV:=bI.tQ R hM hb Q A (u (.map (g.push { key:=K,val:=a.eval x,born:=O }) (O+1)));refine ⟨_,⟨_,rfl,hB.push _ _⟩,by grind,λi k' d n en F L=>?_⟩;by_cases hi:i<es.length;{rw[H_ hi] at F;rw[Φ.getElem?_push_lt (by omega)] at L;obtain ⟨x1,x2,x3⟩:=s i k' d n en F (by simp_all);exact ⟨x1,x2,x3.mono EV⟩};have a5:=(fK.1 F).1;simp at a5;have:i=es.length:=by{omega};subst this;rw[QB (cO _)] at F;simp at F;obtain ⟨rfl,rfl,rfl⟩:=F;rw[<-ax] at L;simp at L;subst L;exact ⟨rfl,trivial,Z.mono EV⟩}|some p=>obtain ⟨j,d'⟩:=p;cases r' with|none=>simp_all|some q=>obtain ⟨j',v⟩:=q;obtain ⟨rfl,_,hj,_,a6,l,a7⟩:=a1;simp only[yCm,OE] at l;obtain ⟨an,X⟩:=RK hs a7;have a9:j<g.size:=(DT.1 l).1;have a8:∀Zl new,Instr.sameBits 10000 Zl new=Γ->(I2 Zl new).run P w=.ok new w:=by{intro Zl new h;simp only[I2,h,Υ,Sem.run_pure]};refine fin (.map (es.modify j λ(k,_,n)=>(k,W.ev env,n)) f) (.map (g.modify j λe=>{ e with key:=K,val:=a.eval x }) O) rfl ?_ ?_;{rw[Y];simp only[Ω,K5,Sem.run_bind,rS hu,Ξ,aa,ad,N,zcU hk hs,ab];rw[l];simp only[Bj,UD];rw[a8 _ _ (by have:=X 10000;rw[an] at this ⊢;exact this)];simp only[Ξ,af,Sem.run_pure]};have A:(Ob.map es f).sz<=(Ob.map (es.modify j λ(k,_,n)=>(k,W.ev env,n)) f).sz:=by{simp[Ob.sz]};have EV:=bI.tQ R hM hb Q A (u (.map (g.modify j λe=>{ e with key:=K,val:=a.eval x }) O));refine ⟨_,⟨_,rfl,hB.same (by apply YM;grind)⟩,by grind,λi k' d n en F L=>?_⟩;rw[Β.getElem?_modify] at F;rw[Φ.getElem?_modify] at L;by_cases hi:j=i;{subst hi;rw[l] at L;simp only[Υ,Bj,ay] at L;subst L;cases h4:es[j]? with|none=>simp_all|some p=>obtain ⟨k0,d0,n0⟩:=p;simp[h4] at F;obtain ⟨rfl,rfl,rfl⟩:=F;obtain ⟨x1,x2,_⟩:=s j k0 d0 n0 a6 h4 l;exact ⟨by simp_all,x2,Z.mono EV⟩};simp only[hi,cq] at F L;obtain ⟨x1,x2,x3⟩:=s i k' d n en (by simp_all) (by omega);exact ⟨x1,x2,x3.mono EV⟩
theorem JR:∀(l:Β (Ο×D×Ε))(i:Ε),(nq i l).length=l.length|[],_=>rfl|(_,_,_)::l,i=>by simp[nq,JR l]
theorem KG:∀(l:Β (Ο×D×Ε))(i j:Ε)(k:Ο)(d:D)(n:Ε),(nq i l)[j]? = Α (k,d,n)->∃m,l[j]? = Α (k,d,m)|[],_,_,_,_,_,h=>by grind [nq]|(b, d0, e) :: l, i, 0, k, d, n, h => by grind [nq]|(b, d0, e) :: l, i, j + 1, k, d, n, h => by simp only[nq,yBm] at h ⊢;exact KG l (i+1) j k d n h
theorem del_ok(R:Rel V M Fz w)(E:dM V M Fz w env a.tmps){o:ω}{t kt e:Ψ}{kd:ϑ}{m k:ε}{om ok:aT}{O:Ο}{b f:Ε}{es:Β (Ο×D×Ε)}{r:Δ (Ε×D)}{args:Φ ε}{Q:Φ Ψ} (ho:o.op=.call { callee:=.builtin .delete,args:=args,argTypes:=Q }) (ht:Q[0]? = Α t) (a1:args[0]? = Α m) (a2:args[1]? = Α k) (hu:P.underlying t=Α (.map kt e)) (hk:P.underlying kt=Α kd) (hs:ze1 kd=Γ) (hm:cf m=Α om) (ad:cf k=Α ok) (af:jf (ok.ev env)=Α O) (he:om.ev env=.mp b) (hb:V[b]? = Α (.map es f)) (hf:tu kd O es 0=Α r) : d_ P (Ω a.eval o) V M Fz w (V.set b (match r with|Α (i,_)=>.map (nq 0 (es.eraseIdx i)) (f-1)|Ζ=>.map es f)) (.aW []):=by have a0:=CU (mQ E ad) af;have hv:=mQ E hm;rw[he] at hv;obtain ⟨c,a5,S⟩:=hv.FN hb;obtain ⟨g,A,F,⟨ak,hB⟩,l⟩:=R.NT hb S;obtain ⟨r',an,av⟩:=GF (kind:=kd) (k:=O) es g.toList 0 r (by omega) (λj k d n e F z=>let ⟨x,_,y⟩:=l j k d n e F (by simp_all);⟨x,y⟩) hf;have U:(Ϯ kt O g.toList).run P w=.ok r' w:=by{simp only[Ϯ,Sem.run_bind,rS hk,Ξ,an,Sem.run_pure]};have W:(sd c).run P w=.ok (.map g A) w:=by{simp[sd,Sem.run,F]};have X:∀u,(setObj c u).run P w=.ok () (cL w c u):=by{intro u;simp only[setObj,Sem.run,F];rfl};have s:∀u:GE,∀G T fr,GE.map g A=.cells G T fr->∃K,u=.cells K T fr/\K.size=G.size:=by{simp_all};have Y:(args.map a.eval)[0]? = Α (.map (Α c)):=by{simp_all};have Z:(args.map a.eval)[1]? = Α O:=by{simp_all};have fin:∀ob' u,ob'.sz=0->(Ω a.eval o).run P w=.ok (.value (.tuple #[])) (cL w c u)->cj (V.set b ob') M Fz (cL w c u) ob' u->d_ P (Ω a.eval o) V M Fz w (V.set b ob') (.aW []):=by{intro ob' u hz aa aw;have ab:(Ob.map es f).sz<=ob'.sz:=by{simp[Ob.sz]};exact ⟨.value (.tuple #[]),.tuple #[],_,M,aa,.inl rfl,R.tQ S hb F ab (s u) aw,.aW #[] rfl (λi d v h=>by simp at h),bI.tQ R S hb F ab (s u),by simp⟩};cases r with|none=>{cases r' with|some _=>simp_all|none=>refine fin (.map es f) (.map g A) rfl ?_ ?_;{simp only[Ω,ho,resolve,invoke,builtin,K6,ht,Y,Z,Sem.run_bind,Sem.run_pure,rS hu,Ξ,W,zcU hk hs,U,X]};have EV:=bI.tQ R S hb F (ob':=.map es f) (cO _) (s (.map g A));exact ⟨g,⟨A,rfl,hB⟩,ak,λi k' d n en z N=>by obtain ⟨x1,x2,x3⟩:=l i k' d n en z N;exact ⟨x1,x2,x3.mono EV⟩⟩}|some p=>obtain ⟨j,d'⟩:=p;cases r' with|none=>simp_all|some q=>obtain ⟨j',v⟩:=q;obtain ⟨rfl,_,hj,_,a6,L,a7⟩:=av;simp only[yCm,OE] at L;have a8:j<g.size:=(DT.1 L).1;have ax:(g.eraseIdxIfInBounds j).toList=g.toList.eraseIdx j:=by{simp_all};refine fin (.map (nq 0 (es.eraseIdx j)) (f-1)) (.map (g.eraseIdxIfInBounds j) A) rfl ?_ ?_;{simp only[Ω,ho,resolve,invoke,builtin,K6,ht,Y,Z,Sem.run_bind,Sem.run_pure,rS hu,Ξ,W,zcU hk hs,U,X]};have EV:=bI.tQ R S hb F (ob':=.map (nq 0 (es.eraseIdx j)) (f-1)) (by simp[Ob.sz]) (s (.map (g.eraseIdxIfInBounds j) A));refine ⟨_,⟨A,rfl,hB.sub (by grind)⟩,?_,λi k' d n en z N=>?_⟩;{grind [JR]};obtain ⟨m',z⟩:=KG _ _ _ _ _ _ z;rw[<-OE,ax,B3] at N;rw[B3] at z;split at z;{rename_i hi;rw[Ν hi,OE] at N;obtain ⟨x1,_,x3⟩:=l i k' d m' en z N;exact ⟨x1,trivial,x3.mono EV⟩};rename_i hi;rw[Κ hi,OE] at N;obtain ⟨x1,_,x3⟩:=l (i+1) k' d m' en z N;exact ⟨x1,trivial,x3.mono EV⟩
end
end Go.Abs
end
section
namespace Go.Abs
variable[Gl]
section
variable{P:Μ}{V V':au}{M M':Ε->Δ Ε}{Fz:Ε->Prop}{w w':Τ}{env:Β D}{a:Act}
theorem Xi(n:Ε):∀(r c:Ε),c<=n+(n+768) / 4->D2.growBy n r c<=n+(n+768) / 4:=by intro r;induction r with|zero=>intro c h;exact h|succ r ih=>grind [Go.Builtin.growBy]
def Sk(n c:Ε)(h:c<n):io n c<=2 * n+1000:=by grind [Go.Builtin.nextslicecap,Xi]
theorem Vb{c:Ε}{o:GE}(h:w.heap[c]? = Α o):cL w c o=w:=by unfold cL;have:w.heap.setIfInBounds c o=w.heap:=by{grind};rw[this]
def zew(P:Μ)(T:Ψ)(c:Ε)(xs:Β Ο)(off:Ε)(w:Τ)(arr:Φ Ο) (h:w.heap[c]? = Α (.cells arr T (0,0))) (b:∀x∈xs,x.oneCell'=Γ) (hl:off+xs.length<=arr.size) : (ϻ ⟨c,off,Ζ⟩ xs).run P w=.ok () (cL w c (.cells (de arr off xs) T (0,0))):=by rw[xc P T c xs 0 off w arr h b (by omega)];congr 1;split;{rename_i d;subst d;have:de arr off []=arr:=by{grind [de]};grind [Vb]};rfl
def Em.ones{cs:Β D}{arr:Φ Ο}(h:Em V M Fz w cs arr):∀u∈arr.toList,u.oneCell'=Γ:=by intro u j;obtain ⟨i,hi,rfl⟩:=Rt.1 j;simp only[yBq] at hi;exact (h.2 i _ _ (eW (by rw[<-h.1];exact hi)) (rR (by omega))).2
def rT{t v e:Ψ}{y:Ψ}{k:Φ Ψ}{ty:Ψ}{args:Φ Ο}{g:Δ C8}{d f n h:Ε}{m:Δ C8}{aC:Ε}{i:ik}{x:Ο} (z:k[0]? = Α t) (o:k[1]? = Α v) (A:P.underlying t=Α (.slice e)) (p:P.underlying v=Α (.slice y)) (q:bM P e=Α aC) (hi:P.info? e=Α i) (E:i.zero=Α x) (F:args[0]? = Α (.slice g d f)) (G:args[1]? = Α (.slice m n h)) (j:Ey (d+n) i.bytes=Γ) (w:Τ) : (wd k ty args).run P w = if d+n≤f then ((ϒ aC n (.slice m n h)).run P w).andThen fun new w1=>match (generalizing:=false) g with| Α b=>((ϻ (b.add (d * aC)) new.toList).run P w1).andThen fun _ w2=>.ok (.slice g (d+n) f) w2| Ζ=>.ok (.slice g (d+n) f) w1 else ((ϒ aC d (.slice g d f)).run P w.drew).andThen fun K w1=>((ϒ aC n (.slice m n h)).run P w1).andThen fun new w2=>((newRow e (K++new++Ϗ x.cells ((ϝ (d+n) f e).cut (w.tape w.drawn (.appendCap (d+n) f e))-(d+n)))).run P w2).andThen fun r w3=>.ok (.slice (Α r) (d+n) ((ϝ (d+n) f e).cut (w.tape w.drawn (.appendCap (d+n) f e)))) w3:=by simp only [Ey,bH,bD] at j;obtain ⟨⟨L,N⟩,O⟩:=j;have l:∀w,(B5 (.slice m n h)).run P w=.ok n w:=fun w=>rfl;simp only [wd,z,o,F,G,Sem.run_bind,rS A,rS p,TX q,Ξ,Sem.run_pure,bY,cq,Λ.not_false,Υ,l];split;{grind [Go.Sem.run_bind,Go.Sem.run_pure]};rename_i Q;have s:¬(((d+n:Ε):Η) > IntKind.i64.max/\(False\/i.bytes=0)):=by{have:IntKind.i64.max=9223372036854775807:=by{decide};omega};have u:¬(io (d+n) f * i.bytes > 2 ^ 48):=by{have R:=Sk (d+n) f (by omega);have S:io (d+n) f * i.bytes≤(2 * (d+n)+1000) * i.bytes:=Ic _ R;grind};simp only [Sem.run_bind,zdI hi,Ξ,bY];rw [Κ s];simp only [Sem.run_bind,Sem.run_pure,zdI hi,Ξ];rw [Κ u];simp only [Sem.run_bind,Sem.run_pure,zdI hi,Ξ,run_choose,Question.forced,bY,cq,run_askRoom,jj hi E,Τ.drew_eq]
def TY(n c:Ε)(e:Ψ)(t:Ε):n<=(ϝ n c e).cut t:=by grind [Go.Question.cut]
theorem iG(z:Φ Ο)(n:Ε):(Ϗ z n).size=n * z.size:=by simp[Ϗ]
def bI.ph(R:Rel V M Fz w):bI V M Fz w (V++[.cells []]) M Fz w:={size:=cO _,frame:=λ_ _ _=>rfl,lh:=λb c h=>.inl ⟨b,h⟩,fz:=λc h=>⟨h,rfl⟩,nK:=λc h=>.inl h,qx:=λc i T o h=>⟨i,h,rfl⟩,keep:=λb j h=>⟨j,by grind,cO _,λ_=>rfl⟩,out:=⟨rfl,rfl,rfl⟩ }
def Rel.ph(R:Rel V M Fz w):Rel (V++[.cells []]) M Fz w:=⟨λb c h=>by obtain ⟨i,j,o,x,s,u⟩:=R.blk b c h;exact ⟨i,j,o,by grind,s,u.mono (bI.ph R)⟩,R.inj,R.fz,R.gl⟩
def X_(R:Rel V M Fz w)(E:dM V M Fz w env a.tmps){o:ω}{t t1 e et:Ψ}{args:Φ ε}{a1:Φ Ψ}{s x:ε}{os ox:aT}{aC:Ε}{i:ik}{z:Β D}{d:D}{wr:Β Ε}
  (ho:o.op=.call { callee:=.builtin .append,args:=args,argTypes:=a1 }) (ht:a1[0]? = Α t) (a2:a1[1]? = Α t1) (cv:args[0]? = Α s) (cC:args[1]? = Α x)
  (hu:P.underlying t=Α (.slice e)) (a5:P.underlying t1=Α (.slice et)) (a6:bM P e=Α aC) (hi:P.info? e=Α i) (hz:UW P e=Α z) (q:¬(aC=0\/z.length≠aC))
  (hs:cf s=Α os) (hx:cf x=Α ox)
  (h:(do
  let xd:=ox.ev env
  let n <-He V xd
  let new <-XC V aC n xd
  match os.ev env with
  |.c (.lit (.slice Ζ 0 0))=>if Ey n i.bytes then Α (.sl V.length 0 n aC (n * aC),V++[.cells new],[]) else Ζ
  |.sl b off len m sz => do
   let cs <-kk V b sz
   if m=aC/\off=0/\len * aC=sz/\Ey (len+n) i.bytes then
    if n=0 then Α (.sl b 0 len aC sz,V,[b])
    else Α (.sl b 0 (len+n) aC (sz+n * aC),V.set b (.cells (cs++new)),[b])
   else if m=aC/\off=0/\(len+n) * aC<=sz/\Ey (len+n) i.bytes then
    if n=0 then Α (.sl b 0 len aC sz,V,[b])
    else Α (.sl b 0 (len+n) aC sz,V.set b (.cells (put cs (len * aC) new)),[b])
   else Ζ
  |_=>Ζ)=Α (d,V',wr)):d_ P (Ω a.eval o) V M Fz w V' d:=by
 obtain ⟨i',zv,bc,a7,b8⟩:=zdD hz;rw[hi] at bc;simp only[ay] at bc;subst bc;simp only[ϥ,Rs] at q;obtain ⟨p,cX⟩:=q;have bd:zv.cells.size=aC:=by have:=(Em.sC (σ.dV (V:=V) (M:=M) (Fz:=Fz) (w:=w) zv) b8).1;omega
 simp only[dZ,cQ] at h;obtain ⟨n,hn,new,A,h⟩:=h;have S:=mQ E hx;have aa:=mQ E hs;obtain ⟨b9,bw,U⟩:=sq S hn;have an:∀r,(wd a1 o.type (args.map a.eval)).run P w=r->(Ω a.eval o).run P w=r.andThen λv w'=>.ok (.value v) w':=by intro r hr;simp only[Ω,ho,resolve,invoke,builtin,Sem.run_bind,Sem.run_pure,Ξ,hr]
 have a8:(args.map a.eval)[1]? = Α (.slice b9 n bw):=by simp_all
 split at h
 ·rename_i be;rw[be] at aa;have cY:=aa.cr;have ab:(args.map a.eval)[0]? = Α (.slice Ζ 0 0):=by simp_all
  split at h
  ·rename_i F;have f:=rT (ty:=o.type) ht a2 hu a5 a6 hi a7 ab a8 (by simp_all) w;simp only[ay,aY] at h;obtain ⟨rfl,rfl,_⟩:=h;by_cases q:n=0
   ·subst q;obtain ⟨arr,l,g,k⟩:=zbO (P:=P) R S p A;rw[U] at l;rw[Ν (by omega),l] at f;have he:new=[]:=Xg (by omega);subst he;refine ⟨.value (.slice Ζ 0 0),.slice Ζ 0 0,w,M,by simp_all,.inl rfl,R.ph,?_,bI.ph R,by simp⟩;exact .sl Ζ 0 0 (by simp) (.cells []) (by simp) (by omega) (λ_=>.inl ⟨rfl,rfl,rfl,rfl,rfl,by simp⟩)
   ·rw[Κ (by omega)] at f;simp only[NH] at f;have EH:bI V M Fz w V M Fz w.drew:=bI.heap R rfl ⟨rfl,rfl,rfl⟩;have R1:Rel V M Fz w.drew:=R.heap rfl ⟨rfl,rfl,rfl⟩;obtain ⟨arr,l,g,k⟩:=zbO (P:=P) R1 (S.mono EH) p A;rw[U] at l;have av:(ϒ aC 0 (.slice Ζ 0 0)).run P w.drew=.ok #[] w.drew:=rfl;rw[av] at f;simp only[Ξ,l] at f;have aw:=TY n 0 e (w.tape w.drawn (.appendCap n 0 e));generalize (ϝ n 0 e).cut (w.tape w.drawn (.appendCap n 0 e))=W at f aw;have hm:n * aC+(W-n) * aC=W * aC:=by rw[<-NK];simp_all
    have ax:(#[]++arr++Ϗ zv.cells (W-n)).size=W * aC:=by simp only[ks,iG,bd,g.1,k,H4];omega
    obtain ⟨r1,r2⟩:=rK (P:=P) R1.fz (cs:=new) (arr:=#[]++arr++Ϗ zv.cells (W-n)) e (by omega) (λj y u Q O=>by have hj:=(fK.1 Q).1;rw[yBW (by simp[g.1];exact hj)] at O;exact g.2 j y u Q (by simp_all))
    rw[r1] at f;refine ⟨_,_,_,_,by rw[an _ f];rfl,.inl rfl,R1.alloc _ _ r2,?_,EH.trans (bI.alloc R1.fz _ _) (cO _),by simp⟩;rw[<-k];exact σ.Z_ (by omega) (by omega) (by omega) (by omega)
  simp_all
 ·rename_i b off len m sz be;rw[be] at aa;simp only[cQ] at h;obtain ⟨cs,hr,h⟩:=h;split at h
  ·rename_i G;obtain ⟨rfl,rfl,bb,F⟩:=G;obtain ⟨hb,b0⟩:=Rl hr;rcases aa.fJ hr with ⟨a0,e2,_,e4,e6⟩ | ⟨c,o',cap,K,T,hM,a0,b1,b2,hh,b3,_⟩
   ·subst e2 e4 e6;have ab:(args.map a.eval)[0]? = Α (.slice Ζ 0 0):=by simp_all
    have f:=rT (ty:=o.type) ht a2 hu a5 a6 hi a7 ab a8 F w;split at h
    ·rename_i q;subst q;simp only[ay,aY] at h;obtain ⟨rfl,rfl,_⟩:=h;obtain ⟨arr,l,g,k⟩:=zbO (P:=P) R S p A;rw[U] at l;rw[Ν (by omega),l] at f;refine d_.same R (v:=.slice Ζ 0 0) ?_ (a0▸aa)
     simp_all
    ·rename_i q;simp only[ay,aY] at h;obtain ⟨rfl,rfl,_⟩:=h;rw[Κ (by omega)] at f;simp only[NH] at f;have EH:bI V M Fz w V M Fz w.drew:=bI.heap R rfl ⟨rfl,rfl,rfl⟩;have R1:Rel V M Fz w.drew:=R.heap rfl ⟨rfl,rfl,rfl⟩;obtain ⟨arr,l,g,k⟩:=zbO (P:=P) R1 (S.mono EH) p A;rw[U] at l;have av:(ϒ m 0 (.slice Ζ 0 0)).run P w.drew=.ok #[] w.drew:=rfl;rw[av] at f;simp only[Ξ,l] at f;have aw:=TY n 0 e (w.tape w.drawn (.appendCap n 0 e));generalize (ϝ n 0 e).cut (w.tape w.drawn (.appendCap n 0 e))=W at f aw;have hm:n * m+(W-n) * m=W * m:=by rw[<-NK];simp_all
     have ax:(#[]++arr++Ϗ zv.cells (W-n)).size=W * m:=by simp only[ks,iG,bd,g.1,k,H4];omega
     have ad:∀row,(newRow e row).run P w.drew=.ok ⟨w.drew.heap.size,0,Ζ⟩ (w.drew.alloc (.cells row e)):=λ_=>rfl;rw[ad] at f;have cg:0<n * m:=Ε.mul_pos (by omega) (by omega);have L:(Ob.cells []).sz<(Ob.cells ([]++new)).sz:=by grind [Ob.sz]
     have EV:=bI.move (o':=.cells (#[]++arr++Ϗ zv.cells (W-n)) e) R1 hb L;refine ⟨_,_,_,_,by rw[an _ f];rfl,.inl rfl,R1.move hb L ?_,?_,EH.trans EV (cO _),by simp⟩
     ·refine ⟨_,e,rfl,by grind,λj d v Q O=>?_⟩;have a9:=(fK.1 Q).1;simp[k] at a9;rw[yBW (by simp[g.1,k];omega)] at O;have:=g.2 j d v (by simp_all) (by simp_all);exact ⟨this.1.mono EV,this.2⟩
     ·have bh:=(fK.1 hb).1;refine .sl _ _ _ (by simp) (.cells ([]++new)) (by simp_all) (by grind [Ob.sz]) (λ_=>.inr ?_);refine ⟨w.drew.heap.size,0,_,e,by simp[xR],rfl,by omega,by omega,.inl rfl,ϲ _ _,by omega,by simp⟩
   have ab:(args.map a.eval)[0]? = Α (.slice (Α ⟨c,o',Ζ⟩) len cap):=by simp_all
   have f:=rT (ty:=o.type) ht a2 hu a5 a6 hi a7 ab a8 F w;obtain ⟨bi,T',af,ch,bt⟩:=R.row hM hb;rw[hh] at af;simp only[ay,ϙ,Nz] at af;obtain ⟨rfl,rfl⟩:=af;split at h
   ·rename_i q;subst q;simp only[ay,aY] at h;obtain ⟨rfl,rfl,_⟩:=h;obtain ⟨arr,l,g,k⟩:=zbO (P:=P) R S p A;rw[U] at l;rw[Ν (by omega),l] at f;have b4:arr.toList=[]:=by
     have:arr.size=0:=by rw[g.1,k];omega
     simp_all
    grind [Go.Result.andThen_ok,Go.storeCells,Go.Sem.run_pure,d_.same]
   ·rename_i q;simp only[ay,aY] at h;obtain ⟨rfl,rfl,_⟩:=h;by_cases X:len+n<=cap
    ·rw[Ν X] at f;obtain ⟨arr,l,g,k⟩:=zbO (P:=P) R S p A;rw[U] at l;have bu:o'=0:=by
      omega
     subst bu;have hm:(len+n) * m<=cap * m:=Ic _ X;rw[NK] at hm;have bv:=zew P T c arr.toList (0+len * m) w K hh g.ones (by simp[g.1,k];omega);rw[l] at f;simp only[Ξ,fy,bv] at f;have L:(Ob.cells cs).sz<=(Ob.cells (cs++new)).sz:=by simp[Ob.sz]
     have Y:∀N T1 fr,Ϣ K T (0,0)=.cells N T1 fr->∃Z,Ϣ (de K (0+len * m) arr.toList) T (0,0)=.cells Z T1 fr/\Z.size=N.size:=by intro N T1 fr h;simp only[ϙ] at h;obtain ⟨rfl,rfl,rfl⟩:=h;exact ⟨_,rfl,WC (by simp[g.1,k];omega)⟩
     have EV:=bI.tQ R hM hb hh L Y;refine ⟨_,_,_,M,by rw[an _ f];rfl,.inl rfl,R.tQ hM hb hh L Y ?_,?_,EV,by simp⟩
     ·refine ⟨_,T,rfl,?_,λj d v Q O=>?_⟩
      ·grind
      ·rw[cF (by simp[g.1,k];omega)] at O;simp only[yBq,g.1,k] at O;by_cases hj:j<cs.length
       ·rw[H_ hj] at Q;rw[Κ (by omega)] at O;have:=bt j d v Q O;exact ⟨this.1.mono EV,this.2⟩
       ·rw[QB (by omega)] at Q;have a9:=(fK.1 Q).1;rw[Ν (by omega)] at O;have:=g.2 (j-cs.length) d v Q (by
         simp_all)
        exact ⟨this.1.mono EV,this.2⟩
     ·have bh:=(fK.1 hb).1;refine .sl _ _ _ (by simp) (.cells (cs++new)) (by simp_all) (by grind [Ob.sz]) (λ_=>.inr ?_);refine ⟨c,0,_,T,hM,rfl,rfl,⟨X,by omega⟩,.inl rfl,fA (R.lt hM).2,?_,?_⟩
      ·simp_all
      grind
    ·rw[Κ X] at f;have EH:bI V M Fz w V M Fz w.drew:=bI.heap R rfl ⟨rfl,rfl,rfl⟩;have R1:Rel V M Fz w.drew:=R.heap rfl ⟨rfl,rfl,rfl⟩;obtain ⟨arr,l,g,k⟩:=zbO (P:=P) R1 (S.mono EH) p A;rw[U] at l;have ck:XC V m len (.sl b 0 len m sz)=Α cs:=by
      have hc:m=m/\len<=len/\0+len * m<=sz:=⟨rfl,cO _,by omega⟩;show ((kk V b sz).bind λcs=>if m=m/\len<=len/\0+len * m<=sz then Α ((cs.drop 0).take (len * m)) else Ζ)=Α cs
      grind
     obtain ⟨Zl,b5,ak,cm⟩:=zbO (P:=P) R1 (aa.mono EH) p ck;rw[a0] at b5;rw[b5] at f;simp only[Ξ,l] at f;have aw:=TY (len+n) cap e (w.tape w.drawn (.appendCap (len+n) cap e));generalize (ϝ (len+n) cap e).cut (w.tape w.drawn (.appendCap (len+n) cap e))=W at f aw;have hm:(len+n) * m+(W-(len+n)) * m=W * m:=by rw[<-NK];simp_all
     rw[NK] at hm;have ax:(Zl++arr++Ϗ zv.cells (W-(len+n))).size=W * m:=by simp only[ks,iG,bd,g.1,k,ak.1,cm];omega
     have ad:∀row,(newRow e row).run P w.drew=.ok ⟨w.drew.heap.size,0,Ζ⟩ (w.drew.alloc (.cells row e)):=λ_=>rfl;rw[ad] at f;have cg:0<n * m:=Ε.mul_pos (by omega) (by omega);have L:(Ob.cells cs).sz<(Ob.cells (cs++new)).sz:=by grind [Ob.sz]
     have EV:=bI.move (o':=.cells (Zl++arr++Ϗ zv.cells (W-(len+n))) e) R1 hb L;refine ⟨_,_,_,_,by rw[an _ f];rfl,.inl rfl,R1.move hb L  ?_,?_,EH.trans EV (cO _),by simp⟩
     ·refine ⟨_,e,rfl,by grind,λj d v Q O=>?_⟩;have a9:=(fK.1 Q).1;simp[k] at a9;rw[yBW (by simp[ak.1,g.1,k];omega)] at O;by_cases hj:j<cs.length
      ·rw[H_ hj] at Q;rw[yBW (by rw[ak.1];exact hj)] at O;have:=ak.2 j d v Q O;exact ⟨this.1.mono EV,this.2⟩
      ·rw[QB (by omega)] at Q;rw[Φ.getElem?_append_right (by rw[ak.1];omega),ak.1] at O;have:=g.2 _ d v Q O;exact ⟨this.1.mono EV,this.2⟩
     ·have bh:=(fK.1 hb).1;refine .sl _ _ _ (by simp) (.cells (cs++new)) (by simp_all) (by grind [Ob.sz]) (λ_=>.inr ?_);refine ⟨w.drew.heap.size,0,_,e,by simp[xR],rfl,rfl,by omega,.inl rfl,ϲ _ _,by omega,by grind⟩
  ·rename_i cp;split at h
   rotate_left
   ·simp at h
   rename_i G;obtain ⟨rfl,rfl,bb,F⟩:=G;obtain ⟨hb,b0⟩:=Rl hr;have b6:0<m:=Ε.pos_of_ne_zero p;rcases aa.fJ hr with ⟨a0,e2,_,e4,e6⟩ | ⟨c,o',cap,K,T,hM,a0,b1,b2,hh,b3,_⟩
   ·simp_all
   have ab:(args.map a.eval)[0]? = Α (.slice (Α ⟨c,o',Ζ⟩) len cap):=by simp_all
   have f:=rT (ty:=o.type) ht a2 hu a5 a6 hi a7 ab a8 F w;obtain ⟨bi,T',af,ch,bt⟩:=R.row hM hb;rw[hh] at af;simp only[ay,ϙ,Nz] at af;obtain ⟨rfl,rfl⟩:=af;have X:len+n<=cap:=Ε.le_of_mul_le_mul_right (by omega) b6;rw[Ν X] at f;obtain ⟨arr,l,g,k⟩:=zbO (P:=P) R S p A;rw[U] at l;split at h
   ·rename_i q;subst q;simp only[ay,aY] at h;obtain ⟨rfl,rfl,_⟩:=h;have b4:arr.toList=[]:=by
     have:arr.size=0:=by rw[g.1,k];omega
     simp_all
    grind [Go.Result.andThen_ok,Go.storeCells,Go.Sem.run_pure,d_.same]
   ·rename_i q;simp only[ay,aY] at h;obtain ⟨rfl,rfl,_⟩:=h;have bu:o'=0:=by
     omega
    subst bu;have hm:(len+n) * m<=cap * m:=Ic _ X;have co:=bb;rw[NK] at hm co;have bv:=zew P T c arr.toList (0+len * m) w K hh g.ones (by simp[g.1,k];omega);rw[l] at f;simp only[Ξ,fy,bv] at f;have b7:len * m+new.length<=cs.length:=by omega
    have L:(Ob.cells cs).sz<=(Ob.cells (put cs (len * m) new)).sz:=by grind [Ob.sz,ZJ]
    have Y:∀N T1 fr,Ϣ K T (0,0)=.cells N T1 fr->∃Z,Ϣ (de K (0+len * m) arr.toList) T (0,0)=.cells Z T1 fr/\Z.size=N.size:=by intro N T1 fr h;simp only[ϙ] at h;obtain ⟨rfl,rfl,rfl⟩:=h;exact ⟨_,rfl,WC (by simp[g.1,k];omega)⟩
    have EV:=bI.tQ R hM hb hh L Y;refine ⟨_,_,_,M,by rw[an _ f];rfl,.inl rfl,R.tQ hM hb hh L Y ?_,?_,EV,by simp⟩
    ·refine ⟨_,T,rfl,by grind [ZJ],λj d v Q O=>?_⟩;rw[iu b7] at Q;rw[cF (by simp[g.1,k];omega)] at O;simp only[yBq,g.1,NH] at O;split at Q
     ·rename_i G;rw[Ν G] at O;have:=g.2 _ _ _ Q (by simpa using O);exact ⟨this.1.mono EV,this.2⟩
     ·rename_i G;rw[Κ G] at O;have:=bt _ _ _ Q O;exact ⟨this.1.mono EV,this.2⟩
    ·have bh:=(fK.1 hb).1;refine .sl _ _ _ (by simp) (.cells (put cs (len * m) new)) (by simp_all) (by grind [Ob.sz]) (λ_=>.inr ?_);refine ⟨c,0,_,T,hM,rfl,rfl,⟨X,b1.2⟩,.inl rfl,fA (R.lt hM).2,?_,?_⟩
     ·simp_all
     ·omega
 simp_all
def EN(R:Rel V M Fz w)(E:dM V M Fz w env a.tmps){o:ω}{t e:Ψ}{args:Φ ε}{S:Φ Ψ}{s x:ε}{os ox:aT}{aC b off len sz n m:Ε}{cs new:Β D} (ho:o.op=.call { callee:=.builtin .copy,args:=args,argTypes:=S }) (ht:S[0]? = Α t) (a6:args[0]? = Α s) (a7:args[1]? = Α x) (hu:P.underlying t=Α (.slice e)) (U:bM P e=Α aC) (W:aC≠0) (hs:cf s=Α os) (hx:cf x=Α ox) (af:os.ev env=.sl b off len aC sz) (hr:kk V b sz=Α cs) (hm:He V (ox.ev env)=Α m) (hn:n=min m len) (A:XC V aC n (ox.ev env)=Α new) (a8:off+len * aC<=sz) : d_ P (Ω a.eval o) V M Fz w (V.set b (.cells (put cs off new))) (.c (.lit (.int .i64 n))):=by have L:=mQ E hx;have X:=mQ E hs;rw[af] at X;obtain ⟨z,l,Y⟩:=sq L hm;rcases X.fJ hr with ⟨ak,e2,e3,e4,e5⟩ | ⟨c,o',cap,g,T,hM,ak,a9,a1,Z,a2,_⟩;{subst e2 e3 e4 e5;obtain rfl:n=0:=by{omega};obtain ⟨hb,_⟩:=Rl hr;obtain ⟨k,p,f,q⟩:=zbO (P:=P) R L W A;rw[Y] at p;obtain rfl:new=[]:=Xg (by omega);have aa:V.set b (.cells (put [] 0 []))=V:=by{apply YM;intro i;rw[yBF];split;{rename_i hi;subst hi;split;{exact hb.symm};grind};rfl};rw[aa];have N:(args.map a.eval)[0]? = Α (.slice Ζ 0 0):=by{grind};have O:(args.map a.eval)[1]? = Α (.slice z m l):=by{grind};have hl:(B5 (.slice z m l)).run P w=.ok m w:=rfl;have r:Ε.min m 0=0:=hn.symm;refine d_.same R (v:=.int .i64 0) ?_ (.c (.lit _));simp only[Ω,ho,resolve,invoke,builtin,D2.copy_,ht,N,O,Sem.run_bind,Sem.run_pure,rS hu,Ξ,hl,TX U,r,p,GT];rfl};obtain ⟨hb,a5⟩:=Rl hr;obtain ⟨an,T',Q,bb,av⟩:=R.row hM hb;rw[Z] at Q;simp only[ay,ϙ,Nz] at Q;obtain ⟨rfl,rfl⟩:=Q;obtain ⟨k,p,f,q⟩:=zbO (P:=P) R L W A;rw[Y] at p;have aw:n * aC<=len * aC:=Ic _ (by omega);have ax:(ϻ ⟨c,o',Ζ⟩ k.toList).run P w=.ok () (cL w c (.cells (de g off k.toList) T (0,0))):=by{by_cases hz:n=0;{have:k.toList=[]:=by{have:k.size=0:=by{rw[f.1,q,hz,yC3]};grind};rw[this];have F:de g off []=g:=by{grind [de]};rw[F,Vb Z];rfl};have a0:o'=off:=by{omega};subst a0;exact zew P T c k.toList o' w g Z f.ones (by simp[f.1,q];omega)};have ab:off+new.length<=cs.length:=by{omega};have ad:(Ob.cells cs).sz<=(Ob.cells (put cs off new)).sz:=by{grind [Ob.sz,ZJ]};have G:∀u T1 fr,Ϣ g T (0,0)=.cells u T1 fr->∃K,Ϣ (de g off k.toList) T (0,0)=.cells K T1 fr/\K.size=u.size:=by{intro u T1 fr h;simp only[ϙ] at h;obtain ⟨rfl,rfl,rfl⟩:=h;exact ⟨_,rfl,WC (by simp[f.1,q];omega)⟩};have EV:=bI.tQ R hM hb Z ad G;refine ⟨.value (.int .i64 n),_,_,M,?_,.inl rfl,R.tQ hM hb Z ad G ?_,.c (.lit _),EV,by simp⟩;{have N:(args.map a.eval)[0]? = Α (.slice (Α ⟨c,o',Ζ⟩) len cap):=by{simp_all};have O:(args.map a.eval)[1]? = Α (.slice z m l):=by{simp_all};have hl:(B5 (.slice z m l)).run P w=.ok m w:=rfl;have r:Ε.min m len=n:=hn.symm;simp only[Ω,ho,resolve,invoke,builtin,D2.copy_,ht,N,O,Sem.run_bind,Sem.run_pure,rS hu,Ξ,hl,TX U,r,p,ax,GT]};refine ⟨_,T,rfl,by grind [ZJ],λj d v h1 F=>?_⟩;rw[iu ab] at h1;rw[cF (by simp[f.1,q];omega)] at F;simp only[yBq,f.1] at F;split at h1;{rename_i y;rw[Ν y] at F;have:=f.2 _ _ _ h1 (by simpa using F);exact ⟨this.1.mono EV,this.2⟩};rename_i y;rw[Κ y] at F;have:=av _ _ _ h1 F;exact ⟨this.1.mono EV,this.2⟩
def clr_ok(R:Rel V M Fz w)(E:dM V M Fz w env a.tmps){o:ω}{t e:Ψ}{args:Φ ε}{A:Φ Ψ}{x:ε}{ox:aT}{aC b off len sz:Ε}{cs z:Β D} (ho:o.op=.call { callee:=.builtin .clear,args:=args,argTypes:=A }) (ht:A[0]? = Α t) (a8:args[0]? = Α x) (hu:P.underlying t=Α (.slice e)) (hz:UW P e=Α z) (a9:aC≠0) (F:z.length=aC) (hx:cf x=Α ox) (X:ox.ev env=.sl b off len aC sz) (hr:kk V b sz=Α cs) (bb:off+len * aC<=sz) : d_ P (Ω a.eval o) V M Fz w (V.set b (.cells (put cs off (rj len z)))) (.aW []):=by obtain ⟨i,y,hi,Y,aa⟩:=zdD hz;have G:=Em.sC (σ.dV (V:=V) (M:=M) (Fz:=Fz) (w:=w) y) aa;have bc:y.cells.size=aC:=by{rw[G.1,F]};have K:z≠[]:=λh=>by{simp_all};have hv:=mQ E hx;rw[X] at hv;obtain ⟨hb,a1⟩:=Rl hr;have same:len=0->V.set b (.cells (put cs off (rj len z)))=V:=λh=>by{subst h;have k:put cs off (rj 0 z)=cs:=by{simp[rj,put]};rw[k];apply YM;grind};have a2:∀U cap,len=0->a.eval x=.slice U len cap->d_ P (Ω a.eval o) V M Fz w (V.set b (.cells (put cs off (rj len z)))) (.aW []):=λU cap h L=>by{rw[same h];subst h;have r:(args.map a.eval)[0]? = Α (.slice U 0 cap):=by{simp_all};refine d_.same R (v:=.tuple #[]) ?_ (.aW #[] rfl (λi d v h=>by simp at h));cases U <;> simp only[Ω,ho,resolve,invoke,builtin,D2.clear_,ht,r,Sem.run_bind,Sem.run_pure,rS hu,Ξ]};rcases hv.fJ hr with ⟨L,e2,e3,e4,e6⟩ | ⟨c,s,cap,f,T,hM,L,bd,a5,W,a6,_⟩;{simp_all};by_cases h0:len=0;{simp_all};obtain ⟨m,rfl⟩:∃m,len=m+1:=⟨len-1,by omega⟩;obtain ⟨ab,T',u,be,af⟩:=R.row hM hb;rw[W] at u;simp only[ay,ϙ,Nz] at u;obtain ⟨rfl,rfl⟩:=u;have ak:s=off:=by{omega};subst ak;obtain ⟨an,N⟩:=Dp G K (m+1) (m+1) (cO _);generalize hZ:Ϗ y.cells (m+1)=Z;have av:(Ϭ ((m+1) * y.cells.size)).map (y.cells[· % y.cells.size]!)=Z:=hZ;rw[av] at an N;have aw:Z.size=(m+1) * aC:=by{grind};have ax:(rj (m+1) z).length=(m+1) * aC:=by{rw[iz,F]};have l:Em V M Fz w (rj (m+1) z) Z:=⟨by omega,N⟩;have a7:s+(m+1) * aC<=f.size:=by{omega};have a0:=zew P T c Z.toList s w f W l.ones (by simp_all);have O:s+(rj (m+1) z).length<=cs.length:=by{omega};have Q:(Ob.cells cs).sz<=(Ob.cells (put cs s (rj (m+1) z))).sz:=by{grind [Ob.sz,ZJ]};have n:∀p T1 fr,Ϣ f T (0,0)=.cells p T1 fr->∃q,Ϣ (de f s Z.toList) T (0,0)=.cells q T1 fr/\q.size=p.size:=by{grind [WC]};have EV:=bI.tQ R hM hb W Q n;refine ⟨.value (.tuple #[]),_,_,M,?_,.inl rfl,R.tQ hM hb W Q n ?_,.aW #[] rfl (λi d v h=>by simp at h),EV,by simp⟩;{have r:(args.map a.eval)[0]? = Α (.slice (Α ⟨c,s,Ζ⟩) (m+1) cap):=by{simp_all};simp only[Ω,ho,resolve,invoke,builtin,D2.clear_,ht,r,Sem.run_bind,Sem.run_pure,rS hu,Ξ,jj hi Y,hZ,a0]};refine ⟨_,T,rfl,by grind [ZJ],λj d v S k=>?_⟩;rw[iu O] at S;rw[cF (by simp_all)] at k;simp only[yBq,aw] at k;rw[ax] at S;split at S;{rename_i g;rw[Ν g] at k;have:=l.2 _ _ _ S (by simpa using k);exact ⟨this.1.mono EV,this.2⟩};rename_i g;rw[Κ g] at k;have:=af _ _ _ S k;exact ⟨this.1.mono EV,this.2⟩
end
end Go.Abs
end
