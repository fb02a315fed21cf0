/- Lemmas. -/
import Derived.Calls
import Derived.Orders
import Derived.Laws.Sem
import Derived.Laws.World
import Derived.Laws.Cells
import Derived.Laws.Rows
import GoSem.Dispatch
import Derived.IntWalk
set_option linter.all false
open _root_ renaming Go.Addr->C4,Go.Addr.mk->uo,Array->Φ,Array.ext'->rt,Array.range->Ϭ,Array.size_append->ks,Array.size_empty->G9,Array.toList_push->FS,Bool->Λ,Go.Builtin->C8,Go.Builtin.append_->td,Go.Builtin.delete_->K0,Go.Builtin.firstCells->ϒ,Go.Builtin.lenOf->B0,Go.Builtin.len_->ϻ,Go.Builtin.nextslicecap->io,Go.Builtin.zeroCells->Ϗ,Go.Field->sd,Inhabited->ο,Go.Instr.checkKey->ww,Go.Instr.fill->wv,Go.Instr.findKey->Ϯ,Go.Instr.keyThatStays->H7,Go.Instr.lookup->C7,Go.Instr.mapUpdate->Ki,Go.Instr.sameNow->ϵ,Go.Instr.slice->rx,Go.Instr.sliceAt->A9,Go.Instr.sliceBound->ϭ,Go.Instr.sliceBounds->ϟ,Go.Instr.sureAddr->ϩ,Int->Q,List->Z,List.getElem?_eraseIdx->A7,List.length_take->G8,List.replicate_succ->C3,Go.MapEntry->gx,Go.MapEntry.born->kq,Nat->X,Nat.div_add_mod->H6,Nat.mul_eq_zero->H5,Go.Obj->F7,Go.Obj.cells->Ϣ,Go.Obj.cells.injEq->ϙ,Go.Oper->ω,Go.Operand->ε,Option->Δ,Option.bind_eq_some_iff->ζ,Option.bind_some->ϔ,Option.map_eq_some_iff->ψ,Go.Program->Ν,Go.Question.appendCap->ϝ,Go.Result.andThen_ok->Ξ,Go.TypeDesc->ϐ,Go.TypeId->Ψ,Go.TypeInfo->ik,Go.Value->Ο,Go.World->Τ,Go.asIntOf->C6,Go.binOp->sw,Go.eqGuard->mu,Go.execOp->Ω,Bool.false->Ι,Go.getObj->qr,Go.goInt->F8,Go.heap_alloc_new->ϲ,if_neg->Κ,if_pos->Μ,if_true->Υ,Go.isAgg->B6,Go.loadVar->C5,Option.none->U,not_or->ϥ,Option.some->Y,Go.storeCells->Ϻ,Bool.true->W,Go.undef->Ϟ
open Go.IntKind (i64 u64)
namespace Go
abbrev vM:=@ϔ
abbrev xAb:=@Z.drop_append
abbrev xAc:=@Λ.eq_iff_iff
abbrev xAd:=@Z.getElem_set
abbrev xAe:=@Z.nodup_append
abbrev xAf:=@Z.getElem?_eq_none
abbrev xAg:=@Φ.foldl_toList
abbrev xAh:=@Z.getElem?_set_self
abbrev xAi:=@C3
abbrev xAj:=@Z.replicate_zero
abbrev xAk:=@Z.pairwise_map
abbrev xAl:=@Z.length_singleton
abbrev xAm:=@Z.take_append_of_le_length
abbrev xAn:=@Q.tdiv_eq_ediv_of_nonneg
abbrev az:=@Δ.some.injEq
abbrev ay:=@ϔ
abbrev bx:=@Z.getElem_mem
abbrev bF:=@decide_eq_true_eq
abbrev cJ:=@ψ
abbrev a_:=@Prod.mk.injEq
abbrev cf:=@Λ.false_eq_true
abbrev c_:=@ζ
abbrev bM:=@Λ.and_eq_true
abbrev dm:=@X.eq_of_beq_eq_true
abbrev fe:=@Z.getElem?_eq_getElem
abbrev fV:=@Z.getElem?_eq_some_iff
abbrev eH:=@Δ.bind_eq_bind
abbrev fo:=@Z.getElem_of_mem
abbrev cU:=@X.le_refl
abbrev sL:=@Φ.getElem?_eq_getElem
abbrev iF:=@Λ.not_eq_true'
abbrev fY:=@Λ.or_eq_true
abbrev jG:=@Z.getElem?_map
abbrev iB:=@Z.all_eq_true
abbrev qT:=@Z.mem_cons_of_mem
abbrev vG:=@Z.getElem?_cons_zero
abbrev cy:=@if_false
abbrev gJ:=@Z.mem_cons
abbrev lE:=@Z.mem_append
abbrev pO:=@Λ.not_eq_false
abbrev fT:=@Z.mem_map
abbrev Jq:=@Z.take_succ_eq_append_getElem
abbrev EK:=@Φ.getElem?_eq_some_iff
abbrev sN:=@Z.mem_cons_self
abbrev zF:=@Z.mem_of_getElem?
abbrev jJ:=@X.le_trans
abbrev qY:=@Z.length_map
abbrev Dm:=@X.le_of_ble_eq_true
abbrev Jc:=@Z.getElem?_append_left
abbrev zG:=@Z.append_assoc
abbrev vS:=@Z.take_length
abbrev Bv:=@Z.length_append
abbrev Df:=@Z.mem_singleton
abbrev vJ:=@Z.nil_append
abbrev qZ:=@Z.map_cons
abbrev PO:=@Z.getElem?_append_right
abbrev kh:=@beq_iff_eq
abbrev Ja:=@X.mul_le_mul_right
abbrev Dl:=@G8
abbrev We:=@Z.eq_nil_of_length_eq_zero
abbrev Ks:=@Z.take_append_drop
abbrev tU:=@X.lt_or_ge
abbrev Cs:=@Δ.map_some
abbrev Ce:=@Z.append_nil
abbrev GM:=@X.lt_of_lt_of_le
abbrev KJ:=@Z.mem_of_mem_take
abbrev Ft:=@Z.length_cons
abbrev Fs:=@Z.cons_append
abbrev NX:=@Z.pairwise_append
abbrev EL:=@Z.mem_filter
abbrev Gj:=@Z.getElem_map
abbrev Qj:=@Φ.getElem?_toList
abbrev Ya:=@Z.getD_eq_getElem?_getD
abbrev SM:=@Z.mem_iff_getElem
abbrev yAY:=@Q.mul_le_mul_of_nonneg_right
abbrev vI:=@X.blt_eq
abbrev yBa:=@Φ.getElem?_setIfInBounds
abbrev yBb:=@Z.pairwise_iff_getElem
abbrev SG:=@Decidable.not_not
abbrev Rr:=@Z.not_mem_nil
abbrev yBe:=@Φ.getD_eq_getD_getElem?
abbrev Ub:=@Z.getElem_take
abbrev yBg:=@Z.length_eq_zero_iff
abbrev yBh:=@Z.mem_or_eq_of_mem_set
abbrev yBi:=@Z.length_pos_iff
abbrev XY:=@Z.ext_getElem?
abbrev VX:=@Δ.getD_some
abbrev yBl:=@Z.getElem?_cons_succ
abbrev OM:=@Z.all_cons
abbrev yBn:=@X.lt_or_eq_of_le
abbrev yBo:=@decide_eq_false_iff_not
abbrev yBp:=@Φ.length_toList
abbrev Rt:=@Λ.not_true
abbrev yBr:=@Z.mem_of_mem_drop
abbrev RA:=@Λ.and_true
abbrev VP:=@Z.length_set
abbrev JV:=@Q.le_refl
abbrev yBv:=@X.lt_trichotomy
abbrev OX:=@X.zero_add
abbrev Jg:=@bne_iff_ne
abbrev yBy:=@Z.take_of_length_le
abbrev yBz:=@Z.pairwise_cons
abbrev yB0:=@Δ.isSome_iff_exists
abbrev OQ:=@X.add_mul
abbrev yB2:=@Z.length_nil
abbrev XN:=@Z.mapM_cons
abbrev yB4:=@Z.drop_eq_nil_of_le
abbrev yB5:=@Z.map_append
abbrev yB6:=@Z.drop_eq_getElem_cons
abbrev yB7:=@Sigma.mk.injEq
abbrev Jd:=@false_iff
abbrev yB9:=@Z.getElem?_take_of_lt
abbrev Xv:=@Z.map_map
abbrev yBB:=@Z.singleton_append
abbrev Vz:=@X.zero_le
abbrev yBD:=@X.mul_lt_mul_of_pos_right
abbrev yBE:=@Z.getElem?_append
abbrev yBF:=@Z.ext_getElem
abbrev yBG:=@Z.getElem?_set
abbrev yBH:=@Z.flatMap_cons
abbrev IZ:=@congrArg
abbrev yBJ:=@Z.mem_of_find?_eq_some
abbrev yBK:=@Z.mem_append_right
abbrev yBL:=@Λ.and_eq_false_iff
abbrev yBM:=@Z.length_filter_le
abbrev yBN:=@Z.getElem_set_self
abbrev yBO:=@Z.getElem?_of_mem
abbrev yBP:=@Z.mem_append_left
abbrev yBQ:=@X.add_sub_cancel_left
abbrev yBR:=@X.exists_eq_add_of_le
abbrev yBS:=@Q.toNat_natCast
abbrev yBT:=@Z.getElem_set_ne
abbrev yBU:=@Φ.getElem?_append_left
abbrev yBV:=@Z.length_drop
abbrev OW:=@and_true
abbrev yBX:=@Z.getElem?_drop
abbrev yBY:=@Z.mem_iff_getElem?
abbrev yBZ:=@Z.perm_append_comm
abbrev yCa:=@Q.mul_nonneg
abbrev yCb:=@Classical.not_and_iff_not_or_not
abbrev yCc:=@Z.getElem?_set_ne
abbrev Ph:=@or_false
abbrev yCe:=@Go.heap_alloc_old
abbrev yCf:=@Z.getElem_drop
abbrev yCg:=@Z.take_add_one
abbrev yCh:=@X.le_of_eq
abbrev SH:=@true_iff
abbrev yCj:=@Z.sum_cons
abbrev yCk:=@Z.mem_range
abbrev yCl:=@Z.set_cons_zero
abbrev yCm:=@Δ.pure_def
abbrev yCn:=@Δ.map_none
abbrev yCo:=@X.sub_zero
abbrev yCp:=@Z.cons.injEq
abbrev yCq:=@Classical.choose_spec
abbrev yCr:=@X.le_of_lt
abbrev yCs:=@Z.concat_eq_append
abbrev yCt:=@Z.Perm.append_left
abbrev yCu:=@Z.set_getElem_self
abbrev yCv:=@Z.map_take
abbrev yCw:=@Z.any_eq_false
abbrev yCx:=@Classical.not_forall
abbrev yCy:=@X.mul_le_mul
abbrev yCz:=@Decidable.byContradiction
abbrev yC0:=@Z.Perm.refl
abbrev yC1:=@X.lt_succ_self
abbrev yC2:=@beq_self_eq_true
abbrev yC3:=@Q.toNat_of_nonneg
abbrev yC4:=@X.zero_mul
abbrev yC5:=@Φ.getElem?_replicate
abbrev yC6:=@X.sub_self
abbrev yC7:=@X.beq_refl
abbrev yC8:=@Z.getElem_append_left
abbrev yC9:=@X.lt_succ_iff
abbrev yCA:=@X.pow_add
abbrev yCB:=@bne_self_eq_false
abbrev yCC:=@Z.drop_zero
abbrev yCD:=@Z.all_nil
abbrev yCE:=@Q.lt_or_le
abbrev yCF:=@X.add_assoc
abbrev yCG:=@Z.map_drop
abbrev yCH:=@Λ.true_and
abbrev yCI:=@X.sub_mul
end Go
section
namespace Go.Abs
inductive C where|lit (v:Ο)|dg (nn:Λ)(es:Z (Z C))|cQ (cs:Z C)(off:X)|fn (f:Fn)(first cap:Z C)|Qv (es:Z (Ο×C))|glo (g:X)deriving ο
inductive D where|c (x:C)|ptr (b off sz:X)|sl (b off len aC sz:X)|mp (b:X)|fn (f:Fn)(first cap:Z D)|agg (cs:Z D)|aX (vs:Z D)|any deriving ο
inductive Ob where|cells (cs:Z D)|map (es:Z (Ο×D×X))(clock:X)|gone (n:X)deriving ο
def Ob.sz:Ob->X|.cells i=>i.length|.map _ _=>0|.gone n=>n
abbrev au:=Z Ob
inductive VC (Fz:X->Prop)(w:Τ):C->Ο->Prop where|lit (v:Ο):VC Fz w (.lit v) v|dg {nn:Λ}{es:Z (Z C)}(aC:X)(a:Δ C4)(cap:X)(hnn:nn=W->a.isSome=W)(hz:a=U->cap=0)(c:X->X->Ο)(hsz:∀e∈es,e.length=aC)(hcap:es.length<=cap)(hc:∀(i j:X) e d,es[i]? =Y e->e[j]? =Y d->∃blk o,a=Y ⟨blk,o,U⟩/\Fz blk/\w.cell? ⟨blk,o+i*aC+j,U⟩=Y (c i j)/\(c i j).oneCell'=W)(hv:∀(i j:X) e d,es[i]? =Y e->e[j]? =Y d->VC Fz w d (c i j)):VC Fz w (.dg nn es) (.slice a es.length cap)|cQ {cs:Z C}{off:X}(blk o:X)(c:X->Ο)(hF:Fz blk)(hc:∀(j:X) d,cs[j]? =Y d->w.cell? ⟨blk,o+j,U⟩=Y (c j)/\(c j).oneCell'=W)(hv:∀(j:X) d,cs[j]? =Y d->VC Fz w d (c j)):VC Fz w (.cQ cs off) (.pointer (Y ⟨blk,o+off,U⟩))|fn {f:Fn}{first cap:Z C}(vs ws:Φ Ο)(h1:vs.size=first.length)(h2:ws.size=cap.length)(hv:∀(i:X) d v,first[i]? =Y d->vs[i]? =Y v->VC Fz w d v)(hw:∀(i:X) d v,cap[i]? =Y d->ws[i]? =Y v->VC Fz w d v):VC Fz w (.fn f first cap) (.func f vs ws)|Qv {es:Z (Ο×C)}(blk clock:X)(arr:Φ gx)(hF:Fz blk)(hh:w.heap[blk]? =Y (.map arr clock))(hs:arr.size=es.length)(hk:∀(i:X) p e,es[i]? =Y p->arr[i]? =Y e->e.key=p.1)(hv:∀(i:X) p e,es[i]? =Y p->arr[i]? =Y e->VC Fz w p.2 e.val):VC Fz w (.Qv es) (.map (Y blk))|glo (g:X):VC Fz w (.glo g) (.pointer (Y ⟨g,0,U⟩))
theorem Lw{w w':Τ}{blk o:X}(h:w'.heap[blk]? =w.heap[blk]?):w'.cell? ⟨blk,o,U⟩=w.cell? ⟨blk,o,U⟩:=by grind[Go.World.cell?]
theorem VC.mono{Fz Fz':X->Prop}{w w':Τ}(Η:∀c:X,Fz c->Fz' c/\w'.heap[c]? =w.heap[c]?){x:C}{v:Ο}(h:VC Fz w x v):VC Fz' w' x v:=by induction h with|lit v=>exact .lit v|dg aC a cap z Ε c A u R E ih=>refine .dg aC a cap z Ε c A u (λi j e d Ζ Γ=>?_) ih;grind[Lw]|cQ blk o c F R E ih=>exact .cQ blk o c (Η _ F).1 (λj d h=>⟨by grind[Lw],(R j d h).2⟩) ih|fn Α Β Ζ Γ E hw G K=>exact .fn Α Β Ζ Γ G K|Qv blk s O F hh hs hk E ih=>exact .Qv blk s O (Η _ F).1 (by simp_all) hs hk ih|glo g=>exact .glo g
inductive σ (V:au)(M:X->Δ X)(Fz:X->Prop)(w:Τ):D->Ο->Prop where|c {x:C}{v:Ο}(h:VC Fz w x v):σ V M Fz w (.c x) v|any (v:Ο):σ V M Fz w .any v|ptr {b off sz:X}(a:C4)(ob:Ob)(h:V[b]? =Y ob)(hle:sz≤ob.sz)(hv:ob.sz=sz->∃c,M b=Y c/\a=⟨c,off,U⟩):σ V M Fz w (.ptr b off sz) (.pointer (Y a))|sl {b off len aC sz:X}(a:Δ C4)(n cap:X)(hnn:len≠0->a≠U)(ob:Ob)(h:V[b]? =Y ob)(hle:sz≤ob.sz)(hv:ob.sz=sz->(a=U/\n=0/\cap=0/\len=0/\off=0/\sz=0)\/∃c o arr T,M b=Y c/\a=Y ⟨c,o,U⟩/\n=len/\(len≤cap/\sz≤off+cap*aC)/\(o=off\/cap=0)/\w.heap[c]? =Y (.cells arr T (0,0))/\o+cap*aC≤arr.size/\off+len*aC≤sz):σ V M Fz w (.sl b off len aC sz) (.slice a n cap)|mp {b:X}(c:X)(ob:Ob)(h:V[b]? =Y ob)(hv:ob.sz=0->M b=Y c):σ V M Fz w (.mp b) (.map (Y c))|fn {f:Fn}{first cap:Z D}(vs ws:Φ Ο)(h1:vs.size=first.length)(h2:ws.size=cap.length)(hv:∀(i:X) d v,first[i]? =Y d->vs[i]? =Y v->σ V M Fz w d v)(hw:∀(i:X) d v,cap[i]? =Y d->ws[i]? =Y v->σ V M Fz w d v):σ V M Fz w (.fn f first cap) (.func f vs ws)|agg {cs:Z D}(vs:Φ Ο)(h1:vs.size=cs.length)(hv:∀(i:X) d v,cs[i]? =Y d->vs[i]? =Y v->σ V M Fz w d v):σ V M Fz w (.agg cs) (.agg vs)|aX {cs:Z D}(vs:Φ Ο)(h1:vs.size=cs.length)(hv:∀(i:X) d v,cs[i]? =Y d->vs[i]? =Y v->σ V M Fz w d v):σ V M Fz w (.aX cs) (.tuple vs)
def jW(arr:Φ gx)(b:X):Prop:=(arr.toList.map kq).Nodup/\∀e∈arr.toList,e.born<b
theorem jW.nil(i:X):jW #[] i:=⟨by simp,by simp⟩
def jW.push{arr:Φ gx}{i:X}(h:jW arr i)(k v:Ο):jW (arr.push { key:=k,val:=v,born:=i }) (i+1):=by refine⟨?_,λe he=>?_⟩;{rw[FS,yB5,xAe];refine⟨h.1,by simp,λa j b o=>?_⟩;obtain⟨e,he,rfl⟩:=fT.1 j;have:=h.2 e he;grind};rw[FS,lE]at he;rcases he with he|he;{have:=h.2 e he;omega};simp_all
theorem jW.same{arr i:Φ gx}{j:X}(h:jW arr j)(e:i.toList.map kq=arr.toList.map kq):jW i j:=by refine⟨by rw[e];exact h.1,λx s=>?_⟩;have:x.born∈arr.toList.map kq:=by{grind};obtain⟨y,o,q⟩:=fT.1 this;rw[<-q];exact h.2 y o
def jW.sub{arr i:Φ gx}{j:X}(h:jW arr j)(e:i.toList.Sublist arr.toList):jW i j:=⟨h.1.sublist (e.map _),λx o=>h.2 x (e.subset o)⟩
def cw(V:au)(M:X->Δ X)(Fz:X->Prop)(w:Τ):Ob->F7->Prop|.cells f,o=>∃b T,o=.cells b T (0,0)/\f.length<=b.size/\∀(i:X) d v,f[i]? =Y d->b[i]? =Y v->σ V M Fz w d v/\v.oneCell'=W|.map es _,o=>∃b,(∃g,o=.map b g/\jW b g)/\b.size=es.length/\∀(i:X) k d n e,es[i]? =Y (k,d,n)->b[i]? =Y e->e.key=k/\True/\σ V M Fz w d e.val|.gone _,_=>False
class Gl where
 ok:(X->Prop)->Τ->Prop
 mono:∀{Fz Fz':X->Prop}{w w':Τ},(∀c:X,Fz c->Fz' c/\w'.heap[c]? =w.heap[c]?)->ok Fz w->ok Fz' w'
 tab:X->Z Ο:=λ_=>[]
 tabOk:∀{Fz:X->Prop}{w:Τ}(g j:X)(v:Ο),ok Fz w->(tab g)[j]? =Y v->Fz g/\w.cell? ⟨g,j,U⟩=Y v/\v.oneCell'=W:=by intro _ _ g j v _ h;simp at h
structure Rel [Gl](V:au)(M:X->Δ X)(Fz:X->Prop)(w:Τ):Prop where
 blk:∀(b c:X),M b=Y c->¬Fz c/\∃ob o,V[b]? =Y ob/\w.heap[c]? =Y o/\cw V M Fz w ob o
 inj:∀b b' c,M b=Y c->M b'=Y c->b=b'
 fz:∀c,Fz c->c<w.heap.size
 gl:Gl.ok Fz w
structure bN (V:au)(M:X->Δ X)(Fz:X->Prop)(w:Τ)(V':au)(M':X->Δ X)(Fz':X->Prop)(w':Τ):Prop where
 size:w.heap.size<=w'.heap.size
 frame:∀c:X,c<w.heap.size->(∀b,M b≠Y c)->w'.heap[c]? =w.heap[c]?
 lH:∀b c,M' b=Y c->(∃b0,M b0=Y c)\/w.heap.size<=c
 fz:∀c:X,Fz c->Fz' c/\w'.heap[c]? =w.heap[c]?
 nW:∀c,Fz' c->Fz c\/(∃b,M b=Y c)\/w.heap.size<=c
 qU:∀(c:X) arr T fr,w.heap[c]? =Y (.cells arr T fr)->∃arr',w'.heap[c]? =Y (.cells arr' T fr)/\arr'.size=arr.size
 keep:∀(b:X) ob,V[b]? =Y ob->∃ob',V'[b]? =Y ob'/\ob.sz<=ob'.sz/\(ob'.sz=ob.sz->M' b=M b)
 out:w'.os=w.os/\w'.tape=w.tape/\w'.output=w.output
section
variable{V V' V'':au}{M M' M'':X->Δ X}{Fz Fz' Fz'':X->Prop}{w w' w'':Τ}
theorem σ.mono(E:bN V M Fz w V' M' Fz' w'){d:D}{v:Ο}(h:σ V M Fz w d v):σ V' M' Fz' w' d v:=by induction h with|c h=>exact .c (h.mono E.fz)|any v=>exact .any v|ptr a Η h A j=>obtain⟨i,u,R,hk⟩:=E.keep _ _ h;refine .ptr a i u (by omega) (λΖ=>?_);grind|sl a n cap F Η h A j=>obtain⟨i,u,R,hk⟩:=E.keep _ _ h;refine .sl a n cap F i u (by omega) (λΖ=>?_);rcases j (by omega)with⟨s,Γ,h3,h4,h5,h6⟩|⟨c,o,Ε,T,hM,Α,Β,hl,ho,hh,hb,hz⟩;{simp_all};obtain⟨x,G,aa⟩:=E.qU _ _ _ _ hh;exact .inr ⟨c,o,x,T,by grind,Α,Β,hl,ho,G,by omega,hz⟩|mp c Η h j=>obtain⟨i,u,R,hk⟩:=E.keep _ _ h;exact .mp c i u (λΖ=>by simp_all)|fn z ws s Γ j hw K O=>exact .fn z ws s Γ K O|agg z s j ih=>exact .agg z s ih|aX z s j ih=>exact .aX z s ih
variable[Gl] in
theorem bN.refl(R:Rel V M Fz w):bN V M Fz w V M Fz w:={
 size:=cU _
 frame:=λ_ _ _=>rfl
 lH:=λb c h=>.inl ⟨b,h⟩
 fz:=λc h=>⟨h,rfl⟩
 nW:=λc h=>.inl h
 qU:=λc i T o h=>⟨i,h,rfl⟩
 keep:=λb j h=>⟨j,h,cU _,λ_=>rfl⟩
 out:=⟨rfl,rfl,rfl⟩ }
def bN.trans(A:bN V M Fz w V' M' Fz' w')(B:bN V' M' Fz' w' V'' M'' Fz'' w'')(Η:V.length<=V'.length):bN V M Fz w V'' M'' Fz'' w'':={size:=jJ A.size B.size,frame:=λc u E=>by rw[<-A.frame c u E];refine B.frame c (GM u A.size) (λb F=>?_);rcases A.lH b c F with⟨o,i⟩|i;{simp_all};omega,lH:=λb c h=>by rcases B.lH b c h with⟨o,i⟩|i;{exact A.lH o c i};exact .inr (jJ A.size i),fz:=λc h=>by obtain⟨j,x⟩:=A.fz c h;obtain⟨R,Ζ⟩:=B.fz c j;simp_all,nW:=λc h=>by rcases B.nW c h with h|⟨b,h⟩|h;{exact A.nW c h};{rcases A.lH b c h with⟨o,i⟩|i;{grind};omega};exact .inr (.inr (jJ A.size h)),qU:=λc s T z h=>by obtain⟨G,j,Γ⟩:=A.qU c s T z h;obtain⟨Ε,x,Α⟩:=B.qU c G T z j;simp_all,keep:=λb K h=>by obtain⟨O,j,s1,Β⟩:=A.keep b K h;obtain⟨o2,x,s2,k2⟩:=B.keep b O j;grind,out:=⟨B.out.1.trans A.out.1,B.out.2.1.trans A.out.2.1,B.out.2.2.trans A.out.2.2⟩ }
theorem cw.mono(E:bN V M Fz w V' M' Fz' w'){ob:Ob}{o:F7}(h:cw V M Fz w ob o):cw V' M' Fz' w' ob o:=by cases ob with|cells G=>obtain⟨j,T,z,A,s⟩:=h;exact⟨j,T,z,A,λi d v u x=>⟨(s i d v u x).1.mono E,(s i d v u x).2⟩⟩|map K F=>obtain⟨j,z,A,s⟩:=h;exact⟨j,z,A,λi k d n e u x=>let⟨a,b,c⟩:=s i k d n e u x;⟨a,b,c.mono E⟩⟩|gone n=>exact h.elim
end
end Go.Abs
end
section
namespace Go.Abs
variable[Gl]
def gn{α:Type}(P:Ν):Sem α->Δ α|.pure a=>Y a|.program k=>gn P (k P)|_=>U
theorem Ug{α:Type}{P:Ν}{s:Sem α}{a:α}(w:Τ)(h:gn P s=Y a):s.run P w=.ok a w:=by induction s with|pure b=>simp only[gn,az]at h;simp_all|program k ih=>simp only[gn]at h;exact ih P h|_=>grind[gn]
inductive aU where|t (n:X)|k (d:D)deriving ο
def eC:Ο->D|.agg b=>.agg (b.toList.map λv=>.c (.lit v))|.tuple b=>.aX (b.toList.map λv=>.c (.lit v))|v=>.c (.lit v)
def aU.ev(env:Z D):aU->D|.t n=>(env[n]?).getD (.aX [])|.k d=>d
def cu:ε->Δ aU|.tmp t=>Y (.t t)|.const v=>Y (.k (eC v))|.func f=>Y (.k (.c (.fn (.func f) [] [])))|.global g=>Y (.k (.c (.glo g)))
def jq:D->Δ Ο|.c (.lit v)=>Y v|_=>U
def D.dz:D->Δ Ο|.c (.lit v)=>Y v|.agg ds=>(ds.mapM jq).map λl=>.agg l.toArray|_=>U
def D.scalar:D->Λ|.c (.lit v)=>v.oneCell'|.c _| .ptr ..| .sl ..| .mp _| .fn ..=>W|_=>Ι
def D.cells?:D->Δ (Z D)|.agg i=>if i.all D.scalar then Y i else U|d=>if d.scalar then Y [d]else U
inductive lY where|mJ (x:aU)|pick (c a b:aU)|gen (op:Op)(ty:Ψ)|box (x:aU)|alloc (z:Z D)|build (z:Z D)(parts:Z (X×X×aU))|km (aC len:X)(z:Z D)(parts:Z (X×X×aU))|load (n:Δ X)(a:aU)|store (n:X)(a x:aU)|oT (x:aU)|jQ (k:X)(neg:Λ)(x:aU)|KI (off:X)(x:aU)|idx (aC:X)(arr:Δ X)(x i:aU)|SN (aC:X)(x:aU)(lo hi:Δ aU)|len (x:aU)|lenm (x:aU)|mk (aC bytes:X)(z:Z D)(l c:aU)|wh|lookup (kind:ϐ)(zero:D)(m k:aU)(ok:Λ)|uU (kind:ϐ)(m k x:aU)|extract (x:aU)(i:X)|GX (f:Fn)(first cap:Z aU)|part (off:X)(n:Δ X)(x:aU)|FG (aC len:X)(n:Δ X)(x i:aU)|append (aC bytes:X)(s x:aU)|copy (aC:X)(d s:aU)|del (kind:ϐ)(m k:aU)|Qe (aC:X)(x lo hi mx:aU)|If (n:X)(x:aU)|clr (aC:X)(z:Z D)(x:aU)|call (f:aU)(args:Z aU)deriving ο
def NH(xs:Φ ε):Δ (Z aU):=xs.toList.mapM cu
def Jk:Δ ε->Δ (Δ aU)|U=>Y U|Y x=>(cu x).map Y
def Ig(P:Ν)(t:Ψ):Δ (Δ X):=match P.info? t,P.underlying t with|Y i,Y (.struct _)=>Y (Y i.size)|Y i,Y (.array _ _)=>Y (Y i.size)|Y _,Y _=>Y U|_,_=>U
def zeroOf(P:Ν)(t:Ψ):Δ D:=match P.info? t with|Y i=>i.zero.map eC|U=>U
def Fo:D->D|.c (.lit (.slice U 0 0))=>.c (.dg Ι [])|d=>d
def Wq(P:Ν)(t:Ψ):Δ (Z D):=(zeroOf P t).bind D.cells?
def bS(P:Ν)(t:Ψ):Δ X:=(P.info? t).map (·.size)
def Nh(P:Ν)(b:Φ sd):Δ (Z (X×X)):=b.toList.mapM λf=>(bS P f.type).map λn=>(f.offset,n)
def BN:ϐ->Δ X|.pointer _=>Y 0|.map _ _=>Y 1|.func ..=>Y 2|.slice _=>Y 3|_=>U
def tf(k:X):ε->Λ|.const (.pointer U)=>k==0|.const (.map U)=>k==1|.const .nilFunc=>k==2|.const (.slice U 0 0)=>k==3|_=>Ι
def yN(k:X)(neg:Λ)(x y:ε):Δ lY:=if tf k y then(cu x).map (.jQ k neg)else if tf k x then(cu y).map (.jQ k neg)else U
def isNil:X->D->Δ Λ|0,.ptr ..=>Y Ι|0,.c (.cQ ..)=>Y Ι|0,.c (.lit (.pointer U))=>Y W|1,.mp _=>Y Ι|1,.c (.Qv _)=>Y Ι|1,.c (.lit (.map U))=>Y W|2,.fn ..=>Y Ι|2,.c (.fn ..)=>Y Ι|2,.c (.lit .nilFunc)=>Y W|3,.sl _ _ (_+1) _ _=>Y Ι|3,.c (.dg W _)=>Y Ι|3,.c (.lit (.slice U 0 0))=>Y W|_,_=>U
def zfp:ϐ->Λ|.int _=>W|_=>Ι
def mM(P:Ν)(op:Op)(ty:Ψ):Δ lY:=
 match op with
 |.move x| .assign x=>(cu x).map .mJ
 |.pick c a b=>do Y (.pick (<-cu c) (<-cu a) (<-cu b))
 |.alloc t=>(Wq P t).map .alloc
 |.box _ x=>(cu x).map .box
 |.build t d=>do
  let z <-Wq P t
  match <-P.underlying t with
  |.struct h=>do
   let ps <-Nh P h
   Y (.build z (<-d.toList.mapM λ(i,x)=>do let(o,n) <-ps[i]?;Y (o,n,<-cu x)))
  |.array _ e=>do
   let n <-bS P e
   Y (.build z (<-d.toList.mapM λ(i,x)=>do Y (i*n,n,<-cu x)))
  |_=>U
 |.buildSlice t len d=>do
  match <-P.underlying t with
  |.slice e=>do
   let n <-bS P e
   let z <-Wq P e
   if n=0\/z.length≠n\/len*n>2^20 then U else
   Y (.km n len z (<-d.toList.mapM λ(i,x)=>do Y (i*n,n,<-cu x)))
  |_=>U
 |.load t a=>do Y (.load (<-Ig P t) (<-cu a))
 |.store t a x=>do Y (.store (<-bS P t) (<-cu a) (<-cu x))
 |.nilCheck x=>(cu x).map .oT
 |.binOp o t x y _=>
  match(P.underlying t).bind BN with
  |Y k=>
   match o with
   |.eql=>yN k Ι x y
   |.neq=>yN k W x y
   |_=>U
  |U=>Y (.gen op ty)
 |.unOp ..=>Y (.gen op ty)
 |.convert ..=>Y (.gen op ty)
 |.makeFunc f first cap=>do Y (.GX f (<-NH first) (<-NH cap))
 |.makeMap _ U=>Y .wh
 |.makeSlice t l c=>do
  match <-P.underlying t with
  |.slice e=>do
   let n <-bS P e
   let z <-Wq P e
   let i <-P.info? e
   if n=0\/z.length≠n then U else Y (.mk n i.bytes (z.map Fo) (<-cu l) (<-cu c))
  |_=>U
 |.slice t x p q U=>do
  match <-P.underlying t with
  |.slice e=>do Y (.SN (<-bS P e) (<-cu x) (<-Jk p) (<-Jk q))
  |.string=>Y (.gen op ty)
  |.array m e=>match p, q with
   |U, U=>do
    let k <-bS P e
    let r <-cu x
    if k=1 then Y (.If m r)else U
   |_,_=>U
  |_=>U
 |.slice t x (Y p) (Y q) (Y u)=>do
  match <-P.underlying t with
  |.slice e=>do Y (.Qe (<-bS P e) (<-cu x) (<-cu p) (<-cu q) (<-cu u))
  |_=>U
 |.fieldAddr s x f=>do
  match <-P.underlying s with
  |.struct h=>do
   let fd <-h[f]?
   let n <-bS P fd.type
   if n=0 then U else Y (.KI fd.offset (<-cu x))
  |_=>U
 |.field t x f=>do
  match <-P.underlying t with
  |.struct h=>do
   let fd <-h[f]?
   Y (.part fd.offset (<-Ig P fd.type) (<-cu x))
  |_=>U
 |.indexAddr t x i=>do
  match <-P.underlying t with
  |.slice e=>do
   let n <-bS P e
   if n=0 then U else Y (.idx n U (<-cu x) (<-cu i))
  |.array len e=>do
   let n <-bS P e
   if n=0 then U else Y (.idx n (Y len) (<-cu x) (<-cu i))
  |_=>U
 |.index t x i=>do
  match <-P.underlying t with
  |.array len e=>do Y (.FG (<-bS P e) len (<-Ig P e) (<-cu x) (<-cu i))
  |.string=>Y (.gen op ty)
  |_=>U
 |.lookup t m k ok=>do
  match <-P.underlying t with
  |.map j e=>do
   let g <-P.underlying j
   if zfp g then Y (.lookup g (<-zeroOf P e) (<-cu m) (<-cu k) ok)else U
  |_=>U
 |.mapUpdate t m k x| .insert t m k x=>do
  match <-P.underlying t with
  |.map j _=>do
   let g <-P.underlying j
   if zfp g then Y (.uU g (<-cu m) (<-cu k) (<-cu x))else U
  |_=>U
 |.extract x i=>do Y (.extract (<-cu x) i)
 |.call { callee:=.value f,args,.. }=>do Y (.call (<-cu f) (<-NH args))
 |.call { callee:= .builtin .len, args, argTypes }=>do
  let t <-argTypes[0]?
  let x <-args[0]?
  if args.size≠1 then U else
  match <-P.underlying t with
  |.slice _=>(cu x).map .len
  |.map _ _=>(cu x).map .lenm
  |.array n _=>Y (.mJ (.k (.c (.lit (.int .i64 n)))))
  |.string=>Y (.gen op ty)
  |_=>U
 |.call { callee:= .builtin .append, args, argTypes }=>do
  let t <-argTypes[0]?
  let t1 <-argTypes[1]?
  let s <-args[0]?
  let x <-args[1]?
  match <-P.underlying t,<-P.underlying t1 with
  |.slice e, .slice _=>do
   let n <-bS P e
   let i <-P.info? e
   let z <-Wq P e
   if n=0\/z.length≠n then U else Y (.append n i.bytes (<-cu s) (<-cu x))
  |_,_=>U
 |.call { callee:= .builtin .copy, args, argTypes }=>do
  let t <-argTypes[0]?
  let s <-args[0]?
  let x <-args[1]?
  match <-P.underlying t with
  |.slice e=>do
   let n <-bS P e
   if n=0 then U else Y (.copy n (<-cu s) (<-cu x))
  |_=>U
 |.call { callee:= .builtin .delete, args, argTypes }=>do
  let t <-argTypes[0]?
  let m <-args[0]?
  let k <-args[1]?
  match <-P.underlying t with
  |.map j _=>do
   let g <-P.underlying j
   if zfp g then Y (.del g (<-cu m) (<-cu k))else U
  |_=>U
 |.call { callee:= .builtin .clear, args, argTypes }=>do
  let t <-argTypes[0]?
  let x <-args[0]?
  match <-P.underlying t with
  |.slice e=>do
   let n <-bS P e
   let z <-Wq P e
   if n=0\/z.length≠n then U else Y (.clr n z (<-cu x))
  |_=>U
 |.call { callee:=.builtin .min,.. }| .call { callee:=.builtin .max,.. }| .call { callee:=.builtin .complex,.. }
 |.call { callee:=.builtin .real,.. }| .call { callee:=.builtin .imag,.. }=>Y (.gen op ty)
 |_=>U
def DC:lY->Λ|.call ..=>W|_=>Ι
def isSel:lY->Λ|.gen (.select ..) _=>W|_=>Ι
def cat:lY->X|.mJ ..| .pick ..| .gen ..| .build ..| .oT ..| .jQ ..| .KI ..| .idx ..| .SN ..| .Qe ..| .If ..| .len ..| .extract ..| .GX ..| .part ..| .FG ..=>0|.load ..=>1|.alloc ..| .box ..| .km ..| .mk ..| .wh=>2|_=>3
def comp(P:Ν)(op:Op)(ty:Ψ):Δ lY:=match op with|.call { callee:= .value f, args, .. }=>(match cu f,NH args with|Y of,Y os=>Y (.call of os)|_,_=>U)|_=>match mM P op ty with|Y b=>if DC b||isSel b then U else Y b|U=>U
def oh:X->Z (Ο×D×X)->Z (Ο×D×X)|_,[]=>[]|i,(k,d,_)::l=>(k,d,i)::oh (i+1) l
abbrev yE:=FuncId->Z D->au->Δ (D×au×Z X)
def un:D->Δ Q|.c (.lit (.int _ n))=>Y n|_=>U
def jf:D->Δ Λ|.c (.lit (.bool b))=>Y b|_=>U
def pC(P:Ν)(op:Op)(ty:Ψ)(env:Z D):Δ D:=if op.operands.toList.all (λx=>(((cu x).map (aU.ev env)).bind D.dz).isSome)then match gn P (Ω (λx=>((((cu x).map (aU.ev env)).bind D.dz).getD Ϟ)) { dst:=U,op:=op,type:=ty,pos:="",after:=#[],guard:=U })with|Y (.value v)=>Y (eC v)|_=>U else U
def put(cs:Z D)(off:X)(xs:Z D):Z D:=cs.take off++xs++cs.drop (off+xs.length)
def rQ(env:Z D):Z D->Z (X×X×aU)->Δ (Z D)
 |b,[]=>Y b
 |b, (o, n, x)::rest=>do
  let xs <-(x.ev env).cells?
  if xs.length≠n\/o+n>b.length then U else rQ env (put b o xs) rest
def kE(V:au)(b sz:X):Δ (Z D):=match V[b]? with|Y (.cells d)=>if d.length=sz then Y d else U|_=>U
def yf(n:Δ X)(cs:Z D)(off:X):Δ D:=match n with|U=>cs[off]?|Y n=>if off+n<=cs.length then Y (.agg ((cs.drop off).take n))else U
def sF(n:X)(z:Z D):Z D:=(Z.replicate n z).flatten
def IP(V:au):D->Δ X|.c (.lit (.slice U 0 0))=>Y 0|.c (.dg _ es)=>Y es.length|.sl b _ len _ sz=>if(kE V b sz).isSome then Y len else U|_=>U
def Zo(V:au)(aC:X)(n:X):D->Δ (Z D)
 |.c (.lit (.slice U 0 0))=>if n=0 then Y []else U
 |.c (.dg _ d)=>if n<=d.length/\d.all (λe=>e.length=aC)then Y ((d.take n).flatten.map .c)else U
 |.sl b off len d sz=>do
  let f <-kE V b sz
  if d=aC/\n<=len/\off+len*aC<=sz then Y ((f.drop off).take (n*aC))else U
 |_=>U
def ui(kind:ϐ)(k:Ο):Z (Ο×D×X)->X->Δ (Δ (X×D))|[],_=>Y U|(b, d,_)::es, i=>match ϵ kind k b with|Y W=>Y (Y (i,d))|Y Ι=>ui kind k es (i+1)|U=>U
def KW(V:au):D->Δ (Z (Ο×D×X))|.c (.lit (.map U))=>Y []|.c (.Qv es)=>Y (es.map λp=>(p.1,.c p.2,0))|.mp b=>(match V[b]? with|Y (.map es _)=>Y es|_=>U)|_=>U
def SS(zero:D):Δ (X×D)->D×Λ|Y (_,d)=>(d,W)|U=>(zero,Ι)
def EO(i:Q)(n:X):Δ X:=if 0<=i/\i<n then Y i.toNat else U
def SJ(i:Q)(n:X):Δ X:=if 0<=i/\i<=n then Y i.toNat else U
def oY(env:Z D)(b d:X):Δ aU->Δ X|U=>Y b|Y x=>(un (x.ev env)).bind λi=>SJ i d
def FM(n bytes:X):Λ:=(n*bytes<=2^40&&n<=2^40)&&bytes<=2^20
def bC(P:Ν)(orc:yE)(o:lY)(env:Z D)(V:au):Δ (D×au×Z X):=
 match o with
 |.mJ x=>Y (x.ev env,V,[])
 |.pick c a b=>(jf (c.ev env)).map λt=>(if t then a.ev env else b.ev env,V,[])
 |.gen op ty=>(pC P op ty env).map λd=>(d,V,[])
 |.box x=>((x.ev env).cells?).map λp=>(.ptr V.length 0 p.length,V++[.cells p],[])
 |.alloc z=>Y (.ptr V.length 0 z.length,V++[.cells z],[])
 |.build z F=>(rQ env z F).map λp=>(.agg p,V,[])
 |.km aC len z F=>(rQ env (sF len z) F).map λp=>(.sl V.length 0 len aC p.length,V++[.cells p],[])
 |.load n a=>
  match a.ev env with
  |.ptr b off sz=>do Y (<-yf n (<-kE V b sz) off,V,[])
  |.c (.cQ p off)=>do Y (<-yf n (p.map .c) off,V,[])
  |_=>U
 |.store n a x=>
  match a.ev env with
  |.ptr b off sz=>do
   let p <-kE V b sz
   let xs <-(x.ev env).cells?
   if xs.length=n/\off+n<=sz then Y (.aX [],V.set b (.cells (put p off xs)),[b])else U
  |_=>U
 |.oT x=>
  match x.ev env with
  |.ptr b off sz=>Y (.ptr b off sz,V,[])
  |.c (.cQ p off)=>Y (.c (.cQ p off),V,[])
  |.c (.fn (.func f) first cap)=>Y (.c (.fn (.func f) first cap),V,[])
  |.fn (.func f) first cap=>Y (.fn (.func f) first cap,V,[])
  |_=>U
 |.jQ k G x=>(isNil k (x.ev env)).map λb=>(.c (.lit (.bool (if G then !b else b))),V,[])
 |.KI off x=>
  match x.ev env with
  |.ptr b o sz=>Y (.ptr b (o+off) sz,V,[])
  |.c (.cQ p o)=>Y (.c (.cQ p (o+off)),V,[])
  |_=>U
 |.idx aC U x i=>do
  let i <-un (i.ev env)
  match x.ev env with
  |.sl b off len j sz=>do
   let _ <-kE V b sz
   let k <-EO i len
   if j=aC then Y (.ptr b (off+k*aC) sz,V,[])else U
  |.c (.dg _ j)=>do
   let k <-EO i j.length
   let e <-j[k]?
   if e.length=aC then Y (.c (.cQ e 0),V,[])else U
  |_=>U
 |.idx aC (Y len) x i=>do
  let i <-un (i.ev env)
  let k <-EO i len
  match x.ev env with
  |.ptr b off sz=>Y (.ptr b (off+k*aC) sz,V,[])
  |.c (.cQ p off)=>Y (.c (.cQ p (off+k*aC)),V,[])
  |.c (.glo g)=>match Gl.tab g with
   |[]=>U
   |v::N=>Y (.c (.cQ ((v::N).map .lit) (k*aC)),V,[])
  |_=>U
 |.SN aC x E y=>
  match x.ev env with
  |.c (.lit (.slice U 0 0))=>do
   let h <-oY env 0 0 y
   let _ <-oY env 0 h E
   Y (.c (.lit (.slice U 0 0)),V,[])
  |.c (.dg nn j)=>do
   let h <-oY env j.length j.length y
   let l <-oY env 0 h E
   if j.all (λe=>e.length=aC)then Y (.c (.dg nn ((j.take h).drop l)),V,[])else U
  |.sl b off len j sz=>do
   let _ <-kE V b sz
   let h <-(oY env len len y).orElse λ_=>oY env len ((sz-off) / j) y
   let l <-oY env 0 h E
   if j=aC then Y (.sl b (off+l*aC) (h-l) aC sz,V,[])else U
  |_=>U
 |.len x=>(IP V (x.ev env)).map λ(n:X)=>(.c (.lit (.int .i64 (Q.ofNat n))),V,[])
 |.lenm x=>(KW V (x.ev env)).map λj=>(.c (.lit (.int .i64 (Q.ofNat j.length))),V,[])
 |.mk aC q z l c=>do
  let l <-un (l.ev env)
  let c <-un (c.ev env)
  if 0<=l/\l<=c/\FM c.toNat q then Y (.sl V.length 0 l.toNat aC (l.toNat*aC),V++[.cells (sF l.toNat z)],[])else U
 |.wh=>Y (.mp V.length,V++[.map [] 0],[])
 |.lookup u zero m k ok=>do
  let A <-jq (k.ev env)
  let j <-KW V (m.ev env)
  let r <-ui u A j 0
  Y (if ok then .aX [(SS zero r).1,.c (.lit (.bool (SS zero r).2))]else(SS zero r).1,V,[])
 |.uU u m k x=>do
  let A <-jq (k.ev env)
  match m.ev env with
  |.mp b=>match V[b]? with
   |Y (.map j clock)=>do
    match <-ui u A j 0 with
    |Y (i,_)=>Y (.aX [],V.set b (.map (j.modify i λ(k,_,n)=>(k,x.ev env,n)) clock),[b])
    |U=>Y (.aX [],V.set b (.map (j++[(A,x.ev env,clock)]) (clock+1)),[b])
   |_=>U
  |_=>U
 |.del u m k=>do
  let A <-jq (k.ev env)
  match m.ev env with
  |.mp b=>match V[b]? with
   |Y (.map j clock)=>do
    match <-ui u A j 0 with
    |Y (i,_)=>Y (.aX [],V.set b (.map (oh 0 (j.eraseIdx i)) (clock-1)),[b])
    |U=>Y (.aX [],V.set b (.map j clock),[b])
   |_=>U
  |_=>U
 |.extract x i=>
  match x.ev env with
  |.aX ds=>(ds[i]?).map λd=>(d,V,[])
  |_=>U
 |.GX f first cap=>Y (.fn f (first.map (aU.ev env)) (cap.map (aU.ev env)),V,[])
 |.part off n x=>
  match x.ev env with
  |.agg p=>(yf n p off).map λd=>(d,V,[])
  |_=>U
 |.FG aC len n x i=>do
  let i <-un (i.ev env)
  let k <-EO i len
  match x.ev env with
  |.agg p=>(yf n p (k*aC)).map λd=>(d,V,[])
  |_=>U
 |.append aC q s x=>do
  let K:=x.ev env
  let n <-IP V K
  let new <-Zo V aC n K
  match s.ev env with
  |.c (.lit (.slice U 0 0))=>if FM n q then Y (.sl V.length 0 n aC (n*aC),V++[.cells new],[])else U
  |.sl b off len j sz=>do
   let p <-kE V b sz
   if j=aC/\off=0/\len*aC=sz/\FM (len+n) q then
    if n=0 then Y (.sl b 0 len aC sz,V,[b])
    else Y (.sl b 0 (len+n) aC (sz+n*aC),V.set b (.cells (p++new)),[b])
   else if j=aC/\off=0/\(len+n)*aC<=sz/\FM (len+n) q then
    if n=0 then Y (.sl b 0 len aC sz,V,[b])
    else Y (.sl b 0 (len+n) aC sz,V.set b (.cells (put p (len*aC) new)),[b])
   else U
  |_=>U
 |.If m x=>
  match x.ev env with
  |.c (.cQ p off)=>if off+m<=p.length then Y (.c (.dg Ι (((p.drop off).take m).map λc=>[c])),V,[])else U
  |_=>U
 |.Qe aC x E y O=>
  match x.ev env with
  |.sl b _ len j sz=>do
   let _ <-kE V b sz
   let m <-(un (O.ev env)).bind λi=>SJ i len
   let h <-(un (y.ev env)).bind λi=>SJ i len
   let _ <-(un (E.ev env)).bind λi=>SJ i h
   if m=len/\j=aC then Y (.any,V,[])else U
  |_=>U
 |.clr aC z x=>
  match x.ev env with
  |.sl b off len j sz=>do
   let p <-kE V b sz
   if j=aC/\off+len*aC<=sz/\z.length=aC then Y (.aX [],V.set b (.cells (put p off (sF len z))),[b])else U
  |_=>U
 |.copy aC d s=>do
  let L:=s.ev env
  match d.ev env with
  |.sl b off len j sz=>do
   let p <-kE V b sz
   let n <-(IP V L).map λm=>min m len
   let new <-Zo V aC n L
   if j=aC/\off+len*aC<=sz then Y (.c (.lit (.int .i64 n)),V.set b (.cells (put p off new)),[b])else U
  |_=>U
 |.call f args=>
  match f.ev env with
  |.c (.fn (.func g) first cap)=>orc g (first.map .c++args.map (aU.ev env)++cap.map .c) V
  |.fn (.func g) first cap=>orc g (first++args.map (aU.ev env)++cap) V
  |_=>U
section
variable{V V':au}{M M':X->Δ X}{Fz Fz':X->Prop}{w w':Τ}
def Rel.lt(R:Rel V M Fz w){b c:X}(h:M b=Y c):b<V.length/\c<w.heap.size:=by obtain⟨_,i,o,j,s,_⟩:=R.blk b c h;grind
def VC.heap(i:w'.heap=w.heap){x:C}{v:Ο}(h:VC Fz w x v):VC Fz w' x v:=h.mono λc j=>⟨j,by rw[i]⟩
def bN.heap(R:Rel V M Fz w)(j:w'.heap=w.heap)(o:w'.os=w.os/\w'.tape=w.tape/\w'.output=w.output):bN V M Fz w V M Fz w':={size:=by simp_all,frame:=λ_ _ _=>by rw[j],lH:=λb c h=>.inl ⟨b,h⟩,fz:=λc h=>⟨h,by rw[j]⟩,nW:=λc h=>.inl h,qU:=λc i T u h=>⟨i,by simp_all,rfl⟩,keep:=λb s h=>⟨s,h,cU _,λ_=>rfl⟩,out:=o }
def Rel.heap(R:Rel V M Fz w)(i:w'.heap=w.heap)(j:w'.os=w.os/\w'.tape=w.tape/\w'.output=w.output):Rel V M Fz w':={blk:=λb c h=>by obtain⟨s,ob,o,u,z,x⟩:=R.blk b c h;exact⟨s,ob,o,u,by simp_all,x.mono (bN.heap R i j)⟩,inj:=R.inj,fz:=λc h=>by rw[i];exact R.fz c h,gl:=Gl.mono (bN.heap R i j).fz R.gl }
def yK(M:X->Δ X)(b c:X):X->Δ X:=λx=>if x=b then Y c else M x
theorem bN.alloc(i:∀c,Fz c->c<w.heap.size)(ob:Ob)(o:F7):bN V M Fz w (V++[ob]) (yK M V.length w.heap.size) Fz (w.alloc o):={size:=by simp,frame:=λc u _=>yCe w o c u,lH:=λb c h=>by grind[yK],fz:=λc h=>⟨h,yCe w o c (i c h)⟩,nW:=λc h=>.inl h,qU:=λc j T x h=>⟨j,by grind[Go.heap_alloc_old],rfl⟩,keep:=λb s h=>by have z:=(fV.1 h).1;refine⟨s,by grind,cU _,λ_=>?_⟩;unfold yK;grind,out:=⟨rfl,rfl,rfl⟩ }
theorem Rel.alloc(R:Rel V M Fz w)(ob:Ob)(o:F7)(h:cw (V++[ob]) (yK M V.length w.heap.size) Fz (w.alloc o) ob o):Rel (V++[ob]) (yK M V.length w.heap.size) Fz (w.alloc o):={blk:=λb c i=>by unfold yK at i;split at i;{rename_i x;subst x;simp only[az]at i;subst i;exact⟨λs=>by have:=R.fz _ s;omega,ob,o,by simp,ϲ w o,h⟩};obtain⟨s,u,z,F,G,A⟩:=R.blk b c i;have K:=R.lt i;exact⟨s,u,z,by grind,by grind[Go.heap_alloc_old],A.mono (bN.alloc R.fz ob o)⟩,inj:=λb E c h j=>by unfold yK at h j;split at h<;>split at j;{omega};{simp only[az]at h;have:=(R.lt j).2;omega};{simp only[az]at j;have:=(R.lt h).2;omega};exact R.inj b E c h j,fz:=λc h=>by have:=R.fz c h;simp;omega,gl:=Gl.mono (bN.alloc (V:=V) (M:=M) R.fz ob o).fz R.gl }
def cV(w:Τ)(c:X)(o:F7):Τ:={ w with heap:=w.heap.setIfInBounds c o }
theorem fN{c:X}{o:F7}(h:c<w.heap.size):(cV w c o).heap[c]? =Y o:=by simp[cV,h]
theorem gX{c k:X}{o:F7}(h:k≠c):(cV w c o).heap[k]? =w.heap[k]?:=by grind[cV]
@[simp]theorem setO_size{c:X}{o:F7}:(cV w c o).heap.size=w.heap.size:=by simp[cV]
theorem bN.uU(R:Rel V M Fz w){b c:X}(x:M b=Y c){ob ob':Ob}{o o':F7}(A:V[b]? =Y ob)(E:w.heap[c]? =Y o)(F:ob.sz<=ob'.sz)(s:∀arr T j,o=.cells arr T j->∃i,o'=.cells i T j/\i.size=arr.size):bN V M Fz w (V.set b ob') M Fz (cV w c o'):={size:=by simp,frame:=λk hk z=>gX (λh=>z b (by grind)),lH:=λb c h=>.inl ⟨b,h⟩,fz:=λk h=>⟨h,gX (λe=>(R.blk b c x).1 (e▸h))⟩,nW:=λc h=>.inl h,qU:=λk arr T j h=>by grind[fN,gX],keep:=λk u h=>by grind,out:=⟨rfl,rfl,rfl⟩ }
def Rel.uU(R:Rel V M Fz w){b c:X}(s:M b=Y c){ob ob':Ob}{o o':F7}(z:V[b]? =Y ob)(A:w.heap[c]? =Y o)(E:ob.sz<=ob'.sz)(i:∀arr T F,o=.cells arr T F->∃j,o'=.cells j T F/\j.size=arr.size)(h:cw (V.set b ob') M Fz (cV w c o') ob' o'):Rel (V.set b ob') M Fz (cV w c o'):={blk:=λu c1 G=>by obtain⟨K,x,O,Γ,Η,Ζ⟩:=R.blk u c1 G;by_cases e:u=b;{subst e;have:c1=c:=by{simp_all};grind[fN]};refine⟨K,x,O,by grind,?_,Ζ.mono (bN.uU R s z A E i)⟩;rw[gX (λΕ:c1=c=>e (R.inj u b c (by simp_all) s))];exact Η,inj:=R.inj,fz:=λc h=>by simp;exact R.fz c h,gl:=Gl.mono (bN.uU R s z A E i).fz R.gl }
def bN.move(R:Rel V M Fz w){b:X}{ob ob':Ob}{o':F7}(s:V[b]? =Y ob)(u:ob.sz<ob'.sz):bN V M Fz w (V.set b ob') (yK M b w.heap.size) Fz (w.alloc o'):={size:=by simp,frame:=λc o _=>yCe w o' c o,lH:=λb c h=>by grind[yK],fz:=λc h=>⟨h,yCe w o' c (R.fz c h)⟩,nW:=λc h=>.inl h,qU:=λc j T x h=>⟨j,by grind[Go.heap_alloc_old],rfl⟩,keep:=λk i h=>by by_cases e:k=b;{grind};refine⟨i,by grind,cU _,λ_=>?_⟩;unfold yK;simp_all,out:=⟨rfl,rfl,rfl⟩ }
def Rel.move(R:Rel V M Fz w){b:X}{ob ob':Ob}{o':F7}(x:V[b]? =Y ob)(z:ob.sz<ob'.sz)(h:cw (V.set b ob') (yK M b w.heap.size) Fz (w.alloc o') ob' o'):Rel (V.set b ob') (yK M b w.heap.size) Fz (w.alloc o'):={blk:=λo c1 i=>by unfold yK at i;split at i;{rename_i e;subst e;simp only[az]at i;subst i;exact⟨λs=>by have:=R.fz _ s;omega,ob',o',by grind,ϲ w o',h⟩};rename_i e;obtain⟨s,u,A,j,G,E⟩:=R.blk o c1 i;exact⟨s,u,A,by grind,by grind[Go.heap_alloc_old],E.mono (bN.move R x z)⟩,inj:=λo F c i j=>by unfold yK at i j;split at i<;>split at j;{omega};{simp only[az]at i;have:=(R.lt j).2;omega};{simp only[az]at j;have:=(R.lt i).2;omega};exact R.inj o F c i j,fz:=λc h=>by have:=R.fz c h;simp;omega,gl:=Gl.mono (bN.move (o':=o') R x z).fz R.gl }
def dq(arr:Φ Ο)(off:X)(xs:Z Ο):Φ Ο:=(arr.toList.take off++xs++arr.toList.drop (off+xs.length)).toArray
theorem XM{arr:Φ Ο}{off:X}{xs:Z Ο}(h:off+xs.length<=arr.size):(dq arr off xs).size=arr.size:=by grind[dq]
theorem DK{arr:Φ Ο}{off:X}{x:Ο}{xs:Z Ο}(h:off+(xs.length+1)<=arr.size):dq (arr.setIfInBounds off x) (off+1) xs=dq arr off (x::xs):=by apply rt;simp only[dq,Φ.toList_setIfInBounds,Ft];apply XY;intro i;have b:arr.toList.length=arr.size:=by{simp};simp only[yBE,Bv,Dl,VP,b,Ft];grind
def cN{arr:Φ Ο}{off:X}{xs:Z Ο}(h:off+xs.length<=arr.size)(i:X):(dq arr off xs)[i]? =if off<=i/\i<off+xs.length then xs[i-off]? else arr[i]?:=by have b:arr.toList.length=arr.size:=by{simp};simp only[dq,Z.getElem?_toArray,yBE,Bv,Dl,b];grind
def iX{cs xs:Z D}{off:X}(h:off+xs.length<=cs.length)(i:X):(put cs off xs)[i]? =if off<=i/\i<off+xs.length then xs[i-off]? else cs[i]?:=by simp only[put,yBE,Bv,Dl];grind
theorem zdU{cs xs:Z D}{off:X}(h:off+xs.length<=cs.length):(put cs off xs).length=cs.length:=by grind[put]
theorem fK(blk o i:X):(uo blk o U).add i=⟨blk,o+i,U⟩:=by grind[Go.Addr.add]
def Mt{c off:X}{arr:Φ Ο}{T:Ψ}{v:Ο}(h:w.heap[c]? =Y (.cells arr T (0,0))):w.setCell ⟨c,off,U⟩ v=cV w c (.cells (arr.setIfInBounds off v) T (0,0)):=by unfold Τ.setCell cV;congr 1;grind
def Lj{c:X}{o o':F7}:cV (cV w c o) c o'=cV w c o':=by simp[cV]
theorem xB(P:Ν)(T:Ψ)(c:X):∀(xs:Z Ο)(i off:X)(w:Τ)(arr:Φ Ο),w.heap[c]? =Y (.cells arr T (0,0))->(∀x∈xs,x.oneCell'=W)->off+i+xs.length<=arr.size->(Ϻ ⟨c,off,U⟩ xs i).run P w=.ok () (if xs=[]then w else cV w c (.cells (dq arr (off+i) xs) T (0,0))):=by intro xs;induction xs with|nil=>intro i off w arr _ _ _;simp[Ϻ]|cons x xs ih=>intro i off w arr d f h;simp only[Ft]at h;have e:=(EK.1 d).1;have b:w.cell? ⟨c,off+i,U⟩=Y (arr[off+i]'(by omega)):=by{rw[cell_of_row w c (off+i) arr T (0,0) d];simp_all};simp only[Ϻ,Sem.run_bind,fK];rw[run_store P w _ x _ (f x (by simp)),b];simp only[frozen_of_row w c (off+i) arr T d,cf,cy,Ξ];rw[Mt d];have j:=ih (i+1) off (cV w c (.cells (arr.setIfInBounds (off+i) x) T (0,0))) (arr.setIfInBounds (off+i) x) (fN e) (λy k=>f y (by simp[k])) (by grind);rw[j];simp only[Z.cons_ne_nil,cy,reduceCtorEq];congr 1;by_cases g:xs=[];{subst g;simp only[Υ];rw[<-DK (by omega)];congr 2;apply rt;simp[dq]};rw[Κ g,Lj,<-DK (by omega)];rfl
end
end Go.Abs
end
section
namespace Go.Abs
variable[Gl]
def dO(V:au)(M:X->Δ X)(Fz:X->Prop)(w:Τ)(env:Z D)(b:Φ Ο):Prop:=b.size=env.length/\∀(i:X) d v,env[i]? =Y d->b[i]? =Y v->σ V M Fz w d v
def eI(P:Ν)(s:Sem Next)(V:au)(M:X->Δ X)(Fz:X->Prop)(w:Τ)(V':au)(d:D):Prop:=∃b v w' M',s.run P w=.ok b w'/\(b=.value v\/b=.skip/\v=Ϟ)/\Rel V' M' Fz w'/\σ V' M' Fz w' d v/\bN V M Fz w V' M' Fz w'/\V.length<=V'.length
section
variable{P:Ν}{V V':au}{M M':X->Δ X}{Fz:X->Prop}{w w':Τ}{env:Z D}{a:Act}
theorem eI.same{s:Sem Next}{v:Ο}{d:D}(R:Rel V M Fz w)(i:s.run P w=.ok (.value v) w)(j:σ V M Fz w d v):eI P s V M Fz w V d:=⟨_,v,w,M,i,.inl rfl,R,j,bN.refl R,cU _⟩
def Yields(P:Ν)(s:Sem Next)(V:au)(M:X->Δ X)(Fz:X->Prop)(w:Τ)(d:D):Prop:=∃v,s.run P w=.ok (.value v) w/\σ V M Fz w d v
def ah(P:Ν)(s:Sem Next)(V:au)(M:X->Δ X)(Fz:X->Prop)(w:Τ)(ob:Ob)(d:D):Prop:=∃o v,s.run P w=.ok (.value v) (w.alloc o)/\cw (V++[ob]) (yK M V.length w.heap.size) Fz (w.alloc o) ob o/\σ (V++[ob]) (yK M V.length w.heap.size) Fz (w.alloc o) d v
theorem Yields.same{s:Sem Next}{v:Ο}{d:D}(i:s.run P w=.ok (.value v) w)(j:σ V M Fz w d v):Yields P s V M Fz w d:=⟨v,i,j⟩
def Yields.gives{s:Sem Next}{d:D}(R:Rel V M Fz w)(h:Yields P s V M Fz w d):eI P s V M Fz w V d:=let⟨_,i,j⟩:=h;eI.same R i j
def ah.gives{s:Sem Next}{d:D}{ob:Ob}(R:Rel V M Fz w)(h:ah P s V M Fz w ob d):eI P s V M Fz w (V++[ob]) d:=let⟨o,v,i,j,u⟩:=h;⟨_,v,_,_,i,.inl rfl,R.alloc ob o j,u,bN.alloc R.fz ob o,by simp⟩
theorem σ.eC(v:Ο):σ V M Fz w (eC v) v:=by cases v<;>first|exact .c (.lit _)|(refine .agg _ (by simp) (λi d v j o=>?_);simp only[jG,Qj,o,Cs,az]at j;subst j;exact .c (.lit _))|(refine .aX _ (by simp) (λi d v j o=>?_);simp only[jG,Qj,o,Cs,az]at j;subst j;exact .c (.lit _))
theorem m_(E:dO V M Fz w env a.tmps){x:ε}{o:aU}(h:cu x=Y o):σ V M Fz w (o.ev env) (a.eval x):=by cases x with|tmp t=>simp only[cu,az]at h;subst h;simp only[aU.ev,Act.eval];by_cases e:t<env.length;{have j:env[t]? =Y env[t]:=fe e;have k:a.tmps[t]? =Y (a.tmps[t]'(by rw[E.1];exact e)):=sL _;rw[j,VX,yBe,k,VX];exact E.2 t _ _ j k};have b:env.length<=t:=X.le_of_not_lt e;rw[xAf b,yBe,Φ.getElem?_eq_none (by rw[E.1];exact b)];exact .aX #[] rfl (λi d v h=>by simp at h)|const v=>simp only[cu,az]at h;subst h;exact σ.eC v|global g=>simp only[cu,az]at h;subst h;exact .c (.glo g)|func f=>simp only[cu,az]at h;subst h;exact .c (.fn #[] #[] rfl rfl (λi d v h=>by simp at h) (λi d v h=>by simp at h))
theorem σ.cz{v i:Ο}(h:σ V M Fz w (.c (.lit v)) i):i=v:=by cases h with|c h=>cases h;rfl
theorem TY{ds:Z D}{l:Z Ο}(h:ds.mapM jq=Y l):ds.length=l.length/\∀(i:X) d,ds[i]? =Y d->∃v,l[i]? =Y v/\d=.c (.lit v):=by induction ds generalizing l with|nil=>simp_all|cons d ds ih=>simp only[XN,yCm,eH,c_,az]at h;obtain⟨v,e,j,f,rfl⟩:=h;obtain⟨g,k⟩:=ih f;refine⟨by simp[g],λi m b=>?_⟩;cases i with|zero=>{simp only[vG,az]at b;subst b;cases d with|c x=>cases x<;>simp[jq]at e;simp_all|_=>grind[jq]}|succ i=>simp_all
theorem σ.val_inv{d:D}{v s:Ο}(h:σ V M Fz w d s)(j:d.dz=Y v):s=v:=by cases d with|c x=>cases x<;>simp[D.dz]at j;grind[σ.cz]|agg ds=>{simp only[D.dz,cJ]at j;obtain⟨l,G,rfl⟩:=j;obtain⟨R,K⟩:=TY G;cases h with|agg z Ζ o=>congr 1;apply rt;apply XY;intro i;simp only[Qj];by_cases O:i<ds.length;{have A:ds[i]? =Y ds[i]:=fe O;have E:z[i]? =Y (z[i]'(by omega)):=sL _;obtain⟨u,Γ,Η⟩:=K i _ A;have F:=o i _ _ A E;rw[Η]at F;rw[E,F.cz];simp_all};simp_all}|_=>grind[D.dz]
def mov_ok(E:dO V M Fz w env a.tmps){o:ω}{x:ε}{d:aU}(b:o.op=.move x\/o.op=.assign x)(e:cu x=Y d):Yields P (Ω a.eval o) V M Fz w (d.ev env):=by refine Yields.same (v:=a.eval x) ?_ (m_ E e);rcases b with b|b<;>simp[Ω,b]
theorem pG{d:D}{v:Ο}{t:Λ}(h:σ V M Fz w d v)(b:jf d=Y t):v=.bool t:=by cases d with|c x=>{cases x with|lit u=>cases u<;>simp[jf]at b;grind[σ.cz]|_=>grind[jf]}|_=>grind[jf]
theorem ke{d:D}{v:Ο}{n:Q}(h:σ V M Fz w d v)(b:un d=Y n):∃k,v=.int k n:=by cases d with|c x=>{cases x with|lit u=>cases u<;>simp[un]at b;grind[σ.cz]|_=>grind[un]}|_=>grind[un]
def pick_ok(E:dO V M Fz w env a.tmps){o:ω}{c x y:ε}{b d e:aU}{t:Λ}(f:o.op=.pick c x y)(g:cu c=Y b)(i:cu x=Y d)(j:cu y=Y e)(h:jf (b.ev env)=Y t):Yields P (Ω a.eval o) V M Fz w (if t then d.ev env else e.ev env):=by refine Yields.same (v:=if t then a.eval x else a.eval y) ?_ ?_;{simp[Ω,f,pG (m_ E g) h,asBool]};grind[m_]
def lK(E:dO V M Fz w env a.tmps){o:ω}{d:D}(e:∀cs b,o.op≠.select cs b)(h:pC P o.op o.type env=Y d):Yields P (Ω a.eval o) V M Fz w d:=by unfold pC at h;split at h;{rename_i f;generalize j:(λx=>((((cu x).map (aU.ev env)).bind D.dz).getD Ϟ))=ρ at h;have k:Ω a.eval o=Ω ρ o:=by{refine execOp_congr o e (λx n=>?_);have g:=(iB.1 f) x (by simp_all);rw[<-j];cases i:cu x with|none=>simp_all|some p=>simp only[i,Cs,ay]at g ⊢;obtain⟨v,m⟩:=yB0.1 g;rw[m,VX];exact(m_ E i).val_inv m};have l:Ω ρ o=Ω ρ { dst:=U,op:=o.op,type:=o.type,pos:="",after:=#[],guard:=U }:=rfl;grind[Yields.same,σ.eC,Ug]};simp_all
theorem σ.one{d:D}{v:Ο}(h:σ V M Fz w d v)(i:d.scalar=W):v.oneCell'=W/\v.cells=#[v]:=by cases h with|c h=>{cases h with|lit v=>{simp only[D.scalar]at i;cases v<;>first|exact⟨rfl,rfl⟩|simp[Ο.oneCell']at i}|_=>exact⟨rfl,rfl⟩}|any v=>grind[D.scalar]|agg=>grind[D.scalar]|aX=>grind[D.scalar]|_=>exact⟨rfl,rfl⟩
theorem σ.cells{d:D}{v:Ο}{cs:Z D}(h:σ V M Fz w d v)(j:d.cells? =Y cs):v.cells.size=cs.length/\(∀(i:X) x u,cs[i]? =Y x->v.cells[i]? =Y u->σ V M Fz w x u)/\(∀u∈v.cells.toList,u.oneCell'=W)/\(∀x∈cs,x.scalar=W):=by have z:d.scalar=W->d.cells? =Y [d]->v.cells.size=cs.length/\(∀(i:X) x u,cs[i]? =Y x->v.cells[i]? =Y u->σ V M Fz w x u)/\(∀u∈v.cells.toList,u.oneCell'=W)/\(∀x∈cs,x.scalar=W):=by{intro s A;rw[A]at j;simp only[az]at j;subst j;obtain⟨Ζ,Γ⟩:=h.one s;grind};cases d with|agg ds=>simp only[D.cells?]at j;split at j;{rename_i o;simp only[az]at j;subst j;cases h with|agg E A F=>refine⟨A,F,λu G=>?_,λx K=>iB.1 o x K⟩;obtain⟨i,O,rfl⟩:=SM.1 G;simp only[Ο.cells,yBp]at O;have Η:ds[i]? =Y (ds[i]'(by omega)):=fe _;have R:E[i]? =Y E[i]:=sL _;exact((F i _ _ Η R).one (iB.1 o _ (bx _))).1};simp_all|_=>simp only[D.cells?]at j;split at j;{rename_i s;exact z s (by simp only[D.cells?,s,Υ])};simp_all
def Ao{arr:Φ Ο}{i:X}{u:Ο}(h:arr[i]? =Y u):u∈arr.toList:=by grind
def rK(b:∀c,Fz c->c<w.heap.size){cs:Z D}{arr:Φ Ο}(T:Ψ)(h:cs.length≤arr.size)(e:∀(i:X) x u,cs[i]? =Y x->arr[i]? =Y u->σ V M Fz w x u/\u.oneCell'=W):(newRow T arr).run P w=.ok ⟨w.heap.size,0,U⟩ (w.alloc (.cells arr T))/\cw (V++[.cells cs]) (yK M V.length w.heap.size) Fz (w.alloc (.cells arr T)) (.cells cs) (.cells arr T):=⟨rfl,arr,T,rfl,h,λi d v f g=>⟨(e i d v f g).1.mono (bN.alloc b _ _),(e i d v f g).2⟩⟩
def σ.newPtr(cs:Z D)(o:F7):σ (V++[.cells cs]) (yK M V.length w.heap.size) Fz (w.alloc o) (.ptr V.length 0 cs.length) (.pointer (Y ⟨w.heap.size,0,U⟩)):=.ptr _ (.cells cs) (by simp) (by simp[Ob.sz]) (λ_=>⟨w.heap.size,by simp[yK],rfl⟩)
def box_ok(b:∀c,Fz c->c<w.heap.size)(E:dO V M Fz w env a.tmps){o:ω}{t:Ψ}{x:ε}{e:aU}{cs:Z D}(g:o.op=.box t x)(d:cu x=Y e)(h:(e.ev env).cells? =Y cs):ah P (Ω a.eval o) V M Fz w (.cells cs) (.ptr V.length 0 cs.length):=by obtain⟨n,j,k,_⟩:=(m_ E d).cells h;obtain⟨l,m⟩:=rK (P:=P) b t (by omega) (λi x u d f=>⟨j i x u d f,k u (Ao f)⟩);exact⟨_,_,by simp[Ω,g,Instr.box,newVar,l],m,σ.newPtr cs _⟩
def zdP{t:Ψ}{z:Z D}(h:Wq P t=Y z):∃i v,P.info? t=Y i/\i.zero=Y v/\(eC v).cells? =Y z:=by grind[Wq,zeroOf,ζ]
theorem zd0{t:Ψ}{i:ik}(h:P.info? t=Y i)(w:Τ):(typeInfo t).run P w=.ok i w:=by simp[typeInfo,h]
theorem iN{t:Ψ}{i:ik}{v:Ο}(h:P.info? t=Y i)(b:i.zero=Y v)(w:Τ):(zeroValue t).run P w=.ok v w:=by simp[zeroValue,zd0 h,b]
theorem Tm{t:Ψ}{n:X}(h:bS P t=Y n)(w:Τ):(sizeOf t).run P w=.ok n w:=by simp only[bS,cJ]at h;obtain⟨i,b,rfl⟩:=h;simp[sizeOf,zd0 b]
theorem sJ{t:Ψ}{d:ϐ}(h:P.underlying t=Y d)(w:Τ):(underlying t).run P w=.ok d w:=by simp[underlying,h]
def alloc_ok(b:∀c,Fz c->c<w.heap.size){o:ω}{t:Ψ}{z:Z D}(e:o.op=.alloc t)(f:Wq P t=Y z):ah P (Ω a.eval o) V M Fz w (.cells z) (.ptr V.length 0 z.length):=by obtain⟨i,v,g,h,j⟩:=zdP f;obtain⟨q,k,l,_⟩:=(σ.eC (V:=V) (M:=M) (Fz:=Fz) (w:=w) v).cells j;obtain⟨m,n⟩:=rK (P:=P) b t (by omega) (λi x u p d=>⟨k i x u p d,l u (Ao d)⟩);exact⟨_,_,by simp[Ω,e,Instr.alloc,iN g h,newVar,m],n,σ.newPtr z _⟩
def SF{b sz:X}{cs:Z D}(h:kE V b sz=Y cs):V[b]? =Y (.cells cs)/\cs.length=sz:=by grind[kE]
theorem σ.yJ{b off sz:X}{v:Ο}{cs:Z D}(h:σ V M Fz w (.ptr b off sz) v)(j:kE V b sz=Y cs):∃c,M b=Y c/\v=.pointer (Y ⟨c,off,U⟩):=by obtain⟨o,s⟩:=SF j;cases h with|ptr z A i u x=>rw[o]at i;simp only[az]at i;subst i;obtain⟨c,E,F⟩:=x s;simp_all
def Rel.row(R:Rel V M Fz w){b c:X}{cs:Z D}(s:M b=Y c)(u:V[b]? =Y (.cells cs)): ∃arr T,w.heap[c]? =Y (.cells arr T (0,0))/\cs.length<=arr.size/\∀(i:X) d v,cs[i]? =Y d->arr[i]? =Y v->σ V M Fz w d v/\v.oneCell'=W:=by obtain⟨_,z,o,j,A,x⟩:=R.blk b c s;rw[u]at j;simp only[az]at j;subst j;obtain⟨arr,T,rfl,E,F⟩:=x;grind
theorem Az{t:Ψ}{n:Δ X}{cs:Z D}{blk g off:X}{d:D}(h:Ig P t=Y n)(k:yf n cs off=Y d)(b:∀(i:X) x,cs[i]? =Y x->∃u,w.cell? ⟨blk,g+i,U⟩=Y u/\σ V M Fz w x u): ∃v,(C5 t ⟨blk,g+off,U⟩).run P w=.ok v w/\σ V M Fz w d v:=by unfold Ig at h;have agg:∀(i:ik),P.info? t=Y i->n=Y i.size->(B6 t).run P w=.ok W w->∃v,(C5 t ⟨blk,g+off,U⟩).run P w=.ok v w/\σ V M Fz w d v:=by{intro i p h e;subst h;simp only[yf]at k;split at k;{rename_i y;simp only[az]at k;subst k;have z:∀j,j<i.size->∃u,w.cell? ⟨blk,g+off+j,U⟩=Y u/\∀x,cs[off+j]? =Y x->σ V M Fz w x u:=by{intro j E;obtain⟨u,q,r⟩:=b (off+j) _ (fe (by omega));grind};let f:X->Ο:=λj=>(w.cell? ⟨blk,g+off+j,U⟩).getD Ϟ;have A:∀j,j<i.size->w.cell? ((uo blk (g+off) U).add j)=Y (f j):=by{grind[fK]};have l:=run_loadCells (P:=P) (w:=w) ⟨blk,g+off,U⟩ i.size f A;refine⟨.agg (Z.map f (Z.range i.size)).toArray,by simp only[C5,Sem.run_bind,e,Ξ,Υ,sizeOf,zd0 p,Sem.run_pure,l],?_⟩;refine .agg _ (by grind) (λj x v q r=>?_);grind};simp_all};have one:n=U->(B6 t).run P w=.ok Ι w->∃v,(C5 t ⟨blk,g+off,U⟩).run P w=.ok v w/\σ V M Fz w d v:=by{intro h e;subst h;obtain⟨u,q,r⟩:=b off d k;exact⟨u,by simp only[C5,Sem.run_bind,e,Ξ,cf,cy,run_load,q],r⟩};cases p:P.info? t with|none=>simp_all|some i=>cases s:P.underlying t with|none=>simp_all|some m=>rw[p,s]at h;have o:(B6 t).run P w=.ok (m matches .struct _| .array _ _) w:=by{simp only[B6,Sem.run_bind,sJ s,Ξ];cases m<;>rfl};grind
def load_ok(E:dO V M Fz w env a.tmps){o:ω}{t:Ψ}{x:ε}{q:aU}{n:Δ X}{d:D}(A:o.op=.load t x)(L:cu x=Y q)
  (F:Ig P t=Y n)(N:∀b off sz c cs,q.ev env=.ptr b off sz->M b=Y c->V[b]? =Y (.cells cs)->∃arr T,w.heap[c]? =Y (.cells arr T (0,0))/\cs.length≤arr.size/\∀(i:X) d v,cs[i]? =Y d->arr[i]? =Y v->σ V M Fz w d v/\v.oneCell'=W)
  (h:(match q.ev env with
   | .ptr b off sz=>do Y (←yf n (←kE V b sz) off,V,([]:Z X))
   | .c (.cQ cs off)=>do Y (←yf n (cs.map .c) off,V,[])
   |_=>U)=Y (d,V',[])):V'=V/\Yields P (Ω a.eval o) V M Fz w d:=by
 have k:=m_ E L
 split at h
 ·rename_i b off sz p
  rw[p]at k
  simp only[eH,c_,az,a_]at h
  obtain⟨cs,G,O,r,rfl,rfl,_⟩:=h
  refine⟨rfl,?_⟩
  obtain⟨c,Η,l⟩:=k.yJ G
  obtain⟨R,_⟩:=SF G
  obtain⟨arr,T,S,Ε,s⟩:=N b off sz c cs p Η R
  have f:∀(i:X) x,cs[i]? =Y x->∃u,w.cell? ⟨c,0+i,U⟩=Y u/\σ V M Fz w x u:=by
   intro i x j
   have Α:=(fV.1 j).1
   have e:arr[i]? =Y (arr[i]'(by omega)):=sL _
   exact⟨_,by rw[OX,cell_of_row w c i arr T (0,0) S];exact e,(s i _ _ j e).1⟩
  obtain⟨v,g,m⟩:=Az (P:=P) F r f
  refine Yields.same (v:=v) ?_ m
  rw[OX]at g
  simp[Ω,A,Instr.loadAt,l,ϩ,g]
 ·rename_i cs off p
  rw[p]at k
  simp only[eH,c_,az,a_]at h
  obtain⟨O,r,rfl,rfl,_⟩:=h
  refine⟨rfl,?_⟩
  cases k with
  |c k=>
   generalize l:a.eval x=Β at k
   cases k with
   |cQ blk Ζ c hF Γ z=>
    have f:∀(i:X) x,(cs.map D.c)[i]? =Y x->∃u,w.cell? ⟨blk,Ζ+i,U⟩=Y u/\σ V M Fz w x u:=by
     intro i x j
     simp only[jG,cJ]at j
     obtain⟨y,K,rfl⟩:=j
     exact⟨_,(Γ i y K).1,.c (z i y K)⟩
    obtain⟨v,g,m⟩:=Az (P:=P) F r f
    refine Yields.same (v:=v) ?_ m
    simp[Ω,A,Instr.loadAt,l,ϩ,g]
 simp_all
end
end Go.Abs
end
section
namespace Go.Abs
variable[Gl]
section
variable{P:Ν}{V V':au}{M M':X->Δ X}{Fz:X->Prop}{w w':Τ}{env:Z D}{a:Act}
theorem IJ(off:X):∀(l:Z Ο)(k:X)(arr:Φ Ο),off+k+l.length<=arr.size->(l.zipIdx k).foldl (λcs (p:Ο×X)=>cs.setIfInBounds (off+p.2) p.1) arr=dq arr (off+k) l:=by intro l;induction l with|nil=>intro k arr _;apply rt;simp[dq]|cons x l ih=>grind[Z.zipIdx_cons,DK]
def FE(V:au)(M:X->Δ X)(Fz:X->Prop)(w:Τ)(cs:Z D)(arr:Φ Ο):Prop:=arr.size=cs.length/\∀(i:X) x u,cs[i]? =Y x->arr[i]? =Y u->σ V M Fz w x u/\u.oneCell'=W
theorem FE.put{cs xs:Z D}{arr:Φ Ο}{vs:Z Ο}{off:X}(h:FE V M Fz w cs arr)(z:vs.length=xs.length)(s:off+xs.length<=cs.length)(E:∀(i:X) x u,xs[i]? =Y x->vs[i]? =Y u->σ V M Fz w x u/\u.oneCell'=W):FE V M Fz w (put cs off xs) (dq arr off vs):=by refine⟨by rw[XM (by rw[h.1];omega),zdU s,h.1],λi x u j o=>?_⟩;rw[iX s]at j;rw[cN (by rw[h.1];omega),z]at o;split at j;{grind};rename_i A;rw[Κ A]at o;exact h.2 _ _ _ j o
def FE.tc{d:D}{v:Ο}{cs:Z D}(h:σ V M Fz w d v)(o:d.cells? =Y cs):FE V M Fz w cs v.cells:=by obtain⟨s,z,A,_⟩:=h.cells o;exact⟨s,λi x u E j=>⟨z i x u E j,A u (Ao j)⟩⟩
theorem VU(E:dO V M Fz w env a.tmps)(pl:X->Δ (X×X)):∀(ps:Z (X×ε))(k:Z (X×X×aU))(cs e:Z D)(arr:Φ Ο),(ps.mapM λ(i,x)=>(pl i).bind λ(o,n)=>(cu x).bind λz=>Y (o,n,z))=Y k->FE V M Fz w cs arr->rQ env cs k=Y e-> ∃b,wv pl arr (ps.map λ(i,x)=>(i,a.eval x))=Y b/\FE V M Fz w e b:=by intro ps;induction ps with|nil=>intro k cs e arr h j g;simp only[Z.mapM_nil,yCm,az]at h;subst h;simp only[rQ,az]at g;subst g;exact⟨arr,rfl,j⟩|cons p ps ih=>intro k cs e arr h j g;obtain⟨i,x⟩:=p;simp only[XN,yCm,eH,c_,az]at h;obtain⟨q,⟨⟨o,n⟩,l,z,m,rfl⟩,r,s,rfl⟩:=h;simp only[rQ,eH,c_]at g;obtain⟨K,t,g⟩:=g;split at g;{grind};rename_i f;simp only[ϥ,SG,X.not_lt]at f;obtain⟨F,G⟩:=f;have d:=FE.tc (m_ E m) t;obtain⟨b,v,A⟩:=ih r _ e (dq arr o (a.eval x).cells.toList) s (j.put (by simp[d.1]) (by omega) (λi y u v A=>d.2 i y u v (by simp_all))) g;refine⟨b,?_,A⟩;simp only[qZ,wv,l];rw[Κ (by simp[d.1,F,j.1];omega)];rw[<-v];congr 1;have:=IJ o (a.eval x).cells.toList 0 arr (by simp[d.1,j.1];omega);rw[<-xAg];simp_all
theorem Vp{d:Φ sd}{ps:Z (X×X)}(h:Nh P d=Y ps)(w:Τ):
  (d.mapM λ(f:sd)=>(do pure (f.offset,<-sizeOf f.type):Sem (X×X))).run P w=.ok ps.toArray w:=by
 have e:∀(l:Z sd)(ps:Z (X×X)),(l.mapM λf=>(bS P f.type).map λn=>(f.offset,n))=Y ps->
   (l.mapM λf=>(do pure (f.offset,<-sizeOf f.type):Sem (X×X))).run P w=.ok ps w:=by
  intro l;induction l with
  |nil=>simp_all
  |cons f l ih=>intro ps h;simp only[XN,yCm,eH,c_,cJ,az]at h;obtain⟨q,⟨n,g,rfl⟩,i,b,rfl⟩:=h;simp only[XN,Sem.run_bind,Tm g,Ξ,Sem.run_pure,ih i b]
 grind[Nh,Φ.mapM_eq_mapM_toList,Go.Sem.run_map,Go.Result.andThen_ok]
def SD(E:dO V M Fz w env a.tmps){o:ω}{t:Ψ}{b:Φ (X×ε)}{z:Z D}{h:Z (X×X×aU)}{pl:X->Δ (X×X)}{cs:Z D}(p:o.op=.build t b)(u:Wq P t=Y z)(j:(∃k ps,P.underlying t=Y (.struct k)/\Nh P k=Y ps/\pl=(ps[·]?))\/(∃m e n,P.underlying t=Y (.array m e)/\bS P e=Y n/\pl=λi=>Y (i*n,n)))(y:(b.toList.mapM λ(i,x)=>(pl i).bind λ(o,n)=>(cu x).bind λA=>Y (o,n,A))=Y h)(F:rQ env z h=Y cs):Yields P (Ω a.eval o) V M Fz w (.agg cs):=by obtain⟨i,v,q,r,G⟩:=zdP u;have f:=FE.tc (σ.eC (V:=V) (M:=M) (Fz:=Fz) (w:=w) v) G;obtain⟨g,Η,s⟩:=VU E pl b.toList h z cs v.cells y f F;refine Yields.same (v:=.agg g) ?_ (.agg g s.1 (λi d v K L=>(s.2 i d v K L).1));rcases j with⟨k,ps,l,N,rfl⟩|⟨m,e,n,l,O,rfl⟩;{simp only[Ω,p,Instr.build,Sem.run_bind,iN q r,Ξ,sJ l,Vp N];simp_all};simp only[Ω,p,Instr.build,Sem.run_bind,iN q r,Ξ,sJ l,Tm O];simp_all
theorem jp(n:X)(z:Z D):(sF n z).length=n*z.length:=by simp[sF]
theorem GP{z:Z D}(b:z≠[]):∀(n i:X),i<n*z.length->(sF n z)[i]? =z[i%z.length]?:=by intro n;have d:0<z.length:=yBi.2 b;induction n with|zero=>omega|succ n ih=>intro i f;have e:sF (n+1) z=z++sF n z:=by{simp[sF,C3]};rw[e,yBE];split;{grind[X.mod_eq_of_lt]};rename_i h;rw[ih (i-z.length) (by grind)];congr 1;(conv=>rhs;rw[show i=i-z.length+z.length from by omega]);rw[X.add_mod_right]
def D_{z:Z D}{v:Ο}(b:FE V M Fz w z v.cells)(g:z≠[])(n m:X)(d:n<=m):n*z.length<=((Ϭ (m*v.cells.size)).map (v.cells[· %v.cells.size]!)).size/\ ∀(i:X) x u,(sF n z)[i]? =Y x->((Ϭ (m*v.cells.size)).map (v.cells[· %v.cells.size]!))[i]? =Y u->σ V M Fz w x u/\u.oneCell'=W:=by have k:0<z.length:=yBi.2 g;refine⟨by simp[b.1];exact Ja _ d,λi x u e h=>?_⟩;have j:=(fV.1 e).1;rw[jp]at j;rw[GP g n i j]at e;have l:i%z.length<v.cells.size:=by{rw[b.1];grind};have f:i<m*v.cells.size:=by{grind};refine b.2 (i%z.length) x u e ?_;rw[Φ.getElem?_map,Φ.getElem?_range,Μ f]at h;simp only[Cs,az,b.1]at h;simp_all
def σ.newSl{cs:Z D}{arr:Φ Ο}{T:Ψ}{len aC cap:X}(i:len<=cap)(j:cap*aC<=arr.size)(o:len*aC<=cs.length)(s:cs.length<=cap*aC):σ (V++[.cells cs]) (yK M V.length w.heap.size) Fz (w.alloc (.cells arr T)) (.sl V.length 0 len aC cs.length) (.slice (Y ⟨w.heap.size,0,U⟩) len cap):=.sl _ _ _ (by simp) (.cells cs) (by simp) (by simp[Ob.sz]) (λ_=>.inr ⟨w.heap.size,0,arr,T,by simp[yK],rfl,rfl,⟨i,by omega⟩,.inl rfl,ϲ w _,by omega,by omega⟩)
def YG(q:∀c,Fz c->c<w.heap.size)(E:dO V M Fz w env a.tmps){o:ω}{t e:Ψ}{len n:X}{b:Φ (X×ε)}{z:Z D}{r:Z (X×X×aU)}{cs:Z D}(N:o.op=.buildSlice t len b)(O:P.underlying t=Y (.slice e))(Η:bS P e=Y n)(R:Wq P e=Y z)(f:¬(n=0\/z.length≠n\/len*n>2^20))(S:(b.toList.mapM λ(i,x)=>(Y (i*n,n)).bind λ(p:X×X)=>(cu x).bind λT=>Y (p.1,p.2,T))=Y r)(Ζ:rQ env (sF len z) r=Y cs):ah P (Ω a.eval o) V M Fz w (.cells cs) (.sl V.length 0 len n cs.length):=by obtain⟨i,v,Γ,Ε,Α⟩:=zdP R;have d:=FE.tc (σ.eC (V:=V) (M:=M) (Fz:=Fz) (w:=w) v) Α;simp only[ϥ,SG,X.not_lt]at f;obtain⟨Β,s,L⟩:=f;have g:z≠[]:=λh=>by{simp_all};have aa:v.cells.size=n:=by{rw[d.1,s]};obtain⟨ab,A⟩:=D_ d g len len (cU _);have F:FE V M Fz w (sF len z) ((Ϭ (len*v.cells.size)).map (v.cells[· %v.cells.size]!)):=⟨by grind[jp],A⟩;obtain⟨arr,h1,m⟩:=VU E (λi=>Y (i*n,n)) b.toList r (sF len z) cs _ S F Ζ;have j:cs.length=len*n:=by{have:arr.size=len*n:=by{have G:∀(l:Z (X×Ο))(x y:Φ Ο),wv (λi=>Y (i*n,n)) x l=Y y->y.size=x.size:=by{intro l;induction l with|nil=>grind[Go.Instr.fill]|cons p l ih=>intro x y h;obtain⟨i,u⟩:=p;simp only[wv]at h;split at h;{simp at h};rename_i k;simp at k;rw[ih _ _ h,<-xAg];have:=IJ (i*n) u.cells.toList 0 x (by grind);simp only[X.add_zero]at this;grind[XM]};grind};rw[<-m.1,this]};obtain⟨r1,r2⟩:=rK (P:=P) q (arr:=arr) (cs:=cs) e (by rw[m.1];omega) m.2;refine⟨_,.slice (Y ⟨w.heap.size,0,U⟩) len len,?_,r2,σ.newSl (cap:=len) (cU _) (by rw[m.1,j];omega) (by omega) (by omega)⟩;simp only[Ω,N,Instr.buildSlice,Sem.run_bind,sJ O,Ξ,Tm Η];rw[Κ (by omega)];by_cases h0:len*n=0;{have K:len=0:=by{grind[H5]};subst K;simp only[yC4]at h1 ⊢;simp only[Υ,Sem.run_bind,Sem.run_pure,Ξ];grind[Φ.toList_map,Go.Sem.run_bind,Go.Result.andThen_ok,Go.Sem.run_pure]};rw[Κ h0];simp only[Sem.run_bind,iN Γ Ε,Ξ,Sem.run_pure];simp_all
def store_ok(R:Rel V M Fz w)(E:dO V M Fz w env a.tmps){o:ω}{t:Ψ}{x y:ε}{Η S:aU}{n b off sz:X}{cs xs:Z D}(ho:o.op=.store t x y)(hx:cu x=Y Η)(Ζ:cu y=Y S)(hn:bS P t=Y n)(he:Η.ev env=.ptr b off sz)(Γ:kE V b sz=Y cs)(q:(S.ev env).cells? =Y xs)(hc:xs.length=n/\off+n<=sz):eI P (Ω a.eval o) V M Fz w (V.set b (.cells (put cs off xs))) (.aX []):=by have Ε:=m_ E hx;rw[he]at Ε;obtain⟨c,A,F⟩:=Ε.yJ Γ;obtain⟨G,aa⟩:=SF Γ;obtain⟨e,T,u,hl,K⟩:=R.row A G;have g:=FE.tc (m_ E Ζ) q;obtain⟨_,_,L,_⟩:=(m_ E Ζ).cells q;have N:off+xs.length<=cs.length:=by{omega};have r:=xB P T c (a.eval y).cells.toList 0 off w e u L (by grind);have j:∀k Α Β,Ϣ e T (0,0)=.cells k Α Β->∃l,Ϣ (dq e off (a.eval y).cells.toList) T (0,0)=.cells l Α Β/\l.size=k.size:=by{grind[XM]};have m:(if(a.eval y).cells.toList=[]then w else cV w c (.cells (dq e (off+0) (a.eval y).cells.toList) T (0,0)))=cV w c (.cells (dq e off (a.eval y).cells.toList) T (0,0)):=by{split;{rename_i s;rw[s];have:dq e off []=e:=by{grind[dq]};rw[this];unfold cV;have ab:=(EK.1 u).1;have:w.heap.setIfInBounds c (.cells e T (0,0))=w.heap:=by{grind};rw[this]};rfl};rw[m]at r;have hs:(Ob.cells cs).sz<=(Ob.cells (put cs off xs)).sz:=by{grind[Ob.sz,zdU]};have O:=bN.uU R A G u hs j;refine⟨.skip,Ϟ,_,M,?_,.inr ⟨rfl,rfl⟩,R.uU A G u hs j ?_,.aX #[] rfl (λi d v h=>by simp at h),O,by simp⟩;{simp only[Ω,ho,Instr.storeAt,F,ϩ,Sem.run_bind,Sem.run_pure,Ξ,storeVar,Tm hn];simp_all};refine⟨_,T,rfl,by grind[zdU],λi d v z p=>?_⟩;rw[iX N]at z;rw[cN (by grind)]at p;simp only[yBp,g.1]at p;split at z;{rename_i f;rw[Μ f]at p;have:=g.2 _ _ _ z (by simpa using p);exact⟨this.1.mono O,this.2⟩};rename_i f;rw[Κ f]at p;have:=K _ _ _ z p;exact⟨this.1.mono O,this.2⟩
end
end Go.Abs
end
section
namespace Go.Abs
variable[Gl]
section
variable{P:Ν}{V V':au}{M M':X->Δ X}{Fz:X->Prop}{w w':Τ}{env:Z D}{a:Act}
theorem σ.KI{b o sz off:X}{v:Ο}(h:σ V M Fz w (.ptr b o sz) v):∃i,v=.pointer (Y i)/\σ V M Fz w (.ptr b (o+off) sz) (.pointer (Y (i.add off))):=by cases h with|ptr i s u j x=>refine⟨i,rfl,.ptr _ s u j (λz=>?_)⟩;grind[fK]
theorem VC.KI{cs:Z C}{o off:X}{v:Ο}(h:VC Fz w (.cQ cs o) v):∃i,v=.pointer (Y i)/\VC Fz w (.cQ cs (o+off)) (.pointer (Y (i.add off))):=by generalize j:C.cQ cs o=x at h;cases h with|cQ blk s c u z A=>simp only[C.cQ.injEq]at j;obtain⟨rfl,rfl⟩:=j;refine⟨_,rfl,?_⟩;rw[fK,yCF];exact .cQ blk s c u z A|_=>grind
theorem σ.rR{x:C}{v:Ο}(h:σ V M Fz w (.c x) v):VC Fz w x v:=by cases h with|c h=>exact h
def fld_ok(E:dO V M Fz w env a.tmps){o:ω}{s:Ψ}{x:ε}{m:aU}{f n:X}{p:Φ sd}{g:sd}{d:D}(t:o.op=.fieldAddr s x f)(u:cu x=Y m)(v:P.underlying s=Y (.struct p))(y:p[f]? =Y g)(z:bS P g.type=Y n)(A:n≠0)(h:(match m.ev env with|.ptr b o sz=>Y (.ptr b (o+g.offset) sz,V,([]:Z X))|.c (.cQ q o)=>Y (.c (.cQ q (o+g.offset)),V,[])|_=>U)=Y (d,V',[])):V'=V/\Yields P (Ω a.eval o) V M Fz w d:=by have j:=m_ E u;have k:∀i,a.eval x=.pointer (Y i)->(Ω a.eval o).run P w=.ok (.value (.pointer (Y (i.add g.offset)))) w:=by{intro i e;simp only[Ω,t,Instr.fieldAt,Sem.run_bind,sJ v,Ξ,y,e,ϩ,Sem.run_pure,fieldPlace,Tm z];simp_all};split at h;{rename_i b F sz l;rw[l]at j;simp only[az,a_]at h;obtain⟨rfl,rfl,_⟩:=h;obtain⟨i,e,r⟩:=j.KI (off:=g.offset);grind[Yields.same]};{rename_i q F l;rw[l]at j;simp only[az,a_]at h;obtain⟨rfl,rfl,_⟩:=h;obtain⟨i,e,r⟩:=j.rR.KI (off:=g.offset);exact⟨rfl,Yields.same (k i e) (.c r)⟩};simp_all
def FO{i:Q}{n k:X}(h:EO i n=Y k):0<=i/\i<n/\i.toNat=k/\k<n:=by grind[EO]
def inB_inv{i:Q}{n k:X}(h:SJ i n=Y k):0<=i/\i<=n/\i.toNat=k/\k<=n:=by grind[SJ]
theorem σ.fW{b off len aC sz:X}{v:Ο}{cs:Z D}(h:σ V M Fz w (.sl b off len aC sz) v)(j:kE V b sz=Y cs):(v=.slice U 0 0/\len=0/\off=0/\sz=0/\cs=[])\/∃c o cap arr T,M b=Y c/\v=.slice (Y ⟨c,o,U⟩) len cap/\(len<=cap/\sz<=off+cap*aC)/\(o=off\/cap=0)/\w.heap[c]? =Y (.cells arr T (0,0))/\o+cap*aC<=arr.size/\off+len*aC<=sz:=by obtain⟨s,u⟩:=SF j;cases h with|sl Η n cap x R i z A=>rw[s]at i;simp only[az]at i;subst i;rcases A u with⟨Ζ,Γ,Ε,Α,Β,e6⟩|⟨c,o,arr,T,E,ha,hn,F,G,K,i,O⟩;{simp_all};exact .inr ⟨c,o,cap,arr,T,E,by simp_all,F,G,K,i,O⟩
theorem σ.mkPtr{b c off sz:X}{cs:Z D}(i:kE V b sz=Y cs)(j:M b=Y c):σ V M Fz w (.ptr b off sz) (.pointer (Y ⟨c,off,U⟩)):=by obtain⟨o,s⟩:=SF i;exact .ptr _ _ o (by grind[Ob.sz]) (λ_=>⟨c,j,rfl⟩)
def idx_ok(E:dO V M Fz w env a.tmps){o:ω}{t e:Ψ}{x i:ε}{S Ζ:aU}{n:X}{d:D}(ho:o.op=.indexAddr t x i)
  (hx:cu x=Y S)(hi:cu i=Y Ζ)(hu:P.underlying t=Y (.slice e))(hn:bS P e=Y n)(aa:n≠0)
  (h:(do
  let i <-un (Ζ.ev env)
  match S.ev env with
  |.sl b off len f sz=>do
   let _ <-kE V b sz
   let k <-EO i len
   if f=n then Y (.ptr b (off+k*n) sz,V,([]:Z X))else U
  |.c (.dg _ f)=>do
   let k <-EO i f.length
   let e <-f[k]?
   if e.length=n then Y (.c (.cQ e 0),V,[])else U
  |_=>U)=Y (d,V',[])):V'=V/\Yields P (Ω a.eval o) V M Fz w d:=by
 have u:=m_ E hx;have F:=m_ E hi;simp only[eH,c_]at h;obtain⟨z,Γ,h⟩:=h;obtain⟨k0,G⟩:=ke F Γ;have K:∀v len cap,a.eval x=.slice (Y v) len cap->0<=z->z<len->(Ω a.eval o).run P w=.ok (.value (.pointer (Y (v.add (z.toNat*n))))) w:=by intro v len cap L y A;simp only[Ω,ho,Instr.indexAt,Sem.run_bind,G,C6,Sem.run_pure,Ξ,sJ hu,L];rw[Μ ⟨y,A⟩];simp only[Sem.run_bind,Tm hn,Ξ,Sem.run_pure]
 split at h
 ·rename_i b off len f sz N;rw[N]at u;simp only[c_]at h;obtain⟨cs,hr,k,hk,h⟩:=h;split at h
  ·rename_i O;simp only[az,a_]at h;obtain⟨rfl,rfl,_⟩:=h;obtain⟨y,A,Ε,h4⟩:=FO hk;rcases u.fW hr with⟨_,e2,_⟩|⟨c,o',cap,ab,T,hM,g,hl,Α,hh,l,Η⟩
   ·omega
   grind[Yields.same,fK,σ.mkPtr]
  simp_all
 ·rename_i nn f N;rw[N]at u;simp only[c_]at h;obtain⟨k,hk,m,p,h⟩:=h;split at h
  ·rename_i O;simp only[az,a_]at h;obtain⟨rfl,rfl,_⟩:=h;obtain⟨y,A,Ε,h4⟩:=FO hk;have q:=u.rR;generalize g:a.eval x=va at q;cases q with
   |dg aC v cap af Γ c Η l hc R=>
    have r:aC=n:=by grind
    subst r;have s:0<m.length:=by omega
    obtain⟨blk,o0,rfl,hF,_,_⟩:=hc k 0 m m[0] p (fe s);refine⟨rfl,Yields.same (K _ _ _ g y A) ?_⟩;rw[fK,Ε];refine .c ?_;have:=VC.cQ (Fz:=Fz) (w:=w) (cs:=m) (off:=0) blk (o0+k*aC) (c k) hF (λj d Β=>?_) (λj d Β=>R k j m d p Β)
    ·omega
    grind
  simp_all
 simp_all
def QC(A:Gl.ok Fz w)(E:dO V M Fz w env a.tmps){o:ω}{t e:Ψ}{x i:ε}{L N:aU}{n len:X}{d:D}(Η:o.op=.indexAddr t x i)
  (R:cu x=Y L)(S:cu i=Y N)(F:P.underlying t=Y (.array len e))(T:bS P e=Y n)
  (h:(do
  let i <-un (N.ev env)
  let k <-EO i len
  match L.ev env with
  |.ptr b off sz=>Y (.ptr b (off+k*n) sz,V,([]:Z X))
  |.c (.cQ cs off)=>Y (.c (.cQ cs (off+k*n)),V,[])
  |.c (.glo g)=>match Gl.tab g with
   |[]=>U
   |v::p=>Y (.c (.cQ ((v::p).map .lit) (k*n)),V,[])
  |_=>U)=Y (d,V',[])):V'=V/\Yields P (Ω a.eval o) V M Fz w d:=by
 have l:=m_ E R;have G:=m_ E S;simp only[eH,c_]at h;obtain⟨z,Ζ,k,hk,h⟩:=h;obtain⟨k0,K⟩:=ke G Ζ;obtain⟨Γ,Ε,Α,h4⟩:=FO hk;have q:∀m,a.eval x=.pointer (Y m)->(Ω a.eval o).run P w=.ok (.value (.pointer (Y (m.add (k*n))))) w:=by intro m f;simp only[Ω,Η,Instr.indexAt,Sem.run_bind,K,C6,Sem.run_pure,Ξ,sJ F,f,ϩ];rw[Μ ⟨Γ,Ε⟩];simp only[Sem.run_bind,Tm T,Ξ,Sem.run_pure,Α]
 split at h
 ·rename_i b off sz r;rw[r]at l;simp only[az,a_]at h;obtain⟨rfl,rfl,_⟩:=h;obtain⟨m,f,O⟩:=l.KI (off:=k*n)
  grind[Yields.same]
 ·rename_i cs off r;rw[r]at l;simp only[az,a_]at h;obtain⟨rfl,rfl,_⟩:=h;obtain⟨m,f,O⟩:=l.rR.KI (off:=k*n);exact⟨rfl,Yields.same (q m f) (.c O)⟩
 ·rename_i g r;rw[r]at l;split at h
  ·simp at h
  ·rename_i v p hg;simp only[az,a_]at h;obtain⟨rfl,rfl,_⟩:=h;have f:a.eval x=.pointer (Y ⟨g,0,U⟩):=by
    generalize a.eval x=y at l;cases l with
    |c l=>cases l;rfl
   have Β:∀(j:X) u,(v::p)[j]? =Y u->Fz g/\w.cell? ⟨g,j,U⟩=Y u/\u.oneCell'=W:=λj u s=>Gl.tabOk g j u A (by simp_all);refine⟨rfl,Yields.same (q _ f) (.c ?_)⟩;have:=VC.cQ (Fz:=Fz) (w:=w) (cs:=(v::p).map .lit) (off:=k*n) g 0 (λj=>((v::p)[j]?).getD default) (Β 0 v rfl).1 (λj d s=>?_) (λj d s=>?_)
   ·have e:(⟨g,0,U⟩:C4).add (k*n)=⟨g,k*n,U⟩:=by
     simp only[C4.add,OX]
     simp_all
    simp_all
   ·grind
   ·rw[jG,cJ]at s;obtain⟨u,F,rfl⟩:=s;simp only[F,VX];exact .lit u
 simp_all
def gp(E:dO V M Fz w env a.tmps){x:ε}{f:aU}{n k:X}(g:cu x=Y f)(h:((un (f.ev env)).bind λi=>SJ i n)=Y k)(b:X)(hm:n<=b)(d:BoundsCode):(ϭ (a.eval x) b d).run P w=.ok k w/\k<=n:=by simp only[c_]at h;obtain⟨i,j,l⟩:=h;obtain⟨q,e⟩:=ke (m_ E g) j;obtain⟨m,r,o,p⟩:=inB_inv l;refine⟨?_,p⟩;simp only[ϭ,Sem.run_bind,e,C6,Sem.run_pure,Ξ];rw[Μ ⟨m,by omega⟩,o];rfl
def iV(E:dO V M Fz w env a.tmps){lo g:Δ ε}{i e:Δ aU}{len j cap l h:X}(b:Jk lo=Y i)(d:Jk g=Y e)(r:j<=cap)(s:e=U->len<=j)(o:oY env len j e=Y h)(n:oY env 0 h i=Y l):(ϟ W len cap (lo.map a.eval) (g.map a.eval) U).run P w=.ok (l,h,cap) w/\h<=j/\l<=h:=by have p:h<=j/\(match g.map a.eval,(U:Δ Ο)with|Y v,Y _=>ϭ v cap .slice3B|Y v,U=>ϭ v cap (if W then .sliceAcap else .sliceAlen)|U,U=>pure len|U,Y _=>stuck "Slice: max without high":Sem X).run P w=.ok h w:=by{cases g with|none=>simp only[Jk,az]at d;subst d;simp only[oY,az]at o;simp_all|some x=>simp only[Jk,cJ]at d;obtain⟨t,f,rfl⟩:=d;simp only[oY]at o;obtain⟨u,y⟩:=gp (P:=P) (w:=w) E f o cap r .sliceAcap;simp_all};have q:l<=h/\(match lo.map a.eval with|Y v=>ϭ v h (if(U:Δ Ο).isSome then .slice3C else .sliceB)|U=>pure 0:Sem X).run P w=.ok l w:=by{cases lo with|none=>simp only[Jk,az]at b;subst b;simp only[oY,az]at n;subst n;simp_all|some x=>simp only[Jk,cJ]at b;obtain⟨t,f,rfl⟩:=b;simp only[oY]at n;obtain⟨u,y⟩:=gp (P:=P) (w:=w) E f n h (cU _) .sliceB;simp_all};refine⟨?_,p.1,q.1⟩;have k:=p.2;have m:=q.2;clear p q;cases g<;>cases lo<;>simp only[Cs,yCn,Sem.run_pure,Result.ok.injEq,OW]at k m<;>simp only[ϟ,Cs,yCn,Sem.run_bind,Sem.run_pure,Ξ,k,m]
def slc_ok(E:dO V M Fz w env a.tmps){o:ω}{t e:Ψ}{x:ε}{lo S:Δ ε}{ox:aU}{p g:Δ aU}{n:X}{d:D}
  (ho:o.op=.slice t x lo S U)(hx:cu x=Y ox)(r:Jk lo=Y p)(u:Jk S=Y g)(hu:P.underlying t=Y (.slice e))(hn:bS P e=Y n)
  (h:(match ox.ev env with
  |.c (.lit (.slice U 0 0))=>do
   let h <-oY env 0 0 g
   let _ <-oY env 0 h p
   Y (.c (.lit (.slice U 0 0)),V,([]:Z X))
  |.c (.dg nn f)=>do
   let h <-oY env f.length f.length g
   let l <-oY env 0 h p
   if f.all (λe=>e.length=n)then Y (.c (.dg nn ((f.take h).drop l)),V,[])else U
  |.sl b off len f sz=>do
   let _ <-kE V b sz
   let h <-(oY env len len g).orElse λ_=>oY env len ((sz-off) / f) g
   let l <-oY env 0 h p
   if f=n then Y (.sl b (off+l*n) (h-l) n sz,V,[])else U
  |_=>U)=Y (d,V',[])):V'=V/\Yields P (Ω a.eval o) V M Fz w d:=by
 have L:=m_ E hx;have F:∀Ζ len cap l h,a.eval x=.slice Ζ len cap->(ϟ W len cap (lo.map a.eval) (S.map a.eval) U).run P w=.ok (l,h,cap) w->
   (Ω a.eval o).run P w=.ok (.value (.slice (if cap=l then Ζ else Ζ.map (·.add (l*n))) (h-l) (cap-l))) w:=by
  intro Ζ len cap l h k z;have Γ:∀(s:Sem Ο),(match ϐ.slice e with| .array _ _=>s|_=>rx t (a.eval x) (lo.map a.eval) (S.map a.eval) U)=rx t (a.eval x) (lo.map a.eval) (S.map a.eval) U:=λ_=>rfl;simp only[Ω,ho,A9,Sem.run_bind,sJ hu,Ξ,yCn];simp only[rx,Sem.run_bind,sJ hu,Ξ,k,z,Tm hn,Sem.run_pure]
 split at h
 ·rename_i N;rw[N]at L;simp only[eH,c_,az,a_]at h;obtain⟨m,v,l,O,rfl,rfl,_⟩:=h;obtain⟨z,h3,h4⟩:=iV (P:=P) (w:=w) E r u (cU 0) (λ_=>cU _) v O;refine⟨rfl,Yields.same (F _ _ _ _ _ L.cz z) ?_⟩;obtain rfl:m=0:=by omega
  obtain rfl:l=0:=by omega
  exact .c (.lit _)
 ·rename_i nn f N;rw[N]at L;simp only[eH,c_]at h;obtain⟨m,v,l,O,h⟩:=h;split at h
  ·rename_i a2;simp only[az,a_]at h;obtain⟨rfl,rfl,_⟩:=h;have Ε:=L.rR;generalize k:a.eval x=va at Ε;cases Ε with
   |dg aC Ζ cap a6 hz c ab A hc a7=>
    obtain⟨z,h3,h4⟩:=iV (P:=P) (w:=w) E r u A (λ_=>cU _) v O;refine⟨rfl,Yields.same (F _ _ _ _ _ k z) (.c ?_)⟩;have Α:((f.take m).drop l).length=m-l:=by simp_all
    rw[<-Α];refine .dg n _ _ (λhn=>by grind) (λhn=>by
     by_cases y:cap=l
     ·omega
     simp_all) (λi j=>c (l+i) j) (λe N=>?_) (by omega) (λi j e d G h6=>?_) (λi j e d G h6=>?_)
    ·grind
    ·rw[yBX]at G;have af:=(fV.1 G).1;simp at af;rw[yB9 (by omega)]at G;obtain⟨blk,o0,rfl,hF,ak,an⟩:=hc (l+i) j e d G h6;have Β:aC=n:=by
      grind
     subst Β;refine⟨blk,o0+l*aC,by rw[Κ (by omega)];simp[fK],hF,?_,an⟩
     grind
    grind
  simp_all
 ·rename_i b off len f sz N;rw[N]at L;simp only[eH,c_]at h;obtain⟨cs,hr,m,v,l,O,h⟩:=h;split at h
  ·rename_i av;subst av;simp only[az,a_]at h;obtain⟨rfl,rfl,_⟩:=h;obtain⟨G,h6⟩:=SF hr;rcases L.fW hr with⟨k,e2,e3,e4,e6⟩|⟨c,Η,cap,aa,T,hM,k,hl,a5,hh,A,ab⟩
   ·subst e2;have aw:oY env 0 0 g=Y m:=by
     simp_all
    obtain⟨z,h3,h4⟩:=iV (P:=P) (w:=w) E r u (cU 0) (λ_=>cU _) aw O
    grind[Yields.same]
   obtain⟨R,ax,a0,a8,v⟩:∃R,R<=cap/\(g=U->len<=R)/\off+R*f<=sz/\oY env len R g=Y m:=by
    cases a1:oY env len len g with
    |some q=>grind
    |none=>
     rw[a1]at v;have v:oY env len ((sz-off) / f) g=Y m:=by simp_all
     have hd:(sz-off) / f*f<=sz-off:=X.div_mul_le_self _ _;refine⟨_,?_,λe=>by grind[oY],by omega,v⟩;rcases X.eq_zero_or_pos f with h0|h0
     ·simp_all
     ·exact X.div_le_of_le_mul (by grind)
   obtain⟨z,h3,h4⟩:=iV (P:=P) (w:=w) E r u ax a0 v O;refine⟨rfl,Yields.same (F _ _ _ _ _ k z) ?_⟩;have K:(if cap=l then Y (uo c Η U)else(Y (uo c Η U)).map (·.add (l*f)))=Y (if cap=l then uo c Η U else(uo c Η U).add (l*f)):=by grind
   rw[K];refine .sl _ _ _ (by simp) _ G (by grind[Ob.sz]) (λ_=>?_);have a9:l*f+(m-l)*f=m*f:=by rw[<-OQ];simp_all
   have bb:m*f<=R*f:=Ja _ h3;by_cases y:cap=l
   ·rw[Μ y];have h0:cap-l=0:=by omega
    subst y;refine .inr ⟨c,Η,aa,T,hM,rfl,rfl,⟨by omega,by omega⟩,.inr (by omega),hh,?_,?_⟩
    ·grind
    ·omega
   ·rw[Κ y];have bc:l*f+(cap-l)*f=cap*f:=by rw[<-OQ];grind
    refine .inr ⟨c,Η+l*f,aa,T,hM,by rw[fK],rfl,⟨by omega,by omega⟩,?_,hh,by omega,by omega⟩;omega
  simp_all
 simp_all
theorem slca_ok(E:dO V M Fz w env a.tmps){o:ω}{t e:Ψ}{x:ε}{v:aU}{m off:X}{cs:Z C}(z:o.op=.slice t x U U U)(A:cu x=Y v)(F:P.underlying t=Y (.array m e))(G:bS P e=Y 1)(p:v.ev env=.c (.cQ cs off))(K:off+m<=cs.length):Yields P (Ω a.eval o) V M Fz w (.c (.dg Ι (((cs.drop off).take m).map λc=>[c]))):=by have y:=m_ E A;rw[p]at y;have k:=y.rR;generalize q:a.eval x=S at k;cases k with|cQ blk l c L N r=>have f:(((cs.drop off).take m).map λc=>[c]).length=m:=by{simp;omega};have n:(Ω a.eval o).run P w=.ok (.value (.slice (Y ⟨blk,l+off,U⟩) (((cs.drop off).take m).map λc=>[c]).length m)) w:=by{rw[f];simp only[Ω,z,A9,Sem.run_bind,sJ F,Ξ,yCn,q,ϩ,Sem.run_pure,ϟ,Tm G];simp only[yC4,yCo];split<;>rfl};have get:∀(i j:X)(e:Z C)(d:C),(((cs.drop off).take m).map λc=>[c])[i]? =Y e->e[j]? =Y d->j=0/\i<m/\cs[off+i]? =Y d:=by{intro i j e d b g;rw[jG,cJ]at b;obtain⟨x,b,rfl⟩:=b;have s:=(fV.1 b).1;have O:j=0:=by{have:=(fV.1 g).1;simp at this;exact this};subst O;simp only[vG,az]at g;subst g;simp only[Dl,yBV]at s;refine⟨rfl,by omega,?_⟩;rw[yB9 (by omega),yBX]at b;exact b};refine Yields.same n (.c (.dg 1 (Y ⟨blk,l+off,U⟩) m (λ_=>rfl) (λh=>by cases h) (λi _=>c (off+i)) (λe p=>?_) (yCh f) (λi j e d b g=>?_) (λi j e d b g=>?_)));{obtain⟨x,_,rfl⟩:=fT.1 p;rfl};{obtain⟨rfl,s,u⟩:=get i j e d b g;obtain⟨Η,R⟩:=N _ d u;exact⟨blk,l+off,rfl,L,by rw[show l+off+i*1+0=l+(off+i)by omega];exact Η,R⟩};obtain⟨rfl,s,u⟩:=get i j e d b g;exact r _ d u
def slc3xok(E:dO V M Fz w env a.tmps){o:ω}{t e:Ψ}{x lo m p:ε}{u f g j:aU}{n b off len es sz h l:X}{cs:Z D}(A:o.op=.slice t x (Y lo) (Y m) (Y p)) (F:cu x=Y u)(q:cu lo=Y f)(r:cu m=Y g)(s:cu p=Y j)(y:P.underlying t=Y (.slice e))(G:bS P e=Y n)(K:u.ev env=.sl b off len es sz)(L:kE V b sz=Y cs)(N:((un (j.ev env)).bind λi=>SJ i len)=Y len)(O:((un (g.ev env)).bind λi=>SJ i len)=Y h)(Η:((un (f.ev env)).bind λi=>SJ i h)=Y l):Yields P (Ω a.eval o) V M Fz w .any:=by have z:=m_ E F;rw[K]at z;have Β:∀k cap,len<=cap->a.eval x=.slice k len cap->Yields P (Ω a.eval o) V M Fz w .any:=by{intro k cap R d;have S:=(gp (P:=P) (w:=w) E s N cap R .slice3Acap).1;have Ζ:=(gp (P:=P) (w:=w) E r O len (cU _) .slice3B).1;have Γ:=(gp (P:=P) (w:=w) E q Η h (cU _) .slice3C).1;have Ε:(ϟ W len cap (Y (a.eval lo)) (Y (a.eval m)) (Y (a.eval p))).run P w=.ok (l,h,len) w:=by{simp only[ϟ,Sem.run_bind,Υ,S,Ξ,Ζ,Δ.isSome,Γ,Sem.run_pure]};refine Yields.same (v:=.slice (if len=l then k else k.map (·.add (l*n))) (h-l) (len-l)) ?_ (.any _);simp only[Ω,A,A9,Sem.run_bind,sJ y,Ξ,Cs];simp only[rx,Sem.run_bind,sJ y,Ξ,d,Ε,Tm G,Sem.run_pure]};rcases z.fW L with⟨d,e2,_,_,_⟩|⟨c,o',cap,Α,T,hM,d,hl,_,_,_,_⟩;{simp_all};grind
theorem Tc(E:dO V M Fz w env a.tmps){o:ω}{x:ε}{i:X}{h:aU}{ds:Z D}{d:D}(l:o.op=.extract x i)(m:cu x=Y h)(n:h.ev env=.aX ds)(j:ds[i]? =Y d):Yields P (Ω a.eval o) V M Fz w d:=by have b:=m_ E m;rw[n]at b;generalize f:a.eval x=p at b;cases b with|aX k q g=>have r:=(fV.1 j).1;have e:k[i]? =Y (k[i]'(by omega)):=sL _;refine Yields.same ?_ (g i _ _ j e);simp[Ω,l,Instr.extract,f,e]
theorem list_ok(E:dO V M Fz w env a.tmps):∀(xs:Z ε)(os:Z aU),xs.mapM cu=Y os->(xs.map a.eval).length=(os.map (aU.ev env)).length/\∀(i:X) d v,(os.map (aU.ev env))[i]? =Y d->(xs.map a.eval)[i]? =Y v->σ V M Fz w d v:=by intro xs;induction xs with|nil=>simp_all|cons x xs ih=>grind[ζ,m_]
def OH(E:dO V M Fz w env a.tmps){xs:Φ ε}{os:Z aU}(h:NH xs=Y os):(xs.map a.eval).size=(os.map (aU.ev env)).length/\∀(i:X) d v,(os.map (aU.ev env))[i]? =Y d->(xs.map a.eval)[i]? =Y v->σ V M Fz w d v:=by obtain⟨b,e⟩:=list_ok E xs.toList os h;grind
def mkfn_ok(E:dO V M Fz w env a.tmps){o:ω}{f:Fn}{first cap:Φ ε}{b d:Z aU}(e:o.op=.makeFunc f first cap)(g:NH first=Y b)(h:NH cap=Y d):Yields P (Ω a.eval o) V M Fz w (.fn f (b.map (aU.ev env)) (d.map (aU.ev env))):=by obtain⟨i,j⟩:=OH E g;obtain⟨k,l⟩:=OH E h;refine Yields.same (v:=.func f (first.map a.eval) (cap.map a.eval)) ?_ (.fn _ _ i k j l);simp[Ω,e,Instr.makeFunc]
theorem Sy{t:Ψ}{n:Δ X}{cs:Z D}{vs:Φ Ο}{off:X}{d:D}(g:Ig P t=Y n)(f:yf n cs off=Y d)(q:vs.size=cs.length)(o:∀(i:X) d v,cs[i]? =Y d->vs[i]? =Y v->σ V M Fz w d v):∃v,(part t vs off).run P w=.ok v w/\σ V M Fz w d v:=by unfold Ig at g;have agg:∀(i:ik),P.info? t=Y i->n=Y i.size->(B6 t).run P w=.ok W w->∃v,(part t vs off).run P w=.ok v w/\σ V M Fz w d v:=by{intro i k g b;subst g;simp only[yf]at f;split at f;{rename_i p;simp only[az]at f;subst f;refine⟨.agg (vs.extract off (off+i.size)),by simp only[part,Sem.run_bind,b,Ξ,Υ,sizeOf,zd0 k,Sem.run_pure],?_⟩;refine .agg _ (by grind) (λj x v r s=>?_);grind};simp_all};have one:n=U->(B6 t).run P w=.ok Ι w->∃v,(part t vs off).run P w=.ok v w/\σ V M Fz w d v:=by{intro g b;subst g;simp only[yf]at f;have k:=(fV.1 f).1;have e:vs[off]? =Y (vs[off]'(by omega)):=sL _;exact⟨_,by simp only[part,Sem.run_bind,b,Ξ,cf,cy,e,Sem.run_pure],o _ _ _ f e⟩};cases k:P.info? t with|none=>simp_all|some i=>cases m:P.underlying t with|none=>simp_all|some h=>rw[k,m]at g;have l:(B6 t).run P w=.ok (h matches .struct _| .array _ _) w:=by{simp only[B6,Sem.run_bind,sJ m,Ξ];cases h<;>rfl};grind
theorem part_ok(E:dO V M Fz w env a.tmps){o:ω}{t:Ψ}{x:ε}{i:aU}{f:X}{j:Φ sd}{b:sd}{n:Δ X}{cs:Z D}{d:D}(k:o.op=.field t x f)(l:cu x=Y i)(m:P.underlying t=Y (.struct j))(p:j[f]? =Y b)(q:Ig P b.type=Y n)(r:i.ev env=.agg cs)(s:yf n cs b.offset=Y d):Yields P (Ω a.eval o) V M Fz w d:=by have e:=m_ E l;rw[r]at e;generalize g:a.eval x=A at e;cases e with|agg F u h=>obtain⟨v,y,z⟩:=Sy (P:=P) q s u h;refine Yields.same (v:=v) ?_ z;simp only[Ω,k,Instr.field,Sem.run_bind,sJ m,Ξ,p,g,asAgg,Sem.run_pure,y]
theorem aidx_ok(E:dO V M Fz w env a.tmps){o:ω}{t e:Ψ}{x i:ε}{j l:aU}{len sz k:X}{n:Δ X}{cs:Z D}{d:D}{z:Q}(m:o.op=.index t x i)(p:cu x=Y j)(q:cu i=Y l)(r:P.underlying t=Y (.array len e))(s:bS P e=Y sz)(u:Ig P e=Y n)(y:j.ev env=.agg cs)(A:un (l.ev env)=Y z)(hk:EO z len=Y k)(F:yf n cs (k*sz)=Y d):Yields P (Ω a.eval o) V M Fz w d:=by have b:=m_ E p;rw[y]at b;obtain⟨R,f⟩:=ke (m_ E q) A;obtain⟨G,K,L,S⟩:=FO hk;generalize g:a.eval x=T at b;cases b with|agg Ζ N h=>obtain⟨v,O,Η⟩:=Sy (P:=P) u F N h;refine Yields.same (v:=v) ?_ Η;simp only[Ω,m,Instr.index,Sem.run_bind,f,C6,Sem.run_pure,Ξ,sJ r,g];rw[Μ ⟨G,K⟩];simp only[Sem.run_bind,Tm s,Ξ,L,O]
end
end Go.Abs
end
section
namespace Go.Abs
variable[Gl]
section
variable{P:Ν}{V V':au}{M M':X->Δ X}{Fz:X->Prop}{w w':Τ}{env:Z D}{a:Act}
def nilck_ok(E:dO V M Fz w env a.tmps){o:ω}{x:ε}{l:aU}{d:D}(j:o.op=.nilCheck x)(m:cu x=Y l)(h:(match l.ev env with|.ptr b off sz=>Y (.ptr b off sz,V,([]:Z X))|.c (.cQ n off)=>Y (.c (.cQ n off),V,[])|.c (.fn (.func f) first cap)=>Y (.c (.fn (.func f) first cap),V,[])|.fn (.func f) first cap=>Y (.fn (.func f) first cap,V,[])|_=>U)=Y (d,V',[])):V'=V/\Yields P (Ω a.eval o) V M Fz w d:=by have e:=m_ E m;split at h;{rename_i i;rw[i]at e;simp only[az,a_]at h;obtain⟨rfl,rfl,_⟩:=h;refine⟨rfl,Yields.same (v:=a.eval x) ?_ e⟩;generalize g:a.eval x=k at e;cases e with|ptr=>simp[Ω,j,g]};{rename_i i;rw[i]at e;simp only[az,a_]at h;obtain⟨rfl,rfl,_⟩:=h;refine⟨rfl,Yields.same (v:=a.eval x) ?_ e⟩;generalize g:a.eval x=k at e;cases e with|c e=>cases e with|cQ=>simp[Ω,j,g]};{rename_i i;rw[i]at e;simp only[az,a_]at h;obtain⟨rfl,rfl,_⟩:=h;refine⟨rfl,Yields.same (v:=a.eval x) ?_ e⟩;generalize g:a.eval x=k at e;cases e with|c e=>cases e with|fn=>simp[Ω,j,g]};{rename_i i;rw[i]at e;simp only[az,a_]at h;obtain⟨rfl,rfl,_⟩:=h;refine⟨rfl,Yields.same (v:=a.eval x) ?_ e⟩;generalize g:a.eval x=k at e;cases e with|fn=>simp[Ω,j,g]};simp_all
inductive iK:ϐ->Ο->Ο->Λ->Prop where|p0 (e:Ψ):iK (.pointer e) (.pointer U) (.pointer U) W|p1 (e:Ψ)(ad:C4):iK (.pointer e) (.pointer (Y ad)) (.pointer U) Ι|m0 (k e:Ψ):iK (.map k e) (.map U) (.map U) W|m1 (k e:Ψ)(r:X):iK (.map k e) (.map (Y r)) (.map U) Ι|f0 (p r:Φ Ψ)(v:Λ):iK (.func p r v) .nilFunc .nilFunc W|f1 (p r:Φ Ψ)(v:Λ)(f:Fn)(x y:Φ Ο):iK (.func p r v) (.func f x y) .nilFunc Ι|s0 (e:Ψ):iK (.slice e) (.slice U 0 0) (.slice U 0 0) W|s1 (e:Ψ)(ad:C4)(n c:X):iK (.slice e) (.slice (Y ad) n c) (.slice U 0 0) Ι
def Zq{t:Ψ}{d:ϐ}{x y:Ο}{b:Λ}(e:P.underlying t=Y d)(h:iK d x y b)(w:Τ):(Op.equal t x y).run P w=.ok b w/\(Op.equal t y x).run P w=.ok b w:=by constructor;{show(Op.equalIn (9999+1) t x y).run P w=_;generalize 9999=n;cases h<;>(unfold Op.equalIn;simp[sJ e])};show(Op.equalIn (9999+1) t y x).run P w=_;generalize 9999=n;cases h<;>(unfold Op.equalIn;simp[sJ e])
def Ey{t:Ψ}{d:ϐ}{x y:Ο}{b:Λ}(e:P.underlying t=Y d)(h:iK d x y b)(neg:Λ)(Ε Α:ε)(w:Τ):
  ((do mu (if neg then .neq else .eql) t Ε Α x y;sw (if neg then .neq else .eql) t x y:Sem Ο).run P w=.ok (.bool (if neg then !b else b)) w)/\
  ((do mu (if neg then .neq else .eql) t Α Ε y x;sw (if neg then .neq else .eql) t y x:Sem Ο).run P w=.ok (.bool (if neg then !b else b)) w):=by
 obtain⟨f,g⟩:=Zq e h w;have i:∀op,(mu op t Ε Α x y).run P w=.ok () w:=by intro op;cases h<;>cases op<;>rfl
 have j:∀op,(mu op t Α Ε y x).run P w=.ok () w:=by intro op;cases h<;>cases op<;>rfl
 have k:(sw (if neg then .neq else .eql) t x y).run P w=.ok (.bool (if neg then !b else b)) w:=by
  cases neg
  ·have:sw .eql t x y=(do pure (.bool (<-Op.equal t x y)):Sem Ο):=by cases h<;>rfl
   simp_all
  ·have:sw .neq t x y=(do pure (.bool (!(<-Op.equal t x y))):Sem Ο):=by cases h<;>rfl
   simp_all
 have l:(sw (if neg then .neq else .eql) t y x).run P w=.ok (.bool (if neg then !b else b)) w:=by
  cases neg
  ·have:sw .eql t y x=(do pure (.bool (<-Op.equal t y x)):Sem Ο):=by cases h<;>rfl
   simp_all
  ·have:sw .neq t y x=(do pure (.bool (!(<-Op.equal t y x))):Sem Ο):=by cases h<;>rfl
   simp_all
 simp_all
def Kr{l:ϐ}{k:X}{d:D}{v:Ο}{b:Λ}(hk:BN l=Y k)(e:σ V M Fz w d v)(h:isNil k d=Y b): ∃f,iK l v f b/\((k=0/\f=.pointer U)\/(k=1/\f=.map U)\/(k=2/\f=.nilFunc)\/(k=3/\f=.slice U 0 0)):=by cases l<;>simp only[BN,az,reduceCtorEq]at hk<;>subst hk;{cases d with|ptr=>{simp only[isNil,az]at h;subst h;cases e with|ptr g=>exact⟨_,.p1 _ g,.inl ⟨rfl,rfl⟩⟩}|c x=>{cases x with|cQ=>{simp only[isNil,az]at h;subst h;cases e with|c e=>cases e with|cQ=>exact⟨_,.p1 _ _,.inl ⟨rfl,rfl⟩⟩}|lit u=>cases u<;>simp[isNil]at h;rename_i p;cases p<;>simp at h;subst h;rw[e.cz];exact⟨_,.p0 _,.inl ⟨rfl,rfl⟩⟩|_=>grind[isNil]}|_=>grind[isNil]};{cases d with|sl b off len aC sz=>{cases len with|zero=>simp[isNil]at h|succ len=>simp only[isNil,az]at h;subst h;cases e with|sl g n cap i=>cases g with|none=>simp_all|some g=>exact⟨_,.s1 _ _ _ _,.inr (.inr (.inr ⟨rfl,rfl⟩))⟩}|c x=>{cases x with|dg nn o=>{cases nn<;>simp only[isNil,az,reduceCtorEq]at h;subst h;have j:=e.rR;generalize m:C.dg W o=x at j;cases j with|dg aC g cap i=>simp only[C.dg.injEq]at m;obtain⟨rfl,rfl⟩:=m;obtain⟨q,rfl⟩:=yB0.1 (i rfl);exact⟨_,.s1 _ _ _ _,.inr (.inr (.inr ⟨rfl,rfl⟩))⟩|_=>grind}|lit u=>(cases u<;>try grind[isNil]);rename_i p n c;cases p<;>cases n<;>cases c<;>simp[isNil]at h;subst h;rw[e.cz];exact⟨_,.s0 _,.inr (.inr (.inr ⟨rfl,rfl⟩))⟩|_=>grind[isNil]}|_=>grind[isNil]};{cases d with|mp=>{simp only[isNil,az]at h;subst h;cases e with|mp=>exact⟨_,.m1 _ _ _,.inr (.inl ⟨rfl,rfl⟩)⟩}|c x=>{cases x with|Qv=>{simp only[isNil,az]at h;subst h;cases e with|c e=>cases e with|Qv=>exact⟨_,.m1 _ _ _,.inr (.inl ⟨rfl,rfl⟩)⟩}|lit u=>cases u<;>simp[isNil]at h;rename_i p;cases p<;>simp at h;subst h;rw[e.cz];exact⟨_,.m0 _ _,.inr (.inl ⟨rfl,rfl⟩)⟩|_=>grind[isNil]}|_=>grind[isNil]};cases d with|fn=>{simp only[isNil,az]at h;subst h;cases e with|fn=>exact⟨_,.f1 _ _ _ _ _ _,.inr (.inr (.inl ⟨rfl,rfl⟩))⟩}|c x=>{cases x with|fn=>{simp only[isNil,az]at h;subst h;cases e with|c e=>cases e with|fn=>exact⟨_,.f1 _ _ _ _ _ _,.inr (.inr (.inl ⟨rfl,rfl⟩))⟩}|lit u=>cases u<;>simp[isNil]at h;subst h;rw[e.cz];exact⟨_,.f0 _ _ _,.inr (.inr (.inl ⟨rfl,rfl⟩))⟩|_=>grind[isNil]}|_=>grind[isNil]
def xw{k:X}{x:ε}{b:Ο}(h:tf k x=W)(d:(k=0/\b=.pointer U)\/(k=1/\b=.map U)\/(k=2/\b=.nilFunc)\/(k=3/\b=.slice U 0 0)):x=.const b:=by unfold tf at h;grind
def RP(E:dO V M Fz w env a.tmps){o:ω}{t u:Ψ}{m:ϐ}{x y:ε}{neg:Λ}{k n:X}{d:Λ}{p:aU}{b:Λ}(q:o.op=.binOp (if neg then .neq else .eql) t x y u)(r:P.underlying t=Y m)(hk:BN m=Y k)(f:yN k neg x y=Y (.jQ n d p))(s:isNil n (p.ev env)=Y b):Yields P (Ω a.eval o) V M Fz w (.c (.lit (.bool (if d then !b else b)))):=by unfold yN at f;split at f;{rename_i z;simp only[cJ,lY.jQ.injEq]at f;obtain⟨j,g,rfl,rfl,rfl⟩:=f;obtain⟨h,l,i⟩:=Kr hk (m_ E g) s;obtain rfl:=xw z i;refine Yields.same (v:=.bool (if neg then !b else b)) ?_ (.c (.lit _));have:=(Ey r l neg x (.const h) w).1;simp only[Ω,q,Sem.run_bind];simp only[Sem.run_bind]at this;have e:a.eval (.const h)=h:=rfl;simp_all};split at f;{rename_i A;simp only[cJ,lY.jQ.injEq]at f;obtain⟨j,g,rfl,rfl,rfl⟩:=f;obtain⟨h,l,i⟩:=Kr hk (m_ E g) s;obtain rfl:=xw A i;refine Yields.same (v:=.bool (if neg then !b else b)) ?_ (.c (.lit _));have:=(Ey r l neg y (.const h) w).2;simp only[Ω,q,Sem.run_bind];simp only[Sem.run_bind]at this;have e:a.eval (.const h)=h:=rfl;simp_all};simp_all
def tx{d:D}{v:Ο}{n:X}(b:σ V M Fz w d v)(h:IP V d=Y n):∃g cap,v=.slice g n cap:=by unfold IP at h;split at h;{grind[σ.cz]};{simp only[az]at h;subst h;cases b with|c b=>cases b with|dg=>simp_all};{split at h;{rename_i e;simp only[az]at h;subst h;obtain⟨j,e⟩:=yB0.1 e;rcases b.fW e with⟨f,k,_⟩|⟨c,o,cap,i,T,_,f,_⟩;{simp_all};simp_all};simp_all};simp_all
theorem Qi{es:Z (Z C)}{n:X}(h:∀e∈es,e.length=n):∀(i j:X) e d,es[i]? =Y e->e[j]? =Y d->es.flatten[i*n+j]? =Y d:=by induction es with|nil=>simp_all|cons b es ih=>intro i j e d f g;have k:=h b (by simp);cases i with|zero=>grind|succ i=>grind
theorem PU{es:Z (Z C)}{n:X}(h:∀e∈es,e.length=n):es.flatten.length=es.length*n:=by induction es with|nil=>simp|cons b es ih=>grind
def zbQ(R:Rel V M Fz w){d:D}{v:Ο}{aC n:X}{cs:Z D}(S:σ V M Fz w d v)(h0:aC≠0)(h:Zo V aC n d=Y cs): ∃arr,(ϒ aC n v).run P w=.ok arr w/\FE V M Fz w cs arr/\cs.length=n*aC:=by have load:∀(l:C4)(len cap:X)(cs:Z D),v=.slice (Y l) len cap->cs.length=n*aC->(∀(i:X) x,cs[i]? =Y x->∃u,w.cell? (l.add i)=Y u/\σ V M Fz w x u/\u.oneCell'=W)-> ∃arr,(ϒ aC n v).run P w=.ok arr w/\FE V M Fz w cs arr/\cs.length=n*aC:=by{intro l len cap cs g m r;let f:X->Ο:=λj=>(w.cell? (l.add j)).getD Ϟ;have hf:∀j,j<n*aC->w.cell? (l.add j)=Y (f j):=by{intro j O;obtain⟨u,Η,_⟩:=r j _ (fe (by omega));grind};have z:=run_loadCells (P:=P) (w:=w) l (n*aC) f hf;refine⟨_,by rw[g];simp only[ϒ];exact z,⟨by simp_all,λi x u Η h2=>?_⟩,m⟩;grind};have s:∀(cs:Z D),n=0->cs=[]->(∃l len cap,v=.slice l len cap)->∃arr,(ϒ aC n v).run P w=.ok arr w/\FE V M Fz w cs arr/\cs.length=n*aC:=by{intro cs t A ⟨l,len,cap,g⟩;subst t A;cases l with|none=>exact⟨#[],by rw[g];rfl,⟨rfl,λi x u h=>by simp at h⟩,by simp⟩|some l=>simp_all};unfold Zo at h;split at h;{split at h;{rename_i t;simp only[az]at h;exact s cs t h.symm ⟨_,_,_,S.cz⟩};simp_all};{rename_i nn k;split at h;{rename_i Ζ;simp only[az]at h;subst h;obtain⟨t,af⟩:=Ζ;have m:∀e∈k.take n,e.length=aC:=λe he=>by{grind};have Γ:((k.take n).flatten.map D.c).length=n*aC:=by{grind[PU,G8]};have E:=S.rR;generalize g:v=va at E;cases E with|dg sz l cap ax _ c F G K Ε=>by_cases Α:n=0;{simp_all};have hp:0<k.length:=by{omega};have Β:k[0]? =Y k[0]:=fe hp;have a0:k[0].length=aC:=by{grind};have L:sz=aC:=by{simp_all};subst L;obtain⟨blk,o0,rfl,_⟩:=K 0 0 k[0] (k[0][0]'(by omega)) Β (fe _);refine g▸load _ _ _ _ g Γ (λi x y=>?_);have p:i<n*sz:=by{grind};have ak:i / sz<n:=X.div_lt_of_lt_mul (by grind);have an:i%sz<sz:=X.mod_lt _ (by omega);have hk:k[i / sz]? =Y (k[i / sz]'(by omega)):=fe _;have aa:(k.take n)[i / sz]? =Y (k[i / sz]'(by omega)):=by{simp_all};have a1:(k[i / sz]'(by omega)).length=sz:=F _ (bx _);have O:(k[i / sz]'(by omega))[i%sz]? =Y ((k[i / sz]'(by omega))[i%sz]'(by omega)):=fe _;have N:=Qi m (i / sz) (i%sz) _ _ aa O;rw[show i / sz*sz+i%sz=i from by grind[H6]]at N;rw[jG,N]at y;simp only[Cs,az]at y;subst y;obtain⟨av,a2,Η,h2,h3,h4⟩:=K _ _ _ _ hk O;simp only[az,C4.mk.injEq,OW]at Η;obtain⟨rfl,rfl⟩:=Η;refine⟨_,?_,.c (Ε _ _ _ _ hk O),h4⟩;grind[fK,H6]};simp_all};{rename_i b off len k sz;simp only[eH,c_]at h;obtain⟨row,hr,h⟩:=h;split at h;{rename_i Ζ;obtain⟨rfl,t,a5⟩:=Ζ;simp only[az]at h;subst h;obtain⟨hb,F⟩:=SF hr;rcases S.fW hr with⟨g,e2,_⟩|⟨c,o,cap,arr,T,hM,g,hl,aw,hh,G,_⟩;{simp_all};by_cases Α:n=0;{simp_all};have ab:o=off:=by{omega};subst ab;have a6:n*k<=len*k:=Ja _ t;obtain⟨q,T',a7,a8,A⟩:=R.row hM hb;refine load _ _ _ _ g (by grind) (λi x y=>?_);have p:i<n*k:=by{grind};rw[yB9 p,yBX]at y;have a9:=(fV.1 y).1;have e:q[o+i]? =Y (q[o+i]'(by omega)):=sL _;grind[fK,Go.cell_of_row]};simp_all};simp_all
def len_ok(E:dO V M Fz w env a.tmps){o:ω}{t e:Ψ}{x:ε}{g:aU}{args:Φ ε}{d:Φ Ψ}{n:X}(i:o.op=.call { callee:=.builtin .len,args:=args,argTypes:=d })(j:d[0]? =Y t)(k:args[0]? =Y x)(p:args.size=1)(l:cu x=Y g)(m:P.underlying t=Y (.slice e))(h:IP V (g.ev env)=Y n):Yields P (Ω a.eval o) V M Fz w (.c (.lit (.int .i64 n))):=by obtain⟨q,cap,f⟩:=tx (m_ E l) h;have b:args=#[x]:=by{grind};subst b;refine Yields.same (v:=.int .i64 n) ?_ (.c (.lit _));simp[Ω,i,resolve,invoke,builtin,ϻ,j,sJ m,f,F8]
def YN{o:ω}{t e:Ψ}{x:ε}{args:Φ ε}{d:Φ Ψ}{n:X}(f:o.op=.call { callee:=.builtin .len,args:=args,argTypes:=d })(g:d[0]? =Y t)(h:args[0]? =Y x)(j:args.size=1)(i:P.underlying t=Y (.array n e)):Yields P (Ω a.eval o) V M Fz w (.c (.lit (.int .i64 n))):=by have b:args=#[x]:=by{grind};subst b;refine Yields.same (v:=.int .i64 n) ?_ (.c (.lit _));simp[Ω,f,resolve,invoke,builtin,ϻ,g,sJ i,F8]
def XU(R:Rel V M Fz w)(E:dO V M Fz w env a.tmps){o:ω}{t k e:Ψ}{x:ε}{q:aU}{args:Φ ε}{m:Φ Ψ}{n:X}(r:o.op=.call { callee:=.builtin .len,args:=args,argTypes:=m })(s:m[0]? =Y t)(K:args[0]? =Y x)(Α:args.size=1)(L:cu x=Y q)(u:P.underlying t=Y (.map k e))(h:(∃b y d,q.ev env=.mp b/\V[b]? =Y (.map y d)/\n=y.length)\/(q.ev env=.c (.lit (.map U))/\n=0)\/∃z,q.ev env=.c (.Qv z)/\n=z.length):eI P (Ω a.eval o) V M Fz w V (.c (.lit (.int .i64 n))):=by have g:args=#[x]:=by{grind};subst g;refine eI.same R (v:=.int .i64 n) ?_ (.c (.lit _));have f:=m_ E L;rcases h with⟨b,y,d,p,G,rfl⟩|⟨p,rfl⟩|⟨z,p,rfl⟩;{rw[p]at f;generalize i:a.eval x=N at f;cases f with|mp c Β j O=>rw[G]at j;simp only[az]at j;subst j;obtain⟨_,Η,o',A,S,T⟩:=R.blk b c (O rfl);rw[G]at A;simp only[az]at A;subst A;obtain⟨F,⟨ck,rfl,_⟩,l,_⟩:=T;simp[Ω,r,resolve,invoke,builtin,ϻ,s,sJ u,i,F8,qr,Sem.run,S,l]};{rw[p]at f;simp[Ω,r,resolve,invoke,builtin,ϻ,s,sJ u,f.cz,F8]};rw[p]at f;generalize i:a.eval x=N at f;cases f with|c f=>cases f with|Qv blk d F hF Ζ l Γ Ε=>simp[Ω,r,resolve,invoke,builtin,ϻ,s,sJ u,i,F8,qr,Sem.run,Ζ,l]
theorem σ.Fo{d:D}{v:Ο}(h:σ V M Fz w d v):σ V M Fz w (Fo d) v:=by unfold Abs.Fo;split;{have:=h.cz;subst this;exact .c (.dg (nn:=Ι) (es:=[]) 0 U 0 (by simp) (by simp) (λ_ _=>default) (by simp) (by simp) (by simp) (by simp))};exact h
theorem FE.Fo{cs:Z D}{arr:Φ Ο}(h:FE V M Fz w cs arr):FE V M Fz w (cs.map Fo) arr:=⟨by simpa using h.1,λi x u j o=>by rw[jG,cJ]at j;obtain⟨y,s,rfl⟩:=j;exact⟨(h.2 i y u s o).1.Fo,(h.2 i y u s o).2⟩⟩
def Pz(A:∀c,Fz c->c<w.heap.size)(E:dO V M Fz w env a.tmps){o:ω}{t e:Ψ}{x y:ε}{T Ζ:aU}{n:X}{i:ik}{z:Z D}{l c:Q}(Ε:o.op=.makeSlice t x y)(Α:P.underlying t=Y (.slice e))(Β:bS P e=Y n)(hz:Wq P e=Y z)(F:P.info? e=Y i)(k:¬(n=0\/z.length≠n))(hx:cu x=Y T)(hy:cu y=Y Ζ)(hl:un (T.ev env)=Y l)(hc:un (Ζ.ev env)=Y c)(p:0<=l/\l<=c/\FM c.toNat i.bytes=W):ah P (Ω a.eval o) V M Fz w (.cells (sF l.toNat (z.map Fo))) (.sl V.length 0 l.toNat n (l.toNat*n)):=by obtain⟨i',v,g,hv,G⟩:=zdP hz;rw[F]at g;simp only[az]at g;subst g;have d:=(FE.tc (σ.eC (V:=V) (M:=M) (Fz:=Fz) (w:=w) v) G).Fo;simp only[ϥ,SG]at k;obtain⟨aa,j⟩:=k;have q:z.map Fo≠[]:=λh=>by{simp_all};rw[<-qY (f:=Fo)]at j;generalize z.map Fo=z at*;have ab:v.cells.size=n:=by{rw[d.1,j]};obtain⟨h0,ad,b⟩:=p;simp only[FM,bM,bF]at b;obtain⟨⟨af,ak⟩,_⟩:=b;obtain⟨k1,K⟩:=ke (m_ E hx) hl;obtain⟨k2,L⟩:=ke (m_ E hy) hc;obtain⟨an,N⟩:=D_ d q l.toNat c.toNat (by omega);have O:(sF l.toNat z).length=l.toNat*n:=by{rw[jp,j]};have Γ:c<=1099511627776:=by{omega};have Η:i64.wrap l=l:=IntWalk.i64_in _ (by omega);have R:i64.wrap c=c:=IntWalk.i64_in _ (by omega);let arr:Φ Ο:=(Ϭ (c.toNat*n)).map (λ(x:X)=>v.cells[x%v.cells.size]!);have r:arr=(Ϭ (c.toNat*v.cells.size)).map (v.cells[· %v.cells.size]!):=by{grind};obtain⟨r1,r2⟩:=rK (P:=P) A (arr:=arr) (cs:=sF l.toNat z) e (by simp_all) (by rw[r];exact N);refine⟨_,.slice (Y ⟨w.heap.size,0,U⟩) l.toNat c.toNat,?_,r2,?_⟩;{have s:∀m:Q,0<=m->m<=c->(m<0||(i.bytes:Q)*m>2^48)=Ι:=by{intro m av S;have h1:(i.bytes:Q)*m<=i.bytes*c:=Q.mul_le_mul_of_nonneg_left S (by omega);grind};simp only[Ω,Ε,Instr.makeSlice,Sem.run_bind,sJ Α,Ξ,K,L,asInt,C6,Sem.run_pure,zd0 F,Η,R];rw[s c (by omega) (JV _)];rw[Κ (by simp_all)];simp only[Sem.run_bind,Sem.run_pure,Ξ,run_askRoom,Tm Β];by_cases u:c.toNat*n=0;{have aw:c.toNat=0:=by{grind[H5]};have ax:l.toNat=0:=by{omega};rw[Μ u];simp only[Sem.run_bind,Sem.run_pure,Ξ];have:(Ϭ (c.toNat*n)).map (λ(x:X)=>(#[]:Φ Ο)[x%(#[]:Φ Ο).size]!)=arr:=by{grind};simp_all};rw[Κ u];simp only[Sem.run_bind,iN F hv,Ξ,Sem.run_pure];simp_all};rw[<-O];refine σ.newSl (cap:=c.toNat) (by omega) ?_ (by omega) (by simp_all);grind
end
end Go.Abs
end
section
namespace Go.Abs
variable[Gl]
section
variable{P:Ν}{V V':au}{M M':X->Δ X}{Fz:X->Prop}{w w':Τ}{env:Z D}{a:Act}
def mkmap_ok{o:ω}{t:Ψ}(b:o.op=.makeMap t U):ah P (Ω a.eval o) V M Fz w (.map [] 0) (.mp V.length):=by refine⟨.map #[] 0,.map (Y w.heap.size),?_,?_,?_⟩;{simp only[Ω,b,Instr.makeMap,yCn,Sem.run_bind,Sem.run_pure,Ξ,run_newObj];rfl};{exact⟨#[],⟨0,rfl,.nil 0⟩,rfl,λi k d n e h=>by simp at h⟩};exact .mp _ (.map [] 0) (by simp) (λ_=>by simp[yK])
def Rel.SC(R:Rel V M Fz w){b c:X}{es:Z (Ο×D×X)}{j:X}(u:V[b]? =Y (.map es j))(x:M b=Y c): ∃arr o,w.heap[c]? =Y (.map arr o)/\(arr.size=es.length/\jW arr o)/\∀(i:X) k d n e,es[i]? =Y (k,d,n)->arr[i]? =Y e->e.key=k/\True/\σ V M Fz w d e.val:=by obtain⟨_,z,F,s,G,A⟩:=R.blk b c x;rw[u]at s;simp only[az]at s;subst s;obtain⟨arr,⟨o,rfl,K⟩,E,O⟩:=A;grind
theorem σ.GJ{b:X}{v:Ο}{es:Z (Ο×D×X)}{i:X}(h:σ V M Fz w (.mp b) v)(o:V[b]? =Y (.map es i)):∃c,v=.map (Y c)/\M b=Y c:=by cases h with|mp c u j s=>rw[o]at j;simp only[az]at j;subst j;exact⟨c,rfl,s rfl⟩
theorem zc2{d:Ψ}{e:ϐ}(f:P.underlying d=Y e)(g:zfp e=W)(b:Λ)(v:Ο)(w:Τ):(ww b 10000 d v).run P w=.ok () w:=by show(ww b (9999+1) d v).run P w=_;generalize 9999=n;unfold ww;cases e<;>simp[zfp]at g<;>simp[sJ f]
theorem HL{kind:ϐ}{k:Ο}:∀(es:Z (Ο×D×X))(l:Z gx)(i:X)(r:Δ (X×D)),l.length=es.length->(∀(j:X) k d n e,es[j]? =Y (k,d,n)->l[j]? =Y e->e.key=k/\σ V M Fz w d e.val)->ui kind k es i=Y r-> ∃ b, Instr.findNow kind k l i=Y b/\(match r, b with|U,U=>True|Y (j,d),Y (m,v)=>j=m/\i<=j/\j<i+es.length/\σ V M Fz w d v/\∃e,l[j-i]? =Y e/\ϵ kind k e.key=Y W|_,_=>False):=by intro es;induction es with|nil=>intro l i r o _ h;simp only[ui,az]at h;subst h;have:l=[]:=by{simp_all};subst this;exact⟨U,rfl,trivial⟩|cons x es ih=>intro l i r o f h;obtain⟨g,d,n⟩:=x;cases l with|nil=>grind|cons e l=>obtain⟨hk,u⟩:=f 0 g d n e (by simp) (by simp);simp only[ui]at h;simp only[Instr.findNow,hk];cases p:ϵ kind k g with|none=>simp_all|some t=>cases t with|true=>grind|false=>simp only[p]at h;obtain⟨b,q,s⟩:=ih l (i+1) r (by simp_all) (λj k d n e q s=>f (j+1) k d n e (by simp_all) (by simp_all)) h;grind
theorem Eo{d:D}{v b:Ο}(h:σ V M Fz w d b)(e:jq d=Y v):b=v:=by cases d with|c x=>cases x<;>simp[jq]at e;grind[σ.cz]|_=>grind[jq]
theorem Yg(R:Rel V M Fz w)(E:dO V M Fz w env a.tmps){o:ω}{t kt e:Ψ}{Ε:ϐ}{m k:ε}{Α ok:aU}{f:Λ}{zero d:D}{s:Λ}{Β:Ο}{es:Z (Ο×D×X)}{r:Δ (X×D)}(ho:o.op=.lookup t m k f)(hu:P.underlying t=Y (.map kt e))(hk:P.underlying kt=Y Ε)(hs:zfp Ε=W)(hz:zeroOf P e=Y zero)(hm:cu m=Y Α)(aa:cu k=Y ok)(ab:jq (ok.ev env)=Y Β)(ad:(Α.ev env=.c (.lit (.map U))/\es=[])\/(∃b g,Α.ev env=.mp b/\V[b]? =Y (.map es g))\/∃fs,Α.ev env=.c (.Qv fs)/\es=fs.map λp=>(p.1,.c p.2,0))(hf:ui Ε Β es 0=Y r)(hr:(d,s)=SS zero r):eI P (Ω a.eval o) V M Fz w V (if f then .aX [d,.c (.lit (.bool s))]else d):=by have F:=Eo (m_ E aa) ab;obtain⟨i,K,hi,N,af⟩:∃i K,P.info? e=Y i/\i.zero=Y K/\zero=eC K:=by{unfold zeroOf at hz;grind[ψ]};have G:=m_ E hm;obtain⟨l,O,ak,Η⟩:∃l:Φ gx,((a.eval m=.map U/\l=#[])\/∃c,a.eval m=.map (Y c)/\∃g,(qr c).run P w=.ok (.map l g) w)/\l.size=es.length/\ ∀(i:X) k d n e,es[i]? =Y (k,d,n)->l[i]? =Y e->e.key=k/\σ V M Fz w d e.val:=by{rcases ad with⟨S,rfl⟩|⟨b,g,S,hb⟩|⟨fs,S,rfl⟩;{rw[S]at G;exact⟨#[],.inl ⟨G.cz,rfl⟩,rfl,λi k d n e h=>by simp at h⟩};{rw[S]at G;obtain⟨c,A,hM⟩:=G.GJ hb;obtain⟨l,ck,T,⟨h2,_⟩,h3⟩:=R.SC hb hM;grind[Go.getObj,Go.Sem.run]};rw[S]at G;generalize A:a.eval m=va at G;cases G with|c G=>cases G with|Qv blk g l hF hh ak an av=>refine⟨l,.inr ⟨blk,rfl,g,by simp[qr,Sem.run,hh]⟩,by simp_all,λi k d n e x y=>?_⟩;simp only[jG,cJ,a_]at x;obtain⟨p,hp,rfl,rfl,_⟩:=x;exact⟨an i p e hp y,.c (av i p e hp y)⟩};obtain⟨Ζ,aw,ax⟩:=HL (kind:=Ε) (k:=Β) es l.toList 0 r (by omega) (λj k d n e T h2=>Η j k d n e T (by simp_all)) hf;have L:(Ϯ kt Β l.toList).run P w=.ok Ζ w:=by{simp only[Ϯ,Sem.run_bind,sJ hk,Ξ,aw,Sem.run_pure]};have Γ:∀v z,(Ζ=U/\v=K/\z=Ι\/∃j,Ζ=Y (j,v)/\z=W)->(Ω a.eval o).run P w=.ok (.value (if f then .tuple #[v,.bool z]else v)) w:=by{intro v z h;rcases h with⟨rfl,rfl,rfl⟩|⟨j,rfl,rfl⟩<;>rcases O with⟨A,rfl⟩|⟨c,A,g,hg⟩;{simp only[Ω,ho,C7,Sem.run_bind,sJ hu,Ξ,A,Sem.run_pure,F,zc2 hk hs,L,iN hi N]};{simp only[Ω,ho,C7,Sem.run_bind,sJ hu,Ξ,A,hg,Sem.run_pure,F,zc2 hk hs,L,iN hi N]};{grind};simp only[Ω,ho,C7,Sem.run_bind,sJ hu,Ξ,A,hg,Sem.run_pure,F,zc2 hk hs,L]};have fin:∀v z,σ V M Fz w d v->s=z->σ V M Fz w (if f then .aX [d,.c (.lit (.bool s))]else d) (if f then .tuple #[v,.bool z]else v):=by{intro v z hV ht;subst ht;cases f;{exact hV};refine .aX _ rfl (λi x u T h2=>?_);match i with|0=>simp_all|1=>simp at T h2;subst T h2;exact .c (.lit _)|i+2=>grind};cases r with|none=>{cases Ζ with|some _=>simp_all|none=>simp only[SS,a_]at hr;obtain⟨rfl,rfl⟩:=hr;exact eI.same R (Γ K Ι (.inl ⟨rfl,rfl,rfl⟩)) (fin K Ι (af▸σ.eC K) rfl)}|some p=>obtain⟨j,d'⟩:=p;cases Ζ with|none=>simp_all|some q=>obtain⟨j',v⟩:=q;obtain⟨rfl,_,_,hV,_⟩:=ax;simp only[SS,a_]at hr;grind[eI.same]
def UC{b:ϐ}{x y:Ο}(d:zfp b=W)(h:ϵ b x y=Y W):x=y/\∀n,Instr.sameBits n x y=W:=by cases b<;>simp[zfp]at d;cases x<;>cases y<;>simp[ϵ]at h;obtain⟨rfl,rfl⟩:=h;exact⟨rfl,λn=>by grind[Go.Instr.sameBits]⟩
theorem upd_ok(R:Rel V M Fz w)(E:dO V M Fz w env a.tmps){o:ω}{t kt e:Ψ}{kd:ϐ}{m k x:ε}{om ok Γ:aU}{K:Ο}{b f:X}{es:Z (Ο×D×X)}{r:Δ (X×D)}(ho:o.op=.mapUpdate t m k x\/o.op=.insert t m k x)(hu:P.underlying t=Y (.map kt e))(hk:P.underlying kt=Y kd)(hs:zfp kd=W)(hm:cu m=Y om)(ax:cu k=Y ok)(hx:cu x=Y Γ)(a0:jq (ok.ev env)=Y K)(he:om.ev env=.mp b)(Β:V[b]? =Y (.map es f))(hf:ui kd K es 0=Y r):eI P (Ω a.eval o) V M Fz w (V.set b (match r with|Y (i,_)=>.map (es.modify i λ(k,_,n)=>(k,Γ.ev env,n)) f|U=>.map (es++[(K,Γ.ev env,f)]) (f+1))) (.aX []):=by have aa:Ω a.eval o=Ω a.eval { o with op:=.mapUpdate t m k x }:=by{rcases ho with ho|ho<;>simp only[Ω,ho]};have N:=Eo (m_ E ax) a0;have hv:=m_ E hm;rw[he]at hv;have ab:=m_ E hx;obtain⟨c,ad,hM⟩:=hv.GJ Β;obtain⟨g,O,Η,⟨a1,hB⟩,s⟩:=R.SC Β hM;obtain⟨r',a2,a5⟩:=HL (kind:=kd) (k:=K) es g.toList 0 r (by omega) (λj k d n e Η F=>let⟨x,_,y⟩:=s j k d n e Η (by simp_all);⟨x,y⟩) hf;have af:(Ϯ kt K g.toList).run P w=.ok r' w:=by{simp only[Ϯ,Sem.run_bind,sJ hk,Ξ,a2,Sem.run_pure]};have ak:(qr c).run P w=.ok (.map g O) w:=by{simp[qr,Sem.run,Η]};have an:∀G,(setObj c G).run P w=.ok () (cV w c G):=by{intro G;simp only[setObj,Sem.run,Η];rfl};have u:∀G:F7,∀S T fr,F7.map g O=.cells S T fr->∃Ζ,G=.cells Ζ T fr/\Ζ.size=S.size:=by{simp_all};have fin:∀z G,z.sz=0->(Ω a.eval o).run P w=.ok .skip (cV w c G)->cw (V.set b z) M Fz (cV w c G) z G->eI P (Ω a.eval o) V M Fz w (V.set b z) (.aX []):=by{intro z G hz av a6;have A:(Ob.map es f).sz<=z.sz:=by{simp[Ob.sz]};exact⟨.skip,Ϟ,_,M,av,.inr ⟨rfl,rfl⟩,R.uU hM Β Η A (u G) a6,.aX #[] rfl (λi d v h=>by simp at h),bN.uU R hM Β Η A (u G),by simp⟩};cases r with|none=>{cases r' with|some _=>simp_all|none=>refine fin (.map (es++[(K,Γ.ev env,f)]) (f+1)) (.map (g.push { key:=K,val:=a.eval x,born:=O }) (O+1)) rfl ?_ ?_;{rw[aa];simp only[Ω,Ki,Sem.run_bind,sJ hu,Ξ,ad,ak,N,zc2 hk hs,af,an,Sem.run_pure]};have A:(Ob.map es f).sz<=(Ob.map (es++[(K,Γ.ev env,f)]) (f+1)).sz:=by{simp[Ob.sz]};have EV:=bN.uU R hM Β Η A (u (.map (g.push { key:=K,val:=a.eval x,born:=O }) (O+1)));refine⟨_,⟨_,rfl,hB.push _ _⟩,by grind,λi k' d n en F L=>?_⟩;by_cases hi:i<es.length;{rw[Jc hi]at F;rw[Φ.getElem?_push_lt (by omega)]at L;obtain⟨x1,x2,x3⟩:=s i k' d n en F (by simp_all);exact⟨x1,x2,x3.mono EV⟩};have a7:=(fV.1 F).1;simp at a7;have:i=es.length:=by{omega};subst this;rw[PO (cU _)]at F;simp at F;obtain⟨rfl,rfl,rfl⟩:=F;rw[<-a1]at L;simp at L;subst L;exact⟨rfl,trivial,ab.mono EV⟩}|some p=>obtain⟨j,d'⟩:=p;cases r' with|none=>simp_all|some q=>obtain⟨j',v⟩:=q;obtain⟨rfl,_,hj,_,a8,l,a9⟩:=a5;simp only[yCo,Qj]at l;obtain⟨aw,Ε⟩:=UC hs a9;have bc:j<g.size:=(EK.1 l).1;have bb:∀Α new,Instr.sameBits 10000 Α new=W->(H7 Α new).run P w=.ok new w:=by{intro Α new h;simp only[H7,h,Υ,Sem.run_pure]};refine fin (.map (es.modify j λ(k,_,n)=>(k,Γ.ev env,n)) f) (.map (g.modify j λe=>{ e with key:=K,val:=a.eval x }) O) rfl ?_ ?_;{rw[aa];simp only[Ω,Ki,Sem.run_bind,sJ hu,Ξ,ad,ak,N,zc2 hk hs,af];rw[l];simp only[Cs,VX];rw[bb _ _ (by have:=Ε 10000;rw[aw]at this ⊢;exact this)];simp only[Ξ,an,Sem.run_pure]};have A:(Ob.map es f).sz<=(Ob.map (es.modify j λ(k,_,n)=>(k,Γ.ev env,n)) f).sz:=by{simp[Ob.sz]};have EV:=bN.uU R hM Β Η A (u (.map (g.modify j λe=>{ e with key:=K,val:=a.eval x }) O));refine⟨_,⟨_,rfl,hB.same (by apply XY;grind)⟩,by grind,λi k' d n en F L=>?_⟩;rw[Z.getElem?_modify]at F;rw[Φ.getElem?_modify]at L;by_cases hi:j=i;{subst hi;rw[l]at L;simp only[Υ,Cs,az]at L;subst L;cases h4:es[j]? with|none=>simp_all|some p=>obtain⟨k0,d0,n0⟩:=p;simp[h4]at F;obtain⟨rfl,rfl,rfl⟩:=F;obtain⟨x1,x2,_⟩:=s j k0 d0 n0 a8 h4 l;exact⟨by simp_all,x2,ab.mono EV⟩};simp only[hi,cy]at F L;obtain⟨x1,x2,x3⟩:=s i k' d n en (by simp_all) (by omega);exact⟨x1,x2,x3.mono EV⟩
theorem Kz:∀(l:Z (Ο×D×X))(i:X),(oh i l).length=l.length|[],_=>rfl|(_,_,_)::l,i=>by simp[oh,Kz l]
theorem K_:∀(l:Z (Ο×D×X))(i j:X)(k:Ο)(d:D)(n:X),(oh i l)[j]? =Y (k,d,n)->∃m,l[j]? =Y (k,d,m)|[],_,_,_,_,_,h=>by grind[oh]|(b, d0, e)::l, i, 0, k, d, n, h=>by grind[oh]|(b, d0, e)::l, i, j+1, k, d, n, h=>by simp only[oh,yBl]at h ⊢;exact K_ l (i+1) j k d n h
theorem del_ok(R:Rel V M Fz w)(E:dO V M Fz w env a.tmps){o:ω}{t kt e:Ψ}{kd:ϐ}{m k:ε}{om ok:aU}{Η:Ο}{b f:X}{es:Z (Ο×D×X)}{r:Δ (X×D)}{args:Φ ε}{S:Φ Ψ}(ho:o.op=.call { callee:=.builtin .delete,args:=args,argTypes:=S })(ht:S[0]? =Y t)(a2:args[0]? =Y m)(a5:args[1]? =Y k)(hu:P.underlying t=Y (.map kt e))(hk:P.underlying kt=Y kd)(hs:zfp kd=W)(hm:cu m=Y om)(af:cu k=Y ok)(ak:jq (ok.ev env)=Y Η)(he:om.ev env=.mp b)(O:V[b]? =Y (.map es f))(hf:ui kd Η es 0=Y r):eI P (Ω a.eval o) V M Fz w (V.set b (match r with|Y (i,_)=>.map (oh 0 (es.eraseIdx i)) (f-1)|U=>.map es f)) (.aX []):=by have a1:=Eo (m_ E af) ak;have hv:=m_ E hm;rw[he]at hv;obtain⟨c,a6,Ζ⟩:=hv.GJ O;obtain⟨g,A,F,⟨an,hB⟩,l⟩:=R.SC O Ζ;obtain⟨r',av,aw⟩:=HL (kind:=kd) (k:=Η) es g.toList 0 r (by omega) (λj k d n e F z=>let⟨x,_,y⟩:=l j k d n e F (by simp_all);⟨x,y⟩) hf;have Γ:(Ϯ kt Η g.toList).run P w=.ok r' w:=by{simp only[Ϯ,Sem.run_bind,sJ hk,Ξ,av,Sem.run_pure]};have Ε:(qr c).run P w=.ok (.map g A) w:=by{simp[qr,Sem.run,F]};have Α:∀u,(setObj c u).run P w=.ok () (cV w c u):=by{intro u;simp only[setObj,Sem.run,F];rfl};have s:∀u:F7,∀G T fr,F7.map g A=.cells G T fr->∃K,u=.cells K T fr/\K.size=G.size:=by{simp_all};have Β:(args.map a.eval)[0]? =Y (.map (Y c)):=by{simp_all};have aa:(args.map a.eval)[1]? =Y Η:=by{simp_all};have fin:∀ob' u,ob'.sz=0->(Ω a.eval o).run P w=.ok (.value (.tuple #[])) (cV w c u)->cw (V.set b ob') M Fz (cV w c u) ob' u->eI P (Ω a.eval o) V M Fz w (V.set b ob') (.aX []):=by{intro ob' u hz ab ax;have ad:(Ob.map es f).sz<=ob'.sz:=by{simp[Ob.sz]};exact⟨.value (.tuple #[]),.tuple #[],_,M,ab,.inl rfl,R.uU Ζ O F ad (s u) ax,.aX #[] rfl (λi d v h=>by simp at h),bN.uU R Ζ O F ad (s u),by simp⟩};cases r with|none=>{cases r' with|some _=>simp_all|none=>refine fin (.map es f) (.map g A) rfl ?_ ?_;{simp only[Ω,ho,resolve,invoke,builtin,K0,ht,Β,aa,Sem.run_bind,Sem.run_pure,sJ hu,Ξ,Ε,zc2 hk hs,Γ,Α]};have EV:=bN.uU R Ζ O F (ob':=.map es f) (cU _) (s (.map g A));exact⟨g,⟨A,rfl,hB⟩,an,λi k' d n en z N=>by obtain⟨x1,x2,x3⟩:=l i k' d n en z N;exact⟨x1,x2,x3.mono EV⟩⟩}|some p=>obtain⟨j,d'⟩:=p;cases r' with|none=>simp_all|some q=>obtain⟨j',v⟩:=q;obtain⟨rfl,_,hj,_,a7,L,a8⟩:=aw;simp only[yCo,Qj]at L;have a9:j<g.size:=(EK.1 L).1;have a0:(g.eraseIdxIfInBounds j).toList=g.toList.eraseIdx j:=by{simp_all};refine fin (.map (oh 0 (es.eraseIdx j)) (f-1)) (.map (g.eraseIdxIfInBounds j) A) rfl ?_ ?_;{simp only[Ω,ho,resolve,invoke,builtin,K0,ht,Β,aa,Sem.run_bind,Sem.run_pure,sJ hu,Ξ,Ε,zc2 hk hs,Γ,Α]};have EV:=bN.uU R Ζ O F (ob':=.map (oh 0 (es.eraseIdx j)) (f-1)) (by simp[Ob.sz]) (s (.map (g.eraseIdxIfInBounds j) A));refine⟨_,⟨A,rfl,hB.sub (by grind)⟩,?_,λi k' d n en z N=>?_⟩;{grind[Kz]};obtain⟨m',z⟩:=K_ _ _ _ _ _ _ z;rw[<-Qj,a0,A7]at N;rw[A7]at z;split at z;{rename_i hi;rw[Μ hi,Qj]at N;obtain⟨x1,_,x3⟩:=l i k' d m' en z N;exact⟨x1,trivial,x3.mono EV⟩};rename_i hi;rw[Κ hi,Qj]at N;obtain⟨x1,_,x3⟩:=l (i+1) k' d m' en z N;exact⟨x1,trivial,x3.mono EV⟩
end
end Go.Abs
end
section
namespace Go.Abs
variable[Gl]
section
variable{P:Ν}{V V':au}{M M':X->Δ X}{Fz:X->Prop}{w w':Τ}{env:Z D}{a:Act}
theorem Zp(n:X):∀(r c:X),c<=n+(n+768) / 4->C8.growBy n r c<=n+(n+768) / 4:=by intro r;induction r with|zero=>intro c h;exact h|succ r ih=>grind[Go.Builtin.growBy]
def VI(n c:X)(h:c<n):io n c<=2*n+1000:=by grind[Go.Builtin.nextslicecap,Zp]
theorem WP{c:X}{o:F7}(h:w.heap[c]? =Y o):cV w c o=w:=by unfold cV;have:w.heap.setIfInBounds c o=w.heap:=by{grind};rw[this]
def zeJ(P:Ν)(T:Ψ)(c:X)(xs:Z Ο)(off:X)(w:Τ)(arr:Φ Ο)(h:w.heap[c]? =Y (.cells arr T (0,0)))(b:∀x∈xs,x.oneCell'=W)(e:off+xs.length<=arr.size):(Ϻ ⟨c,off,U⟩ xs).run P w=.ok () (cV w c (.cells (dq arr off xs) T (0,0))):=by rw[xB P T c xs 0 off w arr h b (by omega)];congr 1;split;{rename_i d;subst d;have:dq arr off []=arr:=by{grind[dq]};grind[WP]};rfl
def FE.ones{cs:Z D}{arr:Φ Ο}(h:FE V M Fz w cs arr):∀u∈arr.toList,u.oneCell'=W:=by intro u o;obtain⟨i,j,rfl⟩:=SM.1 o;simp only[yBp]at j;exact (h.2 i _ _ (fe (by rw[<-h.1];exact j)) (sL (by omega))).2
def tS{t y e:Ψ}{A:Ψ}{k:Φ Ψ}{ty:Ψ}{args:Φ Ο}{g:Δ C4}{d f n h:X}{m:Δ C4}{aC:X}{i:ik}{z:Ο}(E:k[0]? =Y t)(p:k[1]? =Y y)(F:P.underlying t=Y (.slice e))(q:P.underlying y=Y (.slice A))(s:bS P e=Y aC)(o:P.info? e=Y i)(G:i.zero=Y z)(K:args[0]? =Y (.slice g d f))(L:args[1]? =Y (.slice m n h))(j:FM (d+n) i.bytes=W)(w:Τ):(td k ty args).run P w=if d+n≤f then((ϒ aC n (.slice m n h)).run P w).andThen λnew w1=>match(generalizing:=false) g with|Y b=>((Ϻ (b.add (d*aC)) new.toList).run P w1).andThen λ_ w2=>.ok (.slice g (d+n) f) w2|U=>.ok (.slice g (d+n) f) w1 else((ϒ aC d (.slice g d f)).run P w.drew).andThen λu w1=>((ϒ aC n (.slice m n h)).run P w1).andThen λnew w2=>((newRow e (u++new++Ϗ z.cells ((ϝ (d+n) f e).cut (w.tape w.drawn (.appendCap (d+n) f e))-(d+n)))).run P w2).andThen λr w3=>.ok (.slice (Y r) (d+n) ((ϝ (d+n) f e).cut (w.tape w.drawn (.appendCap (d+n) f e)))) w3:=by simp only[FM,bM,bF]at j;obtain⟨⟨N,O⟩,Η⟩:=j;have l:∀w,(B0 (.slice m n h)).run P w=.ok n w:=λw=>rfl;simp only[td,E,p,K,L,Sem.run_bind,sJ F,sJ q,Tm s,Ξ,Sem.run_pure,cf,cy,Λ.not_false,Υ,l];split;{grind[Go.Sem.run_bind,Go.Sem.run_pure]};rename_i R;have v:¬(((d+n:X):Q)>IntKind.i64.max/\(False\/i.bytes=0)):=by{have:IntKind.i64.max=9223372036854775807:=by{decide};omega};have x:¬(io (d+n) f*i.bytes>2^48):=by{have S:=VI (d+n) f (by omega);have T:io (d+n) f*i.bytes≤(2*(d+n)+1000)*i.bytes:=Ja _ S;grind};simp only[Sem.run_bind,zd0 o,Ξ,cf];rw[Κ v];simp only[Sem.run_bind,Sem.run_pure,zd0 o,Ξ];rw[Κ x];simp only[Sem.run_bind,Sem.run_pure,zd0 o,Ξ,run_choose,Question.forced,cf,cy,run_askRoom,iN o G,Τ.drew_eq]
def VD(n c:X)(e:Ψ)(t:X):n<=(ϝ n c e).cut t:=by grind[Go.Question.cut]
theorem jb(z:Φ Ο)(n:X):(Ϗ z n).size=n*z.size:=by simp[Ϗ]
def bN.ph(R:Rel V M Fz w):bN V M Fz w (V++[.cells []]) M Fz w:={size:=cU _,frame:=λ_ _ _=>rfl,lH:=λb c h=>.inl ⟨b,h⟩,fz:=λc h=>⟨h,rfl⟩,nW:=λc h=>.inl h,qU:=λc i T o h=>⟨i,h,rfl⟩,keep:=λb j h=>⟨j,by grind,cU _,λ_=>rfl⟩,out:=⟨rfl,rfl,rfl⟩ }
def Rel.ph(R:Rel V M Fz w):Rel (V++[.cells []]) M Fz w:=⟨λb c h=>by obtain⟨i,j,o,x,s,u⟩:=R.blk b c h;exact⟨i,j,o,by grind,s,u.mono (bN.ph R)⟩,R.inj,R.fz,R.gl⟩
def Zr(R:Rel V M Fz w)(E:dO V M Fz w env a.tmps){o:ω}{t t1 e et:Ψ}{args:Φ ε}{a1:Φ Ψ}{s x:ε}{os ox:aU}{aC:X}{i:ik}{z:Z D}{d:D}{wr:Z X}
  (ho:o.op=.call { callee:=.builtin .append,args:=args,argTypes:=a1 })(ht:a1[0]? =Y t)(a2:a1[1]? =Y t1)(cC:args[0]? =Y s)(cX:args[1]? =Y x)
  (hu:P.underlying t=Y (.slice e))(a5:P.underlying t1=Y (.slice et))(a6:bS P e=Y aC)(hi:P.info? e=Y i)(hz:Wq P e=Y z)(q:¬(aC=0\/z.length≠aC))
  (hs:cu s=Y os)(hx:cu x=Y ox)
  (h:(do
  let xd:=ox.ev env
  let n <-IP V xd
  let new <-Zo V aC n xd
  match os.ev env with
  |.c (.lit (.slice U 0 0))=>if FM n i.bytes then Y (.sl V.length 0 n aC (n*aC),V++[.cells new],[])else U
  |.sl b off len m sz=>do
   let cs <-kE V b sz
   if m=aC/\off=0/\len*aC=sz/\FM (len+n) i.bytes then
    if n=0 then Y (.sl b 0 len aC sz,V,[b])
    else Y (.sl b 0 (len+n) aC (sz+n*aC),V.set b (.cells (cs++new)),[b])
   else if m=aC/\off=0/\(len+n)*aC<=sz/\FM (len+n) i.bytes then
    if n=0 then Y (.sl b 0 len aC sz,V,[b])
    else Y (.sl b 0 (len+n) aC sz,V.set b (.cells (put cs (len*aC) new)),[b])
   else U
  |_=>U)=Y (d,V',wr)):eI P (Ω a.eval o) V M Fz w V' d:=by
 obtain⟨i',zv,bc,a7,b9⟩:=zdP hz;rw[hi]at bc;simp only[az]at bc;subst bc;simp only[ϥ,SG]at q;obtain⟨p,cY⟩:=q;have bd:zv.cells.size=aC:=by have:=(FE.tc (σ.eC (V:=V) (M:=M) (Fz:=Fz) (w:=w) zv) b9).1;omega
 simp only[eH,c_]at h;obtain⟨n,hn,new,A,h⟩:=h;have S:=m_ E hx;have aa:=m_ E hs;obtain⟨cg,bw,Ζ⟩:=tx S hn;have an:∀r,(td a1 o.type (args.map a.eval)).run P w=r->(Ω a.eval o).run P w=r.andThen λv w'=>.ok (.value v) w':=by intro r hr;simp only[Ω,ho,resolve,invoke,builtin,Sem.run_bind,Sem.run_pure,Ξ,hr]
 have a8:(args.map a.eval)[1]? =Y (.slice cg n bw):=by simp_all
 split at h
 ·rename_i be;rw[be]at aa;have cZ:=aa.cz;have ab:(args.map a.eval)[0]? =Y (.slice U 0 0):=by simp_all
  split at h
  ·rename_i F;have f:=tS (ty:=o.type) ht a2 hu a5 a6 hi a7 ab a8 (by simp_all) w;simp only[az,a_]at h;obtain⟨rfl,rfl,_⟩:=h;by_cases q:n=0
   ·subst q;obtain⟨arr,l,g,k⟩:=zbQ (P:=P) R S p A;rw[Ζ]at l;rw[Μ (by omega),l]at f;have he:new=[]:=We (by omega);subst he;refine⟨.value (.slice U 0 0),.slice U 0 0,w,M,by simp_all,.inl rfl,R.ph,?_,bN.ph R,by simp⟩;exact .sl U 0 0 (by simp) (.cells []) (by simp) (by omega) (λ_=>.inl ⟨rfl,rfl,rfl,rfl,rfl,by simp⟩)
   ·rw[Κ (by omega)]at f;simp only[OX]at f;have EH:bN V M Fz w V M Fz w.drew:=bN.heap R rfl ⟨rfl,rfl,rfl⟩;have R1:Rel V M Fz w.drew:=R.heap rfl ⟨rfl,rfl,rfl⟩;obtain⟨arr,l,g,k⟩:=zbQ (P:=P) R1 (S.mono EH) p A;rw[Ζ]at l;have av:(ϒ aC 0 (.slice U 0 0)).run P w.drew=.ok #[] w.drew:=rfl;rw[av]at f;simp only[Ξ,l]at f;have aw:=VD n 0 e (w.tape w.drawn (.appendCap n 0 e));generalize(ϝ n 0 e).cut (w.tape w.drawn (.appendCap n 0 e))=Γ at f aw;have hm:n*aC+(Γ-n)*aC=Γ*aC:=by rw[<-OQ];simp_all
    have ax:(#[]++arr++Ϗ zv.cells (Γ-n)).size=Γ*aC:=by simp only[ks,jb,bd,g.1,k,G9];omega
    obtain⟨r1,r2⟩:=rK (P:=P) R1.fz (cs:=new) (arr:=#[]++arr++Ϗ zv.cells (Γ-n)) e (by omega) (λj y u Η O=>by have hj:=(fV.1 Η).1;rw[yBU (by simp[g.1];exact hj)]at O;exact g.2 j y u Η (by simp_all))
    rw[r1]at f;refine⟨_,_,_,_,by rw[an _ f];rfl,.inl rfl,R1.alloc _ _ r2,?_,EH.trans (bN.alloc R1.fz _ _) (cU _),by simp⟩;rw[<-k];exact σ.newSl (by omega) (by omega) (by omega) (by omega)
  simp_all
 ·rename_i b off len m sz be;rw[be]at aa;simp only[c_]at h;obtain⟨cs,hr,h⟩:=h;split at h
  ·rename_i G;obtain⟨rfl,rfl,bb,F⟩:=G;obtain⟨hb,b0⟩:=SF hr;rcases aa.fW hr with⟨a0,e2,_,e4,e6⟩|⟨c,o',cap,K,T,hM,a0,b1,b2,hh,b3,_⟩
   ·subst e2 e4 e6;have ab:(args.map a.eval)[0]? =Y (.slice U 0 0):=by simp_all
    have f:=tS (ty:=o.type) ht a2 hu a5 a6 hi a7 ab a8 F w;split at h
    ·rename_i q;subst q;simp only[az,a_]at h;obtain⟨rfl,rfl,_⟩:=h;obtain⟨arr,l,g,k⟩:=zbQ (P:=P) R S p A;rw[Ζ]at l;rw[Μ (by omega),l]at f;refine eI.same R (v:=.slice U 0 0) ?_ (a0▸aa)
     simp_all
    ·rename_i q;simp only[az,a_]at h;obtain⟨rfl,rfl,_⟩:=h;rw[Κ (by omega)]at f;simp only[OX]at f;have EH:bN V M Fz w V M Fz w.drew:=bN.heap R rfl ⟨rfl,rfl,rfl⟩;have R1:Rel V M Fz w.drew:=R.heap rfl ⟨rfl,rfl,rfl⟩;obtain⟨arr,l,g,k⟩:=zbQ (P:=P) R1 (S.mono EH) p A;rw[Ζ]at l;have av:(ϒ m 0 (.slice U 0 0)).run P w.drew=.ok #[] w.drew:=rfl;rw[av]at f;simp only[Ξ,l]at f;have aw:=VD n 0 e (w.tape w.drawn (.appendCap n 0 e));generalize(ϝ n 0 e).cut (w.tape w.drawn (.appendCap n 0 e))=Γ at f aw;have hm:n*m+(Γ-n)*m=Γ*m:=by rw[<-OQ];simp_all
     have ax:(#[]++arr++Ϗ zv.cells (Γ-n)).size=Γ*m:=by simp only[ks,jb,bd,g.1,k,G9];omega
     have ad:∀row,(newRow e row).run P w.drew=.ok ⟨w.drew.heap.size,0,U⟩ (w.drew.alloc (.cells row e)):=λ_=>rfl;rw[ad]at f;have ch:0<n*m:=X.mul_pos (by omega) (by omega);have L:(Ob.cells []).sz<(Ob.cells ([]++new)).sz:=by grind[Ob.sz]
     have EV:=bN.move (o':=.cells (#[]++arr++Ϗ zv.cells (Γ-n)) e) R1 hb L;refine⟨_,_,_,_,by rw[an _ f];rfl,.inl rfl,R1.move hb L ?_,?_,EH.trans EV (cU _),by simp⟩
     ·refine⟨_,e,rfl,by grind,λj d v Η O=>?_⟩;have a9:=(fV.1 Η).1;simp[k]at a9;rw[yBU (by simp[g.1,k];omega)]at O;have:=g.2 j d v (by simp_all) (by simp_all);exact⟨this.1.mono EV,this.2⟩
     ·have bh:=(fV.1 hb).1;refine .sl _ _ _ (by simp) (.cells ([]++new)) (by simp_all) (by grind[Ob.sz]) (λ_=>.inr ?_);refine⟨w.drew.heap.size,0,_,e,by simp[yK],rfl,by omega,by omega,.inl rfl,ϲ _ _,by omega,by simp⟩
   have ab:(args.map a.eval)[0]? =Y (.slice (Y ⟨c,o',U⟩) len cap):=by simp_all
   have f:=tS (ty:=o.type) ht a2 hu a5 a6 hi a7 ab a8 F w;obtain⟨bi,T',af,ck,bt⟩:=R.row hM hb;rw[hh]at af;simp only[az,ϙ,OW]at af;obtain⟨rfl,rfl⟩:=af;split at h
   ·rename_i q;subst q;simp only[az,a_]at h;obtain⟨rfl,rfl,_⟩:=h;obtain⟨arr,l,g,k⟩:=zbQ (P:=P) R S p A;rw[Ζ]at l;rw[Μ (by omega),l]at f;have b4:arr.toList=[]:=by
     have:arr.size=0:=by rw[g.1,k];omega
     simp_all
    grind[Go.Result.andThen_ok,Go.storeCells,Go.Sem.run_pure,eI.same]
   ·rename_i q;simp only[az,a_]at h;obtain⟨rfl,rfl,_⟩:=h;by_cases Ε:len+n<=cap
    ·rw[Μ Ε]at f;obtain⟨arr,l,g,k⟩:=zbQ (P:=P) R S p A;rw[Ζ]at l;have bu:o'=0:=by
      omega
     subst bu;have hm:(len+n)*m<=cap*m:=Ja _ Ε;rw[OQ]at hm;have bv:=zeJ P T c arr.toList (0+len*m) w K hh g.ones (by simp[g.1,k];omega);rw[l]at f;simp only[Ξ,fK,bv]at f;have L:(Ob.cells cs).sz<=(Ob.cells (cs++new)).sz:=by simp[Ob.sz]
     have Α:∀N T1 fr,Ϣ K T (0,0)=.cells N T1 fr->∃Β,Ϣ (dq K (0+len*m) arr.toList) T (0,0)=.cells Β T1 fr/\Β.size=N.size:=by intro N T1 fr h;simp only[ϙ]at h;obtain⟨rfl,rfl,rfl⟩:=h;exact⟨_,rfl,XM (by simp[g.1,k];omega)⟩
     have EV:=bN.uU R hM hb hh L Α;refine⟨_,_,_,M,by rw[an _ f];rfl,.inl rfl,R.uU hM hb hh L Α ?_,?_,EV,by simp⟩
     ·refine⟨_,T,rfl,?_,λj d v Η O=>?_⟩
      ·grind
      ·rw[cN (by simp[g.1,k];omega)]at O;simp only[yBp,g.1,k]at O;by_cases hj:j<cs.length
       ·rw[Jc hj]at Η;rw[Κ (by omega)]at O;have:=bt j d v Η O;exact⟨this.1.mono EV,this.2⟩
       ·rw[PO (by omega)]at Η;have a9:=(fV.1 Η).1;rw[Μ (by omega)]at O;have:=g.2 (j-cs.length) d v Η (by
         simp_all)
        exact⟨this.1.mono EV,this.2⟩
     ·have bh:=(fV.1 hb).1;refine .sl _ _ _ (by simp) (.cells (cs++new)) (by simp_all) (by grind[Ob.sz]) (λ_=>.inr ?_);refine⟨c,0,_,T,hM,rfl,rfl,⟨Ε,by omega⟩,.inl rfl,fN (R.lt hM).2,?_,?_⟩
      ·simp_all
      grind
    ·rw[Κ Ε]at f;have EH:bN V M Fz w V M Fz w.drew:=bN.heap R rfl ⟨rfl,rfl,rfl⟩;have R1:Rel V M Fz w.drew:=R.heap rfl ⟨rfl,rfl,rfl⟩;obtain⟨arr,l,g,k⟩:=zbQ (P:=P) R1 (S.mono EH) p A;rw[Ζ]at l;have cm:Zo V m len (.sl b 0 len m sz)=Y cs:=by
      have hc:m=m/\len<=len/\0+len*m<=sz:=⟨rfl,cU _,by omega⟩;show((kE V b sz).bind λcs=>if m=m/\len<=len/\0+len*m<=sz then Y ((cs.drop 0).take (len*m))else U)=Y cs
      grind
     obtain⟨b5,b6,ak,co⟩:=zbQ (P:=P) R1 (aa.mono EH) p cm;rw[a0]at b6;rw[b6]at f;simp only[Ξ,l]at f;have aw:=VD (len+n) cap e (w.tape w.drawn (.appendCap (len+n) cap e));generalize(ϝ (len+n) cap e).cut (w.tape w.drawn (.appendCap (len+n) cap e))=Γ at f aw;have hm:(len+n)*m+(Γ-(len+n))*m=Γ*m:=by rw[<-OQ];simp_all
     rw[OQ]at hm;have ax:(b5++arr++Ϗ zv.cells (Γ-(len+n))).size=Γ*m:=by simp only[ks,jb,bd,g.1,k,ak.1,co];omega
     have ad:∀row,(newRow e row).run P w.drew=.ok ⟨w.drew.heap.size,0,U⟩ (w.drew.alloc (.cells row e)):=λ_=>rfl;rw[ad]at f;have ch:0<n*m:=X.mul_pos (by omega) (by omega);have L:(Ob.cells cs).sz<(Ob.cells (cs++new)).sz:=by grind[Ob.sz]
     have EV:=bN.move (o':=.cells (b5++arr++Ϗ zv.cells (Γ-(len+n))) e) R1 hb L;refine⟨_,_,_,_,by rw[an _ f];rfl,.inl rfl,R1.move hb L  ?_,?_,EH.trans EV (cU _),by simp⟩
     ·refine⟨_,e,rfl,by grind,λj d v Η O=>?_⟩;have a9:=(fV.1 Η).1;simp[k]at a9;rw[yBU (by simp[ak.1,g.1,k];omega)]at O;by_cases hj:j<cs.length
      ·rw[Jc hj]at Η;rw[yBU (by rw[ak.1];exact hj)]at O;have:=ak.2 j d v Η O;exact⟨this.1.mono EV,this.2⟩
      ·rw[PO (by omega)]at Η;rw[Φ.getElem?_append_right (by rw[ak.1];omega),ak.1]at O;have:=g.2 _ d v Η O;exact⟨this.1.mono EV,this.2⟩
     ·have bh:=(fV.1 hb).1;refine .sl _ _ _ (by simp) (.cells (cs++new)) (by simp_all) (by grind[Ob.sz]) (λ_=>.inr ?_);refine⟨w.drew.heap.size,0,_,e,by simp[yK],rfl,rfl,by omega,.inl rfl,ϲ _ _,by omega,by grind⟩
  ·rename_i cv;split at h
   rotate_left
   ·simp at h
   rename_i G;obtain⟨rfl,rfl,bb,F⟩:=G;obtain⟨hb,b0⟩:=SF hr;have b7:0<m:=X.pos_of_ne_zero p;rcases aa.fW hr with⟨a0,e2,_,e4,e6⟩|⟨c,o',cap,K,T,hM,a0,b1,b2,hh,b3,_⟩
   ·simp_all
   have ab:(args.map a.eval)[0]? =Y (.slice (Y ⟨c,o',U⟩) len cap):=by simp_all
   have f:=tS (ty:=o.type) ht a2 hu a5 a6 hi a7 ab a8 F w;obtain⟨bi,T',af,ck,bt⟩:=R.row hM hb;rw[hh]at af;simp only[az,ϙ,OW]at af;obtain⟨rfl,rfl⟩:=af;have Ε:len+n<=cap:=X.le_of_mul_le_mul_right (by omega) b7;rw[Μ Ε]at f;obtain⟨arr,l,g,k⟩:=zbQ (P:=P) R S p A;rw[Ζ]at l;split at h
   ·rename_i q;subst q;simp only[az,a_]at h;obtain⟨rfl,rfl,_⟩:=h;have b4:arr.toList=[]:=by
     have:arr.size=0:=by rw[g.1,k];omega
     simp_all
    grind[Go.Result.andThen_ok,Go.storeCells,Go.Sem.run_pure,eI.same]
   ·rename_i q;simp only[az,a_]at h;obtain⟨rfl,rfl,_⟩:=h;have bu:o'=0:=by
     omega
    subst bu;have hm:(len+n)*m<=cap*m:=Ja _ Ε;have cp:=bb;rw[OQ]at hm cp;have bv:=zeJ P T c arr.toList (0+len*m) w K hh g.ones (by simp[g.1,k];omega);rw[l]at f;simp only[Ξ,fK,bv]at f;have b8:len*m+new.length<=cs.length:=by omega
    have L:(Ob.cells cs).sz<=(Ob.cells (put cs (len*m) new)).sz:=by grind[Ob.sz,zdU]
    have Α:∀N T1 fr,Ϣ K T (0,0)=.cells N T1 fr->∃Β,Ϣ (dq K (0+len*m) arr.toList) T (0,0)=.cells Β T1 fr/\Β.size=N.size:=by intro N T1 fr h;simp only[ϙ]at h;obtain⟨rfl,rfl,rfl⟩:=h;exact⟨_,rfl,XM (by simp[g.1,k];omega)⟩
    have EV:=bN.uU R hM hb hh L Α;refine⟨_,_,_,M,by rw[an _ f];rfl,.inl rfl,R.uU hM hb hh L Α ?_,?_,EV,by simp⟩
    ·refine⟨_,T,rfl,by grind[zdU],λj d v Η O=>?_⟩;rw[iX b8]at Η;rw[cN (by simp[g.1,k];omega)]at O;simp only[yBp,g.1,OX]at O;split at Η
     ·rename_i G;rw[Μ G]at O;have:=g.2 _ _ _ Η (by simpa using O);exact⟨this.1.mono EV,this.2⟩
     ·rename_i G;rw[Κ G]at O;have:=bt _ _ _ Η O;exact⟨this.1.mono EV,this.2⟩
    ·have bh:=(fV.1 hb).1;refine .sl _ _ _ (by simp) (.cells (put cs (len*m) new)) (by simp_all) (by grind[Ob.sz]) (λ_=>.inr ?_);refine⟨c,0,_,T,hM,rfl,rfl,⟨Ε,b1.2⟩,.inl rfl,fN (R.lt hM).2,?_,?_⟩
     ·simp_all
     ·omega
 simp_all
def F_(R:Rel V M Fz w)(E:dO V M Fz w env a.tmps){o:ω}{t e:Ψ}{args:Φ ε}{S:Φ Ψ}{s x:ε}{os ox:aU}{aC b off len sz n m:X}{cs new:Z D}(ho:o.op=.call { callee:=.builtin .copy,args:=args,argTypes:=S })(ht:S[0]? =Y t)(a6:args[0]? =Y s)(a7:args[1]? =Y x)(hu:P.underlying t=Y (.slice e))(Ζ:bS P e=Y aC)(Γ:aC≠0)(hs:cu s=Y os)(hx:cu x=Y ox)(af:os.ev env=.sl b off len aC sz)(hr:kE V b sz=Y cs)(hm:IP V (ox.ev env)=Y m)(hn:n=min m len)(A:Zo V aC n (ox.ev env)=Y new)(a8:off+len*aC<=sz):eI P (Ω a.eval o) V M Fz w (V.set b (.cells (put cs off new))) (.c (.lit (.int .i64 n))):=by have L:=m_ E hx;have Ε:=m_ E hs;rw[af]at Ε;obtain⟨z,l,Α⟩:=tx L hm;rcases Ε.fW hr with⟨ak,e2,e3,e4,e5⟩|⟨c,o',cap,g,T,hM,ak,a9,a1,Β,a2,_⟩;{subst e2 e3 e4 e5;obtain rfl:n=0:=by{omega};obtain⟨hb,_⟩:=SF hr;obtain⟨k,p,f,q⟩:=zbQ (P:=P) R L Γ A;rw[Α]at p;obtain rfl:new=[]:=We (by omega);have aa:V.set b (.cells (put [] 0 []))=V:=by{apply XY;intro i;rw[yBG];split;{rename_i hi;subst hi;split;{exact hb.symm};grind};rfl};rw[aa];have N:(args.map a.eval)[0]? =Y (.slice U 0 0):=by{grind};have O:(args.map a.eval)[1]? =Y (.slice z m l):=by{grind};have hl:(B0 (.slice z m l)).run P w=.ok m w:=rfl;have r:X.min m 0=0:=hn.symm;refine eI.same R (v:=.int .i64 0) ?_ (.c (.lit _));simp only[Ω,ho,resolve,invoke,builtin,C8.copy_,ht,N,O,Sem.run_bind,Sem.run_pure,sJ hu,Ξ,hl,Tm Ζ,r,p,F8];rfl};obtain⟨hb,a5⟩:=SF hr;obtain⟨an,T',Η,bb,av⟩:=R.row hM hb;rw[Β]at Η;simp only[az,ϙ,OW]at Η;obtain⟨rfl,rfl⟩:=Η;obtain⟨k,p,f,q⟩:=zbQ (P:=P) R L Γ A;rw[Α]at p;have aw:n*aC<=len*aC:=Ja _ (by omega);have ax:(Ϻ ⟨c,o',U⟩ k.toList).run P w=.ok () (cV w c (.cells (dq g off k.toList) T (0,0))):=by{by_cases hz:n=0;{have:k.toList=[]:=by{have:k.size=0:=by{rw[f.1,q,hz,yC4]};grind};rw[this];have F:dq g off []=g:=by{grind[dq]};rw[F,WP Β];rfl};have a0:o'=off:=by{omega};subst a0;exact zeJ P T c k.toList o' w g Β f.ones (by simp[f.1,q];omega)};have ab:off+new.length<=cs.length:=by{omega};have ad:(Ob.cells cs).sz<=(Ob.cells (put cs off new)).sz:=by{grind[Ob.sz,zdU]};have G:∀u T1 fr,Ϣ g T (0,0)=.cells u T1 fr->∃K,Ϣ (dq g off k.toList) T (0,0)=.cells K T1 fr/\K.size=u.size:=by{intro u T1 fr h;simp only[ϙ]at h;obtain⟨rfl,rfl,rfl⟩:=h;exact⟨_,rfl,XM (by simp[f.1,q];omega)⟩};have EV:=bN.uU R hM hb Β ad G;refine⟨.value (.int .i64 n),_,_,M,?_,.inl rfl,R.uU hM hb Β ad G ?_,.c (.lit _),EV,by simp⟩;{have N:(args.map a.eval)[0]? =Y (.slice (Y ⟨c,o',U⟩) len cap):=by{simp_all};have O:(args.map a.eval)[1]? =Y (.slice z m l):=by{simp_all};have hl:(B0 (.slice z m l)).run P w=.ok m w:=rfl;have r:X.min m len=n:=hn.symm;simp only[Ω,ho,resolve,invoke,builtin,C8.copy_,ht,N,O,Sem.run_bind,Sem.run_pure,sJ hu,Ξ,hl,Tm Ζ,r,p,ax,F8]};refine⟨_,T,rfl,by grind[zdU],λj d v h1 F=>?_⟩;rw[iX ab]at h1;rw[cN (by simp[f.1,q];omega)]at F;simp only[yBp,f.1]at F;split at h1;{rename_i y;rw[Μ y]at F;have:=f.2 _ _ _ h1 (by simpa using F);exact⟨this.1.mono EV,this.2⟩};rename_i y;rw[Κ y]at F;have:=av _ _ _ h1 F;exact⟨this.1.mono EV,this.2⟩
def clr_ok(R:Rel V M Fz w)(E:dO V M Fz w env a.tmps){o:ω}{t e:Ψ}{args:Φ ε}{A:Φ Ψ}{x:ε}{ox:aU}{aC b off len sz:X}{cs z:Z D}(ho:o.op=.call { callee:=.builtin .clear,args:=args,argTypes:=A })(ht:A[0]? =Y t)(a8:args[0]? =Y x)(hu:P.underlying t=Y (.slice e))(hz:Wq P e=Y z)(a9:aC≠0)(F:z.length=aC)(hx:cu x=Y ox)(Ε:ox.ev env=.sl b off len aC sz)(hr:kE V b sz=Y cs)(bb:off+len*aC<=sz):eI P (Ω a.eval o) V M Fz w (V.set b (.cells (put cs off (sF len z)))) (.aX []):=by obtain⟨i,y,hi,Α,aa⟩:=zdP hz;have G:=FE.tc (σ.eC (V:=V) (M:=M) (Fz:=Fz) (w:=w) y) aa;have bc:y.cells.size=aC:=by{rw[G.1,F]};have K:z≠[]:=λh=>by{simp_all};have hv:=m_ E hx;rw[Ε]at hv;obtain⟨hb,a1⟩:=SF hr;have same:len=0->V.set b (.cells (put cs off (sF len z)))=V:=λh=>by{subst h;have k:put cs off (sF 0 z)=cs:=by{simp[sF,put]};rw[k];apply XY;grind};have a2:∀Ζ cap,len=0->a.eval x=.slice Ζ len cap->eI P (Ω a.eval o) V M Fz w (V.set b (.cells (put cs off (sF len z)))) (.aX []):=λΖ cap h L=>by{rw[same h];subst h;have r:(args.map a.eval)[0]? =Y (.slice Ζ 0 cap):=by{simp_all};refine eI.same R (v:=.tuple #[]) ?_ (.aX #[] rfl (λi d v h=>by simp at h));cases Ζ<;>simp only[Ω,ho,resolve,invoke,builtin,C8.clear_,ht,r,Sem.run_bind,Sem.run_pure,sJ hu,Ξ]};rcases hv.fW hr with⟨L,e2,e3,e4,e6⟩|⟨c,s,cap,f,T,hM,L,bd,a5,Γ,a6,_⟩;{simp_all};by_cases h0:len=0;{simp_all};obtain⟨m,rfl⟩:∃m,len=m+1:=⟨len-1,by omega⟩;obtain⟨ab,T',u,be,af⟩:=R.row hM hb;rw[Γ]at u;simp only[az,ϙ,OW]at u;obtain⟨rfl,rfl⟩:=u;have ak:s=off:=by{omega};subst ak;obtain⟨an,N⟩:=D_ G K (m+1) (m+1) (cU _);generalize hZ:Ϗ y.cells (m+1)=Β;have av:(Ϭ ((m+1)*y.cells.size)).map (y.cells[· %y.cells.size]!)=Β:=hZ;rw[av]at an N;have aw:Β.size=(m+1)*aC:=by{grind};have ax:(sF (m+1) z).length=(m+1)*aC:=by{rw[jp,F]};have l:FE V M Fz w (sF (m+1) z) Β:=⟨by omega,N⟩;have a7:s+(m+1)*aC<=f.size:=by{omega};have a0:=zeJ P T c Β.toList s w f Γ l.ones (by simp_all);have O:s+(sF (m+1) z).length<=cs.length:=by{omega};have Η:(Ob.cells cs).sz<=(Ob.cells (put cs s (sF (m+1) z))).sz:=by{grind[Ob.sz,zdU]};have n:∀p T1 fr,Ϣ f T (0,0)=.cells p T1 fr->∃q,Ϣ (dq f s Β.toList) T (0,0)=.cells q T1 fr/\q.size=p.size:=by{grind[XM]};have EV:=bN.uU R hM hb Γ Η n;refine⟨.value (.tuple #[]),_,_,M,?_,.inl rfl,R.uU hM hb Γ Η n ?_,.aX #[] rfl (λi d v h=>by simp at h),EV,by simp⟩;{have r:(args.map a.eval)[0]? =Y (.slice (Y ⟨c,s,U⟩) (m+1) cap):=by{simp_all};simp only[Ω,ho,resolve,invoke,builtin,C8.clear_,ht,r,Sem.run_bind,Sem.run_pure,sJ hu,Ξ,iN hi Α,hZ,a0]};refine⟨_,T,rfl,by grind[zdU],λj d v S k=>?_⟩;rw[iX O]at S;rw[cN (by simp_all)]at k;simp only[yBp,aw]at k;rw[ax]at S;split at S;{rename_i g;rw[Μ g]at k;have:=l.2 _ _ _ S (by simpa using k);exact⟨this.1.mono EV,this.2⟩};rename_i g;rw[Κ g]at k;have:=af _ _ _ S k;exact⟨this.1.mono EV,this.2⟩
end
end Go.Abs
end
