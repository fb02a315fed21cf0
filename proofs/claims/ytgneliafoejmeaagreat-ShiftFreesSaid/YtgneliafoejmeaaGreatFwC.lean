/- DfwV, DfwW, DfwX, DfwY, DfwZ, DfwOp, DfwEnc, DfwEq, DfwOwn, DfwTq, DfwMp, DfwFl, DfwPa -/
import Derived.Test.YtgneliafoejmeaaGreatFwB
import GoSem.ClaimChange
import Derived.DataReads
import Derived.Below
import Derived.Laws.StructEq
import GoSem.Core.Float
import GoSem.Op.Complex
import GoSem.Conv.FloatToInt
set_option linter.all false
section
namespace Go.Abs
variable [Gl]
inductive Sh where
  | int (k:IntKind)
  | bool
  | str
  | sl (e:List Sh)
  deriving Inhabited
inductive Shaped:Sh→C→Prop where
  | int {k:IntKind} {n:Int} (h:(Lit.int k n).wf=true):Shaped (.int k) (.lit (.int k n))
  | bool (b:Bool):Shaped .bool (.lit (.bool b))
  | str {s:ByteArray} (h:s.size≤maxLen):Shaped .str (.lit (.string s))
  | sl {e:List Sh} {es:List (List C)} (hl:es.length≤maxLen) (hn:∀x∈es,x.length=e.length) (h:∀(x:List C),x∈es→∀(j:Nat) s c,e[j]? = some s→x[j]? = some c→Shaped s c):Shaped (.sl e) (.frz false es)
def shapesOf (P:Program):Nat→TypeId→Option (List Sh)
  | 0,_=>none
  | f + 1, t =>
    match P.underlying t with
    | some .bool=>some [.bool]
    | some (.int k)=>some [.int k]
    | some .string=>some [.str]
    | some (.slice e) =>
      match shapesOf P f e with
      | some s=>if s.length=P.cellsOf e∧s≠[] then some [.sl s] else none
      | none=>none
    | some (.struct fs) =>
      match fs.toList.foldl (fun acc fd=>match acc,shapesOf P f fd.type with
        | some l,some s=>if fd.offset=l.length∧s.length=P.cellsOf fd.type then some (l++s) else none
        | _,_=>none) (some []) with
      | some l=>if l.length=P.cellsOf t then some l else none
      | none=>none
    | some (.array n e) =>
      match shapesOf P f e with
      | some s=>if s.length=P.cellsOf e∧n * s.length=P.cellsOf t then some (List.replicate n s).flatten else none
      | none=>none
    | _=>none
def zbD (w:World) (shs:List Sh) (xs:List C) (cs:List Value):Prop:=
  xs.length=shs.length∧cs.length=shs.length∧(∀(i:Nat) s x,shs[i]? = some s→xs[i]? = some x→Shaped s x) ∧
    ∀(i:Nat) x v,xs[i]? = some x→cs[i]? = some v→VC (fun c=>c<w.heap.size) w x v∧v.oneCell'=true
theorem zbD.append {w:World} {s1 s2:List Sh} {x1 x2:List C} {c1 c2:List Value} (h1:zbD w s1 x1 c1) (h2:zbD w s2 x2 c2):zbD w (s1++s2) (x1++x2) (c1++c2):=by
  obtain ⟨a1,a2,a3,a4⟩:=h1
  obtain ⟨b1,b2,b3,b4⟩:=h2
  refine ⟨by simp [a1,b1],by simp [a2,b2],fun i s x hs hx=>?_,fun i x v hx hv=>?_⟩
  · rw [List.getElem?_append] at hs hx
    split at hs
    · rw [if_pos (by omega)] at hx; exact a3 i s x hs hx
    · rw [if_neg (by omega)] at hx; exact b3 _ s x hs (by rw [←a1]; exact hx)
  · rw [List.getElem?_append] at hx hv
    split at hx
    · rw [if_pos (by omega)] at hv; exact a4 i x v hx hv
    · rw [if_neg (by omega)] at hv; exact b4 _ x v hx (by rw [a1,←a2]; exact hv)
theorem zbD.nil {w:World}:zbD w [] [] []:=⟨rfl,rfl,fun i s x h=>by simp at h,fun i x v h=>by simp at h⟩
theorem zbD.one {w:World} {s:Sh} {x:C} {v:Value} (h1:Shaped s x) (h2:VC (fun c=>c<w.heap.size) w x v) (h3:v.oneCell'=true):zbD w [s] [x] [v]:=by
  refine ⟨rfl,rfl,fun i s' x' hs hx=>?_,fun i x' v' hx hv=>?_⟩
  · cases i with
    | zero=>simp at hs hx; subst hs hx; exact h1
    | succ i=>simp at hs
  · cases i with
    | zero=>simp at hx hv; subst hx hv; exact ⟨h2,h3⟩
    | succ i=>simp at hx
theorem cells_get {w:World} {base:Nat} {a:Addr} {n:Nat} {cs:List Value} (h:w.cells? base a n=some cs):cs.length=n∧∀(j:Nat) v,cs[j]? = some v→w.cell? (a.add j)=some v:=by
  unfold World.cells? at h
  split at h
  · obtain ⟨h1,h2⟩:=zda h
    refine ⟨by simpa using h1,fun j v hj=>?_⟩
    obtain ⟨i,hi,hv⟩:=h2 j v hj
    have hl:=(List.getElem?_eq_some_iff.1 hi).1
    simp at hl
    rw [List.getElem?_range hl] at hi
    simp only [Option.some.injEq] at hi
    subst hi
    exact hv
  · simp at h
theorem pick_list {α:Type} {n:Nat} {p:Nat→α→Prop} (h:∀i,i<n→∃a,p i a):∃l:List α,l.length=n∧∀(i:Nat) a,l[i]? = some a→p i a:=by
  induction n with
  | zero=>exact ⟨[],rfl,fun i a h=>by simp at h⟩
  | succ n ih =>
    obtain ⟨l,h1,h2⟩:=ih (fun i hi=>h i (by omega))
    obtain ⟨a,ha⟩:=h n (by omega)
    refine ⟨l++[a],by simp [h1],fun i b hb=>?_⟩
    rw [List.getElem?_append] at hb
    split at hb
    · exact h2 i b hb
    · rename_i hi
      have hlt:=(List.getElem?_eq_some_iff.1 hb).1
      simp at hlt
      have:i=n:=by omega
      subst this
      rw [show i-l.length=0 from by omega] at hb
      simp at hb
      subst hb
      exact ha
theorem trod_slice_inv {H:Type} {enc:TypeId×Value→H} {P:Program} {w:World} {spare:Nat→Bool} {held:Bool} {f:Nat} {t e:TypeId} {cs:List Value} {d:DataW H} {ps:List MemPlace}
    (hu:P.underlying t=some (.slice e)) (h:DataW.trod enc P w 0 spare held (f+1) t cs=some (d,ps)) :
    cs=[.slice none 0 0]∨∃a len cap,cs=[.slice (some a) len cap]∧len≤cap∧cap≤maxLen∧∀i,i<len→∃ci di pi,w.cells? 0 (a.add (i * P.cellsOf e)) (P.cellsOf e)=some ci∧DataW.trod enc P w 0 spare held f e ci=some (di,pi):=by
  unfold DataW.trod at h
  rw [hu] at h
  split at h <;> rename_i heq <;> first
    | (simp only [Option.some.injEq,reduceCtorEq] at heq; done)
    | skip
  · exact .inl rfl
  · rename_i e' a len cap
    simp only [Option.some.injEq,TypeDesc.slice.injEq] at heq
    subst heq
    simp only at h
    split at h
    · rename_i hc
      simp only [Option.bind_eq_some_iff] at h
      obtain ⟨elems,hel,_⟩:=h
      refine .inr ⟨a,len,cap,rfl,hc.2.1,hc.2.2,fun i hi=>?_⟩
      obtain ⟨⟨di,pi⟩,_,hdi⟩:=mapM_get' hel i i (List.getElem?_range hi)
      simp only [Option.bind_eq_some_iff] at hdi
      obtain ⟨ci,h1,h2⟩:=hdi
      exact ⟨ci,di,pi,h1,h2⟩
    · simp at h
  · simp at h
theorem trod_struct_inv {H:Type} {enc:TypeId×Value→H} {P:Program} {w:World} {spare:Nat→Bool} {held:Bool} {f:Nat} {t:TypeId} {fs:Array Field} {cs:List Value} {d:DataW H} {ps:List MemPlace}
    (hu:P.underlying t=some (.struct fs)) (h:DataW.trod enc P w 0 spare held (f+1) t cs=some (d,ps)) :
    cs.length=P.cellsOf t∧∀fd∈fs.toList,∃di pi,DataW.trod enc P w 0 spare held f fd.type ((cs.drop fd.offset).take (P.cellsOf fd.type))=some (di,pi):=by
  unfold DataW.trod at h
  rw [hu] at h
  split at h <;> rename_i heq <;> first
    | (simp only [Option.some.injEq,reduceCtorEq] at heq; done)
    | skip
  · simp only [Option.some.injEq,TypeDesc.struct.injEq] at heq
    subst heq
    split at h
    · rename_i hl
      simp only [Option.map_eq_some_iff] at h
      obtain ⟨xs,hxs,_⟩:=h
      refine ⟨hl,fun fd hfd=>?_⟩
      obtain ⟨i,hi⟩:=List.mem_iff_getElem?.1 hfd
      obtain ⟨⟨di,pi⟩,_,h1⟩:=mapM_get' hxs i fd hi
      exact ⟨di,pi,h1⟩
    · simp at h
  · exact absurd rfl (‹∀(fs_1:Array Field),some (TypeDesc.struct fs)=some (TypeDesc.struct fs_1)→False› fs)
theorem trod_array_inv {H:Type} {enc:TypeId×Value→H} {P:Program} {w:World} {spare:Nat→Bool} {held:Bool} {f n:Nat} {t e:TypeId} {cs:List Value} {d:DataW H} {ps:List MemPlace}
    (hu:P.underlying t=some (.array n e)) (h:DataW.trod enc P w 0 spare held (f+1) t cs=some (d,ps)) :
    cs.length=P.cellsOf t∧∀i,i<n→∃di pi,DataW.trod enc P w 0 spare held f e ((cs.drop (i * P.cellsOf e)).take (P.cellsOf e))=some (di,pi):=by
  unfold DataW.trod at h
  rw [hu] at h
  split at h <;> rename_i heq <;> first
    | (simp only [Option.some.injEq,reduceCtorEq] at heq; done)
    | skip
  · simp only [Option.some.injEq,TypeDesc.array.injEq] at heq
    obtain ⟨rfl,rfl⟩:=heq
    split at h
    · rename_i hl
      simp only [Option.map_eq_some_iff] at h
      obtain ⟨xs,hxs,_⟩:=h
      refine ⟨hl,fun i hi=>?_⟩
      obtain ⟨⟨di,pi⟩,_,h1⟩:=mapM_get' hxs i i (List.getElem?_range hi)
      exact ⟨di,pi,h1⟩
    · simp at h
  · exact absurd rfl (‹∀(n_1:Nat) (e_1:TypeId),some (TypeDesc.array n e)=some (TypeDesc.array n_1 e_1)→False› n e)
theorem trod_cells {H:Type} {enc:TypeId×Value→H} {P:Program} {w:World} {spare:Nat→Bool} {held:Bool}:∀(f:Nat) (f':Nat) (t:TypeId) (cs:List Value) (d:DataW H) (ps:List MemPlace) (shs:List Sh),
    DataW.trod enc P w 0 spare held f' t cs=some (d,ps)→shapesOf P f t=some shs→∃xs,zbD w shs xs cs:=by
  intro f
  induction f with
  | zero=>intro f' t cs d ps shs _ h; simp [shapesOf] at h
  | succ f ih =>
    intro f' t cs d ps shs ht hs
    cases f' with
    | zero=>simp [DataW.trod] at ht
    | succ f' =>
      simp only [shapesOf] at hs
      split at hs
      · -- bool
        rename_i hu
        simp only [Option.some.injEq] at hs
        subst hs
        unfold DataW.trod at ht
        rw [hu] at ht
        split at ht <;> simp_all
        subst_vars
        exact ⟨_,zbD.one (.bool _) (.lit _) rfl⟩
      · -- int
        rename_i k hu
        simp only [Option.some.injEq] at hs
        subst hs
        unfold DataW.trod at ht
        rw [hu] at ht
        split at ht <;> simp_all
        obtain ⟨⟨rfl,hwf⟩,_⟩:=ht
        exact ⟨_,zbD.one (.int hwf) (.lit _) rfl⟩
      · -- string
        rename_i hu
        simp only [Option.some.injEq] at hs
        subst hs
        unfold DataW.trod at ht
        rw [hu] at ht
        split at ht <;> simp_all
        exact ⟨_,zbD.one (.str ht.1) (.lit _) rfl⟩
      · -- slice
        rename_i e hu
        split at hs
        · rename_i s hse
          split at hs
          · rename_i hsl
            obtain ⟨hsl,hsne⟩:=hsl
            simp only [Option.some.injEq] at hs
            subst hs
            have hpos:0<s.length:=List.length_pos_iff.2 hsne
            rcases trod_slice_inv hu ht with rfl | ⟨ad,len,cap,rfl,hlc,hcm,hel⟩
            · refine ⟨[.frz false []],zbD.one (.sl (by simp) (fun x h=>by simp at h) (fun x h=>by simp at h)) ?_ rfl⟩
              exact .frz 0 none 0 (by simp) (fun _=>rfl) (fun _ _=>undef) (fun e h=>by simp at h) (by simp) (fun i j e d h=>by simp at h) (fun i j e d h=>by simp at h)
            · rw [←hsl] at hel
              have hex:∀i,i<len→∃(p:List C×List Value),w.cells? 0 (ad.add (i * s.length)) s.length=some p.2∧zbD w s p.1 p.2:=by
                intro i hi
                obtain ⟨ci,di,pi,h1,h2⟩:=hel i hi
                obtain ⟨xs,hxs⟩:=ih f' e ci di pi s h2 hse
                exact ⟨(xs,ci),h1,hxs⟩
              obtain ⟨l,hl1,hl2⟩:=pick_list hex
              have hspot:0<len→ad.spot=none∧ad.block<w.heap.size:=by
                intro h0
                obtain ⟨ci,di,pi,h1,_⟩:=hel 0 h0
                obtain ⟨h3,h4⟩:=cells_get h1
                have hc:=h4 0 _ (List.getElem?_eq_getElem (by omega))
                have e0:(ad.add (0 * s.length)).add 0=ad:=by simp [Addr.add]
                rw [e0] at hc
                exact ⟨World.cell?_spot hc,block_lt_of_cell hc⟩
              let g:Nat→Nat→Value:=fun i j=>(((l[i]?).map (·.2)).bind (·[j]?)).getD undef
              have hcellij:∀(i j:Nat) (x:List C) (c:C),(l.map (·.1))[i]? = some x→x[j]? = some c→ad=⟨ad.block,ad.off,none⟩∧ad.block<w.heap.size∧w.cell? ⟨ad.block,ad.off+i * s.length+j,none⟩=some (g i j) ∧
                  VC (fun c=>c<w.heap.size) w c (g i j)∧(g i j).oneCell'=true:=by
                intro i j x c hx hc
                simp only [List.getElem?_map,Option.map_eq_some_iff] at hx
                obtain ⟨p,hp,rfl⟩:=hx
                obtain ⟨h1,h2,h3,h4,h5⟩:=hl2 i p hp
                have hi:i<len:=by rw [←hl1]; exact (List.getElem?_eq_some_iff.1 hp).1
                obtain ⟨hsp,hbl⟩:=hspot (by omega)
                have had:ad=⟨ad.block,ad.off,none⟩:=by cases ad; simp_all
                have hjl:j<p.2.length:=by have:=(List.getElem?_eq_some_iff.1 hc).1; omega
                have hv:p.2[j]? = some p.2[j]:=List.getElem?_eq_getElem hjl
                have hg:g i j=p.2[j]:=by simp only [g,hp,Option.map_some,Option.bind_some,hv,Option.getD_some]
                have hcell:=(cells_get h1).2 j _ hv
                rw [had,add_off,add_off] at hcell
                rw [hg]
                exact ⟨had,hbl,hcell,h5 j c _ hc hv⟩
              have hlen:(l.map (·.1)).length=len:=by simp [hl1]
              refine ⟨[.frz false (l.map (·.1))],zbD.one (.sl (by rw [hlen]; omega) (fun x hx=>?_) (fun x hx j sj c h1 h2=>?_)) ?_ rfl⟩
              · simp only [List.mem_map] at hx
                obtain ⟨p,hp,rfl⟩:=hx
                obtain ⟨i,hi⟩:=List.mem_iff_getElem?.1 hp
                exact (hl2 i p hi).2.1
              · simp only [List.mem_map] at hx
                obtain ⟨p,hp,rfl⟩:=hx
                obtain ⟨i,hi⟩:=List.mem_iff_getElem?.1 hp
                exact (hl2 i p hi).2.2.2.1 j sj c h1 h2
              · have:=VC.frz (Fz:=fun c=>c<w.heap.size) (w:=w) (nn:=false) (es:=l.map (·.1)) s.length (some ad) cap (by simp) (fun h=>by cases h) g (fun x hx=>?_) (by rw [hlen]; exact hlc) (fun i j x c h1 h2=>?_) (fun i j x c h1 h2=>(hcellij i j x c h1 h2).2.2.2.1)
                · rw [hlen] at this; exact this
                · simp only [List.mem_map] at hx
                  obtain ⟨p,hp,rfl⟩:=hx
                  obtain ⟨i,hi⟩:=List.mem_iff_getElem?.1 hp
                  exact (hl2 i p hi).2.1
                · obtain ⟨k1,k2,k3,k4,k5⟩:=hcellij i j x c h1 h2
                  exact ⟨ad.block,ad.off,by rw [←k1],k2,k3,k5⟩
          · simp at hs
        · simp at hs
      · -- struct
        rename_i fs hu
        split at hs
        · rename_i l hl
          split at hs
          · rename_i hll
            simp only [Option.some.injEq] at hs
            subst hs
            obtain ⟨h1,h2⟩:=trod_struct_inv hu ht
            have key:∀(fl:List Field) (acc:List Sh) (ax:List C),(∀fd∈fl,fd∈fs.toList)→acc.length≤cs.length→zbD w acc ax (cs.take acc.length) →
                fl.foldl (fun acc fd=>match acc,shapesOf P f fd.type with
                  | some l,some s=>if fd.offset=l.length∧s.length=P.cellsOf fd.type then some (l++s) else none
                  | _,_=>none) (some acc)=some l→l.length≤cs.length→∃xs,zbD w l xs (cs.take l.length):=by
              intro fl
              induction fl with
              | nil=>intro acc ax _ _ hok he _; simp only [List.foldl_nil,Option.some.injEq] at he; subst he; exact ⟨ax,hok⟩
              | cons fd fl ihf =>
                intro acc ax hmem hacc hok he hle
                simp only [List.foldl_cons] at he
                have hnone:∀(gl:List Field),gl.foldl (fun acc fd=>match acc,shapesOf P f fd.type with
                  | some l,some s=>if fd.offset=l.length∧s.length=P.cellsOf fd.type then some (l++s) else none
                  | _,_=>none) none=none:=by
                  intro gl
                  induction gl with
                  | nil=>rfl
                  | cons _ _ ih=>simp only [List.foldl_cons]; exact ih
                cases hsf:shapesOf P f fd.type with
                | none=>rw [hsf] at he; simp only [hnone] at he; simp at he
                | some s =>
                  rw [hsf] at he
                  simp only at he
                  split at he
                  · rename_i hc
                    obtain ⟨hoff,hsl⟩:=hc
                    obtain ⟨di,pi,hd⟩:=h2 fd (hmem fd (by simp))
                    obtain ⟨xs,hxs⟩:=ih f' fd.type _ di pi s hd hsf
                    have hlen2:acc.length+s.length≤cs.length:=by
                      have:=hxs.2.1
                      simp only [List.length_take,List.length_drop] at this
                      omega
                    refine ihf (acc++s) (ax++xs) (fun x hx=>hmem x (by simp [hx])) (by simp; omega) ?_ he hle
                    have htake:cs.take (acc++s).length=cs.take acc.length++(cs.drop fd.offset).take (P.cellsOf fd.type):=by
                      rw [List.length_append,List.take_add,hoff,hsl]
                    rw [htake]
                    exact hok.append hxs
                  · simp only [hnone] at he; simp at he
            obtain ⟨xs,hxs⟩:=key fs.toList [] [] (fun _ h=>h) (by simp) (by simpa using zbD.nil) hl (by omega)
            rw [List.take_of_length_le (by omega)] at hxs
            exact ⟨xs,hxs⟩
          · simp at hs
        · simp at hs
      · -- array
        rename_i n e hu
        split at hs
        · rename_i s hse
          split at hs
          · rename_i hsl
            obtain ⟨hsl,hnl⟩:=hsl
            simp only [Option.some.injEq] at hs
            subst hs
            obtain ⟨h1,h2⟩:=trod_array_inv hu ht
            rw [←hsl] at h2
            have key:∀m,m≤n→∃xs,zbD w (List.replicate m s).flatten xs (cs.take (m * s.length)):=by
              intro m
              induction m with
              | zero=>intro _; exact ⟨[],by simpa using zbD.nil⟩
              | succ m ihm =>
                intro hm
                obtain ⟨xs,hxs⟩:=ihm (by omega)
                obtain ⟨di,pi,hd⟩:=h2 m (by omega)
                obtain ⟨ys,hys⟩:=ih f' e _ di pi s hd hse
                refine ⟨xs++ys,?_⟩
                have e1:(List.replicate (m+1) s).flatten=(List.replicate m s).flatten++s:=by
                  rw [List.replicate_succ',List.flatten_append]
                  simp
                rw [e1,Nat.succ_mul,List.take_add]
                exact hxs.append hys
            obtain ⟨xs,hxs⟩:=key n (Nat.le_refl _)
            rw [List.take_of_length_le (by omega)] at hxs
            exact ⟨xs,hxs⟩
          · simp at hs
        · simp at hs
      · simp at hs
end Go.Abs
end
section
namespace Go.Abs
variable [Gl]
open Go.RowKit
theorem Rel.start (w:World) (hg:Gl.ok (fun c=>c<w.heap.size) w):Rel [] (fun _=>none) (fun c=>c<w.heap.size) w:={
  blk:=fun b c h=>by simp at h
  inj:=fun b b' c h=>by simp at h
  fz:=fun c h=>h
  gl:=hg }
theorem V.cells_agg {w:World} {shs:List Sh} {xs:List C} {vs:Array Value} (h:zbD w shs xs vs.toList) {σ:Heap} {M:Nat→Option Nat}:V σ M (fun c=>c<w.heap.size) w (.agg (xs.map .c)) (.agg vs):=by
  obtain ⟨h1,h2,_,h4⟩:=h
  refine .agg vs (by simp at h2 ⊢; omega) (fun i d v a b=>?_)
  simp only [List.getElem?_map,Option.map_eq_some_iff] at a
  obtain ⟨x,hx,rfl⟩:=a
  exact .c (h4 i x v hx (by simpa using b)).1
theorem V.cells_one {w:World} {s:Sh} {xs:List C} {v:Value} (h:zbD w [s] xs [v]) {σ:Heap} {M:Nat→Option Nat}:∃x,xs=[x]∧Shaped s x∧V σ M (fun c=>c<w.heap.size) w (.c x) v:=by
  obtain ⟨h1,_,h3,h4⟩:=h
  match xs,h1,h3,h4 with
  | [x],_,h3,h4=>exact ⟨x,rfl,h3 0 s x rfl rfl,.c (h4 0 x v rfl rfl).1⟩
theorem Evo.below {σ:Heap} {M:Nat→Option Nat} {Fz:Nat→Prop} {w w':World} (R:Rel σ M Fz w) (hb:Below w.heap.size w w'):Evo σ M Fz w σ M Fz w':={
  size:=hb.size
  frame:=fun c hc _=>hb.block c hc
  ran:=fun b c h=>.inl ⟨b,h⟩
  fz:=fun c h=>⟨h,hb.block c (R.fz c h)⟩
  fz':=fun c h=>.inl h
  shp:=fun c arr T fr h=>⟨arr,by rw [hb.block c (Array.getElem?_eq_some_iff.1 h).1]; exact h,rfl⟩
  keep:=fun b ob h=>⟨ob,h,Nat.le_refl _,fun _=>rfl⟩
  out:=⟨hb.os,hb.tape,hb.output⟩ }
theorem Rel.below {σ:Heap} {M:Nat→Option Nat} {Fz:Nat→Prop} {w w':World} (R:Rel σ M Fz w) (hb:Below w.heap.size w w'):Rel σ M Fz w':={
  blk:=fun b c h=>by
    obtain ⟨h1,ob,o,h2,h3,h4⟩:=R.blk b c h
    exact ⟨h1,ob,o,h2,by rw [hb.block c (R.lt h).2]; exact h3,h4.mono (Evo.below R hb)⟩
  inj:=R.inj
  fz:=fun c h=>Nat.lt_of_lt_of_le (R.fz c h) hb.size
  gl:=Gl.mono (Evo.below R hb).fz R.gl }
noncomputable def tblOf (P:Program) (keep:List Nat) (g:FuncId):Option AFunc:=
  match P.funcs[g]? with
  | some fn=>if enterable P g then compF P fn (!keep.contains g) else none
  | none=>none
theorem tblOf_ok (P:Program) (keep:List Nat):TblOk P (tblOf P keep):=by
  intro g af h
  unfold tblOf at h
  split at h
  · rename_i fn hfn
    split at h
    · rename_i he
      exact ⟨he,fn,_,hfn,h⟩
    · simp at h
  · simp at h
end Go.Abs
end
section
namespace Go.Abs
variable [Gl]
abbrev AL:=List (Nat×D)
def lk (t:Nat):AL→Option D
  | []=>none
  | (s,d)::al=>match Nat.beq s t with | true=>some d | false=>lk t al
def zdT (n:Nat) (al:AL):List D:=(List.range n).map fun t=>(lk t al).getD .any
def Env (n:Nat) (al:AL) (e:List D):Prop:=e.length=n∧∀t d,lk t al=some d→e[t]? = some d
def AEnv (n:Nat) (σ:Heap) (M:Nat→Option Nat) (Fz:Nat→Prop) (w:World) (al:AL) (tmps:Array Value):Prop:=
  tmps.size=n∧∀t d,lk t al=some d→∃v,tmps[t]? = some v∧V σ M Fz w d v
section
variable {P:Program} {orc:Orc} {σ σ' σ1 σ2:Heap} {M M':Nat→Option Nat} {Fz Fz':Nat→Prop} {w w':World} {n:Nat} {al al1 al2:AL}
theorem AEnv.toEnv {tmps:Array Value} (h:AEnv n σ M Fz w al tmps):zap σ M Fz w (zdT n al) tmps∧Env n al (zdT n al):=by
  refine ⟨⟨by simp [zdT,h.1],fun i d v a b=>?_⟩,by simp [zdT],fun t d ht=>?_⟩
  · simp only [zdT,List.getElem?_map,Option.map_eq_some_iff] at a
    obtain ⟨j,hj,rfl⟩:=a
    have:j=i:=by
      rw [List.getElem?_range (by rw [List.getElem?_eq_some_iff] at hj; obtain ⟨h1,_⟩:=hj; simpa using h1)] at hj
      simpa using hj.symm
    subst this
    cases hl:lk j al with
    | none=>exact .any v
    | some d =>
      obtain ⟨v',h1,h2⟩:=h.2 j d hl
      rw [b] at h1
      simp only [Option.some.injEq] at h1
      subst h1
      exact h2
  · obtain ⟨v,h1,_⟩:=h.2 t d ht
    have hlt:t<n:=by have:=(Array.getElem?_eq_some_iff.1 h1).1; rw [h.1] at this; exact this
    simp [zdT,hlt,ht]
theorem AEnv.ofEnv {tmps:Array Value} {e:List D} (h:zap σ M Fz w e tmps) (he:Env n al e):AEnv n σ M Fz w al tmps:=by
  refine ⟨by rw [h.1,he.1],fun t d ht=>?_⟩
  have h1:=he.2 t d ht
  have h2:t<tmps.size:=by rw [h.1]; exact (List.getElem?_eq_some_iff.1 h1).1
  exact ⟨tmps[t],Array.getElem?_eq_getElem h2,h.2 t d _ h1 (Array.getElem?_eq_getElem h2)⟩
def Sem (P:Program) (ac:ACode) (n:Nat) (al:AL) (σ:Heap) (Q:AExit→AL→Heap→Prop):Prop:=
  ∀ (c : Code), zbP P c = some ac → ∀ (M : Nat → Option Nat) (Fz : Nat → Prop) (w : World) (a : Act) (K : Exit → Act → World → Prop), Rel σ M Fz w → AEnv n σ M Fz w al a.tmps →
    (∀x al' σ' a' w' M' Fz',Q x al' σ'→a'.defers=a.defers→Rel σ' M' Fz' w'→AEnv n σ' M' Fz' w' al' a'.tmps→Evo σ M Fz w σ' M' Fz' w'→σ.length≤σ'.length→K (toE x) a' w')→c.wp P K a w
def SemL (P:Program) (ac:ACode) (k:Nat) (n:Nat) (al:AL) (σ:Heap) (Q:AExit→AL→Heap→Prop):Prop:=
  ∀ (c : Code), zbP P c = some ac → ∀ (M : Nat → Option Nat) (Fz : Nat → Prop) (w : World) (a : Act) (K : Exit → Act → World → Prop), Rel σ M Fz w → AEnv n σ M Fz w al a.tmps →
    (∀x al' σ' a' w' M' Fz',Q x al' σ'→a'.defers=a.defers→Rel σ' M' Fz' w'→AEnv n σ' M' Fz' w' al' a'.tmps→Evo σ M Fz w σ' M' Fz' w'→σ.length≤σ'.length→K (toE x) a' w')→Code.rounds P c K k a w
def DLe (d d':D):Prop:=∀σ M Fz w v,V σ M Fz w d v→V σ M Fz w d' v
theorem DLe.refl (d:D):DLe d d:=fun _ _ _ _ _ h=>h
def Sub (al1:AL):AL→Prop
  | []=>True
  | (t,d)::al2=>(∃d1,lk t al1=some d1∧DLe d1 d)∧Sub al1 al2
theorem Sub.get {al1 al2:AL} (h:Sub al1 al2) {t:Nat} {d:D} (ht:lk t al2=some d):∃d1,lk t al1=some d1∧DLe d1 d:=by
  induction al2 with
  | nil=>simp [lk] at ht
  | cons p al2 ih =>
    obtain ⟨s,d'⟩:=p
    simp only [lk] at ht
    split at ht
    · rename_i hb
      have:=Nat.eq_of_beq_eq_true hb
      simp only [Option.some.injEq] at ht
      subst this ht
      exact h.1
    · exact ih h.2 ht
theorem Sub.one {al1 al2:AL} {t:Nat} {d d1:D} (h:lk t al1=some d1) (hd:DLe d1 d) (r:Sub al1 al2):Sub al1 ((t,d)::al2):=⟨⟨d1,h,hd⟩,r⟩
theorem Sub.same {al1 al2:AL} {t:Nat} {d:D} (h:lk t al1=some d) (r:Sub al1 al2):Sub al1 ((t,d)::al2):=⟨⟨d,h,DLe.refl d⟩,r⟩
theorem AEnv.sub {tmps:Array Value} (h:AEnv n σ M Fz w al1 tmps) (hs:Sub al1 al2):AEnv n σ M Fz w al2 tmps:=
  ⟨h.1,fun t d ht=>by
    obtain ⟨d1,h1,h2⟩:=hs.get ht
    obtain ⟨v,hv,hV⟩:=h.2 t d1 h1
    exact ⟨v,hv,h2 _ _ _ _ _ hV⟩⟩
def D.low (m:Nat):D→Bool
  | .c _=>true
  | .any=>true
  | .ptr b _ _=>b<m
  | .sl b _ _ _ _=>b<m
  | .mp b=>b<m
  | .fn _ a b=>lows m a&&lows m b
  | .agg ds=>lows m ds
  | .tup ds=>lows m ds
where lows (m:Nat):List D→Bool
  | []=>true
  | d::ds=>d.low m&&lows m ds
theorem D.lows_get {m:Nat}:∀{ds:List D},D.low.lows m ds=true→∀(i:Nat) d,ds[i]? = some d→d.low m=true:=by
  intro ds
  induction ds with
  | nil=>intro _ i d h; simp at h
  | cons x ds ih =>
    intro h i d hi
    simp only [D.low.lows,Bool.and_eq_true] at h
    cases i with
    | zero=>simp at hi; subst hi; exact h.1
    | succ i=>exact ih h.2 i d (by simpa using hi)
def Ob.low (m:Nat):Ob→Bool
  | .cells cs=>D.low.lows m cs
  | .map es _=>es.all fun e=>e.2.1.low m
  | .gone _=>true
theorem V.trunc {m:Nat} {d:D} {v:Value} (h:V σ M Fz w d v) (hl:d.low m=true):V (σ.take m) (cutM M m) Fz w d v:=by
  induction h with
  | c h=>exact .c h
  | any v=>exact .any v
  | ptr a ob h hle hv =>
    simp only [D.low,decide_eq_true_eq] at hl
    exact .ptr a ob (by rw [List.getElem?_take,if_pos hl]; exact h) hle (fun he=>by simpa [cutM,hl] using hv he)
  | sl a n cap hnn ob h hle hv =>
    simp only [D.low,decide_eq_true_eq] at hl
    exact .sl a n cap hnn ob (by rw [List.getElem?_take,if_pos hl]; exact h) hle (fun he=>by simpa [cutM,hl] using hv he)
  | mp c ob h hv =>
    simp only [D.low,decide_eq_true_eq] at hl
    exact .mp c ob (by rw [List.getElem?_take,if_pos hl]; exact h) (fun he=>by simpa [cutM,hl] using hv he)
  | fn vs ws h1 h2 hv hw ih1 ih2 =>
    simp only [D.low,Bool.and_eq_true] at hl
    exact .fn vs ws h1 h2 (fun i d v a b=>ih1 i d v a b (D.lows_get hl.1 i d a)) (fun i d v a b=>ih2 i d v a b (D.lows_get hl.2 i d a))
  | agg vs h1 hv ih=>simp only [D.low] at hl; exact .agg vs h1 (fun i d v a b=>ih i d v a b (D.lows_get hl i d a))
  | tup vs h1 hv ih=>simp only [D.low] at hl; exact .tup vs h1 (fun i d v a b=>ih i d v a b (D.lows_get hl i d a))
theorem Rel.trunc {m:Nat} (R:Rel σ M Fz w) (hl:(σ.take m).all (Ob.low m)=true):Rel (σ.take m) (cutM M m) Fz w:=by
  refine ⟨fun b c h=>?_,fun b b' c h h'=>?_,R.fz,R.gl⟩
  · unfold cutM at h
    split at h
    · rename_i hb
      obtain ⟨h1,ob,o,h2,h3,h4⟩:=R.blk b c h
      have h2':(σ.take m)[b]? = some ob:=by rw [List.getElem?_take,if_pos hb]; exact h2
      have hob:ob.low m=true:=List.all_eq_true.1 hl ob (List.mem_of_getElem? h2')
      refine ⟨h1,ob,o,h2',h3,?_⟩
      cases ob with
      | cells cs=>obtain ⟨arr,T,ho,hle,hv⟩:=h4; exact ⟨arr,T,ho,hle,fun i d v x y=>⟨(hv i d v x y).1.trunc (D.lows_get hob i d x),(hv i d v x y).2⟩⟩
      | map es clock =>
        obtain ⟨arr,ho,hle,hv⟩:=h4
        refine ⟨arr,ho,hle,fun i k d n e x y=>?_⟩
        obtain ⟨p,q,r⟩:=hv i k d n e x y
        simp only [Ob.low,List.all_eq_true] at hob
        exact ⟨p,q,r.trunc (hob (k,d,n) (List.mem_of_getElem? x))⟩
      | gone n=>exact h4.elim
    · simp at h
  · unfold cutM at h h'
    split at h
    · split at h'
      · exact R.inj b b' c h h'
      · simp at h'
    · simp at h
theorem Evo.trunc {m:Nat} (E:Evo σ M Fz w σ1 M' Fz' w') (hm:σ.length≤m):Evo σ M Fz w (σ1.take m) (cutM M' m) Fz' w':=by
  refine ⟨E.size,E.frame,fun b c h=>?_,E.fz,E.fz',E.shp,fun b ob h=>?_,E.out⟩
  · unfold cutM at h
    split at h
    · exact E.ran b c h
    · simp at h
  · obtain ⟨ob',h1,h2,h3⟩:=E.keep b ob h
    have hb:b<m:=Nat.lt_of_lt_of_le (List.getElem?_eq_some_iff.1 h).1 hm
    exact ⟨ob',by rw [List.getElem?_take,if_pos hb]; exact h1,h2,fun he=>by simp only [cutM,if_pos hb]; exact h3 he⟩
inductive Wk (k:Nat) (al1:AL) (σ1:Heap):AL→Heap→Prop where
  | refl:Wk k al1 σ1 al1 σ1
  | same {al2:AL} (h:Sub al1 al2):Wk k al1 σ1 al2 σ1
  | cut {al2:AL} (m:Nat) (hm:k≤m) (hs:m≤σ1.length) (h:Sub al1 al2) (hd:al2.all (fun p=>p.2.low m)=true) (hl:(σ1.take m).all (Ob.low m)=true):Wk k al1 σ1 al2 (σ1.take m)
theorem lk_mem {t:Nat} {d:D}:∀{al:AL},lk t al=some d→(t,d)∈al:=by
  intro al
  induction al with
  | nil=>intro h; simp [lk] at h
  | cons p al ih =>
    intro h
    obtain ⟨s,d'⟩:=p
    simp only [lk] at h
    split at h
    · rename_i hb
      have:=Nat.eq_of_beq_eq_true hb
      simp only [Option.some.injEq] at h
      subst this h
      simp
    · exact List.mem_cons_of_mem _ (ih h)
theorem Wk.use {σ2:Heap} (h:Wk σ.length al1 σ1 al2 σ2) {tmps:Array Value} (R:Rel σ1 M' Fz' w') (A:AEnv n σ1 M' Fz' w' al1 tmps) (E:Evo σ M Fz w σ1 M' Fz' w') (hl:σ.length≤σ1.length) :
    ∃M2,Rel σ2 M2 Fz' w'∧AEnv n σ2 M2 Fz' w' al2 tmps∧Evo σ M Fz w σ2 M2 Fz' w'∧σ.length≤σ2.length:=by
  cases h with
  | refl=>exact ⟨M',R,A,E,hl⟩
  | same h=>exact ⟨M',R,A.sub h,E,hl⟩
  | cut m hm hs h hd hlo =>
    refine ⟨cutM M' m,R.trunc hlo,⟨A.1,fun t d ht=>?_⟩,E.trunc hm,by simp; omega⟩
    obtain ⟨v,h1,h2⟩:=(A.sub h).2 t d ht
    exact ⟨v,h1,h2.trunc (List.all_eq_true.1 hd (t,d) (lk_mem ht))⟩
end
end Go.Abs
end
section
namespace Go.Abs
variable [Gl]
section
variable {P:Program} {orc:Orc2} {σ σ' σ1 σ2:Heap} {n:Nat} {al al1 al2:AL} {Q:AExit→AL→Heap→Prop}
theorem Sem.mono {ac:ACode} {Q':AExit→AL→Heap→Prop} (h:Sem P ac n al σ Q) (hq:∀x al' σ',Q x al' σ'→∃al2 σ2,Wk σ.length al' σ' al2 σ2∧Q' x al2 σ2):Sem P ac n al σ Q':=by
  intro c hc M Fz w a K R A hK
  refine h c hc M Fz w a K R A fun x al' σ' a' w' M' Fz' hQ hd R' A' E' hl=>?_
  obtain ⟨al2,σ2,hw,hq'⟩:=hq x al' σ' hQ
  obtain ⟨M2,R2,A2,E2,l2⟩:=hw.use R' A' E' hl
  exact hK x al2 σ2 a' w' M2 Fz' hq' hd R2 A2 E2 l2
theorem Sem.pre {ac:ACode} (hs:Sub al al1) (h:Sem P ac n al1 σ Q):Sem P ac n al σ Q:=by
  intro c hc M Fz w a K R A hK
  exact h c hc M Fz w a K R (A.sub hs) hK
theorem SemL.pre {ac:ACode} {k:Nat} (hs:Sub al al1) (h:SemL P ac k n al1 σ Q):SemL P ac k n al σ Q:=by
  intro c hc M Fz w a K R A hK
  exact h c hc M Fz w a K R (A.sub hs) hK
theorem Sem.of_ev (hmix:P.follows .mixedOrders=true) (O:zbw P orc) {ac:ACode} {k:Nat} {x:AExit} {e e':List D} {wr wr':List Nat} (h:evC P orc k ac e σ wr=some (x,e',σ',wr'))
    (he:e=zdT n al) (he':Env n al1 e') (hQ:Q x al1 σ'):Sem P ac n al σ Q:=by
  intro c hc M Fz w a K R A hK
  subst he
  refine (code_wp hmix O k).1 c ac σ σ' M Fz w _ e' a wr wr' x K hc R A.toEnv.1 h fun a' w' M' Fz' hd R' E' EV=>?_
  exact hK x al1 σ' a' w' M' Fz' hQ hd R' (AEnv.ofEnv E' he') EV (evC_frame O _ _ _ _ _ _ _ _ _ h).1
theorem Sem.skip (hmix:P.follows .mixedOrders=true) (hQ:Q .normal al σ):Sem P .skip n al σ Q:=by
  intro c hc M Fz w a K R A hK
  have:Sem P .skip n al σ Q:=Sem.of_ev hmix (orc:=fun _ _ _ _=>none) (fun t g ds σ r σ' wr h=>by simp at h) (k:=1) (wr:=[]) (wr':=[]) (e:=zdT n al) rfl rfl A.toEnv.2 hQ
  exact this c hc M Fz w a K R A hK
theorem Sem.ret (hmix:P.follows .mixedOrders=true) (hQ:Q .ret al σ):Sem P .ret n al σ Q:=by
  intro c hc M Fz w a K R A hK
  have:Sem P .ret n al σ Q:=Sem.of_ev hmix (orc:=fun _ _ _ _=>none) (fun t g ds σ r σ' wr h=>by simp at h) (k:=1) (wr:=[]) (wr':=[]) (e:=zdT n al) rfl rfl A.toEnv.2 hQ
  exact this c hc M Fz w a K R A hK
theorem Sem.exit (hmix:P.follows .mixedOrders=true) {id:Nat} (hQ:Q (.exit id) al σ):Sem P (.exit id) n al σ Q:=by
  intro c hc M Fz w a K R A hK
  have:Sem P (.exit id) n al σ Q:=Sem.of_ev hmix (orc:=fun _ _ _ _=>none) (fun t g ds σ r σ' wr h=>by simp at h) (k:=1) (wr:=[]) (wr':=[]) (e:=zdT n al) rfl rfl A.toEnv.2 hQ
  exact this c hc M Fz w a K R A hK
theorem Sem.seq {a b:ACode} (h:Sem P a n al σ fun x al1 σ1=>match x with | .normal=>∃al2 σ2,Wk σ.length al1 σ1 al2 σ2∧Sem P b n al2 σ2 Q | x=>Q x al1 σ1):Sem P (.seq a b) n al σ Q:=by
  intro c hc M Fz w act K R A hK
  cases c with
  | seq c1 c2 =>
    simp only [zbP] at hc
    split at hc
    · rename_i a1 a2 h1 h2
      simp only [Option.some.injEq,ACode.seq.injEq] at hc
      obtain ⟨rfl,rfl⟩:=hc
      refine wp_seq (h c1 h1 M Fz w act _ R A fun x al1 σ1 a' w' M' Fz' hQ hd R' A' E' hl=>?_)
      cases x with
      | normal =>
        obtain ⟨al2,σ2,hw,hs⟩:=hQ
        obtain ⟨M2,R2,A2,E2,l2⟩:=hw.use R' A' E' hl
        exact hs c2 h2 M2 Fz' w' a' K R2 A2 fun x al3 σ3 a3 w3 M3 Fz3 hQ3 hd3 R3 A3 E3 hl3=>hK x al3 σ3 a3 w3 M3 Fz3 hQ3 (by rw [hd3,hd]) R3 A3 (E2.trans E3 l2) (Nat.le_trans l2 hl3)
      | exit i=>exact hK (.exit i) al1 σ1 a' w' M' Fz' hQ hd R' A' E' hl
      | ret=>exact hK .ret al1 σ1 a' w' M' Fz' hQ hd R' A' E' hl
    · simp at hc
  | region id ops draw =>
    simp only [zbP] at hc
    split at hc
    · cases draw with
      | false=>simp at hc
      | true=>simp only [if_true] at hc; split at hc <;> simp at hc
    · simp at hc
  | cond o c1 c2=>simp only [zbP] at hc; split at hc <;> simp at hc
  | block id c1=>simp [zbP] at hc
  | loop c1=>simp [zbP] at hc
  | _=>simp [zbP] at hc
theorem Sem.cond {o:Opd} {t e:ACode} {b:Bool} (ho:(match o with | .t k=>lk k al | .k d=>some d)=some (.c (.lit (.bool b))))
    (h1:b=true→Sem P t n al σ Q) (h2:b=false→Sem P e n al σ Q):Sem P (.cond o t e) n al σ Q:=by
  intro c hc M Fz w act K R A hK
  cases c with
  | cond x c1 c2 =>
    simp only [zbP] at hc
    split at hc
    · rename_i oo a1 a2 h0 h3 h4
      simp only [Option.some.injEq,ACode.cond.injEq] at hc
      obtain ⟨rfl,rfl,rfl⟩:=hc
      have hv:=zaU A.toEnv.1 h0
      have hoe:litBool (oo.ev (zdT n al))=some b:=by
        cases oo with
        | t k =>
          dsimp only at ho
          simp [Opd.ev,A.toEnv.2.2 k _ ho,litBool]
        | k d=>simp only [Option.some.injEq] at ho; subst ho; rfl
      cases b with
      | true=>exact wp_cond_true (litBool_inv hv hoe) (h1 rfl c1 h3 M Fz w act K R A hK)
      | false=>exact wp_cond_false (litBool_inv hv hoe) (h2 rfl c2 h4 M Fz w act K R A hK)
    · simp at hc
  | region id ops draw =>
    simp only [zbP] at hc
    split at hc
    · cases draw with
      | false=>simp at hc
      | true=>simp only [if_true] at hc; split at hc <;> simp at hc
    · simp at hc
  | seq c1 c2=>simp only [zbP] at hc; split at hc <;> simp at hc
  | block id c1=>simp [zbP] at hc
  | loop c1=>simp [zbP] at hc
  | _=>simp [zbP] at hc
theorem Sem.step {a b:ACode} (al2:AL) (σ2:Heap) (h1:Sem P a n al σ fun x al1 σ1=>x=.normal∧Wk σ.length al1 σ1 al2 σ2) (h2:Sem P b n al2 σ2 Q):Sem P (.seq a b) n al σ Q:=
  Sem.seq (h1.mono fun x al1 σ1 ⟨hx,hw⟩=>⟨al1,σ1,.refl,by subst hx; exact ⟨al2,σ2,hw,h2⟩⟩)
def out (id:Nat):AExit→AExit
  | .exit i=>if i=id then .normal else .exit i
  | x=>x
def behind (id:Nat) (Q:AExit→AL→Heap→Prop) (al:AL) (σ:Heap):AExit→Prop
  | .normal=>Q .normal al σ
  | .ret=>Q .ret al σ
  | .exit i=>(i=id→Q .normal al σ)∧(i≠id→Q (.exit i) al σ)
theorem Sem.block {id:Nat} {b:ACode} (h0:Sem P b n al σ fun x al1 σ1=>∃al2 σ2,Wk σ.length al1 σ1 al2 σ2∧behind id Q al2 σ2 x):Sem P (.block id b) n al σ Q:=by
  have h:Sem P b n al σ fun x al1 σ1=>∃al2 σ2,Wk σ.length al1 σ1 al2 σ2∧Q (out id x) al2 σ2:=h0.mono fun x al1 σ1 ⟨al2,σ2,hw,hb⟩=>⟨al1,σ1,.refl,al2,σ2,hw,by
    cases x with
    | normal=>exact hb
    | ret=>exact hb
    | exit i =>
      by_cases hi:i=id
      · simp only [out,if_pos hi]; exact hb.1 hi
      · simp only [out,if_neg hi]; exact hb.2 hi⟩
  intro c hc M Fz w act K R A hK
  cases c with
  | block i c1 =>
    simp only [zbP,Option.map_eq_some_iff,ACode.block.injEq] at hc
    obtain ⟨a1,h1,rfl,rfl⟩:=hc
    refine wp_block (h c1 h1 M Fz w act _ R A fun x al1 σ1 a' w' M' Fz' hQ hd R' A' E' hl=>?_)
    obtain ⟨al2,σ2,hw,hq⟩:=hQ
    obtain ⟨M2,R2,A2,E2,l2⟩:=hw.use R' A' E' hl
    have:=hK _ al2 σ2 a' w' M2 Fz' hq hd R2 A2 E2 l2
    cases x with
    | normal=>exact this
    | ret=>exact this
    | exit j =>
      by_cases hj:j=i
      · simp only [out,if_pos hj,toE] at this
        simp only [toE,Exit.inBlock,if_pos hj]
        exact this
      · simp only [out,if_neg hj,toE] at this
        simp only [toE,Exit.inBlock,if_neg hj]
        exact this
  | region id ops draw =>
    simp only [zbP] at hc
    split at hc
    · cases draw with
      | false=>simp at hc
      | true=>simp only [if_true] at hc; split at hc <;> simp at hc
    · simp at hc
  | seq c1 c2=>simp only [zbP] at hc; split at hc <;> simp at hc
  | cond o c1 c2=>simp only [zbP] at hc; split at hc <;> simp at hc
  | loop c1=>simp [zbP] at hc
  | _=>simp [zbP] at hc
theorem Sem.loop {b:ACode} (k:Nat) (h:SemL P b k n al σ Q):Sem P (.loop b) n al σ Q:=by
  intro c hc M Fz w act K R A hK
  cases c with
  | loop c1 =>
    simp only [zbP,Option.map_eq_some_iff,ACode.loop.injEq] at hc
    obtain ⟨a1,h1,rfl⟩:=hc
    exact wp_loop_rounds k (h c1 h1 M Fz w act K R A hK)
  | region id ops draw =>
    simp only [zbP] at hc
    split at hc
    · cases draw with
      | false=>simp at hc
      | true=>simp only [if_true] at hc; split at hc <;> simp at hc
    · simp at hc
  | seq c1 c2=>simp only [zbP] at hc; split at hc <;> simp at hc
  | cond o c1 c2=>simp only [zbP] at hc; split at hc <;> simp at hc
  | block id c1=>simp [zbP] at hc
  | _=>simp [zbP] at hc
theorem SemL.succ {b:ACode} {k:Nat} (h:Sem P b n al σ fun x al1 σ1=>match x with | .normal=>∃al2 σ2,Wk σ.length al1 σ1 al2 σ2∧SemL P b k n al2 σ2 Q | x=>∃al2 σ2,Wk σ.length al1 σ1 al2 σ2∧Q x al2 σ2):SemL P b (k+1) n al σ Q:=by
  intro c hc M Fz w act K R A hK
  rw [rounds_succ]
  refine h c hc M Fz w act _ R A fun x al1 σ1 a' w' M' Fz' hQ hd R' A' E' hl=>?_
  cases x with
  | normal =>
    obtain ⟨al2,σ2,hw,hs⟩:=hQ
    obtain ⟨M2,R2,A2,E2,l2⟩:=hw.use R' A' E' hl
    exact hs c hc M2 Fz' w' a' K R2 A2 fun x al3 σ3 a3 w3 M3 Fz3 hQ3 hd3 R3 A3 E3 hl3=>hK x al3 σ3 a3 w3 M3 Fz3 hQ3 (by rw [hd3,hd]) R3 A3 (E2.trans E3 l2) (Nat.le_trans l2 hl3)
  | exit i =>
    obtain ⟨al2,σ2,hw,hq⟩:=hQ
    obtain ⟨M2,R2,A2,E2,l2⟩:=hw.use R' A' E' hl
    exact hK (.exit i) al2 σ2 a' w' M2 Fz' hq hd R2 A2 E2 l2
  | ret =>
    obtain ⟨al2,σ2,hw,hq⟩:=hQ
    obtain ⟨M2,R2,A2,E2,l2⟩:=hw.use R' A' E' hl
    exact hK .ret al2 σ2 a' w' M2 Fz' hq hd R2 A2 E2 l2
theorem Sem.rounds {b:ACode} {V:Type} (L:V→AL) (H:V→Heap) (p:Nat→V→Prop) (k:Nat) (v:V) (hp:p k v) (h0:∀v,p 0 v→False)
    (hs:∀k v,p (k+1) v→Sem P b n (L v) (H v) fun x al1 σ1=>match x with | .normal=>∃v',p k v'∧Wk (H v).length al1 σ1 (L v') (H v') | x=>∃al2 σ2,Wk (H v).length al1 σ1 al2 σ2∧Q x al2 σ2)
    (hw:Sub al (L v)) (hσ:σ=H v):Sem P (.loop b) n al σ Q:=by
  subst hσ
  refine Sem.loop k (SemL.pre hw ?_)
  clear hw
  induction k generalizing v with
  | zero=>exact (h0 v hp).elim
  | succ k ih =>
    refine SemL.succ ((hs k v hp).mono fun x al1 σ1 hq=>⟨al1,σ1,.refl,?_⟩)
    cases x with
    | normal=>obtain ⟨v',hv,hw⟩:=hq; exact ⟨L v',H v',hw,ih v' hv⟩
    | exit i=>exact hq
    | ret=>exact hq
def Trc (P:Program) (orc:Orc2) (k:Nat) (os:List AOper) (n:Nat) (al:AL) (σ:Heap) (al':AL) (σ':Heap) (is:List Info):Prop:=
  ∀e,Env n al e→∃e',evTr P orc k os e σ=some (e',σ',is)∧Env n al' e'
theorem evTr_ops:∀(os:List AOper) (e e':List D) (σ σ':Heap) (is:List Info),evTr P orc 0 os e σ=some (e',σ',is)→evOps P orc os e σ=some (e',σ',is.flatMap (·.wr)):=by
  intro os
  induction os with
  | nil=>intro e e' σ σ' is h; simp only [evTr,Option.some.injEq,Prod.mk.injEq] at h; obtain ⟨rfl,rfl,rfl⟩:=h; rfl
  | cons o os ih =>
    intro e e' σ σ' is h
    simp only [evTr] at h
    split at h
    · rename_i env1 σ1 w1 h1
      split at h
      · split at h
        · rename_i env2 σ2 is2 h2
          simp only [Option.some.injEq,Prod.mk.injEq] at h
          obtain ⟨rfl,rfl,rfl⟩:=h
          have:=ih _ _ _ _ _ h2
          simp [evOps,h1,this,infoOf]
        · simp at h
      · simp at h
    · simp at h
theorem Sem.reg (hmix:P.follows .mixedOrders=true) (O:zbw P orc) {os:List AOper} {is:List Info} (h:Trc P orc 0 os n al σ al1 σ1 is) (hQ:Q .normal al1 σ1):Sem P (.reg os) n al σ Q:=by
  intro c hc M Fz w a K R A hK
  obtain ⟨e',h1,h2⟩:=h _ A.toEnv.2
  have h3:=evTr_ops _ _ _ _ _ _ h1
  have:Sem P (.reg os) n al σ Q:=Sem.of_ev hmix O (k:=1) (wr:=[]) (e:=zdT n al) (e':=e') (x:=.normal) (σ':=σ1) (wr':=is.flatMap (·.wr)++[]) (by simp only [evC,h3,Option.map_some]) rfl h2 hQ
  exact this c hc M Fz w a K R A hK
theorem Sem.drw (hmix:P.follows .mixedOrders=true) (O:zbw P orc) {os:List AOper} {bef:List Nat} {k p:Nat} {is:List Info} (h:Trc P orc k os n al σ al1 σ1 is) (hp:(pairsOk bef is&&tailOk bef p k os.length&&Nat.ble p k)=true) (hQ:Q .normal al1 σ1) :
    Sem P (.drw os bef k p) n al σ Q:=by
  intro c hc M Fz w a K R A hK
  obtain ⟨e',h1,h2⟩:=h _ A.toEnv.2
  have h3:evDrw P orc os bef p k (zdT n al) σ=some (e',σ1,is.flatMap (·.wr)):=by
    unfold evDrw
    rw [h1]
    dsimp only
    rw [if_pos hp]
  have:Sem P (.drw os bef k p) n al σ Q:=Sem.of_ev hmix O (k:=1) (wr:=[]) (e:=zdT n al) (e':=e') (x:=.normal) (σ':=σ1) (by simp only [evC,h3]; rfl) rfl h2 hQ
  exact this c hc M Fz w a K R A hK
theorem evTr_det:∀(os:List AOper) (n m:Nat) (e:List D) (σ:Heap) (r r':List D×Heap×List Info),evTr P orc n os e σ=some r→evTr P orc m os e σ=some r'→r=r':=by
  intro os
  induction os with
  | nil=>intro n m e σ r r' h h'; simp only [evTr,Option.some.injEq] at h h'; rw [←h,←h']
  | cons o os ih =>
    intro n m e σ r r' h h'
    simp only [evTr] at h h'
    cases h1:evOper P orc o e σ with
    | none=>rw [h1] at h; simp at h
    | some q =>
      obtain ⟨e1,σ1,w1⟩:=q
      rw [h1] at h h'
      dsimp only at h h'
      split at h
      · split at h'
        · cases h2:evTr P orc (n-1) os e1 σ1 with
          | none=>rw [h2] at h; simp at h
          | some r1 =>
            cases h3:evTr P orc (m-1) os e1 σ1 with
            | none=>rw [h3] at h'; simp at h'
            | some r2 =>
              have:=ih _ _ _ _ _ _ h2 h3
              subst this
              rw [h2] at h
              rw [h3] at h'
              obtain ⟨a,b,c⟩:=r1
              simp only [Option.some.injEq] at h h'
              rw [←h,←h']
        · simp at h'
      · simp at h
theorem Sem.drwN (hmix:P.follows .mixedOrders=true) (O:zbw P orc) {os:List AOper} {bef:List Nat} {k p:Nat} {is:List Info} (h:Trc P orc os.length os n al σ al1 σ1 is) (hp:(pairsOk bef is&&tailOk bef p os.length os.length&&Nat.ble p os.length)=true) (hQ:Q .normal al1 σ1) :
    Sem P (.drw os bef k p) n al σ Q:=by
  intro c hc M Fz w a K R A hK
  obtain ⟨e',h1,h2⟩:=h _ A.toEnv.2
  have det:∀m r,evDrw P orc os bef p m (zdT n al) σ=some r→r=(e',σ1,is.flatMap (·.wr)):=by
    intro m r hr
    unfold evDrw at hr
    split at hr
    · rename_i e2 σ2 is2 h3
      have:=evTr_det _ _ _ _ _ _ _ h3 h1
      simp only [Prod.mk.injEq] at this
      obtain ⟨rfl,rfl,rfl⟩:=this
      split at hr
      · simp only [Option.some.injEq] at hr; exact hr.symm
      · simp at hr
    · simp at hr
  have h3:evDrw P orc os bef p os.length (zdT n al) σ=some (e',σ1,is.flatMap (·.wr)):=by
    unfold evDrw
    rw [h1]
    dsimp only
    rw [if_pos hp]
  have h4:evC P orc 1 (.drw os bef k p) (zdT n al) σ []=some (.normal,e',σ1,is.flatMap (·.wr)++[]):=by
    simp only [evC]
    split
    · rename_i r e2 σ2 w2 hr
      have:=det _ _ hr
      simp only [Prod.mk.injEq] at this
      obtain ⟨rfl,rfl,rfl⟩:=this
      rfl
    · split
      · rename_i r e2 σ2 w2 hr
        have:=det _ _ hr
        simp only [Prod.mk.injEq] at this
        obtain ⟨rfl,rfl,rfl⟩:=this
        rfl
      · rw [h3]
  have:Sem P (.drw os bef k p) n al σ Q:=Sem.of_ev hmix O (k:=1) (wr:=[]) (e:=zdT n al) (e':=e') (x:=.normal) (σ':=σ1) h4 rfl h2 hQ
  exact this c hc M Fz w a K R A hK
end
end Go.Abs
end
section
namespace Go.Abs
variable [Gl]
open Go.RowKit
def Pure (P:Program) (g:FuncId) (ds:List D) (r:D):Prop:=enterable P g=true∧Ok P g ds [] r []
section
variable {P:Program} {σ σ':Heap} {M M':Nat→Option Nat} {Fz Fz':Nat→Prop} {w w':World}
theorem V.data {d:D} {v:Value} (h:V σ M Fz w d v) (hl:d.low 0=true) (σ':Heap) (M':Nat→Option Nat):V σ' M' Fz w d v:=by
  induction h with
  | c h=>exact .c h
  | any v=>exact .any v
  | ptr a ob h hle hv=>simp [D.low] at hl
  | sl a n cap hnn ob h hle hv=>simp [D.low] at hl
  | mp c ob h hv=>simp [D.low] at hl
  | fn vs ws h1 h2 hv hw ih1 ih2 =>
    simp only [D.low,Bool.and_eq_true] at hl
    exact .fn vs ws h1 h2 (fun i d v a b=>ih1 i d v a b (D.lows_get hl.1 i d a)) (fun i d v a b=>ih2 i d v a b (D.lows_get hl.2 i d a))
  | agg vs h1 hv ih=>simp only [D.low] at hl; exact .agg vs h1 (fun i d v a b=>ih i d v a b (D.lows_get hl i d a))
  | tup vs h1 hv ih=>simp only [D.low] at hl; exact .tup vs h1 (fun i d v a b=>ih i d v a b (D.lows_get hl i d a))
def D.ground:D→Bool
  | .c (.lit _)=>true
  | .agg ds=>grounds ds
  | .tup ds=>grounds ds
  | _=>false
where grounds:List D→Bool
  | []=>true
  | d::ds=>d.ground&&grounds ds
theorem D.grounds_get:∀{ds:List D},D.ground.grounds ds=true→∀(i:Nat) d,ds[i]? = some d→d.ground=true:=by
  intro ds
  induction ds with
  | nil=>intro _ i d h; simp at h
  | cons x ds ih =>
    intro h i d hi
    simp only [D.ground.grounds,Bool.and_eq_true] at h
    cases i with
    | zero=>simp at hi; subst hi; exact h.1
    | succ i=>exact ih h.2 i d (by simpa using hi)
theorem V.lit {d:D} {v:Value} (h:V σ M Fz w d v) (hl:d.ground=true) (σ':Heap) (M':Nat→Option Nat) (Fz':Nat→Prop) (w':World):V σ' M' Fz' w' d v:=by
  induction h with
  | c h =>
    rename_i x v
    cases x with
    | lit u=>cases h; exact .c (.lit _)
    | _=>simp [D.ground] at hl
  | any v=>simp [D.ground] at hl
  | ptr a ob h hle hv=>simp [D.ground] at hl
  | sl a n cap hnn ob h hle hv=>simp [D.ground] at hl
  | mp c ob h hv=>simp [D.ground] at hl
  | fn vs ws h1 h2 hv hw ih1 ih2=>simp [D.ground] at hl
  | agg vs h1 hv ih=>simp only [D.ground] at hl; exact .agg vs h1 (fun i d v a b=>ih i d v a b (D.grounds_get hl i d a))
  | tup vs h1 hv ih=>simp only [D.ground] at hl; exact .tup vs h1 (fun i d v a b=>ih i d v a b (D.grounds_get hl i d a))
theorem Pure.data {g:FuncId} {ds:List D} {r:D} (h:Pure P g ds r) (hd:ds.all (D.low 0)=true) (hr:r.low 0=true):Ok P g ds σ r σ:=by
  intro M Fz w vs R hs hvs
  have R0:Rel [] (fun _=>none) Fz w:=⟨fun b c h=>by simp at h,fun b b' c h=>by simp at h,R.fz,R.gl⟩
  refine (h.2 _ Fz w vs R0 hs fun i d v a b=>(hvs i d v a b).data (List.all_eq_true.1 hd d (List.mem_of_getElem? a)) _ _).mono fun e w' he=>?_
  obtain ⟨v,M',Fz',rfl,R',hv,EV⟩:=he
  have hb:∀c:Nat,c<w.heap.size→w'.heap[c]? = w.heap[c]?:=fun c hc=>EV.frame c hc (fun b h=>by simp at h)
  have E:Evo σ M Fz w σ M Fz' w':={
    size:=EV.size
    frame:=fun c hc _=>hb c hc
    ran:=fun b c h=>.inl ⟨b,h⟩
    fz:=EV.fz
    fz':=fun c h=>by
      rcases EV.fz' c h with h | ⟨b,h⟩ | h
      · exact .inl h
      · simp at h
      · exact .inr (.inr h)
    shp:=fun c arr T fr h=>⟨arr,by rw [hb c (Array.getElem?_eq_some_iff.1 h).1]; exact h,rfl⟩
    keep:=fun b ob h=>⟨ob,h,Nat.le_refl _,fun _=>rfl⟩
    out:=EV.out }
  refine ⟨v,M,Fz',rfl,⟨fun b c h=>?_,R.inj,R'.fz,R'.gl⟩,hv.data hr _ _,E⟩
  obtain ⟨h1,ob,o,h2,h3,h4⟩:=R.blk b c h
  have hc:=(R.lt h).2
  refine ⟨fun hf=>?_,ob,o,h2,by rw [hb c hc]; exact h3,h4.mono E⟩
  rcases EV.fz' c hf with h | ⟨b,h⟩ | h
  · exact h1 h
  · simp at h
  · omega
theorem Pure.lend {g:FuncId} {ds ds':List D} {r:D} (h:Pure P g ds' r) (hd:ds.mapM (frzD σ 0 100)=some ds') (hr:r.ground=true):Ok P g ds σ r σ:=by
  intro M Fz w vs R hs hvs
  have R0:Rel [] (fun _=>none) (frzF M Fz 0) w:=⟨fun b c h=>by simp at h,fun b b' c h=>by simp at h,fun c h=>by
    rcases h with h | ⟨b,_,h⟩
    · exact R.fz c h
    · exact (R.lt h).2,Gl.mono (fun c h=>⟨.inl h,rfl⟩) R.gl⟩
  have hl:ds'.length=ds.length:=(zda hd).1
  refine (h.2 _ _ w vs R0 (by rw [hs,hl]) fun i d v a b=>?_).mono fun e w' he=>?_
  · obtain ⟨d0,h1,h2⟩:=(zda hd).2 i d a
    exact frzD_ok R h2 (hvs i d0 v h1 b) _ _
  · obtain ⟨v,M',Fz',rfl,R',hv,EV⟩:=he
    have hb:Below w.heap.size w w':=⟨EV.out.1,EV.out.2.1,EV.out.2.2,EV.size,fun k hk=>EV.frame k hk (fun b h=>by simp at h)⟩
    exact ⟨v,M,Fz,rfl,R.below hb,hv.lit hr _ _ _ _,Evo.below R hb⟩
end
def nrmC:C→C
  | .lit (.slice none 0 0)=>.frz false []
  | .frz _ es=>.frz false es
  | x=>x
def nrm1:D→D
  | .c x=>.c (nrmC x)
  | d=>d
def nrm:D→D
  | .c x=>.c (nrmC x)
  | .agg ds=>.agg (ds.map nrm1)
  | d=>d
theorem nrmC_ok {Fz:Nat→Prop} {w:World} {x:C} {v:Value} (h:VC Fz w x v):VC Fz w (nrmC x) v:=by
  unfold nrmC
  split
  · cases h
    exact .frz (es:=[]) 0 none 0 (by simp) (fun _=>rfl) (fun _ _=>undef) (by simp) (by simp) (by simp) (by simp)
  · cases h with
    | frz esz a cap hnn hz c hsz hcap hc hv=>exact .frz esz a cap (by simp) hz c hsz hcap hc hv
  · exact h
theorem nrm1xok {σ:Heap} {M:Nat→Option Nat} {Fz:Nat→Prop} {w:World} {d:D} {v:Value} (h:V σ M Fz w d v):V σ M Fz w (nrm1 d) v:=by
  unfold nrm1
  split
  · cases h with | c h=>exact .c (nrmC_ok h)
  · exact h
theorem nrm_ok {σ:Heap} {M:Nat→Option Nat} {Fz:Nat→Prop} {w:World} {d:D} {v:Value} (h:V σ M Fz w d v):V σ M Fz w (nrm d) v:=by
  unfold nrm
  split
  · cases h with | c h=>exact .c (nrmC_ok h)
  · cases h with
    | agg vs h1 hv =>
      refine .agg vs (by simpa using h1) (fun i d v a b=>?_)
      simp only [List.getElem?_map,Option.map_eq_some_iff] at a
      obtain ⟨d0,h0,rfl⟩:=a
      exact nrm1xok (hv i d0 v h0 b)
  · exact h
theorem Ok.nrm {P:Program} {g:FuncId} {ds:List D} {σ σ':Heap} {r:D} (h:Ok P g (ds.map nrm) σ r σ'):Ok P g ds σ r σ':=by
  intro M Fz w vs R hs hvs
  refine h M Fz w vs R (by simpa using hs) fun i d v a b=>?_
  simp only [List.getElem?_map,Option.map_eq_some_iff] at a
  obtain ⟨d0,h0,rfl⟩:=a
  exact nrm_ok (hvs i d0 v h0 b)
abbrev Specs:=List (Nat×(List D→Option D))
def spk (g:Nat):Specs→Option (List D→Option D)
  | []=>none
  | (s,f)::l=>match Nat.beq s g with | true=>some f | false=>spk g l
def D.plain:D→Bool
  | .fn ..=>false
  | .agg ds=>ds.all fun d=>match d with | .fn ..=>false | _=>true
  | .tup ds=>ds.all fun d=>match d with | .fn ..=>false | _=>true
  | _=>true
def zcs (S:Specs):Orc:=fun g ds σ=>
  match spk g S with
  | none=>none
  | some f =>
    if ds.all (fun d=>d.low 0&&d.plain) then (f (ds.map nrm)).bind fun r=>if r.low 0 then some (r,σ,[]) else none
    else
      match ds.mapM (frzD σ 0 100) with
      | some ds'=>(f (ds'.map nrm)).bind fun r=>if r.ground then some (r,σ,[]) else none
      | none=>none
def SpecsOk (P:Program) (S:Specs):Prop:=∀p∈S,∀ds r,p.2 ds=some r→Pure P p.1 ds r
theorem spk_mem {g:Nat} {f:List D→Option D}:∀{S:Specs},spk g S=some f→(g,f)∈S:=by
  intro S
  induction S with
  | nil=>intro h; simp [spk] at h
  | cons p S ih =>
    intro h
    obtain ⟨s,f'⟩:=p
    simp only [spk] at h
    split at h
    · rename_i hb
      have:=Nat.eq_of_beq_eq_true hb
      simp only [Option.some.injEq] at h
      subst this h
      simp
    · exact List.mem_cons_of_mem _ (ih h)
theorem low_nrm1 {m:Nat} {d:D} (h:d.low m=true):(nrm1 d).low m=true:=by unfold nrm1; split <;> simp_all [D.low]
theorem lows_nrm {m:Nat}:∀{ds:List D},D.low.lows m ds=true→D.low.lows m (ds.map nrm1)=true:=by
  intro ds
  induction ds with
  | nil=>intro _; rfl
  | cons d ds ih=>intro h; simp only [D.low.lows,Bool.and_eq_true,List.map_cons] at h ⊢; exact ⟨low_nrm1 h.1,ih h.2⟩
theorem low_nrm {m:Nat} {d:D} (h:d.low m=true):(nrm d).low m=true:=by
  unfold nrm
  split
  · rfl
  · simp only [D.low] at h ⊢; exact lows_nrm h
  · exact h
theorem callOrc_ok {P:Program} {S:Specs} (h:SpecsOk P S):OrcOk P (zcs S):=by
  intro g ds σ r σ' wr he
  unfold zcs at he
  split at he
  · simp at he
  · rename_i f hf
    have hm:=spk_mem hf
    split at he
    · rename_i hl
      rw [Option.bind_eq_some_iff] at he
      obtain ⟨r',h1,h2⟩:=he
      split at h2
      · rename_i hr
        simp only [Option.some.injEq,Prod.mk.injEq] at h2
        obtain ⟨rfl,rfl,rfl⟩:=h2
        have hp:=h _ hm _ _ h1
        refine ⟨hp.1,(hp.data ?_ hr).nrm,Nat.le_refl _,fun _ _ _=>rfl⟩
        rw [List.all_eq_true] at hl ⊢
        intro d hd
        rw [List.mem_map] at hd
        obtain ⟨d0,h0,rfl⟩:=hd
        have:=hl d0 h0
        rw [Bool.and_eq_true] at this
        exact low_nrm this.1
      · simp at h2
    · split at he
      · rename_i ds' hds
        rw [Option.bind_eq_some_iff] at he
        obtain ⟨r',h1,h2⟩:=he
        split at h2
        · rename_i hr
          simp only [Option.some.injEq,Prod.mk.injEq] at h2
          obtain ⟨rfl,rfl,rfl⟩:=h2
          have hp:=h _ hm _ _ h1
          have hp':Pure P g ds' r':=⟨hp.1,hp.2.nrm⟩
          exact ⟨hp.1,hp'.lend hds hr,Nat.le_refl _,fun _ _ _=>rfl⟩
        · simp at h2
      · simp at he
noncomputable def spec {A R:Type} (args:A→List D) (res:R→D) (f:A→Option R):List D→Option D:=fun ds=>
  open Classical in if h:∃a,args a=ds then (f (Classical.choose h)).map res else none
theorem spec_eq {A R:Type} {args:A→List D} {res:R→D} {f:A→Option R} (inj:∀a b,args a=args b→a=b) {a:A} {r:R} (h:f a=some r):spec args res f (args a)=some (res r):=by
  have hex:∃b,args b=args a:=⟨a,rfl⟩
  unfold spec
  rw [dif_pos hex,inj _ _ (Classical.choose_spec hex),h]
  rfl
theorem spec_ok {P:Program} {g:Nat} {A R:Type} {args:A→List D} {res:R→D} {f:A→Option R} (H:∀a r,f a=some r→Pure P g (args a) (res r)):∀ds r,spec args res f ds=some r→Pure P g ds r:=by
  intro ds r h
  unfold spec at h
  split at h
  · rename_i hex
    rw [Option.map_eq_some_iff] at h
    obtain ⟨r',h1,rfl⟩:=h
    have:=H _ _ h1
    rw [Classical.choose_spec hex] at this
    exact this
  · simp at h
theorem callOrc_data {S:Specs} {g:Nat} {F:List D→Option D} {ds ds':List D} {σ:Heap} {r:D} (hS:spk g S=some F) (hl:(ds.all fun d=>d.low 0&&d.plain)=true) (hd:ds.map nrm=ds') (h:F ds'=some r) (hr:r.low 0=true) :
    zcs S g ds σ=some (r,σ,[]):=by
  subst hd
  simp only [zcs,hS,hl,if_true,h,Option.bind_some,hr]
theorem callOrc_lend {S:Specs} {g:Nat} {F:List D→Option D} {ds ds1 ds':List D} {σ:Heap} {r:D} (hS:spk g S=some F) (hl:(ds.all fun d=>d.low 0&&d.plain)=false) (h1:ds.mapM (frzD σ 0 100)=some ds1) (hd:ds1.map nrm=ds') (h:F ds'=some r) (hr:r.ground=true) :
    zcs S g ds σ=some (r,σ,[]):=by
  subst hd
  simp only [zcs,hS,hl,Bool.false_eq_true,if_false,h1,h,Option.bind_some,hr,if_true]
def nrmR:D→D
  | .tup ds=>.tup (ds.map nrm)
  | d=>nrm d
theorem DLe.nrmR (d:D):DLe d (nrmR d):=by
  intro σ M Fz w v h
  unfold Go.Abs.nrmR
  split
  · cases h with
    | tup vs h1 hv =>
      refine .tup vs (by simpa using h1) (fun i d v a b=>?_)
      simp only [List.getElem?_map,Option.map_eq_some_iff] at a
      obtain ⟨d0,h0,rfl⟩:=a
      exact nrm_ok (hv i d0 v h0 b)
  · exact nrm_ok h
theorem DLe.of_nrm {d d':D} (h:Go.Abs.nrmR d=d'):DLe d d':=h▸DLe.nrmR d
theorem SpecsOk.nil {P:Program}:SpecsOk P []:=fun p hp=>by simp at hp
theorem SpecsOk.cons {P:Program} {g:Nat} {F:List D→Option D} {S:Specs} (h:∀ds r,F ds=some r→Pure P g ds r) (hS:SpecsOk P S):SpecsOk P ((g,F)::S):=by
  intro p hp
  rcases List.mem_cons.1 hp with rfl | hp
  · exact h
  · exact hS p hp
def resA (al:AL) (σ:Heap):Nat×Option (Option Nat)→Option D
  | (t,none)=>lk t al
  | (t, some n) =>
    match lk t al with
    | some (.ptr b off sz)=>(zcB σ b sz).bind fun cs=>zaO n cs off
    | _=>none
def zipAL:Nat→List D→AL
  | _,[]=>[]
  | i,d::ds=>(i,d)::zipAL (i+1) ds
theorem zipAL_lk:∀(ds:List D) (i t:Nat) (d:D),lk t (zipAL i ds)=some d→i≤t∧ds[t-i]? = some d:=by
  intro ds
  induction ds with
  | nil=>intro i t d h; simp [zipAL,lk] at h
  | cons x ds ih =>
    intro i t d h
    simp only [zipAL,lk] at h
    split at h
    · rename_i hb
      have:=Nat.eq_of_beq_eq_true hb
      simp only [Option.some.injEq] at h
      subst this h
      simp
    · rename_i hb
      obtain ⟨h1,h2⟩:=ih (i+1) t d h
      refine ⟨by omega,?_⟩
      have:t-i=(t-(i+1))+1:=by omega
      rw [this,List.getElem?_cons_succ]
      exact h2
theorem pure_of_sem {P:Program} {g:FuncId} {fn:Func} {af:AFunc} {fz:Bool} {ds:List D} {r:D} (hg:P.funcs[g]? = some fn) (hent:enterable P g=true) (hc:compF P fn fz=some af)
    (hlen:ds.length≤af.ntmps)
    (h:Sem P af.body af.ntmps (zipAL 0 ds) [] fun x al σ=>(x=.normal∨x=.ret)∧∃ds' r',af.results.mapM (resA al σ)=some ds'∧frzD σ 0 100 (one ds')=some r'∧DLe r' r):Pure P g ds r:=by
  refine ⟨hent,?_⟩
  unfold compF at hc
  split at hc
  · rename_i c hb
    split at hc
    · rename_i ac rs h1 h2
      simp only [Option.some.injEq] at hc
      subst hc
      dsimp only at h hlen
      intro M Fz w vs R hs hvs
      refine calls_of_wp hg hb ?_
      have A0:AEnv fn.ntmps [] M Fz w (zipAL 0 ds) (vs++Array.replicate (fn.ntmps-vs.size) undef):=by
        refine ⟨by simp; omega,fun t d ht=>?_⟩
        obtain ⟨_,h3⟩:=zipAL_lk ds 0 t d ht
        rw [Nat.sub_zero] at h3
        have hlt:t<vs.size:=by rw [hs]; exact (List.getElem?_eq_some_iff.1 h3).1
        exact ⟨vs[t],by rw [Array.getElem?_append_left hlt,Array.getElem?_eq_getElem hlt],hvs t d _ h3 (Array.getElem?_eq_getElem hlt)⟩
      refine h c h1 M Fz w { tmps:=vs++Array.replicate (fn.ntmps-vs.size) undef,defers:=[] } _ R A0 fun x al' σ' a' w' M' Fz' hQ hd R' A' EV hl=>?_
      obtain ⟨hx,ds',r',hm,hfr,hle⟩:=hQ
      have hm':rs.mapM (zb2 (zdT fn.ntmps al') σ')=some ds':=by
        have key:∀(l:List (Nat×Option (Option Nat))) ds',l.mapM (resA al' σ')=some ds'→l.mapM (zb2 (zdT fn.ntmps al') σ')=some ds':=by
          intro l
          induction l with
          | nil=>intro ds' h; simpa using h
          | cons p l ih =>
            intro ds' h
            rw [List.mapM_cons] at h ⊢
            cases hp:resA al' σ' p with
            | none=>rw [hp] at h; simp at h
            | some d =>
              rw [hp] at h
              have:zb2 (zdT fn.ntmps al') σ' p=some d:=by
                obtain ⟨t,o⟩:=p
                cases o with
                | none=>exact A'.toEnv.2.2 t d hp
                | some k =>
                  simp only [resA] at hp
                  split at hp
                  · rename_i b off sz hlk
                    simp only [zb2,A'.toEnv.2.2 t _ hlk]
                    exact hp
                  · simp at hp
              rw [this]
              cases hr:l.mapM (resA al' σ') with
              | none=>rw [hr] at h; simp at h
              | some q=>rw [hr] at h; rw [ih q hr]; exact h
        exact key rs ds' hm
      obtain ⟨v,hv1,hv2⟩:=results_ok (P:=P) R' A'.toEnv.1 h2 hm'
      obtain ⟨R2,EV2⟩:=Rel.forget R R' EV (fun b hb=>by simp at hb)
      have post:a'.defers=[]∧∃v,(results fn a'.tmps).run P w'=.ok v w'∧∃v' M'' Fz'',Ending.returned v=.returned v'∧Rel [] M'' Fz'' w'∧V [] M'' Fz'' w' r v'∧Evo [] M Fz w [] M'' Fz'' w':=
        ⟨hd,v,hv1,v,_,_,rfl,R2,hle _ _ _ _ _ (frzD_ok R' hfr hv2 _ _),EV2⟩
      rcases hx with rfl | rfl
      · exact post
      · exact post
    · simp at hc
  · simp at hc
end Go.Abs
namespace Go.Abs
variable [Gl]
theorem pure_nil {P:Program} {g:FuncId} {es:List (List C)} {r:D} (hpos:∀e∈es,e≠[]) (h1:Pure P g [.c (.frz true es)] r) (h2:es=[]→Pure P g [.c (.lit (.slice none 0 0))] r):Pure P g [.c (.frz false es)] r:=by
  refine ⟨h1.1,fun M Fz w vs R hs hv=>?_⟩
  have h0:vs[0]? = some (vs[0]'(by rw [hs]; simp)):=Array.getElem?_eq_getElem _
  have hv0:=hv 0 _ _ rfl h0
  generalize hx:vs[0]'(by rw [hs]; simp)=x at hv0 h0
  have only:∀d,V [] M Fz w d x→∀(i:Nat) d' v,[d][i]? = some d'→vs[i]? = some v→V [] M Fz w d' v:=by
    intro d hd i d' v a b
    cases i with
    | zero=>simp only [List.getElem?_cons_zero,Option.some.injEq] at a; rw [h0] at b; simp only [Option.some.injEq] at b; subst a b; exact hd
    | succ i=>simp at a
  cases hv0 with
  | c hc =>
    generalize hy:C.frz false es=y at hc
    cases hc with
    | frz esz a cap hnn hz c hsz hcap hcc hvv =>
      simp only [C.frz.injEq] at hy
      obtain ⟨rfl,rfl⟩:=hy
      cases a with
      | some a=>exact h1.2 M Fz w vs R hs (only _ (.c (.frz esz (some a) cap (fun _=>rfl) hz c hsz hcap hcc hvv)))
      | none =>
        have he:es=[]:=by
          cases es with
          | nil=>rfl
          | cons e es =>
            exfalso
            cases e with
            | nil=>exact hpos [] (by simp) rfl
            | cons d e=>obtain ⟨_,_,h,_⟩:=hcc 0 0 _ d rfl rfl; simp at h
        subst he
        have:=hz rfl
        subst this
        exact (h2 rfl).2 M Fz w vs R hs (only _ (.c (.lit _)))
    | _=>simp at hy
end Go.Abs
end
section
namespace Go.Abs
variable [Gl]
abbrev I (n:Int):D:=.c (.lit (.int .i64 n))
abbrev B (b:Bool):D:=.c (.lit (.bool b))
def lx (al:AL):Opd→Option D
  | .t k=>lk k al
  | .k d=>some d
def oev (al:AL) (x:Operand):Option D:=
  match opd x with
  | some o=>lx al o
  | none=>none
def lxs (al:AL):List Opd→Option (List D)
  | []=>some []
  | x :: xs => match lx al x, lxs al xs with
    | some d,some ds=>some (d::ds)
    | _,_=>none
def OpR (P:Program) (orc:Orc) (n:Nat) (al:AL) (σ:Heap) (op:AOp) (d:D) (σ1:Heap) (w:List Nat):Prop:=∀e,Env n al e→zaG P orc op e σ=some (d,σ1,w)
def at? {α:Type} (l:List α) (i:Int):Option α:=if 0≤i∧i<l.length then l[i.toNat]? else none
section
variable {P:Program} {orc:Orc} {n:Nat} {al:AL} {σ σ1:Heap} {w:List Nat} {d d1 d2:D} {e:List D}
theorem zaP (he:Env n al e) {x:Opd} (h:lx al x=some d):x.ev e=d:=by
  cases x with
  | t k=>simp only [lx] at h; simp [Opd.ev,he.2 k d h]
  | k d'=>simp only [lx,Option.some.injEq] at h; subst h; rfl
theorem ev_lxs (he:Env n al e):∀{xs:List Opd} {ds:List D},lxs al xs=some ds→xs.map (Opd.ev e)=ds:=by
  intro xs
  induction xs with
  | nil=>intro ds h; simp only [lxs,Option.some.injEq] at h; subst h; rfl
  | cons x xs ih =>
    intro ds h
    simp only [lxs] at h
    split at h
    · rename_i d1 ds1 h1 h2
      simp only [Option.some.injEq] at h
      subst h
      simp [zaP he h1,ih h2]
    · simp at h
theorem zdn {x:Opd} (h:lx al x=some d):OpR P orc n al σ (.mov x) d σ []:=fun e he=>by simp [zaG,zaP he h]
theorem op_pickT {c x y:Opd} {b:Bool} (hc:lx al c=some (B b)) (hb:b=true) (h:lx al x=some d):OpR P orc n al σ (.pick c x y) d σ []:=fun e he=>by
  simp [zaG,zaP he hc,litBool,hb,zaP he h]
theorem op_pickF {c x y:Opd} {b:Bool} (hc:lx al c=some (B b)) (hb:b=false) (h:lx al y=some d):OpR P orc n al σ (.pick c x y) d σ []:=fun e he=>by
  simp [zaG,zaP he hc,litBool,hb,zaP he h]
def binV (P:Program) (o:BinOp) (t:TypeId) (x y:Operand) (a b:Value):Option Value:=zax P (do eqGuard o t x y a b; binOp o t a b)
theorem zal {α β:Type} {s:Go.Sem α} {f:α→Go.Sem β}:zax P (s >>= f)=(zax P s).bind fun a=>zax P (f a):=by
  induction s with
  | pure a=>rfl
  | program k ih=>exact ih P
  | _=>rfl
theorem op_bin {o:BinOp} {t ty t':TypeId} {x y:Operand} {a b v:Value} (h1:oev al x=some d1) (h2:oev al y=some d2) (v1:d1.val? = some a) (v2:d2.val? = some b)
    (h:binV P o t x y a b=some v) (hd:ofVal v=d):OpR P orc n al σ (.gen (.binOp o t x y t') ty) d σ []:=fun e he=>by
  subst hd
  have hx:∀{x:Operand} {d:D},oev al x=some d→((opd x).map (Opd.ev e))=some d:=by
    intro x d h
    simp only [oev] at h
    split at h
    · rename_i o ho; rw [ho]; simp [zaP he h]
    · simp at h
  have e1:((opd x).map (Opd.ev e)).bind D.val? = some a:=by rw [hx h1]; exact v1
  have e2:((opd y).map (Opd.ev e)).bind D.val? = some b:=by rw [hx h2]; exact v2
  have:genEv P (.binOp o t x y t') ty e=some (ofVal v):=by
    unfold genEv
    have hall:(Op.binOp o t x y t').operands.toList.all (fun x=>(((opd x).map (Opd.ev e)).bind D.val?).isSome)=true:=by simp [Op.operands,e1,e2]
    rw [if_pos hall]
    have hp:zax P (execOp (fun x=>((((opd x).map (Opd.ev e)).bind D.val?).getD undef)) { dst:=none,op:=.binOp o t x y t',type:=ty,pos:="",after:=#[],guard:=none })=some (.value v):=by
      have key:∀a' b':Value,a'=a→b'=b→zax P (do let r ←(do eqGuard o t x y a' b'; binOp o t a' b'); Go.Sem.pure (Next.value r))=some (.value v):=by
        intro a' b' ha hb
        subst ha hb
        rw [zal]
        unfold binV at h
        rw [h]
        rfl
      exact key _ _ (by dsimp only; rw [e1]; rfl) (by dsimp only; rw [e2]; rfl)
    rw [hp]
  simp [zaG,this]
theorem op_un {o:UnOp} {t ty:TypeId} {x:Operand} {a v:Value} (h1:oev al x=some d1) (v1:d1.val? = some a)
    (h:zax P (Op.unary o a)=some v) (hd:ofVal v=d):OpR P orc n al σ (.gen (.unOp o t x) ty) d σ []:=fun e he=>by
  subst hd
  have hx:((opd x).map (Opd.ev e))=some d1:=by
    simp only [oev] at h1
    split at h1
    · rename_i o ho; rw [ho]; simp [zaP he h1]
    · simp at h1
  have e1:((opd x).map (Opd.ev e)).bind D.val? = some a:=by rw [hx]; exact v1
  have:genEv P (.unOp o t x) ty e=some (ofVal v):=by
    unfold genEv
    have hall:(Op.unOp o t x).operands.toList.all (fun x=>(((opd x).map (Opd.ev e)).bind D.val?).isSome)=true:=by simp [Op.operands,e1]
    rw [if_pos hall]
    have hp:zax P (execOp (fun x=>((((opd x).map (Opd.ev e)).bind D.val?).getD undef)) { dst:=none,op:=.unOp o t x,type:=ty,pos:="",after:=#[],guard:=none })=some (.value v):=by
      have key:∀a':Value,a'=a→zax P (do let r ←Op.unary o a'; Go.Sem.pure (Next.value r))=some (.value v):=by
        intro a' ha
        subst ha
        rw [zal,h]
        rfl
      exact key _ (by dsimp only; rw [e1]; rfl)
    rw [hp]
  simp [zaG,this]
theorem op_conv {t t' ty:TypeId} {x:Operand} {a v:Value} (h1:oev al x=some d1) (v1:d1.val? = some a)
    (h:zax P (convert t t' a)=some v) (hd:ofVal v=d):OpR P orc n al σ (.gen (.convert t t' x) ty) d σ []:=fun e he=>by
  subst hd
  have hx:((opd x).map (Opd.ev e))=some d1:=by
    simp only [oev] at h1
    split at h1
    · rename_i o ho; rw [ho]; simp [zaP he h1]
    · simp at h1
  have e1:((opd x).map (Opd.ev e)).bind D.val? = some a:=by rw [hx]; exact v1
  have:genEv P (.convert t t' x) ty e=some (ofVal v):=by
    unfold genEv
    have hall:(Op.convert t t' x).operands.toList.all (fun x=>(((opd x).map (Opd.ev e)).bind D.val?).isSome)=true:=by simp [Op.operands,e1]
    rw [if_pos hall]
    have hp:zax P (execOp (fun x=>((((opd x).map (Opd.ev e)).bind D.val?).getD undef)) { dst:=none,op:=.convert t t' x,type:=ty,pos:="",after:=#[],guard:=none })=some (.value v):=by
      have key:∀a':Value,a'=a→zax P (do let r ←convert t t' a'; Go.Sem.pure (Next.value r))=some (.value v):=by
        intro a' ha
        subst ha
        rw [zal,h]
        rfl
      exact key _ (by dsimp only; rw [e1]; rfl)
    rw [hp]
  simp [zaG,this]
theorem op_box {x:Opd} {cs:List D} (h:lx al x=some d) (hc:d.cells? = some cs) (hp:D.ptr σ.length 0 cs.length=d1) (hs:σ++[.cells cs]=σ1):OpR P orc n al σ (.box x) d1 σ1 []:=fun e he=>by subst hp hs; simp [zaG,zaP he h,hc]
theorem op_alloc {z:List D} (hp:D.ptr σ.length 0 z.length=d1) (hs:σ++[.cells z]=σ1):OpR P orc n al σ (.alloc z) d1 σ1 []:=fun e he=>by subst hp hs; simp [zaG]
def fillA (al:AL):List D→List (Nat×Nat×Opd)→Option (List D)
  | cs,[]=>some cs
  | cs, (o, n, x) :: rest =>
    match (lx al x).bind D.cells? with
    | some xs=>if xs.length≠n∨o+n > cs.length then none else fillA al (put cs o xs) rest
    | none=>none
theorem fillA_ok (he:Env n al e):∀{ps:List (Nat×Nat×Opd)} {cs cs':List D},fillA al cs ps=some cs'→fillD e cs ps=some cs':=by
  intro ps
  induction ps with
  | nil=>intro cs cs' h; exact h
  | cons p ps ih =>
    intro cs cs' h
    obtain ⟨o,m,x⟩:=p
    simp only [fillA] at h
    split at h
    · rename_i xs hxs
      rw [Option.bind_eq_some_iff] at hxs
      obtain ⟨d,h1,h2⟩:=hxs
      simp only [fillD,zaP he h1,h2,Option.bind_eq_bind,Option.bind_some]
      split at h
      · simp at h
      · rename_i hn; rw [if_neg hn]; exact ih h
    · simp at h
theorem op_build {z cs:List D} {ps:List (Nat×Nat×Opd)} (h:fillA al z ps=some cs):OpR P orc n al σ (.build z ps) (.agg cs) σ []:=fun e he=>by simp [zaG,fillA_ok he h]
theorem op_bslice {z cs:List D} {esz len:Nat} {ps:List (Nat×Nat×Opd)} (h:fillA al (zeros len z) ps=some cs) (hp:D.sl σ.length 0 len esz cs.length=d1) (hs:σ++[.cells cs]=σ1):OpR P orc n al σ (.bslice esz len z ps) d1 σ1 []:=fun e he=>by
  subst hp hs
  simp [zaG,fillA_ok he h]
theorem op_load {m:Option Nat} {a:Opd} {b off sz:Nat} {cs:List D} (h:lx al a=some (.ptr b off sz)) (hr:zcB σ b sz=some cs) (hg:zaO m cs off=some d):OpR P orc n al σ (.load m a) d σ []:=fun e he=>by
  simp [zaG,zaP he h,hr,hg]
theorem op_loadf {m:Option Nat} {a:Opd} {off:Nat} {cs:List C} (h:lx al a=some (.c (.fptr cs off))) (hg:zaO m (cs.map .c) off=some d):OpR P orc n al σ (.load m a) d σ []:=fun e he=>by
  simp [zaG,zaP he h,hg]
theorem op_store {m:Nat} {a x:Opd} {b off sz:Nat} {cs xs:List D} (h:lx al a=some (.ptr b off sz)) (hr:zcB σ b sz=some cs) (hx:lx al x=some d) (hc:d.cells? = some xs) (hm:xs.length=m∧off+m≤sz) (hs:σ.set b (.cells (put cs off xs))=σ1) :
    OpR P orc n al σ (.store m a x) (.tup []) σ1 [b]:=fun e he=>by
  subst hs
  simp [zaG,zaP he h,hr,zaP he hx,hc,hm.1,hm.2]
theorem op_nilck {x:Opd} {b off sz:Nat} (h:lx al x=some (.ptr b off sz)):OpR P orc n al σ (.nilck x) (.ptr b off sz) σ []:=fun e he=>by simp [zaG,zaP he h]
theorem op_isnil {k:Nat} {neg:Bool} {x:Opd} {b:Bool} (h:lx al x=some d) (hb:isNil k d=some b):OpR P orc n al σ (.isnil k neg x) (B (if neg then !b else b)) σ []:=fun e he=>by simp [zaG,zaP he h,hb]
theorem op_fld {o:Nat} {x:Opd} {b off sz:Nat} (h:lx al x=some (.ptr b off sz)):OpR P orc n al σ (.fld o x) (.ptr b (off+o) sz) σ []:=fun e he=>by simp [zaG,zaP he h]
theorem op_fldf {o:Nat} {x:Opd} {cs:List C} {off:Nat} (h:lx al x=some (.c (.fptr cs off))):OpR P orc n al σ (.fld o x) (.c (.fptr cs (off+o))) σ []:=fun e he=>by simp [zaG,zaP he h]
theorem at_some {α:Type} {l:List α} {i:Int} {a:α} (h:at? l i=some a):0≤i∧i<l.length∧l[i.toNat]? = some a:=by
  unfold at? at h
  split at h
  · rename_i hi; exact ⟨hi.1,hi.2,h⟩
  · simp at h
theorem op_idx {α:Type} {esz:Nat} {x i:Opd} {nn:Bool} {l:List α} {f:α→List C} {k:Int} {a:α} (h:lx al x=some (.c (.frz nn (l.map f)))) (hi:lx al i=some (I k)) (ha:at? l k=some a) (hl:(f a).length=esz) :
    OpR P orc n al σ (.idx esz none x i) (.c (.fptr (f a) 0)) σ []:=fun e he=>by
  obtain ⟨h1,h2,h3⟩:=at_some ha
  have h4:inR k (l.map f).length=some k.toNat:=by unfold inR; rw [if_pos ⟨h1,by simpa using h2⟩]
  simp only [zaG,zaP he h,zaP he hi,zb5,Option.bind_eq_bind,Option.bind_some,h4,List.getElem?_map,h3,Option.map_some,hl,if_true]
theorem op_len {α:Type} {x:Opd} {nn:Bool} {l:List α} {f:α→List C} (h:lx al x=some (.c (.frz nn (l.map f)))):OpR P orc n al σ (.len x) (I l.length) σ []:=fun e he=>by
  simp [zaG,zaP he h,zbz]
theorem op_len0 {x:Opd} (h:lx al x=some (.c (.lit (.slice none 0 0)))):OpR P orc n al σ (.len x) (I 0) σ []:=fun e he=>by
  simp [zaG,zaP he h,zbz]
theorem op_extract {x:Opd} {i:Nat} {ds:List D} (h:lx al x=some (.tup ds)) (hd:ds[i]? = some d):OpR P orc n al σ (.extract x i) d σ []:=fun e he=>by
  simp [zaG,zaP he h,hd]
theorem op_part {m:Option Nat} {off:Nat} {x:Opd} {cs:List D} (h:lx al x=some (.agg cs)) (hg:zaO m cs off=some d):OpR P orc n al σ (.part off m x) d σ []:=fun e he=>by
  simp [zaG,zaP he h,hg]
theorem op_call {g:FuncId} {f:Opd} {args:List Opd} {ds:List D} (hf:lx al f=some (.c (.fn (.func g) [] []))) (ha:lxs al args=some ds) (ho:orc g ds σ=some (d,σ1,w)):OpR P orc n al σ (.call f args) d σ1 w:=fun e he=>by
  simp [zaG,zaP he hf,ev_lxs he ha,ho]
def mkI (o:AOper) (c:Nat) (blk:Option Nat) (w:List Nat) (lo hi:Nat):Info:={ cat:=c,blk:=blk,wr:=w,dst:=o.dst,rds:=tmpsOf o,lo:=lo,hi:=hi }
def Gd (al:AL) (g:Option (Nat×Bool)) (b:Bool):Prop:=∀n e,Env n al e→wantE e g=some b
theorem zaS:Gd al none true:=fun _ _ _=>rfl
theorem gd_open {t:Nat} {want b:Bool} (h:lk t al=some (B b)) (hb:b=want):Gd al (some (t,want)) true:=fun n e he=>by simp [wantE,he.2 t _ h,hb]
theorem gd_shut {t:Nat} {want b:Bool} (h:lk t al=some (B b)) (hb:b=!want):Gd al (some (t,want)) false:=fun n e he=>by simp [wantE,he.2 t _ h,hb]
theorem gd_gone {t:Nat} {want:Bool} (h:lk t al=some (.tup [])):Gd al (some (t,want)) false:=fun n e he=>by simp [wantE,he.2 t _ h]
def blkA (al:AL):AOp→Option Nat
  | .load _ x=>match lx al x with | some (.ptr b _ _)=>some b | _=>none
  | _=>none
def okA (al:AL):AOp→Bool
  | .load _ x=>(lx al x).isSome
  | _=>true
theorem blk_ok (he:Env n al e) {o:AOper} (h:okA al o.op=true) (lo hi:Nat):(infoOf o e lo hi w).blk=blkA al o.op:=by
  obtain ⟨t,op,g⟩:=o
  cases op with
  | load m x =>
    simp only [okA,Option.isSome_iff_exists] at h
    obtain ⟨d,hd⟩:=h
    simp only [infoOf,ox1,blkA,hd,zaP he hd]
    cases d <;> rfl
  | _=>rfl
theorem info_ok (he:Env n al e) {o:AOper} {b:Bool} (hg:∀n e,Env n al e→wantE e o.g=some b) (h:okA al o.op=true) (lo hi:Nat):infoOf o e lo hi w=mkI o (if b then cat o.op else 0) (blkA al o.op) w lo hi:=by
  have h1:=blk_ok (w:=w) he h lo hi
  have h2:(infoOf o e lo hi w).cat=if b then cat o.op else 0:=by
    simp only [infoOf,hg n e he]
    cases b <;> rfl
  unfold mkI
  rw [←h1,←h2]
  rfl
theorem env_set (he:Env n al e) {t:Nat} (ht:t<n) (d:D):Env n ((t,d)::al) (e.set t d):=by
  refine ⟨by simp [he.1],fun s d' h=>?_⟩
  simp only [lk] at h
  split at h
  · rename_i hb
    have:=Nat.eq_of_beq_eq_true hb
    simp only [Option.some.injEq] at h
    subst this h
    rw [List.getElem?_set_self (by rw [he.1]; exact ht)]
  · rename_i hb
    have hne:t≠s:=fun heq=>by subst heq; simp at hb
    rw [List.getElem?_set_ne hne]
    exact he.2 s d' h
variable {k:Nat} {os:List AOper} {al':AL} {σ':Heap} {is:List Info} {t:Nat} {ao:AOp} {g:Option (Nat×Bool)}
theorem Trc.nil {oz:Orc2}:Trc P oz k [] n al σ al σ []:=fun e he=>⟨e,rfl,he⟩
theorem Trc.op {oz:Orc2} (h:OpR P (oz (some t)) n al σ ao d σ1 w) (hg:Gd al g true) (hs:(Nat.blt t n&&okA al ao&&(k == 0 || wrOk σ σ1 w))=true) (r:Trc P oz (k-1) os n ((t,d)::al) σ1 al' σ' is) :
    Trc P oz k (⟨some t,ao,g⟩::os) n al σ al' σ' (mkI ⟨some t,ao,g⟩ (cat ao) (blkA al ao) w σ.length σ1.length::is):=fun e he=>by
  simp only [Bool.and_eq_true] at hs
  obtain ⟨⟨h1,h2⟩,h3⟩:=hs
  obtain ⟨e',h4,h5⟩:=r _ (env_set he (Nat.blt_eq.mp h1) d)
  refine ⟨e',?_,h5⟩
  have h6:=info_ok (w:=w) he (o:=⟨some t,ao,g⟩) hg h2 σ.length σ1.length
  simp only [if_true,Bool.false_eq_true,if_false] at h6
  simp only [evTr,evOper,hg n e he,h e he,Option.map_some,putE,h3,if_true,h4,h6]
theorem Trc.eff {oz:Orc2} (h:OpR P (oz none) n al σ ao d σ1 w) (hg:Gd al g true) (hs:(okA al ao&&(k == 0 || wrOk σ σ1 w))=true) (r:Trc P oz (k-1) os n al σ1 al' σ' is) :
    Trc P oz k (⟨none,ao,g⟩::os) n al σ al' σ' (mkI ⟨none,ao,g⟩ (cat ao) (blkA al ao) w σ.length σ1.length::is):=fun e he=>by
  simp only [Bool.and_eq_true] at hs
  obtain ⟨h2,h3⟩:=hs
  obtain ⟨e',h4,h5⟩:=r _ he
  refine ⟨e',?_,h5⟩
  have h6:=info_ok (w:=w) he (o:=⟨none,ao,g⟩) hg h2 σ.length σ1.length
  simp only [if_true,Bool.false_eq_true,if_false] at h6
  simp only [evTr,evOper,hg n e he,h e he,Option.map_some,putE,h3,if_true,h4,h6]
theorem Trc.no {oz:Orc2} (hg:Gd al g false) (hs:(Nat.blt t n&&okA al ao)=true) (r:Trc P oz (k-1) os n ((t,.tup [])::al) σ al' σ' is) :
    Trc P oz k (⟨some t,ao,g⟩::os) n al σ al' σ' (mkI ⟨some t,ao,g⟩ 0 (blkA al ao) [] σ.length σ.length::is):=fun e he=>by
  simp only [Bool.and_eq_true] at hs
  obtain ⟨h1,h2⟩:=hs
  obtain ⟨e',h4,h5⟩:=r _ (env_set he (Nat.blt_eq.mp h1) (.tup []))
  refine ⟨e',?_,h5⟩
  have h6:=info_ok (w:=[]) he (o:=⟨some t,ao,g⟩) hg h2 σ.length σ.length
  simp only [if_true,Bool.false_eq_true,if_false] at h6
  simp only [evTr,evOper,hg n e he,putE,wrOk,List.all_nil,Bool.or_true,if_true,h4,h6]
end
end Go.Abs
end
section
namespace Go.Abs
variable [Gl]
abbrev ST (cs:List C):D:=.agg (cs.map .c)
theorem map_inj {α:Type} {f:α→List C} (hf:∀{a b:α},f a=f b→a=b) {l m:List α} (h:l.map f=m.map f):l=m:=by
  induction l generalizing m with
  | nil => cases m with
    | nil=>rfl
    | cons b m=>simp at h
  | cons a l ih => cases m with
    | nil=>simp at h
    | cons b m =>
      simp only [List.map_cons,List.cons.injEq] at h
      rw [hf h.1,ih h.2]
theorem mapc_inj:∀{l m:List C},l.map D.c=m.map D.c→l=m:=by
  intro l
  induction l with
  | nil => intro m h; cases m with
    | nil=>rfl
    | cons b m=>simp at h
  | cons a l ih => intro m h; cases m with
    | nil=>simp at h
    | cons b m=>simp only [List.map_cons,List.cons.injEq,D.c.injEq] at h; rw [h.1,ih h.2]
theorem ST_inj {α:Type} {f:α→List C} (hf:∀{a b:α},f a=f b→a=b) {a b:α} (h:ST (f a)=ST (f b)):a=b:=by
  simp only [ST,D.agg.injEq] at h
  exact hf (mapc_inj h)
theorem ne_t {b:Bool} (h:b=false):¬(b=true):=by rw [h]; exact Bool.false_ne_true
theorem sZ {al1:AL}:Sub al1 []:=True.intro
section
variable {P:Program} {orc:Orc} {n:Nat} {al:AL} {σ σ1:Heap} {w:List Nat} {d d1 d2:D} {e:List D}
theorem op_aidx {α:Type} {len:Nat} {x i:Opd} {cs:List D} {l:List α} {f:α→D} {k:Int} {a:α} (h:lx al x=some (.agg cs)) (hi:lx al i=some (I k)) (ha:at? l k=some a) (hl:cs=l.map f) (hn:l.length=len) :
    OpR P orc n al σ (.aidx 1 len none x i) (f a) σ []:=fun e he=>by
  obtain ⟨h1,h2,h3⟩:=at_some ha
  have h4:inR k len=some k.toNat:=by unfold inR; rw [if_pos ⟨h1,by rw [←hn]; exact h2⟩]
  subst hl
  simp [zaG,zaP he h,zaP he hi,zb5,h4,zaO,h3]
end
end Go.Abs
end
section
namespace Go.Abs
variable [Gl]
section
variable {P:Program}
theorem zbr {t:TypeId} {d:TypeDesc} (h:P.underlying t=some d):zax P (underlying t)=some d:=by
  show zax P (match P.underlying t with | some d=>Go.Sem.pure d | none=>_)=_
  rw [h]
  rfl
theorem eqF_cons {d:Nat} {xs ys:Array Value} {f:Field} {fs:List Field} {a b:Value} {r q:Bool} (hn:(f.name != "_")=true) (ha:zax P (part f.type xs f.offset)=some a) (hb:zax P (part f.type ys f.offset)=some b)
    (hr:zax P (Op.equalIn d f.type a b)=some r) (ht:zax P (Op.eqFields d xs ys fs)=some q):zax P (Op.eqFields d xs ys (f::fs))=some (r&&q):=by
  unfold Op.eqFields
  have hn':f.name≠"_":=by simpa using hn
  rw [if_pos hn',zal,ha,Option.bind_some,zal,hb,Option.bind_some,zal,hr,Option.bind_some]
  cases r
  · rfl
  · simpa using ht
theorem eq_int {d:Nat} {t:TypeId} {k k':IntKind} {a b:Int} (h:P.underlying t=some (.int k')):zax P (Op.equalIn (d+1) t (.int k a) (.int k b))=some (a == b):=by
  simp only [Op.equalIn]
  rw [zal,zbr h,Option.bind_some]
  simp only [if_true]
  rfl
theorem eq_bool {d:Nat} {t:TypeId} {a b:Bool} (h:P.underlying t=some .bool):zax P (Op.equalIn (d+1) t (.bool a) (.bool b))=some (a == b):=by
  simp only [Op.equalIn]
  rw [zal,zbr h,Option.bind_some]
  rfl
theorem eq_agg {d:Nat} {t:TypeId} {xs ys:Array Value} {r:Bool} (ht:P.underlying t=some (.struct (P.fieldsOf t))) (hp:P.stoodInHeld t=false) (h:zax P (Op.eqFields d xs ys (P.fieldsOf t).toList)=some r) :
    zax P (Op.equalIn (d+1) t (.agg xs) (.agg ys))=some r:=by
  simp only [Op.equalIn]
  rw [zal,zbr ht,Option.bind_some]
  dsimp only
  rw [zal]
  show (zax P (Go.Sem.pure P)).bind _=_
  simp only [zax,Option.bind_some,hp,Bool.false_eq_true,if_false]
  rw [zal,←Array.forIn_toList]
  generalize (P.fieldsOf t).toList=fs at h
  clear ht
  induction fs generalizing r with
  | nil=>exact h
  | cons f fs ih =>
    simp only [List.forIn_cons,Op.eqFields] at h ⊢
    rw [zal]
    split at h
    · rename_i hn
      rw [if_pos hn]
      rw [zal] at h ⊢
      cases h1:zax P (part f.type xs f.offset) with
      | none=>rw [h1] at h; simp at h
      | some a =>
        rw [h1] at h
        simp only [Option.bind_some] at h ⊢
        rw [zal] at h ⊢
        cases h2:zax P (part f.type ys f.offset) with
        | none=>rw [h2] at h; simp at h
        | some b =>
          rw [h2] at h
          simp only [Option.bind_some] at h ⊢
          rw [zal] at h ⊢
          cases h3:zax P (Op.equalIn d f.type a b) with
          | none=>rw [h3] at h; simp at h
          | some q =>
            rw [h3] at h
            simp only [Option.bind_some] at h ⊢
            cases q
            · simp only [Bool.not_false,if_true] at h ⊢
              exact h
            · simp only [Bool.not_true,Bool.false_eq_true,if_false] at h ⊢
              exact ih h
    · rename_i hn
      rw [if_neg hn]
      exact ih h
theorem bin_eql {t:TypeId} {x y:Operand} {xs ys:Array Value} {r:Bool} (hm:P.eqGuardType P.depth t=false) (h:zax P (Op.equalIn 10000 t (.agg xs) (.agg ys))=some r):binV P .eql t x y (.agg xs) (.agg ys)=some (.bool r):=by
  unfold binV
  rw [zal]
  have hg:zax P (eqGuard .eql t x y (.agg xs) (.agg ys))=some ():=by
    simp only [eqGuard,Bool.not_true,Bool.false_eq_true,if_false]
    show zax P (if (!P.eqGuardType P.depth t)=true then Go.Sem.pure () else _)=_
    rw [hm]
    rfl
  rw [hg,Option.bind_some]
  show zax P (do Go.Sem.pure (Value.bool (←Op.equal t (.agg xs) (.agg ys))))=_
  rw [zal]
  unfold Op.equal Op.maxDepth
  rw [h]
  rfl
theorem bin_neq {t:TypeId} {x y:Operand} {xs ys:Array Value} {r:Bool} (hm:P.eqGuardType P.depth t=false) (h:zax P (Op.equalIn 10000 t (.agg xs) (.agg ys))=some r):binV P .neq t x y (.agg xs) (.agg ys)=some (.bool (!r)):=by
  unfold binV
  rw [zal]
  have hg:zax P (eqGuard .neq t x y (.agg xs) (.agg ys))=some ():=by
    simp only [eqGuard,Bool.not_true,Bool.false_eq_true,if_false]
    show zax P (if (!P.eqGuardType P.depth t)=true then Go.Sem.pure () else _)=_
    rw [hm]
    rfl
  rw [hg,Option.bind_some]
  show zax P (do Go.Sem.pure (Value.bool (!(←Op.equal t (.agg xs) (.agg ys)))))=_
  rw [zal]
  unfold Op.equal Op.maxDepth
  rw [h]
  rfl
end
end Go.Abs
namespace Go.Abs
variable [Gl]
section
variable {P:Program} {orc:Orc} {n:Nat} {al:AL} {σ:Heap} {d:D} {e:List D}
def genA (P:Program) (op:Op) (ty:TypeId) (al:AL):Option D:=
  if op.operands.toList.all (fun x=>((oev al x).bind D.val?).isSome) then
    match zax P (execOp (fun x=>(((oev al x).bind D.val?).getD undef)) { dst:=none,op:=op,type:=ty,pos:="",after:=#[],guard:=none }) with
    | some (.value v)=>some (ofVal v)
    | _=>none
  else none
theorem genA_ok {op:Op} {ty:TypeId} (hsel:∀cs b,op≠.select cs b) (h:genA P op ty al=some d) (he:Env n al e):genEv P op ty e=some d:=by
  unfold genA at h
  split at h
  · rename_i hall
    rw [List.all_eq_true] at hall
    have key:∀x∈op.operands.toList,((opd x).map (Opd.ev e)).bind D.val? = (oev al x).bind D.val?:=by
      intro x hx
      have:=hall x hx
      rw [Option.isSome_iff_exists] at this
      obtain ⟨v,hv⟩:=this
      rw [Option.bind_eq_some_iff] at hv
      obtain ⟨d1,h1,h2⟩:=hv
      simp only [oev] at h1
      split at h1
      · rename_i o ho
        rw [ho]
        simp [zaP he h1,oev,ho,h1]
      · simp at h1
    have key2:∀x:Operand,(x∈op.operands.toList)→((((opd x).map (Opd.ev e)).bind D.val?).getD undef)=(((oev al x).bind D.val?).getD undef):=fun x hx=>by rw [key x hx]
    unfold genEv
    rw [if_pos (by rw [List.all_eq_true]; intro x hx; rw [key x hx]; exact hall x hx)]
    have:=execOp_congr (ρ:=fun x=>((((opd x).map (Opd.ev e)).bind D.val?).getD undef)) (ρ':=fun x=>(((oev al x).bind D.val?).getD undef)) { dst:=none,op:=op,type:=ty,pos:="",after:=#[],guard:=none } hsel (fun x hx=>key2 x (by simpa using hx))
    rw [this]
    exact h
  · simp at h
theorem op_call_gen {c:Call} {ty:TypeId} (h:genA P (.call c) ty al=some d):OpR P orc n al σ (.gen (.call c) ty) d σ []:=fun e he=>by
  simp [zaG,genA_ok (fun cs b=>by simp) h he]
end
end Go.Abs
namespace Go.Abs
variable [Gl]
section
variable {P:Program} {orc:Orc} {n:Nat} {al:AL} {σ:Heap} {d:D} {e:List D}
theorem bin_eqlB {t:TypeId} {x y:Operand} {a b:Bool} (h:P.underlying t=some .bool):binV P .eql t x y (.bool a) (.bool b)=some (.bool (a == b)):=by
  unfold binV
  rw [zal]
  show (some ()).bind _=_
  rw [Option.bind_some]
  show zax P (do Go.Sem.pure (Value.bool (←Op.equal t (.bool a) (.bool b))))=_
  rw [zal]
  unfold Op.equal Op.maxDepth
  rw [eq_bool (d:=9999) h]
  rfl
theorem bin_neqB {t:TypeId} {x y:Operand} {a b:Bool} (h:P.underlying t=some .bool):binV P .neq t x y (.bool a) (.bool b)=some (.bool (!(a == b))):=by
  unfold binV
  rw [zal]
  show (some ()).bind _=_
  rw [Option.bind_some]
  show zax P (do Go.Sem.pure (Value.bool (!(←Op.equal t (.bool a) (.bool b)))))=_
  rw [zal]
  unfold Op.equal Op.maxDepth
  rw [eq_bool (d:=9999) h]
  rfl
def quo? (k:IntKind) (a b:Int):Option Int:=if b=0 then none else some (k.wrap (a.tdiv b))
def rem? (a b:Int):Option Int:=if b=0 then none else some (a.tmod b)
theorem bin_quo {t:TypeId} {x y:Operand} {k:IntKind} {a b v:Int} (h:quo? k a b=some v):binV P .quo t x y (.int k a) (.int k b)=some (.int k v):=by
  unfold quo? at h
  split at h
  · simp at h
  · rename_i hb
    simp only [Option.some.injEq] at h
    subst h
    unfold binV
    rw [zal]
    show (some ()).bind _=_
    rw [Option.bind_some]
    simp only [binOp,ne_eq,not_true_eq_false,if_false,Op.intDiv,if_neg hb]
    rfl
theorem bin_rem {t:TypeId} {x y:Operand} {k:IntKind} {a b v:Int} (h:rem? a b=some v):binV P .rem t x y (.int k a) (.int k b)=some (.int k v):=by
  unfold rem? at h
  split at h
  · simp at h
  · rename_i hb
    simp only [Option.some.injEq] at h
    subst h
    unfold binV
    rw [zal]
    show (some ()).bind _=_
    rw [Option.bind_some]
    simp only [binOp,ne_eq,not_true_eq_false,if_false,Op.intDiv,if_neg hb]
    rfl
theorem op_idxA {α:Type} {x i:Opd} {b off sz len esz:Nat} {k:Int} {l:List α} {a:α} (h:lx al x=some (.ptr b off sz)) (hi:lx al i=some (I k)) (ha:at? l k=some a) (hn:l.length=len) (hd:D.ptr b (off+k.toNat * esz) sz=d) :
    OpR P orc n al σ (.idx esz (some len) x i) d σ []:=fun e he=>by
  subst hd
  obtain ⟨h1,h2,h3⟩:=at_some ha
  have h4:inR k len=some k.toNat:=by unfold inR; rw [if_pos ⟨h1,by rw [←hn]; exact h2⟩]
  simp [zaG,zaP he h,zaP he hi,zb5,h4]
end
end Go.Abs
end
section
namespace Go.Abs
variable [Gl]
abbrev OS (esz b n:Nat):D:=.sl b 0 n esz (n * esz)
abbrev OB {α:Type} (f:α→List C) (l:List α):Ob:=.cells ((l.flatMap f).map .c)
section
variable {α:Type} {f:α→List C} {esz:Nat}
theorem flat_len (hf:∀a,(f a).length=esz):∀(l:List α),(l.flatMap f).length=l.length * esz:=by
  intro l
  induction l with
  | nil=>simp
  | cons a l ih=>simp only [List.flatMap_cons,List.length_append,hf,ih,List.length_cons,Nat.add_mul,Nat.one_mul]; omega
theorem flat_at (hf:∀a,(f a).length=esz):∀(l:List α) (i:Nat) (a:α),l[i]? = some a→((l.flatMap f).drop (i * esz)).take esz=f a:=by
  intro l
  induction l with
  | nil=>intro i a h; simp at h
  | cons x l ih =>
    intro i a h
    cases i with
    | zero =>
      simp only [List.getElem?_cons_zero,Option.some.injEq] at h
      subst h
      simp only [List.flatMap_cons,Nat.zero_mul,List.drop_zero]
      rw [List.take_append_of_le_length (by rw [hf]; exact Nat.le_refl _),List.take_of_length_le (by rw [hf]; exact Nat.le_refl _)]
    | succ i =>
      simp only [List.getElem?_cons_succ] at h
      simp only [List.flatMap_cons]
      have:(i+1) * esz=(f x).length+i * esz:=by rw [hf,Nat.add_mul]; omega
      rw [this,List.drop_append,←ih i a h,List.drop_eq_nil_of_le (by omega),List.nil_append]
      congr 2
      omega
theorem flat_sub (hf:∀a,(f a).length=esz) (l:List α) (lo n:Nat):((l.flatMap f).drop (lo * esz)).take (n * esz)=((l.drop lo).take n).flatMap f:=by
  induction l generalizing lo n with
  | nil=>simp
  | cons x l ih =>
    cases lo with
    | succ lo =>
      simp only [List.flatMap_cons,List.drop_succ_cons]
      have:(lo+1) * esz=(f x).length+lo * esz:=by rw [hf,Nat.add_mul]; omega
      rw [this,List.drop_append,←ih lo n,List.drop_eq_nil_of_le (by omega),List.nil_append]
      congr 2
      omega
    | zero =>
      cases n with
      | zero=>simp
      | succ n =>
        simp only [Nat.zero_mul,List.drop_zero,List.flatMap_cons,List.take_succ_cons]
        have h1:(n+1) * esz=(f x).length+n * esz:=by rw [hf,Nat.add_mul]; omega
        rw [h1,List.take_append]
        have:=ih 0 n
        simp only [Nat.zero_mul,List.drop_zero] at this
        rw [List.take_of_length_le (by omega),Nat.add_sub_cancel_left,this]
theorem row_own {σ:Heap} {b:Nat} {l:List α} (hf:∀a,(f a).length=esz) (h:σ[b]? = some (OB f l)):zcB σ b (l.length * esz)=some ((l.flatMap f).map .c):=by
  unfold zcB
  rw [h]
  simp [flat_len hf]
theorem chunks_map (hf:∀a,(f a).length=esz):∀(l:List α),chunks esz l.length (l.flatMap f)=l.map f:=by
  intro l
  induction l with
  | nil=>rfl
  | cons a l ih =>
    simp only [List.length_cons,chunks,List.flatMap_cons,List.map_cons]
    rw [List.take_append_of_le_length (by rw [hf]; exact Nat.le_refl _),List.take_of_length_le (by rw [hf]; exact Nat.le_refl _)]
    congr 1
    have:((f a)++l.flatMap f).drop esz=l.flatMap f:=by
      have h:=hf a
      rw [←h,List.drop_left]
    rw [this,ih]
theorem mapM_frzC {σ:Heap} {n k:Nat}:∀(l:List C),(l.map D.c).mapM (frzC σ n (k+1))=some l:=by
  intro l
  induction l with
  | nil=>rfl
  | cons x l ih=>rw [List.map_cons,List.mapM_cons,ih]; rfl
theorem frzC_own {σ:Heap} {b k n:Nat} {l:List α} (hf:∀a,(f a).length=esz) (he:0<esz) (h:σ[b]? = some (OB f l)) (hn:l.length=n):frzC σ 0 (k+2) (OS esz b n)=some (.frz (Nat.blt 0 n) (l.map f)):=by
  subst hn
  have:frzC σ 0 (k+2) (OS esz b l.length)=(if 0≤b∧0<esz∧0+l.length * esz≤l.length * esz then
        match zcB σ b (l.length * esz) with
        | some cs=>(((cs.drop 0).take (l.length * esz)).mapM (frzC σ 0 (k+1))).map fun r=>C.frz (Nat.blt 0 l.length) (chunks esz l.length r)
        | none=>none
      else none):=rfl
  rw [this,if_pos ⟨Nat.zero_le _,he,by omega⟩,row_own hf h]
  simp only [List.drop_zero]
  rw [List.take_of_length_le (by simp [flat_len hf]),mapM_frzC]
  simp [chunks_map hf]
theorem frz_own {σ:Heap} {b n:Nat} {l:List α} (hf:∀a,(f a).length=esz) (he:0<esz) (h:σ[b]? = some (OB f l)) (hn:l.length=n):frzD σ 0 100 (OS esz b n)=some (.c (.frz (Nat.blt 0 n) (l.map f))):=by
  show (frzC σ 0 100 (OS esz b n)).map D.c=_
  rw [frzC_own (k:=98) hf he h hn]
  rfl
theorem mapM_c {β:Type} {g:D→Option β} {d:D} {ds:List D} {r:β} {rs:List β} (h:g d=some r) (h2:ds.mapM g=some rs):(d::ds).mapM g=some (r::rs):=by
  rw [List.mapM_cons,h,h2]; rfl
theorem frz_tup {σ:Heap} {ds rs:List D} (h:ds.mapM (frzD1 σ 0 100)=some rs):frzD σ 0 100 (.tup ds)=some (.tup rs):=by
  show (ds.mapM (frzD1 σ 0 100)).map D.tup=_
  rw [h]; rfl
theorem frz_agg {σ:Heap} {ds:List D} {rs:List C} (h:ds.mapM (frzC σ 0 100)=some rs):frzD1 σ 0 100 (.agg ds)=some (.agg (rs.map .c)):=by
  show (ds.mapM (frzC σ 0 100)).map (fun l=>D.agg (l.map .c))=_
  rw [h]; rfl
def Src (σ:Heap) (f:α→List C) (esz:Nat) (d:D) (m:List α):Prop:=zbz σ d=some m.length∧zch σ esz m.length d=some ((m.flatMap f).map .c)
def SrcN (σ:Heap) (f:α→List C) (esz:Nat) (d:D) (m:List α):Prop:=zbz σ d=some m.length∧∀n,n≤m.length→zch σ esz n d=some (((m.take n).flatMap f).map .c)
theorem srcN_frz {σ:Heap} {nn:Bool} {m:List α} (hf:∀a,(f a).length=esz):SrcN σ f esz (.c (.frz nn (m.map f))) m:=by
  refine ⟨by simp [zbz],fun n hn=>?_⟩
  show (if n≤(m.map f).length∧(m.map f).all (fun e=>e.length=esz) then some (((m.map f).take n).flatten.map D.c) else none)=_
  rw [if_pos ⟨by simpa using hn,by simp [hf]⟩,←List.map_take]
  simp [List.flatMap]
theorem srcN_nil {σ:Heap}:SrcN σ f esz (.c (.lit (.slice none 0 0))) []:=⟨rfl,fun n hn=>by
  obtain rfl:n=0:=by simpa using hn
  rfl⟩
theorem srcN_own {σ:Heap} {b n:Nat} {l:List α} (hf:∀a,(f a).length=esz) (h:σ[b]? = some (OB f l)) (hn:l.length=n):SrcN σ f esz (OS esz b n) l:=by
  subst hn
  refine ⟨by simp [zbz,row_own hf h],fun k hk=>?_⟩
  show ((zcB σ b (l.length * esz)).bind fun cs=>if esz=esz∧k≤l.length∧0+l.length * esz≤l.length * esz then some ((cs.drop 0).take (k * esz)) else none)=_
  have:=flat_sub hf l 0 k
  simp only [Nat.zero_mul,List.drop_zero] at this
  rw [row_own hf h,Option.bind_some,if_pos ⟨rfl,hk,by omega⟩,List.drop_zero,←List.map_take,this]
theorem flat_take (hf:∀a,(f a).length=esz) (l:List α) (n:Nat):(l.flatMap f).take (n * esz)=(l.take n).flatMap f:=by
  have:=flat_sub hf l 0 n
  simpa only [Nat.zero_mul,List.drop_zero] using this
theorem flat_drop (hf:∀a,(f a).length=esz):∀(l:List α) (n:Nat),(l.flatMap f).drop (n * esz)=(l.drop n).flatMap f:=by
  intro l
  induction l with
  | nil=>intro n; simp
  | cons x l ih =>
    intro n
    cases n with
    | zero=>simp
    | succ n =>
      have:(n+1) * esz=(f x).length+n * esz:=by rw [hf,Nat.add_mul]; omega
      rw [List.flatMap_cons,List.drop_succ_cons,←ih n,this,List.drop_append,List.drop_eq_nil_of_le (by omega),List.nil_append]
      congr 1
      omega
def cpL (l m:List α) (lo len:Nat):List α:=l.take lo++m.take len++l.drop (lo+(m.take len).length)
theorem cpL_len {l m:List α} {lo len:Nat} (h:lo+len≤l.length):(cpL l m lo len).length=l.length:=by
  simp only [cpL,List.length_append,List.length_take,List.length_drop]
  omega
theorem src_frz {σ:Heap} {nn:Bool} {m:List α} (hf:∀a,(f a).length=esz):Src σ f esz (.c (.frz nn (m.map f))) m:=by
  refine ⟨by simp [zbz],?_⟩
  show (if m.length≤(m.map f).length∧(m.map f).all (fun e=>e.length=esz) then some (((m.map f).take m.length).flatten.map D.c) else none)=_
  rw [if_pos ⟨by simp,by simp [hf]⟩,List.take_of_length_le (by simp)]
  simp [List.flatMap]
theorem src_nil {σ:Heap}:Src σ f esz (.c (.lit (.slice none 0 0))) []:=⟨rfl,rfl⟩
theorem src_own {σ:Heap} {b n:Nat} {l:List α} (hf:∀a,(f a).length=esz) (h:σ[b]? = some (OB f l)) (hn:l.length=n):Src σ f esz (OS esz b n) l:=by
  subst hn
  refine ⟨by simp [zbz,row_own hf h],?_⟩
  show ((zcB σ b (l.length * esz)).bind fun cs=>if esz=esz∧l.length≤l.length∧0+l.length * esz≤l.length * esz then some ((cs.drop 0).take (l.length * esz)) else none)=_
  rw [row_own hf h,Option.bind_some,if_pos ⟨rfl,Nat.le_refl _,by omega⟩,List.drop_zero,List.take_of_length_le (by simp [flat_len hf])]
end
section
variable {P:Program} {orc:Orc} {n:Nat} {al:AL} {σ σ1:Heap} {d d1 d2:D} {α:Type} {f:α→List C} {esz:Nat} {ac:ACode} {Q:AExit→AL→Heap→Prop}
theorem Sem.own (t esz:Nat) (hk:lk t al=some (.c (.lit (.slice none 0 0)))) (hd:D.sl σ.length 0 0 esz 0=d) (hs:σ++[.cells []]=σ1) (h:Sem P ac n ((t,d)::al) σ1 Q):Sem P ac n al σ Q:=by
  subst hd hs
  intro c hc M Fz w a K R A hK
  have E1:=Evo.ph R
  have R1:=R.ph
  have hmono:∀{d v},V σ M Fz w d v→V (σ++[.cells []]) M Fz w d v:=fun h=>h.mono E1
  have A1:AEnv n (σ++[.cells []]) M Fz w ((t,.sl σ.length 0 0 esz 0)::al) a.tmps:=by
    refine ⟨A.1,fun s d hs=>?_⟩
    simp only [lk] at hs
    split at hs
    · rename_i hb
      have:=Nat.eq_of_beq_eq_true hb
      simp only [Option.some.injEq] at hs
      subst this hs
      obtain ⟨v,h1,h2⟩:=A.2 t _ hk
      refine ⟨v,h1,?_⟩
      rw [h2.lit_inv]
      exact .sl none 0 0 (by simp) (.cells []) (by simp) (by simp [Ob.sz]) (fun _=>.inl ⟨rfl,rfl,rfl,rfl,rfl,rfl⟩)
    · obtain ⟨v,h1,h2⟩:=A.2 s d hs
      exact ⟨v,h1,hmono h2⟩
  exact h c hc M Fz w a K R1 A1 fun x al' σ' a' w' M' Fz' hQ hd R' A' E' hl=>hK x al' σ' a' w' M' Fz' hQ hd R' A' (E1.trans E' (by simp)) (by simp at hl; omega)
theorem op_len_own {x:Opd} {b k:Nat} {l:List α} (hf:∀a,(f a).length=esz) (h:lx al x=some (OS esz b k)) (hb:σ[b]? = some (OB f l)) (hn:l.length=k):OpR P orc n al σ (.len x) (I k) σ []:=fun e he=>by
  subst hn
  simp [zaG,zaP he h,zbz,row_own hf hb]
def app? {α:Type} (l m:List α):Option (List α):=if l.length+m.length≤1000000 then some (l++m) else none
theorem app_some {l m r:List α} (h:app? l m=some r):l.length+m.length≤1000000∧r=l++m:=by
  unfold app? at h
  split at h
  · rename_i hl; simp only [Option.some.injEq] at h; exact ⟨hl,h.symm⟩
  · simp at h
theorem op_append {bytes:Nat} {s x:Opd} {b k:Nat} {l m r:List α} (hf:∀a,(f a).length=esz) (h:lx al s=some (OS esz b k)) (hb:σ[b]? = some (OB f l)) (hk:l.length=k) (hx:lx al x=some d) (hm:Src σ f esz d m) (ha:app? l m=some r)
    (hby:Nat.ble bytes 1000=true) (hd:OS esz b r.length=d1) (hs:σ.set b (OB f r)=σ1):OpR P orc n al σ (.append esz bytes s x) d1 σ1 [b]:=by
  obtain ⟨hlen,rfl⟩:=app_some ha
  subst hd hs hk
  have hby':bytes≤1000:=Nat.le_of_ble_eq_true hby
  have hroom:roomOk (l.length+m.length) bytes=true:=by
    have:(l.length+m.length) * bytes≤1000000 * 1000:=Nat.mul_le_mul hlen hby'
    simp only [roomOk,Bool.and_eq_true,decide_eq_true_eq]
    omega
  have key:∀e,Env n al e→zaG P orc (.append esz bytes s x) e σ=(if m.length=0 then some (OS esz b l.length,σ,[b]) else some (.sl b 0 (l.length+m.length) esz (l.length * esz+m.length * esz),σ.set b (.cells ((l.flatMap f).map .c++(m.flatMap f).map .c)),[b])):=by
    intro e he
    have:zaG P orc (.append esz bytes s x) e σ=(zbz σ d).bind fun k=>(zch σ esz k d).bind fun new=>(zcB σ b (l.length * esz)).bind fun cs=>if esz=esz∧0=0∧l.length * esz=l.length * esz∧roomOk (l.length+k) bytes then
          if k=0 then some (.sl b 0 l.length esz (l.length * esz),σ,[b])
          else some (.sl b 0 (l.length+k) esz (l.length * esz+k * esz),σ.set b (.cells (cs++new)),[b])
        else none:=by
      simp only [zaG,zaP he h,zaP he hx]
      rfl
    rw [this,hm.1,Option.bind_some,hm.2,Option.bind_some,row_own hf hb,Option.bind_some,if_pos ⟨rfl,rfl,rfl,hroom⟩]
  intro e he
  by_cases hz:m.length=0
  · rw [key e he,if_pos hz]
    have:m=[]:=List.eq_nil_of_length_eq_zero hz
    subst this
    have hset:σ.set b (OB f (l++[]))=σ:=by
      rw [List.append_nil]
      apply List.ext_getElem?
      intro i
      rw [List.getElem?_set]
      split
      · rename_i hi; subst hi
        split
        · exact hb.symm
        · rename_i hlt; rw [List.getElem?_eq_none (by omega)]
      · rfl
    rw [hset,List.append_nil]
  · rw [key e he,if_neg hz]
    simp [OS,OB,Nat.add_mul]
theorem op_copy {x y:Opd} {b lo len:Nat} {l m:List α} (hf:∀a,(f a).length=esz) (h:lx al x=some (.sl b (0+lo * esz) len esz (l.length * esz))) (hb:σ[b]? = some (OB f l)) (hle:lo+len≤l.length) (hy:lx al y=some d) (hm:SrcN σ f esz d m) (hs:σ.set b (OB f (cpL l m lo len))=σ1) :
    OpR P orc n al σ (.copy esz x y) (I ((m.take len).length:Int)) σ1 [b]:=fun e he=>by
  subst hs
  have h1:min m.length len=(m.take len).length:=by rw [List.length_take]; omega
  have h2:m.take (min m.length len)=m.take len:=by
    rcases Nat.le_total len m.length with q | q
    · rw [Nat.min_eq_right q]
    · rw [Nat.min_eq_left q,List.take_of_length_le (Nat.le_refl _),List.take_of_length_le q]
  have h3:0+lo * esz+len * esz≤l.length * esz:=by
    have:=Nat.mul_le_mul_right esz hle
    rw [Nat.add_mul] at this
    omega
  have h4:put ((l.flatMap f).map D.c) (0+lo * esz) (((m.take len).flatMap f).map D.c)=((cpL l m lo len).flatMap f).map D.c:=by
    simp only [put,cpL,←List.map_take,←List.map_drop,List.length_map,flat_len hf,List.flatMap_append,List.map_append,Nat.zero_add,flat_take hf]
    rw [←Nat.add_mul,flat_drop hf]
  simp only [zaG,zaP he h,zaP he hy,row_own hf hb,hm.1,Option.bind_eq_bind,Option.bind_some,Option.map_some,hm.2 _ (Nat.min_le_left m.length len)]
  rw [if_pos ⟨trivial,h3⟩,h2,h4,h1]
theorem op_idx_own {x i:Opd} {b m:Nat} {k:Int} {l:List α} {a:α} (hf:∀a,(f a).length=esz) (h:lx al x=some (OS esz b m)) (hb:σ[b]? = some (OB f l)) (hn:l.length=m) (hi:lx al i=some (I k)) (ha:at? l k=some a) :
    OpR P orc n al σ (.idx esz none x i) (.ptr b (k.toNat * esz) (m * esz)) σ []:=fun e he=>by
  subst hn
  obtain ⟨h1,h2,h3⟩:=at_some ha
  have h4:inR k l.length=some k.toNat:=by unfold inR; rw [if_pos ⟨h1,h2⟩]
  simp [zaG,zaP he h,zaP he hi,zb5,h4,row_own hf hb]
theorem at_get {l:List α} {k:Int} {a:α} (ha:at? l k=some a):l[k.toNat]? = some a:=(at_some ha).2.2
theorem getCells_elem (hf:∀a,(f a).length=esz) {l:List α} {i o:Nat} {a:α} {m:Option Nat} (ha:l[i]? = some a) (hg:zaO m ((f a).map .c) o=some d):zaO m ((l.flatMap f).map .c) (i * esz+o)=some d:=by
  have hfa:=flat_at hf l i a ha
  have hlen:(i+1) * esz≤(l.flatMap f).length:=by
    rw [flat_len hf]
    exact Nat.mul_le_mul_right _ (List.getElem?_eq_some_iff.1 ha).1
  rw [Nat.add_mul,Nat.one_mul] at hlen
  cases m with
  | none =>
    simp only [zaO,List.getElem?_map,Option.map_eq_some_iff] at hg ⊢
    obtain ⟨x,hx,rfl⟩:=hg
    refine ⟨x,?_,rfl⟩
    have ho:o<esz:=by rw [←hf a]; exact (List.getElem?_eq_some_iff.1 hx).1
    rw [←hfa,List.getElem?_take_of_lt ho,List.getElem?_drop] at hx
    exact hx
  | some m =>
    simp only [zaO] at hg ⊢
    split at hg
    · rename_i hc
      simp only [List.length_map,hf] at hc
      rw [if_pos (by rw [List.length_map]; omega)]
      simp only [Option.some.injEq] at hg ⊢
      rw [←hg,←hfa]
      congr 1
      rw [←List.map_drop,←List.map_take,←List.map_drop,←List.map_take]
      congr 1
      rw [List.drop_take,List.take_take,List.drop_drop]
      congr 1
      omega
    · simp at hg
theorem op_loade {m:Option Nat} {x:Opd} {b p q o i:Nat} {l:List α} {a:α} (hf:∀a,(f a).length=esz) (h:lx al x=some (.ptr b p (q * esz))) (hp:p=i * esz+o) (hb:σ[b]? = some (OB f l)) (hn:l.length=q) (ha:l[i]? = some a)
    (hg:zaO m ((f a).map .c) o=some d):OpR P orc n al σ (.load m x) d σ []:=by
  subst hn hp
  exact op_load h (row_own hf hb) (getCells_elem hf ha hg)
theorem flat_put (hf:∀a,(f a).length=esz) {xs:List C}:∀(l:List α) (i o:Nat) (a a':α),l[i]? = some a→o+xs.length≤esz→f a'=(f a).take o++xs++(f a).drop (o+xs.length) →
    (l.flatMap f).take (i * esz+o)++xs++(l.flatMap f).drop (i * esz+o+xs.length)=(l.set i a').flatMap f:=by
  intro l
  induction l with
  | nil=>intro i o a a' h; simp at h
  | cons x l ih =>
    intro i o a a' h ho he
    cases i with
    | zero =>
      simp only [List.getElem?_cons_zero,Option.some.injEq] at h
      subst h
      simp only [Nat.zero_mul,Nat.zero_add,List.flatMap_cons,List.set_cons_zero]
      have hx:=hf x
      rw [List.take_append_of_le_length (by omega),List.drop_append_of_le_length (by omega),he]
      simp
    | succ i =>
      simp only [List.getElem?_cons_succ] at h
      have hx:=hf x
      have e1:(i+1) * esz+o=(f x).length+(i * esz+o):=by rw [Nat.add_mul]; omega
      simp only [List.flatMap_cons,List.set_cons_succ]
      rw [←ih i o a a' h ho he,e1,List.take_append,List.take_of_length_le (by omega)]
      have e2:(f x).length+(i * esz+o)+xs.length=(f x).length+(i * esz+o+xs.length):=by omega
      rw [e2,List.drop_append,List.drop_eq_nil_of_le (by omega),List.nil_append,Nat.add_sub_cancel_left,Nat.add_sub_cancel_left]
      simp
theorem op_storee {m:Nat} {x y:Opd} {b p q o i:Nat} {l:List α} {a a':α} {xs:List C} (hf:∀a,(f a).length=esz) (h:lx al x=some (.ptr b p (q * esz))) (hp:p=i * esz+o) (hb:σ[b]? = some (OB f l)) (hn:l.length=q) (ha:l[i]? = some a)
    (hy:lx al y=some d) (hc:d.cells? = some (xs.map .c)) (hm:xs.length=m) (ho:Nat.ble (o+m) esz=true) (he:f a'=(f a).take o++xs++(f a).drop (o+xs.length)) {l2:List α} (hl2:l.set i a'=l2) (hs:σ.set b (OB f l2)=σ1) :
    OpR P orc n al σ (.store m x y) (.tup []) σ1 [b]:=by
  subst hn hp hl2 hs hm
  have ho':o+xs.length≤esz:=Nat.le_of_ble_eq_true ho
  have hi:=(List.getElem?_eq_some_iff.1 ha).1
  have hle:(i+1) * esz≤l.length * esz:=Nat.mul_le_mul_right _ hi
  rw [Nat.add_mul,Nat.one_mul] at hle
  refine op_store h (row_own hf hb) hy hc ⟨by simp,by omega⟩ ?_
  congr 2
  rw [←flat_put hf l i o a a' ha ho' he]
  simp [put]
theorem op_bslice_own {len:Nat} {z cs:List D} {ps:List (Nat×Nat×Opd)} {l:List α} (h:fillA al (zeros len z) ps=some cs) (hl:cs=(l.flatMap f).map .c) (hn:l.length=len) (hf:∀a,(f a).length=esz) (hp:OS σ.length esz len=OS σ.length esz len) (hd:OS esz σ.length len=d1) (hs:σ++[OB f l]=σ1) :
    OpR P orc n al σ (.bslice esz len z ps) d1 σ1 []:=by
  subst hl hd hs hn
  refine op_bslice h ?_ rfl
  simp [OS,flat_len hf]
theorem zeros_map {z:α}:∀(k:Nat),zeros k ((f z).map .c)=((List.replicate k z).flatMap f).map .c:=by
  intro k
  induction k with
  | zero=>rfl
  | succ k ih =>
    simp only [zeros,List.replicate_succ,List.flatten_cons,List.flatMap_cons,List.map_append] at ih ⊢
    rw [ih]
def mk? {α:Type} (z:α) (l c:Int):Option (List α):=if 0≤l∧l≤c∧c≤1000000 then some (List.replicate l.toNat z) else none
def mk0? {α:Type} (c:Int):Option (List α):=if 0≤c∧c≤1000000 then some [] else none
theorem op_mk0 {bytes:Nat} {zs:List D} {x y:Opd} {c:Int} {l:List α} (hx:lx al x=some (I 0)) (hy:lx al y=some (I c)) (hm:mk0? c=some l) (hby:Nat.ble bytes 1000=true)
    (hd:OS esz σ.length l.length=d1) (hs:σ++[OB f l]=σ1):OpR P orc n al σ (.mk esz bytes zs x y) d1 σ1 []:=fun e he=>by
  subst hd hs
  unfold mk0? at hm
  split at hm
  · rename_i hc
    simp only [Option.some.injEq] at hm
    subst hm
    have hby':bytes≤1000:=Nat.le_of_ble_eq_true hby
    have hroom:roomOk c.toNat bytes=true:=by
      have h1:c.toNat≤1000000:=by omega
      have:c.toNat * bytes≤1000000 * 1000:=Nat.mul_le_mul h1 hby'
      simp only [roomOk,Bool.and_eq_true,decide_eq_true_eq]
      omega
    simp only [zaG,zaP he hx,zaP he hy,zb5,Option.bind_eq_bind,Option.bind_some]
    rw [if_pos ⟨by omega,by omega,hroom⟩]
    simp [OS,OB,zeros]
  · simp at hm
theorem op_mk {bytes:Nat} {zs:List D} {x y:Opd} {k c:Int} {z:α} {l:List α} (hx:lx al x=some (I k)) (hy:lx al y=some (I c)) (hz:zs=(f z).map .c) (hm:mk? z k c=some l) (hby:Nat.ble bytes 1000=true)
    (hd:OS esz σ.length l.length=d1) (hs:σ++[OB f l]=σ1):OpR P orc n al σ (.mk esz bytes zs x y) d1 σ1 []:=fun e he=>by
  subst hd hs hz
  unfold mk? at hm
  split at hm
  · rename_i hc
    simp only [Option.some.injEq] at hm
    subst hm
    have hby':bytes≤1000:=Nat.le_of_ble_eq_true hby
    have hroom:roomOk c.toNat bytes=true:=by
      have h1:c.toNat≤1000000:=by omega
      have:c.toNat * bytes≤1000000 * 1000:=Nat.mul_le_mul h1 hby'
      simp only [roomOk,Bool.and_eq_true,decide_eq_true_eq]
      omega
    simp only [zaG,zaP he hx,zaP he hy,zb5,Option.bind_eq_bind,Option.bind_some]
    rw [if_pos ⟨hc.1,hc.2.1,hroom⟩,zeros_map]
    simp [OS]
  · simp at hm
def slice? {α:Type} (l:List α) (lo hi:Int):Option (List α):=if 0≤lo∧lo≤hi∧hi≤l.length then some ((l.take hi.toNat).drop lo.toNat) else none
theorem op_slc {x:Opd} {lo hi:Option Opd} {nn:Bool} {l r:List α} {i j:Int} (hf:∀a,(f a).length=esz) (h:lx al x=some (.c (.frz nn (l.map f)))) (hlo:(match lo with | none=>some (I 0) | some o=>lx al o)=some (I i))
    (hhi:(match hi with | none=>some (I l.length) | some o=>lx al o)=some (I j)) (hr:slice? l i j=some r):OpR P orc n al σ (.slc esz x lo hi) (.c (.frz nn (r.map f))) σ []:=fun e he=>by
  unfold slice? at hr
  split at hr
  · rename_i hc
    simp only [Option.some.injEq] at hr
    subst hr
    have hh:zaL e (l.map f).length (l.map f).length hi=some j.toNat:=by
      cases hi with
      | none=>simp only [Option.some.injEq,I,D.c.injEq,C.lit.injEq,Value.int.injEq,true_and] at hhi; subst hhi; simp [zaL]
      | some o =>
        simp only at hhi
        simp only [zaL,zaP he hhi,zb5,Option.bind_some,inB]
        rw [if_pos (by simp; omega)]
    have hl:zaL e 0 j.toNat lo=some i.toNat:=by
      cases lo with
      | none=>simp only [Option.some.injEq,I,D.c.injEq,C.lit.injEq,Value.int.injEq,true_and] at hlo; subst hlo; simp [zaL]
      | some o =>
        simp only at hlo
        simp only [zaL,zaP he hlo,zb5,Option.bind_some,inB]
        rw [if_pos (by omega)]
    simp only [zaG,zaP he h,hh,hl,Option.bind_eq_bind,Option.bind_some]
    rw [if_pos (by simp [hf])]
    simp [List.map_take,List.map_drop]
  · simp at hr
end
end Go.Abs
namespace Go.Abs
variable [Gl]
end Go.Abs
namespace Go.Abs
variable [Gl]
theorem lows_c {m:Nat}:∀(l:List C),D.low.lows m (l.map D.c)=true:=by
  intro l
  induction l with
  | nil=>rfl
  | cons x l ih=>simp only [List.map_cons,D.low.lows,D.low,ih,Bool.and_self]
end Go.Abs
end
section
namespace Go.Abs
variable [Gl]
def TrQ (P:Program) (orc:Orc2) (k:Nat) (os:List AOper) (n:Nat) (al:AL) (σ:Heap) (Q:AL→Heap→List Info→Prop):Prop:=
  ∃al' σ' is,Trc P orc k os n al σ al' σ' is∧Q al' σ' is
section
variable {P:Program} {orc:Orc2} {n k:Nat} {al al1:AL} {σ σ1:Heap} {w:List Nat} {d:D} {os:List AOper} {t:Nat} {ao:AOp} {g:Option (Nat×Bool)} {Q:AL→Heap→List Info→Prop}
theorem TrQ.nil (h:Q al σ []):TrQ P orc k [] n al σ Q:=⟨al,σ,[],Trc.nil,h⟩
theorem TrQ.op (h:OpR P (orc (some t)) n al σ ao d σ1 w) (hg:Gd al g true) (hs:(Nat.blt t n&&okA al ao&&(k == 0 || wrOk σ σ1 w))=true)
    (r:TrQ P orc (k-1) os n ((t,d)::al) σ1 fun al' σ' is=>Q al' σ' (mkI ⟨some t,ao,g⟩ (cat ao) (blkA al ao) w σ.length σ1.length::is)):TrQ P orc k (⟨some t,ao,g⟩::os) n al σ Q:=by
  obtain ⟨al',σ',is,h1,h2⟩:=r
  exact ⟨al',σ',_,Trc.op h hg hs h1,h2⟩
theorem TrQ.eff (h:OpR P (orc none) n al σ ao d σ1 w) (hg:Gd al g true) (hs:(okA al ao&&(k == 0 || wrOk σ σ1 w))=true)
    (r:TrQ P orc (k-1) os n al σ1 fun al' σ' is=>Q al' σ' (mkI ⟨none,ao,g⟩ (cat ao) (blkA al ao) w σ.length σ1.length::is)):TrQ P orc k (⟨none,ao,g⟩::os) n al σ Q:=by
  obtain ⟨al',σ',is,h1,h2⟩:=r
  exact ⟨al',σ',_,Trc.eff h hg hs h1,h2⟩
theorem TrQ.no (hg:Gd al g false) (hs:(Nat.blt t n&&okA al ao)=true)
    (r:TrQ P orc (k-1) os n ((t,.tup [])::al) σ fun al' σ' is=>Q al' σ' (mkI ⟨some t,ao,g⟩ 0 (blkA al ao) [] σ.length σ.length::is)):TrQ P orc k (⟨some t,ao,g⟩::os) n al σ Q:=by
  obtain ⟨al',σ',is,h1,h2⟩:=r
  exact ⟨al',σ',_,Trc.no hg hs h1,h2⟩
theorem Sem.regQ {Q:AExit→AL→Heap→Prop} (hmix:P.follows .mixedOrders=true) (O:zbw P orc) (h:TrQ P orc 0 os n al σ fun al' σ' _=>Q .normal al' σ'):Sem P (.reg os) n al σ Q:=by
  obtain ⟨al',σ',is,h1,h2⟩:=h
  exact Sem.reg hmix O h1 h2
theorem Sem.drwQ {Q:AExit→AL→Heap→Prop} {bef:List Nat} {p:Nat} (hmix:P.follows .mixedOrders=true) (O:zbw P orc)
    (h:TrQ P orc k os n al σ fun al' σ' is=>(pairsOk bef is&&tailOk bef p k os.length&&Nat.ble p k)=true∧Q .normal al' σ'):Sem P (.drw os bef k p) n al σ Q:=by
  obtain ⟨al',σ',is,h1,h2,h3⟩:=h
  exact Sem.drw hmix O h1 h2 h3
theorem Sem.drwNQ {Q:AExit→AL→Heap→Prop} {bef:List Nat} {p:Nat} (hmix:P.follows .mixedOrders=true) (O:zbw P orc)
    (h:TrQ P orc os.length os n al σ fun al' σ' is=>(pairsOk bef is&&tailOk bef p os.length os.length&&Nat.ble p os.length)=true∧Q .normal al' σ'):Sem P (.drw os bef k p) n al σ Q:=by
  obtain ⟨al',σ',is,h1,h2,h3⟩:=h
  exact Sem.drwN hmix O h1 h2 h3
def shut (n:Nat) (al:AL) (o:AOper):Option Nat:=
  match o.g,o.dst with
  | some (t, want), some s =>
    match lk t al with
    | some (.c (.lit (.bool b)))=>if (b != want)&&(Nat.blt s n&&okA al o.op) then some s else none
    | some (.tup [])=>if Nat.blt s n&&okA al o.op then some s else none
    | _=>none
  | _,_=>none
end
end Go.Abs
end
section
namespace Go.Abs
variable [Gl]
def mget {α:Type}:List (Int×α)→Int→Option α
  | [],_=>none
  | (k',a)::l,k=>if k'=k then some a else mget l k
def mset {α:Type}:List (Int×α)→Int→α→List (Int×α)
  | [],k,a=>[(k,a)]
  | (k',a')::l,k,a=>if k'=k then (k',a)::l else (k',a')::mset l k a
def mix0 {α:Type}:List (Int×α)→Int→Nat
  | [],_=>0
  | (k',_)::l,k=>if k'=k then 0 else mix0 l k+1
def mbE {α:Type} (g:α→D):Nat→List (Int×α)→List (Value×D×Nat)
  | _,[]=>[]
  | i,(k,a)::l=>(.int .i64 k,g a,i)::mbE g (i+1) l
abbrev MB {α:Type} (g:α→D) (l:List (Int×α)):Ob:=.map (mbE g 0 l) l.length
def oel {α β:Type} (o:Option α) (n:β) (s:α→β):β:=match o with | none=>n | some a=>s a
section
variable {α:Type}
theorem findK_mb {ik:IntKind} {g:α→D} {k:Int}:∀(l:List (Int×α)) (i j:Nat),findK (.int ik) (.int .i64 k) (mbE g i l) j=some ((mget l k).map fun a=>(j+mix0 l k,g a)):=by
  intro l
  induction l with
  | nil=>intro i j; rfl
  | cons x l ih =>
    intro i j
    obtain ⟨k',a⟩:=x
    simp only [mbE,findK,Instr.sameNow,if_true]
    by_cases h:k'=k
    · subst h; simp [mget,mix0]
    · have hb:(k == k')=false:=by simp [Ne.symm h]
      simp only [hb,ih,mget,mix0,if_neg h]
      congr 2
      funext a
      rw [Nat.add_assoc,Nat.add_comm 1]
theorem mset_some {g:α→D} {k:Int} {a:α}:∀(l:List (Int×α)) (i:Nat) (a':α),mget l k=some a'→(mbE g i l).modify (mix0 l k) (fun p=>(p.1,g a,p.2.2))=mbE g i (mset l k a)∧(mset l k a).length=l.length:=by
  intro l
  induction l with
  | nil=>intro i a' h; simp [mget] at h
  | cons x l ih =>
    intro i a' h
    obtain ⟨k',a0⟩:=x
    by_cases hk:k'=k
    · simp [mix0,mset,hk,mbE]
    · simp only [mget,if_neg hk] at h
      obtain ⟨h1,h2⟩:=ih (i+1) a' h
      simp [mix0,mset,hk,mbE,h1,h2]
theorem mset_none {g:α→D} {k:Int} {a:α}:∀(l:List (Int×α)) (i:Nat),mget l k=none→mbE g i l++[(.int .i64 k,g a,i+l.length)]=mbE g i (mset l k a)∧(mset l k a).length=l.length+1:=by
  intro l
  induction l with
  | nil=>intro i h; simp [mset,mbE]
  | cons x l ih =>
    intro i h
    obtain ⟨k',a0⟩:=x
    by_cases hk:k'=k
    · simp [mget,hk] at h
    · simp only [mget,if_neg hk] at h
      obtain ⟨h1,h2⟩:=ih (i+1) h
      refine ⟨?_,by simp [mset,hk,h2]⟩
      simp only [mset,if_neg hk,mbE,List.cons_append,List.length_cons]
      rw [←h1,show i+(l.length+1)=i+1+l.length from by omega]
end
section
variable {P:Program} {orc:Orc} {n:Nat} {al:AL} {σ σ1:Heap} {d d1 d2:D} {α:Type}
theorem op_mkmap {g:α→D} (hd:D.mp σ.length=d) (hs:σ++[MB g ([]:List (Int×α))]=σ1):OpR P orc n al σ .mkmap d σ1 []:=fun e he=>by
  subst hd hs; rfl
theorem op_look {ik:IntKind} {zero:D} {m k:Opd} {b:Nat} {g:α→D} {l:List (Int×α)} {x:Int} {ok:Bool} {a:α} (hm:lx al m=some (.mp b)) (hb:σ[b]? = some (MB g l)) (hk:lx al k=some (I x)) (hq:mget l x=some a) (hd:(if ok then .tup [g a,B true] else g a)=d) :
    OpR P orc n al σ (.lookup (.int ik) zero m k ok) d σ []:=fun e he=>by
  subst hd
  simp only [zaG,zaP he hm,zaP he hk,litOf,mapEs,hb,Option.bind_eq_bind,Option.bind_some,findK_mb,hq,Option.map_some,hit]
theorem op_lookN {ik:IntKind} {zero:D} {m k:Opd} {b:Nat} {g:α→D} {l:List (Int×α)} {x:Int} {ok:Bool} (hm:lx al m=some (.mp b)) (hb:σ[b]? = some (MB g l)) (hk:lx al k=some (I x)) (hq:mget l x=none) (hd:(if ok then .tup [zero,B false] else zero)=d) :
    OpR P orc n al σ (.lookup (.int ik) zero m k ok) d σ []:=fun e he=>by
  subst hd
  simp only [zaG,zaP he hm,zaP he hk,litOf,mapEs,hb,Option.bind_eq_bind,Option.bind_some,findK_mb,hq,Option.map_none,hit]
theorem op_upd {ik:IntKind} {m k x:Opd} {b:Nat} {g:α→D} {l:List (Int×α)} {i:Int} {a:α} (hm:lx al m=some (.mp b)) (hb:σ[b]? = some (MB g l)) (hk:lx al k=some (I i)) (hx:lx al x=some (g a)) (hs:σ.set b (MB g (mset l i a))=σ1) :
    OpR P orc n al σ (.upd (.int ik) m k x) (.tup []) σ1 [b]:=fun e he=>by
  subst hs
  simp only [zaG,zaP he hm,zaP he hk,litOf,hb,Option.bind_eq_bind,Option.bind_some,findK_mb,zaP he hx]
  cases hq:mget l i with
  | some a' =>
    obtain ⟨h1,h2⟩:=mset_some (g:=g) (a:=a) l 0 a' hq
    simp only [Option.map_some,Nat.zero_add,MB,h2]
    rw [←h1]
  | none =>
    obtain ⟨h1,h2⟩:=mset_none (g:=g) (a:=a) l 0 hq
    simp only [Option.map_none,MB,h2]
    rw [←h1,Nat.zero_add]
def mdel {α:Type}:List (Int×α)→Int→List (Int×α)
  | [],_=>[]
  | (k',a)::l,k=>if k'=k then l else (k',a)::mdel l k
theorem mdel_none {α:Type} {k:Int}:∀(l:List (Int×α)),mget l k=none→mdel l k=l
  | [],_=>rfl
  | (k', a) :: l, h => by
    by_cases hk:k'=k
    · simp [mget,hk] at h
    · simp only [mget,if_neg hk] at h
      simp only [mdel,if_neg hk,mdel_none l h]
theorem renum_mb {α:Type} {g:α→D}:∀(l:List (Int×α)) (i j:Nat),renum j (mbE g i l)=mbE g j l
  | [],_,_=>rfl
  | (k,a)::l,i,j=>by simp only [mbE,renum,renum_mb l]
theorem mdel_some {α:Type} {g:α→D} {k:Int}:∀(l:List (Int×α)) (i j:Nat) (a':α),mget l k=some a'→renum j ((mbE g i l).eraseIdx (mix0 l k))=mbE g j (mdel l k)∧(mdel l k).length=l.length-1
  | [],_,_,_,h=>by simp [mget] at h
  | (k', a) :: l, i, j, a', h => by
    by_cases hk:k'=k
    · simp [mix0,mdel,hk,mbE,renum_mb]
    · simp only [mget,if_neg hk] at h
      obtain ⟨h1,h2⟩:=mdel_some l (i+1) (j+1) a' h
      have hl:0<l.length:=by
        cases l with
        | nil=>simp [mget] at h
        | cons _ _=>simp
      simp only [mix0,mdel,hk,mbE,if_false,List.eraseIdx_cons_succ,renum,List.length_cons]
      exact ⟨by rw [h1],by omega⟩
theorem op_del {ik:IntKind} {m k:Opd} {b:Nat} {g:α→D} {l:List (Int×α)} {i:Int} (hm:lx al m=some (.mp b)) (hb:σ[b]? = some (MB g l)) (hk:lx al k=some (I i)) (hs:σ.set b (MB g (mdel l i))=σ1) :
    OpR P orc n al σ (.del (.int ik) m k) (.tup []) σ1 [b]:=fun e he=>by
  subst hs
  simp only [zaG,zaP he hm,zaP he hk,litOf,hb,Option.bind_eq_bind,Option.bind_some,findK_mb]
  cases hq:mget l i with
  | some a' =>
    obtain ⟨h1,h2⟩:=mdel_some (g:=g) l 0 0 a' hq
    simp only [Option.map_some,Nat.zero_add,MB,h1,h2]
  | none=>simp only [Option.map_none,MB,mdel_none l hq]
theorem op_mkfn {f:Fn} {first cap:List Opd} {a b:List D} (h1:lxs al first=some a) (h2:lxs al cap=some b):OpR P orc n al σ (.mkfn f first cap) (.fn f a b) σ []:=fun e he=>by
  simp [zaG,ev_lxs he h1,ev_lxs he h2]
theorem op_callf {g:FuncId} {f:Opd} {args:List Opd} {ds a b:List D} {w:List Nat} (hf:lx al f=some (.fn (.func g) a b)) (ha:lxs al args=some ds) (ho:orc g (a++ds++b) σ=some (d,σ1,w)):OpR P orc n al σ (.call f args) d σ1 w:=fun e he=>by
  simp only [zaG,zaP he hf,ev_lxs he ha,ho]
theorem op_callc {g:FuncId} {f:Opd} {args:List Opd} {ds:List D} {a b:List C} {w:List Nat} (hf:lx al f=some (.c (.fn (.func g) a b))) (ha:lxs al args=some ds) (ho:orc g (a.map .c++ds++b.map .c) σ=some (d,σ1,w)):OpR P orc n al σ (.call f args) d σ1 w:=fun e he=>by
  simp only [zaG,zaP he hf,ev_lxs he ha,ho]
theorem op_idxS {esz j b off len sz:Nat} {x i:Opd} {k:Int} {cs:List D} (h:lx al x=some (.sl b off len esz sz)) (hi:lx al i=some (I k)) (hr:zcB σ b sz=some cs) (hk:inR k len=some j) (hd:D.ptr b (off+j * esz) sz=d) :
    OpR P orc n al σ (.idx esz none x i) d σ []:=fun e he'=>by
  subst hd
  simp only [zaG,zaP he' h,zaP he' hi,zb5,Option.bind_eq_bind,Option.bind_some,hr,hk,if_true]
theorem op_lenS {b off len esz sz:Nat} {x:Opd} {cs:List D} (h:lx al x=some (.sl b off len esz sz)) (hr:zcB σ b sz=some cs) (hd:I len=d):OpR P orc n al σ (.len x) d σ []:=fun e he=>by
  subst hd
  simp [zaG,zaP he h,zbz,hr]
theorem op_nilckf {x:Opd} {cs:List C} {off:Nat} (h:lx al x=some (.c (.fptr cs off))):OpR P orc n al σ (.nilck x) (.c (.fptr cs off)) σ []:=fun e he=>by simp [zaG,zaP he h]
theorem op_nilckc {x:Opd} {f:FuncId} {a b:List C} (h:lx al x=some (.c (.fn (.func f) a b))):OpR P orc n al σ (.nilck x) (.c (.fn (.func f) a b)) σ []:=fun e he=>by simp [zaG,zaP he h]
theorem op_nilckn {x:Opd} {f:FuncId} {a b:List D} (h:lx al x=some (.fn (.func f) a b)):OpR P orc n al σ (.nilck x) (.fn (.func f) a b) σ []:=fun e he=>by simp [zaG,zaP he h]
end
section
variable {P:Program} {orc:Orc} {n:Nat} {al:AL} {σ σ1:Heap} {d d1 d2:D} {α:Type} {f:α→List C} {esz:Nat}
theorem op_appendN {bytes:Nat} {s x:Opd} {m:List α} (h:lx al s=some (.c (.lit (.slice none 0 0)))) (hx:lx al x=some d) (hm:Src σ f esz d m) (hl:Nat.ble m.length 1000000=true)
    (hby:Nat.ble bytes 1000=true) (hd:OS esz σ.length m.length=d1) (hs:σ++[OB f m]=σ1):OpR P orc n al σ (.append esz bytes s x) d1 σ1 []:=by
  subst hd hs
  have hby':bytes≤1000:=Nat.le_of_ble_eq_true hby
  have hlen:m.length≤1000000:=Nat.le_of_ble_eq_true hl
  have hroom:roomOk m.length bytes=true:=by
    have:m.length * bytes≤1000000 * 1000:=Nat.mul_le_mul hlen hby'
    simp only [roomOk,Bool.and_eq_true,decide_eq_true_eq]
    omega
  intro e he
  have:zaG P orc (.append esz bytes s x) e σ=(zbz σ d).bind fun k=>(zch σ esz k d).bind fun new=>if roomOk k bytes then some (.sl σ.length 0 k esz (k * esz),σ++[.cells new],[]) else none:=by
    simp only [zaG,zaP he h,zaP he hx]
    rfl
  rw [this,hm.1,Option.bind_some,hm.2,Option.bind_some,if_pos hroom]
end
def nrmX:Nat→C→C
  | n+1,.frz _ es=>.frz false (es.map fun e=>e.map (nrmX n))
  | _+1,.lit (.slice none 0 0)=>.frz false []
  | _,x=>x
theorem nrmX_ok {Fz:Nat→Prop} {w:World}:∀(n:Nat) {x:C} {v:Value},VC Fz w x v→VC Fz w (nrmX n x) v:=by
  intro n
  induction n with
  | zero=>intro x v h; exact h
  | succ n ih =>
    intro x v h
    by_cases hx:x=.lit (.slice none 0 0)
    · subst hx
      cases h
      exact .frz (es:=[]) 0 none 0 (by simp) (fun _=>rfl) (fun _ _=>undef) (by simp) (by simp) (by simp) (by simp)
    cases h with
    | @frz nn es esz a cap hnn hz c hsz hcap hc hv =>
      have h:=VC.frz (Fz:=Fz) (w:=w) (nn:=false) (es:=es.map fun e=>e.map (nrmX n)) esz a cap (by simp) hz c (fun e he=>?_) (by simpa using hcap) (fun i j e d h1 h2=>?_) (fun i j e d h1 h2=>?_)
      · rw [List.length_map] at h; exact h
      · rw [List.mem_map] at he; obtain ⟨e0,h0,rfl⟩:=he; rw [List.length_map]; exact hsz e0 h0
      · simp only [List.getElem?_map,Option.map_eq_some_iff] at h1
        obtain ⟨e0,h0,rfl⟩:=h1
        simp only [List.getElem?_map,Option.map_eq_some_iff] at h2
        obtain ⟨d0,h3,rfl⟩:=h2
        exact hc i j e0 d0 h0 h3
      · simp only [List.getElem?_map,Option.map_eq_some_iff] at h1
        obtain ⟨e0,h0,rfl⟩:=h1
        simp only [List.getElem?_map,Option.map_eq_some_iff] at h2
        obtain ⟨d0,h3,rfl⟩:=h2
        exact ih (hv i j e0 d0 h0 h3)
    | lit v =>
      have:nrmX (n+1) (.lit v)=.lit v:=by
        unfold nrmX
        split
        · rename_i heq; simp at heq
        · rename_i heq; exact absurd heq hx
        · rfl
      rw [this]
      exact .lit v
    | fptr blk o c hF hc hv=>exact .fptr blk o c hF hc hv
    | fn vs ws h1 h2 hv hw=>exact .fn vs ws h1 h2 hv hw
    | fmp blk clock arr hF hh hs hk hv=>exact .fmp blk clock arr hF hh hs hk hv
def nrmY:D→D
  | .c x=>.c (nrmX 5 x)
  | .agg ds=>.agg (ds.map fun d=>match d with | .c x=>.c (nrmX 5 x) | d=>d)
  | d=>d
theorem DLe.of_nrmY {d d':D} (h:nrmY d=d'):DLe d d':=by
  subst h
  intro σ M Fz w v h
  unfold nrmY
  split
  · cases h with | c h=>exact .c (nrmX_ok 5 h)
  · cases h with
    | agg vs h1 hv =>
      refine .agg vs (by simpa using h1) (fun i d v a b=>?_)
      simp only [List.getElem?_map,Option.map_eq_some_iff] at a
      obtain ⟨d0,h0,rfl⟩:=a
      have:=hv i d0 v h0 b
      split
      · cases this with | c h=>exact .c (nrmX_ok 5 h)
      · exact this
  · exact h
def ObFz (S F:D):Ob→Ob→Prop
  | .map es c,.map es' c'=>c=c'∧es'.length=es.length∧∀(i:Nat) k d' n,es'[i]? = some (k,d',n)→∃d,es[i]? = some (k,d,n)∧(d'=d∨d=S∧d'=F)
  | .cells cs,.cells cs'=>cs'.length=cs.length∧∀(i:Nat) d',cs'[i]? = some d'→∃d,cs[i]? = some d∧(d'=d∨d=S∧d'=F)
  | _,_=>False
theorem ObFz.sz {S F:D} {ob ob':Ob} (h:ObFz S F ob ob'):ob'.sz=ob.sz:=by
  cases ob <;> cases ob' <;> simp only [ObFz] at h
  · exact h.1
  · rfl
section
variable {P:Program} {σ σ0 σ1:Heap} {n:Nat} {al:AL} {ac:ACode} {Q:AExit→AL→Heap→Prop} {α:Type} {f:α→List C} {esz:Nat}
end
end Go.Abs
end
section
namespace Go.Fl
open Ieee
theorem log2_lt {n k:Nat} (h0:n≠0) (h:n<2 ^ k):n.log2<k:=(Nat.log2_lt h0).2 h
theorem log2xle {n:Nat} (h0:n≠0):2 ^ n.log2≤n:=Nat.log2_self_le h0
theorem lt_log2 (n:Nat):n<2 ^ (n.log2+1):=Nat.lt_log2_self
theorem lp:double.leastPlace=-1074:=by decide
def can (s:Bool) (n:Nat):Datum:=if n=0 then .number s 0 (-1074) else .number s (n * 2 ^ (52-n.log2)) ((n.log2:Int)-52)
theorem cut_zero (way:Toward) (s:Bool) (n:Nat):way.cut s n 0=n:=by
  unfold Toward.cut
  have h:1 <<< min 0 (n.log2+2)=1:=by rw [Nat.zero_min]; rfl
  have hm:n % 1=0:=Nat.mod_one n
  simp only [h,Nat.div_one,hm]
  cases way <;> simp
theorem cut_exact {s:Bool} {n d m:Nat} (hd:d≤n.log2+2) (h:n=m * 2 ^ d):Toward.even.cut s n d=m:=by
  unfold Toward.cut
  have hg:1 <<< min d (n.log2+2)=2 ^ d:=by rw [Nat.min_eq_left hd,Nat.one_shiftLeft]
  have hp:0<2 ^ d:=Nat.pow_pos (by decide)
  rw [hg]
  have h1:n / 2 ^ d=m:=by rw [h]; exact Nat.mul_div_cancel _ hp
  have h2:n % 2 ^ d=0:=by rw [h]; exact Nat.mul_mod_left _ _
  simp only [h1,h2]
  have:¬(2 ^ d<2 * 0):=by omega
  have h3:¬(2 ^ d=2 * 0):=by omega
  simp [h3]
theorem log2xmul_pow {m d:Nat} (h:m≠0):(m * 2 ^ d).log2=m.log2+d:=by
  have h1:=log2xle h
  have h2:=lt_log2 m
  have h0:m * 2 ^ d≠0:=by
    have:0<2 ^ d:=Nat.pow_pos (by decide)
    exact Nat.mul_ne_zero h (by omega)
  apply Nat.le_antisymm
  · have:m * 2 ^ d<2 ^ (m.log2+d+1):=by
      rw [show m.log2+d+1=(m.log2+1)+d by omega,Nat.pow_add]
      exact Nat.mul_lt_mul_of_pos_right h2 (Nat.pow_pos (by decide))
    have:=log2_lt h0 this
    omega
  · have:2 ^ (m.log2+d)≤m * 2 ^ d:=by
      rw [Nat.pow_add]
      exact Nat.mul_le_mul_right _ h1
    exact (Nat.le_log2 h0).2 this
theorem near_down {s:Bool} {n k:Nat} (h0:n≠0) (h:n<2 ^ 53):double.nearest s (n * 2 ^ k) (-(k:Int))=double.nearest s n 0:=by
  have hl:=log2_lt h0 h
  have e:(n * 2 ^ k).log2=n.log2+k:=log2xmul_pow h0
  have h0':n * 2 ^ k≠0:=Nat.mul_ne_zero h0 (by have:0<2 ^ k:=Nat.pow_pos (by decide); omega)
  have fb:double.fractionBits=52:=rfl
  have last1:max (-(k:Int)+((n * 2 ^ k).log2:Nat)-((52:Nat):Int)) (-1074)=(n.log2:Int)-52:=by rw [e]; omega
  have last2:max ((0:Int)+(n.log2:Nat)-((52:Nat):Int)) (-1074)=(n.log2:Int)-52:=by omega
  have k1:Toward.even.cut s ((n * 2 ^ k) <<< (-(k:Int)-((n.log2:Int)-52)).toNat) (((n.log2:Int)-52) - -(k:Int)).toNat=n * 2 ^ (52-n.log2):=by
    by_cases hk:k+n.log2≤52
    · have a1:(-(k:Int)-((n.log2:Int)-52)).toNat=52-n.log2-k:=by omega
      have a2:(((n.log2:Int)-52) - -(k:Int)).toNat=0:=by omega
      rw [a1,a2,cut_zero,Nat.shiftLeft_eq,Nat.mul_assoc,←Nat.pow_add]
      congr 2
      omega
    · have a1:(-(k:Int)-((n.log2:Int)-52)).toNat=0:=by omega
      have a2:(((n.log2:Int)-52) - -(k:Int)).toNat=k+n.log2-52:=by omega
      rw [a1,a2,Nat.shiftLeft_zero]
      refine cut_exact (by rw [e]; omega) ?_
      rw [Nat.mul_assoc,←Nat.pow_add]
      congr 2
      omega
  have k2:Toward.even.cut s (n <<< ((0:Int)-((n.log2:Int)-52)).toNat) (((n.log2:Int)-52)-0).toNat=n * 2 ^ (52-n.log2):=by
    have a1:((0:Int)-((n.log2:Int)-52)).toNat=52-n.log2:=by omega
    have a2:(((n.log2:Int)-52)-0).toNat=0:=by omega
    rw [a1,a2,cut_zero,Nat.shiftLeft_eq]
  unfold Format.nearest
  rw [if_neg h0',if_neg h0]
  simp only [fb,lp,last1,last2,k1,k2]
theorem near_read {s:Bool} {n:Nat} (h:n<2 ^ 53):double.read (double.nearest s n 0)=can s n:=by
  by_cases h0:n=0
  · subst h0
    cases s <;> rfl
  have hl:=log2_lt h0 h
  have l1:=log2xle h0
  have l2:=lt_log2 n
  have fb:double.fractionBits=52:=rfl
  have last2:max ((0:Int)+(n.log2:Nat)-((52:Nat):Int)) (-1074)=(n.log2:Int)-52:=by omega
  have k2:Toward.even.cut s (n <<< ((0:Int)-((n.log2:Int)-52)).toNat) (((n.log2:Int)-52)-0).toNat=n * 2 ^ (52-n.log2):=by
    have a1:((0:Int)-((n.log2:Int)-52)).toNat=52-n.log2:=by omega
    have a2:(((n.log2:Int)-52)-0).toNat=0:=by omega
    rw [a1,a2,cut_zero,Nat.shiftLeft_eq]
  have b1:4503599627370496≤n * 2 ^ (52-n.log2):=by
    have:2 ^ n.log2 * 2 ^ (52-n.log2)≤n * 2 ^ (52-n.log2):=Nat.mul_le_mul_right _ l1
    rw [←Nat.pow_add,show n.log2+(52-n.log2)=52 by omega] at this
    exact this
  have b2:n * 2 ^ (52-n.log2)<9007199254740992:=by
    have:n * 2 ^ (52-n.log2)<2 ^ (n.log2+1) * 2 ^ (52-n.log2):=Nat.mul_lt_mul_of_pos_right l2 (Nat.pow_pos (by decide))
    rw [←Nat.pow_add,show n.log2+1+(52-n.log2)=53 by omega] at this
    exact this
  have ir:double.infRung=9218868437227405312:=by decide
  have sw:double.signWeight=9223372036854775808:=by decide
  have bi:double.binade=4503599627370496:=by decide
  unfold can
  rw [if_neg h0]
  generalize n * 2 ^ (52-n.log2)=K at k2 b1 b2 ⊢
  generalize hL:n.log2=L at k2 last2 hl ⊢
  have hr:double.nearest s n 0=double.word s ((L+1022) * 4503599627370496+K):=by
    unfold Format.nearest
    rw [if_neg h0]
    simp only [fb,lp,hL,last2,k2,ir,bi]
    have e1:(((L:Int)-52) - -1074).toNat=L+1022:=by omega
    rw [e1,Nat.min_eq_left (by omega)]
  rw [hr]
  generalize hR:(L+1022) * 4503599627370496+K=R
  have hw:R<9223372036854775808:=by omega
  have hs1:(double.word s R / double.signWeight % 2 == 1)=s:=by
    unfold Format.word
    rw [sw]
    cases s
    · rw [if_neg (by decide),Nat.div_eq_of_lt hw]
      rfl
    · rw [if_pos rfl,Nat.add_div_left _ (by decide),Nat.div_eq_of_lt hw]
      rfl
  have hs2:double.word s R % double.signWeight=R:=by
    unfold Format.word
    rw [sw]
    cases s
    · rw [if_neg (by decide),Nat.mod_eq_of_lt hw]
    · rw [if_pos rfl,Nat.add_mod_left,Nat.mod_eq_of_lt hw]
  unfold Format.read
  simp only [hs1,hs2,bi,ir,lp]
  have e1:R % 4503599627370496=K-4503599627370496:=by omega
  have e2:R / 4503599627370496=L+1023:=by omega
  have c1:¬(R<4503599627370496):=by omega
  have c2:R<9218868437227405312:=by omega
  rw [if_neg c1,if_pos c2,e1,e2]
  have e3:4503599627370496+(K-4503599627370496)=K:=Nat.add_sub_of_le b1
  have e4:(-1074:Int)+((L+1023-1:Nat):Int)=(L:Int)-52:=by omega
  rw [e3,e4]
theorem can_zero (s:Bool) (k:Nat):Datum.number s (0 * 2 ^ k) (-(k:Int))=Datum.number s 0 (-(k:Int)):=by rw [Nat.zero_mul]
theorem can_form (s:Bool) {n:Nat} (h:n<2 ^ 53):∃k:Nat,can s n=.number s (n * 2 ^ k) (-(k:Int)):=by
  unfold can
  split
  · rename_i e
    subst e
    exact ⟨1074,(can_zero s 1074).symm⟩
  · rename_i h0
    have:=log2_lt h0 h
    exact ⟨52-n.log2,by congr 1; omega⟩
theorem near_k (s:Bool) {n:Nat} (k:Nat) (h:n<2 ^ 53):double.nearest s (n * 2 ^ k) (-(k:Int))=double.nearest s n 0:=by
  by_cases h0:n=0
  · subst h0
    rw [Nat.zero_mul]
    unfold Format.nearest
    rw [if_pos rfl,if_pos rfl]
  · exact near_down h0 h
def fl (n:Int):Nat:=FloatKind.f64.nearest n
theorem fl_eq (n:Int):fl n=double.nearest (decide (n<0)) n.natAbs 0:=rfl
theorem fl_read {n:Int} (h:n.natAbs<2 ^ 53):double.read (fl n)=can (decide (n<0)) n.natAbs:=near_read h
def sg (s:Bool) (n:Nat):Int:=if s then -(n:Int) else n
theorem signed_eq (s:Bool) (n i m:Nat) (h:i≤m):signed s (n * 2 ^ i) (m-i)=sg s n * (2 ^ m:Nat):=by
  have e:(n * 2 ^ i) <<< (m-i)=n * 2 ^ m:=by rw [Nat.shiftLeft_eq,Nat.mul_assoc,←Nat.pow_add]; congr 2; omega
  unfold signed sg
  rw [e]
  cases s
  · simp
  · simp only [if_true]
    rw [Int.natCast_mul,Int.neg_mul]
theorem sum_eq (s t:Bool) (a b i j:Nat):Datum.sum (.number s (a * 2 ^ i) (-(i:Int))) (.number t (b * 2 ^ j) (-(j:Int))) =
    some (.number (if sg s a+sg t b=0 then s&&t else decide (sg s a+sg t b<0)) ((sg s a+sg t b).natAbs * 2 ^ (max i j)) (-((max i j:Nat):Int))):=by
  unfold Datum.sum
  have hb:min (-(i:Int)) (-(j:Int))=-((max i j:Nat):Int):=by omega
  have h1:(-(i:Int) - -((max i j:Nat):Int)).toNat=max i j-i:=by omega
  have h2:(-(j:Int) - -((max i j:Nat):Int)).toNat=max i j-j:=by omega
  simp only [hb,h1,h2,signed_eq s a i (max i j) (by omega),signed_eq t b j (max i j) (by omega),←Int.add_mul]
  have hp:(0:Int)<((2 ^ max i j:Nat):Int):=by
    have:0<2 ^ max i j:=Nat.pow_pos (by decide)
    omega
  have z:((sg s a+sg t b) * ((2 ^ max i j:Nat):Int)=0)↔sg s a+sg t b=0:=by
    rw [Int.mul_eq_zero]
    constructor
    · rintro (h | h)
      · exact h
      · omega
    · exact .inl
  have l:((sg s a+sg t b) * ((2 ^ max i j:Nat):Int)<0)↔sg s a+sg t b<0:=by
    constructor
    · intro h
      rcases Int.lt_or_le (sg s a+sg t b) 0 with h' | h'
      · exact h'
      · have:=Int.mul_nonneg h' (Int.le_of_lt hp); omega
    · intro h
      exact Int.mul_neg_of_neg_of_pos h hp
  simp only [z,l,Int.natAbs_mul,Int.natAbs_natCast]
theorem sg_abs (n:Int):sg (decide (n<0)) n.natAbs=n:=by
  unfold sg
  by_cases h:n<0
  · simp [h]; omega
  · simp [h]; omega
theorem fl_add {a b:Int} (ha:a.natAbs<2 ^ 52) (hb:b.natAbs<2 ^ 52):double.add (fl a) (fl b)=some (fl (a+b)):=by
  have ha':a.natAbs<2 ^ 53:=by omega
  have hb':b.natAbs<2 ^ 53:=by omega
  obtain ⟨i,hi⟩:=can_form (decide (a<0)) ha'
  obtain ⟨j,hj⟩:=can_form (decide (b<0)) hb'
  unfold Format.add
  rw [fl_read ha',fl_read hb',hi,hj,sum_eq,sg_abs,sg_abs]
  simp only [Option.map_some,Format.write]
  rw [near_k _ _ (by omega),fl_eq]
  congr 2
  by_cases h0:a+b=0
  · rw [if_pos h0]
    have:¬(a+b<0):=by omega
    by_cases h1:a<0
    · have:¬(b<0):=by omega
      simp [*]
    · simp [*]
  · rw [if_neg h0]
theorem fl_sub {a b:Int} (ha:a.natAbs<2 ^ 52) (hb:b.natAbs<2 ^ 52):double.sub (fl a) (fl b)=some (fl (a-b)):=by
  have ha':a.natAbs<2 ^ 53:=by omega
  have hb':b.natAbs<2 ^ 53:=by omega
  obtain ⟨i,hi⟩:=can_form (decide (a<0)) ha'
  obtain ⟨j,hj⟩:=can_form (decide (b<0)) hb'
  have hs:sg (!decide (b<0)) b.natAbs=-b:=by
    unfold sg
    by_cases h:b<0
    · simp [h]; omega
    · simp [h]; omega
  unfold Format.sub
  rw [fl_read ha',fl_read hb',hi,hj]
  simp only [Datum.opposite]
  rw [sum_eq,sg_abs,hs]
  simp only [Option.map_some,Format.write]
  rw [near_k _ _ (by omega),fl_eq,←Int.sub_eq_add_neg]
  congr 2
  by_cases h0:a-b=0
  · rw [if_pos h0]
    have:¬(a-b<0):=by omega
    by_cases h1:a<0
    · have:b<0:=by omega
      simp [*]
    · simp [*]
  · rw [if_neg h0]
theorem fl_mul {a b:Int} (h0:0≤a) (h1:0≤b) (ha:a.natAbs<2 ^ 53) (hb:b.natAbs<2 ^ 53) (h:(a * b).natAbs<2 ^ 53):double.mul (fl a) (fl b)=some (fl (a * b)):=by
  obtain ⟨i,hi⟩:=can_form (decide (a<0)) ha
  obtain ⟨j,hj⟩:=can_form (decide (b<0)) hb
  have e1:decide (a<0)=false:=by simp; omega
  have e2:decide (b<0)=false:=by simp; omega
  have e3:decide (a * b<0)=false:=by have:=Int.mul_nonneg h0 h1; simp; omega
  unfold Format.mul
  rw [fl_read ha,fl_read hb,hi,hj]
  simp only [Datum.product,e1,e2,Option.map_some,Format.write]
  have m:a.natAbs * 2 ^ i * (b.natAbs * 2 ^ j)=(a * b).natAbs * 2 ^ (i+j):=by
    rw [Int.natAbs_mul,Nat.pow_add]
    simp only [Nat.mul_assoc,Nat.mul_left_comm]
  have p:-(i:Int)+-(j:Int)=-((i+j:Nat):Int):=by omega
  rw [m,p,near_k _ _ h,fl_eq,e3]
  rfl
theorem fl_int {n:Int} (h:n.natAbs<2 ^ 53):(double.read (fl n)).toInt .zero=some n:=by
  obtain ⟨k,hk⟩:=can_form (decide (n<0)) h
  rw [fl_read h,hk]
  unfold Datum.toInt Datum.integral
  have e1:(-(k:Int)).toNat=0:=by omega
  have e2:(- -(k:Int)).toNat=k:=by omega
  have c:Toward.zero.cut (decide (n<0)) (n.natAbs * 2 ^ k) k=n.natAbs:=by
    by_cases h0:n.natAbs=0
    · rw [h0,Nat.zero_mul]
      unfold Toward.cut
      simp
    · unfold Toward.cut
      have hg:1 <<< min k ((n.natAbs * 2 ^ k).log2+2)=2 ^ k:=by rw [log2xmul_pow h0,Nat.min_eq_left (by omega),Nat.one_shiftLeft]
      simp only [hg]
      rw [Nat.mul_div_cancel _ (Nat.pow_pos (by decide))]
      rfl
  simp only [e1,e2,Nat.shiftLeft_zero,c]
  have:=sg_abs n
  unfold sg at this
  unfold signed
  rw [Nat.shiftLeft_zero,this]
end Go.Fl
end
section
namespace Go.Abs
variable [Gl]
inductive CC where
  | int (k:IntKind)
  | bool
  | str
  | sl (i:Nat)
  deriving DecidableEq,Inhabited
@[reducible] def CC.den (T:Nat→Type):CC→Type
  | .int _=>Int
  | .bool=>Bool
  | .str=>ByteArray
  | .sl i=>List (T i)
@[reducible] def tupT (T:Nat→Type):List CC→Type
  | []=>Unit
  | c::cs=>c.den T×tupT T cs
class Ty where
  T:Nat→Type
  fl:Nat→List CC
  prj:∀i,T i→tupT T (fl i)
  mkt:∀i,tupT T (fl i)→T i
  mp:∀i a,mkt i (prj i a)=a
  pm:∀i x,prj i (mkt i x)=x
  dn:∀i j,CC.sl j∈fl i→j<i
  ps:∀i,0<(fl i).length
section
variable [Y:Ty]
abbrev TT (i:Nat):Type:=Y.T i
abbrev CC.dn (c:CC):Type:=c.den Y.T
abbrev tup (cs:List CC):Type:=tupT Y.T cs
abbrev esz (i:Nat):Nat:=(Y.fl i).length
def encC (rec:(j:Nat)→TT j→List C):(c:CC)→c.dn→C
  | .int k,n=>.lit (.int k n)
  | .bool,b=>.lit (.bool b)
  | .str,s=>.lit (.string s)
  | .sl j,l=>.frz false (l.map (rec j))
def encT (rec:(j:Nat)→TT j→List C):(cs:List CC)→tup cs→List C
  | [],_=>[]
  | c::cs,x=>encC rec c x.1::encT rec cs x.2
def encN:Nat→(i:Nat)→TT i→List C
  | 0,_,_=>[]
  | k+1,i,a=>encT (encN k) (Y.fl i) (Y.prj i a)
def enc (i:Nat) (a:TT i):List C:=encN (i+1) i a
theorem encT_congr {r1 r2:(j:Nat)→TT j→List C}:∀(cs:List CC) (x:tup cs),(∀j,CC.sl j∈cs→r1 j=r2 j)→encT r1 cs x=encT r2 cs x:=by
  intro cs
  induction cs with
  | nil=>intro x _; rfl
  | cons c cs ih =>
    intro x h
    simp only [encT]
    rw [ih x.2 fun j hj=>h j (List.mem_cons_of_mem _ hj)]
    congr 1
    cases c with
    | sl j=>simp only [encC]; rw [h j (List.mem_cons_self ..)]
    | _=>rfl
theorem encN_enc:∀(k i:Nat),i<k→encN (Y:=Y) k i=enc i:=by
  intro k
  induction k using Nat.strongRecOn with
  | _ k ih =>
    intro i hi
    funext a
    cases k with
    | zero=>omega
    | succ k =>
      simp only [enc,encN]
      refine encT_congr _ _ fun j hj=>?_
      have hji:=Y.dn i j hj
      rw [ih k (by omega) j (by omega)]
      by_cases hk:i=k
      · subst hk; rw [ih i (by omega) j hji]
      · rw [ih i (by omega) j hji]
theorem enc_eq (i:Nat) (a:TT i):enc i a=encT enc (Y.fl i) (Y.prj i a):=by
  show encT (encN i) (Y.fl i) (Y.prj i a)=_
  exact encT_congr _ _ fun j hj=>encN_enc i j (Y.dn i j hj)
theorem encT_len {r:(j:Nat)→TT j→List C}:∀(cs:List CC) (x:tup cs),(encT r cs x).length=cs.length:=by
  intro cs
  induction cs with
  | nil=>intro x; rfl
  | cons c cs ih=>intro x; simp only [encT,List.length_cons,ih]
theorem zaZ (i:Nat) (a:TT i):(enc i a).length=esz i:=by rw [enc_eq,encT_len]
theorem encC_inj {r:(j:Nat)→TT j→List C} {c:CC} (hr:∀j,c=.sl j→∀a b,r j a=r j b→a=b) {a b:c.dn} (h:encC r c a=encC r c b):a=b:=by
  cases c with
  | int k=>simpa [encC] using h
  | bool=>simpa [encC] using h
  | str=>simpa [encC] using h
  | sl j =>
    simp only [encC,C.frz.injEq,true_and] at h
    exact map_inj (fun {a b}=>hr j rfl a b) h
theorem encT_inj {r:(j:Nat)→TT j→List C}:∀{cs:List CC},(∀j,CC.sl j∈cs→∀a b,r j a=r j b→a=b)→∀{x y:tup cs},encT r cs x=encT r cs y→x=y:=by
  intro cs
  induction cs with
  | nil=>intro _ x y _; rfl
  | cons c cs ih =>
    intro hr x y h
    simp only [encT,List.cons.injEq] at h
    have h1:=encC_inj (fun j hj=>hr j (by rw [←hj]; exact List.mem_cons_self ..)) h.1
    have h2:=ih (fun j hj=>hr j (List.mem_cons_of_mem _ hj)) h.2
    obtain ⟨x1,x2⟩:=x
    obtain ⟨y1,y2⟩:=y
    dsimp only at h1 h2
    rw [h1,h2]
theorem enc_inj:∀(i:Nat) (a b:TT i),enc i a=enc i b→a=b:=by
  intro i
  induction i using Nat.strongRecOn with
  | _ i ih =>
    intro a b h
    rw [enc_eq,enc_eq] at h
    have:=encT_inj (fun j hj=>ih j (Y.dn i j hj)) h
    rw [←Y.mp i a,←Y.mp i b,this]
inductive TC where
  | any
  | d (x:D)
  | b (e:Bool)
  | sl (i:Nat) (l:List (TT i))
  | own (i b v n:Nat)
  | fp (i:Nat) (a:TT i) (off:Nat)
  | op (i b v n:Nat) (k:Int) (a:TT i) (off:Nat)
  | ap (b off len sz:Nat) (k:Int)
  | os (i b v n lo len:Nat)
  | fl (n:Int)
  | cx (x y:Int)
def TC.er:TC→D
  | .any=>.any
  | .d x=>x
  | .b e=>B e
  | .sl i l=>.c (.frz false (l.map (enc i)))
  | .own i c _ n=>OS (esz i) c n
  | .fp i a off=>.c (.fptr (enc i a) off)
  | .op i c _ n k _ off=>.ptr c (k.toNat * esz i+off) (n * esz i)
  | .ap c off _ sz k=>.ptr c (off+k.toNat * 1) sz
  | .os i c _ n lo len=>.sl c (0+lo * esz i) len (esz i) (n * esz i)
  | .fl n=>.c (.lit (.float .f64 (Fl.fl n)))
  | .cx x y=>.c (.lit (.complex .f64 (Fl.fl x) (Fl.fl y)))
def RC (x:TC) (d:D):Prop:=x=.any∨d=x.er
inductive TV where
  | c (x:TC)
  | agg (xs:List TC)
  | tup (xs:List (Bool×List TC))
inductive All2 {α β:Type} (R:α→β→Prop):List α→List β→Prop where
  | nil:All2 R [] []
  | cons {a:α} {b:β} {l:List α} {m:List β} (h:R a b) (r:All2 R l m):All2 R (a::l) (b::m)
def RE (p:Bool×List TC) (d:D):Prop:=
  match p with
  | (true,xs)=>∃ds,d=.agg ds∧All2 RC xs ds
  | (false,xs)=>∃x,xs=[x]∧RC x d
def RT:TV→D→Prop
  | .c x,d=>RC x d
  | .agg xs,d=>∃ds,d=.agg ds∧All2 RC xs ds
  | .tup xs,d=>∃ds,d=.tup ds∧All2 RE xs ds
inductive RV where
  | v (x:TV)
  | g (c want:Bool) (p:Nat) (x:TV)
def RR:RV→D→Prop
  | .v x,d=>RT x d
  | .g c want _ x,d=>if c=want then RT x d else d=.tup []
inductive TB where
  | cells (w:Nat) (cs:List (Nat×TC))
  | row (i:Nat) (l:List (TT i)) (lv cv:Nat)
  | mp (j:Nat) (st:Bool) (l:List (Int×TT j)) (v:Nat)
def mpE (j:Nat) (st:Bool) (a:TT j):D:=if st then .agg ((enc j a).map .c) else .c ((enc j a).headD (.lit undef))
def TB.er:TB→Ob
  | .cells _ cs=>.cells (cs.map fun p=>p.2.er)
  | .row i l _ _=>OB (enc i) l
  | .mp j st l _=>MB (mpE j st) l
def RB (blk:TB) (ob:Ob):Prop:=ob=blk.er
abbrev TH:=List TB
abbrev TA:=List (Nat×RV)
def lkT (t:Nat):TA→Option RV
  | []=>none
  | (s,x)::al=>match Nat.beq s t with | true=>some x | false=>lkT t al
def lkP (t:Nat):TA→Option (RV×Nat)
  | []=>none
  | (s,x)::al=>match Nat.beq s t with | true=>some (x,al.length) | false=>lkP t al
def expC:(c:CC)→c.dn→TC
  | .int k,n=>.d (.c (.lit (.int k n)))
  | .bool,b=>.b b
  | .str,s=>.d (.c (.lit (.string s)))
  | .sl j,l=>.sl j l
def expT:(cs:List CC)→tup cs→List TC
  | [],_=>[]
  | c::cs,x=>expC c x.1::expT cs x.2
def exp (i:Nat) (a:TT i):List TC:=expT (Y.fl i) (Y.prj i a)
theorem expC_er (c:CC) (a:c.dn):(expC c a).er=.c (encC enc c a):=by cases c <;> rfl
theorem expT_er:∀(cs:List CC) (x:tup cs),(expT cs x).map TC.er=(encT enc cs x).map .c:=by
  intro cs
  induction cs with
  | nil=>intro x; rfl
  | cons c cs ih=>intro x; simp only [expT,encT,List.map_cons,expC_er,ih]
theorem exp_er (i:Nat) (a:TT i):(exp i a).map TC.er=(enc i a).map .c:=by rw [exp,expT_er,enc_eq]
theorem All2.er:∀(xs:List TC),All2 RC xs (xs.map TC.er):=by
  intro xs
  induction xs with
  | nil=>exact .nil
  | cons x xs ih=>exact .cons (.inr rfl) ih
theorem All2.eq:∀{xs:List TC} {ds:List D},All2 RC xs ds→(∀y∈xs,y≠.any)→ds=xs.map TC.er:=by
  intro xs ds h
  induction h with
  | nil=>intro _; rfl
  | cons h r ih =>
    intro hn
    rcases h with h | h
    · exact absurd h (hn _ (List.mem_cons_self ..))
    · rw [h,ih fun y hy=>hn y (List.mem_cons_of_mem _ hy)]; rfl
theorem All2.len {α β:Type} {R:α→β→Prop} {l:List α} {m:List β} (h:All2 R l m):l.length=m.length:=by
  induction h with
  | nil=>rfl
  | cons _ _ ih=>simp [ih]
theorem All2.get {α β:Type} {R:α→β→Prop} {l:List α} {m:List β} (h:All2 R l m):∀(i:Nat) a,l[i]? = some a→∃b,m[i]? = some b∧R a b:=by
  induction h with
  | nil=>intro i a h; simp at h
  | cons h _ ih =>
    intro i a hi
    cases i with
    | zero=>simp only [List.getElem?_cons_zero,Option.some.injEq] at hi; subst hi; exact ⟨_,rfl,h⟩
    | succ i=>simp only [List.getElem?_cons_succ] at hi ⊢; exact ih i a hi
theorem All2.get' {α β:Type} {R:α→β→Prop} {l:List α} {m:List β} (h:All2 R l m):∀(i:Nat) b,m[i]? = some b→∃a,l[i]? = some a∧R a b:=by
  induction h with
  | nil=>intro i a h; simp at h
  | cons h _ ih =>
    intro i a hi
    cases i with
    | zero=>simp only [List.getElem?_cons_zero,Option.some.injEq] at hi; subst hi; exact ⟨_,rfl,h⟩
    | succ i=>simp only [List.getElem?_cons_succ] at hi ⊢; exact ih i a hi
theorem All2.app {α β:Type} {R:α→β→Prop} {l l':List α} {m m':List β} (h:All2 R l m) (h':All2 R l' m'):All2 R (l++l') (m++m'):=by
  induction h with
  | nil=>exact h'
  | cons h _ ih=>exact .cons h ih
theorem All2.take {α β:Type} {R:α→β→Prop} {l:List α} {m:List β} (h:All2 R l m):∀n:Nat,All2 R (l.take n) (m.take n):=by
  induction h with
  | nil=>intro n; simp; exact .nil
  | cons h _ ih =>
    intro n
    cases n with
    | zero=>exact .nil
    | succ n=>exact .cons h (ih n)
theorem All2.drop {α β:Type} {R:α→β→Prop} {l:List α} {m:List β} (h:All2 R l m):∀n:Nat,All2 R (l.drop n) (m.drop n):=by
  induction h with
  | nil=>intro n; simp; exact .nil
  | cons h r ih =>
    intro n
    cases n with
    | zero=>exact .cons h r
    | succ n=>exact ih n
def castL {i j:Nat} (l:List (TT j)):Option (List (TT i)):=match decEq j i with | .isTrue h=>some (h▸l) | .isFalse _=>none
theorem zbS {i j:Nat} {l:List (TT j)} {m:List (TT i)} (h:castL l=some m):∃e:j=i,m=e▸l:=by
  unfold castL at h
  split at h
  · rename_i e _; simp only [Option.some.injEq] at h; exact ⟨e,h.symm⟩
  · simp at h
def rdC:(c:CC)→TC→Option c.dn
  | .int k,.d (.c (.lit (.int k' n)))=>match decEq k' k with | .isTrue _=>some n | .isFalse _=>none
  | .bool,.b e=>some e
  | .bool,.d (.c (.lit (.bool e)))=>some e
  | .str,.d (.c (.lit (.string s)))=>some s
  | .sl _,.sl _ l=>castL l
  | .sl _,.d (.c (.lit (.slice none 0 0)))=>some []
  | _,_=>none
def rdT:(cs:List CC)→List TC→Option (tup cs)
  | [],[]=>some ()
  | c :: cs, x :: xs => match rdC c x, rdT cs xs with
    | some a,some b=>some (a,b)
    | _,_=>none
  | _,_=>none
theorem rdC_ok {c:CC} {x:TC} {a:c.dn} (h:rdC c x=some a):x≠.any∧nrm1 x.er=.c (encC enc c a):=by
  unfold rdC at h
  split at h
  · split at h
    · rename_i e _; subst e; simp only [Option.some.injEq] at h; subst h; exact ⟨by simp,rfl⟩
    · simp at h
  · simp only [Option.some.injEq] at h; subst h; exact ⟨by simp,rfl⟩
  · simp only [Option.some.injEq] at h; subst h; exact ⟨by simp,rfl⟩
  · simp only [Option.some.injEq] at h; subst h; exact ⟨by simp,rfl⟩
  · obtain ⟨rfl,rfl⟩:=zbS h; exact ⟨by simp,rfl⟩
  · simp only [Option.some.injEq] at h; subst h; exact ⟨by simp,rfl⟩
  · simp at h
theorem rdC_ex {c:CC} {x:TC} {a:c.dn} (h:rdC c x=some a):x=.d (.c (.lit (.slice none 0 0)))∨x.er=.c (encC enc c a):=by
  unfold rdC at h
  split at h
  · split at h
    · rename_i e _; subst e; simp only [Option.some.injEq] at h; subst h; exact .inr rfl
    · simp at h
  · simp only [Option.some.injEq] at h; subst h; exact .inr rfl
  · simp only [Option.some.injEq] at h; subst h; exact .inr rfl
  · simp only [Option.some.injEq] at h; subst h; exact .inr rfl
  · obtain ⟨rfl,rfl⟩:=zbS h; exact .inr rfl
  · exact .inl rfl
  · simp at h
theorem rdT_ok:∀{cs:List CC} {xs:List TC} {a:tup cs},rdT cs xs=some a→(∀y∈xs,y≠.any)∧(xs.map TC.er).map nrm1=(encT enc cs a).map .c:=by
  intro cs
  induction cs with
  | nil =>
    intro xs a h
    cases xs with
    | nil=>exact ⟨by simp,rfl⟩
    | cons x xs=>simp [rdT] at h
  | cons c cs ih =>
    intro xs a h
    cases xs with
    | nil=>simp [rdT] at h
    | cons x xs =>
      simp only [rdT] at h
      split at h
      · rename_i a1 a2 h1 h2
        simp only [Option.some.injEq] at h
        subst h
        obtain ⟨h3,h4⟩:=rdC_ok h1
        obtain ⟨h5,h6⟩:=ih h2
        refine ⟨fun y hy=>?_,?_⟩
        · rcases List.mem_cons.1 hy with rfl | hy
          · exact h3
          · exact h5 y hy
        · simp only [List.map_cons,encT,h4,h6]
      · simp at h
inductive VCd where
  | c (x:CC)
  | st (i:Nat)
  | fp (i:Nat)
  | k (g:Nat)
@[reducible] def VCd.dn:VCd→Type
  | .c x=>x.dn
  | .st i=>TT i
  | .fp i=>TT i
  | .k _=>Unit
def VCd.enc:(c:VCd)→c.dn→D
  | .c x,a=>.c (encC Go.Abs.enc x a)
  | .st i,a=>ST (Go.Abs.enc i a)
  | .fp i,a=>.c (.fptr (Go.Abs.enc i a) 0)
  | .k x,_=>.c (.fn (.func x) [] [])
def VCd.tv:(c:VCd)→c.dn→TV
  | .c x,a=>.c (expC x a)
  | .st i,a=>.agg (exp i a)
  | .fp i,a=>.c (.fp i a 0)
  | .k x,_=>.c (.d (.c (.fn (.func x) [] [])))
theorem VCd.tv_ok (c:VCd) (a:c.dn):RT (c.tv a) (c.enc a):=by
  cases c with
  | c x=>exact .inr (expC_er x a).symm
  | st i=>exact ⟨_,rfl,by rw [←exp_er]; exact All2.er _⟩
  | fp i=>exact .inr rfl
  | k x=>exact .inr rfl
@[reducible] def tupV:List VCd→Type
  | []=>Unit
  | c::cs=>c.dn×tupV cs
def encV:(cs:List VCd)→tupV cs→List D
  | [],_=>[]
  | c::cs,x=>c.enc x.1::encV cs x.2
def tvV:(cs:List VCd)→tupV cs→List TV
  | [],_=>[]
  | c::cs,x=>c.tv x.1::tvV cs x.2
@[reducible] def outV:List VCd→Type
  | []=>Unit
  | [c]=>c.dn
  | c::d::cs=>c.dn×outV (d::cs)
def rdFp (i:Nat):TV→Option (TT i)
  | .c (.fp j a 0)=>match decEq j i with | .isTrue h=>some (h▸a) | .isFalse _=>none
  | _=>none
def rdFn (g:Nat):TV→Option Unit
  | .c (.d (.c (.fn (.func g') [] [])))=>match Nat.beq g' g with | true=>some () | false=>none
  | _=>none
def rdCV (x:CC):TV→Option x.dn
  | .c y=>rdC x y
  | _=>none
def rdSt (i:Nat):TV→Option (TT i)
  | .agg xs=>match rdT (Y.fl i) xs with | some x=>some (Y.mkt i x) | none=>none
  | _=>none
def rdV:(c:VCd)→TV→Option c.dn
  | .c x,v=>rdCV x v
  | .st i,v=>rdSt i v
  | .fp i,v=>rdFp i v
  | .k g,v=>rdFn g v
end
end Go.Abs
end
