/- The law in plain Lean (7): the audit of a sound state, and the law. -/
import Derived.Test.YtffiheekdcaihaaDoorTzP6
set_option linter.all false
namespace Go.Plain
open Go.Abs
theorem until_eq {j : zad} (h : J16 j) (hh : has j) : job_Until 100 j = some (IntKind.i64.wrap (j.Start + j.Wall)) := by
  simp only [job_Until, job_Until_j0, job_right h, has46, hh, decide_true, Option.bind_some, Bool.not_true, Bool.false_eq_true, if_false]
theorem chk0 {c : zaa} {k : Nat} {y : List zae} : zdD 100 c [] (k + 1) 0 y = (zda 100 c).bind fun r => zdE 100 c r 100 0 y := by
  simp only [zdD, show decide ((0 : Int) < (([] : List Int).length : Int)) = false from rfl, Bool.false_eq_true, if_false]
theorem chk1 {c : zaa} {k : Nat} {y : List zae} : zdE 100 c [] (k + 1) 0 y = (zb8 100 c).bind fun r => zdF 100 c r 100 0 y := by
  simp only [zdE, show decide ((0 : Int) < (([] : List Int).length : Int)) = false from rfl, Bool.false_eq_true, if_false]
theorem chk2 {c : zaa} {k : Nat} {y : List zae} : zdF 100 c [] (k + 1) 0 y = (zdp 100 c).bind fun r => zdG 100 c r 100 0 y := by
  simp only [zdF, show decide ((0 : Int) < (([] : List Int).length : Int)) = false from rfl, Bool.false_eq_true, if_false]
theorem chk3 {c : zaa} {k : Nat} {y : List zae} : zdG 100 c [] (k + 1) 0 y = (zcO 100 c).bind fun r => zdI 100 c r 100 0 y := by
  simp only [zdG, show decide ((0 : Int) < (([] : List Int).length : Int)) = false from rfl, Bool.false_eq_true, if_false]
theorem chk4 {c : zaa} {k : Nat} {y : List zae} : zdI 100 c [] (k + 1) 0 y = (zcQ 100 c).bind fun r => zdC 100 c r 100 0 y := by
  simp only [zdI, show decide ((0 : Int) < (([] : List Int).length : Int)) = false from rfl, Bool.false_eq_true, if_false]
theorem chk7 {c : zaa} {k : Nat} {y : List zae} : zej 100 c [] (k + 1) 0 y = (zdv 100 c).bind fun r => zdH 100 r 100 0 y := by
  simp only [zej, show decide ((0 : Int) < (([] : List Int).length : Int)) = false from rfl, Bool.false_eq_true, if_false]
theorem chk8 {k : Nat} {y : List zae} : zdH 100 [] (k + 1) 0 y = some (y, 0) := by
  simp only [zdH, show decide ((0 : Int) < (([] : List Int).length : Int)) = false from rfl, Bool.false_eq_true, if_false]
section
variable {c : zaa} {s : zab} {st : zag} (hf : FewW s st) (ho : SoundOk s st) (hc : Ck c s st)
include hf ho hc
theorem late : Ret (zda 100 c) fun r => r = [] := by
  have f2 := hf.jobs
  refine zfz (f := fun k i y => za7 100 c k i y) st.Jobs.length (fun _ y => y = []) (fun k i y hi hy hr => ?_) (fun k y hy => ?_) rfl (by omega)
  · have hj := ho.job _ (List.getElem_mem hi)
    simp only [za7, zdJ, zdQ, hc.est, zfA hi, if_true, zaX hi, Option.bind_some, wr1 (show i < 1000000 by omega), has46, Bool.false_eq_true, if_false]
    rw [zar]
    refine ⟨fun g => ?_, fun _ => hr _ hy⟩
    have hh : has st.Jobs[i] := of_decide_eq_true g
    have hl := hj.late hh
    rw [until_eq hj.right hh, Option.bind_some, if_neg (by simp; omega)]
    exact hr _ hy
  · simp only [za7, hc.est, lt_f, Bool.false_eq_true, if_false, zao]
    exact hy
theorem booked : Ret (zb8 100 c) fun r => r = [] := by
  have f1 := hf.allocs
  have f2 := hf.spec.nodes
  have f3 := hf.books
  unfold zb8
  rw [hc.es]
  have hm : mk? (0 : Int) (s.Nodes.length : Int) (s.Nodes.length : Int) = some (List.replicate s.Nodes.length 0) := by
    unfold mk?
    rw [if_pos (by omega)]
    rfl
  rw [hm, Option.bind_some]
  let Good (y : List Int) : Prop := y.length = s.Nodes.length ∧ ∀ n (h : n < y.length), y[n] = 0 ∨ ∃ a ∈ st.Allocs, ∃ sh ∈ a.Shares, sh.Node = n ∧ ∃ (o : Nat) (ho : o < st.Jobs.length), st.Jobs[o].Id = a.Job ∧ y[n] = IntKind.i64.wrap (st.Jobs[o].Start + st.Jobs[o].Wall)
  refine zfz (f := fun k i y => zaB 100 c k i y) st.Allocs.length (fun _ y => Good y) (fun k i y hi hy hr => ?_) (fun k y hy => ?_) ⟨by simp, fun n h => .inl (by simp)⟩ (by omega)
  · have ha := ho.allocs.one _ (List.getElem_mem hi)
    have hfw := ha.few
    obtain ⟨o, hoj, eo⟩ := ho.allocs.job _ (List.getElem_mem hi)
    have hg : mget c.f_jobs st.Allocs[i].Job = some (o : Int) := by rw [← eo]; exact hc.jobs o hoj
    have hj := ho.job _ (List.getElem_mem hoj)
    have hh : has st.Jobs[o] := hj.alloc.1 ⟨i, hi, eo.symm⟩
    simp only [zaB, zc8, hc.est, zfA hi, if_true, zaX hi, Option.bind_some, hg, oel, zaX hoj, has46, hh, decide_true, Bool.not_true, Bool.false_eq_true, if_false]
    refine zfz (f := fun k j y => zbF 100 c i st.Allocs[i] o (zaB 100 c _) k j y) st.Allocs[i].Shares.length (fun _ y => Good y) (fun k j z hj' hz hr' => ?_) (fun k z hz => ?_) hy (by omega)
    · have hl := ha.shares.lo _ (List.getElem_mem hj')
      obtain ⟨h', e⟩ := at_int (l := z) hl.1 (by rw [hz.1]; exact hl.2)
      simp only [zbF, hc.est, zfA hj', if_true, zaX hj', Option.bind_some, e, zaX hoj, until_eq hj.right hh, wr1 (show j < 1000000 by omega)]
      refine hr' _ ⟨by rw [List.length_set]; exact hz.1, fun n h => ?_⟩
      rw [List.length_set] at h
      rw [List.getElem_set]
      split
      · rename_i e'
        subst e'
        split
        · exact .inr ⟨_, List.getElem_mem hi, _, List.getElem_mem hj', by omega, o, hoj, eo, rfl⟩
        · exact hz.2 _ h
      · exact hz.2 n h
    · simp only [zbF, zbZ, lt_f, Bool.false_eq_true, if_false, wr1 (show i < 1000000 by omega)]
      exact hr _ hz
  · simp only [zaB, hc.est, lt_f, Bool.false_eq_true, if_false]
    refine zfz (f := fun k i z => zaP 100 c y k i z) st.Books.length (fun _ z => z = []) (fun k i z hi hz hr => ?_) (fun k z hz => ?_) rfl (by omega)
    · have hb := ho.books _ (List.getElem_mem hi)
      simp only [zaP, zb0, zdc, hc.est, zfA hi, if_true, zaX hi, Option.bind_some, wr1 (show i < 1000000 by omega), Bool.false_eq_true, if_false, zar, decide_eq_true_eq]
      refine ⟨fun g1 => ⟨fun g2 => ?_, fun _ => hr _ hz⟩, fun _ => hr _ hz⟩
      obtain ⟨h', e⟩ := at_int (l := y) g1 g2
      simp only [e, Option.bind_some, zar, decide_eq_true_eq]
      refine ⟨fun g3 => ⟨fun g4 => ?_, fun _ => hr _ hz⟩, fun _ => hr _ hz⟩
      exfalso
      rcases hy.2 _ h' with e0 | ⟨a, ha, sh, hsh, en, o, hoj, eo, ev⟩
      · omega
      · rcases hb a ha with hn | ⟨o', ho', eo', hle⟩
        · exact hn _ (List.getElem_mem hoj) eo
        · have : o' = o := rise_eq (g := fun j : zad => j.Id) ho.up ho' hoj (by rw [eo', eo])
          subst this
          have hp := on_pos (m := st.Books[i].Node) (ho.allocs.one a ha).shares.many hsh (by omega)
          have := hle hp
          omega
    · simp only [zaP, hc.est, lt_f, Bool.false_eq_true, if_false, zao]
      exact hz
theorem alloc : Ret (zcO 100 c) fun r => r = [] := by
  have f1 := hf.allocs
  refine zfz (f := fun k i y => zaV 100 c k i y) st.Allocs.length (fun _ y => y = []) (fun k i y hi hy hr => ?_) (fun k y hy => ?_) rfl (by omega)
  · obtain ⟨o, hoj, eo⟩ := ho.allocs.job _ (List.getElem_mem hi)
    have hg : mget c.f_jobs st.Allocs[i].Job = some (o : Int) := by rw [← eo]; exact hc.jobs o hoj
    simp only [zaV, zb9, hc.est, zfA hi, if_true, zaX hi, Option.bind_some, wr1 (show i < 1000000 by omega), hg, oel, Bool.not_true, Bool.false_eq_true, if_false]
    exact hr _ hy
  · simp only [zaV, hc.est, lt_f, Bool.false_eq_true, if_false, zao]
    exact hy
theorem after : Ret (zdk 100 c) fun r => r = [] := by
  have f2 := hf.jobs
  refine zfz (f := fun k i y => zaZ 100 c k i y) st.Jobs.length (fun _ y => y = []) (fun k i y hi hy hr => ?_) (fun k y hy => ?_) rfl (by omega)
  · have hj := ho.job _ (List.getElem_mem hi)
    have hd := hj.right.deps
    have hst := hj.right.state
    simp only [zaZ, zcC, hc.est, zfA hi, if_true, zaX hi, Option.bind_some, wr1 (show i < 1000000 by omega), life_Over, zar]
    refine ⟨fun _ => hr _ hy, fun g => ?_⟩
    simp only [Bool.or_eq_true, beq_iff_eq, not_or] at g
    have ha := hj.after (by omega)
    have hx : Ret (zay 100 st.Jobs[i].After c) fun r => r = -1 := by
      refine zfk st.Jobs[i].After (fun _ _ => True) (fun k j h' _ hr => ?_) (fun k hq => ?_) (by omega)
      · obtain ⟨o, hoj, eo⟩ := ha _ (List.getElem_mem h')
        have hg : mget c.f_jobs st.Jobs[i].After[j].Job = some (o : Int) := by rw [← eo]; exact hc.jobs o hoj
        simp only [zas, zcW, zfA h', if_true, zaX h', Option.bind_some, wr1 (show j < 1000000 by omega), hg, oel, Bool.not_true, Bool.false_eq_true, if_false]
        exact hr trivial
      · simp only [zas, lt_f, Bool.false_eq_true, if_false, zao]
    unfold zax
    obtain ⟨_, e, rfl⟩ := hx
    rw [e, Option.bind_some, Option.bind_some, if_neg (by decide)]
    exact hr _ hy
  · simp only [zaZ, hc.est, lt_f, Bool.false_eq_true, if_false, zao]
    exact hy
theorem use : Ret (zdv 100 c) fun r => r = [] := by
  have f2 := hf.use
  have hu := ho.use
  refine zfz (f := fun k i y => zbk 100 c k i y) st.Use.length (fun _ y => y = []) (fun k i y hi hy hr => ?_) (fun k y hy => ?_) rfl (by omega)
  · have hs : slice? st.Use (i : Int) ((i + 1 : Nat) : Int) = some [st.Use[i]] := by
      unfold slice?
      rw [if_pos (by omega)]
      have e : ((st.Use.take ((i + 1 : Nat) : Int).toNat).drop (i : Int).toNat) = [st.Use[i]] := by
        show (st.Use.take (i + 1)).drop i = _
        rw [List.take_succ_eq_append_getElem hi, List.drop_append_of_le_length (by simp; omega), List.drop_eq_nil_of_le (by simp; omega)]
        rfl
      rw [e]
    have hb := hu.2 _ (List.getElem_mem hi)
    have hr' : share_Right 100 [st.Use[i]] = some true := by
      show zdB 100 [st.Use[i]] 100 0 = _
      have e : ∀ k x, zdB 100 [st.Use[i]] (k + 1) x = if (decide (x < (1 : Int))) = true then (at? [st.Use[i]] x).bind fun a3 => if ((decide (a3 < 0)) || (decide (a3 > 1099511627776))) = true then some false else zdB 100 [st.Use[i]] k (IntKind.i64.wrap (x + 1)) else some true := fun _ _ => by simp only [zdB]; rfl
      rw [e, if_pos (by decide), show at? [st.Use[i]] 0 = some st.Use[i] from rfl, Option.bind_some, if_out hb, w1, e, if_neg (by decide)]
    have hge : ¬(decide ((i : Int) ≥ (st.Use.length : Int)) = true) := by simp; omega
    simp only [zbk, zec, zeb, hc.es, hc.est, ← hu.1, zfA hi, if_true, Option.bind_some, wr1 (show i < 1000000 by omega), hs, hr', Bool.not_true, Bool.false_eq_true, if_false, hge]
    exact hr _ hy
  · simp only [zbk, hc.es, ← hu.1, lt_f, Bool.false_eq_true, if_false, zao]
    exact hy
theorem total46 {l : List zak} {n : Int} (hl : l.length ≤ 40) (h : ShareOk l n) : Ret (place_Total 100 l) fun r => r = tot (fun x => x.Many) l := by
  refine zfz (f := fun k i y => zeo 100 l k y i) l.length (fun i y => y = tot (fun x => x.Many) (l.take i)) (fun k i y hi hy hr => ?_) (fun k y hy => ?_) (by simp [tot]) (by omega)
  · have hb := tot_bound (fun x : zak => x.Many) 64 (by omega) (l.take i) fun b hb => by
      have := h.many b (mem_take hb)
      show 0 ≤ b.Many ∧ b.Many ≤ 64
      omega
    rw [List.length_take, Nat.min_eq_left (by omega)] at hb
    have hm := h.many _ (List.getElem_mem hi)
    have ht := tot_take (fun x : zak => x.Many) l hi
    have hh : ze9 100 l[i].Many 0 64 = some l[i].Many := by
      unfold ze9
      rw [if_neg (by simp; omega), if_neg (by simp; omega)]
    simp only [zeo, zfA hi, if_true, zaX hi, Option.bind_some, wr1 (show i < 1000000 by omega), hh]
    rw [wr (by omega) (by omega)]
    exact hr _ (by rw [ht, hy])
  · simp only [zeo, lt_f, Bool.false_eq_true, if_false, zao, hy, List.take_length]
theorem contains {l : List Int} {x : Int} (hl : l.length < 99) (hx : x ∈ l) : zbM 100 l x = some true := by
  have : Ret (zc0 100 l x) fun r => 0 ≤ r := by
    refine zfk l (fun _ y => y ≠ x) (fun k i h _ hr => ?_) (fun k hq => ?_) (by omega)
    · simp only [zce, zfA h, if_true, zaX h, Option.bind_some, wr1 (show i < 1000000 by omega), zar, zao, beq_iff_eq]
      exact ⟨fun _ => by omega, fun g => hr fun e => g e.symm⟩
    · exact absurd rfl (zeh (A := fun y : Int => y ≠ x) hq x hx)
  obtain ⟨r, e, h⟩ := this
  unfold zbM
  rw [e, Option.bind_some]
  simp [h]
theorem right {j : zad} (hjm : j ∈ st.Jobs) : zcG 100 c j = some true := by
  have hj := ho.job _ hjm
  unfold zcG
  rw [has46]
  cases hg : mget c.f_allocs j.Id with
  | none =>
    have hn : ¬has j := fun h => by
      obtain ⟨i, h, e⟩ := hj.alloc.2 h
      rw [← e, hc.allocs i h] at hg
      cases hg
    simp only [oel, hn, decide_false, Option.bind_some, Bool.not_false, if_true]
    rfl
  | some o =>
    obtain ⟨i, h, rfl, e⟩ := hc.allocs' _ _ hg
    have hh : has j := hj.alloc.1 ⟨i, h, e⟩
    obtain ⟨i', h', e', en, hm⟩ := hj.mine hh
    have : i' = i := rise_eq (g := fun j : zai => j.Job) ho.allocs.up h' h (by rw [e', e])
    subst this
    have ha := ho.allocs.one _ (List.getElem_mem h)
    have hfw := ha.few
    have hq := hj.queue
    have hq0 := hj.right.queue
    have c1 : ¬((((([(i' : Int)] : List Int).length : Int) != 1) || (decide (j.Queue ≥ (s.Queues.length : Int)))) = true) := by simp; omega
    simp only [oel, hh, decide_true, Option.bind_some, Bool.not_true, Bool.false_eq_true, if_false, hc.es, hc.est, c1, show at? [(i' : Int)] 0 = some (i' : Int) from rfl, zaX h, en]
    obtain ⟨_, e3, rfl⟩ := total46 hf ho hc hfw ha.shares
    rw [e3, Option.bind_some, hm.total]
    unfold zdi
    rw [if_neg (by simp)]
    obtain ⟨q, hq'⟩ : ∃ q : Nat, j.Queue = q := ⟨j.Queue.toNat, by omega⟩
    have hql : q < s.Queues.length := by omega
    rw [hc.es, hq', zaX hql, Option.bind_some]
    have hp := (ho.spec.queue _ (List.getElem_mem hql)).part
    obtain ⟨p, hp'⟩ : ∃ p : Nat, s.Queues[q].Part = p := ⟨s.Queues[q].Part.toNat, by omega⟩
    have hpl : p < s.Parts.length := by omega
    rw [hp', zaX hpl, Option.bind_some]
    have hpf := hf.spec.part _ (List.getElem_mem hpl)
    have hin := hm.part q p hql hpl hq' hp'
    have : Ret (zbJ 100 st.Allocs[i'] s.Parts[p] 100 0) fun b => b = true := by
      refine zfk st.Allocs[i'].Shares (fun _ _ => True) (fun k i h _ hr => ?_) (fun k hq => ?_) (by omega)
      · simp only [zbJ, zfA h, if_true, zaX h, Option.bind_some, wr1 (show i < 1000000 by omega), contains hf ho hc (show s.Parts[p].length < 99 by omega) (hin _ (List.getElem_mem h)), Bool.not_true, Bool.false_eq_true, if_false]
        exact hr trivial
      · simp only [zbJ, lt_f, Bool.false_eq_true, if_false, zao]
    obtain ⟨_, e4, rfl⟩ := this
    exact e4
theorem job : Ret (zdp 100 c) fun r => r = [] := by
  have f2 := hf.jobs
  refine zfz (f := fun k i y => zbz 100 c k i y) st.Jobs.length (fun _ y => y = []) (fun k i y hi hy hr => ?_) (fun k y hy => ?_) rfl (by omega)
  · simp only [zbz, zed, hc.est, zfA hi, if_true, zaX hi, Option.bind_some, wr1 (show i < 1000000 by omega), right hf ho hc (List.getElem_mem hi), Bool.not_true, Bool.false_eq_true, if_false]
    exact hr _ hy
  · simp only [zbz, hc.est, lt_f, Bool.false_eq_true, if_false, zao]
    exact hy
theorem queue : Ret (zcQ 100 c) fun r => r.length ≤ 20 := by
  have f1 := hf.jobs
  have f2 := hf.spec.queues
  have cnt : ∀ q, Ret (zfe 100 st.Jobs q) fun _ => True := fun q => by
    unfold zfe zbN
    refine Ret.bind (P := fun _ => True) ?_ fun _ _ => zao.2 trivial
    refine zfz (f := fun k i y => zaM 100 st.Jobs q k y i) st.Jobs.length (fun _ _ => True) (fun k i y hi hy hr => ?_) (fun k y hy => ?_) trivial (by omega)
    · simp only [zaM, zbQ, ze4, zeU, zeQ, zfA hi, if_true, zaX hi, Option.bind_some, wr1 (show i < 1000000 by omega), ret_bind, zar, zao]
      exact ⟨fun _ => ⟨fun _ => hr _ trivial, fun _ => hr _ trivial⟩, fun _ => ⟨fun _ => hr _ trivial, fun _ => hr _ trivial⟩⟩
    · simp only [zaM, lt_f, Bool.false_eq_true, if_false, zao]
  refine zfz (f := fun k i y => zbg 100 c k i y) s.Queues.length (fun i y => y.length ≤ i) (fun k i y hi hy hr => ?_) (fun k y hy => ?_) (Nat.le_refl _) (by omega)
  · simp only [zbg, zdh, hc.es, hc.est, zfA hi, if_true, zaX hi, Option.bind_some, wr1 (show i < 1000000 by omega)]
    refine (cnt _).bind fun _ _ => ?_
    rw [app_ok (by simp; omega), Option.bind_some, zar]
    exact ⟨fun _ => hr _ (by simp; omega), fun _ => hr _ (by omega)⟩
  · simp only [zbg, hc.es, lt_f, Bool.false_eq_true, if_false, zao]
    omega
theorem user : Ret (zdT 100 c) fun r => r.length ≤ 20 := by
  have f1 := hf.jobs
  have f2 := hf.spec.queues
  have cnt : ∀ q u, Ret (quota_Of 100 st.Jobs q u) fun _ => True := fun q u => by
    unfold quota_Of zct
    refine Ret.bind (P := fun _ => True) ?_ fun _ _ => zao.2 trivial
    refine zfz (f := fun k i y => zaT 100 st.Jobs q u k y i) st.Jobs.length (fun _ _ => True) (fun k i y hi hy hr => ?_) (fun k y hy => ?_) trivial (by omega)
    · simp only [zaT, zcv, quota_Of_1, zfh, zeQ, zfA hi, if_true, zaX hi, Option.bind_some, wr1 (show i < 1000000 by omega)]
      refine Ret.bind (P := fun _ => True) ?_ fun r _ => ?_
      · simp only [zar, zao, implies_true, and_self]
      · rw [zar]
        exact ⟨fun _ => hr _ trivial, fun _ => hr _ trivial⟩
    · simp only [zaT, lt_f, Bool.false_eq_true, if_false, zao]
  refine zfz (f := fun k i y => zbn 100 c k i y) s.Queues.length (fun i y => y.length ≤ i) (fun k i y hi hy hr => ?_) (fun k y hy => ?_) (Nat.le_refl _) (by omega)
  · simp only [zbn, hc.es, zfA hi, if_true, zaX hi, Option.bind_some]
    refine loop0 8 (fun _ => True) (fun k' j hj _ hr' => ?_) (fun k' _ => ?_) trivial (by omega)
    · have ht : decide ((j : Int) < 8) = true := by simp; omega
      simp only [zch, zcV, hc.est, ht, if_true, wr1 (show j < 1000000 by omega), wr1 (show i < 1000000 by omega)]
      refine (cnt _ _).bind fun _ _ => ?_
      rw [app_ok (by simp; omega), Option.bind_some, zar]
      exact ⟨fun _ => hr _ (by simp; omega), fun _ => hr' trivial⟩
    · have ht : decide (((8 : Nat) : Int) < 8) = false := rfl
      simp only [zch, zcV, ht, Bool.false_eq_true, if_false, wr1 (show i < 1000000 by omega)]
      exact hr _ (by omega)
  · simp only [zbn, hc.es, lt_f, Bool.false_eq_true, if_false, zao]
    omega
def Soft (l : List zae) : Prop := ∀ f ∈ l, f.What = 6 ∨ f.What = 7
theorem check_all : Ret ((zcB 100 c).bind fun r7 => zdD 100 c r7 100 0 ([] : List zae)) fun r => r.2 = 0 ∧ r.1.length ≤ 40 ∧ ∀ f ∈ r.1, f.What = 6 ∨ f.What = 7 := by
  refine (node hf ho hc).bind fun r h => ?_
  subst h
  rw [show zdD 100 c [] 100 0 [] = _ from chk0 (k := 99)]
  refine (late hf ho hc).bind fun r h => ?_
  subst h
  rw [show zdE 100 c [] 100 0 [] = _ from chk1 (k := 99)]
  refine (booked hf ho hc).bind fun r h => ?_
  subst h
  rw [show zdF 100 c [] 100 0 [] = _ from chk2 (k := 99)]
  refine (job hf ho hc).bind fun r h => ?_
  subst h
  rw [show zdG 100 c [] 100 0 [] = _ from chk3 (k := 99)]
  refine (alloc hf ho hc).bind fun r h => ?_
  subst h
  rw [show zdI 100 c [] 100 0 [] = _ from chk4 (k := 99)]
  refine (queue hf ho hc).bind fun q hq => ?_
  refine zfz (f := fun k i y => zdC 100 c q k i y) q.length (fun i y => y.length = i ∧ ∀ f ∈ y, f.What = 6 ∨ f.What = 7) (fun k i y hi hy hr => ?_) (fun k y hy => ?_) ⟨rfl, by simp⟩ (by omega)
  · simp only [zdC, zfA hi, if_true, zaX hi, Option.bind_some, wr1 (show i < 1000000 by omega)]
    rw [app_ok (by simp; omega), Option.bind_some]
    refine hr _ ⟨by simp [hy.1], fun f hf' => ?_⟩
    rcases List.mem_append.1 hf' with g | g
    · exact hy.2 f g
    · simp only [List.mem_singleton] at g
      subst g
      exact .inl rfl
  · simp only [zdC, lt_f, Bool.false_eq_true, if_false]
    refine (user hf ho hc).bind fun u hu => ?_
    refine zfz (f := fun k i y => zen 100 c u k i y) u.length (fun i y => y.length = q.length + i ∧ ∀ f ∈ y, f.What = 6 ∨ f.What = 7) (fun k i y hi hy hr => ?_) (fun k y hy => ?_) ⟨by simp [hy.1], hy.2⟩ (by omega)
    · simp only [zen, zfA hi, if_true, zaX hi, Option.bind_some, wr1 (show i < 1000000 by omega)]
      rw [app_ok (by simp; omega), Option.bind_some]
      refine hr _ ⟨by simp [hy.1]; omega, fun f hf' => ?_⟩
      rcases List.mem_append.1 hf' with g | g
      · exact hy.2 f g
      · simp only [List.mem_singleton] at g
        subst g
        exact .inr rfl
    · simp only [zen, lt_f, Bool.false_eq_true, if_false]
      refine (after hf ho hc).bind fun r h => ?_
      subst h
      rw [show zej 100 c [] 100 0 y = _ from chk7 (k := 99)]
      refine (use hf ho hc).bind fun r h => ?_
      subst h
      rw [show zdH 100 [] 100 0 y = _ from chk8 (k := 99), zao]
      exact ⟨rfl, by show y.length ≤ 40; omega, hy.2⟩
end
theorem check {s : zab} {st : zag} (hf : FewW s st) (ho : SoundOk s st) : Ret (ze8 100 s st) fun r => r.2 = 0 ∧ r.1.length ≤ 40 ∧ ∀ f ∈ r.1, f.What = 6 ∨ f.What = 7 := by
  unfold ze8
  refine (prepare hf ho).bind fun r h => ?_
  obtain ⟨r1, r2⟩ := r
  obtain ⟨h1, c, h2, hc⟩ := h
  change r2 = true at h1
  change r1 = some c at h2
  subst h1 h2
  simp only [oel, Bool.not_true, Bool.false_eq_true, if_false]
  exact check_all hf ho hc
theorem auditSound_plain (w : zaC) : zbW 100 w = some true := by
  have : Ret (zbW 100 w) fun b => b = true := by
    unfold zbW
    rw [awake_plain, Option.bind_some, if_neg (by decide)]
    refine (few23 w.S w.St).bind fun b hb => ?_
    rw [zar]
    refine ⟨fun _ => by simp [zbV, zao], fun g => ?_⟩
    have hf := hb (by simpa using g)
    refine (ref_sound hf).bind fun b hb => ?_
    unfold zbV
    rw [zar]
    refine ⟨fun _ => zao.2 rfl, fun g => ?_⟩
    have ho := hb (by simpa using g)
    refine (check hf ho).bind fun r h => ?_
    obtain ⟨l, e⟩ := r
    obtain ⟨h1, h2, h3⟩ := h
    change e = 0 at h1
    change l.length ≤ 40 at h2
    subst h1
    show Ret (zbi 100 l 0 100 0) _
    refine zfk l (fun _ _ => True) (fun k i h _ hr => ?_) (fun k hq => ?_) (by omega)
    · have := h3 _ (List.getElem_mem h)
      have hn : ¬(((l[i].What != 6) && (l[i].What != 7)) = true) := by simp; omega
      simp only [zbi, zfA h, if_true, zaX h, Option.bind_some, wr1 (show i < 1000000 by omega), hn, if_false]
      exact hr trivial
    · simp only [zbi, lt_f, Bool.false_eq_true, if_false, zao]
      rfl
  obtain ⟨_, e, rfl⟩ := this
  exact e
end Go.Plain
