/- The law in plain Lean (6): the audit of a sound state. -/
import Derived.Test.YtffiheekdcaihaaDoorTzP5
set_option linter.all false
namespace Go.Plain
open Go.Abs
theorem mget_mset {α : Type} (l : List (Int × α)) (k : Int) (a : α) (k' : Int) : mget (mset l k a) k' = if k = k' then some a else mget l k' := by
  induction l with
  | nil => simp [mset, mget]
  | cons x l ih =>
    obtain ⟨kx, ax⟩ := x
    simp only [mset]
    by_cases h : kx = k
    · subst h
      simp only [if_true, mget]
      split <;> rfl
    · rw [if_neg h]
      simp only [mget]
      rw [ih]
      by_cases h1 : kx = k'
      · subst h1
        rw [if_pos rfl, if_neg (fun e => h e.symm), if_pos rfl]
      · rw [if_neg h1, if_neg h1]
theorem rise_lt {α : Type} {l : List α} {g : α → Int} (h : ∀ i (h : i + 1 < l.length), g l[i] < g l[i + 1]) {i j : Nat} (hij : i < j) (hj : j < l.length) : g (l[i]'(by omega)) < g l[j] := by
  obtain ⟨d, rfl⟩ : ∃ d, j = i + 1 + d := ⟨j - i - 1, by omega⟩
  induction d with
  | zero => exact h i hj
  | succ d ih => exact Int.lt_trans (ih (by omega) (by omega)) (h (i + 1 + d) hj)
theorem rise_eq {α : Type} {l : List α} {g : α → Int} (h : ∀ i (h : i + 1 < l.length), g l[i] < g l[i + 1]) {i j : Nat} (hi : i < l.length) (hj : j < l.length) (e : g l[i] = g l[j]) : i = j := by
  rcases Nat.lt_trichotomy i j with h' | h' | h'
  · have := rise_lt h h' hj; omega
  · exact h'
  · have := rise_lt h h' hi; omega
theorem place_right {l : List zak} {n : Int} (hl : l.length < 99) (h : ShareOk l n) : zfs 100 l n = some true := by
  have : Ret (zfs 100 l n) (fun b => b = true) := by
    refine zfz (f := fun k i y => zem 100 l n k y i) l.length (fun i y => ∀ h : i < l.length, y < l[i].Node) (fun k i y hi hy hr => ?_) (fun k y hy => ?_) ?_ (by omega)
    · simp only [zem, zfA hi, if_true, zaX hi, Option.bind_some, wr1 (show i < 1000000 by omega)]
      have h1 := h.lo _ (List.getElem_mem hi)
      have h2 := h.many _ (List.getElem_mem hi)
      have h3 := hy hi
      rw [if_neg (by simp only [Bool.or_eq_true, decide_eq_true_eq]; omega)]
      exact hr _ fun h' => h.up i h'
    · simp only [zem, lt_f, Bool.false_eq_true, if_false, zao]
    · exact fun h' => by have := h.lo _ (List.getElem_mem h'); omega
  obtain ⟨_, h1, rfl⟩ := this
  exact h1
theorem life_name {x : Int} (h : 1 ≤ x ∧ x ≤ 6) : ∃ n, life_Name 100 x = some n ∧ (n.toList == (⟨#[]⟩ : ByteArray).toList) = false := by
  rcases (show x = 1 ∨ x = 2 ∨ x = 3 ∨ x = 4 ∨ x = 5 ∨ x = 6 by omega) with rfl | rfl | rfl | rfl | rfl | rfl
  · exact ⟨_, rfl, by kernel_rfl⟩
  · exact ⟨_, rfl, by kernel_rfl⟩
  · exact ⟨_, rfl, by kernel_rfl⟩
  · exact ⟨_, rfl, by kernel_rfl⟩
  · exact ⟨_, rfl, by kernel_rfl⟩
  · exact ⟨_, rfl, by kernel_rfl⟩
theorem jw {x lo hi : Int} (h : lo ≤ x ∧ x ≤ hi) : zcZ 100 x lo hi = some true := by simp [zcZ, h.1, h.2]
theorem state_right {j : zad} (h : J16 j) : zeK 100 j = some true := by
  obtain ⟨n, h1, h2⟩ := life_name h.state
  have hs := h.state
  have j1 : zes 100 j false = some true := by
    unfold zes
    rw [if_neg (by decide), if_neg, if_neg]
    · intro g
      simp only [Bool.and_eq_true, bne_iff_ne, ne_eq] at g
      have := h.kill g.1
      omega
    · intro g
      simp only [Bool.and_eq_true, bne_iff_ne, ne_eq] at g
      have := h.ok g.1
      omega
  have j0 : zet 100 j false = some true := by
    unfold zet
    rw [if_neg (by decide)]
    split
    · rename_i g
      simp only [bne_iff_ne, ne_eq] at g
      have : ¬j.State ≤ 4 := fun g' => g (h.s2 g')
      have e : ((j.State == 5) || (j.State == 6)) = true := by simp; omega
      simp only [life_Over, e, Option.bind_some, Bool.not_true]
      exact j1
    · exact j1
  unfold zeK
  rw [h1, Option.bind_some, h2, if_neg (by decide)]
  split
  · rename_i g
    simp only [bne_iff_ne, ne_eq] at g
    have : ¬j.State ≤ 2 := fun g' => g (h.s1 g')
    have e : ((j.State == 1) || (j.State == 2)) = false := by simp; omega
    simp only [life_Waits, e, Option.bind_some]
    exact j0
  · exact j0
theorem after_right {j : zad} (h : J16 j) : zei 100 j = some true := by
  have hd := h.deps
  have : Ret (zei 100 j) (fun b => b = true) := by
    unfold zei
    rw [if_neg (by simp; omega)]
    refine zfk j.After (fun _ _ => True) (fun k i hi _ hr => ?_) (fun k hq => ?_) (by omega)
    · simp only [zdx, zfA hi, if_true, zaX hi, Option.bind_some, wr1 (show i < 1000000 by omega), jw (h.after _ (List.getElem_mem hi)), Bool.not_true, Bool.false_eq_true, if_false]
      exact hr trivial
    · simp only [zdx, lt_f, Bool.false_eq_true, if_false, zao]
  obtain ⟨_, h1, rfl⟩ := this
  exact h1
theorem job_right {j : zad} (h : J16 j) : job_Right 100 j = some true := by
  have hn : ¬(j.Need = ({ Cpu := 0, Mem := 0, Gpu := 0, Lic := 0 } : zac)) := fun e => h.some (by rw [e]; decide)
  simp only [job_Right, zbT, jw h.id, jw h.user, jw h.queue, jw h.many, vec_right h.need, jw h.wall, after_right h, jw h.version, jw h.born, jw h.start, jw h.stop, jw h.array, state_right h, Option.bind_some, if_true, hn, decide_false, Bool.not_false]
structure Ck (c : zaa) (s : zab) (st : zag) : Prop where
  es : c.f_s = s
  est : c.f_st = st
  jobs : ∀ i (h : i < st.Jobs.length), mget c.f_jobs st.Jobs[i].Id = some (i : Int)
  jobs' : ∀ x o, mget c.f_jobs x = some o → ∃ (i : Nat) (h : i < st.Jobs.length), o = i ∧ st.Jobs[i].Id = x
  allocs : ∀ i (h : i < st.Allocs.length), mget c.f_allocs st.Allocs[i].Job = some [(i : Int)]
  allocs' : ∀ x o, mget c.f_allocs x = some o → ∃ (i : Nat) (h : i < st.Allocs.length), o = [(i : Int)] ∧ st.Allocs[i].Job = x
theorem prepare {s : zab} {st : zag} (hf : FewW s st) (ho : SoundOk s st) : Ret (zeY 100 s st) fun r => r.2 = true ∧ ∃ c, r.1 = some c ∧ Ck c s st := by
  have f1 := hf.allocs
  have f2 := hf.jobs
  unfold zeY
  rw [spec_right hf.spec ho.spec, Option.bind_some, if_neg (by decide)]
  refine zfz st.Jobs.length (fun i y => (∀ j (h : j < st.Jobs.length), j < i → mget y st.Jobs[j].Id = some (j : Int)) ∧ ∀ x o, mget y x = some o → ∃ (j : Nat) (h : j < st.Jobs.length), j < i ∧ o = j ∧ st.Jobs[j].Id = x) (fun k i y hi hy hr => ?_) (fun k y hy => ?_) ⟨by omega, by simp [mget]⟩ (by omega)
  · have hn : mget y st.Jobs[i].Id = none := by
      cases e : mget y st.Jobs[i].Id with
      | none => rfl
      | some o =>
        obtain ⟨j, h, hji, -, e'⟩ := hy.2 _ _ e
        have := rise_eq (g := fun j : zad => j.Id) ho.up h hi e'
        omega
    simp only [zd8, zfA hi, if_true, zaX hi, Option.bind_some, wr1 (show i < 1000000 by omega), hn, oel, job_right (ho.job _ (List.getElem_mem hi)).right, Bool.not_true, Bool.false_eq_true, if_false]
    refine hr _ ⟨fun j h hj => ?_, fun x o hx => ?_⟩
    · rw [mget_mset]
      rcases Nat.lt_or_eq_of_le (Nat.lt_succ_iff.1 hj) with g | g
      · rw [if_neg, hy.1 j h g]
        intro e
        have := rise_eq (g := fun j : zad => j.Id) ho.up hi h e
        omega
      · subst g
        rw [if_pos rfl]
    · rw [mget_mset] at hx
      split at hx
      · rename_i e
        cases hx
        exact ⟨i, hi, by omega, rfl, e⟩
      · obtain ⟨j, h, hj, e1, e2⟩ := hy.2 x o hx
        exact ⟨j, h, by omega, e1, e2⟩
  · simp only [zd8, lt_f, Bool.false_eq_true, if_false]
    refine zfz (f := fun k i z => zcr 100 s st y k i z) st.Allocs.length (fun i z => (∀ j (h : j < st.Allocs.length), j < i → mget z st.Allocs[j].Job = some [(j : Int)]) ∧ ∀ x o, mget z x = some o → ∃ (j : Nat) (h : j < st.Allocs.length), j < i ∧ o = [(j : Int)] ∧ st.Allocs[j].Job = x) (fun k i z hi hz hr => ?_) (fun k z hz => ?_) ⟨by omega, by simp [mget]⟩ (by omega)
    · have ha := ho.allocs.one _ (List.getElem_mem hi)
      have hfw := ha.few
      have hn : mget z st.Allocs[i].Job = none := by
        cases e : mget z st.Allocs[i].Job with
        | none => rfl
        | some o =>
          obtain ⟨j, h, hji, -, e'⟩ := hz.2 _ _ e
          have := rise_eq (g := fun j : zai => j.Job) ho.allocs.up h hi e'
          omega
      simp only [zcr, ze2, zfA hi, if_true, zaX hi, Option.bind_some, wr1 (show i < 1000000 by omega), hn, oel, vec_right ha.need, place_right (show st.Allocs[i].Shares.length < 99 by omega) ha.shares, Bool.not_true, Bool.false_eq_true, if_false]
      refine hr _ ⟨fun j h hj => ?_, fun x o hx => ?_⟩
      · rw [mget_mset]
        rcases Nat.lt_or_eq_of_le (Nat.lt_succ_iff.1 hj) with g | g
        · rw [if_neg, hz.1 j h g]
          intro e
          have := rise_eq (g := fun j : zai => j.Job) ho.allocs.up hi h e
          omega
        · subst g
          rw [if_pos rfl]
      · rw [mget_mset] at hx
        split at hx
        · rename_i e
          cases hx
          exact ⟨i, hi, by omega, rfl, e⟩
        · obtain ⟨j, h, hj, e1, e2⟩ := hz.2 x o hx
          exact ⟨j, h, by omega, e1, e2⟩
    · simp only [zcr, lt_f, Bool.false_eq_true, if_false, zao]
      refine ⟨trivial, _, rfl, rfl, rfl, fun i h => hy.1 i h h, fun x o hx => ?_, fun i h => hz.1 i h h, fun x o hx => ?_⟩
      · obtain ⟨j, h, -, e⟩ := hy.2 x o hx
        exact ⟨j, h, e⟩
      · obtain ⟨j, h, -, e⟩ := hz.2 x o hx
        exact ⟨j, h, e⟩
theorem has46 (j : zad) : zeQ 100 j.State = some (decide (has j)) := by
  unfold zeQ
  congr 1
  rw [Bool.eq_iff_iff, decide_eq_true_iff]
  simp [has]
theorem fits4 {a b : zac} (h : Le a b) : vec_Fits 100 a b = some true := by
  obtain ⟨h1, h2, h3, h4⟩ := h
  have e : ∀ k x, zeX 100 (a.Cpu, a.Mem, a.Gpu, a.Lic) (b.Cpu, b.Mem, b.Gpu, b.Lic) (k + 1) x = if (decide (x < 4)) = true then (at? [a.Cpu, a.Mem, a.Gpu, a.Lic] x).bind fun a7 => (at? [b.Cpu, b.Mem, b.Gpu, b.Lic] x).bind fun a9 => if (decide (a7 > a9)) = true then some false else zeX 100 (a.Cpu, a.Mem, a.Gpu, a.Lic) (b.Cpu, b.Mem, b.Gpu, b.Lic) k (IntKind.i64.wrap (x + 1)) else some true := fun _ _ => by simp only [zeX]
  show zeX 100 (a.Cpu, a.Mem, a.Gpu, a.Lic) (b.Cpu, b.Mem, b.Gpu, b.Lic) 100 0 = some true
  rw [e, if_pos (by decide), at4x0, Option.bind_some, at4x0, Option.bind_some, if_neg (by simp; omega), w1, e, if_pos (by decide), at4x1, Option.bind_some, at4x1, Option.bind_some, if_neg (by simp; omega), w2, e, if_pos (by decide), at4x2, Option.bind_some, at4x2, Option.bind_some, if_neg (by simp; omega), w3, e, if_pos (by decide), at4x3, Option.bind_some, at4x3, Option.bind_some, if_neg (by simp; omega), w4, e, if_neg (by decide)]
def usedP (l : List zai) (r : zac) (sh : List zak) (n : Int) : zac := ⟨(used l n).Cpu + r.Cpu * on n sh, (used l n).Mem + r.Mem * on n sh, (used l n).Gpu + r.Gpu * on n sh, (used l n).Lic + r.Lic * on n sh⟩
theorem ShareOk.take {l : List zak} {n : Int} (h : ShareOk l n) (i : Nat) : ShareOk (l.take i) n :=
  ⟨fun x hx => h.lo x (mem_take hx), fun x hx => h.many x (mem_take hx), fun j hj => by
    rw [List.length_take] at hj
    rw [List.getElem_take, List.getElem_take]
    exact h.up j (by omega)⟩
theorem node {c : zaa} {s : zab} {st : zag} (hf : FewW s st) (ho : SoundOk s st) (hc : Ck c s st) : Ret (zcB 100 c) fun r => r = [] := by
  have f1 := hf.allocs
  have f2 := hf.spec.nodes
  unfold zcB
  rw [hc.es]
  have hm : mk? ({ Cpu := 0, Mem := 0, Gpu := 0, Lic := 0 } : zac) (s.Nodes.length : Int) (s.Nodes.length : Int) = some (List.replicate s.Nodes.length ⟨0, 0, 0, 0⟩) := by
    unfold mk?
    rw [if_pos (by omega)]
    rfl
  rw [hm, Option.bind_some]
  refine zfz (f := fun k i y => zbs 100 c k i y) st.Allocs.length (fun i y => y.length = s.Nodes.length ∧ ∀ n (h : n < y.length), y[n] = used (st.Allocs.take i) n) (fun k i y hi hy hr => ?_) (fun k y hy => ?_) ⟨by simp, fun n h => by simp [used, tot]⟩ (by omega)
  · have ha := ho.allocs.one _ (List.getElem_mem hi)
    have hfw := ha.few
    simp only [zbs, hc.est, zfA hi, if_true, zaX hi, Option.bind_some]
    refine zfz (f := fun k j y => zbU 100 i st.Allocs[i] (zbs 100 c _) k j y) st.Allocs[i].Shares.length (fun j y => y.length = s.Nodes.length ∧ ∀ n (h : n < y.length), y[n] = usedP (st.Allocs.take i) st.Allocs[i].Need (st.Allocs[i].Shares.take j) n) (fun k j z hj hz hr' => ?_) (fun k z hz => ?_) ⟨hy.1, fun n h => by rw [hy.2 n h]; simp [usedP, on, tot]⟩ (by omega)
    · have hl := ha.shares.lo _ (List.getElem_mem hj)
      have hmn := ha.shares.many _ (List.getElem_mem hj)
      obtain ⟨h', e⟩ := at_int (l := z) hl.1 (by rw [hz.1]; exact hl.2)
      simp only [zbU, zfA hj, if_true, zaX hj, Option.bind_some, e, wr1 (show j < 1000000 by omega)]
      refine hr' _ ⟨by rw [List.length_set]; exact hz.1, fun n h => ?_⟩
      have ht : on n (st.Allocs[i].Shares.take (j + 1)) = on n (st.Allocs[i].Shares.take j) + if st.Allocs[i].Shares[j].Node = n then st.Allocs[i].Shares[j].Many else 0 := tot_take _ _ hj
      rw [List.length_set] at h
      rw [List.getElem_set]
      split
      · rename_i e'
        have en : st.Allocs[i].Shares[j].Node = n := by omega
        rw [if_pos en] at ht
        rw [hz.2 _ h']
        subst e'
        have en' : ((st.Allocs[i].Shares[j].Node.toNat : Nat) : Int) = st.Allocs[i].Shares[j].Node := by omega
        simp only [usedP, en'] at ht ⊢
        rw [ht]
        have hq : ∀ a ∈ st.Allocs.take i, AllocOk s.Nodes.length a := fun a ha => ho.allocs.one a (mem_take ha)
        have hq' : (st.Allocs.take i).length ≤ 40 := by rw [List.length_take]; omega
        have c1 := zfu (n := st.Allocs[i].Shares[j].Node) hq' hq (fun r => r.Cpu) fun r hr => hr.cpu
        have c2 := zfu (n := st.Allocs[i].Shares[j].Node) hq' hq (fun r => r.Mem) fun r hr => hr.mem
        have c3 := zfu (n := st.Allocs[i].Shares[j].Node) hq' hq (fun r => r.Gpu) fun r hr => hr.gpu
        have c4 := zfu (n := st.Allocs[i].Shares[j].Node) hq' hq (fun r => r.Lic) fun r hr => hr.lic
        have hsk := ha.shares.take j
        have hon := on_le (m := st.Allocs[i].Shares[j].Node) hsk.pair hsk.many
        have d1 := zfc ha.need.cpu hon
        have d2 := zfc ha.need.mem hon
        have d3 := zfc ha.need.gpu hon
        have d4 := zfc ha.need.lic hon
        have hmm : 0 ≤ st.Allocs[i].Shares[j].Many ∧ st.Allocs[i].Shares[j].Many ≤ 64 := by omega
        have m1 := zfc ha.need.cpu hmm
        have m2 := zfc ha.need.mem hmm
        have m3 := zfc ha.need.gpu hmm
        have m4 := zfc ha.need.lic hmm
        simp only [used, Int.mul_add]
        rw [wr (x := st.Allocs[i].Need.Cpu * st.Allocs[i].Shares[j].Many) (by omega) (by omega), wr (x := st.Allocs[i].Need.Mem * st.Allocs[i].Shares[j].Many) (by omega) (by omega), wr (x := st.Allocs[i].Need.Gpu * st.Allocs[i].Shares[j].Many) (by omega) (by omega), wr (x := st.Allocs[i].Need.Lic * st.Allocs[i].Shares[j].Many) (by omega) (by omega)]
        rw [wr (by omega) (by omega), wr (by omega) (by omega), wr (by omega) (by omega), wr (by omega) (by omega)]
        simp only [Int.add_assoc]
      · rename_i e'
        have en : ¬(st.Allocs[i].Shares[j].Node = n) := by omega
        rw [if_neg en] at ht
        rw [hz.2 n h]
        simp only [usedP, ht, Int.add_zero]
    · simp only [zbU, lt_f, Bool.false_eq_true, if_false, wr1 (show i < 1000000 by omega)]
      refine hr _ ⟨hz.1, fun n h => ?_⟩
      rw [hz.2 n h, List.take_length]
      simp only [usedP, used, tot_take _ _ hi]
  · rw [List.take_length] at hy
    simp only [zbs, hc.est, lt_f, Bool.false_eq_true, if_false]
    refine zfz (f := fun k i z => zbt 100 c y k i z) y.length (fun _ z => z = []) (fun k i z hi hz hr => ?_) (fun k z hz => ?_) rfl (by omega)
    · have hi' : i < s.Nodes.length := by omega
      have hfit : vec_Fits 100 y[i] s.Nodes[i] = some true := fits4 (by rw [hy.2 i hi]; exact ho.allocs.left i hi')
      simp only [zbt, zdR, hc.es, zfA hi, if_true, zaX hi, zaX hi', Option.bind_some, wr1 (show i < 1000000 by omega), hfit, Bool.not_true, Bool.false_eq_true, if_false]
      exact hr _ hz
    · simp only [zbt, lt_f, Bool.false_eq_true, if_false, zao]
      exact hz
end Go.Plain
