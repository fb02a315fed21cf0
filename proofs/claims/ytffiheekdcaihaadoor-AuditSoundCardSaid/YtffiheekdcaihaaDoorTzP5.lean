/- The law in plain Lean (5): what soundness says: jobs, all. -/
import Derived.Test.YtffiheekdcaihaaDoorTzP4
set_option linter.all false
namespace Go.Plain
open Go.Abs
theorem ref_count (a b : zac) : Ret (zdb 100 a b) fun _ => True := by
  have l : Ret (zbl 100 a b 100 0 b) fun _ => True := by
    refine zfz 64 (fun _ _ => True) (fun k i y h _ hr => ?_) (fun k y _ => ?_) trivial (by omega)
    · have ht : decide ((i : Int) < 64) = true := by simp; omega
      simp only [zbl, zcY, ht, if_true, fits_iff, Option.bind_some, zcq, wr1 (show i < 1000000 by omega), zar, zao]
      exact ⟨fun _ => hr _ trivial, fun _ => trivial⟩
    · have ht : decide (((64 : Nat) : Int) < 64) = false := rfl
      simp only [zbl, zcY, ht, Bool.false_eq_true, if_false, zao]
  have j : ∀ x, Ret (zcl 100 a b x) fun _ => True := fun x => by
    unfold zcl
    rw [zar]
    exact ⟨fun _ => zao.2 trivial, fun _ => l⟩
  unfold zdb
  refine (ref_vec _).bind fun r _ => ?_
  rw [zar]
  refine ⟨fun _ => j _, fun _ => (ref_vec _).bind fun r _ => ?_⟩
  rw [zar]
  refine ⟨fun _ => j _, fun _ => ?_⟩
  rw [fits_iff, Option.bind_some]
  exact j _
theorem ref_room {s : zab} (hf : FewS s) (hs : SpecOk s) (p : Int) (r : zac) : Ret (zdj 100 s p r) fun _ => True := by
  unfold zdj
  rw [zar]
  refine ⟨fun _ => zao.2 trivial, fun h => ?_⟩
  simp only [Bool.or_eq_true, decide_eq_true_eq, not_or] at h
  obtain ⟨p, rfl⟩ : ∃ n : Nat, p = n := ⟨p.toNat, by omega⟩
  have hp : p < s.Parts.length := by omega
  have h1 := hf.part _ (List.getElem_mem hp)
  have h2 := (hs.part _ (List.getElem_mem hp)).2
  refine zfz (f := fun k i y => zb4 100 s p r k y i) s.Parts[p].length (fun _ _ => True) (fun k i y hi _ hr => ?_) (fun k y hy => ?_) trivial (by omega)
  · have a1 := h2.lo _ (List.getElem_mem hi)
    have a2 := h2.hi _ (List.getElem_mem hi)
    obtain ⟨h', e⟩ := at_int (l := s.Nodes) a1 a2
    simp only [zb4, zaX hp, Option.bind_some, zfA hi, if_true, zaX hi, e, wr1 (show i < 1000000 by omega)]
    exact (ref_count _ _).bind fun _ _ => hr _ trivial
  · simp only [zb4, zaX hp, Option.bind_some, lt_f, Bool.false_eq_true, if_false, zao]
theorem ref_fits {s : zab} (hf : FewS s) (hs : SpecOk s) (q m : Int) (r : zac) : Ret (zdo 100 s q m r) fun _ => True := by
  simp only [zdo, zcx, zar, zao, decide_eq_true_eq, implies_true, and_true]
  intro h1 h2 h3
  obtain ⟨h', e⟩ := at_int (l := s.Queues) h1 h2
  rw [e, Option.bind_some]
  exact (ref_room hf hs _ _).bind fun _ _ => zao.2 trivial
theorem ref_total {l : List zak} {n : Int} (hl : l.length ≤ 40) (h : ShareOk l n) : Ret (zd2 100 l) fun r => r = tot (fun x => x.Many) l := by
  refine zfz (f := fun k i y => za2 100 l k y i) l.length (fun i y => y = tot (fun x => x.Many) (l.take i)) (fun k i y hi hy hr => ?_) (fun k y hy => ?_) (by simp [tot]) (by omega)
  · have hb := tot_bound (fun x : zak => x.Many) 64 (by omega) (l.take i) fun b hb => by
      have := h.many b (mem_take hb)
      show 0 ≤ b.Many ∧ b.Many ≤ 64
      omega
    rw [List.length_take, Nat.min_eq_left (by omega)] at hb
    have hm := h.many _ (List.getElem_mem hi)
    have ht := tot_take (fun x : zak => x.Many) l hi
    simp only [za2, zcX, zfA hi, if_true, zaX hi, Option.bind_some, wr1 (show i < 1000000 by omega)]
    rw [if_neg (by simp; omega), if_pos (by simp; omega), wr (by omega) (by omega)]
    exact hr _ (by rw [ht, hy])
  · simp only [za2, lt_f, Bool.false_eq_true, if_false, zao, hy, List.take_length]
theorem ref_has (l : List Int) (x : Int) (hl : l.length < 99) : Ret (zeC 100 l x) fun b => b = true → x ∈ l := by
  refine zfk l (fun _ _ => True) (fun k i h _ hr => ?_) (fun k hq => ?_) (by omega)
  · simp only [zcE, zfA h, if_true, zaX h, Option.bind_some, wr1 (show i < 1000000 by omega), zar, zao, beq_iff_eq]
    exact ⟨fun e _ => e ▸ List.getElem_mem h, fun _ => hr trivial⟩
  · simp only [zcE, lt_f, Bool.false_eq_true, if_false, zao]
    simp
structure MineOk (s : zab) (j : zad) (l : List zak) : Prop where
  total : tot (fun x => x.Many) l = j.Many
  part : ∀ (i p : Nat) (h : i < s.Queues.length) (h' : p < s.Parts.length), j.Queue = i → s.Queues[i].Part = p → ∀ x ∈ l, x.Node ∈ s.Parts[p]
theorem ref_mine {s : zab} (hf : FewS s) (hs : SpecOk s) (j : zad) {l : List zak} {n : Int} (hl : l.length ≤ 40) (h : ShareOk l n) : Ret (zdn 100 s j l) fun b => b = true → MineOk s j l := by
  unfold zdn
  refine (ref_shares _ _ (by omega)).bind fun b hb => ?_
  rw [zar]
  refine ⟨fun _ => by simp [zby, zao], fun _ => (ref_total hl h).bind fun r hr => ?_⟩
  subst hr
  rw [zar]
  refine ⟨fun _ => by simp [zby, zao], fun g1 => ?_⟩
  rw [zar]
  refine ⟨fun _ => by simp [zby, zao], fun g2 => ?_⟩
  unfold zby
  rw [zar]
  refine ⟨fun _ => by simp [zao], fun g3 => ?_⟩
  simp only [bne_iff_ne, ne_eq, Decidable.not_not, decide_eq_true_eq] at g1 g2 g3
  obtain ⟨q, hq⟩ : ∃ q : Nat, j.Queue = q := ⟨j.Queue.toNat, by omega⟩
  have hq' : q < s.Queues.length := by omega
  rw [hq, zaX hq', Option.bind_some]
  have hp := (hs.queue _ (List.getElem_mem hq')).part
  obtain ⟨p, hp'⟩ : ∃ p : Nat, s.Queues[q].Part = p := ⟨s.Queues[q].Part.toNat, by omega⟩
  have hp'' : p < s.Parts.length := by omega
  rw [hp', zaX hp'', Option.bind_some]
  have := hf.part _ (List.getElem_mem hp'')
  refine zfk l (fun _ x => x.Node ∈ s.Parts[p]) (fun k i h _ hr => ?_) (fun k hq => ?_) (by omega)
  · simp only [zcw, zfA h, if_true, zaX h, Option.bind_some, wr1 (show i < 1000000 by omega)]
    refine (ref_has _ _ (by omega)).bind fun b hb => ?_
    rw [zar]
    exact ⟨fun _ => by simp [zao], fun g => hr (hb (by simpa using g))⟩
  · simp only [zcw, lt_f, Bool.false_eq_true, if_false, zao]
    have ha := zeh (A := fun x : zak => x.Node ∈ s.Parts[p]) hq
    refine fun _ => ⟨g1, fun i p' h h' e1 e2 x hx => ?_⟩
    have e : i = q := by omega
    subst e
    have e' : p' = p := by omega
    subst e'
    exact ha x hx
def has (j : zad) : Prop := j.State = 3 ∨ j.State = 4
structure JobOk (s : zab) (st : zag) (j : zad) : Prop where
  right : J16 j
  queue : j.Queue < s.Queues.length
  alloc : (∃ (i : Nat) (h : i < st.Allocs.length), st.Allocs[i].Job = j.Id) ↔ has j
  after : j.State < 5 → ∀ d ∈ j.After, ∃ (i : Nat) (h : i < st.Jobs.length), st.Jobs[i].Id = d.Job
  late : has j → st.Now < IntKind.i64.wrap (j.Start + j.Wall)
  mine : has j → ∃ (i : Nat) (h : i < st.Allocs.length), st.Allocs[i].Job = j.Id ∧ st.Allocs[i].Need = j.Need ∧ MineOk s j st.Allocs[i].Shares
instance hasDec (j : zad) : Decidable (has j) := inferInstanceAs (Decidable (_ ∨ _))
theorem has_iff (j : zad) : zdg 100 j = some (decide (has j)) := by
  unfold zdg
  congr 1
  rw [Bool.eq_iff_iff, decide_eq_true_iff]
  simp [has]
theorem ref_job {s : zab} {st : zag} (hf : FewW s st) (hs : SpecOk s) (ho : AllocsOk s st) {j : zad} (hj : j ∈ st.Jobs) : Ret (zea 100 s st j) fun b => b = true → JobOk s st j := by
  have f1 := hf.allocs
  have f2 := hf.jobs
  have f3 := hf.after j hj
  unfold zea
  refine (ref_job16 _ (by omega)).bind fun b hb => ?_
  rw [zar]
  refine ⟨fun _ => by simp [zaQ, zao], fun g1 => ?_⟩
  rw [zar]
  refine ⟨fun _ => by simp [zaQ, zao], fun g2 => ?_⟩
  rw [zar]
  refine ⟨fun _ => by simp [zaQ, zao], fun g3 => ?_⟩
  rw [zar]
  refine ⟨fun _ => by simp [zaQ, zao], fun g4 => ?_⟩
  rw [zar]
  refine ⟨fun _ => by simp [zaQ, zao], fun g5 => ?_⟩
  rw [zar]
  refine ⟨fun _ => by simp [zaQ, zao], fun g6 => ?_⟩
  unfold zaQ
  rw [zar]
  refine ⟨fun _ => by simp [zao], fun g7 => ?_⟩
  simp only [Bool.not_eq_true', Bool.not_eq_false, decide_eq_true_eq, Int.not_le] at g1 g4
  have hr := hb g1
  have k3 : ∀ x, Ret (zdl 100 s st j x) fun b => b = true → JobOk s st j := fun x => by
    unfold zdl
    refine (find14 st.Allocs j.Id (by omega)).bind fun r8 h8 => ?_
    rw [zar]
    refine ⟨fun _ => by simp [zds, zao], fun g8 => ?_⟩
    rw [has_iff, Option.bind_some]
    unfold zds
    rw [zar]
    refine ⟨fun _ => by simp [zao], fun g9 => ?_⟩
    have g9' : 0 ≤ r8 ↔ has j := by
      simp only [Bool.not_eq_true', beq_eq_false_iff_ne, ne_eq, Decidable.not_not] at g9
      rw [Bool.eq_iff_iff, decide_eq_true_iff, decide_eq_true_iff] at g9
      exact g9
    have hal : (∃ (i : Nat) (h : i < st.Allocs.length), st.Allocs[i].Job = j.Id) ↔ has j := by
      rw [← g9']
      rcases h8 with ⟨rfl, e⟩ | ⟨i, h, rfl, e⟩
      · exact ⟨fun ⟨i, h, e'⟩ => absurd e' (e _ (List.getElem_mem h)), fun h => absurd h (by decide)⟩
      · exact ⟨fun _ => by omega, fun _ => ⟨i, h, e⟩⟩
    rw [zar]
    refine ⟨fun g10 => ?_, fun g10 => ?_⟩
    · simp only [decide_eq_true_eq] at g10
      rw [zao]
      exact fun _ => ⟨hr, g4, hal, fun h => absurd h (by omega), fun h => by simp [has] at h; omega, fun h => by simp [has] at h; omega⟩
    · simp only [decide_eq_true_eq] at g10
      refine zfk j.After (fun _ d => ∃ (i : Nat) (h : i < st.Jobs.length), st.Jobs[i].Id = d.Job) (fun k i h _ hr => ?_) (fun k hq => ?_) (by omega)
      · simp only [zcM, zfA h, if_true, zaX h, Option.bind_some, wr1 (show i < 1000000 by omega)]
        refine (find17 st.Jobs _ (by omega)).bind fun r h17 => ?_
        rw [zar]
        refine ⟨fun _ => by simp [zao], fun g11 => hr ?_⟩
        rcases h17 with ⟨rfl, e⟩ | ⟨i, h, rfl, e⟩
        · exact absurd g11 (by decide)
        · exact ⟨i, h, e⟩
      · have hd := zeh (A := fun d : za4 => ∃ (i : Nat) (h : i < st.Jobs.length), st.Jobs[i].Id = d.Job) hq
        simp only [zcM, lt_f, Bool.false_eq_true, if_false]
        refine (ref_fits hf.spec hs _ _ _).bind fun b _ => ?_
        rw [zar]
        refine ⟨fun _ => by simp [zao], fun _ => ?_⟩
        rw [has_iff, Option.bind_some, zar]
        refine ⟨fun g11 => ?_, fun g11 => ?_⟩
        · simp only [zbI, zao]
          have : ¬has j := by simpa using g11
          exact fun _ => ⟨hr, g4, hal, fun _ => hd, fun h => absurd h this, fun h => absurd h this⟩
        · have hh : has j := by simpa using g11
          rw [zar]
          refine ⟨fun g12 => ?_, fun _ => by simp [zbI, zao]⟩
          rcases h8 with ⟨rfl, e⟩ | ⟨i, h, rfl, e⟩
          · exact absurd (g9'.2 hh) (by decide)
          · simp only [zaX h, Option.bind_some]
            rw [zar]
            refine ⟨fun g13 => ?_, fun _ => by simp [zbI, zao]⟩
            have ha := ho.one _ (List.getElem_mem h)
            refine (ref_mine hf.spec hs j ha.few ha.shares).bind fun b hb => ?_
            simp only [zbI, zao]
            simp only [decide_eq_true_eq] at g12 g13
            exact fun hbt => ⟨hr, g4, hal, fun _ => hd, fun _ => g12, fun _ => ⟨i, h, e, g13, hb hbt⟩⟩
  have k2 : ∀ x, Ret (zdy 100 s st j x) fun b => b = true → JobOk s st j := fun x => by
    unfold zdy
    rw [zar]
    exact ⟨fun _ => k3 _, fun _ => k3 _⟩
  have k1 : ∀ x, Ret (zdr 100 s st j x) fun b => b = true → JobOk s st j := fun x => by
    unfold zdr
    rw [zar]
    exact ⟨fun _ => k2 _, fun _ => k2 _⟩
  rw [zar]
  exact ⟨fun _ => k1 _, fun _ => k1 _⟩
structure SoundOk (s : zab) (st : zag) : Prop where
  spec : SpecOk s
  now : 0 ≤ st.Now ∧ st.Now ≤ 1099511627776
  allocs : AllocsOk s st
  books : ∀ b ∈ st.Books, Free st b.Node b.From
  use : (st.Use.length : Int) = s.Users ∧ ∀ x ∈ st.Use, 0 ≤ x ∧ x ≤ 1099511627776
  job : ∀ j ∈ st.Jobs, JobOk s st j
  up : ∀ i (h : i + 1 < st.Jobs.length), st.Jobs[i].Id < st.Jobs[i + 1].Id
theorem ref_sound {s : zab} {st : zag} (hf : FewW s st) : Ret (zc4 100 s st) fun b => b = true → SoundOk s st := by
  have f1 := hf.stamps
  have f2 := hf.jobs
  have f3 := hf.use
  unfold zc4
  refine (ref_Right hf.spec).bind fun b hb => ?_
  rw [zar]
  refine ⟨fun _ => by simp [zaK, zao], fun g1 => ?_⟩
  rw [zar]
  refine ⟨fun _ => by simp [zaK, zao], fun g2 => ?_⟩
  rw [zar]
  refine ⟨fun _ => by simp [zaK, zao], fun g3 => ?_⟩
  rw [zar]
  refine ⟨fun _ => by simp [zaK, zao], fun g4 => ?_⟩
  rw [zar]
  refine ⟨fun _ => by simp [zaK, zao], fun g5 => ?_⟩
  rw [zar]
  refine ⟨fun _ => by simp [zaK, zao], fun g6 => ?_⟩
  simp only [zbv, Option.bind_some]
  unfold zaK
  rw [zar]
  refine ⟨fun _ => by simp [zao], fun g7 => ?_⟩
  have hs := hb (by simpa using g1)
  rw [zar]
  refine ⟨fun _ => by simp [zaR, zao], fun g8 => ?_⟩
  refine (ref_allocs hf).bind fun b hb => ?_
  rw [zar]
  refine ⟨fun _ => by simp [zaR, zao], fun g9 => ?_⟩
  have ho := hb (by simpa using g9)
  refine (ref_books hf ho).bind fun b hb => ?_
  rw [zar]
  refine ⟨fun _ => by simp [zaR, zao], fun g10 => ?_⟩
  have hbk := hb (by simpa using g10)
  refine (ref_use _ _ (by omega)).bind fun b hb => ?_
  rw [zar]
  refine ⟨fun _ => by simp [zaR, zao], fun g11 => ?_⟩
  have hu := hb (by simpa using g11)
  rw [zar]
  refine ⟨fun _ => by simp [zaR, zao], fun g12 => ?_⟩
  simp only [zbv, Option.bind_some]
  unfold zaR
  rw [zar]
  refine ⟨fun _ => by simp [zao], fun g13 => ?_⟩
  simp only [decide_eq_true_eq] at g2 g3
  have l3 : Ret (za8 100 s st 100 0) fun b => b = true → SoundOk s st := by
    refine zfk st.Jobs (fun i j => JobOk s st j ∧ ∀ m (hj : m + 1 = i) (hi : m + 1 < st.Jobs.length), st.Jobs[m].Id < st.Jobs[m + 1].Id) (fun k i h _ hr => ?_) (fun k hq => ?_) (by omega)
    · have hd : decide ((i : Int) > 0) = decide (0 < i) := by simp
      simp only [za8, zfA h, if_true, zaX h, Option.bind_some, hd]
      refine (ref_job hf hs ho (List.getElem_mem h)).bind fun b hb => ?_
      rw [zar]
      refine ⟨fun _ => by simp [zbS, zao], fun g => ?_⟩
      have hjo := hb (by simpa using g)
      rw [zar]
      refine ⟨fun h5 => ?_, fun h5 => ?_⟩
      · simp only [decide_eq_true_eq] at h5
        obtain ⟨m, rfl⟩ : ∃ m, i = m + 1 := ⟨i - 1, by omega⟩
        rw [wp1 (show m + 1 < 1000000 by omega), zaX (show m < st.Jobs.length by omega), Option.bind_some]
        unfold zbS
        rw [zar]
        refine ⟨fun _ => by simp [zao], fun g0 => ?_⟩
        rw [wr1 (by omega)]
        simp only [decide_eq_true_eq] at g0
        refine hr ⟨hjo, fun j hj hi => ?_⟩
        cases hj
        omega
      · simp only [decide_eq_true_eq] at h5
        simp only [zbS, Bool.false_eq_true, if_false]
        rw [wr1 (by omega)]
        exact hr ⟨hjo, fun j hj => by omega⟩
    · simp only [za8, lt_f, Bool.false_eq_true, if_false, zao]
      exact fun _ => ⟨hs, by omega, ho, hbk, hu, zeh fun j hj => (hq j hj).1, fun i h => (hq (i + 1) h).2 i rfl h⟩
  refine zfk st.Stamps.Queues (fun _ _ => True) (fun k i h _ hr => ?_) (fun k hq => ?_) (by omega)
  · simp only [zcg, zfA h, if_true, zaX h, Option.bind_some, wr1 (show i < 1000000 by omega), zbv, zar]
    exact ⟨fun _ => by simp [zao], fun _ => hr trivial⟩
  · simp only [zcg, lt_f, Bool.false_eq_true, if_false]
    exact l3
end Go.Plain
