/- TyP9, TyPA, TyPB, TyPC, TyPD -/
import Derived.Test.YtijjegnedlhpfaaGreatLawA
set_option linter.all false
section
namespace Go.Plain
open Go.Abs
structure OneB (n : Int) (b : zai) : Prop where
  id : 1 ≤ b.Id ∧ b.Id ≤ 281474976710656
  node : 0 ≤ b.Node ∧ b.Node < n
  lo : 0 ≤ b.From
  span : b.From < b.To
  hi : b.To ≤ 1099511627776
structure MeetsB (b : zai) (node p q : Int) : Prop where
  node : b.Node = node
  span : b.From < b.To
  pq : p < q
  l : b.From < q
  r : p < b.To
structure BookIn (l : List zai) (n : Int) (i : Nat) (b : zai) : Prop where
  one : OneB n b
  up : ∀ x (h : x < l.length), x < i → l[x].Id < b.Id ∧ ¬ MeetsB l[x] b.Node b.From b.To
structure BooksOk (l : List zai) (n : Int) : Prop where
  len : l.length ≤ 16
  each : ∀ i (h : i < l.length), BookIn l n i l[i]
theorem book_meets (l : List zai) (node p q : Int) (hl : l.length ≤ 40) : zaS (book_Meets 100 l node p q) (∃ b ∈ l, MeetsB b node p q) := by
  simp only [book_Meets]
  refine lpA l (fun _ b => ¬ MeetsB b node p q) (fun i f hi _ hr => ?_) (fun f h => ?_) (by omega)
  · simp only [zcr hi, if_true, zan hi, Option.bind_some, wr1 (show i < 1000000 by omega), zad]
    have e : decide ((if p > l[i].From then p else l[i].From) < (if q < l[i].To then q else l[i].To)) = true ↔ l[i].From < l[i].To ∧ p < q ∧ l[i].From < q ∧ p < l[i].To := by
      rw [decide_eq_true_eq]
      split <;> split <;> omega
    rw [Bool.and_eq_true, e, beq_iff_eq]
    exact ⟨fun h => yes_t ⟨_, List.getElem_mem hi, ⟨h.1, h.2.1, h.2.2.1, h.2.2.2.1, h.2.2.2.2⟩⟩, fun h => hr fun m => h ⟨m.node, m.span, m.pq, m.l, m.r⟩⟩
  · simp only [zcd, Bool.false_eq_true, if_false]
    exact no_f fun ⟨b, hb, hm⟩ => zbx (A := fun b => ¬ MeetsB b node p q) h b hb hm
theorem ref_meets (l : List zai) (node p q : Int) (hl : l.length ≤ 40) : zaS (zbR 100 l node p q) (∃ b ∈ l, MeetsB b node p q) := by
  simp only [zbR]
  refine lpA l (fun _ b => ¬ MeetsB b node p q) (fun i f hi _ hr => ?_) (fun f h => ?_) (by omega)
  · simp only [zcr hi, if_true, zan hi, Option.bind_some, wr1 (show i < 1000000 by omega), zad]
    simp only [Bool.and_eq_true, decide_eq_true_eq, beq_iff_eq]
    exact ⟨fun h => yes_t ⟨_, List.getElem_mem hi, ⟨h.1.1.1.1, h.1.1.1.2, h.1.1.2, h.1.2, h.2⟩⟩, fun h => hr fun m => h ⟨⟨⟨⟨m.node, m.span⟩, m.pq⟩, m.l⟩, m.r⟩⟩
  · simp only [zcd, Bool.false_eq_true, if_false]
    exact no_f fun ⟨b, hb, hm⟩ => zbx (A := fun b => ¬ MeetsB b node p q) h b hb hm
theorem book_one (b : zai) (n : Int) : zaS (book_whole 100 b n) (OneB n b) := by
  simp only [book_whole, zaS, zac, Bool.and_eq_true, decide_eq_true_eq]
  exact ⟨fun h => ⟨by omega, by omega, by omega, by omega, by omega⟩, fun h => by have := h.id; have := h.node; have := h.lo; have := h.span; have := h.hi; omega⟩
theorem ref_one (b : zai) (n : Int) : zaS (zcL 100 b n) (OneB n b) := by
  simp only [zcL, zaE, Option.bind_some, zaS, zad, zac, Bool.and_eq_true, decide_eq_true_eq]
  refine ⟨fun h0 => ⟨fun h => ⟨by omega, by omega, by omega, by omega, by omega⟩, fun h => by have := h.id; have := h.node; have := h.lo; have := h.span; have := h.hi; omega⟩, fun h0 => ⟨fun h => by simp at h, fun h => by have := h.id; omega⟩⟩
theorem slice_take {α : Type} {l : List α} {i : Nat} (h : i ≤ l.length) : slice? l 0 (i : Int) = some (l.take i) := by
  unfold slice?
  rw [if_pos ⟨by omega, by omega, by omega⟩]
  simp
theorem take_mem {l : List zai} {i : Nat} {P : zai → Prop} : (∃ b ∈ l.take i, P b) ↔ ∃ x, ∃ h : x < l.length, x < i ∧ P l[x] := by
  constructor
  · rintro ⟨b, hb, hp⟩
    obtain ⟨x, hx, rfl⟩ := List.getElem_of_mem hb
    rw [List.length_take] at hx
    rw [List.getElem_take] at hp
    exact ⟨x, by omega, by omega, hp⟩
  · rintro ⟨x, hx, hxi, hp⟩
    have h2 : x < (l.take i).length := by rw [List.length_take]; omega
    refine ⟨(l.take i)[x], List.getElem_mem h2, ?_⟩
    rw [List.getElem_take]
    exact hp
theorem book_right (l : List zai) (n : Int) (hl : l.length ≤ 40) : zaS (book_Right 100 l n) (BooksOk l n) := by
  unfold book_Right
  rw [zaS, zad]
  refine ⟨fun h => no_f fun q => ?_, fun h => ?_⟩
  · have := q.len
    simp only [decide_eq_true_eq] at h
    omega
  · simp only [decide_eq_true_eq] at h
    refine lpA l (fun i b => BookIn l n i b) (fun i f hi hA hr => ?_) (fun f hA => ?_) (by omega)
    · have hd : decide ((i : Int) > 0) = decide (0 < i) := by simp
      simp only [zaZ, zcr hi, if_true, zan hi, Option.bind_some, wr1 (show i < 1000000 by omega), hd, slice_take (Nat.le_of_lt hi)]
      refine (book_one l[i] n).bind fun r hr1 => ?_
      rw [zad]
      refine ⟨fun h1 => no_f fun q => ?_, fun h1 => ?_⟩
      · have := hr1.2 (q.each i hi).one
        rw [this] at h1
        simp at h1
      · simp only [Bool.not_eq_true', Bool.not_eq_false] at h1
        have O := hr1.1 h1
        have fin : (∀ x (h : x < l.length), x < i → l[x].Id < l[i].Id) → Ret ((book_Meets 100 (l.take i) l[i].Node l[i].From l[i].To).bind fun r => if r = true then some false else f ((i + 1 : Nat) : Int)) (fun b => b = true ↔ BooksOk l n) := fun hup => by
          refine (book_meets (l.take i) _ _ _ (by rw [List.length_take]; omega)).bind fun r hr2 => ?_
          rw [take_mem] at hr2
          rw [zad]
          refine ⟨fun h2 => no_f fun q => ?_, fun h2 => hr ⟨O, fun x hx hxi => ⟨hup x hx hxi, fun m => h2 (hr2.2 ⟨x, hx, hxi, m⟩)⟩⟩⟩
          obtain ⟨x, hx, hxi, m⟩ := hr2.1 h2
          exact ((q.each i hi).up x hx hxi).2 m
        rw [zad]
        refine ⟨fun h2 => ?_, fun h2 => ?_⟩
        · simp only [decide_eq_true_eq] at h2
          obtain ⟨m, rfl⟩ : ∃ m, i = m + 1 := ⟨i - 1, by omega⟩
          have hm : m < l.length := by omega
          rw [wp1 (show m + 1 < 1000000 by omega), zan hm, Option.bind_some, zad]
          refine ⟨fun h3 => no_f fun q => ?_, fun h3 => fin fun x hx hxi => ?_⟩
          · have := ((q.each (m + 1) hi).up m hm (by omega)).1
            simp only [decide_eq_true_eq] at h3
            omega
          · simp only [decide_eq_true_eq] at h3
            rcases Nat.lt_or_eq_of_le (Nat.lt_succ_iff.1 hxi) with h' | h'
            · have := ((hA m hm (by omega)).up x hx h').1
              omega
            · subst h'; omega
        · simp only [decide_eq_true_eq] at h2
          exact fin fun x hx hxi => by omega
    · simp only [zcd, Bool.false_eq_true, if_false]
      exact yes_t ⟨by omega, fun i hi => hA i hi⟩
theorem slice_one {α : Type} {l : List α} {i : Nat} (h : i < l.length) : slice? l (i : Int) ((i + 1 : Nat) : Int) = some [l[i]] := by
  unfold slice?
  rw [if_pos ⟨by omega, by omega, by omega⟩]
  simp only [Int.toNat_natCast]
  rw [List.take_succ_eq_append_getElem h, List.drop_append_of_le_length (by rw [List.length_take]; omega), List.drop_eq_nil_of_le (by rw [List.length_take]; omega)]
  rfl
theorem ref_book (l : List zai) (n : Int) (hl : l.length ≤ 40) : zaS (zbV 100 l n) (BooksOk l n) := by
  unfold zbV
  refine lpA l (fun i b => BookIn l n i b) (fun i f hi hA hr => ?_) (fun f hA => ?_) (by omega)
  · simp only [zaZ, zcr hi, if_true, zan hi, Option.bind_some, wr1 (show i < 1000000 by omega)]
    refine (ref_one l[i] n).bind fun r hr1 => ?_
    rw [zad]
    refine ⟨fun h1 => no_f fun q => ?_, fun h1 => ?_⟩
    · have := hr1.2 (q.each i hi).one
      rw [this] at h1
      simp at h1
    · simp only [Bool.not_eq_true', Bool.not_eq_false] at h1
      have O := hr1.1 h1
      refine lpS i (fun x y => y = (x : Int) ∧ ∀ z (h : z < l.length), z < x → l[z].Id < l[i].Id ∧ ¬ MeetsB l[z] l[i].Node l[i].From l[i].To) (fun x y g hx hy hg => ?_) (fun y g hy => ?_) ⟨rfl, fun z h h' => by omega⟩ (by omega)
      · obtain ⟨rfl, hB⟩ := hy
        have hxl : x < l.length := by omega
        simp only [zcr hx, if_true, zan hxl, Option.bind_some, wr1 (show x < 1000000 by omega)]
        rw [zad]
        refine ⟨fun h2 => no_f fun q => ?_, fun h2 => ?_⟩
        · have := ((q.each i hi).up x hxl hx).1
          simp only [decide_eq_true_eq] at h2
          omega
        · simp only [decide_eq_true_eq] at h2
          rw [slice_one hxl, Option.bind_some]
          refine (ref_meets [l[x]] _ _ _ (by simp)).bind fun r hr2 => ?_
          simp only [List.mem_singleton, exists_eq_left] at hr2
          rw [zad]
          refine ⟨fun h3 => no_f fun q => ((q.each i hi).up x hxl hx).2 (hr2.1 h3), fun h3 => hg _ ⟨rfl, fun z hz hzx => ?_⟩⟩
          rcases Nat.lt_or_eq_of_le (Nat.lt_succ_iff.1 hzx) with h' | h'
          · exact hB z hz h'
          · subst h'; exact ⟨by omega, fun m => h3 (hr2.2 m)⟩
      · obtain ⟨rfl, hB⟩ := hy
        simp only [zcd, Bool.false_eq_true, if_false]
        exact hr ⟨O, hB⟩
  · simp only [zcd, Bool.false_eq_true, if_false, zac, decide_eq_true_eq]
    exact ⟨fun h => ⟨by omega, fun i hi => hA i hi⟩, fun q => by have := q.len; omega⟩
def ClashIn (st : zaf) (a : zae) : Prop := ∀ j ∈ st.Jobs, j.Id = a.Job → ∀ x ∈ a.Shares, ∀ b ∈ st.Books, b.Node = x.Node → ¬ b.From < j.Start + j.Wall
structure BookedOk (s : zab) (st : zaf) : Prop where
  books : BooksOk st.Books s.Nodes.length
  live : ∀ b ∈ st.Books, b.Id < st.Book ∧ st.Now < b.To
  clash : ∀ a ∈ st.Allocs, ClashIn st a
theorem bookings_ok {s : zab} {st : zaf} (hw : FewW s st) (J : JobsOk s st) (A : AllocsOk s st) : zaS (store_bookings 100 s st) (BookedOk s st) := by
  have hb := hw.books; have hj := hw.jobs; have hal := hw.allocs
  unfold store_bookings
  refine (book_right st.Books _ (by omega)).bind fun r hr1 => ?_
  rw [zad]
  refine ⟨fun h1 => no_f fun q => ?_, fun h1 => ?_⟩
  · have := hr1.2 q.books
    rw [this] at h1
    simp at h1
  · simp only [Bool.not_eq_true', Bool.not_eq_false] at h1
    have B := hr1.1 h1
    refine lpA st.Books (fun i b => b.Id < st.Book ∧ st.Now < b.To) (fun i f hi _ hr => ?_) (fun f hL => ?_) (by omega)
    · simp only [zcr hi, if_true, zan hi, Option.bind_some, wr1 (show i < 1000000 by omega)]
      rw [zad]
      simp only [Bool.or_eq_true, decide_eq_true_eq]
      exact ⟨fun h2 => no_f fun q => by have := q.live _ (List.getElem_mem hi); omega, fun h2 => hr (by omega)⟩
    · simp only [zcd, Bool.false_eq_true, if_false]
      refine lpA st.Allocs (fun i a => ClashIn st a) (fun i f hi _ hr => ?_) (fun f hC => ?_) (by omega)
      · simp only [zcr hi, if_true, zan hi, Option.bind_some, wr1 (show i < 1000000 by omega)]
        have ha := List.getElem_mem hi
        have hsh := hw.shares _ ha
        obtain ⟨j, hj1, P⟩ := A.mem _ ha
        have jin := J.each j hj1
        have jid := jin.ok.id; have jst := jin.ok.start; have jw := jin.ok.wall
        refine (find_ok (by omega) J.sorted (id := st.Allocs[i].Job) (by have := P.job; omega) J.ids).bind fun r2 hr2 => ?_
        rw [hr2.1.2 ⟨j, hj1, P.job.symm⟩, if_neg (by simp)]
        have at2 := hr2.2 (hr2.1.2 ⟨j, hj1, P.job.symm⟩)
        obtain ⟨r2a, r2b⟩ := r2
        dsimp only at at2 ⊢
        obtain ⟨hx, e⟩ := at_int (l := st.Jobs) at2.lo (by have := at2.lo; have := at2.hi; omega)
        have ej : st.Jobs[r2a.toNat] = j := by
          obtain ⟨m, hm, rfl⟩ := List.getElem_of_mem hj1
          have := J.sorted.inj hx hm (by rw [at2.is, P.job])
          subst this
          rfl
        rw [ej] at e
        rw [e]
        simp only [Option.bind_some]
        rw [wr (x := j.Start + j.Wall) (by omega) (by omega)]
        have pn := P.now
        refine lpA st.Allocs[i].Shares (fun _ x => ∀ b ∈ st.Books, b.Node = x.Node → ¬ b.From < j.Start + j.Wall) (fun m g hm _ hg => ?_) (fun g hG => ?_) (by omega)
        · simp only [zcr hm, if_true, zan hm, Option.bind_some, wr1 (show m < 1000000 by omega)]
          refine (book_meets st.Books _ _ _ (by omega)).bind fun r3 hr3 => ?_
          rw [zad]
          refine ⟨fun h4 => no_f fun q => ?_, fun h4 => hg fun b hb hn hf => h4 (hr3.2 ⟨b, hb, ?_⟩)⟩
          · obtain ⟨b, hb, mm⟩ := hr3.1 h4
            exact q.clash _ ha j hj1 P.job.symm _ (List.getElem_mem hm) b hb mm.node mm.l
          · obtain ⟨y, hy, rfl⟩ := List.getElem_of_mem hb
            have := hL y hy
            exact ⟨hn, (B.each y hy).one.span, pn, hf, this.2⟩
        · simp only [zcd, Bool.false_eq_true, if_false]
          refine hr fun j' hj' ej' x hx b hb => ?_
          have : j' = j := by
            obtain ⟨m, hm, rfl⟩ := List.getElem_of_mem hj1
            obtain ⟨m', hm', rfl⟩ := List.getElem_of_mem hj'
            have := J.sorted.inj hm' hm (by rw [ej', P.job])
            subst this
            rfl
          subst this
          exact zbx (A := fun x => ∀ b ∈ st.Books, b.Node = x.Node → ¬ b.From < j'.Start + j'.Wall) hG x hx b hb
      · simp only [zcd, Bool.false_eq_true, if_false]
        exact yes_t ⟨B, zbx hL, zbx hC⟩
structure SoundOk (s : zab) (st : zaf) : Prop where
  spec : SpecOk s
  nums : NumsOk s st
  jobs : JobsOk s st
  waits : ∀ j ∈ st.Jobs, Waits s st j
  allocs : AllocsOk s st
  booked : BookedOk s st
  use : UseOk s st
theorem sound_ok {s : zab} {st : zaf} (hw : FewW s st) : zaS (zbI 100 s st) (SoundOk s st) := by
  unfold zbI
  have step : ∀ {o : Option Bool} {P : Prop} {k : Option Bool}, zaS o P → (SoundOk s st → P) → (P → zaS k (SoundOk s st)) → zaS (o.bind fun r => if r = true then k else some false) (SoundOk s st) := fun h1 h2 h3 =>
    h1.bind fun r hr => zad.2 ⟨fun h => h3 (hr.1 h), fun h => no_f fun q => h (hr.2 (h2 q))⟩
  refine step (spec_right s hw.spec) (fun q => q.spec) fun k => ?_
  refine step (numbers_ok k st) (fun q => q.nums) fun h1 => ?_
  refine step (jobs_ok k hw) (fun q => q.jobs) fun h2 => ?_
  refine step (waiting_ok k hw h2) (fun q => q.waits) fun h3 => ?_
  refine step (allocations_ok k hw h2) (fun q => q.allocs) fun h4 => ?_
  refine step (bookings_ok hw h2 h4) (fun q => q.booked) fun h5 => ?_
  refine (usage_ok hw).bind fun r hr => ?_
  rw [zac, hr]
  exact ⟨fun h6 => ⟨k, h1, h2, h3, h4, h5, h6⟩, fun q => q.use⟩
end Go.Plain
end
section
namespace Go.Plain
open Go.Abs
def usedC (A : List zae) (i : Int) (c : Nat) : Int := (A.map fun a => onV a.Shares i * cmp c a.Need).sum
theorem usedC_cons {a : zae} {A : List zae} {i : Int} {c : Nat} : usedC (a :: A) i c = onV a.Shares i * cmp c a.Need + usedC A i c := by simp [usedC]
theorem usedC_take {A : List zae} {k : Nat} (h : k < A.length) (i : Int) (c : Nat) : usedC (A.take (k + 1)) i c = usedC (A.take k) i c + onV A[k].Shares i * cmp c A[k].Need := by
  rw [List.take_succ_eq_append_getElem h]
  simp only [usedC, List.map_append, List.map_cons, List.map_nil, List.sum_append, List.sum_cons, List.sum_nil]
  omega
def GoodA (n : Int) (A : List zae) : Prop := ∀ a ∈ A, SharesOk a.Shares n ∧ VecOk a.Need
theorem one_bd {n : Int} {a : zae} (h : SharesOk a.Shares n ∧ VecOk a.Need) (i : Int) (c : Nat) : 0 ≤ onV a.Shares i * cmp c a.Need ∧ onV a.Shares i * cmp c a.Need ≤ 67108864 :=
  mul_bd (onV_one h.1 i) (vec_iff.1 h.2 c)
theorem used_bd {n : Int} {A : List zae} (h : GoodA n A) (i : Int) (c : Nat) : 0 ≤ usedC A i c ∧ usedC A i c ≤ 67108864 * A.length := by
  induction A with
  | nil => simp [usedC]
  | cons a A ih =>
    have h1 := ih fun b hb => h b (List.mem_cons_of_mem _ hb)
    have h2 := one_bd (h a (List.mem_cons_self ..)) i c
    rw [usedC_cons, List.length_cons]
    omega
def TotFit (F : List zaa) (A : List zae) : Prop := ∀ i (h : i < F.length) c, usedC A i c ≤ cmp c F[i]
theorem ref_times {a : zaa} {n : Int} (ha : VecOk a) (hn : 0 ≤ n ∧ n ≤ 64) : zb1 100 a n = some (mulR n a) := by
  obtain ⟨m, rfl⟩ : ∃ m : Nat, n = (m : Int) := ⟨n.toNat, by omega⟩
  unfold zb1
  refine Ret.eq (lpS m (fun k x => x = ((k : Int), (k : Int) * a.Cpu, (k : Int) * a.Mem, (k : Int) * a.Gpu, (k : Int) * a.Lic)) (fun k x f hk hx hr => ?_) (fun x f hx => ?_) (by simp) (by omega))
  · subst hx
    have b1 := mul_bd (n := ((k + 1 : Nat) : Int)) (by omega) ha.cpu
    have b2 := mul_bd (n := ((k + 1 : Nat) : Int)) (by omega) ha.mem
    have b3 := mul_bd (n := ((k + 1 : Nat) : Int)) (by omega) ha.gpu
    have b4 := mul_bd (n := ((k + 1 : Nat) : Int)) (by omega) ha.lic
    have e : ∀ x : Int, ((k + 1 : Nat) : Int) * x = (k : Int) * x + x := fun x => by rw [Int.natCast_add, Int.add_mul]; simp
    rw [e] at b1 b2 b3 b4
    simp only [zcr hk, if_true, za6, Option.bind_some, wr1 (show k < 1000000 by omega)]
    refine hr _ ?_
    rw [wr (x := (k : Int) * a.Cpu + a.Cpu) (by omega) (by omega), wr (x := (k : Int) * a.Mem + a.Mem) (by omega) (by omega), wr (x := (k : Int) * a.Gpu + a.Gpu) (by omega) (by omega), wr (x := (k : Int) * a.Lic + a.Lic) (by omega) (by omega), e, e, e, e]
  · subst hx
    simp only [zcd, Bool.false_eq_true, if_false, zac]
    rfl
theorem fits_cmp (a b : zaa) : zaS (zat 100 a b) (∀ c, cmp c a ≤ cmp c b) := by
  simp only [zat, zaS, zac, Bool.and_eq_true, decide_eq_true_eq]
  constructor
  · intro h c
    match c with
    | 0 => exact h.1.1.1
    | 1 => exact h.1.1.2
    | 2 => exact h.1.2
    | _ + 3 => exact h.2
  · intro h
    exact ⟨⟨⟨h 0, h 1⟩, h 2⟩, h 3⟩
theorem ref_left {F : List zaa} {A : List zae} (hF : F.length ≤ 40) (hA : A.length ≤ 40) (hs : ∀ a ∈ A, a.Shares.length ≤ 40) {n : Int} (h : GoodA n A) : Ret (zco 100 F A) fun r => r.2 = true ↔ TotFit F A := by
  unfold zco
  refine lpS F.length (fun i x => (x.1 = true ↔ ∀ m (h : m < F.length), m < i → ∀ c, usedC A m c ≤ cmp c F[m]) ∧ x.2.1 = (i : Int) ∧ x.2.2.length = i) (fun i x f hi hx hr => ?_) (fun x f hx => ?_) ⟨⟨fun _ m h h' => by omega, fun _ => rfl⟩, rfl, rfl⟩ (by omega)
  · obtain ⟨x1, x2, x3⟩ := x
    obtain ⟨h1, h2, h3⟩ := hx
    dsimp only at h1 h2 h3
    subst h2
    simp only [zcr hi, if_true]
    refine lpS A.length (fun k y => y = ((k : Int), usedC (A.take k) i 0, usedC (A.take k) i 1, usedC (A.take k) i 2, usedC (A.take k) i 3)) (fun k y g hk hy hg => ?_) (fun y g hy => ?_) (by simp [usedC]) (by omega)
    · subst hy
      have ak := h _ (List.getElem_mem hk)
      have gk : GoodA n (A.take (k + 1)) := fun a ha => h a (List.mem_of_mem_take ha)
      have lk : ((A.take (k + 1)).length : Int) ≤ 40 := by rw [List.length_take]; omega
      have b0 := used_bd gk i 0; have b1 := used_bd gk i 1; have b2 := used_bd gk i 2; have b3 := used_bd gk i 3
      rw [usedC_take hk] at b0 b1 b2 b3
      simp only [zcr hk, if_true, zan hk, Option.bind_some, ref_on (hs _ (List.getElem_mem hk)) ak.1, ref_times ak.2 (onV_one ak.1 i), za6, wr1 (show k < 1000000 by omega)]
      refine hg _ ?_
      rw [usedC_take hk, usedC_take hk, usedC_take hk, usedC_take hk]
      have e0 : (mulR (onV A[k].Shares i) A[k].Need).Cpu = onV A[k].Shares i * cmp 0 A[k].Need := rfl
      have e1 : (mulR (onV A[k].Shares i) A[k].Need).Mem = onV A[k].Shares i * cmp 1 A[k].Need := rfl
      have e2 : (mulR (onV A[k].Shares i) A[k].Need).Gpu = onV A[k].Shares i * cmp 2 A[k].Need := rfl
      have e3 : (mulR (onV A[k].Shares i) A[k].Need).Lic = onV A[k].Shares i * cmp 3 A[k].Need := rfl
      rw [e0, e1, e2, e3, wr (x := _ + onV A[k].Shares i * cmp 0 A[k].Need) (by omega) (by omega), wr (x := _ + onV A[k].Shares i * cmp 1 A[k].Need) (by omega) (by omega), wr (x := _ + onV A[k].Shares i * cmp 2 A[k].Need) (by omega) (by omega), wr (x := _ + onV A[k].Shares i * cmp 3 A[k].Need) (by omega) (by omega)]
    · subst hy
      have ap : ∀ z : zaa, app? x3 [z] = some (x3 ++ [z]) := fun z => app_ok (by simp only [List.length_singleton]; omega)
      simp only [zcd, Bool.false_eq_true, if_false, zaZ, zan hi, Option.bind_some, drayageref02xSub, ap, wr1 (show i < 1000000 by omega), List.take_length]
      rw [zad]
      refine ⟨fun hx1 => ?_, fun hx1 => ?_⟩
      · refine (fits_cmp _ _).bind fun r hr1 => ?_
        refine hr _ ⟨?_, rfl, by simp only [List.length_append, List.length_singleton]; omega⟩
        dsimp only
        rw [hr1]
        have ec : ∀ c, cmp c ({ Cpu := usedC A i 0, Mem := usedC A i 1, Gpu := usedC A i 2, Lic := usedC A i 3 } : zaa) = usedC A i (min c 3) := fun c => by
          match c with
          | 0 => rfl
          | 1 => rfl
          | 2 => rfl
          | c + 3 => rw [Nat.min_eq_right (by omega)]; rfl
        have eu : ∀ c, usedC A i (min c 3) = usedC A i c := fun c => by
          match c with
          | 0 => rfl
          | 1 => rfl
          | 2 => rfl
          | c + 3 => rw [Nat.min_eq_right (by omega)]; rfl
        constructor
        · intro hc m hm hmi c
          rcases Nat.lt_or_eq_of_le (Nat.lt_succ_iff.1 hmi) with h' | h'
          · exact h1.1 hx1 m hm h' c
          · subst h'
            have := hc c
            rwa [ec, eu] at this
        · intro hc c
          rw [ec, eu]
          exact hc i hi (by omega) c
      · refine hr _ ⟨?_, rfl, by simp only [List.length_append, List.length_singleton]; omega⟩
        dsimp only
        simp only [Bool.false_eq_true, false_iff]
        intro hc
        exact hx1 (h1.2 fun m hm hmi => hc m hm (by omega))
  · obtain ⟨x1, x2, x3⟩ := x
    obtain ⟨h1, h2, h3⟩ := hx
    dsimp only at h1 h2 h3
    subst h2
    simp only [zcd, Bool.false_eq_true, if_false, zac]
    rw [h1]
    exact ⟨fun q i hi c => q i hi hi c, fun q i hi _ c => q i hi c⟩
structure AllocIn (s : zab) (st : zaf) (i : Nat) (a : zae) : Prop where
  up : ∀ m (h : m < st.Allocs.length), m + 1 = i → st.Allocs[m].Job < a.Job
  job : ∃ j ∈ st.Jobs, j.Id = a.Job
  shares : SharesOk a.Shares s.Nodes.length
  need : VecOk a.Need
structure zb9 (s : zab) (st : zaf) : Prop where
  each : ∀ i (h : i < st.Allocs.length), AllocIn s st i st.Allocs[i]
  fit : TotFit s.Nodes st.Allocs
theorem zb9.good {s : zab} {st : zaf} (h : zb9 s st) : GoodA s.Nodes.length st.Allocs := fun a ha => by
  obtain ⟨i, hi, rfl⟩ := List.getElem_of_mem ha
  exact ⟨(h.each i hi).shares, (h.each i hi).need⟩
theorem ref_allocs {s : zab} {st : zaf} (hw : FewW s st) : zaS (zbK 100 s st) (zb9 s st) := by
  have hl := hw.jobs; have hal := hw.allocs; have hn := hw.spec.nodes
  unfold zbK
  refine lpA st.Allocs (fun i a => AllocIn s st i a) (fun i f hi hA hr => ?_) (fun f hA => ?_) (by omega)
  · have hd : decide ((i : Int) > 0) = decide (0 < i) := by simp
    have hsh := hw.shares _ (List.getElem_mem hi)
    have fin : (∀ m (h : m < st.Allocs.length), m + 1 = i → st.Allocs[m].Job < st.Allocs[i].Job) → Ret ((zaK 100 st.Jobs st.Allocs[i].Job).bind fun r =>
        if decide (r < 0) = true then some false else (zaQ 100 st.Allocs[i].Shares (s.Nodes.length : Int)).bind fun r' =>
        if (!r') = true then some false else (zaw 100 st.Allocs[i].Need).bind fun r'' => if (!r'') = true then some false else f ((i + 1 : Nat) : Int)) (fun b => b = true ↔ zb9 s st) := fun hup => by
      refine (ref_find (by omega) st.Allocs[i].Job).bind fun r hr1 => ?_
      rw [zad]
      refine ⟨fun h => no_f fun q => ?_, fun h => ?_⟩
      · have := hr1.1.2 (q.each i hi).job
        simp only [decide_eq_true_eq] at h
        omega
      · simp only [decide_eq_true_eq] at h
        refine (ref_place _ _ hsh).bind fun r' hr2 => ?_
        rw [zad]
        refine ⟨fun h => no_f fun q => ?_, fun h2 => ?_⟩
        · have := hr2.2 (q.each i hi).shares
          rw [this] at h
          simp at h
        · simp only [Bool.not_eq_true', Bool.not_eq_false] at h2
          refine (ref_vec _).bind fun r'' hr3 => ?_
          rw [zad]
          refine ⟨fun h => no_f fun q => ?_, fun h3 => ?_⟩
          · have := hr3.2 (q.each i hi).need
            rw [this] at h
            simp at h
          · simp only [Bool.not_eq_true', Bool.not_eq_false] at h3
            exact hr ⟨hup, hr1.1.1 (by omega), hr2.1 h2, hr3.1 h3⟩
    simp only [zaZ, zcr hi, if_true, zan hi, Option.bind_some, wr1 (show i < 1000000 by omega), hd]
    rw [zad]
    refine ⟨fun h => ?_, fun h => ?_⟩
    · simp only [decide_eq_true_eq] at h
      obtain ⟨m, rfl⟩ : ∃ m, i = m + 1 := ⟨i - 1, by omega⟩
      rw [wp1 (show m + 1 < 1000000 by omega), zan (show m < st.Allocs.length by omega), Option.bind_some, zad]
      refine ⟨fun h2 => no_f fun q => ?_, fun h2 => fin fun m' hm' e => ?_⟩
      · have := (q.each (m + 1) hi).up m (by omega) rfl
        simp only [decide_eq_true_eq] at h2
        omega
      · simp only [decide_eq_true_eq] at h2
        have : m' = m := by omega
        subst this
        omega
    · simp only [decide_eq_true_eq] at h
      exact fin fun m hm e => by omega
  · simp only [zcd, Bool.false_eq_true, if_false]
    have G : GoodA s.Nodes.length st.Allocs := fun a ha => by
      obtain ⟨j, hj, rfl⟩ := List.getElem_of_mem ha
      exact ⟨(hA j hj).shares, (hA j hj).need⟩
    refine (ref_left (by omega) hal hw.shares G).bind fun r hr => ?_
    rw [zac, hr]
    exact ⟨fun h => ⟨fun i hi => hA i hi, h⟩, fun h => h.fit⟩
theorem asc_pw {l : List Int} (h : ∀ i (h : i + 1 < l.length), l[i] < l[i + 1]) : l.Pairwise (· < ·) := by
  rw [List.pairwise_iff_getElem]
  intro i j hi hj hij
  induction j with
  | zero => omega
  | succ j ih =>
    have h1 := h j hj
    rcases Nat.lt_or_eq_of_le (Nat.lt_succ_iff.1 hij) with h2 | h2
    · have := ih (by omega) h2; omega
    · subst h2; exact h1
theorem asc_eq {l m : List Int} (hl : l.Pairwise (· < ·)) (hm : m.Pairwise (· < ·)) (h : ∀ x, x ∈ l ↔ x ∈ m) : l = m := by
  induction l generalizing m with
  | nil =>
    cases m with
    | nil => rfl
    | cons y m => exact absurd ((h y).2 (List.mem_cons_self ..)) (by simp)
  | cons x l ih =>
    cases m with
    | nil => exact absurd ((h x).1 (List.mem_cons_self ..)) (by simp)
    | cons y m =>
      rw [List.pairwise_cons] at hl hm
      have e : x = y := by
        rcases List.mem_cons.1 ((h x).1 (List.mem_cons_self ..)) with e | h1
        · exact e
        · rcases List.mem_cons.1 ((h y).2 (List.mem_cons_self ..)) with e | h2
          · exact e.symm
          · have := hl.1 y h2; have := hm.1 x h1; omega
      subst e
      congr 1
      refine ih hl.2 hm.2 fun z => ⟨fun hz => ?_, fun hz => ?_⟩
      · rcases List.mem_cons.1 ((h z).1 (List.mem_cons_of_mem _ hz)) with e | h1
        · have := hl.1 z hz; omega
        · exact h1
      · rcases List.mem_cons.1 ((h z).2 (List.mem_cons_of_mem _ hz)) with e | h1
        · have := hm.1 z hz; omega
        · exact h1
theorem allocsH_fwd {s : zab} {st : zaf} {H : List zag} {A : List zae} {F : List zaa} (h : AllocsH s st H A F) (hF : ∀ r ∈ F, VecOk r) : A.map (·.Job) = H.map (·.Id) ∧ TotFit F A := by
  induction H generalizing A F with
  | nil =>
    rw [show A = [] from h]
    exact ⟨rfl, fun i hi c => by simp only [usedC, List.map_nil, List.sum_nil]; exact (vec_iff.1 (hF _ (List.getElem_mem hi)) c).1⟩
  | cons j H ih =>
    obtain ⟨a, A', rfl, h1, h2, h3⟩ := h
    obtain ⟨i1, i2⟩ := ih h3 (takeA_ok h2)
    refine ⟨by rw [List.map_cons, List.map_cons, i1, h1.job], fun i hi c => ?_⟩
    have := i2 i (by rw [takeA_len]; exact hi) c
    rw [takeA_at, leftA, cmp_sub, cmp_mul] at this
    rw [usedC_cons]
    omega
theorem allocsH_bwd {s : zab} {st : zaf} {n : Int} {H : List zag} {A : List zae} {F : List zaa} (he : A.map (·.Job) = H.map (·.Id)) (hF : ∀ r ∈ F, VecOk r) (hp : ∀ a ∈ A, ∀ j ∈ H, a.Job = j.Id → PairOk s st j a) (hg : GoodA n A) (hf : TotFit F A) : AllocsH s st H A F := by
  induction H generalizing A F with
  | nil =>
    cases A with
    | nil => rfl
    | cons a A => cases he
  | cons j H ih =>
    cases A with
    | nil => cases he
    | cons a A =>
      rw [List.map_cons, List.map_cons] at he
      have he1 : a.Job = j.Id := by injection he
      have he2 : A.map (·.Job) = H.map (·.Id) := by injection he
      have ga := hg a (List.mem_cons_self ..)
      have gA : GoodA n A := fun b hb => hg b (List.mem_cons_of_mem _ hb)
      have fa : FitsA F a := fun i hi => vec_iff.2 fun c => by
        have h1 := hf i hi c
        have h2 := one_bd ga i c
        have h3 := used_bd gA i c
        have h4 := vec_iff.1 (hF _ (List.getElem_mem hi)) c
        rw [usedC_cons] at h1
        rw [leftA, cmp_sub, cmp_mul]
        omega
      refine ⟨a, A, rfl, hp a (List.mem_cons_self ..) j (List.mem_cons_self ..) he1, fa, ih he2 (takeA_ok fa) (fun b hb k hk => hp b (List.mem_cons_of_mem _ hb) k (List.mem_cons_of_mem _ hk)) gA fun i hi c => ?_⟩
      have h1 := hf i (by rwa [takeA_len] at hi) c
      rw [takeA_at, leftA, cmp_sub, cmp_mul]
      rw [usedC_cons] at h1
      omega
theorem jobs_pw {s : zab} {st : zaf} (J : JobsOk s st) : ((st.Jobs.filter hasJ).map (·.Id)).Pairwise (· < ·) := by
  have h : (st.Jobs.map (·.Id)).Pairwise (· < ·) := asc_pw fun i hi => by
    rw [List.getElem_map, List.getElem_map]
    exact J.sorted i (by simpa using hi)
  rw [List.pairwise_map] at h ⊢
  exact h.filter _
structure HasIn (s : zab) (st : zaf) (j : zag) : Prop where
  has : (∃ a ∈ st.Allocs, a.Job = j.Id) ↔ hasJ j = true
  mine : ∀ a ∈ st.Allocs, a.Job = j.Id → PairOk s st j a
theorem to_ref {s : zab} {st : zaf} (k : SpecOk s) (J : JobsOk s st) (A : AllocsOk s st) : zb9 s st ∧ ∀ j ∈ st.Jobs, HasIn s st j := by
  obtain ⟨h1, h2⟩ := allocsH_fwd A k.nodes.ok
  have pw := jobs_pw J
  rw [← h1] at pw
  have uniq : ∀ j ∈ st.Jobs, ∀ j' ∈ st.Jobs, j.Id = j'.Id → j = j' := fun j hj j' hj' e => by
    obtain ⟨m, hm, rfl⟩ := List.getElem_of_mem hj
    obtain ⟨m', hm', rfl⟩ := List.getElem_of_mem hj'
    have := J.sorted.inj hm hm' e
    subst this
    rfl
  refine ⟨⟨fun i hi => ?_, h2⟩, fun j hj => ⟨⟨fun ⟨a, ha, e⟩ => ?_, fun hh => ?_⟩, fun a ha e => ?_⟩⟩
  · obtain ⟨j, hj, P⟩ := A.mem _ (List.getElem_mem hi)
    refine ⟨fun m hm e => ?_, ⟨j, hj, P.job.symm⟩, P.suits.shares, by rw [P.need]; exact (J.each j hj).ok.need⟩
    have := List.pairwise_iff_getElem.1 pw m i (by simpa using hm) (by simpa using hi) (by omega)
    simpa using this
  · have : a.Job ∈ st.Allocs.map (·.Job) := List.mem_map.2 ⟨a, ha, rfl⟩
    rw [h1] at this
    obtain ⟨j', hj', e'⟩ := List.mem_map.1 this
    obtain ⟨hj1, hj2⟩ := List.mem_filter.1 hj'
    have : j' = j := uniq _ hj1 _ hj (by rw [e', e])
    subst this
    exact hj2
  · have : j.Id ∈ (st.Jobs.filter hasJ).map (·.Id) := List.mem_map.2 ⟨j, List.mem_filter.2 ⟨hj, hh⟩, rfl⟩
    rw [← h1] at this
    obtain ⟨a, ha, e⟩ := List.mem_map.1 this
    exact ⟨a, ha, e⟩
  · obtain ⟨j', hj', P⟩ := A.mem a ha
    have : j' = j := uniq _ hj' _ hj (by rw [← P.job, e])
    subst this
    exact P
theorem of_ref {s : zab} {st : zaf} (k : SpecOk s) (J : JobsOk s st) (R : zb9 s st) (h : ∀ j ∈ st.Jobs, HasIn s st j) : AllocsOk s st := by
  have pw : (st.Allocs.map (·.Job)).Pairwise (· < ·) := asc_pw fun i hi => by
    rw [List.getElem_map, List.getElem_map]
    exact (R.each (i + 1) (by simpa using hi)).up i (by simp at hi; omega) rfl
  refine allocsH_bwd (n := s.Nodes.length) (asc_eq pw (jobs_pw J) fun x => ⟨fun hx => ?_, fun hx => ?_⟩) k.nodes.ok (fun a ha j hj e => (h j (List.mem_filter.1 hj).1).mine a ha e) R.good R.fit
  · obtain ⟨a, ha, rfl⟩ := List.mem_map.1 hx
    obtain ⟨i, hi, rfl⟩ := List.getElem_of_mem ha
    obtain ⟨j, hj, e⟩ := (R.each i hi).job
    exact List.mem_map.2 ⟨j, List.mem_filter.2 ⟨hj, (h j hj).has.1 ⟨_, ha, e.symm⟩⟩, e⟩
  · obtain ⟨j, hj, rfl⟩ := List.mem_map.1 hx
    obtain ⟨a, ha, e⟩ := (h j (List.mem_filter.1 hj).1).has.2 (List.mem_filter.1 hj).2
    exact List.mem_map.2 ⟨a, ha, e⟩
end Go.Plain
end
section
namespace Go.Plain
open Go.Abs
theorem jn_ite {X R : Type} {r : X → Option R} {c : Prop} [Decidable c] {a b : X} : jn r (fun j => if c then j a else j b) = r (if c then a else b) := by
  unfold jn
  split <;> rfl
theorem onV_pos {l : List zaj} {n : Int} (h : SharesOk l n) {i : Int} : onV l i > 0 ↔ ∃ x ∈ l, x.Node = i := by
  have hm : ∀ x ∈ l, 1 ≤ x.Many := fun x hx => (h.mem x hx).2.2.1
  clear h
  induction l with
  | nil => simp [onV]
  | cons y l ih =>
    have h1 := ih fun x hx => hm x (List.mem_cons_of_mem _ hx)
    have h2 := hm y (List.mem_cons_self ..)
    have h3 := onV_nn (l := l) (fun x hx => by have := hm x (List.mem_cons_of_mem _ hx); omega) i
    have e : onV (y :: l) i = (if y.Node = i then y.Many else 0) + onV l i := by simp [onV]
    rw [e]
    constructor
    · intro hp
      by_cases hy : y.Node = i
      · exact ⟨y, List.mem_cons_self .., hy⟩
      · rw [if_neg hy] at hp
        obtain ⟨x, hx, e⟩ := h1.1 (by omega)
        exact ⟨x, List.mem_cons_of_mem _ hx, e⟩
    · rintro ⟨x, hx, e2⟩
      rcases List.mem_cons.1 hx with rfl | hx
      · rw [if_pos e2]; omega
      · have := h1.2 ⟨x, hx, e2⟩
        split <;> omega
def TakenBy (st : zaf) (node frm : Int) (a : zae) : Prop := ∃ j ∈ st.Jobs, j.Id = a.Job ∧ (∃ x ∈ a.Shares, x.Node = node) ∧ frm < j.Start + j.Wall
theorem ref_taken {s : zab} {st : zaf} (hw : FewW s st) (R : zb9 s st) (node frm : Int) : Ret (zb0 100 st node frm) fun b => JobsOk s st → (b = true ↔ ∃ a ∈ st.Allocs, TakenBy st node frm a) := by
  have hl := hw.jobs; have hal := hw.allocs
  unfold zb0
  refine lpA st.Allocs (fun i a => JobsOk s st → ¬ TakenBy st node frm a) (fun i f hi hA hr => ?_) (fun f hA => ?_) (by omega)
  · simp only [zaZ, zcr hi, if_true, zan hi, Option.bind_some, wr1 (show i < 1000000 by omega)]
    have ha := List.getElem_mem hi
    refine (ref_find (by omega) st.Allocs[i].Job).bind fun r hr1 => ?_
    rw [zad]
    refine ⟨fun h => ?_, fun h => ?_⟩
    · simp only [decide_eq_true_eq] at h
      have at1 := hr1.2.1 h
      have S := (R.each i hi).shares
      obtain ⟨hx, e⟩ := at_int (l := st.Jobs) at1.lo (by have := at1.lo; have := at1.hi; omega)
      have hj := List.getElem_mem hx
      have fin : Ret (if decide (IntKind.i64.wrap (st.Jobs[r.toNat].Start + st.Jobs[r.toNat].Wall) > frm) = true then some true else f ((i + 1 : Nat) : Int)) (fun b => (∃ x ∈ st.Allocs[i].Shares, x.Node = node) → JobsOk s st → (b = true ↔ ∃ a ∈ st.Allocs, TakenBy st node frm a)) := by
        rw [zad]
        refine ⟨fun h2 => ?_, fun h2 => ?_⟩
        · rw [zac]
          intro hsx J
          have jo := (J.each _ hj).ok
          have := jo.start; have := jo.wall
          rw [wr (by omega) (by omega)] at h2
          simp only [decide_eq_true_eq] at h2
          exact ⟨fun _ => ⟨_, ha, _, hj, at1.is, hsx, h2⟩, fun _ => rfl⟩
        · refine (hr fun J tk => ?_).mono fun b hb _ => hb
          obtain ⟨j, hj2, e2, -, h3⟩ := tk
          have : j = st.Jobs[r.toNat] := by
            obtain ⟨m, hm, rfl⟩ := List.getElem_of_mem hj2
            have := J.sorted.inj hm hx (by rw [e2, at1.is])
            subst this
            rfl
          subst this
          have jo := (J.each _ hj).ok
          have := jo.start; have := jo.wall
          rw [wr (by omega) (by omega)] at h2
          simp only [decide_eq_true_eq] at h2
          omega
      rw [ref_on (hw.shares _ ha) S, Option.bind_some, e, zad]
      simp only [Option.bind_some]
      refine ⟨fun h2 => ?_, fun h2 => ?_⟩
      · simp only [decide_eq_true_eq] at h2
        exact fin.mono fun b hb => hb ((onV_pos S).1 h2)
      · simp only [decide_eq_true_eq] at h2
        rw [if_neg (by simp)]
        exact hr fun J ⟨j, hj2, e2, hx2, h3⟩ => h2 ((onV_pos S).2 hx2)
    · simp only [decide_eq_true_eq] at h
      rw [if_neg (by simp)]
      exact hr fun J ⟨j, hj2, e2, hx2, h3⟩ => by have := hr1.1.2 ⟨j, hj2, e2⟩; omega
  · simp only [zcd, Bool.false_eq_true, if_false, zac, false_iff]
    rintro J ⟨a, ha, tk⟩
    exact zbx (A := fun a => JobsOk s st → ¬ TakenBy st node frm a) hA a ha J tk
theorem ref_books {s : zab} {st : zaf} (hw : FewW s st) (R : zb9 s st) : Ret (zbU 100 s st) fun b => JobsOk s st → (b = true ↔ BookedOk s st) := by
  have hl := hw.books
  unfold zbU
  refine lpA st.Books (fun i b => (b.Id < st.Book ∧ st.Now < b.To) ∧ (JobsOk s st → ¬ ∃ a ∈ st.Allocs, TakenBy st b.Node b.From a)) (fun i f hi hA hr => ?_) (fun f hA => ?_) (by omega)
  · simp only [zaZ, zcr hi, if_true, zan hi, Option.bind_some, wr1 (show i < 1000000 by omega)]
    have hb := List.getElem_mem hi
    rw [zad]
    refine ⟨fun h => ?_, fun h => ?_⟩
    · rw [zac]
      intro J
      simp only [Bool.or_eq_true, decide_eq_true_eq] at h
      simp only [Bool.false_eq_true, false_iff]
      exact fun q => by have := q.live _ hb; omega
    · simp only [Bool.or_eq_true, decide_eq_true_eq] at h
      refine (ref_taken hw R _ _).bind fun r hr1 => ?_
      rw [zad]
      refine ⟨fun h2 => ?_, fun h2 => hr ⟨by omega, fun J => fun q => h2 ((hr1 J).2 q)⟩⟩
      rw [zac]
      intro J
      simp only [Bool.false_eq_true, false_iff]
      intro q
      obtain ⟨a, ha, j, hj, e, ⟨x, hx, en⟩, hf⟩ := (hr1 J).1 h2
      exact q.clash a ha j hj e x hx _ hb en.symm hf
  · simp only [zcd, Bool.false_eq_true, if_false]
    refine (ref_book _ _ (by omega)).bind fun r hr => ?_
    rw [zac]
    intro J
    rw [hr]
    refine ⟨fun h => ⟨h, fun b hb => ?_, fun a ha j hj e x hx b hb en hf => ?_⟩, fun q => q.books⟩
    · obtain ⟨m, hm, rfl⟩ := List.getElem_of_mem hb
      exact (hA m hm).1
    · obtain ⟨m, hm, rfl⟩ := List.getElem_of_mem hb
      exact (hA m hm).2 J ⟨a, ha, j, hj, e, ⟨x, hx, en.symm⟩, hf⟩
structure AtA (l : List zae) (id : Int) (r : Int) : Prop where
  lo : 0 ≤ r
  hi : r.toNat < l.length
  is : l[r.toNat].Job = id
theorem ref_findA {l : List zae} (hl : l.length ≤ 40) (id : Int) : Ret (zcc 100 l id) fun r => (0 ≤ r ↔ ∃ a ∈ l, a.Job = id) ∧ (0 ≤ r → AtA l id r) := by
  unfold zcc
  refine lpA l (fun _ j => j.Job ≠ id) (fun i f h _ hr => ?_) (fun f h => ?_) (by omega)
  · simp only [zcr h, if_true, zan h, Option.bind_some, wr1 (show i < 1000000 by omega), zad, zac, beq_iff_eq]
    exact ⟨fun e => ⟨⟨fun _ => ⟨_, List.getElem_mem h, e⟩, fun _ => by omega⟩, fun _ => ⟨by omega, by simpa using h, by simpa using e⟩⟩, fun e => hr e⟩
  · simp only [zcd, Bool.false_eq_true, if_false, zac]
    refine ⟨⟨fun h => by omega, fun ⟨j, hm, e⟩ => absurd e (zbx (A := fun j => j.Job ≠ id) h j hm)⟩, fun h => by omega⟩
theorem zb9.uniq {s : zab} {st : zaf} (R : zb9 s st) {i j : Nat} (hi : i < st.Allocs.length) (hj : j < st.Allocs.length) (e : st.Allocs[i].Job = st.Allocs[j].Job) : i = j := by
  have pw : (st.Allocs.map (·.Job)).Pairwise (· < ·) := asc_pw fun i hi => by
    rw [List.getElem_map, List.getElem_map]
    exact (R.each (i + 1) (by simpa using hi)).up i (by simp at hi; omega) rfl
  rw [List.pairwise_iff_getElem] at pw
  rcases Nat.lt_trichotomy i j with h | h | h
  · have := pw i j (by simpa using hi) (by simpa using hj) h
    rw [List.getElem_map, List.getElem_map] at this; omega
  · exact h
  · have := pw j i (by simpa using hj) (by simpa using hi) h
    rw [List.getElem_map, List.getElem_map] at this; omega
structure RefJob (s : zab) (st : zaf) (j : zag) : Prop where
  inn : JobIn s st j
  waits : Waits s st j
  has : HasIn s st j
theorem ref_job {s : zab} (k : SpecOk s) {st : zaf} (hw : FewW s st) (R : zb9 s st) {j : zag} (hj : j ∈ st.Jobs) : zaS (zcC 100 s st j) (RefJob s st j) := by
  have kv := k.versions
  have hl := hw.jobs; have hal := hw.allocs
  unfold zcC
  refine (ref_job_right j (hw.after j hj)).bind fun r hr1 => ?_
  rw [zad]
  refine ⟨fun h => no_f fun q => ?_, fun h => ?_⟩
  · have := hr1.2 q.inn.ok
    rw [this] at h
    simp only [Bool.or_eq_true, decide_eq_true_eq, Bool.not_true, Bool.false_eq_true, false_or] at h
    have := q.inn.next; have := q.inn.user; have := q.inn.queue; have := q.inn.born; have := q.inn.start; have := q.inn.fin
    omega
  · simp only [Bool.or_eq_true, decide_eq_true_eq, not_or, Bool.not_eq_true', Bool.not_eq_false] at h
    have jo := hr1.1 h.1.1.1.1.1.1
    have hst := jo.state.st; have hsr := jo.start; have hwl := jo.wall
    simp only [jn_ite]
    generalize he : (if decide (j.State ≥ 5) = true then (3 : Int) else if (j.State == 4) = true then 2 else if (j.State == 3) = true then 1 else 0) = e
    have ev : e = extraV j.State := by
      rw [← he]
      simp only [extraV, decide_eq_true_eq, beq_iff_eq, ge_iff_le]
      split
      · split <;> (try split) <;> (try split) <;> omega
      · split
        · split <;> (try split) <;> omega
        · split <;> (try split) <;> (try split) <;> omega
    have eb := extra_bd j.State
    refine (ref_findA hal j.Id).bind fun r8 hr8 => ?_
    simp only [zaZ, zcD, Option.bind_some]
    rw [ev, wr (x := s.Versions + extraV j.State) (by omega) (by omega), zad]
    refine ⟨fun h2 => no_f fun q => ?_, fun h2 => ?_⟩
    · have := q.inn.version
      simp only [decide_eq_true_eq] at h2
      omega
    · simp only [decide_eq_true_eq] at h2
      have I : JobIn s st j := ⟨jo, by omega, by omega, by omega, by omega, by omega, by omega, by omega⟩
      have eh : ((j.State == 3) || (j.State == 4)) = hasJ j := rfl
      rw [eh, zad]
      refine ⟨fun h3 => no_f fun q => ?_, fun h3 => ?_⟩
      · have := q.has.has
        rw [← hr8.1] at this
        cases hh : hasJ j with
        | true => have t := this.2 hh; simp [hh] at h3; omega
        | false =>
          have t : ¬ 0 ≤ r8 := fun t => by have := this.1 t; rw [hh] at this; cases this
          simp [hh] at h3
          omega
      · have hasI : (∃ a ∈ st.Allocs, a.Job = j.Id) ↔ hasJ j = true := by
          rw [← hr8.1]
          cases hh : hasJ j with
          | true => simp [hh] at h3; simp [h3]
          | false => simp [hh] at h3; simp; omega
        rw [zad]
        refine ⟨fun h4 => yes_t ?_, fun h4 => ?_⟩
        · simp only [decide_eq_true_eq] at h4
          refine ⟨I, fun hs => by omega, hasI, fun a ha e => ?_⟩
          have := hasJ_lt (hasI.1 ⟨a, ha, e⟩)
          omega
        · simp only [decide_eq_true_eq] at h4
          have ha := jo.afterN
          refine lpA j.After (fun _ d => ∃ i ∈ st.Jobs, i.Id = d.Job) (fun m g hm hA hr => ?_) (fun g hA => ?_) (by omega)
          · simp only [zcr hm, if_true, zan hm, Option.bind_some, wr1 (show m < 1000000 by omega)]
            refine (ref_find (by omega) j.After[m].Job).bind fun r hr2 => ?_
            rw [zad]
            refine ⟨fun h5 => no_f fun q => ?_, fun h5 => hr (hr2.1.1 ?_)⟩
            · have := hr2.1.2 ((q.waits (by omega)).after _ (List.getElem_mem hm))
              simp only [decide_eq_true_eq] at h5
              omega
            · simp only [decide_eq_true_eq] at h5
              omega
          · simp only [zcd, Bool.false_eq_true, if_false]
            obtain ⟨b, e1, e2⟩ := fits_eq hw.spec k (q := j.Queue) (m := j.Many) jo.need jo.needz
            rw [e2, Option.bind_some, zad]
            refine ⟨fun h5 => no_f fun q => ?_, fun h5 => ?_⟩
            · have := (q.waits (by omega)).fits
              rw [e1] at this
              simp only [Option.some.injEq] at this
              subst this
              simp at h5
            · simp only [Bool.not_eq_true', Bool.not_eq_false] at h5
              subst h5
              have W : Waits s st j := fun _ => ⟨e1, zbx hA⟩
              rw [zad]
              refine ⟨fun h6 => yes_t ⟨I, W, hasI, fun a ha e => ?_⟩, fun h6 => ?_⟩
              · have := hasI.1 ⟨a, ha, e⟩
                rw [this] at h6
                simp at h6
              · simp only [Bool.not_eq_true', Bool.not_eq_false] at h6
                have r0 := hr8.1.2 (hasI.2 h6)
                have at8 := hr8.2 r0
                obtain ⟨hx, e3⟩ := at_int (l := st.Allocs) at8.lo (by have := at8.lo; have := at8.hi; omega)
                have hma := List.getElem_mem hx
                rw [wr (x := j.Start + j.Wall) (by omega) (by omega), e3, zad]
                simp only [Option.bind_some]
                refine ⟨fun h7 => ?_, fun h7 => no_f fun q => ?_⟩
                · simp only [decide_eq_true_eq] at h7
                  rw [zad]
                  refine ⟨fun h8 => ?_, fun h8 => no_f fun q => h8 (beq_res.2 (q.has.mine _ hma at8.is).need)⟩
                  have eN := beq_res.1 h8
                  refine (ref_mine hw.spec k j _ (hw.shares _ hma)).bind fun r hr9 => ?_
                  rw [zac, hr9]
                  refine ⟨fun S => ⟨I, W, hasI, fun a ha e => ?_⟩, fun q => (q.has.mine _ hma at8.is).suits⟩
                  have : a = st.Allocs[r8.toNat] := by
                    obtain ⟨m, hm, rfl⟩ := List.getElem_of_mem ha
                    have := R.uniq hm hx (by rw [e, at8.is])
                    subst this
                    rfl
                  subst this
                  exact ⟨e, eN, S, h7⟩
                · have := (q.has.mine _ hma at8.is).now
                  simp only [decide_eq_true_eq] at h7
                  omega
theorem ref_sound {s : zab} {st : zaf} (hw : FewW s st) : zaS (zaP 100 s st) (SoundOk s st) := by
  have hl := hw.jobs; have hq := hw.stamps; have hus := hw.use
  unfold zaP
  simp only [zaZ]
  refine (ref_right s hw.spec).bind fun r hr1 => ?_
  rw [zad]
  refine ⟨fun h => ?_, fun h => ?_⟩
  · rw [if_pos trivial]
    refine no_f fun q => ?_
    have := hr1.2 q.spec
    rw [this] at h
    have k1 := q.spec.ids; have := q.nums.now; have := q.nums.next; have := q.nums.book
    rw [wr (x := s.Ids + 1) (by omega) (by omega)] at h
    simp only [Bool.or_eq_true, decide_eq_true_eq, Bool.not_true, Bool.false_eq_true, false_or] at h
    omega
  · simp only [Bool.or_eq_true, decide_eq_true_eq, not_or, Bool.not_eq_true', Bool.not_eq_false] at h
    have k := hr1.1 h.1.1.1.1.1
    have k1 := k.ids
    rw [wr (x := s.Ids + 1) (by omega) (by omega)] at h
    refine (ref_uid st.Book).bind fun r2 hr2 => ?_
    rw [zad]
    refine ⟨fun h2 => no_f fun q => ?_, fun h2 => ?_⟩
    · have := hr2.2 (by have := q.nums.book; omega)
      rw [this] at h2
      simp at h2
    · simp only [Bool.not_eq_true', Bool.not_eq_false] at h2
      have u2 := hr2.1 h2
      have NO : NumsOk s st := ⟨by omega, by omega, by omega⟩
      rw [zad]
      refine ⟨fun h3 => ?_, fun h3 => ?_⟩
      · rw [if_pos trivial]
        refine no_f fun q => ?_
        have := q.jobs.len
        simp only [decide_eq_true_eq] at h3
        omega
      · simp only [decide_eq_true_eq] at h3
        refine (ref_allocs hw).bind fun r4 hr4 => ?_
        rw [zad]
        refine ⟨fun h4 => ?_, fun h4 => ?_⟩
        · rw [if_pos trivial]
          refine no_f fun q => ?_
          have := hr4.2 (to_ref k q.jobs q.allocs).1
          rw [this] at h4
          simp at h4
        · simp only [Bool.not_eq_true', Bool.not_eq_false] at h4
          have R := hr4.1 h4
          refine (ref_books hw R).bind fun r5 hr5 => ?_
          rw [zad]
          refine ⟨fun h5 => ?_, fun h5 => ?_⟩
          · rw [if_pos trivial]
            refine no_f fun q => ?_
            have := (hr5 q.jobs).2 q.booked
            rw [this] at h5
            simp at h5
          · simp only [Bool.not_eq_true', Bool.not_eq_false] at h5
            refine (ref_use st.Use s.Users (by omega)).bind fun r6 hr6 => ?_
            rw [zad]
            refine ⟨fun h6 => ?_, fun h6 => ?_⟩
            · rw [if_pos trivial]
              refine no_f fun q => ?_
              have := hr6.2 ⟨q.use.len, q.use.use⟩
              rw [this] at h6
              have := q.use.qlen
              simp only [Bool.or_eq_true, bne_iff_ne, ne_eq, Bool.not_true, Bool.false_eq_true, false_or] at h6
              omega
            · simp only [Bool.or_eq_true, bne_iff_ne, ne_eq, not_or, Decidable.not_not, Bool.not_eq_true', Bool.not_eq_false] at h6
              have u6 := hr6.1 h6.1
              refine (ref_uid st.Stamps.Nodes).bind fun r7 hr7 => ?_
              rw [zad]
              refine ⟨fun h7 => no_f fun q => ?_, fun h7 => ?_⟩
              · have := hr7.2 q.use.nodes
                rw [this] at h7
                simp at h7
              · simp only [Bool.not_eq_true', Bool.not_eq_false] at h7
                have u7 := hr7.1 h7
                refine lpA st.Stamps.Queues (fun _ x => 0 ≤ x ∧ x ≤ 281474976710656) (fun i f hi _ hr => ?_) (fun f hS => ?_) (by omega)
                · simp only [zcr hi, if_true, zan hi, Option.bind_some, wr1 (show i < 1000000 by omega)]
                  refine (ref_uid _).bind fun r8 hr8 => ?_
                  rw [zad]
                  refine ⟨fun h8 => no_f fun q => ?_, fun h8 => hr (hr8.1 (by simpa using h8))⟩
                  have := hr8.2 (q.use.stamps _ (List.getElem_mem hi))
                  rw [this] at h8
                  simp at h8
                · simp only [zcd, Bool.false_eq_true, if_false]
                  have U : UseOk s st := ⟨u6.1, u6.2, by omega, u7, zbx hS⟩
                  refine lpA st.Jobs (fun i j => RefJob s st j ∧ prvI st.Jobs i < j.Id) (fun i f hi _ hr => ?_) (fun f hJ => ?_) (by omega)
                  · have hd : decide ((i : Int) > 0) = decide (0 < i) := by simp
                    have hj := List.getElem_mem hi
                    simp only [zcr hi, if_true, zan hi, Option.bind_some, wr1 (show i < 1000000 by omega), hd]
                    refine (ref_job k hw R hj).bind fun r9 hr9 => ?_
                    rw [zad]
                    refine ⟨fun h9 => no_f fun q => ?_, fun h9 => ?_⟩
                    · have := hr9.2 ⟨q.jobs.each _ hj, q.waits _ hj, (to_ref k q.jobs q.allocs).2 _ hj⟩
                      rw [this] at h9
                      simp at h9
                    · simp only [Bool.not_eq_true', Bool.not_eq_false] at h9
                      have J9 := hr9.1 h9
                      rw [zad]
                      refine ⟨fun h10 => ?_, fun h10 => ?_⟩
                      · simp only [decide_eq_true_eq] at h10
                        obtain ⟨m, rfl⟩ : ∃ m, i = m + 1 := ⟨i - 1, by omega⟩
                        rw [wp1 (show m + 1 < 1000000 by omega), zan (show m < st.Jobs.length by omega), Option.bind_some, zad]
                        refine ⟨fun h11 => no_f fun q => ?_, fun h11 => hr ⟨J9, ?_⟩⟩
                        · have := q.jobs.sorted m hi
                          simp only [decide_eq_true_eq] at h11
                          omega
                        · rw [prvI_succ (by omega)]
                          simp only [decide_eq_true_eq] at h11
                          omega
                      · simp only [decide_eq_true_eq] at h10
                        have : i = 0 := by omega
                        subst this
                        refine hr ⟨J9, ?_⟩
                        have := J9.inn.ok.id
                        simp only [prvI]
                        omega
                  · simp only [zcd, Bool.false_eq_true, if_false]
                    have JO : JobsOk s st := jobs_of (by omega) fun i hi => ⟨(hJ i hi).1.inn, (hJ i hi).2⟩
                    have all : ∀ j ∈ st.Jobs, RefJob s st j := fun j hj => by
                      obtain ⟨m, hm, rfl⟩ := List.getElem_of_mem hj
                      exact (hJ m hm).1
                    exact yes_t ⟨k, NO, JO, fun j hj => (all j hj).waits, of_ref k JO R fun j hj => (all j hj).has, (hr5 JO).1 h5, U⟩
end Go.Plain
end
section
namespace Go.Plain
open Go.Abs
theorem zbP {l : List Int} (h : l.length ≤ 1000000) : zal 100 l = some l := by
  unfold zal
  exact app_nil h
theorem copy_ok {s : zab} (hs : FewS s) : zbO 100 s = some s := by
  have h1 := hs.nodes; have h2 := hs.parts; have h3 := hs.queues
  unfold zbO
  rw [clone_res (by omega), Option.bind_some, show zbi 100 s.Parts = some s.Parts from app_nil (by omega), Option.bind_some]
  refine Ret.eq (lpS s.Parts.length (fun i x => x = ((i : Int), s.Parts)) (fun i x f hi hx hr => ?_) (fun x f hx => ?_) rfl (by omega))
  · subst hx
    have hp := hs.part _ (List.getElem_mem hi)
    simp only [zcr hi, if_true, zan hi, Option.bind_some, wr1 (show i < 1000000 by omega), zbP (show s.Parts[i].length ≤ 1000000 by omega), Int.toNat_natCast, List.set_getElem_self]
    exact hr _ rfl
  · subst hx
    simp only [zcd, Bool.false_eq_true, if_false]
    rw [show zaD 100 s.Queues = some s.Queues from app_nil (by omega), Option.bind_some]
    refine lpS s.Queues.length (fun i x => x = ((i : Int), s.Queues)) (fun i x f hi hx hr => ?_) (fun x f hx => ?_) rfl (by omega)
    · subst hx
      have hp := hs.queue _ (List.getElem_mem hi)
      simp only [zcr hi, if_true, zan hi, Option.bind_some, wr1 (show i < 1000000 by omega), zbP (show s.Queues[i].Users.length ≤ 1000000 by omega), Int.toNat_natCast, List.set_getElem_self]
      exact hr _ (Prod.ext rfl (List.set_getElem_self hi))
    · subst hx
      simp only [zcd, Bool.false_eq_true, if_false, zac]
theorem share_new {n : Int} (h : 1 ≤ n ∧ n ≤ 8) : share_New 100 n = some (List.replicate n.toNat 0) := by
  simp only [share_New, zcP]
  rw [if_neg (by simp; omega), if_neg (by simp; omega)]
  simp only [Option.bind_some, mk?]
  rw [if_pos (by omega)]
  rfl
theorem table_new {n : Int} (h : 1 ≤ n ∧ n ≤ 256) : table_New 100 n = some (.inr n) := by
  simp only [table_New]
  rw [if_neg (by simp; omega)]
theorem new_ok {s : zab} (hs : FewS s) (k : SpecOk s) : store_New 100 s = some (.inr ([], s.Nodes, s.Parts, s.Queues, s.Users, s.Weights.Age, s.Weights.Size, s.Weights.Qos, s.Weights.Share, s.Decay, s.Mode, s.Jobs, s.Ids, s.Versions, s.Linger, s.Keep, s.In, s.Out, s.Cache, 0, 1, 1, List.replicate s.Users.toNat 0, List.replicate s.Queues.length 0, 0, s.Jobs, s.Nodes)) := by
  have h3 := hs.queues
  unfold store_New
  rw [spec_true hs k, Option.bind_some, if_neg (by simp), table_new k.jobs, Option.bind_some]
  dsimp only
  rw [new_ledger hs k, Option.bind_some]
  dsimp only
  rw [copy_ok hs, Option.bind_some, share_new k.users, Option.bind_some]
  unfold mk?
  rw [if_pos (by omega), Option.bind_some]
  rw [Int.toNat_natCast]
theorem new_no {s : zab} (hs : FewS s) (k : ¬ SpecOk s) : store_New 100 s = some (.inl ()) := by
  obtain ⟨r, e, h⟩ := spec_right s hs
  have : r = false := by
    cases r with
    | false => rfl
    | true => exact absurd (h.1 rfl) k
  unfold store_New
  rw [e, this]
  rfl
theorem own_job {j : zag} (h : j.After.length ≤ 1000000) : table_own 100 j = some j := by
  unfold table_own
  rw [show za5 100 j.After = some j.After from app_nil h]
  rfl
theorem all_jobs {l : List zag} (hl : l.length ≤ 40) (ha : ∀ j ∈ l, j.After.length ≤ 10) (n : Int) : zbz 100 n l = some l := by
  unfold zbz
  rw [show zav 100 l = some l from app_nil (by omega), Option.bind_some]
  refine Ret.eq (lpS l.length (fun i x => x = ((i : Int), l)) (fun i x f hi hx hr => ?_) (fun x f hx => ?_) rfl (by omega))
  · subst hx
    have hp := ha _ (List.getElem_mem hi)
    simp only [zcr hi, if_true, zan hi, Option.bind_some, wr1 (show i < 1000000 by omega), own_job (show l[i].After.length ≤ 1000000 by omega), Int.toNat_natCast, List.set_getElem_self]
    exact hr _ rfl
  · subst hx
    simp only [zcd, Bool.false_eq_true, if_false, zac]
def mapA (A : List zae) : List (Int × zae) := A.map fun a => (a.Job, a)
def AscA (A : List zae) : Prop := (A.map (·.Job)).Pairwise (· < ·)
theorem mapA_get {A : List zae} (h : AscA A) : ∀ i (hi : i < A.length), mget (mapA A) A[i].Job = some A[i] := by
  induction A with
  | nil => intro i hi; simp at hi
  | cons a A ih =>
    unfold AscA at h
    rw [List.map_cons, List.pairwise_cons] at h
    intro i hi
    match i, hi with
    | 0, hi => simp [mapA, mget]
    | i + 1, hi =>
      have hi' : i < A.length := by simpa using hi
      have := h.1 A[i].Job (List.mem_map.2 ⟨_, List.getElem_mem hi', rfl⟩)
      have e : mget (mapA (a :: A)) A[i].Job = mget (mapA A) A[i].Job := by
        simp only [mapA, List.map_cons, mget]
        rw [if_neg (by omega)]
      rw [List.getElem_cons_succ, e]
      exact ih h.2 i hi'
theorem mapA_none {A : List zae} {q : Int} (h : ∀ a ∈ A, a.Job ≠ q) : mget (mapA A) q = none := by
  induction A with
  | nil => rfl
  | cons a A ih =>
    simp only [mapA, List.map_cons, mget]
    rw [if_neg (h a (List.mem_cons_self ..))]
    exact ih fun b hb => h b (List.mem_cons_of_mem _ hb)
theorem mapA_set {A : List zae} {a : zae} (h : ∀ b ∈ A, b.Job ≠ a.Job) : mset (mapA A) a.Job a = mapA (A ++ [a]) := by
  induction A with
  | nil => rfl
  | cons b A ih =>
    have := ih fun c hc => h c (List.mem_cons_of_mem _ hc)
    simp only [mapA, List.cons_append, List.map_cons, mset] at this ⊢
    rw [if_neg (h b (List.mem_cons_self ..)), this]
theorem i64wf {n : Int} (h : 0 ≤ n ∧ n ≤ 1048576) : (Lit.int .i64 n).wf = true := by
  have e1 : IntKind.i64.min = -9223372036854775808 := by decide
  have e2 : IntKind.i64.max = 9223372036854775807 := by decide
  simp only [Lit.wf, Bool.and_eq_true, decide_eq_true_eq, e1, e2]
  omega
theorem keys_ok {A : List zae} (hl : A.length ≤ 40) (h : AscA A) (hj : ∀ a ∈ A, 0 ≤ a.Job ∧ a.Job ≤ 1048576) : keysI (fun k => k) (mapA A) = some (A.map (·.Job)) := by
  have e : (mapA A).map Prod.fst = A.map (·.Job) := by simp [mapA]
  unfold keysI
  have wf : ∀ p ∈ mapA A, (Lit.int .i64 p.1).wf = true := fun p hp => by
    obtain ⟨a, ha, rfl⟩ := List.mem_map.1 hp
    exact i64wf (hj a ha)
  have nd : (A.map (·.Job)).Nodup := h.imp fun h => by omega
  have ln : (mapA A).length ≤ 1000000 := by simp [mapA]; omega
  rw [e, if_pos ⟨ln, nd, wf⟩, List.mergeSort_of_pairwise (h.imp fun h => by simp; omega)]
  simp
theorem all_allocs {A : List zae} (hl : A.length ≤ 40) (h : AscA A) (hj : ∀ a ∈ A, 0 ≤ a.Job ∧ a.Job ≤ 1048576) (hs : ∀ a ∈ A, a.Shares.length ≤ 40) (F : List zaa) : zaJ 100 (mapA A) F = some A := by
  unfold zaJ
  rw [keys_ok hl h hj, Option.bind_some]
  refine Ret.eq (lpS (A.map (·.Job)).length (fun i x => x = ((i : Int), A.take i)) (fun i x f hi hx hr => ?_) (fun x f hx => ?_) (by simp) (by simp; omega))
  · subst hx
    have hi' : i < A.length := by simpa using hi
    have e := mapA_get h i hi'
    have es := hs _ (List.getElem_mem hi')
    simp only [zcr hi, if_true, zan hi, Option.bind_some, wr1 (show i < 1000000 by omega), List.getElem_map, e, oel, own_alloc (show A[i].Shares.length ≤ 1000000 by omega)]
    rw [app_ok (by rw [List.length_take]; simp; omega), Option.bind_some]
    exact hr _ (by rw [List.take_succ_eq_append_getElem hi'])
  · subst hx
    simp only [zcd, Bool.false_eq_true, if_false, zac, List.length_map, List.take_length]
def fresh (s : zab) : zaf := { Now := 0, Next := 1, Book := 1, Jobs := [], Allocs := [], Books := [], Use := List.replicate s.Users.toNat 0, Stamps := { Queues := List.replicate s.Queues.length 0, Nodes := 0 } }
theorem fresh_few {s : zab} (hs : FewS s) (k : SpecOk s) : FewW s (fresh s) := by
  have h1 := k.users; have h2 := hs.queues
  exact ⟨hs, by simp [fresh], by simp [fresh], by simp [fresh], by simp [fresh], by simp [fresh]; omega, by simp [fresh]; omega, by simp [fresh]⟩
theorem fresh_sound {s : zab} (hs : FewS s) (k : SpecOk s) : SoundOk s (fresh s) := by
  have h1 := k.users; have h2 := k.ids; have h3 := k.jobs
  refine ⟨k, ⟨by simp [fresh], by simp only [fresh]; omega, by simp [fresh]⟩, ⟨by simp only [fresh, List.length_nil]; omega, fun j hj => by simp [fresh] at hj, fun i hi => by simp [fresh] at hi⟩, fun j hj => by simp [fresh] at hj, ?_, ⟨⟨by simp [fresh], fun i hi => by simp [fresh] at hi⟩, fun b hb => by simp [fresh] at hb, fun a ha => by simp [fresh] at ha⟩, ⟨?_, fun x hx => ?_, by simp [fresh], by simp [fresh], fun x hx => ?_⟩⟩
  · rfl
  · simp only [fresh, List.length_replicate]; omega
  · simp only [fresh, List.mem_replicate] at hx; omega
  · simp only [fresh, List.mem_replicate] at hx; omega
theorem all_none (F : List zaa) : zaJ 100 [] F = some [] :=
  all_allocs (A := []) (by simp) List.Pairwise.nil (by simp) (by simp) F
theorem all_noneJ (n : Int) : zcG 100 n = some ([], []) := by
  unfold zcG
  rw [show zav 100 [] = some [] from rfl, Option.bind_some]
  exact Ret.eq (lpS 0 (fun i x => x = ((0 : Int), [])) (fun i x f hi hx hr => by omega) (fun x f hx => by subst hx; simp only [List.length_nil]; exact ⟨_, rfl, rfl⟩) rfl (by omega))
theorem clone_books {l : List zai} (h : l.length ≤ 1000000) : zak 100 l = some l := by
  unfold zak
  exact app_nil h
theorem fresh_state {s : zab} (hs : FewS s) (k : SpecOk s) {a1 a2 a3 a4 a5 a6 a7 a8 a9 a10 a11 a12 a13 a14 a15 a16 a17 a18 a25 a26} :
    za2 100 [] a1 a2 a3 a4 a5 a6 a7 a8 a9 a10 a11 a12 a13 a14 a15 a16 a17 a18 0 1 1 (List.replicate s.Users.toNat 0) (List.replicate s.Queues.length 0) 0 a25 a26 = some (fresh s, []) := by
  have h1 := k.users; have h2 := hs.queues
  unfold za2
  rw [all_noneJ, Option.bind_some, all_none, Option.bind_some, clone_books (by simp), Option.bind_some, zbP (by simp; omega), Option.bind_some, zbP (by simp; omega), Option.bind_some]
  rfl
theorem fresh_state3 {s : zab} (hs : FewS s) (k : SpecOk s) {a1 a2 a3 a4 a5 a6 a7 a8 a9 a10 a11 a12 a13 a14 a15 a16 a17 a18 a25 a27} :
    za8 100 [] a1 a2 a3 a4 a5 a6 a7 a8 a9 a10 a11 a12 a13 a14 a15 a16 a17 a18 0 1 1 (List.replicate s.Users.toNat 0) (List.replicate s.Queues.length 0) 0 a25 [] a27 = some (fresh s) := by
  have h1 := k.users; have h2 := hs.queues
  unfold za8
  rw [all_jobs (by simp) (by simp), Option.bind_some, all_none, Option.bind_some, clone_books (by simp), Option.bind_some, zbP (by simp; omega), Option.bind_some, zbP (by simp; omega), Option.bind_some]
  rfl
theorem ref_new {s : zab} (hs : FewS s) (k : SpecOk s) : zbL 100 s = some (fresh s) := by
  have h1 := k.users; have h2 := hs.queues
  unfold zbL mk?
  rw [if_pos (by omega), Option.bind_some, if_pos (by omega), Option.bind_some, Int.toNat_natCast]
  rfl
theorem beq_dep (a : api_Dep) : api_Dep.beq a a = true := by simp [api_Dep.beq]
theorem beq_share (a : zaj) : zaj.beq a a = true := by simp [zaj.beq]
theorem beq_book (a : zai) : zai.beq a a = true := by simp [zai.beq]
theorem beq_weights (a : zaI) : zaI.beq a a = true := by simp [zaI.beq]
theorem beq_res' (a : zaa) : zaa.beq a a = true := beq_res.2 rfl
theorem lpT {α : Type} {b : (Int → Option Bool) → Int → Option Bool} (l : List α) (hs : ∀ (i : Nat) (f : Int → Option Bool) (h : i < l.length), b f (i : Int) = f ((i + 1 : Nat) : Int)) (he : ∀ f, b f (l.length : Int) = some true) {N : Nat} (hN : l.length < N) : lpX b N 0 = some true :=
  Ret.eq (lpA l (fun _ _ => True) (fun i f h _ hr => by rw [hs i f h]; exact hr trivial) (fun f _ => by rw [he]; exact ⟨_, rfl, rfl⟩) hN)
theorem same_ints (l : List Int) (hl : l.length ≤ 40) : zaV 100 l l = some true := by
  unfold zaV
  rw [if_neg (by simp)]
  refine lpT l (fun i f h => ?_) (fun f => ?_) (by omega)
  · simp only [zcr h, if_true, zan h, Option.bind_some, wr1 (show i < 1000000 by omega), bne_self_eq_false, Bool.false_eq_true, if_false]
  · simp only [zcd, Bool.false_eq_true, if_false]
theorem same_job (j : zag) (hl : j.After.length ≤ 40) : zce 100 j j = some true := by
  unfold zce
  rw [if_neg (by simp)]
  refine lpT j.After (fun i f h => ?_) (fun f => ?_) (by omega)
  · simp only [zcr h, if_true, zan h, Option.bind_some, wr1 (show i < 1000000 by omega), beq_dep, Bool.not_true, Bool.false_eq_true, if_false]
  · simp only [zcd, Bool.false_eq_true, if_false, beq_self_eq_true, beq_res', Bool.and_self]
theorem same_jobs (l : List zag) (hl : l.length ≤ 40) (ha : ∀ j ∈ l, j.After.length ≤ 10) : zcn 100 l l = some true := by
  unfold zcn
  rw [if_neg (by simp)]
  refine lpT l (fun i f h => ?_) (fun f => ?_) (by omega)
  · have := ha _ (List.getElem_mem h)
    simp only [zcr h, if_true, zan h, Option.bind_some, wr1 (show i < 1000000 by omega), same_job l[i] (by omega), Bool.not_true, Bool.false_eq_true, if_false]
  · simp only [zcd, Bool.false_eq_true, if_false]
theorem same_shares (l : List zaj) (hl : l.length ≤ 40) : zcj 100 l l = some true := by
  unfold zcj
  rw [if_neg (by simp)]
  refine lpT l (fun i f h => ?_) (fun f => ?_) (by omega)
  · simp only [zcr h, if_true, zan h, Option.bind_some, wr1 (show i < 1000000 by omega), beq_share, Bool.not_true, Bool.false_eq_true, if_false]
  · simp only [zcd, Bool.false_eq_true, if_false]
theorem same_allocs (l : List zae) (hl : l.length ≤ 40) (ha : ∀ a ∈ l, a.Shares.length ≤ 40) : zcp 100 l l = some true := by
  unfold zcp
  rw [if_neg (by simp)]
  refine lpT l (fun i f h => ?_) (fun f => ?_) (by omega)
  · have := ha _ (List.getElem_mem h)
    simp only [zaZ, zcr h, if_true, zan h, Option.bind_some, wr1 (show i < 1000000 by omega), bne_self_eq_false, beq_res', same_shares l[i].Shares this, Bool.not_true, Bool.false_eq_true, if_false]
  · simp only [zcd, Bool.false_eq_true, if_false]
theorem same_books (l : List zai) (hl : l.length ≤ 40) : zcq 100 l l = some true := by
  unfold zcq
  rw [if_neg (by simp)]
  refine lpT l (fun i f h => ?_) (fun f => ?_) (by omega)
  · simp only [zcr h, if_true, zan h, Option.bind_some, wr1 (show i < 1000000 by omega), beq_book, Bool.not_true, Bool.false_eq_true, if_false]
  · simp only [zcd, Bool.false_eq_true, if_false]
theorem same_state {s : zab} {st : zaf} (hw : FewW s st) : zbe 100 st st = some true := by
  have h1 := hw.jobs; have h2 := hw.use; have h3 := hw.stamps; have h4 := hw.books
  unfold zbe
  rw [if_pos (by simp), same_jobs _ (by omega) hw.after, Option.bind_some, if_pos rfl, same_allocs _ hw.allocs hw.shares, Option.bind_some, if_pos rfl, same_books _ (by omega), Option.bind_some, if_pos rfl, same_ints _ (by omega), Option.bind_some, if_pos rfl, same_ints _ (by omega), Option.bind_some]
  simp
theorem same_spec {s : zab} (hs : FewS s) : zbw 100 s s = some true := by
  have h1 := hs.nodes; have h2 := hs.parts; have h3 := hs.queues
  unfold zbw
  rw [if_neg (by simp)]
  refine Ret.eq (lpA s.Nodes (fun _ _ => True) (fun i f h _ hr => ?_) (fun f _ => ?_) (by omega))
  · simp only [zcr h, if_true, zan h, Option.bind_some, wr1 (show i < 1000000 by omega), beq_res', Bool.not_true, Bool.false_eq_true, if_false]
    exact hr trivial
  · simp only [zcd, Bool.false_eq_true, if_false]
    refine lpA s.Parts (fun _ _ => True) (fun i f h _ hr => ?_) (fun f _ => ?_) (by omega)
    · have := hs.part _ (List.getElem_mem h)
      simp only [zcr h, if_true, zan h, Option.bind_some, wr1 (show i < 1000000 by omega), same_ints _ this, Bool.not_true, Bool.false_eq_true, if_false]
      exact hr trivial
    · simp only [zcd, Bool.false_eq_true, if_false]
      refine lpA s.Queues (fun _ _ => True) (fun i f h _ hr => ?_) (fun f _ => ?_) (by omega)
      · have := hs.queue _ (List.getElem_mem h)
        simp only [zaZ, zcr h, if_true, zan h, Option.bind_some, wr1 (show i < 1000000 by omega), same_ints _ this, bne_self_eq_false, Bool.not_true, Bool.false_eq_true, if_false, Bool.or_self]
        exact hr trivial
      · simp only [zcd, Bool.false_eq_true, if_false, beq_self_eq_true, beq_weights, Bool.and_self]
        exact ⟨_, rfl, rfl⟩
end Go.Plain
end
section
namespace Go.Plain
open Go.Abs
theorem sorted_take {l : List zag} (h : SortedJ l) (n : Nat) : SortedJ (l.take n) := fun i hi => by
  rw [List.length_take] at hi
  rw [List.getElem_take, List.getElem_take]
  exact h i (by omega)
theorem find_end {l : List zag} (hl : l.length ≤ 40) (hs : SortedJ l) {id : Int} (h : ∀ j ∈ l, j.Id < id) (n : Int) : zcg 100 l id n = some ((l.length : Int), false) := by
  unfold zcg
  have e : (lpX (fun f2 (x1 : Int × Int) =>
      if (decide (x1.1 < x1.2)) = true then
        (
          (at? l (IntKind.i64.wrap (Int.fdiv (IntKind.u64.wrap (IntKind.i64.wrap (x1.1 + x1.2))) (2 ^ 1)))).bind fun a3 =>
          some (decide (a3.Id ≥ id))).bind fun x4 =>
        if (!x4) = true then
          f2 ((IntKind.i64.wrap ((IntKind.i64.wrap (Int.fdiv (IntKind.u64.wrap (IntKind.i64.wrap (x1.1 + x1.2))) (2 ^ 1))) + 1)), x1.2)
        else
          f2 (x1.1, (IntKind.i64.wrap (Int.fdiv (IntKind.u64.wrap (IntKind.i64.wrap (x1.1 + x1.2))) (2 ^ 1))))
      else
        some x1.1) 100 (0, (l.length : Int))) = some (l.length : Int) := by
    refine Ret.eq (half hl hs id (fun j => some (decide (j.Id < id))) (fun j hj => rfl) (fun i => some i) (fun i hi h1 h2 => ?_) _ (fun f x => ?_))
    · rw [zac]
      rcases Nat.lt_or_eq_of_le hi with q | q
      · have := h2 i q (Nat.le_refl _)
        have := h _ (List.getElem_mem q)
        omega
      · rw [q]
    · split
      · cases at? l (IntKind.i64.wrap (Int.fdiv (IntKind.u64.wrap (IntKind.i64.wrap (x.1 + x.2))) (2 ^ 1))) with
        | none => rfl
        | some a =>
          simp only [Option.bind_some, Bool.not_eq_true', decide_eq_false_iff_not, decide_eq_true_eq]
          by_cases hc : a.Id < id
          · rw [if_pos hc, if_pos (by omega)]
          · rw [if_neg hc, if_neg (by omega)]
      · rfl
  rw [e, Option.bind_some, zcd, if_neg (by simp)]
theorem put_ok {l : List zag} {n : Nat} (hn : n < l.length) (hl : l.length ≤ 30) (hs : SortedJ l) {m : Int} (hm : (l.length : Int) ≤ m) (hj : JobOk l[n]) : table_Table_Put 100 (l.take n) l[n] m = some (l.take (n + 1), 0) := by
  obtain ⟨r, e, h⟩ := job_right l[n]
  have hr := h.2 hj
  subst hr
  have ha := hj.afterN
  have ll : (l.take n).length = n := by rw [List.length_take]; omega
  unfold table_Table_Put
  rw [e, Option.bind_some, if_neg (by simp), find_end (by omega) (sorted_take hs n) (fun j hj => ?_), Option.bind_some]
  · rw [if_neg (by simp), if_neg (by rw [ll]; simp; omega), own_job (by omega), Option.bind_some]
    unfold zaY
    have sl : slice? (l.take n) ((l.take n).length : Int) ((l.take n).length : Int) = some [] := by
      unfold slice?
      rw [if_pos ⟨by omega, by omega, by omega⟩]
      simp
    rw [sl, Option.bind_some, if_neg (by simp), if_pos (by simp), app_ok (by rw [ll]; simp; omega), Option.bind_some, Option.bind_some, List.take_succ_eq_append_getElem hn]
  · obtain ⟨i, hi, rfl⟩ := List.getElem_of_mem hj
    rw [List.getElem_take]
    exact hs.lt (by omega) hn
structure TInv (s : zab) (st : zaf) (i : Nat) (x : Int × (List zaa) × List (Int × zae)) : Prop where
  ix : x.1 = (i : Int)
  h : ∃ H, AllocsH s st H (st.Allocs.drop i) x.2.1
  len : x.2.1.length = s.Nodes.length
  vec : ∀ r ∈ x.2.1, VecOk r
  m : x.2.2 = mapA (st.Allocs.take i)
theorem asc_of {s : zab} {st : zaf} (q : SoundOk s st) : AscA st.Allocs := by
  have h := (allocsH_fwd q.allocs q.spec.nodes.ok).1
  unfold AscA
  rw [h]
  exact jobs_pw q.jobs
theorem alloc_ids {s : zab} {st : zaf} (q : SoundOk s st) : ∀ a ∈ st.Allocs, 0 ≤ a.Job ∧ a.Job ≤ 1048576 := fun a ha => by
  obtain ⟨j, hj, P⟩ := q.allocs.mem a ha
  have := (q.jobs.each j hj).ok.id
  have := P.job
  omega
theorem of_ok {s : zab} {st : zaf} (hw : FewW s st) (q : SoundOk s st) : ∃ F, store_Of 100 s st = some (.inr ((st.Allocs.map fun a => (a.Job, a)), s.Nodes, s.Parts, s.Queues, s.Users, s.Weights.Age, s.Weights.Size, s.Weights.Qos, s.Weights.Share, s.Decay, s.Mode, s.Jobs, s.Ids, s.Versions, s.Linger, s.Keep, s.In, s.Out, s.Cache, st.Now, st.Next, st.Book, st.Books, st.Use, st.Stamps.Queues, st.Stamps.Nodes, s.Jobs, st.Jobs, F)) := by
  have hl := hw.jobs; have hal := hw.allocs; have hn := hw.spec.nodes; have hb := hw.books; have hu := hw.use; have hs := hw.stamps
  obtain ⟨r, e, h⟩ := sound_ok hw
  have hr := h.2 q
  subst hr
  have jl := q.jobs.len
  have asc := asc_of q
  unfold store_Of
  rw [e, Option.bind_some, if_neg (by simp), new_ok hw.spec q.spec, Option.bind_some]
  dsimp only
  have goal : ∀ o : Option ((Int) ⊕ (List (Int × zae) × (List zaa) × (List (List Int)) × (List zaR) × Int × Int × Int × Int × Int × Int × Int × Int × Int × Int × Int × Int × Int × Int × Int × Int × Int × Int × (List zai) × (List Int) × (List Int) × Int × Int × (List zag) × (List zaa))), (Ret o fun x => ∃ F, x = .inr ((st.Allocs.map fun a => (a.Job, a)), s.Nodes, s.Parts, s.Queues, s.Users, s.Weights.Age, s.Weights.Size, s.Weights.Qos, s.Weights.Share, s.Decay, s.Mode, s.Jobs, s.Ids, s.Versions, s.Linger, s.Keep, s.In, s.Out, s.Cache, st.Now, st.Next, st.Book, st.Books, st.Use, st.Stamps.Queues, st.Stamps.Nodes, s.Jobs, st.Jobs, F)) → ∃ F, o = some (.inr ((st.Allocs.map fun a => (a.Job, a)), s.Nodes, s.Parts, s.Queues, s.Users, s.Weights.Age, s.Weights.Size, s.Weights.Qos, s.Weights.Share, s.Decay, s.Mode, s.Jobs, s.Ids, s.Versions, s.Linger, s.Keep, s.In, s.Out, s.Cache, st.Now, st.Next, st.Book, st.Books, st.Use, st.Stamps.Queues, st.Stamps.Nodes, s.Jobs, st.Jobs, F)) := fun o ⟨x, h1, F, h2⟩ => ⟨F, by rw [h1, h2]⟩
  apply goal
  refine lpS st.Jobs.length (fun i x => x = ((i : Int), st.Jobs.take i)) (fun i x f hi hx hr => ?_) (fun x f hx => ?_) rfl (by omega)
  · subst hx
    simp only [zcr hi, if_true, zan hi, Option.bind_some, wr1 (show i < 1000000 by omega), put_ok hi hl q.jobs.sorted jl (q.jobs.each _ (List.getElem_mem hi)).ok, bne_self_eq_false, Bool.false_eq_true, if_false]
    exact hr _ rfl
  · subst hx
    simp only [zcd, Bool.false_eq_true, if_false]
    refine lpS st.Allocs.length (TInv s st) (fun i x f hi hx hr => ?_) (fun x f hx => ?_) ⟨rfl, ⟨_, by rw [List.drop_zero]; exact q.allocs⟩, rfl, q.spec.nodes.ok, rfl⟩ (by omega)
    · obtain ⟨x1, F, M⟩ := x
      obtain ⟨h1, h2, h3, h4, h5⟩ := hx
      dsimp only at h1 h2 h3 h4 h5
      subst h1
      have hm := List.getElem_mem hi
      have hsh := hw.shares _ hm
      obtain ⟨H, hH⟩ := h2
      rw [List.drop_eq_getElem_cons hi] at hH
      obtain ⟨j, hj, P⟩ := q.allocs.mem _ hm
      have jo := (q.jobs.each j hj).ok
      have fit : FitsA F st.Allocs[i] ∧ ∃ H', AllocsH s st H' (st.Allocs.drop (i + 1)) (takeA F st.Allocs[i]) := by
        cases H with
        | nil => cases (show st.Allocs[i] :: st.Allocs.drop (i + 1) = [] from hH)
        | cons j' H' =>
          obtain ⟨a', A', e', -, hf, hr⟩ := hH
          cases e'
          exact ⟨hf, H', hr⟩
      have free : ∀ b ∈ st.Allocs.take i, b.Job ≠ st.Allocs[i].Job := fun b hb => by
        obtain ⟨m, hm2, rfl⟩ := List.getElem_of_mem hb
        rw [List.length_take] at hm2
        rw [List.getElem_take]
        have := List.pairwise_iff_getElem.1 asc m i (by simp; omega) (by simpa using hi) (by omega)
        rw [List.getElem_map, List.getElem_map] at this
        omega
      have T : TakeOk M F st.Allocs[i] := ⟨by have := jo.id; have := P.job; omega, tot_pos (by have := jo.many; have := P.suits.tot; omega), by rw [h3]; exact P.suits.shares, by rw [P.need]; exact jo.need, by rw [h5]; exact mapA_none free, fit.1⟩
      simp only [zcr hi, if_true, zan hi, Option.bind_some, wr1 (show i < 1000000 by omega)]
      refine (take_ok (M := M) (a := st.Allocs[i]) (F := F) (by omega) hsh h4).bind fun r hr1 => ?_
      have z := hr1.1.2 T
      obtain ⟨eM, bh⟩ := hr1.2 z
      rw [z]
      simp only [bne_self_eq_false, Bool.false_eq_true, if_false]
      refine hr _ ⟨rfl, ?_, ?_, ?_, ?_⟩
      · dsimp only
        rw [bh.eq]
        exact fit.2
      · dsimp only
        rw [bh.eq, takeA_len, h3]
      · dsimp only
        rw [bh.eq]
        exact takeA_ok fit.1
      · dsimp only
        rw [eM, h5, mapA_set free, List.take_succ_eq_append_getElem hi]
    · obtain ⟨x1, F, M⟩ := x
      obtain ⟨h1, h2, h3, h4, h5⟩ := hx
      dsimp only at h1 h2 h3 h4 h5
      subst h1
      simp only [zcd, Bool.false_eq_true, if_false]
      rw [clone_books (by omega), Option.bind_some, zbP (by omega), Option.bind_some, zbP (by omega), Option.bind_some, zac]
      refine ⟨F, ?_⟩
      rw [h5, List.take_length, List.take_length]
      rfl
theorem of_no {s : zab} {st : zaf} (hw : FewW s st) (q : ¬ SoundOk s st) : store_Of 100 s st = some (.inl 2) := by
  obtain ⟨r, e, h⟩ := sound_ok hw
  have : r = false := by
    cases r with
    | false => rfl
    | true => exact absurd (h.1 rfl) q
  unfold store_Of
  rw [e, this]
  rfl
theorem shown {s : zab} {st : zaf} (hw : FewW s st) (q : SoundOk s st) {a1 a2 a3 a4 a5 a6 a7 a8 a9 a10 a11 a12 a13 a14 a15 a16 a17 a18 a26 F} :
    zbF 100 (st.Allocs.map fun a => (a.Job, a)) a1 a2 a3 a4 a5 a6 a7 a8 a9 a10 a11 a12 a13 a14 a15 a16 a17 a18 st.Now st.Next st.Book st.Books st.Use st.Stamps.Queues st.Stamps.Nodes a26 st.Jobs F = some st := by
  have hl := hw.jobs; have hb := hw.books; have hu := hw.use; have hs := hw.stamps
  unfold zbF
  rw [all_jobs (by omega) hw.after, Option.bind_some, show zaJ 100 (st.Allocs.map fun a => (a.Job, a)) F = some st.Allocs from all_allocs hw.allocs (asc_of q) (alloc_ids q) hw.shares F, Option.bind_some, clone_books (by omega), Option.bind_some, zbP (by omega), Option.bind_some, zbP (by omega), Option.bind_some]
theorem law_of_ok {s : zab} {st : zaf} (hw : FewW s st) (q : SoundOk s st) : ∃ F, zbu 100 s st = some (.inr ((st.Allocs.map fun a => (a.Job, a)), true, s.Nodes, s.Parts, s.Queues, s.Users, s.Weights.Age, s.Weights.Size, s.Weights.Qos, s.Weights.Share, s.Decay, s.Mode, s.Jobs, s.Ids, s.Versions, s.Linger, s.Keep, s.In, s.Out, s.Cache, st.Now, st.Next, st.Book, st.Books, st.Use, st.Stamps.Queues, st.Stamps.Nodes, s.Jobs, st.Jobs, F)) := by
  obtain ⟨F, e⟩ := of_ok hw q
  obtain ⟨r, e2, h⟩ := ref_sound hw
  have hr := h.2 q
  subst hr
  refine ⟨F, ?_⟩
  unfold zbu
  rw [e, Option.bind_some]
  dsimp only
  rw [e2, Option.bind_some, if_neg (by simp), shown hw q, Option.bind_some, same_state hw, Option.bind_some]
theorem law_of_no {s : zab} {st : zaf} (hw : FewW s st) (q : ¬ SoundOk s st) : zbu 100 s st = some (.inl true) := by
  obtain ⟨r, e2, h⟩ := ref_sound hw
  have : r = false := by
    cases r with
    | false => rfl
    | true => exact absurd (h.1 rfl) q
  unfold zbu
  rw [of_no hw q, Option.bind_some]
  dsimp only
  rw [e2, this]
  rfl
theorem awake_ok : drayagelaw23xawake 100 = some true := by kernel_rfl
theorem spec_shown {s : zab} (hs : FewS s) {M F b1 b2 b3 b4 b5 b6 b7 b8 b9} :
    zbM 100 M s.Nodes s.Parts s.Queues s.Users s.Weights.Age s.Weights.Size s.Weights.Qos s.Weights.Share s.Decay s.Mode s.Jobs s.Ids s.Versions s.Linger s.Keep s.In s.Out s.Cache b1 b2 b3 b4 b5 b6 b7 b8 b9 F = some s := by
  unfold zbM
  rw [show zbO 100 _ = some s from copy_ok hs]
  rfl
theorem storeSound (s : zab) (st : zaf) : zbE 100 s st = some true := by
  unfold zbE
  rw [awake_ok, Option.bind_some, if_neg (by simp)]
  obtain ⟨r, e, h⟩ := few23 s st
  rw [e, Option.bind_some]
  cases r with
  | false => rfl
  | true =>
    have hw := h rfl
    rw [if_neg (by simp)]
    obtain ⟨r1, e1, h1⟩ := sound_ok hw
    obtain ⟨r2, e2, h2⟩ := ref_sound hw
    obtain ⟨r3, e3, h3⟩ := ref_right s hw.spec
    have e12 : r1 = r2 := by rw [Bool.eq_iff_iff, h1, h2]
    subst e12
    by_cases q : SoundOk s st
    · obtain ⟨F, eo⟩ := law_of_ok hw q
      have k := q.spec
      have t3 := h3.2 k
      subst t3
      obtain ⟨r4, e4, h4⟩ := sound_ok (fresh_few hw.spec k)
      have t4 := h4.2 (fresh_sound hw.spec k)
      subst t4
      rw [eo, Option.bind_some]
      dsimp only [zaZ]
      rw [if_neg (by simp), e1, Option.bind_some, e2, Option.bind_some, if_neg (by simp), new_ok hw.spec k, Option.bind_some]
      dsimp only
      rw [e3, Option.bind_some, if_neg (by simp), fresh_state hw.spec k, Option.bind_some, ref_new hw.spec k, Option.bind_some, same_state (fresh_few hw.spec k), Option.bind_some, if_neg (by simp), fresh_state3 hw.spec k, Option.bind_some, e4, Option.bind_some, if_neg (by simp), spec_shown hw.spec, Option.bind_some, same_spec hw.spec]
      rfl
    · rw [law_of_no hw q, Option.bind_some]
      dsimp only [zaZ]
      rw [if_neg (by simp), e1, Option.bind_some, e2, Option.bind_some, if_neg (by simp)]
      by_cases k : SpecOk s
      · have t3 := h3.2 k
        subst t3
        obtain ⟨r4, e4, h4⟩ := sound_ok (fresh_few hw.spec k)
        have t4 := h4.2 (fresh_sound hw.spec k)
        subst t4
        rw [new_ok hw.spec k, Option.bind_some]
        dsimp only
        rw [e3, Option.bind_some, if_neg (by simp), fresh_state hw.spec k, Option.bind_some, ref_new hw.spec k, Option.bind_some, same_state (fresh_few hw.spec k), Option.bind_some, if_neg (by simp), fresh_state3 hw.spec k, Option.bind_some, e4, Option.bind_some, if_neg (by simp)]
      · have t3 : r3 = false := by
          cases r3 with
          | false => rfl
          | true => exact absurd (h3.1 rfl) k
        subst t3
        rw [new_no hw.spec k, Option.bind_some]
        dsimp only
        rw [e3, Option.bind_some, if_pos (by simp)]
end Go.Plain
end
