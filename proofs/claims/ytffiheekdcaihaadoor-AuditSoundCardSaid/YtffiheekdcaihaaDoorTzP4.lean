/- The law in plain Lean (4): what soundness says: what nodes have left, bookings, jobs. -/
import Derived.Test.YtffiheekdcaihaaDoorTzP3
set_option linter.all false
namespace Go.Plain
open Go.Abs
def used (l : List zai) (n : Int) : zac := ⟨tot (fun a => a.Need.Cpu * on n a.Shares) l, tot (fun a => a.Need.Mem * on n a.Shares) l, tot (fun a => a.Need.Gpu * on n a.Shares) l, tot (fun a => a.Need.Lic * on n a.Shares) l⟩
structure AllocOk (n : Int) (a : zai) : Prop where
  need : VecOk a.Need
  shares : ShareOk a.Shares n
  few : a.Shares.length ≤ 40
theorem zfc {a b A B : Int} (ha : 0 ≤ a ∧ a ≤ A) (hb : 0 ≤ b ∧ b ≤ B) : 0 ≤ a * b ∧ a * b ≤ A * B := by
  refine ⟨Int.mul_nonneg ha.1 hb.1, ?_⟩
  have h1 : a * b ≤ A * b := Int.mul_le_mul_of_nonneg_right ha.2 hb.1
  have h2 : A * b ≤ A * B := Int.mul_le_mul_of_nonneg_left hb.2 (by omega)
  omega
theorem ref_times {r : zac} (hv : VecOk r) {m : Int} (hm : 0 ≤ m ∧ m ≤ 64) : Ret (zdZ 100 r m) fun x => x = ⟨r.Cpu * m, r.Mem * m, r.Gpu * m, r.Lic * m⟩ := by
  obtain ⟨n, rfl⟩ : ∃ n : Nat, m = n := ⟨m.toNat, by omega⟩
  have h1 := hv.cpu
  have h2 := hv.mem
  have h3 := hv.gpu
  have h4 := hv.lic
  refine zfz n (fun i y => y = (⟨r.Cpu * i, r.Mem * i, r.Gpu * i, r.Lic * i⟩ : zac)) (fun k i y hi hy hr => ?_) (fun k y hy => ?_) (by simp) (by omega)
  · subst hy
    have b1 := zfc h1 (show (0 : Int) ≤ i ∧ (i : Int) ≤ 64 by omega)
    have b2 := zfc h2 (show (0 : Int) ≤ i ∧ (i : Int) ≤ 64 by omega)
    have b3 := zfc h3 (show (0 : Int) ≤ i ∧ (i : Int) ≤ 64 by omega)
    have b4 := zfc h4 (show (0 : Int) ≤ i ∧ (i : Int) ≤ 64 by omega)
    simp only [zcj, zfA hi, if_true, zcq, Option.bind_some, wr1 (show i < 1000000 by omega)]
    refine hr _ ?_
    rw [wr (by omega) (by omega), wr (by omega) (by omega), wr (by omega) (by omega), wr (by omega) (by omega)]
    simp only [Int.natCast_add, Int.mul_add, Int.natCast_one, Int.mul_one]
  · simp only [zcj, lt_f, Bool.false_eq_true, if_false, zao]
    exact hy
theorem zfu {n N : Int} {l : List zai} (hl : l.length ≤ 40) (h : ∀ a ∈ l, AllocOk N a) (g : zac → Int) (hg : ∀ r, VecOk r → 0 ≤ g r ∧ g r ≤ 1048576) : 0 ≤ tot (fun a => g a.Need * on n a.Shares) l ∧ tot (fun a => g a.Need * on n a.Shares) l ≤ 2684354560 := by
  have := tot_bound (fun a : zai => g a.Need * on n a.Shares) 67108864 (by omega) l fun a ha => by
    have h1 := h a ha
    exact zfc (hg _ h1.need) (on_le h1.shares.pair h1.shares.many)
  omega
theorem fits_iff {a b : zac} : zbL 100 a b = some (decide (a.Cpu ≤ b.Cpu ∧ a.Mem ≤ b.Mem ∧ a.Gpu ≤ b.Gpu ∧ a.Lic ≤ b.Lic)) := by
  unfold zbL
  congr 1
  rw [Bool.eq_iff_iff]
  simp
def Le (a b : zac) : Prop := a.Cpu ≤ b.Cpu ∧ a.Mem ≤ b.Mem ∧ a.Gpu ≤ b.Gpu ∧ a.Lic ≤ b.Lic
theorem ref_left {ns : List zac} {l : List zai} (hn : ns.length ≤ 40) (hl : l.length ≤ 40) {N : Int} (h : ∀ a ∈ l, AllocOk N a) :
    Ret (zeq 100 ns l) fun r => r.2 = true → ∀ j (hj : j < ns.length), Le (used l j) ns[j] := by
  refine zfz (f := fun k i (y : Bool × List zac) => zbj 100 ns l k y.1 i y.2) (y := (true, [])) ns.length (fun i y => y.2.length = i ∧ (y.1 = true → ∀ j (hj : j < ns.length), j < i → Le (used l j) ns[j])) (fun k i y hi hy hr => ?_) (fun k y hy => ?_) (by simp) (by omega)
  · obtain ⟨b, y⟩ := y
    obtain ⟨hy1, hy2⟩ := hy
    change y.length = i at hy1
    simp only [zbj, zfA hi, if_true]
    refine zfz (f := fun k i y' => zb7 100 ns l y b _ (zbj 100 ns l _) k i y') l.length (fun j y => y = used (l.take j) i) (fun k' j z hj hz hr' => ?_) (fun k' z hz => ?_) (by simp [used, tot]) (by omega)
    · subst hz
      have ha := h _ (List.getElem_mem hj)
      have hf := ha.few
      simp only [zb7, zfA hj, if_true, zaX hj, Option.bind_some, wr1 (show j < 1000000 by omega)]
      refine (ref_on i (by omega) ha.shares).bind fun r hr1 => ?_
      subst hr1
      have ho := on_le (m := i) ha.shares.pair ha.shares.many
      refine (ref_times ha.need ho).bind fun r hr1 => ?_
      subst hr1
      simp only [zcq, Option.bind_some]
      refine hr' _ ?_
      have hq : ∀ a ∈ l.take j, AllocOk N a := fun a ha => h a (mem_take ha)
      have hq' : (l.take j).length ≤ 40 := by rw [List.length_take]; omega
      have c1 := zfu (n := i) hq' hq (fun r => r.Cpu) fun r hr => hr.cpu
      have c2 := zfu (n := i) hq' hq (fun r => r.Mem) fun r hr => hr.mem
      have c3 := zfu (n := i) hq' hq (fun r => r.Gpu) fun r hr => hr.gpu
      have c4 := zfu (n := i) hq' hq (fun r => r.Lic) fun r hr => hr.lic
      have d1 := zfc ha.need.cpu ho
      have d2 := zfc ha.need.mem ho
      have d3 := zfc ha.need.gpu ho
      have d4 := zfc ha.need.lic ho
      simp only [used, tot_take _ l hj]
      rw [wr (by omega) (by omega), wr (by omega) (by omega), wr (by omega) (by omega), wr (by omega) (by omega)]
    · rw [List.take_length] at hz
      subst hz
      simp only [zb7, zee, lt_f, Bool.false_eq_true, if_false, zaX hi, Option.bind_some, fits_iff, zeD, wr1 (show i < 1000000 by omega)]
      rw [app_ok (by simp; omega)]
      simp only [Option.bind_some]
      rw [zar]
      refine ⟨fun hb => hr (_, _) ⟨by simp [hy1], fun h j hj hji => ?_⟩, fun hb => hr (_, _) ⟨by simp [hy1], fun h => by simp at h⟩⟩
      rcases Nat.lt_or_eq_of_le (Nat.lt_succ_iff.1 hji) with g | g
      · exact hy2 hb j hj g
      · subst g
        unfold Le; exact of_decide_eq_true h
  · simp only [zbj, lt_f, Bool.false_eq_true, if_false, zao]
    exact fun h j hj => hy.2 h j hj hj
structure AllocsOk (s : zab) (st : zag) : Prop where
  one : ∀ a ∈ st.Allocs, AllocOk s.Nodes.length a
  job : ∀ a ∈ st.Allocs, ∃ (i : Nat) (h : i < st.Jobs.length), st.Jobs[i].Id = a.Job
  up : ∀ i (h : i + 1 < st.Allocs.length), st.Allocs[i].Job < st.Allocs[i + 1].Job
  left : ∀ j (hj : j < s.Nodes.length), Le (used st.Allocs j) s.Nodes[j]
theorem ref_allocs {s : zab} {st : zag} (hf : FewW s st) : Ret (zdu 100 s st) fun b => b = true → AllocsOk s st := by
  have f1 := hf.allocs
  have f2 := hf.jobs
  have f3 := hf.spec.nodes
  refine zfk st.Allocs (fun i a => (AllocOk s.Nodes.length a ∧ ∃ (i : Nat) (h : i < st.Jobs.length), st.Jobs[i].Id = a.Job) ∧ ∀ j (hj : j + 1 = i) (hi : j + 1 < st.Allocs.length), st.Allocs[j].Job < st.Allocs[j + 1].Job) (fun k i h _ hr => ?_) (fun k hq => ?_) (by omega)
  · have hd : decide ((i : Int) > 0) = decide (0 < i) := by simp
    have f4 := hf.shares _ (List.getElem_mem h)
    have body : ∀ {k'} , (AllocOk s.Nodes.length st.Allocs[i] ∧ (∃ (i' : Nat) (h : i' < st.Jobs.length), st.Jobs[i'].Id = st.Allocs[i].Job) → Ret (zaz 100 s st k' ((i + 1 : Nat) : Int)) fun b => b = true → AllocsOk s st) →
      Ret ((zb3 100 st.Jobs st.Allocs[i].Job).bind fun r23 =>
        if (decide (r23 < 0)) = true then zaI 100 i (zaz 100 s st k') true
        else (zcb 100 st.Allocs[i].Shares (s.Nodes.length : Int)).bind fun r25 =>
          if (!r25) = true then zaI 100 i (zaz 100 s st k') true
          else (zbd 100 st.Allocs[i].Need).bind fun r27 => zaI 100 i (zaz 100 s st k') (!r27)) fun b => b = true → AllocsOk s st := fun {k'} hk => by
      refine (find17 st.Jobs _ (by omega)).bind fun r hr => ?_
      rw [zar]
      refine ⟨fun _ => by simp [zaI, zao], fun g1 => ?_⟩
      refine (ref_shares _ _ (by omega)).bind fun b hb => ?_
      rw [zar]
      refine ⟨fun _ => by simp [zaI, zao], fun g2 => ?_⟩
      refine (ref_vec _).bind fun b' hb' => ?_
      unfold zaI
      rw [zar]
      refine ⟨fun _ => by simp [zao], fun g3 => ?_⟩
      rw [wr1 (by omega)]
      simp only [Bool.not_eq_true', Bool.not_eq_false, decide_eq_true_eq] at g1 g2 g3
      refine hk ⟨⟨hb'.1 g3, hb g2, f4⟩, ?_⟩
      rcases hr with hr | ⟨i', h', -, e⟩
      · omega
      · exact ⟨i', h', e⟩
    simp only [zaz, zfA h, if_true, zaX h, Option.bind_some, hd]
    rw [zar]
    refine ⟨fun h5 => ?_, fun h5 => ?_⟩
    · simp only [decide_eq_true_eq] at h5
      obtain ⟨m, rfl⟩ : ∃ m, i = m + 1 := ⟨i - 1, by omega⟩
      rw [wp1 (show m + 1 < 1000000 by omega), zaX (show m < st.Allocs.length by omega), Option.bind_some, zar]
      refine ⟨fun _ => by simp [zaI, zao], fun g0 => body fun hk => hr ⟨hk, fun j hj hi => ?_⟩⟩
      simp only [decide_eq_true_eq] at g0
      cases hj
      omega
    · simp only [decide_eq_true_eq] at h5
      exact body fun hk => hr ⟨hk, fun j hj => by omega⟩
  · simp only [zaz, lt_f, Bool.false_eq_true, if_false]
    have ha : ∀ a ∈ st.Allocs, AllocOk s.Nodes.length a := zeh fun j hj => (hq j hj).1.1
    refine (ref_left (by omega) (by omega) ha).bind fun r hr => ?_
    rw [zao]
    exact fun h => ⟨ha, zeh fun j hj => (hq j hj).1.2, fun i h => (hq (i + 1) h).2 i rfl h, hr h⟩
def Free (st : zag) (node frm : Int) : Prop := ∀ a ∈ st.Allocs, (∀ j ∈ st.Jobs, j.Id ≠ a.Job) ∨ ∃ (i : Nat) (h : i < st.Jobs.length), st.Jobs[i].Id = a.Job ∧ (0 < on node a.Shares → IntKind.i64.wrap (st.Jobs[i].Start + st.Jobs[i].Wall) ≤ frm)
theorem ref_taken {s : zab} {st : zag} (hf : FewW s st) (ho : AllocsOk s st) (node frm : Int) : Ret (zdU 100 st node frm) fun b => b = false → Free st node frm := by
  have f1 := hf.allocs
  have f2 := hf.jobs
  refine zfk st.Allocs (fun _ a => (∀ j ∈ st.Jobs, j.Id ≠ a.Job) ∨ ∃ (i : Nat) (h : i < st.Jobs.length), st.Jobs[i].Id = a.Job ∧ (0 < on node a.Shares → IntKind.i64.wrap (st.Jobs[i].Start + st.Jobs[i].Wall) ≤ frm)) (fun k i h _ hr => ?_) (fun k hq => ?_) (by omega)
  · have f4 := hf.shares _ (List.getElem_mem h)
    have ha := ho.one _ (List.getElem_mem h)
    simp only [zbp, zc1, zfA h, if_true, zaX h, Option.bind_some, wr1 (show i < 1000000 by omega)]
    refine (find17 st.Jobs _ (by omega)).bind fun r hr1 => ?_
    rcases hr1 with ⟨rfl, e⟩ | ⟨i', h', rfl, e⟩
    · rw [if_neg (by decide), if_neg (by decide)]
      exact hr (.inl e)
    · rw [if_pos (by simp)]
      refine (ref_on node (by omega) ha.shares).bind fun r hr1 => ?_
      subst hr1
      simp only [zaX h', Option.bind_some, zar, decide_eq_true_eq, zao]
      exact ⟨fun g => ⟨by simp, fun g2 => hr (.inr ⟨i', h', e, fun _ => by omega⟩)⟩, fun g => by simpa using hr (.inr ⟨i', h', e, fun g' => absurd g' (by omega)⟩)⟩
  · simp only [zbp, lt_f, Bool.false_eq_true, if_false, zao]
    exact fun _ => zeh (A := fun a : zai => (∀ j ∈ st.Jobs, j.Id ≠ a.Job) ∨ ∃ (i : Nat) (h : i < st.Jobs.length), st.Jobs[i].Id = a.Job ∧ (0 < on node a.Shares → IntKind.i64.wrap (st.Jobs[i].Start + st.Jobs[i].Wall) ≤ frm)) hq
theorem ref_one (b : zam) (n : Int) : Ret (zd4 100 b n) fun _ => True := by
  simp only [zd4, zbH, zbv, Option.bind_some, zar, zao, implies_true, and_self]
theorem ref_meets (l : List zam) (a b c : Int) (hl : l.length < 99) : Ret (zd1 100 l a b c) fun _ => True := by
  refine zfk l (fun _ _ => True) (fun k i h _ hr => ?_) (fun k hq => ?_) (by omega)
  · simp only [zcm, zfA h, if_true, zaX h, Option.bind_some, wr1 (show i < 1000000 by omega), zar, zao]
    exact ⟨by simp, fun _ => hr trivial⟩
  · simp only [zcm, lt_f, Bool.false_eq_true, if_false, zao]
theorem ref_books12 (l : List zam) (n : Int) (hl : l.length < 99) : Ret (zdX 100 l n) fun _ => True := by
  refine zfk l (fun _ _ => True) (fun k i h _ hr => ?_) (fun k hq => ?_) (by omega)
  · simp only [zbE, zfA h, if_true, zaX h, Option.bind_some, wr1 (show i < 1000000 by omega)]
    refine (ref_one _ _).bind fun b _ => ?_
    rw [zar]
    refine ⟨fun _ => zao.2 trivial, fun _ => ?_⟩
    refine loop0 i (fun _ => True) (fun k' j hj _ hr' => ?_) (fun k' _ => ?_) trivial (by omega)
    · have hs : slice? l (j : Int) ((j + 1 : Nat) : Int) = some ((l.take (j + 1)).drop j) := by
        unfold slice?
        rw [if_pos (by omega)]
        rfl
      simp only [zbG, zdN, zfA hj, if_true, zaX (show j < l.length by omega), zaX h, Option.bind_some, wr1 (show j < 1000000 by omega), hs, zar, zao]
      refine ⟨by simp, fun _ => ?_⟩
      refine (ref_meets _ _ _ _ (by simp; omega)).bind fun b _ => ?_
      rw [zar]
      exact ⟨fun _ => zao.2 trivial, fun _ => hr' trivial⟩
    · simp only [zbG, lt_f, Bool.false_eq_true, if_false, wr1 (show i < 1000000 by omega)]
      exact hr trivial
  · simp only [zbE, lt_f, Bool.false_eq_true, if_false, zao]
theorem ref_books {s : zab} {st : zag} (hf : FewW s st) (ho : AllocsOk s st) : Ret (zd0 100 s st) fun b => b = true → ∀ b ∈ st.Books, Free st b.Node b.From := by
  have f1 := hf.books
  refine zfk st.Books (fun _ b => Free st b.Node b.From) (fun k i h _ hr => ?_) (fun k hq => ?_) (by omega)
  · simp only [zbq, zcS, zfA h, if_true, zaX h, Option.bind_some, wr1 (show i < 1000000 by omega), zar, zao]
    refine ⟨by simp, fun _ => ⟨by simp, fun _ => ?_⟩⟩
    refine (ref_taken hf ho _ _).bind fun b hb => ?_
    rw [zar]
    exact ⟨fun _ => by simp [zao], fun g => hr (hb (by simpa using g))⟩
  · simp only [zbq, lt_f, Bool.false_eq_true, if_false]
    refine (ref_books12 _ _ (by omega)).bind fun b _ => ?_
    rw [zao]
    exact fun _ => zeh hq
theorem ref_use (l : List Int) (n : Int) (hl : l.length < 99) : Ret (zeB 100 l n) fun b => b = true → (l.length : Int) = n ∧ ∀ x ∈ l, 0 ≤ x ∧ x ≤ 1099511627776 := by
  refine zfk l (fun _ x => 0 ≤ x ∧ x ≤ 1099511627776) (fun k i h _ hr => ?_) (fun k hq => ?_) (by omega)
  · simp only [zb1, zew, zfA h, if_true, zaX h, Option.bind_some, wr1 (show i < 1000000 by omega), zar, zao, decide_eq_true_eq]
    exact ⟨by simp, fun h1 => ⟨by simp, fun h2 => hr (by omega)⟩⟩
  · simp only [zb1, lt_f, Bool.false_eq_true, if_false, zao, beq_iff_eq]
    exact fun h => ⟨h, zeh (A := fun x : Int => 0 ≤ x ∧ x ≤ 1099511627776) hq⟩
end Go.Plain
