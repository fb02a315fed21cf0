/- The law in plain Lean (3): what soundness says. -/
import Derived.Test.YtffiheekdcaihaaDoorTzP2
set_option linter.all false
namespace Go.Plain
open Go.Abs
def tot {α : Type} (g : α → Int) : List α → Int
  | [] => 0
  | a :: l => g a + tot g l
theorem tot_append {α : Type} (g : α → Int) (l m : List α) : tot g (l ++ m) = tot g l + tot g m := by
  induction l with
  | nil => simp [tot]
  | cons a l ih => simp only [List.cons_append, tot, ih]; omega
theorem tot_take {α : Type} (g : α → Int) (l : List α) {i : Nat} (h : i < l.length) : tot g (l.take (i + 1)) = tot g (l.take i) + g l[i] := by
  rw [List.take_succ_eq_append_getElem h, tot_append]; simp [tot]
theorem tot_bound {α : Type} (g : α → Int) (B : Int) (hB : 0 ≤ B) (l : List α) (h : ∀ a ∈ l, 0 ≤ g a ∧ g a ≤ B) : 0 ≤ tot g l ∧ tot g l ≤ B * l.length := by
  induction l with
  | nil => simp [tot]
  | cons a l ih =>
    have h1 := ih fun b hb => h b (List.mem_cons_of_mem _ hb)
    have h2 := h a List.mem_cons_self
    have : B * ((a :: l).length : Int) = B * (l.length : Int) + B := by rw [List.length_cons]; push_cast; rw [Int.mul_add, Int.mul_one]
    simp only [tot]
    omega
theorem mem_take {α : Type} {l : List α} {i : Nat} {a : α} (h : a ∈ l.take i) : a ∈ l := (List.take_subset i l) h
structure ShareOk (l : List zak) (n : Int) : Prop where
  lo : ∀ x ∈ l, 0 ≤ x.Node ∧ x.Node < n
  many : ∀ x ∈ l, 1 ≤ x.Many ∧ x.Many ≤ 64
  up : ∀ i (h : i + 1 < l.length), l[i].Node < l[i + 1].Node
def on (n : Int) (l : List zak) : Int := tot (fun x => if x.Node = n then x.Many else 0) l
theorem ShareOk.pair {l : List zak} {n : Int} (h : ShareOk l n) : l.Pairwise fun a b => a.Node < b.Node := by
  rw [List.pairwise_iff_getElem]
  intro i j hi hj hij
  obtain ⟨d, rfl⟩ : ∃ d, j = i + 1 + d := ⟨j - i - 1, by omega⟩
  induction d with
  | zero => exact h.up i hj
  | succ d ih => exact Int.lt_trans (ih (by omega) (by omega)) (h.up (i + 1 + d) hj)
theorem on_zero {n : Int} {l : List zak} (h : ∀ x ∈ l, x.Node ≠ n) : on n l = 0 := by
  induction l with
  | nil => rfl
  | cons a l ih =>
    have := ih fun x hx => h x (List.mem_cons_of_mem _ hx)
    simp only [on, tot] at this ⊢
    rw [this, if_neg (h a List.mem_cons_self)]
    rfl
theorem on_le {m : Int} {l : List zak} (hp : l.Pairwise fun a b => a.Node < b.Node) (hm : ∀ x ∈ l, 1 ≤ x.Many ∧ x.Many ≤ 64) : 0 ≤ on m l ∧ on m l ≤ 64 := by
  induction l with
  | nil => simp [on, tot]
  | cons a l ih =>
    rw [List.pairwise_cons] at hp
    have h1 := ih hp.2 fun x hx => hm x (List.mem_cons_of_mem _ hx)
    have h2 := hm a List.mem_cons_self
    show 0 ≤ (if a.Node = m then a.Many else 0) + on m l ∧ (if a.Node = m then a.Many else 0) + on m l ≤ 64
    split
    · rename_i e
      rw [on_zero fun x hx => by have := hp.1 x hx; omega]
      omega
    · omega
theorem on_pos {m : Int} {l : List zak} (hm : ∀ x ∈ l, 1 ≤ x.Many ∧ x.Many ≤ 64) {x : zak} (hx : x ∈ l) (h : x.Node = m) : 0 < on m l := by
  induction l with
  | nil => simp at hx
  | cons a l ih =>
    have h2 := hm a List.mem_cons_self
    have h3 := tot_bound (fun x : zak => if x.Node = m then x.Many else 0) 64 (by omega) l fun b hb => by
      have := hm b (List.mem_cons_of_mem _ hb)
      show 0 ≤ (if b.Node = m then b.Many else 0) ∧ (if b.Node = m then b.Many else 0) ≤ 64
      split <;> omega
    show 0 < (if a.Node = m then a.Many else 0) + tot _ l
    rcases List.mem_cons.1 hx with rfl | hx
    · rw [if_pos h]; omega
    · have : 0 < tot _ l := ih (fun x hx => hm x (List.mem_cons_of_mem _ hx)) hx
      split <;> omega
theorem ref_shares (l : List zak) (n : Int) (hl : l.length < 99) : Ret (zcb 100 l n) fun b => b = true → ShareOk l n := by
  refine zfk l (fun i x => (0 ≤ x.Node ∧ x.Node < n) ∧ (1 ≤ x.Many ∧ x.Many ≤ 64) ∧ ∀ j (hj : j + 1 = i) (hi : j + 1 < l.length), l[j].Node < l[j + 1].Node) (fun k i h _ hr => ?_) (fun k hq => ?_) (by omega)
  · have hd : decide ((i : Int) > 0) = decide (0 < i) := by simp
    simp only [zaU, zbC, zfA h, if_true, zaX h, Option.bind_some, wr1 (show i < 1000000 by omega), zar, zao, decide_eq_true_eq, hd]
    refine ⟨by simp, fun h1 => ⟨by simp, fun h2 => ⟨by simp, fun h3 => ⟨by simp, fun h4 => ⟨fun h5 => ?_, fun h5 => ?_⟩⟩⟩⟩⟩
    · obtain ⟨m, rfl⟩ : ∃ m, i = m + 1 := ⟨i - 1, by omega⟩
      rw [wp1 (show m + 1 < 1000000 by omega), zaX (show m < l.length by omega)]
      simp only [Option.bind_some, zar, zao, decide_eq_true_eq]
      exact ⟨by simp, fun h4 => hr ⟨by omega, by omega, fun j hj hi => by cases hj; omega⟩⟩
    · simp only [Bool.false_eq_true, false_implies, not_false_eq_true, true_implies, true_and]
      exact hr ⟨by omega, by omega, fun j hj => by omega⟩
  · simp only [zaU, lt_f, Bool.false_eq_true, if_false, zao]
    exact fun _ => ⟨zeh fun j hj => (hq j hj).1, zeh fun j hj => (hq j hj).2.1, fun i h => (hq (i + 1) h).2.2 i rfl h⟩
structure J16 (j : zad) : Prop where
  id : 1 ≤ j.Id ∧ j.Id ≤ 1048576
  user : 0 ≤ j.User ∧ j.User ≤ 7
  queue : 0 ≤ j.Queue ∧ j.Queue ≤ 7
  many : 1 ≤ j.Many ∧ j.Many ≤ 64
  need : VecOk j.Need
  some : ¬(j.Need.Cpu ≤ 0 ∧ j.Need.Mem ≤ 0 ∧ j.Need.Gpu ≤ 0 ∧ j.Need.Lic ≤ 0)
  wall : 1 ≤ j.Wall ∧ j.Wall ≤ 65536
  deps : j.After.length ≤ 4
  after : ∀ d ∈ j.After, 1 ≤ d.Job ∧ d.Job ≤ IntKind.i64.wrap (j.Id - 1)
  version : 1 ≤ j.Version ∧ j.Version ≤ 281474976710656
  born : 0 ≤ j.Born ∧ j.Born ≤ 1099511627776
  start : 0 ≤ j.Start ∧ j.Start ≤ 1099511627776
  stop : 0 ≤ j.End ∧ j.End ≤ 1099511627776
  array : 0 ≤ j.Array ∧ j.Array ≤ j.Id
  state : 1 ≤ j.State ∧ j.State ≤ 6
  s1 : j.State ≤ 2 → j.Start = 0
  s2 : j.State ≤ 4 → j.End = 0
  ok : j.Ok = true → j.State = 4 ∨ j.State = 5
  kill : j.Kill = true → j.State = 4 ∨ j.State = 6
theorem zfo (x lo hi : Int) : za3 100 x lo hi = some (inn lo hi x) := rfl
theorem ref_job16 (j : zad) (hl : j.After.length < 99) : Ret (zdS 100 j) fun b => b = true → J16 j := by
  refine zfk j.After (fun i d => 1 ≤ d.Job ∧ d.Job ≤ IntKind.i64.wrap (j.Id - 1)) (fun k i h _ hr => ?_) (fun k hq => ?_) (by omega)
  · simp only [zco, zfA h, if_true, zaX h, Option.bind_some, wr1 (show i < 1000000 by omega), zar, zao, zfo, Bool.not_eq_true', Bool.not_eq_false, inn_iff]
    exact ⟨by simp, hr⟩
  · have ha := zeh (A := fun d : za4 => 1 ≤ d.Job ∧ d.Job ≤ IntKind.i64.wrap (j.Id - 1)) hq
    simp only [zco, lt_f, Bool.false_eq_true, if_false]
    rw [zar]
    refine ⟨fun _ => by simp [zaJ, zao], fun g1 => ?_⟩
    rw [zfo, Option.bind_some, zar]
    refine ⟨fun _ => by simp [zaJ, zao], fun g2 => ?_⟩
    rw [zfo, Option.bind_some, zar]
    refine ⟨fun _ => by simp [zaJ, zao], fun g3 => ?_⟩
    rw [zfo, Option.bind_some, zar]
    refine ⟨fun _ => by simp [zaJ, zao], fun g4 => ?_⟩
    rw [zfo, Option.bind_some, zar]
    refine ⟨fun _ => by simp [zaJ, zao], fun g5 => ?_⟩
    refine (ref_vec _).bind fun b hb => ?_
    rw [zar]
    refine ⟨fun _ => by simp [zaJ, zao], fun g6 => ?_⟩
    simp only [zbL, Option.bind_some]
    unfold zaJ
    rw [zar]
    refine ⟨fun _ => by simp [zao], fun g7 => ?_⟩
    rw [zfo, Option.bind_some, zar]
    refine ⟨fun _ => by simp [zbm, zao], fun g8 => ?_⟩
    rw [zfo, Option.bind_some, zar]
    refine ⟨fun _ => by simp [zbm, zao], fun g9 => ?_⟩
    rw [zfo, Option.bind_some, zar]
    refine ⟨fun _ => by simp [zbm, zao], fun g10 => ?_⟩
    rw [zfo, Option.bind_some]
    unfold zbm
    rw [zar]
    refine ⟨fun _ => by simp [zao], fun g11 => ?_⟩
    rw [zfo, Option.bind_some, zar]
    refine ⟨fun _ => by simp [zbP, zao], fun g12 => ?_⟩
    rw [zfo, Option.bind_some, zar]
    refine ⟨fun _ => by simp [zbP, zao], fun g13 => ?_⟩
    rw [zfo, Option.bind_some]
    unfold zbP
    rw [zar]
    refine ⟨fun _ => by simp [zao], fun g14 => ?_⟩
    rw [zar]
    refine ⟨fun _ => by simp [zao], fun g15 => ?_⟩
    rw [zao]
    intro g16
    simp only [Bool.not_eq_true', Bool.not_eq_false, inn_iff, decide_eq_true_eq, Int.not_lt] at g1 g2 g3 g4 g5 g6 g8 g9 g10 g11 g12 g13 g14
    have gs1 : j.State ≤ 2 → j.Start = 0 := fun h => by
      rw [if_pos (by simpa using h)] at g15
      simp at g15
      exact g15.1
    have gs2 : j.State ≤ 4 → j.End = 0 := fun h => by
      by_cases h2 : j.State ≤ 2
      · rw [if_pos (by simpa using h2)] at g15
        simp at g15
        exact g15.2 h
      · rw [if_neg (by simpa using h2)] at g15
        simp at g15
        exact g15 h
    have gok : j.Ok = true → j.State = 4 ∨ j.State = 5 := fun h => by
      rw [if_neg (by simp [h])] at g16
      simp at g16
      rcases g16 with h | h
      · exact .inl h
      · exact .inr h.1
    have gk : j.Kill = true → j.State = 4 ∨ j.State = 6 := fun h => by
      cases ho : j.Ok
      · rw [if_pos (by simp [ho])] at g16
        simp [h] at g16
        exact g16
      · rw [if_neg (by simp [ho])] at g16
        simp [h] at g16
        rcases g16 with h | h
        · exact .inl h
        · exact .inr h.2
    exact ⟨g2, g3, g4, g5, hb.1 g6, fun h => g7 (by simp only [Bool.and_eq_true, decide_eq_true_eq]; exact h), g8, by omega, ha, g10, g12, g13, g14, g11, g9, gs1, gs2, gok, gk⟩
theorem find17 (l : List zad) (x : Int) (hl : l.length < 99) : Ret (zb3 100 l x) fun r => (r = -1 ∧ ∀ j ∈ l, j.Id ≠ x) ∨ ∃ (i : Nat) (h : i < l.length), r = i ∧ l[i].Id = x := by
  refine zfk l (fun _ j => j.Id ≠ x) (fun k i h _ hr => ?_) (fun k hq => ?_) (by omega)
  · simp only [zcy, zfA h, if_true, zaX h, Option.bind_some, wr1 (show i < 1000000 by omega), zar, zao, beq_iff_eq]
    exact ⟨fun e => .inr ⟨i, h, rfl, e⟩, hr⟩
  · simp only [zcy, lt_f, Bool.false_eq_true, if_false, zao]
    exact .inl ⟨trivial, zeh hq⟩
theorem find14 (l : List zai) (x : Int) (hl : l.length < 99) : Ret (zep 100 l x) fun r => (r = -1 ∧ ∀ j ∈ l, j.Job ≠ x) ∨ ∃ (i : Nat) (h : i < l.length), r = i ∧ l[i].Job = x := by
  refine zfk l (fun _ j => j.Job ≠ x) (fun k i h _ hr => ?_) (fun k hq => ?_) (by omega)
  · simp only [zcz, zfA h, if_true, zaX h, Option.bind_some, wr1 (show i < 1000000 by omega), zar, zao, beq_iff_eq]
    exact ⟨fun e => .inr ⟨i, h, rfl, e⟩, hr⟩
  · simp only [zcz, lt_f, Bool.false_eq_true, if_false, zao]
    exact .inl ⟨trivial, zeh hq⟩
theorem ref_on {l : List zak} {n : Int} (m : Int) (hl : l.length < 99) (h : ShareOk l n) : Ret (zex 100 l m) fun r => r = on m l := by
  refine zfz (f := fun k i y => zbO 100 l m k y i) l.length (fun i y => y = on m (l.take i)) (fun k i y hi hy hr => ?_) (fun k y hy => ?_) (by simp [on, tot]) (by omega)
  · have hb := tot_bound (fun x : zak => if x.Node = m then x.Many else 0) 64 (by omega) (l.take i) fun b hb => by
      have := h.many b (mem_take hb)
      show 0 ≤ (if b.Node = m then b.Many else 0) ∧ (if b.Node = m then b.Many else 0) ≤ 64
      split <;> omega
    have hm := h.many _ (List.getElem_mem hi)
    have ht := tot_take (fun x : zak => if x.Node = m then x.Many else 0) l hi
    rw [List.length_take, Nat.min_eq_left (by omega)] at hb
    simp only [zbO, zeF, zfA hi, if_true, zaX hi, Option.bind_some, wr1 (show i < 1000000 by omega), zar, beq_iff_eq]
    change y = tot _ _ at hy
    refine ⟨fun e => ?_, fun e => ?_⟩
    · rw [wr (by omega) (by omega)]
      refine hr _ ?_
      show _ = tot _ _
      rw [ht, hy, if_pos e]
    · refine hr _ ?_
      show _ = tot _ _
      rw [ht, hy, if_neg e]
      omega
  · simp only [zbO, lt_f, Bool.false_eq_true, if_false, zao, hy, List.take_length]
end Go.Plain
