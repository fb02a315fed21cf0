/- The law in plain Lean (2): set-ups. -/
import Derived.Test.YtffiheekdcaihaaDoorTzP1
set_option linter.all false
namespace Go.Plain
open Go.Abs
def inn (lo hi x : Int) : Bool := decide (lo ≤ x) && decide (x ≤ hi)
theorem inn_iff {lo hi x : Int} : inn lo hi x = true ↔ lo ≤ x ∧ x ≤ hi := by simp [inn]
theorem out_iff (lo hi x : Int) : (decide (x < lo) || decide (x > hi)) = true ↔ ¬(lo ≤ x ∧ x ≤ hi) := by
  simp only [Bool.or_eq_true, decide_eq_true_eq]; omega
structure VecOk (r : zac) : Prop where
  cpu : 0 ≤ r.Cpu ∧ r.Cpu ≤ 1048576
  mem : 0 ≤ r.Mem ∧ r.Mem ≤ 1048576
  gpu : 0 ≤ r.Gpu ∧ r.Gpu ≤ 1048576
  lic : 0 ≤ r.Lic ∧ r.Lic ≤ 1048576
theorem ref_vec (r : zac) : Ret (zbd 100 r) fun b => b = true ↔ VecOk r := by
  simp only [zbd, zcd, zci, zao, Option.bind_some, zar, Bool.and_eq_true, decide_eq_true_eq, Bool.false_eq_true, false_iff]
  refine ⟨fun h1 => ⟨fun h2 => ⟨fun h3 => ⟨fun h4 => ⟨h1, h2, h3, h4⟩, fun h => h.lic⟩, fun h3 h => h3 h.gpu⟩, fun h2 h => h2 h.mem⟩, fun h1 h => h1 h.cpu⟩
theorem at4x0 {a b c d : Int} : at? [a, b, c, d] 0 = some a := rfl
theorem at4x1 {a b c d : Int} : at? [a, b, c, d] 1 = some b := rfl
theorem at4x2 {a b c d : Int} : at? [a, b, c, d] 2 = some c := rfl
theorem at4x3 {a b c d : Int} : at? [a, b, c, d] 3 = some d := rfl
theorem w1 : IntKind.i64.wrap (0 + 1) = 1 := rfl
theorem w2 : IntKind.i64.wrap (1 + 1) = 2 := rfl
theorem w3 : IntKind.i64.wrap (2 + 1) = 3 := rfl
theorem w4 : IntKind.i64.wrap (3 + 1) = 4 := rfl
theorem if_out {α : Type} {lo hi x : Int} {a b : α} (h : lo ≤ x ∧ x ≤ hi) : (if (decide (x < lo) || decide (x > hi)) = true then a else b) = b := if_neg fun h' => (out_iff lo hi x).1 h' h
theorem four {f : Nat → Int → Option Bool} {a b c d lo hi : Int} (h : ∀ k x, f (k + 1) x = if (decide (x < 4)) = true then (at? [a, b, c, d] x).bind fun y => if ((decide (y < lo)) || (decide (y > hi))) = true then some false else f k (IntKind.i64.wrap (x + 1)) else some true)
    (ha : lo ≤ a ∧ a ≤ hi) (hb : lo ≤ b ∧ b ≤ hi) (hc : lo ≤ c ∧ c ≤ hi) (hd : lo ≤ d ∧ d ≤ hi) : f 100 0 = some true := by
  rw [h, if_pos (by decide), at4x0, Option.bind_some, if_out ha, w1, h, if_pos (by decide), at4x1, Option.bind_some, if_out hb, w2, h, if_pos (by decide), at4x2, Option.bind_some, if_out hc, w3, h, if_pos (by decide), at4x3, Option.bind_some, if_out hd, w4, h, if_neg (by decide)]
theorem vec_right {r : zac} (h : VecOk r) : vec_Right 100 r = some true :=
  four (f := zfg 100 (r.Cpu, r.Mem, r.Gpu, r.Lic)) (fun _ _ => by simp only [zfg]) h.cpu h.mem h.gpu h.lic
structure Rises (l : List Int) (n : Int) : Prop where
  lo : ∀ x ∈ l, 0 ≤ x
  hi : ∀ x ∈ l, x < n
  up : ∀ i (h : i + 1 < l.length), l[i] < l[i + 1]
theorem ref_rising (l : List Int) (n : Int) (hl : l.length < 99) : Ret (zcL 100 l n) fun b => b = true → Rises l n := by
  refine zfk l (fun i x => 0 ≤ x ∧ x < n ∧ ∀ j (hj : j + 1 = i) (hi : j + 1 < l.length), l[j] < l[j + 1]) (fun k i h _ hr => ?_) (fun k hq => ?_) (by omega)
  · have hd : decide ((i : Int) > 0) = decide (0 < i) := by simp
    simp only [zaY, zca, zfA h, if_true, zaX h, Option.bind_some, wr1 (show i < 1000000 by omega), zar, zao, decide_eq_true_eq, hd]
    refine ⟨by simp, fun h1 => ⟨by simp, fun h2 => ⟨fun h3 => ?_, fun h3 => ?_⟩⟩⟩
    · obtain ⟨m, rfl⟩ : ∃ m, i = m + 1 := ⟨i - 1, by omega⟩
      rw [wp1 (show m + 1 < 1000000 by omega), zaX (show m < l.length by omega)]
      simp only [Option.bind_some, zar, decide_eq_true_eq, zao]
      exact ⟨by simp, fun h4 => hr ⟨by omega, by omega, fun j hj hi => by cases hj; omega⟩⟩
    · simp only [Bool.false_eq_true, false_implies, not_false_eq_true, true_implies, true_and]
      exact hr ⟨by omega, by omega, fun j hj => by omega⟩
  · simp only [zaY, lt_f, Bool.false_eq_true, if_false, zao]
    exact fun _ => ⟨zeh fun j hj => (hq j hj).1, zeh fun j hj => (hq j hj).2.1, fun i h => (hq (i + 1) h).2.2 i rfl h⟩
theorem ascending {l : List Int} {n : Int} (hl : l.length < 99) (h : Rises l n) : zek 100 l n = some true := by
  have : Ret (zek 100 l n) (fun b => b = true) := by
    refine zfz (f := fun k i y => zcT 100 l n k y i) l.length (fun i y => ∀ h : i < l.length, y < l[i]) (fun k i y hi hy hr => ?_) (fun k y hy => ?_) ?_ (by omega)
    · simp only [zcT, zfA hi, if_true, zaX hi, Option.bind_some, wr1 (show i < 1000000 by omega)]
      have h1 := h.lo _ (List.getElem_mem hi)
      have h2 := h.hi _ (List.getElem_mem hi)
      have h3 := hy hi
      rw [if_neg (by simp only [Bool.or_eq_true, decide_eq_true_eq]; omega)]
      exact hr _ fun h' => h.up i h'
    · simp only [zcT, lt_f, Bool.false_eq_true, if_false, zao]
    · exact fun h' => by have := h.lo _ (List.getElem_mem h'); omega
  obtain ⟨_, h1, rfl⟩ := this
  exact h1
structure QueueOk (s : zab) (q : zaq) : Prop where
  part : 0 ≤ q.Part ∧ q.Part < s.Parts.length
  users : Rises q.Users s.Users
  jobs : 1 ≤ q.MaxJobs ∧ q.MaxJobs ≤ 256
  run : 1 ≤ q.MaxRun ∧ q.MaxRun ≤ 256
  user : 1 ≤ q.MaxUser ∧ q.MaxUser ≤ 256
  qos : 0 ≤ q.Qos ∧ q.Qos ≤ 100
structure SpecOk (s : zab) : Prop where
  nodes : 1 ≤ s.Nodes.length ∧ s.Nodes.length ≤ 16
  node : ∀ r ∈ s.Nodes, VecOk r
  parts : 1 ≤ s.Parts.length ∧ s.Parts.length ≤ 8
  part : ∀ p ∈ s.Parts, 1 ≤ p.length ∧ Rises p s.Nodes.length
  queues : 1 ≤ s.Queues.length ∧ s.Queues.length ≤ 8
  queue : ∀ q ∈ s.Queues, QueueOk s q
  age : 0 ≤ s.Weights.Age ∧ s.Weights.Age ≤ 1000
  size : 0 ≤ s.Weights.Size ∧ s.Weights.Size ≤ 1000
  qos : 0 ≤ s.Weights.Qos ∧ s.Weights.Qos ≤ 1000
  share : 0 ≤ s.Weights.Share ∧ s.Weights.Share ≤ 1000
  users : 1 ≤ s.Users ∧ s.Users ≤ 8
  decay : 1 ≤ s.Decay ∧ s.Decay ≤ 16
  mode : 1 ≤ s.Mode ∧ s.Mode ≤ 2
  jobs : 1 ≤ s.Jobs ∧ s.Jobs ≤ 256
  ids : 1 ≤ s.Ids ∧ s.Ids ≤ 1048576
  versions : 1 ≤ s.Versions ∧ s.Versions ≤ 65536
  linger : 0 ≤ s.Linger ∧ s.Linger ≤ 65536
  keep : 1 ≤ s.Keep ∧ s.Keep ≤ 16
  ins : 1 ≤ s.In ∧ s.In ≤ 8
  outs : 1 ≤ s.Out ∧ s.Out ≤ 16
  cache : 0 ≤ s.Cache ∧ s.Cache ≤ 16
theorem ref_in (x lo hi : Int) : zaE 100 x lo hi = some (inn lo hi x) := rfl
theorem ref_nodes {s : zab} (hf : FewS s) : Ret (zdW 100 s) fun b => b = true → (1 ≤ s.Nodes.length ∧ s.Nodes.length ≤ 16) ∧ ∀ r ∈ s.Nodes, VecOk r := by
  have := hf.nodes
  refine zfk s.Nodes (fun _ q => VecOk q) (fun k i h _ hr => ?_) (fun k hq => ?_) (by omega)
  · simp only [zcn, zfA h, if_true, zaX h, Option.bind_some, wr1 (show i < 1000000 by omega)]
    refine (ref_vec _).bind fun b hb => ?_
    simp only [zar, zao, Bool.not_eq_true', Bool.not_eq_false]
    exact ⟨by simp, fun h => hr (hb.1 h)⟩
  · simp only [zcn, lt_f, Bool.false_eq_true, if_false, zao, ref_in, Option.bind_some, inn_iff]
    exact fun h => ⟨by omega, zeh hq⟩
theorem ref_parts {s : zab} (hf : FewS s) : Ret (zdV 100 s) fun b => b = true → (1 ≤ s.Parts.length ∧ s.Parts.length ≤ 8) ∧ ∀ p ∈ s.Parts, 1 ≤ p.length ∧ Rises p s.Nodes.length := by
  have := hf.parts
  refine zfk s.Parts (fun _ p => 1 ≤ p.length ∧ Rises p s.Nodes.length) (fun k i h _ hr => ?_) (fun k hq => ?_) (by omega)
  · simp only [zbD, zdL, zfA h, if_true, zaX h, Option.bind_some, wr1 (show i < 1000000 by omega), zar, zao]
    refine ⟨by simp, fun h1 => ?_⟩
    have := hf.part _ (List.getElem_mem h)
    refine (ref_rising _ _ (by omega)).bind fun b hb => ?_
    simp only [zar, zao, Bool.not_eq_true', Bool.not_eq_false]
    simp only [decide_eq_true_eq] at h1
    exact ⟨by simp, fun h => hr ⟨by omega, hb h⟩⟩
  · simp only [zbD, lt_f, Bool.false_eq_true, if_false, zao, ref_in, Option.bind_some, inn_iff]
    exact fun h => ⟨by omega, zeh hq⟩
theorem ref_queues {s : zab} (hf : FewS s) : Ret (zdt 100 s) fun b => b = true → (1 ≤ s.Queues.length ∧ s.Queues.length ≤ 8) ∧ ∀ q ∈ s.Queues, QueueOk s q := by
  have := hf.queues
  refine zfk s.Queues (fun _ q => QueueOk s q) (fun k i h _ hr => ?_) (fun k hq => ?_) (by omega)
  · simp only [zaN, zbf, zfA h, if_true, zaX h, Option.bind_some, wr1 (show i < 1000000 by omega), zar, zao, decide_eq_true_eq, ref_in]
    refine ⟨by simp, fun h1 => ⟨by simp, fun h2 => ?_⟩⟩
    have := hf.queue _ (List.getElem_mem h)
    refine (ref_rising _ _ (by omega)).bind fun b hb => ?_
    simp only [zar, zao, Bool.not_eq_true', Bool.not_eq_false, inn_iff]
    exact ⟨by simp, fun h3 => ⟨by simp, fun h4 => ⟨by simp, fun h5 => ⟨by simp, fun h6 => ⟨by simp, fun h7 => hr ⟨by omega, hb h3, h4, h5, h6, h7⟩⟩⟩⟩⟩⟩
  · simp only [zaN, lt_f, Bool.false_eq_true, if_false, zao, ref_in, Option.bind_some, inn_iff]
    exact fun h => ⟨by omega, zeh hq⟩
def specNames : List ByteArray := [(⟨#[78, 111, 100, 101, 115]⟩ : ByteArray), (⟨#[80, 97, 114, 116, 115]⟩ : ByteArray), (⟨#[85, 115, 101, 114, 115]⟩ : ByteArray), (⟨#[81, 117, 101, 117, 101, 115]⟩ : ByteArray), (⟨#[87, 101, 105, 103, 104, 116, 115]⟩ : ByteArray), (⟨#[68, 101, 99, 97, 121]⟩ : ByteArray), (⟨#[77, 111, 100, 101]⟩ : ByteArray), (⟨#[74, 111, 98, 115]⟩ : ByteArray), (⟨#[73, 100, 115]⟩ : ByteArray), (⟨#[86, 101, 114, 115, 105, 111, 110, 115]⟩ : ByteArray), (⟨#[76, 105, 110, 103, 101, 114]⟩ : ByteArray), (⟨#[75, 101, 101, 112]⟩ : ByteArray), (⟨#[73, 110]⟩ : ByteArray), (⟨#[79, 117, 116]⟩ : ByteArray), (⟨#[67, 97, 99, 104, 101]⟩ : ByteArray)]
theorem specNames_ne : ∀ n ∈ specNames, (n.toList == (⟨#[]⟩ : ByteArray).toList) = true → False := by
  have : (specNames.all fun n => !(n.toList == (⟨#[]⟩ : ByteArray).toList)) = true := by kernel_rfl
  intro n hn h
  have := List.all_eq_true.1 this n hn
  rw [h] at this
  exact absurd this (by decide)
theorem flaw_all (b1 b2 b3 b4 b5 b6 b7 b8 b9 b10 b11 b12 b13 b14 b15 : Bool) : Ret (zb6 100 b5 b1 b2 b3 b4 b6 b7 b8 b9 b10 b11 b12 b13 b14 b15 100 0) fun r => (r.toList == (⟨#[]⟩ : ByteArray).toList) = true → b1 = true ∧ b2 = true ∧ b3 = true ∧ b4 = true ∧ b5 = true ∧ b6 = true ∧ b7 = true ∧ b8 = true ∧ b9 = true ∧ b10 = true ∧ b11 = true ∧ b12 = true ∧ b13 = true ∧ b14 = true ∧ b15 = true := by
  refine zfk [b1, b2, b3, b4, b5, b6, b7, b8, b9, b10, b11, b12, b13, b14, b15] (fun _ b => b = true) (fun k i h _ hr => ?_) (fun k hq => ?_) (by simp)
  · have hi : i < specNames.length := h
    have ht : decide ((i : Int) < 15) = true := by simp at h ⊢; omega
    have hn := specNames_ne _ (List.getElem_mem hi)
    simp only [zb6, ht, if_true, zaX h, Option.bind_some, wr1 (show i < 1000000 by simp at h; omega), zar]
    refine ⟨fun _ => ?_, fun h => hr (by simpa using h)⟩
    change Ret ((at? specNames (i : Int)).bind _) _
    rw [zaX hi, Option.bind_some, zao]
    exact fun h => (hn h).elim
  · have ht : decide (((([b1, b2, b3, b4, b5, b6, b7, b8, b9, b10, b11, b12, b13, b14, b15] : List Bool).length : Nat) : Int) < 15) = false := rfl
    simp only [zb6, ht, Bool.false_eq_true, if_false, zao]
    have := zeh (A := fun b => b = true) hq
    simp only [List.mem_cons, List.not_mem_nil, or_false, forall_eq_or_imp, forall_eq] at this
    exact fun _ => this
theorem ref_Right {s : zab} (hf : FewS s) : Ret (zc7 100 s) fun b => b = true → SpecOk s := by
  have j : ∀ w, (w = true → (0 ≤ s.Weights.Age ∧ s.Weights.Age ≤ 1000) ∧ (0 ≤ s.Weights.Size ∧ s.Weights.Size ≤ 1000) ∧ (0 ≤ s.Weights.Qos ∧ s.Weights.Qos ≤ 1000) ∧ (0 ≤ s.Weights.Share ∧ s.Weights.Share ≤ 1000)) →
      Ret (zb5 100 s w) fun r => (r.toList == (⟨#[]⟩ : ByteArray).toList) = true → SpecOk s := fun w hw => by
    unfold zb5
    refine (ref_nodes hf).bind fun b1 h1 => (ref_parts hf).bind fun b2 h2 => ?_
    rw [ref_in, Option.bind_some]
    refine (ref_queues hf).bind fun b4 h4 => ?_
    iterate 10 rw [ref_in, Option.bind_some]
    refine Ret.mono (flaw_all b1 b2 (inn 1 8 s.Users) b4 w (inn 1 16 s.Decay) (inn 1 2 s.Mode) (inn 1 256 s.Jobs) (inn 1 1048576 s.Ids) (inn 1 65536 s.Versions) (inn 0 65536 s.Linger) (inn 1 16 s.Keep) (inn 1 8 s.In) (inn 1 16 s.Out) (inn 0 16 s.Cache)) fun r hr h => ?_
    obtain ⟨g1, g2, g3, g4, g5, g6, g7, g8, g9, g10, g11, g12, g13, g14, g15⟩ := hr h
    have n := h1 g1
    have p := h2 g2
    have q := h4 g4
    have w := hw g5
    simp only [inn_iff] at g3 g6 g7 g8 g9 g10 g11 g12 g13 g14 g15
    exact ⟨n.1, n.2, p.1, p.2, q.1, q.2, w.1, w.2.1, w.2.2.1, w.2.2.2, g3, g6, g7, g8, g9, g10, g11, g12, g13, g14, g15⟩
  have k : Ret (zdq 100 s) fun r => (r.toList == (⟨#[]⟩ : ByteArray).toList) = true → SpecOk s := by
    unfold zdq
    rw [ref_in, Option.bind_some, zar]
    refine ⟨fun h1 => ?_, fun _ => j _ fun h => by cases h⟩
    rw [ref_in, Option.bind_some, zar]
    refine ⟨fun h2 => ?_, fun _ => j _ fun h => by cases h⟩
    rw [ref_in, Option.bind_some, zar]
    refine ⟨fun h3 => ?_, fun _ => j _ fun h => by cases h⟩
    rw [ref_in, Option.bind_some]
    refine j _ fun h4 => ?_
    rw [inn_iff] at h1 h2 h3 h4
    exact ⟨h1, h2, h3, h4⟩
  unfold zc7
  exact k.bind fun r hr => zao.2 hr
theorem three {f : Nat → Int → Option Bool} {a b c lo hi : Int} {e : Option Bool} (h : ∀ k x, f (k + 1) x = if (decide (x < 3)) = true then (at? [a, b, c] x).bind fun y => if ((decide (y < lo)) || (decide (y > hi))) = true then some false else f k (IntKind.i64.wrap (x + 1)) else e)
    (ha : lo ≤ a ∧ a ≤ hi) (hb : lo ≤ b ∧ b ≤ hi) (hc : lo ≤ c ∧ c ≤ hi) : f 100 0 = e := by
  rw [h, if_pos (by decide), show at? [a, b, c] 0 = some a from rfl, Option.bind_some, if_out ha, w1, h, if_pos (by decide), show at? [a, b, c] 1 = some b from rfl, Option.bind_some, if_out hb, w2, h, if_pos (by decide), show at? [a, b, c] 2 = some c from rfl, Option.bind_some, if_out hc, w3, h, if_neg (by decide)]
theorem nodes_right {s : zab} (h : SpecOk s) : zdO 100 s = some true := by
  have := h.nodes
  have : Ret (zdO 100 s) (· = true) := by
    unfold zdO
    rw [if_out (by omega)]
    refine zfk s.Nodes (fun _ _ => True) (fun k i hi _ hr => ?_) (fun k hq => ?_) (by omega)
    · simp only [zc5, zfA hi, if_true, zaX hi, Option.bind_some, wr1 (show i < 1000000 by omega), vec_right (h.node _ (List.getElem_mem hi)), Bool.not_true, Bool.false_eq_true, if_false]
      exact hr trivial
    · simp only [zc5, lt_f, Bool.false_eq_true, if_false, zao]
  obtain ⟨_, h1, rfl⟩ := this
  exact h1
theorem parts_right {s : zab} (hf : FewS s) (h : SpecOk s) : zdM 100 s = some true := by
  have := h.parts
  have : Ret (zdM 100 s) (· = true) := by
    unfold zdM
    rw [if_out (by omega)]
    refine zfk s.Parts (fun _ _ => True) (fun k i hi _ hr => ?_) (fun k hq => ?_) (by omega)
    · have h1 := h.part _ (List.getElem_mem hi)
      have h2 := hf.part _ (List.getElem_mem hi)
      simp only [zcc, zeJ, zfA hi, if_true, zaX hi, Option.bind_some, wr1 (show i < 1000000 by omega), ascending (show s.Parts[i].length < 99 by omega) h1.2, Bool.not_true, Bool.false_eq_true, if_false]
      rw [if_neg (by simp; omega)]
      exact hr trivial
    · simp only [zcc, lt_f, Bool.false_eq_true, if_false, zao]
  obtain ⟨_, h1, rfl⟩ := this
  exact h1
theorem queues_right {s : zab} (hf : FewS s) (h : SpecOk s) : zdf 100 s = some true := by
  have := h.queues
  have : Ret (zdf 100 s) (· = true) := by
    unfold zdf
    rw [if_out (by omega)]
    refine zfk s.Queues (fun _ _ => True) (fun k i hi _ hr => ?_) (fun k hq => ?_) (by omega)
    · have h1 := h.queue _ (List.getElem_mem hi)
      have h2 := hf.queue _ (List.getElem_mem hi)
      have hp := h1.part
      simp only [za0, zdA, zfA hi, if_true, zaX hi, Option.bind_some, ascending (show s.Queues[i].Users.length < 99 by omega) h1.users, Bool.not_true, Bool.false_eq_true, if_false]
      rw [if_neg (by simp only [decide_eq_true_eq]; omega), if_neg (by simp only [decide_eq_true_eq]; omega)]
      have e := three (f := zcH 100 i s.Queues[i] (za0 100 s k)) (e := if ((decide (s.Queues[i].Qos < 0)) || (decide (s.Queues[i].Qos > 100))) = true then some false else za0 100 s k (IntKind.i64.wrap ((i : Int) + 1))) (fun _ _ => by simp only [zcH]) h1.jobs h1.run h1.user
      rw [e, if_out h1.qos, wr1 (show i < 1000000 by omega)]
      exact hr trivial
    · simp only [za0, lt_f, Bool.false_eq_true, if_false, zao]
  obtain ⟨_, h1, rfl⟩ := this
  exact h1
theorem weights_right {s : zab} (h : SpecOk s) : zer 100 s.Weights = some true :=
  four (f := zcA 100 s.Weights) (fun _ _ => by simp only [zcA]) h.age h.size h.qos h.share
theorem zel {lo x hi : Int} (h : lo ≤ x ∧ x ≤ hi) : zbK 100 lo x hi = some true := by
  unfold zbK
  simp [h.1, h.2]
theorem spec_right {s : zab} (hf : FewS s) (h : SpecOk s) : spec_Right 100 s = some true := by
  have hm : zfd 100 s = some true := by
    have := h.mode
    rcases (show s.Mode = 1 ∨ s.Mode = 2 by omega) with e | e <;> simp [zfd, e]
  simp only [spec_Right, spec_Flaw, spec_rules, zcK, Option.bind_some, zfv, zfx, zfy, zfw, nodes_right h, parts_right hf h, queues_right hf h, weights_right h, hm,
    zel h.users, zel h.decay, zel h.jobs, zel h.ids, zel h.versions, zel h.linger, zel h.keep, zel h.ins, zel h.outs, zel h.cache, Bool.not_true, Bool.false_eq_true, if_false, beq_self_eq_true]
end Go.Plain
