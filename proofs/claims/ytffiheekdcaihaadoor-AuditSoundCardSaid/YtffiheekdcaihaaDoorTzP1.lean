/- The law in plain Lean (1): total correctness of the generated functions; loops; the cuts. -/
import Derived.Test.YtffiheekdcaihaaDoorTzPure
import Derived.KernelRfl
import Derived.Laws.BitsLemmas
set_option linter.all false
namespace Go.Plain
open Go.Abs
theorem wr {x : Int} (h0 : -9223372036854775808 ≤ x) (h1 : x < 9223372036854775808) : IntKind.i64.wrap x = x := by rw [IntKind.wrap_i64]; omega
theorem wr1 {i : Nat} (h : i < 1000000) : IntKind.i64.wrap ((i : Int) + 1) = ((i + 1 : Nat) : Int) := by rw [wr (by omega) (by omega)]; rfl
theorem wp1 {i : Nat} (h : i + 1 < 1000000) : IntKind.i64.wrap (((i + 1 : Nat) : Int) - 1) = (i : Int) := by rw [wr (by omega) (by omega)]; omega
theorem zaX {α : Type} {l : List α} {i : Nat} (h : i < l.length) : at? l (i : Int) = some l[i] := by
  unfold at?
  rw [if_pos ⟨by omega, by omega⟩]
  simp [h]
theorem at_int {α : Type} {l : List α} {x : Int} (h0 : 0 ≤ x) (h : x < l.length) : ∃ h' : x.toNat < l.length, at? l x = some (l[x.toNat]'h') := by
  have h' : x.toNat < l.length := by omega
  refine ⟨h', ?_⟩
  unfold at?
  rw [if_pos ⟨h0, h⟩, List.getElem?_eq_getElem h']
theorem zfA {i n : Nat} (h : i < n) : decide ((i : Int) < (n : Int)) = true := by simp; omega
theorem lt_f {n : Nat} : decide ((n : Int) < (n : Int)) = false := by simp
theorem app_ok {α : Type} {l m : List α} (h : l.length + m.length ≤ 1000000) : app? l m = some (l ++ m) := by unfold app?; rw [if_pos h]
def Ret {β : Type} (o : Option β) (Q : β → Prop) : Prop := ∃ r, o = some r ∧ Q r
section
variable {α β γ σ : Type} {o : Option α} {P Q : α → Prop}
theorem Ret.mono (h : Ret o P) (hp : ∀ r, P r → Q r) : Ret o Q := by obtain ⟨r, h1, h2⟩ := h; exact ⟨r, h1, hp r h2⟩
theorem Ret.bind {f : α → Option β} {R : β → Prop} (h : Ret o P) (hp : ∀ r, P r → Ret (f r) R) : Ret (o.bind f) R := by
  obtain ⟨r, rfl, h2⟩ := h; exact hp r h2
theorem zao {r : α} : Ret (some r) Q ↔ Q r := by simp [Ret]
theorem ret_bind {f : α → Option β} {R : β → Prop} : Ret (o.bind f) R ↔ Ret o fun r => Ret (f r) R := by
  cases o <;> simp [Ret]
theorem zar {c : Prop} [Decidable c] {a b : Option α} : Ret (if c then a else b) Q ↔ (c → Ret a Q) ∧ (¬c → Ret b Q) := by
  by_cases h : c <;> simp [h]
theorem zfz {f : Nat → Int → σ → Option β} {R : β → Prop} (n : Nat) (Inv : Nat → σ → Prop)
    (hs : ∀ k i y, i < n → Inv i y → (∀ y', Inv (i + 1) y' → Ret (f k ((i + 1 : Nat) : Int) y') R) → Ret (f (k + 1) (i : Int) y) R)
    (he : ∀ k y, Inv n y → Ret (f (k + 1) (n : Int) y) R) {y : σ} (h0 : Inv 0 y) {k : Nat} (hk : n < k) : Ret (f k 0 y) R := by
  have : ∀ k i y, i ≤ n → n < i + k → Inv i y → Ret (f k (i : Int) y) R := by
    intro k
    induction k with
    | zero => intro i y h h'; omega
    | succ k ih =>
      intro i y h h' hi
      rcases Nat.lt_or_eq_of_le h with hlt | rfl
      · exact hs k i y hlt hi fun y' hy' => ih (i + 1) y' hlt (by omega) hy'
      · exact he k y hi
  exact this k 0 y (Nat.zero_le _) (by omega) h0
theorem loop0 {f : Nat → Int → Option β} {R : β → Prop} (n : Nat) (Inv : Nat → Prop)
    (hs : ∀ k i, i < n → Inv i → (Inv (i + 1) → Ret (f k ((i + 1 : Nat) : Int)) R) → Ret (f (k + 1) (i : Int)) R)
    (he : ∀ k, Inv n → Ret (f (k + 1) (n : Int)) R) (h0 : Inv 0) {k : Nat} (hk : n < k) : Ret (f k 0) R :=
  zfz (f := fun k i (_ : Unit) => f k i) n (fun i _ => Inv i) (fun k i _ h1 h2 h3 => hs k i h1 h2 fun h => h3 () h) (fun k _ h => he k h) (y := ()) h0 hk
theorem zfk {f : Nat → Int → Option β} {R : β → Prop} (l : List γ) (A : Nat → γ → Prop)
    (hs : ∀ k i (h : i < l.length), (∀ j (hj : j < l.length), j < i → A j l[j]) → (A i l[i] → Ret (f k ((i + 1 : Nat) : Int)) R) → Ret (f (k + 1) (i : Int)) R)
    (he : ∀ k, (∀ j (hj : j < l.length), A j l[j]) → Ret (f (k + 1) (l.length : Int)) R) {k : Nat} (hk : l.length < k) : Ret (f k 0) R :=
  loop0 l.length (fun i => ∀ j (hj : j < l.length), j < i → A j l[j]) (fun k i h1 h2 h3 => hs k i h1 h2 fun h => h3 fun j hj hji => by
      rcases Nat.lt_or_eq_of_le (Nat.lt_succ_iff.1 hji) with h | h
      · exact h2 j hj h
      · subst h; assumption)
    (fun k h => he k fun j hj => h j hj hj) (fun j hj h => absurd h (by omega)) hk
end
theorem zeh {α : Type} {l : List α} {A : α → Prop} (h : ∀ j (hj : j < l.length), A l[j]) : ∀ a ∈ l, A a := fun a ha => by
  obtain ⟨i, hi, rfl⟩ := List.getElem_of_mem ha
  exact h i hi
structure FewS (s : zab) : Prop where
  nodes : s.Nodes.length ≤ 40
  parts : s.Parts.length ≤ 20
  queues : s.Queues.length ≤ 20
  part : ∀ p ∈ s.Parts, p.length ≤ 40
  queue : ∀ q ∈ s.Queues, q.Users.length ≤ 40
theorem few07 (s : zab) : Ret (zd6 100 s) fun r => r = true → FewS s := by
  simp only [zd6, zar, zao]
  refine ⟨by simp, fun h => ?_⟩
  simp only [Bool.or_eq_true, decide_eq_true_eq, not_or, Int.not_lt] at h
  obtain ⟨h1, h2, h3⟩ := h
  have l0 : (∀ a ∈ s.Parts, a.length ≤ 40) → Ret (zck 100 s 100 0) fun r => r = true → FewS s := fun hp => by
    refine zfk s.Queues (fun _ q => q.Users.length ≤ 40) (fun k i h _ hr => ?_) (fun k hq => ?_) (by omega)
    · simp only [zck, zfA h, if_true, zaX h, Option.bind_some, wr1 (show i < 1000000 by omega), zar, zao, decide_eq_true_eq]
      exact ⟨by simp, fun h => hr (by omega)⟩
    · simp only [zck, lt_f, Bool.false_eq_true, if_false, zao]
      exact fun _ => ⟨by omega, by omega, by omega, hp, zeh hq⟩
  refine zfk s.Parts (fun _ q => q.length ≤ 40) (fun k i h _ hr => ?_) (fun k hq => ?_) (by omega)
  · simp only [zcI, zfA h, if_true, zaX h, Option.bind_some, wr1 (show i < 1000000 by omega), zar, zao, decide_eq_true_eq]
    exact ⟨by simp, fun h => hr (by omega)⟩
  · simp only [zcI, lt_f, Bool.false_eq_true, if_false]
    exact l0 (zeh hq)
theorem few17 (l : List zad) : Ret (zd7 100 l) fun r => r = true → l.length ≤ 30 ∧ ∀ j ∈ l, j.After.length ≤ 10 := by
  simp only [zd7, zar, zao, decide_eq_true_eq]
  refine ⟨by simp, fun h => ?_⟩
  refine zfk l (fun _ q => q.After.length ≤ 10) (fun k i h _ hr => ?_) (fun k hq => ?_) (by omega)
  · simp only [zcP, zfA h, if_true, zaX h, Option.bind_some, wr1 (show i < 1000000 by omega), zar, zao, decide_eq_true_eq]
    exact ⟨by simp, fun h => hr (by omega)⟩
  · simp only [zcP, lt_f, Bool.false_eq_true, if_false, zao]
    exact fun _ => ⟨by omega, zeh hq⟩
structure FewW (s : zab) (st : zag) : Prop where
  spec : FewS s
  jobs : st.Jobs.length ≤ 30
  after : ∀ j ∈ st.Jobs, j.After.length ≤ 10
  allocs : st.Allocs.length ≤ 40
  books : st.Books.length ≤ 20
  use : st.Use.length ≤ 20
  stamps : st.Stamps.Queues.length ≤ 20
  shares : ∀ a ∈ st.Allocs, a.Shares.length ≤ 40
theorem few23 (s : zab) (st : zag) : Ret (zd9 100 s st) fun r => r = true → FewW s st := by
  unfold zd9
  refine (few07 s).bind fun r hr => ?_
  simp only [zbX, if_true, zao, zar]
  refine ⟨by simp, fun h => ?_⟩
  refine (few17 st.Jobs).bind fun r' hr' => ?_
  simp only [Bool.not_eq_true', Bool.not_eq_false] at h
  have h1 := hr h
  simp only [zar, zao, decide_eq_true_eq]
  refine ⟨by simp, fun h => ⟨by simp, fun h3 => ⟨by simp, fun h4 => ⟨by simp, fun h5 => ⟨by simp, fun h6 => ?_⟩⟩⟩⟩⟩
  simp only [Bool.not_eq_true', Bool.not_eq_false] at h
  have h2 := hr' h
  refine zfk st.Allocs (fun _ q => q.Shares.length ≤ 40) (fun k i h _ hr => ?_) (fun k hq => ?_) (by omega)
  · simp only [zcN, zfA h, if_true, zaX h, Option.bind_some, wr1 (show i < 1000000 by omega), zar, zao, decide_eq_true_eq]
    exact ⟨by simp, fun h => hr (by omega)⟩
  · simp only [zcN, lt_f, Bool.false_eq_true, if_false, zao]
    exact fun _ => ⟨h1, h2.1, h2.2, by omega, by omega, by omega, by omega, zeh hq⟩
theorem awake_plain : zd3 100 = some true := by kernel_rfl
end Go.Plain
