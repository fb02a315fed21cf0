/- Cells of a known shape are the cells of a value. -/
import Derived.Test.YtffiheekdcaihaaDoorTzTypes
import Derived.Test.YtffiheekdcaihaaDoorDfwW
set_option linter.all false
namespace Go.Abs
variable [Gl]
def Shp (shs : List Sh) (xs : List C) : Prop := xs.length = shs.length ∧ ∀ (i : Nat) t x, shs[i]? = some t → xs[i]? = some x → Shaped t x
theorem Shp.cons {s : Sh} {shs : List Sh} {xs : List C} (h : Shp (s :: shs) xs) : ∃ x ys, xs = x :: ys ∧ Shaped s x ∧ Shp shs ys := by
  obtain ⟨hl, h⟩ := h
  match xs, hl, h with
  | x :: ys, hl, h => exact ⟨x, ys, rfl, h 0 s x rfl rfl, by simpa using hl, fun i t y h1 h2 => h (i + 1) t y (by simpa using h1) (by simpa using h2)⟩
theorem Shp.nil {xs : List C} (h : Shp [] xs) : xs = [] := by simpa using h.1
theorem sl_dec {α : Type} {f : α → List C} {shs : List Sh} {x : C} (hf : ∀ xs, Shp shs xs → ∃ a, xs = f a) (h : Shaped (.sl shs) x) : ∃ l : List α, x = .frz false (l.map f) := by
  cases h with
  | sl hl hn hh =>
    rename_i es
    have : ∃ l : List α, es = l.map f := by
      clear hl
      induction es with
      | nil => exact ⟨[], rfl⟩
      | cons y es ih =>
        obtain ⟨a, ha⟩ := hf y ⟨hn y (by simp), hh y (by simp)⟩
        obtain ⟨l, hl⟩ := ih (fun z hz => hn z (by simp [hz])) (fun z hz => hh z (by simp [hz]))
        exact ⟨a :: l, by rw [ha, hl]; rfl⟩
    obtain ⟨l, rfl⟩ := this
    exact ⟨l, rfl⟩
theorem zaW {k : IntKind} {x : C} (h : Shaped (.int k) x) : ∃ n, x = .lit (.int k n) := by cases h with | int h => exact ⟨_, rfl⟩
theorem bool_dec {x : C} (h : Shaped .bool x) : ∃ b, x = .lit (.bool b) := by cases h with | bool b => exact ⟨_, rfl⟩
theorem str_dec {x : C} (h : Shaped .str x) : ∃ b, x = .lit (.string b) := by cases h with | str b => exact ⟨_, rfl⟩
theorem one_dec {α : Type} {s : Sh} {f : α → C} (hf : ∀ x, Shaped s x → ∃ a, x = f a) : ∀ xs, Shp [s] xs → ∃ a, xs = [f a] := fun xs h => by
  obtain ⟨x, ys, rfl, h1, h2⟩ := h.cons
  obtain ⟨a, rfl⟩ := hf x h1
  exact ⟨a, by rw [h2.nil]⟩
theorem api_Res_dec : ∀ xs, Shp [.int .i64, .int .i64, .int .i64, .int .i64] xs → ∃ a, xs = zac.enc a := fun xs h0 => by
  obtain ⟨x0, ys0, rfl, s0, h1⟩ := h0.cons
  obtain ⟨n0, rfl⟩ := zaW s0
  obtain ⟨x1, ys1, rfl, s1, h2⟩ := h1.cons
  obtain ⟨n1, rfl⟩ := zaW s1
  obtain ⟨x2, ys2, rfl, s2, h3⟩ := h2.cons
  obtain ⟨n2, rfl⟩ := zaW s2
  obtain ⟨x3, ys3, rfl, s3, h4⟩ := h3.cons
  obtain ⟨n3, rfl⟩ := zaW s3
  cases h4.nil
  exact ⟨⟨n0, n1, n2, n3⟩, rfl⟩
theorem api_Queue_dec : ∀ xs, Shp [.int .i64, .sl [.int .i64], .int .i64, .int .i64, .int .i64, .int .i64] xs → ∃ a, xs = zaq.enc a := fun xs h0 => by
  obtain ⟨x0, ys0, rfl, s0, h1⟩ := h0.cons
  obtain ⟨n0, rfl⟩ := zaW s0
  obtain ⟨x1, ys1, rfl, s1, h2⟩ := h1.cons
  obtain ⟨n1, rfl⟩ := (sl_dec (one_dec (fun _ h => zaW h))) s1
  obtain ⟨x2, ys2, rfl, s2, h3⟩ := h2.cons
  obtain ⟨n2, rfl⟩ := zaW s2
  obtain ⟨x3, ys3, rfl, s3, h4⟩ := h3.cons
  obtain ⟨n3, rfl⟩ := zaW s3
  obtain ⟨x4, ys4, rfl, s4, h5⟩ := h4.cons
  obtain ⟨n4, rfl⟩ := zaW s4
  obtain ⟨x5, ys5, rfl, s5, h6⟩ := h5.cons
  obtain ⟨n5, rfl⟩ := zaW s5
  cases h6.nil
  exact ⟨⟨n0, n1, n2, n3, n4, n5⟩, rfl⟩
theorem api_Dep_dec : ∀ xs, Shp [.int .i64, .bool] xs → ∃ a, xs = za4.enc a := fun xs h0 => by
  obtain ⟨x0, ys0, rfl, s0, h1⟩ := h0.cons
  obtain ⟨n0, rfl⟩ := zaW s0
  obtain ⟨x1, ys1, rfl, s1, h2⟩ := h1.cons
  obtain ⟨n1, rfl⟩ := bool_dec s1
  cases h2.nil
  exact ⟨⟨n0, n1⟩, rfl⟩
theorem api_Job_dec : ∀ xs, Shp [.int .i64, .int .i64, .int .i64, .int .i64, .int .i64, .int .i64, .int .i64, .int .i64, .int .i64, .sl [.int .i64, .bool], .int .i64, .bool, .bool, .int .i64, .int .i64, .int .i64, .int .i64, .int .i64] xs → ∃ a, xs = zad.enc a := fun xs h0 => by
  obtain ⟨x0, ys0, rfl, s0, h1⟩ := h0.cons
  obtain ⟨n0, rfl⟩ := zaW s0
  obtain ⟨x1, ys1, rfl, s1, h2⟩ := h1.cons
  obtain ⟨n1, rfl⟩ := zaW s1
  obtain ⟨x2, ys2, rfl, s2, h3⟩ := h2.cons
  obtain ⟨n2, rfl⟩ := zaW s2
  obtain ⟨x3, ys3, rfl, s3, h4⟩ := h3.cons
  obtain ⟨n3, rfl⟩ := zaW s3
  obtain ⟨x4, ys4, rfl, s4, h5⟩ := h4.cons
  obtain ⟨n4, rfl⟩ := zaW s4
  obtain ⟨x5, ys5, rfl, s5, h6⟩ := h5.cons
  obtain ⟨n5, rfl⟩ := zaW s5
  obtain ⟨x6, ys6, rfl, s6, h7⟩ := h6.cons
  obtain ⟨n6, rfl⟩ := zaW s6
  obtain ⟨x7, ys7, rfl, s7, h8⟩ := h7.cons
  obtain ⟨n7, rfl⟩ := zaW s7
  obtain ⟨x8, ys8, rfl, s8, h9⟩ := h8.cons
  obtain ⟨n8, rfl⟩ := zaW s8
  obtain ⟨x9, ys9, rfl, s9, h10⟩ := h9.cons
  obtain ⟨n9, rfl⟩ := (sl_dec api_Dep_dec) s9
  obtain ⟨x10, ys10, rfl, s10, h11⟩ := h10.cons
  obtain ⟨n10, rfl⟩ := zaW s10
  obtain ⟨x11, ys11, rfl, s11, h12⟩ := h11.cons
  obtain ⟨n11, rfl⟩ := bool_dec s11
  obtain ⟨x12, ys12, rfl, s12, h13⟩ := h12.cons
  obtain ⟨n12, rfl⟩ := bool_dec s12
  obtain ⟨x13, ys13, rfl, s13, h14⟩ := h13.cons
  obtain ⟨n13, rfl⟩ := zaW s13
  obtain ⟨x14, ys14, rfl, s14, h15⟩ := h14.cons
  obtain ⟨n14, rfl⟩ := zaW s14
  obtain ⟨x15, ys15, rfl, s15, h16⟩ := h15.cons
  obtain ⟨n15, rfl⟩ := zaW s15
  obtain ⟨x16, ys16, rfl, s16, h17⟩ := h16.cons
  obtain ⟨n16, rfl⟩ := zaW s16
  obtain ⟨x17, ys17, rfl, s17, h18⟩ := h17.cons
  obtain ⟨n17, rfl⟩ := zaW s17
  cases h18.nil
  exact ⟨⟨n0, n1, n2, n3, ⟨n4, n5, n6, n7⟩, n8, n9, n10, n11, n12, n13, n14, n15, n16, n17⟩, rfl⟩
theorem api_Share_dec : ∀ xs, Shp [.int .i64, .int .i64] xs → ∃ a, xs = zak.enc a := fun xs h0 => by
  obtain ⟨x0, ys0, rfl, s0, h1⟩ := h0.cons
  obtain ⟨n0, rfl⟩ := zaW s0
  obtain ⟨x1, ys1, rfl, s1, h2⟩ := h1.cons
  obtain ⟨n1, rfl⟩ := zaW s1
  cases h2.nil
  exact ⟨⟨n0, n1⟩, rfl⟩
theorem api_Alloc_dec : ∀ xs, Shp [.int .i64, .int .i64, .int .i64, .int .i64, .int .i64, .sl [.int .i64, .int .i64]] xs → ∃ a, xs = zai.enc a := fun xs h0 => by
  obtain ⟨x0, ys0, rfl, s0, h1⟩ := h0.cons
  obtain ⟨n0, rfl⟩ := zaW s0
  obtain ⟨x1, ys1, rfl, s1, h2⟩ := h1.cons
  obtain ⟨n1, rfl⟩ := zaW s1
  obtain ⟨x2, ys2, rfl, s2, h3⟩ := h2.cons
  obtain ⟨n2, rfl⟩ := zaW s2
  obtain ⟨x3, ys3, rfl, s3, h4⟩ := h3.cons
  obtain ⟨n3, rfl⟩ := zaW s3
  obtain ⟨x4, ys4, rfl, s4, h5⟩ := h4.cons
  obtain ⟨n4, rfl⟩ := zaW s4
  obtain ⟨x5, ys5, rfl, s5, h6⟩ := h5.cons
  obtain ⟨n5, rfl⟩ := (sl_dec api_Share_dec) s5
  cases h6.nil
  exact ⟨⟨n0, ⟨n1, n2, n3, n4⟩, n5⟩, rfl⟩
theorem api_Booking_dec : ∀ xs, Shp [.int .i64, .int .i64, .int .i64, .int .i64] xs → ∃ a, xs = zam.enc a := fun xs h0 => by
  obtain ⟨x0, ys0, rfl, s0, h1⟩ := h0.cons
  obtain ⟨n0, rfl⟩ := zaW s0
  obtain ⟨x1, ys1, rfl, s1, h2⟩ := h1.cons
  obtain ⟨n1, rfl⟩ := zaW s1
  obtain ⟨x2, ys2, rfl, s2, h3⟩ := h2.cons
  obtain ⟨n2, rfl⟩ := zaW s2
  obtain ⟨x3, ys3, rfl, s3, h4⟩ := h3.cons
  obtain ⟨n3, rfl⟩ := zaW s3
  cases h4.nil
  exact ⟨⟨n0, n1, n2, n3⟩, rfl⟩
theorem drayagelaw23xWorld_dec : ∀ xs, Shp [.sl [.int .i64, .int .i64, .int .i64, .int .i64], .sl [.sl [.int .i64]], .sl [.int .i64, .sl [.int .i64], .int .i64, .int .i64, .int .i64, .int .i64], .int .i64, .int .i64, .int .i64, .int .i64, .int .i64, .int .i64, .int .i64, .int .i64, .int .i64, .int .i64, .int .i64, .int .i64, .int .i64, .int .i64, .int .i64, .int .i64, .int .i64, .int .i64, .sl [.int .i64, .int .i64, .int .i64, .int .i64, .int .i64, .int .i64, .int .i64, .int .i64, .int .i64, .sl [.int .i64, .bool], .int .i64, .bool, .bool, .int .i64, .int .i64, .int .i64, .int .i64, .int .i64], .sl [.int .i64, .int .i64, .int .i64, .int .i64, .int .i64, .sl [.int .i64, .int .i64]], .sl [.int .i64, .int .i64, .int .i64, .int .i64], .sl [.int .i64], .sl [.int .i64], .int .i64] xs → ∃ a, xs = zaC.enc a := fun xs h0 => by
  obtain ⟨x0, ys0, rfl, s0, h1⟩ := h0.cons
  obtain ⟨n0, rfl⟩ := (sl_dec api_Res_dec) s0
  obtain ⟨x1, ys1, rfl, s1, h2⟩ := h1.cons
  obtain ⟨n1, rfl⟩ := (sl_dec (one_dec (fun _ h => (sl_dec (one_dec (fun _ h => zaW h))) h))) s1
  obtain ⟨x2, ys2, rfl, s2, h3⟩ := h2.cons
  obtain ⟨n2, rfl⟩ := (sl_dec api_Queue_dec) s2
  obtain ⟨x3, ys3, rfl, s3, h4⟩ := h3.cons
  obtain ⟨n3, rfl⟩ := zaW s3
  obtain ⟨x4, ys4, rfl, s4, h5⟩ := h4.cons
  obtain ⟨n4, rfl⟩ := zaW s4
  obtain ⟨x5, ys5, rfl, s5, h6⟩ := h5.cons
  obtain ⟨n5, rfl⟩ := zaW s5
  obtain ⟨x6, ys6, rfl, s6, h7⟩ := h6.cons
  obtain ⟨n6, rfl⟩ := zaW s6
  obtain ⟨x7, ys7, rfl, s7, h8⟩ := h7.cons
  obtain ⟨n7, rfl⟩ := zaW s7
  obtain ⟨x8, ys8, rfl, s8, h9⟩ := h8.cons
  obtain ⟨n8, rfl⟩ := zaW s8
  obtain ⟨x9, ys9, rfl, s9, h10⟩ := h9.cons
  obtain ⟨n9, rfl⟩ := zaW s9
  obtain ⟨x10, ys10, rfl, s10, h11⟩ := h10.cons
  obtain ⟨n10, rfl⟩ := zaW s10
  obtain ⟨x11, ys11, rfl, s11, h12⟩ := h11.cons
  obtain ⟨n11, rfl⟩ := zaW s11
  obtain ⟨x12, ys12, rfl, s12, h13⟩ := h12.cons
  obtain ⟨n12, rfl⟩ := zaW s12
  obtain ⟨x13, ys13, rfl, s13, h14⟩ := h13.cons
  obtain ⟨n13, rfl⟩ := zaW s13
  obtain ⟨x14, ys14, rfl, s14, h15⟩ := h14.cons
  obtain ⟨n14, rfl⟩ := zaW s14
  obtain ⟨x15, ys15, rfl, s15, h16⟩ := h15.cons
  obtain ⟨n15, rfl⟩ := zaW s15
  obtain ⟨x16, ys16, rfl, s16, h17⟩ := h16.cons
  obtain ⟨n16, rfl⟩ := zaW s16
  obtain ⟨x17, ys17, rfl, s17, h18⟩ := h17.cons
  obtain ⟨n17, rfl⟩ := zaW s17
  obtain ⟨x18, ys18, rfl, s18, h19⟩ := h18.cons
  obtain ⟨n18, rfl⟩ := zaW s18
  obtain ⟨x19, ys19, rfl, s19, h20⟩ := h19.cons
  obtain ⟨n19, rfl⟩ := zaW s19
  obtain ⟨x20, ys20, rfl, s20, h21⟩ := h20.cons
  obtain ⟨n20, rfl⟩ := zaW s20
  obtain ⟨x21, ys21, rfl, s21, h22⟩ := h21.cons
  obtain ⟨n21, rfl⟩ := (sl_dec api_Job_dec) s21
  obtain ⟨x22, ys22, rfl, s22, h23⟩ := h22.cons
  obtain ⟨n22, rfl⟩ := (sl_dec api_Alloc_dec) s22
  obtain ⟨x23, ys23, rfl, s23, h24⟩ := h23.cons
  obtain ⟨n23, rfl⟩ := (sl_dec api_Booking_dec) s23
  obtain ⟨x24, ys24, rfl, s24, h25⟩ := h24.cons
  obtain ⟨n24, rfl⟩ := (sl_dec (one_dec (fun _ h => zaW h))) s24
  obtain ⟨x25, ys25, rfl, s25, h26⟩ := h25.cons
  obtain ⟨n25, rfl⟩ := (sl_dec (one_dec (fun _ h => zaW h))) s25
  obtain ⟨x26, ys26, rfl, s26, h27⟩ := h26.cons
  obtain ⟨n26, rfl⟩ := zaW s26
  cases h27.nil
  exact ⟨⟨⟨n0, n1, n2, n3, ⟨n4, n5, n6, n7⟩, n8, n9, n10, n11, n12, n13, n14, n15, n16, n17⟩, ⟨n18, n19, n20, n21, n22, n23, n24, ⟨n25, n26⟩⟩⟩, rfl⟩
end Go.Abs
