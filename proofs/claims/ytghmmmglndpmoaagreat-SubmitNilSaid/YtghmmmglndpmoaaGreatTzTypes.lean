/- The program's types. -/
import Derived.Test.YtghmmmglndpmoaaGreatDfwEnc
namespace Go.Abs

@[ext] structure api_Reply where
  Key : Int
  Err : Int
  Job : Int
  Version : Int
  Nums : (List Int)
  deriving DecidableEq, Inhabited
def api_Reply.enc (x : api_Reply) : List C := [.lit (.int .i64 x.Key), .lit (.int .i64 x.Err), .lit (.int .i64 x.Job), .lit (.int .i64 x.Version), .frz false (x.Nums.map encI)]
theorem api_Reply.inj {a b : api_Reply} (h : a.enc = b.enc) : a = b := by
  obtain ⟨a1, a2, a3, a4, a5⟩ := a
  obtain ⟨b1, b2, b3, b4, b5⟩ := b
  simp only [api_Reply.enc, List.cons.injEq, C.lit.injEq, C.frz.injEq, Value.int.injEq, Value.bool.injEq, Value.string.injEq, true_and, and_true] at h
  obtain ⟨h1, h2, h3, h4, h5⟩ := h
  subst h1
  subst h2
  subst h3
  subst h4
  obtain rfl := map_inj encI_inj h5
  rfl

@[ext] structure api_Res where
  Cpu : Int
  Mem : Int
  Gpu : Int
  Lic : Int
  deriving DecidableEq, Inhabited
def api_Res.enc (x : api_Res) : List C := [.lit (.int .i64 x.Cpu), .lit (.int .i64 x.Mem), .lit (.int .i64 x.Gpu), .lit (.int .i64 x.Lic)]
theorem api_Res.inj {a b : api_Res} (h : a.enc = b.enc) : a = b := by
  obtain ⟨a1, a2, a3, a4⟩ := a
  obtain ⟨b1, b2, b3, b4⟩ := b
  simp only [api_Res.enc, List.cons.injEq, C.lit.injEq, C.frz.injEq, Value.int.injEq, Value.bool.injEq, Value.string.injEq, true_and, and_true] at h
  obtain ⟨h1, h2, h3, h4⟩ := h
  subst h1
  subst h2
  subst h3
  subst h4
  rfl

@[ext] structure api_Dep where
  Job : Int
  Ok : Bool
  deriving DecidableEq, Inhabited
def api_Dep.enc (x : api_Dep) : List C := [.lit (.int .i64 x.Job), .lit (.bool x.Ok)]
theorem api_Dep.inj {a b : api_Dep} (h : a.enc = b.enc) : a = b := by
  obtain ⟨a1, a2⟩ := a
  obtain ⟨b1, b2⟩ := b
  simp only [api_Dep.enc, List.cons.injEq, C.lit.injEq, C.frz.injEq, Value.int.injEq, Value.bool.injEq, Value.string.injEq, true_and, and_true] at h
  obtain ⟨h1, h2⟩ := h
  subst h1
  subst h2
  rfl

@[ext] structure api_Request where
  Kind : Int
  Key : Int
  Job : Int
  Version : Int
  Queue : Int
  Many : Int
  Need : api_Res
  Wall : Int
  Tasks : Int
  After : (List api_Dep)
  Node : Int
  From : Int
  To : Int
  Id : Int
  deriving DecidableEq, Inhabited
def api_Request.enc (x : api_Request) : List C := [.lit (.int .i64 x.Kind), .lit (.int .i64 x.Key), .lit (.int .i64 x.Job), .lit (.int .i64 x.Version), .lit (.int .i64 x.Queue), .lit (.int .i64 x.Many), .lit (.int .i64 x.Need.Cpu), .lit (.int .i64 x.Need.Mem), .lit (.int .i64 x.Need.Gpu), .lit (.int .i64 x.Need.Lic), .lit (.int .i64 x.Wall), .lit (.int .i64 x.Tasks), .frz false (x.After.map api_Dep.enc), .lit (.int .i64 x.Node), .lit (.int .i64 x.From), .lit (.int .i64 x.To), .lit (.int .i64 x.Id)]
theorem api_Request.inj {a b : api_Request} (h : a.enc = b.enc) : a = b := by
  obtain ⟨a1, a2, a3, a4, a5, a6, ⟨a7, a8, a9, a10⟩, a11, a12, a13, a14, a15, a16, a17⟩ := a
  obtain ⟨b1, b2, b3, b4, b5, b6, ⟨b7, b8, b9, b10⟩, b11, b12, b13, b14, b15, b16, b17⟩ := b
  simp only [api_Request.enc, List.cons.injEq, C.lit.injEq, C.frz.injEq, Value.int.injEq, Value.bool.injEq, Value.string.injEq, true_and, and_true] at h
  obtain ⟨h1, h2, h3, h4, h5, h6, h7, h8, h9, h10, h11, h12, h13, h14, h15, h16, h17⟩ := h
  subst h1
  subst h2
  subst h3
  subst h4
  subst h5
  subst h6
  subst h7
  subst h8
  subst h9
  subst h10
  subst h11
  subst h12
  obtain rfl := map_inj api_Dep.inj h13
  subst h14
  subst h15
  subst h16
  subst h17
  rfl

@[ext] structure api_Call where
  User : Int
  Request : api_Request
  deriving DecidableEq, Inhabited
def api_Call.enc (x : api_Call) : List C := [.lit (.int .i64 x.User), .lit (.int .i64 x.Request.Kind), .lit (.int .i64 x.Request.Key), .lit (.int .i64 x.Request.Job), .lit (.int .i64 x.Request.Version), .lit (.int .i64 x.Request.Queue), .lit (.int .i64 x.Request.Many), .lit (.int .i64 x.Request.Need.Cpu), .lit (.int .i64 x.Request.Need.Mem), .lit (.int .i64 x.Request.Need.Gpu), .lit (.int .i64 x.Request.Need.Lic), .lit (.int .i64 x.Request.Wall), .lit (.int .i64 x.Request.Tasks), .frz false (x.Request.After.map api_Dep.enc), .lit (.int .i64 x.Request.Node), .lit (.int .i64 x.Request.From), .lit (.int .i64 x.Request.To), .lit (.int .i64 x.Request.Id)]
theorem api_Call.inj {a b : api_Call} (h : a.enc = b.enc) : a = b := by
  obtain ⟨a1, ⟨a2, a3, a4, a5, a6, a7, ⟨a8, a9, a10, a11⟩, a12, a13, a14, a15, a16, a17, a18⟩⟩ := a
  obtain ⟨b1, ⟨b2, b3, b4, b5, b6, b7, ⟨b8, b9, b10, b11⟩, b12, b13, b14, b15, b16, b17, b18⟩⟩ := b
  simp only [api_Call.enc, List.cons.injEq, C.lit.injEq, C.frz.injEq, Value.int.injEq, Value.bool.injEq, Value.string.injEq, true_and, and_true] at h
  obtain ⟨h1, h2, h3, h4, h5, h6, h7, h8, h9, h10, h11, h12, h13, h14, h15, h16, h17, h18⟩ := h
  subst h1
  subst h2
  subst h3
  subst h4
  subst h5
  subst h6
  subst h7
  subst h8
  subst h9
  subst h10
  subst h11
  subst h12
  subst h13
  obtain rfl := map_inj api_Dep.inj h14
  subst h15
  subst h16
  subst h17
  subst h18
  rfl

end Go.Abs
