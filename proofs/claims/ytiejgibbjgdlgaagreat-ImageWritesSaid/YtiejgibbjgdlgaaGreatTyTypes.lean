/- The program's types. -/
import Derived.Test.YtiejgibbjgdlgaaGreatFwG
set_option linter.all false
set_option maxRecDepth 100000
noncomputable section
namespace Go.Abs
variable [Gl]
@[ext] structure zac where
 Cpu:Int
 Mem:Int
 Gpu:Int
 Lic:Int
 deriving DecidableEq,Inhabited
def zac.beq (a b:zac):Bool:=(a.Cpu == b.Cpu&&(a.Mem == b.Mem&&(a.Gpu == b.Gpu&&(a.Lic == b.Lic&&true))))
@[ext] structure api_Queue where
 Part:Int
 Users:(List Int)
 MaxJobs:Int
 MaxRun:Int
 MaxUser:Int
 Qos:Int
 deriving DecidableEq,Inhabited
@[ext] structure zbm where
 Age:Int
 Size:Int
 Qos:Int
 Share:Int
 deriving DecidableEq,Inhabited
def zbm.beq (a b:zbm):Bool:=(a.Age == b.Age&&(a.Size == b.Size&&(a.Qos == b.Qos&&(a.Share == b.Share&&true))))
@[ext] structure zad where
 Nodes:(List zac)
 Parts:(List (List Int))
 Queues:(List api_Queue)
 Users:Int
 Weights:zbm
 Decay:Int
 Mode:Int
 Jobs:Int
 Ids:Int
 Versions:Int
 Linger:Int
 Keep:Int
 In:Int
 Out:Int
 Cache:Int
 deriving DecidableEq,Inhabited
@[ext] structure zct where
 Job:Int
 Ok:Bool
 deriving DecidableEq,Inhabited
def zct.beq (a b:zct):Bool:=(a.Job == b.Job&&(a.Ok == b.Ok&&true))
@[ext] structure zam where
 Id:Int
 User:Int
 Queue:Int
 Many:Int
 Need:zac
 Wall:Int
 After:(List zct)
 State:Int
 Ok:Bool
 Kill:Bool
 Version:Int
 Born:Int
 Start:Int
 End:Int
 Array:Int
 deriving DecidableEq,Inhabited
@[ext] structure zaj where
 Node:Int
 Many:Int
 deriving DecidableEq,Inhabited
def zaj.beq (a b:zaj):Bool:=(a.Node == b.Node&&(a.Many == b.Many&&true))
@[ext] structure zag where
 Job:Int
 Need:zac
 Shares:(List zaj)
 deriving DecidableEq,Inhabited
@[ext] structure zak where
 Id:Int
 Node:Int
 From:Int
 To:Int
 deriving DecidableEq,Inhabited
def zak.beq (a b:zak):Bool:=(a.Id == b.Id&&(a.Node == b.Node&&(a.From == b.From&&(a.To == b.To&&true))))
@[ext] structure zcE where
 Queues:(List Int)
 Nodes:Int
 deriving DecidableEq,Inhabited
@[ext] structure zae where
 Now:Int
 Next:Int
 Book:Int
 Jobs:(List zam)
 Allocs:(List zag)
 Books:(List zak)
 Use:(List Int)
 Stamps:zcE
 deriving DecidableEq,Inhabited
@[ext] structure zca where
 S:zad
 St:zae
 deriving DecidableEq,Inhabited
@[ext] structure codec_Reader where
 f_left:(List Int)
 f_err:Int
 deriving DecidableEq,Inhabited
def tyT:Nat→Type
 | 0=>zac
 | 1=>Int
 | 2=>(List Int)
 | 3=>api_Queue
 | 4=>zct
 | 5=>zam
 | 6=>zaj
 | 7=>zag
 | 8=>zak
 | 9=>zca
 | 10=>Int
 | 11=>zad
 | 12=>zae
 | 13=>(Int×Int×Int×Int)
 | 14=>zbm
 | 15=>ByteArray
 | 16=>Bool
 | 17=>codec_Reader
 | _=>Bool
def tyF:Nat→List CC
 | 0=>[.int .i64,.int .i64,.int .i64,.int .i64]
 | 1=>[.int .i64]
 | 2=>[.sl 1]
 | 3=>[.int .i64,.sl 1,.int .i64,.int .i64,.int .i64,.int .i64]
 | 4=>[.int .i64,.bool]
 | 5=>[.int .i64,.int .i64,.int .i64,.int .i64,.int .i64,.int .i64,.int .i64,.int .i64,.int .i64,.sl 4,.int .i64,.bool,.bool,.int .i64,.int .i64,.int .i64,.int .i64,.int .i64]
 | 6=>[.int .i64,.int .i64]
 | 7=>[.int .i64,.int .i64,.int .i64,.int .i64,.int .i64,.sl 6]
 | 8=>[.int .i64,.int .i64,.int .i64,.int .i64]
 | 9=>[.sl 0,.sl 2,.sl 3,.int .i64,.int .i64,.int .i64,.int .i64,.int .i64,.int .i64,.int .i64,.int .i64,.int .i64,.int .i64,.int .i64,.int .i64,.int .i64,.int .i64,.int .i64,.int .i64,.int .i64,.int .i64,.sl 5,.sl 7,.sl 8,.sl 1,.sl 1,.int .i64]
 | 10=>[.int .u8]
 | 11=>[.sl 0,.sl 2,.sl 3,.int .i64,.int .i64,.int .i64,.int .i64,.int .i64,.int .i64,.int .i64,.int .i64,.int .i64,.int .i64,.int .i64,.int .i64,.int .i64,.int .i64,.int .i64]
 | 12=>[.int .i64,.int .i64,.int .i64,.sl 5,.sl 7,.sl 8,.sl 1,.sl 1,.int .i64]
 | 13=>[.int .i64,.int .i64,.int .i64,.int .i64]
 | 14=>[.int .i64,.int .i64,.int .i64,.int .i64]
 | 15=>[.str]
 | 16=>[.bool]
 | 17=>[.sl 10,.int .i64]
 | _=>[.bool]
noncomputable instance ty:Ty where
 T:=tyT
 fl:=tyF
 prj:=fun i=>match i with
  | 0=>fun x=>(x.Cpu,x.Mem,x.Gpu,x.Lic,())
  | 1=>fun x=>(x,())
  | 2=>fun x=>(x,())
  | 3=>fun x=>(x.Part,x.Users,x.MaxJobs,x.MaxRun,x.MaxUser,x.Qos,())
  | 4=>fun x=>(x.Job,x.Ok,())
  | 5=>fun x=>(x.Id,x.User,x.Queue,x.Many,x.Need.Cpu,x.Need.Mem,x.Need.Gpu,x.Need.Lic,x.Wall,x.After,x.State,x.Ok,x.Kill,x.Version,x.Born,x.Start,x.End,x.Array,())
  | 6=>fun x=>(x.Node,x.Many,())
  | 7=>fun x=>(x.Job,x.Need.Cpu,x.Need.Mem,x.Need.Gpu,x.Need.Lic,x.Shares,())
  | 8=>fun x=>(x.Id,x.Node,x.From,x.To,())
  | 9=>fun x=>(x.S.Nodes,x.S.Parts,x.S.Queues,x.S.Users,x.S.Weights.Age,x.S.Weights.Size,x.S.Weights.Qos,x.S.Weights.Share,x.S.Decay,x.S.Mode,x.S.Jobs,x.S.Ids,x.S.Versions,x.S.Linger,x.S.Keep,x.S.In,x.S.Out,x.S.Cache,x.St.Now,x.St.Next,x.St.Book,x.St.Jobs,x.St.Allocs,x.St.Books,x.St.Use,x.St.Stamps.Queues,x.St.Stamps.Nodes,())
  | 10=>fun x=>(x,())
  | 11=>fun x=>(x.Nodes,x.Parts,x.Queues,x.Users,x.Weights.Age,x.Weights.Size,x.Weights.Qos,x.Weights.Share,x.Decay,x.Mode,x.Jobs,x.Ids,x.Versions,x.Linger,x.Keep,x.In,x.Out,x.Cache,())
  | 12=>fun x=>(x.Now,x.Next,x.Book,x.Jobs,x.Allocs,x.Books,x.Use,x.Stamps.Queues,x.Stamps.Nodes,())
  | 13=>fun x=>(x.1,x.2.1,x.2.2.1,x.2.2.2,())
  | 14=>fun x=>(x.Age,x.Size,x.Qos,x.Share,())
  | 15=>fun x=>(x,())
  | 16=>fun x=>(x,())
  | 17=>fun x=>(x.f_left,x.f_err,())
  | _+18=>fun x=>(x,())
 mkt:=fun i=>match i with
  | 0=>fun x=>({ Cpu:=x.1,Mem:=x.2.1,Gpu:=x.2.2.1,Lic:=x.2.2.2.1 }:zac)
  | 1=>fun x=>x.1
  | 2=>fun x=>x.1
  | 3=>fun x=>({ Part:=x.1,Users:=x.2.1,MaxJobs:=x.2.2.1,MaxRun:=x.2.2.2.1,MaxUser:=x.2.2.2.2.1,Qos:=x.2.2.2.2.2.1 }:api_Queue)
  | 4=>fun x=>({ Job:=x.1,Ok:=x.2.1 }:zct)
  | 5=>fun x=>({ Id:=x.1,User:=x.2.1,Queue:=x.2.2.1,Many:=x.2.2.2.1,Need:=({ Cpu:=x.2.2.2.2.1,Mem:=x.2.2.2.2.2.1,Gpu:=x.2.2.2.2.2.2.1,Lic:=x.2.2.2.2.2.2.2.1 }:zac),Wall:=x.2.2.2.2.2.2.2.2.1,After:=x.2.2.2.2.2.2.2.2.2.1,State:=x.2.2.2.2.2.2.2.2.2.2.1,Ok:=x.2.2.2.2.2.2.2.2.2.2.2.1,Kill:=x.2.2.2.2.2.2.2.2.2.2.2.2.1,Version:=x.2.2.2.2.2.2.2.2.2.2.2.2.2.1,Born:=x.2.2.2.2.2.2.2.2.2.2.2.2.2.2.1,Start:=x.2.2.2.2.2.2.2.2.2.2.2.2.2.2.2.1,End:=x.2.2.2.2.2.2.2.2.2.2.2.2.2.2.2.2.1,Array:=x.2.2.2.2.2.2.2.2.2.2.2.2.2.2.2.2.2.1 }:zam)
  | 6=>fun x=>({ Node:=x.1,Many:=x.2.1 }:zaj)
  | 7=>fun x=>({ Job:=x.1,Need:=({ Cpu:=x.2.1,Mem:=x.2.2.1,Gpu:=x.2.2.2.1,Lic:=x.2.2.2.2.1 }:zac),Shares:=x.2.2.2.2.2.1 }:zag)
  | 8=>fun x=>({ Id:=x.1,Node:=x.2.1,From:=x.2.2.1,To:=x.2.2.2.1 }:zak)
  | 9=>fun x=>({ S:=({ Nodes:=x.1,Parts:=x.2.1,Queues:=x.2.2.1,Users:=x.2.2.2.1,Weights:=({ Age:=x.2.2.2.2.1,Size:=x.2.2.2.2.2.1,Qos:=x.2.2.2.2.2.2.1,Share:=x.2.2.2.2.2.2.2.1 }:zbm),Decay:=x.2.2.2.2.2.2.2.2.1,Mode:=x.2.2.2.2.2.2.2.2.2.1,Jobs:=x.2.2.2.2.2.2.2.2.2.2.1,Ids:=x.2.2.2.2.2.2.2.2.2.2.2.1,Versions:=x.2.2.2.2.2.2.2.2.2.2.2.2.1,Linger:=x.2.2.2.2.2.2.2.2.2.2.2.2.2.1,Keep:=x.2.2.2.2.2.2.2.2.2.2.2.2.2.2.1,In:=x.2.2.2.2.2.2.2.2.2.2.2.2.2.2.2.1,Out:=x.2.2.2.2.2.2.2.2.2.2.2.2.2.2.2.2.1,Cache:=x.2.2.2.2.2.2.2.2.2.2.2.2.2.2.2.2.2.1 }:zad),St:=({ Now:=x.2.2.2.2.2.2.2.2.2.2.2.2.2.2.2.2.2.2.1,Next:=x.2.2.2.2.2.2.2.2.2.2.2.2.2.2.2.2.2.2.2.1,Book:=x.2.2.2.2.2.2.2.2.2.2.2.2.2.2.2.2.2.2.2.2.1,Jobs:=x.2.2.2.2.2.2.2.2.2.2.2.2.2.2.2.2.2.2.2.2.2.1,Allocs:=x.2.2.2.2.2.2.2.2.2.2.2.2.2.2.2.2.2.2.2.2.2.2.1,Books:=x.2.2.2.2.2.2.2.2.2.2.2.2.2.2.2.2.2.2.2.2.2.2.2.1,Use:=x.2.2.2.2.2.2.2.2.2.2.2.2.2.2.2.2.2.2.2.2.2.2.2.2.1,Stamps:=({ Queues:=x.2.2.2.2.2.2.2.2.2.2.2.2.2.2.2.2.2.2.2.2.2.2.2.2.2.1,Nodes:=x.2.2.2.2.2.2.2.2.2.2.2.2.2.2.2.2.2.2.2.2.2.2.2.2.2.2.1 }:zcE) }:zae) }:zca)
  | 10=>fun x=>x.1
  | 11=>fun x=>({ Nodes:=x.1,Parts:=x.2.1,Queues:=x.2.2.1,Users:=x.2.2.2.1,Weights:=({ Age:=x.2.2.2.2.1,Size:=x.2.2.2.2.2.1,Qos:=x.2.2.2.2.2.2.1,Share:=x.2.2.2.2.2.2.2.1 }:zbm),Decay:=x.2.2.2.2.2.2.2.2.1,Mode:=x.2.2.2.2.2.2.2.2.2.1,Jobs:=x.2.2.2.2.2.2.2.2.2.2.1,Ids:=x.2.2.2.2.2.2.2.2.2.2.2.1,Versions:=x.2.2.2.2.2.2.2.2.2.2.2.2.1,Linger:=x.2.2.2.2.2.2.2.2.2.2.2.2.2.1,Keep:=x.2.2.2.2.2.2.2.2.2.2.2.2.2.2.1,In:=x.2.2.2.2.2.2.2.2.2.2.2.2.2.2.2.1,Out:=x.2.2.2.2.2.2.2.2.2.2.2.2.2.2.2.2.1,Cache:=x.2.2.2.2.2.2.2.2.2.2.2.2.2.2.2.2.2.1 }:zad)
  | 12=>fun x=>({ Now:=x.1,Next:=x.2.1,Book:=x.2.2.1,Jobs:=x.2.2.2.1,Allocs:=x.2.2.2.2.1,Books:=x.2.2.2.2.2.1,Use:=x.2.2.2.2.2.2.1,Stamps:=({ Queues:=x.2.2.2.2.2.2.2.1,Nodes:=x.2.2.2.2.2.2.2.2.1 }:zcE) }:zae)
  | 13=>fun x=>(x.1,x.2.1,x.2.2.1,x.2.2.2.1)
  | 14=>fun x=>({ Age:=x.1,Size:=x.2.1,Qos:=x.2.2.1,Share:=x.2.2.2.1 }:zbm)
  | 15=>fun x=>x.1
  | 16=>fun x=>x.1
  | 17=>fun x=>({ f_left:=x.1,f_err:=x.2.1 }:codec_Reader)
  | _+18=>fun x=>x.1
 mp:=fun i=>match i with
  | 0=>fun _=>rfl
  | 1=>fun _=>rfl
  | 2=>fun _=>rfl
  | 3=>fun _=>rfl
  | 4=>fun _=>rfl
  | 5=>fun _=>rfl
  | 6=>fun _=>rfl
  | 7=>fun _=>rfl
  | 8=>fun _=>rfl
  | 9=>fun _=>rfl
  | 10=>fun _=>rfl
  | 11=>fun _=>rfl
  | 12=>fun _=>rfl
  | 13=>fun _=>rfl
  | 14=>fun _=>rfl
  | 15=>fun _=>rfl
  | 16=>fun _=>rfl
  | 17=>fun _=>rfl
  | _+18=>fun _=>rfl
 pm:=fun i=>match i with
  | 0=>fun _=>rfl
  | 1=>fun _=>rfl
  | 2=>fun _=>rfl
  | 3=>fun _=>rfl
  | 4=>fun _=>rfl
  | 5=>fun _=>rfl
  | 6=>fun _=>rfl
  | 7=>fun _=>rfl
  | 8=>fun _=>rfl
  | 9=>fun _=>rfl
  | 10=>fun _=>rfl
  | 11=>fun _=>rfl
  | 12=>fun _=>rfl
  | 13=>fun _=>rfl
  | 14=>fun _=>rfl
  | 15=>fun _=>rfl
  | 16=>fun _=>rfl
  | 17=>fun _=>rfl
  | _+18=>fun _=>rfl
 dn:=fun i j h=>match i with
  | 0=>by simp [tyF] at h
  | 1=>by simp [tyF] at h
  | 2=>by simp [tyF] at h <;> omega
  | 3=>by simp [tyF] at h <;> omega
  | 4=>by simp [tyF] at h
  | 5=>by simp [tyF] at h <;> omega
  | 6=>by simp [tyF] at h
  | 7=>by simp [tyF] at h <;> omega
  | 8=>by simp [tyF] at h
  | 9=>by simp [tyF] at h <;> omega
  | 10=>by simp [tyF] at h
  | 11=>by simp [tyF] at h <;> omega
  | 12=>by simp [tyF] at h <;> omega
  | 13=>by simp [tyF] at h
  | 14=>by simp [tyF] at h
  | 15=>by simp [tyF] at h
  | 16=>by simp [tyF] at h
  | 17=>by simp [tyF] at h <;> omega
  | _+18=>by simp [tyF] at h
 ps:=fun i=>match i with
  | 0=>by simp [tyF]
  | 1=>by simp [tyF]
  | 2=>by simp [tyF]
  | 3=>by simp [tyF]
  | 4=>by simp [tyF]
  | 5=>by simp [tyF]
  | 6=>by simp [tyF]
  | 7=>by simp [tyF]
  | 8=>by simp [tyF]
  | 9=>by simp [tyF]
  | 10=>by simp [tyF]
  | 11=>by simp [tyF]
  | 12=>by simp [tyF]
  | 13=>by simp [tyF]
  | 14=>by simp [tyF]
  | 15=>by simp [tyF]
  | 16=>by simp [tyF]
  | 17=>by simp [tyF]
  | _+18=>by simp [tyF]
end Go.Abs
