/- The program's types. -/
import Derived.Test.YtfeddeljlbiniaaGreatFwG
set_option linter.all false
set_option maxRecDepth 100000
noncomputable section
namespace Go.Abs
variable [Gl]
@[ext] structure zaa where
 Cpu:Int
 Mem:Int
 Gpu:Int
 Lic:Int
 deriving DecidableEq,Inhabited
def zaa.beq (a b:zaa):Bool:=(a.Cpu == b.Cpu&&(a.Mem == b.Mem&&(a.Gpu == b.Gpu&&(a.Lic == b.Lic&&true))))
@[ext] structure zbp where
 Part:Int
 Users:(List Int)
 MaxJobs:Int
 MaxRun:Int
 MaxUser:Int
 Qos:Int
 deriving DecidableEq,Inhabited
@[ext] structure zbo where
 Age:Int
 Size:Int
 Qos:Int
 Share:Int
 deriving DecidableEq,Inhabited
def zbo.beq (a b:zbo):Bool:=(a.Age == b.Age&&(a.Size == b.Size&&(a.Qos == b.Qos&&(a.Share == b.Share&&true))))
@[ext] structure zae where
 Nodes:(List zaa)
 Parts:(List (List Int))
 Queues:(List zbp)
 Users:Int
 Weights:zbo
 Decay:Int
 Mode:Int
 Jobs:Int
 Ids:Int
 Versions:Int
 Linger:Int
 Keep:Int
 In:Int
 Out:Int
 Cache:Int
 deriving DecidableEq,Inhabited
@[ext] structure api_Dep where
 Job:Int
 Ok:Bool
 deriving DecidableEq,Inhabited
def api_Dep.beq (a b:api_Dep):Bool:=(a.Job == b.Job&&(a.Ok == b.Ok&&true))
@[ext] structure zab where
 Id:Int
 User:Int
 Queue:Int
 Many:Int
 Need:zaa
 Wall:Int
 After:(List api_Dep)
 State:Int
 Ok:Bool
 Kill:Bool
 Version:Int
 Born:Int
 Start:Int
 End:Int
 Array:Int
 deriving DecidableEq,Inhabited
@[ext] structure zaj where
 Node:Int
 Many:Int
 deriving DecidableEq,Inhabited
def zaj.beq (a b:zaj):Bool:=(a.Node == b.Node&&(a.Many == b.Many&&true))
@[ext] structure zac where
 Job:Int
 Need:zaa
 Shares:(List zaj)
 deriving DecidableEq,Inhabited
@[ext] structure zag where
 Id:Int
 Node:Int
 From:Int
 To:Int
 deriving DecidableEq,Inhabited
def zag.beq (a b:zag):Bool:=(a.Id == b.Id&&(a.Node == b.Node&&(a.From == b.From&&(a.To == b.To&&true))))
@[ext] structure api_Stamps where
 Queues:(List Int)
 Nodes:Int
 deriving DecidableEq,Inhabited
@[ext] structure zai where
 Now:Int
 Next:Int
 Book:Int
 Jobs:(List zab)
 Allocs:(List zac)
 Books:(List zag)
 Use:(List Int)
 Stamps:api_Stamps
 deriving DecidableEq,Inhabited
@[ext] structure zcX where
 S:zae
 St:zai
 deriving DecidableEq,Inhabited
@[ext] structure table_Table where
 f_places:Int
 f_jobs:(List zab)
 deriving DecidableEq,Inhabited
def tyT:Nat→Type
 | 0=>zaa
 | 1=>Int
 | 2=>(List Int)
 | 3=>zbp
 | 4=>api_Dep
 | 5=>zab
 | 6=>zaj
 | 7=>zac
 | 8=>zag
 | 9=>zcX
 | 10=>zae
 | 11=>(Int×Int×Int×Int)
 | 12=>zbo
 | 13=>table_Table
 | 14=>zai
 | 15=>ByteArray
 | 16=>Bool
 | _=>Bool
def tyF:Nat→List CC
 | 0=>[.int .i64,.int .i64,.int .i64,.int .i64]
 | 1=>[.int .i64]
 | 2=>[.sl 1]
 | 3=>[.int .i64,.sl 1,.int .i64,.int .i64,.int .i64,.int .i64]
 | 4=>[.int .i64,.bool]
 | 5=>[.int .i64,.int .i64,.int .i64,.int .i64,.int .i64,.int .i64,.int .i64,.int .i64,.int .i64,.sl 4,.int .i64,.bool,.bool,.int .i64,.int .i64,.int .i64,.int .i64,.int .i64]
 | 6=>[.int .i64,.int .i64]
 | 7=>[.int .i64,.int .i64,.int .i64,.int .i64,.int .i64,.sl 6]
 | 8=>[.int .i64,.int .i64,.int .i64,.int .i64]
 | 9=>[.sl 0,.sl 2,.sl 3,.int .i64,.int .i64,.int .i64,.int .i64,.int .i64,.int .i64,.int .i64,.int .i64,.int .i64,.int .i64,.int .i64,.int .i64,.int .i64,.int .i64,.int .i64,.int .i64,.int .i64,.int .i64,.sl 5,.sl 7,.sl 8,.sl 1,.sl 1,.int .i64]
 | 10=>[.sl 0,.sl 2,.sl 3,.int .i64,.int .i64,.int .i64,.int .i64,.int .i64,.int .i64,.int .i64,.int .i64,.int .i64,.int .i64,.int .i64,.int .i64,.int .i64,.int .i64,.int .i64]
 | 11=>[.int .i64,.int .i64,.int .i64,.int .i64]
 | 12=>[.int .i64,.int .i64,.int .i64,.int .i64]
 | 13=>[.int .i64,.sl 5]
 | 14=>[.int .i64,.int .i64,.int .i64,.sl 5,.sl 7,.sl 8,.sl 1,.sl 1,.int .i64]
 | 15=>[.str]
 | 16=>[.bool]
 | _=>[.bool]
noncomputable instance ty:Ty where
 T:=tyT
 fl:=tyF
 prj:=fun i=>match i with
  | 0=>fun x=>(x.Cpu,x.Mem,x.Gpu,x.Lic,())
  | 1=>fun x=>(x,())
  | 2=>fun x=>(x,())
  | 3=>fun x=>(x.Part,x.Users,x.MaxJobs,x.MaxRun,x.MaxUser,x.Qos,())
  | 4=>fun x=>(x.Job,x.Ok,())
  | 5=>fun x=>(x.Id,x.User,x.Queue,x.Many,x.Need.Cpu,x.Need.Mem,x.Need.Gpu,x.Need.Lic,x.Wall,x.After,x.State,x.Ok,x.Kill,x.Version,x.Born,x.Start,x.End,x.Array,())
  | 6=>fun x=>(x.Node,x.Many,())
  | 7=>fun x=>(x.Job,x.Need.Cpu,x.Need.Mem,x.Need.Gpu,x.Need.Lic,x.Shares,())
  | 8=>fun x=>(x.Id,x.Node,x.From,x.To,())
  | 9=>fun x=>(x.S.Nodes,x.S.Parts,x.S.Queues,x.S.Users,x.S.Weights.Age,x.S.Weights.Size,x.S.Weights.Qos,x.S.Weights.Share,x.S.Decay,x.S.Mode,x.S.Jobs,x.S.Ids,x.S.Versions,x.S.Linger,x.S.Keep,x.S.In,x.S.Out,x.S.Cache,x.St.Now,x.St.Next,x.St.Book,x.St.Jobs,x.St.Allocs,x.St.Books,x.St.Use,x.St.Stamps.Queues,x.St.Stamps.Nodes,())
  | 10=>fun x=>(x.Nodes,x.Parts,x.Queues,x.Users,x.Weights.Age,x.Weights.Size,x.Weights.Qos,x.Weights.Share,x.Decay,x.Mode,x.Jobs,x.Ids,x.Versions,x.Linger,x.Keep,x.In,x.Out,x.Cache,())
  | 11=>fun x=>(x.1,x.2.1,x.2.2.1,x.2.2.2,())
  | 12=>fun x=>(x.Age,x.Size,x.Qos,x.Share,())
  | 13=>fun x=>(x.f_places,x.f_jobs,())
  | 14=>fun x=>(x.Now,x.Next,x.Book,x.Jobs,x.Allocs,x.Books,x.Use,x.Stamps.Queues,x.Stamps.Nodes,())
  | 15=>fun x=>(x,())
  | 16=>fun x=>(x,())
  | _+17=>fun x=>(x,())
 mkt:=fun i=>match i with
  | 0=>fun x=>({ Cpu:=x.1,Mem:=x.2.1,Gpu:=x.2.2.1,Lic:=x.2.2.2.1 }:zaa)
  | 1=>fun x=>x.1
  | 2=>fun x=>x.1
  | 3=>fun x=>({ Part:=x.1,Users:=x.2.1,MaxJobs:=x.2.2.1,MaxRun:=x.2.2.2.1,MaxUser:=x.2.2.2.2.1,Qos:=x.2.2.2.2.2.1 }:zbp)
  | 4=>fun x=>({ Job:=x.1,Ok:=x.2.1 }:api_Dep)
  | 5=>fun x=>({ Id:=x.1,User:=x.2.1,Queue:=x.2.2.1,Many:=x.2.2.2.1,Need:=({ Cpu:=x.2.2.2.2.1,Mem:=x.2.2.2.2.2.1,Gpu:=x.2.2.2.2.2.2.1,Lic:=x.2.2.2.2.2.2.2.1 }:zaa),Wall:=x.2.2.2.2.2.2.2.2.1,After:=x.2.2.2.2.2.2.2.2.2.1,State:=x.2.2.2.2.2.2.2.2.2.2.1,Ok:=x.2.2.2.2.2.2.2.2.2.2.2.1,Kill:=x.2.2.2.2.2.2.2.2.2.2.2.2.1,Version:=x.2.2.2.2.2.2.2.2.2.2.2.2.2.1,Born:=x.2.2.2.2.2.2.2.2.2.2.2.2.2.2.1,Start:=x.2.2.2.2.2.2.2.2.2.2.2.2.2.2.2.1,End:=x.2.2.2.2.2.2.2.2.2.2.2.2.2.2.2.2.1,Array:=x.2.2.2.2.2.2.2.2.2.2.2.2.2.2.2.2.2.1 }:zab)
  | 6=>fun x=>({ Node:=x.1,Many:=x.2.1 }:zaj)
  | 7=>fun x=>({ Job:=x.1,Need:=({ Cpu:=x.2.1,Mem:=x.2.2.1,Gpu:=x.2.2.2.1,Lic:=x.2.2.2.2.1 }:zaa),Shares:=x.2.2.2.2.2.1 }:zac)
  | 8=>fun x=>({ Id:=x.1,Node:=x.2.1,From:=x.2.2.1,To:=x.2.2.2.1 }:zag)
  | 9=>fun x=>({ S:=({ Nodes:=x.1,Parts:=x.2.1,Queues:=x.2.2.1,Users:=x.2.2.2.1,Weights:=({ Age:=x.2.2.2.2.1,Size:=x.2.2.2.2.2.1,Qos:=x.2.2.2.2.2.2.1,Share:=x.2.2.2.2.2.2.2.1 }:zbo),Decay:=x.2.2.2.2.2.2.2.2.1,Mode:=x.2.2.2.2.2.2.2.2.2.1,Jobs:=x.2.2.2.2.2.2.2.2.2.2.1,Ids:=x.2.2.2.2.2.2.2.2.2.2.2.1,Versions:=x.2.2.2.2.2.2.2.2.2.2.2.2.1,Linger:=x.2.2.2.2.2.2.2.2.2.2.2.2.2.1,Keep:=x.2.2.2.2.2.2.2.2.2.2.2.2.2.2.1,In:=x.2.2.2.2.2.2.2.2.2.2.2.2.2.2.2.1,Out:=x.2.2.2.2.2.2.2.2.2.2.2.2.2.2.2.2.1,Cache:=x.2.2.2.2.2.2.2.2.2.2.2.2.2.2.2.2.2.1 }:zae),St:=({ Now:=x.2.2.2.2.2.2.2.2.2.2.2.2.2.2.2.2.2.2.1,Next:=x.2.2.2.2.2.2.2.2.2.2.2.2.2.2.2.2.2.2.2.1,Book:=x.2.2.2.2.2.2.2.2.2.2.2.2.2.2.2.2.2.2.2.2.1,Jobs:=x.2.2.2.2.2.2.2.2.2.2.2.2.2.2.2.2.2.2.2.2.2.1,Allocs:=x.2.2.2.2.2.2.2.2.2.2.2.2.2.2.2.2.2.2.2.2.2.2.1,Books:=x.2.2.2.2.2.2.2.2.2.2.2.2.2.2.2.2.2.2.2.2.2.2.2.1,Use:=x.2.2.2.2.2.2.2.2.2.2.2.2.2.2.2.2.2.2.2.2.2.2.2.2.1,Stamps:=({ Queues:=x.2.2.2.2.2.2.2.2.2.2.2.2.2.2.2.2.2.2.2.2.2.2.2.2.2.1,Nodes:=x.2.2.2.2.2.2.2.2.2.2.2.2.2.2.2.2.2.2.2.2.2.2.2.2.2.2.1 }:api_Stamps) }:zai) }:zcX)
  | 10=>fun x=>({ Nodes:=x.1,Parts:=x.2.1,Queues:=x.2.2.1,Users:=x.2.2.2.1,Weights:=({ Age:=x.2.2.2.2.1,Size:=x.2.2.2.2.2.1,Qos:=x.2.2.2.2.2.2.1,Share:=x.2.2.2.2.2.2.2.1 }:zbo),Decay:=x.2.2.2.2.2.2.2.2.1,Mode:=x.2.2.2.2.2.2.2.2.2.1,Jobs:=x.2.2.2.2.2.2.2.2.2.2.1,Ids:=x.2.2.2.2.2.2.2.2.2.2.2.1,Versions:=x.2.2.2.2.2.2.2.2.2.2.2.2.1,Linger:=x.2.2.2.2.2.2.2.2.2.2.2.2.2.1,Keep:=x.2.2.2.2.2.2.2.2.2.2.2.2.2.2.1,In:=x.2.2.2.2.2.2.2.2.2.2.2.2.2.2.2.1,Out:=x.2.2.2.2.2.2.2.2.2.2.2.2.2.2.2.2.1,Cache:=x.2.2.2.2.2.2.2.2.2.2.2.2.2.2.2.2.2.1 }:zae)
  | 11=>fun x=>(x.1,x.2.1,x.2.2.1,x.2.2.2.1)
  | 12=>fun x=>({ Age:=x.1,Size:=x.2.1,Qos:=x.2.2.1,Share:=x.2.2.2.1 }:zbo)
  | 13=>fun x=>({ f_places:=x.1,f_jobs:=x.2.1 }:table_Table)
  | 14=>fun x=>({ Now:=x.1,Next:=x.2.1,Book:=x.2.2.1,Jobs:=x.2.2.2.1,Allocs:=x.2.2.2.2.1,Books:=x.2.2.2.2.2.1,Use:=x.2.2.2.2.2.2.1,Stamps:=({ Queues:=x.2.2.2.2.2.2.2.1,Nodes:=x.2.2.2.2.2.2.2.2.1 }:api_Stamps) }:zai)
  | 15=>fun x=>x.1
  | 16=>fun x=>x.1
  | _+17=>fun x=>x.1
 mp:=fun i=>match i with
  | 0=>fun _=>rfl
  | 1=>fun _=>rfl
  | 2=>fun _=>rfl
  | 3=>fun _=>rfl
  | 4=>fun _=>rfl
  | 5=>fun _=>rfl
  | 6=>fun _=>rfl
  | 7=>fun _=>rfl
  | 8=>fun _=>rfl
  | 9=>fun _=>rfl
  | 10=>fun _=>rfl
  | 11=>fun _=>rfl
  | 12=>fun _=>rfl
  | 13=>fun _=>rfl
  | 14=>fun _=>rfl
  | 15=>fun _=>rfl
  | 16=>fun _=>rfl
  | _+17=>fun _=>rfl
 pm:=fun i=>match i with
  | 0=>fun _=>rfl
  | 1=>fun _=>rfl
  | 2=>fun _=>rfl
  | 3=>fun _=>rfl
  | 4=>fun _=>rfl
  | 5=>fun _=>rfl
  | 6=>fun _=>rfl
  | 7=>fun _=>rfl
  | 8=>fun _=>rfl
  | 9=>fun _=>rfl
  | 10=>fun _=>rfl
  | 11=>fun _=>rfl
  | 12=>fun _=>rfl
  | 13=>fun _=>rfl
  | 14=>fun _=>rfl
  | 15=>fun _=>rfl
  | 16=>fun _=>rfl
  | _+17=>fun _=>rfl
 dn:=fun i j h=>match i with
  | 0=>by simp [tyF] at h
  | 1=>by simp [tyF] at h
  | 2=>by simp [tyF] at h <;> omega
  | 3=>by simp [tyF] at h <;> omega
  | 4=>by simp [tyF] at h
  | 5=>by simp [tyF] at h <;> omega
  | 6=>by simp [tyF] at h
  | 7=>by simp [tyF] at h <;> omega
  | 8=>by simp [tyF] at h
  | 9=>by simp [tyF] at h <;> omega
  | 10=>by simp [tyF] at h <;> omega
  | 11=>by simp [tyF] at h
  | 12=>by simp [tyF] at h
  | 13=>by simp [tyF] at h <;> omega
  | 14=>by simp [tyF] at h <;> omega
  | 15=>by simp [tyF] at h
  | 16=>by simp [tyF] at h
  | _+17=>by simp [tyF] at h
 ps:=fun i=>match i with
  | 0=>by simp [tyF]
  | 1=>by simp [tyF]
  | 2=>by simp [tyF]
  | 3=>by simp [tyF]
  | 4=>by simp [tyF]
  | 5=>by simp [tyF]
  | 6=>by simp [tyF]
  | 7=>by simp [tyF]
  | 8=>by simp [tyF]
  | 9=>by simp [tyF]
  | 10=>by simp [tyF]
  | 11=>by simp [tyF]
  | 12=>by simp [tyF]
  | 13=>by simp [tyF]
  | 14=>by simp [tyF]
  | 15=>by simp [tyF]
  | 16=>by simp [tyF]
  | _+17=>by simp [tyF]
end Go.Abs
