/- The program's types. -/
import Derived.Test.YtgneliafoejmeaaGreatFwG
set_option linter.all false
set_option maxRecDepth 100000
noncomputable section
namespace Go.Abs
variable [Gl]
@[ext] structure zaa where
  Cpu:Int
  Mem:Int
  Gpu:Int
  Lic:Int
  deriving DecidableEq,Inhabited
def zaa.beq (a b:zaa):Bool:=(a.Cpu == b.Cpu&&(a.Mem == b.Mem&&(a.Gpu == b.Gpu&&(a.Lic == b.Lic&&true))))
@[ext] structure zaL where
  Part:Int
  Users:(List Int)
  MaxJobs:Int
  MaxRun:Int
  MaxUser:Int
  Qos:Int
  deriving DecidableEq,Inhabited
@[ext] structure zaV where
  Age:Int
  Size:Int
  Qos:Int
  Share:Int
  deriving DecidableEq,Inhabited
def zaV.beq (a b:zaV):Bool:=(a.Age == b.Age&&(a.Size == b.Size&&(a.Qos == b.Qos&&(a.Share == b.Share&&true))))
@[ext] structure zac where
  Nodes:(List zaa)
  Parts:(List (List Int))
  Queues:(List zaL)
  Users:Int
  Weights:zaV
  Decay:Int
  Mode:Int
  Jobs:Int
  Ids:Int
  Versions:Int
  Linger:Int
  Keep:Int
  In:Int
  Out:Int
  Cache:Int
  deriving DecidableEq,Inhabited
@[ext] structure zcS where
  Job:Int
  Ok:Bool
  deriving DecidableEq,Inhabited
def zcS.beq (a b:zcS):Bool:=(a.Job == b.Job&&(a.Ok == b.Ok&&true))
@[ext] structure zae where
  Id:Int
  User:Int
  Queue:Int
  Many:Int
  Need:zaa
  Wall:Int
  After:(List zcS)
  State:Int
  Ok:Bool
  Kill:Bool
  Version:Int
  Born:Int
  Start:Int
  End:Int
  Array:Int
  deriving DecidableEq,Inhabited
@[ext] structure zaj where
  Node:Int
  Many:Int
  deriving DecidableEq,Inhabited
def zaj.beq (a b:zaj):Bool:=(a.Node == b.Node&&(a.Many == b.Many&&true))
@[ext] structure zag where
  Job:Int
  Need:zaa
  Shares:(List zaj)
  deriving DecidableEq,Inhabited
@[ext] structure zai where
  Id:Int
  Node:Int
  From:Int
  To:Int
  deriving DecidableEq,Inhabited
def zai.beq (a b:zai):Bool:=(a.Id == b.Id&&(a.Node == b.Node&&(a.From == b.From&&(a.To == b.To&&true))))
@[ext] structure zdI where
  Queues:(List Int)
  Nodes:Int
  deriving DecidableEq,Inhabited
@[ext] structure zaf where
  Now:Int
  Next:Int
  Book:Int
  Jobs:(List zae)
  Allocs:(List zag)
  Books:(List zai)
  Use:(List Int)
  Stamps:zdI
  deriving DecidableEq,Inhabited
@[ext] structure zcI where
  S:zac
  St:zaf
  deriving DecidableEq,Inhabited
@[ext] structure zal where
  Kind:Int
  Key:Int
  Job:Int
  Version:Int
  Queue:Int
  Many:Int
  Need:zaa
  Wall:Int
  Tasks:Int
  After:(List zcS)
  Node:Int
  From:Int
  To:Int
  Id:Int
  deriving DecidableEq,Inhabited
@[ext] structure api_Call where
  User:Int
  Request:zal
  deriving DecidableEq,Inhabited
@[ext] structure table_Table where
  f_places:Int
  f_jobs:(List zae)
  deriving DecidableEq,Inhabited
@[ext] structure zbB where
  Key:Int
  Err:Int
  Job:Int
  Version:Int
  Nums:(List Int)
  deriving DecidableEq,Inhabited
@[ext] structure submit_submission where
  f_set:zac
  f_state:zaf
  f_user:Int
  f_ask:zal
  deriving DecidableEq,Inhabited
def tyT:Nat→Type
  | 0=>zaa
  | 1=>Int
  | 2=>(List Int)
  | 3=>zaL
  | 4=>zcS
  | 5=>zae
  | 6=>zaj
  | 7=>zag
  | 8=>zai
  | 9=>zcI
  | 10=>api_Call
  | 11=>zac
  | 12=>(Int×Int×Int×Int)
  | 13=>zaV
  | 14=>table_Table
  | 15=>zal
  | 16=>zbB
  | 17=>zaf
  | 18=>submit_submission
  | 19=>ByteArray
  | 20=>Bool
  | _=>Bool
def tyF:Nat→List CC
  | 0=>[.int .i64,.int .i64,.int .i64,.int .i64]
  | 1=>[.int .i64]
  | 2=>[.sl 1]
  | 3=>[.int .i64,.sl 1,.int .i64,.int .i64,.int .i64,.int .i64]
  | 4=>[.int .i64,.bool]
  | 5=>[.int .i64,.int .i64,.int .i64,.int .i64,.int .i64,.int .i64,.int .i64,.int .i64,.int .i64,.sl 4,.int .i64,.bool,.bool,.int .i64,.int .i64,.int .i64,.int .i64,.int .i64]
  | 6=>[.int .i64,.int .i64]
  | 7=>[.int .i64,.int .i64,.int .i64,.int .i64,.int .i64,.sl 6]
  | 8=>[.int .i64,.int .i64,.int .i64,.int .i64]
  | 9=>[.sl 0,.sl 2,.sl 3,.int .i64,.int .i64,.int .i64,.int .i64,.int .i64,.int .i64,.int .i64,.int .i64,.int .i64,.int .i64,.int .i64,.int .i64,.int .i64,.int .i64,.int .i64,.int .i64,.int .i64,.int .i64,.sl 5,.sl 7,.sl 8,.sl 1,.sl 1,.int .i64]
  | 10=>[.int .i64,.int .i64,.int .i64,.int .i64,.int .i64,.int .i64,.int .i64,.int .i64,.int .i64,.int .i64,.int .i64,.int .i64,.int .i64,.sl 4,.int .i64,.int .i64,.int .i64,.int .i64]
  | 11=>[.sl 0,.sl 2,.sl 3,.int .i64,.int .i64,.int .i64,.int .i64,.int .i64,.int .i64,.int .i64,.int .i64,.int .i64,.int .i64,.int .i64,.int .i64,.int .i64,.int .i64,.int .i64]
  | 12=>[.int .i64,.int .i64,.int .i64,.int .i64]
  | 13=>[.int .i64,.int .i64,.int .i64,.int .i64]
  | 14=>[.int .i64,.sl 5]
  | 15=>[.int .i64,.int .i64,.int .i64,.int .i64,.int .i64,.int .i64,.int .i64,.int .i64,.int .i64,.int .i64,.int .i64,.int .i64,.sl 4,.int .i64,.int .i64,.int .i64,.int .i64]
  | 16=>[.int .i64,.int .i64,.int .i64,.int .i64,.sl 1]
  | 17=>[.int .i64,.int .i64,.int .i64,.sl 5,.sl 7,.sl 8,.sl 1,.sl 1,.int .i64]
  | 18=>[.sl 0,.sl 2,.sl 3,.int .i64,.int .i64,.int .i64,.int .i64,.int .i64,.int .i64,.int .i64,.int .i64,.int .i64,.int .i64,.int .i64,.int .i64,.int .i64,.int .i64,.int .i64,.int .i64,.int .i64,.int .i64,.sl 5,.sl 7,.sl 8,.sl 1,.sl 1,.int .i64,.int .i64,.int .i64,.int .i64,.int .i64,.int .i64,.int .i64,.int .i64,.int .i64,.int .i64,.int .i64,.int .i64,.int .i64,.int .i64,.sl 4,.int .i64,.int .i64,.int .i64,.int .i64]
  | 19=>[.str]
  | 20=>[.bool]
  | _=>[.bool]
noncomputable instance ty:Ty where
  T:=tyT
  fl:=tyF
  prj:=fun i=>match i with
    | 0=>fun x=>(x.Cpu,x.Mem,x.Gpu,x.Lic,())
    | 1=>fun x=>(x,())
    | 2=>fun x=>(x,())
    | 3=>fun x=>(x.Part,x.Users,x.MaxJobs,x.MaxRun,x.MaxUser,x.Qos,())
    | 4=>fun x=>(x.Job,x.Ok,())
    | 5=>fun x=>(x.Id,x.User,x.Queue,x.Many,x.Need.Cpu,x.Need.Mem,x.Need.Gpu,x.Need.Lic,x.Wall,x.After,x.State,x.Ok,x.Kill,x.Version,x.Born,x.Start,x.End,x.Array,())
    | 6=>fun x=>(x.Node,x.Many,())
    | 7=>fun x=>(x.Job,x.Need.Cpu,x.Need.Mem,x.Need.Gpu,x.Need.Lic,x.Shares,())
    | 8=>fun x=>(x.Id,x.Node,x.From,x.To,())
    | 9=>fun x=>(x.S.Nodes,x.S.Parts,x.S.Queues,x.S.Users,x.S.Weights.Age,x.S.Weights.Size,x.S.Weights.Qos,x.S.Weights.Share,x.S.Decay,x.S.Mode,x.S.Jobs,x.S.Ids,x.S.Versions,x.S.Linger,x.S.Keep,x.S.In,x.S.Out,x.S.Cache,x.St.Now,x.St.Next,x.St.Book,x.St.Jobs,x.St.Allocs,x.St.Books,x.St.Use,x.St.Stamps.Queues,x.St.Stamps.Nodes,())
    | 10=>fun x=>(x.User,x.Request.Kind,x.Request.Key,x.Request.Job,x.Request.Version,x.Request.Queue,x.Request.Many,x.Request.Need.Cpu,x.Request.Need.Mem,x.Request.Need.Gpu,x.Request.Need.Lic,x.Request.Wall,x.Request.Tasks,x.Request.After,x.Request.Node,x.Request.From,x.Request.To,x.Request.Id,())
    | 11=>fun x=>(x.Nodes,x.Parts,x.Queues,x.Users,x.Weights.Age,x.Weights.Size,x.Weights.Qos,x.Weights.Share,x.Decay,x.Mode,x.Jobs,x.Ids,x.Versions,x.Linger,x.Keep,x.In,x.Out,x.Cache,())
    | 12=>fun x=>(x.1,x.2.1,x.2.2.1,x.2.2.2,())
    | 13=>fun x=>(x.Age,x.Size,x.Qos,x.Share,())
    | 14=>fun x=>(x.f_places,x.f_jobs,())
    | 15=>fun x=>(x.Kind,x.Key,x.Job,x.Version,x.Queue,x.Many,x.Need.Cpu,x.Need.Mem,x.Need.Gpu,x.Need.Lic,x.Wall,x.Tasks,x.After,x.Node,x.From,x.To,x.Id,())
    | 16=>fun x=>(x.Key,x.Err,x.Job,x.Version,x.Nums,())
    | 17=>fun x=>(x.Now,x.Next,x.Book,x.Jobs,x.Allocs,x.Books,x.Use,x.Stamps.Queues,x.Stamps.Nodes,())
    | 18=>fun x=>(x.f_set.Nodes,x.f_set.Parts,x.f_set.Queues,x.f_set.Users,x.f_set.Weights.Age,x.f_set.Weights.Size,x.f_set.Weights.Qos,x.f_set.Weights.Share,x.f_set.Decay,x.f_set.Mode,x.f_set.Jobs,x.f_set.Ids,x.f_set.Versions,x.f_set.Linger,x.f_set.Keep,x.f_set.In,x.f_set.Out,x.f_set.Cache,x.f_state.Now,x.f_state.Next,x.f_state.Book,x.f_state.Jobs,x.f_state.Allocs,x.f_state.Books,x.f_state.Use,x.f_state.Stamps.Queues,x.f_state.Stamps.Nodes,x.f_user,x.f_ask.Kind,x.f_ask.Key,x.f_ask.Job,x.f_ask.Version,x.f_ask.Queue,x.f_ask.Many,x.f_ask.Need.Cpu,x.f_ask.Need.Mem,x.f_ask.Need.Gpu,x.f_ask.Need.Lic,x.f_ask.Wall,x.f_ask.Tasks,x.f_ask.After,x.f_ask.Node,x.f_ask.From,x.f_ask.To,x.f_ask.Id,())
    | 19=>fun x=>(x,())
    | 20=>fun x=>(x,())
    | _+21=>fun x=>(x,())
  mkt:=fun i=>match i with
    | 0=>fun x=>({ Cpu:=x.1,Mem:=x.2.1,Gpu:=x.2.2.1,Lic:=x.2.2.2.1 }:zaa)
    | 1=>fun x=>x.1
    | 2=>fun x=>x.1
    | 3=>fun x=>({ Part:=x.1,Users:=x.2.1,MaxJobs:=x.2.2.1,MaxRun:=x.2.2.2.1,MaxUser:=x.2.2.2.2.1,Qos:=x.2.2.2.2.2.1 }:zaL)
    | 4=>fun x=>({ Job:=x.1,Ok:=x.2.1 }:zcS)
    | 5=>fun x=>({ Id:=x.1,User:=x.2.1,Queue:=x.2.2.1,Many:=x.2.2.2.1,Need:=({ Cpu:=x.2.2.2.2.1,Mem:=x.2.2.2.2.2.1,Gpu:=x.2.2.2.2.2.2.1,Lic:=x.2.2.2.2.2.2.2.1 }:zaa),Wall:=x.2.2.2.2.2.2.2.2.1,After:=x.2.2.2.2.2.2.2.2.2.1,State:=x.2.2.2.2.2.2.2.2.2.2.1,Ok:=x.2.2.2.2.2.2.2.2.2.2.2.1,Kill:=x.2.2.2.2.2.2.2.2.2.2.2.2.1,Version:=x.2.2.2.2.2.2.2.2.2.2.2.2.2.1,Born:=x.2.2.2.2.2.2.2.2.2.2.2.2.2.2.1,Start:=x.2.2.2.2.2.2.2.2.2.2.2.2.2.2.2.1,End:=x.2.2.2.2.2.2.2.2.2.2.2.2.2.2.2.2.1,Array:=x.2.2.2.2.2.2.2.2.2.2.2.2.2.2.2.2.2.1 }:zae)
    | 6=>fun x=>({ Node:=x.1,Many:=x.2.1 }:zaj)
    | 7=>fun x=>({ Job:=x.1,Need:=({ Cpu:=x.2.1,Mem:=x.2.2.1,Gpu:=x.2.2.2.1,Lic:=x.2.2.2.2.1 }:zaa),Shares:=x.2.2.2.2.2.1 }:zag)
    | 8=>fun x=>({ Id:=x.1,Node:=x.2.1,From:=x.2.2.1,To:=x.2.2.2.1 }:zai)
    | 9=>fun x=>({ S:=({ Nodes:=x.1,Parts:=x.2.1,Queues:=x.2.2.1,Users:=x.2.2.2.1,Weights:=({ Age:=x.2.2.2.2.1,Size:=x.2.2.2.2.2.1,Qos:=x.2.2.2.2.2.2.1,Share:=x.2.2.2.2.2.2.2.1 }:zaV),Decay:=x.2.2.2.2.2.2.2.2.1,Mode:=x.2.2.2.2.2.2.2.2.2.1,Jobs:=x.2.2.2.2.2.2.2.2.2.2.1,Ids:=x.2.2.2.2.2.2.2.2.2.2.2.1,Versions:=x.2.2.2.2.2.2.2.2.2.2.2.2.1,Linger:=x.2.2.2.2.2.2.2.2.2.2.2.2.2.1,Keep:=x.2.2.2.2.2.2.2.2.2.2.2.2.2.2.1,In:=x.2.2.2.2.2.2.2.2.2.2.2.2.2.2.2.1,Out:=x.2.2.2.2.2.2.2.2.2.2.2.2.2.2.2.2.1,Cache:=x.2.2.2.2.2.2.2.2.2.2.2.2.2.2.2.2.2.1 }:zac),St:=({ Now:=x.2.2.2.2.2.2.2.2.2.2.2.2.2.2.2.2.2.2.1,Next:=x.2.2.2.2.2.2.2.2.2.2.2.2.2.2.2.2.2.2.2.1,Book:=x.2.2.2.2.2.2.2.2.2.2.2.2.2.2.2.2.2.2.2.2.1,Jobs:=x.2.2.2.2.2.2.2.2.2.2.2.2.2.2.2.2.2.2.2.2.2.1,Allocs:=x.2.2.2.2.2.2.2.2.2.2.2.2.2.2.2.2.2.2.2.2.2.2.1,Books:=x.2.2.2.2.2.2.2.2.2.2.2.2.2.2.2.2.2.2.2.2.2.2.2.1,Use:=x.2.2.2.2.2.2.2.2.2.2.2.2.2.2.2.2.2.2.2.2.2.2.2.2.1,Stamps:=({ Queues:=x.2.2.2.2.2.2.2.2.2.2.2.2.2.2.2.2.2.2.2.2.2.2.2.2.2.1,Nodes:=x.2.2.2.2.2.2.2.2.2.2.2.2.2.2.2.2.2.2.2.2.2.2.2.2.2.2.1 }:zdI) }:zaf) }:zcI)
    | 10=>fun x=>({ User:=x.1,Request:=({ Kind:=x.2.1,Key:=x.2.2.1,Job:=x.2.2.2.1,Version:=x.2.2.2.2.1,Queue:=x.2.2.2.2.2.1,Many:=x.2.2.2.2.2.2.1,Need:=({ Cpu:=x.2.2.2.2.2.2.2.1,Mem:=x.2.2.2.2.2.2.2.2.1,Gpu:=x.2.2.2.2.2.2.2.2.2.1,Lic:=x.2.2.2.2.2.2.2.2.2.2.1 }:zaa),Wall:=x.2.2.2.2.2.2.2.2.2.2.2.1,Tasks:=x.2.2.2.2.2.2.2.2.2.2.2.2.1,After:=x.2.2.2.2.2.2.2.2.2.2.2.2.2.1,Node:=x.2.2.2.2.2.2.2.2.2.2.2.2.2.2.1,From:=x.2.2.2.2.2.2.2.2.2.2.2.2.2.2.2.1,To:=x.2.2.2.2.2.2.2.2.2.2.2.2.2.2.2.2.1,Id:=x.2.2.2.2.2.2.2.2.2.2.2.2.2.2.2.2.2.1 }:zal) }:api_Call)
    | 11=>fun x=>({ Nodes:=x.1,Parts:=x.2.1,Queues:=x.2.2.1,Users:=x.2.2.2.1,Weights:=({ Age:=x.2.2.2.2.1,Size:=x.2.2.2.2.2.1,Qos:=x.2.2.2.2.2.2.1,Share:=x.2.2.2.2.2.2.2.1 }:zaV),Decay:=x.2.2.2.2.2.2.2.2.1,Mode:=x.2.2.2.2.2.2.2.2.2.1,Jobs:=x.2.2.2.2.2.2.2.2.2.2.1,Ids:=x.2.2.2.2.2.2.2.2.2.2.2.1,Versions:=x.2.2.2.2.2.2.2.2.2.2.2.2.1,Linger:=x.2.2.2.2.2.2.2.2.2.2.2.2.2.1,Keep:=x.2.2.2.2.2.2.2.2.2.2.2.2.2.2.1,In:=x.2.2.2.2.2.2.2.2.2.2.2.2.2.2.2.1,Out:=x.2.2.2.2.2.2.2.2.2.2.2.2.2.2.2.2.1,Cache:=x.2.2.2.2.2.2.2.2.2.2.2.2.2.2.2.2.2.1 }:zac)
    | 12=>fun x=>(x.1,x.2.1,x.2.2.1,x.2.2.2.1)
    | 13=>fun x=>({ Age:=x.1,Size:=x.2.1,Qos:=x.2.2.1,Share:=x.2.2.2.1 }:zaV)
    | 14=>fun x=>({ f_places:=x.1,f_jobs:=x.2.1 }:table_Table)
    | 15=>fun x=>({ Kind:=x.1,Key:=x.2.1,Job:=x.2.2.1,Version:=x.2.2.2.1,Queue:=x.2.2.2.2.1,Many:=x.2.2.2.2.2.1,Need:=({ Cpu:=x.2.2.2.2.2.2.1,Mem:=x.2.2.2.2.2.2.2.1,Gpu:=x.2.2.2.2.2.2.2.2.1,Lic:=x.2.2.2.2.2.2.2.2.2.1 }:zaa),Wall:=x.2.2.2.2.2.2.2.2.2.2.1,Tasks:=x.2.2.2.2.2.2.2.2.2.2.2.1,After:=x.2.2.2.2.2.2.2.2.2.2.2.2.1,Node:=x.2.2.2.2.2.2.2.2.2.2.2.2.2.1,From:=x.2.2.2.2.2.2.2.2.2.2.2.2.2.2.1,To:=x.2.2.2.2.2.2.2.2.2.2.2.2.2.2.2.1,Id:=x.2.2.2.2.2.2.2.2.2.2.2.2.2.2.2.2.1 }:zal)
    | 16=>fun x=>({ Key:=x.1,Err:=x.2.1,Job:=x.2.2.1,Version:=x.2.2.2.1,Nums:=x.2.2.2.2.1 }:zbB)
    | 17=>fun x=>({ Now:=x.1,Next:=x.2.1,Book:=x.2.2.1,Jobs:=x.2.2.2.1,Allocs:=x.2.2.2.2.1,Books:=x.2.2.2.2.2.1,Use:=x.2.2.2.2.2.2.1,Stamps:=({ Queues:=x.2.2.2.2.2.2.2.1,Nodes:=x.2.2.2.2.2.2.2.2.1 }:zdI) }:zaf)
    | 18=>fun x=>({ f_set:=({ Nodes:=x.1,Parts:=x.2.1,Queues:=x.2.2.1,Users:=x.2.2.2.1,Weights:=({ Age:=x.2.2.2.2.1,Size:=x.2.2.2.2.2.1,Qos:=x.2.2.2.2.2.2.1,Share:=x.2.2.2.2.2.2.2.1 }:zaV),Decay:=x.2.2.2.2.2.2.2.2.1,Mode:=x.2.2.2.2.2.2.2.2.2.1,Jobs:=x.2.2.2.2.2.2.2.2.2.2.1,Ids:=x.2.2.2.2.2.2.2.2.2.2.2.1,Versions:=x.2.2.2.2.2.2.2.2.2.2.2.2.1,Linger:=x.2.2.2.2.2.2.2.2.2.2.2.2.2.1,Keep:=x.2.2.2.2.2.2.2.2.2.2.2.2.2.2.1,In:=x.2.2.2.2.2.2.2.2.2.2.2.2.2.2.2.1,Out:=x.2.2.2.2.2.2.2.2.2.2.2.2.2.2.2.2.1,Cache:=x.2.2.2.2.2.2.2.2.2.2.2.2.2.2.2.2.2.1 }:zac),f_state:=({ Now:=x.2.2.2.2.2.2.2.2.2.2.2.2.2.2.2.2.2.2.1,Next:=x.2.2.2.2.2.2.2.2.2.2.2.2.2.2.2.2.2.2.2.1,Book:=x.2.2.2.2.2.2.2.2.2.2.2.2.2.2.2.2.2.2.2.2.1,Jobs:=x.2.2.2.2.2.2.2.2.2.2.2.2.2.2.2.2.2.2.2.2.2.1,Allocs:=x.2.2.2.2.2.2.2.2.2.2.2.2.2.2.2.2.2.2.2.2.2.2.1,Books:=x.2.2.2.2.2.2.2.2.2.2.2.2.2.2.2.2.2.2.2.2.2.2.2.1,Use:=x.2.2.2.2.2.2.2.2.2.2.2.2.2.2.2.2.2.2.2.2.2.2.2.2.1,Stamps:=({ Queues:=x.2.2.2.2.2.2.2.2.2.2.2.2.2.2.2.2.2.2.2.2.2.2.2.2.2.1,Nodes:=x.2.2.2.2.2.2.2.2.2.2.2.2.2.2.2.2.2.2.2.2.2.2.2.2.2.2.1 }:zdI) }:zaf),f_user:=x.2.2.2.2.2.2.2.2.2.2.2.2.2.2.2.2.2.2.2.2.2.2.2.2.2.2.2.1,f_ask:=({ Kind:=x.2.2.2.2.2.2.2.2.2.2.2.2.2.2.2.2.2.2.2.2.2.2.2.2.2.2.2.2.1,Key:=x.2.2.2.2.2.2.2.2.2.2.2.2.2.2.2.2.2.2.2.2.2.2.2.2.2.2.2.2.2.1,Job:=x.2.2.2.2.2.2.2.2.2.2.2.2.2.2.2.2.2.2.2.2.2.2.2.2.2.2.2.2.2.2.1,Version:=x.2.2.2.2.2.2.2.2.2.2.2.2.2.2.2.2.2.2.2.2.2.2.2.2.2.2.2.2.2.2.2.1,Queue:=x.2.2.2.2.2.2.2.2.2.2.2.2.2.2.2.2.2.2.2.2.2.2.2.2.2.2.2.2.2.2.2.2.1,Many:=x.2.2.2.2.2.2.2.2.2.2.2.2.2.2.2.2.2.2.2.2.2.2.2.2.2.2.2.2.2.2.2.2.2.1,Need:=({ Cpu:=x.2.2.2.2.2.2.2.2.2.2.2.2.2.2.2.2.2.2.2.2.2.2.2.2.2.2.2.2.2.2.2.2.2.2.1,Mem:=x.2.2.2.2.2.2.2.2.2.2.2.2.2.2.2.2.2.2.2.2.2.2.2.2.2.2.2.2.2.2.2.2.2.2.2.1,Gpu:=x.2.2.2.2.2.2.2.2.2.2.2.2.2.2.2.2.2.2.2.2.2.2.2.2.2.2.2.2.2.2.2.2.2.2.2.2.1,Lic:=x.2.2.2.2.2.2.2.2.2.2.2.2.2.2.2.2.2.2.2.2.2.2.2.2.2.2.2.2.2.2.2.2.2.2.2.2.2.1 }:zaa),Wall:=x.2.2.2.2.2.2.2.2.2.2.2.2.2.2.2.2.2.2.2.2.2.2.2.2.2.2.2.2.2.2.2.2.2.2.2.2.2.2.1,Tasks:=x.2.2.2.2.2.2.2.2.2.2.2.2.2.2.2.2.2.2.2.2.2.2.2.2.2.2.2.2.2.2.2.2.2.2.2.2.2.2.2.1,After:=x.2.2.2.2.2.2.2.2.2.2.2.2.2.2.2.2.2.2.2.2.2.2.2.2.2.2.2.2.2.2.2.2.2.2.2.2.2.2.2.2.1,Node:=x.2.2.2.2.2.2.2.2.2.2.2.2.2.2.2.2.2.2.2.2.2.2.2.2.2.2.2.2.2.2.2.2.2.2.2.2.2.2.2.2.2.1,From:=x.2.2.2.2.2.2.2.2.2.2.2.2.2.2.2.2.2.2.2.2.2.2.2.2.2.2.2.2.2.2.2.2.2.2.2.2.2.2.2.2.2.2.1,To:=x.2.2.2.2.2.2.2.2.2.2.2.2.2.2.2.2.2.2.2.2.2.2.2.2.2.2.2.2.2.2.2.2.2.2.2.2.2.2.2.2.2.2.2.1,Id:=x.2.2.2.2.2.2.2.2.2.2.2.2.2.2.2.2.2.2.2.2.2.2.2.2.2.2.2.2.2.2.2.2.2.2.2.2.2.2.2.2.2.2.2.2.1 }:zal) }:submit_submission)
    | 19=>fun x=>x.1
    | 20=>fun x=>x.1
    | _+21=>fun x=>x.1
  mp:=fun i=>match i with
    | 0=>fun _=>rfl
    | 1=>fun _=>rfl
    | 2=>fun _=>rfl
    | 3=>fun _=>rfl
    | 4=>fun _=>rfl
    | 5=>fun _=>rfl
    | 6=>fun _=>rfl
    | 7=>fun _=>rfl
    | 8=>fun _=>rfl
    | 9=>fun _=>rfl
    | 10=>fun _=>rfl
    | 11=>fun _=>rfl
    | 12=>fun _=>rfl
    | 13=>fun _=>rfl
    | 14=>fun _=>rfl
    | 15=>fun _=>rfl
    | 16=>fun _=>rfl
    | 17=>fun _=>rfl
    | 18=>fun _=>rfl
    | 19=>fun _=>rfl
    | 20=>fun _=>rfl
    | _+21=>fun _=>rfl
  pm:=fun i=>match i with
    | 0=>fun _=>rfl
    | 1=>fun _=>rfl
    | 2=>fun _=>rfl
    | 3=>fun _=>rfl
    | 4=>fun _=>rfl
    | 5=>fun _=>rfl
    | 6=>fun _=>rfl
    | 7=>fun _=>rfl
    | 8=>fun _=>rfl
    | 9=>fun _=>rfl
    | 10=>fun _=>rfl
    | 11=>fun _=>rfl
    | 12=>fun _=>rfl
    | 13=>fun _=>rfl
    | 14=>fun _=>rfl
    | 15=>fun _=>rfl
    | 16=>fun _=>rfl
    | 17=>fun _=>rfl
    | 18=>fun _=>rfl
    | 19=>fun _=>rfl
    | 20=>fun _=>rfl
    | _+21=>fun _=>rfl
  dn:=fun i j h=>match i with
    | 0=>by simp [tyF] at h
    | 1=>by simp [tyF] at h
    | 2=>by simp [tyF] at h <;> omega
    | 3=>by simp [tyF] at h <;> omega
    | 4=>by simp [tyF] at h
    | 5=>by simp [tyF] at h <;> omega
    | 6=>by simp [tyF] at h
    | 7=>by simp [tyF] at h <;> omega
    | 8=>by simp [tyF] at h
    | 9=>by simp [tyF] at h <;> omega
    | 10=>by simp [tyF] at h <;> omega
    | 11=>by simp [tyF] at h <;> omega
    | 12=>by simp [tyF] at h
    | 13=>by simp [tyF] at h
    | 14=>by simp [tyF] at h <;> omega
    | 15=>by simp [tyF] at h <;> omega
    | 16=>by simp [tyF] at h <;> omega
    | 17=>by simp [tyF] at h <;> omega
    | 18=>by simp [tyF] at h <;> omega
    | 19=>by simp [tyF] at h
    | 20=>by simp [tyF] at h
    | _+21=>by simp [tyF] at h
  ps:=fun i=>match i with
    | 0=>by simp [tyF]
    | 1=>by simp [tyF]
    | 2=>by simp [tyF]
    | 3=>by simp [tyF]
    | 4=>by simp [tyF]
    | 5=>by simp [tyF]
    | 6=>by simp [tyF]
    | 7=>by simp [tyF]
    | 8=>by simp [tyF]
    | 9=>by simp [tyF]
    | 10=>by simp [tyF]
    | 11=>by simp [tyF]
    | 12=>by simp [tyF]
    | 13=>by simp [tyF]
    | 14=>by simp [tyF]
    | 15=>by simp [tyF]
    | 16=>by simp [tyF]
    | 17=>by simp [tyF]
    | 18=>by simp [tyF]
    | 19=>by simp [tyF]
    | 20=>by simp [tyF]
    | _+21=>by simp [tyF]
end Go.Abs
