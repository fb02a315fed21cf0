/- The program's types. -/
import Derived.Test.YtidolomakdofhaaGreatDoorFwG
import Derived.Test.YtidolomakdofhaaGreatDoorFwH
set_option linter.all false
set_option maxRecDepth 100000
noncomputable section
namespace Go.Abs
instance glT:Gl where
 ok Fz w:=Fz 0/\∀(j:Nat)(v:Value),([.int .i64 0,.int .i64 0,.int .i64 (-1),.int .i64 1,.int .i64 2,.int .i64 6]:List Value)[j]? = some v->w.cell? ⟨0,j,none⟩=some v/\v.oneCell'=true
 mono:=λh ⟨h1,h2⟩=>⟨(h 0 h1).1,λj v hj=>by rw[cell_heap (h 0 h1).2];exact h2 j v hj⟩
 tab g:=match g with | 0=>[.int .i64 0,.int .i64 0,.int .i64 (-1),.int .i64 1,.int .i64 2,.int .i64 6] | _+1=>[]
 tabOk:=λg j v h hj=>by
  match g with
  |0=>exact ⟨h.1,h.2 j v hj⟩
  |g+1=>cases hj
@[ext] structure zac where
 Cpu:Int
 Mem:Int
 Gpu:Int
 Lic:Int
 deriving DecidableEq,Inhabited
def zac.beq(a b:zac):Bool:=(a.Cpu == b.Cpu&&(a.Mem == b.Mem&&(a.Gpu == b.Gpu&&(a.Lic == b.Lic&&true))))
@[ext] structure zbE where
 Part:Int
 Users:(List Int)
 MaxJobs:Int
 MaxRun:Int
 MaxUser:Int
 Qos:Int
 deriving DecidableEq,Inhabited
@[ext] structure zbW where
 Age:Int
 Size:Int
 Qos:Int
 Share:Int
 deriving DecidableEq,Inhabited
def zbW.beq(a b:zbW):Bool:=(a.Age == b.Age&&(a.Size == b.Size&&(a.Qos == b.Qos&&(a.Share == b.Share&&true))))
@[ext] structure zad where
 Nodes:(List zac)
 Parts:(List (List Int))
 Queues:(List zbE)
 Users:Int
 Weights:zbW
 Decay:Int
 Mode:Int
 Jobs:Int
 Ids:Int
 Versions:Int
 Linger:Int
 Keep:Int
 In:Int
 Out:Int
 Cache:Int
 deriving DecidableEq,Inhabited
@[ext] structure zbL where
 Job:Int
 Ok:Bool
 deriving DecidableEq,Inhabited
def zbL.beq(a b:zbL):Bool:=(a.Job == b.Job&&(a.Ok == b.Ok&&true))
@[ext] structure zaa where
 Id:Int
 User:Int
 Queue:Int
 Many:Int
 Need:zac
 Wall:Int
 After:(List zbL)
 State:Int
 Ok:Bool
 Kill:Bool
 Version:Int
 Born:Int
 Start:Int
 End:Int
 Array:Int
 deriving DecidableEq,Inhabited
@[ext] structure zal where
 Node:Int
 Many:Int
 deriving DecidableEq,Inhabited
def zal.beq(a b:zal):Bool:=(a.Node == b.Node&&(a.Many == b.Many&&true))
@[ext] structure zae where
 Job:Int
 Need:zac
 Shares:(List zal)
 deriving DecidableEq,Inhabited
@[ext] structure zai where
 Id:Int
 Node:Int
 From:Int
 To:Int
 deriving DecidableEq,Inhabited
def zai.beq(a b:zai):Bool:=(a.Id == b.Id&&(a.Node == b.Node&&(a.From == b.From&&(a.To == b.To&&true))))
@[ext] structure zba where
 Queues:(List Int)
 Nodes:Int
 deriving DecidableEq,Inhabited
@[ext] structure zab where
 Now:Int
 Next:Int
 Book:Int
 Jobs:(List zaa)
 Allocs:(List zae)
 Books:(List zai)
 Use:(List Int)
 Stamps:zba
 deriving DecidableEq,Inhabited
@[ext] structure zds where
 S:zad
 St:zab
 deriving DecidableEq,Inhabited
@[ext] structure zap where
 Kind:Int
 Key:Int
 Job:Int
 Version:Int
 Queue:Int
 Many:Int
 Need:zac
 Wall:Int
 Tasks:Int
 After:(List zbL)
 Node:Int
 From:Int
 To:Int
 Id:Int
 deriving DecidableEq,Inhabited
@[ext] structure zan where
 User:Int
 Request:zap
 deriving DecidableEq,Inhabited
@[ext] structure table_Table where
 f_places:Int
 f_jobs:(List zaa)
 deriving DecidableEq,Inhabited
@[ext] structure zah where
 Key:Int
 Err:Int
 Job:Int
 Version:Int
 Nums:(List Int)
 deriving DecidableEq,Inhabited
def tyT:Nat->Type
 |0=>zac
 |1=>Int
 |2=>(List Int)
 |3=>zbE
 |4=>zbL
 |5=>zaa
 |6=>zal
 |7=>zae
 |8=>zai
 |9=>zds
 |10=>zan
 |11=>zad
 |12=>(Int×Int×Int×Int)
 |13=>zbW
 |14=>table_Table
 |15=>zah
 |16=>zab
 |17=>zap
 |18=>ByteArray
 |19=>Bool
 |20=>(Int×Int)
 |21=>(Int×Int×Int)
 |_=>Bool
def tyF:Nat->List CC
 |0=>[.int .i64,.int .i64,.int .i64,.int .i64]
 |1=>[.int .i64]
 |2=>[.sl 1]
 |3=>[.int .i64,.sl 1,.int .i64,.int .i64,.int .i64,.int .i64]
 |4=>[.int .i64,.bool]
 |5=>[.int .i64,.int .i64,.int .i64,.int .i64,.int .i64,.int .i64,.int .i64,.int .i64,.int .i64,.sl 4,.int .i64,.bool,.bool,.int .i64,.int .i64,.int .i64,.int .i64,.int .i64]
 |6=>[.int .i64,.int .i64]
 |7=>[.int .i64,.int .i64,.int .i64,.int .i64,.int .i64,.sl 6]
 |8=>[.int .i64,.int .i64,.int .i64,.int .i64]
 |9=>[.sl 0,.sl 2,.sl 3,.int .i64,.int .i64,.int .i64,.int .i64,.int .i64,.int .i64,.int .i64,.int .i64,.int .i64,.int .i64,.int .i64,.int .i64,.int .i64,.int .i64,.int .i64,.int .i64,.int .i64,.int .i64,.sl 5,.sl 7,.sl 8,.sl 1,.sl 1,.int .i64]
 |10=>[.int .i64,.int .i64,.int .i64,.int .i64,.int .i64,.int .i64,.int .i64,.int .i64,.int .i64,.int .i64,.int .i64,.int .i64,.int .i64,.sl 4,.int .i64,.int .i64,.int .i64,.int .i64]
 |11=>[.sl 0,.sl 2,.sl 3,.int .i64,.int .i64,.int .i64,.int .i64,.int .i64,.int .i64,.int .i64,.int .i64,.int .i64,.int .i64,.int .i64,.int .i64,.int .i64,.int .i64,.int .i64]
 |12=>[.int .i64,.int .i64,.int .i64,.int .i64]
 |13=>[.int .i64,.int .i64,.int .i64,.int .i64]
 |14=>[.int .i64,.sl 5]
 |15=>[.int .i64,.int .i64,.int .i64,.int .i64,.sl 1]
 |16=>[.int .i64,.int .i64,.int .i64,.sl 5,.sl 7,.sl 8,.sl 1,.sl 1,.int .i64]
 |17=>[.int .i64,.int .i64,.int .i64,.int .i64,.int .i64,.int .i64,.int .i64,.int .i64,.int .i64,.int .i64,.int .i64,.int .i64,.sl 4,.int .i64,.int .i64,.int .i64,.int .i64]
 |18=>[.str]
 |19=>[.bool]
 |20=>[.int .i64,.int .i64]
 |21=>[.int .i64,.int .i64,.int .i64]
 |_=>[.bool]
noncomputable instance ty:Ty where
 T:=tyT
 fl:=tyF
 prj:=λi=>match i with
  |0=>λx=>(x.Cpu,x.Mem,x.Gpu,x.Lic,())
  |1=>λx=>(x,())
  |2=>λx=>(x,())
  |3=>λx=>(x.Part,x.Users,x.MaxJobs,x.MaxRun,x.MaxUser,x.Qos,())
  |4=>λx=>(x.Job,x.Ok,())
  |5=>λx=>(x.Id,x.User,x.Queue,x.Many,x.Need.Cpu,x.Need.Mem,x.Need.Gpu,x.Need.Lic,x.Wall,x.After,x.State,x.Ok,x.Kill,x.Version,x.Born,x.Start,x.End,x.Array,())
  |6=>λx=>(x.Node,x.Many,())
  |7=>λx=>(x.Job,x.Need.Cpu,x.Need.Mem,x.Need.Gpu,x.Need.Lic,x.Shares,())
  |8=>λx=>(x.Id,x.Node,x.From,x.To,())
  |9=>λx=>(x.S.Nodes,x.S.Parts,x.S.Queues,x.S.Users,x.S.Weights.Age,x.S.Weights.Size,x.S.Weights.Qos,x.S.Weights.Share,x.S.Decay,x.S.Mode,x.S.Jobs,x.S.Ids,x.S.Versions,x.S.Linger,x.S.Keep,x.S.In,x.S.Out,x.S.Cache,x.St.Now,x.St.Next,x.St.Book,x.St.Jobs,x.St.Allocs,x.St.Books,x.St.Use,x.St.Stamps.Queues,x.St.Stamps.Nodes,())
  |10=>λx=>(x.User,x.Request.Kind,x.Request.Key,x.Request.Job,x.Request.Version,x.Request.Queue,x.Request.Many,x.Request.Need.Cpu,x.Request.Need.Mem,x.Request.Need.Gpu,x.Request.Need.Lic,x.Request.Wall,x.Request.Tasks,x.Request.After,x.Request.Node,x.Request.From,x.Request.To,x.Request.Id,())
  |11=>λx=>(x.Nodes,x.Parts,x.Queues,x.Users,x.Weights.Age,x.Weights.Size,x.Weights.Qos,x.Weights.Share,x.Decay,x.Mode,x.Jobs,x.Ids,x.Versions,x.Linger,x.Keep,x.In,x.Out,x.Cache,())
  |12=>λx=>(x.1,x.2.1,x.2.2.1,x.2.2.2,())
  |13=>λx=>(x.Age,x.Size,x.Qos,x.Share,())
  |14=>λx=>(x.f_places,x.f_jobs,())
  |15=>λx=>(x.Key,x.Err,x.Job,x.Version,x.Nums,())
  |16=>λx=>(x.Now,x.Next,x.Book,x.Jobs,x.Allocs,x.Books,x.Use,x.Stamps.Queues,x.Stamps.Nodes,())
  |17=>λx=>(x.Kind,x.Key,x.Job,x.Version,x.Queue,x.Many,x.Need.Cpu,x.Need.Mem,x.Need.Gpu,x.Need.Lic,x.Wall,x.Tasks,x.After,x.Node,x.From,x.To,x.Id,())
  |18=>λx=>(x,())
  |19=>λx=>(x,())
  |20=>λx=>(x.1,x.2,())
  |21=>λx=>(x.1,x.2.1,x.2.2,())
  |_+22=>λx=>(x,())
 mkt:=λi=>match i with
  |0=>λx=>({ Cpu:=x.1,Mem:=x.2.1,Gpu:=x.2.2.1,Lic:=x.2.2.2.1 }:zac)
  |1=>λx=>x.1
  |2=>λx=>x.1
  |3=>λx=>({ Part:=x.1,Users:=x.2.1,MaxJobs:=x.2.2.1,MaxRun:=x.2.2.2.1,MaxUser:=x.2.2.2.2.1,Qos:=x.2.2.2.2.2.1 }:zbE)
  |4=>λx=>({ Job:=x.1,Ok:=x.2.1 }:zbL)
  |5=>λx=>({ Id:=x.1,User:=x.2.1,Queue:=x.2.2.1,Many:=x.2.2.2.1,Need:=({ Cpu:=x.2.2.2.2.1,Mem:=x.2.2.2.2.2.1,Gpu:=x.2.2.2.2.2.2.1,Lic:=x.2.2.2.2.2.2.2.1 }:zac),Wall:=x.2.2.2.2.2.2.2.2.1,After:=x.2.2.2.2.2.2.2.2.2.1,State:=x.2.2.2.2.2.2.2.2.2.2.1,Ok:=x.2.2.2.2.2.2.2.2.2.2.2.1,Kill:=x.2.2.2.2.2.2.2.2.2.2.2.2.1,Version:=x.2.2.2.2.2.2.2.2.2.2.2.2.2.1,Born:=x.2.2.2.2.2.2.2.2.2.2.2.2.2.2.1,Start:=x.2.2.2.2.2.2.2.2.2.2.2.2.2.2.2.1,End:=x.2.2.2.2.2.2.2.2.2.2.2.2.2.2.2.2.1,Array:=x.2.2.2.2.2.2.2.2.2.2.2.2.2.2.2.2.2.1 }:zaa)
  |6=>λx=>({ Node:=x.1,Many:=x.2.1 }:zal)
  |7=>λx=>({ Job:=x.1,Need:=({ Cpu:=x.2.1,Mem:=x.2.2.1,Gpu:=x.2.2.2.1,Lic:=x.2.2.2.2.1 }:zac),Shares:=x.2.2.2.2.2.1 }:zae)
  |8=>λx=>({ Id:=x.1,Node:=x.2.1,From:=x.2.2.1,To:=x.2.2.2.1 }:zai)
  |9=>λx=>({ S:=({ Nodes:=x.1,Parts:=x.2.1,Queues:=x.2.2.1,Users:=x.2.2.2.1,Weights:=({ Age:=x.2.2.2.2.1,Size:=x.2.2.2.2.2.1,Qos:=x.2.2.2.2.2.2.1,Share:=x.2.2.2.2.2.2.2.1 }:zbW),Decay:=x.2.2.2.2.2.2.2.2.1,Mode:=x.2.2.2.2.2.2.2.2.2.1,Jobs:=x.2.2.2.2.2.2.2.2.2.2.1,Ids:=x.2.2.2.2.2.2.2.2.2.2.2.1,Versions:=x.2.2.2.2.2.2.2.2.2.2.2.2.1,Linger:=x.2.2.2.2.2.2.2.2.2.2.2.2.2.1,Keep:=x.2.2.2.2.2.2.2.2.2.2.2.2.2.2.1,In:=x.2.2.2.2.2.2.2.2.2.2.2.2.2.2.2.1,Out:=x.2.2.2.2.2.2.2.2.2.2.2.2.2.2.2.2.1,Cache:=x.2.2.2.2.2.2.2.2.2.2.2.2.2.2.2.2.2.1 }:zad),St:=({ Now:=x.2.2.2.2.2.2.2.2.2.2.2.2.2.2.2.2.2.2.1,Next:=x.2.2.2.2.2.2.2.2.2.2.2.2.2.2.2.2.2.2.2.1,Book:=x.2.2.2.2.2.2.2.2.2.2.2.2.2.2.2.2.2.2.2.2.1,Jobs:=x.2.2.2.2.2.2.2.2.2.2.2.2.2.2.2.2.2.2.2.2.2.1,Allocs:=x.2.2.2.2.2.2.2.2.2.2.2.2.2.2.2.2.2.2.2.2.2.2.1,Books:=x.2.2.2.2.2.2.2.2.2.2.2.2.2.2.2.2.2.2.2.2.2.2.2.1,Use:=x.2.2.2.2.2.2.2.2.2.2.2.2.2.2.2.2.2.2.2.2.2.2.2.2.1,Stamps:=({ Queues:=x.2.2.2.2.2.2.2.2.2.2.2.2.2.2.2.2.2.2.2.2.2.2.2.2.2.1,Nodes:=x.2.2.2.2.2.2.2.2.2.2.2.2.2.2.2.2.2.2.2.2.2.2.2.2.2.2.1 }:zba) }:zab) }:zds)
  |10=>λx=>({ User:=x.1,Request:=({ Kind:=x.2.1,Key:=x.2.2.1,Job:=x.2.2.2.1,Version:=x.2.2.2.2.1,Queue:=x.2.2.2.2.2.1,Many:=x.2.2.2.2.2.2.1,Need:=({ Cpu:=x.2.2.2.2.2.2.2.1,Mem:=x.2.2.2.2.2.2.2.2.1,Gpu:=x.2.2.2.2.2.2.2.2.2.1,Lic:=x.2.2.2.2.2.2.2.2.2.2.1 }:zac),Wall:=x.2.2.2.2.2.2.2.2.2.2.2.1,Tasks:=x.2.2.2.2.2.2.2.2.2.2.2.2.1,After:=x.2.2.2.2.2.2.2.2.2.2.2.2.2.1,Node:=x.2.2.2.2.2.2.2.2.2.2.2.2.2.2.1,From:=x.2.2.2.2.2.2.2.2.2.2.2.2.2.2.2.1,To:=x.2.2.2.2.2.2.2.2.2.2.2.2.2.2.2.2.1,Id:=x.2.2.2.2.2.2.2.2.2.2.2.2.2.2.2.2.2.1 }:zap) }:zan)
  |11=>λx=>({ Nodes:=x.1,Parts:=x.2.1,Queues:=x.2.2.1,Users:=x.2.2.2.1,Weights:=({ Age:=x.2.2.2.2.1,Size:=x.2.2.2.2.2.1,Qos:=x.2.2.2.2.2.2.1,Share:=x.2.2.2.2.2.2.2.1 }:zbW),Decay:=x.2.2.2.2.2.2.2.2.1,Mode:=x.2.2.2.2.2.2.2.2.2.1,Jobs:=x.2.2.2.2.2.2.2.2.2.2.1,Ids:=x.2.2.2.2.2.2.2.2.2.2.2.1,Versions:=x.2.2.2.2.2.2.2.2.2.2.2.2.1,Linger:=x.2.2.2.2.2.2.2.2.2.2.2.2.2.1,Keep:=x.2.2.2.2.2.2.2.2.2.2.2.2.2.2.1,In:=x.2.2.2.2.2.2.2.2.2.2.2.2.2.2.2.1,Out:=x.2.2.2.2.2.2.2.2.2.2.2.2.2.2.2.2.1,Cache:=x.2.2.2.2.2.2.2.2.2.2.2.2.2.2.2.2.2.1 }:zad)
  |12=>λx=>(x.1,x.2.1,x.2.2.1,x.2.2.2.1)
  |13=>λx=>({ Age:=x.1,Size:=x.2.1,Qos:=x.2.2.1,Share:=x.2.2.2.1 }:zbW)
  |14=>λx=>({ f_places:=x.1,f_jobs:=x.2.1 }:table_Table)
  |15=>λx=>({ Key:=x.1,Err:=x.2.1,Job:=x.2.2.1,Version:=x.2.2.2.1,Nums:=x.2.2.2.2.1 }:zah)
  |16=>λx=>({ Now:=x.1,Next:=x.2.1,Book:=x.2.2.1,Jobs:=x.2.2.2.1,Allocs:=x.2.2.2.2.1,Books:=x.2.2.2.2.2.1,Use:=x.2.2.2.2.2.2.1,Stamps:=({ Queues:=x.2.2.2.2.2.2.2.1,Nodes:=x.2.2.2.2.2.2.2.2.1 }:zba) }:zab)
  |17=>λx=>({ Kind:=x.1,Key:=x.2.1,Job:=x.2.2.1,Version:=x.2.2.2.1,Queue:=x.2.2.2.2.1,Many:=x.2.2.2.2.2.1,Need:=({ Cpu:=x.2.2.2.2.2.2.1,Mem:=x.2.2.2.2.2.2.2.1,Gpu:=x.2.2.2.2.2.2.2.2.1,Lic:=x.2.2.2.2.2.2.2.2.2.1 }:zac),Wall:=x.2.2.2.2.2.2.2.2.2.2.1,Tasks:=x.2.2.2.2.2.2.2.2.2.2.2.1,After:=x.2.2.2.2.2.2.2.2.2.2.2.2.1,Node:=x.2.2.2.2.2.2.2.2.2.2.2.2.2.1,From:=x.2.2.2.2.2.2.2.2.2.2.2.2.2.2.1,To:=x.2.2.2.2.2.2.2.2.2.2.2.2.2.2.2.1,Id:=x.2.2.2.2.2.2.2.2.2.2.2.2.2.2.2.2.1 }:zap)
  |18=>λx=>x.1
  |19=>λx=>x.1
  |20=>λx=>(x.1,x.2.1)
  |21=>λx=>(x.1,x.2.1,x.2.2.1)
  |_+22=>λx=>x.1
 mp:=λi=>match i with
  |0=>λ_=>rfl
  |1=>λ_=>rfl
  |2=>λ_=>rfl
  |3=>λ_=>rfl
  |4=>λ_=>rfl
  |5=>λ_=>rfl
  |6=>λ_=>rfl
  |7=>λ_=>rfl
  |8=>λ_=>rfl
  |9=>λ_=>rfl
  |10=>λ_=>rfl
  |11=>λ_=>rfl
  |12=>λ_=>rfl
  |13=>λ_=>rfl
  |14=>λ_=>rfl
  |15=>λ_=>rfl
  |16=>λ_=>rfl
  |17=>λ_=>rfl
  |18=>λ_=>rfl
  |19=>λ_=>rfl
  |20=>λ_=>rfl
  |21=>λ_=>rfl
  |_+22=>λ_=>rfl
 pm:=λi=>match i with
  |0=>λ_=>rfl
  |1=>λ_=>rfl
  |2=>λ_=>rfl
  |3=>λ_=>rfl
  |4=>λ_=>rfl
  |5=>λ_=>rfl
  |6=>λ_=>rfl
  |7=>λ_=>rfl
  |8=>λ_=>rfl
  |9=>λ_=>rfl
  |10=>λ_=>rfl
  |11=>λ_=>rfl
  |12=>λ_=>rfl
  |13=>λ_=>rfl
  |14=>λ_=>rfl
  |15=>λ_=>rfl
  |16=>λ_=>rfl
  |17=>λ_=>rfl
  |18=>λ_=>rfl
  |19=>λ_=>rfl
  |20=>λ_=>rfl
  |21=>λ_=>rfl
  |_+22=>λ_=>rfl
 dn:=λi j h=>match i with
  |0=>by simp[tyF] at h
  |1=>by simp[tyF] at h
  |2=>by simp[tyF] at h <;> omega
  |3=>by simp[tyF] at h <;> omega
  |4=>by simp[tyF] at h
  |5=>by simp[tyF] at h <;> omega
  |6=>by simp[tyF] at h
  |7=>by simp[tyF] at h <;> omega
  |8=>by simp[tyF] at h
  |9=>by simp[tyF] at h <;> omega
  |10=>by simp[tyF] at h <;> omega
  |11=>by simp[tyF] at h <;> omega
  |12=>by simp[tyF] at h
  |13=>by simp[tyF] at h
  |14=>by simp[tyF] at h <;> omega
  |15=>by simp[tyF] at h <;> omega
  |16=>by simp[tyF] at h <;> omega
  |17=>by simp[tyF] at h <;> omega
  |18=>by simp[tyF] at h
  |19=>by simp[tyF] at h
  |20=>by simp[tyF] at h
  |21=>by simp[tyF] at h
  |_+22=>by simp[tyF] at h
 ps:=λi=>match i with
  |0=>by simp[tyF]
  |1=>by simp[tyF]
  |2=>by simp[tyF]
  |3=>by simp[tyF]
  |4=>by simp[tyF]
  |5=>by simp[tyF]
  |6=>by simp[tyF]
  |7=>by simp[tyF]
  |8=>by simp[tyF]
  |9=>by simp[tyF]
  |10=>by simp[tyF]
  |11=>by simp[tyF]
  |12=>by simp[tyF]
  |13=>by simp[tyF]
  |14=>by simp[tyF]
  |15=>by simp[tyF]
  |16=>by simp[tyF]
  |17=>by simp[tyF]
  |18=>by simp[tyF]
  |19=>by simp[tyF]
  |20=>by simp[tyF]
  |21=>by simp[tyF]
  |_+22=>by simp[tyF]
end Go.Abs
