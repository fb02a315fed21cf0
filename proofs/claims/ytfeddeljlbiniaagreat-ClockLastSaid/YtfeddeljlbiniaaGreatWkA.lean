/- The code computes these functions. -/
import Derived.Test.YtfeddeljlbiniaaGreatTyPure
import Derived.Test.YtfeddeljlbiniaaGreatProg
import Derived.Test.YtfeddeljlbiniaaGreatTyPrim
import Derived.KernelRfl
set_option linter.all false
section
set_option maxRecDepth 100000
noncomputable section
namespace Go.Abs
open Go.Proofs
variable [Gl]
abbrev ci:VCd:=.c (.int .i64)
abbrev cb:VCd:=.c .bool
abbrev xi:CP:=.c (.int .i64)
abbrev xb:CP:=.c .bool
abbrev xl (n:Nat):CP:=.c (.sl n)
abbrev xn:CP:=.k (.c (.lit (.slice none 0 0)))
theorem mix:Tryz.prog.follows .mixedOrders=true:=by kernel_rfl
def KB:InlB:=inlKeys 148 215 1 (fun k=>k)
theorem KB_ok:InlB.ok Tryz.prog KB:=inlKeys_ok Tryz.sortsKeys (fun k=>rfl)
theorem tg {g:Nat} {S:TSs} {s:TSp} (H:List (Nat×Nat)) (J:List (Nat×JH)) (C:List (Nat×List CT)) (N:Nat) (hS:TSsOk Tryz.prog S) {O:OSs} (hO:OSsOk Tryz.prog O) (h:∀a,tG Tryz.prog g S O KB H J C s.ins s.out N a=s.f a):zbe Tryz.prog g s:=tG_ok mix hS hO KB_ok h
theorem og {g:Nat} {S:TSs} {O:OSs} {s:OSp} (N:Nat) (hS:TSsOk Tryz.prog S) (hO:OSsOk Tryz.prog O) (he:enterable Tryz.prog g=true) (h:∀x,oG Tryz.prog g S O KB N s x=s.f x):zaU Tryz.prog g s:=oG_ok mix hS hO KB_ok he h
end Go.Abs
end
end
section
set_option maxRecDepth 100000
noncomputable section
namespace Go.Abs
open Go.Proofs
variable [Gl]
def drayageref07xSmall_sp (N:Nat):TSp:=⟨[],[.st 10],fun a=>drayageref07xSmall N⟩
theorem drayageref07xSmall_ok (N:Nat):zbe Tryz.prog 41 (drayageref07xSmall_sp N):=clo_ok (P:=Tryz.prog) (g:=41) (out:=[.st 10]) (fun a=>drayageref07xSmall N) mix (by kernel_rfl)
def vec_numbers_sp (N:Nat):TSp:=⟨[.st 0],[.st 11],fun a=>vec_numbers N a.1⟩
theorem vec_numbers_ok (N:Nat):zbe Tryz.prog 192 (vec_numbers_sp N):=tg [] [] [] N (.nil) (.nil) (fun a=>by kernel_rfl)
def vec_Right_sp (N:Nat):TSp:=⟨[.st 0],[cb],fun a=>zbW N a.1⟩
theorem zb5 (N:Nat):zbe Tryz.prog 117 (vec_Right_sp N):=tg [] [(26,⟨[.r 7 ci],[],[],[]⟩)] [] N (.cons (vec_numbers_ok N)<|.nil) (.nil) (fun a=>by kernel_rfl)
def spec_nodesRight_sp (N:Nat):TSp:=⟨[.st 10],[cb],fun a=>spec_nodesRight N a.1⟩
theorem spec_nodesRight_ok (N:Nat):zbe Tryz.prog 263 (spec_nodesRight_sp N):=tg [] [(58,⟨[.r 18 ci],[],[],[]⟩)] [] N (.cons (zb5 N)<|.nil) (.nil) (fun a=>by kernel_rfl)
def spec_ascending_sp (N:Nat):TSp:=⟨[.c (.sl 1),ci],[cb],fun a=>zdC N a.1 a.2.1⟩
theorem spec_ascending_ok (N:Nat):zbe Tryz.prog 299 (spec_ascending_sp N):=tg [] [(58,⟨[.r 5 ci,.r 10 ci],[],[],[]⟩)] [] N (.nil) (.nil) (fun a=>by kernel_rfl)
def spec_partsRight_sp (N:Nat):TSp:=⟨[.st 10],[cb],fun a=>spec_partsRight N a.1⟩
theorem spec_partsRight_ok (N:Nat):zbe Tryz.prog 265 (spec_partsRight_sp N):=tg [] [(58,⟨[.r 18 ci],[],[],[]⟩),(3737,⟨[.r 32 cb],[],[],[]⟩)] [] N (.cons (spec_ascending_ok N)<|.nil) (.nil) (fun a=>by kernel_rfl)
def spec_queuesRight_sp (N:Nat):TSp:=⟨[.st 10],[cb],fun a=>zdT N a.1⟩
theorem spec_queuesRight_ok (N:Nat):zbe Tryz.prog 268 (spec_queuesRight_sp N):=tg [] [(58,⟨[.r 20 ci],[],[],[]⟩),(7474,⟨[.r 42 cb],[],[],[]⟩),(59802,⟨[.r 50 ci],[],[],[]⟩)] [] N (.cons (spec_ascending_ok N)<|.nil) (.nil) (fun a=>by kernel_rfl)
def spec_weightsRight_sp (N:Nat):TSp:=⟨[.st 12],[cb],fun a=>zdt N a.1⟩
theorem spec_weightsRight_ok (N:Nat):zbe Tryz.prog 270 (spec_weightsRight_sp N):=tg [] [(26,⟨[.r 14 ci],[],[],[]⟩)] [] N (.nil) (.nil) (fun a=>by kernel_rfl)
def spec_Flaw_sp (N:Nat):TSp:=⟨[.st 10],[.c .str],fun a=>spec_Flaw N a.1⟩
theorem spec_Flaw_ok (N:Nat):zbe Tryz.prog 167 (spec_Flaw_sp N):=tg [] [(26,⟨[],[],[(1000003,40)],[]⟩)] [(786438,[.mk [] [] [] [(1000002,0),(43,1000001)] [] [(393225,[.mk [] [] [] [(1000002,0)] [] []]),(393232,[.mk [] [] [] [(1000002,0)] [] []]),(393237,[.mk [] [] [] [(1000002,0)] [] []]),(393240,[.mk [] [] [] [(1000002,0)] [] []]),(393243,[.mk [] [] [] [(1000002,0)] [] []]),(393246,[.mk [] [] [] [(1000002,0)] [] []]),(393249,[.mk [] [] [] [(1000002,0)] [] []]),(393252,[.mk [] [] [] [(1000002,0)] [] []]),(393255,[.mk [] [] [] [(1000002,0)] [] []]),(393258,[.mk [] [] [] [(1000002,0)] [] []])]]),(221380622,[.mk [.v cb] [] [] [] [] []])] N (.cons (spec_nodesRight_ok N)<|.cons (spec_partsRight_ok N)<|.cons (spec_queuesRight_ok N)<|.cons (spec_weightsRight_ok N)<|.nil) (.nil) (fun a=>by kernel_rfl)
def spec_Right_sp (N:Nat):TSp:=⟨[.st 10],[cb],fun a=>zdu N a.1⟩
theorem spec_Right_ok (N:Nat):zbe Tryz.prog 100 (spec_Right_sp N):=tg [] [] [] N (.cons (spec_Flaw_ok N)<|.nil) (.nil) (fun a=>by kernel_rfl)
def table_New_of79d_sp (N:Nat):OSp:=⟨.mk [.v ci] [] [] [] [] [],[.mk [.p (.k (.c (.lit (.pointer none)))),.p (.k (.c (.lit (.int .i64 2))))] [] [] [] [] [],.mk [.p (.pt 0 0 2),.p (.k (.c (.lit (.int .i64 0))))] [] [.cells [xi,xn]] [] [] []],fun a0=>table_New_of79d N a0⟩
theorem table_New_of79d_ok (N:Nat):zaU Tryz.prog 101 (table_New_of79d_sp N):=og (g:=101) N (.nil) (.nil) (by kernel_rfl) (fun x=>by kernel_rfl)
def slices_Clone_Lapi_Res_api_Res_sp (N:Nat):TSp:=⟨[.c (.sl 0)],[.c (.sl 0)],fun a=>zaN N a.1⟩
theorem zch (N:Nat):zbe Tryz.prog 168 (slices_Clone_Lapi_Res_api_Res_sp N):=clone_ok (i:=0) (sz:=32) (z:=[.c (.lit (.int .i64 0)),.c (.lit (.int .i64 0)),.c (.lit (.int .i64 0)),.c (.lit (.int .i64 0))]) (fn:=Tryz.f168) mix (by kernel_rfl) (by kernel_rfl) (by kernel_rfl) rfl
def ledger_New_oe6df_sp (N:Nat):OSp:=⟨.mk [.v (.st 10)] [] [] [] [] [],[.mk [.p (.k (.c (.lit (.pointer none)))),.p (.k (.c (.lit (.int .i64 2))))] [] [] [(10,15)] [] [],.mk [.p (.pt 0 0 2),.p (.k (.c (.lit (.int .i64 0))))] [] [.cells [xl 0,.mr 1],.mp 7 true] [] [] []],fun a0=>zcD N a0⟩
theorem ledger_New_oe6df_ok (N:Nat):zaU Tryz.prog 102 (ledger_New_oe6df_sp N):=og (g:=102) N (.cons (spec_Right_ok N)<|.cons (zch N)<|.nil) (.nil) (by kernel_rfl) (fun x=>by kernel_rfl)
def slices_Clone_LLint_Lint_own_sp (N:Nat):OSp:=⟨.mk [.v (.c (.sl 2))] [] [] [] [] [],[.mk [.p (.hd 0)] [] [.row 2] [] [] []],fun x=>zbU N x⟩
theorem slices_Clone_LLint_Lint_own_ok (N:Nat):zaU Tryz.prog 169 (slices_Clone_LLint_Lint_own_sp N):=clone_own (i:=2) (sz:=24) (z:=[.c (.lit (.slice none 0 0))]) (fn:=Tryz.f169) mix (by kernel_rfl) (by kernel_rfl) (by kernel_rfl) rfl
def slices_Clone_Lint_int_sp (N:Nat):TSp:=⟨[.c (.sl 1)],[.c (.sl 1)],fun a=>zaC N a.1⟩
theorem za9 (N:Nat):zbe Tryz.prog 73 (slices_Clone_Lint_int_sp N):=clone_ok (i:=1) (sz:=8) (z:=[.c (.lit (.int .i64 0))]) (fn:=Tryz.f73) mix (by kernel_rfl) (by kernel_rfl) (by kernel_rfl) rfl
def zc1 (N:Nat):OSp:=⟨.mk [.v (.c (.sl 3))] [] [] [] [] [],[.mk [.p (.hd 0)] [] [.row 3] [] [] []],fun x=>zaZ N x⟩
theorem zc2 (N:Nat):zaU Tryz.prog 170 (zc1 N):=clone_own (i:=3) (sz:=64) (z:=[.c (.lit (.int .i64 0)),.c (.lit (.slice none 0 0)),.c (.lit (.int .i64 0)),.c (.lit (.int .i64 0)),.c (.lit (.int .i64 0)),.c (.lit (.int .i64 0))]) (fn:=Tryz.f170) mix (by kernel_rfl) (by kernel_rfl) (by kernel_rfl) rfl
def store_copySpec_sp (N:Nat):TSp:=⟨[.st 10],[.st 10],fun a=>zcH N a.1⟩
theorem store_copySpec_ok (N:Nat):zbe Tryz.prog 103 (store_copySpec_sp N):=tg [] [(122,⟨[.r 16 ci,.w 2 2],[],[],[(0,1,2)]⟩),(506,⟨[.r 37 ci,.w 3 3],[],[],[(0,2,3)]⟩)] [(917515,[.mk [.p (.hd 2)] [] [.row 2] [(1000000,0)] [] []]),(4063264,[.mk [.p (.hd 3)] [] [.row 3] [(1000000,1)] [] []])] N (.cons (zch N)<|.cons (za9 N)<|.nil) (.cons (slices_Clone_LLint_Lint_own_ok N)<|.cons (zc2 N)<|.nil) (fun a=>by kernel_rfl)
def nat_Hold_int_sp (N:Nat):TSp:=⟨[ci,ci,ci],[ci],fun a=>zbr N a.1 a.2.1 a.2.2.1⟩
theorem nat_Hold_int_ok (N:Nat):zbe Tryz.prog 171 (nat_Hold_int_sp N):=tg [] [] [] N (.nil) (.nil) (fun a=>by kernel_rfl)
def share_New_sp (N:Nat):TSp:=⟨[ci],[.c (.sl 1)],fun a=>share_New N a.1⟩
theorem share_New_ok (N:Nat):zbe Tryz.prog 104 (share_New_sp N):=tg [(5,1)] [] [] N (.cons (nat_Hold_int_ok N)<|.nil) (.nil) (fun a=>by kernel_rfl)
def store_New_o49f9xsp (N:Nat):OSp:=⟨.mk [.v (.st 10)] [] [] [] [] [],[.mk [.p (.k (.c (.lit (.pointer none)))),.p (.k (.c (.lit (.int .i64 2))))] [] [] [(37,1)] [] [(917517,[.mk [.p (.k (.c (.lit (.pointer none)))),.p (.k (.c (.lit (.int .i64 2))))] [] [] [(1000000,0)] [] [],.mk [.p (.pt 1 0 2),.p (.k (.c (.lit (.int .i64 0))))] [] [.cells [xi,xn]] [] [] []]),(4063253,[.mk [.p (.k (.c (.lit (.pointer none)))),.p (.k (.c (.lit (.int .i64 2))))] [] [] [(1000000,1)] [] [],.mk [.p (.pt 2 0 2),.p (.k (.c (.lit (.int .i64 0))))] [] [.cells [xl 0,.mr 3],.mp 7 true] [] [] []])],.mk [.p (.pt 0 0 27),.p (.k (.c (.lit (.int .i64 0))))] [] [.cells [.pt 1 0 2,.pt 2 0 2,xl 0,xl 2,xl 3,xi,xi,xi,xi,xi,xi,xi,xi,xi,xi,xi,xi,xi,xi,xi,xi,xi,xi,xn,xl 1,.hd 3,xi],.cells [xi,xn],.cells [xl 0,.mr 4],.row 1,.mp 7 true] [] [] []],fun a0=>zdg N a0⟩
theorem store_New_o49f9xok (N:Nat):zaU Tryz.prog 40 (store_New_o49f9xsp N):=og (g:=40) N (.cons (spec_Right_ok N)<|.cons (store_copySpec_ok N)<|.cons (share_New_ok N)<|.nil) (.cons (table_New_of79d_ok N)<|.cons (ledger_New_oe6df_ok N)<|.nil) (by kernel_rfl) (fun x=>by kernel_rfl)
def store_Store_Put_oe980xsp (N:Nat):OSp:=⟨.mk [.p (.k (.c (.lit (.pointer none)))),.v (.st 5)] [] [] [] [] [],[.mk [.v ci] [] [] [] [] []],fun x=>store_Store_Put_oe980 N⟩
theorem store_Store_Put_oe980xok (N:Nat):zaU Tryz.prog 12 (store_Store_Put_oe980xsp N):=og (g:=12) N (.nil) (.nil) (by kernel_rfl) (fun x=>by kernel_rfl)
def store_Store_Start_odcef_sp (N:Nat):OSp:=⟨.mk [.p (.k (.c (.lit (.pointer none)))),.v ci,.p (.hd 0)] [] [.row 6] [] [] [],[.mk [.v ci] [] [] [] [] []],fun x=>store_Store_Start_odcef N⟩
theorem store_Store_Start_odcef_ok (N:Nat):zaU Tryz.prog 14 (store_Store_Start_odcef_sp N):=og (g:=14) N (.nil) (.nil) (by kernel_rfl) (fun x=>by kernel_rfl)
def clock_Tick_oce53xsp (N:Nat):OSp:=⟨.mk [.p (.k (.c (.lit (.pointer none))))] [] [] [] [] [],[.mk [.v ci] [] [] [] [] []],fun x=>clock_Tick_oce53 N⟩
theorem clock_Tick_oce53xok (N:Nat):zaU Tryz.prog 29 (clock_Tick_oce53xsp N):=og (g:=29) N (.nil) (.nil) (by kernel_rfl) (fun x=>by kernel_rfl)
def store_Store_Job_o6ae8xsp (N:Nat):OSp:=⟨.mk [.p (.k (.c (.lit (.pointer none)))),.v ci] [] [] [] [] [],[.mk [.v (.st 5),.v cb] [] [] [] [] []],fun x=>zdh N⟩
theorem store_Store_Job_o6ae8xok (N:Nat):zaU Tryz.prog 52 (store_Store_Job_o6ae8xsp N):=og (g:=52) N (.nil) (.nil) (by kernel_rfl) (fun x=>by kernel_rfl)
def job_within_sp (N:Nat):TSp:=⟨[ci,ci,ci],[cb],fun a=>zbq N a.1 a.2.1 a.2.2.1⟩
theorem job_within_ok (N:Nat):zbe Tryz.prog 116 (job_within_sp N):=tg [] [] [] N (.nil) (.nil) (fun a=>by kernel_rfl)
def job_afterRight_sp (N:Nat):TSp:=⟨[.st 5],[cb],fun a=>job_afterRight N a.1⟩
theorem job_afterRight_ok (N:Nat):zbe Tryz.prog 118 (job_afterRight_sp N):=tg [] [(58,⟨[.r 12 ci],[],[],[]⟩)] [] N (.cons (job_within_ok N)<|.nil) (.nil) (fun a=>by kernel_rfl)
def life_Name_sp (N:Nat):TSp:=⟨[ci],[.c .str],fun a=>life_Name N a.1⟩
theorem life_Name_ok (N:Nat):zbe Tryz.prog 193 (life_Name_sp N):=tg [] [] [] N (.nil) (.nil) (fun a=>by kernel_rfl)
def life_Waits_sp (N:Nat):TSp:=⟨[ci],[cb],fun a=>life_Waits N a.1⟩
theorem life_Waits_ok (N:Nat):zbe Tryz.prog 152 (life_Waits_sp N):=tg [] [] [] N (.nil) (.nil) (fun a=>by kernel_rfl)
def life_Over_sp (N:Nat):TSp:=⟨[ci],[cb],fun a=>zbY N a.1⟩
theorem zb7 (N:Nat):zbe Tryz.prog 64 (life_Over_sp N):=tg [] [] [] N (.nil) (.nil) (fun a=>by kernel_rfl)
def job_stateRight_sp (N:Nat):TSp:=⟨[.st 5],[cb],fun a=>job_stateRight N a.1⟩
theorem job_stateRight_ok (N:Nat):zbe Tryz.prog 119 (job_stateRight_sp N):=tg [] [(51,⟨[.r 8 cb],[],[],[]⟩),(207,⟨[.r 17 cb],[],[],[]⟩)] [] N (.cons (life_Name_ok N)<|.cons (zb7 N)<|.cons (life_Waits_ok N)<|.nil) (.nil) (fun a=>by kernel_rfl)
def job_Right_sp (N:Nat):TSp:=⟨[.st 5],[cb],fun a=>zc6 N a.1⟩
theorem zdd (N:Nat):zbe Tryz.prog 53 (job_Right_sp N):=tg [] [] [] N (.cons (job_within_ok N)<|.cons (zb5 N)<|.cons (job_afterRight_ok N)<|.cons (job_stateRight_ok N)<|.nil) (.nil) (fun a=>by kernel_rfl)
def slices_Clone_Lapi_Dep_api_Dep_sp (N:Nat):TSp:=⟨[.c (.sl 4)],[.c (.sl 4)],fun a=>zaO N a.1⟩
theorem zci (N:Nat):zbe Tryz.prog 124 (slices_Clone_Lapi_Dep_api_Dep_sp N):=clone_ok (i:=4) (sz:=16) (z:=[.c (.lit (.int .i64 0)),.c (.lit (.bool false))]) (fn:=Tryz.f124) mix (by kernel_rfl) (by kernel_rfl) (by kernel_rfl) rfl
def table_own_sp (N:Nat):TSp:=⟨[.st 5],[.st 5],fun a=>table_own N a.1⟩
theorem zd3 (N:Nat):zbe Tryz.prog 122 (table_own_sp N):=tg [] [] [] N (.cons (zci N)<|.nil) (.nil) (fun a=>by kernel_rfl)
def table_Table_find_ocb09xsp (N:Nat):OSp:=⟨.mk [.p (.pt 0 0 2),.v ci] [] [.cells [xi,xn]] [] [] [],[.mk [.v ci,.v cb] [.h 0 1 (.hd 1)] [.row 5] [] [] [(393229,[.mk [.v ci] [.h 0 1 (.hd 3)] [.row 5] [] [(28,⟨[.r 5 ci,.r 6 ci],[],[(1048577,5)],[]⟩)] [(59375636,[.mk [.v cb] [] [] [] [] []])]])]],fun (a0,_)=>zcK N a0⟩
theorem zdM (N:Nat):zaU Tryz.prog 120 (table_Table_find_ocb09xsp N):=og (g:=120) N (.nil) (.nil) (by kernel_rfl) (fun x=>by kernel_rfl)
def zc4 (N:Nat):OSp:=⟨.mk [.p (.hd 0),.v ci,.p (.hd 1)] [] [.row 5,.row 5] [] [] [],[.mk [.p (.hd 0)] [.w 0 5] [] [] [] []],fun (a0,a1,a2)=>zaK N a0 a1 a2⟩
theorem zbD (N:Nat):zaU Tryz.prog 121 (zc4 N):=og (g:=121) N (.nil) (.nil) (by kernel_rfl) (fun x=>by kernel_rfl)
def table_Table_Put_o39f5xsp (N:Nat):OSp:=⟨.mk [.p (.pt 0 0 2),.v (.st 5)] [] [.cells [xi,xn]] [] [] [],[.mk [.p (.k (.c (.lit (.int .i64 2))))] [.h 0 1 (xn)] [] [(38,5)] [] [(1966096,[.mk [.v ci,.v cb] [.h 0 1 (.hd 2)] [.row 5] [(1000000,0)] [] []]),(16646183,[.mk [.p (.hd 2)] [.w 2 5] [] [(1000000,1)] [] []])],.mk [.v ci] [.h 0 1 (.hd 1)] [.row 5] [] [] []],fun (a0,a1)=>table_Table_Put_o39f5 N a0 a1⟩
theorem table_Table_Put_o39f5xok (N:Nat):zaU Tryz.prog 54 (table_Table_Put_o39f5xsp N):=og (g:=54) N (.cons (zdd N)<|.cons (zd3 N)<|.nil) (.cons (zdM N)<|.cons (zbD N)<|.nil) (by kernel_rfl) (fun x=>by kernel_rfl)
def store_after_sp (N:Nat):TSp:=⟨[ci],[ci],fun a=>zdX N a.1⟩
theorem zdK (N:Nat):zbe Tryz.prog 61 (store_after_sp N):=tg [] [] [] N (.nil) (.nil) (fun a=>by kernel_rfl)
def store_Store_stamp_od610xsp (N:Nat):OSp:=⟨.mk [.p (.pt 0 0 27),.v ci] [] [.cells [.pt 1 0 2,.pt 2 0 2,xl 0,xl 2,xl 3,xi,xi,xi,xi,xi,xi,xi,xi,xi,xi,xi,xi,xi,xi,xi,xi,xi,xi,xn,xl 1,.hd 3,xi],.cells [xi,.hd 4],.cells [xl 0,.mr 5],.row 1,.row 5,.mp 7 true] [] [] [],[.mk [] [.w 3 1,.h 0 25 (.hd 3)] [] [] [] []],fun (a0,_,_,a3,_,_,_,_,_,_,_,_,_,_,_,_,_,_,_,_,_,_,_,_,_,_,_,_,_)=>zaM N a0 a3⟩
theorem zdA (N:Nat):zaU Tryz.prog 55 (store_Store_stamp_od610xsp N):=og (g:=55) N (.cons (zdK N)<|.nil) (.nil) (by kernel_rfl) (fun x=>by kernel_rfl)
def store_Store_Put_o925b_sp (N:Nat):OSp:=⟨.mk [.p (.pt 0 0 27),.v (.st 5)] [] [.cells [.pt 1 0 2,.pt 2 0 2,xl 0,xl 2,xl 3,xi,xi,xi,xi,xi,xi,xi,xi,xi,xi,xi,xi,xi,xi,xi,xi,xi,xi,xn,xl 1,.hd 3,xi],.cells [xi,xn],.cells [xl 0,.mr 4],.row 1,.mp 7 true] [] [] [],[.mk [.v ci] [.h 1 1 (xn),.h 0 21 (xi),.h 0 25 (.hd 3),.w 3 1] [] [] [] [(8126509,[.mk [.p (.k (.c (.lit (.int .i64 2))))] [.h 1 1 (xn)] [] [(1000000,0)] [] [],.mk [.v ci] [.h 1 1 (.hd 6)] [.row 5] [] [] []]),(16646203,[.mk [] [.w 3 1,.h 0 25 (.hd 3)] [] [(1000000,1)] [] []])],.mk [.v ci] [.h 1 1 (.hd 5),.h 0 21 (xi),.h 0 25 (.hd 3),.w 3 1] [.row 5] [] [] []],fun (a0,_,a2,_,_,_,_,_,_,_,_,_,_,_,a14,_,_,_,_,_,_,_,a22,_,_,_,a26,_)=>store_Store_Put_o925b N a0 a2 a14 a22 a26⟩
theorem store_Store_Put_o925b_ok (N:Nat):zaU Tryz.prog 12 (store_Store_Put_o925b_sp N):=og (g:=12) N (.cons (zdd N)<|.nil) (.cons (table_Table_Put_o39f5xok N)<|.cons (zdA N)<|.nil) (by kernel_rfl) (fun x=>by kernel_rfl)
def table_Table_Get_o9a4c_sp (N:Nat):OSp:=⟨.mk [.p (.pt 0 0 2),.v ci] [] [.cells [xi,xn]] [] [] [],[.mk [.v (.st 5),.v cb] [.h 0 1 (.hd 1)] [.row 5] [] [] [(917518,[.mk [.v ci,.v cb] [.h 0 1 (.hd 2)] [.row 5] [(1000000,0)] [] []])]],fun (a0,_)=>table_Table_Get_o9a4c N a0⟩
theorem table_Table_Get_o9a4c_ok (N:Nat):zaU Tryz.prog 56 (table_Table_Get_o9a4c_sp N):=og (g:=56) N (.cons (zd3 N)<|.nil) (.cons (zdM N)<|.nil) (by kernel_rfl) (fun x=>by kernel_rfl)
def place_Right_sp (N:Nat):TSp:=⟨[.c (.sl 6),ci],[cb],fun a=>place_Right N a.1 a.2.1⟩
theorem place_Right_ok (N:Nat):zbe Tryz.prog 128 (place_Right_sp N):=tg [] [(58,⟨[.r 5 ci,.r 10 ci],[],[],[]⟩)] [] N (.nil) (.nil) (fun a=>by kernel_rfl)
def place_Total_sp (N:Nat):TSp:=⟨[.c (.sl 6)],[ci],fun a=>place_Total N a.1⟩
theorem place_Total_ok (N:Nat):zbe Tryz.prog 129 (place_Total_sp N):=tg [] [(58,⟨[.r 3 ci,.r 8 ci],[],[],[]⟩)] [] N (.cons (nat_Hold_int_ok N)<|.nil) (.nil) (fun a=>by kernel_rfl)
def slices_Index_Lint_int_sp (N:Nat):TSp:=⟨[.c (.sl 1),ci],[ci],fun a=>zc7 N a.1 a.2.1⟩
theorem slices_Index_Lint_int_ok (N:Nat):zbe Tryz.prog 201 (slices_Index_Lint_int_sp N):=tg [] [(26,⟨[.r 8 ci],[],[],[]⟩)] [] N (.nil) (.nil) (fun a=>by kernel_rfl)
def slices_Contains_Lint_int_sp (N:Nat):TSp:=⟨[.c (.sl 1),ci],[cb],fun a=>zbG N a.1 a.2.1⟩
theorem slices_Contains_Lint_int_ok (N:Nat):zbe Tryz.prog 130 (slices_Contains_Lint_int_sp N):=tg [] [] [] N (.cons (slices_Index_Lint_int_ok N)<|.nil) (.nil) (fun a=>by kernel_rfl)
def store_suits_sp (N:Nat):TSp:=⟨[.st 10,.st 5,.c (.sl 6)],[cb],fun a=>store_suits N a.1 a.2.1 a.2.2.1⟩
theorem store_suits_ok (N:Nat):zbe Tryz.prog 62 (store_suits_sp N):=tg [] [(6,⟨[.r 22 cb],[],[],[]⟩),(250,⟨[.r 47 ci],[],[],[]⟩)] [] N (.cons (slices_Contains_Lint_int_ok N)<|.cons (place_Right_ok N)<|.cons (place_Total_ok N)<|.nil) (.nil) (fun a=>by kernel_rfl)
def life_Has_sp (N:Nat):TSp:=⟨[ci],[cb],fun a=>life_Has N a.1⟩
theorem life_Has_ok (N:Nat):zbe Tryz.prog 59 (life_Has_sp N):=tg [] [] [] N (.nil) (.nil) (fun a=>by kernel_rfl)
def life_Next_sp (N:Nat):TSp:=⟨[ci,ci],[ci,cb],fun a=>life_Next N a.1 a.2.1⟩
theorem life_Next_ok (N:Nat):zbe Tryz.prog 123 (life_Next_sp N):=tg [] [(53247,⟨[.r 48 cb],[],[],[]⟩),(212991,⟨[.r 55 cb],[],[],[]⟩)] [] N (.cons (life_Has_ok N)<|.cons (life_Waits_ok N)<|.nil) (.nil) (fun a=>by kernel_rfl)
def job_Step_sp (N:Nat):TSp:=⟨[.st 5,ci,ci,cb],[.st 5,ci],fun a=>job_Step N a.1 a.2.1 a.2.2.1 a.2.2.2.1⟩
theorem job_Step_ok (N:Nat):zbe Tryz.prog 57 (job_Step_sp N):=tg [] [(6,⟨[.r 20 cb],[],[],[]⟩),(1023,⟨[.h 0 11 (.bool),.h 0 12 (.bool),.h 0 15 (.int .i64)],[],[],[]⟩),(2047,⟨[.h 0 16 (.int .i64)],[],[],[]⟩),(8186,⟨[.h 0 12 (.bool)],[],[],[]⟩)] [] N (.cons (life_Next_ok N)<|.cons (zci N)<|.cons (zb7 N)<|.cons (zdd N)<|.cons (job_within_ok N)<|.nil) (.nil) (fun a=>by kernel_rfl)
def zdL (N:Nat):OSp:=⟨.mk [.v (.c (.sl 0))] [] [] [] [] [],[.mk [.p (.hd 0)] [] [.row 0] [] [] []],fun x=>zat N x⟩
theorem za4 (N:Nat):zaU Tryz.prog 168 (zdL N):=clone_own (i:=0) (sz:=32) (z:=[.c (.lit (.int .i64 0)),.c (.lit (.int .i64 0)),.c (.lit (.int .i64 0)),.c (.lit (.int .i64 0))]) (fn:=Tryz.f168) mix (by kernel_rfl) (by kernel_rfl) (by kernel_rfl) rfl
def vec_split_o09e8xsp (N:Nat):OSp:=⟨.mk [.v (.st 0)] [] [] [] [] [],[.mk [.ag [.cx,.cx]] [] [] [] [] []],fun a0=>zbj N a0⟩
theorem vec_split_o09e8xok (N:Nat):zaU Tryz.prog 199 (vec_split_o09e8xsp N):=og (g:=199) N (.nil) (.nil) (by kernel_rfl) (fun x=>by kernel_rfl)
def vec_join_o7a26xsp (N:Nat):OSp:=⟨.mk [.ag [.cx,.cx]] [] [] [] [] [],[.mk [.v (.st 0)] [] [] [] [] []],fun (a0,a1)=>vec_join_o7a26 N a0 a1⟩
theorem vec_join_o7a26xok (N:Nat):zaU Tryz.prog 245 (vec_join_o7a26xsp N):=og (g:=245) N (.nil) (.nil) (by kernel_rfl) (fun x=>by kernel_rfl)
def vec_within_ocd27xsp (N:Nat):OSp:=⟨.mk [.ag [.cx,.cx]] [] [] [] [] [],[.mk [.v (.st 0),.v ci] [] [] [] [] [(393222,[.mk [.v (.st 0)] [] [] [(1000000,0)] [] []])]],fun (a0,a1)=>zb3 N a0 a1⟩
theorem zd1 (N:Nat):zaU Tryz.prog 200 (vec_within_ocd27xsp N):=og (g:=200) N (.cons (zb5 N)<|.nil) (.cons (vec_join_o7a26xok N)<|.nil) (by kernel_rfl) (fun x=>by kernel_rfl)
def vec_Times_sp (N:Nat):TSp:=⟨[.st 0,ci],[.st 0,ci],fun a=>vec_Times N a.1 a.2.1⟩
theorem vec_Times_ok (N:Nat):zbe Tryz.prog 198 (vec_Times_sp N):=tg [] [] [(4063256,[.mk [.ag [.cx,.cx]] [] [] [(1000000,0)] [] []]),(8257573,[.mk [.v (.st 0),.v ci] [] [] [(1000000,1)] [] []])] N (.cons (zb5 N)<|.nil) (.cons (vec_split_o09e8xok N)<|.cons (zd1 N)<|.nil) (fun a=>by kernel_rfl)
def vec_Sub_sp (N:Nat):TSp:=⟨[.st 0,.st 0],[.st 0,ci],fun a=>vec_Sub N a.1 a.2.1⟩
theorem vec_Sub_ok (N:Nat):zbe Tryz.prog 131 (vec_Sub_sp N):=tg [] [(6,⟨[.r 15 cb],[],[],[]⟩)] [(917522,[.mk [.ag [.cx,.cx]] [] [] [(1000000,0)] [] []]),(917524,[.mk [.ag [.cx,.cx]] [] [] [(1000000,0)] [] []]),(1966112,[.mk [.v (.st 0),.v ci] [] [] [(1000000,1)] [] []])] N (.cons (zb5 N)<|.nil) (.cons (vec_split_o09e8xok N)<|.cons (zd1 N)<|.nil) (fun a=>by kernel_rfl)
def ledger_Ledger_change_o4f7b_sp (N:Nat):OSp:=⟨.mk [.p (.pt 0 0 2),.ag [xi,xi,xi,xi,xi,.hd 1],.p (.k (.c (.fn (.func 131) [] [])))] [] [.cells [xl 0,.mr 2],.row 6,.mp 7 true] [] [] [],[.mk [.v (.c (.sl 0)),.v ci] [] [] [] [(58,⟨[.r 21 ci,.w 4 0],[(8,4)],[],[]⟩)] [(393233,[.mk [.p (.hd 4)] [] [.row 0] [(1000000,0)] [] []])]],fun (a0,_,_,a3,a4,a5,a6,a7)=>zdw N a0 a3 a4 a5 a6 a7⟩
theorem ledger_Ledger_change_o4f7b_ok (N:Nat):zaU Tryz.prog 126 (ledger_Ledger_change_o4f7b_sp N):=og (g:=126) N (.cons (vec_Times_ok N)<|.cons (vec_Sub_ok N)<|.nil) (.cons (za4 N)<|.nil) (by kernel_rfl) (fun x=>by kernel_rfl)
def zdH (N:Nat):TSp:=⟨[.c (.sl 6)],[.c (.sl 6)],fun a=>zbk N a.1⟩
theorem zdF (N:Nat):zbe Tryz.prog 202 (zdH N):=clone_ok (i:=6) (sz:=16) (z:=[.c (.lit (.int .i64 0)),.c (.lit (.int .i64 0))]) (fn:=Tryz.f202) mix (by kernel_rfl) (by kernel_rfl) (by kernel_rfl) rfl
def ledger_own_sp (N:Nat):TSp:=⟨[.st 7],[.st 7],fun a=>zd4 N a.1⟩
theorem ledger_own_ok (N:Nat):zbe Tryz.prog 132 (ledger_own_sp N):=tg [] [] [] N (.cons (zdF N)<|.nil) (.nil) (fun a=>by kernel_rfl)
def zda (N:Nat):OSp:=⟨.mk [.p (.hd 0)] [] [.row 6] [] [] [],[.mk [.p (.hd 1)] [] [.row 6] [] [] []],fun x=>zbR N x⟩
theorem zdc (N:Nat):zaU Tryz.prog 202 (zda N):=clone_oo (ii:=6) (sz:=16) (z:=[.c (.lit (.int .i64 0)),.c (.lit (.int .i64 0))]) (fn:=Tryz.f202) mix (by kernel_rfl) (by kernel_rfl) (by kernel_rfl) rfl
end Go.Abs
end
end
section
set_option maxRecDepth 100000
noncomputable section
namespace Go.Abs
open Go.Proofs
variable [Gl]
def ledger_own_oae3c_sp (N:Nat):OSp:=⟨.mk [.ag [xi,xi,xi,xi,xi,.hd 0]] [] [.row 6] [] [] [],[.mk [.v (.st 7)] [] [] [] [] [(393221,[.mk [.p (.hd 3)] [] [.row 6] [(1000000,0)] [] []])]],fun (a0,a1,a2,a3,a4,a5)=>ledger_own_oae3c N a0 a1 a2 a3 a4 a5⟩
theorem ledger_own_oae3c_ok (N:Nat):zaU Tryz.prog 132 (ledger_own_oae3c_sp N):=og (g:=132) N (.nil) (.cons (zdc N)<|.nil) (by kernel_rfl) (fun x=>by kernel_rfl)
def ledger_Ledger_Take_oe295xsp (N:Nat):OSp:=⟨.mk [.p (.pt 0 0 2),.ag [xi,xi,xi,xi,xi,.hd 1]] [] [.cells [xl 0,.mr 2],.row 6,.mp 7 true] [] [] [],[.mk [.v ci] [.h 0 0 (xl 0),.m 2 7 true] [] [] [(14,⟨[.r 41 cb],[],[],[]⟩)] [(4063288,[.mk [.v (.c (.sl 0)),.v ci] [] [] [(1000000,0)] [] []]),(33423433,[.mk [.v (.st 7)] [] [] [(1000000,1)] [] []])]],fun (a0,a1,a2,a3,a4,a5,a6,a7)=>zck N a0 a1 a2 a3 a4 a5 a6 a7⟩
theorem zdj (N:Nat):zaU Tryz.prog 63 (ledger_Ledger_Take_oe295xsp N):=og (g:=63) N (.cons (place_Right_ok N)<|.cons (zb5 N)<|.nil) (.cons (ledger_Ledger_change_o4f7b_ok N)<|.cons (ledger_own_oae3c_ok N)<|.nil) (by kernel_rfl) (fun x=>by kernel_rfl)
def table_Table_find_o1e00xsp (N:Nat):OSp:=⟨.mk [.p (.pt 0 0 2),.v ci] [] [.cells [xi,.hd 1],.row 5] [] [] [],[.mk [.v ci,.v cb] [] [] [] [] [(393229,[.mk [.v ci] [] [] [] [(28,⟨[.r 5 ci,.r 6 ci],[],[],[]⟩)] [(59375636,[.mk [.v cb] [] [] [] [] []])]])]],fun (a0,a1,_)=>zar N a0 a1⟩
theorem zbB (N:Nat):zaU Tryz.prog 120 (table_Table_find_o1e00xsp N):=og (g:=120) N (.nil) (.nil) (by kernel_rfl) (fun x=>by kernel_rfl)
def table_Table_Set_od74f_sp (N:Nat):OSp:=⟨.mk [.p (.pt 0 0 2),.v (.st 5)] [] [.cells [xi,.hd 1],.row 5] [] [] [],[.mk [.v ci] [.w 1 5,.h 0 1 (.hd 1)] [] [] [] [(1966096,[.mk [.v ci,.v cb] [] [] [(1000000,0)] [] []])]],fun (a0,a1,_)=>zb6 N a0 a1⟩
theorem zd5 (N:Nat):zaU Tryz.prog 125 (table_Table_Set_od74f_sp N):=og (g:=125) N (.cons (zdd N)<|.cons (zd3 N)<|.nil) (.cons (zbB N)<|.nil) (by kernel_rfl) (fun x=>by kernel_rfl)
def store_Store_change_o816e_sp (N:Nat):OSp:=⟨.mk [.p (.pt 0 0 27),.v (.st 5),.v (.st 5)] [] [.cells [.pt 1 0 2,.pt 2 0 2,xl 0,xl 2,xl 3,xi,xi,xi,xi,xi,xi,xi,xi,xi,xi,xi,xi,xi,xi,xi,xi,xi,xi,xn,xl 1,.hd 3,xi],.cells [xi,.hd 4],.cells [xl 0,.mr 5],.row 1,.row 5,.mp 7 true] [] [] [],[.mk [.v ci] [.h 1 1 (.hd 4),.w 4 5,.h 0 25 (.hd 3),.w 3 1] [] [] [(15,⟨[.w 3 1],[],[],[(0,25,3)]⟩)] [(786445,[.mk [.v ci] [.w 4 5,.h 1 1 (.hd 4)] [] [(1000000,0)] [] []]),(917524,[.mk [] [.w 3 1,.h 0 25 (.hd 3)] [] [(1000000,1)] [] []]),(7995421,[.mk [] [.w 3 1,.h 0 25 (.hd 3)] [] [(1000000,1)] [] []])]],fun (a0,a1,_,a3,a4,_,_,_,_,_,_,_,_,_,_,_,_,_,_,_,_,_,_,_,_,_,_,_,_,_)=>zaI N a0 a1 a3 a4⟩
theorem zde (N:Nat):zaU Tryz.prog 58 (store_Store_change_o816e_sp N):=og (g:=58) N (.nil) (.cons (zd5 N)<|.cons (zdA N)<|.nil) (by kernel_rfl) (fun x=>by kernel_rfl)
def store_Store_Start_o5330xsp (N:Nat):OSp:=⟨.mk [.p (.pt 0 0 27),.v ci,.p (.hd 1)] [] [.cells [.pt 2 0 2,.pt 3 0 2,xl 0,xl 2,xl 3,xi,xi,xi,xi,xi,xi,xi,xi,xi,xi,xi,xi,xi,xi,xi,xi,xi,xi,xn,xl 1,.hd 4,xi],.row 6,.cells [xi,xn],.cells [xl 0,.mr 5],.row 1,.mp 7 true] [] [] [],[.mk [.v ci] [.h 2 1 (.hd 6),.h 3 0 (xl 0),.m 5 7 true,.h 0 25 (.hd 4),.h 0 26 (xi),.w 4 1] [.row 5] [] [] [(917524,[.mk [.v (.st 5),.v cb] [.h 2 1 (.hd 6)] [.row 5] [(1000000,0)] [] []]),(133955641,[.mk [.v ci] [.h 3 0 (xl 0),.m 5 7 true] [] [(1000000,1)] [] []]),(268304458,[.mk [.v ci] [.h 2 1 (.hd 6),.w 6 5,.h 0 25 (.hd 4),.w 4 1] [] [(1000000,2)] [] []])]],fun (a0,a1,a2,a3,a4,a5,a6,a7,a8,a9,a10,a11,a12,a13,a14,a15,a16,a17,a18,a19,a20,a21,a22,_,_,_,a26,_,a28)=>store_Store_Start_o5330 N a0 a1 a2 a3 a4 a5 a6 a7 a8 a9 a10 a11 a12 a13 a14 a15 a16 a17 a18 a19 a20 a21 a22 a26 a28⟩
theorem store_Store_Start_o5330xok (N:Nat):zaU Tryz.prog 14 (store_Store_Start_o5330xsp N):=og (g:=14) N (.cons (store_suits_ok N)<|.cons (job_Step_ok N)<|.cons (zdK N)<|.nil) (.cons (table_Table_Get_o9a4c_ok N)<|.cons (zdj N)<|.cons (zde N)<|.nil) (by kernel_rfl) (fun x=>by kernel_rfl)
def store_Store_Spec_obf7f_sp (N:Nat):OSp:=⟨.mk [.p (.pt 0 0 27)] [] [.cells [.pt 1 0 2,.pt 2 0 2,xl 0,xl 2,xl 3,xi,xi,xi,xi,xi,xi,xi,xi,xi,xi,xi,xi,xi,xi,xi,xi,xi,xi,xn,xl 1,.hd 3,xi],.cells [xi,.hd 4],.cells [xl 0,.mr 5],.row 1,.row 5,.mp 7 true] [] [] [],[.mk [.v (.st 10)] [] [] [] [] []],fun (_,_,_,a3,a4,a5,a6,a7,a8,a9,a10,a11,a12,a13,a14,a15,a16,a17,a18,a19,a20,_,_,_,_,_,_,_)=>za2 N a3 a4 a5 a6 a7 a8 a9 a10 a11 a12 a13 a14 a15 a16 a17 a18 a19 a20⟩
theorem store_Store_Spec_obf7f_ok (N:Nat):zaU Tryz.prog 77 (store_Store_Spec_obf7f_sp N):=og (g:=77) N (.cons (store_copySpec_ok N)<|.nil) (.nil) (by kernel_rfl) (fun x=>by kernel_rfl)
def zdY (N:Nat):OSp:=⟨.mk [.p (.hd 0)] [] [.row 5] [] [] [],[.mk [.p (.hd 1)] [] [.row 5] [] [] []],fun x=>zbt N x⟩
theorem zdW (N:Nat):zaU Tryz.prog 133 (zdY N):=clone_oo (ii:=5) (sz:=152) (z:=[.c (.lit (.int .i64 0)),.c (.lit (.int .i64 0)),.c (.lit (.int .i64 0)),.c (.lit (.int .i64 0)),.c (.lit (.int .i64 0)),.c (.lit (.int .i64 0)),.c (.lit (.int .i64 0)),.c (.lit (.int .i64 0)),.c (.lit (.int .i64 0)),.c (.lit (.slice none 0 0)),.c (.lit (.int .i64 0)),.c (.lit (.bool false)),.c (.lit (.bool false)),.c (.lit (.int .i64 0)),.c (.lit (.int .i64 0)),.c (.lit (.int .i64 0)),.c (.lit (.int .i64 0)),.c (.lit (.int .i64 0))]) (fn:=Tryz.f133) mix (by kernel_rfl) (by kernel_rfl) (by kernel_rfl) rfl
def table_Table_All_o19b3xsp (N:Nat):OSp:=⟨.mk [.p (.pt 0 0 2)] [] [.cells [xi,.hd 1],.row 5] [] [] [],[.mk [.v (.c (.sl 5))] [] [] [] [(122,⟨[.r 15 ci,.w 2 5],[(3,2),(13,2)],[],[]⟩)] [(917516,[.mk [.p (.hd 2)] [] [.row 5] [(1000000,0)] [] []])]],fun (a0,_)=>zbb N a0⟩
theorem zcl (N:Nat):zaU Tryz.prog 66 (table_Table_All_o19b3xsp N):=og (g:=66) N (.cons (zd3 N)<|.nil) (.cons (zdW N)<|.nil) (by kernel_rfl) (fun x=>by kernel_rfl)
def ledger_Ledger_All_o372e_sp (N:Nat):OSp:=⟨.mk [.p (.pt 0 0 2)] [] [.cells [xl 0,.mr 1],.mp 7 true] [] [] [],[.mk [.v (.c (.sl 7))] [] [] [(27,7)] [(122,⟨[.r 15 ci,.w 3 7],[(3,3)],[(3,7)],[]⟩)] [(3932172,[.mk [] [] [] [(1000002,0)] [] []]),(3932173,[.mk [.v (.c (.sl 1))] [] [] [(1000000,999999)] [] []])]],fun (a0,_)=>zaD N a0⟩
theorem zdx (N:Nat):zaU Tryz.prog 85 (ledger_Ledger_All_o372e_sp N):=og (g:=85) N (.cons (ledger_own_ok N)<|.nil) (.nil) (by kernel_rfl) (fun x=>by kernel_rfl)
def zc0 (N:Nat):TSp:=⟨[.c (.sl 8)],[.c (.sl 8)],fun a=>zav N a.1⟩
theorem zbA (N:Nat):zbe Tryz.prog 86 (zc0 N):=clone_ok (i:=8) (sz:=32) (z:=[.c (.lit (.int .i64 0)),.c (.lit (.int .i64 0)),.c (.lit (.int .i64 0)),.c (.lit (.int .i64 0))]) (fn:=Tryz.f86) mix (by kernel_rfl) (by kernel_rfl) (by kernel_rfl) rfl
def slices_Clone_Lint_int_oo_sp (N:Nat):OSp:=⟨.mk [.p (.hd 0)] [] [.row 1] [] [] [],[.mk [.p (.hd 1)] [] [.row 1] [] [] []],fun x=>zaT N x⟩
theorem zc8 (N:Nat):zaU Tryz.prog 73 (slices_Clone_Lint_int_oo_sp N):=clone_oo (ii:=1) (sz:=8) (z:=[.c (.lit (.int .i64 0))]) (fn:=Tryz.f73) mix (by kernel_rfl) (by kernel_rfl) (by kernel_rfl) rfl
def store_Store_State_o70ee_sp (N:Nat):OSp:=⟨.mk [.p (.pt 0 0 27)] [] [.cells [.pt 1 0 2,.pt 2 0 2,xl 0,xl 2,xl 3,xi,xi,xi,xi,xi,xi,xi,xi,xi,xi,xi,xi,xi,xi,xi,xi,xi,xi,xn,xl 1,.hd 3,xi],.cells [xi,.hd 4],.cells [xl 0,.mr 5],.row 1,.row 5,.mp 7 true] [] [] [],[.mk [.v (.st 14)] [] [] [] [] [(917526,[.mk [.v (.c (.sl 5))] [] [] [(1000000,0)] [] []]),(917531,[.mk [.v (.c (.sl 7))] [] [] [(1000000,1)] [] []]),(917547,[.mk [.p (.hd 7)] [] [.row 1] [(1000000,2)] [] []])]],fun (a0,a1,a2,_,_,_,_,_,_,_,_,_,_,_,_,_,_,_,_,_,_,a21,a22,a23,a24,a25,_,_)=>store_Store_State_o70ee N a0 a1 a2 a21 a22 a23 a24 a25⟩
theorem store_Store_State_o70ee_ok (N:Nat):zaU Tryz.prog 27 (store_Store_State_o70ee_sp N):=og (g:=27) N (.cons (zbA N)<|.cons (za9 N)<|.nil) (.cons (zcl N)<|.cons (zdx N)<|.cons (zc8 N)<|.nil) (by kernel_rfl) (fun x=>by kernel_rfl)
def share_New_o710e_sp (N:Nat):OSp:=⟨.mk [.v ci] [] [] [] [] [],[.mk [.p (.hd 0)] [] [.row 1] [(5,1)] [] []],fun a0=>share_New_o710e N a0⟩
theorem share_New_o710e_ok (N:Nat):zaU Tryz.prog 104 (share_New_o710e_sp N):=og (g:=104) N (.cons (nat_Hold_int_ok N)<|.nil) (.nil) (by kernel_rfl) (fun x=>by kernel_rfl)
def job_Charge_sp (N:Nat):TSp:=⟨[.st 5],[ci],fun a=>job_Charge N a.1⟩
theorem job_Charge_ok (N:Nat):zbe Tryz.prog 216 (job_Charge_sp N):=tg [] [(6,⟨[.r 11 cb],[],[],[]⟩)] [] N (.cons (zdd N)<|.cons (life_Has_ok N)<|.nil) (.nil) (fun a=>by kernel_rfl)
def share_Charges_sp (N:Nat):TSp:=⟨[.c (.sl 5),ci],[.c (.sl 1)],fun a=>share_Charges N a.1 a.2.1⟩
theorem share_Charges_ok (N:Nat):zbe Tryz.prog 150 (share_Charges_sp N):=tg [] [(58,⟨[.r 12 ci,.w 0 1],[(5,0)],[],[]⟩),(467,⟨[.w 0 1],[(5,0)],[],[]⟩)] [(393225,[.mk [.p (.hd 0)] [] [.row 1] [(1000000,0)] [] []])] N (.cons (job_Charge_ok N)<|.nil) (.cons (share_New_o710e_ok N)<|.nil) (fun a=>by kernel_rfl)
def share_Tick_sp (N:Nat):TSp:=⟨[.c (.sl 1),.c (.sl 1),ci],[.c (.sl 1)],fun a=>share_Tick N a.1 a.2.1 a.2.2.1⟩
theorem share_Tick_ok (N:Nat):zbe Tryz.prog 151 (share_Tick_sp N):=tg [(14,1)] [(122,⟨[.r 17 ci,.w 0 1],[(7,0)],[],[]⟩),(31335,⟨[.r 9 ci],[],[],[]⟩)] [] N (.cons (nat_Hold_int_ok N)<|.nil) (.nil) (fun a=>by kernel_rfl)
def share_Right_sp (N:Nat):TSp:=⟨[.c (.sl 1)],[cb],fun a=>share_Right N a.1⟩
theorem share_Right_ok (N:Nat):zbe Tryz.prog 72 (share_Right_sp N):=tg [] [(26,⟨[.r 7 ci],[],[],[]⟩)] [] N (.nil) (.nil) (fun a=>by kernel_rfl)
def book_Expire_sp (N:Nat):TSp:=⟨[.c (.sl 8),ci],[.c (.sl 8)],fun a=>book_Expire N a.1 a.2.1⟩
theorem book_Expire_ok (N:Nat):zbe Tryz.prog 74 (book_Expire_sp N):=tg [(20,8)] [(58,⟨[.r 10 ci,.w 0 8],[(5,0)],[(5,8)],[]⟩),(467,⟨[.w 0 8],[(5,0)],[],[]⟩)] [] N (.nil) (.nil) (fun a=>by kernel_rfl)
def store_Store_Pass_o9364xsp (N:Nat):OSp:=⟨.mk [.p (.pt 0 0 27),.v (.c (.sl 1))] [] [.cells [.pt 1 0 2,.pt 2 0 2,xl 0,xl 2,xl 3,xi,xi,xi,xi,xi,xi,xi,xi,xi,xi,xi,xi,xi,xi,xi,xi,xi,xi,xn,xl 1,.hd 3,xi],.cells [xi,.hd 4],.cells [xl 0,.mr 5],.row 1,.row 5,.mp 7 true] [] [] [],[.mk [.v ci] [.h 0 20 (xi),.h 0 23 (xl 8),.h 0 24 (xl 1)] [] [] [(30,⟨[.r 24 cb],[],[],[]⟩)] []],fun (_,_,_,a3,_,_,_,a7,_,_,_,_,_,_,_,_,_,_,_,_,_,_,a22,_,_,a25,_,_,_)=>store_Store_Pass_o9364 N a3 a7 a22 a25⟩
theorem store_Store_Pass_o9364xok (N:Nat):zaU Tryz.prog 18 (store_Store_Pass_o9364xsp N):=og (g:=18) N (.cons (za9 N)<|.cons (book_Expire_ok N)<|.cons (share_Right_ok N)<|.nil) (.nil) (by kernel_rfl) (fun x=>by kernel_rfl)
def clock_ticker_pass_oa1c1xsp (N:Nat):OSp:=⟨.mk [.ag [.pt 0 0 27,xl 0,xl 2,xl 3,xi,xi,xi,xi,xi,xi,xi,xi,xi,xi,xi,xi,xi,xi,xi]] [] [.cells [.pt 1 0 2,.pt 2 0 2,xl 0,xl 2,xl 3,xi,xi,xi,xi,xi,xi,xi,xi,xi,xi,xi,xi,xi,xi,xi,xi,xi,xi,xn,xl 1,.hd 3,xi],.cells [xi,.hd 4],.cells [xl 0,.mr 5],.row 1,.row 5,.mp 7 true] [] [] [],[.mk [.v ci] [.h 0 20 (xi),.h 0 23 (xl 8),.h 0 24 (xl 1)] [] [] [] [(393223,[.mk [.v (.st 14)] [] [] [(1000000,0)] [] []]),(1966103,[.mk [.v ci] [.h 0 20 (xi),.h 0 23 (xl 8),.h 0 24 (xl 1)] [] [(1000000,1)] [] []])]],fun (a0,a1,a2,_,_,_,a6,_,_,_,_,a11,_,_,_,_,_,_,_,_,_,_,_,_,a24,_,_,_,_,_,_,_,_,_,_,_,_,_,_,a39,a40,a41,a42,a43,_,_)=>clock_ticker_pass_oa1c1 N a0 a1 a2 a6 a11 a24 a39 a40 a41 a42 a43⟩
theorem clock_ticker_pass_oa1c1xok (N:Nat):zaU Tryz.prog 87 (clock_ticker_pass_oa1c1xsp N):=og (g:=87) N (.cons (share_Charges_ok N)<|.cons (share_Tick_ok N)<|.nil) (.cons (store_Store_State_o70ee_ok N)<|.cons (store_Store_Pass_o9364xok N)<|.nil) (by kernel_rfl) (fun x=>by kernel_rfl)
def store_Store_State_o679b_sp (N:Nat):OSp:=⟨.mk [.p (.pt 0 0 27)] [] [.cells [.pt 1 0 2,.pt 2 0 2,xl 0,xl 2,xl 3,xi,xi,xi,xi,xi,xi,xi,xi,xi,xi,xi,xi,xi,xi,xi,xi,xi,xi,xl 8,xl 1,.hd 3,xi],.cells [xi,.hd 4],.cells [xl 0,.mr 5],.row 1,.row 5,.mp 7 true] [] [] [],[.mk [.v (.st 14)] [] [] [] [] [(917526,[.mk [.v (.c (.sl 5))] [] [] [(1000000,0)] [] []]),(917531,[.mk [.v (.c (.sl 7))] [] [] [(1000000,1)] [] []]),(917547,[.mk [.p (.hd 7)] [] [.row 1] [(1000000,2)] [] []])]],fun (a0,a1,a2,_,_,_,_,_,_,_,_,_,_,_,_,_,_,_,_,_,_,a21,a22,a23,a24,a25,a26,_,_)=>zah N a0 a1 a2 a21 a22 a23 a24 a25 a26⟩
theorem zaz (N:Nat):zaU Tryz.prog 27 (store_Store_State_o679b_sp N):=og (g:=27) N (.cons (zbA N)<|.cons (za9 N)<|.nil) (.cons (zcl N)<|.cons (zdx N)<|.cons (zc8 N)<|.nil) (by kernel_rfl) (fun x=>by kernel_rfl)
def table_Table_Get_oac68xsp (N:Nat):OSp:=⟨.mk [.p (.pt 0 0 2),.v ci] [] [.cells [xi,.hd 1],.row 5] [] [] [],[.mk [.v (.st 5),.v cb] [] [] [] [] [(917518,[.mk [.v ci,.v cb] [] [] [(1000000,0)] [] []])]],fun (a0,a1,_)=>zaE N a0 a1⟩
theorem zbJ (N:Nat):zaU Tryz.prog 56 (table_Table_Get_oac68xsp N):=og (g:=56) N (.cons (zd3 N)<|.nil) (.cons (zbB N)<|.nil) (by kernel_rfl) (fun x=>by kernel_rfl)
def store_Store_stamp_od610x_sp (N:Nat):OSp:=⟨.mk [.p (.pt 0 0 27),.v ci] [] [.cells [.pt 1 0 2,.pt 2 0 2,xl 0,xl 2,xl 3,xi,xi,xi,xi,xi,xi,xi,xi,xi,xi,xi,xi,xi,xi,xi,xi,xi,xi,xl 8,xl 1,.hd 3,xi],.cells [xi,.hd 4],.cells [xl 0,.mr 5],.row 1,.row 5,.mp 7 true] [] [] [],[.mk [] [.w 3 1,.h 0 25 (.hd 3)] [] [] [] []],fun (a0,_,_,a3,_,_,_,_,_,_,_,_,_,_,_,_,_,_,_,_,_,_,_,_,_,_,_,_,_,_)=>zaM N a0 a3⟩
theorem store_Store_stamp_od610x_ok (N:Nat):zaU Tryz.prog 55 (store_Store_stamp_od610x_sp N):=og (g:=55) N (.cons (zdK N)<|.nil) (.nil) (by kernel_rfl) (fun x=>by kernel_rfl)
def store_Store_change_o816ex_sp (N:Nat):OSp:=⟨.mk [.p (.pt 0 0 27),.v (.st 5),.v (.st 5)] [] [.cells [.pt 1 0 2,.pt 2 0 2,xl 0,xl 2,xl 3,xi,xi,xi,xi,xi,xi,xi,xi,xi,xi,xi,xi,xi,xi,xi,xi,xi,xi,xl 8,xl 1,.hd 3,xi],.cells [xi,.hd 4],.cells [xl 0,.mr 5],.row 1,.row 5,.mp 7 true] [] [] [],[.mk [.v ci] [.h 1 1 (.hd 4),.w 4 5,.h 0 25 (.hd 3),.w 3 1] [] [] [(15,⟨[.w 3 1],[],[],[(0,25,3)]⟩)] [(786445,[.mk [.v ci] [.w 4 5,.h 1 1 (.hd 4)] [] [(1000000,0)] [] []]),(917524,[.mk [] [.w 3 1,.h 0 25 (.hd 3)] [] [(1000000,1)] [] []]),(7995421,[.mk [] [.w 3 1,.h 0 25 (.hd 3)] [] [(1000000,1)] [] []])]],fun (a0,a1,_,a3,a4,_,_,_,_,_,_,_,_,_,_,_,_,_,_,_,_,_,_,_,_,_,_,_,_,_,_)=>zaI N a0 a1 a3 a4⟩
theorem store_Store_change_o816ex_ok (N:Nat):zaU Tryz.prog 58 (store_Store_change_o816ex_sp N):=og (g:=58) N (.nil) (.cons (zd5 N)<|.cons (store_Store_stamp_od610x_ok N)<|.nil) (by kernel_rfl) (fun x=>by kernel_rfl)
def vec_Add_sp (N:Nat):TSp:=⟨[.st 0,.st 0],[.st 0,ci],fun a=>vec_Add N a.1 a.2.1⟩
theorem vec_Add_ok (N:Nat):zbe Tryz.prog 127 (vec_Add_sp N):=tg [] [(6,⟨[.r 15 cb],[],[],[]⟩)] [(917522,[.mk [.ag [.cx,.cx]] [] [] [(1000000,0)] [] []]),(917524,[.mk [.ag [.cx,.cx]] [] [] [(1000000,0)] [] []]),(1966112,[.mk [.v (.st 0),.v ci] [] [] [(1000000,1)] [] []])] N (.cons (zb5 N)<|.nil) (.cons (vec_split_o09e8xok N)<|.cons (zd1 N)<|.nil) (fun a=>by kernel_rfl)
def ledger_Ledger_change_o5a71xsp (N:Nat):OSp:=⟨.mk [.p (.pt 0 0 2),.v (.st 7),.p (.k (.c (.fn (.func 127) [] [])))] [] [.cells [xl 0,.mr 1],.mp 7 true] [] [] [],[.mk [.v (.c (.sl 0)),.v ci] [] [] [] [(58,⟨[.r 21 ci,.w 3 0],[(8,3)],[],[]⟩)] [(393233,[.mk [.p (.hd 3)] [] [.row 0] [(1000000,0)] [] []])]],fun (_,a1,a2)=>zbw N a1 a2⟩
theorem ledger_Ledger_change_o5a71xok (N:Nat):zaU Tryz.prog 126 (ledger_Ledger_change_o5a71xsp N):=og (g:=126) N (.cons (vec_Times_ok N)<|.cons (vec_Add_ok N)<|.nil) (.cons (za4 N)<|.nil) (by kernel_rfl) (fun x=>by kernel_rfl)
def ledger_Ledger_Give_of55f_sp (N:Nat):OSp:=⟨.mk [.p (.pt 0 0 2),.v ci] [] [.cells [xl 0,.mr 1],.mp 7 true] [] [] [],[.mk [.v ci] [.h 0 0 (xl 0),.m 1 7 true] [] [] [] [(4063257,[.mk [.v (.c (.sl 0)),.v ci] [] [] [(1000000,0)] [] []])]],fun (a0,a1,a2)=>zbI N a0 a1 a2⟩
theorem ledger_Ledger_Give_of55f_ok (N:Nat):zaU Tryz.prog 60 (ledger_Ledger_Give_of55f_sp N):=og (g:=60) N (.nil) (.cons (ledger_Ledger_change_o5a71xok N)<|.nil) (by kernel_rfl) (fun x=>by kernel_rfl)
def store_Store_Step_o6975xsp (N:Nat):OSp:=⟨.mk [.p (.pt 0 0 27),.v ci,.v ci,.v cb] [] [.cells [.pt 1 0 2,.pt 2 0 2,xl 0,xl 2,xl 3,xi,xi,xi,xi,xi,xi,xi,xi,xi,xi,xi,xi,xi,xi,xi,xi,xi,xi,xl 8,xl 1,.hd 3,xi],.cells [xi,.hd 4],.cells [xl 0,.mr 5],.row 1,.row 5,.mp 7 true] [] [] [],[.mk [.v ci] [.h 0 25 (.hd 3),.h 1 1 (.hd 4),.w 3 1,.w 4 5,.h 0 26 (xi),.h 2 0 (xl 0),.m 5 7 true] [] [] [(511,⟨[.h 0 26 (.int .i64),.h 2 0 (.sl 0),.m 5 7 true],[],[],[]⟩),(1022,⟨[.r 58 cb],[],[],[]⟩)] [(917526,[.mk [.v (.st 5),.v cb] [] [] [(1000000,0)] [] []]),(66846766,[.mk [.v ci] [.h 1 1 (.hd 4),.w 4 5,.h 0 25 (.hd 3),.w 3 1] [] [(1000000,1)] [] []]),(536084544,[.mk [.v ci] [.h 2 0 (xl 0),.m 5 7 true] [] [(1000000,2)] [] []])]],fun (a0,a1,a2,a3,a4,a5,_,_,_,_,_,_,_,_,_,_,_,_,_,_,_,_,_,_,a24,_,_,_,_,a29,_,a31)=>zaH N a0 a1 a2 a3 a4 a5 a24 a29 a31⟩
theorem zdE (N:Nat):zaU Tryz.prog 13 (store_Store_Step_o6975xsp N):=og (g:=13) N (.cons (job_Step_ok N)<|.cons (zdK N)<|.cons (life_Has_ok N)<|.nil) (.cons (zbJ N)<|.cons (store_Store_change_o816ex_ok N)<|.cons (ledger_Ledger_Give_of55f_ok N)<|.nil) (by kernel_rfl) (fun x=>by kernel_rfl)
def clock_ticker_end_of4b3xsp (N:Nat):OSp:=⟨.mk [.ag [.pt 0 0 27,xl 0,xl 2,xl 3,xi,xi,xi,xi,xi,xi,xi,xi,xi,xi,xi,xi,xi,xi,xi]] [] [.cells [.pt 1 0 2,.pt 2 0 2,xl 0,xl 2,xl 3,xi,xi,xi,xi,xi,xi,xi,xi,xi,xi,xi,xi,xi,xi,xi,xi,xi,xi,xl 8,xl 1,.hd 3,xi],.cells [xi,.hd 4],.cells [xl 0,.mr 5],.row 1,.row 5,.mp 7 true] [] [] [],[.mk [.v ci] [.h 0 25 (.hd 3),.h 0 26 (xi),.h 1 1 (.hd 4),.h 2 0 (xl 0),.w 3 1,.w 4 5,.m 5 7 true] [] [] [(58,⟨[.r 12 ci,.h 0 26 (.int .i64),.h 2 0 (.sl 0),.w 3 1,.w 4 5,.m 5 7 true],[],[],[(0,25,3),(1,1,4)]⟩),(467,⟨[.h 0 26 (.int .i64),.h 2 0 (.sl 0),.w 3 1,.w 4 5,.m 5 7 true],[],[],[(0,25,3),(1,1,4)]⟩),(29899,⟨[.r 29 cb],[],[],[]⟩)] [(393224,[.mk [.v (.st 14)] [] [] [(1000000,0)] [] []]),(1959395356,[.mk [.v ci] [.h 0 25 (.hd 3),.h 1 1 (.hd 4),.w 3 1,.w 4 5,.h 0 26 (xi),.h 2 0 (xl 0),.m 5 7 true] [] [(1000000,1)] [] []]),(7837974578,[.mk [.v ci] [.h 0 25 (.hd 3),.h 1 1 (.hd 4),.w 3 1,.w 4 5,.h 0 26 (xi),.h 2 0 (xl 0),.m 5 7 true] [] [(1000000,1)] [] []])]],fun (a0,a1,a2,_,_,_,_,_,_,_,_,_,_,_,_,_,_,_,_,_,_,_,_,_,_,_,_,_,_,_,_,_,_,_,_,_,_,_,_,a39,a40,a41,a42,a43,a44,_,a46)=>zby N a0 a1 a2 a39 a40 a41 a42 a43 a44 a46⟩
theorem zdG (N:Nat):zaU Tryz.prog 88 (clock_ticker_end_of4b3xsp N):=og (g:=88) N (.nil) (.cons (zaz N)<|.cons (zdE N)<|.nil) (by kernel_rfl) (fun x=>by kernel_rfl)
def deps_find_sp (N:Nat):TSp:=⟨[ci,.c (.sl 5)],[.st 5,cb],fun a=>deps_find N a.1 a.2.1⟩
theorem deps_find_ok (N:Nat):zbe Tryz.prog 204 (deps_find_sp N):=tg [] [(26,⟨[.r 9 ci],[],[],[]⟩)] [] N (.nil) (.nil) (fun a=>by kernel_rfl)
def deps_met_sp (N:Nat):TSp:=⟨[.st 4,.st 5],[cb],fun a=>deps_met N a.1 a.2.1⟩
theorem deps_met_ok (N:Nat):zbe Tryz.prog 205 (deps_met_sp N):=tg [] [] [] N (.cons (zb7 N)<|.nil) (.nil) (fun a=>by kernel_rfl)
def deps_Lost_sp (N:Nat):TSp:=⟨[.st 5,.c (.sl 5)],[cb],fun a=>deps_Lost N a.1 a.2.1⟩
theorem deps_Lost_ok (N:Nat):zbe Tryz.prog 153 (deps_Lost_sp N):=tg [] [(26,⟨[.r 12 ci],[],[],[]⟩),(3379,⟨[.r 34 cb],[],[],[]⟩)] [] N (.cons (deps_find_ok N)<|.cons (zb7 N)<|.cons (deps_met_ok N)<|.nil) (.nil) (fun a=>by kernel_rfl)
def clock_ticker_lose_o53a5xsp (N:Nat):OSp:=⟨.mk [.ag [.pt 0 0 27,xl 0,xl 2,xl 3,xi,xi,xi,xi,xi,xi,xi,xi,xi,xi,xi,xi,xi,xi,xi]] [] [.cells [.pt 1 0 2,.pt 2 0 2,xl 0,xl 2,xl 3,xi,xi,xi,xi,xi,xi,xi,xi,xi,xi,xi,xi,xi,xi,xi,xi,xi,xi,xl 8,xl 1,.hd 3,xi],.cells [xi,.hd 4],.cells [xl 0,.mr 5],.row 1,.row 5,.mp 7 true] [] [] [],[.mk [.v ci] [.h 0 25 (.hd 3),.h 0 26 (xi),.h 1 1 (.hd 4),.h 2 0 (xl 0),.w 3 1,.w 4 5,.m 5 7 true] [] [] [(58,⟨[.r 3 (.c (.sl 5)),.r 12 ci,.h 0 26 (.int .i64),.h 2 0 (.sl 0),.w 3 1,.w 4 5,.m 5 7 true],[],[],[(0,25,3),(1,1,4)]⟩),(467,⟨[.r 3 (.c (.sl 5)),.h 0 26 (.int .i64),.h 2 0 (.sl 0),.w 3 1,.w 4 5,.m 5 7 true],[],[],[(0,25,3),(1,1,4)]⟩),(7475,⟨[.r 26 cb],[],[],[]⟩)] [(393224,[.mk [.v (.st 14)] [] [] [(1000000,0)] [] []]),(3919314975,[.mk [.v ci] [.h 0 25 (.hd 3),.h 1 1 (.hd 4),.w 3 1,.w 4 5,.h 0 26 (xi),.h 2 0 (xl 0),.m 5 7 true] [] [(1000000,1)] [] []]),(3919380514,[.mk [.v (.st 14)] [] [] [(1000000,0)] [] []])]],fun (a0,a1,a2,_,_,_,_,_,_,_,_,_,_,_,_,_,_,_,_,_,_,_,_,_,_,_,_,_,_,_,_,_,_,_,_,_,_,_,_,a39,a40,a41,a42,a43,a44,_,a46)=>zbm N a0 a1 a2 a39 a40 a41 a42 a43 a44 a46⟩
theorem zdy (N:Nat):zaU Tryz.prog 89 (clock_ticker_lose_o53a5xsp N):=og (g:=89) N (.cons (life_Waits_ok N)<|.cons (deps_Lost_ok N)<|.nil) (.cons (zaz N)<|.cons (zdE N)<|.nil) (by kernel_rfl) (fun x=>by kernel_rfl)
end Go.Abs
end
end
section
set_option maxRecDepth 100000
noncomputable section
namespace Go.Abs
open Go.Proofs
variable [Gl]
def deps_Awaited_sp (N:Nat):TSp:=⟨[ci,.c (.sl 5)],[cb],fun a=>deps_Awaited N a.1 a.2.1⟩
theorem deps_Awaited_ok (N:Nat):zbe Tryz.prog 65 (deps_Awaited_sp N):=tg [] [(26,⟨[.r 11 ci],[],[],[]⟩),(211,⟨[],[],[],[]⟩),(13518,⟨[.r 21 ci],[],[],[]⟩)] [] N (.cons (zb7 N)<|.nil) (.nil) (fun a=>by kernel_rfl)
def zdJ (N:Nat):OSp:=⟨.mk [.p (.hd 0),.v ci,.v ci] [] [.row 5] [] [] [],[.mk [.p (.hd 1)] [.w 0 5] [.row 5] [] [] []],fun x=>zbl N x.1 x.2.1 x.2.2⟩
theorem zdI (N:Nat):zaU Tryz.prog 134 (zdJ N):=delete_oo (ii:=5) (sz:=152) (ti:=3) (tb:=4) (z:=[.c (.lit (.int .i64 0)),.c (.lit (.int .i64 0)),.c (.lit (.int .i64 0)),.c (.lit (.int .i64 0)),.c (.lit (.int .i64 0)),.c (.lit (.int .i64 0)),.c (.lit (.int .i64 0)),.c (.lit (.int .i64 0)),.c (.lit (.int .i64 0)),.c (.lit (.slice none 0 0)),.c (.lit (.int .i64 0)),.c (.lit (.bool false)),.c (.lit (.bool false)),.c (.lit (.int .i64 0)),.c (.lit (.int .i64 0)),.c (.lit (.int .i64 0)),.c (.lit (.int .i64 0)),.c (.lit (.int .i64 0))]) (fn:=Tryz.f134) mix (by kernel_rfl) (by kernel_rfl) (by kernel_rfl) (by kernel_rfl) rfl rfl rfl (fun i j=>by kernel_rfl)
def table_Table_Drop_oa8d3xsp (N:Nat):OSp:=⟨.mk [.p (.pt 0 0 2),.v ci] [] [.cells [xi,.hd 1],.row 5] [] [] [],[.mk [.p (.k (.c (.lit (.int .i64 30))))] [.h 0 1 (.hd 1),.w 1 5] [] [] [] [(917516,[.mk [.v ci,.v cb] [] [] [(1000000,0)] [] []]),(4063257,[.mk [.p (.hd 2)] [.w 1 5] [.row 5] [(1000000,1)] [] []])],.mk [.p (.k (.c (.lit (.int .i64 0))))] [.h 0 1 (.hd 2),.w 1 5] [.row 5] [] [] []],fun (a0,a1,_)=>zcL N a0 a1⟩
theorem table_Table_Drop_oa8d3xok (N:Nat):zaU Tryz.prog 67 (table_Table_Drop_oa8d3xsp N):=og (g:=67) N (.nil) (.cons (zbB N)<|.cons (zdI N)<|.nil) (by kernel_rfl) (fun x=>by kernel_rfl)
def store_Store_Drop_oac0f_sp (N:Nat):OSp:=⟨.mk [.p (.pt 0 0 27),.v ci] [] [.cells [.pt 1 0 2,.pt 2 0 2,xl 0,xl 2,xl 3,xi,xi,xi,xi,xi,xi,xi,xi,xi,xi,xi,xi,xi,xi,xi,xi,xi,xi,xl 8,xl 1,.hd 3,xi],.cells [xi,.hd 4],.cells [xl 0,.mr 5],.row 1,.row 5,.mp 7 true] [] [] [],[.mk [.v ci] [.h 1 1 (.hd 4),.w 4 5] [] [] [(62,⟨[.r 32 cb],[],[],[]⟩)] [(917519,[.mk [.v (.st 5),.v cb] [] [] [(1000000,0)] [] []]),(8126494,[.mk [.v (.c (.sl 5))] [] [] [(1000000,1)] [] []]),(8257574,[.mk [.p (.k (.c (.lit (.int .i64 30))))] [.h 1 1 (.hd 4),.w 4 5] [] [(1000000,2)] [] [],.mk [.p (.k (.c (.lit (.int .i64 0))))] [.h 1 1 (.hd 7),.w 4 5] [.row 5] [] [] []])],.mk [.p (.k (.c (.lit (.int .i64 0))))] [.h 1 1 (.hd 6),.w 4 5] [.row 5] [] [] []],fun (_,a1,_,a3,_,_,_,_,_,_,_,_,_,_,_,_,_,_,_,_,_,_,_,_,_,_,_,_,_,_)=>zb0 N a1 a3⟩
theorem store_Store_Drop_oac0f_ok (N:Nat):zaU Tryz.prog 15 (store_Store_Drop_oac0f_sp N):=og (g:=15) N (.cons (zb7 N)<|.cons (deps_Awaited_ok N)<|.nil) (.cons (zbJ N)<|.cons (zcl N)<|.cons (table_Table_Drop_oa8d3xok N)<|.nil) (by kernel_rfl) (fun x=>by kernel_rfl)
def clock_ticker_remove_o0b01xsp (N:Nat):OSp:=⟨.mk [.ag [.pt 0 0 27,xl 0,xl 2,xl 3,xi,xi,xi,xi,xi,xi,xi,xi,xi,xi,xi,xi,xi,xi,xi]] [] [.cells [.pt 1 0 2,.pt 2 0 2,xl 0,xl 2,xl 3,xi,xi,xi,xi,xi,xi,xi,xi,xi,xi,xi,xi,xi,xi,xi,xi,xi,xi,xl 8,xl 1,.hd 3,xi],.cells [xi,.hd 4],.cells [xl 0,.mr 5],.row 1,.row 5,.mp 7 true] [] [] [],[.mk [.v ci] [.h 1 1 (.hd 6),.w 4 5] [.row 5] [] [(58,⟨[.r 12 ci,.w 8 5],[],[],[(1,1,8)]⟩)] [(393224,[.mk [.v (.st 14)] [] [] [(1000000,0)] [] []]),(979763234,[.mk [.v ci] [.h 1 1 (.hd 8),.w 8 5] [] [(1000000,1)] [] [],.mk [.p (.k (.c (.lit (.int .i64 0))))] [.h 1 1 (.hd 10),.w 8 5] [.row 5] [] [] []])]],fun (a0,a1,a2,_,_,_,_,_,_,_,_,_,_,_,_,_,a16,_,_,_,_,_,_,_,_,_,_,_,_,_,_,_,_,_,_,_,_,_,_,a39,a40,a41,a42,a43,a44,_,_)=>za5 N a0 a1 a2 a16 a39 a40 a41 a42 a43 a44⟩
theorem zcY (N:Nat):zaU Tryz.prog 90 (clock_ticker_remove_o0b01xsp N):=og (g:=90) N (.cons (zb7 N)<|.nil) (.cons (zaz N)<|.cons (store_Store_Drop_oac0f_ok N)<|.nil) (by kernel_rfl) (fun x=>by kernel_rfl)
def clock_Tick_o354c_sp (N:Nat):OSp:=⟨.mk [.p (.pt 0 0 27)] [] [.cells [.pt 1 0 2,.pt 2 0 2,xl 0,xl 2,xl 3,xi,xi,xi,xi,xi,xi,xi,xi,xi,xi,xi,xi,xi,xi,xi,xi,xi,xi,xn,xl 1,.hd 3,xi],.cells [xi,.hd 4],.cells [xl 0,.mr 5],.row 1,.row 5,.mp 7 true] [] [] [],[.mk [.v ci] [.h 0 20 (xi),.h 0 23 (xl 8),.h 0 24 (xl 1),.h 0 25 (.hd 3),.h 0 26 (xi),.h 1 1 (.hd 4),.h 2 0 (xl 0),.w 3 1,.w 4 5,.m 5 7 true] [] [(21,1000001)] [(122,⟨[],[],[(1000003,40)],[]⟩)] [(917515,[.mk [.v (.st 10)] [] [] [(1000000,0)] [] []]),(1026687004,[.mk [.v ci] [.h 0 20 (xi),.h 0 23 (xl 8),.h 0 24 (xl 1)] [] [(1000000,1)] [] []]),(107594397945701997575536668,[.mk [.v ci] [.h 0 25 (.hd 3),.h 0 26 (xi),.h 1 1 (.hd 4),.h 2 0 (xl 0),.w 3 1,.w 4 5,.m 5 7 true] [] [(1000000,2)] [] []]),(108803323765316626750242844,[.mk [.v ci] [.h 0 25 (.hd 3),.h 0 26 (xi),.h 1 1 (.hd 4),.h 2 0 (xl 0),.w 3 1,.w 4 5,.m 5 7 true] [] [(1000000,3)] [] []]),(110012249584931255924949020,[.mk [.v ci] [.h 1 1 (.hd 8),.w 4 5] [.row 5] [(1000000,4)] [] []])],.mk [.v ci] [.h 0 20 (xi),.h 0 23 (xl 8),.h 0 24 (xl 1),.h 0 25 (.hd 3),.h 0 26 (xi),.h 1 1 (.hd 6),.h 2 0 (xl 0),.w 3 1,.w 4 5,.m 5 7 true] [.row 5] [] [] []],fun (a0,a1,a2,a3,a4,a5,a6,a7,a8,a9,a10,a11,a12,a13,a14,a15,a16,a17,a18,a19,a20,a21,a22,a23,a24,a25,_,a27)=>clock_Tick_o354c N a0 a1 a2 a3 a4 a5 a6 a7 a8 a9 a10 a11 a12 a13 a14 a15 a16 a17 a18 a19 a20 a21 a22 a23 a24 a25 a27⟩
theorem clock_Tick_o354c_ok (N:Nat):zaU Tryz.prog 29 (clock_Tick_o354c_sp N):=og (g:=29) N (.nil) (.cons (store_Store_Spec_obf7f_ok N)<|.cons (clock_ticker_pass_oa1c1xok N)<|.cons (zdG N)<|.cons (zdy N)<|.cons (zcY N)<|.nil) (by kernel_rfl) (fun x=>by kernel_rfl)
def store_Store_Job_obbc5xsp (N:Nat):OSp:=⟨.mk [.p (.pt 0 0 27),.v ci] [] [.cells [.pt 1 0 2,.pt 2 0 2,xl 0,xl 2,xl 3,xi,xi,xi,xi,xi,xi,xi,xi,xi,xi,xi,xi,xi,xi,xi,xi,xi,xi,xl 8,xl 1,.hd 3,xi],.cells [xi,.hd 4],.cells [xl 0,.mr 5],.row 1,.row 5,.mp 7 true] [] [] [],[.mk [.v (.st 5),.v cb] [] [] [] [] [(917518,[.mk [.v (.st 5),.v cb] [] [] [(1000000,0)] [] []])]],fun (_,a1,_,a3,_,_,_,_,_,_,_,_,_,_,_,_,_,_,_,_,_,_,_,_,_,_,_,_,_,_)=>zao N a1 a3⟩
theorem store_Store_Job_obbc5xok (N:Nat):zaU Tryz.prog 52 (store_Store_Job_obbc5xsp N):=og (g:=52) N (.nil) (.cons (zbJ N)<|.nil) (by kernel_rfl) (fun x=>by kernel_rfl)
def store_Store_Spec_obf7fx_sp (N:Nat):OSp:=⟨.mk [.p (.pt 0 0 27)] [] [.cells [.pt 1 0 2,.pt 2 0 2,xl 0,xl 2,xl 3,xi,xi,xi,xi,xi,xi,xi,xi,xi,xi,xi,xi,xi,xi,xi,xi,xi,xi,xl 8,xl 1,.hd 3,xi],.cells [xi,.hd 4],.cells [xl 0,.mr 5],.row 1,.row 5,.mp 7 true] [] [] [],[.mk [.v (.st 10)] [] [] [] [] []],fun (_,_,_,a3,a4,a5,a6,a7,a8,a9,a10,a11,a12,a13,a14,a15,a16,a17,a18,a19,a20,_,_,_,_,_,_,_,_)=>za2 N a3 a4 a5 a6 a7 a8 a9 a10 a11 a12 a13 a14 a15 a16 a17 a18 a19 a20⟩
theorem store_Store_Spec_obf7fx_ok (N:Nat):zaU Tryz.prog 77 (store_Store_Spec_obf7fx_sp N):=og (g:=77) N (.cons (store_copySpec_ok N)<|.nil) (.nil) (by kernel_rfl) (fun x=>by kernel_rfl)
def store_Store_Pass_o86e7xsp (N:Nat):OSp:=⟨.mk [.p (.pt 0 0 27),.v (.c (.sl 1))] [] [.cells [.pt 1 0 2,.pt 2 0 2,xl 0,xl 2,xl 3,xi,xi,xi,xi,xi,xi,xi,xi,xi,xi,xi,xi,xi,xi,xi,xi,xi,xi,xl 8,xl 1,.hd 3,xi],.cells [xi,.hd 4],.cells [xl 0,.mr 5],.row 1,.row 5,.mp 7 true] [] [] [],[.mk [.v ci] [.h 0 20 (xi),.h 0 23 (xl 8),.h 0 24 (xl 1)] [] [] [(30,⟨[.r 24 cb],[],[],[]⟩)] []],fun (_,_,_,a3,_,_,_,a7,_,_,_,_,_,_,_,_,_,_,_,_,_,_,a22,_,_,a25,a26,_,_,_)=>zcM N a3 a7 a22 a25 a26⟩
theorem store_Store_Pass_o86e7xok (N:Nat):zaU Tryz.prog 18 (store_Store_Pass_o86e7xsp N):=og (g:=18) N (.cons (za9 N)<|.cons (book_Expire_ok N)<|.cons (share_Right_ok N)<|.nil) (.nil) (by kernel_rfl) (fun x=>by kernel_rfl)
def clock_ticker_pass_o6ac0xsp (N:Nat):OSp:=⟨.mk [.ag [.pt 0 0 27,xl 0,xl 2,xl 3,xi,xi,xi,xi,xi,xi,xi,xi,xi,xi,xi,xi,xi,xi,xi]] [] [.cells [.pt 1 0 2,.pt 2 0 2,xl 0,xl 2,xl 3,xi,xi,xi,xi,xi,xi,xi,xi,xi,xi,xi,xi,xi,xi,xi,xi,xi,xi,xl 8,xl 1,.hd 3,xi],.cells [xi,.hd 4],.cells [xl 0,.mr 5],.row 1,.row 5,.mp 7 true] [] [] [],[.mk [.v ci] [.h 0 20 (xi),.h 0 23 (xl 8),.h 0 24 (xl 1)] [] [] [] [(393223,[.mk [.v (.st 14)] [] [] [(1000000,0)] [] []]),(1966103,[.mk [.v ci] [.h 0 20 (xi),.h 0 23 (xl 8),.h 0 24 (xl 1)] [] [(1000000,1)] [] []])]],fun (a0,a1,a2,_,_,_,a6,_,_,_,_,a11,_,_,_,_,_,_,_,_,_,_,_,_,a24,_,_,_,_,_,_,_,_,_,_,_,_,_,_,a39,a40,a41,a42,a43,a44,_,_)=>zbO N a0 a1 a2 a6 a11 a24 a39 a40 a41 a42 a43 a44⟩
theorem clock_ticker_pass_o6ac0xok (N:Nat):zaU Tryz.prog 87 (clock_ticker_pass_o6ac0xsp N):=og (g:=87) N (.cons (share_Charges_ok N)<|.cons (share_Tick_ok N)<|.nil) (.cons (zaz N)<|.cons (store_Store_Pass_o86e7xok N)<|.nil) (by kernel_rfl) (fun x=>by kernel_rfl)
def clock_Tick_o5a8e_sp (N:Nat):OSp:=⟨.mk [.p (.pt 0 0 27)] [] [.cells [.pt 1 0 2,.pt 2 0 2,xl 0,xl 2,xl 3,xi,xi,xi,xi,xi,xi,xi,xi,xi,xi,xi,xi,xi,xi,xi,xi,xi,xi,xl 8,xl 1,.hd 3,xi],.cells [xi,.hd 4],.cells [xl 0,.mr 5],.row 1,.row 5,.mp 7 true] [] [] [],[.mk [.v ci] [.h 0 20 (xi),.h 0 23 (xl 8),.h 0 24 (xl 1),.h 0 25 (.hd 3),.h 0 26 (xi),.h 1 1 (.hd 4),.h 2 0 (xl 0),.w 3 1,.w 4 5,.m 5 7 true] [] [(21,1000001)] [(122,⟨[],[],[(1000003,40)],[]⟩)] [(917515,[.mk [.v (.st 10)] [] [] [(1000000,0)] [] []]),(1026687004,[.mk [.v ci] [.h 0 20 (xi),.h 0 23 (xl 8),.h 0 24 (xl 1)] [] [(1000000,1)] [] []]),(107594397945701997575536668,[.mk [.v ci] [.h 0 25 (.hd 3),.h 0 26 (xi),.h 1 1 (.hd 4),.h 2 0 (xl 0),.w 3 1,.w 4 5,.m 5 7 true] [] [(1000000,2)] [] []]),(108803323765316626750242844,[.mk [.v ci] [.h 0 25 (.hd 3),.h 0 26 (xi),.h 1 1 (.hd 4),.h 2 0 (xl 0),.w 3 1,.w 4 5,.m 5 7 true] [] [(1000000,3)] [] []]),(110012249584931255924949020,[.mk [.v ci] [.h 1 1 (.hd 8),.w 4 5] [.row 5] [(1000000,4)] [] []])],.mk [.v ci] [.h 0 20 (xi),.h 0 23 (xl 8),.h 0 24 (xl 1),.h 0 25 (.hd 3),.h 0 26 (xi),.h 1 1 (.hd 6),.h 2 0 (xl 0),.w 3 1,.w 4 5,.m 5 7 true] [.row 5] [] [] []],fun (a0,a1,a2,a3,a4,a5,a6,a7,a8,a9,a10,a11,a12,a13,a14,a15,a16,a17,a18,a19,a20,a21,a22,a23,a24,a25,a26,_,a28)=>zbs N a0 a1 a2 a3 a4 a5 a6 a7 a8 a9 a10 a11 a12 a13 a14 a15 a16 a17 a18 a19 a20 a21 a22 a23 a24 a25 a26 a28⟩
theorem clock_Tick_o5a8e_ok (N:Nat):zaU Tryz.prog 29 (clock_Tick_o5a8e_sp N):=og (g:=29) N (.nil) (.cons (store_Store_Spec_obf7fx_ok N)<|.cons (clock_ticker_pass_o6ac0xok N)<|.cons (zdG N)<|.cons (zdy N)<|.cons (zcY N)<|.nil) (by kernel_rfl) (fun x=>by kernel_rfl)
def store_Store_Start_obd85xsp (N:Nat):OSp:=⟨.mk [.p (.pt 0 0 27),.v ci,.p (.hd 1)] [] [.cells [.pt 2 0 2,.pt 3 0 2,xl 0,xl 2,xl 3,xi,xi,xi,xi,xi,xi,xi,xi,xi,xi,xi,xi,xi,xi,xi,xi,xi,xi,xn,xl 1,.hd 4,xi],.row 6,.cells [xi,.hd 5],.cells [xl 0,.mr 6],.row 1,.row 5,.mp 7 true] [] [] [],[.mk [.v ci] [.h 3 0 (xl 0),.m 6 7 true,.h 0 25 (.hd 4),.h 0 26 (xi),.h 2 1 (.hd 5),.w 4 1,.w 5 5] [] [] [] [(917524,[.mk [.v (.st 5),.v cb] [] [] [(1000000,0)] [] []]),(133955641,[.mk [.v ci] [.h 3 0 (xl 0),.m 6 7 true] [] [(1000000,1)] [] []]),(268304458,[.mk [.v ci] [.h 2 1 (.hd 5),.w 5 5,.h 0 25 (.hd 4),.w 4 1] [] [(1000000,2)] [] []])]],fun (a0,a1,a2,a3,a4,a5,a6,a7,a8,a9,a10,a11,a12,a13,a14,a15,a16,a17,a18,a19,a20,a21,a22,a23,_,_,_,a27,_,a29)=>store_Store_Start_obd85 N a0 a1 a2 a3 a4 a5 a6 a7 a8 a9 a10 a11 a12 a13 a14 a15 a16 a17 a18 a19 a20 a21 a22 a23 a27 a29⟩
theorem store_Store_Start_obd85xok (N:Nat):zaU Tryz.prog 14 (store_Store_Start_obd85xsp N):=og (g:=14) N (.cons (store_suits_ok N)<|.cons (job_Step_ok N)<|.cons (zdK N)<|.nil) (.cons (zbJ N)<|.cons (zdj N)<|.cons (zde N)<|.nil) (by kernel_rfl) (fun x=>by kernel_rfl)
def drayagelaw30xawake_sp (N:Nat):TSp:=⟨[],[cb],fun a=>drayagelaw30xawake N⟩
theorem drayagelaw30xawake_ok (N:Nat):zbe Tryz.prog 28 (drayagelaw30xawake_sp N):=tg [(20,6)] [] [(393227,[.mk [.p (.k (.c (.lit (.pointer none)))),.p (.k (.c (.lit (.int .i64 2))))] [] [] [(1000000,0)] [] [],.mk [.p (.pt 0 0 27),.p (.k (.c (.lit (.int .i64 0))))] [] [.cells [.pt 1 0 2,.pt 2 0 2,xl 0,xl 2,xl 3,xi,xi,xi,xi,xi,xi,xi,xi,xi,xi,xi,xi,xi,xi,xi,xi,xi,xi,xn,xl 1,.hd 3,xi],.cells [xi,xn],.cells [xl 0,.mr 4],.row 1,.mp 7 true] [] [] []]),(917521,[.mk [.v ci] [] [] [(1000000,1)] [] []]),(1966101,[.mk [.v ci] [] [] [(1000000,2)] [] []]),(4063255,[.mk [] [] [] [(1000000,3),(1000000,7),(1000005,1)] [] []]),(8257562,[.mk [.v (.st 5),.v cb] [] [] [(1000000,4)] [] []]),(16646174,[.mk [] [] [] [(1000000,3),(1000000,9),(1000005,1)] [] []]),(33423393,[.mk [.v (.st 5),.v cb] [] [] [(1000000,4)] [] []]),(66977850,[.mk [.v (.st 14)] [] [] [(1000000,10)] [] []]),(6597070684177,[.mk [.v ci] [.h 1 1 (xn),.h 0 21 (xi),.h 0 25 (.hd 3),.w 3 1] [] [(1000000,5)] [] [],.mk [.v ci] [.h 1 1 (.hd 5),.h 0 21 (xi),.h 0 25 (.hd 3),.w 3 1] [.row 5] [] [] []]),(7696583360533,[.mk [.v ci] [.h 1 1 (.hd 6),.h 2 0 (xl 0),.m 4 7 true,.h 0 25 (.hd 3),.h 0 26 (xi),.w 3 1] [.row 5] [(1000000,6)] [] []]),(8796094988309,[.mk [.v ci] [.h 2 0 (xl 0),.m 4 7 true,.h 0 25 (.hd 3),.h 0 26 (xi),.h 1 1 (.hd 5),.w 3 1,.w 5 5] [] [(1000000,11)] [] []]),(8796101279770,[.mk [.v (.st 5),.v cb] [] [] [(1000000,8)] [] []]),(9895612907546,[.mk [.v (.st 5),.v cb] [] [] [(1000000,8)] [] []]),(9895638073377,[.mk [.v (.st 5),.v cb] [] [] [(1000000,8)] [] []]),(10995149701153,[.mk [.v (.st 5),.v cb] [] [] [(1000000,8)] [] []]),(12094661328929,[.mk [.v (.st 5),.v cb] [] [] [(1000000,8)] [] []])] N (.cons (drayageref07xSmall_ok N)<|.nil) (.cons (store_New_o49f9xok N)<|.cons (store_Store_Put_oe980xok N)<|.cons (store_Store_Start_odcef_ok N)<|.cons (clock_Tick_oce53xok N)<|.cons (store_Store_Job_o6ae8xok N)<|.cons (store_Store_Put_o925b_ok N)<|.cons (store_Store_Start_o5330xok N)<|.cons (clock_Tick_o354c_ok N)<|.cons (store_Store_Job_obbc5xok N)<|.cons (clock_Tick_o5a8e_ok N)<|.cons (zaz N)<|.cons (store_Store_Start_obd85xok N)<|.nil) (fun a=>by kernel_rfl)
def drayagelaw07xFew_sp (N:Nat):TSp:=⟨[.st 10],[cb],fun a=>zdN N a.1⟩
theorem drayagelaw07xFew_ok (N:Nat):zbe Tryz.prog 43 (drayagelaw07xFew_sp N):=tg [] [(58,⟨[.r 26 ci],[],[],[]⟩),(122,⟨[.r 37 ci],[],[],[]⟩)] [] N (.nil) (.nil) (fun a=>by kernel_rfl)
def drayagelaw17xFew_sp (N:Nat):TSp:=⟨[.c (.sl 5)],[cb],fun a=>zdS N a.1⟩
theorem drayagelaw17xFew_ok (N:Nat):zbe Tryz.prog 44 (drayagelaw17xFew_sp N):=tg [] [(58,⟨[.r 10 ci],[],[],[]⟩)] [] N (.nil) (.nil) (fun a=>by kernel_rfl)
def drayagelaw23xFew_sp (N:Nat):TSp:=⟨[.st 10,.st 14],[cb],fun a=>zdQ N a.1 a.2.1⟩
theorem drayagelaw23xFew_ok (N:Nat):zbe Tryz.prog 8 (drayagelaw23xFew_sp N):=tg [] [(6,⟨[.r 40 cb],[],[],[]⟩),(58,⟨[.r 44 ci],[],[],[]⟩)] [] N (.cons (drayagelaw07xFew_ok N)<|.cons (drayagelaw17xFew_ok N)<|.nil) (.nil) (fun a=>by kernel_rfl)
def store_within_sp (N:Nat):TSp:=⟨[ci,ci,ci],[cb],fun a=>zcv N a.1 a.2.1 a.2.2.1⟩
theorem store_within_ok (N:Nat):zbe Tryz.prog 230 (store_within_sp N):=tg [] [] [] N (.nil) (.nil) (fun a=>by kernel_rfl)
def store_numbers_sp (N:Nat):TSp:=⟨[.st 10,.st 14],[cb],fun a=>store_numbers N a.1 a.2.1⟩
theorem store_numbers_ok (N:Nat):zbe Tryz.prog 172 (store_numbers_sp N):=tg [] [] [] N (.cons (store_within_ok N)<|.nil) (.nil) (fun a=>by kernel_rfl)
def store_extra_sp (N:Nat):TSp:=⟨[ci],[ci],fun a=>store_extra N a.1⟩
theorem store_extra_ok (N:Nat):zbe Tryz.prog 231 (store_extra_sp N):=tg [] [] [] N (.cons (zb7 N)<|.nil) (.nil) (fun a=>by kernel_rfl)
def store_jobs_sp (N:Nat):TSp:=⟨[.st 10,.st 14],[cb],fun a=>store_jobs N a.1 a.2.1⟩
theorem store_jobs_ok (N:Nat):zbe Tryz.prog 173 (store_jobs_sp N):=tg [] [(122,⟨[.r 5 ci,.r 17 ci],[],[],[]⟩),(62671,⟨[.r 72 cb],[],[],[]⟩)] [] N (.cons (zdd N)<|.cons (store_extra_ok N)<|.nil) (.nil) (fun a=>by kernel_rfl)
def vec_Count_sp (N:Nat):TSp:=⟨[.st 0,.st 0],[ci],fun a=>vec_Count N a.1 a.2.1⟩
theorem vec_Count_ok (N:Nat):zbe Tryz.prog 298 (vec_Count_sp N):=tg [] [(6,⟨[.r 21 cb],[],[],[]⟩),(250,⟨[.r 5 ci,.r 26 ci],[],[],[]⟩),(2003,⟨[.r 5 ci],[],[],[]⟩)] [] N (.cons (vec_numbers_ok N)<|.cons (zb5 N)<|.nil) (.nil) (fun a=>by kernel_rfl)
def spec_Room_sp (N:Nat):TSp:=⟨[.st 10,ci,.st 0],[ci],fun a=>spec_Room N a.1 a.2.1 a.2.2.1⟩
theorem spec_Room_ok (N:Nat):zbe Tryz.prog 272 (spec_Room_sp N):=tg [] [(122,⟨[.r 7 ci,.r 30 ci],[],[],[]⟩)] [] N (.cons (spec_Right_ok N)<|.cons (vec_Count_ok N)<|.nil) (.nil) (fun a=>by kernel_rfl)
def spec_Fits_sp (N:Nat):TSp:=⟨[.st 10,ci,ci,.st 0],[cb],fun a=>spec_Fits N a.1 a.2.1 a.2.2.1 a.2.2.2.1⟩
theorem spec_Fits_ok (N:Nat):zbe Tryz.prog 232 (spec_Fits_sp N):=tg [] [] [] N (.cons (spec_Right_ok N)<|.cons (spec_Room_ok N)<|.nil) (.nil) (fun a=>by kernel_rfl)
def store_find_1xsp (N:Nat):TSp:=⟨[.st 5,ci],[ci],fun a=>store_find_1 N a.1 a.2.1⟩
theorem store_find_1xok (N:Nat):zbe Tryz.prog 274 (store_find_1xsp N):=tg [] [] [] N (.nil) (.nil) (fun a=>by kernel_rfl)
def zbu (N:Nat):TSp:=⟨[.c (.sl 5),ci,.k 274],[ci,cb],fun a=>zas N a.1 a.2.1⟩
theorem zbv (N:Nat):zbe Tryz.prog 273 (zbu N):=tg [] [(60,⟨[.r 9 ci,.r 10 ci],[],[],[]⟩)] [] N (.cons (store_find_1xok N)<|.nil) (.nil) (fun a=>by kernel_rfl)
def store_find_sp (N:Nat):TSp:=⟨[.c (.sl 5),ci],[ci,cb],fun a=>store_find N a.1 a.2.1⟩
theorem store_find_ok (N:Nat):zbe Tryz.prog 233 (store_find_sp N):=tg [] [] [] N (.cons (zbv N)<|.nil) (.nil) (fun a=>by kernel_rfl)
def store_waiting_sp (N:Nat):TSp:=⟨[.st 10,.st 14],[cb],fun a=>store_waiting N a.1 a.2.1⟩
theorem store_waiting_ok (N:Nat):zbe Tryz.prog 174 (store_waiting_sp N):=tg [] [(26,⟨[.r 14 ci],[],[],[]⟩),(211,⟨[],[],[],[]⟩),(27038,⟨[.r 33 ci],[],[],[]⟩)] [] N (.cons (zb7 N)<|.cons (spec_Fits_ok N)<|.cons (store_find_ok N)<|.nil) (.nil) (fun a=>by kernel_rfl)
def ledger_Ledger_change_o8350xsp (N:Nat):OSp:=⟨.mk [.p (.pt 0 0 2),.v (.st 7),.p (.k (.c (.fn (.func 131) [] [])))] [] [.cells [xl 0,.mr 1],.mp 7 true] [] [] [],[.mk [.v (.c (.sl 0)),.v ci] [] [] [] [(58,⟨[.r 21 ci,.w 3 0],[(8,3)],[],[]⟩)] [(393233,[.mk [.p (.hd 3)] [] [.row 0] [(1000000,0)] [] []])]],fun (_,a1,a2)=>zaY N a1 a2⟩
theorem ledger_Ledger_change_o8350xok (N:Nat):zaU Tryz.prog 126 (ledger_Ledger_change_o8350xsp N):=og (g:=126) N (.cons (vec_Times_ok N)<|.cons (vec_Sub_ok N)<|.nil) (.cons (za4 N)<|.nil) (by kernel_rfl) (fun x=>by kernel_rfl)
def ledger_Ledger_Take_o6c47xsp (N:Nat):OSp:=⟨.mk [.p (.pt 0 0 2),.v (.st 7)] [] [.cells [xl 0,.mr 1],.mp 7 true] [] [] [],[.mk [.v ci] [.h 0 0 (xl 0),.m 1 7 true] [] [] [(14,⟨[.r 41 cb],[],[],[]⟩)] [(4063288,[.mk [.v (.c (.sl 0)),.v ci] [] [] [(1000000,0)] [] []])]],fun (a0,a1,a2)=>zaw N a0 a1 a2⟩
theorem zc9 (N:Nat):zaU Tryz.prog 63 (ledger_Ledger_Take_o6c47xsp N):=og (g:=63) N (.cons (ledger_own_ok N)<|.cons (place_Right_ok N)<|.cons (zb5 N)<|.nil) (.cons (ledger_Ledger_change_o8350xok N)<|.nil) (by kernel_rfl) (fun x=>by kernel_rfl)
def store_allocations_sp (N:Nat):TSp:=⟨[.st 10,.st 14],[cb],fun a=>zdv N a.1 a.2.1⟩
theorem store_allocations_ok (N:Nat):zbe Tryz.prog 175 (store_allocations_sp N):=tg [] [(250,⟨[.r 7 (.c (.sl 7)),.r 23 ci,.h 2 0 (.sl 0),.m 3 7 true],[],[],[]⟩),(2003,⟨[.r 7 (.c (.sl 7)),.h 2 0 (.sl 0),.m 3 7 true],[],[],[]⟩),(256415,⟨[.r 74 cb,.h 2 0 (.sl 0),.m 3 7 true],[],[],[]⟩)] [(393229,[.mk [.p (.k (.c (.lit (.pointer none)))),.p (.k (.c (.lit (.int .i64 2))))] [] [] [(1000000,0)] [] [],.mk [.p (.pt 2 0 2),.p (.k (.c (.lit (.int .i64 0))))] [] [.cells [xl 0,.mr 3],.mp 7 true] [] [] []]),(33608826952,[.mk [.v ci] [.h 2 0 (xl 0),.m 3 7 true] [] [(1000000,1)] [] []])] N (.cons (life_Has_ok N)<|.cons (store_suits_ok N)<|.nil) (.cons (ledger_New_oe6df_ok N)<|.cons (zc9 N)<|.nil) (fun a=>by kernel_rfl)
def book_whole_sp (N:Nat):TSp:=⟨[.st 8,ci],[cb],fun a=>book_whole N a.1 a.2.1⟩
theorem book_whole_ok (N:Nat):zbe Tryz.prog 138 (book_whole_sp N):=tg [] [] [] N (.nil) (.nil) (fun a=>by kernel_rfl)
def book_Meets_sp (N:Nat):TSp:=⟨[.c (.sl 8),ci,ci,ci],[cb],fun a=>book_Meets N a.1 a.2.1 a.2.2.1 a.2.2.2.1⟩
theorem book_Meets_ok (N:Nat):zbe Tryz.prog 68 (book_Meets_sp N):=tg [] [(26,⟨[.r 13 ci],[],[],[]⟩)] [] N (.nil) (.nil) (fun a=>by kernel_rfl)
def book_Right_sp (N:Nat):TSp:=⟨[.c (.sl 8),ci],[cb],fun a=>book_Right N a.1 a.2.1⟩
theorem book_Right_ok (N:Nat):zbe Tryz.prog 137 (book_Right_sp N):=tg [] [(58,⟨[.r 12 ci],[],[],[]⟩),(3737,⟨[.r 47 cb],[],[],[]⟩)] [] N (.cons (book_whole_ok N)<|.cons (book_Meets_ok N)<|.nil) (.nil) (fun a=>by kernel_rfl)
def store_bookings_sp (N:Nat):TSp:=⟨[.st 10,.st 14],[cb],fun a=>store_bookings N a.1 a.2.1⟩
theorem store_bookings_ok (N:Nat):zbe Tryz.prog 176 (store_bookings_sp N):=tg [] [(58,⟨[.r 23 ci],[],[],[]⟩),(122,⟨[.r 43 ci],[],[],[]⟩),(125342,⟨[.r 60 ci],[],[],[]⟩)] [] N (.cons (book_Right_ok N)<|.cons (store_find_ok N)<|.cons (book_Meets_ok N)<|.nil) (.nil) (fun a=>by kernel_rfl)
def store_usage_sp (N:Nat):TSp:=⟨[.st 10,.st 14],[cb],fun a=>store_usage N a.1 a.2.1⟩
theorem store_usage_ok (N:Nat):zbe Tryz.prog 177 (store_usage_sp N):=tg [] [(6,⟨[.r 18 cb],[],[],[]⟩),(14,⟨[.r 33 cb],[],[],[]⟩),(122,⟨[.r 38 ci],[],[],[]⟩)] [] N (.cons (store_within_ok N)<|.cons (share_Right_ok N)<|.nil) (.nil) (fun a=>by kernel_rfl)
end Go.Abs
end
end
section
set_option maxRecDepth 100000
noncomputable section
namespace Go.Abs
open Go.Proofs
variable [Gl]
def store_Sound_sp (N:Nat):TSp:=⟨[.st 10,.st 14],[cb],fun a=>store_Sound N a.1 a.2.1⟩
theorem store_Sound_ok (N:Nat):zbe Tryz.prog 105 (store_Sound_sp N):=tg [] [] [] N (.cons (spec_Right_ok N)<|.cons (store_numbers_ok N)<|.cons (store_jobs_ok N)<|.cons (store_waiting_ok N)<|.cons (store_allocations_ok N)<|.cons (store_bookings_ok N)<|.cons (store_usage_ok N)<|.nil) (.nil) (fun a=>by kernel_rfl)
def table_Table_Put_o32b6xsp (N:Nat):OSp:=⟨.mk [.p (.pt 0 0 2),.v (.st 5)] [] [.cells [xi,.hd 1],.row 5] [] [] [],[.mk [.v ci] [.h 0 1 (.hd 1),.w 1 5] [] [(38,5)] [] [(1966096,[.mk [.v ci,.v cb] [] [] [(1000000,0)] [] []]),(16646183,[.mk [.p (.hd 1)] [.w 1 5] [] [(1000000,1)] [] []])]],fun (a0,a1,a2)=>zb8 N a0 a1 a2⟩
theorem table_Table_Put_o32b6xok (N:Nat):zaU Tryz.prog 54 (table_Table_Put_o32b6xsp N):=og (g:=54) N (.cons (zdd N)<|.cons (zd3 N)<|.nil) (.cons (zbB N)<|.cons (zbD N)<|.nil) (by kernel_rfl) (fun x=>by kernel_rfl)
def zct (N:Nat):OSp:=⟨.mk [.v (.c (.sl 8))] [] [] [] [] [],[.mk [.p (.hd 0)] [] [.row 8] [] [] []],fun x=>zaR N x⟩
theorem zcu (N:Nat):zaU Tryz.prog 86 (zct N):=clone_own (i:=8) (sz:=32) (z:=[.c (.lit (.int .i64 0)),.c (.lit (.int .i64 0)),.c (.lit (.int .i64 0)),.c (.lit (.int .i64 0))]) (fn:=Tryz.f86) mix (by kernel_rfl) (by kernel_rfl) (by kernel_rfl) rfl
def slices_Clone_Lint_int_own_sp (N:Nat):OSp:=⟨.mk [.v (.c (.sl 1))] [] [] [] [] [],[.mk [.p (.hd 0)] [] [.row 1] [] [] []],fun x=>za3 N x⟩
theorem slices_Clone_Lint_int_own_ok (N:Nat):zaU Tryz.prog 73 (slices_Clone_Lint_int_own_sp N):=clone_own (i:=1) (sz:=8) (z:=[.c (.lit (.int .i64 0))]) (fn:=Tryz.f73) mix (by kernel_rfl) (by kernel_rfl) (by kernel_rfl) rfl
def store_Of_ob442xsp (N:Nat):OSp:=⟨.mk [.v (.st 10),.v (.st 14)] [] [] [] [] [],[.mk [.p (.k (.c (.lit (.pointer none)))),.v ci] [] [] [] [(250,⟨[.r 29 ci,.w 7 5],[],[(1051649,5)],[(3,1,7)]⟩),(506,⟨[.r 46 ci,.h 4 0 (.sl 0),.m 6 7 true],[],[],[]⟩)] [(917524,[.mk [.p (.k (.c (.lit (.pointer none)))),.p (.k (.c (.lit (.int .i64 2))))] [] [] [(1000000,0)] [] [],.mk [.p (.pt 2 0 27),.p (.k (.c (.lit (.int .i64 0))))] [] [.cells [.pt 3 0 2,.pt 4 0 2,xl 0,xl 2,xl 3,xi,xi,xi,xi,xi,xi,xi,xi,xi,xi,xi,xi,xi,xi,xi,xi,xi,xi,xn,xl 1,.hd 5,xi],.cells [xi,xn],.cells [xl 0,.mr 6],.row 1,.mp 7 true] [] [] []]),(33423438,[.mk [.p (.hd 8)] [] [.row 8] [(1000000,3)] [] []]),(66977876,[.mk [.p (.hd 9)] [] [.row 1] [(1000000,4)] [] []]),(134086747,[.mk [.p (.hd 10)] [] [.row 1] [(1000000,4)] [] []]),(2100428838,[.mk [.v ci] [.h 3 1 (.hd 7),.w 7 5] [] [(1000000,1)] [] []]),(4247912503,[.mk [.v ci] [.h 4 0 (xl 0),.m 6 7 true] [] [(1000000,2)] [] []])],.mk [.p (.pt 0 0 27),.p (.k (.c (.lit (.int .i64 0))))] [] [.cells [.pt 1 0 2,.pt 2 0 2,xl 0,xl 2,xl 3,xi,xi,xi,xi,xi,xi,xi,xi,xi,xi,xi,xi,xi,xi,xi,xi,xi,xi,xl 8,xl 1,.hd 3,xi],.cells [xi,.hd 4],.cells [xl 0,.mr 5],.row 1,.row 5,.mp 7 true] [] [] []],fun (a0,a1)=>zcJ N a0 a1⟩
theorem store_Of_ob442xok (N:Nat):zaU Tryz.prog 45 (store_Of_ob442xsp N):=og (g:=45) N (.cons (store_Sound_ok N)<|.nil) (.cons (store_New_o49f9xok N)<|.cons (table_Table_Put_o32b6xok N)<|.cons (zc9 N)<|.cons (zcu N)<|.cons (slices_Clone_Lint_int_own_ok N)<|.nil) (by kernel_rfl) (fun x=>by kernel_rfl)
def drayageref07xin_sp (N:Nat):TSp:=⟨[ci,ci,ci],[cb],fun a=>zak N a.1 a.2.1 a.2.2.1⟩
theorem zcR (N:Nat):zbe Tryz.prog 234 (drayageref07xin_sp N):=tg [] [] [] N (.nil) (.nil) (fun a=>by kernel_rfl)
def drayageref02xright_sp (N:Nat):TSp:=⟨[ci],[cb],fun a=>zbH N a.1⟩
theorem drayageref02xright_ok (N:Nat):zbe Tryz.prog 238 (drayageref02xright_sp N):=tg [] [] [] N (.nil) (.nil) (fun a=>by kernel_rfl)
def drayageref02xRight_sp (N:Nat):TSp:=⟨[.st 0],[cb],fun a=>zaL N a.1⟩
theorem zca (N:Nat):zbe Tryz.prog 180 (drayageref02xRight_sp N):=tg [] [] [] N (.cons (drayageref02xright_ok N)<|.nil) (.nil) (fun a=>by kernel_rfl)
def drayageref07xnodes_sp (N:Nat):TSp:=⟨[.st 10],[cb],fun a=>zcg N a.1⟩
theorem drayageref07xnodes_ok (N:Nat):zbe Tryz.prog 235 (drayageref07xnodes_sp N):=tg [] [(26,⟨[.r 3 ci],[],[],[]⟩)] [] N (.cons (zca N)<|.cons (zcR N)<|.nil) (.nil) (fun a=>by kernel_rfl)
def drayageref07xRising_sp (N:Nat):TSp:=⟨[.c (.sl 1),ci],[cb],fun a=>zbZ N a.1 a.2.1⟩
theorem drayageref07xRising_ok (N:Nat):zbe Tryz.prog 275 (drayageref07xRising_sp N):=tg [] [(26,⟨[.r 5 ci],[],[],[]⟩),(420,⟨[.r 40 cb],[],[],[]⟩)] [] N (.nil) (.nil) (fun a=>by kernel_rfl)
def drayageref07xparts_sp (N:Nat):TSp:=⟨[.st 10],[cb],fun a=>zce N a.1⟩
theorem drayageref07xparts_ok (N:Nat):zbe Tryz.prog 236 (drayageref07xparts_sp N):=tg [] [(26,⟨[.r 3 ci],[],[],[]⟩),(420,⟨[.r 29 cb],[],[],[]⟩)] [] N (.cons (drayageref07xRising_ok N)<|.cons (zcR N)<|.nil) (.nil) (fun a=>by kernel_rfl)
def drayageref07xqueues_sp (N:Nat):TSp:=⟨[.st 10],[cb],fun a=>zbV N a.1⟩
theorem drayageref07xqueues_ok (N:Nat):zbe Tryz.prog 237 (drayageref07xqueues_sp N):=tg [] [(26,⟨[.r 3 ci],[],[],[]⟩),(841,⟨[.r 59 cb],[],[],[]⟩)] [] N (.cons (drayageref07xRising_ok N)<|.cons (zcR N)<|.nil) (.nil) (fun a=>by kernel_rfl)
def drayageref07xFlaw_sp (N:Nat):TSp:=⟨[.st 10],[.c .str],fun a=>drayageref07xFlaw N a.1⟩
theorem drayageref07xFlaw_ok (N:Nat):zbe Tryz.prog 178 (drayageref07xFlaw_sp N):=tg [(28,15),(69,16)] [(7,⟨[.r 4 cb],[],[],[]⟩),(506,⟨[.r 7 ci],[],[],[]⟩)] [] N (.cons (drayageref07xnodes_ok N)<|.cons (drayageref07xparts_ok N)<|.cons (zcR N)<|.cons (drayageref07xqueues_ok N)<|.nil) (.nil) (fun a=>by kernel_rfl)
def drayageref07xRight_sp (N:Nat):TSp:=⟨[.st 10],[cb],fun a=>zb9 N a.1⟩
theorem drayageref07xRight_ok (N:Nat):zbe Tryz.prog 106 (drayageref07xRight_sp N):=tg [] [] [] N (.cons (drayageref07xFlaw_ok N)<|.nil) (.nil) (fun a=>by kernel_rfl)
def drayageref05xRight_sp (N:Nat):TSp:=⟨[ci],[cb],fun a=>za1 N a.1⟩
theorem drayageref05xRight_ok (N:Nat):zbe Tryz.prog 107 (drayageref05xRight_sp N):=tg [] [] [] N (.nil) (.nil) (fun a=>by kernel_rfl)
def drayageref17xFind_sp (N:Nat):TSp:=⟨[.c (.sl 5),ci],[ci],fun a=>zaA N a.1 a.2.1⟩
theorem zcj (N:Nat):zbe Tryz.prog 30 (drayageref17xFind_sp N):=tg [] [(26,⟨[.r 5 ci],[],[],[]⟩)] [] N (.nil) (.nil) (fun a=>by kernel_rfl)
def drayageref11xRight_sp (N:Nat):TSp:=⟨[.c (.sl 6),ci],[cb],fun a=>zbg N a.1 a.2.1⟩
theorem drayageref11xRight_ok (N:Nat):zbe Tryz.prog 179 (drayageref11xRight_sp N):=tg [] [(26,⟨[.r 5 ci],[],[],[]⟩),(420,⟨[.r 60 cb],[],[],[]⟩)] [] N (.nil) (.nil) (fun a=>by kernel_rfl)
def drayageref11xOn_sp (N:Nat):TSp:=⟨[.c (.sl 6),ci],[ci],fun a=>zdi N a.1 a.2.1⟩
theorem drayageref11xOn_ok (N:Nat):zbe Tryz.prog 225 (drayageref11xOn_sp N):=tg [] [(58,⟨[.r 5 ci,.r 6 ci],[],[],[]⟩),(233,⟨[.r 5 ci],[],[],[]⟩)] [] N (.nil) (.nil) (fun a=>by kernel_rfl)
def drayageref02xAdd_sp (N:Nat):TSp:=⟨[.st 0,.st 0],[.st 0],fun a=>zbK N a.1 a.2.1⟩
theorem zdZ (N:Nat):zbe Tryz.prog 223 (drayageref02xAdd_sp N):=tg [] [] [] N (.nil) (.nil) (fun a=>by kernel_rfl)
def drayageref11xTimes_sp (N:Nat):TSp:=⟨[.st 0,ci],[.st 0],fun a=>zcO N a.1 a.2.1⟩
theorem drayageref11xTimes_ok (N:Nat):zbe Tryz.prog 224 (drayageref11xTimes_sp N):=tg [] [(58,⟨[.r 6 ci,.h 2 0 (.int .i64),.h 2 1 (.int .i64),.h 2 2 (.int .i64),.h 2 3 (.int .i64)],[],[],[]⟩)] [] N (.cons (zdZ N)<|.nil) (.nil) (fun a=>by kernel_rfl)
def drayageref02xFits_sp (N:Nat):TSp:=⟨[.st 0,.st 0],[cb],fun a=>zaB N a.1 a.2.1⟩
theorem zdB (N:Nat):zbe Tryz.prog 163 (drayageref02xFits_sp N):=tg [] [] [] N (.nil) (.nil) (fun a=>by kernel_rfl)
def drayageref02xSub_sp (N:Nat):TSp:=⟨[.st 0,.st 0],[.st 0],fun a=>drayageref02xSub N a.1 a.2.1⟩
theorem drayageref02xSub_ok (N:Nat):zbe Tryz.prog 164 (drayageref02xSub_sp N):=tg [] [] [] N (.nil) (.nil) (fun a=>by kernel_rfl)
def drayageref14xLeft_sp (N:Nat):TSp:=⟨[.c (.sl 0),.c (.sl 7)],[.c (.sl 0),cb],fun a=>zdp N a.1 a.2.1⟩
theorem drayageref14xLeft_ok (N:Nat):zbe Tryz.prog 181 (drayageref14xLeft_sp N):=tg [(55,0)] [(122,⟨[.r 7 cb,.r 8 ci,.w 0 0],[(6,0)],[(6,0)],[]⟩),(7827,⟨[.r 7 cb],[],[],[]⟩),(31306,⟨[.r 10 ci,.h 1 0 (.int .i64),.h 1 1 (.int .i64),.h 1 2 (.int .i64),.h 1 3 (.int .i64)],[],[],[]⟩)] [] N (.cons (drayageref11xOn_ok N)<|.cons (drayageref11xTimes_ok N)<|.cons (zdZ N)<|.cons (drayageref02xSub_ok N)<|.cons (zdB N)<|.nil) (.nil) (fun a=>by kernel_rfl)
def drayageref23xallocs_sp (N:Nat):TSp:=⟨[.st 10,.st 14],[cb],fun a=>zcC N a.1 a.2.1⟩
theorem drayageref23xallocs_ok (N:Nat):zbe Tryz.prog 108 (drayageref23xallocs_sp N):=tg [] [(26,⟨[.r 5 ci],[],[],[]⟩),(841,⟨[.r 57 cb],[],[],[]⟩)] [] N (.cons (zcj N)<|.cons (drayageref11xRight_ok N)<|.cons (zca N)<|.cons (drayageref14xLeft_ok N)<|.nil) (.nil) (fun a=>by kernel_rfl)
def drayageref23xTaken_sp (N:Nat):TSp:=⟨[.st 14,ci,ci],[cb],fun a=>zcS N a.1 a.2.1 a.2.2.1⟩
theorem drayageref23xTaken_ok (N:Nat):zbe Tryz.prog 182 (drayageref23xTaken_sp N):=tg [] [(26,⟨[.r 7 ci],[],[],[]⟩),(841,⟨[.r 54 cb],[],[],[]⟩)] [] N (.cons (zcj N)<|.cons (drayageref11xOn_ok N)<|.nil) (.nil) (fun a=>by kernel_rfl)
def drayageref12xOne_sp (N:Nat):TSp:=⟨[.st 8,ci],[cb],fun a=>zdO N a.1 a.2.1⟩
theorem drayageref12xOne_ok (N:Nat):zbe Tryz.prog 239 (drayageref12xOne_sp N):=tg [] [] [] N (.cons (drayageref05xRight_ok N)<|.nil) (.nil) (fun a=>by kernel_rfl)
def drayageref12xMeets_sp (N:Nat):TSp:=⟨[.c (.sl 8),ci,ci,ci],[cb],fun a=>zcV N a.1 a.2.1 a.2.2.1 a.2.2.2.1⟩
theorem drayageref12xMeets_ok (N:Nat):zbe Tryz.prog 162 (drayageref12xMeets_sp N):=tg [] [(26,⟨[.r 9 ci],[],[],[]⟩)] [] N (.nil) (.nil) (fun a=>by kernel_rfl)
def drayageref12xRight_sp (N:Nat):TSp:=⟨[.c (.sl 8),ci],[cb],fun a=>zcT N a.1 a.2.1⟩
theorem drayageref12xRight_ok (N:Nat):zbe Tryz.prog 183 (drayageref12xRight_sp N):=tg [] [(26,⟨[.r 5 ci],[],[],[]⟩),(3366,⟨[.r 6 ci],[],[],[]⟩),(53860,⟨[.r 58 cb],[],[],[]⟩)] [] N (.cons (drayageref12xOne_ok N)<|.cons (drayageref12xMeets_ok N)<|.nil) (.nil) (fun a=>by kernel_rfl)
def drayageref23xbooks_sp (N:Nat):TSp:=⟨[.st 10,.st 14],[cb],fun a=>zcQ N a.1 a.2.1⟩
theorem drayageref23xbooks_ok (N:Nat):zbe Tryz.prog 109 (drayageref23xbooks_sp N):=tg [] [(26,⟨[.r 5 ci],[],[],[]⟩),(841,⟨[.r 38 cb],[],[],[]⟩)] [] N (.cons (drayageref23xTaken_ok N)<|.cons (drayageref12xRight_ok N)<|.nil) (.nil) (fun a=>by kernel_rfl)
def drayageref23xUse_sp (N:Nat):TSp:=⟨[.c (.sl 1),ci],[cb],fun a=>zdP N a.1 a.2.1⟩
theorem drayageref23xUse_ok (N:Nat):zbe Tryz.prog 110 (drayageref23xUse_sp N):=tg [] [(26,⟨[.r 5 ci],[],[],[]⟩),(420,⟨[.r 23 cb],[],[],[]⟩)] [] N (.nil) (.nil) (fun a=>by kernel_rfl)
def drayageref16xin_sp (N:Nat):TSp:=⟨[ci,ci,ci],[cb],fun a=>zaG N a.1 a.2.1 a.2.2.1⟩
theorem drayageref16xin_ok (N:Nat):zbe Tryz.prog 240 (drayageref16xin_sp N):=tg [] [] [] N (.nil) (.nil) (fun a=>by kernel_rfl)
def drayageref16xRight_sp (N:Nat):TSp:=⟨[.st 5],[cb],fun a=>zcW N a.1⟩
theorem drayageref16xRight_ok (N:Nat):zbe Tryz.prog 184 (drayageref16xRight_sp N):=tg [] [(14,⟨[.r 61 cb],[],[],[]⟩),(26,⟨[.r 3 ci],[],[],[]⟩),(30,⟨[.r 85 cb],[],[],[]⟩),(62,⟨[.r 101 cb],[],[],[]⟩),(126,⟨[.r 119 cb],[],[],[]⟩)] [] N (.cons (drayageref16xin_ok N)<|.cons (zca N)<|.cons (zdB N)<|.nil) (.nil) (fun a=>by kernel_rfl)
def drayageref14xFind_sp (N:Nat):TSp:=⟨[.c (.sl 7),ci],[ci],fun a=>zdr N a.1 a.2.1⟩
theorem drayageref14xFind_ok (N:Nat):zbe Tryz.prog 185 (drayageref14xFind_sp N):=tg [] [(26,⟨[.r 5 ci],[],[],[]⟩)] [] N (.nil) (.nil) (fun a=>by kernel_rfl)
def drayageref23xHas_sp (N:Nat):TSp:=⟨[.st 5],[cb],fun a=>za6 N a.1⟩
theorem drayageref23xHas_ok (N:Nat):zbe Tryz.prog 33 (drayageref23xHas_sp N):=tg [] [] [] N (.nil) (.nil) (fun a=>by kernel_rfl)
def drayageref02xCount_sp (N:Nat):TSp:=⟨[.st 0,.st 0],[ci],fun a=>zcf N a.1 a.2.1⟩
theorem drayageref02xCount_ok (N:Nat):zbe Tryz.prog 261 (drayageref02xCount_sp N):=tg [] [(6,⟨[.r 19 cb],[],[],[]⟩),(124,⟨[.r 5 ci,.h 2 0 (.int .i64),.h 2 1 (.int .i64),.h 2 2 (.int .i64),.h 2 3 (.int .i64)],[],[],[]⟩),(496,⟨[.r 27 cb],[],[],[]⟩)] [] N (.cons (zdZ N)<|.cons (zdB N)<|.cons (zca N)<|.nil) (.nil) (fun a=>by kernel_rfl)
def drayageref07xRoom_sp (N:Nat):TSp:=⟨[.st 10,ci,.st 0],[ci],fun a=>drayageref07xRoom N a.1 a.2.1 a.2.2.1⟩
theorem drayageref07xRoom_ok (N:Nat):zbe Tryz.prog 241 (drayageref07xRoom_sp N):=tg [] [(122,⟨[.r 7 ci,.r 8 ci],[],[],[]⟩)] [] N (.cons (drayageref02xCount_ok N)<|.nil) (.nil) (fun a=>by kernel_rfl)
def drayageref07xFits_sp (N:Nat):TSp:=⟨[.st 10,ci,ci,.st 0],[cb],fun a=>zcm N a.1 a.2.1 a.2.2.1 a.2.2.2.1⟩
theorem drayageref07xFits_ok (N:Nat):zbe Tryz.prog 186 (drayageref07xFits_sp N):=tg [] [] [] N (.cons (drayageref07xRoom_ok N)<|.nil) (.nil) (fun a=>by kernel_rfl)
def drayageref11xTotal_sp (N:Nat):TSp:=⟨[.c (.sl 6)],[ci],fun a=>zcU N a.1⟩
theorem drayageref11xTotal_ok (N:Nat):zbe Tryz.prog 242 (drayageref11xTotal_sp N):=tg [] [(58,⟨[.r 3 ci,.r 4 ci],[],[],[]⟩),(233,⟨[.r 3 ci],[],[],[]⟩)] [] N (.nil) (.nil) (fun a=>by kernel_rfl)
def drayageref01xHas_sp (N:Nat):TSp:=⟨[.c (.sl 1),ci],[cb],fun a=>zdU N a.1 a.2.1⟩
theorem drayageref01xHas_ok (N:Nat):zbe Tryz.prog 243 (drayageref01xHas_sp N):=tg [] [(26,⟨[.r 5 ci],[],[],[]⟩)] [] N (.nil) (.nil) (fun a=>by kernel_rfl)
def drayageref23xMine_sp (N:Nat):TSp:=⟨[.st 10,.st 5,.c (.sl 6)],[cb],fun a=>zds N a.1 a.2.1 a.2.2.1⟩
theorem drayageref23xMine_ok (N:Nat):zbe Tryz.prog 187 (drayageref23xMine_sp N):=tg [] [(6,⟨[.r 34 cb],[],[],[]⟩),(122,⟨[.r 8 ci],[],[],[]⟩)] [] N (.cons (drayageref01xHas_ok N)<|.cons (drayageref11xRight_ok N)<|.cons (drayageref11xTotal_ok N)<|.nil) (.nil) (fun a=>by kernel_rfl)
def drayageref23xjob_sp (N:Nat):TSp:=⟨[.st 10,.st 14,.st 5],[cb],fun a=>zdR N a.1 a.2.1 a.2.2.1⟩
theorem drayageref23xjob_ok (N:Nat):zbe Tryz.prog 111 (drayageref23xjob_sp N):=tg [] [(15,⟨[.r 7 ci],[],[],[]⟩),(31,⟨[.r 7 ci],[],[],[]⟩),(63,⟨[.r 7 ci],[],[],[]⟩),(510,⟨[.r 83 cb],[],[],[]⟩),(8186,⟨[.r 9 ci],[],[],[]⟩)] [] N (.cons (drayageref16xRight_ok N)<|.cons (drayageref14xFind_ok N)<|.cons (zcj N)<|.cons (drayageref07xFits_ok N)<|.cons (drayageref23xHas_ok N)<|.cons (drayageref23xMine_ok N)<|.nil) (.nil) (fun a=>by kernel_rfl)
def drayageref23xSound_sp (N:Nat):TSp:=⟨[.st 10,.st 14],[cb],fun a=>zcb N a.1 a.2.1⟩
theorem drayageref23xSound_ok (N:Nat):zbe Tryz.prog 46 (drayageref23xSound_sp N):=tg [] [(6,⟨[.r 43 cb],[],[],[]⟩),(14,⟨[.r 86 cb],[],[],[]⟩),(122,⟨[.r 5 ci],[],[],[]⟩),(250,⟨[.r 6 ci],[],[],[]⟩),(4004,⟨[.r 138 cb],[],[],[]⟩)] [] N (.cons (drayageref05xRight_ok N)<|.cons (drayageref23xjob_ok N)<|.cons (drayageref23xallocs_ok N)<|.cons (drayageref23xbooks_ok N)<|.cons (drayageref23xUse_ok N)<|.cons (drayageref07xRight_ok N)<|.nil) (.nil) (fun a=>by kernel_rfl)
def drayageref16xSame_sp (N:Nat):TSp:=⟨[.st 5,.st 5],[cb],fun a=>zdm N a.1 a.2.1⟩
theorem drayageref16xSame_ok (N:Nat):zbe Tryz.prog 79 (drayageref16xSame_sp N):=tg [] [(58,⟨[.r 5 ci],[],[],[]⟩)] [] N (.nil) (.nil) (fun a=>by kernel_rfl)
def drayageref18xSame_sp (N:Nat):TSp:=⟨[.c (.sl 5),.c (.sl 5)],[cb],fun a=>zdo N a.1 a.2.1⟩
theorem drayageref18xSame_ok (N:Nat):zbe Tryz.prog 23 (drayageref18xSame_sp N):=tg [] [(58,⟨[.r 5 ci],[],[],[]⟩)] [] N (.cons (drayageref16xSame_ok N)<|.nil) (.nil) (fun a=>by kernel_rfl)
def drayageref11xSame_sp (N:Nat):TSp:=⟨[.c (.sl 6),.c (.sl 6)],[cb],fun a=>zdl N a.1 a.2.1⟩
theorem drayageref11xSame_ok (N:Nat):zbe Tryz.prog 99 (drayageref11xSame_sp N):=tg [] [(58,⟨[.r 5 ci],[],[],[]⟩)] [] N (.nil) (.nil) (fun a=>by kernel_rfl)
def drayageref14xSame_sp (N:Nat):TSp:=⟨[.c (.sl 7),.c (.sl 7)],[cb],fun a=>zdq N a.1 a.2.1⟩
theorem drayageref14xSame_ok (N:Nat):zbe Tryz.prog 83 (drayageref14xSame_sp N):=tg [] [(58,⟨[.r 5 ci],[],[],[]⟩),(932,⟨[.r 54 cb],[],[],[]⟩)] [] N (.cons (drayageref11xSame_ok N)<|.nil) (.nil) (fun a=>by kernel_rfl)
def drayageref12xSame_sp (N:Nat):TSp:=⟨[.c (.sl 8),.c (.sl 8)],[cb],fun a=>zdn N a.1 a.2.1⟩
theorem drayageref12xSame_ok (N:Nat):zbe Tryz.prog 84 (drayageref12xSame_sp N):=tg [] [(58,⟨[.r 5 ci],[],[],[]⟩)] [] N (.nil) (.nil) (fun a=>by kernel_rfl)
def drayageref01xInts_sp (N:Nat):TSp:=⟨[.c (.sl 1),.c (.sl 1)],[cb],fun a=>zco N a.1 a.2.1⟩
theorem drayageref01xInts_ok (N:Nat):zbe Tryz.prog 42 (drayageref01xInts_sp N):=tg [] [(58,⟨[.r 5 ci],[],[],[]⟩)] [] N (.nil) (.nil) (fun a=>by kernel_rfl)
def drayageref23xSame_sp (N:Nat):TSp:=⟨[.st 14,.st 14],[cb],fun a=>za8 N a.1 a.2.1⟩
theorem drayageref23xSame_ok (N:Nat):zbe Tryz.prog 26 (drayageref23xSame_sp N):=tg [] [] [] N (.cons (drayageref18xSame_ok N)<|.cons (drayageref14xSame_ok N)<|.cons (drayageref12xSame_ok N)<|.cons (drayageref01xInts_ok N)<|.nil) (.nil) (fun a=>by kernel_rfl)
def drayagelaw23xOf_o8124xsp (N:Nat):OSp:=⟨.mk [.v (.st 10),.v (.st 14)] [] [] [] [] [],[.mk [.p (.k (.c (.lit (.pointer none)))),.v cb] [] [] [] [] [(393227,[.mk [.p (.k (.c (.lit (.pointer none)))),.v ci] [] [] [(1000000,0)] [] [],.mk [.p (.pt 2 0 27),.p (.k (.c (.lit (.int .i64 0))))] [] [.cells [.pt 3 0 2,.pt 4 0 2,xl 0,xl 2,xl 3,xi,xi,xi,xi,xi,xi,xi,xi,xi,xi,xi,xi,xi,xi,xi,xi,xi,xi,xl 8,xl 1,.hd 5,xi],.cells [xi,.hd 6],.cells [xl 0,.mr 7],.row 1,.row 5,.mp 7 true] [] [] []]),(1966113,[.mk [.v (.st 14)] [] [] [(1000000,1)] [] []])],.mk [.p (.pt 0 0 27),.v cb] [] [.cells [.pt 1 0 2,.pt 2 0 2,xl 0,xl 2,xl 3,xi,xi,xi,xi,xi,xi,xi,xi,xi,xi,xi,xi,xi,xi,xi,xi,xi,xi,xl 8,xl 1,.hd 3,xi],.cells [xi,.hd 4],.cells [xl 0,.mr 5],.row 1,.row 5,.mp 7 true] [] [] []],fun (a0,a1)=>zba N a0 a1⟩
theorem drayagelaw23xOf_o8124xok (N:Nat):zaU Tryz.prog 9 (drayagelaw23xOf_o8124xsp N):=og (g:=9) N (.cons (drayageref23xSound_ok N)<|.cons (drayageref23xSame_ok N)<|.nil) (.cons (store_Of_ob442xok N)<|.cons (zaz N)<|.nil) (by kernel_rfl) (fun x=>by kernel_rfl)
def drayageref23xWaits_sp (N:Nat):TSp:=⟨[.st 5],[cb],fun a=>za0 N a.1⟩
theorem drayageref23xWaits_ok (N:Nat):zbe Tryz.prog 31 (drayageref23xWaits_sp N):=tg [] [] [] N (.nil) (.nil) (fun a=>by kernel_rfl)
def drayageref17xAwaited_sp (N:Nat):TSp:=⟨[ci,.c (.sl 5)],[cb],fun a=>zbN N a.1 a.2.1⟩
theorem drayageref17xAwaited_ok (N:Nat):zbe Tryz.prog 32 (drayageref17xAwaited_sp N):=tg [] [(26,⟨[.r 5 ci],[],[],[]⟩),(1682,⟨[.r 6 ci],[],[],[]⟩),(26916,⟨[.r 49 cb],[],[],[]⟩)] [] N (.nil) (.nil) (fun a=>by kernel_rfl)
def drayagelaw30xClockLast_sp (N:Nat):TSp:=⟨[.st 9,.c (.int .u8)],[cb],fun a=>zcN N a.1 a.2.1⟩
theorem drayagelaw30xClockLast_ok (N:Nat):zbe Tryz.prog 5 (drayagelaw30xClockLast_sp N):=tg [] [(506,⟨[.r 7 ci,.h 1 20 (.int .i64),.h 1 23 (.sl 8),.h 1 24 (.sl 1),.h 1 26 (.int .i64),.h 3 0 (.sl 0),.w 4 1,.m 6 7 true,.w 7 5],[],[],[(1,25,4),(2,1,7)]⟩),(259230,⟨[.r 63 ci],[],[],[]⟩),(2073843,⟨[],[],[],[]⟩),(132725967,⟨[.r 127 cb],[],[],[]⟩),(530903860,⟨[.r 88 cb],[],[],[]⟩)] [(1966107,[.mk [.p (.k (.c (.lit (.pointer none)))),.v cb] [] [] [(1000000,0)] [] [],.mk [.p (.pt 1 0 27),.v cb] [] [.cells [.pt 2 0 2,.pt 3 0 2,xl 0,xl 2,xl 3,xi,xi,xi,xi,xi,xi,xi,xi,xi,xi,xi,xi,xi,xi,xi,xi,xi,xi,xl 8,xl 1,.hd 4,xi],.cells [xi,.hd 5],.cells [xl 0,.mr 6],.row 1,.row 5,.mp 7 true] [] [] []]),(1061683245,[.mk [.v (.st 14)] [] [] [(1000000,1)] [] []]),(4246994991,[.mk [.v ci] [.h 1 20 (xi),.h 1 23 (xl 8),.h 1 24 (xl 1),.h 1 25 (.hd 4),.h 1 26 (xi),.h 2 1 (.hd 7),.h 3 0 (xl 0),.w 4 1,.w 7 5,.m 6 7 true] [] [(1000000,2)] [] [],.mk [.v ci] [.h 1 20 (xi),.h 1 23 (xl 8),.h 1 24 (xl 1),.h 1 25 (.hd 4),.h 1 26 (xi),.h 2 1 (.hd 9),.h 3 0 (xl 0),.w 4 1,.w 7 5,.m 6 7 true] [.row 5] [] [] []]),(4247126075,[.mk [.v (.st 14)] [] [] [(1000000,1)] [] []]),(16988241974,[.mk [.v (.st 14)] [] [] [(1000000,1)] [] []])] N (.cons (drayagelaw30xawake_ok N)<|.cons (drayagelaw23xFew_ok N)<|.cons (drayageref23xSame_ok N)<|.cons (zcj N)<|.cons (drayageref23xWaits_ok N)<|.cons (drayageref17xAwaited_ok N)<|.cons (drayageref23xHas_ok N)<|.nil) (.cons (drayagelaw23xOf_o8124xok N)<|.cons (zaz N)<|.cons (clock_Tick_o5a8e_ok N)<|.nil) (fun a=>by kernel_rfl)
end Go.Abs
end
end
section
end
