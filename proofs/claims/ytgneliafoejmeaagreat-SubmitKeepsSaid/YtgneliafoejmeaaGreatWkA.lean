/- The code computes these functions. -/
import Derived.Test.YtgneliafoejmeaaGreatTyPure
import Derived.Test.YtgneliafoejmeaaGreatProg
import Derived.Test.YtgneliafoejmeaaGreatTyPrim
import Derived.KernelRfl
set_option linter.all false
section
set_option maxRecDepth 100000
noncomputable section
namespace Go.Abs
open Go.Proofs
variable [Gl]
abbrev ci:VCd:=.c (.int .i64)
abbrev cb:VCd:=.c .bool
abbrev xi:CP:=.c (.int .i64)
abbrev xb:CP:=.c .bool
abbrev xl (n:Nat):CP:=.c (.sl n)
abbrev xn:CP:=.k (.c (.lit (.slice none 0 0)))
theorem mix:Tryz.prog.follows .mixedOrders=true:=by kernel_rfl
def KB:InlB:=inlKeys 108 178 1 (fun k=>k)
theorem KB_ok:InlB.ok Tryz.prog KB:=inlKeys_ok Tryz.sortsKeys (fun k=>rfl)
theorem tg {g:Nat} {S:TSs} {s:TSp} (H:List (Nat×Nat)) (J:List (Nat×JH)) (C:List (Nat×List CT)) (N:Nat) (hS:TSsOk Tryz.prog S) {O:OSs} (hO:OSsOk Tryz.prog O) (h:∀a,tG Tryz.prog g S O KB H J C s.ins s.out N a=s.f a):zba Tryz.prog g s:=tG_ok mix hS hO KB_ok h
theorem og {g:Nat} {S:TSs} {O:OSs} {s:OSp} (N:Nat) (hS:TSsOk Tryz.prog S) (hO:OSsOk Tryz.prog O) (he:enterable Tryz.prog g=true) (h:∀x,oG Tryz.prog g S O KB N s x=s.f x):zbf Tryz.prog g s:=oG_ok mix hS hO KB_ok he h
end Go.Abs
end
end
section
set_option maxRecDepth 100000
noncomputable section
namespace Go.Abs
open Go.Proofs
variable [Gl]
def drayageref07xSmall_sp (N:Nat):TSp:=⟨[],[.st 11],fun a=>drayageref07xSmall N⟩
theorem drayageref07xSmall_ok (N:Nat):zba Tryz.prog 43 (drayageref07xSmall_sp N):=clo_ok (P:=Tryz.prog) (g:=43) (out:=[.st 11]) (fun a=>drayageref07xSmall N) mix (by kernel_rfl)
def vec_numbers_sp (N:Nat):TSp:=⟨[.st 0],[.st 12],fun a=>vec_numbers N a.1⟩
theorem vec_numbers_ok (N:Nat):zba Tryz.prog 199 (vec_numbers_sp N):=tg [] [] [] N (.nil) (.nil) (fun a=>by kernel_rfl)
def vec_Right_sp (N:Nat):TSp:=⟨[.st 0],[cb],fun a=>zcg N a.1⟩
theorem zcl (N:Nat):zba Tryz.prog 131 (vec_Right_sp N):=tg [] [(26,⟨[.r 7 ci],[],[],[]⟩)] [] N (.cons (vec_numbers_ok N)<|.nil) (.nil) (fun a=>by kernel_rfl)
def spec_nodesRight_sp (N:Nat):TSp:=⟨[.st 11],[cb],fun a=>spec_nodesRight N a.1⟩
theorem spec_nodesRight_ok (N:Nat):zba Tryz.prog 236 (spec_nodesRight_sp N):=tg [] [(58,⟨[.r 18 ci],[],[],[]⟩)] [] N (.cons (zcl N)<|.nil) (.nil) (fun a=>by kernel_rfl)
def spec_ascending_sp (N:Nat):TSp:=⟨[.c (.sl 1),ci],[cb],fun a=>zdn N a.1 a.2.1⟩
theorem spec_ascending_ok (N:Nat):zba Tryz.prog 270 (spec_ascending_sp N):=tg [] [(58,⟨[.r 5 ci,.r 10 ci],[],[],[]⟩)] [] N (.nil) (.nil) (fun a=>by kernel_rfl)
def spec_partsRight_sp (N:Nat):TSp:=⟨[.st 11],[cb],fun a=>spec_partsRight N a.1⟩
theorem spec_partsRight_ok (N:Nat):zba Tryz.prog 238 (spec_partsRight_sp N):=tg [] [(58,⟨[.r 18 ci],[],[],[]⟩),(3737,⟨[.r 32 cb],[],[],[]⟩)] [] N (.cons (spec_ascending_ok N)<|.nil) (.nil) (fun a=>by kernel_rfl)
def spec_queuesRight_sp (N:Nat):TSp:=⟨[.st 11],[cb],fun a=>zdw N a.1⟩
theorem spec_queuesRight_ok (N:Nat):zba Tryz.prog 241 (spec_queuesRight_sp N):=tg [] [(58,⟨[.r 20 ci],[],[],[]⟩),(7474,⟨[.r 42 cb],[],[],[]⟩),(59802,⟨[.r 50 ci],[],[],[]⟩)] [] N (.cons (spec_ascending_ok N)<|.nil) (.nil) (fun a=>by kernel_rfl)
def spec_weightsRight_sp (N:Nat):TSp:=⟨[.st 13],[cb],fun a=>zc5 N a.1⟩
theorem spec_weightsRight_ok (N:Nat):zba Tryz.prog 243 (spec_weightsRight_sp N):=tg [] [(26,⟨[.r 14 ci],[],[],[]⟩)] [] N (.nil) (.nil) (fun a=>by kernel_rfl)
def spec_Flaw_sp (N:Nat):TSp:=⟨[.st 11],[.c .str],fun a=>spec_Flaw N a.1⟩
theorem spec_Flaw_ok (N:Nat):zba Tryz.prog 148 (spec_Flaw_sp N):=tg [] [(26,⟨[],[],[(1000003,40)],[]⟩)] [(786438,[.mk [] [] [] [(1000002,0),(43,1000001)] [] [(393225,[.mk [] [] [] [(1000002,0)] [] []]),(393232,[.mk [] [] [] [(1000002,0)] [] []]),(393237,[.mk [] [] [] [(1000002,0)] [] []]),(393240,[.mk [] [] [] [(1000002,0)] [] []]),(393243,[.mk [] [] [] [(1000002,0)] [] []]),(393246,[.mk [] [] [] [(1000002,0)] [] []]),(393249,[.mk [] [] [] [(1000002,0)] [] []]),(393252,[.mk [] [] [] [(1000002,0)] [] []]),(393255,[.mk [] [] [] [(1000002,0)] [] []]),(393258,[.mk [] [] [] [(1000002,0)] [] []])]]),(221380622,[.mk [.v cb] [] [] [] [] []])] N (.cons (spec_nodesRight_ok N)<|.cons (spec_partsRight_ok N)<|.cons (spec_queuesRight_ok N)<|.cons (spec_weightsRight_ok N)<|.nil) (.nil) (fun a=>by kernel_rfl)
def spec_Right_sp (N:Nat):TSp:=⟨[.st 11],[cb],fun a=>zbU N a.1⟩
theorem zcq (N:Nat):zba Tryz.prog 92 (spec_Right_sp N):=tg [] [] [] N (.cons (spec_Flaw_ok N)<|.nil) (.nil) (fun a=>by kernel_rfl)
def table_New_of79d_sp (N:Nat):OSp:=⟨.mk [.v ci] [] [] [] [] [],[.mk [.p (.k (.c (.lit (.pointer none)))),.p (.k (.c (.lit (.int .i64 2))))] [] [] [] [] [],.mk [.p (.pt 0 0 2),.p (.k (.c (.lit (.int .i64 0))))] [] [.cells [xi,xn]] [] [] []],fun a0=>table_New_of79d N a0⟩
theorem table_New_of79d_ok (N:Nat):zbf Tryz.prog 93 (table_New_of79d_sp N):=og (g:=93) N (.nil) (.nil) (by kernel_rfl) (fun x=>by kernel_rfl)
def slices_Clone_Lapi_Res_api_Res_sp (N:Nat):TSp:=⟨[.c (.sl 0)],[.c (.sl 0)],fun a=>zaC N a.1⟩
theorem zb7 (N:Nat):zba Tryz.prog 127 (slices_Clone_Lapi_Res_api_Res_sp N):=clone_ok (i:=0) (sz:=32) (z:=[.c (.lit (.int .i64 0)),.c (.lit (.int .i64 0)),.c (.lit (.int .i64 0)),.c (.lit (.int .i64 0))]) (fn:=Tryz.f127) mix (by kernel_rfl) (by kernel_rfl) (by kernel_rfl) rfl
def ledger_New_oe6df_sp (N:Nat):OSp:=⟨.mk [.v (.st 11)] [] [] [] [] [],[.mk [.p (.k (.c (.lit (.pointer none)))),.p (.k (.c (.lit (.int .i64 2))))] [] [] [(10,15)] [] [],.mk [.p (.pt 0 0 2),.p (.k (.c (.lit (.int .i64 0))))] [] [.cells [xl 0,.mr 1],.mp 7 true] [] [] []],fun a0=>zcu N a0⟩
theorem ledger_New_oe6df_ok (N:Nat):zbf Tryz.prog 94 (ledger_New_oe6df_sp N):=og (g:=94) N (.cons (zcq N)<|.cons (zb7 N)<|.nil) (.nil) (by kernel_rfl) (fun x=>by kernel_rfl)
def slices_Clone_LLint_Lint_own_sp (N:Nat):OSp:=⟨.mk [.v (.c (.sl 2))] [] [] [] [] [],[.mk [.p (.hd 0)] [] [.row 2] [] [] []],fun x=>zbL N x⟩
theorem slices_Clone_LLint_Lint_own_ok (N:Nat):zbf Tryz.prog 149 (slices_Clone_LLint_Lint_own_sp N):=clone_own (i:=2) (sz:=24) (z:=[.c (.lit (.slice none 0 0))]) (fn:=Tryz.f149) mix (by kernel_rfl) (by kernel_rfl) (by kernel_rfl) rfl
def slices_Clone_Lint_int_sp (N:Nat):TSp:=⟨[.c (.sl 1)],[.c (.sl 1)],fun a=>zaB N a.1⟩
theorem zbv (N:Nat):zba Tryz.prog 54 (slices_Clone_Lint_int_sp N):=clone_ok (i:=1) (sz:=8) (z:=[.c (.lit (.int .i64 0))]) (fn:=Tryz.f54) mix (by kernel_rfl) (by kernel_rfl) (by kernel_rfl) rfl
def zcN (N:Nat):OSp:=⟨.mk [.v (.c (.sl 3))] [] [] [] [] [],[.mk [.p (.hd 0)] [] [.row 3] [] [] []],fun x=>zaW N x⟩
theorem zcM (N:Nat):zbf Tryz.prog 150 (zcN N):=clone_own (i:=3) (sz:=64) (z:=[.c (.lit (.int .i64 0)),.c (.lit (.slice none 0 0)),.c (.lit (.int .i64 0)),.c (.lit (.int .i64 0)),.c (.lit (.int .i64 0)),.c (.lit (.int .i64 0))]) (fn:=Tryz.f150) mix (by kernel_rfl) (by kernel_rfl) (by kernel_rfl) rfl
def store_copySpec_sp (N:Nat):TSp:=⟨[.st 11],[.st 11],fun a=>zcy N a.1⟩
theorem zc6 (N:Nat):zba Tryz.prog 95 (store_copySpec_sp N):=tg [] [(122,⟨[.r 16 ci,.w 2 2],[],[],[(0,1,2)]⟩),(506,⟨[.r 37 ci,.w 3 3],[],[],[(0,2,3)]⟩)] [(917515,[.mk [.p (.hd 2)] [] [.row 2] [(1000000,0)] [] []]),(4063264,[.mk [.p (.hd 3)] [] [.row 3] [(1000000,1)] [] []])] N (.cons (zb7 N)<|.cons (zbv N)<|.nil) (.cons (slices_Clone_LLint_Lint_own_ok N)<|.cons (zcM N)<|.nil) (fun a=>by kernel_rfl)
def nat_Hold_int_sp (N:Nat):TSp:=⟨[ci,ci,ci],[ci],fun a=>zdG N a.1 a.2.1 a.2.2.1⟩
theorem nat_Hold_int_ok (N:Nat):zba Tryz.prog 151 (nat_Hold_int_sp N):=tg [] [] [] N (.nil) (.nil) (fun a=>by kernel_rfl)
def share_New_sp (N:Nat):TSp:=⟨[ci],[.c (.sl 1)],fun a=>share_New N a.1⟩
theorem share_New_ok (N:Nat):zba Tryz.prog 96 (share_New_sp N):=tg [(5,1)] [] [] N (.cons (nat_Hold_int_ok N)<|.nil) (.nil) (fun a=>by kernel_rfl)
def store_New_o49f9xsp (N:Nat):OSp:=⟨.mk [.v (.st 11)] [] [] [] [] [],[.mk [.p (.k (.c (.lit (.pointer none)))),.p (.k (.c (.lit (.int .i64 2))))] [] [] [(37,1)] [] [(917517,[.mk [.p (.k (.c (.lit (.pointer none)))),.p (.k (.c (.lit (.int .i64 2))))] [] [] [(1000000,0)] [] [],.mk [.p (.pt 1 0 2),.p (.k (.c (.lit (.int .i64 0))))] [] [.cells [xi,xn]] [] [] []]),(4063253,[.mk [.p (.k (.c (.lit (.pointer none)))),.p (.k (.c (.lit (.int .i64 2))))] [] [] [(1000000,1)] [] [],.mk [.p (.pt 2 0 2),.p (.k (.c (.lit (.int .i64 0))))] [] [.cells [xl 0,.mr 3],.mp 7 true] [] [] []])],.mk [.p (.pt 0 0 27),.p (.k (.c (.lit (.int .i64 0))))] [] [.cells [.pt 1 0 2,.pt 2 0 2,xl 0,xl 2,xl 3,xi,xi,xi,xi,xi,xi,xi,xi,xi,xi,xi,xi,xi,xi,xi,xi,xi,xi,xn,xl 1,.hd 3,xi],.cells [xi,xn],.cells [xl 0,.mr 4],.row 1,.mp 7 true] [] [] []],fun a0=>zc0 N a0⟩
theorem store_New_o49f9xok (N:Nat):zbf Tryz.prog 42 (store_New_o49f9xsp N):=og (g:=42) N (.cons (zcq N)<|.cons (zc6 N)<|.cons (share_New_ok N)<|.nil) (.cons (table_New_of79d_ok N)<|.cons (ledger_New_oe6df_ok N)<|.nil) (by kernel_rfl) (fun x=>by kernel_rfl)
def submit_Check_odbc5xsp (N:Nat):OSp:=⟨.mk [.p (.k (.c (.lit (.pointer none)))),.v ci,.v (.st 15)] [] [] [] [] [],[.mk [.v ci] [] [] [] [] []],fun x=>submit_Check_odbc5 N⟩
theorem submit_Check_odbc5xok (N:Nat):zbf Tryz.prog 48 (submit_Check_odbc5xsp N):=og (g:=48) N (.nil) (.nil) (by kernel_rfl) (fun x=>by kernel_rfl)
def reply_Refusal_sp (N:Nat):TSp:=⟨[ci,ci],[.st 16],fun a=>zaS N a.1 a.2.1⟩
theorem zdu (N:Nat):zba Tryz.prog 49 (reply_Refusal_sp N):=tg [] [] [] N (.nil) (.nil) (fun a=>by kernel_rfl)
def store_Store_State_o9e3c_sp (N:Nat):OSp:=⟨.mk [.p (.k (.c (.lit (.pointer none))))] [] [] [] [] [],[.mk [.v (.st 17)] [] [] [] [] []],fun x=>store_Store_State_o9e3c N⟩
theorem store_Store_State_o9e3c_ok (N:Nat):zbf Tryz.prog 13 (store_Store_State_o9e3c_sp N):=og (g:=13) N (.nil) (.nil) (by kernel_rfl) (fun x=>by kernel_rfl)
def job_within_sp (N:Nat):TSp:=⟨[ci,ci,ci],[cb],fun a=>zbu N a.1 a.2.1 a.2.2.1⟩
theorem job_within_ok (N:Nat):zba Tryz.prog 130 (job_within_sp N):=tg [] [] [] N (.nil) (.nil) (fun a=>by kernel_rfl)
def job_afterRight_sp (N:Nat):TSp:=⟨[.st 5],[cb],fun a=>job_afterRight N a.1⟩
theorem job_afterRight_ok (N:Nat):zba Tryz.prog 132 (job_afterRight_sp N):=tg [] [(58,⟨[.r 12 ci],[],[],[]⟩)] [] N (.cons (job_within_ok N)<|.nil) (.nil) (fun a=>by kernel_rfl)
def life_Name_sp (N:Nat):TSp:=⟨[ci],[.c .str],fun a=>life_Name N a.1⟩
theorem life_Name_ok (N:Nat):zba Tryz.prog 200 (life_Name_sp N):=tg [] [] [] N (.nil) (.nil) (fun a=>by kernel_rfl)
def life_Waits_sp (N:Nat):TSp:=⟨[ci],[cb],fun a=>life_Waits N a.1⟩
theorem life_Waits_ok (N:Nat):zba Tryz.prog 182 (life_Waits_sp N):=tg [] [] [] N (.nil) (.nil) (fun a=>by kernel_rfl)
def life_Over_sp (N:Nat):TSp:=⟨[ci],[cb],fun a=>life_Over N a.1⟩
theorem life_Over_ok (N:Nat):zba Tryz.prog 83 (life_Over_sp N):=tg [] [] [] N (.nil) (.nil) (fun a=>by kernel_rfl)
def job_stateRight_sp (N:Nat):TSp:=⟨[.st 5],[cb],fun a=>job_stateRight N a.1⟩
theorem job_stateRight_ok (N:Nat):zba Tryz.prog 133 (job_stateRight_sp N):=tg [] [(51,⟨[.r 8 cb],[],[],[]⟩),(207,⟨[.r 17 cb],[],[],[]⟩)] [] N (.cons (life_Name_ok N)<|.cons (life_Over_ok N)<|.cons (life_Waits_ok N)<|.nil) (.nil) (fun a=>by kernel_rfl)
def job_Right_sp (N:Nat):TSp:=⟨[.st 5],[cb],fun a=>job_Right N a.1⟩
theorem job_Right_ok (N:Nat):zba Tryz.prog 73 (job_Right_sp N):=tg [] [] [] N (.cons (job_within_ok N)<|.cons (zcl N)<|.cons (job_afterRight_ok N)<|.cons (job_stateRight_ok N)<|.nil) (.nil) (fun a=>by kernel_rfl)
def slices_Clone_Lapi_Dep_api_Dep_sp (N:Nat):TSp:=⟨[.c (.sl 4)],[.c (.sl 4)],fun a=>zaD N a.1⟩
theorem zb8 (N:Nat):zba Tryz.prog 105 (slices_Clone_Lapi_Dep_api_Dep_sp N):=clone_ok (i:=4) (sz:=16) (z:=[.c (.lit (.int .i64 0)),.c (.lit (.bool false))]) (fn:=Tryz.f105) mix (by kernel_rfl) (by kernel_rfl) (by kernel_rfl) rfl
def job_New_sp (N:Nat):TSp:=⟨[ci,ci,ci,.st 15],[.st 5,ci],fun a=>job_New N a.1 a.2.1 a.2.2.1 a.2.2.2.1⟩
theorem job_New_ok (N:Nat):zba Tryz.prog 50 (job_New_sp N):=tg [] [] [] N (.cons (job_Right_ok N)<|.cons (zb8 N)<|.nil) (.nil) (fun a=>by kernel_rfl)
def store_Store_Put_oe980xsp (N:Nat):OSp:=⟨.mk [.p (.k (.c (.lit (.pointer none)))),.v (.st 5)] [] [] [] [] [],[.mk [.v ci] [] [] [] [] []],fun x=>store_Store_Put_oe980 N⟩
theorem store_Store_Put_oe980xok (N:Nat):zbf Tryz.prog 34 (store_Store_Put_oe980xsp N):=og (g:=34) N (.nil) (.nil) (by kernel_rfl) (fun x=>by kernel_rfl)
def submit_Do_o8acf_sp (N:Nat):OSp:=⟨.mk [.p (.k (.c (.lit (.pointer none)))),.v ci,.v (.st 15)] [] [] [] [] [],[.mk [.v (.st 16)] [] [] [(30,5),(62,5),(87,1)] [(250,⟨[.r 33 ci,.w 3 5],[(9,3)],[],[]⟩),(506,⟨[.r 67 ci],[],[],[]⟩),(64103,⟨[.h 4 17 (.int .i64)],[],[],[]⟩)] [(786451,[.mk [.v ci] [] [] [(1000000,0)] [] []]),(917531,[.mk [.v (.st 17)] [] [] [(1000000,1)] [] []]),(4247912521,[.mk [.v ci] [] [] [(1000000,2)] [] []])]],fun (a0,a1)=>submit_Do_o8acf N a0 a1⟩
theorem submit_Do_o8acf_ok (N:Nat):zbf Tryz.prog 12 (submit_Do_o8acf_sp N):=og (g:=12) N (.cons (zdu N)<|.cons (job_New_ok N)<|.nil) (.cons (submit_Check_odbc5xok N)<|.cons (store_Store_State_o9e3c_ok N)<|.cons (store_Store_Put_oe980xok N)<|.nil) (by kernel_rfl) (fun x=>by kernel_rfl)
def store_Store_Spec_obf7f_sp (N:Nat):OSp:=⟨.mk [.p (.pt 0 0 27)] [] [.cells [.pt 1 0 2,.pt 2 0 2,xl 0,xl 2,xl 3,xi,xi,xi,xi,xi,xi,xi,xi,xi,xi,xi,xi,xi,xi,xi,xi,xi,xi,xn,xl 1,.hd 3,xi],.cells [xi,xn],.cells [xl 0,.mr 4],.row 1,.mp 7 true] [] [] [],[.mk [.v (.st 11)] [] [] [] [] []],fun (_,_,a2,a3,a4,a5,a6,a7,a8,a9,a10,a11,a12,a13,a14,a15,a16,a17,a18,a19,_,_,_,_,_,_,_)=>zay N a2 a3 a4 a5 a6 a7 a8 a9 a10 a11 a12 a13 a14 a15 a16 a17 a18 a19⟩
theorem store_Store_Spec_obf7f_ok (N:Nat):zbf Tryz.prog 63 (store_Store_Spec_obf7f_sp N):=og (g:=63) N (.cons (zc6 N)<|.nil) (.nil) (by kernel_rfl) (fun x=>by kernel_rfl)
def zdo (N:Nat):OSp:=⟨.mk [.v (.c (.sl 5))] [] [] [] [] [],[.mk [.p (.hd 0)] [] [.row 5] [] [] []],fun x=>zb0 N x⟩
theorem zdi (N:Nat):zbf Tryz.prog 106 (zdo N):=clone_own (i:=5) (sz:=152) (z:=[.c (.lit (.int .i64 0)),.c (.lit (.int .i64 0)),.c (.lit (.int .i64 0)),.c (.lit (.int .i64 0)),.c (.lit (.int .i64 0)),.c (.lit (.int .i64 0)),.c (.lit (.int .i64 0)),.c (.lit (.int .i64 0)),.c (.lit (.int .i64 0)),.c (.lit (.slice none 0 0)),.c (.lit (.int .i64 0)),.c (.lit (.bool false)),.c (.lit (.bool false)),.c (.lit (.int .i64 0)),.c (.lit (.int .i64 0)),.c (.lit (.int .i64 0)),.c (.lit (.int .i64 0)),.c (.lit (.int .i64 0))]) (fn:=Tryz.f106) mix (by kernel_rfl) (by kernel_rfl) (by kernel_rfl) rfl
def table_own_sp (N:Nat):TSp:=⟨[.st 5],[.st 5],fun a=>table_own N a.1⟩
theorem table_own_ok (N:Nat):zba Tryz.prog 107 (table_own_sp N):=tg [] [] [] N (.cons (zb8 N)<|.nil) (.nil) (fun a=>by kernel_rfl)
def table_Table_All_oa59d_sp (N:Nat):OSp:=⟨.mk [.p (.pt 0 0 2)] [] [.cells [xi,xn]] [] [] [],[.mk [.v (.c (.sl 5))] [.h 0 1 (.hd 1)] [.row 5] [] [(122,⟨[.r 15 ci,.w 1 5],[(3,1),(13,1)],[(1048577,5)],[]⟩)] [(917516,[.mk [.p (.hd 1)] [] [.row 5] [(1000000,0)] [] []])]],fun x=>table_Table_All_oa59d N⟩
theorem table_Table_All_oa59d_ok (N:Nat):zbf Tryz.prog 51 (table_Table_All_oa59d_sp N):=og (g:=51) N (.cons (table_own_ok N)<|.nil) (.cons (zdi N)<|.nil) (by kernel_rfl) (fun x=>by kernel_rfl)
def zdk (N:Nat):TSp:=⟨[.c (.sl 6)],[.c (.sl 6)],fun a=>zbg N a.1⟩
theorem zdh (N:Nat):zba Tryz.prog 179 (zdk N):=clone_ok (i:=6) (sz:=16) (z:=[.c (.lit (.int .i64 0)),.c (.lit (.int .i64 0))]) (fn:=Tryz.f179) mix (by kernel_rfl) (by kernel_rfl) (by kernel_rfl) rfl
def ledger_own_sp (N:Nat):TSp:=⟨[.st 7],[.st 7],fun a=>ledger_own N a.1⟩
theorem ledger_own_ok (N:Nat):zba Tryz.prog 110 (ledger_own_sp N):=tg [] [] [] N (.cons (zdh N)<|.nil) (.nil) (fun a=>by kernel_rfl)
def ledger_Ledger_All_o372e_sp (N:Nat):OSp:=⟨.mk [.p (.pt 0 0 2)] [] [.cells [xl 0,.mr 1],.mp 7 true] [] [] [],[.mk [.v (.c (.sl 7))] [] [] [(27,7)] [(122,⟨[.r 15 ci,.w 3 7],[(3,3)],[(3,7)],[]⟩)] [(3932172,[.mk [] [] [] [(1000002,0)] [] []]),(3932173,[.mk [.v (.c (.sl 1))] [] [] [(1000000,999999)] [] []])]],fun (a0,_)=>zax N a0⟩
theorem zbN (N:Nat):zbf Tryz.prog 52 (ledger_Ledger_All_o372e_sp N):=og (g:=52) N (.cons (ledger_own_ok N)<|.nil) (.nil) (by kernel_rfl) (fun x=>by kernel_rfl)
def zcP (N:Nat):TSp:=⟨[.c (.sl 8)],[.c (.sl 8)],fun a=>zap N a.1⟩
theorem zaH (N:Nat):zba Tryz.prog 53 (zcP N):=clone_ok (i:=8) (sz:=32) (z:=[.c (.lit (.int .i64 0)),.c (.lit (.int .i64 0)),.c (.lit (.int .i64 0)),.c (.lit (.int .i64 0))]) (fn:=Tryz.f53) mix (by kernel_rfl) (by kernel_rfl) (by kernel_rfl) rfl
def slices_Clone_Lint_int_oo_sp (N:Nat):OSp:=⟨.mk [.p (.hd 0)] [] [.row 1] [] [] [],[.mk [.p (.hd 1)] [] [.row 1] [] [] []],fun x=>zaJ N x⟩
theorem zbJ (N:Nat):zbf Tryz.prog 54 (slices_Clone_Lint_int_oo_sp N):=clone_oo (ii:=1) (sz:=8) (z:=[.c (.lit (.int .i64 0))]) (fn:=Tryz.f54) mix (by kernel_rfl) (by kernel_rfl) (by kernel_rfl) rfl
def store_Store_State_oecf2xsp (N:Nat):OSp:=⟨.mk [.p (.pt 0 0 27)] [] [.cells [.pt 1 0 2,.pt 2 0 2,xl 0,xl 2,xl 3,xi,xi,xi,xi,xi,xi,xi,xi,xi,xi,xi,xi,xi,xi,xi,xi,xi,xi,xn,xl 1,.hd 3,xi],.cells [xi,xn],.cells [xl 0,.mr 4],.row 1,.mp 7 true] [] [] [],[.mk [.v (.st 17)] [.h 1 1 (.hd 5)] [.row 5] [] [] [(917526,[.mk [.v (.c (.sl 5))] [.h 1 1 (.hd 6)] [.row 5] [(1000000,0)] [] []]),(917531,[.mk [.v (.c (.sl 7))] [] [] [(1000000,1)] [] []]),(917547,[.mk [.p (.hd 7)] [] [.row 1] [(1000000,2)] [] []])]],fun (a0,a1,_,_,_,_,_,_,_,_,_,_,_,_,_,_,_,_,_,_,a20,a21,a22,a23,a24,_,_)=>store_Store_State_oecf2 N a0 a1 a20 a21 a22 a23 a24⟩
theorem store_Store_State_oecf2xok (N:Nat):zbf Tryz.prog 13 (store_Store_State_oecf2xsp N):=og (g:=13) N (.cons (zaH N)<|.cons (zbv N)<|.nil) (.cons (table_Table_All_oa59d_ok N)<|.cons (zbN N)<|.cons (zbJ N)<|.nil) (by kernel_rfl) (fun x=>by kernel_rfl)
def submit_checkSender_o2b7f_sp (N:Nat):OSp:=⟨.mk [.p (.pt 0 0 45)] [] [.cells (xl 0::xl 2::xl 3::xi::xi::xi::xi::xi::xi::xi::xi::xi::xi::xi::xi::xi::xi::xi::xi::xi::xi::xl 5::xl 7::xl 8::xl 1::xl 1::xi::xi::xi::xi::xi::xi::xi::xi::xi::xi::xi::xi::xi::xi::xl 4::xi::xi::xi::xi::[])] [] [] [],[.mk [.v ci] [] [] [] [] []],fun (_,_,_,a3,_,_,_,_,_,_,_,_,_,_,_,_,_,_,_,_,_,_,_,_,_,_,_,a27,a28,_,_,_,_,_,_,_,_,_,_,_,_,_,_,_,_)=>zaI N a3 a27 a28⟩
theorem zbM (N:Nat):zbf Tryz.prog 168 (submit_checkSender_o2b7f_sp N):=og (g:=168) N (.nil) (.nil) (by kernel_rfl) (fun x=>by kernel_rfl)
def slices_Index_Lint_int_sp (N:Nat):TSp:=⟨[.c (.sl 1),ci],[ci],fun a=>zcY N a.1 a.2.1⟩
theorem slices_Index_Lint_int_ok (N:Nat):zba Tryz.prog 206 (slices_Index_Lint_int_sp N):=tg [] [(26,⟨[.r 8 ci],[],[],[]⟩)] [] N (.nil) (.nil) (fun a=>by kernel_rfl)
def slices_Contains_Lint_int_sp (N:Nat):TSp:=⟨[.c (.sl 1),ci],[cb],fun a=>za4 N a.1 a.2.1⟩
theorem zc1 (N:Nat):zba Tryz.prog 141 (slices_Contains_Lint_int_sp N):=tg [] [] [] N (.cons (slices_Index_Lint_int_ok N)<|.nil) (.nil) (fun a=>by kernel_rfl)
def spec_Allowed_sp (N:Nat):TSp:=⟨[.st 11,ci,ci],[cb],fun a=>spec_Allowed N a.1 a.2.1 a.2.2.1⟩
theorem spec_Allowed_ok (N:Nat):zba Tryz.prog 183 (spec_Allowed_sp N):=tg [] [] [] N (.cons (zcq N)<|.cons (zc1 N)<|.nil) (.nil) (fun a=>by kernel_rfl)
def submit_checkQueue_o46a9xsp (N:Nat):OSp:=⟨.mk [.p (.pt 0 0 45)] [] [.cells (xl 0::xl 2::xl 3::xi::xi::xi::xi::xi::xi::xi::xi::xi::xi::xi::xi::xi::xi::xi::xi::xi::xi::xl 5::xl 7::xl 8::xl 1::xl 1::xi::xi::xi::xi::xi::xi::xi::xi::xi::xi::xi::xi::xi::xi::xl 4::xi::xi::xi::xi::[])] [] [] [],[.mk [.v ci] [] [] [] [] []],fun (a0,a1,a2,a3,a4,a5,a6,a7,a8,a9,a10,a11,a12,a13,a14,a15,a16,a17,_,_,_,_,_,_,_,_,_,a27,_,_,_,_,a32,_,_,_,_,_,_,_,_,_,_,_,_)=>zbb N a0 a1 a2 a3 a4 a5 a6 a7 a8 a9 a10 a11 a12 a13 a14 a15 a16 a17 a27 a32⟩
theorem zbR (N:Nat):zbf Tryz.prog 169 (submit_checkQueue_o46a9xsp N):=og (g:=169) N (.cons (spec_Allowed_ok N)<|.nil) (.nil) (by kernel_rfl) (fun x=>by kernel_rfl)
def vec_split_o09e8xsp (N:Nat):OSp:=⟨.mk [.v (.st 0)] [] [] [] [] [],[.mk [.ag [.cx,.cx]] [] [] [] [] []],fun a0=>zcf N a0⟩
theorem vec_split_o09e8xok (N:Nat):zbf Tryz.prog 204 (vec_split_o09e8xsp N):=og (g:=204) N (.nil) (.nil) (by kernel_rfl) (fun x=>by kernel_rfl)
def vec_join_o7a26xsp (N:Nat):OSp:=⟨.mk [.ag [.cx,.cx]] [] [] [] [] [],[.mk [.v (.st 0)] [] [] [] [] []],fun (a0,a1)=>vec_join_o7a26 N a0 a1⟩
theorem vec_join_o7a26xok (N:Nat):zbf Tryz.prog 234 (vec_join_o7a26xsp N):=og (g:=234) N (.nil) (.nil) (by kernel_rfl) (fun x=>by kernel_rfl)
def vec_within_ocd27xsp (N:Nat):OSp:=⟨.mk [.ag [.cx,.cx]] [] [] [] [] [],[.mk [.v (.st 0),.v ci] [] [] [] [] [(393222,[.mk [.v (.st 0)] [] [] [(1000000,0)] [] []])]],fun (a0,a1)=>zcv N a0 a1⟩
theorem vec_within_ocd27xok (N:Nat):zbf Tryz.prog 205 (vec_within_ocd27xsp N):=og (g:=205) N (.cons (zcl N)<|.nil) (.cons (vec_join_o7a26xok N)<|.nil) (by kernel_rfl) (fun x=>by kernel_rfl)
def vec_Times_sp (N:Nat):TSp:=⟨[.st 0,ci],[.st 0,ci],fun a=>vec_Times N a.1 a.2.1⟩
theorem vec_Times_ok (N:Nat):zba Tryz.prog 203 (vec_Times_sp N):=tg [] [] [(4063256,[.mk [.ag [.cx,.cx]] [] [] [(1000000,0)] [] []]),(8257573,[.mk [.v (.st 0),.v ci] [] [] [(1000000,1)] [] []])] N (.cons (zcl N)<|.nil) (.cons (vec_split_o09e8xok N)<|.cons (vec_within_ocd27xok N)<|.nil) (fun a=>by kernel_rfl)
def submit_Demand_sp (N:Nat):TSp:=⟨[.st 15],[ci],fun a=>submit_Demand N a.1⟩
theorem submit_Demand_ok (N:Nat):zba Tryz.prog 171 (submit_Demand_sp N):=tg [] [(6,⟨[.r 24 cb],[],[],[]⟩)] [] N (.cons (vec_Times_ok N)<|.cons (zcl N)<|.nil) (.nil) (fun a=>by kernel_rfl)
end Go.Abs
end
end
section
set_option maxRecDepth 100000
noncomputable section
namespace Go.Abs
open Go.Proofs
variable [Gl]
def submit_checks_1xoab61xsp (N:Nat):OSp:=⟨.mk [.p (.pt 0 0 45)] [] [.cells (xl 0::xl 2::xl 3::xi::xi::xi::xi::xi::xi::xi::xi::xi::xi::xi::xi::xi::xi::xi::xi::xi::xi::xl 5::xl 7::xl 8::xl 1::xl 1::xi::xi::xi::xi::xi::xi::xi::xi::xi::xi::xi::xi::xi::xi::xl 4::xi::xi::xi::xi::[])] [] [] [],[.mk [.v ci] [] [] [] [] []],fun (_,_,_,_,_,_,_,_,_,_,_,_,_,_,_,_,_,_,_,_,_,_,_,_,_,_,_,_,a28,a29,a30,a31,a32,a33,a34,a35,a36,a37,a38,a39,a40,a41,a42,a43,a44)=>zb3 N a28 a29 a30 a31 a32 a33 a34 a35 a36 a37 a38 a39 a40 a41 a42 a43 a44⟩
theorem zce (N:Nat):zbf Tryz.prog 170 (submit_checks_1xoab61xsp N):=og (g:=170) N (.cons (submit_Demand_ok N)<|.nil) (.nil) (by kernel_rfl) (fun x=>by kernel_rfl)
def submit_checkSize_oe626xsp (N:Nat):OSp:=⟨.mk [.p (.pt 0 0 45)] [] [.cells (xl 0::xl 2::xl 3::xi::xi::xi::xi::xi::xi::xi::xi::xi::xi::xi::xi::xi::xi::xi::xi::xi::xi::xl 5::xl 7::xl 8::xl 1::xl 1::xi::xi::xi::xi::xi::xi::xi::xi::xi::xi::xi::xi::xi::xi::xl 4::xi::xi::xi::xi::[])] [] [] [],[.mk [.v ci] [] [] [] [] []],fun (_,_,_,_,_,_,_,_,_,_,_,_,_,_,_,_,_,_,_,_,_,_,_,_,_,_,_,_,_,_,_,_,_,_,_,_,_,_,_,a39,a40,_,_,_,_)=>zaZ N a39 a40⟩
theorem zb5 (N:Nat):zbf Tryz.prog 172 (submit_checkSize_oe626xsp N):=og (g:=172) N (.nil) (.nil) (by kernel_rfl) (fun x=>by kernel_rfl)
def submit_checkAfter_od539xsp (N:Nat):OSp:=⟨.mk [.p (.pt 0 0 45)] [] [.cells (xl 0::xl 2::xl 3::xi::xi::xi::xi::xi::xi::xi::xi::xi::xi::xi::xi::xi::xi::xi::xi::xi::xi::xl 5::xl 7::xl 8::xl 1::xl 1::xi::xi::xi::xi::xi::xi::xi::xi::xi::xi::xi::xi::xi::xi::xl 4::xi::xi::xi::xi::[])] [] [] [],[.mk [.v ci] [] [] [] [(26,⟨[.r 14 ci],[],[],[]⟩),(27034,⟨[.r 5 cb,.r 24 ci],[],[],[]⟩)] []],fun (_,_,_,_,_,_,_,_,_,_,_,_,_,_,_,_,_,_,_,_,_,a21,_,_,_,_,_,_,_,_,_,_,_,_,_,_,_,_,_,_,a40,_,_,_,_)=>zaT N a21 a40⟩
theorem zbQ (N:Nat):zbf Tryz.prog 173 (submit_checkAfter_od539xsp N):=og (g:=173) N (.nil) (.nil) (by kernel_rfl) (fun x=>by kernel_rfl)
def vec_Count_sp (N:Nat):TSp:=⟨[.st 0,.st 0],[ci],fun a=>vec_Count N a.1 a.2.1⟩
theorem vec_Count_ok (N:Nat):zba Tryz.prog 260 (vec_Count_sp N):=tg [] [(6,⟨[.r 21 cb],[],[],[]⟩),(250,⟨[.r 5 ci,.r 26 ci],[],[],[]⟩),(2003,⟨[.r 5 ci],[],[],[]⟩)] [] N (.cons (vec_numbers_ok N)<|.cons (zcl N)<|.nil) (.nil) (fun a=>by kernel_rfl)
def spec_Room_sp (N:Nat):TSp:=⟨[.st 11,ci,.st 0],[ci],fun a=>spec_Room N a.1 a.2.1 a.2.2.1⟩
theorem spec_Room_ok (N:Nat):zba Tryz.prog 228 (spec_Room_sp N):=tg [] [(122,⟨[.r 7 ci,.r 30 ci],[],[],[]⟩)] [] N (.cons (zcq N)<|.cons (vec_Count_ok N)<|.nil) (.nil) (fun a=>by kernel_rfl)
def spec_Fits_sp (N:Nat):TSp:=⟨[.st 11,ci,ci,.st 0],[cb],fun a=>spec_Fits N a.1 a.2.1 a.2.2.1 a.2.2.2.1⟩
theorem spec_Fits_ok (N:Nat):zba Tryz.prog 184 (spec_Fits_sp N):=tg [] [] [] N (.cons (zcq N)<|.cons (spec_Room_ok N)<|.nil) (.nil) (fun a=>by kernel_rfl)
def quota_known_sp (N:Nat):TSp:=⟨[.st 11,ci],[cb],fun a=>quota_known N a.1 a.2.1⟩
theorem quota_known_ok (N:Nat):zba Tryz.prog 121 (quota_known_sp N):=tg [] [] [] N (.cons (zcq N)<|.nil) (.nil) (fun a=>by kernel_rfl)
def quota_Waiting_sp (N:Nat):TSp:=⟨[.c (.sl 5),ci],[ci],fun a=>quota_Waiting N a.1 a.2.1⟩
theorem quota_Waiting_ok (N:Nat):zba Tryz.prog 129 (quota_Waiting_sp N):=tg [] [] [(393223,[.mk [.v ci] [] [] [] [(58,⟨[.r 5 ci,.r 10 ci],[],[],[]⟩),(467,⟨[.r 5 ci],[],[],[]⟩)] [(489816080,[.mk [.v cb] [] [] [] [] []])]])] N (.cons (life_Waits_ok N)<|.nil) (.nil) (fun a=>by kernel_rfl)
def quota_Room_sp (N:Nat):TSp:=⟨[.st 11,.c (.sl 5),ci,ci],[cb],fun a=>quota_Room N a.1 a.2.1 a.2.2.1 a.2.2.2.1⟩
theorem quota_Room_ok (N:Nat):zba Tryz.prog 185 (quota_Room_sp N):=tg [] [] [] N (.cons (quota_known_ok N)<|.cons (quota_Waiting_ok N)<|.nil) (.nil) (fun a=>by kernel_rfl)
def submit_checkRoom_o4d54xsp (N:Nat):OSp:=⟨.mk [.p (.pt 0 0 45)] [] [.cells (xl 0::xl 2::xl 3::xi::xi::xi::xi::xi::xi::xi::xi::xi::xi::xi::xi::xi::xi::xi::xi::xi::xi::xl 5::xl 7::xl 8::xl 1::xl 1::xi::xi::xi::xi::xi::xi::xi::xi::xi::xi::xi::xi::xi::xi::xl 4::xi::xi::xi::xi::[])] [] [] [],[.mk [.v ci] [] [] [] [] []],fun (a0,a1,a2,a3,a4,a5,a6,a7,a8,a9,a10,a11,a12,a13,a14,a15,a16,a17,_,_,_,a21,_,_,_,_,_,_,_,_,_,_,a32,a33,a34,a35,a36,a37,_,a39,_,_,_,_,_)=>zbm N a0 a1 a2 a3 a4 a5 a6 a7 a8 a9 a10 a11 a12 a13 a14 a15 a16 a17 a21 a32 a33 a34 a35 a36 a37 a39⟩
theorem zb6 (N:Nat):zbf Tryz.prog 174 (submit_checkRoom_o4d54xsp N):=og (g:=174) N (.cons (spec_Fits_ok N)<|.cons (quota_Room_ok N)<|.nil) (.nil) (by kernel_rfl) (fun x=>by kernel_rfl)
def submit_checkCapacity_o13ac_sp (N:Nat):OSp:=⟨.mk [.p (.pt 0 0 45)] [] [.cells (xl 0::xl 2::xl 3::xi::xi::xi::xi::xi::xi::xi::xi::xi::xi::xi::xi::xi::xi::xi::xi::xi::xi::xl 5::xl 7::xl 8::xl 1::xl 1::xi::xi::xi::xi::xi::xi::xi::xi::xi::xi::xi::xi::xi::xi::xl 4::xi::xi::xi::xi::[])] [] [] [],[.mk [.v ci] [] [] [] [] []],fun (_,_,_,_,_,_,_,_,_,_,a10,a11,_,_,_,_,_,_,_,a19,_,a21,_,_,_,_,_,_,_,_,_,_,_,_,_,_,_,_,_,a39,_,_,_,_,_)=>zaU N a10 a11 a19 a21 a39⟩
theorem zby (N:Nat):zbf Tryz.prog 175 (submit_checkCapacity_o13ac_sp N):=og (g:=175) N (.nil) (.nil) (by kernel_rfl) (fun x=>by kernel_rfl)
def submit_Check_o0317xsp (N:Nat):OSp:=⟨.mk [.p (.pt 0 0 27),.v ci,.v (.st 15)] [] [.cells [.pt 1 0 2,.pt 2 0 2,xl 0,xl 2,xl 3,xi,xi,xi,xi,xi,xi,xi,xi,xi,xi,xi,xi,xi,xi,xi,xi,xi,xi,xn,xl 1,.hd 3,xi],.cells [xi,xn],.cells [xl 0,.mr 4],.row 1,.mp 7 true] [] [] [],[.mk [.v ci] [.h 1 1 (.hd 5)] [.row 5] [] [(122,⟨[],[],[(1000003,40)],[]⟩)] [(917518,[.mk [.v (.st 11)] [] [] [(1000000,0)] [] []]),(917520,[.mk [.v (.st 17)] [.h 1 1 (.hd 6)] [.row 5] [(1000000,1)] [] []]),(3932181,[.mk [] [] [] [(1000002,0),(8,1000001)] [] []]),(1026687006,[.mk [.v ci] [] [] [(1000000,2)] [] []]),(13195166220318,[.mk [.v ci] [] [] [(1000000,3)] [] []]),(14294677848094,[.mk [.v ci] [] [] [(1000000,4)] [] []]),(15394189475870,[.mk [.v ci] [] [] [(1000000,5)] [] []]),(16493701103646,[.mk [.v ci] [] [] [(1000000,6)] [] []]),(17593212731422,[.mk [.v ci] [] [] [(1000000,7)] [] []]),(18692724359198,[.mk [.v ci] [] [] [(1000000,8)] [] []])]],fun (a0,a1,a2,a3,a4,a5,a6,a7,a8,a9,a10,a11,a12,a13,a14,a15,a16,a17,a18,a19,a20,a21,a22,a23,a24,a25,a26,_,_)=>submit_Check_o0317 N a0 a1 a2 a3 a4 a5 a6 a7 a8 a9 a10 a11 a12 a13 a14 a15 a16 a17 a18 a19 a20 a21 a22 a23 a24 a25 a26⟩
theorem submit_Check_o0317xok (N:Nat):zbf Tryz.prog 48 (submit_Check_o0317xsp N):=og (g:=48) N (.nil) (.cons (store_Store_Spec_obf7f_ok N)<|.cons (store_Store_State_oecf2xok N)<|.cons (zbM N)<|.cons (zbR N)<|.cons (zce N)<|.cons (zb5 N)<|.cons (zbQ N)<|.cons (zb6 N)<|.cons (zby N)<|.nil) (by kernel_rfl) (fun x=>by kernel_rfl)
def zdD (N:Nat):OSp:=⟨.mk [.p (.hd 0)] [] [.row 5] [] [] [],[.mk [.p (.hd 1)] [] [.row 5] [] [] []],fun x=>zbj N x⟩
theorem zdF (N:Nat):zbf Tryz.prog 106 (zdD N):=clone_oo (ii:=5) (sz:=152) (z:=[.c (.lit (.int .i64 0)),.c (.lit (.int .i64 0)),.c (.lit (.int .i64 0)),.c (.lit (.int .i64 0)),.c (.lit (.int .i64 0)),.c (.lit (.int .i64 0)),.c (.lit (.int .i64 0)),.c (.lit (.int .i64 0)),.c (.lit (.int .i64 0)),.c (.lit (.slice none 0 0)),.c (.lit (.int .i64 0)),.c (.lit (.bool false)),.c (.lit (.bool false)),.c (.lit (.int .i64 0)),.c (.lit (.int .i64 0)),.c (.lit (.int .i64 0)),.c (.lit (.int .i64 0)),.c (.lit (.int .i64 0))]) (fn:=Tryz.f106) mix (by kernel_rfl) (by kernel_rfl) (by kernel_rfl) rfl
def table_Table_All_o19b3xsp (N:Nat):OSp:=⟨.mk [.p (.pt 0 0 2)] [] [.cells [xi,.hd 1],.row 5] [] [] [],[.mk [.v (.c (.sl 5))] [] [] [] [(122,⟨[.r 15 ci,.w 2 5],[(3,2),(13,2)],[],[]⟩)] [(917516,[.mk [.p (.hd 2)] [] [.row 5] [(1000000,0)] [] []])]],fun (a0,_)=>zbt N a0⟩
theorem zdH (N:Nat):zbf Tryz.prog 51 (table_Table_All_o19b3xsp N):=og (g:=51) N (.cons (table_own_ok N)<|.nil) (.cons (zdF N)<|.nil) (by kernel_rfl) (fun x=>by kernel_rfl)
def store_Store_State_o70ee_sp (N:Nat):OSp:=⟨.mk [.p (.pt 0 0 27)] [] [.cells [.pt 1 0 2,.pt 2 0 2,xl 0,xl 2,xl 3,xi,xi,xi,xi,xi,xi,xi,xi,xi,xi,xi,xi,xi,xi,xi,xi,xi,xi,xn,xl 1,.hd 3,xi],.cells [xi,.hd 4],.cells [xl 0,.mr 5],.row 1,.row 5,.mp 7 true] [] [] [],[.mk [.v (.st 17)] [] [] [] [] [(917526,[.mk [.v (.c (.sl 5))] [] [] [(1000000,0)] [] []]),(917531,[.mk [.v (.c (.sl 7))] [] [] [(1000000,1)] [] []]),(917547,[.mk [.p (.hd 7)] [] [.row 1] [(1000000,2)] [] []])]],fun (a0,a1,a2,_,_,_,_,_,_,_,_,_,_,_,_,_,_,_,_,_,_,a21,a22,a23,a24,a25,_,_)=>zbE N a0 a1 a2 a21 a22 a23 a24 a25⟩
theorem zbP (N:Nat):zbf Tryz.prog 13 (store_Store_State_o70ee_sp N):=og (g:=13) N (.cons (zaH N)<|.cons (zbv N)<|.nil) (.cons (zdH N)<|.cons (zbN N)<|.cons (zbJ N)<|.nil) (by kernel_rfl) (fun x=>by kernel_rfl)
def table_Table_find_o1e00xsp (N:Nat):OSp:=⟨.mk [.p (.pt 0 0 2),.v ci] [] [.cells [xi,.hd 1],.row 5] [] [] [],[.mk [.v ci,.v cb] [] [] [] [] [(393229,[.mk [.v ci] [] [] [] [(28,⟨[.r 5 ci,.r 6 ci],[],[],[]⟩)] [(59375636,[.mk [.v cb] [] [] [] [] []])]])]],fun (a0,a1,_)=>zaY N a0 a1⟩
theorem table_Table_find_o1e00xok (N:Nat):zbf Tryz.prog 112 (table_Table_find_o1e00xsp N):=og (g:=112) N (.nil) (.nil) (by kernel_rfl) (fun x=>by kernel_rfl)
def zcV (N:Nat):OSp:=⟨.mk [.p (.hd 0),.v ci,.p (.hd 1)] [] [.row 5,.row 5] [] [] [],[.mk [.p (.hd 0)] [.w 0 5] [] [] [] []],fun (a0,a1,a2)=>zaz N a0 a1 a2⟩
theorem zcR (N:Nat):zbf Tryz.prog 134 (zcV N):=og (g:=134) N (.nil) (.nil) (by kernel_rfl) (fun x=>by kernel_rfl)
def table_Table_Put_o32b6xsp (N:Nat):OSp:=⟨.mk [.p (.pt 0 0 2),.v (.st 5)] [] [.cells [xi,.hd 1],.row 5] [] [] [],[.mk [.v ci] [.h 0 1 (.hd 1),.w 1 5] [] [(38,5)] [] [(1966096,[.mk [.v ci,.v cb] [] [] [(1000000,0)] [] []]),(16646183,[.mk [.p (.hd 1)] [.w 1 5] [] [(1000000,1)] [] []])]],fun (a0,a1,a2)=>zaO N a0 a1 a2⟩
theorem zci (N:Nat):zbf Tryz.prog 74 (table_Table_Put_o32b6xsp N):=og (g:=74) N (.cons (job_Right_ok N)<|.cons (table_own_ok N)<|.nil) (.cons (table_Table_find_o1e00xok N)<|.cons (zcR N)<|.nil) (by kernel_rfl) (fun x=>by kernel_rfl)
def store_after_sp (N:Nat):TSp:=⟨[ci],[ci],fun a=>store_after N a.1⟩
theorem store_after_ok (N:Nat):zba Tryz.prog 80 (store_after_sp N):=tg [] [] [] N (.nil) (.nil) (fun a=>by kernel_rfl)
def store_Store_stamp_od610xsp (N:Nat):OSp:=⟨.mk [.p (.pt 0 0 27),.v ci] [] [.cells [.pt 1 0 2,.pt 2 0 2,xl 0,xl 2,xl 3,xi,xi,xi,xi,xi,xi,xi,xi,xi,xi,xi,xi,xi,xi,xi,xi,xi,xi,xn,xl 1,.hd 3,xi],.cells [xi,.hd 4],.cells [xl 0,.mr 5],.row 1,.row 5,.mp 7 true] [] [] [],[.mk [] [.w 3 1,.h 0 25 (.hd 3)] [] [] [] []],fun (a0,_,_,a3,_,_,_,_,_,_,_,_,_,_,_,_,_,_,_,_,_,_,_,_,_,_,_,_,_)=>za9 N a0 a3⟩
theorem store_Store_stamp_od610xok (N:Nat):zbf Tryz.prog 75 (store_Store_stamp_od610xsp N):=og (g:=75) N (.cons (store_after_ok N)<|.nil) (.nil) (by kernel_rfl) (fun x=>by kernel_rfl)
def store_Store_Put_o4557xsp (N:Nat):OSp:=⟨.mk [.p (.pt 0 0 27),.v (.st 5)] [] [.cells [.pt 1 0 2,.pt 2 0 2,xl 0,xl 2,xl 3,xi,xi,xi,xi,xi,xi,xi,xi,xi,xi,xi,xi,xi,xi,xi,xi,xi,xi,xn,xl 1,.hd 3,xi],.cells [xi,.hd 4],.cells [xl 0,.mr 5],.row 1,.row 5,.mp 7 true] [] [] [],[.mk [.v ci] [.h 1 1 (.hd 4),.w 4 5,.h 0 21 (xi),.h 0 25 (.hd 3),.w 3 1] [] [] [] [(8126509,[.mk [.v ci] [.h 1 1 (.hd 4),.w 4 5] [] [(1000000,0)] [] []]),(16646203,[.mk [] [.w 3 1,.h 0 25 (.hd 3)] [] [(1000000,1)] [] []])]],fun (a0,a1,_,a3,_,_,_,_,_,_,_,_,_,_,_,a15,_,_,_,_,_,_,_,a23,_,_,_,a27,_)=>zaP N a0 a1 a3 a15 a23 a27⟩
theorem zdJ (N:Nat):zbf Tryz.prog 34 (store_Store_Put_o4557xsp N):=og (g:=34) N (.cons (job_Right_ok N)<|.nil) (.cons (zci N)<|.cons (store_Store_stamp_od610xok N)<|.nil) (by kernel_rfl) (fun x=>by kernel_rfl)
def submit_Do_o7d84xsp (N:Nat):OSp:=⟨.mk [.p (.pt 0 0 27),.v ci,.v (.st 15)] [] [.cells [.pt 1 0 2,.pt 2 0 2,xl 0,xl 2,xl 3,xi,xi,xi,xi,xi,xi,xi,xi,xi,xi,xi,xi,xi,xi,xi,xi,xi,xi,xn,xl 1,.hd 3,xi],.cells [xi,xn],.cells [xl 0,.mr 4],.row 1,.mp 7 true] [] [] [],[.mk [.v (.st 16)] [.h 1 1 (.hd 5),.h 0 21 (xi),.h 0 25 (.hd 3),.w 3 1] [.row 5] [(30,5),(62,5),(87,1)] [(250,⟨[.r 33 ci,.w 9 5],[(9,9)],[],[]⟩),(506,⟨[.r 67 ci,.h 0 21 (.int .i64),.w 3 1,.w 7 5],[],[],[(0,25,3),(1,1,7)]⟩),(64103,⟨[.h 10 17 (.int .i64)],[],[],[]⟩)] [(786451,[.mk [.v ci] [.h 1 1 (.hd 7)] [.row 5] [(1000000,0)] [] []]),(917531,[.mk [.v (.st 17)] [] [] [(1000000,1)] [] []]),(4247912521,[.mk [.v ci] [.h 1 1 (.hd 7),.w 7 5,.h 0 21 (xi),.h 0 25 (.hd 3),.w 3 1] [] [(1000000,2)] [] []])]],fun (a0,a1,a2,a3,a4,a5,a6,a7,a8,a9,a10,a11,a12,a13,a14,a15,a16,a17,a18,a19,a20,a21,a22,a23,a24,a25,a26,a27,_)=>submit_Do_o7d84 N a0 a1 a2 a3 a4 a5 a6 a7 a8 a9 a10 a11 a12 a13 a14 a15 a16 a17 a18 a19 a20 a21 a22 a23 a24 a25 a26 a27⟩
theorem submit_Do_o7d84xok (N:Nat):zbf Tryz.prog 12 (submit_Do_o7d84xsp N):=og (g:=12) N (.cons (zdu N)<|.cons (job_New_ok N)<|.nil) (.cons (submit_Check_o0317xok N)<|.cons (zbP N)<|.cons (zdJ N)<|.nil) (by kernel_rfl) (fun x=>by kernel_rfl)
def store_Store_Spec_obf7fx_sp (N:Nat):OSp:=⟨.mk [.p (.pt 0 0 27)] [] [.cells [.pt 1 0 2,.pt 2 0 2,xl 0,xl 2,xl 3,xi,xi,xi,xi,xi,xi,xi,xi,xi,xi,xi,xi,xi,xi,xi,xi,xi,xi,xn,xl 1,.hd 3,xi],.cells [xi,.hd 4],.cells [xl 0,.mr 5],.row 1,.row 5,.mp 7 true] [] [] [],[.mk [.v (.st 11)] [] [] [] [] []],fun (_,_,_,a3,a4,a5,a6,a7,a8,a9,a10,a11,a12,a13,a14,a15,a16,a17,a18,a19,a20,_,_,_,_,_,_,_)=>zay N a3 a4 a5 a6 a7 a8 a9 a10 a11 a12 a13 a14 a15 a16 a17 a18 a19 a20⟩
theorem store_Store_Spec_obf7fx_ok (N:Nat):zbf Tryz.prog 63 (store_Store_Spec_obf7fx_sp N):=og (g:=63) N (.cons (zc6 N)<|.nil) (.nil) (by kernel_rfl) (fun x=>by kernel_rfl)
def submit_Check_o9124xsp (N:Nat):OSp:=⟨.mk [.p (.pt 0 0 27),.v ci,.v (.st 15)] [] [.cells [.pt 1 0 2,.pt 2 0 2,xl 0,xl 2,xl 3,xi,xi,xi,xi,xi,xi,xi,xi,xi,xi,xi,xi,xi,xi,xi,xi,xi,xi,xn,xl 1,.hd 3,xi],.cells [xi,.hd 4],.cells [xl 0,.mr 5],.row 1,.row 5,.mp 7 true] [] [] [],[.mk [.v ci] [] [] [] [(122,⟨[],[],[(1000003,40)],[]⟩)] [(917518,[.mk [.v (.st 11)] [] [] [(1000000,0)] [] []]),(917520,[.mk [.v (.st 17)] [] [] [(1000000,1)] [] []]),(3932181,[.mk [] [] [] [(1000002,0),(8,1000001)] [] []]),(1026687006,[.mk [.v ci] [] [] [(1000000,2)] [] []]),(13195166220318,[.mk [.v ci] [] [] [(1000000,3)] [] []]),(14294677848094,[.mk [.v ci] [] [] [(1000000,4)] [] []]),(15394189475870,[.mk [.v ci] [] [] [(1000000,5)] [] []]),(16493701103646,[.mk [.v ci] [] [] [(1000000,6)] [] []]),(17593212731422,[.mk [.v ci] [] [] [(1000000,7)] [] []]),(18692724359198,[.mk [.v ci] [] [] [(1000000,8)] [] []])]],fun (a0,a1,a2,a3,a4,a5,a6,a7,a8,a9,a10,a11,a12,a13,a14,a15,a16,a17,a18,a19,a20,a21,a22,a23,a24,a25,a26,a27,_,_)=>submit_Check_o9124 N a0 a1 a2 a3 a4 a5 a6 a7 a8 a9 a10 a11 a12 a13 a14 a15 a16 a17 a18 a19 a20 a21 a22 a23 a24 a25 a26 a27⟩
theorem submit_Check_o9124xok (N:Nat):zbf Tryz.prog 48 (submit_Check_o9124xsp N):=og (g:=48) N (.nil) (.cons (store_Store_Spec_obf7fx_ok N)<|.cons (zbP N)<|.cons (zbM N)<|.cons (zbR N)<|.cons (zce N)<|.cons (zb5 N)<|.cons (zbQ N)<|.cons (zb6 N)<|.cons (zby N)<|.nil) (by kernel_rfl) (fun x=>by kernel_rfl)
def submit_Do_of53a_sp (N:Nat):OSp:=⟨.mk [.p (.pt 0 0 27),.v ci,.v (.st 15)] [] [.cells [.pt 1 0 2,.pt 2 0 2,xl 0,xl 2,xl 3,xi,xi,xi,xi,xi,xi,xi,xi,xi,xi,xi,xi,xi,xi,xi,xi,xi,xi,xn,xl 1,.hd 3,xi],.cells [xi,.hd 4],.cells [xl 0,.mr 5],.row 1,.row 5,.mp 7 true] [] [] [],[.mk [.v (.st 16)] [.h 0 21 (xi),.h 0 25 (.hd 3),.h 1 1 (.hd 4),.w 3 1,.w 4 5] [] [(30,5),(62,5),(87,1)] [(250,⟨[.r 33 ci,.w 9 5],[(9,9)],[],[]⟩),(506,⟨[.r 67 ci,.h 0 21 (.int .i64),.w 3 1,.w 4 5],[],[],[(0,25,3),(1,1,4)]⟩),(64103,⟨[.h 10 17 (.int .i64)],[],[],[]⟩)] [(786451,[.mk [.v ci] [] [] [(1000000,0)] [] []]),(917531,[.mk [.v (.st 17)] [] [] [(1000000,1)] [] []]),(4247912521,[.mk [.v ci] [.h 1 1 (.hd 4),.w 4 5,.h 0 21 (xi),.h 0 25 (.hd 3),.w 3 1] [] [(1000000,2)] [] []])]],fun (a0,a1,a2,a3,a4,a5,a6,a7,a8,a9,a10,a11,a12,a13,a14,a15,a16,a17,a18,a19,a20,a21,a22,a23,a24,a25,a26,a27,a28,_)=>submit_Do_of53a N a0 a1 a2 a3 a4 a5 a6 a7 a8 a9 a10 a11 a12 a13 a14 a15 a16 a17 a18 a19 a20 a21 a22 a23 a24 a25 a26 a27 a28⟩
theorem submit_Do_of53a_ok (N:Nat):zbf Tryz.prog 12 (submit_Do_of53a_sp N):=og (g:=12) N (.cons (zdu N)<|.cons (job_New_ok N)<|.nil) (.cons (submit_Check_o9124xok N)<|.cons (zbP N)<|.cons (zdJ N)<|.nil) (by kernel_rfl) (fun x=>by kernel_rfl)
def drayageref01xInts_sp (N:Nat):TSp:=⟨[.c (.sl 1),.c (.sl 1)],[cb],fun a=>zbG N a.1 a.2.1⟩
theorem drayageref01xInts_ok (N:Nat):zba Tryz.prog 57 (drayageref01xInts_sp N):=tg [] [(58,⟨[.r 5 ci],[],[],[]⟩)] [] N (.nil) (.nil) (fun a=>by kernel_rfl)
def drayageref09xSame_sp (N:Nat):TSp:=⟨[.st 16,.st 16],[cb],fun a=>drayageref09xSame N a.1 a.2.1⟩
theorem drayageref09xSame_ok (N:Nat):zba Tryz.prog 41 (drayageref09xSame_sp N):=tg [] [] [] N (.cons (drayageref01xInts_ok N)<|.nil) (.nil) (fun a=>by kernel_rfl)
def drayagelaw24xawake_sp (N:Nat):TSp:=⟨[],[cb],fun a=>drayagelaw24xawake N⟩
theorem drayagelaw24xawake_ok (N:Nat):zba Tryz.prog 8 (drayagelaw24xawake_sp N):=tg [(28,1)] [] [(393224,[.mk [.p (.k (.c (.lit (.pointer none)))),.p (.k (.c (.lit (.int .i64 2))))] [] [] [(1000000,0)] [] [],.mk [.p (.pt 0 0 27),.p (.k (.c (.lit (.int .i64 0))))] [] [.cells [.pt 1 0 2,.pt 2 0 2,xl 0,xl 2,xl 3,xi,xi,xi,xi,xi,xi,xi,xi,xi,xi,xi,xi,xi,xi,xi,xi,xi,xi,xn,xl 1,.hd 3,xi],.cells [xi,xn],.cells [xl 0,.mr 4],.row 1,.mp 7 true] [] [] []]),(1966095,[.mk [.v (.st 16)] [] [] [(1000000,1)] [] []]),(1966098,[.mk [.v (.st 16)] [] [] [(1000000,1)] [] []]),(9895606616079,[.mk [.v (.st 16)] [.h 1 1 (.hd 8),.h 0 21 (xi),.h 0 25 (.hd 3),.w 3 1] [.row 5] [(1000000,2)] [] []]),(10995118243858,[.mk [.v (.st 16)] [.h 0 21 (xi),.h 0 25 (.hd 3),.h 1 1 (.hd 8),.w 3 1,.w 8 5] [] [(1000000,3)] [] []])] N (.cons (drayageref07xSmall_ok N)<|.cons (drayageref09xSame_ok N)<|.nil) (.cons (store_New_o49f9xok N)<|.cons (submit_Do_o8acf_ok N)<|.cons (submit_Do_o7d84xok N)<|.cons (submit_Do_of53a_ok N)<|.nil) (fun a=>by kernel_rfl)
def drayagelaw07xFew_sp (N:Nat):TSp:=⟨[.st 11],[cb],fun a=>zdv N a.1⟩
theorem drayagelaw07xFew_ok (N:Nat):zba Tryz.prog 44 (drayagelaw07xFew_sp N):=tg [] [(58,⟨[.r 26 ci],[],[],[]⟩),(122,⟨[.r 37 ci],[],[],[]⟩)] [] N (.nil) (.nil) (fun a=>by kernel_rfl)
def drayagelaw17xFew_sp (N:Nat):TSp:=⟨[.c (.sl 5)],[cb],fun a=>zds N a.1⟩
theorem drayagelaw17xFew_ok (N:Nat):zba Tryz.prog 45 (drayagelaw17xFew_sp N):=tg [] [(58,⟨[.r 10 ci],[],[],[]⟩)] [] N (.nil) (.nil) (fun a=>by kernel_rfl)
def drayagelaw23xFew_sp (N:Nat):TSp:=⟨[.st 11,.st 17],[cb],fun a=>zdA N a.1 a.2.1⟩
theorem drayagelaw23xFew_ok (N:Nat):zba Tryz.prog 9 (drayagelaw23xFew_sp N):=tg [] [(6,⟨[.r 40 cb],[],[],[]⟩),(58,⟨[.r 44 ci],[],[],[]⟩)] [] N (.cons (drayagelaw07xFew_ok N)<|.cons (drayagelaw17xFew_ok N)<|.nil) (.nil) (fun a=>by kernel_rfl)
def drayagelaw24xFew_sp (N:Nat):TSp:=⟨[.c (.sl 10)],[cb],fun a=>zdt N a.1⟩
theorem drayagelaw24xFew_ok (N:Nat):zba Tryz.prog 10 (drayagelaw24xFew_sp N):=tg [] [(58,⟨[.r 10 ci],[],[],[]⟩)] [] N (.nil) (.nil) (fun a=>by kernel_rfl)
def store_within_sp (N:Nat):TSp:=⟨[ci,ci,ci],[cb],fun a=>zcm N a.1 a.2.1 a.2.2.1⟩
theorem store_within_ok (N:Nat):zba Tryz.prog 209 (store_within_sp N):=tg [] [] [] N (.nil) (.nil) (fun a=>by kernel_rfl)
def store_numbers_sp (N:Nat):TSp:=⟨[.st 11,.st 17],[cb],fun a=>store_numbers N a.1 a.2.1⟩
theorem store_numbers_ok (N:Nat):zba Tryz.prog 152 (store_numbers_sp N):=tg [] [] [] N (.cons (store_within_ok N)<|.nil) (.nil) (fun a=>by kernel_rfl)
def store_extra_sp (N:Nat):TSp:=⟨[ci],[ci],fun a=>store_extra N a.1⟩
theorem store_extra_ok (N:Nat):zba Tryz.prog 210 (store_extra_sp N):=tg [] [] [] N (.cons (life_Over_ok N)<|.nil) (.nil) (fun a=>by kernel_rfl)
def store_jobs_sp (N:Nat):TSp:=⟨[.st 11,.st 17],[cb],fun a=>store_jobs N a.1 a.2.1⟩
theorem store_jobs_ok (N:Nat):zba Tryz.prog 153 (store_jobs_sp N):=tg [] [(122,⟨[.r 5 ci,.r 17 ci],[],[],[]⟩),(62671,⟨[.r 72 cb],[],[],[]⟩)] [] N (.cons (job_Right_ok N)<|.cons (store_extra_ok N)<|.nil) (.nil) (fun a=>by kernel_rfl)
def store_find_1xsp (N:Nat):TSp:=⟨[.st 5,ci],[ci],fun a=>store_find_1 N a.1 a.2.1⟩
theorem store_find_1xok (N:Nat):zba Tryz.prog 246 (store_find_1xsp N):=tg [] [] [] N (.nil) (.nil) (fun a=>by kernel_rfl)
end Go.Abs
end
end
section
set_option maxRecDepth 100000
noncomputable section
namespace Go.Abs
open Go.Proofs
variable [Gl]
def zbh (N:Nat):TSp:=⟨[.c (.sl 5),ci,.k 246],[ci,cb],fun a=>zaq N a.1 a.2.1⟩
theorem zbi (N:Nat):zba Tryz.prog 245 (zbh N):=tg [] [(60,⟨[.r 9 ci,.r 10 ci],[],[],[]⟩)] [] N (.cons (store_find_1xok N)<|.nil) (.nil) (fun a=>by kernel_rfl)
def store_find_sp (N:Nat):TSp:=⟨[.c (.sl 5),ci],[ci,cb],fun a=>store_find N a.1 a.2.1⟩
theorem store_find_ok (N:Nat):zba Tryz.prog 211 (store_find_sp N):=tg [] [] [] N (.cons (zbi N)<|.nil) (.nil) (fun a=>by kernel_rfl)
def store_waiting_sp (N:Nat):TSp:=⟨[.st 11,.st 17],[cb],fun a=>store_waiting N a.1 a.2.1⟩
theorem store_waiting_ok (N:Nat):zba Tryz.prog 154 (store_waiting_sp N):=tg [] [(26,⟨[.r 14 ci],[],[],[]⟩),(211,⟨[],[],[],[]⟩),(27038,⟨[.r 33 ci],[],[],[]⟩)] [] N (.cons (life_Over_ok N)<|.cons (spec_Fits_ok N)<|.cons (store_find_ok N)<|.nil) (.nil) (fun a=>by kernel_rfl)
def life_Has_sp (N:Nat):TSp:=⟨[ci],[cb],fun a=>life_Has N a.1⟩
theorem life_Has_ok (N:Nat):zba Tryz.prog 78 (life_Has_sp N):=tg [] [] [] N (.nil) (.nil) (fun a=>by kernel_rfl)
def place_Right_sp (N:Nat):TSp:=⟨[.c (.sl 6),ci],[cb],fun a=>place_Right N a.1 a.2.1⟩
theorem place_Right_ok (N:Nat):zba Tryz.prog 139 (place_Right_sp N):=tg [] [(58,⟨[.r 5 ci,.r 10 ci],[],[],[]⟩)] [] N (.nil) (.nil) (fun a=>by kernel_rfl)
def place_Total_sp (N:Nat):TSp:=⟨[.c (.sl 6)],[ci],fun a=>place_Total N a.1⟩
theorem place_Total_ok (N:Nat):zba Tryz.prog 140 (place_Total_sp N):=tg [] [(58,⟨[.r 3 ci,.r 8 ci],[],[],[]⟩)] [] N (.cons (nat_Hold_int_ok N)<|.nil) (.nil) (fun a=>by kernel_rfl)
def store_suits_sp (N:Nat):TSp:=⟨[.st 11,.st 5,.c (.sl 6)],[cb],fun a=>store_suits N a.1 a.2.1 a.2.2.1⟩
theorem store_suits_ok (N:Nat):zba Tryz.prog 81 (store_suits_sp N):=tg [] [(6,⟨[.r 22 cb],[],[],[]⟩),(250,⟨[.r 47 ci],[],[],[]⟩)] [] N (.cons (zc1 N)<|.cons (place_Right_ok N)<|.cons (place_Total_ok N)<|.nil) (.nil) (fun a=>by kernel_rfl)
def zdp (N:Nat):OSp:=⟨.mk [.v (.c (.sl 0))] [] [] [] [] [],[.mk [.p (.hd 0)] [] [.row 0] [] [] []],fun x=>zbc N x⟩
theorem zdm (N:Nat):zbf Tryz.prog 127 (zdp N):=clone_own (i:=0) (sz:=32) (z:=[.c (.lit (.int .i64 0)),.c (.lit (.int .i64 0)),.c (.lit (.int .i64 0)),.c (.lit (.int .i64 0))]) (fn:=Tryz.f127) mix (by kernel_rfl) (by kernel_rfl) (by kernel_rfl) rfl
def vec_Sub_sp (N:Nat):TSp:=⟨[.st 0,.st 0],[.st 0,ci],fun a=>vec_Sub N a.1 a.2.1⟩
theorem vec_Sub_ok (N:Nat):zba Tryz.prog 142 (vec_Sub_sp N):=tg [] [(6,⟨[.r 15 cb],[],[],[]⟩)] [(917522,[.mk [.ag [.cx,.cx]] [] [] [(1000000,0)] [] []]),(917524,[.mk [.ag [.cx,.cx]] [] [] [(1000000,0)] [] []]),(1966112,[.mk [.v (.st 0),.v ci] [] [] [(1000000,1)] [] []])] N (.cons (zcl N)<|.nil) (.cons (vec_split_o09e8xok N)<|.cons (vec_within_ocd27xok N)<|.nil) (fun a=>by kernel_rfl)
def ledger_Ledger_change_o8350xsp (N:Nat):OSp:=⟨.mk [.p (.pt 0 0 2),.v (.st 7),.p (.k (.c (.fn (.func 142) [] [])))] [] [.cells [xl 0,.mr 1],.mp 7 true] [] [] [],[.mk [.v (.c (.sl 0)),.v ci] [] [] [] [(58,⟨[.r 21 ci,.w 3 0],[(8,3)],[],[]⟩)] [(393233,[.mk [.p (.hd 3)] [] [.row 0] [(1000000,0)] [] []])]],fun (_,a1,a2)=>zbl N a1 a2⟩
theorem ledger_Ledger_change_o8350xok (N:Nat):zbf Tryz.prog 137 (ledger_Ledger_change_o8350xsp N):=og (g:=137) N (.cons (vec_Times_ok N)<|.cons (vec_Sub_ok N)<|.nil) (.cons (zdm N)<|.nil) (by kernel_rfl) (fun x=>by kernel_rfl)
def ledger_Ledger_Take_o6c47xsp (N:Nat):OSp:=⟨.mk [.p (.pt 0 0 2),.v (.st 7)] [] [.cells [xl 0,.mr 1],.mp 7 true] [] [] [],[.mk [.v ci] [.h 0 0 (xl 0),.m 1 7 true] [] [] [(14,⟨[.r 41 cb],[],[],[]⟩)] [(4063288,[.mk [.v (.c (.sl 0)),.v ci] [] [] [(1000000,0)] [] []])]],fun (a0,a1,a2)=>za3 N a0 a1 a2⟩
theorem zcZ (N:Nat):zbf Tryz.prog 82 (ledger_Ledger_Take_o6c47xsp N):=og (g:=82) N (.cons (ledger_own_ok N)<|.cons (place_Right_ok N)<|.cons (zcl N)<|.nil) (.cons (ledger_Ledger_change_o8350xok N)<|.nil) (by kernel_rfl) (fun x=>by kernel_rfl)
def store_allocations_sp (N:Nat):TSp:=⟨[.st 11,.st 17],[cb],fun a=>zc7 N a.1 a.2.1⟩
theorem store_allocations_ok (N:Nat):zba Tryz.prog 155 (store_allocations_sp N):=tg [] [(250,⟨[.r 7 (.c (.sl 7)),.r 23 ci,.h 2 0 (.sl 0),.m 3 7 true],[],[],[]⟩),(2003,⟨[.r 7 (.c (.sl 7)),.h 2 0 (.sl 0),.m 3 7 true],[],[],[]⟩),(256415,⟨[.r 74 cb,.h 2 0 (.sl 0),.m 3 7 true],[],[],[]⟩)] [(393229,[.mk [.p (.k (.c (.lit (.pointer none)))),.p (.k (.c (.lit (.int .i64 2))))] [] [] [(1000000,0)] [] [],.mk [.p (.pt 2 0 2),.p (.k (.c (.lit (.int .i64 0))))] [] [.cells [xl 0,.mr 3],.mp 7 true] [] [] []]),(33608826952,[.mk [.v ci] [.h 2 0 (xl 0),.m 3 7 true] [] [(1000000,1)] [] []])] N (.cons (life_Has_ok N)<|.cons (store_suits_ok N)<|.nil) (.cons (ledger_New_oe6df_ok N)<|.cons (zcZ N)<|.nil) (fun a=>by kernel_rfl)
def book_whole_sp (N:Nat):TSp:=⟨[.st 8,ci],[cb],fun a=>book_whole N a.1 a.2.1⟩
theorem book_whole_ok (N:Nat):zba Tryz.prog 147 (book_whole_sp N):=tg [] [] [] N (.nil) (.nil) (fun a=>by kernel_rfl)
def book_Meets_sp (N:Nat):TSp:=⟨[.c (.sl 8),ci,ci,ci],[cb],fun a=>book_Meets N a.1 a.2.1 a.2.2.1 a.2.2.2.1⟩
theorem book_Meets_ok (N:Nat):zba Tryz.prog 86 (book_Meets_sp N):=tg [] [(26,⟨[.r 13 ci],[],[],[]⟩)] [] N (.nil) (.nil) (fun a=>by kernel_rfl)
def book_Right_sp (N:Nat):TSp:=⟨[.c (.sl 8),ci],[cb],fun a=>book_Right N a.1 a.2.1⟩
theorem book_Right_ok (N:Nat):zba Tryz.prog 146 (book_Right_sp N):=tg [] [(58,⟨[.r 12 ci],[],[],[]⟩),(3737,⟨[.r 47 cb],[],[],[]⟩)] [] N (.cons (book_whole_ok N)<|.cons (book_Meets_ok N)<|.nil) (.nil) (fun a=>by kernel_rfl)
def store_bookings_sp (N:Nat):TSp:=⟨[.st 11,.st 17],[cb],fun a=>store_bookings N a.1 a.2.1⟩
theorem store_bookings_ok (N:Nat):zba Tryz.prog 156 (store_bookings_sp N):=tg [] [(58,⟨[.r 23 ci],[],[],[]⟩),(122,⟨[.r 43 ci],[],[],[]⟩),(125342,⟨[.r 60 ci],[],[],[]⟩)] [] N (.cons (book_Right_ok N)<|.cons (store_find_ok N)<|.cons (book_Meets_ok N)<|.nil) (.nil) (fun a=>by kernel_rfl)
def share_Right_sp (N:Nat):TSp:=⟨[.c (.sl 1)],[cb],fun a=>share_Right N a.1⟩
theorem share_Right_ok (N:Nat):zba Tryz.prog 90 (share_Right_sp N):=tg [] [(26,⟨[.r 7 ci],[],[],[]⟩)] [] N (.nil) (.nil) (fun a=>by kernel_rfl)
def store_usage_sp (N:Nat):TSp:=⟨[.st 11,.st 17],[cb],fun a=>store_usage N a.1 a.2.1⟩
theorem store_usage_ok (N:Nat):zba Tryz.prog 157 (store_usage_sp N):=tg [] [(6,⟨[.r 18 cb],[],[],[]⟩),(14,⟨[.r 33 cb],[],[],[]⟩),(122,⟨[.r 38 ci],[],[],[]⟩)] [] N (.cons (store_within_ok N)<|.cons (share_Right_ok N)<|.nil) (.nil) (fun a=>by kernel_rfl)
def store_Sound_sp (N:Nat):TSp:=⟨[.st 11,.st 17],[cb],fun a=>store_Sound N a.1 a.2.1⟩
theorem store_Sound_ok (N:Nat):zba Tryz.prog 97 (store_Sound_sp N):=tg [] [] [] N (.cons (zcq N)<|.cons (store_numbers_ok N)<|.cons (store_jobs_ok N)<|.cons (store_waiting_ok N)<|.cons (store_allocations_ok N)<|.cons (store_bookings_ok N)<|.cons (store_usage_ok N)<|.nil) (.nil) (fun a=>by kernel_rfl)
def zck (N:Nat):OSp:=⟨.mk [.v (.c (.sl 8))] [] [] [] [] [],[.mk [.p (.hd 0)] [] [.row 8] [] [] []],fun x=>zaE N x⟩
theorem zcj (N:Nat):zbf Tryz.prog 53 (zck N):=clone_own (i:=8) (sz:=32) (z:=[.c (.lit (.int .i64 0)),.c (.lit (.int .i64 0)),.c (.lit (.int .i64 0)),.c (.lit (.int .i64 0))]) (fn:=Tryz.f53) mix (by kernel_rfl) (by kernel_rfl) (by kernel_rfl) rfl
def slices_Clone_Lint_int_own_sp (N:Nat):OSp:=⟨.mk [.v (.c (.sl 1))] [] [] [] [] [],[.mk [.p (.hd 0)] [] [.row 1] [] [] []],fun x=>za0 N x⟩
theorem slices_Clone_Lint_int_own_ok (N:Nat):zbf Tryz.prog 54 (slices_Clone_Lint_int_own_sp N):=clone_own (i:=1) (sz:=8) (z:=[.c (.lit (.int .i64 0))]) (fn:=Tryz.f54) mix (by kernel_rfl) (by kernel_rfl) (by kernel_rfl) rfl
def store_Of_ob442xsp (N:Nat):OSp:=⟨.mk [.v (.st 11),.v (.st 17)] [] [] [] [] [],[.mk [.p (.k (.c (.lit (.pointer none)))),.v ci] [] [] [] [(250,⟨[.r 29 ci,.w 7 5],[],[(1051649,5)],[(3,1,7)]⟩),(506,⟨[.r 46 ci,.h 4 0 (.sl 0),.m 6 7 true],[],[],[]⟩)] [(917524,[.mk [.p (.k (.c (.lit (.pointer none)))),.p (.k (.c (.lit (.int .i64 2))))] [] [] [(1000000,0)] [] [],.mk [.p (.pt 2 0 27),.p (.k (.c (.lit (.int .i64 0))))] [] [.cells [.pt 3 0 2,.pt 4 0 2,xl 0,xl 2,xl 3,xi,xi,xi,xi,xi,xi,xi,xi,xi,xi,xi,xi,xi,xi,xi,xi,xi,xi,xn,xl 1,.hd 5,xi],.cells [xi,xn],.cells [xl 0,.mr 6],.row 1,.mp 7 true] [] [] []]),(33423438,[.mk [.p (.hd 8)] [] [.row 8] [(1000000,3)] [] []]),(66977876,[.mk [.p (.hd 9)] [] [.row 1] [(1000000,4)] [] []]),(134086747,[.mk [.p (.hd 10)] [] [.row 1] [(1000000,4)] [] []]),(2100428838,[.mk [.v ci] [.h 3 1 (.hd 7),.w 7 5] [] [(1000000,1)] [] []]),(4247912503,[.mk [.v ci] [.h 4 0 (xl 0),.m 6 7 true] [] [(1000000,2)] [] []])],.mk [.p (.pt 0 0 27),.p (.k (.c (.lit (.int .i64 0))))] [] [.cells [.pt 1 0 2,.pt 2 0 2,xl 0,xl 2,xl 3,xi,xi,xi,xi,xi,xi,xi,xi,xi,xi,xi,xi,xi,xi,xi,xi,xi,xi,xl 8,xl 1,.hd 3,xi],.cells [xi,.hd 4],.cells [xl 0,.mr 5],.row 1,.row 5,.mp 7 true] [] [] []],fun (a0,a1)=>zcw N a0 a1⟩
theorem store_Of_ob442xok (N:Nat):zbf Tryz.prog 46 (store_Of_ob442xsp N):=og (g:=46) N (.cons (store_Sound_ok N)<|.nil) (.cons (store_New_o49f9xok N)<|.cons (zci N)<|.cons (zcZ N)<|.cons (zcj N)<|.cons (slices_Clone_Lint_int_own_ok N)<|.nil) (by kernel_rfl) (fun x=>by kernel_rfl)
def drayageref07xin_sp (N:Nat):TSp:=⟨[ci,ci,ci],[cb],fun a=>zah N a.1 a.2.1 a.2.2.1⟩
theorem zcF (N:Nat):zba Tryz.prog 212 (drayageref07xin_sp N):=tg [] [] [] N (.nil) (.nil) (fun a=>by kernel_rfl)
def drayageref02xright_sp (N:Nat):TSp:=⟨[ci],[cb],fun a=>zbw N a.1⟩
theorem drayageref02xright_ok (N:Nat):zba Tryz.prog 216 (drayageref02xright_sp N):=tg [] [] [] N (.nil) (.nil) (fun a=>by kernel_rfl)
def drayageref02xRight_sp (N:Nat):TSp:=⟨[.st 0],[cb],fun a=>zaA N a.1⟩
theorem zbX (N:Nat):zba Tryz.prog 160 (drayageref02xRight_sp N):=tg [] [] [] N (.cons (drayageref02xright_ok N)<|.nil) (.nil) (fun a=>by kernel_rfl)
def drayageref07xnodes_sp (N:Nat):TSp:=⟨[.st 11],[cb],fun a=>zbV N a.1⟩
theorem drayageref07xnodes_ok (N:Nat):zba Tryz.prog 213 (drayageref07xnodes_sp N):=tg [] [(26,⟨[.r 3 ci],[],[],[]⟩)] [] N (.cons (zbX N)<|.cons (zcF N)<|.nil) (.nil) (fun a=>by kernel_rfl)
def drayageref07xRising_sp (N:Nat):TSp:=⟨[.c (.sl 1),ci],[cb],fun a=>zbI N a.1 a.2.1⟩
theorem drayageref07xRising_ok (N:Nat):zba Tryz.prog 247 (drayageref07xRising_sp N):=tg [] [(26,⟨[.r 5 ci],[],[],[]⟩),(420,⟨[.r 40 cb],[],[],[]⟩)] [] N (.nil) (.nil) (fun a=>by kernel_rfl)
def drayageref07xparts_sp (N:Nat):TSp:=⟨[.st 11],[cb],fun a=>zb2 N a.1⟩
theorem drayageref07xparts_ok (N:Nat):zba Tryz.prog 214 (drayageref07xparts_sp N):=tg [] [(26,⟨[.r 3 ci],[],[],[]⟩),(420,⟨[.r 29 cb],[],[],[]⟩)] [] N (.cons (drayageref07xRising_ok N)<|.cons (zcF N)<|.nil) (.nil) (fun a=>by kernel_rfl)
def drayageref07xqueues_sp (N:Nat):TSp:=⟨[.st 11],[cb],fun a=>zbK N a.1⟩
theorem drayageref07xqueues_ok (N:Nat):zba Tryz.prog 215 (drayageref07xqueues_sp N):=tg [] [(26,⟨[.r 3 ci],[],[],[]⟩),(841,⟨[.r 59 cb],[],[],[]⟩)] [] N (.cons (drayageref07xRising_ok N)<|.cons (zcF N)<|.nil) (.nil) (fun a=>by kernel_rfl)
def drayageref07xFlaw_sp (N:Nat):TSp:=⟨[.st 11],[.c .str],fun a=>drayageref07xFlaw N a.1⟩
theorem drayageref07xFlaw_ok (N:Nat):zba Tryz.prog 158 (drayageref07xFlaw_sp N):=tg [(28,19),(69,20)] [(7,⟨[.r 4 cb],[],[],[]⟩),(506,⟨[.r 7 ci],[],[],[]⟩)] [] N (.cons (drayageref07xnodes_ok N)<|.cons (drayageref07xparts_ok N)<|.cons (zcF N)<|.cons (drayageref07xqueues_ok N)<|.nil) (.nil) (fun a=>by kernel_rfl)
def drayageref07xRight_sp (N:Nat):TSp:=⟨[.st 11],[cb],fun a=>zb4 N a.1⟩
theorem drayageref07xRight_ok (N:Nat):zba Tryz.prog 98 (drayageref07xRight_sp N):=tg [] [] [] N (.cons (drayageref07xFlaw_ok N)<|.nil) (.nil) (fun a=>by kernel_rfl)
def drayageref05xRight_sp (N:Nat):TSp:=⟨[ci],[cb],fun a=>zaX N a.1⟩
theorem drayageref05xRight_ok (N:Nat):zba Tryz.prog 99 (drayageref05xRight_sp N):=tg [] [] [] N (.nil) (.nil) (fun a=>by kernel_rfl)
def drayageref17xFind_sp (N:Nat):TSp:=⟨[.c (.sl 5),ci],[ci],fun a=>za5 N a.1 a.2.1⟩
theorem zdg (N:Nat):zba Tryz.prog 19 (drayageref17xFind_sp N):=tg [] [(26,⟨[.r 5 ci],[],[],[]⟩)] [] N (.nil) (.nil) (fun a=>by kernel_rfl)
def drayageref11xRight_sp (N:Nat):TSp:=⟨[.c (.sl 6),ci],[cb],fun a=>zbe N a.1 a.2.1⟩
theorem drayageref11xRight_ok (N:Nat):zba Tryz.prog 159 (drayageref11xRight_sp N):=tg [] [(26,⟨[.r 5 ci],[],[],[]⟩),(420,⟨[.r 60 cb],[],[],[]⟩)] [] N (.nil) (.nil) (fun a=>by kernel_rfl)
def drayageref11xOn_sp (N:Nat):TSp:=⟨[.c (.sl 6),ci],[ci],fun a=>zcW N a.1 a.2.1⟩
theorem drayageref11xOn_ok (N:Nat):zba Tryz.prog 29 (drayageref11xOn_sp N):=tg [] [(58,⟨[.r 5 ci,.r 6 ci],[],[],[]⟩),(233,⟨[.r 5 ci],[],[],[]⟩)] [] N (.nil) (.nil) (fun a=>by kernel_rfl)
def drayageref02xAdd_sp (N:Nat):TSp:=⟨[.st 0,.st 0],[.st 0],fun a=>zbz N a.1 a.2.1⟩
theorem zdB (N:Nat):zba Tryz.prog 30 (drayageref02xAdd_sp N):=tg [] [] [] N (.nil) (.nil) (fun a=>by kernel_rfl)
def drayageref11xTimes_sp (N:Nat):TSp:=⟨[.st 0,ci],[.st 0],fun a=>zcK N a.1 a.2.1⟩
theorem drayageref11xTimes_ok (N:Nat):zba Tryz.prog 28 (drayageref11xTimes_sp N):=tg [] [(58,⟨[.r 6 ci,.h 2 0 (.int .i64),.h 2 1 (.int .i64),.h 2 2 (.int .i64),.h 2 3 (.int .i64)],[],[],[]⟩)] [] N (.cons (zdB N)<|.nil) (.nil) (fun a=>by kernel_rfl)
def drayageref02xFits_sp (N:Nat):TSp:=⟨[.st 0,.st 0],[cb],fun a=>zau N a.1 a.2.1⟩
theorem zdf (N:Nat):zba Tryz.prog 217 (drayageref02xFits_sp N):=tg [] [] [] N (.nil) (.nil) (fun a=>by kernel_rfl)
def drayageref02xSub_sp (N:Nat):TSp:=⟨[.st 0,.st 0],[.st 0],fun a=>drayageref02xSub N a.1 a.2.1⟩
theorem drayageref02xSub_ok (N:Nat):zba Tryz.prog 218 (drayageref02xSub_sp N):=tg [] [] [] N (.nil) (.nil) (fun a=>by kernel_rfl)
def drayageref14xLeft_sp (N:Nat):TSp:=⟨[.c (.sl 0),.c (.sl 7)],[.c (.sl 0),cb],fun a=>zc8 N a.1 a.2.1⟩
theorem drayageref14xLeft_ok (N:Nat):zba Tryz.prog 161 (drayageref14xLeft_sp N):=tg [(55,0)] [(122,⟨[.r 7 cb,.r 8 ci,.w 0 0],[(6,0)],[(6,0)],[]⟩),(7827,⟨[.r 7 cb],[],[],[]⟩),(31306,⟨[.r 10 ci,.h 1 0 (.int .i64),.h 1 1 (.int .i64),.h 1 2 (.int .i64),.h 1 3 (.int .i64)],[],[],[]⟩)] [] N (.cons (drayageref11xOn_ok N)<|.cons (drayageref11xTimes_ok N)<|.cons (zdB N)<|.cons (drayageref02xSub_ok N)<|.cons (zdf N)<|.nil) (.nil) (fun a=>by kernel_rfl)
def drayageref23xallocs_sp (N:Nat):TSp:=⟨[.st 11,.st 17],[cb],fun a=>zco N a.1 a.2.1⟩
theorem drayageref23xallocs_ok (N:Nat):zba Tryz.prog 100 (drayageref23xallocs_sp N):=tg [] [(26,⟨[.r 5 ci],[],[],[]⟩),(841,⟨[.r 57 cb],[],[],[]⟩)] [] N (.cons (zdg N)<|.cons (drayageref11xRight_ok N)<|.cons (zbX N)<|.cons (drayageref14xLeft_ok N)<|.nil) (.nil) (fun a=>by kernel_rfl)
def drayageref23xTaken_sp (N:Nat):TSp:=⟨[.st 17,ci,ci],[cb],fun a=>zcJ N a.1 a.2.1 a.2.2.1⟩
theorem drayageref23xTaken_ok (N:Nat):zba Tryz.prog 162 (drayageref23xTaken_sp N):=tg [] [(26,⟨[.r 7 ci],[],[],[]⟩),(841,⟨[.r 54 cb],[],[],[]⟩)] [] N (.cons (zdg N)<|.cons (drayageref11xOn_ok N)<|.nil) (.nil) (fun a=>by kernel_rfl)
def drayageref12xOne_sp (N:Nat):TSp:=⟨[.st 8,ci],[cb],fun a=>zdq N a.1 a.2.1⟩
theorem drayageref12xOne_ok (N:Nat):zba Tryz.prog 219 (drayageref12xOne_sp N):=tg [] [] [] N (.cons (drayageref05xRight_ok N)<|.nil) (.nil) (fun a=>by kernel_rfl)
def drayageref12xMeets_sp (N:Nat):TSp:=⟨[.c (.sl 8),ci,ci,ci],[cb],fun a=>zcE N a.1 a.2.1 a.2.2.1 a.2.2.2.1⟩
theorem drayageref12xMeets_ok (N:Nat):zba Tryz.prog 220 (drayageref12xMeets_sp N):=tg [] [(26,⟨[.r 9 ci],[],[],[]⟩)] [] N (.nil) (.nil) (fun a=>by kernel_rfl)
def drayageref12xRight_sp (N:Nat):TSp:=⟨[.c (.sl 8),ci],[cb],fun a=>zcH N a.1 a.2.1⟩
theorem drayageref12xRight_ok (N:Nat):zba Tryz.prog 163 (drayageref12xRight_sp N):=tg [] [(26,⟨[.r 5 ci],[],[],[]⟩),(3366,⟨[.r 6 ci],[],[],[]⟩),(53860,⟨[.r 58 cb],[],[],[]⟩)] [] N (.cons (drayageref12xOne_ok N)<|.cons (drayageref12xMeets_ok N)<|.nil) (.nil) (fun a=>by kernel_rfl)
def drayageref23xbooks_sp (N:Nat):TSp:=⟨[.st 11,.st 17],[cb],fun a=>zcC N a.1 a.2.1⟩
theorem drayageref23xbooks_ok (N:Nat):zba Tryz.prog 101 (drayageref23xbooks_sp N):=tg [] [(26,⟨[.r 5 ci],[],[],[]⟩),(841,⟨[.r 38 cb],[],[],[]⟩)] [] N (.cons (drayageref23xTaken_ok N)<|.cons (drayageref12xRight_ok N)<|.nil) (.nil) (fun a=>by kernel_rfl)
def drayageref23xUse_sp (N:Nat):TSp:=⟨[.c (.sl 1),ci],[cb],fun a=>zdr N a.1 a.2.1⟩
theorem drayageref23xUse_ok (N:Nat):zba Tryz.prog 102 (drayageref23xUse_sp N):=tg [] [(26,⟨[.r 5 ci],[],[],[]⟩),(420,⟨[.r 23 cb],[],[],[]⟩)] [] N (.nil) (.nil) (fun a=>by kernel_rfl)
def drayageref16xin_sp (N:Nat):TSp:=⟨[ci,ci,ci],[cb],fun a=>zav N a.1 a.2.1 a.2.2.1⟩
theorem drayageref16xin_ok (N:Nat):zba Tryz.prog 221 (drayageref16xin_sp N):=tg [] [] [] N (.nil) (.nil) (fun a=>by kernel_rfl)
def drayageref16xRight_sp (N:Nat):TSp:=⟨[.st 5],[cb],fun a=>zcA N a.1⟩
theorem drayageref16xRight_ok (N:Nat):zba Tryz.prog 164 (drayageref16xRight_sp N):=tg [] [(14,⟨[.r 61 cb],[],[],[]⟩),(26,⟨[.r 3 ci],[],[],[]⟩),(30,⟨[.r 85 cb],[],[],[]⟩),(62,⟨[.r 101 cb],[],[],[]⟩),(126,⟨[.r 119 cb],[],[],[]⟩)] [] N (.cons (drayageref16xin_ok N)<|.cons (zbX N)<|.cons (zdf N)<|.nil) (.nil) (fun a=>by kernel_rfl)
def drayageref14xFind_sp (N:Nat):TSp:=⟨[.c (.sl 7),ci],[ci],fun a=>zc2 N a.1 a.2.1⟩
theorem drayageref14xFind_ok (N:Nat):zba Tryz.prog 27 (drayageref14xFind_sp N):=tg [] [(26,⟨[.r 5 ci],[],[],[]⟩)] [] N (.nil) (.nil) (fun a=>by kernel_rfl)
def drayageref23xHas_sp (N:Nat):TSp:=⟨[.st 5],[cb],fun a=>zdz N a.1⟩
theorem drayageref23xHas_ok (N:Nat):zba Tryz.prog 165 (drayageref23xHas_sp N):=tg [] [] [] N (.nil) (.nil) (fun a=>by kernel_rfl)
def drayageref02xCount_sp (N:Nat):TSp:=⟨[.st 0,.st 0],[ci],fun a=>zbY N a.1 a.2.1⟩
theorem drayageref02xCount_ok (N:Nat):zba Tryz.prog 248 (drayageref02xCount_sp N):=tg [] [(6,⟨[.r 19 cb],[],[],[]⟩),(124,⟨[.r 5 ci,.h 2 0 (.int .i64),.h 2 1 (.int .i64),.h 2 2 (.int .i64),.h 2 3 (.int .i64)],[],[],[]⟩),(496,⟨[.r 27 cb],[],[],[]⟩)] [] N (.cons (zdB N)<|.cons (zdf N)<|.cons (zbX N)<|.nil) (.nil) (fun a=>by kernel_rfl)
def drayageref07xRoom_sp (N:Nat):TSp:=⟨[.st 11,ci,.st 0],[ci],fun a=>drayageref07xRoom N a.1 a.2.1 a.2.2.1⟩
theorem drayageref07xRoom_ok (N:Nat):zba Tryz.prog 222 (drayageref07xRoom_sp N):=tg [] [(122,⟨[.r 7 ci,.r 8 ci],[],[],[]⟩)] [] N (.cons (drayageref02xCount_ok N)<|.nil) (.nil) (fun a=>by kernel_rfl)
def drayageref07xFits_sp (N:Nat):TSp:=⟨[.st 11,ci,ci,.st 0],[cb],fun a=>zb9 N a.1 a.2.1 a.2.2.1 a.2.2.2.1⟩
theorem drayageref07xFits_ok (N:Nat):zba Tryz.prog 166 (drayageref07xFits_sp N):=tg [] [] [] N (.cons (drayageref07xRoom_ok N)<|.nil) (.nil) (fun a=>by kernel_rfl)
def drayageref11xTotal_sp (N:Nat):TSp:=⟨[.c (.sl 6)],[ci],fun a=>zcG N a.1⟩
theorem drayageref11xTotal_ok (N:Nat):zba Tryz.prog 223 (drayageref11xTotal_sp N):=tg [] [(58,⟨[.r 3 ci,.r 4 ci],[],[],[]⟩),(233,⟨[.r 3 ci],[],[],[]⟩)] [] N (.nil) (.nil) (fun a=>by kernel_rfl)
def drayageref01xHas_sp (N:Nat):TSp:=⟨[.c (.sl 1),ci],[cb],fun a=>zdx N a.1 a.2.1⟩
theorem drayageref01xHas_ok (N:Nat):zba Tryz.prog 224 (drayageref01xHas_sp N):=tg [] [(26,⟨[.r 5 ci],[],[],[]⟩)] [] N (.nil) (.nil) (fun a=>by kernel_rfl)
def drayageref23xMine_sp (N:Nat):TSp:=⟨[.st 11,.st 5,.c (.sl 6)],[cb],fun a=>zc3 N a.1 a.2.1 a.2.2.1⟩
theorem drayageref23xMine_ok (N:Nat):zba Tryz.prog 167 (drayageref23xMine_sp N):=tg [] [(6,⟨[.r 34 cb],[],[],[]⟩),(122,⟨[.r 8 ci],[],[],[]⟩)] [] N (.cons (drayageref01xHas_ok N)<|.cons (drayageref11xRight_ok N)<|.cons (drayageref11xTotal_ok N)<|.nil) (.nil) (fun a=>by kernel_rfl)
def drayageref23xjob_sp (N:Nat):TSp:=⟨[.st 11,.st 17,.st 5],[cb],fun a=>zdy N a.1 a.2.1 a.2.2.1⟩
theorem drayageref23xjob_ok (N:Nat):zba Tryz.prog 103 (drayageref23xjob_sp N):=tg [] [(15,⟨[.r 7 ci],[],[],[]⟩),(31,⟨[.r 7 ci],[],[],[]⟩),(63,⟨[.r 7 ci],[],[],[]⟩),(510,⟨[.r 83 cb],[],[],[]⟩),(8186,⟨[.r 9 ci],[],[],[]⟩)] [] N (.cons (drayageref16xRight_ok N)<|.cons (drayageref14xFind_ok N)<|.cons (zdg N)<|.cons (drayageref07xFits_ok N)<|.cons (drayageref23xHas_ok N)<|.cons (drayageref23xMine_ok N)<|.nil) (.nil) (fun a=>by kernel_rfl)
def drayageref23xSound_sp (N:Nat):TSp:=⟨[.st 11,.st 17],[cb],fun a=>zbW N a.1 a.2.1⟩
theorem drayageref23xSound_ok (N:Nat):zba Tryz.prog 47 (drayageref23xSound_sp N):=tg [] [(6,⟨[.r 43 cb],[],[],[]⟩),(14,⟨[.r 86 cb],[],[],[]⟩),(122,⟨[.r 5 ci],[],[],[]⟩),(250,⟨[.r 6 ci],[],[],[]⟩),(4004,⟨[.r 138 cb],[],[],[]⟩)] [] N (.cons (drayageref05xRight_ok N)<|.cons (drayageref23xjob_ok N)<|.cons (drayageref23xallocs_ok N)<|.cons (drayageref23xbooks_ok N)<|.cons (drayageref23xUse_ok N)<|.cons (drayageref07xRight_ok N)<|.nil) (.nil) (fun a=>by kernel_rfl)
end Go.Abs
end
end
section
set_option maxRecDepth 100000
noncomputable section
namespace Go.Abs
open Go.Proofs
variable [Gl]
def store_Store_State_o679b_sp (N:Nat):OSp:=⟨.mk [.p (.pt 0 0 27)] [] [.cells [.pt 1 0 2,.pt 2 0 2,xl 0,xl 2,xl 3,xi,xi,xi,xi,xi,xi,xi,xi,xi,xi,xi,xi,xi,xi,xi,xi,xi,xi,xl 8,xl 1,.hd 3,xi],.cells [xi,.hd 4],.cells [xl 0,.mr 5],.row 1,.row 5,.mp 7 true] [] [] [],[.mk [.v (.st 17)] [] [] [] [] [(917526,[.mk [.v (.c (.sl 5))] [] [] [(1000000,0)] [] []]),(917531,[.mk [.v (.c (.sl 7))] [] [] [(1000000,1)] [] []]),(917547,[.mk [.p (.hd 7)] [] [.row 1] [(1000000,2)] [] []])]],fun (a0,a1,a2,_,_,_,_,_,_,_,_,_,_,_,_,_,_,_,_,_,_,a21,a22,a23,a24,a25,a26,_,_)=>zar N a0 a1 a2 a21 a22 a23 a24 a25 a26⟩
theorem zbk (N:Nat):zbf Tryz.prog 13 (store_Store_State_o679b_sp N):=og (g:=13) N (.cons (zaH N)<|.cons (zbv N)<|.nil) (.cons (zdH N)<|.cons (zbN N)<|.cons (zbJ N)<|.nil) (by kernel_rfl) (fun x=>by kernel_rfl)
def drayageref16xSame_sp (N:Nat):TSp:=⟨[.st 5,.st 5],[cb],fun a=>zcc N a.1 a.2.1⟩
theorem drayageref16xSame_ok (N:Nat):zba Tryz.prog 15 (drayageref16xSame_sp N):=tg [] [(58,⟨[.r 5 ci],[],[],[]⟩)] [] N (.nil) (.nil) (fun a=>by kernel_rfl)
def drayageref18xSame_sp (N:Nat):TSp:=⟨[.c (.sl 5),.c (.sl 5)],[cb],fun a=>zda N a.1 a.2.1⟩
theorem drayageref18xSame_ok (N:Nat):zba Tryz.prog 23 (drayageref18xSame_sp N):=tg [] [(58,⟨[.r 5 ci],[],[],[]⟩)] [] N (.cons (drayageref16xSame_ok N)<|.nil) (.nil) (fun a=>by kernel_rfl)
def drayageref11xSame_sp (N:Nat):TSp:=⟨[.c (.sl 6),.c (.sl 6)],[cb],fun a=>zc9 N a.1 a.2.1⟩
theorem drayageref11xSame_ok (N:Nat):zba Tryz.prog 111 (drayageref11xSame_sp N):=tg [] [(58,⟨[.r 5 ci],[],[],[]⟩)] [] N (.nil) (.nil) (fun a=>by kernel_rfl)
def drayageref14xSame_sp (N:Nat):TSp:=⟨[.c (.sl 7),.c (.sl 7)],[cb],fun a=>zc4 N a.1 a.2.1⟩
theorem drayageref14xSame_ok (N:Nat):zba Tryz.prog 55 (drayageref14xSame_sp N):=tg [] [(58,⟨[.r 5 ci],[],[],[]⟩),(932,⟨[.r 54 cb],[],[],[]⟩)] [] N (.cons (drayageref11xSame_ok N)<|.nil) (.nil) (fun a=>by kernel_rfl)
def drayageref12xSame_sp (N:Nat):TSp:=⟨[.c (.sl 8),.c (.sl 8)],[cb],fun a=>zdb N a.1 a.2.1⟩
theorem drayageref12xSame_ok (N:Nat):zba Tryz.prog 56 (drayageref12xSame_sp N):=tg [] [(58,⟨[.r 5 ci],[],[],[]⟩)] [] N (.nil) (.nil) (fun a=>by kernel_rfl)
def drayageref23xSame_sp (N:Nat):TSp:=⟨[.st 17,.st 17],[cb],fun a=>zbp N a.1 a.2.1⟩
theorem drayageref23xSame_ok (N:Nat):zba Tryz.prog 14 (drayageref23xSame_sp N):=tg [] [] [] N (.cons (drayageref18xSame_ok N)<|.cons (drayageref14xSame_ok N)<|.cons (drayageref12xSame_ok N)<|.cons (drayageref01xInts_ok N)<|.nil) (.nil) (fun a=>by kernel_rfl)
def drayagelaw23xOf_o8124xsp (N:Nat):OSp:=⟨.mk [.v (.st 11),.v (.st 17)] [] [] [] [] [],[.mk [.p (.k (.c (.lit (.pointer none)))),.v cb] [] [] [] [] [(393227,[.mk [.p (.k (.c (.lit (.pointer none)))),.v ci] [] [] [(1000000,0)] [] [],.mk [.p (.pt 2 0 27),.p (.k (.c (.lit (.int .i64 0))))] [] [.cells [.pt 3 0 2,.pt 4 0 2,xl 0,xl 2,xl 3,xi,xi,xi,xi,xi,xi,xi,xi,xi,xi,xi,xi,xi,xi,xi,xi,xi,xi,xl 8,xl 1,.hd 5,xi],.cells [xi,.hd 6],.cells [xl 0,.mr 7],.row 1,.row 5,.mp 7 true] [] [] []]),(1966113,[.mk [.v (.st 17)] [] [] [(1000000,1)] [] []])],.mk [.p (.pt 0 0 27),.v cb] [] [.cells [.pt 1 0 2,.pt 2 0 2,xl 0,xl 2,xl 3,xi,xi,xi,xi,xi,xi,xi,xi,xi,xi,xi,xi,xi,xi,xi,xi,xi,xi,xl 8,xl 1,.hd 3,xi],.cells [xi,.hd 4],.cells [xl 0,.mr 5],.row 1,.row 5,.mp 7 true] [] [] []],fun (a0,a1)=>za6 N a0 a1⟩
theorem drayagelaw23xOf_o8124xok (N:Nat):zbf Tryz.prog 11 (drayagelaw23xOf_o8124xsp N):=og (g:=11) N (.cons (drayageref23xSound_ok N)<|.cons (drayageref23xSame_ok N)<|.nil) (.cons (store_Of_ob442xok N)<|.cons (zbk N)<|.nil) (by kernel_rfl) (fun x=>by kernel_rfl)
def store_Store_Spec_obf7fxx_sp (N:Nat):OSp:=⟨.mk [.p (.pt 0 0 27)] [] [.cells [.pt 1 0 2,.pt 2 0 2,xl 0,xl 2,xl 3,xi,xi,xi,xi,xi,xi,xi,xi,xi,xi,xi,xi,xi,xi,xi,xi,xi,xi,xl 8,xl 1,.hd 3,xi],.cells [xi,.hd 4],.cells [xl 0,.mr 5],.row 1,.row 5,.mp 7 true] [] [] [],[.mk [.v (.st 11)] [] [] [] [] []],fun (_,_,_,a3,a4,a5,a6,a7,a8,a9,a10,a11,a12,a13,a14,a15,a16,a17,a18,a19,a20,_,_,_,_,_,_,_,_)=>zay N a3 a4 a5 a6 a7 a8 a9 a10 a11 a12 a13 a14 a15 a16 a17 a18 a19 a20⟩
theorem store_Store_Spec_obf7fxx_ok (N:Nat):zbf Tryz.prog 63 (store_Store_Spec_obf7fxx_sp N):=og (g:=63) N (.cons (zc6 N)<|.nil) (.nil) (by kernel_rfl) (fun x=>by kernel_rfl)
def submit_Check_odca5xsp (N:Nat):OSp:=⟨.mk [.p (.pt 0 0 27),.v ci,.v (.st 15)] [] [.cells [.pt 1 0 2,.pt 2 0 2,xl 0,xl 2,xl 3,xi,xi,xi,xi,xi,xi,xi,xi,xi,xi,xi,xi,xi,xi,xi,xi,xi,xi,xl 8,xl 1,.hd 3,xi],.cells [xi,.hd 4],.cells [xl 0,.mr 5],.row 1,.row 5,.mp 7 true] [] [] [],[.mk [.v ci] [] [] [] [(122,⟨[],[],[(1000003,40)],[]⟩)] [(917518,[.mk [.v (.st 11)] [] [] [(1000000,0)] [] []]),(917520,[.mk [.v (.st 17)] [] [] [(1000000,1)] [] []]),(3932181,[.mk [] [] [] [(1000002,0),(8,1000001)] [] []]),(1026687006,[.mk [.v ci] [] [] [(1000000,2)] [] []]),(13195166220318,[.mk [.v ci] [] [] [(1000000,3)] [] []]),(14294677848094,[.mk [.v ci] [] [] [(1000000,4)] [] []]),(15394189475870,[.mk [.v ci] [] [] [(1000000,5)] [] []]),(16493701103646,[.mk [.v ci] [] [] [(1000000,6)] [] []]),(17593212731422,[.mk [.v ci] [] [] [(1000000,7)] [] []]),(18692724359198,[.mk [.v ci] [] [] [(1000000,8)] [] []])]],fun (a0,a1,a2,a3,a4,a5,a6,a7,a8,a9,a10,a11,a12,a13,a14,a15,a16,a17,a18,a19,a20,a21,a22,a23,a24,a25,a26,a27,a28,_,_)=>zcz N a0 a1 a2 a3 a4 a5 a6 a7 a8 a9 a10 a11 a12 a13 a14 a15 a16 a17 a18 a19 a20 a21 a22 a23 a24 a25 a26 a27 a28⟩
theorem submit_Check_odca5xok (N:Nat):zbf Tryz.prog 48 (submit_Check_odca5xsp N):=og (g:=48) N (.nil) (.cons (store_Store_Spec_obf7fxx_ok N)<|.cons (zbk N)<|.cons (zbM N)<|.cons (zbR N)<|.cons (zce N)<|.cons (zb5 N)<|.cons (zbQ N)<|.cons (zb6 N)<|.cons (zby N)<|.nil) (by kernel_rfl) (fun x=>by kernel_rfl)
def store_Store_stamp_od610x_sp (N:Nat):OSp:=⟨.mk [.p (.pt 0 0 27),.v ci] [] [.cells [.pt 1 0 2,.pt 2 0 2,xl 0,xl 2,xl 3,xi,xi,xi,xi,xi,xi,xi,xi,xi,xi,xi,xi,xi,xi,xi,xi,xi,xi,xl 8,xl 1,.hd 3,xi],.cells [xi,.hd 4],.cells [xl 0,.mr 5],.row 1,.row 5,.mp 7 true] [] [] [],[.mk [] [.w 3 1,.h 0 25 (.hd 3)] [] [] [] []],fun (a0,_,_,a3,_,_,_,_,_,_,_,_,_,_,_,_,_,_,_,_,_,_,_,_,_,_,_,_,_,_)=>za9 N a0 a3⟩
theorem store_Store_stamp_od610x_ok (N:Nat):zbf Tryz.prog 75 (store_Store_stamp_od610x_sp N):=og (g:=75) N (.cons (store_after_ok N)<|.nil) (.nil) (by kernel_rfl) (fun x=>by kernel_rfl)
def store_Store_Put_o4557x_sp (N:Nat):OSp:=⟨.mk [.p (.pt 0 0 27),.v (.st 5)] [] [.cells [.pt 1 0 2,.pt 2 0 2,xl 0,xl 2,xl 3,xi,xi,xi,xi,xi,xi,xi,xi,xi,xi,xi,xi,xi,xi,xi,xi,xi,xi,xl 8,xl 1,.hd 3,xi],.cells [xi,.hd 4],.cells [xl 0,.mr 5],.row 1,.row 5,.mp 7 true] [] [] [],[.mk [.v ci] [.h 1 1 (.hd 4),.w 4 5,.h 0 21 (xi),.h 0 25 (.hd 3),.w 3 1] [] [] [] [(8126509,[.mk [.v ci] [.h 1 1 (.hd 4),.w 4 5] [] [(1000000,0)] [] []]),(16646203,[.mk [] [.w 3 1,.h 0 25 (.hd 3)] [] [(1000000,1)] [] []])]],fun (a0,a1,_,a3,_,_,_,_,_,_,_,_,_,_,_,a15,_,_,_,_,_,_,_,a23,_,_,_,_,a28,_)=>zaP N a0 a1 a3 a15 a23 a28⟩
theorem store_Store_Put_o4557x_ok (N:Nat):zbf Tryz.prog 34 (store_Store_Put_o4557x_sp N):=og (g:=34) N (.cons (job_Right_ok N)<|.nil) (.cons (zci N)<|.cons (store_Store_stamp_od610x_ok N)<|.nil) (by kernel_rfl) (fun x=>by kernel_rfl)
def submit_Do_oca03xsp (N:Nat):OSp:=⟨.mk [.p (.pt 0 0 27),.v ci,.v (.st 15)] [] [.cells [.pt 1 0 2,.pt 2 0 2,xl 0,xl 2,xl 3,xi,xi,xi,xi,xi,xi,xi,xi,xi,xi,xi,xi,xi,xi,xi,xi,xi,xi,xl 8,xl 1,.hd 3,xi],.cells [xi,.hd 4],.cells [xl 0,.mr 5],.row 1,.row 5,.mp 7 true] [] [] [],[.mk [.v (.st 16)] [.h 0 21 (xi),.h 0 25 (.hd 3),.h 1 1 (.hd 4),.w 3 1,.w 4 5] [] [(30,5),(62,5),(87,1)] [(250,⟨[.r 33 ci,.w 9 5],[(9,9)],[],[]⟩),(506,⟨[.r 67 ci,.h 0 21 (.int .i64),.w 3 1,.w 4 5],[],[],[(0,25,3),(1,1,4)]⟩),(64103,⟨[.h 10 17 (.int .i64)],[],[],[]⟩)] [(786451,[.mk [.v ci] [] [] [(1000000,0)] [] []]),(917531,[.mk [.v (.st 17)] [] [] [(1000000,1)] [] []]),(4247912521,[.mk [.v ci] [.h 1 1 (.hd 4),.w 4 5,.h 0 21 (xi),.h 0 25 (.hd 3),.w 3 1] [] [(1000000,2)] [] []])]],fun (a0,a1,a2,a3,a4,a5,a6,a7,a8,a9,a10,a11,a12,a13,a14,a15,a16,a17,a18,a19,a20,a21,a22,a23,a24,a25,a26,a27,a28,a29,_)=>submit_Do_oca03 N a0 a1 a2 a3 a4 a5 a6 a7 a8 a9 a10 a11 a12 a13 a14 a15 a16 a17 a18 a19 a20 a21 a22 a23 a24 a25 a26 a27 a28 a29⟩
theorem submit_Do_oca03xok (N:Nat):zbf Tryz.prog 12 (submit_Do_oca03xsp N):=og (g:=12) N (.cons (zdu N)<|.cons (job_New_ok N)<|.nil) (.cons (submit_Check_odca5xok N)<|.cons (zbk N)<|.cons (store_Store_Put_o4557x_ok N)<|.nil) (by kernel_rfl) (fun x=>by kernel_rfl)
def drayagelaw24xSubmitKeeps_sp (N:Nat):TSp:=⟨[.st 9,.st 10],[cb],fun a=>zcd N a.1 a.2.1⟩
theorem drayagelaw24xSubmitKeeps_ok (N:Nat):zba Tryz.prog 3 (drayagelaw24xSubmitKeeps_sp N):=tg [(21,10)] [(14,⟨[.r 24 cb],[],[],[]⟩),(16378,⟨[.r 103 ci],[],[],[]⟩),(131027,⟨[],[],[],[]⟩),(4192871,⟨[.r 172 cb],[],[],[]⟩)] [(1966110,[.mk [.p (.k (.c (.lit (.pointer none)))),.v cb] [] [] [(1000000,0)] [] [],.mk [.p (.pt 2 0 27),.v cb] [] [.cells [.pt 3 0 2,.pt 4 0 2,xl 0,xl 2,xl 3,xi,xi,xi,xi,xi,xi,xi,xi,xi,xi,xi,xi,xi,xi,xi,xi,xi,xi,xl 8,xl 1,.hd 5,xi],.cells [xi,.hd 6],.cells [xl 0,.mr 7],.row 1,.row 5,.mp 7 true] [] [] []]),(8257581,[.mk [.v (.st 16)] [.h 2 21 (xi),.h 2 25 (.hd 5),.h 3 1 (.hd 6),.w 5 1,.w 6 5] [] [(1000000,1)] [] []]),(16646191,[.mk [.v (.st 17)] [] [] [(1000000,2)] [] []])] N (.cons (drayagelaw24xawake_ok N)<|.cons (drayageref23xSame_ok N)<|.cons (drayageref16xSame_ok N)<|.cons (drayagelaw23xFew_ok N)<|.cons (drayagelaw24xFew_ok N)<|.nil) (.cons (drayagelaw23xOf_o8124xok N)<|.cons (submit_Do_oca03xok N)<|.cons (zbk N)<|.nil) (fun a=>by kernel_rfl)
end Go.Abs
end
end
section

end
