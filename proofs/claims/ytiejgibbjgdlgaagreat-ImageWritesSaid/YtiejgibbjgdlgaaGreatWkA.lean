/- The code computes these functions. -/
import Derived.Test.YtiejgibbjgdlgaaGreatTyPure
import Derived.Test.YtiejgibbjgdlgaaGreatProg
import Derived.KernelRfl
set_option linter.all false
section
set_option maxRecDepth 100000
noncomputable section
namespace Go.Abs
open Go.Proofs
variable [Gl]
abbrev ci:VCd:=.c (.int .i64)
abbrev cb:VCd:=.c .bool
abbrev xi:CP:=.c (.int .i64)
abbrev xb:CP:=.c .bool
abbrev xl (n:Nat):CP:=.c (.sl n)
abbrev xn:CP:=.k (.c (.lit (.slice none 0 0)))
theorem mix:Tryz.prog.follows .mixedOrders=true:=by kernel_rfl
def KB:InlB:=noK
theorem KB_ok:InlB.ok Tryz.prog KB:=noK_ok
theorem tg {g:Nat} {S:TSs} {s:TSp} (H:List (Nat×Nat)) (J:List (Nat×JH)) (C:List (Nat×List CT)) (N:Nat) (hS:TSsOk Tryz.prog S) {O:OSs} (hO:OSsOk Tryz.prog O) (h:∀a,tG Tryz.prog g S O KB H J C s.ins s.out N a=s.f a):zaX Tryz.prog g s:=tG_ok mix hS hO KB_ok h
theorem og {g:Nat} {S:TSs} {O:OSs} {s:OSp} (N:Nat) (hS:TSsOk Tryz.prog S) (hO:OSsOk Tryz.prog O) (he:enterable Tryz.prog g=true) (h:∀x,oG Tryz.prog g S O KB N s x=s.f x):zcX Tryz.prog g s:=oG_ok mix hS hO KB_ok he h
end Go.Abs
end
end
section
set_option maxRecDepth 100000
noncomputable section
namespace Go.Abs
open Go.Proofs
variable [Gl]
def drayageref07xSmall_sp (N:Nat):TSp:=⟨[],[.st 11],fun a=>zch N⟩
theorem drayageref07xSmall_ok (N:Nat):zaX Tryz.prog 14 (drayageref07xSmall_sp N):=clo_ok (P:=Tryz.prog) (g:=14) (out:=[.st 11]) (fun a=>zch N) mix (by kernel_rfl)
def drayageref23xNew_sp (N:Nat):TSp:=⟨[.st 11],[.st 12],fun a=>drayageref23xNew N a.1⟩
theorem drayageref23xNew_ok (N:Nat):zaX Tryz.prog 15 (drayageref23xNew_sp N):=tg [(7,1),(12,1)] [] [] N (.nil) (.nil) (fun a=>by kernel_rfl)
def vec_numbers_sp (N:Nat):TSp:=⟨[.st 0],[.st 13],fun a=>vec_numbers N a.1⟩
theorem vec_numbers_ok (N:Nat):zaX Tryz.prog 140 (vec_numbers_sp N):=tg [] [] [] N (.nil) (.nil) (fun a=>by kernel_rfl)
def vec_Right_sp (N:Nat):TSp:=⟨[.st 0],[cb],fun a=>zb3 N a.1⟩
theorem zcr (N:Nat):zaX Tryz.prog 114 (vec_Right_sp N):=tg [] [(26,⟨[.r 7 ci],[],[],[]⟩)] [] N (.cons (vec_numbers_ok N)<|.nil) (.nil) (fun a=>by kernel_rfl)
def spec_nodesRight_sp (N:Nat):TSp:=⟨[.st 11],[cb],fun a=>spec_nodesRight N a.1⟩
theorem spec_nodesRight_ok (N:Nat):zaX Tryz.prog 131 (spec_nodesRight_sp N):=tg [] [(58,⟨[.r 18 ci],[],[],[]⟩)] [] N (.cons (zcr N)<|.nil) (.nil) (fun a=>by kernel_rfl)
def spec_ascending_sp (N:Nat):TSp:=⟨[.c (.sl 1),ci],[cb],fun a=>zcU N a.1 a.2.1⟩
theorem spec_ascending_ok (N:Nat):zaX Tryz.prog 150 (spec_ascending_sp N):=tg [] [(58,⟨[.r 5 ci,.r 10 ci],[],[],[]⟩)] [] N (.nil) (.nil) (fun a=>by kernel_rfl)
def spec_partsRight_sp (N:Nat):TSp:=⟨[.st 11],[cb],fun a=>spec_partsRight N a.1⟩
theorem spec_partsRight_ok (N:Nat):zaX Tryz.prog 133 (spec_partsRight_sp N):=tg [] [(58,⟨[.r 18 ci],[],[],[]⟩),(3737,⟨[.r 32 cb],[],[],[]⟩)] [] N (.cons (spec_ascending_ok N)<|.nil) (.nil) (fun a=>by kernel_rfl)
def spec_queuesRight_sp (N:Nat):TSp:=⟨[.st 11],[cb],fun a=>zc2 N a.1⟩
theorem spec_queuesRight_ok (N:Nat):zaX Tryz.prog 136 (spec_queuesRight_sp N):=tg [] [(58,⟨[.r 20 ci],[],[],[]⟩),(7474,⟨[.r 42 cb],[],[],[]⟩),(59802,⟨[.r 50 ci],[],[],[]⟩)] [] N (.cons (spec_ascending_ok N)<|.nil) (.nil) (fun a=>by kernel_rfl)
def spec_weightsRight_sp (N:Nat):TSp:=⟨[.st 14],[cb],fun a=>zcH N a.1⟩
theorem spec_weightsRight_ok (N:Nat):zaX Tryz.prog 138 (spec_weightsRight_sp N):=tg [] [(26,⟨[.r 14 ci],[],[],[]⟩)] [] N (.nil) (.nil) (fun a=>by kernel_rfl)
def spec_Flaw_sp (N:Nat):TSp:=⟨[.st 11],[.c .str],fun a=>spec_Flaw N a.1⟩
theorem spec_Flaw_ok (N:Nat):zaX Tryz.prog 61 (spec_Flaw_sp N):=tg [] [(26,⟨[],[],[(1000003,40)],[]⟩)] [(786438,[.mk [] [] [] [(1000002,0),(43,1000001)] [] [(393225,[.mk [] [] [] [(1000002,0)] [] []]),(393232,[.mk [] [] [] [(1000002,0)] [] []]),(393237,[.mk [] [] [] [(1000002,0)] [] []]),(393240,[.mk [] [] [] [(1000002,0)] [] []]),(393243,[.mk [] [] [] [(1000002,0)] [] []]),(393246,[.mk [] [] [] [(1000002,0)] [] []]),(393249,[.mk [] [] [] [(1000002,0)] [] []]),(393252,[.mk [] [] [] [(1000002,0)] [] []]),(393255,[.mk [] [] [] [(1000002,0)] [] []]),(393258,[.mk [] [] [] [(1000002,0)] [] []])]]),(221380622,[.mk [.v cb] [] [] [] [] []])] N (.cons (spec_nodesRight_ok N)<|.cons (spec_partsRight_ok N)<|.cons (spec_queuesRight_ok N)<|.cons (spec_weightsRight_ok N)<|.nil) (.nil) (fun a=>by kernel_rfl)
def spec_Right_sp (N:Nat):TSp:=⟨[.st 11],[cb],fun a=>zcz N a.1⟩
theorem spec_Right_ok (N:Nat):zaX Tryz.prog 27 (spec_Right_sp N):=tg [] [] [] N (.cons (spec_Flaw_ok N)<|.nil) (.nil) (fun a=>by kernel_rfl)
def store_within_sp (N:Nat):TSp:=⟨[ci,ci,ci],[cb],fun a=>zbT N a.1 a.2.1 a.2.2.1⟩
theorem store_within_ok (N:Nat):zaX Tryz.prog 76 (store_within_sp N):=tg [] [] [] N (.nil) (.nil) (fun a=>by kernel_rfl)
def store_numbers_sp (N:Nat):TSp:=⟨[.st 11,.st 12],[cb],fun a=>store_numbers N a.1 a.2.1⟩
theorem store_numbers_ok (N:Nat):zaX Tryz.prog 41 (store_numbers_sp N):=tg [] [] [] N (.cons (store_within_ok N)<|.nil) (.nil) (fun a=>by kernel_rfl)
def job_within_sp (N:Nat):TSp:=⟨[ci,ci,ci],[cb],fun a=>zbe N a.1 a.2.1 a.2.2.1⟩
theorem job_within_ok (N:Nat):zaX Tryz.prog 113 (job_within_sp N):=tg [] [] [] N (.nil) (.nil) (fun a=>by kernel_rfl)
def job_afterRight_sp (N:Nat):TSp:=⟨[.st 5],[cb],fun a=>job_afterRight N a.1⟩
theorem job_afterRight_ok (N:Nat):zaX Tryz.prog 115 (job_afterRight_sp N):=tg [] [(58,⟨[.r 12 ci],[],[],[]⟩)] [] N (.cons (job_within_ok N)<|.nil) (.nil) (fun a=>by kernel_rfl)
def life_Name_sp (N:Nat):TSp:=⟨[ci],[.c .str],fun a=>life_Name N a.1⟩
theorem life_Name_ok (N:Nat):zaX Tryz.prog 141 (life_Name_sp N):=tg [] [] [] N (.nil) (.nil) (fun a=>by kernel_rfl)
def life_Waits_sp (N:Nat):TSp:=⟨[ci],[cb],fun a=>life_Waits N a.1⟩
theorem life_Waits_ok (N:Nat):zaX Tryz.prog 142 (life_Waits_sp N):=tg [] [] [] N (.nil) (.nil) (fun a=>by kernel_rfl)
def life_Over_sp (N:Nat):TSp:=⟨[ci],[cb],fun a=>life_Over N a.1⟩
theorem life_Over_ok (N:Nat):zaX Tryz.prog 79 (life_Over_sp N):=tg [] [] [] N (.nil) (.nil) (fun a=>by kernel_rfl)
def job_stateRight_sp (N:Nat):TSp:=⟨[.st 5],[cb],fun a=>job_stateRight N a.1⟩
theorem job_stateRight_ok (N:Nat):zaX Tryz.prog 116 (job_stateRight_sp N):=tg [] [(51,⟨[.r 8 cb],[],[],[]⟩),(207,⟨[.r 17 cb],[],[],[]⟩)] [] N (.cons (life_Name_ok N)<|.cons (life_Over_ok N)<|.cons (life_Waits_ok N)<|.nil) (.nil) (fun a=>by kernel_rfl)
def job_Right_sp (N:Nat):TSp:=⟨[.st 5],[cb],fun a=>job_Right N a.1⟩
theorem job_Right_ok (N:Nat):zaX Tryz.prog 77 (job_Right_sp N):=tg [] [] [] N (.cons (job_within_ok N)<|.cons (zcr N)<|.cons (job_afterRight_ok N)<|.cons (job_stateRight_ok N)<|.nil) (.nil) (fun a=>by kernel_rfl)
def store_extra_sp (N:Nat):TSp:=⟨[ci],[ci],fun a=>store_extra N a.1⟩
theorem store_extra_ok (N:Nat):zaX Tryz.prog 78 (store_extra_sp N):=tg [] [] [] N (.cons (life_Over_ok N)<|.nil) (.nil) (fun a=>by kernel_rfl)
def store_jobs_sp (N:Nat):TSp:=⟨[.st 11,.st 12],[cb],fun a=>store_jobs N a.1 a.2.1⟩
theorem store_jobs_ok (N:Nat):zaX Tryz.prog 42 (store_jobs_sp N):=tg [] [(122,⟨[.r 5 ci,.r 17 ci],[],[],[]⟩),(62671,⟨[.r 72 cb],[],[],[]⟩)] [] N (.cons (job_Right_ok N)<|.cons (store_extra_ok N)<|.nil) (.nil) (fun a=>by kernel_rfl)
def vec_Count_sp (N:Nat):TSp:=⟨[.st 0,.st 0],[ci],fun a=>vec_Count N a.1 a.2.1⟩
theorem vec_Count_ok (N:Nat):zaX Tryz.prog 143 (vec_Count_sp N):=tg [] [(6,⟨[.r 21 cb],[],[],[]⟩),(250,⟨[.r 5 ci,.r 26 ci],[],[],[]⟩),(2003,⟨[.r 5 ci],[],[],[]⟩)] [] N (.cons (vec_numbers_ok N)<|.cons (zcr N)<|.nil) (.nil) (fun a=>by kernel_rfl)
def spec_Room_sp (N:Nat):TSp:=⟨[.st 11,ci,.st 0],[ci],fun a=>spec_Room N a.1 a.2.1 a.2.2.1⟩
theorem spec_Room_ok (N:Nat):zaX Tryz.prog 117 (spec_Room_sp N):=tg [] [(122,⟨[.r 7 ci,.r 30 ci],[],[],[]⟩)] [] N (.cons (spec_Right_ok N)<|.cons (vec_Count_ok N)<|.nil) (.nil) (fun a=>by kernel_rfl)
def spec_Fits_sp (N:Nat):TSp:=⟨[.st 11,ci,ci,.st 0],[cb],fun a=>spec_Fits N a.1 a.2.1 a.2.2.1 a.2.2.2.1⟩
theorem spec_Fits_ok (N:Nat):zaX Tryz.prog 80 (spec_Fits_sp N):=tg [] [] [] N (.cons (spec_Right_ok N)<|.cons (spec_Room_ok N)<|.nil) (.nil) (fun a=>by kernel_rfl)
def store_find_1xsp (N:Nat):TSp:=⟨[.st 5,ci],[ci],fun a=>store_find_1 N a.1 a.2.1⟩
theorem store_find_1xok (N:Nat):zaX Tryz.prog 119 (store_find_1xsp N):=tg [] [] [] N (.nil) (.nil) (fun a=>by kernel_rfl)
def za4 (N:Nat):TSp:=⟨[.c (.sl 5),ci,.k 119],[ci,cb],fun a=>zas N a.1 a.2.1⟩
theorem za3 (N:Nat):zaX Tryz.prog 118 (za4 N):=tg [] [(60,⟨[.r 9 ci,.r 10 ci],[],[],[]⟩)] [] N (.cons (store_find_1xok N)<|.nil) (.nil) (fun a=>by kernel_rfl)
def store_find_sp (N:Nat):TSp:=⟨[.c (.sl 5),ci],[ci,cb],fun a=>store_find N a.1 a.2.1⟩
theorem store_find_ok (N:Nat):zaX Tryz.prog 81 (store_find_sp N):=tg [] [] [] N (.cons (za3 N)<|.nil) (.nil) (fun a=>by kernel_rfl)
def store_waiting_sp (N:Nat):TSp:=⟨[.st 11,.st 12],[cb],fun a=>store_waiting N a.1 a.2.1⟩
theorem store_waiting_ok (N:Nat):zaX Tryz.prog 43 (store_waiting_sp N):=tg [] [(26,⟨[.r 14 ci],[],[],[]⟩),(211,⟨[],[],[],[]⟩),(27038,⟨[.r 33 ci],[],[],[]⟩)] [] N (.cons (life_Over_ok N)<|.cons (spec_Fits_ok N)<|.cons (store_find_ok N)<|.nil) (.nil) (fun a=>by kernel_rfl)
def slices_Clone_Lapi_Res_api_Res_sp (N:Nat):TSp:=⟨[.c (.sl 0)],[.c (.sl 0)],fun a=>zaQ N a.1⟩
theorem slices_Clone_Lapi_Res_api_Res_ok (N:Nat):zaX Tryz.prog 120 (slices_Clone_Lapi_Res_api_Res_sp N):=clone_ok (i:=0) (sz:=32) (z:=[.c (.lit (.int .i64 0)),.c (.lit (.int .i64 0)),.c (.lit (.int .i64 0)),.c (.lit (.int .i64 0))]) (fn:=Tryz.f120) mix (by kernel_rfl) (by kernel_rfl) (by kernel_rfl) rfl
def ledger_New_oe6df_sp (N:Nat):OSp:=⟨.mk [.v (.st 11)] [] [] [] [] [],[.mk [.p (.k (.c (.lit (.pointer none)))),.p (.k (.c (.lit (.int .i64 2))))] [] [] [(10,15)] [] [],.mk [.p (.pt 0 0 2),.p (.k (.c (.lit (.int .i64 0))))] [] [.cells [xl 0,.mr 1],.mp 7 true] [] [] []],fun a0=>zc4 N a0⟩
theorem ledger_New_oe6df_ok (N:Nat):zcX Tryz.prog 82 (ledger_New_oe6df_sp N):=og (g:=82) N (.cons (spec_Right_ok N)<|.cons (slices_Clone_Lapi_Res_api_Res_ok N)<|.nil) (.nil) (by kernel_rfl) (fun x=>by kernel_rfl)
def life_Has_sp (N:Nat):TSp:=⟨[ci],[cb],fun a=>life_Has N a.1⟩
theorem life_Has_ok (N:Nat):zaX Tryz.prog 83 (life_Has_sp N):=tg [] [] [] N (.nil) (.nil) (fun a=>by kernel_rfl)
def place_Right_sp (N:Nat):TSp:=⟨[.c (.sl 6),ci],[cb],fun a=>place_Right N a.1 a.2.1⟩
theorem place_Right_ok (N:Nat):zaX Tryz.prog 121 (place_Right_sp N):=tg [] [(58,⟨[.r 5 ci,.r 10 ci],[],[],[]⟩)] [] N (.nil) (.nil) (fun a=>by kernel_rfl)
def nat_Hold_int_sp (N:Nat):TSp:=⟨[ci,ci,ci],[ci],fun a=>nat_Hold_int N a.1 a.2.1 a.2.2.1⟩
theorem nat_Hold_int_ok (N:Nat):zaX Tryz.prog 144 (nat_Hold_int_sp N):=tg [] [] [] N (.nil) (.nil) (fun a=>by kernel_rfl)
def place_Total_sp (N:Nat):TSp:=⟨[.c (.sl 6)],[ci],fun a=>place_Total N a.1⟩
theorem place_Total_ok (N:Nat):zaX Tryz.prog 122 (place_Total_sp N):=tg [] [(58,⟨[.r 3 ci,.r 8 ci],[],[],[]⟩)] [] N (.cons (nat_Hold_int_ok N)<|.nil) (.nil) (fun a=>by kernel_rfl)
def slices_Index_Lint_int_sp (N:Nat):TSp:=⟨[.c (.sl 1),ci],[ci],fun a=>zcv N a.1 a.2.1⟩
theorem slices_Index_Lint_int_ok (N:Nat):zaX Tryz.prog 145 (slices_Index_Lint_int_sp N):=tg [] [(26,⟨[.r 8 ci],[],[],[]⟩)] [] N (.nil) (.nil) (fun a=>by kernel_rfl)
def slices_Contains_Lint_int_sp (N:Nat):TSp:=⟨[.c (.sl 1),ci],[cb],fun a=>zbd N a.1 a.2.1⟩
theorem slices_Contains_Lint_int_ok (N:Nat):zaX Tryz.prog 123 (slices_Contains_Lint_int_sp N):=tg [] [] [] N (.cons (slices_Index_Lint_int_ok N)<|.nil) (.nil) (fun a=>by kernel_rfl)
def store_suits_sp (N:Nat):TSp:=⟨[.st 11,.st 5,.c (.sl 6)],[cb],fun a=>store_suits N a.1 a.2.1 a.2.2.1⟩
theorem store_suits_ok (N:Nat):zaX Tryz.prog 84 (store_suits_sp N):=tg [] [(6,⟨[.r 22 cb],[],[],[]⟩),(250,⟨[.r 47 ci],[],[],[]⟩)] [] N (.cons (slices_Contains_Lint_int_ok N)<|.cons (place_Right_ok N)<|.cons (place_Total_ok N)<|.nil) (.nil) (fun a=>by kernel_rfl)
def zcS (N:Nat):OSp:=⟨.mk [.v (.c (.sl 0))] [] [] [] [] [],[.mk [.p (.hd 0)] [] [.row 0] [] [] []],fun x=>zaZ N x⟩
theorem zcZ (N:Nat):zcX Tryz.prog 120 (zcS N):=clone_own (i:=0) (sz:=32) (z:=[.c (.lit (.int .i64 0)),.c (.lit (.int .i64 0)),.c (.lit (.int .i64 0)),.c (.lit (.int .i64 0))]) (fn:=Tryz.f120) mix (by kernel_rfl) (by kernel_rfl) (by kernel_rfl) rfl
def vec_split_o09e8xsp (N:Nat):OSp:=⟨.mk [.v (.st 0)] [] [] [] [] [],[.mk [.ag [.cx,.cx]] [] [] [] [] []],fun a0=>zbM N a0⟩
theorem vec_split_o09e8xok (N:Nat):zcX Tryz.prog 147 (vec_split_o09e8xsp N):=og (g:=147) N (.nil) (.nil) (by kernel_rfl) (fun x=>by kernel_rfl)
def vec_join_o7a26xsp (N:Nat):OSp:=⟨.mk [.ag [.cx,.cx]] [] [] [] [] [],[.mk [.v (.st 0)] [] [] [] [] []],fun (a0,a1)=>vec_join_o7a26 N a0 a1⟩
theorem vec_join_o7a26xok (N:Nat):zcX Tryz.prog 152 (vec_join_o7a26xsp N):=og (g:=152) N (.nil) (.nil) (by kernel_rfl) (fun x=>by kernel_rfl)
def vec_within_ocd27xsp (N:Nat):OSp:=⟨.mk [.ag [.cx,.cx]] [] [] [] [] [],[.mk [.v (.st 0),.v ci] [] [] [] [] [(393222,[.mk [.v (.st 0)] [] [] [(1000000,0)] [] []])]],fun (a0,a1)=>zb4 N a0 a1⟩
theorem vec_within_ocd27xok (N:Nat):zcX Tryz.prog 148 (vec_within_ocd27xsp N):=og (g:=148) N (.cons (zcr N)<|.nil) (.cons (vec_join_o7a26xok N)<|.nil) (by kernel_rfl) (fun x=>by kernel_rfl)
def vec_Times_sp (N:Nat):TSp:=⟨[.st 0,ci],[.st 0,ci],fun a=>vec_Times N a.1 a.2.1⟩
theorem vec_Times_ok (N:Nat):zaX Tryz.prog 146 (vec_Times_sp N):=tg [] [] [(4063256,[.mk [.ag [.cx,.cx]] [] [] [(1000000,0)] [] []]),(8257573,[.mk [.v (.st 0),.v ci] [] [] [(1000000,1)] [] []])] N (.cons (zcr N)<|.nil) (.cons (vec_split_o09e8xok N)<|.cons (vec_within_ocd27xok N)<|.nil) (fun a=>by kernel_rfl)
def vec_Sub_sp (N:Nat):TSp:=⟨[.st 0,.st 0],[.st 0,ci],fun a=>vec_Sub N a.1 a.2.1⟩
theorem vec_Sub_ok (N:Nat):zaX Tryz.prog 125 (vec_Sub_sp N):=tg [] [(6,⟨[.r 15 cb],[],[],[]⟩)] [(917522,[.mk [.ag [.cx,.cx]] [] [] [(1000000,0)] [] []]),(917524,[.mk [.ag [.cx,.cx]] [] [] [(1000000,0)] [] []]),(1966112,[.mk [.v (.st 0),.v ci] [] [] [(1000000,1)] [] []])] N (.cons (zcr N)<|.nil) (.cons (vec_split_o09e8xok N)<|.cons (vec_within_ocd27xok N)<|.nil) (fun a=>by kernel_rfl)
def ledger_Ledger_change_o8350xsp (N:Nat):OSp:=⟨.mk [.p (.pt 0 0 2),.v (.st 7),.p (.k (.c (.fn (.func 125) [] [])))] [] [.cells [xl 0,.mr 1],.mp 7 true] [] [] [],[.mk [.v (.c (.sl 0)),.v ci] [] [] [] [(58,⟨[.r 21 ci,.w 3 0],[(8,3)],[],[]⟩)] [(393233,[.mk [.p (.hd 3)] [] [.row 0] [(1000000,0)] [] []])]],fun (_,a1,a2)=>za5 N a1 a2⟩
theorem ledger_Ledger_change_o8350xok (N:Nat):zcX Tryz.prog 124 (ledger_Ledger_change_o8350xsp N):=og (g:=124) N (.cons (vec_Times_ok N)<|.cons (vec_Sub_ok N)<|.nil) (.cons (zcZ N)<|.nil) (by kernel_rfl) (fun x=>by kernel_rfl)
def zcW (N:Nat):TSp:=⟨[.c (.sl 6)],[.c (.sl 6)],fun a=>za2 N a.1⟩
theorem zcT (N:Nat):zaX Tryz.prog 149 (zcW N):=clone_ok (i:=6) (sz:=16) (z:=[.c (.lit (.int .i64 0)),.c (.lit (.int .i64 0))]) (fn:=Tryz.f149) mix (by kernel_rfl) (by kernel_rfl) (by kernel_rfl) rfl
def ledger_own_sp (N:Nat):TSp:=⟨[.st 7],[.st 7],fun a=>ledger_own N a.1⟩
theorem ledger_own_ok (N:Nat):zaX Tryz.prog 126 (ledger_own_sp N):=tg [] [] [] N (.cons (zcT N)<|.nil) (.nil) (fun a=>by kernel_rfl)
def ledger_Ledger_Take_o6c47xsp (N:Nat):OSp:=⟨.mk [.p (.pt 0 0 2),.v (.st 7)] [] [.cells [xl 0,.mr 1],.mp 7 true] [] [] [],[.mk [.v ci] [.h 0 0 (xl 0),.m 1 7 true] [] [] [(14,⟨[.r 41 cb],[],[],[]⟩)] [(4063288,[.mk [.v (.c (.sl 0)),.v ci] [] [] [(1000000,0)] [] []])]],fun (a0,a1,a2)=>zba N a0 a1 a2⟩
theorem ledger_Ledger_Take_o6c47xok (N:Nat):zcX Tryz.prog 85 (ledger_Ledger_Take_o6c47xsp N):=og (g:=85) N (.cons (ledger_own_ok N)<|.cons (place_Right_ok N)<|.cons (zcr N)<|.nil) (.cons (ledger_Ledger_change_o8350xok N)<|.nil) (by kernel_rfl) (fun x=>by kernel_rfl)
def store_allocations_sp (N:Nat):TSp:=⟨[.st 11,.st 12],[cb],fun a=>zcB N a.1 a.2.1⟩
theorem store_allocations_ok (N:Nat):zaX Tryz.prog 44 (store_allocations_sp N):=tg [] [(250,⟨[.r 7 (.c (.sl 7)),.r 23 ci,.h 2 0 (.sl 0),.m 3 7 true],[],[],[]⟩),(2003,⟨[.r 7 (.c (.sl 7)),.h 2 0 (.sl 0),.m 3 7 true],[],[],[]⟩),(256415,⟨[.r 74 cb,.h 2 0 (.sl 0),.m 3 7 true],[],[],[]⟩)] [(393229,[.mk [.p (.k (.c (.lit (.pointer none)))),.p (.k (.c (.lit (.int .i64 2))))] [] [] [(1000000,0)] [] [],.mk [.p (.pt 2 0 2),.p (.k (.c (.lit (.int .i64 0))))] [] [.cells [xl 0,.mr 3],.mp 7 true] [] [] []]),(33608826952,[.mk [.v ci] [.h 2 0 (xl 0),.m 3 7 true] [] [(1000000,1)] [] []])] N (.cons (life_Has_ok N)<|.cons (store_suits_ok N)<|.nil) (.cons (ledger_New_oe6df_ok N)<|.cons (ledger_Ledger_Take_o6c47xok N)<|.nil) (fun a=>by kernel_rfl)
def book_whole_sp (N:Nat):TSp:=⟨[.st 8,ci],[cb],fun a=>book_whole N a.1 a.2.1⟩
theorem book_whole_ok (N:Nat):zaX Tryz.prog 127 (book_whole_sp N):=tg [] [] [] N (.nil) (.nil) (fun a=>by kernel_rfl)
def book_Meets_sp (N:Nat):TSp:=⟨[.c (.sl 8),ci,ci,ci],[cb],fun a=>book_Meets N a.1 a.2.1 a.2.2.1 a.2.2.2.1⟩
theorem book_Meets_ok (N:Nat):zaX Tryz.prog 87 (book_Meets_sp N):=tg [] [(26,⟨[.r 13 ci],[],[],[]⟩)] [] N (.nil) (.nil) (fun a=>by kernel_rfl)
def book_Right_sp (N:Nat):TSp:=⟨[.c (.sl 8),ci],[cb],fun a=>book_Right N a.1 a.2.1⟩
theorem book_Right_ok (N:Nat):zaX Tryz.prog 86 (book_Right_sp N):=tg [] [(58,⟨[.r 12 ci],[],[],[]⟩),(3737,⟨[.r 47 cb],[],[],[]⟩)] [] N (.cons (book_whole_ok N)<|.cons (book_Meets_ok N)<|.nil) (.nil) (fun a=>by kernel_rfl)
def store_bookings_sp (N:Nat):TSp:=⟨[.st 11,.st 12],[cb],fun a=>store_bookings N a.1 a.2.1⟩
theorem store_bookings_ok (N:Nat):zaX Tryz.prog 45 (store_bookings_sp N):=tg [] [(58,⟨[.r 23 ci],[],[],[]⟩),(122,⟨[.r 43 ci],[],[],[]⟩),(125342,⟨[.r 60 ci],[],[],[]⟩)] [] N (.cons (book_Right_ok N)<|.cons (store_find_ok N)<|.cons (book_Meets_ok N)<|.nil) (.nil) (fun a=>by kernel_rfl)
def share_Right_sp (N:Nat):TSp:=⟨[.c (.sl 1)],[cb],fun a=>share_Right N a.1⟩
theorem share_Right_ok (N:Nat):zaX Tryz.prog 88 (share_Right_sp N):=tg [] [(26,⟨[.r 7 ci],[],[],[]⟩)] [] N (.nil) (.nil) (fun a=>by kernel_rfl)
def store_usage_sp (N:Nat):TSp:=⟨[.st 11,.st 12],[cb],fun a=>store_usage N a.1 a.2.1⟩
theorem store_usage_ok (N:Nat):zaX Tryz.prog 46 (store_usage_sp N):=tg [] [(6,⟨[.r 18 cb],[],[],[]⟩),(14,⟨[.r 33 cb],[],[],[]⟩),(122,⟨[.r 38 ci],[],[],[]⟩)] [] N (.cons (store_within_ok N)<|.cons (share_Right_ok N)<|.nil) (.nil) (fun a=>by kernel_rfl)
def store_Sound_sp (N:Nat):TSp:=⟨[.st 11,.st 12],[cb],fun a=>store_Sound N a.1 a.2.1⟩
theorem store_Sound_ok (N:Nat):zaX Tryz.prog 18 (store_Sound_sp N):=tg [] [] [] N (.cons (spec_Right_ok N)<|.cons (store_numbers_ok N)<|.cons (store_jobs_ok N)<|.cons (store_waiting_ok N)<|.cons (store_allocations_ok N)<|.cons (store_bookings_ok N)<|.cons (store_usage_ok N)<|.nil) (.nil) (fun a=>by kernel_rfl)
def image_number_sp (N:Nat):TSp:=⟨[cb],[ci],fun a=>image_number N a.1⟩
theorem image_number_ok (N:Nat):zaX Tryz.prog 48 (image_number_sp N):=tg [] [] [] N (.nil) (.nil) (fun a=>by kernel_rfl)
def image_numbers_sp (N:Nat):TSp:=⟨[.st 12],[.c (.sl 1)],fun a=>image_numbers N a.1⟩
theorem image_numbers_ok (N:Nat):zaX Tryz.prog 20 (image_numbers_sp N):=tg [(23,1),(54,1),(60,1),(75,1),(97,1),(104,1),(131,1),(145,1),(153,1),(171,1),(178,1),(189,1),(200,1)] [(58,⟨[.r 27 ci,.w 1 1],[(3,1)],[],[]⟩),(250,⟨[.r 109 ci,.w 1 1],[(3,1)],[],[]⟩),(1018,⟨[.r 158 ci,.w 1 1],[(3,1)],[],[]⟩),(119610,⟨[.r 65 ci,.w 1 1],[(3,1)],[],[]⟩),(128206,⟨[.r 136 ci,.w 1 1],[(3,1)],[],[]⟩)] [] N (.cons (image_number_ok N)<|.nil) (.nil) (fun a=>by kernel_rfl)
def slices_Clone_Lbyte_byte_own_sp (N:Nat):OSp:=⟨.mk [.v (.c (.sl 10))] [] [] [] [] [],[.mk [.p (.hd 0)] [] [.row 10] [] [] []],fun x=>zaK N x⟩
theorem zbS (N:Nat):zcX Tryz.prog 47 (slices_Clone_Lbyte_byte_own_sp N):=clone_own (i:=10) (sz:=1) (z:=[.c (.lit (.int .u8 0))]) (fn:=Tryz.f47) mix (by kernel_rfl) (by kernel_rfl) (by kernel_rfl) rfl
def codec_Put_sp (N:Nat):TSp:=⟨[.c (.sl 10),.c (.sl 1)],[.c (.sl 10),ci],fun a=>codec_Put N a.1 a.2.1⟩
theorem codec_Put_ok (N:Nat):zaX Tryz.prog 19 (codec_Put_sp N):=tg [(39,10),(46,10)] [(26,⟨[.r 13 ci],[],[],[]⟩),(122,⟨[.r 28 ci,.w 0 10],[(8,0)],[],[]⟩),(31332,⟨[.r 10 ci,.w 0 10],[(8,0)],[],[]⟩)] [(917529,[.mk [.p (.hd 0)] [] [.row 10] [(1000000,0)] [] []])] N (.nil) (.cons (zbS N)<|.nil) (fun a=>by kernel_rfl)
def image_Check_sp (N:Nat):TSp:=⟨[.c (.sl 10)],[ci],fun a=>zcy N a.1⟩
theorem image_Check_ok (N:Nat):zaX Tryz.prog 7 (image_Check_sp N):=tg [] [(58,⟨[.r 3 ci,.r 8 ci],[],[],[]⟩)] [] N (.nil) (.nil) (fun a=>by kernel_rfl)
def codec_Put_o07a2xsp (N:Nat):OSp:=⟨.mk [.v (.c (.sl 10)),.p (.hd 0)] [] [.row 1] [] [] [],[.mk [.v (.c (.sl 10)),.v ci] [] [] [(39,10),(46,10)] [(26,⟨[.r 13 ci],[],[],[]⟩),(122,⟨[.r 28 ci,.w 1 10],[(8,1)],[],[]⟩),(31332,⟨[.r 10 ci,.w 1 10],[(8,1)],[],[]⟩)] [(917529,[.mk [.p (.hd 1)] [] [.row 10] [(1000000,0)] [] []])]],fun (a0,a1)=>codec_Put_o07a2 N a0 a1⟩
theorem codec_Put_o07a2xok (N:Nat):zcX Tryz.prog 19 (codec_Put_o07a2xsp N):=og (g:=19) N (.nil) (.cons (zbS N)<|.nil) (by kernel_rfl) (fun x=>by kernel_rfl)
def image_Write_sp (N:Nat):TSp:=⟨[.st 11,.st 12],[.c (.sl 10),ci],fun a=>zde N a.1 a.2.1⟩
theorem image_Write_ok (N:Nat):zaX Tryz.prog 6 (image_Write_sp N):=tg [(24,1)] [] [(4063257,[.mk [.v (.c (.sl 10)),.v ci] [] [] [(1000000,0)] [] []])] N (.cons (store_Sound_ok N)<|.cons (image_numbers_ok N)<|.cons (codec_Put_ok N)<|.cons (image_Check_ok N)<|.nil) (.cons (codec_Put_o07a2xok N)<|.nil) (fun a=>by kernel_rfl)
def drayageref01xBytes_sp (N:Nat):TSp:=⟨[.c (.sl 10),.c (.sl 10)],[cb],fun a=>zbx N a.1 a.2.1⟩
theorem drayageref01xBytes_ok (N:Nat):zaX Tryz.prog 11 (drayageref01xBytes_sp N):=tg [] [(58,⟨[.r 5 ci],[],[],[]⟩)] [] N (.nil) (.nil) (fun a=>by kernel_rfl)
def drayagelaw50xawake_sp (N:Nat):TSp:=⟨[],[cb],fun a=>drayagelaw50xawake N⟩
theorem drayagelaw50xawake_ok (N:Nat):zaX Tryz.prog 4 (drayagelaw50xawake_sp N):=tg [(14,10),(18,10)] [] [] N (.cons (drayageref07xSmall_ok N)<|.cons (drayageref23xNew_ok N)<|.cons (image_Write_ok N)<|.cons (drayageref01xBytes_ok N)<|.cons (image_Check_ok N)<|.nil) (.nil) (fun a=>by kernel_rfl)
def drayagelaw07xFew_sp (N:Nat):TSp:=⟨[.st 11],[cb],fun a=>zda N a.1⟩
theorem drayagelaw07xFew_ok (N:Nat):zaX Tryz.prog 16 (drayagelaw07xFew_sp N):=tg [] [(58,⟨[.r 26 ci],[],[],[]⟩),(122,⟨[.r 37 ci],[],[],[]⟩)] [] N (.nil) (.nil) (fun a=>by kernel_rfl)
end Go.Abs
end
end
section
set_option maxRecDepth 100000
noncomputable section
namespace Go.Abs
open Go.Proofs
variable [Gl]
def drayagelaw17xFew_sp (N:Nat):TSp:=⟨[.c (.sl 5)],[cb],fun a=>zc7 N a.1⟩
theorem drayagelaw17xFew_ok (N:Nat):zaX Tryz.prog 17 (drayagelaw17xFew_sp N):=tg [] [(58,⟨[.r 10 ci],[],[],[]⟩)] [] N (.nil) (.nil) (fun a=>by kernel_rfl)
def drayagelaw23xFew_sp (N:Nat):TSp:=⟨[.st 11,.st 12],[cb],fun a=>zc0 N a.1 a.2.1⟩
theorem drayagelaw23xFew_ok (N:Nat):zaX Tryz.prog 5 (drayagelaw23xFew_sp N):=tg [] [(6,⟨[.r 40 cb],[],[],[]⟩),(58,⟨[.r 44 ci],[],[],[]⟩)] [] N (.cons (drayagelaw07xFew_ok N)<|.cons (drayagelaw17xFew_ok N)<|.nil) (.nil) (fun a=>by kernel_rfl)
def drayageref50xCheck_sp (N:Nat):TSp:=⟨[.c (.sl 10)],[ci],fun a=>zbC N a.1⟩
theorem drayageref50xCheck_ok (N:Nat):zaX Tryz.prog 8 (drayageref50xCheck_sp N):=tg [] [(58,⟨[.r 3 ci,.r 4 ci],[],[],[]⟩)] [] N (.nil) (.nil) (fun a=>by kernel_rfl)
def drayageref07xin_sp (N:Nat):TSp:=⟨[ci,ci,ci],[cb],fun a=>zai N a.1 a.2.1 a.2.2.1⟩
theorem zcl (N:Nat):zaX Tryz.prog 89 (drayageref07xin_sp N):=tg [] [] [] N (.nil) (.nil) (fun a=>by kernel_rfl)
def drayageref02xright_sp (N:Nat):TSp:=⟨[ci],[cb],fun a=>zbb N a.1⟩
theorem drayageref02xright_ok (N:Nat):zaX Tryz.prog 93 (drayageref02xright_sp N):=tg [] [] [] N (.nil) (.nil) (fun a=>by kernel_rfl)
def drayageref02xRight_sp (N:Nat):TSp:=⟨[.st 0],[cb],fun a=>zaC N a.1⟩
theorem zbD (N:Nat):zaX Tryz.prog 52 (drayageref02xRight_sp N):=tg [] [] [] N (.cons (drayageref02xright_ok N)<|.nil) (.nil) (fun a=>by kernel_rfl)
def drayageref07xnodes_sp (N:Nat):TSp:=⟨[.st 11],[cb],fun a=>zbH N a.1⟩
theorem drayageref07xnodes_ok (N:Nat):zaX Tryz.prog 90 (drayageref07xnodes_sp N):=tg [] [(26,⟨[.r 3 ci],[],[],[]⟩)] [] N (.cons (zbD N)<|.cons (zcl N)<|.nil) (.nil) (fun a=>by kernel_rfl)
def drayageref07xRising_sp (N:Nat):TSp:=⟨[.c (.sl 1),ci],[cb],fun a=>zbp N a.1 a.2.1⟩
theorem drayageref07xRising_ok (N:Nat):zaX Tryz.prog 128 (drayageref07xRising_sp N):=tg [] [(26,⟨[.r 5 ci],[],[],[]⟩),(420,⟨[.r 40 cb],[],[],[]⟩)] [] N (.nil) (.nil) (fun a=>by kernel_rfl)
def drayageref07xparts_sp (N:Nat):TSp:=⟨[.st 11],[cb],fun a=>zbB N a.1⟩
theorem drayageref07xparts_ok (N:Nat):zaX Tryz.prog 91 (drayageref07xparts_sp N):=tg [] [(26,⟨[.r 3 ci],[],[],[]⟩),(420,⟨[.r 29 cb],[],[],[]⟩)] [] N (.cons (drayageref07xRising_ok N)<|.cons (zcl N)<|.nil) (.nil) (fun a=>by kernel_rfl)
def drayageref07xqueues_sp (N:Nat):TSp:=⟨[.st 11],[cb],fun a=>zbn N a.1⟩
theorem drayageref07xqueues_ok (N:Nat):zaX Tryz.prog 92 (drayageref07xqueues_sp N):=tg [] [(26,⟨[.r 3 ci],[],[],[]⟩),(841,⟨[.r 59 cb],[],[],[]⟩)] [] N (.cons (drayageref07xRising_ok N)<|.cons (zcl N)<|.nil) (.nil) (fun a=>by kernel_rfl)
def drayageref07xFlaw_sp (N:Nat):TSp:=⟨[.st 11],[.c .str],fun a=>drayageref07xFlaw N a.1⟩
theorem drayageref07xFlaw_ok (N:Nat):zaX Tryz.prog 49 (drayageref07xFlaw_sp N):=tg [(28,15),(69,16)] [(7,⟨[.r 4 cb],[],[],[]⟩),(506,⟨[.r 7 ci],[],[],[]⟩)] [] N (.cons (drayageref07xnodes_ok N)<|.cons (drayageref07xparts_ok N)<|.cons (zcl N)<|.cons (drayageref07xqueues_ok N)<|.nil) (.nil) (fun a=>by kernel_rfl)
def drayageref07xRight_sp (N:Nat):TSp:=⟨[.st 11],[cb],fun a=>zbz N a.1⟩
theorem drayageref07xRight_ok (N:Nat):zaX Tryz.prog 21 (drayageref07xRight_sp N):=tg [] [] [] N (.cons (drayageref07xFlaw_ok N)<|.nil) (.nil) (fun a=>by kernel_rfl)
def drayageref05xRight_sp (N:Nat):TSp:=⟨[ci],[cb],fun a=>zaN N a.1⟩
theorem drayageref05xRight_ok (N:Nat):zaX Tryz.prog 22 (drayageref05xRight_sp N):=tg [] [] [] N (.nil) (.nil) (fun a=>by kernel_rfl)
def drayageref17xFind_sp (N:Nat):TSp:=⟨[.c (.sl 5),ci],[ci],fun a=>zaT N a.1 a.2.1⟩
theorem zcQ (N:Nat):zaX Tryz.prog 50 (drayageref17xFind_sp N):=tg [] [(26,⟨[.r 5 ci],[],[],[]⟩)] [] N (.nil) (.nil) (fun a=>by kernel_rfl)
def drayageref11xRight_sp (N:Nat):TSp:=⟨[.c (.sl 6),ci],[cb],fun a=>za1 N a.1 a.2.1⟩
theorem drayageref11xRight_ok (N:Nat):zaX Tryz.prog 51 (drayageref11xRight_sp N):=tg [] [(26,⟨[.r 5 ci],[],[],[]⟩),(420,⟨[.r 60 cb],[],[],[]⟩)] [] N (.nil) (.nil) (fun a=>by kernel_rfl)
def drayageref11xOn_sp (N:Nat):TSp:=⟨[.c (.sl 6),ci],[ci],fun a=>zcx N a.1 a.2.1⟩
theorem drayageref11xOn_ok (N:Nat):zaX Tryz.prog 96 (drayageref11xOn_sp N):=tg [] [(58,⟨[.r 5 ci,.r 6 ci],[],[],[]⟩),(233,⟨[.r 5 ci],[],[],[]⟩)] [] N (.nil) (.nil) (fun a=>by kernel_rfl)
def drayageref02xAdd_sp (N:Nat):TSp:=⟨[.st 0,.st 0],[.st 0],fun a=>zbf N a.1 a.2.1⟩
theorem zdb (N:Nat):zaX Tryz.prog 94 (drayageref02xAdd_sp N):=tg [] [] [] N (.nil) (.nil) (fun a=>by kernel_rfl)
def drayageref11xTimes_sp (N:Nat):TSp:=⟨[.st 0,ci],[.st 0],fun a=>zcj N a.1 a.2.1⟩
theorem drayageref11xTimes_ok (N:Nat):zaX Tryz.prog 95 (drayageref11xTimes_sp N):=tg [] [(58,⟨[.r 6 ci,.h 2 0 (.int .i64),.h 2 1 (.int .i64),.h 2 2 (.int .i64),.h 2 3 (.int .i64)],[],[],[]⟩)] [] N (.cons (zdb N)<|.nil) (.nil) (fun a=>by kernel_rfl)
def drayageref02xFits_sp (N:Nat):TSp:=⟨[.st 0,.st 0],[cb],fun a=>zax N a.1 a.2.1⟩
theorem zcR (N:Nat):zaX Tryz.prog 97 (drayageref02xFits_sp N):=tg [] [] [] N (.nil) (.nil) (fun a=>by kernel_rfl)
def drayageref02xSub_sp (N:Nat):TSp:=⟨[.st 0,.st 0],[.st 0],fun a=>drayageref02xSub N a.1 a.2.1⟩
theorem drayageref02xSub_ok (N:Nat):zaX Tryz.prog 98 (drayageref02xSub_sp N):=tg [] [] [] N (.nil) (.nil) (fun a=>by kernel_rfl)
def drayageref14xLeft_sp (N:Nat):TSp:=⟨[.c (.sl 0),.c (.sl 7)],[.c (.sl 0),cb],fun a=>zcC N a.1 a.2.1⟩
theorem drayageref14xLeft_ok (N:Nat):zaX Tryz.prog 53 (drayageref14xLeft_sp N):=tg [(55,0)] [(122,⟨[.r 7 cb,.r 8 ci,.w 0 0],[(6,0)],[(6,0)],[]⟩),(7827,⟨[.r 7 cb],[],[],[]⟩),(31306,⟨[.r 10 ci,.h 1 0 (.int .i64),.h 1 1 (.int .i64),.h 1 2 (.int .i64),.h 1 3 (.int .i64)],[],[],[]⟩)] [] N (.cons (drayageref11xOn_ok N)<|.cons (drayageref11xTimes_ok N)<|.cons (zdb N)<|.cons (drayageref02xSub_ok N)<|.cons (zcR N)<|.nil) (.nil) (fun a=>by kernel_rfl)
def drayageref23xallocs_sp (N:Nat):TSp:=⟨[.st 11,.st 12],[cb],fun a=>zbW N a.1 a.2.1⟩
theorem drayageref23xallocs_ok (N:Nat):zaX Tryz.prog 23 (drayageref23xallocs_sp N):=tg [] [(26,⟨[.r 5 ci],[],[],[]⟩),(841,⟨[.r 57 cb],[],[],[]⟩)] [] N (.cons (zcQ N)<|.cons (drayageref11xRight_ok N)<|.cons (zbD N)<|.cons (drayageref14xLeft_ok N)<|.nil) (.nil) (fun a=>by kernel_rfl)
def drayageref23xTaken_sp (N:Nat):TSp:=⟨[.st 12,ci,ci],[cb],fun a=>zcn N a.1 a.2.1 a.2.2.1⟩
theorem drayageref23xTaken_ok (N:Nat):zaX Tryz.prog 54 (drayageref23xTaken_sp N):=tg [] [(26,⟨[.r 7 ci],[],[],[]⟩),(841,⟨[.r 54 cb],[],[],[]⟩)] [] N (.cons (zcQ N)<|.cons (drayageref11xOn_ok N)<|.nil) (.nil) (fun a=>by kernel_rfl)
def drayageref12xOne_sp (N:Nat):TSp:=⟨[.st 8,ci],[cb],fun a=>zc1 N a.1 a.2.1⟩
theorem drayageref12xOne_ok (N:Nat):zaX Tryz.prog 99 (drayageref12xOne_sp N):=tg [] [] [] N (.cons (drayageref05xRight_ok N)<|.nil) (.nil) (fun a=>by kernel_rfl)
def drayageref12xMeets_sp (N:Nat):TSp:=⟨[.c (.sl 8),ci,ci,ci],[cb],fun a=>zcc N a.1 a.2.1 a.2.2.1 a.2.2.2.1⟩
theorem drayageref12xMeets_ok (N:Nat):zaX Tryz.prog 100 (drayageref12xMeets_sp N):=tg [] [(26,⟨[.r 9 ci],[],[],[]⟩)] [] N (.nil) (.nil) (fun a=>by kernel_rfl)
def drayageref12xRight_sp (N:Nat):TSp:=⟨[.c (.sl 8),ci],[cb],fun a=>zcg N a.1 a.2.1⟩
theorem drayageref12xRight_ok (N:Nat):zaX Tryz.prog 55 (drayageref12xRight_sp N):=tg [] [(26,⟨[.r 5 ci],[],[],[]⟩),(3366,⟨[.r 6 ci],[],[],[]⟩),(53860,⟨[.r 58 cb],[],[],[]⟩)] [] N (.cons (drayageref12xOne_ok N)<|.cons (drayageref12xMeets_ok N)<|.nil) (.nil) (fun a=>by kernel_rfl)
def drayageref23xbooks_sp (N:Nat):TSp:=⟨[.st 11,.st 12],[cb],fun a=>zb9 N a.1 a.2.1⟩
theorem drayageref23xbooks_ok (N:Nat):zaX Tryz.prog 24 (drayageref23xbooks_sp N):=tg [] [(26,⟨[.r 5 ci],[],[],[]⟩),(841,⟨[.r 38 cb],[],[],[]⟩)] [] N (.cons (drayageref23xTaken_ok N)<|.cons (drayageref12xRight_ok N)<|.nil) (.nil) (fun a=>by kernel_rfl)
def drayageref23xUse_sp (N:Nat):TSp:=⟨[.c (.sl 1),ci],[cb],fun a=>zc6 N a.1 a.2.1⟩
theorem drayageref23xUse_ok (N:Nat):zaX Tryz.prog 25 (drayageref23xUse_sp N):=tg [] [(26,⟨[.r 5 ci],[],[],[]⟩),(420,⟨[.r 23 cb],[],[],[]⟩)] [] N (.nil) (.nil) (fun a=>by kernel_rfl)
def drayageref16xin_sp (N:Nat):TSp:=⟨[ci,ci,ci],[cb],fun a=>zay N a.1 a.2.1 a.2.2.1⟩
theorem drayageref16xin_ok (N:Nat):zaX Tryz.prog 101 (drayageref16xin_sp N):=tg [] [] [] N (.nil) (.nil) (fun a=>by kernel_rfl)
def drayageref16xRight_sp (N:Nat):TSp:=⟨[.st 5],[cb],fun a=>zcf N a.1⟩
theorem drayageref16xRight_ok (N:Nat):zaX Tryz.prog 56 (drayageref16xRight_sp N):=tg [] [(14,⟨[.r 61 cb],[],[],[]⟩),(26,⟨[.r 3 ci],[],[],[]⟩),(30,⟨[.r 85 cb],[],[],[]⟩),(62,⟨[.r 101 cb],[],[],[]⟩),(126,⟨[.r 119 cb],[],[],[]⟩)] [] N (.cons (drayageref16xin_ok N)<|.cons (zbD N)<|.cons (zcR N)<|.nil) (.nil) (fun a=>by kernel_rfl)
def drayageref14xFind_sp (N:Nat):TSp:=⟨[.c (.sl 7),ci],[ci],fun a=>zcK N a.1 a.2.1⟩
theorem drayageref14xFind_ok (N:Nat):zaX Tryz.prog 57 (drayageref14xFind_sp N):=tg [] [(26,⟨[.r 5 ci],[],[],[]⟩)] [] N (.nil) (.nil) (fun a=>by kernel_rfl)
def drayageref23xHas_sp (N:Nat):TSp:=⟨[.st 5],[cb],fun a=>zc5 N a.1⟩
theorem drayageref23xHas_ok (N:Nat):zaX Tryz.prog 58 (drayageref23xHas_sp N):=tg [] [] [] N (.nil) (.nil) (fun a=>by kernel_rfl)
def drayageref02xCount_sp (N:Nat):TSp:=⟨[.st 0,.st 0],[ci],fun a=>zby N a.1 a.2.1⟩
theorem drayageref02xCount_ok (N:Nat):zaX Tryz.prog 129 (drayageref02xCount_sp N):=tg [] [(6,⟨[.r 19 cb],[],[],[]⟩),(124,⟨[.r 5 ci,.h 2 0 (.int .i64),.h 2 1 (.int .i64),.h 2 2 (.int .i64),.h 2 3 (.int .i64)],[],[],[]⟩),(496,⟨[.r 27 cb],[],[],[]⟩)] [] N (.cons (zdb N)<|.cons (zcR N)<|.cons (zbD N)<|.nil) (.nil) (fun a=>by kernel_rfl)
def drayageref07xRoom_sp (N:Nat):TSp:=⟨[.st 11,ci,.st 0],[ci],fun a=>drayageref07xRoom N a.1 a.2.1 a.2.2.1⟩
theorem drayageref07xRoom_ok (N:Nat):zaX Tryz.prog 102 (drayageref07xRoom_sp N):=tg [] [(122,⟨[.r 7 ci,.r 8 ci],[],[],[]⟩)] [] N (.cons (drayageref02xCount_ok N)<|.nil) (.nil) (fun a=>by kernel_rfl)
def drayageref07xFits_sp (N:Nat):TSp:=⟨[.st 11,ci,ci,.st 0],[cb],fun a=>zbK N a.1 a.2.1 a.2.2.1 a.2.2.2.1⟩
theorem drayageref07xFits_ok (N:Nat):zaX Tryz.prog 59 (drayageref07xFits_sp N):=tg [] [] [] N (.cons (drayageref07xRoom_ok N)<|.nil) (.nil) (fun a=>by kernel_rfl)
def drayageref11xTotal_sp (N:Nat):TSp:=⟨[.c (.sl 6)],[ci],fun a=>zcb N a.1⟩
theorem drayageref11xTotal_ok (N:Nat):zaX Tryz.prog 103 (drayageref11xTotal_sp N):=tg [] [(58,⟨[.r 3 ci,.r 4 ci],[],[],[]⟩),(233,⟨[.r 3 ci],[],[],[]⟩)] [] N (.nil) (.nil) (fun a=>by kernel_rfl)
def drayageref01xHas_sp (N:Nat):TSp:=⟨[.c (.sl 1),ci],[cb],fun a=>zc3 N a.1 a.2.1⟩
theorem drayageref01xHas_ok (N:Nat):zaX Tryz.prog 104 (drayageref01xHas_sp N):=tg [] [(26,⟨[.r 5 ci],[],[],[]⟩)] [] N (.nil) (.nil) (fun a=>by kernel_rfl)
def drayageref23xMine_sp (N:Nat):TSp:=⟨[.st 11,.st 5,.c (.sl 6)],[cb],fun a=>zcI N a.1 a.2.1 a.2.2.1⟩
theorem drayageref23xMine_ok (N:Nat):zaX Tryz.prog 60 (drayageref23xMine_sp N):=tg [] [(6,⟨[.r 34 cb],[],[],[]⟩),(122,⟨[.r 8 ci],[],[],[]⟩)] [] N (.cons (drayageref01xHas_ok N)<|.cons (drayageref11xRight_ok N)<|.cons (drayageref11xTotal_ok N)<|.nil) (.nil) (fun a=>by kernel_rfl)
def drayageref23xjob_sp (N:Nat):TSp:=⟨[.st 11,.st 12,.st 5],[cb],fun a=>zc8 N a.1 a.2.1 a.2.2.1⟩
theorem drayageref23xjob_ok (N:Nat):zaX Tryz.prog 26 (drayageref23xjob_sp N):=tg [] [(15,⟨[.r 7 ci],[],[],[]⟩),(31,⟨[.r 7 ci],[],[],[]⟩),(63,⟨[.r 7 ci],[],[],[]⟩),(510,⟨[.r 83 cb],[],[],[]⟩),(8186,⟨[.r 9 ci],[],[],[]⟩)] [] N (.cons (drayageref16xRight_ok N)<|.cons (drayageref14xFind_ok N)<|.cons (zcQ N)<|.cons (drayageref07xFits_ok N)<|.cons (drayageref23xHas_ok N)<|.cons (drayageref23xMine_ok N)<|.nil) (.nil) (fun a=>by kernel_rfl)
def drayageref23xSound_sp (N:Nat):TSp:=⟨[.st 11,.st 12],[cb],fun a=>zck N a.1 a.2.1⟩
theorem drayageref23xSound_ok (N:Nat):zaX Tryz.prog 9 (drayageref23xSound_sp N):=tg [] [(6,⟨[.r 43 cb],[],[],[]⟩),(14,⟨[.r 86 cb],[],[],[]⟩),(122,⟨[.r 5 ci],[],[],[]⟩),(250,⟨[.r 6 ci],[],[],[]⟩),(4004,⟨[.r 138 cb],[],[],[]⟩)] [] N (.cons (drayageref05xRight_ok N)<|.cons (drayageref23xjob_ok N)<|.cons (drayageref23xallocs_ok N)<|.cons (drayageref23xbooks_ok N)<|.cons (drayageref23xUse_ok N)<|.cons (drayageref07xRight_ok N)<|.nil) (.nil) (fun a=>by kernel_rfl)
def bytes_Clone_sp (N:Nat):TSp:=⟨[.c (.sl 10)],[.c (.sl 10)],fun a=>bytes_Clone N a.1⟩
theorem bytes_Clone_ok (N:Nat):zaX Tryz.prog 62 (bytes_Clone_sp N):=clone_ok (i:=10) (sz:=1) (z:=[.c (.lit (.int .u8 0))]) (fn:=Tryz.f62) mix (by kernel_rfl) (by kernel_rfl) (by kernel_rfl) rfl
def codec_New_o0c64xsp (N:Nat):OSp:=⟨.mk [.v (.c (.sl 10))] [] [] [] [] [],[.mk [.p (.pt 0 0 2)] [] [.cells [xl 10,xi]] [] [] []],fun a0=>codec_New_o0c64 N a0⟩
theorem codec_New_o0c64xok (N:Nat):zcX Tryz.prog 28 (codec_New_o0c64xsp N):=og (g:=28) N (.cons (bytes_Clone_ok N)<|.nil) (.nil) (by kernel_rfl) (fun x=>by kernel_rfl)
def codec_Reader_fail_o8e40xsp (N:Nat):OSp:=⟨.mk [.p (.pt 0 0 2),.v ci] [] [.cells [xl 10,xi]] [] [] [],[.mk [.v ci] [.h 0 0 (xl 10),.h 0 1 (xi)] [] [] [] []],fun (a0,_,_)=>zah N a0⟩
theorem zbu (N:Nat):zcX Tryz.prog 71 (codec_Reader_fail_o8e40xsp N):=og (g:=71) N (.nil) (.nil) (by kernel_rfl) (fun x=>by kernel_rfl)
def codec_Reader_Number_o68fd_sp (N:Nat):OSp:=⟨.mk [.p (.pt 0 0 2)] [] [.cells [xl 10,xi]] [] [] [],[.mk [.v ci] [.h 0 0 (xl 10),.h 0 1 (xi)] [] [] [(3,⟨[.r 3 ci,.r 4 ci],[],[],[]⟩)] [(15990802,[.mk [.v ci] [.h 0 0 (xl 10),.h 0 1 (xi)] [] [(1000000,0)] [] []]),(32768027,[.mk [.v ci] [.h 0 0 (xl 10),.h 0 1 (xi)] [] [(1000000,0)] [] []]),(116654107,[.mk [.v ci] [.h 0 0 (xl 10),.h 0 1 (xi)] [] [(1000000,0)] [] []]),(1072955450,[.mk [.v ci] [.h 0 0 (xl 10),.h 0 1 (xi)] [] [(1000000,0)] [] []]),(3757310010,[.mk [.v ci] [.h 0 0 (xl 10),.h 0 1 (xi)] [] [(1000000,0)] [] []])]],fun (a0,a1)=>zaa N a0 a1⟩
theorem zar (N:Nat):zcX Tryz.prog 63 (codec_Reader_Number_o68fd_sp N):=og (g:=63) N (.nil) (.cons (zbu N)<|.nil) (by kernel_rfl) (fun x=>by kernel_rfl)
def codec_Reader_Within_of00f_sp (N:Nat):OSp:=⟨.mk [.p (.pt 0 0 2),.v ci,.v ci] [] [.cells [xl 10,xi]] [] [] [],[.mk [.v ci] [.h 0 0 (xl 10),.h 0 1 (xi)] [] [] [] [(393225,[.mk [.v ci] [.h 0 0 (xl 10),.h 0 1 (xi)] [] [(1000000,0)] [] []]),(15990812,[.mk [.v ci] [.h 0 0 (xl 10),.h 0 1 (xi)] [] [(1000000,1)] [] []])]],fun (a0,a1,a2,a3)=>zal N a0 a1 a2 a3⟩
theorem zaG (N:Nat):zcX Tryz.prog 32 (codec_Reader_Within_of00f_sp N):=og (g:=32) N (.nil) (.cons (zar N)<|.cons (zbu N)<|.nil) (by kernel_rfl) (fun x=>by kernel_rfl)
def image_reader_vector_o9324xsp (N:Nat):OSp:=⟨.mk [.ag [.pt 0 0 2]] [] [.cells [xl 10,xi]] [] [] [],[.mk [.v (.st 0)] [.h 0 0 (xl 10),.h 0 1 (xi)] [] [] [] [(393221,[.mk [.v ci] [.h 0 0 (xl 10),.h 0 1 (xi)] [] [(1000000,0)] [] []]),(393224,[.mk [.v ci] [.h 0 0 (xl 10),.h 0 1 (xi)] [] [(1000000,0)] [] []]),(393227,[.mk [.v ci] [.h 0 0 (xl 10),.h 0 1 (xi)] [] [(1000000,0)] [] []]),(393230,[.mk [.v ci] [.h 0 0 (xl 10),.h 0 1 (xi)] [] [(1000000,0)] [] []])]],fun (a0,a1)=>zaA N a0 a1⟩
theorem zci (N:Nat):zcX Tryz.prog 106 (image_reader_vector_o9324xsp N):=og (g:=106) N (.nil) (.cons (zar N)<|.nil) (by kernel_rfl) (fun x=>by kernel_rfl)
def image_reader_truth_o098f_sp (N:Nat):OSp:=⟨.mk [.ag [.pt 0 0 2]] [] [.cells [xl 10,xi]] [] [] [],[.mk [.v cb] [.h 0 0 (xl 10),.h 0 1 (xi)] [] [] [] [(393221,[.mk [.v ci] [.h 0 0 (xl 10),.h 0 1 (xi)] [] [(1000000,0)] [] []])]],fun (a0,a1)=>zau N a0 a1⟩
theorem zcw (N:Nat):zcX Tryz.prog 109 (image_reader_truth_o098f_sp N):=og (g:=109) N (.nil) (.cons (zaG N)<|.nil) (by kernel_rfl) (fun x=>by kernel_rfl)
def image_reader_dep_o5d9c_sp (N:Nat):OSp:=⟨.mk [.ag [.pt 0 0 2]] [] [.cells [xl 10,xi]] [] [] [],[.mk [.v (.st 4)] [.h 0 0 (xl 10),.h 0 1 (xi)] [] [] [] [(393221,[.mk [.v ci] [.h 0 0 (xl 10),.h 0 1 (xi)] [] [(1000000,0)] [] []]),(393223,[.mk [.v cb] [.h 0 0 (xl 10),.h 0 1 (xi)] [] [(1000000,1)] [] []])]],fun (a0,a1)=>zaP N a0 a1⟩
theorem image_reader_dep_o5d9c_ok (N:Nat):zcX Tryz.prog 108 (image_reader_dep_o5d9c_sp N):=og (g:=108) N (.nil) (.cons (zar N)<|.cons (zcw N)<|.nil) (by kernel_rfl) (fun x=>by kernel_rfl)
def image_reader_job_o94c9xsp (N:Nat):OSp:=⟨.mk [.ag [.pt 0 0 2]] [] [.cells [xl 10,xi]] [] [] [],[.mk [.v (.st 5)] [.h 0 0 (xl 10),.h 0 1 (xi)] [] [] [] [(393222,[.mk [.v ci] [.h 0 0 (xl 10),.h 0 1 (xi)] [] [(1000000,0)] [] []]),(393225,[.mk [.v ci] [.h 0 0 (xl 10),.h 0 1 (xi)] [] [(1000000,0)] [] []]),(393228,[.mk [.v ci] [.h 0 0 (xl 10),.h 0 1 (xi)] [] [(1000000,0)] [] []]),(393231,[.mk [.v ci] [.h 0 0 (xl 10),.h 0 1 (xi)] [] [(1000000,0)] [] []]),(917522,[.mk [.v (.st 0)] [.h 0 0 (xl 10),.h 0 1 (xi)] [] [(1000000,1)] [] []]),(1966102,[.mk [.v ci] [.h 0 0 (xl 10),.h 0 1 (xi)] [] [(1000000,0)] [] []]),(4063259,[.mk [.v (.c (.sl 4))] [.h 0 0 (xl 10),.h 0 1 (xi)] [] [(17,4)] [(58,⟨[.r 12 ci,.h 0 0 (.sl 10),.h 0 1 (.int .i64),.w 5 4],[(7,5)],[(7,4)],[]⟩)] [(1835019,[.mk [.v ci] [.h 0 0 (xl 10),.h 0 1 (xi)] [] [(1000000,2)] [] []]),(122421264,[.mk [.v (.st 4)] [.h 0 0 (xl 10),.h 0 1 (xi)] [] [(1000000,3)] [] []])]]),(8257567,[.mk [.v ci] [.h 0 0 (xl 10),.h 0 1 (xi)] [] [(1000000,0)] [] []]),(16646178,[.mk [.v cb] [.h 0 0 (xl 10),.h 0 1 (xi)] [] [(1000000,4)] [] []]),(16646180,[.mk [.v cb] [.h 0 0 (xl 10),.h 0 1 (xi)] [] [(1000000,4)] [] []]),(33423401,[.mk [.v ci] [.h 0 0 (xl 10),.h 0 1 (xi)] [] [(1000000,0)] [] []]),(33423404,[.mk [.v ci] [.h 0 0 (xl 10),.h 0 1 (xi)] [] [(1000000,0)] [] []]),(33423407,[.mk [.v ci] [.h 0 0 (xl 10),.h 0 1 (xi)] [] [(1000000,0)] [] []]),(66977845,[.mk [.v ci] [.h 0 0 (xl 10),.h 0 1 (xi)] [] [(1000000,0)] [] []]),(66977848,[.mk [.v ci] [.h 0 0 (xl 10),.h 0 1 (xi)] [] [(1000000,0)] [] []])]],fun (a0,a1)=>zaO N a0 a1⟩
theorem image_reader_job_o94c9xok (N:Nat):zcX Tryz.prog 65 (image_reader_job_o94c9xsp N):=og (g:=65) N (.nil) (.cons (zar N)<|.cons (zci N)<|.cons (zaG N)<|.cons (image_reader_dep_o5d9c_ok N)<|.cons (zcw N)<|.nil) (by kernel_rfl) (fun x=>by kernel_rfl)
def image_reader_part_o28b1xsp (N:Nat):OSp:=⟨.mk [.ag [.pt 0 0 2]] [] [.cells [xl 10,xi]] [] [] [],[.mk [.v (.st 6)] [.h 0 0 (xl 10),.h 0 1 (xi)] [] [] [] [(393221,[.mk [.v ci] [.h 0 0 (xl 10),.h 0 1 (xi)] [] [(1000000,0)] [] []]),(393224,[.mk [.v ci] [.h 0 0 (xl 10),.h 0 1 (xi)] [] [(1000000,0)] [] []])]],fun (a0,a1)=>zaM N a0 a1⟩
theorem image_reader_part_o28b1xok (N:Nat):zcX Tryz.prog 111 (image_reader_part_o28b1xsp N):=og (g:=111) N (.nil) (.cons (zar N)<|.nil) (by kernel_rfl) (fun x=>by kernel_rfl)
def image_reader_alloc_o47fc_sp (N:Nat):OSp:=⟨.mk [.ag [.pt 0 0 2]] [] [.cells [xl 10,xi]] [] [] [],[.mk [.v (.st 7)] [.h 0 0 (xl 10),.h 0 1 (xi)] [] [] [] [(393222,[.mk [.v ci] [.h 0 0 (xl 10),.h 0 1 (xi)] [] [(1000000,0)] [] []]),(393224,[.mk [.v (.st 0)] [.h 0 0 (xl 10),.h 0 1 (xi)] [] [(1000000,1)] [] []]),(917517,[.mk [.v (.c (.sl 6))] [.h 0 0 (xl 10),.h 0 1 (xi)] [] [(17,6)] [(58,⟨[.r 12 ci,.h 0 0 (.sl 10),.h 0 1 (.int .i64),.w 5 6],[(7,5)],[(7,6)],[]⟩)] [(1835019,[.mk [.v ci] [.h 0 0 (xl 10),.h 0 1 (xi)] [] [(1000000,2)] [] []]),(122421264,[.mk [.v (.st 6)] [.h 0 0 (xl 10),.h 0 1 (xi)] [] [(1000000,3)] [] []])]])]],fun (a0,a1)=>zaH N a0 a1⟩
theorem image_reader_alloc_o47fc_ok (N:Nat):zcX Tryz.prog 67 (image_reader_alloc_o47fc_sp N):=og (g:=67) N (.nil) (.cons (zar N)<|.cons (zci N)<|.cons (zaG N)<|.cons (image_reader_part_o28b1xok N)<|.nil) (by kernel_rfl) (fun x=>by kernel_rfl)
def image_reader_booking_o619c_sp (N:Nat):OSp:=⟨.mk [.ag [.pt 0 0 2]] [] [.cells [xl 10,xi]] [] [] [],[.mk [.v (.st 8)] [.h 0 0 (xl 10),.h 0 1 (xi)] [] [] [] [(393221,[.mk [.v ci] [.h 0 0 (xl 10),.h 0 1 (xi)] [] [(1000000,0)] [] []]),(393224,[.mk [.v ci] [.h 0 0 (xl 10),.h 0 1 (xi)] [] [(1000000,0)] [] []]),(393227,[.mk [.v ci] [.h 0 0 (xl 10),.h 0 1 (xi)] [] [(1000000,0)] [] []]),(393230,[.mk [.v ci] [.h 0 0 (xl 10),.h 0 1 (xi)] [] [(1000000,0)] [] []])]],fun (a0,a1)=>zaD N a0 a1⟩
theorem image_reader_booking_o619c_ok (N:Nat):zcX Tryz.prog 69 (image_reader_booking_o619c_sp N):=og (g:=69) N (.nil) (.cons (zar N)<|.nil) (by kernel_rfl) (fun x=>by kernel_rfl)
end Go.Abs
end
end
section
set_option maxRecDepth 100000
noncomputable section
namespace Go.Abs
open Go.Proofs
variable [Gl]
def image_reader_state_o8c4e_sp (N:Nat):OSp:=⟨.mk [.ag [.pt 0 0 2]] [] [.cells [xl 10,xi]] [] [] [],[.mk [.v (.st 12)] [.h 0 0 (xl 10),.h 0 1 (xi)] [] [] [] [(393222,[.mk [.v ci] [.h 0 0 (xl 10),.h 0 1 (xi)] [] [(1000000,0)] [] []]),(393225,[.mk [.v ci] [.h 0 0 (xl 10),.h 0 1 (xi)] [] [(1000000,0)] [] []]),(393228,[.mk [.v ci] [.h 0 0 (xl 10),.h 0 1 (xi)] [] [(1000000,0)] [] []]),(917521,[.mk [.v (.c (.sl 5))] [.h 0 0 (xl 10),.h 0 1 (xi)] [] [(17,5)] [(58,⟨[.r 12 ci,.h 0 0 (.sl 10),.h 0 1 (.int .i64),.w 5 5],[(7,5)],[(7,5)],[]⟩)] [(1835019,[.mk [.v ci] [.h 0 0 (xl 10),.h 0 1 (xi)] [] [(1000000,1)] [] []]),(122421264,[.mk [.v (.st 5)] [.h 0 0 (xl 10),.h 0 1 (xi)] [] [(1000000,2)] [] []])]]),(1966102,[.mk [.v (.c (.sl 7))] [.h 0 0 (xl 10),.h 0 1 (xi)] [] [(17,7)] [(58,⟨[.r 12 ci,.h 0 0 (.sl 10),.h 0 1 (.int .i64),.w 5 7],[(7,5)],[(7,7)],[]⟩)] [(1835019,[.mk [.v ci] [.h 0 0 (xl 10),.h 0 1 (xi)] [] [(1000000,1)] [] []]),(122421264,[.mk [.v (.st 7)] [.h 0 0 (xl 10),.h 0 1 (xi)] [] [(1000000,3)] [] []])]]),(4063259,[.mk [.v (.c (.sl 8))] [.h 0 0 (xl 10),.h 0 1 (xi)] [] [(17,8)] [(58,⟨[.r 12 ci,.h 0 0 (.sl 10),.h 0 1 (.int .i64),.w 5 8],[(7,5)],[(7,8)],[]⟩)] [(1835019,[.mk [.v ci] [.h 0 0 (xl 10),.h 0 1 (xi)] [] [(1000000,1)] [] []]),(122421264,[.mk [.v (.st 8)] [.h 0 0 (xl 10),.h 0 1 (xi)] [] [(1000000,4)] [] []])]]),(8257569,[.mk [.v (.c (.sl 1))] [.h 0 0 (xl 10),.h 0 1 (xi)] [] [(17,1)] [(58,⟨[.r 12 ci,.h 0 0 (.sl 10),.h 0 1 (.int .i64),.w 5 1],[(7,5)],[(7,1)],[]⟩)] [(1835019,[.mk [.v ci] [.h 0 0 (xl 10),.h 0 1 (xi)] [] [(1000000,1)] [] []]),(122421264,[.mk [.v ci] [.h 0 0 (xl 10),.h 0 1 (xi)] [] [] [(3,⟨[.r 3 ci,.r 4 ci],[],[],[]⟩)] [(15990802,[.mk [.v ci] [.h 0 0 (xl 10),.h 0 1 (xi)] [] [(1000000,5)] [] []]),(32768027,[.mk [.v ci] [.h 0 0 (xl 10),.h 0 1 (xi)] [] [(1000000,5)] [] []]),(116654107,[.mk [.v ci] [.h 0 0 (xl 10),.h 0 1 (xi)] [] [(1000000,5)] [] []]),(1072955450,[.mk [.v ci] [.h 0 0 (xl 10),.h 0 1 (xi)] [] [(1000000,5)] [] []]),(3757310010,[.mk [.v ci] [.h 0 0 (xl 10),.h 0 1 (xi)] [] [(1000000,5)] [] []])]])]]),(16646183,[.mk [.v (.c (.sl 1))] [.h 0 0 (xl 10),.h 0 1 (xi)] [] [(17,1)] [(58,⟨[.r 12 ci,.h 0 0 (.sl 10),.h 0 1 (.int .i64),.w 5 1],[(7,5)],[(7,1)],[]⟩)] [(1835019,[.mk [.v ci] [.h 0 0 (xl 10),.h 0 1 (xi)] [] [(1000000,1)] [] []]),(122421264,[.mk [.v ci] [.h 0 0 (xl 10),.h 0 1 (xi)] [] [] [(3,⟨[.r 3 ci,.r 4 ci],[],[],[]⟩)] [(15990802,[.mk [.v ci] [.h 0 0 (xl 10),.h 0 1 (xi)] [] [(1000000,5)] [] []]),(32768027,[.mk [.v ci] [.h 0 0 (xl 10),.h 0 1 (xi)] [] [(1000000,5)] [] []]),(116654107,[.mk [.v ci] [.h 0 0 (xl 10),.h 0 1 (xi)] [] [(1000000,5)] [] []]),(1072955450,[.mk [.v ci] [.h 0 0 (xl 10),.h 0 1 (xi)] [] [(1000000,5)] [] []]),(3757310010,[.mk [.v ci] [.h 0 0 (xl 10),.h 0 1 (xi)] [] [(1000000,5)] [] []])]])]]),(33423404,[.mk [.v ci] [.h 0 0 (xl 10),.h 0 1 (xi)] [] [(1000000,0)] [] []])]],fun (a0,a1)=>zaS N a0 a1⟩
theorem image_reader_state_o8c4e_ok (N:Nat):zcX Tryz.prog 29 (image_reader_state_o8c4e_sp N):=og (g:=29) N (.nil) (.cons (zar N)<|.cons (zaG N)<|.cons (image_reader_job_o94c9xok N)<|.cons (image_reader_alloc_o47fc_ok N)<|.cons (image_reader_booking_o619c_ok N)<|.cons (zbu N)<|.nil) (by kernel_rfl) (fun x=>by kernel_rfl)
def codec_Reader_Err_ofb16xsp (N:Nat):OSp:=⟨.mk [.p (.pt 0 0 2)] [] [.cells [xl 10,xi]] [] [] [],[.mk [.v ci] [] [] [] [] []],fun (_,a1)=>zbr N a1⟩
theorem zcY (N:Nat):zcX Tryz.prog 30 (codec_Reader_Err_ofb16xsp N):=og (g:=30) N (.nil) (.nil) (by kernel_rfl) (fun x=>by kernel_rfl)
def codec_Reader_Left_ofa56xsp (N:Nat):OSp:=⟨.mk [.p (.pt 0 0 2)] [] [.cells [xl 10,xi]] [] [] [],[.mk [.v ci] [] [] [] [] []],fun (a0,_)=>zbj N a0⟩
theorem zcN (N:Nat):zcX Tryz.prog 31 (codec_Reader_Left_ofa56xsp N):=og (g:=31) N (.nil) (.nil) (by kernel_rfl) (fun x=>by kernel_rfl)
def codec_Reader_End_oae6d_sp (N:Nat):OSp:=⟨.mk [.p (.pt 0 0 2)] [] [.cells [xl 10,xi]] [] [] [],[.mk [.v ci] [] [] [] [] [(786437,[.mk [.v ci] [] [] [(1000000,0)] [] []]),(1835018,[.mk [.v ci] [] [] [(1000000,1)] [] []])]],fun (a0,a1)=>zb8 N a0 a1⟩
theorem codec_Reader_End_oae6d_ok (N:Nat):zcX Tryz.prog 33 (codec_Reader_End_oae6d_sp N):=og (g:=33) N (.nil) (.cons (zcY N)<|.cons (zcN N)<|.nil) (by kernel_rfl) (fun x=>by kernel_rfl)
def image_Read_sp (N:Nat):TSp:=⟨[.st 11,.c (.sl 10)],[.st 12,ci],fun a=>image_Read N a.1 a.2.1⟩
theorem image_Read_ok (N:Nat):zaX Tryz.prog 10 (image_Read_sp N):=tg [] [(254,⟨[.r 50 cb,.h 2 0 (.sl 10),.h 2 1 (.int .i64)],[],[],[]⟩)] [(917518,[.mk [.p (.pt 2 0 2)] [] [.cells [xl 10,xi]] [(1000000,0)] [] []]),(1966097,[.mk [.v (.st 12)] [.h 2 0 (xl 10),.h 2 1 (xi)] [] [(1000000,1)] [] []]),(8126484,[.mk [.v ci] [] [] [(1000000,2)] [] []]),(8257564,[.mk [.v ci] [] [] [(1000000,3)] [] []]),(33292324,[.mk [.v ci] [.h 2 0 (xl 10),.h 2 1 (xi)] [] [(1000000,4)] [] []]),(33292330,[.mk [.v ci] [] [] [(1000000,5)] [] []])] N (.cons (spec_Right_ok N)<|.cons (image_Check_ok N)<|.cons (store_Sound_ok N)<|.nil) (.cons (codec_New_o0c64xok N)<|.cons (image_reader_state_o8c4e_ok N)<|.cons (zcY N)<|.cons (zcN N)<|.cons (zaG N)<|.cons (codec_Reader_End_oae6d_ok N)<|.nil) (fun a=>by kernel_rfl)
def drayageref50xtruth_sp (N:Nat):TSp:=⟨[cb],[ci],fun a=>zbA N a.1⟩
theorem drayageref50xtruth_ok (N:Nat):zaX Tryz.prog 112 (drayageref50xtruth_sp N):=tg [] [] [] N (.nil) (.nil) (fun a=>by kernel_rfl)
def drayageref50xjob_sp (N:Nat):TSp:=⟨[.st 5],[.c (.sl 1)],fun a=>zc9 N a.1⟩
theorem drayageref50xjob_ok (N:Nat):zaX Tryz.prog 72 (drayageref50xjob_sp N):=tg [(30,1),(45,1),(55,1),(76,1)] [(58,⟨[.r 4 ci,.w 1 1],[(3,1)],[],[]⟩)] [] N (.cons (drayageref50xtruth_ok N)<|.nil) (.nil) (fun a=>by kernel_rfl)
def drayageref50xalloc_sp (N:Nat):TSp:=⟨[.st 7],[.c (.sl 1)],fun a=>zce N a.1⟩
theorem drayageref50xalloc_ok (N:Nat):zaX Tryz.prog 73 (drayageref50xalloc_sp N):=tg [(22,1),(37,1),(46,1)] [(58,⟨[.r 4 ci,.w 1 1],[(3,1)],[],[]⟩)] [] N (.nil) (.nil) (fun a=>by kernel_rfl)
def drayageref50xNumbers_sp (N:Nat):TSp:=⟨[.st 12],[.c (.sl 1)],fun a=>zbI N a.1⟩
theorem drayageref50xNumbers_ok (N:Nat):zaX Tryz.prog 35 (drayageref50xNumbers_sp N):=tg [(17,1),(37,1),(58,1),(81,1),(87,1),(98,1),(109,1)] [(58,⟨[.r 4 ci,.w 1 1],[(3,1)],[],[]⟩),(250,⟨[.r 5 ci,.w 1 1],[(3,1)],[],[]⟩),(1018,⟨[.r 6 ci,.w 1 1],[(3,1)],[],[]⟩)] [] N (.cons (drayageref50xjob_ok N)<|.cons (drayageref50xalloc_ok N)<|.nil) (.nil) (fun a=>by kernel_rfl)
def drayageref05xBytes_sp (N:Nat):TSp:=⟨[ci],[.c (.sl 10)],fun a=>za0 N a.1⟩
theorem zcu:∀N:Nat,zaX Tryz.prog 36 (drayageref05xBytes_sp N)
 | 0=>fun a r h=>by cases h
 | N+1=>tg [(7,10),(12,10)] [] [] N (.cons (zcu N)<|.nil) (.nil) (fun a=>by kernel_rfl)
def drayageref05xPut_of94a_sp (N:Nat):OSp:=⟨.mk [.v (.c (.sl 1))] [] [] [] [] [],[.mk [.p (.hd 0)] [] [.row 10] [] [(58,⟨[.r 4 ci,.w 0 10],[(3,0)],[(3,10)],[]⟩)] []],fun a0=>zbs N a0⟩
theorem drayageref05xPut_of94a_ok (N:Nat):zcX Tryz.prog 34 (drayageref05xPut_of94a_sp N):=og (g:=34) N (.cons (zcu N)<|.nil) (.nil) (by kernel_rfl) (fun x=>by kernel_rfl)
def drayageref50xWrite_sp (N:Nat):TSp:=⟨[.st 12],[.c (.sl 10)],fun a=>zcd N a.1⟩
theorem drayageref50xWrite_ok (N:Nat):zaX Tryz.prog 12 (drayageref50xWrite_sp N):=tg [] [] [(393222,[.mk [.p (.hd 1)] [] [.row 10] [(1000000,0)] [] []])] N (.cons (drayageref50xNumbers_ok N)<|.cons (drayageref50xCheck_ok N)<|.cons (zcu N)<|.nil) (.cons (drayageref05xPut_of94a_ok N)<|.nil) (fun a=>by kernel_rfl)
def drayageref16xSame_sp (N:Nat):TSp:=⟨[.st 5,.st 5],[cb],fun a=>zcL N a.1 a.2.1⟩
theorem drayageref16xSame_ok (N:Nat):zaX Tryz.prog 74 (drayageref16xSame_sp N):=tg [] [(58,⟨[.r 5 ci],[],[],[]⟩)] [] N (.nil) (.nil) (fun a=>by kernel_rfl)
def drayageref18xSame_sp (N:Nat):TSp:=⟨[.c (.sl 5),.c (.sl 5)],[cb],fun a=>zcA N a.1 a.2.1⟩
theorem drayageref18xSame_ok (N:Nat):zaX Tryz.prog 37 (drayageref18xSame_sp N):=tg [] [(58,⟨[.r 5 ci],[],[],[]⟩)] [] N (.cons (drayageref16xSame_ok N)<|.nil) (.nil) (fun a=>by kernel_rfl)
def drayageref11xSame_sp (N:Nat):TSp:=⟨[.c (.sl 6),.c (.sl 6)],[cb],fun a=>zcD N a.1 a.2.1⟩
theorem drayageref11xSame_ok (N:Nat):zaX Tryz.prog 75 (drayageref11xSame_sp N):=tg [] [(58,⟨[.r 5 ci],[],[],[]⟩)] [] N (.nil) (.nil) (fun a=>by kernel_rfl)
def drayageref14xSame_sp (N:Nat):TSp:=⟨[.c (.sl 7),.c (.sl 7)],[cb],fun a=>zcF N a.1 a.2.1⟩
theorem drayageref14xSame_ok (N:Nat):zaX Tryz.prog 38 (drayageref14xSame_sp N):=tg [] [(58,⟨[.r 5 ci],[],[],[]⟩),(932,⟨[.r 54 cb],[],[],[]⟩)] [] N (.cons (drayageref11xSame_ok N)<|.nil) (.nil) (fun a=>by kernel_rfl)
def drayageref12xSame_sp (N:Nat):TSp:=⟨[.c (.sl 8),.c (.sl 8)],[cb],fun a=>zcJ N a.1 a.2.1⟩
theorem drayageref12xSame_ok (N:Nat):zaX Tryz.prog 39 (drayageref12xSame_sp N):=tg [] [(58,⟨[.r 5 ci],[],[],[]⟩)] [] N (.nil) (.nil) (fun a=>by kernel_rfl)
def drayageref01xInts_sp (N:Nat):TSp:=⟨[.c (.sl 1),.c (.sl 1)],[cb],fun a=>zbN N a.1 a.2.1⟩
theorem drayageref01xInts_ok (N:Nat):zaX Tryz.prog 40 (drayageref01xInts_sp N):=tg [] [(58,⟨[.r 5 ci],[],[],[]⟩)] [] N (.nil) (.nil) (fun a=>by kernel_rfl)
def drayageref23xSame_sp (N:Nat):TSp:=⟨[.st 12,.st 12],[cb],fun a=>zcG N a.1 a.2.1⟩
theorem drayageref23xSame_ok (N:Nat):zaX Tryz.prog 13 (drayageref23xSame_sp N):=tg [] [] [] N (.cons (drayageref18xSame_ok N)<|.cons (drayageref14xSame_ok N)<|.cons (drayageref12xSame_ok N)<|.cons (drayageref01xInts_ok N)<|.nil) (.nil) (fun a=>by kernel_rfl)
def drayagelaw50xImageWrites_sp (N:Nat):TSp:=⟨[.st 9,.c (.sl 10)],[cb],fun a=>zbO N a.1 a.2.1⟩
theorem drayagelaw50xImageWrites_ok (N:Nat):zaX Tryz.prog 3 (drayagelaw50xImageWrites_sp N):=tg [] [] [] N (.cons (drayagelaw50xawake_ok N)<|.cons (drayagelaw23xFew_ok N)<|.cons (image_Write_ok N)<|.cons (image_Check_ok N)<|.cons (drayageref50xCheck_ok N)<|.cons (drayageref23xSound_ok N)<|.cons (image_Read_ok N)<|.cons (drayageref50xWrite_ok N)<|.cons (drayageref01xBytes_ok N)<|.cons (drayageref23xSame_ok N)<|.nil) (.nil) (fun a=>by kernel_rfl)
end Go.Abs
end
end
section
end
