/- The code computes these functions. -/
import Derived.Test.YtidolomakdofhaaGreatDoorTyPure
import Derived.Test.YtidolomakdofhaaGreatDoorProg
import Derived.Test.YtidolomakdofhaaGreatDoorTyPrim
import Derived.KernelRfl
set_option linter.all false
section
set_option maxRecDepth 100000
noncomputable section
namespace Go.Abs
open Go.Proofs
abbrev ci:VCd:=.c (.int .i64)
abbrev cb:VCd:=.c .bool
abbrev xi:CP:=.c (.int .i64)
abbrev xb:CP:=.c .bool
abbrev xl(n:Nat):CP:=.c (.sl n)
abbrev xn:CP:=.k (.c (.lit (.slice none 0 0)))
theorem mix:Tryz.prog.follows .mixedOrders=true:=by kernel_rfl
def KB:InlB:=inlKeys 83 144 1 (λk=>k)
theorem KB_ok:InlB.ok Tryz.prog KB:=inlKeys_ok Tryz.sortsKeys (λk=>rfl)
theorem tg{g:Nat}{S:TSs}{s:TSp}(H:List (Nat×Nat))(J:List (Nat×JH))(C:List (Nat×List CT))(N:Nat)(hS:TSsOk Tryz.prog S){O:OSs}(hO:OSsOk Tryz.prog O)(h:∀a,tG Tryz.prog g S O KB H J C s.ins s.out N a=s.f a):zaM Tryz.prog g s:=tG_ok mix hS hO KB_ok h
theorem og{g:Nat}{S:TSs}{O:OSs}{s:OSp}(N:Nat)(hS:TSsOk Tryz.prog S)(hO:OSsOk Tryz.prog O)(he:enterable Tryz.prog g=true)(h:∀x,oG Tryz.prog g S O KB N s x=s.f x):za4 Tryz.prog g s:=oG_ok mix hS hO KB_ok he h
end Go.Abs
end
end
section
set_option maxRecDepth 100000
noncomputable section
namespace Go.Abs
open Go.Proofs
def drayageref07xSmall_sp(N:Nat):TSp:=⟨[],[.st 11],λa=>drayageref07xSmall N⟩
theorem drayageref07xSmall_ok(N:Nat):zaM Tryz.prog 16 (drayageref07xSmall_sp N):=clo_ok (P:=Tryz.prog) (g:=16) (out:=[.st 11]) (λa=>drayageref07xSmall N) mix (by kernel_rfl)
def vec_numbers_sp(N:Nat):TSp:=⟨[.st 0],[.st 12],λa=>vec_numbers N a.1⟩
theorem vec_numbers_ok(N:Nat):zaM Tryz.prog 153 (vec_numbers_sp N):=tg [] [] [] N (.nil) (.nil) (λa=>by kernel_rfl)
def vec_Right_sp(N:Nat):TSp:=⟨[.st 0],[cb],λa=>zcd N a.1⟩
theorem zcy(N:Nat):zaM Tryz.prog 103 (vec_Right_sp N):=tg [] [(26,⟨[.r 7 ci],[],[],[]⟩)] [] N (.cons (vec_numbers_ok N)<|.nil) (.nil) (λa=>by kernel_rfl)
def spec_nodesRight_sp(N:Nat):TSp:=⟨[.st 11],[cb],λa=>spec_nodesRight N a.1⟩
theorem spec_nodesRight_ok(N:Nat):zaM Tryz.prog 202 (spec_nodesRight_sp N):=tg [] [(58,⟨[.r 18 ci],[],[],[]⟩)] [] N (.cons (zcy N)<|.nil) (.nil) (λa=>by kernel_rfl)
def spec_ascending_sp(N:Nat):TSp:=⟨[.c (.sl 1),ci],[cb],λa=>zed N a.1 a.2.1⟩
theorem spec_ascending_ok(N:Nat):zaM Tryz.prog 231 (spec_ascending_sp N):=tg [] [(58,⟨[.r 5 ci,.r 10 ci],[],[],[]⟩)] [] N (.nil) (.nil) (λa=>by kernel_rfl)
def spec_partsRight_sp(N:Nat):TSp:=⟨[.st 11],[cb],λa=>spec_partsRight N a.1⟩
theorem spec_partsRight_ok(N:Nat):zaM Tryz.prog 204 (spec_partsRight_sp N):=tg [] [(58,⟨[.r 18 ci],[],[],[]⟩),(3737,⟨[.r 32 cb],[],[],[]⟩)] [] N (.cons (spec_ascending_ok N)<|.nil) (.nil) (λa=>by kernel_rfl)
def spec_queuesRight_sp(N:Nat):TSp:=⟨[.st 11],[cb],λa=>zel N a.1⟩
theorem spec_queuesRight_ok(N:Nat):zaM Tryz.prog 207 (spec_queuesRight_sp N):=tg [] [(58,⟨[.r 20 ci],[],[],[]⟩),(7474,⟨[.r 42 cb],[],[],[]⟩),(59802,⟨[.r 50 ci],[],[],[]⟩)] [] N (.cons (spec_ascending_ok N)<|.nil) (.nil) (λa=>by kernel_rfl)
def spec_weightsRight_sp(N:Nat):TSp:=⟨[.st 13],[cb],λa=>zdL N a.1⟩
theorem spec_weightsRight_ok(N:Nat):zaM Tryz.prog 209 (spec_weightsRight_sp N):=tg [] [(26,⟨[.r 14 ci],[],[],[]⟩)] [] N (.nil) (.nil) (λa=>by kernel_rfl)
def spec_Flaw_sp(N:Nat):TSp:=⟨[.st 11],[.c .str],λa=>spec_Flaw N a.1⟩
theorem spec_Flaw_ok(N:Nat):zaM Tryz.prog 86 (spec_Flaw_sp N):=tg [] [(26,⟨[],[],[(1000003,40)],[]⟩)] [(786438,[.mk [] [] [] [(1000002,0),(43,1000001)] [] [(393225,[.mk [] [] [] [(1000002,0)] [] []]),(393232,[.mk [] [] [] [(1000002,0)] [] []]),(393237,[.mk [] [] [] [(1000002,0)] [] []]),(393240,[.mk [] [] [] [(1000002,0)] [] []]),(393243,[.mk [] [] [] [(1000002,0)] [] []]),(393246,[.mk [] [] [] [(1000002,0)] [] []]),(393249,[.mk [] [] [] [(1000002,0)] [] []]),(393252,[.mk [] [] [] [(1000002,0)] [] []]),(393255,[.mk [] [] [] [(1000002,0)] [] []]),(393258,[.mk [] [] [] [(1000002,0)] [] []])]]),(221380622,[.mk [.v cb] [] [] [] [] []])] N (.cons (spec_nodesRight_ok N)<|.cons (spec_partsRight_ok N)<|.cons (spec_queuesRight_ok N)<|.cons (spec_weightsRight_ok N)<|.nil) (.nil) (λa=>by kernel_rfl)
def spec_Right_sp(N:Nat):TSp:=⟨[.st 11],[cb],λa=>zdg N a.1⟩
theorem zdJ(N:Nat):zaM Tryz.prog 38 (spec_Right_sp N):=tg [] [] [] N (.cons (spec_Flaw_ok N)<|.nil) (.nil) (λa=>by kernel_rfl)
def table_New_of79d_sp(N:Nat):OSp:=⟨.mk [.v ci] [] [] [] [] [],[.mk [.p (.k (.c (.lit (.pointer none)))),.p (.k (.c (.lit (.int .i64 2))))] [] [] [] [] [],.mk [.p (.pt 0 0 2),.p (.k (.c (.lit (.int .i64 0))))] [] [.cells [xi,xn]] [] [] []],λa0=>table_New_of79d N a0⟩
theorem table_New_of79d_ok(N:Nat):za4 Tryz.prog 49 (table_New_of79d_sp N):=og (g:=49) N (.nil) (.nil) (by kernel_rfl) (λx=>by kernel_rfl)
def slices_Clone_Lapi_Res_api_Res_sp(N:Nat):TSp:=⟨[.c (.sl 0)],[.c (.sl 0)],λa=>zaR N a.1⟩
theorem zcF(N:Nat):zaM Tryz.prog 98 (slices_Clone_Lapi_Res_api_Res_sp N):=clone_ok (i:=0) (sz:=32) (z:=[.c (.lit (.int .i64 0)),.c (.lit (.int .i64 0)),.c (.lit (.int .i64 0)),.c (.lit (.int .i64 0))]) (fn:=Tryz.f98) mix (by kernel_rfl) (by kernel_rfl) (by kernel_rfl) rfl
def ledger_New_oe6df_sp(N:Nat):OSp:=⟨.mk [.v (.st 11)] [] [] [] [] [],[.mk [.p (.k (.c (.lit (.pointer none)))),.p (.k (.c (.lit (.int .i64 2))))] [] [] [(10,15)] [] [],.mk [.p (.pt 0 0 2),.p (.k (.c (.lit (.int .i64 0))))] [] [.cells [xl 0,.mr 1],.mp 7 true] [] [] []],λa0=>zdb N a0⟩
theorem ledger_New_oe6df_ok(N:Nat):za4 Tryz.prog 50 (ledger_New_oe6df_sp N):=og (g:=50) N (.cons (zdJ N)<|.cons (zcF N)<|.nil) (.nil) (by kernel_rfl) (λx=>by kernel_rfl)
def slices_Clone_LLint_Lint_own_sp(N:Nat):OSp:=⟨.mk [.v (.c (.sl 2))] [] [] [] [] [],[.mk [.p (.hd 0)] [] [.row 2] [] [] []],λx=>zb6 N x⟩
theorem slices_Clone_LLint_Lint_own_ok(N:Nat):za4 Tryz.prog 99 (slices_Clone_LLint_Lint_own_sp N):=clone_own (i:=2) (sz:=24) (z:=[.c (.lit (.slice none 0 0))]) (fn:=Tryz.f99) mix (by kernel_rfl) (by kernel_rfl) (by kernel_rfl) rfl
def slices_Clone_Lint_int_sp(N:Nat):TSp:=⟨[.c (.sl 1)],[.c (.sl 1)],λa=>zaP N a.1⟩
theorem zbU(N:Nat):zaM Tryz.prog 37 (slices_Clone_Lint_int_sp N):=clone_ok (i:=1) (sz:=8) (z:=[.c (.lit (.int .i64 0))]) (fn:=Tryz.f37) mix (by kernel_rfl) (by kernel_rfl) (by kernel_rfl) rfl
def zdt(N:Nat):OSp:=⟨.mk [.v (.c (.sl 3))] [] [] [] [] [],[.mk [.p (.hd 0)] [] [.row 3] [] [] []],λx=>zbb N x⟩
theorem zdv(N:Nat):za4 Tryz.prog 100 (zdt N):=clone_own (i:=3) (sz:=64) (z:=[.c (.lit (.int .i64 0)),.c (.lit (.slice none 0 0)),.c (.lit (.int .i64 0)),.c (.lit (.int .i64 0)),.c (.lit (.int .i64 0)),.c (.lit (.int .i64 0))]) (fn:=Tryz.f100) mix (by kernel_rfl) (by kernel_rfl) (by kernel_rfl) rfl
def store_copySpec_sp(N:Nat):TSp:=⟨[.st 11],[.st 11],λa=>zdd N a.1⟩
theorem zdK(N:Nat):zaM Tryz.prog 51 (store_copySpec_sp N):=tg [] [(122,⟨[.r 16 ci,.w 2 2],[],[],[(0,1,2)]⟩),(506,⟨[.r 37 ci,.w 3 3],[],[],[(0,2,3)]⟩)] [(917515,[.mk [.p (.hd 2)] [] [.row 2] [(1000000,0)] [] []]),(4063264,[.mk [.p (.hd 3)] [] [.row 3] [(1000000,1)] [] []])] N (.cons (zcF N)<|.cons (zbU N)<|.nil) (.cons (slices_Clone_LLint_Lint_own_ok N)<|.cons (zdv N)<|.nil) (λa=>by kernel_rfl)
def nat_Hold_int_sp(N:Nat):TSp:=⟨[ci,ci,ci],[ci],λa=>zez N a.1 a.2.1 a.2.2.1⟩
theorem nat_Hold_int_ok(N:Nat):zaM Tryz.prog 101 (nat_Hold_int_sp N):=tg [] [] [] N (.nil) (.nil) (λa=>by kernel_rfl)
def share_New_sp(N:Nat):TSp:=⟨[ci],[.c (.sl 1)],λa=>share_New N a.1⟩
theorem share_New_ok(N:Nat):zaM Tryz.prog 52 (share_New_sp N):=tg [(5,1)] [] [] N (.cons (nat_Hold_int_ok N)<|.nil) (.nil) (λa=>by kernel_rfl)
def store_New_o49f9xsp(N:Nat):OSp:=⟨.mk [.v (.st 11)] [] [] [] [] [],[.mk [.p (.k (.c (.lit (.pointer none)))),.p (.k (.c (.lit (.int .i64 2))))] [] [] [(37,1)] [] [(917517,[.mk [.p (.k (.c (.lit (.pointer none)))),.p (.k (.c (.lit (.int .i64 2))))] [] [] [(1000000,0)] [] [],.mk [.p (.pt 1 0 2),.p (.k (.c (.lit (.int .i64 0))))] [] [.cells [xi,xn]] [] [] []]),(4063253,[.mk [.p (.k (.c (.lit (.pointer none)))),.p (.k (.c (.lit (.int .i64 2))))] [] [] [(1000000,1)] [] [],.mk [.p (.pt 2 0 2),.p (.k (.c (.lit (.int .i64 0))))] [] [.cells [xl 0,.mr 3],.mp 7 true] [] [] []])],.mk [.p (.pt 0 0 27),.p (.k (.c (.lit (.int .i64 0))))] [] [.cells [.pt 1 0 2,.pt 2 0 2,xl 0,xl 2,xl 3,xi,xi,xi,xi,xi,xi,xi,xi,xi,xi,xi,xi,xi,xi,xi,xi,xi,xi,xn,xl 1,.hd 3,xi],.cells [xi,xn],.cells [xl 0,.mr 4],.row 1,.mp 7 true] [] [] []],λa0=>zdD N a0⟩
theorem store_New_o49f9xok(N:Nat):za4 Tryz.prog 15 (store_New_o49f9xsp N):=og (g:=15) N (.cons (zdJ N)<|.cons (zdK N)<|.cons (share_New_ok N)<|.nil) (.cons (table_New_of79d_ok N)<|.cons (ledger_New_oe6df_ok N)<|.nil) (by kernel_rfl) (λx=>by kernel_rfl)
def store_Store_Put_oe980xsp(N:Nat):OSp:=⟨.mk [.p (.k (.c (.lit (.pointer none)))),.v (.st 5)] [] [] [] [] [],[.mk [.v ci] [] [] [] [] []],λx=>store_Store_Put_oe980 N⟩
theorem store_Store_Put_oe980xok(N:Nat):za4 Tryz.prog 17 (store_Store_Put_oe980xsp N):=og (g:=17) N (.nil) (.nil) (by kernel_rfl) (λx=>by kernel_rfl)
def drayagelaw36xcall_sp(N:Nat):TSp:=⟨[ci],[.st 10],λa=>zaV N a.1⟩
theorem drayagelaw36xcall_ok(N:Nat):zaM Tryz.prog 18 (drayagelaw36xcall_sp N):=tg [] [] [] N (.nil) (.nil) (λa=>by kernel_rfl)
def reply_Refusal_sp(N:Nat):TSp:=⟨[ci,ci],[.st 15],λa=>zaE N a.1 a.2.1⟩
theorem zcl(N:Nat):zaM Tryz.prog 63 (reply_Refusal_sp N):=tg [] [] [] N (.nil) (.nil) (λa=>by kernel_rfl)
def chain_Do_o6143xsp(N:Nat):OSp:=⟨.mk [.p (.k (.c (.lit (.pointer none)))),.p (.hd 0)] [] [.row 10] [] [] [],[.mk [.v (.c (.sl 15))] [] [] [] [] [(6553615,[.mk [] [] [] [(1000002,0)] [] []]),(6553616,[.mk [.v (.c (.sl 15))] [] [] [(10,15),(25,15)] [(58,⟨[.r 13 ci,.w 2 15],[(5,2)],[],[]⟩)] [(244908055,[.mk [.v ci] [] [] [] [] []])]])]],λa0=>chain_Do_o6143 N a0⟩
theorem chain_Do_o6143xok(N:Nat):za4 Tryz.prog 8 (chain_Do_o6143xsp N):=og (g:=8) N (.cons (zcl N)<|.nil) (.nil) (by kernel_rfl) (λx=>by kernel_rfl)
def store_Store_State_o9e3c_sp(N:Nat):OSp:=⟨.mk [.p (.k (.c (.lit (.pointer none))))] [] [] [] [] [],[.mk [.v (.st 16)] [] [] [] [] []],λx=>store_Store_State_o9e3c N⟩
theorem store_Store_State_o9e3c_ok(N:Nat):za4 Tryz.prog 11 (store_Store_State_o9e3c_sp N):=og (g:=11) N (.nil) (.nil) (by kernel_rfl) (λx=>by kernel_rfl)
def job_within_sp(N:Nat):TSp:=⟨[ci,ci,ci],[cb],λa=>zbv N a.1 a.2.1 a.2.2.1⟩
theorem job_within_ok(N:Nat):zaM Tryz.prog 102 (job_within_sp N):=tg [] [] [] N (.nil) (.nil) (λa=>by kernel_rfl)
def job_afterRight_sp(N:Nat):TSp:=⟨[.st 5],[cb],λa=>job_afterRight N a.1⟩
theorem job_afterRight_ok(N:Nat):zaM Tryz.prog 104 (job_afterRight_sp N):=tg [] [(58,⟨[.r 12 ci],[],[],[]⟩)] [] N (.cons (job_within_ok N)<|.nil) (.nil) (λa=>by kernel_rfl)
def life_Name_sp(N:Nat):TSp:=⟨[ci],[.c .str],λa=>life_Name N a.1⟩
theorem life_Name_ok(N:Nat):zaM Tryz.prog 154 (life_Name_sp N):=tg [] [] [] N (.nil) (.nil) (λa=>by kernel_rfl)
def life_Waits_sp(N:Nat):TSp:=⟨[ci],[cb],λa=>zdc N a.1⟩
theorem zcZ(N:Nat):zaM Tryz.prog 72 (life_Waits_sp N):=tg [] [] [] N (.nil) (.nil) (λa=>by kernel_rfl)
def life_Over_sp(N:Nat):TSp:=⟨[ci],[cb],λa=>zd8 N a.1⟩
theorem life_Over_ok(N:Nat):zaM Tryz.prog 89 (life_Over_sp N):=tg [] [] [] N (.nil) (.nil) (λa=>by kernel_rfl)
def job_stateRight_sp(N:Nat):TSp:=⟨[.st 5],[cb],λa=>job_stateRight N a.1⟩
theorem job_stateRight_ok(N:Nat):zaM Tryz.prog 105 (job_stateRight_sp N):=tg [] [(51,⟨[.r 8 cb],[],[],[]⟩),(207,⟨[.r 17 cb],[],[],[]⟩)] [] N (.cons (life_Name_ok N)<|.cons (life_Over_ok N)<|.cons (zcZ N)<|.nil) (.nil) (λa=>by kernel_rfl)
def job_Right_sp(N:Nat):TSp:=⟨[.st 5],[cb],λa=>zc9 N a.1⟩
theorem zcz(N:Nat):zaM Tryz.prog 53 (job_Right_sp N):=tg [] [] [] N (.cons (job_within_ok N)<|.cons (zcy N)<|.cons (job_afterRight_ok N)<|.cons (job_stateRight_ok N)<|.nil) (.nil) (λa=>by kernel_rfl)
def slices_Clone_Lapi_Dep_api_Dep_sp(N:Nat):TSp:=⟨[.c (.sl 4)],[.c (.sl 4)],λa=>zam N a.1⟩
theorem zaJ(N:Nat):zaM Tryz.prog 67 (slices_Clone_Lapi_Dep_api_Dep_sp N):=clone_ok (i:=4) (sz:=16) (z:=[.c (.lit (.int .i64 0)),.c (.lit (.bool false))]) (fn:=Tryz.f67) mix (by kernel_rfl) (by kernel_rfl) (by kernel_rfl) rfl
def table_own_sp(N:Nat):TSp:=⟨[.st 5],[.st 5],λa=>zd4 N a.1⟩
theorem zdB(N:Nat):zaM Tryz.prog 82 (table_own_sp N):=tg [] [] [] N (.cons (zaJ N)<|.nil) (.nil) (λa=>by kernel_rfl)
def table_Table_find_ocb09xsp(N:Nat):OSp:=⟨.mk [.p (.pt 0 0 2),.v ci] [] [.cells [xi,xn]] [] [] [],[.mk [.v ci,.v cb] [.h 0 1 (.hd 1)] [.row 5] [] [] [(393229,[.mk [.v ci] [.h 0 1 (.hd 3)] [.row 5] [] [(28,⟨[.r 5 ci,.r 6 ci],[],[(1048577,5)],[]⟩)] [(59375636,[.mk [.v cb] [] [] [] [] []])]])]],λ(a0,_)=>zdh N a0⟩
theorem zeb(N:Nat):za4 Tryz.prog 106 (table_Table_find_ocb09xsp N):=og (g:=106) N (.nil) (.nil) (by kernel_rfl) (λx=>by kernel_rfl)
def zdC(N:Nat):OSp:=⟨.mk [.p (.hd 0),.v ci,.p (.hd 1)] [] [.row 5,.row 5] [] [] [],[.mk [.p (.hd 0)] [.w 0 5] [] [] [] []],λ(a0,a1,a2)=>zaN N a0 a1 a2⟩
theorem zbN(N:Nat):za4 Tryz.prog 107 (zdC N):=og (g:=107) N (.nil) (.nil) (by kernel_rfl) (λx=>by kernel_rfl)
def table_Table_Put_o39f5xsp(N:Nat):OSp:=⟨.mk [.p (.pt 0 0 2),.v (.st 5)] [] [.cells [xi,xn]] [] [] [],[.mk [.p (.k (.c (.lit (.int .i64 2))))] [.h 0 1 (xn)] [] [(38,5)] [] [(1966096,[.mk [.v ci,.v cb] [.h 0 1 (.hd 2)] [.row 5] [(1000000,0)] [] []]),(16646183,[.mk [.p (.hd 2)] [.w 2 5] [] [(1000000,1)] [] []])],.mk [.v ci] [.h 0 1 (.hd 1)] [.row 5] [] [] []],λ(a0,a1)=>table_Table_Put_o39f5 N a0 a1⟩
theorem table_Table_Put_o39f5xok(N:Nat):za4 Tryz.prog 54 (table_Table_Put_o39f5xsp N):=og (g:=54) N (.cons (zcz N)<|.cons (zdB N)<|.nil) (.cons (zeb N)<|.cons (zbN N)<|.nil) (by kernel_rfl) (λx=>by kernel_rfl)
def store_after_sp(N:Nat):TSp:=⟨[ci],[ci],λa=>store_after N a.1⟩
theorem store_after_ok(N:Nat):zaM Tryz.prog 108 (store_after_sp N):=tg [] [] [] N (.nil) (.nil) (λa=>by kernel_rfl)
def store_Store_stamp_od610xsp(N:Nat):OSp:=⟨.mk [.p (.pt 0 0 27),.v ci] [] [.cells [.pt 1 0 2,.pt 2 0 2,xl 0,xl 2,xl 3,xi,xi,xi,xi,xi,xi,xi,xi,xi,xi,xi,xi,xi,xi,xi,xi,xi,xi,xn,xl 1,.hd 3,xi],.cells [xi,.hd 4],.cells [xl 0,.mr 5],.row 1,.row 5,.mp 7 true] [] [] [],[.mk [] [.w 3 1,.h 0 25 (.hd 3)] [] [] [] []],λ(a0,_,_,a3,_,_,_,_,_,_,_,_,_,_,_,_,_,_,_,_,_,_,_,_,_,_,_,_,_)=>zaQ N a0 a3⟩
theorem zdW(N:Nat):za4 Tryz.prog 55 (store_Store_stamp_od610xsp N):=og (g:=55) N (.cons (store_after_ok N)<|.nil) (.nil) (by kernel_rfl) (λx=>by kernel_rfl)
def store_Store_Put_o925b_sp(N:Nat):OSp:=⟨.mk [.p (.pt 0 0 27),.v (.st 5)] [] [.cells [.pt 1 0 2,.pt 2 0 2,xl 0,xl 2,xl 3,xi,xi,xi,xi,xi,xi,xi,xi,xi,xi,xi,xi,xi,xi,xi,xi,xi,xi,xn,xl 1,.hd 3,xi],.cells [xi,xn],.cells [xl 0,.mr 4],.row 1,.mp 7 true] [] [] [],[.mk [.v ci] [.h 1 1 (xn),.h 0 21 (xi),.h 0 25 (.hd 3),.w 3 1] [] [] [] [(8126509,[.mk [.p (.k (.c (.lit (.int .i64 2))))] [.h 1 1 (xn)] [] [(1000000,0)] [] [],.mk [.v ci] [.h 1 1 (.hd 6)] [.row 5] [] [] []]),(16646203,[.mk [] [.w 3 1,.h 0 25 (.hd 3)] [] [(1000000,1)] [] []])],.mk [.v ci] [.h 1 1 (.hd 5),.h 0 21 (xi),.h 0 25 (.hd 3),.w 3 1] [.row 5] [] [] []],λ(a0,_,a2,_,_,_,_,_,_,_,_,_,_,_,a14,_,_,_,_,_,_,_,a22,_,_,_,a26,_)=>store_Store_Put_o925b N a0 a2 a14 a22 a26⟩
theorem store_Store_Put_o925b_ok(N:Nat):za4 Tryz.prog 17 (store_Store_Put_o925b_sp N):=og (g:=17) N (.cons (zcz N)<|.nil) (.cons (table_Table_Put_o39f5xok N)<|.cons (zdW N)<|.nil) (by kernel_rfl) (λx=>by kernel_rfl)
def alter_Such_sp(N:Nat):TSp:=⟨[ci],[cb],λa=>alter_Such N a.1⟩
theorem alter_Such_ok(N:Nat):zaM Tryz.prog 65 (alter_Such_sp N):=tg [] [] [] N (.nil) (.nil) (λa=>by kernel_rfl)
def chain_alike_sp(N:Nat):TSp:=⟨[.c (.sl 10)],[cb],λa=>chain_alike N a.1⟩
theorem chain_alike_ok(N:Nat):zaM Tryz.prog 25 (chain_alike_sp N):=tg [] [(26,⟨[.r 7 ci],[],[],[]⟩),(1689,⟨[.r 26 cb],[],[],[]⟩)] [] N (.cons (alter_Such_ok N)<|.nil) (.nil) (λa=>by kernel_rfl)
def store_Store_Spec_obf7f_sp(N:Nat):OSp:=⟨.mk [.p (.pt 0 0 27)] [] [.cells [.pt 1 0 2,.pt 2 0 2,xl 0,xl 2,xl 3,xi,xi,xi,xi,xi,xi,xi,xi,xi,xi,xi,xi,xi,xi,xi,xi,xi,xi,xn,xl 1,.hd 3,xi],.cells [xi,xn],.cells [xl 0,.mr 4],.row 1,.mp 7 true] [] [] [],[.mk [.v (.st 11)] [] [] [] [] []],λ(_,_,a2,a3,a4,a5,a6,a7,a8,a9,a10,a11,a12,a13,a14,a15,a16,a17,a18,a19,_,_,_,_,_,_,_)=>zaK N a2 a3 a4 a5 a6 a7 a8 a9 a10 a11 a12 a13 a14 a15 a16 a17 a18 a19⟩
theorem store_Store_Spec_obf7f_ok(N:Nat):za4 Tryz.prog 26 (store_Store_Spec_obf7f_sp N):=og (g:=26) N (.cons (zdK N)<|.nil) (.nil) (by kernel_rfl) (λx=>by kernel_rfl)
def table_Table_Get_o9a4c_sp(N:Nat):OSp:=⟨.mk [.p (.pt 0 0 2),.v ci] [] [.cells [xi,xn]] [] [] [],[.mk [.v (.st 5),.v cb] [.h 0 1 (.hd 1)] [.row 5] [] [] [(917518,[.mk [.v ci,.v cb] [.h 0 1 (.hd 2)] [.row 5] [(1000000,0)] [] []])]],λ(a0,_)=>table_Table_Get_o9a4c N a0⟩
theorem table_Table_Get_o9a4c_ok(N:Nat):za4 Tryz.prog 66 (table_Table_Get_o9a4c_sp N):=og (g:=66) N (.cons (zdB N)<|.nil) (.cons (zeb N)<|.nil) (by kernel_rfl) (λx=>by kernel_rfl)
def store_Store_Job_o0187xsp(N:Nat):OSp:=⟨.mk [.p (.pt 0 0 27),.v ci] [] [.cells [.pt 1 0 2,.pt 2 0 2,xl 0,xl 2,xl 3,xi,xi,xi,xi,xi,xi,xi,xi,xi,xi,xi,xi,xi,xi,xi,xi,xi,xi,xn,xl 1,.hd 3,xi],.cells [xi,xn],.cells [xl 0,.mr 4],.row 1,.mp 7 true] [] [] [],[.mk [.v (.st 5),.v cb] [.h 1 1 (.hd 5)] [.row 5] [] [] [(917518,[.mk [.v (.st 5),.v cb] [.h 1 1 (.hd 6)] [.row 5] [(1000000,0)] [] []])]],λ(_,_,a2,_,_,_,_,_,_,_,_,_,_,_,_,_,_,_,_,_,_,_,_,_,_,_,_,_)=>store_Store_Job_o0187 N a2⟩
theorem store_Store_Job_o0187xok(N:Nat):za4 Tryz.prog 27 (store_Store_Job_o0187xsp N):=og (g:=27) N (.nil) (.cons (table_Table_Get_o9a4c_ok N)<|.nil) (by kernel_rfl) (λx=>by kernel_rfl)
def zd5(N:Nat):OSp:=⟨.mk [.v (.c (.sl 5))] [] [] [] [] [],[.mk [.p (.hd 0)] [] [.row 5] [] [] []],λx=>zct N x⟩
theorem zeh(N:Nat):za4 Tryz.prog 81 (zd5 N):=clone_own (i:=5) (sz:=152) (z:=[.c (.lit (.int .i64 0)),.c (.lit (.int .i64 0)),.c (.lit (.int .i64 0)),.c (.lit (.int .i64 0)),.c (.lit (.int .i64 0)),.c (.lit (.int .i64 0)),.c (.lit (.int .i64 0)),.c (.lit (.int .i64 0)),.c (.lit (.int .i64 0)),.c (.lit (.slice none 0 0)),.c (.lit (.int .i64 0)),.c (.lit (.bool false)),.c (.lit (.bool false)),.c (.lit (.int .i64 0)),.c (.lit (.int .i64 0)),.c (.lit (.int .i64 0)),.c (.lit (.int .i64 0)),.c (.lit (.int .i64 0))]) (fn:=Tryz.f81) mix (by kernel_rfl) (by kernel_rfl) (by kernel_rfl) rfl
def zes(N:Nat):OSp:=⟨.mk [.p (.hd 0)] [] [.row 5] [] [] [],[.mk [.p (.hd 1)] [] [.row 5] [] [] []],λx=>zbB N x⟩
theorem zet(N:Nat):za4 Tryz.prog 81 (zes N):=clone_oo (ii:=5) (sz:=152) (z:=[.c (.lit (.int .i64 0)),.c (.lit (.int .i64 0)),.c (.lit (.int .i64 0)),.c (.lit (.int .i64 0)),.c (.lit (.int .i64 0)),.c (.lit (.int .i64 0)),.c (.lit (.int .i64 0)),.c (.lit (.int .i64 0)),.c (.lit (.int .i64 0)),.c (.lit (.slice none 0 0)),.c (.lit (.int .i64 0)),.c (.lit (.bool false)),.c (.lit (.bool false)),.c (.lit (.int .i64 0)),.c (.lit (.int .i64 0)),.c (.lit (.int .i64 0)),.c (.lit (.int .i64 0)),.c (.lit (.int .i64 0))]) (fn:=Tryz.f81) mix (by kernel_rfl) (by kernel_rfl) (by kernel_rfl) rfl
def table_Table_All_o19b3xsp(N:Nat):OSp:=⟨.mk [.p (.pt 0 0 2)] [] [.cells [xi,.hd 1],.row 5] [] [] [],[.mk [.v (.c (.sl 5))] [] [] [] [(122,⟨[.r 15 ci,.w 2 5],[(3,2),(13,2)],[],[]⟩)] [(917516,[.mk [.p (.hd 2)] [] [.row 5] [(1000000,0)] [] []])]],λ(a0,_)=>zbO N a0⟩
theorem zeA(N:Nat):za4 Tryz.prog 34 (table_Table_All_o19b3xsp N):=og (g:=34) N (.cons (zdB N)<|.nil) (.cons (zet N)<|.nil) (by kernel_rfl) (λx=>by kernel_rfl)
def zef(N:Nat):TSp:=⟨[.c (.sl 6)],[.c (.sl 6)],λa=>zbr N a.1⟩
theorem zd7(N:Nat):zaM Tryz.prog 145 (zef N):=clone_ok (i:=6) (sz:=16) (z:=[.c (.lit (.int .i64 0)),.c (.lit (.int .i64 0))]) (fn:=Tryz.f145) mix (by kernel_rfl) (by kernel_rfl) (by kernel_rfl) rfl
def ledger_own_sp(N:Nat):TSp:=⟨[.st 7],[.st 7],λa=>ledger_own N a.1⟩
theorem ledger_own_ok(N:Nat):zaM Tryz.prog 85 (ledger_own_sp N):=tg [] [] [] N (.cons (zd7 N)<|.nil) (.nil) (λa=>by kernel_rfl)
def ledger_Ledger_All_o372e_sp(N:Nat):OSp:=⟨.mk [.p (.pt 0 0 2)] [] [.cells [xl 0,.mr 1],.mp 7 true] [] [] [],[.mk [.v (.c (.sl 7))] [] [] [(27,7)] [(122,⟨[.r 15 ci,.w 3 7],[(3,3)],[(3,7)],[]⟩)] [(3932172,[.mk [] [] [] [(1000002,0)] [] []]),(3932173,[.mk [.v (.c (.sl 1))] [] [] [(1000000,999999)] [] []])]],λ(a0,_)=>zaI N a0⟩
theorem zce(N:Nat):za4 Tryz.prog 35 (ledger_Ledger_All_o372e_sp N):=og (g:=35) N (.cons (ledger_own_ok N)<|.nil) (.nil) (by kernel_rfl) (λx=>by kernel_rfl)
def zdw(N:Nat):TSp:=⟨[.c (.sl 8)],[.c (.sl 8)],λa=>zat N a.1⟩
theorem za0(N:Nat):zaM Tryz.prog 36 (zdw N):=clone_ok (i:=8) (sz:=32) (z:=[.c (.lit (.int .i64 0)),.c (.lit (.int .i64 0)),.c (.lit (.int .i64 0)),.c (.lit (.int .i64 0))]) (fn:=Tryz.f36) mix (by kernel_rfl) (by kernel_rfl) (by kernel_rfl) rfl
def slices_Clone_Lint_int_oo_sp(N:Nat):OSp:=⟨.mk [.p (.hd 0)] [] [.row 1] [] [] [],[.mk [.p (.hd 1)] [] [.row 1] [] [] []],λx=>za2 N x⟩
theorem zcb(N:Nat):za4 Tryz.prog 37 (slices_Clone_Lint_int_oo_sp N):=clone_oo (ii:=1) (sz:=8) (z:=[.c (.lit (.int .i64 0))]) (fn:=Tryz.f37) mix (by kernel_rfl) (by kernel_rfl) (by kernel_rfl) rfl
end Go.Abs
end
end
section
set_option maxRecDepth 100000
noncomputable section
namespace Go.Abs
open Go.Proofs
def store_Store_State_o70ee_sp(N:Nat):OSp:=⟨.mk [.p (.pt 0 0 27)] [] [.cells [.pt 1 0 2,.pt 2 0 2,xl 0,xl 2,xl 3,xi,xi,xi,xi,xi,xi,xi,xi,xi,xi,xi,xi,xi,xi,xi,xi,xi,xi,xn,xl 1,.hd 3,xi],.cells [xi,.hd 4],.cells [xl 0,.mr 5],.row 1,.row 5,.mp 7 true] [] [] [],[.mk [.v (.st 16)] [] [] [] [] [(917526,[.mk [.v (.c (.sl 5))] [] [] [(1000000,0)] [] []]),(917531,[.mk [.v (.c (.sl 7))] [] [] [(1000000,1)] [] []]),(917547,[.mk [.p (.hd 7)] [] [.row 1] [(1000000,2)] [] []])]],λ(a0,a1,a2,_,_,_,_,_,_,_,_,_,_,_,_,_,_,_,_,_,_,a21,a22,a23,a24,a25,_,_)=>zbq N a0 a1 a2 a21 a22 a23 a24 a25⟩
theorem zch(N:Nat):za4 Tryz.prog 11 (store_Store_State_o70ee_sp N):=og (g:=11) N (.cons (za0 N)<|.cons (zbU N)<|.nil) (.cons (zeA N)<|.cons (zce N)<|.cons (zcb N)<|.nil) (by kernel_rfl) (λx=>by kernel_rfl)
def life_Has_sp(N:Nat):TSp:=⟨[ci],[cb],λa=>life_Has N a.1⟩
theorem life_Has_ok(N:Nat):zaM Tryz.prog 92 (life_Has_sp N):=tg [] [] [] N (.nil) (.nil) (λa=>by kernel_rfl)
def life_Next_sp(N:Nat):TSp:=⟨[ci,ci],[ci,cb],λa=>life_Next N a.1 a.2.1⟩
theorem life_Next_ok(N:Nat):zaM Tryz.prog 180 (life_Next_sp N):=tg [] [(53247,⟨[.r 48 cb],[],[],[]⟩),(212991,⟨[.r 55 cb],[],[],[]⟩)] [] N (.cons (life_Has_ok N)<|.cons (zcZ N)<|.nil) (.nil) (λa=>by kernel_rfl)
def vec_split_o09e8xsp(N:Nat):OSp:=⟨.mk [.v (.st 0)] [] [] [] [] [],[.mk [.ag [.cx,.cx]] [] [] [] [] []],λa0=>zbg N a0⟩
theorem vec_split_o09e8xok(N:Nat):za4 Tryz.prog 160 (vec_split_o09e8xsp N):=og (g:=160) N (.nil) (.nil) (by kernel_rfl) (λx=>by kernel_rfl)
def vec_join_o7a26xsp(N:Nat):OSp:=⟨.mk [.ag [.cx,.cx]] [] [] [] [] [],[.mk [.v (.st 0)] [] [] [] [] []],λ(a0,a1)=>vec_join_o7a26 N a0 a1⟩
theorem vec_join_o7a26xok(N:Nat):za4 Tryz.prog 214 (vec_join_o7a26xsp N):=og (g:=214) N (.nil) (.nil) (by kernel_rfl) (λx=>by kernel_rfl)
def vec_within_ocd27xsp(N:Nat):OSp:=⟨.mk [.ag [.cx,.cx]] [] [] [] [] [],[.mk [.v (.st 0),.v ci] [] [] [] [] [(393222,[.mk [.v (.st 0)] [] [] [(1000000,0)] [] []])]],λ(a0,a1)=>zbw N a0 a1⟩
theorem zev(N:Nat):za4 Tryz.prog 161 (vec_within_ocd27xsp N):=og (g:=161) N (.cons (zcy N)<|.nil) (.cons (vec_join_o7a26xok N)<|.nil) (by kernel_rfl) (λx=>by kernel_rfl)
def vec_Times_sp(N:Nat):TSp:=⟨[.st 0,ci],[.st 0,ci],λa=>vec_Times N a.1 a.2.1⟩
theorem vec_Times_ok(N:Nat):zaM Tryz.prog 159 (vec_Times_sp N):=tg [] [] [(4063256,[.mk [.ag [.cx,.cx]] [] [] [(1000000,0)] [] []]),(8257573,[.mk [.v (.st 0),.v ci] [] [] [(1000000,1)] [] []])] N (.cons (zcy N)<|.nil) (.cons (vec_split_o09e8xok N)<|.cons (zev N)<|.nil) (λa=>by kernel_rfl)
def submit_Demand_sp(N:Nat):TSp:=⟨[.st 17],[ci],λa=>submit_Demand N a.1⟩
theorem submit_Demand_ok(N:Nat):zaM Tryz.prog 217 (submit_Demand_sp N):=tg [] [(6,⟨[.r 24 cb],[],[],[]⟩)] [] N (.cons (vec_Times_ok N)<|.cons (zcy N)<|.nil) (.nil) (λa=>by kernel_rfl)
def vec_Count_sp(N:Nat):TSp:=⟨[.st 0,.st 0],[ci],λa=>vec_Count N a.1 a.2.1⟩
theorem vec_Count_ok(N:Nat):zaM Tryz.prog 211 (vec_Count_sp N):=tg [] [(6,⟨[.r 21 cb],[],[],[]⟩),(250,⟨[.r 5 ci,.r 26 ci],[],[],[]⟩),(2003,⟨[.r 5 ci],[],[],[]⟩)] [] N (.cons (vec_numbers_ok N)<|.cons (zcy N)<|.nil) (.nil) (λa=>by kernel_rfl)
def spec_Room_sp(N:Nat):TSp:=⟨[.st 11,ci,.st 0],[ci],λa=>spec_Room N a.1 a.2.1 a.2.2.1⟩
theorem spec_Room_ok(N:Nat):zaM Tryz.prog 147 (spec_Room_sp N):=tg [] [(122,⟨[.r 7 ci,.r 30 ci],[],[],[]⟩)] [] N (.cons (zdJ N)<|.cons (vec_Count_ok N)<|.nil) (.nil) (λa=>by kernel_rfl)
def spec_Fits_sp(N:Nat):TSp:=⟨[.st 11,ci,ci,.st 0],[cb],λa=>zbY N a.1 a.2.1 a.2.2.1 a.2.2.2.1⟩
theorem spec_Fits_ok(N:Nat):zaM Tryz.prog 90 (spec_Fits_sp N):=tg [] [] [] N (.cons (zdJ N)<|.cons (spec_Room_ok N)<|.nil) (.nil) (λa=>by kernel_rfl)
def alter_possible_sp(N:Nat):TSp:=⟨[.st 11,.st 5,.st 17],[ci],λa=>alter_possible N a.1 a.2.1 a.2.2.1⟩
theorem alter_possible_ok(N:Nat):zaM Tryz.prog 178 (alter_possible_sp N):=tg [] [] [] N (.cons (life_Next_ok N)<|.cons (zcZ N)<|.cons (submit_Demand_ok N)<|.cons (spec_Fits_ok N)<|.nil) (.nil) (λa=>by kernel_rfl)
def alter_Check_sp(N:Nat):TSp:=⟨[.st 11,.st 5,ci,.st 17],[ci],λa=>alter_Check N a.1 a.2.1 a.2.2.1 a.2.2.2.1⟩
theorem alter_Check_ok(N:Nat):zaM Tryz.prog 124 (alter_Check_sp N):=tg [] [(6,⟨[.r 33 cb],[],[],[]⟩)] [] N (.cons (alter_possible_ok N)<|.cons (alter_Such_ok N)<|.cons (zdJ N)<|.cons (zcz N)<|.nil) (.nil) (λa=>by kernel_rfl)
def job_Step_sp(N:Nat):TSp:=⟨[.st 5,ci,ci,cb],[.st 5,ci],λa=>job_Step N a.1 a.2.1 a.2.2.1 a.2.2.2.1⟩
theorem job_Step_ok(N:Nat):zaM Tryz.prog 128 (job_Step_sp N):=tg [] [(6,⟨[.r 20 cb],[],[],[]⟩),(1023,⟨[.h 0 11 (.bool),.h 0 12 (.bool),.h 0 15 (.int .i64)],[],[],[]⟩),(2047,⟨[.h 0 16 (.int .i64)],[],[],[]⟩),(8186,⟨[.h 0 12 (.bool)],[],[],[]⟩)] [] N (.cons (life_Next_ok N)<|.cons (zaJ N)<|.cons (life_Over_ok N)<|.cons (zcz N)<|.cons (job_within_ok N)<|.nil) (.nil) (λa=>by kernel_rfl)
def alter_apply_sp(N:Nat):TSp:=⟨[.st 5,ci,.st 17],[.st 5,ci],λa=>alter_apply N a.1 a.2.1 a.2.2.1⟩
theorem alter_apply_ok(N:Nat):zaM Tryz.prog 125 (alter_apply_sp N):=tg [] [] [] N (.cons (job_Step_ok N)<|.nil) (.nil) (λa=>by kernel_rfl)
def alter_Do_sp(N:Nat):TSp:=⟨[.st 11,.st 5,ci,.st 10],[.st 5,.st 15],λa=>alter_Do N a.1 a.2.1 a.2.2.1 a.2.2.2.1⟩
theorem alter_Do_ok(N:Nat):zaM Tryz.prog 70 (alter_Do_sp N):=tg [] [] [] N (.cons (zaJ N)<|.cons (zcl N)<|.cons (alter_Check_ok N)<|.cons (alter_apply_ok N)<|.nil) (.nil) (λa=>by kernel_rfl)
def chain_Fold_sp(N:Nat):TSp:=⟨[.st 11,.st 5,ci,.c (.sl 10)],[.st 5,.c (.sl 15)],λa=>chain_Fold N a.1 a.2.1 a.2.2.1 a.2.2.2.1⟩
theorem chain_Fold_ok(N:Nat):zaM Tryz.prog 29 (chain_Fold_sp N):=tg [] [] [(917521,[.mk [.v (.st 5),.v (.c (.sl 15))] [] [] [(15,15),(32,15)] [(58,⟨[.r 18 ci,.h 4 0 (.int .i64),.h 4 1 (.int .i64),.h 4 2 (.int .i64),.h 4 3 (.int .i64),.h 4 4 (.int .i64),.h 4 5 (.int .i64),.h 4 6 (.int .i64),.h 4 7 (.int .i64),.h 4 8 (.int .i64),.h 4 9 (.sl 4),.h 4 10 (.int .i64),.h 4 11 (.bool),.h 4 12 (.bool),.h 4 13 (.int .i64),.h 4 14 (.int .i64),.h 4 15 (.int .i64),.h 4 16 (.int .i64),.h 4 17 (.int .i64),.w 6 15],[(8,6)],[],[]⟩)] [(489816090,[.mk [.v (.st 5),.v (.st 15)] [] [] [] [] []])]])] N (.cons (zaJ N)<|.cons (alter_Do_ok N)<|.nil) (.nil) (λa=>by kernel_rfl)
def chain_Fold_o2829xsp(N:Nat):OSp:=⟨.mk [.v (.st 11),.v (.st 5),.v ci,.p (.hd 0)] [] [.row 10] [] [] [],[.mk [.v (.st 5),.v (.c (.sl 15))] [] [] [] [] [(917521,[.mk [.v (.st 5),.v (.c (.sl 15))] [] [] [(15,15),(32,15)] [(58,⟨[.r 18 ci,.h 5 0 (.int .i64),.h 5 1 (.int .i64),.h 5 2 (.int .i64),.h 5 3 (.int .i64),.h 5 4 (.int .i64),.h 5 5 (.int .i64),.h 5 6 (.int .i64),.h 5 7 (.int .i64),.h 5 8 (.int .i64),.h 5 9 (.sl 4),.h 5 10 (.int .i64),.h 5 11 (.bool),.h 5 12 (.bool),.h 5 13 (.int .i64),.h 5 14 (.int .i64),.h 5 15 (.int .i64),.h 5 16 (.int .i64),.h 5 17 (.int .i64),.w 7 15],[(8,7)],[],[]⟩)] [(489816090,[.mk [.v (.st 5),.v (.st 15)] [] [] [] [] []])]])]],λ(a0,a1,a2,a3)=>chain_Fold_o2829 N a0 a1 a2 a3⟩
theorem chain_Fold_o2829xok(N:Nat):za4 Tryz.prog 29 (chain_Fold_o2829xsp N):=og (g:=29) N (.cons (zaJ N)<|.cons (alter_Do_ok N)<|.nil) (.nil) (by kernel_rfl) (λx=>by kernel_rfl)
def table_Table_find_o1e00xsp(N:Nat):OSp:=⟨.mk [.p (.pt 0 0 2),.v ci] [] [.cells [xi,.hd 1],.row 5] [] [] [],[.mk [.v ci,.v cb] [] [] [] [] [(393229,[.mk [.v ci] [] [] [] [(28,⟨[.r 5 ci,.r 6 ci],[],[],[]⟩)] [(59375636,[.mk [.v cb] [] [] [] [] []])]])]],λ(a0,a1,_)=>zax N a0 a1⟩
theorem zcE(N:Nat):za4 Tryz.prog 106 (table_Table_find_o1e00xsp N):=og (g:=106) N (.nil) (.nil) (by kernel_rfl) (λx=>by kernel_rfl)
def table_Table_Get_oac68xsp(N:Nat):OSp:=⟨.mk [.p (.pt 0 0 2),.v ci] [] [.cells [xi,.hd 1],.row 5] [] [] [],[.mk [.v (.st 5),.v cb] [] [] [] [] [(917518,[.mk [.v ci,.v cb] [] [] [(1000000,0)] [] []])]],λ(a0,a1,_)=>zaO N a0 a1⟩
theorem za3(N:Nat):za4 Tryz.prog 66 (table_Table_Get_oac68xsp N):=og (g:=66) N (.cons (zdB N)<|.nil) (.cons (zcE N)<|.nil) (by kernel_rfl) (λx=>by kernel_rfl)
def store_Store_Job_obbc5xsp(N:Nat):OSp:=⟨.mk [.p (.pt 0 0 27),.v ci] [] [.cells [.pt 1 0 2,.pt 2 0 2,xl 0,xl 2,xl 3,xi,xi,xi,xi,xi,xi,xi,xi,xi,xi,xi,xi,xi,xi,xi,xi,xi,xi,xn,xl 1,.hd 3,xi],.cells [xi,.hd 4],.cells [xl 0,.mr 5],.row 1,.row 5,.mp 7 true] [] [] [],[.mk [.v (.st 5),.v cb] [] [] [] [] [(917518,[.mk [.v (.st 5),.v cb] [] [] [(1000000,0)] [] []])]],λ(_,a1,_,a3,_,_,_,_,_,_,_,_,_,_,_,_,_,_,_,_,_,_,_,_,_,_,_,_,_)=>zaF N a1 a3⟩
theorem zey(N:Nat):za4 Tryz.prog 27 (store_Store_Job_obbc5xsp N):=og (g:=27) N (.nil) (.cons (za3 N)<|.nil) (by kernel_rfl) (λx=>by kernel_rfl)
def slices_Equal_Lapi_Dep_api_Dep_sp(N:Nat):TSp:=⟨[.c (.sl 4),.c (.sl 4)],[cb],λa=>zbi N a.1 a.2.1⟩
theorem slices_Equal_Lapi_Dep_api_Dep_ok(N:Nat):zaM Tryz.prog 126 (slices_Equal_Lapi_Dep_api_Dep_sp N):=tg [] [(58,⟨[.r 13 ci],[],[],[]⟩)] [] N (.nil) (.nil) (λa=>by kernel_rfl)
def job_Same_sp(N:Nat):TSp:=⟨[.st 5,.st 5],[cb],λa=>job_Same N a.1 a.2.1⟩
theorem job_Same_ok(N:Nat):zaM Tryz.prog 71 (job_Same_sp N):=tg [] [] [] N (.cons (slices_Equal_Lapi_Dep_api_Dep_ok N)<|.nil) (.nil) (λa=>by kernel_rfl)
def table_Table_Set_od74f_sp(N:Nat):OSp:=⟨.mk [.p (.pt 0 0 2),.v (.st 5)] [] [.cells [xi,.hd 1],.row 5] [] [] [],[.mk [.v ci] [.w 1 5,.h 0 1 (.hd 1)] [] [] [] [(1966096,[.mk [.v ci,.v cb] [] [] [(1000000,0)] [] []])]],λ(a0,a1,_)=>zcw N a0 a1⟩
theorem zeB(N:Nat):za4 Tryz.prog 179 (table_Table_Set_od74f_sp N):=og (g:=179) N (.cons (zcz N)<|.cons (zdB N)<|.nil) (.cons (zcE N)<|.nil) (by kernel_rfl) (λx=>by kernel_rfl)
def store_Store_change_o816e_sp(N:Nat):OSp:=⟨.mk [.p (.pt 0 0 27),.v (.st 5),.v (.st 5)] [] [.cells [.pt 1 0 2,.pt 2 0 2,xl 0,xl 2,xl 3,xi,xi,xi,xi,xi,xi,xi,xi,xi,xi,xi,xi,xi,xi,xi,xi,xi,xi,xn,xl 1,.hd 3,xi],.cells [xi,.hd 4],.cells [xl 0,.mr 5],.row 1,.row 5,.mp 7 true] [] [] [],[.mk [.v ci] [.h 1 1 (.hd 4),.w 4 5,.h 0 25 (.hd 3),.w 3 1] [] [] [(15,⟨[.w 3 1],[],[],[(0,25,3)]⟩)] [(786445,[.mk [.v ci] [.w 4 5,.h 1 1 (.hd 4)] [] [(1000000,0)] [] []]),(917524,[.mk [] [.w 3 1,.h 0 25 (.hd 3)] [] [(1000000,1)] [] []]),(7995421,[.mk [] [.w 3 1,.h 0 25 (.hd 3)] [] [(1000000,1)] [] []])]],λ(a0,a1,_,a3,a4,_,_,_,_,_,_,_,_,_,_,_,_,_,_,_,_,_,_,_,_,_,_,_,_,_)=>za1 N a0 a1 a3 a4⟩
theorem zdz(N:Nat):za4 Tryz.prog 127 (store_Store_change_o816e_sp N):=og (g:=127) N (.nil) (.cons (zeB N)<|.cons (zdW N)<|.nil) (by kernel_rfl) (λx=>by kernel_rfl)
def store_Store_Edit_o0612xsp(N:Nat):OSp:=⟨.mk [.p (.pt 0 0 27),.v (.st 5)] [] [.cells [.pt 1 0 2,.pt 2 0 2,xl 0,xl 2,xl 3,xi,xi,xi,xi,xi,xi,xi,xi,xi,xi,xi,xi,xi,xi,xi,xi,xi,xi,xn,xl 1,.hd 3,xi],.cells [xi,.hd 4],.cells [xl 0,.mr 5],.row 1,.row 5,.mp 7 true] [] [] [],[.mk [.v ci] [.h 0 25 (.hd 3),.h 1 1 (.hd 4),.w 3 1,.w 4 5] [] [] [(126,⟨[.r 33 cb],[],[],[]⟩)] [(917520,[.mk [.v (.st 5),.v cb] [] [] [(1000000,0)] [] []]),(16646181,[.mk [.v ci] [.h 1 1 (.hd 4),.w 4 5,.h 0 25 (.hd 3),.w 3 1] [] [(1000000,1)] [] []])]],λ(a0,a1,_,a3,_,_,_,_,_,_,_,_,_,_,_,_,_,_,_,_,_,_,_,_,_,_,_,_,_)=>zbd N a0 a1 a3⟩
theorem zd6(N:Nat):za4 Tryz.prog 73 (store_Store_Edit_o0612xsp N):=og (g:=73) N (.cons (zcz N)<|.cons (zcZ N)<|.nil) (.cons (za3 N)<|.cons (zdz N)<|.nil) (by kernel_rfl) (λx=>by kernel_rfl)
def zec(N:Nat):OSp:=⟨.mk [.v (.c (.sl 0))] [] [] [] [] [],[.mk [.p (.hd 0)] [] [.row 0] [] [] []],λx=>zaD N x⟩
theorem zb2(N:Nat):za4 Tryz.prog 98 (zec N):=clone_own (i:=0) (sz:=32) (z:=[.c (.lit (.int .i64 0)),.c (.lit (.int .i64 0)),.c (.lit (.int .i64 0)),.c (.lit (.int .i64 0))]) (fn:=Tryz.f98) mix (by kernel_rfl) (by kernel_rfl) (by kernel_rfl) rfl
def vec_Add_sp(N:Nat):TSp:=⟨[.st 0,.st 0],[.st 0,ci],λa=>vec_Add N a.1 a.2.1⟩
theorem vec_Add_ok(N:Nat):zaM Tryz.prog 181 (vec_Add_sp N):=tg [] [(6,⟨[.r 15 cb],[],[],[]⟩)] [(917522,[.mk [.ag [.cx,.cx]] [] [] [(1000000,0)] [] []]),(917524,[.mk [.ag [.cx,.cx]] [] [] [(1000000,0)] [] []]),(1966112,[.mk [.v (.st 0),.v ci] [] [] [(1000000,1)] [] []])] N (.cons (zcy N)<|.nil) (.cons (vec_split_o09e8xok N)<|.cons (zev N)<|.nil) (λa=>by kernel_rfl)
def ledger_Ledger_change_o5a71xsp(N:Nat):OSp:=⟨.mk [.p (.pt 0 0 2),.v (.st 7),.p (.k (.c (.fn (.func 181) [] [])))] [] [.cells [xl 0,.mr 1],.mp 7 true] [] [] [],[.mk [.v (.c (.sl 0)),.v ci] [] [] [] [(58,⟨[.r 21 ci,.w 3 0],[(8,3)],[],[]⟩)] [(393233,[.mk [.p (.hd 3)] [] [.row 0] [(1000000,0)] [] []])]],λ(_,a1,a2)=>zbC N a1 a2⟩
theorem ledger_Ledger_change_o5a71xok(N:Nat):za4 Tryz.prog 110 (ledger_Ledger_change_o5a71xsp N):=og (g:=110) N (.cons (vec_Times_ok N)<|.cons (vec_Add_ok N)<|.nil) (.cons (zb2 N)<|.nil) (by kernel_rfl) (λx=>by kernel_rfl)
def ledger_Ledger_Give_of55f_sp(N:Nat):OSp:=⟨.mk [.p (.pt 0 0 2),.v ci] [] [.cells [xl 0,.mr 1],.mp 7 true] [] [] [],[.mk [.v ci] [.h 0 0 (xl 0),.m 1 7 true] [] [] [] [(4063257,[.mk [.v (.c (.sl 0)),.v ci] [] [] [(1000000,0)] [] []])]],λ(a0,a1,a2)=>zbR N a0 a1 a2⟩
theorem zdE(N:Nat):za4 Tryz.prog 129 (ledger_Ledger_Give_of55f_sp N):=og (g:=129) N (.nil) (.cons (ledger_Ledger_change_o5a71xok N)<|.nil) (by kernel_rfl) (λx=>by kernel_rfl)
def store_Store_Step_o6975xsp(N:Nat):OSp:=⟨.mk [.p (.pt 0 0 27),.v ci,.v ci,.v cb] [] [.cells [.pt 1 0 2,.pt 2 0 2,xl 0,xl 2,xl 3,xi,xi,xi,xi,xi,xi,xi,xi,xi,xi,xi,xi,xi,xi,xi,xi,xi,xi,xn,xl 1,.hd 3,xi],.cells [xi,.hd 4],.cells [xl 0,.mr 5],.row 1,.row 5,.mp 7 true] [] [] [],[.mk [.v ci] [.h 0 25 (.hd 3),.h 1 1 (.hd 4),.w 3 1,.w 4 5,.h 0 26 (xi),.h 2 0 (xl 0),.m 5 7 true] [] [] [(511,⟨[.h 0 26 (.int .i64),.h 2 0 (.sl 0),.m 5 7 true],[],[],[]⟩),(1022,⟨[.r 58 cb],[],[],[]⟩)] [(917526,[.mk [.v (.st 5),.v cb] [] [] [(1000000,0)] [] []]),(66846766,[.mk [.v ci] [.h 1 1 (.hd 4),.w 4 5,.h 0 25 (.hd 3),.w 3 1] [] [(1000000,1)] [] []]),(536084544,[.mk [.v ci] [.h 2 0 (xl 0),.m 5 7 true] [] [(1000000,2)] [] []])]],λ(a0,a1,a2,a3,a4,a5,_,_,_,_,_,_,_,_,_,_,_,_,_,_,_,_,_,_,a24,_,_,_,a28,_,a30)=>zaX N a0 a1 a2 a3 a4 a5 a24 a28 a30⟩
theorem zea(N:Nat):za4 Tryz.prog 74 (store_Store_Step_o6975xsp N):=og (g:=74) N (.cons (job_Step_ok N)<|.cons (store_after_ok N)<|.cons (life_Has_ok N)<|.nil) (.cons (za3 N)<|.cons (zdz N)<|.cons (zdE N)<|.nil) (by kernel_rfl) (λx=>by kernel_rfl)
def core_edited_o8c70xsp(N:Nat):OSp:=⟨.mk [.p (.pt 0 0 27),.v (.st 5)] [] [.cells [.pt 1 0 2,.pt 2 0 2,xl 0,xl 2,xl 3,xi,xi,xi,xi,xi,xi,xi,xi,xi,xi,xi,xi,xi,xi,xi,xi,xi,xi,xn,xl 1,.hd 3,xi],.cells [xi,.hd 4],.cells [xl 0,.mr 5],.row 1,.row 5,.mp 7 true] [] [] [],[.mk [.v ci] [.h 0 25 (.hd 3),.h 1 1 (.hd 4),.w 3 1,.w 4 5,.h 0 26 (xi),.h 2 0 (xl 0),.m 5 7 true] [] [] [] [(3932175,[.mk [.v ci] [.h 0 25 (.hd 3),.h 1 1 (.hd 4),.w 3 1,.w 4 5] [] [(1000000,0)] [] []]),(4063254,[.mk [.v ci] [.h 0 25 (.hd 3),.h 1 1 (.hd 4),.w 3 1,.w 4 5,.h 0 26 (xi),.h 2 0 (xl 0),.m 5 7 true] [] [(1000000,1)] [] []])]],λ(a0,a1,a2,a3,_,_,_,_,_,_,_,_,_,_,_,_,_,_,_,_,_,_,a22,_,_,_,a26,_,a28)=>zdQ N a0 a1 a2 a3 a22 a26 a28⟩
theorem core_edited_o8c70xok(N:Nat):za4 Tryz.prog 75 (core_edited_o8c70xsp N):=og (g:=75) N (.nil) (.cons (zd6 N)<|.cons (zea N)<|.nil) (by kernel_rfl) (λx=>by kernel_rfl)
def core_Set_oe6f8xsp(N:Nat):OSp:=⟨.mk [.p (.pt 0 0 27),.v (.st 5),.v (.st 5)] [] [.cells [.pt 1 0 2,.pt 2 0 2,xl 0,xl 2,xl 3,xi,xi,xi,xi,xi,xi,xi,xi,xi,xi,xi,xi,xi,xi,xi,xi,xi,xi,xn,xl 1,.hd 3,xi],.cells [xi,.hd 4],.cells [xl 0,.mr 5],.row 1,.row 5,.mp 7 true] [] [] [],[.mk [.v ci] [.h 0 25 (.hd 3),.h 1 1 (.hd 4),.w 3 1,.w 4 5,.h 0 26 (xi),.h 2 0 (xl 0),.m 5 7 true] [] [] [] [(917519,[.mk [.v (.st 5),.v cb] [] [] [(1000000,0)] [] []]),(4063282,[.mk [.v ci] [.h 0 25 (.hd 3),.h 1 1 (.hd 4),.w 3 1,.w 4 5,.h 0 26 (xi),.h 2 0 (xl 0),.m 5 7 true] [] [(1000000,3)] [] []]),(2046558244,[.mk [.v ci] [.h 0 25 (.hd 3),.h 1 1 (.hd 4),.w 3 1,.w 4 5] [] [(1000000,1)] [] []]),(8187019311,[.mk [.v ci] [.h 0 25 (.hd 3),.h 1 1 (.hd 4),.w 3 1,.w 4 5,.h 0 26 (xi),.h 2 0 (xl 0),.m 5 7 true] [] [(1000000,2)] [] []])]],λ(a0,a1,a2,a3,a4,_,_,_,_,_,_,_,_,_,_,_,_,_,_,_,_,_,_,a23,_,_,_,a27,_,a29)=>zcD N a0 a1 a2 a3 a4 a23 a27 a29⟩
theorem core_Set_oe6f8xok(N:Nat):za4 Tryz.prog 30 (core_Set_oe6f8xsp N):=og (g:=30) N (.cons (job_Same_ok N)<|.cons (zcZ N)<|.nil) (.cons (zey N)<|.cons (zd6 N)<|.cons (zea N)<|.cons (core_edited_o8c70xok N)<|.nil) (by kernel_rfl) (λx=>by kernel_rfl)
def chain_Do_o0711xsp(N:Nat):OSp:=⟨.mk [.p (.pt 0 0 27),.p (.hd 1)] [] [.cells [.pt 2 0 2,.pt 3 0 2,xl 0,xl 2,xl 3,xi,xi,xi,xi,xi,xi,xi,xi,xi,xi,xi,xi,xi,xi,xi,xi,xi,xi,xn,xl 1,.hd 4,xi],.row 10,.cells [xi,xn],.cells [xl 0,.mr 5],.row 1,.mp 7 true] [] [] [],[.mk [.v (.c (.sl 15))] [.h 2 1 (.hd 6),.h 0 25 (.hd 4),.h 0 26 (xi),.h 3 0 (xl 0),.w 4 1,.m 5 7 true] [.row 5] [] [] [(917533,[.mk [.v (.st 11)] [] [] [(1000000,0)] [] []]),(1966117,[.mk [.v (.st 5),.v cb] [.h 2 1 (.hd 7)] [.row 5] [(1000000,1)] [] []]),(8257585,[.mk [.v (.st 16)] [] [] [(1000000,2)] [] []]),(8257588,[.mk [.v (.st 5),.v (.c (.sl 15))] [] [] [(1000000,3)] [] []]),(27000854,[.mk [] [] [] [(1000002,0)] [] []]),(27000855,[.mk [.v (.c (.sl 15))] [.h 2 1 (.hd 7)] [.row 5] [(10,15),(25,15)] [(58,⟨[.r 13 ci,.w 7 15],[(5,7)],[(1050625,5)],[]⟩)] [(244908055,[.mk [.v ci] [] [] [] [] []])]]),(32768044,[.mk [.v (.c (.sl 15))] [] [] [(10,15),(25,15)] [(58,⟨[.r 13 ci,.w 9 15],[(5,9)],[],[]⟩)] [(244908055,[.mk [.v ci] [] [] [] [] []])]]),(33292346,[.mk [.v ci] [.h 0 25 (.hd 4),.h 2 1 (.hd 7),.w 4 1,.w 7 5,.h 0 26 (xi),.h 3 0 (xl 0),.m 5 7 true] [] [(1000000,4)] [] []]),(267124799,[.mk [] [] [] [(1000002,0)] [] []]),(267124800,[.mk [.v (.c (.sl 15))] [] [] [(10,15),(25,15)] [(58,⟨[.r 13 ci,.w 11 15],[(5,11)],[],[]⟩)] [(244908055,[.mk [.v ci] [] [] [] [] []])]])],.mk [.v (.c (.sl 15))] [.h 2 1 (xn),.h 0 25 (.hd 4),.h 0 26 (xi),.h 3 0 (xl 0),.w 4 1,.m 5 7 true] [] [] [] []],λ(a0,a1,a2,a3,a4,a5,a6,a7,a8,a9,a10,a11,a12,a13,a14,a15,a16,a17,a18,a19,a20,a21,a22,a23,a24,a25,_,a27)=>chain_Do_o0711 N a0 a1 a2 a3 a4 a5 a6 a7 a8 a9 a10 a11 a12 a13 a14 a15 a16 a17 a18 a19 a20 a21 a22 a23 a24 a25 a27⟩
theorem chain_Do_o0711xok(N:Nat):za4 Tryz.prog 8 (chain_Do_o0711xsp N):=og (g:=8) N (.cons (chain_alike_ok N)<|.cons (zcl N)<|.nil) (.cons (store_Store_Spec_obf7f_ok N)<|.cons (store_Store_Job_o0187xok N)<|.cons (zch N)<|.cons (chain_Fold_o2829xok N)<|.cons (core_Set_oe6f8xok N)<|.nil) (by kernel_rfl) (λx=>by kernel_rfl)
def table_Table_All_oa59d_sp(N:Nat):OSp:=⟨.mk [.p (.pt 0 0 2)] [] [.cells [xi,xn]] [] [] [],[.mk [.v (.c (.sl 5))] [.h 0 1 (.hd 1)] [.row 5] [] [(122,⟨[.r 15 ci,.w 1 5],[(3,1),(13,1)],[(1048577,5)],[]⟩)] [(917516,[.mk [.p (.hd 1)] [] [.row 5] [(1000000,0)] [] []])]],λx=>table_Table_All_oa59d N⟩
theorem table_Table_All_oa59d_ok(N:Nat):za4 Tryz.prog 34 (table_Table_All_oa59d_sp N):=og (g:=34) N (.cons (zdB N)<|.nil) (.cons (zeh N)<|.nil) (by kernel_rfl) (λx=>by kernel_rfl)
def store_Store_State_oecf2xsp(N:Nat):OSp:=⟨.mk [.p (.pt 0 0 27)] [] [.cells [.pt 1 0 2,.pt 2 0 2,xl 0,xl 2,xl 3,xi,xi,xi,xi,xi,xi,xi,xi,xi,xi,xi,xi,xi,xi,xi,xi,xi,xi,xn,xl 1,.hd 3,xi],.cells [xi,xn],.cells [xl 0,.mr 4],.row 1,.mp 7 true] [] [] [],[.mk [.v (.st 16)] [.h 1 1 (.hd 5)] [.row 5] [] [] [(917526,[.mk [.v (.c (.sl 5))] [.h 1 1 (.hd 6)] [.row 5] [(1000000,0)] [] []]),(917531,[.mk [.v (.c (.sl 7))] [] [] [(1000000,1)] [] []]),(917547,[.mk [.p (.hd 7)] [] [.row 1] [(1000000,2)] [] []])]],λ(a0,a1,_,_,_,_,_,_,_,_,_,_,_,_,_,_,_,_,_,_,a20,a21,a22,a23,a24,_,_)=>store_Store_State_oecf2 N a0 a1 a20 a21 a22 a23 a24⟩
theorem store_Store_State_oecf2xok(N:Nat):za4 Tryz.prog 11 (store_Store_State_oecf2xsp N):=og (g:=11) N (.cons (za0 N)<|.cons (zbU N)<|.nil) (.cons (table_Table_All_oa59d_ok N)<|.cons (zce N)<|.cons (zcb N)<|.nil) (by kernel_rfl) (λx=>by kernel_rfl)
def store_Store_Spec_obf7fx_sp(N:Nat):OSp:=⟨.mk [.p (.pt 0 0 27)] [] [.cells [.pt 1 0 2,.pt 2 0 2,xl 0,xl 2,xl 3,xi,xi,xi,xi,xi,xi,xi,xi,xi,xi,xi,xi,xi,xi,xi,xi,xi,xi,xn,xl 1,.hd 3,xi],.cells [xi,.hd 4],.cells [xl 0,.mr 5],.row 1,.row 5,.mp 7 true] [] [] [],[.mk [.v (.st 11)] [] [] [] [] []],λ(_,_,_,a3,a4,a5,a6,a7,a8,a9,a10,a11,a12,a13,a14,a15,a16,a17,a18,a19,a20,_,_,_,_,_,_,_)=>zaK N a3 a4 a5 a6 a7 a8 a9 a10 a11 a12 a13 a14 a15 a16 a17 a18 a19 a20⟩
theorem store_Store_Spec_obf7fx_ok(N:Nat):za4 Tryz.prog 26 (store_Store_Spec_obf7fx_sp N):=og (g:=26) N (.cons (zdK N)<|.nil) (.nil) (by kernel_rfl) (λx=>by kernel_rfl)
end Go.Abs
end
end
section
set_option maxRecDepth 100000
noncomputable section
namespace Go.Abs
open Go.Proofs
def chain_Do_od534xsp(N:Nat):OSp:=⟨.mk [.p (.pt 0 0 27),.p (.hd 1)] [] [.cells [.pt 2 0 2,.pt 3 0 2,xl 0,xl 2,xl 3,xi,xi,xi,xi,xi,xi,xi,xi,xi,xi,xi,xi,xi,xi,xi,xi,xi,xi,xn,xl 1,.hd 4,xi],.row 10,.cells [xi,.hd 5],.cells [xl 0,.mr 6],.row 1,.row 5,.mp 7 true] [] [] [],[.mk [.v (.c (.sl 15))] [.h 0 25 (.hd 4),.h 0 26 (xi),.h 2 1 (.hd 5),.h 3 0 (xl 0),.w 4 1,.w 5 5,.m 6 7 true] [] [] [] [(917533,[.mk [.v (.st 11)] [] [] [(1000000,0)] [] []]),(1966117,[.mk [.v (.st 5),.v cb] [] [] [(1000000,1)] [] []]),(8257585,[.mk [.v (.st 16)] [] [] [(1000000,2)] [] []]),(8257588,[.mk [.v (.st 5),.v (.c (.sl 15))] [] [] [(1000000,3)] [] []]),(27000854,[.mk [] [] [] [(1000002,0)] [] []]),(27000855,[.mk [.v (.c (.sl 15))] [] [] [(10,15),(25,15)] [(58,⟨[.r 13 ci,.w 8 15],[(5,8)],[],[]⟩)] [(244908055,[.mk [.v ci] [] [] [] [] []])]]),(32768044,[.mk [.v (.c (.sl 15))] [] [] [(10,15),(25,15)] [(58,⟨[.r 13 ci,.w 9 15],[(5,9)],[],[]⟩)] [(244908055,[.mk [.v ci] [] [] [] [] []])]]),(33292346,[.mk [.v ci] [.h 0 25 (.hd 4),.h 2 1 (.hd 5),.w 4 1,.w 5 5,.h 0 26 (xi),.h 3 0 (xl 0),.m 6 7 true] [] [(1000000,4)] [] []]),(267124799,[.mk [] [] [] [(1000002,0)] [] []]),(267124800,[.mk [.v (.c (.sl 15))] [] [] [(10,15),(25,15)] [(58,⟨[.r 13 ci,.w 11 15],[(5,11)],[],[]⟩)] [(244908055,[.mk [.v ci] [] [] [] [] []])]])]],λ(a0,a1,a2,a3,a4,a5,a6,a7,a8,a9,a10,a11,a12,a13,a14,a15,a16,a17,a18,a19,a20,a21,a22,a23,a24,a25,a26,_,a28)=>chain_Do_od534 N a0 a1 a2 a3 a4 a5 a6 a7 a8 a9 a10 a11 a12 a13 a14 a15 a16 a17 a18 a19 a20 a21 a22 a23 a24 a25 a26 a28⟩
theorem chain_Do_od534xok(N:Nat):za4 Tryz.prog 8 (chain_Do_od534xsp N):=og (g:=8) N (.cons (chain_alike_ok N)<|.cons (zcl N)<|.nil) (.cons (store_Store_Spec_obf7fx_ok N)<|.cons (zey N)<|.cons (zch N)<|.cons (chain_Fold_o2829xok N)<|.cons (core_Set_oe6f8xok N)<|.nil) (by kernel_rfl) (λx=>by kernel_rfl)
def drayagelaw36xawake_sp(N:Nat):TSp:=⟨[],[cb],λa=>drayagelaw36xawake N⟩
theorem drayagelaw36xawake_ok(N:Nat):zaM Tryz.prog 4 (drayagelaw36xawake_sp N):=tg [(18,10)] [] [(393223,[.mk [.p (.k (.c (.lit (.pointer none)))),.p (.k (.c (.lit (.int .i64 2))))] [] [] [(1000000,0)] [] [],.mk [.p (.pt 0 0 27),.p (.k (.c (.lit (.int .i64 0))))] [] [.cells [.pt 1 0 2,.pt 2 0 2,xl 0,xl 2,xl 3,xi,xi,xi,xi,xi,xi,xi,xi,xi,xi,xi,xi,xi,xi,xi,xi,xi,xi,xn,xl 1,.hd 3,xi],.cells [xi,xn],.cells [xl 0,.mr 4],.row 1,.mp 7 true] [] [] []]),(917517,[.mk [.v ci] [] [] [(1000000,1)] [] []]),(1966099,[.mk [.v (.c (.sl 15))] [] [] [(1000000,2)] [] []]),(4063253,[.mk [.v (.st 16)] [] [] [(1000000,3)] [] []]),(6597070684173,[.mk [.v ci] [.h 1 1 (xn),.h 0 21 (xi),.h 0 25 (.hd 3),.w 3 1] [] [(1000000,4)] [] [],.mk [.v ci] [.h 1 1 (.hd 5),.h 0 21 (xi),.h 0 25 (.hd 3),.w 3 1] [.row 5] [] [] []]),(7696583360531,[.mk [.v (.c (.sl 15))] [.h 1 1 (.hd 6),.h 0 25 (.hd 3),.h 0 26 (xi),.h 2 0 (xl 0),.w 3 1,.m 4 7 true] [.row 5] [(1000000,5)] [] [],.mk [.v (.c (.sl 15))] [.h 1 1 (xn),.h 0 25 (.hd 3),.h 0 26 (xi),.h 2 0 (xl 0),.w 3 1,.m 4 7 true] [] [] [] []]),(7696585457685,[.mk [.v (.st 16)] [.h 1 1 (.hd 6)] [.row 5] [(1000000,7)] [] []]),(8796094988307,[.mk [.v (.c (.sl 15))] [.h 0 25 (.hd 3),.h 0 26 (xi),.h 1 1 (.hd 5),.h 2 0 (xl 0),.w 3 1,.w 5 5,.m 4 7 true] [] [(1000000,8)] [] []]),(8796097085461,[.mk [.v (.st 16)] [] [] [(1000000,6)] [] []])] N (.cons (drayageref07xSmall_ok N)<|.cons (drayagelaw36xcall_ok N)<|.nil) (.cons (store_New_o49f9xok N)<|.cons (store_Store_Put_oe980xok N)<|.cons (chain_Do_o6143xok N)<|.cons (store_Store_State_o9e3c_ok N)<|.cons (store_Store_Put_o925b_ok N)<|.cons (chain_Do_o0711xok N)<|.cons (zch N)<|.cons (store_Store_State_oecf2xok N)<|.cons (chain_Do_od534xok N)<|.nil) (λa=>by kernel_rfl)
def drayagelaw07xFew_sp(N:Nat):TSp:=⟨[.st 11],[cb],λa=>zeo N a.1⟩
theorem drayagelaw07xFew_ok(N:Nat):zaM Tryz.prog 19 (drayagelaw07xFew_sp N):=tg [] [(58,⟨[.r 26 ci],[],[],[]⟩),(122,⟨[.r 37 ci],[],[],[]⟩)] [] N (.nil) (.nil) (λa=>by kernel_rfl)
def drayagelaw17xFew_sp(N:Nat):TSp:=⟨[.c (.sl 5)],[cb],λa=>zek N a.1⟩
theorem drayagelaw17xFew_ok(N:Nat):zaM Tryz.prog 20 (drayagelaw17xFew_sp N):=tg [] [(58,⟨[.r 10 ci],[],[],[]⟩)] [] N (.nil) (.nil) (λa=>by kernel_rfl)
def drayagelaw23xFew_sp(N:Nat):TSp:=⟨[.st 11,.st 16],[cb],λa=>zem N a.1 a.2.1⟩
theorem drayagelaw23xFew_ok(N:Nat):zaM Tryz.prog 5 (drayagelaw23xFew_sp N):=tg [] [(6,⟨[.r 40 cb],[],[],[]⟩),(58,⟨[.r 44 ci],[],[],[]⟩)] [] N (.cons (drayagelaw07xFew_ok N)<|.cons (drayagelaw17xFew_ok N)<|.nil) (.nil) (λa=>by kernel_rfl)
def drayagelaw24xFew_sp(N:Nat):TSp:=⟨[.c (.sl 10)],[cb],λa=>zen N a.1⟩
theorem drayagelaw24xFew_ok(N:Nat):zaM Tryz.prog 6 (drayagelaw24xFew_sp N):=tg [] [(58,⟨[.r 10 ci],[],[],[]⟩)] [] N (.nil) (.nil) (λa=>by kernel_rfl)
def store_within_sp(N:Nat):TSp:=⟨[ci,ci,ci],[cb],λa=>zcW N a.1 a.2.1 a.2.2.1⟩
theorem store_within_ok(N:Nat):zaM Tryz.prog 87 (store_within_sp N):=tg [] [] [] N (.nil) (.nil) (λa=>by kernel_rfl)
def store_numbers_sp(N:Nat):TSp:=⟨[.st 11,.st 16],[cb],λa=>store_numbers N a.1 a.2.1⟩
theorem store_numbers_ok(N:Nat):zaM Tryz.prog 39 (store_numbers_sp N):=tg [] [] [] N (.cons (store_within_ok N)<|.nil) (.nil) (λa=>by kernel_rfl)
def store_extra_sp(N:Nat):TSp:=⟨[ci],[ci],λa=>store_extra N a.1⟩
theorem store_extra_ok(N:Nat):zaM Tryz.prog 88 (store_extra_sp N):=tg [] [] [] N (.cons (life_Over_ok N)<|.nil) (.nil) (λa=>by kernel_rfl)
def store_jobs_sp(N:Nat):TSp:=⟨[.st 11,.st 16],[cb],λa=>store_jobs N a.1 a.2.1⟩
theorem store_jobs_ok(N:Nat):zaM Tryz.prog 40 (store_jobs_sp N):=tg [] [(122,⟨[.r 5 ci,.r 17 ci],[],[],[]⟩),(62671,⟨[.r 72 cb],[],[],[]⟩)] [] N (.cons (zcz N)<|.cons (store_extra_ok N)<|.nil) (.nil) (λa=>by kernel_rfl)
def store_find_1xsp(N:Nat):TSp:=⟨[.st 5,ci],[ci],λa=>store_find_1 N a.1 a.2.1⟩
theorem store_find_1xok(N:Nat):zaM Tryz.prog 149 (store_find_1xsp N):=tg [] [] [] N (.nil) (.nil) (λa=>by kernel_rfl)
def zbx(N:Nat):TSp:=⟨[.c (.sl 5),ci,.k 149],[ci,cb],λa=>zav N a.1 a.2.1⟩
theorem zbz(N:Nat):zaM Tryz.prog 148 (zbx N):=tg [] [(60,⟨[.r 9 ci,.r 10 ci],[],[],[]⟩)] [] N (.cons (store_find_1xok N)<|.nil) (.nil) (λa=>by kernel_rfl)
def store_find_sp(N:Nat):TSp:=⟨[.c (.sl 5),ci],[ci,cb],λa=>store_find N a.1 a.2.1⟩
theorem store_find_ok(N:Nat):zaM Tryz.prog 91 (store_find_sp N):=tg [] [] [] N (.cons (zbz N)<|.nil) (.nil) (λa=>by kernel_rfl)
def store_waiting_sp(N:Nat):TSp:=⟨[.st 11,.st 16],[cb],λa=>store_waiting N a.1 a.2.1⟩
theorem store_waiting_ok(N:Nat):zaM Tryz.prog 41 (store_waiting_sp N):=tg [] [(26,⟨[.r 14 ci],[],[],[]⟩),(211,⟨[],[],[],[]⟩),(27038,⟨[.r 33 ci],[],[],[]⟩)] [] N (.cons (life_Over_ok N)<|.cons (spec_Fits_ok N)<|.cons (store_find_ok N)<|.nil) (.nil) (λa=>by kernel_rfl)
def place_Right_sp(N:Nat):TSp:=⟨[.c (.sl 6),ci],[cb],λa=>place_Right N a.1 a.2.1⟩
theorem place_Right_ok(N:Nat):zaM Tryz.prog 109 (place_Right_sp N):=tg [] [(58,⟨[.r 5 ci,.r 10 ci],[],[],[]⟩)] [] N (.nil) (.nil) (λa=>by kernel_rfl)
def place_Total_sp(N:Nat):TSp:=⟨[.c (.sl 6)],[ci],λa=>place_Total N a.1⟩
theorem place_Total_ok(N:Nat):zaM Tryz.prog 150 (place_Total_sp N):=tg [] [(58,⟨[.r 3 ci,.r 8 ci],[],[],[]⟩)] [] N (.cons (nat_Hold_int_ok N)<|.nil) (.nil) (λa=>by kernel_rfl)
def slices_Index_Lint_int_sp(N:Nat):TSp:=⟨[.c (.sl 1),ci],[ci],λa=>zdH N a.1 a.2.1⟩
theorem slices_Index_Lint_int_ok(N:Nat):zaM Tryz.prog 212 (slices_Index_Lint_int_sp N):=tg [] [(26,⟨[.r 8 ci],[],[],[]⟩)] [] N (.nil) (.nil) (λa=>by kernel_rfl)
def slices_Contains_Lint_int_sp(N:Nat):TSp:=⟨[.c (.sl 1),ci],[cb],λa=>zbQ N a.1 a.2.1⟩
theorem slices_Contains_Lint_int_ok(N:Nat):zaM Tryz.prog 151 (slices_Contains_Lint_int_sp N):=tg [] [] [] N (.cons (slices_Index_Lint_int_ok N)<|.nil) (.nil) (λa=>by kernel_rfl)
def store_suits_sp(N:Nat):TSp:=⟨[.st 11,.st 5,.c (.sl 6)],[cb],λa=>store_suits N a.1 a.2.1 a.2.2.1⟩
theorem store_suits_ok(N:Nat):zaM Tryz.prog 93 (store_suits_sp N):=tg [] [(6,⟨[.r 22 cb],[],[],[]⟩),(250,⟨[.r 47 ci],[],[],[]⟩)] [] N (.cons (slices_Contains_Lint_int_ok N)<|.cons (place_Right_ok N)<|.cons (place_Total_ok N)<|.nil) (.nil) (λa=>by kernel_rfl)
def vec_Sub_sp(N:Nat):TSp:=⟨[.st 0,.st 0],[.st 0,ci],λa=>vec_Sub N a.1 a.2.1⟩
theorem vec_Sub_ok(N:Nat):zaM Tryz.prog 111 (vec_Sub_sp N):=tg [] [(6,⟨[.r 15 cb],[],[],[]⟩)] [(917522,[.mk [.ag [.cx,.cx]] [] [] [(1000000,0)] [] []]),(917524,[.mk [.ag [.cx,.cx]] [] [] [(1000000,0)] [] []]),(1966112,[.mk [.v (.st 0),.v ci] [] [] [(1000000,1)] [] []])] N (.cons (zcy N)<|.nil) (.cons (vec_split_o09e8xok N)<|.cons (zev N)<|.nil) (λa=>by kernel_rfl)
def ledger_Ledger_change_o8350xsp(N:Nat):OSp:=⟨.mk [.p (.pt 0 0 2),.v (.st 7),.p (.k (.c (.fn (.func 111) [] [])))] [] [.cells [xl 0,.mr 1],.mp 7 true] [] [] [],[.mk [.v (.c (.sl 0)),.v ci] [] [] [] [(58,⟨[.r 21 ci,.w 3 0],[(8,3)],[],[]⟩)] [(393233,[.mk [.p (.hd 3)] [] [.row 0] [(1000000,0)] [] []])]],λ(_,a1,a2)=>zbD N a1 a2⟩
theorem ledger_Ledger_change_o8350xok(N:Nat):za4 Tryz.prog 110 (ledger_Ledger_change_o8350xsp N):=og (g:=110) N (.cons (vec_Times_ok N)<|.cons (vec_Sub_ok N)<|.nil) (.cons (zb2 N)<|.nil) (by kernel_rfl) (λx=>by kernel_rfl)
def ledger_Ledger_Take_o6c47xsp(N:Nat):OSp:=⟨.mk [.p (.pt 0 0 2),.v (.st 7)] [] [.cells [xl 0,.mr 1],.mp 7 true] [] [] [],[.mk [.v ci] [.h 0 0 (xl 0),.m 1 7 true] [] [] [(14,⟨[.r 41 cb],[],[],[]⟩)] [(4063288,[.mk [.v (.c (.sl 0)),.v ci] [] [] [(1000000,0)] [] []])]],λ(a0,a1,a2)=>zbo N a0 a1 a2⟩
theorem zdF(N:Nat):za4 Tryz.prog 56 (ledger_Ledger_Take_o6c47xsp N):=og (g:=56) N (.cons (ledger_own_ok N)<|.cons (place_Right_ok N)<|.cons (zcy N)<|.nil) (.cons (ledger_Ledger_change_o8350xok N)<|.nil) (by kernel_rfl) (λx=>by kernel_rfl)
def store_allocations_sp(N:Nat):TSp:=⟨[.st 11,.st 16],[cb],λa=>zdN N a.1 a.2.1⟩
theorem store_allocations_ok(N:Nat):zaM Tryz.prog 42 (store_allocations_sp N):=tg [] [(250,⟨[.r 7 (.c (.sl 7)),.r 23 ci,.h 2 0 (.sl 0),.m 3 7 true],[],[],[]⟩),(2003,⟨[.r 7 (.c (.sl 7)),.h 2 0 (.sl 0),.m 3 7 true],[],[],[]⟩),(256415,⟨[.r 74 cb,.h 2 0 (.sl 0),.m 3 7 true],[],[],[]⟩)] [(393229,[.mk [.p (.k (.c (.lit (.pointer none)))),.p (.k (.c (.lit (.int .i64 2))))] [] [] [(1000000,0)] [] [],.mk [.p (.pt 2 0 2),.p (.k (.c (.lit (.int .i64 0))))] [] [.cells [xl 0,.mr 3],.mp 7 true] [] [] []]),(33608826952,[.mk [.v ci] [.h 2 0 (xl 0),.m 3 7 true] [] [(1000000,1)] [] []])] N (.cons (life_Has_ok N)<|.cons (store_suits_ok N)<|.nil) (.cons (ledger_New_oe6df_ok N)<|.cons (zdF N)<|.nil) (λa=>by kernel_rfl)
def book_whole_sp(N:Nat):TSp:=⟨[.st 8,ci],[cb],λa=>book_whole N a.1 a.2.1⟩
theorem book_whole_ok(N:Nat):zaM Tryz.prog 152 (book_whole_sp N):=tg [] [] [] N (.nil) (.nil) (λa=>by kernel_rfl)
def book_Meets_sp(N:Nat):TSp:=⟨[.c (.sl 8),ci,ci,ci],[cb],λa=>book_Meets N a.1 a.2.1 a.2.2.1 a.2.2.2.1⟩
theorem book_Meets_ok(N:Nat):zaM Tryz.prog 95 (book_Meets_sp N):=tg [] [(26,⟨[.r 13 ci],[],[],[]⟩)] [] N (.nil) (.nil) (λa=>by kernel_rfl)
def book_Right_sp(N:Nat):TSp:=⟨[.c (.sl 8),ci],[cb],λa=>book_Right N a.1 a.2.1⟩
theorem book_Right_ok(N:Nat):zaM Tryz.prog 94 (book_Right_sp N):=tg [] [(58,⟨[.r 12 ci],[],[],[]⟩),(3737,⟨[.r 47 cb],[],[],[]⟩)] [] N (.cons (book_whole_ok N)<|.cons (book_Meets_ok N)<|.nil) (.nil) (λa=>by kernel_rfl)
def store_bookings_sp(N:Nat):TSp:=⟨[.st 11,.st 16],[cb],λa=>store_bookings N a.1 a.2.1⟩
theorem store_bookings_ok(N:Nat):zaM Tryz.prog 43 (store_bookings_sp N):=tg [] [(58,⟨[.r 23 ci],[],[],[]⟩),(122,⟨[.r 43 ci],[],[],[]⟩),(125342,⟨[.r 60 ci],[],[],[]⟩)] [] N (.cons (book_Right_ok N)<|.cons (store_find_ok N)<|.cons (book_Meets_ok N)<|.nil) (.nil) (λa=>by kernel_rfl)
def share_Right_sp(N:Nat):TSp:=⟨[.c (.sl 1)],[cb],λa=>share_Right N a.1⟩
theorem share_Right_ok(N:Nat):zaM Tryz.prog 96 (share_Right_sp N):=tg [] [(26,⟨[.r 7 ci],[],[],[]⟩)] [] N (.nil) (.nil) (λa=>by kernel_rfl)
def store_usage_sp(N:Nat):TSp:=⟨[.st 11,.st 16],[cb],λa=>store_usage N a.1 a.2.1⟩
theorem store_usage_ok(N:Nat):zaM Tryz.prog 44 (store_usage_sp N):=tg [] [(6,⟨[.r 18 cb],[],[],[]⟩),(14,⟨[.r 33 cb],[],[],[]⟩),(122,⟨[.r 38 ci],[],[],[]⟩)] [] N (.cons (store_within_ok N)<|.cons (share_Right_ok N)<|.nil) (.nil) (λa=>by kernel_rfl)
def store_Sound_sp(N:Nat):TSp:=⟨[.st 11,.st 16],[cb],λa=>store_Sound N a.1 a.2.1⟩
theorem store_Sound_ok(N:Nat):zaM Tryz.prog 13 (store_Sound_sp N):=tg [] [] [] N (.cons (zdJ N)<|.cons (store_numbers_ok N)<|.cons (store_jobs_ok N)<|.cons (store_waiting_ok N)<|.cons (store_allocations_ok N)<|.cons (store_bookings_ok N)<|.cons (store_usage_ok N)<|.nil) (.nil) (λa=>by kernel_rfl)
def table_Table_Put_o32b6xsp(N:Nat):OSp:=⟨.mk [.p (.pt 0 0 2),.v (.st 5)] [] [.cells [xi,.hd 1],.row 5] [] [] [],[.mk [.v ci] [.h 0 1 (.hd 1),.w 1 5] [] [(38,5)] [] [(1966096,[.mk [.v ci,.v cb] [] [] [(1000000,0)] [] []]),(16646183,[.mk [.p (.hd 1)] [.w 1 5] [] [(1000000,1)] [] []])]],λ(a0,a1,a2)=>zcr N a0 a1 a2⟩
theorem table_Table_Put_o32b6xok(N:Nat):za4 Tryz.prog 54 (table_Table_Put_o32b6xsp N):=og (g:=54) N (.cons (zcz N)<|.cons (zdB N)<|.nil) (.cons (zcE N)<|.cons (zbN N)<|.nil) (by kernel_rfl) (λx=>by kernel_rfl)
def zcT(N:Nat):OSp:=⟨.mk [.v (.c (.sl 8))] [] [] [] [] [],[.mk [.p (.hd 0)] [] [.row 8] [] [] []],λx=>zaW N x⟩
theorem zcU(N:Nat):za4 Tryz.prog 36 (zcT N):=clone_own (i:=8) (sz:=32) (z:=[.c (.lit (.int .i64 0)),.c (.lit (.int .i64 0)),.c (.lit (.int .i64 0)),.c (.lit (.int .i64 0))]) (fn:=Tryz.f36) mix (by kernel_rfl) (by kernel_rfl) (by kernel_rfl) rfl
def slices_Clone_Lint_int_own_sp(N:Nat):OSp:=⟨.mk [.v (.c (.sl 1))] [] [] [] [] [],[.mk [.p (.hd 0)] [] [.row 1] [] [] []],λx=>zbe N x⟩
theorem slices_Clone_Lint_int_own_ok(N:Nat):za4 Tryz.prog 37 (slices_Clone_Lint_int_own_sp N):=clone_own (i:=1) (sz:=8) (z:=[.c (.lit (.int .i64 0))]) (fn:=Tryz.f37) mix (by kernel_rfl) (by kernel_rfl) (by kernel_rfl) rfl
def store_Of_ob442xsp(N:Nat):OSp:=⟨.mk [.v (.st 11),.v (.st 16)] [] [] [] [] [],[.mk [.p (.k (.c (.lit (.pointer none)))),.v ci] [] [] [] [(250,⟨[.r 29 ci,.w 7 5],[],[(1051649,5)],[(3,1,7)]⟩),(506,⟨[.r 46 ci,.h 4 0 (.sl 0),.m 6 7 true],[],[],[]⟩)] [(917524,[.mk [.p (.k (.c (.lit (.pointer none)))),.p (.k (.c (.lit (.int .i64 2))))] [] [] [(1000000,0)] [] [],.mk [.p (.pt 2 0 27),.p (.k (.c (.lit (.int .i64 0))))] [] [.cells [.pt 3 0 2,.pt 4 0 2,xl 0,xl 2,xl 3,xi,xi,xi,xi,xi,xi,xi,xi,xi,xi,xi,xi,xi,xi,xi,xi,xi,xi,xn,xl 1,.hd 5,xi],.cells [xi,xn],.cells [xl 0,.mr 6],.row 1,.mp 7 true] [] [] []]),(33423438,[.mk [.p (.hd 8)] [] [.row 8] [(1000000,3)] [] []]),(66977876,[.mk [.p (.hd 9)] [] [.row 1] [(1000000,4)] [] []]),(134086747,[.mk [.p (.hd 10)] [] [.row 1] [(1000000,4)] [] []]),(2100428838,[.mk [.v ci] [.h 3 1 (.hd 7),.w 7 5] [] [(1000000,1)] [] []]),(4247912503,[.mk [.v ci] [.h 4 0 (xl 0),.m 6 7 true] [] [(1000000,2)] [] []])],.mk [.p (.pt 0 0 27),.p (.k (.c (.lit (.int .i64 0))))] [] [.cells [.pt 1 0 2,.pt 2 0 2,xl 0,xl 2,xl 3,xi,xi,xi,xi,xi,xi,xi,xi,xi,xi,xi,xi,xi,xi,xi,xi,xi,xi,xl 8,xl 1,.hd 3,xi],.cells [xi,.hd 4],.cells [xl 0,.mr 5],.row 1,.row 5,.mp 7 true] [] [] []],λ(a0,a1)=>zdf N a0 a1⟩
theorem store_Of_ob442xok(N:Nat):za4 Tryz.prog 21 (store_Of_ob442xsp N):=og (g:=21) N (.cons (store_Sound_ok N)<|.nil) (.cons (store_New_o49f9xok N)<|.cons (table_Table_Put_o32b6xok N)<|.cons (zdF N)<|.cons (zcU N)<|.cons (slices_Clone_Lint_int_own_ok N)<|.nil) (by kernel_rfl) (λx=>by kernel_rfl)
def drayageref07xin_sp(N:Nat):TSp:=⟨[ci,ci,ci],[cb],λa=>zaj N a.1 a.2.1 a.2.2.1⟩
theorem zdm(N:Nat):zaM Tryz.prog 162 (drayageref07xin_sp N):=tg [] [] [] N (.nil) (.nil) (λa=>by kernel_rfl)
def drayageref02xright_sp(N:Nat):TSp:=⟨[ci],[cb],λa=>zbS N a.1⟩
theorem drayageref02xright_ok(N:Nat):zaM Tryz.prog 166 (drayageref02xright_sp N):=tg [] [] [] N (.nil) (.nil) (λa=>by kernel_rfl)
def drayageref02xRight_sp(N:Nat):TSp:=⟨[.st 0],[cb],λa=>zaA N a.1⟩
theorem zbM(N:Nat):zaM Tryz.prog 115 (drayageref02xRight_sp N):=tg [] [] [] N (.cons (drayageref02xright_ok N)<|.nil) (.nil) (λa=>by kernel_rfl)
def drayageref07xnodes_sp(N:Nat):TSp:=⟨[.st 11],[cb],λa=>zcx N a.1⟩
theorem drayageref07xnodes_ok(N:Nat):zaM Tryz.prog 163 (drayageref07xnodes_sp N):=tg [] [(26,⟨[.r 3 ci],[],[],[]⟩)] [] N (.cons (zbM N)<|.cons (zdm N)<|.nil) (.nil) (λa=>by kernel_rfl)
def drayageref07xRising_sp(N:Nat):TSp:=⟨[.c (.sl 1),ci],[cb],λa=>zb9 N a.1 a.2.1⟩
theorem drayageref07xRising_ok(N:Nat):zaM Tryz.prog 215 (drayageref07xRising_sp N):=tg [] [(26,⟨[.r 5 ci],[],[],[]⟩),(420,⟨[.r 40 cb],[],[],[]⟩)] [] N (.nil) (.nil) (λa=>by kernel_rfl)
def drayageref07xparts_sp(N:Nat):TSp:=⟨[.st 11],[cb],λa=>zcA N a.1⟩
theorem drayageref07xparts_ok(N:Nat):zaM Tryz.prog 164 (drayageref07xparts_sp N):=tg [] [(26,⟨[.r 3 ci],[],[],[]⟩),(420,⟨[.r 29 cb],[],[],[]⟩)] [] N (.cons (drayageref07xRising_ok N)<|.cons (zdm N)<|.nil) (.nil) (λa=>by kernel_rfl)
def drayageref07xqueues_sp(N:Nat):TSp:=⟨[.st 11],[cb],λa=>zca N a.1⟩
theorem drayageref07xqueues_ok(N:Nat):zaM Tryz.prog 165 (drayageref07xqueues_sp N):=tg [] [(26,⟨[.r 3 ci],[],[],[]⟩),(841,⟨[.r 59 cb],[],[],[]⟩)] [] N (.cons (drayageref07xRising_ok N)<|.cons (zdm N)<|.nil) (.nil) (λa=>by kernel_rfl)
def drayageref07xFlaw_sp(N:Nat):TSp:=⟨[.st 11],[.c .str],λa=>drayageref07xFlaw N a.1⟩
theorem drayageref07xFlaw_ok(N:Nat):zaM Tryz.prog 112 (drayageref07xFlaw_sp N):=tg [(28,18),(69,19)] [(7,⟨[.r 4 cb],[],[],[]⟩),(506,⟨[.r 7 ci],[],[],[]⟩)] [] N (.cons (drayageref07xnodes_ok N)<|.cons (drayageref07xparts_ok N)<|.cons (zdm N)<|.cons (drayageref07xqueues_ok N)<|.nil) (.nil) (λa=>by kernel_rfl)
def drayageref07xRight_sp(N:Nat):TSp:=⟨[.st 11],[cb],λa=>zbP N a.1⟩
theorem drayageref07xRight_ok(N:Nat):zaM Tryz.prog 57 (drayageref07xRight_sp N):=tg [] [] [] N (.cons (drayageref07xFlaw_ok N)<|.nil) (.nil) (λa=>by kernel_rfl)
def drayageref05xRight_sp(N:Nat):TSp:=⟨[ci],[cb],λa=>zbc N a.1⟩
theorem drayageref05xRight_ok(N:Nat):zaM Tryz.prog 58 (drayageref05xRight_sp N):=tg [] [] [] N (.nil) (.nil) (λa=>by kernel_rfl)
def drayageref17xFind_sp(N:Nat):TSp:=⟨[.c (.sl 5),ci],[ci],λa=>zao N a.1 a.2.1⟩
theorem zau(N:Nat):zaM Tryz.prog 113 (drayageref17xFind_sp N):=tg [] [(26,⟨[.r 5 ci],[],[],[]⟩)] [] N (.nil) (.nil) (λa=>by kernel_rfl)
def drayageref11xRight_sp(N:Nat):TSp:=⟨[.c (.sl 6),ci],[cb],λa=>zbt N a.1 a.2.1⟩
theorem drayageref11xRight_ok(N:Nat):zaM Tryz.prog 114 (drayageref11xRight_sp N):=tg [] [(26,⟨[.r 5 ci],[],[],[]⟩),(420,⟨[.r 60 cb],[],[],[]⟩)] [] N (.nil) (.nil) (λa=>by kernel_rfl)
def drayageref11xOn_sp(N:Nat):TSp:=⟨[.c (.sl 6),ci],[ci],λa=>zdy N a.1 a.2.1⟩
theorem drayageref11xOn_ok(N:Nat):zaM Tryz.prog 169 (drayageref11xOn_sp N):=tg [] [(58,⟨[.r 5 ci,.r 6 ci],[],[],[]⟩),(233,⟨[.r 5 ci],[],[],[]⟩)] [] N (.nil) (.nil) (λa=>by kernel_rfl)
def drayageref02xAdd_sp(N:Nat):TSp:=⟨[.st 0,.st 0],[.st 0],λa=>zbV N a.1 a.2.1⟩
theorem zew(N:Nat):zaM Tryz.prog 167 (drayageref02xAdd_sp N):=tg [] [] [] N (.nil) (.nil) (λa=>by kernel_rfl)
def drayageref11xTimes_sp(N:Nat):TSp:=⟨[.st 0,ci],[.st 0],λa=>zcs N a.1 a.2.1⟩
theorem drayageref11xTimes_ok(N:Nat):zaM Tryz.prog 168 (drayageref11xTimes_sp N):=tg [] [(58,⟨[.r 6 ci,.h 2 0 (.int .i64),.h 2 1 (.int .i64),.h 2 2 (.int .i64),.h 2 3 (.int .i64)],[],[],[]⟩)] [] N (.cons (zew N)<|.nil) (.nil) (λa=>by kernel_rfl)
def drayageref02xFits_sp(N:Nat):TSp:=⟨[.st 0,.st 0],[cb],λa=>zaw N a.1 a.2.1⟩
theorem zcH(N:Nat):zaM Tryz.prog 170 (drayageref02xFits_sp N):=tg [] [] [] N (.nil) (.nil) (λa=>by kernel_rfl)
def drayageref02xSub_sp(N:Nat):TSp:=⟨[.st 0,.st 0],[.st 0],λa=>drayageref02xSub N a.1 a.2.1⟩
theorem drayageref02xSub_ok(N:Nat):zaM Tryz.prog 171 (drayageref02xSub_sp N):=tg [] [] [] N (.nil) (.nil) (λa=>by kernel_rfl)
def drayageref14xLeft_sp(N:Nat):TSp:=⟨[.c (.sl 0),.c (.sl 7)],[.c (.sl 0),cb],λa=>zcN N a.1 a.2.1⟩
theorem drayageref14xLeft_ok(N:Nat):zaM Tryz.prog 116 (drayageref14xLeft_sp N):=tg [(55,0)] [(122,⟨[.r 7 cb,.r 8 ci,.w 0 0],[(6,0)],[(6,0)],[]⟩),(7827,⟨[.r 7 cb],[],[],[]⟩),(31306,⟨[.r 10 ci,.h 1 0 (.int .i64),.h 1 1 (.int .i64),.h 1 2 (.int .i64),.h 1 3 (.int .i64)],[],[],[]⟩)] [] N (.cons (drayageref11xOn_ok N)<|.cons (drayageref11xTimes_ok N)<|.cons (zew N)<|.cons (drayageref02xSub_ok N)<|.cons (zcH N)<|.nil) (.nil) (λa=>by kernel_rfl)
def drayageref23xallocs_sp(N:Nat):TSp:=⟨[.st 11,.st 16],[cb],λa=>zc5 N a.1 a.2.1⟩
theorem drayageref23xallocs_ok(N:Nat):zaM Tryz.prog 59 (drayageref23xallocs_sp N):=tg [] [(26,⟨[.r 5 ci],[],[],[]⟩),(841,⟨[.r 57 cb],[],[],[]⟩)] [] N (.cons (zau N)<|.cons (drayageref11xRight_ok N)<|.cons (zbM N)<|.cons (drayageref14xLeft_ok N)<|.nil) (.nil) (λa=>by kernel_rfl)
end Go.Abs
end
end
section
set_option maxRecDepth 100000
noncomputable section
namespace Go.Abs
open Go.Proofs
def drayageref23xTaken_sp(N:Nat):TSp:=⟨[.st 16,ci,ci],[cb],λa=>zcp N a.1 a.2.1 a.2.2.1⟩
theorem drayageref23xTaken_ok(N:Nat):zaM Tryz.prog 117 (drayageref23xTaken_sp N):=tg [] [(26,⟨[.r 7 ci],[],[],[]⟩),(841,⟨[.r 54 cb],[],[],[]⟩)] [] N (.cons (zau N)<|.cons (drayageref11xOn_ok N)<|.nil) (.nil) (λa=>by kernel_rfl)
def drayageref12xOne_sp(N:Nat):TSp:=⟨[.st 8,ci],[cb],λa=>zer N a.1 a.2.1⟩
theorem drayageref12xOne_ok(N:Nat):zaM Tryz.prog 172 (drayageref12xOne_sp N):=tg [] [] [] N (.cons (drayageref05xRight_ok N)<|.nil) (.nil) (λa=>by kernel_rfl)
def drayageref12xMeets_sp(N:Nat):TSp:=⟨[.c (.sl 8),ci,ci,ci],[cb],λa=>zcu N a.1 a.2.1 a.2.2.1 a.2.2.2.1⟩
theorem drayageref12xMeets_ok(N:Nat):zaM Tryz.prog 173 (drayageref12xMeets_sp N):=tg [] [(26,⟨[.r 9 ci],[],[],[]⟩)] [] N (.nil) (.nil) (λa=>by kernel_rfl)
def drayageref12xRight_sp(N:Nat):TSp:=⟨[.c (.sl 8),ci],[cb],λa=>zdp N a.1 a.2.1⟩
theorem drayageref12xRight_ok(N:Nat):zaM Tryz.prog 118 (drayageref12xRight_sp N):=tg [] [(26,⟨[.r 5 ci],[],[],[]⟩),(3366,⟨[.r 6 ci],[],[],[]⟩),(53860,⟨[.r 58 cb],[],[],[]⟩)] [] N (.cons (drayageref12xOne_ok N)<|.cons (drayageref12xMeets_ok N)<|.nil) (.nil) (λa=>by kernel_rfl)
def drayageref23xbooks_sp(N:Nat):TSp:=⟨[.st 11,.st 16],[cb],λa=>zdl N a.1 a.2.1⟩
theorem drayageref23xbooks_ok(N:Nat):zaM Tryz.prog 60 (drayageref23xbooks_sp N):=tg [] [(26,⟨[.r 5 ci],[],[],[]⟩),(841,⟨[.r 38 cb],[],[],[]⟩)] [] N (.cons (drayageref23xTaken_ok N)<|.cons (drayageref12xRight_ok N)<|.nil) (.nil) (λa=>by kernel_rfl)
def drayageref23xUse_sp(N:Nat):TSp:=⟨[.c (.sl 1),ci],[cb],λa=>zeq N a.1 a.2.1⟩
theorem drayageref23xUse_ok(N:Nat):zaM Tryz.prog 61 (drayageref23xUse_sp N):=tg [] [(26,⟨[.r 5 ci],[],[],[]⟩),(420,⟨[.r 23 cb],[],[],[]⟩)] [] N (.nil) (.nil) (λa=>by kernel_rfl)
def drayageref16xin_sp(N:Nat):TSp:=⟨[ci,ci,ci],[cb],λa=>zaG N a.1 a.2.1 a.2.2.1⟩
theorem drayageref16xin_ok(N:Nat):zaM Tryz.prog 174 (drayageref16xin_sp N):=tg [] [] [] N (.nil) (.nil) (λa=>by kernel_rfl)
def drayageref16xRight_sp(N:Nat):TSp:=⟨[.st 5],[cb],λa=>zaZ N a.1⟩
theorem zbn(N:Nat):zaM Tryz.prog 119 (drayageref16xRight_sp N):=tg [] [(14,⟨[.r 61 cb],[],[],[]⟩),(26,⟨[.r 3 ci],[],[],[]⟩),(30,⟨[.r 85 cb],[],[],[]⟩),(62,⟨[.r 101 cb],[],[],[]⟩),(126,⟨[.r 119 cb],[],[],[]⟩)] [] N (.cons (drayageref16xin_ok N)<|.cons (zbM N)<|.cons (zcH N)<|.nil) (.nil) (λa=>by kernel_rfl)
def drayageref14xFind_sp(N:Nat):TSp:=⟨[.c (.sl 7),ci],[ci],λa=>zcO N a.1 a.2.1⟩
theorem drayageref14xFind_ok(N:Nat):zaM Tryz.prog 120 (drayageref14xFind_sp N):=tg [] [(26,⟨[.r 5 ci],[],[],[]⟩)] [] N (.nil) (.nil) (λa=>by kernel_rfl)
def drayageref23xHas_sp(N:Nat):TSp:=⟨[.st 5],[cb],λa=>zck N a.1⟩
theorem drayageref23xHas_ok(N:Nat):zaM Tryz.prog 121 (drayageref23xHas_sp N):=tg [] [] [] N (.nil) (.nil) (λa=>by kernel_rfl)
def drayageref02xCount_sp(N:Nat):TSp:=⟨[.st 0,.st 0],[ci],λa=>zcB N a.1 a.2.1⟩
theorem drayageref02xCount_ok(N:Nat):zaM Tryz.prog 216 (drayageref02xCount_sp N):=tg [] [(6,⟨[.r 19 cb],[],[],[]⟩),(124,⟨[.r 5 ci,.h 2 0 (.int .i64),.h 2 1 (.int .i64),.h 2 2 (.int .i64),.h 2 3 (.int .i64)],[],[],[]⟩),(496,⟨[.r 27 cb],[],[],[]⟩)] [] N (.cons (zew N)<|.cons (zcH N)<|.cons (zbM N)<|.nil) (.nil) (λa=>by kernel_rfl)
def drayageref07xRoom_sp(N:Nat):TSp:=⟨[.st 11,ci,.st 0],[ci],λa=>drayageref07xRoom N a.1 a.2.1 a.2.2.1⟩
theorem drayageref07xRoom_ok(N:Nat):zaM Tryz.prog 175 (drayageref07xRoom_sp N):=tg [] [(122,⟨[.r 7 ci,.r 8 ci],[],[],[]⟩)] [] N (.cons (drayageref02xCount_ok N)<|.nil) (.nil) (λa=>by kernel_rfl)
def drayageref07xFits_sp(N:Nat):TSp:=⟨[.st 11,ci,ci,.st 0],[cb],λa=>zbm N a.1 a.2.1 a.2.2.1 a.2.2.2.1⟩
theorem zcJ(N:Nat):zaM Tryz.prog 122 (drayageref07xFits_sp N):=tg [] [] [] N (.cons (drayageref07xRoom_ok N)<|.nil) (.nil) (λa=>by kernel_rfl)
def drayageref11xTotal_sp(N:Nat):TSp:=⟨[.c (.sl 6)],[ci],λa=>zdo N a.1⟩
theorem drayageref11xTotal_ok(N:Nat):zaM Tryz.prog 176 (drayageref11xTotal_sp N):=tg [] [(58,⟨[.r 3 ci,.r 4 ci],[],[],[]⟩),(233,⟨[.r 3 ci],[],[],[]⟩)] [] N (.nil) (.nil) (λa=>by kernel_rfl)
def drayageref01xHas_sp(N:Nat):TSp:=⟨[.c (.sl 1),ci],[cb],λa=>zc8 N a.1 a.2.1⟩
theorem drayageref01xHas_ok(N:Nat):zaM Tryz.prog 177 (drayageref01xHas_sp N):=tg [] [(26,⟨[.r 5 ci],[],[],[]⟩)] [] N (.nil) (.nil) (λa=>by kernel_rfl)
def drayageref23xMine_sp(N:Nat):TSp:=⟨[.st 11,.st 5,.c (.sl 6)],[cb],λa=>zdR N a.1 a.2.1 a.2.2.1⟩
theorem drayageref23xMine_ok(N:Nat):zaM Tryz.prog 123 (drayageref23xMine_sp N):=tg [] [(6,⟨[.r 34 cb],[],[],[]⟩),(122,⟨[.r 8 ci],[],[],[]⟩)] [] N (.cons (drayageref01xHas_ok N)<|.cons (drayageref11xRight_ok N)<|.cons (drayageref11xTotal_ok N)<|.nil) (.nil) (λa=>by kernel_rfl)
def drayageref23xjob_sp(N:Nat):TSp:=⟨[.st 11,.st 16,.st 5],[cb],λa=>zep N a.1 a.2.1 a.2.2.1⟩
theorem drayageref23xjob_ok(N:Nat):zaM Tryz.prog 62 (drayageref23xjob_sp N):=tg [] [(15,⟨[.r 7 ci],[],[],[]⟩),(31,⟨[.r 7 ci],[],[],[]⟩),(63,⟨[.r 7 ci],[],[],[]⟩),(510,⟨[.r 83 cb],[],[],[]⟩),(8186,⟨[.r 9 ci],[],[],[]⟩)] [] N (.cons (zbn N)<|.cons (drayageref14xFind_ok N)<|.cons (zau N)<|.cons (zcJ N)<|.cons (drayageref23xHas_ok N)<|.cons (drayageref23xMine_ok N)<|.nil) (.nil) (λa=>by kernel_rfl)
def drayageref23xSound_sp(N:Nat):TSp:=⟨[.st 11,.st 16],[cb],λa=>zco N a.1 a.2.1⟩
theorem drayageref23xSound_ok(N:Nat):zaM Tryz.prog 22 (drayageref23xSound_sp N):=tg [] [(6,⟨[.r 43 cb],[],[],[]⟩),(14,⟨[.r 86 cb],[],[],[]⟩),(122,⟨[.r 5 ci],[],[],[]⟩),(250,⟨[.r 6 ci],[],[],[]⟩),(4004,⟨[.r 138 cb],[],[],[]⟩)] [] N (.cons (drayageref05xRight_ok N)<|.cons (drayageref23xjob_ok N)<|.cons (drayageref23xallocs_ok N)<|.cons (drayageref23xbooks_ok N)<|.cons (drayageref23xUse_ok N)<|.cons (drayageref07xRight_ok N)<|.nil) (.nil) (λa=>by kernel_rfl)
def store_Store_State_o679b_sp(N:Nat):OSp:=⟨.mk [.p (.pt 0 0 27)] [] [.cells [.pt 1 0 2,.pt 2 0 2,xl 0,xl 2,xl 3,xi,xi,xi,xi,xi,xi,xi,xi,xi,xi,xi,xi,xi,xi,xi,xi,xi,xi,xl 8,xl 1,.hd 3,xi],.cells [xi,.hd 4],.cells [xl 0,.mr 5],.row 1,.row 5,.mp 7 true] [] [] [],[.mk [.v (.st 16)] [] [] [] [] [(917526,[.mk [.v (.c (.sl 5))] [] [] [(1000000,0)] [] []]),(917531,[.mk [.v (.c (.sl 7))] [] [] [(1000000,1)] [] []]),(917547,[.mk [.p (.hd 7)] [] [.row 1] [(1000000,2)] [] []])]],λ(a0,a1,a2,_,_,_,_,_,_,_,_,_,_,_,_,_,_,_,_,_,_,a21,a22,a23,a24,a25,a26,_,_)=>zaz N a0 a1 a2 a21 a22 a23 a24 a25 a26⟩
theorem zcf(N:Nat):za4 Tryz.prog 11 (store_Store_State_o679b_sp N):=og (g:=11) N (.cons (za0 N)<|.cons (zbU N)<|.nil) (.cons (zeA N)<|.cons (zce N)<|.cons (zcb N)<|.nil) (by kernel_rfl) (λx=>by kernel_rfl)
def drayageref16xSame_sp(N:Nat):TSp:=⟨[.st 5,.st 5],[cb],λa=>zbI N a.1 a.2.1⟩
theorem drayageref16xSame_ok(N:Nat):zaM Tryz.prog 12 (drayageref16xSame_sp N):=tg [] [(58,⟨[.r 5 ci],[],[],[]⟩)] [] N (.nil) (.nil) (λa=>by kernel_rfl)
def drayageref18xSame_sp(N:Nat):TSp:=⟨[.c (.sl 5),.c (.sl 5)],[cb],λa=>zdI N a.1 a.2.1⟩
theorem drayageref18xSame_ok(N:Nat):zaM Tryz.prog 45 (drayageref18xSame_sp N):=tg [] [(58,⟨[.r 5 ci],[],[],[]⟩)] [] N (.cons (drayageref16xSame_ok N)<|.nil) (.nil) (λa=>by kernel_rfl)
def drayageref11xSame_sp(N:Nat):TSp:=⟨[.c (.sl 6),.c (.sl 6)],[cb],λa=>zdS N a.1 a.2.1⟩
theorem drayageref11xSame_ok(N:Nat):zaM Tryz.prog 97 (drayageref11xSame_sp N):=tg [] [(58,⟨[.r 5 ci],[],[],[]⟩)] [] N (.nil) (.nil) (λa=>by kernel_rfl)
def drayageref14xSame_sp(N:Nat):TSp:=⟨[.c (.sl 7),.c (.sl 7)],[cb],λa=>zdO N a.1 a.2.1⟩
theorem drayageref14xSame_ok(N:Nat):zaM Tryz.prog 46 (drayageref14xSame_sp N):=tg [] [(58,⟨[.r 5 ci],[],[],[]⟩),(932,⟨[.r 54 cb],[],[],[]⟩)] [] N (.cons (drayageref11xSame_ok N)<|.nil) (.nil) (λa=>by kernel_rfl)
def drayageref12xSame_sp(N:Nat):TSp:=⟨[.c (.sl 8),.c (.sl 8)],[cb],λa=>zdP N a.1 a.2.1⟩
theorem drayageref12xSame_ok(N:Nat):zaM Tryz.prog 47 (drayageref12xSame_sp N):=tg [] [(58,⟨[.r 5 ci],[],[],[]⟩)] [] N (.nil) (.nil) (λa=>by kernel_rfl)
def drayageref01xInts_sp(N:Nat):TSp:=⟨[.c (.sl 1),.c (.sl 1)],[cb],λa=>zb3 N a.1 a.2.1⟩
theorem drayageref01xInts_ok(N:Nat):zaM Tryz.prog 48 (drayageref01xInts_sp N):=tg [] [(58,⟨[.r 5 ci],[],[],[]⟩)] [] N (.nil) (.nil) (λa=>by kernel_rfl)
def drayageref23xSame_sp(N:Nat):TSp:=⟨[.st 16,.st 16],[cb],λa=>zbl N a.1 a.2.1⟩
theorem drayageref23xSame_ok(N:Nat):zaM Tryz.prog 14 (drayageref23xSame_sp N):=tg [] [] [] N (.cons (drayageref18xSame_ok N)<|.cons (drayageref14xSame_ok N)<|.cons (drayageref12xSame_ok N)<|.cons (drayageref01xInts_ok N)<|.nil) (.nil) (λa=>by kernel_rfl)
def drayagelaw23xOf_o8124xsp(N:Nat):OSp:=⟨.mk [.v (.st 11),.v (.st 16)] [] [] [] [] [],[.mk [.p (.k (.c (.lit (.pointer none)))),.v cb] [] [] [] [] [(393227,[.mk [.p (.k (.c (.lit (.pointer none)))),.v ci] [] [] [(1000000,0)] [] [],.mk [.p (.pt 2 0 27),.p (.k (.c (.lit (.int .i64 0))))] [] [.cells [.pt 3 0 2,.pt 4 0 2,xl 0,xl 2,xl 3,xi,xi,xi,xi,xi,xi,xi,xi,xi,xi,xi,xi,xi,xi,xi,xi,xi,xi,xl 8,xl 1,.hd 5,xi],.cells [xi,.hd 6],.cells [xl 0,.mr 7],.row 1,.row 5,.mp 7 true] [] [] []]),(1966113,[.mk [.v (.st 16)] [] [] [(1000000,1)] [] []])],.mk [.p (.pt 0 0 27),.v cb] [] [.cells [.pt 1 0 2,.pt 2 0 2,xl 0,xl 2,xl 3,xi,xi,xi,xi,xi,xi,xi,xi,xi,xi,xi,xi,xi,xi,xi,xi,xi,xi,xl 8,xl 1,.hd 3,xi],.cells [xi,.hd 4],.cells [xl 0,.mr 5],.row 1,.row 5,.mp 7 true] [] [] []],λ(a0,a1)=>zbj N a0 a1⟩
theorem drayagelaw23xOf_o8124xok(N:Nat):za4 Tryz.prog 7 (drayagelaw23xOf_o8124xsp N):=og (g:=7) N (.cons (drayageref23xSound_ok N)<|.cons (drayageref23xSame_ok N)<|.nil) (.cons (store_Of_ob442xok N)<|.cons (zcf N)<|.nil) (by kernel_rfl) (λx=>by kernel_rfl)
def chain_Do_ocf85xsp(N:Nat):OSp:=⟨.mk [.p (.k (.c (.lit (.pointer none)))),.v (.c (.sl 10))] [] [] [] [] [],[.mk [.v (.c (.sl 15))] [] [] [] [] [(6553615,[.mk [] [] [] [(1000002,0)] [] []]),(6553616,[.mk [.v (.c (.sl 15))] [] [] [(10,15),(25,15)] [(58,⟨[.r 13 ci,.w 1 15],[(5,1)],[],[]⟩)] [(244908055,[.mk [.v ci] [] [] [] [] []])]])]],λa0=>zei N a0⟩
theorem chain_Do_ocf85xok(N:Nat):za4 Tryz.prog 8 (chain_Do_ocf85xsp N):=og (g:=8) N (.cons (zcl N)<|.nil) (.nil) (by kernel_rfl) (λx=>by kernel_rfl)
def store_Store_Spec_obf7fxx_sp(N:Nat):OSp:=⟨.mk [.p (.pt 0 0 27)] [] [.cells [.pt 1 0 2,.pt 2 0 2,xl 0,xl 2,xl 3,xi,xi,xi,xi,xi,xi,xi,xi,xi,xi,xi,xi,xi,xi,xi,xi,xi,xi,xl 8,xl 1,.hd 3,xi],.cells [xi,.hd 4],.cells [xl 0,.mr 5],.row 1,.row 5,.mp 7 true] [] [] [],[.mk [.v (.st 11)] [] [] [] [] []],λ(_,_,_,a3,a4,a5,a6,a7,a8,a9,a10,a11,a12,a13,a14,a15,a16,a17,a18,a19,a20,_,_,_,_,_,_,_,_)=>zaK N a3 a4 a5 a6 a7 a8 a9 a10 a11 a12 a13 a14 a15 a16 a17 a18 a19 a20⟩
theorem store_Store_Spec_obf7fxx_ok(N:Nat):za4 Tryz.prog 26 (store_Store_Spec_obf7fxx_sp N):=og (g:=26) N (.cons (zdK N)<|.nil) (.nil) (by kernel_rfl) (λx=>by kernel_rfl)
def store_Store_Job_obbc5x_sp(N:Nat):OSp:=⟨.mk [.p (.pt 0 0 27),.v ci] [] [.cells [.pt 1 0 2,.pt 2 0 2,xl 0,xl 2,xl 3,xi,xi,xi,xi,xi,xi,xi,xi,xi,xi,xi,xi,xi,xi,xi,xi,xi,xi,xl 8,xl 1,.hd 3,xi],.cells [xi,.hd 4],.cells [xl 0,.mr 5],.row 1,.row 5,.mp 7 true] [] [] [],[.mk [.v (.st 5),.v cb] [] [] [] [] [(917518,[.mk [.v (.st 5),.v cb] [] [] [(1000000,0)] [] []])]],λ(_,a1,_,a3,_,_,_,_,_,_,_,_,_,_,_,_,_,_,_,_,_,_,_,_,_,_,_,_,_,_)=>zaF N a1 a3⟩
theorem zeg(N:Nat):za4 Tryz.prog 27 (store_Store_Job_obbc5x_sp N):=og (g:=27) N (.nil) (.cons (za3 N)<|.nil) (by kernel_rfl) (λx=>by kernel_rfl)
def store_Store_stamp_od610x_sp(N:Nat):OSp:=⟨.mk [.p (.pt 0 0 27),.v ci] [] [.cells [.pt 1 0 2,.pt 2 0 2,xl 0,xl 2,xl 3,xi,xi,xi,xi,xi,xi,xi,xi,xi,xi,xi,xi,xi,xi,xi,xi,xi,xi,xl 8,xl 1,.hd 3,xi],.cells [xi,.hd 4],.cells [xl 0,.mr 5],.row 1,.row 5,.mp 7 true] [] [] [],[.mk [] [.w 3 1,.h 0 25 (.hd 3)] [] [] [] []],λ(a0,_,_,a3,_,_,_,_,_,_,_,_,_,_,_,_,_,_,_,_,_,_,_,_,_,_,_,_,_,_)=>zaQ N a0 a3⟩
theorem store_Store_stamp_od610x_ok(N:Nat):za4 Tryz.prog 55 (store_Store_stamp_od610x_sp N):=og (g:=55) N (.cons (store_after_ok N)<|.nil) (.nil) (by kernel_rfl) (λx=>by kernel_rfl)
def store_Store_change_o816ex_sp(N:Nat):OSp:=⟨.mk [.p (.pt 0 0 27),.v (.st 5),.v (.st 5)] [] [.cells [.pt 1 0 2,.pt 2 0 2,xl 0,xl 2,xl 3,xi,xi,xi,xi,xi,xi,xi,xi,xi,xi,xi,xi,xi,xi,xi,xi,xi,xi,xl 8,xl 1,.hd 3,xi],.cells [xi,.hd 4],.cells [xl 0,.mr 5],.row 1,.row 5,.mp 7 true] [] [] [],[.mk [.v ci] [.h 1 1 (.hd 4),.w 4 5,.h 0 25 (.hd 3),.w 3 1] [] [] [(15,⟨[.w 3 1],[],[],[(0,25,3)]⟩)] [(786445,[.mk [.v ci] [.w 4 5,.h 1 1 (.hd 4)] [] [(1000000,0)] [] []]),(917524,[.mk [] [.w 3 1,.h 0 25 (.hd 3)] [] [(1000000,1)] [] []]),(7995421,[.mk [] [.w 3 1,.h 0 25 (.hd 3)] [] [(1000000,1)] [] []])]],λ(a0,a1,_,a3,a4,_,_,_,_,_,_,_,_,_,_,_,_,_,_,_,_,_,_,_,_,_,_,_,_,_,_)=>za1 N a0 a1 a3 a4⟩
theorem zdq(N:Nat):za4 Tryz.prog 127 (store_Store_change_o816ex_sp N):=og (g:=127) N (.nil) (.cons (zeB N)<|.cons (store_Store_stamp_od610x_ok N)<|.nil) (by kernel_rfl) (λx=>by kernel_rfl)
def store_Store_Edit_o0612x_sp(N:Nat):OSp:=⟨.mk [.p (.pt 0 0 27),.v (.st 5)] [] [.cells [.pt 1 0 2,.pt 2 0 2,xl 0,xl 2,xl 3,xi,xi,xi,xi,xi,xi,xi,xi,xi,xi,xi,xi,xi,xi,xi,xi,xi,xi,xl 8,xl 1,.hd 3,xi],.cells [xi,.hd 4],.cells [xl 0,.mr 5],.row 1,.row 5,.mp 7 true] [] [] [],[.mk [.v ci] [.h 0 25 (.hd 3),.h 1 1 (.hd 4),.w 3 1,.w 4 5] [] [] [(126,⟨[.r 33 cb],[],[],[]⟩)] [(917520,[.mk [.v (.st 5),.v cb] [] [] [(1000000,0)] [] []]),(16646181,[.mk [.v ci] [.h 1 1 (.hd 4),.w 4 5,.h 0 25 (.hd 3),.w 3 1] [] [(1000000,1)] [] []])]],λ(a0,a1,_,a3,_,_,_,_,_,_,_,_,_,_,_,_,_,_,_,_,_,_,_,_,_,_,_,_,_,_)=>zbd N a0 a1 a3⟩
theorem zdT(N:Nat):za4 Tryz.prog 73 (store_Store_Edit_o0612x_sp N):=og (g:=73) N (.cons (zcz N)<|.cons (zcZ N)<|.nil) (.cons (za3 N)<|.cons (zdq N)<|.nil) (by kernel_rfl) (λx=>by kernel_rfl)
def store_Store_Step_o6975x_sp(N:Nat):OSp:=⟨.mk [.p (.pt 0 0 27),.v ci,.v ci,.v cb] [] [.cells [.pt 1 0 2,.pt 2 0 2,xl 0,xl 2,xl 3,xi,xi,xi,xi,xi,xi,xi,xi,xi,xi,xi,xi,xi,xi,xi,xi,xi,xi,xl 8,xl 1,.hd 3,xi],.cells [xi,.hd 4],.cells [xl 0,.mr 5],.row 1,.row 5,.mp 7 true] [] [] [],[.mk [.v ci] [.h 0 25 (.hd 3),.h 1 1 (.hd 4),.w 3 1,.w 4 5,.h 0 26 (xi),.h 2 0 (xl 0),.m 5 7 true] [] [] [(511,⟨[.h 0 26 (.int .i64),.h 2 0 (.sl 0),.m 5 7 true],[],[],[]⟩),(1022,⟨[.r 58 cb],[],[],[]⟩)] [(917526,[.mk [.v (.st 5),.v cb] [] [] [(1000000,0)] [] []]),(66846766,[.mk [.v ci] [.h 1 1 (.hd 4),.w 4 5,.h 0 25 (.hd 3),.w 3 1] [] [(1000000,1)] [] []]),(536084544,[.mk [.v ci] [.h 2 0 (xl 0),.m 5 7 true] [] [(1000000,2)] [] []])]],λ(a0,a1,a2,a3,a4,a5,_,_,_,_,_,_,_,_,_,_,_,_,_,_,_,_,_,_,a24,_,_,_,_,a29,_,a31)=>zaX N a0 a1 a2 a3 a4 a5 a24 a29 a31⟩
theorem zdU(N:Nat):za4 Tryz.prog 74 (store_Store_Step_o6975x_sp N):=og (g:=74) N (.cons (job_Step_ok N)<|.cons (store_after_ok N)<|.cons (life_Has_ok N)<|.nil) (.cons (za3 N)<|.cons (zdq N)<|.cons (zdE N)<|.nil) (by kernel_rfl) (λx=>by kernel_rfl)
def core_edited_o8c70x_sp(N:Nat):OSp:=⟨.mk [.p (.pt 0 0 27),.v (.st 5)] [] [.cells [.pt 1 0 2,.pt 2 0 2,xl 0,xl 2,xl 3,xi,xi,xi,xi,xi,xi,xi,xi,xi,xi,xi,xi,xi,xi,xi,xi,xi,xi,xl 8,xl 1,.hd 3,xi],.cells [xi,.hd 4],.cells [xl 0,.mr 5],.row 1,.row 5,.mp 7 true] [] [] [],[.mk [.v ci] [.h 0 25 (.hd 3),.h 1 1 (.hd 4),.w 3 1,.w 4 5,.h 0 26 (xi),.h 2 0 (xl 0),.m 5 7 true] [] [] [] [(3932175,[.mk [.v ci] [.h 0 25 (.hd 3),.h 1 1 (.hd 4),.w 3 1,.w 4 5] [] [(1000000,0)] [] []]),(4063254,[.mk [.v ci] [.h 0 25 (.hd 3),.h 1 1 (.hd 4),.w 3 1,.w 4 5,.h 0 26 (xi),.h 2 0 (xl 0),.m 5 7 true] [] [(1000000,1)] [] []])]],λ(a0,a1,a2,a3,_,_,_,_,_,_,_,_,_,_,_,_,_,_,_,_,_,_,a22,_,_,_,_,a27,_,a29)=>zdQ N a0 a1 a2 a3 a22 a27 a29⟩
theorem core_edited_o8c70x_ok(N:Nat):za4 Tryz.prog 75 (core_edited_o8c70x_sp N):=og (g:=75) N (.nil) (.cons (zdT N)<|.cons (zdU N)<|.nil) (by kernel_rfl) (λx=>by kernel_rfl)
def core_Set_oe6f8x_sp(N:Nat):OSp:=⟨.mk [.p (.pt 0 0 27),.v (.st 5),.v (.st 5)] [] [.cells [.pt 1 0 2,.pt 2 0 2,xl 0,xl 2,xl 3,xi,xi,xi,xi,xi,xi,xi,xi,xi,xi,xi,xi,xi,xi,xi,xi,xi,xi,xl 8,xl 1,.hd 3,xi],.cells [xi,.hd 4],.cells [xl 0,.mr 5],.row 1,.row 5,.mp 7 true] [] [] [],[.mk [.v ci] [.h 0 25 (.hd 3),.h 1 1 (.hd 4),.w 3 1,.w 4 5,.h 0 26 (xi),.h 2 0 (xl 0),.m 5 7 true] [] [] [] [(917519,[.mk [.v (.st 5),.v cb] [] [] [(1000000,0)] [] []]),(4063282,[.mk [.v ci] [.h 0 25 (.hd 3),.h 1 1 (.hd 4),.w 3 1,.w 4 5,.h 0 26 (xi),.h 2 0 (xl 0),.m 5 7 true] [] [(1000000,3)] [] []]),(2046558244,[.mk [.v ci] [.h 0 25 (.hd 3),.h 1 1 (.hd 4),.w 3 1,.w 4 5] [] [(1000000,1)] [] []]),(8187019311,[.mk [.v ci] [.h 0 25 (.hd 3),.h 1 1 (.hd 4),.w 3 1,.w 4 5,.h 0 26 (xi),.h 2 0 (xl 0),.m 5 7 true] [] [(1000000,2)] [] []])]],λ(a0,a1,a2,a3,a4,_,_,_,_,_,_,_,_,_,_,_,_,_,_,_,_,_,_,a23,_,_,_,_,a28,_,a30)=>zcD N a0 a1 a2 a3 a4 a23 a28 a30⟩
theorem core_Set_oe6f8x_ok(N:Nat):za4 Tryz.prog 30 (core_Set_oe6f8x_sp N):=og (g:=30) N (.cons (job_Same_ok N)<|.cons (zcZ N)<|.nil) (.cons (zeg N)<|.cons (zdT N)<|.cons (zdU N)<|.cons (core_edited_o8c70x_ok N)<|.nil) (by kernel_rfl) (λx=>by kernel_rfl)
def chain_Do_o5825xsp(N:Nat):OSp:=⟨.mk [.p (.pt 0 0 27),.v (.c (.sl 10))] [] [.cells [.pt 1 0 2,.pt 2 0 2,xl 0,xl 2,xl 3,xi,xi,xi,xi,xi,xi,xi,xi,xi,xi,xi,xi,xi,xi,xi,xi,xi,xi,xl 8,xl 1,.hd 3,xi],.cells [xi,.hd 4],.cells [xl 0,.mr 5],.row 1,.row 5,.mp 7 true] [] [] [],[.mk [.v (.c (.sl 15))] [.h 0 25 (.hd 3),.h 0 26 (xi),.h 1 1 (.hd 4),.h 2 0 (xl 0),.w 3 1,.w 4 5,.m 5 7 true] [] [] [] [(917533,[.mk [.v (.st 11)] [] [] [(1000000,0)] [] []]),(1966117,[.mk [.v (.st 5),.v cb] [] [] [(1000000,1)] [] []]),(8257585,[.mk [.v (.st 16)] [] [] [(1000000,2)] [] []]),(27000854,[.mk [] [] [] [(1000002,0)] [] []]),(27000855,[.mk [.v (.c (.sl 15))] [] [] [(10,15),(25,15)] [(58,⟨[.r 13 ci,.w 7 15],[(5,7)],[],[]⟩)] [(244908055,[.mk [.v ci] [] [] [] [] []])]]),(32768044,[.mk [.v (.c (.sl 15))] [] [] [(10,15),(25,15)] [(58,⟨[.r 13 ci,.w 8 15],[(5,8)],[],[]⟩)] [(244908055,[.mk [.v ci] [] [] [] [] []])]]),(33292346,[.mk [.v ci] [.h 0 25 (.hd 3),.h 1 1 (.hd 4),.w 3 1,.w 4 5,.h 0 26 (xi),.h 2 0 (xl 0),.m 5 7 true] [] [(1000000,3)] [] []]),(267124799,[.mk [] [] [] [(1000002,0)] [] []]),(267124800,[.mk [.v (.c (.sl 15))] [] [] [(10,15),(25,15)] [(58,⟨[.r 13 ci,.w 10 15],[(5,10)],[],[]⟩)] [(244908055,[.mk [.v ci] [] [] [] [] []])]])]],λ(a0,a1,a2,a3,a4,a5,a6,a7,a8,a9,a10,a11,a12,a13,a14,a15,a16,a17,a18,a19,a20,a21,a22,a23,a24,a25,a26,a27,_,a29)=>zcC N a0 a1 a2 a3 a4 a5 a6 a7 a8 a9 a10 a11 a12 a13 a14 a15 a16 a17 a18 a19 a20 a21 a22 a23 a24 a25 a26 a27 a29⟩
theorem chain_Do_o5825xok(N:Nat):za4 Tryz.prog 8 (chain_Do_o5825xsp N):=og (g:=8) N (.cons (chain_alike_ok N)<|.cons (zcl N)<|.cons (chain_Fold_ok N)<|.nil) (.cons (store_Store_Spec_obf7fxx_ok N)<|.cons (zeg N)<|.cons (zcf N)<|.cons (core_Set_oe6f8x_ok N)<|.nil) (by kernel_rfl) (λx=>by kernel_rfl)
def drayageref36xOne_sp(N:Nat):TSp:=⟨[.c (.sl 10)],[cb],λa=>zcm N a.1⟩
theorem drayageref36xOne_ok(N:Nat):zaM Tryz.prog 31 (drayageref36xOne_sp N):=tg [] [(26,⟨[.r 3 ci],[],[],[]⟩),(420,⟨[.r 39 cb],[],[],[]⟩)] [] N (.nil) (.nil) (λa=>by kernel_rfl)
def drayageref07xAllowed_sp(N:Nat):TSp:=⟨[.st 11,ci,ci],[cb],λa=>zd3 N a.1 a.2.1 a.2.2.1⟩
theorem drayageref07xAllowed_ok(N:Nat):zaM Tryz.prog 182 (drayageref07xAllowed_sp N):=tg [] [] [] N (.cons (drayageref01xHas_ok N)<|.nil) (.nil) (λa=>by kernel_rfl)
def drayageref24xDemand_sp(N:Nat):TSp:=⟨[.st 17],[ci],λa=>zb7 N a.1⟩
theorem drayageref24xDemand_ok(N:Nat):zaM Tryz.prog 183 (drayageref24xDemand_sp N):=tg [] [(6,⟨[.r 32 cb],[],[],[]⟩)] [] N (.cons (drayageref11xTimes_ok N)<|.cons (zbM N)<|.cons (zcH N)<|.nil) (.nil) (λa=>by kernel_rfl)
def drayageref19xCount_sp(N:Nat):TSp:=⟨[.c (.sl 5),ci,.st 20,ci],[ci],λa=>drayageref19xCount N a.1 a.2.1 a.2.2.1 a.2.2.2.1⟩
theorem drayageref19xCount_ok(N:Nat):zaM Tryz.prog 218 (drayageref19xCount_sp N):=tg [] [(58,⟨[.r 9 ci,.r 10 ci],[],[],[]⟩),(233,⟨[.r 9 ci],[],[],[]⟩),(1865,⟨[.r 49 cb],[],[],[]⟩)] [] N (.nil) (.nil) (λa=>by kernel_rfl)
def drayageref19xRoom_sp(N:Nat):TSp:=⟨[.st 11,.c (.sl 5),ci,ci],[cb],λa=>zdM N a.1 a.2.1 a.2.2.1 a.2.2.2.1⟩
theorem zd1(N:Nat):zaM Tryz.prog 184 (drayageref19xRoom_sp N):=tg [] [] [] N (.cons (drayageref19xCount_ok N)<|.nil) (.nil) (λa=>by kernel_rfl)
end Go.Abs
end
end
section
set_option maxRecDepth 100000
noncomputable section
namespace Go.Abs
open Go.Proofs
def drayageref24xCheck_sp(N:Nat):TSp:=⟨[.st 11,.st 16,.st 10],[ci],λa=>drayageref24xCheck N a.1 a.2.1 a.2.2.1⟩
theorem drayageref24xCheck_ok(N:Nat):zaM Tryz.prog 130 (drayageref24xCheck_sp N):=tg [] [(4090,⟨[.r 9 ci],[],[],[]⟩)] [] N (.cons (drayageref07xAllowed_ok N)<|.cons (drayageref24xDemand_ok N)<|.cons (zau N)<|.cons (zcJ N)<|.cons (zd1 N)<|.nil) (.nil) (λa=>by kernel_rfl)
def drayageref16xNew_sp(N:Nat):TSp:=⟨[ci,ci,ci,.st 17],[.st 5],λa=>drayageref16xNew N a.1 a.2.1 a.2.2.1 a.2.2.2.1⟩
theorem drayageref16xNew_ok(N:Nat):zaM Tryz.prog 131 (drayageref16xNew_sp N):=tg [(23,4)] [] [] N (.nil) (.nil) (λa=>by kernel_rfl)
def drayageref18xPut_sp(N:Nat):TSp:=⟨[.c (.sl 5),ci,.st 5],[.c (.sl 5),ci],λa=>drayageref18xPut N a.1 a.2.1 a.2.2.1⟩
theorem drayageref18xPut_ok(N:Nat):zaM Tryz.prog 185 (drayageref18xPut_sp N):=tg [(48,5)] [(252,⟨[.r 8 ci],[],[],[]⟩),(1008,⟨[.r 38 cb],[],[],[]⟩)] [] N (.cons (zbn N)<|.cons (zau N)<|.nil) (.nil) (λa=>by kernel_rfl)
def drayageref23xCopy_o6281xsp(N:Nat):OSp:=⟨.mk [.v (.st 16)] [] [] [] [] [],[.mk [.ag [xi,xi,xi,.hd 0,.hd 1,.hd 2,.hd 3,.hd 4,xi]] [] [.row 5,.row 7,.row 8,.row 1,.row 1] [(5,5),(10,7),(15,8),(20,1),(25,1)] [] []],λa0=>zbs N a0⟩
theorem zcj(N:Nat):za4 Tryz.prog 190 (drayageref23xCopy_o6281xsp N):=og (g:=190) N (.nil) (.nil) (by kernel_rfl) (λx=>by kernel_rfl)
def drayageref23xon_sp(N:Nat):TSp:=⟨[ci],[ci],λa=>zcK N a.1⟩
theorem drayageref23xon_ok(N:Nat):zaM Tryz.prog 196 (drayageref23xon_sp N):=tg [] [] [] N (.nil) (.nil) (λa=>by kernel_rfl)
def drayageref23xstamp_sp(N:Nat):TSp:=⟨[.st 16,ci],[.st 16],λa=>drayageref23xstamp N a.1 a.2.1⟩
theorem drayageref23xstamp_ok(N:Nat):zaM Tryz.prog 186 (drayageref23xstamp_sp N):=tg [] [(7,⟨[.w 6 1],[],[],[(7,7,6)]⟩)] [(393223,[.mk [.ag [xi,xi,xi,.hd 2,.hd 3,.hd 4,.hd 5,.hd 6,xi]] [] [.row 5,.row 7,.row 8,.row 1,.row 1] [(1000000,0)] [] []])] N (.cons (drayageref23xon_ok N)<|.nil) (.cons (zcj N)<|.nil) (λa=>by kernel_rfl)
def drayageref23xPut_sp(N:Nat):TSp:=⟨[.st 11,.st 16,.st 5],[.st 16,ci],λa=>drayageref23xPut N a.1 a.2.1 a.2.2.1⟩
theorem drayageref23xPut_ok(N:Nat):zaM Tryz.prog 132 (drayageref23xPut_sp N):=tg [] [] [] N (.cons (zbn N)<|.cons (drayageref18xPut_ok N)<|.cons (drayageref23xstamp_ok N)<|.nil) (.nil) (λa=>by kernel_rfl)
def drayageref24xDo_sp(N:Nat):TSp:=⟨[.st 11,.st 16,.st 10],[.st 16,.st 15],λa=>drayageref24xDo N a.1 a.2.1 a.2.2.1⟩
theorem drayageref24xDo_ok(N:Nat):zaM Tryz.prog 76 (drayageref24xDo_sp N):=tg [(60,1)] [(506,⟨[.r 11 ci,.h 1 0 (.int .i64),.h 1 1 (.int .i64),.h 1 2 (.int .i64),.h 1 3 (.sl 5),.h 1 4 (.sl 7),.h 1 5 (.sl 8),.h 1 6 (.sl 1),.h 1 7 (.sl 1),.h 1 8 (.int .i64)],[],[],[]⟩),(16201,⟨[.h 6 17 (.int .i64)],[],[],[]⟩)] [] N (.cons (drayageref24xCheck_ok N)<|.cons (drayageref16xNew_ok N)<|.cons (drayageref23xPut_ok N)<|.nil) (.nil) (λa=>by kernel_rfl)
def drayageref25xWhat_sp(N:Nat):TSp:=⟨[ci],[ci],λa=>zcS N a.1⟩
theorem drayageref25xWhat_ok(N:Nat):zaM Tryz.prog 189 (drayageref25xWhat_sp N):=tg [] [] [] N (.nil) (.nil) (λa=>by kernel_rfl)
def drayageref15xNext_sp(N:Nat):TSp:=⟨[ci,ci],[ci],λa=>zb4 N a.1 a.2.1⟩
theorem zd0(N:Nat):zaM Tryz.prog 219 (drayageref15xNext_sp N):=tg [] [(3,⟨[],[],[],[]⟩)] [] N (.nil) (.nil) (λa=>by kernel_rfl)
def drayageref25xCheck_sp(N:Nat):TSp:=⟨[.st 11,.st 5,ci,.st 17],[ci],λa=>zdn N a.1 a.2.1 a.2.2.1 a.2.2.2.1⟩
theorem drayageref25xCheck_ok(N:Nat):zaM Tryz.prog 187 (drayageref25xCheck_sp N):=tg [] [(6,⟨[.r 37 cb],[],[],[]⟩),(62,⟨[.r 77 cb],[],[],[]⟩),(63,⟨[],[],[],[]⟩)] [] N (.cons (drayageref24xDemand_ok N)<|.cons (zcJ N)<|.cons (drayageref25xWhat_ok N)<|.cons (zd0 N)<|.cons (drayageref07xRight_ok N)<|.cons (zbn N)<|.nil) (.nil) (λa=>by kernel_rfl)
def drayageref16xStep_sp(N:Nat):TSp:=⟨[.st 5,ci,ci,cb],[.st 5],λa=>zcP N a.1 a.2.1 a.2.2.1 a.2.2.2.1⟩
theorem drayageref16xStep_ok(N:Nat):zaM Tryz.prog 188 (drayageref16xStep_sp N):=tg [] [(31,⟨[.h 0 15 (.int .i64)],[],[],[]⟩),(63,⟨[.h 0 15 (.int .i64)],[],[],[]⟩),(127,⟨[.h 0 11 (.bool)],[],[],[]⟩),(255,⟨[.h 0 11 (.bool),.h 0 12 (.bool)],[],[],[]⟩),(511,⟨[.h 0 11 (.bool),.h 0 12 (.bool)],[],[],[]⟩),(1023,⟨[.h 0 11 (.bool)],[],[],[]⟩),(2047,⟨[.h 0 16 (.int .i64)],[],[],[]⟩)] [] N (.cons (zd0 N)<|.nil) (.nil) (λa=>by kernel_rfl)
def drayageref25xDo_sp(N:Nat):TSp:=⟨[.st 11,.st 5,ci,.st 10],[.st 5,.st 15],λa=>drayageref25xDo N a.1 a.2.1 a.2.2.1 a.2.2.2.1⟩
theorem drayageref25xDo_ok(N:Nat):zaM Tryz.prog 133 (drayageref25xDo_sp N):=tg [] [(15,⟨[.r 11 ci],[],[],[]⟩),(127,⟨[.h 6 0 (.int .i64),.h 6 1 (.int .i64),.h 6 2 (.int .i64),.h 6 3 (.int .i64),.h 6 4 (.int .i64),.h 6 5 (.int .i64),.h 6 6 (.int .i64),.h 6 7 (.int .i64),.h 6 8 (.int .i64),.h 6 9 (.sl 4),.h 6 10 (.int .i64),.h 6 11 (.bool),.h 6 12 (.bool),.h 6 13 (.int .i64),.h 6 14 (.int .i64),.h 6 15 (.int .i64),.h 6 16 (.int .i64),.h 6 17 (.int .i64)],[],[],[]⟩)] [] N (.cons (drayageref25xWhat_ok N)<|.cons (drayageref16xStep_ok N)<|.cons (drayageref25xCheck_ok N)<|.nil) (.nil) (λa=>by kernel_rfl)
def drayageref23xCopy_o20a2xsp(N:Nat):OSp:=⟨.mk [.ag [xi,xi,xi,.hd 0,.hd 1,.hd 2,.hd 3,.hd 4,xi]] [] [.row 5,.row 7,.row 8,.row 1,.row 1] [] [] [],[.mk [.ag [xi,xi,xi,.hd 5,.hd 6,.hd 7,.hd 8,.hd 9,xi]] [] [.row 5,.row 7,.row 8,.row 1,.row 1] [(5,5),(10,7),(15,8),(20,1),(25,1)] [] []],λ(a0,a1,a2,a3,a4,a5,a6,a7,a8)=>zcY N a0 a1 a2 a3 a4 a5 a6 a7 a8⟩
theorem drayageref23xCopy_o20a2xok(N:Nat):za4 Tryz.prog 190 (drayageref23xCopy_o20a2xsp N):=og (g:=190) N (.nil) (.nil) (by kernel_rfl) (λx=>by kernel_rfl)
def drayageref23xstamp_of539xsp(N:Nat):OSp:=⟨.mk [.ag [xi,xi,xi,.hd 0,.hd 1,.hd 2,.hd 3,.hd 4,xi],.v ci] [] [.row 5,.row 7,.row 8,.row 1,.row 1] [] [] [],[.mk [.ag [xi,xi,xi,.hd 5,.hd 6,.hd 7,.hd 8,.hd 9,xi]] [] [.row 5,.row 7,.row 8,.row 1,.row 1] [] [(7,⟨[.w 11 1],[],[],[(12,7,11)]⟩)] [(393223,[.mk [.ag [xi,xi,xi,.hd 7,.hd 8,.hd 9,.hd 10,.hd 11,xi]] [] [.row 5,.row 7,.row 8,.row 1,.row 1] [(1000000,0)] [] []])]],λ(a0,a1,a2,a3,a4,a5,a6,a7,a8,a9)=>zbk N a0 a1 a2 a3 a4 a5 a6 a7 a8 a9⟩
theorem drayageref23xstamp_of539xok(N:Nat):za4 Tryz.prog 186 (drayageref23xstamp_of539xsp N):=og (g:=186) N (.cons (drayageref23xon_ok N)<|.nil) (.cons (drayageref23xCopy_o20a2xok N)<|.nil) (by kernel_rfl) (λx=>by kernel_rfl)
def drayageref23xChange_sp(N:Nat):TSp:=⟨[.st 16,.st 5],[.st 16],λa=>zbH N a.1 a.2.1⟩
theorem zdj(N:Nat):zaM Tryz.prog 134 (drayageref23xChange_sp N):=tg [] [] [(393225,[.mk [.ag [xi,xi,xi,.hd 3,.hd 4,.hd 5,.hd 6,.hd 7,xi]] [] [.row 5,.row 7,.row 8,.row 1,.row 1] [(1000000,0)] [] []]),(8257564,[.mk [.ag [xi,xi,xi,.hd 10,.hd 11,.hd 12,.hd 13,.hd 14,xi]] [] [.row 5,.row 7,.row 8,.row 1,.row 1] [(1000000,1)] [] []]),(66715685,[.mk [.ag [xi,xi,xi,.hd 15,.hd 16,.hd 17,.hd 18,.hd 19,xi]] [] [.row 5,.row 7,.row 8,.row 1,.row 1] [(1000000,1)] [] []])] N (.cons (zau N)<|.nil) (.cons (zcj N)<|.cons (drayageref23xstamp_of539xok N)<|.nil) (λa=>by kernel_rfl)
def drayageref29xone_sp(N:Nat):TSp:=⟨[.st 11,.st 16,.st 10],[.st 16,.st 15],λa=>zej N a.1 a.2.1 a.2.2.1⟩
theorem drayageref29xone_ok(N:Nat):zaM Tryz.prog 77 (drayageref29xone_sp N):=tg [] [] [] N (.cons (zau N)<|.cons (drayageref25xDo_ok N)<|.cons (zdj N)<|.nil) (.nil) (λa=>by kernel_rfl)
def drayageref26xmove_sp(N:Nat):TSp:=⟨[.st 11,.st 16,.st 5,ci],[ci],λa=>drayageref26xmove N a.1 a.2.1 a.2.2.1 a.2.2.2.1⟩
theorem drayageref26xmove_ok(N:Nat):zaM Tryz.prog 191 (drayageref26xmove_sp N):=tg [] [(62,⟨[.r 43 cb],[],[],[]⟩)] [] N (.cons (drayageref07xAllowed_ok N)<|.cons (zcJ N)<|.cons (zd1 N)<|.nil) (.nil) (λa=>by kernel_rfl)
def drayageref26xrequeue_sp(N:Nat):TSp:=⟨[.st 11,.st 16,.st 5],[ci],λa=>drayageref26xrequeue N a.1 a.2.1 a.2.2.1⟩
theorem drayageref26xrequeue_ok(N:Nat):zaM Tryz.prog 192 (drayageref26xrequeue_sp N):=tg [] [] [] N (.cons (zd1 N)<|.nil) (.nil) (λa=>by kernel_rfl)
def drayageref26xCheck_sp(N:Nat):TSp:=⟨[.st 11,.st 16,.st 10],[ci],λa=>drayageref26xCheck N a.1 a.2.1 a.2.2.1⟩
theorem drayageref26xCheck_ok(N:Nat):zaM Tryz.prog 135 (drayageref26xCheck_sp N):=tg [] [(1023,⟨[.r 10 ci],[],[],[]⟩)] [] N (.cons (zau N)<|.cons (drayageref26xmove_ok N)<|.cons (drayageref26xrequeue_ok N)<|.nil) (.nil) (λa=>by kernel_rfl)
def drayageref23xWaits_sp(N:Nat):TSp:=⟨[.st 5],[cb],λa=>drayageref23xWaits N a.1⟩
theorem drayageref23xWaits_ok(N:Nat):zaM Tryz.prog 193 (drayageref23xWaits_sp N):=tg [] [] [] N (.nil) (.nil) (λa=>by kernel_rfl)
def drayageref23xEdit_sp(N:Nat):TSp:=⟨[.st 16,.st 5],[.st 16,ci],λa=>drayageref23xEdit N a.1 a.2.1⟩
theorem drayageref23xEdit_ok(N:Nat):zaM Tryz.prog 136 (drayageref23xEdit_sp N):=tg [] [(62,⟨[.r 30 cb],[],[],[]⟩)] [] N (.cons (zau N)<|.cons (zbn N)<|.cons (zdj N)<|.cons (drayageref23xWaits_ok N)<|.nil) (.nil) (λa=>by kernel_rfl)
def drayageref23xMay_sp(N:Nat):TSp:=⟨[.st 5,ci,ci],[ci],λa=>drayageref23xMay N a.1 a.2.1 a.2.2.1⟩
theorem drayageref23xMay_ok(N:Nat):zaM Tryz.prog 194 (drayageref23xMay_sp N):=tg [] [] [] N (.cons (zbn N)<|.cons (zd0 N)<|.nil) (.nil) (λa=>by kernel_rfl)
def drayageref14xGive_sp(N:Nat):TSp:=⟨[.c (.sl 7),ci],[.c (.sl 7),ci],λa=>drayageref14xGive N a.1 a.2.1⟩
theorem drayageref14xGive_ok(N:Nat):zaM Tryz.prog 195 (drayageref14xGive_sp N):=tg [] [] [] N (.cons (drayageref14xFind_ok N)<|.nil) (.nil) (λa=>by kernel_rfl)
def drayageref23xStep_sp(N:Nat):TSp:=⟨[.st 16,ci,ci,cb],[.st 16,ci],λa=>drayageref23xStep N a.1 a.2.1 a.2.2.1 a.2.2.2.1⟩
theorem drayageref23xStep_ok(N:Nat):zaM Tryz.prog 137 (drayageref23xStep_sp N):=tg [] [(511,⟨[.h 3 4 (.sl 7),.h 3 8 (.int .i64)],[],[],[]⟩),(1022,⟨[.r 62 cb],[],[],[]⟩)] [] N (.cons (zau N)<|.cons (drayageref23xMay_ok N)<|.cons (drayageref16xStep_ok N)<|.cons (zdj N)<|.cons (drayageref14xGive_ok N)<|.cons (drayageref23xon_ok N)<|.cons (drayageref23xHas_ok N)<|.nil) (.nil) (λa=>by kernel_rfl)
def drayageref26xDo_sp(N:Nat):TSp:=⟨[.st 11,.st 16,.st 10],[.st 16,.st 15],λa=>drayageref26xDo N a.1 a.2.1 a.2.2.1⟩
theorem drayageref26xDo_ok(N:Nat):zaM Tryz.prog 78 (drayageref26xDo_sp N):=tg [] [(127,⟨[.h 7 0 (.int .i64),.h 7 1 (.int .i64),.h 7 2 (.int .i64),.h 7 3 (.sl 5),.h 7 4 (.sl 7),.h 7 5 (.sl 8),.h 7 6 (.sl 1),.h 7 7 (.sl 1),.h 7 8 (.int .i64)],[],[],[]⟩)] [] N (.cons (drayageref26xCheck_ok N)<|.cons (zau N)<|.cons (drayageref23xEdit_ok N)<|.cons (drayageref23xStep_ok N)<|.nil) (.nil) (λa=>by kernel_rfl)
def drayageref27xrefused_sp(N:Nat):TSp:=⟨[ci,ci],[.st 15],λa=>zcG N a.1 a.2.1⟩
theorem drayageref27xrefused_ok(N:Nat):zaM Tryz.prog 138 (drayageref27xrefused_sp N):=tg [] [] [] N (.nil) (.nil) (λa=>by kernel_rfl)
def drayageref27xDo_sp(N:Nat):TSp:=⟨[.st 11,.st 16,.st 17],[.st 15],λa=>drayageref27xDo N a.1 a.2.1 a.2.2.1⟩
theorem drayageref27xDo_ok(N:Nat):zaM Tryz.prog 79 (drayageref27xDo_sp N):=tg [(49,1),(67,1),(159,1),(167,1),(175,1),(183,1)] [(13786,⟨[.r 10 ci,.w 4 1],[(9,4)],[],[]⟩),(55145,⟨[.w 4 1],[(9,4)],[],[]⟩),(55258,⟨[.r 15 ci,.w 4 1],[(14,4)],[(14,1)],[]⟩),(441161,⟨[.w 4 1],[(9,4)],[],[]⟩),(882323,⟨[.w 4 1],[(9,4)],[],[]⟩),(1764647,⟨[.r 126 cb],[],[],[]⟩)] [] N (.cons (zau N)<|.cons (drayageref27xrefused_ok N)<|.cons (drayageref14xLeft_ok N)<|.nil) (.nil) (λa=>by kernel_rfl)
def drayageref28xcheck_sp(N:Nat):TSp:=⟨[.st 11,.st 16,.st 10],[ci],λa=>drayageref28xcheck N a.1 a.2.1 a.2.2.1⟩
theorem drayageref28xcheck_ok(N:Nat):zaM Tryz.prog 139 (drayageref28xcheck_sp N):=tg [] [] [] N (.nil) (.nil) (λa=>by kernel_rfl)
def drayageref23xCopy_sp(N:Nat):TSp:=⟨[.st 16],[.st 16],λa=>drayageref23xCopy N a.1⟩
theorem drayageref23xCopy_ok(N:Nat):zaM Tryz.prog 190 (drayageref23xCopy_sp N):=tg [(5,5),(10,7),(15,8),(20,1),(25,1)] [] [] N (.nil) (.nil) (λa=>by kernel_rfl)
def drayageref23xReserve_sp(N:Nat):TSp:=⟨[.st 11,.st 16,.st 21],[.st 16,ci,ci],λa=>drayageref23xReserve N a.1 a.2.1 a.2.2.1⟩
theorem drayageref23xReserve_ok(N:Nat):zaM Tryz.prog 140 (drayageref23xReserve_sp N):=tg [(80,8)] [(14,⟨[.r 40 cb],[],[],[]⟩),(62,⟨[.r 66 cb],[],[],[]⟩)] [(8257605,[.mk [.ag [xi,xi,xi,.hd 4,.hd 5,.hd 6,.hd 7,.hd 8,xi]] [] [.row 5,.row 7,.row 8,.row 1,.row 1] [(1000000,0)] [] []])] N (.cons (drayageref12xMeets_ok N)<|.cons (drayageref23xTaken_ok N)<|.nil) (.cons (zcj N)<|.nil) (λa=>by kernel_rfl)
def drayageref12xDrop_sp(N:Nat):TSp:=⟨[.c (.sl 8),ci],[.c (.sl 8),cb],λa=>drayageref12xDrop N a.1 a.2.1⟩
theorem drayageref12xDrop_ok(N:Nat):zaM Tryz.prog 197 (drayageref12xDrop_sp N):=tg [] [(26,⟨[.r 6 ci],[],[],[]⟩)] [] N (.nil) (.nil) (λa=>by kernel_rfl)
def drayageref23xUnreserve_sp(N:Nat):TSp:=⟨[.st 16,ci],[.st 16,ci],λa=>drayageref23xUnreserve N a.1 a.2.1⟩
theorem drayageref23xUnreserve_ok(N:Nat):zaM Tryz.prog 141 (drayageref23xUnreserve_sp N):=tg [] [] [] N (.cons (drayageref12xDrop_ok N)<|.cons (drayageref23xCopy_ok N)<|.nil) (.nil) (λa=>by kernel_rfl)
def drayageref28xDo_sp(N:Nat):TSp:=⟨[.st 11,.st 16,.st 10],[.st 16,.st 15],λa=>drayageref28xDo N a.1 a.2.1 a.2.2.1⟩
theorem drayageref28xDo_ok(N:Nat):zaM Tryz.prog 80 (drayageref28xDo_sp N):=tg [] [(63,⟨[.r 9 ci,.r 10 ci,.h 6 0 (.int .i64),.h 6 1 (.int .i64),.h 6 2 (.int .i64),.h 6 3 (.sl 5),.h 6 4 (.sl 7),.h 6 5 (.sl 8),.h 6 6 (.sl 1),.h 6 7 (.sl 1),.h 6 8 (.int .i64)],[],[],[]⟩),(127,⟨[.r 9 ci,.h 6 0 (.int .i64),.h 6 1 (.int .i64),.h 6 2 (.int .i64),.h 6 3 (.sl 5),.h 6 4 (.sl 7),.h 6 5 (.sl 8),.h 6 6 (.sl 1),.h 6 7 (.sl 1),.h 6 8 (.int .i64)],[],[],[]⟩)] [] N (.cons (drayageref28xcheck_ok N)<|.cons (drayageref23xUnreserve_ok N)<|.cons (drayageref23xReserve_ok N)<|.nil) (.nil) (λa=>by kernel_rfl)
def drayageref29xDo_sp(N:Nat):TSp:=⟨[.st 11,.st 16,.st 10],[.st 16,.st 15],λa=>zbf N a.1 a.2.1 a.2.2.1⟩
theorem drayageref29xDo_ok(N:Nat):zaM Tryz.prog 32 (drayageref29xDo_sp N):=tg [] [] [] N (.cons (drayageref24xDo_ok N)<|.cons (drayageref29xone_ok N)<|.cons (drayageref26xDo_ok N)<|.cons (drayageref27xDo_ok N)<|.cons (drayageref28xDo_ok N)<|.nil) (.nil) (λa=>by kernel_rfl)
def drayageref36xDo_sp(N:Nat):TSp:=⟨[.st 11,.st 16,.c (.sl 10)],[.st 16,.c (.sl 15)],λa=>zb8 N a.1 a.2.1 a.2.2.1⟩
theorem drayageref36xDo_ok(N:Nat):zaM Tryz.prog 9 (drayageref36xDo_sp N):=tg [(40,15)] [(122,⟨[.r 10 ci,.h 1 0 (.int .i64),.h 1 1 (.int .i64),.h 1 2 (.int .i64),.h 1 3 (.sl 5),.h 1 4 (.sl 7),.h 1 5 (.sl 8),.h 1 6 (.sl 1),.h 1 7 (.sl 1),.h 1 8 (.int .i64),.w 3 15],[(8,3)],[(8,15)],[]⟩),(3913,⟨[.h 1 0 (.int .i64),.h 1 1 (.int .i64),.h 1 2 (.int .i64),.h 1 3 (.sl 5),.h 1 4 (.sl 7),.h 1 5 (.sl 8),.h 1 6 (.sl 1),.h 1 7 (.sl 1),.h 1 8 (.int .i64),.h 4 0 (.int .i64),.h 4 1 (.int .i64),.h 4 2 (.int .i64),.h 4 3 (.int .i64),.h 4 4 (.sl 1)],[],[],[]⟩)] [] N (.cons (drayageref36xOne_ok N)<|.cons (drayageref29xDo_ok N)<|.nil) (.nil) (λa=>by kernel_rfl)
def drayageref09xSame_sp(N:Nat):TSp:=⟨[.st 15,.st 15],[cb],λa=>drayageref09xSame N a.1 a.2.1⟩
theorem drayageref09xSame_ok(N:Nat):zaM Tryz.prog 33 (drayageref09xSame_sp N):=tg [] [] [] N (.cons (drayageref01xInts_ok N)<|.nil) (.nil) (λa=>by kernel_rfl)
def drayageref36xReplies_sp(N:Nat):TSp:=⟨[.c (.sl 15),.c (.sl 15)],[cb],λa=>zcI N a.1 a.2.1⟩
theorem drayageref36xReplies_ok(N:Nat):zaM Tryz.prog 10 (drayageref36xReplies_sp N):=tg [] [(58,⟨[.r 5 ci],[],[],[]⟩)] [] N (.cons (drayageref09xSame_ok N)<|.nil) (.nil) (λa=>by kernel_rfl)
def drayagelaw36xChainDoes_sp(N:Nat):TSp:=⟨[.st 9,.c (.sl 10)],[cb],λa=>zdi N a.1 a.2.1⟩
theorem drayagelaw36xChainDoes_ok(N:Nat):zaM Tryz.prog 3 (drayagelaw36xChainDoes_sp N):=tg [] [(14,⟨[.r 28 cb],[],[],[]⟩),(8190,⟨[.r 158 cb],[],[],[]⟩),(16378,⟨[.r 97 ci],[],[],[]⟩),(16771482,⟨[.r 13 cb,.r 104 ci],[],[],[]⟩),(134171859,⟨[.r 13 cb],[],[],[]⟩)] [(1966114,[.mk [.p (.k (.c (.lit (.pointer none)))),.v cb] [] [] [(1000000,0)] [] [],.mk [.p (.pt 1 0 27),.v cb] [] [.cells [.pt 2 0 2,.pt 3 0 2,xl 0,xl 2,xl 3,xi,xi,xi,xi,xi,xi,xi,xi,xi,xi,xi,xi,xi,xi,xi,xi,xi,xi,xl 8,xl 1,.hd 4,xi],.cells [xi,.hd 5],.cells [xl 0,.mr 6],.row 1,.row 5,.mp 7 true] [] [] []]),(8257603,[.mk [.v (.c (.sl 15))] [.h 1 25 (.hd 4),.h 1 26 (xi),.h 2 1 (.hd 5),.h 3 0 (xl 0),.w 4 1,.w 5 5,.m 6 7 true] [] [(1000000,2)] [] []]),(32768044,[.mk [.v (.c (.sl 15))] [] [] [(1000000,1)] [] []]),(66977874,[.mk [.v (.st 16)] [] [] [(1000000,3)] [] []])] N (.cons (drayagelaw36xawake_ok N)<|.cons (drayageref36xDo_ok N)<|.cons (drayageref36xReplies_ok N)<|.cons (drayageref16xSame_ok N)<|.cons (drayageref23xSame_ok N)<|.cons (store_Sound_ok N)<|.cons (drayagelaw23xFew_ok N)<|.cons (drayagelaw24xFew_ok N)<|.nil) (.cons (drayagelaw23xOf_o8124xok N)<|.cons (chain_Do_ocf85xok N)<|.cons (chain_Do_o5825xok N)<|.cons (zcf N)<|.nil) (λa=>by kernel_rfl)
end Go.Abs
end
end
section
end
