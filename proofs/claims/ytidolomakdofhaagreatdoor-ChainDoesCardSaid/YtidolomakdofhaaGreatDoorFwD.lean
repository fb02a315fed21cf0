/- DfwMp, DfwFl, DfwGh, DfwPa, DfwPb, DfwPc -/
import Derived.Test.YtidolomakdofhaaGreatDoorFwC
import GoSem.Core.Float
import GoSem.Op.Complex
import GoSem.Conv.FloatToInt
set_option linter.all false
section
namespace Go.Abs
variable[Gl]
def mget{α:Type}:List (Int×α)->Int->Option α
 |[],_=>none
 |(k',a)::l,k=>if k'=k then some a else mget l k
def mset{α:Type}:List (Int×α)->Int->α->List (Int×α)
 |[],k,a=>[(k,a)]
 |(k',a')::l,k,a=>if k'=k then (k',a)::l else (k',a')::mset l k a
def mix0{α:Type}:List (Int×α)->Int->Nat
 |[],_=>0
 |(k',_)::l,k=>if k'=k then 0 else mix0 l k+1
def mbE{α:Type}(g:α->D):Nat->List (Int×α)->List (Value×D×Nat)
 |_,[]=>[]
 |i,(k,a)::l=>(.int .i64 k,g a,i)::mbE g (i+1) l
abbrev MB{α:Type}(g:α->D)(l:List (Int×α)):Ob:=.map (mbE g 0 l) l.length
def oel{α β:Type}(o:Option α)(n:β)(s:α->β):β:=match o with | none=>n | some a=>s a
section
variable{α:Type}
theorem findK_mb{ik:IntKind}{g:α->D}{k:Int}:∀(l:List (Int×α))(i j:Nat),findK (.int ik) (.int .i64 k) (mbE g i l) j=some ((mget l k).map λa=>(j+mix0 l k,g a)):=by
 intro l;induction l with
 |nil=>intro i j;rfl
 |cons x l ih=>
  intro i j;obtain ⟨k',a⟩:=x;simp only[mbE,findK,Instr.sameNow,if_true];by_cases h:k'=k
  ·subst h;simp[mget,mix0]
  ·have hb:(k == k')=false:=by simp[Ne.symm h]
   simp only[hb,ih,mget,mix0,if_neg h];congr 2;funext a;rw[yBL,Nat.add_comm 1]
theorem mset_some{g:α->D}{k:Int}{a:α}:∀(l:List (Int×α))(i:Nat)(a':α),mget l k=some a'->(mbE g i l).modify (mix0 l k) (λp=>(p.1,g a,p.2.2))=mbE g i (mset l k a)/\(mset l k a).length=l.length:=by
 intro l;induction l with
 |nil=>intro i a' h;simp[mget] at h
 |cons x l ih=>
  intro i a' h;obtain ⟨k',a0⟩:=x;by_cases hk:k'=k
  ·simp[mix0,mset,hk,mbE]
  ·simp only[mget,if_neg hk] at h;obtain ⟨h1,h2⟩:=ih (i+1) a' h;simp[mix0,mset,hk,mbE,h1,h2]
theorem mset_none{g:α->D}{k:Int}{a:α}:∀(l:List (Int×α))(i:Nat),mget l k=none->mbE g i l++[(.int .i64 k,g a,i+l.length)]=mbE g i (mset l k a)/\(mset l k a).length=l.length+1:=by
 intro l;induction l with
 |nil=>intro i h;simp[mset,mbE]
 |cons x l ih=>
  intro i h;obtain ⟨k',a0⟩:=x;by_cases hk:k'=k
  ·simp[mget,hk] at h
  ·simp only[mget,if_neg hk] at h;obtain ⟨h1,h2⟩:=ih (i+1) h;refine ⟨?_,by simp[mset,hk,h2]⟩;simp only[mset,if_neg hk,mbE,List.cons_append,List.length_cons];rw[<-h1,show i+(l.length+1)=i+1+l.length from by omega]
end
section
variable{P:Program}{orc:Orc}{n:Nat}{al:AL}{U U1:Heap}{d d1 d2:D}{α:Type}
theorem op_mkmap{g:α->D}(hd:D.mp U.length=d)(hs:U++[MB g ([]:List (Int×α))]=U1):OpR P orc n al U .mkmap d U1 []:=λe he=>by subst hd hs;rfl
theorem op_look{ik:IntKind}{zero:D}{m k:Opd}{b:Nat}{g:α->D}{l:List (Int×α)}{x:Int}{ok:Bool}{a:α}(hm:lx al m=some (.mp b))(hb:U[b]? = some (MB g l))(hk:lx al k=some (I x))(hq:mget l x=some a)(hd:(if ok then .tup [g a,B true] else g a)=d) :
  OpR P orc n al U (.lookup (.int ik) zero m k ok) d U []:=λe he=>by
 subst hd;simp only[zaB,zaY he hm,zaY he hk,litOf,mapEs,hb,Option.bind_eq_bind,Option.bind_some,findK_mb,hq,Option.map_some,hit]
theorem op_lookN{ik:IntKind}{zero:D}{m k:Opd}{b:Nat}{g:α->D}{l:List (Int×α)}{x:Int}{ok:Bool}(hm:lx al m=some (.mp b))(hb:U[b]? = some (MB g l))(hk:lx al k=some (I x))(hq:mget l x=none)(hd:(if ok then .tup [zero,B false] else zero)=d) :
  OpR P orc n al U (.lookup (.int ik) zero m k ok) d U []:=λe he=>by
 subst hd;simp only[zaB,zaY he hm,zaY he hk,litOf,mapEs,hb,Option.bind_eq_bind,Option.bind_some,findK_mb,hq,Option.map_none,hit]
theorem op_upd{ik:IntKind}{m k x:Opd}{b:Nat}{g:α->D}{l:List (Int×α)}{i:Int}{a:α}(hm:lx al m=some (.mp b))(hb:U[b]? = some (MB g l))(hk:lx al k=some (I i))(hx:lx al x=some (g a))(hs:U.set b (MB g (mset l i a))=U1) :
  OpR P orc n al U (.upd (.int ik) m k x) (.tup []) U1 [b]:=λe he=>by
 subst hs;simp only[zaB,zaY he hm,zaY he hk,litOf,hb,Option.bind_eq_bind,Option.bind_some,findK_mb,zaY he hx];cases hq:mget l i with
 |some a'=>obtain ⟨h1,h2⟩:=mset_some (g:=g) (a:=a) l 0 a' hq;simp only[Option.map_some,yBj,MB,h2];rw[<-h1]
 |none=>obtain ⟨h1,h2⟩:=mset_none (g:=g) (a:=a) l 0 hq;simp only[Option.map_none,MB,h2];rw[<-h1,yBj]
def mdel{α:Type}:List (Int×α)->Int->List (Int×α)
 |[],_=>[]
 |(k',a)::l,k=>if k'=k then l else (k',a)::mdel l k
theorem mdel_none{α:Type}{k:Int}:∀(l:List (Int×α)),mget l k=none->mdel l k=l
 |[],_=>rfl
 |(k', a) :: l, h => by
  by_cases hk:k'=k
  ·simp[mget,hk] at h
  ·simp only[mget,if_neg hk] at h;simp only[mdel,if_neg hk,mdel_none l h]
theorem renum_mb{α:Type}{g:α->D}:∀(l:List (Int×α))(i j:Nat),renum j (mbE g i l)=mbE g j l
 |[],_,_=>rfl
 |(k,a)::l,i,j=>by simp only[mbE,renum,renum_mb l]
theorem mdel_some{α:Type}{g:α->D}{k:Int}:∀(l:List (Int×α))(i j:Nat)(a':α),mget l k=some a'->renum j ((mbE g i l).eraseIdx (mix0 l k))=mbE g j (mdel l k)/\(mdel l k).length=l.length-1
 |[],_,_,_,h=>by simp[mget] at h
 |(k', a) :: l, i, j, a', h => by
  by_cases hk:k'=k
  ·simp[mix0,mdel,hk,mbE,renum_mb]
  ·simp only[mget,if_neg hk] at h;obtain ⟨h1,h2⟩:=mdel_some l (i+1) (j+1) a' h;have hl:0<l.length:=by
    cases l with
    |nil=>simp[mget] at h
    |cons _ _=>simp
   simp only[mix0,mdel,hk,mbE,yAx,List.eraseIdx_cons_succ,renum,List.length_cons];exact ⟨by rw[h1],by omega⟩
theorem op_del{ik:IntKind}{m k:Opd}{b:Nat}{g:α->D}{l:List (Int×α)}{i:Int}(hm:lx al m=some (.mp b))(hb:U[b]? = some (MB g l))(hk:lx al k=some (I i))(hs:U.set b (MB g (mdel l i))=U1) :
  OpR P orc n al U (.del (.int ik) m k) (.tup []) U1 [b]:=λe he=>by
 subst hs;simp only[zaB,zaY he hm,zaY he hk,litOf,hb,Option.bind_eq_bind,Option.bind_some,findK_mb];cases hq:mget l i with
 |some a'=>obtain ⟨h1,h2⟩:=mdel_some (g:=g) l 0 0 a' hq;simp only[Option.map_some,yBj,MB,h1,h2]
 |none=>simp only[Option.map_none,MB,mdel_none l hq]
theorem op_mkfn{f:Fn}{first cap:List Opd}{a b:List D}(h1:lxs al first=some a)(h2:lxs al cap=some b):OpR P orc n al U (.mkfn f first cap) (.fn f a b) U []:=λe he=>by simp[zaB,ev_lxs he h1,ev_lxs he h2]
theorem op_callf{g:FuncId}{f:Opd}{args:List Opd}{ds a b:List D}{w:List Nat}(hf:lx al f=some (.fn (.func g) a b))(ha:lxs al args=some ds)(ho:orc g (a++ds++b) U=some (d,U1,w)):OpR P orc n al U (.call f args) d U1 w:=λe he=>by simp only[zaB,zaY he hf,ev_lxs he ha,ho]
theorem op_callc{g:FuncId}{f:Opd}{args:List Opd}{ds:List D}{a b:List C}{w:List Nat}(hf:lx al f=some (.c (.fn (.func g) a b)))(ha:lxs al args=some ds)(ho:orc g (a.map .c++ds++b.map .c) U=some (d,U1,w)):OpR P orc n al U (.call f args) d U1 w:=λe he=>by simp only[zaB,zaY he hf,ev_lxs he ha,ho]
theorem op_idxS{esz j b off len sz:Nat}{x i:Opd}{k:Int}{cs:List D}(h:lx al x=some (.sl b off len esz sz))(hi:lx al i=some (I k))(hr:zci U b sz=some cs)(hk:inR k len=some j)(hd:D.ptr b (off+j * esz) sz=d) :
  OpR P orc n al U (.idx esz none x i) d U []:=λe he'=>by
 subst hd;simp only[zaB,zaY he' h,zaY he' hi,zbJ,Option.bind_eq_bind,Option.bind_some,hr,hk,if_true]
theorem op_lenS{b off len esz sz:Nat}{x:Opd}{cs:List D}(h:lx al x=some (.sl b off len esz sz))(hr:zci U b sz=some cs)(hd:I len=d):OpR P orc n al U (.len x) d U []:=λe he=>by subst hd;simp[zaB,zaY he h,zbT,hr]
theorem op_nilckf{x:Opd}{cs:List C}{off:Nat}(h:lx al x=some (.c (.fptr cs off))):OpR P orc n al U (.nilck x) (.c (.fptr cs off)) U []:=λe he=>by simp[zaB,zaY he h]
theorem op_nilckc{x:Opd}{f:FuncId}{a b:List C}(h:lx al x=some (.c (.fn (.func f) a b))):OpR P orc n al U (.nilck x) (.c (.fn (.func f) a b)) U []:=λe he=>by simp[zaB,zaY he h]
theorem op_nilckn{x:Opd}{f:FuncId}{a b:List D}(h:lx al x=some (.fn (.func f) a b)):OpR P orc n al U (.nilck x) (.fn (.func f) a b) U []:=λe he=>by simp[zaB,zaY he h]
end
section
variable{P:Program}{orc:Orc}{n:Nat}{al:AL}{U U1:Heap}{d d1 d2:D}{α:Type}{f:α->List C}{esz:Nat}
theorem op_appendN{bytes:Nat}{s x:Opd}{m:List α}(h:lx al s=some (.c (.lit (.slice none 0 0))))(hx:lx al x=some d)(hm:Src U f esz d m)(hl:Nat.ble m.length 1000000=true)
  (hby:Nat.ble bytes 1000=true) (hd:OS esz U.length m.length=d1) (hs:U++[OB f m]=U1):OpR P orc n al U (.append esz bytes s x) d1 U1 []:=by
 subst hd hs;have hby':bytes<=1000:=yA8 hby;have hlen:m.length<=1000000:=yA8 hl;have hroom:zdX m.length bytes=true:=by have:m.length * bytes<=1000000 * 1000:=Nat.mul_le_mul hlen hby';simp only[zdX,yAj,yAf];omega
 intro e he;have:zaB P orc (.append esz bytes s x) e U=(zbT U d).bind λk=>(zcL U esz k d).bind λnew=>if zdX k bytes then some (.sl U.length 0 k esz (k * esz),U++[.cells new],[]) else none:=by simp only[zaB,zaY he h,zaY he hx];rfl
 rw[this,hm.1,xAa,hm.2,xAa,if_pos hroom]
end
def nrmX:Nat->C->C
 |n+1,.frz _ es=>.frz false (es.map λe=>e.map (nrmX n))
 |_+1,.lit (.slice none 0 0)=>.frz false []
 |_,x=>x
theorem nrmX_ok{Fz:Nat->Prop}{w:World}:∀(n:Nat){x:C}{v:Value},VC Fz w x v->VC Fz w (nrmX n x) v:=by
 intro n;induction n with
 |zero=>intro x v h;exact h
 |succ n ih=>
  intro x v h;by_cases hx:x=.lit (.slice none 0 0)
  ·subst hx;cases h;exact .frz (es:=[]) 0 none 0 (by simp) (λ_=>rfl) (λ_ _=>undef) (by simp) (by simp) (by simp) (by simp)
  cases h with
  | @frz nn es esz a cap hnn hz c hsz hcap hc hv=>
   have h:=VC.frz (Fz:=Fz) (w:=w) (nn:=false) (es:=es.map λe=>e.map (nrmX n)) esz a cap (by simp) hz c (λe he=>?_) (by simpa using hcap) (λi j e d h1 h2=>?_) (λi j e d h1 h2=>?_)
   ·rw[yAz] at h;exact h
   ·rw[yA4] at he;obtain ⟨e0,h0,rfl⟩:=he;rw[yAz];exact hsz e0 h0
   ·simp only[yAl,yAd] at h1;obtain ⟨e0,h0,rfl⟩:=h1;simp only[yAl,yAd] at h2;obtain ⟨d0,h3,rfl⟩:=h2;exact hc i j e0 d0 h0 h3
   ·simp only[yAl,yAd] at h1;obtain ⟨e0,h0,rfl⟩:=h1;simp only[yAl,yAd] at h2;obtain ⟨d0,h3,rfl⟩:=h2;exact ih (hv i j e0 d0 h0 h3)
  |lit v=>
   have:nrmX (n+1) (.lit v)=.lit v:=by
    unfold nrmX;split
    ·rename_i heq;simp at heq
    ·rename_i heq;exact absurd heq hx
    ·rfl
   rw[this];exact .lit v
  |fptr blk o c hF hc hv=>exact .fptr blk o c hF hc hv
  |fn vs ws h1 h2 hv hw=>exact .fn vs ws h1 h2 hv hw
  |fmp blk clock arr hF hh hs hk hv=>exact .fmp blk clock arr hF hh hs hk hv
  |glo g=>exact .glo g
def nrmY:D->D
 |.c x=>.c (nrmX 5 x)
 |.agg ds=>.agg (ds.map λd=>match d with | .c x=>.c (nrmX 5 x) | d=>d)
 |d=>d
theorem DLe.of_nrmY{d d':D}(h:nrmY d=d'):DLe d d':=by
 subst h;intro U M Fz w v h;unfold nrmY;split
 ·cases h with | c h=>exact .c (nrmX_ok 5 h)
 ·cases h with
  |agg vs h1 hv=>
   refine .agg vs (by simpa using h1) (λi d v a b=>?_);simp only[yAl,yAd] at a;obtain ⟨d0,h0,rfl⟩:=a;have:=hv i d0 v h0 b;split
   ·cases this with | c h=>exact .c (nrmX_ok 5 h)
   ·exact this
 ·exact h
def ObFz(S F:D):Ob->Ob->Prop
 |.map es c,.map es' c'=>c=c'/\es'.length=es.length/\∀(i:Nat) k d' n,es'[i]? = some (k,d',n)->∃d,es[i]? = some (k,d,n)/\(d'=d∨d=S/\d'=F)
 |.cells cs,.cells cs'=>cs'.length=cs.length/\∀(i:Nat) d',cs'[i]? = some d'->∃d,cs[i]? = some d/\(d'=d∨d=S/\d'=F)
 |_,_=>False
theorem ObFz.sz{S F:D}{ob ob':Ob}(h:ObFz S F ob ob'):ob'.sz=ob.sz:=by
 cases ob <;> cases ob' <;> simp only[ObFz] at h
 ·exact h.1
 ·rfl
section
variable{P:Program}{U U0 U1:Heap}{n:Nat}{al:AL}{ac:ACode}{Q:zcX->AL->Heap->Prop}{α:Type}{f:α->List C}{esz:Nat}
end
end Go.Abs
end
section
namespace Go.Fl
open Ieee
theorem log2_lt{n k:Nat}(h0:n≠0)(h:n<2 ^ k):n.log2<k:=(Nat.log2_lt h0).2 h
theorem log2xle{n:Nat}(h0:n≠0):2 ^ n.log2<=n:=Nat.log2_self_le h0
theorem lt_log2(n:Nat):n<2 ^ (n.log2+1):=Nat.lt_log2_self
theorem lp:double.leastPlace=-1074:=by decide
def can(s:Bool)(n:Nat):Datum:=if n=0 then .number s 0 (-1074) else .number s (n * 2 ^ (52-n.log2)) ((n.log2:Int)-52)
theorem cut_zero(way:Toward)(s:Bool)(n:Nat):way.cut s n 0=n:=by
 unfold Toward.cut;have h:1 <<< min 0 (n.log2+2)=1:=by rw[Nat.zero_min];rfl
 have hm:n % 1=0:=Nat.mod_one n;simp only[h,Nat.div_one,hm];cases way <;> simp
theorem cut_exact{s:Bool}{n d m:Nat}(hd:d<=n.log2+2)(h:n=m * 2 ^ d):Toward.even.cut s n d=m:=by
 unfold Toward.cut;have hg:1 <<< min d (n.log2+2)=2 ^ d:=by rw[xAi hd,Nat.one_shiftLeft]
 have hp:0<2 ^ d:=yCr (by decide);rw[hg];have h1:n / 2 ^ d=m:=by rw[h];exact Nat.mul_div_cancel _ hp
 have h2:n % 2 ^ d=0:=by rw[h];exact Nat.mul_mod_left _ _
 simp only[h1,h2];have:¬(2 ^ d<2 * 0):=by omega
 have h3:¬(2 ^ d=2 * 0):=by omega
 simp[h3]
theorem log2xmul_pow{m d:Nat}(h:m≠0):(m * 2 ^ d).log2=m.log2+d:=by
 have h1:=log2xle h;have h2:=lt_log2 m;have h0:m * 2 ^ d≠0:=by have:0<2 ^ d:=yCr (by decide);exact Nat.mul_ne_zero h (by omega)
 apply Nat.le_antisymm
 ·have:m * 2 ^ d<2 ^ (m.log2+d+1):=by
   rw[show m.log2+d+1=(m.log2+1)+d by omega,yCn];exact Nat.mul_lt_mul_of_pos_right h2 (yCr (by decide))
  have:=log2_lt h0 this;omega
 ·have:2 ^ (m.log2+d)<=m * 2 ^ d:=by
   rw[yCn];exact yAP _ h1
  exact (Nat.le_log2 h0).2 this
theorem near_down{s:Bool}{n k:Nat}(h0:n≠0)(h:n<2 ^ 53):double.nearest s (n * 2 ^ k) (-(k:Int))=double.nearest s n 0:=by
 have hl:=log2_lt h0 h;have e:(n * 2 ^ k).log2=n.log2+k:=log2xmul_pow h0;have h0':n * 2 ^ k≠0:=Nat.mul_ne_zero h0 (by have:0<2 ^ k:=yCr (by decide);omega);have fb:double.fractionBits=52:=rfl;have last1:max (-(k:Int)+((n * 2 ^ k).log2:Nat)-((52:Nat):Int)) (-1074)=(n.log2:Int)-52:=by rw[e];omega
 have last2:max ((0:Int)+(n.log2:Nat)-((52:Nat):Int)) (-1074)=(n.log2:Int)-52:=by omega
 have k1:Toward.even.cut s ((n * 2 ^ k) <<< (-(k:Int)-((n.log2:Int)-52)).toNat) (((n.log2:Int)-52) - -(k:Int)).toNat=n * 2 ^ (52-n.log2):=by
  by_cases hk:k+n.log2<=52
  ·have a1:(-(k:Int)-((n.log2:Int)-52)).toNat=52-n.log2-k:=by omega
   have a2:(((n.log2:Int)-52) - -(k:Int)).toNat=0:=by omega
   rw[a1,a2,cut_zero,xAj,yCv,<-yCn];congr 2;omega
  ·have a1:(-(k:Int)-((n.log2:Int)-52)).toNat=0:=by omega
   have a2:(((n.log2:Int)-52) - -(k:Int)).toNat=k+n.log2-52:=by omega
   rw[a1,a2,Nat.shiftLeft_zero];refine cut_exact (by rw[e];omega) ?_;rw[yCv,<-yCn];congr 2;omega
 have k2:Toward.even.cut s (n <<< ((0:Int)-((n.log2:Int)-52)).toNat) (((n.log2:Int)-52)-0).toNat=n * 2 ^ (52-n.log2):=by
  have a1:((0:Int)-((n.log2:Int)-52)).toNat=52-n.log2:=by omega
  have a2:(((n.log2:Int)-52)-0).toNat=0:=by omega
  rw[a1,a2,cut_zero,xAj]
 unfold Format.nearest;rw[if_neg h0',if_neg h0];simp only[fb,lp,last1,last2,k1,k2]
theorem near_read{s:Bool}{n:Nat}(h:n<2 ^ 53):double.read (double.nearest s n 0)=can s n:=by
 by_cases h0:n=0
 ·subst h0;cases s <;> rfl
 have hl:=log2_lt h0 h;have l1:=log2xle h0;have l2:=lt_log2 n;have fb:double.fractionBits=52:=rfl;have last2:max ((0:Int)+(n.log2:Nat)-((52:Nat):Int)) (-1074)=(n.log2:Int)-52:=by omega
 have k2:Toward.even.cut s (n <<< ((0:Int)-((n.log2:Int)-52)).toNat) (((n.log2:Int)-52)-0).toNat=n * 2 ^ (52-n.log2):=by
  have a1:((0:Int)-((n.log2:Int)-52)).toNat=52-n.log2:=by omega
  have a2:(((n.log2:Int)-52)-0).toNat=0:=by omega
  rw[a1,a2,cut_zero,xAj]
 have b1:4503599627370496<=n * 2 ^ (52-n.log2):=by have:2 ^ n.log2 * 2 ^ (52-n.log2)<=n * 2 ^ (52-n.log2):=yAP _ l1;rw[<-yCn,show n.log2+(52-n.log2)=52 by omega] at this;exact this
 have b2:n * 2 ^ (52-n.log2)<9007199254740992:=by have:n * 2 ^ (52-n.log2)<2 ^ (n.log2+1) * 2 ^ (52-n.log2):=Nat.mul_lt_mul_of_pos_right l2 (yCr (by decide));rw[<-yCn,show n.log2+1+(52-n.log2)=53 by omega] at this;exact this
 have ir:double.infRung=9218868437227405312:=by decide
 have sw:double.signWeight=9223372036854775808:=by decide
 have bi:double.binade=4503599627370496:=by decide
 unfold can;rw[if_neg h0];generalize n * 2 ^ (52-n.log2)=K at k2 b1 b2 ⊢;generalize hL:n.log2=L at k2 last2 hl ⊢;have hr:double.nearest s n 0=double.word s ((L+1022) * 4503599627370496+K):=by
  unfold Format.nearest;rw[if_neg h0];simp only[fb,lp,hL,last2,k2,ir,bi];have e1:(((L:Int)-52) - -1074).toNat=L+1022:=by omega
  rw[e1,xAi (by omega)]
 rw[hr];generalize hR:(L+1022) * 4503599627370496+K=R;have hw:R<9223372036854775808:=by omega
 have hs1:(double.word s R / double.signWeight % 2 == 1)=s:=by
  unfold Format.word;rw[sw];cases s
  ·rw[if_neg (by decide),Nat.div_eq_of_lt hw];rfl
  ·rw[if_pos rfl,Nat.add_div_left _ (by decide),Nat.div_eq_of_lt hw];rfl
 have hs2:double.word s R % double.signWeight=R:=by
  unfold Format.word;rw[sw];cases s
  ·rw[if_neg (by decide),Nat.mod_eq_of_lt hw]
  ·rw[if_pos rfl,Nat.add_mod_left,Nat.mod_eq_of_lt hw]
 unfold Format.read;simp only[hs1,hs2,bi,ir,lp];have e1:R % 4503599627370496=K-4503599627370496:=by omega
 have e2:R / 4503599627370496=L+1023:=by omega
 have c1:¬(R<4503599627370496):=by omega
 have c2:R<9218868437227405312:=by omega
 rw[if_neg c1,if_pos c2,e1,e2];have e3:4503599627370496+(K-4503599627370496)=K:=Nat.add_sub_of_le b1;have e4:(-1074:Int)+((L+1023-1:Nat):Int)=(L:Int)-52:=by omega
 rw[e3,e4]
theorem can_zero(s:Bool)(k:Nat):Datum.number s (0 * 2 ^ k) (-(k:Int))=Datum.number s 0 (-(k:Int)):=by rw[yBw]
theorem can_form(s:Bool){n:Nat}(h:n<2 ^ 53):∃k:Nat,can s n=.number s (n * 2 ^ k) (-(k:Int)):=by
 unfold can;split
 ·rename_i e;subst e;exact ⟨1074,(can_zero s 1074).symm⟩
 ·rename_i h0;have:=log2_lt h0 h;exact ⟨52-n.log2,by congr 1;omega⟩
theorem near_k(s:Bool){n:Nat}(k:Nat)(h:n<2 ^ 53):double.nearest s (n * 2 ^ k) (-(k:Int))=double.nearest s n 0:=by
 by_cases h0:n=0
 ·subst h0;rw[yBw];unfold Format.nearest;rw[if_pos rfl,if_pos rfl]
 ·exact near_down h0 h
def fl(n:Int):Nat:=FloatKind.f64.nearest n
theorem fl_eq(n:Int):fl n=double.nearest (decide (n<0)) n.natAbs 0:=rfl
theorem fl_read{n:Int}(h:n.natAbs<2 ^ 53):double.read (fl n)=can (decide (n<0)) n.natAbs:=near_read h
def sg(s:Bool)(n:Nat):Int:=if s then -(n:Int) else n
theorem signed_eq(s:Bool)(n i m:Nat)(h:i<=m):signed s (n * 2 ^ i) (m-i)=sg s n * (2 ^ m:Nat):=by
 have e:(n * 2 ^ i) <<< (m-i)=n * 2 ^ m:=by rw[xAj,yCv,<-yCn];congr 2;omega
 unfold signed sg;rw[e];cases s
 ·simp
 ·simp only[if_true];rw[Int.natCast_mul,Int.neg_mul]
theorem sum_eq(s t:Bool)(a b i j:Nat):Datum.sum (.number s (a * 2 ^ i) (-(i:Int))) (.number t (b * 2 ^ j) (-(j:Int))) =
  some (.number (if sg s a+sg t b=0 then s&&t else decide (sg s a+sg t b<0)) ((sg s a+sg t b).natAbs * 2 ^ (max i j)) (-((max i j:Nat):Int))):=by
 unfold Datum.sum;have hb:min (-(i:Int)) (-(j:Int))=-((max i j:Nat):Int):=by omega
 have h1:(-(i:Int) - -((max i j:Nat):Int)).toNat=max i j-i:=by omega
 have h2:(-(j:Int) - -((max i j:Nat):Int)).toNat=max i j-j:=by omega
 simp only[hb,h1,h2,signed_eq s a i (max i j) (by omega),signed_eq t b j (max i j) (by omega),<-yCs];have hp:(0:Int)<((2 ^ max i j:Nat):Int):=by have:0<2 ^ max i j:=yCr (by decide);omega
 have z:((sg s a+sg t b) * ((2 ^ max i j:Nat):Int)=0)↔sg s a+sg t b=0:=by
  rw[Int.mul_eq_zero];constructor
  ·rintro (h | h)
   ·exact h
   ·omega
  ·exact .inl
 have l:((sg s a+sg t b) * ((2 ^ max i j:Nat):Int)<0)↔sg s a+sg t b<0:=by
  constructor
  ·intro h;rcases Int.lt_or_le (sg s a+sg t b) 0 with h' | h'
   ·exact h'
   ·have:=yCf h' (Int.le_of_lt hp);omega
  ·intro h;exact Int.mul_neg_of_neg_of_pos h hp
 simp only[z,l,Int.natAbs_mul,Int.natAbs_natCast]
theorem sg_abs(n:Int):sg (decide (n<0)) n.natAbs=n:=by
 unfold sg;by_cases h:n<0
 ·simp[h];omega
 ·simp[h];omega
theorem fl_add{a b:Int}(ha:a.natAbs<2 ^ 52)(hb:b.natAbs<2 ^ 52):double.add (fl a) (fl b)=some (fl (a+b)):=by
 have ha':a.natAbs<2 ^ 53:=by omega
 have hb':b.natAbs<2 ^ 53:=by omega
 obtain ⟨i,hi⟩:=can_form (decide (a<0)) ha';obtain ⟨j,hj⟩:=can_form (decide (b<0)) hb';unfold Format.add;rw[fl_read ha',fl_read hb',hi,hj,sum_eq,sg_abs,sg_abs];simp only[Option.map_some,Format.write];rw[near_k _ _ (by omega),fl_eq];congr 2;by_cases h0:a+b=0
 ·rw[if_pos h0];have:¬(a+b<0):=by omega
  by_cases h1:a<0
  ·have:¬(b<0):=by omega
   simp[*]
  ·simp[*]
 ·rw[if_neg h0]
theorem fl_sub{a b:Int}(ha:a.natAbs<2 ^ 52)(hb:b.natAbs<2 ^ 52):double.sub (fl a) (fl b)=some (fl (a-b)):=by
 have ha':a.natAbs<2 ^ 53:=by omega
 have hb':b.natAbs<2 ^ 53:=by omega
 obtain ⟨i,hi⟩:=can_form (decide (a<0)) ha';obtain ⟨j,hj⟩:=can_form (decide (b<0)) hb';have hs:sg (!decide (b<0)) b.natAbs=-b:=by
  unfold sg;by_cases h:b<0
  ·simp[h];omega
  ·simp[h];omega
 unfold Format.sub;rw[fl_read ha',fl_read hb',hi,hj];simp only[Datum.opposite];rw[sum_eq,sg_abs,hs];simp only[Option.map_some,Format.write];rw[near_k _ _ (by omega),fl_eq,<-Int.sub_eq_add_neg];congr 2;by_cases h0:a-b=0
 ·rw[if_pos h0];have:¬(a-b<0):=by omega
  by_cases h1:a<0
  ·have:b<0:=by omega
   simp[*]
  ·simp[*]
 ·rw[if_neg h0]
theorem fl_mul{a b:Int}(h0:0<=a)(h1:0<=b)(ha:a.natAbs<2 ^ 53)(hb:b.natAbs<2 ^ 53)(h:(a * b).natAbs<2 ^ 53):double.mul (fl a) (fl b)=some (fl (a * b)):=by
 obtain ⟨i,hi⟩:=can_form (decide (a<0)) ha;obtain ⟨j,hj⟩:=can_form (decide (b<0)) hb;have e1:decide (a<0)=false:=by simp;omega
 have e2:decide (b<0)=false:=by simp;omega
 have e3:decide (a * b<0)=false:=by have:=yCf h0 h1;simp;omega
 unfold Format.mul;rw[fl_read ha,fl_read hb,hi,hj];simp only[Datum.product,e1,e2,Option.map_some,Format.write];have m:a.natAbs * 2 ^ i * (b.natAbs * 2 ^ j)=(a * b).natAbs * 2 ^ (i+j):=by rw[Int.natAbs_mul,yCn];simp only[yCv,Nat.mul_left_comm]
 have p:-(i:Int)+-(j:Int)=-((i+j:Nat):Int):=by omega
 rw[m,p,near_k _ _ h,fl_eq,e3];rfl
theorem fl_int{n:Int}(h:n.natAbs<2 ^ 53):(double.read (fl n)).toInt .zero=some n:=by
 obtain ⟨k,hk⟩:=can_form (decide (n<0)) h;rw[fl_read h,hk];unfold Datum.toInt Datum.integral;have e1:(-(k:Int)).toNat=0:=by omega
 have e2:(- -(k:Int)).toNat=k:=by omega
 have c:Toward.zero.cut (decide (n<0)) (n.natAbs * 2 ^ k) k=n.natAbs:=by
  by_cases h0:n.natAbs=0
  ·rw[h0,yBw];unfold Toward.cut;simp
  ·unfold Toward.cut;have hg:1 <<< min k ((n.natAbs * 2 ^ k).log2+2)=2 ^ k:=by rw[log2xmul_pow h0,xAi (by omega),Nat.one_shiftLeft]
   simp only[hg];rw[Nat.mul_div_cancel _ (yCr (by decide))];rfl
 simp only[e1,e2,Nat.shiftLeft_zero,c];have:=sg_abs n;unfold sg at this;unfold signed;rw[Nat.shiftLeft_zero,this]
end Go.Fl
end
section
namespace Go.Abs
variable[Gl]
def isC:D->Bool
 |.c _=>true
 |_=>false
section
variable{U U':Heap}{M M':Nat->Option Nat}{Fz Fz':Nat->Prop}{w w':World}
theorem szLe_app(ob:Ob):SzLe U (U++[ob]):=λb o h=>⟨o,by rw[yAr (yAb.1 h).1];exact h,rfl⟩
theorem late_alloc(R:Rel U M Fz w){z:List D}{b:Nat}(hb:U[b]? = some (.cells z))(hM:M b=none)(hz:z.all isC=true){M1:Nat->Option Nat}{Fz1:Nat->Prop}{w1:World}{v:Value}
  (R1:Rel (U++[.cells z]) M1 Fz1 w1) (hv:V (U++[.cells z]) M1 Fz1 w1 (.ptr U.length 0 z.length) v) (EV:Evo U M Fz w (U++[.cells z]) M1 Fz1 w1) :
  ∃ M2, Rel U M2 Fz1 w1 /\ V U M2 Fz1 w1 (.ptr b 0 z.length) v /\ (∀ x c, M x = some c -> M2 x = some c) /\ (∀ x, x ≠ b -> M2 x = M x) /\
   ∀(U0:Heap)(M0:Nat->Option Nat)(Fz0:Nat->Prop)(w0:World),Evo U0 M0 Fz0 w0 U M Fz w->U0.length<=U.length->U0.length<=b->Evo U0 M0 Fz0 w0 U M2 Fz1 w1:=by
 have hbl:=(yAb.1 hb).1;have hlow:∀x,x<U.length->M1 x=M x:=λx hx=>by have hx':U[x]? = some U[x]:=yAg hx;obtain ⟨ob',h1,_,h3⟩:=EV.keep x _ hx';rw[yAr hx,hx'] at h1;simp only[yAa] at h1;exact h3 (by rw[<-h1])
 have hlast:(U++[Ob.cells z])[U.length]? = some (.cells z):=by simp
 obtain ⟨c0,a,hc0,ha,rfl⟩:∃c0 a,M1 U.length=some c0/\a=(⟨c0,0,none⟩:Addr)/\v=.pointer (some a):=by
  cases hv with
  |ptr a ob h hle hv=>rw[hlast] at h;simp only[yAa] at h;subst h;obtain ⟨c,h1,h2⟩:=hv (by simp[Ob.sz]);exact ⟨c,a,h1,h2,rfl⟩
 have hfresh:w.heap.size<=c0:=by
  rcases EV.ran _ _ hc0 with ⟨b0,h⟩ | h
  ·have hl:=(R.lt h).1;have:=R1.inj b0 U.length c0 (by rw[hlow b0 hl];exact h) hc0;omega
  ·exact h
 have e1:∀x c,(if x=b then M1 U.length else M x)=some c->(x=b/\c=c0)∨(x≠b/\M x=some c):=λx c h=>by
  split at h
  ·rw[hc0] at h;simp only[yAa] at h;exact .inl ⟨‹_›,h.symm⟩
  ·exact .inr ⟨‹_›,h⟩
 have hne:∀x c,M x=some c->x≠b:=λx c h e=>by rw[e,hM] at h;simp at h
 have hext:∀x c,M x=some c->(if x=b then M1 U.length else M x)=some c:=λx c h=>by rw[if_neg (hne x c h)];exact h
 have hcz:∀(i:Nat) d,z[i]? = some d->∃x,d=.c x:=λi d h=>by have:=yAp.1 hz d (yAy h);cases d <;> first | exact ⟨_,rfl⟩ | simp[isC] at this
 refine ⟨λx=>if x=b then M1 U.length else M x,⟨λx c h=>?_,λx x' c h h'=>?_,R1.fz,R1.gl⟩,?_,hext,λx hx=>if_neg hx,λU0 M0 Fz0 w0 E0 hl hl2=>?_⟩
 ·rcases e1 x c h with ⟨rfl,rfl⟩ | ⟨hx,h⟩
  ·obtain ⟨h1,ob,o,h2,h3,h4⟩:=R1.blk _ _ hc0;rw[hlast] at h2;simp only[yAa] at h2;subst h2;refine ⟨h1,_,o,hb,h3,?_⟩;obtain ⟨arr,T,ho,hl,hx⟩:=h4;refine ⟨arr,T,ho,hl,λi d v q1 q2=>?_⟩;obtain ⟨x,rfl⟩:=hcz i d q1;obtain ⟨q3,q4⟩:=hx i _ v q1 q2;refine ⟨?_,q4⟩;cases q3 with
   |c q3=>exact .c q3
  ·obtain ⟨_,ob0,o0,k2,_,k4⟩:=R.blk x c h;have hxl:=(R.lt h).1;obtain ⟨h1,ob,o,h2,h3,h4⟩:=R1.blk x c (by rw[hlow x hxl];exact h);rw[yAr hxl] at h2;refine ⟨h1,ob,o,h2,h3,?_⟩;rw[k2] at h2;simp only[yAa] at h2;subst h2;refine (ObRel.down (szLe_app (.cells z)) h4 k4).cut.sub SzLe.refl (λy c' hy=>?_);unfold cutM at hy;split at hy
   ·rename_i hyl;rw[hlow y hyl] at hy;exact hext y c' hy
   ·simp at hy
 ·rcases e1 x c h with ⟨g1,g2⟩ | ⟨_,g2⟩ <;> rcases e1 x' c h' with ⟨g3,g4⟩ | ⟨_,g4⟩
  ·rw[g1,g3]
  ·have:=(R.lt g4).2;omega
  ·have:=(R.lt g2).2;omega
  ·exact R.inj x x' c g2 g4
 ·subst ha;exact .ptr _ (.cells z) hb (yAo _) λ_=>⟨c0,by rw[if_pos rfl];exact hc0,rfl⟩
 ·have E1:=E0.trans EV hl;refine ⟨E1.size,E1.frame,λx c h=>?_,E1.fz,E1.fz',E1.shp,λx ob hx=>?_,E1.out⟩
  ·rcases e1 x c h with ⟨rfl,rfl⟩ | ⟨_,h⟩
   ·exact E1.ran _ _ hc0
   ·exact E0.ran _ _ h
  ·obtain ⟨ob',h1,h2,h3⟩:=E0.keep x ob hx;have hxl:=(yAb.1 hx).1;exact ⟨ob',h1,h2,λe=>by rw[if_neg (by omega)];exact h3 e⟩
end
section
variable{P:Program}{orc:Orc2}{ops:Array Oper}{os:List AOper}{q n0:Nat}{env:Nat->List D}{sg:Nat->Heap}{wrs:Nat->List Nat}
variable{M0:Nat->Option Nat}{Fz0:Nat->Prop}{w0:World}{dfr:List Deferred}
def Heads(os:List AOper)(q:Nat):Prop:=∀i,i<q->∃t ao,os[i]? = some ⟨some t,ao,none⟩/\((∃z,ao=.alloc z/\z.all isC=true)∨(∃x,ao=.mov x)∨∃n x,ao=.load n x)
theorem light_ev{P:Program}{orc:Orc}{ao:AOp}(h:(∃x,ao=.mov x)∨∃n x,ao=.load n x){env:List D}{U U1:Heap}{d:D}{wr:List Nat}(he:zaB P orc ao env U=some (d,U1,wr)) :
  U1=U/\wr=[]/\∀U2:Heap,(∀b off sz,ox1 ao env=.ptr b off sz->U2[b]? = U[b]?)->zaB P orc ao env U2=some (d,U2,[]):=by
 rcases h with ⟨x,rfl⟩ | ⟨n,x,rfl⟩
 ·simp only[zaB,yAa,yAc] at he;obtain ⟨rfl,rfl,rfl⟩:=he;exact ⟨rfl,rfl,λ_ _=>rfl⟩
 ·simp only[zaB] at he;split at he
  ·rename_i b off sz hx;simp only[Option.bind_eq_bind,yAe,yAa,yAc] at he;obtain ⟨cs,h1,v,h2,rfl,rfl,rfl⟩:=he;refine ⟨rfl,rfl,λU2 h=>?_⟩;have e:=h b off sz hx;have:zci U2 b sz=some cs:=by
    rw[<-h1];unfold zci;rw[e]
   simp only[zaB,hx,this,Option.bind_eq_bind,Option.bind_some,h2]
  ·rename_i cs off hx;simp only[Option.bind_eq_bind,yAe,yAa,yAc] at he;obtain ⟨v,h2,rfl,rfl,rfl⟩:=he;exact ⟨rfl,rfl,λU2 _=>by simp only[zaB,hx,Option.bind_eq_bind,h2,Option.bind_some]⟩
  ·simp at he
theorem Heads.step(H:Heads os q)(T:Tr P orc ops os 0 n0 env sg wrs){i:Nat}(hi:i<q):∃t ao d,os[i]? = some ⟨some t,ao,none⟩/\env (i+1)=putE (env i) (some t) d/\wrs i=[]/\zaB P (orc (some t)) ao (env i) (sg i)=some (d,sg (i+1),[]) /\
  ((∃z,ao=.alloc z/\z.all isC=true/\d=.ptr (sg i).length 0 z.length/\sg (i+1)=sg i++[.cells z])∨(((∃x,ao=.mov x)∨∃n x,ao=.load n x)/\sg (i+1)=sg i)):=by
 obtain ⟨t,ao,h1,h2⟩:=H i hi;have:=T.step i _ h1;simp only[evOper,wantE,yAd] at this;obtain ⟨⟨d,s1,w1⟩,h3,h4⟩:=this;simp only[yAc] at h4;obtain ⟨e1,rfl,rfl⟩:=h4;rcases h2 with ⟨z,rfl,hz⟩ | h2
 ·have h5:=h3;simp only[zaB,yAa,yAc] at h5;obtain ⟨h6,h7,h8⟩:=h5;exact ⟨t,_,d,h1,e1.symm,h8.symm,by rw[h3,h8],.inl ⟨z,rfl,hz,h6.symm,h7.symm⟩⟩
 ·obtain ⟨h6,h7,_⟩:=light_ev h2 h3;exact ⟨t,ao,d,h1,e1.symm,h7,by rw[h3,h7],.inr ⟨h2,h6⟩⟩
theorem Heads.wr(H:Heads os q)(T:Tr P orc ops os 0 n0 env sg wrs){i:Nat}(hi:i<q):wrs i=[]:=by obtain ⟨_,_,_,_,_,h,_⟩:=H.step T hi;exact h
theorem Heads.blk(H:Heads os q)(T:Tr P orc ops os 0 n0 env sg wrs){i t:Nat}{z:List D}(hi:i<q)(ho:os[i]? = some ⟨some t,.alloc z,none⟩):z.all isC=true/\env (i+1)=putE (env i) (some t) (.ptr (sg i).length 0 z.length)/\sg (i+1)=sg i++[.cells z]:=by
 obtain ⟨t',ao,d,h1,h2,_,_,h3⟩:=H.step T hi;rw[ho] at h1;simp only[yAa,AOper.mk.injEq,yBN] at h1;obtain ⟨rfl,rfl⟩:=h1;rcases h3 with ⟨z',e,h4,h5,h6⟩ | ⟨⟨_,e⟩ | ⟨_,_,e⟩,_⟩
 ·simp only[AOp.alloc.injEq] at e;subst e;exact ⟨h4,by rw[h2,h5],h6⟩
 ·simp at e
 ·simp at e
structure Lt (os:List AOper) (q:Nat) (env:Nat->List D) (sg:Nat->Heap) (M0:Nat->Option Nat) (Fz0:Nat->Prop) (w0:World) (dfr:List Deferred) (S:Nat->Prop) (k:Nat) (M:Nat->Option Nat) (Fz:Nat->Prop) (w:World) (a:Act):Prop where
 tsz:a.tmps.size=(env k).length
 dfr:a.defers=dfr
 rel:Rel (sg k) M Fz w
 tmp:∀t d v,(∀i x,i<q->os[i]? = some x->x.dst=some t->S i)->(env k)[t]? = some d->a.tmps[t]? = some v->V (sg k) M Fz w d v
 non:∀i t z,i<q->os[i]? = some ⟨some t,.alloc z,none⟩->¬S i->M (sg i).length=none
 evo:Evo (sg 0) M0 Fz0 w0 (sg k) M Fz w
theorem Inv.late{S:Nat->Prop}{M:Nat->Option Nat}{Fz:Nat->Prop}{w:World}{a:Act}(I:Inv os n0 env sg wrs M0 Fz0 w0 dfr S M Fz w a)(T:Tr P orc ops os 0 n0 env sg wrs)(O:zbp P orc)(H:Heads os q)
  (hS:∀i,q<=i->i<n0->S i) (hq:q<=n0) (hdom:∀b,M0 b≠none->b<(sg 0).length):Lt os q env sg M0 Fz0 w0 dfr S n0 M Fz w a:=by
 have hle:=T.le;refine ⟨by rw[I.tsz,T.envlen O T.le],I.dfr,⟨λb c h=>?_,I.inj,I.fz,Gl.mono I.stp.fz I.gl0⟩,λt d v hc h1 h2=>?_,λi t z hi ho hn=>?_,?_⟩
 ·obtain ⟨h1,h2,h3⟩:=I.own b c h;have hb:b<(sg n0).length:=by
   rcases h3 with ⟨h3,_⟩ | ⟨j,hj,_,_,h3⟩
   ·exact yAH h3 (T.len_le O (by omega) T.le)
   ·exact yAH h3 (T.len_le O (by omega) T.le)
  have hob:(sg n0)[b]? = some (sg n0)[b]:=yAg hb;obtain ⟨o,h4,h5⟩:=I.blk b c h n0 _ (yAo _) hob (λi hi hw=>⟨λ_=>by
   rcases yAB i q with h | h
   ·rw[H.wr T h] at hw;simp at hw
   ·exact hS i h hi,λ_=>hi⟩)
  exact ⟨h1,_,o,hob,h4,h5⟩
 ·exact I.tmp t n0 (yAo _) (λi o hi ho hd=>⟨λ_=>by
   rcases yAB i q with h | h
   ·exact hc i o h ho hd
   ·exact hS i h hi,λ_=>hi⟩) d v h1 h2
 ·cases hM:M (sg i).length with
  |none=>rfl
  |some c=>
   obtain ⟨_,_,h3⟩:=I.own _ c hM;have l1:=T.len_le O (m:=0) (m':=i) (by omega) (by omega);have l2:(sg (i+1)).length=(sg i).length+1:=by rw[(H.blk T hi ho).2.2];simp
   rcases h3 with ⟨h3,_⟩ | ⟨j,hj,hSj,h4,h5⟩
   ·omega
   ·rcases yBE j i with h | h | h
    ·have:=T.len_le O (m:=j+1) (m':=i) (by omega) (by omega);omega
    ·subst h;exact absurd hSj hn
    ·have:=T.len_le O (m:=i+1) (m':=j) (by omega) (by omega);omega
 ·refine ⟨I.stp.size,I.stp.frame,λb c h=>?_,I.stp.fz,λc h=>?_,I.stp.shp,λb ob hb=>?_,I.stp.out⟩
  ·rcases I.stp.ran b c h with h | h
   ·exact .inl ⟨b,h⟩
   ·exact .inr h
  ·rcases I.stp.fz' c h with h | h
   ·exact .inl h
   ·exact .inr (.inr h)
  ·obtain ⟨ob',h1,h2⟩:=T.sz O (by omega) (yAo n0) b ob hb;refine ⟨ob',h1,by omega,λ_=>?_⟩;have hlt:=(yAb.1 hb).1;cases hM:M0 b with
   |some c=>exact I.stp.ext b c hM
   |none=>
    cases hM':M b with
    |none=>rfl
    |some c=>
     obtain ⟨_,_,h3⟩:=I.own b c hM';rcases h3 with ⟨_,h3⟩ | ⟨j,hj,_,h3,_⟩
     ·rw[hM] at h3;simp at h3
     ·have:=T.len_le O (m:=0) (m':=j) (by omega) (by omega);omega
theorem Heads.off(H:Heads os q)(T:Tr P orc ops os 0 n0 env sg wrs){i k t:Nat}{z:List D}(hi:i<q)(ho:os[i]? = some ⟨some t,.alloc z,none⟩)(hik:i<k)(hk:k<os.length)(hb:¬Bef ops i k):(sg i).length∉wrs k:=by
 obtain ⟨y,hy⟩:=T.at hk;rcases T.pair i k _ y hik ho hy with h | h
 ·exact absurd h hb
 ·obtain ⟨_,_,_,_,_,h6,_⟩:=apart_parts h;have l2:(sg (i+1)).length=(sg i).length+1:=by rw[(H.blk T hi ho).2.2];simp
  intro hw;exact h6 _ hw ⟨by simp only[infoOf];omega,by simp only[infoOf];omega⟩
theorem Heads.look(T:Tr P orc ops os 0 n0 env sg wrs){i k t b off sz:Nat}{ao:AOp}(ho:os[i]? = some ⟨some t,ao,none⟩)(hl:(∃x,ao=.mov x)∨∃n x,ao=.load n x)(hx:ox1 ao (env i)=.ptr b off sz)(hik:i<k)(hk:k<os.length)(hb:¬Bef ops i k):b∉wrs k:=by
 obtain ⟨y,hy⟩:=T.at hk;rcases T.pair i k _ y hik ho hy with h | h
 ·exact absurd h hb
 ·obtain ⟨_,_,_,h4,_⟩:=apart_parts h;rcases hl with ⟨x,rfl⟩ | ⟨n,x,rfl⟩
  ·simp[ox1] at hx
  ·simp only[safe,infoOf,wantE,cat,hx] at h4;simp at h4;rcases h4 with h4 | h4
   ·rw[h4];simp
   ·exact h4
theorem put_tmp{a:Act}{dst:Option Nat}{v v':Value}{t:Nat}(h:(a.put dst v).tmps[t]? = some v'):(dst=some t/\v'=v)∨(dst≠some t/\a.tmps[t]? = some v'):=by
 cases dst with
 |none=>exact .inr ⟨by simp,h⟩
 |some s=>
  simp only[Act.put,yAU] at h;split at h
  ·rename_i e;subst e;split at h
   ·simp only[yAa] at h;exact .inl ⟨rfl,h.symm⟩
   ·simp at h
  ·rename_i e;exact .inr ⟨λh=>e (by simpa using h),h⟩
theorem put_size{a:Act}{dst:Option Nat}{v:Value}:(a.put dst v).tmps.size=a.tmps.size:=by cases dst <;> simp[Act.put]
theorem put_dfr{a:Act}{dst:Option Nat}{v:Value}:(a.put dst v).defers=a.defers:=by cases dst <;> rfl
theorem late_wp(O:zbp P orc)(T:Tr P orc ops os 0 n0 env sg wrs)(H:Heads os q)(hq:q<=n0)(htl:∀i j,q<=i->i<j->n0<=j->j<os.length->Bef ops i j)
  (hg:∀(i:Nat) x,os[i]? = some x->x.g=none) (hssa:∀(i j:Nat) x y t,i<q->i<j->os[i]? = some x->os[j]? = some y->x.dst=some t->y.dst≠some t) (hssb:∀(i j:Nat) x y t,i<q->i<=j->os[i]? = some x->os[j]? = some y->y.dst=some t->t∉zb1 x)
  (hrn:∀listed:Array Bool,listed.size=ops.size->Region.ready .any ops listed=[]->∀i,i<ops.size->Lst listed i) {Q:Exit->Act->World->Prop}
  (hQ:∀a' w' M' Fz',a'.defers=dfr->Rel (sg os.length) M' Fz' w'->zas (sg os.length) M' Fz' w' (env os.length) a'.tmps->Evo (sg 0) M0 Fz0 w0 (sg os.length) M' Fz' w'->Q .normal a' w') :
  ∀ (fuel : Nat) (listed : Array Bool) (k : Nat) (M : Nat -> Option Nat) (Fz : Nat -> Prop) (w : World) (a : Act), listed.size = ops.size -> n0 <= k -> k <= os.length -> (∀ i, q <= i -> i < ops.size -> (Lst listed i ↔ i < k)) -> Closed ops (Lst listed) ->
   unl ops.size listed<=fuel->Lt os q env sg M0 Fz0 w0 dfr (Lst listed) k M Fz w a->wpAny P .any ops Q fuel listed a w:=by
 have hlen:=T.len;have fin:∀(listed:Array Bool)(k:Nat)(M:Nat->Option Nat)(Fz:Nat->Prop)(w:World)(a:Act),n0<=k->k<=os.length->(∀i,q<=i->i<ops.size->(Lst listed i↔i<k))->(∀i,i<ops.size->Lst listed i) ->
   Lt os q env sg M0 Fz0 w0 dfr (Lst listed) k M Fz w a->Q .normal a w:=λlisted k M Fz w a hk hkl hS hall L=>by
  have hk2:k=os.length:=by
   rcases yAB k os.length with h | h
   ·have:=(hS k (by omega) (by omega)).1 (hall k (by omega));omega
   ·omega
  subst hk2;exact hQ a w M Fz L.dfr L.rel ⟨L.tsz,λt d v h1 h2=>L.tmp t d v (λi x hi _ _=>hall i (by omega)) h1 h2⟩ L.evo
 intro fuel;induction fuel with
 |zero=>
  intro listed k M Fz w a hsz hk hkl hS hC hf L;have hall:=all_of_none (N:=ops.size) (listed:=listed) (by omega);refine ⟨?_,fin listed k M Fz w a hk hkl hS hall L⟩;cases hr:Region.ready .any ops listed with
  |nil=>rfl
  |cons j l=>
   have hm:j∈Region.ready .any ops listed:=by rw[hr];simp
   rw[mem_ready] at hm;obtain ⟨h1,o,ho,_⟩:=hm;have hj:j<ops.size:=(yAv.1 ho).1;have:=hall j hj;unfold Lst at this;have e:listed[j]? = some (listed[j]'(by omega)):=yAn _;simp only[yA9,e,Option.getD_some] at this h1;rw[this] at h1;simp at h1
 |succ fuel ih=>
  intro listed k M Fz w a hsz hk hkl hS hC hf L;refine ⟨λhr=>fin listed k M Fz w a hk hkl hS (hrn listed hsz hr) L,λj hj=>?_⟩;rw[mem_ready] at hj;obtain ⟨h1,o,ho,hrd⟩:=hj;have hjl:j<ops.size:=(yAv.1 ho).1;have hnj:¬Lst listed j:=by unfold Lst;have e:listed[j]? = some (listed[j]'(by omega)):=yAn _;simp only[yA9,e,Option.getD_some] at h1 ⊢;rw[h1];simp
  have hrd':∀o' e,ops[j]? = some o'->e∈o'.after->Region.binds .any e=true->Lst listed e.on:=λo' e ho' he hbd=>by rw[ho] at ho';simp only[yAa] at ho';subst ho';exact hrd e he hbd
  have hC':Closed ops (Lst (listed.setIfInBounds j true)):=by
   intro i o' e hi ho' he hb;rw[zc1 (by omega)] at hi ⊢;rcases hi with hi | rfl
   ·exact .inl (hC i o' e hi ho' he hb)
   ·exact .inl (hrd' o' e ho' he hb)
  have hu:=unl_set (N:=ops.size) (listed:=listed) (k:=j) (by omega) hjl hnj;have hnb:∀i,i<q->¬Lst listed i->¬Bef ops i j:=λi hi hn hb=>hn (hb.ready hC hrd');rcases yAB j q with hjq | hjq
  ·
   obtain ⟨t,ao,d,hao,henv,hwr,hevo,hkind⟩:=H.step T hjq;obtain ⟨o',ho',hco⟩:=T.comp j _ hao;rw[ho] at ho';simp only[yAa] at ho';subst ho';unfold compOper at hco;split at hco
   ·rename_i g ao' hg' hcomp;simp only[yAa,AOper.mk.injEq] at hco;obtain ⟨hdst,rfl,rfl⟩:=hco;have same:∀s,s∈zb1 (⟨some t,ao',none⟩:AOper)->(env k)[s]? = (env j)[s]?:=λs hs=>
     T.envstab O (m:=j) (m':=k) (t:=s) (by omega) hkl (λi x hi _ hx hd=>hssb j i _ x s hjq hi hao hx hd hs)
    have hE:zas (sg k) M Fz w (maskE (zb1 ⟨some t,ao',none⟩) (env k)) a.tmps:=by
     refine ⟨by rw[L.tsz];simp[maskE],λi d v h1 h2=>?_⟩;rw[maskE_get] at h1;simp only[yAd] at h1;obtain ⟨d0,h3,h4⟩:=h1;by_cases ht:(zb1 ⟨some t,ao',none⟩).contains i=true
     ·rw[if_pos ht] at h4;subst h4;refine L.tmp i d0 v (λm x hm hx hd=>?_) h3 h2;rcases yAB m j with hmj | hmj
      ·rcases T.pair m j x _ hmj hx hao with hb | hb
       ·exact hb.ready hC hrd'
       ·obtain ⟨h5,_⟩:=apart_parts hb;exact absurd (show i∈zb1 ⟨some t,ao',none⟩ by simpa using ht) (h5 i hd)
      ·exact absurd (show i∈zb1 ⟨some t,ao',none⟩ by simpa using ht) (hssb j m _ x i hjq hmj hao hx hd)
     ·rw[if_neg ht] at h4;subst h4;exact .any v
    have hwant:=want_ok (ops:=ops) (o:=o) (g:=none) (b:=true) hE hg' rfl;have tmpk:∀t' d' v',(env k)[t']? = some d'->a.tmps[t']? = some v'->t'≠t->(∀i x,i<q->os[i]? = some x->x.dst=some t'->Lst (listed.setIfInBounds j true) i)->V (sg k) M Fz w d' v':=λt' d' v' q1 q2 e hc=>by
     refine L.tmp t' d' v' (λi x hi hx hd=>?_) q1 q2;rcases (zc1 (by omega) i).1 (hc i x hi hx hd) with h | h
     ·exact h
     ·subst h;rw[hao] at hx;simp only[yAa] at hx;subst hx;simp only[yAa] at hd;exact absurd hd.symm e
    have envt:∀d',(env k)[t]? = some d'->d'=d:=λd' q1=>by
     have hes:=T.envstab O (m:=j+1) (m':=k) (t:=t) (by omega) hkl (λi x hi _ hx hd=>hssa j i _ x t hjq (by omega) hao hx rfl hd);rw[hes,henv] at q1;simp only[putE,yAK,if_true] at q1;split at q1
     ·simp only[yAa] at q1;exact q1.symm
     ·simp at q1
    have hS':∀i,q<=i->i<ops.size->(Lst (listed.setIfInBounds j true) i↔i<k):=λi hi hil=>by
     rw[zc1 (by omega),hS i hi hil];constructor
     ·rintro (h | h)
      ·exact h
      ·omega
     ·exact .inl
    unfold wpOp;rw[ho];simp only[hwant,if_true];left;rcases hkind with ⟨z,rfl,hz,rfl,hsg⟩ | ⟨hlt,hsg⟩
    ·refine op_wp (O o.dst) L.rel hE hcomp rfl _ λv w1 M1 Fz1 R1 hv EV _=>?_;have hlj:(sg j).length<(sg (j+1)).length:=by rw[hsg];simp
     have hst:=T.stab O (m:=j+1) (m':=k) (b:=(sg j).length) (by omega) hkl hlj (λi hi hik hw=>by
      rcases yAB i q with h | h
      ·rw[H.wr T h] at hw;simp at hw
      ·exact H.off T hjq hao (by omega) (by omega) (λhb=>hnj (hb.in hC ((hS i h (by omega)).2 hik))) hw)
     rw[hsg,yA0 (yAo _),yBV,xAf] at hst;obtain ⟨M2,R2,hv2,hext,hoth,hevo⟩:=late_alloc L.rel hst (L.non j t z hjq hao hnj) hz R1 hv EV;refine ih (listed.setIfInBounds j true) k M2 Fz1 w1 _ (by simp[hsz]) hk hkl hS' hC' (by omega) ⟨by rw[put_size,L.tsz],by rw[put_dfr,L.dfr],R2,λt' d v' hc q1 q2=>?_,λi t' z' hi hi2 hn=>?_,?_⟩
     ·rcases put_tmp q2 with ⟨e,rfl⟩ | ⟨e,q2⟩
      ·rw[hdst] at e;simp only[yAa] at e;subst e;rw[envt d q1];exact hv2
      ·exact (tmpk t' d v' q1 q2 (λh=>e (by rw[hdst,h])) hc).sub SzLe.refl hext EV.fz EV.shp
     ·have hni:i≠j:=λe=>hn ((zc1 (by omega) i).2 (.inr e));have hl2:(sg (i+1)).length=(sg i).length+1:=by rw[(H.blk T hi hi2).2.2];simp
      have hl3:(sg (j+1)).length=(sg j).length+1:=by rw[hsg];simp
      rw[hoth _ (by
       intro e;rcases Nat.lt_or_gt_of_ne hni with h | h
       ·have:=T.len_le O (m:=i+1) (m':=j) (by omega) (by omega);omega
       ·have:=T.len_le O (m:=j+1) (m':=i) (by omega) (by omega);omega)]
      exact L.non i t' z' hi hi2 (λh=>hn ((zc1 (by omega) i).2 (.inl h)))
     ·exact hevo _ _ _ _ L.evo (T.len_le O (by omega) hkl) (T.len_le O (by omega) (by omega))
    ·have hev1:zaB P (orc (some t)) ao' (env j) (sg j)=some (d,sg j,[]):=by rw[hevo,hsg]
     have hcong:∀U,zaB P (orc (some t)) ao' (maskE (zb1 ⟨some t,ao',none⟩) (env k)) U=zaB P (orc (some t)) ao' (env j) U:=λU=>by
      refine evOp_congr (comp_notSelect hcomp) (λx hx=>?_);have hin:∀n,x=.t n->n∈zb1 (⟨some t,ao',none⟩:AOper):=λn hn=>by subst hn;simp only[zb1,yAE,yCq];exact .inl ⟨.t n,hx,rfl⟩
      rw[maskE_ev hin];cases x with
      |k d=>rfl
      |t n=>simp only[Opd.ev,same n (hin n rfl)]
     have hevk:zaB P (orc o.dst) ao' (maskE (zb1 ⟨some t,ao',none⟩) (env k)) (sg k)=some (d,sg k,[]):=by
      rw[hdst,hcong];refine (light_ev hlt hev1).2.2 (sg k) (λb off sz hx=>?_);by_cases hbl:b<(sg j).length
      ·exact T.stab O (m:=j) (m':=k) (b:=b) (by omega) hkl hbl (λi hi hik hw=>by
        rcases yAB i q with h | h
        ·rw[H.wr T h] at hw;simp at hw
        ·exact Heads.look T hao hlt hx (by omega) (by omega) (λhb=>hnj (hb.in hC ((hS i h (by omega)).2 hik))) hw)
      ·exfalso;rcases hlt with ⟨x,rfl⟩ | ⟨n,x,rfl⟩
       ·simp[ox1] at hx
       ·simp only[ox1] at hx;simp only[zaB,hx,zci,yAG (Nat.le_of_not_lt hbl)] at hev1;simp at hev1
     refine op_wp (O o.dst) L.rel hE hcomp hevk _ λv w1 M1 Fz1 R1 hv EV _=>?_;refine ih (listed.setIfInBounds j true) k M1 Fz1 w1 _ (by simp[hsz]) hk hkl hS' hC' (by omega) ⟨by rw[put_size,L.tsz],by rw[put_dfr,L.dfr],R1,λt' d' v' hc q1 q2=>?_,λi t' z' hi hi2 hn=>?_,?_⟩
     ·rcases put_tmp q2 with ⟨e,rfl⟩ | ⟨e,q2⟩
      ·rw[hdst] at e;simp only[yAa] at e;subst e;rw[envt d' q1];exact hv
      ·exact (tmpk t' d' v' q1 q2 (λh=>e (by rw[hdst,h])) hc).mono EV
     ·have hbl:(sg i).length<(sg k).length:=by
       have h1:(sg (i+1)).length=(sg i).length+1:=by rw[(H.blk T hi hi2).2.2];simp
       have:=T.len_le O (m:=i+1) (m':=k) (by omega) hkl;omega
      obtain ⟨ob',k1,_,k3⟩:=EV.keep _ _ (yAg hbl);rw[yAg hbl] at k1;simp only[yAa] at k1;rw[k3 (by rw[<-k1])];exact L.non i t' z' hi hi2 (λh=>hn ((zc1 (by omega) i).2 (.inl h)))
     ·exact L.evo.trans EV (T.len_le O (by omega) hkl)
   ·simp at hco
  ·have hkj:k<=j:=by
    rcases yAB j k with h | h
    ·exact absurd ((hS j hjq hjl).2 h) hnj
    ·exact h
   have hjk:j=k:=by
    rcases yAB k j with h | h
    ·have hb:=htl k j (by omega) h (by omega) (by omega);have:=(hS k (by omega) (by omega)).1 (hb.ready hC hrd');omega
    ·omega
   subst hjk;obtain ⟨ao,hao⟩:=T.at (i:=j) (by omega);obtain ⟨o',ho',hco⟩:=T.comp j ao hao;rw[ho] at ho';simp only[yAa] at ho';subst ho';have hstep:=T.step j ao hao;have hgn:=hg j ao hao;have hE:zas (sg j) M Fz w (maskE (zb1 ao) (env j)) a.tmps:=by
    refine ⟨by rw[L.tsz];simp[maskE],λi d v h1 h2=>?_⟩;rw[maskE_get] at h1;simp only[yAd] at h1;obtain ⟨d0,h3,h4⟩:=h1;by_cases ht:(zb1 ao).contains i=true
    ·rw[if_pos ht] at h4;subst h4;refine L.tmp i d0 v (λm x hm hx hd=>?_) h3 h2;rcases T.pair m j x ao (by omega) hx hao with hb | hb
     ·exact hb.ready hC hrd'
     ·obtain ⟨h5,_⟩:=apart_parts hb;exact absurd (show i∈zb1 ao by simpa using ht) (h5 i hd)
    ·rw[if_neg ht] at h4;subst h4;exact .any v
   unfold compOper at hco;split at hco
   ·rename_i g ao' hg' hcomp;simp only[yAa] at hco;subst hco;simp only at hgn;subst hgn;have hwant:=want_ok (ops:=ops) (o:=o) (g:=none) (b:=true) hE hg' rfl;have hcong:zaB P (orc o.dst) ao' (maskE (zb1 ⟨o.dst,ao',none⟩) (env j)) (sg j)=zaB P (orc o.dst) ao' (env j) (sg j):=by
     refine evOp_congr (comp_notSelect hcomp) (λx hx=>maskE_ev (λn hn=>?_));subst hn;simp only[zb1,yAE,yCq];exact .inl ⟨.t n,hx,rfl⟩
    simp only[evOper,wantE,yAd] at hstep;obtain ⟨⟨d,U1,wr1⟩,hev,h⟩:=hstep;simp only[yAc] at h;obtain ⟨henv,hsg,hwr⟩:=h;subst hsg hwr;unfold wpOp;rw[ho];simp only[hwant,if_true];left;refine op_wp (O o.dst) L.rel hE hcomp (by rw[hcong];exact hev) _ λv w1 M1 Fz1 R1 hv EV _=>?_;refine ih (listed.setIfInBounds j true) (j+1) M1 Fz1 w1 _ (by simp[hsz]) (by omega) (by omega) (λi hi hil=>?_) hC' (by omega) ⟨by rw[put_size,L.tsz,T.envlen O (m:=j) (by omega),T.envlen O (m:=j+1) (by omega)],by rw[put_dfr,L.dfr],R1,λt' d' v' hc q1 q2=>?_,λi t'' z' hi hi2 hn=>?_,?_⟩
    ·rw[zc1 (by omega),hS i hi hil];omega
    ·rw[<-henv] at q1;rcases put_tmp q2 with ⟨e,rfl⟩ | ⟨e,q2⟩
     ·rw[e] at q1;simp only[putE,yAK,if_true] at q1;split at q1
      ·simp only[yAa] at q1;rw[<-q1];exact hv
      ·simp at q1
     ·have q3:(env j)[t']? = some d':=by
       rw[<-q1];cases hd:o.dst with
       |none=>rfl
       |some s=>simp only[putE];rw[yAD (λhe=>e (by rw[hd,he]))]
      refine (L.tmp t' d' v' (λi x hi hx hd=>?_) q3 q2).mono EV;rcases (zc1 (by omega) i).1 (hc i x hi hx hd) with h | h
      ·exact h
      ·omega
    ·have hn':¬Lst listed i:=λh=>hn ((zc1 (by omega) i).2 (.inl h));have hoff:=H.off T hi hi2 (by omega) (by omega) (hnb i hi hn');have hbl:(sg i).length<(sg j).length:=by
      have h1:(sg (i+1)).length=(sg i).length+1:=by rw[(H.blk T hi hi2).2.2];simp
      have:=T.len_le O (m:=i+1) (m':=j) (by omega) (by omega);omega
     have hob:(sg j)[(sg i).length]? = some (sg j)[(sg i).length]:=yAg hbl;obtain ⟨ob',k1,_,k3⟩:=EV.keep _ _ hob;rw[(T.frame O (i:=j) (by omega)).2 _ hbl hoff,hob] at k1;simp only[yAa] at k1;rw[k3 (by rw[<-k1])];exact L.non i t'' z' hi hi2 hn'
    ·exact L.evo.trans EV (T.len_le O (by omega) (by omega))
   ·simp at hco
theorem drawnG_wp{M:Nat->Option Nat}{Fz:Nat->Prop}{w:World}{a:Act}(O:zbp P orc)(T:Tr P orc ops os 0 n0 env sg wrs)(H:Heads os q)(hq:q<=n0)(htl:∀i j,q<=i->i<j->n0<=j->j<os.length->Bef ops i j)
  (hg:∀(i:Nat) x,os[i]? = some x->x.g=none) (hssa:∀(i j:Nat) x y t,i<q->i<j->os[i]? = some x->os[j]? = some y->x.dst=some t->y.dst≠some t) (hssb:∀(i j:Nat) x y t,i<q->i<=j->os[i]? = some x->os[j]? = some y->y.dst=some t->t∉zb1 x)
  (hrn:∀listed:Array Bool,listed.size=ops.size->Region.ready .any ops listed=[]->∀i,i<ops.size->Lst listed i) (R:Rel (sg 0) M Fz w) (E:zas (sg 0) M Fz w (env 0) a.tmps) {Q:Exit->Act->World->Prop}
  (hQ:∀a' w' M' Fz',a'.defers=a.defers->Rel (sg os.length) M' Fz' w'->zas (sg os.length) M' Fz' w' (env os.length) a'.tmps->Evo (sg 0) M Fz w (sg os.length) M' Fz' w'->Q .normal a' w') :
  wpAny P .any ops Q ops.size (Array.replicate ops.size false) a w:=by
 have hlen:=T.len;have hle:=T.le;have hdom:∀b,M b≠none->b<(sg 0).length:=λb h=>by
  cases hM:M b with
  |none=>exact absurd hM h
  |some c=>exact (R.lt hM).1
 have main:∀(fuel:Nat)(listed:Array Bool)(M':Nat->Option Nat)(Fz':Nat->Prop)(w':World)(a':Act),listed.size=ops.size->unl ops.size listed<=fuel->Closed ops (Lst listed)->(∀i,Lst listed i->i<n0) ->
   Inv os n0 env sg wrs M Fz w a.defers (Lst listed) M' Fz' w' a'->wpAny P .any ops Q fuel listed a' w':=by
  intro fuel;induction fuel with
  |zero=>intro listed M' Fz' w' a' hsz hu hC hlt I;have hall:=all_of_none (N:=ops.size) (listed:=listed) (by omega);exact late_wp O T H hq htl hg hssa hssb hrn hQ 0 listed n0 M' Fz' w' a' hsz (yAo _) hle (λi _ hi=>⟨λh=>hlt i h,λ_=>hall i hi⟩) hC (by omega) (I.late T O H (λi _ h=>hall i (by omega)) hq hdom)
  |succ fuel ih=>
   intro listed M' Fz' w' a' hsz hu hC hlt I;by_cases hfull:∀i,q<=i->i<n0->Lst listed i
   ·exact late_wp O T H hq htl hg hssa hssb hrn hQ (fuel+1) listed n0 M' Fz' w' a' hsz (yAo _) hle (λi hi _=>⟨λh=>hlt i h,λh=>hfull i hi h⟩) hC hu (I.late T O H hfull hq hdom)
   ·refine ⟨λhr=>?_,λj hj=>?_⟩
    ·exact absurd (λi _ hi=>hrn listed hsz hr i (by omega)) hfull
    ·rw[mem_ready] at hj;obtain ⟨h1,o,ho,hrd⟩:=hj;have hjl:j<ops.size:=(yAv.1 ho).1;have hnj:¬Lst listed j:=by
      unfold Lst;have e:listed[j]? = some (listed[j]'(by omega)):=yAn _;simp only[yA9,e,Option.getD_some] at h1 ⊢;rw[h1];simp
     have hrd':∀o' e,ops[j]? = some o'->e∈o'.after->Region.binds .any e=true->Lst listed e.on:=λo' e ho' he hbd=>by rw[ho] at ho';simp only[yAa] at ho';subst ho';exact hrd e he hbd
     have hjn:j<n0:=by
      rcases yAB j n0 with h | h
      ·exact h
      ·exact absurd (λi hi hin=>(htl i j hi (by omega) h (by omega)).ready hC hrd') hfull
     refine I.step (S':=Lst (listed.setIfInBounds j true)) T O hC hjn hnj hrd' (λi=>zc1 (by omega) i) _ λa1 w1 M1 Fz1 I1=>?_;refine ih (listed.setIfInBounds j true) M1 Fz1 w1 a1 (by simp[hsz]) ?_ ?_ ?_ I1
     ·have:=unl_set (N:=ops.size) (listed:=listed) (k:=j) (by omega) hjl hnj;omega
     ·intro i o' e hi ho' he hb;rw[zc1 (by omega)] at hi ⊢;rcases hi with hi | rfl
      ·exact .inl (hC i o' e hi ho' he hb)
      ·exact .inl (hrd' o' e ho' he hb)
     ·intro i hi;rw[zc1 (by omega)] at hi;rcases hi with hi | rfl
      ·exact hlt i hi
      ·exact hjn
 have none0:∀i,¬Lst (Array.replicate ops.size false) i:=λi h=>by unfold Lst at h;rw[getD_replicate_false'] at h;simp at h
 refine main ops.size _ M Fz w a (by simp) ?_ (λj o e hj=>absurd hj (none0 j)) (λi hi=>absurd hi (none0 i)) (Inv.start R rfl E (λi _=>⟨λh=>absurd h (none0 i),λh=>by omega⟩) T O);unfold unl;exact yAA (List.length_filter_le _ _) (by simp)
def reOn(g:Nat->Nat)(o:Oper):Oper:={ o with after:=o.after.map λe=>{ e with on:=g e.on } }
structure Perm (ops ops2:Array Oper) (f g:Nat->Nat):Prop where
 size:ops2.size=ops.size
 get:∀i,i<ops.size->ops2[i]? = (ops[f i]?).map (reOn g)
 f_lt:∀i,i<ops.size->f i<ops.size
 g_lt:∀i,i<ops.size->g i<ops.size
 fg:∀i,i<ops.size->f (g i)=i
 gf:∀i,i<ops.size->g (f i)=i
 guard:∀(i:Nat) o,ops[i]? = some o->o.guard=none
 on:∀(i:Nat) o e,ops[i]? = some o->e∈o.after->Region.binds .any e=true->e.on<ops.size
theorem reOn_wp{g:Nat->Nat}{o:Oper}{a:Act}{w:World}{K:Act->World->Prop}{Q:Exit->Act->World->Prop}(h:(reOn g o).wp P a w K Q∨((reOn g o).asks P a w/\LetsOut Q)):o.wp P a w K Q∨(o.asks P a w/\LetsOut Q):=h
theorem getD_any(l:Array Bool)(i:Nat)(b b':Bool)(h:i<l.size):l.getD i b=l.getD i b':=by have e:l[i]? = some l[i]:=yAn _;simp only[yA9,e,Option.getD_some]
theorem perm_rdy{ops ops2:Array Oper}{f g:Nat->Nat}(X:Perm ops ops2 f g):∀(listed listed2:Array Bool),listed.size=ops.size->listed2.size=ops.size->(∀i,i<ops.size->listed2.getD i true=listed.getD (f i) true)->∀j,j∈Region.ready .any ops listed->g j∈Region.ready .any ops2 listed2:=by intro listed listed2 hs hs2 hl j hj;rw[mem_ready] at hj ⊢;obtain ⟨h1,o,ho,hr⟩:=hj;have hj:j<ops.size:=(yAv.1 ho).1;refine ⟨by rw[hl _ (X.g_lt j hj),X.fg j hj];exact h1,reOn g o,by rw[X.get _ (X.g_lt j hj),X.fg j hj,ho];rfl,λe he hb=>?_⟩;simp only[reOn,Array.mem_map] at he;obtain ⟨e0,he0,rfl⟩:=he;have hon:=X.on j o e0 ho he0 hb;rw[getD_any _ _ false true (by rw[hs2];exact X.g_lt _ hon),hl _ (X.g_lt _ hon),X.fg _ hon,getD_any _ _ true false (by rw[hs];exact hon)];exact hr e0 he0 hb
theorem perm_wp{ops ops2:Array Oper}{f g:Nat->Nat}(X:Perm ops ops2 f g){Q:Exit->Act->World->Prop}:∀(fuel:Nat)(listed listed2:Array Bool)(a:Act)(w:World),listed.size=ops.size->listed2.size=ops.size->(∀i,i<ops.size->listed2.getD i true=listed.getD (f i) true) ->
  wpAny P .any ops2 Q fuel listed2 a w->wpAny P .any ops Q fuel listed a w:=by
 have rdy2:∀(listed listed2:Array Bool),listed.size=ops.size->listed2.size=ops.size->(∀i,i<ops.size->listed2.getD i true=listed.getD (f i) true)->Region.ready .any ops listed=[]->Region.ready .any ops2 listed2=[]:=by
  intro listed listed2 hs hs2 hl h;cases hr:Region.ready .any ops2 listed2 with
  |nil=>rfl
  |cons i l=>
   exfalso;have hm:i∈Region.ready .any ops2 listed2:=by rw[hr];simp
   rw[mem_ready] at hm;obtain ⟨h1,o,ho,hr2⟩:=hm;have hi:i<ops.size:=by have:=(yAv.1 ho).1;rw[X.size] at this;exact this
   rw[X.get i hi] at ho;simp only[yAd] at ho;obtain ⟨o0,ho0,rfl⟩:=ho;have:f i∈Region.ready .any ops listed:=by rw[mem_ready];refine ⟨by rw[<-hl i hi];exact h1,o0,ho0,λe he hb=>?_⟩;have hon:=X.on _ o0 e ho0 he hb;have:=hr2 { e with on:=g e.on } (by simp only[reOn,Array.mem_map];exact ⟨e,he,rfl⟩) hb;simp only at this;rw[getD_any _ _ false true (by rw[hs2];exact X.g_lt _ hon),hl _ (X.g_lt _ hon),X.fg _ hon,getD_any _ _ true false (by rw[hs];exact hon)] at this;exact this
   rw[h] at this;simp at this
 intro fuel;induction fuel with
 |zero=>
  intro listed listed2 a w hs hs2 hl h;refine ⟨?_,h.2⟩;cases hr:Region.ready .any ops listed with
  |nil=>rfl
  |cons j l=>have:=perm_rdy X listed listed2 hs hs2 hl j (by rw[hr];simp);rw[h.1] at this;simp at this
 |succ fuel ih=>
  intro listed listed2 a w hs hs2 hl h;refine ⟨λhr=>h.1 (rdy2 listed listed2 hs hs2 hl hr),λj hj=>?_⟩;have hj2:=perm_rdy X listed listed2 hs hs2 hl j hj;have:=h.2 (g j) hj2;rw[mem_ready] at hj;obtain ⟨_,o,ho,_⟩:=hj;have hjl:j<ops.size:=(yAv.1 ho).1;have ho2:ops2[g j]? = some (reOn g o):=by rw[X.get _ (X.g_lt j hjl),X.fg j hjl,ho];rfl
  have hgd:o.guard=none:=X.guard j o ho;refine wpOp_mono (K:=wpAny P .any ops2 Q fuel (listed2.setIfInBounds (g j) true)) (λa w hh=>ih _ _ a w (by simp[hs]) (by simp[hs2]) (λi hi=>?_) hh) ?_
  ·have e1:(listed2.setIfInBounds (g j) true).getD i true=if g j=i then true else listed2.getD i true:=by
    simp only[yA9,yAU];split
    ·split <;> simp
    ·rfl
   have e2:(listed.setIfInBounds j true).getD (f i) true=if j=f i then true else listed.getD (f i) true:=by
    simp only[yA9,yAU];split
    ·split <;> simp
    ·rfl
   rw[e1,e2,hl i hi];by_cases h1:g j=i
   ·rw[if_pos h1,if_pos (by rw[<-h1,X.fg j hjl])]
   ·rw[if_neg h1,if_neg (λh2=>h1 (by rw[h2,X.gf i hi]))]
  ·unfold wpOp at this ⊢;rw[ho2] at this;rw[ho];have w1:Region.wanted (reOn g o) (yielded ops2 a.tmps)=true:=by simp only[Region.wanted,reOn,hgd]
   have w2:Region.wanted o (yielded ops a.tmps)=true:=by simp only[Region.wanted,hgd]
   simp only[w1,if_true] at this;simp only[w2,if_true];exact reOn_wp this
theorem perm_bef{ops ops2:Array Oper}{f g:Nat->Nat}(X:Perm ops ops2 f g){i j:Nat}(h:Bef ops i j):Bef ops2 (g i) (g j):=by
 have at2:∀{j o},ops[j]? = some o->ops2[g j]? = some (reOn g o):=λ{j o} ho=>by have hj:=(yAv.1 ho).1;rw[X.get _ (X.g_lt j hj),X.fg j hj,ho];rfl
 induction h with
 |one ho he hb hi=>exact .one (at2 ho) (by simp only[reOn,Array.mem_map];exact ⟨_,he,rfl⟩) (e:={ on:=g _,ground:=_ }) hb (by rw[<-hi])
 |more ho he hb hk _ ih=>exact .more (at2 ho) (by simp only[reOn,Array.mem_map];exact ⟨_,he,rfl⟩) (e:={ on:=g _,ground:=_ }) hb (by rw[<-hk]) ih
def isLt(o:AOper):Bool:=match o with
 | ⟨some _,.alloc z,none⟩=>z.all isC
 | ⟨some _,.mov _,none⟩=>true
 | ⟨some _,.load _ _,none⟩=>true
 |_=>false
def isCl(o:AOper):Bool:=match o.op with | .call ..=>true | _=>false
def headsL:Nat->Nat->List AOper->List Nat->List Nat
 |i, m, o :: os, b :: bs => match isLt o && Nat.beq (Nat.lor b m) m with
  |true=>i::headsL (i+1) (Nat.lor m (2 ^ i)) os bs
  |false=>headsL (i+1) m os bs
 |_,_,_,_=>[]
def permP(hs:List Nat)(n:Nat):List Nat:=hs++(List.range n).filter λi=>hs.all λj=>!Nat.beq j i
def permL(pi:List Nat)(os:List AOper):List AOper:=pi.map λi=>os.getD i default
def fOf(pi:List Nat)(i:Nat):Nat:=pi.getD i 0
def gOf(pi:List Nat)(i:Nat):Nat:=pi.findIdx λj=>Nat.beq j i
def permOk(pi:List Nat)(n:Nat):Bool:=Nat.beq pi.length n&&(List.range n).all λi=>(Nat.blt (fOf pi i) n&&Nat.beq (gOf pi (fOf pi i)) i)&&(Nat.blt (gOf pi i) n&&Nat.beq (fOf pi (gOf pi i)) i)
def ghStat(bef pi:List Nat)(q n0:Nat)(os:List AOper):Bool:=
 ((List.range os.length).all λj=>Nat.blt j n0 || (List.range j).all λi=>Nat.blt i q || (bef.getD (fOf pi j) 0).testBit (fOf pi i)) &&
 (((os.take q).all isLt&&os.all (λo=>o.g.isNone)) &&
 (((List.range os.length).all λj=>(List.range j).all λi=>!Nat.blt i q || (match (os.getD i default).dst,(os.getD j default).dst with | some s,some t=>!Nat.beq s t | _,_=>true)) &&
 (((List.range os.length).all λj=>(List.range (j+1)).all λi=>!Nat.blt i q || (match (os.getD j default).dst with | some t=>!(zb1 (os.getD i default)).contains t | _=>true)) &&
 (permOk pi os.length&&(Nat.ble q n0&&Nat.ble n0 os.length)))))
def ghOk(bef pi:List Nat)(is:List Info):Bool:=
 (List.range is.length).all λj=>(List.range j).all λi=>(bef.getD (fOf pi j) 0).testBit (fOf pi i) || apart (is.getD i default) (is.getD j default)
def lateP(os:List AOper)(bef:List Nat):Option (List Nat×Nat×Nat):=
 let hs:=headsL 0 0 os bef
 let fc:=(os.takeWhile λo=>!isCl o).length
 match hs.any λh=>Nat.blt fc h with
 |false=>none
 |true=>
  let pi:=permP hs os.length
  let n0:=hs.length+(((permL pi os).drop hs.length).takeWhile λo=>!isCl o).length
  match Nat.beq pi.length os.length&&ghStat bef pi hs.length n0 (permL pi os) with
  |true=>some (pi,hs.length,n0)
  |false=>none
theorem lateP_ok{os:List AOper}{bef pi:List Nat}{q n0:Nat}(h:lateP os bef=some (pi,q,n0)):pi.length=os.length/\ghStat bef pi q n0 (permL pi os)=true:=by
 unfold lateP at h;dsimp only at h;split at h
 ·simp at h
 ·split at h
  ·simp only[yAa,yAc] at h;obtain ⟨rfl,rfl,rfl⟩:=h;rename_i hs;simp only[yAj] at hs;exact ⟨yAi hs.1,hs.2⟩
  ·simp at h
theorem drawG_wp (hmix:P.follows .mixedOrders=true) (O:zbp P orc) {id q n0:Nat} {pi:List Nat} {ops:Array Oper} {os:List AOper} {U U':Heap} {M:Nat→Option Nat} {Fz:Nat→Prop} {w:World} {e e':List D} {a:Act} {is:List Info} {Q:Exit→Act→World→Prop}
  (hc:ops.toList.mapM (compOper P ops)=some os) (hback:backward ops.toList=true) (R:Rel U M Fz w) (E:zas U M Fz w e a.tmps) (h:evTr P orc n0 (permL pi os) e U=some (e',U',is)) (hln:pi.length=os.length)
  (hst:ghStat (befs ops.toList) pi q n0 (permL pi os)=true) (hok:ghOk (befs ops.toList) pi is=true)
  (hQ:∀a' w' M' Fz',a'.defers=a.defers→Rel U' M' Fz' w'→zas U' M' Fz' w' e' a'.tmps→Evo U M Fz w U' M' Fz' w'→Q .normal a' w'):(Code.region id ops true).wp P Q a w:=by
 obtain ⟨h1,h2⟩:=zdr hc
 have hlen:os.length=ops.size:=by simpa using h1
 have hl2:(permL pi os).length=os.length:=by simp [permL,hln]
 simp only [ghStat,yAj] at hst
 obtain ⟨c2,⟨c3,c4⟩,c5,c6,c7,c8,c9⟩:=hst
 have c8:=yA8 c8
 have c9:=yA8 c9
 simp only [permOk,yAj,yAp,yBS] at c7
 have pm:=c7.2
 rw [hl2,hlen] at pm
 have f_lt:∀i,i<ops.size→fOf pi i<ops.size:=fun i hi=>yAQ.mp (pm i hi).1.1
 have g_lt:∀i,i<ops.size→gOf pi i<ops.size:=fun i hi=>yAQ.mp (pm i hi).2.1
 have fg:∀i,i<ops.size→fOf pi (gOf pi i)=i:=fun i hi=>yAi (pm i hi).2.2
 have gf:∀i,i<ops.size→gOf pi (fOf pi i)=i:=fun i hi=>yAi (pm i hi).1.2
 have hget:∀i,i<ops.size→(permL pi os)[i]? = os[fOf pi i]?:=fun i hi=>by
  have hip:i<pi.length:=by omega
  have e:fOf pi i=pi[i]:=by simp [fOf,yAL,yAg hip]
  have hf:=f_lt i hi
  simp only [permL,yAl,yAg hip,Option.map_some,←e,yAL]
  rw [yAg (show fOf pi i<os.length by omega)]
  rfl
 generalize hos2:permL pi os=os2 at h hl2 hget c2 c3 c4 c5 c6 c9
 obtain ⟨env,sg,wrs,k1,k2,k3,k4,k5,k6,k7⟩:=evTr_tr (n:=n0) os2 n0 e e' U U' is h
 subst k1 k2 k3 k4
 have c1:=hok
 unfold ghOk at c1
 have hg2:∀(i:Nat) x,os2[i]? = some x→x.g=none:=fun i x hx=>by
  have:=yAp.1 c4 x (yAy hx)
  simpa using this
 have hgd:∀(i:Nat) o,ops[i]? = some o→o.guard=none:=fun i o ho=>by
  have hil:=(yAv.1 ho).1
  have hx:os2[gOf pi i]? = some os[i]:=by rw [hget _ (g_lt i hil),fg i hil]; exact yAg (by omega)
  obtain ⟨o',ho',hco⟩:=h2 i _ (yAg (by omega))
  rw [yA5,ho] at ho'
  simp only [yAa] at ho'
  subst ho'
  have hgn:=hg2 _ _ hx
  unfold compOper at hco
  split at hco
  ·rename_i g ao hg _
   simp only [yAa] at hco
   rw [←hco] at hgn
   simp only at hgn
   subst hgn
   cases hq:o.guard with
   | none=>rfl
   | some p =>
    obtain ⟨j,want⟩:=p
    rw [hq] at hg
    simp only [compG] at hg
    split at hg <;> simp at hg
  ·simp at hco
 let ops2:Array Oper:=Array.ofFn fun i:Fin ops.size=>reOn (gOf pi) (ops[fOf pi i]'(f_lt i i.isLt))
 have hs2:ops2.size=ops.size:=by simp [ops2]
 have hg2':∀i,i<ops.size→ops2[i]? = (ops[fOf pi i]?).map (reOn (gOf pi)):=fun i hi=>by
  rw [yAn (by omega),yAn (f_lt i hi)]
  simp [ops2]
 have X:Perm ops ops2 (fOf pi) (gOf pi):=⟨hs2,hg2',f_lt,g_lt,fg,gf,hgd,fun i o e ho he hb=>by
  have:=backward_ok hback i o e ho he hb
  have:=(yAv.1 ho).1
  omega⟩
 have T:Tr P orc ops2 os2 0 n0 env sg wrs:={
  len:=by rw [hl2,hs2,hlen]
  comp:=fun j ao hj=>by
   have hjl:=(yAb.1 hj).1
   rw [hget j (by omega)] at hj
   obtain ⟨o,ho,hco⟩:=h2 _ ao hj
   rw [yA5] at ho
   refine ⟨reOn (gOf pi) o,by rw [hg2' j (by omega),ho]; rfl,?_⟩
   unfold compOper at hco ⊢
   have e1:compG ops o.guard=some none:=by rw [hgd _ o ho]; rfl
   have e2:compG ops2 (reOn (gOf pi) o).guard=some none:=by
    show compG ops2 o.guard=some none
    rw [hgd _ o ho]; rfl
   rw [e1] at hco
   rw [e2]
   exact hco
  step:=fun i ao hi=>(k6 i ao hi).1
  wrk:=fun i hi=>k7 i (by omega) hi
  le:=by omega
  pair:=fun i j x y hij hx hy=>by
   have hj:=(yAb.1 hy).1
   have h3:=yAp.1 c1 j (by simp; omega)
   have h4:=yAp.1 h3 i (by simpa using hij)
   simp only [yAt] at h4
   rcases h4 with h4 | h4
   ·left
    have:=perm_bef X (befs_ok h4)
    rwa [gf i (by omega),gf j (by omega)] at this
   ·right
    simp only [yAL,(k6 i x hx).2,(k6 j y hy).2,Option.getD_some] at h4
    exact h4
  lead:=fun i hi=>by omega
  ple:=by omega }
 have H:Heads os2 q:=fun i hi=>by
  have hil:i<os2.length:=by omega
  have:=yAp.1 c3 (os2[i]) (by
   rw [yB7]
   exact ⟨i,by rw [yBA,if_pos hi]; exact yAg hil⟩)
  rw [yAg hil]
  generalize os2[i]=x at this
  unfold isLt at this
  split at this
  ·exact ⟨_,_,rfl,.inl ⟨_,rfl,this⟩⟩
  ·exact ⟨_,_,rfl,.inr (.inl ⟨_,rfl⟩)⟩
  ·exact ⟨_,_,rfl,.inr (.inr ⟨_,_,rfl⟩)⟩
  ·simp at this
 refine wp_region_any hmix ?_
 have R1:Rel (sg 0) M Fz { w with drawn:=w.drawn+1 }:=R.heap rfl ⟨rfl,rfl,rfl⟩
 have EH:Evo (sg 0) M Fz w (sg 0) M Fz { w with drawn:=w.drawn+1 }:=Evo.heap R rfl ⟨rfl,rfl,rfl⟩
 have main:=drawnG_wp (Q:=Q) O T H (by omega) (fun i j hqi hij hnj hj=>by
   have h3:=yAp.1 c2 j (by simpa using hj)
   simp only [yAt] at h3
   rcases h3 with h3 | h3
   ·have:=yAQ.mp h3; omega
   ·have h4:=yAp.1 h3 i (by simpa using hij)
    simp only [yAt] at h4
    rcases h4 with h4 | h4
    ·have:=yAQ.mp h4; omega
    ·have:=perm_bef X (befs_ok h4)
     rwa [gf i (by omega),gf j (by omega)] at this) hg2
  (fun i j x y t hi hij hx hy hd hd'=>by
   have hj:=(yAb.1 hy).1
   have h3:=yAp.1 c5 j (by simpa using hj)
   have h4:=yAp.1 h3 i (by simpa using hij)
   simp only [yAL,hx,hy,Option.getD_some,hd,hd',yAQ.mpr hi,Nat.beq_refl] at h4
   simp at h4)
  (fun i j x y t hi hij hx hy hd hm=>by
   have hj:=(yAb.1 hy).1
   have h3:=yAp.1 c6 j (by simpa using hj)
   have h4:=yAp.1 h3 i (by simp; omega)
   have hm':(zb1 x).contains t=true:=by simpa using hm
   simp only [yAL,hx,hy,Option.getD_some,hd,yAQ.mpr hi,hm'] at h4
   simp at h4)
  (fun listed2 hsz hr i hi=>by
   let listed:Array Bool:=Array.ofFn fun i:Fin ops.size=>listed2.getD (gOf pi i) true
   have hls:listed.size=ops.size:=by simp [listed]
   have hgl:∀i,i<ops.size→listed.getD i true=listed2.getD (gOf pi i) true:=fun i hi=>by
    rw [yA9,yAn (by omega)]
    simp [listed]
   have hrel:∀i,i<ops.size→listed2.getD i true=listed.getD (fOf pi i) true:=fun i hi=>by rw [hgl _ (f_lt i hi),gf i hi]
   have hro:Region.ready .any ops listed=[]:=by
    cases hq:Region.ready .any ops listed with
    | nil=>rfl
    | cons j l =>
     have:=perm_rdy X listed listed2 hls (by omega) hrel j (by rw [hq]; simp)
     rw [hr] at this
     simp at this
   have hall:=ready_none hls (backward_ok hback) hro
   have:=hall (fOf pi i) (f_lt i (by omega))
   unfold Lst at this ⊢
   rw [getD_any _ _ false true (by omega),hrel i (by omega),getD_any _ _ true false (by rw [hls]; exact f_lt i (by omega))]
   exact this)
  R1 (E.mono EH) (fun a' w' M' Fz' hd R' E' EV=>hQ a' w' M' Fz' hd R' E' (EH.trans EV (yAo _)))
 exact perm_wp X ops.size (Array.replicate ops.size false) (Array.replicate ops.size false) a _ (by simp) (by simp) (fun i hi=>by
  rw [yA9,yA9,yB9,yB9,if_pos (by omega),if_pos (f_lt i hi)]) (by rw [hs2] at main; exact main)
theorem Sem.drwG{nn q n0:Nat}{pi:List Nat}{al:AL}{U:Heap}{Q:zcX->AL->Heap->Prop}{os:List AOper}{k:Nat}{bef:List Nat}{p:Nat}(hmix:P.follows .mixedOrders=true)(O:zbp P orc)(hl:lateP os bef=some (pi,q,n0))
  (h:TrQ P orc n0 (permL pi os) nn al U λal' U' is=>ghOk bef pi is=true/\Q .normal al' U'):Sem P (.drw os bef k p) nn al U Q:=by
 obtain ⟨al1,U1,is,h,hp,hQ⟩:=h;obtain ⟨hln,hst⟩:=lateP_ok hl;intro c hc M Fz w a K R A hK;obtain ⟨e',h1,h2⟩:=h _ A.toEnv.2;cases c with
 |region id ops draw=>
  simp only[zaL] at hc;split at hc
  ·rename_i os' hos;split at hc
   ·rename_i hd;subst hd;split at hc
    ·rename_i hb;simp only[yAa,ACode.drw.injEq] at hc;obtain ⟨rfl,rfl,_,_⟩:=hc;refine drawG_wp hmix O hos hb R A.toEnv.1 h1 hln hst hp λa' w' M' Fz' hd R' E' EV=>?_;exact hK .normal al1 U1 a' w' M' Fz' hQ hd R' (AEnv.ofEnv E' h2) EV (evTr_frame O _ _ _ _ _ _ _ h1).1
    ·simp at hc
   ·simp at hc
  ·simp at hc
 |seq a b=>simp only[zaL] at hc;split at hc <;> simp at hc
 |cond o a b=>simp only[zaL] at hc;split at hc <;> simp at hc
 |block i b=>simp[zaL] at hc
 |loop b=>simp[zaL] at hc
 |scope b=>simp only[zaL,yAd] at hc;obtain ⟨a1,_,e1⟩:=hc;rcases zc0 a1 with ⟨l,r,_,e⟩ | e <;> rw[e] at e1 <;> simp at e1
 |_=>simp[zaL] at hc
end
end Go.Abs
end
section
namespace Go.Abs
variable[Gl]
inductive CC where
 |int (k:IntKind)
 |bool
 |str
 |sl (i:Nat)
 deriving DecidableEq,Inhabited
@[reducible] def CC.den(T:Nat->Type):CC->Type
 |.int _=>Int
 |.bool=>Bool
 |.str=>ByteArray
 |.sl i=>List (T i)
@[reducible] def tupT(T:Nat->Type):List CC->Type
 |[]=>Unit
 |c::cs=>c.den T×tupT T cs
class Ty where
 T:Nat->Type
 fl:Nat->List CC
 prj:∀i,T i->tupT T (fl i)
 mkt:∀i,tupT T (fl i)->T i
 mp:∀i a,mkt i (prj i a)=a
 pm:∀i x,prj i (mkt i x)=x
 dn:∀i j,CC.sl j∈fl i->j<i
 ps:∀i,0<(fl i).length
section
variable[Y:Ty]
abbrev TT(i:Nat):Type:=Y.T i
abbrev CC.dn(c:CC):Type:=c.den Y.T
abbrev tup(cs:List CC):Type:=tupT Y.T cs
abbrev esz(i:Nat):Nat:=(Y.fl i).length
def encC(rec:(j:Nat)->TT j->List C):(c:CC)->c.dn->C
 |.int k,n=>.lit (.int k n)
 |.bool,b=>.lit (.bool b)
 |.str,s=>.lit (.string s)
 |.sl j,l=>.frz false (l.map (rec j))
def encT(rec:(j:Nat)->TT j->List C):(cs:List CC)->tup cs->List C
 |[],_=>[]
 |c::cs,x=>encC rec c x.1::encT rec cs x.2
def encN:Nat->(i:Nat)->TT i->List C
 |0,_,_=>[]
 |k+1,i,a=>encT (encN k) (Y.fl i) (Y.prj i a)
def enc(i:Nat)(a:TT i):List C:=encN (i+1) i a
theorem encT_congr{r1 r2:(j:Nat)->TT j->List C}:∀(cs:List CC)(x:tup cs),(∀j,CC.sl j∈cs->r1 j=r2 j)->encT r1 cs x=encT r2 cs x:=by
 intro cs;induction cs with
 |nil=>intro x _;rfl
 |cons c cs ih=>
  intro x h;simp only[encT];rw[ih x.2 λj hj=>h j (yAm _ hj)];congr 1;cases c with
  |sl j=>simp only[encC];rw[h j (yAq ..)]
  |_=>rfl
theorem encN_enc:∀(k i:Nat),i<k->encN (Y:=Y) k i=enc i:=by
 intro k;induction k using Nat.strongRecOn with
 |_ k ih=>
  intro i hi;funext a;cases k with
  |zero=>omega
  |succ k=>
   simp only[enc,encN];refine encT_congr _ _ λj hj=>?_;have hji:=Y.dn i j hj;rw[ih k (by omega) j (by omega)];by_cases hk:i=k
   ·subst hk;rw[ih i (by omega) j hji]
   ·rw[ih i (by omega) j hji]
theorem enc_eq(i:Nat)(a:TT i):enc i a=encT enc (Y.fl i) (Y.prj i a):=by show encT (encN i) (Y.fl i) (Y.prj i a)=_;exact encT_congr _ _ λj hj=>encN_enc i j (Y.dn i j hj)
theorem encT_len{r:(j:Nat)->TT j->List C}:∀(cs:List CC)(x:tup cs),(encT r cs x).length=cs.length:=by
 intro cs;induction cs with
 |nil=>intro x;rfl
 |cons c cs ih=>intro x;simp only[encT,List.length_cons,ih]
theorem za8(i:Nat)(a:TT i):(enc i a).length=esz i:=by rw[enc_eq,encT_len]
theorem encC_inj{r:(j:Nat)->TT j->List C}{c:CC}(hr:∀j,c=.sl j->∀a b,r j a=r j b->a=b){a b:c.dn}(h:encC r c a=encC r c b):a=b:=by
 cases c with
 |int k=>simpa[encC] using h
 |bool=>simpa[encC] using h
 |str=>simpa[encC] using h
 |sl j=>simp only[encC,C.frz.injEq,yCx] at h;exact map_inj (λ{a b}=>hr j rfl a b) h
theorem encT_inj{r:(j:Nat)->TT j->List C}:∀{cs:List CC},(∀j,CC.sl j∈cs->∀a b,r j a=r j b->a=b)->∀{x y:tup cs},encT r cs x=encT r cs y->x=y:=by
 intro cs;induction cs with
 |nil=>intro _ x y _;rfl
 |cons c cs ih=>intro hr x y h;simp only[encT,yBs] at h;have h1:=encC_inj (λj hj=>hr j (by rw[<-hj];exact yAq ..)) h.1;have h2:=ih (λj hj=>hr j (yAm _ hj)) h.2;obtain ⟨x1,x2⟩:=x;obtain ⟨y1,y2⟩:=y;dsimp only at h1 h2;rw[h1,h2]
theorem enc_inj:∀(i:Nat)(a b:TT i),enc i a=enc i b->a=b:=by
 intro i;induction i using Nat.strongRecOn with
 |_ i ih=>intro a b h;rw[enc_eq,enc_eq] at h;have:=encT_inj (λj hj=>ih j (Y.dn i j hj)) h;rw[<-Y.mp i a,<-Y.mp i b,this]
inductive CV where
 |d (x:D)
 |b (e:Bool)
 |sl (i:Nat) (l:List (TT i))
def CV.er:CV->D
 |.d x=>x
 |.b e=>B e
 |.sl i l=>.c (.frz false (l.map (enc i)))
def CV.low(m:Nat):CV->Bool
 |.d x=>x.low m
 |_=>true
inductive TC where
 |any
 |d (x:D)
 |b (e:Bool)
 |sl (i:Nat) (l:List (TT i))
 |own (i b v n:Nat)
 |fp (i:Nat) (a:TT i) (off:Nat)
 |op (i b v n:Nat) (k:Int) (a:TT i) (off:Nat)
 |ap (b off len sz:Nat) (k:Int)
 |os (i b v n lo len:Nat)
 |fl (n:Int)
 |cx (x y:Int)
 |fna (g:FuncId) (xs:List CV)
def TC.er:TC->D
 |.any=>.any
 |.d x=>x
 |.b e=>B e
 |.sl i l=>.c (.frz false (l.map (enc i)))
 |.own i c _ n=>OS (esz i) c n
 |.fp i a off=>.c (.fptr (enc i a) off)
 |.op i c _ n k _ off=>.ptr c (k.toNat * esz i+off) (n * esz i)
 |.ap c off _ sz k=>.ptr c (off+k.toNat * 1) sz
 |.os i c _ n lo len=>.sl c (0+lo * esz i) len (esz i) (n * esz i)
 |.fl n=>.c (.lit (.float .f64 (Fl.fl n)))
 |.cx x y=>.c (.lit (.complex .f64 (Fl.fl x) (Fl.fl y)))
 |.fna g xs=>.fn (.func g) [.agg (xs.map CV.er)] []
def RC(x:TC)(d:D):Prop:=x=.any∨d=x.er
inductive TV where
 |c (x:TC)
 |agg (xs:List TC)
 |tup (xs:List (Bool×List TC))
inductive All2 {α β:Type} (R:α->β->Prop):List α->List β->Prop where
 |nil:All2 R [] []
 |cons {a:α} {b:β} {l:List α} {m:List β} (h:R a b) (r:All2 R l m):All2 R (a::l) (b::m)
def RE(p:Bool×List TC)(d:D):Prop:=
 match p with
 |(true,xs)=>∃ds,d=.agg ds/\All2 RC xs ds
 |(false,xs)=>∃x,xs=[x]/\RC x d
def RT:TV->D->Prop
 |.c x,d=>RC x d
 |.agg xs,d=>∃ds,d=.agg ds/\All2 RC xs ds
 |.tup xs,d=>∃ds,d=.tup ds/\All2 RE xs ds
inductive RV where
 |v (x:TV)
 |g (c want:Bool) (p:Nat) (x:TV)
def RR:RV->D->Prop
 |.v x,d=>RT x d
 |.g c want _ x,d=>if c=want then RT x d else d=.tup []
inductive TB where
 |cells (w:Nat) (cs:List (Nat×TC))
 |row (i:Nat) (l:List (TT i)) (lv cv:Nat)
 |mp (j:Nat) (st:Bool) (l:List (Int×TT j)) (v:Nat)
def mpE(j:Nat)(st:Bool)(a:TT j):D:=if st then .agg ((enc j a).map .c) else .c ((enc j a).headD (.lit undef))
def TB.er:TB->Ob
 |.cells _ cs=>.cells (cs.map λp=>p.2.er)
 |.row i l _ _=>OB (enc i) l
 |.mp j st l _=>MB (mpE j st) l
def RB(blk:TB)(ob:Ob):Prop:=ob=blk.er
abbrev TH:=List TB
abbrev TA:=List (Nat×RV)
def lkT(t:Nat):TA->Option RV
 |[]=>none
 |(s,x)::al=>match Nat.beq s t with | true=>some x | false=>lkT t al
def lkP(t:Nat):TA->Option (RV×Nat)
 |[]=>none
 |(s,x)::al=>match Nat.beq s t with | true=>some (x,al.length) | false=>lkP t al
def expC:(c:CC)->c.dn->TC
 |.int k,n=>.d (.c (.lit (.int k n)))
 |.bool,b=>.b b
 |.str,s=>.d (.c (.lit (.string s)))
 |.sl j,l=>.sl j l
def expT:(cs:List CC)->tup cs->List TC
 |[],_=>[]
 |c::cs,x=>expC c x.1::expT cs x.2
def exp(i:Nat)(a:TT i):List TC:=expT (Y.fl i) (Y.prj i a)
theorem expC_er(c:CC)(a:c.dn):(expC c a).er=.c (encC enc c a):=by cases c <;> rfl
theorem expT_er:∀(cs:List CC)(x:tup cs),(expT cs x).map TC.er=(encT enc cs x).map .c:=by
 intro cs;induction cs with
 |nil=>intro x;rfl
 |cons c cs ih=>intro x;simp only[expT,encT,yAw,expC_er,ih]
theorem exp_er(i:Nat)(a:TT i):(exp i a).map TC.er=(enc i a).map .c:=by rw[exp,expT_er,enc_eq]
theorem All2.er:∀(xs:List TC),All2 RC xs (xs.map TC.er):=by
 intro xs;induction xs with
 |nil=>exact .nil
 |cons x xs ih=>exact .cons (.inr rfl) ih
theorem All2.eq:∀{xs:List TC}{ds:List D},All2 RC xs ds->(∀y∈xs,y≠.any)->ds=xs.map TC.er:=by
 intro xs ds h;induction h with
 |nil=>intro _;rfl
 |cons h r ih=>
  intro hn;rcases h with h | h
  ·exact absurd h (hn _ (yAq ..))
  ·rw[h,ih λy hy=>hn y (yAm _ hy)];rfl
theorem All2.len{α β:Type}{R:α->β->Prop}{l:List α}{m:List β}(h:All2 R l m):l.length=m.length:=by
 induction h with
 |nil=>rfl
 |cons _ _ ih=>simp[ih]
theorem All2.get{α β:Type}{R:α->β->Prop}{l:List α}{m:List β}(h:All2 R l m):∀(i:Nat) a,l[i]? = some a->∃b,m[i]? = some b/\R a b:=by
 induction h with
 |nil=>intro i a h;simp at h
 |cons h _ ih=>
  intro i a hi;cases i with
  |zero=>simp only[List.getElem?_cons_zero,yAa] at hi;subst hi;exact ⟨_,rfl,h⟩
  |succ i=>simp only[List.getElem?_cons_succ] at hi ⊢;exact ih i a hi
theorem All2.get'{α β:Type}{R:α->β->Prop}{l:List α}{m:List β}(h:All2 R l m):∀(i:Nat) b,m[i]? = some b->∃a,l[i]? = some a/\R a b:=by
 induction h with
 |nil=>intro i a h;simp at h
 |cons h _ ih=>
  intro i a hi;cases i with
  |zero=>simp only[List.getElem?_cons_zero,yAa] at hi;subst hi;exact ⟨_,rfl,h⟩
  |succ i=>simp only[List.getElem?_cons_succ] at hi ⊢;exact ih i a hi
theorem All2.app{α β:Type}{R:α->β->Prop}{l l':List α}{m m':List β}(h:All2 R l m)(h':All2 R l' m'):All2 R (l++l') (m++m'):=by
 induction h with
 |nil=>exact h'
 |cons h _ ih=>exact .cons h ih
theorem All2.take{α β:Type}{R:α->β->Prop}{l:List α}{m:List β}(h:All2 R l m):∀n:Nat,All2 R (l.take n) (m.take n):=by
 induction h with
 |nil=>intro n;simp;exact .nil
 |cons h _ ih=>
  intro n;cases n with
  |zero=>exact .nil
  |succ n=>exact .cons h (ih n)
theorem All2.drop{α β:Type}{R:α->β->Prop}{l:List α}{m:List β}(h:All2 R l m):∀n:Nat,All2 R (l.drop n) (m.drop n):=by
 induction h with
 |nil=>intro n;simp;exact .nil
 |cons h r ih=>
  intro n;cases n with
  |zero=>exact .cons h r
  |succ n=>exact ih n
def castL{i j:Nat}(l:List (TT j)):Option (List (TT i)):=match decEq j i with | .isTrue h=>some (h▸l) | .isFalse _=>none
theorem zcn{i j:Nat}{l:List (TT j)}{m:List (TT i)}(h:castL l=some m):∃e:j=i,m=e▸l:=by
 unfold castL at h;split at h
 ·rename_i e _;simp only[yAa] at h;exact ⟨e,h.symm⟩
 ·simp at h
def rdC:(c:CC)->TC->Option c.dn
 |.int k,.d (.c (.lit (.int k' n)))=>match decEq k' k with | .isTrue _=>some n | .isFalse _=>none
 |.bool,.b e=>some e
 |.bool,.d (.c (.lit (.bool e)))=>some e
 |.str,.d (.c (.lit (.string s)))=>some s
 |.sl _,.sl _ l=>castL l
 |.sl _,.d (.c (.lit (.slice none 0 0)))=>some []
 |_,_=>none
def rdT:(cs:List CC)->List TC->Option (tup cs)
 |[],[]=>some ()
 |c :: cs, x :: xs => match rdC c x, rdT cs xs with
  |some a,some b=>some (a,b)
  |_,_=>none
 |_,_=>none
theorem rdC_ok{c:CC}{x:TC}{a:c.dn}(h:rdC c x=some a):x≠.any/\nrm1 x.er=.c (encC enc c a):=by
 unfold rdC at h;split at h
 ·split at h
  ·rename_i e _;subst e;simp only[yAa] at h;subst h;exact ⟨by simp,rfl⟩
  ·simp at h
 ·simp only[yAa] at h;subst h;exact ⟨by simp,rfl⟩
 ·simp only[yAa] at h;subst h;exact ⟨by simp,rfl⟩
 ·simp only[yAa] at h;subst h;exact ⟨by simp,rfl⟩
 ·obtain ⟨rfl,rfl⟩:=zcn h;exact ⟨by simp,rfl⟩
 ·simp only[yAa] at h;subst h;exact ⟨by simp,rfl⟩
 ·simp at h
theorem rdC_ex{c:CC}{x:TC}{a:c.dn}(h:rdC c x=some a):x=.d (.c (.lit (.slice none 0 0)))∨x.er=.c (encC enc c a):=by
 unfold rdC at h;split at h
 ·split at h
  ·rename_i e _;subst e;simp only[yAa] at h;subst h;exact .inr rfl
  ·simp at h
 ·simp only[yAa] at h;subst h;exact .inr rfl
 ·simp only[yAa] at h;subst h;exact .inr rfl
 ·simp only[yAa] at h;subst h;exact .inr rfl
 ·obtain ⟨rfl,rfl⟩:=zcn h;exact .inr rfl
 ·exact .inl rfl
 ·simp at h
theorem rdT_ok:∀{cs:List CC}{xs:List TC}{a:tup cs},rdT cs xs=some a->(∀y∈xs,y≠.any)/\(xs.map TC.er).map nrm1=(encT enc cs a).map .c:=by
 intro cs;induction cs with
 |nil=>
  intro xs a h;cases xs with
  |nil=>exact ⟨by simp,rfl⟩
  |cons x xs=>simp[rdT] at h
 |cons c cs ih=>
  intro xs a h;cases xs with
  |nil=>simp[rdT] at h
  |cons x xs=>
   simp only[rdT] at h;split at h
   ·rename_i a1 a2 h1 h2;simp only[yAa] at h;subst h;obtain ⟨h3,h4⟩:=rdC_ok h1;obtain ⟨h5,h6⟩:=ih h2;refine ⟨λy hy=>?_,?_⟩
    ·rcases yAu.1 hy with rfl | hy
     ·exact h3
     ·exact h5 y hy
    ·simp only[yAw,encT,h4,h6]
   ·simp at h
inductive VCd where
 |c (x:CC)
 |st (i:Nat)
 |fp (i:Nat)
 |k (g:Nat)
@[reducible] def VCd.dn:VCd->Type
 |.c x=>x.dn
 |.st i=>TT i
 |.fp i=>TT i
 |.k _=>Unit
def VCd.enc:(c:VCd)->c.dn->D
 |.c x,a=>.c (encC Go.Abs.enc x a)
 |.st i,a=>ST (Go.Abs.enc i a)
 |.fp i,a=>.c (.fptr (Go.Abs.enc i a) 0)
 |.k x,_=>.c (.fn (.func x) [] [])
def VCd.tv:(c:VCd)->c.dn->TV
 |.c x,a=>.c (expC x a)
 |.st i,a=>.agg (exp i a)
 |.fp i,a=>.c (.fp i a 0)
 |.k x,_=>.c (.d (.c (.fn (.func x) [] [])))
theorem VCd.tv_ok(c:VCd)(a:c.dn):RT (c.tv a) (c.enc a):=by
 cases c with
 |c x=>exact .inr (expC_er x a).symm
 |st i=>exact ⟨_,rfl,by rw[<-exp_er];exact All2.er _⟩
 |fp i=>exact .inr rfl
 |k x=>exact .inr rfl
@[reducible] def tupV:List VCd->Type
 |[]=>Unit
 |c::cs=>c.dn×tupV cs
def encV:(cs:List VCd)->tupV cs->List D
 |[],_=>[]
 |c::cs,x=>c.enc x.1::encV cs x.2
def tvV:(cs:List VCd)->tupV cs->List TV
 |[],_=>[]
 |c::cs,x=>c.tv x.1::tvV cs x.2
@[reducible] def outV:List VCd->Type
 |[]=>Unit
 |[c]=>c.dn
 |c::d::cs=>c.dn×outV (d::cs)
def rdFp(i:Nat):TV->Option (TT i)
 |.c (.fp j a 0)=>match decEq j i with | .isTrue h=>some (h▸a) | .isFalse _=>none
 |_=>none
def rdFn(g:Nat):TV->Option Unit
 |.c (.d (.c (.fn (.func g') [] [])))=>match Nat.beq g' g with | true=>some () | false=>none
 |_=>none
def rdCV(x:CC):TV->Option x.dn
 |.c y=>rdC x y
 |_=>none
def rdSt(i:Nat):TV->Option (TT i)
 |.agg xs=>match rdT (Y.fl i) xs with | some x=>some (Y.mkt i x) | none=>none
 |_=>none
def rdV:(c:VCd)->TV->Option c.dn
 |.c x,v=>rdCV x v
 |.st i,v=>rdSt i v
 |.fp i,v=>rdFp i v
 |.k g,v=>rdFn g v
end
end Go.Abs
end
section
namespace Go.Abs
noncomputable section
variable[Gl][Y:Ty]
structure TSp where
 ins:List VCd
 out:List VCd
 f:tupV ins->Option (outV out)
abbrev TSs:=List (Nat×TSp)
def tsk(g:Nat):TSs->Option TSp
 |[]=>none
 |(s,f)::l=>match Nat.beq s g with | true=>some f | false=>tsk g l
def rdVs:(cs:List VCd)->List TV->Option (tupV cs)
 |[],[]=>some ()
 |c :: cs, x :: xs => match rdV c x, rdVs cs xs with
  |some a,some b=>some (a,b)
  |_,_=>none
 |_,_=>none
def VCd.te:(c:VCd)->c.dn->Bool×List TC
 |.c x,a=>(false,[expC x a])
 |.st i,a=>(true,exp i a)
 |.fp i,a=>(false,[.fp i a 0])
 |.k x,_=>(false,[.d (.c (.fn (.func x) [] []))])
def outL:(cs:List VCd)->outV cs->List (Bool×List TC)
 |[],_=>[]
 |[c],x=>[c.te x]
 |c::d::cs,x=>c.te x.1::outL (d::cs) x.2
def outT:(cs:List VCd)->outV cs->TV
 |[c],x=>c.tv x
 |cs,x=>.tup (outL cs x)
def ofD:D->TV
 |.agg ds=>.agg (ds.map .d)
 |d=>.c (.d d)
abbrev Kn:=List (Nat×Bool)
def knk(p:Nat):Kn->Option Bool
 |[]=>none
 |(q,b)::l=>match Nat.beq q p with | true=>some b | false=>knk p l
def opn(kn:Kn)(cur:Option (Nat×Bool))(p:Nat)(w:Bool):Bool:=
 match knk p kn with
 |some b=>b == w
 |none => match cur with
  |some (q,w')=>Nat.beq q p&&w' == w
  |none=>false
def rdO(al:TA)(kn:Kn)(cur:Option (Nat×Bool)):Opd->Option TV
 |.k d=>match d.low 0 with | true=>some (ofD d) | false=>none
 |.t n => match lkP n al with
  |some (.v x,_)=>some x
  |some (.g _ w p x,_)=>match opn kn cur p w with | true=>some x | false=>none
  |none=>none
def rdOs(rd:Opd->Option TV):List Opd->Option (List TV)
 |[]=>some []
 |x :: xs => match rd x, rdOs rd xs with
  |some a,some b=>some (a::b)
  |_,_=>none
def TC.scalar:TC->Bool
 |.any=>false
 |.d x=>x.scalar
 |_=>true
def cellsT:TV->Option (List TC)
 |.c x=>match x.scalar with | true=>some [x] | false=>none
 |.agg xs=>match xs.all TC.scalar with | true=>some xs | false=>none
 |.tup _=>none
def putT{α:Type}(cs:List α)(off:Nat)(xs:List α):List α:=cs.take off++xs++cs.drop (off+xs.length)
def fillT(rd:Opd->Option TV):List TC->List (Nat×Nat×Opd)->Option (List TC)
 |cs,[]=>some cs
 |cs, (o, n, x) :: rest=>
  match rd x with
  |some v => match cellsT v with
   |some xs => match Nat.beq xs.length n && Nat.ble (o + n) cs.length with
    |true=>fillT rd (putT cs o xs) rest
    |false=>none
   |none=>none
  |none=>none
def getT(n:Option Nat)(cs:List TC)(off:Nat):Option TV:=
 match n with
 |none=>match cs[off]? with | some x=>some (.c x) | none=>none
 |some n=>match Nat.ble (off+n) cs.length with | true=>some (.agg ((cs.drop off).take n)) | false=>none
def noNil:List TC->Bool
 |[]=>true
 |.d (.c (.lit (.slice none 0 0)))::_=>false
 |_::xs=>noNil xs
def isAny:TC->Bool
 |.any=>true
 |_=>false
def noAny:List TC->Bool
 |[]=>true
 |x::xs=>!(isAny x)&&noAny xs
def mkT(i:Nat)(cs:List TC):Option (TT i):=match noNil cs,rdT (Y.fl i) cs with | true,some x=>some (Y.mkt i x) | _,_=>none
def mkRow(i:Nat):Nat->List TC->Option (List (TT i))
 |0,[]=>some []
 |0,_::_=>none
 |k + 1, cs => match mkT i (cs.take (esz i)), mkRow i k (cs.drop (esz i)) with
  |some a,some l=>some (a::l)
  |_,_=>none
def valT:TV->Option Value
 |.c (.d (.c (.lit v)))=>some v
 |.c (.b e)=>some (.bool e)
 |_=>none
def ofVT:Value->TV
 |.bool e=>.c (.b e)
 |v=>.c (.d (.c (.lit v)))
inductive BX where
 |t
 |f
 |e (x:Bool)
def bxOf:TV->Option BX
 |.c (.b e)=>some (.e e)
 |.c (.d (.c (.lit (.bool true))))=>some .t
 |.c (.d (.c (.lit (.bool false))))=>some .f
 |_=>none
def BX.val:BX->Bool
 |.t=>true
 |.f=>false
 |.e x=>x
def pk(c:Bool):BX->BX->Bool
 |.t,.e y=>c || y
 |.e x,.f=>c&&x
 |x,y=>bif c then x.val else y.val
def pkV(c:Bool):BX->BX->TV
 |.t,.t=>.c (.d (.c (.lit (.bool true))))
 |.f,.f=>.c (.d (.c (.lit (.bool false))))
 |x,y=>.c (.b (pk c x y))
def ints(k:IntKind):List TC->Option (List Int)
 |[]=>some []
 |x :: xs => match rdC (.int k) x, ints k xs with
  |some a,some l=>some (a::l)
  |_,_=>none
def litsI:List Value->Option (List Int)
 |[]=>some []
 |.int .i64 a::xs=>match litsI xs with | some l=>some (a::l) | none=>none
 |_::_=>none
def litsC:List C->Option (List Int)
 |[]=>some []
 |.lit (.int .i64 a)::xs=>match litsC xs with | some l=>some (a::l) | none=>none
 |_::_=>none
def valC:TC->Option Value
 |.d (.c (.lit v))=>some v
 |.b e=>some (.bool e)
 |_=>none
def valCs:List TC->Option (List Value)
 |[]=>some []
 |x :: xs => match valC x, valCs xs with
  |some v,some vs=>some (v::vs)
  |_,_=>none
def eqFs(P:Program)(xs ys:Array Value):List Field->Option Bool
 |[]=>some true
 |f :: fs => match f.name != "_", zaH P (part f.type xs f.offset), zaH P (part f.type ys f.offset), P.underlying f.type, eqFs P xs ys fs with
  |true,some (.int k a),some (.int k' b),some (.int _),some q=>match decEq k k' with | .isTrue _=>some (a == b&&q) | .isFalse _=>none
  |true,some (.bool a),some (.bool b),some .bool,some q=>some (a == b&&q)
  |_,_,_,_,_=>none
def eqT(P:Program)(t:TypeId)(xs ys:List TC):Option Bool:=
 match valCs xs,valCs ys,P.underlying t,P.eqGuardType P.depth t,P.stoodInHeld t with
 |some vs,some ws,some (.struct fs),false,false=>eqFs P vs.toArray ws.toArray fs.toList
 |_,_,_,_,_=>none
def fsum?(a b:Int):Option Int:=if a.natAbs<2 ^ 52/\b.natAbs<2 ^ 52 then some (a+b) else none
def fdif?(a b:Int):Option Int:=if a.natAbs<2 ^ 52/\b.natAbs<2 ^ 52 then some (a-b) else none
def fmul?(a n:Int):Option Int:=if 0<=a/\a<=1048576/\0<=n/\n<=1048576 then some (a * n) else none
def fint?(a:Int):Option Int:=if a.natAbs<2 ^ 53 then some a else none
variable{R:Type}
abbrev KO(R:Type):=TV->TH->Bool->List Nat->Option R
def valO(val:Operand->Option TV)(x:Operand):Option Value:=match val x with | some v=>valT v | none=>none
def genV(P:Program)(op:Op)(ty:TypeId)(val:Operand->Option TV):Option Value:=
 if op.operands.toList.all (λx=>(valO val x).isSome) then
  match zaH P (execOp (λx=>(valO val x).getD undef) { dst:=none,op:=op,type:=ty,pos:="",after:=#[],guard:=none }) with
  |some (.value v)=>some v
  |_=>none
 else none
def isFlat:Value->Bool
 |.agg _ | .tuple _=>false
 |_=>true
abbrev valR(rd:Opd->Option TV)(x:Operand):Option TV:=match opd x with | some o=>rd o | none=>none
def genT(P:Program)(op:Op)(ty:TypeId)(rd:Opd->Option TV)(U:TH)(k:KO R):Option R:=
 match op with
 |.binOp o t x y _=>
  match valR rd x,valR rd y with
  |some (.c (.d (.c (.lit (.int ka a))))), some (.c (.d (.c (.lit (.int kb b)))))=>
   match o with
   |.quo => match decEq ka kb with
    |.isTrue _=>(quo? ka a b).bind λv=>k (.c (.d (.c (.lit (.int ka v))))) U false []
    |.isFalse _=>none
   |.rem => match decEq ka kb with
    |.isTrue _=>(rem? a b).bind λv=>k (.c (.d (.c (.lit (.int ka v))))) U false []
    |.isFalse _=>none
   |.shr=>(shr? ka a b).bind λv=>k (.c (.d (.c (.lit (.int ka v))))) U false []
   |.shl=>(shl? ka a b).bind λv=>k (.c (.d (.c (.lit (.int ka v))))) U false []
   |_ => match binV P o t x y (.int ka a) (.int kb b) with
    |some v=>match isFlat v with | true=>k (ofVT v) U false [] | false=>none
    |none=>none
  |some (.agg xs), some (.agg ys)=>
   match eqT P t xs ys with
   |some r => match o with
    |.eql=>k (.c (.b r)) U false []
    |.neq=>k (.c (.b (!r))) U false []
    |_=>none
   |none=>none
  |some (.c (.cx a b)), some (.c (.cx c d))=>
   match o with
   |.add=>(fsum? a c).bind λu=>(fsum? b d).bind λv=>k (.c (.cx u v)) U false []
   |.sub=>(fdif? a c).bind λu=>(fdif? b d).bind λv=>k (.c (.cx u v)) U false []
   |.mul => match d with
    |.ofNat 0=>(fmul? a c).bind λu=>(fmul? b c).bind λv=>k (.c (.cx u v)) U false []
    |_=>none
   |_=>none
  |some u, some v=>
   match valT u,valT v with
   |some (.bool a), some (.bool b)=>
    match o,P.underlying t with
    |.eql,some .bool=>k (.c (.b (a == b))) U false []
    |.neq,some .bool=>k (.c (.b (!(a == b)))) U false []
    |_,_=>none
   |some a, some b => match binV P o t x y a b with
    |some v=>match isFlat v with | true=>k (ofVT v) U false [] | false=>none
    |none=>none
   |_,_=>none
  |_,_=>none
 |.unOp o _ x=>
  match valR rd x with
  |some u => match o, valT u with
   |.not,some (.bool e)=>k (.c (.b (!e))) U false []
   |o, some a => match zaH P (Op.unary o a) with
    |some v=>match isFlat v with | true=>k (ofVT v) U false [] | false=>none
    |none=>none
   |_,_=>none
  |none=>none
 |.convert t t' x=>
  match valR rd x with
  |some (.c (.d (.c (.lit (.int ka a)))))=>
   match P.underlying t' with
   |some (.float .f64)=>match (P.underlying t).isSome with | true=>k (.c (.fl a)) U false [] | false=>none
   |_ => match zaH P (convert t t' (.int ka a)) with
    |some v=>match isFlat v with | true=>k (ofVT v) U false [] | false=>none
    |none=>none
  |some (.c (.fl a)) => match P.underlying t', (P.underlying t).isSome with
   |some (.int .i64),true=>(fint? a).bind λa=>k (.c (.d (.c (.lit (.int .i64 a))))) U false []
   |_,_=>none
  |some u => match valT u with
   |some a => match zaH P (convert t t' a) with
    |some v=>match isFlat v with | true=>k (ofVT v) U false [] | false=>none
    |none=>none
   |none=>none
  |none=>none
 |.call c=>
  match c.callee,c.args.toList with
  |.builtin .min, _ => match genV P (.call c) ty (valR rd) with
   |some v=>match isFlat v with | true=>k (ofVT v) U false [] | false=>none
   |none=>none
  |.builtin .max, _ => match genV P (.call c) ty (valR rd) with
   |some v=>match isFlat v with | true=>k (ofVT v) U false [] | false=>none
   |none=>none
  |.builtin .complex, [x, y] => match valR rd x, valR rd y with
   |some (.c (.fl a)),some (.c (.fl b))=>k (.c (.cx a b)) U false []
   |some (.c (.fl a)), some (.c (.d (.c (.lit (.float .f64 b))))) => match Nat.beq b (Fl.fl 0) with
    |true=>k (.c (.cx a 0)) U false []
    |false=>none
   |_,_=>none
  |.builtin .real, [x] => match valR rd x with
   |some (.c (.cx a _))=>k (.c (.fl a)) U false []
   |_=>none
  |.builtin .imag, [x] => match valR rd x with
   |some (.c (.cx _ b))=>k (.c (.fl b)) U false []
   |_=>none
  |_,_=>none
 |_=>none
def frT(U:TH):TC->TC
 |.own i b v n => match U[b]? with
  |some (.row j l lv _)=>match Nat.beq lv v with | true=>.sl j l | false=>.own i b v n
  |_=>.own i b v n
 |x=>x
def frTV(U:TH):TV->TV
 |.c x=>.c (frT U x)
 |.agg xs=>.agg (xs.map (frT U))
 |x=>x
def isOwn:TC->Bool
 |.own ..=>true
 |_=>false
def hasOwn:TV->Bool
 |.c x=>isOwn x
 |.agg xs=>xs.any isOwn
 |_=>false
def CC.gr:CC->Bool
 |.sl _=>false
 |_=>true
def VCd.gr:VCd->Bool
 |.c x=>x.gr
 |.st i=>(Y.fl i).all CC.gr
 |_=>false
def srcT(i:Nat)(U:TH):TV->Option (List (TT i))
 |.c (.sl _ l)=>castL l
 |.c (.d (.c (.lit (.slice none 0 0))))=>some []
 |.c (.own _ b v _) => match U[b]? with
  |some (.row _ l lv _)=>match Nat.beq lv v with | true=>castL l | false=>none
  |_=>none
 |_=>none
def cvOf:TC->Option CV
 |.d x=>some (.d x)
 |.b e=>some (.b e)
 |.sl i l=>some (.sl i l)
 |_=>none
def cvT:CV->TC
 |.d x=>.d x
 |.b e=>.b e
 |.sl i l=>.sl i l
def fnaOf:Fn->List TV->List TV->Option (FuncId×List CV)
 |.func g,[.agg xs],[]=>(xs.mapM cvOf).map λcs=>(g,cs)
 |_,_,_=>none
def intT:TV->Option Int
 |.c (.d (.c (.lit (.int .i64 n))))=>some n
 |_=>none
def teT:TV->Bool×List TC
 |.c x=>(false,[x])
 |.agg xs=>(true,xs)
 |.tup _=>(false,[])
def mpV(j:Nat)(st:Bool)(a:TT j):TV:=match st with | true=>.agg (exp j a) | false=>.c ((exp j a).headD (.d (.c (.lit undef))))
def mkM(j:Nat)(st:Bool)(v:TV):Option (TT j):=match st,v with
 |true,.agg xs=>mkT j xs
 |false,.c x=>mkT j [x]
 |_,_=>none
def lkRes(ok:Bool)(v:TV)(e:Bool):TV:=match ok with
 |true=>.tup [teT v,(false,[.d (.c (.lit (.bool e)))])]
 |false=>v
def tOp(P:Program)(S:TSs)(hint:Nat)(o:AOp)(rd:Opd->Option TV)(U:TH)(k:KO R):Option R:=
 match o with
 |.mov x=>match rd x with | some v=>k v U false [] | none=>none
 |.gen op ty=>genT P op ty rd U k
 |.box x => match rd x with
  |some v => match cellsT v with
   |some cs=>k (.c (.d (.ptr U.length 0 cs.length))) (U++[.cells 0 (cs.map λc=>(0,c))]) false []
   |none=>none
  |none=>none
 |.alloc z => match D.low.lows 0 z with
  |true=>k (.c (.d (.ptr U.length 0 z.length))) (U++[.cells 0 (z.map λc=>(0,.d c))]) false []
  |false=>none
 |.build z ps => match D.low.lows 0 z, fillT rd (z.map .d) ps with
  |true,some cs=>k (.agg cs) U false []
  |_,_=>none
 |.bslice es len z ps => match Nat.beq hint 1000001 with
  |true => match D.low.lows 0 z, fillT rd ((zdu len z).map .d) ps with
   |true, some cs => match noAny cs with
    |true=>k (.c (.d (.sl U.length 0 len es cs.length))) (U++[.cells 0 (cs.map λc=>(0,c))]) false []
    |false=>none
   |_,_=>none
  |false=>match Nat.beq es (esz hint)&&D.low.lows 0 z,fillT rd ((zdu len z).map .d) ps with
  |true, some cs => match mkRow hint len cs with
   |some l=>k (.c (.own hint U.length 0 len)) (U++[.row hint l 0 0]) false []
   |none=>none
  |_,_=>none
 |.load n a => match rd a with
  |some (.c (.d (.ptr b off sz))) => match U[b]? with
   |some (.cells _ cs) => match Nat.beq cs.length sz, getT n (cs.map Prod.snd) off with
    |true,some v=>k v U false []
    |_,_=>none
   |_=>none
  |some (.c (.fp i x off)) => match getT n (exp i x) off with
   |some v=>k v U false []
   |none=>none
  |some (.c (.op i b v _ _ x off)) => match U[b]? with
   |some (.row _ _ _ cv) => match Nat.beq cv v, getT n (exp i x) off with
    |true,some v=>k v U false []
    |_,_=>none
   |_=>none
  |some (.c (.ap b off len sz i)) => match n, U[b]? with
   |none, some (.cells _ cs) => match Nat.beq cs.length sz && Nat.ble (off + len) sz, ints .i64 (((cs.map Prod.snd).drop off).take len) with
    |true,some l=>(at? l i).bind λa=>k (.c (.d (.c (.lit (.int .i64 a))))) U false []
    |_,_=>none
   |_,_=>none
  |some (.c (.d (.c (.fptr cs off)))) => match n, litsC cs with
   |none,some l=>(at? l (off:Int)).bind λa=>k (.c (.d (.c (.lit (.int .i64 a))))) U false []
   |_,_=>none
  |_=>none
 |.store n a x => match rd a, rd x with
  |some (.c (.d (.ptr b off sz))), some v => match U[b]?, cellsT v with
   |some (.cells w cs), some xs => match Nat.beq cs.length sz && (Nat.beq xs.length n && Nat.ble (off + n) sz) with
    |true=>k (.tup []) (U.set b (.cells (w+1) (putT cs off (xs.map λx=>(w+1,x))))) false [b]
    |false=>none
   |_,_=>none
  |some (.c (.op i b v _ q a off)), some x => match U[b]?, cellsT x with
   |some (.row j l lv cv), some xs => match Nat.beq cv v && (Nat.beq xs.length n && Nat.ble (off + n) (esz i)), mkT i (putT (exp i a) off xs), castL (i := i) l with
    |true,some a',some l=>k (.tup []) (U.set b (.row i (l.set q.toNat a') lv (cv+1))) false [b]
    |_,_,_=>none
   |_,_=>none
  |_,_=>none
 |.nilck x => match rd x with
  |some (.c (.d (.ptr b off sz)))=>k (.c (.d (.ptr b off sz))) U false []
  |some (.c (.d (.c (.fn (.func f) u v))))=>k (.c (.d (.c (.fn (.func f) u v)))) U false []
  |some (.c (.d (.fn (.func f) u v)))=>k (.c (.d (.fn (.func f) u v))) U false []
  |some (.c (.fp i a off))=>k (.c (.fp i a off)) U false []
  |some (.c (.op i b v n q a off))=>k (.c (.op i b v n q a off)) U false []
  |some (.c (.fna g xs))=>k (.c (.fna g xs)) U false []
  |_=>none
 |.isnil kd neg x => match rd x with
  |some (.c (.d x)) => match isNil kd x with
   |some true=>k (.c (.d (.c (.lit (.bool (!neg)))))) U false []
   |some false=>k (.c (.d (.c (.lit (.bool neg))))) U false []
   |none=>none
  |some (.c (.fp ..)) | some (.c (.op ..)) => match kd with
   |0=>k (.c (.d (.c (.lit (.bool neg))))) U false []
   |_=>none
  |_=>none
 |.fld off x => match rd x with
  |some (.c (.d (.ptr b o sz)))=>k (.c (.d (.ptr b (o+off) sz))) U false []
  |some (.c (.fp i a o))=>k (.c (.fp i a (o+off))) U false []
  |some (.c (.op i b v n q a o))=>k (.c (.op i b v n q a (o+off))) U false []
  |_=>none
 |.idx es none x i => match rd x, rd i with
  |some (.c (.sl j l)), some iv => match intT iv, Nat.beq es (esz j) with
   |some q,true=>(at? l q).bind λa=>k (.c (.fp j a 0)) U false []
   |_,_=>none
  |some (.c (.own j b v n)), some iv => match intT iv, Nat.beq es (esz j), U[b]? with
   |some q, true, some (.row _ l lv cv) => match Nat.beq lv v, castL (i := j) l with
    |true,some l=>(at? l q).bind λa=>k (.c (.op j b cv n q a 0)) U false []
    |_,_=>none
   |_,_,_=>none
  |some (.c (.d (.sl b off len es' sz))), some iv => match intT iv, U[b]? with
   |some q, some (.cells _ cs) => match Nat.beq cs.length sz && Nat.beq es es', inR q len with
    |true,some j=>k (.c (.d (.ptr b (off+j * es) sz))) U false []
    |_,_=>none
   |_,_=>none
  |_,_=>none
 |.idx es (some len) x (.k i) => match rd x, intT (ofD i) with
  |some (.c (.d (.ptr b off sz))), some q => match inR q len with
   |some j=>k (.c (.d (.ptr b (off+j * es) sz))) U false []
   |none=>none
  |_,_=>none
 |.idx es (some len) x (.t i) => match rd x, rd (.t i) with
  |some (.c (.d (.ptr b off sz))), some iv => match intT iv, Nat.beq es 1, U[b]? with
   |some q, true, some (.cells _ cs) => match Nat.beq cs.length sz && Nat.ble (off + len) sz, ints .i64 (((cs.map Prod.snd).drop off).take len) with
    |true,some l=>(at? l q).bind λ_=>k (.c (.ap b off len sz q)) U false []
    |_,_=>none
   |_,_,_=>none
  |some (.c (.d (.c (.glo g)))), some iv => match intT iv, Nat.beq es 1, litsI (Gl.tab g) with
   |some q, true, some (z :: l) => match Nat.beq (z :: l).length len with
    |true=>(at? (z::l) q).bind λ_=>k (.c (.d (.c (.fptr ((Gl.tab g).map .lit) (q.toNat * es))))) U false []
    |false=>none
   |_,_,_=>none
  |_,_=>none
 |.slc es x lo hi => match rd x with
  |some (.c (.sl j l))=>
   match Nat.beq es (esz j),(match lo with | none=>some (.c (.d (I 0))) | some o=>rd o),(match hi with | none=>some (.c (.d (I l.length))) | some o=>rd o) with
   |true, some u, some v => match intT u, intT v with
    |some u,some v=>(slice? l u v).bind λr=>k (.c (.sl j r)) U false []
    |_,_=>none
   |_,_,_=>none
  |some (.c (.own j b v' n)) => match Nat.beq es (esz j), U[b]? with
   |true, some (.row _ l lv _) => match Nat.beq lv v', (match lo with | none => some (.c (.d (I 0))) | some o => rd o), (match hi with | none => some (.c (.d (I l.length))) | some o => rd o) with
    |true, some u, some v => match intT u, intT v with
     |some u,some v=>(slice? l u v).bind λ_=>k (.c (.os j b v' l.length u.toNat (v.toNat-u.toNat))) U false []
     |_,_=>none
    |_,_,_=>none
   |_,_=>none
  |_=>none
 |.mkmap=>k (.c (.d (.mp U.length))) (U++[.mp (hint / 2) (Nat.beq (hint % 2) 1) [] 0]) false []
 |.lookup kind zero m kx ok => match kind, rd m, rd kx, zero.low 0 with
  |.int _, some (.c (.d (.mp b))), some kv, true => match U[b]?, intT kv with
   |some (.mp j st l _),some x=>oel (mget l x) (k (lkRes ok (ofD zero) false) U false []) (λa=>k (lkRes ok (mpV j st a) true) U false [])
   |_,_=>none
  |_,_,_,_=>none
 |.upd kind m kx x => match kind, rd m, rd kx, rd x with
  |.int _, some (.c (.d (.mp b))), some kv, some v => match U[b]?, intT kv with
   |some (.mp j st l ver), some i => match mkM j st v with
    |some a=>k (.tup []) (U.set b (.mp j st (mset l i a) (ver+1))) false [b]
    |none=>none
   |_,_=>none
  |_,_,_,_=>none
 |.del kind m kx => match kind, rd m, rd kx with
  |.int _, some (.c (.d (.mp b))), some kv => match U[b]?, intT kv with
   |some (.mp j st l ver),some i=>k (.tup []) (U.set b (.mp j st (mdel l i) (ver+1))) false [b]
   |_,_=>none
  |_,_,_=>none
 |.len x => match rd x with
  |some (.c (.sl _ l))=>k (.c (.d (I l.length))) U false []
  |some (.c (.d (.c (.lit (.slice none 0 0)))))=>k (.c (.d (I 0))) U false []
  |some (.c (.own _ b v _)) => match U[b]? with
   |some (.row _ l lv _)=>match Nat.beq lv v with | true=>k (.c (.d (I l.length))) U false [] | false=>none
   |_=>none
  |some (.c (.d (.sl b _ len _ sz))) => match U[b]? with
   |some (.cells _ cs)=>match Nat.beq cs.length sz with | true=>k (.c (.d (I len))) U false [] | false=>none
   |_=>none
  |_=>none
 |.mk es bytes z l c => match Nat.beq es (esz hint) && (Nat.ble bytes 1000 && D.low.lows 0 z), mkT hint (z.map .d), rd l, rd c with
  |true, some z0, some u, some v => match intT u, intT v with
   |some u,some v=>(mk? z0 u v).bind λr=>k (.c (.own hint U.length 0 r.length)) (U++[.row hint r 0 0]) false []
   |_,_=>none
  |true, none, some (.c (.d (.c (.lit (.int .i64 (.ofNat 0)))))), some v => match intT v with
   |some v=>(mk0? v).bind λr=>k (.c (.own hint U.length 0 r.length)) (U++[.row hint r 0 0]) false []
   |none=>none
  |_,_,_,_=>none
 |.append es bytes s x => match rd s, rd x with
  |some (.c (.own i b v _)), some y => match U[b]? with
   |some (.row _ l lv cv) => match Nat.beq lv v && (Nat.beq es (esz i) && Nat.ble bytes 1000), castL (i := i) l, srcT i U y with
    |true,some l,some m=>(app? l m).bind λr=>k (.c (.own i b (lv+1) r.length)) (U.set b (.row i r (lv+1) (cv+1))) true [b]
    |_,_,_=>none
   |_=>none
  |some (.c (.d (.c (.lit (.slice none 0 0))))), some (.c (.own i b v q)) => match Nat.beq es (esz i) && Nat.ble bytes 1000, srcT i U (.c (.own i b v q)) with
   |true, some (a :: l) => match Nat.ble (a :: l).length 1000000 with
    |true=>k (.c (.own i U.length 0 (a::l).length)) (U++[.row i (a::l) 0 0]) false []
    |false=>none
   |_,_=>none
  |some (.c (.d (.c (.lit (.slice none 0 0))))), some (.c (.sl i l)) => match Nat.beq es (esz i) && Nat.ble bytes 1000 with
   |true=>(app? [] l).bind λr=>k (.c (.own i U.length 0 r.length)) (U++[.row i r 0 0]) false []
   |false=>none
  |_,_=>none
 |.copy es d s => match rd d, rd s with
  |some (.c (.own i b v _)), some y => match U[b]? with
   |some (.row _ l lv cv) => match Nat.beq lv v && Nat.beq es (esz i), castL (i := i) l, srcT i U y with
    |true,some l,some m=>k (.c (.d (I ((m.take l.length).length:Int)))) (U.set b (.row i (cpL l m 0 l.length) lv (cv+1))) false [b]
    |_,_,_=>none
   |_=>none
  |some (.c (.os i b v _ lo len)), some y => match U[b]? with
   |some (.row _ l lv cv) => match Nat.beq lv v && Nat.beq es (esz i), castL (i := i) l, srcT i U y with
    |true,some l,some m=>k (.c (.d (I ((m.take len).length:Int)))) (U.set b (.row i (cpL l m lo len) lv (cv+1))) false [b]
    |_,_,_=>none
   |_=>none
  |_,_=>none
 |.extract x i => match rd x with
  |some (.tup xs) => match xs[i]? with
   |some (true,cs)=>k (.agg cs) U false []
   |some (false,[c])=>k (.c c) U false []
   |_=>none
  |_=>none
 |.mkfn f first cap => match rdOs rd first, rdOs rd cap with
  |some a, some b => match fnaOf f a b with
   |some (g,cs)=>k (.c (.fna g cs)) U false []
   |none => match a.mapM λv => (match v with | .c (.d x) => some x | _ => none), b.mapM λv => (match v with | .c (.d x) => some x | _ => none) with
    |some a,some b=>k (.c (.d (.fn f a b))) U false []
    |_,_=>none
  |_,_=>none
 |.part off n x => match rd x with
  |some (.agg cs) => match getT n cs off with
   |some v=>k v U false []
   |none=>none
  |_=>none
 |.aidx es len n x i => match rd x, rd i with
  |some (.agg cs), some iv => match i, intT iv with
   |.k _, some q => match inR q len with
    |some j => match getT n cs (j * es) with
     |some v=>k v U false []
     |none=>none
    |none=>none
   |.t _, some q => match n, Nat.beq es 1 && Nat.beq cs.length len, ints .i64 cs with
    |none,true,some l=>(at? l q).bind λa=>k (.c (.d (.c (.lit (.int .i64 a))))) U false []
    |_,_,_=>none
   |_,_=>none
  |_,_=>none
 |.call f args => match rd f, rdOs rd args with
  |some (.c (.d (.c (.fn (.func g) [] [])))), some vs => match tsk g S with
   |some s => match rdVs s.ins vs with
    |some a=>(s.f a).bind λr=>k (outT s.out r) U false []
    |none => match s.out.all VCd.gr && vs.any hasOwn, rdVs s.ins (vs.map (frTV U)) with
     |true,some a=>(s.f a).bind λr=>k (outT s.out r) U false []
     |_,_=>none
   |none=>none
  |_,_=>none
 |_=>none
def totOp:AOp->Bool
 |.mov _ | .build .. | .nilck _ | .isnil .. | .fld .. | .len _ | .extract .. | .part ..=>true
 |.load _ _=>true
 |.gen (.binOp o ..) _=>match o with | .quo | .rem | .shr=>false | _=>true
 |.gen (.unOp ..) _=>true
 |.gen (.convert ..) _=>true
 |.gen (.call _) _=>true
 |_=>false
inductive GR where
 |opn
 |shut
 |sym (e:Bool) (p:Nat) (w:Bool)
 |spl (e:Bool) (p:Nat)
 |res (t:Nat) (x:TV)
 |bad
def gdB(kn:Kn)(want:Bool)(p:Nat):TV->GR
 |.c (.d (.c (.lit (.bool true))))=>if want then .opn else .shut
 |.c (.d (.c (.lit (.bool false))))=>if want then .shut else .opn
 |.c (.d (.tup []))=>.shut
 |.c (.b e) => match knk p kn with
  |some b=>if b == want then .opn else .shut
  |none=>.sym e p want
 |_=>.bad
def gdC(kn:Kn)(p:Nat):TV->GR
 |.c (.d (.c (.lit (.bool true))))=>.opn
 |.c (.d (.c (.lit (.bool false))))=>.shut
 |.c (.b e) => match knk p kn with
  |some true=>.opn
  |some false=>.shut
  |none=>.sym e p true
 |_=>.bad
def tGd(al:TA)(kn:Kn):Option (Nat×Bool)->GR
 |none=>.opn
 |some (t, want) => match lkP t al with
  |some (.v x,p)=>gdB kn want p x
  |some (.g c w p x, _) => match knk p kn with
   |some b=>if b == w then .res t x else .shut
   |none=>.spl c p
  |none=>.bad
def blkT(rd:Opd->Option TV):AOp->Option Nat
 |.load _ x => match rd x with
  |some (.c (.d (.ptr b _ _)))=>some b
  |some (.c (.op _ b ..))=>some b
  |some (.c (.ap b ..))=>some b
  |_=>none
 |_=>none
def hintOf(H:List (Nat×Nat)):Option Nat->Nat
 |none=>0
 |some t=>hk t H
where hk (t:Nat):List (Nat×Nat)->Nat
 |[]=>0
 |(s,i)::l=>match Nat.beq s t with | true=>i | false=>hk t l
abbrev KS(R:Type):=TA->TH->List Info->Option R
def setR(dst:Option Nat)(x:RV)(al:TA):TA:=match dst with | some t=>(t,x)::al | none=>al
inductive Pl where
 |r (t:Nat) (c:VCd)
 |w (b i:Nat)
 |h (b j:Nat) (c:CC)
 |m (b j:Nat) (st:Bool)
@[reducible] def Pl.dn:Pl->Type
 |.r _ c=>c.dn
 |.w _ i=>List (TT i)
 |.h _ _ c=>c.dn
 |.m _ j _=>List (Int×TT j)
@[reducible] def tupP:List Pl->Type
 |[]=>Unit
 |[p]=>p.dn
 |p::q::ps=>p.dn×tupP (q::ps)
structure JH where
 pl:List Pl
 hs:List (Nat×Nat):=[]
 os:List (Nat×Nat):=[]
 zs:List (Nat×Nat×Nat):=[]
def ownz:List (Nat×Nat)->TA->TH->Option (TA×TH)
  |[],al,U=>some (al,U)
  |(t,i)::os,al,U=>match Nat.ble 1048576 t with
   |true=>match U[(t-1048576) / 1024]? with
    |some (.cells w cs) => match cs[(t - 1048576) % 1024]? with
      |some (_,.d (.c (.lit (.slice none 0 0))))=>ownz os al (U.set ((t-1048576) / 1024) (.cells (w+1) (cs.set ((t-1048576) % 1024) (w+1,.own i U.length 0 0)))++[.row i [] 0 0])
      |some (_,.own ..)=>ownz os al U
      |_=>none
    |_=>none
   |false=>match lkT t al with
    |some (.v (.c (.d (.c (.lit (.slice none 0 0))))))=>ownz os ((t,.v (.c (.own i U.length 0 0)))::al) (U++[.row i [] 0 0])
    |some (.v (.c (.own ..)))=>ownz os al U
    |_=>none
def castM{i j:Nat}(l:List (Int×TT j)):Option (List (Int×TT i)):=match decEq j i with | .isTrue h=>some (h▸l) | .isFalse _=>none
def cellsSame(ps:List Pl)(b:Nat):Nat->List (Nat×TC)->List (Nat×TC)->Bool
 |_,[],[]=>true
 |j,(v,_)::xs,(w,_)::ys=>(Nat.beq v w || ps.any λp=>match p with | .h b' j' _=>Nat.beq b' b&&Nat.beq j' j | _=>false)&&cellsSame ps b (j+1) xs ys
 |_,_,_=>false
def blkSame(ps:List Pl)(b:Nat):TB->TB->Bool
 |.cells _ xs,.cells _ ys=>cellsSame ps b 0 xs ys
 |.row _ _ _ v,.row _ _ _ w=>Nat.beq v w || ps.any λp=>match p with | .w b' _=>Nat.beq b' b | _=>false
 |.mp _ _ _ v,.mp _ _ _ w=>Nat.beq v w || ps.any λp=>match p with | .m b' _ _=>Nat.beq b' b | _=>false
 |_,_=>false
def heapSame(ps:List Pl):Nat->TH->TH->Bool
 |_,[],_=>true
 |b,x::xs,y::ys=>blkSame ps b x y&&heapSame ps (b+1) xs ys
 |_,_::_,[]=>false
def putZs:List (Nat×Nat×Nat)->TH->TH
 |[],U=>U
 |(b, j, r) :: zs, U => match U[b]?, U[r]? with
  |some (.cells w cs),some (.row i l lv _)=>putZs zs (U.set b (.cells (w+1) (cs.set j (w+1,.own i r lv l.length))))
  |_,_=>putZs zs U
def zsOk(n:Nat)(U:TH)(zs:List (Nat×Nat×Nat)):Bool:=
 zs.all λz=>Nat.blt z.1 n&&(Nat.blt z.2.2 n&&match U[z.1]?,U[z.2.2]? with
  |some (.cells _ cs), some (.row i _ lv _) => match cs[z.2.1]? with
   |some (_,.own i' r' v _)=>Nat.beq r' z.2.2&&(Nat.beq v lv&&Nat.beq i' i)
   |_=>false
  |_,_=>false)
def zpl(zs:List (Nat×Nat×Nat)):List Pl:=zs.map λz=>.h z.1 z.2.1 .bool
inductive It where
 |cc (c:CC)
 |st (i:Nat)
 |fp (i:Nat)
 |ls (i:Nat)
 |ml (j:Nat)
 |cx
 deriving DecidableEq
@[reducible] def It.dn:It->Type
 |.cc c=>c.dn
 |.st i=>TT i
 |.fp i=>TT i
 |.ls i=>List (TT i)
 |.ml j=>List (Int×TT j)
 |.cx=>Int×Int
structure Dat where
 it:It
 v:it.dn
@[reducible] def tupI:List It->Type
 |[]=>Unit
 |[c]=>c.dn
 |c::d::cs=>c.dn×tupI (d::cs)
def castI(c:It)(d:Dat):Option c.dn:=match decEq d.it c with | .isTrue h=>some (h▸d.v) | .isFalse _=>none
def toTup:(cs:List It)->List Dat->Option (tupI cs)
 |[],[]=>some ()
 |[c],[d]=>castI c d
 |c :: c2 :: cs, d :: ds => match castI c d, toTup (c2 :: cs) ds with
  |some a,some b=>some (a,b)
  |_,_=>none
 |_,_=>none
def ofTup:(cs:List It)->tupI cs->List Dat
 |[],_=>[]
 |[c],x=>[⟨c,x⟩]
 |c::c2::cs,x=>⟨c,x.1⟩::ofTup (c2::cs) x.2
inductive CP where
 |c (c:CC)
 |cx
 |hd (b:Nat)
 |pt (b off sz:Nat)
 |mr (b:Nat)
 |k (d:D)
inductive RO where
 |v (c:VCd)
 |p (p:CP)
 |ag (ps:List CP)
inductive NB where
 |cells (ps:List CP)
 |row (i:Nat)
 |mp (j:Nat) (st:Bool)
inductive PC where
 |h (b j:Nat) (p:CP)
 |w (b i:Nat)
 |m (b j:Nat) (st:Bool)
inductive CT where
 |mk (out:List RO) (pl:List PC) (nb:List NB) (H:List (Nat×Nat)) (J:List (Nat×JH)) (C:List (Nat×List CT))
def CT.out:CT->List RO | .mk o _ _ _ _ _=>o
def CT.pl:CT->List PC | .mk _ p _ _ _ _=>p
def CT.nb:CT->List NB | .mk _ _ n _ _ _=>n
def CT.H:CT->List (Nat×Nat) | .mk _ _ _ h _ _=>h
def CT.J:CT->List (Nat×JH) | .mk _ _ _ _ j _=>j
def CT.C:CT->List (Nat×List CT) | .mk _ _ _ _ _ c=>c
def ctk(k:Nat):List (Nat×List CT)->Option (List CT)
 |[]=>none
 |(q,c)::l=>match Nat.beq q k with | true=>some c | false=>ctk k l
def CP.its:CP->List It
 |.c y=>[.cc y]
 |.cx=>[.cx]
 |_=>[]
def VCd.it:VCd->List It
 |.c x=>[.cc x]
 |.st i=>[.st i]
 |.fp i=>[.fp i]
 |.k _=>[]
def RO.its:RO->List It
 |.v y=>y.it
 |.p y=>y.its
 |.ag ps=>ps.flatMap CP.its
def NB.rts:NB->List It
 |.cells _=>[]
 |.row i=>[.ls i]
 |.mp j _=>[.ml j]
def NB.its:NB->List It
 |.cells ps=>ps.flatMap CP.its
 |_=>[]
def PC.rts:PC->List It
 |.h ..=>[]
 |.w _ i=>[.ls i]
 |.m _ j _=>[.ml j]
def PC.its:PC->List It
 |.h _ _ y=>y.its
 |_=>[]
def CT.items(ct:CT):List It:=ct.pl.flatMap PC.rts++(ct.nb.flatMap NB.rts++(ct.out.flatMap RO.its++(ct.pl.flatMap PC.its++ct.nb.flatMap NB.its)))
@[reducible] def altT:List CT->Type
 |[]=>Empty
 |[c]=>tupI c.items
 |c::d::cs=>tupI c.items ⊕ altT (d::cs)
def altK{R:Type}:(cs:List CT)->altT cs->((c:CT)->tupI c.items->Option R)->Option R
 |[],_,_=>none
 |[c],x,f=>f c x
 |c :: d :: cs, x, f => match x with
  |.inl a=>f c a
  |.inr b=>altK (d::cs) b f
structure MS where
 ρ:List (Nat×Nat)
 fz:List Nat
 rw:List Dat
 cl:List Dat
def rhoK(b:Nat):List (Nat×Nat)->Option Nat
 |[]=>none
 |(q,o)::l=>match Nat.beq q b with | true=>some o | false=>rhoK b l
def bindR(m b b':Nat)(s:MS):Option MS:=
 match Nat.blt b m with
 |true=>match Nat.beq b b' with | true=>some s | false=>none
 |false => match rhoK b s.ρ with
  |some o=>match Nat.beq o b' with | true=>some s | false=>none
  |none=>match Nat.ble m b' with | true=>some { s with ρ:=(b,b')::s.ρ } | false=>none
def eqK:D->D->Bool
 |.c (.lit (.pointer none)),.c (.lit (.pointer none))=>true
 |.c (.lit (.map none)),.c (.lit (.map none))=>true
 |.c (.lit .nilFunc),.c (.lit .nilFunc)=>true
 |.c (.lit (.slice none 0 0)),.c (.lit (.slice none 0 0))=>true
 |.c (.fn (.func f) [] []),.c (.fn (.func g) [] [])=>Nat.beq f g
 |.c (.lit (.int k a)),.c (.lit (.int k' b))=>decide (k=k')&&decide (a=b)
 |_,_=>false
def mCP(m:Nat)(U1:TH)(p:CP)(x:TC)(s:MS):Option MS:=
 match p,x with
 |.c c, .own i b v n => match rdC c (frT U1 (.own i b v n)) with
  |some a=>some { s with fz:=b::s.fz,cl:=s.cl++[⟨.cc c,a⟩] }
  |none=>none
 |.c c, x => match rdC c x with
  |some a=>some { s with cl:=s.cl++[⟨.cc c,a⟩] }
  |none=>none
 |.cx,.cx u v=>some { s with cl:=s.cl++[⟨.cx,(u,v)⟩] }
 |.hd b, .own _ b' v _ => match U1[b']? with
  |some (.row _ _ lv _)=>match Nat.beq lv v with | true=>bindR m b b' s | false=>none
  |_=>none
 |.pt b off sz,.d (.ptr b' off' sz')=>match Nat.beq off off'&&Nat.beq sz sz' with | true=>bindR m b b' s | false=>none
 |.mr b,.d (.mp b')=>bindR m b b' s
 |.k d,.d d'=>match eqK d d' with | true=>some s | false=>none
 |_,_=>none
def mCPs(m:Nat)(U1:TH):List CP->List TC->MS->Option MS
 |[],[],s=>some s
 |p :: ps, x :: xs, s => match mCP m U1 p x s with
  |some s1=>mCPs m U1 ps xs s1
  |none=>none
 |_,_,_=>none
def ownsT:List TC->List Nat
 |[]=>[]
 |.own _ b _ _::xs=>b::ownsT xs
 |_::xs=>ownsT xs
def ownsV:TV->List Nat
 |.c x=>ownsT [x]
 |.agg xs=>ownsT xs
 |_=>[]
def mRO(m:Nat)(U1:TH)(p:RO)(v:TV)(s:MS):Option MS:=
 match p,v with
 |.v (.c c),v=>match rdV (.c c) (frTV U1 v) with | some a=>some { s with fz:=ownsV v++s.fz,cl:=s.cl++[⟨.cc c,a⟩] } | none=>none
 |.v (.st i),v=>match rdV (.st i) (frTV U1 v) with | some a=>some { s with fz:=ownsV v++s.fz,cl:=s.cl++[⟨.st i,a⟩] } | none=>none
 |.v (.fp i),v=>match rdV (.fp i) (frTV U1 v) with | some a=>some { s with cl:=s.cl++[⟨.fp i,a⟩] } | none=>none
 |.p p,.c x=>mCP m U1 p x s
 |.ag ps,.agg xs=>mCPs m U1 ps xs s
 |_,_=>none
def mROs(m:Nat)(U1:TH):List RO->List TV->MS->Option MS
 |[],[],s=>some s
 |p :: ps, x :: xs, s => match mRO m U1 p x s with
  |some s1=>mROs m U1 ps xs s1
  |none=>none
 |_,_,_=>none
def mPCs(m:Nat)(U U1:TH):List PC->MS->Option MS
 |[],s=>some s
 |.h b j p :: ps, s => match U1[b]?, Nat.blt b m with
  |some (.cells _ cs), true => match cs[j]? with
   |some x => match mCP m U1 p x.2 s with
    |some s1=>mPCs m U U1 ps s1
    |none=>none
   |none=>none
  |_,_=>none
 |.w b i :: ps, s => match U1[b]?, Nat.blt b m with
  |some (.row _ l _ _), true => match castL (i := i) l with
   |some a=>mPCs m U U1 ps { s with rw:=s.rw++[⟨.ls i,a⟩] }
   |none=>none
  |_,_=>none
 |.m b j st :: ps, s => match U1[b]?, Nat.blt b m with
  |some (.mp _ st' l _), true => match st == st', castM (i := j) l with
   |true,some a=>mPCs m U U1 ps { s with rw:=s.rw++[⟨.ml j,a⟩] }
   |_,_=>none
  |_,_=>none
def mNBs(m:Nat)(U1:TH):Nat->List NB->MS->Option MS
 |_,[],s=>some s
 |b, .cells ps :: nbs, s => match rhoK b s.ρ with
  |some b' => match U1[b']? with
   |some (.cells _ cs) => match mCPs m U1 ps (cs.map Prod.snd) s with
    |some s1=>mNBs m U1 (b+1) nbs s1
    |none=>none
   |_=>none
  |none=>none
 |b, .row i :: nbs, s => match rhoK b s.ρ with
  |some b' => match U1[b']? with
   |some (.row _ l _ _) => match castL (i := i) l with
    |some a=>mNBs m U1 (b+1) nbs { s with rw:=s.rw++[⟨.ls i,a⟩] }
    |none=>none
   |_=>none
  |none=>none
 |b, .mp j st :: nbs, s => match rhoK b s.ρ with
  |some b' => match U1[b']? with
   |some (.mp _ st' l _) => match st == st', castM (i := j) l with
    |true,some a=>mNBs m U1 (b+1) nbs { s with rw:=s.rw++[⟨.ml j,a⟩] }
    |_,_=>none
   |_=>none
  |none=>none
def PC.pl:PC->Pl
 |.h b j _=>.h b j .bool
 |.w b i=>.w b i
 |.m b j st=>.m b j st
def nodupN:List Nat->Bool
 |[]=>true
 |x::xs=>!(xs.any (Nat.beq x))&&nodupN xs
def absI(ct:CT)(U U1:TH)(rs:List TV):Option (tupI ct.items):=
 match heapSame (ct.pl.map PC.pl) 0 U U1 with
 |false=>none
 |true => match mROs U.length U1 ct.out rs ⟨[], [], [], []⟩ with
  |none=>none
  |some s1 => match mPCs U.length U U1 ct.pl s1 with
   |none=>none
   |some s2 => match mNBs U.length U1 U.length ct.nb s2 with
    |none=>none
    |some s => match nodupN (s.ρ.map Prod.snd) && (s.fz.all (λb => Nat.ble U.length b && !((s.ρ.map Prod.snd).any (Nat.beq b))) && s.ρ.all λp => Nat.blt p.1 (U.length + ct.nb.length)) with
     |true=>toTup ct.items (s.rw++s.cl)
     |false=>none
def absA(U U1:TH)(rs:List TV):(cs:List CT)->Option (altT cs)
 |[]=>none
 |[c]=>absI c U U1 rs
 |c :: d :: cs => match absI c U U1 rs with
  |some a=>some (.inl a)
  |none => match absA U U1 rs (d :: cs) with
   |some b=>some (.inr b)
   |none=>none
def pRows(U:TH):List PC->List Dat->Option (TH×List Dat)
 |[],ds=>some (U,ds)
 |.h ..::ps,ds=>pRows U ps ds
 |.w b i :: ps, d :: ds => match castI (.ls i) d, U[b]? with
  |some l, some (.row j _ lv cv) => match Nat.beq j i with
   |true=>pRows (U.set b (.row i l (lv+1) (cv+1))) ps ds
   |false=>none
  |_,_=>none
 |.m b j st :: ps, d :: ds => match castI (.ml j) d, U[b]? with
  |some l,some (.mp _ _ _ v)=>pRows (U.set b (.mp j st l (v+1))) ps ds
  |_,_=>none
 |_,[]=>none
def pNew:List NB->List Dat->Option (TH×List Dat)
 |[],ds=>some ([],ds)
 |.cells _::nbs,ds=>match pNew nbs ds with | some (l,r)=>some (.cells 0 []::l,r) | none=>none
 |.row i::nbs,d::ds=>match castI (.ls i) d,pNew nbs ds with | some a,some (l,r)=>some (.row i a 0 0::l,r) | _,_=>none
 |.mp j st::nbs,d::ds=>match castI (.ml j) d,pNew nbs ds with | some a,some (l,r)=>some (.mp j st a 0::l,r) | _,_=>none
 |_,[]=>none
def pCP(σs:TH)(p:CP)(ds:List Dat):Option (TC×List Dat):=
 match p,ds with
 |.c c,d::ds=>match castI (.cc c) d with | some a=>some (expC c a,ds) | none=>none
 |.cx,d::ds=>match castI .cx d with | some a=>some (.cx a.1 a.2,ds) | none=>none
 |.hd b,ds=>match σs[b]? with | some (.row i l lv _)=>some (.own i b lv l.length,ds) | _=>none
 |.pt b off sz,ds=>match Nat.blt b σs.length with | true=>some (.d (.ptr b off sz),ds) | false=>none
 |.mr b,ds=>match Nat.blt b σs.length with | true=>some (.d (.mp b),ds) | false=>none
 |.k d,ds=>match d.low 0 with | true=>some (.d d,ds) | false=>none
 |_,_=>none
def pCPs(σs:TH):List CP->List Dat->Option (List TC×List Dat)
 |[],ds=>some ([],ds)
 |p :: ps, ds => match pCP σs p ds with
  |some (x, ds1) => match pCPs σs ps ds1 with
   |some (xs,r)=>some (x::xs,r)
   |none=>none
  |none=>none
def pRO(σs:TH)(p:RO)(ds:List Dat):Option (TV×List Dat):=
 match p,ds with
 |.v (.c c),d::ds=>match castI (.cc c) d with | some a=>some (.c (expC c a),ds) | none=>none
 |.v (.st i),d::ds=>match castI (.st i) d with | some a=>some (.agg (exp i a),ds) | none=>none
 |.v (.fp i),d::ds=>match castI (.fp i) d with | some a=>some (.c (.fp i a 0),ds) | none=>none
 |.p p,ds=>match pCP σs p ds with | some (x,r)=>some (.c x,r) | none=>none
 |.ag ps,ds=>match pCPs σs ps ds with | some (xs,r)=>some (.agg xs,r) | none=>none
 |_,_=>none
def pROs(σs:TH):List RO->List Dat->Option (List TV×List Dat)
 |[],ds=>some ([],ds)
 |p :: ps, ds => match pRO σs p ds with
  |some (x, ds1) => match pROs σs ps ds1 with
   |some (xs,r)=>some (x::xs,r)
   |none=>none
  |none=>none
def pPCs(σs:TH):List PC->TH->List Dat->Option (TH×List Dat)
 |[],U,ds=>some (U,ds)
 |.h b j p :: ps, U, ds => match pCP σs p ds, U[b]? with
  |some (x,r),some (.cells w cs)=>pPCs σs ps (U.set b (.cells (w+1) (cs.set j (w+1,x)))) r
  |_,_=>none
 |_::ps,U,ds=>pPCs σs ps U ds
def pNBs(σs:TH):List NB->TH->List Dat->Option TH
 |[],_,_=>some []
 |.cells ps :: nbs, _ :: bs, ds => match pCPs σs ps ds with
  |some (xs, r) => match pNBs σs nbs bs r with
   |some l=>some (.cells 0 (xs.map λx=>(0,x))::l)
   |none=>none
  |none=>none
 |_ :: nbs, b :: bs, ds => match pNBs σs nbs bs ds with
  |some l=>some (b::l)
  |none=>none
 |_,_,_=>none
def putI(ct:CT)(U:TH)(x:tupI ct.items):Option (List TV×TH):=
 match pRows U ct.pl (ofTup ct.items x) with
 |none=>none
 |some (σr, d1) => match pNew ct.nb d1 with
  |none=>none
  |some (nb, d2) => match pROs (σr ++ nb) ct.out d2 with
   |none=>none
   |some (vs, d3) => match pPCs (σr ++ nb) ct.pl σr d3 with
    |none=>none
    |some (U2, d4) => match pNBs (σr ++ nb) ct.nb nb d4 with
     |some l=>some (vs,U2++l)
     |none=>none
def oneT:List TV->TV
 |[v]=>v
 |vs=>.tup (vs.map teT)
def fnT:TV->Option (FuncId×List TV×List TV)
 |.c (.d (.c (.fn (.func g) a b)))=>some (g,a.map (λx=>ofD (.c x)),b.map λx=>ofD (.c x))
 |.c (.d (.fn (.func g) a b))=>some (g,a.map ofD,b.map ofD)
 |.c (.fna g xs)=>some (g,[.agg (xs.map cvT)],[])
 |_=>none
def PC.blk:PC->Nat
 |.h b _ _=>b
 |.w b _=>b
 |.m b _ _=>b
def PC.rs:PC->Bool
 |.w ..=>true
 |_=>false
def okT(al:TA):AOp->Bool
 |.load _ (.t a)=>(lkP a al).isSome
 |_=>true
structure Cfg where
 P:Program
 S:TSs
 H:List (Nat×Nat)
 J:List (Nat×JH)
 C:List (Nat×List CT)
 n:Nat
 N:Nat
 inl:(cs:List CT)->FuncId->List TV->TH->Option (altT cs)
 exa:CT->FuncId->List TV->TH->Option (List TV×TH)
 rs:List CT->FuncId->List TV->TH->List CT
def exOf:List CT->Option CT
 |[ct] => match ct.H with
  |(k,_)::_=>match Nat.beq k 1000002 with | true=>some ct | false=>none
  |_=>none
 |_=>none
def inlOf(g:Cfg)(q:Nat)(o:AOper):Option (List CT):=
 match g.C with
 |[]=>none
 |C => match o.op, o.dst with
  |.call _ _,some t=>ctk (q * 65536+t) C
  |_,_=>none
def altOf(g:Cfg)(q:Nat)(o:AOper)(n gi:Nat)(cs:List CT):List CT:=
 match o.dst with
 |some t => match ctk (q * 65536 + t + 1099511627776 * (n + 1)) g.C with
  |some cs'=>cs'
  |none => match ctk (q * 65536 + t + 1208925819614629174706176 * (gi + 1)) g.C with
   |some cs'=>cs'
   |none=>cs
 |none=>cs
def sameD(o o':AOper):Bool:=match o.dst,o'.dst with | some a,some b=>Nat.beq a b | _,_=>false
def inlU(g:Cfg)(q:Nat):List AOper->Bool
 |[]=>true
 |o :: os => (match inlOf g q o with
  |some _=>!(os.any (sameD o))
  |none=>!(os.any λo'=>sameD o o'&&(inlOf g q o').isSome))&&inlU g q os
def inlR(g:Cfg)(q:Nat)(os:List AOper):Bool:=match g.C with | []=>true | _=>inlU g q os
def tOps(g:Cfg)(q:Nat):Nat->Nat->List AOper->Kn->TA->TH->KS R->Option R
  |0,_,_,_,_,_,_=>none
  |_+1,_,[],_,al,U,K=>K al U []
  |fu + 1, k, o :: os, kn, al, U, K=>
    match (match o.dst with | some t=>Nat.blt t g.n | none=>true) with
    |false=>none
    |true=>
    match tGd al kn o.g with
    |.bad=>none
    |.res t x=>tOps g q fu k (o::os) kn ((t,.v x)::al) U K
    |.spl e p=>if e=true then tOps g q fu k (o::os) ((p,true)::kn) al U K else tOps g q fu k (o::os) ((p,false)::kn) al U K
    |.shut => match o.dst with
      |none=>none
      |some t => match okT al o.op with
        |false=>none
        |true=>tOps g q fu (k-1) os kn ((t,.v (.c (.d (.tup []))))::al) U λal' U' is=>K al' U' (mkI o 0 none [] U.length U.length::is)
    |.sym e p w=>
      match totOp o.op,o.dst with
      |true, some t=>
        match tOp (R:=TV) g.P g.S 0 o.op (rdO al kn (some (p,w))) U λv _ _ _=>some v with
        |some v=>tOps g q fu (k-1) os kn ((t,.g e w p v)::al) U λal' U' is=>K al' U' (mkI o (cat o.op) (blkT (rdO al kn (some (p,w))) o.op) [] U.length U.length::is)
        |none=>none
      |_,_=>if e=true then tOps g q fu k (o::os) ((p,true)::kn) al U K else tOps g q fu k (o::os) ((p,false)::kn) al U K
    |.opn=>
      match inlOf g q o with
      |some cs=>
        match o.op with
        |.call f args => match rdO al kn none f, rdOs (rdO al kn none) args with
          |some fv, some vs => match fnT fv with
            |some (gi,a,b)=>match g.rs (altOf g q o U.length gi cs) gi (a++vs++b) U with
             |cs=>match exOf cs with
              |some ct=>(g.exa ct gi (a++vs++b) U).bind λp=>tOps g q fu (k-1) os kn (setR o.dst (.v (oneT p.1)) al) p.2 λal' U' is=>K al' U' (mkI o (cat o.op) none [] U.length p.2.length::is)
              |none=>(g.inl cs gi (a++vs++b) U).bind λx=>altK cs x λct x=>match putI ct U x with
              |some (rv, U1) => match Nat.beq k 0 || !(ct.pl.any PC.rs) with
                |true=>tOps g q fu (k-1) os kn (setR o.dst (.v (oneT rv)) al) U1 λal' U' is=>K al' U' (mkI o (cat o.op) none (ct.pl.map PC.blk) U.length U1.length::is)
                |false=>none
              |none=>none
            |none=>none
          |_,_=>none
        |_=>none
      |none=>
      match o.op,o.dst with
      |.pick (.t c) x y, some t=>
        match lkP c al with
        |some (.v cv, p)=>
          match gdC kn p cv with
          |.opn => match rdO al ((p, true) :: kn) none x with
            |some v=>tOps g q fu (k-1) os kn ((t,.v v)::al) U λal' U' is=>K al' U' (mkI o (cat o.op) none [] U.length U.length::is)
            |none=>none
          |.shut => match rdO al ((p, false) :: kn) none y with
            |some v=>tOps g q fu (k-1) os kn ((t,.v v)::al) U λal' U' is=>K al' U' (mkI o (cat o.op) none [] U.length U.length::is)
            |none=>none
          |.sym e p _ => match rdO al kn (some (p, true)) x, rdO al kn (some (p, false)) y with
            |some u, some v => match bxOf u, bxOf v with
              |some u,some v=>tOps g q fu (k-1) os kn ((t,.v (pkV e u v))::al) U λal' U' is=>K al' U' (mkI o (cat o.op) none [] U.length U.length::is)
              |_,_=>none
            |_,_=>none
          |_=>none
        |_=>none
      |op,dst=>tOp g.P g.S (hintOf g.H dst) op (rdO al kn none) U λv U1 rs wr=>
          match Nat.beq k 0 || !rs with
          |true=>tOps g q fu (k-1) os kn (setR dst (.v v) al) U1 λal' U' is=>K al' U' (mkI o (cat op) (blkT (rdO al kn none) op) wr U.length U1.length::is)
          |false=>none
def rdP(al:TA)(U:TH):(p:Pl)->Option p.dn
 |.r t c => match lkT t al with
  |some (.v x)=>rdV c x
  |_=>none
 |.w b _ => match U[b]? with
  |some (.row _ l _ _)=>castL l
  |_=>none
 |.h b j c => match U[b]? with
  |some (.cells _ cs) => match cs[j]? with
   |some x=>rdC c x.2
   |none=>none
  |_=>none
 |.m b _ st => match U[b]? with
  |some (.mp _ st' l _)=>match st == st' with | true=>castM l | false=>none
  |_=>none
def rdPs(al:TA)(U:TH):(ps:List Pl)->Option (tupP ps)
 |[]=>some ()
 |[p]=>rdP al U p
 |p :: q :: ps => match rdP al U p, rdPs al U (q :: ps) with
  |some a,some b=>some (a,b)
  |_,_=>none
def putP(p:Pl)(x:p.dn)(al:TA):TA:=
 match p,x with
 |.r t c,x=>(t,.v (c.tv x))::al
 |_,_=>al
def putPs:(ps:List Pl)->tupP ps->TA->TA
 |[],_,al=>al
 |[p],x,al=>putP p x al
 |p::q::ps,x,al=>putP p x.1 (putPs (q::ps) x.2 al)
def putQ(p:Pl)(x:p.dn)(U:TH):TH:=
 match p,x with
 |.w b i, x => match U[b]? with
  |some (.row _ _ lv cv)=>U.set b (.row i x (lv+1) (cv+1))
  |_=>U
 |.h b j c, x => match U[b]? with
  |some (.cells w cs)=>U.set b (.cells (w+1) (cs.set j (w+1,expC c x)))
  |_=>U
 |.m b j st, x => match U[b]? with
  |some (.mp _ _ _ v)=>U.set b (.mp j st x (v+1))
  |_=>U
 |_,_=>U
def putQs:(ps:List Pl)->tupP ps->TH->TH
 |[],_,U=>U
 |[p],x,U=>putQ p x U
 |p::q::ps,x,U=>putQ p x.1 (putQs (q::ps) x.2 U)
def putH(U:TH):List (Nat×Nat)->TA->TA
 |[],al=>al
 |(t, b) :: hs, al => match U[b]? with
  |some (.row i l lv _)=>(t,.v (.c (.own i b lv l.length)))::putH U hs al
  |_=>putH U hs al
def shade(md:List Nat)(al:TA):TA:=(md.filter λt=>(lkT t al).isSome).map (λt=>(t,.v (.c .any)))++al
def zbX:ACode->List Nat
 |.reg os=>os.filterMap (·.dst)
 |.drw os _ _ _=>os.filterMap (·.dst)
 |.seq a b=>zbX a++zbX b
 |.cond _ a b=>zbX a++zbX b
 |.block _ b=>zbX b
 |.loop b=>zbX b
 |.scp _ a r=>zbX a++zbX r
 |_=>[]
def hsOk(al:TA)(U:TH)(hs:List (Nat×Nat)):Bool:=
 hs.all λ(t,b)=>match lkT t al,U[b]? with
  |some (.v (.c (.own i b' v _))),some (.row j _ lv _)=>Nat.beq b' b&&(Nat.beq v lv&&Nat.beq i j)
  |_,_=>false
def rowAt(U:TH)(b:Nat):Bool:=match U[b]? with | some (.row ..)=>true | _=>false
def regsOk(hs:List (Nat×Nat))(md:List Nat)(al:TA)(U:TH)(al1:TA):Bool:=(al1.take (al1.length-al.length)).all λp=>md.any (Nat.beq p.1) || hs.any λz=>Nat.beq z.1 p.1&&rowAt U z.2
def absJ(h:JH)(md:List Nat)(al:TA)(U:TH)(al1:TA)(U1:TH):Option (tupP h.pl):=
 match regsOk h.hs md al U al1&&(heapSame (h.pl++zpl h.zs) 0 U U1&&(hsOk al1 U1 h.hs&&zsOk U.length U1 h.zs)) with
 |true=>rdPs al1 U1 h.pl
 |false=>none
def frzT(m:Nat)(U:TH):TC->TC
 |.own i b v n => match Nat.blt b m with
  |true=>.own i b v n
  |false => match U[b]? with
   |some (.row j l lv _)=>match Nat.beq lv v with | true=>.sl j l | false=>.any
   |_=>.any
 |.op i b v n k a o=>match Nat.blt b m with | true=>.op i b v n k a o | false=>.any
 |.ap b off len sz k=>match Nat.blt b m with | true=>.ap b off len sz k | false=>.any
 |.os i b v n lo len=>match Nat.blt b m with | true=>.os i b v n lo len | false=>.any
 |.d x=>match x.low m with | true=>.d x | false=>.any
 |.fna g xs=>match xs.all (CV.low m) with | true=>.fna g xs | false=>.any
 |x=>x
def frzV(m:Nat)(U:TH):RV->RV
 |.v (.c x)=>.v (.c (frzT m U x))
 |.v (.agg xs)=>.v (.agg (xs.map (frzT m U)))
 |_=>.v (.c .any)
def frzA(m:Nat)(U:TH):Nat->TA->TA
 |0,al=>al
 |_+1,[]=>[]
 |k+1,(t,x)::al=>(t,frzV m U x)::frzA m U k al
def okC(m:Nat):TC->Bool
 |.own _ b _ _=>Nat.blt b m
 |.op _ b _ _ _ _ _=>Nat.blt b m
 |.ap b _ _ _ _=>Nat.blt b m
 |.os _ b _ _ _ _=>Nat.blt b m
 |.d x=>x.low m
 |.fna _ xs=>xs.all (CV.low m)
 |_=>true
def okB(m:Nat):TB->Bool
 |.cells _ cs=>cs.all λp=>okC m p.2
 |_=>true
def absF(h:JH)(md:List Nat)(al:TA)(U:TH)(al1:TA)(U1:TH):Option (tupP h.pl):=
 match (U1.take U.length).all (okB U.length) with
 |true=>absJ h md al U (frzA U.length U1 (al1.length-al.length) al1) (U1.take U.length)
 |false=>absJ h md al U al1 U1
def putZ(h:JH)(md:List Nat)(al:TA)(U:TH)(x:tupP h.pl):TH:=putZs h.zs (putQs h.pl x U)
def putX(h:JH)(md:List Nat)(al:TA)(U:TH)(x:tupP h.pl):TA:=putPs h.pl x (putH (putQs h.pl x U) h.hs (shade md al))
def nrC(t:Nat):TC->Bool
 |.own _ b _ _=>!Nat.beq b t
 |.op _ b _ _ _ _ _=>!Nat.beq b t
 |.ap b _ _ _ _=>!Nat.beq b t
 |.os _ b _ _ _ _=>!Nat.beq b t
 |.d x=>x.low t
 |.fna _ xs=>xs.all (CV.low t)
 |_=>true
def nrV(t:Nat):TV->Bool
 |.c x=>nrC t x
 |.agg xs=>xs.all (nrC t)
 |.tup xs=>xs.all λp=>p.2.all (nrC t)
def nrR(t:Nat):RV->Bool
 |.v x=>nrV t x
 |.g _ _ _ x=>nrV t x
def cutC(t:Nat)(x:TC):TC:=match nrC t x with | true=>x | false=>.any
def cutR(t:Nat):RV->RV
 |.v (.c x)=>.v (.c (cutC t x))
 |.v (.agg xs)=>.v (.agg (xs.map (cutC t)))
 |_=>.v (.c .any)
def cutP(t w:Nat)(p:Nat×TC):Nat×TC:=match nrC t p.2 with | true=>p | false=>(w+1,.any)
def cutB(t:Nat):TB->TB
 |.cells w cs=>.cells (w+1) (cs.map (cutP t w))
 |x=>x
def dflC:(c:CC)->c.dn
 |.int _=>(0:Int)
 |.bool=>false
 |.str=>ByteArray.empty
 |.sl _=>[]
def dflT:(cs:List CC)->tup cs
 |[]=>()
 |c::cs=>(dflC c,dflT cs)
def dfl(i:Nat):TT i:=Y.mkt i (dflT (Y.fl i))
def mvA(n t b j:Nat)(al:TA)(U:TH):Option (TA×TH):=
 match U[b]? with
 |some (.cells w cs) => match cs[j]? with
  |some (_, .own _ r v _) => match Nat.beq r t with
   |true=>some (al,U)
   |false => match U[r]?, U[t]? with
    |some (.row i1 l lv cv), some (.row i2 _ lt ct) => match Nat.beq v lv && (Nat.beq i2 i1 && (al.drop n).all λp => nrR t p.2) with
     |true => some ((al.take n).map (λp => (p.1, cutR t p.2)) ++ al.drop n,
      (((U.map (cutB t)).set t (.row i1 l (lt+1) (ct+1))).set r (.row i1 (l++[dfl i1]) (lv+1) (cv+1))).set b (.cells (w+2) ((cs.map (cutP t w)).set j (w+2,.own i1 t (lt+1) l.length))))
     |false=>none
    |_,_=>none
  |_=>none
 |_=>none
def mvL(n:Nat):List (Nat×Nat×Nat)->TA->TH->Option (TA×TH)
 |[],al,U=>some (al,U)
 |(b, j, t) :: zs, al, U => match mvA n t b j al U with
  |some (al,U)=>mvL n zs al U
  |none=>none
def mvE:List (Nat×Nat×Nat)->TA->TH->Option (TA×TH)
 |[],al,U=>some (al,U)
 |(b, j, t) :: zs, al, U => match Nat.beq t U.length, U[b]? with
  |true, some (.cells _ cs) => match cs[j]? with
   |some (_, .own i _ _ _) => match mvA 0 t b j al (U ++ [.row i [] 0 0]) with
    |some (al,U)=>mvE zs al U
    |none=>none
   |_=>none
  |_,_=>none
def mvs(m:Nat)(zs:List (Nat×Nat×Nat)):List (Nat×Nat×Nat):=zs.filter λz=>Nat.ble m z.2.2
def jn{X:Type}(r:X->Option R)(b:(X->Option R)->Option R):Option R:=b r
def lpX{X:Type}(b:(X->Option R)->X->Option R):Nat->X->Option R
 |0,_=>none
 |n+1,x=>b (lpX b n) x
def jhk(p:Nat):List (Nat×JH)->Option JH
 |[]=>none
 |(q,h)::l=>match Nat.beq q p with | true=>some h | false=>jhk p l
def jhl(p n:Nat)(J:List (Nat×JH)):Option JH:=match jhk (p+1099511627776 * (n+1)) J with
 |some h=>some h
 |none=>jhk p J
abbrev KC(R:Type):=zcX->TA->TH->Option R
def isApp(os:List AOper):Bool:=(os.any λo=>match o.op with | .append ..=>true | _=>false)&&os.any λo=>match o.op with | .upd ..=>true | _=>false
def rsCall(g:Cfg)(q:Nat)(os:List AOper):Bool:=match g.C with
 |[]=>false
 |_ => os.any λo => match inlOf g q o with
  |some cs=>cs.any λct=>ct.pl.any PC.rs || ct.H.any λp=>Nat.beq p.1 1000005
  |none=>false
def lpU{X:Type}(b:(TA->TH->Option X)->TA->TH->Option X):Nat->TA->TH->Option X
 |0,_,_=>none
 |n+1,al,U=>b (lpU b n) al U
def unrOf(h:JH):Option Nat:=match h.os with
 |[(k,n)]=>match Nat.beq k 1000003 with | true=>some n | false=>none
 |_=>none
def tC(g:Cfg):ACode->Nat->TA->TH->KC R->Option R
 |.skip,_,al,U,K=>K .normal al U
 |.reg os, q, al, U, K => match inlR g q os with
  |true=>tOps g q 1000 0 os [] al U λal' U' _=>K .normal al' U'
  |false=>none
 |.drw os bef k p, q, al, U, K=>
  match inlR g q os with
  |false=>none
  |true=>
  match isApp os with
  |true=>tOps g q 1000 os.length os [] al U λal' U' is=>match pairsOk bef is&&tailOk bef p os.length os.length&&Nat.ble p os.length with | true=>K .normal al' U' | false=>none
  |false => match lateP os bef with
   |some (pi, _, n0) => match inlR g q (permL pi os) with
    |true=>tOps g q 1000 n0 (permL pi os) [] al U λal' U' is=>match ghOk bef pi is with | true=>K .normal al' U' | false=>none
    |false=>none
   |none=>match rsCall g q os with
   |true=>tOps g q 1000 (lastCall os) os [] al U λal' U' is=>match pairsOk bef is&&tailOk bef p (lastCall os) os.length&&Nat.ble p (lastCall os) with | true=>K .normal al' U' | false=>none
   |false=>tOps g q 1000 k os [] al U λal' U' is=>match pairsOk bef is&&tailOk bef p k os.length&&Nat.ble p k with | true=>K .normal al' U' | false=>none
 |.seq a b, q, al, U, K=>
  match jhl q U.length g.J with
  |none => tC g a (2 * q) al U λx al1 U1 => match x with
   |.normal=>tC g b (2 * q+1) al1 U1 K
   |x=>K x al1 U1
  |some h => match ownz h.os al U with
   |none=>none
   |some (al, U) => jn (λx => tC g b (2 * q + 1) (putX h (zbX a) al U x) (putZ h (zbX a) al U x) K) λj=>
    tC g a (2 * q) al U λx al1 U1=>match x with
     |.normal=>match absF h (zbX a) al U al1 U1 with | some x=>j x | none=>none
     |x=>K x al1 U1
 |.cond c a b, q, al, U, K=>
  match rdO al [] none c with
  |some (.c (.d (.c (.lit (.bool true)))))=>tC g a (2 * q) al U K
  |some (.c (.d (.c (.lit (.bool false)))))=>tC g b (2 * q+1) al U K
  |some (.c (.b e))=>if e=true then tC g a (2 * q) al U K else tC g b (2 * q+1) al U K
  |_=>none
 |.block id b, q, al, U, K => tC g b (2 * q) al U λx al1 U1 => match x with
  |.exit i=>match Nat.beq i id with | true=>K .normal al1 U1 | false=>K (.exit i) al1 U1
  |x=>K x al1 U1
 |.loop b, q, al, U, K=>
  match jhl q U.length g.J with
  |none=>none
  |some h => match unrOf h with
   |some n => lpU (λrec al U => tC g b (2 * q) al U λex al1 U1 => match ex with
    |.normal=>rec al1 U1
    |ex=>K ex al1 U1) n al U
   |none=>match ownz h.os al U with
   |none=>none
   |some (al,U)=>match mvs U.length h.zs with
   |z :: zs => (match mvE (z :: zs) al U with
    |none=>none
    |some (al, U) => match absJ h (zbX b) al U al U with
     |none=>none
     |some x0 => lpX (λrec x=>
      tC g b (2 * q) (putX h (zbX b) al U x) (putZ h (zbX b) al U x) λex al1 U1=>match ex with
       |.normal => match mvL (al1.length - (putX h (zbX b) al U x).length) (z :: zs) al1 U1 with
        |none=>none
        |some (al1,U1)=>match absF h (zbX b) (putX h (zbX b) al U x) (putZ h (zbX b) al U x) al1 U1 with | some x'=>rec x' | none=>none
       |ex=>K ex al1 U1) g.N x0)
   |[]=>match absJ h (zbX b) al U al U with
   |none=>none
   |some x0 => lpX (λrec x=>
    tC g b (2 * q) (putX h (zbX b) al U x) (putZ h (zbX b) al U x) λex al1 U1=>match ex with
     |.normal=>match absF h (zbX b) (putX h (zbX b) al U x) (putZ h (zbX b) al U x) al1 U1 with | some x'=>rec x' | none=>none
     |ex=>K ex al1 U1) g.N x0
 |.exit id,_,al,U,K=>K (.exit id) al U
 |.ret,_,al,U,K=>K .ret al U
 |.lbl _,_,al,U,K=>K .normal al U
 |.scp l a r, q, al, U, K=>
  match jhl q U.length g.J with
  |none => tC g a (2 * q) al U λex al1 U1 => match ex with
   |.exit i => match Nat.beq i (2 * l + 1) with
    |true => tC g r (2 * q + 1) al1 U1 λex al2 U2 => match ex with
     |.exit i=>match Nat.beq (i % 2) 0 with | true=>K (.exit i) al2 U2 | false=>none
     |ex=>K ex al2 U2
    |false=>match Nat.beq (i % 2) 0 with | true=>K (.exit i) al1 U1 | false=>none
   |ex=>K ex al1 U1
  |some h => tC g a (2 * q) al U λex al1 U1 => match ex with
   |.exit i => match Nat.beq i (2 * l + 1) with
    |true => match absF h (zbX a ++ zbX r) al U al1 U1 with
     |none=>none
     |some x0 => lpX (λrec x => tC g r (2 * q + 1) (putX h (zbX a ++ zbX r) al U x) (putZ h (zbX a ++ zbX r) al U x) λex al1 U1 => match ex with
      |.exit i => match Nat.beq i (2 * l + 1) with
       |true=>match absF h (zbX a++zbX r) (putX h (zbX a++zbX r) al U x) (putZ h (zbX a++zbX r) al U x) al1 U1 with | some x'=>rec x' | none=>none
       |false=>match Nat.beq (i % 2) 0 with | true=>K (.exit i) al1 U1 | false=>none
      |ex=>K ex al1 U1) g.N x0
    |false=>match Nat.beq (i % 2) 0 with | true=>K (.exit i) al1 U1 | false=>none
   |ex=>K ex al1 U1
 |.stuck,_,_,_,_=>none
def zipT:Nat->List TV->TA
 |_,[]=>[]
 |i,d::ds=>(i,.v d)::zipT (i+1) ds
def resT(al:TA)(U:TH):Nat×Option (Option Nat)->Option TV
 |(t,none)=>match lkT t al with | some (.v x)=>some x | _=>none
 |(t, some n) => match lkT t al with
  |some (.v (.c (.d (.ptr b off sz)))) => match U[b]? with
   |some (.cells _ cs)=>match Nat.beq cs.length sz with | true=>getT n (cs.map Prod.snd) off | false=>none
   |_=>none
  |_=>none
def rdOut(U:TH):(cs:List VCd)->List TV->Option (outV cs)
 |[],[]=>some ()
 |[c],[x]=>rdV c (frTV U x)
 |c :: d :: cs, x :: xs => match rdV c (frTV U x), rdOut U (d :: cs) xs with
  |some a,some b=>some (a,b)
  |_,_=>none
 |_,_=>none
def mapO{α β:Type}(f:α->Option β):List α->Option (List β)
 |[]=>some []
 |x :: xs => match f x, mapO f xs with
  |some a,some b=>some (a::b)
  |_,_=>none
structure OSp where
 inp:CT
 cts:List CT
 f:tupI inp.items->Option (altT cts)
abbrev OSs:=List (Nat×OSp)
def absS(inp:CT)(U:TH)(vs:List TV):Option (List (Nat×Nat)×tupI inp.items):=
 match mROs 0 U inp.out vs ⟨[],[],[],[]⟩ with
 |none=>none
 |some s1 => match mNBs 0 U 0 inp.nb s1 with
  |none=>none
  |some s => match nodupN (s.ρ.map Prod.snd) && (s.fz.isEmpty && (inp.pl.isEmpty && s.ρ.all λp => Nat.blt p.1 (0 + inp.nb.length))) with
   |true => match toTup inp.items (s.rw ++ s.cl) with
    |some x=>some (s.ρ,x)
    |none=>none
   |false=>none
def isNilT:TC->Bool
 |.d (.c (.lit (.slice none 0 0)))=>true
 |_=>false
def exN(U:TH)(ρ:List (Nat×Nat)):Nat->TH->Bool
 |_,[]=>true
 |i, .cells _ ys :: bs => (match U[(rhoK i ρ).getD 0]? with
  |some (.cells _ xs)=>exC xs ys
  |_=>false)&&exN U ρ (i+1) bs
 |i,_::bs=>exN U ρ (i+1) bs
where exC:List (Nat×TC)->List (Nat×TC)->Bool
 |(_,x)::xs,(_,y)::ys=>(!(isNilT x) || isNilT y)&&exC xs ys
 |_,_=>true
def rhoA(n m:Nat)(ρ:List (Nat×Nat))(i:Nat):Nat:=match Nat.blt i n with | true=>(rhoK i ρ).getD 0 | false=>m+(i-n)
def eqVC:VCd->VCd->Bool
 |.c x,.c y=>decide (x=y)
 |.st i,.st j=>Nat.beq i j
 |.fp i,.fp j=>Nat.beq i j
 |.k g,.k h=>Nat.beq g h
 |_,_=>false
def rCP(ρ:Nat->Nat)(n:Nat):CP->CP->Bool
 |.c a,.c b=>decide (a=b)
 |.cx,.cx=>true
 |.hd b,.hd b'=>Nat.beq (ρ b) b'&&Nat.blt b n
 |.pt b o s,.pt b' o' s'=>Nat.beq (ρ b) b'&&(Nat.blt b n&&(Nat.beq o o'&&Nat.beq s s'))
 |.mr b,.mr b'=>Nat.beq (ρ b) b'&&Nat.blt b n
 |.k d,.k d'=>eqK d d'
 |_,_=>false
def rCPs(ρ:Nat->Nat)(n:Nat):List CP->List CP->Bool
 |[],[]=>true
 |p::ps,q::qs=>rCP ρ n p q&&rCPs ρ n ps qs
 |_,_=>false
def rRO(ρ:Nat->Nat)(n:Nat):RO->RO->Bool
 |.v a,.v b=>eqVC a b
 |.p a,.p b=>rCP ρ n a b
 |.ag a,.ag b=>rCPs ρ n a b
 |_,_=>false
def rROs(ρ:Nat->Nat)(n:Nat):List RO->List RO->Bool
 |[],[]=>true
 |p::ps,q::qs=>rRO ρ n p q&&rROs ρ n ps qs
 |_,_=>false
def rPC(ρ:Nat->Nat)(m0 n:Nat):PC->PC->Bool
 |.h b j p,.h b' j' p'=>Nat.beq (ρ b) b'&&(Nat.blt b m0&&(Nat.beq j j'&&rCP ρ n p p'))
 |.w b i,.w b' i'=>Nat.beq (ρ b) b'&&(Nat.blt b m0&&Nat.beq i i')
 |.m b j st,.m b' j' st'=>Nat.beq (ρ b) b'&&(Nat.blt b m0&&(Nat.beq j j'&&st == st'))
 |_,_=>false
def rPCs(ρ:Nat->Nat)(m0 n:Nat):List PC->List PC->Bool
 |[],[]=>true
 |p::ps,q::qs=>rPC ρ m0 n p q&&rPCs ρ m0 n ps qs
 |_,_=>false
def rNB(ρ:Nat->Nat)(n:Nat):NB->NB->Bool
 |.cells a,.cells b=>rCPs ρ n a b
 |.row i,.row j=>Nat.beq i j
 |.mp j st,.mp j' st'=>Nat.beq j j'&&st == st'
 |_,_=>false
def rNBs(ρ:Nat->Nat)(n:Nat):List NB->List NB->Bool
 |[],[]=>true
 |p::ps,q::qs=>rNB ρ n p q&&rNBs ρ n ps qs
 |_,_=>false
def rCT(ρ:Nat->Nat)(m0:Nat)(a b:CT):Bool:=
 rROs ρ (m0+a.nb.length) a.out b.out&&(rPCs ρ m0 (m0+a.nb.length) a.pl b.pl&&rNBs ρ (m0+a.nb.length) a.nb b.nb)
def rCTs(ρ:Nat->Nat)(m0:Nat):List CT->List CT->Bool
 |[],[]=>true
 |a::as,b::bs=>rCT ρ m0 a b&&rCTs ρ m0 as bs
 |_,_=>false
theorem altT_eq:∀{a b:List CT},a.map CT.items=b.map CT.items->altT a=altT b:=by
 intro a;induction a with
 |nil=>intro b h;cases b with | nil=>rfl | cons _ _=>simp at h
 |cons x a ih=>
  intro b h;cases b with
  |nil=>simp at h
  |cons y b=>
   simp only[yAw,yBs] at h;cases a with
   |nil => cases b with
    |nil=>simp only[altT,h.1]
    |cons _ _=>simp at h
   |cons x2 a => cases b with
    |nil=>simp at h
    |cons y2 b=>simp only[altT,h.1,ih h.2]
def inlS(O:OSs)(cs:List CT)(gi:FuncId)(vs:List TV)(U:TH):Option (altT cs):=
 match cs with
 |[]=>none
 |ct :: cs => match ct.H with
  |[(_, k)] => match O[k]? with
   |some (g, s) => match Nat.beq g gi, absS s.inp U vs with
    |true, some (ρ, x) => match putI s.inp [] x with
     |some (_, U0) => match exN U ρ 0 U0 && rCTs (rhoA s.inp.nb.length U.length ρ) s.inp.nb.length s.cts (ct :: cs) with
      |true => match decEq (s.cts.map CT.items) ((ct :: cs).map CT.items) with
       |.isTrue h=>cast (yCj Option (altT_eq h)) (s.f x)
       |.isFalse _=>none
      |false=>none
     |none=>none
    |_,_=>none
   |none=>none
  |_=>none
abbrev ResF:=List CT->FuncId->List TV->TH->List CT
abbrev InlB:=(cs:List CT)->FuncId->List TV->TH->Option (altT cs)
def renCP(ρ:Nat->Nat):CP->CP
 |.hd b=>.hd (ρ b)
 |.pt b o s=>.pt (ρ b) o s
 |.mr b=>.mr (ρ b)
 |p=>p
def renRO(ρ:Nat->Nat):RO->RO
 |.p p=>.p (renCP ρ p)
 |.ag ps=>.ag (ps.map (renCP ρ))
 |o=>o
def renPC(ρ:Nat->Nat):PC->PC
 |.h b j p=>.h (ρ b) j (renCP ρ p)
 |.w b i=>.w (ρ b) i
 |.m b j st=>.m (ρ b) j st
def renNB(ρ:Nat->Nat):NB->NB
 |.cells ps=>.cells (ps.map (renCP ρ))
 |n=>n
def renCT(ρ:Nat->Nat)(H:List (Nat×Nat))(c:CT):CT:=.mk (c.out.map (renRO ρ)) (c.pl.map (renPC ρ)) (c.nb.map (renNB ρ)) H [] []
def resK(O:OSs)(gi:FuncId)(vs:List TV)(U:TH):List (Nat×Nat)->List CT
 |[]=>[]
 |(q, k) :: H => match Nat.beq q 1000000, O[k]? with
  |true, some (g, s) => match Nat.beq g gi, absS s.inp U vs with
   |true,some (ρ,_)=>s.cts.map (renCT (rhoA s.inp.nb.length U.length ρ) [(1000000,k)])
   |_,_=>resK O gi vs U H
  |_,_=>resK O gi vs U H
def resO(O:OSs):ResF:=λcs gi vs U=>match cs with
 |[.mk [] [] [] (p :: H) [] []] => match Nat.beq p.1 1000000 with
  |true=>resK O gi vs U (p::H)
  |false=>cs
 |cs=>cs
def isOS(ct:CT):Bool:=match ct.H with
 |[(k,_)]=>Nat.beq k 1000000
 |_=>false
abbrev ExB:=CT->FuncId->List TV->TH->Option (List TV×TH)
def sTC(n:Nat):TC->Bool
 |.d x=>x.low n
 |.b _=>true
 |.sl _ _=>true
 |.fp _ _ _=>true
 |.fl _=>true
 |.cx _ _=>true
 |_=>false
def exV(n:Nat):TV->Bool
 |.c x=>sTC n x
 |.agg xs=>xs.all (sTC n)
 |.tup _=>false
def sBlk(n:Nat):TB->Bool
 |.cells w cs=>cs.all λp=>sTC n p.2&&Nat.ble p.1 w
 |_=>false
def inl1(P:Program)(S:TSs)(N:Nat)(B:InlB)(RS:ResF)(I:InlB)(X:ExB):InlB:=λcs g vs U=>
 match cs with
 |[]=>none
 |ct :: cs=>
  match isOS ct with
  |true=>B (ct::cs) g vs U
  |false=>
  match P.funcs[g]? with
  |some f => match compF P f true with
   |some af => match enterable P g && Nat.ble vs.length af.ntmps with
    |true => tC ⟨P, S, ct.H, ct.J, ct.C, af.ntmps, N, I, X, RS⟩ af.body 1 (zipT 0 vs) U λx al1 U1 => match x with
     |.exit _=>none
     |_ => match mapO (resT al1 U1) af.results with
      |some rs=>absA U U1 rs (ct::cs)
      |none=>none
    |false=>none
   |none=>none
  |none=>none
def ex1(P:Program)(S:TSs)(N:Nat)(RS:ResF)(I:InlB)(X:ExB):ExB:=λct g vs U=>
 match P.funcs[g]? with
 |some f => match compF P f true with
  |some af => match enterable P g && Nat.ble vs.length af.ntmps with
   |true => (tC (R := List TV × TH) ⟨P, S, ct.H, ct.J, ct.C, af.ntmps, N, I, X, RS⟩ af.body 1 (zipT 0 vs) U λx al1 U1 => match x with
    |.exit _=>none
    |_ => match mapO (resT al1 U1) af.results with
     |some rs=>some (rs,U1)
     |none => none).bind λp => match p.1.all (exV p.2.length) && (heapSame [] 0 U p.2 && (p.2.drop U.length).all (sBlk p.2.length)) with
      |true=>some (p.1,U++p.2.drop U.length)
      |false=>none
   |false=>none
  |none=>none
 |none=>none
def evD(P:Program)(S:TSs)(N:Nat)(B:InlB)(RS:ResF):Nat->InlB×ExB
 |0=>(λ_ _ _ _=>none,λ_ _ _ _=>none)
 |d+1=>(inl1 P S N B RS (evD P S N B RS d).1 (evD P S N B RS d).2,ex1 P S N RS (evD P S N B RS d).1 (evD P S N B RS d).2)
def tF(P:Program)(S:TSs)(B:InlB)(RS:ResF)(H:List (Nat×Nat))(J:List (Nat×JH))(C:List (Nat×List CT))(dp:Nat)(f:AFunc)(ins out:List VCd)(N:Nat)(a:tupV ins):Option (outV out):=
 tC ⟨P,S,H,J,C,f.ntmps,N,(evD P S N B RS dp).1,(evD P S N B RS dp).2,RS⟩ f.body 1 (zipT 0 (tvV ins a)) [] λx al U=>
  match x with
  |.exit _=>none
  |_ => match mapO (resT al U) f.results with
   |some rs=>rdOut U out rs
   |none=>none
end
end Go.Abs
end
section
namespace Go.Abs
section
variable[Gl][Y:Ty]
def GC(U:TH):TC->Prop
 |.own i c v n=>∃blk,U[c]? = some blk/\∀j l lv cv,blk=.row j l lv cv->v<=lv/\(v=lv->j=i/\n=l.length)
 |.op i c v n k a _=>∃blk,U[c]? = some blk/\∀j l lv cv,blk=.row j l lv cv->v<=cv/\(v=cv->∃m:List (TT i),castL l=some m/\n=m.length/\at? m k=some a)
 |.ap c _ _ _ _=>c<U.length
 |.os i c v n lo len=>∃blk,U[c]? = some blk/\∀j l lv cv,blk=.row j l lv cv->v<=lv/\(v=lv->j=i/\n=l.length/\lo+len<=n)
 |.d x=>x.low U.length=true
 |.fna _ xs=>xs.all (CV.low U.length)=true
 |_=>True
def GV(U:TH):TV->Prop
 |.c x=>GC U x
 |.agg xs=>∀x∈xs,GC U x
 |.tup xs=>∀p∈xs,∀x∈p.2,GC U x
structure RH (U:TH) (σD:Heap):Prop where
 len:σD.length=U.length
 hp:∀(b:Nat) blk,U[b]? = some blk->∃ob,σD[b]? = some ob/\RB blk ob
 hg:∀(b:Nat) w cs,U[b]? = some (.cells w cs)->∀p∈cs,GC U p.2/\p.1<=w
def BE:TB->TB->Prop
 |.cells w cs,blk1=>∃w1 cs1,blk1=.cells w1 cs1/\w<=w1/\cs1.length=cs.length/\∀(j:Nat) v x v1 x1,cs[j]? = some (v,x)->cs1[j]? = some (v1,x1)->(v1=v/\x1=x)∨w<v1
 |.row i l lv cv,blk1=>∃l1 lv1 cv1,blk1=.row i l1 lv1 cv1/\lv<=lv1/\cv<=cv1/\(lv=lv1->l1.length=l.length)/\(cv=cv1->l1=l/\lv1=lv)
 |.mp j st l v,blk1=>∃j1 st1 l1 v1,blk1=.mp j1 st1 l1 v1/\v<=v1/\(v=v1->blk1=.mp j st l v)
def Ext(U U1:TH):Prop:=∀(b:Nat) blk,U[b]? = some blk->∃blk1,U1[b]? = some blk1/\BE blk blk1
theorem BE.refl(blk:TB):BE blk blk:=by
 cases blk with
 |cells w cs=>exact ⟨w,cs,rfl,yAo _,rfl,λj v x v1 x1 h h1=>.inl (by rw[h] at h1;simp only[yAa,yAc] at h1;exact ⟨h1.1.symm,h1.2.symm⟩)⟩
 |row i l lv cv=>exact ⟨l,lv,cv,rfl,yAo _,yAo _,λ_=>rfl,λ_=>⟨rfl,rfl⟩⟩
 |mp j st l v=>exact ⟨j,st,l,v,rfl,yAo _,λ_=>rfl⟩
theorem Ext.refl(U:TH):Ext U U:=λ_ blk h=>⟨blk,h,BE.refl blk⟩
theorem BE.trans{a b c:TB}(h1:BE a b)(h2:BE b c)(ha:∀w cs,a=.cells w cs->∀p∈cs,p.1<=w):BE a c:=by
 cases a with
 |cells w cs=>
  obtain ⟨w1,cs1,rfl,hw,hl,hc⟩:=h1;obtain ⟨w2,cs2,rfl,hw2,hl2,hc2⟩:=h2;refine ⟨w2,cs2,rfl,by omega,by rw[hl2,hl],λj v x v2 x2 h h2=>?_⟩;have hj:j<cs1.length:=by rw[hl];exact (yAb.1 h).1
  obtain ⟨⟨v1,x1⟩,hq'⟩:∃p,cs1[j]? = some p:=⟨cs1[j],yAg hj⟩;rcases hc j v x v1 x1 h hq' with ⟨rfl,rfl⟩ | hlt
  ·rcases hc2 j _ _ v2 x2 hq' h2 with h | h
   ·exact .inl h
   ·exact .inr (by omega)
  ·rcases hc2 j _ _ v2 x2 hq' h2 with ⟨rfl,rfl⟩ | h
   ·exact .inr hlt
   ·exact .inr (by omega)
 |row i l lv cv=>
  obtain ⟨l1,lv1,cv1,rfl,h3,h4,h5,h6⟩:=h1;obtain ⟨l2,lv2,cv2,rfl,h7,h8,h9,h10⟩:=h2;refine ⟨l2,lv2,cv2,rfl,by omega,by omega,λe=>?_,λe=>?_⟩
  ·rw[h9 (by omega),h5 (by omega)]
  ·obtain ⟨rfl,rfl⟩:=h10 (by omega);exact h6 (by omega)
 |mp j st l v=>obtain ⟨j1,st1,l1,v1,rfl,h3,h4⟩:=h1;obtain ⟨j2,st2,l2,v2,rfl,h5,h6⟩:=h2;refine ⟨j2,st2,l2,v2,rfl,by omega,λe=>?_⟩;have e1:=h4 (by omega);have e2:=h6 (by omega);rw[e2,e1]
theorem RH.ver{U:TH}{σD:Heap}(H:RH U σD){b:Nat}{blk:TB}(h:U[b]? = some blk):∀w cs,blk=.cells w cs->∀p∈cs,p.1<=w:=λw cs e p hp=>by subst e;exact (H.hg b w cs h p hp).2
theorem Ext.trans{U U1 U2:TH}{σD:Heap}(H:RH U σD)(h1:Ext U U1)(h2:Ext U1 U2):Ext U U2:=λb blk h=>by obtain ⟨blk1,h3,h4⟩:=h1 b blk h;obtain ⟨blk2,h5,h6⟩:=h2 b blk1 h3;exact ⟨blk2,h5,h4.trans h6 (H.ver h)⟩
theorem Ext.len{U U1:TH}(h:Ext U U1):U.length<=U1.length:=by
 rcases yAB U1.length U.length with hlt | hge
 ·obtain ⟨blk,h1,_⟩:=h U1.length _ (yAg hlt);rw[yAG (yAo _)] at h1;simp at h1
 ·exact hge
theorem D.low_mono{m m':Nat}(hm:m<=m'){d:D}(h:d.low m=true):d.low m'=true:=by
 have key:∀(k:Nat)(d:D),SizeOf.sizeOf d<k->d.low m=true->d.low m'=true:=by
  intro k;induction k with
  |zero=>intro d h;omega
  |succ k ih=>
   have lows:∀(ds:List D),SizeOf.sizeOf ds<k+1->D.low.lows m ds=true->D.low.lows m' ds=true:=by
    intro ds;induction ds with
    |nil=>intro _ _;rfl
    |cons x ds ih2=>intro hs h;simp only[D.low.lows,yAj,List.cons.sizeOf_spec] at h hs ⊢;exact ⟨ih x (by omega) h.1,ih2 (by omega) h.2⟩
   intro d hs h;cases d with
   |c x=>rfl
   |any=>rfl
   |ptr b o s=>simp only[D.low,yAf] at h ⊢;omega
   |sl b o l e s=>simp only[D.low,yAf] at h ⊢;omega
   |mp b=>simp only[D.low,yAf] at h ⊢;omega
   |fn f a b=>simp only[D.low,yAj,D.fn.sizeOf_spec] at h hs ⊢;exact ⟨lows a (by omega) h.1,lows b (by omega) h.2⟩
   |agg ds=>simp only[D.low,D.agg.sizeOf_spec] at h hs ⊢;exact lows ds (by omega) h
   |tup ds=>simp only[D.low,D.tup.sizeOf_spec] at h hs ⊢;exact lows ds (by omega) h
 exact key (SizeOf.sizeOf d+1) d (yCh _) h
theorem CV.low_mono{m m':Nat}(hm:m<=m'){xs:List CV}(h:xs.all (CV.low m)=true):xs.all (CV.low m')=true:=by
 rw[yAp] at h ⊢;intro x hx;have:=h x hx;cases x with
 |d x=>exact D.low_mono hm this
 |b e=>rfl
 |sl i l=>rfl
theorem fna_low{m g:Nat}{xs:List CV}(h:xs.all (CV.low m)=true):(TC.fna g xs).er.low m=true:=by
 have:D.low.lows m (xs.map CV.er)=true:=by
  induction xs with
  |nil=>rfl
  |cons x xs ih=>
   simp only[List.all_cons,yAj] at h;simp only[yAw,D.low.lows,yAj];refine ⟨?_,ih h.2⟩;cases x with
   |d x=>exact h.1
   |b e=>rfl
   |sl i l=>rfl
 simp only[TC.er,D.low,D.low.lows,this,yBO]
theorem GC.mono{U U1:TH}(h:Ext U U1){x:TC}(hx:GC U x):GC U1 x:=by
 cases x with
 |own i c v n=>
  obtain ⟨blk,h1,h2⟩:=hx;obtain ⟨blk1,h3,h4⟩:=h c blk h1;refine ⟨blk1,h3,λj l lv cv e=>?_⟩;subst e;cases blk with
  |cells w cs=>obtain ⟨w1,cs1,e,_⟩:=h4;simp at e
  |mp j st l v=>obtain ⟨j1,st1,l1,v1,e,_⟩:=h4;simp at e
  |row j0 l0 lv0 cv0=>obtain ⟨l1,lv1,cv1,e,h5,h6,h7,h8⟩:=h4;simp only[TB.row.injEq] at e;obtain ⟨rfl,hl,rfl,rfl⟩:=e;cases hl;obtain ⟨h9,h10⟩:=h2 _ _ _ _ rfl;refine ⟨by omega,λe=>?_⟩;obtain ⟨h11,h12⟩:=h10 (by omega);exact ⟨h11,by rw[h12,h7 (by omega)]⟩
 |os i c v n lo len=>
  obtain ⟨blk,h1,h2⟩:=hx;obtain ⟨blk1,h3,h4⟩:=h c blk h1;refine ⟨blk1,h3,λj l lv cv e=>?_⟩;subst e;cases blk with
  |cells w cs=>obtain ⟨w1,cs1,e,_⟩:=h4;simp at e
  |mp j st l v=>obtain ⟨j1,st1,l1,v1,e,_⟩:=h4;simp at e
  |row j0 l0 lv0 cv0=>obtain ⟨l1,lv1,cv1,e,h5,h6,h7,h8⟩:=h4;simp only[TB.row.injEq] at e;obtain ⟨rfl,hl,rfl,rfl⟩:=e;cases hl;obtain ⟨h9,h10⟩:=h2 _ _ _ _ rfl;refine ⟨by omega,λe=>?_⟩;obtain ⟨h11,h12,h13⟩:=h10 (by omega);exact ⟨h11,by rw[h12,h7 (by omega)],h13⟩
 |op i c v n k a off=>
  obtain ⟨blk,h1,h2⟩:=hx;obtain ⟨blk1,h3,h4⟩:=h c blk h1;refine ⟨blk1,h3,λj l lv cv e=>?_⟩;subst e;cases blk with
  |cells w cs=>obtain ⟨w1,cs1,e,_⟩:=h4;simp at e
  |mp j st l v=>obtain ⟨j1,st1,l1,v1,e,_⟩:=h4;simp at e
  |row j0 l0 lv0 cv0=>obtain ⟨l1,lv1,cv1,e,h5,h6,h7,h8⟩:=h4;simp only[TB.row.injEq] at e;obtain ⟨rfl,hl,rfl,rfl⟩:=e;cases hl;obtain ⟨h9,h10⟩:=h2 _ _ _ _ rfl;refine ⟨by omega,λe=>?_⟩;obtain ⟨rfl,_⟩:=h8 (by omega);exact h10 (by omega)
 |ap c off len sz k=>exact yAH hx h.len
 |d x=>exact D.low_mono h.len hx
 |fna g xs=>exact CV.low_mono h.len hx
 |_=>trivial
theorem GV.mono{U U1:TH}(h:Ext U U1){x:TV}(hx:GV U x):GV U1 x:=by
 cases x with
 |c x=>exact GC.mono h hx
 |agg xs=>exact λx hm=>GC.mono h (hx x hm)
 |tup xs=>exact λp hp x hm=>GC.mono h (hx p hp x hm)
theorem Ext.push(U:TH)(blk:TB):Ext U (U++[blk]):=λb blk' h=>⟨blk',by rw[yAr (yAb.1 h).1];exact h,BE.refl _⟩
theorem RH.push{U:TH}{σD:Heap}(H:RH U σD){blk:TB}{ob:Ob}(h:RB blk ob)(hg:∀w cs,blk=.cells w cs->∀p∈cs,GC U p.2/\p.1<=w):RH (U++[blk]) (σD++[ob]):={
 len:=by simp[H.len]
 hp:=λb blk' hb=>by
  rcases yAB b U.length with hlt | hge
  ·rw[yAr hlt] at hb;rw[yAr (by rw[H.len];exact hlt)];exact H.hp b blk' hb
  ·rw[yA0 hge] at hb;rw[yA0 (by rw[H.len];exact hge),H.len];have:b-U.length=0:=by have:=(yAb.1 hb).1;simp at this;omega
   rw[this] at hb ⊢;simp only[List.getElem?_cons_zero,yAa] at hb;subst hb;exact ⟨ob,rfl,h⟩
 hg:=λb w cs hb p hp=>by
  rcases yAB b U.length with hlt | hge
  ·rw[yAr hlt] at hb;obtain ⟨h1,h2⟩:=H.hg b w cs hb p hp;exact ⟨h1.mono (Ext.push U blk),h2⟩
  ·rw[yA0 hge] at hb;have:b-U.length=0:=by have:=(yAb.1 hb).1;simp at this;omega
   rw[this] at hb;simp only[List.getElem?_cons_zero,yAa] at hb;obtain ⟨h1,h2⟩:=hg w cs hb p hp;exact ⟨h1.mono (Ext.push U blk),h2⟩ }
theorem set_at{α:Type}{l:List α}{b b':Nat}{x y z:α}(h:l[b]? = some x)(h':(l.set b y)[b']? = some z):(b'=b/\z=y)∨(b'≠b/\l[b']? = some z):=by
 rw[yAK] at h';by_cases e:b=b'
 ·subst e;rw[if_pos rfl,if_pos (yAb.1 h).1] at h';simp only[yAa] at h';exact .inl ⟨rfl,h'.symm⟩
 ·rw[if_neg e] at h';exact .inr ⟨λe'=>e e'.symm,h'⟩
theorem zaU{α:Type}{l:List α}{b:Nat}{x y:α}(h:l[b]? = some x):(l.set b y)[b]? = some y:=by rw[yBo (yAb.1 h).1]
theorem zay{α:Type}{l:List α}{b b':Nat}{y:α}(h:b'≠b):(l.set b y)[b']? = l[b']?:=by rw[yAD (λe=>h e.symm)]
theorem Ext.set{U:TH}{b:Nat}{blk blk1:TB}(h:U[b]? = some blk)(he:BE blk blk1):Ext U (U.set b blk1):=λb' blk' h'=>by
 by_cases e:b'=b
 ·subst e;rw[h] at h';simp only[yAa] at h';subst h';exact ⟨blk1,zaU h,he⟩
 ·exact ⟨blk',by rw[zay e];exact h',BE.refl _⟩
theorem RH.set{U:TH}{σD:Heap}(H:RH U σD){b:Nat}{blk blk1:TB}{ob:Ob}(hb:U[b]? = some blk)(he:BE blk blk1)(h:RB blk1 ob)(hg:∀w cs,blk1=.cells w cs->∀p∈cs,GC U p.2/\p.1<=w):RH (U.set b blk1) (σD.set b ob):={
 len:=by simp[H.len]
 hp:=λb' blk' hb'=>by
  obtain ⟨ob0,h0,_⟩:=H.hp b blk hb;rcases set_at hb hb' with ⟨rfl,rfl⟩ | ⟨hne,h'⟩
  ·exact ⟨ob,zaU h0,h⟩
  ·rw[zay hne];exact H.hp b' blk' h'
 hg:=λb' w cs hb' p hp=>by
  rcases set_at hb hb' with ⟨rfl,e⟩ | ⟨hne,h'⟩
  ·obtain ⟨h1,h2⟩:=hg w cs e.symm p hp;exact ⟨h1.mono (Ext.set hb he),h2⟩
  ·obtain ⟨h1,h2⟩:=H.hg b' w cs h' p hp;exact ⟨h1.mono (Ext.set hb he),h2⟩ }
def RdOk(U:TH)(alD:AL)(rd:Opd->Option TV):Prop:=∀x v,rd x=some v->∃d,lx alD x=some d/\RT v d/\GV U v
def OpK(P:Program)(orc:Orc)(n:Nat)(alD:AL)(U:TH)(σD:Heap)(o:AOp)(Q:TV->TH->Bool->List Nat->Prop):Prop:=
 ∃v U1 rs wr d σD1,OpR P orc n alD σD o d σD1 wr/\RT v d/\GV U1 v/\RH U1 σD1/\Ext U U1/\(rs=false->wrOk σD σD1 wr=true)/\(totOp o=true->U1=U/\σD1=σD/\wr=[])/\Q v U1 rs wr
variable{P:Program}{orc:Orc}{n:Nat}{alD:AL}{U U1:TH}{σD σD1:Heap}{o:AOp}{Q:TV->TH->Bool->List Nat->Prop}
theorem OpK.pure{v:TV}{d:D}(h:OpR P orc n alD σD o d σD [])(hv:RT v d)(hg:GV U v)(H:RH U σD)(q:Q v U false []):OpK P orc n alD U σD o Q:=
 ⟨v,U,false,[],d,σD,h,hv,hg,H,Ext.refl U,λ_=>rfl,λ_=>⟨rfl,rfl,rfl⟩,q⟩
theorem OpK.new{v:TV}{d:D}{blk:TB}{ob:Ob}(h:OpR P orc n alD σD o d (σD++[ob]) [])(hv:RT v d)(hg:GV (U++[blk]) v)(H:RH U σD)(hb:RB blk ob)(hc:∀w cs,blk=.cells w cs->∀p∈cs,GC U p.2/\p.1<=w)
  (q:Q v (U++[blk]) false []) (ht:totOp o=false:=by rfl):OpK P orc n alD U σD o Q:=
 ⟨v,U++[blk],false,[],d,σD++[ob],h,hv,hg,H.push hb hc,Ext.push U blk,λ_=>rfl,λh=>by rw[ht] at h;simp at h,q⟩
theorem RH.cells(H:RH U σD){b w:Nat}{cs:List (Nat×TC)}(h:U[b]? = some (.cells w cs)):∃ds,σD[b]? = some (.cells ds)/\All2 RC (cs.map Prod.snd) ds/\ds.length=cs.length/\ds=cs.map λp=>p.2.er:=by obtain ⟨ob,h1,rfl⟩:=H.hp b _ h;refine ⟨_,h1,?_,by simp,rfl⟩;have:=All2.er (cs.map Prod.snd);rw[yB8] at this;exact this
theorem RH.row(H:RH U σD){b i lv cv:Nat}{l:List (TT i)}(h:U[b]? = some (.row i l lv cv)):σD[b]? = some (OB (enc i) l):=by obtain ⟨ob,h1,h2⟩:=H.hp b _ h;rw[h1];exact yCj some h2
theorem zdA{b sz:Nat}{ds:List D}(h:σD[b]? = some (.cells ds))(hs:ds.length=sz):zci σD b sz=some ds:=by simp[zci,h,hs]
theorem getT_ok{m:Option Nat}{cs:List TC}{ds:List D}{off:Nat}{v:TV}(h:getT m cs off=some v)(hc:All2 RC cs ds):∃d,zaT m ds off=some d/\RT v d:=by
 cases m with
 |none=>
  simp only[getT] at h;split at h
  ·rename_i x hx;simp only[yAa] at h;subst h;obtain ⟨d,h1,h2⟩:=hc.get _ _ hx;exact ⟨d,h1,h2⟩
  ·simp at h
 |some m=>
  simp only[getT] at h;split at h
  ·rename_i hb;simp only[yAa] at h;subst h;have hb':=yA8 hb;refine ⟨.agg ((ds.drop off).take m),?_,_,rfl,(hc.drop off).take m⟩;simp only[zaT];rw[if_pos (by rw[<-hc.len];exact hb')]
  ·simp at h
theorem getT_good{m:Option Nat}{cs:List TC}{off:Nat}{v:TV}(h:getT m cs off=some v)(hc:∀x∈cs,GC U x):GV U v:=by
 cases m with
 |none=>
  simp only[getT] at h;split at h
  ·rename_i x hx;simp only[yAa] at h;subst h;exact hc x (yAy hx)
  ·simp at h
 |some m=>
  simp only[getT] at h;split at h
  ·simp only[yAa] at h;subst h;exact λx hx=>hc x (yCc (yBg hx))
  ·simp at h
theorem expC_good(c:CC)(a:c.dn):GC U (expC c a):=by cases c <;> first | exact True.intro | rfl
theorem expT_good:∀(cs:List CC)(x:tup cs),∀y∈expT cs x,GC U y:=by
 intro cs;induction cs with
 |nil=>intro x y h;simp[expT] at h
 |cons c cs ih=>
  intro x y h;simp only[expT,yAu] at h;rcases h with rfl | h
  ·exact expC_good c x.1
  ·exact ih x.2 y h
theorem exp_good(i:Nat)(a:TT i):∀y∈exp i a,GC U y:=expT_good _ _
theorem exp_all(i:Nat)(a:TT i):All2 RC (exp i a) ((enc i a).map .c):=by rw[<-exp_er];exact All2.er _
theorem scalar_ok{x:TC}{d:D}(h:x.scalar=true)(r:RC x d):d.scalar=true/\d=x.er:=by
 rcases r with rfl | rfl
 ·simp[TC.scalar] at h
 ·refine ⟨?_,rfl⟩;cases x with
  |any=>simp[TC.scalar] at h
  |d x=>exact h
  |_=>rfl
theorem cellsT_ok{v:TV}{d:D}{xs:List TC}(h:cellsT v=some xs)(r:RT v d):d.cells? = some (xs.map TC.er)/\All2 RC xs (xs.map TC.er)/\∀x∈xs,x≠.any:=by
 refine ⟨?_,All2.er _,?_⟩
 ·cases v with
  |c x=>
   simp only[cellsT] at h;split at h
   ·rename_i hs;simp only[yAa] at h;subst h;obtain ⟨h1,rfl⟩:=scalar_ok hs r;cases hx:x.er with
    |agg cs=>rw[hx] at h1;simp[D.scalar] at h1
    |_=>rw[hx] at h1;simp[D.cells?,h1,hx]
   ·simp at h
  |agg ys=>
   simp only[cellsT] at h;split at h
   ·rename_i hs;simp only[yAa] at h;subst h;obtain ⟨ds,rfl,ha⟩:=r;rw[yAp] at hs;have hne:∀y∈ys,y≠.any:=λy hy e=>by have:=hs y hy;subst e;simp[TC.scalar] at this
    rw[ha.eq hne];simp only[D.cells?];rw[if_pos];rw[yAp];intro d hd;rw[yA4] at hd;obtain ⟨y,hy,rfl⟩:=hd;exact (scalar_ok (hs y hy) (.inr rfl)).1
   ·simp at h
  |tup ys=>simp[cellsT] at h
 ·intro x hx e;subst e;cases v with
  |c y=>
   simp only[cellsT] at h;split at h
   ·simp only[yAa] at h;subst h;simp only[yAZ] at hx;subst hx;rename_i hs;simp[TC.scalar] at hs
   ·simp at h
  |agg ys=>
   simp only[cellsT] at h;split at h
   ·rename_i hs;simp only[yAa] at h;subst h;rw[yAp] at hs;have:=hs _ hx;simp[TC.scalar] at this
   ·simp at h
  |tup ys=>simp[cellsT] at h
theorem cellsT_good{v:TV}{xs:List TC}(h:cellsT v=some xs)(g:GV U v):∀x∈xs,GC U x:=by
 cases v with
 |c x=>
  simp only[cellsT] at h;split at h
  ·simp only[yAa] at h;subst h;intro y hy;simp only[yAZ] at hy;subst hy;exact g
  ·simp at h
 |agg ys=>
  simp only[cellsT] at h;split at h
  ·simp only[yAa] at h;subst h;exact g
  ·simp at h
 |tup ys=>simp[cellsT] at h
theorem All2.put{α β:Type}{R:α->β->Prop}{cs xs:List α}{ds ys:List β}(h:All2 R cs ds)(h':All2 R xs ys)(off:Nat):All2 R (putT cs off xs) (ds.take off++ys++ds.drop (off+ys.length)):=by unfold putT;rw[h'.len];exact ((h.take off).app h').app (h.drop _)
theorem putT_mem{α:Type}{cs xs:List α}{off:Nat}{x:α}(h:x∈putT cs off xs):x∈cs∨x∈xs:=by
 unfold putT at h;simp only[yAE] at h;rcases h with (h | h) | h
 ·exact .inl (yBg h)
 ·exact .inr h
 ·exact .inl (yCc h)
theorem fillT_ok{rd:Opd->Option TV}(hr:RdOk U alD rd):∀{ps:List (Nat×Nat×Opd)}{cs cs':List TC}{ds:List D},fillT rd cs ps=some cs'->All2 RC cs ds->(∀x∈cs,GC U x)->∃ds',fillA alD ds ps=some ds'/\All2 RC cs' ds'/\∀x∈cs',GC U x:=by
 intro ps;induction ps with
 |nil=>intro cs cs' ds h hc hg;simp only[fillT,yAa] at h;subst h;exact ⟨ds,rfl,hc,hg⟩
 |cons p ps ih=>
  intro cs cs' ds h hc hg;obtain ⟨o,m,x⟩:=p;simp only[fillT] at h;split at h
  ·rename_i v hv;split at h
   ·rename_i xs hxs;split at h
    ·rename_i hb;obtain ⟨d,h1,h2,h3⟩:=hr x v hv;obtain ⟨h4,h5,h6⟩:=cellsT_ok hxs h2;simp only[yAj] at hb;have e1:=yAi hb.1;have e2:=yA8 hb.2;obtain ⟨ds',h7,h8⟩:=ih h (hc.put h5 o) λy hy=>by
      rcases putT_mem hy with hy | hy
      ·exact hg y hy
      ·exact cellsT_good hxs h3 y hy
     refine ⟨ds',?_,h8⟩;simp only[fillA,h1,Option.bind_some,h4];rw[if_neg (by rw[yAz,e1,<-hc.len];omega)];exact h7
    ·simp at h
   ·simp at h
  ·simp at h
end
end Go.Abs
end
