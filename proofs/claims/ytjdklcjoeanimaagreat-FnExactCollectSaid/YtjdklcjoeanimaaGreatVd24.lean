/-
  DERIVED. Several texts of ours in one: VtDv, VcPn, VcDel, VcPo, VcPe, VcDf, VcBy, VcBq, VtPackI.
-/
import Derived.Test.YtjdklcjoeanimaaGreatVd3
import Derived.Test.YtjdklcjoeanimaaGreatVd5
import Derived.Test.YtjdklcjoeanimaaGreatVd11
import Derived.Test.YtjdklcjoeanimaaGreatVd22
import Derived.Recover
import Derived.Lib.ConvBytes
import Derived.Lib.FrozenHead
set_option linter.unusedSimpArgs false
set_option linter.unusedVariables false
set_option maxHeartbeats 1000000
set_option maxRecDepth 10000
namespace Go.Proofs.YtjdklcjoeanimaaGreat
open Go.Vc
attribute [local irreducible] Go.Vc.WP
attribute [local go_sem] kAd kAe
attribute [local go_sem] kAf
def dvN (s:ByteArray) (a:Int):Int:=((decV s a).map (·.1)).getD 0
def dvM (s:ByteArray) (a:Int):Int:=((((decV s a).map (·.2)).getD 0:Nat):Int)
theorem kEv {s:ByteArray}{a:Int}(h:decV s a=none):dvN s a=0∧dvM s a=0∧(decV s a).isSome=false:=by unfold dvN dvM;rw[h];exact⟨rfl,rfl,rfl⟩
theorem kI9 {s:ByteArray}{a n:Int}{m:Nat}(h:decV s a=some (n,m)):dvN s a=n∧dvM s a=m∧(decV s a).isSome=true:=by unfold dvN dvM;rw[h];exact⟨rfl,rfl,rfl⟩
def kHe:Ctr:=pur (fun args=>(aS args 0,aI args 1)) (fun x=>[.v (.string x.1),.v (.int .i64 x.2)]) (fun x=>x.1.size≤4194304∧x.2≤1099511627776∧-1099511627776≤x.2)
 (fun _ x=>.tup [.v (.int .i64 (dvN x.1 x.2)),.v (.int .i64 (dvM x.1 x.2)),.v (.bool (decV x.1 x.2).isSome)]) (fun _ _=>[])
def kSgd:Ctr:=pur (fun args=>aI args 0) (fun n=>[.v (.int .i64 n)]) (fun _=>True) (fun _ n=>.v (.int .i64 (sgd n))) (fun _ _=>[])
theorem and1 {a:Int}(h0:0≤a) (h1:a≤1099511627775):kHg .i64 a 1=a%2:=by
 obtain⟨x,rfl⟩:=Int.eq_ofNat_of_zero_le h0;unfold kHg
 have ex:(BitVec.ofInt IntKind.i64.bits (x:Int)).toNat=x:=by
  show(BitVec.ofInt 64 (x:Int)).toNat=x
  rw[BitVec.toNat_ofInt];omega
 have ey:(BitVec.ofInt IntKind.i64.bits 1).toNat=2 ^ 1-1:=by decide
 rw[BitVec.toNat_and,ex,ey,Nat.and_two_pow_sub_one_eq_mod];rw[show IntKind.i64.wrap ((x%2 ^ 1:Nat):Int)=((x%2 ^ 1:Nat):Int)from IntWalk.i64_in _ ⟨by omega,by omega⟩]
 omega
theorem k3f {n:Int}(h0:0≤n) (h:n%2=1):(0-(n+1)).tdiv 2=-(n / 2)-1:=by
 rw[Int.zero_sub,Int.neg_tdiv,Int.tdiv_eq_ediv_of_nonneg (by omega)];omega
section
noncomputable def k9r:=mkX [(66,k60)] (COk.cons c58 (COk.nil _))
theorem qMx:k9r.tys=tys:=rfl
theorem qMy:k9r.C=[(66,k60)]:=rfl
attribute [local go_sem] qMx qMy k60
theorem cSgdS:Cn Tryz.prog 160 kSgd:=by
 refine Cn.pur Tryz.func160 (by kernel_rfl) rfl fun d x hx=>?_
 rename Int=>n
 refine Holds.go (c:=k9r) Tryz.func160 rfl Tryz.results160 Tryz.ntmps160 (by omega) (by simp) rfl ?_
 intro X0 w0;by_cases h:0≤n∧n≤1099511627775;rotate_left
 ·have e:sgd n=0:=by unfold sgd;rw[if_neg h]
  have e0:(decide (0≤n)&&decide (n≤1099511627775))=false:=by rw[Bool.eq_false_iff];simp;omega
  rw[e]
  (repeat' (first|apply zS|apply zB|(apply zW;simp only[go_sem,e0])|apply And.intro|intro _))
  all_goals first|omega|rfl|skip
 have e1:(decide (0≤n)&&decide (n≤1099511627775))=true:=by simp;omega
 have ha:=and1 h.1 h.2;have hd:=Int.tdiv_eq_ediv_of_nonneg (b:=2) h.1;have hm:=Int.tmod_eq_emod_of_nonneg (b:=2) h.1;have es:=kUn h.1 h.2;rw[hd,hm]at es;by_cases h1:n%2=1
 ·have hq:=k3f h.1 h1;rw[if_neg (by omega)]at es
  rw[es]
  (repeat' (first|apply zS|apply zB|(apply zW;simp only[go_sem,e1,ha,h1,hq])|apply And.intro|intro _))
  all_goals first|omega|rfl|skip
 ·rw[if_pos (by omega)]at es
  rw[es]
  (repeat' (first|apply zS|apply zB|(apply zW;simp only[go_sem,e1,ha,h1,hd])|apply And.intro|intro _))
  all_goals first|omega|rfl|skip
noncomputable def k9s:=mkX [(68,k60)] (COk.cons c60 (COk.nil _))
theorem qMz:k9s.tys=tys:=rfl
theorem qM0:k9s.C=[(68,k60)]:=rfl
attribute [local go_sem] qMz qM0 k60
theorem cSgdI:Cn Tryz.prog 186 kSgd:=by
 refine Cn.pur Tryz.func186 (by kernel_rfl) rfl fun d x hx=>?_
 rename Int=>n
 refine Holds.go (c:=k9s) Tryz.func186 rfl Tryz.results186 Tryz.ntmps186 (by omega) (by simp) rfl ?_
 intro X0 w0;by_cases h:0≤n∧n≤1099511627775;rotate_left
 ·have e:sgd n=0:=by unfold sgd;rw[if_neg h]
  have e0:(decide (0≤n)&&decide (n≤1099511627775))=false:=by rw[Bool.eq_false_iff];simp;omega
  rw[e]
  (repeat' (first|apply zS|apply zB|(apply zW;simp only[go_sem,e0])|apply And.intro|intro _))
  all_goals first|omega|rfl|skip
 have e1:(decide (0≤n)&&decide (n≤1099511627775))=true:=by simp;omega
 have hd:=Int.tdiv_eq_ediv_of_nonneg (b:=2) h.1;have hm:=Int.tmod_eq_emod_of_nonneg (b:=2) h.1;have es:=kUn h.1 h.2;rw[hd,hm]at es;by_cases h1:n%2=1
 ·have hq:=k3f h.1 h1;rw[if_neg (by omega)]at es
  rw[es]
  (repeat' (first|apply zS|apply zB|(apply zW;simp only[go_sem,e1,hm,h1,hq])|apply And.intro|intro _))
  all_goals first|omega|rfl|skip
 ·rw[if_pos (by omega)]at es
  rw[es]
  (repeat' (first|apply zS|apply zB|(apply zW;simp only[go_sem,e1,hm,h1,hd])|apply And.intro|intro _))
  all_goals first|omega|rfl|skip
end
section
noncomputable def k9t:=mkX [(159,kVar)] (COk.cons k9u (COk.nil _))
theorem qM1:k9t.tys=tys:=rfl
theorem qM2:k9t.C=[(159,kVar)]:=rfl
attribute [local go_sem] qM1 qM2 kVar
set_option maxHeartbeats 4000000 in
theorem qFb:Cn Tryz.prog 86 kHe:=by
 refine Cn.pur Tryz.func86 (by kernel_rfl) rfl fun d x hx=>?_
 obtain⟨s,p⟩:=x;obtain⟨hs,hp1,hp2⟩:=hx;simp only at hs hp1 hp2⊢;refine Holds.go (c:=k9t) Tryz.func86 rfl Tryz.results86 Tryz.ntmps86 (by omega) (by simp) rfl ?_
 intro X0 w0;by_cases hneg:p<0
 ·have e:decV s p=none:=by unfold decV;rw[if_neg (by omega)]
  obtain⟨q1,q2,q3⟩:=kEv e;rw[q1,q2,q3]
  (repeat' (first|apply zS|apply zB|((first|apply zW| refine zd 10 (h:=?_));simp only[go_sem,hneg])|apply And.intro|intro _))
  all_goals first|omega|rfl|skip
 obtain⟨a,rfl⟩:∃a:Nat,p=a:=⟨p.toNat,by omega⟩
 (repeat' (first|apply zS|apply zB|((first|apply zW| refine zd 10 (h:=?_));simp only[go_sem,hneg])|apply And.intro|intro _))
 all_goals first|omega|skip
 refine zL (fun k:Nat=>⟨[(0,.v (.string s)),(1,.v (.int .i64 a)),(7,.v (.int .i64 (kFz s a k))),(8,.v (.int .i64 k))],[]⟩) (fun k=>k≤6∧decV s a=dvGo s a k (6-k)) (fun k=>6-k) 0 ⟨by omega,by unfold decV;rw[if_pos (by omega),Int.toNat_natCast]⟩ ?_ ?_
 ·have h0:kFz s a 0=0:=rfl
  (simp only[go_sem,h0]<;>(first|(and_intros<;>rfl)|simp))
 intro k ⟨hk,hI⟩;by_cases hk6:k<6;rotate_left
 ·have hki:¬(k:Int)<6:=by omega
  rw[show 6-k=0 by omega,kY9]at hI
  obtain⟨q1,q2,q3⟩:=kEv hI;rw[q1,q2,q3]
  (repeat' (first|apply zS|apply zB|((first|apply zW| refine zd 10 (h:=?_));simp only[go_sem,hki])|apply And.intro|intro _))
  all_goals first|omega|rfl|skip
 have hki:(k:Int)<6:=by omega
 by_cases hlt:a+k<s.size;rotate_left
 ·have hli:¬(a:Int)+(k:Int)<s.size:=by omega
  rw[kNl hlt]at hI;obtain⟨q1,q2,q3⟩:=kEv hI;rw[q1,q2,q3]
  (repeat' (first|apply zS|apply zB|((first|apply zW| refine zd 10 (h:=?_));simp only[go_sem,hki,hli])|apply And.intro|intro _))
  all_goals first|omega|rfl|skip
 have hli:(a:Int)+(k:Int)<s.size:=by omega
 have ht:((a:Int)+(k:Int)).toNat=a+k:=by omega
 have hst:=@k6z s a k (by omega)
 have hbd:=kIx s a k;have hbd1:=kIx s a (k+1);have hc:(s[a+k]!).toNat<256:=UInt8.toNat_lt _;have hac:kHg .u8 (((s[a+k]!).toNat:Int)) 127=((s[a+k]!).toNat:Int)%128:=and7u (by omega) (by omega)
 have h7:7*(k:Int)=((7*k:Nat):Int):=by omega
 rw[show 6-k=(6-(k+1))+1 by omega]at hI
 by_cases hb:(s[a+k]!).toNat<128
 ·rw[kUm hlt hb]at hI;have hx1:(a:Int)+(k:Int)+1=((a+k+1:Nat):Int):=by omega
  by_cases hv:varint (kFz s a (k+1))=s.extract a (a+k+1)
  ·rw[if_pos hv]at hI;obtain⟨q1,q2,q3⟩:=kI9 hI;rw[q1,q2,q3];generalize hcc:(s[a+k]!).toNat=c at *;have hbi:(c:Int)<128:=by omega
   (repeat' (first|apply zS|apply zB|((first|apply zW| refine zd 10 (h:=?_));simp only[go_sem,hki,hli,ht,hcc,hac,h7,hst,hbi,hx1,hv])|apply And.intro|intro _))
   all_goals first|omega|rfl|skip
  ·rw[if_neg hv]at hI;obtain⟨q1,q2,q3⟩:=kEv hI;rw[q1,q2,q3];generalize hcc:(s[a+k]!).toNat=c at *;have hbi:(c:Int)<128:=by omega
   (repeat' (first|apply zS|apply zB|((first|apply zW| refine zd 10 (h:=?_));simp only[go_sem,hki,hli,ht,hcc,hac,h7,hst,hbi,hx1,hv])|apply And.intro|intro _))
   all_goals first|omega|rfl|skip
 ·rw[kRl hlt hb]at hI;generalize hcc:(s[a+k]!).toNat=c at *;have hbi:¬(c:Int)<128:=by omega
  (repeat' (first|apply zS|apply zB|((first|apply zW| refine zd 10 (h:=?_));simp only[go_sem,hki,hli,ht,hcc,hac,h7,hst,hbi])|apply And.intro|intro _))
  all_goals first|omega|rfl|exact⟨k+1,⟨by omega,hI⟩,by omega,by(first|(and_intros<;>rfl)|simp)⟩|skip
end
section
noncomputable def k9v:=mkX [(68,k60),(185,kVar)] (COk.cons c60 (COk.cons k9w (COk.nil _)))
theorem qM3:k9v.tys=tys:=rfl
theorem qM4:k9v.C=[(68,k60),(185,kVar)]:=rfl
attribute [local go_sem] qM3 qM4 k60 kVar
set_option maxHeartbeats 4000000 in
theorem qFa:Cn Tryz.prog 111 kHe:=by
 refine Cn.pur Tryz.func111 (by kernel_rfl) rfl fun d x hx=>?_
 obtain⟨s,p⟩:=x;obtain⟨hs,hp1,hp2⟩:=hx;simp only at hs hp1 hp2⊢;refine Holds.go (c:=k9v) Tryz.func111 rfl Tryz.results111 Tryz.ntmps111 (by omega) (by simp) rfl ?_
 intro X0 w0;by_cases hin:0≤p∧p≤(s.size:Int)-1;rotate_left
 ·have e:decV s p=none:=by
   unfold decV;split
   ·exact kNl (by omega)
   ·rfl
  obtain⟨q1,q2,q3⟩:=kEv e;rw[q1,q2,q3];have e0:(decide (0≤p)&&decide (p≤(s.size:Int)-1))=false:=by rw[Bool.eq_false_iff];simp;omega
  (repeat' (first|apply zS|apply zB|((first|apply zW| refine zd 10 (h:=?_));simp only[go_sem,e0])|apply And.intro|intro _))
  all_goals first|omega|rfl|skip
 have e1:(decide (0≤p)&&decide (p≤(s.size:Int)-1))=true:=by simp;omega
 obtain⟨a,rfl⟩:∃a:Nat,p=a:=⟨p.toNat,by omega⟩
 (repeat' (first|apply zS|apply zB|((first|apply zW| refine zd 10 (h:=?_));simp only[go_sem,e1])|apply And.intro|intro _))
 all_goals first|omega|skip
 refine zL (fun k:Nat=>⟨[(0,.v (.string s)),(1,.v (.int .i64 a)),(7,.v (.int .i64 (kFz s a k))),(8,.v (.int .i64 k))],[]⟩) (fun k=>k≤6∧decV s a=dvGo s a k (6-k)) (fun k=>6-k) 0 ⟨by omega,by unfold decV;rw[if_pos (by omega),Int.toNat_natCast]⟩ ?_ ?_
 ·have h0:kFz s a 0=0:=rfl
  (simp only[go_sem,h0]<;>(first|(and_intros<;>rfl)|simp))
 intro k ⟨hk,hI⟩;by_cases hk6:k<6;rotate_left
 ·have hki:¬(k:Int)<6:=by omega
  rw[show 6-k=0 by omega,kY9]at hI
  obtain⟨q1,q2,q3⟩:=kEv hI;rw[q1,q2,q3]
  (repeat' (first|apply zS|apply zB|((first|apply zW| refine zd 10 (h:=?_));simp only[go_sem,hki])|apply And.intro|intro _))
  all_goals first|omega|rfl|skip
 have hki:(k:Int)<6:=by omega
 by_cases hlt:a+k<s.size;rotate_left
 ·have hli:¬(a:Int)+(k:Int)<s.size:=by omega
  rw[kNl hlt]at hI;obtain⟨q1,q2,q3⟩:=kEv hI;rw[q1,q2,q3]
  (repeat' (first|apply zS|apply zB|((first|apply zW| refine zd 10 (h:=?_));simp only[go_sem,hki,hli])|apply And.intro|intro _))
  all_goals first|omega|rfl|skip
 have hli:(a:Int)+(k:Int)<s.size:=by omega
 have ht:((a:Int)+(k:Int)).toNat=a+k:=by omega
 have hst:=@k6z s a k (by omega)
 have hbd:=kIx s a k;have hbd1:=kIx s a (k+1);have hc:(s[a+k]!).toNat<256:=UInt8.toNat_lt _;have hac:kHg .i64 (((s[a+k]!).toNat:Int)) 127=((s[a+k]!).toNat:Int)%128:=and7 (by omega) (by omega)
 have h7:7*(k:Int)=((7*k:Nat):Int):=by omega
 rw[show 6-k=(6-(k+1))+1 by omega]at hI
 by_cases hb:(s[a+k]!).toNat<128
 ·rw[kUm hlt hb]at hI;have hx1:(a:Int)+(k:Int)+1=((a+k+1:Nat):Int):=by omega
  by_cases hv:varint (kFz s a (k+1))=s.extract a (a+k+1)
  ·rw[if_pos hv]at hI;obtain⟨q1,q2,q3⟩:=kI9 hI;rw[q1,q2,q3];generalize hcc:(s[a+k]!).toNat=c at *;have hbi:¬(c:Int)>127:=by omega
   (repeat' (first|apply zS|apply zB|((first|apply zW| refine zd 10 (h:=?_));simp only[go_sem,hki,hli,ht,hcc,hac,h7,hst,hbi,hx1,hv])|apply And.intro|intro _))
   all_goals first|omega|rfl|skip
  ·rw[if_neg hv]at hI;obtain⟨q1,q2,q3⟩:=kEv hI;rw[q1,q2,q3];generalize hcc:(s[a+k]!).toNat=c at *;have hbi:¬(c:Int)>127:=by omega
   (repeat' (first|apply zS|apply zB|((first|apply zW| refine zd 10 (h:=?_));simp only[go_sem,hki,hli,ht,hcc,hac,h7,hst,hbi,hx1,hv])|apply And.intro|intro _))
   all_goals first|omega|rfl|skip
 ·rw[kRl hlt hb]at hI;generalize hcc:(s[a+k]!).toNat=c at *;have hbi:(c:Int)>127:=by omega
  (repeat' (first|apply zS|apply zB|((first|apply zW| refine zd 10 (h:=?_));simp only[go_sem,hki,hli,ht,hcc,hac,h7,hst,hbi])|apply And.intro|intro _))
  all_goals first|omega|rfl|exact⟨k+1,⟨by omega,hI⟩,by omega,by(first|(and_intros<;>rfl)|simp)⟩|skip
end
end Go.Proofs.YtjdklcjoeanimaaGreat

namespace Go.Vc
def chainOf (x:Value):List PanicEntry:=[{ v:=x,recovered:=false }]
def EX:Option Value→Ending→Value→Prop
 |none,e,v=>e=.returned v
 |some x,e,_=>e=.panicked (chainOf x)
structure Ctx where
 ctr:Ctr
 pan:List SV→List (Nat×Ob)→Option Value
structure POk (P:Program) (C2:List (FuncId×Ctx)):Prop where
 call:∀f c,lk f C2=some c→kJ9 P f
 holds:∀f c,lk f C2=some c→∀d args obs,(c.ctr.wri d args obs).1→kU8 (EX (c.pan args obs)) P f args obs (c.ctr.wri d args obs).2.1 (c.ctr.wri d args obs).2.2.1 (c.ctr.wri d args obs).2.2.2
section
variable {P:Program}{tys:List (Nat×TyD)}{N:Nat}{X0:Nat→Prop}{M:Nat→BV→Prop}{w0:World}{st:St}{β:Nat→BV}{a:Act}{w:World}
end
end Go.Vc

namespace Go.Vc
section
variable {P:Program}{tys:List (Nat×TyD)}{C:List (FuncId×Ctr)}{N:Nat}{X0:Nat→Prop}{M:Nat→BV→Prop}{w0:World}{st:St}{β:Nat→BV}{a:Act}{w:World}
theorem kM8 (hA:Ap P X0 M w0) (hty:∀T d,lk T tys=some d→TyOk P T d) (hC:COk P C) {ops:Array Oper}{l2:List Oper}{K:St→Prop}{Q:Exit→Act→World→Prop}(hQ:∀a w,Ok N X0 M w0 K a w→wpList P ops Q l2 a w) :
  ∀(l:List Oper) {st:St}{β:Nat→BV}{a:Act}{w:World},Sim N X0 M w0 st β a w→St.runR tys C N ops l st K→wpList P ops Q (l++l2) a w
 | [],st,β,a,w,h,hw=>hQ a w ⟨st,β,hw,h⟩
 |o::l,st,β,a,w,h,hw=>by
  have h1:=kF4 (Q:=Q) hA hty hC h hw;show wpList P ops Q (o::(l++l2)) a w
  unfold wpList;split
  ·rename_i hwt;rw[if_pos hwt]at h1;exact .inl (Oper.wp_mono (fun a' w' ⟨st',β',h2,h3⟩=>kM8 hA hty hC hQ l h3 h2) h1)
  ·rename_i hwt;rw[if_neg hwt]at h1;obtain⟨st',β',h2,h3⟩:=h1;exact kM8 hA hty hC hQ l h3 h2
end
section
variable {c:Cx}{N:Nat}{X0:Nat→Prop}{M:Nat→BV→Prop}{w0:World}{st:St}{K:Exit→St→Prop}
end
end Go.Vc

namespace Go.Vc
section
variable {c:Cx}{N:Nat}{X0:Nat→Prop}{M:Nat→BV→Prop}{w0:World}{st:St}{K:Exit→St→Prop}
structure Cy (P:Program) (f:FuncId) (c:Ctx):Prop where
 call:kJ9 P f
 holds:∀d args obs,(c.ctr.wri d args obs).1→kU8 (EX (c.pan args obs)) P f args obs (c.ctr.wri d args obs).2.1 (c.ctr.wri d args obs).2.2.1 (c.ctr.wri d args obs).2.2.2
theorem POk.nil (P:Program):POk P []:=⟨fun f c h=>(by cases h),fun f c h=>(by cases h)⟩
theorem POk.cons {P:Program}{f:FuncId}{ctr:Ctx}{C:List (FuncId×Ctx)}(h:Cy P f ctr) (hC:POk P C):POk P ((f,ctr)::C) where
 call:=fun g c hg=>by
  simp only[lk]at hg;by_cases he:g=f
  ·subst he;exact h.call
  ·rw[if_neg he]at hg;exact hC.call g c hg
 holds:=fun g c hg=>by
  simp only[lk]at hg;by_cases he:g=f
  ·subst he;rw[if_pos rfl]at hg;cases hg;exact h.holds
  ·rw[if_neg he]at hg;exact hC.holds g c hg
def retY (tys:List (Nat×TyD)) (rs:List ResultVar) (pn:Option Value) (res:SV) (obs:List (Nat×Ob)):Exit→St→Prop :=
 match pn with
 |none=>fun
  | .normal,st=>outK tys rs res [] st∧∀p∈obs,lk p.1 st.hp=some p.2
  | .ret,st=>outK tys rs res [] st∧∀p∈obs,lk p.1 st.hp=some p.2
  | _,_=>False
 |some x=>fun
  | .panic ch,st=>ch=chainOf x∧∀p∈obs,lk p.1 st.hp=some p.2
  | _,_=>False
theorem HoldsY.go {f:FuncId}{fn:Func}{code:Code}(hf:c.P.funcs[f]? = some fn) (hb:fn.body=some code) {rs:List ResultVar}(hrs:fn.results=rs.toArray) (hn:fn.ntmps=N) (hfew:N≤900000) {args:List SV}(ha:args.length≤N)
  {obs:List (Nat×Ob)}{pn:Option Value}{res:SV}{robs kept:List (Nat×Ob)}(hres:res.kAv=[]) (hpn:pn.isSome=true→res=.junk)
  (h:∀(X0:Nat→Prop) (M:Nat→BV→Prop) (w0:World),WP c N X0 M w0 code ⟨kC0 0 args,obs⟩ (retY c.tys rs pn res (robs++kept))):kU8 (EX pn) c.P f args obs res robs kept:=by
  intro w X β vs hG hβ hX hl hargs hobs kSc;refine calls_of_wp hf hb ?_
  let M:Nat→BV→Prop:=fun id v=>(∃ob,lk id obs=some ob)∧v=β id
  have hMB:∀b,MB M b↔∃id ob,lk id obs=some ob∧(β id).ft b:=fun b=>by
   constructor
   ·rintro⟨id,v,⟨⟨ob,h1⟩,rfl⟩,h3⟩;exact⟨id,ob,h1,h3⟩
   ·rintro⟨id,ob,h1,h3⟩;exact⟨id,β id,⟨⟨ob,h1⟩,rfl⟩,h3⟩
  have hA:Ap c.P X M w:=⟨fun b hb=>⟨hX b hb,fun hm=>by
   obtain⟨id,ob,h1,h2⟩:=(hMB b).1 hm;exact(kSc id ob b h1 h2).1 hb⟩,hG,fun b hm=>by
   obtain⟨id,ob,h1,h2⟩:=(hMB b).1 hm;exact(kSc id ob b h1 h2).2⟩
  have hsim:Sim N X M w ⟨kC0 0 args,obs⟩ β { tmps:=vs.toArray++Array.replicate (fn.ntmps-vs.toArray.size) undef,defers:=[] } w:={
   size:=by simp[hn];omega
   defers:=.nil fun v h=>by rw[h.2];exact hβ 0
   beta:=hβ
   slots:=fun t x hx=>by
    obtain⟨_,h1⟩:=kO0 args 0 t x hx;simp only[Nat.sub_zero]at h1;have ht:t<vs.length:=by rw[hl];exact(List.getElem?_eq_some_iff.1 h1).1
    have hv:vs[t]? = some (vs[t]'ht):=List.getElem?_eq_getElem ht
    have:(vs.toArray++Array.replicate (fn.ntmps-vs.toArray.size) undef).getD t undef=vs[t]'ht:=by
     rw[Array.getD_eq_getD_getElem?,Array.getElem?_append_left (by simpa using ht)]
     simp[ht]
    rw[this];exact hargs t x _ h1 hv
   objs:=hobs.1
   inj:=hobs.2
   x0:=hX
   mine:=fun id ob b hi hb=>.inl ((hMB b).2 ⟨id,ob,hi,hb⟩)
   pin:=fun id v hm _=>congrArg BV.val hm.2.symm
   few:=hfew
   os:=rfl
   tape:=rfl
   output:=rfl
   grew:=Nat.le_refl _
   kept:=fun _ _ _=>rfl }
  refine Code.wp_mono (fun e a w' hq=>?_) (h X M w hA _ _ _ hsim)
  obtain⟨st',β',ho,hs⟩:=hq
  have fin:∀{en:Ending}{v:Value},EX pn en v→(∀p∈robs++kept,lk p.1 st'.hp=some p.2)→R w' (XX X β' st'.hp) β' res v→∃v' β'',EX pn en v'∧w'.os=w.os∧w'.tape=w.tape∧w'.output=w.output∧w.heap.size≤w'.heap.size ∧
   (∀b,b<w.heap.size→(¬∃id ob,lk id obs=some ob∧(β id).ft b)→w'.heap[b]? = w.heap[b]?)∧(∀i,(β'' i).val.oneCell'=true)∧(∀i ob,1000000≤i→lk i obs=some ob→(β'' i).val=(β i).val) ∧
   R w' (XX X β'' (robs++kept)) β'' res v'∧Obs w' X β'' (robs++kept) ∧
   ∀id ob b,lk id (robs++kept)=some ob→(β'' id).ft b→w.heap.size≤b∨∃k o,lk k obs=some o∧(β k).ft b:=fun{en v} hE hk hR=>by
   have hkl:∀{id ob},lk id (robs++kept)=some ob→lk id st'.hp=some ob:=fun{id ob} hi=>hk (id,ob) (kA5 hi)
   have hXs:∀b,XX X β' (robs++kept) b→XX X β' st'.hp b:=fun b hb=>by
    rcases hb with hb|⟨id,ob,hi,hb⟩
    ·exact .inl hb
    ·exact .inr ⟨id,ob,hkl hi,hb⟩
   have hS:Same (XX X β' st'.hp) w' w':=⟨Nat.le_refl _,fun _ _ _=>rfl⟩
   refine⟨v,β',hE,hs.os,hs.tape,hs.output,hs.grew,fun b hb hn=>hs.kept b hb (fun hm=>hn ((hMB b).1 hm)),hs.beta,fun i ob h1 hi=>hs.pin i (β i) ⟨⟨ob,hi⟩,rfl⟩ h1,hR.mono hS fun b _ hb=>hXs b hb,⟨fun id ob hi=>?_,fun i j oi oj b hi hj hbi hbj=>?_⟩,fun id ob b hi hb=>?_⟩
   ·exact(hs.objs id ob (hkl hi)).mono hS (fun b _ hb=>hXs b hb) (fun _ _=>rfl)
   ·exact hs.inj i j oi oj b (hkl hi) (hkl hj) hbi hbj
   ·exact(hs.mine id ob b (hkl hi) hb).symm.imp _root_.id fun hm=>(hMB b).1 hm
  cases pn with
  |none =>
   have ret:outK c.tys rs res [] st'∧(∀p∈robs++kept,lk p.1 st'.hp=some p.2)→a.defers=[]∧∃v,(Go.results fn a.tmps).run c.P w'=.ok v w'∧_:=fun⟨h1,h2⟩=>by
    obtain⟨v,β2,hr,hR,_⟩:=kXe (c:=c) hs (by rw[hrs]) h1
    exact⟨hs.defers.2 (fun v h=>by rw[h.2];exact hβ 0),v,hr,fin (en:=.returned v) rfl h2 (hR.beta h1.2.1 fun id hid=>by rw[hres]at hid;cases hid)⟩
   cases e with
   |normal=>exact ret ho
   |ret=>exact ret ho
   | _=>exact ho.elim
  |some x =>
   cases e with
   |panic ch =>
    obtain⟨rfl,hk⟩:=ho;obtain rfl:=hpn rfl
    exact⟨hs.defers.2 (fun v h=>by rw[h.2];exact hβ 0),fin (en:=.panicked (chainOf x)) (v:=undef) rfl hk (.junk _)⟩
   | _=>exact ho.elim
end
end Go.Vc

namespace Go.Vc
variable {c:Cx}{N:Nat}{X0:Nat→Prop}{M:Nat→BV→Prop}{w0:World}{st:St}{K:Exit→St→Prop}
end Go.Vc

namespace Go.Vc
section
variable {N:Nat}{X0:Nat→Prop}{M:Nat→BV→Prop}{w0:World}{st:St}{β:Nat→BV}{a:Act}{w:World}
end
abbrev NoM:Nat→BV→Prop:=fun _ _=>False
def WQ (c:Cx) (N:Nat) (X0:Nat→Prop) (M:Nat→BV→Prop) (w0:World) (code:Code) (st:St) (Q:Exit→Act→World→Prop):Prop :=
 Ap c.P X0 M w0→∀β a w,Sim N X0 M w0 st β a w→code.wp c.P Q a w
def normK (K:St→Prop):Exit→St→Prop
 | .normal,st=>K st
 | _,_=>False
section
variable {c:Cx}{N:Nat}{X0:Nat→Prop}{M:Nat→BV→Prop}{w0:World}{st:St}
theorem WQ.seq {x y:Code}{Q:Exit→Act→World→Prop}(h:WP c N X0 M w0 x st (normK fun st'=>WQ c N X0 M w0 y st' Q)):WQ c N X0 M w0 (.seq x y) st Q:=fun hA β a w hs =>
 wp_seq (Code.wp_mono (fun e a w hq=>by
  obtain⟨st',β',h1,h2⟩:=hq
  cases e with
  |normal=>exact h1 hA β' a w h2
  | _=>exact h1.elim) (h hA β a w hs))
end
end Go.Vc

namespace Go.Vc
open Go.RowKit
theorem k5n (s:ByteArray):strOf ((Lib.strCells s).map fun v=>[SV.v v])=s:=by
 unfold strOf Lib.strCells;rw[List.map_map,List.map_map]
 have:((byteOf∘fun v=>[SV.v v])∘fun b:UInt8=>Value.int .u8 b.toNat)=id:=by
  funext b;simp[byteOf]
 rw[this,List.map_id]
theorem kQu (s t:ByteArray):Lib.strCells (s++t)=Lib.strCells s++Lib.strCells t:=by
 unfold Lib.strCells;rw[←List.map_append];congr 1
section
variable {N:Nat}{X1 X2 Xo:Nat→Prop}{wo w1 w w2:World}{st:St}{β:Nat→BV}{a:Act}
theorem Sim.k0s (h:Sim N X1 NoM w1 st β a w) (hp:st.hp=[]) (hsz:w.heap.size≤w2.heap.size) (hb:∀b,b<w.heap.size→¬X1 b→w2.heap[b]? = w.heap[b]?) (hX:∀b,b<w.heap.size→X2 b→X1 b) (hX2:∀b,X2 b→b<w2.heap.size):Sim N X2 NoM w2 st β a w2:=by
 have hnil:∀{X:Nat→Prop}{b:Nat},XX X β st.hp b→X b:=fun{X b} hx=>by
  rcases hx with h|⟨id,ob,hi,_⟩
  ·exact h
  ·rw[hp]at hi;cases hi
 exact{
  size:=h.size
  defers:=h.defers
  beta:=h.beta
  slots:=fun t x hx=>(h.slots t x hx).mono ⟨hsz,fun b hlt hn=>hb b hlt fun hx=>hn (.inl hx)⟩ (fun b hlt hx=>.inl (hX b hlt (hnil hx)))
  objs:=fun id ob hi=>by rw[hp]at hi;cases hi
  inj:=fun i j oi oj b hi=>by rw[hp]at hi;cases hi
  x0:=hX2
  mine:=fun id ob b hi=>by rw[hp]at hi;cases hi
  pin:=fun id v hm=>hm.elim
  few:=h.few
  os:=rfl
  tape:=rfl
  output:=rfl
  grew:=Nat.le_refl _
  kept:=fun _ _ _=>rfl }
theorem noMB {b:Nat}:¬MB NoM b:=fun⟨_,_,h,_⟩=>h.elim
theorem Sim.home (h:Sim N X1 NoM w1 st β a w) (hp:st.hp=[]) (hXo:∀b,Xo b→X1 b) (hB:Below wo.heap.size wo w1):Sim N Xo NoM wo st β a w:=by
 have hnil:∀{X:Nat→Prop}{b:Nat},XX X β st.hp b→X b:=fun{X b} hx=>by
  rcases hx with h|⟨id,ob,hi,_⟩
  ·exact h
  ·rw[hp]at hi;cases hi
 exact{
  size:=h.size
  defers:=h.defers
  beta:=h.beta
  slots:=fun t x hx=>(h.slots t x hx).mono ⟨Nat.le_refl _,fun _ _ _=>rfl⟩ (fun b hlt hx=>.inl (hXo b (hnil hx)))
  objs:=fun id ob hi=>by rw[hp]at hi;cases hi
  inj:=fun i j oi oj b hi=>by rw[hp]at hi;cases hi
  x0:=fun b hb=>h.x0 b (hXo b hb)
  mine:=fun id ob b hi=>by rw[hp]at hi;cases hi
  pin:=fun id v hm=>hm.elim
  few:=h.few
  os:=h.os.trans hB.os
  tape:=h.tape.trans hB.tape
  output:=h.output.trans hB.output
  grew:=Nat.le_trans hB.size h.grew
  kept:=fun b hb hn=>(h.kept b (Nat.lt_of_lt_of_le hb hB.size) noMB).trans (hB.block b hb) }
def RowB (w:World) (e:Nat) (v:Value) (g:Nat) (s:ByteArray):Prop:=∃cap cur fz,v=.slice (some ⟨g,0,none⟩) s.size cap∧w.heap[g]? = some (.cells cur e fz)∧(∀o,o<cur.size→¬(fz.1≤o∧o<fz.2))∧s.size≤cap∧cap≤maxLen∧cur.size=cap∧cur.toList.take s.size=Lib.strCells s
structure SimB (N e:Nat) (Xo:Nat→Prop) (wo:World) (t:Nat) (st:St) (s:ByteArray) (a:Act) (w:World):Prop where
 ex:∃X1 w1 β g v,Sim N X1 NoM w1 st β a w∧(∀b,Xo b→X1 b)∧X1 g∧wo.heap.size≤g∧g<w1.heap.size∧Below wo.heap.size wo w1∧(∀b,X1 b→b<w1.heap.size)∧lk t st.fr=some (.v v)∧RowB w e v g s
 hp:st.hp=[]
variable {P:Program}{e t:Nat}{s:ByteArray}
theorem Ap.of (hG:Grd P wo) (hB:Below wo.heap.size wo w1) (hX:∀b,X1 b→b<w1.heap.size):Ap P X1 NoM w1 :=
 ⟨fun b hb=>⟨hX b hb,noMB⟩,hG.keep hB.size fun b _ hlt=>hB.block b hlt,fun b hb=>absurd hb noMB⟩
theorem SimB.frame {c:Cx}(hG:Grd c.P wo) (hs:SimB N e Xo wo t st s a w) {code:Code}{K:Exit→St→Prop}(h:∀X0 w0,WP c N X0 NoM w0 code st (fun x st'=>(st'.hp=[]∧lk t st'.fr=lk t st.fr)∧K x st')) :
  code.wp c.P (fun x a' w'=>∃st',K x st'∧SimB N e Xo wo t st' s a' w') a w:=by
 obtain⟨⟨X1,w1,β,g,v,h1,h2,h3,h4,h5,h6,h7,h8,h9⟩,hp⟩:=hs;refine Code.wp_mono (fun x a' w' hq=>?_) (h X1 w1 (Ap.of hG h6 h7) β a w h1)
 obtain⟨st',β',⟨⟨k1,k2⟩,k3⟩,hs'⟩:=hq;refine⟨st',k3,⟨X1,w1,β',g,v,hs',h2,h3,h4,h5,h6,h7,k2.trans h8,?_⟩,k1⟩;obtain⟨cap,cur,fz,r1,r2,r3⟩:=h9;exact⟨cap,cur,fz,r1,by rw[hs'.kept g h5 noMB,←h1.kept g h5 noMB];exact r2,r3⟩
theorem SimB.ops {c:Cx}(hG:Grd c.P wo) (hs:SimB N e Xo wo t st s a w) {ops:Array Oper}{l l2:List Oper}{K:St→Prop}{Q:Exit→Act→World→Prop}(h:St.runR c.tys c.C N ops l st fun st'=>(st'.hp=[]∧lk t st'.fr=lk t st.fr)∧K st')
  (hQ:∀st' a' w',K st'→SimB N e Xo wo t st' s a' w'→wpList c.P ops Q l2 a' w'):wpList c.P ops Q (l++l2) a w:=by
 obtain⟨⟨X1,w1,β,g,v,h1,h2,h3,h4,h5,h6,h7,h8,h9⟩,hp⟩:=hs;refine kM8 (Ap.of hG h6 h7) c.hty c.hC (fun a' w' hq=>?_) l h1 h
 obtain⟨st',β',⟨⟨k1,k2⟩,k3⟩,hs'⟩:=hq;refine hQ st' a' w' k3 ⟨⟨X1,w1,β',g,v,hs',h2,h3,h4,h5,h6,h7,k2.trans h8,?_⟩,k1⟩;obtain⟨cap,cur,fz,r1,r2,r3⟩:=h9;exact⟨cap,cur,fz,r1,by rw[hs'.kept g h5 noMB,←h1.kept g h5 noMB];exact r2,r3⟩
theorem SimB.slot (hs:SimB N e Xo wo t st s a w) {d:Nat}(hd:lk d st.fr=lk t st.fr):SimB N e Xo wo d st s a w:=by
 obtain⟨⟨X1,w1,β,g,v,h1,h2,h3,h4,h5,h6,h7,h8,h9⟩,hp⟩:=hs;exact⟨⟨X1,w1,β,g,v,h1,h2,h3,h4,h5,h6,h7,hd.trans h8,h9⟩,hp⟩
theorem bytesWorld_below (w:World) (e:Nat) (s:ByteArray):Below w.heap.size w (Lib.bytesWorld w e s) where
 os:=by simp[Lib.bytesWorld,World.freeze,World.alloc,World.drew,-World.alloc_eq,-World.drew_eq]
 tape:=by simp[Lib.bytesWorld,World.freeze,World.alloc,World.drew,-World.alloc_eq,-World.drew_eq]
 output:=by simp[Lib.bytesWorld,World.freeze,World.alloc,World.drew,-World.alloc_eq,-World.drew_eq]
 size:=by rw[Lib.bytesWorld_size];omega
 block:=fun k hk=>Lib.bytesWorld_at_old w e s k hk
theorem Below.mono {B B':Nat}{w w':World}(h:Below B w w') (hb:B'≤B):Below B' w w':=⟨h.os,h.tape,h.output,h.size,fun k hk=>h.block k (by omega)⟩
theorem qDi (hs:Sim N Xo NoM wo st β a w) (hp:st.hp=[]) {ops:Array Oper}{rest:List Oper}{o:Oper}{Q:Exit→Act→World→Prop}{src dst d:Nat}{x:Operand}(hg:o.guard=none) (hd:o.dst=some d) (hdN:d<N) (ho:o.op=.convert src dst x) {u:TypeDesc}
  (h1:P.underlying src=some u) (h2:P.underlying dst=some (.slice e)) (h3:P.underlying e=some (.int .u8)) (hx:st.ev x=.v (.string s)) (hm:s.size≤maxLen)
  (hK:∀v a' w',SimB N e Xo wo d (st.put (some d) (.v v)) s a' w'→wpList P ops Q rest a' w'):wpList P ops Q (o::rest) a w:=by
 refine wpList_plain hg fun K hKK=>?_
 have e1:a.eval x=.string s:=(hx▸St.kC6 hs x:R w _ β (.v (.string s)) (a.eval x)).kAm;have hr:=Lib.run_convert_string_bytes (P:=P) w src dst e s h1 h2 h3;unfold Oper.wp
 have e2:(execOp a.eval o).run P w=.ok (.value (.slice (some ⟨w.heap.size,0,none⟩) s.size (grownCap w s.size 0 e))) (Lib.bytesWorld w e s):=by
  simp only[execOp,ho,e1,Sem.run_bind,hr,Result.andThen_ok,Sem.run_pure]
 rw[e2,Oper.upon_value,hd];refine hKK _ _ (hK (.slice (some ⟨w.heap.size,0,none⟩) s.size (grownCap w s.size 0 e)) _ _ ?_);have hbel:=bytesWorld_below w e s;have hge:=grownCap_ge w s.size 0 e;have hxo:∀b,Xo b→b<w.heap.size:=hs.x0
 have hs2:Sim N (fun b=>Xo b∨b=w.heap.size) NoM (Lib.bytesWorld w e s) st β a (Lib.bytesWorld w e s):=hs.k0s hp hbel.size (fun b hb _=>hbel.block b hb) (fun b hb hx=>hx.resolve_right (by omega)) (fun b hx=>by
  rw[Lib.bytesWorld_size];rcases hx with hx|hx
  ·have:=hxo b hx;omega
  ·omega)
 have hsz:(Lib.bytesCells w e s).size=grownCap w s.size 0 e:=by
  unfold Lib.bytesCells;simp only[Array.size_append,Array.size_map,Array.size_replicate];have:s.data.size=s.size:=rfl;omega
 refine⟨⟨_,_,β,w.heap.size,.slice (some ⟨w.heap.size,0,none⟩) s.size (grownCap w s.size 0 e),hs2.put hdN (.p (.v _)),fun b hb=>.inl hb,.inr rfl,hs.grew,by rw[Lib.bytesWorld_size];omega,?_,hs2.x0,kIf _ _ _,?_⟩,by rw[kU2];exact hp⟩
 ·exact Below.trans ⟨hs.os,hs.tape,hs.output,hs.grew,fun k hk=>hs.kept k hk noMB⟩ (Below.mono hbel hs.grew)
 ·refine⟨_,_,_,rfl,Lib.bytesWorld_at_new w e s,fun o ho h=>?_,hge,grownCap_le_maxLen w s.size 0 e hm,hsz,?_⟩
  ·have:=h.1;simp only at this;omega
  ·unfold Lib.bytesCells Lib.strCells;have hl:(s.data.map fun b=>Value.int .u8 b.toNat).toList.length=s.size:=by rw[Array.length_toList,Array.size_map];rfl
   rw[Array.toList_append,List.take_append_of_le_length (by omega),List.take_of_length_le (by omega),Array.toList_map]
theorem kMb (P:Program) (g o:Nat) (t:TypeId) (fz:Nat×Nat):∀(vs:List Value) (i:Nat) (cur:Array Value) (w:World),w.heap[g]? = some (.cells cur t fz)→(∀o,o<cur.size→¬(fz.1≤o∧o<fz.2))→o+i+vs.length≤cur.size→(∀v∈vs,v.oneCell'=true) →
  (storeCells ⟨g,o,none⟩ vs i).run P w=.ok () (w.setRow g (cur.toList.take (o+i)++vs++cur.toList.drop (o+i+vs.length)).toArray)
 | [],i,cur,w,hg,_,_,_=>by
  simp only[storeCells,List.append_nil,List.length_nil,Nat.add_zero,List.take_append_drop,Array.toArray_toList];rw[setRow_self w g cur t fz hg]
  rfl
 |v::rest,i,cur,w,hg,hfz,hl,h1=>by
  have hi:o+i<cur.size:=by simp at hl;omega
  have hadd:(⟨g,o,none⟩:Addr).add i=⟨g,o+i,none⟩:=by unfold Addr.add;split<;>simp_all
  have hcell:w.cell? ⟨g,o+i,none⟩=some cur[o+i]:=by simp[World.cell?,hg,hi]
  have hfro:w.frozen? ⟨g,o+i,none⟩=false:=by
   have hn:=hfz (o+i) hi;obtain⟨lo,hi'⟩:=fz;simp only[World.frozen?,hg,Bool.and_eq_false_iff,decide_eq_false_iff_not];simp only at hn;omega
  have hst:(store ((⟨g,o,none⟩:Addr).add i) v).run P w=.ok () (w.setRow g (cur.setIfInBounds (o+i) v)):=by
   rw[hadd,run_store P w _ v _ (h1 v (by simp)),hcell]
   simp[hfro,setCell_eq_setRow w g (o+i) cur t fz v hg]
  have ih:=kMb P g o t fz rest (i+1) (cur.setIfInBounds (o+i) v) (w.setRow g (cur.setIfInBounds (o+i) v)) (setRow_heap w g cur _ t _ hg) (by simpa using hfz) (by simp at hl⊢;omega) (fun x hx=>h1 x (by simp[hx]))
  simp only[storeCells,Sem.run_bind,hst,Result.andThen_ok,ih,setRow_setRow];congr 3;have e:=list_seg_step cur.toList (o+i) v rest (by simp at hl⊢;omega)
  simpa[Array.toList_setIfInBounds,Nat.add_assoc]using e
theorem kTh (w:World) (t u ty e:TypeId) (i:TypeInfo) (ht:P.underlying t=some (.slice e)) (hu:P.underlying u=some .string) (hi:P.info? e=some i) (hs1:i.size=1)
  (g sLen sCap:Nat) (cur:Array Value) (fz:Nat×Nat) (hg:w.heap[g]? = some (.cells cur e fz)) (hfz:∀o,o<cur.size→¬(fz.1≤o∧o<fz.2)) (s:ByteArray)
  (hroom:sLen+s.size≤sCap) (hfit:sLen+s.size≤cur.size) :
  (Builtin.append_ #[t,u] ty #[.slice (some ⟨g,0,none⟩) sLen sCap,.string s]).run P w =
   .ok (.slice (some ⟨g,0,none⟩) (sLen+s.size) sCap) (w.setRow g (cur.toList.take sLen++Lib.strCells s++cur.toList.drop (sLen+s.size)).toArray):=by
 have hf:=Lib.run_firstCells_string (P:=P) w 1 s;have hst:=kMb P g sLen e fz (Lib.strCells s) 0 cur w hg hfz (by simpa[Lib.strCells_length]using hfit) (Lib.strCells_oneCell s)
 simp only[Nat.add_zero,Lib.strCells_length]at hst;simp[Builtin.append_,run_underlying ht,run_underlying hu,sizeOf,typeInfo,hi,hs1,Builtin.lenOf,hroom,hf,Addr.add_lit,hst]
theorem qGx (hs:SimB N e Xo wo t st s a w) {ops:Array Oper}{rest:List Oper}{o:Oper}{Q:Exit→Act→World→Prop}{T U d:Nat}{x y:Operand}{s2:ByteArray}{i:TypeInfo}(hg:o.guard=none) (hd:o.dst=some d) (hdN:d<N) (ho:o.op=.call { callee:=.builtin .append,args:=#[x,y],argTypes:=#[T,U] })
  (ht:P.underlying T=some (.slice e)) (hu:P.underlying U=some .string) (hi:P.info? e=some i) (hz:i.zero=some (.int .u8 0)) (hsize:i.size=1) (hby:i.bytes=1)
  (hx:∀v,lk t st.fr=some (.v v)→st.ev x=.v v) (hy:st.ev y=.v (.string s2)) (hm:s.size+s2.size≤140737488355328)
  (hK:∀v a' w',SimB N e Xo wo d (st.put (some d) (.v v)) (s++s2) a' w'→wpList P ops Q rest a' w'):wpList P ops Q (o::rest) a w:=by
 obtain⟨⟨X1,w1,β,g,v,h1,h2,h3,h4,h5,h6,h7,h8,h9⟩,hp⟩:=hs;obtain⟨cap,cur,fz,r1,r2,r3,r4,r5,r6,r7⟩:=h9;have h63:s.size+s2.size≤maxLen:=by unfold maxLen;omega
 have hsize':(s++s2).size=s.size+s2.size:=ByteArray.size_append;refine wpList_plain hg fun K hKK=>?_
 have e1:a.eval x=v:=(hx v h8▸St.kC6 h1 x:R w _ β (.v v) (a.eval x)).kAm;have e2:a.eval y=.string s2:=(hy▸St.kC6 h1 y:R w _ β (.v (.string s2)) (a.eval y)).kAm;have hgw:g<w.heap.size:=Nat.lt_of_lt_of_le h5 h1.grew;have hB:Below wo.heap.size wo w:=Below.trans h6 ⟨h1.os,h1.tape,h1.output,h1.grew,fun k hk=>h1.kept k (Nat.lt_of_lt_of_le hk h6.size) noMB⟩
 subst r1;by_cases hroom:s.size+s2.size≤cap
 ·have hr:=kTh (P:=P) w T U o.type e i ht hu hi hsize g s.size cap cur fz r2 r3 s2 hroom (by omega)
  unfold Oper.wp
  have e3:(execOp a.eval o).run P w=.ok (.value (.slice (some ⟨g,0,none⟩) (s.size+s2.size) cap)) (w.setRow g (cur.toList.take s.size++Lib.strCells s2++cur.toList.drop (s.size+s2.size)).toArray):=by
   simp only[execOp,ho,resolve,invoke,builtin,Sem.run_bind,Sem.run_pure,Result.andThen_ok,List.map_toArray,List.map_cons,List.map_nil,e1,e2,hr]
  rw[e3,Oper.upon_value,hd];generalize hw2:w.setRow g (cur.toList.take s.size++Lib.strCells s2++cur.toList.drop (s.size+s2.size)).toArray=w2;have hat:w2.heap[g]? = some (.cells (cur.toList.take s.size++Lib.strCells s2++cur.toList.drop (s.size+s2.size)).toArray e fz):=by rw[←hw2];exact setRow_heap w g cur _ e _ r2
  have hoth:∀k,k≠g→w2.heap[k]? = w.heap[k]?:=fun k hk=>by rw[←hw2];exact setRow_other w g k _ hk
  have hsz2:w2.heap.size=w.heap.size:=by rw[←hw2];simp[World.setRow]
  have hbel:Below wo.heap.size w w2:=⟨by rw[←hw2];rfl,by rw[←hw2];rfl,by rw[←hw2];rfl,by omega,fun k hk=>hoth k (by omega)⟩
  have hs2:Sim N X1 NoM w2 st β a w2:=h1.k0s hp (by omega) (fun b hb hn=>hoth b fun e=>hn (e▸h3)) (fun b _ hx=>hx) (fun b hx=>by have:=h7 b hx;have:=h1.grew;omega)
  refine hKK _ _ (hK (.slice (some ⟨g,0,none⟩) (s.size+s2.size) cap) _ _ ⟨⟨X1,w2,β,g,_,hs2.put hdN (.p (.v _)),h2,h3,h4,by omega,Below.trans hB hbel,hs2.x0,kIf _ _ _,?_⟩,by rw[kU2];exact hp⟩)
  have hls:(cur.toList.take s.size++Lib.strCells s2++cur.toList.drop (s.size+s2.size)).length=cur.size:=by
   simp only[List.length_append,List.length_take,List.length_drop,Array.length_toList,Lib.strCells_length];omega
  refine⟨cap,_,fz,by rw[hsize'],hat,fun o ho=>r3 o (by rw[List.size_toArray,hls]at ho;exact ho),by omega,r5,by rw[List.size_toArray,hls];exact r6,?_⟩
  rw[hsize',r7,kQu];simp only;have:s.size+s2.size=(Lib.strCells s++Lib.strCells s2).length:=by rw[List.length_append,Lib.strCells_length,Lib.strCells_length]
  rw[this];exact List.take_left
 ·have holds:∀j u,(Lib.strCells s)[j]? = some u→w.cell? ((⟨g,0,none⟩:Addr).add j)=some u:=fun j u hu=>by
   have hadd:(⟨g,0,none⟩:Addr).add j=⟨g,j,none⟩:=by unfold Addr.add;split<;>simp_all
   rw[hadd,cell_of_row w g j cur e fz r2];rw[←r7,List.getElem?_take]at hu;split at hu
   ·simpa using hu
   ·cases hu
  have hr:=Lib.run_append_grow_string (P:=P) w T U o.type e i (.int .u8 0) ht hu hi hz ⟨g,0,none⟩ s.size cap (Lib.strCells s) (by rw[hsize,Lib.strCells_length,Nat.mul_one]) holds s2 (by omega) (by omega) (by rw[hby];exact growslice_fits (by omega) (by omega))
  have hge:=grownCap_ge w (s.size+s2.size) cap e;have hcm2:grownCap w (s.size+s2.size) cap e≤maxLen:=grownCap_le_maxLen w (s.size+s2.size) cap e h63;unfold Oper.wp;generalize hnw:(Lib.strCells s).toArray++(Lib.strCells s2).toArray++Builtin.zeroCells (Value.int IntKind.u8 0).cells (grownCap w (s.size+s2.size) cap e-(s.size+s2.size))=cells at hr
  have e3:(execOp a.eval o).run P w=.ok (.value (.slice (some ⟨w.heap.size,0,none⟩) (s.size+s2.size) (grownCap w (s.size+s2.size) cap e))) (w.drew.alloc (.cells cells e)):=by
   simp only[execOp,ho,resolve,invoke,builtin,Sem.run_bind,Sem.run_pure,Result.andThen_ok,List.map_toArray,List.map_cons,List.map_nil,e1,e2,hr]
  rw[e3,Oper.upon_value,hd];generalize hw2:w.drew.alloc (.cells cells e)=w2;have hat:w2.heap[w.heap.size]? = some (.cells cells e (0,0)):=by rw[←hw2];exact heap_alloc_new w.drew _
  have hoth:∀k,k<w.heap.size→w2.heap[k]? = w.heap[k]?:=fun k hk=>by rw[←hw2];exact heap_alloc_old w.drew _ hk
  have hsz2:w2.heap.size=w.heap.size+1:=by rw[←hw2];simp[World.alloc,World.drew,-World.alloc_eq,-World.drew_eq]
  have hbel:Below wo.heap.size w w2:=⟨by rw[←hw2];rfl,by rw[←hw2];rfl,by rw[←hw2];rfl,by omega,fun k hk=>hoth k (Nat.lt_of_lt_of_le hk hB.size)⟩
  have hs2:Sim N (fun b=>X1 b∨b=w.heap.size) NoM w2 st β a w2:=h1.k0s hp (by omega) (fun b hb _=>hoth b hb) (fun b hb hx=>hx.resolve_right (by omega)) (fun b hx=>by
   rcases hx with hx|hx
   ·have:=h7 b hx;have:=h1.grew;omega
   ·omega)
  refine hKK _ _ (hK (.slice (some ⟨w.heap.size,0,none⟩) (s.size+s2.size) (grownCap w (s.size+s2.size) cap e)) _ _ ⟨⟨_,w2,β,w.heap.size,_,hs2.put hdN (.p (.v _)),fun b hb=>.inl (h2 b hb),.inr rfl,hB.size,by omega,Below.trans hB hbel,hs2.x0,kIf _ _ _,?_⟩,by rw[kU2];exact hp⟩)
  refine⟨_,cells,(0,0),by rw[hsize'],hat,fun o ho h=>by have:=h.2;simp only at this;omega,by omega,hcm2,?_,?_⟩
  ·rw[←hnw];have hz1:(Value.int IntKind.u8 0).cells.size=1:=rfl;simp only[Array.size_append,List.size_toArray,size_zeroCells,hz1,Lib.strCells_length];omega
  ·rw[←hnw,hsize',kQu];simp only[Array.toList_append];have:s.size+s2.size=(Lib.strCells s++Lib.strCells s2).length:=by rw[List.length_append,Lib.strCells_length,Lib.strCells_length]
   rw[this];exact List.take_left
theorem SimB.read (hs:SimB N e Xo wo t st s a w) (hxo:∀b,Xo b→b<wo.heap.size) {st':St}(hst':st'={ st with fr:=(t,.sl 1 ((Lib.strCells s).map fun v=>[SV.v v]))::er t st.fr }):∃β,Sim N Xo NoM wo st' β a w:=by
 obtain⟨⟨X1,w1,β,g,v,h1,h2,h3,h4,h5,h6,h7,h8,h9⟩,hp⟩:=hs;have hh:=h1.home hp h2 h6;obtain⟨cap,cur,fz,r1,r2,r3,r4,r5,r6,r7⟩:=h9;subst r1 hst';refine⟨β,{ hh with slots:=fun t' x hx=>?_ }⟩;simp only[lk]at hx;split at hx
 ·rename_i e';subst e';cases hx;have hv:=(h1.slots t' _ h8).kAm;rw[hv];have hlen:((Lib.strCells s).map fun v=>[SV.v v]).length=s.size:=by rw[List.length_map,Lib.strCells_length]
  have key:∀(i k:Nat) (row:List SV) (c:SV),((Lib.strCells s).map fun v=>[SV.v v])[i]? = some row→row[k]? = some c→k=0∧∃u,(Lib.strCells s)[i]? = some u∧c=.v u:=fun i k row c hr hc=>by
   rw[List.getElem?_map]at hr
   cases hu:(Lib.strCells s)[i]? with
   |none=>rw[hu]at hr;cases hr
   |some u =>
    rw[hu]at hr;simp only[Option.map_some,Option.some.injEq]at hr;subst hr
    match k with
    | 0=>cases hc;exact⟨rfl,u,rfl,rfl⟩
    |k+1=>cases hc
  refine .p ?_;rw[←hlen];refine .sl g 0 cap (fun i _=>(Lib.strCells s).getD i undef) (fun hx=>?_) (lt_of_heap r2) (by omega) (fun i row hr=>?_) (fun i k row c hr hc=>?_) (fun i k row c hr hc=>?_) (fun i k row c hr hc=>?_)
  ·rcases hx with hx|⟨id,ob,hi,_⟩
   ·have:=hxo g hx;omega
   ·rw[hp]at hi;cases hi
  ·rw[List.getElem?_map]at hr
   cases hu:(Lib.strCells s)[i]? with
   |none=>rw[hu]at hr;cases hr
   |some u=>rw[hu]at hr;simp only[Option.map_some,Option.some.injEq]at hr;subst hr;rfl
  ·obtain⟨rfl,u,hu,rfl⟩:=key i k row c hr hc;rw[List.getD_eq_getElem?_getD,hu];rw[cell_of_row w g _ cur e fz r2];rw[←r7,List.getElem?_take]at hu;split at hu
   ·simpa using hu
   ·cases hu
  ·obtain⟨rfl,u,hu,rfl⟩:=key i k row c hr hc;rw[List.getD_eq_getElem?_getD,hu];exact Lib.strCells_oneCell s u (List.mem_of_getElem? hu)
  ·obtain⟨rfl,u,hu,rfl⟩:=key i k row c hr hc;rw[List.getD_eq_getElem?_getD,hu];exact .v u
 ·rename_i e';rw[kAt e']at hx;exact hh.slots t' x hx
end
end Go.Vc

namespace Go.Vc
section
variable {c:Cx}{N e t:Nat}{Xo:Nat→Prop}{wo:World}{st:St}{s:ByteArray}{Q:Exit→Act→World→Prop}
def WBQ (c:Cx) (N e:Nat) (Xo:Nat→Prop) (wo:World) (t:Nat) (code:Code) (st:St) (s:ByteArray) (Q:Exit→Act→World→Prop):Prop:=∀a w,SimB N e Xo wo t st s a w→code.wp c.P Q a w
def NBx (N e:Nat) (Xo:Nat→Prop) (wo:World) (t:Nat) (x:Exit) (st:St) (s:ByteArray) (Q:Exit→Act→World→Prop):Prop:=∀a w,SimB N e Xo wo t st s a w→Q x a w
theorem kJj {P:Program}{a:Act}{w:World}{id:Nat}{l:List Oper}(n:Nat) (h:wpList P l.toArray Q (l.take n++l.drop n) a w):(Code.region id l.toArray false).wp P Q a w:=wp_region_lit (by rwa [List.take_append_drop]at h)
theorem WBQ.seq {x y:Code}(h:WBQ c N e Xo wo t x st s (Exit.then (fun a w=>y.wp c.P Q a w) Q)):WBQ c N e Xo wo t (.seq x y) st s Q:=fun a w hs=>wp_seq (h a w hs)
theorem NBx.next {y:Code}(h:WBQ c N e Xo wo t y st s Q):NBx N e Xo wo t .normal st s (Exit.then (fun a w=>y.wp c.P Q a w) Q):=fun a w hs=>h a w hs
theorem NBx.other {x:Exit}{y:Act→World→Prop}(hx:x≠.normal) (h:NBx N e Xo wo t x st s Q):NBx N e Xo wo t x st s (Exit.then y Q):=fun a w hs=>by
 cases x with
 |normal=>exact absurd rfl hx
 | _=>exact h a w hs
theorem WBQ.cond {x:Operand}{p q:Code}{b:Bool}(hx:st.ev x=.v (.bool b)) (h1:b=true→WBQ c N e Xo wo t p st s Q) (h2:b=false→WBQ c N e Xo wo t q st s Q):WBQ c N e Xo wo t (.cond x p q) st s Q:=fun a w hs=>by
 obtain⟨X1,w1,β,g,v,k1,_⟩:=hs.ex;have he:a.eval x=.bool b:=(hx▸St.kC6 k1 x:R w _ β (.v (.bool b)) (a.eval x)).kAm;exact wp_cond_split he (fun h=>h1 h a w hs) (fun h=>h2 h a w hs)
theorem WBQ.block {id:Nat}{p:Code}(h:WBQ c N e Xo wo t p st s (Exit.inBlock id Q)):WBQ c N e Xo wo t (.block id p) st s Q:=fun a w hs=>wp_block (h a w hs)
theorem WBQ.skip (h:NBx N e Xo wo t .normal st s Q):WBQ c N e Xo wo t .skip st s Q:=fun a w hs=>wp_skip (h a w hs)
theorem WBQ.ret (h:NBx N e Xo wo t .ret st s Q):WBQ c N e Xo wo t .ret st s Q:=fun a w hs=>wp_ret (h a w hs)
theorem WBQ.exit {id:Nat}(h:NBx N e Xo wo t (.exit id) st s Q):WBQ c N e Xo wo t (.exit id) st s Q:=fun a w hs=>wp_exit (h a w hs)
theorem WBQ.region (hG:Grd c.P wo) {id:Nat}{l:List Oper}(h:St.runR c.tys c.C N l.toArray l st fun st'=>(st'.hp=[]∧lk t st'.fr=lk t st.fr)∧NBx N e Xo wo t .normal st' s Q):WBQ c N e Xo wo t (.region id l.toArray false) st s Q:=fun a w hs=>by
 refine kJj l.length ?_;have h1:=hs.ops hG (ops:=l.toArray) (l:=l) (l2:=[]) (Q:=Q) h (fun st' a' w' hk hs'=>hk a' w' hs')
 rw[List.take_length,List.drop_length];exact h1
theorem SimB.has {a:Act}{w:World}(hs:SimB N e Xo wo t st s a w) {st2:St}(h:st.has st2) (hp2:st2.hp=[]) (ht:lk t st2.fr=lk t st.fr):SimB N e Xo wo t st2 s a w:=by
 obtain⟨⟨X1,w1,β,g,v,h1,h2,h3,h4,h5,h6,h7,h8,h9⟩,hp⟩:=hs;exact⟨⟨X1,w1,β,g,v,h1.has h,h2,h3,h4,h5,h6,h7,ht.trans h8,h9⟩,hp2⟩
theorem SimB.homeS {a:Act}{w:World}(hs:SimB N e Xo wo t st s a w):∃β,Sim N Xo NoM wo st β a w:=by
 obtain⟨⟨X1,w1,β,g,v,h1,h2,h3,h4,h5,h6,h7,h8,h9⟩,hp⟩:=hs;exact⟨β,h1.home hp h2 h6⟩
open Classical in
theorem WBQ.loop {S:Type}{p:Code}(I:S→St) (sv:S→ByteArray) (J:S→Prop) (μ:S→Nat) (s0:S) (h0:J s0) (hi:st.has (I s0)) (hp0:(I s0).hp=[]) (ht0:lk t (I s0).fr=lk t st.fr) (hs0:sv s0=s)
  (hr:∀x,J x→WBQ c N e Xo wo t p (I x) (sv x) (Exit.then (fun a w=>∃x',J x'∧μ x'<μ x∧SimB N e Xo wo t (I x') (sv x') a w) Q)):WBQ c N e Xo wo t (.loop p) st s Q:=by
 intro a w hs
 let Inv:Act→World→Nat→Prop:=fun a w n=>∃x,J x∧μ x=n∧SimB N e Xo wo t (I x) (sv x) a w
 refine wp_loop (fun a w=>∃n,Inv a w n) (fun a w=>if h:∃n,Inv a w n then Classical.choose (least h)else 0) ⟨μ s0,s0,h0,rfl,by subst hs0;exact hs.has hi hp0 ht0⟩ ?_
 intro a w hI;have hsp:=Classical.choose_spec (least hI);obtain⟨⟨x,hj,hm,hsim⟩,_⟩:=hsp;refine Code.wp_mono (fun x' a' w' hq=>?_) (hr x hj a w hsim)
 cases x' with
 |normal =>
  obtain⟨y,hj',hlt,h2⟩:=hq;have hI':∃n,Inv a' w' n:=⟨μ y,y,hj',rfl,h2⟩;refine⟨hI',?_⟩;simp only[dif_pos hI',dif_pos hI];have hle:=(Classical.choose_spec (least hI')).2 (μ y) ⟨y,hj',rfl,h2⟩
  omega
 | _=>exact hq
theorem WBQ.app (hG:Grd c.P wo) {id:Nat}{l:List Oper}(n:Nat) {oa om:Oper}{T U d:Nat}{x y:Operand}{i:TypeInfo}{v:Value}(hl:l.drop n=[oa,om]) (hg:oa.guard=none) (hd:oa.dst=some d) (hdN:d<N) (ho:oa.op=.call { callee:=.builtin .append,args:=#[x,y],argTypes:=#[T,U] })
  (ht:c.P.underlying T=some (.slice e)) (hu:c.P.underlying U=some .string) (hi:c.P.info? e=some i) (hz:i.zero=some (.int .u8 0)) (hsize:i.size=1) (hby:i.bytes=1) (hv:lk t st.fr=some (.v v))
  (h:St.runR c.tys c.C N l.toArray (l.take n) st fun st'=>(st'.hp=[]∧lk t st'.fr=lk t st.fr)∧lk t st'.fr=some (.v v)∧st'.ev x=.v v∧∃s2,st'.ev y=.v (.string s2)∧s.size+s2.size≤140737488355328 ∧
   ∀v2,St.runR c.tys c.C N l.toArray [om] (st'.put (some d) (.v v2)) fun st''=>(st''.hp=[]∧lk d st''.fr=lk d (st'.put (some d) (.v v2)).fr)∧lk t st''.fr=lk d st''.fr∧NBx N e Xo wo t .normal st'' (s++s2) Q):WBQ c N e Xo wo t (.region id l.toArray false) st s Q:=fun a w hs=>by
 refine kJj n (hs.ops hG h fun st' a' w' hk hs'=>?_)
 obtain⟨k0,k1,s2,k2,k3,k4⟩:=hk;rw[hl];refine qGx hs' hg hd hdN ho ht hu hi hz hsize hby (fun v' hv2=>?_) k2 k3 (fun v2 a2 w2 hs2=>?_)
 ·rw[k0]at hv2;cases hv2;exact k1
 ·have hq:=hs2.ops hG (ops:=l.toArray) (l:=[om]) (l2:=[]) (Q:=Q) (k4 v2) (fun st'' a3 w3 hk hs3=>hk.2 a3 w3 (hs3.slot hk.1))
  exact hq
theorem WP.convB {K:Exit→St→Prop}{id:Nat}{l:List Oper}{rest:Code}(n:Nat) {oa om:Oper}{src dst d:Nat}{x:Operand}{u:TypeDesc}(hl:l.drop n=[oa,om]) (hg:oa.guard=none) (hd:oa.dst=some d) (hdN:d<N) (ho:oa.op=.convert src dst x)
  (h1:c.P.underlying src=some u) (h2:c.P.underlying dst=some (.slice e)) (h3:c.P.underlying e=some (.int .u8))
  (h:St.runR c.tys c.C N l.toArray (l.take n) st fun st'=>st'.hp=[]∧∃s,st'.ev x=.v (.string s)∧s.size≤maxLen ∧
   ∀v2,St.runR c.tys c.C N l.toArray [om] (st'.put (some d) (.v v2)) fun st''=>(st''.hp=[]∧lk d st''.fr=lk d (st'.put (some d) (.v v2)).fr)∧lk t st''.fr=lk d st''.fr ∧
    ∀(Xo:Nat→Prop) (wo:World),Grd c.P wo→(∀b,Xo b→b<wo.heap.size)→WBQ c N e Xo wo t rest st'' s (fun x a w=>Ok N Xo NoM wo (K x) a w)):WP c N Xo NoM wo (.seq (.region id l.toArray false) rest) st K:=by
 intro hA β a w hs;refine wp_seq (kJj n ?_);refine kM8 hA c.hty c.hC (fun a' w' hq=>?_) (l.take n) hs h
 obtain⟨st',β',⟨k1,s,k2,k3,k4⟩,hs'⟩:=hq;rw[hl];refine qDi hs' k1 hg hd hdN ho h1 h2 h3 k2 k3 (fun v2 a2 w2 hs2=>?_)
 have hG:Grd c.P wo:=hA.grd;have hq:=hs2.ops hG (ops:=l.toArray) (l:=[om]) (l2:=[]) (Q:=Exit.then (fun a w=>rest.wp c.P (fun x a w=>Ok N Xo NoM wo (K x) a w) a w) (fun x a w=>Ok N Xo NoM wo (K x) a w)) (k4 v2) (fun st'' a3 w3 hk hs3=>hk.2 Xo wo hG (fun b hb=>(hA.old b hb).1) a3 w3 (hs3.slot hk.1))
 exact hq
theorem WBQ.read {K:Exit→St→Prop}{code:Code}(hG:Grd c.P wo) (hX:∀b,Xo b→b<wo.heap.size) (h:WP c N Xo NoM wo code { st with fr:=(t,.sl 1 ((Lib.strCells s).map fun v=>[SV.v v]))::er t st.fr } K):WBQ c N e Xo wo t code st s (fun x a w=>Ok N Xo NoM wo (K x) a w):=fun a w hs=>by
 obtain⟨β,h1⟩:=hs.read hX rfl;exact h ⟨fun b hb=>⟨hX b hb,noMB⟩,hG,fun b hb=>absurd hb noMB⟩ β a w h1
end
attribute [go_sem] Exit.then Exit.inBlock
end Go.Vc

namespace Go.Proofs.YtjdklcjoeanimaaGreat
open Go.Vc
attribute [local irreducible] Go.Vc.WP
attribute [local go_sem] kAd kAe
attribute [local go_sem] kAf
theorem qOi:∃i:TypeInfo,Tryz.prog.info? 5=some i∧i.zero=some (.int .u8 0)∧i.size=1∧i.bytes=1:=by
 have h:(Tryz.prog.info? 5).map (fun i=>(i.zero,i.size,i.bytes))=some (some (.int .u8 0),1,1):=by kernel_rfl
 cases hi:Tryz.prog.info? 5 with
 |none=>rw[hi]at h;cases h
 |some i =>
  rw[hi]at h;simp only[Option.map_some,Option.some.injEq,Prod.mk.injEq]at h;exact⟨i,rfl,h.1,h.2.1,h.2.2⟩
theorem kZ7 {s:ByteArray}{u:Value}(h:u∈Lib.strCells s):isByte [SV.v u]:=by
 unfold Lib.strCells at h;obtain⟨b,_,rfl⟩:=List.mem_map.1 h;exact⟨_,rfl⟩
section
noncomputable def qAn:=mkX [(185,kVar),(189,kSgl)] (COk.cons k9w (COk.cons cSglI (COk.nil _)))
theorem qOj:qAn.tys=tys:=rfl
theorem qOk:qAn.C=[(185,kVar),(189,kSgl)]:=rfl
attribute [local go_sem] qOj qOk kVar kSgl
theorem cPackI:Cn Tryz.prog 187 kNq:=by
 refine Cn.pur Tryz.func187 (by kernel_rfl) rfl fun d x hx=>?_
 rename List Int=>L
 refine Holds.go (c:=qAn) Tryz.func187 rfl Tryz.results187 Tryz.ntmps187 (by omega) (by simp) rfl ?_
 intro X0 w0;have hz:=kP8 (varint L.length);have hz0:=kFq L.length;apply zS;apply zR;simp only[go_sem];refine WP.convB (N:=27) (e:=5) (t:=3) (d:=9) 3 rfl rfl rfl (by decide) rfl (u:=.string) (by kernel_rfl) (by kernel_rfl) (by kernel_rfl) ?_
 simp only[go_sem];refine⟨_,rfl,by unfold maxLen;omega,fun v2 Xo wo hG hX=>?_⟩
 obtain⟨ti,hi1,hi2,hi3,hi4⟩:=qOi;refine WBQ.seq (WBQ.seq (WBQ.region hG ?_));simp only[go_sem];refine NBx.next (WBQ.block ?_)
 refine WBQ.loop (fun S:Nat×Value=>⟨[(0,.sl 1 (L.map encI)),(3,.v S.2),(10,.sl 1 (L.map encI)),(11,.v (.int .i64 L.length)),(12,.v (.int .i64 S.1))],[]⟩) (fun S=>kGa (varint L.length) (L.take S.1))
  (fun S=>S.1≤L.length∧kHd (L.take S.1)=true) (fun S=>L.length-S.1) (0,v2) ⟨by omega,rfl⟩ (by(simp only[go_sem]<;>(first|(and_intros<;>rfl)|simp))) rfl (by simp only[go_sem]) rfl ?_
 rintro⟨k,v⟩ ⟨hk,hok⟩;simp only at hk hok⊢;have hzk:=hz (L.take k);have hz1:(L.take k).length≤k:=by simp;omega
 refine WBQ.seq (WBQ.region hG ?_);by_cases hlt:k<L.length
 ·have h1:=kAa encI L k hlt;have hli:(k:Int)<L.length:=by omega
  have hvs:=kFq (sgl L[k]);have e2:=kWn (varint L.length) L k hlt;simp only[go_sem,hli];refine NBx.next (WBQ.seq (WBQ.cond (b:=true) (by simp only[go_sem]) (fun _=>?_) (fun h=>by cases h)))
  refine WBQ.skip (NBx.next (WBQ.seq (WBQ.block (WBQ.seq (WBQ.region hG ?_)))));simp only[go_sem,hli,h1,encI];refine⟨by omega,by omega,NBx.next (WBQ.seq (WBQ.seq (WBQ.region hG ?_)))⟩
  simp only[go_sem];by_cases hs:sgl L[k]<0
  ·refine NBx.next (WBQ.cond (b:=true) (by simp only[go_sem,hs]) (fun _=>?_) (fun h=>by cases h))
   refine WBQ.seq (WBQ.region hG ?_);simp only[go_sem];refine NBx.next (WBQ.ret fun a w hsb=>?_)
   obtain⟨β,hh⟩:=hsb.homeS;refine⟨_,β,?_,hh⟩;have hbad:=kZw L k hlt hs;simp only[go_sem,hbad]
  ·refine NBx.next (WBQ.cond (b:=false) (by simp only[go_sem,hs]) (fun h=>by cases h) (fun _=>?_))
   refine WBQ.skip (NBx.next (WBQ.app hG (v:=v) 4 rfl rfl rfl (by decide) rfl (by kernel_rfl) (by kernel_rfl) hi1 hi2 hi3 hi4 (by simp only[go_sem]) ?_))
   simp only[go_sem];refine⟨_,rfl,by omega,fun v3=>?_⟩
   refine fun a w hsb=>?_
   show Code.wp _ _ _ _ _
   refine WBQ.region (t:=3) (s:=kGa (varint L.length) (L.take k)++varint (sgl L[k])) hG ?_ a w hsb;simp only[go_sem];refine⟨by omega,fun a w hsb=>?_⟩
   refine⟨(k+1,v3),⟨by omega,kLz L k hlt hok (by omega)⟩,by simp only;omega,?_⟩
   rw[e2];exact hsb.has (by(simp only[go_sem]<;>(first|(and_intros<;>rfl)|simp))) rfl (by simp only[go_sem])
 ·have hge:¬(k:Int)<L.length:=by omega
  obtain rfl:k=L.length:=by omega
  have hall:L.take L.length=L:=List.take_length;rw[hall]at hok hzk⊢;have e3:pack L=kGa (varint L.length) L:=if_pos hok;simp only[go_sem,hge];refine NBx.next (WBQ.seq (WBQ.cond (b:=false) (by simp only[go_sem]) (fun h=>by cases h) (fun _=>?_)))
  refine WBQ.exit fun a w hsb=>?_
  show Code.wp _ _ _ _ _
  refine WBQ.read (K:=retK _ _ _ _) hG hX ?_ a w hsb;have hc:=k5n (kGa (varint L.length) L);rw[e3]
  (repeat' (first|apply zS|apply zB|(apply zW;simp only[go_sem,hc])|apply And.intro|intro _))
  all_goals first|omega|rfl|(obtain⟨u,hu,rfl⟩:=List.mem_map.1 ‹_›;exact kZ7 hu)|skip
end
end Go.Proofs.YtjdklcjoeanimaaGreat

