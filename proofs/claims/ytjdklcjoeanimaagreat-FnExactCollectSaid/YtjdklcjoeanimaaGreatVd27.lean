/-
  DERIVED. Several texts of ours in one: VtTkR, VpKeep, VpColI, VpSz, VtMark, VtStrS, VtSeZ.
-/
import Derived.Test.YtjdklcjoeanimaaGreatVd4
import Derived.Test.YtjdklcjoeanimaaGreatVd11
import Derived.Test.YtjdklcjoeanimaaGreatVd19
import Derived.Test.YtjdklcjoeanimaaGreatVd20
import Derived.Test.YtjdklcjoeanimaaGreatVd22
import Derived.Test.YtjdklcjoeanimaaGreatVd23
import Derived.Test.YtjdklcjoeanimaaGreatVd26
set_option linter.unusedSimpArgs false
set_option linter.unusedVariables false
set_option maxHeartbeats 1000000
set_option maxRecDepth 10000
namespace Go.Proofs.YtjdklcjoeanimaaGreat
open Go.Vc
attribute [local irreducible] Go.Vc.WP
attribute [local go_sem] kAd kAe
def kJ3:List Go.Vc.Fp:=[⟨[6],[],[31],[31,36],[],[]⟩,⟨[],[],[],[36],[],[31]⟩,⟨[2],[],[],[31,36],[],[]⟩,⟨[32],[2],[],[31,36],[],[]⟩,⟨[1],[],[],[31,36],[],[]⟩,⟨[33,34],[2,3,4],[],[31,36],[],[]⟩,⟨[31,35],[1,2,3,4,5],[],[],[31],[36]⟩,⟨[],[0,1,2,3,4,5,6],[],[],[],[]⟩,⟨[],[0,1,2,3,4,5,6,7],[],[],[],[]⟩]
def kJ4:List Go.Vc.Fp:=[⟨[6],[],[30],[30,35],[],[]⟩,⟨[],[],[],[35],[],[30]⟩,⟨[2],[],[],[30,35],[],[]⟩,⟨[31],[2],[],[30,35],[],[]⟩,⟨[1],[],[],[30,35],[],[]⟩,⟨[32,33],[2,3,4],[],[30,35],[],[]⟩,⟨[30,34],[1,2,3,4,5],[],[],[30],[35]⟩,⟨[],[0,1,2,3,4,5,6],[],[],[],[]⟩,⟨[],[0,1,2,3,4,5,6,7],[],[],[],[]⟩]
attribute [local go_sem] kJ3 kJ4
attribute [local go_sem] kBe rgA kAf kCg stkA repA prA kKe kOo St.fzS addL behind
def kOq:Ctr:=pur (fun args=>(rgA args 0,aI args 1)) (fun x=>[.agg [.v (.int .i64 x.1.1),.sl 1 (x.1.2.1.map encS),.v (.int .i64 x.1.2.2.1),.v (.int .i64 x.1.2.2.2)],.v (.int .i64 x.2)]) (fun x=>kGy x.1)
 (fun d x=>.tup [.agg [.v (.int .i64 (kGw x.1 x.2).1.1),.own d,.v (.int .i64 (kGw x.1 x.2).1.2.2.1),.v (.int .i64 (kGw x.1 x.2).1.2.2.2)],.own (d+1000)]) (fun d x=>[(d,.sl 9 1 ((kGw x.1 x.2).1.2.1.map encS)),(d+1000,.sl 9 1 ((kGw x.1 x.2).2.map encS))])
section
attribute [local irreducible] kGy
noncomputable def k49:=mkX [(77,kGi),(83,kGz)] (COk.cons qGd (COk.cons qGq (COk.nil _)))
theorem qJ5:k49.tys=tys:=rfl
theorem qJ6:k49.C=[(77,kGi),(83,kGz)]:=rfl
attribute [local go_sem] qJ5 qJ6 kGi kGz
theorem qMc:Cn Tryz.prog 33 kOq:=by
 refine Cn.pur Tryz.func33 (by kernel_rfl) rfl fun d x hx=>?_
 obtain⟨⟨cp,R,wr,lo⟩,n⟩:=x;have hp:kGy (cp,R,wr,lo):=hx;have hp':=hp;unfold kGy at hp';obtain⟨hR,hz⟩:=hp';simp only at hR hz⊢;refine Holds.go (c:=k49) Tryz.func33 rfl Tryz.results33 Tryz.ntmps33 (by omega) (by simp) rfl ?_
 intro X0 w0
 cases hok:kE6 (cp,R,wr,lo)with
 |false =>
  have e:kGw (cp,R,wr,lo) n=((cp,R,wr,lo),[]):=if_neg (by rw[hok];simp)
  rw[e]
  (repeat' (first|apply zS|apply zB|((first|apply zW| refine zF 7 kJ3 [30,31,32,33,34,35,36] [31,36] [31] (by decide +kernel) (by kernel_rfl) (by kernel_rfl) (by kernel_rfl) ?_);simp only[go_sem,hok])|apply And.intro|intro _))
  all_goals first|omega|exact hp|rfl|exact⟨_,_,rfl,_,_,rfl,rfl⟩|exact if_neg (by omega)|exact⟨_,_,if_neg (by omega)⟩|skip
 |true =>
  by_cases hn:n<0
  ·have e:kGw (cp,R,wr,lo) n=((cp,R,wr,lo),[]):=if_neg (fun h=>by omega)
   rw[e]
   (repeat' (first|apply zS|apply zB|((first|apply zW| refine zF 7 kJ3 [30,31,32,33,34,35,36] [31,36] [31] (by decide +kernel) (by kernel_rfl) (by kernel_rfl) (by kernel_rfl) ?_);simp only[go_sem,hok,hn])|apply And.intro|intro _))
   all_goals first|omega|exact hp|rfl|exact⟨_,_,rfl,_,_,rfl,rfl⟩|exact if_neg (by omega)|exact⟨_,_,if_neg (by omega)⟩|skip
  ·have e:kGw (cp,R,wr,lo) n=((cp,R.drop (min n R.length).toNat,wr,lo),R.take (min n R.length).toNat):=if_pos ⟨hok,by omega⟩
   rw[e];have hm:(if(R.length:Int)<n then(R.length:Int)else n)=min n R.length:=by split<;>omega
   have hb:0≤min n (R.length:Int)∧min n (R.length:Int)≤R.length:=by omega
   generalize min n (R.length:Int)=m at *;have hd:(R.map encS).drop m.toNat=(R.drop m.toNat).map encS:=(List.map_drop ..).symm;have ht:(R.map encS).take m.toNat=(R.take m.toNat).map encS:=(List.map_take ..).symm;have hd2:(R.drop m.toNat).length≤4194304:=by rw[List.length_drop];omega
   have ht2:(R.take m.toNat).length≤4194304:=by rw[List.length_take];omega
   generalize R.drop m.toNat=D at *;generalize R.take m.toNat=T at *
   (repeat' (first|apply zS|apply zB|((first|apply zW| refine zF 7 kJ3 [30,31,32,33,34,35,36] [31,36] [31] (by decide +kernel) (by kernel_rfl) (by kernel_rfl) (by kernel_rfl) ?_);simp only[go_sem,hok,hn,hm,hd,ht])|apply And.intro|intro _))
   all_goals first|omega|exact hp|rfl|exact⟨_,_,rfl,_,_,rfl,rfl⟩|exact if_neg (by omega)|exact⟨_,_,if_neg (by omega)⟩|(simp only[List.length_map];omega)|(obtain⟨n,_,rfl⟩:=List.mem_map.1 ‹_›;rfl)|skip
noncomputable def k5a:=mkX [(101,kGi),(107,kGz)] (COk.cons qGe (COk.cons qGp (COk.nil _)))
theorem qJ7:k5a.tys=tys:=rfl
theorem qJ8:k5a.C=[(101,kGi),(107,kGz)]:=rfl
attribute [local go_sem] qJ7 qJ8 kGi kGz
theorem qL2:Cn Tryz.prog 48 kOq:=by
 refine Cn.pur Tryz.func48 (by kernel_rfl) rfl fun d x hx=>?_
 obtain⟨⟨cp,R,wr,lo⟩,n⟩:=x;have hp:kGy (cp,R,wr,lo):=hx;have hp':=hp;unfold kGy at hp';obtain⟨hR,hz⟩:=hp';simp only at hR hz⊢;refine Holds.go (c:=k5a) Tryz.func48 rfl Tryz.results48 Tryz.ntmps48 (by omega) (by simp) rfl ?_
 intro X0 w0
 cases hok:kE6 (cp,R,wr,lo)with
 |false =>
  have e:kGw (cp,R,wr,lo) n=((cp,R,wr,lo),[]):=if_neg (by rw[hok];simp)
  rw[e]
  (repeat' (first|apply zS|apply zB|((first|apply zW| refine zF 7 kJ4 [29,30,31,32,33,34,35] [30,35] [30] (by decide +kernel) (by kernel_rfl) (by kernel_rfl) (by kernel_rfl) ?_);simp only[go_sem,hok])|apply And.intro|intro _))
  all_goals first|omega|exact hp|rfl|exact⟨_,_,rfl,_,_,rfl,rfl⟩|exact if_neg (by omega)|exact⟨_,_,if_neg (by omega)⟩|skip
 |true =>
  by_cases hn:n<0
  ·have e:kGw (cp,R,wr,lo) n=((cp,R,wr,lo),[]):=if_neg (fun h=>by omega)
   rw[e]
   (repeat' (first|apply zS|apply zB|((first|apply zW| refine zF 7 kJ4 [29,30,31,32,33,34,35] [30,35] [30] (by decide +kernel) (by kernel_rfl) (by kernel_rfl) (by kernel_rfl) ?_);simp only[go_sem,hok,hn])|apply And.intro|intro _))
   all_goals first|omega|exact hp|rfl|exact⟨_,_,rfl,_,_,rfl,rfl⟩|exact if_neg (by omega)|exact⟨_,_,if_neg (by omega)⟩|skip
  ·have e:kGw (cp,R,wr,lo) n=((cp,R.drop (min n R.length).toNat,wr,lo),R.take (min n R.length).toNat):=if_pos ⟨hok,by omega⟩
   rw[e];have hm:(if(R.length:Int)<n then(R.length:Int)else n)=min n R.length:=by split<;>omega
   have hb:0≤min n (R.length:Int)∧min n (R.length:Int)≤R.length:=by omega
   generalize min n (R.length:Int)=m at *;have hd:(R.map encS).drop m.toNat=(R.drop m.toNat).map encS:=(List.map_drop ..).symm;have ht:(R.map encS).take m.toNat=(R.take m.toNat).map encS:=(List.map_take ..).symm;have hd2:(R.drop m.toNat).length≤4194304:=by rw[List.length_drop];omega
   have ht2:(R.take m.toNat).length≤4194304:=by rw[List.length_take];omega
   generalize R.drop m.toNat=D at *;generalize R.take m.toNat=T at *
   (repeat' (first|apply zS|apply zB|((first|apply zW| refine zF 7 kJ4 [29,30,31,32,33,34,35] [30,35] [30] (by decide +kernel) (by kernel_rfl) (by kernel_rfl) (by kernel_rfl) ?_);simp only[go_sem,hok,hn,hm,hd,ht])|apply And.intro|intro _))
   all_goals first|omega|exact hp|rfl|exact⟨_,_,rfl,_,_,rfl,rfl⟩|exact if_neg (by omega)|exact⟨_,_,if_neg (by omega)⟩|(simp only[List.length_map];omega)|(obtain⟨n,_,rfl⟩:=List.mem_map.1 ‹_›;rfl)|skip
end
def kOp:Ctr:=pur (fun args=>repA args 0) (fun x=>[.agg [.sl 3 (x.N.map kAb),.sl 1 (x.C.map encI),.v (.int .i64 x.kept),.v (.int .i64 x.skip)]]) (fun x=>x.N.length≤4398046511104∧x.C.length≤4398046511104)
 (fun d x=>.agg [.own d,.own (d+1000),.v (.int .i64 x.kept),.v (.int .i64 x.skip)]) (fun d x=>[(d,.sl 231 3 (x.N.map kAb)),(d+1000,.sl 3 1 (x.C.map encI))])
section
noncomputable def k5b:=mkX [(78,kEx)] (COk.cons k4c (COk.nil _))
theorem qJ9:k5b.tys=tys:=rfl
theorem qKa:k5b.C=[(78,kEx)]:=rfl
attribute [local go_sem] qJ9 qKa kEx
theorem qMa:Cn Tryz.prog 29 kOp:=by
 refine Cn.pur Tryz.func29 (by kernel_rfl) rfl fun d x hx=>?_
 obtain⟨N,C,kp,sk⟩:=x;obtain⟨hN,hC⟩:=hx;simp only at hN hC⊢;refine Holds.go (c:=k5b) Tryz.func29 rfl Tryz.results29 Tryz.ntmps29 (by omega) (by simp) rfl ?_
 intro X0 w0
 (repeat' (first|apply zS|apply zB|(apply zW;simp only[go_sem])|apply And.intro|intro _))
 all_goals first|omega|rfl|exact⟨_,_,rfl,_,_,rfl,rfl⟩|exact if_neg (by omega)|exact⟨_,_,if_neg (by omega)⟩|skip
noncomputable def k5c:=mkX [(102,kEx)] (COk.cons k4d (COk.nil _))
theorem qKb:k5c.tys=tys:=rfl
theorem qKc:k5c.C=[(102,kEx)]:=rfl
attribute [local go_sem] qKb qKc kEx
theorem qL0:Cn Tryz.prog 44 kOp:=by
 refine Cn.pur Tryz.func44 (by kernel_rfl) rfl fun d x hx=>?_
 obtain⟨N,C,kp,sk⟩:=x;obtain⟨hN,hC⟩:=hx;simp only at hN hC⊢;refine Holds.go (c:=k5c) Tryz.func44 rfl Tryz.results44 Tryz.ntmps44 (by omega) (by simp) rfl ?_
 intro X0 w0
 (repeat' (first|apply zS|apply zB|(apply zW;simp only[go_sem])|apply And.intro|intro _))
 all_goals first|omega|rfl|exact⟨_,_,rfl,_,_,rfl,rfl⟩|exact if_neg (by omega)|exact⟨_,_,if_neg (by omega)⟩|skip
end
end Go.Proofs.YtjdklcjoeanimaaGreat

namespace Go.Proofs.YtjdklcjoeanimaaGreat
open Go.Pl
def hasName (s:ByteArray) (f:Frame):Bool:=decide (f.name=s)
def idxF (s:ByteArray) (L:List Frame):Int:=firstIdx (hasName s) L
def pick (s:ByteArray) (b:Bool) (L:List Frame):List Frame:=if(decide (0≤idxF s L)==b)=true then L else[]
end Go.Proofs.YtjdklcjoeanimaaGreat

namespace Go.Proofs.YtjdklcjoeanimaaGreat
open Go.Vc
def kPv (a:AgX):Prop:=∀d∈a.2,d.inls.length≤1048576
theorem qHi {x:AgX}(h:AgR x) (hB:kPv x) (adr:Int) (st:Bool):(faL x adr st).length≤1048577:=by
 unfold faL
 cases hf:kBg x adr st with
 |none=>simp
 |some f =>
  unfold kBg at hf;split at hf
  ·cases hf
  ·have:=kRi hf;obtain⟨k,hk,hk2⟩:=kHr h.sp (a:=adr) (by assumption)
   have h2:=h.len;rw[hk,Int.toNat_natCast,kKj (by omega)]at this
   have:=hB _ (List.getElem_mem (by omega:k<x.2.length))
   show f.length≤_
   omega
theorem kVv {x:AgX}(h:AgR x) (hB:kPv x) (st:Bool):∀(L:List Int) (i:Nat) (f:List Frame),kFi x st i L=some f→f.length≤1048577*L.length
 | [],i,f,hf=>by cases hf;simp
 |a::r,i,f,hf=>by
  unfold kFi at hf
  cases h1:kFi x st (i+1) r with
  |none=>rw[h1]at hf;cases hf
  |some A =>
   rw[h1]at hf
   cases h2:kBg x (if i=0 then a else a-1) (st&&decide (i=0))with
   |none=>rw[h2]at hf;cases hf
   |some B =>
    rw[h2]at hf;simp only[Option.some.injEq]at hf;subst hf;have q1:=kVv h hB st r (i+1) A h1;have q2:=qHi h hB (if i=0 then a else a-1) (st&&decide (i=0))
    unfold faL at q2;rw[h2]at q2;simp only[Option.getD_some]at q2;rw[List.length_append,List.length_cons];omega
theorem kRj {a:AgX}{x:Int×Vw}{st:Bool}{F:List Frame}(h:kBo a x st=some F):kBn a=true∧kFi a st 0 (unwind a.1 (a.2.map (·.rules)) x.2).1=some F:=by
 unfold kBo at h;split at h
 ·rename_i hc;exact⟨hc.1,h⟩
 ·cases h
theorem kXr {a:AgX}(hp:kFj a) (hB:kPv a) (x:Int×Vw) (st:Bool):(stL a x st).length≤41943080:=by
 unfold stL
 cases h:kBo a x st with
 |none=>simp
 |some F =>
  obtain⟨h1,h2⟩:=kRj h;have h3:=kVv ⟨hp,h1⟩ hB st _ 0 F h2;have h4:=kPw a.1 (a.2.map (·.rules)) x.2
  show F.length≤_
  omega
theorem kVw {B:Nat}:∀(L:List Inline) (nm:ByteArray),nm.size≤B→(∀y∈L,y.name.size≤B)→(∀f∈frGo nm L,f.name.size≤B)∧(kHq nm L).size≤B
 | [],nm,h,_=>⟨(fun f hf=>nomatch hf),h⟩
 |x::r,nm,h,hL=>by
  obtain⟨h1,h2⟩:=kVw r x.name (hL x (by simp)) (fun y hy=>hL y (by simp[hy]))
  refine⟨fun f hf=>?_,h2⟩
  rcases List.mem_cons.1 hf with rfl|hf
  ·exact h
  ·exact h1 f hf
theorem AgR.syms {x:AgX}(h:AgR x):∀d∈x.2,∀y∈d.syms,y.name.size≤4194304:=by
 obtain⟨⟨I,B,E⟩,D⟩:=x;have hok:=h.ok;have h2:=h.len;have hs:=h.sp;simp only at h2 hs;have hl:=(kGx hs).1;have i0:0<I.length:=by omega
 have i1:1<I.length:=by omega
 have d0:0<D.length:=by omega
 have d1:1<D.length:=by omega
 rw[kUj hs h2 i0 i1 d0 d1,Bool.and_eq_true]at hok;have hI:=h.pre.1.1.2;simp only at hI
 have key:∀(i:Image) (d:Debug),i∈I→kGo i d=true→∀y∈d.syms,y.name.size≤4194304:=fun i d hi hf y hy=>by
  unfold kGo at hf;rw[Bool.and_eq_true,decide_eq_true_eq,decide_eq_true_eq]at hf;rw[←hf.2]at hy;exact(hI i hi).2.2 y hy
 intro d hd;obtain⟨k,hk,rfl⟩:=List.mem_iff_getElem.1 hd;simp only at hk;rcases(show k=0∨k=1 by omega)with rfl|rfl
 ·exact key _ _ (List.getElem_mem i0) hok.1
 ·exact key _ _ (List.getElem_mem i1) hok.2
theorem kZ4 {x:AgX}(h:AgR x) {adr:Int}{st:Bool}{F:List Frame}(hf:kBg x adr st=some F):∀f∈F,f.name.size≤4194304:=by
 unfold kBg at hf;split at hf
 ·cases hf
 ·obtain⟨k,hk,hk2⟩:=kHr h.sp (a:=adr) (by assumption)
  have h2:=h.len;have hkD:k<x.2.length:=by omega
  rw[hk,Int.toNat_natCast,kKj hkD]at hf;have hd:=h.dbg _ (List.getElem_mem hkD);have hsy:=h.syms _ (List.getElem_mem hkD);generalize x.2[k]=d at *;generalize adr-x.1.2.1.getD k 0=o at *;unfold kDk at hf;split at hf
  ·cases hf
  ·rename_i hc;obtain⟨ks,e1,e2⟩:=k2a (o:=o) (Z:=d.syms) (fun hh=>hc (.inl hh))
   rw[Option.some.injEq]at hf;subst hf;rw[e1,Int.toNat_natCast,k2b e2]
   have hin:∀y∈kEh d.inls o,y.name.size≤4194304:=fun y hy=>by
    unfold kEh at hy;split at hy
    ·exact hd.2.2.2.2 y (List.mem_filter.1 hy).1
    ·cases hy
   obtain⟨q1,q2⟩:=kVw (kEh d.inls o) _ (hsy _ (List.getElem_mem e2)) hin;intro f hm;rcases List.mem_append.1 hm with hm|hm
   ·exact q1 f hm
   ·rw[List.mem_singleton.1 hm];exact q2
theorem kTt {x:AgX}(h:AgR x) (st:Bool):∀(L:List Int) (i:Nat) (F:List Frame),kFi x st i L=some F→∀f∈F,f.name.size≤4194304
 | [],i,F,hf=>by cases hf;intro f hf;cases hf
 |a::r,i,F,hf=>by
  unfold kFi at hf
  cases h1:kFi x st (i+1) r with
  |none=>rw[h1]at hf;cases hf
  |some A =>
   rw[h1]at hf
   cases h2:kBg x (if i=0 then a else a-1) (st&&decide (i=0))with
   |none=>rw[h2]at hf;cases hf
   |some B =>
    rw[h2]at hf;simp only[Option.some.injEq]at hf;subst hf;intro f hm;rcases List.mem_append.1 hm with hm|hm
    ·exact kTt h st r (i+1) A h1 f hm
    ·exact kZ4 h h2 f hm
theorem kY5 {a:AgX}(hp:kFj a) (x:Int×Vw) (st:Bool):∀f∈stL a x st,f.name.size≤1099511627776:=by
 unfold stL
 cases h:kBo a x st with
 |none=>intro f hf;cases hf
 |some F =>
  obtain⟨h1,h2⟩:=kRj h;intro f hf;have:=kTt ⟨hp,h1⟩ st _ 0 F h2 f hf;omega
structure RepI (n0 j:Nat) (r:Rep):Prop where
 ok:kAy r.N r.C=true
 kp:0≤r.kept∧r.kept≤1000000000000+j
 sk:0≤r.skip∧r.skip≤1000000000000+j
 len:r.N.length≤n0+41943080*j
theorem kNj {N:List Node}{C:List Int}(h:kAy N C=true):∀n∈N,n.name.size≤1099511627776:=by
 intro n hn;obtain⟨k,hk,rfl⟩:=List.mem_iff_getElem.1 hn;have hs:=kTu (kCu.1 h).1 k hk
 have:kDw N[k].name=true:=by
  unfold kE8 at hs;simp only[Bool.and_eq_true]at hs;have:=hs.1.2;unfold frOk at this;simp only[Bool.and_eq_true]at this;exact this.1.1
 unfold kDw at this;simp only[Bool.and_eq_true,decide_eq_true_eq]at this;omega
theorem RepI.start {r:Rep}(h:kIb r=true):RepI r.N.length 0 r:=by
 unfold kIb at h;simp only[Bool.and_eq_true,decide_eq_true_eq,beq_iff_eq]at h;obtain⟨⟨h1,h2⟩,h3,h4⟩:=h;have hs:=kG1 h1 r.C.length (Nat.le_refl _);rw[List.take_length]at hs;have:kI2 r.N r.C=r.C.sum:=by unfold kI2;rw[if_pos h1]
 exact⟨h1,by omega,by omega,by omega⟩
theorem RepI.clen {n0 j:Nat}{r:Rep}(h:RepI n0 j r):r.C.length=r.N.length:=(kCu.1 h.ok).2.1
theorem kVx {a:AgX}{st:Bool}{r:Rep}{s:ByteArray}(h:kC2 s=none):kIa a st r s=⟨r.N,r.C,r.kept,r.skip+1⟩:=by unfold kIa;rw[h]
theorem k2c {a:AgX}{st:Bool}{r:Rep}{s:ByteArray}{x:Int×Vw}(h:kC2 s=some x) (h2:kBo a x st=none):kIa a st r s=⟨r.N,r.C,r.kept,r.skip+1⟩:=by unfold kIa;rw[h];simp only;rw[h2]
theorem kY6 {a:AgX}{st:Bool}{r:Rep}{s:ByteArray}{x:Int×Vw}{F:List Frame}(h:kC2 s=some x) (h2:kBo a x st=some F) (h3:(kAp r.N r.C F 1).2=true):kIa a st r s=⟨(kAp r.N r.C F 1).1.1,(kAp r.N r.C F 1).1.2,r.kept+1,r.skip⟩:=by unfold kIa;rw[h];simp only;rw[h2];exact if_pos h3
theorem kY7 {a:AgX}{st:Bool}{r:Rep}{s:ByteArray}{x:Int×Vw}{F:List Frame}(h:kC2 s=some x) (h2:kBo a x st=some F) (h3:(kAp r.N r.C F 1).2=false):kIa a st r s=⟨r.N,r.C,r.kept,r.skip+1⟩:=by unfold kIa;rw[h];simp only;rw[h2];exact if_neg (by rw[h3];simp)
theorem RepI.k8s {n0 j:Nat}{r:Rep}(h:RepI n0 j r):RepI n0 (j+1) ⟨r.N,r.C,r.kept,r.skip+1⟩ :=
 ⟨h.ok,by have:=h.kp;simp only;omega,by have:=h.sk;simp only;omega,by have:=h.len;simp only;omega⟩
theorem RepI.step {n0 j:Nat}{a:AgX}{st:Bool}{r:Rep}{s:ByteArray}(hp:kFj a) (hB:kPv a) (h:RepI n0 j r):RepI n0 (j+1) (kIa a st r s):=by
 cases hd:kC2 s with
 |none=>rw[kVx hd];exact h.k8s
 |some x =>
  cases hs:kBo a x st with
  |none=>rw[k2c hd hs];exact h.k8s
  |some F =>
   cases ha:(kAp r.N r.C F 1).2 with
   |false=>rw[kY7 hd hs ha];exact h.k8s
   |true =>
    rw[kY6 hd hs ha];have h1:=k2d r.N r.C F 1;have h2:F.length≤41943080:=by have:=kXr hp hB x st;rwa [kUk hs]at this
    have h3:=h.len;exact⟨k50 ha,by have:=h.kp;simp only;omega,by have:=h.sk;simp only;omega,by simp only;omega⟩
theorem k2e (a:AgX) (st:Bool) (r:Rep) (s:ByteArray):kIa a st r s=if((kC2 s).isSome&&(kBo a (dsV s) st).isSome&&(kAp r.N r.C (stL a (dsV s) st) 1).2)=true then⟨(kAp r.N r.C (stL a (dsV s) st) 1).1.1,(kAp r.N r.C (stL a (dsV s) st) 1).1.2,r.kept+1,r.skip⟩else⟨r.N,r.C,r.kept,r.skip+1⟩:=by
 cases hd:kC2 s with
 |none=>rw[kVx hd];exact(if_neg (by simp)).symm
 |some x =>
  rw[(kSn hd).1]
  cases hs:kBo a x st with
  |none=>rw[k2c hd hs];exact(if_neg (by simp)).symm
  |some F =>
   rw[kUk hs]
   cases ha:(kAp r.N r.C F 1).2 with
   |false=>rw[kY7 hd hs ha];exact(if_neg (by simp)).symm
   |true=>rw[kY6 hd hs ha];exact(if_pos (by simp)).symm
theorem k6u (s:ByteArray):numV (dsV s).2:=by
 cases hd:kC2 s with
 |none=>rw[(ds_none hd).1];exact⟨by unfold okN kE9;simp,by unfold okN kE9;simp,by unfold okN kE9;simp,by unfold kE9;simp,by unfold kE9;simp⟩
 |some x=>rw[(kSn hd).1];exact(qEo hd).2
theorem k6v:∀(L:List ByteArray),(∀s∈L,s≠⟨#[]⟩)→L.length≤sizS L L.length∧∀s∈L,s.size≤sizS L L.length
 | [],_=>⟨Nat.le_refl _,fun s hs=>nomatch hs⟩
 |x::r,h=>by
  obtain⟨h1,h2⟩:=k6v r (fun s hs=>h s (by simp[hs]))
  have h3:sizS (x::r) (x::r).length=x.size+sizS r r.length:=by simp[sizS]
  have h4:0<x.size:=by
   refine Nat.pos_of_ne_zero fun h0=>h x (by simp) ?_
   obtain⟨⟨l⟩⟩:=x;have:l=[]:=by simpa[ByteArray.size]using h0
   rw[this]
  refine⟨by rw[h3,List.length_cons];omega,fun s hs=>?_⟩
  rw[h3];rcases List.mem_cons.1 hs with rfl|hs
  ·omega
  ·have:=h2 s hs;omega
theorem kK3 {cp wr lo:Int}{R:List ByteArray}(h:kE6 (cp,R,wr,lo)=true):R.length≤100000∧∀s∈R,s.size≤1048576:=by
 have h1:=qEp h
 have h2:∀s∈R,s≠⟨#[]⟩:=by
  unfold kE6 at h;rw[Bool.and_eq_true,List.all_eq_true]at h;exact fun s hs=>of_decide_eq_true (h.1 s hs)
 obtain⟨h3,h4⟩:=k6v R h2;exact⟨by omega,fun s hs=>by have:=h4 s hs;omega⟩
theorem kRk {cp wr lo:Int}{R:List ByteArray}(h:kE6 (cp,R,wr,lo)=true):kGw (cp,R,wr,lo) R.length=((cp,[],wr,lo),R):=by
 unfold kGw;rw[if_pos ⟨h,by omega⟩]
 simp
theorem kLb {x:SeX}(h:kE7 x=true):kE6 x.2.2.1=true:=by
 unfold kE7 at h;simp only[Bool.and_eq_true]at h;exact h.1.2
def colS (s:SeX):SeX:=(s.1,s.2.1,(s.2.2.1.1,[],s.2.2.1.2.2.1,s.2.2.1.2.2.2),s.2.2.2)
theorem kPx {a:AgX}{s:SeX}{r:Rep}{st:Bool}(h:¬(kBn a=true∧kE7 s=true∧kIb r=true)):collect a s r st=(s,r):=if_neg h
theorem kNy {a:AgX}{s:SeX}{r:Rep}{st:Bool}(h:kBn a=true∧kE7 s=true∧kIb r=true):collect a s r st=(colS s,kK2 a st r s.2.2.1.2.1):=by
 unfold collect;rw[if_pos h];have hr:=kLb h.2.1;obtain⟨P,t,⟨cp,R,wr,lo⟩,m⟩:=s;simp only at hr⊢;rw[kRk hr];rfl
theorem RepI.go {n0 j:Nat}{a:AgX}{st:Bool}(hp:kFj a) (hB:kPv a) {L:List ByteArray}:∀{r:Rep},RepI n0 j r→RepI n0 (j+L.length) (kK2 a st r L):=by
 induction L generalizing j with
 |nil=>intro r h;exact h
 |cons s L ih =>
  intro r h;have:=ih (h.step (st:=st) (s:=s) hp hB);rw[List.length_cons,show j+(L.length+1)=j+1+L.length by omega]
  exact this
end Go.Proofs.YtjdklcjoeanimaaGreat

namespace Go.Proofs.YtjdklcjoeanimaaGreat
def szA (n:Nat) (l:Int):Int:=if l-n<0 then -1 else l-n
def szL:List (Int→Int)→Int→Int
 | [],l=>l
 |f::fs,l=>if f l<0 then -1 else szL fs (f l)
theorem kP1 (F:List (Int→Int)) (k:Nat) (l:Int) (h:k<F.length):szL (F.drop k) l=if F[k] l<0 then -1 else szL (F.drop (k+1)) (F[k] l):=by
 rw[List.drop_eq_getElem_cons h];rfl
def kCo (F:List (Int→Int)) (l:Int):Int:=if l-F.length<0 then -1 else szL F (l-F.length)
def Szf (f:Int→Int):Prop:=∀l,0≤l→-1≤f l∧f l≤l
theorem kEu (n:Nat):Szf (szA n):=fun l h=>by unfold szA;split<;>omega
theorem szL_f:∀(F:List (Int→Int)),(∀f∈F,Szf f)→Szf (szL F)
 | [],_,l,h=>by unfold szL;omega
 |f::fs,hF,l,h=>by
  have h1:=hF f List.mem_cons_self l h;unfold szL;split
  ·omega
  ·have:=szL_f fs (fun g hg=>hF g (List.mem_cons_of_mem _ hg)) (f l) (by omega)
   omega
theorem kP2 (F:List (Int→Int)) (hF:∀f∈F,Szf f):Szf (kCo F):=fun l h=>by
 unfold kCo;split
 ·omega
 ·have:=szL_f F hF (l-F.length) (by omega)
  omega
theorem qEv:∀(F:List (Int→Int)) (l:Int),(∀f∈F,Szf f)→0≤l→0≤szL F l→∀f∈F,∃r,0≤r∧r≤l∧0≤f r
 | [],l,_,_,_=>by simp
 |g::fs,l,hF,h0,h=>by
  have h1:=hF g List.mem_cons_self l h0;unfold szL at h;split at h
  ·omega
  ·rename_i hg;intro f hf;rcases List.mem_cons.1 hf with rfl|hf
   ·exact⟨l,h0,by omega,by omega⟩
   ·obtain⟨r,a,b,c⟩:=qEv fs (g l) (fun g hg=>hF g (List.mem_cons_of_mem _ hg)) (by omega) h f hf
    exact⟨r,a,by omega,c⟩
theorem kNk {F:List (Int→Int)}{l:Int}(hF:∀f∈F,Szf f) (h:0≤kCo F l):F.length≤l∧∀f∈F,∃r,0≤r∧r≤l∧0≤f r:=by
 unfold kCo at h;split at h
 ·omega
 ·refine⟨by omega,fun f hf=>?_⟩
  obtain⟨r,a,b,c⟩:=qEv F (l-F.length) hF (by omega) h f hf
  exact⟨r,a,by omega,c⟩
theorem kI4 {f:Int→Int}(hf:Szf f) {l:Int}(h0:0≤l) (h:f l<0):f l=-1:=by have:=hf l h0;omega
def szT (f g:Int→Int) (l:Int):Int:=if f l<0 then -1 else g (f l)
theorem kK5 {f g:Int→Int}(hf:Szf f) (hg:Szf g):Szf (szT f g):=fun l h=>by
 have h1:=hf l h;unfold szT;split
 ·omega
 ·have:=hg (f l) (by omega);omega
theorem kIh {f g:Int→Int}(hf:Szf f) {l:Int}(h0:0≤l) (h:0≤szT f g l):0≤f l∧f l≤l∧0≤g (f l):=by
 have h1:=hf l h0;unfold szT at h;split at h<;>omega
theorem k2n:∀(L:List Nat),Szf (szGo L)
 | [],l,h=>by unfold szGo;omega
 |n::L,l,h=>by
  unfold szGo;split
  ·omega
  ·have:=k2n L (l-n) (by omega);omega
end Go.Proofs.YtjdklcjoeanimaaGreat

namespace Go.Proofs.YtjdklcjoeanimaaGreat
open Go.Vc
attribute [local irreducible] Go.Vc.WP
attribute [local go_sem] kAd kAe
def kEj (k:Int) (n:Nat):List ByteArray:=(List.range n).map fun i:Nat=>markT (k+(i:Int))
theorem kGc (k:Int) (n:Nat):(kEj k n).length=n:=by simp[kEj]
def halfS (L:List ByteArray) (k0:Int) (k:Nat):List ByteArray:=kEj k0 k++L.drop k
theorem qFl (L:List ByteArray) (k0:Int) (k:Nat) (h:k≤L.length):(halfS L k0 k).length=L.length:=by simp[halfS,kGc];omega
theorem qFm (L:List ByteArray) (k0:Int) (k:Nat) (h:k<L.length):((halfS L k0 k).map encS).set k (encS (markT (k0+k)))=(halfS L k0 (k+1)).map encS:=by
 rw[←List.map_set];congr 1;unfold halfS;rw[List.set_append,if_neg (by simp[kGc]),kGc,Nat.sub_self,List.drop_eq_getElem_cons h,List.set_cons_zero]
 simp[kEj,List.range_succ]
section
noncomputable def cxMs:=mkX [(202,kBd)] (COk.cons kJk (COk.nil _))
theorem cxMs_t:cxMs.tys=tys:=rfl
theorem cxMs_c:cxMs.C=[(202,kBd)]:=rfl
attribute [local go_sem] cxMs_t cxMs_c kBd
def kWj:Ctr:=pur (fun args=>(decS (aR args 0),aI args 1)) (fun x=>[.sl 1 (x.1.map encS),.v (.int .i64 x.2)]) (fun x=>x.1.length≤4398046511104∧0≤x.2∧x.2≤500000000000000)
 (fun _ x=>.v (.int .i64 (if x.1=kEj x.2 x.1.length then x.2+x.1.length else -1))) (fun _ _=>[])
theorem cheldS:Cn Tryz.prog 137 kWj:=by
 refine Cn.pur Tryz.func137 (by kernel_rfl) rfl fun d x hx=>?_
 obtain⟨L,k0⟩:=x;obtain⟨hL,h0,h1⟩:=hx;simp only at hL h0 h1⊢;refine Holds.go (c:=cxMs) Tryz.func137 rfl Tryz.results137 Tryz.ntmps137 (by omega) (by simp) rfl ?_
 intro X0 w0
 (repeat' (first|apply zS|apply zB|((first|apply zW| refine zd 7 (h:=?_));simp only[go_sem])|apply And.intro|intro _))
 refine zL (fun k:Nat=>⟨[(0,.sl 1 (L.map encS)),(1,.v (.int .i64 (k0+k))),(5,.v (.int .i64 k))],[]⟩) (fun k=>k≤L.length∧L.take k=kEj k0 k) (fun k=>L.length-k) 0 (by simp[kEj]) ?_ ?_
 ·(simp only[go_sem]<;>(first|(and_intros<;>rfl)|simp))
 intro k ⟨hk,ht⟩;by_cases hlt:k<L.length
 ·have h3:=kAa encS L k hlt
  (repeat' (first|apply zS|apply zB|((first|apply zW| refine zd 7 (h:=?_));simp only[go_sem,h3,encS])|apply And.intro|intro _))
  all_goals first|omega|skip
  ·rename_i hne;rw[if_neg];intro e;apply hne;have e2:L[k]=(kEj k0 L.length)[k]'(by rw[kGc];exact hlt):=by congr 1
   rw[e2];simp[kEj]
  ·rename_i he;refine⟨k+1,⟨by omega,?_⟩,by omega,?_,rfl⟩
   ·rw[List.take_succ_eq_append_getElem hlt,ht,he];simp[kEj,List.range_succ]
   ·rw[show k0+(k:Int)+1=k0+((k+1:Nat):Int)by omega]
 ·(repeat' (first|apply zS|apply zB|((first|apply zW| refine zd 7 (h:=?_));simp only[go_sem])|apply And.intro|intro _))
  all_goals first|omega|skip
  rw[show k=L.length by omega,List.take_length]at ht
  rw[if_pos ht,show k=L.length by omega]
end
end Go.Proofs.YtjdklcjoeanimaaGreat

namespace Go.Proofs.YtjdklcjoeanimaaGreat
open Go.Vc
attribute [local irreducible] Go.Vc.WP
attribute [local go_sem] kAd kAe
attribute [local go_sem] kBe
def kOt (L:List ByteArray):Int→Int:=kCo (L.map fun s=>szA s.size)
def kRy:Ctr:=pur (fun args=>(decS (aR args 0),aI args 1)) (fun x=>[.sl 1 (x.1.map encS),.v (.int .i64 x.2)]) (fun x=>x.1.length≤maxLen∧(∀s∈x.1,s.size≤maxLen)∧0≤x.2∧x.2≤1048576)
 (fun _ x=>.v (.int .i64 (kOt x.1 x.2))) (fun _ _=>[])
section
noncomputable def cxZs:=mkX [] (COk.nil _)
theorem cxZs_t:cxZs.tys=tys:=rfl
theorem cxZs_c:cxZs.C=[]:=rfl
attribute [local go_sem] cxZs_t cxZs_c
theorem cszStr:Cn Tryz.prog 74 kRy:=by
 refine Cn.pur Tryz.func74 (by kernel_rfl) rfl fun d x hx=>?_
 obtain⟨L,left⟩:=x;obtain⟨hL,hs,h0,h1⟩:=hx;simp only at hL hs h0 h1⊢;have hm:maxLen=9223372036854775807:=rfl;generalize hF:(L.map fun s=>szA s.size)=F
 have hlen:F.length=L.length:=by rw[←hF,List.length_map]
 have hsz:kOt L left=kCo F left:=by rw[←hF];rfl
 rw[hsz];refine Holds.go (c:=cxZs) Tryz.func74 rfl Tryz.results74 Tryz.ntmps74 (by omega) (by simp) rfl ?_
 intro X0 w0
 (repeat' (first|apply zS|apply zB|(apply zW;simp only[go_sem])|apply And.intro|intro _))
 all_goals first|omega|skip
 ·rename_i h;rw[kCo,hlen,if_pos h]
 rename_i hge
 refine zL (fun s:Nat×Int=>⟨[(0,.sl 1 (L.map encS)),(1,.v (.int .i64 s.2)),(5,.v (.int .i64 s.1))],[]⟩)
  (fun s=>s.1≤L.length∧0≤s.2∧s.2≤1048576∧kCo F left=szL (F.drop s.1) s.2) (fun s=>L.length-s.1) (0,left-L.length)
  ⟨by simp,by simpa using hge,by simp only;omega,by rw[kCo,hlen,if_neg (by omega)];rfl⟩ ?_ ?_
 ·simp only[go_sem];first|exact⟨rfl,rfl⟩|rfl
 rintro⟨k,r⟩ ⟨hk,hr0,hr1,he⟩;simp only at hk hr0 hr1 he⊢;by_cases hlt:k<L.length
 ·have h2:=kAa encS L k hlt;have h3:=hs _ (List.getElem_mem hlt);have hFk:F[k]'(by omega)=szA L[k].size:=by subst hF;simp
  have h4:=kP1 F k r (by omega)
  rw[hFk]at h4;have hu:szA L[k].size r=if r-(L[k].size:Int)<0 then -1 else r-(L[k].size:Int):=rfl
  by_cases h5:r-(L[k].size:Int)<0
  ·rw[if_pos h5]at hu;rw[he,h4,hu,if_pos (by omega)]
   (repeat' (first|apply zS|apply zB|(apply zW;simp only[go_sem,h2,encS,h5])|apply And.intro|intro _))
   all_goals first|omega|skip
  ·rw[if_neg h5]at hu;rw[hu,if_neg h5]at h4
   (repeat' (first|apply zS|apply zB|(apply zW;simp only[go_sem,h2,encS,h5])|apply And.intro|intro _))
   all_goals first|omega|exact⟨(k+1,r-L[k].size),⟨by simp only;omega,by simp only;omega,by simp only;omega,by rw[he,h4]⟩,by simp only;omega,rfl,rfl⟩|skip
 ·(repeat' (first|apply zS|apply zB|(apply zW;simp only[go_sem])|apply And.intro|intro _))
  all_goals first|omega|skip
  rw[he,List.drop_of_length_le (by omega)]
  rfl
end
def kWi:Ctr:=pur (fun args=>decS (aR args 0)) (fun L=>[.sl 1 (L.map encS)]) (fun L=>L.length≤2097152) (fun d _=>.own d) (fun d L=>[(d,.sl 9 1 (L.map encS))])
section
noncomputable def qCq:=mkX [] (COk.nil _)
theorem qSw:qCq.tys=tys:=rfl
theorem qSx:qCq.C=[]:=rfl
attribute [local go_sem] qSw qSx
theorem ctoSo:Cn Tryz.prog 98 kWi:=by
 refine Cn.pur Tryz.func98 (by kernel_rfl) rfl fun d x hx=>?_
 rename List ByteArray=>L
 refine Holds.go (c:=qCq) Tryz.func98 rfl Tryz.results98 Tryz.ntmps98 (by omega) (by simp) rfl ?_
 intro X0 w0
 (repeat' (first|apply zS|apply zB|(apply zW;simp only[go_sem])|apply And.intro|intro _))
 all_goals first|omega|skip
 refine zL (fun k:Nat=>⟨[(0,.sl 1 (L.map encS)),(3,.own 7),(4,.v (.int .i64 k))],[(7,.sl 9 1 (filled encS [.v (.string ⟨#[]⟩)] L k))]⟩) (fun k=>k≤L.length) (fun k=>L.length-k) 0 (by omega) ?_ ?_
 ·rw[kDq];simp only[go_sem];rfl
 intro k hk;by_cases hlt:k<L.length
 ·have h1:=kAa encS L k hlt;have h2:=kA8 encS [.v (.string ⟨#[]⟩)] L k hk;have h3:=kEa encS [.v (.string ⟨#[]⟩)] L k hlt;have h4:=kEb encS [.v (.string ⟨#[]⟩)] L k hlt;rw[encS]at h4
  (repeat' (first|apply zS|apply zB|(apply zW;simp only[go_sem,h1,h2,h3,h4,encS])|apply And.intro|intro _))
  all_goals first|omega|skip
  exact⟨k+1,by omega,by omega,rfl,rfl⟩
 ·have h2:=kA8 encS [.v (.string ⟨#[]⟩)] L k hk;have h5:filled encS [.v (.string ⟨#[]⟩)] L k=L.map encS:=by rw[show k=L.length by omega];exact kD9 _ _ _
  (repeat' (first|apply zS|apply zB|(apply zW;simp only[go_sem,h2,h5])|apply And.intro|intro _))
  all_goals first|omega|skip
end
def kOs:Ctr:=len [0] [] (fun args obs=>(decS (oR obs 1000000),aI args 1,oE obs 1000000)) (fun x=>[.own 1000000,.v (.int .i64 x.2.1)]) (fun x=>[(1000000,.sl x.2.2 1 (x.1.map encS))]) (fun x=>x.1.length≤4398046511104∧0≤x.2.1∧x.2.1≤500000000000000)
 (fun _ x=>.v (.int .i64 (x.2.1+x.1.length))) (fun _ _=>[]) (fun x=>[(1000000,.sl x.2.2 1 ((kEj x.2.1 x.1.length).map encS))])
section
noncomputable def qCr:=mkX [(202,kBd)] (COk.cons kJk (COk.nil _))
theorem qSy:qCr.tys=tys:=rfl
theorem qSz:qCr.C=[(202,kBd)]:=rfl
attribute [local go_sem] qSy qSz kBd
theorem qQa:Cn Tryz.prog 133 kOs:=by
 refine Cn.len Tryz.func133 (by kernel_rfl) rfl fun d x hd hx=>?_
 obtain⟨L,k0,ee⟩:=x;obtain⟨hL,h0,h1⟩:=hx;simp only at hL h0 h1⊢;refine kBj.go (c:=qCr) Tryz.func133 rfl Tryz.results133 Tryz.ntmps133 (by omega) (by simp) rfl (by simp<;>omega) (by simp[SV.kAv,SV.owns,SV.kAn]) (by simp) rfl rfl (by simp) ?_
 intro X0 M w0
 (repeat' (first|apply zS|apply zB|(apply zW;simp only[go_sem])|apply And.intro|intro _))
 refine zL (fun k:Nat=>⟨[(0,.own 1000000),(1,.v (.int .i64 (k0+k))),(5,.v (.int .i64 k))],[(1000000,.sl ee 1 ((halfS L k0 k).map encS))]⟩) (fun k=>k≤L.length) (fun k=>L.length-k) 0 (by omega) ?_ ?_
 ·have e:halfS L k0 0=L:=by simp[halfS,kEj]
  rw[e];(simp only[go_sem]<;>(first|(and_intros<;>rfl)|simp))
 intro k hk;have h2:=qFl L k0 k hk;by_cases hlt:k<L.length
 ·have h3:=qFm L k0 k hlt;rw[encS]at h3;have h4:=kAa encS (halfS L k0 k) k (by omega)
  (repeat' (first|apply zS|apply zB|(apply zW;simp only[go_sem,h2,h3,h4,encS])|apply And.intro|intro _))
  all_goals first|omega|skip
  refine⟨k+1,by omega,by omega,⟨?_,rfl⟩,rfl⟩
  rw[show k0+(k:Int)+1=k0+((k+1:Nat):Int)by omega]
 ·have h5:halfS L k0 k=kEj k0 L.length:=by rw[show k=L.length by omega];simp[halfS]
  have h6:=kGc k0 L.length
  (repeat' (first|apply zS|apply zB|(apply zW;simp only[go_sem,h2,h5,h6])|apply And.intro|intro _))
  all_goals first|omega|skip
  rw[show k=L.length by omega]
end
end Go.Proofs.YtjdklcjoeanimaaGreat

namespace Go.Proofs.YtjdklcjoeanimaaGreat
open Go.Vc
attribute [local irreducible] Go.Vc.WP
attribute [local go_sem] kAd kAe
open Go.Pl
attribute [local go_sem] kAf kAg spA kBe kBc kBq kCn pcA rgA seA kAj
theorem kIi (Y:List Symbol):Szf (kCl Y):=fun l h=>by
 unfold kCl;split
 ·omega
 ·have:=k2n (kDs Y) (l-Y.length) (by omega);omega
theorem kQt {L:List Symbol}{l:Int}(h:0≤kCl L l):L.length≤l∧∀x∈L,x.name.size≤l:=by
 unfold kCl at h;split at h
 ·omega
 ·rename_i h2;refine⟨by omega,fun x hx=>?_⟩
  have:=kSt (kDs L) _ (by omega) h x.name.size (List.mem_map.2 ⟨x,hx,rfl⟩)
  omega
def kQk:Ctr:=pur (fun args=>(decI (aR args 0),aI args 1)) (fun x=>[.sl 1 (x.1.map encI),.v (.int .i64 x.2)]) (fun x=>x.1.length≤maxLen∧0≤x.2∧x.2≤1048576)
 (fun _ x=>.v (.int .i64 (szA x.1.length x.2))) (fun _ _=>[])
section
noncomputable def cxZi:=mkX [] (COk.nil _)
theorem cxZi_t:cxZi.tys=tys:=rfl
theorem cxZi_c:cxZi.C=[]:=rfl
attribute [local go_sem] cxZi_t cxZi_c
theorem cszIn:Cn Tryz.prog 71 kQk:=by
 refine Cn.pur Tryz.func71 (by kernel_rfl) rfl fun d x hx=>?_
 obtain⟨L,left⟩:=x;obtain⟨hL,h0,h1⟩:=hx;simp only at hL h0 h1⊢;have hm:maxLen=9223372036854775807:=rfl;refine Holds.go (c:=cxZi) Tryz.func71 rfl Tryz.results71 Tryz.ntmps71 (by omega) (by simp) rfl ?_
 intro X0 w0
 (repeat' (first|apply zS|apply zB|(apply zW;simp only[go_sem])|apply And.intro|intro _))
 all_goals first|omega|skip
 ·rename_i h;rw[szA,if_pos h]
 ·rename_i h;rw[szA,if_neg (by omega)]
end
def kJ0 (x:Image):Int→Int:=szT (szA x.code.size) (kCl x.symbols)
def bigImg (x:Image):Prop:=x.code.size≤maxLen∧x.symbols.length≤maxLen∧∀r∈x.symbols,r.name.size≤maxLen
theorem kU0 (x:Image):Szf (kJ0 x):=kK5 (kEu _) (kIi _)
def kWy:Ctr:=pur (fun args=>(kBl (aC args 0),aI args 1)) (fun x=>[.agg [.v (.string x.1.code),.sl 3 (x.1.symbols.map encSymbol)],.v (.int .i64 x.2)]) (fun x=>bigImg x.1∧0≤x.2∧x.2≤1048576)
 (fun _ x=>.v (.int .i64 (kJ0 x.1 x.2))) (fun _ _=>[])
section
attribute [local go_sem] kBl
noncomputable def cxZm:=mkX [(143,kH8)] (COk.cons kVr (COk.nil _))
theorem cxZm_t:cxZm.tys=tys:=rfl
theorem cxZm_c:cxZm.C=[(143,kH8)]:=rfl
attribute [local go_sem] cxZm_t cxZm_c kH8
theorem cszImg:Cn Tryz.prog 142 kWy:=by
 refine Cn.pur Tryz.func142 (by kernel_rfl) rfl fun d x hx=>?_
 obtain⟨⟨c,Y⟩,left⟩:=x;obtain⟨⟨hc,hY,hn⟩,h0,h1⟩:=hx;simp only at hc hY hn h0 h1⊢;have hm:maxLen=9223372036854775807:=rfl;have hu:kJ0 ⟨c,Y⟩ left=if szA c.size left<0 then -1 else kCl Y (szA c.size left):=rfl
 have ha:szA c.size left=if left-(c.size:Int)<0 then -1 else left-(c.size:Int):=rfl
 refine Holds.go (c:=cxZm) Tryz.func142 rfl Tryz.results142 Tryz.ntmps142 (by omega) (by simp) rfl ?_
 intro X0 w0;by_cases h5:left-(c.size:Int)<0
 ·rw[if_pos h5]at ha;rw[hu,ha,if_pos (by omega)]
  (repeat' (first|apply zS|apply zB|(apply zW;simp only[go_sem,h5])|apply And.intro|intro _))
  all_goals first|omega|skip
 ·rw[if_neg h5]at ha;rw[hu,ha,if_neg h5]
  (repeat' (first|apply zS|apply zB|(apply zW;simp only[go_sem,h5])|apply And.intro|intro _))
  all_goals first|omega|exact hn _ ‹_›|skip
  all_goals first|(rename_i h;exact(by rw[kI4 (kIi Y) (by omega) h]))|skip
end
end Go.Proofs.YtjdklcjoeanimaaGreat

