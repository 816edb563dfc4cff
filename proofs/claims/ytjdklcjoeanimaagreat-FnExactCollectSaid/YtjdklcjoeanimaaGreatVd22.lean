/-
  DERIVED. Several texts of ours in one: VtPrf2, VpCol, VpStO, VpDv, VpDv2.
-/
import Derived.Test.YtjdklcjoeanimaaGreatVd6
import Derived.Test.YtjdklcjoeanimaaGreatVd14
import Derived.Test.YtjdklcjoeanimaaGreatVd19
import Derived.Test.YtjdklcjoeanimaaGreatVd20
import Derived.Test.YtjdklcjoeanimaaGreatVd21
set_option linter.unusedSimpArgs false
set_option linter.unusedVariables false
set_option maxHeartbeats 1000000
set_option maxRecDepth 10000
namespace Go.Proofs.YtjdklcjoeanimaaGreat
open Go.Vc
attribute [local irreducible] Go.Vc.WP
attribute [local go_sem] kAd kAe
attribute [local go_sem] kCg kCd kBt stkA kCv kCw kAf prA
theorem padC (C:List Int) (j:Nat):(C++List.replicate j 0).map encI++[[SV.v (.int .i64 0)]]=(C++List.replicate (j+1) 0).map encI:=by
 rw[List.replicate_succ',←List.append_assoc,List.map_append (l₂:=[0])];rfl
theorem k4e {C:List Int}{m k:Nat}(hk:k<C.length+m) (h0:∀x∈C,0≤x∧x≤1000000000000):0≤(C++List.replicate m 0).getD k 0∧(C++List.replicate m 0).getD k 0≤1000000000000:=by
 rw[List.getD_eq_getElem?_getD,List.getElem?_append];split
 ·rename_i h;rw[List.getElem?_eq_getElem h];exact h0 _ (List.getElem_mem h)
 ·rename_i h;rw[List.getElem?_replicate,if_pos (by omega)];simp
def kI8:Ctr:=pur (fun args=>(prA args 0,kKd (aR args 1),aI args 2)) (fun x=>[.agg [.sl 3 (x.1.1.map kAb),.sl 1 (x.1.2.map encI)],.sl 2 (x.2.1.map kAc),.v (.int .i64 x.2.2)])
 (fun x=>(x.1.1.length+x.2.1.length≤4398046511104∧(∀n∈x.1.1,n.name.size≤1099511627776)∧x.1.2.length≤4398046511104)∧∀f∈x.2.1,f.name.size≤1099511627776)
 (fun d x=>.tup [.agg [.own d,.own (d+1000)],.v (.bool (kAp x.1.1 x.1.2 x.2.1 x.2.2).2)]) (fun d x=>[(d,.sl 231 3 ((kAp x.1.1 x.1.2 x.2.1 x.2.2).1.1.map kAb)),(d+1000,.sl 3 1 ((kAp x.1.1 x.1.2 x.2.1 x.2.2).1.2.map encI))])
theorem addNo {N:List Node}{C:List Int}{L:List Frame}{n:Int}(h:kAy N C=false∨n<0∨1000000000000<n∨(intern N L).2<0):kAp N C L n=((N,C),false):=by
 unfold kAp;rw[if_neg];rintro⟨h1,h2,h3,h4,_⟩;rcases h with h|h|h|h
 ·rw[h1]at h;cases h
 ·omega
 ·omega
 ·omega
section
noncomputable def qAr:=mkX [(84,kEw),(66,k60),(78,kEx),(93,kJc)] (COk.cons k36 (COk.cons c58 (COk.cons k4c (COk.cons qIo (COk.nil _)))))
theorem qOs:qAr.tys=tys:=rfl
theorem qOt:qAr.C=[(84,kEw),(66,k60),(78,kEx),(93,kJc)]:=rfl
attribute [local go_sem] qOs qOt kEw k60 kEx kJc
theorem k9k:Cn Tryz.prog 36 kI8:=by
 refine Cn.pur Tryz.func36 (by kernel_rfl) rfl fun d x hx=>?_
 obtain⟨⟨N,C⟩,L,n⟩:=x;obtain⟨⟨hN,hs,hC⟩,hL⟩:=hx;simp only at hN hs hC hL⊢;have hil:=kP0 N L;have hia:=kZd N L;have hin:=kRr (B:=1099511627776) hs hL;have hadd:kAy N C=false∨n<0∨1000000000000<n∨(intern N L).2<0→kAp N C L n=((N,C),false):=addNo
 have hyes:kAy N C=true→0≤n→n≤1000000000000→0≤(intern N L).2→kAp N C L n=if kAy (intern N L).1 (addC C (intern N L).1.length (intern N L).2.toNat n)=true then(((intern N L).1,addC C (intern N L).1.length (intern N L).2.toNat n),true)else((N,C),false):=fun h1 h2 h3 h4=>by
  unfold kAp;by_cases hp:kAy (intern N L).1 (addC C (intern N L).1.length (intern N L).2.toNat n)=true
  ·rw[if_pos hp,if_pos ⟨h1,h2,h3,h4,hp⟩]
  ·rw[if_neg hp,if_neg fun hc=>hp hc.2.2.2.2]
 generalize hI:intern N L=I at *;obtain⟨M,at'⟩:=I;simp only at hil hia hin hadd hyes;generalize hA:kAp N C L n=A at *;refine Holds.go (c:=qAr) Tryz.func36 rfl Tryz.results36 Tryz.ntmps36 (by omega) (by simp) rfl ?_
 intro X0 w0
 (repeat' (first|apply zS|apply zB|((first|apply zW| refine zd 10 (h:=?_));simp only[go_sem,hI])|apply And.intro|intro _))
 all_goals first|omega|(simp only;omega)|exact hs _ ‹_›|exact hL _ ‹_›|exact⟨_,_,_,rfl⟩|exact⟨_,_,rfl,_,_,rfl,rfl⟩|skip
 iterate 3
  ·rename_i h;have e:=hadd (h.elim .inl fun h=>.inr (h.elim .inl fun h=>.inr (.inl h)))
   subst e
   first|rfl|exact if_neg (by omega)
 iterate 3
  ·rename_i h1 h;have e:=hadd (.inr (.inr (.inr h)));subst e
   first|rfl|exact if_neg (by omega)
 rename_i h h0;obtain⟨hpo,hn0,hn1⟩:=h;have hy:=hyes hpo hn0 hn1 (by omega)
 obtain⟨_,hlen,hcnt⟩:=kCu.1 hpo
 have hpos:∀x∈C,0≤x∧x≤1000000000000:=fun x hx=>by
  obtain⟨j,hj,rfl⟩:=List.mem_iff_getElem.1 hx;have h1:=kKm hcnt j hj;have h2:=kG1 hpo j (by omega)
  omega
 refine zL (fun j:Nat=>⟨[(2,.v (.int .i64 n)),(3,.ptr 3 0 0 0),(6,.ptr 6 0 0 0),(8,.ptr 8 0 0 0),(9,.ptr 9 0 0 0),(10,.v (.int .i64 at'))],
  [(3,.box 63 [.sl 3 (N.map kAb),.sl 1 (C.map encI)]),(6,.box 63 [.v (.slice none 0 0),.v (.slice none 0 0)]),(8,.box 63 [.own 27,.own 1022]),(9,.box 61 [.own 27]),(27,.sl 231 3 (M.map kAb)),(1022,.sl 3 1 ((C++List.replicate j 0).map encI))]⟩)
  (fun j=>C.length+j≤M.length) (fun j=>M.length-j) 0 (by omega) ?_ ?_
 ·have e0:C++List.replicate 0 0=C:=by simp
  (simp only[go_sem,e0]<;>(first|(and_intros<;>rfl)|simp))
 intro j hj;have hcl:(C++List.replicate j (0:Int)).length=C.length+j:=by simp
 by_cases hlt:C.length+j<M.length
 ·have hpad:=padC C j
  (repeat' (first|apply zS|apply zB|((first|apply zW| refine zd 10 (h:=?_));simp only[go_sem,hcl,hpad])|apply And.intro|intro _))
  all_goals first|omega|exact rlI ‹_›|exact⟨_,_,_,rfl⟩|exact⟨_,_,rfl,_,_,rfl,rfl⟩|skip
  all_goals exact⟨j+1,by omega,by omega,by(first|(and_intros<;>rfl)|simp)⟩
 ·have hj2:j=M.length-C.length:=by omega
  have hk:at'.toNat<(C++List.replicate j (0:Int)).length:=by omega
  have h1:=kAa encI (C++List.replicate j 0) at'.toNat hk;have hb:=k4e (C:=C) (m:=j) (k:=at'.toNat) (by omega) hpos
  have hg:(C++List.replicate j (0:Int))[at'.toNat]=(C++List.replicate j 0).getD at'.toNat 0:=by rw[List.getD_eq_getElem?_getD,List.getElem?_eq_getElem hk];rfl
  rw[hg]at h1;have hset:addC C M.length at'.toNat n=(C++List.replicate j 0).set at'.toNat ((C++List.replicate j 0).getD at'.toNat 0+n):=by rw[hj2];rfl
  have hal:=kUo C M.length at'.toNat n;rw[hset]at hy hal;generalize(C++List.replicate j (0:Int)).getD at'.toNat 0=v at *;have hse:((C++List.replicate j 0).map encI).set at'.toNat [SV.v (.int .i64 (v+n))]=((C++List.replicate j 0).set at'.toNat (v+n)).map encI:=by rw[List.map_set];rfl
  generalize(C++List.replicate j (0:Int)).set at'.toNat (v+n)=D at *
  (repeat' (first|apply zS|apply zB|((first|apply zW| refine zd 10 (h:=?_));simp only[go_sem,hcl,h1,hse,encI])|apply And.intro|intro _))
  all_goals first|omega|(simp only;omega)|exact hin _ ‹_›|exact⟨_,_,_,rfl⟩|exact⟨_,_,rfl,_,_,rfl,rfl⟩|skip
  iterate 3
   ·rename_i h8 hf;have e:A=((N,C),false):=by rw[hy,if_neg (by rw[hf];simp)]
    subst e
    first|rfl|exact if_neg (by omega)
  iterate 3
   ·rename_i h8 hf;have e:A=((M,D),true):=by rw[hy,if_pos hf]
    subst e
    first|rfl|exact if_neg (by omega)
end
section
noncomputable def qAs:=mkX [(109,kEw),(68,k60),(102,kEx),(119,kJc)] (COk.cons k4b (COk.cons c60 (COk.cons k4d (COk.cons qIp (COk.nil _)))))
theorem qOu:qAs.tys=tys:=rfl
theorem qOv:qAs.C=[(109,kEw),(68,k60),(102,kEx),(119,kJc)]:=rfl
attribute [local go_sem] qOu qOv kEw k60 kEx kJc
theorem k9i:Cn Tryz.prog 51 kI8:=by
 refine Cn.pur Tryz.func51 (by kernel_rfl) rfl fun d x hx=>?_
 obtain⟨⟨N,C⟩,L,n⟩:=x;obtain⟨⟨hN,hs,hC⟩,hL⟩:=hx;simp only at hN hs hC hL⊢;have hil:=kP0 N L;have hia:=kZd N L;have hin:=kRr (B:=1099511627776) hs hL;have hadd:kAy N C=false∨n<0∨1000000000000<n∨(intern N L).2<0→kAp N C L n=((N,C),false):=addNo
 have hyes:kAy N C=true→0≤n→n≤1000000000000→0≤(intern N L).2→kAp N C L n=if kAy (intern N L).1 (addC C (intern N L).1.length (intern N L).2.toNat n)=true then(((intern N L).1,addC C (intern N L).1.length (intern N L).2.toNat n),true)else((N,C),false):=fun h1 h2 h3 h4=>by
  unfold kAp;by_cases hp:kAy (intern N L).1 (addC C (intern N L).1.length (intern N L).2.toNat n)=true
  ·rw[if_pos hp,if_pos ⟨h1,h2,h3,h4,hp⟩]
  ·rw[if_neg hp,if_neg fun hc=>hp hc.2.2.2.2]
 generalize hI:intern N L=I at *;obtain⟨M,at'⟩:=I;simp only at hil hia hin hadd hyes;generalize hA:kAp N C L n=A at *;refine Holds.go (c:=qAs) Tryz.func51 rfl Tryz.results51 Tryz.ntmps51 (by omega) (by simp) rfl ?_
 intro X0 w0
 (repeat' (first|apply zS|apply zB|(apply zW;simp only[go_sem,hI])|apply And.intro|intro _))
 all_goals first|omega|(simp only;omega)|exact hs _ ‹_›|exact hL _ ‹_›|exact⟨_,_,_,rfl⟩|exact⟨_,_,rfl,_,_,rfl,rfl⟩|skip
 iterate 3
  ·rename_i h;have e:=hadd (h.elim .inl fun h=>.inr (h.elim .inl fun h=>.inr (.inl h)))
   subst e
   first|rfl|exact if_neg (by omega)
 iterate 3
  ·rename_i h1 h;have e:=hadd (.inr (.inr (.inr h)));subst e
   first|rfl|exact if_neg (by omega)
 rename_i h h0;obtain⟨hpo,hn0,hn1⟩:=h;have hy:=hyes hpo hn0 hn1 (by omega)
 obtain⟨_,hlen,hcnt⟩:=kCu.1 hpo
 have hpos:∀x∈C,0≤x∧x≤1000000000000:=fun x hx=>by
  obtain⟨j,hj,rfl⟩:=List.mem_iff_getElem.1 hx;have h1:=kKm hcnt j hj;have h2:=kG1 hpo j (by omega)
  omega
 refine zL (fun j:Nat=>⟨[(2,.v (.int .i64 n)),(3,.ptr 3 0 0 0),(6,.ptr 6 0 0 0),(8,.ptr 8 0 0 0),(9,.ptr 9 0 0 0),(10,.v (.int .i64 at'))],
  [(3,.box 63 [.sl 3 (N.map kAb),.sl 1 (C.map encI)]),(6,.box 63 [.v (.slice none 0 0),.v (.slice none 0 0)]),(8,.box 63 [.own 27,.own 1022]),(9,.box 61 [.own 27]),(27,.sl 231 3 (M.map kAb)),(1022,.sl 3 1 ((C++List.replicate j 0).map encI))]⟩)
  (fun j=>C.length+j≤M.length) (fun j=>M.length-j) 0 (by omega) ?_ ?_
 ·have e0:C++List.replicate 0 0=C:=by simp
  (simp only[go_sem,e0]<;>(first|(and_intros<;>rfl)|simp))
 intro j hj;have hcl:(C++List.replicate j (0:Int)).length=C.length+j:=by simp
 by_cases hlt:C.length+j<M.length
 ·have hpad:=padC C j
  (repeat' (first|apply zS|apply zB|(apply zW;simp only[go_sem,hcl,hpad])|apply And.intro|intro _))
  all_goals first|omega|exact rlI ‹_›|exact⟨_,_,_,rfl⟩|exact⟨_,_,rfl,_,_,rfl,rfl⟩|skip
  all_goals exact⟨j+1,by omega,by omega,by(first|(and_intros<;>rfl)|simp)⟩
 ·have hj2:j=M.length-C.length:=by omega
  have hk:at'.toNat<(C++List.replicate j (0:Int)).length:=by omega
  have h1:=kAa encI (C++List.replicate j 0) at'.toNat hk;have hb:=k4e (C:=C) (m:=j) (k:=at'.toNat) (by omega) hpos
  have hg:(C++List.replicate j (0:Int))[at'.toNat]=(C++List.replicate j 0).getD at'.toNat 0:=by rw[List.getD_eq_getElem?_getD,List.getElem?_eq_getElem hk];rfl
  rw[hg]at h1;have hset:addC C M.length at'.toNat n=(C++List.replicate j 0).set at'.toNat ((C++List.replicate j 0).getD at'.toNat 0+n):=by rw[hj2];rfl
  have hal:=kUo C M.length at'.toNat n;rw[hset]at hy hal;generalize(C++List.replicate j (0:Int)).getD at'.toNat 0=v at *;have hse:((C++List.replicate j 0).map encI).set at'.toNat [SV.v (.int .i64 (v+n))]=((C++List.replicate j 0).set at'.toNat (v+n)).map encI:=by rw[List.map_set];rfl
  generalize(C++List.replicate j (0:Int)).set at'.toNat (v+n)=D at *
  (repeat' (first|apply zS|apply zB|(apply zW;simp only[go_sem,hcl,h1,hse,encI])|apply And.intro|intro _))
  all_goals first|omega|(simp only;omega)|exact hin _ ‹_›|exact⟨_,_,_,rfl⟩|exact⟨_,_,rfl,_,_,rfl,rfl⟩|skip
  iterate 3
   ·rename_i h8 hf;have e:A=((N,C),false):=by rw[hy,if_neg (by rw[hf];simp)]
    subst e
    first|rfl|exact if_neg (by omega)
  iterate 3
   ·rename_i h8 hf;have e:A=((M,D),true):=by rw[hy,if_pos hf]
    subst e
    first|rfl|exact if_neg (by omega)
end
end Go.Proofs.YtjdklcjoeanimaaGreat

namespace Go.Proofs.YtjdklcjoeanimaaGreat
open Go.Vc
def b7 (s:ByteArray) (i:Nat):Int:=((s[i]!).toNat:Int)%128
def kFz (s:ByteArray) (a:Nat):Nat→Int
 | 0=>0
 |k+1=>kFz s a k+b7 s (a+k)*128 ^ k
theorem b7_bd (s:ByteArray) (i:Nat):0≤b7 s i∧b7 s i≤127:=by unfold b7;omega
theorem kIx (s:ByteArray) (a:Nat):∀k,0≤kFz s a k∧kFz s a k<128 ^ k
 | 0=>by unfold kFz;omega
 |k+1=>by
  obtain⟨h1,h2⟩:=kIx s a k;obtain⟨h3,h4⟩:=b7_bd s (a+k);have hp:(0:Int)<128 ^ k:=Int.pow_pos (by omega)
  unfold kFz;rw[Int.pow_succ];have h5:b7 s (a+k)*128 ^ k≤127*128 ^ k:=Int.mul_le_mul_of_nonneg_right h4 (by omega)
  have h6:0≤b7 s (a+k)*128 ^ k:=Int.mul_nonneg h3 (by omega)
  omega
def dvGo (s:ByteArray) (a:Nat):Nat→Nat→Option (Int×Nat)
 | _,0=>none
 |k,f+1=>if a+k<s.size then(if(s[a+k]!).toNat<128 then(if varint (kFz s a (k+1))=s.extract a (a+k+1)then some (kFz s a (k+1),k+1)else none)else dvGo s a (k+1) f)else none
def decV (s:ByteArray) (a:Int):Option (Int×Nat):=if 0≤a then dvGo s a.toNat 0 6 else none
theorem k6s {s:ByteArray}{a:Nat}{n:Int}{m:Nat}:∀{f k:Nat},dvGo s a k f=some (n,m)→k+f≤6→0≤n∧n<4398046511104∧1≤m∧m≤6∧a+m≤s.size
 | 0,k,h,_=>by cases h
 |f+1,k,h,hk=>by
  unfold dvGo at h;split at h
  ·split at h
   ·split at h
    ·simp only[Option.some.injEq,Prod.mk.injEq]at h;obtain⟨rfl,rfl⟩:=h;obtain⟨h1,h2⟩:=kIx s a (k+1)
     have h3:(128:Int) ^ (k+1)≤4398046511104:=by
      have hc:k=0∨k=1∨k=2∨k=3∨k=4∨k=5:=by omega
      rcases hc with rfl|rfl|rfl|rfl|rfl|rfl<;>decide
     omega
    ·cases h
   ·exact k6s h (by omega)
  ·cases h
theorem k6t {s:ByteArray}{a:Int}{n:Int}{m:Nat}(h:decV s a=some (n,m)):0≤a∧0≤n∧n<4398046511104∧1≤m∧m≤6∧a+m≤s.size:=by
 unfold decV at h;split at h
 ·have:=k6s h (by omega);omega
 ·cases h
def sgd (n:Int):Int:=if 0≤n∧n≤1099511627775 then(if n.tmod 2=0 then n.tdiv 2 else -(n.tdiv 2)-1)else 0
def upGo (s:ByteArray) (a:Int):Nat→Int→Option (List Int×Int)
 | 0,size=>some ([],size)
 |n+1,size=>match decV s (a+size)with
  |none=>none
  |some (v,m)=>match upGo s a n (size+m)with
   |none=>none
   |some (L,z)=>some (sgd v::L,z)
def unpack (s:ByteArray) (a:Int):Option (List Int×Int):=match decV s a with
 |none=>none
 |some (n,m)=>upGo s a n.toNat m
theorem kSm {s:ByteArray}{a:Int}:∀{n:Nat}{size:Int}{L:List Int}{z:Int},upGo s a n size=some (L,z)→L.length=n∧size+n≤z∧(0<n→a+z≤s.size)∧(n=0→z=size)
 | 0,size,L,z,h=>by
  simp only[upGo,Option.some.injEq,Prod.mk.injEq]at h;obtain⟨rfl,rfl⟩:=h
  simp
 |n+1,size,L,z,h=>by
  unfold upGo at h
  cases hd:decV s (a+size)with
  |none=>rw[hd]at h;cases h
  |some q =>
   obtain⟨v,m⟩:=q;rw[hd]at h;simp only at h
   cases hu:upGo s a n (size+m)with
   |none=>rw[hu]at h;cases h
   |some q2 =>
    obtain⟨L2,z2⟩:=q2;rw[hu]at h;simp only[Option.some.injEq,Prod.mk.injEq]at h;obtain⟨rfl,rfl⟩:=h;obtain⟨h1,h2,h3,h4⟩:=kSm hu;have:=k6t hd;refine⟨by rw[List.length_cons,h1],by push_cast;omega,fun _=>?_,fun h=>by omega⟩
    rcases Nat.eq_zero_or_pos n with h0|h0
    ·have:=h4 h0;omega
    ·exact h3 h0
def kC2 (s:ByteArray):Option (Int×Vw):=match decV s 0 with
 |none=>none
 |some (t,a)=>match unpack s a with
  |some (p::q::f::w,_)=>if kGg (t,⟨p,q,f,w⟩)=s then some (t,⟨p,q,f,w⟩)else none
  | _=>none
def kGw (x:RgX) (n:Int):RgX×List ByteArray:=if kE6 x=true∧0≤n then((x.1,x.2.1.drop (min n x.2.1.length).toNat,x.2.2.1,x.2.2.2),x.2.1.take (min n x.2.1.length).toNat)else(x,[])
def kIa (a:AgX) (starts:Bool) (r:Rep) (s:ByteArray):Rep:=match kC2 s with
 |none=>⟨r.N,r.C,r.kept,r.skip+1⟩
 |some x=>match kBo a x starts with
  |none=>⟨r.N,r.C,r.kept,r.skip+1⟩
  |some F=>if(kAp r.N r.C F 1).2=true then⟨(kAp r.N r.C F 1).1.1,(kAp r.N r.C F 1).1.2,r.kept+1,r.skip⟩else⟨r.N,r.C,r.kept,r.skip+1⟩
def kK2 (a:AgX) (starts:Bool) (r:Rep) (L:List ByteArray):Rep:=L.foldl (kIa a starts) r
def collect (a:AgX) (s:SeX) (r:Rep) (starts:Bool):SeX×Rep :=
 if kBn a=true∧kE7 s=true∧kIb r=true then((s.1,s.2.1,(kGw s.2.2.1 s.2.2.1.2.1.length).1,s.2.2.2),kK2 a starts r (kGw s.2.2.1 s.2.2.1.2.1.length).2)else(s,r)
end Go.Proofs.YtjdklcjoeanimaaGreat

namespace Go.Proofs.YtjdklcjoeanimaaGreat
open Go.Vc
def knGo (a:AgX) (st:Bool):Nat→List Int→List (List Frame)
 | _,[]=>[]
 |i,x::r=>match kBg a (if i=0 then x else x-1) (st&&decide (i=0))with
  |none=>[]
  |some f=>f::knGo a st (i+1) r
theorem kXy (a:AgX) (st:Bool):∀(L:List Int) (i:Nat),(knGo a st i L).length≤L.length
 | [],i=>Nat.le_refl _
 |x::r,i=>by
  unfold knGo;split
  ·simp
  ·have:=kXy a st r (i+1);simp only[List.length_cons];omega
theorem k2m (a:AgX) (st:Bool):∀(L:List Int) (i:Nat),kFi a st i L=if(knGo a st i L).length<L.length then none else some (knGo a st i L).reverse.flatten
 | [],i=>rfl
 |x::r,i=>by
  unfold kFi knGo;rw[k2m a st r (i+1)];have hle:=kXy a st r (i+1)
  cases kBg a (if i=0 then x else x-1) (st&&decide (i=0))with
  |none =>
   simp only[List.length_nil,List.length_cons,Nat.zero_lt_succ,if_true];split
   ·contradiction
   ·rfl
  |some f =>
   simp only[List.length_cons];by_cases h:(knGo a st (i+1) r).length<r.length
   ·rw[if_pos h,if_pos (by omega)]
   ·rw[if_neg h,if_neg (by omega)]
    simp[List.flatten_append]
theorem kV0 {a:AgX}{st:Bool}{L:List Int}{k:Nat}(hk:k<L.length):kFi a st k (L.drop k)=match kFi a st (k+1) (L.drop (k+1)),kBg a (if k=0 then L[k]else L[k]-1) (st&&decide (k=0))with
  |some A,some B=>some (A++B)
  | _,_=>none:=by
 rw[List.drop_eq_getElem_cons hk];rfl
theorem kZe {a:AgX}{st:Bool}{L:List Int}:∀{k:Nat},k≤L.length→kFi a st k (L.drop k)=none→kFi a st 0 L=none
 | 0,_,h=>h
 |k+1,hk,h=>by
  refine kZe (k:=k) (by omega) ?_
  rw[kV0 (by omega),h]
theorem kZf (S:SpXX) (R:List (List Rule)):∀(n:Nat) (i:Bool) (v:Vw),(kJp S R n i v).1.length≤n
 | 0,i,v=>Nat.le_refl _
 |n+1,i,v=>by
  rw[kJr];split
  ·exact Nat.zero_le _
  ·split
   ·exact Nat.zero_le _
   ·have:=kZf S R n false (by assumption);simp only[List.length_cons];omega
theorem kPw (S:SpXX) (R:List (List Rule)) (v:Vw):(unwind S R v).1.length≤40:=by
 have:=kZf S R 39 true v;rw[show(unwind S R v).1=v.pc::(kJp S R 39 true v).1 from rfl,List.length_cons];omega
theorem kZg (S:SpXX) (R:List (List Rule)):∀(n:Nat) (i:Bool) (v:Vw),numV v→∀x∈(kJp S R n i v).1,okN x
 | 0,i,v,h=>by intro x hx;cases hx
 |n+1,i,v,h=>by
  rw[kJr]
  cases hu:unwS S R v i with
  |none=>intro x hx;cases hx
  |some y =>
   have hy:=kUq h hu;simp only;split
   ·intro x hx;cases hx
   ·intro x hx;rcases List.mem_cons.1 hx with rfl|hx
    ·exact hy.1
    ·exact kZg S R n false y hy x hx
theorem kV1 {S:SpXX}{R:List (List Rule)}{v:Vw}(h:numV v):∀x∈(unwind S R v).1,okN x:=by
 intro x hx;rcases List.mem_cons.1 hx with rfl|hx
 ·exact h.1
 ·exact kZg S R 39 true v h x hx
theorem kRi {d:Debug}{o:Int}{st:Bool}{f:List Frame}(h:kDk d o st=some f):f.length≤d.inls.length+1:=by
 unfold kDk at h;split at h
 ·cases h
 ·rw[Option.some.injEq]at h;subst h;rw[List.length_append,kPu]
  have:(kEh d.inls o).length≤d.inls.length:=by
   unfold kEh;split
   ·exact List.length_filter_le ..
   ·simp
  simp only[List.length_cons,List.length_nil];omega
end Go.Proofs.YtjdklcjoeanimaaGreat

namespace Go.Proofs.YtjdklcjoeanimaaGreat
open Go.Vc
theorem or7 {a c:Int}{k:Nat}(hk:k≤5) (a0:0≤a) (a1:a<2 ^ (7*k)) (h0:0≤c) (h1:c≤127):kM7 .i64 a (c*2 ^ (7*k))=a+c*2 ^ (7*k):=by
 obtain⟨x,rfl⟩:=Int.eq_ofNat_of_zero_le a0;obtain⟨y,rfl⟩:=Int.eq_ofNat_of_zero_le h0;have hp:2 ^ (7*k)≤2 ^ 35:=Nat.pow_le_pow_right (by omega) (by omega)
 have hx:x<2 ^ (7*k):=by
  have:((x:Nat):Int)<((2 ^ (7*k):Nat):Int):=by push_cast;exact a1
  omega
 have hy:y≤127:=by omega
 have e1:((y:Int)*2 ^ (7*k))=((y*2 ^ (7*k):Nat):Int):=by push_cast;rfl
 have hyb:y*2 ^ (7*k)≤127*2 ^ 35:=Nat.mul_le_mul hy hp;rw[e1];unfold kM7
 have ex:(BitVec.ofInt IntKind.i64.bits (x:Int)).toNat=x:=by
  show(BitVec.ofInt 64 (x:Int)).toNat=x
  rw[BitVec.toNat_ofInt];omega
 have ey:(BitVec.ofInt IntKind.i64.bits ((y*2 ^ (7*k):Nat):Int)).toNat=y*2 ^ (7*k):=by
  show(BitVec.ofInt 64 ((y*2 ^ (7*k):Nat):Int)).toNat=_
  rw[BitVec.toNat_ofInt];omega
 rw[BitVec.toNat_or,ex,ey]
 have:x ||| y*2 ^ (7*k)=x+y*2 ^ (7*k):=by
  have:=Nat.shiftLeft_add_eq_or_of_lt hx y;rw[Nat.shiftLeft_eq]at this;rw[Nat.or_comm,←this,Nat.add_comm]
 rw[this];rw[show IntKind.i64.wrap ((x+y*2 ^ (7*k):Nat):Int)=((x+y*2 ^ (7*k):Nat):Int)from IntWalk.i64_in _ ⟨by omega,by omega⟩]
 push_cast;rfl
theorem and7 {a:Int}(h0:0≤a) (h1:a≤255):kHg .i64 a 127=a%128:=by
 obtain⟨x,rfl⟩:=Int.eq_ofNat_of_zero_le h0;have hx:x≤255:=by omega
 unfold kHg
 have ex:(BitVec.ofInt IntKind.i64.bits (x:Int)).toNat=x:=by
  show(BitVec.ofInt 64 (x:Int)).toNat=x
  rw[BitVec.toNat_ofInt];omega
 have ey:(BitVec.ofInt IntKind.i64.bits 127).toNat=2 ^ 7-1:=by decide
 rw[BitVec.toNat_and,ex,ey,Nat.and_two_pow_sub_one_eq_mod];rw[show IntKind.i64.wrap ((x%2 ^ 7:Nat):Int)=((x%2 ^ 7:Nat):Int)from IntWalk.i64_in _ ⟨by omega,by omega⟩]
 omega
theorem and7u {a:Int}(h0:0≤a) (h1:a≤255):kHg .u8 a 127=a%128:=by
 obtain⟨x,rfl⟩:=Int.eq_ofNat_of_zero_le h0;have hx:x≤255:=by omega
 unfold kHg
 have ex:(BitVec.ofInt IntKind.u8.bits (x:Int)).toNat=x:=by
  show(BitVec.ofInt 8 (x:Int)).toNat=x
  rw[BitVec.toNat_ofInt];omega
 have ey:(BitVec.ofInt IntKind.u8.bits 127).toNat=2 ^ 7-1:=by decide
 rw[BitVec.toNat_and,ex,ey,Nat.and_two_pow_sub_one_eq_mod]
 have h:∀n:Nat,n≤127→IntKind.u8.wrap (n:Int)=n:=fun n hn=>by
  rw[IntKind.wrap_u8];omega
 rw[h _ (by omega)]
 omega
theorem shl7 {c:Int}{k:Nat}(hk:k≤5) (h0:0≤c) (h1:c≤127):shL .i64 c ((7*k:Nat):Int)=c*2 ^ (7*k):=by
 unfold shL
 have hp:(2:Int) ^ (7*k)≤2 ^ 35:=by
  have hc:k=0∨k=1∨k=2∨k=3∨k=4∨k=5:=by omega
  rcases hc with rfl|rfl|rfl|rfl|rfl|rfl<;>decide
 have hp0:(0:Int)<2 ^ (7*k):=Int.pow_pos (by omega)
 have hm:min ((7*k:Nat):Int).toNat IntKind.i64.bits=7*k:=by
  rw[Int.toNat_natCast];show min (7*k) 64=7*k
  omega
 rw[hm];have h2:c*2 ^ (7*k)≤127*2 ^ (7*k):=Int.mul_le_mul_of_nonneg_right h1 (by omega)
 have h3:0≤c*2 ^ (7*k):=Int.mul_nonneg h0 (by omega)
 exact IntWalk.i64_in _ ⟨by omega,by omega⟩
theorem p128 (k:Nat):(128:Int) ^ k=2 ^ (7*k):=by
 rw[Int.pow_mul];rfl
theorem k6z {s:ByteArray}{a k:Nat}(hk:k≤5):kM7 .i64 (kFz s a k) (shL .i64 (((s[a+k]!).toNat:Int)%128) ((7*k:Nat):Int))=kFz s a (k+1):=by
 obtain⟨h1,h2⟩:=kIx s a k;rw[p128]at h2;rw[shl7 hk (by omega) (by omega),or7 hk h1 h2 (by omega) (by omega)]
 show _=kFz s a k+b7 s (a+k)*128 ^ k
 rw[p128];rfl
end Go.Proofs.YtjdklcjoeanimaaGreat

namespace Go.Proofs.YtjdklcjoeanimaaGreat
open Go.Vc
theorem kNl {s:ByteArray}{a k f:Nat}(h:¬a+k<s.size):dvGo s a k f=none:=by
 cases f with
 |zero=>rfl
 |succ f=>unfold dvGo;rw[if_neg h]
theorem kY9 (s:ByteArray) (a k:Nat):dvGo s a k 0=none:=rfl
theorem kRl {s:ByteArray}{a k f:Nat}(h:a+k<s.size) (hb:¬(s[a+k]!).toNat<128):dvGo s a k (f+1)=dvGo s a (k+1) f:=by
 rw[dvGo,if_pos h,if_neg hb]
theorem kUm {s:ByteArray}{a k f:Nat}(h:a+k<s.size) (hb:(s[a+k]!).toNat<128):dvGo s a k (f+1)=if varint (kFz s a (k+1))=s.extract a (a+k+1)then some (kFz s a (k+1),k+1)else none:=by
 rw[dvGo,if_pos h,if_pos hb]
theorem k2k {s:ByteArray}{a:Nat}{n:Int}{m:Nat}:∀{f k:Nat},dvGo s a k f=some (n,m)→varint n=s.extract a (a+m)∧1≤m∧a+m≤s.size
 | 0,k,h=>by cases h
 |f+1,k,h=>by
  by_cases h1:a+k<s.size
  ·by_cases h2:(s[a+k]!).toNat<128
   ·rw[kUm h1 h2]at h;split at h
    ·rename_i hv;simp only[Option.some.injEq,Prod.mk.injEq]at h;obtain⟨rfl,rfl⟩:=h;exact⟨hv,by omega,by omega⟩
    ·cases h
   ·rw[kRl h1 h2]at h;exact k2k h
  ·rw[kNl h1]at h;cases h
theorem kC9 {s:ByteArray}{a n:Int}{m:Nat}(h:decV s a=some (n,m)):(varint n).size=m∧1≤m∧0≤n∧n≤1099511627775∧0≤a∧a+m≤s.size∧m≤6:=by
 have h0:=k6t h;unfold decV at h;split at h
 ·obtain⟨h1,h2,h3⟩:=k2k h;have h4:(varint n).size=m:=by rw[h1,ByteArray.size_extract];omega
  refine⟨h4,h2,h0.2.1,?_,h0.1,h0.2.2.2.2.2,h0.2.2.2.2.1⟩;refine Int.not_lt.1 fun hn=>?_
  have:varint n=⟨#[]⟩:=by unfold varint;rw[if_neg (by omega)]
  rw[this]at h4;have:(⟨#[]⟩:ByteArray).size=0:=rfl;omega
 ·cases h
theorem kUn {v:Int}(h0:0≤v) (h1:v≤1099511627775):sgd v=if v.tmod 2=0 then v.tdiv 2 else -(v.tdiv 2)-1:=by unfold sgd;rw[if_pos ⟨h0,h1⟩]
theorem k61 {v:Int}(h0:0≤v) (h1:v≤1099511627775):sgl (sgd v)=v:=by
 have hd:=Int.tdiv_eq_ediv_of_nonneg (b:=2) h0;have hm:=Int.tmod_eq_emod_of_nonneg (b:=2) h0;rw[kUn h0 h1,hd,hm];unfold sgl;split
 ·split
  ·rw[if_neg (by omega)];omega
  ·omega
 ·split
  ·rw[if_pos (by omega)];omega
  ·omega
theorem sgd_bd (v:Int):-549755813888≤sgd v∧sgd v≤549755813887:=by
 unfold sgd;split
 ·rename_i h;have hd:=Int.tdiv_eq_ediv_of_nonneg (b:=2) h.1;have hm:=Int.tmod_eq_emod_of_nonneg (b:=2) h.1;rw[hd,hm];split<;>omega
 ·omega
theorem k8u (acc:ByteArray) (x:Int) (L:List Int):kGa acc (x::L)=kGa (acc++varint (sgl x)) L:=rfl
theorem kZa {s:ByteArray}{a:Int}:∀{n:Nat}{size:Int}{L:List Int}{z:Int},upGo s a n size=some (L,z)→kHd L=true∧∀acc:ByteArray,((kGa acc L).size:Int)=acc.size+(z-size)
 | 0,size,L,z,h=>by
  simp only[upGo,Option.some.injEq,Prod.mk.injEq]at h;obtain⟨rfl,rfl⟩:=h
  exact⟨rfl,fun acc=>by show((acc).size:Int)=_;omega⟩
 |n+1,size,L,z,h=>by
  unfold upGo at h
  cases hd:decV s (a+size)with
  |none=>rw[hd]at h;cases h
  |some q =>
   obtain⟨v,m⟩:=q;rw[hd]at h;simp only at h
   cases hu:upGo s a n (size+m)with
   |none=>rw[hu]at h;cases h
   |some q2 =>
    obtain⟨L2,z2⟩:=q2;rw[hu]at h;simp only[Option.some.injEq,Prod.mk.injEq]at h;obtain⟨rfl,rfl⟩:=h;obtain⟨h1,h2⟩:=kZa hu;obtain⟨g1,g2,g3,g4,_⟩:=kC9 hd;refine⟨?_,fun acc=>?_⟩
    ·show(decide (0≤sgl (sgd v))&&kHd L2)=true
     rw[h1,k61 g3 g4,Bool.and_true];exact decide_eq_true g3
    ·rw[k8u,h2,ByteArray.size_append,k61 g3 g4,g1];push_cast;omega
theorem kG8 {s:ByteArray}{a:Int}(h:decV s a=none):unpack s a=none:=by unfold unpack;rw[h]
theorem kK4 {s:ByteArray}{a n:Int}{m:Nat}(h:decV s a=some (n,m)):unpack s a=upGo s a n.toNat m:=by unfold unpack;rw[h]
theorem k8v {s:ByteArray}{a n:Int}{m:Nat}(h:decV s a=some (n,m)) (hn:n>s.size):unpack s a=none:=by
 rw[kK4 h];have h1:=kC9 h
 cases hu:upGo s a n.toNat m with
 |none=>rfl
 |some q =>
  obtain⟨L,z⟩:=q;obtain⟨h2,h3,h4,_⟩:=kSm hu;have:=h4 (by omega)
  omega
theorem kRm {s:ByteArray}{a z:Int}{L:List Int}(h:unpack s a=some (L,z)):0≤z∧a+z≤s.size∧(L.length:Int)≤z∧∀x∈L,-549755813888≤x∧x≤549755813887:=by
 cases hd:decV s a with
 |none=>rw[kG8 hd]at h;cases h
 |some q =>
  obtain⟨n,m⟩:=q;rw[kK4 hd]at h;obtain⟨h2,h3,h4,h5⟩:=kSm h;have h1:=kC9 hd;refine⟨by omega,?_,by omega,?_⟩
  ·rcases Nat.eq_zero_or_pos n.toNat with h0|h0
   ·have:=h5 h0;omega
   ·exact h4 h0
  ·exact mem h
where
 mem {s:ByteArray}{a:Int}:∀{n:Nat}{size:Int}{L:List Int}{z:Int},upGo s a n size=some (L,z)→∀x∈L,-549755813888≤x∧x≤549755813887
  | 0,size,L,z,h=>by
   simp only[upGo,Option.some.injEq,Prod.mk.injEq]at h;obtain⟨rfl,rfl⟩:=h
   intro x hx;cases hx
  |n+1,size,L,z,h=>by
   unfold upGo at h
   cases hd:decV s (a+size)with
   |none=>rw[hd]at h;cases h
   |some q =>
    obtain⟨v,m⟩:=q;rw[hd]at h;simp only at h
    cases hu:upGo s a n (size+m)with
    |none=>rw[hu]at h;cases h
    |some q2 =>
     obtain⟨L2,z2⟩:=q2;rw[hu]at h;simp only[Option.some.injEq,Prod.mk.injEq]at h;obtain⟨rfl,rfl⟩:=h;intro x hx;rcases List.mem_cons.1 hx with rfl|hx
     ·exact sgd_bd v
     ·exact mem hu x hx
theorem k52 {s:ByteArray}{a z:Int}{L:List Int}(h:unpack s a=some (L,z)):((pack L).size:Int)=z:=by
 cases hd:decV s a with
 |none=>rw[kG8 hd]at h;cases h
 |some q =>
  obtain⟨n,m⟩:=q;rw[kK4 hd]at h;obtain⟨h2,_⟩:=kSm h;obtain⟨h3,h4⟩:=kZa h;have h1:=kC9 hd;unfold pack;rw[if_pos h3,h4,h2,show((n.toNat:Nat):Int)=n by omega,h1.1]
  omega
theorem qEt (s:ByteArray) (a:Int) (n:Nat) (size:Int):upGo s a (n+1) size=(match decV s (a+size)with
  |none=>none
  |some (v,m)=>match upGo s a n (size+m)with
   |none=>none
   |some (L,z)=>some (sgd v::L,z)):=rfl
theorem qKv {s:ByteArray}{a size:Int}{n:Nat}(h:decV s (a+size)=none):upGo s a (n+1) size=none:=by unfold upGo;rw[h]
theorem qHk {s:ByteArray}{a size v:Int}{n m:Nat}(h:decV s (a+size)=some (v,m)) (L:List Int):(upGo s a (n+1) size).map (fun q=>(L++q.1,q.2))=(upGo s a n (size+m)).map (fun q=>(L++[sgd v]++q.1,q.2)):=by
 rw[qEt,h];simp only
 cases upGo s a n (size+m)with
 |none=>rfl
 |some q=>simp
def kVy (s:ByteArray) (t:Int) (L:List Int):Option (Int×Vw):=match L with
 |p::q::f::w=>if kGg (t,⟨p,q,f,w⟩)=s then some (t,⟨p,q,f,w⟩)else none
 | _=>none
theorem kN0 {s:ByteArray}(h:decV s 0=none):kC2 s=none:=by unfold kC2;rw[h]
theorem kN1 {s:ByteArray}{t:Int}{a:Nat}(h:decV s 0=some (t,a)) (h2:unpack s a=none):kC2 s=none:=by unfold kC2;rw[h];simp only;rw[h2]
theorem kPz {s:ByteArray}{t z:Int}{a:Nat}{L:List Int}(h:decV s 0=some (t,a)) (h2:unpack s a=some (L,z)):kC2 s=kVy s t L:=by
 unfold kC2;rw[h];simp only;rw[h2];unfold kVy
 match L with
 | []=>rfl
 | [_]=>rfl
 | [_,_]=>rfl
 |p::q::f::w=>rfl
theorem kMo {s:ByteArray}{t:Int}{L:List Int}(h:L.length<3):kVy s t L=none:=by
 match L,h with
 | [],_=>rfl
 | [_],_=>rfl
 | [_,_],_=>rfl
 |p::q::f::w,h=>simp at h;omega
theorem k8w {L:List Int}(h:¬L.length<3):∃p q f w,L=p::q::f::w:=by
 match L,h with
 |p::q::f::w,_=>exact⟨p,q,f,w,rfl⟩
 | [],h=>simp at h
 | [_],h=>simp at h
 | [_,_],h=>simp at h
theorem qEu {s:ByteArray}{t z p q f:Int}{a:Nat}{w:List Int}(h:decV s 0=some (t,a)) (h2:unpack s a=some (p::q::f::w,z)) (he:kGg (t,⟨p,q,f,w⟩)=s):(a:Int)+z=s.size:=by
 have h1:=kC9 h;have h3:=k52 h2;unfold kGg at he;split at he
 ·rw[←he,ByteArray.size_append,h1.1];push_cast;omega
 ·have:s.size=0:=by rw[←he];rfl
  omega
theorem qEo {s:ByteArray}{x:Int×Vw}(h:kC2 s=some x):smOk x=true∧numV x.2:=by
 cases hd:decV s 0 with
 |none=>rw[kN0 hd]at h;cases h
 |some q =>
  obtain⟨t,a⟩:=q
  cases hu:unpack s a with
  |none=>rw[kN1 hd hu]at h;cases h
  |some q2 =>
   obtain⟨L,z⟩:=q2;rw[kPz hd hu]at h;by_cases hl:L.length<3
   ·rw[kMo hl]at h;cases h
   ·obtain⟨p,q,f,w,rfl⟩:=k8w hl;unfold kVy at h;simp only at h;split at h
    ·rename_i he;rw[Option.some.injEq]at h;subst h;obtain⟨_,_,_,hm⟩:=kRm hu
     have hok:smOk (t,⟨p,q,f,w⟩)=true:=by
      cases hok:smOk (t,(⟨p,q,f,w⟩:Vw))with
      |true=>rfl
      |false =>
       unfold kGg at he;rw[hok]at he;have:s.size=0:=by rw[←he];rfl
       have:=kC9 hd;omega
     have hv:=kKk.1 (qKw hok);simp only at hv;have e:=fun x hx=>hm x hx
     have e1:=e p (by simp)
     have e2:=e q (by simp)
     have e3:=e f (by simp)
     exact⟨hok,⟨by show(-4398046511104:Int)≤p;omega,by show p≤(4398046511104:Int);omega⟩,⟨by show(-4398046511104:Int)≤q;omega,by show q≤(4398046511104:Int);omega⟩,⟨by show(-4398046511104:Int)≤f;omega,by show f≤(4398046511104:Int);omega⟩,by show w.length≤4194304;omega,fun x hx=>by have:=e x (by simp[hx]);exact⟨by omega,by omega⟩⟩
    ·cases h
where
 qKw {x:Int×Vw}(h:smOk x=true):vwOk x.2=true:=by
  unfold smOk at h;simp only[Bool.and_eq_true]at h;exact h.1.1.1.2
end Go.Proofs.YtjdklcjoeanimaaGreat

