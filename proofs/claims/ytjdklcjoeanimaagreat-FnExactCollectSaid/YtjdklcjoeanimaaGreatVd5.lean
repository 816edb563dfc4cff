/-
  DERIVED. Several texts of ours in one: VpAgt, VpOrd, VpOp, VtOp, VtDis, VtImg, VtSpace, VtSpace2, VtLoc, VtVar, VtPack.
-/
import Derived.Test.YtjdklcjoeanimaaGreatVd0
import Derived.Test.YtjdklcjoeanimaaGreatVd1
import Derived.Test.YtjdklcjoeanimaaGreatVd2
import Derived.Test.YtjdklcjoeanimaaGreatVd3
import Derived.Test.YtjdklcjoeanimaaGreatVd4
import Derived.Laws.Strings
set_option linter.unusedSimpArgs false
set_option linter.unusedVariables false
set_option maxHeartbeats 1000000
set_option maxRecDepth 10000
namespace Go.Proofs.YtjdklcjoeanimaaGreat
abbrev kEt:Rule:=⟨0,0,false,0⟩
abbrev zRow:Row:=⟨0,0,false⟩
def kMm (last:Int) (x:Rule):Bool:=decide (last≤x.start∧x.start<x.stop∧x.stop≤1000000∧(0≤x.depth∧x.depth≤1200)∧(x.frame=true→x.depth=0))
def kHc (L:List Rule):Nat→Int
 | 0=>0
 |k+1=>(L.getD k kEt).stop
def kGl (L:List Rule) (n:Nat):Bool:=(List.range n).all fun i=>kMm (kHc L i) (L.getD i kEt)
def kGm (L:List Rule):Bool:=kGl L L.length
def hitR (o:Int) (x:Rule):Bool:=decide (x.start≤o∧o<x.stop)
def kC1 (L:List Rule) (o:Int):Int:=if kGm L=true then firstIdx (hitR o) L else -1
theorem kMn {L:List Rule}{k:Nat}:kGl L (k+1)=(kGl L k&&kMm (kHc L k) (L.getD k kEt)):=by
 unfold kGl;rw[List.range_succ,List.all_append];simp
theorem kTq {L:List Rule}{k:Nat}(hk:k<L.length) (h:kMm (kHc L k) (L.getD k kEt)=false):kGm L=false:=by
 unfold kGm kGl;rw[List.all_eq_false];exact⟨k,List.mem_range.2 hk,by rw[h];simp⟩
theorem kY3 {L:List Rule}:∀{k:Nat},kGl L k=true→0≤kHc L k∧(0<k→0<kHc L k)
 | 0,_=>⟨Int.le_refl _,fun h=>absurd h (by omega)⟩
 |k+1,h=>by
  rw[kMn,Bool.and_eq_true]at h;obtain⟨h1,_⟩:=kY3 h.1;have:=of_decide_eq_true h.2;show 0≤(L.getD k kEt).stop∧_
  refine⟨by omega,fun _=>?_⟩
  show 0<(L.getD k kEt).stop
  omega
def kVs (L:List Row) (i:Nat):Bool:=decide ((0≤(L.getD i zRow).offset∧(L.getD i zRow).offset≤1000000)∧(0≤(L.getD i zRow).line∧(L.getD i zRow).line≤59)∧(0<i→(L.getD (i-1) zRow).offset<(L.getD i zRow).offset))
def kJn (L:List Row) (n:Nat):Bool:=(List.range n).all (kVs L)
def kLa (L:List Row):Bool:=kJn L L.length
def kGn (L:List Row) (o:Int):Nat→Int
 | 0=>-1
 |k+1=>if(L.getD k zRow).offset≤o then k else kGn L o k
def kBa (L:List Row) (o:Int):Int:=if kLa L=true then kGn L o L.length else -1
def kG7 (L:List Row) (o:Int):Bool:=decide (0≤kBa L o∧(L.getD (kBa L o).toNat zRow).offset=o∧(L.getD (kBa L o).toNat zRow).start=true)
theorem kTr {L:List Row}{k:Nat}:kJn L (k+1)=(kJn L k&&kVs L k):=by
 unfold kJn;rw[List.range_succ,List.all_append];simp
theorem kVt {L:List Row}{k:Nat}(hk:k<L.length) (h:kVs L k=false):kLa L=false:=by
 unfold kLa kJn;rw[List.all_eq_false];exact⟨k,List.mem_range.2 hk,by rw[h];simp⟩
theorem kY4 (L:List Row) (o:Int):∀n:Nat,-1≤kGn L o n∧kGn L o n<n
 | 0=>⟨Int.le_refl _,by show(-1:Int)<0;omega⟩
 |k+1=>by
  have:=kY4 L o k;show -1≤(if _ then _ else _)∧(if _ then _ else _)<_
  split<;>omega
theorem kLt (L:List Row) (o:Int):-1≤kBa L o∧kBa L o<L.length:=by
 unfold kBa;split
 ·exact kY4 L o L.length
 ·omega
abbrev zInl:Inline:=⟨0,0,0,0,⟨#[]⟩⟩
def kF9 (x:Inline):Bool:=decide (0≤x.start∧x.start<x.stop∧x.stop≤1000000∧(0≤x.level∧x.level≤2)∧(0≤x.line∧x.line≤59))&&kDw x.name
def qEn (L:List Inline) (k:Nat):Bool:=decide (k=0∨¬((L.getD k zInl).level<(L.getD (k-1) zInl).level∨(L.getD k zInl).level=(L.getD (k-1) zInl).level∧(L.getD k zInl).start<(L.getD (k-1) zInl).stop))
def inIn (x y:Inline):Bool:=decide (y.level=x.level-1∧y.start≤x.start∧x.stop≤y.stop)
def within (L:List Inline) (k n:Nat):Bool:=decide ((L.getD k zInl).level=0) || (List.range n).any fun i=>inIn (L.getD k zInl) (L.getD i zInl)
def kPt (L:List Inline) (k:Nat):Bool:=kF9 (L.getD k zInl)&&qEn L k&&within L k k
def kJo (L:List Inline) (n:Nat):Bool:=(List.range n).all (kPt L)
def kE5 (L:List Inline):Bool:=kJo L L.length
def kEh (L:List Inline) (o:Int):List Inline:=if kE5 L=true then L.filter fun x=>decide (x.start≤o∧o<x.stop)else[]
theorem kTs {L:List Inline}{k:Nat}:kJo L (k+1)=(kJo L k&&kPt L k):=by
 unfold kJo;rw[List.range_succ,List.all_append];simp
theorem kVu {L:List Inline}{k:Nat}(hk:k<L.length) (h:kPt L k=false):kE5 L=false:=by
 unfold kE5 kJo;rw[List.all_eq_false];exact⟨k,List.mem_range.2 hk,by rw[h];simp⟩
theorem k5z {L:List Inline}{k n:Nat}:within L k (n+1)=(within L k n || inIn (L.getD k zInl) (L.getD n zInl)):=by
 unfold within;rw[List.range_succ,List.any_append];simp[Bool.or_assoc]
end Go.Proofs.YtjdklcjoeanimaaGreat

namespace Go.Pl
open Go
section
variable {α:Type}(lt:α→α→Bool)
variable {lt}
end
end Go.Pl

namespace Go.Proofs.YtjdklcjoeanimaaGreat
open Go.Pl Go.Vc
def argW (c:Int):Int×Bool :=
 if c=0 then(4,true)else if c=1∨c=2∨c=3∨c=4∨c=10∨c=11 then(2,true)else if c=16 then(2,false)else if c=12∨c=13∨c=14∨c=15 then(1,false)else(0,false)
theorem kOl (c:Int):0≤(argW c).1∧(argW c).1≤4∧(argW c).1≠3∧((argW c).2=true→2≤(argW c).1):=by
 unfold argW;split
 ·simp
 ·split
  ·simp
  ·split
   ·simp
   ·split<;>simp
def kBb (c:Int):Int:=if 0≤c∧c≤17 then(argW c).1+1 else 0
theorem kRn (c:Int):0≤kBb c∧kBb c≤5:=by
 have:=kOl c;unfold kBb;split<;>omega
def byt (s:ByteArray) (k:Nat):Int:=((s[k]!).toNat:Int)
theorem kRo (s:ByteArray) (k:Nat):0≤byt s k∧byt s k≤255:=by
 unfold byt;have:=(s[k]!).toNat_lt;omega
def leI (s:ByteArray) (at_:Nat):Nat→Int
 | 0=>0
 |k+1=>leI s at_ k+byt s (at_+1+k)*2 ^ (8*k)
theorem kRp (s:ByteArray) (at_:Nat):∀k,0≤leI s at_ k∧leI s at_ k<2 ^ (8*k)
 | 0=>by simp[leI]
 |k+1=>by
  have ih:=kRp s at_ k;have hb:=kRo s (at_+1+k);have hp:(0:Int)<2 ^ (8*k):=Int.pow_pos (by omega)
  have e:(2:Int) ^ (8*(k+1))=256*2 ^ (8*k):=by
   rw[show 8*(k+1)=8*k+8 by omega,Int.pow_add];omega
  have h1:0≤byt s (at_+1+k)*2 ^ (8*k):=Int.mul_nonneg hb.1 (by omega)
  have h2:byt s (at_+1+k)*2 ^ (8*k)≤255*2 ^ (8*k):=Int.mul_le_mul_of_nonneg_right hb.2 (by omega)
  rw[leI,e];omega
theorem shL8 {c:Int}(h0:0≤c) (h1:c≤255) {k:Nat}(hk:k≤3):shL .i64 c (8*(k:Int))=c*2 ^ (8*k):=by
 unfold shL
 have e:min (8*(k:Int)).toNat IntKind.i64.bits=8*k:=by
  show min (8*(k:Int)).toNat 64=8*k
  omega
 rw[e]
 have hp:(2:Int) ^ (8*k)≤2 ^ 24:=by
  match k,hk with
  | 0,_=>decide
  | 1,_=>decide
  | 2,_=>decide
  | 3,_=>decide
 have hp0:(0:Int)<2 ^ (8*k):=Int.pow_pos (by omega)
 have h2:c*2 ^ (8*k)≤255*2 ^ (8*k):=Int.mul_le_mul_of_nonneg_right h1 (by omega)
 have h3:0≤c*2 ^ (8*k):=Int.mul_nonneg h0 (by omega)
 exact IntWalk.i64_in _ ⟨by omega,by omega⟩
theorem or8 {a c:Int}{k:Nat}(hk:k≤3) (a0:0≤a) (a1:a<2 ^ (8*k)) (h0:0≤c) (h1:c≤255):kM7 .i64 a (c*2 ^ (8*k))=a+c*2 ^ (8*k):=by
 obtain⟨x,rfl⟩:=Int.eq_ofNat_of_zero_le a0;obtain⟨y,rfl⟩:=Int.eq_ofNat_of_zero_le h0;have hp:2 ^ (8*k)≤2 ^ 24:=Nat.pow_le_pow_right (by omega) (by omega)
 have hx:x<2 ^ (8*k):=by
  have:((x:Nat):Int)<((2 ^ (8*k):Nat):Int):=by push_cast;exact a1
  omega
 have hy:y≤255:=by omega
 have e1:((y:Int)*2 ^ (8*k))=((y*2 ^ (8*k):Nat):Int):=by push_cast;rfl
 have hyb:y*2 ^ (8*k)≤255*2 ^ 24:=Nat.mul_le_mul hy hp;rw[e1];unfold kM7
 have ex:(BitVec.ofInt IntKind.i64.bits (x:Int)).toNat=x:=by
  show(BitVec.ofInt 64 (x:Int)).toNat=x
  rw[BitVec.toNat_ofInt];omega
 have ey:(BitVec.ofInt IntKind.i64.bits ((y*2 ^ (8*k):Nat):Int)).toNat=y*2 ^ (8*k):=by
  show(BitVec.ofInt 64 ((y*2 ^ (8*k):Nat):Int)).toNat=_
  rw[BitVec.toNat_ofInt];omega
 rw[BitVec.toNat_or,ex,ey]
 have:x ||| y*2 ^ (8*k)=x+y*2 ^ (8*k):=by
  have:=Nat.shiftLeft_add_eq_or_of_lt hx y;rw[Nat.shiftLeft_eq]at this;rw[Nat.or_comm,←this,Nat.add_comm]
 rw[this];rw[show IntKind.i64.wrap ((x+y*2 ^ (8*k):Nat):Int)=((x+y*2 ^ (8*k):Nat):Int)from IntWalk.i64_in _ ⟨by omega,by omega⟩]
 push_cast;rfl
structure Op where
 code:Int
 arg:Int
deriving DecidableEq
def argV (s:ByteArray) (k:Nat) (n:Nat) (sg:Bool):Int:=if sg=true∧2 ^ (8*n-1)≤leI s k n then leI s k n-2 ^ (8*n)else leI s k n
def kEc (s:ByteArray) (k:Int):Option (Op×Int) :=
 if 0≤k∧k<s.size then
  (if kBb (byt s k.toNat)≠0∧k+kBb (byt s k.toNat)≤s.size then
   some (⟨byt s k.toNat,argV s k.toNat (argW (byt s k.toNat)).1.toNat (argW (byt s k.toNat)).2⟩,kBb (byt s k.toNat))else none)
 else none
end Go.Proofs.YtjdklcjoeanimaaGreat

namespace Go.Proofs.YtjdklcjoeanimaaGreat
open Go.Vc
attribute [local irreducible] Go.Vc.WP
attribute [local go_sem] kAd kAe
open Go.Pl
def kHf:Ctr:=pur (fun args=>aI args 0) (fun c=>[.v (.int .i64 c)]) (fun _=>True) (fun _ c=>.tup [.v (.int .i64 (argW c).1),.v (.bool (argW c).2)]) (fun _ _=>[])
section
noncomputable def qAd:=mkX [] (COk.nil _)
theorem qN4:qAd.tys=tys:=rfl
theorem qN5:qAd.C=[]:=rfl
attribute [local go_sem] qN4 qN5
theorem qFo:Cn Tryz.prog 271 kHf:=by
 refine Cn.pur Tryz.func271 (by kernel_rfl) rfl fun d x hx=>?_
 rename Int=>c
 refine Holds.go (c:=qAd) Tryz.func271 rfl Tryz.results271 Tryz.ntmps271 (by omega) (by simp) rfl ?_
 intro X0 w0
 (repeat' (first|apply zS|apply zB|(apply zW;simp only[go_sem])|apply And.intro|intro _))
 all_goals first|(unfold argW;simp_all;done)|skip
end
section
noncomputable def qAe:=mkX [] (COk.nil _)
theorem qN6:qAe.tys=tys:=rfl
theorem qN7:qAe.C=[]:=rfl
attribute [local go_sem] qN6 qN7
theorem qFp:Cn Tryz.prog 268 kHf:=by
 refine Cn.pur Tryz.func268 (by kernel_rfl) rfl fun d x hx=>?_
 rename Int=>c
 refine Holds.go (c:=qAe) Tryz.func268 rfl Tryz.results268 Tryz.ntmps268 (by omega) (by simp) rfl ?_
 intro X0 w0
 (repeat' (first|apply zS|apply zB|(apply zW;simp only[go_sem])|apply And.intro|intro _))
 all_goals first|(unfold argW;simp_all;done)|skip
end
def kJb:Ctr:=pur (fun args=>aI args 0) (fun c=>[.v (.int .i64 c)]) (fun _=>True) (fun _ c=>.v (.int .i64 (kBb c))) (fun _ _=>[])
section
noncomputable def qAf:=mkX [(68,k60),(271,kHf)] (COk.cons c60 (COk.cons qFo (COk.nil _)))
theorem qN8:qAf.tys=tys:=rfl
theorem qN9:qAf.C=[(68,k60),(271,kHf)]:=rfl
attribute [local go_sem] qN8 qN9 k60 kHf
theorem qH9:Cn Tryz.prog 270 kJb:=by
 refine Cn.pur Tryz.func270 (by kernel_rfl) rfl fun d x hx=>?_
 rename Int=>c
 have hw:=kOl c;refine Holds.go (c:=qAf) Tryz.func270 rfl Tryz.results270 Tryz.ntmps270 (by omega) (by simp) rfl ?_
 intro X0 w0;by_cases h:0≤c∧c≤17
 ·have e:kBb c=(argW c).1+1:=if_pos h;rw[e]
  (repeat' (first|apply zS|apply zB|(apply zW;simp only[go_sem,h])|apply And.intro|intro _))
  all_goals first|omega|skip
 ·have e:kBb c=0:=if_neg h;rw[e]
  (repeat' (first|apply zS|apply zB|(apply zW;simp only[go_sem,h])|apply And.intro|intro _))
  all_goals first|omega|skip
end
section
noncomputable def qAg:=mkX [(66,k60),(268,kHf)] (COk.cons c58 (COk.cons qFp (COk.nil _)))
theorem qOa:qAg.tys=tys:=rfl
theorem qOb:qAg.C=[(66,k60),(268,kHf)]:=rfl
attribute [local go_sem] qOa qOb k60 kHf
theorem qIa:Cn Tryz.prog 269 kJb:=by
 refine Cn.pur Tryz.func269 (by kernel_rfl) rfl fun d x hx=>?_
 rename Int=>c
 have hw:=kOl c;refine Holds.go (c:=qAg) Tryz.func269 rfl Tryz.results269 Tryz.ntmps269 (by omega) (by simp) rfl ?_
 intro X0 w0;by_cases h:0≤c∧c≤17
 ·have e:kBb c=1+(argW c).1:=by rw[show kBb c=(argW c).1+1 from if_pos h];omega
  rw[e]
  (repeat' (first|apply zS|apply zB|(apply zW;simp only[go_sem,h])|apply And.intro|intro _))
  all_goals first|omega|skip
 ·have e:kBb c=0:=if_neg h;rw[e]
  (repeat' (first|apply zS|apply zB|(apply zW;simp only[go_sem,h])|apply And.intro|intro _))
  all_goals first|omega|skip
end
def kWc (x:Op):List SV:=[.v (.int .i64 x.code),.v (.int .i64 x.arg)]
def zOp:Op:=⟨0,0⟩
def kJt:Ctr:=pur (fun args=>(aS args 0,aI args 1)) (fun x=>[.v (.string x.1),.v (.int .i64 x.2)]) (fun x=>x.1.size≤4398046511104)
 (fun _ x=>.tup [.agg [.v (.int .i64 (((kEc x.1 x.2).map (·.1)).getD zOp).code),.v (.int .i64 (((kEc x.1 x.2).map (·.1)).getD zOp).arg)],.v (.int .i64 (((kEc x.1 x.2).map (·.2)).getD 0)),.v (.bool (kEc x.1 x.2).isSome)]) (fun _ _=>[])
theorem pow8 {n:Nat}(h:n≤4):(2:Int) ^ (8*n)≤4294967296∧0<(2:Int) ^ (8*n):=by
 match n,h with
 | 0,_=>decide
 | 1,_=>decide
 | 2,_=>decide
 | 3,_=>decide
 | 4,_=>decide
theorem shl1 {m:Nat}(h:m≤32):shL .i64 1 (m:Int)=2 ^ m:=by
 unfold shL
 have e:min (m:Int).toNat IntKind.i64.bits=m:=by
  show min (m:Int).toNat 64=m
  omega
 rw[e,Int.one_mul]
 have:(2:Int) ^ m≤2 ^ 32:=by
  have:=Nat.pow_le_pow_right (n:=2) (by omega) h
  exact_mod_cast this
 have h0:(0:Int)<2 ^ m:=Int.pow_pos (by omega)
 exact IntWalk.i64_in _ ⟨by omega,by omega⟩
section
noncomputable def qAh:=mkX [(268,kHf),(269,kJb)] (COk.cons qFp (COk.cons qIa (COk.nil _)))
theorem qOc:qAh.tys=tys:=rfl
theorem qOd:qAh.C=[(268,kHf),(269,kJb)]:=rfl
attribute [local go_sem] qOc qOd kHf kJb
theorem qMu:Cn Tryz.prog 253 kJt:=by
 refine Cn.pur Tryz.func253 (by kernel_rfl) rfl fun d x hx=>?_
 obtain⟨s,k⟩:=x;simp only at hx⊢;refine Holds.go (c:=qAh) Tryz.func253 rfl Tryz.results253 Tryz.ntmps253 (by omega) (by simp) rfl ?_
 intro X0 w0;by_cases hk:0≤k∧k<s.size;rotate_left
 ·have e:kEc s k=none:=if_neg hk;rw[e];by_cases h0:k<0
  ·(repeat' (first|apply zS|apply zB|((first|apply zW| refine zd 13 (h:=?_)|refine zd 10 (h:=?_)|refine zd 6 (h:=?_));simp only[go_sem,h0])|apply And.intro|intro _))
   all_goals first|omega|exact⟨_,_,rfl,_,_,rfl,rfl⟩|rfl|skip
  ·have h1:¬k<(s.size:Int):=by omega
   (repeat' (first|apply zS|apply zB|((first|apply zW| refine zd 13 (h:=?_)|refine zd 10 (h:=?_)|refine zd 6 (h:=?_));simp only[go_sem,h0,h1])|apply And.intro|intro _))
   all_goals first|omega|exact⟨_,_,rfl,_,_,rfl,rfl⟩|rfl|skip
 obtain⟨p,rfl⟩:∃p:Nat,k=p:=⟨k.toNat,by omega⟩
 have h0:¬(p:Int)<0:=by omega
 have h1:(p:Int)<s.size:=by omega
 have hb:((s[p]!).toNat:Int)=byt s p:=rfl;have hw:=kOl (byt s p);have hbb:=kRo s p;have ho:=kRn (byt s p);obtain⟨n,hn⟩:∃n:Nat,(argW (byt s p)).1=n:=⟨_,(Int.toNat_of_nonneg hw.1).symm⟩;by_cases hs:kBb (byt s p)≠0∧(p:Int)+kBb (byt s p)≤s.size;rotate_left
 ·have e:kEc s p=none:=by
   unfold kEc;rw[if_pos hk,Int.toNat_natCast,if_neg hs]
  rw[e];by_cases hz:kBb (byt s p)=0
  ·(repeat' (first|apply zS|apply zB|((first|apply zW| refine zd 13 (h:=?_)|refine zd 10 (h:=?_)|refine zd 6 (h:=?_));simp only[go_sem,h0,h1,hb,hn,hz])|apply And.intro|intro _))
   all_goals first|omega|exact⟨_,_,rfl,_,_,rfl,rfl⟩|rfl|skip
  ·have hz2:¬(p:Int)+kBb (byt s p)≤s.size:=fun h=>hs ⟨hz,h⟩
   have hoz:kBb (byt s p)=(argW (byt s p)).1+1:=by unfold kBb at hz⊢;split at hz<;>simp_all
   have hz3:(s.size:Int)<(p:Int)+1+n:=by omega
   (repeat' (first|apply zS|apply zB|((first|apply zW| refine zd 13 (h:=?_)|refine zd 10 (h:=?_)|refine zd 6 (h:=?_));simp only[go_sem,h0,h1,hb,hn,hz,hz3])|apply And.intro|intro _))
   all_goals first|omega|exact⟨_,_,rfl,_,_,rfl,rfl⟩|rfl|skip
 obtain⟨hs1,hs2⟩:=hs;have hoz:kBb (byt s p)=(argW (byt s p)).1+1:=by unfold kBb at hs1⊢;split at hs1<;>simp_all
 have hz3:¬(s.size:Int)<(p:Int)+1+n:=by omega
 have e:kEc s p=some (⟨byt s p,argV s p n (argW (byt s p)).2⟩,1+(n:Int)):=by
  unfold kEc;rw[if_pos hk,Int.toNat_natCast,if_pos ⟨hs1,hs2⟩,hn,Int.toNat_natCast,hoz,hn,Int.add_comm]
 rw[e];have hn4:n≤4:=by omega
 (repeat' (first|apply zS|apply zB|((first|apply zW| refine zd 13 (h:=?_)|refine zd 10 (h:=?_)|refine zd 6 (h:=?_));simp only[go_sem,h0,h1,hb,hn,hs1,hz3])|apply And.intro|intro _))
 all_goals first|omega|skip
 refine zL (fun j:Nat=>⟨[(0,.v (.string s)),(1,.v (.int .i64 p)),(4,.ptr 4 0 0 0),(7,.ptr 7 0 0 0),(8,.v (.int .i64 n)),(9,.v (.bool (argW (byt s p)).2)),(10,.v (.int .i64 j))],
  [(4,.box 306 [.v (.int .i64 0),.v (.int .i64 0)]),(7,.box 306 [.v (.int .i64 (byt s p)),.v (.int .i64 (leI s p j))])]⟩) (fun j=>j≤n) (fun j=>n-j) 0 (by simp) ?_ ?_
 ·have hl0:leI s p 0=0:=rfl
  (simp only[go_sem,hl0]<;>(first|(and_intros<;>rfl)|simp))
 intro j hj;have hp:=pow8 (n:=j) (by omega)
 have hl:=kRp s p j;by_cases hlt:j<n
 ·have hli:(j:Int)<n:=by omega
  have hq:((p:Int)+1+j).toNat=p+1+j:=by omega
  have hb2:((s[p+1+j]!).toNat:Int)=byt s (p+1+j):=rfl;have hbb2:=kRo s (p+1+j);have hsh:=shL8 hbb2.1 hbb2.2 (k:=j) (by omega)
  have hnx:leI s p (j+1)=leI s p j+byt s (p+1+j)*2 ^ (8*j):=rfl;have hl2:=kRp s p (j+1);have hp2:=pow8 (n:=j+1) (by omega)
  have hqs:(p:Int)+1+j<s.size:=by omega
  (repeat' (first|apply zS|apply zB|((first|apply zW| refine zd 13 (h:=?_)|refine zd 10 (h:=?_)|refine zd 6 (h:=?_));simp only[go_sem,hli,hq,hb2,hsh,hqs])|apply And.intro|intro _))
  all_goals first|omega|skip
  all_goals first|exact⟨j+1,by omega,by omega,by rw[hnx];(first|(and_intros<;>rfl)|simp)⟩|trace_state
 ·have hge:¬(j:Int)<n:=by omega
  obtain rfl:j=n:=by omega
  cases hsg:(argW (byt s p)).2 with
  |false =>
   have ea:argV s p j false=leI s p j:=by unfold argV;rw[if_neg (by simp)]
   rw[ea]
   (repeat' (first|apply zS|apply zB|((first|apply zW| refine zd 13 (h:=?_)|refine zd 10 (h:=?_)|refine zd 6 (h:=?_));simp only[go_sem,hge])|apply And.intro|intro _))
   all_goals first|omega|exact⟨_,_,rfl,_,_,rfl,rfl⟩|rfl|skip
  |true =>
   have hj2:2≤j:=by have:=hw.2.2.2 hsg;omega
   have h8:((8*j:Nat):Int)-1=((8*j-1:Nat):Int):=by omega
   have h8b:(8:Int)*j=((8*j:Nat):Int):=by omega
   have s1:=shl1 (m:=8*j-1) (by omega)
   have s2:=shl1 (m:=8*j) (by omega)
   by_cases hc:(2:Int) ^ (8*j-1)≤leI s p j
   ·have ea:argV s p j true=leI s p j-2 ^ (8*j):=by unfold argV;rw[if_pos ⟨rfl,hc⟩]
    rw[ea]
    (repeat' (first|apply zS|apply zB|((first|apply zW| refine zd 13 (h:=?_)|refine zd 10 (h:=?_)|refine zd 6 (h:=?_));simp only[go_sem,hge,h8,h8b,s1,s2,hc])|apply And.intro|intro _))
    all_goals first|omega|exact⟨_,_,rfl,_,_,rfl,rfl⟩|rfl|skip
   ·have ea:argV s p j true=leI s p j:=by unfold argV;rw[if_neg fun h=>hc h.2]
    rw[ea]
    (repeat' (first|apply zS|apply zB|((first|apply zW| refine zd 13 (h:=?_)|refine zd 10 (h:=?_)|refine zd 6 (h:=?_));simp only[go_sem,hge,h8,h8b,s1,s2,hc])|apply And.intro|intro _))
    all_goals first|omega|exact⟨_,_,rfl,_,_,rfl,rfl⟩|rfl|skip
end
section
noncomputable def qAi:=mkX [(68,k60),(271,kHf),(270,kJb)] (COk.cons c60 (COk.cons qFo (COk.cons qH9 (COk.nil _))))
theorem qOe:qAi.tys=tys:=rfl
theorem qOf:qAi.C=[(68,k60),(271,kHf),(270,kJb)]:=rfl
attribute [local go_sem] qOe qOf k60 kHf kJb
theorem qMr:Cn Tryz.prog 258 kJt:=by
 refine Cn.pur Tryz.func258 (by kernel_rfl) rfl fun d x hx=>?_
 obtain⟨s,k⟩:=x;simp only at hx⊢;refine Holds.go (c:=qAi) Tryz.func258 rfl Tryz.results258 Tryz.ntmps258 (by omega) (by simp) rfl ?_
 intro X0 w0;by_cases hk:0≤k∧k<s.size;rotate_left
 ·have e:kEc s k=none:=if_neg hk;rw[e];have hk':¬(0≤k∧k≤(s.size:Int)-1):=fun h=>hk (by omega)
  have hkd:(decide (0≤k)&&decide (k≤(s.size:Int)-1))=false:=by
   rw[←Bool.decide_and];exact decide_eq_false hk'
  (repeat' (first|apply zS|apply zB|((first|apply zW| refine zd 13 (h:=?_)|refine zd 10 (h:=?_)|refine zd 6 (h:=?_));simp only[go_sem,hkd])|apply And.intro|intro _))
  all_goals first|omega|exact⟨_,_,rfl,_,_,rfl,rfl⟩|rfl|skip
 obtain⟨p,rfl⟩:∃p:Nat,k=p:=⟨k.toNat,by omega⟩
 have h0:¬(p:Int)<0:=by omega
 have h1:(p:Int)<s.size:=by omega
 have h1b:(p:Int)≤(s.size:Int)-1:=by omega
 have h0b:(0:Int)≤p:=by omega
 have hb:((s[p]!).toNat:Int)=byt s p:=rfl;have hw:=kOl (byt s p);have hbb:=kRo s p;have ho:=kRn (byt s p);obtain⟨n,hn⟩:∃n:Nat,(argW (byt s p)).1=n:=⟨_,(Int.toNat_of_nonneg hw.1).symm⟩;by_cases hs:kBb (byt s p)≠0∧(p:Int)+kBb (byt s p)≤s.size;rotate_left
 ·have e:kEc s p=none:=by
   unfold kEc;rw[if_pos hk,Int.toNat_natCast,if_neg hs]
  rw[e];by_cases hz:kBb (byt s p)=0
  ·(repeat' (first|apply zS|apply zB|((first|apply zW| refine zd 13 (h:=?_)|refine zd 10 (h:=?_)|refine zd 6 (h:=?_));simp only[go_sem,h0b,h1,h1b,hb,hn,hz])|apply And.intro|intro _))
   all_goals first|omega|exact⟨_,_,rfl,_,_,rfl,rfl⟩|rfl|skip
  ·have hz2:¬(p:Int)+kBb (byt s p)≤s.size:=fun h=>hs ⟨hz,h⟩
   have hoz:kBb (byt s p)=(argW (byt s p)).1+1:=by unfold kBb at hz⊢;split at hz<;>simp_all
   have hz3:(s.size:Int)<(p:Int)+kBb (byt s p):=by omega
   (repeat' (first|apply zS|apply zB|((first|apply zW| refine zd 13 (h:=?_)|refine zd 10 (h:=?_)|refine zd 6 (h:=?_));simp only[go_sem,h0b,h1,h1b,hb,hn,hz,hz3])|apply And.intro|intro _))
   all_goals first|omega|exact⟨_,_,rfl,_,_,rfl,rfl⟩|rfl|skip
 obtain⟨hs1,hs2⟩:=hs;have hoz:kBb (byt s p)=(argW (byt s p)).1+1:=by unfold kBb at hs1⊢;split at hs1<;>simp_all
 have hz3:¬(s.size:Int)<(p:Int)+kBb (byt s p):=by omega
 have e:kEc s p=some (⟨byt s p,argV s p n (argW (byt s p)).2⟩,kBb (byt s p)):=by
  unfold kEc;rw[if_pos hk,Int.toNat_natCast,if_pos ⟨hs1,hs2⟩,hn,Int.toNat_natCast]
 rw[e];have hn4:n≤4:=by omega
 (repeat' (first|apply zS|apply zB|((first|apply zW| refine zd 13 (h:=?_)|refine zd 10 (h:=?_)|refine zd 6 (h:=?_));simp only[go_sem,h0b,h1,h1b,hb,hn,hs1,hz3])|apply And.intro|intro _))
 all_goals first|omega|skip
 refine zL (fun j:Nat=>⟨[(0,.v (.string s)),(1,.v (.int .i64 p)),(4,.ptr 4 0 0 0),(7,.ptr 7 0 0 0),(8,.v (.int .i64 (kBb (byt s p)))),(9,.v (.int .i64 n)),(10,.v (.bool (argW (byt s p)).2)),(11,.v (.int .i64 j))],
  [(4,.box 306 [.v (.int .i64 0),.v (.int .i64 0)]),(7,.box 306 [.v (.int .i64 (byt s p)),.v (.int .i64 (leI s p j))])]⟩) (fun j=>j≤n) (fun j=>n-j) 0 (by simp) ?_ ?_
 ·have hl0:leI s p 0=0:=rfl
  (simp only[go_sem,hl0]<;>(first|(and_intros<;>rfl)|simp))
 intro j hj;have hp:=pow8 (n:=j) (by omega)
 have hl:=kRp s p j;by_cases hlt:j<n
 ·have hli:(j:Int)<n:=by omega
  have hq:((p:Int)+1+j).toNat=p+1+j:=by omega
  have hb2:((s[p+1+j]!).toNat:Int)=byt s (p+1+j):=rfl;have hbb2:=kRo s (p+1+j);have hsh:=shL8 hbb2.1 hbb2.2 (k:=j) (by omega)
  have hor:=or8 (a:=leI s p j) (c:=byt s (p+1+j)) (k:=j) (by omega) hl.1 hl.2 hbb2.1 hbb2.2
  have hnx:leI s p (j+1)=leI s p j+byt s (p+1+j)*2 ^ (8*j):=rfl;have hl2:=kRp s p (j+1);have hp2:=pow8 (n:=j+1) (by omega)
  have hqs:(p:Int)+1+j<s.size:=by omega
  (repeat' (first|apply zS|apply zB|((first|apply zW| refine zd 13 (h:=?_)|refine zd 10 (h:=?_)|refine zd 6 (h:=?_));simp only[go_sem,hli,hq,hb2,hsh,hqs,hor])|apply And.intro|intro _))
  all_goals first|omega|skip
  all_goals first|exact⟨j+1,by omega,by omega,by rw[hnx];(first|(and_intros<;>rfl)|simp)⟩|trace_state
 ·have hge:¬(j:Int)<n:=by omega
  obtain rfl:j=n:=by omega
  cases hsg:(argW (byt s p)).2 with
  |false =>
   have ea:argV s p j false=leI s p j:=by unfold argV;rw[if_neg (by simp)]
   rw[ea]
   (repeat' (first|apply zS|apply zB|((first|apply zW| refine zd 13 (h:=?_)|refine zd 10 (h:=?_)|refine zd 6 (h:=?_));simp only[go_sem,hge])|apply And.intro|intro _))
   all_goals first|omega|exact⟨_,_,rfl,_,_,rfl,rfl⟩|rfl|skip
  |true =>
   have hj2:2≤j:=by have:=hw.2.2.2 hsg;omega
   have h8:((8*j:Nat):Int)-1=((8*j-1:Nat):Int):=by omega
   have h8b:(8:Int)*j=((8*j:Nat):Int):=by omega
   have s1:=shl1 (m:=8*j-1) (by omega)
   have s2:=shl1 (m:=8*j) (by omega)
   by_cases hc:(2:Int) ^ (8*j-1)≤leI s p j
   ·have ea:argV s p j true=leI s p j-2 ^ (8*j):=by unfold argV;rw[if_pos ⟨rfl,hc⟩]
    rw[ea]
    (repeat' (first|apply zS|apply zB|((first|apply zW| refine zd 13 (h:=?_)|refine zd 10 (h:=?_)|refine zd 6 (h:=?_));simp only[go_sem,hge,h8,h8b,s1,s2,hc])|apply And.intro|intro _))
    all_goals first|omega|exact⟨_,_,rfl,_,_,rfl,rfl⟩|rfl|skip
   ·have ea:argV s p j true=leI s p j:=by unfold argV;rw[if_neg fun h=>hc h.2]
    rw[ea]
    (repeat' (first|apply zS|apply zB|((first|apply zW| refine zd 13 (h:=?_)|refine zd 10 (h:=?_)|refine zd 6 (h:=?_));simp only[go_sem,hge,h8,h8b,s1,s2,hc])|apply And.intro|intro _))
    all_goals first|omega|exact⟨_,_,rfl,_,_,rfl,rfl⟩|rfl|skip
end
end Go.Proofs.YtjdklcjoeanimaaGreat

namespace Go.Proofs.YtjdklcjoeanimaaGreat
open Go.Vc
attribute [local irreducible] Go.Vc.WP
attribute [local go_sem] kAd kAe
open Go.Pl
theorem isV_Op {e s:Nat}(L:List Op):(Ob.sl e s (L.map kWc)).isV↔True:=iff_true_intro (by
 intro row hr c hc;obtain⟨n,_,rfl⟩:=List.mem_map.1 hr;simp only[kWc,List.mem_cons,List.not_mem_nil,or_false]at hc;rcases hc with rfl|rfl<;>exact⟨_,rfl⟩)
attribute [local go_sem] isV_Op
def kP6 (s:ByteArray):Nat→Nat→Option (List Op)
 | 0,_=>some []
 |f+1,p=>if p<s.size then(match kEc s p with
   |some x=>(kP6 s f (p+x.2.toNat)).map (x.1::·)
   |none=>none)else some []
def kIk (s:ByteArray):Option (List Op):=kP6 s (s.size+1) 0
theorem kP7 {s:ByteArray}{p:Int}{x:Op×Int}(h:kEc s p=some x):1≤x.2∧x.2≤5∧p+x.2≤s.size:=by
 unfold kEc at h;split at h
 ·split at h
  ·rename_i h1 h2;cases h;have:=kRn (byt s p.toNat);simp only;omega
  ·cases h
 ·cases h
def kDis:Ctr:=pur (fun args=>aS args 0) (fun s=>[.v (.string s)]) (fun s=>s.size≤4194304)
 (fun d s=>.tup [.own d,.v (.bool (kIk s).isSome)]) (fun d s=>[(d,.sl 306 2 (((kIk s).getD []).map kWc))])
structure DisI (s:ByteArray) (q:Nat×List Op):Prop where
 le:q.1≤s.size
 len:q.2.length≤q.1
 eq:∃f,s.size+1≤f+q.1∧kIk s=(kP6 s f q.1).map (q.2++·)
theorem DisI.zero (s:ByteArray):DisI s (0,[]):=⟨by simp,by simp,s.size+1,by simp,by unfold kIk;simp⟩
theorem DisI.bad {s:ByteArray}{q:Nat×List Op}(h:DisI s q) (hq:q.1<s.size) (hb:kEc s q.1=none):kIk s=none:=by
 obtain⟨f,hf,e⟩:=h.eq;obtain⟨g,rfl⟩:∃g,f=g+1:=⟨f-1,by omega⟩
 rw[e,kP6,if_pos hq,hb];rfl
theorem DisI.next {s:ByteArray}{q:Nat×List Op}(h:DisI s q) (hq:q.1<s.size) {x:Op×Int}(hb:kEc s q.1=some x):DisI s (q.1+x.2.toNat,q.2++[x.1]):=by
 obtain⟨f,hf,e⟩:=h.eq;obtain⟨g,rfl⟩:∃g,f=g+1:=⟨f-1,by omega⟩
 have hs:=kP7 hb;have hl:=h.len;refine⟨by simp only;omega,by simp;omega,g,by simp only;omega,?_⟩
 rw[e,kP6,if_pos hq,hb];simp only[Option.map_map];congr 1;funext l;simp
theorem DisI.done {s:ByteArray}{q:Nat×List Op}(h:DisI s q) (hq:¬q.1<s.size):kIk s=some q.2:=by
 obtain⟨f,hf,e⟩:=h.eq
 have:kP6 s f q.1=some []:=by
  cases f with
  |zero=>rfl
  |succ g=>rw[kP6,if_neg hq]
 rw[e,this];simp
section
noncomputable def k9p:=mkX [(258,kJt)] (COk.cons qMr (COk.nil _))
theorem qMs:k9p.tys=tys:=rfl
theorem qMt:k9p.C=[(258,kJt)]:=rfl
attribute [local go_sem] qMs qMt kJt
theorem cDisI:Cn Tryz.prog 233 kDis:=by
 refine Cn.pur Tryz.func233 (by kernel_rfl) rfl fun d x hx=>?_
 rename ByteArray=>s
 refine Holds.go (c:=k9p) Tryz.func233 rfl Tryz.results233 Tryz.ntmps233 (by omega) (by simp) rfl ?_
 intro X0 w0
 (repeat' (first|apply zS|apply zB|(apply zW;simp only[go_sem])|apply And.intro|intro _))
 all_goals first|omega|skip
 refine zL (fun q:Nat×List Op=>⟨[(0,.v (.string s)),(4,.own 9),(5,.v (.int .i64 q.1))],[(9,.sl 306 2 (q.2.map kWc))]⟩) (fun q=>DisI s q) (fun q=>s.size-q.1) (0,[]) (DisI.zero s) ?_ ?_
 ·(simp only[go_sem]<;>(first|(and_intros<;>rfl)|simp))
 rintro⟨p,A⟩ hI;have h1:=hI.le;have h2:=hI.len;simp only at h1 h2⊢;by_cases hlt:p<s.size
 ·have hli:(p:Int)<s.size:=by omega
  cases hb:kEc s p with
  |none =>
   have e:=hI.bad hlt hb;have hN:(none:Option (Op×Int)).map (·.1)=none:=rfl
   (repeat' (first|apply zS|apply zB|(apply zW;simp only[go_sem,hli,hb,e])|apply And.intro|intro _))
   all_goals first|omega|(rw[e];first|rfl|exact⟨_,_,rfl⟩)|exact⟨_,_,rfl⟩|skip
  |some x =>
   have e:=hI.next hlt hb;have hs:=kP7 hb;obtain⟨n,hn⟩:∃n:Nat,x.2=n:=⟨_,(Int.toNat_of_nonneg (by omega)).symm⟩
   rw[hn,Int.toNat_natCast]at e;simp only at e
   (repeat' (first|apply zS|apply zB|(apply zW;simp only[go_sem,hli,hb,hn])|apply And.intro|intro _))
   all_goals first|omega|skip
   all_goals first|exact⟨(p+n,A++[x.1]),e,by simp only;omega,by rw[Int.natCast_add],by rw[List.map_append];rfl⟩|trace_state
 ·have hge:¬(p:Int)<s.size:=by omega
  have e:=hI.done hlt
  (repeat' (first|apply zS|apply zB|(apply zW;simp only[go_sem,hge,e])|apply And.intro|intro _))
  all_goals first|omega|(rw[e];rfl)|skip
end
section
noncomputable def k9q:=mkX [(253,kJt)] (COk.cons qMu (COk.nil _))
theorem qMv:k9q.tys=tys:=rfl
theorem qMw:k9q.C=[(253,kJt)]:=rfl
attribute [local go_sem] qMv qMw kJt
theorem cDisS:Cn Tryz.prog 220 kDis:=by
 refine Cn.pur Tryz.func220 (by kernel_rfl) rfl fun d x hx=>?_
 rename ByteArray=>s
 refine Holds.go (c:=k9q) Tryz.func220 rfl Tryz.results220 Tryz.ntmps220 (by omega) (by simp) rfl ?_
 intro X0 w0
 (repeat' (first|apply zS|apply zB|(apply zW;simp only[go_sem])|apply And.intro|intro _))
 all_goals first|omega|skip
 refine zL (fun q:Nat×List Op=>⟨[(0,.v (.string s)),(4,.own 9),(5,.v (.int .i64 q.1))],[(9,.sl 306 2 (q.2.map kWc))]⟩) (fun q=>DisI s q) (fun q=>s.size-q.1) (0,[]) (DisI.zero s) ?_ ?_
 ·(simp only[go_sem]<;>(first|(and_intros<;>rfl)|simp))
 rintro⟨p,A⟩ hI;have h1:=hI.le;have h2:=hI.len;simp only at h1 h2⊢;by_cases hlt:p<s.size
 ·have hli:(p:Int)<s.size:=by omega
  cases hb:kEc s p with
  |none =>
   have e:=hI.bad hlt hb;have hN:(none:Option (Op×Int)).map (·.1)=none:=rfl
   (repeat' (first|apply zS|apply zB|(apply zW;simp only[go_sem,hli,hb,e])|apply And.intro|intro _))
   all_goals first|omega|(rw[e];first|rfl|exact⟨_,_,rfl⟩)|exact⟨_,_,rfl⟩|skip
  |some x =>
   have e:=hI.next hlt hb;have hs:=kP7 hb;obtain⟨n,hn⟩:∃n:Nat,x.2=n:=⟨_,(Int.toNat_of_nonneg (by omega)).symm⟩
   rw[hn,Int.toNat_natCast]at e;simp only at e
   (repeat' (first|apply zS|apply zB|(apply zW;simp only[go_sem,hli,hb,hn])|apply And.intro|intro _))
   all_goals first|omega|skip
   all_goals first|exact⟨(p+n,A++[x.1]),e,by simp only;omega,by rw[Int.natCast_add],by rw[List.map_append];rfl⟩|trace_state
 ·have hge:¬(p:Int)<s.size:=by omega
  have e:=hI.done hlt
  (repeat' (first|apply zS|apply zB|(apply zW;simp only[go_sem,hge,e])|apply And.intro|intro _))
  all_goals first|omega|(rw[e];rfl)|skip
end
end Go.Proofs.YtjdklcjoeanimaaGreat

namespace Go.Proofs.YtjdklcjoeanimaaGreat
open Go.Vc
attribute [local irreducible] Go.Vc.WP
attribute [local go_sem] kAd kAe
open Go.Pl
attribute [local go_sem] kFh kAj kE0
def cutS (s:ByteArray) (a b:Nat):ByteArray:=s.extract a b
def kGh (c:ByteArray) (Y:List Symbol) (y:Symbol) (k a:Nat):Bool :=
 decide (y.start=a∧1≤y.size∧y.size≤(c.size:Int)-a)&&kDw y.name&&(Y.take k).all (fun x=>decide (x.name≠y.name))&&(kIk (cutS c a (a+y.size.toNat))).isSome
def kEe (c:ByteArray) (Y:List Symbol):Nat→Option Nat
 | 0=>some 0
 |k+1=>match kEe c Y k,Y[k]? with
  |some a,some y=>if kGh c Y y k a=true then some (a+y.size.toNat)else none
  | _,_=>none
def kDz (c:ByteArray) (Y:List Symbol):Bool:=match kEe c Y Y.length with
 |some a=>decide (a=c.size)&&decide (c.size≤1000000)
 |none=>false
theorem kQa {c:ByteArray}{Y:List Symbol}{k:Nat}(h:kEe c Y k=none):∀m,kEe c Y (k+m)=none
 | 0=>h
 |m+1=>by
  have ih:=kQa h m;show(match kEe c Y (k+m),Y[k+m]? with|some a,some y=>if kGh c Y y (k+m) a=true then some (a+y.size.toNat)else none|_,_=>none)=none
  rw[ih]
theorem k68 {c:ByteArray}{Y:List Symbol}{k a:Nat}(h:kEe c Y k=some a) (hk:k<Y.length) (hb:kGh c Y Y[k] k a=false):kDz c Y=false:=by
 have h1:kEe c Y (k+1)=none:=by
  rw[kEe,h,List.getElem?_eq_getElem hk];simp only;rw[if_neg (by rw[hb];simp)]
 have h2:=kQa h1 (Y.length-(k+1));rw[show k+1+(Y.length-(k+1))=Y.length by omega]at h2
 unfold kDz;rw[h2]
theorem k3i {c:ByteArray}{Y:List Symbol}{k a:Nat}(h:kEe c Y k=some a) (hk:k<Y.length) (hb:kGh c Y Y[k] k a=true):kEe c Y (k+1)=some (a+Y[k].size.toNat)∧1≤Y[k].size∧a+Y[k].size.toNat≤c.size:=by
 refine⟨?_,?_⟩
 ·rw[kEe,h,List.getElem?_eq_getElem hk];simp only;rw[if_pos hb]
 ·unfold kGh at hb;simp only[Bool.and_eq_true,decide_eq_true_eq]at hb;omega
theorem k69 {c:ByteArray}{Y:List Symbol}{a:Nat}(h:kEe c Y Y.length=some a):kDz c Y=(decide (a=c.size)&&decide (c.size≤1000000)):=by
 unfold kDz;rw[h]
theorem qNg {c:ByteArray}{Y:List Symbol}(h:1000000<c.size):kDz c Y=false:=by
 unfold kDz;split
 ·rw[decide_eq_false (by omega:¬c.size≤1000000),Bool.and_false]
 ·rfl
def qFi (x:ByteArray×List Symbol):Prop:=x.1.size≤4194304∧x.2.length≤4194304∧∀y∈x.2,y.name.size≤4194304
def imgA (args:List SV) (i:Nat):ByteArray×List Symbol:=match args[i]? with
 |some (.agg [.v (.string c),.sl _ r])=>(c,kDp r)
 | _=>(⟨#[]⟩,[])
attribute [local go_sem] imgA
def kLi:Ctr:=pur (fun args=>imgA args 0) (fun x=>[.agg [.v (.string x.1),.sl 3 (x.2.map encSymbol)]]) qFi (fun _ x=>.v (.bool (kDz x.1 x.2))) (fun _ _=>[])
theorem k3j {c:ByteArray}{Y:List Symbol}{y:Symbol}{k a:Nat}(h:¬(y.start=a∧1≤y.size∧y.size≤(c.size:Int)-a)):kGh c Y y k a=false:=by
 unfold kGh;rw[decide_eq_false h];rfl
theorem k3k {c:ByteArray}{Y:List Symbol}{y:Symbol}{k a:Nat}(h:kDw y.name=false):kGh c Y y k a=false:=by
 unfold kGh;rw[h,Bool.and_false];rfl
theorem k3l {c:ByteArray}{Y:List Symbol}{y:Symbol}{k a j:Nat}(hj:j<Y.length) (hjk:j<k) (h:Y[j].name=y.name):kGh c Y y k a=false:=by
 have:(Y.take k).all (fun x=>decide (x.name≠y.name))=false:=by
  rw[List.all_eq_false];refine⟨Y[j],?_,by simp[h]⟩
  rw[List.mem_iff_getElem];exact⟨j,by rw[List.length_take];omega,by rw[List.getElem_take]⟩
 unfold kGh;rw[this,Bool.and_false];rfl
theorem k7a {c:ByteArray}{Y:List Symbol}{y:Symbol}{k a:Nat}(h1:y.start=a∧1≤y.size∧y.size≤(c.size:Int)-a) (h2:kDw y.name=true) (h3:∀j (hj:j<Y.length),j<k→Y[j].name≠y.name) :
  kGh c Y y k a=(kIk (cutS c a (a+y.size.toNat))).isSome:=by
 have:(Y.take k).all (fun x=>decide (x.name≠y.name))=true:=by
  rw[List.all_eq_true];intro x hx;obtain⟨j,hj,rfl⟩:=List.mem_iff_getElem.1 hx;rw[List.length_take]at hj;rw[List.getElem_take,decide_eq_true_eq];exact h3 j (by omega) (by omega)
 unfold kGh;rw[decide_eq_true h1,h2,this];rfl
theorem kZu (c:ByteArray) (a b:Nat):(cutS c a b).size≤c.size:=by
 unfold cutS;rw[ByteArray.size_extract];omega
section
noncomputable def k93:=mkX [(232,kCp),(233,kDis)] (COk.cons kUu (COk.cons cDisI (COk.nil _)))
theorem qNh:k93.tys=tys:=rfl
theorem qNi:k93.C=[(232,kCp),(233,kDis)]:=rfl
attribute [local go_sem] qNh qNi kCp kDis
theorem qNj:Cn Tryz.prog 178 kLi:=by
 refine Cn.pur Tryz.func178 (by kernel_rfl) rfl fun d x hx=>?_
 obtain⟨c,Y⟩:=x;obtain⟨hc,hY,hN⟩:=hx;simp only at hc hY hN⊢;refine Holds.go (c:=k93) Tryz.func178 rfl Tryz.results178 Tryz.ntmps178 (by omega) (by simp) rfl ?_
 intro X0 w0;by_cases hbig:1000000<c.size
 ·have hbi:(1000000:Int)<c.size:=by omega
  rw[qNg hbig]
  (repeat' (first|apply zS|apply zB|(apply zW;simp only[go_sem,hbi])|apply And.intro|intro _))
  all_goals first|omega|skip
 have hbi:¬(1000000:Int)<c.size:=by omega
 (repeat' (first|apply zS|apply zB|(apply zW;simp only[go_sem,hbi])|apply And.intro|intro _))
 all_goals first|omega|skip
 refine zL (fun q:Nat×Nat=>⟨[(1,.ptr 1 0 0 0),(3,.v (.int .i64 q.2)),(15,.sl 3 (Y.map encSymbol)),(16,.v (.int .i64 Y.length)),(17,.v (.int .i64 q.1))],[(1,.box 144 [.v (.string c),.sl 3 (Y.map encSymbol)])]⟩)
  (fun q=>q.1≤Y.length∧kEe c Y q.1=some q.2∧q.2≤c.size) (fun q=>Y.length-q.1) (0,0) ⟨by simp,rfl,by simp⟩ ?_ ?_
 ·(simp only[go_sem]<;>(first|(and_intros<;>rfl)|simp))
 rintro⟨k,a⟩ ⟨hk,hI,ha⟩;simp only at hk hI ha⊢;by_cases hlt:k<Y.length;rotate_left
 ·have hge:¬(k:Int)<Y.length:=by omega
  obtain rfl:k=Y.length:=by omega
  rw[k69 hI,decide_eq_true (by omega:c.size≤1000000),Bool.and_true]
  have e:decide (a=c.size)=((a:Int)==c.size):=by rw[Bool.eq_iff_iff,decide_eq_true_eq,beq_iff_eq];omega
  rw[e]
  (repeat' (first|apply zS|apply zB|(apply zW;simp only[go_sem,hge])|apply And.intro|intro _))
  all_goals first|omega|rfl|skip
 have hli:(k:Int)<Y.length:=by omega
 have hr:=kAa encSymbol Y k hlt;have hbad:=k68 hI hlt;have hnext:=k3i hI hlt;have hnm:=hN _ (List.getElem_mem hlt);have hy0:kCq (encSymbol Y[k])=Y[k]:=rfl;generalize hye:Y[k]=y at *;by_cases hc1:y.start=a∧1≤y.size∧y.size≤(c.size:Int)-a;rotate_left
 ·rw[hbad (k3j hc1)];by_cases d1:y.start=a
  ·by_cases d2:y.size<1
   ·(repeat' (first|apply zS|apply zB|(apply zW;simp only[go_sem,hli,hr,encSymbol,d1,d2])|apply And.intro|intro _))
    all_goals first|omega|skip
   ·have d3:(c.size:Int)-a<y.size:=by omega
    (repeat' (first|apply zS|apply zB|(apply zW;simp only[go_sem,hli,hr,encSymbol,d1,d2,d3])|apply And.intro|intro _))
    all_goals first|omega|skip
  ·(repeat' (first|apply zS|apply zB|(apply zW;simp only[go_sem,hli,hr,encSymbol,d1])|apply And.intro|intro _))
   all_goals first|omega|skip
 obtain⟨d1,d2,d3⟩:=hc1;have e2:¬y.size<1:=by omega
 have e3:¬(c.size:Int)-a<y.size:=by omega
 cases hn:kDw y.name with
 |false =>
  rw[hbad (k3k hn)]
  (repeat' (first|apply zS|apply zB|(apply zW;simp only[go_sem,hli,hr,encSymbol,d1,e2,e3,hn])|apply And.intro|intro _))
  all_goals first|omega|skip
 |true =>
 (repeat' (first|apply zS|apply zB|(apply zW;simp only[go_sem,hli,hr,encSymbol,d1,e2,e3,hn,←List.map_take])|apply And.intro|intro _))
 all_goals first|omega|skip
 have htl:(Y.take k).length=k:=by rw[List.length_take];omega
 refine zL (fun j:Nat=>⟨[(1,.ptr 1 0 0 0),(3,.v (.int .i64 a)),(5,.ptr 5 0 0 0),(15,.sl 3 (Y.map encSymbol)),(16,.v (.int .i64 Y.length)),(17,.v (.int .i64 k)),(50,.sl 3 ((Y.take k).map encSymbol)),(51,.v (.int .i64 k)),(52,.v (.int .i64 j))],
   [(1,.box 144 [.v (.string c),.sl 3 (Y.map encSymbol)]),(5,.box 214 [.v (.string y.name),.v (.int .i64 a),.v (.int .i64 y.size)])]⟩)
  (fun j=>j≤k∧∀i (hi:i<Y.length),i<j→Y[i].name≠y.name) (fun j=>k-j) 0 (by simp) ?_ ?_
 ·(simp only[go_sem,htl,d1]<;>(first|(and_intros<;>rfl)|simp))
 intro j ⟨hj,hf⟩;by_cases hjk:j<k
 ·have hjki:(j:Int)<k:=by omega
  have hjl:j<Y.length:=by omega
  have hr2:=kAa encSymbol (Y.take k) j (by omega)
  rw[List.getElem_take]at hr2;have hjti:(j:Int)<(Y.take k).length:=by omega
  by_cases he:Y[j].name=y.name
  ·rw[hbad (k3l hjl hjk he)]
   (repeat' (first|apply zS|apply zB|(apply zW;simp only[go_sem,hjki,hjti,hr2,encSymbol,he])|apply And.intro|intro _))
   all_goals first|omega|skip
  ·(repeat' (first|apply zS|apply zB|(apply zW;simp only[go_sem,hjki,hjti,hr2,encSymbol,he])|apply And.intro|intro _))
   all_goals first|omega|skip
   all_goals first|exact⟨j+1,⟨by omega,fun i hi hij=>by
    rcases Nat.lt_or_ge i j with h|h
    ·exact hf i hi h
    ·have:i=j:=by omega
     subst this;exact he⟩,by omega,by(first|(and_intros<;>rfl)|simp)⟩|trace_state
 ·have hjki:¬(j:Int)<k:=by omega
  have hso:=k7a (c:=c) (Y:=Y) (y:=y) (k:=k) (a:=a) ⟨d1,d2,d3⟩ hn fun i hi hik=>hf i hi (by omega)
  obtain⟨z,hz⟩:∃z:Nat,y.size=z:=⟨_,(Int.toNat_of_nonneg (by omega)).symm⟩
  have haz:((a:Int)+z).toNat=a+z:=by omega
  have hcu:c.extract a (a+z)=cutS c a (a+z):=rfl;have hcs:=kZu c a (a+z);rw[hz,Int.toNat_natCast]at hso
  cases hds:(kIk (cutS c a (a+z))).isSome with
  |false =>
   rw[hds]at hso;rw[hbad hso]
   (repeat' (first|apply zS|apply zB|(apply zW;simp only[go_sem,hjki,hz,haz,hcu,hds])|apply And.intro|intro _))
   all_goals first|omega|skip
  |true =>
   rw[hds]at hso;obtain⟨n1,n2,n3⟩:=hnext hso;rw[hz,Int.toNat_natCast]at n1 n3
   (repeat' (first|apply zS|apply zB|(apply zW;simp only[go_sem,hjki,hz,haz,hcu,hds])|apply And.intro|intro _))
   all_goals first|omega|skip
   all_goals first|exact⟨(k+1,a+z),⟨by simp only;omega,n1,n3⟩,by simp only;omega,by(first|(and_intros<;>rfl)|simp)⟩|trace_state
end
section
noncomputable def k94:=mkX [(219,kCp),(220,kDis)] (COk.cons kUv (COk.cons cDisS (COk.nil _)))
theorem qNk:k94.tys=tys:=rfl
theorem qNl:k94.C=[(219,kCp),(220,kDis)]:=rfl
attribute [local go_sem] qNk qNl kCp kDis
theorem qNm:Cn Tryz.prog 152 kLi:=by
 refine Cn.pur Tryz.func152 (by kernel_rfl) rfl fun d x hx=>?_
 obtain⟨c,Y⟩:=x;obtain⟨hc,hY,hN⟩:=hx;simp only at hc hY hN⊢;refine Holds.go (c:=k94) Tryz.func152 rfl Tryz.results152 Tryz.ntmps152 (by omega) (by simp) rfl ?_
 intro X0 w0
 (repeat' (first|apply zS|apply zB|((first|apply zW| refine zd 9 (h:=?_));simp only[go_sem])|apply And.intro|intro _))
 all_goals first|omega|skip
 refine zL (fun q:Nat×Nat=>⟨[(1,.ptr 1 0 0 0),(3,.v (.int .i64 q.2)),(4,.v (.int .i64 q.1))],[(1,.box 144 [.v (.string c),.sl 3 (Y.map encSymbol)])]⟩)
  (fun q=>q.1≤Y.length∧kEe c Y q.1=some q.2∧q.2≤c.size) (fun q=>Y.length-q.1) (0,0) ⟨by simp,rfl,by simp⟩ ?_ ?_
 ·(simp only[go_sem]<;>(first|(and_intros<;>rfl)|simp))
 rintro⟨k,a⟩ ⟨hk,hI,ha⟩;simp only at hk hI ha⊢;by_cases hlt:k<Y.length;rotate_left
 ·have hge:¬(k:Int)<Y.length:=by omega
  obtain rfl:k=Y.length:=by omega
  have e:decide (a=c.size)=((a:Int)==c.size):=by rw[Bool.eq_iff_iff,decide_eq_true_eq,beq_iff_eq];omega
  have e':decide (c.size≤1000000)=decide ((c.size:Int)≤1000000):=decide_eq_decide.2 (by omega)
  rw[k69 hI,e,e']
  (repeat' (first|apply zS|apply zB|((first|apply zW| refine zd 9 (h:=?_));simp only[go_sem,hge])|apply And.intro|intro _))
  all_goals first|omega|rfl|skip
 have hli:(k:Int)<Y.length:=by omega
 have hr:=kAa encSymbol Y k hlt;have hbad:=k68 hI hlt;have hnext:=k3i hI hlt;have hnm:=hN _ (List.getElem_mem hlt);have hy0:kCq (encSymbol Y[k])=Y[k]:=rfl;generalize hye:Y[k]=y at *;by_cases hc1:y.start=a∧1≤y.size∧y.size≤(c.size:Int)-a;rotate_left
 ·rw[hbad (k3j hc1)];by_cases d1:y.start=a
  ·by_cases d2:y.size<1
   ·(repeat' (first|apply zS|apply zB|((first|apply zW| refine zd 9 (h:=?_));simp only[go_sem,hli,hr,encSymbol,d1,d2])|apply And.intro|intro _))
    all_goals first|omega|skip
   ·have d3:(c.size:Int)-a<y.size:=by omega
    (repeat' (first|apply zS|apply zB|((first|apply zW| refine zd 9 (h:=?_));simp only[go_sem,hli,hr,encSymbol,d1,d2,d3])|apply And.intro|intro _))
    all_goals first|omega|skip
  ·(repeat' (first|apply zS|apply zB|((first|apply zW| refine zd 9 (h:=?_));simp only[go_sem,hli,hr,encSymbol,d1])|apply And.intro|intro _))
   all_goals first|omega|skip
 obtain⟨d1,d2,d3⟩:=hc1;have e2:¬y.size<1:=by omega
 have e3:¬(c.size:Int)-a<y.size:=by omega
 cases hn:kDw y.name with
 |false =>
  rw[hbad (k3k hn)]
  (repeat' (first|apply zS|apply zB|((first|apply zW| refine zd 9 (h:=?_));simp only[go_sem,hli,hr,encSymbol,d1,e2,e3,hn])|apply And.intro|intro _))
  all_goals first|omega|skip
 |true =>
 (repeat' (first|apply zS|apply zB|((first|apply zW| refine zd 9 (h:=?_));simp only[go_sem,hli,hr,encSymbol,d1,e2,e3,hn])|apply And.intro|intro _))
 all_goals first|omega|skip
 have htl:(Y.take k).length=k:=by rw[List.length_take];omega
 refine zL (fun j:Nat=>⟨[(1,.ptr 1 0 0 0),(3,.v (.int .i64 a)),(4,.v (.int .i64 k)),(5,.ptr 5 0 0 0),(6,.v (.int .i64 j))],
   [(1,.box 144 [.v (.string c),.sl 3 (Y.map encSymbol)]),(5,.box 214 [.v (.string y.name),.v (.int .i64 a),.v (.int .i64 y.size)])]⟩)
  (fun j=>j≤k∧∀i (hi:i<Y.length),i<j→Y[i].name≠y.name) (fun j=>k-j) 0 (by simp) ?_ ?_
 ·(simp only[go_sem,htl,d1]<;>(first|(and_intros<;>rfl)|simp))
 intro j ⟨hj,hf⟩;by_cases hjk:j<k
 ·have hjki:(j:Int)<k:=by omega
  have hjl:j<Y.length:=by omega
  have hr2:=kAa encSymbol Y j hjl;have hjti:(j:Int)<Y.length:=by omega
  by_cases he:Y[j].name=y.name
  ·rw[hbad (k3l hjl hjk he)]
   (repeat' (first|apply zS|apply zB|((first|apply zW| refine zd 9 (h:=?_));simp only[go_sem,hjki,hjti,hr2,encSymbol,he])|apply And.intro|intro _))
   all_goals first|omega|skip
  ·(repeat' (first|apply zS|apply zB|((first|apply zW| refine zd 9 (h:=?_));simp only[go_sem,hjki,hjti,hr2,encSymbol,he])|apply And.intro|intro _))
   all_goals first|omega|skip
   all_goals first|exact⟨j+1,⟨by omega,fun i hi hij=>by
    rcases Nat.lt_or_ge i j with h|h
    ·exact hf i hi h
    ·have:i=j:=by omega
     subst this;exact he⟩,by omega,by(first|(and_intros<;>rfl)|simp)⟩|trace_state
 ·have hjki:¬(j:Int)<k:=by omega
  have hso:=k7a (c:=c) (Y:=Y) (y:=y) (k:=k) (a:=a) ⟨d1,d2,d3⟩ hn fun i hi hik=>hf i hi (by omega)
  obtain⟨z,hz⟩:∃z:Nat,y.size=z:=⟨_,(Int.toNat_of_nonneg (by omega)).symm⟩
  have haz:((a:Int)+z).toNat=a+z:=by omega
  have hcu:c.extract a (a+z)=cutS c a (a+z):=rfl;have hcs:=kZu c a (a+z);rw[hz,Int.toNat_natCast]at hso
  cases hds:(kIk (cutS c a (a+z))).isSome with
  |false =>
   rw[hds]at hso;rw[hbad hso]
   (repeat' (first|apply zS|apply zB|((first|apply zW| refine zd 9 (h:=?_));simp only[go_sem,hjki,hz,haz,hcu,hds])|apply And.intro|intro _))
   all_goals first|omega|skip
  |true =>
   rw[hds]at hso;obtain⟨n1,n2,n3⟩:=hnext hso;rw[hz,Int.toNat_natCast]at n1 n3
   (repeat' (first|apply zS|apply zB|((first|apply zW| refine zd 9 (h:=?_));simp only[go_sem,hjki,hz,haz,hcu,hds])|apply And.intro|intro _))
   all_goals first|omega|skip
   all_goals first|exact⟨(k+1,a+z),⟨by simp only;omega,n1,n3⟩,by simp only;omega,by(first|(and_intros<;>rfl)|simp)⟩|trace_state
end
end Go.Proofs.YtjdklcjoeanimaaGreat

namespace Go.Proofs.YtjdklcjoeanimaaGreat
open Go.Vc
attribute [local irreducible] Go.Vc.WP
attribute [local go_sem] kAd kAe
open Go.Pl
attribute [local go_sem] kFh kAj kE0 imgA kAf
structure Image where
 code:ByteArray
 symbols:List Symbol
def encImage (x:Image):List SV:=[.v (.string x.code),.sl 3 (x.symbols.map encSymbol)]
def kBl:List SV→Image
 | [.v (.string c),.sl _ r]=>⟨c,kDp r⟩
 | _=>⟨⟨#[]⟩,[]⟩
def kDl (rows:List (List SV)):List Image:=rows.map kBl
theorem kAg (L:List Image):kDl (L.map encImage)=L:=by
 unfold kDl;rw[List.map_map]
 conv=>rhs;rw[←List.map_id L]
 apply List.map_congr_left;intro x _;show kBl (encImage x)=x
 unfold kBl encImage;simp only[kAj]
attribute [local go_sem] kAg
def zImg:Image:=⟨⟨#[]⟩,[]⟩
structure ImgC (c:ByteArray) (Y:List Symbol) (A:Nat→Nat):Prop where
 start:∀k (h:k<Y.length),Y[k].start=A k
 size:∀k (h:k<Y.length),1≤Y[k].size∧(A (k+1):Int)=A k+Y[k].size
 zero:A 0=0
 last:A Y.length=c.size
 big:c.size≤1000000
theorem kNu {c:ByteArray}{Y:List Symbol}(h:kDz c Y=true):∃A,ImgC c Y A:=by
 unfold kDz at h;split at h
 case h_2=>cases h
 rename_i a ha;simp only[Bool.and_eq_true,decide_eq_true_eq]at h
 have all:∀k,k≤Y.length→∃b,kEe c Y k=some b:=fun k hk=>by
  cases hq:kEe c Y k with
  |some b=>exact⟨b,rfl⟩
  |none =>
   have:=kQa hq (Y.length-k);rw[show k+(Y.length-k)=Y.length by omega,ha]at this
   cases this
 have step:∀k (hk:k<Y.length) b,kEe c Y k=some b→kGh c Y Y[k] k b=true∧kEe c Y (k+1)=some (b+Y[k].size.toNat):=fun k hk b hb=>by
  obtain⟨b2,hb2⟩:=all (k+1) (by omega)
  have h2:=hb2;rw[kEe,hb,List.getElem?_eq_getElem hk]at h2;simp only at h2;split at h2
  ·rename_i hs;exact⟨hs,by rw[hb2,←h2]⟩
  ·cases h2
 refine⟨fun k=>(kEe c Y k).getD 0,fun k hk=>?_,fun k hk=>?_,rfl,by show(kEe c Y Y.length).getD 0=_;rw[ha];exact h.1,h.2⟩
 ·obtain⟨b,hb⟩:=all k (by omega)
  have h1:=(step k hk b hb).1;unfold kGh at h1;simp only[Bool.and_eq_true,decide_eq_true_eq]at h1;simp only[hb,Option.getD_some];exact h1.1.1.1.1
 ·obtain⟨b,hb⟩:=all k (by omega)
  obtain⟨h1,h2⟩:=step k hk b hb;unfold kGh at h1;simp only[Bool.and_eq_true,decide_eq_true_eq]at h1;simp only[hb,h2,Option.getD_some];omega
theorem ImgC.mono {c:ByteArray}{Y:List Symbol}{A:Nat→Nat}(h:ImgC c Y A):∀(j k:Nat),k+j≤Y.length→A k+j≤A (k+j)
 | 0,k,_=>by simp
 |j+1,k,hk=>by
  have ih:=h.mono j k (by omega)
  have:=h.size (k+j) (by omega)
  rw[show k+(j+1)=k+j+1 by omega]
  omega
def kAh (o:Int) (x:Symbol):Bool:=decide (0≤x.start∧x.start≤1000000)&&decide (0≤x.size∧x.size≤1000000)&&decide (x.start≤o)&&decide (o<x.start+x.size)
theorem ImgC.hit {c:ByteArray}{Y:List Symbol}{A:Nat→Nat}(h:ImgC c Y A) {k:Nat}(hk:k<Y.length) (o:Int):kAh o Y[k]=true↔(A k:Int)≤o∧o<A (k+1):=by
 have h1:=h.start k hk;have h2:=h.size k hk;have h3:=h.mono (Y.length-(k+1)) (k+1) (by omega)
 rw[show k+1+(Y.length-(k+1))=Y.length by omega,h.last]at h3
 have h4:=h.big;unfold kAh;simp only[Bool.and_eq_true,decide_eq_true_eq];omega
theorem ImgC.at {c:ByteArray}{Y:List Symbol}{A:Nat→Nat}(h:ImgC c Y A) {k:Nat}(hk:k<Y.length):firstIdx (kAh Y[k].start) Y=k:=by
 refine kEi hk (fun j hj hjk=>?_) ?_
 ·rw[Bool.eq_false_iff,ne_eq,h.hit hj,h.start k hk];have:=h.mono (k-(j+1)) (j+1) (by omega)
  rw[show j+1+(k-(j+1))=k by omega]at this
  omega
 ·rw[h.hit hk,h.start k hk];have:=h.size k hk;omega
theorem ImgC.lt {c:ByteArray}{Y:List Symbol}{A:Nat→Nat}(h:ImgC c Y A) {k:Nat}(hk:k<Y.length):0≤Y[k].start∧Y[k].start<c.size:=by
 have h1:=h.start k hk;have h2:=h.size k hk;have h3:=h.mono (Y.length-(k+1)) (k+1) (by omega)
 rw[show k+1+(Y.length-(k+1))=Y.length by omega,h.last]at h3
 omega
def kCf (I:List Image) (B:List Int) (e:Int) (i:Nat):Bool:=decide (B.getD i 0≤e)&&decide (e<B.getD i 0+((I.getD i zImg).code.size:Int))
def locI (I:List Image) (B:List Int) (e:Int):Int:=firstIdx (kCf I B e) (List.range I.length)
def hitS (b e:Int) (Y:List Symbol):Bool:=Y.any fun x=>decide (b+x.start=e)
def kC3 (I:List Image) (B:List Int) (e:Int):Bool:=(List.range I.length).any fun i=>hitS (B.getD i 0) e (I.getD i zImg).symbols
def entS (I:List Image) (B:List Int) (e:Int):Bool :=
 if locI I B e<0 then false else
  (decide (0≤firstIdx (kAh (e-B.getD (locI I B e).toNat 0)) (I.getD (locI I B e).toNat zImg).symbols) &&
   decide (((I.getD (locI I B e).toNat zImg).symbols.getD (firstIdx (kAh (e-B.getD (locI I B e).toNat 0)) (I.getD (locI I B e).toNat zImg).symbols).toNat ⟨⟨#[]⟩,0,0⟩).start=e-B.getD (locI I B e).toNat 0))
def kJ1 (I:List Image) (B:List Int):Bool :=
 decide (0<(I.getD 0 zImg).code.size)&&decide (0<(I.getD 1 zImg).code.size)&&decide (B.getD 0 0<B.getD 1 0+(I.getD 1 zImg).code.size)&&decide (B.getD 1 0<B.getD 0 0+(I.getD 0 zImg).code.size)
def kEd (I:List Image) (B:List Int) (k:Nat):Bool:=(List.range k).all fun i=>kDz (I.getD i zImg).code (I.getD i zImg).symbols&&decide (1≤B.getD i 0∧B.getD i 0≤1000000)
def kAl (I:List Image) (B E:List Int):Bool :=
 decide (I.length=2∧B.length=2∧1≤E.length∧E.length≤6)&&kEd I B 2&&!kJ1 I B&&E.all (kC3 I B)
theorem kQo {I:List Image}{B:List Int}(h2:I.length=2) (hi:kEd I B 2=true) (ho:kJ1 I B=false) (e:Int):entS I B e=kC3 I B e:=by
 obtain⟨i0,i1,rfl⟩:∃a b,I=[a,b]:=by
  match I,h2 with
  | [a,b],_=>exact⟨a,b,rfl⟩
 generalize hb0:B.getD 0 0=b0 at *;generalize hb1:B.getD 1 0=b1 at *
 have e0:kDz i0.code i0.symbols=true∧kDz i1.code i1.symbols=true:=by
  simp[kEd,List.range_succ]at hi;exact⟨hi.1.1,hi.2.1⟩
 obtain⟨A0,c0⟩:=kNu e0.1;obtain⟨A1,c1⟩:=kNu e0.2
 have ov:¬(0<i0.code.size∧0<i1.code.size∧b0<b1+i1.code.size∧b1<b0+i0.code.size):=by
  intro h;unfold kJ1 at ho;simp only[hb0,hb1]at ho;simp[h]at ho
 have hq0:B[0]?.getD 0=b0:=by rw[←hb0,List.getD_eq_getElem?_getD]
 have hq1:B[1]?.getD 0=b1:=by rw[←hb1,List.getD_eq_getElem?_getD]
 have n0:kCf [i0,i1] B e 0=true↔b0≤e∧e<b0+i0.code.size:=by simp[kCf,hq0]
 have n1:kCf [i0,i1] B e 1=true↔b1≤e∧e<b1+i1.code.size:=by simp[kCf,hq1]
 have key:∀(b:Int) (i:Image) (A:Nat→Nat),ImgC i.code i.symbols A→((decide (0≤firstIdx (kAh (e-b)) i.symbols)&&decide ((i.symbols.getD (firstIdx (kAh (e-b)) i.symbols).toNat ⟨⟨#[]⟩,0,0⟩).start=e-b))=true↔hitS b e i.symbols=true):=fun b i A c=>by
  unfold hitS;rw[List.any_eq_true,Bool.and_eq_true,decide_eq_true_eq,decide_eq_true_eq];constructor
  ·rintro⟨g1,g2⟩
   have:(firstIdx (kAh (e-b)) i.symbols).toNat<i.symbols.length:=by
    unfold firstIdx at g1⊢;split at g1
    ·rename_i q hq;have:=(List.findIdx?_eq_some_iff_getElem.1 hq).1;simpa using this
    ·omega
   rw[List.getD_eq_getElem?_getD,List.getElem?_eq_getElem this]at g2;exact⟨_,List.getElem_mem this,by rw[decide_eq_true_eq];simp only[Option.getD_some]at g2;omega⟩
  ·rintro⟨x,hx,hxe⟩;rw[decide_eq_true_eq]at hxe;obtain⟨k,hk,rfl⟩:=List.mem_iff_getElem.1 hx;have:e-b=i.symbols[k].start:=by omega
   rw[this,c.at hk,Int.toNat_natCast,List.getD_eq_getElem?_getD,List.getElem?_eq_getElem hk];exact⟨by omega,rfl⟩
 have hin:∀(b:Int) (i:Image) (A:Nat→Nat),ImgC i.code i.symbols A→hitS b e i.symbols=true→b≤e∧e<b+i.code.size:=fun b i A c h=>by
  unfold hitS at h;rw[List.any_eq_true]at h;obtain⟨x,hx,hxe⟩:=h;rw[decide_eq_true_eq]at hxe;obtain⟨k,hk,rfl⟩:=List.mem_iff_getElem.1 hx;have:=c.lt hk;omega
 have hie:kC3 [i0,i1] B e=(hitS b0 e i0.symbols || hitS b1 e i1.symbols):=by
  simp[kC3,List.range_succ,hq0,hq1]
 have hl:locI [i0,i1] B e=if kCf [i0,i1] B e 0=true then 0 else if kCf [i0,i1] B e 1=true then 1 else -1:=by
  unfold locI firstIdx;simp only[List.length_cons,List.length_nil,List.range_succ,List.range_zero,List.nil_append,List.cons_append,List.findIdx?_cons,List.findIdx?_nil];cases kCf [i0,i1] B e 0<;>cases kCf [i0,i1] B e 1<;>simp
 rw[hie];unfold entS;rw[hl];have h0':=hin b0 i0 A0 c0;have h1':=hin b1 i1 A1 c1;by_cases p0:kCf [i0,i1] B e 0=true
 ·rw[if_pos p0];rw[if_neg (by omega)]
  simp only[Int.toNat_zero,List.getD_cons_zero,hb0]
  have h1n:hitS b1 e i1.symbols=false:=by
   rw[Bool.eq_false_iff];intro h;have g0:=n0.1 p0;have g1:=h1' h;exact ov ⟨by omega,by omega,by omega,by omega⟩
  rw[h1n,Bool.or_false,Bool.eq_iff_iff];exact key b0 i0 A0 c0
 ·rw[if_neg p0]
  have h0n:hitS b0 e i0.symbols=false:=by
   rw[Bool.eq_false_iff];intro h;exact p0 (n0.2 (h0' h))
  rw[h0n,Bool.false_or];by_cases p1:kCf [i0,i1] B e 1=true
  ·rw[if_pos p1,if_neg (by omega)]
   have t1:(1:Int).toNat=1:=rfl;simp only[t1,List.getD_cons_succ,List.getD_cons_zero,hb1];rw[Bool.eq_iff_iff];exact key b1 i1 A1 c1
  ·rw[if_neg p1,if_pos (by omega)]
   symm;rw[Bool.eq_false_iff];intro h;exact p1 (n1.2 (h1' h))
def spA (args:List SV) (i:Nat):List Image×List Int×List Int:=match args[i]? with
 |some (.agg [.sl _ a,.sl _ b,.sl _ c])=>(kDl a,decI b,decI c)
 | _=>([],[],[])
attribute [local go_sem] spA
def k40 (I:List Image):Prop:=I.length≤4194304∧∀i∈I,qFi (i.code,i.symbols)
def kJu:Ctr:=pur (fun args=>(imgA args 0,aI args 1)) (fun x=>[.agg [.v (.string x.1.1),.sl 3 (x.1.2.map encSymbol)],.v (.int .i64 x.2)]) (fun x=>x.1.2.length≤4194304) (fun _ x=>.v (.int .i64 (firstIdx (kAh x.2) x.1.2))) (fun _ _=>[])
section
noncomputable def qCa:=mkX [(66,k60)] (COk.cons c58 (COk.nil _))
theorem qR7:qCa.tys=tys:=rfl
theorem qR8:qCa.C=[(66,k60)]:=rfl
attribute [local go_sem] qR7 qR8 k60
theorem k67:Cn Tryz.prog 154 kJu:=by
 refine Cn.pur Tryz.func154 (by kernel_rfl) rfl fun d x hx=>?_
 obtain⟨⟨c,Y⟩,o⟩:=x;simp only at hx⊢;refine Holds.go (c:=qCa) Tryz.func154 rfl Tryz.results154 Tryz.ntmps154 (by omega) (by simp) rfl ?_
 intro X0 w0
 (repeat' (first|apply zS|apply zB|(apply zW;simp only[go_sem])|apply And.intro|intro _))
 all_goals first|omega|skip
 refine zL (fun k:Nat=>⟨[(1,.v (.int .i64 o)),(2,.ptr 2 0 0 0),(5,.v (.int .i64 k))],[(2,.box 144 [.v (.string c),.sl 3 (Y.map encSymbol)])]⟩)
  (fun k=>k≤Y.length∧∀i (hi:i<Y.length),i<k→kAh o Y[i]=false) (fun k=>Y.length-k) 0 (by simp) ?_ ?_
 ·(simp only[go_sem]<;>(first|(and_intros<;>rfl)|simp))
 intro k ⟨hk,hf⟩;by_cases hlt:k<Y.length
 ·have hli:(k:Int)<Y.length:=by omega
  have hr:=kAa encSymbol Y k hlt;have hy:kCq (encSymbol Y[k])=Y[k]:=rfl;by_cases h1:0≤Y[k].start∧Y[k].start≤1000000
  ·by_cases h2:0≤Y[k].size∧Y[k].size≤1000000
   ·by_cases h3:Y[k].start≤o
    ·by_cases h4:o<Y[k].start+Y[k].size
     ·have hh:kAh o Y[k]=true:=by simp[kAh,h1,h2,h3,h4]
      rw[show firstIdx (kAh o) Y=k from kEi hlt hf hh]
      (repeat' (first|apply zS|apply zB|(apply zW;simp only[go_sem,hli,hr,encSymbol,h1,h2,h3,h4])|apply And.intro|intro _))
      all_goals first|omega|skip
     ·have hh:kAh o Y[k]=false:=by simp[kAh];omega
      (repeat' (first|apply zS|apply zB|(apply zW;simp only[go_sem,hli,hr,encSymbol,h1,h2,h3,h4])|apply And.intro|intro _))
      all_goals first|omega|skip
      all_goals first|exact⟨k+1,⟨by omega,fun i hi hik=>by
       rcases Nat.lt_or_ge i k with h|h
       ·exact hf i hi h
       ·have:i=k:=by omega
        subst this;exact hh⟩,by omega,by(first|(and_intros<;>rfl)|simp)⟩|trace_state
    ·have hh:kAh o Y[k]=false:=by simp[kAh];omega
     (repeat' (first|apply zS|apply zB|(apply zW;simp only[go_sem,hli,hr,encSymbol,h1,h2,h3])|apply And.intro|intro _))
     all_goals first|omega|skip
     all_goals first|exact⟨k+1,⟨by omega,fun i hi hik=>by
      rcases Nat.lt_or_ge i k with h|h
      ·exact hf i hi h
      ·have:i=k:=by omega
       subst this;exact hh⟩,by omega,by(first|(and_intros<;>rfl)|simp)⟩|trace_state
   ·have hh:kAh o Y[k]=false:=by simp[kAh];omega
    have h2':(decide (0≤Y[k].size)&&decide (Y[k].size≤1000000))=false:=by rw[←Bool.decide_and];exact decide_eq_false h2
    (repeat' (first|apply zS|apply zB|(apply zW;simp only[go_sem,hli,hr,encSymbol,h1,h2'])|apply And.intro|intro _))
    all_goals first|omega|skip
    all_goals first|exact⟨k+1,⟨by omega,fun i hi hik=>by
      rcases Nat.lt_or_ge i k with h|h
      ·exact hf i hi h
      ·have:i=k:=by omega
       subst this;exact hh⟩,by omega,by(first|(and_intros<;>rfl)|simp)⟩|trace_state
  ·have hh:kAh o Y[k]=false:=by simp[kAh];omega
   have h1':(decide (0≤Y[k].start)&&decide (Y[k].start≤1000000))=false:=by rw[←Bool.decide_and];exact decide_eq_false h1
   (repeat' (first|apply zS|apply zB|(apply zW;simp only[go_sem,hli,hr,encSymbol,h1'])|apply And.intro|intro _))
   all_goals first|omega|skip
   all_goals first|exact⟨k+1,⟨by omega,fun i hi hik=>by
      rcases Nat.lt_or_ge i k with h|h
      ·exact hf i hi h
      ·have:i=k:=by omega
       subst this;exact hh⟩,by omega,by(first|(and_intros<;>rfl)|simp)⟩|trace_state
 ·have hge:¬(k:Int)<Y.length:=by omega
  rw[show firstIdx (kAh o) Y=-1 from firstIdx_none fun i hi=>hf i hi (by omega)]
  (repeat' (first|apply zS|apply zB|(apply zW;simp only[go_sem,hge])|apply And.intro|intro _))
  all_goals first|omega|skip
end
end Go.Proofs.YtjdklcjoeanimaaGreat

namespace Go.Proofs.YtjdklcjoeanimaaGreat
open Go.Vc
attribute [local irreducible] Go.Vc.WP
attribute [local go_sem] kAd kAe
open Go.Pl
attribute [local go_sem] kFh kAj kE0 imgA kAf kAg spA
theorem kAz {L:List Int}{k:Nat}(h:k<L.length) (d:Int):L.getD k d=L[k]:=by rw[List.getD_eq_getElem?_getD,List.getElem?_eq_getElem h];rfl
theorem kCm {L:List Image}{k:Nat}(h:k<L.length) (d:Image):L.getD k d=L[k]:=by rw[List.getD_eq_getElem?_getD,List.getElem?_eq_getElem h];rfl
def kLj (x:(List Image×List Int×List Int)×Int):Prop:=k40 x.1.1∧x.1.2.1.length=x.1.1.length∧(∀b∈x.1.2.1,0≤b∧b≤1000000000000)
def kLoc:Ctr:=pur (fun args=>(spA args 0,aI args 1)) (fun x=>[.agg [.sl 2 (x.1.1.map encImage),.sl 1 (x.1.2.1.map encI),.sl 1 (x.1.2.2.map encI)],.v (.int .i64 x.2)]) kLj
 (fun _ x=>.tup [.v (.int .i64 (locI x.1.1 x.1.2.1 x.2)),.v (.int .i64 (if locI x.1.1 x.1.2.1 x.2<0 then -1 else x.2-x.1.2.1.getD (locI x.1.1 x.1.2.1 x.2).toNat 0))]) (fun _ _=>[])
section
noncomputable def qCb:=mkX [] (COk.nil _)
theorem qR9:qCb.tys=tys:=rfl
theorem qSa:qCb.C=[]:=rfl
attribute [local go_sem] qR9 qSa
theorem qCc:Cn Tryz.prog 153 kLoc:=by
 refine Cn.pur Tryz.func153 (by kernel_rfl) rfl fun d x hx=>?_
 obtain⟨⟨I,B,E⟩,a⟩:=x;obtain⟨⟨hI,hIm⟩,hl,hB⟩:=hx;simp only at hI hIm hl hB⊢;refine Holds.go (c:=qCb) Tryz.func153 rfl Tryz.results153 Tryz.ntmps153 (by omega) (by simp) rfl ?_
 intro X0 w0
 (repeat' (first|apply zS|apply zB|((first|apply zW| refine zd 24 (h:=?_)|refine zd 9 (h:=?_));simp only[go_sem])|apply And.intro|intro _))
 all_goals first|omega|skip
 refine zL (fun k:Nat=>⟨[(1,.v (.int .i64 a)),(2,.ptr 2 0 0 0),(6,.v (.int .i64 k))],[(2,.box 51 [.sl 2 (I.map encImage),.sl 1 (B.map encI),.sl 1 (E.map encI)])]⟩)
  (fun k=>k≤I.length∧∀i,i<I.length→i<k→kCf I B a i=false) (fun k=>I.length-k) 0 (by simp) ?_ ?_
 ·(simp only[go_sem]<;>(first|(and_intros<;>rfl)|simp))
 intro k ⟨hk,hf⟩;by_cases hlt:k<I.length
 ·have hli:(k:Int)<I.length:=by omega
  have hkb:k<B.length:=by omega
  have hlb:(k:Int)<B.length:=by omega
  have hr:=kAa encImage I k hlt;have hrb:=kAa encI B k hkb;have hbb:=hB _ (List.getElem_mem hkb);have hcs:=(hIm _ (List.getElem_mem hlt)).1;simp only at hcs
  have hne:kCf I B a k=(decide (B[k]≤a)&&decide (a<B[k]+(I[k].code.size:Int))):=by
   unfold kCf;rw[kAz hkb,kCm hlt]
  have hnx:kCf I B a k=false→∀i,i<I.length→i<k+1→kCf I B a i=false:=fun hh i hi hik=>by
   rcases Nat.lt_or_ge i k with h|h
   ·exact hf i hi h
   ·have:i=k:=by omega
    subst this;exact hh
  by_cases h1:B[k]≤a
  ·by_cases h2:a<B[k]+(I[k].code.size:Int)
   ·have hh:kCf I B a k=true:=by rw[hne,decide_eq_true h1,decide_eq_true h2];rfl
    have hlo:locI I B a=k:=by
     have:=kEi (p:=kCf I B a) (L:=List.range I.length) (k:=k) (by simpa using hlt) (fun i hi hik=>by rw[List.getElem_range];exact hf i (by simpa using hi) hik) (by rw[List.getElem_range];exact hh)
     exact this
    have hlo2:(if locI I B a<0 then -1 else a-B.getD (locI I B a).toNat 0)=a-B[k]:=by
     rw[hlo,if_neg (by omega),Int.toNat_natCast,kAz hkb]
    rw[hlo2,hlo]
    (repeat' (first|apply zS|apply zB|((first|apply zW| refine zd 24 (h:=?_)|refine zd 9 (h:=?_));simp only[go_sem,hli,hlb,hr,hrb,encImage,encI,h1,h2])|apply And.intro|intro _))
    all_goals first|omega|skip
   ·have hh:kCf I B a k=false:=by rw[hne,decide_eq_false h2,Bool.and_false]
    have:=hnx hh
    (repeat' (first|apply zS|apply zB|((first|apply zW| refine zd 24 (h:=?_)|refine zd 9 (h:=?_));simp only[go_sem,hli,hlb,hr,hrb,encImage,encI,h1,h2])|apply And.intro|intro _))
    all_goals first|omega|exact⟨k+1,⟨by omega,this⟩,by omega,by(first|(and_intros<;>rfl)|simp)⟩|skip
  ·have hh:kCf I B a k=false:=by rw[hne,decide_eq_false h1,Bool.false_and]
   have:=hnx hh
   (repeat' (first|apply zS|apply zB|((first|apply zW| refine zd 24 (h:=?_)|refine zd 9 (h:=?_));simp only[go_sem,hli,hlb,hr,hrb,encImage,encI,h1])|apply And.intro|intro _))
   all_goals first|omega|exact⟨k+1,⟨by omega,this⟩,by omega,by(first|(and_intros<;>rfl)|simp)⟩|skip
 ·have hge:¬(k:Int)<I.length:=by omega
  have hlo:locI I B a=-1:=firstIdx_none fun i hi=>by
   rw[List.getElem_range]
   exact hf i (by simpa using hi) (by
                     have:i<I.length:=by simpa using hi
                     omega)
  rw[hlo,if_pos (by omega)]
  (repeat' (first|apply zS|apply zB|((first|apply zW| refine zd 24 (h:=?_)|refine zd 9 (h:=?_));simp only[go_sem,hge])|apply And.intro|intro _))
  all_goals first|omega|skip
end
def preEnt (x:(List Image×List Int×List Int)×Int):Prop:=k40 x.1.1∧x.1.2.1.length=x.1.1.length∧(∀b∈x.1.2.1,0≤b∧b≤1000000000000)∧∀i∈x.1.1,∀y∈i.symbols,0≤y.start∧y.start≤1000000000000
def k0q:Ctr:=pur (fun args=>(spA args 0,aI args 1)) (fun x=>[.agg [.sl 2 (x.1.1.map encImage),.sl 1 (x.1.2.1.map encI),.sl 1 (x.1.2.2.map encI)],.v (.int .i64 x.2)]) preEnt (fun _ x=>.v (.bool (kC3 x.1.1 x.1.2.1 x.2))) (fun _ _=>[])
theorem qSb {I:List Image}{B:List Int}{e:Int}{k j:Nat}(hk:k<I.length) (hkb:k<B.length) (hj:j<I[k].symbols.length) (h:B[k]+I[k].symbols[j].start=e):kC3 I B e=true:=by
 unfold kC3;rw[List.any_eq_true];refine⟨k,List.mem_range.2 hk,?_⟩;unfold hitS;rw[kAz hkb,kCm hk,List.any_eq_true];exact⟨_,List.getElem_mem hj,by rw[decide_eq_true_eq];exact h⟩
theorem qSc {I:List Image}{B:List Int}{e:Int}(hl:B.length=I.length) (h:∀k (hk:k<I.length) (hb:k<B.length),∀j (hj:j<I[k].symbols.length),B[k]+I[k].symbols[j].start≠e):kC3 I B e=false:=by
 unfold kC3;rw[List.any_eq_false];intro k hk;have hk:=List.mem_range.1 hk;unfold hitS;rw[kAz (by omega),kCm hk,Bool.not_eq_true,List.any_eq_false]
 intro y hy;obtain⟨j,hj,rfl⟩:=List.mem_iff_getElem.1 hy;rw[Bool.not_eq_true];exact decide_eq_false (h k hk (by omega) j hj)
section
noncomputable def qCd:=mkX [] (COk.nil _)
theorem qSd:qCd.tys=tys:=rfl
theorem qSe:qCd.C=[]:=rfl
attribute [local go_sem] qSd qSe
theorem cEntrI:Cn Tryz.prog 179 k0q:=by
 refine Cn.pur Tryz.func179 (by kernel_rfl) rfl fun d x hx=>?_
 obtain⟨⟨I,B,E⟩,a⟩:=x;obtain⟨⟨hI,hIm⟩,hl,hB,hst⟩:=hx;simp only at hI hIm hl hB hst⊢;refine Holds.go (c:=qCd) Tryz.func179 rfl Tryz.results179 Tryz.ntmps179 (by omega) (by simp) rfl ?_
 intro X0 w0
 (repeat' (first|apply zS|apply zB|((first|apply zW| refine zd 10 (h:=?_));simp only[go_sem])|apply And.intro|intro _))
 all_goals first|omega|skip
 refine zL (fun k:Nat=>⟨[(1,.v (.int .i64 a)),(2,.ptr 2 0 0 0),(10,.sl 2 (I.map encImage)),(11,.v (.int .i64 I.length)),(12,.v (.int .i64 k))],[(2,.box 51 [.sl 2 (I.map encImage),.sl 1 (B.map encI),.sl 1 (E.map encI)])]⟩)
  (fun k=>k≤I.length∧∀i (hi:i<I.length) (hb:i<B.length),i<k→∀j (hj:j<I[i].symbols.length),B[i]+I[i].symbols[j].start≠a) (fun k=>I.length-k) 0 (by simp) ?_ ?_
 ·(simp only[go_sem]<;>(first|(and_intros<;>rfl)|simp))
 intro k ⟨hk,hf⟩;by_cases hlt:k<I.length;rotate_left
 ·have hge:¬(k:Int)<I.length:=by omega
  rw[qSc hl fun i hi hb j hj=>hf i hi hb (by omega) j hj]
  (repeat' (first|apply zS|apply zB|((first|apply zW| refine zd 10 (h:=?_));simp only[go_sem,hge])|apply And.intro|intro _))
  all_goals first|omega|skip
 have hli:(k:Int)<I.length:=by omega
 have hkb:k<B.length:=by omega
 have hlb:(k:Int)<B.length:=by omega
 have hr:=kAa encImage I k hlt;have hrb:=kAa encI B k hkb;have hbb:=hB _ (List.getElem_mem hkb);have hys:=(hIm _ (List.getElem_mem hlt)).2.1;have hyst:=hst _ (List.getElem_mem hlt);have hent:=fun j hj=>qSb (e:=a) hlt hkb (j:=j) hj
 simp only at hys;generalize hY:I[k].symbols=Y at *;generalize hc:I[k].code=c at *
 (repeat' (first|apply zS|apply zB|((first|apply zW| refine zd 10 (h:=?_));simp only[go_sem,hli,hr,encImage,hY,hc])|apply And.intro|intro _))
 all_goals first|omega|skip
 refine zL (fun j:Nat=>⟨[(1,.v (.int .i64 a)),(2,.ptr 2 0 0 0),(5,.v (.int .i64 k)),(10,.sl 2 (I.map encImage)),(11,.v (.int .i64 I.length)),(12,.v (.int .i64 k)),(18,.sl 3 (Y.map encSymbol)),(19,.v (.int .i64 Y.length)),(20,.v (.int .i64 j))],[(2,.box 51 [.sl 2 (I.map encImage),.sl 1 (B.map encI),.sl 1 (E.map encI)])]⟩)
  (fun j=>j≤Y.length∧∀i (hi:i<Y.length),i<j→B[k]+Y[i].start≠a) (fun j=>Y.length-j) 0 (by simp) ?_ ?_
 ·(simp only[go_sem]<;>(first|(and_intros<;>rfl)|simp))
 intro j ⟨hj,hg⟩;by_cases hjl:j<Y.length
 ·have hji:(j:Int)<Y.length:=by omega
  have hry:=kAa encSymbol Y j hjl;have hsb:=hyst _ (List.getElem_mem hjl);by_cases he:B[k]+Y[j].start=a
  ·rw[hent j hjl he]
   (repeat' (first|apply zS|apply zB|((first|apply zW| refine zd 10 (h:=?_));simp only[go_sem,hji,hry,encSymbol,hlb,hrb,encI,he])|apply And.intro|intro _))
   all_goals first|omega|skip
  ·(repeat' (first|apply zS|apply zB|((first|apply zW| refine zd 10 (h:=?_));simp only[go_sem,hji,hry,encSymbol,hlb,hrb,encI,he])|apply And.intro|intro _))
   all_goals first|omega|exact⟨j+1,⟨by omega,fun i hi hij=>by
    rcases Nat.lt_or_ge i j with h|h
    ·exact hg i hi h
    ·have:i=j:=by omega
     subst this;exact he⟩,by omega,by(first|(and_intros<;>rfl)|simp)⟩|skip
 ·have hji:¬(j:Int)<Y.length:=by omega
  (repeat' (first|apply zS|apply zB|((first|apply zW| refine zd 10 (h:=?_));simp only[go_sem,hji])|apply And.intro|intro _))
  all_goals first|omega|exact⟨k+1,⟨by omega,fun i hi hb hik j2 hj2=>by
    rcases Nat.lt_or_ge i k with h|h
    ·exact hf i hi hb h j2 hj2
    ·have:i=k:=by omega
     subst this;simp only[hY]at hj2⊢;exact hg j2 hj2 (by omega)⟩,by omega,by(first|(and_intros<;>rfl)|simp)⟩|skip
end
end Go.Proofs.YtjdklcjoeanimaaGreat

namespace Go.Proofs.YtjdklcjoeanimaaGreat
open Go.Vc
attribute [local irreducible] Go.Vc.WP
attribute [local go_sem] kAd kAe
open Go.Pl
attribute [local go_sem] kFh kAj kE0 imgA kAf kAg spA
section
noncomputable def qAb:=mkX [(68,k60)] (COk.cons c60 (COk.nil _))
theorem qN0:qAb.tys=tys:=rfl
theorem qN1:qAb.C=[(68,k60)]:=rfl
attribute [local go_sem] qN0 qN1 k60
theorem cLocI:Cn Tryz.prog 234 kLoc:=by
 refine Cn.pur Tryz.func234 (by kernel_rfl) rfl fun d x hx=>?_
 obtain⟨⟨I,B,E⟩,a⟩:=x;obtain⟨⟨hI,hIm⟩,hl,hB⟩:=hx;simp only at hI hIm hl hB⊢;refine Holds.go (c:=qAb) Tryz.func234 rfl Tryz.results234 Tryz.ntmps234 (by omega) (by simp) rfl ?_
 intro X0 w0
 (repeat' (first|apply zS|apply zB|((first|apply zW| refine zd 17 (h:=?_)|refine zd 9 (h:=?_));simp only[go_sem])|apply And.intro|intro _))
 all_goals first|omega|skip
 refine zL (fun k:Nat=>⟨[(1,.v (.int .i64 a)),(2,.ptr 2 0 0 0),(9,.sl 2 (I.map encImage)),(10,.v (.int .i64 I.length)),(11,.v (.int .i64 k))],[(2,.box 51 [.sl 2 (I.map encImage),.sl 1 (B.map encI),.sl 1 (E.map encI)])]⟩)
  (fun k=>k≤I.length∧∀i,i<I.length→i<k→kCf I B a i=false) (fun k=>I.length-k) 0 (by simp) ?_ ?_
 ·(simp only[go_sem]<;>(first|(and_intros<;>rfl)|simp))
 intro k ⟨hk,hf⟩;by_cases hlt:k<I.length
 ·have hli:(k:Int)<I.length:=by omega
  have hkb:k<B.length:=by omega
  have hlb:(k:Int)<B.length:=by omega
  have hr:=kAa encImage I k hlt;have hrb:=kAa encI B k hkb;have hbb:=hB _ (List.getElem_mem hkb);have hcs:=(hIm _ (List.getElem_mem hlt)).1;simp only at hcs
  have hne:kCf I B a k=(decide (B[k]≤a)&&decide (a<B[k]+(I[k].code.size:Int))):=by
   unfold kCf;rw[kAz hkb,kCm hlt]
  have hnx:kCf I B a k=false→∀i,i<I.length→i<k+1→kCf I B a i=false:=fun hh i hi hik=>by
   rcases Nat.lt_or_ge i k with h|h
   ·exact hf i hi h
   ·have:i=k:=by omega
    subst this;exact hh
  by_cases h1:B[k]≤a
  ·by_cases h2:a<B[k]+(I[k].code.size:Int)
   ·have h2':a≤B[k]+(I[k].code.size:Int)-1:=by omega
    have hh:kCf I B a k=true:=by rw[hne,decide_eq_true h1,decide_eq_true h2];rfl
    have hlo:locI I B a=k:=by
     have:=kEi (p:=kCf I B a) (L:=List.range I.length) (k:=k) (by simpa using hlt) (fun i hi hik=>by rw[List.getElem_range];exact hf i (by simpa using hi) hik) (by rw[List.getElem_range];exact hh)
     exact this
    have hlo2:(if locI I B a<0 then -1 else a-B.getD (locI I B a).toNat 0)=a-B[k]:=by
     rw[hlo,if_neg (by omega),Int.toNat_natCast,kAz hkb]
    rw[hlo2,hlo]
    (repeat' (first|apply zS|apply zB|((first|apply zW| refine zd 17 (h:=?_)|refine zd 9 (h:=?_));simp only[go_sem,hli,hlb,hr,hrb,encImage,encI,h1,h2'])|apply And.intro|intro _))
    all_goals first|omega|skip
   ·have h2':¬a≤B[k]+(I[k].code.size:Int)-1:=by omega
    have hh:kCf I B a k=false:=by rw[hne,decide_eq_false h2,Bool.and_false]
    have:=hnx hh
    (repeat' (first|apply zS|apply zB|((first|apply zW| refine zd 17 (h:=?_)|refine zd 9 (h:=?_));simp only[go_sem,hli,hlb,hr,hrb,encImage,encI,h1,h2'])|apply And.intro|intro _))
    all_goals first|omega|exact⟨k+1,⟨by omega,this⟩,by omega,by(first|(and_intros<;>rfl)|simp)⟩|skip
  ·have hh:kCf I B a k=false:=by rw[hne,decide_eq_false h1,Bool.false_and]
   have:=hnx hh
   (repeat' (first|apply zS|apply zB|((first|apply zW| refine zd 17 (h:=?_)|refine zd 9 (h:=?_));simp only[go_sem,hli,hlb,hr,hrb,encImage,encI,h1])|apply And.intro|intro _))
   all_goals first|omega|exact⟨k+1,⟨by omega,this⟩,by omega,by(first|(and_intros<;>rfl)|simp)⟩|skip
 ·have hge:¬(k:Int)<I.length:=by omega
  have hlo:locI I B a=-1:=firstIdx_none fun i hi=>by
   rw[List.getElem_range]
   exact hf i (by simpa using hi) (by
                     have:i<I.length:=by simpa using hi
                     omega)
  rw[hlo,if_pos (by omega)]
  (repeat' (first|apply zS|apply zB|((first|apply zW| refine zd 17 (h:=?_)|refine zd 9 (h:=?_));simp only[go_sem,hge])|apply And.intro|intro _))
  all_goals first|omega|skip
end
theorem qKz (I:List Image) (B:List Int) (a:Int):locI I B a<I.length:=by
 unfold locI firstIdx;split
 ·rename_i i h;have:=(List.findIdx?_eq_some_iff_getElem.1 h).1;rw[List.length_range]at this;omega
 ·omega
section
attribute [local irreducible] kLj
attribute [local go_sem] kLoc kJt
end
end Go.Proofs.YtjdklcjoeanimaaGreat

namespace Go.Proofs.YtjdklcjoeanimaaGreat
open Go.Vc
attribute [local irreducible] Go.Vc.WP
attribute [local go_sem] kAd kAe
def sgl (n:Int):Int:=if -549755813888≤n∧n≤549755813887 then(if n<0 then -2*n-1 else 2*n)else -1
def kSgl:Ctr:=pur (fun args=>aI args 0) (fun n=>[.v (.int .i64 n)]) (fun _=>True) (fun _ n=>.v (.int .i64 (sgl n))) (fun _ _=>[])
def encZ (z:Int):List SV:=[.v (.int .u8 z)]
def vb (n:Int):Int:=wr .u8 (kM7 .i64 (kHg .i64 n 127) 128)
def kA6 (n:Int):List Int:=if h:127<n then vb n::kA6 (n / 128)else[wr .u8 n]
termination_by n.toNat
decreasing_by omega
def varint (n:Int):ByteArray:=if 0≤n∧n≤1099511627775 then strOf ((kA6 n).map encZ)else⟨#[]⟩
def kVar:Ctr:=pur (fun args=>aI args 0) (fun n=>[.v (.int .i64 n)]) (fun _=>True) (fun _ n=>.v (.string (varint n))) (fun _ _=>[])
theorem shr7 (n:Int):shR .i64 n 7=n / 128:=by
 show n.fdiv (2 ^ min 7 64)=n / 128
 exact Int.fdiv_eq_ediv_of_nonneg n (by decide)
theorem kUx {n:Int}(h:127<n):kA6 n=vb n::kA6 (n / 128):=by rw[kA6,dif_pos h]
theorem kQc {n:Int}(h:¬127<n):kA6 n=[wr .u8 n]:=by rw[kA6,dif_neg h]
theorem kT5 {L:List Int}{z:Int}:∀row∈L.map encZ++[[.v (.int .u8 z)]],isByte row:=by
 intro row hr;rcases List.mem_append.1 hr with hr|hr
 ·obtain⟨n,_,rfl⟩:=List.mem_map.1 hr;exact⟨_,rfl⟩
 ·rw[List.mem_singleton.1 hr];exact⟨_,rfl⟩
section
noncomputable def qC6:=mkX [(66,k60)] (COk.cons c58 (COk.nil _))
theorem qTv:qC6.tys=tys:=rfl
theorem qTw:qC6.C=[(66,k60)]:=rfl
attribute [local go_sem] qTv qTw k60
theorem cSglS:Cn Tryz.prog 163 kSgl:=by
 refine Cn.pur Tryz.func163 (by kernel_rfl) rfl fun d x hx=>?_
 rename Int=>n
 refine Holds.go (c:=qC6) Tryz.func163 rfl Tryz.results163 Tryz.ntmps163 (by omega) (by simp) rfl ?_
 intro X0 w0;by_cases h:-549755813888≤n∧n≤549755813887
 ·by_cases h0:n<0
  ·have e:sgl n=-2*n-1:=by unfold sgl;rw[if_pos h,if_pos h0]
   have h0':¬0≤n:=by omega
   rw[e]
   (repeat' (first|apply zS|apply zB|(apply zW;simp only[go_sem,h,h0'])|apply And.intro|intro _))
   all_goals first|omega|skip
  ·have e:sgl n=2*n:=by unfold sgl;rw[if_pos h,if_neg h0]
   have h0':0≤n:=by omega
   rw[e]
   (repeat' (first|apply zS|apply zB|(apply zW;simp only[go_sem,h,h0'])|apply And.intro|intro _))
   all_goals first|omega|skip
 ·have e:sgl n=-1:=by unfold sgl;rw[if_neg h]
  rw[e]
  (repeat' (first|apply zS|apply zB|(apply zW;simp only[go_sem,h])|apply And.intro|intro _))
  all_goals first|omega|skip
noncomputable def qC7:=mkX [(68,k60)] (COk.cons c60 (COk.nil _))
theorem qTx:qC7.tys=tys:=rfl
theorem qTy:qC7.C=[(68,k60)]:=rfl
attribute [local go_sem] qTx qTy k60
theorem cSglI:Cn Tryz.prog 189 kSgl:=by
 refine Cn.pur Tryz.func189 (by kernel_rfl) rfl fun d x hx=>?_
 rename Int=>n
 refine Holds.go (c:=qC7) Tryz.func189 rfl Tryz.results189 Tryz.ntmps189 (by omega) (by simp) rfl ?_
 intro X0 w0;by_cases h:-549755813888≤n∧n≤549755813887
 ·by_cases h0:n<0
  ·have e:sgl n=-2*n-1:=by unfold sgl;rw[if_pos h,if_pos h0]
   rw[e]
   (repeat' (first|apply zS|apply zB|(apply zW;simp only[go_sem,h,h0])|apply And.intro|intro _))
   all_goals first|omega|skip
  ·have e:sgl n=2*n:=by unfold sgl;rw[if_pos h,if_neg h0]
   rw[e]
   (repeat' (first|apply zS|apply zB|(apply zW;simp only[go_sem,h,h0])|apply And.intro|intro _))
   all_goals first|omega|skip
 ·have e:sgl n=-1:=by unfold sgl;rw[if_neg h]
  rw[e]
  (repeat' (first|apply zS|apply zB|(apply zW;simp only[go_sem,h])|apply And.intro|intro _))
  all_goals first|omega|skip
noncomputable def qC8:=mkX [(66,k60)] (COk.cons c58 (COk.nil _))
theorem qTz:qC8.tys=tys:=rfl
theorem qT0:qC8.C=[(66,k60)]:=rfl
attribute [local go_sem] qTz qT0 k60
theorem k9u:Cn Tryz.prog 159 kVar:=by
 refine Cn.pur Tryz.func159 (by kernel_rfl) rfl fun d x hx=>?_
 rename Int=>n
 refine Holds.go (c:=qC8) Tryz.func159 rfl Tryz.results159 Tryz.ntmps159 (by omega) (by simp) rfl ?_
 intro X0 w0;by_cases h:0≤n∧n≤1099511627775
 ·have e:varint n=strOf ((kA6 n).map encZ):=if_pos h;rw[e]
  (repeat' (first|apply zS|apply zB|(apply zW;simp only[go_sem,h])|apply And.intro|intro _))
  all_goals first|omega|skip
  refine zL (fun s:Int×List Int=>⟨[(0,.v (.int .i64 s.1)),(3,.own 7)],[(7,.sl 5 1 (s.2.map encZ))]⟩)
   (fun s=>0≤s.1∧s.1≤1099511627775∧s.2++kA6 s.1=kA6 n∧(s.2.length:Int)+s.1≤1099511627775) (fun s=>s.1.toNat) (n,[]) ⟨h.1,h.2,rfl,by simp;omega⟩ ?_ ?_
  ·simp only[go_sem]
  rintro⟨m,L⟩ ⟨h0,h1,hv,hl⟩;simp only at h0 h1 hv hl⊢;have hs:=shr7 m;by_cases hlt:127<m
  ·have hm:=kUx hlt
   (repeat' (first|apply zS|apply zB|(apply zW;simp only[go_sem,hs,hlt])|apply And.intro|intro _))
   all_goals first|omega|skip
   refine⟨(m / 128,L++[vb m]),⟨by simp only;omega,by simp only;omega,by simp only;rw[←hv,hm];simp,by simp;omega⟩,by simp only;omega,rfl,?_⟩
   rw[List.map_append];rfl
  ·have hm:=kQc hlt;have hb:∀row∈L.map encZ++[[.v (.int .u8 (IntKind.u8.wrap m))]],isByte row:=kT5
   (repeat' (first|apply zS|apply zB|(apply zW;simp only[go_sem,hs,hlt])|apply And.intro|intro _))
   all_goals first|omega|exact hb _ ‹_›|skip
   rw[←hv,hm,List.map_append];rfl
 ·have e:varint n=⟨#[]⟩:=if_neg h;rw[e]
  (repeat' (first|apply zS|apply zB|(apply zW;simp only[go_sem,h])|apply And.intro|intro _))
  all_goals first|omega|skip
noncomputable def qC9:=mkX [(68,k60)] (COk.cons c60 (COk.nil _))
theorem qT1:qC9.tys=tys:=rfl
theorem qT2:qC9.C=[(68,k60)]:=rfl
attribute [local go_sem] qT1 qT2 k60
theorem k9w:Cn Tryz.prog 185 kVar:=by
 refine Cn.pur Tryz.func185 (by kernel_rfl) rfl fun d x hx=>?_
 rename Int=>n
 refine Holds.go (c:=qC9) Tryz.func185 rfl Tryz.results185 Tryz.ntmps185 (by omega) (by simp) rfl ?_
 intro X0 w0;by_cases h:0≤n∧n≤1099511627775
 ·have e:varint n=strOf ((kA6 n).map encZ):=if_pos h;rw[e]
  (repeat' (first|apply zS|apply zB|(apply zW;simp only[go_sem,h])|apply And.intro|intro _))
  all_goals first|omega|skip
  refine zL (fun s:Int×List Int=>⟨[(0,.v (.int .i64 s.1)),(3,.own 7)],[(7,.sl 5 1 (s.2.map encZ))]⟩)
   (fun s=>0≤s.1∧s.1≤1099511627775∧s.2++kA6 s.1=kA6 n∧(s.2.length:Int)+s.1≤1099511627775) (fun s=>s.1.toNat) (n,[]) ⟨h.1,h.2,rfl,by simp;omega⟩ ?_ ?_
  ·simp only[go_sem]
  rintro⟨m,L⟩ ⟨h0,h1,hv,hl⟩;simp only at h0 h1 hv hl⊢;have hs:=shr7 m;by_cases hlt:127<m
  ·have hm:=kUx hlt
   (repeat' (first|apply zS|apply zB|(apply zW;simp only[go_sem,hs,hlt])|apply And.intro|intro _))
   all_goals first|omega|skip
   refine⟨(m / 128,L++[vb m]),⟨by simp only;omega,by simp only;omega,by simp only;rw[←hv,hm];simp,by simp;omega⟩,by simp only;omega,rfl,?_⟩
   rw[List.map_append];rfl
  ·have hm:=kQc hlt;have hb:∀row∈L.map encZ++[[.v (.int .u8 (IntKind.u8.wrap m))]],isByte row:=kT5
   (repeat' (first|apply zS|apply zB|(apply zW;simp only[go_sem,hs,hlt])|apply And.intro|intro _))
   all_goals first|omega|exact hb _ ‹_›|skip
   rw[←hv,hm,List.map_append];rfl
 ·have e:varint n=⟨#[]⟩:=if_neg h;rw[e]
  (repeat' (first|apply zS|apply zB|(apply zW;simp only[go_sem,h])|apply And.intro|intro _))
  all_goals first|omega|skip
end
end Go.Proofs.YtjdklcjoeanimaaGreat

namespace Go.Proofs.YtjdklcjoeanimaaGreat
open Go.Vc
attribute [local irreducible] Go.Vc.WP
attribute [local go_sem] kAd kAe
theorem qAl (rows:List (List SV)):(strOf rows).size=rows.length:=by simp[strOf,ByteArray.size]
theorem kNe:∀(k:Nat) (n:Int),n<128 ^ (k+1)→(kA6 n).length≤k+1
 | 0,n,h=>by rw[kQc (by omega)];simp
 |k+1,n,h=>by
  by_cases hn:127<n
  ·rw[kUx hn];have:=kNe k (n / 128) (by rw[Int.pow_succ]at h;omega)
   simp only[List.length_cons];omega
  ·rw[kQc hn];simp
theorem kFq (n:Int):(varint n).size≤6:=by
 unfold varint;split
 ·rename_i h;rw[qAl,List.length_map]
  exact kNe 5 n (by
              have:(128:Int) ^ (5+1)=4398046511104:=by decide
              omega)
 ·simp[ByteArray.size]
def kGa (s:ByteArray) (L:List Int):ByteArray:=L.foldl (fun s x=>s++varint (sgl x)) s
theorem kP8 (s:ByteArray) (L:List Int):(kGa s L).size≤s.size+6*L.length:=by
 induction L generalizing s with
 |nil=>simp[kGa]
 |cons a l ih =>
  have h1:=ih (s++varint (sgl a));have h2:=kFq (sgl a);have h3:kGa s (a::l)=kGa (s++varint (sgl a)) l:=rfl;rw[h3];simp only[List.length_cons,ByteArray.size_append]at *;omega
theorem kWn (s:ByteArray) (L:List Int) (k:Nat) (h:k<L.length):kGa s (L.take (k+1))=kGa s (L.take k)++varint (sgl L[k]):=by
 unfold kGa;rw[List.take_succ_eq_append_getElem h,List.foldl_append];rfl
def kHd (L:List Int):Bool:=L.all fun x=>decide (0≤sgl x)
def pack (L:List Int):ByteArray:=if kHd L=true then kGa (varint L.length) L else⟨#[]⟩
theorem kLz (L:List Int) (k:Nat) (h:k<L.length) (hk:kHd (L.take k)=true) (hn:0≤sgl L[k]):kHd (L.take (k+1))=true:=by
 unfold kHd at *;rw[List.take_succ_eq_append_getElem h,List.all_append,hk];simpa using hn
theorem kZw (L:List Int) (k:Nat) (h:k<L.length) (hn:sgl L[k]<0):pack L=⟨#[]⟩:=by
 unfold pack;rw[if_neg];intro ha;have:=List.all_eq_true.1 ha L[k] (List.getElem_mem h);simp only[decide_eq_true_eq]at this;omega
def kNq:Ctr:=pur (fun args=>decI (aR args 0)) (fun L=>[.sl 1 (L.map encI)]) (fun L=>L.length≤2097152) (fun _ L=>.v (.string (pack L))) (fun _ _=>[])
attribute [local go_sem] kAf
section
noncomputable def qAm:=mkX [(159,kVar),(163,kSgl)] (COk.cons k9u (COk.cons cSglS (COk.nil _)))
theorem qOg:qAm.tys=tys:=rfl
theorem qOh:qAm.C=[(159,kVar),(163,kSgl)]:=rfl
attribute [local go_sem] qOg qOh kVar kSgl
theorem cPackS:Cn Tryz.prog 161 kNq:=by
 refine Cn.pur Tryz.func161 (by kernel_rfl) rfl fun d x hx=>?_
 rename List Int=>L
 refine Holds.go (c:=qAm) Tryz.func161 rfl Tryz.results161 Tryz.ntmps161 (by omega) (by simp) rfl ?_
 intro X0 w0
 (repeat' (first|apply zS|apply zB|(apply zW;simp only[go_sem])|apply And.intro|intro _))
 all_goals first|omega|skip
 refine zL (fun k:Nat=>⟨[(0,.sl 1 (L.map encI)),(3,.v (.string (kGa (varint L.length) (L.take k)))),(4,.v (.int .i64 k))],[]⟩)
  (fun k=>k≤L.length∧kHd (L.take k)=true) (fun k=>L.length-k) 0 ⟨by omega,rfl⟩ ?_ ?_
 ·simp only[go_sem];exact⟨rfl,rfl⟩
 intro k ⟨hk,hok⟩;have hz:=kP8 (varint L.length) (L.take k);have hz0:=kFq L.length;have hz1:(L.take k).length≤k:=by simp;omega
 by_cases hlt:k<L.length
 ·have h1:=kAa encI L k hlt;have hz2:=kFq (sgl L[k]);by_cases hneg:sgl L[k]<0
  ·rw[kZw L k hlt hneg]
   (repeat' (first|apply zS|apply zB|(apply zW;simp only[go_sem,h1,encI,hneg])|apply And.intro|intro _))
   all_goals first|omega|skip
  ·(repeat' (first|apply zS|apply zB|(apply zW;simp only[go_sem,h1,encI,hneg])|apply And.intro|intro _))
   all_goals first|omega|skip
   refine⟨k+1,⟨by omega,kLz L k hlt hok (by omega)⟩,by omega,?_⟩
   rw[kWn _ L k hlt]
   (first|(and_intros<;>rfl)|simp)
 ·rw[show k=L.length by omega,List.take_length]at hok
  have e:pack L=kGa (varint L.length) L:=if_pos hok;rw[e];rw[show k=L.length by omega,List.take_length]
  (repeat' (first|apply zS|apply zB|(apply zW;simp only[go_sem])|apply And.intro|intro _))
  all_goals first|omega|skip
end
end Go.Proofs.YtjdklcjoeanimaaGreat

