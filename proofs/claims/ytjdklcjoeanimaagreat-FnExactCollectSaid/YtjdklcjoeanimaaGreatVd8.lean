/-
  DERIVED. Several texts of ours in one: VtRws, VtInl0.
-/
import Derived.Test.YtjdklcjoeanimaaGreatVd7
set_option linter.unusedSimpArgs false
set_option linter.unusedVariables false
set_option maxHeartbeats 1000000
set_option maxRecDepth 10000
namespace Go.Proofs.YtjdklcjoeanimaaGreat
open Go.Vc
attribute [local irreducible] Go.Vc.WP
attribute [local go_sem] kAd kAe
attribute [local go_sem] kFg k6r
theorem k7e {L:List Row}{i:Nat}(h:¬((0≤(L.getD i zRow).offset∧(L.getD i zRow).offset≤1000000)∧(0≤(L.getD i zRow).line∧(L.getD i zRow).line≤59)∧(0<i→(L.getD (i-1) zRow).offset<(L.getD i zRow).offset))):kVs L i=false:=decide_eq_false h
theorem k7f {L:List Row}{i:Nat}(h1:0≤(L.getD i zRow).offset∧(L.getD i zRow).offset≤1000000) (h2:0≤(L.getD i zRow).line∧(L.getD i zRow).line≤59) (h3:0<i→(L.getD (i-1) zRow).offset<(L.getD i zRow).offset):kVs L i=true:=decide_eq_true ⟨h1,h2,h3⟩
theorem kHx {L:List Row}{k:Nat}(h:k<L.length):L.getD k zRow=L[k]:=by
 rw[List.getD_eq_getElem?_getD,List.getElem?_eq_getElem h];rfl
def kJd:Ctr:=pur (fun args=>kHl (aR args 0)) (fun L=>[.sl 3 (L.map encRow)]) (fun L=>L.length≤4194304) (fun _ L=>.v (.bool (kLa L))) (fun _ _=>[])
def kE1:Ctr:=pur (fun args=>(kHl (aR args 0),aI args 1)) (fun x=>[.sl 3 (x.1.map encRow),.v (.int .i64 x.2)]) (fun x=>x.1.length≤4194304) (fun _ x=>.v (.int .i64 (kBa x.1 x.2))) (fun _ _=>[])
def kKr:Ctr:=pur (fun args=>(kHl (aR args 0),aI args 1)) (fun x=>[.sl 3 (x.1.map encRow),.v (.int .i64 x.2)]) (fun x=>x.1.length≤4194304) (fun _ x=>.v (.bool (kG7 x.1 x.2))) (fun _ _=>[])
section
noncomputable def qA3:=mkX [(66,k60)] (COk.cons c58 (COk.nil _))
theorem qPg:qA3.tys=tys:=rfl
theorem qPh:qA3.C=[(66,k60)]:=rfl
attribute [local go_sem] qPg qPh k60
theorem qIw:Cn Tryz.prog 255 kJd:=by
 refine Cn.pur Tryz.func255 (by kernel_rfl) rfl fun d x hx=>?_
 rename List Row=>L
 refine Holds.go (c:=qA3) Tryz.func255 rfl Tryz.results255 Tryz.ntmps255 (by omega) (by simp) rfl ?_
 intro X0 w0
 (repeat' (first|apply zS|apply zB|((first|apply zW| refine zd 34 (h:=?_));simp only[go_sem])|apply And.intro|intro _))
 all_goals first|omega|skip
 refine zL (fun k:Nat=>⟨[(0,.sl 3 (L.map encRow)),(3,.v (.int .i64 k))],[]⟩) (fun k=>k≤L.length∧kJn L k=true) (fun k=>L.length-k) 0 ⟨by omega,rfl⟩ ?_ ?_
 ·(simp only[go_sem]<;>(first|(and_intros<;>rfl)|simp))
 intro k ⟨hk,hu⟩;by_cases hlt:k<L.length;rotate_left
 ·have hge:¬(k:Int)<L.length:=by omega
  obtain rfl:k=L.length:=by omega
  have e:kLa L=true:=hu;rw[e]
  (repeat' (first|apply zS|apply zB|((first|apply zW| refine zd 34 (h:=?_));simp only[go_sem,hge])|apply And.intro|intro _))
  all_goals first|omega|rfl|skip
 have hli:(k:Int)<L.length:=by omega
 have hr:=kAa encRow L k hlt;have hbad:=fun h=>@kVt L k hlt (k7e h)
 have hnx:=fun h1 h2 h3=>(show kJn L (k+1)=true by rw[kTr,hu,k7f h1 h2 h3];rfl)
 have hrp:Go.Vc.rowAt (L.map encRow) ((k:Int)-1).toNat=encRow (L.getD (k-1) zRow):=by
  rw[show((k:Int)-1).toNat=k-1 by omega,kHx (by omega)]
  exact kAa encRow L (k-1) (by omega)
 rw[kHx hlt]at hbad hnx;generalize L[k]=x at *;generalize L.getD (k-1) zRow=y at *;obtain⟨a,l,s⟩:=x;obtain⟨ya,yl,ys⟩:=y;simp only at hbad hnx;by_cases c1:0≤a∧a≤1000000;rotate_left
 ·rw[hbad fun h=>c1 h.1]
  have e0:=in_f c1
  (repeat' (first|apply zS|apply zB|((first|apply zW| refine zd 34 (h:=?_));simp only[go_sem,hli,hr,hrp,encRow,e0])|apply And.intro|intro _))
  all_goals first|omega|rfl|skip
 have e1:=in_t c1;by_cases c2:0≤l∧l≤59;rotate_left
 ·rw[hbad fun h=>c2 h.2.1]
  have e0:=in_f c2
  (repeat' (first|apply zS|apply zB|((first|apply zW| refine zd 34 (h:=?_));simp only[go_sem,hli,hr,hrp,encRow,e1,e0])|apply And.intro|intro _))
  all_goals first|omega|rfl|skip
 have e2:=in_t c2;by_cases c6:0<k
 ·have hki:0<(k:Int):=by omega
  by_cases c7:a≤ya
  ·rw[hbad fun h=>by have:=h.2.2 c6;omega]
   (repeat' (first|apply zS|apply zB|((first|apply zW| refine zd 34 (h:=?_));simp only[go_sem,hli,hr,hrp,encRow,e1,e2,hki,c7])|apply And.intro|intro _))
   all_goals first|omega|rfl|skip
  ·have n1:=hnx c1 c2 (fun _=>by omega)
   (repeat' (first|apply zS|apply zB|((first|apply zW| refine zd 34 (h:=?_));simp only[go_sem,hli,hr,hrp,encRow,e1,e2,hki,c7])|apply And.intro|intro _))
   all_goals first|omega|rfl|skip
   all_goals first|exact⟨k+1,⟨by omega,n1⟩,by omega,by(first|(and_intros<;>rfl)|simp)⟩|trace_state
 ·have n1:=hnx c1 c2 (fun h=>absurd h c6)
  have hki:¬0<(k:Int):=by omega
  (repeat' (first|apply zS|apply zB|((first|apply zW| refine zd 34 (h:=?_));simp only[go_sem,hli,hr,hrp,encRow,e1,e2,hki])|apply And.intro|intro _))
  all_goals first|omega|rfl|skip
  all_goals first|exact⟨k+1,⟨by omega,n1⟩,by omega,by(first|(and_intros<;>rfl)|simp)⟩|trace_state
noncomputable def qA4:=mkX [(68,k60)] (COk.cons c60 (COk.nil _))
theorem qPi:qA4.tys=tys:=rfl
theorem qPj:qA4.C=[(68,k60)]:=rfl
attribute [local go_sem] qPi qPj k60
theorem qIx:Cn Tryz.prog 272 kJd:=by
 refine Cn.pur Tryz.func272 (by kernel_rfl) rfl fun d x hx=>?_
 rename List Row=>L
 refine Holds.go (c:=qA4) Tryz.func272 rfl Tryz.results272 Tryz.ntmps272 (by omega) (by simp) rfl ?_
 intro X0 w0
 (repeat' (first|apply zS|apply zB|((first|apply zW| refine zd 25 (h:=?_));simp only[go_sem])|apply And.intro|intro _))
 all_goals first|omega|skip
 refine zL (fun k:Nat=>⟨[(0,.sl 3 (L.map encRow)),(5,.sl 3 (L.map encRow)),(6,.v (.int .i64 L.length)),(7,.v (.int .i64 k))],[]⟩) (fun k=>k≤L.length∧kJn L k=true) (fun k=>L.length-k) 0 ⟨by omega,rfl⟩ ?_ ?_
 ·(simp only[go_sem]<;>(first|(and_intros<;>rfl)|simp))
 intro k ⟨hk,hu⟩;by_cases hlt:k<L.length;rotate_left
 ·have hge:¬(k:Int)<L.length:=by omega
  obtain rfl:k=L.length:=by omega
  have e:kLa L=true:=hu;rw[e]
  (repeat' (first|apply zS|apply zB|((first|apply zW| refine zd 25 (h:=?_));simp only[go_sem,hge])|apply And.intro|intro _))
  all_goals first|omega|rfl|skip
 have hli:(k:Int)<L.length:=by omega
 have hr:=kAa encRow L k hlt;have hbad:=fun h=>@kVt L k hlt (k7e h)
 have hnx:=fun h1 h2 h3=>(show kJn L (k+1)=true by rw[kTr,hu,k7f h1 h2 h3];rfl)
 have hrp:Go.Vc.rowAt (L.map encRow) ((k:Int)-1).toNat=encRow (L.getD (k-1) zRow):=by
  rw[show((k:Int)-1).toNat=k-1 by omega,kHx (by omega)]
  exact kAa encRow L (k-1) (by omega)
 rw[kHx hlt]at hbad hnx;generalize L[k]=x at *;generalize L.getD (k-1) zRow=y at *;obtain⟨a,l,s⟩:=x;obtain⟨ya,yl,ys⟩:=y;simp only at hbad hnx;by_cases c1:0≤a∧a≤1000000;rotate_left
 ·rw[hbad fun h=>c1 h.1]
  have e0:=in_f c1
  (repeat' (first|apply zS|apply zB|((first|apply zW| refine zd 25 (h:=?_));simp only[go_sem,hli,hr,hrp,encRow,e0])|apply And.intro|intro _))
  all_goals first|omega|rfl|skip
 have e1:=in_t c1;by_cases c2:0≤l∧l≤59;rotate_left
 ·rw[hbad fun h=>c2 h.2.1]
  have e0:=in_f c2
  (repeat' (first|apply zS|apply zB|((first|apply zW| refine zd 25 (h:=?_));simp only[go_sem,hli,hr,hrp,encRow,e1,e0])|apply And.intro|intro _))
  all_goals first|omega|rfl|skip
 have e2:=in_t c2;by_cases c6:0<k
 ·have hki:0<(k:Int):=by omega
  by_cases c7:ya≥a
  ·rw[hbad fun h=>by have:=h.2.2 c6;omega]
   (repeat' (first|apply zS|apply zB|((first|apply zW| refine zd 25 (h:=?_));simp only[go_sem,hli,hr,hrp,encRow,e1,e2,hki,c7])|apply And.intro|intro _))
   all_goals first|omega|rfl|skip
  ·have n1:=hnx c1 c2 (fun _=>by omega)
   (repeat' (first|apply zS|apply zB|((first|apply zW| refine zd 25 (h:=?_));simp only[go_sem,hli,hr,hrp,encRow,e1,e2,hki,c7])|apply And.intro|intro _))
   all_goals first|omega|rfl|skip
   all_goals first|exact⟨k+1,⟨by omega,n1⟩,by omega,by(first|(and_intros<;>rfl)|simp)⟩|trace_state
 ·have n1:=hnx c1 c2 (fun h=>absurd h c6)
  have hki:¬0<(k:Int):=by omega
  (repeat' (first|apply zS|apply zB|((first|apply zW| refine zd 25 (h:=?_));simp only[go_sem,hli,hr,hrp,encRow,e1,e2,hki])|apply And.intro|intro _))
  all_goals first|omega|rfl|skip
  all_goals first|exact⟨k+1,⟨by omega,n1⟩,by omega,by(first|(and_intros<;>rfl)|simp)⟩|trace_state
end
theorem kTy {L:List Row}{o:Int}{k:Nat}(h:k<L.length):kGn L o (k+1)=if L[k].offset≤o then(k:Int)else kGn L o k:=by
 show(if(L.getD k zRow).offset≤o then(k:Int)else kGn L o k)=_
 rw[kHx h]
section
noncomputable def qA5:=mkX [(255,kJd)] (COk.cons qIw (COk.nil _))
theorem qPk:qA5.tys=tys:=rfl
theorem qPl:qA5.C=[(255,kJd)]:=rfl
attribute [local go_sem] qPk qPl kJd
theorem kZp:Cn Tryz.prog 224 kE1:=by
 refine Cn.pur Tryz.func224 (by kernel_rfl) rfl fun d x hx=>?_
 obtain⟨L,o⟩:=x;simp only at hx⊢;refine Holds.go (c:=qA5) Tryz.func224 rfl Tryz.results224 Tryz.ntmps224 (by omega) (by simp) rfl ?_
 intro X0 w0
 cases hok:kLa L with
 |false =>
  have e:kBa L o=-1:=if_neg (by rw[hok];simp)
  rw[e]
  (repeat' (first|apply zS|apply zB|(apply zW;simp only[go_sem,hok])|apply And.intro|intro _))
  all_goals first|omega|rfl|skip
  refine zL (fun _:Unit=>⟨[(0,.sl 3 (L.map encRow)),(1,.v (.int .i64 o)),(5,.v (.int .i64 (-1))),(6,.v (.bool false)),(7,.v (.int .i64 0))],[]⟩) (fun _=>True) (fun _=>0) () trivial ?_ ?_
  ·(simp only[go_sem]<;>(first|(and_intros<;>rfl)|simp))
  intro _ _;by_cases hlt:(0:Int)<L.length
  ·(repeat' (first|apply zS|apply zB|(apply zW;simp only[go_sem,hlt])|apply And.intro|intro _))
   all_goals first|omega|rfl|skip
  ·(repeat' (first|apply zS|apply zB|(apply zW;simp only[go_sem,hlt])|apply And.intro|intro _))
   all_goals first|omega|rfl|skip
 |true =>
  have e:kBa L o=kGn L o L.length:=if_pos hok;rw[e]
  (repeat' (first|apply zS|apply zB|(apply zW;simp only[go_sem,hok])|apply And.intro|intro _))
  all_goals first|omega|rfl|skip
  refine zL (fun k:Nat=>⟨[(0,.sl 3 (L.map encRow)),(1,.v (.int .i64 o)),(5,.v (.int .i64 (kGn L o k))),(6,.v (.bool true)),(7,.v (.int .i64 k))],[]⟩) (fun k=>k≤L.length) (fun k=>L.length-k) 0 (by simp) ?_ ?_
  ·have h0:kGn L o 0=-1:=rfl
   (simp only[go_sem,h0]<;>(first|(and_intros<;>rfl)|simp))
  intro k hk;by_cases hlt:k<L.length;rotate_left
  ·have hge:¬(k:Int)<L.length:=by omega
   obtain rfl:k=L.length:=by omega
   (repeat' (first|apply zS|apply zB|(apply zW;simp only[go_sem,hge])|apply And.intro|intro _))
   all_goals first|omega|rfl|skip
  have hli:(k:Int)<L.length:=by omega
  have hr:=kAa encRow L k hlt;have hs:=kTy (o:=o) hlt;by_cases c1:L[k].offset≤o
  ·rw[if_pos c1]at hs
   (repeat' (first|apply zS|apply zB|(apply zW;simp only[go_sem,hli,hr,encRow,c1])|apply And.intro|intro _))
   all_goals first|omega|rfl|exact⟨k+1,by omega,by omega,by rw[hs];(first|(and_intros<;>rfl)|simp)⟩|skip
  ·rw[if_neg c1]at hs
   (repeat' (first|apply zS|apply zB|(apply zW;simp only[go_sem,hli,hr,encRow,c1])|apply And.intro|intro _))
   all_goals first|omega|rfl|exact⟨k+1,by omega,by omega,by rw[hs];(first|(and_intros<;>rfl)|simp)⟩|skip
noncomputable def qA6:=mkX [(272,kJd)] (COk.cons qIx (COk.nil _))
theorem qPm:qA6.tys=tys:=rfl
theorem qPn:qA6.C=[(272,kJd)]:=rfl
attribute [local go_sem] qPm qPn kJd
theorem kZr:Cn Tryz.prog 261 kE1:=by
 refine Cn.pur Tryz.func261 (by kernel_rfl) rfl fun d x hx=>?_
 obtain⟨L,o⟩:=x;simp only at hx⊢;refine Holds.go (c:=qA6) Tryz.func261 rfl Tryz.results261 Tryz.ntmps261 (by omega) (by simp) rfl ?_
 intro X0 w0
 cases hok:kLa L with
 |false =>
  have e:kBa L o=-1:=if_neg (by rw[hok];simp)
  rw[e]
  (repeat' (first|apply zS|apply zB|(apply zW;simp only[go_sem,hok])|apply And.intro|intro _))
  all_goals first|omega|rfl|skip
 |true =>
  have e:kBa L o=kGn L o L.length:=if_pos hok;rw[e]
  (repeat' (first|apply zS|apply zB|(apply zW;simp only[go_sem,hok])|apply And.intro|intro _))
  all_goals first|omega|rfl|skip
  refine zL (fun k:Nat=>⟨[(1,.v (.int .i64 o)),(5,.v (.int .i64 (kGn L o k))),(11,.sl 3 (L.map encRow)),(12,.v (.int .i64 L.length)),(13,.v (.int .i64 k))],[]⟩) (fun k=>k≤L.length) (fun k=>L.length-k) 0 (by simp) ?_ ?_
  ·have h0:kGn L o 0=-1:=rfl
   (simp only[go_sem,h0]<;>(first|(and_intros<;>rfl)|simp))
  intro k hk;by_cases hlt:k<L.length;rotate_left
  ·have hge:¬(k:Int)<L.length:=by omega
   obtain rfl:k=L.length:=by omega
   (repeat' (first|apply zS|apply zB|(apply zW;simp only[go_sem,hge])|apply And.intro|intro _))
   all_goals first|omega|rfl|skip
  have hli:(k:Int)<L.length:=by omega
  have hr:=kAa encRow L k hlt;have hs:=kTy (o:=o) hlt;by_cases c1:L[k].offset≤o
  ·rw[if_pos c1]at hs
   (repeat' (first|apply zS|apply zB|(apply zW;simp only[go_sem,hli,hr,encRow,c1])|apply And.intro|intro _))
   all_goals first|omega|rfl|exact⟨k+1,by omega,by omega,by rw[hs];(first|(and_intros<;>rfl)|simp)⟩|skip
  ·rw[if_neg c1]at hs
   (repeat' (first|apply zS|apply zB|(apply zW;simp only[go_sem,hli,hr,encRow,c1])|apply And.intro|intro _))
   all_goals first|omega|rfl|exact⟨k+1,by omega,by omega,by rw[hs];(first|(and_intros<;>rfl)|simp)⟩|skip
end
end Go.Proofs.YtjdklcjoeanimaaGreat

namespace Go.Proofs.YtjdklcjoeanimaaGreat
open Go.Vc
attribute [local irreducible] Go.Vc.WP
attribute [local go_sem] kAd kAe
attribute [local go_sem] kCe kH5
theorem kKs {L:List Inline}{k:Nat}(h:k<L.length):L.getD k zInl=L[k]:=by
 rw[List.getD_eq_getElem?_getD,List.getElem?_eq_getElem h];rfl
theorem kGf {a b v l:Int}{s:ByteArray}(h:¬(0≤a∧a<b∧b≤1000000∧(0≤v∧v≤2)∧(0≤l∧l≤59))):kF9 ⟨a,b,v,l,s⟩=false:=by
 unfold kF9;rw[decide_eq_false h];rfl
theorem k3o {x:Inline}(h:kDw x.name=false):kF9 x=false:=by
 unfold kF9;rw[h,Bool.and_false]
theorem k3p {a b v l:Int}{s:ByteArray}(h0:0≤a) (h1:a<b) (h2:b≤1000000) (h3:0≤v∧v≤2) (h4:0≤l∧l≤59) (h5:kDw s=true):kF9 ⟨a,b,v,l,s⟩=true:=by
 unfold kF9;rw[decide_eq_true ⟨h0,h1,h2,h3,h4⟩,h5];rfl
def inl2 (k:Nat) (x y:Inline):Bool:=decide (k=0∨¬(x.level<y.level∨x.level=y.level∧x.start<y.stop))
theorem k3n {L:List Inline}{k:Nat}(h:k<L.length):kPt L k=(kF9 L[k]&&inl2 k L[k] (L.getD (k-1) zInl)&&within L k k):=by
 unfold kPt qEn;rw[kKs h];rfl
theorem kZv {L:List Inline}{k n:Nat}(h:k<L.length) (hn:n<L.length):within L k (n+1)=(within L k n || inIn L[k] L[n]):=by
 rw[k5z,kKs h,kKs hn]
theorem k3m {L:List Inline}{k:Nat}(h:k<L.length):within L k 0=(L[k].level==0):=by
 unfold within;rw[kKs h,List.range_zero,List.any_nil,Bool.or_false];rw[Bool.eq_iff_iff,decide_eq_true_eq,beq_iff_eq]
theorem kD5 {x y:Inline}(h:¬(y.level=x.level-1∧y.start≤x.start∧x.stop≤y.stop)):inIn x y=false:=decide_eq_false h
theorem kOr {x y:Inline}(h1:y.level=x.level-1) (h2:y.start≤x.start) (h3:x.stop≤y.stop):inIn x y=true:=decide_eq_true ⟨h1,h2,h3⟩
def kWd (L:List Inline):Prop:=L.length≤4194304∧∀y∈L,y.name.size≤4194304
def k0h:Ctr:=pur (fun args=>kCk (aC args 0)) (fun x=>[.agg (encInline x)]) (fun x=>x.name.size≤4194304) (fun _ x=>.v (.bool (kF9 x))) (fun _ _=>[])
def kJa:Ctr:=pur (fun args=>kEg (aR args 0)) (fun L=>[.sl 5 (L.map encInline)]) kWd (fun _ L=>.v (.bool (kE5 L))) (fun _ _=>[])
def k7b:Ctr:=pur (fun args=>(kEg (aR args 0),aI args 1)) (fun x=>[.sl 5 (x.1.map encInline),.v (.int .i64 x.2)]) (fun x=>kWd x.1) (fun d _=>.own d) (fun d x=>[(d,.sl 256 5 ((kEh x.1 x.2).map encInline))])
section
noncomputable def cxI1:=mkX [(68,k60),(232,kCp)] (COk.cons c60 (COk.cons kUu (COk.nil _)))
theorem cxI1_t:cxI1.tys=tys:=rfl
theorem cxI1_c:cxI1.C=[(68,k60),(232,kCp)]:=rfl
attribute [local go_sem] cxI1_t cxI1_c k60 kCp
theorem cInl1I:Cn Tryz.prog 284 k0h:=by
 refine Cn.pur Tryz.func284 (by kernel_rfl) rfl fun d x hx=>?_
 obtain⟨a,b,v,l,s⟩:=x;simp only at hx⊢;unfold encInline;refine Holds.go (c:=cxI1) Tryz.func284 rfl Tryz.results284 Tryz.ntmps284 (by omega) (by simp) rfl ?_
 intro X0 w0;by_cases c0:a≥0;rotate_left
 ·rw[kGf fun h=>c0 h.1]
  (repeat' (first|apply zS|apply zB|(apply zW;simp only[go_sem,c0])|apply And.intro|intro _))
  all_goals first|omega|rfl|skip
 by_cases c1:a<b;rotate_left
 ·rw[kGf fun h=>c1 h.2.1]
  (repeat' (first|apply zS|apply zB|(apply zW;simp only[go_sem,c0,c1])|apply And.intro|intro _))
  all_goals first|omega|rfl|skip
 by_cases c2:b≤1000000;rotate_left
 ·rw[kGf fun h=>c2 h.2.2.1]
  (repeat' (first|apply zS|apply zB|(apply zW;simp only[go_sem,c0,c1,c2])|apply And.intro|intro _))
  all_goals first|omega|rfl|skip
 by_cases c3:0≤v∧v≤2;rotate_left
 ·rw[kGf fun h=>c3 h.2.2.2.1]
  have e0:=in_f c3
  (repeat' (first|apply zS|apply zB|(apply zW;simp only[go_sem,c0,c1,c2,e0])|apply And.intro|intro _))
  all_goals first|omega|rfl|skip
 have e3:=in_t c3;by_cases c4:0≤l∧l≤59;rotate_left
 ·rw[kGf fun h=>c4 h.2.2.2.2]
  have e0:=in_f c4
  (repeat' (first|apply zS|apply zB|(apply zW;simp only[go_sem,c0,c1,c2,e3,e0])|apply And.intro|intro _))
  all_goals first|omega|rfl|skip
 have e4:=in_t c4
 have e:kF9 ⟨a,b,v,l,s⟩=kDw s:=by
  cases h:kDw s with
  |false=>exact k3o h
  |true=>exact k3p c0 c1 c2 c3 c4 h
 rw[e]
 (repeat' (first|apply zS|apply zB|(apply zW;simp only[go_sem,c0,c1,c2,e3,e4])|apply And.intro|intro _))
 all_goals first|omega|rfl|skip
end
end Go.Proofs.YtjdklcjoeanimaaGreat

