/-
  DERIVED. Several texts of ours in one: VtRul.
-/
import Derived.Test.YtjdklcjoeanimaaGreatVd5
set_option linter.unusedSimpArgs false
set_option linter.unusedVariables false
set_option maxHeartbeats 1000000
set_option maxRecDepth 10000
namespace Go.Proofs.YtjdklcjoeanimaaGreat
open Go.Vc
attribute [local irreducible] Go.Vc.WP
attribute [local go_sem] kAd kAe
attribute [local go_sem] kA4 qHf
theorem kFu {l a b d:Int}{f:Bool}(h:¬(l≤a∧a<b∧b≤1000000∧(0≤d∧d≤1200)∧(f=true→d=0))):kMm l ⟨a,b,f,d⟩=false:=decide_eq_false h
theorem kQf {l a b d:Int}{f:Bool}(h1:l≤a) (h2:a<b) (h3:b≤1000000) (h4:0≤d∧d≤1200) (h5:f=true→d=0):kMm l ⟨a,b,f,d⟩=true:=decide_eq_true ⟨h1,h2,h3,h4,h5⟩
theorem kHy {L:List Rule}{k:Nat}(h:k<L.length):L.getD k kEt=L[k]:=by
 rw[List.getD_eq_getElem?_getD,List.getElem?_eq_getElem h];rfl
theorem in_f {d lo hi:Int}(h:¬(lo≤d∧d≤hi)):(decide (lo≤d)&&decide (d≤hi))=false:=by
 rw[Bool.eq_false_iff];simp;omega
theorem in_t {d lo hi:Int}(h:lo≤d∧d≤hi):(decide (lo≤d)&&decide (d≤hi))=true:=by
 simp;omega
def kHz:Ctr:=pur (fun args=>kF2 (aR args 0)) (fun L=>[.sl 4 (L.map encRule)]) (fun L=>L.length≤4194304) (fun _ L=>.v (.bool (kGm L))) (fun _ _=>[])
def kM1:Ctr:=pur (fun args=>(kF2 (aR args 0),aI args 1)) (fun x=>[.sl 4 (x.1.map encRule),.v (.int .i64 x.2)]) (fun x=>x.1.length≤4194304) (fun _ x=>.v (.int .i64 (kC1 x.1 x.2))) (fun _ _=>[])
section
noncomputable def qAz:=mkX [(66,k60)] (COk.cons c58 (COk.nil _))
theorem qO6:qAz.tys=tys:=rfl
theorem qO7:qAz.C=[(66,k60)]:=rfl
attribute [local go_sem] qO6 qO7 k60
theorem qGf:Cn Tryz.prog 254 kHz:=by
 refine Cn.pur Tryz.func254 (by kernel_rfl) rfl fun d x hx=>?_
 rename List Rule=>L
 refine Holds.go (c:=qAz) Tryz.func254 rfl Tryz.results254 Tryz.ntmps254 (by omega) (by simp) rfl ?_
 intro X0 w0
 (repeat' (first|apply zS|apply zB|(apply zW;simp only[go_sem])|apply And.intro|intro _))
 all_goals first|omega|skip
 refine zL (fun k:Nat=>⟨[(0,.sl 4 (L.map encRule)),(3,.v (.int .i64 (kHc L k))),(4,.v (.int .i64 k))],[]⟩) (fun k=>k≤L.length∧kGl L k=true) (fun k=>L.length-k) 0 ⟨by omega,rfl⟩ ?_ ?_
 ·have h0:kHc L 0=0:=rfl
  (simp only[go_sem,h0]<;>(first|(and_intros<;>rfl)|simp))
 intro k ⟨hk,hu⟩;by_cases hlt:k<L.length;rotate_left
 ·have hge:¬(k:Int)<L.length:=by omega
  obtain rfl:k=L.length:=by omega
  have e:kGm L=true:=hu;rw[e]
  (repeat' (first|apply zS|apply zB|(apply zW;simp only[go_sem,hge])|apply And.intro|intro _))
  all_goals first|omega|rfl|skip
 have hli:(k:Int)<L.length:=by omega
 have hr:=kAa encRule L k hlt;have hbad:=fun h=>@kTq L k hlt h
 have hnx:kMm (kHc L k) (L.getD k kEt)=true→kGl L (k+1)=true:=fun h=>by rw[kMn,hu,h];rfl
 have hl1:kHc L (k+1)=(L.getD k kEt).stop:=rfl;rw[kHy hlt]at hbad hnx hl1;generalize L[k]=x at *;generalize kHc L k=l at *;obtain⟨a,b,f,d⟩:=x;simp only at hl1;by_cases c1:a<l
 ·rw[hbad (kFu fun h=>by have:=h.1;omega)]
  (repeat' (first|apply zS|apply zB|(apply zW;simp only[go_sem,hli,hr,encRule,c1])|apply And.intro|intro _))
  all_goals first|omega|rfl|skip
 by_cases c2:b≤a
 ·rw[hbad (kFu fun h=>by have:=h.2.1;omega)]
  (repeat' (first|apply zS|apply zB|(apply zW;simp only[go_sem,hli,hr,encRule,c1,c2])|apply And.intro|intro _))
  all_goals first|omega|rfl|skip
 by_cases c3:b>1000000
 ·rw[hbad (kFu fun h=>by have:=h.2.2.1;omega)]
  (repeat' (first|apply zS|apply zB|(apply zW;simp only[go_sem,hli,hr,encRule,c1,c2,c3])|apply And.intro|intro _))
  all_goals first|omega|rfl|skip
 by_cases c4:0≤d∧d≤1200;rotate_left
 ·rw[hbad (kFu fun h=>c4 h.2.2.2.1)]
  have e0:=in_f c4
  (repeat' (first|apply zS|apply zB|(apply zW;simp only[go_sem,hli,hr,encRule,c1,c2,c3,e0])|apply And.intro|intro _))
  all_goals first|omega|rfl|skip
 have e0:=in_t c4
 cases f with
 |false =>
  have n1:=hnx (kQf (by omega) (by omega) (by omega) c4 (by simp))
  (repeat' (first|apply zS|apply zB|(apply zW;simp only[go_sem,hli,hr,encRule,c1,c2,c3,e0])|apply And.intro|intro _))
  all_goals first|omega|rfl|skip
  all_goals first|exact⟨k+1,⟨by omega,n1⟩,by omega,by rw[hl1];(first|(and_intros<;>rfl)|simp)⟩|trace_state
 |true =>
  by_cases c5:d=0
  ·have n1:=hnx (kQf (by omega) (by omega) (by omega) c4 (fun _=>c5))
   (repeat' (first|apply zS|apply zB|(apply zW;simp only[go_sem,hli,hr,encRule,c1,c2,c3,e0,c5])|apply And.intro|intro _))
   all_goals first|omega|rfl|skip
   all_goals first|exact⟨k+1,⟨by omega,n1⟩,by omega,by rw[hl1];(first|(and_intros<;>rfl)|simp)⟩|trace_state
  ·rw[hbad (kFu fun h=>c5 (h.2.2.2.2 rfl))]
   (repeat' (first|apply zS|apply zB|(apply zW;simp only[go_sem,hli,hr,encRule,c1,c2,c3,e0,c5])|apply And.intro|intro _))
   all_goals first|omega|rfl|skip
noncomputable def qA0:=mkX [(68,k60)] (COk.cons c60 (COk.nil _))
theorem qO8:qA0.tys=tys:=rfl
theorem qO9:qA0.C=[(68,k60)]:=rfl
attribute [local go_sem] qO8 qO9 k60
theorem qGg:Cn Tryz.prog 259 kHz:=by
 refine Cn.pur Tryz.func259 (by kernel_rfl) rfl fun d x hx=>?_
 rename List Rule=>L
 refine Holds.go (c:=qA0) Tryz.func259 rfl Tryz.results259 Tryz.ntmps259 (by omega) (by simp) rfl ?_
 intro X0 w0
 (repeat' (first|apply zS|apply zB|((first|apply zW| refine zd 45 (h:=?_));simp only[go_sem])|apply And.intro|intro _))
 all_goals first|omega|skip
 refine zL (fun k:Nat=>⟨[(0,.sl 4 (L.map encRule)),(5,.sl 4 (L.map encRule)),(6,.v (.int .i64 L.length)),(7,.v (.int .i64 k))],[]⟩) (fun k=>k≤L.length∧kGl L k=true) (fun k=>L.length-k) 0 ⟨by omega,rfl⟩ ?_ ?_
 ·(simp only[go_sem]<;>(first|(and_intros<;>rfl)|simp))
 intro k ⟨hk,hu⟩;by_cases hlt:k<L.length;rotate_left
 ·have hge:¬(k:Int)<L.length:=by omega
  obtain rfl:k=L.length:=by omega
  have e:kGm L=true:=hu;rw[e]
  (repeat' (first|apply zS|apply zB|((first|apply zW| refine zd 45 (h:=?_));simp only[go_sem,hge])|apply And.intro|intro _))
  all_goals first|omega|rfl|skip
 have hli:(k:Int)<L.length:=by omega
 have hr:=kAa encRule L k hlt;have hbad:=fun h=>@kTq L k hlt h
 have hnx:kMm (kHc L k) (L.getD k kEt)=true→kGl L (k+1)=true:=fun h=>by rw[kMn,hu,h];rfl
 have hlp:=kY3 hu
 have hrp:Go.Vc.rowAt (L.map encRule) ((k:Int)-1).toNat=encRule (L.getD (k-1) kEt):=by
  rw[show((k:Int)-1).toNat=k-1 by omega,kHy (by omega)]
  exact kAa encRule L (k-1) (by omega)
 have hls:0<k→kHc L k=(L.getD (k-1) kEt).stop:=fun h=>by
  obtain⟨j,rfl⟩:∃j,k=j+1:=⟨k-1,by omega⟩
  rfl
 have hl0:k=0→kHc L k=0:=fun h=>by subst h;rfl
 rw[kHy hlt]at hbad hnx;generalize L[k]=x at *;generalize L.getD (k-1) kEt=y at *;generalize kHc L k=l at *;obtain⟨a,b,f,d⟩:=x;obtain⟨ya,yb,yf,yd⟩:=y;simp only at hls;by_cases c1:a<0
 ·rw[hbad (kFu fun h=>by have:=h.1;omega)]
  (repeat' (first|apply zS|apply zB|((first|apply zW| refine zd 45 (h:=?_));simp only[go_sem,hli,hr,hrp,encRule,c1])|apply And.intro|intro _))
  all_goals first|omega|rfl|skip
 by_cases c2:a≥b
 ·rw[hbad (kFu fun h=>by have:=h.2.1;omega)]
  (repeat' (first|apply zS|apply zB|((first|apply zW| refine zd 45 (h:=?_));simp only[go_sem,hli,hr,hrp,encRule,c1,c2])|apply And.intro|intro _))
  all_goals first|omega|rfl|skip
 by_cases c3:b>1000000
 ·rw[hbad (kFu fun h=>by have:=h.2.2.1;omega)]
  (repeat' (first|apply zS|apply zB|((first|apply zW| refine zd 45 (h:=?_));simp only[go_sem,hli,hr,hrp,encRule,c1,c2,c3])|apply And.intro|intro _))
  all_goals first|omega|rfl|skip
 by_cases c4:0≤d∧d≤1200;rotate_left
 ·rw[hbad (kFu fun h=>c4 h.2.2.2.1)]
  have e0:=in_f c4
  (repeat' (first|apply zS|apply zB|((first|apply zW| refine zd 45 (h:=?_));simp only[go_sem,hli,hr,hrp,encRule,c1,c2,c3,e0])|apply And.intro|intro _))
  all_goals first|omega|rfl|skip
 have e0:=in_t c4;by_cases c5:f=true∧d≠0
 ·obtain⟨rfl,c5⟩:=c5;rw[hbad (kFu fun h=>c5 (h.2.2.2.2 rfl))]
  (repeat' (first|apply zS|apply zB|((first|apply zW| refine zd 45 (h:=?_));simp only[go_sem,hli,hr,hrp,encRule,c1,c2,c3,e0,c5])|apply And.intro|intro _))
  all_goals first|omega|rfl|skip
 have e5:f=true→d=0:=fun h=>Classical.byContradiction fun hd=>c5 ⟨h,hd⟩
 by_cases c6:0<k
 ·have hly:=hls c6;subst hly;have hki:0<(k:Int):=by omega
  by_cases c7:a<l
  ·rw[hbad (kFu fun h=>by have:=h.1;omega)]
   cases f with
   |false =>
    (repeat' (first|apply zS|apply zB|((first|apply zW| refine zd 45 (h:=?_));simp only[go_sem,hli,hr,hrp,encRule,c1,c2,c3,e0,hki,c7])|apply And.intro|intro _))
    all_goals first|omega|rfl|skip
   |true =>
    have c8:=e5 rfl
    (repeat' (first|apply zS|apply zB|((first|apply zW| refine zd 45 (h:=?_));simp only[go_sem,hli,hr,hrp,encRule,c1,c2,c3,e0,c8,hki,c7])|apply And.intro|intro _))
    all_goals first|omega|rfl|skip
  ·have n1:=hnx (kQf (by omega) (by omega) (by omega) c4 e5)
   cases f with
   |false =>
    (repeat' (first|apply zS|apply zB|((first|apply zW| refine zd 45 (h:=?_));simp only[go_sem,hli,hr,hrp,encRule,c1,c2,c3,e0,hki,c7])|apply And.intro|intro _))
    all_goals first|omega|rfl|skip
    all_goals first|exact⟨k+1,⟨by omega,n1⟩,by omega,by(first|(and_intros<;>rfl)|simp)⟩|trace_state
   |true =>
    have c8:=e5 rfl
    (repeat' (first|apply zS|apply zB|((first|apply zW| refine zd 45 (h:=?_));simp only[go_sem,hli,hr,hrp,encRule,c1,c2,c3,e0,c8,hki,c7])|apply And.intro|intro _))
    all_goals first|omega|rfl|skip
    all_goals first|exact⟨k+1,⟨by omega,n1⟩,by omega,by(first|(and_intros<;>rfl)|simp)⟩|trace_state
 ·have hz:=hl0 (by omega)
  subst hz;have n1:=hnx (kQf (by omega) (by omega) (by omega) c4 e5)
  have hki:¬0<(k:Int):=by omega
  cases f with
  |false =>
   (repeat' (first|apply zS|apply zB|((first|apply zW| refine zd 45 (h:=?_));simp only[go_sem,hli,hr,hrp,encRule,c1,c2,c3,e0,hki])|apply And.intro|intro _))
   all_goals first|omega|rfl|skip
   all_goals first|exact⟨k+1,⟨by omega,n1⟩,by omega,by(first|(and_intros<;>rfl)|simp)⟩|trace_state
  |true =>
   have c8:=e5 rfl
   (repeat' (first|apply zS|apply zB|((first|apply zW| refine zd 45 (h:=?_));simp only[go_sem,hli,hr,hrp,encRule,c1,c2,c3,e0,c8,hki])|apply And.intro|intro _))
   all_goals first|omega|rfl|skip
   all_goals first|exact⟨k+1,⟨by omega,n1⟩,by omega,by(first|(and_intros<;>rfl)|simp)⟩|trace_state
end
theorem kKt {o:Int}{x:Rule}:hitR o x=true↔x.start≤o∧o<x.stop:=by unfold hitR;exact decide_eq_true_iff
section
noncomputable def qA1:=mkX [(254,kHz)] (COk.cons qGf (COk.nil _))
theorem qPa:qA1.tys=tys:=rfl
theorem qPb:qA1.C=[(254,kHz)]:=rfl
attribute [local go_sem] qPa qPb kHz
theorem qPc:Cn Tryz.prog 222 kM1:=by
 refine Cn.pur Tryz.func222 (by kernel_rfl) rfl fun d x hx=>?_
 obtain⟨L,o⟩:=x;simp only at hx⊢;refine Holds.go (c:=qA1) Tryz.func222 rfl Tryz.results222 Tryz.ntmps222 (by omega) (by simp) rfl ?_
 intro X0 w0
 cases hok:kGm L with
 |false =>
  have e:kC1 L o=-1:=if_neg (by rw[hok];simp)
  rw[e]
  (repeat' (first|apply zS|apply zB|(apply zW;simp only[go_sem,hok])|apply And.intro|intro _))
  all_goals first|omega|rfl|skip
  refine zL (fun _:Unit=>⟨[(0,.sl 4 (L.map encRule)),(1,.v (.int .i64 o)),(5,.v (.bool false)),(6,.v (.int .i64 0))],[]⟩) (fun _=>True) (fun _=>0) () trivial ?_ ?_
  ·(simp only[go_sem]<;>(first|(and_intros<;>rfl)|simp))
  intro _ _;by_cases hlt:(0:Int)<L.length
  ·(repeat' (first|apply zS|apply zB|(apply zW;simp only[go_sem,hlt])|apply And.intro|intro _))
   all_goals first|omega|rfl|skip
  ·(repeat' (first|apply zS|apply zB|(apply zW;simp only[go_sem,hlt])|apply And.intro|intro _))
   all_goals first|omega|rfl|skip
 |true =>
  have e:kC1 L o=firstIdx (hitR o) L:=if_pos hok;rw[e]
  (repeat' (first|apply zS|apply zB|(apply zW;simp only[go_sem,hok])|apply And.intro|intro _))
  all_goals first|omega|rfl|skip
  refine zL (fun k:Nat=>⟨[(0,.sl 4 (L.map encRule)),(1,.v (.int .i64 o)),(5,.v (.bool true)),(6,.v (.int .i64 k))],[]⟩) (fun k=>k≤L.length∧∀i (hi:i<L.length),i<k→hitR o L[i]=false) (fun k=>L.length-k) 0 (by simp) ?_ ?_
  ·(simp only[go_sem]<;>(first|(and_intros<;>rfl)|simp))
  intro k ⟨hk,hf⟩;by_cases hlt:k<L.length;rotate_left
  ·have hge:¬(k:Int)<L.length:=by omega
   rw[firstIdx_none fun i hi=>hf i hi (by omega)]
   (repeat' (first|apply zS|apply zB|(apply zW;simp only[go_sem,hge])|apply And.intro|intro _))
   all_goals first|omega|rfl|skip
  have hli:(k:Int)<L.length:=by omega
  have hr:=kAa encRule L k hlt;by_cases c1:L[k].start≤o
  ·by_cases c2:o<L[k].stop
   ·rw[kEi hlt (fun i hi hik=>hf i hi hik) (kKt.2 ⟨c1,c2⟩)]
    (repeat' (first|apply zS|apply zB|(apply zW;simp only[go_sem,hli,hr,encRule,c1,c2])|apply And.intro|intro _))
    all_goals first|omega|rfl|skip
   ·have hno:hitR o L[k]=false:=Bool.eq_false_iff.2 fun h=>c2 (kKt.1 h).2
    (repeat' (first|apply zS|apply zB|(apply zW;simp only[go_sem,hli,hr,encRule,c1,c2])|apply And.intro|intro _))
    all_goals first|omega|rfl|exact⟨k+1,⟨by omega,fun i hi hik=>by
     rcases Nat.lt_or_ge i k with h|h
     ·exact hf i hi h
     ·have:i=k:=by omega
      subst this;exact hno⟩,by omega,by(first|(and_intros<;>rfl)|simp)⟩|skip
  ·have hno:hitR o L[k]=false:=Bool.eq_false_iff.2 fun h=>c1 (kKt.1 h).1
   (repeat' (first|apply zS|apply zB|(apply zW;simp only[go_sem,hli,hr,encRule,c1])|apply And.intro|intro _))
   all_goals first|omega|rfl|exact⟨k+1,⟨by omega,fun i hi hik=>by
    rcases Nat.lt_or_ge i k with h|h
    ·exact hf i hi h
    ·have:i=k:=by omega
     subst this;exact hno⟩,by omega,by(first|(and_intros<;>rfl)|simp)⟩|skip
noncomputable def qA2:=mkX [(259,kHz)] (COk.cons qGg (COk.nil _))
theorem qPd:qA2.tys=tys:=rfl
theorem qPe:qA2.C=[(259,kHz)]:=rfl
attribute [local go_sem] qPd qPe kHz
theorem qPf:Cn Tryz.prog 235 kM1:=by
 refine Cn.pur Tryz.func235 (by kernel_rfl) rfl fun d x hx=>?_
 obtain⟨L,o⟩:=x;simp only at hx⊢;refine Holds.go (c:=qA2) Tryz.func235 rfl Tryz.results235 Tryz.ntmps235 (by omega) (by simp) rfl ?_
 intro X0 w0
 cases hok:kGm L with
 |false =>
  have e:kC1 L o=-1:=if_neg (by rw[hok];simp)
  rw[e]
  (repeat' (first|apply zS|apply zB|(apply zW;simp only[go_sem,hok])|apply And.intro|intro _))
  all_goals first|omega|rfl|skip
 |true =>
  have e:kC1 L o=firstIdx (hitR o) L:=if_pos hok;rw[e]
  (repeat' (first|apply zS|apply zB|(apply zW;simp only[go_sem,hok])|apply And.intro|intro _))
  all_goals first|omega|rfl|skip
  refine zL (fun k:Nat=>⟨[(1,.v (.int .i64 o)),(10,.sl 4 (L.map encRule)),(11,.v (.int .i64 L.length)),(12,.v (.int .i64 k))],[]⟩) (fun k=>k≤L.length∧∀i (hi:i<L.length),i<k→hitR o L[i]=false) (fun k=>L.length-k) 0 (by simp) ?_ ?_
  ·(simp only[go_sem]<;>(first|(and_intros<;>rfl)|simp))
  intro k ⟨hk,hf⟩;by_cases hlt:k<L.length;rotate_left
  ·have hge:¬(k:Int)<L.length:=by omega
   rw[firstIdx_none fun i hi=>hf i hi (by omega)]
   (repeat' (first|apply zS|apply zB|(apply zW;simp only[go_sem,hge])|apply And.intro|intro _))
   all_goals first|omega|rfl|skip
  have hli:(k:Int)<L.length:=by omega
  have hr:=kAa encRule L k hlt;by_cases c1:L[k].start≤o
  ·by_cases c2:o<L[k].stop
   ·rw[kEi hlt (fun i hi hik=>hf i hi hik) (kKt.2 ⟨c1,c2⟩)]
    (repeat' (first|apply zS|apply zB|(apply zW;simp only[go_sem,hli,hr,encRule,c1,c2])|apply And.intro|intro _))
    all_goals first|omega|rfl|skip
   ·have hno:hitR o L[k]=false:=Bool.eq_false_iff.2 fun h=>c2 (kKt.1 h).2
    (repeat' (first|apply zS|apply zB|(apply zW;simp only[go_sem,hli,hr,encRule,c1,c2])|apply And.intro|intro _))
    all_goals first|omega|rfl|exact⟨k+1,⟨by omega,fun i hi hik=>by
     rcases Nat.lt_or_ge i k with h|h
     ·exact hf i hi h
     ·have:i=k:=by omega
      subst this;exact hno⟩,by omega,by(first|(and_intros<;>rfl)|simp)⟩|skip
  ·have hno:hitR o L[k]=false:=Bool.eq_false_iff.2 fun h=>c1 (kKt.1 h).1
   (repeat' (first|apply zS|apply zB|(apply zW;simp only[go_sem,hli,hr,encRule,c1])|apply And.intro|intro _))
   all_goals first|omega|rfl|exact⟨k+1,⟨by omega,fun i hi hik=>by
    rcases Nat.lt_or_ge i k with h|h
    ·exact hf i hi h
    ·have:i=k:=by omega
     subst this;exact hno⟩,by omega,by(first|(and_intros<;>rfl)|simp)⟩|skip
end
end Go.Proofs.YtjdklcjoeanimaaGreat

