/- DERIVED. Steps of the proof. -/
import Derived.Test.YtjdklcjoeanimaaGreatVf5
set_option linter.all false
set_option maxHeartbeats 1000000
set_option maxRecDepth 10000
namespace Go.Proofs.YtjdklcjoeanimaaGreat
attribute [local irreducible] Go.Vc.WP
section
open Go.Vc Tryz
attribute [local go_sem] qLl
theorem kHp {l a b d:Int}{f:Bool}(h:¬(l≤a∧a<b∧b≤1000000∧(0≤d∧d≤1200)∧(f=true→d=0))):kRg l ⟨a,b,f,d⟩=false:=decide_eq_false h
theorem kVp {l a b d:Int}{f:Bool}(h1:l≤a) (h2:a<b) (h3:b≤1000000) (h4:0≤d∧d≤1200) (h5:f=true→d=0):kRg l ⟨a,b,f,d⟩=true:=decide_eq_true ⟨h1,h2,h3,h4,h5⟩
theorem kK9 {L:List Rule}{k:Nat}(h:k<L.length):L.getD k kGj=L[k]:=by
 rw[jKz,jD9 h];rfl
theorem kNk {d lo hi:Int}(h:¬(lo≤d∧d≤hi)):(decide (lo≤d)&&decide (d≤hi))=false:=by
 rw[wDu];simp;omega
theorem kNl {d lo hi:Int}(h:lo≤d∧d≤hi):(decide (lo≤d)&&decide (d≤hi))=true:=by
 simp;omega
@[go_sem] def qAk:Ctr:=pur (fun args=>kH8 (aR args 0)) (fun L=>[.sl 4 (L.map encRule)]) (fun L=>L.length≤4194304) (fun _ L=>.v (.bool (kJc L))) (fun _ _=>[])
@[go_sem] def qJ3:Ctr:=pur (fun args=>(kH8 (aR args 0),aI args 1)) (fun x=>[.sl 4 (x.1.map encRule),vi x.2]) (fun x=>x.1.length≤4194304) (fun _ x=>vi (kD4 x.1 x.2)) (fun _ _=>[])
section
def cxRuS:=kc c58 kn
theorem qJ4:Cq 254 qAk:=by
 refine zp fun d x hx=>?_
 rename List Rule=>L
 refine zg cxRuS func254 rfl rfl ntmps254 ?_;intros
 (repeat' (first|apply zS|apply zB|(apply zW;simp only[go_sem])|apply jAi|exact zc0|intro _))
 refine zL (fun k:Nat=>⟨[(0,.sl 4 (L.map encRule)),(3,vi (kKj L k)),(4,vi k)],[]⟩) (fun k=>k≤L.length∧kJb L k=true) (fun k=>L.length-k) 0 ⟨zo,rfl⟩ ?_ ?_
 ·have h0:kKj L 0=0:=rfl
  (simp only[go_sem,h0]<;>(first|(and_intros<;>rfl)|simp))
 intro k ⟨hk,hu⟩;by_cases hlt:k<L.length;rotate_left
 ·have hge:¬(k:Int)<L.length:=zo;obtain rfl:k=L.length:=zo;have e:kJc L=true:=hu;rw[e]
  (repeat' (first|apply zS|apply zB|(apply zW;simp only[go_sem,hge])|apply jAi|exact zc2|intro _))
 have hli:(k:Int)<L.length:=zo;have hr:=kAa encRule L k hlt;have hbad:=fun h=>@kZi L k hlt h
 have hnx:kRg (kKj L k) (L.getD k kGj)=true→kJb L (k+1)=true:=fun h=>by rw[kRh,hu,h];rfl
 have hl1:kKj L (k+1)=(L.getD k kGj).stop:=rfl;rw[kK9 hlt]at hbad hnx hl1;generalize L[k]=x at *;generalize kKj L k=l at *;obtain⟨a,b,f,d⟩:=x;simp only at hl1;by_cases c1:a<l
 ·rw[hbad (kHp fun h=>by have:=h.1;omega)]
  (repeat' (first|apply zS|apply zB|(apply zW;simp only[go_sem,hli,hr,encRule,c1])|apply jAi|exact zc2|intro _))
 by_cases c2:b≤a
 ·rw[hbad (kHp fun h=>by have:=h.2.1;omega)]
  (repeat' (first|apply zS|apply zB|(apply zW;simp only[go_sem,hli,hr,encRule,c1,c2])|apply jAi|exact zc2|intro _))
 by_cases c3:b>1000000
 ·rw[hbad (kHp fun h=>by have:=h.2.2.1;omega)]
  (repeat' (first|apply zS|apply zB|(apply zW;simp only[go_sem,hli,hr,encRule,c1,c2,c3])|apply jAi|exact zc2|intro _))
 by_cases c4:0≤d∧d≤1200;rotate_left
 ·rw[hbad (kHp fun h=>c4 h.2.2.2.1)]
  have e0:=kNk c4
  (repeat' (first|apply zS|apply zB|(apply zW;simp only[go_sem,hli,hr,encRule,c1,c2,c3,e0])|apply jAi|exact zc2|intro _))
 have e0:=kNl c4
 cases f with
 |false =>
  have n1:=hnx (kVp zo zo zo c4 zs)
  (repeat' (first|apply zS|apply zB|(apply zW;simp only[go_sem,hli,hr,encRule,c1,c2,c3,e0])|apply jAi|exact zc2|intro _))
  all_goals first|exact⟨k+1,⟨zo,n1⟩,zo,by rw[hl1];(first|(and_intros<;>rfl)|simp)⟩|trace_state
 |true =>
  by_cases c5:d=0
  ·have n1:=hnx (kVp zo zo zo c4 (fun _=>c5))
   (repeat' (first|apply zS|apply zB|(apply zW;simp only[go_sem,hli,hr,encRule,c1,c2,c3,e0,c5])|apply jAi|exact zc2|intro _))
   all_goals first|exact⟨k+1,⟨zo,n1⟩,zo,by rw[hl1];(first|(and_intros<;>rfl)|simp)⟩|trace_state
  ·rw[hbad (kHp fun h=>c5 (h.2.2.2.2 rfl))]
   (repeat' (first|apply zS|apply zB|(apply zW;simp only[go_sem,hli,hr,encRule,c1,c2,c3,e0,c5])|apply jAi|exact zc2|intro _))
def cxRuI:=kc c60 kn
theorem qJ5:Cq 259 qAk:=by
 refine zp fun d x hx=>?_
 rename List Rule=>L
 refine zg cxRuI func259 rfl rfl ntmps259 ?_;intros
 (repeat' (first|apply zS|apply zB|((first|apply zW| refine zd 45 ?_);simp only[go_sem])|apply jAi|exact zc0|intro _))
 refine zM (fun k:Nat=>⟨[(0,.sl 4 (L.map encRule)),(5,.sl 4 (L.map encRule)),(6,vi L.length),(7,vi k)],[]⟩) (fun k=>k≤L.length∧kJb L k=true) (fun k=>L.length-k) 0 ⟨zo,rfl⟩ ?_
 intro k ⟨hk,hu⟩;by_cases hlt:k<L.length;rotate_left
 ·have hge:¬(k:Int)<L.length:=zo;obtain rfl:k=L.length:=zo;have e:kJc L=true:=hu;rw[e]
  (repeat' (first|apply zS|apply zB|((first|apply zW| refine zd 45 ?_);simp only[go_sem,hge])|apply jAi|exact zc2|intro _))
 have hli:(k:Int)<L.length:=zo;have hr:=kAa encRule L k hlt;have hbad:=fun h=>@kZi L k hlt h
 have hnx:kRg (kKj L k) (L.getD k kGj)=true→kJb L (k+1)=true:=fun h=>by rw[kRh,hu,h];rfl
 have hlp:=k5d hu
 have hrp:Go.Vc.rowAt (L.map encRule) ((k:Int)-1).toNat=encRule (L.getD (k-1) kGj):=by
  rw[show((k:Int)-1).toNat=k-1 by omega,kK9 zo]
  exact kAa encRule L (k-1) zo
 have hls:0<k→kKj L k=(L.getD (k-1) kGj).stop:=fun h=>by
  obtain⟨j,rfl⟩:∃j,k=j+1:=⟨k-1,zo⟩;rfl
 have hl0:k=0→kKj L k=0:=fun h=>by subst h;rfl
 rw[kK9 hlt]at hbad hnx;generalize L[k]=x at *;generalize L.getD (k-1) kGj=y at *;generalize kKj L k=l at *;obtain⟨a,b,f,d⟩:=x;obtain⟨ya,yb,yf,yd⟩:=y;simp only at hls;by_cases c1:a<0
 ·rw[hbad (kHp fun h=>by have:=h.1;omega)]
  (repeat' (first|apply zS|apply zB|((first|apply zW| refine zd 45 ?_);simp only[go_sem,hli,hr,hrp,encRule,c1])|apply jAi|exact zc2|intro _))
 by_cases c2:a≥b
 ·rw[hbad (kHp fun h=>by have:=h.2.1;omega)]
  (repeat' (first|apply zS|apply zB|((first|apply zW| refine zd 45 ?_);simp only[go_sem,hli,hr,hrp,encRule,c1,c2])|apply jAi|exact zc2|intro _))
 by_cases c3:b>1000000
 ·rw[hbad (kHp fun h=>by have:=h.2.2.1;omega)]
  (repeat' (first|apply zS|apply zB|((first|apply zW| refine zd 45 ?_);simp only[go_sem,hli,hr,hrp,encRule,c1,c2,c3])|apply jAi|exact zc2|intro _))
 by_cases c4:0≤d∧d≤1200;rotate_left
 ·rw[hbad (kHp fun h=>c4 h.2.2.2.1)]
  have e0:=kNk c4
  (repeat' (first|apply zS|apply zB|((first|apply zW| refine zd 45 ?_);simp only[go_sem,hli,hr,hrp,encRule,c1,c2,c3,e0])|apply jAi|exact zc2|intro _))
 have e0:=kNl c4;by_cases c5:f=true∧d≠0
 ·obtain⟨rfl,c5⟩:=c5;rw[hbad (kHp fun h=>c5 (h.2.2.2.2 rfl))]
  (repeat' (first|apply zS|apply zB|((first|apply zW| refine zd 45 ?_);simp only[go_sem,hli,hr,hrp,encRule,c1,c2,c3,e0,c5])|apply jAi|exact zc2|intro _))
 have e5:f=true→d=0:=fun h=>Classical.byContradiction fun hd=>c5 ⟨h,hd⟩
 by_cases c6:0<k
 ·have hly:=hls c6;subst hly;have hki:0<(k:Int):=zo;by_cases c7:a<l
  ·rw[hbad (kHp fun h=>by have:=h.1;omega)]
   cases f with
   |false =>
    (repeat' (first|apply zS|apply zB|((first|apply zW| refine zd 45 ?_);simp only[go_sem,hli,hr,hrp,encRule,c1,c2,c3,e0,hki,c7])|apply jAi|exact zc2|intro _))
   |true =>
    have c8:=e5 rfl
    (repeat' (first|apply zS|apply zB|((first|apply zW| refine zd 45 ?_);simp only[go_sem,hli,hr,hrp,encRule,c1,c2,c3,e0,c8,hki,c7])|apply jAi|exact zc2|intro _))
  ·have n1:=hnx (kVp zo zo zo c4 e5)
   cases f with
   |false =>
    (repeat' (first|apply zS|apply zB|((first|apply zW| refine zd 45 ?_);simp only[go_sem,hli,hr,hrp,encRule,c1,c2,c3,e0,hki,c7])|apply jAi|exact zc2|intro _))
    all_goals first|exact⟨k+1,⟨zo,n1⟩,zo,zh⟩|trace_state
   |true =>
    have c8:=e5 rfl
    (repeat' (first|apply zS|apply zB|((first|apply zW| refine zd 45 ?_);simp only[go_sem,hli,hr,hrp,encRule,c1,c2,c3,e0,c8,hki,c7])|apply jAi|exact zc2|intro _))
    all_goals first|exact⟨k+1,⟨zo,n1⟩,zo,zh⟩|trace_state
 ·have hz:=hl0 zo;subst hz;have n1:=hnx (kVp zo zo zo c4 e5);have hki:¬0<(k:Int):=zo
  cases f with
  |false =>
   (repeat' (first|apply zS|apply zB|((first|apply zW| refine zd 45 ?_);simp only[go_sem,hli,hr,hrp,encRule,c1,c2,c3,e0,hki])|apply jAi|exact zc2|intro _))
   all_goals first|exact⟨k+1,⟨zo,n1⟩,zo,zh⟩|trace_state
  |true =>
   have c8:=e5 rfl
   (repeat' (first|apply zS|apply zB|((first|apply zW| refine zd 45 ?_);simp only[go_sem,hli,hr,hrp,encRule,c1,c2,c3,e0,c8,hki])|apply jAi|exact zc2|intro _))
   all_goals first|exact⟨k+1,⟨zo,n1⟩,zo,zh⟩|trace_state
end
theorem kPe {o:Int}{x:Rule}:kP5 o x=true↔x.start≤o∧o<x.stop:=by unfold kP5;exact decide_eq_true_iff
section
def cxFrS:=kc qJ4 kn
theorem qPx:Cq 222 qJ3:=by
 refine zp fun d x hx=>?_
 obtain⟨L,o⟩:=x;simp only at hx⊢;refine zg cxFrS func222 rfl rfl ntmps222 ?_;intros
 cases hok:kJc L with
 |false =>
  have e:kD4 L o=-1:=if_neg (by rw[hok];simp)
  rw[e]
  (repeat' (first|apply zS|apply zB|(apply zW;simp only[go_sem,hok])|apply jAi|exact zc2|intro _))
  refine zM (fun _:Unit=>⟨[(0,.sl 4 (L.map encRule)),(1,vi o),(5,.v (.bool false)),(6,vi 0)],[]⟩) (fun _=>True) (fun _=>0) () trivial ?_
  intro _ _;by_cases hlt:(0:Int)<L.length
  ·(repeat' (first|apply zS|apply zB|(apply zW;simp only[go_sem,hlt])|apply jAi|exact zc2|intro _))
  ·(repeat' (first|apply zS|apply zB|(apply zW;simp only[go_sem,hlt])|apply jAi|exact zc2|intro _))
 |true =>
  have e:kD4 L o=firstIdx (kP5 o) L:=if_pos hok;rw[e]
  (repeat' (first|apply zS|apply zB|(apply zW;simp only[go_sem,hok])|apply jAi|exact zc2|intro _))
  refine zM (fun k:Nat=>⟨[(0,.sl 4 (L.map encRule)),(1,vi o),(5,.v (.bool true)),(6,vi k)],[]⟩) (fun k=>k≤L.length∧∀i (hi:i<L.length),i<k→kP5 o L[i]=false) (fun k=>L.length-k) 0 zs ?_
  intro k ⟨hk,hf⟩;by_cases hlt:k<L.length;rotate_left
  ·have hge:¬(k:Int)<L.length:=zo;rw[firstIdx_none fun i hi=>hf i hi zo]
   exact zx hge
  have hli:(k:Int)<L.length:=zo;have hr:=kAa encRule L k hlt;by_cases c1:L[k].start≤o
  ·by_cases c2:o<L[k].stop
   ·rw[kEe hlt (fun i hi hik=>hf i hi hik) (kPe.2 ⟨c1,c2⟩)]
    (repeat' (first|apply zS|apply zB|(apply zW;simp only[go_sem,hli,hr,encRule,c1,c2])|apply jAi|exact zc2|intro _))
   ·have hno:kP5 o L[k]=false:=wDu.2 fun h=>c2 (kPe.1 h).2
    (repeat' (first|apply zS|apply zB|(apply zW;simp only[go_sem,hli,hr,encRule,c1,c2])|apply jAi|intro _))
    all_goals first|omega|rfl|exact⟨k+1,⟨zo,fun i hi hik=>by
     rcases jFx i k with h|h
     ·exact hf i hi h
     ·have:i=k:=zo;subst this;exact hno⟩,zo,zh⟩|skip
  ·have hno:kP5 o L[k]=false:=wDu.2 fun h=>c1 (kPe.1 h).1
   (repeat' (first|apply zS|apply zB|(apply zW;simp only[go_sem,hli,hr,encRule,c1])|apply jAi|intro _))
   all_goals first|omega|rfl|exact⟨k+1,⟨zo,fun i hi hik=>by
    rcases jFx i k with h|h
    ·exact hf i hi h
    ·have:i=k:=zo;subst this;exact hno⟩,zo,zh⟩|skip
def cxFrI:=kc qJ5 kn
theorem qPy:Cq 235 qJ3:=by
 refine zp fun d x hx=>?_
 obtain⟨L,o⟩:=x;simp only at hx⊢;refine zg cxFrI func235 rfl rfl ntmps235 ?_;intros
 cases hok:kJc L with
 |false =>
  have e:kD4 L o=-1:=if_neg (by rw[hok];simp)
  rw[e]
  (repeat' (first|apply zS|apply zB|(apply zW;simp only[go_sem,hok])|apply jAi|exact zc2|intro _))
 |true =>
  have e:kD4 L o=firstIdx (kP5 o) L:=if_pos hok;rw[e]
  (repeat' (first|apply zS|apply zB|(apply zW;simp only[go_sem,hok])|apply jAi|exact zc2|intro _))
  refine zM (fun k:Nat=>⟨[(1,vi o),(10,.sl 4 (L.map encRule)),(11,vi L.length),(12,vi k)],[]⟩) (fun k=>k≤L.length∧∀i (hi:i<L.length),i<k→kP5 o L[i]=false) (fun k=>L.length-k) 0 zs ?_
  intro k ⟨hk,hf⟩;by_cases hlt:k<L.length;rotate_left
  ·have hge:¬(k:Int)<L.length:=zo;rw[firstIdx_none fun i hi=>hf i hi zo]
   exact zx hge
  have hli:(k:Int)<L.length:=zo;have hr:=kAa encRule L k hlt;by_cases c1:L[k].start≤o
  ·by_cases c2:o<L[k].stop
   ·rw[kEe hlt (fun i hi hik=>hf i hi hik) (kPe.2 ⟨c1,c2⟩)]
    exact zx (z5 hli hr encRule.eq_1 c1 c2)
   ·have hno:kP5 o L[k]=false:=wDu.2 fun h=>c2 (kPe.1 h).2
    (repeat' (first|apply zS|apply zB|(apply zW;simp only[go_sem,hli,hr,encRule,c1,c2])|apply jAi|intro _))
    all_goals first|omega|rfl|exact⟨k+1,⟨zo,fun i hi hik=>by
     rcases jFx i k with h|h
     ·exact hf i hi h
     ·have:i=k:=zo;subst this;exact hno⟩,zo,zh⟩|skip
  ·have hno:kP5 o L[k]=false:=wDu.2 fun h=>c1 (kPe.1 h).1
   (repeat' (first|apply zS|apply zB|(apply zW;simp only[go_sem,hli,hr,encRule,c1])|apply jAi|intro _))
   all_goals first|omega|rfl|exact⟨k+1,⟨zo,fun i hi hik=>by
    rcases jFx i k with h|h
    ·exact hf i hi h
    ·have:i=k:=zo;subst this;exact hno⟩,zo,zh⟩|skip
end
end
section
open Go.Vc Tryz
attribute [local go_sem] qCd
theorem qDe {L:List Row}{i:Nat}(h:¬((0≤(L.getD i kEb).offset∧(L.getD i kEb).offset≤1000000)∧(0≤(L.getD i kEb).line∧(L.getD i kEb).line≤59)∧(0<i→(L.getD (i-1) kEb).offset<(L.getD i kEb).offset))):k2c L i=false:=decide_eq_false h
theorem qDf {L:List Row}{i:Nat}(h1:0≤(L.getD i kEb).offset∧(L.getD i kEb).offset≤1000000) (h2:0≤(L.getD i kEb).line∧(L.getD i kEb).line≤59) (h3:0<i→(L.getD (i-1) kEb).offset<(L.getD i kEb).offset):k2c L i=true:=decide_eq_true ⟨h1,h2,h3⟩
theorem kK6 {L:List Row}{k:Nat}(h:k<L.length):L.getD k kEb=L[k]:=by
 rw[jKz,jD9 h];rfl
@[go_sem] def qDg:Ctr:=pur (fun args=>kKv (aR args 0)) (fun L=>[.sl 3 (L.map encRow)]) (fun L=>L.length≤4194304) (fun _ L=>.v (.bool (kPr L))) (fun _ _=>[])
@[go_sem] def qAo:Ctr:=pur (fun args=>(kKv (aR args 0),aI args 1)) (fun x=>[.sl 3 (x.1.map encRow),vi x.2]) (fun x=>x.1.length≤4194304) (fun _ x=>vi (kBl x.1 x.2)) (fun _ _=>[])
@[go_sem] def k90:Ctr:=pur (fun args=>(kKv (aR args 0),aI args 1)) (fun x=>[.sl 3 (x.1.map encRow),vi x.2]) (fun x=>x.1.length≤4194304) (fun _ x=>.v (.bool (kKa x.1 x.2))) (fun _ _=>[])
section
def cxRwS:=kc c58 kn
theorem qM8:Cq 255 qDg:=by
 refine zp fun d x hx=>?_
 rename List Row=>L
 refine zg cxRwS func255 rfl rfl ntmps255 ?_;intros;refine zy1 34 trivial ?_;refine zM (fun k:Nat=>⟨[(0,.sl 3 (L.map encRow)),(3,vi k)],[]⟩) (fun k=>k≤L.length∧kM8 L k=true) (fun k=>L.length-k) 0 ⟨zo,rfl⟩ ?_
 intro k ⟨hk,hu⟩;by_cases hlt:k<L.length;rotate_left
 ·have hge:¬(k:Int)<L.length:=zo;obtain rfl:k=L.length:=zo;have e:kPr L=true:=hu;rw[e];exact zx1 34 hge
 have hli:(k:Int)<L.length:=zo;have hr:=kAa encRow L k hlt;have hbad:=fun h=>@k2d L k hlt (qDe h)
 have hnx:=fun h1 h2 h3=>(show kM8 L (k+1)=true by rw[kZj,hu,qDf h1 h2 h3];rfl)
 have hrp:Go.Vc.rowAt (L.map encRow) ((k:Int)-1).toNat=encRow (L.getD (k-1) kEb):=by
  rw[show((k:Int)-1).toNat=k-1 by omega,kK6 zo]
  exact kAa encRow L (k-1) zo
 rw[kK6 hlt]at hbad hnx;generalize L[k]=x at *;generalize L.getD (k-1) kEb=y at *;obtain⟨a,l,s⟩:=x;obtain⟨ya,yl,ys⟩:=y;simp only at hbad hnx;by_cases c1:0≤a∧a≤1000000;rotate_left
 ·rw[hbad fun h=>c1 h.1]
  have e0:=kNk c1;exact zx1 34 (z5 hli hr hrp encRow.eq_1 e0)
 have e1:=kNl c1;by_cases c2:0≤l∧l≤59;rotate_left
 ·rw[hbad fun h=>c2 h.2.1]
  have e0:=kNk c2;exact zx1 34 (z6 hli hr hrp encRow.eq_1 e1 e0)
 have e2:=kNl c2;by_cases c6:0<k
 ·have hki:0<(k:Int):=zo;by_cases c7:a≤ya
  ·rw[hbad fun h=>by have:=h.2.2 c6;omega]
   exact zx1 34 (z8 hli hr hrp encRow.eq_1 e1 e2 hki c7)
  ·have n1:=hnx c1 c2 (fun _=>by omega)
   (repeat' (first|apply zS|apply zB|((first|apply zW| refine zd 34 ?_);simp only[go_sem,hli,hr,hrp,encRow,e1,e2,hki,c7])|apply jAi|exact zc2|intro _))
   all_goals first|exact⟨k+1,⟨zo,n1⟩,zo,zh⟩|trace_state
 ·have n1:=hnx c1 c2 (fun h=>absurd h c6)
  have hki:¬0<(k:Int):=zo
  (repeat' (first|apply zS|apply zB|((first|apply zW| refine zd 34 ?_);simp only[go_sem,hli,hr,hrp,encRow,e1,e2,hki])|apply jAi|exact zc2|intro _))
  all_goals first|exact⟨k+1,⟨zo,n1⟩,zo,zh⟩|trace_state
def cxRwI:=kc c60 kn
theorem qM9:Cq 272 qDg:=by
 refine zp fun d x hx=>?_
 rename List Row=>L
 refine zg cxRwI func272 rfl rfl ntmps272 ?_;intros;refine zy1 25 trivial ?_;refine zM (fun k:Nat=>⟨[(0,.sl 3 (L.map encRow)),(5,.sl 3 (L.map encRow)),(6,vi L.length),(7,vi k)],[]⟩) (fun k=>k≤L.length∧kM8 L k=true) (fun k=>L.length-k) 0 ⟨zo,rfl⟩ ?_
 intro k ⟨hk,hu⟩;by_cases hlt:k<L.length;rotate_left
 ·have hge:¬(k:Int)<L.length:=zo;obtain rfl:k=L.length:=zo;have e:kPr L=true:=hu;rw[e];exact zx1 25 hge
 have hli:(k:Int)<L.length:=zo;have hr:=kAa encRow L k hlt;have hbad:=fun h=>@k2d L k hlt (qDe h)
 have hnx:=fun h1 h2 h3=>(show kM8 L (k+1)=true by rw[kZj,hu,qDf h1 h2 h3];rfl)
 have hrp:Go.Vc.rowAt (L.map encRow) ((k:Int)-1).toNat=encRow (L.getD (k-1) kEb):=by
  rw[show((k:Int)-1).toNat=k-1 by omega,kK6 zo]
  exact kAa encRow L (k-1) zo
 rw[kK6 hlt]at hbad hnx;generalize L[k]=x at *;generalize L.getD (k-1) kEb=y at *;obtain⟨a,l,s⟩:=x;obtain⟨ya,yl,ys⟩:=y;simp only at hbad hnx;by_cases c1:0≤a∧a≤1000000;rotate_left
 ·rw[hbad fun h=>c1 h.1]
  have e0:=kNk c1;exact zx1 25 (z5 hli hr hrp encRow.eq_1 e0)
 have e1:=kNl c1;by_cases c2:0≤l∧l≤59;rotate_left
 ·rw[hbad fun h=>c2 h.2.1]
  have e0:=kNk c2;exact zx1 25 (z6 hli hr hrp encRow.eq_1 e1 e0)
 have e2:=kNl c2;by_cases c6:0<k
 ·have hki:0<(k:Int):=zo;by_cases c7:ya≥a
  ·rw[hbad fun h=>by have:=h.2.2 c6;omega]
   exact zx1 25 (z8 hli hr hrp encRow.eq_1 e1 e2 hki c7)
  ·have n1:=hnx c1 c2 (fun _=>by omega)
   (repeat' (first|apply zS|apply zB|((first|apply zW| refine zd 25 ?_);simp only[go_sem,hli,hr,hrp,encRow,e1,e2,hki,c7])|apply jAi|exact zc2|intro _))
   all_goals first|exact⟨k+1,⟨zo,n1⟩,zo,zh⟩|trace_state
 ·have n1:=hnx c1 c2 (fun h=>absurd h c6)
  have hki:¬0<(k:Int):=zo
  (repeat' (first|apply zS|apply zB|((first|apply zW| refine zd 25 ?_);simp only[go_sem,hli,hr,hrp,encRow,e1,e2,hki])|apply jAi|exact zc2|intro _))
  all_goals first|exact⟨k+1,⟨zo,n1⟩,zo,zh⟩|trace_state
end
theorem kZr {L:List Row}{o:Int}{k:Nat}(h:k<L.length):kJd L o (k+1)=if L[k].offset≤o then(k:Int)else kJd L o k:=by
 show(if(L.getD k kEb).offset≤o then(k:Int)else kJd L o k)=_
 rw[kK6 h]
section
def cxFwS:=kc qM8 kn
theorem kS1 {p:Prop}(h:p:=by first|omega|rfl|exact⟨k+1,by omega,by omega,by rw[hs];(first|(and_intros<;>rfl)|simp)⟩):p:=h
theorem k52:Cq 224 qAo:=by
 refine zp fun d x hx=>?_
 obtain⟨L,o⟩:=x;simp only at hx⊢;refine zg cxFwS func224 rfl rfl ntmps224 ?_;intros
 cases hok:kPr L with
 |false =>
  have e:kBl L o=-1:=if_neg (by rw[hok];simp)
  rw[e];refine zv hok ?_;refine zM (fun _:Unit=>⟨[(0,.sl 3 (L.map encRow)),(1,vi o),(5,vi (-1)),(6,.v (.bool false)),(7,vi 0)],[]⟩) (fun _=>True) (fun _=>0) () trivial ?_
  intro _ _;by_cases hlt:(0:Int)<L.length
  ·exact zx hlt
  ·exact zx hlt
 |true =>
  have e:kBl L o=kJd L o L.length:=if_pos hok;rw[e];refine zv hok ?_;refine zL (fun k:Nat=>⟨[(0,.sl 3 (L.map encRow)),(1,vi o),(5,vi (kJd L o k)),(6,.v (.bool true)),(7,vi k)],[]⟩) (fun k=>k≤L.length) (fun k=>L.length-k) 0 zs ?_ ?_
  ·have h0:kJd L o 0=-1:=rfl
   (simp only[go_sem,h0]<;>(first|(and_intros<;>rfl)|simp))
  intro k hk;by_cases hlt:k<L.length;rotate_left
  ·have hge:¬(k:Int)<L.length:=zo;obtain rfl:k=L.length:=zo;exact zx hge
  have hli:(k:Int)<L.length:=zo;have hr:=kAa encRow L k hlt;have hs:=kZr (o:=o) hlt;by_cases c1:L[k].offset≤o
  ·rw[if_pos c1]at hs
   (repeat' (first|apply zS|apply zB|(apply zW;simp only[go_sem,hli,hr,encRow,c1])|apply jAi|exact kS1|intro _))
  ·rw[if_neg c1]at hs
   (repeat' (first|apply zS|apply zB|(apply zW;simp only[go_sem,hli,hr,encRow,c1])|apply jAi|exact kS1|intro _))
def cxFwI:=kc qM9 kn
theorem k54:Cq 261 qAo:=by
 refine zp fun d x hx=>?_
 obtain⟨L,o⟩:=x;simp only at hx⊢;refine zg cxFwI func261 rfl rfl ntmps261 ?_;intros
 cases hok:kPr L with
 |false =>
  have e:kBl L o=-1:=if_neg (by rw[hok];simp)
  rw[e]
  exact zx hok
 |true =>
  have e:kBl L o=kJd L o L.length:=if_pos hok;rw[e];refine zv hok ?_;refine zL (fun k:Nat=>⟨[(1,vi o),(5,vi (kJd L o k)),(11,.sl 3 (L.map encRow)),(12,vi L.length),(13,vi k)],[]⟩) (fun k=>k≤L.length) (fun k=>L.length-k) 0 zs ?_ ?_
  ·have h0:kJd L o 0=-1:=rfl
   (simp only[go_sem,h0]<;>(first|(and_intros<;>rfl)|simp))
  intro k hk;by_cases hlt:k<L.length;rotate_left
  ·have hge:¬(k:Int)<L.length:=zo;obtain rfl:k=L.length:=zo;exact zx hge
  have hli:(k:Int)<L.length:=zo;have hr:=kAa encRow L k hlt;have hs:=kZr (o:=o) hlt;by_cases c1:L[k].offset≤o
  ·rw[if_pos c1]at hs
   (repeat' (first|apply zS|apply zB|(apply zW;simp only[go_sem,hli,hr,encRow,c1])|apply jAi|exact kS1|intro _))
  ·rw[if_neg c1]at hs
   (repeat' (first|apply zS|apply zB|(apply zW;simp only[go_sem,hli,hr,encRow,c1])|apply jAi|exact kS1|intro _))
end
end
section
open Go.Vc Tryz
theorem kPa {L:List Inline}{k:Nat}(h:k<L.length):L.getD k kJe=L[k]:=by
 rw[jKz,jD9 h];rfl
theorem kIx {a b v l:Int}{s:ByteArray}(h:¬(0≤a∧a<b∧b≤1000000∧(0≤v∧v≤2)∧(0≤l∧l≤59))):kIe ⟨a,b,v,l,s⟩=false:=by
 unfold kIe;rw[decide_eq_false h];rfl
theorem k9v {x:Inline}(h:kE7 x.name=false):kIe x=false:=by
 unfold kIe;rw[h,jPt]
theorem k9w {a b v l:Int}{s:ByteArray}(h0:0≤a) (h1:a<b) (h2:b≤1000000) (h3:0≤v∧v≤2) (h4:0≤l∧l≤59) (h5:kE7 s=true):kIe ⟨a,b,v,l,s⟩=true:=by
 unfold kIe;rw[decide_eq_true ⟨h0,h1,h2,h3,h4⟩,h5];rfl
def kVj (k:Nat) (x y:Inline):Bool:=decide (k=0∨¬(x.level<y.level∨x.level=y.level∧x.start<y.stop))
theorem k9u {L:List Inline}{k:Nat}(h:k<L.length):kU0 L k=(kIe L[k]&&kVj k L[k] (L.getD (k-1) kJe)&&within L k k):=by
 unfold kU0 qIa;rw[kPa h];rfl
theorem k58 {L:List Inline}{k n:Nat}(h:k<L.length) (hn:n<L.length):within L k (n+1)=(within L k n || inIn L[k] L[n]):=by
 rw[qBi,kPa h,kPa hn]
theorem k9t {L:List Inline}{k:Nat}(h:k<L.length):within L k 0=(L[k].level==0):=by
 unfold within;rw[kPa h,List.range_zero,wQc,wIu];rw[wGj,decide_eq_true_eq,beq_iff_eq]
theorem kFk {x y:Inline}(h:¬(y.level=x.level-1∧y.start≤x.start∧x.stop≤y.stop)):inIn x y=false:=decide_eq_false h
theorem kUd {x y:Inline}(h1:y.level=x.level-1) (h2:y.start≤x.start) (h3:x.stop≤y.stop):inIn x y=true:=decide_eq_true ⟨h1,h2,h3⟩
def k2t (L:List Inline):Prop:=L.length≤4194304∧∀y∈L,y.name.size≤4194304
@[go_sem] def kInl1:Ctr:=pur (fun args=>kC7 (aC args 0)) (fun x=>[.agg (encInline x)]) (fun x=>x.name.size≤4194304) (fun _ x=>.v (.bool (kIe x))) (fun _ _=>[])
@[go_sem] def qC4:Ctr:=pur (fun args=>kF5 (aR args 0)) (fun L=>[.sl 5 (L.map encInline)]) k2t (fun _ L=>.v (.bool (kGq L))) (fun _ _=>[])
def qC5:Ctr:=pur (fun args=>(kF5 (aR args 0),aI args 1)) (fun x=>[.sl 5 (x.1.map encInline),vi x.2]) (fun x=>k2t x.1) (fun d _=>.own d) (fun d x=>[(d,.sl 256 5 ((kF6 x.1 x.2).map encInline))])
section
def cxI1:=kc c60 (kc k0p kn)
theorem cInl1I:Cq 284 kInl1:=by
 refine zp fun d x hx=>?_
 obtain⟨a,b,v,l,s⟩:=x;simp only at hx⊢;unfold encInline;refine zg cxI1 func284 rfl rfl ntmps284 ?_;intros;by_cases c0:a≥0;rotate_left
 ·rw[kIx fun h=>c0 h.1]
  exact zx c0
 by_cases c1:a<b;rotate_left
 ·rw[kIx fun h=>c1 h.2.1]
  exact zx (z2 c0 c1)
 by_cases c2:b≤1000000;rotate_left
 ·rw[kIx fun h=>c2 h.2.2.1]
  exact zx (z3 c0 c1 c2)
 by_cases c3:0≤v∧v≤2;rotate_left
 ·rw[kIx fun h=>c3 h.2.2.2.1]
  have e0:=kNk c3;exact zx (z4 c0 c1 c2 e0)
 have e3:=kNl c3;by_cases c4:0≤l∧l≤59;rotate_left
 ·rw[kIx fun h=>c4 h.2.2.2.2]
  have e0:=kNk c4;exact zx (z5 c0 c1 c2 e3 e0)
 have e4:=kNl c4
 have e:kIe ⟨a,b,v,l,s⟩=kE7 s:=by
  cases h:kE7 s with
  |false=>exact k9v h
  |true=>exact k9w c0 c1 c2 c3 c4 h
 rw[e];exact zx (z5 c0 c1 c2 e3 e4)
end
end
end Go.Proofs.YtjdklcjoeanimaaGreat
