/-
  DERIVED. Several texts of ours in one: VtInlI.
-/
import Derived.Test.YtjdklcjoeanimaaGreatVd8
set_option linter.unusedSimpArgs false
set_option linter.unusedVariables false
set_option maxHeartbeats 1000000
set_option maxRecDepth 10000
namespace Go.Proofs.YtjdklcjoeanimaaGreat
open Go.Vc
attribute [local irreducible] Go.Vc.WP
attribute [local go_sem] kAd kAe
attribute [local go_sem] kCe kH5
section
noncomputable def k98:=mkX [(284,k0h)] (COk.cons cInl1I (COk.nil _))
theorem qNt:k98.tys=tys:=rfl
theorem qNu:k98.C=[(284,k0h)]:=rfl
attribute [local go_sem] qNt qNu k0h
set_option maxHeartbeats 4000000 in
theorem qH7:Cn Tryz.prog 273 kJa:=by
 refine Cn.pur Tryz.func273 (by kernel_rfl) rfl fun d x hx=>?_
 rename List Inline=>L
 obtain⟨hL,hN⟩:=hx;refine Holds.go (c:=k98) Tryz.func273 rfl Tryz.results273 Tryz.ntmps273 (by omega) (by simp) rfl ?_
 intro X0 w0
 (repeat' (first|apply zS|apply zB|((first|apply zW| refine zd 40 (h:=?_));simp only[go_sem])|apply And.intro|intro _))
 all_goals first|omega|skip
 refine zL (fun k:Nat=>⟨[(0,.sl 5 (L.map encInline)),(8,.sl 5 (L.map encInline)),(9,.v (.int .i64 L.length)),(10,.v (.int .i64 k))],[]⟩) (fun k=>k≤L.length∧kJo L k=true) (fun k=>L.length-k) 0 ⟨by omega,rfl⟩ ?_ ?_
 ·(simp only[go_sem]<;>(first|(and_intros<;>rfl)|simp))
 intro k ⟨hk,hu⟩;by_cases hlt:k<L.length;rotate_left
 ·have hge:¬(k:Int)<L.length:=by omega
  obtain rfl:k=L.length:=by omega
  have e:kE5 L=true:=hu;rw[e]
  (repeat' (first|apply zS|apply zB|((first|apply zW| refine zd 40 (h:=?_));simp only[go_sem,hge])|apply And.intro|intro _))
  all_goals first|omega|rfl|skip
 have hli:(k:Int)<L.length:=by omega
 have hr:=kAa encInline L k hlt;have hnm:=hN _ (List.getElem_mem hlt);have hbad:=fun h=>@kVu L k hlt h
 have hnx:kPt L k=true→kJo L (k+1)=true:=fun h=>by rw[kTs,hu,h];rfl
 have hws:=fun n hn=>@kZv L k n hlt hn
 have hw0:=k3m hlt
 have hrp:Go.Vc.rowAt (L.map encInline) ((k:Int)-1).toNat=encInline (L.getD (k-1) zInl):=by
  rw[show((k:Int)-1).toNat=k-1 by omega,kKs (by omega)]
  exact kAa encInline L (k-1) (by omega)
 rw[k3n hlt]at hbad hnx;have kNr:kF9 L[k]=false→kE5 L=false:=fun h=>hbad (by rw[h];rfl)
 have kWg:inl2 k L[k] (L.getD (k-1) zInl)=false→kE5 L=false:=fun h=>hbad (by rw[h,Bool.and_false];rfl)
 have kQb:within L k k=false→kE5 L=false:=fun h=>hbad (by rw[h,Bool.and_false])
 generalize L.getD (k-1) zInl=y at *;generalize hxe:L[k]=x at *;obtain⟨a,b,v,l,s⟩:=x;obtain⟨ya,yb,yv,yl,ys⟩:=y;simp only at hnm hw0
 cases ok1:kF9 ⟨a,b,v,l,s⟩with
 |false =>
  rw[kNr ok1]
  (repeat' (first|apply zS|apply zB|((first|apply zW| refine zd 40 (h:=?_));simp only[go_sem,hli,hr,hrp,encInline,kCk,ok1])|apply And.intro|intro _))
  all_goals first|omega|rfl|skip
 |true =>
 have hvb:0≤v∧v≤2:=by
  unfold kF9 at ok1;rw[Bool.and_eq_true,decide_eq_true_eq]at ok1;exact ok1.1.2.2.2.1
 have htl:(L.take k).length=k:=by rw[List.length_take];omega
 by_cases c6:k=0
 ·have hki:¬0<(k:Int):=by omega
  have ok2:inl2 k ⟨a,b,v,l,s⟩ ⟨ya,yb,yv,yl,ys⟩=true:=decide_eq_true (Or.inl c6)
  (repeat' (first|apply zS|apply zB|((first|apply zW| refine zd 40 (h:=?_));simp only[go_sem,hli,hr,encInline,kCk,ok1,hki,hrp,←List.map_take,htl])|apply And.intro|intro _))
  all_goals first|omega|rfl|skip
  refine zL (fun i:Nat=>⟨[(0,.sl 5 (L.map encInline)),(4,.ptr 4 0 0 0),(5,.v (.bool (within L k i))),(8,.sl 5 (L.map encInline)),(9,.v (.int .i64 L.length)),(10,.v (.int .i64 k)),(60,.sl 5 ((L.take k).map encInline)),(61,.v (.int .i64 k)),(62,.v (.int .i64 i))],[(4,.box 256 [.v (.int .i64 a),.v (.int .i64 b),.v (.int .i64 v),.v (.int .i64 l),.v (.string s)])]⟩) (fun i=>i≤k) (fun i=>k-i) 0 (by simp) ?_ ?_
  ·(simp only[go_sem,hw0,htl]<;>(first|(and_intros<;>rfl)|simp))
  intro i hi;by_cases hik:i<k;rotate_left
  ·have hge:¬(i:Int)<k:=by omega
   obtain rfl:i=k:=by omega
   cases hw:within L i i with
   |false =>
    rw[kQb hw]
    (repeat' (first|apply zS|apply zB|((first|apply zW| refine zd 40 (h:=?_));simp only[go_sem,hge,hw])|apply And.intro|intro _))
    all_goals first|omega|rfl|skip
   |true =>
    have n1:=hnx (by rw[ok1,ok2,hw];rfl)
    (repeat' (first|apply zS|apply zB|((first|apply zW| refine zd 40 (h:=?_));simp only[go_sem,hge,hw])|apply And.intro|intro _))
    all_goals first|omega|rfl|exact⟨i+1,⟨by omega,n1⟩,by omega,by(first|(and_intros<;>rfl)|simp)⟩|skip
  have hiki:(i:Int)<k:=by omega
  have hil:i<L.length:=by omega
  have hws1:=hws i hil;have hr2:=kAa encInline (L.take k) i (by omega)
  rw[List.getElem_take]at hr2;have hili:(i:Int)<(L.take k).length:=by omega
  generalize L[i]=z at *;obtain⟨za,zb,zv,zl,zs⟩:=z
  cases hw:within L k i with
  |true =>
   rw[hw,Bool.true_or]at hws1
   (repeat' (first|apply zS|apply zB|((first|apply zW| refine zd 40 (h:=?_));simp only[go_sem,hiki,hili,hr2,encInline,hw])|apply And.intro|intro _))
   all_goals first|omega|rfl|exact⟨i+1,by omega,by omega,by rw[hws1];first|(and_intros<;>rfl)|(simp;done)|(simp;omega)⟩|skip
  |false =>
   rw[hw,Bool.false_or]at hws1;by_cases d1:zv=v-1;rotate_left
   ·rw[kD5 fun h=>d1 h.1]at hws1
    (repeat' (first|apply zS|apply zB|((first|apply zW| refine zd 40 (h:=?_));simp only[go_sem,hiki,hili,hr2,encInline,hw,d1])|apply And.intro|intro _))
    all_goals first|omega|rfl|exact⟨i+1,by omega,by omega,by rw[hws1];first|(and_intros<;>rfl)|(simp;done)|(simp;omega)⟩|skip
   by_cases d2:za≤a;rotate_left
   ·rw[kD5 fun h=>d2 h.2.1]at hws1
    (repeat' (first|apply zS|apply zB|((first|apply zW| refine zd 40 (h:=?_));simp only[go_sem,hiki,hili,hr2,encInline,hw,d1,d2])|apply And.intro|intro _))
    all_goals first|omega|rfl|exact⟨i+1,by omega,by omega,by rw[hws1];first|(and_intros<;>rfl)|(simp;done)|(simp;omega)⟩|skip
   by_cases d3:b≤zb;rotate_left
   ·rw[kD5 fun h=>d3 h.2.2]at hws1
    (repeat' (first|apply zS|apply zB|((first|apply zW| refine zd 40 (h:=?_));simp only[go_sem,hiki,hili,hr2,encInline,hw,d1,d2,d3])|apply And.intro|intro _))
    all_goals first|omega|rfl|exact⟨i+1,by omega,by omega,by rw[hws1];first|(and_intros<;>rfl)|(simp;done)|(simp;omega)⟩|skip
   rw[kOr d1 d2 d3]at hws1
   (repeat' (first|apply zS|apply zB|((first|apply zW| refine zd 40 (h:=?_));simp only[go_sem,hiki,hili,hr2,encInline,hw,d1,d2,d3])|apply And.intro|intro _))
   all_goals first|omega|rfl|exact⟨i+1,by omega,by omega,by rw[hws1];first|(and_intros<;>rfl)|(simp;done)|(simp;omega)⟩|skip
 have hki:0<(k:Int):=by omega
 by_cases c7:yv>v
 ·rw[kWg (decide_eq_false fun h=>h.elim c6 fun h=>h (Or.inl (by simp only;omega)))]
  (repeat' (first|apply zS|apply zB|((first|apply zW| refine zd 40 (h:=?_));simp only[go_sem,hli,hr,encInline,kCk,ok1,hki,hrp,c7])|apply And.intro|intro _))
  all_goals first|omega|rfl|skip
 by_cases c8:yv=v
 ·have hyv:v=yv:=by omega
  subst hyv;by_cases c9:a<yb
  ·rw[kWg (decide_eq_false fun h=>h.elim c6 fun h=>h (Or.inr ⟨rfl,c9⟩))]
   (repeat' (first|apply zS|apply zB|((first|apply zW| refine zd 40 (h:=?_));simp only[go_sem,hli,hr,encInline,kCk,ok1,hki,hrp,c7,c9])|apply And.intro|intro _))
   all_goals first|omega|rfl|skip
  have ok2:inl2 k ⟨a,b,v,l,s⟩ ⟨ya,yb,v,yl,ys⟩=true:=decide_eq_true (Or.inr fun h=>h.elim (fun h=>by simp only at h;omega) fun h=>c9 h.2)
  (repeat' (first|apply zS|apply zB|((first|apply zW| refine zd 40 (h:=?_));simp only[go_sem,hli,hr,encInline,kCk,ok1,hki,hrp,c7,c9,←List.map_take,htl])|apply And.intro|intro _))
  all_goals first|omega|rfl|skip
  refine zL (fun i:Nat=>⟨[(0,.sl 5 (L.map encInline)),(4,.ptr 4 0 0 0),(5,.v (.bool (within L k i))),(8,.sl 5 (L.map encInline)),(9,.v (.int .i64 L.length)),(10,.v (.int .i64 k)),(60,.sl 5 ((L.take k).map encInline)),(61,.v (.int .i64 k)),(62,.v (.int .i64 i))],[(4,.box 256 [.v (.int .i64 a),.v (.int .i64 b),.v (.int .i64 v),.v (.int .i64 l),.v (.string s)])]⟩) (fun i=>i≤k) (fun i=>k-i) 0 (by simp) ?_ ?_
  ·(simp only[go_sem,hw0,htl]<;>(first|(and_intros<;>rfl)|simp))
  intro i hi;by_cases hik:i<k;rotate_left
  ·have hge:¬(i:Int)<k:=by omega
   obtain rfl:i=k:=by omega
   cases hw:within L i i with
   |false =>
    rw[kQb hw]
    (repeat' (first|apply zS|apply zB|((first|apply zW| refine zd 40 (h:=?_));simp only[go_sem,hge,hw])|apply And.intro|intro _))
    all_goals first|omega|rfl|skip
   |true =>
    have n1:=hnx (by rw[ok1,ok2,hw];rfl)
    (repeat' (first|apply zS|apply zB|((first|apply zW| refine zd 40 (h:=?_));simp only[go_sem,hge,hw])|apply And.intro|intro _))
    all_goals first|omega|rfl|exact⟨i+1,⟨by omega,n1⟩,by omega,by(first|(and_intros<;>rfl)|simp)⟩|skip
  have hiki:(i:Int)<k:=by omega
  have hil:i<L.length:=by omega
  have hws1:=hws i hil;have hr2:=kAa encInline (L.take k) i (by omega)
  rw[List.getElem_take]at hr2;have hili:(i:Int)<(L.take k).length:=by omega
  generalize L[i]=z at *;obtain⟨za,zb,zv,zl,zs⟩:=z
  cases hw:within L k i with
  |true =>
   rw[hw,Bool.true_or]at hws1
   (repeat' (first|apply zS|apply zB|((first|apply zW| refine zd 40 (h:=?_));simp only[go_sem,hiki,hili,hr2,encInline,hw])|apply And.intro|intro _))
   all_goals first|omega|rfl|exact⟨i+1,by omega,by omega,by rw[hws1];first|(and_intros<;>rfl)|(simp;done)|(simp;omega)⟩|skip
  |false =>
   rw[hw,Bool.false_or]at hws1;by_cases d1:zv=v-1;rotate_left
   ·rw[kD5 fun h=>d1 h.1]at hws1
    (repeat' (first|apply zS|apply zB|((first|apply zW| refine zd 40 (h:=?_));simp only[go_sem,hiki,hili,hr2,encInline,hw,d1])|apply And.intro|intro _))
    all_goals first|omega|rfl|exact⟨i+1,by omega,by omega,by rw[hws1];first|(and_intros<;>rfl)|(simp;done)|(simp;omega)⟩|skip
   by_cases d2:za≤a;rotate_left
   ·rw[kD5 fun h=>d2 h.2.1]at hws1
    (repeat' (first|apply zS|apply zB|((first|apply zW| refine zd 40 (h:=?_));simp only[go_sem,hiki,hili,hr2,encInline,hw,d1,d2])|apply And.intro|intro _))
    all_goals first|omega|rfl|exact⟨i+1,by omega,by omega,by rw[hws1];first|(and_intros<;>rfl)|(simp;done)|(simp;omega)⟩|skip
   by_cases d3:b≤zb;rotate_left
   ·rw[kD5 fun h=>d3 h.2.2]at hws1
    (repeat' (first|apply zS|apply zB|((first|apply zW| refine zd 40 (h:=?_));simp only[go_sem,hiki,hili,hr2,encInline,hw,d1,d2,d3])|apply And.intro|intro _))
    all_goals first|omega|rfl|exact⟨i+1,by omega,by omega,by rw[hws1];first|(and_intros<;>rfl)|(simp;done)|(simp;omega)⟩|skip
   rw[kOr d1 d2 d3]at hws1
   (repeat' (first|apply zS|apply zB|((first|apply zW| refine zd 40 (h:=?_));simp only[go_sem,hiki,hili,hr2,encInline,hw,d1,d2,d3])|apply And.intro|intro _))
   all_goals first|omega|rfl|exact⟨i+1,by omega,by omega,by rw[hws1];first|(and_intros<;>rfl)|(simp;done)|(simp;omega)⟩|skip
 have ok2:inl2 k ⟨a,b,v,l,s⟩ ⟨ya,yb,yv,yl,ys⟩=true:=decide_eq_true (Or.inr fun h=>h.elim (fun h=>by simp only at h;omega) fun h=>by have:=h.1;simp only at this;omega)
 (repeat' (first|apply zS|apply zB|((first|apply zW| refine zd 40 (h:=?_));simp only[go_sem,hli,hr,encInline,kCk,ok1,hki,hrp,c7,c8,←List.map_take,htl])|apply And.intro|intro _))
 all_goals first|omega|rfl|skip
 refine zL (fun i:Nat=>⟨[(0,.sl 5 (L.map encInline)),(4,.ptr 4 0 0 0),(5,.v (.bool (within L k i))),(8,.sl 5 (L.map encInline)),(9,.v (.int .i64 L.length)),(10,.v (.int .i64 k)),(60,.sl 5 ((L.take k).map encInline)),(61,.v (.int .i64 k)),(62,.v (.int .i64 i))],[(4,.box 256 [.v (.int .i64 a),.v (.int .i64 b),.v (.int .i64 v),.v (.int .i64 l),.v (.string s)])]⟩) (fun i=>i≤k) (fun i=>k-i) 0 (by simp) ?_ ?_
 ·(simp only[go_sem,hw0,htl]<;>(first|(and_intros<;>rfl)|simp))
 intro i hi;by_cases hik:i<k;rotate_left
 ·have hge:¬(i:Int)<k:=by omega
  obtain rfl:i=k:=by omega
  cases hw:within L i i with
  |false =>
   rw[kQb hw]
   (repeat' (first|apply zS|apply zB|((first|apply zW| refine zd 40 (h:=?_));simp only[go_sem,hge,hw])|apply And.intro|intro _))
   all_goals first|omega|rfl|skip
  |true =>
   have n1:=hnx (by rw[ok1,ok2,hw];rfl)
   (repeat' (first|apply zS|apply zB|((first|apply zW| refine zd 40 (h:=?_));simp only[go_sem,hge,hw])|apply And.intro|intro _))
   all_goals first|omega|rfl|exact⟨i+1,⟨by omega,n1⟩,by omega,by(first|(and_intros<;>rfl)|simp)⟩|skip
 have hiki:(i:Int)<k:=by omega
 have hil:i<L.length:=by omega
 have hws1:=hws i hil;have hr2:=kAa encInline (L.take k) i (by omega)
 rw[List.getElem_take]at hr2;have hili:(i:Int)<(L.take k).length:=by omega
 generalize L[i]=z at *;obtain⟨za,zb,zv,zl,zs⟩:=z
 cases hw:within L k i with
 |true =>
  rw[hw,Bool.true_or]at hws1
  (repeat' (first|apply zS|apply zB|((first|apply zW| refine zd 40 (h:=?_));simp only[go_sem,hiki,hili,hr2,encInline,hw])|apply And.intro|intro _))
  all_goals first|omega|rfl|exact⟨i+1,by omega,by omega,by rw[hws1];first|(and_intros<;>rfl)|(simp;done)|(simp;omega)⟩|skip
 |false =>
  rw[hw,Bool.false_or]at hws1;by_cases d1:zv=v-1;rotate_left
  ·rw[kD5 fun h=>d1 h.1]at hws1
   (repeat' (first|apply zS|apply zB|((first|apply zW| refine zd 40 (h:=?_));simp only[go_sem,hiki,hili,hr2,encInline,hw,d1])|apply And.intro|intro _))
   all_goals first|omega|rfl|exact⟨i+1,by omega,by omega,by rw[hws1];first|(and_intros<;>rfl)|(simp;done)|(simp;omega)⟩|skip
  by_cases d2:za≤a;rotate_left
  ·rw[kD5 fun h=>d2 h.2.1]at hws1
   (repeat' (first|apply zS|apply zB|((first|apply zW| refine zd 40 (h:=?_));simp only[go_sem,hiki,hili,hr2,encInline,hw,d1,d2])|apply And.intro|intro _))
   all_goals first|omega|rfl|exact⟨i+1,by omega,by omega,by rw[hws1];first|(and_intros<;>rfl)|(simp;done)|(simp;omega)⟩|skip
  by_cases d3:b≤zb;rotate_left
  ·rw[kD5 fun h=>d3 h.2.2]at hws1
   (repeat' (first|apply zS|apply zB|((first|apply zW| refine zd 40 (h:=?_));simp only[go_sem,hiki,hili,hr2,encInline,hw,d1,d2,d3])|apply And.intro|intro _))
   all_goals first|omega|rfl|exact⟨i+1,by omega,by omega,by rw[hws1];first|(and_intros<;>rfl)|(simp;done)|(simp;omega)⟩|skip
  rw[kOr d1 d2 d3]at hws1
  (repeat' (first|apply zS|apply zB|((first|apply zW| refine zd 40 (h:=?_));simp only[go_sem,hiki,hili,hr2,encInline,hw,d1,d2,d3])|apply And.intro|intro _))
  all_goals first|omega|rfl|exact⟨i+1,by omega,by omega,by rw[hws1];first|(and_intros<;>rfl)|(simp;done)|(simp;omega)⟩|skip
end
end Go.Proofs.YtjdklcjoeanimaaGreat

