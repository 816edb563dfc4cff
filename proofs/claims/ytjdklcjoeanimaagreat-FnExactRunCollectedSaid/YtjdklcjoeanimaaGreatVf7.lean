/- DERIVED. Steps of the proof. -/
import Derived.Test.YtjdklcjoeanimaaGreatVf6
set_option linter.all false
set_option maxHeartbeats 1000000
set_option maxRecDepth 10000
namespace Go.Proofs.YtjdklcjoeanimaaGreat
open Go.Vc Tryz
attribute [local irreducible] Go.Vc.WP
section
def cxIoI:=kc cInl1I kn
theorem kVl {p:Prop}(h:p:=by first|omega|rfl|exact⟨i+1,⟨by omega,n1⟩,by omega,by(first|(and_intros<;>rfl)|simp)⟩):p:=h
theorem kCx {p:Prop}(h:p:=by first|omega|rfl|exact⟨i+1,by omega,by omega,by rw[kCe];first|(and_intros<;>rfl)|(simp;done)|(simp;omega)⟩|fail):p:=h
set_option maxHeartbeats 4000000 in
theorem qMs:Cq 273 qC4:=by
 refine zp fun d x hx=>?_
 rename List Inline=>L
 obtain⟨hL,hN⟩:=hx;refine zg cxIoI func273 rfl rfl ntmps273 ?_;intros;refine zy1 40 trivial ?_;refine zM (fun k:Nat=>⟨[(0,.sl 5 (L.map encInline)),(8,.sl 5 (L.map encInline)),(9,vi L.length),(10,vi k)],[]⟩) (fun k=>k≤L.length∧kM9 L k=true) (fun k=>L.length-k) 0 ⟨zo,rfl⟩ ?_
 intro k ⟨hk,hu⟩;by_cases hlt:k<L.length;rotate_left
 ·have hge:¬(k:Int)<L.length:=zo;obtain rfl:k=L.length:=zo;have e:kGq L=true:=hu;rw[e];exact zx1 40 hge
 have hli:(k:Int)<L.length:=zo;have hr:=kAa encInline L k hlt;have hnm:=hN _ (jCn hlt);have hbad:=fun h=>@k2e L k hlt h
 have hnx:kU0 L k=true→kM9 L (k+1)=true:=fun h=>by rw[kZk,hu,h];rfl
 have hws:=fun n hn=>@k58 L k n hlt hn
 have hw0:=k9t hlt
 have hrp:Go.Vc.rowAt (L.map encInline) ((k:Int)-1).toNat=encInline (L.getD (k-1) kJe):=by
  rw[show((k:Int)-1).toNat=k-1 by omega,kPa zo]
  exact kAa encInline L (k-1) zo
 rw[k9u hlt]at hbad hnx;have kSx:kIe L[k]=false→kGq L=false:=fun h=>hbad (by rw[h];rfl)
 have k2u:kVj k L[k] (L.getD (k-1) kJe)=false→kGq L=false:=fun h=>hbad (by rw[h,jPt];rfl)
 have kVk:within L k k=false→kGq L=false:=fun h=>hbad (by rw[h,jPt])
 generalize L.getD (k-1) kJe=y at *;generalize hxe:L[k]=x at *;obtain⟨a,b,v,l,s⟩:=x;obtain⟨ya,yb,yv,yl,ys⟩:=y;simp only at hnm hw0
 cases ok1:kIe ⟨a,b,v,l,s⟩with
 |false =>
  rw[kSx ok1]
  exact zx1 40 (z6 hli hr hrp encInline.eq_1 kC7.eq_1 ok1)
 |true =>
 have hvb:0≤v∧v≤2:=by
  unfold kIe at ok1;rw[jBs,decide_eq_true_eq]at ok1;exact ok1.1.2.2.2.1
 have htl:(L.take k).length=k:=by rw[jOb];omega
 by_cases c6:k=0
 ·have hki:¬0<(k:Int):=zo;have ok2:kVj k ⟨a,b,v,l,s⟩ ⟨ya,yb,yv,yl,ys⟩=true:=decide_eq_true (Or.inl c6)
  (repeat' (first|apply zS|apply zB|((first|apply zW| refine zd 40 ?_);simp only[go_sem,hli,hr,encInline,kC7,ok1,hki,hrp,←vK9,htl])|apply jAi|exact zc2|intro _))
  refine zL (fun i:Nat=>⟨[(0,.sl 5 (L.map encInline)),(4,.ptr 4 0 0 0),(5,.v (.bool (within L k i))),(8,.sl 5 (L.map encInline)),(9,vi L.length),(10,vi k),(60,.sl 5 ((L.take k).map encInline)),(61,vi k),(62,vi i)],[(4,.box 256 [vi a,vi b,vi v,vi l,.v (.string s)])]⟩) (fun i=>i≤k) (fun i=>k-i) 0 zs ?_ ?_
  ·(simp only[go_sem,hw0,htl]<;>(first|(and_intros<;>rfl)|simp))
  intro i hi;by_cases hik:i<k;rotate_left
  ·have hge:¬(i:Int)<k:=zo;obtain rfl:i=k:=zo
   cases hw:within L i i with
   |false =>
    rw[kVk hw]
    exact zx1 40 (z2 hge hw)
   |true =>
    have n1:=hnx (by rw[ok1,ok2,hw];rfl)
    (repeat' (first|apply zS|apply zB|((first|apply zW| refine zd 40 ?_);simp only[go_sem,hge,hw])|apply jAi|exact kVl|intro _))
  have kDi:(i:Int)<k:=zo;have hil:i<L.length:=zo;have kCe:=hws i hil;have hr2:=kAa encInline (L.take k) i zo;rw[vUs]at hr2;have kDj:(i:Int)<(L.take k).length:=zo;generalize L[i]=z at *;obtain⟨za,zb,zv,zl,zs⟩:=z
  cases hw:within L k i with
  |true =>
   rw[hw,wCv]at kCe
   (repeat' (first|apply zS|apply zB|((first|apply zW| refine zd 40 ?_);simp only[go_sem,kDi,kDj,hr2,encInline,hw])|apply jAi|exact kCx|intro _))
  |false =>
   rw[hw,jXf]at kCe;by_cases d1:zv=v-1;rotate_left
   ·rw[kFk fun h=>d1 h.1]at kCe
    (repeat' (first|apply zS|apply zB|((first|apply zW| refine zd 40 ?_);simp only[go_sem,kDi,kDj,hr2,encInline,hw,d1])|apply jAi|exact kCx|intro _))
   by_cases d2:za≤a;rotate_left
   ·rw[kFk fun h=>d2 h.2.1]at kCe
    (repeat' (first|apply zS|apply zB|((first|apply zW| refine zd 40 ?_);simp only[go_sem,kDi,kDj,hr2,encInline,hw,d1,d2])|apply jAi|exact kCx|intro _))
   by_cases d3:b≤zb;rotate_left
   ·rw[kFk fun h=>d3 h.2.2]at kCe
    (repeat' (first|apply zS|apply zB|((first|apply zW| refine zd 40 ?_);simp only[go_sem,kDi,kDj,hr2,encInline,hw,d1,d2,d3])|apply jAi|exact kCx|intro _))
   rw[kUd d1 d2 d3]at kCe
   (repeat' (first|apply zS|apply zB|((first|apply zW| refine zd 40 ?_);simp only[go_sem,kDi,kDj,hr2,encInline,hw,d1,d2,d3])|apply jAi|exact kCx|intro _))
 have hki:0<(k:Int):=zo;by_cases c7:yv>v
 ·rw[k2u (decide_eq_false fun h=>h.elim c6 fun h=>h (Or.inl (by simp only;omega)))]
  exact zx1 40 (z8 hli hr encInline.eq_1 kC7.eq_1 ok1 hki hrp c7)
 by_cases c8:yv=v
 ·have hyv:v=yv:=zo;subst hyv;by_cases c9:a<yb
  ·rw[k2u (decide_eq_false fun h=>h.elim c6 fun h=>h (Or.inr ⟨rfl,c9⟩))]
   exact zx1 40 (z9 hli hr encInline.eq_1 kC7.eq_1 ok1 hki hrp c7 c9)
  have ok2:kVj k ⟨a,b,v,l,s⟩ ⟨ya,yb,v,yl,ys⟩=true:=decide_eq_true (Or.inr fun h=>h.elim (fun h=>by simp only at h;omega) fun h=>c9 h.2)
  (repeat' (first|apply zS|apply zB|((first|apply zW| refine zd 40 ?_);simp only[go_sem,hli,hr,encInline,kC7,ok1,hki,hrp,c7,c9,←vK9,htl])|apply jAi|exact zc2|intro _))
  refine zL (fun i:Nat=>⟨[(0,.sl 5 (L.map encInline)),(4,.ptr 4 0 0 0),(5,.v (.bool (within L k i))),(8,.sl 5 (L.map encInline)),(9,vi L.length),(10,vi k),(60,.sl 5 ((L.take k).map encInline)),(61,vi k),(62,vi i)],[(4,.box 256 [vi a,vi b,vi v,vi l,.v (.string s)])]⟩) (fun i=>i≤k) (fun i=>k-i) 0 zs ?_ ?_
  ·(simp only[go_sem,hw0,htl]<;>(first|(and_intros<;>rfl)|simp))
  intro i hi;by_cases hik:i<k;rotate_left
  ·have hge:¬(i:Int)<k:=zo;obtain rfl:i=k:=zo
   cases hw:within L i i with
   |false =>
    rw[kVk hw]
    exact zx1 40 (z2 hge hw)
   |true =>
    have n1:=hnx (by rw[ok1,ok2,hw];rfl)
    (repeat' (first|apply zS|apply zB|((first|apply zW| refine zd 40 ?_);simp only[go_sem,hge,hw])|apply jAi|exact kVl|intro _))
  have kDi:(i:Int)<k:=zo;have hil:i<L.length:=zo;have kCe:=hws i hil;have hr2:=kAa encInline (L.take k) i zo;rw[vUs]at hr2;have kDj:(i:Int)<(L.take k).length:=zo;generalize L[i]=z at *;obtain⟨za,zb,zv,zl,zs⟩:=z
  cases hw:within L k i with
  |true =>
   rw[hw,wCv]at kCe
   (repeat' (first|apply zS|apply zB|((first|apply zW| refine zd 40 ?_);simp only[go_sem,kDi,kDj,hr2,encInline,hw])|apply jAi|exact kCx|intro _))
  |false =>
   rw[hw,jXf]at kCe;by_cases d1:zv=v-1;rotate_left
   ·rw[kFk fun h=>d1 h.1]at kCe
    (repeat' (first|apply zS|apply zB|((first|apply zW| refine zd 40 ?_);simp only[go_sem,kDi,kDj,hr2,encInline,hw,d1])|apply jAi|exact kCx|intro _))
   by_cases d2:za≤a;rotate_left
   ·rw[kFk fun h=>d2 h.2.1]at kCe
    (repeat' (first|apply zS|apply zB|((first|apply zW| refine zd 40 ?_);simp only[go_sem,kDi,kDj,hr2,encInline,hw,d1,d2])|apply jAi|exact kCx|intro _))
   by_cases d3:b≤zb;rotate_left
   ·rw[kFk fun h=>d3 h.2.2]at kCe
    (repeat' (first|apply zS|apply zB|((first|apply zW| refine zd 40 ?_);simp only[go_sem,kDi,kDj,hr2,encInline,hw,d1,d2,d3])|apply jAi|exact kCx|intro _))
   rw[kUd d1 d2 d3]at kCe
   (repeat' (first|apply zS|apply zB|((first|apply zW| refine zd 40 ?_);simp only[go_sem,kDi,kDj,hr2,encInline,hw,d1,d2,d3])|apply jAi|exact kCx|intro _))
 have ok2:kVj k ⟨a,b,v,l,s⟩ ⟨ya,yb,yv,yl,ys⟩=true:=decide_eq_true (Or.inr fun h=>h.elim (fun h=>by simp only at h;omega) fun h=>by have:=h.1;simp only at this;omega)
 (repeat' (first|apply zS|apply zB|((first|apply zW| refine zd 40 ?_);simp only[go_sem,hli,hr,encInline,kC7,ok1,hki,hrp,c7,c8,←vK9,htl])|apply jAi|exact zc2|intro _))
 refine zL (fun i:Nat=>⟨[(0,.sl 5 (L.map encInline)),(4,.ptr 4 0 0 0),(5,.v (.bool (within L k i))),(8,.sl 5 (L.map encInline)),(9,vi L.length),(10,vi k),(60,.sl 5 ((L.take k).map encInline)),(61,vi k),(62,vi i)],[(4,.box 256 [vi a,vi b,vi v,vi l,.v (.string s)])]⟩) (fun i=>i≤k) (fun i=>k-i) 0 zs ?_ ?_
 ·(simp only[go_sem,hw0,htl]<;>(first|(and_intros<;>rfl)|simp))
 intro i hi;by_cases hik:i<k;rotate_left
 ·have hge:¬(i:Int)<k:=zo;obtain rfl:i=k:=zo
  cases hw:within L i i with
  |false =>
   rw[kVk hw]
   exact zx1 40 (z2 hge hw)
  |true =>
   have n1:=hnx (by rw[ok1,ok2,hw];rfl)
   (repeat' (first|apply zS|apply zB|((first|apply zW| refine zd 40 ?_);simp only[go_sem,hge,hw])|apply jAi|exact kVl|intro _))
 have kDi:(i:Int)<k:=zo;have hil:i<L.length:=zo;have kCe:=hws i hil;have hr2:=kAa encInline (L.take k) i zo;rw[vUs]at hr2;have kDj:(i:Int)<(L.take k).length:=zo;generalize L[i]=z at *;obtain⟨za,zb,zv,zl,zs⟩:=z
 cases hw:within L k i with
 |true =>
  rw[hw,wCv]at kCe
  (repeat' (first|apply zS|apply zB|((first|apply zW| refine zd 40 ?_);simp only[go_sem,kDi,kDj,hr2,encInline,hw])|apply jAi|exact kCx|intro _))
 |false =>
  rw[hw,jXf]at kCe;by_cases d1:zv=v-1;rotate_left
  ·rw[kFk fun h=>d1 h.1]at kCe
   (repeat' (first|apply zS|apply zB|((first|apply zW| refine zd 40 ?_);simp only[go_sem,kDi,kDj,hr2,encInline,hw,d1])|apply jAi|exact kCx|intro _))
  by_cases d2:za≤a;rotate_left
  ·rw[kFk fun h=>d2 h.2.1]at kCe
   (repeat' (first|apply zS|apply zB|((first|apply zW| refine zd 40 ?_);simp only[go_sem,kDi,kDj,hr2,encInline,hw,d1,d2])|apply jAi|exact kCx|intro _))
  by_cases d3:b≤zb;rotate_left
  ·rw[kFk fun h=>d3 h.2.2]at kCe
   (repeat' (first|apply zS|apply zB|((first|apply zW| refine zd 40 ?_);simp only[go_sem,kDi,kDj,hr2,encInline,hw,d1,d2,d3])|apply jAi|exact kCx|intro _))
  rw[kUd d1 d2 d3]at kCe
  (repeat' (first|apply zS|apply zB|((first|apply zW| refine zd 40 ?_);simp only[go_sem,kDi,kDj,hr2,encInline,hw,d1,d2,d3])|apply jAi|exact kCx|intro _))
end
end Go.Proofs.YtjdklcjoeanimaaGreat
