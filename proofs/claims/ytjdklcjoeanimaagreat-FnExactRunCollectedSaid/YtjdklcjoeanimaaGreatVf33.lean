/- DERIVED. Steps of the proof. -/
import Derived.Test.YtjdklcjoeanimaaGreatVf28
import Derived.Test.YtjdklcjoeanimaaGreatVf32
set_option linter.all false
set_option maxHeartbeats 1000000
set_option maxRecDepth 10000
namespace Go.Proofs.YtjdklcjoeanimaaGreat
attribute [local irreducible] Go.Vc.WP
section
open Go.Vc Tryz
attribute [local go_sem] St.k1q St.kWg qJ6 qJ7
attribute [local go_sem] bxE obE decE aggSe kHa kJk k3h
def preRun (x:SeX×Int):Prop:=kEl x.1∧kEc x.1∧(kAx x.1=true→0≤x.2→x.2≤3000→∃k0:Nat,(k0:Int)+x.2≤3000∧SnI k0 x.1)
def kRunSi:Ctr:=pur (fun args=>(seA args 0,aI args 1)) (fun x=>[.agg (aggSe x.1),vi x.2]) preRun (fun d x=>.agg (kHa d (kIh x.1 x.2))) (fun d x=>kJk d (kIh x.1 x.2))
theorem k4q:∀(n:Nat) {k:Nat}{x:SeX},SnI k x→∃j,j≤k+n∧SnI j (kIi n x)
 | 0,k,x,h=>⟨k,zo,h⟩
 |n+1,k,x,h=>by
  show∃j,j≤k+(n+1)∧SnI j (if(kBd x).2=true then kIi n (kBd x).1 else x)
  split
  ·obtain⟨j,h1,h2⟩:=k4q n h.step;exact⟨j,zo,h2⟩
  ·exact⟨k,zo,h⟩
theorem SnI.cs {k:Nat}{x:SeX}(h:SnI k x) (hk:k≤3000):kJz x:=qAl (h.pre hk).1 (h.pre hk).2.1
section
attribute [local irreducible] kGl kFr kEc kEl kC2 kA0 kBd
def qAm:=kc k9j (kc k9k (kc c60 (kc cAdvI kn)))
theorem kTn {p:Prop}(h:p:=by first|omega|rfl|exact hp|exact hcs|exact hcs.1|exact hcs.2|exact⟨_,_,rfl,_,_,rfl,rfl⟩|exact if_neg (by omega)|(rw[if_neg (by omega),if_neg (by omega)];done)|(rw[if_neg (by omega),if_neg (by omega),if_neg (by omega)];done)|(rw[if_neg (by omega),if_neg (by omega),if_neg (by omega),if_neg (by omega)];done)|fail):p:=h
set_option maxHeartbeats 6000000 in
theorem qPf:Cq 69 kRunSi:=by
 refine zp fun d x hx=>?_
 obtain⟨x,lim⟩:=x;obtain⟨hp,hs,hk⟩:=hx;simp only at hp hs hk⊢;have hcs:kJz x:=qAl hp hs;have hG:kIh x lim=if kAx x=true∧0≤lim∧lim≤3000 then kIi lim.toNat x else x:=rfl
 rw[hG]
 cases hok:kAx x with
 |false =>
  rw[if_neg (fun h=>by cases h.1)]
  obtain⟨⟨⟨I,B,E⟩,T,tu,le,sl⟩,⟨p,q,l,st⟩,⟨cp,R,wr,lo⟩,mo,sp,fi⟩:=x;refine zg qAm func69 rfl rfl ntmps69 ?_;intros
  (repeat' (first|apply zS|apply zB|(apply zW;simp only[go_sem,hok])|apply jAi|exact kTn|intro _))
 |true =>
  by_cases hl:0≤lim∧lim≤3000
  ·rw[if_pos ⟨rfl,hl⟩];obtain⟨k0,hk0,h0⟩:=hk hok hl.1 hl.2;obtain⟨jz,hjz,hIz⟩:=k4q lim.toNat h0;have hcz:=hIz.cs zo;generalize hz:kIi lim.toNat x=z at hcz;have hx0:∃y0:SeX,y0=x:=⟨x,rfl⟩;obtain⟨y0,hy0⟩:=hx0;rw[←hy0]at h0 hz;obtain⟨⟨⟨jjI,jjB,jjE⟩,jjT,k0x,k0y,k0z⟩,⟨jjp,jjq,jjl,k00⟩,⟨k01,jjR,k02,k03⟩,k04,k05,jjfi⟩:=z;obtain⟨⟨⟨I,B,E⟩,T,tu,le,sl⟩,⟨p,q,l,st⟩,⟨cp,R,wr,lo⟩,mo,sp,fi⟩:=x;refine zg qAm func69 rfl rfl ntmps69 ?_;intros
   (repeat' ((fail_if_success refine WP.kEw (b:=2) ?_);first|apply zS|apply zB|(apply zW;simp only[go_sem,hok])|apply jAi|omega|exact hcs|exact hcs.1|exact hcs.2|intro _))
   refine zP [8,1008,2008,4008] [] rfl ?_;refine WP.sha [3008] ?_;simp only[go_sem]
   (repeat' (first|apply zS|apply zB|((first|refine WP.kUu (id:=5) ?_);simp only[go_sem,hok,hl])|(apply zW;simp only[go_sem,hok,hl])|apply jAi|omega|exact hp|intro _))
   refine zL (fun S:Nat×SeX=>⟨[(1,vi lim),(4,.ptr 4 0 0 0),(5,.ptr 5 0 0 0),(6,vi S.1)],[(4,.box 58 (k3h)),(5,.box 58 (bxE S.2 3008)),(3008,.sl 206 7 (S.2.1.2.1.map encMach))]⟩)
    (fun S=>(S.1:Int)≤lim∧SnI (k0+S.1) S.2∧kIi (lim.toNat-S.1) S.2=(((jjI,jjB,jjE),jjT,k0x,k0y,k0z),⟨jjp,jjq,jjl,k00⟩,(k01,jjR,k02,k03),k04,k05,jjfi)) (fun S=>lim.toNat-S.1) (0,y0) ⟨zo,h0,hz⟩ ?_ ?_
   ·subst hy0
    (simp only[go_sem]<;>(first|(and_intros<;>rfl)|simp))
   rintro⟨k,y⟩ ⟨hkl,hI,hr⟩;simp only at hkl hI hr⊢;have hk3:k0+k≤3000:=zo;by_cases hlt:(k:Int)<lim
   ·have hct:kRp y=kBd y:=(k5p hI.base).symm;have hI2:=hI.step;have hn:lim.toNat-k=lim.toNat-(k+1)+1:=zo
    cases hok2:(kBd y).2 with
    |true =>
     rw[hn,qAn hok2]at hr;generalize hq:(kBd y).1=y2 at hI2 hr;have hq2:kRp y=(y2,true):=by rw[hct,←hq,←hok2]
     obtain⟨⟨⟨yI,yB,yE⟩,yT,ytu,yle,ysl⟩,⟨yp,yq,yl,yst⟩,⟨ycp,yR,ywr,ylo⟩,ymo,ysp,yfi⟩:=y;obtain⟨⟨⟨wI,wB,wE⟩,wT,wtu,wle,wsl⟩,⟨wp,wq,wl,wst⟩,⟨wcp,wR,wwr,wlo⟩,wmo,wsp,wfi⟩:=y2
     (repeat' (first|apply zS|apply zB|((first|refine WP.kUu (id:=5) ?_);simp only[go_sem,hlt,hq2])|(apply zW;simp only[go_sem,hlt,hq2])|apply jAi|omega|exact⟨k0+k,hk3,hI⟩|exact⟨(k+1,(((wI,wB,wE),wT,wtu,wle,wsl),⟨wp,wq,wl,wst⟩,(wcp,wR,wwr,wlo),wmo,wsp,wfi)),⟨by show((k+1:Nat):Int)≤lim;omega,hI2,hr⟩,by show lim.toNat-(k+1)<lim.toNat-k;omega,zh⟩|intro _))
    |false =>
     rw[k6k hok2]at hr;subst hr
     have hq1:(kBd (((jjI,jjB,jjE),jjT,k0x,k0y,k0z),(⟨jjp,jjq,jjl,k00⟩:Tm),(k01,jjR,k02,k03),k04,k05,jjfi)).1=(((jjI,jjB,jjE),jjT,k0x,k0y,k0z),(⟨jjp,jjq,jjl,k00⟩:Tm),(k01,jjR,k02,k03),k04,k05,jjfi):=by
      unfold kBd at hok2⊢;split at hok2
      ·cases hok2
      ·rename_i hn;rw[if_neg hn]
     have hq2:=hct.trans (Prod.ext hq1 hok2:_=((((jjI,jjB,jjE),jjT,k0x,k0y,k0z),(⟨jjp,jjq,jjl,k00⟩:Tm),(k01,jjR,k02,k03),k04,k05,jjfi),false))
     (repeat' (first|apply zS|apply zB|((first|refine WP.kUu (id:=5) ?_);simp only[go_sem,hlt,hq2])|(apply zW;simp only[go_sem,hlt,hq2])|apply jAi|omega|exact⟨k0+k,hk3,hI⟩|exact hcz|exact hcz.1|exact hcz.2|rfl|exact⟨_,_,rfl,_,_,rfl,rfl⟩|exact if_neg zo|(rw[if_neg zo,if_neg zo];done)|(rw[if_neg zo,if_neg zo,if_neg zo];done)|(rw[if_neg zo,if_neg zo,if_neg zo,if_neg zo];done)|intro _))
   ·have hkl:(k:Int)=lim:=zo;have hn:lim.toNat-k=0:=zo;rw[hn]at hr;have hr:y=_:=hr;subst hr
    (repeat' (first|apply zS|apply zB|((first|refine WP.kUu (id:=5) ?_);simp only[go_sem,hlt])|(apply zW;simp only[go_sem,hlt])|apply jAi|omega|exact hcz|exact hcz.1|exact hcz.2|rfl|exact⟨_,_,rfl,_,_,rfl,rfl⟩|exact if_neg zo|(rw[if_neg zo,if_neg zo];done)|(rw[if_neg zo,if_neg zo,if_neg zo];done)|(rw[if_neg zo,if_neg zo,if_neg zo,if_neg zo];done)|intro _))
  ·rw[if_neg (fun h=>hl h.2)]
   obtain⟨⟨⟨I,B,E⟩,T,tu,le,sl⟩,⟨p,q,l,st⟩,⟨cp,R,wr,lo⟩,mo,sp,fi⟩:=x;refine zg qAm func69 rfl rfl ntmps69 ?_;intros;by_cases hl0:0≤lim
   ·have hl1:¬lim≤3000:=fun h=>hl ⟨hl0,h⟩
    (repeat' (first|apply zS|apply zB|(apply zW;simp only[go_sem,hok,hl0,hl1])|apply jAi|exact kTn|intro _))
   ·(repeat' (first|apply zS|apply zB|(apply zW;simp only[go_sem,hok,hl0])|apply jAi|exact kTn|intro _))
end
end
section
open Go.Vc
def rcG (a:AgX) (ev:Int) (st:Bool):Nat→SeX→Rep→SeX×Rep
 | 0,s,r=>(s,r)
 |n+1,s,r=>rcG a ev st n (collect a (kIh s ev) r st).1 (collect a (kIh s ev) r st).2
def kK2 (a:AgX) (s:SeX) (lim ev:Int) (st:Bool):SeX×Rep :=
 if kBb a=true∧kAx s=true∧(0≤lim∧lim≤3000)∧1≤ev∧ev≤3000 then rcG a ev st (lim.tdiv ev).toNat s ⟨[],[],0,0⟩else(s,⟨[],[],0,0⟩)
theorem qLz (x:RgX) (s:ByteArray):(kDx x s).1.2.1.length≤x.2.1.length+1:=by
 unfold kDx;split
 ·split
  ·simp only;omega
  ·simp only[jKs,List.length_singleton];omega
 ·simp only;omega
theorem qIk (x:SeX) (t:Int):(kQl x t).2.1.length≤x.2.2.1.2.1.length+1:=by
 unfold kQl;split
 ·exact qLz _ _
 ·omega
theorem qBl (x:SeX):(kBd x).1.2.2.1.2.1.length≤x.2.2.1.2.1.length+1:=by
 unfold kBd;split
 ·show(if(tick x.2.1).2=true then kQl x (kA0 x.1).2 else x.2.2.1).2.1.length≤_
  split
  ·exact qIk _ _
  ·omega
 ·simp only;omega
theorem k2l:∀(n:Nat) (x:SeX),(kIi n x).2.2.1.2.1.length≤x.2.2.1.2.1.length+n
 | 0,x=>jDu _
 |n+1,x=>by
  show(if(kBd x).2=true then kIi n (kBd x).1 else x).2.2.1.2.1.length≤_
  split
  ·have h1:=k2l n (kBd x).1;have h2:=qBl x;omega
  ·omega
theorem qBm (x:SeX) (ev:Int):(kIh x ev).2.2.1.2.1.length≤x.2.2.1.2.1.length+ev.toNat:=by
 unfold kIh;split
 ·exact k2l _ _
 ·omega
theorem qL0 {k:Nat}{x:SeX}{ev:Int}(h:SnI k x):SnI (k+ev.toNat) (kIh x ev):=by
 have up:∀(n:Nat) {j:Nat},SnI j x→SnI (j+n) x:=fun n=>by
  induction n with
  |zero=>exact fun h=>h
  |succ n ih=>exact fun h=>(ih h).up
 unfold kIh;split
 ·obtain⟨j,hj,hI⟩:=k4q ev.toNat h
  have up2:∀(n:Nat) {j:Nat},SnI j (kIi ev.toNat x)→SnI (j+n) (kIi ev.toNat x):=fun n=>by
   induction n with
   |zero=>exact fun h=>h
   |succ n ih=>exact fun h=>(ih h).up
  have:=up2 (k+ev.toNat-j) hI
  rwa [show j+(k+ev.toNat-j)=k+ev.toNat by omega]at this
 ·exact up _ h
theorem SnI.col {k:Nat}{x:SeX}(h:SnI k x):SnI k (colS x):=by
 obtain⟨⟨h1,h2,⟨r1,r2,r3,r4,r5⟩,h3⟩,i,s,e,m⟩:=h;refine⟨⟨h1,h2,⟨?_,r2,?_,?_,r5⟩,h3⟩,i,s,e,m⟩
 ·simp[colS]
 ·simp only[colS,kBu];simpa using r2.1
 ·simp only[colS];simp only[jOy];omega
theorem kFp.zero:kFp 0 0 ⟨[],[],0,0⟩:=by
 have h:kKk ⟨[],[],0,0⟩=true:=by decide
 have:=kFp.start h;exact this
theorem kFp.up {n0 j:Nat}{r:Rep}(h:kFp n0 j r) (i:Nat):kFp n0 (j+i) r :=
 ⟨h.ok,by have:=h.kp;omega,by have:=h.sk;omega,by have:=h.len;omega⟩
structure RcI (k j:Nat) (s:SeX) (r:Rep):Prop where
 se:SnI k s
 rp:kFp 0 j r
 ct:j+s.2.2.1.2.1.length≤100000+k
theorem RcI.run {a:AgX}{st:Bool}{k j:Nat}{s:SeX}{r:Rep}{ev:Int}(h:RcI k j s r):RcI (k+ev.toNat) j (kIh s ev) r :=
 ⟨qL0 h.se,h.rp,by have:=h.ct;have:=qBm s ev;omega⟩
theorem RcI.col {a:AgX}{st:Bool}{k j:Nat}{s:SeX}{r:Rep}(hp:kEj a) (hB:kNc a) (h:RcI k j s r):∃j',RcI k j' (collect a s r st).1 (collect a s r st).2:=by
 by_cases hall:kBb a=true∧kAx s=true∧kKk r=true
 ·rw[kTh hall];refine⟨j+s.2.2.1.2.1.length,h.se.col,h.rp.go hp hB,?_⟩;have:=h.ct;simp only[colS,jOy];omega
 ·rw[kU3 hall];exact⟨j,h⟩
end
section
open Go.Vc Tryz
def kDm:FP:=⟨12,[fc [5] [] [15,16,51,54,1051,1054,2051,2054,3051,3054,4051,4054,5054,6054],fc [12] [] [15,16,51,54,1051,1054,2051,2054,3051,3054,4051,4054,5054,6054],fc [3] [] [15,16,51,54,1051,1054,2051,2054,3051,3054,4051,4054,5054,6054],⟨[49,50],[1,2],[],[15,16,54,1054,2054,3054,4054,5054,6054],[],[51,1051,2051,3051,4051]⟩,fc [13] [] [15,16,51,54,1051,1054,2051,2054,3051,3054,4051,4054,5054,6054],fc [4] [] [15,16,51,54,1051,1054,2051,2054,3051,3054,4051,4054,5054,6054],⟨[48,51,52,53],[0,1,2,3,4,5],[],[15,16],[],[54,1054,2054,3054,4054,5054,6054]⟩,fc [54] [0,1,2,3,4,5,6] [15,16],fc [47] [0,1,2,3,4,5,6,7] [15,16],fc [47] [0,1,2,3,4,5,6,7] [15,16],⟨[],[],[],[16,51,54,1051,1054,2051,2054,3051,3054,4051,4054,5054,6054],[],[15]⟩,⟨[],[],[],[15,51,54,1051,1054,2051,2054,3051,3054,4051,4054,5054,6054],[],[16]⟩,fn 12,fn 13],[15,16,47,48,49,50,51,52,53,54,55,56],[15,16,51,54,1051,1054,2051,2054,3051,3054,4051,4054,5054,6054],[]⟩
def kX6:FP:=⟨12,[fc [5] [] [15,16,54,1054,2054,3054,4054,5054,6054],fc [12] [] [15,16,54,1054,2054,3054,4054,5054,6054],fc [3] [] [15,16,54,1054,2054,3054,4054,5054,6054],fc [49,50] [1,2] [15,16,54,1054,2054,3054,4054,5054,6054],fc [13] [] [15,16,54,1054,2054,3054,4054,5054,6054],fc [4] [] [15,16,54,1054,2054,3054,4054,5054,6054],⟨[48,51,52,53],[0,1,2,3,4,5],[],[15,16],[],[54,1054,2054,3054,4054,5054,6054]⟩,fc [54] [0,1,2,3,4,5,6] [15,16],fc [47] [0,1,2,3,4,5,6,7] [15,16],fc [47] [0,1,2,3,4,5,6,7] [15,16],⟨[],[],[],[16,54,1054,2054,3054,4054,5054,6054],[],[15]⟩,⟨[],[],[],[15,54,1054,2054,3054,4054,5054,6054],[],[16]⟩,fn 12,fn 13],[15,16,47,48,49,50,51,52,53,54,55,56],[15,16,54,1054,2054,3054,4054,5054,6054],[]⟩
attribute [local go_sem] kDm kX6
open Go.Pl
attribute [local go_sem] kB7 aggAg kL0 St.ado St.kM4 St.kM5 rp isNil
attribute [local go_sem] aggSe kHa kJk kPy kPz
attribute [local go_sem] kVb k0o
abbrev RcX:=AgX×SeX×Int×Int×Bool
structure RcP (x:RcX):Prop where
 ag:kEj x.1
 inl:kNc x.1
 se:kEl x.2.1
 cs:kJz x.2.1
 sn:kAx x.2.1=true→SnI 0 x.2.1
@[go_sem] def kRc:Ctr:=pur (fun args=>((agA args 0,seA args 1,aI args 2,aI args 3,aB args 4):RcX)) (fun x=>[.agg (aggAg x.1),.agg (aggSe x.2.1),vi x.2.2.1,vi x.2.2.2.1,.v (.bool x.2.2.2.2)]) RcP
 (fun d x=>.tup [.agg (kHa d (kK2 x.1 x.2.1 x.2.2.1 x.2.2.2.1 x.2.2.2.2).1),.agg (kVb d (kK2 x.1 x.2.1 x.2.2.1 x.2.2.2.1 x.2.2.2.2).2)]) (fun d x=>kJk d (kK2 x.1 x.2.1 x.2.2.1 x.2.2.2.1 x.2.2.2.2).1++k0o d (kK2 x.1 x.2.1 x.2.2.1 x.2.2.2.1 x.2.2.2.2).2)
theorem RcI.colP {a:AgX}{st:Bool}{k j:Nat}{s:SeX}{r:Rep}(hp:kEj a) (hB:kNc a) (hk:k≤3000) (h:RcI k j s r):ColP (a,s,r,st):=by
 have h1:=h.se.pre hk;have h2:=h.rp.len;have h3:=h.rp.clen;have h4:=h.ct;have h5:=h.se.cs hk;exact⟨hp,hB,h1.1,h5,⟨⟨by simp only;omega,kNd h.rp.ok⟩,by simp only;omega⟩,by simp only;omega,by simp only;omega,fun _=>by simp only;omega⟩
theorem qFb {a:AgX}{s:SeX}{lim ev:Int}{st:Bool}(h:¬(kBb a=true∧kAx s=true∧(0≤lim∧lim≤3000)∧1≤ev∧ev≤3000)):kK2 a s lim ev st=(s,⟨[],[],0,0⟩):=if_neg h
theorem k81 {a:AgX}{s:SeX}{lim ev:Int}{st:Bool}(h:kBb a=true∧kAx s=true∧(0≤lim∧lim≤3000)∧1≤ev∧ev≤3000):kK2 a s lim ev st=rcG a ev st (lim.tdiv ev).toNat s ⟨[],[],0,0⟩:=if_pos h
section
attribute [local irreducible] kGl kFr kEc kEl kC2 kEk kEj kHj kJz wfR
def cxRcS:=kc k2q (kc k9g (kc k2r (kc c58 (kc qPo (kc cColS kn)))))
theorem kX7 {p:Prop}(h:p:=by first|omega|exact hag|exact hse|rfl|exact⟨_,_,rfl,_,_,rfl,rfl⟩|exact if_neg (by omega)|((repeat rw[if_neg (by omega)]);done)|fail):p:=h
set_option maxHeartbeats 6000000 in
theorem cRcS:Cq 21 kRc:=by
 refine zp fun d x hx=>?_
 obtain⟨a,s,lim,ev,st⟩:=x;obtain⟨hag,hin,hse,hcs,hsn⟩:=hx;simp only at hag hin hse hcs hsn⊢;by_cases hall:kBb a=true∧kAx s=true∧(0≤lim∧lim≤3000)∧1≤ev∧ev≤3000;rotate_left
 ·rw[qFb hall];obtain⟨⟨I,B,E⟩,D⟩:=a;obtain⟨⟨⟨SI,SB,SE⟩,T,tu,le,sl⟩,⟨p,q,l,stt⟩,⟨cp,R,wr,lo⟩,mo,sp,fi⟩:=s;generalize hb1:kBb ((I,B,E),D)=b1 at *;generalize hb2:kAx (((SI,SB,SE),T,tu,le,sl),(⟨p,q,l,stt⟩:Tm),(cp,R,wr,lo),mo,sp,fi)=b2 at *;simp only[aggAg]at⊢;refine zg cxRcS func21 rfl rfl ntmps21 ?_;intros
  (repeat' ((fail_if_success refine WP.kEw (b:=3) ?_);first|apply zS|apply zB|((first|apply zW| refine WP.kBp (.br 0 (.br 1 (.br 2 (.br 3 .done .nil) .nil) (.br 2 (.br 1 (.br 3 .done .nil) .nil) .nil)) (.br 1 (.br 0 (.br 2 (.br 3 .done .nil) .nil) .nil) .nil)) (by decide +kernel) (by kernel_rfl) ?_|refine zfE 12 9 [] kDm ?_);simp only[go_sem])|apply jAi|omega|exact hcs|intro _))
  refine zA [.b 13 0 46 231 3,.b 13 1 1046 3 1] ?_;simp only[go_sem]
  cases b1 with
  |false =>
   (repeat' (first|apply zS|apply zB|((first|apply zW| refine WP.kBp (.br 0 (.br 1 (.br 2 (.br 3 .done .nil) .nil) (.br 2 (.br 1 (.br 3 .done .nil) .nil) .nil)) (.br 1 (.br 0 (.br 2 (.br 3 .done .nil) .nil) .nil) .nil)) (by decide +kernel) (by kernel_rfl) ?_|refine zfE 12 9 [] kDm ?_);simp only[go_sem,hb1])|apply jAi|omega|exact hag|rfl|exact⟨_,_,rfl,_,_,rfl,rfl⟩|exact if_neg zo|((repeat rw[if_neg zo]);done)|intro _))
  |true =>
  cases b2 with
  |false =>
   (repeat' (first|apply zS|apply zB|((first|apply zW| refine WP.kBp (.br 0 (.br 1 (.br 2 (.br 3 .done .nil) .nil) (.br 2 (.br 1 (.br 3 .done .nil) .nil) .nil)) (.br 1 (.br 0 (.br 2 (.br 3 .done .nil) .nil) .nil) .nil)) (by decide +kernel) (by kernel_rfl) ?_|refine zfE 12 9 [] kDm ?_);simp only[go_sem,hb1,hb2])|apply jAi|exact kX7|intro _))
  |true =>
  by_cases hl:0≤lim∧lim≤3000;rotate_left
  ·have hlF:(0≤lim∧lim≤3000)=False:=eq_false hl
   (repeat' (first|apply zS|apply zB|((first|apply zW| refine WP.kBp (.br 0 (.br 1 (.br 2 (.br 3 .done .nil) .nil) (.br 2 (.br 1 (.br 3 .done .nil) .nil) .nil)) (.br 1 (.br 0 (.br 2 (.br 3 .done .nil) .nil) .nil) .nil)) (by decide +kernel) (by kernel_rfl) ?_|refine zfE 12 9 [] kDm ?_);simp only[go_sem,hb1,hb2,hlF])|apply jAi|exact kX7|intro _))
  have hlT:(0≤lim∧lim≤3000)=True:=eq_true hl;have heF:(1≤ev∧ev≤3000)=False:=eq_false fun h=>hall ⟨rfl,rfl,hl,h⟩
  (repeat' (first|apply zS|apply zB|((first|apply zW| refine WP.kBp (.br 0 (.br 1 (.br 2 (.br 3 .done .nil) .nil) (.br 2 (.br 1 (.br 3 .done .nil) .nil) .nil)) (.br 1 (.br 0 (.br 2 (.br 3 .done .nil) .nil) .nil) .nil)) (by decide +kernel) (by kernel_rfl) ?_|refine zfE 12 9 [] kDm ?_);simp only[go_sem,hb1,hb2,hlT,heF])|apply jAi|exact kX7|intro _))
 rw[k81 hall];obtain⟨hb1,hb2,hl,he⟩:=hall;have hlT:(0≤lim∧lim≤3000)=True:=eq_true hl;have heT:(1≤ev∧ev≤3000)=True:=eq_true he;have hI0:RcI 0 0 s ⟨[],[],0,0⟩:=⟨hsn hb2,kFp.zero,by have h5:=kMr hb2;obtain⟨P,t,⟨cp,R,wr,lo⟩,m⟩:=s;simp only at h5⊢;have:=(kLw h5).1;omega⟩
 have hn0:0≤lim.tdiv ev:=Int.tdiv_nonneg hl.1 zo;have hn1:lim.tdiv ev*ev≤lim:=by rw[vJ3 hl.1];exact Int.ediv_mul_le lim zo
 have hev:ev≠0:=zo
 have hn2:lim.tdiv ev≤lim:=by
  have:=yIr he.1 hn0;omega
 generalize hz:rcG a ev st (lim.tdiv ev).toNat s ⟨[],[],0,0⟩=z;have ha0:∃a0:AgX,a0=a:=⟨a,rfl⟩;obtain⟨a0,ha0⟩:=ha0;have hs0:∃s0:SeX,s0=s:=⟨s,rfl⟩;obtain⟨s0,hs0⟩:=hs0;rw[←ha0,←hs0]at hz;rw[←hs0]at hI0;rw[←ha0]at hin;have kK5:=hag;rw[←ha0]at kK5;obtain⟨⟨I,B,E⟩,D⟩:=a;obtain⟨⟨⟨SI,SB,SE⟩,T,tu,le,sl⟩,⟨p,q,l,stt⟩,⟨cp,R,wr,lo⟩,mo,sp,fi⟩:=s;obtain⟨⟨⟨⟨jI,jB,jE⟩,jT,jtu,jle,jsl⟩,⟨jp,jq,jl,jst⟩,⟨jcp,jR,jwr,jlo⟩,jmo,jsp,jfi⟩,⟨jN,jC,jk,js⟩⟩:=z;simp only[aggAg]at⊢;refine zg cxRcS func21 rfl rfl ntmps21 ?_;intros
 (repeat' ((fail_if_success refine WP.kEw (b:=3) ?_);first|apply zS|apply zB|((first|apply zW| refine WP.kBp (.br 0 (.br 1 (.br 2 (.br 3 .done .nil) .nil) (.br 2 (.br 1 (.br 3 .done .nil) .nil) .nil)) (.br 1 (.br 0 (.br 2 (.br 3 .done .nil) .nil) .nil) .nil)) (by decide +kernel) (by kernel_rfl) ?_|refine zfE 12 9 [] kDm ?_);simp only[go_sem])|apply jAi|omega|exact hcs|intro _))
 refine zA [.b 13 0 46 231 3,.b 13 1 1046 3 1] ?_;simp only[go_sem]
 (repeat' (first|apply zS|apply zB|((first|apply zW| refine WP.kBp (.br 0 (.br 1 (.br 2 (.br 3 .done .nil) .nil) (.br 2 (.br 1 (.br 3 .done .nil) .nil) .nil)) (.br 1 (.br 0 (.br 2 (.br 3 .done .nil) .nil) .nil) .nil)) (by decide +kernel) (by kernel_rfl) ?_|refine zfE 12 9 [] kDm ?_);simp only[go_sem,hb1,hb2,hlT,heT])|apply jAi|omega|exact hag|exact hse|intro _))
 refine zL (fun S:Nat×SeX×Rep=>⟨[(2,vi lim),(3,vi ev),(4,.v (.bool st)),(5,.ptr 5 0 0 0),(10,.ptr 10 0 0 0),(11,.ptr 11 0 0 0),(12,.ptr 12 0 0 0),(13,.ptr 13 0 0 0),(14,vi S.1)],[(5,.box 70 [.sl 2 (I.map encImage),.sl 1 (B.map encI),.sl 1 (E.map encI),.sl 5 (D.map encDebug)]),(10,.box 58 kPy),(11,.box 65 kPz),
   (12,.box 58 (kHa 18 S.2.1)),(18,.dp 144 2 (S.2.1.1.1.1.map encImage)),(1018,.sl 3 1 (S.2.1.1.1.2.1.map encI)),(2018,.sl 3 1 (S.2.1.1.1.2.2.map encI)),(3018,.dp 206 7 (S.2.1.1.2.1.map encMach)),(4018,.sl 9 1 (S.2.1.2.2.1.2.1.map encS)),
   (13,.box 65 [.own 46,.own 1046,vi S.2.2.kept,vi S.2.2.skip]),(46,.sl 231 3 (S.2.2.N.map kAc)),(1046,.sl 3 1 (S.2.2.C.map encI))]⟩)
  (fun S=>(S.1:Int)≤lim.tdiv ev∧rcG a0 ev st (lim.tdiv ev).toNat s0 ⟨[],[],0,0⟩=rcG a0 ev st ((lim.tdiv ev).toNat-S.1) S.2.1 S.2.2∧∃j,RcI (S.1*ev.toNat) j S.2.1 S.2.2) (fun S=>(lim.tdiv ev).toNat-S.1) (0,s0,⟨[],[],0,0⟩) ⟨by simpa using hn0,rfl,0,by rw[Nat.zero_mul];exact hI0⟩ ?_ ?_
 ·subst hs0
  (simp only[go_sem]<;>(first|(and_intros<;>rfl)|simp))
 rintro⟨k,y,r⟩ ⟨hk,hc,j,hI⟩;simp only at hk hc hI⊢;rw[hz]at hc;have hevn:((ev.toNat:Nat):Int)=ev:=vGf zo
 have hkn:k*ev.toNat≤3000:=by
  have:=vUa hk (by omega:(0:Int)≤ev)
  have h2:((k*ev.toNat:Nat):Int)=(k:Int)*ev:=by rw[yGh,hevn]
  omega
 by_cases hlt:(k:Int)<lim.tdiv ev
 ·have hkn1:(k+1)*ev.toNat≤3000:=by
   have:=vUa (by omega:(k:Int)+1≤lim.tdiv ev) (by omega:(0:Int)≤ev)
   have h2:(((k+1)*ev.toNat:Nat):Int)=((k:Int)+1)*ev:=by rw[yGh,hevn];rfl
   omega
  have hkn2:(k+1)*ev.toNat=k*ev.toNat+ev.toNat:=Nat.succ_mul k ev.toNat;have hp1:=hI.se.pre hkn;have hpr:kEl y∧kEc y∧(kAx y=true→0≤ev→ev≤3000→∃k0:Nat,(k0:Int)+ev≤3000∧SnI k0 y):=⟨hp1.1,hp1.2.1,fun _ _ _=>⟨k*ev.toNat,zo,hI.se⟩⟩
  have hk0:∃k0:Nat,(k0:Int)+ev≤3000∧SnI k0 y:=⟨k*ev.toNat,zo,hI.se⟩;have hI1:=hI.run (a:=a0) (st:=st) (ev:=ev);have hcp:=hI1.colP (st:=st) kK5 hin zo;obtain⟨j2,hI2⟩:=hI1.col (st:=st) kK5 hin;rw[show(lim.tdiv ev).toNat-k=(lim.tdiv ev).toNat-(k+1)+1 by omega,rcG]at hc
  rw[←hkn2]at hI2;generalize hw:kIh y ev=w at hc hcp hI2 hI1;generalize hv:collect a0 w r st=v at hc hI2;subst ha0;obtain⟨⟨⟨⟨vI,vB,vE⟩,vT,vtu,vle,vsl⟩,⟨vp,vq,vl,vst⟩,⟨vcp,vR,vwr,vlo⟩,vmo,vsp,vfi⟩,⟨vN,vC,vk,vs⟩⟩:=v;obtain⟨⟨⟨wI,wB,wE⟩,wT,wtu,wle,wsl⟩,⟨wp,wq,wl,wst⟩,⟨wcp,wR,wwr,wlo⟩,wmo,wsp,wfi⟩:=w;obtain⟨⟨⟨yI,yB,yE⟩,yT,ytu,yle,ysl⟩,⟨yp,yq,yl,yst⟩,⟨ycp,yR,ywr,ylo⟩,ymo,ysp,yfi⟩:=y;obtain⟨rN,rC,rk,rs⟩:=r;simp only at hc hI2 hpr hcp hk0
  (repeat' ((fail_if_success refine WP.kEw (b:=8) ?_);first|apply zS|apply zB|((first|apply zW| refine WP.kBp (.br 0 (.br 1 (.br 2 (.br 3 .done .nil) .nil) (.br 2 (.br 1 (.br 3 .done .nil) .nil) .nil)) (.br 1 (.br 0 (.br 2 (.br 3 .done .nil) .nil) .nil) .nil)) (by decide +kernel) (by kernel_rfl) ?_|refine zfE 12 9 [] kDm ?_);simp only[go_sem,hlt,hev])|apply jAi|exact zc0|intro _))
  refine zP [18,1018,2018,3018,4018] [] rfl ?_;simp only[go_sem]
  (repeat' ((fail_if_success refine WP.kEw (b:=7) ?_);first|apply zS|apply zB|((first|apply zW| refine WP.kBp (.br 0 (.br 1 (.br 2 (.br 3 .done .nil) .nil) (.br 2 (.br 1 (.br 3 .done .nil) .nil) .nil)) (.br 1 (.br 0 (.br 2 (.br 3 .done .nil) .nil) .nil) .nil)) (by decide +kernel) (by kernel_rfl) ?_|refine zfE 12 9 [] kX6 ?_);simp(maxSteps:=4000000) only[go_sem,hw,hv])|apply jAi|omega|exact hpr|exact hpr.1|exact hpr.2.1|exact hk0|exact hcp|intro _))
  refine zP [] [(54,18),(1054,1018),(2054,2018),(3054,3018),(4054,4018),(5054,46),(6054,1046)] rfl ?_;simp only[go_sem]
  (repeat' (first|apply zS|apply zB|((first|apply zW| refine WP.kBp (.br 0 (.br 1 (.br 2 (.br 3 .done .nil) .nil) (.br 2 (.br 1 (.br 3 .done .nil) .nil) .nil)) (.br 1 (.br 0 (.br 2 (.br 3 .done .nil) .nil) .nil) .nil)) (by decide +kernel) (by kernel_rfl) ?_|refine zfE 12 9 [] kDm ?_);simp only[go_sem])|apply jAi|omega|exact⟨(k+1,(((vI,vB,vE),vT,vtu,vle,vsl),⟨vp,vq,vl,vst⟩,(vcp,vR,vwr,vlo),vmo,vsp,vfi),⟨vN,vC,vk,vs⟩),⟨by show((k+1:Nat):Int)≤lim.tdiv ev;omega,hz.trans hc,j2,hI2⟩,by show(lim.tdiv ev).toNat-(k+1)<(lim.tdiv ev).toNat-k;omega,zh⟩|intro _))
 ·rw[show(lim.tdiv ev).toNat-k=0 by omega]at hc
  have hc2:_=(y,r):=hc;subst ha0;simp only[jCx]at hc2;obtain⟨h1,h2⟩:=hc2;subst h1;subst h2
  (repeat' (first|apply zS|apply zB|((first|apply zW| refine WP.kBp (.br 0 (.br 1 (.br 2 (.br 3 .done .nil) .nil) (.br 2 (.br 1 (.br 3 .done .nil) .nil) .nil)) (.br 1 (.br 0 (.br 2 (.br 3 .done .nil) .nil) .nil) .nil)) (by decide +kernel) (by kernel_rfl) ?_|refine zfE 12 9 [] kDm ?_);simp only[go_sem,hlt,hev])|apply jAi|omega|rfl|exact⟨_,_,rfl,_,_,rfl,rfl⟩|exact if_neg zo|((repeat rw[if_neg zo]);done)|intro _))
end
end
end Go.Proofs.YtjdklcjoeanimaaGreat
