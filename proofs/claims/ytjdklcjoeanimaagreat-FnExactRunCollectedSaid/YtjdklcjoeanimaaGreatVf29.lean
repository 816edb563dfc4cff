/- DERIVED. Steps of the proof. -/
import Derived.Test.YtjdklcjoeanimaaGreatVf27
set_option linter.all false
set_option maxHeartbeats 1000000
set_option maxRecDepth 10000
namespace Go.Proofs.YtjdklcjoeanimaaGreat
attribute [local irreducible] Go.Vc.WP
section
open Go.Vc Tryz
def kCb:FP:=⟨6,[fc [5] [] [10,11,23,25,1023,1025,2023,3023,4023],⟨[22],[0],[],[10,11,25,1025],[],[23,1023,2023,3023,4023]⟩,fc [6] [] [10,11,23,25,1023,1025,2023,3023,4023],⟨[24],[0,1,2],[],[10,11],[],[25,1025]⟩,⟨[],[],[],[11,23,25,1023,1025,2023,3023,4023],[],[10]⟩,⟨[],[],[],[10,23,25,1023,1025,2023,3023,4023],[],[11]⟩,fn 6,fn 7],[10,11,22,23,24,25],[10,11,23,25,1023,1025,2023,3023,4023],[]⟩
attribute [local go_sem] kCb
open Go.Pl
attribute [local go_sem] kB7 aggAg kL0
attribute [local go_sem] aggSe kHa kJk kPy kPz
attribute [local go_sem] kVb k0o
section
attribute [local irreducible] kGl kFr kEc kEl kC2 kEk kEj kHj kJz wfR
def qI2:=kc k9j (kc qOs (kc k9e (kc k9k (kc qOt (kc qOu (kc qMm (kc cStkIz (kc qGj kn))))))))
theorem kVc {p:Prop}(h:p:=by first|omega|exact hag|exact hnum|exact⟨hag,hnum⟩|exact hsz|exact hyn _ ‹_›|exact hnam _ ‹_›|exact⟨(k+1,⟨yN,yC,yk,ys+1⟩),⟨by simp only;omega,hc2,hI2⟩,by simp only;omega,by(first|(and_intros<;>rfl)|simp)⟩):p:=h
set_option maxHeartbeats 6000000 in
theorem cColI:Cq 12 kCol:=by
 refine zp fun d x hx=>?_
 obtain⟨a,s,r,st⟩:=x;obtain⟨hag,hin,hse,hcs,hwf,hnl,hcl,hnr⟩:=hx;simp only at hag hin hse hcs hwf hnl hcl hnr⊢;have hrg:kC2 s.2.2.1:=by unfold kJz at hcs;exact hcs.2
 by_cases hall:kBb a=true∧kAx s=true∧kKk r=true;rotate_left
 ·rw[kU3 hall];generalize hb1:kBb a=b1 at *;generalize hb2:kAx s=b2 at *;generalize hb3:kKk r=b3 at *;obtain⟨⟨I,B,E⟩,D⟩:=a;obtain⟨⟨⟨SI,SB,SE⟩,T,tu,le,sl⟩,⟨p,q,l,stt⟩,⟨cp,R,wr,lo⟩,mo,sp,fi⟩:=s;obtain⟨N,C,kp,sk⟩:=r;simp only[aggAg,kL0]at hnl hcl⊢;refine zg qI2 func12 rfl rfl ntmps12 ?_;intros
  (repeat' ((fail_if_success refine WP.kEw (b:=2) ?_);first|apply zS|apply zB|((first|apply zW| refine zf kCb ?_|refine WP.kBp (.br 0 (.br 1 (.br 2 (.br 3 .done .nil) .nil) (.br 2 (.br 1 (.br 3 .done .nil) .nil) .nil)) (.br 1 (.br 0 (.br 2 (.br 3 .done .nil) .nil) .nil) .nil)) (by decide +kernel) (by kernel_rfl) ?_);simp only[go_sem])|apply jAi|omega|exact hcs|(refine⟨?_,?_⟩<;>simp only<;>omega)|intro _))
  cases b1 with
  |false =>
   (repeat' (first|apply zS|apply zB|((first|apply zW| refine zf kCb ?_|refine WP.kBp (.br 0 (.br 1 (.br 2 (.br 3 .done .nil) .nil) (.br 2 (.br 1 (.br 3 .done .nil) .nil) .nil)) (.br 1 (.br 0 (.br 2 (.br 3 .done .nil) .nil) .nil) .nil)) (by decide +kernel) (by kernel_rfl) ?_);simp only[go_sem,hb1])|apply jAi|omega|exact hag|rfl|exact⟨_,_,rfl,_,_,rfl,rfl⟩|exact if_neg zo|((repeat rw[if_neg zo]);done)|intro _))
  |true =>
  cases b2 with
  |false =>
   (repeat' (first|apply zS|apply zB|((first|apply zW| refine zf kCb ?_|refine WP.kBp (.br 0 (.br 1 (.br 2 (.br 3 .done .nil) .nil) (.br 2 (.br 1 (.br 3 .done .nil) .nil) .nil)) (.br 1 (.br 0 (.br 2 (.br 3 .done .nil) .nil) .nil) .nil)) (by decide +kernel) (by kernel_rfl) ?_);simp only[go_sem,hb1,hb2])|apply jAi|omega|exact hag|exact hse|rfl|exact⟨_,_,rfl,_,_,rfl,rfl⟩|exact if_neg zo|((repeat rw[if_neg zo]);done)|intro _))
  |true =>
  cases b3 with
  |true=>exact absurd ⟨rfl,rfl,rfl⟩ hall
  |false =>
   (repeat' (first|apply zS|apply zB|((first|apply zW| refine zf kCb ?_|refine WP.kBp (.br 0 (.br 1 (.br 2 (.br 3 .done .nil) .nil) (.br 2 (.br 1 (.br 3 .done .nil) .nil) .nil)) (.br 1 (.br 0 (.br 2 (.br 3 .done .nil) .nil) .nil) .nil)) (by decide +kernel) (by kernel_rfl) ?_);simp only[go_sem,hb1,hb2,hb3])|apply jAi|omega|exact hag|exact hse|exact hwf|rfl|exact⟨_,_,rfl,_,_,rfl,rfl⟩|exact if_neg zo|((repeat rw[if_neg zo]);done)|intro _))
 rw[kTh hall];obtain⟨hb1,hb2,hb3⟩:=hall;have hnr:=hnr hb2;have kOt:=kMr hb2;have hI0:=kFp.start hb3;generalize hz:kQg a st r s.2.2.1.2.1=z;have ha0:∃a0:AgX,a0=a:=⟨a,rfl⟩;obtain⟨a0,ha0⟩:=ha0;have hr0:∃r0:Rep,r0=r:=⟨r,rfl⟩;obtain⟨r0,hr0⟩:=hr0;rw[←ha0,←hr0]at hz;rw[←hr0]at hI0;rw[←ha0]at hin;have kK5:=hag;rw[←ha0]at kK5;obtain⟨⟨I,B,E⟩,D⟩:=a;obtain⟨⟨⟨SI,SB,SE⟩,T,tu,le,sl⟩,⟨p,q,l,stt⟩,⟨cp,R,wr,lo⟩,mo,sp,fi⟩:=s;obtain⟨N,C,kp,sk⟩:=r;obtain⟨jN,jC,jk,js⟩:=z;have hta:=kWo kOt;obtain⟨hRl,hRs⟩:=kLw kOt;simp only[aggAg,kL0,colS]at hz hrg kOt hta hRl hnl hcl hnr⊢;refine zg qI2 func12 rfl rfl ntmps12 ?_;intros
 (repeat' ((fail_if_success refine WP.kEw (b:=2) ?_);first|apply zS|apply zB|((first|apply zW| refine zf kCb ?_|refine WP.kBp (.br 0 (.br 1 (.br 2 (.br 3 .done .nil) .nil) (.br 2 (.br 1 (.br 3 .done .nil) .nil) .nil)) (.br 1 (.br 0 (.br 2 (.br 3 .done .nil) .nil) .nil) .nil)) (by decide +kernel) (by kernel_rfl) ?_);simp only[go_sem])|apply jAi|omega|exact hcs|(refine⟨?_,?_⟩<;>simp only<;>omega)|intro _))
 (repeat' ((fail_if_success refine WP.kEw (b:=5) ?_);first|apply zS|apply zB|((first|apply zW| refine zf kCb ?_|refine WP.kBp (.br 0 (.br 1 (.br 2 (.br 3 .done .nil) .nil) (.br 2 (.br 1 (.br 3 .done .nil) .nil) .nil)) (.br 1 (.br 0 (.br 2 (.br 3 .done .nil) .nil) .nil) .nil)) (by decide +kernel) (by kernel_rfl) ?_);simp only[go_sem,hb1,hb2,hb3,hta])|apply jAi|omega|exact hag|exact hse|exact hwf|exact hrg|rfl|exact⟨_,_,rfl,_,_,rfl,rfl⟩|intro _))
 refine zP [1048] [] rfl ?_;simp only[go_sem]
 (repeat' (first|apply zS|apply zB|((first|apply zW| refine zf kCb ?_|refine WP.kBp (.br 0 (.br 1 (.br 2 (.br 3 .done .nil) .nil) (.br 2 (.br 1 (.br 3 .done .nil) .nil) .nil)) (.br 1 (.br 0 (.br 2 (.br 3 .done .nil) .nil) .nil) .nil)) (by decide +kernel) (by kernel_rfl) ?_);simp only[go_sem])|apply jAi|exact zc2|intro _))
 refine zL (fun S:Nat×Rep=>⟨[(3,.v (.bool st)),(4,.ptr 4 0 0 0),(8,.ptr 8 0 0 0),(9,.ptr 9 0 0 0),(10,.ptr 10 0 0 0),(11,.ptr 11 0 0 0),(53,.sl 1 (R.map encS)),(54,vi R.length),(55,vi S.1)],[(4,.box 70 [.sl 2 (I.map encImage),.sl 1 (B.map encI),.sl 1 (E.map encI),.sl 5 (D.map encDebug)]),(8,.box 58 kPy),(9,.box 65 kPz),
   (10,.box 58 [.own 23,.own 1023,.own 2023,.own 3023,vi tu,vi le,vi sl,vi p,vi q,vi l,vi stt,vi cp,.own 48,vi wr,vi lo,vi mo,vi sp,vi fi]),
   (23,.dp 144 2 (SI.map encImage)),(1023,.sl 3 1 (SB.map encI)),(2023,.sl 3 1 (SE.map encI)),(3023,.dp 206 7 (T.map encMach)),(48,.sl 9 1 []),
   (11,.box 65 [.own 25,.own 1025,vi S.2.kept,vi S.2.skip]),(25,.sl 231 3 (S.2.N.map kAc)),(1025,.sl 3 1 (S.2.C.map encI))]⟩)
  (fun S=>S.1≤R.length∧kQg a0 st S.2 (R.drop S.1)=⟨jN,jC,jk,js⟩∧kFp r0.N.length S.1 S.2) (fun S=>R.length-S.1) (0,r0) ⟨zs,by rw[jWe];exact hz,hI0⟩ ?_ ?_
 ·subst hr0
  (simp only[go_sem]<;>(first|(and_intros<;>rfl)|simp))
 rintro⟨k,⟨yN,yC,yk,ys⟩⟩ ⟨hk,hc,hI⟩;simp only at hk hc hI⊢;by_cases hlt:k<R.length
 ·have hli:(k:Int)<R.length:=zo;have hr:=kAa encS R k hlt;rw[wL4 hlt]at hc;have hsz:=hRs _ (jCn hlt);generalize R[k]=x at *;have hc2:kQg a0 st (kLg a0 st ⟨yN,yC,yk,ys⟩ x) (R.drop (k+1))=⟨jN,jC,jk,js⟩:=hc;have hI2:=hI.step (st:=st) (s:=x) kK5 hin;rw[k8r]at hc2 hI2;have hlen:=k4i kK5 hin (dsV x) st;have hnam:=k5f kK5 (dsV x) st;have hnum:=qCg x;have hyn:=kNd hI.ok;have hyl:=hI.len;have hycl:=hI.clen;have hyk:=hI.kp;have hys:=hI.sk;have hr0l:r0.N.length+41943080*R.length≤4398046511104:=by subst hr0;exact hnr
  subst ha0;generalize hds:dsV x=ds at *;obtain⟨t,pc,spv,fp,w⟩:=ds;generalize hd:(kDs x).isSome=d1 at *;generalize hF:stL ((I,B,E),D) (t,⟨pc,spv,fp,w⟩) st=F at *;generalize hFs:(kCf ((I,B,E),D) (t,⟨pc,spv,fp,w⟩) st).isSome=d2 at *;simp only at hc2 hI2 hyn hyl hycl hyk hys hnum;generalize hA:kAr yN yC F 1=A at *;obtain⟨⟨AN,AC⟩,d3⟩:=A;simp only at hc2 hI2;cases d1
  case false =>
   simp only[jK2,jIv,if_false]at hc2 hI2
   (repeat' (first|apply zS|apply zB|((first|apply zW| refine zf kCb ?_|refine WP.kBp (.br 0 (.br 1 (.br 2 (.br 3 .done .nil) .nil) (.br 2 (.br 1 (.br 3 .done .nil) .nil) .nil)) (.br 1 (.br 0 (.br 2 (.br 3 .done .nil) .nil) .nil) .nil)) (by decide +kernel) (by kernel_rfl) ?_);simp only[go_sem,hli,hr,encS,hd,hds,hF,hFs,hA])|apply jAi|exact kVc|intro _))
  cases d2
  case false =>
   simp only[jPw,jK2,jIv,if_false]at hc2 hI2
   (repeat' (first|apply zS|apply zB|((first|apply zW| refine zf kCb ?_|refine WP.kBp (.br 0 (.br 1 (.br 2 (.br 3 .done .nil) .nil) (.br 2 (.br 1 (.br 3 .done .nil) .nil) .nil)) (.br 1 (.br 0 (.br 2 (.br 3 .done .nil) .nil) .nil) .nil)) (by decide +kernel) (by kernel_rfl) ?_);simp only[go_sem,hli,hr,encS,hd,hds,hF,hFs,hA])|apply jAi|exact kVc|intro _))
  cases d3
  case false =>
   simp only[jPw,jIv,if_false]at hc2 hI2
   (repeat' (first|apply zS|apply zB|((first|apply zW| refine zf kCb ?_|refine WP.kBp (.br 0 (.br 1 (.br 2 (.br 3 .done .nil) .nil) (.br 2 (.br 1 (.br 3 .done .nil) .nil) .nil)) (.br 1 (.br 0 (.br 2 (.br 3 .done .nil) .nil) .nil) .nil)) (by decide +kernel) (by kernel_rfl) ?_);simp only[go_sem,hli,hr,encS,hd,hds,hF,hFs,hA])|apply jAi|exact kVc|intro _))
  simp only[jPw,if_true]at hc2 hI2
  (repeat' ((fail_if_success refine WP.kEw (b:=19) ?_);first|apply zS|apply zB|((first|apply zW| refine zf kCb ?_|refine WP.kBp (.br 0 (.br 1 (.br 2 (.br 3 .done .nil) .nil) (.br 2 (.br 1 (.br 3 .done .nil) .nil) .nil)) (.br 1 (.br 0 (.br 2 (.br 3 .done .nil) .nil) .nil) .nil)) (by decide +kernel) (by kernel_rfl) ?_);simp only[go_sem,hli,hr,encS,hd,hds,hF,hFs,hA])|apply jAi|omega|exact hag|exact hnum|exact⟨hag,hnum⟩|exact hsz|exact hyn _ ‹_›|exact hnam _ ‹_›|intro _))
  refine zP [] [(76,25),(1076,1025)] rfl ?_;simp only[go_sem]
  (repeat' (first|apply zS|apply zB|((first|apply zW| refine zf kCb ?_|refine WP.kBp (.br 0 (.br 1 (.br 2 (.br 3 .done .nil) .nil) (.br 2 (.br 1 (.br 3 .done .nil) .nil) .nil)) (.br 1 (.br 0 (.br 2 (.br 3 .done .nil) .nil) .nil) .nil)) (by decide +kernel) (by kernel_rfl) ?_);simp only[go_sem])|apply jAi|omega|exact⟨(k+1,⟨AN,AC,yk+1,ys⟩),⟨by simp only;omega,hc2,hI2⟩,by simp only;omega,zh⟩|intro _))
 ·have hli:¬(k:Int)<R.length:=zo;rw[yCu zo]at hc;have hc2:(⟨yN,yC,yk,ys⟩:Rep)=⟨jN,jC,jk,js⟩:=hc;obtain⟨rfl,rfl,rfl,rfl⟩:=Rep.mk.inj hc2
  (repeat' (first|apply zS|apply zB|((first|apply zW| refine zf kCb ?_|refine WP.kBp (.br 0 (.br 1 (.br 2 (.br 3 .done .nil) .nil) (.br 2 (.br 1 (.br 3 .done .nil) .nil) .nil)) (.br 1 (.br 0 (.br 2 (.br 3 .done .nil) .nil) .nil) .nil)) (by decide +kernel) (by kernel_rfl) ?_);simp only[go_sem,hli])|apply jAi|omega|rfl|exact⟨_,_,rfl,_,_,rfl,rfl⟩|exact if_neg zo|((repeat rw[if_neg zo]);done)|intro _))
end
end
section
open Go.Vc
theorem qIc {d:Debug}{l:Int}(h0:0≤l) (h1:l≤1048576) (h:0≤kNe d l):d.syms.length≤1048576∧d.rules.length≤1048576∧d.rows.length≤1048576∧d.kIv.length≤1048576∧∀y∈d.kIv,y.name.size≤1048576:=by
 obtain⟨a1,a2,a3⟩:=kFj (kLx _) h0 h;obtain⟨b1,b2,b3⟩:=kFj (kFz _) a1 a3;obtain⟨c1,c2,c3⟩:=kFj (kFz _) b1 b3;obtain⟨d1,d2⟩:=k6x c3;have e1:=(kVz a1).1;have e2:=kLy b1;have e3:=kLy c1;exact⟨zo,zo,zo,zo,fun y hy=>by have:=d2 y hy;omega⟩
theorem k8s {x:SpX}{l:Int}(h0:0≤l) (h1:l≤1048576) (h:0≤kL3 x l):kEk x∧kO2 x:=by
 obtain⟨I,B,E⟩:=x;obtain⟨hI,hIl,hBE⟩:=kFj (kPm _) h0 h;obtain⟨hB,hBl,hE⟩:=kFj (kFz _) hI hBE;obtain⟨i1,i2⟩:=kWp h1 hI;have b1:=kLy hB;have e1:=kLy hE;simp only at i1 i2 b1 e1 hIl hBl;refine⟨⟨⟨?_,fun i hi=>⟨?_,?_,fun y hy=>?_⟩⟩,?_,?_⟩,⟨⟨?_,fun i hi=>?_⟩,?_,?_⟩⟩
 all_goals try simp only
 ·omega
 ·have:=(i2 i hi).1;omega
 ·have:=(i2 i hi).2.1;omega
 ·have:=(i2 i hi).2.2 y hy;omega
 ·omega
 ·omega
 ·omega
 ·have:=(i2 i hi).2.1;omega
 ·omega
 ·omega
theorem k8t {x:AgX}(h:0≤kQh x 1048576):(kEj x∧kNc x∧k0e x)∧1≤eAg 1 x∧eAg 1 x≤35000000000000:=by
 obtain⟨hS,hSl,hD⟩:=kFj (kLh _) zo h;obtain⟨p1,p2⟩:=k8s zo (Int.le_refl _) hS;obtain⟨d1,d2⟩:=kSr (by simp only[jCr];rintro _ ⟨x,_,rfl⟩;exact k0f x) hD
 rw[jH5]at d1
 have d3:∀d∈x.2,d.syms.length≤1048576∧d.rules.length≤1048576∧d.rows.length≤1048576∧d.kIv.length≤1048576∧∀y∈d.kIv,y.name.size≤1048576:=fun d hd=>by
  obtain⟨q,q0,q1,q2⟩:=d2 _ (jCr.2 ⟨d,hd,rfl⟩);exact qIc q0 zo q2
 have hsh:k0e x:=⟨p2,zo,fun d hd=>by obtain⟨a,b,c,e,_⟩:=d3 d hd;exact⟨zo,zo,zo,zo⟩⟩
 refine⟨⟨⟨p1,fun d hd=>?_⟩,fun d hd=>(d3 d hd).2.2.2.1,hsh⟩,(eAg_le hsh).1,?_⟩
 ·obtain⟨a,b,c,e,f⟩:=d3 d hd;exact⟨zo,zo,zo,zo,fun y hy=>by have:=f y hy;omega⟩
 ·have h1:=(kT7 p2 1).2;have h2:kAy kDe x.2≤15728641*1048576:=jZ9 (kYt x.2 15728641 fun d hd=>by obtain⟨a,b,c,e,_⟩:=d3 d hd;unfold kDe;omega) (by rw[Nat.mul_comm];exact Nat.mul_le_mul_left _ zo)
  unfold eAg;omega
theorem kWq {x:SeX}{z:Int}(h0:0≤z) (h1:z≤1048576) (h:0≤kQi x z):kEl x∧kEc x:=by
 obtain⟨⟨⟨I,B,E⟩,T,tu,le,sl⟩,⟨p,q,l,st⟩,⟨cp,R,wr,lo⟩,mo,sp,fi⟩:=x;obtain⟨hP,hPl,hR⟩:=kFj (kQ2 _) h0 h;obtain⟨hS,hSl,hT⟩:=kFj (kLh _) h0 hP;obtain⟨s1,s2⟩:=k8s h0 h1 hS;obtain⟨t1,t2⟩:=kPn zo hT;obtain⟨r1,r2⟩:=k5i zo hR;simp only at t1 t2 r1 r2;refine⟨⟨⟨s1,?_,fun m hm=>?_⟩,?_,k8u r1 r2⟩,⟨s2,t1,fun m hm=>⟨?_,?_⟩⟩,?_⟩
 all_goals try simp only
 ·omega
 ·have:=(t2 m hm).1;omega
 ·omega
 ·have:=(t2 m hm).1;omega
 ·have:=(t2 m hm).2;omega
 ·omega
theorem qCi {x:SeX}(h:kEc x) (k:Int):k≤eSe k x∧eSe k x≤k+35184378380288:=by
 have:=k8v h.1 k;have:=h.2;unfold eSe eRg;omega
theorem eRp_le {x:Rep}(h:kRi x) (k:Int):k≤eRp k x:=by unfold eRp;omega
end
end Go.Proofs.YtjdklcjoeanimaaGreat
