/- DERIVED. Steps of the proof. -/
import Derived.Test.YtjdklcjoeanimaaGreatVf27
set_option linter.all false
set_option maxHeartbeats 1000000
set_option maxRecDepth 10000
namespace Go.Proofs.YtjdklcjoeanimaaGreat
open Go.Vc Tryz
attribute [local irreducible] Go.Vc.WP
open Go.Pl
attribute [local go_sem] kB7 aggAg kL0
attribute [local go_sem] aggSe kHa kJk kPy kPz
attribute [local go_sem] kVb k0o
section
attribute [local irreducible] kGl kFr kEc kEl kC2 kEk kEj kHj kJz wfR
def qI3:=kc k2q (kc qOv (kc k9g (kc k2r (kc qOw (kc qOx (kc qMn (kc cStkSz (kc qGk kn))))))))
theorem kVd {p:Prop}(h:p:=by first|omega|exact hag|exact hnum|exact⟨hag,hnum⟩|exact hsz|exact hyn _ ‹_›|exact hnam _ ‹_›|exact⟨(k+1,⟨yN,yC,yk,ys+1⟩),⟨by simp only;omega,hc2,hI2⟩,by simp only;omega,by(first|(and_intros<;>rfl)|simp)⟩):p:=h
set_option maxHeartbeats 6000000 in
theorem cColS:Cq 8 kCol:=by
 refine zp fun d x hx=>?_
 obtain⟨a,s,r,st⟩:=x;obtain⟨hag,hin,hse,hcs,hwf,hnl,hcl,hnr⟩:=hx;simp only at hag hin hse hcs hwf hnl hcl hnr⊢;have hrg:kC2 s.2.2.1:=by unfold kJz at hcs;exact hcs.2
 by_cases hall:kBb a=true∧kAx s=true∧kKk r=true;rotate_left
 ·rw[kU3 hall];generalize hb1:kBb a=b1 at *;generalize hb2:kAx s=b2 at *;generalize hb3:kKk r=b3 at *;obtain⟨⟨I,B,E⟩,D⟩:=a;obtain⟨⟨⟨SI,SB,SE⟩,T,tu,le,sl⟩,⟨p,q,l,stt⟩,⟨cp,R,wr,lo⟩,mo,sp,fi⟩:=s;obtain⟨N,C,kp,sk⟩:=r;simp only[aggAg,kL0]at hnl hcl⊢;refine zg qI3 func8 rfl rfl ntmps8 ?_;intros
  (repeat' ((fail_if_success refine WP.kEw (b:=3) ?_);first|apply zS|apply zB|((first|apply zW| refine WP.kBp (.br 0 (.br 1 (.br 2 (.br 3 .done .nil) .nil) (.br 2 (.br 1 (.br 3 .done .nil) .nil) .nil)) (.br 1 (.br 0 (.br 2 (.br 3 .done .nil) .nil) .nil) .nil)) (by decide +kernel) (by kernel_rfl) ?_);simp only[go_sem])|apply jAi|omega|exact hcs|(refine⟨?_,?_⟩<;>simp only<;>omega)|intro _))
  cases b1 with
  |false =>
   (repeat' (first|apply zS|apply zB|((first|apply zW| refine WP.kBp (.br 0 (.br 1 (.br 2 (.br 3 .done .nil) .nil) (.br 2 (.br 1 (.br 3 .done .nil) .nil) .nil)) (.br 1 (.br 0 (.br 2 (.br 3 .done .nil) .nil) .nil) .nil)) (by decide +kernel) (by kernel_rfl) ?_);simp only[go_sem,hb1])|apply jAi|omega|exact hag|rfl|exact⟨_,_,rfl,_,_,rfl,rfl⟩|exact if_neg zo|((repeat rw[if_neg zo]);done)|intro _))
  |true =>
  cases b2 with
  |false =>
   (repeat' (first|apply zS|apply zB|((first|apply zW| refine WP.kBp (.br 0 (.br 1 (.br 2 (.br 3 .done .nil) .nil) (.br 2 (.br 1 (.br 3 .done .nil) .nil) .nil)) (.br 1 (.br 0 (.br 2 (.br 3 .done .nil) .nil) .nil) .nil)) (by decide +kernel) (by kernel_rfl) ?_);simp only[go_sem,hb1,hb2])|apply jAi|omega|exact hag|exact hse|rfl|exact⟨_,_,rfl,_,_,rfl,rfl⟩|exact if_neg zo|((repeat rw[if_neg zo]);done)|intro _))
  |true =>
  cases b3 with
  |true=>exact absurd ⟨rfl,rfl,rfl⟩ hall
  |false =>
   (repeat' (first|apply zS|apply zB|((first|apply zW| refine WP.kBp (.br 0 (.br 1 (.br 2 (.br 3 .done .nil) .nil) (.br 2 (.br 1 (.br 3 .done .nil) .nil) .nil)) (.br 1 (.br 0 (.br 2 (.br 3 .done .nil) .nil) .nil) .nil)) (by decide +kernel) (by kernel_rfl) ?_);simp only[go_sem,hb1,hb2,hb3])|apply jAi|omega|exact hag|exact hse|exact hwf|rfl|exact⟨_,_,rfl,_,_,rfl,rfl⟩|exact if_neg zo|((repeat rw[if_neg zo]);done)|intro _))
 rw[kTh hall];obtain⟨hb1,hb2,hb3⟩:=hall;have hnr:=hnr hb2;have kOt:=kMr hb2;have hI0:=kFp.start hb3;generalize hz:kQg a st r s.2.2.1.2.1=z;have ha0:∃a0:AgX,a0=a:=⟨a,rfl⟩;obtain⟨a0,ha0⟩:=ha0;have hr0:∃r0:Rep,r0=r:=⟨r,rfl⟩;obtain⟨r0,hr0⟩:=hr0;rw[←ha0,←hr0]at hz;rw[←hr0]at hI0;rw[←ha0]at hin;have kK5:=hag;rw[←ha0]at kK5;obtain⟨⟨I,B,E⟩,D⟩:=a;obtain⟨⟨⟨SI,SB,SE⟩,T,tu,le,sl⟩,⟨p,q,l,stt⟩,⟨cp,R,wr,lo⟩,mo,sp,fi⟩:=s;obtain⟨N,C,kp,sk⟩:=r;obtain⟨jN,jC,jk,js⟩:=z;have hta:=kWo kOt;obtain⟨hRl,hRs⟩:=kLw kOt;simp only[aggAg,kL0,colS]at hz hrg kOt hta hRl hnl hcl hnr⊢;refine zg qI3 func8 rfl rfl ntmps8 ?_;intros
 (repeat' ((fail_if_success refine WP.kEw (b:=3) ?_);first|apply zS|apply zB|((first|apply zW| refine WP.kBp (.br 0 (.br 1 (.br 2 (.br 3 .done .nil) .nil) (.br 2 (.br 1 (.br 3 .done .nil) .nil) .nil)) (.br 1 (.br 0 (.br 2 (.br 3 .done .nil) .nil) .nil) .nil)) (by decide +kernel) (by kernel_rfl) ?_);simp only[go_sem])|apply jAi|omega|exact hcs|(refine⟨?_,?_⟩<;>simp only<;>omega)|intro _))
 (repeat' ((fail_if_success refine WP.kEw (b:=6) ?_);first|apply zS|apply zB|((first|apply zW| refine WP.kBp (.br 0 (.br 1 (.br 2 (.br 3 .done .nil) .nil) (.br 2 (.br 1 (.br 3 .done .nil) .nil) .nil)) (.br 1 (.br 0 (.br 2 (.br 3 .done .nil) .nil) .nil) .nil)) (by decide +kernel) (by kernel_rfl) ?_);simp only[go_sem,hb1,hb2,hb3,hta])|apply jAi|omega|exact hag|exact hse|exact hwf|exact hrg|rfl|exact⟨_,_,rfl,_,_,rfl,rfl⟩|intro _))
 refine zP [1047] [] rfl ?_;simp only[go_sem]
 (repeat' (first|apply zS|apply zB|((first|apply zW| refine WP.kBp (.br 0 (.br 1 (.br 2 (.br 3 .done .nil) .nil) (.br 2 (.br 1 (.br 3 .done .nil) .nil) .nil)) (.br 1 (.br 0 (.br 2 (.br 3 .done .nil) .nil) .nil) .nil)) (by decide +kernel) (by kernel_rfl) ?_);simp only[go_sem])|apply jAi|exact zc2|intro _))
 refine zL (fun S:Nat×Rep=>⟨[(3,.v (.bool st)),(4,.ptr 4 0 0 0),(8,.ptr 8 0 0 0),(9,.ptr 9 0 0 0),(10,.ptr 10 0 0 0),(11,.ptr 11 0 0 0),(13,.sl 1 (R.map encS)),(14,vi S.1)],[(4,.box 70 [.sl 2 (I.map encImage),.sl 1 (B.map encI),.sl 1 (E.map encI),.sl 5 (D.map encDebug)]),(8,.box 58 kPy),(9,.box 65 kPz),
   (10,.box 58 [.own 22,.own 1022,.own 2022,.own 3022,vi tu,vi le,vi sl,vi p,vi q,vi l,vi stt,vi cp,.own 47,vi wr,vi lo,vi mo,vi sp,vi fi]),
   (22,.dp 144 2 (SI.map encImage)),(1022,.sl 3 1 (SB.map encI)),(2022,.sl 3 1 (SE.map encI)),(3022,.dp 206 7 (T.map encMach)),(47,.sl 9 1 []),
   (11,.box 65 [.own 24,.own 1024,vi S.2.kept,vi S.2.skip]),(24,.sl 231 3 (S.2.N.map kAc)),(1024,.sl 3 1 (S.2.C.map encI))]⟩)
  (fun S=>S.1≤R.length∧kQg a0 st S.2 (R.drop S.1)=⟨jN,jC,jk,js⟩∧kFp r0.N.length S.1 S.2) (fun S=>R.length-S.1) (0,r0) ⟨zs,by rw[jWe];exact hz,hI0⟩ ?_ ?_
 ·subst hr0
  (simp only[go_sem]<;>(first|(and_intros<;>rfl)|simp))
 rintro⟨k,⟨yN,yC,yk,ys⟩⟩ ⟨hk,hc,hI⟩;simp only at hk hc hI⊢;by_cases hlt:k<R.length
 ·have hli:(k:Int)<R.length:=zo;have hr:=kAa encS R k hlt;rw[wL4 hlt]at hc;have hsz:=hRs _ (jCn hlt);generalize R[k]=x at *;have hc2:kQg a0 st (kLg a0 st ⟨yN,yC,yk,ys⟩ x) (R.drop (k+1))=⟨jN,jC,jk,js⟩:=hc;have hI2:=hI.step (st:=st) (s:=x) kK5 hin;rw[k8r]at hc2 hI2;have hlen:=k4i kK5 hin (dsV x) st;have hnam:=k5f kK5 (dsV x) st;have hnum:=qCg x;have hyn:=kNd hI.ok;have hyl:=hI.len;have hycl:=hI.clen;have hyk:=hI.kp;have hys:=hI.sk;have hr0l:r0.N.length+41943080*R.length≤4398046511104:=by subst hr0;exact hnr
  subst ha0;generalize hds:dsV x=ds at *;obtain⟨t,pc,spv,fp,w⟩:=ds;generalize hd:(kDs x).isSome=d1 at *;generalize hF:stL ((I,B,E),D) (t,⟨pc,spv,fp,w⟩) st=F at *;generalize hFs:(kCf ((I,B,E),D) (t,⟨pc,spv,fp,w⟩) st).isSome=d2 at *;simp only at hc2 hI2 hyn hyl hycl hyk hys hnum;generalize hA:kAr yN yC F 1=A at *;obtain⟨⟨AN,AC⟩,d3⟩:=A;simp only at hc2 hI2;cases d1
  case false =>
   simp only[jK2,jIv,if_false]at hc2 hI2
   (repeat' (first|apply zS|apply zB|((first|apply zW| refine WP.kBp (.br 0 (.br 1 (.br 2 (.br 3 .done .nil) .nil) (.br 2 (.br 1 (.br 3 .done .nil) .nil) .nil)) (.br 1 (.br 0 (.br 2 (.br 3 .done .nil) .nil) .nil) .nil)) (by decide +kernel) (by kernel_rfl) ?_);simp only[go_sem,hli,hr,encS,hd,hds,hF,hFs,hA])|apply jAi|exact kVd|intro _))
  cases d2
  case false =>
   simp only[jPw,jK2,jIv,if_false]at hc2 hI2
   (repeat' (first|apply zS|apply zB|((first|apply zW| refine WP.kBp (.br 0 (.br 1 (.br 2 (.br 3 .done .nil) .nil) (.br 2 (.br 1 (.br 3 .done .nil) .nil) .nil)) (.br 1 (.br 0 (.br 2 (.br 3 .done .nil) .nil) .nil) .nil)) (by decide +kernel) (by kernel_rfl) ?_);simp only[go_sem,hli,hr,encS,hd,hds,hF,hFs,hA])|apply jAi|exact kVd|intro _))
  cases d3
  case false =>
   simp only[jPw,jIv,if_false]at hc2 hI2
   (repeat' (first|apply zS|apply zB|((first|apply zW| refine WP.kBp (.br 0 (.br 1 (.br 2 (.br 3 .done .nil) .nil) (.br 2 (.br 1 (.br 3 .done .nil) .nil) .nil)) (.br 1 (.br 0 (.br 2 (.br 3 .done .nil) .nil) .nil) .nil)) (by decide +kernel) (by kernel_rfl) ?_);simp only[go_sem,hli,hr,encS,hd,hds,hF,hFs,hA])|apply jAi|exact kVd|intro _))
  simp only[jPw,if_true]at hc2 hI2
  (repeat' ((fail_if_success refine WP.kEw (b:=9) ?_);first|apply zS|apply zB|((first|apply zW| refine WP.kBp (.br 0 (.br 1 (.br 2 (.br 3 .done .nil) .nil) (.br 2 (.br 1 (.br 3 .done .nil) .nil) .nil)) (.br 1 (.br 0 (.br 2 (.br 3 .done .nil) .nil) .nil) .nil)) (by decide +kernel) (by kernel_rfl) ?_);simp only[go_sem,hli,hr,encS,hd,hds,hF,hFs,hA])|apply jAi|omega|exact hag|exact hnum|exact⟨hag,hnum⟩|exact hsz|exact hyn _ ‹_›|exact hnam _ ‹_›|intro _))
  refine zP [] [(77,24),(1077,1024)] rfl ?_;simp only[go_sem]
  (repeat' (first|apply zS|apply zB|((first|apply zW| refine WP.kBp (.br 0 (.br 1 (.br 2 (.br 3 .done .nil) .nil) (.br 2 (.br 1 (.br 3 .done .nil) .nil) .nil)) (.br 1 (.br 0 (.br 2 (.br 3 .done .nil) .nil) .nil) .nil)) (by decide +kernel) (by kernel_rfl) ?_);simp only[go_sem])|apply jAi|omega|exact⟨(k+1,⟨AN,AC,yk+1,ys⟩),⟨by simp only;omega,hc2,hI2⟩,by simp only;omega,zh⟩|intro _))
 ·have hli:¬(k:Int)<R.length:=zo;rw[yCu zo]at hc;have hc2:(⟨yN,yC,yk,ys⟩:Rep)=⟨jN,jC,jk,js⟩:=hc;obtain⟨rfl,rfl,rfl,rfl⟩:=Rep.mk.inj hc2
  (repeat' (first|apply zS|apply zB|((first|apply zW| refine WP.kBp (.br 0 (.br 1 (.br 2 (.br 3 .done .nil) .nil) (.br 2 (.br 1 (.br 3 .done .nil) .nil) .nil)) (.br 1 (.br 0 (.br 2 (.br 3 .done .nil) .nil) .nil) .nil)) (by decide +kernel) (by kernel_rfl) ?_);simp only[go_sem,hli])|apply jAi|omega|rfl|exact⟨_,_,rfl,_,_,rfl,rfl⟩|exact if_neg zo|((repeat rw[if_neg zo]);done)|intro _))
end
end Go.Proofs.YtjdklcjoeanimaaGreat
