/-
  DERIVED. Several texts of ours in one: VtColI.
-/
import Derived.Test.YtjdklcjoeanimaaGreatVd22
import Derived.Test.YtjdklcjoeanimaaGreatVd31
import Derived.Test.YtjdklcjoeanimaaGreatVd34
set_option linter.unusedSimpArgs false
set_option linter.unusedVariables false
set_option maxHeartbeats 1000000
set_option maxRecDepth 10000
namespace Go.Proofs.YtjdklcjoeanimaaGreat
open Go.Vc
attribute [local irreducible] Go.Vc.WP
attribute [local go_sem] kAd kAe
def kBk:List Go.Vc.Fp:=[⟨[5],[],[],[10,11,23,25,1023,1025,2023,3023,4023],[],[]⟩,⟨[22],[0],[],[10,11,25,1025],[],[23,1023,2023,3023,4023]⟩,⟨[6],[],[],[10,11,23,25,1023,1025,2023,3023,4023],[],[]⟩,⟨[24],[0,1,2],[],[10,11],[],[25,1025]⟩,⟨[],[],[],[11,23,25,1023,1025,2023,3023,4023],[],[10]⟩,⟨[],[],[],[10,23,25,1023,1025,2023,3023,4023],[],[11]⟩,⟨[],[0,1,2,3,4,5],[],[],[],[]⟩,⟨[],[0,1,2,3,4,5,6],[],[],[],[]⟩]
attribute [local go_sem] kBk
open Go.Pl
attribute [local go_sem] kAf kAg spA kBe kBc kBq kCn pcA rgA seA kAj tmA kFa vwA smA kFt kA4 kBu kDd agA aggAg kCg kCd kBt stkA kCv kCw prA repA encRep kOo kKe St.runO St.kIm St.fzAt St.fzS addL behind
attribute [local go_sem] aggSe kNo obS2 kV4 kV5
attribute [local go_sem] kX2 kX3 k0f obRp
section
attribute [local irreducible] kV6 shPc shSe kPy kGy kDx kFj numV kP4 wfR
noncomputable def kX4:CL:=[(43,kSv),(44,kOp),(45,kK6),(46,kP5),(47,kMv),(48,kOq),(49,kMa),(50,kSw),(51,kI8)]
noncomputable def kV7:=mkX kX4 (COk.cons cCpSeI (COk.cons qL0 (COk.cons qEz (COk.cons cSeOkI (COk.cons qL1 (COk.cons qL2 (COk.cons qHw (COk.cons cStkIz (COk.cons k9i (COk.nil _))))))))))
theorem qHx:kV7.tys=tys:=rfl
theorem qHy:kV7.C=kX4:=rfl
attribute [local go_sem] qHx qHy kX4 kSv kOp kK6 kP5 kMv kOq kMa kSw kI8
set_option maxHeartbeats 6000000 in
theorem cColI:Cn Tryz.prog 12 kCol:=by
 refine Cn.pur Tryz.func12 (by kernel_rfl) rfl fun d x hx=>?_
 obtain⟨a,s,r,st⟩:=x;obtain⟨hag,hin,hse,hcs,hwf,hnl,hcl,hnr⟩:=hx;simp only at hag hin hse hcs hwf hnl hcl hnr⊢;have hrg:kGy s.2.2.1:=by unfold kP4 at hcs;exact hcs.2
 by_cases hall:kBn a=true∧kE7 s=true∧kIb r=true;rotate_left
 ·rw[kPx hall];generalize hb1:kBn a=b1 at *;generalize hb2:kE7 s=b2 at *;generalize hb3:kIb r=b3 at *;obtain⟨⟨I,B,E⟩,D⟩:=a;obtain⟨⟨⟨SI,SB,SE⟩,T,tu,le,sl⟩,⟨p,q,l,stt⟩,⟨cp,R,wr,lo⟩,mo,sp,fi⟩:=s;obtain⟨N,C,kp,sk⟩:=r;simp only[aggAg,encRep]at hnl hcl⊢;refine Holds.go (c:=kV7) Tryz.func12 rfl Tryz.results12 Tryz.ntmps12 (by omega) (by simp) rfl ?_
  intro X0 w0
  (repeat' ((fail_if_success refine WP.kIl (b:=2) ?_);first|apply zS|apply zB|((first|apply zW| refine zF 6 kBk [10,11,22,23,24,25] [10,11,23,25,1023,1025,2023,3023,4023] [] (by decide +kernel) (by kernel_rfl) (by kernel_rfl) (by kernel_rfl) ?_|refine WP.allO (.br 0 (.br 1 (.br 2 (.br 3 .done .nil) .nil) (.br 2 (.br 1 (.br 3 .done .nil) .nil) .nil)) (.br 1 (.br 0 (.br 2 (.br 3 .done .nil) .nil) .nil) .nil)) (by decide +kernel) (by kernel_rfl) ?_);simp only[go_sem])|apply And.intro|intro _))
  all_goals first|omega|exact hcs|(refine⟨?_,?_⟩<;>simp only<;>omega)|skip
  cases b1 with
  |false =>
   (repeat' (first|apply zS|apply zB|((first|apply zW| refine zF 6 kBk [10,11,22,23,24,25] [10,11,23,25,1023,1025,2023,3023,4023] [] (by decide +kernel) (by kernel_rfl) (by kernel_rfl) (by kernel_rfl) ?_|refine WP.allO (.br 0 (.br 1 (.br 2 (.br 3 .done .nil) .nil) (.br 2 (.br 1 (.br 3 .done .nil) .nil) .nil)) (.br 1 (.br 0 (.br 2 (.br 3 .done .nil) .nil) .nil) .nil)) (by decide +kernel) (by kernel_rfl) ?_);simp only[go_sem,hb1])|apply And.intro|intro _))
   all_goals first|omega|exact hag|rfl|exact⟨_,_,rfl,_,_,rfl,rfl⟩|exact if_neg (by omega)|((repeat rw[if_neg (by omega)]);done)|skip
  |true =>
  cases b2 with
  |false =>
   (repeat' (first|apply zS|apply zB|((first|apply zW| refine zF 6 kBk [10,11,22,23,24,25] [10,11,23,25,1023,1025,2023,3023,4023] [] (by decide +kernel) (by kernel_rfl) (by kernel_rfl) (by kernel_rfl) ?_|refine WP.allO (.br 0 (.br 1 (.br 2 (.br 3 .done .nil) .nil) (.br 2 (.br 1 (.br 3 .done .nil) .nil) .nil)) (.br 1 (.br 0 (.br 2 (.br 3 .done .nil) .nil) .nil) .nil)) (by decide +kernel) (by kernel_rfl) ?_);simp only[go_sem,hb1,hb2])|apply And.intro|intro _))
   all_goals first|omega|exact hag|exact hse|rfl|exact⟨_,_,rfl,_,_,rfl,rfl⟩|exact if_neg (by omega)|((repeat rw[if_neg (by omega)]);done)|skip
  |true =>
  cases b3 with
  |true=>exact absurd ⟨rfl,rfl,rfl⟩ hall
  |false =>
   (repeat' (first|apply zS|apply zB|((first|apply zW| refine zF 6 kBk [10,11,22,23,24,25] [10,11,23,25,1023,1025,2023,3023,4023] [] (by decide +kernel) (by kernel_rfl) (by kernel_rfl) (by kernel_rfl) ?_|refine WP.allO (.br 0 (.br 1 (.br 2 (.br 3 .done .nil) .nil) (.br 2 (.br 1 (.br 3 .done .nil) .nil) .nil)) (.br 1 (.br 0 (.br 2 (.br 3 .done .nil) .nil) .nil) .nil)) (by decide +kernel) (by kernel_rfl) ?_);simp only[go_sem,hb1,hb2,hb3])|apply And.intro|intro _))
   all_goals first|omega|exact hag|exact hse|exact hwf|rfl|exact⟨_,_,rfl,_,_,rfl,rfl⟩|exact if_neg (by omega)|((repeat rw[if_neg (by omega)]);done)|skip
 rw[kNy hall];obtain⟨hb1,hb2,hb3⟩:=hall;have hnr:=hnr hb2;have hrok:=kLb hb2;have hI0:=RepI.start hb3;generalize hz:kK2 a st r s.2.2.1.2.1=z;have ha0:∃a0:AgX,a0=a:=⟨a,rfl⟩;obtain⟨a0,ha0⟩:=ha0;have hr0:∃r0:Rep,r0=r:=⟨r,rfl⟩;obtain⟨r0,hr0⟩:=hr0;rw[←ha0,←hr0]at hz;rw[←hr0]at hI0;rw[←ha0]at hin;have hag0:=hag;rw[←ha0]at hag0;obtain⟨⟨I,B,E⟩,D⟩:=a;obtain⟨⟨⟨SI,SB,SE⟩,T,tu,le,sl⟩,⟨p,q,l,stt⟩,⟨cp,R,wr,lo⟩,mo,sp,fi⟩:=s;obtain⟨N,C,kp,sk⟩:=r;obtain⟨jN,jC,jk,js⟩:=z;have hta:=kRk hrok;obtain⟨hRl,hRs⟩:=kK3 hrok;simp only[aggAg,encRep,colS]at hz hrg hrok hta hRl hnl hcl hnr⊢;refine Holds.go (c:=kV7) Tryz.func12 rfl Tryz.results12 Tryz.ntmps12 (by omega) (by simp) rfl ?_
 intro X0 w0
 (repeat' ((fail_if_success refine WP.kIl (b:=2) ?_);first|apply zS|apply zB|((first|apply zW| refine zF 6 kBk [10,11,22,23,24,25] [10,11,23,25,1023,1025,2023,3023,4023] [] (by decide +kernel) (by kernel_rfl) (by kernel_rfl) (by kernel_rfl) ?_|refine WP.allO (.br 0 (.br 1 (.br 2 (.br 3 .done .nil) .nil) (.br 2 (.br 1 (.br 3 .done .nil) .nil) .nil)) (.br 1 (.br 0 (.br 2 (.br 3 .done .nil) .nil) .nil) .nil)) (by decide +kernel) (by kernel_rfl) ?_);simp only[go_sem])|apply And.intro|intro _))
 all_goals first|omega|exact hcs|(refine⟨?_,?_⟩<;>simp only<;>omega)|skip
 (repeat' ((fail_if_success refine WP.kIl (b:=5) ?_);first|apply zS|apply zB|((first|apply zW| refine zF 6 kBk [10,11,22,23,24,25] [10,11,23,25,1023,1025,2023,3023,4023] [] (by decide +kernel) (by kernel_rfl) (by kernel_rfl) (by kernel_rfl) ?_|refine WP.allO (.br 0 (.br 1 (.br 2 (.br 3 .done .nil) .nil) (.br 2 (.br 1 (.br 3 .done .nil) .nil) .nil)) (.br 1 (.br 0 (.br 2 (.br 3 .done .nil) .nil) .nil) .nil)) (by decide +kernel) (by kernel_rfl) ?_);simp only[go_sem,hb1,hb2,hb3,hta])|apply And.intro|intro _))
 all_goals first|omega|exact hag|exact hse|exact hwf|exact hrg|rfl|exact⟨_,_,rfl,_,_,rfl,rfl⟩|skip
 refine zP [1048] [] rfl ?_;simp only[go_sem]
 (repeat' (first|apply zS|apply zB|((first|apply zW| refine zF 6 kBk [10,11,22,23,24,25] [10,11,23,25,1023,1025,2023,3023,4023] [] (by decide +kernel) (by kernel_rfl) (by kernel_rfl) (by kernel_rfl) ?_|refine WP.allO (.br 0 (.br 1 (.br 2 (.br 3 .done .nil) .nil) (.br 2 (.br 1 (.br 3 .done .nil) .nil) .nil)) (.br 1 (.br 0 (.br 2 (.br 3 .done .nil) .nil) .nil) .nil)) (by decide +kernel) (by kernel_rfl) ?_);simp only[go_sem])|apply And.intro|intro _))
 all_goals first|omega|rfl|skip
 refine zL (fun S:Nat×Rep=>⟨[(3,.v (.bool st)),(4,.ptr 4 0 0 0),(8,.ptr 8 0 0 0),(9,.ptr 9 0 0 0),(10,.ptr 10 0 0 0),(11,.ptr 11 0 0 0),(53,.sl 1 (R.map encS)),(54,.v (.int .i64 R.length)),(55,.v (.int .i64 S.1))],[(4,.box 70 [.sl 2 (I.map encImage),.sl 1 (B.map encI),.sl 1 (E.map encI),.sl 5 (D.map encDebug)]),(8,.box 58 kV4),(9,.box 65 kV5),
   (10,.box 58 [.own 23,.own 1023,.own 2023,.own 3023,.v (.int .i64 tu),.v (.int .i64 le),.v (.int .i64 sl),.v (.int .i64 p),.v (.int .i64 q),.v (.int .i64 l),.v (.int .i64 stt),.v (.int .i64 cp),.own 48,.v (.int .i64 wr),.v (.int .i64 lo),.v (.int .i64 mo),.v (.int .i64 sp),.v (.int .i64 fi)]),
   (23,.dp 144 2 (SI.map encImage)),(1023,.sl 3 1 (SB.map encI)),(2023,.sl 3 1 (SE.map encI)),(3023,.dp 206 7 (T.map encMach)),(48,.sl 9 1 []),
   (11,.box 65 [.own 25,.own 1025,.v (.int .i64 S.2.kept),.v (.int .i64 S.2.skip)]),(25,.sl 231 3 (S.2.N.map kAb)),(1025,.sl 3 1 (S.2.C.map encI))]⟩)
  (fun S=>S.1≤R.length∧kK2 a0 st S.2 (R.drop S.1)=⟨jN,jC,jk,js⟩∧RepI r0.N.length S.1 S.2) (fun S=>R.length-S.1) (0,r0) ⟨by simp,by rw[List.drop_zero];exact hz,hI0⟩ ?_ ?_
 ·subst hr0
  (simp only[go_sem]<;>(first|(and_intros<;>rfl)|simp))
 rintro⟨k,⟨yN,yC,yk,ys⟩⟩ ⟨hk,hc,hI⟩;simp only at hk hc hI⊢;by_cases hlt:k<R.length
 ·have hli:(k:Int)<R.length:=by omega
  have hr:=kAa encS R k hlt;rw[List.drop_eq_getElem_cons hlt]at hc;have hsz:=hRs _ (List.getElem_mem hlt);generalize R[k]=x at *;have hc2:kK2 a0 st (kIa a0 st ⟨yN,yC,yk,ys⟩ x) (R.drop (k+1))=⟨jN,jC,jk,js⟩:=hc;have hI2:=hI.step (st:=st) (s:=x) hag0 hin;rw[k2e]at hc2 hI2;have hlen:=kXr hag0 hin (dsV x) st;have hnam:=kY5 hag0 (dsV x) st;have hnum:=k6u x;have hyn:=kNj hI.ok;have hyl:=hI.len;have hycl:=hI.clen;have hyk:=hI.kp;have hys:=hI.sk;have hr0l:r0.N.length+41943080*R.length≤4398046511104:=by subst hr0;exact hnr
  subst ha0;generalize hds:dsV x=ds at *;obtain⟨t,pc,spv,fp,w⟩:=ds;generalize hd:(kC2 x).isSome=d1 at *;generalize hF:stL ((I,B,E),D) (t,⟨pc,spv,fp,w⟩) st=F at *;generalize hFs:(kBo ((I,B,E),D) (t,⟨pc,spv,fp,w⟩) st).isSome=d2 at *;simp only at hc2 hI2 hyn hyl hycl hyk hys hnum;generalize hA:kAp yN yC F 1=A at *;obtain⟨⟨AN,AC⟩,d3⟩:=A;simp only at hc2 hI2;cases d1
  case false =>
   simp only[Bool.false_and,Bool.false_eq_true,if_false]at hc2 hI2
   (repeat' (first|apply zS|apply zB|((first|apply zW| refine zF 6 kBk [10,11,22,23,24,25] [10,11,23,25,1023,1025,2023,3023,4023] [] (by decide +kernel) (by kernel_rfl) (by kernel_rfl) (by kernel_rfl) ?_|refine WP.allO (.br 0 (.br 1 (.br 2 (.br 3 .done .nil) .nil) (.br 2 (.br 1 (.br 3 .done .nil) .nil) .nil)) (.br 1 (.br 0 (.br 2 (.br 3 .done .nil) .nil) .nil) .nil)) (by decide +kernel) (by kernel_rfl) ?_);simp only[go_sem,hli,hr,encS,hd,hds,hF,hFs,hA])|apply And.intro|intro _))
   all_goals first|omega|exact hag|exact hnum|exact⟨hag,hnum⟩|exact hsz|exact hyn _ ‹_›|exact hnam _ ‹_›|exact⟨(k+1,⟨yN,yC,yk,ys+1⟩),⟨by simp only;omega,hc2,hI2⟩,by simp only;omega,by(first|(and_intros<;>rfl)|simp)⟩|skip
  cases d2
  case false =>
   simp only[Bool.true_and,Bool.false_and,Bool.false_eq_true,if_false]at hc2 hI2
   (repeat' (first|apply zS|apply zB|((first|apply zW| refine zF 6 kBk [10,11,22,23,24,25] [10,11,23,25,1023,1025,2023,3023,4023] [] (by decide +kernel) (by kernel_rfl) (by kernel_rfl) (by kernel_rfl) ?_|refine WP.allO (.br 0 (.br 1 (.br 2 (.br 3 .done .nil) .nil) (.br 2 (.br 1 (.br 3 .done .nil) .nil) .nil)) (.br 1 (.br 0 (.br 2 (.br 3 .done .nil) .nil) .nil) .nil)) (by decide +kernel) (by kernel_rfl) ?_);simp only[go_sem,hli,hr,encS,hd,hds,hF,hFs,hA])|apply And.intro|intro _))
   all_goals first|omega|exact hag|exact hnum|exact⟨hag,hnum⟩|exact hsz|exact hyn _ ‹_›|exact hnam _ ‹_›|exact⟨(k+1,⟨yN,yC,yk,ys+1⟩),⟨by simp only;omega,hc2,hI2⟩,by simp only;omega,by(first|(and_intros<;>rfl)|simp)⟩|skip
  cases d3
  case false =>
   simp only[Bool.true_and,Bool.false_eq_true,if_false]at hc2 hI2
   (repeat' (first|apply zS|apply zB|((first|apply zW| refine zF 6 kBk [10,11,22,23,24,25] [10,11,23,25,1023,1025,2023,3023,4023] [] (by decide +kernel) (by kernel_rfl) (by kernel_rfl) (by kernel_rfl) ?_|refine WP.allO (.br 0 (.br 1 (.br 2 (.br 3 .done .nil) .nil) (.br 2 (.br 1 (.br 3 .done .nil) .nil) .nil)) (.br 1 (.br 0 (.br 2 (.br 3 .done .nil) .nil) .nil) .nil)) (by decide +kernel) (by kernel_rfl) ?_);simp only[go_sem,hli,hr,encS,hd,hds,hF,hFs,hA])|apply And.intro|intro _))
   all_goals first|omega|exact hag|exact hnum|exact⟨hag,hnum⟩|exact hsz|exact hyn _ ‹_›|exact hnam _ ‹_›|exact⟨(k+1,⟨yN,yC,yk,ys+1⟩),⟨by simp only;omega,hc2,hI2⟩,by simp only;omega,by(first|(and_intros<;>rfl)|simp)⟩|skip
  simp only[Bool.true_and,if_true]at hc2 hI2
  (repeat' ((fail_if_success refine WP.kIl (b:=19) ?_);first|apply zS|apply zB|((first|apply zW| refine zF 6 kBk [10,11,22,23,24,25] [10,11,23,25,1023,1025,2023,3023,4023] [] (by decide +kernel) (by kernel_rfl) (by kernel_rfl) (by kernel_rfl) ?_|refine WP.allO (.br 0 (.br 1 (.br 2 (.br 3 .done .nil) .nil) (.br 2 (.br 1 (.br 3 .done .nil) .nil) .nil)) (.br 1 (.br 0 (.br 2 (.br 3 .done .nil) .nil) .nil) .nil)) (by decide +kernel) (by kernel_rfl) ?_);simp only[go_sem,hli,hr,encS,hd,hds,hF,hFs,hA])|apply And.intro|intro _))
  all_goals first|omega|exact hag|exact hnum|exact⟨hag,hnum⟩|exact hsz|exact hyn _ ‹_›|exact hnam _ ‹_›|skip
  refine zP [] [(76,25),(1076,1025)] rfl ?_;simp only[go_sem]
  (repeat' (first|apply zS|apply zB|((first|apply zW| refine zF 6 kBk [10,11,22,23,24,25] [10,11,23,25,1023,1025,2023,3023,4023] [] (by decide +kernel) (by kernel_rfl) (by kernel_rfl) (by kernel_rfl) ?_|refine WP.allO (.br 0 (.br 1 (.br 2 (.br 3 .done .nil) .nil) (.br 2 (.br 1 (.br 3 .done .nil) .nil) .nil)) (.br 1 (.br 0 (.br 2 (.br 3 .done .nil) .nil) .nil) .nil)) (by decide +kernel) (by kernel_rfl) ?_);simp only[go_sem])|apply And.intro|intro _))
  all_goals first|omega|exact⟨(k+1,⟨AN,AC,yk+1,ys⟩),⟨by simp only;omega,hc2,hI2⟩,by simp only;omega,by(first|(and_intros<;>rfl)|simp)⟩|skip
 ·have hli:¬(k:Int)<R.length:=by omega
  rw[List.drop_eq_nil_of_le (by omega)]at hc
  have hc2:(⟨yN,yC,yk,ys⟩:Rep)=⟨jN,jC,jk,js⟩:=hc;obtain⟨rfl,rfl,rfl,rfl⟩:=Rep.mk.inj hc2
  (repeat' (first|apply zS|apply zB|((first|apply zW| refine zF 6 kBk [10,11,22,23,24,25] [10,11,23,25,1023,1025,2023,3023,4023] [] (by decide +kernel) (by kernel_rfl) (by kernel_rfl) (by kernel_rfl) ?_|refine WP.allO (.br 0 (.br 1 (.br 2 (.br 3 .done .nil) .nil) (.br 2 (.br 1 (.br 3 .done .nil) .nil) .nil)) (.br 1 (.br 0 (.br 2 (.br 3 .done .nil) .nil) .nil) .nil)) (by decide +kernel) (by kernel_rfl) ?_);simp only[go_sem,hli])|apply And.intro|intro _))
  all_goals first|omega|rfl|exact⟨_,_,rfl,_,_,rfl,rfl⟩|exact if_neg (by omega)|((repeat rw[if_neg (by omega)]);done)|skip
end
end Go.Proofs.YtjdklcjoeanimaaGreat

