/- DERIVED. Steps of the proof. -/
import Derived.Test.YtjdklcjoeanimaaGreatVf11
set_option linter.all false
set_option maxHeartbeats 1000000
set_option maxRecDepth 10000
namespace Go.Proofs.YtjdklcjoeanimaaGreat
open Go.Vc Tryz
attribute [local irreducible] Go.Vc.WP
open Go.Pl
section
attribute [local irreducible] kEk kGt
def cxUnI:=kc k9d (kc qA1 (kc qGo (kc qPy (kc qQz (kc qQ0 kn)))))
set_option maxHeartbeats 8000000 in
theorem cUnwSI:Cq 190 kUnwS:=by
 refine zp fun d x hx=>?_
 obtain⟨⟨I,B,E⟩,R,⟨pc,sp,fp,w⟩,inner⟩:=x;obtain⟨hsp,hRl,hnum⟩:=hx;have qG1:=hnum;obtain⟨⟨p1,p2⟩,⟨p3,p4⟩,⟨p5,p6⟩,hw,hwn⟩:=qG1;simp only at hsp hRl p1 p2 p3 p4 p5 p6 hw hwn⊢;refine zg cxUnI func190 rfl rfl ntmps190 ?_;intros;by_cases hc:kAo I B E=true∧kE1 ⟨pc,sp,fp,w⟩=true∧R.length=2;rotate_left
 ·have e:kG7 (I,B,E) R ⟨pc,sp,fp,w⟩ inner=none:=kLi hc;rw[kD1 e,e]
  cases hs:kAo I B E with
  |false =>
   exact zx hs
  |true =>
   cases hv:kE1 ⟨pc,sp,fp,w⟩with
   |false =>
    exact zx (z2 hs hv)
   |true =>
    have hR:¬(R.length:Int)=2:=fun h=>hc ⟨hs,hv,zo⟩
    exact zx (z3 hs hv hR)
 obtain⟨hs,hv,hR2⟩:=hc;have hR:(R.length:Int)=2:=zo;have hvb:=kO3.1 hv;simp only at hvb;obtain⟨a,ha⟩:∃a,a=if inner=true then pc else pc-1:=⟨_,rfl⟩
 have eA:kG7 (I,B,E) R ⟨pc,sp,fp,w⟩ inner=kK4 (I,B,E) R ⟨pc,sp,fp,w⟩ a:=by rw[qOc,ha]
 have hpl:=kLb hsp hs a;have hpos:a≤4398046511104∧-4398046511105≤a:=by rw[ha];split<;>omega
 cases inner with
 |false =>
  simp only[if_false,jIv]at ha;subst ha;by_cases hl:kAm I B (pc-1)<0
  ·rw[show kK4 (I,B,E) R ⟨pc,sp,fp,w⟩ (pc-1)=none from @kO8 (I,B,E) R ⟨pc,sp,fp,w⟩ (pc-1) hl]at eA
   rw[kD1 eA,eA];exact zx (z4 hs hv hR hl)
  obtain⟨k,hk,hk2⟩:=kK1 hs hl;have hkR:k<R.length:=zo;have hki:(k:Int)<R.length:=zo;have n1:¬(k:Int)<0:=zo;have g1:Go.Vc.rowAt (R.map kG9) k=[.sl 4 (R[k].map encRule)]:=kAa kG9 R k hkR;have hlR:=hRl _ (jCn hkR);have hb:=kMu hs k hk2;have q1:=@kPw (I,B,E) R ⟨pc,sp,fp,w⟩ (pc-1) k hk;have q2:=fun j=>@kPx (I,B,E) R ⟨pc,sp,fp,w⟩ (pc-1) k j ⟨hs,hv,hR2⟩ hk
  simp only[kY4 hkR]at q1 q2;generalize hB:B.getD k 0=b at *;generalize R[k]=Rk at *;by_cases hr:kD4 Rk ((pc-1)-b)<0
  ·rw[q1 hr]at eA;rw[kD1 eA,eA];exact zx (z9 hs hv hR hk n1 hki g1 hB hr)
  obtain⟨j,hj,hjl⟩:=kYu hr;have n2:¬(j:Int)<0:=zo;have hji:(j:Int)<Rk.length:=zo;have g2:=kAa encRule Rk j hjl;have hd:=kQn hj hjl;rw[q2 j hj,kK9 hjl]at eA;generalize Rk[j]=r at *;obtain⟨ra,rb,rf,rd⟩:=r;simp only at hd eA;generalize hu:kG7 (I,B,E) R ⟨pc,sp,fp,w⟩ false=u at eA⊢;generalize huv:uwV (I,B,E) R ⟨pc,sp,fp,w⟩ false=uv;have huw:uv=u.getD ⟨0,0,0,[]⟩:=by rw[←huv,←hu];rfl
  clear huv hu
  (repeat' ((fail_if_success refine WP.kEw (b:=12) ?_);first|apply zS|apply zB|(apply zW;simp only[go_sem,hs,hv,hR,hk,n1,hki,g1,hB,hj,n2])|apply jAi|omega|exact hsp|exact hpl|intro _))
  cases rf with
  |false =>
   simp only[jIv,if_false]at eA
   cases h1:kCo ⟨pc,sp,fp,w⟩ (sp+rd)with
   |none =>
    rw[h1]at eA;subst eA;subst huw
    exact zx (z7 hv hki g1 hji g2 encRule.eq_1 h1)
   |some z =>
    have hz:=kCw h1;simp only at hz;have hdr:sp+rd+1-sp=rd+1:=zo;rw[h1]at eA;subst eA;subst huw
    exact zx (z8 hv hki g1 hji g2 encRule.eq_1 h1 hdr)
  |true =>
   simp only[if_true]at eA
   cases h1:kCo ⟨pc,sp,fp,w⟩ fp with
   |none =>
    rw[h1]at eA;subst eA;subst huw
    exact zx (z7 hv hki g1 hji g2 encRule.eq_1 h1)
   |some f =>
    have hz1:=kCw h1;simp only at hz1
    cases h2:kCo ⟨pc,sp,fp,w⟩ (fp+1)with
    |none =>
     rw[h1,h2]at eA;subst eA;subst huw
     exact zx (z8 hv hki g1 hji g2 encRule.eq_1 h1 h2)
    |some z =>
     have hz:=kCw h2;simp only at hz;rw[h1,h2]at eA;subst eA;subst huw
     exact zx (z8 hv hki g1 hji g2 encRule.eq_1 h1 h2)
 |true =>
  simp only[if_true]at ha;have ha':=ha.symm;subst ha';by_cases hl:kAm I B pc<0
  ·rw[show kK4 (I,B,E) R ⟨pc,sp,fp,w⟩ pc=none from @kO8 (I,B,E) R ⟨pc,sp,fp,w⟩ pc hl]at eA
   rw[kD1 eA,eA];exact zx (z4 hs hv hR hl)
  obtain⟨k,hk,hk2⟩:=kK1 hs hl;have hkR:k<R.length:=zo;have hki:(k:Int)<R.length:=zo;have n1:¬(k:Int)<0:=zo;have g1:Go.Vc.rowAt (R.map kG9) k=[.sl 4 (R[k].map encRule)]:=kAa kG9 R k hkR;have hlR:=hRl _ (jCn hkR);have hb:=kMu hs k hk2;have q1:=@kPw (I,B,E) R ⟨pc,sp,fp,w⟩ pc k hk;have q2:=fun j=>@kPx (I,B,E) R ⟨pc,sp,fp,w⟩ pc k j ⟨hs,hv,hR2⟩ hk
  simp only[kY4 hkR]at q1 q2;generalize hB:B.getD k 0=b at *;generalize R[k]=Rk at *;by_cases hr:kD4 Rk (pc-b)<0
  ·rw[q1 hr]at eA;rw[kD1 eA,eA];exact zx (z9 hs hv hR hk n1 hki g1 hB hr)
  obtain⟨j,hj,hjl⟩:=kYu hr;have n2:¬(j:Int)<0:=zo;have hji:(j:Int)<Rk.length:=zo;have g2:=kAa encRule Rk j hjl;have hd:=kQn hj hjl;rw[q2 j hj,kK9 hjl]at eA;generalize Rk[j]=r at *;obtain⟨ra,rb,rf,rd⟩:=r;simp only at hd eA;generalize hu:kG7 (I,B,E) R ⟨pc,sp,fp,w⟩ true=u at eA⊢;generalize huv:uwV (I,B,E) R ⟨pc,sp,fp,w⟩ true=uv;have huw:uv=u.getD ⟨0,0,0,[]⟩:=by rw[←huv,←hu];rfl
  clear huv hu
  (repeat' ((fail_if_success refine WP.kEw (b:=12) ?_);first|apply zS|apply zB|(apply zW;simp only[go_sem,hs,hv,hR,hk,n1,hki,g1,hB,hj,n2])|apply jAi|omega|exact hsp|exact hpl|intro _))
  cases rf with
  |false =>
   simp only[jIv,if_false]at eA
   cases h1:kCo ⟨pc,sp,fp,w⟩ (sp+rd)with
   |none =>
    rw[h1]at eA;subst eA;subst huw
    exact zx (z7 hv hki g1 hji g2 encRule.eq_1 h1)
   |some z =>
    have hz:=kCw h1;simp only at hz;have hdr:sp+rd+1-sp=rd+1:=zo;rw[h1]at eA;subst eA;subst huw
    exact zx (z8 hv hki g1 hji g2 encRule.eq_1 h1 hdr)
  |true =>
   simp only[if_true]at eA
   cases h1:kCo ⟨pc,sp,fp,w⟩ fp with
   |none =>
    rw[h1]at eA;subst eA;subst huw
    exact zx (z7 hv hki g1 hji g2 encRule.eq_1 h1)
   |some f =>
    have hz1:=kCw h1;simp only at hz1
    cases h2:kCo ⟨pc,sp,fp,w⟩ (fp+1)with
    |none =>
     rw[h1,h2]at eA;subst eA;subst huw
     exact zx (z8 hv hki g1 hji g2 encRule.eq_1 h1 h2)
    |some z =>
     have hz:=kCw h2;simp only at hz;rw[h1,h2]at eA;subst eA;subst huw;exact zx (z8 hv hki g1 hji g2 encRule.eq_1 h1 h2)
end
end Go.Proofs.YtjdklcjoeanimaaGreat
