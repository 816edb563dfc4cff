/- DERIVED. Steps of the proof. -/
import Derived.Test.YtjdklcjoeanimaaGreatVf11
set_option linter.all false
set_option maxHeartbeats 1000000
set_option maxRecDepth 10000
namespace Go.Proofs.YtjdklcjoeanimaaGreat
open Go.Vc Tryz
attribute [local irreducible] Go.Vc.WP
open Go.Pl
section
attribute [local irreducible] kEk kGt
def cxUnS:=kc cLoccS (kc qA0 (kc qPx (kc qQy kn)))
set_option maxHeartbeats 8000000 in
theorem cUnwSS:Cq 164 kUnwS:=by
 refine zp fun d x hx=>?_
 obtain⟨⟨I,B,E⟩,R,⟨pc,sp,fp,w⟩,inner⟩:=x;obtain⟨hsp,hRl,hnum⟩:=hx;have qG1:=hnum;obtain⟨⟨p1,p2⟩,⟨p3,p4⟩,⟨p5,p6⟩,hw,hwn⟩:=qG1;simp only at hsp hRl p1 p2 p3 p4 p5 p6 hw hwn⊢;refine zg cxUnS func164 rfl rfl ntmps164 ?_;intros
 cases inner with
 |true =>
  have eA:kG7 (I,B,E) R ⟨pc,sp,fp,w⟩ true=kK4 (I,B,E) R ⟨pc,sp,fp,w⟩ pc:=rfl;by_cases hl0:kPi (I,B,E) pc<0
  ·have eN:kK4 (I,B,E) R ⟨pc,sp,fp,w⟩ pc=none:=by
    by_cases hs:kAo I B E=true
    ·exact kO8 (by unfold kPi at hl0;rwa [if_pos hs]at hl0)
    ·exact kLi fun h=>hs h.1
   rw[eN]at eA;rw[kD1 eA,eA];exact zx hl0
  have hs:kAo I B E=true:=Classical.byContradiction fun h=>hl0 (by unfold kPi;rw[if_neg h];omega)
  have e1:kPi (I,B,E) pc=kAm I B pc:=if_pos hs;have e2:offS (I,B,E) pc=(if kAm I B pc<0 then -1 else pc-B.getD (kAm I B pc).toNat 0):=if_pos hs
  rw[e1]at hl0;obtain⟨k,hk,hk2⟩:=kK1 hs hl0;rw[hk]at e1 e2;rw[if_neg zo,jB2]at e2;have n1:¬(k:Int)<0:=zo;by_cases hR2:R.length=2;rotate_left
  ·have hR:¬(R.length:Int)=2:=zo;rw[kLi fun h=>hR2 h.2.2]at eA
   rw[kD1 eA,eA];exact zx (z4 e1 e2 n1 hR)
  have hR:(R.length:Int)=2:=zo
  cases hv:kE1 ⟨pc,sp,fp,w⟩with
  |false =>
   rw[kLi fun h=>by rw[hv]at h;exact absurd h.2.1 zs]at eA
   rw[kD1 eA,eA]
   exact zx (z5 e1 e2 n1 hR hv)
  |true =>
  have hvb:=kO3.1 hv;simp only at hvb;have hkR:k<R.length:=zo;have hki:(k:Int)<R.length:=zo;have g1:Go.Vc.rowAt (R.map kG9) k=[.sl 4 (R[k].map encRule)]:=kAa kG9 R k hkR;have hlR:=hRl _ (jCn hkR);have hb:=kMu hs k hk2;have q1:=@kPw (I,B,E) R ⟨pc,sp,fp,w⟩ pc k hk;have q2:=fun j=>@kPx (I,B,E) R ⟨pc,sp,fp,w⟩ pc k j ⟨hs,hv,hR2⟩ hk
  simp only[kY4 hkR]at q1 q2;generalize B.getD k 0=b at *;generalize R[k]=Rk at *;by_cases hr:kD4 Rk (pc-b)<0
  ·rw[q1 hr]at eA;rw[kD1 eA,eA];exact zx (z8 e1 e2 n1 hR hv hki g1 hr)
  obtain⟨j,hj,hjl⟩:=kYu hr;have n2:¬(j:Int)<0:=zo;have hji:(j:Int)<Rk.length:=zo;have g2:=kAa encRule Rk j hjl;have hd:=kQn hj hjl;rw[q2 j hj,kK9 hjl]at eA;generalize Rk[j]=r at *;obtain⟨ra,rb,rf,rd⟩:=r;simp only at hd eA;generalize hu:kG7 (I,B,E) R ⟨pc,sp,fp,w⟩ true=u at eA⊢;generalize huv:uwV (I,B,E) R ⟨pc,sp,fp,w⟩ true=uv;have huw:uv=u.getD ⟨0,0,0,[]⟩:=by rw[←huv,←hu];rfl
  clear huv hu
  (repeat' ((fail_if_success refine WP.kEw (b:=11) ?_);first|apply zS|apply zB|(apply zW;simp only[go_sem,e1,e2,n1,hR,hv,hki,g1,hj,n2])|apply jAi|omega|exact hsp|intro _))
  cases rf with
  |false =>
   simp only[jIv,if_false]at eA
   cases h1:kCo ⟨pc,sp,fp,w⟩ (sp+rd)with
   |none =>
    rw[h1]at eA;subst eA;subst huw
    exact zx (z7 hv hki g1 hji g2 encRule.eq_1 h1)
   |some z =>
    have hz:=kCw h1;simp only at hz;have hdr:sp+rd+1-sp=rd+1:=zo;have hdd:(w.map encI).drop (rd+1).toNat=(w.drop (rd+1).toNat).map encI:=(vRr ..).symm;have hdl:(w.drop (rd+1).toNat).length≤4194304:=by rw[jSz];omega
    rw[h1]at eA;simp only at eA;generalize w.drop (rd+1).toNat=wd at *;subst eA;subst huw
    exact zx (z9 hv hki g1 hji g2 encRule.eq_1 h1 hdr hdd)
  |true =>
   simp only[if_true]at eA
   cases h1:kCo ⟨pc,sp,fp,w⟩ fp with
   |none =>
    rw[h1]at eA;subst eA;subst huw
    exact zx (z7 hv hki g1 hji g2 encRule.eq_1 h1)
   |some f =>
    have hz1:=kCw h1;simp only at hz1
    cases h2:kCo ⟨pc,sp,fp,w⟩ (fp+1)with
    |none =>
     rw[h1,h2]at eA;subst eA;subst huw
     exact zx (z8 hv hki g1 hji g2 encRule.eq_1 h1 h2)
    |some z =>
     have hz:=kCw h2;simp only at hz;have hdr:fp+1+1=fp+2:=zo;have hdd:(w.map encI).drop (fp+2-sp).toNat=(w.drop (fp+2-sp).toNat).map encI:=(vRr ..).symm;have hdl:(w.drop (fp+2-sp).toNat).length≤4194304:=by rw[jSz];omega
     rw[h1,h2]at eA;simp only at eA;generalize w.drop (fp+2-sp).toNat=wd at *;subst eA;subst huw
     exact zx (z10 hv hki g1 hji g2 encRule.eq_1 h1 h2 hdr hdd)
 |false =>
  by_cases hpp:pc>0
  ·have eA:kG7 (I,B,E) R ⟨pc,sp,fp,w⟩ false=kK4 (I,B,E) R ⟨pc,sp,fp,w⟩ (pc-1):=rfl;by_cases hl0:kPi (I,B,E) (pc-1)<0
   ·have eN:kK4 (I,B,E) R ⟨pc,sp,fp,w⟩ (pc-1)=none:=by
     by_cases hs:kAo I B E=true
     ·exact kO8 (by unfold kPi at hl0;rwa [if_pos hs]at hl0)
     ·exact kLi fun h=>hs h.1
    rw[eN]at eA;rw[kD1 eA,eA];exact zx (z2 hpp hl0)
   have hs:kAo I B E=true:=Classical.byContradiction fun h=>hl0 (by unfold kPi;rw[if_neg h];omega)
   have e1:kPi (I,B,E) (pc-1)=kAm I B (pc-1):=if_pos hs;have e2:offS (I,B,E) (pc-1)=(if kAm I B (pc-1)<0 then -1 else(pc-1)-B.getD (kAm I B (pc-1)).toNat 0):=if_pos hs
   rw[e1]at hl0;obtain⟨k,hk,hk2⟩:=kK1 hs hl0;rw[hk]at e1 e2;rw[if_neg zo,jB2]at e2;have n1:¬(k:Int)<0:=zo;by_cases hR2:R.length=2;rotate_left
   ·have hR:¬(R.length:Int)=2:=zo;rw[kLi fun h=>hR2 h.2.2]at eA
    rw[kD1 eA,eA];exact zx (z5 hpp e1 e2 n1 hR)
   have hR:(R.length:Int)=2:=zo
   cases hv:kE1 ⟨pc,sp,fp,w⟩with
   |false =>
    rw[kLi fun h=>by rw[hv]at h;exact absurd h.2.1 zs]at eA
    rw[kD1 eA,eA]
    exact zx (z6 hpp e1 e2 n1 hR hv)
   |true =>
   have hvb:=kO3.1 hv;simp only at hvb;have hkR:k<R.length:=zo;have hki:(k:Int)<R.length:=zo;have g1:Go.Vc.rowAt (R.map kG9) k=[.sl 4 (R[k].map encRule)]:=kAa kG9 R k hkR;have hlR:=hRl _ (jCn hkR);have hb:=kMu hs k hk2;have q1:=@kPw (I,B,E) R ⟨pc,sp,fp,w⟩ (pc-1) k hk;have q2:=fun j=>@kPx (I,B,E) R ⟨pc,sp,fp,w⟩ (pc-1) k j ⟨hs,hv,hR2⟩ hk
   simp only[kY4 hkR]at q1 q2;generalize B.getD k 0=b at *;generalize R[k]=Rk at *;by_cases hr:kD4 Rk ((pc-1)-b)<0
   ·rw[q1 hr]at eA;rw[kD1 eA,eA];exact zx (z9 hpp e1 e2 n1 hR hv hki g1 hr)
   obtain⟨j,hj,hjl⟩:=kYu hr;have n2:¬(j:Int)<0:=zo;have hji:(j:Int)<Rk.length:=zo;have g2:=kAa encRule Rk j hjl;have hd:=kQn hj hjl;rw[q2 j hj,kK9 hjl]at eA;generalize Rk[j]=r at *;obtain⟨ra,rb,rf,rd⟩:=r;simp only at hd eA;generalize hu:kG7 (I,B,E) R ⟨pc,sp,fp,w⟩ false=u at eA⊢;generalize huv:uwV (I,B,E) R ⟨pc,sp,fp,w⟩ false=uv;have huw:uv=u.getD ⟨0,0,0,[]⟩:=by rw[←huv,←hu];rfl
   clear huv hu
   (repeat' ((fail_if_success refine WP.kEw (b:=11) ?_);first|apply zS|apply zB|(apply zW;simp only[go_sem,hpp,e1,e2,n1,hR,hv,hki,g1,hj,n2])|apply jAi|omega|exact hsp|intro _))
   cases rf with
   |false =>
    simp only[jIv,if_false]at eA
    cases h1:kCo ⟨pc,sp,fp,w⟩ (sp+rd)with
    |none =>
     rw[h1]at eA;subst eA;subst huw
     exact zx (z7 hv hki g1 hji g2 encRule.eq_1 h1)
    |some z =>
     have hz:=kCw h1;simp only at hz;have hdr:sp+rd+1-sp=rd+1:=zo;have hdd:(w.map encI).drop (rd+1).toNat=(w.drop (rd+1).toNat).map encI:=(vRr ..).symm;have hdl:(w.drop (rd+1).toNat).length≤4194304:=by rw[jSz];omega
     rw[h1]at eA;simp only at eA;generalize w.drop (rd+1).toNat=wd at *;subst eA;subst huw
     exact zx (z9 hv hki g1 hji g2 encRule.eq_1 h1 hdr hdd)
   |true =>
    simp only[if_true]at eA
    cases h1:kCo ⟨pc,sp,fp,w⟩ fp with
    |none =>
     rw[h1]at eA;subst eA;subst huw
     exact zx (z7 hv hki g1 hji g2 encRule.eq_1 h1)
    |some f =>
     have hz1:=kCw h1;simp only at hz1
     cases h2:kCo ⟨pc,sp,fp,w⟩ (fp+1)with
     |none =>
      rw[h1,h2]at eA;subst eA;subst huw
      exact zx (z8 hv hki g1 hji g2 encRule.eq_1 h1 h2)
     |some z =>
      have hz:=kCw h2;simp only at hz;have hdr:fp+1+1=fp+2:=zo;have hdd:(w.map encI).drop (fp+2-sp).toNat=(w.drop (fp+2-sp).toNat).map encI:=(vRr ..).symm;have hdl:(w.drop (fp+2-sp).toNat).length≤4194304:=by rw[jSz];omega
      rw[h1,h2]at eA;simp only at eA;generalize w.drop (fp+2-sp).toNat=wd at *;subst eA;subst huw;exact zx (z10 hv hki g1 hji g2 encRule.eq_1 h1 h2 hdr hdd)
  ·have eA:kG7 (I,B,E) R ⟨pc,sp,fp,w⟩ false=none:=qL8 (by show pc-1≤0;omega)
   have hl0:kPi (I,B,E) pc<0:=by
    unfold kPi;split
    ·rename_i hs;exact kRq hs zo
    ·omega
   rw[kD1 eA,eA];exact zx (z2 hpp hl0)
end
end Go.Proofs.YtjdklcjoeanimaaGreat
