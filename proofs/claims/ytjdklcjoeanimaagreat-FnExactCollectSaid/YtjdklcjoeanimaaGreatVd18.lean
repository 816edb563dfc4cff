/-
  DERIVED. Several texts of ours in one: VtUnwI.
-/
import Derived.Test.YtjdklcjoeanimaaGreatVd14
import Derived.Test.YtjdklcjoeanimaaGreatVd16
set_option linter.unusedSimpArgs false
set_option linter.unusedVariables false
set_option maxHeartbeats 1000000
set_option maxRecDepth 10000
namespace Go.Proofs.YtjdklcjoeanimaaGreat
open Go.Vc
attribute [local irreducible] Go.Vc.WP
attribute [local go_sem] kAd kAe
open Go.Pl
attribute [local go_sem] kAf kAg spA kA4 vwA kFt kGs
section
attribute [local irreducible] kDx kLj
noncomputable def k5i:CL:=[(103,kFk),(188,kFm),(234,kLoc),(235,kM1),(236,kM6),(237,k5f)]
noncomputable def qC5:=mkX k5i (COk.cons k2w (COk.cons k5e (COk.cons cLocI (COk.cons qPf (COk.cons qTh (COk.cons qTi (COk.nil _)))))))
theorem qTt:qC5.tys=tys:=rfl
theorem qTu:qC5.C=k5i:=rfl
attribute [local go_sem] qTt qTu k5i kFk kFm kLoc kM1 kM6 k5f
set_option maxHeartbeats 8000000 in
theorem cUnwSI:Cn Tryz.prog 190 kUnwS:=by
 refine Cn.pur Tryz.func190 (by kernel_rfl) rfl fun d x hx=>?_
 obtain⟨⟨I,B,E⟩,R,⟨pc,sp,fp,w⟩,inner⟩:=x;obtain⟨hsp,hRl,hnum⟩:=hx;have qC2:=hnum;obtain⟨⟨p1,p2⟩,⟨p3,p4⟩,⟨p5,p6⟩,hw,hwn⟩:=qC2;simp only at hsp hRl p1 p2 p3 p4 p5 p6 hw hwn⊢;refine Holds.go (c:=qC5) Tryz.func190 rfl Tryz.results190 Tryz.ntmps190 (by omega) (by simp) rfl ?_
 intro X0 w0;by_cases hc:kAl I B E=true∧vwOk ⟨pc,sp,fp,w⟩=true∧R.length=2;rotate_left
 ·have e:unwS (I,B,E) R ⟨pc,sp,fp,w⟩ inner=none:=kIc hc;rw[kC5 e,e]
  cases hs:kAl I B E with
  |false =>
   (repeat' (first|apply zS|apply zB|(apply zW;simp only[go_sem,hs])|apply And.intro|intro _))
   all_goals first|omega|exact hsp|rfl|exact⟨_,_,rfl,_,_,rfl,rfl⟩|exact⟨_,_,rfl⟩|skip
  |true =>
   cases hv:vwOk ⟨pc,sp,fp,w⟩with
   |false =>
    (repeat' (first|apply zS|apply zB|(apply zW;simp only[go_sem,hs,hv])|apply And.intro|intro _))
    all_goals first|omega|exact hsp|rfl|exact⟨_,_,rfl,_,_,rfl,rfl⟩|exact⟨_,_,rfl⟩|skip
   |true =>
    have hR:¬(R.length:Int)=2:=fun h=>hc ⟨hs,hv,by omega⟩
    (repeat' (first|apply zS|apply zB|(apply zW;simp only[go_sem,hs,hv,hR])|apply And.intro|intro _))
    all_goals first|omega|exact hsp|rfl|exact⟨_,_,rfl,_,_,rfl,rfl⟩|exact⟨_,_,rfl⟩|skip
 obtain⟨hs,hv,hR2⟩:=hc;have hR:(R.length:Int)=2:=by omega
 have hvb:=kKk.1 hv;simp only at hvb;obtain⟨a,ha⟩:∃a,a=if inner=true then pc else pc-1:=⟨_,rfl⟩
 have eA:unwS (I,B,E) R ⟨pc,sp,fp,w⟩ inner=unwA (I,B,E) R ⟨pc,sp,fp,w⟩ a:=by rw[qKy,ha]
 have hpl:=kH1 hsp hs a;have hpos:a≤4398046511104∧-4398046511105≤a:=by rw[ha];split<;>omega
 cases inner with
 |false =>
  simp only[if_false,Bool.false_eq_true]at ha;subst ha;by_cases hl:locI I B (pc-1)<0
  ·rw[show unwA (I,B,E) R ⟨pc,sp,fp,w⟩ (pc-1)=none from @kKo (I,B,E) R ⟨pc,sp,fp,w⟩ (pc-1) hl]at eA
   rw[kC5 eA,eA]
   (repeat' (first|apply zS|apply zB|(apply zW;simp only[go_sem,hs,hv,hR,hl])|apply And.intro|intro _))
   all_goals first|omega|exact hsp|exact hpl|rfl|exact⟨_,_,rfl,_,_,rfl,rfl⟩|exact⟨_,_,rfl⟩|skip
  obtain⟨k,hk,hk2⟩:=kHr hs hl;have hkR:k<R.length:=by omega
  have hki:(k:Int)<R.length:=by omega
  have n1:¬(k:Int)<0:=by omega
  have g1:Go.Vc.rowAt (R.map kFl) k=[.sl 4 (R[k].map encRule)]:=kAa kFl R k hkR;have hlR:=hRl _ (List.getElem_mem hkR);have hb:=kI5 hs k hk2;have q1:=@kLe (I,B,E) R ⟨pc,sp,fp,w⟩ (pc-1) k hk;have q2:=fun j=>@kLf (I,B,E) R ⟨pc,sp,fp,w⟩ (pc-1) k j ⟨hs,hv,hR2⟩ hk
  simp only[kTf hkR]at q1 q2;generalize hB:B.getD k 0=b at *;generalize R[k]=Rk at *;by_cases hr:kC1 Rk ((pc-1)-b)<0
  ·rw[q1 hr]at eA;rw[kC5 eA,eA]
   (repeat' (first|apply zS|apply zB|(apply zW;simp only[go_sem,hs,hv,hR,hk,n1,hki,g1,hB,hr])|apply And.intro|intro _))
   all_goals first|omega|exact hsp|exact hpl|rfl|exact⟨_,_,rfl,_,_,rfl,rfl⟩|exact⟨_,_,rfl⟩|skip
  obtain⟨j,hj,hjl⟩:=kSp hr;have n2:¬(j:Int)<0:=by omega
  have hji:(j:Int)<Rk.length:=by omega
  have g2:=kAa encRule Rk j hjl;have hd:=kLx hj hjl;rw[q2 j hj,kHy hjl]at eA;generalize Rk[j]=r at *;obtain⟨ra,rb,rf,rd⟩:=r;simp only at hd eA;generalize hu:unwS (I,B,E) R ⟨pc,sp,fp,w⟩ false=u at eA⊢;generalize huv:uwV (I,B,E) R ⟨pc,sp,fp,w⟩ false=uv;have huw:uv=u.getD ⟨0,0,0,[]⟩:=by rw[←huv,←hu];rfl
  clear huv hu
  (repeat' ((fail_if_success refine WP.kIl (b:=12) ?_);first|apply zS|apply zB|(apply zW;simp only[go_sem,hs,hv,hR,hk,n1,hki,g1,hB,hj,n2])|apply And.intro|intro _))
  all_goals first|omega|exact hsp|exact hpl|skip
  cases rf with
  |false =>
   simp only[Bool.false_eq_true,if_false]at eA
   cases h1:kBz ⟨pc,sp,fp,w⟩ (sp+rd)with
   |none =>
    rw[h1]at eA;subst eA;subst huw
    (repeat' (first|apply zS|apply zB|(apply zW;simp only[go_sem,hv,hki,g1,hji,g2,encRule,h1])|apply And.intro|intro _))
    all_goals first|omega|exact hsp|exact hpl|rfl|exact⟨_,_,rfl,_,_,rfl,rfl⟩|exact⟨_,_,rfl⟩|skip
   |some z =>
    have hz:=kCa h1;simp only at hz;have hdr:sp+rd+1-sp=rd+1:=by omega
    rw[h1]at eA;subst eA;subst huw
    (repeat' (first|apply zS|apply zB|(apply zW;simp only[go_sem,hv,hki,g1,hji,g2,encRule,h1,hdr])|apply And.intro|intro _))
    all_goals first|omega|exact hsp|exact hpl|rfl|exact⟨_,_,rfl,_,_,rfl,rfl⟩|exact⟨_,_,rfl⟩|skip
  |true =>
   simp only[if_true]at eA
   cases h1:kBz ⟨pc,sp,fp,w⟩ fp with
   |none =>
    rw[h1]at eA;subst eA;subst huw
    (repeat' (first|apply zS|apply zB|(apply zW;simp only[go_sem,hv,hki,g1,hji,g2,encRule,h1])|apply And.intro|intro _))
    all_goals first|omega|exact hsp|exact hpl|rfl|exact⟨_,_,rfl,_,_,rfl,rfl⟩|exact⟨_,_,rfl⟩|skip
   |some f =>
    have hz1:=kCa h1;simp only at hz1
    cases h2:kBz ⟨pc,sp,fp,w⟩ (fp+1)with
    |none =>
     rw[h1,h2]at eA;subst eA;subst huw
     (repeat' (first|apply zS|apply zB|(apply zW;simp only[go_sem,hv,hki,g1,hji,g2,encRule,h1,h2])|apply And.intro|intro _))
     all_goals first|omega|exact hsp|exact hpl|rfl|exact⟨_,_,rfl,_,_,rfl,rfl⟩|exact⟨_,_,rfl⟩|skip
    |some z =>
     have hz:=kCa h2;simp only at hz;rw[h1,h2]at eA;subst eA;subst huw
     (repeat' (first|apply zS|apply zB|(apply zW;simp only[go_sem,hv,hki,g1,hji,g2,encRule,h1,h2])|apply And.intro|intro _))
     all_goals first|omega|exact hsp|exact hpl|rfl|exact⟨_,_,rfl,_,_,rfl,rfl⟩|exact⟨_,_,rfl⟩|skip
 |true =>
  simp only[if_true]at ha;have ha':=ha.symm;subst ha';by_cases hl:locI I B pc<0
  ·rw[show unwA (I,B,E) R ⟨pc,sp,fp,w⟩ pc=none from @kKo (I,B,E) R ⟨pc,sp,fp,w⟩ pc hl]at eA
   rw[kC5 eA,eA]
   (repeat' (first|apply zS|apply zB|(apply zW;simp only[go_sem,hs,hv,hR,hl])|apply And.intro|intro _))
   all_goals first|omega|exact hsp|exact hpl|rfl|exact⟨_,_,rfl,_,_,rfl,rfl⟩|exact⟨_,_,rfl⟩|skip
  obtain⟨k,hk,hk2⟩:=kHr hs hl;have hkR:k<R.length:=by omega
  have hki:(k:Int)<R.length:=by omega
  have n1:¬(k:Int)<0:=by omega
  have g1:Go.Vc.rowAt (R.map kFl) k=[.sl 4 (R[k].map encRule)]:=kAa kFl R k hkR;have hlR:=hRl _ (List.getElem_mem hkR);have hb:=kI5 hs k hk2;have q1:=@kLe (I,B,E) R ⟨pc,sp,fp,w⟩ pc k hk;have q2:=fun j=>@kLf (I,B,E) R ⟨pc,sp,fp,w⟩ pc k j ⟨hs,hv,hR2⟩ hk
  simp only[kTf hkR]at q1 q2;generalize hB:B.getD k 0=b at *;generalize R[k]=Rk at *;by_cases hr:kC1 Rk (pc-b)<0
  ·rw[q1 hr]at eA;rw[kC5 eA,eA]
   (repeat' (first|apply zS|apply zB|(apply zW;simp only[go_sem,hs,hv,hR,hk,n1,hki,g1,hB,hr])|apply And.intro|intro _))
   all_goals first|omega|exact hsp|exact hpl|rfl|exact⟨_,_,rfl,_,_,rfl,rfl⟩|exact⟨_,_,rfl⟩|skip
  obtain⟨j,hj,hjl⟩:=kSp hr;have n2:¬(j:Int)<0:=by omega
  have hji:(j:Int)<Rk.length:=by omega
  have g2:=kAa encRule Rk j hjl;have hd:=kLx hj hjl;rw[q2 j hj,kHy hjl]at eA;generalize Rk[j]=r at *;obtain⟨ra,rb,rf,rd⟩:=r;simp only at hd eA;generalize hu:unwS (I,B,E) R ⟨pc,sp,fp,w⟩ true=u at eA⊢;generalize huv:uwV (I,B,E) R ⟨pc,sp,fp,w⟩ true=uv;have huw:uv=u.getD ⟨0,0,0,[]⟩:=by rw[←huv,←hu];rfl
  clear huv hu
  (repeat' ((fail_if_success refine WP.kIl (b:=12) ?_);first|apply zS|apply zB|(apply zW;simp only[go_sem,hs,hv,hR,hk,n1,hki,g1,hB,hj,n2])|apply And.intro|intro _))
  all_goals first|omega|exact hsp|exact hpl|skip
  cases rf with
  |false =>
   simp only[Bool.false_eq_true,if_false]at eA
   cases h1:kBz ⟨pc,sp,fp,w⟩ (sp+rd)with
   |none =>
    rw[h1]at eA;subst eA;subst huw
    (repeat' (first|apply zS|apply zB|(apply zW;simp only[go_sem,hv,hki,g1,hji,g2,encRule,h1])|apply And.intro|intro _))
    all_goals first|omega|exact hsp|exact hpl|rfl|exact⟨_,_,rfl,_,_,rfl,rfl⟩|exact⟨_,_,rfl⟩|skip
   |some z =>
    have hz:=kCa h1;simp only at hz;have hdr:sp+rd+1-sp=rd+1:=by omega
    rw[h1]at eA;subst eA;subst huw
    (repeat' (first|apply zS|apply zB|(apply zW;simp only[go_sem,hv,hki,g1,hji,g2,encRule,h1,hdr])|apply And.intro|intro _))
    all_goals first|omega|exact hsp|exact hpl|rfl|exact⟨_,_,rfl,_,_,rfl,rfl⟩|exact⟨_,_,rfl⟩|skip
  |true =>
   simp only[if_true]at eA
   cases h1:kBz ⟨pc,sp,fp,w⟩ fp with
   |none =>
    rw[h1]at eA;subst eA;subst huw
    (repeat' (first|apply zS|apply zB|(apply zW;simp only[go_sem,hv,hki,g1,hji,g2,encRule,h1])|apply And.intro|intro _))
    all_goals first|omega|exact hsp|exact hpl|rfl|exact⟨_,_,rfl,_,_,rfl,rfl⟩|exact⟨_,_,rfl⟩|skip
   |some f =>
    have hz1:=kCa h1;simp only at hz1
    cases h2:kBz ⟨pc,sp,fp,w⟩ (fp+1)with
    |none =>
     rw[h1,h2]at eA;subst eA;subst huw
     (repeat' (first|apply zS|apply zB|(apply zW;simp only[go_sem,hv,hki,g1,hji,g2,encRule,h1,h2])|apply And.intro|intro _))
     all_goals first|omega|exact hsp|exact hpl|rfl|exact⟨_,_,rfl,_,_,rfl,rfl⟩|exact⟨_,_,rfl⟩|skip
    |some z =>
     have hz:=kCa h2;simp only at hz;rw[h1,h2]at eA;subst eA;subst huw
     (repeat' (first|apply zS|apply zB|(apply zW;simp only[go_sem,hv,hki,g1,hji,g2,encRule,h1,h2])|apply And.intro|intro _))
     all_goals first|omega|exact hsp|exact hpl|rfl|exact⟨_,_,rfl,_,_,rfl,rfl⟩|exact⟨_,_,rfl⟩|skip
end
end Go.Proofs.YtjdklcjoeanimaaGreat

