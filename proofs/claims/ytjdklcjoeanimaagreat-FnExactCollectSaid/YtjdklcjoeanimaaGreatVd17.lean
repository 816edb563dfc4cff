/-
  DERIVED. Several texts of ours in one: VtUnw3.
-/
import Derived.Test.YtjdklcjoeanimaaGreatVd14
import Derived.Test.YtjdklcjoeanimaaGreatVd16
set_option linter.unusedSimpArgs false
set_option linter.unusedVariables false
set_option maxHeartbeats 1000000
set_option maxRecDepth 10000
namespace Go.Proofs.YtjdklcjoeanimaaGreat
open Go.Vc
attribute [local irreducible] Go.Vc.WP
attribute [local go_sem] kAd kAe
open Go.Pl
attribute [local go_sem] kAf kAg spA kA4 vwA kFt kGs
section
attribute [local irreducible] kDx kLj
noncomputable def qC1:=mkX [(221,k0r),(162,kFm),(222,kM1),(223,kM6)] (COk.cons cLoccS (COk.cons k5d (COk.cons qPc (COk.cons qTe (COk.nil _)))))
theorem qTl:qC1.tys=tys:=rfl
theorem qTm:qC1.C=[(221,k0r),(162,kFm),(222,kM1),(223,kM6)]:=rfl
attribute [local go_sem] qTl qTm k0r kFm kM1 kM6
set_option maxHeartbeats 8000000 in
theorem cUnwSS:Cn Tryz.prog 164 kUnwS:=by
 refine Cn.pur Tryz.func164 (by kernel_rfl) rfl fun d x hx=>?_
 obtain⟨⟨I,B,E⟩,R,⟨pc,sp,fp,w⟩,inner⟩:=x;obtain⟨hsp,hRl,hnum⟩:=hx;have qC2:=hnum;obtain⟨⟨p1,p2⟩,⟨p3,p4⟩,⟨p5,p6⟩,hw,hwn⟩:=qC2;simp only at hsp hRl p1 p2 p3 p4 p5 p6 hw hwn⊢;refine Holds.go (c:=qC1) Tryz.func164 rfl Tryz.results164 Tryz.ntmps164 (by omega) (by simp) rfl ?_
 intro X0 w0
 cases inner with
 |true =>
  have eA:unwS (I,B,E) R ⟨pc,sp,fp,w⟩ true=unwA (I,B,E) R ⟨pc,sp,fp,w⟩ pc:=rfl;by_cases hl0:locS (I,B,E) pc<0
  ·have eN:unwA (I,B,E) R ⟨pc,sp,fp,w⟩ pc=none:=by
    by_cases hs:kAl I B E=true
    ·exact kKo (by unfold locS at hl0;rwa [if_pos hs]at hl0)
    ·exact kIc fun h=>hs h.1
   rw[eN]at eA;rw[kC5 eA,eA]
   (repeat' (first|apply zS|apply zB|(apply zW;simp only[go_sem,hl0])|apply And.intro|intro _))
   all_goals first|omega|exact hsp|rfl|exact⟨_,_,rfl,_,_,rfl,rfl⟩|exact⟨_,_,rfl⟩|(simp only[List.length_map,List.length_drop];omega)|(obtain⟨n,_,rfl⟩:=List.mem_map.1 ‹_›;rfl)|skip
  have hs:kAl I B E=true:=Classical.byContradiction fun h=>hl0 (by unfold locS;rw[if_neg h];omega)
  have e1:locS (I,B,E) pc=locI I B pc:=if_pos hs;have e2:offS (I,B,E) pc=(if locI I B pc<0 then -1 else pc-B.getD (locI I B pc).toNat 0):=if_pos hs
  rw[e1]at hl0;obtain⟨k,hk,hk2⟩:=kHr hs hl0;rw[hk]at e1 e2;rw[if_neg (by omega),Int.toNat_natCast]at e2
  have n1:¬(k:Int)<0:=by omega
  by_cases hR2:R.length=2;rotate_left
  ·have hR:¬(R.length:Int)=2:=by omega
   rw[kIc fun h=>hR2 h.2.2]at eA
   rw[kC5 eA,eA]
   (repeat' (first|apply zS|apply zB|(apply zW;simp only[go_sem,e1,e2,n1,hR])|apply And.intro|intro _))
   all_goals first|omega|exact hsp|rfl|exact⟨_,_,rfl,_,_,rfl,rfl⟩|exact⟨_,_,rfl⟩|(simp only[List.length_map,List.length_drop];omega)|(obtain⟨n,_,rfl⟩:=List.mem_map.1 ‹_›;rfl)|skip
  have hR:(R.length:Int)=2:=by omega
  cases hv:vwOk ⟨pc,sp,fp,w⟩with
  |false =>
   rw[kIc fun h=>by rw[hv]at h;exact absurd h.2.1 (by simp)]at eA
   rw[kC5 eA,eA]
   (repeat' (first|apply zS|apply zB|(apply zW;simp only[go_sem,e1,e2,n1,hR,hv])|apply And.intro|intro _))
   all_goals first|omega|exact hsp|rfl|exact⟨_,_,rfl,_,_,rfl,rfl⟩|exact⟨_,_,rfl⟩|(simp only[List.length_map,List.length_drop];omega)|(obtain⟨n,_,rfl⟩:=List.mem_map.1 ‹_›;rfl)|skip
  |true =>
  have hvb:=kKk.1 hv;simp only at hvb;have hkR:k<R.length:=by omega
  have hki:(k:Int)<R.length:=by omega
  have g1:Go.Vc.rowAt (R.map kFl) k=[.sl 4 (R[k].map encRule)]:=kAa kFl R k hkR;have hlR:=hRl _ (List.getElem_mem hkR);have hb:=kI5 hs k hk2;have q1:=@kLe (I,B,E) R ⟨pc,sp,fp,w⟩ pc k hk;have q2:=fun j=>@kLf (I,B,E) R ⟨pc,sp,fp,w⟩ pc k j ⟨hs,hv,hR2⟩ hk
  simp only[kTf hkR]at q1 q2;generalize B.getD k 0=b at *;generalize R[k]=Rk at *;by_cases hr:kC1 Rk (pc-b)<0
  ·rw[q1 hr]at eA;rw[kC5 eA,eA]
   (repeat' (first|apply zS|apply zB|(apply zW;simp only[go_sem,e1,e2,n1,hR,hv,hki,g1,hr])|apply And.intro|intro _))
   all_goals first|omega|exact hsp|rfl|exact⟨_,_,rfl,_,_,rfl,rfl⟩|exact⟨_,_,rfl⟩|(simp only[List.length_map,List.length_drop];omega)|(obtain⟨n,_,rfl⟩:=List.mem_map.1 ‹_›;rfl)|skip
  obtain⟨j,hj,hjl⟩:=kSp hr;have n2:¬(j:Int)<0:=by omega
  have hji:(j:Int)<Rk.length:=by omega
  have g2:=kAa encRule Rk j hjl;have hd:=kLx hj hjl;rw[q2 j hj,kHy hjl]at eA;generalize Rk[j]=r at *;obtain⟨ra,rb,rf,rd⟩:=r;simp only at hd eA;generalize hu:unwS (I,B,E) R ⟨pc,sp,fp,w⟩ true=u at eA⊢;generalize huv:uwV (I,B,E) R ⟨pc,sp,fp,w⟩ true=uv;have huw:uv=u.getD ⟨0,0,0,[]⟩:=by rw[←huv,←hu];rfl
  clear huv hu
  (repeat' ((fail_if_success refine WP.kIl (b:=11) ?_);first|apply zS|apply zB|(apply zW;simp only[go_sem,e1,e2,n1,hR,hv,hki,g1,hj,n2])|apply And.intro|intro _))
  all_goals first|omega|exact hsp|skip
  cases rf with
  |false =>
   simp only[Bool.false_eq_true,if_false]at eA
   cases h1:kBz ⟨pc,sp,fp,w⟩ (sp+rd)with
   |none =>
    rw[h1]at eA;subst eA;subst huw
    (repeat' (first|apply zS|apply zB|(apply zW;simp only[go_sem,hv,hki,g1,hji,g2,encRule,h1])|apply And.intro|intro _))
    all_goals first|omega|exact hsp|rfl|exact⟨_,_,rfl,_,_,rfl,rfl⟩|exact⟨_,_,rfl⟩|(simp only[List.length_map,List.length_drop];omega)|(obtain⟨n,_,rfl⟩:=List.mem_map.1 ‹_›;rfl)|skip
   |some z =>
    have hz:=kCa h1;simp only at hz;have hdr:sp+rd+1-sp=rd+1:=by omega
    have hdd:(w.map encI).drop (rd+1).toNat=(w.drop (rd+1).toNat).map encI:=(List.map_drop ..).symm;have hdl:(w.drop (rd+1).toNat).length≤4194304:=by rw[List.length_drop];omega
    rw[h1]at eA;simp only at eA;generalize w.drop (rd+1).toNat=wd at *;subst eA;subst huw
    (repeat' (first|apply zS|apply zB|(apply zW;simp only[go_sem,hv,hki,g1,hji,g2,encRule,h1,hdr,hdd])|apply And.intro|intro _))
    all_goals first|omega|exact hsp|rfl|exact⟨_,_,rfl,_,_,rfl,rfl⟩|exact⟨_,_,rfl⟩|(simp only[List.length_map,List.length_drop];omega)|(obtain⟨n,_,rfl⟩:=List.mem_map.1 ‹_›;rfl)|skip
  |true =>
   simp only[if_true]at eA
   cases h1:kBz ⟨pc,sp,fp,w⟩ fp with
   |none =>
    rw[h1]at eA;subst eA;subst huw
    (repeat' (first|apply zS|apply zB|(apply zW;simp only[go_sem,hv,hki,g1,hji,g2,encRule,h1])|apply And.intro|intro _))
    all_goals first|omega|exact hsp|rfl|exact⟨_,_,rfl,_,_,rfl,rfl⟩|exact⟨_,_,rfl⟩|(simp only[List.length_map,List.length_drop];omega)|(obtain⟨n,_,rfl⟩:=List.mem_map.1 ‹_›;rfl)|skip
   |some f =>
    have hz1:=kCa h1;simp only at hz1
    cases h2:kBz ⟨pc,sp,fp,w⟩ (fp+1)with
    |none =>
     rw[h1,h2]at eA;subst eA;subst huw
     (repeat' (first|apply zS|apply zB|(apply zW;simp only[go_sem,hv,hki,g1,hji,g2,encRule,h1,h2])|apply And.intro|intro _))
     all_goals first|omega|exact hsp|rfl|exact⟨_,_,rfl,_,_,rfl,rfl⟩|exact⟨_,_,rfl⟩|(simp only[List.length_map,List.length_drop];omega)|(obtain⟨n,_,rfl⟩:=List.mem_map.1 ‹_›;rfl)|skip
    |some z =>
     have hz:=kCa h2;simp only at hz;have hdr:fp+1+1=fp+2:=by omega
     have hdd:(w.map encI).drop (fp+2-sp).toNat=(w.drop (fp+2-sp).toNat).map encI:=(List.map_drop ..).symm;have hdl:(w.drop (fp+2-sp).toNat).length≤4194304:=by rw[List.length_drop];omega
     rw[h1,h2]at eA;simp only at eA;generalize w.drop (fp+2-sp).toNat=wd at *;subst eA;subst huw
     (repeat' (first|apply zS|apply zB|(apply zW;simp only[go_sem,hv,hki,g1,hji,g2,encRule,h1,h2,hdr,hdd])|apply And.intro|intro _))
     all_goals first|omega|exact hsp|rfl|exact⟨_,_,rfl,_,_,rfl,rfl⟩|exact⟨_,_,rfl⟩|(simp only[List.length_map,List.length_drop];omega)|(obtain⟨n,_,rfl⟩:=List.mem_map.1 ‹_›;rfl)|skip
 |false =>
  by_cases hpp:pc>0
  ·have eA:unwS (I,B,E) R ⟨pc,sp,fp,w⟩ false=unwA (I,B,E) R ⟨pc,sp,fp,w⟩ (pc-1):=rfl;by_cases hl0:locS (I,B,E) (pc-1)<0
   ·have eN:unwA (I,B,E) R ⟨pc,sp,fp,w⟩ (pc-1)=none:=by
     by_cases hs:kAl I B E=true
     ·exact kKo (by unfold locS at hl0;rwa [if_pos hs]at hl0)
     ·exact kIc fun h=>hs h.1
    rw[eN]at eA;rw[kC5 eA,eA]
    (repeat' (first|apply zS|apply zB|(apply zW;simp only[go_sem,hpp,hl0])|apply And.intro|intro _))
    all_goals first|omega|exact hsp|rfl|exact⟨_,_,rfl,_,_,rfl,rfl⟩|exact⟨_,_,rfl⟩|(simp only[List.length_map,List.length_drop];omega)|(obtain⟨n,_,rfl⟩:=List.mem_map.1 ‹_›;rfl)|skip
   have hs:kAl I B E=true:=Classical.byContradiction fun h=>hl0 (by unfold locS;rw[if_neg h];omega)
   have e1:locS (I,B,E) (pc-1)=locI I B (pc-1):=if_pos hs;have e2:offS (I,B,E) (pc-1)=(if locI I B (pc-1)<0 then -1 else(pc-1)-B.getD (locI I B (pc-1)).toNat 0):=if_pos hs
   rw[e1]at hl0;obtain⟨k,hk,hk2⟩:=kHr hs hl0;rw[hk]at e1 e2;rw[if_neg (by omega),Int.toNat_natCast]at e2
   have n1:¬(k:Int)<0:=by omega
   by_cases hR2:R.length=2;rotate_left
   ·have hR:¬(R.length:Int)=2:=by omega
    rw[kIc fun h=>hR2 h.2.2]at eA
    rw[kC5 eA,eA]
    (repeat' (first|apply zS|apply zB|(apply zW;simp only[go_sem,hpp,e1,e2,n1,hR])|apply And.intro|intro _))
    all_goals first|omega|exact hsp|rfl|exact⟨_,_,rfl,_,_,rfl,rfl⟩|exact⟨_,_,rfl⟩|(simp only[List.length_map,List.length_drop];omega)|(obtain⟨n,_,rfl⟩:=List.mem_map.1 ‹_›;rfl)|skip
   have hR:(R.length:Int)=2:=by omega
   cases hv:vwOk ⟨pc,sp,fp,w⟩with
   |false =>
    rw[kIc fun h=>by rw[hv]at h;exact absurd h.2.1 (by simp)]at eA
    rw[kC5 eA,eA]
    (repeat' (first|apply zS|apply zB|(apply zW;simp only[go_sem,hpp,e1,e2,n1,hR,hv])|apply And.intro|intro _))
    all_goals first|omega|exact hsp|rfl|exact⟨_,_,rfl,_,_,rfl,rfl⟩|exact⟨_,_,rfl⟩|(simp only[List.length_map,List.length_drop];omega)|(obtain⟨n,_,rfl⟩:=List.mem_map.1 ‹_›;rfl)|skip
   |true =>
   have hvb:=kKk.1 hv;simp only at hvb;have hkR:k<R.length:=by omega
   have hki:(k:Int)<R.length:=by omega
   have g1:Go.Vc.rowAt (R.map kFl) k=[.sl 4 (R[k].map encRule)]:=kAa kFl R k hkR;have hlR:=hRl _ (List.getElem_mem hkR);have hb:=kI5 hs k hk2;have q1:=@kLe (I,B,E) R ⟨pc,sp,fp,w⟩ (pc-1) k hk;have q2:=fun j=>@kLf (I,B,E) R ⟨pc,sp,fp,w⟩ (pc-1) k j ⟨hs,hv,hR2⟩ hk
   simp only[kTf hkR]at q1 q2;generalize B.getD k 0=b at *;generalize R[k]=Rk at *;by_cases hr:kC1 Rk ((pc-1)-b)<0
   ·rw[q1 hr]at eA;rw[kC5 eA,eA]
    (repeat' (first|apply zS|apply zB|(apply zW;simp only[go_sem,hpp,e1,e2,n1,hR,hv,hki,g1,hr])|apply And.intro|intro _))
    all_goals first|omega|exact hsp|rfl|exact⟨_,_,rfl,_,_,rfl,rfl⟩|exact⟨_,_,rfl⟩|(simp only[List.length_map,List.length_drop];omega)|(obtain⟨n,_,rfl⟩:=List.mem_map.1 ‹_›;rfl)|skip
   obtain⟨j,hj,hjl⟩:=kSp hr;have n2:¬(j:Int)<0:=by omega
   have hji:(j:Int)<Rk.length:=by omega
   have g2:=kAa encRule Rk j hjl;have hd:=kLx hj hjl;rw[q2 j hj,kHy hjl]at eA;generalize Rk[j]=r at *;obtain⟨ra,rb,rf,rd⟩:=r;simp only at hd eA;generalize hu:unwS (I,B,E) R ⟨pc,sp,fp,w⟩ false=u at eA⊢;generalize huv:uwV (I,B,E) R ⟨pc,sp,fp,w⟩ false=uv;have huw:uv=u.getD ⟨0,0,0,[]⟩:=by rw[←huv,←hu];rfl
   clear huv hu
   (repeat' ((fail_if_success refine WP.kIl (b:=11) ?_);first|apply zS|apply zB|(apply zW;simp only[go_sem,hpp,e1,e2,n1,hR,hv,hki,g1,hj,n2])|apply And.intro|intro _))
   all_goals first|omega|exact hsp|skip
   cases rf with
   |false =>
    simp only[Bool.false_eq_true,if_false]at eA
    cases h1:kBz ⟨pc,sp,fp,w⟩ (sp+rd)with
    |none =>
     rw[h1]at eA;subst eA;subst huw
     (repeat' (first|apply zS|apply zB|(apply zW;simp only[go_sem,hv,hki,g1,hji,g2,encRule,h1])|apply And.intro|intro _))
     all_goals first|omega|exact hsp|rfl|exact⟨_,_,rfl,_,_,rfl,rfl⟩|exact⟨_,_,rfl⟩|(simp only[List.length_map,List.length_drop];omega)|(obtain⟨n,_,rfl⟩:=List.mem_map.1 ‹_›;rfl)|skip
    |some z =>
     have hz:=kCa h1;simp only at hz;have hdr:sp+rd+1-sp=rd+1:=by omega
     have hdd:(w.map encI).drop (rd+1).toNat=(w.drop (rd+1).toNat).map encI:=(List.map_drop ..).symm;have hdl:(w.drop (rd+1).toNat).length≤4194304:=by rw[List.length_drop];omega
     rw[h1]at eA;simp only at eA;generalize w.drop (rd+1).toNat=wd at *;subst eA;subst huw
     (repeat' (first|apply zS|apply zB|(apply zW;simp only[go_sem,hv,hki,g1,hji,g2,encRule,h1,hdr,hdd])|apply And.intro|intro _))
     all_goals first|omega|exact hsp|rfl|exact⟨_,_,rfl,_,_,rfl,rfl⟩|exact⟨_,_,rfl⟩|(simp only[List.length_map,List.length_drop];omega)|(obtain⟨n,_,rfl⟩:=List.mem_map.1 ‹_›;rfl)|skip
   |true =>
    simp only[if_true]at eA
    cases h1:kBz ⟨pc,sp,fp,w⟩ fp with
    |none =>
     rw[h1]at eA;subst eA;subst huw
     (repeat' (first|apply zS|apply zB|(apply zW;simp only[go_sem,hv,hki,g1,hji,g2,encRule,h1])|apply And.intro|intro _))
     all_goals first|omega|exact hsp|rfl|exact⟨_,_,rfl,_,_,rfl,rfl⟩|exact⟨_,_,rfl⟩|(simp only[List.length_map,List.length_drop];omega)|(obtain⟨n,_,rfl⟩:=List.mem_map.1 ‹_›;rfl)|skip
    |some f =>
     have hz1:=kCa h1;simp only at hz1
     cases h2:kBz ⟨pc,sp,fp,w⟩ (fp+1)with
     |none =>
      rw[h1,h2]at eA;subst eA;subst huw
      (repeat' (first|apply zS|apply zB|(apply zW;simp only[go_sem,hv,hki,g1,hji,g2,encRule,h1,h2])|apply And.intro|intro _))
      all_goals first|omega|exact hsp|rfl|exact⟨_,_,rfl,_,_,rfl,rfl⟩|exact⟨_,_,rfl⟩|(simp only[List.length_map,List.length_drop];omega)|(obtain⟨n,_,rfl⟩:=List.mem_map.1 ‹_›;rfl)|skip
     |some z =>
      have hz:=kCa h2;simp only at hz;have hdr:fp+1+1=fp+2:=by omega
      have hdd:(w.map encI).drop (fp+2-sp).toNat=(w.drop (fp+2-sp).toNat).map encI:=(List.map_drop ..).symm;have hdl:(w.drop (fp+2-sp).toNat).length≤4194304:=by rw[List.length_drop];omega
      rw[h1,h2]at eA;simp only at eA;generalize w.drop (fp+2-sp).toNat=wd at *;subst eA;subst huw
      (repeat' (first|apply zS|apply zB|(apply zW;simp only[go_sem,hv,hki,g1,hji,g2,encRule,h1,h2,hdr,hdd])|apply And.intro|intro _))
      all_goals first|omega|exact hsp|rfl|exact⟨_,_,rfl,_,_,rfl,rfl⟩|exact⟨_,_,rfl⟩|(simp only[List.length_map,List.length_drop];omega)|(obtain⟨n,_,rfl⟩:=List.mem_map.1 ‹_›;rfl)|skip
  ·have eA:unwS (I,B,E) R ⟨pc,sp,fp,w⟩ false=none:=qHl (by show pc-1≤0;omega)
   have hl0:locS (I,B,E) pc<0:=by
    unfold locS;split
    ·rename_i hs;exact kMs hs (by omega)
    ·omega
   rw[kC5 eA,eA]
   (repeat' (first|apply zS|apply zB|(apply zW;simp only[go_sem,hpp,hl0])|apply And.intro|intro _))
   all_goals first|omega|exact hsp|rfl|exact⟨_,_,rfl,_,_,rfl,rfl⟩|exact⟨_,_,rfl⟩|(simp only[List.length_map,List.length_drop];omega)|(obtain⟨n,_,rfl⟩:=List.mem_map.1 ‹_›;rfl)|skip
end
end Go.Proofs.YtjdklcjoeanimaaGreat

