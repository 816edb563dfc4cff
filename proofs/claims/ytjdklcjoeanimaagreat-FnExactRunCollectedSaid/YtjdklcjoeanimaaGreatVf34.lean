/- DERIVED. Steps of the proof. -/
import Derived.Test.YtjdklcjoeanimaaGreatVf29
import Derived.Test.YtjdklcjoeanimaaGreatVf33
set_option linter.all false
set_option maxHeartbeats 1000000
set_option maxRecDepth 10000
namespace Go.Proofs.YtjdklcjoeanimaaGreat
attribute [local irreducible] Go.Vc.WP
section
open Go.Vc Tryz
def kDl:FP:=⟨10,[fc [5] [] [49,52,1049,1052,2049,2052,3049,3052,4049,4052,5052,6052],fc [12] [] [49,52,1049,1052,2049,2052,3049,3052,4049,4052,5052,6052],fc [3] [] [49,52,1049,1052,2049,2052,3049,3052,4049,4052,5052,6052],⟨[47,48],[1,2],[],[52,1052,2052,3052,4052,5052,6052],[],[49,1049,2049,3049,4049]⟩,fc [13] [] [49,52,1049,1052,2049,2052,3049,3052,4049,4052,5052,6052],fc [4] [] [49,52,1049,1052,2049,2052,3049,3052,4049,4052,5052,6052],⟨[46,49,50,51],[0,1,2,3,4,5],[],[],[],[52,1052,2052,3052,4052,5052,6052]⟩,fa [52] [0,1,2,3,4,5,6],fa [45] [0,1,2,3,4,5,6,7],fa [45] [0,1,2,3,4,5,6,7],fn 10,fn 11],[45,46,47,48,49,50,51,52,53,54],[49,52,1049,1052,2049,2052,3049,3052,4049,4052,5052,6052],[]⟩
def kX4:FP:=⟨10,[fc [5] [] [52,1052,2052,3052,4052,5052,6052],fc [12] [] [52,1052,2052,3052,4052,5052,6052],fc [3] [] [52,1052,2052,3052,4052,5052,6052],fc [47,48] [1,2] [52,1052,2052,3052,4052,5052,6052],fc [13] [] [52,1052,2052,3052,4052,5052,6052],fc [4] [] [52,1052,2052,3052,4052,5052,6052],⟨[46,49,50,51],[0,1,2,3,4,5],[],[],[],[52,1052,2052,3052,4052,5052,6052]⟩,fa [52] [0,1,2,3,4,5,6],fa [45] [0,1,2,3,4,5,6,7],fa [45] [0,1,2,3,4,5,6,7],fn 10,fn 11],[45,46,47,48,49,50,51,52,53,54],[52,1052,2052,3052,4052,5052,6052],[]⟩
attribute [local go_sem] kDl kX4
open Go.Pl
attribute [local go_sem] kB7 aggAg kL0 St.ado St.kM4 St.kM5 rp isNil
attribute [local go_sem] aggSe kHa kJk kPy kPz
attribute [local go_sem] kVb k0o
theorem qPd {L:List ByteArray}:kMc (L.map encS):=fun row hr c hc=>by
 obtain⟨n,_,rfl⟩:=jCr.1 hr;simp only[encS,jDr,jJw,or_false]at hc;exact⟨_,hc⟩
theorem qDd {L:List Int}:kMc (L.map encI):=fun row hr c hc=>by
 obtain⟨n,_,rfl⟩:=jCr.1 hr;simp only[encI,jDr,jJw,or_false]at hc;exact⟨_,hc⟩
theorem qPe:Cq 69 qJy:=Cn.fre qPf (fun d x id e s rows h=>by
  have hm:=kBf h;simp only[kJk,jDr,jJw,or_false,jCx,Ob.sl.injEq,reduceCtorEq,and_false,false_or]at hm;rcases hm with⟨_,_,_,rfl⟩|⟨_,_,_,rfl⟩|⟨_,_,_,rfl⟩
  ·exact qDd
  ·exact qDd
  ·exact qPd) (fun d x=>by simp[SV.up,SV.up2,fz1e,lk,aggSe,kHa,kJk])
section
attribute [local irreducible] kGl kFr kEc kEl kC2 kEk kEj kHj kJz wfR
def cxRcI:=kc k9j (kc k9e (kc k9k (kc c60 (kc qPe (kc cColI kn)))))
theorem kX5 {p:Prop}(h:p:=by first|omega|exact hag|exact hse|rfl|exact⟨_,_,rfl,_,_,rfl,rfl⟩|exact if_neg (by omega)|((repeat rw[if_neg (by omega)]);done)|fail):p:=h
set_option maxHeartbeats 6000000 in
theorem cRcI:Cq 22 kRc:=by
 refine zp fun d x hx=>?_
 obtain⟨a,s,lim,ev,st⟩:=x;obtain⟨hag,hin,hse,hcs,hsn⟩:=hx;simp only at hag hin hse hcs hsn⊢;by_cases hall:kBb a=true∧kAx s=true∧(0≤lim∧lim≤3000)∧1≤ev∧ev≤3000;rotate_left
 ·rw[qFb hall];obtain⟨⟨I,B,E⟩,D⟩:=a;obtain⟨⟨⟨SI,SB,SE⟩,T,tu,le,sl⟩,⟨p,q,l,stt⟩,⟨cp,R,wr,lo⟩,mo,sp,fi⟩:=s;generalize hb1:kBb ((I,B,E),D)=b1 at *;generalize hb2:kAx (((SI,SB,SE),T,tu,le,sl),(⟨p,q,l,stt⟩:Tm),(cp,R,wr,lo),mo,sp,fi)=b2 at *;simp only[aggAg]at⊢;refine zg cxRcI func22 rfl rfl ntmps22 ?_;intros
  (repeat' ((fail_if_success refine WP.kEw (b:=2) ?_);first|apply zS|apply zB|((first|apply zW| refine WP.kBp (.br 0 (.br 1 (.br 2 (.br 3 .done .nil) .nil) (.br 2 (.br 1 (.br 3 .done .nil) .nil) .nil)) (.br 1 (.br 0 (.br 2 (.br 3 .done .nil) .nil) .nil) .nil)) (by decide +kernel) (by kernel_rfl) ?_|refine zfE 10 9 [] kDl ?_);simp only[go_sem])|apply jAi|omega|exact hcs|intro _))
  refine zA [.b 13 0 46 231 3,.b 13 1 1046 3 1] ?_;simp only[go_sem]
  cases b1 with
  |false =>
   (repeat' (first|apply zS|apply zB|((first|apply zW| refine WP.kBp (.br 0 (.br 1 (.br 2 (.br 3 .done .nil) .nil) (.br 2 (.br 1 (.br 3 .done .nil) .nil) .nil)) (.br 1 (.br 0 (.br 2 (.br 3 .done .nil) .nil) .nil) .nil)) (by decide +kernel) (by kernel_rfl) ?_|refine zfE 10 9 [] kDl ?_);simp only[go_sem,hb1])|apply jAi|omega|exact hag|rfl|exact⟨_,_,rfl,_,_,rfl,rfl⟩|exact if_neg zo|((repeat rw[if_neg zo]);done)|intro _))
  |true =>
  cases b2 with
  |false =>
   (repeat' (first|apply zS|apply zB|((first|apply zW| refine WP.kBp (.br 0 (.br 1 (.br 2 (.br 3 .done .nil) .nil) (.br 2 (.br 1 (.br 3 .done .nil) .nil) .nil)) (.br 1 (.br 0 (.br 2 (.br 3 .done .nil) .nil) .nil) .nil)) (by decide +kernel) (by kernel_rfl) ?_|refine zfE 10 9 [] kDl ?_);simp only[go_sem,hb1,hb2])|apply jAi|exact kX5|intro _))
  |true =>
  by_cases hl:0≤lim∧lim≤3000;rotate_left
  ·have hlF:(0≤lim∧lim≤3000)=False:=eq_false hl
   (repeat' (first|apply zS|apply zB|((first|apply zW| refine WP.kBp (.br 0 (.br 1 (.br 2 (.br 3 .done .nil) .nil) (.br 2 (.br 1 (.br 3 .done .nil) .nil) .nil)) (.br 1 (.br 0 (.br 2 (.br 3 .done .nil) .nil) .nil) .nil)) (by decide +kernel) (by kernel_rfl) ?_|refine zfE 10 9 [] kDl ?_);simp only[go_sem,hb1,hb2,hlF])|apply jAi|exact kX5|intro _))
  have hlT:(0≤lim∧lim≤3000)=True:=eq_true hl;have heF:(1≤ev∧ev≤3000)=False:=eq_false fun h=>hall ⟨rfl,rfl,hl,h⟩
  (repeat' (first|apply zS|apply zB|((first|apply zW| refine WP.kBp (.br 0 (.br 1 (.br 2 (.br 3 .done .nil) .nil) (.br 2 (.br 1 (.br 3 .done .nil) .nil) .nil)) (.br 1 (.br 0 (.br 2 (.br 3 .done .nil) .nil) .nil) .nil)) (by decide +kernel) (by kernel_rfl) ?_|refine zfE 10 9 [] kDl ?_);simp only[go_sem,hb1,hb2,hlT,heF])|apply jAi|exact kX5|intro _))
 rw[k81 hall];obtain⟨hb1,hb2,hl,he⟩:=hall;have hlT:(0≤lim∧lim≤3000)=True:=eq_true hl;have heT:(1≤ev∧ev≤3000)=True:=eq_true he;have hI0:RcI 0 0 s ⟨[],[],0,0⟩:=⟨hsn hb2,kFp.zero,by have h5:=kMr hb2;obtain⟨P,t,⟨cp,R,wr,lo⟩,m⟩:=s;simp only at h5⊢;have:=(kLw h5).1;omega⟩
 have hn0:0≤lim.tdiv ev:=Int.tdiv_nonneg hl.1 zo;have hn1:lim.tdiv ev*ev≤lim:=by rw[vJ3 hl.1];exact Int.ediv_mul_le lim zo
 have hev:ev≠0:=zo
 have hn2:lim.tdiv ev≤lim:=by
  have:=yIr he.1 hn0;omega
 generalize hz:rcG a ev st (lim.tdiv ev).toNat s ⟨[],[],0,0⟩=z;have ha0:∃a0:AgX,a0=a:=⟨a,rfl⟩;obtain⟨a0,ha0⟩:=ha0;have hs0:∃s0:SeX,s0=s:=⟨s,rfl⟩;obtain⟨s0,hs0⟩:=hs0;rw[←ha0,←hs0]at hz;rw[←hs0]at hI0;rw[←ha0]at hin;have kK5:=hag;rw[←ha0]at kK5;obtain⟨⟨I,B,E⟩,D⟩:=a;obtain⟨⟨⟨SI,SB,SE⟩,T,tu,le,sl⟩,⟨p,q,l,stt⟩,⟨cp,R,wr,lo⟩,mo,sp,fi⟩:=s;obtain⟨⟨⟨⟨jI,jB,jE⟩,jT,jtu,jle,jsl⟩,⟨jp,jq,jl,jst⟩,⟨jcp,jR,jwr,jlo⟩,jmo,jsp,jfi⟩,⟨jN,jC,jk,js⟩⟩:=z;simp only[aggAg]at⊢;refine zg cxRcI func22 rfl rfl ntmps22 ?_;intros
 (repeat' ((fail_if_success refine WP.kEw (b:=2) ?_);first|apply zS|apply zB|((first|apply zW| refine WP.kBp (.br 0 (.br 1 (.br 2 (.br 3 .done .nil) .nil) (.br 2 (.br 1 (.br 3 .done .nil) .nil) .nil)) (.br 1 (.br 0 (.br 2 (.br 3 .done .nil) .nil) .nil) .nil)) (by decide +kernel) (by kernel_rfl) ?_|refine zfE 10 9 [] kDl ?_);simp only[go_sem])|apply jAi|omega|exact hcs|intro _))
 refine zA [.b 13 0 46 231 3,.b 13 1 1046 3 1] ?_;simp only[go_sem]
 (repeat' (first|apply zS|apply zB|((first|apply zW| refine WP.kBp (.br 0 (.br 1 (.br 2 (.br 3 .done .nil) .nil) (.br 2 (.br 1 (.br 3 .done .nil) .nil) .nil)) (.br 1 (.br 0 (.br 2 (.br 3 .done .nil) .nil) .nil) .nil)) (by decide +kernel) (by kernel_rfl) ?_|refine zfE 10 9 [] kDl ?_);simp only[go_sem,hb1,hb2,hlT,heT])|apply jAi|omega|exact hag|exact hse|intro _))
 refine zL (fun S:Nat×SeX×Rep=>⟨[(2,vi lim),(3,vi ev),(4,.v (.bool st)),(5,.ptr 5 0 0 0),(10,.ptr 10 0 0 0),(11,.ptr 11 0 0 0),(12,.ptr 12 0 0 0),(13,.ptr 13 0 0 0),(14,vi S.1)],[(5,.box 70 [.sl 2 (I.map encImage),.sl 1 (B.map encI),.sl 1 (E.map encI),.sl 5 (D.map encDebug)]),(10,.box 58 kPy),(11,.box 65 kPz),
   (12,.box 58 (kHa 16 S.2.1)),(16,.dp 144 2 (S.2.1.1.1.1.map encImage)),(1016,.sl 3 1 (S.2.1.1.1.2.1.map encI)),(2016,.sl 3 1 (S.2.1.1.1.2.2.map encI)),(3016,.dp 206 7 (S.2.1.1.2.1.map encMach)),(4016,.sl 9 1 (S.2.1.2.2.1.2.1.map encS)),
   (13,.box 65 [.own 46,.own 1046,vi S.2.2.kept,vi S.2.2.skip]),(46,.sl 231 3 (S.2.2.N.map kAc)),(1046,.sl 3 1 (S.2.2.C.map encI))]⟩)
  (fun S=>(S.1:Int)≤lim.tdiv ev∧rcG a0 ev st (lim.tdiv ev).toNat s0 ⟨[],[],0,0⟩=rcG a0 ev st ((lim.tdiv ev).toNat-S.1) S.2.1 S.2.2∧∃j,RcI (S.1*ev.toNat) j S.2.1 S.2.2) (fun S=>(lim.tdiv ev).toNat-S.1) (0,s0,⟨[],[],0,0⟩) ⟨by simpa using hn0,rfl,0,by rw[Nat.zero_mul];exact hI0⟩ ?_ ?_
 ·subst hs0
  (simp only[go_sem]<;>(first|(and_intros<;>rfl)|simp))
 rintro⟨k,y,r⟩ ⟨hk,hc,j,hI⟩;simp only at hk hc hI⊢;rw[hz]at hc;have hevn:((ev.toNat:Nat):Int)=ev:=vGf zo
 have hkn:k*ev.toNat≤3000:=by
  have:=vUa hk (by omega:(0:Int)≤ev)
  have h2:((k*ev.toNat:Nat):Int)=(k:Int)*ev:=by rw[yGh,hevn]
  omega
 by_cases hlt:(k:Int)<lim.tdiv ev
 ·have hkn1:(k+1)*ev.toNat≤3000:=by
   have:=vUa (by omega:(k:Int)+1≤lim.tdiv ev) (by omega:(0:Int)≤ev)
   have h2:(((k+1)*ev.toNat:Nat):Int)=((k:Int)+1)*ev:=by rw[yGh,hevn];rfl
   omega
  have hkn2:(k+1)*ev.toNat=k*ev.toNat+ev.toNat:=Nat.succ_mul k ev.toNat;have hp1:=hI.se.pre hkn;have hpr:kEl y∧kEc y∧(kAx y=true→0≤ev→ev≤3000→∃k0:Nat,(k0:Int)+ev≤3000∧SnI k0 y):=⟨hp1.1,hp1.2.1,fun _ _ _=>⟨k*ev.toNat,zo,hI.se⟩⟩
  have hk0:∃k0:Nat,(k0:Int)+ev≤3000∧SnI k0 y:=⟨k*ev.toNat,zo,hI.se⟩;have hI1:=hI.run (a:=a0) (st:=st) (ev:=ev);have hcp:=hI1.colP (st:=st) kK5 hin zo;obtain⟨j2,hI2⟩:=hI1.col (st:=st) kK5 hin;rw[show(lim.tdiv ev).toNat-k=(lim.tdiv ev).toNat-(k+1)+1 by omega,rcG]at hc
  rw[←hkn2]at hI2;generalize hw:kIh y ev=w at hc hcp hI2 hI1;generalize hv:collect a0 w r st=v at hc hI2;subst ha0;obtain⟨⟨⟨⟨vI,vB,vE⟩,vT,vtu,vle,vsl⟩,⟨vp,vq,vl,vst⟩,⟨vcp,vR,vwr,vlo⟩,vmo,vsp,vfi⟩,⟨vN,vC,vk,vs⟩⟩:=v;obtain⟨⟨⟨wI,wB,wE⟩,wT,wtu,wle,wsl⟩,⟨wp,wq,wl,wst⟩,⟨wcp,wR,wwr,wlo⟩,wmo,wsp,wfi⟩:=w;obtain⟨⟨⟨yI,yB,yE⟩,yT,ytu,yle,ysl⟩,⟨yp,yq,yl,yst⟩,⟨ycp,yR,ywr,ylo⟩,ymo,ysp,yfi⟩:=y;obtain⟨rN,rC,rk,rs⟩:=r;simp only at hc hI2 hpr hcp hk0
  (repeat' ((fail_if_success refine WP.kEw (b:=7) ?_);first|apply zS|apply zB|((first|apply zW| refine WP.kBp (.br 0 (.br 1 (.br 2 (.br 3 .done .nil) .nil) (.br 2 (.br 1 (.br 3 .done .nil) .nil) .nil)) (.br 1 (.br 0 (.br 2 (.br 3 .done .nil) .nil) .nil) .nil)) (by decide +kernel) (by kernel_rfl) ?_|refine zfE 10 9 [] kDl ?_);simp only[go_sem,hlt,hev])|apply jAi|exact zc0|intro _))
  refine zP [16,1016,2016,3016,4016] [] rfl ?_;simp only[go_sem]
  (repeat' ((fail_if_success refine WP.kEw (b:=6) ?_);first|apply zS|apply zB|((first|apply zW| refine WP.kBp (.br 0 (.br 1 (.br 2 (.br 3 .done .nil) .nil) (.br 2 (.br 1 (.br 3 .done .nil) .nil) .nil)) (.br 1 (.br 0 (.br 2 (.br 3 .done .nil) .nil) .nil) .nil)) (by decide +kernel) (by kernel_rfl) ?_|refine zfE 10 9 [] kX4 ?_);simp(maxSteps:=4000000) only[go_sem,hw,hv])|apply jAi|omega|exact hpr|exact hpr.1|exact hpr.2.1|exact hk0|exact hcp|intro _))
  refine zP [] [(52,16),(1052,1016),(2052,2016),(3052,3016),(4052,4016),(5052,46),(6052,1046)] rfl ?_;simp only[go_sem]
  (repeat' (first|apply zS|apply zB|((first|apply zW| refine WP.kBp (.br 0 (.br 1 (.br 2 (.br 3 .done .nil) .nil) (.br 2 (.br 1 (.br 3 .done .nil) .nil) .nil)) (.br 1 (.br 0 (.br 2 (.br 3 .done .nil) .nil) .nil) .nil)) (by decide +kernel) (by kernel_rfl) ?_|refine zfE 10 9 [] kDl ?_);simp only[go_sem])|apply jAi|omega|exact⟨(k+1,(((vI,vB,vE),vT,vtu,vle,vsl),⟨vp,vq,vl,vst⟩,(vcp,vR,vwr,vlo),vmo,vsp,vfi),⟨vN,vC,vk,vs⟩),⟨by show((k+1:Nat):Int)≤lim.tdiv ev;omega,hz.trans hc,j2,hI2⟩,by show(lim.tdiv ev).toNat-(k+1)<(lim.tdiv ev).toNat-k;omega,zh⟩|intro _))
 ·rw[show(lim.tdiv ev).toNat-k=0 by omega]at hc
  have hc2:_=(y,r):=hc;subst ha0;simp only[jCx]at hc2;obtain⟨h1,h2⟩:=hc2;subst h1;subst h2
  (repeat' (first|apply zS|apply zB|((first|apply zW| refine WP.kBp (.br 0 (.br 1 (.br 2 (.br 3 .done .nil) .nil) (.br 2 (.br 1 (.br 3 .done .nil) .nil) .nil)) (.br 1 (.br 0 (.br 2 (.br 3 .done .nil) .nil) .nil) .nil)) (by decide +kernel) (by kernel_rfl) ?_|refine zfE 10 9 [] kDl ?_);simp only[go_sem,hlt,hev])|apply jAi|omega|rfl|exact⟨_,_,rfl,_,_,rfl,rfl⟩|exact if_neg zo|((repeat rw[if_neg zo]);done)|intro _))
end
end
section
open Go.Vc
theorem SnI.of2 {x:SeX}{z:Int}(h0:0≤z) (h1:z≤1048576) (h:0≤kQi x z) (hn:numSe x) (hok:kAx x=true):SnI 0 x:=by
 obtain⟨hp,hs⟩:=kWq h0 h1 h;refine⟨(kQm.1 hok).1,hp.1.1.1,hs.1.1.1.2,hn.1,fun m q=>⟨?_,hn.2 m q⟩⟩
 obtain⟨⟨⟨I,B,E⟩,T,tu,le,sl⟩,⟨p,q',l,st⟩,⟨cp,R,wr,lo⟩,mo,sp,fi⟩:=x;obtain⟨hP,hPl,hR⟩:=kFj (kQ2 _) h0 h;obtain⟨hS,hSl,hT⟩:=kFj (kLh _) h0 hP;obtain⟨t1,t2⟩:=kPn (by simp only at hSl hPl⊢;omega) hT
 have:=(t2 m q).2;omega
theorem rcP_of {a:AgX}{s:SeX}{lim ev:Int}{st:Bool}(h1:0≤kQh a 1048576) (h2:0≤kQi s (kQh a 1048576)) (hn:numSe s):RcP (a,s,lim,ev,st):=by
 have f1:=(qCm a 1048576 zo).2;obtain⟨⟨a1,a2,_⟩,_⟩:=k8t h1;obtain⟨s1,s2⟩:=kWq h1 f1 h2;exact⟨a1,a2,s1,⟨s2.1,s1.2⟩,fun hok=>SnI.of2 h1 f1 h2 hn hok⟩
theorem rcG_I {a:AgX}{st:Bool}{ev:Int}(hp:kEj a) (hB:kNc a):∀(n:Nat) {k j:Nat}{s:SeX}{r:Rep},RcI k j s r→∃j',RcI (k+n*ev.toNat) j' (rcG a ev st n s r).1 (rcG a ev st n s r).2
 | 0,k,j,s,r,h=>⟨j,by rw[Nat.zero_mul];exact h⟩
 |n+1,k,j,s,r,h=>by
  obtain⟨j1,h1⟩:=(h.run (a:=a) (st:=st) (ev:=ev)).col (st:=st) hp hB;obtain⟨j2,h2⟩:=rcG_I (st:=st) (ev:=ev) hp hB n h1;refine⟨j2,?_⟩;rw[show k+(n+1)*ev.toNat=k+ev.toNat+n*ev.toNat by rw[Nat.succ_mul];omega]
  exact h2
theorem qIl {a:AgX}{s:SeX}{lim ev:Int}{st:Bool}(h:RcP (a,s,lim,ev,st)) (hs:kEc s):kEc (kK2 a s lim ev st).1∧kRi (kK2 a s lim ev st).2:=by
 by_cases hall:kBb a=true∧kAx s=true∧(0≤lim∧lim≤3000)∧1≤ev∧ev≤3000
 ·rw[k81 hall];obtain⟨hb1,hb2,hl,he⟩:=hall;have hI0:RcI 0 0 s ⟨[],[],0,0⟩:=⟨h.sn hb2,kFp.zero,by have h5:=kMr hb2;obtain⟨P,t,⟨cp,R,wr,lo⟩,m⟩:=s;simp only at h5⊢;have:=(kLw h5).1;omega⟩
  obtain⟨j,hI⟩:=rcG_I (a:=a) (st:=st) (ev:=ev) h.ag h.inl (lim.tdiv ev).toNat hI0;have hn0:0≤lim.tdiv ev:=Int.tdiv_nonneg hl.1 zo;have hn1:lim.tdiv ev*ev≤lim:=by rw[vJ3 hl.1];exact Int.ediv_mul_le lim zo
  have hk:0+(lim.tdiv ev).toNat*ev.toNat≤3000:=by
   have:(((lim.tdiv ev).toNat*ev.toNat:Nat):Int)=lim.tdiv ev*ev:=by rw[yGh,vGf hn0,vGf zo]
   omega
  have h1:=hI.rp.len;have h2:=hI.rp.clen;have h3:=hI.ct;exact⟨(hI.se.pre hk).2.1,by unfold kRi;omega⟩
 ·rw[qFb hall];exact⟨hs,by unfold kRi;simp⟩
end
end Go.Proofs.YtjdklcjoeanimaaGreat
