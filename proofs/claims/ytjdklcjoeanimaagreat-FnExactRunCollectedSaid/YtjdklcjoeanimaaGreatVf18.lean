/- DERIVED. Steps of the proof. -/
import Derived.Test.YtjdklcjoeanimaaGreatVf14
set_option linter.all false
set_option maxHeartbeats 1000000
set_option maxRecDepth 10000
namespace Go.Proofs.YtjdklcjoeanimaaGreat
attribute [local irreducible] Go.Vc.WP
section
open Go.Vc Tryz
def kOi:FP:=⟨9,[fc [6] [] [55],fc [47] [0] [55],fc [7] [] [55],fc [1] [] [55],fc [8] [] [55],fc [50,51] [3,4] [55],fc [52] [3,4,5] [55],fc [49,53] [2,3,4,5,6] [55],⟨[54],[2,3,4,5,6,7],[],[],[],[55]⟩,fn 9,fn 10,fn 11],[47,48,49,50,51,52,53,54,55],[55],[]⟩
attribute [local go_sem] kOi
theorem k3p {L:List Frame}{k:Nat}(hk:k<L.length) (s:List Node×Int):kE9 (L.drop k) s=kE9 (L.drop (k+1)) (if child s.1 s.2 L[k]<0 then(s.1++[mkNode s.2 L[k]],(s.1.length:Int))else(s.1,child s.1 s.2 L[k])):=by
 rw[wL4 hk,kE9]
theorem kS3 {N:List Node}{L:List Frame}(h:kFq N=false∨L.length=0):intern N L=(N,-1):=by
 unfold intern;rw[if_neg];rintro⟨h1,h2,_⟩;rcases h with h|h
 ·rw[h1]at h;cases h
 ·exact h2 (vG1 h)
theorem kQw {N:List Node}{L:List Frame}{k:Nat}(hk:k<L.length) (h:kJy L[k]=false):intern N L=(N,-1):=by
 unfold intern;rw[if_neg];rintro⟨_,_,h3⟩;rw[jDl]at h3;rw[h3 _ (jCn hk)]at h;cases h
@[go_sem] def qDo:Ctr:=pur (fun args=>(k0v args 0,kOw (aR args 1))) (fun x=>[.agg [.sl 3 (x.1.map kAc)],.sl 2 (x.2.map kAe)]) (fun x=>(x.1.length+x.2.length≤4398046511104∧∀n∈x.1,n.name.size≤1099511627776)∧∀f∈x.2,f.name.size≤1099511627776)
 (fun d x=>.tup [.agg [.own d],vi ((intern x.1 x.2).2)]) (fun d x=>[(d,.sl 231 3 ((intern x.1 x.2).1.map kAc))])
section
def cxInS:=kc qJw (kc k6g (kc qKn (kc qQv kn)))
theorem k3q {p:Prop}(h:p:=by first|omega|exact hs _ ‹_›|exact⟨_,_,_,rfl⟩|exact⟨_,_,rfl,_,_,rfl,rfl⟩):p:=h
theorem kOj {p:Prop}(h:p:=by first|omega|exact k3d ‹_›|exact⟨_,_,_,rfl⟩|exact⟨_,_,rfl,_,_,rfl,rfl⟩):p:=h
theorem qM1:Cq 93 qDo:=by
 refine zp fun d x hx=>?_
 obtain⟨N,L⟩:=x;obtain⟨⟨hN,hs⟩,hL⟩:=hx;simp only at hN hs hL⊢;refine zg cxInS func93 rfl rfl ntmps93 ?_;intros
 (repeat' (first|apply zS|apply zB|((first|apply zW| refine zf kOi ?_|refine zd 7 ?_);simp only[go_sem])|apply jAi|exact k3q|intro _))
 ·rename_i h;rw[kS3 (h.imp_right fun e=>by omega)]
 ·rename_i h;rw[kS3 (h.imp_right fun e=>by omega)]
 rename_i h
 have hi:intern N L=if L.all kJy=true then kE9 L (N,-1)else(N,-1):=by
  unfold intern;by_cases ha:L.all kJy=true
  ·rw[if_pos ha,if_pos ⟨h.1,fun e=>by subst e;simp at h,ha⟩]
  ·rw[if_neg ha,if_neg fun hc=>ha hc.2.2]
 refine zM (fun s:Nat×List Node×Int=>⟨[(1,.sl 2 (L.map kAe)),(2,.ptr 2 0 0 0),(4,.ptr 4 0 0 0),(6,.ptr 6 0 0 0),(7,vi s.2.2),(8,vi s.1)],
  [(2,.box 61 [.sl 3 (N.map kAc)]),(4,.box 61 [.v (.slice none 0 0)]),(6,.box 61 [.own 11]),(11,.sl 231 3 (s.2.1.map kAc))]⟩)
  (fun s=>s.1≤L.length∧(∀j (hj:j<L.length),j<s.1→kJy L[j]=true)∧kE9 L (N,-1)=kE9 (L.drop s.1) s.2∧s.2.1.length≤N.length+s.1∧-1≤s.2.2∧s.2.2<s.2.1.length) (fun s=>L.length-s.1) (0,N,-1) ⟨zs,zs,zs,zs,by simp only;omega,by simp only;omega⟩ ?_
 rintro⟨k,M,at'⟩ ⟨hk,hf,hg,hm,ha0,ha1⟩;simp only at hk hf hg hm ha0 ha1⊢;by_cases hlt:k<L.length
 ·have h1:=kAa kAe L k hlt;have hnm:=hL _ (jCn hlt);have hst:=k3p hlt (M,at');have hcb:=kTl M at' L[k];rw[←hg]at hst;simp only at hst hcb
  (repeat' (first|apply zS|apply zB|((first|apply zW| refine zf kOi ?_|refine zd 7 ?_);simp only[go_sem,h1,kAe])|apply jAi|exact kOj|intro _))
  ·rename_i hb;rw[kQw hlt hb]
  ·rename_i hb;rw[kQw hlt hb]
  ·rename_i hfr hc;have hc':child M at' L[k]<0:=hc;rw[if_pos hc']at hst;refine⟨(k+1,M++[mkNode at' L[k]],(M.length:Int)),⟨by simp only;omega,fun j hj hjk=>?_,hst,by simp only[jKs,jGk,jOy];omega,by simp only;omega,by simp only[jKs,jGk,jOy];omega⟩,by simp only;omega,by(first|(and_intros<;>rfl)|simp),by simp only[jNq,jHi,jRt];rfl⟩
   rcases jFx j k with hh|hh
   ·exact hf j hj hh
   ·have:j=k:=zo;subst this;exact hfr
  ·rename_i hfr hc;have hc':¬child M at' L[k]<0:=by show¬child M at' ⟨L[k].name,L[k].line⟩<0;omega
   rw[if_neg hc']at hst;refine⟨(k+1,M,child M at' L[k]),⟨by simp only;omega,fun j hj hjk=>?_,hst,by simp only;omega,by simp only;omega,by simp only;omega⟩,by simp only;omega,zh⟩
   rcases jFx j k with hh|hh
   ·exact hf j hj hh
   ·have:j=k:=zo;subst this;exact hfr
 ·have hall:L.all kJy=true:=by
   rw[jDl];intro f hfm;obtain⟨j,hj,rfl⟩:=jWa.1 hfm;exact hf j hj zo
  rw[if_pos hall,hg,show k=L.length by omega,yAq,kE9]at hi
  (repeat' (first|apply zS|apply zB|((first|apply zW| refine zf kOi ?_|refine zd 7 ?_);simp only[go_sem])|apply jAi|exact kOj|intro _))
  ·rw[hi]
  ·rw[hi]
end
section
def cxInI:=kc qJx (kc k6i (kc qKm (kc qQw kn)))
theorem qM2:Cq 119 qDo:=by
 refine zp fun d x hx=>?_
 obtain⟨N,L⟩:=x;obtain⟨⟨hN,hs⟩,hL⟩:=hx;simp only at hN hs hL⊢;refine zg cxInI func119 rfl rfl ntmps119 ?_;intros
 (repeat' (first|apply zS|apply zB|(apply zW;simp only[go_sem])|apply jAi|exact k3q|intro _))
 ·rename_i h;rw[kS3 (h.imp_right fun e=>by omega)]
 ·rename_i h;rw[kS3 (h.imp_right fun e=>by omega)]
 rename_i h
 have hi:intern N L=if L.all kJy=true then kE9 L (N,-1)else(N,-1):=by
  unfold intern;by_cases ha:L.all kJy=true
  ·rw[if_pos ha,if_pos ⟨h.1,fun e=>by subst e;simp at h,ha⟩]
  ·rw[if_neg ha,if_neg fun hc=>ha hc.2.2]
 refine zM (fun k:Nat=>⟨[(1,.sl 2 (L.map kAe)),(4,.ptr 4 0 0 0),(6,.ptr 6 0 0 0),(24,.sl 2 (L.map kAe)),(25,vi L.length),(26,vi k)],
  [(4,.box 61 [.v (.slice none 0 0)]),(6,.box 61 [.own 14]),(14,.sl 231 3 (N.map kAc))]⟩)
  (fun k=>k≤L.length∧(∀j (hj:j<L.length),j<k→kJy L[j]=true)) (fun k=>L.length-k) 0 ⟨zs,zs⟩ ?_
 intro k ⟨hk,hf⟩;by_cases hlt:k<L.length
 ·have h1:=kAa kAe L k hlt;have hnm:=hL _ (jCn hlt)
  (repeat' (first|apply zS|apply zB|(apply zW;simp only[go_sem,h1,kAe])|apply jAi|exact kOj|intro _))
  ·rename_i hb;rw[kQw hlt hb]
  ·rename_i hb;rw[kQw hlt hb]
  ·rename_i hfr;refine⟨k+1,⟨zo,fun j hj hjk=>?_⟩,zo,zh⟩
   rcases jFx j k with hh|hh
   ·exact hf j hj hh
   ·have:j=k:=zo;subst this;exact hfr
 have hall:L.all kJy=true:=by
  rw[jDl];intro f hfm;obtain⟨j,hj,rfl⟩:=jWa.1 hfm;exact hf j hj zo
 rw[if_pos hall]at hi;refine zy trivial ?_
 refine zM (fun s:Nat×List Node×Int=>⟨[(4,.ptr 4 0 0 0),(6,.ptr 6 0 0 0),(9,vi s.2.2),(35,.sl 2 (L.map kAe)),(36,vi L.length),(37,vi s.1)],
  [(4,.box 61 [.v (.slice none 0 0)]),(6,.box 61 [.own 14]),(14,.sl 231 3 (s.2.1.map kAc))]⟩)
  (fun s=>s.1≤L.length∧kE9 L (N,-1)=kE9 (L.drop s.1) s.2∧s.2.1.length≤N.length+s.1∧-1≤s.2.2∧s.2.2<s.2.1.length) (fun s=>L.length-s.1) (0,N,-1) ⟨zs,zs,zs,by simp only;omega,by simp only;omega⟩ ?_
 rintro⟨k,M,at'⟩ ⟨hk,hg,hm,ha0,ha1⟩;simp only at hk hg hm ha0 ha1⊢;by_cases hlt:k<L.length
 ·have h1:=kAa kAe L k hlt;have hnm:=hL _ (jCn hlt);have hst:=k3p hlt (M,at');have hcb:=kTl M at' L[k];rw[←hg]at hst;simp only at hst hcb
  (repeat' (first|apply zS|apply zB|(apply zW;simp only[go_sem,h1,kAe])|apply jAi|exact kOj|intro _))
  ·rename_i hc;have hc':child M at' L[k]<0:=hc;rw[if_pos hc']at hst;refine⟨(k+1,M++[mkNode at' L[k]],(M.length:Int)),⟨by simp only;omega,hst,by simp only[jKs,jGk,jOy];omega,by simp only;omega,by simp only[jKs,jGk,jOy];omega⟩,by simp only;omega,by(first|(and_intros<;>rfl)|simp),by simp only[jNq,jHi,jRt];rfl⟩
  ·rename_i hc;have hc':¬child M at' L[k]<0:=by show¬child M at' ⟨L[k].name,L[k].line⟩<0;omega
   rw[if_neg hc']at hst;refine⟨(k+1,M,child M at' L[k]),⟨by simp only;omega,hst,by simp only;omega,by simp only;omega,by simp only;omega⟩,by simp only;omega,zh⟩
 ·rw[hg,show k=L.length by omega,yAq,kE9]at hi
  (repeat' (first|apply zS|apply zB|(apply zW;simp only[go_sem])|apply jAi|exact kOj|intro _))
  ·rw[hi]
  ·rw[hi]
end
end
section
open Go.Vc Tryz
theorem padC (C:List Int) (j:Nat):(C++List.replicate j 0).map encI++[[SV.v (.int .i64 0)]]=(C++List.replicate (j+1) 0).map encI:=by
 rw[List.replicate_succ',←jPf,jNq (l₂:=[0])];rfl
theorem qAd {C:List Int}{m k:Nat}(hk:k<C.length+m) (h0:∀x∈C,0≤x∧x≤1000000000000):0≤(C++List.replicate m 0).getD k 0∧(C++List.replicate m 0).getD k 0≤1000000000000:=by
 rw[jKz,vM3];split
 ·rename_i h;rw[jD9 h];exact h0 _ (jCn h)
 ·rename_i h;rw[yDc,if_pos zo];simp
@[go_sem] def k6j:Ctr:=pur (fun args=>(prA args 0,kOw (aR args 1),aI args 2)) (fun x=>[.agg [.sl 3 (x.1.1.map kAc),.sl 1 (x.1.2.map encI)],.sl 2 (x.2.1.map kAe),vi x.2.2])
 (fun x=>(x.1.1.length+x.2.1.length≤4398046511104∧(∀n∈x.1.1,n.name.size≤1099511627776)∧x.1.2.length≤4398046511104)∧∀f∈x.2.1,f.name.size≤1099511627776)
 (fun d x=>.tup [.agg [.own d,.own (d+1000)],.v (.bool (kAr x.1.1 x.1.2 x.2.1 x.2.2).2)]) (fun d x=>[(d,.sl 231 3 ((kAr x.1.1 x.1.2 x.2.1 x.2.2).1.1.map kAc)),(d+1000,.sl 3 1 ((kAr x.1.1 x.1.2 x.2.1 x.2.2).1.2.map encI))])
theorem addNo {N:List Node}{C:List Int}{L:List Frame}{n:Int}(h:kA8 N C=false∨n<0∨1000000000000<n∨(intern N L).2<0):kAr N C L n=((N,C),false):=by
 unfold kAr;rw[if_neg];rintro⟨h1,h2,h3,h4,_⟩;rcases h with h|h|h|h
 ·rw[h1]at h;cases h
 ·omega
 ·omega
 ·omega
section
def cxAsS:=kc k99 (kc c58 (kc qAb (kc qM1 kn)))
theorem k3e {p:Prop}(h:p:=by first|omega|(simp only;omega)|exact hs _ ‹_›|exact hL _ ‹_›|exact⟨_,_,_,rfl⟩|exact⟨_,_,rfl,_,_,rfl,rfl⟩):p:=h
theorem k3f {p:Prop}(h:p:=by first|omega|exact rlI ‹_›|exact⟨_,_,_,rfl⟩|exact⟨_,_,rfl,_,_,rfl,rfl⟩):p:=h
theorem k3g {p:Prop}(h:p:=by first|omega|(simp only;omega)|exact hin _ ‹_›|exact⟨_,_,_,rfl⟩|exact⟨_,_,rfl,_,_,rfl,rfl⟩):p:=h
theorem qGk:Cq 36 k6j:=by
 refine zp fun d x hx=>?_
 obtain⟨⟨N,C⟩,L,n⟩:=x;obtain⟨⟨hN,hs,hC⟩,hL⟩:=hx;simp only at hN hs hC hL⊢;have hil:=kU5 N L;have hia:=k5o N L;have hin:=kWw (B:=1099511627776) hs hL;have hadd:kA8 N C=false∨n<0∨1000000000000<n∨(intern N L).2<0→kAr N C L n=((N,C),false):=addNo
 have hyes:kA8 N C=true→0≤n→n≤1000000000000→0≤(intern N L).2→kAr N C L n=if kA8 (intern N L).1 (kP6 C (intern N L).1.length (intern N L).2.toNat n)=true then(((intern N L).1,kP6 C (intern N L).1.length (intern N L).2.toNat n),true)else((N,C),false):=fun h1 h2 h3 h4=>by
  unfold kAr;by_cases hp:kA8 (intern N L).1 (kP6 C (intern N L).1.length (intern N L).2.toNat n)=true
  ·rw[if_pos hp,if_pos ⟨h1,h2,h3,h4,hp⟩]
  ·rw[if_neg hp,if_neg fun hc=>hp hc.2.2.2.2]
 generalize hI:intern N L=I at *;obtain⟨M,at'⟩:=I;simp only at hil hia hin hadd hyes;generalize hA:kAr N C L n=A at *;refine zg cxAsS func36 rfl rfl ntmps36 ?_;intros
 (repeat' (first|apply zS|apply zB|((first|apply zW| refine zd 10 ?_);simp only[go_sem,hI])|apply jAi|exact k3e|intro _))
 iterate 3
  ·rename_i h;have e:=hadd (h.elim .inl fun h=>.inr (h.elim .inl fun h=>.inr (.inl h)))
   subst e
   first|rfl|exact if_neg zo
 iterate 3
  ·rename_i h1 h;have e:=hadd (.inr (.inr (.inr h)));subst e
   first|rfl|exact if_neg zo
 rename_i h h0;obtain⟨hpo,hn0,hn1⟩:=h;have hy:=hyes hpo hn0 hn1 zo;obtain⟨_,hlen,hcnt⟩:=kDo.1 hpo
 have hpos:∀x∈C,0≤x∧x≤1000000000000:=fun x hx=>by
  obtain⟨j,hj,rfl⟩:=jWa.1 hx;have h1:=kO6 hcnt j hj;have h2:=kJ0 hpo j zo;omega
 refine zL (fun j:Nat=>⟨[(2,vi n),(3,.ptr 3 0 0 0),(6,.ptr 6 0 0 0),(8,.ptr 8 0 0 0),(9,.ptr 9 0 0 0),(10,vi at')],
  [(3,.box 63 [.sl 3 (N.map kAc),.sl 1 (C.map encI)]),(6,.box 63 [.v (.slice none 0 0),.v (.slice none 0 0)]),(8,.box 63 [.own 27,.own 1022]),(9,.box 61 [.own 27]),(27,.sl 231 3 (M.map kAc)),(1022,.sl 3 1 ((C++List.replicate j 0).map encI))]⟩)
  (fun j=>C.length+j≤M.length) (fun j=>M.length-j) 0 zo ?_ ?_
 ·have e0:C++List.replicate 0 0=C:=by simp
  (simp only[go_sem,e0]<;>(first|(and_intros<;>rfl)|simp))
 intro j hj;have hcl:(C++List.replicate j (0:Int)).length=C.length+j:=by simp
 by_cases hlt:C.length+j<M.length
 ·have hpad:=padC C j
  (repeat' (first|apply zS|apply zB|((first|apply zW| refine zd 10 ?_);simp only[go_sem,hcl,hpad])|apply jAi|exact k3f|intro _))
  all_goals exact⟨j+1,zo,zo,zh⟩
 ·have hj2:j=M.length-C.length:=zo;have hk:at'.toNat<(C++List.replicate j (0:Int)).length:=zo;have h1:=kAa encI (C++List.replicate j 0) at'.toNat hk;have hb:=qAd (C:=C) (m:=j) (k:=at'.toNat) zo hpos;have hg:(C++List.replicate j (0:Int))[at'.toNat]=(C++List.replicate j 0).getD at'.toNat 0:=by rw[jKz,jD9 hk];rfl
  rw[hg]at h1;have hset:kP6 C M.length at'.toNat n=(C++List.replicate j 0).set at'.toNat ((C++List.replicate j 0).getD at'.toNat 0+n):=by rw[hj2];rfl
  have hal:=k0i C M.length at'.toNat n;rw[hset]at hy hal;generalize(C++List.replicate j (0:Int)).getD at'.toNat 0=v at *;have hse:((C++List.replicate j 0).map encI).set at'.toNat [SV.v (.int .i64 (v+n))]=((C++List.replicate j 0).set at'.toNat (v+n)).map encI:=by rw[vDv];rfl
  generalize(C++List.replicate j (0:Int)).set at'.toNat (v+n)=D at *
  (repeat' (first|apply zS|apply zB|((first|apply zW| refine zd 10 ?_);simp only[go_sem,hcl,h1,hse,encI])|apply jAi|exact k3g|intro _))
  iterate 3
   ·rename_i h8 hf;have e:A=((N,C),false):=by rw[hy,if_neg (by rw[hf];simp)]
    subst e
    first|rfl|exact if_neg zo
  iterate 3
   ·rename_i h8 hf;have e:A=((M,D),true):=by rw[hy,if_pos hf]
    subst e
    first|rfl|exact if_neg zo
end
section
def cxAsI:=kc qAa (kc c60 (kc qAc (kc qM2 kn)))
theorem qGj:Cq 51 k6j:=by
 refine zp fun d x hx=>?_
 obtain⟨⟨N,C⟩,L,n⟩:=x;obtain⟨⟨hN,hs,hC⟩,hL⟩:=hx;simp only at hN hs hC hL⊢;have hil:=kU5 N L;have hia:=k5o N L;have hin:=kWw (B:=1099511627776) hs hL;have hadd:kA8 N C=false∨n<0∨1000000000000<n∨(intern N L).2<0→kAr N C L n=((N,C),false):=addNo
 have hyes:kA8 N C=true→0≤n→n≤1000000000000→0≤(intern N L).2→kAr N C L n=if kA8 (intern N L).1 (kP6 C (intern N L).1.length (intern N L).2.toNat n)=true then(((intern N L).1,kP6 C (intern N L).1.length (intern N L).2.toNat n),true)else((N,C),false):=fun h1 h2 h3 h4=>by
  unfold kAr;by_cases hp:kA8 (intern N L).1 (kP6 C (intern N L).1.length (intern N L).2.toNat n)=true
  ·rw[if_pos hp,if_pos ⟨h1,h2,h3,h4,hp⟩]
  ·rw[if_neg hp,if_neg fun hc=>hp hc.2.2.2.2]
 generalize hI:intern N L=I at *;obtain⟨M,at'⟩:=I;simp only at hil hia hin hadd hyes;generalize hA:kAr N C L n=A at *;refine zg cxAsI func51 rfl rfl ntmps51 ?_;intros
 (repeat' (first|apply zS|apply zB|(apply zW;simp only[go_sem,hI])|apply jAi|exact k3e|intro _))
 iterate 3
  ·rename_i h;have e:=hadd (h.elim .inl fun h=>.inr (h.elim .inl fun h=>.inr (.inl h)))
   subst e
   first|rfl|exact if_neg zo
 iterate 3
  ·rename_i h1 h;have e:=hadd (.inr (.inr (.inr h)));subst e
   first|rfl|exact if_neg zo
 rename_i h h0;obtain⟨hpo,hn0,hn1⟩:=h;have hy:=hyes hpo hn0 hn1 zo;obtain⟨_,hlen,hcnt⟩:=kDo.1 hpo
 have hpos:∀x∈C,0≤x∧x≤1000000000000:=fun x hx=>by
  obtain⟨j,hj,rfl⟩:=jWa.1 hx;have h1:=kO6 hcnt j hj;have h2:=kJ0 hpo j zo;omega
 refine zL (fun j:Nat=>⟨[(2,vi n),(3,.ptr 3 0 0 0),(6,.ptr 6 0 0 0),(8,.ptr 8 0 0 0),(9,.ptr 9 0 0 0),(10,vi at')],
  [(3,.box 63 [.sl 3 (N.map kAc),.sl 1 (C.map encI)]),(6,.box 63 [.v (.slice none 0 0),.v (.slice none 0 0)]),(8,.box 63 [.own 27,.own 1022]),(9,.box 61 [.own 27]),(27,.sl 231 3 (M.map kAc)),(1022,.sl 3 1 ((C++List.replicate j 0).map encI))]⟩)
  (fun j=>C.length+j≤M.length) (fun j=>M.length-j) 0 zo ?_ ?_
 ·have e0:C++List.replicate 0 0=C:=by simp
  (simp only[go_sem,e0]<;>(first|(and_intros<;>rfl)|simp))
 intro j hj;have hcl:(C++List.replicate j (0:Int)).length=C.length+j:=by simp
 by_cases hlt:C.length+j<M.length
 ·have hpad:=padC C j
  (repeat' (first|apply zS|apply zB|(apply zW;simp only[go_sem,hcl,hpad])|apply jAi|exact k3f|intro _))
  all_goals exact⟨j+1,zo,zo,zh⟩
 ·have hj2:j=M.length-C.length:=zo;have hk:at'.toNat<(C++List.replicate j (0:Int)).length:=zo;have h1:=kAa encI (C++List.replicate j 0) at'.toNat hk;have hb:=qAd (C:=C) (m:=j) (k:=at'.toNat) zo hpos;have hg:(C++List.replicate j (0:Int))[at'.toNat]=(C++List.replicate j 0).getD at'.toNat 0:=by rw[jKz,jD9 hk];rfl
  rw[hg]at h1;have hset:kP6 C M.length at'.toNat n=(C++List.replicate j 0).set at'.toNat ((C++List.replicate j 0).getD at'.toNat 0+n):=by rw[hj2];rfl
  have hal:=k0i C M.length at'.toNat n;rw[hset]at hy hal;generalize(C++List.replicate j (0:Int)).getD at'.toNat 0=v at *;have hse:((C++List.replicate j 0).map encI).set at'.toNat [SV.v (.int .i64 (v+n))]=((C++List.replicate j 0).set at'.toNat (v+n)).map encI:=by rw[vDv];rfl
  generalize(C++List.replicate j (0:Int)).set at'.toNat (v+n)=D at *
  (repeat' (first|apply zS|apply zB|(apply zW;simp only[go_sem,hcl,h1,hse,encI])|apply jAi|exact k3g|intro _))
  iterate 3
   ·rename_i h8 hf;have e:A=((N,C),false):=by rw[hy,if_neg (by rw[hf];simp)]
    subst e
    first|rfl|exact if_neg zo
  iterate 3
   ·rename_i h8 hf;have e:A=((M,D),true):=by rw[hy,if_pos hf]
    subst e
    first|rfl|exact if_neg zo
end
end
section
open Go.Vc
def b7 (s:ByteArray) (i:Nat):Int:=((s[i]!).toNat:Int)%128
def kHx (s:ByteArray) (a:Nat):Nat→Int
 | 0=>0
 |k+1=>kHx s a k+b7 s (a+k)*128 ^ k
theorem b7_bd (s:ByteArray) (i:Nat):0≤b7 s i∧b7 s i≤127:=by unfold b7;omega
theorem kMh (s:ByteArray) (a:Nat):∀k,0≤kHx s a k∧kHx s a k<128 ^ k
 | 0=>by unfold kHx;omega
 |k+1=>by
  obtain⟨h1,h2⟩:=kMh s a k;obtain⟨h3,h4⟩:=b7_bd s (a+k);have hp:(0:Int)<128 ^ k:=Int.pow_pos zo;unfold kHx;rw[Int.pow_succ];have h5:b7 s (a+k)*128 ^ k≤127*128 ^ k:=vUa h4 zo;have h6:0≤b7 s (a+k)*128 ^ k:=Int.mul_nonneg h3 zo;omega
def kMi (s:ByteArray) (a:Nat):Nat→Nat→Option (Int×Nat)
 | _,0=>none
 |k,f+1=>if a+k<s.size then(if(s[a+k]!).toNat<128 then(if varint (kHx s a (k+1))=s.extract a (a+k+1)then some (kHx s a (k+1),k+1)else none)else kMi s a (k+1) f)else none
def kBt (s:ByteArray) (a:Int):Option (Int×Nat):=if 0≤a then kMi s a.toNat 0 6 else none
theorem qCe {s:ByteArray}{a:Nat}{n:Int}{m:Nat}:∀{f k:Nat},kMi s a k f=some (n,m)→k+f≤6→0≤n∧n<4398046511104∧1≤m∧m≤6∧a+m≤s.size
 | 0,k,h,_=>by cases h
 |f+1,k,h,hk=>by
  unfold kMi at h;split at h
  ·split at h
   ·split at h
    ·simp only[jBf,jCx]at h;obtain⟨rfl,rfl⟩:=h;obtain⟨h1,h2⟩:=kMh s a (k+1)
     have h3:(128:Int) ^ (k+1)≤4398046511104:=by
      have hc:k=0∨k=1∨k=2∨k=3∨k=4∨k=5:=zo;rcases hc with rfl|rfl|rfl|rfl|rfl|rfl<;>decide
     omega
    ·cases h
   ·exact qCe h zo
  ·cases h
theorem qCf {s:ByteArray}{a:Int}{n:Int}{m:Nat}(h:kBt s a=some (n,m)):0≤a∧0≤n∧n<4398046511104∧1≤m∧m≤6∧a+m≤s.size:=by
 unfold kBt at h;split at h
 ·have:=qCe h zo;omega
 ·cases h
def sgd (n:Int):Int:=if 0≤n∧n≤1099511627775 then(if n.tmod 2=0 then n.tdiv 2 else -(n.tdiv 2)-1)else 0
def kF7 (s:ByteArray) (a:Int):Nat→Int→Option (List Int×Int)
 | 0,size=>some ([],size)
 |n+1,size=>match kBt s (a+size)with
  |none=>none
  |some (v,m)=>match kF7 s a n (size+m)with
   |none=>none
   |some (L,z)=>some (sgd v::L,z)
def unpack (s:ByteArray) (a:Int):Option (List Int×Int):=match kBt s a with
 |none=>none
 |some (n,m)=>kF7 s a n.toNat m
theorem kYr {s:ByteArray}{a:Int}:∀{n:Nat}{size:Int}{L:List Int}{z:Int},kF7 s a n size=some (L,z)→L.length=n∧size+n≤z∧(0<n→a+z≤s.size)∧(n=0→z=size)
 | 0,size,L,z,h=>by
  simp only[kF7,jBf,jCx]at h;obtain⟨rfl,rfl⟩:=h
  simp
 |n+1,size,L,z,h=>by
  unfold kF7 at h
  cases hd:kBt s (a+size)with
  |none=>rw[hd]at h;cases h
  |some q =>
   obtain⟨v,m⟩:=q;rw[hd]at h;simp only at h
   cases hu:kF7 s a n (size+m)with
   |none=>rw[hu]at h;cases h
   |some q2 =>
    obtain⟨L2,z2⟩:=q2;rw[hu]at h;simp only[jBf,jCx]at h;obtain⟨rfl,rfl⟩:=h;obtain⟨h1,h2,h3,h4⟩:=kYr hu;have:=qCf hd;refine⟨by rw[jGk,h1],by push_cast;omega,fun _=>?_,fun h=>by omega⟩
    rcases vVo n with h0|h0
    ·have:=h4 h0;omega
    ·exact h3 h0
def kDs (s:ByteArray):Option (Int×Vw):=match kBt s 0 with
 |none=>none
 |some (t,a)=>match unpack s a with
  |some (p::q::f::w,_)=>if kE8 (t,⟨p,q,f,w⟩)=s then some (t,⟨p,q,f,w⟩)else none
  | _=>none
def kJw (x:RgX) (n:Int):RgX×List ByteArray:=if kEu x=true∧0≤n then((x.1,x.2.1.drop (min n x.2.1.length).toNat,x.2.2.1,x.2.2.2),x.2.1.take (min n x.2.1.length).toNat)else(x,[])
def kLg (a:AgX) (starts:Bool) (r:Rep) (s:ByteArray):Rep:=match kDs s with
 |none=>⟨r.N,r.C,r.kept,r.skip+1⟩
 |some x=>match kCf a x starts with
  |none=>⟨r.N,r.C,r.kept,r.skip+1⟩
  |some F=>if(kAr r.N r.C F 1).2=true then⟨(kAr r.N r.C F 1).1.1,(kAr r.N r.C F 1).1.2,r.kept+1,r.skip⟩else⟨r.N,r.C,r.kept,r.skip+1⟩
def kQg (a:AgX) (starts:Bool) (r:Rep) (L:List ByteArray):Rep:=L.foldl (kLg a starts) r
def collect (a:AgX) (s:SeX) (r:Rep) (starts:Bool):SeX×Rep :=
 if kBb a=true∧kAx s=true∧kKk r=true then((s.1,s.2.1,(kJw s.2.2.1 s.2.2.1.2.1.length).1,s.2.2.2),kQg a starts r (kJw s.2.2.1 s.2.2.1.2.1.length).2)else(s,r)
end
section
open Go.Vc
theorem or7 {a c:Int}{k:Nat}(hk:k≤5) (a0:0≤a) (a1:a<2 ^ (7*k)) (h0:0≤c) (h1:c≤127):kSe .i64 a (c*2 ^ (7*k))=a+c*2 ^ (7*k):=by
 obtain⟨x,rfl⟩:=vWc a0;obtain⟨y,rfl⟩:=vWc h0;have hp:2 ^ (7*k)≤2 ^ 35:=Nat.pow_le_pow_right zo zo
 have hx:x<2 ^ (7*k):=by
  have:((x:Nat):Int)<((2 ^ (7*k):Nat):Int):=by push_cast;exact a1
  omega
 have hy:y≤127:=zo;have e1:((y:Int)*2 ^ (7*k))=((y*2 ^ (7*k):Nat):Int):=by push_cast;rfl
 have hyb:y*2 ^ (7*k)≤127*2 ^ 35:=Nat.mul_le_mul hy hp;rw[e1];unfold kSe
 have ex:(BitVec.ofInt IntKind.i64.bits (x:Int)).toNat=x:=by
  show(BitVec.ofInt 64 (x:Int)).toNat=x
  rw[vP9];omega
 have ey:(BitVec.ofInt IntKind.i64.bits ((y*2 ^ (7*k):Nat):Int)).toNat=y*2 ^ (7*k):=by
  show(BitVec.ofInt 64 ((y*2 ^ (7*k):Nat):Int)).toNat=_
  rw[vP9];omega
 rw[BitVec.toNat_or,ex,ey]
 have:x ||| y*2 ^ (7*k)=x+y*2 ^ (7*k):=by
  have:=Nat.shiftLeft_add_eq_or_of_lt hx y;rw[Nat.shiftLeft_eq]at this;rw[Nat.or_comm,←this,Nat.add_comm]
 rw[this];rw[show IntKind.i64.wrap ((x+y*2 ^ (7*k):Nat):Int)=((x+y*2 ^ (7*k):Nat):Int)from IntWalk.i64_in _ ⟨zo,zo⟩]
 push_cast;rfl
theorem and7 {a:Int}(h0:0≤a) (h1:a≤255):kEs .i64 a 127=a%128:=by
 obtain⟨x,rfl⟩:=vWc h0;have hx:x≤255:=zo;unfold kEs
 have ex:(BitVec.ofInt IntKind.i64.bits (x:Int)).toNat=x:=by
  show(BitVec.ofInt 64 (x:Int)).toNat=x
  rw[vP9];omega
 have ey:(BitVec.ofInt IntKind.i64.bits 127).toNat=2 ^ 7-1:=by decide
 rw[vZk,ex,ey,yFn];rw[show IntKind.i64.wrap ((x%2 ^ 7:Nat):Int)=((x%2 ^ 7:Nat):Int)from IntWalk.i64_in _ ⟨zo,zo⟩]
 omega
theorem and7u {a:Int}(h0:0≤a) (h1:a≤255):kEs .u8 a 127=a%128:=by
 obtain⟨x,rfl⟩:=vWc h0;have hx:x≤255:=zo;unfold kEs
 have ex:(BitVec.ofInt IntKind.u8.bits (x:Int)).toNat=x:=by
  show(BitVec.ofInt 8 (x:Int)).toNat=x
  rw[vP9];omega
 have ey:(BitVec.ofInt IntKind.u8.bits 127).toNat=2 ^ 7-1:=by decide
 rw[vZk,ex,ey,yFn]
 have h:∀n:Nat,n≤127→IntKind.u8.wrap (n:Int)=n:=fun n hn=>by
  rw[IntKind.wrap_u8];omega
 rw[h _ zo];omega
theorem shl7 {c:Int}{k:Nat}(hk:k≤5) (h0:0≤c) (h1:c≤127):shL .i64 c ((7*k:Nat):Int)=c*2 ^ (7*k):=by
 unfold shL
 have hp:(2:Int) ^ (7*k)≤2 ^ 35:=by
  have hc:k=0∨k=1∨k=2∨k=3∨k=4∨k=5:=zo;rcases hc with rfl|rfl|rfl|rfl|rfl|rfl<;>decide
 have hp0:(0:Int)<2 ^ (7*k):=Int.pow_pos zo
 have hm:min ((7*k:Nat):Int).toNat IntKind.i64.bits=7*k:=by
  rw[jB2];show min (7*k) 64=7*k
  omega
 rw[hm];have h2:c*2 ^ (7*k)≤127*2 ^ (7*k):=vUa h1 zo;have h3:0≤c*2 ^ (7*k):=Int.mul_nonneg h0 zo;exact IntWalk.i64_in _ ⟨zo,zo⟩
theorem p128 (k:Nat):(128:Int) ^ k=2 ^ (7*k):=by
 rw[Int.pow_mul];rfl
theorem qCj {s:ByteArray}{a k:Nat}(hk:k≤5):kSe .i64 (kHx s a k) (shL .i64 (((s[a+k]!).toNat:Int)%128) ((7*k:Nat):Int))=kHx s a (k+1):=by
 obtain⟨h1,h2⟩:=kMh s a k;rw[p128]at h2;rw[shl7 hk zo zo,or7 hk h1 h2 zo zo];show _=kHx s a k+b7 s (a+k)*128 ^ k
 rw[p128];rfl
end
section
open Go.Vc
theorem kSs {s:ByteArray}{a k f:Nat}(h:¬a+k<s.size):kMi s a k f=none:=by
 cases f with
 |zero=>rfl
 |succ f=>unfold kMi;rw[if_neg h]
theorem k5j (s:ByteArray) (a k:Nat):kMi s a k 0=none:=rfl
theorem kWr {s:ByteArray}{a k f:Nat}(h:a+k<s.size) (hb:¬(s[a+k]!).toNat<128):kMi s a k (f+1)=kMi s a (k+1) f:=by
 rw[kMi,if_pos h,if_neg hb]
theorem k0g {s:ByteArray}{a k f:Nat}(h:a+k<s.size) (hb:(s[a+k]!).toNat<128):kMi s a k (f+1)=if varint (kHx s a (k+1))=s.extract a (a+k+1)then some (kHx s a (k+1),k+1)else none:=by
 rw[kMi,if_pos h,if_pos hb]
theorem k8w {s:ByteArray}{a:Nat}{n:Int}{m:Nat}:∀{f k:Nat},kMi s a k f=some (n,m)→varint n=s.extract a (a+m)∧1≤m∧a+m≤s.size
 | 0,k,h=>by cases h
 |f+1,k,h=>by
  by_cases h1:a+k<s.size
  ·by_cases h2:(s[a+k]!).toNat<128
   ·rw[k0g h1 h2]at h;split at h
    ·rename_i hv;simp only[jBf,jCx]at h;obtain⟨rfl,rfl⟩:=h;exact⟨hv,zo,zo⟩
    ·cases h
   ·rw[kWr h1 h2]at h;exact k8w h
  ·rw[kSs h1]at h;cases h
theorem kD5 {s:ByteArray}{a n:Int}{m:Nat}(h:kBt s a=some (n,m)):(varint n).size=m∧1≤m∧0≤n∧n≤1099511627775∧0≤a∧a+m≤s.size∧m≤6:=by
 have h0:=qCf h;unfold kBt at h;split at h
 ·obtain⟨h1,h2,h3⟩:=k8w h;have h4:(varint n).size=m:=by rw[h1,ByteArray.size_extract];omega
  refine⟨h4,h2,h0.2.1,?_,h0.1,h0.2.2.2.2.2,h0.2.2.2.2.1⟩;refine wGl.1 fun hn=>?_
  have:varint n=⟨#[]⟩:=by unfold varint;rw[if_neg zo]
  rw[this]at h4;have:(⟨#[]⟩:ByteArray).size=0:=rfl;omega
 ·cases h
theorem k0h {v:Int}(h0:0≤v) (h1:v≤1099511627775):sgd v=if v.tmod 2=0 then v.tdiv 2 else -(v.tdiv 2)-1:=by unfold sgd;rw[if_pos ⟨h0,h1⟩]
theorem qCk {v:Int}(h0:0≤v) (h1:v≤1099511627775):sgl (sgd v)=v:=by
 have hd:=vJ3 (b:=2) h0;have hm:=vWs (b:=2) h0;rw[k0h h0 h1,hd,hm];unfold sgl;split
 ·split
  ·rw[if_neg zo];omega
  ·omega
 ·split
  ·rw[if_pos zo];omega
  ·omega
theorem sgd_bd (v:Int):-549755813888≤sgd v∧sgd v≤549755813887:=by
 unfold sgd;split
 ·rename_i h;have hd:=vJ3 (b:=2) h.1;have hm:=vWs (b:=2) h.1;rw[hd,hm];split<;>omega
 ·omega
theorem qE7 (acc:ByteArray) (x:Int) (L:List Int):kIf acc (x::L)=kIf (acc++varint (sgl x)) L:=rfl
theorem k5k {s:ByteArray}{a:Int}:∀{n:Nat}{size:Int}{L:List Int}{z:Int},kF7 s a n size=some (L,z)→kKl L=true∧∀acc:ByteArray,((kIf acc L).size:Int)=acc.size+(z-size)
 | 0,size,L,z,h=>by
  simp only[kF7,jBf,jCx]at h;obtain⟨rfl,rfl⟩:=h
  exact⟨rfl,fun acc=>by show((acc).size:Int)=_;omega⟩
 |n+1,size,L,z,h=>by
  unfold kF7 at h
  cases hd:kBt s (a+size)with
  |none=>rw[hd]at h;cases h
  |some q =>
   obtain⟨v,m⟩:=q;rw[hd]at h;simp only at h
   cases hu:kF7 s a n (size+m)with
   |none=>rw[hu]at h;cases h
   |some q2 =>
    obtain⟨L2,z2⟩:=q2;rw[hu]at h;simp only[jBf,jCx]at h;obtain⟨rfl,rfl⟩:=h;obtain⟨h1,h2⟩:=k5k hu;obtain⟨g1,g2,g3,g4,_⟩:=kD5 hd;refine⟨?_,fun acc=>?_⟩
    ·show(decide (0≤sgl (sgd v))&&kKl L2)=true
     rw[h1,qCk g3 g4,jXj];exact decide_eq_true g3
    ·rw[qE7,h2,yAt,qCk g3 g4,g1];push_cast;omega
theorem kKb {s:ByteArray}{a:Int}(h:kBt s a=none):unpack s a=none:=by unfold unpack;rw[h]
theorem kPo {s:ByteArray}{a n:Int}{m:Nat}(h:kBt s a=some (n,m)):unpack s a=kF7 s a n.toNat m:=by unfold unpack;rw[h]
theorem qE8 {s:ByteArray}{a n:Int}{m:Nat}(h:kBt s a=some (n,m)) (hn:n>s.size):unpack s a=none:=by
 rw[kPo h];have h1:=kD5 h
 cases hu:kF7 s a n.toNat m with
 |none=>rfl
 |some q =>
  obtain⟨L,z⟩:=q;obtain⟨h2,h3,h4,_⟩:=kYr hu;have:=h4 zo;omega
theorem kWs {s:ByteArray}{a z:Int}{L:List Int}(h:unpack s a=some (L,z)):0≤z∧a+z≤s.size∧(L.length:Int)≤z∧∀x∈L,-549755813888≤x∧x≤549755813887:=by
 cases hd:kBt s a with
 |none=>rw[kKb hd]at h;cases h
 |some q =>
  obtain⟨n,m⟩:=q;rw[kPo hd]at h;obtain⟨h2,h3,h4,h5⟩:=kYr h;have h1:=kD5 hd;refine⟨zo,?_,zo,?_⟩
  ·rcases vVo n.toNat with h0|h0
   ·have:=h5 h0;omega
   ·exact h4 h0
  ·exact mem h
where
 mem {s:ByteArray}{a:Int}:∀{n:Nat}{size:Int}{L:List Int}{z:Int},kF7 s a n size=some (L,z)→∀x∈L,-549755813888≤x∧x≤549755813887
  | 0,size,L,z,h=>by
   simp only[kF7,jBf,jCx]at h;obtain⟨rfl,rfl⟩:=h
   intro x hx;cases hx
  |n+1,size,L,z,h=>by
   unfold kF7 at h
   cases hd:kBt s (a+size)with
   |none=>rw[hd]at h;cases h
   |some q =>
    obtain⟨v,m⟩:=q;rw[hd]at h;simp only at h
    cases hu:kF7 s a n (size+m)with
    |none=>rw[hu]at h;cases h
    |some q2 =>
     obtain⟨L2,z2⟩:=q2;rw[hu]at h;simp only[jBf,jCx]at h;obtain⟨rfl,rfl⟩:=h;intro x hx;rcases jDr.1 hx with rfl|hx
     ·exact sgd_bd v
     ·exact mem hu x hx
theorem qBk {s:ByteArray}{a z:Int}{L:List Int}(h:unpack s a=some (L,z)):((pack L).size:Int)=z:=by
 cases hd:kBt s a with
 |none=>rw[kKb hd]at h;cases h
 |some q =>
  obtain⟨n,m⟩:=q;rw[kPo hd]at h;obtain⟨h2,_⟩:=kYr h;obtain⟨h3,h4⟩:=k5k h;have h1:=kD5 hd;unfold pack;rw[if_pos h3,h4,h2,show((n.toNat:Nat):Int)=n by omega,h1.1]
  omega
theorem qId (s:ByteArray) (a:Int) (n:Nat) (size:Int):kF7 s a (n+1) size=(match kBt s (a+size)with
  |none=>none
  |some (v,m)=>match kF7 s a n (size+m)with
   |none=>none
   |some (L,z)=>some (sgd v::L,z)):=rfl
theorem qN2 {s:ByteArray}{a size:Int}{n:Nat}(h:kBt s (a+size)=none):kF7 s a (n+1) size=none:=by unfold kF7;rw[h]
theorem qLu {s:ByteArray}{a size v:Int}{n m:Nat}(h:kBt s (a+size)=some (v,m)) (L:List Int):(kF7 s a (n+1) size).map (fun q=>(L++q.1,q.2))=(kF7 s a n (size+m)).map (fun q=>(L++[sgd v]++q.1,q.2)):=by
 rw[qId,h];simp only
 cases kF7 s a n (size+m)with
 |none=>rfl
 |some q=>simp
def k2i (s:ByteArray) (t:Int) (L:List Int):Option (Int×Vw):=match L with
 |p::q::f::w=>if kE8 (t,⟨p,q,f,w⟩)=s then some (t,⟨p,q,f,w⟩)else none
 | _=>none
theorem kTi {s:ByteArray}(h:kBt s 0=none):kDs s=none:=by unfold kDs;rw[h]
theorem kTj {s:ByteArray}{t:Int}{a:Nat}(h:kBt s 0=some (t,a)) (h2:unpack s a=none):kDs s=none:=by unfold kDs;rw[h];simp only;rw[h2]
theorem kU4 {s:ByteArray}{t z:Int}{a:Nat}{L:List Int}(h:kBt s 0=some (t,a)) (h2:unpack s a=some (L,z)):kDs s=k2i s t L:=by
 unfold kDs;rw[h];simp only;rw[h2];unfold k2i
 match L with
 | []=>rfl
 | [_]=>rfl
 | [_,_]=>rfl
 |p::q::f::w=>rfl
theorem kRj {s:ByteArray}{t:Int}{L:List Int}(h:L.length<3):k2i s t L=none:=by
 match L,h with
 | [],_=>rfl
 | [_],_=>rfl
 | [_,_],_=>rfl
 |p::q::f::w,h=>simp at h;omega
theorem qE9 {L:List Int}(h:¬L.length<3):∃p q f w,L=p::q::f::w:=by
 match L,h with
 |p::q::f::w,_=>exact⟨p,q,f,w,rfl⟩
 | [],h=>simp at h
 | [_],h=>simp at h
 | [_,_],h=>simp at h
theorem qIe {s:ByteArray}{t z p q f:Int}{a:Nat}{w:List Int}(h:kBt s 0=some (t,a)) (h2:unpack s a=some (p::q::f::w,z)) (he:kE8 (t,⟨p,q,f,w⟩)=s):(a:Int)+z=s.size:=by
 have h1:=kD5 h;have h3:=qBk h2;unfold kE8 at he;split at he
 ·rw[←he,yAt,h1.1];push_cast;omega
 ·have:s.size=0:=by rw[←he];rfl
  omega
theorem qIb {s:ByteArray}{x:Int×Vw}(h:kDs s=some x):kHi x=true∧kHj x.2:=by
 cases hd:kBt s 0 with
 |none=>rw[kTi hd]at h;cases h
 |some q =>
  obtain⟨t,a⟩:=q
  cases hu:unpack s a with
  |none=>rw[kTj hd hu]at h;cases h
  |some q2 =>
   obtain⟨L,z⟩:=q2;rw[kU4 hd hu]at h;by_cases hl:L.length<3
   ·rw[kRj hl]at h;cases h
   ·obtain⟨p,q,f,w,rfl⟩:=qE9 hl;unfold k2i at h;simp only at h;split at h
    ·rename_i he;rw[jBf]at h;subst h;obtain⟨_,_,_,hm⟩:=kWs hu
     have hok:kHi (t,⟨p,q,f,w⟩)=true:=by
      cases hok:kHi (t,(⟨p,q,f,w⟩:Vw))with
      |true=>rfl
      |false =>
       unfold kE8 at he;rw[hok]at he;have:s.size=0:=by rw[←he];rfl
       have:=kD5 hd;omega
     have hv:=kO3.1 (qN3 hok);simp only at hv;have e:=fun x hx=>hm x hx
     have e1:=e p zs;have e2:=e q zs;have e3:=e f zs;exact⟨hok,⟨by show(-4398046511104:Int)≤p;omega,by show p≤(4398046511104:Int);omega⟩,⟨by show(-4398046511104:Int)≤q;omega,by show q≤(4398046511104:Int);omega⟩,⟨by show(-4398046511104:Int)≤f;omega,by show f≤(4398046511104:Int);omega⟩,by show w.length≤4194304;omega,fun x hx=>by have:=e x (by simp[hx]);exact⟨zo,zo⟩⟩
    ·cases h
where
 qN3 {x:Int×Vw}(h:kHi x=true):kE1 x.2=true:=by
  unfold kHi at h;simp only[jBs]at h;exact h.1.1.1.2
end
section
open Go.Vc Tryz
def dvN (s:ByteArray) (a:Int):Int:=((kBt s a).map (·.1)).getD 0
def dvM (s:ByteArray) (a:Int):Int:=((((kBt s a).map (·.2)).getD 0:Nat):Int)
theorem kGm {s:ByteArray}{a:Int}(h:kBt s a=none):dvN s a=0∧dvM s a=0∧(kBt s a).isSome=false:=by unfold dvN dvM;rw[h];exact⟨rfl,rfl,rfl⟩
theorem kMw {s:ByteArray}{a n:Int}{m:Nat}(h:kBt s a=some (n,m)):dvN s a=n∧dvM s a=m∧(kBt s a).isSome=true:=by unfold dvN dvM;rw[h];exact⟨rfl,rfl,rfl⟩
@[go_sem] def kDecV:Ctr:=pur (fun args=>(aS args 0,aI args 1)) (fun x=>[.v (.string x.1),vi x.2]) (fun x=>x.1.size≤4194304∧x.2≤1099511627776∧-1099511627776≤x.2)
 (fun _ x=>.tup [vi (dvN x.1 x.2),vi (dvM x.1 x.2),.v (.bool (kBt x.1 x.2).isSome)]) (fun _ _=>[])
@[go_sem] def kSgd:Ctr:=pur (fun args=>aI args 0) (fun n=>[vi n]) (fun _=>True) (fun _ n=>vi (sgd n)) (fun _ _=>[])
theorem and1 {a:Int}(h0:0≤a) (h1:a≤1099511627775):kEs .i64 a 1=a%2:=by
 obtain⟨x,rfl⟩:=vWc h0;unfold kEs
 have ex:(BitVec.ofInt IntKind.i64.bits (x:Int)).toNat=x:=by
  show(BitVec.ofInt 64 (x:Int)).toNat=x
  rw[vP9];omega
 have ey:(BitVec.ofInt IntKind.i64.bits 1).toNat=2 ^ 1-1:=by decide
 rw[vZk,ex,ey,yFn];rw[show IntKind.i64.wrap ((x%2 ^ 1:Nat):Int)=((x%2 ^ 1:Nat):Int)from IntWalk.i64_in _ ⟨zo,zo⟩]
 omega
theorem k9l {n:Int}(h0:0≤n) (h:n%2=1):(0-(n+1)).tdiv 2=-(n / 2)-1:=by
 rw[Int.zero_sub,Int.neg_tdiv,vJ3 zo];omega
section
def cxSdS:=kc c58 kn
theorem cSgdS:Cq 160 kSgd:=by
 refine zp fun d x hx=>?_
 rename Int=>n
 refine zg cxSdS func160 rfl rfl ntmps160 ?_;intros;by_cases h:0≤n∧n≤1099511627775;rotate_left
 ·have e:sgd n=0:=by unfold sgd;rw[if_neg h]
  have e0:(decide (0≤n)&&decide (n≤1099511627775))=false:=by rw[wDu];simp;omega
  rw[e];exact zx e0
 have e1:(decide (0≤n)&&decide (n≤1099511627775))=true:=by simp;omega
 have ha:=and1 h.1 h.2;have hd:=vJ3 (b:=2) h.1;have hm:=vWs (b:=2) h.1;have es:=k0h h.1 h.2;rw[hd,hm]at es;by_cases h1:n%2=1
 ·have hq:=k9l h.1 h1;rw[if_neg zo]at es;rw[es];exact zx (z4 e1 ha h1 hq)
 ·rw[if_pos zo]at es;rw[es];exact zx (z4 e1 ha h1 hd)
def cxSdI:=kc c60 kn
theorem cSgdI:Cq 186 kSgd:=by
 refine zp fun d x hx=>?_
 rename Int=>n
 refine zg cxSdI func186 rfl rfl ntmps186 ?_;intros;by_cases h:0≤n∧n≤1099511627775;rotate_left
 ·have e:sgd n=0:=by unfold sgd;rw[if_neg h]
  have e0:(decide (0≤n)&&decide (n≤1099511627775))=false:=by rw[wDu];simp;omega
  rw[e];exact zx e0
 have e1:(decide (0≤n)&&decide (n≤1099511627775))=true:=by simp;omega
 have hd:=vJ3 (b:=2) h.1;have hm:=vWs (b:=2) h.1;have es:=k0h h.1 h.2;rw[hd,hm]at es;by_cases h1:n%2=1
 ·have hq:=k9l h.1 h1;rw[if_neg zo]at es;rw[es];exact zx (z4 e1 hm h1 hq)
 ·rw[if_pos zo]at es;rw[es];exact zx (z4 e1 hm h1 hd)
end
section
def cxDvS:=kc qGl kn
theorem k9m {p:Prop}(h:p:=by first|omega|rfl|exact⟨k+1,⟨by omega,hI⟩,by omega,by(first|(and_intros<;>rfl)|simp)⟩):p:=h
set_option maxHeartbeats 4000000 in
theorem qI7:Cq 86 kDecV:=by
 refine zp fun d x hx=>?_
 obtain⟨s,p⟩:=x;obtain⟨hs,hp1,hp2⟩:=hx;simp only at hs hp1 hp2⊢;refine zg cxDvS func86 rfl rfl ntmps86 ?_;intros;by_cases hneg:p<0
 ·have e:kBt s p=none:=by unfold kBt;rw[if_neg zo]
  obtain⟨q1,q2,q3⟩:=kGm e;rw[q1,q2,q3];exact zx1 10 hneg
 obtain⟨a,rfl⟩:=zN p;refine zy1 10 hneg ?_;refine zL (fun k:Nat=>⟨[(0,.v (.string s)),(1,vi a),(7,vi (kHx s a k)),(8,vi k)],[]⟩) (fun k=>k≤6∧kBt s a=kMi s a k (6-k)) (fun k=>6-k) 0 ⟨zo,by unfold kBt;rw[if_pos zo,jB2]⟩ ?_ ?_
 ·have h0:kHx s a 0=0:=rfl
  (simp only[go_sem,h0]<;>(first|(and_intros<;>rfl)|simp))
 intro k ⟨hk,hI⟩;by_cases hk6:k<6;rotate_left
 ·have hki:¬(k:Int)<6:=zo;rw[show 6-k=0 by omega,k5j]at hI
  obtain⟨q1,q2,q3⟩:=kGm hI;rw[q1,q2,q3];exact zx1 10 hki
 have hki:(k:Int)<6:=zo;by_cases hlt:a+k<s.size;rotate_left
 ·have hli:¬(a:Int)+(k:Int)<s.size:=zo;rw[kSs hlt]at hI;obtain⟨q1,q2,q3⟩:=kGm hI;rw[q1,q2,q3];exact zx1 10 (z2 hki hli)
 have hli:(a:Int)+(k:Int)<s.size:=zo;have ht:((a:Int)+(k:Int)).toNat=a+k:=zo;have hst:=@qCj s a k zo;have hbd:=kMh s a k;have hbd1:=kMh s a (k+1);have hc:(s[a+k]!).toNat<256:=UInt8.toNat_lt _;have hac:kEs .u8 (((s[a+k]!).toNat:Int)) 127=((s[a+k]!).toNat:Int)%128:=and7u zo zo;have h7:7*(k:Int)=((7*k:Nat):Int):=zo;rw[show 6-k=(6-(k+1))+1 by omega]at hI
 by_cases hb:(s[a+k]!).toNat<128
 ·rw[k0g hlt hb]at hI;have hx1:(a:Int)+(k:Int)+1=((a+k+1:Nat):Int):=zo;by_cases hv:varint (kHx s a (k+1))=s.extract a (a+k+1)
  ·rw[if_pos hv]at hI;obtain⟨q1,q2,q3⟩:=kMw hI;rw[q1,q2,q3];generalize hcc:(s[a+k]!).toNat=c at *;have hbi:(c:Int)<128:=zo;exact zx1 10 (z10 hki hli ht hcc hac h7 hst hbi hx1 hv)
  ·rw[if_neg hv]at hI;obtain⟨q1,q2,q3⟩:=kGm hI;rw[q1,q2,q3];generalize hcc:(s[a+k]!).toNat=c at *;have hbi:(c:Int)<128:=zo;exact zx1 10 (z10 hki hli ht hcc hac h7 hst hbi hx1 hv)
 ·rw[kWr hlt hb]at hI;generalize hcc:(s[a+k]!).toNat=c at *;have hbi:¬(c:Int)<128:=zo
  (repeat' (first|apply zS|apply zB|((first|apply zW| refine zd 10 ?_);simp only[go_sem,hki,hli,ht,hcc,hac,h7,hst,hbi])|apply jAi|exact k9m|intro _))
end
section
def cxDvI:=kc c60 (kc qGm kn)
set_option maxHeartbeats 4000000 in
theorem qI6:Cq 111 kDecV:=by
 refine zp fun d x hx=>?_
 obtain⟨s,p⟩:=x;obtain⟨hs,hp1,hp2⟩:=hx;simp only at hs hp1 hp2⊢;refine zg cxDvI func111 rfl rfl ntmps111 ?_;intros;by_cases hin:0≤p∧p≤(s.size:Int)-1;rotate_left
 ·have e:kBt s p=none:=by
   unfold kBt;split
   ·exact kSs zo
   ·rfl
  obtain⟨q1,q2,q3⟩:=kGm e;rw[q1,q2,q3];have e0:(decide (0≤p)&&decide (p≤(s.size:Int)-1))=false:=by rw[wDu];simp;omega
  exact zx1 10 e0
 have e1:(decide (0≤p)&&decide (p≤(s.size:Int)-1))=true:=by simp;omega
 obtain⟨a,rfl⟩:=zN p;refine zy1 10 e1 ?_;refine zL (fun k:Nat=>⟨[(0,.v (.string s)),(1,vi a),(7,vi (kHx s a k)),(8,vi k)],[]⟩) (fun k=>k≤6∧kBt s a=kMi s a k (6-k)) (fun k=>6-k) 0 ⟨zo,by unfold kBt;rw[if_pos zo,jB2]⟩ ?_ ?_
 ·have h0:kHx s a 0=0:=rfl
  (simp only[go_sem,h0]<;>(first|(and_intros<;>rfl)|simp))
 intro k ⟨hk,hI⟩;by_cases hk6:k<6;rotate_left
 ·have hki:¬(k:Int)<6:=zo;rw[show 6-k=0 by omega,k5j]at hI
  obtain⟨q1,q2,q3⟩:=kGm hI;rw[q1,q2,q3];exact zx1 10 hki
 have hki:(k:Int)<6:=zo;by_cases hlt:a+k<s.size;rotate_left
 ·have hli:¬(a:Int)+(k:Int)<s.size:=zo;rw[kSs hlt]at hI;obtain⟨q1,q2,q3⟩:=kGm hI;rw[q1,q2,q3];exact zx1 10 (z2 hki hli)
 have hli:(a:Int)+(k:Int)<s.size:=zo;have ht:((a:Int)+(k:Int)).toNat=a+k:=zo;have hst:=@qCj s a k zo;have hbd:=kMh s a k;have hbd1:=kMh s a (k+1);have hc:(s[a+k]!).toNat<256:=UInt8.toNat_lt _;have hac:kEs .i64 (((s[a+k]!).toNat:Int)) 127=((s[a+k]!).toNat:Int)%128:=and7 zo zo;have h7:7*(k:Int)=((7*k:Nat):Int):=zo;rw[show 6-k=(6-(k+1))+1 by omega]at hI
 by_cases hb:(s[a+k]!).toNat<128
 ·rw[k0g hlt hb]at hI;have hx1:(a:Int)+(k:Int)+1=((a+k+1:Nat):Int):=zo;by_cases hv:varint (kHx s a (k+1))=s.extract a (a+k+1)
  ·rw[if_pos hv]at hI;obtain⟨q1,q2,q3⟩:=kMw hI;rw[q1,q2,q3];generalize hcc:(s[a+k]!).toNat=c at *;have hbi:¬(c:Int)>127:=zo;exact zx1 10 (z10 hki hli ht hcc hac h7 hst hbi hx1 hv)
  ·rw[if_neg hv]at hI;obtain⟨q1,q2,q3⟩:=kGm hI;rw[q1,q2,q3];generalize hcc:(s[a+k]!).toNat=c at *;have hbi:¬(c:Int)>127:=zo;exact zx1 10 (z10 hki hli ht hcc hac h7 hst hbi hx1 hv)
 ·rw[kWr hlt hb]at hI;generalize hcc:(s[a+k]!).toNat=c at *;have hbi:(c:Int)>127:=zo
  (repeat' (first|apply zS|apply zB|((first|apply zW| refine zd 10 ?_);simp only[go_sem,hki,hli,ht,hcc,hac,h7,hst,hbi])|apply jAi|exact k9m|intro _))
end
end
section
open Go.Vc
def kK3 (a:AgX) (st:Bool):Nat→List Int→List (List Frame)
 | _,[]=>[]
 |i,x::r=>match kBz a (if i=0 then x else x-1) (st&&decide (i=0))with
  |none=>[]
  |some f=>f::kK3 a st (i+1) r
theorem k4u (a:AgX) (st:Bool):∀(L:List Int) (i:Nat),(kK3 a st i L).length≤L.length
 | [],i=>jDu _
 |x::r,i=>by
  unfold kK3;split
  ·simp
  ·have:=k4u a st r (i+1);simp only[jGk];omega
theorem k86 (a:AgX) (st:Bool):∀(L:List Int) (i:Nat),kG8 a st i L=if(kK3 a st i L).length<L.length then none else some (kK3 a st i L).reverse.flatten
 | [],i=>rfl
 |x::r,i=>by
  unfold kG8 kK3;rw[k86 a st r (i+1)];have hle:=k4u a st r (i+1)
  cases kBz a (if i=0 then x else x-1) (st&&decide (i=0))with
  |none =>
   simp only[jOy,jGk,Nat.zero_lt_succ,if_true];split
   ·contradiction
   ·rfl
  |some f =>
   simp only[jGk];by_cases h:(kK3 a st (i+1) r).length<r.length
   ·rw[if_pos h,if_pos zo]
   ·rw[if_neg h,if_neg zo];simp[List.flatten_append]
theorem k2n {a:AgX}{st:Bool}{L:List Int}{k:Nat}(hk:k<L.length):kG8 a st k (L.drop k)=match kG8 a st (k+1) (L.drop (k+1)),kBz a (if k=0 then L[k]else L[k]-1) (st&&decide (k=0))with
  |some A,some B=>some (A++B)
  | _,_=>none:=by
 rw[wL4 hk];rfl
theorem k5q {a:AgX}{st:Bool}{L:List Int}:∀{k:Nat},k≤L.length→kG8 a st k (L.drop k)=none→kG8 a st 0 L=none
 | 0,_,h=>h
 |k+1,hk,h=>by
  refine k5q (k:=k) zo ?_;rw[k2n zo,h]
theorem k5r (S:kFs) (R:List (List Rule)):∀(n:Nat) (i:Bool) (v:Vw),(kNb S R n i v).1.length≤n
 | 0,i,v=>jDu _
 |n+1,i,v=>by
  rw[kNh];split
  ·exact vEs _
  ·split
   ·exact vEs _
   ·have:=k5r S R n false (by assumption);simp only[jGk];omega
theorem kU2 (S:kFs) (R:List (List Rule)) (v:Vw):(unwind S R v).1.length≤40:=by
 have:=k5r S R 39 true v;rw[show(unwind S R v).1=v.pc::(kNb S R 39 true v).1 from rfl,jGk];omega
theorem k5s (S:kFs) (R:List (List Rule)):∀(n:Nat) (i:Bool) (v:Vw),kHj v→∀x∈(kNb S R n i v).1,okN x
 | 0,i,v,h=>by intro x hx;cases hx
 |n+1,i,v,h=>by
  rw[kNh]
  cases hu:kG7 S R v i with
  |none=>intro x hx;cases hx
  |some y =>
   have hy:=k0l h hu;simp only;split
   ·intro x hx;cases hx
   ·intro x hx;rcases jDr.1 hx with rfl|hx
    ·exact hy.1
    ·exact k5s S R n false y hy x hx
theorem k2o {S:kFs}{R:List (List Rule)}{v:Vw}(h:kHj v):∀x∈(unwind S R v).1,okN x:=by
 intro x hx;rcases jDr.1 hx with rfl|hx
 ·exact h.1
 ·exact k5s S R 39 true v h x hx
theorem kWl {d:Debug}{o:Int}{st:Bool}{f:List Frame}(h:kEp d o st=some f):f.length≤d.kIv.length+1:=by
 unfold kEp at h;split at h
 ·cases h
 ·rw[jBf]at h;subst h;rw[jKs,kU1]
  have:(kF6 d.kIv o).length≤d.kIv.length:=by
   unfold kF6;split
   ·exact List.length_filter_le ..
   ·simp
  simp only[jGk,jOy];omega
end
section
open Go.Vc Tryz
open Go.Pl
attribute [local go_sem] kB7
theorem kY2 (L:List Frame):kMc (L.map kAe):=by
 intro row hr c hc;obtain⟨n,_,rfl⟩:=jCr.1 hr;simp only[kAe,jDr,jJw,or_false]at hc;rcases hc with rfl|rfl<;>exact⟨_,rfl⟩
theorem qQu:Cq 238 kFrAtZ:=Cn.kMm (fun x=>kY2 _) cFrAtI
structure AgR (x:AgX):Prop where
 pre:kEj x
 ok:kBb x=true
theorem AgR.sp {x:AgX}(h:AgR x):kAo x.1.1 x.1.2.1 x.1.2.2=true:=by
 have:=h.ok;unfold kBb at this;simp only[jBs]at this;exact this.1.1.1
theorem AgR.len {x:AgX}(h:AgR x):x.2.length=2:=by
 have:=h.ok;unfold kBb at this;simp only[jBs,decide_eq_true_eq]at this;exact this.1.1.2
theorem AgR.dbg {x:AgX}(h:AgR x):∀d∈x.2,kUb d:=h.pre.2
theorem kQv {I:List Image}{B E:List Int}{D:List Debug}{adr:Int}{st:Bool}(h:kAm I B adr<0):kBz ((I,B,E),D) adr st=none:=if_pos h
theorem kTp {I:List Image}{B E:List Int}{D:List Debug}{adr:Int}{st:Bool}{k:Nat}(h:kAm I B adr=k) (hk:k<D.length):kBz ((I,B,E),D) adr st=kEp D[k] (adr-B.getD k 0) st:=by
 unfold kBz;simp only;rw[h,if_neg zo,jB2,kO0 hk]
def faL (x:AgX) (adr:Int) (st:Bool):List Frame:=(kBz x adr st).getD []
@[go_sem] def kFrA:Ctr:=pur (fun args=>(agA args 0,aI args 1,aB args 2)) (fun x=>[.agg (aggAg x.1),vi x.2.1,.v (.bool x.2.2)]) (fun x=>AgR x.1)
 (fun _ x=>.tup [.sl 2 ((faL x.1 x.2.1 x.2.2).map kAe),.v (.bool (kBz x.1 x.2.1 x.2.2).isSome)]) (fun _ _=>[])
section
attribute [local irreducible] kGt kEk kUb
def cxFoI:=kc qGo (kc qQu kn)
theorem cFrAI:Cq 191 kFrA:=by
 refine zp fun d x hx=>?_
 obtain⟨⟨⟨I,B,E⟩,D⟩,adr,st⟩:=x;have hA:AgR ((I,B,E),D):=hx;have hpl:=kLb hA.pre.1 hA.sp adr;have hs:=hA.sp;have h2:=hA.len;have hD:=hA.dbg;simp only at hpl hs h2 hD⊢;simp only[aggAg];refine zg cxFoI func191 rfl rfl ntmps191 ?_;intros;by_cases hl:kAm I B adr<0
 ·have e:=@kQv I B E D adr st hl;have e2:faL ((I,B,E),D) adr st=[]:=by unfold faL;rw[e];rfl
  rw[e2,e];exact zx hl
 obtain⟨k,hk,hk2⟩:=kK1 hs hl;have hkD:k<D.length:=zo;have hki:(k:Int)<D.length:=zo;have n1:¬(k:Int)<0:=zo;have g:=kAa encDebug D k hkD;have hd:=hD _ (jCn hkD);have e:=@kTp I B E D adr st k hk hkD;have e2:faL ((I,B,E),D) adr st=(kEp D[k] (adr-B.getD k 0) st).getD []:=by unfold faL;rw[e]
 rw[e2,e];generalize hB:B.getD k 0=b at *;generalize D[k]=d0 at *;obtain⟨id,Z,R,W,L⟩:=d0;exact zx (z6 hk n1 hki g encDebug.eq_1 hB)
end
def kFrS:Ctr:=pur (fun args=>(agA args 0,aI args 1,aB args 2,aB args 3)) (fun x=>[.agg (aggAg x.1),vi x.2.1,.v (.bool x.2.2.1),.v (.bool x.2.2.2)]) (fun x=>AgR x.1∧okN x.2.1)
 (fun d x=>.tup [.own d,.v (.bool (kBz x.1 (if x.2.2.1=true then x.2.1 else x.2.1-1) (x.2.2.2&&x.2.2.1)).isSome)]) (fun d x=>[(d,.sl 228 2 ((faL x.1 (if x.2.2.1=true then x.2.1 else x.2.1-1) (x.2.2.2&&x.2.2.1)).map kAe))])
@[go_sem] def kFrSz:Ctr:=pur (fun args=>(agA args 0,aI args 1,aB args 2,aB args 3)) (fun x=>[.agg (aggAg x.1),vi x.2.1,.v (.bool x.2.2.1),.v (.bool x.2.2.2)]) (fun x=>AgR x.1∧okN x.2.1)
 (fun _ x=>.tup [.sl 2 ((faL x.1 (if x.2.2.1=true then x.2.1 else x.2.1-1) (x.2.2.2&&x.2.2.1)).map kAe),.v (.bool (kBz x.1 (if x.2.2.1=true then x.2.1 else x.2.1-1) (x.2.2.2&&x.2.2.1)).isSome)]) (fun _ _=>[])
section
attribute [local irreducible] kGt kEk kUb
def cxFoS:=kc k7a (kc cFrAtS kn)
set_option maxHeartbeats 4000000 in
theorem cFrSS:Cq 92 kFrS:=by
 refine zp fun d x hx=>?_
 obtain⟨⟨⟨I,B,E⟩,D⟩,adr,inner,st⟩:=x;obtain⟨hA,ho⟩:=hx;simp only at hA ho⊢;obtain⟨ho1,ho2⟩:=ho;have hs:=hA.sp;have h2:=hA.len;have hD:=hA.dbg;have hp1:=hA.pre.1;simp only at hs h2 hD hp1;simp only[aggAg];have hn0:lk 0 tys=none:=rfl;refine zg cxFoS func92 rfl rfl ntmps92 ?_;intros
 cases inner with
 |true =>
  simp only[if_true,jXj];have hpl:=kLb hp1 hs adr;by_cases hl:kAm I B adr<0
  ·have e:=@kQv I B E D adr st hl;have e2:faL ((I,B,E),D) adr st=[]:=by unfold faL;rw[e];rfl
   rw[e2,e];exact zx hl
  obtain⟨k,hk,hk2⟩:=kK1 hs hl;have hkD:k<D.length:=zo;have hki:(k:Int)<D.length:=zo;have n1:¬(k:Int)<0:=zo;have g:=kAa encDebug D k hkD;have hd:=hD _ (jCn hkD);have e:=@kTp I B E D adr st k hk hkD;have e2:faL ((I,B,E),D) adr st=(kEp D[k] (adr-B.getD k 0) st).getD []:=by unfold faL;rw[e]
  rw[e2,e];generalize hB:B.getD k 0=b at *;generalize D[k]=d0 at *;obtain⟨id,Z,R,W,L⟩:=d0
  exact zx (z6 hk n1 hki g encDebug.eq_1 hB)
 |false =>
  simp only[jIv,if_false,jPt];by_cases hpos:0≤adr
  ·have hm:(if(0:Int)<adr then adr else 0)=adr:=by split<;>omega
   have hm2:max 0 adr=adr:=zo;have hpl:=kLb hp1 hs (adr-1);by_cases hl:kAm I B (adr-1)<0
   ·have e:=@kQv I B E D (adr-1) false hl;have e2:faL ((I,B,E),D) (adr-1) false=[]:=by unfold faL;rw[e];rfl
    rw[e2,e];exact zx (z3 hm hm2 hl)
   obtain⟨k,hk,hk2⟩:=kK1 hs hl;have hkD:k<D.length:=zo;have hki:(k:Int)<D.length:=zo;have n1:¬(k:Int)<0:=zo;have g:=kAa encDebug D k hkD;have hd:=hD _ (jCn hkD);have e:=@kTp I B E D (adr-1) false k hk hkD;have e2:faL ((I,B,E),D) (adr-1) false=(kEp D[k] (adr-1-B.getD k 0) false).getD []:=by unfold faL;rw[e]
   rw[e2,e];generalize hB:B.getD k 0=b at *;generalize D[k]=d0 at *;obtain⟨id,Z,R,W,L⟩:=d0;exact zx (z8 hm hm2 hk n1 hki g encDebug.eq_1 hB)
  ·have hm:(if(0:Int)<adr then adr else 0)=0:=by split<;>omega
   have hm2:max 0 adr=0:=zo;have hpl:=kLb hp1 hs (-1);have hpl0:=kLb hp1 hs (0-1);have hl:=kRq hs (a:=-1) zo;have hl0:=kRq hs (a:=0-1) zo;have e:=@kQv I B E D (adr-1) false (kRq hs zo);have e2:faL ((I,B,E),D) (adr-1) false=[]:=by unfold faL;rw[e];rfl
   rw[e2,e];exact zx (z4 hm hm2 hl hl0)
end
theorem cFrSz:Cq 92 kFrSz:=Cn.kMm (fun x=>kY2 _) cFrSS
def stL (a:AgX) (x:Int×Vw) (st:Bool):List Frame:=(kCf a x st).getD []
def kStk:Ctr:=pur (fun args=>(agA args 0,smA args 1,aB args 2)) (fun x=>[.agg (aggAg x.1),.agg [vi x.2.1.1,vi x.2.1.2.pc,vi x.2.1.2.sp,vi x.2.1.2.fp,.sl 1 (x.2.1.2.words.map encI)],.v (.bool x.2.2)]) (fun x=>kEj x.1∧kHj x.2.1.2)
 (fun d x=>.tup [.own d,.v (.bool (kCf x.1 x.2.1 x.2.2).isSome)]) (fun d x=>[(d,.sl 228 2 ((stL x.1 x.2.1 x.2.2).map kAe))])
@[go_sem] def kStkZ:Ctr:=pur (fun args=>(agA args 0,smA args 1,aB args 2)) (fun x=>[.agg (aggAg x.1),.agg [vi x.2.1.1,vi x.2.1.2.pc,vi x.2.1.2.sp,vi x.2.1.2.fp,.sl 1 (x.2.1.2.words.map encI)],.v (.bool x.2.2)]) (fun x=>kEj x.1∧kHj x.2.1.2)
 (fun _ x=>.tup [.sl 2 ((stL x.1 x.2.1 x.2.2).map kAe),.v (.bool (kCf x.1 x.2.1 x.2.2).isSome)]) (fun _ _=>[])
theorem qDl {x:AgX}(h:AgR x) (adr:Int) (st:Bool):(faL x adr st).length≤4194305:=by
 unfold faL
 cases hf:kBz x adr st with
 |none=>simp
 |some f =>
  unfold kBz at hf;split at hf
  ·cases hf
  ·have:=kWl hf;obtain⟨k,hk,hk2⟩:=kK1 h.sp (a:=adr) (by assumption)
   have h2:=h.len;rw[hk,jB2,kO0 zo]at this;have:=(h.dbg _ (jCn (by omega:k<x.2.length))).2.2.2.1
   show f.length≤_
   omega
end
end Go.Proofs.YtjdklcjoeanimaaGreat
