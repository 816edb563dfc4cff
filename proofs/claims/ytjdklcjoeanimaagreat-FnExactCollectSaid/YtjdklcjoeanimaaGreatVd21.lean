/-
  DERIVED. Several texts of ours in one: VtStk3.
-/
import Derived.Test.YtjdklcjoeanimaaGreatVd20
set_option linter.unusedSimpArgs false
set_option linter.unusedVariables false
set_option maxHeartbeats 1000000
set_option maxRecDepth 10000
namespace Go.Proofs.YtjdklcjoeanimaaGreat
open Go.Vc
attribute [local irreducible] Go.Vc.WP
attribute [local go_sem] kAd kAe
def kJ2:List Go.Vc.Fp:=[⟨[6],[],[],[55],[],[]⟩,⟨[47],[0],[],[55],[],[]⟩,⟨[7],[],[],[55],[],[]⟩,⟨[1],[],[],[55],[],[]⟩,⟨[8],[],[],[55],[],[]⟩,⟨[50,51],[3,4],[],[55],[],[]⟩,⟨[52],[3,4,5],[],[55],[],[]⟩,⟨[49,53],[2,3,4,5,6],[],[55],[],[]⟩,⟨[54],[2,3,4,5,6,7],[],[],[],[55]⟩,⟨[],[0,1,2,3,4,5,6,7,8],[],[],[],[]⟩,⟨[],[0,1,2,3,4,5,6,7,8,9],[],[],[],[]⟩,⟨[],[0,1,2,3,4,5,6,7,8,9,10],[],[],[],[]⟩]
attribute [local go_sem] kJ2
attribute [local go_sem] kCg kCd kBt stkA kCv kCw
theorem kW5 {L:List Frame}{k:Nat}(hk:k<L.length) (s:List Node×Int):kDy (L.drop k) s=kDy (L.drop (k+1)) (if child s.1 s.2 L[k]<0 then(s.1++[mkNode s.2 L[k]],(s.1.length:Int))else(s.1,child s.1 s.2 L[k])):=by
 rw[List.drop_eq_getElem_cons hk,kDy]
theorem kNv {N:List Node}{L:List Frame}(h:kD6 N=false∨L.length=0):intern N L=(N,-1):=by
 unfold intern;rw[if_neg];rintro⟨h1,h2,_⟩;rcases h with h|h
 ·rw[h1]at h;cases h
 ·exact h2 (List.eq_nil_of_length_eq_zero h)
theorem kL3 {N:List Node}{L:List Frame}{k:Nat}(hk:k<L.length) (h:frOk L[k]=false):intern N L=(N,-1):=by
 unfold intern;rw[if_neg];rintro⟨_,_,h3⟩;rw[List.all_eq_true]at h3;rw[h3 _ (List.getElem_mem hk)]at h;cases h
def kJc:Ctr:=pur (fun args=>(stkA args 0,kKd (aR args 1))) (fun x=>[.agg [.sl 3 (x.1.map kAb)],.sl 2 (x.2.map kAc)]) (fun x=>(x.1.length+x.2.length≤4398046511104∧∀n∈x.1,n.name.size≤1099511627776)∧∀f∈x.2,f.name.size≤1099511627776)
 (fun d x=>.tup [.agg [.own d],.v (.int .i64 (intern x.1 x.2).2)]) (fun d x=>[(d,.sl 231 3 ((intern x.1 x.2).1.map kAb))])
section
noncomputable def k47:CL:=[(158,kIs),(151,kE2),(166,kIu),(167,kOv)]
noncomputable def qCo:=mkX k47 (COk.cons qF3 (COk.cons kZz (COk.cons qGv (COk.cons qSq (COk.nil _)))))
theorem qSs:qCo.tys=tys:=rfl
theorem qSt:qCo.C=k47:=rfl
attribute [local go_sem] qSs qSt k47 kIs kE2 kIu kOv
theorem qIo:Cn Tryz.prog 93 kJc:=by
 refine Cn.pur Tryz.func93 (by kernel_rfl) rfl fun d x hx=>?_
 obtain⟨N,L⟩:=x;obtain⟨⟨hN,hs⟩,hL⟩:=hx;simp only at hN hs hL⊢;refine Holds.go (c:=qCo) Tryz.func93 rfl Tryz.results93 Tryz.ntmps93 (by omega) (by simp) rfl ?_
 intro X0 w0
 (repeat' (first|apply zS|apply zB|((first|apply zW| refine zF 9 kJ2 [47,48,49,50,51,52,53,54,55] [55] [] (by decide +kernel) (by kernel_rfl) (by kernel_rfl) (by kernel_rfl) ?_|refine zd 7 (h:=?_));simp only[go_sem])|apply And.intro|intro _))
 all_goals first|omega|exact hs _ ‹_›|exact⟨_,_,_,rfl⟩|exact⟨_,_,rfl,_,_,rfl,rfl⟩|skip
 ·rename_i h;rw[kNv (h.imp_right fun e=>by omega)]
 ·rename_i h;rw[kNv (h.imp_right fun e=>by omega)]
 rename_i h
 have hi:intern N L=if L.all frOk=true then kDy L (N,-1)else(N,-1):=by
  unfold intern;by_cases ha:L.all frOk=true
  ·rw[if_pos ha,if_pos ⟨h.1,fun e=>by subst e;simp at h,ha⟩]
  ·rw[if_neg ha,if_neg fun hc=>ha hc.2.2]
 refine zL (fun s:Nat×List Node×Int=>⟨[(1,.sl 2 (L.map kAc)),(2,.ptr 2 0 0 0),(4,.ptr 4 0 0 0),(6,.ptr 6 0 0 0),(7,.v (.int .i64 s.2.2)),(8,.v (.int .i64 s.1))],
  [(2,.box 61 [.sl 3 (N.map kAb)]),(4,.box 61 [.v (.slice none 0 0)]),(6,.box 61 [.own 11]),(11,.sl 231 3 (s.2.1.map kAb))]⟩)
  (fun s=>s.1≤L.length∧(∀j (hj:j<L.length),j<s.1→frOk L[j]=true)∧kDy L (N,-1)=kDy (L.drop s.1) s.2∧s.2.1.length≤N.length+s.1∧-1≤s.2.2∧s.2.2<s.2.1.length) (fun s=>L.length-s.1) (0,N,-1) ⟨by simp,by simp,by simp,by simp,by simp only;omega,by simp only;omega⟩ ?_ ?_
 ·(simp only[go_sem]<;>(first|(and_intros<;>rfl)|simp))
 rintro⟨k,M,at'⟩ ⟨hk,hf,hg,hm,ha0,ha1⟩;simp only at hk hf hg hm ha0 ha1⊢;by_cases hlt:k<L.length
 ·have h1:=kAa kAc L k hlt;have hnm:=hL _ (List.getElem_mem hlt);have hst:=kW5 hlt (M,at');have hcb:=kN2 M at' L[k];rw[←hg]at hst;simp only at hst hcb
  (repeat' (first|apply zS|apply zB|((first|apply zW| refine zF 9 kJ2 [47,48,49,50,51,52,53,54,55] [55] [] (by decide +kernel) (by kernel_rfl) (by kernel_rfl) (by kernel_rfl) ?_|refine zd 7 (h:=?_));simp only[go_sem,h1,kAc])|apply And.intro|intro _))
  all_goals first|omega|exact kJv ‹_›|exact⟨_,_,_,rfl⟩|exact⟨_,_,rfl,_,_,rfl,rfl⟩|skip
  ·rename_i hb;rw[kL3 hlt hb]
  ·rename_i hb;rw[kL3 hlt hb]
  ·rename_i hfr hc;have hc':child M at' L[k]<0:=hc;rw[if_pos hc']at hst;refine⟨(k+1,M++[mkNode at' L[k]],(M.length:Int)),⟨by simp only;omega,fun j hj hjk=>?_,hst,by simp only[List.length_append,List.length_cons,List.length_nil];omega,by simp only;omega,by simp only[List.length_append,List.length_cons,List.length_nil];omega⟩,by simp only;omega,by(first|(and_intros<;>rfl)|simp),by simp only[List.map_append,List.map_cons,List.map_nil];rfl⟩
   rcases Nat.lt_or_ge j k with hh|hh
   ·exact hf j hj hh
   ·have:j=k:=by omega
    subst this;exact hfr
  ·rename_i hfr hc;have hc':¬child M at' L[k]<0:=by show¬child M at' ⟨L[k].name,L[k].line⟩<0;omega
   rw[if_neg hc']at hst;refine⟨(k+1,M,child M at' L[k]),⟨by simp only;omega,fun j hj hjk=>?_,hst,by simp only;omega,by simp only;omega,by simp only;omega⟩,by simp only;omega,by(first|(and_intros<;>rfl)|simp)⟩
   rcases Nat.lt_or_ge j k with hh|hh
   ·exact hf j hj hh
   ·have:j=k:=by omega
    subst this;exact hfr
 ·have hall:L.all frOk=true:=by
   rw[List.all_eq_true];intro f hfm;obtain⟨j,hj,rfl⟩:=List.mem_iff_getElem.1 hfm;exact hf j hj (by omega)
  rw[if_pos hall,hg,show k=L.length by omega,List.drop_length,kDy]at hi
  (repeat' (first|apply zS|apply zB|((first|apply zW| refine zF 9 kJ2 [47,48,49,50,51,52,53,54,55] [55] [] (by decide +kernel) (by kernel_rfl) (by kernel_rfl) (by kernel_rfl) ?_|refine zd 7 (h:=?_));simp only[go_sem])|apply And.intro|intro _))
  all_goals first|omega|exact kJv ‹_›|exact⟨_,_,_,rfl⟩|exact⟨_,_,rfl,_,_,rfl,rfl⟩|skip
  ·rw[hi]
  ·rw[hi]
end
section
noncomputable def k48:CL:=[(184,kIs),(177,kE2),(193,kIu),(194,kOv)]
noncomputable def qCp:=mkX k48 (COk.cons qF4 (COk.cons kZ0 (COk.cons qGu (COk.cons qSr (COk.nil _)))))
theorem qSu:qCp.tys=tys:=rfl
theorem qSv:qCp.C=k48:=rfl
attribute [local go_sem] qSu qSv k48 kIs kE2 kIu kOv
theorem qIp:Cn Tryz.prog 119 kJc:=by
 refine Cn.pur Tryz.func119 (by kernel_rfl) rfl fun d x hx=>?_
 obtain⟨N,L⟩:=x;obtain⟨⟨hN,hs⟩,hL⟩:=hx;simp only at hN hs hL⊢;refine Holds.go (c:=qCp) Tryz.func119 rfl Tryz.results119 Tryz.ntmps119 (by omega) (by simp) rfl ?_
 intro X0 w0
 (repeat' (first|apply zS|apply zB|(apply zW;simp only[go_sem])|apply And.intro|intro _))
 all_goals first|omega|exact hs _ ‹_›|exact⟨_,_,_,rfl⟩|exact⟨_,_,rfl,_,_,rfl,rfl⟩|skip
 ·rename_i h;rw[kNv (h.imp_right fun e=>by omega)]
 ·rename_i h;rw[kNv (h.imp_right fun e=>by omega)]
 rename_i h
 have hi:intern N L=if L.all frOk=true then kDy L (N,-1)else(N,-1):=by
  unfold intern;by_cases ha:L.all frOk=true
  ·rw[if_pos ha,if_pos ⟨h.1,fun e=>by subst e;simp at h,ha⟩]
  ·rw[if_neg ha,if_neg fun hc=>ha hc.2.2]
 refine zL (fun k:Nat=>⟨[(1,.sl 2 (L.map kAc)),(4,.ptr 4 0 0 0),(6,.ptr 6 0 0 0),(24,.sl 2 (L.map kAc)),(25,.v (.int .i64 L.length)),(26,.v (.int .i64 k))],
  [(4,.box 61 [.v (.slice none 0 0)]),(6,.box 61 [.own 14]),(14,.sl 231 3 (N.map kAb))]⟩)
  (fun k=>k≤L.length∧(∀j (hj:j<L.length),j<k→frOk L[j]=true)) (fun k=>L.length-k) 0 ⟨by simp,by simp⟩ ?_ ?_
 ·(simp only[go_sem]<;>(first|(and_intros<;>rfl)|simp))
 intro k ⟨hk,hf⟩;by_cases hlt:k<L.length
 ·have h1:=kAa kAc L k hlt;have hnm:=hL _ (List.getElem_mem hlt)
  (repeat' (first|apply zS|apply zB|(apply zW;simp only[go_sem,h1,kAc])|apply And.intro|intro _))
  all_goals first|omega|exact kJv ‹_›|exact⟨_,_,_,rfl⟩|exact⟨_,_,rfl,_,_,rfl,rfl⟩|skip
  ·rename_i hb;rw[kL3 hlt hb]
  ·rename_i hb;rw[kL3 hlt hb]
  ·rename_i hfr;refine⟨k+1,⟨by omega,fun j hj hjk=>?_⟩,by omega,by(first|(and_intros<;>rfl)|simp)⟩
   rcases Nat.lt_or_ge j k with hh|hh
   ·exact hf j hj hh
   ·have:j=k:=by omega
    subst this;exact hfr
 have hall:L.all frOk=true:=by
  rw[List.all_eq_true];intro f hfm;obtain⟨j,hj,rfl⟩:=List.mem_iff_getElem.1 hfm;exact hf j hj (by omega)
 rw[if_pos hall]at hi
 (repeat' (first|apply zS|apply zB|(apply zW;simp only[go_sem])|apply And.intro|intro _))
 all_goals first|omega|skip
 refine zL (fun s:Nat×List Node×Int=>⟨[(4,.ptr 4 0 0 0),(6,.ptr 6 0 0 0),(9,.v (.int .i64 s.2.2)),(35,.sl 2 (L.map kAc)),(36,.v (.int .i64 L.length)),(37,.v (.int .i64 s.1))],
  [(4,.box 61 [.v (.slice none 0 0)]),(6,.box 61 [.own 14]),(14,.sl 231 3 (s.2.1.map kAb))]⟩)
  (fun s=>s.1≤L.length∧kDy L (N,-1)=kDy (L.drop s.1) s.2∧s.2.1.length≤N.length+s.1∧-1≤s.2.2∧s.2.2<s.2.1.length) (fun s=>L.length-s.1) (0,N,-1) ⟨by simp,by simp,by simp,by simp only;omega,by simp only;omega⟩ ?_ ?_
 ·(simp only[go_sem]<;>(first|(and_intros<;>rfl)|simp))
 rintro⟨k,M,at'⟩ ⟨hk,hg,hm,ha0,ha1⟩;simp only at hk hg hm ha0 ha1⊢;by_cases hlt:k<L.length
 ·have h1:=kAa kAc L k hlt;have hnm:=hL _ (List.getElem_mem hlt);have hst:=kW5 hlt (M,at');have hcb:=kN2 M at' L[k];rw[←hg]at hst;simp only at hst hcb
  (repeat' (first|apply zS|apply zB|(apply zW;simp only[go_sem,h1,kAc])|apply And.intro|intro _))
  all_goals first|omega|exact kJv ‹_›|exact⟨_,_,_,rfl⟩|exact⟨_,_,rfl,_,_,rfl,rfl⟩|skip
  ·rename_i hc;have hc':child M at' L[k]<0:=hc;rw[if_pos hc']at hst;refine⟨(k+1,M++[mkNode at' L[k]],(M.length:Int)),⟨by simp only;omega,hst,by simp only[List.length_append,List.length_cons,List.length_nil];omega,by simp only;omega,by simp only[List.length_append,List.length_cons,List.length_nil];omega⟩,by simp only;omega,by(first|(and_intros<;>rfl)|simp),by simp only[List.map_append,List.map_cons,List.map_nil];rfl⟩
  ·rename_i hc;have hc':¬child M at' L[k]<0:=by show¬child M at' ⟨L[k].name,L[k].line⟩<0;omega
   rw[if_neg hc']at hst;refine⟨(k+1,M,child M at' L[k]),⟨by simp only;omega,hst,by simp only;omega,by simp only;omega,by simp only;omega⟩,by simp only;omega,by(first|(and_intros<;>rfl)|simp)⟩
 ·rw[hg,show k=L.length by omega,List.drop_length,kDy]at hi
  (repeat' (first|apply zS|apply zB|(apply zW;simp only[go_sem])|apply And.intro|intro _))
  all_goals first|omega|exact kJv ‹_›|exact⟨_,_,_,rfl⟩|exact⟨_,_,rfl,_,_,rfl,rfl⟩|skip
  ·rw[hi]
  ·rw[hi]
end
end Go.Proofs.YtjdklcjoeanimaaGreat

