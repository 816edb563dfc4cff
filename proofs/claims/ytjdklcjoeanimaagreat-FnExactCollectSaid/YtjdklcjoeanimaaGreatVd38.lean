/-
  DERIVED. Several texts of ours in one: VgRuleM, VgRowM, VgInlineM, VtAgD, VtPrM.
-/
import Derived.Test.YtjdklcjoeanimaaGreatVd4
import Derived.Test.YtjdklcjoeanimaaGreatVd20
import Derived.Test.YtjdklcjoeanimaaGreatVd36
import Derived.Test.YtjdklcjoeanimaaGreatVd37
set_option linter.unusedSimpArgs false
set_option linter.unusedVariables false
set_option maxHeartbeats 1000000
set_option maxRecDepth 10000
namespace Go.Proofs.YtjdklcjoeanimaaGreat
open Go.Vc
section
open Go.Vc
attribute [local irreducible] Go.Vc.WP
attribute [local go_sem] kAd kAe
attribute [local go_sem] kVn kVo
def kPp:Ctr:=len [0] [] (fun args obs=>(kF2 (oR obs 1000000),aI args 1,oE obs 1000000)) (fun x=>[.own 1000000,.v (.int .i64 x.2.1)]) (fun x=>[(1000000,.sl x.2.2 4 (x.1.map encRule))]) (fun x=>x.1.length≤4398046511104∧0≤x.2.1∧x.2.1≤500000000000000)
 (fun _ x=>.v (.int .i64 (x.2.1+4*x.1.length))) (fun _ _=>[]) (fun x=>[(1000000,.sl x.2.2 4 ((kGr x.2.1 x.1.length).map encRule))])
theorem k8r:Cn Tryz.prog 129 kPp:=by
 refine Cn.len Tryz.func129 (by kernel_rfl) rfl fun d x hd hx=>?_
 obtain⟨L,k0,ee⟩:=x;obtain⟨hL,h0,h1⟩:=hx;simp only at hL h0 h1⊢;refine kBj.go (c:=kUi) Tryz.func129 rfl Tryz.results129 Tryz.ntmps129 (by omega) (by simp) rfl (by simp<;>omega) (by simp[SV.kAv,SV.owns,SV.kAn]) (by simp) rfl rfl (by simp) ?_
 intro X0 M w0
 (repeat' (first|apply zS|apply zB|(apply zW;simp only[go_sem])|apply And.intro|intro _))
 refine zL (fun k:Nat=>⟨[(0,.own 1000000),(1,.v (.int .i64 (k0+4*(k:Int)))),(5,.v (.int .i64 k))],[(1000000,.sl ee 4 ((kEz L k0 k).map encRule))]⟩) (fun k=>k≤L.length) (fun k=>L.length-k) 0 (by omega) ?_ ?_
 ·have e:kEz L k0 0=L:=by simp[kEz,kGr]
  rw[e];(simp only[go_sem]<;>(first|(and_intros<;>rfl)|simp))
 intro k hk;have h2:=k1u L k0 k hk;by_cases hlt:k<L.length
 ·have h3:=k1v L k0 k hlt;rw[encRule,kXn]at h3;simp only at h3;have h4:=kAa encRule (kEz L k0 k) k (by omega)
  have h5:∀r:List SV,Go.Vc.rowAt (((kEz L k0 k).map encRule).set k r) k=r:=fun r=>rowAt_set _ _ _ (by rw[List.length_map];omega)
  (repeat' (first|apply zS|apply zB|(apply zW;simp only[go_sem,h2,h3,h4,h5,encRule,List.set_set,List.length_set])|apply And.intro|intro _))
  all_goals first|omega|skip
  refine⟨k+1,by omega,by omega,⟨?_,rfl⟩,rfl⟩
  rw[show k0+4*(k:Int)+1+1+1+1=k0+4*((k+1:Nat):Int)by omega]
 ·have h5:kEz L k0 k=kGr k0 L.length:=by rw[show k=L.length by omega];simp[kEz]
  have h6:=kIn k0 L.length
  (repeat' (first|apply zS|apply zB|(apply zW;simp only[go_sem,h2,h5,h6])|apply And.intro|intro _))
  all_goals first|omega|skip
  all_goals rw[show k=L.length by omega]
end
section
open Go.Vc
attribute [local irreducible] Go.Vc.WP
attribute [local go_sem] kAd kAe
attribute [local go_sem] kY1 kY2
def kRa:Ctr:=len [0] [] (fun args obs=>(kHl (oR obs 1000000),aI args 1,oE obs 1000000)) (fun x=>[.own 1000000,.v (.int .i64 x.2.1)]) (fun x=>[(1000000,.sl x.2.2 3 (x.1.map encRow))]) (fun x=>x.1.length≤4398046511104∧0≤x.2.1∧x.2.1≤500000000000000)
 (fun _ x=>.v (.int .i64 (x.2.1+3*x.1.length))) (fun _ _=>[]) (fun x=>[(1000000,.sl x.2.2 3 ((kHm x.2.1 x.1.length).map encRow))])
theorem qEi:Cn Tryz.prog 130 kRa:=by
 refine Cn.len Tryz.func130 (by kernel_rfl) rfl fun d x hd hx=>?_
 obtain⟨L,k0,ee⟩:=x;obtain⟨hL,h0,h1⟩:=hx;simp only at hL h0 h1⊢;refine kBj.go (c:=kXm) Tryz.func130 rfl Tryz.results130 Tryz.ntmps130 (by omega) (by simp) rfl (by simp<;>omega) (by simp[SV.kAv,SV.owns,SV.kAn]) (by simp) rfl rfl (by simp) ?_
 intro X0 M w0
 (repeat' (first|apply zS|apply zB|(apply zW;simp only[go_sem])|apply And.intro|intro _))
 refine zL (fun k:Nat=>⟨[(0,.own 1000000),(1,.v (.int .i64 (k0+3*(k:Int)))),(5,.v (.int .i64 k))],[(1000000,.sl ee 3 ((kF1 L k0 k).map encRow))]⟩) (fun k=>k≤L.length) (fun k=>L.length-k) 0 (by omega) ?_ ?_
 ·have e:kF1 L k0 0=L:=by simp[kF1,kHm]
  rw[e];(simp only[go_sem]<;>(first|(and_intros<;>rfl)|simp))
 intro k hk;have h2:=k5w L k0 k hk;by_cases hlt:k<L.length
 ·have h3:=k5x L k0 k hlt;rw[encRow,k1t]at h3;simp only at h3;have h4:=kAa encRow (kF1 L k0 k) k (by omega)
  have h5:∀r:List SV,Go.Vc.rowAt (((kF1 L k0 k).map encRow).set k r) k=r:=fun r=>rowAt_set _ _ _ (by rw[List.length_map];omega)
  (repeat' (first|apply zS|apply zB|(apply zW;simp only[go_sem,h2,h3,h4,h5,encRow,List.set_set,List.length_set])|apply And.intro|intro _))
  all_goals first|omega|skip
  refine⟨k+1,by omega,by omega,⟨?_,rfl⟩,rfl⟩
  rw[show k0+3*(k:Int)+1+1+1=k0+3*((k+1:Nat):Int)by omega]
 ·have h5:kF1 L k0 k=kHm k0 L.length:=by rw[show k=L.length by omega];simp[kF1]
  have h6:=kJl k0 L.length
  (repeat' (first|apply zS|apply zB|(apply zW;simp only[go_sem,h2,h5,h6])|apply And.intro|intro _))
  all_goals first|omega|skip
  all_goals rw[show k=L.length by omega]
end
section
open Go.Vc
attribute [local irreducible] Go.Vc.WP
attribute [local go_sem] kAd kAe
attribute [local go_sem] kQ8 kQ9 kBd
def kMj:Ctr:=len [0] [] (fun args obs=>(kEg (oR obs 1000000),aI args 1,oE obs 1000000)) (fun x=>[.own 1000000,.v (.int .i64 x.2.1)]) (fun x=>[(1000000,.sl x.2.2 5 (x.1.map encInline))]) (fun x=>x.1.length≤4398046511104∧0≤x.2.1∧x.2.1≤500000000000000)
 (fun _ x=>.v (.int .i64 (x.2.1+5*x.1.length))) (fun _ _=>[]) (fun x=>[(1000000,.sl x.2.2 5 ((kFo x.2.1 x.1.length).map encInline))])
theorem k1q:Cn Tryz.prog 131 kMj:=by
 refine Cn.len Tryz.func131 (by kernel_rfl) rfl fun d x hd hx=>?_
 obtain⟨L,k0,ee⟩:=x;obtain⟨hL,h0,h1⟩:=hx;simp only at hL h0 h1⊢;refine kBj.go (c:=kPk) Tryz.func131 rfl Tryz.results131 Tryz.ntmps131 (by omega) (by simp) rfl (by simp<;>omega) (by simp[SV.kAv,SV.owns,SV.kAn]) (by simp) rfl rfl (by simp) ?_
 intro X0 M w0
 (repeat' (first|apply zS|apply zB|(apply zW;simp only[go_sem])|apply And.intro|intro _))
 refine zL (fun k:Nat=>⟨[(0,.own 1000000),(1,.v (.int .i64 (k0+5*(k:Int)))),(5,.v (.int .i64 k))],[(1000000,.sl ee 5 ((kDh L k0 k).map encInline))]⟩) (fun k=>k≤L.length) (fun k=>L.length-k) 0 (by omega) ?_ ?_
 ·have e:kDh L k0 0=L:=by simp[kDh,kFo]
  rw[e];(simp only[go_sem]<;>(first|(and_intros<;>rfl)|simp))
 intro k hk;have h2:=kXg L k0 k hk;by_cases hlt:k<L.length
 ·have h3:=kXh L k0 k hlt;rw[encInline,kQ7]at h3;simp only at h3;have h4:=kAa encInline (kDh L k0 k) k (by omega)
  have h5:∀r:List SV,Go.Vc.rowAt (((kDh L k0 k).map encInline).set k r) k=r:=fun r=>rowAt_set _ _ _ (by rw[List.length_map];omega)
  (repeat' (first|apply zS|apply zB|(apply zW;simp only[go_sem,h2,h3,h4,h5,encInline,List.set_set,List.length_set])|apply And.intro|intro _))
  all_goals first|omega|skip
  refine⟨k+1,by omega,by omega,⟨?_,rfl⟩,rfl⟩
  rw[show k0+5*(k:Int)+1+1+1+1+1=k0+5*((k+1:Nat):Int)by omega]
 ·have h5:kDh L k0 k=kFo k0 L.length:=by rw[show k=L.length by omega];simp[kDh]
  have h6:=kHb k0 L.length
  (repeat' (first|apply zS|apply zB|(apply zW;simp only[go_sem,h2,h5,h6])|apply And.intro|intro _))
  all_goals first|omega|skip
  all_goals rw[show k=L.length by omega]
end
end Go.Proofs.YtjdklcjoeanimaaGreat
namespace Go.Proofs.YtjdklcjoeanimaaGreat
open Go.Vc
attribute [local irreducible] Go.Vc.WP
attribute [local go_sem] kAd kAe
attribute [local go_sem] kAf kAg spA kAj kA4 kFg kCe kBu kDd agA ghoK St.gho St.gh SV.flat kSq kJs
theorem k8y (L:List Rule):kGu (L.map encRule)↔True:=kI6 (fun x c hc=>by simp only[encRule,List.mem_cons,List.not_mem_nil,or_false]at hc;rcases hc with rfl|rfl|rfl|rfl<;>exact⟨_,rfl⟩) L
theorem qEw (L:List Row):kGu (L.map encRow)↔True:=kI6 (fun x c hc=>by simp only[encRow,List.mem_cons,List.not_mem_nil,or_false]at hc;rcases hc with rfl|rfl|rfl<;>exact⟨_,rfl⟩) L
theorem k2q (L:List Inline):kGu (L.map encInline)↔True:=kI6 (fun x c hc=>by simp only[encInline,List.mem_cons,List.not_mem_nil,or_false]at hc;rcases hc with rfl|rfl|rfl|rfl|rfl<;>exact⟨_,rfl⟩) L
attribute [local go_sem] k8y qEw k2q
def kId (d:Debug):Prop:=d.syms.length≤2097152∧d.rules.length≤2097152∧d.rows.length≤2097152∧d.inls.length≤2097152
def shAg (x:AgX):Prop:=shSp x.1∧x.2.length≤1048576∧∀d∈x.2,kId d
def k0d:Ctr:=pur (fun args=>kBu (aC args 0)) (fun d=>[.agg (encDebug d),.agg (encDebug d)]) kId (fun _ _=>.v (.bool true)) (fun _ _=>[])
section
noncomputable def k2r:CL:=[(198,kH7),(199,kUh),(200,kXl),(201,kPh)]
noncomputable def k8z:=mkX k2r (COk.cons kVq (COk.cons qHh (COk.cons qKr (COk.cons k78 (COk.nil _)))))
theorem qK1:k8z.tys=tys:=rfl
theorem qK2:k8z.C=k2r:=rfl
attribute [local go_sem] qK1 qK2 k2r kH7 kUh kXl kPh
theorem cqDbg:Cn Tryz.prog 125 k0d:=by
 refine Cn.pur Tryz.func125 (by kernel_rfl) rfl fun d x hx=>?_
 obtain⟨id,Z,R,W,I⟩:=x;obtain⟨h1,h2,h3,h4⟩:=hx;simp only at h1 h2 h3 h4⊢;simp only[encDebug];refine Holds.go (c:=k8z) Tryz.func125 rfl Tryz.results125 Tryz.ntmps125 (by omega) (by simp) rfl ?_
 intro X0 w0
 (repeat' (first|apply zS|apply zB|(apply zW;simp only[go_sem])|apply And.intro|intro _))
 all_goals first|omega|skip
end
def kV2:Ctr:=pur (fun args=>kHp (aR args 0)) (fun L=>[.sl 5 (L.map encDebug),.sl 5 (L.map encDebug)]) (fun L=>L.length≤1048576∧∀d∈L,kId d) (fun _ _=>.v (.bool true)) (fun _ _=>[])
section
attribute [local irreducible] kId
noncomputable def k80:=mkX [(125,k0d)] (COk.cons cqDbg (COk.nil _))
theorem qK3:k80.tys=tys:=rfl
theorem qK4:k80.C=[(125,k0d)]:=rfl
attribute [local go_sem] qK3 qK4 k0d
theorem cqDbgS:Cn Tryz.prog 57 kV2:=by
 refine Cn.pur Tryz.func57 (by kernel_rfl) rfl fun d x hx=>?_
 rename List Debug=>L
 obtain⟨hL,hY⟩:=hx;refine Holds.go (c:=k80) Tryz.func57 rfl Tryz.results57 Tryz.ntmps57 (by omega) (by simp) rfl ?_
 intro X0 w0
 (repeat' (first|apply zS|apply zB|((first|apply zW| refine zd 10 (h:=?_));simp only[go_sem])|apply And.intro|intro _))
 all_goals first|omega|skip
 refine zL (fun k:Nat=>⟨[(0,.sl 5 (L.map encDebug)),(1,.sl 5 (L.map encDebug)),(5,.v (.int .i64 k))],[]⟩) (fun k=>k≤L.length) (fun k=>L.length-k) 0 (by simp) ?_ ?_
 ·simp only[go_sem];first|exact⟨rfl,rfl⟩|rfl
 intro k hk;by_cases hlt:k<L.length
 ·have h1:=kAa encDebug L k hlt;have h0:=hY _ (List.getElem_mem hlt);generalize L[k]=y at *;obtain⟨id,Z,R,W,I⟩:=y
  (repeat' (first|apply zS|apply zB|((first|apply zW| refine zd 10 (h:=?_));simp only[go_sem,h1,encDebug])|apply And.intro|intro _))
  all_goals first|omega|exact h0|exact⟨k+1,by omega,by omega,rfl⟩|exact⟨k+1,by omega,by omega,rfl,rfl⟩|skip
 ·(repeat' (first|apply zS|apply zB|((first|apply zW| refine zd 10 (h:=?_));simp only[go_sem])|apply And.intro|intro _))
  all_goals first|omega|skip
end
def kqAg:Ctr:=pur (fun args=>agA args 0) (fun x=>[.agg (aggAg x),.agg (aggAg x)]) shAg (fun _ _=>.v (.bool true)) (fun _ _=>[])
section
attribute [local irreducible] kId shSp
noncomputable def k81:=mkX [(56,kqSp),(57,kV2)] (COk.cons cqSp (COk.cons cqDbgS (COk.nil _)))
theorem qK5:k81.tys=tys:=rfl
theorem qK6:k81.C=[(56,kqSp),(57,kV2)]:=rfl
attribute [local go_sem] qK5 qK6 kqSp kV2
theorem cqAg:Cn Tryz.prog 15 kqAg:=by
 refine Cn.pur Tryz.func15 (by kernel_rfl) rfl fun d x hx=>?_
 obtain⟨⟨I,B,E⟩,D⟩:=x;obtain⟨h1,h2,h3⟩:=hx;simp only at h1 h2 h3⊢;simp only[aggAg];refine Holds.go (c:=k81) Tryz.func15 rfl Tryz.results15 Tryz.ntmps15 (by omega) (by simp) rfl ?_
 intro X0 w0
 (repeat' (first|apply zS|apply zB|(apply zW;simp only[go_sem])|apply And.intro|intro _))
 all_goals first|omega|exact h1|exact h3 _ ‹_›|skip
end
def kSr:Ctr:=pur (fun args=>kBu (aC args 0)) (fun x=>[.agg (encDebug x)]) kId
 (fun d x=>.agg [.v (.int .i64 x.id),.own d,.own (d+1000),.own (d+2000),.own (d+3000)]) (fun d x=>[(d,.sl 214 3 (x.syms.map encSymbol)),(d+1000,.sl 252 4 (x.rules.map encRule)),(d+2000,.sl 254 3 (x.rows.map encRow)),(d+3000,.sl 256 5 (x.inls.map encInline))])
section
noncomputable def k2s:CL:=[(169,kH6),(170,kUf),(171,kXj),(172,kPf)]
noncomputable def k82:=mkX k2s (COk.cons kVp (COk.cons qHg (COk.cons qKq (COk.cons k77 (COk.nil _)))))
theorem qK7:k82.tys=tys:=rfl
theorem qK8:k82.C=k2s:=rfl
attribute [local go_sem] qK7 qK8 k2s kH6 kUf kXj kPf
set_option maxHeartbeats 3000000 in
theorem qK9:Cn Tryz.prog 96 kSr:=by
 refine Cn.pur Tryz.func96 (by kernel_rfl) rfl fun d x hx=>?_
 obtain⟨id,Z,R,W,I⟩:=x;obtain⟨h1,h2,h3,h4⟩:=hx;simp only at h1 h2 h3 h4⊢;simp only[encDebug];refine Holds.go (c:=k82) Tryz.func96 rfl Tryz.results96 Tryz.ntmps96 (by omega) (by simp) rfl ?_
 intro X0 w0
 (repeat' (first|apply zS|apply zB|(apply zW;simp only[go_sem])|apply And.intro|intro _))
 all_goals first|omega|exact⟨_,_,_,_,_,_,_,rfl⟩|exact⟨_,_,rfl,_,_,rfl,rfl⟩|exact if_neg (by omega)|(rw[if_neg (by omega),if_neg (by omega)];done)|(rw[if_neg (by omega),if_neg (by omega),if_neg (by omega)];done)|(rw[if_neg (by omega),if_neg (by omega),if_neg (by omega),if_neg (by omega)];done)|skip
end
def kMt:List SV:=[.v (.int .i64 0),.v (.slice none 0 0),.v (.slice none 0 0),.v (.slice none 0 0),.v (.slice none 0 0)]
def kSs:Ctr:=pur (fun args=>kHp (aR args 0)) (fun L=>[.sl 5 (L.map encDebug)]) (fun L=>L.length≤1048576∧∀x∈L,kId x) (fun d _=>.own d) (fun d L=>[(d,.dp 149 5 (L.map encDebug))])
section
attribute [local irreducible] kId
noncomputable def k83:=mkX [(96,kSr)] (COk.cons qK9 (COk.nil _))
theorem qLa:k83.tys=tys:=rfl
theorem qLb:k83.C=[(96,kSr)]:=rfl
attribute [local go_sem] qLa qLb kSr
set_option maxHeartbeats 3000000 in
theorem qLc:Cn Tryz.prog 38 kSs:=by
 refine Cn.pur Tryz.func38 (by kernel_rfl) rfl fun d x hx=>?_
 rename List Debug=>L
 obtain⟨hL,hY⟩:=hx;refine Holds.go (c:=k83) Tryz.func38 rfl Tryz.results38 Tryz.ntmps38 (by omega) (by simp) rfl ?_
 intro X0 w0
 (repeat' (first|apply zS|apply zB|(apply zW;simp only[go_sem])|apply And.intro|intro _))
 all_goals first|omega|skip
 refine zG [.dp 7] ?_;simp only[go_sem];refine⟨kRt (by simp),?_⟩
 refine zL (fun k:Nat=>⟨[(0,.sl 5 (L.map encDebug)),(3,.own 7),(4,.v (.int .i64 k))],[(7,.dp 149 5 (filled encDebug kMt L k))]⟩) (fun k=>k≤L.length) (fun k=>L.length-k) 0 (by omega) ?_ ?_
 ·rw[kDq];simp only[go_sem];first|exact⟨rfl,rfl⟩|rfl
 intro k hk;by_cases hlt:k<L.length
 ·have h0:=hY _ (List.getElem_mem hlt);have h1:=kAa encDebug L k hlt;have h2:=kA8 encDebug kMt L k hk;have h3:Go.Vc.rowAt (filled encDebug kMt L k) k=[.v (.int .i64 0),.v (.slice none 0 0),.v (.slice none 0 0),.v (.slice none 0 0),.v (.slice none 0 0)]:=kEa encDebug kMt L k hlt;have h4:=kEb encDebug kMt L k hlt;generalize L[k]=y at *;obtain⟨id,Z,R,W,I⟩:=y;rw[encDebug]at h4;refine zO [.abs 7 1,.abs 7 2,.abs 7 3,.abs 7 4,.fld 7] ?_;refine zG [.opn 7 k] ?_;simp only[go_sem,h2,h3];refine⟨hlt,?_⟩
  (repeat' (first|apply zS|apply zB|(apply zW;simp only[go_sem,h1,h2,h3,h4,encDebug])|apply And.intro|intro _))
  all_goals first|omega|exact h0|exact⟨k+1,by omega,by omega,rfl,rfl⟩|skip
 ·have h2:=kA8 encDebug kMt L k hk;have h5:filled encDebug kMt L k=L.map encDebug:=by rw[show k=L.length by omega];exact kD9 _ _ _
  (repeat' (first|apply zS|apply zB|(apply zW;simp only[go_sem,h2,h5])|apply And.intro|intro _))
  all_goals first|omega|skip
end
def k2t:Ctr:=pur (fun args=>agA args 0) (fun x=>[.agg (aggAg x)]) shAg (fun d _=>.agg [.own d,.own (d+1000),.own (d+2000),.own (d+3000)])
 (fun d x=>[(d,.dp 144 2 (x.1.1.map encImage)),(d+1000,.sl 3 1 (x.1.2.1.map encI)),(d+2000,.sl 3 1 (x.1.2.2.map encI)),(d+3000,.dp 149 5 (x.2.map encDebug))])
section
attribute [local irreducible] kId
noncomputable def k84:=mkX [(37,kFs),(38,kSs)] (COk.cons qEx (COk.cons qLc (COk.nil _)))
theorem qLd:k84.tys=tys:=rfl
theorem qLe:k84.C=[(37,kFs),(38,kSs)]:=rfl
attribute [local go_sem] qLd qLe kFs kSs
theorem ctoAgD:Cn Tryz.prog 9 k2t:=by
 refine Cn.pur Tryz.func9 (by kernel_rfl) rfl fun d x hx=>?_
 obtain⟨⟨I,B,E⟩,D⟩:=x;obtain⟨hsp,h2,h3⟩:=hx;have hsp2:=hsp;obtain⟨⟨hI,hIm⟩,hB,hE⟩:=hsp2;simp only at h2 h3 hI hIm hB hE⊢;simp only[aggAg];refine Holds.go (c:=k84) Tryz.func9 rfl Tryz.results9 Tryz.ntmps9 (by omega) (by simp) rfl ?_
 intro X0 w0
 (repeat' (first|apply zS|apply zB|(apply zW;simp only[go_sem])|apply And.intro|intro _))
 all_goals first|omega|exact hIm _ ‹_›|exact h3 _ ‹_›|exact hsp|exact⟨_,_,_,_,_,_,_,rfl⟩|exact⟨_,_,rfl,_,_,rfl,rfl⟩|exact if_neg (by omega)|(rw[if_neg (by omega),if_neg (by omega)];done)|(rw[if_neg (by omega),if_neg (by omega),if_neg (by omega)];done)|(rw[if_neg (by omega),if_neg (by omega),if_neg (by omega),if_neg (by omega)];done)|skip
end
def kCr (d:Debug):Nat:=1+3*d.syms.length+4*d.rules.length+3*d.rows.length+5*d.inls.length
def kIj (k:Int) (d:Debug):Debug:=⟨k,kA0 (k+1) d.syms.length,kGr (k+1+3*(d.syms.length:Int)) d.rules.length,kHm (k+1+3*(d.syms.length:Int)+4*(d.rules.length:Int)) d.rows.length,kFo (k+1+3*(d.syms.length:Int)+4*(d.rules.length:Int)+3*(d.rows.length:Int)) d.inls.length⟩
theorem kRu {T:List Debug}(hL:T.length≤1048576) (hY:∀x∈T,kId x):cntA kCr T≤70368744177664 :=
 Nat.le_trans (kSo T 67108864 fun x hx=>by have:=hY x hx;unfold kId at this;unfold kCr;omega) (Nat.le_trans (Nat.mul_le_mul_right _ hL) (by decide))
def kNn:Ctr:=len [0] [] (fun args obs=>(kHp (oD obs 1000000),aI args 1,oE obs 1000000)) (fun x=>[.own 1000000,.v (.int .i64 x.2.1)]) (fun x=>[(1000000,.dp x.2.2 5 (x.1.map encDebug))]) (fun x=>(x.1.length≤1048576∧∀y∈x.1,kId y)∧0≤x.2.1∧x.2.1≤200000000000000)
 (fun _ x=>.v (.int .i64 (x.2.1+(cntA kCr x.1:Int)))) (fun _ _=>[]) (fun x=>[(1000000,.dp x.2.2 5 ((mkA kCr kIj x.2.1 x.1).map encDebug))])
section
noncomputable def k2u:CL:=[(128,kGk),(129,kPp),(130,kRa),(131,kMj)]
noncomputable def k85:=mkX k2u (COk.cons kRh (COk.cons k8r (COk.cons qEi (COk.cons k1q (COk.nil _)))))
theorem qLf:k85.tys=tys:=rfl
theorem qLg:k85.C=k2u:=rfl
attribute [local go_sem] qLf qLg k2u kGk kPp kRa kMj
set_option maxHeartbeats 4000000 in
theorem qEy:Cn Tryz.prog 59 kNn:=by
 refine Cn.len Tryz.func59 (by kernel_rfl) rfl fun d x hd hx=>?_
 obtain⟨L,k0,ee⟩:=x;obtain⟨⟨hL,hY⟩,h0,h1⟩:=hx;simp only at hL hY h0 h1⊢;have hcnt:=kRu hL hY;refine kBj.go (c:=k85) Tryz.func59 rfl Tryz.results59 Tryz.ntmps59 (by omega) (by simp) rfl (by simp<;>omega) (by simp[SV.kAv,SV.owns,SV.kAn]) (by simp) rfl rfl (by simp) ?_
 intro X0 M w0
 (repeat' (first|apply zS|apply zB|(apply zW;simp only[go_sem])|apply And.intro|intro _))
 refine zL (fun k:Nat=>⟨[(0,.own 1000000),(1,.v (.int .i64 (k0+(cntA kCr (L.take k):Int)))),(5,.v (.int .i64 k))],[(1000000,.dp ee 5 ((hfA kCr kIj k0 L k).map encDebug))]⟩) (fun k=>k≤L.length) (fun k=>L.length-k) 0 (by omega) ?_ ?_
 ·have e2:cntA kCr (L.take 0)=0:=rfl;rw[kUp,e2];(simp only[go_sem]<;>(first|(and_intros<;>rfl)|simp))
 intro k hk;have h2:=kXt (cnt:=kCr) (mrk:=kIj) L k0 k hk;have hc2:=kDe (cnt:=kCr) L k;by_cases hlt:k<L.length
 ·have h3:=kXv (cnt:=kCr) (mrk:=kIj) (en:=encDebug) L k0 k hlt;have h4:=kXu (cnt:=kCr) (mrk:=kIj) (en:=encDebug) L k0 k hlt;have hsh:=hY _ (List.getElem_mem hlt);have hc3:=kLd (cnt:=kCr) L k hlt;have hc4:=kDe (cnt:=kCr) L (k+1);generalize L[k]=y at h3 h4 hsh hc3;obtain⟨id,Z,R,W,I⟩:=y;obtain⟨s1,s2,s3,s4⟩:=hsh;generalize hkk:k0+(cntA kCr (L.take k):Int)=kk at h3;rw[encDebug,kIj]at h3;rw[encDebug]at h4;simp only at h3 h4 s1 s2 s3 s4;rw[show kCr ⟨id,Z,R,W,I⟩=1+3*Z.length+4*R.length+3*W.length+5*I.length from rfl]at hc3
  refine zO [.abs 1000000 1,.abs 1000000 2,.abs 1000000 3,.abs 1000000 4,.fld 1000000] ?_;refine zG [.opn 1000000 k,.borV 1000000 1 500,.borV 1000000 2 501,.borV 1000000 3 502,.borV 1000000 4 503] ?_;simp only[go_sem,h2,h4];refine⟨hlt,fun e1 e2 e3 e4=>?_⟩
  (repeat' (first|apply zS|apply zB|(apply zW;simp only[go_sem,h2,h3,h4])|apply And.intro|intro _))
  all_goals first|omega|skip
  refine⟨k+1,by omega,by omega,⟨?_,rfl⟩,rfl⟩
  rw[show kk+1+3*(Z.length:Int)+4*(R.length:Int)+3*(W.length:Int)+5*(I.length:Int)=k0+(cntA kCr (List.take (k+1) L):Int)by omega]
 ·have h5:hfA kCr kIj k0 L k=mkA kCr kIj k0 L:=by rw[show k=L.length by omega];exact kXw _ _
  have h6:=kGp (cnt:=kCr) (mrk:=kIj) L k0
  (repeat' (first|apply zS|apply zB|(apply zW;simp only[go_sem,h2,h5,h6])|apply And.intro|intro _))
  all_goals first|omega|skip
  all_goals rw[show k=L.length by omega,List.take_length]
end
def eAg (k:Int) (x:AgX):Int:=eSp k x.1+(cntA kCr x.2:Int)
theorem eAg_le {x:AgX}(h:shAg x) {k:Int}:k≤eAg k x∧eAg k x≤k+87960934416384:=by
 have h1:=@kOk x.1 h.1 k;have h2:=kRu h.2.1 h.2.2;unfold eAg;omega
def kXz:Ctr:=len [0] [] (fun args obs=>((((kDl (oD obs 1000000),decI (oR obs 1000001),decI (oR obs 1000002)),kHp (oD obs 1000003)):AgX),aI args 1)) (fun x=>[.agg [.own 1000000,.own 1000001,.own 1000002,.own 1000003],.v (.int .i64 x.2)])
 (fun x=>[(1000000,.dp 144 2 (x.1.1.1.map encImage)),(1000001,.sl 3 1 (x.1.1.2.1.map encI)),(1000002,.sl 3 1 (x.1.1.2.2.map encI)),(1000003,.dp 149 5 (x.1.2.map encDebug))]) (fun x=>shAg x.1∧0≤x.2∧x.2≤100000000000000)
 (fun _ x=>.v (.int .i64 (eAg x.2 x.1))) (fun _ _=>[]) (fun x=>[(1000000,.dp 144 2 ((mkSp x.2 x.1.1).1.map encImage)),(1000001,.sl 3 1 ((mkSp x.2 x.1.1).2.1.map encI)),(1000002,.sl 3 1 ((mkSp x.2 x.1.1).2.2.map encI)),(1000003,.dp 149 5 ((mkA kCr kIj (eSp x.2 x.1.1) x.1.2).map encDebug))])
section
attribute [local go_sem] eAg
attribute [local irreducible] kId
noncomputable def k86:=mkX [(58,kKp),(59,kNn)] (COk.cons k63 (COk.cons qEy (COk.nil _)))
theorem qLh:k86.tys=tys:=rfl
theorem qLi:k86.C=[(58,kKp),(59,kNn)]:=rfl
attribute [local go_sem] qLh qLi kKp kNn
set_option maxHeartbeats 3000000 in
theorem qLj:Cn Tryz.prog 16 kXz:=by
 refine Cn.len Tryz.func16 (by kernel_rfl) rfl fun d x hd hx=>?_
 obtain⟨⟨⟨I,B,E⟩,D⟩,k⟩:=x;obtain⟨⟨hsp,hD,hDs⟩,h0,h1⟩:=hx;have hsp2:=hsp;obtain⟨⟨hI,hIm⟩,hB,hE⟩:=hsp2;simp only at hD hDs hI hIm hB hE h0 h1⊢;have hle:k≤eSp k (I,B,E)∧eSp k (I,B,E)≤k+17592190238720:=kOk (x:=(I,B,E)) hsp k;have hcnt:=kRu hD hDs;refine kBj.go (c:=k86) Tryz.func16 rfl Tryz.results16 Tryz.ntmps16 (by omega) (by simp) rfl (by simp<;>omega) (by simp[SV.kAv,SV.owns,SV.kAn]) (by simp) rfl rfl (by simp) ?_
 intro X0 M w0
 (repeat' (first|apply zS|apply zB|(apply zW;simp only[go_sem])|apply And.intro|intro _))
 all_goals first|omega|exact hIm _ ‹_›|exact hDs _ ‹_›|exact hsp|skip
end
end Go.Proofs.YtjdklcjoeanimaaGreat

namespace Go.Proofs.YtjdklcjoeanimaaGreat
open Go.Vc
attribute [local irreducible] Go.Vc.WP
attribute [local go_sem] kAd kAe
attribute [local go_sem] kKe kOo kCg kCd kBt stkA kCv kCw kAf prA kP9
def kMy:Ctr:=len [0] [] (fun args obs=>(kEs (oR obs 1000000),aI args 1)) (fun x=>[.agg [.own 1000000],.v (.int .i64 x.2)]) (fun x=>[(1000000,.sl 231 3 (x.1.map kAb))]) (fun x=>x.1.length≤4398046511104∧0≤x.2∧x.2≤100000000000000)
 (fun _ x=>.v (.int .i64 (x.2+3*x.1.length))) (fun _ _=>[]) (fun x=>[(1000000,.sl 231 3 ((kAx x.2 x.1.length).map kAb))])
section
noncomputable def kYe:=mkX [(203,kLq)] (COk.cons k8k (COk.nil _))
theorem qFz:kYe.tys=tys:=rfl
theorem qF0:kYe.C=[(203,kLq)]:=rfl
attribute [local go_sem] qFz qF0 kLq
theorem qIh:Cn Tryz.prog 134 kMy:=by
 refine Cn.len Tryz.func134 (by kernel_rfl) rfl fun d x hd hx=>?_
 obtain⟨L,k0⟩:=x;obtain⟨hL,h0,h1⟩:=hx;simp only at hL h0 h1⊢;refine kBj.go (c:=kYe) Tryz.func134 rfl Tryz.results134 Tryz.ntmps134 (by omega) (by simp) rfl (by simp<;>omega) (by simp[SV.kAv,SV.owns,SV.kAn]) (by simp) rfl rfl (by simp) ?_
 intro X0 M w0
 (repeat' (first|apply zS|apply zB|(apply zW;simp only[go_sem])|apply And.intro|intro _))
 all_goals first|omega|skip
end
def kMz:Ctr:=pur (fun args=>(stkA args 0,aI args 1)) (fun x=>[.agg [.sl 3 (x.1.map kAb)],.v (.int .i64 x.2)]) (fun x=>x.1.length≤4398046511104∧0≤x.2∧x.2≤100000000000000)
 (fun _ x=>.v (.int .i64 (if x.1=kAx x.2 x.1.length then x.2+3*x.1.length else -1))) (fun _ _=>[])
section
noncomputable def kYf:=mkX [(205,kLr)] (COk.cons k8l (COk.nil _))
theorem qF1:kYf.tys=tys:=rfl
theorem qF2:kYf.C=[(205,kLr)]:=rfl
attribute [local go_sem] qF1 qF2 kLr
theorem qIi:Cn Tryz.prog 138 kMz:=by
 refine Cn.pur Tryz.func138 (by kernel_rfl) rfl fun d x hx=>?_
 obtain⟨L,k0⟩:=x;obtain⟨hL,h0,h1⟩:=hx;simp only at hL h0 h1⊢;refine Holds.go (c:=kYf) Tryz.func138 rfl Tryz.results138 Tryz.ntmps138 (by omega) (by simp) rfl ?_
 intro X0 w0
 (repeat' (first|apply zS|apply zB|(apply zW;simp only[go_sem])|apply And.intro|intro _))
 all_goals first|omega|skip
 ·rename_i h;by_cases he:L=kAx k0 L.length
  ·rw[if_pos he]at h;omega
  ·rw[if_neg he]
end
section
attribute [local go_sem] kMy k18
end
section
attribute [local go_sem] kMz k19
end
end Go.Proofs.YtjdklcjoeanimaaGreat

