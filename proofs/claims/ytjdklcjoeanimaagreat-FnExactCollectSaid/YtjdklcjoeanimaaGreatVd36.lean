/-
  DERIVED. Several texts of ours in one: VtAgZ, VgSymbolM, VtIE.
-/
import Derived.Test.YtjdklcjoeanimaaGreatVd4
import Derived.Test.YtjdklcjoeanimaaGreatVd14
import Derived.Test.YtjdklcjoeanimaaGreatVd28
set_option linter.unusedSimpArgs false
set_option linter.unusedVariables false
set_option maxHeartbeats 1000000
set_option maxRecDepth 10000
namespace Go.Proofs.YtjdklcjoeanimaaGreat
open Go.Vc
attribute [local irreducible] Go.Vc.WP
attribute [local go_sem] kAd kAe
open Go.Pl
attribute [local go_sem] kAf kAg spA kBe kAj kA4 kFg kCe kBu kDd agA
theorem kTw (Y:List Inline):Szf (kFn Y):=fun l h=>by
 unfold kFn;split
 ·omega
 ·have:=k2n (kDr Y) (l-Y.length) (by omega);omega
theorem kZ5 {L:List Inline}{l:Int}(h:0≤kFn L l):L.length≤l∧∀x∈L,x.name.size≤l:=by
 unfold kFn at h;split at h
 ·omega
 ·rename_i h2;refine⟨by omega,fun x hx=>?_⟩
  have:=kSt (kDr L) _ (by omega) h x.name.size (List.mem_map.2 ⟨x,hx,rfl⟩)
  omega
def kUs:Ctr:=pur (fun args=>(kF2 (aR args 0),aI args 1)) (fun x=>[.sl 4 (x.1.map encRule),.v (.int .i64 x.2)]) (fun x=>x.1.length≤maxLen∧0≤x.2∧x.2≤1048576)
 (fun _ x=>.v (.int .i64 (szA x.1.length x.2))) (fun _ _=>[])
section
noncomputable def kUt:=mkX [] (COk.nil _)
theorem k89:kUt.tys=tys:=rfl
theorem k9a:kUt.C=[]:=rfl
attribute [local go_sem] k89 k9a
theorem qHt:Cn Tryz.prog 144 kUs:=by
 refine Cn.pur Tryz.func144 (by kernel_rfl) rfl fun d x hx=>?_
 obtain⟨L,left⟩:=x;obtain⟨hL,h0,h1⟩:=hx;simp only at hL h0 h1⊢;have hm:maxLen=9223372036854775807:=rfl;refine Holds.go (c:=kUt) Tryz.func144 rfl Tryz.results144 Tryz.ntmps144 (by omega) (by simp) rfl ?_
 intro X0 w0
 (repeat' (first|apply zS|apply zB|(apply zW;simp only[go_sem])|apply And.intro|intro _))
 all_goals first|omega|skip
 ·rename_i h;rw[szA,if_pos h]
 ·rename_i h;rw[szA,if_neg (by omega)]
end
def kX0:Ctr:=pur (fun args=>(kHl (aR args 0),aI args 1)) (fun x=>[.sl 3 (x.1.map encRow),.v (.int .i64 x.2)]) (fun x=>x.1.length≤maxLen∧0≤x.2∧x.2≤1048576)
 (fun _ x=>.v (.int .i64 (szA x.1.length x.2))) (fun _ _=>[])
section
noncomputable def kX1:=mkX [] (COk.nil _)
theorem qE1:kX1.tys=tys:=rfl
theorem qE2:kX1.C=[]:=rfl
attribute [local go_sem] qE1 qE2
theorem qLq:Cn Tryz.prog 145 kX0:=by
 refine Cn.pur Tryz.func145 (by kernel_rfl) rfl fun d x hx=>?_
 obtain⟨L,left⟩:=x;obtain⟨hL,h0,h1⟩:=hx;simp only at hL h0 h1⊢;have hm:maxLen=9223372036854775807:=rfl;refine Holds.go (c:=kX1) Tryz.func145 rfl Tryz.results145 Tryz.ntmps145 (by omega) (by simp) rfl ?_
 intro X0 w0
 (repeat' (first|apply zS|apply zB|(apply zW;simp only[go_sem])|apply And.intro|intro _))
 all_goals first|omega|skip
 ·rename_i h;rw[szA,if_pos h]
 ·rename_i h;rw[szA,if_neg (by omega)]
end
def kJq (d:Debug):Int→Int:=szT (kCl d.syms) (szT (szA d.rules.length) (szT (szA d.rows.length) (kFn d.inls)))
theorem kUl (d:Debug):Szf (kJq d):=kK5 (kIi _) (kK5 (kEu _) (kK5 (kEu _) (kTw _)))
def bigDbg (d:Debug):Prop:=(d.syms.length≤maxLen∧∀r∈d.syms,r.name.size≤maxLen)∧d.rules.length≤maxLen∧d.rows.length≤maxLen∧d.inls.length≤maxLen∧∀r∈d.inls,r.name.size≤maxLen
def kV3:Ctr:=pur (fun args=>(kBu (aC args 0),aI args 1)) (fun x=>[.agg (encDebug x.1),.v (.int .i64 x.2)]) (fun x=>bigDbg x.1∧0≤x.2∧x.2≤1048576)
 (fun _ x=>.v (.int .i64 (kJq x.1 x.2))) (fun _ _=>[])
section
noncomputable def k2y:CL:=[(143,kH8),(144,kUs),(145,kX0),(146,kPj)]
noncomputable def k9b:=mkX k2y (COk.cons kVr (COk.cons qHt (COk.cons qLq (COk.cons k79 (COk.nil _)))))
theorem qLr:k9b.tys=tys:=rfl
theorem qLs:k9b.C=k2y:=rfl
attribute [local go_sem] qLr qLs k2y kH8 kUs kX0 kPj
theorem cszDbg:Cn Tryz.prog 72 kV3:=by
 refine Cn.pur Tryz.func72 (by kernel_rfl) rfl fun d x hx=>?_
 obtain⟨⟨id,Z,R,W,I⟩,left⟩:=x;obtain⟨⟨⟨hZ,hZn⟩,hR,hW,hI,hIn⟩,h0,h1⟩:=hx;simp only at hZ hZn hR hW hI hIn h0 h1⊢;simp only[encDebug];have hu:kJq ⟨id,Z,R,W,I⟩ left=if kCl Z left<0 then -1 else if szA R.length (kCl Z left)<0 then -1 else if szA W.length (szA R.length (kCl Z left))<0 then -1 else kFn I (szA W.length (szA R.length (kCl Z left))):=rfl
 rw[hu];have f1:=kIi Z left h0;generalize hs1:kCl Z left=s1 at *;refine Holds.go (c:=k9b) Tryz.func72 rfl Tryz.results72 Tryz.ntmps72 (by omega) (by simp) rfl ?_
 intro X0 w0;by_cases c1:s1<0
 ·rw[if_pos c1]
  (repeat' (first|apply zS|apply zB|(apply zW;simp only[go_sem,hs1,c1])|apply And.intro|intro _))
  all_goals first|omega|exact hZn _ ‹_›|skip
 rw[if_neg c1];have f2:=kEu R.length s1 (by omega)
 generalize hs2:szA R.length s1=s2 at *;by_cases c2:s2<0
 ·rw[if_pos c2]
  (repeat' (first|apply zS|apply zB|(apply zW;simp only[go_sem,hs1,c1,hs2,c2])|apply And.intro|intro _))
  all_goals first|omega|exact hZn _ ‹_›|skip
 rw[if_neg c2];have f3:=kEu W.length s2 (by omega)
 generalize hs3:szA W.length s2=s3 at *;by_cases c3:s3<0
 ·rw[if_pos c3]
  (repeat' (first|apply zS|apply zB|(apply zW;simp only[go_sem,hs1,c1,hs2,c2,hs3,c3])|apply And.intro|intro _))
  all_goals first|omega|exact hZn _ ‹_›|skip
 rw[if_neg c3]
 (repeat' (first|apply zS|apply zB|(apply zW;simp only[go_sem,hs1,c1,hs2,c2,hs3,c3])|apply And.intro|intro _))
 all_goals first|omega|exact hZn _ ‹_›|exact hIn _ ‹_›|(rename_i h;rw[kI4 (kTw I) (by omega) h])|skip
end
def kOn (L:List Debug):Int→Int:=kCo (L.map kJq)
theorem kZm (L:List Debug):Szf (kOn L):=kP2 _ (by simp only[List.mem_map];rintro _ ⟨x,_,rfl⟩;exact kUl x)
def kSu:Ctr:=pur (fun args=>(kHp (aR args 0),aI args 1)) (fun x=>[.sl 5 (x.1.map encDebug),.v (.int .i64 x.2)]) (fun x=>x.1.length≤maxLen∧(∀s∈x.1,bigDbg s)∧0≤x.2∧x.2≤1048576)
 (fun _ x=>.v (.int .i64 (kOn x.1 x.2))) (fun _ _=>[])
section
attribute [local irreducible] bigDbg
noncomputable def k9c:=mkX [(72,kV3)] (COk.cons cszDbg (COk.nil _))
theorem qLt:k9c.tys=tys:=rfl
theorem qLu:k9c.C=[(72,kV3)]:=rfl
attribute [local go_sem] qLt qLu kV3
theorem qLv:Cn Tryz.prog 24 kSu:=by
 refine Cn.pur Tryz.func24 (by kernel_rfl) rfl fun d x hx=>?_
 obtain⟨L,left⟩:=x;obtain⟨hL,hs,h0,h1⟩:=hx;simp only at hL hs h0 h1⊢;have hm:maxLen=9223372036854775807:=rfl;generalize hF:(L.map kJq)=F;have hlen:F.length=L.length:=by rw[←hF,List.length_map]
 have hsz:kOn L left=kCo F left:=by rw[←hF];rfl
 rw[hsz];refine Holds.go (c:=k9c) Tryz.func24 rfl Tryz.results24 Tryz.ntmps24 (by omega) (by simp) rfl ?_
 intro X0 w0
 (repeat' (first|apply zS|apply zB|(apply zW;simp only[go_sem])|apply And.intro|intro _))
 all_goals first|omega|skip
 ·rename_i h;rw[kCo,hlen,if_pos h]
 rename_i hge
 refine zL (fun s:Nat×Int=>⟨[(0,.sl 5 (L.map encDebug)),(1,.v (.int .i64 s.2)),(5,.v (.int .i64 s.1))],[]⟩)
  (fun s=>s.1≤L.length∧0≤s.2∧s.2≤1048576∧kCo F left=szL (F.drop s.1) s.2) (fun s=>L.length-s.1) (0,left-L.length)
  ⟨by simp,by simpa using hge,by simp only;omega,by rw[kCo,hlen,if_neg (by omega)];rfl⟩ ?_ ?_
 ·simp only[go_sem];first|exact⟨rfl,rfl⟩|rfl
 rintro⟨k,r⟩ ⟨hk,hr0,hr1,he⟩;simp only at hk hr0 hr1 he⊢;by_cases hlt:k<L.length
 ·have h2:=kAa encDebug L k hlt;have h3:=hs _ (List.getElem_mem hlt);have hFk:F[k]'(by omega)=kJq L[k]:=by subst hF;simp
  have h4:=kP1 F k r (by omega)
  rw[hFk]at h4;have h6:=kUl L[k] r hr0;generalize L[k]=y at *;obtain⟨id,Z,R,W,I⟩:=y;by_cases h5:kJq ⟨id,Z,R,W,I⟩ r<0
  ·rw[he,h4,if_pos h5]
   (repeat' (first|apply zS|apply zB|(apply zW;simp only[go_sem,h2,encDebug,h5])|apply And.intro|intro _))
   all_goals first|omega|exact h3|skip
  ·rw[if_neg h5]at h4
   (repeat' (first|apply zS|apply zB|(apply zW;simp only[go_sem,h2,encDebug,h5])|apply And.intro|intro _))
   all_goals first|omega|exact h3|exact⟨(k+1,kJq ⟨id,Z,R,W,I⟩ r),⟨by simp only;omega,by simp only;omega,by simp only;omega,by rw[he,h4]⟩,by simp only;omega,rfl,rfl⟩|skip
 ·(repeat' (first|apply zS|apply zB|(apply zW;simp only[go_sem])|apply And.intro|intro _))
  all_goals first|omega|skip
  rw[he,List.drop_of_length_le (by omega)]
  rfl
end
def kIp (x:AgX):Int→Int:=szT (kIo x.1) (kOn x.2)
theorem k6w (x:AgX):Szf (kIp x):=kK5 (kL7 _) (kZm _)
def bigAg (x:AgX):Prop:=bigSp x.1∧x.2.length≤maxLen∧∀d∈x.2,bigDbg d
def k9d:Ctr:=pur (fun args=>(agA args 0,aI args 1)) (fun x=>[.agg (aggAg x.1),.v (.int .i64 x.2)]) (fun x=>bigAg x.1∧0≤x.2∧x.2≤1048576)
 (fun _ x=>.v (.int .i64 (kIp x.1 x.2))) (fun _ _=>[])
section
attribute [local irreducible] bigDbg bigSp
noncomputable def k9e:=mkX [(23,kP3),(24,kSu)] (COk.cons cszSp (COk.cons qLv (COk.nil _)))
theorem qLw:k9e.tys=tys:=rfl
theorem qLx:k9e.C=[(23,kP3),(24,kSu)]:=rfl
attribute [local go_sem] qLw qLx kP3 kSu
theorem cszAg:Cn Tryz.prog 5 k9d:=by
 refine Cn.pur Tryz.func5 (by kernel_rfl) rfl fun d x hx=>?_
 obtain⟨⟨⟨I,B,E⟩,D⟩,left⟩:=x;obtain⟨⟨hsp,hD,hDb⟩,h0,h1⟩:=hx;simp only at hsp hD hDb h0 h1⊢;simp only[aggAg];have hu:kIp ((I,B,E),D) left=if kIo (I,B,E) left<0 then -1 else kOn D (kIo (I,B,E) left):=rfl
 rw[hu];have f1:=kL7 (I,B,E) left h0;generalize hs1:kIo (I,B,E) left=s1 at *;refine Holds.go (c:=k9e) Tryz.func5 rfl Tryz.results5 Tryz.ntmps5 (by omega) (by simp) rfl ?_
 intro X0 w0;by_cases c1:s1<0
 ·rw[if_pos c1]
  (repeat' (first|apply zS|apply zB|(apply zW;simp only[go_sem,hs1,c1])|apply And.intro|intro _))
  all_goals first|omega|exact hsp|exact hDb _ ‹_›|skip
 rw[if_neg c1]
 (repeat' (first|apply zS|apply zB|(apply zW;simp only[go_sem,hs1,c1])|apply And.intro|intro _))
 all_goals first|omega|exact hsp|exact hDb _ ‹_›|(rename_i h;rw[kI4 (kZm D) (by omega) h])|skip
end
end Go.Proofs.YtjdklcjoeanimaaGreat

namespace Go.Proofs.YtjdklcjoeanimaaGreat
open Go.Vc
section
open Go.Vc
attribute [local irreducible] Go.Vc.WP
attribute [local go_sem] kAd kAe
section
attribute [local go_sem] kRb kRc kK7 kCq
end
section
attribute [local go_sem] kRd kRe kK8 kCq
end
section
attribute [local go_sem] kRf kRg kK9 kCq
end
theorem qEm {a b:Symbol}(h0:a.name=b.name) (h1:a.start=b.start) (h2:a.size=b.size):a=b:=by cases a;cases b;simp_all
def kHo (v:Int):Symbol:=⟨markT (v),v+1,v+1+1⟩
def kA0 (k:Int) (n:Nat):List Symbol:=(List.range n).map fun i:Nat=>kHo (k+3*(i:Int))
theorem kBy (k:Int) (n:Nat):(kA0 k n).length=n:=by simp[kA0]
def kDi (L:List Symbol) (k0:Int) (k:Nat):List Symbol:=kA0 k0 k++L.drop k
theorem kXo (L:List Symbol) (k0:Int) (k:Nat) (h:k≤L.length):(kDi L k0 k).length=L.length:=by simp[kDi,kBy];omega
theorem kXp (L:List Symbol) (k0:Int) (k:Nat) (h:k<L.length):((kDi L k0 k).map encSymbol).set k (encSymbol (kHo (k0+3*(k:Int))))=(kDi L k0 (k+1)).map encSymbol:=by
 rw[←List.map_set];congr 1;unfold kDi;rw[List.set_append,if_neg (by simp[kBy]),kBy,Nat.sub_self,List.drop_eq_getElem_cons h,List.set_cons_zero]
 simp[kA0,List.range_succ]
noncomputable def kLs:=mkX [(202,kBd)] (COk.cons kJk (COk.nil _))
theorem k1w:kLs.tys=tys:=rfl
theorem k1x:kLs.C=[(202,kBd)]:=rfl
attribute [local go_sem] k1w k1x kBd
def kGk:Ctr:=len [0] [] (fun args obs=>(kDp (oR obs 1000000),aI args 1,oE obs 1000000)) (fun x=>[.own 1000000,.v (.int .i64 x.2.1)]) (fun x=>[(1000000,.sl x.2.2 3 (x.1.map encSymbol))]) (fun x=>x.1.length≤4398046511104∧0≤x.2.1∧x.2.1≤500000000000000)
 (fun _ x=>.v (.int .i64 (x.2.1+3*x.1.length))) (fun _ _=>[]) (fun x=>[(1000000,.sl x.2.2 3 ((kA0 x.2.1 x.1.length).map encSymbol))])
theorem kRh:Cn Tryz.prog 128 kGk:=by
 refine Cn.len Tryz.func128 (by kernel_rfl) rfl fun d x hd hx=>?_
 obtain⟨L,k0,ee⟩:=x;obtain⟨hL,h0,h1⟩:=hx;simp only at hL h0 h1⊢;refine kBj.go (c:=kLs) Tryz.func128 rfl Tryz.results128 Tryz.ntmps128 (by omega) (by simp) rfl (by simp<;>omega) (by simp[SV.kAv,SV.owns,SV.kAn]) (by simp) rfl rfl (by simp) ?_
 intro X0 M w0
 (repeat' (first|apply zS|apply zB|(apply zW;simp only[go_sem])|apply And.intro|intro _))
 refine zL (fun k:Nat=>⟨[(0,.own 1000000),(1,.v (.int .i64 (k0+3*(k:Int)))),(5,.v (.int .i64 k))],[(1000000,.sl ee 3 ((kDi L k0 k).map encSymbol))]⟩) (fun k=>k≤L.length) (fun k=>L.length-k) 0 (by omega) ?_ ?_
 ·have e:kDi L k0 0=L:=by simp[kDi,kA0]
  rw[e];(simp only[go_sem]<;>(first|(and_intros<;>rfl)|simp))
 intro k hk;have h2:=kXo L k0 k hk;by_cases hlt:k<L.length
 ·have h3:=kXp L k0 k hlt;rw[encSymbol,kHo]at h3;simp only at h3;have h4:=kAa encSymbol (kDi L k0 k) k (by omega)
  have h5:∀r:List SV,Go.Vc.rowAt (((kDi L k0 k).map encSymbol).set k r) k=r:=fun r=>rowAt_set _ _ _ (by rw[List.length_map];omega)
  (repeat' (first|apply zS|apply zB|(apply zW;simp only[go_sem,h2,h3,h4,h5,encSymbol,List.set_set,List.length_set])|apply And.intro|intro _))
  all_goals first|omega|skip
  refine⟨k+1,by omega,by omega,⟨?_,rfl⟩,rfl⟩
  rw[show k0+3*(k:Int)+1+1+1=k0+3*((k+1:Nat):Int)by omega]
 ·have h5:kDi L k0 k=kA0 k0 L.length:=by rw[show k=L.length by omega];simp[kDi]
  have h6:=kBy k0 L.length
  (repeat' (first|apply zS|apply zB|(apply zW;simp only[go_sem,h2,h5,h6])|apply And.intro|intro _))
  all_goals first|omega|skip
  all_goals rw[show k=L.length by omega]
def kJm:Ctr:=pur (fun args=>(kDp (aR args 0),aI args 1)) (fun x=>[.sl 3 (x.1.map encSymbol),.v (.int .i64 x.2)]) (fun x=>x.1.length≤4398046511104∧0≤x.2∧x.2≤500000000000000)
 (fun _ x=>.v (.int .i64 (if x.1=kA0 x.2 x.1.length then x.2+3*x.1.length else -1))) (fun _ _=>[])
theorem k1y:Cn Tryz.prog 245 kJm:=by
 refine Cn.pur Tryz.func245 (by kernel_rfl) rfl fun d x hx=>?_
 obtain⟨L,k0⟩:=x;obtain⟨hL,h0,h1⟩:=hx;simp only at hL h0 h1⊢;refine Holds.go (c:=kLs) Tryz.func245 rfl Tryz.results245 Tryz.ntmps245 (by omega) (by simp) rfl ?_
 intro X0 w0
 (repeat' (first|apply zS|apply zB|((first|apply zW| refine zd 8 (h:=?_));simp only[go_sem])|apply And.intro|intro _))
 refine zL (fun k:Nat=>⟨[(0,.sl 3 (L.map encSymbol)),(1,.v (.int .i64 (k0+3*(k:Int)))),(5,.v (.int .i64 k))],[]⟩) (fun k=>k≤L.length∧L.take k=kA0 k0 k) (fun k=>L.length-k) 0 (by simp[kA0]) ?_ ?_
 ·(simp only[go_sem]<;>(first|(and_intros<;>rfl)|simp))
 intro k ⟨hk,ht⟩;by_cases hlt:k<L.length
 ·have h3:=kAa encSymbol L k hlt
  (repeat' (first|apply zS|apply zB|((first|apply zW| refine zd 8 (h:=?_));simp only[go_sem,h3,encSymbol])|apply And.intro|intro _))
  all_goals first|omega|skip
  ·rename_i hne;rw[if_neg];intro e;have e2:L[k]=(kA0 k0 L.length)[k]'(by rw[kBy];exact hlt):=by congr 1
   exact hne (by rw[e2];simp[kA0,kHo])
  ·rename_i hne;rw[if_neg];intro e;have e2:L[k]=(kA0 k0 L.length)[k]'(by rw[kBy];exact hlt):=by congr 1
   exact hne (by rw[e2];simp[kA0,kHo])
  ·rename_i hne;rw[if_neg];intro e;have e2:L[k]=(kA0 k0 L.length)[k]'(by rw[kBy];exact hlt):=by congr 1
   exact hne (by rw[e2];simp[kA0,kHo])
  ·rename_i g0 g1 g2;refine⟨k+1,⟨by omega,?_⟩,by omega,?_,rfl⟩
   ·have he:L[k]=kHo (k0+3*(k:Int)):=qEm g0 g1 g2;rw[List.take_succ_eq_append_getElem hlt,ht,he];simp[kA0,List.range_succ]
   ·rw[show k0+3*(k:Int)+1+1+1=k0+3*((k+1:Nat):Int)by omega]
 ·(repeat' (first|apply zS|apply zB|((first|apply zW| refine zd 8 (h:=?_));simp only[go_sem])|apply And.intro|intro _))
  all_goals first|omega|skip
  rw[show k=L.length by omega,List.take_length]at ht
  rw[if_pos ht,show k=L.length by omega]
end
section
open Go.Vc
attribute [local irreducible] Go.Vc.WP
attribute [local go_sem] kAd kAe
def k18E:Ctr:=len [0] [] (fun args obs=>(decI (oR obs 1000000),aI args 1,oE obs 1000000)) (fun x=>[.own 1000000,.v (.int .i64 x.2.1)]) (fun x=>[(1000000,.sl x.2.2 1 (x.1.map encI))]) (fun x=>x.1.length≤4398046511104∧0≤x.2.1∧x.2.1≤500000000000000)
 (fun _ x=>.v (.int .i64 (x.2.1+x.1.length))) (fun _ _=>[]) (fun x=>[(1000000,.sl x.2.2 1 ((kBf x.2.1 x.1.length).map encI))])
theorem c18E:Cn Tryz.prog 127 k18E:=by
 refine Cn.len Tryz.func127 (by kernel_rfl) rfl fun d x hd h=>?_
 obtain⟨L,k0,ee⟩:=x;obtain⟨hL,h0,h1⟩:=h;simp only at hL h0 h1⊢;refine kBj.go (c:=cx0) Tryz.func127 rfl Tryz.results127 Tryz.ntmps127 (by omega) (by simp) rfl (by simp) (by simp[SV.kAv,SV.owns,SV.kAn]) (by simp) rfl rfl (by simp) ?_
 intro X0 M w0
 (repeat' (first|apply zS|apply zB|(apply zW;simp only[go_sem])|apply And.intro|intro _))
 refine zL (fun k:Nat=>⟨[(0,.own 1000000),(1,.v (.int .i64 (k0+k))),(5,.v (.int .i64 k))],[(1000000,.sl ee 1 ((kGb L k0 k).map encI))]⟩) (fun k=>k≤L.length) (fun k=>L.length-k) 0 (by omega) ?_ ?_
 ·have e:kGb L k0 0=L:=by simp[kGb,kBf]
  rw[e];simp only[go_sem];simp
 intro k hk;have h2:=kZs L k0 k hk;by_cases hlt:k<L.length
 ·have h3:=kZt L k0 k hlt;rw[encI]at h3;have h4:=kAa encI (kGb L k0 k) k (by omega)
  (repeat' (first|apply zS|apply zB|(apply zW;simp only[go_sem,h2,h3,h4,encI])|apply And.intro|intro _))
  all_goals first|omega|skip
  refine⟨k+1,by omega,by omega,⟨?_,rfl⟩,rfl⟩
  rw[show k0+(k:Int)+1=k0+((k+1:Nat):Int)by omega]
 ·have h5:kGb L k0 k=kBf k0 L.length:=by rw[show k=L.length by omega];simp[kGb]
  have h6:=kBr k0 L.length
  (repeat' (first|apply zS|apply zB|(apply zW;simp only[go_sem,h2,h5,h6])|apply And.intro|intro _))
  all_goals first|omega|skip
  rw[show k=L.length by omega]
end
end Go.Proofs.YtjdklcjoeanimaaGreat
