/-
  DERIVED. Several texts of ours in one: VtAgO.
-/
import Derived.Test.YtjdklcjoeanimaaGreatVd11
import Derived.Test.YtjdklcjoeanimaaGreatVd13
import Derived.Test.YtjdklcjoeanimaaGreatVd14
set_option linter.unusedSimpArgs false
set_option linter.unusedVariables false
set_option maxHeartbeats 1000000
set_option maxRecDepth 10000
namespace Go.Proofs.YtjdklcjoeanimaaGreat
open Go.Vc
attribute [local irreducible] Go.Vc.WP
attribute [local go_sem] kAd kAe
def kMu:List Go.Vc.Fp:=[⟨[1],[],[],[],[],[]⟩,⟨[3],[0],[],[],[],[]⟩,⟨[4],[0,1],[],[],[],[]⟩,⟨[5],[0,1,2],[],[],[],[]⟩,⟨[6],[0,1,2,3],[],[],[],[]⟩,⟨[1],[],[],[],[],[]⟩,⟨[8],[5],[],[],[],[]⟩,⟨[9],[5,6],[],[],[],[]⟩,⟨[10],[5,6,7],[],[],[],[]⟩,⟨[11],[5,6,7,8],[],[],[],[]⟩,⟨[],[0,1,2,3,4,5,6,7,8,9],[],[],[],[]⟩,⟨[],[0,1,2,3,4,5,6,7,8,9,10],[],[],[],[]⟩]
attribute [local go_sem] kMu
open Go.Pl
attribute [local go_sem] kAf kAg spA kAj imgA kFh kBl kH5 kCe kA4 kFg kBu kDd agA aggAg kGs St.fzS addL behind St.runO St.kIm
def kFj (x:AgX):Prop:=kDx x.1∧∀d∈x.2,kOm d
def kK6:Ctr:=pur (fun args=>agA args 0) (fun x=>[.agg (aggAg x)]) kFj (fun _ x=>.v (.bool (kBn x))) (fun _ _=>[])
theorem k64 {I:List Image}{B E:List Int}{D:List Debug}(h:kAl I B E=false):kBn ((I,B,E),D)=false:=by unfold kBn;simp only;rw[h];rfl
theorem k2v {I:List Image}{B E:List Int}{D:List Debug}(h:¬D.length=2):kBn ((I,B,E),D)=false:=by unfold kBn;simp only;rw[decide_eq_false h,Bool.and_false];rfl
theorem kKj {L:List Debug}{k:Nat}(h:k<L.length) (d:Debug):L.getD k d=L[k]:=by rw[List.getD_eq_getElem?_getD,List.getElem?_eq_getElem h];rfl
theorem kUj {I:List Image}{B E:List Int}{D:List Debug}(h:kAl I B E=true) (h2:D.length=2) (i0:0<I.length) (i1:1<I.length) (d0:0<D.length) (d1:1<D.length):kBn ((I,B,E),D)=(kGo I[0] D[0]&&kGo I[1] D[1]):=by
 unfold kBn;simp only;rw[h,decide_eq_true h2,kCm i0,kCm i1,kKj d0,kKj d1];rfl
theorem kL8 {α:Type}(enc:α→List SV) (L:List α) (n:Nat):Go.Vc.rowAt (L.map enc) n=[]∨∃y:α,Go.Vc.rowAt (L.map enc) n=enc y:=by
 by_cases h:n<L.length
 ·exact .inr ⟨_,kAa enc L n h⟩
 ·left;unfold Go.Vc.rowAt;rw[List.getElem?_eq_none (by simp;omega)];rfl
section
attribute [local irreducible] kDx
noncomputable def k87:=mkX [(103,kFk),(104,kI7)] (COk.cons k2w (COk.cons qHn (COk.nil _)))
theorem qLk:k87.tys=tys:=rfl
theorem qLl:k87.C=[(103,kFk),(104,kI7)]:=rfl
attribute [local go_sem] qLk qLl kFk kI7
set_option maxHeartbeats 4000000 in
theorem qEz:Cn Tryz.prog 45 kK6:=by
 refine Cn.pur Tryz.func45 (by kernel_rfl) rfl fun d x hx=>?_
 obtain⟨⟨I,B,E⟩,D⟩:=x;obtain⟨hsp,hD⟩:=hx;simp only at hsp hD⊢;simp only[aggAg];have hn0:lk 0 tys=none:=rfl;refine Holds.go (c:=k87) Tryz.func45 rfl Tryz.results45 Tryz.ntmps45 (by omega) (by simp) rfl ?_
 intro X0 w0
 cases hs:kAl I B E with
 |false =>
  rw[k64 hs];rcases kL8 encImage I 0 with a0|⟨⟨c0,y0⟩,a0⟩<;>rcases kL8 encImage I 1 with a1|⟨⟨c1,y1⟩,a1⟩<;>rcases kL8 encDebug D 0 with a2|⟨⟨c2,y2,y3,y4,y5⟩,a2⟩<;>rcases kL8 encDebug D 1 with a3|⟨⟨c3,y6,y7,y8,y9⟩,a3⟩
  all_goals
   (repeat' (first|apply zS|apply zB|((first|apply zW| refine zd 33 (h:=?_));simp only[go_sem,hs,hn0,a0,a1,a2,a3,encImage,encDebug])|apply And.intro|intro _))
   all_goals first|omega|exact hsp|rfl|skip
 |true =>
 by_cases h2:D.length=2;rotate_left
 ·rw[k2v h2];have h2':¬(D.length:Int)=2:=by omega
  have a0:=kAa encImage I 0 (by have:=(kGx hs).1;omega)
  have a1:=kAa encImage I 1 (by have:=(kGx hs).1;omega)
  generalize I[0]'_=x0 at a0;generalize I[1]'_=x1 at a1;obtain⟨c0,y0⟩:=x0;obtain⟨c1,y1⟩:=x1;rcases kL8 encDebug D 0 with a2|⟨⟨c2,y2,y3,y4,y5⟩,a2⟩<;>rcases kL8 encDebug D 1 with a3|⟨⟨c3,y6,y7,y8,y9⟩,a3⟩
  all_goals
   (repeat' (first|apply zS|apply zB|((first|apply zW| refine zd 33 (h:=?_));simp only[go_sem,hs,h2',hn0,a0,a1,a2,a3,encImage,encDebug])|apply And.intro|intro _))
   all_goals first|omega|exact hsp|rfl|(rw[show((D.length:Int)==2)=false from beq_eq_false_iff_ne.2 h2'];rfl)|skip
 have h2':(D.length:Int)=2:=by omega
 have hl:=(kGx hs).1;have i0:0<I.length:=by omega
 have i1:1<I.length:=by omega
 have d0:0<D.length:=by omega
 have d1:1<D.length:=by omega
 have j0:(0:Int)<I.length:=by omega
 have j1:(1:Int)<I.length:=by omega
 have f0:(0:Int)<D.length:=by omega
 have f1:(1:Int)<D.length:=by omega
 rw[kUj hs h2 i0 i1 d0 d1];have g0:=kAa encImage I 0 i0;have g1:=kAa encImage I 1 i1;have r0:=kAa encDebug D 0 d0;have r1:=kAa encDebug D 1 d1;have hsp2:=hsp;unfold kDx at hsp2;have p0:=hsp2.1.2 _ (List.getElem_mem i0);have p1:=hsp2.1.2 _ (List.getElem_mem i1);have q0:=hD _ (List.getElem_mem d0);have q1:=hD _ (List.getElem_mem d1);generalize I[0]=x0 at *;generalize I[1]=x1 at *;generalize D[0]=y0 at *;generalize D[1]=y1 at *;obtain⟨s0,Y0⟩:=x0;obtain⟨s1,Y1⟩:=x1;obtain⟨n0,Z0,R0,W0,L0⟩:=y0;obtain⟨n1,Z1,R1,W1,L1⟩:=y1;have p01:=p0.1;have p02:=p0.2.1;have p11:=p1.1;have p12:=p1.2.1;have q01:=q0.1;have q11:=q1.1;simp only at p01 p02 p11 p12 q01 q11;cases hf:kGo ⟨s0,Y0⟩ ⟨n0,Z0,R0,W0,L0⟩
 all_goals
  (repeat' (first|apply zS|apply zB|((first|apply zW| refine zd 33 (h:=?_));simp only[go_sem,hs,h2',j0,j1,f0,f1,g0,g1,r0,r1,encImage,encDebug,hf,hn0])|apply And.intro|intro _))
  all_goals first|omega|exact hsp|rfl|skip
noncomputable def k88:=mkX [(79,kFk),(80,kI7)] (COk.cons k2x (COk.cons qHo (COk.nil _)))
theorem qLm:k88.tys=tys:=rfl
theorem qLn:k88.C=[(79,kFk),(80,kI7)]:=rfl
attribute [local go_sem] qLm qLn kFk kI7
set_option maxHeartbeats 4000000 in
theorem qE0:Cn Tryz.prog 30 kK6:=by
 refine Cn.pur Tryz.func30 (by kernel_rfl) rfl fun d x hx=>?_
 obtain⟨⟨I,B,E⟩,D⟩:=x;obtain⟨hsp,hD⟩:=hx;simp only at hsp hD⊢;simp only[aggAg];have hn0:lk 0 tys=none:=rfl;refine Holds.go (c:=k88) Tryz.func30 rfl Tryz.results30 Tryz.ntmps30 (by omega) (by simp) rfl ?_
 intro X0 w0
 cases hs:kAl I B E with
 |false =>
  rw[k64 hs]
  (repeat' (first|apply zS|apply zB|((first|apply zW| refine zd 22 (h:=?_));simp only[go_sem,hs])|apply And.intro|intro _))
  all_goals first|omega|exact hsp|rfl|skip
 |true =>
 by_cases h2:D.length=2;rotate_left
 ·rw[k2v h2];have h2':¬(D.length:Int)=2:=by omega
  (repeat' (first|apply zS|apply zB|((first|apply zW| refine zd 22 (h:=?_));simp only[go_sem,hs,h2'])|apply And.intro|intro _))
  all_goals first|omega|exact hsp|rfl|skip
 have h2':(D.length:Int)=2:=by omega
 have hl:=(kGx hs).1;have i0:0<I.length:=by omega
 have i1:1<I.length:=by omega
 have d0:0<D.length:=by omega
 have d1:1<D.length:=by omega
 have j0:(0:Int)<I.length:=by omega
 have j1:(1:Int)<I.length:=by omega
 have f0:(0:Int)<D.length:=by omega
 have f1:(1:Int)<D.length:=by omega
 rw[kUj hs h2 i0 i1 d0 d1];have g0:=kAa encImage I 0 i0;have g1:=kAa encImage I 1 i1;have r0:=kAa encDebug D 0 d0;have r1:=kAa encDebug D 1 d1;have hsp2:=hsp;unfold kDx at hsp2;have p0:=hsp2.1.2 _ (List.getElem_mem i0);have p1:=hsp2.1.2 _ (List.getElem_mem i1);have q0:=hD _ (List.getElem_mem d0);have q1:=hD _ (List.getElem_mem d1);generalize I[0]=x0 at *;generalize I[1]=x1 at *;generalize D[0]=y0 at *;generalize D[1]=y1 at *;obtain⟨s0,Y0⟩:=x0;obtain⟨s1,Y1⟩:=x1;obtain⟨n0,Z0,R0,W0,L0⟩:=y0;obtain⟨n1,Z1,R1,W1,L1⟩:=y1;have p01:=p0.1;have p02:=p0.2.1;have p11:=p1.1;have p12:=p1.2.1;have q01:=q0.1;have q11:=q1.1;simp only at p01 p02 p11 p12 q01 q11;cases hf:kGo ⟨s0,Y0⟩ ⟨n0,Z0,R0,W0,L0⟩
 all_goals
  (repeat' (first|apply zS|apply zB|((first|apply zW| refine zd 22 (h:=?_));simp only[go_sem,hs,h2',j0,j1,f0,f1,g0,g1,r0,r1,encImage,encDebug,hf,hn0])|apply And.intro|intro _))
  all_goals first|omega|exact hsp|rfl|skip
end
def k65:Ctr:=pur (fun args=>agA args 0) (fun x=>[.agg (aggAg x)]) (fun x=>x.2.length=2) (fun d _=>.own d) (fun d x=>[(d,.sl 145 1 ((x.2.map (·.rules)).map kFl))])
def kL9:Ctr:=pur (fun args=>agA args 0) (fun x=>[.agg (aggAg x)]) (fun x=>x.2.length=2) (fun _ x=>.sl 1 ((x.2.map (·.rules)).map kFl)) (fun _ _=>[])
section
noncomputable def k0e:=mkX [] (COk.nil _)
theorem qLo:k0e.tys=tys:=rfl
theorem qLp:k0e.C=[]:=rfl
attribute [local go_sem] qLo qLp
theorem qHp:Cn Tryz.prog 91 k65:=by
 refine Cn.pur Tryz.func91 (by kernel_rfl) rfl fun d x hx=>?_
 obtain⟨⟨I,B,E⟩,D⟩:=x;simp only at hx⊢;simp only[aggAg];refine Holds.go (c:=k0e) Tryz.func91 rfl Tryz.results91 Tryz.ntmps91 (by omega) (by simp) rfl ?_
 intro X0 w0
 obtain⟨y0,y1,hDe⟩:∃y0 y1,D=[y0,y1]:=by
  match D,hx with
  | [y0,y1],_=>exact⟨y0,y1,rfl⟩
 have f0:(0:Int)<D.length:=by omega
 have f1:(1:Int)<D.length:=by omega
 have r0:Go.Vc.rowAt (D.map encDebug) 0=encDebug y0:=by rw[hDe];rfl
 have r1:Go.Vc.rowAt (D.map encDebug) 1=encDebug y1:=by rw[hDe];rfl
 have hres:(D.map (·.rules)).map kFl=[[.sl 4 (y0.rules.map encRule)],[.sl 4 (y1.rules.map encRule)]]:=by rw[hDe];rfl
 rw[hres]
 (repeat' (first|apply zS|apply zB|((first|apply zW| refine zF 10 kMu [3,4,5,6,7,8,9,10,11,12] [] [] (by decide +kernel) (by kernel_rfl) (by kernel_rfl) (by kernel_rfl) ?_);simp only[go_sem,f0,f1,r0,r1,encDebug])|apply And.intro|intro _))
 all_goals first|omega|rfl|exact⟨_,_,rfl,_,_,rfl,rfl⟩|skip
theorem qHq:Cn Tryz.prog 116 k65:=by
 refine Cn.pur Tryz.func116 (by kernel_rfl) rfl fun d x hx=>?_
 obtain⟨⟨I,B,E⟩,D⟩:=x;simp only at hx⊢;simp only[aggAg];refine Holds.go (c:=k0e) Tryz.func116 rfl Tryz.results116 Tryz.ntmps116 (by omega) (by simp) rfl ?_
 intro X0 w0
 obtain⟨y0,y1,hDe⟩:∃y0 y1,D=[y0,y1]:=by
  match D,hx with
  | [y0,y1],_=>exact⟨y0,y1,rfl⟩
 have f0:(0:Int)<D.length:=by omega
 have f1:(1:Int)<D.length:=by omega
 have r0:Go.Vc.rowAt (D.map encDebug) 0=encDebug y0:=by rw[hDe];rfl
 have r1:Go.Vc.rowAt (D.map encDebug) 1=encDebug y1:=by rw[hDe];rfl
 have hres:(D.map (·.rules)).map kFl=[[.sl 4 (y0.rules.map encRule)],[.sl 4 (y1.rules.map encRule)]]:=by rw[hDe];rfl
 rw[hres]
 (repeat' (first|apply zS|apply zB|((first|apply zW| refine zF 10 kMu [3,4,5,6,7,8,9,10,11,12] [] [] (by decide +kernel) (by kernel_rfl) (by kernel_rfl) (by kernel_rfl) ?_);simp only[go_sem,f0,f1,r0,r1,encDebug])|apply And.intro|intro _))
 all_goals first|omega|rfl|exact⟨_,_,rfl,_,_,rfl,rfl⟩|skip
theorem qHr:Cn Tryz.prog 91 kL9:=Cn.kOb qHp
theorem qHs:Cn Tryz.prog 116 kL9:=Cn.kOb qHq
end
end Go.Proofs.YtjdklcjoeanimaaGreat

