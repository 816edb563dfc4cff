/- DERIVED. Steps of the proof. -/
import Derived.Test.YtjdklcjoeanimaaGreatVf10
set_option linter.all false
set_option maxHeartbeats 1000000
set_option maxRecDepth 10000
namespace Go.Proofs.YtjdklcjoeanimaaGreat
open Go.Vc Tryz
attribute [local irreducible] Go.Vc.WP
def kRs:FP:=⟨10,[fa [1] [],fa [3] [0],fa [4] [0,1],fa [5] [0,1,2],fa [6] [0,1,2,3],fa [1] [],fa [8] [5],fa [9] [5,6],fa [10] [5,6,7],fa [11] [5,6,7,8],fn 10,fn 11],[3,4,5,6,7,8,9,10,11,12],[],[]⟩
attribute [local go_sem] kRs
open Go.Pl
attribute [local go_sem] kCc kB7 aggAg
def kEj (x:AgX):Prop:=kEk x.1∧∀d∈x.2,kUb d
@[go_sem] def kAgOk:Ctr:=pur (fun args=>agA args 0) (fun x=>[.agg (aggAg x)]) kEj (fun _ x=>.v (.bool (kBb x))) (fun _ _=>[])
theorem qCq {I:List Image}{B E:List Int}{D:List Debug}(h:kAo I B E=false):kBb ((I,B,E),D)=false:=by unfold kBb;simp only;rw[h];rfl
theorem k9c {I:List Image}{B E:List Int}{D:List Debug}(h:¬D.length=2):kBb ((I,B,E),D)=false:=by unfold kBb;simp only;rw[decide_eq_false h,jPt];rfl
theorem kO0 {L:List Debug}{k:Nat}(h:k<L.length) (d:Debug):L.getD k d=L[k]:=by rw[jKz,jD9 h];rfl
theorem k0c {I:List Image}{B E:List Int}{D:List Debug}(h:kAo I B E=true) (h2:D.length=2) (i0:0<I.length) (i1:1<I.length) (d0:0<D.length) (d1:1<D.length):kBb ((I,B,E),D)=(kJf I[0] D[0]&&kJf I[1] D[1]):=by
 unfold kBb;simp only;rw[h,decide_eq_true h2,kCd i0,kCd i1,kO0 d0,kO0 d1];rfl
theorem kQ5 {α:Type}(enc:α→List SV) (L:List α) (n:Nat):Go.Vc.rowAt (L.map enc) n=[]∨∃y:α,Go.Vc.rowAt (L.map enc) n=enc y:=by
 by_cases h:n<L.length
 ·exact .inr ⟨_,kAa enc L n h⟩
 ·left;unfold Go.Vc.rowAt;rw[vHt (by simp;omega)];rfl
section
attribute [local irreducible] kEk
def cxAgI:=kc k9d (kc qMb kn)
set_option maxHeartbeats 4000000 in
theorem k9e:Cq 45 kAgOk:=by
 refine zp fun d x hx=>?_
 obtain⟨⟨I,B,E⟩,D⟩:=x;obtain⟨hsp,hD⟩:=hx;simp only at hsp hD⊢;simp only[aggAg];have hn0:lk 0 tys=none:=rfl;refine zg cxAgI func45 rfl rfl ntmps45 ?_;intros
 cases hs:kAo I B E with
 |false =>
  rw[qCq hs];rcases kQ5 encImage I 0 with a0|⟨⟨c0,y0⟩,a0⟩<;>rcases kQ5 encImage I 1 with a1|⟨⟨c1,y1⟩,a1⟩<;>rcases kQ5 encDebug D 0 with a2|⟨⟨c2,y2,y3,y4,y5⟩,a2⟩<;>rcases kQ5 encDebug D 1 with a3|⟨⟨c3,y6,y7,y8,y9⟩,a3⟩
  all_goals
   exact zx1 33 (z8 hs hn0 a0 a1 a2 a3 encImage.eq_1 encDebug.eq_1)
 |true =>
 by_cases h2:D.length=2;rotate_left
 ·rw[k9c h2];have h2':¬(D.length:Int)=2:=zo;have a0:=kAa encImage I 0 (by have:=(kJx hs).1;omega)
  have a1:=kAa encImage I 1 (by have:=(kJx hs).1;omega)
  generalize I[0]'_=x0 at a0;generalize I[1]'_=x1 at a1;obtain⟨c0,y0⟩:=x0;obtain⟨c1,y1⟩:=x1;rcases kQ5 encDebug D 0 with a2|⟨⟨c2,y2,y3,y4,y5⟩,a2⟩<;>rcases kQ5 encDebug D 1 with a3|⟨⟨c3,y6,y7,y8,y9⟩,a3⟩
  all_goals
   (repeat' (first|apply zS|apply zB|((first|apply zW| refine zd 33 ?_);simp only[go_sem,hs,h2',hn0,a0,a1,a2,a3,encImage,encDebug])|apply jAi|omega|exact hsp|rfl|(rw[show((D.length:Int)==2)=false from beq_eq_false_iff_ne.2 h2'];rfl)|intro _))
 have h2':(D.length:Int)=2:=zo;have hl:=(kJx hs).1;have i0:0<I.length:=zo;have i1:1<I.length:=zo;have d0:0<D.length:=zo;have d1:1<D.length:=zo;have j0:(0:Int)<I.length:=zo;have j1:(1:Int)<I.length:=zo;have f0:(0:Int)<D.length:=zo;have f1:(1:Int)<D.length:=zo;rw[k0c hs h2 i0 i1 d0 d1];have g0:=kAa encImage I 0 i0;have g1:=kAa encImage I 1 i1;have r0:=kAa encDebug D 0 d0;have r1:=kAa encDebug D 1 d1;have hsp2:=hsp;unfold kEk at hsp2;have p0:=hsp2.1.2 _ (jCn i0);have p1:=hsp2.1.2 _ (jCn i1);have q0:=hD _ (jCn d0);have q1:=hD _ (jCn d1);generalize I[0]=x0 at *;generalize I[1]=x1 at *;generalize D[0]=y0 at *;generalize D[1]=y1 at *;obtain⟨s0,Y0⟩:=x0;obtain⟨s1,Y1⟩:=x1;obtain⟨n0,Z0,R0,W0,L0⟩:=y0;obtain⟨n1,Z1,R1,W1,L1⟩:=y1;have p01:=p0.1;have p02:=p0.2.1;have p11:=p1.1;have p12:=p1.2.1;have q01:=q0.1;have q11:=q1.1;simp only at p01 p02 p11 p12 q01 q11;cases hf:kJf ⟨s0,Y0⟩ ⟨n0,Z0,R0,W0,L0⟩
 all_goals
  (repeat' (first|apply zS|apply zB|((first|apply zW| refine zd 33 ?_);simp only[go_sem,hs,h2',j0,j1,f0,f1,g0,g1,r0,r1,encImage,encDebug,hf,hn0])|apply jAi|omega|exact hsp|rfl|intro _))
def cxAgS:=kc k9f (kc qMc kn)
set_option maxHeartbeats 4000000 in
theorem k9g:Cq 30 kAgOk:=by
 refine zp fun d x hx=>?_
 obtain⟨⟨I,B,E⟩,D⟩:=x;obtain⟨hsp,hD⟩:=hx;simp only at hsp hD⊢;simp only[aggAg];have hn0:lk 0 tys=none:=rfl;refine zg cxAgS func30 rfl rfl ntmps30 ?_;intros
 cases hs:kAo I B E with
 |false =>
  rw[qCq hs]
  exact zx1 22 hs
 |true =>
 by_cases h2:D.length=2;rotate_left
 ·rw[k9c h2];have h2':¬(D.length:Int)=2:=zo;exact zx1 22 (z2 hs h2')
 have h2':(D.length:Int)=2:=zo;have hl:=(kJx hs).1;have i0:0<I.length:=zo;have i1:1<I.length:=zo;have d0:0<D.length:=zo;have d1:1<D.length:=zo;have j0:(0:Int)<I.length:=zo;have j1:(1:Int)<I.length:=zo;have f0:(0:Int)<D.length:=zo;have f1:(1:Int)<D.length:=zo;rw[k0c hs h2 i0 i1 d0 d1];have g0:=kAa encImage I 0 i0;have g1:=kAa encImage I 1 i1;have r0:=kAa encDebug D 0 d0;have r1:=kAa encDebug D 1 d1;have hsp2:=hsp;unfold kEk at hsp2;have p0:=hsp2.1.2 _ (jCn i0);have p1:=hsp2.1.2 _ (jCn i1);have q0:=hD _ (jCn d0);have q1:=hD _ (jCn d1);generalize I[0]=x0 at *;generalize I[1]=x1 at *;generalize D[0]=y0 at *;generalize D[1]=y1 at *;obtain⟨s0,Y0⟩:=x0;obtain⟨s1,Y1⟩:=x1;obtain⟨n0,Z0,R0,W0,L0⟩:=y0;obtain⟨n1,Z1,R1,W1,L1⟩:=y1;have p01:=p0.1;have p02:=p0.2.1;have p11:=p1.1;have p12:=p1.2.1;have q01:=q0.1;have q11:=q1.1;simp only at p01 p02 p11 p12 q01 q11;cases hf:kJf ⟨s0,Y0⟩ ⟨n0,Z0,R0,W0,L0⟩
 all_goals
  (repeat' (first|apply zS|apply zB|((first|apply zW| refine zd 22 ?_);simp only[go_sem,hs,h2',j0,j1,f0,f1,g0,g1,r0,r1,encImage,encDebug,hf,hn0])|apply jAi|omega|exact hsp|rfl|intro _))
end
def qCr:Ctr:=pur (fun args=>agA args 0) (fun x=>[.agg (aggAg x)]) (fun x=>x.2.length=2) (fun d _=>.own d) (fun d x=>[(d,.sl 145 1 ((x.2.map (·.rules)).map kG9))])
@[go_sem] def qCs:Ctr:=pur (fun args=>agA args 0) (fun x=>[.agg (aggAg x)]) (fun x=>x.2.length=2) (fun _ x=>.sl 1 ((x.2.map (·.rules)).map kG9)) (fun _ _=>[])
section
def cxRuA:=COk.nil Tryz.prog
theorem qMd:Cq 91 qCr:=by
 refine zp fun d x hx=>?_
 obtain⟨⟨I,B,E⟩,D⟩:=x;simp only at hx⊢;simp only[aggAg];refine zg cxRuA func91 rfl rfl ntmps91 ?_;intros
 obtain⟨y0,y1,hDe⟩:∃y0 y1,D=[y0,y1]:=by
  match D,hx with
  | [y0,y1],_=>exact⟨y0,y1,rfl⟩
 have f0:(0:Int)<D.length:=zo;have f1:(1:Int)<D.length:=zo;have r0:Go.Vc.rowAt (D.map encDebug) 0=encDebug y0:=by rw[hDe];rfl
 have r1:Go.Vc.rowAt (D.map encDebug) 1=encDebug y1:=by rw[hDe];rfl
 have hres:(D.map (·.rules)).map kG9=[[.sl 4 (y0.rules.map encRule)],[.sl 4 (y1.rules.map encRule)]]:=by rw[hDe];rfl
 rw[hres]
 (repeat' (first|apply zS|apply zB|((first|apply zW| refine zf kRs ?_);simp only[go_sem,f0,f1,r0,r1,encDebug])|apply jAi|exact zc1|intro _))
theorem qMe:Cq 116 qCr:=by
 refine zp fun d x hx=>?_
 obtain⟨⟨I,B,E⟩,D⟩:=x;simp only at hx⊢;simp only[aggAg];refine zg cxRuA func116 rfl rfl ntmps116 ?_;intros
 obtain⟨y0,y1,hDe⟩:∃y0 y1,D=[y0,y1]:=by
  match D,hx with
  | [y0,y1],_=>exact⟨y0,y1,rfl⟩
 have f0:(0:Int)<D.length:=zo;have f1:(1:Int)<D.length:=zo;have r0:Go.Vc.rowAt (D.map encDebug) 0=encDebug y0:=by rw[hDe];rfl
 have r1:Go.Vc.rowAt (D.map encDebug) 1=encDebug y1:=by rw[hDe];rfl
 have hres:(D.map (·.rules)).map kG9=[[.sl 4 (y0.rules.map encRule)],[.sl 4 (y1.rules.map encRule)]]:=by rw[hDe];rfl
 rw[hres]
 (repeat' (first|apply zS|apply zB|((first|apply zW| refine zf kRs ?_);simp only[go_sem,f0,f1,r0,r1,encDebug])|apply jAi|exact zc1|intro _))
theorem qMf:Cq 91 qCs:=Cn.kTx qMd
theorem qMg:Cq 116 qCs:=Cn.kTx qMe
end
end Go.Proofs.YtjdklcjoeanimaaGreat
namespace Go.Vc
section
variable {c:Cx}{N:Nat}{X0:Nat→Prop}{M:Nat→BV→Prop}{w0:World}{st:St}{K:Exit→St→Prop}
theorem WP.kEw {b:Nat}{ops:Array Oper}{d:Bool}(h:WP c N X0 M w0 (.region b ops d) st K):WP c N X0 M w0 (.region b ops d) st K:=h
end
end Go.Vc
