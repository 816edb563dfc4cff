/-
  DERIVED. Several texts of ours in one: VtSeM, VtSeM2.
-/
import Derived.Test.YtjdklcjoeanimaaGreatVd29
import Derived.Test.YtjdklcjoeanimaaGreatVd36
set_option linter.unusedSimpArgs false
set_option linter.unusedVariables false
set_option maxHeartbeats 1000000
set_option maxRecDepth 10000
namespace Go.Proofs.YtjdklcjoeanimaaGreat
open Go.Vc
attribute [local irreducible] Go.Vc.WP
attribute [local go_sem] kAd kAe
attribute [local go_sem] kAf kAg spA kBe kBc kBq kCn pcA rgA seA kAj tmA kFa ghoK St.gho St.gh SV.flat kSq kJs
def kAq (x:Image):Nat:=1+3*x.symbols.length
def kDf (k:Int) (x:Image):Image:=⟨markT k,kA0 (k+1) x.symbols.length⟩
def kAr (x:Mach):Nat:=5+x.stack.length+x.out.length
def kB6 (k:Int) (x:Mach):Mach:=⟨k,k+1,k+1+1,kBf (k+1+1+1) x.stack.length,kBf (k+1+1+1+(x.stack.length:Int)) x.out.length,k+1+1+1+(x.stack.length:Int)+(x.out.length:Int),k+1+1+1+(x.stack.length:Int)+(x.out.length:Int)+1⟩
theorem kLl {I:List Image}(hL:I.length≤2097152) (hY:∀x∈I,x.symbols.length≤2097152):cntA kAq I≤17592186044416 :=
 Nat.le_trans (kSo I 8388608 fun x hx=>by have:=hY x hx;unfold kAq;omega) (Nat.le_trans (Nat.mul_le_mul_right _ hL) (by decide))
theorem kJz {T:List Mach}(hL:T.length≤1048576) (hY:∀x∈T,kB5 x):cntA kAr T≤17592186044416 :=
 Nat.le_trans (kSo T 8388608 fun x hx=>by have:=hY x hx;unfold kB5 at this;unfold kAr;omega) (Nat.le_trans (Nat.mul_le_mul_right _ hL) (by decide))
def kNs:Ctr:=len [0] [] (fun args obs=>(kDl (oD obs 1000000),aI args 1,oE obs 1000000)) (fun x=>[.own 1000000,.v (.int .i64 x.2.1)]) (fun x=>[(1000000,.dp x.2.2 2 (x.1.map encImage))]) (fun x=>(x.1.length≤2097152∧∀y∈x.1,y.symbols.length≤2097152)∧0≤x.2.1∧x.2.1≤300000000000000)
 (fun _ x=>.v (.int .i64 (x.2.1+(cntA kAq x.1:Int)))) (fun _ _=>[]) (fun x=>[(1000000,.dp x.2.2 2 ((mkA kAq kDf x.2.1 x.1).map encImage))])
section
noncomputable def qA8:=mkX [(202,kBd),(128,kGk)] (COk.cons kJk (COk.cons kRh (COk.nil _)))
theorem qPv:qA8.tys=tys:=rfl
theorem qPw:qA8.C=[(202,kBd),(128,kGk)]:=rfl
attribute [local go_sem] qPv qPw kBd kGk
theorem qGh:Cn Tryz.prog 126 kNs:=by
 refine Cn.len Tryz.func126 (by kernel_rfl) rfl fun d x hd hx=>?_
 obtain⟨L,k0,ee⟩:=x;obtain⟨⟨hL,hY⟩,h0,h1⟩:=hx;simp only at hL hY h0 h1⊢;have hcnt:=kLl hL hY;refine kBj.go (c:=qA8) Tryz.func126 rfl Tryz.results126 Tryz.ntmps126 (by omega) (by simp) rfl (by simp<;>omega) (by simp[SV.kAv,SV.owns,SV.kAn]) (by simp) rfl rfl (by simp) ?_
 intro X0 M w0
 (repeat' (first|apply zS|apply zB|(apply zW;simp only[go_sem])|apply And.intro|intro _))
 refine zL (fun k:Nat=>⟨[(0,.own 1000000),(1,.v (.int .i64 (k0+(cntA kAq (L.take k):Int)))),(5,.v (.int .i64 k))],[(1000000,.dp ee 2 ((hfA kAq kDf k0 L k).map encImage))]⟩) (fun k=>k≤L.length) (fun k=>L.length-k) 0 (by omega) ?_ ?_
 ·have e2:cntA kAq (L.take 0)=0:=rfl;rw[kUp,e2];(simp only[go_sem]<;>(first|(and_intros<;>rfl)|simp))
 intro k hk;have h2:=kXt (cnt:=kAq) (mrk:=kDf) L k0 k hk;have hc2:=kDe (cnt:=kAq) L k;by_cases hlt:k<L.length
 ·have h3:=kXv (cnt:=kAq) (mrk:=kDf) (en:=encImage) L k0 k hlt;have h4:=kXu (cnt:=kAq) (mrk:=kDf) (en:=encImage) L k0 k hlt;have hsh:=hY _ (List.getElem_mem hlt);have hc3:=kLd (cnt:=kAq) L k hlt;have hc4:=kDe (cnt:=kAq) L (k+1);generalize L[k]=y at h3 h4 hsh hc3;obtain⟨yc,yY⟩:=y;generalize hkk:k0+(cntA kAq (L.take k):Int)=kk at h3;rw[encImage,kDf]at h3;rw[encImage]at h4;simp only at h3 h4 hsh;rw[show kAq ⟨yc,yY⟩=1+3*yY.length from rfl]at hc3
  refine zO [.abs 1000000 1,.fld 1000000] ?_;refine zG [.opn 1000000 k,.borV 1000000 1 500] ?_;simp only[go_sem,h2,h4];refine⟨hlt,fun e1=>?_⟩
  (repeat' (first|apply zS|apply zB|(apply zW;simp only[go_sem,h2,h3,h4])|apply And.intro|intro _))
  all_goals first|omega|skip
  refine⟨k+1,by omega,by omega,⟨?_,rfl⟩,rfl⟩
  rw[show kk+1+3*(yY.length:Int)=k0+(cntA kAq (List.take (k+1) L):Int)by omega]
 ·have h5:hfA kAq kDf k0 L k=mkA kAq kDf k0 L:=by rw[show k=L.length by omega];exact kXw _ _
  have h6:=kGp (cnt:=kAq) (mrk:=kDf) L k0
  (repeat' (first|apply zS|apply zB|(apply zW;simp only[go_sem,h2,h5,h6])|apply And.intro|intro _))
  all_goals first|omega|skip
  all_goals rw[show k=L.length by omega,List.take_length]
end
def kL0:Ctr:=len [0] [] (fun args obs=>(kGq (oD obs 1000000),aI args 1,oE obs 1000000)) (fun x=>[.own 1000000,.v (.int .i64 x.2.1)]) (fun x=>[(1000000,.dp x.2.2 7 (x.1.map encMach))]) (fun x=>(x.1.length≤1048576∧∀y∈x.1,kB5 y)∧0≤x.2.1∧x.2.1≤300000000000000)
 (fun _ x=>.v (.int .i64 (x.2.1+(cntA kAr x.1:Int)))) (fun _ _=>[]) (fun x=>[(1000000,.dp x.2.2 7 ((mkA kAr kB6 x.2.1 x.1).map encMach))])
section
noncomputable def qA9:=mkX [(127,k18E)] (COk.cons c18E (COk.nil _))
theorem qPx:qA9.tys=tys:=rfl
theorem qPy:qA9.C=[(127,k18E)]:=rfl
attribute [local go_sem] qPx qPy k18E
set_option maxHeartbeats 3000000 in
theorem qBa:Cn Tryz.prog 132 kL0:=by
 refine Cn.len Tryz.func132 (by kernel_rfl) rfl fun d x hd hx=>?_
 obtain⟨L,k0,ee⟩:=x;obtain⟨⟨hL,hY⟩,h0,h1⟩:=hx;simp only at hL hY h0 h1⊢;have hcnt:=kJz hL hY;refine kBj.go (c:=qA9) Tryz.func132 rfl Tryz.results132 Tryz.ntmps132 (by omega) (by simp) rfl (by simp<;>omega) (by simp[SV.kAv,SV.owns,SV.kAn]) (by simp) rfl rfl (by simp) ?_
 intro X0 M w0
 (repeat' (first|apply zS|apply zB|(apply zW;simp only[go_sem])|apply And.intro|intro _))
 refine zL (fun k:Nat=>⟨[(0,.own 1000000),(1,.v (.int .i64 (k0+(cntA kAr (L.take k):Int)))),(5,.v (.int .i64 k))],[(1000000,.dp ee 7 ((hfA kAr kB6 k0 L k).map encMach))]⟩) (fun k=>k≤L.length) (fun k=>L.length-k) 0 (by omega) ?_ ?_
 ·have e2:cntA kAr (L.take 0)=0:=rfl;rw[kUp,e2];(simp only[go_sem]<;>(first|(and_intros<;>rfl)|simp))
 intro k hk;have h2:=kXt (cnt:=kAr) (mrk:=kB6) L k0 k hk;have hc2:=kDe (cnt:=kAr) L k;by_cases hlt:k<L.length
 ·have h3:=kXv (cnt:=kAr) (mrk:=kB6) (en:=encMach) L k0 k hlt;have h4:=kXu (cnt:=kAr) (mrk:=kB6) (en:=encMach) L k0 k hlt;have hsh:=hY _ (List.getElem_mem hlt);have hc3:=kLd (cnt:=kAr) L k hlt;have hc4:=kDe (cnt:=kAr) L (k+1);generalize L[k]=y at h3 h4 hsh hc3;obtain⟨y1,y2,y3,yS,yO,y6,y7⟩:=y;obtain⟨hS,hO⟩:=hsh;generalize hkk:k0+(cntA kAr (L.take k):Int)=kk at h3;rw[encMach,kB6]at h3;rw[encMach]at h4;simp only at h3 h4 hS hO;rw[show kAr ⟨y1,y2,y3,yS,yO,y6,y7⟩=5+yS.length+yO.length from rfl]at hc3
  refine zO [.abs 1000000 3,.abs 1000000 4,.fld 1000000] ?_;refine zG [.opn 1000000 k,.borV 1000000 3 500,.borV 1000000 4 501] ?_;simp only[go_sem,h2,h4];refine⟨hlt,fun e1 e2=>?_⟩
  (repeat' (first|apply zS|apply zB|(apply zW;simp only[go_sem,h2,h3,h4])|apply And.intro|intro _))
  all_goals first|omega|skip
  refine⟨k+1,by omega,by omega,⟨?_,rfl⟩,rfl⟩
  rw[show kk+1+1+1+(yS.length:Int)+(yO.length:Int)+1+1=k0+(cntA kAr (List.take (k+1) L):Int)by omega]
 ·have h5:hfA kAr kB6 k0 L k=mkA kAr kB6 k0 L:=by rw[show k=L.length by omega];exact kXw _ _
  have h6:=kGp (cnt:=kAr) (mrk:=kB6) L k0
  (repeat' (first|apply zS|apply zB|(apply zW;simp only[go_sem,h2,h5,h6])|apply And.intro|intro _))
  all_goals first|omega|skip
  all_goals rw[show k=L.length by omega,List.take_length]
end
def kNt:Ctr:=pur (fun args=>(kDl (aR args 0),aI args 1)) (fun x=>[.sl 2 (x.1.map encImage),.v (.int .i64 x.2)]) (fun x=>(x.1.length≤2097152∧∀y∈x.1,y.symbols.length≤2097152)∧(0≤x.2∧x.2≤300000000000000)∧mkA kAq kDf x.2 x.1=x.1) (fun _ x=>.v (.int .i64 (x.2+(cntA kAq x.1:Int)))) (fun _ _=>[])
section
noncomputable def qBb:=mkX [(202,kBd),(245,kJm)] (COk.cons kJk (COk.cons k1y (COk.nil _)))
theorem qPz:qBb.tys=tys:=rfl
theorem qP0:qBb.C=[(202,kBd),(245,kJm)]:=rfl
attribute [local go_sem] qPz qP0 kBd kJm
theorem qGi:Cn Tryz.prog 204 kNt:=by
 refine Cn.pur Tryz.func204 (by kernel_rfl) rfl fun d x hx=>?_
 obtain⟨L,k0⟩:=x;obtain⟨⟨hL,hY⟩,⟨h0,h1⟩,hmk⟩:=hx;simp only at hL hY h0 h1 hmk⊢;have hcnt:=kLl hL hY;refine Holds.go (c:=qBb) Tryz.func204 rfl Tryz.results204 Tryz.ntmps204 (by omega) (by simp) rfl ?_
 intro X0 w0
 (repeat' (first|apply zS|apply zB|((first|apply zW| refine zd 8 (h:=?_));simp only[go_sem])|apply And.intro|intro _))
 refine zL (fun k:Nat=>⟨[(0,.sl 2 (L.map encImage)),(1,.v (.int .i64 (k0+(cntA kAq (L.take k):Int)))),(5,.v (.int .i64 k))],[]⟩) (fun k=>k≤L.length) (fun k=>L.length-k) 0 (by omega) ?_ ?_
 ·have e2:cntA kAq (L.take 0)=0:=rfl;rw[e2];(simp only[go_sem]<;>(first|(and_intros<;>rfl)|simp))
 intro k hk;have hc2:=kDe (cnt:=kAq) L k;by_cases hlt:k<L.length
 ·have h1r:=kAa encImage L k hlt;have hsh:=hY _ (List.getElem_mem hlt);have hc3:=kLd (cnt:=kAq) L k hlt;have hc4:=kDe (cnt:=kAq) L (k+1)
  have hg:L[k]=kDf (k0+(cntA kAq (L.take k):Int)) L[k]:=by
   have:=kXx (cnt:=kAq) (mrk:=kDf) L k0 k hlt;rw[←this];congr 1;exact hmk.symm
  generalize L[k]=y at h1r hsh hc3 hg;obtain⟨yc,yY⟩:=y;generalize hkk:k0+(cntA kAq (L.take k):Int)=kk at hg;rw[kDf]at hg;simp only[Image.mk.injEq]at hg;obtain⟨g1,g2⟩:=hg;rw[encImage]at h1r;simp only at h1r hsh;rw[show kAq ⟨yc,yY⟩=1+3*yY.length from rfl]at hc3
  subst g1;have g3:(if yY=kA0 (kk+1) yY.length then kk+1+3*(yY.length:Int)else -1)=kk+1+3*(yY.length:Int):=if_pos g2
  (repeat' (first|apply zS|apply zB|((first|apply zW| refine zd 8 (h:=?_));simp only[go_sem,h1r,g3])|apply And.intro|intro _))
  all_goals first|omega|skip
  all_goals first|(refine⟨k+1,by omega,by omega,?_,rfl⟩;rw[show kk+1+3*(yY.length:Int)=k0+(cntA kAq (List.take (k+1) L):Int)by omega])|skip
 ·(repeat' (first|apply zS|apply zB|((first|apply zW| refine zd 8 (h:=?_));simp only[go_sem])|apply And.intro|intro _))
  all_goals first|omega|skip
  all_goals rw[show k=L.length by omega,List.take_length]
end
def kL1:Ctr:=pur (fun args=>(kGq (aR args 0),aI args 1)) (fun x=>[.sl 7 (x.1.map encMach),.v (.int .i64 x.2)]) (fun x=>(x.1.length≤1048576∧∀y∈x.1,kB5 y)∧(0≤x.2∧x.2≤300000000000000)∧mkA kAr kB6 x.2 x.1=x.1) (fun _ x=>.v (.int .i64 (x.2+(cntA kAr x.1:Int)))) (fun _ _=>[])
section
noncomputable def qBc:=mkX [(139,k19)] (COk.cons c19 (COk.nil _))
theorem qP1:qBc.tys=tys:=rfl
theorem qP2:qBc.C=[(139,k19)]:=rfl
attribute [local go_sem] qP1 qP2 k19
set_option maxHeartbeats 3000000 in
theorem qBd:Cn Tryz.prog 136 kL1:=by
 refine Cn.pur Tryz.func136 (by kernel_rfl) rfl fun d x hx=>?_
 obtain⟨L,k0⟩:=x;obtain⟨⟨hL,hY⟩,⟨h0,h1⟩,hmk⟩:=hx;simp only at hL hY h0 h1 hmk⊢;have hcnt:=kJz hL hY;refine Holds.go (c:=qBc) Tryz.func136 rfl Tryz.results136 Tryz.ntmps136 (by omega) (by simp) rfl ?_
 intro X0 w0
 (repeat' (first|apply zS|apply zB|(apply zW;simp only[go_sem])|apply And.intro|intro _))
 refine zL (fun k:Nat=>⟨[(0,.sl 7 (L.map encMach)),(1,.v (.int .i64 (k0+(cntA kAr (L.take k):Int)))),(5,.v (.int .i64 k))],[]⟩) (fun k=>k≤L.length) (fun k=>L.length-k) 0 (by omega) ?_ ?_
 ·have e2:cntA kAr (L.take 0)=0:=rfl;rw[e2];(simp only[go_sem]<;>(first|(and_intros<;>rfl)|simp))
 intro k hk;have hc2:=kDe (cnt:=kAr) L k;by_cases hlt:k<L.length
 ·have h1r:=kAa encMach L k hlt;have hsh:=hY _ (List.getElem_mem hlt);have hc3:=kLd (cnt:=kAr) L k hlt;have hc4:=kDe (cnt:=kAr) L (k+1)
  have hg:L[k]=kB6 (k0+(cntA kAr (L.take k):Int)) L[k]:=by
   have:=kXx (cnt:=kAr) (mrk:=kB6) L k0 k hlt;rw[←this];congr 1;exact hmk.symm
  generalize L[k]=y at h1r hsh hc3 hg;obtain⟨y1,y2,y3,yS,yO,y6,y7⟩:=y;obtain⟨hS,hO⟩:=hsh;generalize hkk:k0+(cntA kAr (L.take k):Int)=kk at hg;rw[kB6]at hg;simp only[Mach.mk.injEq]at hg;obtain⟨g1,g2,g3,g4,g5,g6,g7⟩:=hg;rw[encMach]at h1r;simp only at h1r hS hO;rw[show kAr ⟨y1,y2,y3,yS,yO,y6,y7⟩=5+yS.length+yO.length from rfl]at hc3
  subst y1 y2 y3 y6 y7;have g8:(if yS=kBf (kk+1+1+1) yS.length then kk+1+1+1+(yS.length:Int)else -1)=kk+1+1+1+(yS.length:Int):=if_pos g4
  have g9:(if yO=kBf (kk+1+1+1+(yS.length:Int)) yO.length then kk+1+1+1+(yS.length:Int)+(yO.length:Int)else -1)=kk+1+1+1+(yS.length:Int)+(yO.length:Int):=if_pos g5
  (repeat' (first|apply zS|apply zB|(apply zW;simp only[go_sem,h1r,g8,g9])|apply And.intro|intro _))
  all_goals first|omega|skip
  all_goals first|(refine⟨k+1,by omega,by omega,?_,rfl⟩;rw[show kk+1+1+1+(yS.length:Int)+(yO.length:Int)+1+1=k0+(cntA kAr (List.take (k+1) L):Int)by omega])|skip
 ·(repeat' (first|apply zS|apply zB|(apply zW;simp only[go_sem])|apply And.intro|intro _))
  all_goals first|omega|skip
  all_goals rw[show k=L.length by omega,List.take_length]
end
end Go.Proofs.YtjdklcjoeanimaaGreat

namespace Go.Proofs.YtjdklcjoeanimaaGreat
open Go.Vc
attribute [local irreducible] Go.Vc.WP
attribute [local go_sem] kAd kAe
attribute [local go_sem] kAf kAg spA kBe kBc kBq kCn pcA rgA seA kAj tmA kFa
section
variable {α:Type}{cnt:α→Nat}{mrk:Int→α→α}
theorem kQh (hc:∀k x,cnt (mrk k x)=cnt x):∀(L:List α) (k:Int),cntA cnt (mkA cnt mrk k L)=cntA cnt L
 | [],_=>rfl
 |x::L,k=>by
  have:=kQh hc L (k+(cnt x:Int));simp only[mkA,cntA,List.map_cons,List.sum_cons,hc]at this⊢;rw[this]
theorem kUz (hc:∀k x,cnt (mrk k x)=cnt x) (hm:∀k x,mrk k (mrk k x)=mrk k x):∀(L:List α) (k:Int),mkA cnt mrk k (mkA cnt mrk k L)=mkA cnt mrk k L
 | [],_=>rfl
 |x::L,k=>by simp only[mkA,hc,hm,kUz hc hm L]
end
theorem kQi (k:Int) (x:Image):kAq (kDf k x)=kAq x:=by simp[kAq,kDf,kBy]
theorem k55 (k:Int) (x:Image):kDf k (kDf k x)=kDf k x:=by simp[kDf,kBy]
theorem kTz (k:Int) (x:Mach):kAr (kB6 k x)=kAr x:=by simp[kAr,kB6,kBr]
theorem k4w (k:Int) (x:Mach):kB6 k (kB6 k x)=kB6 k x:=by simp[kB6,kBr]
def eSp (k:Int) (x:SpX):Int:=k+(cntA kAq x.1:Int)+(x.2.1.length:Int)+(x.2.2.length:Int)
def mkSp (k:Int) (x:SpX):SpX:=(mkA kAq kDf k x.1,kBf (k+(cntA kAq x.1:Int)) x.2.1.length,kBf (k+(cntA kAq x.1:Int)+(x.2.1.length:Int)) x.2.2.length)
def ePc (k:Int) (x:PcX):Int:=eSp k x.1+(cntA kAr x.2.1:Int)
def mkPc (k:Int) (x:PcX):PcX:=(mkSp k x.1,mkA kAr kB6 (eSp k x.1) x.2.1,x.2.2)
def eRg (k:Int) (x:RgX):Int:=k+(x.2.1.length:Int)
def mkRg (k:Int) (x:RgX):RgX:=(x.1,kEj k x.2.1.length,x.2.2)
def eSe (k:Int) (x:SeX):Int:=eRg (ePc k x.1) x.2.2.1
def mkSe (k:Int) (x:SeX):SeX:=(mkPc k x.1,x.2.1,mkRg (ePc k x.1) x.2.2.1,x.2.2.2)
theorem qGj (k:Int) (x:SpX):eSp k (mkSp k x)=eSp k x:=by simp[eSp,mkSp,kQh kQi,kBr]
theorem qGk (k:Int) (x:SpX):mkSp k (mkSp k x)=mkSp k x:=by simp[mkSp,kQh kQi,kUz kQi k55,kBr]
theorem qGl (k:Int) (x:PcX):ePc k (mkPc k x)=ePc k x:=by simp[ePc,mkPc,qGj,kQh kTz]
theorem qGm (k:Int) (x:PcX):mkPc k (mkPc k x)=mkPc k x:=by simp[mkPc,qGj,qGk,kUz kTz k4w]
theorem eSe_mk (k:Int) (x:SeX):eSe k (mkSe k x)=eSe k x:=by simp[eSe,mkSe,qGl,eRg,mkRg,kGc]
theorem qE5 (k:Int) (x:SeX):mkSe k (mkSe k x)=mkSe k x:=by simp[mkSe,qGl,qGm,mkRg,kGc]
theorem kYk {α:Type}{cnt:α→Nat}{mrk:Int→α→α}{p:α→Prop}(hp:∀k x,p x→p (mrk k x)):∀(L:List α) (k:Int),(∀x∈L,p x)→∀y∈mkA cnt mrk k L,p y
 | [],_,_,y,hy=>by simp[mkA]at hy
 |x::L,k,h,y,hy=>by
  simp only[mkA,List.mem_cons]at hy;rcases hy with rfl|hy
  ·exact hp k x (h x List.mem_cons_self)
  ·exact kYk hp L _ (fun z hz=>h z (List.mem_cons_of_mem _ hz)) y hy
theorem qP3 {x:SpX}(h:shSp x) (k:Int):shSp (mkSp k x):=by
 obtain⟨⟨h1,h2⟩,h3,h4⟩:=h;exact⟨⟨by simpa[mkSp,kGp]using h1,kYk (p:=fun i:Image=>i.symbols.length≤2097152) (fun k x h=>by simpa[kDf,kBy]using h) _ _ h2⟩,by simpa[mkSp,kBr]using h3,by simpa[mkSp,kBr]using h4⟩
theorem qP4 {x:PcX}(h:shPc x) (k:Int):shPc (mkPc k x):=by
 obtain⟨h1,h2,h3⟩:=h;exact⟨qP3 h1 k,by simpa[mkPc,kGp]using h2,kYk (p:=kB5) (fun k x h=>by simpa[kB5,kB6,kBr]using h) _ _ h3⟩
theorem qL8 {x:SeX}(h:shSe x) (k:Int):shSe (mkSe k x):=⟨qP4 h.1 k,by simpa[mkSe,mkRg,kGc]using h.2⟩
theorem kOk {x:SpX}(h:shSp x) (k:Int):k≤eSp k x∧eSp k x≤k+17592190238720:=by
 have h1:=kLl h.1.1 h.1.2;have:=h.2.1;have:=h.2.2;unfold eSp;omega
theorem k2j {x:PcX}(h:shPc x) (k:Int):k≤ePc k x∧ePc k x≤k+35184376283136:=by
 have h1:=kOk h.1 k;have h2:=kJz h.2.1 h.2.2;unfold ePc;omega
def pcI (args:List SV):Int×Int×Int:=match(args[0]?:Option SV)with
 |some (.agg [_,_,_,_,.v (.int _ a),.v (.int _ b),.v (.int _ c)])=>(a,b,c)
 | _=>(0,0,0)
def rgI (args:List SV):Int×Int×Int:=match(args[0]?:Option SV)with
 |some (.agg [.v (.int _ a),_,.v (.int _ b),.v (.int _ c)])=>(a,b,c)
 | _=>(0,0,0)
def kKp:Ctr:=len [0] [] (fun args obs=>(((kDl (oD obs 1000000),decI (oR obs 1000001),decI (oR obs 1000002)):SpX),aI args 1)) (fun x=>[.agg [.own 1000000,.own 1000001,.own 1000002],.v (.int .i64 x.2)])
 (fun x=>[(1000000,.dp 144 2 (x.1.1.map encImage)),(1000001,.sl 3 1 (x.1.2.1.map encI)),(1000002,.sl 3 1 (x.1.2.2.map encI))]) (fun x=>shSp x.1∧0≤x.2∧x.2≤100000000000000)
 (fun _ x=>.v (.int .i64 (eSp x.2 x.1))) (fun _ _=>[]) (fun x=>[(1000000,.dp 144 2 ((mkSp x.2 x.1).1.map encImage)),(1000001,.sl 3 1 ((mkSp x.2 x.1).2.1.map encI)),(1000002,.sl 3 1 ((mkSp x.2 x.1).2.2.map encI))])
section
attribute [local go_sem] eSp mkSp
noncomputable def qBe:=mkX [(126,kNs),(127,k18E)] (COk.cons qGh (COk.cons c18E (COk.nil _)))
theorem qP5:qBe.tys=tys:=rfl
theorem qP6:qBe.C=[(126,kNs),(127,k18E)]:=rfl
attribute [local go_sem] qP5 qP6 kNs k18E
theorem k63:Cn Tryz.prog 58 kKp:=by
 refine Cn.len Tryz.func58 (by kernel_rfl) rfl fun d x hd hx=>?_
 obtain⟨⟨I,B,E⟩,k⟩:=x;obtain⟨⟨⟨hI,hIm⟩,hB,hE⟩,h0,h1⟩:=hx;simp only at hI hIm hB hE h0 h1⊢;have hcnt:=kLl hI hIm;refine kBj.go (c:=qBe) Tryz.func58 rfl Tryz.results58 Tryz.ntmps58 (by omega) (by simp) rfl (by simp<;>omega) (by simp[SV.kAv,SV.owns,SV.kAn]) (by simp) rfl rfl (by simp) ?_
 intro X0 M w0
 (repeat' (first|apply zS|apply zB|(apply zW;simp only[go_sem])|apply And.intro|intro _))
 all_goals first|omega|exact hIm _ ‹_›|skip
end
def kS1:Ctr:=len [0] [] (fun args obs=>((((kDl (oD obs 1000000),decI (oR obs 1000001),decI (oR obs 1000002)),kGq (oD obs 1000003),pcI args):PcX),aI args 1)) (fun x=>[.agg [.own 1000000,.own 1000001,.own 1000002,.own 1000003,.v (.int .i64 x.1.2.2.1),.v (.int .i64 x.1.2.2.2.1),.v (.int .i64 x.1.2.2.2.2)],.v (.int .i64 x.2)])
 (fun x=>[(1000000,.dp 144 2 (x.1.1.1.map encImage)),(1000001,.sl 3 1 (x.1.1.2.1.map encI)),(1000002,.sl 3 1 (x.1.1.2.2.map encI)),(1000003,.dp 206 7 (x.1.2.1.map encMach))]) (fun x=>shPc x.1∧0≤x.2∧x.2≤100000000000000)
 (fun _ x=>.v (.int .i64 (ePc x.2 x.1))) (fun _ _=>[]) (fun x=>[(1000000,.dp 144 2 ((mkPc x.2 x.1).1.1.map encImage)),(1000001,.sl 3 1 ((mkPc x.2 x.1).1.2.1.map encI)),(1000002,.sl 3 1 ((mkPc x.2 x.1).1.2.2.map encI)),(1000003,.dp 206 7 ((mkPc x.2 x.1).2.1.map encMach))])
section
attribute [local go_sem] ePc mkPc pcI
attribute [local irreducible] kB5
noncomputable def qBf:=mkX [(58,kKp),(132,kL0)] (COk.cons k63 (COk.cons qBa (COk.nil _)))
theorem qP7:qBf.tys=tys:=rfl
theorem qP8:qBf.C=[(58,kKp),(132,kL0)]:=rfl
attribute [local go_sem] qP7 qP8 kKp kL0
set_option maxHeartbeats 3000000 in
theorem qP9:Cn Tryz.prog 60 kS1:=by
 refine Cn.len Tryz.func60 (by kernel_rfl) rfl fun d x hd hx=>?_
 obtain⟨⟨⟨I,B,E⟩,T,tu,le,sl⟩,k⟩:=x;obtain⟨⟨hsp,hT,hTs⟩,h0,h1⟩:=hx;have hsp2:=hsp;obtain⟨⟨hI,hIm⟩,hB,hE⟩:=hsp2;simp only at hT hTs hI hIm hB hE h0 h1⊢;have hle:k≤eSp k (I,B,E)∧eSp k (I,B,E)≤k+17592190238720:=kOk hsp k;have hcnt:=kJz hT hTs;refine kBj.go (c:=qBf) Tryz.func60 rfl Tryz.results60 Tryz.ntmps60 (by omega) (by simp) rfl (by simp<;>omega) (by simp[SV.kAv,SV.owns,SV.kAn]) (by simp) rfl rfl (by simp) ?_
 intro X0 M w0
 (repeat' (first|apply zS|apply zB|(apply zW;simp only[go_sem])|apply And.intro|intro _))
 all_goals first|omega|exact hIm _ ‹_›|exact hTs _ ‹_›|exact hsp|skip
end
def kS2:Ctr:=len [0] [] (fun args obs=>((((rgI args).1,decS (oR obs 1000000),(rgI args).2):RgX),aI args 1)) (fun x=>[.agg [.v (.int .i64 x.1.1),.own 1000000,.v (.int .i64 x.1.2.2.1),.v (.int .i64 x.1.2.2.2)],.v (.int .i64 x.2)])
 (fun x=>[(1000000,.sl 9 1 (x.1.2.1.map encS))]) (fun x=>x.1.2.1.length≤2097152∧0≤x.2∧x.2≤200000000000000)
 (fun _ x=>.v (.int .i64 (eRg x.2 x.1))) (fun _ _=>[]) (fun x=>[(1000000,.sl 9 1 ((mkRg x.2 x.1).2.1.map encS))])
section
attribute [local go_sem] eRg mkRg rgI
noncomputable def qBg:=mkX [(133,kOs)] (COk.cons qQa (COk.nil _))
theorem qQb:qBg.tys=tys:=rfl
theorem qQc:qBg.C=[(133,kOs)]:=rfl
attribute [local go_sem] qQb qQc kOs
theorem qQd:Cn Tryz.prog 61 kS2:=by
 refine Cn.len Tryz.func61 (by kernel_rfl) rfl fun d x hd hx=>?_
 obtain⟨⟨cp,R,wr,lo⟩,k⟩:=x;obtain⟨hR,h0,h1⟩:=hx;simp only at hR h0 h1⊢;refine kBj.go (c:=qBg) Tryz.func61 rfl Tryz.results61 Tryz.ntmps61 (by omega) (by simp) rfl (by simp<;>omega) (by simp[SV.kAv,SV.owns,SV.kAn]) (by simp) rfl rfl (by simp) ?_
 intro X0 M w0
 (repeat' (first|apply zS|apply zB|(apply zW;simp only[go_sem])|apply And.intro|intro _))
 all_goals first|omega|skip
end
def seI (args:List SV):(Int×Int×Int)×Tm×(Int×Int×Int)×Int×Int×Int:=match(args[0]?:Option SV)with
 |some (.agg [_,_,_,_,.v (.int _ a),.v (.int _ b),.v (.int _ c),.v (.int _ p),.v (.int _ q),.v (.int _ l),.v (.int _ st),.v (.int _ cp),_,.v (.int _ wr),.v (.int _ lo),.v (.int _ mo),.v (.int _ sp),.v (.int _ fi)])=>((a,b,c),⟨p,q,l,st⟩,(cp,wr,lo),mo,sp,fi)
 | _=>((0,0,0),⟨0,0,0,0⟩,(0,0,0),0,0,0)
def kX6:Ctr:=len [0] [] (fun args obs=>(((((kDl (oD obs 1000000),decI (oR obs 1000001),decI (oR obs 1000002)),kGq (oD obs 1000003),(seI args).1),(seI args).2.1,((seI args).2.2.1.1,decS (oR obs 1000004),(seI args).2.2.1.2),(seI args).2.2.2):SeX),aI args 1))
 (fun x=>[.agg [.own 1000000,.own 1000001,.own 1000002,.own 1000003,.v (.int .i64 x.1.1.2.2.1),.v (.int .i64 x.1.1.2.2.2.1),.v (.int .i64 x.1.1.2.2.2.2),.v (.int .i64 x.1.2.1.period),.v (.int .i64 x.1.2.1.spread),.v (.int .i64 x.1.2.1.left),.v (.int .i64 x.1.2.1.state),
  .v (.int .i64 x.1.2.2.1.1),.own 1000004,.v (.int .i64 x.1.2.2.1.2.2.1),.v (.int .i64 x.1.2.2.1.2.2.2),.v (.int .i64 x.1.2.2.2.1),.v (.int .i64 x.1.2.2.2.2.1),.v (.int .i64 x.1.2.2.2.2.2)],.v (.int .i64 x.2)])
 (fun x=>[(1000000,.dp 144 2 (x.1.1.1.1.map encImage)),(1000001,.sl 3 1 (x.1.1.1.2.1.map encI)),(1000002,.sl 3 1 (x.1.1.1.2.2.map encI)),(1000003,.dp 206 7 (x.1.1.2.1.map encMach)),(1000004,.sl 9 1 (x.1.2.2.1.2.1.map encS))]) (fun x=>shSe x.1∧0≤x.2∧x.2≤100000000000000)
 (fun _ x=>.v (.int .i64 (eSe x.2 x.1))) (fun _ _=>[]) (fun x=>[(1000000,.dp 144 2 ((mkSe x.2 x.1).1.1.1.map encImage)),(1000001,.sl 3 1 ((mkSe x.2 x.1).1.1.2.1.map encI)),(1000002,.sl 3 1 ((mkSe x.2 x.1).1.1.2.2.map encI)),(1000003,.dp 206 7 ((mkSe x.2 x.1).1.2.1.map encMach)),(1000004,.sl 9 1 ((mkSe x.2 x.1).2.2.1.2.1.map encS))])
section
attribute [local go_sem] eSe mkSe pcI rgI seI
attribute [local irreducible] kB5 shPc
noncomputable def kYl:=mkX [(60,kS1),(61,kS2)] (COk.cons qP9 (COk.cons qQd (COk.nil _)))
theorem qGn:kYl.tys=tys:=rfl
theorem qGo:kYl.C=[(60,kS1),(61,kS2)]:=rfl
attribute [local go_sem] qGn qGo kS1 kS2
set_option maxHeartbeats 4000000 in
theorem qL4:Cn Tryz.prog 17 kX6:=by
 refine Cn.len Tryz.func17 (by kernel_rfl) rfl fun d x hd hx=>?_
 obtain⟨⟨⟨⟨I,B,E⟩,T,tu,le,sl⟩,⟨p,q,l,st⟩,⟨cp,R,wr,lo⟩,mo,sp,fi⟩,k⟩:=x;obtain⟨⟨hpc,hR⟩,h0,h1⟩:=hx;simp only at hR h0 h1⊢;have hle:k≤ePc k ((I,B,E),T,tu,le,sl)∧ePc k ((I,B,E),T,tu,le,sl)≤k+35184376283136:=k2j hpc k;refine kBj.go (c:=kYl) Tryz.func17 rfl Tryz.results17 Tryz.ntmps17 (by omega) (by simp) rfl (by simp<;>omega) (by simp[SV.kAv,SV.owns,SV.kAn]) (by simp) rfl rfl (by simp) ?_
 intro X0 M w0
 (repeat' (first|apply zS|apply zB|(apply zW;simp only[go_sem])|apply And.intro|intro _))
 all_goals first|omega|exact hpc|skip
end
def kS3:Ctr:=pur (fun args=>(spA args 0,aI args 1)) (fun x=>[.agg [.sl 2 (x.1.1.map encImage),.sl 1 (x.1.2.1.map encI),.sl 1 (x.1.2.2.map encI)],.v (.int .i64 x.2)]) (fun x=>shSp x.1∧(0≤x.2∧x.2≤100000000000000)∧mkSp x.2 x.1=x.1) (fun _ x=>.v (.int .i64 (eSp x.2 x.1))) (fun _ _=>[])
section
attribute [local go_sem] eSp
noncomputable def qBh:=mkX [(204,kNt),(139,k19)] (COk.cons qGi (COk.cons c19 (COk.nil _)))
theorem qQe:qBh.tys=tys:=rfl
theorem qQf:qBh.C=[(204,kNt),(139,k19)]:=rfl
attribute [local go_sem] qQe qQf kNt k19
theorem qQg:Cn Tryz.prog 135 kS3:=by
 refine Cn.pur Tryz.func135 (by kernel_rfl) rfl fun d x hx=>?_
 obtain⟨⟨I,B,E⟩,k⟩:=x;obtain⟨⟨⟨hI,hIm⟩,hB,hE⟩,⟨h0,h1⟩,hmk⟩:=hx;simp only[mkSp,Prod.mk.injEq]at hI hIm hB hE h0 h1 hmk⊢;obtain⟨m1,m2,m3⟩:=hmk;have hcnt:=kLl hI hIm;have g2:(if B=kBf (k+(cntA kAq I:Int)) B.length then k+(cntA kAq I:Int)+(B.length:Int)else -1)=k+(cntA kAq I:Int)+(B.length:Int):=if_pos m2.symm
 have g3:(if E=kBf (k+(cntA kAq I:Int)+(B.length:Int)) E.length then k+(cntA kAq I:Int)+(B.length:Int)+(E.length:Int)else -1)=k+(cntA kAq I:Int)+(B.length:Int)+(E.length:Int):=if_pos m3.symm
 refine Holds.go (c:=qBh) Tryz.func135 rfl Tryz.results135 Tryz.ntmps135 (by omega) (by simp) rfl ?_
 intro X0 w0
 (repeat' (first|apply zS|apply zB|(apply zW;simp only[go_sem,g2,g3])|apply And.intro|intro _))
 all_goals first|omega|exact hIm _ ‹_›|exact m1|skip
end
def kS4:Ctr:=pur (fun args=>(pcA args 0,aI args 1)) (fun x=>[.agg (aggPc x.1),.v (.int .i64 x.2)]) (fun x=>shPc x.1∧(0≤x.2∧x.2≤100000000000000)∧mkPc x.2 x.1=x.1) (fun _ x=>.v (.int .i64 (ePc x.2 x.1))) (fun _ _=>[])
section
attribute [local go_sem] ePc aggPc
attribute [local irreducible] kB5 shSp
noncomputable def qBi:=mkX [(135,kS3),(136,kL1)] (COk.cons qQg (COk.cons qBd (COk.nil _)))
theorem qQh:qBi.tys=tys:=rfl
theorem qQi:qBi.C=[(135,kS3),(136,kL1)]:=rfl
attribute [local go_sem] qQh qQi kS3 kL1
set_option maxHeartbeats 3000000 in
theorem qQj:Cn Tryz.prog 63 kS4:=by
 refine Cn.pur Tryz.func63 (by kernel_rfl) rfl fun d x hx=>?_
 obtain⟨⟨⟨I,B,E⟩,T,tu,le,sl⟩,k⟩:=x;obtain⟨⟨hsp,hT,hTs⟩,⟨h0,h1⟩,hmk⟩:=hx;have m1:mkSp k (I,B,E)=(I,B,E):=congrArg Prod.fst hmk;have m2:mkA kAr kB6 (eSp k (I,B,E)) T=T:=congrArg (fun y:PcX=>y.2.1) hmk
 simp only at hT hTs h0 h1⊢;have hle:k≤eSp k (I,B,E)∧eSp k (I,B,E)≤k+17592190238720:=kOk hsp k;have hcnt:=kJz hT hTs;refine Holds.go (c:=qBi) Tryz.func63 rfl Tryz.results63 Tryz.ntmps63 (by omega) (by simp) rfl ?_
 intro X0 w0
 (repeat' (first|apply zS|apply zB|(apply zW;simp only[go_sem])|apply And.intro|intro _))
 all_goals first|omega|exact hTs _ ‹_›|exact hsp|exact m1|exact m2|skip
end
def kS5:Ctr:=pur (fun args=>(rgA args 0,aI args 1)) (fun x=>[.agg (aggRg x.1),.v (.int .i64 x.2)]) (fun x=>x.1.2.1.length≤2097152∧(0≤x.2∧x.2≤200000000000000)∧kEj x.2 x.1.2.1.length=x.1.2.1) (fun _ x=>.v (.int .i64 (eRg x.2 x.1))) (fun _ _=>[])
section
attribute [local go_sem] eRg aggRg
noncomputable def qBj:=mkX [(137,kWj)] (COk.cons cheldS (COk.nil _))
theorem qQk:qBj.tys=tys:=rfl
theorem qQl:qBj.C=[(137,kWj)]:=rfl
attribute [local go_sem] qQk qQl kWj
theorem qQm:Cn Tryz.prog 64 kS5:=by
 refine Cn.pur Tryz.func64 (by kernel_rfl) rfl fun d x hx=>?_
 obtain⟨⟨cp,R,wr,lo⟩,k⟩:=x;obtain⟨hR,⟨h0,h1⟩,hmk⟩:=hx;simp only at hR h0 h1 hmk⊢;have g:(if R=kEj k R.length then k+(R.length:Int)else -1)=k+(R.length:Int):=if_pos hmk.symm
 refine Holds.go (c:=qBj) Tryz.func64 rfl Tryz.results64 Tryz.ntmps64 (by omega) (by simp) rfl ?_
 intro X0 w0
 (repeat' (first|apply zS|apply zB|(apply zW;simp only[go_sem,g])|apply And.intro|intro _))
 all_goals first|omega|skip
end
def kX8:Ctr:=pur (fun args=>(seA args 0,aI args 1)) (fun x=>[.agg (aggSe x.1),.v (.int .i64 x.2)]) (fun x=>shSe x.1∧(0≤x.2∧x.2≤100000000000000)∧mkSe x.2 x.1=x.1) (fun _ x=>.v (.int .i64 (eSe x.2 x.1))) (fun _ _=>[])
section
attribute [local go_sem] eSe aggSe aggPc aggRg
attribute [local irreducible] kB5 shPc
noncomputable def qBk:=mkX [(63,kS4),(64,kS5)] (COk.cons qQj (COk.cons qQm (COk.nil _)))
theorem qQn:qBk.tys=tys:=rfl
theorem qQo:qBk.C=[(63,kS4),(64,kS5)]:=rfl
attribute [local go_sem] qQn qQo kS4 kS5
set_option maxHeartbeats 4000000 in
theorem qL6:Cn Tryz.prog 19 kX8:=by
 refine Cn.pur Tryz.func19 (by kernel_rfl) rfl fun d x hx=>?_
 obtain⟨⟨⟨⟨I,B,E⟩,T,tu,le,sl⟩,⟨p,q,l,st⟩,⟨cp,R,wr,lo⟩,mo,sp,fi⟩,k⟩:=x;obtain⟨⟨hpc,hR⟩,⟨h0,h1⟩,hmk⟩:=hx;have m1:mkPc k ((I,B,E),T,tu,le,sl)=((I,B,E),T,tu,le,sl):=congrArg Prod.fst hmk;have m2:kEj (ePc k ((I,B,E),T,tu,le,sl)) R.length=R:=congrArg (fun y:SeX=>y.2.2.1.2.1) hmk
 simp only at hR h0 h1⊢;have hle:k≤ePc k ((I,B,E),T,tu,le,sl)∧ePc k ((I,B,E),T,tu,le,sl)≤k+35184376283136:=k2j hpc k;have hrg:eRg (ePc k ((I,B,E),T,tu,le,sl)) (cp,R,wr,lo)=ePc k ((I,B,E),T,tu,le,sl)+(R.length:Int):=rfl;refine Holds.go (c:=qBk) Tryz.func19 rfl Tryz.results19 Tryz.ntmps19 (by omega) (by simp) rfl ?_
 intro X0 w0
 (repeat' (first|apply zS|apply zB|(apply zW;simp only[go_sem])|apply And.intro|intro _))
 all_goals first|omega|exact hpc|exact m1|exact m2|skip
end
end Go.Proofs.YtjdklcjoeanimaaGreat

