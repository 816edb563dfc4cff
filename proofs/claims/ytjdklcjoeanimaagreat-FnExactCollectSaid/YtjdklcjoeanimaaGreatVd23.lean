/-
  DERIVED. Several texts of ours in one: VtStO, VtStS.
-/
import Derived.Test.YtjdklcjoeanimaaGreatVd15
import Derived.Test.YtjdklcjoeanimaaGreatVd19
import Derived.Test.YtjdklcjoeanimaaGreatVd22
set_option linter.unusedSimpArgs false
set_option linter.unusedVariables false
set_option maxHeartbeats 1000000
set_option maxRecDepth 10000
namespace Go.Proofs.YtjdklcjoeanimaaGreat
open Go.Vc
attribute [local irreducible] Go.Vc.WP
attribute [local go_sem] kAd kAe
open Go.Pl
attribute [local go_sem] kAf kAg spA kAj kCe kA4 kFg kBu kDd agA kGs St.fzS addL behind St.runO St.kIm
theorem kTd (L:List Frame):allV (L.map kAc):=by
 intro row hr c hc;obtain⟨n,_,rfl⟩:=List.mem_map.1 hr;simp only[kAc,List.mem_cons,List.not_mem_nil,or_false]at hc;rcases hc with rfl|rfl<;>exact⟨_,rfl⟩
theorem qSl:Cn Tryz.prog 238 kWf:=Cn.kI0 (fun x=>kTd _) cFrAtI
structure AgR (x:AgX):Prop where
 pre:kFj x
 ok:kBn x=true
theorem AgR.sp {x:AgX}(h:AgR x):kAl x.1.1 x.1.2.1 x.1.2.2=true:=by
 have:=h.ok;unfold kBn at this;simp only[Bool.and_eq_true]at this;exact this.1.1.1
theorem AgR.len {x:AgX}(h:AgR x):x.2.length=2:=by
 have:=h.ok;unfold kBn at this;simp only[Bool.and_eq_true,decide_eq_true_eq]at this;exact this.1.1.2
theorem AgR.dbg {x:AgX}(h:AgR x):∀d∈x.2,kOm d:=h.pre.2
theorem kL2 {I:List Image}{B E:List Int}{D:List Debug}{adr:Int}{st:Bool}(h:locI I B adr<0):kBg ((I,B,E),D) adr st=none:=if_pos h
theorem kN3 {I:List Image}{B E:List Int}{D:List Debug}{adr:Int}{st:Bool}{k:Nat}(h:locI I B adr=k) (hk:k<D.length):kBg ((I,B,E),D) adr st=kDk D[k] (adr-B.getD k 0) st:=by
 unfold kBg;simp only;rw[h,if_neg (by omega),Int.toNat_natCast,kKj hk]
def faL (x:AgX) (adr:Int) (st:Bool):List Frame:=(kBg x adr st).getD []
def kFrA:Ctr:=pur (fun args=>(agA args 0,aI args 1,aB args 2)) (fun x=>[.agg (aggAg x.1),.v (.int .i64 x.2.1),.v (.bool x.2.2)]) (fun x=>AgR x.1)
 (fun _ x=>.tup [.sl 2 ((faL x.1 x.2.1 x.2.2).map kAc),.v (.bool (kBg x.1 x.2.1 x.2.2).isSome)]) (fun _ _=>[])
section
attribute [local irreducible] kLj kDx kOm
noncomputable def qCh:=mkX [(234,kLoc),(238,kWf)] (COk.cons cLocI (COk.cons qSl (COk.nil _)))
theorem qSm:qCh.tys=tys:=rfl
theorem qSn:qCh.C=[(234,kLoc),(238,kWf)]:=rfl
attribute [local go_sem] qSm qSn kLoc kWf
theorem cFrAI:Cn Tryz.prog 191 kFrA:=by
 refine Cn.pur Tryz.func191 (by kernel_rfl) rfl fun d x hx=>?_
 obtain⟨⟨⟨I,B,E⟩,D⟩,adr,st⟩:=x;have hA:AgR ((I,B,E),D):=hx;have hpl:=kH1 hA.pre.1 hA.sp adr;have hs:=hA.sp;have h2:=hA.len;have hD:=hA.dbg;simp only at hpl hs h2 hD⊢;simp only[aggAg];refine Holds.go (c:=qCh) Tryz.func191 rfl Tryz.results191 Tryz.ntmps191 (by omega) (by simp) rfl ?_
 intro X0 w0;by_cases hl:locI I B adr<0
 ·have e:=@kL2 I B E D adr st hl;have e2:faL ((I,B,E),D) adr st=[]:=by unfold faL;rw[e];rfl
  rw[e2,e]
  (repeat' (first|apply zS|apply zB|(apply zW;simp only[go_sem,hl])|apply And.intro|intro _))
  all_goals first|omega|exact hpl|rfl|exact⟨_,_,rfl⟩|skip
 obtain⟨k,hk,hk2⟩:=kHr hs hl;have hkD:k<D.length:=by omega
 have hki:(k:Int)<D.length:=by omega
 have n1:¬(k:Int)<0:=by omega
 have g:=kAa encDebug D k hkD;have hd:=hD _ (List.getElem_mem hkD);have e:=@kN3 I B E D adr st k hk hkD;have e2:faL ((I,B,E),D) adr st=(kDk D[k] (adr-B.getD k 0) st).getD []:=by unfold faL;rw[e]
 rw[e2,e];generalize hB:B.getD k 0=b at *;generalize D[k]=d0 at *;obtain⟨id,Z,R,W,L⟩:=d0
 (repeat' (first|apply zS|apply zB|(apply zW;simp only[go_sem,hk,n1,hki,g,encDebug,hB])|apply And.intro|intro _))
 all_goals first|omega|exact hpl|exact hd|rfl|skip
end
def kFrS:Ctr:=pur (fun args=>(agA args 0,aI args 1,aB args 2,aB args 3)) (fun x=>[.agg (aggAg x.1),.v (.int .i64 x.2.1),.v (.bool x.2.2.1),.v (.bool x.2.2.2)]) (fun x=>AgR x.1∧okN x.2.1)
 (fun d x=>.tup [.own d,.v (.bool (kBg x.1 (if x.2.2.1=true then x.2.1 else x.2.1-1) (x.2.2.2&&x.2.2.1)).isSome)]) (fun d x=>[(d,.sl 228 2 ((faL x.1 (if x.2.2.1=true then x.2.1 else x.2.1-1) (x.2.2.2&&x.2.2.1)).map kAc))])
def qCi:Ctr:=pur (fun args=>(agA args 0,aI args 1,aB args 2,aB args 3)) (fun x=>[.agg (aggAg x.1),.v (.int .i64 x.2.1),.v (.bool x.2.2.1),.v (.bool x.2.2.2)]) (fun x=>AgR x.1∧okN x.2.1)
 (fun _ x=>.tup [.sl 2 ((faL x.1 (if x.2.2.1=true then x.2.1 else x.2.1-1) (x.2.2.2&&x.2.2.1)).map kAc),.v (.bool (kBg x.1 (if x.2.2.1=true then x.2.1 else x.2.1-1) (x.2.2.2&&x.2.2.1)).isSome)]) (fun _ _=>[])
section
attribute [local irreducible] kLj kDx kOm
noncomputable def qCj:=mkX [(153,kLoc),(165,kWe)] (COk.cons qCc (COk.cons cFrAtS (COk.nil _)))
theorem qSo:qCj.tys=tys:=rfl
theorem qSp:qCj.C=[(153,kLoc),(165,kWe)]:=rfl
attribute [local go_sem] qSo qSp kLoc kWe
set_option maxHeartbeats 4000000 in
theorem cFrSS:Cn Tryz.prog 92 kFrS:=by
 refine Cn.pur Tryz.func92 (by kernel_rfl) rfl fun d x hx=>?_
 obtain⟨⟨⟨I,B,E⟩,D⟩,adr,inner,st⟩:=x;obtain⟨hA,ho⟩:=hx;simp only at hA ho⊢;obtain⟨ho1,ho2⟩:=ho;have hs:=hA.sp;have h2:=hA.len;have hD:=hA.dbg;have hp1:=hA.pre.1;simp only at hs h2 hD hp1;simp only[aggAg];have hn0:lk 0 tys=none:=rfl;refine Holds.go (c:=qCj) Tryz.func92 rfl Tryz.results92 Tryz.ntmps92 (by omega) (by simp) rfl ?_
 intro X0 w0
 cases inner with
 |true =>
  simp only[if_true,Bool.and_true];have hpl:=kH1 hp1 hs adr;by_cases hl:locI I B adr<0
  ·have e:=@kL2 I B E D adr st hl;have e2:faL ((I,B,E),D) adr st=[]:=by unfold faL;rw[e];rfl
   rw[e2,e]
   (repeat' (first|apply zS|apply zB|(apply zW;simp only[go_sem,hl])|apply And.intro|intro _))
   all_goals first|omega|exact hpl|rfl|exact⟨_,_,rfl⟩|skip
  obtain⟨k,hk,hk2⟩:=kHr hs hl;have hkD:k<D.length:=by omega
  have hki:(k:Int)<D.length:=by omega
  have n1:¬(k:Int)<0:=by omega
  have g:=kAa encDebug D k hkD;have hd:=hD _ (List.getElem_mem hkD);have e:=@kN3 I B E D adr st k hk hkD;have e2:faL ((I,B,E),D) adr st=(kDk D[k] (adr-B.getD k 0) st).getD []:=by unfold faL;rw[e]
  rw[e2,e];generalize hB:B.getD k 0=b at *;generalize D[k]=d0 at *;obtain⟨id,Z,R,W,L⟩:=d0
  (repeat' (first|apply zS|apply zB|(apply zW;simp only[go_sem,hk,n1,hki,g,encDebug,hB])|apply And.intro|intro _))
  all_goals first|omega|exact hpl|exact hd|rfl|exact⟨_,_,rfl⟩|skip
 |false =>
  simp only[Bool.false_eq_true,if_false,Bool.and_false];by_cases hpos:0≤adr
  ·have hm:(if(0:Int)<adr then adr else 0)=adr:=by split<;>omega
   have hm2:max 0 adr=adr:=by omega
   have hpl:=kH1 hp1 hs (adr-1);by_cases hl:locI I B (adr-1)<0
   ·have e:=@kL2 I B E D (adr-1) false hl;have e2:faL ((I,B,E),D) (adr-1) false=[]:=by unfold faL;rw[e];rfl
    rw[e2,e]
    (repeat' (first|apply zS|apply zB|(apply zW;simp only[go_sem,hm,hm2,hl])|apply And.intro|intro _))
    all_goals first|omega|exact hpl|rfl|exact⟨_,_,rfl⟩|skip
   obtain⟨k,hk,hk2⟩:=kHr hs hl;have hkD:k<D.length:=by omega
   have hki:(k:Int)<D.length:=by omega
   have n1:¬(k:Int)<0:=by omega
   have g:=kAa encDebug D k hkD;have hd:=hD _ (List.getElem_mem hkD);have e:=@kN3 I B E D (adr-1) false k hk hkD;have e2:faL ((I,B,E),D) (adr-1) false=(kDk D[k] (adr-1-B.getD k 0) false).getD []:=by unfold faL;rw[e]
   rw[e2,e];generalize hB:B.getD k 0=b at *;generalize D[k]=d0 at *;obtain⟨id,Z,R,W,L⟩:=d0
   (repeat' (first|apply zS|apply zB|(apply zW;simp only[go_sem,hm,hm2,hk,n1,hki,g,encDebug,hB])|apply And.intro|intro _))
   all_goals first|omega|exact hpl|exact hd|rfl|exact⟨_,_,rfl⟩|skip
  ·have hm:(if(0:Int)<adr then adr else 0)=0:=by split<;>omega
   have hm2:max 0 adr=0:=by omega
   have hpl:=kH1 hp1 hs (-1);have hpl0:=kH1 hp1 hs (0-1);have hl:=kMs hs (a:=-1) (by omega)
   have hl0:=kMs hs (a:=0-1) (by omega)
   have e:=@kL2 I B E D (adr-1) false (kMs hs (by omega))
   have e2:faL ((I,B,E),D) (adr-1) false=[]:=by unfold faL;rw[e];rfl
   rw[e2,e]
   (repeat' (first|apply zS|apply zB|(apply zW;simp only[go_sem,hm,hm2,hl,hl0])|apply And.intro|intro _))
   all_goals first|omega|exact hpl|exact hpl0|rfl|exact⟨_,_,rfl⟩|skip
end
theorem cFrSz:Cn Tryz.prog 92 qCi:=Cn.kI0 (fun x=>kTd _) cFrSS
def stL (a:AgX) (x:Int×Vw) (st:Bool):List Frame:=(kBo a x st).getD []
def kStk:Ctr:=pur (fun args=>(agA args 0,smA args 1,aB args 2)) (fun x=>[.agg (aggAg x.1),.agg [.v (.int .i64 x.2.1.1),.v (.int .i64 x.2.1.2.pc),.v (.int .i64 x.2.1.2.sp),.v (.int .i64 x.2.1.2.fp),.sl 1 (x.2.1.2.words.map encI)],.v (.bool x.2.2)]) (fun x=>kFj x.1∧numV x.2.1.2)
 (fun d x=>.tup [.own d,.v (.bool (kBo x.1 x.2.1 x.2.2).isSome)]) (fun d x=>[(d,.sl 228 2 ((stL x.1 x.2.1 x.2.2).map kAc))])
def kSw:Ctr:=pur (fun args=>(agA args 0,smA args 1,aB args 2)) (fun x=>[.agg (aggAg x.1),.agg [.v (.int .i64 x.2.1.1),.v (.int .i64 x.2.1.2.pc),.v (.int .i64 x.2.1.2.sp),.v (.int .i64 x.2.1.2.fp),.sl 1 (x.2.1.2.words.map encI)],.v (.bool x.2.2)]) (fun x=>kFj x.1∧numV x.2.1.2)
 (fun _ x=>.tup [.sl 2 ((stL x.1 x.2.1 x.2.2).map kAc),.v (.bool (kBo x.1 x.2.1 x.2.2).isSome)]) (fun _ _=>[])
theorem k7i {x:AgX}(h:AgR x) (adr:Int) (st:Bool):(faL x adr st).length≤4194305:=by
 unfold faL
 cases hf:kBg x adr st with
 |none=>simp
 |some f =>
  unfold kBg at hf;split at hf
  ·cases hf
  ·have:=kRi hf;obtain⟨k,hk,hk2⟩:=kHr h.sp (a:=adr) (by assumption)
   have h2:=h.len;rw[hk,Int.toNat_natCast,kKj (by omega)]at this
   have:=(h.dbg _ (List.getElem_mem (by omega:k<x.2.length))).2.2.2.1
   show f.length≤_
   omega
end Go.Proofs.YtjdklcjoeanimaaGreat

namespace Go.Proofs.YtjdklcjoeanimaaGreat
open Go.Vc
attribute [local irreducible] Go.Vc.WP
attribute [local go_sem] kAd kAe
def kR5:List Go.Vc.Fp:=[⟨[3],[],[],[27,30],[],[]⟩,⟨[24],[0],[],[27,30],[],[]⟩,⟨[3],[],[],[27,30],[],[]⟩,⟨[26],[2],[],[30],[],[27]⟩,⟨[4],[],[],[27,30],[],[]⟩,⟨[28],[4],[],[27,30],[],[]⟩,⟨[25,27,29],[0,1,2,3,4,5],[],[],[],[30]⟩,⟨[30],[0,1,2,3,4,5,6],[],[],[],[]⟩,⟨[23],[0,1,2,3,4,5,6,7],[],[],[],[]⟩,⟨[23],[0,1,2,3,4,5,6,7],[],[],[],[]⟩,⟨[31],[0,1,2,3,4,5,6,7,8],[],[],[],[]⟩,⟨[],[0,1,2,3,4,5,6,7,8,9,10],[],[],[],[]⟩]
def kR6:List Go.Vc.Fp:=[⟨[3],[],[],[53],[],[]⟩,⟨[8],[],[],[53],[],[]⟩,⟨[11],[],[],[53],[],[]⟩,⟨[46,47],[1,2],[],[53],[],[]⟩,⟨[48],[1,2,3],[],[53],[],[]⟩,⟨[11],[],[],[53],[],[]⟩,⟨[50],[5],[],[53],[],[]⟩,⟨[2],[],[],[53],[],[]⟩,⟨[45,49,51,52],[0,1,2,3,4,5,6,7],[],[],[],[53]⟩,⟨[53],[0,1,2,3,4,5,6,7,8],[],[],[],[]⟩,⟨[44],[0,1,2,3,4,5,6,7,8,9],[],[],[],[]⟩,⟨[44],[0,1,2,3,4,5,6,7,8,9],[],[],[],[]⟩,⟨[54],[0,1,2,3,4,5,6,7,8,9,10],[],[],[],[]⟩,⟨[],[0,1,2,3,4,5,6,7,8,9,10,11,12],[],[],[],[]⟩]
attribute [local go_sem] kR5 kR6
open Go.Pl
attribute [local go_sem] kAf kAg spA kA4 kBu kDd agA aggAg kGs smA vwA kFt St.fzS addL behind St.runO St.kIm
theorem k56 {a:AgX}{st:Bool}{L:List Int}{k:Nat}(hk:k<L.length):kFi a st k (L.drop k)=match kFi a st (k+1) (L.drop (k+1)),kBg a (if decide (k=0)=true then L[k]else L[k]-1) (st&&decide (k=0))with
  |some A,some B=>some (A++B)
  | _,_=>none:=by
 rw[kV0 hk];simp only[decide_eq_true_eq];rfl
theorem kT1 {a:AgX}{x:Int×Vw}{st:Bool}(h:kBn a=false):kBo a x st=none:=if_neg fun hh=>by rw[h]at hh;exact absurd hh.1 (by simp)
theorem kT2 {a:AgX}{x:Int×Vw}{st:Bool}(h:smOk x=false):kBo a x st=none:=if_neg fun hh=>by rw[h]at hh;exact absurd hh.2.1 (by simp)
theorem kT3 {a:AgX}{x:Int×Vw}{st:Bool}(h:(unwind a.1 (a.2.map (·.rules)) x.2).2=false):kBo a x st=none:=if_neg fun hh=>by rw[h]at hh;exact absurd hh.2.2 (by simp)
theorem kT4 {a:AgX}{x:Int×Vw}{st:Bool}(h1:kBn a=true) (h2:smOk x=true) (h3:(unwind a.1 (a.2.map (·.rules)) x.2).2=true):kBo a x st=kFi a st 0 (unwind a.1 (a.2.map (·.rules)) x.2).1:=if_pos ⟨h1,h2,h3⟩
theorem kKw {a:AgX}{x:Int×Vw}{st:Bool}(h:kBo a x st=none):stL a x st=[]:=by unfold stL;rw[h];rfl
theorem kUk {a:AgX}{x:Int×Vw}{st:Bool}{f:List Frame}(h:kBo a x st=some f):stL a x st=f:=by unfold stL;rw[h];rfl
theorem AgR.rules {x:AgX}(h:kFj x):∀r∈x.2.map (·.rules),r.length≤4194304:=by
 intro r hr;obtain⟨d,hd,rfl⟩:=List.mem_map.1 hr;exact(h.2 d hd).2.1
theorem kW4 {x:Int×Vw}(h:numV x.2):x.2.words.length≤4194304:=h.2.2.2.1
section
attribute [local irreducible] kDx kEl numV kFj
noncomputable def kR7:CL:=[(30,kK6),(89,kIr),(91,kL9),(90,kTc),(92,qCi)]
noncomputable def kU1:=mkX kR7 (COk.cons qE0 (COk.cons qFc (COk.cons qHr (COk.cons cUnwSz (COk.cons cFrSz (COk.nil _))))))
theorem qCk:kU1.tys=tys:=rfl
theorem qCl:kU1.C=kR7:=rfl
attribute [local go_sem] qCk qCl kR7 kK6 kIr kL9 kTc qCi
set_option maxHeartbeats 6000000 in
theorem cStkS:Cn Tryz.prog 35 kStk:=by
 refine Cn.pur Tryz.func35 (by kernel_rfl) rfl fun d x hx=>?_
 obtain⟨⟨⟨I,B,E⟩,D⟩,⟨t,pc,sp,fp,w⟩,st⟩:=x;obtain⟨hpa,hnum⟩:=hx;have hwl:=@kW4 (t,⟨pc,sp,fp,w⟩) hnum
 have hpu:kEl (I,B,E) (D.map (·.rules)) ⟨pc,sp,fp,w⟩:=by
  unfold kEl;have h1:=AgR.rules hpa;unfold kFj at hpa;exact⟨hpa.1,h1,hnum⟩
 simp only at hpa hnum hwl⊢;simp only[aggAg];refine Holds.go (c:=kU1) Tryz.func35 rfl Tryz.results35 Tryz.ntmps35 (by omega) (by simp) rfl ?_
 intro X0 w0
 cases hok:kBn ((I,B,E),D)with
 |false =>
  have e:=@kT1 ((I,B,E),D) (t,⟨pc,sp,fp,w⟩) st hok;rw[kKw e,e]
  (repeat' (first|apply zS|apply zB|((first|apply zW| refine zd 11 (h:=?_)|refine zd 13 (h:=?_));simp only[go_sem,hok])|apply And.intro|intro _))
  all_goals first|omega|exact hpa|exact hpu|rfl|exact⟨_,_,rfl⟩|skip
 |true =>
 cases hsm:smOk (t,⟨pc,sp,fp,w⟩)with
 |false =>
  have e:=@kT2 ((I,B,E),D) (t,⟨pc,sp,fp,w⟩) st hsm;rw[kKw e,e]
  (repeat' (first|apply zS|apply zB|((first|apply zW| refine zd 11 (h:=?_)|refine zd 13 (h:=?_));simp only[go_sem,hok,hsm])|apply And.intro|intro _))
  all_goals first|omega|exact hpa|exact hpu|rfl|exact⟨_,_,rfl⟩|skip
 |true =>
 have hA:AgR ((I,B,E),D):=⟨hpa,hok⟩;have hD2:D.length=2:=hA.len;have s1:=@kT3 ((I,B,E),D) (t,⟨pc,sp,fp,w⟩) st;have s2:=@kT4 ((I,B,E),D) (t,⟨pc,sp,fp,w⟩) st hok hsm;have hul:=kPw (I,B,E) (D.map (·.rules)) ⟨pc,sp,fp,w⟩
 have hun:=@kV1 (I,B,E) (D.map (·.rules)) ⟨pc,sp,fp,w⟩ hnum
 generalize hU:unwind (I,B,E) (D.map (·.rules)) ⟨pc,sp,fp,w⟩=U at *
 obtain⟨L,ok0⟩:=U;simp only at s1 s2 hul hun;have fin:∀o,o=kBo ((I,B,E),D) (t,⟨pc,sp,fp,w⟩) st→stL ((I,B,E),D) (t,⟨pc,sp,fp,w⟩) st=o.getD []:=fun o h=>by rw[h];rfl
 generalize hres:kBo ((I,B,E),D) (t,⟨pc,sp,fp,w⟩) st=res at *;generalize hsl:stL ((I,B,E),D) (t,⟨pc,sp,fp,w⟩) st=sl at *
 (repeat' (first|apply zS|apply zB|((first|apply zW| refine zd 11 (h:=?_)|refine zd 13 (h:=?_));simp only[go_sem,hok,hsm,hU])|apply And.intro|intro _))
 all_goals first|omega|exact hpa|exact hpu|skip
 refine zL (fun s:Bool×Nat×List Frame=>⟨[(2,.v (.bool st)),(3,.ptr 3 0 0 0),(8,.sl 1 (L.map encI)),(9,.v (.bool s.1)),(10,.own 33),(11,.v (.int .i64 ((s.2.1:Int)-1)))],[(3,.box 70 [.sl 2 (I.map encImage),.sl 1 (B.map encI),.sl 1 (E.map encI),.sl 5 (D.map encDebug)]),(33,.sl 228 2 (s.2.2.map kAc))]⟩)
  (fun s=>s.2.1≤L.length∧s.2.2.length≤4194305*(L.length-s.2.1)∧((s.1=true∧ok0=true∧kFi ((I,B,E),D) st s.2.1 (L.drop s.2.1)=some s.2.2)∨(s.1=false∧res=none))) (fun s=>s.2.1) (ok0,L.length,[]) ⟨by simp,by simp,by
   cases ok0 with
   |true=>exact .inl ⟨rfl,rfl,by rw[List.drop_length];rfl⟩
   |false=>exact .inr ⟨rfl,s1 rfl⟩⟩ ?_ ?_
 ·(simp only[go_sem]<;>(first|(and_intros<;>rfl)|simp))
 rintro⟨ok,m,out⟩ ⟨hm,hol,hI⟩;simp only at hm hol hI⊢;rcases hI with⟨rfl,hok0,hI⟩|⟨rfl,hI⟩
 rotate_left
 ·subst hI;have e:=fin none rfl;simp only[Option.getD_none]at e;subst e;by_cases hk:(m:Int)-1≥0
  all_goals
   (repeat' (first|apply zS|apply zB|((first|apply zW| refine zd 11 (h:=?_)|refine zd 13 (h:=?_));simp only[go_sem,hk])|apply And.intro|intro _))
   all_goals first|omega|rfl|exact⟨_,_,rfl⟩|skip
 have s3:=s2 hok0
 cases m with
 |zero =>
  rw[List.drop_zero]at hI;rw[hI]at s3;subst s3;have e:=fin _ rfl;simp only[Option.getD_some]at e;subst e;have hk:¬((0:Nat):Int)-1≥0:=by omega
  (repeat' (first|apply zS|apply zB|((first|apply zW| refine zF 11 kR5 [8,23,24,25,26,27,28,29,30,31,32] [27,30] [] (by decide +kernel) (by kernel_rfl) (by kernel_rfl) (by kernel_rfl) ?_|refine zF 13 kR6 [12,44,45,46,47,48,49,50,51,52,53,54,55] [53] [] (by decide +kernel) (by kernel_rfl) (by kernel_rfl) (by kernel_rfl) ?_);simp only[go_sem])|apply And.intro|intro _))
  all_goals first|omega|rfl|exact⟨_,_,rfl⟩|skip
 |succ m =>
  have hk:((m+1:Nat):Int)-1=(m:Int):=by omega
  have hmi:(m:Int)≥0:=by omega
  have hml:m<L.length:=by omega
  have hmli:(m:Int)<L.length:=by omega
  have hr:=kAa encI L m hml;have hst:=@k56 ((I,B,E),D) st L m hml;have hxn:=hun _ (List.getElem_mem hml);have hin:((m:Int)==0)=decide (m=0):=by rw[Bool.eq_iff_iff,beq_iff_eq,decide_eq_true_eq];omega
  have hbad:=@kZe ((I,B,E),D) st L m (by omega)
  generalize decide (m=0)=q at *;generalize L[m]=x at *;rw[hI]at hst;have hfl:=k7i hA (if q=true then x else x-1) (st&&q)
  have hmul:4194305*(L.length-(m+1))+4194305=4194305*(L.length-m):=by
   rw[show L.length-m=L.length-(m+1)+1 by omega,Nat.mul_add]
  cases hf:kBg ((I,B,E),D) (if q=true then x else x-1) (st&&q)with
  |none =>
   rw[hf]at hst;have hn:=s3.trans (hbad hst);have hfa:faL ((I,B,E),D) (if q=true then x else x-1) (st&&q)=[]:=by unfold faL;rw[hf];rfl
   have hfs:(kBg ((I,B,E),D) (if q=true then x else x-1) (st&&q)).isSome=false:=by rw[hf];rfl
   (repeat' (first|apply zS|apply zB|((first|apply zW| refine zd 11 (h:=?_)|refine zd 13 (h:=?_));simp only[go_sem,hk,hmi,hmli,hr,encI,hin,hfa,hf])|apply And.intro|intro _))
   all_goals first|omega|exact hA|exact hxn|exact hxn.1|exact hxn.2|rfl|exact⟨(false,m,out),⟨by simp only;omega,by simp only;omega,.inr ⟨rfl,hn⟩⟩,by simp only;omega,by(first|(and_intros<;>rfl)|simp)⟩|skip
  |some F =>
   rw[hf]at hst;have hfa:faL ((I,B,E),D) (if q=true then x else x-1) (st&&q)=F:=by unfold faL;rw[hf];rfl
   rw[hfa]at hfl
   (repeat' (first|apply zS|apply zB|((first|apply zW| refine zd 11 (h:=?_)|refine zd 13 (h:=?_));simp only[go_sem,hk,hmi,hmli,hr,encI,hin,hfa,hf])|apply And.intro|intro _))
   all_goals first|omega|exact hA|exact hxn|exact hxn.1|exact hxn.2|rfl|(obtain⟨n,_,rfl⟩:=List.mem_map.1 ‹_›;rfl)|exact⟨(true,m,out++F),⟨by simp only;omega,by simp only[List.length_append];omega,.inl ⟨rfl,hok0,hst⟩⟩,by simp only;omega,by simp only[List.map_append];(first|(and_intros<;>rfl)|simp)⟩|skip
end
theorem cStkSz:Cn Tryz.prog 35 kSw:=Cn.kI0 (fun x=>kTd _) cStkS
end Go.Proofs.YtjdklcjoeanimaaGreat

