/- DERIVED. Steps of the proof. -/
import Derived.Test.YtjdklcjoeanimaaGreatVf17
import Derived.Test.YtjdklcjoeanimaaGreatVf18
set_option linter.all false
set_option maxHeartbeats 1000000
set_option maxRecDepth 10000
namespace Go.Proofs.YtjdklcjoeanimaaGreat
attribute [local irreducible] Go.Vc.WP
section
open Go.Vc Tryz
def kOk:FP:=⟨7,[⟨[6],[],[31],[31,36],[],[]⟩,⟨[],[],[],[36],[],[31]⟩,fc [2] [] [31,36],fc [32] [2] [31,36],fc [1] [] [31,36],fc [33,34] [2,3,4] [31,36],⟨[31,35],[1,2,3,4,5],[],[],[31],[36]⟩,fn 7,fn 8],[30,31,32,33,34,35,36],[31,36],[31]⟩
def kOl:FP:=⟨7,[⟨[6],[],[30],[30,35],[],[]⟩,⟨[],[],[],[35],[],[30]⟩,fc [2] [] [30,35],fc [31] [2] [30,35],fc [1] [] [30,35],fc [32,33] [2,3,4] [30,35],⟨[30,34],[1,2,3,4,5],[],[],[30],[35]⟩,fn 7,fn 8],[29,30,31,32,33,34,35],[30,35],[30]⟩
attribute [local go_sem] kOk kOl
@[go_sem] def qKq:Ctr:=pur (fun args=>(rgA args 0,aI args 1)) (fun x=>[.agg [vi x.1.1,.sl 1 (x.1.2.1.map encS),vi x.1.2.2.1,vi x.1.2.2.2],vi x.2]) (fun x=>kC2 x.1)
 (fun d x=>.tup [.agg [vi ((kJw x.1 x.2).1.1),.own d,vi ((kJw x.1 x.2).1.2.2.1),vi ((kJw x.1 x.2).1.2.2.2)],.own (d+1000)]) (fun d x=>[(d,.sl 9 1 ((kJw x.1 x.2).1.2.1.map encS)),(d+1000,.sl 9 1 ((kJw x.1 x.2).2.map encS))])
section
attribute [local irreducible] kC2
def cxTkrS:=kc qAg (kc qAi kn)
theorem kS5 {p:Prop}(h:p:=by first|omega|exact hp|rfl|exact⟨_,_,rfl,_,_,rfl,rfl⟩|exact if_neg (by omega)|exact⟨_,_,if_neg (by omega)⟩):p:=h
theorem k6p {p:Prop}(h:p:=by first|omega|exact hp|rfl|exact⟨_,_,rfl,_,_,rfl,rfl⟩|exact if_neg (by omega)|exact⟨_,_,if_neg (by omega)⟩|(simp only[jH5];omega)|(obtain⟨n,_,rfl⟩:=jCr.1 ‹_›;rfl)):p:=h
theorem k6q {p:Prop}(h:p:=by first|omega|rfl|exact⟨_,_,rfl,_,_,rfl,rfl⟩|exact if_neg (by omega)|exact⟨_,_,if_neg (by omega)⟩):p:=h
theorem qOx:Cq 33 qKq:=by
 refine zp fun d x hx=>?_
 obtain⟨⟨cp,R,wr,lo⟩,n⟩:=x;have hp:kC2 (cp,R,wr,lo):=hx;have hp':=hp;unfold kC2 at hp';obtain⟨hR,hz⟩:=hp';simp only at hR hz⊢;refine zg cxTkrS func33 rfl rfl ntmps33 ?_;intros
 cases hok:kEu (cp,R,wr,lo)with
 |false =>
  have e:kJw (cp,R,wr,lo) n=((cp,R,wr,lo),[]):=if_neg (by rw[hok];simp)
  rw[e]
  (repeat' (first|apply zS|apply zB|((first|apply zW| refine zf kOk ?_);simp only[go_sem,hok])|apply jAi|exact kS5|intro _))
 |true =>
  by_cases hn:n<0
  ·have e:kJw (cp,R,wr,lo) n=((cp,R,wr,lo),[]):=if_neg (fun h=>by omega)
   rw[e]
   (repeat' (first|apply zS|apply zB|((first|apply zW| refine zf kOk ?_);simp only[go_sem,hok,hn])|apply jAi|exact kS5|intro _))
  ·have e:kJw (cp,R,wr,lo) n=((cp,R.drop (min n R.length).toNat,wr,lo),R.take (min n R.length).toNat):=if_pos ⟨hok,zo⟩;rw[e];have hm:(if(R.length:Int)<n then(R.length:Int)else n)=min n R.length:=by split<;>omega
   have hb:0≤min n (R.length:Int)∧min n (R.length:Int)≤R.length:=zo;generalize min n (R.length:Int)=m at *;have hd:(R.map encS).drop m.toNat=(R.drop m.toNat).map encS:=(vRr ..).symm;have ht:(R.map encS).take m.toNat=(R.take m.toNat).map encS:=(vK9 ..).symm;have hd2:(R.drop m.toNat).length≤4194304:=by rw[jSz];omega
   have ht2:(R.take m.toNat).length≤4194304:=by rw[jOb];omega
   generalize R.drop m.toNat=D at *;generalize R.take m.toNat=T at *
   (repeat' (first|apply zS|apply zB|((first|apply zW| refine zf kOk ?_);simp only[go_sem,hok,hn,hm,hd,ht])|apply jAi|exact k6p|intro _))
def cxTkrI:=kc qAh (kc qAj kn)
theorem qOu:Cq 48 qKq:=by
 refine zp fun d x hx=>?_
 obtain⟨⟨cp,R,wr,lo⟩,n⟩:=x;have hp:kC2 (cp,R,wr,lo):=hx;have hp':=hp;unfold kC2 at hp';obtain⟨hR,hz⟩:=hp';simp only at hR hz⊢;refine zg cxTkrI func48 rfl rfl ntmps48 ?_;intros
 cases hok:kEu (cp,R,wr,lo)with
 |false =>
  have e:kJw (cp,R,wr,lo) n=((cp,R,wr,lo),[]):=if_neg (by rw[hok];simp)
  rw[e]
  (repeat' (first|apply zS|apply zB|((first|apply zW| refine zf kOl ?_);simp only[go_sem,hok])|apply jAi|exact kS5|intro _))
 |true =>
  by_cases hn:n<0
  ·have e:kJw (cp,R,wr,lo) n=((cp,R,wr,lo),[]):=if_neg (fun h=>by omega)
   rw[e]
   (repeat' (first|apply zS|apply zB|((first|apply zW| refine zf kOl ?_);simp only[go_sem,hok,hn])|apply jAi|exact kS5|intro _))
  ·have e:kJw (cp,R,wr,lo) n=((cp,R.drop (min n R.length).toNat,wr,lo),R.take (min n R.length).toNat):=if_pos ⟨hok,zo⟩;rw[e];have hm:(if(R.length:Int)<n then(R.length:Int)else n)=min n R.length:=by split<;>omega
   have hb:0≤min n (R.length:Int)∧min n (R.length:Int)≤R.length:=zo;generalize min n (R.length:Int)=m at *;have hd:(R.map encS).drop m.toNat=(R.drop m.toNat).map encS:=(vRr ..).symm;have ht:(R.map encS).take m.toNat=(R.take m.toNat).map encS:=(vK9 ..).symm;have hd2:(R.drop m.toNat).length≤4194304:=by rw[jSz];omega
   have ht2:(R.take m.toNat).length≤4194304:=by rw[jOb];omega
   generalize R.drop m.toNat=D at *;generalize R.take m.toNat=T at *
   (repeat' (first|apply zS|apply zB|((first|apply zW| refine zf kOl ?_);simp only[go_sem,hok,hn,hm,hd,ht])|apply jAi|exact k6p|intro _))
end
@[go_sem] def qKr:Ctr:=pur (fun args=>repA args 0) (fun x=>[.agg [.sl 3 (x.N.map kAc),.sl 1 (x.C.map encI),vi x.kept,vi x.skip]]) (fun x=>x.N.length≤4398046511104∧x.C.length≤4398046511104)
 (fun d x=>.agg [.own d,.own (d+1000),vi x.kept,vi x.skip]) (fun d x=>[(d,.sl 231 3 (x.N.map kAc)),(d+1000,.sl 3 1 (x.C.map encI))])
section
def cxCpRS:=kc qAb kn
theorem qOv:Cq 29 qKr:=by
 refine zp fun d x hx=>?_
 obtain⟨N,C,kp,sk⟩:=x;obtain⟨hN,hC⟩:=hx;simp only at hN hC⊢;refine zg cxCpRS func29 rfl rfl ntmps29 ?_;intros
 (repeat' (first|apply zS|apply zB|(apply zW;simp only[go_sem])|apply jAi|exact k6q|intro _))
def cxCpRI:=kc qAc kn
theorem qOs:Cq 44 qKr:=by
 refine zp fun d x hx=>?_
 obtain⟨N,C,kp,sk⟩:=x;obtain⟨hN,hC⟩:=hx;simp only at hN hC⊢;refine zg cxCpRI func44 rfl rfl ntmps44 ?_;intros
 (repeat' (first|apply zS|apply zB|(apply zW;simp only[go_sem])|apply jAi|exact k6q|intro _))
end
end
section
open Go.Vc Tryz
def qRa:FP:=⟨11,[fc [3] [] [27,30],fc [24] [0] [27,30],fc [3] [] [27,30],⟨[26],[2],[],[30],[],[27]⟩,fc [4] [] [27,30],fc [28] [4] [27,30],⟨[25,27,29],[0,1,2,3,4,5],[],[],[],[30]⟩,fa [30] [0,1,2,3,4,5,6],fa [23] [0,1,2,3,4,5,6,7],fa [23] [0,1,2,3,4,5,6,7],fa [31] [0,1,2,3,4,5,6,7,8],fn 11],[8,23,24,25,26,27,28,29,30,31,32],[27,30],[]⟩
def qRb:FP:=⟨13,[fc [3] [] [53],fc [8] [] [53],fc [11] [] [53],fc [46,47] [1,2] [53],fc [48] [1,2,3] [53],fc [11] [] [53],fc [50] [5] [53],fc [2] [] [53],⟨[45,49,51,52],[0,1,2,3,4,5,6,7],[],[],[],[53]⟩,fa [53] [0,1,2,3,4,5,6,7,8],fa [44] [0,1,2,3,4,5,6,7,8,9],fa [44] [0,1,2,3,4,5,6,7,8,9],fa [54] [0,1,2,3,4,5,6,7,8,9,10],fn 13],[12,44,45,46,47,48,49,50,51,52,53,54,55],[53],[]⟩
attribute [local go_sem] qRa qRb
open Go.Pl
attribute [local go_sem] kB7 aggAg
theorem qBp {a:AgX}{st:Bool}{L:List Int}{k:Nat}(hk:k<L.length):kG8 a st k (L.drop k)=match kG8 a st (k+1) (L.drop (k+1)),kBz a (if decide (k=0)=true then L[k]else L[k]-1) (st&&decide (k=0))with
  |some A,some B=>some (A++B)
  | _,_=>none:=by
 rw[k2n hk];simp only[decide_eq_true_eq]<;>rfl
theorem kZv {a:AgX}{x:Int×Vw}{st:Bool}(h:kBb a=false):kCf a x st=none:=if_neg fun hh=>by rw[h]at hh;exact absurd hh.1 zs
theorem kZw {a:AgX}{x:Int×Vw}{st:Bool}(h:kHi x=false):kCf a x st=none:=if_neg fun hh=>by rw[h]at hh;exact absurd hh.2.1 zs
theorem kZx {a:AgX}{x:Int×Vw}{st:Bool}(h:(unwind a.1 (a.2.map (·.rules)) x.2).2=false):kCf a x st=none:=if_neg fun hh=>by rw[h]at hh;exact absurd hh.2.2 zs
theorem kZy {a:AgX}{x:Int×Vw}{st:Bool}(h1:kBb a=true) (h2:kHi x=true) (h3:(unwind a.1 (a.2.map (·.rules)) x.2).2=true):kCf a x st=kG8 a st 0 (unwind a.1 (a.2.map (·.rules)) x.2).1:=if_pos ⟨h1,h2,h3⟩
theorem kPh {a:AgX}{x:Int×Vw}{st:Bool}(h:kCf a x st=none):stL a x st=[]:=by unfold stL;rw[h];rfl
theorem k0d {a:AgX}{x:Int×Vw}{st:Bool}{f:List Frame}(h:kCf a x st=some f):stL a x st=f:=by unfold stL;rw[h];rfl
theorem AgR.rules {x:AgX}(h:kEj x):∀r∈x.2.map (·.rules),r.length≤4194304:=by
 intro r hr;obtain⟨d,hd,rfl⟩:=jCr.1 hr;exact(h.2 d hd).2.1
theorem k3o {x:Int×Vw}(h:kHj x.2):x.2.words.length≤4194304:=h.2.2.2.1
section
attribute [local irreducible] kEk kGb kHj kEj
def qNf:=kc k9g (kc k9n (kc qMf (kc cUnwSz (kc cFrSz kn))))
set_option maxHeartbeats 6000000 in
theorem cStkS:Cq 35 kStk:=by
 refine zp fun d x hx=>?_
 obtain⟨⟨⟨I,B,E⟩,D⟩,⟨t,pc,sp,fp,w⟩,st⟩:=x;obtain⟨hpa,hnum⟩:=hx;have hwl:=@k3o (t,⟨pc,sp,fp,w⟩) hnum
 have hpu:kGb (I,B,E) (D.map (·.rules)) ⟨pc,sp,fp,w⟩:=by
  unfold kGb;have h1:=AgR.rules hpa;unfold kEj at hpa;exact⟨hpa.1,h1,hnum⟩
 simp only at hpa hnum hwl⊢;simp only[aggAg];refine zg qNf func35 rfl rfl ntmps35 ?_;intros
 cases hok:kBb ((I,B,E),D)with
 |false =>
  have e:=@kZv ((I,B,E),D) (t,⟨pc,sp,fp,w⟩) st hok;rw[kPh e,e]
  exact zx2 11 13 hok
 |true =>
 cases hsm:kHi (t,⟨pc,sp,fp,w⟩)with
 |false =>
  have e:=@kZw ((I,B,E),D) (t,⟨pc,sp,fp,w⟩) st hsm;rw[kPh e,e]
  exact zx2 11 13 (z2 hok hsm)
 |true =>
 have hA:AgR ((I,B,E),D):=⟨hpa,hok⟩;have hD2:D.length=2:=hA.len;have s1:=@kZx ((I,B,E),D) (t,⟨pc,sp,fp,w⟩) st;have s2:=@kZy ((I,B,E),D) (t,⟨pc,sp,fp,w⟩) st hok hsm;have hul:=kU2 (I,B,E) (D.map (·.rules)) ⟨pc,sp,fp,w⟩
 have hun:=@k2o (I,B,E) (D.map (·.rules)) ⟨pc,sp,fp,w⟩ hnum
 generalize hU:unwind (I,B,E) (D.map (·.rules)) ⟨pc,sp,fp,w⟩=U at *
 obtain⟨L,ok0⟩:=U;simp only at s1 s2 hul hun;have fin:∀o,o=kCf ((I,B,E),D) (t,⟨pc,sp,fp,w⟩) st→stL ((I,B,E),D) (t,⟨pc,sp,fp,w⟩) st=o.getD []:=fun o h=>by rw[h];rfl
 generalize hres:kCf ((I,B,E),D) (t,⟨pc,sp,fp,w⟩) st=res at *;generalize hsl:stL ((I,B,E),D) (t,⟨pc,sp,fp,w⟩) st=sl at *;refine zv2 11 13 (z3 hok hsm hU) ?_
 refine zM (fun s:Bool×Nat×List Frame=>⟨[(2,.v (.bool st)),(3,.ptr 3 0 0 0),(8,.sl 1 (L.map encI)),(9,.v (.bool s.1)),(10,.own 33),(11,vi (((s.2.1:Int)-1)))],[(3,.box 70 [.sl 2 (I.map encImage),.sl 1 (B.map encI),.sl 1 (E.map encI),.sl 5 (D.map encDebug)]),(33,.sl 228 2 (s.2.2.map kAe))]⟩)
  (fun s=>s.2.1≤L.length∧s.2.2.length≤4194305*(L.length-s.2.1)∧((s.1=true∧ok0=true∧kG8 ((I,B,E),D) st s.2.1 (L.drop s.2.1)=some s.2.2)∨(s.1=false∧res=none))) (fun s=>s.2.1) (ok0,L.length,[]) ⟨zs,zs,by
   cases ok0 with
   |true=>exact .inl ⟨rfl,rfl,by rw[yAq];rfl⟩
   |false=>exact .inr ⟨rfl,s1 rfl⟩⟩ ?_
 rintro⟨ok,m,out⟩ ⟨hm,hol,hI⟩;simp only at hm hol hI⊢;rcases hI with⟨rfl,hok0,hI⟩|⟨rfl,hI⟩
 rotate_left
 ·subst hI;have e:=fin none rfl;simp only[jPz]at e;subst e;by_cases hk:(m:Int)-1≥0
  all_goals
   exact zx2 11 13 hk
 have s3:=s2 hok0
 cases m with
 |zero =>
  rw[jWe]at hI;rw[hI]at s3;subst s3;have e:=fin _ rfl;simp only[jOj]at e;subst e;have hk:¬((0:Nat):Int)-1≥0:=zo
  (repeat' (first|apply zS|apply zB|((first|apply zW| refine zf qRa ?_|refine zf qRb ?_);simp only[go_sem])|apply jAi|omega|rfl|exact⟨_,_,rfl⟩|intro _))
 |succ m =>
  have hk:((m+1:Nat):Int)-1=(m:Int):=zo;have hmi:(m:Int)≥0:=zo;have hml:m<L.length:=zo;have hmli:(m:Int)<L.length:=zo;have hr:=kAa encI L m hml;have hst:=@qBp ((I,B,E),D) st L m hml;have hxn:=hun _ (jCn hml);have hin:((m:Int)==0)=decide (m=0):=by rw[wGj,beq_iff_eq,decide_eq_true_eq];omega
  have hbad:=@k5q ((I,B,E),D) st L m zo;generalize decide (m=0)=q at *;generalize L[m]=x at *;rw[hI]at hst;have hfl:=qDl hA (if q=true then x else x-1) (st&&q)
  have hmul:4194305*(L.length-(m+1))+4194305=4194305*(L.length-m):=by
   rw[show L.length-m=L.length-(m+1)+1 by omega,Nat.mul_add]
  cases hf:kBz ((I,B,E),D) (if q=true then x else x-1) (st&&q)with
  |none =>
   rw[hf]at hst;have hn:=s3.trans (hbad hst);have hfa:faL ((I,B,E),D) (if q=true then x else x-1) (st&&q)=[]:=by unfold faL;rw[hf];rfl
   have hfs:(kBz ((I,B,E),D) (if q=true then x else x-1) (st&&q)).isSome=false:=by rw[hf];rfl
   (repeat' (first|apply zS|apply zB|((first|apply zW| refine zd 11 ?_|refine zd 13 ?_);simp only[go_sem,hk,hmi,hmli,hr,encI,hin,hfa,hf])|apply jAi|omega|exact hA|exact hxn|exact hxn.1|exact hxn.2|rfl|exact⟨(false,m,out),⟨by simp only;omega,by simp only;omega,.inr ⟨rfl,hn⟩⟩,by simp only;omega,zh⟩|intro _))
  |some F =>
   rw[hf]at hst;have hfa:faL ((I,B,E),D) (if q=true then x else x-1) (st&&q)=F:=by unfold faL;rw[hf];rfl
   rw[hfa]at hfl
   (repeat' (first|apply zS|apply zB|((first|apply zW| refine zd 11 ?_|refine zd 13 ?_);simp only[go_sem,hk,hmi,hmli,hr,encI,hin,hfa,hf])|apply jAi|omega|exact hA|exact hxn|exact hxn.1|exact hxn.2|rfl|(obtain⟨n,_,rfl⟩:=jCr.1 ‹_›;rfl)|exact⟨(true,m,out++F),⟨by simp only;omega,by simp only[jKs];omega,.inl ⟨rfl,hok0,hst⟩⟩,by simp only;omega,by simp only[jNq];(first|(and_intros<;>rfl)|simp)⟩|intro _))
end
theorem cStkSz:Cq 35 kStkZ:=Cn.kMm (fun x=>kY2 _) cStkS
end
section
open Go.Vc Tryz
open Go.Pl
attribute [local go_sem] kB7 aggAg qJu
def kKn:Ctr:=pur (fun args=>(agA args 0,kBs (aR args 1),aB args 2)) (fun x=>[.agg (aggAg x.1),.sl 1 (x.2.1.map encI),.v (.bool x.2.2)]) (fun x=>AgR x.1∧x.2.1.length≤64∧∀n∈x.2.1,okN n)
 (fun d _=>.own d) (fun d x=>[(d,.sl 101 1 ((kK3 x.1 x.2.2 0 x.2.1).map kS0))])
@[go_sem] def kKnZ:Ctr:=pur (fun args=>(agA args 0,kBs (aR args 1),aB args 2)) (fun x=>[.agg (aggAg x.1),.sl 1 (x.2.1.map encI),.v (.bool x.2.2)]) (fun x=>AgR x.1∧x.2.1.length≤64∧∀n∈x.2.1,okN n)
 (fun _ x=>.sl 1 ((kK3 x.1 x.2.2 0 x.2.1).map kS0)) (fun _ _=>[])
theorem qKl {a:AgX}{st:Bool}{L:List Int}{k:Nat}(hk:k<L.length):kK3 a st k (L.drop k)=match kBz a (if k=0 then L[k]else L[k]-1) (st&&decide (k=0))with
  |none=>[]
  |some f=>f::kK3 a st (k+1) (L.drop (k+1)):=by
 rw[wL4 hk];rfl
theorem qAx {a:AgX}(h:AgR a) (st:Bool):∀(L:List Int) (i:Nat),∀f∈kK3 a st i L,f.length≤4194305
 | [],i=>by intro f hf;cases hf
 |x::r,i=>by
  unfold kK3;have hl:=qDl h (if i=0 then x else x-1) (st&&decide (i=0))
  unfold faL at hl
  cases hf:kBz a (if i=0 then x else x-1) (st&&decide (i=0))with
  |none=>intro f hf;cases hf
  |some g =>
   rw[hf]at hl;intro f hm;rcases jDr.1 hm with rfl|hm
   ·exact hl
   ·exact qAx h st r (i+1) f hm
section
attribute [local irreducible] kEk kEj okN
def cxKn:=kc cFrAI kn
theorem k6o {p:Prop}(h:p:=by first|omega|exact hA|rfl|exact⟨(k+1,K++[F]),⟨by omega,by simp[hKl],by rw[hI];simp⟩,by simp only;omega,by simp only[jNq,jHi,jRt,kS0];(first|(and_intros<;>rfl)|simp)⟩):p:=h
theorem qQ9 {p:Prop}(h:p:=by first|omega|exact hpa|exact hpu|exact hA|exact hun _ ‹_›|exact(hun _ ‹_›).1|exact(hun _ ‹_›).2|rfl|exact⟨_,_,rfl⟩):p:=h
set_option maxHeartbeats 4000000 in
theorem cKnI:Cq 117 kKn:=by
 refine zp fun d x hx=>?_
 obtain⟨⟨⟨I,B,E⟩,D⟩,L,st⟩:=x;obtain⟨hA,hL,hn⟩:=hx;simp only at hA hL hn⊢;simp only[aggAg];refine zg cxKn func117 rfl rfl ntmps117 ?_;intros;refine zy trivial ?_;generalize hK:kK3 ((I,B,E),D) st 0 L=K0
 refine zM (fun s:Nat×List (List Frame)=>⟨[(2,.v (.bool st)),(3,.ptr 3 0 0 0),(7,.own 12),(13,.sl 1 (L.map encI)),(14,vi L.length),(15,vi s.1)],[(3,.box 70 [.sl 2 (I.map encImage),.sl 1 (B.map encI),.sl 1 (E.map encI),.sl 5 (D.map encDebug)]),(12,.sl 101 1 (s.2.map kS0))]⟩)
  (fun s=>s.1≤L.length∧s.2.length=s.1∧K0=s.2++kK3 ((I,B,E),D) st s.1 (L.drop s.1)) (fun s=>L.length-s.1) (0,[]) ⟨zs,rfl,by rw[←hK];rfl⟩ ?_
 rintro⟨k,K⟩ ⟨hk,hKl,hI⟩;simp only at hk hKl hI⊢;by_cases hlt:k<L.length;rotate_left
 ·have hge:¬(k:Int)<L.length:=zo;have hke:k=L.length:=zo;rw[hke,yAq,show kK3 ((I,B,E),D) st L.length []=[]from rfl,jSt]at hI
  subst hI;exact zx hge
 have hli:(k:Int)<L.length:=zo;have hr:=kAa encI L k hlt;have hxn:=hn _ (jCn hlt);have hxn2:=hxn;unfold okN at hxn2;have hst:=@qKl ((I,B,E),D) st L k hlt;by_cases h0:k=0
 ·have hk0:¬(k:Int)>0:=zo;have hin:((k:Int)==0)=true:=by rw[beq_iff_eq];omega
  rw[if_pos h0,decide_eq_true h0,jXj]at hst;generalize L[k]=x at *
  cases hf:kBz ((I,B,E),D) x st with
  |none =>
   rw[hf]at hst;simp only at hst;rw[hst,jSt]at hI;subst hI;have hfa:faL ((I,B,E),D) x st=[]:=by unfold faL;rw[hf];rfl
   exact zx (z7 hli hr encI.eq_1 hk0 hin hfa hf)
  |some F =>
   rw[hf]at hst;simp only at hst;rw[hst]at hI;have hfa:faL ((I,B,E),D) x st=F:=by unfold faL;rw[hf];rfl
   (repeat' (first|apply zS|apply zB|(apply zW;simp only[go_sem,hli,hr,encI,hk0,hin,hfa,hf])|apply jAi|exact k6o|intro _))
 ·have hk0:(k:Int)>0:=zo;have hin:((k:Int)==0)=false:=by rw[beq_eq_false_iff_ne];omega
  rw[if_neg h0,decide_eq_false h0,jPt]at hst;generalize L[k]=x at *
  cases hf:kBz ((I,B,E),D) (x-1) false with
  |none =>
   rw[hf]at hst;simp only at hst;rw[hst,jSt]at hI;subst hI;have hfa:faL ((I,B,E),D) (x-1) false=[]:=by unfold faL;rw[hf];rfl
   (repeat' (first|apply zS|apply zB|(apply zW;simp only[go_sem,hli,hr,encI,hk0,hin,hfa,hf,jPt])|apply jAi|omega|exact hA|rfl|intro _))
  |some F =>
   rw[hf]at hst;simp only at hst;rw[hst]at hI;have hfa:faL ((I,B,E),D) (x-1) false=F:=by unfold faL;rw[hf];rfl
   (repeat' (first|apply zS|apply zB|(apply zW;simp only[go_sem,hli,hr,encI,hk0,hin,hfa,hf,jPt])|apply jAi|exact k6o|intro _))
end
theorem cKnIz:Cq 117 kKnZ:=Cn.kTx cKnI
section
attribute [local irreducible] kEk kGb kHj kEj
def qQt:=kc k9e (kc k9a (kc qMg (kc cUnwIz (kc cKnIz (kc cOutwI kn)))))
set_option maxHeartbeats 6000000 in
theorem cStkI:Cq 50 kStk:=by
 refine zp fun d x hx=>?_
 obtain⟨⟨⟨I,B,E⟩,D⟩,⟨t,pc,sp,fp,w⟩,st⟩:=x;obtain⟨hpa,hnum⟩:=hx;have hwl:=@k3o (t,⟨pc,sp,fp,w⟩) hnum
 have hpu:kGb (I,B,E) (D.map (·.rules)) ⟨pc,sp,fp,w⟩:=by
  unfold kGb;have h1:=AgR.rules hpa;unfold kEj at hpa;exact⟨hpa.1,h1,hnum⟩
 simp only at hpa hnum hwl⊢;simp only[aggAg];refine zg qQt func50 rfl rfl ntmps50 ?_;intros
 cases hok:kBb ((I,B,E),D)with
 |false =>
  have e:=@kZv ((I,B,E),D) (t,⟨pc,sp,fp,w⟩) st hok;rw[kPh e,e]
  exact zx1 11 hok
 |true =>
 cases hsm:kHi (t,⟨pc,sp,fp,w⟩)with
 |false =>
  have e:=@kZw ((I,B,E),D) (t,⟨pc,sp,fp,w⟩) st hsm;rw[kPh e,e]
  exact zx1 11 (z2 hok hsm)
 |true =>
 have hA:AgR ((I,B,E),D):=⟨hpa,hok⟩;have hD2:D.length=2:=hA.len;have s1:=@kZx ((I,B,E),D) (t,⟨pc,sp,fp,w⟩) st;have s2:=@kZy ((I,B,E),D) (t,⟨pc,sp,fp,w⟩) st hok hsm;have hul:=kU2 (I,B,E) (D.map (·.rules)) ⟨pc,sp,fp,w⟩
 have hun:=@k2o (I,B,E) (D.map (·.rules)) ⟨pc,sp,fp,w⟩ hnum
 generalize hU:unwind (I,B,E) (D.map (·.rules)) ⟨pc,sp,fp,w⟩=U at *
 obtain⟨L,ok0⟩:=U;simp only at s1 s2 hul hun;have hkn:=k86 ((I,B,E),D) st L 0;have hkl:=k4u ((I,B,E),D) st L 0;have hkm:=qAx hA st L 0;generalize hK:kK3 ((I,B,E),D) st 0 L=K at *
 cases ok0 with
 |false =>
  have e:=s1 rfl;rw[kPh e,e]
  (repeat' (first|apply zS|apply zB|((first|apply zW| refine zd 11 ?_);simp only[go_sem,hok,hsm,hU,hK])|apply jAi|exact qQ9|intro _))
 |true =>
 have s3:=s2 rfl;by_cases hlt:K.length<L.length
 ·rw[if_pos hlt]at hkn;have e:=s3.trans hkn;have hli:(K.length:Int)<L.length:=zo;rw[kPh e,e]
  (repeat' (first|apply zS|apply zB|((first|apply zW| refine zd 11 ?_);simp only[go_sem,hok,hsm,hU,hK,hli])|apply jAi|exact qQ9|intro _))
 ·rw[if_neg hlt]at hkn;have e:=s3.trans hkn;have hli:¬(K.length:Int)<L.length:=zo;rw[k0d e,e]
  (repeat' (first|apply zS|apply zB|((first|apply zW| refine zd 11 ?_);simp only[go_sem,hok,hsm,hU,hK,hli])|apply jAi|omega|exact hpa|exact hpu|exact hA|exact hun _ ‹_›|exact(hun _ ‹_›).1|exact(hun _ ‹_›).2|exact hkm _ ‹_›|rfl|exact⟨_,_,rfl⟩|intro _))
end
theorem cStkIz:Cq 50 kStkZ:=Cn.kMm (fun x=>kY2 _) cStkI
end
end Go.Proofs.YtjdklcjoeanimaaGreat
