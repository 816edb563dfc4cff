/- DERIVED. Steps of the proof. -/
import Derived.Test.YtjdklcjoeanimaaGreatVf26
set_option linter.all false
set_option maxHeartbeats 1000000
set_option maxRecDepth 10000
namespace Go.Proofs.YtjdklcjoeanimaaGreat
attribute [local irreducible] Go.Vc.WP
section
open Go.Vc Tryz
def kYh:FP:=⟨17,[fc [0] [] [64,1064],fc [48] [0] [64,1064],fc [49] [0,1] [64,1064],fc [50] [0,1,2] [64,1064],fc [4] [] [64,1064],fc [0] [] [64,1064],fc [53] [5] [64,1064],fc [54] [5,6] [64,1064],fc [55] [5,6,7] [64,1064],fc [0] [] [64,1064],fc [57] [9] [64,1064],fc [58] [9,10] [64,1064],fc [59] [9,10,11] [64,1064],fc [4] [] [64,1064],fc [60,61] [9,10,11,12,13] [64,1064],fc [62] [9,10,11,12,13,14] [64,1064],⟨[56,63],[5,6,7,8,9,10,11,12,13,14,15],[],[],[],[64,1064]⟩,fn 17,fn 18],[48,49,50,51,52,53,54,55,56,57,58,59,60,61,62,63,64],[64,1064],[]⟩
attribute [local go_sem] kYh
structure kW0 (x:PcX):Prop where
 kWz:kUa x.1.1
 len:x.1.2.1.length=x.1.1.length
 bases:∀b∈x.1.2.1,0≤b∧b≤1000000
 codes:∀i:Nat,(x.1.1.getD i kFo).code.size≤1000000
 ent:x.1.2.2.length≤4194304
 kGn:∀e∈x.1.2.2,In64 e
 num:1≤x.2.1.length∧x.2.1.length≤3
 turn:0≤x.2.2.1∧x.2.2.1≤(x.2.1.length:Int)-1
 slice:1≤x.2.2.2.2∧x.2.2.2.2≤1000
 left:1≤x.2.2.2.1∧x.2.2.2.1≤x.2.2.2.2
 ms:∀m∈x.2.1,m.stack.length=1200∧(0≤m.sp∧m.sp≤1200)∧m.out.length≤2097152∧MachR m
theorem kW0.stp {x:PcX}(h:kW0 x) {m:Mach}(hm:m∈x.2.1) (h0:m.state=0):StpR (x.1,m):=by
 obtain⟨a,b,c,d⟩:=h.ms m hm;exact⟨h.kWz,h.len,h.bases,h.codes,h.ent,a,b,c,d.fp,h0⟩
theorem kW0.same {x:PcX}(h:kW0 x) {m:Mach}(hm:m∈x.2.1):kIy x.1 m=stepS x.1 m:=qIs h.bases h.codes h.kGn (h.ms m hm).2.2.2
def bxP (x:PcX) (c:Nat):List SV:=[.sl 2 (x.1.1.map encImage),.sl 1 (x.1.2.1.map encI),.sl 1 (x.1.2.2.map encI),.own c,vi x.2.2.1,vi x.2.2.2.1,vi x.2.2.2.2]
def obP (x:PcX):List (Nat×Ob):=[(1000000,.box 54 (bxP x 1000001)),(1000001,.sl 206 7 (x.2.1.map encMach))]
def decP (obs:List (Nat×Ob)):PcX:=match oC obs 1000000 with
 | [.sl _ I,.sl _ B,.sl _ E,_,.v (.int _ a),.v (.int _ b),.v (.int _ c)]=>((kDf I,kBs B,kBs E),kHg (oR obs 1000001),a,b,c)
 | _=>(([],[],[]),[],0,0,0)
attribute [local go_sem] bxP obP decP
@[go_sem] def kTurS:Ctr:=len [0] [] (fun _ obs=>decP obs) (fun _=>[.ptr 1000000 0 0 0]) (fun x=>obP x) kW0 (fun _ x=>vi ((kA0 x).2)) (fun _ _=>[]) (fun x=>obP (kA0 x).1)
theorem qDp {T:List Mach}{tu:Int}{k j:Nat}(hlt:k<T.length) (hf:∀i,i<T.length→i<k→kFt T tu i=false) (hj:(tu+(k:Int)).tmod T.length=j) (hh:kFt T tu k=true):kCj T tu=j:=by
 have hfi:firstIdx (kFt T tu) (List.range T.length)=k :=
  kEe (p:=kFt T tu) (L:=List.range T.length) (k:=k) (by simpa using hlt) (fun i hi hik=>by rw[vBf];exact hf i (by simpa using hi) hik) (by rw[vBf];exact hh)
 unfold kCj;rw[hfi,if_neg zo,hj]
theorem qAz {T:List Mach}{tu:Int}{k:Nat}(hge:¬k<T.length) (hf:∀i,i<T.length→i<k→kFt T tu i=false):kCj T tu=-1:=by
 unfold kCj
 rw[firstIdx_none fun i hi=>by
  rw[vBf];have hi':i<T.length:=by simpa using hi
  exact hf i hi' zo]
 rfl
theorem k3s {n k:Nat}{tu:Int}(h0:0≤tu) (h1:tu<n) (hk:k<n):(tu+(k:Int)).tmod n=tu↔k=0:=by
 rw[vWs zo];constructor
 ·intro h;have h2:=Int.emod_add_mul_ediv (tu+(k:Int)) (n:Int);rw[h]at h2;have h3:(n:Int)*((tu+k) / n)=k:=zo;rcases Int.lt_trichotomy ((tu+(k:Int)) / n) 0 with h4|h4|h4
  ·have:0≤(tu+(k:Int)) / n:=Int.ediv_nonneg zo zo;omega
  ·rw[h4]at h3;omega
  ·have h5:(n:Int)*1≤n*((tu+k) / n):=yIr zo zo;omega
 ·intro h;subst h;rw[show tu+((0:Nat):Int)=tu by omega,Int.emod_eq_of_lt h0 h1]
theorem k6r {S:kO7}{T:List Mach}{tu le sl:Int}{j:Nat}(hj:j<T.length) (hc:kCj T tu=j):kA0 (S,T,tu,le,sl) =
  (if(if(j:Int)=tu then le else sl)-1=0 then(S,T.set j (stepS S T[j]),((j:Int)+1).tmod T.length,sl,sl)else(S,T.set j (stepS S T[j]),(j:Int),(if(j:Int)=tu then le else sl)-1,sl),(j:Int)):=by
 unfold kA0;simp only[hc];rw[if_neg zo];have hg:T.getD (j:Int).toNat zMa=T[j]:=by rw[jB2,jKz,jD9 hj];rfl
 rw[hg,jB2]
section
attribute [local irreducible] kGt
def cxTuS:=kc cStepS kn
theorem kS6 {p:Prop}(h:p:=by first|omega|rfl|exact hnz|exact hstp|(rw[hjt];done)|fail):p:=h
set_option maxHeartbeats 4000000 in
theorem cTurS:Cq 246 kTurS:=by
 refine zn fun d x hd hx=>?_
 obtain⟨⟨I,B,E⟩,T,tu,le,sl⟩:=x;have hT:=hx;obtain⟨_,_,_,_,_,_,⟨hn0,hn1⟩,⟨ht0,ht1⟩,⟨hs0,hs1⟩,⟨hl0,hl1⟩,_⟩:=hx;simp only at hn0 hn1 ht0 ht1 hs0 hs1 hl0 hl1⊢;unfold obP bxP;refine zl cxTuS func246 rfl rfl ntmps246 ?_;intros
 (repeat' (first|apply zS|apply zB|((first|apply zW| refine zf kYh ?_|refine zd 12 ?_);simp only[go_sem])|apply jAi|exact zc0|intro _))
 refine zM (fun k:Nat=>⟨[(0,.ptr 1000000 0 0 0),(3,vi k)],obP ((I,B,E),T,tu,le,sl)⟩)
  (fun k=>k≤T.length∧∀i,i<T.length→i<k→kFt T tu i=false) (fun k=>T.length-k) 0 zs ?_
 intro k ⟨hk,hf⟩;by_cases hlt:k<T.length
 ·have hli:(k:Int)<T.length:=zo;have hnz:((T.length:Nat):Int)≠0:=zo;have hq0:0≤(tu+(k:Int)).tmod T.length:=vTb _ zo;have hq1:(tu+(k:Int)).tmod T.length<T.length:=vP8 _ zo;have hfi:=k3s (n:=T.length) (k:=k) (tu:=tu) ht0 zo hlt;obtain⟨j,hj⟩:=zN ((tu+(k:Int)).tmod T.length);have hjl:j<T.length:=zo;have hr:=kAa encMach T j hjl;have kNj:(j:Int)<T.length:=zo
  have hrun:kFt T tu k=decide (T[j].state=0):=by
   unfold kFt;rw[hj,jB2,jKz,jD9 hjl];rfl
  by_cases h:T[j].state=0
  ·have hh:kFt T tu k=true:=by rw[hrun,decide_eq_true h]
   have hc:=qDp hlt hf hj hh;have hstp:=hT.stp (jCn hjl) h;have kQx:(T.set j (stepS (I,B,E) T[j])).map encMach=(T.map encMach).set j (encMach (stepS (I,B,E) T[j])):=vDv;have hlen2:(T.set j (stepS (I,B,E) T[j])).length=T.length:=jP9;rw[k6r hjl hc];rw[hj]at hfi;generalize hst:stepS (I,B,E) T[j]=m2 at *;generalize hmj:T[j]=m1 at *;obtain⟨a1,a2,a3,a4,a5,a6,a7⟩:=m1;obtain⟨b1,b2,b3,b4,b5,b6,b7⟩:=m2;simp only at h;subst h;have hpos:(k:Int)>0↔¬(j:Int)=tu:=by rw[hfi];omega
   by_cases hjt:(j:Int)=tu
   ·have hk0:¬(0:Int)<k:=fun q=>(hpos.1 q) hjt
    rw[if_pos hjt];by_cases hz:le-1=0
    ·rw[if_pos hz]
     (repeat' (first|apply zS|apply zB|((first|apply zW| refine zd 12 ?_|refine zd 17 ?_);simp only[go_sem,hli,hnz,hj,kNj,hr,encMach,hst,hk0,hz,kQx,jP9,jH5,jB2])|apply jAi|exact kS6|intro _))
    ·rw[if_neg hz]
     (repeat' (first|apply zS|apply zB|((first|apply zW| refine zd 12 ?_|refine zd 17 ?_);simp only[go_sem,hli,hnz,hj,kNj,hr,encMach,hst,hk0,hz,kQx,jP9,jH5,jB2])|apply jAi|exact kS6|intro _))
   ·have hk0:(0:Int)<k:=hpos.2 hjt;rw[if_neg hjt];by_cases hz:sl-1=0
    ·rw[if_pos hz]
     (repeat' (first|apply zS|apply zB|((first|apply zW| refine zd 12 ?_|refine zd 17 ?_);simp only[go_sem,hli,hnz,hj,kNj,hr,encMach,hst,hk0,hz,kQx,jP9,jH5,jB2])|apply jAi|exact kS6|intro _))
    ·rw[if_neg hz]
     (repeat' (first|apply zS|apply zB|((first|apply zW| refine zd 12 ?_|refine zd 17 ?_);simp only[go_sem,hli,hnz,hj,kNj,hr,encMach,hst,hk0,hz,kQx,jP9,jH5,jB2])|apply jAi|exact kS6|intro _))
  ·have hh:kFt T tu k=false:=by rw[hrun,decide_eq_false h]
   have hnx:∀i,i<T.length→i<k+1→kFt T tu i=false:=fun i hi hik=>by
    rcases jFx i k with h|h
    ·exact hf i hi h
    ·have:i=k:=zo;subst this;exact hh
   (repeat' (first|apply zS|apply zB|((first|apply zW| refine zd 12 ?_|refine zd 17 ?_);simp only[go_sem,hli,hnz,hj,kNj,hr,encMach,h,jB2])|apply jAi|omega|exact hnz|exact⟨k+1,⟨zo,hnx⟩,zo,zh⟩|intro _))
 ·have hge:¬(k:Int)<T.length:=zo;have hc:=qAz hlt hf
  have e:kA0 ((I,B,E),T,tu,le,sl)=(((I,B,E),T,tu,le,sl),-1):=by
   unfold kA0;rw[if_pos (by simp only[hc];omega)]
  rw[e];exact zx2 12 17 hge
end
end
theorem k82 {c:ByteArray}{Y:List Symbol}(h:kDy c Y=true):c.size≤1000000:=by
 unfold kDy at h;split at h
 ·rw[Bool.and_eq_true]at h;exact of_decide_eq_true h.2
 ·cases h
theorem k6y {I:List Image}{B E:List Int}(h:kAo I B E=true):I.length=2∧B.length=2∧E.length≤6∧(∀b∈B,0≤b∧b≤1000000)∧∀i:Nat,(I.getD i kFo).code.size≤1000000:=by
 unfold kAo at h;simp only[Bool.and_eq_true]at h;obtain⟨⟨⟨h1,h2⟩,_⟩,_⟩:=h;obtain⟨a,b,_,d⟩:=of_decide_eq_true h1;unfold kFf at h2;rw[List.all_eq_true]at h2
 have key:∀i,i<2→kDy (I.getD i kFo).code (I.getD i kFo).symbols=true∧1≤B.getD i 0∧B.getD i 0≤1000000:=fun i hi=>by
  have:=h2 i (List.mem_range.2 hi);rw[Bool.and_eq_true]at this;exact⟨this.1,of_decide_eq_true this.2⟩
 refine⟨a,b,d,fun x hx=>?_,fun i=>?_⟩
 ·obtain⟨i,hi,rfl⟩:=List.mem_iff_getElem.1 hx;have:=(key i (by omega)).2
  rw[List.getD_eq_getElem?_getD,List.getElem?_eq_getElem hi]at this;simp only[Option.getD_some]at this;omega
 ·by_cases hi:i<2
  ·exact k82 (key i hi).1
  ·rw[List.getD_eq_getElem?_getD,List.getElem?_eq_none (by omega)]
   show(0:Nat)≤1000000
   omega
theorem kWx (s:CpB) (a:Int):(kA5 s a).2.1=s.1:=by unfold kA5;split<;>rfl
theorem k83 (s:CpB):(kAd s).2.1.out=s.1.out:=by
 unfold kAd;split
 ·rw[kWx]
 ·rfl
theorem k4r (s:CpB) (x:Int):(kBi s x).1.out=s.1.out:=by unfold kBi;split<;>rfl
theorem qIm (s:CpB) (a x:Int):(kLt s a x).1.out=s.1.out:=by unfold kLt;split<;>rfl
theorem k4s (s:CpB):∀n,(kDt s n).1.out=s.1.out
 | 0=>rfl
 |n+1=>by show(kAd (kDt s n)).2.1.out=_;rw[k83,k4s s n]
theorem k0k (s:CpB):∀n,(kHk s n).1.out=s.1.out
 | 0=>rfl
 |n+1=>by show(kBi (kHk s n) 0).1.out=_;rw[k4r,k0k s n]
theorem oPc (s:CpB) (v:Int):(kBe s v).1.out=s.1.out:=rfl
theorem oSp (s:CpB) (v:Int):(kGk s v).1.out=s.1.out:=rfl
theorem oFp (s:CpB) (v:Int):(kEx s v).1.out=s.1.out:=rfl
theorem oOut (s:CpB) (v:Int):(kF8 s v).1.out.length=s.1.out.length+1:=by show(s.1.out++[v]).length=_;simp
def LeO (n:Nat) (r:CpB):Prop:=r.1.out.length≤n+1
theorem LeO.ite {n:Nat}{p:Prop}[Decidable p] {a b:CpB}(h1:LeO n a) (h2:LeO n b):LeO n (if p then a else b):=by split<;>assumption
theorem k84 (E:List Int) (x:Op) (c:Cpu):(kA6 E x c).1.out.length≤c.out.length+1:=by
 show LeO c.out.length (kA6 E x c)
 unfold kA6
 repeat' with_reducible refine LeO.ite ?_ ?_
 all_goals
  unfold LeO
  first|(simp only[k4r,k83,k4s,k0k,qIm,kWx,oPc,oSp,oFp,oOut,Nat.le_refl,Nat.le_succ];done)|(simp only[k4r,k83,k4s,k0k,qIm,kWx,oPc,oSp,oFp,oOut];omega)
theorem qIn (S:kO7) (m:Mach):(stepS S m).out.length≤m.out.length+1:=by
 unfold stepS;split
 ·exact Nat.le_succ _
 ·rename_i x n _;have h:=k84 S.2.2 x (kWy m n);unfold kNf;split
  ·exact Nat.le_succ _
  ·split
   ·split
    ·exact h
    ·exact Nat.le_succ _
   ·exact h
structure SnI (k:Nat) (x:SeX):Prop where
 base:kT9 x
 kWz:kUa x.1.1.1
 syms:∀i∈x.1.1.1,i.symbols.length≤2097152
 kGn:∀e∈x.1.1.2.2,In64 e
 ms:∀m∈x.1.2.1,m.out.length≤1048576+k∧MachR m
theorem SnI.facts {k:Nat}{x:SeX}(h:SnI k x):(x.1.1.1.length=2∧x.1.1.2.1.length=2∧x.1.1.2.2.length≤6∧(∀b∈x.1.1.2.1,0≤b∧b≤1000000)∧∀i:Nat,(x.1.1.1.getD i kFo).code.size≤1000000) ∧
  ((1≤x.1.2.1.length∧x.1.2.1.length≤3)∧(0≤x.1.2.2.1∧x.1.2.2.1≤(x.1.2.1.length:Int)-1)∧(1≤x.1.2.2.2.2∧x.1.2.2.2.2≤1000)∧1≤x.1.2.2.2.1∧x.1.2.2.2.1≤x.1.2.2.2.2)∧∀m∈x.1.2.1,kBo m=true:=by
 obtain⟨h1,h2,h3⟩:=kU7.1 h.base.1;exact⟨k6y h1,h2,h3⟩
theorem SnI.tur {k:Nat}{x:SeX}(h:SnI k x) (hk:k≤3000):kW0 x.1:=by
 obtain⟨⟨a1,a2,a3,a4,a5⟩,⟨b1,b2,b3,b4⟩,hm⟩:=h.facts;refine⟨h.kWz,by omega,a4,a5,by omega,h.kGn,b1,b2,b3,b4,fun m q=>?_⟩
 obtain⟨c1,c2,_⟩:=kIj.1 (hm m q);obtain⟨d1,d2⟩:=h.ms m q;exact⟨c1,c2,by omega,d2⟩
theorem SnI.pc {k:Nat}{x:SeX}(h:SnI k x) (hk:k≤3000):kGl x.1∧kFr x.1:=by
 obtain⟨⟨a1,a2,a3,a4,a5⟩,⟨b1,b2,b3,b4⟩,hm⟩:=h.facts;refine⟨⟨⟨h.kWz,by omega,by omega⟩,by omega,fun m q=>?_⟩,⟨⟨by omega,h.syms⟩,by omega,by omega⟩,by omega,fun m q=>?_⟩
 ·obtain⟨c1,_⟩:=kIj.1 (hm m q);omega
 ·obtain⟨c1,_⟩:=kIj.1 (hm m q);obtain⟨d1,_⟩:=h.ms m q;exact⟨by omega,by omega⟩
theorem qN8 {R:List ByteArray}(h:R.all (fun s=>decide (s≠⟨#[]⟩))=true):R.length≤kBu R R.length:=by
 unfold kBu;rw[List.take_length]
 induction R with
 |nil=>simp
 |cons s R ih =>
  rw[List.all_cons,Bool.and_eq_true]at h;have h1:=ih h.2
  have h2:1≤s.size:=by
   have hne:=of_decide_eq_true h.1;rcases Nat.eq_zero_or_pos s.size with h0|h0
   ·exfalso;apply hne;obtain⟨d⟩:=s;have:d.size=0:=h0;congr 1;exact Array.eq_empty_of_size_eq_zero this
   ·exact h0
  rw[List.map_cons,List.sum_cons,List.length_cons];omega
theorem SnI.rg {k:Nat}{x:SeX}(h:SnI k x):kC2 x.2.2.1∧x.2.2.1.2.1.length≤100000:=by
 obtain⟨_,_,⟨r1,r2,r3,r4,r5⟩,_⟩:=h.base;have:=qN8 r1;exact⟨⟨by omega,by omega⟩,by omega⟩
theorem iteP {q:PcX→Prop}{p:Prop}[Decidable p] {a b:PcX}(h1:q a) (h2:q b):q (if p then a else b):=by split<;>assumption
theorem kPp (x:PcX):(kA0 x).1.1=x.1:=by
 unfold kA0;by_cases hc:kCj x.2.1 x.2.2.1<0
 ·rw[if_pos hc]
 ·rw[if_neg hc];exact iteP (q:=fun y=>y.1=x.1) rfl rfl
theorem qL1 {x:PcX}{m:Mach}(hm:m∈(kA0 x).1.2.1) (htu:0≤x.2.2.1):m∈x.2.1∨∃m'∈x.2.1,m=stepS x.1 m':=by
 unfold kA0 at hm;split at hm
 ·exact .inl hm
 ·rename_i hc;obtain⟨hb,_⟩:=k4t (T:=x.2.1) (tu:=x.2.2.1) (by omega) htu
  have hg:x.2.1.getD (kCj x.2.1 x.2.2.1).toNat zMa∈x.2.1:=by
   rw[List.getD_eq_getElem?_getD,List.getElem?_eq_getElem (by omega)]
   exact List.getElem_mem _
  have hm':m∈x.2.1.set (kCj x.2.1 x.2.2.1).toNat (stepS x.1 (x.2.1.getD (kCj x.2.1 x.2.2.1).toNat zMa)):=by
   revert hm;exact iteP (q:=fun y=>m∈y.2.1→m∈x.2.1.set (kCj x.2.1 x.2.2.1).toNat (stepS x.1 (x.2.1.getD (kCj x.2.1 x.2.2.1).toNat zMa))) id id
  rcases List.mem_or_eq_of_mem_set hm' with h|h
  ·exact .inl h
  ·exact .inr ⟨_,hg,h⟩
theorem SnI.adv {k:Nat}{x:SeX}(h:SnI k x):SnI (k+1) (kTm x):=by
 obtain⟨⟨a1,a2,a3,a4,a5⟩,⟨b1,b2,b3,b4⟩,hm⟩:=h.facts;have e:(kTm x).1=(kA0 x.1).1:=rfl;refine⟨qIo h.base,?_,?_,?_,fun m q=>?_⟩
 ·rw[e,kPp];exact h.kWz
 ·rw[e,kPp];exact h.syms
 ·rw[e,kPp];exact h.kGn
 ·rw[e]at q;rcases qL1 q b2.1 with q|⟨m',q',rfl⟩
  ·obtain⟨d1,d2⟩:=h.ms m q;exact⟨by omega,d2⟩
  ·obtain⟨d1,d2⟩:=h.ms m' q';have:=qIn x.1.1 m';exact⟨by omega,qIp a4 a5 h.kGn d2⟩
theorem SnI.up {k:Nat}{x:SeX}(h:SnI k x):SnI (k+1) x:=⟨h.base,h.kWz,h.syms,h.kGn,fun m q=>⟨by have:=(h.ms m q).1;omega,(h.ms m q).2⟩⟩
theorem SnI.step {k:Nat}{x:SeX}(h:SnI k x):SnI (k+1) (kBd x).1:=by
 unfold kBd;split
 ·exact h.adv
 ·exact h.up
def numSe (x:SeX):Prop:=(∀e∈x.1.1.2.2,In64 e)∧∀m∈x.1.2.1,MachR m
theorem SnI.of {x:SeX}(h:0≤kQi x 1048576) (hn:numSe x) (hok:kAx x=true):SnI 0 x:=by
 obtain⟨hp,hs⟩:=qL2 h;refine⟨(kQm.1 hok).1,hp.1.1.1,hs.1.1.1.2,hn.1,fun m q=>⟨?_,hn.2 m q⟩⟩
 obtain⟨⟨⟨I,B,E⟩,T,tu,le,sl⟩,⟨p,q',l,st⟩,⟨cp,R,wr,lo⟩,mo,sp,fi⟩:=x;obtain⟨hP,hPl,hR⟩:=kFj (kQ2 _) (by omega) h
 obtain⟨hS,hSl,hT⟩:=kFj (kLh _) (by omega) hP
 obtain⟨t1,t2⟩:=kPn (by simp only at hSl hPl⊢;omega) hT
 have:=(t2 m q).2;omega
def k85 (x:SeX):Prop:=kEl x∧kEc x∧(kAx x=true→∃k,k≤3000∧SnI k x)
theorem SnI.pre {k:Nat}{x:SeX}(h:SnI k x) (hk:k≤3000):k85 x:=⟨⟨(h.pc hk).1,h.rg.1⟩,⟨(h.pc hk).2,by have:=h.rg.2;omega⟩,fun _=>⟨k,hk,h⟩⟩
section
open Go.Vc Tryz
def kS4 (x:PcX):PcX×Int:=if kFa x=true then kA0 x else(x,-1)
@[go_sem] def kStPc:Ctr:=pur (fun args=>pcA args 0) (fun x=>[.agg (aggPc x)]) (fun x=>kGl x∧kFr x∧(kFa x=true→kW0 x)) (fun _ x=>.tup [.agg (aggPc (kS4 x).1),vi ((kS4 x).2)]) (fun _ _=>[])
attribute [local go_sem] aggPc decP obP bxP
attribute [local irreducible] kGl kFr kA0
section
def cxSpP:=kc qJ8 (kc qAw (kc cTurS kn))
set_option maxHeartbeats 3000000 in
theorem cStPcS:Cq 206 kStPc:=by
 refine zp fun d x hx=>?_
 obtain⟨⟨I,B,E⟩,T,tu,le,sl⟩:=x;obtain⟨h1,h2,h3⟩:=hx
 try simp only at h1 h2 h3⊢
 refine zg cxSpP func206 rfl rfl ntmps206 ?_;intros
 cases hok:kFa ((I,B,E),T,tu,le,sl)with
 |false =>
  have e:kS4 ((I,B,E),T,tu,le,sl)=(((I,B,E),T,tu,le,sl),-1):=by unfold kS4;rw[hok];rfl
  rw[e]
  (repeat' (first|apply zS|apply zB|((first|refine WP.regionF (id:=3) [(0,[7,1007,2007,3007])] ?_);simp only[go_sem,hok])|(apply zW;simp only[go_sem,hok])|apply jAi|omega|rfl|exact h1|exact h2|exact⟨_,_,rfl,_,_,rfl,rfl⟩|intro _))
 |true =>
  have e:kS4 ((I,B,E),T,tu,le,sl)=kA0 ((I,B,E),T,tu,le,sl):=by unfold kS4;rw[if_pos hok]
  rw[e];have hsp:=kPp ((I,B,E),T,tu,le,sl);have hT:=h3 hok;generalize ht:kA0 ((I,B,E),T,tu,le,sl)=r at hsp;obtain⟨⟨rS,rT,rtu,rle,rsl⟩,t⟩:=r;simp only at hsp;subst hsp
  (repeat' ((fail_if_success refine WP.kEw (b:=4) ?_);first|apply zS|apply zB|(apply zW;simp only[go_sem,hok])|apply jAi|omega|rfl|exact h1|exact h2|intro _))
  refine zP [7,1007,2007] [] rfl ?_;refine WP.sha [3007] ?_;simp only[go_sem]
  (repeat' (first|apply zS|apply zB|((first|refine WP.regionF (id:=5) [(0,[3007])] ?_);simp only[go_sem,hok,ht])|(apply zW;simp only[go_sem,hok,ht])|apply jAi|omega|rfl|exact hT|exact⟨_,_,rfl,_,_,rfl,rfl⟩|intro _))
end
end
section
open Go.Vc Tryz
def kHq:FP:=⟨9,[fc [1] [] [54],fc [50] [0] [54],fc [9] [] [54],fc [52] [2] [54],⟨[51,53],[0,1,2,3],[],[],[],[54]⟩,fa [54] [0,1,2,3,4],fa [49] [0,1,2,3,4,5],fa [49] [0,1,2,3,4,5],fa [4] [0,1,2,3,4,5,6],fn 9],[49,50,51,52,53,54,55,56,57],[54],[]⟩
attribute [local go_sem] kHq
@[go_sem] def kStpSe:Ctr:=pur (fun args=>seA args 0) (fun x=>[.agg (aggSe x)]) k85 (fun _ x=>.tup [.agg (aggSe (kBd x).1),.v (.bool (kBd x).2)]) (fun _ _=>[])
theorem kW3 (x:PcX) (t most:Int):(kF0 x t most).1.2.words.length≤1200:=by
 unfold kF0;split
 ·split
  ·exact kVa _ _
  ·simp[zSm]
 ·simp[zSm]
theorem k2p {x:Int×Vw}(h:x.2.words.length≤1200):(kE8 x).size≤1099511627776:=by
 unfold kE8;split
 ·have h1:=kF1 x.1;have h2:=kW7 (x.2.pc::x.2.sp::x.2.fp::x.2.words);simp only[jGk]at h2;rw[yAt];omega
 ·simp[ByteArray.size]
attribute [local go_sem] aggPc aggSe aggTm kHa kJk
section
attribute [local irreducible] kGl kFr kEc kEl kC2 kA0 kBd
def cxStp:=kc k2q (kc k2r (kc cStPcS (kc cTickS (kc cTakeS (kc qCx (kc qPw kn))))))
theorem k3r {p:Prop}(h:p:=by first|omega|rfl|exact hp|exact⟨hpp,hss,fun _=>k0n⟩|exact⟨_,_,rfl,_,_,rfl,rfl⟩):p:=h
set_option maxHeartbeats 6000000 in
theorem qPz:Cq 140 kStpSe:=by
 refine zp fun d x hx=>?_
 obtain⟨hp,hs,hk⟩:=hx;have hcs:kJz x:=by unfold kEl at hp;unfold kEc at hs;exact⟨hs.1,by unfold kC2;exact hp.2⟩
 have hpp:kGl x.1:=by unfold kEl at hp;exact hp.1
 have hss:kFr x.1:=hcs.1;have hrg:kC2 x.2.2.1:=hcs.2
 cases hok:kAx x with
 |false =>
  have e:kBd x=(x,false):=by unfold kBd;rw[if_neg (by rw[hok];simp)]
  rw[e];obtain⟨⟨⟨I,B,E⟩,T,tu,le,sl⟩,⟨p,q,l,st⟩,⟨cp,R,wr,lo⟩,mo,sp,fi⟩:=x;simp only at hpp hss hrg⊢;refine zg cxStp func140 rfl rfl ntmps140 ?_;intros
  (repeat' (first|apply zS|apply zB|((first|refine WP.regionF (id:=3) [(0,[12,1012,2012,3012,4012])] ?_);simp only[go_sem,hok])|((first|apply zW| refine zfE 9 7 [] kHq ?_);simp only[go_sem,hok])|apply jAi|omega|rfl|exact hp|exact hcs|exact⟨_,_,rfl,_,_,rfl,rfl⟩|intro _))
 |true =>
  obtain⟨k,hk0,hI⟩:=hk hok;have k0n:=hI.tur hk0;have hpo:kFa x.1=true:=hI.base.1;have hct:=(kQm.1 hok).2;have hsr:=k5p (x:=x) hI.base;have hst:kS4 x.1=kA0 x.1:=by unfold kS4;rw[if_pos hpo]
  have e0:kBd x=if 0≤(kA0 x.1).2 then(kTm x,true)else(x,false):=by
   unfold kBd;by_cases h:0≤(kA0 x.1).2
   ·rw[if_pos ⟨hok,h⟩,if_pos h]
   ·rw[if_neg (fun a=>h a.2),if_neg h]
  rw[e0];have hsz:=fun t=>k2p (kW3 x.1 t x.2.2.2.1)
  have htl:=fun t=>kW3 x.1 t x.2.2.2.1
  have hcb:(0≤x.2.2.2.2.1∧x.2.2.2.2.1≤1000000000000)∧0≤x.2.2.2.2.2∧x.2.2.2.2.2≤1000000000000:=by
   unfold kAx at hok;simp only[jBs,decide_eq_true_iff]at hok;exact hok.2.2
  have hadv:kTm x=((kA0 x.1).1,(tick x.2.1).1,(if(tick x.2.1).2=true then kQl x (kA0 x.1).2 else x.2.2.1),x.2.2.2.1,x.2.2.2.2.1+1,if(tick x.2.1).2=true then x.2.2.2.2.2+1 else x.2.2.2.2.2):=rfl
  have hrs:∀t,kQl x t=if(kF0 x.1 t x.2.2.2.1).2=true then(kDx x.2.2.1 (kE8 (kF0 x.1 t x.2.2.2.1).1)).1 else x.2.2.1:=fun t=>rfl
  rw[hadv];obtain⟨⟨⟨I,B,E⟩,T,tu,le,sl⟩,⟨p,q,l,st⟩,⟨cp,R,wr,lo⟩,mo,sp,fi⟩:=x;simp only at hpp hss hrg hcb hst hsz htl hrs⊢;generalize hturn:kA0 ((I,B,E),T,tu,le,sl)=r at hst;obtain⟨⟨⟨rI,rB,rE⟩,rT,rtu,rle,rsl⟩,t⟩:=r;rw[hrs];have hsz:=hsz t;have htl:=htl t;generalize kLj:tick ⟨p,q,l,st⟩=r2;obtain⟨⟨p',q',l',st'⟩,fr⟩:=r2;generalize htake:kF0 ((I,B,E),T,tu,le,sl) t mo=r3 at hsz htl;obtain⟨⟨ta,⟨vp,vs,vf,vw⟩⟩,tk⟩:=r3;simp only at hsz htl⊢;generalize henc:kE8 (ta,⟨vp,vs,vf,vw⟩)=es at hsz;generalize hput:kDx (cp,R,wr,lo) es=r4;obtain⟨⟨cp2,R2,wr2,lo2⟩,ok2⟩:=r4;have hvl:vw.length≤1048576:=zo;refine zg cxStp func140 rfl rfl ntmps140 ?_;intros
  (repeat' ((fail_if_success refine WP.kEw (b:=2) ?_);first|apply zS|apply zB|((first|apply zW| refine zfE 9 7 [] kHq ?_);simp only[go_sem,hok])|apply jAi|omega|exact hcs|intro _))
  refine zP [12,1012,2012,3012,4012] [] rfl ?_;simp only[go_sem];by_cases ht:0≤t
  ·have ht':¬t<0:=zo;rw[if_pos ht]
   cases fr with
   |false =>
    simp only[jIv,if_false]
    (repeat' (first|apply zS|apply zB|((first|refine WP.regionF (id:=16) [(0,[54])] ?_);simp only[go_sem,hok,hst,ht',kLj])|((first|apply zW| refine zfE 9 7 [] kHq ?_);simp only[go_sem,hok,hst,ht',kLj])|apply jAi|exact k3r|intro _))
   |true =>
    simp only[if_true]
    cases tk with
    |false =>
     simp only[jIv,if_false]
     (repeat' (first|apply zS|apply zB|((first|refine WP.regionF (id:=16) [(0,[54])] ?_);simp only[go_sem,hok,hst,ht',kLj,htake])|((first|apply zW| refine zfE 9 7 [] kHq ?_);simp only[go_sem,hok,hst,ht',kLj,htake])|apply jAi|omega|rfl|exact hp|exact hpp|exact⟨hpp,hss,fun _=>k0n⟩|exact⟨_,_,rfl,_,_,rfl,rfl⟩|intro _))
    |true =>
     simp only[if_true]
     (repeat' (first|apply zS|apply zB|((first|refine WP.regionF (id:=16) [(0,[54])] ?_);simp only[go_sem,hok,hst,ht',kLj,htake,henc,hput])|((first|apply zW| refine zfE 9 7 [] kHq ?_);simp only[go_sem,hok,hst,ht',kLj,htake,henc,hput])|apply jAi|omega|rfl|exact hp|exact hpp|exact⟨hrg,hsz⟩|exact⟨hpp,hss,fun _=>k0n⟩|exact⟨_,_,rfl,_,_,rfl,rfl⟩|intro _))
  ·have ht':t<0:=zo;rw[if_neg ht]
   (repeat' (first|apply zS|apply zB|((first|apply zW| refine zfE 9 7 [] kHq ?_);simp only[go_sem,hok,hst,ht'])|apply jAi|exact k3r|intro _))
end
end
section
open Go.Vc Tryz
@[go_sem] def qJy:Ctr:=pur (fun args=>(seA args 0,aI args 1)) (fun x=>[.agg (aggSe x.1),vi x.2]) (fun x=>kEl x.1∧kEc x.1∧(kAx x.1=true→0≤x.2→x.2≤3000→∃k0:Nat,(k0:Int)+x.2≤3000∧SnI k0 x.1)) (fun _ x=>.agg (aggSe (kIh x.1 x.2))) (fun _ _=>[])
def k3h:List SV:=[.v (.slice none 0 0),.v (.slice none 0 0),.v (.slice none 0 0),.v (.slice none 0 0),vi 0,vi 0,vi 0,vi 0,vi 0,vi 0,vi 0,vi 0,.v (.slice none 0 0),vi 0,vi 0,vi 0,vi 0,vi 0]
attribute [local go_sem] aggSe kHa kJk k3h
theorem qAn {n:Nat}{y:SeX}(h:(kBd y).2=true):kIi (n+1) y=kIi n (kBd y).1:=if_pos h
theorem k6k {n:Nat}{y:SeX}(h:(kBd y).2=false):kIi n y=y:=by
 cases n with
 |zero=>rfl
 |succ n=>exact if_neg (by rw[h];simp)
section
attribute [local irreducible] kGl kFr kEc kEl kC2 kA0 kBd
def qGu:=kc k2q (kc k2r (kc c58 (kc qPz kn)))
theorem kTo {p:Prop}(h:p:=by first|omega|rfl|exact hp|exact hcs|exact hcs.1|exact hcs.2|exact⟨_,_,rfl,_,_,rfl,rfl⟩):p:=h
set_option maxHeartbeats 6000000 in
theorem qPo:Cq 67 qJy:=by
 refine zp fun d x hx=>?_
 obtain⟨x,lim⟩:=x;obtain⟨hp,hs,hk⟩:=hx;simp only at hp hs hk⊢;have hcs:kJz x:=by unfold kEl at hp;unfold kEc at hs;exact⟨hs.1,by unfold kC2;exact hp.2⟩
 have hG:kIh x lim=if kAx x=true∧0≤lim∧lim≤3000 then kIi lim.toNat x else x:=rfl
 rw[hG]
 cases hok:kAx x with
 |false =>
  rw[if_neg (fun h=>by cases h.1)]
  obtain⟨⟨⟨I,B,E⟩,T,tu,le,sl⟩,⟨p,q,l,st⟩,⟨cp,R,wr,lo⟩,mo,sp,fi⟩:=x
  try simp only
  refine zg qGu func67 rfl rfl ntmps67 ?_;intros
  (repeat' (first|apply zS|apply zB|((first|refine WP.regionF (id:=3) [(0,[10,1010,2010,3010,4010])] ?_);simp only[go_sem,hok])|(apply zW;simp only[go_sem,hok])|apply jAi|exact kTo|intro _))
 |true =>
  by_cases hl:0≤lim∧lim≤3000
  ·rw[if_pos ⟨rfl,hl⟩];obtain⟨k0,hk0,h0⟩:=hk hok hl.1 hl.2;generalize hz:kIi lim.toNat x=z;have hx0:∃y0:SeX,y0=x:=⟨x,rfl⟩;obtain⟨y0,hy0⟩:=hx0;rw[←hy0]at h0 hz;obtain⟨⟨⟨jjI,jjB,jjE⟩,jjT,k0x,k0y,k0z⟩,⟨jjp,jjq,jjl,k00⟩,⟨k01,jjR,k02,k03⟩,k04,k05,jjfi⟩:=z;obtain⟨⟨⟨I,B,E⟩,T,tu,le,sl⟩,⟨p,q,l,st⟩,⟨cp,R,wr,lo⟩,mo,sp,fi⟩:=x
   try simp only
   refine zg qGu func67 rfl rfl ntmps67 ?_;intros
   (repeat' ((fail_if_success refine WP.kEw (b:=2) ?_);first|apply zS|apply zB|(apply zW;simp only[go_sem,hok])|apply jAi|omega|exact hcs|exact hcs.1|exact hcs.2|intro _))
   refine zP [10,1010,2010,3010,4010] [] rfl ?_;simp only[go_sem];refine zv (z2 hok hl) ?_
   refine zL (fun S:Nat×SeX=>⟨[(1,vi lim),(4,.ptr 4 0 0 0),(5,.ptr 5 0 0 0),(6,vi S.1)],[(4,.box 58 (k3h)),(5,.box 58 (aggSe S.2))]⟩)
    (fun S=>(S.1:Int)≤lim∧SnI (k0+S.1) S.2∧kIi (lim.toNat-S.1) S.2=(((jjI,jjB,jjE),jjT,k0x,k0y,k0z),⟨jjp,jjq,jjl,k00⟩,(k01,jjR,k02,k03),k04,k05,jjfi)) (fun S=>lim.toNat-S.1) (0,y0) ⟨zo,h0,hz⟩ ?_ ?_
   ·subst hy0
    (simp only[go_sem]<;>(first|(and_intros<;>rfl)|simp))
   rintro⟨k,y⟩ ⟨hkl,hI,hr⟩;simp only at hkl hI hr⊢;have hk3:k0+k≤3000:=zo;by_cases hlt:(k:Int)<lim
   ·have hpre:k85 y:=hI.pre hk3;have hI2:=hI.step;have hn:lim.toNat-k=lim.toNat-(k+1)+1:=zo
    cases hok2:(kBd y).2 with
    |true =>
     rw[hn,qAn hok2]at hr;generalize hq:(kBd y).1=y2 at hI2 hr;have hq2:kBd y=(y2,true):=by rw[←hq,←hok2]
     obtain⟨⟨⟨yI,yB,yE⟩,yT,ytu,yle,ysl⟩,⟨yp,yq,yl,yst⟩,⟨ycp,yR,ywr,ylo⟩,ymo,ysp,yfi⟩:=y;obtain⟨⟨⟨wI,wB,wE⟩,wT,wtu,wle,wsl⟩,⟨wp,wq,wl,wst⟩,⟨wcp,wR,wwr,wlo⟩,wmo,wsp,wfi⟩:=y2
     (repeat' (first|apply zS|apply zB|(apply zW;simp only[go_sem,hlt,hq2])|apply jAi|omega|exact hpre|exact hpre.1|exact hpre.2.1|exact⟨k0+k,hk3,hI⟩|exact⟨(k+1,(((wI,wB,wE),wT,wtu,wle,wsl),⟨wp,wq,wl,wst⟩,(wcp,wR,wwr,wlo),wmo,wsp,wfi)),⟨by show((k+1:Nat):Int)≤lim;omega,hI2,hr⟩,by show lim.toNat-(k+1)<lim.toNat-k;omega,zh⟩|intro _))
    |false =>
     rw[k6k hok2]at hr;subst hr;have hq2:=hok2;generalize hq:kBd (((jjI,jjB,jjE),jjT,k0x,k0y,k0z),(⟨jjp,jjq,jjl,k00⟩:Tm),(k01,jjR,k02,k03),k04,k05,jjfi)=r at hq2;obtain⟨⟨⟨⟨wI,wB,wE⟩,wT,wtu,wle,wsl⟩,⟨wp,wq,wl,wst⟩,⟨wcp,wR,wwr,wlo⟩,wmo,wsp,wfi⟩,rb⟩:=r;simp only at hq2;subst hq2
     (repeat' (first|apply zS|apply zB|(apply zW;simp only[go_sem,hlt,hq])|apply jAi|omega|exact hpre|exact hpre.1|exact hpre.2.1|exact⟨k0+k,hk3,hI⟩|rfl|exact⟨_,_,rfl,_,_,rfl,rfl⟩|intro _))
   ·have hkl:(k:Int)=lim:=zo;have hn:lim.toNat-k=0:=zo;rw[hn]at hr;have hr:y=_:=hr;subst hr;exact zx hlt
  ·rw[if_neg (fun h=>hl h.2)]
   obtain⟨⟨⟨I,B,E⟩,T,tu,le,sl⟩,⟨p,q,l,st⟩,⟨cp,R,wr,lo⟩,mo,sp,fi⟩:=x
   try simp only
   refine zg qGu func67 rfl rfl ntmps67 ?_;intros;by_cases hl0:0≤lim
   ·have hl1:¬lim≤3000:=fun h=>hl ⟨hl0,h⟩
    (repeat' (first|apply zS|apply zB|((first|refine WP.regionF (id:=3) [(0,[10,1010,2010,3010,4010])] ?_);simp only[go_sem,hok,hl0,hl1])|(apply zW;simp only[go_sem,hok,hl0,hl1])|apply jAi|exact kTo|intro _))
   ·(repeat' (first|apply zS|apply zB|((first|refine WP.regionF (id:=3) [(0,[10,1010,2010,3010,4010])] ?_);simp only[go_sem,hok,hl0])|(apply zW;simp only[go_sem,hok,hl0])|apply jAi|exact kTo|intro _))
end
end
end Go.Proofs.YtjdklcjoeanimaaGreat
