/- DERIVED. Steps of the proof. -/
import Derived.Test.YtjdklcjoeanimaaGreatVf27
import Derived.Test.YtjdklcjoeanimaaGreatVf30
import Derived.Test.YtjdklcjoeanimaaGreatVf31
set_option linter.all false
set_option maxHeartbeats 1000000
set_option maxRecDepth 10000
namespace Go.Proofs.YtjdklcjoeanimaaGreat
attribute [local irreducible] Go.Vc.WP
section
open Go.Vc Tryz
def kYi:FP:=⟨17,[fc [0] [] [66,1066],fc [50] [0] [66,1066],fc [51] [0,1] [66,1066],fc [52] [0,1,2] [66,1066],fc [5] [] [66,1066],fc [0] [] [66,1066],fc [55] [5] [66,1066],fc [56] [5,6] [66,1066],fc [57] [5,6,7] [66,1066],fc [0] [] [66,1066],fc [59] [9] [66,1066],fc [60] [9,10] [66,1066],fc [61] [9,10,11] [66,1066],fc [5] [] [66,1066],fc [62,63] [9,10,11,12,13] [66,1066],fc [64] [9,10,11,12,13,14] [66,1066],⟨[58,65],[5,6,7,8,9,10,11,12,13,14,15],[],[],[],[66,1066]⟩,fn 17,fn 18],[50,51,52,53,54,55,56,57,58,59,60,61,62,63,64,65,66],[66,1066],[]⟩
attribute [local go_sem] kYi
def bxE (x:SeX) (c:Nat):List SV:=[.sl 2 (x.1.1.1.map encImage),.sl 1 (x.1.1.2.1.map encI),.sl 1 (x.1.1.2.2.map encI),.own c,vi x.1.2.2.1,vi x.1.2.2.2.1,vi x.1.2.2.2.2,vi x.2.1.period,vi x.2.1.spread,vi x.2.1.left,vi x.2.1.state,
 vi x.2.2.1.1,.sl 1 (x.2.2.1.2.1.map encS),vi x.2.2.1.2.2.1,vi x.2.2.1.2.2.2,vi x.2.2.2.1,vi x.2.2.2.2.1,vi x.2.2.2.2.2]
def obE (x:SeX):List (Nat×Ob):=[(1000000,.box 58 (bxE x 1000001)),(1000001,.sl 206 7 (x.1.2.1.map encMach))]
def decE (obs:List (Nat×Ob)):SeX:=match oC obs 1000000 with
 | [.sl _ I,.sl _ B,.sl _ E,_,.v (.int _ a),.v (.int _ b),.v (.int _ c),.v (.int _ p),.v (.int _ q),.v (.int _ l),.v (.int _ s),.v (.int _ cp),.sl _ R,.v (.int _ wr),.v (.int _ lo),.v (.int _ mo),.v (.int _ sp),.v (.int _ fi)]=>(((kDf I,kBs B,kBs E),kHg (oR obs 1000001),a,b,c),⟨p,q,l,s⟩,(cp,kNn R,wr,lo),mo,sp,fi)
 | _=>((([],[],[]),[],0,0,0),⟨0,0,0,0⟩,(0,[],0,0),0,0,0)
attribute [local go_sem] bxE obE decE
@[go_sem] def kTurI:Ctr:=len [0] [] (fun _ obs=>decE obs) (fun _=>[.ptr 1000000 0 0 0]) (fun x=>obE x) (fun x=>kW0 x.1) (fun _ x=>vi ((kA0 x.1).2)) (fun _ _=>[]) (fun x=>obE ((kA0 x.1).1,x.2))
section
attribute [local irreducible] kGt
def cxTuI:=kc cStepI kn
theorem kQy {p:Prop}(h:p:=by first|omega|rfl|exact hnz|exact hstp):p:=h
set_option maxHeartbeats 4000000 in
theorem cTurI:Cq 214 kTurI:=by
 refine zn fun d x hd hx=>?_
 obtain⟨⟨⟨I,B,E⟩,T,tu,le,sl⟩,⟨p,q,l,st⟩,⟨cp,R,wr,lo⟩,mo,sp,fi⟩:=x;have hT:=hx;obtain⟨_,_,_,_,_,_,⟨hn0,hn1⟩,⟨ht0,ht1⟩,⟨hs0,hs1⟩,⟨hl0,hl1⟩,_⟩:=hx;simp only at hn0 hn1 ht0 ht1 hs0 hs1 hl0 hl1⊢;unfold obE bxE;refine zl cxTuI func214 rfl rfl ntmps214 ?_;intros
 (repeat' (first|apply zS|apply zB|((first|apply zW| refine zf kYi ?_);simp only[go_sem])|apply jAi|exact zc0|intro _))
 refine zM (fun k:Nat=>⟨[(0,.ptr 1000000 0 0 0),(3,vi T.length),(4,vi k)],obE (((I,B,E),T,tu,le,sl),⟨p,q,l,st⟩,(cp,R,wr,lo),mo,sp,fi)⟩)
  (fun k=>k≤T.length∧∀i,i<T.length→i<k→kFt T tu i=false) (fun k=>T.length-k) 0 zs ?_
 intro k ⟨hk,hf⟩;by_cases hlt:k<T.length
 ·have hli:(k:Int)<T.length:=zo;have hnz:((T.length:Nat):Int)≠0:=zo;have hq0:0≤(tu+(k:Int)).tmod T.length:=vTb _ zo;have hq1:(tu+(k:Int)).tmod T.length<T.length:=vP8 _ zo;have hfi:=k3s (n:=T.length) (k:=k) (tu:=tu) ht0 zo hlt;obtain⟨j,hj⟩:=zN ((tu+(k:Int)).tmod T.length);have hjl:j<T.length:=zo;have hr:=kAa encMach T j hjl;have kNj:(j:Int)<T.length:=zo
  have hrun:kFt T tu k=decide (T[j].state=0):=by
   unfold kFt;rw[hj,jB2,jKz,jD9 hjl];rfl
  by_cases h:T[j].state=0
  ·have hh:kFt T tu k=true:=by rw[hrun,decide_eq_true h]
   have hc:=qDp hlt hf hj hh;have hstp:=hT.stp (jCn hjl) h;have hsame:=hT.same (jCn hjl);simp only at hsame;have kQx:(T.set j (stepS (I,B,E) T[j])).map encMach=(T.map encMach).set j (encMach (stepS (I,B,E) T[j])):=vDv;have hlen2:(T.set j (stepS (I,B,E) T[j])).length=T.length:=jP9;rw[k6r hjl hc];rw[hj]at hfi;generalize hst:stepS (I,B,E) T[j]=m2 at *;have hst:=hsame;generalize hmj:T[j]=m1 at *;obtain⟨a1,a2,a3,a4,a5,a6,a7⟩:=m1;obtain⟨b1,b2,b3,b4,b5,b6,b7⟩:=m2;simp only at h;subst h;by_cases hjt:(j:Int)=tu
   ·subst hjt;have hk0:((j:Int) != (j:Int))=false:=by simp
    rw[if_pos rfl];by_cases hz:le-1=0
    ·rw[if_pos hz]
     (repeat' (first|apply zS|apply zB|((first|apply zW| refine zd 17 ?_);simp only[go_sem,hli,hnz,hj,kNj,hr,encMach,hst,hk0,hz,kQx,jP9,jH5,jB2])|apply jAi|exact kQy|intro _))
    ·rw[if_neg hz]
     (repeat' (first|apply zS|apply zB|((first|apply zW| refine zd 17 ?_);simp only[go_sem,hli,hnz,hj,kNj,hr,encMach,hst,hk0,hz,kQx,jP9,jH5,jB2])|apply jAi|exact kQy|intro _))
   ·have hk0:¬(j:Int)=tu:=hjt;rw[if_neg hjt];by_cases hz:sl-1=0
    ·rw[if_pos hz]
     (repeat' (first|apply zS|apply zB|((first|apply zW| refine zd 17 ?_);simp only[go_sem,hli,hnz,hj,kNj,hr,encMach,hst,hk0,hz,kQx,jP9,jH5,jB2])|apply jAi|exact kQy|intro _))
    ·rw[if_neg hz]
     (repeat' (first|apply zS|apply zB|((first|apply zW| refine zd 17 ?_);simp only[go_sem,hli,hnz,hj,kNj,hr,encMach,hst,hk0,hz,kQx,jP9,jH5,jB2])|apply jAi|exact kQy|intro _))
  ·have hh:kFt T tu k=false:=by rw[hrun,decide_eq_false h]
   have hnx:∀i,i<T.length→i<k+1→kFt T tu i=false:=fun i hi hik=>by
    rcases jFx i k with h|h
    ·exact hf i hi h
    ·have:i=k:=zo;subst this;exact hh
   (repeat' (first|apply zS|apply zB|((first|apply zW| refine zd 17 ?_);simp only[go_sem,hli,hnz,hj,kNj,hr,encMach,h,jB2])|apply jAi|omega|exact hnz|exact⟨k+1,⟨zo,hnx⟩,zo,zh⟩|intro _))
 ·have hge:¬(k:Int)<T.length:=zo;have hc:=qAz hlt hf
  have e:kA0 ((I,B,E),T,tu,le,sl)=(((I,B,E),T,tu,le,sl),-1):=by
   unfold kA0;rw[if_pos (by simp only[hc];omega)]
  rw[e];exact zx1 17 hge
end
end
section
open Go.Vc Tryz
def kJi:FP:=⟨16,[fc [3] [] [6,54],fc [0] [] [6,54],fc [42] [1] [6,54],fc [43] [1,2] [6,54],fc [44] [1,2,3] [6,54],fc [45] [1,2,3,4] [6,54],fc [3] [] [6,54],fc [46,47] [1,2,3,4,5,6] [6,54],fc [48] [1,2,3,4,5,6,7] [6,54],fc [0] [] [6,54],fc [50] [9] [6,54],fc [51] [9,10] [6,54],fc [52] [9,10,11] [6,54],⟨[49,53],[1,2,3,4,5,6,7,8,9,10,11,12],[],[6],[],[54]⟩,fc [41,54] [0,1,2,3,4,5,6,7,8,9,10,11,12,13] [6],⟨[],[],[],[54],[],[6]⟩,fn 16],[6,41,42,43,44,45,46,47,48,49,50,51,52,53,54,55],[6,54],[]⟩
def kJj:FP:=⟨13,[fc [0] [] [66],fc [0] [] [66],fc [60] [1] [66],fc [61] [1,2] [66],fc [62] [1,2,3] [66],fc [6] [] [66],fc [64] [5] [66],⟨[63,65],[1,2,3,4,5,6],[],[],[],[66]⟩,fa [66] [1,2,3,4,5,6,7],fa [58] [1,2,3,4,5,6,7,8],fa [58] [1,2,3,4,5,6,7,8],fa [59] [0,1,2,3,4,5,6,7,8,9],fa [69] [0,1,2,3,4,5,6,7,8,9,11],fn 13],[58,59,60,61,62,63,64,65,66,67,68,69,70],[66],[]⟩
attribute [local go_sem] kJi kJj
attribute [local go_sem] bxE obE decE aggSe
@[go_sem] def kAdv:Ctr:=len [0] [] (fun _ obs=>decE obs) (fun _=>[.ptr 1000000 0 0 0]) (fun x=>obE x) (fun x=>∃k,k≤3000∧SnI k x) (fun _ x=>.v (.bool (kRp x).2)) (fun _ _=>[]) (fun x=>obE (kRp x).1)
theorem qMa {x:PcX}(h:kCj x.2.1 x.2.2.1<0):kA0 x=(x,-1):=by unfold kA0;rw[if_pos h]
theorem qIu {x:PcX}(h:¬kCj x.2.1 x.2.2.1<0):(kA0 x).2=kCj x.2.1 x.2.2.1:=by unfold kA0;rw[if_neg h]
section
attribute [local irreducible] kGl kFr kEc kEl kC2 kA0 kBd
def cxAdv:=kc cChosI (kc qCn (kc cTickI (kc cViewI (kc k9a (kc qCo (kc qOd (kc cTurI kn)))))))
set_option maxHeartbeats 6000000 in
theorem cAdvI:Cq 141 kAdv:=by
 refine zn fun d x hd hx=>?_
 obtain⟨k,hk0,hI⟩:=hx;have k0n:=hI.tur hk0;have hrg:kC2 x.2.2.1:=hI.rg.1;have hpo:kFa x.1=true:=hI.base.1;obtain⟨_,⟨⟨n0,n1⟩,⟨u0,u1⟩,_⟩,hms⟩:=hI.facts;have hsz:=fun t=>k2p (kW3 x.1 t x.2.2.2.1)
 have hadv:kTm x=((kA0 x.1).1,(tick x.2.1).1,(if(tick x.2.1).2=true then kQl x (kA0 x.1).2 else x.2.2.1),x.2.2.2.1,x.2.2.2.2.1+1,if(tick x.2.1).2=true then x.2.2.2.2.2+1 else x.2.2.2.2.2):=rfl
 have hrs:∀t,kQl x t=if(kF0 x.1 t x.2.2.2.1).2=true then(kDx x.2.2.1 (kE8 (kF0 x.1 t x.2.2.2.1).1)).1 else x.2.2.1:=fun t=>rfl
 have hcb:kJh x=true→(0≤x.2.2.2.2.1∧x.2.2.2.2.1≤1000000000000)∧0≤x.2.2.2.2.2∧x.2.2.2.2.2≤1000000000000:=fun h=>by
  unfold kJh at h;simp only[jBs,decide_eq_true_iff]at h;exact⟨h.1.1.1,h.1.1.2⟩
 have hct:kRp x=if kJh x=true∧0≤(kA0 x.1).2 then(kTm x,true)else(x,false):=rfl
 rw[hadv]at hct;have htk:∀t,kF0 x.1 t x.2.2.2.1=if kFa x.1=true∧0≤t∧t<x.1.2.1.length then(if kHi (t,kEv (x.1.2.1.getD t.toNat ⟨0,0,0,[],[],0,0⟩) x.2.2.2.1)=true then((t,kEv (x.1.2.1.getD t.toNat ⟨0,0,0,[],[],0,0⟩) x.2.2.2.1),true)else(zSm,false))else(zSm,false):=fun t=>rfl
 have hno:=@qMa x.1;have hyes:=@qIu x.1;have hcd:=@k4t x.1.2.1 x.1.2.2.1;obtain⟨⟨⟨I,B,E⟩,T,tu,le,sl⟩,⟨p,q,l,st⟩,⟨cp,R,wr,lo⟩,mo,sp,fi⟩:=x;simp only at hrg hpo n0 n1 u0 u1 hms hsz hrs hcb hct htk hno hyes hcd⊢;rw[hct];unfold obE bxE;refine zl cxAdv func141 rfl rfl ntmps141 ?_;intros;by_cases hc:kCj T tu<0
 ·rw[hno hc,if_neg (fun h=>by have:=h.2;omega)]
  (repeat' (first|apply zS|apply zB|((first|apply zW| refine zf kJi ?_|refine zfE 13 10 [] kJj ?_);simp only[go_sem,hc])|apply jAi|omega|rfl|exact⟨zo,zo,zo⟩|intro _))
 ·obtain⟨hb,_⟩:=hcd zo u0;have hy:=hyes hc;generalize hturn:kA0 ((I,B,E),T,tu,le,sl)=r at hy hct;obtain⟨rP,t⟩:=r;simp only at hy;subst hy;obtain⟨j,hj⟩:=zN (kCj T tu);rw[hj]at hc hb hturn hct⊢;have hjl:j<T.length:=zo
  cases hcn:kJh (((I,B,E),T,tu,le,sl),⟨p,q,l,st⟩,(cp,R,wr,lo),mo,sp,fi)with
  |false =>
   rw[if_neg (fun h=>by cases h.1)]
   (repeat' (first|apply zS|apply zB|((first|apply zW| refine zf kJi ?_|refine zfE 13 10 [] kJj ?_);simp only[go_sem,hj,hc,hcn])|apply jAi|omega|rfl|exact⟨zo,zo,zo⟩|intro _))
  |true =>
   have hcb:=hcb hcn;rw[if_pos ⟨rfl,by show(0:Int)≤(j:Nat);omega⟩]
   generalize kLj:tick ⟨p,q,l,st⟩=r2;obtain⟨⟨p',q',l',st'⟩,fr⟩:=r2;obtain⟨⟨rI,rB,rE⟩,rT,rtu,rle,rsl⟩:=rP
   cases fr with
   |false =>
    simp only[jIv,if_false]
    (repeat' (first|apply zS|apply zB|((first|refine WP.regionF (id:=11) [(0,[66])] ?_);simp only[go_sem,hj,hc,hcn,kLj,hturn])|((first|apply zW| refine zf kJi ?_|refine zfE 13 10 [] kJj ?_);simp only[go_sem,hj,hc,hcn,kLj,hturn])|apply jAi|omega|rfl|exact k0n|exact⟨zo,zo,zo⟩|intro _))
   |true =>
    simp only[if_true];have hr:=kAa encMach T j hjl;have hli:(j:Int)<T.length:=zo;have hg:T.getD (j:Int).toNat ⟨0,0,0,[],[],0,0⟩=T[j]:=by rw[jB2,jKz,jD9 hjl];rfl
    have htk:=htk j;rw[if_pos ⟨hpo,zo,hli⟩,hg]at htk;have hvl:=kVa T[j] mo
    have hml:T[j].stack.length≤4194304:=by
     obtain⟨c1,_⟩:=kIj.1 (hms _ (jCn hjl));omega
    rw[hrs];have hsz:=hsz j;generalize hV:kEv T[j] mo=V at htk hvl;obtain⟨vp,vs,vf,vw⟩:=V;generalize hM:T[j]=m1 at hr hml hV;obtain⟨a1,a2,a3,a4,a5,a6,a7⟩:=m1;simp only at hvl hml;have hvl':vw.length≤4194304:=zo;have hvl2:vw.length≤1048576:=zo
    cases hsm:kHi ((j:Int),⟨vp,vs,vf,vw⟩)with
    |false =>
     rw[hsm,if_neg zs]at htk;rw[htk];simp only[jIv,if_false]
     (repeat' (first|apply zS|apply zB|((first|refine WP.regionF (id:=11) [(0,[66])] ?_);simp only[go_sem,hj,hc,hcn,kLj,hturn,hr,hli,encMach,hV,hsm,jB2])|((first|apply zW| refine zf kJi ?_|refine zfE 13 10 [] kJj ?_);simp only[go_sem,hj,hc,hcn,kLj,hturn,hr,hli,encMach,hV,hsm,jB2])|apply jAi|omega|rfl|exact k0n|exact⟨zo,zo,zo⟩|exact hml|exact hvl'|intro _))
    |true =>
     rw[hsm,if_pos rfl]at htk;rw[htk]at hsz⊢;simp only[if_true]at hsz⊢;generalize henc:kE8 ((j:Int),⟨vp,vs,vf,vw⟩)=es at hsz;generalize hput:kDx (cp,R,wr,lo) es=r4;obtain⟨⟨cp2,R2,wr2,lo2⟩,ok2⟩:=r4;simp only
     (repeat' (first|apply zS|apply zB|((first|refine WP.regionF (id:=11) [(0,[66])] ?_);simp only[go_sem,hj,hc,hcn,kLj,hturn,hr,hli,encMach,hV,hsm,henc,hput,jB2])|((first|apply zW| refine zf kJi ?_|refine zfE 13 10 [] kJj ?_);simp only[go_sem,hj,hc,hcn,kLj,hturn,hr,hli,encMach,hV,hsm,henc,hput,jB2])|apply jAi|omega|rfl|exact k0n|exact⟨zo,zo,zo⟩|exact hml|exact hvl'|exact hvl2|exact⟨hrg,hsz⟩|intro _))
end
end
section
open Go.Vc
attribute [local go_sem] St.k1q St.kWg
attribute [local go_sem] bxE obE decE aggSe kHa kJk
theorem qAl {x:SeX}(hp:kEl x) (hs:kEc x):kJz x:=⟨hs.1,hp.2⟩
theorem qJ6 {e s:Nat}(L:List ByteArray):(Ob.sl e s (L.map encS)).isV↔True:=iff_true_intro (by
 intro row hr c hc;obtain⟨n,_,rfl⟩:=jCr.1 hr;simp only[encS,jDr,jJw,or_false]at hc;exact⟨_,hc⟩)
theorem qJ7 {e s:Nat}{rows:List (List SV)}:(Ob.dp e s rows).isV↔True:=iff_true_intro trivial
attribute [local go_sem] qJ6 qJ7
section
attribute [local irreducible] kGl kFr kEc kEl kC2 kA0 kBd
set_option maxHeartbeats 6000000 in
end
end
end Go.Proofs.YtjdklcjoeanimaaGreat
