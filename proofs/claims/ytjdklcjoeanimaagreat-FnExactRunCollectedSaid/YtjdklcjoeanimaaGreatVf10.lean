/- DERIVED. Steps of the proof. -/
import Derived.Test.YtjdklcjoeanimaaGreatVf9
set_option linter.all false
set_option maxHeartbeats 1000000
set_option maxRecDepth 10000
namespace Go.Proofs.YtjdklcjoeanimaaGreat
attribute [local irreducible] Go.Vc.WP
section
open Go.Vc Tryz
open Go.Pl
structure Mach where
 pc:Int
 sp:Int
 fp:Int
 stack:List Int
 out:List Int
 state:Int
 value:Int
deriving DecidableEq
def encMach (x:Mach):List SV:=[vi x.pc,vi x.sp,vi x.fp,.sl 1 (x.stack.map encI),.sl 1 (x.out.map encI),vi x.state,vi x.value]
def kFu:List SV→Mach
 | [.v (.int _ a),.v (.int _ b),.v (.int _ c),.sl _ s,.sl _ o,.v (.int _ d),.v (.int _ e)]=>⟨a,b,c,kBs s,kBs o,d,e⟩
 | _=>⟨0,0,0,[],[],0,0⟩
def kHg (rows:List (List SV)):List Mach:=rows.map kFu
theorem kZt (x:Mach):kFu (encMach x)=x:=by
 unfold kFu encMach;simp only[qMq]
@[go_sem] theorem qQ6 (L:List Mach):kHg (L.map encMach)=L:=by
 unfold kHg;rw[jRw];exact vFu kZt L
@[go_sem] theorem oneMach_f (a b c:Int) (s o:List Int) (d e:Int):kFu [vi a,vi b,vi c,.sl 1 (s.map encI),.sl 1 (o.map encI),vi d,vi e]=⟨a,b,c,s,o,d,e⟩:=kZt ⟨a,b,c,s,o,d,e⟩
@[go_sem] theorem mach_eta (x:Mach):(⟨x.pc,x.sp,x.fp,x.stack,x.out,x.state,x.value⟩:Mach)=x:=rfl
def kBo (x:Mach):Bool:=decide (x.stack.length=1200∧(0≤x.sp∧x.sp≤1200)∧0≤x.state∧x.state≤2)
@[go_sem] def qDj:Ctr:=pur (fun args=>kFu (aC args 0)) (fun x=>[.agg [vi x.pc,vi x.sp,vi x.fp,.sl 1 (x.stack.map encI),.sl 1 (x.out.map encI),vi x.state,vi x.value]]) (fun x=>x.stack.length≤4194304) (fun _ x=>.v (.bool (kBo x))) (fun _ _=>[])
section
def cxMoI:=kc c60 kn
theorem qAu:Cq 182 qDj:=by
 refine zp fun d x hx=>?_
 obtain⟨a,b,c,s,o,d2,e2⟩:=x;simp only at hx⊢
 have e:kBo ⟨a,b,c,s,o,d2,e2⟩=(((s.length:Int)==1200)&&(decide (0≤b)&&decide (b≤1200))&&(decide (0≤d2)&&decide (d2≤2))):=by
  unfold kBo;rw[wGj];simp only[decide_eq_true_eq,jBs,beq_iff_eq];omega
 rw[e];refine zg cxMoI func182 rfl rfl ntmps182 ?_;intros;by_cases h:(s.length:Int)=1200
 ·(repeat' (first|apply zS|apply zB|(apply zW;simp only[go_sem,h])|apply jAi|exact zc2|intro _))
 ·have h':((s.length:Int)==1200)=false:=beq_eq_false_iff_ne.2 h;rw[h',jK2,jK2]
  (repeat' (first|apply zS|apply zB|(apply zW;simp only[go_sem,h])|apply jAi|omega|rfl|(simp only[h',jK2];done)|intro _))
end
section
def cxMoS:=kc c58 kn
theorem qAv:Cq 156 qDj:=by
 refine zp fun d x hx=>?_
 obtain⟨a,b,c,s,o,d2,e2⟩:=x;simp only at hx⊢
 have e:kBo ⟨a,b,c,s,o,d2,e2⟩=(((s.length:Int)==1200)&&(decide (0≤b)&&decide (b≤1200))&&(decide (0≤d2)&&decide (d2≤2))):=by
  unfold kBo;rw[wGj];simp only[decide_eq_true_eq,jBs,beq_iff_eq];omega
 rw[e];refine zg cxMoS func156 rfl rfl ntmps156 ?_;intros;by_cases h:(s.length:Int)=1200
 ·(repeat' (first|apply zS|apply zB|(apply zW;simp only[go_sem,h])|apply jAi|exact zc2|intro _))
 ·have h':((s.length:Int)==1200)=false:=beq_eq_false_iff_ne.2 h;rw[h',jK2,jK2]
  (repeat' (first|apply zS|apply zB|(apply zW;simp only[go_sem,h])|apply jAi|omega|rfl|(simp only[h',jK2];done)|intro _))
end
abbrev PcX:=(List Image×List Int×List Int)×List Mach×Int×Int×Int
@[go_sem] def pcA (args:List SV) (i:Nat):PcX:=match args[i]? with
 |some (.agg [.sl _ a,.sl _ b,.sl _ c,.sl _ t,.v (.int _ x),.v (.int _ y),.v (.int _ z)])=>((kDf a,kBs b,kBs c),kHg t,x,y,z)
 | _=>(([],[],[]),[],0,0,0)
def kFa (x:PcX):Bool:=kAo x.1.1 x.1.2.1 x.1.2.2&&decide ((1≤x.2.1.length∧x.2.1.length≤3)∧(0≤x.2.2.1∧x.2.2.1≤(x.2.1.length:Int)-1)∧(1≤x.2.2.2.2∧x.2.2.2.2≤1000)∧1≤x.2.2.2.1∧x.2.2.2.1≤x.2.2.2.2)&&x.2.1.all kBo
def kGl (x:PcX):Prop:=kEk x.1∧x.2.1.length≤4194304∧∀m∈x.2.1,m.stack.length≤4194304
@[go_sem] def kPcOk:Ctr:=pur (fun args=>pcA args 0) (fun x=>[.agg [.sl 2 (x.1.1.map encImage),.sl 1 (x.1.2.1.map encI),.sl 1 (x.1.2.2.map encI),.sl 7 (x.2.1.map encMach),vi x.2.2.1,vi x.2.2.2.1,vi x.2.2.2.2]]) kGl (fun _ x=>.v (.bool (kFa x))) (fun _ _=>[])
section
def cxPoI:=kc c60 (kc k9d (kc qAu kn))
theorem kF3 {p:Prop}(h:p:=by first|omega|exact hIm _ ‹_›|exact(hIm _ ‹_›).1|exact(hIm _ ‹_›).2.1|exact(hIm _ ‹_›).2.2 _ ‹_›|rfl):p:=h
theorem k3m {p:Prop}(h:p:=by first|omega|exact hIm _ ‹_›|exact(hIm _ ‹_›).1|exact(hIm _ ‹_›).2.1|exact(hIm _ ‹_›).2.2 _ ‹_›):p:=h
set_option maxHeartbeats 3000000 in
theorem cPcOkI:Cq 105 kPcOk:=by
 refine zp fun d x hx=>?_
 obtain⟨⟨I,B,E⟩,T,tu,le,sl⟩:=x;obtain⟨hsp,hT,hTs⟩:=hx;have hsp2:=hsp;obtain⟨⟨hI,hIm⟩,hB,hE⟩:=hsp2;simp only at hT hTs hI hIm hB hE⊢;have mod:kFa ((I,B,E),T,tu,le,sl)=(kAo I B E&&decide ((1≤T.length∧T.length≤3)∧(0≤tu∧tu≤(T.length:Int)-1)∧(1≤sl∧sl≤1000)∧1≤le∧le≤sl)&&T.all kBo):=rfl;rw[mod];refine zg cxPoI func105 rfl rfl ntmps105 ?_;intros
 cases hso:kAo I B E with
 |false =>
  (repeat' (first|apply zS|apply zB|(apply zW;simp only[go_sem,hso])|apply jAi|exact kF3|intro _))
 |true =>
 by_cases hc:(1≤T.length∧T.length≤3)∧(0≤tu∧tu≤(T.length:Int)-1)∧(1≤sl∧sl≤1000)∧1≤le∧le≤sl;rotate_left
 ·rw[decide_eq_false hc,jPt,jK2];by_cases c1:((1:Int)≤T.length∧(T.length:Int)≤3)
  ·by_cases c2:0≤tu∧tu≤(T.length:Int)-1
   ·by_cases c3:1≤sl∧sl≤1000
    ·have c4:(decide (1≤le)&&decide (le≤sl))=false:=by rw[←vBz];exact decide_eq_false fun h=>hc ⟨zo,c2,c3,h⟩
     (repeat' (first|apply zS|apply zB|(apply zW;simp only[go_sem,hso,c1,c2,c3,c4])|apply jAi|exact kF3|intro _))
    ·have c3':(decide (1≤sl)&&decide (sl≤1000))=false:=by rw[←vBz];exact decide_eq_false c3
     (repeat' (first|apply zS|apply zB|(apply zW;simp only[go_sem,hso,c1,c2,c3'])|apply jAi|exact kF3|intro _))
   ·have c2':(decide (0≤tu)&&decide (tu≤(T.length:Int)-1))=false:=by rw[←vBz];exact decide_eq_false c2
    (repeat' (first|apply zS|apply zB|(apply zW;simp only[go_sem,hso,c1,c2'])|apply jAi|exact kF3|intro _))
  ·have c1':(decide ((1:Int)≤T.length)&&decide ((T.length:Int)≤3))=false:=by rw[←vBz];exact decide_eq_false c1
   (repeat' (first|apply zS|apply zB|(apply zW;simp only[go_sem,hso,c1'])|apply jAi|exact kF3|intro _))
 rw[decide_eq_true hc,jXj,jPw];obtain⟨⟨a1,a2⟩,⟨a3,a4⟩,⟨a5,a6⟩,a7,a8⟩:=hc;have a1i:(1:Int)≤T.length:=zo;have a2i:(T.length:Int)≤3:=zo
 (repeat' (first|apply zS|apply zB|(apply zW;simp only[go_sem,hso,a1i,a2i,a3,a4,a5,a6,a7,a8])|apply jAi|exact k3m|intro _))
 refine zM (fun k:Nat=>⟨[(41,.sl 7 (T.map encMach)),(42,vi T.length),(43,vi k)],[]⟩)
  (fun k=>k≤T.length∧∀i (hi:i<T.length),i<k→kBo T[i]=true) (fun k=>T.length-k) 0 zs ?_
 intro k ⟨hk,hf⟩;by_cases hlt:k<T.length
 ·have hli:(k:Int)<T.length:=zo;have hr:=kAa encMach T k hlt;have hst:=hTs _ (jCn hlt)
  cases hm:kBo T[k]with
  |false =>
   have ha:T.all kBo=false:=vMt.2 ⟨_,jCn hlt,by rw[hm];simp⟩
   rw[ha]
   exact zx (z4 hli hr encMach.eq_1 hm)
  |true =>
   (repeat' (first|apply zS|apply zB|(apply zW;simp only[go_sem,hli,hr,encMach,hm])|apply jAi|intro _))
   all_goals first|omega|exact⟨k+1,⟨zo,fun i hi hik=>by
    rcases jFx i k with h|h
    ·exact hf i hi h
    ·have:i=k:=zo;subst this;exact hm⟩,zo,zh⟩|skip
 ·have hge:¬(k:Int)<T.length:=zo
  have ha:T.all kBo=true:=jDl.2 fun m hm=>by
   obtain⟨i,hi,rfl⟩:=jWa.1 hm;exact hf i hi zo
  rw[ha];exact zx hge
end
section
def cxPoS:=kc c58 (kc k9f (kc qAv kn))
set_option maxHeartbeats 3000000 in
theorem qAw:Cq 81 kPcOk:=by
 refine zp fun d x hx=>?_
 obtain⟨⟨I,B,E⟩,T,tu,le,sl⟩:=x;obtain⟨hsp,hT,hTs⟩:=hx;have hsp2:=hsp;obtain⟨⟨hI,hIm⟩,hB,hE⟩:=hsp2;simp only at hT hTs hI hIm hB hE⊢;have mod:kFa ((I,B,E),T,tu,le,sl)=(kAo I B E&&decide ((1≤T.length∧T.length≤3)∧(0≤tu∧tu≤(T.length:Int)-1)∧(1≤sl∧sl≤1000)∧1≤le∧le≤sl)&&T.all kBo):=rfl;rw[mod];refine zg cxPoS func81 rfl rfl ntmps81 ?_;intros
 cases hso:kAo I B E with
 |false =>
  (repeat' (first|apply zS|apply zB|(apply zW;simp only[go_sem,hso])|apply jAi|exact kF3|intro _))
 |true =>
 by_cases hc:(1≤T.length∧T.length≤3)∧(0≤tu∧tu≤(T.length:Int)-1)∧(1≤sl∧sl≤1000)∧1≤le∧le≤sl;rotate_left
 ·rw[decide_eq_false hc,jPt,jK2];by_cases c1:((1:Int)≤T.length∧(T.length:Int)≤3)
  ·by_cases c2:0≤tu∧tu≤(T.length:Int)-1
   ·by_cases c3:1≤sl∧sl≤1000
    ·have c4:(decide (1≤le)&&decide (le≤sl))=false:=by rw[←vBz];exact decide_eq_false fun h=>hc ⟨zo,c2,c3,h⟩
     (repeat' (first|apply zS|apply zB|(apply zW;simp only[go_sem,hso,c1,c2,c3,c4])|apply jAi|exact kF3|intro _))
    ·have c3':(decide (1≤sl)&&decide (sl≤1000))=false:=by rw[←vBz];exact decide_eq_false c3
     (repeat' (first|apply zS|apply zB|(apply zW;simp only[go_sem,hso,c1,c2,c3'])|apply jAi|exact kF3|intro _))
   ·have c2':(decide (0≤tu)&&decide (tu≤(T.length:Int)-1))=false:=by rw[←vBz];exact decide_eq_false c2
    (repeat' (first|apply zS|apply zB|(apply zW;simp only[go_sem,hso,c1,c2'])|apply jAi|exact kF3|intro _))
  ·have c1':(decide ((1:Int)≤T.length)&&decide ((T.length:Int)≤3))=false:=by rw[←vBz];exact decide_eq_false c1
   (repeat' (first|apply zS|apply zB|(apply zW;simp only[go_sem,hso,c1'])|apply jAi|exact kF3|intro _))
 rw[decide_eq_true hc,jXj,jPw];obtain⟨⟨a1,a2⟩,⟨a3,a4⟩,⟨a5,a6⟩,a7,a8⟩:=hc;have a1i:(1:Int)≤T.length:=zo;have a2i:(T.length:Int)≤3:=zo
 (repeat' (first|apply zS|apply zB|(apply zW;simp only[go_sem,hso,a1i,a2i,a3,a4,a5,a6,a7,a8])|apply jAi|exact k3m|intro _))
 refine zM (fun k:Nat=>⟨[(1,.ptr 1 0 0 0),(3,vi k)],[(1,.box 54 [.sl 2 (I.map encImage),.sl 1 (B.map encI),.sl 1 (E.map encI),.sl 7 (T.map encMach),vi tu,vi le,vi sl])]⟩)
  (fun k=>k≤T.length∧∀i (hi:i<T.length),i<k→kBo T[i]=true) (fun k=>T.length-k) 0 zs ?_
 intro k ⟨hk,hf⟩;by_cases hlt:k<T.length
 ·have hli:(k:Int)<T.length:=zo;have hr:=kAa encMach T k hlt;have hst:=hTs _ (jCn hlt)
  cases hm:kBo T[k]with
  |false =>
   have ha:T.all kBo=false:=vMt.2 ⟨_,jCn hlt,by rw[hm];simp⟩
   rw[ha]
   exact zx (z4 hli hr encMach.eq_1 hm)
  |true =>
   (repeat' (first|apply zS|apply zB|(apply zW;simp only[go_sem,hli,hr,encMach,hm])|apply jAi|intro _))
   all_goals first|omega|exact⟨k+1,⟨zo,fun i hi hik=>by
    rcases jFx i k with h|h
    ·exact hf i hi h
    ·have:i=k:=zo;subst this;exact hm⟩,zo,zh⟩|skip
 ·have hge:¬(k:Int)<T.length:=zo
  have ha:T.all kBo=true:=jDl.2 fun m hm=>by
   obtain⟨i,hi,rfl⟩:=jWa.1 hm;exact hf i hi zo
  rw[ha];exact zx hge
end
end
section
open Go.Vc Tryz
def kOm:FP:=⟨17,[⟨[2],[],[25],[25,35],[],[]⟩,⟨[19],[0],[25],[25,35],[],[]⟩,⟨[2],[],[25],[25,35],[],[]⟩,⟨[21],[2],[25],[25,35],[],[]⟩,⟨[2],[],[25],[25,35],[],[]⟩,⟨[23],[4],[25],[25,35],[],[]⟩,⟨[],[],[],[35],[],[25]⟩,fc [2] [] [25,35],fc [26] [7] [25,35],fc [2] [] [25,35],fc [28] [9] [25,35],fc [2] [] [25,35],fc [30] [11] [25,35],fc [5] [] [25,35],fc [31,32] [11,12,13] [25,35],fc [27,29,33] [7,8,9,10,11,12,13,14] [25,35],⟨[25,34],[6,7,8,9,10,11,12,13,14,15],[],[],[25],[35]⟩,fn 17,fn 18],[19,20,21,22,23,24,25,26,27,28,29,30,31,32,33,34,35],[25,35],[25]⟩
def kHr:FP:=⟨12,[fa [2] [],fa [19] [0],fa [2] [],fa [21] [2],fa [2] [],fa [23] [4],fa [5] [],fa [1] [],fa [5] [],fa [27] [8],fa [26,28] [7,8,9],fa [25,29] [6,7,8,9,10],fn 12,fn 13,fn 14],[19,20,21,22,23,24,25,26,27,28,29,30],[],[]⟩
attribute [local go_sem] kOm kHr
def kEv (m:Mach) (most:Int):Vw:=if kBo m=true∧0≤most then⟨m.pc,m.sp,m.fp,(m.stack.drop m.sp.toNat).take (min most (1200-m.sp)).toNat⟩else⟨0,0,0,[]⟩
@[go_sem] def qDq:Ctr:=pur (fun args=>(kFu (aC args 0),aI args 1)) (fun x=>[.agg [vi x.1.pc,vi x.1.sp,vi x.1.fp,.sl 1 (x.1.stack.map encI),.sl 1 (x.1.out.map encI),vi x.1.state,vi x.1.value],vi x.2]) (fun x=>x.1.stack.length≤4194304)
 (fun d x=>.agg [vi ((kEv x.1 x.2).pc),vi ((kEv x.1 x.2).sp),vi ((kEv x.1 x.2).fp),.own d]) (fun d x=>[(d,.sl 3 1 ((kEv x.1 x.2).words.map encI))])
theorem qNg {s:List Int}{b most:Int}(h0:0≤b) (h1:b≤1200) (h2:0≤most) :
  (((s.map encI).take (b+if 1200-b<most then 1200-b else most).toNat).drop b.toNat)=((s.drop b.toNat).take (min most (1200-b)).toNat).map encI:=by
 rw[List.drop_take,vK9,vRr];congr 1;split<;>omega
section
def cxVfS:=kc qAv kn
theorem kYj {p:Prop}(h:p:=by first|omega|rfl|exact⟨_,_,rfl,_,_,rfl,rfl⟩|(simp only[jH5];omega)|(obtain⟨n,_,rfl⟩:=jCr.1 ‹_›;rfl)|(split<;>omega)):p:=h
theorem cViewS:Cq 248 qDq:=by
 refine zp fun d x hx=>?_
 obtain⟨⟨a,b,c,s,o,e,v⟩,most⟩:=x;simp only at hx⊢;refine zg cxVfS func248 rfl rfl ntmps248 ?_;intros
 cases hok:kBo ⟨a,b,c,s,o,e,v⟩with
 |false =>
  have hv:kEv ⟨a,b,c,s,o,e,v⟩ most=⟨0,0,0,[]⟩:=if_neg (by rw[hok];simp)
  rw[hv]
  (repeat' (first|apply zS|apply zB|((first|apply zW| refine zf kOm ?_);simp only[go_sem,hok])|apply jAi|exact zc6|intro _))
 |true =>
  have hb:=of_decide_eq_true hok;simp only at hb;by_cases hm:most<0
  ·have hv:kEv ⟨a,b,c,s,o,e,v⟩ most=⟨0,0,0,[]⟩:=if_neg (by rw[hok];simp;omega)
   rw[hv]
   (repeat' (first|apply zS|apply zB|((first|apply zW| refine zf kOm ?_);simp only[go_sem,hok,hm])|apply jAi|exact zc6|intro _))
  ·have hv:kEv ⟨a,b,c,s,o,e,v⟩ most=⟨a,b,c,(s.drop b.toNat).take (min most (1200-b)).toNat⟩:=if_pos ⟨hok,zo⟩;rw[hv];have hlen:((s.drop b.toNat).take (min most (1200-b)).toNat).length≤1200:=by simp;omega
   have hcut:=@qNg s b most hb.2.1.1 hb.2.1.2 zo
   (repeat' (first|apply zS|apply zB|((first|apply zW| refine zf kOm ?_);simp only[go_sem,hok,hm,hcut])|apply jAi|exact kYj|intro _))
@[go_sem] def kCpVw:Ctr:=pur (fun args=>vwA args 0) (fun x=>[.agg [vi x.pc,vi x.sp,vi x.fp,.sl 1 (x.words.map encI)]]) (fun x=>x.words.length≤4194304)
 (fun d x=>.agg [vi x.pc,vi x.sp,vi x.fp,.own d]) (fun d x=>[(d,.sl 3 1 (x.words.map encI))])
def cxCvI:=COk.nil Tryz.prog
theorem qKu:Cq 250 kCpVw:=by
 refine zp fun d x hx=>?_
 obtain⟨a,b,c,w⟩:=x;simp only at hx⊢;refine zg cxCvI func250 rfl rfl ntmps250 ?_;intros;exact zx trivial
def cxVfI:=kc qAu (kc qKu kn)
theorem cViewI:Cq 212 qDq:=by
 refine zp fun d x hx=>?_
 obtain⟨⟨a,b,c,s,o,e,v⟩,most⟩:=x;simp only at hx⊢;refine zg cxVfI func212 rfl rfl ntmps212 ?_;intros
 cases hok:kBo ⟨a,b,c,s,o,e,v⟩with
 |false =>
  have hv:kEv ⟨a,b,c,s,o,e,v⟩ most=⟨0,0,0,[]⟩:=if_neg (by rw[hok];simp)
  rw[hv]
  (repeat' (first|apply zS|apply zB|((first|apply zW| refine zfZ [5] kHr ?_|refine zf kHr ?_);simp only[go_sem,hok])|apply jAi|exact zc6|intro _))
 |true =>
  have hb:=of_decide_eq_true hok;simp only at hb;by_cases hm:most<0
  ·have hv:kEv ⟨a,b,c,s,o,e,v⟩ most=⟨0,0,0,[]⟩:=if_neg (by rw[hok];simp;omega)
   rw[hv]
   (repeat' (first|apply zS|apply zB|((first|apply zW| refine zfZ [5] kHr ?_|refine zf kHr ?_);simp only[go_sem,hok,hm])|apply jAi|exact zc6|intro _))
  ·have hv:kEv ⟨a,b,c,s,o,e,v⟩ most=⟨a,b,c,(s.drop b.toNat).take (min most (1200-b)).toNat⟩:=if_pos ⟨hok,zo⟩;rw[hv];have hd:(s.map encI).drop b.toNat=(s.drop b.toNat).map encI:=(vRr ..).symm;have hDl:((s.drop b.toNat).length:Int)=1200-b:=by rw[jSz];omega
   have ht:((s.drop b.toNat).map encI).take (if 1200-b<most then 1200-b else most).toNat=((s.drop b.toNat).take (min most (1200-b)).toNat).map encI:=by
    rw[vK9];congr 1;split<;>omega
   have hWl:((s.drop b.toNat).take (min most (1200-b)).toNat).length≤1200:=by rw[jOb];omega
   generalize(s.drop b.toNat).take (min most (1200-b)).toNat=W at ht hWl;generalize s.drop b.toNat=D at hd hDl ht
   (repeat' (first|apply zS|apply zB|((first|apply zW| refine zfZ [5] kHr ?_|refine zf kHr ?_);simp only[go_sem,hok,hm,hd,hDl,ht,jH5])|apply jAi|exact kYj|intro _))
end
end
end Go.Proofs.YtjdklcjoeanimaaGreat
namespace Go.Vc
def kUf (kAb:List (Nat×Ob)):SV→SV
 | .own id=>match lk id kAb with
  |some (.sl _ s rows)=>.sl s rows
  | _=>.kAh
 | .v x=>.v x
 | .sl s rows=>.sl s rows
 | _=>.kAh
theorem Holds.frz {P:Program}{f:FuncId}{args:List SV}{res:SV}{kAb:List (Nat×Ob)}(h:Holds P f args res kAb) (hv:∀id e s rows,lk id kAb=some (.sl e s rows)→kMc rows):Holds P f args (res.up (kUf kAb)) []:=by
 intro w X vs hG hX hl ha;refine(h w X vs hG hX hl ha).mono fun en w' ⟨v,β,he,hb,hβ,hR,hO,hn⟩=>?_
 refine⟨v,β,he,hb,hβ,?_,⟨fun id ob hi=>(by cases hi),fun i j oi oj b hi=>(by cases hi)⟩,fun id ob b hi=>(by cases hi)⟩
 have hS:Same (XX X β kAb) w' w':=⟨jDu _,fun _ _ _=>rfl⟩
 refine hR.up fun x u hx=>?_
 cases x with
 |own id =>
  have:=hx.kB9;subst this;simp only[kUf];split
  ·rename_i e s rows hlk;refine .p ((hO.1 id _ hlk).toSl (fun b hb' hx=>?_) (hv id e s rows hlk))
   have h1:=hn id _ b hlk hb';rcases hx with hx|⟨i,o,hi,_⟩
   ·have:=hX b hx;omega
   ·cases hi
  ·exact .kAh _
 |v y=>have:=hx.kAn;subst this;exact .p (.v _)
 |sl s rows=>exact .p (hx.kF4.mono hS (fun b _ hx=>by
   rcases hx with hx|⟨i,o,hi,_⟩
   ·exact .inl hx
   ·cases hi))
 | _=>exact .kAh _
theorem Cn.frz {P:Program}{f:FuncId}{X:Type}{dec:List SV→X}{A:X→List SV}{pre:X→Prop}{res:Nat→X→SV}{kAb:Nat→X→List (Nat×Ob)}{res':X→SV}
  (h:Cn P f (Go.Vc.pur dec A pre res kAb)) (hv:∀d x id e s rows,lk id (kAb d x)=some (.sl e s rows)→kMc rows) (he:∀d x,(res d x).up (kUf (kAb d x))=res' x):Cn P f (Go.Vc.pur dec A pre (fun _ x=>res' x) (fun _ _=>[])) :=
 ⟨h.call,fun d args ha=>(by have:=(h.holds d args ha).frz (hv d _);rw[show((Go.Vc.pur dec A pre res kAb).pure d args).2.1=res d (dec args)from rfl,show((Go.Vc.pur dec A pre res kAb).pure d args).2.2=kAb d (dec args)from rfl,he]at this;exact this),fun _ _ _ h=>h.elim⟩
end Go.Vc
namespace Go.Proofs.YtjdklcjoeanimaaGreat
section
open Go.Vc Tryz
attribute [local irreducible] Go.Vc.WP
open Go.Pl
theorem kO3 {v:Vw}:kE1 v=true↔(0≤v.sp∧v.sp≤1200)∧(v.words.length:Int)≤1200-v.sp:=by unfold kE1;exact decide_eq_true_iff
@[go_sem] def qKt:Ctr:=pur (fun args=>(vwA args 0,aI args 1)) (fun x=>[.agg [vi x.1.pc,vi x.1.sp,vi x.1.fp,.sl 1 (x.1.words.map encI)],vi x.2]) (fun x=>x.1.words.length≤4194304)
 (fun _ x=>.tup [vi (((kCo x.1 x.2).getD 0)),.v (.bool (kCo x.1 x.2).isSome)]) (fun _ _=>[])
section
def cxWoS:=kc qA0 (kc c58 kn)
theorem qQy:Cq 223 qKt:=by
 refine zp fun d x hx=>?_
 obtain⟨⟨a,b,c,w⟩,n⟩:=x;simp only at hx⊢;refine zg cxWoS func223 rfl rfl ntmps223 ?_;intros
 cases hok:kE1 ⟨a,b,c,w⟩with
 |false =>
  have e:kCo ⟨a,b,c,w⟩ n=none:=if_neg (by rw[hok];simp)
  rw[e]
  exact zx hok
 |true =>
  have hb:=kO3.1 hok;simp only at hb;by_cases h:b≤n∧n≤b+(w.length:Int)-1
  ·have e:kCo ⟨a,b,c,w⟩ n=some (w.getD (n-b).toNat 0):=if_pos ⟨hok,h.1,h.2⟩;rw[e];have e0:=kNl h;obtain⟨k,hk⟩:=zN (n-b);have hlt:k<w.length:=zo;have hli:(k:Int)<w.length:=zo;have g:=kAa encI w k hlt;rw[hk,jB2,kA9 hlt];exact zx (z6 hok e0 hk hli g encI.eq_1)
  ·have e:kCo ⟨a,b,c,w⟩ n=none:=if_neg fun hh=>h ⟨hh.2.1,hh.2.2⟩
   rw[e];have e0:=kNk h;exact zx (z2 hok e0)
def cxWoI:=kc qA1 (kc c60 kn)
theorem qQz:Cq 236 qKt:=by
 refine zp fun d x hx=>?_
 obtain⟨⟨a,b,c,w⟩,n⟩:=x;simp only at hx⊢;refine zg cxWoI func236 rfl rfl ntmps236 ?_;intros
 cases hok:kE1 ⟨a,b,c,w⟩with
 |false =>
  have e:kCo ⟨a,b,c,w⟩ n=none:=if_neg (by rw[hok];simp)
  rw[e]
  exact zx hok
 |true =>
  have hb:=kO3.1 hok;simp only at hb;by_cases h:b≤n∧n≤b+(w.length:Int)-1
  ·have e:kCo ⟨a,b,c,w⟩ n=some (w.getD (n-b).toNat 0):=if_pos ⟨hok,h.1,h.2⟩;rw[e];have e0:=kNl h;obtain⟨k,hk⟩:=zN (n-b);have hlt:k<w.length:=zo;have hli:(k:Int)<w.length:=zo;have g:=kAa encI w k hlt;rw[hk,jB2,kA9 hlt];exact zx (z6 hok e0 hk hli g encI.eq_1)
  ·have e:kCo ⟨a,b,c,w⟩ n=none:=if_neg fun hh=>h ⟨hh.2.1,hh.2.2⟩
   rw[e];have e0:=kNk h;exact zx (z2 hok e0)
end
@[go_sem] def kMoved:Ctr:=pur (fun args=>(vwA args 0,aI args 1,aI args 2,aI args 3)) (fun x=>[.agg [vi x.1.pc,vi x.1.sp,vi x.1.fp,.sl 1 (x.1.words.map encI)],vi x.2.1,vi x.2.2.1,vi x.2.2.2]) (fun x=>x.1.words.length≤4194304∧0≤x.2.2.1-x.1.sp∧x.2.2.1-x.1.sp≤x.1.words.length)
 (fun d x=>.agg [vi x.2.1,vi x.2.2.1,vi x.2.2.2,.own d]) (fun d x=>[(d,.sl 3 1 ((x.1.words.drop (x.2.2.1-x.1.sp).toNat).map encI))])
section
def cxMovI:=kc qKu kn
theorem qQ0:Cq 237 kMoved:=by
 refine zp fun d x hx=>?_
 obtain⟨⟨a,b,c,w⟩,pc,sp,fp⟩:=x;obtain⟨hw,h0,h1⟩:=hx;simp only at hw h0 h1⊢;refine zg cxMovI func237 rfl rfl ntmps237 ?_;intros;have hm:(if(w.length:Int)<sp-b then(w.length:Int)else sp-b)=sp-b:=if_neg zo
 have hd:(w.map encI).drop (sp-b).toNat=(w.drop (sp-b).toNat).map encI:=(vRr ..).symm;have hl:(w.drop (sp-b).toNat).length≤4194304:=by rw[jSz];omega
 generalize w.drop (sp-b).toNat=W at hd hl;exact zx (z2 hm hd)
end
end
section
open Go.Vc Go.Pl
def okN (n:Int):Prop:=-4398046511104≤n∧n≤4398046511104
def kHj (v:Vw):Prop:=okN v.pc∧okN v.sp∧okN v.fp∧v.words.length≤4194304∧∀w∈v.words,okN w
abbrev kFs:=List Image×List Int×List Int
def kK4 (S:kFs) (R:List (List Rule)) (v:Vw) (a:Int):Option Vw :=
 if kAo S.1 S.2.1 S.2.2=true∧kE1 v=true∧R.length=2 then
  if kAm S.1 S.2.1 a<0 then none else
   if kD4 (R.getD (kAm S.1 S.2.1 a).toNat []) (a-S.2.1.getD (kAm S.1 S.2.1 a).toNat 0)<0 then none else
    let r:=(R.getD (kAm S.1 S.2.1 a).toNat []).getD (kD4 (R.getD (kAm S.1 S.2.1 a).toNat []) (a-S.2.1.getD (kAm S.1 S.2.1 a).toNat 0)).toNat kGj
    if r.frame=true then
     match kCo v v.fp,kCo v (v.fp+1)with
     |some f,some pc=>some ⟨pc,v.fp+2,f,v.words.drop (v.fp+2-v.sp).toNat⟩
     | _,_=>none
    else
     match kCo v (v.sp+r.depth)with
     |some pc=>some ⟨pc,v.sp+r.depth+1,v.fp,v.words.drop (r.depth+1).toNat⟩
     |none=>none
 else none
theorem qOc (S:kFs) (R:List (List Rule)) (v:Vw) (inner:Bool):kG7 S R v inner=kK4 S R v (if inner=true then v.pc else v.pc-1):=rfl
theorem kLi {S:kFs}{R:List (List Rule)}{v:Vw}{a:Int}(h:¬(kAo S.1 S.2.1 S.2.2=true∧kE1 v=true∧R.length=2)):kK4 S R v a=none:=if_neg h
theorem kO8 {S:kFs}{R:List (List Rule)}{v:Vw}{a:Int}(h:kAm S.1 S.2.1 a<0):kK4 S R v a=none:=by
 unfold kK4;split
 ·first|rw[if_pos h]|rfl
 ·rfl
theorem kPw {S:kFs}{R:List (List Rule)}{v:Vw}{a:Int}{k:Nat}(hk:kAm S.1 S.2.1 a=k) (h:kD4 (R.getD k []) (a-S.2.1.getD k 0)<0):kK4 S R v a=none:=by
 unfold kK4;split
 ·rw[hk,jB2,if_neg zo,if_pos h]
 ·rfl
theorem kPx {S:kFs}{R:List (List Rule)}{v:Vw}{a:Int}{k j:Nat}(h:kAo S.1 S.2.1 S.2.2=true∧kE1 v=true∧R.length=2) (hk:kAm S.1 S.2.1 a=k) (hj:kD4 (R.getD k []) (a-S.2.1.getD k 0)=j) :
  kK4 S R v a=(if((R.getD k []).getD j kGj).frame=true then
     match kCo v v.fp,kCo v (v.fp+1)with
     |some f,some pc=>some ⟨pc,v.fp+2,f,v.words.drop (v.fp+2-v.sp).toNat⟩
     | _,_=>none
    else
     match kCo v (v.sp+((R.getD k []).getD j kGj).depth)with
     |some pc=>some ⟨pc,v.sp+((R.getD k []).getD j kGj).depth+1,v.fp,v.words.drop (((R.getD k []).getD j kGj).depth+1).toNat⟩
     |none=>none):=by
 unfold kK4;rw[if_pos h,hk,jB2,if_neg zo,hj,jB2,if_neg zo]
theorem kJx {I:List Image}{B E:List Int}(h:kAo I B E=true):I.length=2∧B.length=2∧1≤E.length∧E.length≤6:=by
 refine Classical.byContradiction fun hn=>?_
 rw[k88 hn]at h;cases h
theorem kMu {I:List Image}{B E:List Int}(h:kAo I B E=true):∀i,i<2→1≤B.getD i 0∧B.getD i 0≤1000000:=by
 have hi:kFf I B 2=true:=by
  cases hi:kFf I B 2 with
  |true=>rfl
  |false=>rw[kW2 hi]at h;cases h
 unfold kFf at hi;rw[jDl]at hi;intro i hi2;have:=hi i (jKi.2 hi2);rw[jBs]at this;exact of_decide_eq_true this.2
theorem qFd {I:List Image}{B E:List Int}(h:kAo I B E=true):∀b∈B,1≤b∧b≤1000000:=by
 intro b hb;obtain⟨i,hi,rfl⟩:=jWa.1 hb;have:=kMu h i (by have:=(kJx h).2.1;omega)
 rwa [jKz,jD9 hi]at this
theorem kRq {I:List Image}{B E:List Int}(h:kAo I B E=true) {a:Int}(ha:a≤0):kAm I B a<0:=by
 have hn:kAm I B a=-1:=firstIdx_none fun i hi=>by
  have hi2:i<2:=by have:=(kJx h).1;rw[yGv]at hi;omega
  rw[vBf];unfold kC3;have:=kMu h i hi2;rw[decide_eq_false zo,jK2]
 omega
theorem kK1 {I:List Image}{B E:List Int}(h:kAo I B E=true) {a:Int}(ha:¬kAm I B a<0):∃k:Nat,kAm I B a=k∧k<2:=by
 have h1:=k4v I B a;have h2:=(kJx h).1;exact⟨(kAm I B a).toNat,zo,zo⟩
theorem qL8 {S:kFs}{R:List (List Rule)}{v:Vw}{a:Int}(ha:a≤0):kK4 S R v a=none:=by
 by_cases h:kAo S.1 S.2.1 S.2.2=true
 ·exact kO8 (kRq h ha)
 ·exact kLi fun hh=>h hh.1
theorem kCw {v:Vw}{n z:Int}(h:kCo v n=some z):kE1 v=true∧v.sp≤n∧n≤v.sp+v.words.length-1∧z=v.words.getD (n-v.sp).toNat 0:=by
 unfold kCo at h;split at h
 ·rename_i hc;rw[jBf]at h;exact⟨hc.1,hc.2.1,hc.2.2,h.symm⟩
 ·cases h
theorem k0m {v:Vw}{n z:Int}(hv:kHj v) (h:kCo v n=some z):okN z:=by
 obtain⟨_,h1,h2,rfl⟩:=kCw h;have hlt:(n-v.sp).toNat<v.words.length:=zo;rw[jKz,jD9 hlt];exact hv.2.2.2.2 _ (jCn hlt)
theorem k5t {v:Vw}(hv:kHj v) {pc sp fp:Int}(n:Nat) (h1:okN pc) (h2:okN sp) (h3:okN fp):kHj ⟨pc,sp,fp,v.words.drop n⟩ :=
 ⟨h1,h2,h3,by have:=hv.2.2.2.1;simp only[jSz];omega,fun w hw=>hv.2.2.2.2 w (yHw hw)⟩
theorem qL9 {S:kFs}{R:List (List Rule)}{v:Vw}{a:Int}(hv:kHj v) {x:Vw}(h:kK4 S R v a=some x):kHj x:=by
 by_cases hc:kAo S.1 S.2.1 S.2.2=true∧kE1 v=true∧R.length=2;rotate_left
 ·rw[kLi hc]at h;cases h
 by_cases hl:kAm S.1 S.2.1 a<0
 ·rw[kO8 hl]at h;cases h
 obtain⟨k,hk,_⟩:=kK1 hc.1 hl;by_cases hr:kD4 (R.getD k []) (a-S.2.1.getD k 0)<0
 ·rw[kPw hk hr]at h;cases h
 obtain⟨j,hj⟩:=zN (kD4 (R.getD k []) (a-S.2.1.getD k 0));rw[kPx hc hk hj]at h;have hb:=of_decide_eq_true hc.2.1;split at h
 ·split at h
  ·rename_i hf f pc e1 e2;rw[jBf]at h;subst h;have q1:=kCw e2;exact k5t hv _ (k0m hv e2) ⟨zo,zo⟩ (k0m hv e1)
  ·cases h
 ·split at h
  ·rename_i hf pc e1;rw[jBf]at h;subst h;have q1:=kCw e1;exact k5t hv _ (k0m hv e1) ⟨zo,zo⟩ hv.2.2.1
  ·cases h
theorem k0l {S:kFs}{R:List (List Rule)}{v:Vw}{i:Bool}(hv:kHj v) {x:Vw}(h:kG7 S R v i=some x):kHj x:=qL9 hv h
theorem kYu {L:List Rule}{o:Int}(h:¬kD4 L o<0):∃j:Nat,kD4 L o=j∧j<L.length:=by
 have hb:-1≤kD4 L o∧kD4 L o<L.length∨kD4 L o=-1:=by
  unfold kD4;split
  ·exact kO5 (kP5 o) L
  ·right;rfl
 exact⟨(kD4 L o).toNat,zo,zo⟩
theorem kQn {L:List Rule}{o:Int}{j:Nat}(h:kD4 L o=j) (hj:j<L.length):0≤L[j].depth∧L[j].depth≤1200:=by
 have hok:kJc L=true:=by
  cases hok:kJc L with
  |true=>rfl
  |false=>unfold kD4 at h;rw[hok]at h;simp at h
 unfold kJc kJb at hok;rw[jDl]at hok;have:=of_decide_eq_true (hok j (jKi.2 hj));rw[show L.getD j kGj=L[j]by rw[jKz,jD9 hj];rfl]at this
 omega
theorem kNh (S:kFs) (R:List (List Rule)) (n:Nat) (i:Bool) (v:Vw):kNb S R (n+1) i v=(match kG7 S R v i with
  |none=>([],false)
  |some x=>if x.pc=0 then([],true)else(x.pc::(kNb S R n false x).1,(kNb S R n false x).2)):=rfl
def kLu (S:kFs) (R:List (List Rule)) (n:Nat) (v:Vw):List Int×Bool:=kNb S R (40-n) (decide (n=1)) v
theorem k5u {S:kFs}{R:List (List Rule)}{n:Nat}{v:Vw}(h:n<40) (e:kG7 S R v (decide (n=1))=none):kLu S R n v=([],false):=by
 unfold kLu;rw[show 40-n=(40-(n+1))+1 by omega,kNh,e]
theorem k89 {S:kFs}{R:List (List Rule)}{n:Nat}{v x:Vw}(h:n<40) (e:kG7 S R v (decide (n=1))=some x) (h0:x.pc=0):kLu S R n v=([],true):=by
 unfold kLu;rw[show 40-n=(40-(n+1))+1 by omega,kNh,e]
 exact if_pos h0
theorem k5v {S:kFs}{R:List (List Rule)}{n:Nat}{v x:Vw}(h:n<40) (hn:1≤n) (e:kG7 S R v (decide (n=1))=some x) (h0:¬x.pc=0):kLu S R n v=(x.pc::(kLu S R (n+1) x).1,(kLu S R (n+1) x).2):=by
 unfold kLu;rw[show 40-n=(40-(n+1))+1 by omega,kNh,e]
 simp only;rw[if_neg h0,show decide (n+1=1)=false from decide_eq_false zo]
theorem k5w {S:kFs}{R:List (List Rule)}{n:Nat}{v:Vw}(h:¬n<40):kLu S R n v=([],false):=by
 unfold kLu;rw[show 40-n=0 by omega]
 rfl
theorem k5x (S:kFs) (R:List (List Rule)) (v:Vw):unwind S R v=(v.pc::(kLu S R 1 v).1,(kLu S R 1 v).2):=rfl
end
section
open Go.Vc Tryz
attribute [local irreducible] Go.Vc.WP
open Go.Pl
def kG9 (r:List Rule):List SV:=[.sl 4 (r.map encRule)]
def oneRL:List SV→List Rule
 | [.sl _ r]=>kH8 r
 | _=>[]
def kY3 (rows:List (List SV)):List (List Rule):=rows.map oneRL
@[go_sem] theorem decRL_enc (R:List (List Rule)):kY3 (R.map kG9)=R:=by
 unfold kY3;rw[jRw];exact vFu (fun r=>by show kH8 (r.map encRule)=r;exact kZh r) R
def kGb (S:kFs) (R:List (List Rule)) (v:Vw):Prop:=kEk S∧(∀r∈R,r.length≤4194304)∧kHj v
def kPi (S:kFs) (a:Int):Int:=if kAo S.1 S.2.1 S.2.2=true then kAm S.1 S.2.1 a else -1
def offS (S:kFs) (a:Int):Int:=if kAo S.1 S.2.1 S.2.2=true then(if kAm S.1 S.2.1 a<0 then -1 else a-S.2.1.getD (kAm S.1 S.2.1 a).toNat 0)else -1
theorem kLb {S:kFs}(h:kEk S) (hok:kAo S.1 S.2.1 S.2.2=true) (a:Int):kGt (S,a) :=
 ⟨h.1,by have:=kJx hok;show S.2.1.length=S.1.length;omega,fun b hb=>by have:=qFd hok b hb;omega⟩
@[go_sem] def kLocc:Ctr:=pur (fun args=>(spA args 0,aI args 1)) (fun x=>[.agg [.sl 2 (x.1.1.map encImage),.sl 1 (x.1.2.1.map encI),.sl 1 (x.1.2.2.map encI)],vi x.2]) (fun x=>kEk x.1)
 (fun _ x=>.tup [vi (kPi x.1 x.2),vi (offS x.1 x.2)]) (fun _ _=>[])
section
attribute [local irreducible] kEk kGt
def cxLcc:=kc k9f (kc k7a kn)
theorem cLoccS:Cq 221 kLocc:=by
 refine zp fun d x hx=>?_
 obtain⟨⟨I,B,E⟩,a⟩:=x;have hpre:kEk (I,B,E):=hx;simp only;refine zg cxLcc func221 rfl rfl ntmps221 ?_;intros
 cases hs:kAo I B E with
 |false =>
  have e1:kPi (I,B,E) a=-1:=if_neg (by rw[hs];simp)
  have e2:offS (I,B,E) a=-1:=if_neg (by rw[hs];simp)
  rw[e1,e2]
  exact zx hs
 |true =>
  have e1:kPi (I,B,E) a=kAm I B a:=if_pos hs;have e2:offS (I,B,E) a=(if kAm I B a<0 then -1 else a-B.getD (kAm I B a).toNat 0):=if_pos hs
  rw[e1,e2];have hl:=kLb hpre hs a;exact zx hs
end
def uwV (S:kFs) (R:List (List Rule)) (v:Vw) (i:Bool):Vw:=(kG7 S R v i).getD ⟨0,0,0,[]⟩
def kUnwS:Ctr:=pur (fun args=>(spA args 0,kY3 (aR args 1),vwA args 2,aB args 3)) (fun x=>[.agg [.sl 2 (x.1.1.map encImage),.sl 1 (x.1.2.1.map encI),.sl 1 (x.1.2.2.map encI)],.sl 1 (x.2.1.map kG9),.agg [vi x.2.2.1.pc,vi x.2.2.1.sp,vi x.2.2.1.fp,.sl 1 (x.2.2.1.words.map encI)],.v (.bool x.2.2.2)]) (fun x=>kGb x.1 x.2.1 x.2.2.1)
 (fun d x=>.tup [.agg [vi ((uwV x.1 x.2.1 x.2.2.1 x.2.2.2).pc),vi ((uwV x.1 x.2.1 x.2.2.1 x.2.2.2).sp),vi ((uwV x.1 x.2.1 x.2.2.1 x.2.2.2).fp),.own d],.v (.bool (kG7 x.1 x.2.1 x.2.2.1 x.2.2.2).isSome)])
 (fun d x=>[(d,.sl 3 1 ((uwV x.1 x.2.1 x.2.2.1 x.2.2.2).words.map encI))])
theorem kD1 {S:kFs}{R:List (List Rule)}{v:Vw}{i:Bool}(h:kG7 S R v i=none):uwV S R v i=⟨0,0,0,[]⟩:=by unfold uwV;rw[h];rfl
theorem qA2 {S:kFs}{R:List (List Rule)}{v x:Vw}{i:Bool}(h:kG7 S R v i=some x):uwV S R v i=x:=by unfold uwV;rw[h];rfl
theorem kY4 {R:List (List Rule)}{k:Nat}(h:k<R.length):R.getD k []=R[k]:=by rw[jKz,jD9 h];rfl
end
end Go.Proofs.YtjdklcjoeanimaaGreat
