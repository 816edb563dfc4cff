/-
  DERIVED. Several texts of ours in one: VtAgE, VtTm, VtSess, VtViewOf, VcFr, VtUnw, VpUnw, VtUnw2.
-/
import Derived.Test.YtjdklcjoeanimaaGreatVd4
import Derived.Test.YtjdklcjoeanimaaGreatVd5
import Derived.Test.YtjdklcjoeanimaaGreatVd6
import Derived.Test.YtjdklcjoeanimaaGreatVd7
import Derived.Test.YtjdklcjoeanimaaGreatVd11
import Derived.Test.YtjdklcjoeanimaaGreatVd12
set_option linter.unusedSimpArgs false
set_option linter.unusedVariables false
set_option maxHeartbeats 1000000
set_option maxRecDepth 10000
namespace Go.Proofs.YtjdklcjoeanimaaGreat
open Go.Vc
def agA (args:List SV) (i:Nat):AgX:=match args[i]? with
 |some (.agg [.sl _ a,.sl _ b,.sl _ c,.sl _ d])=>((kDl a,decI b,decI c),kHp d)
 | _=>(([],[],[]),[])
def aggAg (x:AgX):List SV:=[.sl 2 (x.1.1.map encImage),.sl 1 (x.1.2.1.map encI),.sl 1 (x.1.2.2.map encI),.sl 5 (x.2.map encDebug)]
end Go.Proofs.YtjdklcjoeanimaaGreat

namespace Go.Proofs.YtjdklcjoeanimaaGreat
open Go.Vc
attribute [local irreducible] Go.Vc.WP
attribute [local go_sem] kAd kAe
structure Tm where
 period:Int
 spread:Int
 left:Int
 state:Int
deriving DecidableEq
def tmA (args:List SV) (i:Nat):Tm:=match args[i]? with
 |some (.agg [.v (.int _ a),.v (.int _ b),.v (.int _ c),.v (.int _ d)])=>⟨a,b,c,d⟩
 | _=>⟨0,0,0,0⟩
theorem kFa (x:Tm):(⟨x.period,x.spread,x.left,x.state⟩:Tm)=x:=rfl
attribute [local go_sem] tmA kFa
def tmOk (x:Tm):Bool:=decide ((1≤x.period∧x.period≤10000)∧(0≤x.spread∧x.spread≤100)∧(1≤x.left∧x.left≤x.period+x.spread)∧0≤x.state∧x.state≤65535)
def kQn:Ctr:=pur (fun args=>tmA args 0) (fun x=>[.agg [.v (.int .i64 x.period),.v (.int .i64 x.spread),.v (.int .i64 x.left),.v (.int .i64 x.state)]]) (fun _=>True) (fun _ x=>.v (.bool (tmOk x))) (fun _ _=>[])
section
noncomputable def qCs:=mkX [(66,k60)] (COk.cons c58 (COk.nil _))
theorem qS0:qCs.tys=tys:=rfl
theorem qS1:qCs.C=[(66,k60)]:=rfl
attribute [local go_sem] qS0 qS1 k60
theorem cTmOkS:Cn Tryz.prog 82 kQn:=by
 refine Cn.pur Tryz.func82 (by kernel_rfl) rfl fun d x hx=>?_
 obtain⟨p,s,l,t⟩:=x;simp only;refine Holds.go (c:=qCs) Tryz.func82 rfl Tryz.results82 Tryz.ntmps82 (by omega) (by simp) rfl ?_
 intro X0 w0
 have e:tmOk ⟨p,s,l,t⟩=(decide (1≤p)&&decide (p≤10000)&&(decide (0≤s)&&decide (s≤100))&&(decide (1≤l)&&decide (l≤p+s))&&(decide (0≤t)&&decide (t≤65535))):=by
  unfold tmOk;rw[Bool.eq_iff_iff];simp only[decide_eq_true_eq,Bool.and_eq_true];omega
 by_cases h1:1≤p∧p≤10000
 ·by_cases h2:0≤s∧s≤100
  ·(repeat' (first|apply zS|apply zB|(apply zW;simp only[go_sem,e])|apply And.intro|intro _))
   all_goals first|omega|exact⟨_,_,rfl,_,_,rfl,rfl⟩|skip
  ·(repeat' (first|apply zS|apply zB|(apply zW;simp only[go_sem,e])|apply And.intro|intro _))
   all_goals first|omega|exact⟨_,_,rfl,_,_,rfl,rfl⟩|skip
 ·(repeat' (first|apply zS|apply zB|(apply zW;simp only[go_sem,e])|apply And.intro|intro _))
  all_goals first|omega|exact⟨_,_,rfl,_,_,rfl,rfl⟩|skip
end
section
noncomputable def qCt:=mkX [(68,k60)] (COk.cons c60 (COk.nil _))
theorem qS2:qCt.tys=tys:=rfl
theorem qS3:qCt.C=[(68,k60)]:=rfl
attribute [local go_sem] qS2 qS3 k60
theorem cTmOkI:Cn Tryz.prog 106 kQn:=by
 refine Cn.pur Tryz.func106 (by kernel_rfl) rfl fun d x hx=>?_
 obtain⟨p,s,l,t⟩:=x;simp only;refine Holds.go (c:=qCt) Tryz.func106 rfl Tryz.results106 Tryz.ntmps106 (by omega) (by simp) rfl ?_
 intro X0 w0
 have e:tmOk ⟨p,s,l,t⟩=(decide (1≤p)&&decide (p≤10000)&&(decide (0≤s)&&decide (s≤100))&&(decide (1≤l)&&decide (l≤p+s))&&(decide (0≤t)&&decide (t≤65535))):=by
  unfold tmOk;rw[Bool.eq_iff_iff];simp only[decide_eq_true_eq,Bool.and_eq_true];omega
 by_cases h1:1≤p∧p≤10000
 ·by_cases h2:0≤s∧s≤100
  ·(repeat' (first|apply zS|apply zB|(apply zW;simp only[go_sem,e])|apply And.intro|intro _))
   all_goals first|omega|exact⟨_,_,rfl,_,_,rfl,rfl⟩|skip
  ·(repeat' (first|apply zS|apply zB|(apply zW;simp only[go_sem,e])|apply And.intro|intro _))
   all_goals first|omega|exact⟨_,_,rfl,_,_,rfl,rfl⟩|skip
 ·(repeat' (first|apply zS|apply zB|(apply zW;simp only[go_sem,e])|apply And.intro|intro _))
  all_goals first|omega|exact⟨_,_,rfl,_,_,rfl,rfl⟩|skip
end
end Go.Proofs.YtjdklcjoeanimaaGreat

namespace Go.Proofs.YtjdklcjoeanimaaGreat
open Go.Vc
attribute [local irreducible] Go.Vc.WP
attribute [local go_sem] kAd kAe
open Go.Pl
attribute [local go_sem] kAf kAg spA kBe tmA kFa
structure Mach where
 pc:Int
 sp:Int
 fp:Int
 stack:List Int
 out:List Int
 state:Int
 value:Int
deriving DecidableEq
def encMach (x:Mach):List SV:=[.v (.int .i64 x.pc),.v (.int .i64 x.sp),.v (.int .i64 x.fp),.sl 1 (x.stack.map encI),.sl 1 (x.out.map encI),.v (.int .i64 x.state),.v (.int .i64 x.value)]
def kF3:List SV→Mach
 | [.v (.int _ a),.v (.int _ b),.v (.int _ c),.sl _ s,.sl _ o,.v (.int _ d),.v (.int _ e)]=>⟨a,b,c,decI s,decI o,d,e⟩
 | _=>⟨0,0,0,[],[],0,0⟩
def kGq (rows:List (List SV)):List Mach:=rows.map kF3
theorem kT0 (x:Mach):kF3 (encMach x)=x:=by
 unfold kF3 encMach;simp only[kAf]
theorem kBc (L:List Mach):kGq (L.map encMach)=L:=by
 unfold kGq;rw[List.map_map];exact List.map_id'' kT0 L
theorem kBq (a b c:Int) (s o:List Int) (d e:Int):kF3 [.v (.int .i64 a),.v (.int .i64 b),.v (.int .i64 c),.sl 1 (s.map encI),.sl 1 (o.map encI),.v (.int .i64 d),.v (.int .i64 e)]=⟨a,b,c,s,o,d,e⟩:=kT0 ⟨a,b,c,s,o,d,e⟩
theorem kCn (x:Mach):(⟨x.pc,x.sp,x.fp,x.stack,x.out,x.state,x.value⟩:Mach)=x:=rfl
attribute [local go_sem] kBc kBq kCn
def kFb (x:Mach):Bool:=decide (x.stack.length=1200∧(0≤x.sp∧x.sp≤1200)∧0≤x.state∧x.state≤2)
def kHa:Ctr:=pur (fun args=>kF3 (aC args 0)) (fun x=>[.agg [.v (.int .i64 x.pc),.v (.int .i64 x.sp),.v (.int .i64 x.fp),.sl 1 (x.stack.map encI),.sl 1 (x.out.map encI),.v (.int .i64 x.state),.v (.int .i64 x.value)]]) (fun x=>x.stack.length≤4194304) (fun _ x=>.v (.bool (kFb x))) (fun _ _=>[])
section
noncomputable def qBz:=mkX [(68,k60)] (COk.cons c60 (COk.nil _))
theorem qRk:qBz.tys=tys:=rfl
theorem qRl:qBz.C=[(68,k60)]:=rfl
attribute [local go_sem] qRk qRl k60
theorem qJv:Cn Tryz.prog 182 kHa:=by
 refine Cn.pur Tryz.func182 (by kernel_rfl) rfl fun d x hx=>?_
 obtain⟨a,b,c,s,o,d2,e2⟩:=x;simp only at hx⊢
 have e:kFb ⟨a,b,c,s,o,d2,e2⟩=(((s.length:Int)==1200)&&(decide (0≤b)&&decide (b≤1200))&&(decide (0≤d2)&&decide (d2≤2))):=by
  unfold kFb;rw[Bool.eq_iff_iff];simp only[decide_eq_true_eq,Bool.and_eq_true,beq_iff_eq];omega
 rw[e];refine Holds.go (c:=qBz) Tryz.func182 rfl Tryz.results182 Tryz.ntmps182 (by omega) (by simp) rfl ?_
 intro X0 w0;by_cases h:(s.length:Int)=1200
 ·(repeat' (first|apply zS|apply zB|(apply zW;simp only[go_sem,h])|apply And.intro|intro _))
  all_goals first|omega|rfl|skip
 ·have h':((s.length:Int)==1200)=false:=beq_eq_false_iff_ne.2 h;rw[h',Bool.false_and,Bool.false_and]
  (repeat' (first|apply zS|apply zB|(apply zW;simp only[go_sem,h])|apply And.intro|intro _))
  all_goals first|omega|rfl|(simp only[h',Bool.false_and];done)|skip
end
section
noncomputable def qB0:=mkX [(66,k60)] (COk.cons c58 (COk.nil _))
theorem qRm:qB0.tys=tys:=rfl
theorem qRn:qB0.C=[(66,k60)]:=rfl
attribute [local go_sem] qRm qRn k60
theorem qJw:Cn Tryz.prog 156 kHa:=by
 refine Cn.pur Tryz.func156 (by kernel_rfl) rfl fun d x hx=>?_
 obtain⟨a,b,c,s,o,d2,e2⟩:=x;simp only at hx⊢
 have e:kFb ⟨a,b,c,s,o,d2,e2⟩=(((s.length:Int)==1200)&&(decide (0≤b)&&decide (b≤1200))&&(decide (0≤d2)&&decide (d2≤2))):=by
  unfold kFb;rw[Bool.eq_iff_iff];simp only[decide_eq_true_eq,Bool.and_eq_true,beq_iff_eq];omega
 rw[e];refine Holds.go (c:=qB0) Tryz.func156 rfl Tryz.results156 Tryz.ntmps156 (by omega) (by simp) rfl ?_
 intro X0 w0;by_cases h:(s.length:Int)=1200
 ·(repeat' (first|apply zS|apply zB|(apply zW;simp only[go_sem,h])|apply And.intro|intro _))
  all_goals first|omega|rfl|skip
 ·have h':((s.length:Int)==1200)=false:=beq_eq_false_iff_ne.2 h;rw[h',Bool.false_and,Bool.false_and]
  (repeat' (first|apply zS|apply zB|(apply zW;simp only[go_sem,h])|apply And.intro|intro _))
  all_goals first|omega|rfl|(simp only[h',Bool.false_and];done)|skip
end
abbrev PcX:=(List Image×List Int×List Int)×List Mach×Int×Int×Int
def pcA (args:List SV) (i:Nat):PcX:=match args[i]? with
 |some (.agg [.sl _ a,.sl _ b,.sl _ c,.sl _ t,.v (.int _ x),.v (.int _ y),.v (.int _ z)])=>((kDl a,decI b,decI c),kGq t,x,y,z)
 | _=>(([],[],[]),[],0,0,0)
attribute [local go_sem] pcA
def kOu (x:PcX):Bool:=kAl x.1.1 x.1.2.1 x.1.2.2&&decide ((1≤x.2.1.length∧x.2.1.length≤3)∧(0≤x.2.2.1∧x.2.2.1≤(x.2.1.length:Int)-1)∧(1≤x.2.2.2.2∧x.2.2.2.2≤1000)∧1≤x.2.2.2.1∧x.2.2.2.1≤x.2.2.2.2)&&x.2.1.all kFb
def kV6 (x:PcX):Prop:=kDx x.1∧x.2.1.length≤4194304∧∀m∈x.2.1,m.stack.length≤4194304
def kQm:Ctr:=pur (fun args=>pcA args 0) (fun x=>[.agg [.sl 2 (x.1.1.map encImage),.sl 1 (x.1.2.1.map encI),.sl 1 (x.1.2.2.map encI),.sl 7 (x.2.1.map encMach),.v (.int .i64 x.2.2.1),.v (.int .i64 x.2.2.2.1),.v (.int .i64 x.2.2.2.2)]]) kV6 (fun _ x=>.v (.bool (kOu x))) (fun _ _=>[])
section
noncomputable def qB1:=mkX [(68,k60),(103,kFk),(182,kHa)] (COk.cons c60 (COk.cons k2w (COk.cons qJv (COk.nil _))))
theorem qRo:qB1.tys=tys:=rfl
theorem qRp:qB1.C=[(68,k60),(103,kFk),(182,kHa)]:=rfl
attribute [local go_sem] qRo qRp k60 kFk kHa
set_option maxHeartbeats 3000000 in
theorem cPcOkI:Cn Tryz.prog 105 kQm:=by
 refine Cn.pur Tryz.func105 (by kernel_rfl) rfl fun d x hx=>?_
 obtain⟨⟨I,B,E⟩,T,tu,le,sl⟩:=x;obtain⟨hsp,hT,hTs⟩:=hx;have hsp2:=hsp;obtain⟨⟨hI,hIm⟩,hB,hE⟩:=hsp2;simp only at hT hTs hI hIm hB hE⊢;have mod:kOu ((I,B,E),T,tu,le,sl)=(kAl I B E&&decide ((1≤T.length∧T.length≤3)∧(0≤tu∧tu≤(T.length:Int)-1)∧(1≤sl∧sl≤1000)∧1≤le∧le≤sl)&&T.all kFb):=rfl;rw[mod];refine Holds.go (c:=qB1) Tryz.func105 rfl Tryz.results105 Tryz.ntmps105 (by omega) (by simp) rfl ?_
 intro X0 w0
 cases hso:kAl I B E with
 |false =>
  (repeat' (first|apply zS|apply zB|(apply zW;simp only[go_sem,hso])|apply And.intro|intro _))
  all_goals first|omega|exact hIm _ ‹_›|exact(hIm _ ‹_›).1|exact(hIm _ ‹_›).2.1|exact(hIm _ ‹_›).2.2 _ ‹_›|rfl|skip
 |true =>
 by_cases hc:(1≤T.length∧T.length≤3)∧(0≤tu∧tu≤(T.length:Int)-1)∧(1≤sl∧sl≤1000)∧1≤le∧le≤sl;rotate_left
 ·rw[decide_eq_false hc,Bool.and_false,Bool.false_and];by_cases c1:((1:Int)≤T.length∧(T.length:Int)≤3)
  ·by_cases c2:0≤tu∧tu≤(T.length:Int)-1
   ·by_cases c3:1≤sl∧sl≤1000
    ·have c4:(decide (1≤le)&&decide (le≤sl))=false:=by rw[←Bool.decide_and];exact decide_eq_false fun h=>hc ⟨by omega,c2,c3,h⟩
     (repeat' (first|apply zS|apply zB|(apply zW;simp only[go_sem,hso,c1,c2,c3,c4])|apply And.intro|intro _))
     all_goals first|omega|exact hIm _ ‹_›|exact(hIm _ ‹_›).1|exact(hIm _ ‹_›).2.1|exact(hIm _ ‹_›).2.2 _ ‹_›|rfl|skip
    ·have c3':(decide (1≤sl)&&decide (sl≤1000))=false:=by rw[←Bool.decide_and];exact decide_eq_false c3
     (repeat' (first|apply zS|apply zB|(apply zW;simp only[go_sem,hso,c1,c2,c3'])|apply And.intro|intro _))
     all_goals first|omega|exact hIm _ ‹_›|exact(hIm _ ‹_›).1|exact(hIm _ ‹_›).2.1|exact(hIm _ ‹_›).2.2 _ ‹_›|rfl|skip
   ·have c2':(decide (0≤tu)&&decide (tu≤(T.length:Int)-1))=false:=by rw[←Bool.decide_and];exact decide_eq_false c2
    (repeat' (first|apply zS|apply zB|(apply zW;simp only[go_sem,hso,c1,c2'])|apply And.intro|intro _))
    all_goals first|omega|exact hIm _ ‹_›|exact(hIm _ ‹_›).1|exact(hIm _ ‹_›).2.1|exact(hIm _ ‹_›).2.2 _ ‹_›|rfl|skip
  ·have c1':(decide ((1:Int)≤T.length)&&decide ((T.length:Int)≤3))=false:=by rw[←Bool.decide_and];exact decide_eq_false c1
   (repeat' (first|apply zS|apply zB|(apply zW;simp only[go_sem,hso,c1'])|apply And.intro|intro _))
   all_goals first|omega|exact hIm _ ‹_›|exact(hIm _ ‹_›).1|exact(hIm _ ‹_›).2.1|exact(hIm _ ‹_›).2.2 _ ‹_›|rfl|skip
 rw[decide_eq_true hc,Bool.and_true,Bool.true_and];obtain⟨⟨a1,a2⟩,⟨a3,a4⟩,⟨a5,a6⟩,a7,a8⟩:=hc;have a1i:(1:Int)≤T.length:=by omega
 have a2i:(T.length:Int)≤3:=by omega
 (repeat' (first|apply zS|apply zB|(apply zW;simp only[go_sem,hso,a1i,a2i,a3,a4,a5,a6,a7,a8])|apply And.intro|intro _))
 all_goals first|omega|exact hIm _ ‹_›|exact(hIm _ ‹_›).1|exact(hIm _ ‹_›).2.1|exact(hIm _ ‹_›).2.2 _ ‹_›|skip
 refine zL (fun k:Nat=>⟨[(41,.sl 7 (T.map encMach)),(42,.v (.int .i64 T.length)),(43,.v (.int .i64 k))],[]⟩)
  (fun k=>k≤T.length∧∀i (hi:i<T.length),i<k→kFb T[i]=true) (fun k=>T.length-k) 0 (by simp) ?_ ?_
 ·(simp only[go_sem]<;>(first|(and_intros<;>rfl)|simp))
 intro k ⟨hk,hf⟩;by_cases hlt:k<T.length
 ·have hli:(k:Int)<T.length:=by omega
  have hr:=kAa encMach T k hlt;have hst:=hTs _ (List.getElem_mem hlt)
  cases hm:kFb T[k]with
  |false =>
   have ha:T.all kFb=false:=List.all_eq_false.2 ⟨_,List.getElem_mem hlt,by rw[hm];simp⟩
   rw[ha]
   (repeat' (first|apply zS|apply zB|(apply zW;simp only[go_sem,hli,hr,encMach,hm])|apply And.intro|intro _))
   all_goals first|omega|skip
  |true =>
   (repeat' (first|apply zS|apply zB|(apply zW;simp only[go_sem,hli,hr,encMach,hm])|apply And.intro|intro _))
   all_goals first|omega|exact⟨k+1,⟨by omega,fun i hi hik=>by
    rcases Nat.lt_or_ge i k with h|h
    ·exact hf i hi h
    ·have:i=k:=by omega
     subst this;exact hm⟩,by omega,by(first|(and_intros<;>rfl)|simp)⟩|skip
 ·have hge:¬(k:Int)<T.length:=by omega
  have ha:T.all kFb=true:=List.all_eq_true.2 fun m hm=>by
   obtain⟨i,hi,rfl⟩:=List.mem_iff_getElem.1 hm;exact hf i hi (by omega)
  rw[ha]
  (repeat' (first|apply zS|apply zB|(apply zW;simp only[go_sem,hge])|apply And.intro|intro _))
  all_goals first|omega|skip
end
section
noncomputable def qB2:=mkX [(66,k60),(79,kFk),(156,kHa)] (COk.cons c58 (COk.cons k2x (COk.cons qJw (COk.nil _))))
theorem qRq:qB2.tys=tys:=rfl
theorem qRr:qB2.C=[(66,k60),(79,kFk),(156,kHa)]:=rfl
attribute [local go_sem] qRq qRr k60 kFk kHa
set_option maxHeartbeats 3000000 in
theorem cPcOkS:Cn Tryz.prog 81 kQm:=by
 refine Cn.pur Tryz.func81 (by kernel_rfl) rfl fun d x hx=>?_
 obtain⟨⟨I,B,E⟩,T,tu,le,sl⟩:=x;obtain⟨hsp,hT,hTs⟩:=hx;have hsp2:=hsp;obtain⟨⟨hI,hIm⟩,hB,hE⟩:=hsp2;simp only at hT hTs hI hIm hB hE⊢;have mod:kOu ((I,B,E),T,tu,le,sl)=(kAl I B E&&decide ((1≤T.length∧T.length≤3)∧(0≤tu∧tu≤(T.length:Int)-1)∧(1≤sl∧sl≤1000)∧1≤le∧le≤sl)&&T.all kFb):=rfl;rw[mod];refine Holds.go (c:=qB2) Tryz.func81 rfl Tryz.results81 Tryz.ntmps81 (by omega) (by simp) rfl ?_
 intro X0 w0
 cases hso:kAl I B E with
 |false =>
  (repeat' (first|apply zS|apply zB|(apply zW;simp only[go_sem,hso])|apply And.intro|intro _))
  all_goals first|omega|exact hIm _ ‹_›|exact(hIm _ ‹_›).1|exact(hIm _ ‹_›).2.1|exact(hIm _ ‹_›).2.2 _ ‹_›|rfl|skip
 |true =>
 by_cases hc:(1≤T.length∧T.length≤3)∧(0≤tu∧tu≤(T.length:Int)-1)∧(1≤sl∧sl≤1000)∧1≤le∧le≤sl;rotate_left
 ·rw[decide_eq_false hc,Bool.and_false,Bool.false_and];by_cases c1:((1:Int)≤T.length∧(T.length:Int)≤3)
  ·by_cases c2:0≤tu∧tu≤(T.length:Int)-1
   ·by_cases c3:1≤sl∧sl≤1000
    ·have c4:(decide (1≤le)&&decide (le≤sl))=false:=by rw[←Bool.decide_and];exact decide_eq_false fun h=>hc ⟨by omega,c2,c3,h⟩
     (repeat' (first|apply zS|apply zB|(apply zW;simp only[go_sem,hso,c1,c2,c3,c4])|apply And.intro|intro _))
     all_goals first|omega|exact hIm _ ‹_›|exact(hIm _ ‹_›).1|exact(hIm _ ‹_›).2.1|exact(hIm _ ‹_›).2.2 _ ‹_›|rfl|skip
    ·have c3':(decide (1≤sl)&&decide (sl≤1000))=false:=by rw[←Bool.decide_and];exact decide_eq_false c3
     (repeat' (first|apply zS|apply zB|(apply zW;simp only[go_sem,hso,c1,c2,c3'])|apply And.intro|intro _))
     all_goals first|omega|exact hIm _ ‹_›|exact(hIm _ ‹_›).1|exact(hIm _ ‹_›).2.1|exact(hIm _ ‹_›).2.2 _ ‹_›|rfl|skip
   ·have c2':(decide (0≤tu)&&decide (tu≤(T.length:Int)-1))=false:=by rw[←Bool.decide_and];exact decide_eq_false c2
    (repeat' (first|apply zS|apply zB|(apply zW;simp only[go_sem,hso,c1,c2'])|apply And.intro|intro _))
    all_goals first|omega|exact hIm _ ‹_›|exact(hIm _ ‹_›).1|exact(hIm _ ‹_›).2.1|exact(hIm _ ‹_›).2.2 _ ‹_›|rfl|skip
  ·have c1':(decide ((1:Int)≤T.length)&&decide ((T.length:Int)≤3))=false:=by rw[←Bool.decide_and];exact decide_eq_false c1
   (repeat' (first|apply zS|apply zB|(apply zW;simp only[go_sem,hso,c1'])|apply And.intro|intro _))
   all_goals first|omega|exact hIm _ ‹_›|exact(hIm _ ‹_›).1|exact(hIm _ ‹_›).2.1|exact(hIm _ ‹_›).2.2 _ ‹_›|rfl|skip
 rw[decide_eq_true hc,Bool.and_true,Bool.true_and];obtain⟨⟨a1,a2⟩,⟨a3,a4⟩,⟨a5,a6⟩,a7,a8⟩:=hc;have a1i:(1:Int)≤T.length:=by omega
 have a2i:(T.length:Int)≤3:=by omega
 (repeat' (first|apply zS|apply zB|(apply zW;simp only[go_sem,hso,a1i,a2i,a3,a4,a5,a6,a7,a8])|apply And.intro|intro _))
 all_goals first|omega|exact hIm _ ‹_›|exact(hIm _ ‹_›).1|exact(hIm _ ‹_›).2.1|exact(hIm _ ‹_›).2.2 _ ‹_›|skip
 refine zL (fun k:Nat=>⟨[(1,.ptr 1 0 0 0),(3,.v (.int .i64 k))],[(1,.box 54 [.sl 2 (I.map encImage),.sl 1 (B.map encI),.sl 1 (E.map encI),.sl 7 (T.map encMach),.v (.int .i64 tu),.v (.int .i64 le),.v (.int .i64 sl)])]⟩)
  (fun k=>k≤T.length∧∀i (hi:i<T.length),i<k→kFb T[i]=true) (fun k=>T.length-k) 0 (by simp) ?_ ?_
 ·(simp only[go_sem]<;>(first|(and_intros<;>rfl)|simp))
 intro k ⟨hk,hf⟩;by_cases hlt:k<T.length
 ·have hli:(k:Int)<T.length:=by omega
  have hr:=kAa encMach T k hlt;have hst:=hTs _ (List.getElem_mem hlt)
  cases hm:kFb T[k]with
  |false =>
   have ha:T.all kFb=false:=List.all_eq_false.2 ⟨_,List.getElem_mem hlt,by rw[hm];simp⟩
   rw[ha]
   (repeat' (first|apply zS|apply zB|(apply zW;simp only[go_sem,hli,hr,encMach,hm])|apply And.intro|intro _))
   all_goals first|omega|skip
  |true =>
   (repeat' (first|apply zS|apply zB|(apply zW;simp only[go_sem,hli,hr,encMach,hm])|apply And.intro|intro _))
   all_goals first|omega|exact⟨k+1,⟨by omega,fun i hi hik=>by
    rcases Nat.lt_or_ge i k with h|h
    ·exact hf i hi h
    ·have:i=k:=by omega
     subst this;exact hm⟩,by omega,by(first|(and_intros<;>rfl)|simp)⟩|skip
 ·have hge:¬(k:Int)<T.length:=by omega
  have ha:T.all kFb=true:=List.all_eq_true.2 fun m hm=>by
   obtain⟨i,hi,rfl⟩:=List.mem_iff_getElem.1 hm;exact hf i hi (by omega)
  rw[ha]
  (repeat' (first|apply zS|apply zB|(apply zW;simp only[go_sem,hge])|apply And.intro|intro _))
  all_goals first|omega|skip
end
end Go.Proofs.YtjdklcjoeanimaaGreat

namespace Go.Proofs.YtjdklcjoeanimaaGreat
open Go.Vc
attribute [local irreducible] Go.Vc.WP
attribute [local go_sem] kAd kAe
attribute [local go_sem] kAf kBq kCn
section
attribute [local go_sem] kHa
attribute [local go_sem] vwA kFt
def kW6:Ctr:=pur (fun args=>vwA args 0) (fun x=>[.agg [.v (.int .i64 x.pc),.v (.int .i64 x.sp),.v (.int .i64 x.fp),.sl 1 (x.words.map encI)]]) (fun x=>x.words.length≤4194304)
 (fun d x=>.agg [.v (.int .i64 x.pc),.v (.int .i64 x.sp),.v (.int .i64 x.fp),.own d]) (fun d x=>[(d,.sl 3 1 (x.words.map encI))])
noncomputable def qDe:=mkX [] (COk.nil _)
theorem qUb:qDe.tys=tys:=rfl
theorem qUc:qDe.C=[]:=rfl
attribute [local go_sem] qUb qUc
theorem cCpVwI:Cn Tryz.prog 250 kW6:=by
 refine Cn.pur Tryz.func250 (by kernel_rfl) rfl fun d x hx=>?_
 obtain⟨a,b,c,w⟩:=x;simp only at hx⊢;refine Holds.go (c:=qDe) Tryz.func250 rfl Tryz.results250 Tryz.ntmps250 (by omega) (by simp) rfl ?_
 intro X0 w0
 (repeat' (first|apply zS|apply zB|(apply zW;simp only[go_sem])|apply And.intro|intro _))
 all_goals first|omega|rfl|exact⟨_,_,rfl,_,_,rfl,rfl⟩|(obtain⟨n,_,rfl⟩:=List.mem_map.1 ‹_›;rfl)|skip
attribute [local go_sem] kHa kW6
end
end Go.Proofs.YtjdklcjoeanimaaGreat

namespace Go.Vc
def fz1m (robs:List (Nat×Ob)):SV→SV
 | .own id=>match lk id robs with
  |some (.sl _ s rows)=>.sl s rows
  | _=>.junk
 | .v x=>.v x
 | .sl s rows=>.sl s rows
 | _=>.junk
theorem Holds.frz {P:Program}{f:FuncId}{args:List SV}{res:SV}{robs:List (Nat×Ob)}(h:Holds P f args res robs) (hv:∀id e s rows,lk id robs=some (.sl e s rows)→allV rows):Holds P f args (res.up (fz1m robs)) []:=by
 intro w X vs hG hX hl ha;refine(h w X vs hG hX hl ha).mono fun en w' ⟨v,β,he,hb,hβ,hR,hO,hn⟩=>?_
 refine⟨v,β,he,hb,hβ,?_,⟨fun id ob hi=>(by cases hi),fun i j oi oj b hi=>(by cases hi)⟩,fun id ob b hi=>(by cases hi)⟩
 have hS:Same (XX X β robs) w' w':=⟨Nat.le_refl _,fun _ _ _=>rfl⟩
 refine hR.up fun x u hx=>?_
 cases x with
 |own id =>
  have:=hx.kBm;subst this;simp only[fz1m];split
  ·rename_i e s rows hlk;refine .p ((hO.1 id _ hlk).toSl (fun b hb' hx=>?_) (hv id e s rows hlk))
   have h1:=hn id _ b hlk hb';rcases hx with hx|⟨i,o,hi,_⟩
   ·have:=hX b hx;omega
   ·cases hi
  ·exact .junk _
 |v y=>have:=hx.kAm;subst this;exact .p (.v _)
 |sl s rows=>exact .p (hx.kE4.mono hS (fun b _ hx=>by
   rcases hx with hx|⟨i,o,hi,_⟩
   ·exact .inl hx
   ·cases hi))
 | _=>exact .junk _
theorem Cn.frz {P:Program}{f:FuncId}{X:Type}{dec:List SV→X}{A:X→List SV}{pre:X→Prop}{res:Nat→X→SV}{robs:Nat→X→List (Nat×Ob)}{res':X→SV}
  (h:Cn P f (Go.Vc.pur dec A pre res robs)) (hv:∀d x id e s rows,lk id (robs d x)=some (.sl e s rows)→allV rows) (he:∀d x,(res d x).up (fz1m (robs d x))=res' x):Cn P f (Go.Vc.pur dec A pre (fun _ x=>res' x) (fun _ _=>[])) :=
 ⟨h.call,fun d args ha=>(by have:=(h.holds d args ha).frz (hv d _);rw[show((Go.Vc.pur dec A pre res robs).pure d args).2.1=res d (dec args)from rfl,show((Go.Vc.pur dec A pre res robs).pure d args).2.2=robs d (dec args)from rfl,he]at this;exact this),fun _ _ _ h=>h.elim⟩
end Go.Vc

namespace Go.Proofs.YtjdklcjoeanimaaGreat
open Go.Vc
attribute [local irreducible] Go.Vc.WP
attribute [local go_sem] kAd kAe
open Go.Pl
attribute [local go_sem] kAf kAg spA kA4 vwA kFt
theorem kKk {v:Vw}:vwOk v=true↔(0≤v.sp∧v.sp≤1200)∧(v.words.length:Int)≤1200-v.sp:=by unfold vwOk;exact decide_eq_true_iff
def kM6:Ctr:=pur (fun args=>(vwA args 0,aI args 1)) (fun x=>[.agg [.v (.int .i64 x.1.pc),.v (.int .i64 x.1.sp),.v (.int .i64 x.1.fp),.sl 1 (x.1.words.map encI)],.v (.int .i64 x.2)]) (fun x=>x.1.words.length≤4194304)
 (fun _ x=>.tup [.v (.int .i64 ((kBz x.1 x.2).getD 0)),.v (.bool (kBz x.1 x.2).isSome)]) (fun _ _=>[])
section
noncomputable def qCy:=mkX [(162,kFm),(66,k60)] (COk.cons k5d (COk.cons c58 (COk.nil _)))
theorem qTc:qCy.tys=tys:=rfl
theorem qTd:qCy.C=[(162,kFm),(66,k60)]:=rfl
attribute [local go_sem] qTc qTd kFm k60
theorem qTe:Cn Tryz.prog 223 kM6:=by
 refine Cn.pur Tryz.func223 (by kernel_rfl) rfl fun d x hx=>?_
 obtain⟨⟨a,b,c,w⟩,n⟩:=x;simp only at hx⊢;refine Holds.go (c:=qCy) Tryz.func223 rfl Tryz.results223 Tryz.ntmps223 (by omega) (by simp) rfl ?_
 intro X0 w0
 cases hok:vwOk ⟨a,b,c,w⟩with
 |false =>
  have e:kBz ⟨a,b,c,w⟩ n=none:=if_neg (by rw[hok];simp)
  rw[e]
  (repeat' (first|apply zS|apply zB|(apply zW;simp only[go_sem,hok])|apply And.intro|intro _))
  all_goals first|omega|rfl|skip
 |true =>
  have hb:=kKk.1 hok;simp only at hb;by_cases h:b≤n∧n≤b+(w.length:Int)-1
  ·have e:kBz ⟨a,b,c,w⟩ n=some (w.getD (n-b).toNat 0):=if_pos ⟨hok,h.1,h.2⟩;rw[e];have e0:=in_t h;obtain⟨k,hk⟩:∃k:Nat,n-b=k:=⟨(n-b).toNat,by omega⟩
   have hlt:k<w.length:=by omega
   have hli:(k:Int)<w.length:=by omega
   have g:=kAa encI w k hlt;rw[hk,Int.toNat_natCast,kAz hlt]
   (repeat' (first|apply zS|apply zB|(apply zW;simp only[go_sem,hok,e0,hk,hli,g,encI])|apply And.intro|intro _))
   all_goals first|omega|rfl|skip
  ·have e:kBz ⟨a,b,c,w⟩ n=none:=if_neg fun hh=>h ⟨hh.2.1,hh.2.2⟩
   rw[e];have e0:=in_f h
   (repeat' (first|apply zS|apply zB|(apply zW;simp only[go_sem,hok,e0])|apply And.intro|intro _))
   all_goals first|omega|rfl|skip
noncomputable def qCz:=mkX [(188,kFm),(68,k60)] (COk.cons k5e (COk.cons c60 (COk.nil _)))
theorem qTf:qCz.tys=tys:=rfl
theorem qTg:qCz.C=[(188,kFm),(68,k60)]:=rfl
attribute [local go_sem] qTf qTg kFm k60
theorem qTh:Cn Tryz.prog 236 kM6:=by
 refine Cn.pur Tryz.func236 (by kernel_rfl) rfl fun d x hx=>?_
 obtain⟨⟨a,b,c,w⟩,n⟩:=x;simp only at hx⊢;refine Holds.go (c:=qCz) Tryz.func236 rfl Tryz.results236 Tryz.ntmps236 (by omega) (by simp) rfl ?_
 intro X0 w0
 cases hok:vwOk ⟨a,b,c,w⟩with
 |false =>
  have e:kBz ⟨a,b,c,w⟩ n=none:=if_neg (by rw[hok];simp)
  rw[e]
  (repeat' (first|apply zS|apply zB|(apply zW;simp only[go_sem,hok])|apply And.intro|intro _))
  all_goals first|omega|rfl|skip
 |true =>
  have hb:=kKk.1 hok;simp only at hb;by_cases h:b≤n∧n≤b+(w.length:Int)-1
  ·have e:kBz ⟨a,b,c,w⟩ n=some (w.getD (n-b).toNat 0):=if_pos ⟨hok,h.1,h.2⟩;rw[e];have e0:=in_t h;obtain⟨k,hk⟩:∃k:Nat,n-b=k:=⟨(n-b).toNat,by omega⟩
   have hlt:k<w.length:=by omega
   have hli:(k:Int)<w.length:=by omega
   have g:=kAa encI w k hlt;rw[hk,Int.toNat_natCast,kAz hlt]
   (repeat' (first|apply zS|apply zB|(apply zW;simp only[go_sem,hok,e0,hk,hli,g,encI])|apply And.intro|intro _))
   all_goals first|omega|rfl|skip
  ·have e:kBz ⟨a,b,c,w⟩ n=none:=if_neg fun hh=>h ⟨hh.2.1,hh.2.2⟩
   rw[e];have e0:=in_f h
   (repeat' (first|apply zS|apply zB|(apply zW;simp only[go_sem,hok,e0])|apply And.intro|intro _))
   all_goals first|omega|rfl|skip
end
def k5f:Ctr:=pur (fun args=>(vwA args 0,aI args 1,aI args 2,aI args 3)) (fun x=>[.agg [.v (.int .i64 x.1.pc),.v (.int .i64 x.1.sp),.v (.int .i64 x.1.fp),.sl 1 (x.1.words.map encI)],.v (.int .i64 x.2.1),.v (.int .i64 x.2.2.1),.v (.int .i64 x.2.2.2)]) (fun x=>x.1.words.length≤4194304∧0≤x.2.2.1-x.1.sp∧x.2.2.1-x.1.sp≤x.1.words.length)
 (fun d x=>.agg [.v (.int .i64 x.2.1),.v (.int .i64 x.2.2.1),.v (.int .i64 x.2.2.2),.own d]) (fun d x=>[(d,.sl 3 1 ((x.1.words.drop (x.2.2.1-x.1.sp).toNat).map encI))])
section
noncomputable def k5g:=mkX [(250,kW6)] (COk.cons cCpVwI (COk.nil _))
theorem qKd:k5g.tys=tys:=rfl
theorem qKe:k5g.C=[(250,kW6)]:=rfl
attribute [local go_sem] qKd qKe kW6
theorem qTi:Cn Tryz.prog 237 k5f:=by
 refine Cn.pur Tryz.func237 (by kernel_rfl) rfl fun d x hx=>?_
 obtain⟨⟨a,b,c,w⟩,pc,sp,fp⟩:=x;obtain⟨hw,h0,h1⟩:=hx;simp only at hw h0 h1⊢;refine Holds.go (c:=k5g) Tryz.func237 rfl Tryz.results237 Tryz.ntmps237 (by omega) (by simp) rfl ?_
 intro X0 w0;have hm:(if(w.length:Int)<sp-b then(w.length:Int)else sp-b)=sp-b:=if_neg (by omega)
 have hd:(w.map encI).drop (sp-b).toNat=(w.drop (sp-b).toNat).map encI:=(List.map_drop ..).symm;have hl:(w.drop (sp-b).toNat).length≤4194304:=by rw[List.length_drop];omega
 generalize w.drop (sp-b).toNat=W at hd hl
 (repeat' (first|apply zS|apply zB|(apply zW;simp only[go_sem,hm,hd])|apply And.intro|intro _))
 all_goals first|omega|rfl|exact⟨_,_,rfl,_,_,rfl,rfl⟩|skip
end
end Go.Proofs.YtjdklcjoeanimaaGreat

namespace Go.Proofs.YtjdklcjoeanimaaGreat
open Go.Vc Go.Pl
def okN (n:Int):Prop:=-4398046511104≤n∧n≤4398046511104
def numV (v:Vw):Prop:=okN v.pc∧okN v.sp∧okN v.fp∧v.words.length≤4194304∧∀w∈v.words,okN w
abbrev SpXX:=List Image×List Int×List Int
def unwA (S:SpXX) (R:List (List Rule)) (v:Vw) (a:Int):Option Vw :=
 if kAl S.1 S.2.1 S.2.2=true∧vwOk v=true∧R.length=2 then
  if locI S.1 S.2.1 a<0 then none else
   if kC1 (R.getD (locI S.1 S.2.1 a).toNat []) (a-S.2.1.getD (locI S.1 S.2.1 a).toNat 0)<0 then none else
    let r:=(R.getD (locI S.1 S.2.1 a).toNat []).getD (kC1 (R.getD (locI S.1 S.2.1 a).toNat []) (a-S.2.1.getD (locI S.1 S.2.1 a).toNat 0)).toNat kEt
    if r.frame=true then
     match kBz v v.fp,kBz v (v.fp+1)with
     |some f,some pc=>some ⟨pc,v.fp+2,f,v.words.drop (v.fp+2-v.sp).toNat⟩
     | _,_=>none
    else
     match kBz v (v.sp+r.depth)with
     |some pc=>some ⟨pc,v.sp+r.depth+1,v.fp,v.words.drop (r.depth+1).toNat⟩
     |none=>none
 else none
theorem qKy (S:SpXX) (R:List (List Rule)) (v:Vw) (inner:Bool):unwS S R v inner=unwA S R v (if inner=true then v.pc else v.pc-1):=rfl
theorem kIc {S:SpXX}{R:List (List Rule)}{v:Vw}{a:Int}(h:¬(kAl S.1 S.2.1 S.2.2=true∧vwOk v=true∧R.length=2)):unwA S R v a=none:=if_neg h
theorem kKo {S:SpXX}{R:List (List Rule)}{v:Vw}{a:Int}(h:locI S.1 S.2.1 a<0):unwA S R v a=none:=by
 unfold unwA;split
 ·first|rw[if_pos h]|rfl
 ·rfl
theorem kLe {S:SpXX}{R:List (List Rule)}{v:Vw}{a:Int}{k:Nat}(hk:locI S.1 S.2.1 a=k) (h:kC1 (R.getD k []) (a-S.2.1.getD k 0)<0):unwA S R v a=none:=by
 unfold unwA;split
 ·rw[hk,Int.toNat_natCast,if_neg (by omega),if_pos h]
 ·rfl
theorem kLf {S:SpXX}{R:List (List Rule)}{v:Vw}{a:Int}{k j:Nat}(h:kAl S.1 S.2.1 S.2.2=true∧vwOk v=true∧R.length=2) (hk:locI S.1 S.2.1 a=k) (hj:kC1 (R.getD k []) (a-S.2.1.getD k 0)=j) :
  unwA S R v a=(if((R.getD k []).getD j kEt).frame=true then
     match kBz v v.fp,kBz v (v.fp+1)with
     |some f,some pc=>some ⟨pc,v.fp+2,f,v.words.drop (v.fp+2-v.sp).toNat⟩
     | _,_=>none
    else
     match kBz v (v.sp+((R.getD k []).getD j kEt).depth)with
     |some pc=>some ⟨pc,v.sp+((R.getD k []).getD j kEt).depth+1,v.fp,v.words.drop (((R.getD k []).getD j kEt).depth+1).toNat⟩
     |none=>none):=by
 unfold unwA;rw[if_pos h,hk,Int.toNat_natCast,if_neg (by omega),hj,Int.toNat_natCast,if_neg (by omega)]
theorem kGx {I:List Image}{B E:List Int}(h:kAl I B E=true):I.length=2∧B.length=2∧1≤E.length∧E.length≤6:=by
 refine Classical.byContradiction fun hn=>?_
 rw[k2o hn]at h;cases h
theorem kI5 {I:List Image}{B E:List Int}(h:kAl I B E=true):∀i,i<2→1≤B.getD i 0∧B.getD i 0≤1000000:=by
 have hi:kEd I B 2=true:=by
  cases hi:kEd I B 2 with
  |true=>rfl
  |false=>rw[kRs hi]at h;cases h
 unfold kEd at hi;rw[List.all_eq_true]at hi;intro i hi2;have:=hi i (List.mem_range.2 hi2);rw[Bool.and_eq_true]at this;exact of_decide_eq_true this.2
theorem k8x {I:List Image}{B E:List Int}(h:kAl I B E=true):∀b∈B,1≤b∧b≤1000000:=by
 intro b hb;obtain⟨i,hi,rfl⟩:=List.mem_iff_getElem.1 hb;have:=kI5 h i (by have:=(kGx h).2.1;omega)
 rwa [List.getD_eq_getElem?_getD,List.getElem?_eq_getElem hi]at this
theorem kMs {I:List Image}{B E:List Int}(h:kAl I B E=true) {a:Int}(ha:a≤0):locI I B a<0:=by
 have hn:locI I B a=-1:=firstIdx_none fun i hi=>by
  have hi2:i<2:=by have:=(kGx h).1;rw[List.length_range]at hi;omega
  rw[List.getElem_range];unfold kCf;have:=kI5 h i hi2;rw[decide_eq_false (by omega),Bool.false_and]
 omega
theorem kHr {I:List Image}{B E:List Int}(h:kAl I B E=true) {a:Int}(ha:¬locI I B a<0):∃k:Nat,locI I B a=k∧k<2:=by
 have h1:=qKz I B a;have h2:=(kGx h).1;exact⟨(locI I B a).toNat,by omega,by omega⟩
theorem qHl {S:SpXX}{R:List (List Rule)}{v:Vw}{a:Int}(ha:a≤0):unwA S R v a=none:=by
 by_cases h:kAl S.1 S.2.1 S.2.2=true
 ·exact kKo (kMs h ha)
 ·exact kIc fun hh=>h hh.1
theorem kCa {v:Vw}{n z:Int}(h:kBz v n=some z):vwOk v=true∧v.sp≤n∧n≤v.sp+v.words.length-1∧z=v.words.getD (n-v.sp).toNat 0:=by
 unfold kBz at h;split at h
 ·rename_i hc;rw[Option.some.injEq]at h;exact⟨hc.1,hc.2.1,hc.2.2,h.symm⟩
 ·cases h
theorem kUr {v:Vw}{n z:Int}(hv:numV v) (h:kBz v n=some z):okN z:=by
 obtain⟨_,h1,h2,rfl⟩:=kCa h;have hlt:(n-v.sp).toNat<v.words.length:=by omega
 rw[List.getD_eq_getElem?_getD,List.getElem?_eq_getElem hlt];exact hv.2.2.2.2 _ (List.getElem_mem hlt)
theorem kZh {v:Vw}(hv:numV v) {pc sp fp:Int}(n:Nat) (h1:okN pc) (h2:okN sp) (h3:okN fp):numV ⟨pc,sp,fp,v.words.drop n⟩ :=
 ⟨h1,h2,h3,by have:=hv.2.2.2.1;simp only[List.length_drop];omega,fun w hw=>hv.2.2.2.2 w (List.mem_of_mem_drop hw)⟩
theorem qHm {S:SpXX}{R:List (List Rule)}{v:Vw}{a:Int}(hv:numV v) {x:Vw}(h:unwA S R v a=some x):numV x:=by
 by_cases hc:kAl S.1 S.2.1 S.2.2=true∧vwOk v=true∧R.length=2;rotate_left
 ·rw[kIc hc]at h;cases h
 by_cases hl:locI S.1 S.2.1 a<0
 ·rw[kKo hl]at h;cases h
 obtain⟨k,hk,_⟩:=kHr hc.1 hl;by_cases hr:kC1 (R.getD k []) (a-S.2.1.getD k 0)<0
 ·rw[kLe hk hr]at h;cases h
 obtain⟨j,hj⟩:∃j:Nat,kC1 (R.getD k []) (a-S.2.1.getD k 0)=j:=⟨(kC1 (R.getD k []) (a-S.2.1.getD k 0)).toNat,by omega⟩
 rw[kLf hc hk hj]at h;have hb:=of_decide_eq_true hc.2.1;split at h
 ·split at h
  ·rename_i hf f pc e1 e2;rw[Option.some.injEq]at h;subst h;have q1:=kCa e2;exact kZh hv _ (kUr hv e2) ⟨by omega,by omega⟩ (kUr hv e1)
  ·cases h
 ·split at h
  ·rename_i hf pc e1;rw[Option.some.injEq]at h;subst h;have q1:=kCa e1;exact kZh hv _ (kUr hv e1) ⟨by omega,by omega⟩ hv.2.2.1
  ·cases h
theorem kUq {S:SpXX}{R:List (List Rule)}{v:Vw}{i:Bool}(hv:numV v) {x:Vw}(h:unwS S R v i=some x):numV x:=qHm hv h
theorem kSp {L:List Rule}{o:Int}(h:¬kC1 L o<0):∃j:Nat,kC1 L o=j∧j<L.length:=by
 have hb:-1≤kC1 L o∧kC1 L o<L.length∨kC1 L o=-1:=by
  unfold kC1;split
  ·exact kKl (hitR o) L
  ·right;rfl
 exact⟨(kC1 L o).toNat,by omega,by omega⟩
theorem kLx {L:List Rule}{o:Int}{j:Nat}(h:kC1 L o=j) (hj:j<L.length):0≤L[j].depth∧L[j].depth≤1200:=by
 have hok:kGm L=true:=by
  cases hok:kGm L with
  |true=>rfl
  |false=>unfold kC1 at h;rw[hok]at h;simp at h
 unfold kGm kGl at hok;rw[List.all_eq_true]at hok;have:=of_decide_eq_true (hok j (List.mem_range.2 hj));rw[show L.getD j kEt=L[j]by rw[List.getD_eq_getElem?_getD,List.getElem?_eq_getElem hj];rfl]at this
 omega
theorem kJr (S:SpXX) (R:List (List Rule)) (n:Nat) (i:Bool) (v:Vw):kJp S R (n+1) i v=(match unwS S R v i with
  |none=>([],false)
  |some x=>if x.pc=0 then([],true)else(x.pc::(kJp S R n false x).1,(kJp S R n false x).2)):=rfl
def unwI (S:SpXX) (R:List (List Rule)) (n:Nat) (v:Vw):List Int×Bool:=kJp S R (40-n) (decide (n=1)) v
theorem kZi {S:SpXX}{R:List (List Rule)}{n:Nat}{v:Vw}(h:n<40) (e:unwS S R v (decide (n=1))=none):unwI S R n v=([],false):=by
 unfold unwI;rw[show 40-n=(40-(n+1))+1 by omega,kJr,e]
theorem k2p {S:SpXX}{R:List (List Rule)}{n:Nat}{v x:Vw}(h:n<40) (e:unwS S R v (decide (n=1))=some x) (h0:x.pc=0):unwI S R n v=([],true):=by
 unfold unwI;rw[show 40-n=(40-(n+1))+1 by omega,kJr,e]
 exact if_pos h0
theorem kZj {S:SpXX}{R:List (List Rule)}{n:Nat}{v x:Vw}(h:n<40) (hn:1≤n) (e:unwS S R v (decide (n=1))=some x) (h0:¬x.pc=0):unwI S R n v=(x.pc::(unwI S R (n+1) x).1,(unwI S R (n+1) x).2):=by
 unfold unwI;rw[show 40-n=(40-(n+1))+1 by omega,kJr,e]
 simp only;rw[if_neg h0,show decide (n+1=1)=false from decide_eq_false (by omega)]
theorem kZk {S:SpXX}{R:List (List Rule)}{n:Nat}{v:Vw}(h:¬n<40):unwI S R n v=([],false):=by
 unfold unwI;rw[show 40-n=0 by omega]
 rfl
theorem kZl (S:SpXX) (R:List (List Rule)) (v:Vw):unwind S R v=(v.pc::(unwI S R 1 v).1,(unwI S R 1 v).2):=rfl
end Go.Proofs.YtjdklcjoeanimaaGreat

namespace Go.Proofs.YtjdklcjoeanimaaGreat
open Go.Vc
attribute [local irreducible] Go.Vc.WP
attribute [local go_sem] kAd kAe
open Go.Pl
attribute [local go_sem] kAf kAg spA kA4 vwA kFt
def kFl (r:List Rule):List SV:=[.sl 4 (r.map encRule)]
def oneRL:List SV→List Rule
 | [.sl _ r]=>kF2 r
 | _=>[]
def kTe (rows:List (List SV)):List (List Rule):=rows.map oneRL
theorem kGs (R:List (List Rule)):kTe (R.map kFl)=R:=by
 unfold kTe;rw[List.map_map];exact List.map_id'' (fun r=>by show kF2 (r.map encRule)=r;exact kA4 r) R
attribute [local go_sem] kGs
def kEl (S:SpXX) (R:List (List Rule)) (v:Vw):Prop:=kDx S∧(∀r∈R,r.length≤4194304)∧numV v
def locS (S:SpXX) (a:Int):Int:=if kAl S.1 S.2.1 S.2.2=true then locI S.1 S.2.1 a else -1
def offS (S:SpXX) (a:Int):Int:=if kAl S.1 S.2.1 S.2.2=true then(if locI S.1 S.2.1 a<0 then -1 else a-S.2.1.getD (locI S.1 S.2.1 a).toNat 0)else -1
theorem kH1 {S:SpXX}(h:kDx S) (hok:kAl S.1 S.2.1 S.2.2=true) (a:Int):kLj (S,a) :=
 ⟨h.1,by have:=kGx hok;show S.2.1.length=S.1.length;omega,fun b hb=>by have:=k8x hok b hb;omega⟩
def k0r:Ctr:=pur (fun args=>(spA args 0,aI args 1)) (fun x=>[.agg [.sl 2 (x.1.1.map encImage),.sl 1 (x.1.2.1.map encI),.sl 1 (x.1.2.2.map encI)],.v (.int .i64 x.2)]) (fun x=>kDx x.1)
 (fun _ x=>.tup [.v (.int .i64 (locS x.1 x.2)),.v (.int .i64 (offS x.1 x.2))]) (fun _ _=>[])
section
attribute [local irreducible] kDx kLj
noncomputable def qC0:=mkX [(79,kFk),(153,kLoc)] (COk.cons k2x (COk.cons qCc (COk.nil _)))
theorem qTj:qC0.tys=tys:=rfl
theorem qTk:qC0.C=[(79,kFk),(153,kLoc)]:=rfl
attribute [local go_sem] qTj qTk kFk kLoc
theorem cLoccS:Cn Tryz.prog 221 k0r:=by
 refine Cn.pur Tryz.func221 (by kernel_rfl) rfl fun d x hx=>?_
 obtain⟨⟨I,B,E⟩,a⟩:=x;have hpre:kDx (I,B,E):=hx;simp only;refine Holds.go (c:=qC0) Tryz.func221 rfl Tryz.results221 Tryz.ntmps221 (by omega) (by simp) rfl ?_
 intro X0 w0
 cases hs:kAl I B E with
 |false =>
  have e1:locS (I,B,E) a=-1:=if_neg (by rw[hs];simp)
  have e2:offS (I,B,E) a=-1:=if_neg (by rw[hs];simp)
  rw[e1,e2]
  (repeat' (first|apply zS|apply zB|(apply zW;simp only[go_sem,hs])|apply And.intro|intro _))
  all_goals first|omega|exact hpre|rfl|skip
 |true =>
  have e1:locS (I,B,E) a=locI I B a:=if_pos hs;have e2:offS (I,B,E) a=(if locI I B a<0 then -1 else a-B.getD (locI I B a).toNat 0):=if_pos hs
  rw[e1,e2];have hl:=kH1 hpre hs a
  (repeat' (first|apply zS|apply zB|(apply zW;simp only[go_sem,hs])|apply And.intro|intro _))
  all_goals first|omega|exact hpre|exact hl|rfl|skip
end
def uwV (S:SpXX) (R:List (List Rule)) (v:Vw) (i:Bool):Vw:=(unwS S R v i).getD ⟨0,0,0,[]⟩
def kUnwS:Ctr:=pur (fun args=>(spA args 0,kTe (aR args 1),vwA args 2,aB args 3)) (fun x=>[.agg [.sl 2 (x.1.1.map encImage),.sl 1 (x.1.2.1.map encI),.sl 1 (x.1.2.2.map encI)],.sl 1 (x.2.1.map kFl),.agg [.v (.int .i64 x.2.2.1.pc),.v (.int .i64 x.2.2.1.sp),.v (.int .i64 x.2.2.1.fp),.sl 1 (x.2.2.1.words.map encI)],.v (.bool x.2.2.2)]) (fun x=>kEl x.1 x.2.1 x.2.2.1)
 (fun d x=>.tup [.agg [.v (.int .i64 (uwV x.1 x.2.1 x.2.2.1 x.2.2.2).pc),.v (.int .i64 (uwV x.1 x.2.1 x.2.2.1 x.2.2.2).sp),.v (.int .i64 (uwV x.1 x.2.1 x.2.2.1 x.2.2.2).fp),.own d],.v (.bool (unwS x.1 x.2.1 x.2.2.1 x.2.2.2).isSome)])
 (fun d x=>[(d,.sl 3 1 ((uwV x.1 x.2.1 x.2.2.1 x.2.2.2).words.map encI))])
theorem kC5 {S:SpXX}{R:List (List Rule)}{v:Vw}{i:Bool}(h:unwS S R v i=none):uwV S R v i=⟨0,0,0,[]⟩:=by unfold uwV;rw[h];rfl
theorem k5h {S:SpXX}{R:List (List Rule)}{v x:Vw}{i:Bool}(h:unwS S R v i=some x):uwV S R v i=x:=by unfold uwV;rw[h];rfl
theorem kTf {R:List (List Rule)}{k:Nat}(h:k<R.length):R.getD k []=R[k]:=by rw[List.getD_eq_getElem?_getD,List.getElem?_eq_getElem h];rfl
end Go.Proofs.YtjdklcjoeanimaaGreat

