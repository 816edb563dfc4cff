/- DERIVED. Steps of the proof. -/
import Derived.Test.YtjdklcjoeanimaaGreatVf12
import Derived.Test.YtjdklcjoeanimaaGreatVf13
set_option linter.all false
set_option maxHeartbeats 1000000
set_option maxRecDepth 10000
namespace Go.Proofs.YtjdklcjoeanimaaGreat
attribute [local irreducible] Go.Vc.WP
section
open Go.Vc Tryz
open Go.Pl
@[go_sem] def qKv:Ctr:=pur (fun args=>(spA args 0,kY3 (aR args 1),vwA args 2,aB args 3)) (fun x=>[.agg [.sl 2 (x.1.1.map encImage),.sl 1 (x.1.2.1.map encI),.sl 1 (x.1.2.2.map encI)],.sl 1 (x.2.1.map kG9),.agg [vi x.2.2.1.pc,vi x.2.2.1.sp,vi x.2.2.1.fp,.sl 1 (x.2.2.1.words.map encI)],.v (.bool x.2.2.2)]) (fun x=>kGb x.1 x.2.1 x.2.2.1)
 (fun _ x=>.tup [.agg [vi ((uwV x.1 x.2.1 x.2.2.1 x.2.2.2).pc),vi ((uwV x.1 x.2.1 x.2.2.1 x.2.2.2).sp),vi ((uwV x.1 x.2.1 x.2.2.1 x.2.2.2).fp),.sl 1 ((uwV x.1 x.2.1 x.2.2.1 x.2.2.2).words.map encI)],.v (.bool (kG7 x.1 x.2.1 x.2.2.1 x.2.2.2).isSome)]) (fun _ _=>[])
theorem kY5 (L:List Int):kMc (L.map encI):=by
 intro row hr c hc;obtain⟨n,_,rfl⟩:=jCr.1 hr;simp only[encI,jDr,jJw,or_false]at hc;exact⟨_,hc⟩
theorem qQ1:Cq 164 qKv:=Cn.frz cUnwSS (fun d x id e s rows h=>by
  have hm:=kBf h;simp only[jDr,jJw,or_false,jCx,Ob.sl.injEq]at hm;obtain⟨_,_,_,rfl⟩:=hm;exact kY5 _) (fun d x=>by simp[SV.up,SV.up2,kUf,lk])
theorem qQ2:Cq 190 qKv:=Cn.frz cUnwSI (fun d x id e s rows h=>by
  have hm:=kBf h;simp only[jDr,jJw,or_false,jCx,Ob.sl.injEq]at hm;obtain⟨_,_,_,rfl⟩:=hm;exact kY5 _) (fun d x=>by simp[SV.up,SV.up2,kUf,lk])
def kUnw:Ctr:=pur (fun args=>(spA args 0,kY3 (aR args 1),vwA args 2)) (fun x=>[.agg [.sl 2 (x.1.1.map encImage),.sl 1 (x.1.2.1.map encI),.sl 1 (x.1.2.2.map encI)],.sl 1 (x.2.1.map kG9),.agg [vi x.2.2.pc,vi x.2.2.sp,vi x.2.2.fp,.sl 1 (x.2.2.words.map encI)]]) (fun x=>kGb x.1 x.2.1 x.2.2)
 (fun d x=>.tup [.own d,.v (.bool (unwind x.1 x.2.1 x.2.2).2)]) (fun d x=>[(d,.sl 3 1 ((unwind x.1 x.2.1 x.2.2).1.map encI))])
@[go_sem] def kUnwZ:Ctr:=pur (fun args=>(spA args 0,kY3 (aR args 1),vwA args 2)) (fun x=>[.agg [.sl 2 (x.1.1.map encImage),.sl 1 (x.1.2.1.map encI),.sl 1 (x.1.2.2.map encI)],.sl 1 (x.2.1.map kG9),.agg [vi x.2.2.pc,vi x.2.2.sp,vi x.2.2.fp,.sl 1 (x.2.2.words.map encI)]]) (fun x=>kGb x.1 x.2.1 x.2.2)
 (fun _ x=>.tup [.sl 1 ((unwind x.1 x.2.1 x.2.2).1.map encI),.v (.bool (unwind x.1 x.2.1 x.2.2).2)]) (fun _ _=>[])
section
attribute [local irreducible] kEk kGb
def cxUwS:=kc qQ1 kn
set_option maxHeartbeats 4000000 in
theorem cUnwS:Cq 90 kUnw:=by
 refine zp fun d x hx=>?_
 obtain⟨⟨I,B,E⟩,R,⟨pc0,sp0,fp0,wd0⟩⟩:=x;unfold kGb at hx;obtain⟨hsp,hRl,k3t⟩:=hx;simp only at hsp hRl k3t⊢;refine zg cxUwS func90 rfl rfl ntmps90 ?_;intros;refine zy trivial ?_
 refine zM (fun s:Vw×List Int=>⟨[(1,.sl 1 (R.map kG9)),(3,.ptr 3 0 0 0),(5,.ptr 5 0 0 0),(8,.own 13)],[(3,.box 51 [.sl 2 (I.map encImage),.sl 1 (B.map encI),.sl 1 (E.map encI)]),(5,.box 96 [vi s.1.pc,vi s.1.sp,vi s.1.fp,.sl 1 (s.1.words.map encI)]),(13,.sl 3 1 (s.2.map encI))]⟩)
  (fun s=>kHj s.1∧1≤s.2.length∧s.2.length≤40∧unwind (I,B,E) R ⟨pc0,sp0,fp0,wd0⟩=(s.2++(kLu (I,B,E) R s.2.length s.1).1,(kLu (I,B,E) R s.2.length s.1).2)) (fun s=>40-s.2.length) (⟨pc0,sp0,fp0,wd0⟩,[pc0]) ⟨k3t,zs,zs,by rw[k5x];rfl⟩ ?_
 rintro⟨v,O⟩ ⟨hnum,hO1,hO,hI⟩;simp only at hnum hO1 hO hI⊢;by_cases hlt:O.length<40;rotate_left
 ·have hge:¬(O.length:Int)<40:=zo;rw[k5w hlt]at hI;rw[hI]
  (repeat' (first|apply zS|apply zB|(apply zW;simp only[go_sem,hge,jSt])|apply jAi|exact zc2|intro _))
 have hli:(O.length:Int)<40:=zo;have hpre:kGb (I,B,E) R v:=by unfold kGb;exact⟨hsp,hRl,hnum⟩
 have hin:((O.length:Int)==1)=decide (O.length=1):=by
  rw[wGj,beq_iff_eq,decide_eq_true_eq];omega
 cases hu:kG7 (I,B,E) R v (decide (O.length=1))with
 |none =>
  have hV:=kD1 hu;rw[k5u hlt hu,jSt]at hI;rw[hI]
  exact zx (z4 hli hin hu hV)
 |some x =>
  have hV:=qA2 hu;have hxn:=k0l hnum hu;obtain⟨xpc,xsp,xfp,xw⟩:=x;by_cases h0:xpc=0
  ·rw[k89 hlt hu h0,jSt]at hI;rw[hI];exact zx (z5 hli hin hu hV h0)
  ·rw[k5v hlt hO1 hu h0]at hI
   (repeat' (first|apply zS|apply zB|(apply zW;simp only[go_sem,hli,hin,hu,hV,h0])|apply jAi|omega|exact hpre|rfl|intro _))
   all_goals first|exact⟨(⟨xpc,xsp,xfp,xw⟩,O++[xpc]),⟨hxn,zs,by simp;omega,by rw[hI];simp⟩,by simp;omega,by simp only[jNq,jHi,jRt,encI];(first|(and_intros<;>rfl)|simp)⟩|trace_state
def cxUwI:=kc qQ2 kn
set_option maxHeartbeats 4000000 in
theorem cUnwI:Cq 115 kUnw:=by
 refine zp fun d x hx=>?_
 obtain⟨⟨I,B,E⟩,R,⟨pc0,sp0,fp0,wd0⟩⟩:=x;unfold kGb at hx;obtain⟨hsp,hRl,k3t⟩:=hx;simp only at hsp hRl k3t⊢;refine zg cxUwI func115 rfl rfl ntmps115 ?_;intros;refine zy trivial ?_
 refine zM (fun s:Vw×List Int=>⟨[(1,.sl 1 (R.map kG9)),(3,.ptr 3 0 0 0),(5,.ptr 5 0 0 0),(8,.own 13)],[(3,.box 51 [.sl 2 (I.map encImage),.sl 1 (B.map encI),.sl 1 (E.map encI)]),(5,.box 96 [vi s.1.pc,vi s.1.sp,vi s.1.fp,.sl 1 (s.1.words.map encI)]),(13,.sl 3 1 (s.2.map encI))]⟩)
  (fun s=>kHj s.1∧1≤s.2.length∧s.2.length≤40∧unwind (I,B,E) R ⟨pc0,sp0,fp0,wd0⟩=(s.2++(kLu (I,B,E) R s.2.length s.1).1,(kLu (I,B,E) R s.2.length s.1).2)) (fun s=>40-s.2.length) (⟨pc0,sp0,fp0,wd0⟩,[pc0]) ⟨k3t,zs,zs,by rw[k5x];rfl⟩ ?_
 rintro⟨v,O⟩ ⟨hnum,hO1,hO,hI⟩;simp only at hnum hO1 hO hI⊢;by_cases hlt:O.length<40;rotate_left
 ·have hge:¬(O.length:Int)<40:=zo;rw[k5w hlt]at hI;rw[hI]
  (repeat' (first|apply zS|apply zB|(apply zW;simp only[go_sem,hge,jSt])|apply jAi|exact zc2|intro _))
 have hli:(O.length:Int)<40:=zo;have hpre:kGb (I,B,E) R v:=by unfold kGb;exact⟨hsp,hRl,hnum⟩
 have hin:((O.length:Int)==1)=decide (O.length=1):=by
  rw[wGj,beq_iff_eq,decide_eq_true_eq];omega
 cases hu:kG7 (I,B,E) R v (decide (O.length=1))with
 |none =>
  have hV:=kD1 hu;rw[k5u hlt hu,jSt]at hI;rw[hI]
  exact zx (z4 hli hin hu hV)
 |some x =>
  have hV:=qA2 hu;have hxn:=k0l hnum hu;obtain⟨xpc,xsp,xfp,xw⟩:=x;by_cases h0:xpc=0
  ·rw[k89 hlt hu h0,jSt]at hI;rw[hI];exact zx (z5 hli hin hu hV h0)
  ·rw[k5v hlt hO1 hu h0]at hI
   (repeat' (first|apply zS|apply zB|(apply zW;simp only[go_sem,hli,hin,hu,hV,h0])|apply jAi|omega|exact hpre|rfl|intro _))
   all_goals first|exact⟨(⟨xpc,xsp,xfp,xw⟩,O++[xpc]),⟨hxn,zs,by simp;omega,by rw[hI];simp⟩,by simp;omega,by simp only[jNq,jHi,jRt,encI];(first|(and_intros<;>rfl)|simp)⟩|trace_state
end
theorem cUnwSz:Cq 90 kUnwZ:=Cn.kMm (fun x=>kY5 _) cUnwS
theorem cUnwIz:Cq 115 kUnwZ:=Cn.kMm (fun x=>kY5 _) cUnwI
end
section
open Go.Vc Tryz
def kRt:FP:=⟨16,[fc [1] [] [18],fc [6] [0] [18],fc [7] [0,1] [18],fc [1] [] [18],fc [9] [3] [18],fc [10] [3,4] [18],fc [1] [] [18],fc [12] [6] [18],fc [13] [6,7] [18],fc [1] [] [18],fc [15] [9] [18],fc [16] [9,10] [18],⟨[11,14,17],[3,4,5,6,7,8,9,10,11],[],[],[],[18]⟩,fc [1] [] [18],fc [19] [13] [18],fc [20] [13,14] [18],fn 16,fn 17,fn 18,fn 19],[6,7,8,9,10,11,12,13,14,15,16,17,18,19,20,21],[18],[]⟩
attribute [local go_sem] kRt
def kE8 (x:Int×Vw):ByteArray:=if kHi x=true then varint x.1++pack (x.2.pc::x.2.sp::x.2.fp::x.2.words)else⟨#[]⟩
theorem kW7 (L:List Int):(pack L).size≤6+6*L.length:=by
 unfold pack;split
 ·have h1:=kVg (varint L.length) L;have h2:=kF1 L.length;omega
 ·simp[ByteArray.size]
@[go_sem] def qI8:Ctr:=pur (fun args=>smA args 0) (fun x=>[.agg [vi x.1,vi x.2.pc,vi x.2.sp,vi x.2.fp,.sl 1 (x.2.words.map encI)]]) (fun x=>x.2.words.length≤1048576) (fun _ x=>.v (.string (kE8 x))) (fun _ _=>[])
section
def cxEsS:=kc k9n (kc qGl (kc cPackS kn))
theorem qCx:Cq 88 qI8:=by
 refine zp fun d x hx=>?_
 obtain⟨t,a,b,c,w⟩:=x;simp only at hx⊢;have v1:=kF1 t;have v2:=kW7 (a::b::c::w);simp only[jGk]at v2;have hm:[SV.v (.int .i64 a)]::[SV.v (.int .i64 b)]::[SV.v (.int .i64 c)]::w.map encI=(a::b::c::w).map encI:=rfl;have hlen:(a::b::c::w).length≤2097152:=by simp only[jGk];omega
 refine zg cxEsS func88 rfl rfl ntmps88 ?_;intros
 cases hok:kHi (t,⟨a,b,c,w⟩)with
 |false =>
  have e:kE8 (t,⟨a,b,c,w⟩)=⟨#[]⟩:=by unfold kE8;rw[hok];rfl
  rw[e]
  (repeat' (first|apply zS|apply zB|((first|apply zW| refine zf kRt ?_);simp only[go_sem,hok])|apply jAi|exact zc2|intro _))
 |true =>
  have e:kE8 (t,⟨a,b,c,w⟩)=varint t++pack (a::b::c::w):=if_pos hok;rw[e];generalize a::b::c::w=Z at hm v2 hlen
  (repeat' (first|apply zS|apply zB|((first|apply zW| refine zf kRt ?_);simp only[go_sem,hok,hm])|apply jAi|exact zc4|intro _))
end
end
section
open Go.Vc Tryz
open Go.Pl
def kBu (R:List ByteArray) (k:Nat):Nat:=((R.take k).map (·.size)).sum
theorem k6n {R:List ByteArray}{k:Nat}(h:k<R.length):kBu R (k+1)=kBu R k+R[k].size:=by
 unfold kBu;rw[jQw h,jNq,yAk];simp
theorem kYz (R:List ByteArray) (k:Nat):kBu R k≤kBu R R.length:=by
 unfold kBu;rw[jJ3]
 conv=>rhs;rw[←vCk k R]
 rw[jNq,yAk];omega
@[go_sem] def kByt:Ctr:=pur (fun args=>kNn (aR args 0)) (fun R=>[.sl 1 (R.map encS)]) (fun R=>R.length≤4194304∧kBu R R.length≤1099511627776) (fun _ R=>vi (kBu R R.length)) (fun _ _=>[])
abbrev RgX:=Int×List ByteArray×Int×Int
@[go_sem] def rgA (args:List SV) (i:Nat):RgX:=match args[i]? with
 |some (.agg [.v (.int _ a),.sl _ r,.v (.int _ b),.v (.int _ c)])=>(a,kNn r,b,c)
 | _=>(0,[],0,0)
def kEu (x:RgX):Bool:=x.2.1.all (fun s=>decide (s≠⟨#[]⟩))&&decide ((0≤x.1∧x.1≤100000)∧(kBu x.2.1 x.2.1.length:Int)≤x.1∧((x.2.1.length:Int)≤x.2.2.1∧x.2.2.1≤1000000000000)∧0≤x.2.2.2∧x.2.2.2≤1000000000000)
@[go_sem] def kRgOk:Ctr:=pur (fun args=>rgA args 0) (fun x=>[.agg [vi x.1,.sl 1 (x.2.1.map encS),vi x.2.2.1,vi x.2.2.2]]) (fun x=>x.2.1.length≤4194304∧kBu x.2.1 x.2.1.length≤1099511627776) (fun _ x=>.v (.bool (kEu x))) (fun _ _=>[])
section
def cxByI:=COk.nil Tryz.prog
theorem kZu {p:Prop}(h:p:=by first|omega|exact⟨k+1,by omega,by omega,by rw[hsi];(first|(and_intros<;>rfl)|simp)⟩):p:=h
theorem cBytI:Cq 183 kByt:=by
 refine zp fun d x hx=>?_
 rename List ByteArray=>R
 obtain⟨hR,hz⟩:=hx;refine zg cxByI func183 rfl rfl ntmps183 ?_;intros;refine zy trivial ?_;refine zL (fun k:Nat=>⟨[(3,vi (kBu R k)),(6,.sl 1 (R.map encS)),(7,vi R.length),(8,vi k)],[]⟩) (fun k=>k≤R.length) (fun k=>R.length-k) 0 zs ?_ ?_
 ·have h0:kBu R 0=0:=rfl
  (simp only[go_sem,h0]<;>(first|(and_intros<;>rfl)|simp))
 intro k hk;have hl:=kYz R k;have hl1:=kYz R (k+1);by_cases hlt:k<R.length
 ·have hli:(k:Int)<R.length:=zo;have hr:=kAa encS R k hlt;have hsu:=k6n hlt;have hsi:((kBu R (k+1):Nat):Int)=(kBu R k:Int)+(R[k].size:Int):=by rw[hsu,Int.natCast_add]
  (repeat' (first|apply zS|apply zB|(apply zW;simp only[go_sem,hli,hr,encS])|apply jAi|exact kZu|intro _))
 ·have hge:¬(k:Int)<R.length:=zo;obtain rfl:k=R.length:=zo;exact zx hge
end
section
def cxByS:=COk.nil Tryz.prog
theorem cBytS:Cq 157 kByt:=by
 refine zp fun d x hx=>?_
 rename List ByteArray=>R
 obtain⟨hR,hz⟩:=hx;refine zg cxByS func157 rfl rfl ntmps157 ?_;intros;refine zy trivial ?_;refine zL (fun k:Nat=>⟨[(0,.sl 1 (R.map encS)),(3,vi (kBu R k)),(4,vi k)],[]⟩) (fun k=>k≤R.length) (fun k=>R.length-k) 0 zs ?_ ?_
 ·have h0:kBu R 0=0:=rfl
  (simp only[go_sem,h0]<;>(first|(and_intros<;>rfl)|simp))
 intro k hk;have hl:=kYz R k;have hl1:=kYz R (k+1);by_cases hlt:k<R.length
 ·have hli:(k:Int)<R.length:=zo;have hr:=kAa encS R k hlt;have hsu:=k6n hlt;have hsi:((kBu R (k+1):Nat):Int)=(kBu R k:Int)+(R[k].size:Int):=by rw[hsu,Int.natCast_add]
  (repeat' (first|apply zS|apply zB|(apply zW;simp only[go_sem,hli,hr,encS])|apply jAi|exact kZu|intro _))
 ·have hge:¬(k:Int)<R.length:=zo;obtain rfl:k=R.length:=zo;exact zx hge
end
section
def cxRoI:=kc c60 (kc cBytI kn)
set_option maxHeartbeats 2000000 in
theorem qAj:Cq 107 kRgOk:=by
 refine zp fun d x hx=>?_
 obtain⟨cp,R,wr,lo⟩:=x;obtain⟨hR,hz⟩:=hx;simp only at hR hz⊢;have mod:kEu (cp,R,wr,lo)=(R.all (fun s=>decide (s≠⟨#[]⟩))&&decide ((0≤cp∧cp≤100000)∧(kBu R R.length:Int)≤cp∧((R.length:Int)≤wr∧wr≤1000000000000)∧0≤lo∧lo≤1000000000000)):=rfl
 rw[mod];refine zg cxRoI func107 rfl rfl ntmps107 ?_;intros;refine zy1 24 trivial ?_
 refine zM (fun k:Nat=>⟨[(1,.ptr 1 0 0 0),(6,.sl 1 (R.map encS)),(7,vi R.length),(8,vi k)],[(1,.box 56 [vi cp,.sl 1 (R.map encS),vi wr,vi lo])]⟩)
  (fun k=>k≤R.length∧∀i (hi:i<R.length),i<k→R[i]≠⟨#[]⟩) (fun k=>R.length-k) 0 zs ?_
 intro k ⟨hk,hf⟩;by_cases hlt:k<R.length
 ·have hli:(k:Int)<R.length:=zo;have hr:=kAa encS R k hlt;by_cases he:R[k]=⟨#[]⟩
  ·have ha:R.all (fun s=>decide (s≠⟨#[]⟩))=false:=vMt.2 ⟨_,jCn hlt,by simp[he]⟩
   rw[ha,jK2];exact zx1 24 (z4 hli hr encS.eq_1 he)
  ·(repeat' (first|apply zS|apply zB|((first|apply zW| refine zd 24 ?_);simp only[go_sem,hli,hr,encS,he])|apply jAi|intro _))
   all_goals first|omega|exact⟨k+1,⟨zo,fun i hi hik=>by
    rcases jFx i k with h|h
    ·exact hf i hi h
    ·have:i=k:=zo;subst this;exact he⟩,zo,zh⟩|skip
 ·have hge:¬(k:Int)<R.length:=zo
  have ha:R.all (fun s=>decide (s≠⟨#[]⟩))=true:=jDl.2 fun s hs=>by
   obtain⟨i,hi,rfl⟩:=jWa.1 hs;rw[decide_eq_true_eq];exact hf i hi zo
  have e:decide ((0≤cp∧cp≤100000)∧(kBu R R.length:Int)≤cp∧((R.length:Int)≤wr∧wr≤1000000000000)∧0≤lo∧lo≤1000000000000)=((decide (0≤cp)&&decide (cp≤100000))&&decide ((kBu R R.length:Int)≤cp)&&(decide ((R.length:Int)≤wr)&&decide (wr≤1000000000000))&&(decide (0≤lo)&&decide (lo≤1000000000000))):=by
   rw[wGj];simp only[decide_eq_true_eq,jBs];omega
  rw[ha,jPw,e];exact zx1 24 hge
end
section
def cxRoS:=kc c58 (kc cBytS kn)
set_option maxHeartbeats 2000000 in
theorem qAi:Cq 83 kRgOk:=by
 refine zp fun d x hx=>?_
 obtain⟨cp,R,wr,lo⟩:=x;obtain⟨hR,hz⟩:=hx;simp only at hR hz⊢;have mod:kEu (cp,R,wr,lo)=(R.all (fun s=>decide (s≠⟨#[]⟩))&&decide ((0≤cp∧cp≤100000)∧(kBu R R.length:Int)≤cp∧((R.length:Int)≤wr∧wr≤1000000000000)∧0≤lo∧lo≤1000000000000)):=rfl
 rw[mod];refine zg cxRoS func83 rfl rfl ntmps83 ?_;intros;refine zy1 24 trivial ?_
 refine zM (fun k:Nat=>⟨[(1,.ptr 1 0 0 0),(3,vi k)],[(1,.box 56 [vi cp,.sl 1 (R.map encS),vi wr,vi lo])]⟩)
  (fun k=>k≤R.length∧∀i (hi:i<R.length),i<k→R[i]≠⟨#[]⟩) (fun k=>R.length-k) 0 zs ?_
 intro k ⟨hk,hf⟩;by_cases hlt:k<R.length
 ·have hli:(k:Int)<R.length:=zo;have hr:=kAa encS R k hlt;by_cases he:R[k]=⟨#[]⟩
  ·have ha:R.all (fun s=>decide (s≠⟨#[]⟩))=false:=vMt.2 ⟨_,jCn hlt,by simp[he]⟩
   rw[ha,jK2];exact zx1 24 (z4 hli hr encS.eq_1 he)
  ·(repeat' (first|apply zS|apply zB|((first|apply zW| refine zd 24 ?_);simp only[go_sem,hli,hr,encS,he])|apply jAi|intro _))
   all_goals first|omega|exact⟨k+1,⟨zo,fun i hi hik=>by
    rcases jFx i k with h|h
    ·exact hf i hi h
    ·have:i=k:=zo;subst this;exact he⟩,zo,zh⟩|skip
 ·have hge:¬(k:Int)<R.length:=zo
  have ha:R.all (fun s=>decide (s≠⟨#[]⟩))=true:=jDl.2 fun s hs=>by
   obtain⟨i,hi,rfl⟩:=jWa.1 hs;rw[decide_eq_true_eq];exact hf i hi zo
  have e:decide ((0≤cp∧cp≤100000)∧(kBu R R.length:Int)≤cp∧((R.length:Int)≤wr∧wr≤1000000000000)∧0≤lo∧lo≤1000000000000)=((decide (0≤cp)&&decide (cp≤100000))&&decide ((kBu R R.length:Int)≤cp)&&(decide ((R.length:Int)≤wr)&&decide (wr≤1000000000000))&&(decide (0≤lo)&&decide (lo≤1000000000000))):=by
   rw[wGj];simp only[decide_eq_true_eq,jBs];omega
  rw[ha,jPw,e];exact zx1 24 hge
end
abbrev SeX:=PcX×Tm×RgX×Int×Int×Int
def aggSe (x:SeX):List SV:=[.sl 2 (x.1.1.1.map encImage),.sl 1 (x.1.1.2.1.map encI),.sl 1 (x.1.1.2.2.map encI),.sl 7 (x.1.2.1.map encMach),vi x.1.2.2.1,vi x.1.2.2.2.1,vi x.1.2.2.2.2,
 vi x.2.1.period,vi x.2.1.spread,vi x.2.1.left,vi x.2.1.state,vi x.2.2.1.1,.sl 1 (x.2.2.1.2.1.map encS),vi x.2.2.1.2.2.1,vi x.2.2.1.2.2.2,
 vi x.2.2.2.1,vi x.2.2.2.2.1,vi x.2.2.2.2.2]
@[go_sem] def seA (args:List SV) (i:Nat):SeX:=match args[i]? with
 |some (.agg [.sl _ a,.sl _ b,.sl _ c,.sl _ t,.v (.int _ x),.v (.int _ y),.v (.int _ z),.v (.int _ p),.v (.int _ q),.v (.int _ l),.v (.int _ st),.v (.int _ cp),.sl _ r,.v (.int _ wr),.v (.int _ lo),.v (.int _ m),.v (.int _ sp),.v (.int _ f)]) =>
  (((kDf a,kBs b,kBs c),kHg t,x,y,z),⟨p,q,l,st⟩,(cp,kNn r,wr,lo),m,sp,f)
 | _=>((([],[],[]),[],0,0,0),⟨0,0,0,0⟩,(0,[],0,0),0,0,0)
attribute [local go_sem] aggSe
def kAx (x:SeX):Bool:=kFa x.1&&kNg x.2.1&&kEu x.2.2.1&&decide ((0≤x.2.2.2.1∧x.2.2.2.1≤1200)∧(0≤x.2.2.2.2.1∧x.2.2.2.2.1≤1000000000000)∧0≤x.2.2.2.2.2∧x.2.2.2.2.2≤1000000000000)
def kEl (x:SeX):Prop:=kGl x.1∧x.2.2.1.2.1.length≤4194304∧kBu x.2.2.1.2.1 x.2.2.1.2.1.length≤1099511627776
@[go_sem] def kSeOk:Ctr:=pur (fun args=>seA args 0) (fun x=>[.agg (aggSe x)]) kEl (fun _ x=>.v (.bool (kAx x))) (fun _ _=>[])
def kJh (x:SeX):Bool:=(decide (0≤x.2.2.2.2.1)&&decide (x.2.2.2.2.1≤1000000000000))&&(decide (0≤x.2.2.2.2.2)&&decide (x.2.2.2.2.2≤1000000000000))&&(decide (0≤x.2.2.1.2.2.1)&&decide (x.2.2.1.2.2.1≤1000000000000))&&(decide (0≤x.2.2.1.2.2.2)&&decide (x.2.2.1.2.2.2≤1000000000000))
@[go_sem] def kCntOk:Ctr:=pur (fun args=>seA args 0) (fun x=>[.agg (aggSe x)]) (fun _=>True) (fun _ x=>.v (.bool (kJh x))) (fun _ _=>[])
section
def cxCoI:=kc c60 kn
theorem qCn:Cq 108 kCntOk:=by
 refine zp fun d x hx=>?_
 obtain⟨⟨⟨I,B,E⟩,T,tu,le,sl⟩,⟨p,q,l,st⟩,⟨cp,R,wr,lo⟩,mo,sp,fi⟩:=x;simp only[aggSe];have e:kJh (((I,B,E),T,tu,le,sl),⟨p,q,l,st⟩,(cp,R,wr,lo),mo,sp,fi)=((decide (0≤sp)&&decide (sp≤1000000000000))&&(decide (0≤fi)&&decide (fi≤1000000000000))&&(decide (0≤wr)&&decide (wr≤1000000000000))&&(decide (0≤lo)&&decide (lo≤1000000000000))):=rfl;rw[e];refine zg cxCoI func108 rfl rfl ntmps108 ?_;intros;exact zx trivial
end
section
def cxSoI:=kc c60 (kc cPcOkI (kc qKh (kc qAj (kc qCn kn))))
theorem k9k:Cq 46 kSeOk:=by
 refine zp fun d x hx=>?_
 obtain⟨⟨⟨I,B,E⟩,T,tu,le,sl⟩,⟨p,q,l,st⟩,⟨cp,R,wr,lo⟩,mo,sp,fi⟩:=x;obtain⟨hP,hR,hz⟩:=hx;simp only[aggSe]at hP hR hz⊢
 have e:kAx (((I,B,E),T,tu,le,sl),⟨p,q,l,st⟩,(cp,R,wr,lo),mo,sp,fi)=(kFa ((I,B,E),T,tu,le,sl)&&kNg ⟨p,q,l,st⟩&&kEu (cp,R,wr,lo)&&(decide (0≤mo)&&decide (mo≤1200))&&kJh (((I,B,E),T,tu,le,sl),⟨p,q,l,st⟩,(cp,R,wr,lo),mo,sp,fi)):=by
  rw[wGj];simp only[kAx,kJh,jBs,decide_eq_true_eq];constructor
  ·rintro⟨⟨⟨h1,h2⟩,h3⟩,h4⟩;have h5:=h3;unfold kEu at h5;simp only[jBs,decide_eq_true_eq]at h5;refine⟨⟨⟨⟨h1,h2⟩,h3⟩,?_⟩,?_⟩<;>omega
  ·rintro⟨⟨⟨⟨h1,h2⟩,h3⟩,h4⟩,h5⟩;refine⟨⟨⟨h1,h2⟩,h3⟩,?_⟩;omega
 rw[e];refine zg cxSoI func46 rfl rfl ntmps46 ?_;intros
 (repeat' (first|apply zS|apply zB|(apply zW;simp only[go_sem])|apply jAi|intro _))
 all_goals first|omega|exact hP|exact hP.1|exact hP.2.1|exact hP.2.2|exact hP.2.2 _ ‹_›|exact hP.1.1|exact hP.1.1.1|exact hP.1.1.2|exact hP.1.1.2 _ ‹_›|exact(hP.1.1.2 _ ‹_›).1|exact(hP.1.1.2 _ ‹_›).2.1|exact(hP.1.1.2 _ ‹_›).2.2 _ ‹_›|exact hP.1.2.1|exact hP.1.2.2|rfl|(rename_i h;first|exact h.1|exact h.2|exact h.1.1|exact h.1.2)|skip
end
section
def cxSoS:=kc c58 (kc qAw (kc qKi (kc qAi kn)))
theorem k2r:Cq 31 kSeOk:=by
 refine zp fun d x hx=>?_
 obtain⟨⟨⟨I,B,E⟩,T,tu,le,sl⟩,⟨p,q,l,st⟩,⟨cp,R,wr,lo⟩,mo,sp,fi⟩:=x;obtain⟨hP,hR,hz⟩:=hx;simp only[aggSe]at hP hR hz⊢
 have e:kAx (((I,B,E),T,tu,le,sl),⟨p,q,l,st⟩,(cp,R,wr,lo),mo,sp,fi)=(kFa ((I,B,E),T,tu,le,sl)&&kNg ⟨p,q,l,st⟩&&kEu (cp,R,wr,lo)&&(decide (0≤mo)&&decide (mo≤1200))&&(decide (0≤sp)&&decide (sp≤1000000000000))&&(decide (0≤fi)&&decide (fi≤1000000000000))):=by
  rw[wGj];simp only[kAx,jBs,decide_eq_true_eq,and_assoc]
 rw[e];refine zg cxSoS func31 rfl rfl ntmps31 ?_;intros
 (repeat' (first|apply zS|apply zB|(apply zW;simp only[go_sem])|apply jAi|intro _))
 all_goals first|omega|exact hP|exact hP.1|exact hP.2.1|exact hP.2.2|exact hP.2.2 _ ‹_›|exact hP.1.1|exact hP.1.1.1|exact hP.1.1.2|exact hP.1.1.2 _ ‹_›|exact(hP.1.1.2 _ ‹_›).1|exact(hP.1.1.2 _ ‹_›).2.1|exact(hP.1.1.2 _ ‹_›).2.2 _ ‹_›|exact hP.1.2.1|exact hP.1.2.2|rfl|(rename_i h;first|exact h.1|exact h.2|exact h.1.1|exact h.1.2)|skip
end
end
section
open Go.Vc Tryz
def kC2 (x:RgX):Prop:=x.2.1.length≤4194304∧kBu x.2.1 x.2.1.length≤1099511627776
@[go_sem] def kCpRg:Ctr:=pur (fun args=>rgA args 0) (fun x=>[.agg [vi x.1,.sl 1 (x.2.1.map encS),vi x.2.2.1,vi x.2.2.2]]) kC2
 (fun d x=>.agg [vi x.1,.own d,vi x.2.2.1,vi x.2.2.2]) (fun d x=>[(d,.sl 9 1 (x.2.1.map encS))])
section
def cxCrS:=COk.nil Tryz.prog
theorem qAg:Cq 77 kCpRg:=by
 refine zp fun d x hx=>?_
 obtain⟨cp,R,wr,lo⟩:=x;obtain⟨hR,hz⟩:=hx;simp only at hR hz⊢;refine zg cxCrS func77 rfl rfl ntmps77 ?_;intros;exact zx trivial
def cxCrI:=COk.nil Tryz.prog
theorem qAh:Cq 101 kCpRg:=by
 refine zp fun d x hx=>?_
 obtain⟨cp,R,wr,lo⟩:=x;obtain⟨hR,hz⟩:=hx;simp only at hR hz⊢;refine zg cxCrI func101 rfl rfl ntmps101 ?_;intros;exact zx trivial
end
def kDx (x:RgX) (s:ByteArray):RgX×Bool :=
 if kEu x=true∧s≠⟨#[]⟩then(if x.1<(kBu x.2.1 x.2.1.length:Int)+s.size then((x.1,x.2.1,x.2.2.1,x.2.2.2+1),false)else((x.1,x.2.1++[s],x.2.2.1+1,x.2.2.2),true))else(x,false)
@[go_sem] def qJ2:Ctr:=pur (fun args=>(rgA args 0,aS args 1)) (fun x=>[.agg [vi x.1.1,.sl 1 (x.1.2.1.map encS),vi x.1.2.2.1,vi x.1.2.2.2],.v (.string x.2)]) (fun x=>kC2 x.1∧x.2.size≤1099511627776)
 (fun d x=>.tup [.agg [vi ((kDx x.1 x.2).1.1),.own d,vi ((kDx x.1 x.2).1.2.2.1),vi ((kDx x.1 x.2).1.2.2.2)],.v (.bool (kDx x.1 x.2).2)]) (fun d x=>[(d,.sl 9 1 ((kDx x.1 x.2).1.2.1.map encS))])
theorem kWn {cp wr lo:Int}{R:List ByteArray}(h:kEu (cp,R,wr,lo)=true):(0≤cp∧cp≤100000)∧(kBu R R.length:Int)≤cp∧((R.length:Int)≤wr∧wr≤1000000000000)∧0≤lo∧lo≤1000000000000:=by
 unfold kEu at h;rw[jBs]at h;exact of_decide_eq_true h.2
section
attribute [local irreducible] kC2
def cxPuRS:=kc qAg (kc qAi (kc cBytS kn))
theorem kQs {p:Prop}(h:p:=by first|omega|exact hp|rfl|exact⟨_,_,rfl,_,_,rfl,rfl⟩|(rw[jNq];rfl)):p:=h
theorem qPw:Cq 209 qJ2:=by
 refine zp fun d x hx=>?_
 obtain⟨⟨cp,R,wr,lo⟩,s⟩:=x;obtain⟨hp,hs⟩:=hx;have hp':=hp;unfold kC2 at hp';obtain⟨hR,hz⟩:=hp';simp only at hs hR hz⊢;refine zg cxPuRS func209 rfl rfl ntmps209 ?_;intros
 cases hok:kEu (cp,R,wr,lo)with
 |false =>
  have e:kDx (cp,R,wr,lo) s=((cp,R,wr,lo),false):=if_neg (by rw[hok];simp)
  rw[e]
  exact zx1 9 hok
 |true =>
  have hb:=kWn hok;by_cases he:s=⟨#[]⟩
  ·have e:kDx (cp,R,wr,lo) s=((cp,R,wr,lo),false):=if_neg (fun hh=>hh.2 he)
   rw[e];exact zx1 9 (z2 hok he)
  ·by_cases hc:cp<(kBu R R.length:Int)+s.size
   ·have e:kDx (cp,R,wr,lo) s=((cp,R,wr,lo+1),false):=by unfold kDx;rw[if_pos ⟨hok,he⟩,if_pos hc]
    rw[e]
    (repeat' (first|apply zS|apply zB|((first|apply zW| refine zd 9 ?_);simp only[go_sem,hok,he,hc])|apply jAi|exact kQs|intro _))
   ·have e:kDx (cp,R,wr,lo) s=((cp,R++[s],wr+1,lo),true):=by unfold kDx;rw[if_pos ⟨hok,he⟩,if_neg hc]
    rw[e]
    (repeat' (first|apply zS|apply zB|((first|apply zW| refine zd 9 ?_);simp only[go_sem,hok,he,hc])|apply jAi|exact kQs|intro _))
def cxPuRI:=kc qAh (kc qAj (kc cBytI kn))
theorem qOd:Cq 213 qJ2:=by
 refine zp fun d x hx=>?_
 obtain⟨⟨cp,R,wr,lo⟩,s⟩:=x;obtain⟨hp,hs⟩:=hx;have hp':=hp;unfold kC2 at hp';obtain⟨hR,hz⟩:=hp';simp only at hs hR hz⊢;refine zg cxPuRI func213 rfl rfl ntmps213 ?_;intros
 cases hok:kEu (cp,R,wr,lo)with
 |false =>
  have e:kDx (cp,R,wr,lo) s=((cp,R,wr,lo),false):=if_neg (by rw[hok];simp)
  rw[e]
  exact zx1 9 hok
 |true =>
  have hb:=kWn hok;by_cases he:s=⟨#[]⟩
  ·have e:kDx (cp,R,wr,lo) s=((cp,R,wr,lo),false):=if_neg (fun hh=>hh.2 he)
   rw[e];exact zx1 9 (z2 hok he)
  ·by_cases hc:cp<(kBu R R.length:Int)+s.size
   ·have e:kDx (cp,R,wr,lo) s=((cp,R,wr,lo+1),false):=by unfold kDx;rw[if_pos ⟨hok,he⟩,if_pos hc]
    rw[e]
    (repeat' (first|apply zS|apply zB|((first|apply zW| refine zd 9 ?_);simp only[go_sem,hok,he,hc])|apply jAi|exact kQs|intro _))
   ·have e:kDx (cp,R,wr,lo) s=((cp,R++[s],wr+1,lo),true):=by unfold kDx;rw[if_pos ⟨hok,he⟩,if_neg hc]
    rw[e]
    (repeat' (first|apply zS|apply zB|((first|apply zW| refine zd 9 ?_);simp only[go_sem,hok,he,hc])|apply jAi|exact kQs|intro _))
end
end
section
open Go.Vc
structure Entry where
 stack:ByteArray
 count:Int
deriving DecidableEq
end
section
open Go.Pl
theorem qBj {N:List Node}{C:List Int}{L:List Frame}{n:Int}(h:(kAr N C L n).2=true):kA8 (kAr N C L n).1.1 (kAr N C L n).1.2=true:=by
 unfold kAr at h⊢;split
 ·rename_i hh;exact hh.2.2.2.2
 ·rename_i hh;rw[if_neg hh]at h;cases h
theorem k0i (C:List Int) (m k:Nat) (n:Int):(kP6 C m k n).length=max C.length m:=by
 simp[kP6];omega
theorem k8q (N:List Node) (C:List Int) (L:List Frame) (n:Int):(kAr N C L n).1.1.length≤N.length+L.length∧(kAr N C L n).1.2.length≤max C.length (N.length+L.length):=by
 have:=kU5 N L;unfold kAr;split
 ·simp only[k0i];omega
 ·simp only;omega
end
section
open Go.Vc Tryz
@[go_sem] def k0v (args:List SV) (i:Nat):List Node:=match args[i]? with
 |some (.agg [.sl _ rows])=>kH6 rows
 | _=>[]
theorem qBq {N:List Node}{k:Nat}{x:Node}(h:kJy (kRm x)=false):kGr N k x=false:=by
 cases hs:kGr N k x with
 |false=>rfl
 |true=>rw[(kQj.1 hs).2.2.1]at h;cases h
theorem qGz {N:List Node}{k:Nat}{x:Node}(h:x.parent < -1∨(k:Int)-1<x.parent):kGr N k x=false:=by
 cases hs:kGr N k x with
 |false=>rfl
 |true=>have:=kQj.1 hs;omega
@[go_sem] def kFrOk:Ctr:=pur (fun args=>kIu (aC args 0)) (fun f=>[.agg (kAe f)]) (fun f=>f.name.size≤1099511627776) (fun _ f=>.v (.bool (kJy f))) (fun _ _=>[])
section
def cxFokI:=kc k0p (kc c60 kn)
theorem qKm:Cq 193 kFrOk:=by
 refine zp fun d x hx=>?_
 refine zg cxFokI func193 rfl rfl ntmps193 ?_;intros
 (repeat' (first|apply zS|apply zB|(apply zW;simp only[go_sem,kAe])|apply jAi|exact zc0|intro _))
 rw[kJy,Bool.and_assoc]
end
section
def cxFokS:=kc k0q (kc c58 kn)
theorem qKn:Cq 166 kFrOk:=by
 refine zp fun d x hx=>?_
 refine zg cxFokS func166 rfl rfl ntmps166 ?_;intros
 (repeat' (first|apply zS|apply zB|(apply zW;simp only[go_sem,kAe])|apply jAi|exact zc0|intro _))
 rw[kJy,Bool.and_assoc]
end
@[go_sem] theorem qQ7 (a:ByteArray) (b:Int):kIu [.v (.string a),vi b]=⟨a,b⟩:=rfl
@[go_sem] theorem qQ8 (p:Int) (a:ByteArray) (b:Int):kMp [vi p,.v (.string a),vi b]=⟨p,a,b⟩:=rfl
def wfN (N:List Node):Prop:=N.length≤4398046511104∧∀x∈N,x.name.size≤1099511627776
theorem wfN.nm {N:List Node}(h:wfN N) {k:Nat}(hk:k<N.length):N[k].name.size≤1099511627776:=h.2 _ (jCn hk)
@[go_sem] def kStOk:Ctr:=pur (fun args=>k0v args 0) (fun N=>[.agg [.sl 3 (N.map kAc)]]) wfN (fun _ N=>.v (.bool (kFq N))) (fun _ _=>[])
theorem noFr {N:List Node}{k:Nat}(hk:k<N.length) (h:(N[k].parent < -1∨(k:Int)-1<N[k].parent)∨kJy ⟨N[k].name,N[k].line⟩=false):kFq N=false:=by
 refine kRn hk ?_;rcases h with h|h
 ·exact qGz h
 ·exact qBq h
theorem node_eq {a b:Node}(h:a.parent=b.parent∧a.name=b.name∧a.line=b.line):a=b:=by
 obtain⟨p,n,l⟩:=a;obtain⟨p',n',l'⟩:=b;simp only at h;obtain⟨rfl,rfl,rfl⟩:=h;rfl
theorem qDm {a b:Node}(h:¬a.parent=b.parent∨¬a.name=b.name∨¬a.line=b.line):a≠b:=fun e=>by
 subst e;rcases h with h|h|h<;>exact h rfl
theorem qG0 (rows:List (List SV)) {k i:Nat}(h:i<k):Go.Vc.rowAt (rows.take k) i=Go.Vc.rowAt rows i:=by
 unfold Go.Vc.rowAt;rw[jYq h]
section
def cxStkS:=kc qKn (kc c58 kn)
theorem qJw:Cq 158 kStOk:=by
 refine zp fun d x hx=>?_
 rename List Node=>N
 have hN:=hx.1;refine zg cxStkS func158 rfl rfl ntmps158 ?_;intros
 (repeat' (first|apply zS|apply zB|((first|apply zW| refine zd 11 ?_);simp only[go_sem])|apply jAi|intro _))
 refine zM (fun k:Nat=>⟨[(1,.ptr 1 0 0 0),(3,vi k)],[(1,.box 61 [.sl 3 (N.map kAc)])]⟩) (fun k=>k≤N.length∧∀j (hj:j<N.length),j<k→kGr N j N[j]=true) (fun k=>N.length-k) 0 zs ?_
 intro k ⟨hk,hf⟩;by_cases hlt:k<N.length
 ·have h1:=kAa kAc N k hlt;have hnm:=hx.nm hlt
  (repeat' (first|apply zS|apply zB|((first|apply zW| refine zd 11 ?_);simp only[go_sem,h1,kAc,kAe])|apply jAi|exact zc0|intro _))
  ·rename_i h;rw[noFr hlt h]
  rename_i h;refine zM (fun i:Nat=>⟨[(1,.ptr 1 0 0 0),(3,vi k),(4,vi i)],[(1,.box 61 [.sl 3 (N.map kAc)])]⟩) (fun i=>i≤k∧∀j (hj:j<N.length),j<i→N[j]≠N[k]) (fun i=>k-i) 0 zs ?_
  intro i ⟨hi,hg⟩;by_cases hlt2:i<k
  ·have h2:=kAa kAc N i zo
   (repeat' (first|apply zS|apply zB|((first|apply zW| refine zd 11 ?_);simp only[go_sem,h1,h2,kAc])|apply jAi|exact zc0|intro _))
   ·rename_i he;rw[kRn hlt (k2k hlt hlt2 (node_eq he))]
   ·rename_i he;refine⟨i+1,⟨zo,fun j hj hji=>?_⟩,zo,zh⟩
    rcases jFx j i with hh|hh
    ·exact hg j hj hh
    ·have:j=i:=zo;subst this;exact qDm he
  ·(repeat' (first|apply zS|apply zB|((first|apply zW| refine zd 11 ?_);simp only[go_sem])|apply jAi|exact zc0|intro _))
   refine⟨k+1,⟨zo,fun j hj hjk=>?_⟩,zo,zh⟩
   rcases jFx j k with hh|hh
   ·exact hf j hj hh
   ·have:j=k:=zo;subst this;exact k5m h.1.1 h.1.2 h.2 fun i hi hij=>hg i hi zo
 ·(repeat' (first|apply zS|apply zB|((first|apply zW| refine zd 11 ?_);simp only[go_sem])|apply jAi|exact zc0|intro _))
  rw[kWv fun j hj=>hf j hj zo]
end
section
def cxStkI:=kc qKm (kc c60 kn)
theorem qJx:Cq 184 kStOk:=by
 refine zp fun d x hx=>?_
 rename List Node=>N
 have hN:=hx.1;refine zg cxStkI func184 rfl rfl ntmps184 ?_;intros
 (repeat' (first|apply zS|apply zB|(apply zW;simp only[go_sem])|apply jAi|exact zc0|intro _))
 refine zM (fun k:Nat=>⟨[(1,.ptr 1 0 0 0),(8,.sl 3 (N.map kAc)),(9,vi N.length),(10,vi k)],[(1,.box 61 [.sl 3 (N.map kAc)])]⟩) (fun k=>k≤N.length∧∀j (hj:j<N.length),j<k→kGr N j N[j]=true) (fun k=>N.length-k) 0 zs ?_
 intro k ⟨hk,hf⟩;by_cases hlt:k<N.length
 ·have h1:=kAa kAc N k hlt;have hnm:=hx.nm hlt
  (repeat' (first|apply zS|apply zB|(apply zW;simp only[go_sem,h1,kAc,kAe])|apply jAi|exact zc0|intro _))
  ·rename_i h;rw[noFr hlt h]
  rename_i h;have hl:((N.map kAc).take k).length=k:=by rw[jOb,jH5];omega
  refine zL (fun i:Nat=>⟨[(1,.ptr 1 0 0 0),(4,.ptr 4 0 0 0),(8,.sl 3 (N.map kAc)),(9,vi N.length),(10,vi k),(30,.sl 3 ((N.map kAc).take k)),(31,vi k),(32,vi i)],[(1,.box 61 [.sl 3 (N.map kAc)]),(4,.box 231 (kAc N[k]))]⟩) (fun i=>i≤k∧∀j (hj:j<N.length),j<i→N[j]≠N[k]) (fun i=>k-i) 0 zs ?_ ?_
  ·(simp only[go_sem,hl,kAc]<;>(first|(and_intros<;>rfl)|simp))
  intro i ⟨hi,hg⟩;by_cases hlt2:i<k
  ·have h2:=kAa kAc N i zo;have h3:=qG0 (N.map kAc) hlt2;rw[h2]at h3
   (repeat' (first|apply zS|apply zB|(apply zW;simp only[go_sem,h1,h3,hl,kAc])|apply jAi|exact zc0|intro _))
   ·rename_i he;rw[kRn hlt (k2k hlt hlt2 (node_eq ⟨he.1.symm,he.2.1.symm,he.2.2.symm⟩))]
   ·rename_i he;refine⟨i+1,⟨zo,fun j hj hji=>?_⟩,zo,zh⟩
    rcases jFx j i with hh|hh
    ·exact hg j hj hh
    ·have:j=i:=zo;subst this;exact Ne.symm (qDm he)
  ·(repeat' (first|apply zS|apply zB|(apply zW;simp only[go_sem])|apply jAi|exact zc0|intro _))
   refine⟨k+1,⟨zo,fun j hj hjk=>?_⟩,zo,zh⟩
   rcases jFx j k with hh|hh
   ·exact hf j hj hh
   ·have:j=k:=zo;subst this;exact k5m h.1.1 h.1.2 h.2 fun i hi hij=>hg i hi zo
 ·(repeat' (first|apply zS|apply zB|(apply zW;simp only[go_sem])|apply jAi|exact zc0|intro _))
  rw[kWv fun j hj=>hf j hj zo]
end
@[go_sem] def qKo:Ctr:=pur (fun args=>(k0v args 0,aI args 1,kIu (aC args 2))) (fun x=>[.agg [.sl 3 (x.1.map kAc)],vi x.2.1,.agg (kAe x.2.2)]) (fun x=>x.1.length≤4398046511104) (fun _ x=>vi (child x.1 x.2.1 x.2.2)) (fun _ _=>[])
theorem qDn {N:List Node}{p:Int}{f:Frame}{k:Nat}(hk:k<N.length) (hf:∀j (hj:j<N.length),j<k→kMs p f N[j]=false) (h:N[k].parent=p∧N[k].name=f.name∧N[k].line=f.line):child N p f=k :=
 kEe hk hf (by
  obtain⟨a,b⟩:=f;simp only at h;simp[kMs,kRm,h])
theorem qKp {p:Int}{f:Frame}{x:Node}(h:¬x.parent=p∨¬x.name=f.name∨¬x.line=f.line):kMs p f x=false:=by
 obtain⟨a,b⟩:=f;simp only at h;simp only[kMs,kRm,wGu,decide_eq_false_iff_not,Frame.mk.injEq,not_and];rcases h with h|h|h
 ·exact .inl h
 ·exact .inr fun e=>absurd e h
 ·exact .inr fun _=>h
theorem qQv:Cq 167 qKo:=by
 refine zp fun d x hx=>?_
 obtain⟨N,p,f⟩:=x;simp only at hx⊢;refine zg cx0 func167 rfl rfl ntmps167 ?_;intros
 (repeat' (first|apply zS|apply zB|((first|apply zW| refine zd 18 ?_);simp only[go_sem,kAe])|apply jAi|exact zc0|intro _))
 refine zL (fun k:Nat=>⟨[(1,vi p),(3,.ptr 3 0 0 0),(5,.ptr 5 0 0 0),(7,vi k)],[(3,.box 61 [.sl 3 (N.map kAc)]),(5,.box 228 (kAe f))]⟩) (fun k=>k≤N.length∧∀j (hj:j<N.length),j<k→kMs p f N[j]=false) (fun k=>N.length-k) 0 zs ?_ ?_
 ·(simp only[go_sem,kAe]<;>(first|(and_intros<;>rfl)|simp))
 intro k ⟨hk,hf⟩;by_cases hlt:k<N.length
 ·have h1:=kAa kAc N k hlt
  (repeat' (first|apply zS|apply zB|((first|apply zW| refine zd 18 ?_);simp only[go_sem,h1,kAc,kAe])|apply jAi|exact zc0|intro _))
  ·rename_i he;rw[qDn hlt hf he]
  ·rename_i he;refine⟨k+1,⟨zo,fun j hj hji=>?_⟩,zo,zh⟩
   rcases jFx j k with hh|hh
   ·exact hf j hj hh
   ·have:j=k:=zo;subst this;exact qKp he
 ·(repeat' (first|apply zS|apply zB|((first|apply zW| refine zd 18 ?_);simp only[go_sem])|apply jAi|exact zc0|intro _))
  rw[show child N p f=-1 from firstIdx_none fun i hi=>hf i hi zo]
theorem qQw:Cq 194 qKo:=by
 refine zp fun d x hx=>?_
 obtain⟨N,p,f⟩:=x;simp only at hx⊢;refine zg cx0 func194 rfl rfl ntmps194 ?_;intros
 (repeat' (first|apply zS|apply zB|(apply zW;simp only[go_sem,kAe])|apply jAi|exact zc0|intro _))
 refine zL (fun k:Nat=>⟨[(1,vi p),(5,.ptr 5 0 0 0),(10,.sl 3 (N.map kAc)),(11,vi N.length),(12,vi k)],[(5,.box 228 (kAe f))]⟩) (fun k=>k≤N.length∧∀j (hj:j<N.length),j<k→kMs p f N[j]=false) (fun k=>N.length-k) 0 zs ?_ ?_
 ·(simp only[go_sem,kAe]<;>(first|(and_intros<;>rfl)|simp))
 intro k ⟨hk,hf⟩;by_cases hlt:k<N.length
 ·have h1:=kAa kAc N k hlt
  (repeat' (first|apply zS|apply zB|(apply zW;simp only[go_sem,h1,kAc,kAe])|apply jAi|exact zc0|intro _))
  ·rename_i he;rw[qDn hlt hf he]
  ·rename_i he;refine⟨k+1,⟨zo,fun j hj hji=>?_⟩,zo,zh⟩
   rcases jFx j k with hh|hh
   ·exact hf j hj hh
   ·have:j=k:=zo;subst this;exact qKp he
 ·refine zy trivial ?_;rw[show child N p f=-1 from firstIdx_none fun i hi=>hf i hi zo]
theorem k3d {N:List Node}{row:List SV}(h:row∈N.map kAc):row.length=3:=by
 obtain⟨x,_,rfl⟩:=jCr.1 h;rfl
theorem rlI {N:List Int}{row:List SV}(h:row∈N.map encI):row.length=1:=by
 obtain⟨x,_,rfl⟩:=jCr.1 h;rfl
@[go_sem] def qAy:Ctr:=pur (fun args=>k0v args 0) (fun N=>[.agg [.sl 3 (N.map kAc)]]) (fun N=>N.length≤4398046511104) (fun d _=>.agg [.own d]) (fun d N=>[(d,.sl 231 3 (N.map kAc))])
theorem k6g:Cq 151 qAy:=by
 refine zp fun d x hx=>?_
 rename List Node=>N
 refine zg cx0 func151 rfl rfl ntmps151 ?_;intros
 (repeat' (first|apply zS|apply zB|(apply zW;simp only[go_sem])|apply jAi|omega|exact k3d ‹_›|exact⟨_,_,rfl,_,_,rfl,rfl⟩|intro _))
theorem k6i:Cq 177 qAy:=by
 refine zp fun d x hx=>?_
 rename List Node=>N
 refine zg cx0 func177 rfl rfl ntmps177 ?_;intros
 (repeat' (first|apply zS|apply zB|(apply zW;simp only[go_sem])|apply jAi|omega|exact k3d ‹_›|exact⟨_,_,rfl,_,_,rfl,rfl⟩|intro _))
end
section
open Go.Vc Tryz
def kR6:FP:=⟨6,[fc [1] [] [5,6],fc [3] [0] [5,6],⟨[4],[0,1],[],[6],[],[5]⟩,⟨[],[],[],[5],[],[6]⟩,fc [1] [] [5,6],fc [7] [4] [5,6],fn 6,fn 7,fn 8],[3,4,5,6,7,8],[5,6],[]⟩
attribute [local go_sem] kR6
@[go_sem] def prA (args:List SV) (i:Nat):List Node×List Int:=match args[i]? with
 |some (.agg [.sl _ r,.sl _ q])=>(kH6 r,kBs q)
 | _=>([],[])
def wfP (x:List Node×List Int):Prop:=(x.1.length≤4398046511104∧∀n∈x.1,n.name.size≤1099511627776)∧x.2.length≤4398046511104
theorem k6e {C:List Int}{k:Nat}(hk:k<C.length) (h:C[k]<0∨1000000000000-(C.take k).sum<C[k]):kQk C=false:=by
 cases hs:kQk C with
 |false=>rfl
 |true=>have:=kO6 hs k hk;omega
theorem k3c {N:List Node}{C:List Int}(h:kFq N=false∨¬(C.length:Int)=N.length∨kQk C=false):kA8 N C=false:=by
 cases hs:kA8 N C with
 |false=>rfl
 |true =>
  obtain⟨h1,h2,h3⟩:=kDo.1 hs;rcases h with h|h|h
  ·rw[h1]at h;cases h
  ·omega
  ·rw[h3]at h;cases h
theorem k6f {C:List Int}(h:∀j (hj:j<C.length),0≤C[j]∧C[j]≤1000000000000-(C.take j).sum):kQk C=true:=by
 unfold kQk;exact decide_eq_true h
@[go_sem] def kPrOk:Ctr:=pur (fun args=>prA args 0) (fun x=>[.agg [.sl 3 (x.1.map kAc),.sl 1 (x.2.map encI)]]) wfP (fun _ x=>.v (.bool (kA8 x.1 x.2))) (fun _ _=>[])
section
def cxPfOS:=kc qJw (kc c58 kn)
theorem k99:Cq 84 kPrOk:=by
 refine zp fun d x hx=>?_
 obtain⟨N,C⟩:=x;obtain⟨⟨hN,hs⟩,hC⟩:=hx;simp only at hN hs hC⊢;refine zg cxPfOS func84 rfl rfl ntmps84 ?_;intros
 (repeat' (first|apply zS|apply zB|(apply zW;simp only[go_sem])|apply jAi|omega|exact hs _ ‹_›|intro _))
 ·rename_i h;rw[k3c (h.imp_right .inl)]
 rename_i h
 refine zM (fun k:Nat=>⟨[(1,.ptr 1 0 0 0),(3,vi ((C.take k).sum)),(4,vi k)],[(1,.box 63 [.sl 3 (N.map kAc),.sl 1 (C.map encI)])]⟩)
  (fun k=>k≤C.length∧∀j (hj:j<C.length),j<k→0≤C[j]∧C[j]≤1000000000000-(C.take j).sum) (fun k=>C.length-k) 0 zs ?_
 intro k ⟨hk,hf⟩
 have hsum:0≤(C.take k).sum∧(C.take k).sum≤1000000000000:=by
  have:=kSv (C:=C.take k) (fun j hj=>by
   rw[jOb]at hj;have:=hf j zo zo;rw[vUs,List.take_take,vI3 zo];exact this) k (by rw[jOb];omega)
  rwa [List.take_take,Nat.min_self]at this
 by_cases hlt:k<C.length
 ·have h1:=kAa encI C k hlt;have h2:=kRo C k hlt
  (repeat' (first|apply zS|apply zB|(apply zW;simp only[go_sem,h1,encI])|apply jAi|exact zc0|intro _))
  ·rename_i hb;rw[k3c (.inr (.inr (k6e hlt zo)))]
  ·rename_i hb;refine⟨k+1,⟨zo,fun j hj hjk=>?_⟩,zo,by rw[h2];(first|(and_intros<;>rfl)|simp)⟩
   rcases jFx j k with hh|hh
   ·exact hf j hj hh
   ·have:j=k:=zo;subst this;omega
 ·refine zy trivial ?_;rw[kDo.2 ⟨h.1,zo,k6f fun j hj=>hf j hj zo⟩]
end
section
def cxPfOI:=kc qJx (kc c60 kn)
theorem qAa:Cq 109 kPrOk:=by
 refine zp fun d x hx=>?_
 obtain⟨N,C⟩:=x;obtain⟨⟨hN,hs⟩,hC⟩:=hx;simp only at hN hs hC⊢;refine zg cxPfOI func109 rfl rfl ntmps109 ?_;intros
 (repeat' (first|apply zS|apply zB|(apply zW;simp only[go_sem])|apply jAi|omega|exact hs _ ‹_›|intro _))
 ·rename_i h;rw[k3c (h.imp_right .inl)]
 rename_i h
 refine zM (fun k:Nat=>⟨[(3,vi ((1000000000000-(C.take k).sum))),(21,.sl 1 (C.map encI)),(22,vi C.length),(23,vi k)],[]⟩)
  (fun k=>k≤C.length∧∀j (hj:j<C.length),j<k→0≤C[j]∧C[j]≤1000000000000-(C.take j).sum) (fun k=>C.length-k) 0 zs ?_
 intro k ⟨hk,hf⟩
 have hsum:0≤(C.take k).sum∧(C.take k).sum≤1000000000000:=by
  have:=kSv (C:=C.take k) (fun j hj=>by
   rw[jOb]at hj;have:=hf j zo zo;rw[vUs,List.take_take,vI3 zo];exact this) k (by rw[jOb];omega)
  rwa [List.take_take,Nat.min_self]at this
 by_cases hlt:k<C.length
 ·have h1:=kAa encI C k hlt;have h2:=kRo C k hlt
  (repeat' (first|apply zS|apply zB|(apply zW;simp only[go_sem,h1,encI])|apply jAi|exact zc0|intro _))
  ·rename_i hb;rw[k3c (.inr (.inr (k6e hlt zo)))]
  ·rename_i hb;refine⟨k+1,⟨zo,fun j hj hjk=>?_⟩,zo,by rw[h2,←Int.sub_sub];(first|(and_intros<;>rfl)|simp)⟩
   rcases jFx j k with hh|hh
   ·exact hf j hj hh
   ·have:j=k:=zo;subst this;omega
 ·refine zy trivial ?_;rw[kDo.2 ⟨h.1,zo,k6f fun j hj=>hf j hj zo⟩]
end
@[go_sem] def qDc:Ctr:=pur (fun args=>prA args 0) (fun x=>[.agg [.sl 3 (x.1.map kAc),.sl 1 (x.2.map encI)]]) (fun x=>x.1.length≤4398046511104∧x.2.length≤4398046511104) (fun d _=>.agg [.own d,.own (d+1000)]) (fun d x=>[(d,.sl 231 3 (x.1.map kAc)),(d+1000,.sl 3 1 (x.2.map encI))])
section
def cxCpS:=kc k6g kn
theorem k6h {p:Prop}(h:p:=by first|omega|exact k3d ‹_›|exact rlI ‹_›|exact⟨_,_,_,rfl⟩|exact⟨_,_,rfl,_,_,rfl,rfl⟩|exact if_neg (by omega)):p:=h
theorem qAb:Cq 78 qDc:=by
 refine zp fun d x hx=>?_
 obtain⟨N,C⟩:=x;obtain⟨hN,hC⟩:=hx;simp only at hN hC⊢;refine zg cxCpS func78 rfl rfl ntmps78 ?_;intros
 (repeat' (first|apply zS|apply zB|((first|apply zW| refine zf kR6 ?_);simp only[go_sem])|apply jAi|exact k6h|intro _))
end
section
def cxCpI:=kc k6i kn
theorem qAc:Cq 102 qDc:=by
 refine zp fun d x hx=>?_
 obtain⟨N,C⟩:=x;obtain⟨hN,hC⟩:=hx;simp only at hN hC⊢;refine zg cxCpI func102 rfl rfl ntmps102 ?_;intros
 (repeat' (first|apply zS|apply zB|((first|apply zW| refine zf kR6 ?_);simp only[go_sem])|apply jAi|exact k6h|intro _))
end
end
section
open Go.Vc Tryz
@[go_sem] def qKs:Ctr:=pur (fun args=>prA args 0) (fun x=>[.agg [.sl 3 (x.1.map kAc),.sl 1 (x.2.map encI)]]) wfP (fun _ x=>vi (kMq x.1 x.2)) (fun _ _=>[])
section
def cxToI:=kc qAa kn
theorem qPp:Cq 110 qKs:=by
 refine zp fun d x hx=>?_
 obtain⟨N,C⟩:=x;obtain⟨⟨hN,hs⟩,hC⟩:=hx;simp only at hN hs hC⊢;refine zg cxToI func110 rfl rfl ntmps110 ?_;intros
 (repeat' (first|apply zS|apply zB|(apply zW;simp only[go_sem])|apply jAi|omega|(simp only;omega)|exact hs _ ‹_›|intro _))
 ·rename_i h;rw[show kMq N C=0 from if_neg (by rw[h];simp)]
 rename_i hp;have ht:kMq N C=C.sum:=if_pos hp
 refine zM (fun k:Nat=>⟨[(3,vi ((C.take k).sum)),(10,.sl 1 (C.map encI)),(11,vi C.length),(12,vi k)],[]⟩)
  (fun k=>k≤C.length) (fun k=>C.length-k) 0 zs ?_
 intro k hk;have hsum:=kJ0 hp k hk;by_cases hlt:k<C.length
 ·have h1:=kAa encI C k hlt;have h2:=kRo C k hlt;have h3:=kO6 (kDo.1 hp).2.2 k hlt;refine zy (z2 h1 encI.eq_1) ?_;exact⟨k+1,zo,zo,by rw[h2];(first|(and_intros<;>rfl)|simp)⟩
 ·rw[show k=C.length by omega,jJ3]
  refine zy trivial ?_;rw[ht]
end
section
def cxToS:=kc k99 kn
theorem qPq:Cq 85 qKs:=by
 refine zp fun d x hx=>?_
 obtain⟨N,C⟩:=x;obtain⟨⟨hN,hs⟩,hC⟩:=hx;simp only at hN hs hC⊢;refine zg cxToS func85 rfl rfl ntmps85 ?_;intros
 (repeat' (first|apply zS|apply zB|(apply zW;simp only[go_sem])|apply jAi|omega|(simp only;omega)|exact hs _ ‹_›|intro _))
 refine zM (fun k:Nat=>⟨[(1,.ptr 1 0 0 0),(3,vi ((C.take k).sum)),(4,.v (.bool (kA8 N C))),(5,vi k)],[(1,.box 63 [.sl 3 (N.map kAc),.sl 1 (C.map encI)])]⟩)
  (fun k=>k≤C.length∧(kA8 N C=false→k=0)) (fun k=>C.length-k) 0 zs ?_
 intro k ⟨hk,hk0⟩
 cases hp:kA8 N C with
 |true =>
  have ht:kMq N C=C.sum:=if_pos hp;have hsum:=kJ0 hp k hk;by_cases hlt:k<C.length
  ·have h1:=kAa encI C k hlt;have h2:=kRo C k hlt;have h3:=kO6 (kDo.1 hp).2.2 k hlt;refine zy (z2 h1 encI.eq_1) ?_;exact⟨k+1,zo,zo,by rw[h2];(first|(and_intros<;>rfl)|simp)⟩
  ·rw[show k=C.length by omega,jJ3]
   refine zy trivial ?_
   rw[ht]
 |false =>
  have ht:kMq N C=0:=if_neg (by rw[hp];simp)
  rw[hk0 hp]
  (repeat' (first|apply zS|apply zB|(apply zW;simp only[go_sem,ht])|apply jAi|exact zc0|intro _))
  all_goals simp
end
end
section
open Go.Vc Tryz
attribute [local go_sem] kVh
@[go_sem] def keqStk:Ctr:=pur (fun args=>(k0v args 0,k0v args 1)) (fun x=>[.agg [.sl 3 (x.1.map kAc)],.agg [.sl 3 (x.2.map kAc)]]) (fun x=>x.1.length≤4398046511104) (fun _ x=>.v (.bool (decide (x.1=x.2)))) (fun _ _=>[])
section
def qPa:=kc qLk kn
theorem ceqStk:Cq 122 keqStk:=by
 refine zp fun d x hx=>?_
 obtain⟨N,M⟩:=x;simp only at hx⊢;refine zg qPa func122 rfl rfl ntmps122 ?_;intros
 (repeat' (first|apply zS|apply zB|(apply zW;simp only[go_sem])|apply jAi|intro _))
 all_goals first|omega|simp_all|skip
end
@[go_sem] def keqPr:Ctr:=pur (fun args=>(prA args 0,prA args 1)) (fun x=>[.agg [.sl 3 (x.1.1.map kAc),.sl 1 (x.1.2.map encI)],.agg [.sl 3 (x.2.1.map kAc),.sl 1 (x.2.2.map encI)]]) (fun x=>x.1.1.length≤4398046511104∧x.1.2.length≤4398046511104)
 (fun _ x=>.v (.bool (decide (x.1=x.2)))) (fun _ _=>[])
section
def cxEqPr:=kc ceqStk (kc c17 kn)
theorem ceqPr:Cq 55 keqPr:=by
 refine zp fun d x hx=>?_
 obtain⟨⟨N,C⟩,⟨M,D⟩⟩:=x;simp only at hx⊢;refine zg cxEqPr func55 rfl rfl ntmps55 ?_;intros
 (repeat' (first|apply zS|apply zB|(apply zW;simp only[go_sem])|apply jAi|intro _))
 all_goals first|omega|simp_all|skip
end
end
section
open Go.Vc Tryz
attribute [local go_sem] kVh
structure Rep where
 N:List Node
 C:List Int
 kept:Int
 skip:Int
deriving DecidableEq
def kL0 (x:Rep):List SV:=[.sl 3 (x.N.map kAc),.sl 1 (x.C.map encI),vi x.kept,vi x.skip]
@[go_sem] def repA (args:List SV) (i:Nat):Rep:=match args[i]? with
 |some (.agg [.sl _ r,.sl _ q,.v (.int _ k),.v (.int _ s)])=>⟨kH6 r,kBs q,k,s⟩
 | _=>⟨[],[],0,0⟩
def kKk (x:Rep):Bool:=kA8 x.N x.C&&(x.kept==kMq x.N x.C)&&(decide (0≤x.skip)&&decide (x.skip≤1000000000000))
def wfR (x:Rep):Prop:=wfP (x.N,x.C)
@[go_sem] def qJ1:Ctr:=pur (fun args=>repA args 0) (fun x=>[.agg [.sl 3 (x.N.map kAc),.sl 1 (x.C.map encI),vi x.kept,vi x.skip]]) wfR (fun _ x=>.v (.bool (kKk x))) (fun _ _=>[])
section
def cxRpI:=kc qAa (kc qPp (kc c60 kn))
theorem qOt:Cq 47 qJ1:=by
 refine zp fun d x hx=>?_
 obtain⟨N,C,kept,sk⟩:=x;obtain⟨⟨hN,hs⟩,hC⟩:=hx;simp only at hN hs hC⊢;refine zg cxRpI func47 rfl rfl ntmps47 ?_;intros
 (repeat' (first|apply zS|apply zB|((first|apply zW| refine zd 16 ?_);simp only[go_sem])|apply jAi|omega|exact hs _ ‹_›|intro _))
 all_goals simp_all [kKk]
end
section
def cxRpS:=kc k99 (kc qPq (kc c58 kn))
theorem qOw:Cq 32 qJ1:=by
 refine zp fun d x hx=>?_
 obtain⟨N,C,kept,sk⟩:=x;obtain⟨⟨hN,hs⟩,hC⟩:=hx;simp only at hN hs hC⊢;refine zg cxRpS func32 rfl rfl ntmps32 ?_;intros
 (repeat' (first|apply zS|apply zB|((first|apply zW| refine zd 16 ?_);simp only[go_sem])|apply jAi|omega|exact hs _ ‹_›|intro _))
 all_goals simp_all [kKk]
end
end
end Go.Proofs.YtjdklcjoeanimaaGreat
