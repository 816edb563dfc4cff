/-
  DERIVED. Several texts of ours in one: VtUnw4, VtEnc, VtSess2.
-/
import Derived.Test.YtjdklcjoeanimaaGreatVd6
import Derived.Test.YtjdklcjoeanimaaGreatVd14
import Derived.Test.YtjdklcjoeanimaaGreatVd17
import Derived.Test.YtjdklcjoeanimaaGreatVd18
set_option linter.unusedSimpArgs false
set_option linter.unusedVariables false
set_option maxHeartbeats 1000000
set_option maxRecDepth 10000
namespace Go.Proofs.YtjdklcjoeanimaaGreat
open Go.Vc
attribute [local irreducible] Go.Vc.WP
attribute [local go_sem] kAd kAe
open Go.Pl
attribute [local go_sem] kAf kAg spA kA4 vwA kFt kGs
def kLm:Ctr:=pur (fun args=>(spA args 0,kTe (aR args 1),vwA args 2,aB args 3)) (fun x=>[.agg [.sl 2 (x.1.1.map encImage),.sl 1 (x.1.2.1.map encI),.sl 1 (x.1.2.2.map encI)],.sl 1 (x.2.1.map kFl),.agg [.v (.int .i64 x.2.2.1.pc),.v (.int .i64 x.2.2.1.sp),.v (.int .i64 x.2.2.1.fp),.sl 1 (x.2.2.1.words.map encI)],.v (.bool x.2.2.2)]) (fun x=>kEl x.1 x.2.1 x.2.2.1)
 (fun _ x=>.tup [.agg [.v (.int .i64 (uwV x.1 x.2.1 x.2.2.1 x.2.2.2).pc),.v (.int .i64 (uwV x.1 x.2.1 x.2.2.1 x.2.2.2).sp),.v (.int .i64 (uwV x.1 x.2.1 x.2.2.1 x.2.2.2).fp),.sl 1 ((uwV x.1 x.2.1 x.2.2.1 x.2.2.2).words.map encI)],.v (.bool (unwS x.1 x.2.1 x.2.2.1 x.2.2.2).isSome)]) (fun _ _=>[])
theorem kTg (L:List Int):allV (L.map encI):=by
 intro row hr c hc;obtain⟨n,_,rfl⟩:=List.mem_map.1 hr;simp only[encI,List.mem_cons,List.not_mem_nil,or_false]at hc;exact⟨_,hc⟩
theorem qTn:Cn Tryz.prog 164 kLm:=Cn.frz cUnwSS (fun d x id e s rows h=>by
  have hm:=kA5 h;simp only[List.mem_cons,List.not_mem_nil,or_false,Prod.mk.injEq,Ob.sl.injEq]at hm;obtain⟨_,_,_,rfl⟩:=hm;exact kTg _) (fun d x=>by simp[SV.up,SV.up2,fz1m,lk])
theorem qTo:Cn Tryz.prog 190 kLm:=Cn.frz cUnwSI (fun d x id e s rows h=>by
  have hm:=kA5 h;simp only[List.mem_cons,List.not_mem_nil,or_false,Prod.mk.injEq,Ob.sl.injEq]at hm;obtain⟨_,_,_,rfl⟩:=hm;exact kTg _) (fun d x=>by simp[SV.up,SV.up2,fz1m,lk])
def kUnw:Ctr:=pur (fun args=>(spA args 0,kTe (aR args 1),vwA args 2)) (fun x=>[.agg [.sl 2 (x.1.1.map encImage),.sl 1 (x.1.2.1.map encI),.sl 1 (x.1.2.2.map encI)],.sl 1 (x.2.1.map kFl),.agg [.v (.int .i64 x.2.2.pc),.v (.int .i64 x.2.2.sp),.v (.int .i64 x.2.2.fp),.sl 1 (x.2.2.words.map encI)]]) (fun x=>kEl x.1 x.2.1 x.2.2)
 (fun d x=>.tup [.own d,.v (.bool (unwind x.1 x.2.1 x.2.2).2)]) (fun d x=>[(d,.sl 3 1 ((unwind x.1 x.2.1 x.2.2).1.map encI))])
def kTc:Ctr:=pur (fun args=>(spA args 0,kTe (aR args 1),vwA args 2)) (fun x=>[.agg [.sl 2 (x.1.1.map encImage),.sl 1 (x.1.2.1.map encI),.sl 1 (x.1.2.2.map encI)],.sl 1 (x.2.1.map kFl),.agg [.v (.int .i64 x.2.2.pc),.v (.int .i64 x.2.2.sp),.v (.int .i64 x.2.2.fp),.sl 1 (x.2.2.words.map encI)]]) (fun x=>kEl x.1 x.2.1 x.2.2)
 (fun _ x=>.tup [.sl 1 ((unwind x.1 x.2.1 x.2.2).1.map encI),.v (.bool (unwind x.1 x.2.1 x.2.2).2)]) (fun _ _=>[])
section
attribute [local irreducible] kDx kEl
noncomputable def qC3:=mkX [(164,kLm)] (COk.cons qTn (COk.nil _))
theorem qTp:qC3.tys=tys:=rfl
theorem qTq:qC3.C=[(164,kLm)]:=rfl
attribute [local go_sem] qTp qTq kLm
set_option maxHeartbeats 4000000 in
theorem cUnwS:Cn Tryz.prog 90 kUnw:=by
 refine Cn.pur Tryz.func90 (by kernel_rfl) rfl fun d x hx=>?_
 obtain⟨⟨I,B,E⟩,R,⟨pc0,sp0,fp0,wd0⟩⟩:=x;unfold kEl at hx;obtain⟨hsp,hRl,kW7⟩:=hx;simp only at hsp hRl kW7⊢;refine Holds.go (c:=qC3) Tryz.func90 rfl Tryz.results90 Tryz.ntmps90 (by omega) (by simp) rfl ?_
 intro X0 w0
 (repeat' (first|apply zS|apply zB|(apply zW;simp only[go_sem])|apply And.intro|intro _))
 all_goals first|omega|skip
 refine zL (fun s:Vw×List Int=>⟨[(1,.sl 1 (R.map kFl)),(3,.ptr 3 0 0 0),(5,.ptr 5 0 0 0),(8,.own 13)],[(3,.box 51 [.sl 2 (I.map encImage),.sl 1 (B.map encI),.sl 1 (E.map encI)]),(5,.box 96 [.v (.int .i64 s.1.pc),.v (.int .i64 s.1.sp),.v (.int .i64 s.1.fp),.sl 1 (s.1.words.map encI)]),(13,.sl 3 1 (s.2.map encI))]⟩)
  (fun s=>numV s.1∧1≤s.2.length∧s.2.length≤40∧unwind (I,B,E) R ⟨pc0,sp0,fp0,wd0⟩=(s.2++(unwI (I,B,E) R s.2.length s.1).1,(unwI (I,B,E) R s.2.length s.1).2)) (fun s=>40-s.2.length) (⟨pc0,sp0,fp0,wd0⟩,[pc0]) ⟨kW7,by simp,by simp,by rw[kZl];rfl⟩ ?_ ?_
 ·(simp only[go_sem]<;>(first|(and_intros<;>rfl)|simp))
 rintro⟨v,O⟩ ⟨hnum,hO1,hO,hI⟩;simp only at hnum hO1 hO hI⊢;by_cases hlt:O.length<40;rotate_left
 ·have hge:¬(O.length:Int)<40:=by omega
  rw[kZk hlt]at hI;rw[hI]
  (repeat' (first|apply zS|apply zB|(apply zW;simp only[go_sem,hge,List.append_nil])|apply And.intro|intro _))
  all_goals first|omega|rfl|skip
 have hli:(O.length:Int)<40:=by omega
 have hpre:kEl (I,B,E) R v:=by unfold kEl;exact⟨hsp,hRl,hnum⟩
 have hin:((O.length:Int)==1)=decide (O.length=1):=by
  rw[Bool.eq_iff_iff,beq_iff_eq,decide_eq_true_eq];omega
 cases hu:unwS (I,B,E) R v (decide (O.length=1))with
 |none =>
  have hV:=kC5 hu;rw[kZi hlt hu,List.append_nil]at hI;rw[hI]
  (repeat' (first|apply zS|apply zB|(apply zW;simp only[go_sem,hli,hin,hu,hV])|apply And.intro|intro _))
  all_goals first|omega|exact hpre|rfl|skip
 |some x =>
  have hV:=k5h hu;have hxn:=kUq hnum hu;obtain⟨xpc,xsp,xfp,xw⟩:=x;by_cases h0:xpc=0
  ·rw[k2p hlt hu h0,List.append_nil]at hI;rw[hI]
   (repeat' (first|apply zS|apply zB|(apply zW;simp only[go_sem,hli,hin,hu,hV,h0])|apply And.intro|intro _))
   all_goals first|omega|exact hpre|rfl|skip
  ·rw[kZj hlt hO1 hu h0]at hI
   (repeat' (first|apply zS|apply zB|(apply zW;simp only[go_sem,hli,hin,hu,hV,h0])|apply And.intro|intro _))
   all_goals first|omega|exact hpre|rfl|skip
   all_goals first|exact⟨(⟨xpc,xsp,xfp,xw⟩,O++[xpc]),⟨hxn,by simp,by simp;omega,by rw[hI];simp⟩,by simp;omega,by simp only[List.map_append,List.map_cons,List.map_nil,encI];(first|(and_intros<;>rfl)|simp)⟩|trace_state
noncomputable def qC4:=mkX [(190,kLm)] (COk.cons qTo (COk.nil _))
theorem qTr:qC4.tys=tys:=rfl
theorem qTs:qC4.C=[(190,kLm)]:=rfl
attribute [local go_sem] qTr qTs kLm
set_option maxHeartbeats 4000000 in
theorem cUnwI:Cn Tryz.prog 115 kUnw:=by
 refine Cn.pur Tryz.func115 (by kernel_rfl) rfl fun d x hx=>?_
 obtain⟨⟨I,B,E⟩,R,⟨pc0,sp0,fp0,wd0⟩⟩:=x;unfold kEl at hx;obtain⟨hsp,hRl,kW7⟩:=hx;simp only at hsp hRl kW7⊢;refine Holds.go (c:=qC4) Tryz.func115 rfl Tryz.results115 Tryz.ntmps115 (by omega) (by simp) rfl ?_
 intro X0 w0
 (repeat' (first|apply zS|apply zB|(apply zW;simp only[go_sem])|apply And.intro|intro _))
 all_goals first|omega|skip
 refine zL (fun s:Vw×List Int=>⟨[(1,.sl 1 (R.map kFl)),(3,.ptr 3 0 0 0),(5,.ptr 5 0 0 0),(8,.own 13)],[(3,.box 51 [.sl 2 (I.map encImage),.sl 1 (B.map encI),.sl 1 (E.map encI)]),(5,.box 96 [.v (.int .i64 s.1.pc),.v (.int .i64 s.1.sp),.v (.int .i64 s.1.fp),.sl 1 (s.1.words.map encI)]),(13,.sl 3 1 (s.2.map encI))]⟩)
  (fun s=>numV s.1∧1≤s.2.length∧s.2.length≤40∧unwind (I,B,E) R ⟨pc0,sp0,fp0,wd0⟩=(s.2++(unwI (I,B,E) R s.2.length s.1).1,(unwI (I,B,E) R s.2.length s.1).2)) (fun s=>40-s.2.length) (⟨pc0,sp0,fp0,wd0⟩,[pc0]) ⟨kW7,by simp,by simp,by rw[kZl];rfl⟩ ?_ ?_
 ·(simp only[go_sem]<;>(first|(and_intros<;>rfl)|simp))
 rintro⟨v,O⟩ ⟨hnum,hO1,hO,hI⟩;simp only at hnum hO1 hO hI⊢;by_cases hlt:O.length<40;rotate_left
 ·have hge:¬(O.length:Int)<40:=by omega
  rw[kZk hlt]at hI;rw[hI]
  (repeat' (first|apply zS|apply zB|(apply zW;simp only[go_sem,hge,List.append_nil])|apply And.intro|intro _))
  all_goals first|omega|rfl|skip
 have hli:(O.length:Int)<40:=by omega
 have hpre:kEl (I,B,E) R v:=by unfold kEl;exact⟨hsp,hRl,hnum⟩
 have hin:((O.length:Int)==1)=decide (O.length=1):=by
  rw[Bool.eq_iff_iff,beq_iff_eq,decide_eq_true_eq];omega
 cases hu:unwS (I,B,E) R v (decide (O.length=1))with
 |none =>
  have hV:=kC5 hu;rw[kZi hlt hu,List.append_nil]at hI;rw[hI]
  (repeat' (first|apply zS|apply zB|(apply zW;simp only[go_sem,hli,hin,hu,hV])|apply And.intro|intro _))
  all_goals first|omega|exact hpre|rfl|skip
 |some x =>
  have hV:=k5h hu;have hxn:=kUq hnum hu;obtain⟨xpc,xsp,xfp,xw⟩:=x;by_cases h0:xpc=0
  ·rw[k2p hlt hu h0,List.append_nil]at hI;rw[hI]
   (repeat' (first|apply zS|apply zB|(apply zW;simp only[go_sem,hli,hin,hu,hV,h0])|apply And.intro|intro _))
   all_goals first|omega|exact hpre|rfl|skip
  ·rw[kZj hlt hO1 hu h0]at hI
   (repeat' (first|apply zS|apply zB|(apply zW;simp only[go_sem,hli,hin,hu,hV,h0])|apply And.intro|intro _))
   all_goals first|omega|exact hpre|rfl|skip
   all_goals first|exact⟨(⟨xpc,xsp,xfp,xw⟩,O++[xpc]),⟨hxn,by simp,by simp;omega,by rw[hI];simp⟩,by simp;omega,by simp only[List.map_append,List.map_cons,List.map_nil,encI];(first|(and_intros<;>rfl)|simp)⟩|trace_state
end
theorem cUnwSz:Cn Tryz.prog 90 kTc:=Cn.kI0 (fun x=>kTg _) cUnwS
theorem cUnwIz:Cn Tryz.prog 115 kTc:=Cn.kI0 (fun x=>kTg _) cUnwI
end Go.Proofs.YtjdklcjoeanimaaGreat

namespace Go.Proofs.YtjdklcjoeanimaaGreat
open Go.Vc
attribute [local irreducible] Go.Vc.WP
attribute [local go_sem] kAd kAe
def kMw:List Go.Vc.Fp:=[⟨[1],[],[],[18],[],[]⟩,⟨[6],[0],[],[18],[],[]⟩,⟨[7],[0,1],[],[18],[],[]⟩,⟨[1],[],[],[18],[],[]⟩,⟨[9],[3],[],[18],[],[]⟩,⟨[10],[3,4],[],[18],[],[]⟩,⟨[1],[],[],[18],[],[]⟩,⟨[12],[6],[],[18],[],[]⟩,⟨[13],[6,7],[],[18],[],[]⟩,⟨[1],[],[],[18],[],[]⟩,⟨[15],[9],[],[18],[],[]⟩,⟨[16],[9,10],[],[18],[],[]⟩,⟨[11,14,17],[3,4,5,6,7,8,9,10,11],[],[],[],[18]⟩,⟨[1],[],[],[18],[],[]⟩,⟨[19],[13],[],[18],[],[]⟩,⟨[20],[13,14],[],[18],[],[]⟩,⟨[],[0,1,2,3,4,5,6,7,8,9,10,11,12,13,14,15],[],[],[],[]⟩,⟨[],[0,1,2,3,4,5,6,7,8,9,10,11,12,13,14,15,16],[],[],[],[]⟩,⟨[],[0,1,2,3,4,5,6,7,8,9,10,11,12,13,14,15,16,17],[],[],[],[]⟩,⟨[],[0,1,2,3,4,5,6,7,8,9,10,11,12,13,14,15,16,17,18],[],[],[],[]⟩]
attribute [local go_sem] kMw
attribute [local go_sem] kAf vwA smA kFt
def kGg (x:Int×Vw):ByteArray:=if smOk x=true then varint x.1++pack (x.2.pc::x.2.sp::x.2.fp::x.2.words)else⟨#[]⟩
theorem kZo (L:List Int):(pack L).size≤6+6*L.length:=by
 unfold pack;split
 ·have h1:=kP8 (varint L.length) L;have h2:=kFq L.length;omega
 ·simp[ByteArray.size]
def kLh:Ctr:=pur (fun args=>smA args 0) (fun x=>[.agg [.v (.int .i64 x.1),.v (.int .i64 x.2.pc),.v (.int .i64 x.2.sp),.v (.int .i64 x.2.fp),.sl 1 (x.2.words.map encI)]]) (fun x=>x.2.words.length≤1048576) (fun _ x=>.v (.string (kGg x))) (fun _ _=>[])
section
noncomputable def k9x:=mkX [(89,kIr),(159,kVar),(161,kNq)] (COk.cons qFc (COk.cons k9u (COk.cons cPackS (COk.nil _))))
theorem qM5:k9x.tys=tys:=rfl
theorem qM6:k9x.C=[(89,kIr),(159,kVar),(161,kNq)]:=rfl
attribute [local go_sem] qM5 qM6 kIr kVar kNq
theorem qMn:Cn Tryz.prog 88 kLh:=by
 refine Cn.pur Tryz.func88 (by kernel_rfl) rfl fun d x hx=>?_
 obtain⟨t,a,b,c,w⟩:=x;simp only at hx⊢;have v1:=kFq t;have v2:=kZo (a::b::c::w);simp only[List.length_cons]at v2;have hm:[SV.v (.int .i64 a)]::[SV.v (.int .i64 b)]::[SV.v (.int .i64 c)]::w.map encI=(a::b::c::w).map encI:=rfl;have hlen:(a::b::c::w).length≤2097152:=by simp only[List.length_cons];omega
 refine Holds.go (c:=k9x) Tryz.func88 rfl Tryz.results88 Tryz.ntmps88 (by omega) (by simp) rfl ?_
 intro X0 w0
 cases hok:smOk (t,⟨a,b,c,w⟩)with
 |false =>
  have e:kGg (t,⟨a,b,c,w⟩)=⟨#[]⟩:=by unfold kGg;rw[hok];rfl
  rw[e]
  (repeat' (first|apply zS|apply zB|((first|apply zW| refine zF 16 kMw [6,7,8,9,10,11,12,13,14,15,16,17,18,19,20,21] [18] [] (by decide +kernel) (by kernel_rfl) (by kernel_rfl) (by kernel_rfl) ?_);simp only[go_sem,hok])|apply And.intro|intro _))
  all_goals first|omega|rfl|skip
 |true =>
  have e:kGg (t,⟨a,b,c,w⟩)=varint t++pack (a::b::c::w):=if_pos hok;rw[e];generalize a::b::c::w=Z at hm v2 hlen
  (repeat' (first|apply zS|apply zB|((first|apply zW| refine zF 16 kMw [6,7,8,9,10,11,12,13,14,15,16,17,18,19,20,21] [18] [] (by decide +kernel) (by kernel_rfl) (by kernel_rfl) (by kernel_rfl) ?_);simp only[go_sem,hok,hm])|apply And.intro|intro _))
  all_goals first|omega|rfl|(obtain⟨n,_,rfl⟩:=List.mem_map.1 ‹_›;rfl)|skip
end
end Go.Proofs.YtjdklcjoeanimaaGreat

namespace Go.Proofs.YtjdklcjoeanimaaGreat
open Go.Vc
attribute [local irreducible] Go.Vc.WP
attribute [local go_sem] kAd kAe
open Go.Pl
attribute [local go_sem] kAf kAg spA kBe tmA kFa kBc kBq kCn pcA
def sizS (R:List ByteArray) (k:Nat):Nat:=((R.take k).map (·.size)).sum
theorem kZ1 {R:List ByteArray}{k:Nat}(h:k<R.length):sizS R (k+1)=sizS R k+R[k].size:=by
 unfold sizS;rw[List.take_succ_eq_append_getElem h,List.map_append,List.sum_append];simp
theorem kS9 (R:List ByteArray) (k:Nat):sizS R k≤sizS R R.length:=by
 unfold sizS;rw[List.take_length]
 conv=>rhs;rw[←List.take_append_drop k R]
 rw[List.map_append,List.sum_append];omega
def kByt:Ctr:=pur (fun args=>decS (aR args 0)) (fun R=>[.sl 1 (R.map encS)]) (fun R=>R.length≤4194304∧sizS R R.length≤1099511627776) (fun _ R=>.v (.int .i64 (sizS R R.length))) (fun _ _=>[])
abbrev RgX:=Int×List ByteArray×Int×Int
def rgA (args:List SV) (i:Nat):RgX:=match args[i]? with
 |some (.agg [.v (.int _ a),.sl _ r,.v (.int _ b),.v (.int _ c)])=>(a,decS r,b,c)
 | _=>(0,[],0,0)
attribute [local go_sem] rgA
def kE6 (x:RgX):Bool:=x.2.1.all (fun s=>decide (s≠⟨#[]⟩))&&decide ((0≤x.1∧x.1≤100000)∧(sizS x.2.1 x.2.1.length:Int)≤x.1∧((x.2.1.length:Int)≤x.2.2.1∧x.2.2.1≤1000000000000)∧0≤x.2.2.2∧x.2.2.2≤1000000000000)
def kGz:Ctr:=pur (fun args=>rgA args 0) (fun x=>[.agg [.v (.int .i64 x.1),.sl 1 (x.2.1.map encS),.v (.int .i64 x.2.2.1),.v (.int .i64 x.2.2.2)]]) (fun x=>x.2.1.length≤4194304∧sizS x.2.1 x.2.1.length≤1099511627776) (fun _ x=>.v (.bool (kE6 x))) (fun _ _=>[])
section
noncomputable def qB3:=mkX [] (COk.nil _)
theorem qRs:qB3.tys=tys:=rfl
theorem qRt:qB3.C=[]:=rfl
attribute [local go_sem] qRs qRt
theorem cBytI:Cn Tryz.prog 183 kByt:=by
 refine Cn.pur Tryz.func183 (by kernel_rfl) rfl fun d x hx=>?_
 rename List ByteArray=>R
 obtain⟨hR,hz⟩:=hx;refine Holds.go (c:=qB3) Tryz.func183 rfl Tryz.results183 Tryz.ntmps183 (by omega) (by simp) rfl ?_
 intro X0 w0
 (repeat' (first|apply zS|apply zB|(apply zW;simp only[go_sem])|apply And.intro|intro _))
 all_goals first|omega|skip
 refine zL (fun k:Nat=>⟨[(3,.v (.int .i64 (sizS R k))),(6,.sl 1 (R.map encS)),(7,.v (.int .i64 R.length)),(8,.v (.int .i64 k))],[]⟩) (fun k=>k≤R.length) (fun k=>R.length-k) 0 (by simp) ?_ ?_
 ·have h0:sizS R 0=0:=rfl
  (simp only[go_sem,h0]<;>(first|(and_intros<;>rfl)|simp))
 intro k hk;have hl:=kS9 R k;have hl1:=kS9 R (k+1);by_cases hlt:k<R.length
 ·have hli:(k:Int)<R.length:=by omega
  have hr:=kAa encS R k hlt;have hsu:=kZ1 hlt;have hsi:((sizS R (k+1):Nat):Int)=(sizS R k:Int)+(R[k].size:Int):=by rw[hsu,Int.natCast_add]
  (repeat' (first|apply zS|apply zB|(apply zW;simp only[go_sem,hli,hr,encS])|apply And.intro|intro _))
  all_goals first|omega|exact⟨k+1,by omega,by omega,by rw[hsi];(first|(and_intros<;>rfl)|simp)⟩|skip
 ·have hge:¬(k:Int)<R.length:=by omega
  obtain rfl:k=R.length:=by omega
  (repeat' (first|apply zS|apply zB|(apply zW;simp only[go_sem,hge])|apply And.intro|intro _))
  all_goals first|omega|skip
end
section
noncomputable def qB4:=mkX [] (COk.nil _)
theorem qRu:qB4.tys=tys:=rfl
theorem qRv:qB4.C=[]:=rfl
attribute [local go_sem] qRu qRv
theorem cBytS:Cn Tryz.prog 157 kByt:=by
 refine Cn.pur Tryz.func157 (by kernel_rfl) rfl fun d x hx=>?_
 rename List ByteArray=>R
 obtain⟨hR,hz⟩:=hx;refine Holds.go (c:=qB4) Tryz.func157 rfl Tryz.results157 Tryz.ntmps157 (by omega) (by simp) rfl ?_
 intro X0 w0
 (repeat' (first|apply zS|apply zB|(apply zW;simp only[go_sem])|apply And.intro|intro _))
 all_goals first|omega|skip
 refine zL (fun k:Nat=>⟨[(0,.sl 1 (R.map encS)),(3,.v (.int .i64 (sizS R k))),(4,.v (.int .i64 k))],[]⟩) (fun k=>k≤R.length) (fun k=>R.length-k) 0 (by simp) ?_ ?_
 ·have h0:sizS R 0=0:=rfl
  (simp only[go_sem,h0]<;>(first|(and_intros<;>rfl)|simp))
 intro k hk;have hl:=kS9 R k;have hl1:=kS9 R (k+1);by_cases hlt:k<R.length
 ·have hli:(k:Int)<R.length:=by omega
  have hr:=kAa encS R k hlt;have hsu:=kZ1 hlt;have hsi:((sizS R (k+1):Nat):Int)=(sizS R k:Int)+(R[k].size:Int):=by rw[hsu,Int.natCast_add]
  (repeat' (first|apply zS|apply zB|(apply zW;simp only[go_sem,hli,hr,encS])|apply And.intro|intro _))
  all_goals first|omega|exact⟨k+1,by omega,by omega,by rw[hsi];(first|(and_intros<;>rfl)|simp)⟩|skip
 ·have hge:¬(k:Int)<R.length:=by omega
  obtain rfl:k=R.length:=by omega
  (repeat' (first|apply zS|apply zB|(apply zW;simp only[go_sem,hge])|apply And.intro|intro _))
  all_goals first|omega|skip
end
section
noncomputable def qB5:=mkX [(68,k60),(183,kByt)] (COk.cons c60 (COk.cons cBytI (COk.nil _)))
theorem qRw:qB5.tys=tys:=rfl
theorem qRx:qB5.C=[(68,k60),(183,kByt)]:=rfl
attribute [local go_sem] qRw qRx k60 kByt
set_option maxHeartbeats 2000000 in
theorem qGp:Cn Tryz.prog 107 kGz:=by
 refine Cn.pur Tryz.func107 (by kernel_rfl) rfl fun d x hx=>?_
 obtain⟨cp,R,wr,lo⟩:=x;obtain⟨hR,hz⟩:=hx;simp only at hR hz⊢;have mod:kE6 (cp,R,wr,lo)=(R.all (fun s=>decide (s≠⟨#[]⟩))&&decide ((0≤cp∧cp≤100000)∧(sizS R R.length:Int)≤cp∧((R.length:Int)≤wr∧wr≤1000000000000)∧0≤lo∧lo≤1000000000000)):=rfl
 rw[mod];refine Holds.go (c:=qB5) Tryz.func107 rfl Tryz.results107 Tryz.ntmps107 (by omega) (by simp) rfl ?_
 intro X0 w0
 (repeat' (first|apply zS|apply zB|((first|apply zW| refine zd 24 (h:=?_));simp only[go_sem])|apply And.intro|intro _))
 all_goals first|omega|skip
 refine zL (fun k:Nat=>⟨[(1,.ptr 1 0 0 0),(6,.sl 1 (R.map encS)),(7,.v (.int .i64 R.length)),(8,.v (.int .i64 k))],[(1,.box 56 [.v (.int .i64 cp),.sl 1 (R.map encS),.v (.int .i64 wr),.v (.int .i64 lo)])]⟩)
  (fun k=>k≤R.length∧∀i (hi:i<R.length),i<k→R[i]≠⟨#[]⟩) (fun k=>R.length-k) 0 (by simp) ?_ ?_
 ·(simp only[go_sem]<;>(first|(and_intros<;>rfl)|simp))
 intro k ⟨hk,hf⟩;by_cases hlt:k<R.length
 ·have hli:(k:Int)<R.length:=by omega
  have hr:=kAa encS R k hlt;by_cases he:R[k]=⟨#[]⟩
  ·have ha:R.all (fun s=>decide (s≠⟨#[]⟩))=false:=List.all_eq_false.2 ⟨_,List.getElem_mem hlt,by simp[he]⟩
   rw[ha,Bool.false_and]
   (repeat' (first|apply zS|apply zB|((first|apply zW| refine zd 24 (h:=?_));simp only[go_sem,hli,hr,encS,he])|apply And.intro|intro _))
   all_goals first|omega|skip
  ·(repeat' (first|apply zS|apply zB|((first|apply zW| refine zd 24 (h:=?_));simp only[go_sem,hli,hr,encS,he])|apply And.intro|intro _))
   all_goals first|omega|exact⟨k+1,⟨by omega,fun i hi hik=>by
    rcases Nat.lt_or_ge i k with h|h
    ·exact hf i hi h
    ·have:i=k:=by omega
     subst this;exact he⟩,by omega,by(first|(and_intros<;>rfl)|simp)⟩|skip
 ·have hge:¬(k:Int)<R.length:=by omega
  have ha:R.all (fun s=>decide (s≠⟨#[]⟩))=true:=List.all_eq_true.2 fun s hs=>by
   obtain⟨i,hi,rfl⟩:=List.mem_iff_getElem.1 hs;rw[decide_eq_true_eq];exact hf i hi (by omega)
  have e:decide ((0≤cp∧cp≤100000)∧(sizS R R.length:Int)≤cp∧((R.length:Int)≤wr∧wr≤1000000000000)∧0≤lo∧lo≤1000000000000)=((decide (0≤cp)&&decide (cp≤100000))&&decide ((sizS R R.length:Int)≤cp)&&(decide ((R.length:Int)≤wr)&&decide (wr≤1000000000000))&&(decide (0≤lo)&&decide (lo≤1000000000000))):=by
   rw[Bool.eq_iff_iff];simp only[decide_eq_true_eq,Bool.and_eq_true];omega
  rw[ha,Bool.true_and,e]
  (repeat' (first|apply zS|apply zB|((first|apply zW| refine zd 24 (h:=?_));simp only[go_sem,hge])|apply And.intro|intro _))
  all_goals first|omega|rfl|skip
end
section
noncomputable def qB6:=mkX [(66,k60),(157,kByt)] (COk.cons c58 (COk.cons cBytS (COk.nil _)))
theorem qRy:qB6.tys=tys:=rfl
theorem qRz:qB6.C=[(66,k60),(157,kByt)]:=rfl
attribute [local go_sem] qRy qRz k60 kByt
set_option maxHeartbeats 2000000 in
theorem qGq:Cn Tryz.prog 83 kGz:=by
 refine Cn.pur Tryz.func83 (by kernel_rfl) rfl fun d x hx=>?_
 obtain⟨cp,R,wr,lo⟩:=x;obtain⟨hR,hz⟩:=hx;simp only at hR hz⊢;have mod:kE6 (cp,R,wr,lo)=(R.all (fun s=>decide (s≠⟨#[]⟩))&&decide ((0≤cp∧cp≤100000)∧(sizS R R.length:Int)≤cp∧((R.length:Int)≤wr∧wr≤1000000000000)∧0≤lo∧lo≤1000000000000)):=rfl
 rw[mod];refine Holds.go (c:=qB6) Tryz.func83 rfl Tryz.results83 Tryz.ntmps83 (by omega) (by simp) rfl ?_
 intro X0 w0
 (repeat' (first|apply zS|apply zB|((first|apply zW| refine zd 24 (h:=?_));simp only[go_sem])|apply And.intro|intro _))
 all_goals first|omega|skip
 refine zL (fun k:Nat=>⟨[(1,.ptr 1 0 0 0),(3,.v (.int .i64 k))],[(1,.box 56 [.v (.int .i64 cp),.sl 1 (R.map encS),.v (.int .i64 wr),.v (.int .i64 lo)])]⟩)
  (fun k=>k≤R.length∧∀i (hi:i<R.length),i<k→R[i]≠⟨#[]⟩) (fun k=>R.length-k) 0 (by simp) ?_ ?_
 ·(simp only[go_sem]<;>(first|(and_intros<;>rfl)|simp))
 intro k ⟨hk,hf⟩;by_cases hlt:k<R.length
 ·have hli:(k:Int)<R.length:=by omega
  have hr:=kAa encS R k hlt;by_cases he:R[k]=⟨#[]⟩
  ·have ha:R.all (fun s=>decide (s≠⟨#[]⟩))=false:=List.all_eq_false.2 ⟨_,List.getElem_mem hlt,by simp[he]⟩
   rw[ha,Bool.false_and]
   (repeat' (first|apply zS|apply zB|((first|apply zW| refine zd 24 (h:=?_));simp only[go_sem,hli,hr,encS,he])|apply And.intro|intro _))
   all_goals first|omega|skip
  ·(repeat' (first|apply zS|apply zB|((first|apply zW| refine zd 24 (h:=?_));simp only[go_sem,hli,hr,encS,he])|apply And.intro|intro _))
   all_goals first|omega|exact⟨k+1,⟨by omega,fun i hi hik=>by
    rcases Nat.lt_or_ge i k with h|h
    ·exact hf i hi h
    ·have:i=k:=by omega
     subst this;exact he⟩,by omega,by(first|(and_intros<;>rfl)|simp)⟩|skip
 ·have hge:¬(k:Int)<R.length:=by omega
  have ha:R.all (fun s=>decide (s≠⟨#[]⟩))=true:=List.all_eq_true.2 fun s hs=>by
   obtain⟨i,hi,rfl⟩:=List.mem_iff_getElem.1 hs;rw[decide_eq_true_eq];exact hf i hi (by omega)
  have e:decide ((0≤cp∧cp≤100000)∧(sizS R R.length:Int)≤cp∧((R.length:Int)≤wr∧wr≤1000000000000)∧0≤lo∧lo≤1000000000000)=((decide (0≤cp)&&decide (cp≤100000))&&decide ((sizS R R.length:Int)≤cp)&&(decide ((R.length:Int)≤wr)&&decide (wr≤1000000000000))&&(decide (0≤lo)&&decide (lo≤1000000000000))):=by
   rw[Bool.eq_iff_iff];simp only[decide_eq_true_eq,Bool.and_eq_true];omega
  rw[ha,Bool.true_and,e]
  (repeat' (first|apply zS|apply zB|((first|apply zW| refine zd 24 (h:=?_));simp only[go_sem,hge])|apply And.intro|intro _))
  all_goals first|omega|rfl|skip
end
abbrev SeX:=PcX×Tm×RgX×Int×Int×Int
def aggSe (x:SeX):List SV:=[.sl 2 (x.1.1.1.map encImage),.sl 1 (x.1.1.2.1.map encI),.sl 1 (x.1.1.2.2.map encI),.sl 7 (x.1.2.1.map encMach),.v (.int .i64 x.1.2.2.1),.v (.int .i64 x.1.2.2.2.1),.v (.int .i64 x.1.2.2.2.2),
 .v (.int .i64 x.2.1.period),.v (.int .i64 x.2.1.spread),.v (.int .i64 x.2.1.left),.v (.int .i64 x.2.1.state),.v (.int .i64 x.2.2.1.1),.sl 1 (x.2.2.1.2.1.map encS),.v (.int .i64 x.2.2.1.2.2.1),.v (.int .i64 x.2.2.1.2.2.2),
 .v (.int .i64 x.2.2.2.1),.v (.int .i64 x.2.2.2.2.1),.v (.int .i64 x.2.2.2.2.2)]
def seA (args:List SV) (i:Nat):SeX:=match args[i]? with
 |some (.agg [.sl _ a,.sl _ b,.sl _ c,.sl _ t,.v (.int _ x),.v (.int _ y),.v (.int _ z),.v (.int _ p),.v (.int _ q),.v (.int _ l),.v (.int _ st),.v (.int _ cp),.sl _ r,.v (.int _ wr),.v (.int _ lo),.v (.int _ m),.v (.int _ sp),.v (.int _ f)]) =>
  (((kDl a,decI b,decI c),kGq t,x,y,z),⟨p,q,l,st⟩,(cp,decS r,wr,lo),m,sp,f)
 | _=>((([],[],[]),[],0,0,0),⟨0,0,0,0⟩,(0,[],0,0),0,0,0)
attribute [local go_sem] seA aggSe
def kE7 (x:SeX):Bool:=kOu x.1&&tmOk x.2.1&&kE6 x.2.2.1&&decide ((0≤x.2.2.2.1∧x.2.2.2.1≤1200)∧(0≤x.2.2.2.2.1∧x.2.2.2.2.1≤1000000000000)∧0≤x.2.2.2.2.2∧x.2.2.2.2.2≤1000000000000)
def kPy (x:SeX):Prop:=kV6 x.1∧x.2.2.1.2.1.length≤4194304∧sizS x.2.2.1.2.1 x.2.2.1.2.1.length≤1099511627776
def kP5:Ctr:=pur (fun args=>seA args 0) (fun x=>[.agg (aggSe x)]) kPy (fun _ x=>.v (.bool (kE7 x))) (fun _ _=>[])
def kW2 (x:SeX):Bool:=(decide (0≤x.2.2.2.2.1)&&decide (x.2.2.2.2.1≤1000000000000))&&(decide (0≤x.2.2.2.2.2)&&decide (x.2.2.2.2.2≤1000000000000))&&(decide (0≤x.2.2.1.2.2.1)&&decide (x.2.2.1.2.2.1≤1000000000000))&&(decide (0≤x.2.2.1.2.2.2)&&decide (x.2.2.1.2.2.2≤1000000000000))
def k4y:Ctr:=pur (fun args=>seA args 0) (fun x=>[.agg (aggSe x)]) (fun _=>True) (fun _ x=>.v (.bool (kW2 x))) (fun _ _=>[])
section
noncomputable def qB7:=mkX [(68,k60)] (COk.cons c60 (COk.nil _))
theorem qR0:qB7.tys=tys:=rfl
theorem qR1:qB7.C=[(68,k60)]:=rfl
attribute [local go_sem] qR0 qR1 k60
theorem qR2:Cn Tryz.prog 108 k4y:=by
 refine Cn.pur Tryz.func108 (by kernel_rfl) rfl fun d x hx=>?_
 obtain⟨⟨⟨I,B,E⟩,T,tu,le,sl⟩,⟨p,q,l,st⟩,⟨cp,R,wr,lo⟩,mo,sp,fi⟩:=x;simp only[aggSe];have e:kW2 (((I,B,E),T,tu,le,sl),⟨p,q,l,st⟩,(cp,R,wr,lo),mo,sp,fi)=((decide (0≤sp)&&decide (sp≤1000000000000))&&(decide (0≤fi)&&decide (fi≤1000000000000))&&(decide (0≤wr)&&decide (wr≤1000000000000))&&(decide (0≤lo)&&decide (lo≤1000000000000))):=rfl;rw[e];refine Holds.go (c:=qB7) Tryz.func108 rfl Tryz.results108 Tryz.ntmps108 (by omega) (by simp) rfl ?_
 intro X0 w0
 (repeat' (first|apply zS|apply zB|(apply zW;simp only[go_sem])|apply And.intro|intro _))
 all_goals first|omega|rfl|skip
end
section
noncomputable def k4z:CL:=[(68,k60),(105,kQm),(106,kQn),(107,kGz),(108,k4y)]
noncomputable def qB8:=mkX k4z (COk.cons c60 (COk.cons cPcOkI (COk.cons cTmOkI (COk.cons qGp (COk.cons qR2 (COk.nil _))))))
theorem qR3:qB8.tys=tys:=rfl
theorem qR4:qB8.C=k4z:=rfl
attribute [local go_sem] qR3 qR4 k4z k60 kQm kQn kGz k4y
theorem cSeOkI:Cn Tryz.prog 46 kP5:=by
 refine Cn.pur Tryz.func46 (by kernel_rfl) rfl fun d x hx=>?_
 obtain⟨⟨⟨I,B,E⟩,T,tu,le,sl⟩,⟨p,q,l,st⟩,⟨cp,R,wr,lo⟩,mo,sp,fi⟩:=x;obtain⟨hP,hR,hz⟩:=hx;simp only[aggSe]at hP hR hz⊢
 have e:kE7 (((I,B,E),T,tu,le,sl),⟨p,q,l,st⟩,(cp,R,wr,lo),mo,sp,fi)=(kOu ((I,B,E),T,tu,le,sl)&&tmOk ⟨p,q,l,st⟩&&kE6 (cp,R,wr,lo)&&(decide (0≤mo)&&decide (mo≤1200))&&kW2 (((I,B,E),T,tu,le,sl),⟨p,q,l,st⟩,(cp,R,wr,lo),mo,sp,fi)):=by
  rw[Bool.eq_iff_iff];simp only[kE7,kW2,Bool.and_eq_true,decide_eq_true_eq];constructor
  ·rintro⟨⟨⟨h1,h2⟩,h3⟩,h4⟩;have h5:=h3;unfold kE6 at h5;simp only[Bool.and_eq_true,decide_eq_true_eq]at h5;refine⟨⟨⟨⟨h1,h2⟩,h3⟩,?_⟩,?_⟩<;>omega
  ·rintro⟨⟨⟨⟨h1,h2⟩,h3⟩,h4⟩,h5⟩;refine⟨⟨⟨h1,h2⟩,h3⟩,?_⟩;omega
 rw[e];refine Holds.go (c:=qB8) Tryz.func46 rfl Tryz.results46 Tryz.ntmps46 (by omega) (by simp) rfl ?_
 intro X0 w0
 (repeat' (first|apply zS|apply zB|(apply zW;simp only[go_sem])|apply And.intro|intro _))
 all_goals first|omega|exact hP|exact hP.1|exact hP.2.1|exact hP.2.2|exact hP.2.2 _ ‹_›|exact hP.1.1|exact hP.1.1.1|exact hP.1.1.2|exact hP.1.1.2 _ ‹_›|exact(hP.1.1.2 _ ‹_›).1|exact(hP.1.1.2 _ ‹_›).2.1|exact(hP.1.1.2 _ ‹_›).2.2 _ ‹_›|exact hP.1.2.1|exact hP.1.2.2|rfl|(rename_i h;first|exact h.1|exact h.2|exact h.1.1|exact h.1.2)|skip
end
section
noncomputable def qB9:=mkX [(66,k60),(81,kQm),(82,kQn),(83,kGz)] (COk.cons c58 (COk.cons cPcOkS (COk.cons cTmOkS (COk.cons qGq (COk.nil _)))))
theorem qR5:qB9.tys=tys:=rfl
theorem qR6:qB9.C=[(66,k60),(81,kQm),(82,kQn),(83,kGz)]:=rfl
attribute [local go_sem] qR5 qR6 k60 kQm kQn kGz
theorem cSeOkS:Cn Tryz.prog 31 kP5:=by
 refine Cn.pur Tryz.func31 (by kernel_rfl) rfl fun d x hx=>?_
 obtain⟨⟨⟨I,B,E⟩,T,tu,le,sl⟩,⟨p,q,l,st⟩,⟨cp,R,wr,lo⟩,mo,sp,fi⟩:=x;obtain⟨hP,hR,hz⟩:=hx;simp only[aggSe]at hP hR hz⊢
 have e:kE7 (((I,B,E),T,tu,le,sl),⟨p,q,l,st⟩,(cp,R,wr,lo),mo,sp,fi)=(kOu ((I,B,E),T,tu,le,sl)&&tmOk ⟨p,q,l,st⟩&&kE6 (cp,R,wr,lo)&&(decide (0≤mo)&&decide (mo≤1200))&&(decide (0≤sp)&&decide (sp≤1000000000000))&&(decide (0≤fi)&&decide (fi≤1000000000000))):=by
  rw[Bool.eq_iff_iff];simp only[kE7,Bool.and_eq_true,decide_eq_true_eq,and_assoc]
 rw[e];refine Holds.go (c:=qB9) Tryz.func31 rfl Tryz.results31 Tryz.ntmps31 (by omega) (by simp) rfl ?_
 intro X0 w0
 (repeat' (first|apply zS|apply zB|(apply zW;simp only[go_sem])|apply And.intro|intro _))
 all_goals first|omega|exact hP|exact hP.1|exact hP.2.1|exact hP.2.2|exact hP.2.2 _ ‹_›|exact hP.1.1|exact hP.1.1.1|exact hP.1.1.2|exact hP.1.1.2 _ ‹_›|exact(hP.1.1.2 _ ‹_›).1|exact(hP.1.1.2 _ ‹_›).2.1|exact(hP.1.1.2 _ ‹_›).2.2 _ ‹_›|exact hP.1.2.1|exact hP.1.2.2|rfl|(rename_i h;first|exact h.1|exact h.2|exact h.1.1|exact h.1.2)|skip
end
end Go.Proofs.YtjdklcjoeanimaaGreat

