/-
  DERIVED. Several texts of ours in one: VtOutw, VtStI.
-/
import Derived.Test.YtjdklcjoeanimaaGreatVd6
import Derived.Test.YtjdklcjoeanimaaGreatVd23
import Derived.Test.YtjdklcjoeanimaaGreatVd33
set_option linter.unusedSimpArgs false
set_option linter.unusedVariables false
set_option maxHeartbeats 1000000
set_option maxRecDepth 10000
namespace Go.Proofs.YtjdklcjoeanimaaGreat
open Go.Vc
def kLy (f:List Frame):List SV:=[.sl 2 (f.map kAc)]
def oneFL:List SV→List Frame
 | [.sl _ r]=>kKd r
 | _=>[]
def qAj (rows:List (List SV)):List (List Frame):=rows.map oneFL
theorem qFq (L:List (List Frame)):qAj (L.map kLy)=L:=by
 unfold qAj;rw[List.map_map];exact List.map_id'' (fun f=>by show kKd (f.map kAc)=f;exact kCd f) L
theorem kZ6 {X:Nat→Prop}{w w':World}(h:Go.RowKit.Below w.heap.size w w'):Same X w w':=by
 obtain⟨_,_,_,hs,hk⟩:=h;exact⟨hs,fun b hb _=>hk b hb⟩
def qFr (w:World) (X:Nat→Prop) (B:Nat):El w X B:=⟨0,.slice none 0 0,[],[],⟨rfl,by simp,by simp,by simp⟩,Nat.zero_le _,.inl ⟨none,0,rfl,rfl⟩⟩
theorem elOf {w:World}{X:Nat→Prop}{f:List Frame}{u:Value}{B:Nat}(hB:f.length≤B) (k:Nat) (h:Rp w X (.sl 2 (f.map kAc)) u):∃x:El w X B,x.ix=k∧x.v=u∧x.rows=f.map kAc:=by
 have hR:R w X (fun _=>nilB) (.sl 2 (f.map kAc)) u:=.p h
 rcases hR.kSg with⟨e,p,cap,rfl⟩|⟨b,off,cap,rfl,_,hb,_,_⟩
 ·exact⟨⟨k,.slice p 0 cap,[],[],⟨rfl,by simp,by simp,by simp⟩,Nat.zero_le _,.inl ⟨p,cap,rfl,rfl⟩⟩,rfl,rfl,e.symm⟩
 ·obtain⟨vals,hf,hc⟩:=h.flat;exact⟨⟨k,_,f.map kAc,vals,hf,by simpa using hB,.inr ⟨b,off,cap,rfl,hb,fun j u hu=>by rw[kHh];exact hc j u hu⟩⟩,rfl,rfl,rfl⟩
theorem flatE {w:World}{X:Nat→Prop}{B:Nat}:∀L:List (El w X B),Flat w X 2 (kF0 L) (valsE L)
 | []=>⟨rfl,by simp[kF0],by simp[valsE],by simp[kF0]⟩
 |x::r=>by
  have h:=x.flat.append (flatE r);have e1:kF0 (x::r)=x.rows++kF0 r:=by simp[kF0]
  have e2:valsE (x::r)=x.vals++valsE r:=by simp[valsE]
  rw[e1,e2];exact h
theorem kWm {w:World}{X:Nat→Prop}{B:Nat}{f:Nat→El w X B}{L:List (List Frame)}(h:∀k (hk:k<L.length),(f k).rows=L[k].map kAc):kF0 (come f L.length L.length)=L.reverse.flatten.map kAc:=by
 unfold kF0 come;rw[List.map_flatten,List.map_map];congr 1;apply List.ext_getElem
 ·simp
 ·intro i h1 h2;simp only[List.length_map,List.length_range,List.length_reverse]at h1 h2;simp only[List.getElem_map,List.getElem_range,List.getElem_reverse,Function.comp];exact h _ (by omega)
def qAk:Ctr:=pur (fun args=>qAj (aR args 0)) (fun L=>[.sl 1 (L.map kLy)]) (fun L=>L.length≤64∧∀f∈L,f.length≤4194305) (fun d _=>.own d) (fun d L=>[(d,.sl 228 2 (L.reverse.flatten.map kAc))])
theorem cOutwI:Cn Tryz.prog 118 qAk:=by
 refine Cn.pur Tryz.func118 (by kernel_rfl) rfl fun d L hx=>?_
 obtain⟨hL,hF⟩:=hx;intro w X vs hG hXb hl ha
 obtain⟨sv,rfl⟩:∃sv,vs=[sv]:=by
  match vs,hl with
  | [sv],_=>exact⟨sv,rfl⟩
 have hR:R w X (fun _=>nilB) (.sl 1 (L.map kLy)) sv:=ha 0 _ _ rfl rfl
 have hex:∃(a:Option Addr) (cap:Nat) (f:Nat→El w X 4194305),sv=.slice a L.length cap∧(∀k,k<L.length→(f k).ix=k)∧Vals w.heap.size w sv f (·.v) L.length∧∀k (hk:k<L.length),(f k).rows=L[k].map kAc:=by
  rcases hR.kSg with⟨e,p,cap,rfl⟩|⟨b,off,cap,rfl,_,hb,hcap,hcell⟩
  ·have hL0:L=[]:=by simpa using e
   subst hL0;exact⟨p,cap,fun _=>qFr w X _,rfl,fun k hk=>absurd hk (by simp),.inl ⟨p,cap,rfl,rfl⟩,fun k hk=>absurd hk (by simp)⟩
  ·have hel:∀k (hk:k<L.length),∃x:El w X 4194305,x.ix=k∧w.cell? ⟨b,off+k,none⟩=some x.v∧x.rows=L[k].map kAc:=fun k hk=>by
    obtain⟨u,hu,hr⟩:=hcell k 0 (kLy L[k]) (.sl 2 (L[k].map kAc)) (by rw[List.getElem?_map,List.getElem?_eq_getElem hk];rfl) rfl
    obtain⟨x,h1,h2,h3⟩:=elOf (hF _ (List.getElem_mem hk)) k hr;exact⟨x,h1,by rw[h2,←hu];congr 2;simp,h3⟩
   have hc:∀k (hk:k<L.length),(Classical.choose (hel k hk)).ix=k∧w.cell? ⟨b,off+k,none⟩=some (Classical.choose (hel k hk)).v∧(Classical.choose (hel k hk)).rows=L[k].map kAc:=fun k hk=>Classical.choose_spec (hel k hk)
   refine⟨some ⟨b,off,none⟩,cap,fun k=>if hk:k<L.length then Classical.choose (hel k hk)else qFr w X _,by simp,fun k hk=>?_,.inr ⟨b,off,cap,by simp,hb,fun k hk=>?_⟩,fun k hk=>?_⟩
   ·simp only[dif_pos hk];exact(hc k hk).1
   ·simp only[dif_pos hk];exact(hc k hk).2.1
   ·simp only[dif_pos hk];exact(hc k hk).2.2
 obtain⟨a,cap,f,rfl,hix,hV,hrows⟩:=hex;refine(callsIn_wide.1 (qLz Fence.wide 3 trivial trivial trivial rfl (by omega) w X a cap 4194305 f L.length (by omega) hix hV (by omega))).mono fun e w' ⟨v,he,hown,hB⟩=>?_
 rw[kWm hrows]at hown
 have hft:∀b,blk v=some b→w.heap.size≤b:=fun b hb=>by
  rcases hown.2 with⟨rfl,_⟩|⟨b',c,cur,rfl,hle,_⟩
  ·cases hb
  ·cases hb;exact hle
 have hfl:∀X':Nat→Prop,(∀b,b<w.heap.size→X' b→X b)→Flat w' X' 2 (L.reverse.flatten.map kAc) (valsE (come f L.length L.length)):=fun X' hX'=>by
  have:=flatE (come f L.length L.length);rw[kWm hrows]at this;exact this.mono (kZ6 hB) hX'
 refine⟨v,fun _=>plain v,he,hB,fun _=>?_,.own d,⟨fun id ob hi=>?_,fun i j oi oj b hi hj _ _=>?_⟩,fun id ob b hi hb=>?_⟩
 ·rcases hown.2 with⟨rfl,_⟩|⟨b,c,cur,rfl,_⟩<;>rfl
 ·simp only[lk]at hi;split at hi
  ·cases hi;refine ObR.kOa hown (hfl _ fun b hb h=>?_)
   rcases h with h|⟨i,o,_,h⟩
   ·exact h
   ·have:=hft b h;omega
  ·cases hi
 ·simp only[lk]at hi hj;split at hi
  ·split at hj
   ·rename_i e1 e2;rw[e1,e2]
   ·cases hj
  ·cases hi
 ·exact hft b hb
end Go.Proofs.YtjdklcjoeanimaaGreat

namespace Go.Proofs.YtjdklcjoeanimaaGreat
open Go.Vc
attribute [local irreducible] Go.Vc.WP
attribute [local go_sem] kAd kAe
open Go.Pl
attribute [local go_sem] kAf kAg spA kA4 kBu kDd agA aggAg kGs smA vwA kFt St.fzS addL behind St.runO St.kIm qFq
def kKn:Ctr:=pur (fun args=>(agA args 0,decI (aR args 1),aB args 2)) (fun x=>[.agg (aggAg x.1),.sl 1 (x.2.1.map encI),.v (.bool x.2.2)]) (fun x=>AgR x.1∧x.2.1.length≤64∧∀n∈x.2.1,okN n)
 (fun d _=>.own d) (fun d x=>[(d,.sl 101 1 ((knGo x.1 x.2.2 0 x.2.1).map kLy))])
def kKnZ:Ctr:=pur (fun args=>(agA args 0,decI (aR args 1),aB args 2)) (fun x=>[.agg (aggAg x.1),.sl 1 (x.2.1.map encI),.v (.bool x.2.2)]) (fun x=>AgR x.1∧x.2.1.length≤64∧∀n∈x.2.1,okN n)
 (fun _ x=>.sl 1 ((knGo x.1 x.2.2 0 x.2.1).map kLy)) (fun _ _=>[])
theorem qGt {a:AgX}{st:Bool}{L:List Int}{k:Nat}(hk:k<L.length):knGo a st k (L.drop k)=match kBg a (if k=0 then L[k]else L[k]-1) (st&&decide (k=0))with
  |none=>[]
  |some f=>f::knGo a st (k+1) (L.drop (k+1)):=by
 rw[List.drop_eq_getElem_cons hk];rfl
theorem k41 {a:AgX}(h:AgR a) (st:Bool):∀(L:List Int) (i:Nat),∀f∈knGo a st i L,f.length≤4194305
 | [],i=>by intro f hf;cases hf
 |x::r,i=>by
  unfold knGo;have hl:=k7i h (if i=0 then x else x-1) (st&&decide (i=0))
  unfold faL at hl
  cases hf:kBg a (if i=0 then x else x-1) (st&&decide (i=0))with
  |none=>intro f hf;cases hf
  |some g =>
   rw[hf]at hl;intro f hm;rcases List.mem_cons.1 hm with rfl|hm
   ·exact hl
   ·exact k41 h st r (i+1) f hm
section
attribute [local irreducible] kDx kFj okN
noncomputable def cxKn:=mkX [(191,kFrA)] (COk.cons cFrAI (COk.nil _))
theorem cxKn_t:cxKn.tys=tys:=rfl
theorem cxKn_c:cxKn.C=[(191,kFrA)]:=rfl
attribute [local go_sem] cxKn_t cxKn_c kFrA
set_option maxHeartbeats 4000000 in
theorem cKnI:Cn Tryz.prog 117 kKn:=by
 refine Cn.pur Tryz.func117 (by kernel_rfl) rfl fun d x hx=>?_
 obtain⟨⟨⟨I,B,E⟩,D⟩,L,st⟩:=x;obtain⟨hA,hL,hn⟩:=hx;simp only at hA hL hn⊢;simp only[aggAg];refine Holds.go (c:=cxKn) Tryz.func117 rfl Tryz.results117 Tryz.ntmps117 (by omega) (by simp) rfl ?_
 intro X0 w0
 (repeat' (first|apply zS|apply zB|(apply zW;simp only[go_sem])|apply And.intro|intro _))
 all_goals first|omega|skip
 generalize hK:knGo ((I,B,E),D) st 0 L=K0
 refine zL (fun s:Nat×List (List Frame)=>⟨[(2,.v (.bool st)),(3,.ptr 3 0 0 0),(7,.own 12),(13,.sl 1 (L.map encI)),(14,.v (.int .i64 L.length)),(15,.v (.int .i64 s.1))],[(3,.box 70 [.sl 2 (I.map encImage),.sl 1 (B.map encI),.sl 1 (E.map encI),.sl 5 (D.map encDebug)]),(12,.sl 101 1 (s.2.map kLy))]⟩)
  (fun s=>s.1≤L.length∧s.2.length=s.1∧K0=s.2++knGo ((I,B,E),D) st s.1 (L.drop s.1)) (fun s=>L.length-s.1) (0,[]) ⟨by simp,rfl,by rw[←hK];rfl⟩ ?_ ?_
 ·(simp only[go_sem]<;>(first|(and_intros<;>rfl)|simp))
 rintro⟨k,K⟩ ⟨hk,hKl,hI⟩;simp only at hk hKl hI⊢;by_cases hlt:k<L.length;rotate_left
 ·have hge:¬(k:Int)<L.length:=by omega
  have hke:k=L.length:=by omega
  rw[hke,List.drop_length,show knGo ((I,B,E),D) st L.length []=[]from rfl,List.append_nil]at hI
  subst hI
  (repeat' (first|apply zS|apply zB|(apply zW;simp only[go_sem,hge])|apply And.intro|intro _))
  all_goals first|omega|rfl|skip
 have hli:(k:Int)<L.length:=by omega
 have hr:=kAa encI L k hlt;have hxn:=hn _ (List.getElem_mem hlt);have hxn2:=hxn;unfold okN at hxn2;have hst:=@qGt ((I,B,E),D) st L k hlt;by_cases h0:k=0
 ·have hk0:¬(k:Int)>0:=by omega
  have hin:((k:Int)==0)=true:=by rw[beq_iff_eq];omega
  rw[if_pos h0,decide_eq_true h0,Bool.and_true]at hst;generalize L[k]=x at *
  cases hf:kBg ((I,B,E),D) x st with
  |none =>
   rw[hf]at hst;simp only at hst;rw[hst,List.append_nil]at hI;subst hI;have hfa:faL ((I,B,E),D) x st=[]:=by unfold faL;rw[hf];rfl
   (repeat' (first|apply zS|apply zB|(apply zW;simp only[go_sem,hli,hr,encI,hk0,hin,hfa,hf])|apply And.intro|intro _))
   all_goals first|omega|exact hA|rfl|skip
  |some F =>
   rw[hf]at hst;simp only at hst;rw[hst]at hI;have hfa:faL ((I,B,E),D) x st=F:=by unfold faL;rw[hf];rfl
   (repeat' (first|apply zS|apply zB|(apply zW;simp only[go_sem,hli,hr,encI,hk0,hin,hfa,hf])|apply And.intro|intro _))
   all_goals first|omega|exact hA|rfl|exact⟨(k+1,K++[F]),⟨by omega,by simp[hKl],by rw[hI];simp⟩,by simp only;omega,by simp only[List.map_append,List.map_cons,List.map_nil,kLy];(first|(and_intros<;>rfl)|simp)⟩|skip
 ·have hk0:(k:Int)>0:=by omega
  have hin:((k:Int)==0)=false:=by rw[beq_eq_false_iff_ne];omega
  rw[if_neg h0,decide_eq_false h0,Bool.and_false]at hst;generalize L[k]=x at *
  cases hf:kBg ((I,B,E),D) (x-1) false with
  |none =>
   rw[hf]at hst;simp only at hst;rw[hst,List.append_nil]at hI;subst hI;have hfa:faL ((I,B,E),D) (x-1) false=[]:=by unfold faL;rw[hf];rfl
   (repeat' (first|apply zS|apply zB|(apply zW;simp only[go_sem,hli,hr,encI,hk0,hin,hfa,hf,Bool.and_false])|apply And.intro|intro _))
   all_goals first|omega|exact hA|rfl|skip
  |some F =>
   rw[hf]at hst;simp only at hst;rw[hst]at hI;have hfa:faL ((I,B,E),D) (x-1) false=F:=by unfold faL;rw[hf];rfl
   (repeat' (first|apply zS|apply zB|(apply zW;simp only[go_sem,hli,hr,encI,hk0,hin,hfa,hf,Bool.and_false])|apply And.intro|intro _))
   all_goals first|omega|exact hA|rfl|exact⟨(k+1,K++[F]),⟨by omega,by simp[hKl],by rw[hI];simp⟩,by simp only;omega,by simp only[List.map_append,List.map_cons,List.map_nil,kLy];(first|(and_intros<;>rfl)|simp)⟩|skip
end
theorem cKnIz:Cn Tryz.prog 117 kKnZ:=Cn.kOb cKnI
section
attribute [local irreducible] kDx kEl numV kFj
noncomputable def k42:CL:=[(45,kK6),(114,kIr),(116,kL9),(115,kTc),(117,kKnZ),(118,qAk)]
noncomputable def qCg:=mkX k42 (COk.cons qEz (COk.cons qFd (COk.cons qHs (COk.cons cUnwIz (COk.cons cKnIz (COk.cons cOutwI (COk.nil _)))))))
theorem qSj:qCg.tys=tys:=rfl
theorem qSk:qCg.C=k42:=rfl
attribute [local go_sem] qSj qSk k42 kK6 kIr kL9 kTc kKnZ qAk
set_option maxHeartbeats 6000000 in
theorem cStkI:Cn Tryz.prog 50 kStk:=by
 refine Cn.pur Tryz.func50 (by kernel_rfl) rfl fun d x hx=>?_
 obtain⟨⟨⟨I,B,E⟩,D⟩,⟨t,pc,sp,fp,w⟩,st⟩:=x;obtain⟨hpa,hnum⟩:=hx;have hwl:=@kW4 (t,⟨pc,sp,fp,w⟩) hnum
 have hpu:kEl (I,B,E) (D.map (·.rules)) ⟨pc,sp,fp,w⟩:=by
  unfold kEl;have h1:=AgR.rules hpa;unfold kFj at hpa;exact⟨hpa.1,h1,hnum⟩
 simp only at hpa hnum hwl⊢;simp only[aggAg];refine Holds.go (c:=qCg) Tryz.func50 rfl Tryz.results50 Tryz.ntmps50 (by omega) (by simp) rfl ?_
 intro X0 w0
 cases hok:kBn ((I,B,E),D)with
 |false =>
  have e:=@kT1 ((I,B,E),D) (t,⟨pc,sp,fp,w⟩) st hok;rw[kKw e,e]
  (repeat' (first|apply zS|apply zB|((first|apply zW| refine zd 11 (h:=?_));simp only[go_sem,hok])|apply And.intro|intro _))
  all_goals first|omega|exact hpa|exact hpu|rfl|exact⟨_,_,rfl⟩|skip
 |true =>
 cases hsm:smOk (t,⟨pc,sp,fp,w⟩)with
 |false =>
  have e:=@kT2 ((I,B,E),D) (t,⟨pc,sp,fp,w⟩) st hsm;rw[kKw e,e]
  (repeat' (first|apply zS|apply zB|((first|apply zW| refine zd 11 (h:=?_));simp only[go_sem,hok,hsm])|apply And.intro|intro _))
  all_goals first|omega|exact hpa|exact hpu|rfl|exact⟨_,_,rfl⟩|skip
 |true =>
 have hA:AgR ((I,B,E),D):=⟨hpa,hok⟩;have hD2:D.length=2:=hA.len;have s1:=@kT3 ((I,B,E),D) (t,⟨pc,sp,fp,w⟩) st;have s2:=@kT4 ((I,B,E),D) (t,⟨pc,sp,fp,w⟩) st hok hsm;have hul:=kPw (I,B,E) (D.map (·.rules)) ⟨pc,sp,fp,w⟩
 have hun:=@kV1 (I,B,E) (D.map (·.rules)) ⟨pc,sp,fp,w⟩ hnum
 generalize hU:unwind (I,B,E) (D.map (·.rules)) ⟨pc,sp,fp,w⟩=U at *
 obtain⟨L,ok0⟩:=U;simp only at s1 s2 hul hun;have hkn:=k2m ((I,B,E),D) st L 0;have hkl:=kXy ((I,B,E),D) st L 0;have hkm:=k41 hA st L 0;generalize hK:knGo ((I,B,E),D) st 0 L=K at *
 cases ok0 with
 |false =>
  have e:=s1 rfl;rw[kKw e,e]
  (repeat' (first|apply zS|apply zB|((first|apply zW| refine zd 11 (h:=?_));simp only[go_sem,hok,hsm,hU,hK])|apply And.intro|intro _))
  all_goals first|omega|exact hpa|exact hpu|exact hA|exact hun _ ‹_›|exact(hun _ ‹_›).1|exact(hun _ ‹_›).2|rfl|exact⟨_,_,rfl⟩|skip
 |true =>
 have s3:=s2 rfl;by_cases hlt:K.length<L.length
 ·rw[if_pos hlt]at hkn;have e:=s3.trans hkn;have hli:(K.length:Int)<L.length:=by omega
  rw[kKw e,e]
  (repeat' (first|apply zS|apply zB|((first|apply zW| refine zd 11 (h:=?_));simp only[go_sem,hok,hsm,hU,hK,hli])|apply And.intro|intro _))
  all_goals first|omega|exact hpa|exact hpu|exact hA|exact hun _ ‹_›|exact(hun _ ‹_›).1|exact(hun _ ‹_›).2|rfl|exact⟨_,_,rfl⟩|skip
 ·rw[if_neg hlt]at hkn;have e:=s3.trans hkn;have hli:¬(K.length:Int)<L.length:=by omega
  rw[kUk e,e]
  (repeat' (first|apply zS|apply zB|((first|apply zW| refine zd 11 (h:=?_));simp only[go_sem,hok,hsm,hU,hK,hli])|apply And.intro|intro _))
  all_goals first|omega|exact hpa|exact hpu|exact hA|exact hun _ ‹_›|exact(hun _ ‹_›).1|exact(hun _ ‹_›).2|exact hkm _ ‹_›|rfl|exact⟨_,_,rfl⟩|skip
end
theorem cStkIz:Cn Tryz.prog 50 kSw:=Cn.kI0 (fun x=>kTd _) cStkI
end Go.Proofs.YtjdklcjoeanimaaGreat

