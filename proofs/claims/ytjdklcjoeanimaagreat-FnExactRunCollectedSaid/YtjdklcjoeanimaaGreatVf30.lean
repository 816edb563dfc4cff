/- DERIVED. Steps of the proof. -/
import Derived.Test.YtjdklcjoeanimaaGreatVf25
import Derived.Test.YtjdklcjoeanimaaGreatVf26
set_option linter.all false
set_option maxHeartbeats 1000000
set_option maxRecDepth 10000
namespace Go.Proofs.YtjdklcjoeanimaaGreat
attribute [local irreducible] Go.Vc.WP
section
open Go.Vc
theorem cPerfI:Cy Tryz.prog 266 (kHo fun _=>True):=by
 have h:=(Cy.kP1 (Cy.kP1 (Cy.kP1 (Cy.kP1 (Cy.kP1 (Cy.kP1 (Cy.kP1 (Cy.kP1 cQf1 cQf2) cQf3) cQf4) cQf5) cQf6) cQf7) cQf8) cQf9);refine⟨h.call,fun d args obs ha=>?_⟩
 obtain⟨a1,a2,a3,_⟩:=ha;exact h.holds d args obs ⟨a1,a2,a3,by obtain⟨n,hn⟩:=a3.op;have h0:=hn.code;dsimp only at h0⊢;omega⟩
end
section
open Go.Vc Tryz
attribute [local go_sem] bxI
attribute [local go_sem] kL7 kEz kP8 kpD
def qC9:List (FuncId×Ctx):=[(266,kHo fun _=>True)]
attribute [local go_sem] qC9 kHo kHb kDk
attribute [local irreducible] kGt
@[go_sem] def kStepI:Ctr:=pur (fun args=>(spA args 0,kFu (aC args 1))) (fun x=>[.agg [.sl 2 (x.1.1.map encImage),.sl 1 (x.1.2.1.map encI),.sl 1 (x.1.2.2.map encI)],.agg [vi x.2.pc,vi x.2.sp,vi x.2.fp,.sl 1 (x.2.stack.map encI),.sl 1 (x.2.out.map encI),vi x.2.state,vi x.2.value]]) StpR
 (fun _ x=>.agg [vi ((kIy x.1 x.2).pc),vi ((kIy x.1 x.2).sp),vi ((kIy x.1 x.2).fp),.sl 1 ((kIy x.1 x.2).stack.map encI),.sl 1 ((kIy x.1 x.2).out.map encI),vi ((kIy x.1 x.2).state),vi ((kIy x.1 x.2).value)]) (fun _ _=>[])
theorem qJp (s:CpB) (a:Int):(kKm s a).1.st.length=s.1.st.length:=by
 unfold kKm;split
 ·rfl
 ·rw[kSz]
theorem qGq (s:CpB) (a:Int):(kJ1 s a).1.st.length=s.1.st.length:=by
 unfold kJ1;split
 ·rw[kHf]
 ·rw[jP9,kHf]
theorem stPc (s:CpB) (v:Int):(kBe s v).1.st=s.1.st:=rfl
theorem stSp (s:CpB) (v:Int):(kGk s v).1.st=s.1.st:=rfl
theorem stFp (s:CpB) (v:Int):(kEx s v).1.st=s.1.st:=rfl
theorem stOut (s:CpB) (v:Int):(kF8 s v).1.st=s.1.st:=rfl
def k0r (r:CpB):Prop:=r.1.st.length=1200
theorem k0r.ite {p:Prop}[Decidable p] {a b:CpB}(h1:k0r a) (h2:k0r b):k0r (if p then a else b):=by split<;>assumption
theorem k95 {E:List Int}{x:Op}{c:Cpu}(h:c.st.length=1200):(kBm E x c).1.st.length=1200:=by
 show k0r (kBm E x c)
 unfold kBm
 repeat' with_reducible refine k0r.ite ?_ ?_
 all_goals
  unfold k0r
  first|exact h|(simp only[kSz,kHf,kPb,kVm,qJp,qGq,stPc,stSp,stFp,stOut,h];done)
section
def cxStI:=kc k96 (kc qGo (kc qCy (kc cAtI kn)))
theorem kMx {p:Prop}(h:p:=by first|omega|rfl|exact hloc|exact hpf|exact⟨h6,by omega⟩|exact⟨_,_,_,_,_,_,_,rfl⟩|exact⟨_,_,rfl,_,_,rfl,rfl⟩):p:=h
set_option maxHeartbeats 4000000 in
theorem cStepI:Cq 251 kStepI:=by
 refine zp fun d x hx=>?_
 obtain⟨⟨I,B,E⟩,⟨pc,sp,fp,S,O,sta,val⟩⟩:=x;have hloc:=hx.loc pc;have hC2:POk Tryz.prog qC9:=POk.cons cPerfI (POk.nil _);obtain⟨h1,h2,h3,h4,h5,h6,h7,h8,h9,h10⟩:=hx;simp only at h1 h2 h3 h4 h5 h6 h7 h8 h9 h10 hloc⊢;subst h10;have hlt:=k4v I B pc;refine zg cxStI func251 rfl rfl ntmps251 ?_;intros;by_cases h:kAm I B pc<0
 ·have e:kIy (I,B,E) ⟨pc,sp,fp,S,O,0,val⟩=⟨pc,sp,fp,S,O,2,val⟩:=by
   have hf:kHy (I,B,E) pc=none:=if_pos h;unfold kIy;simp only[hf]
  rw[e]
  (repeat' (first|apply zS|apply zB|(apply zW;simp only[go_sem,h,Int.reduceBEq,Int.reduceEq])|apply jAi|exact kMx|intro _))
 obtain⟨k,hk⟩:=zN (kAm I B pc);have hki:k<I.length:=zo;have hr:=kAa encImage I k hki;have hcs:=h4 k;rw[kCd hki]at hcs;have hcs':I[k].code.size≤4398046511104:=zo
 have hd:kHy (I,B,E) pc=kDw I[k].code (pc-B.getD k 0):=by
  unfold kHy;rw[if_neg h,hk,jB2,kCd hki]
 have hz:¬(k:Int)<0:=zo
 cases hf:kDw I[k].code (pc-B.getD k 0)with
 |none =>
  have e:kIy (I,B,E) ⟨pc,sp,fp,S,O,0,val⟩=⟨pc,sp,fp,S,O,2,val⟩:=by unfold kIy;simp only[hd,hf]
  rw[e]
  (repeat' (first|apply zS|apply zB|(apply zW;simp only[go_sem,h,hk,hz,hr,encImage,jB2,hf,Int.reduceBEq,Int.reduceEq])|apply jAi|exact kMx|intro _))
 |some q =>
  obtain⟨⟨code,arg⟩,n⟩:=q;obtain⟨hop,hp0,hi,hp1⟩:=k2m (S:=(I,B,E)) h3 (hd.trans hf);have h4i:=h4 hi;simp only at hp1;have hsz:=hop.size;have e:kIy (I,B,E) ⟨pc,sp,fp,S,O,0,val⟩=kNf ⟨pc,sp,fp,S,O,0,val⟩ (kBm E ⟨code,arg⟩ ⟨pc+n,sp,fp,S,O⟩):=by unfold kIy;simp only[hd,hf,kWy]
  rw[e];have hpf:PiOk ((I,B,E),(((⟨pc+n,sp,fp,S,O⟩:Cpu),false),0,val),(⟨code,arg⟩:Op)):=⟨h6,by show O.length≤8388608;omega,h7,by show 0≤pc+n∧pc+n≤16777300;omega,rfl,⟨n,hop⟩,h5,h9⟩
  generalize hrr:kBm E ⟨code,arg⟩ ⟨pc+n,sp,fp,S,O⟩=r;have hlen:r.2=false→r.1.st.length=1200:=fun q=>by rw[←hrr];exact k95 h6
  obtain⟨⟨rp,rs,rf,rS,rO⟩,rb⟩:=r;unfold kNf;simp only at hlen⊢
  cases rb with
  |true =>
   simp only[if_true]
   (repeat' (first|apply zS|apply zB|((first|refine WP.kMn (id:=14) hC2 ?_);simp only[go_sem,h,hk,hz,hr,encImage,jB2,hf,hrr,Int.reduceBEq,Int.reduceEq])|(apply zW;simp only[go_sem,h,hk,hz,hr,encImage,jB2,hf,hrr,Int.reduceBEq,Int.reduceEq])|apply jAi|exact kMx|intro _))
  |false =>
   simp only[jIv,if_false];have hl:=hlen rfl;by_cases hz0:rp=0
   ·rw[if_pos hz0];subst hz0;by_cases hw:0≤rs∧rs≤1199
    ·rw[if_pos hw];have e2:atI (⟨0,rs,rf,rS,rO⟩,false) rs=(⟨0,rs,rf,rS,rO⟩,false):=if_pos hw;obtain⟨j,rfl⟩:=zN rs;have hj:j<rS.length:=zo;have hrj:=kAa encI rS j hj;rw[jB2,getD_at hj]
     (repeat' (first|apply zS|apply zB|((first|refine WP.kMn (id:=14) hC2 ?_|refine WP.regionF (id:=21) [(0,[800001,800002])] ?_);simp only[go_sem,h,hk,hz,hr,encImage,jB2,hf,hrr,e2,hrj,encI,Int.reduceBEq,Int.reduceEq])|(apply zW;simp only[go_sem,h,hk,hz,hr,encImage,jB2,hf,hrr,e2,hrj,encI,Int.reduceBEq,Int.reduceEq])|apply jAi|exact kMx|intro _))
    ·rw[if_neg hw];have e2:atI (⟨0,rs,rf,rS,rO⟩,false) rs=(⟨0,rs,rf,rS,rO⟩,true):=if_neg hw
     (repeat' (first|apply zS|apply zB|((first|refine WP.kMn (id:=14) hC2 ?_);simp only[go_sem,h,hk,hz,hr,encImage,jB2,hf,hrr,e2,Int.reduceBEq,Int.reduceEq])|(apply zW;simp only[go_sem,h,hk,hz,hr,encImage,jB2,hf,hrr,e2,Int.reduceBEq,Int.reduceEq])|apply jAi|exact kMx|intro _))
   ·rw[if_neg hz0]
    (repeat' (first|apply zS|apply zB|((first|refine WP.kMn (id:=14) hC2 ?_|refine WP.regionF (id:=21) [(0,[800001,800002])] ?_);simp only[go_sem,h,hk,hz,hr,encImage,jB2,hf,hrr,hz0,Int.reduceBEq,Int.reduceEq])|(apply zW;simp only[go_sem,h,hk,hz,hr,encImage,jB2,hf,hrr,hz0,Int.reduceBEq,Int.reduceEq])|apply jAi|exact kMx|intro _))
end
end
end Go.Proofs.YtjdklcjoeanimaaGreat
