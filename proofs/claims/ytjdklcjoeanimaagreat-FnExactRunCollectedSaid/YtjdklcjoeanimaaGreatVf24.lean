/- DERIVED. Steps of the proof. -/
import Derived.Test.YtjdklcjoeanimaaGreatVf20
import Derived.Test.YtjdklcjoeanimaaGreatVf21
set_option linter.all false
set_option maxHeartbeats 1000000
set_option maxRecDepth 10000
namespace Go.Proofs.YtjdklcjoeanimaaGreat
attribute [local irreducible] Go.Vc.WP
section
open Go.Vc
attribute [local go_sem] bxI
def kL7 (obs:List (Nat×Ob)):CuX:=match oC obs 1000001,oC obs 1000000 with
 | [.v (.int _ a),.v (.int _ b),.v (.int _ c),_,_,.v (.int _ s),.v (.int _ v)],[_,.v (.bool g)]=>((⟨a,b,c,kBs (oR obs 900000),kBs (oR obs 900001)⟩,g),s,v)
 | _,_=>((⟨0,0,0,[],[]⟩,false),0,0)
def kP8 (x:CuX):List (Nat×Ob):=[(1000000,.box 317 [.ptr 1000001 0 0 0,.v (.bool x.1.2)]),(1000001,.box 206 (bxI x 900000 900001)),(900000,.sl 3 1 (x.1.1.st.map encI)),(900001,.sl 3 1 (x.1.1.out.map encI))]
def kpD (x:CuX):List (Nat×Ob):=[(1000000,.box 317 [.ptr 1000001 0 0 0,.v (.bool x.1.2)]),(1000001,.box 206 (bxI x 800001 800002))]
attribute [local go_sem] kL7 kP8 kpD kEz
abbrev PiX:=kO7×CuX×Op
structure PiOk (x:PiX):Prop where
 st:x.2.1.1.1.st.length=1200
 out:x.2.1.1.1.out.length≤8388608
 sp:0≤x.2.1.1.1.sp∧x.2.1.1.1.sp≤1200
 pc:0≤x.2.1.1.1.pc∧x.2.1.1.1.pc≤16777300
 good:x.2.1.1.2=false
 op:∃n,OpB x.2.2 n
 en:x.1.2.2.length≤4194304
 fp:In64 x.2.1.1.1.fp
def kHo (p:Int→Prop):Ctx:=yen [0] (fun args obs=>(spA args 1,kL7 obs,opA args 2))
 (fun x=>[.ptr 1000000 0 0 0,kEz x.1,.agg [vi x.2.2.code,vi x.2.2.arg]]) (fun x=>kP8 x.2.1) (fun x=>PiOk x∧p x.2.2.code) (fun _=>none)
 (fun _=>.tup []) (fun x=>rbC (kBm x.1.2.2 x.2.2 x.2.1.1.1,x.2.1.2)) (fun x=>kpD (kBm x.1.2.2 x.2.2 x.2.1.1.1,x.2.1.2))
theorem Cy.kP1 {f:FuncId}{p q:Int→Prop}(h1:Cy Tryz.prog f (kHo p)) (h2:Cy Tryz.prog f (kHo q)):Cy Tryz.prog f (kHo fun c=>p c∨q c):=⟨h1.call,fun d args obs ha=>by
 obtain⟨a1,a2,a3,a4⟩:=ha;rcases a4 with a4|a4
 ·exact h1.holds d args obs ⟨a1,a2,a3,a4⟩
 ·exact h2.holds d args obs ⟨a1,a2,a3,a4⟩⟩
theorem kPc {s:CpB}(h:In64 s.1.sp):In64 (kAf s).2.1.sp:=by
 unfold kAf;split
 ·exact h
 ·rename_i hb
  have hc:0≤s.1.sp∧s.1.sp≤1199:=by
   by_cases hc:0≤s.1.sp∧s.1.sp≤1199
   ·exact hc
   ·exact absurd (kDu.2 (.inr hc)) hb
  show In64 (s.1.sp+1)
  unfold In64;omega
theorem kVn {s:CpB}(h:In64 s.1.sp):∀n,In64 (kD6 s n).1.sp
 | 0=>h
 |n+1=>kPc (kVn h n)
section
noncomputable def kJ7:CL:=[(277,qJl),(278,kJ2),(279,kH9),(280,kPopI),(282,kJ4),(283,kJ3),(281,kEy)]
noncomputable def kNy:=mkX kJ7 (kc k91 (kc cLoadI (kc qO7 (kc cPopI (kc cZeroI (kc cDropI (kc cApplI kn)))))))
theorem kKf:kNy.tys=tys:=rfl
theorem kKg:kNy.C=kJ7:=rfl
attribute [local go_sem] kKf kKg kJ7 kJ2 kH9 kJ4 kJ3 kEy
end
end
section
open Go.Vc Tryz
attribute [local go_sem] aggSe aggPc aggTm aggRg kHa kJk
@[go_sem] def ktoRgD:Ctr:=pur (fun args=>rgA args 0) (fun x=>[.agg (aggRg x)]) (fun x=>x.2.1.length≤2097152) (fun d x=>.agg [vi x.1,.own d,vi x.2.2.1,vi x.2.2.2]) (fun d x=>[(d,.sl 9 1 (x.2.1.map encS))])
section
def cxTrgD:=kc ctoSo kn
theorem ctoRgD:Cq 41 ktoRgD:=by
 refine zp fun d x hx=>?_
 obtain⟨cp,R,wr,lo⟩:=x;simp only at hx⊢;refine zg cxTrgD func41 rfl rfl ntmps41 ?_;intros
 (repeat' (first|apply zS|apply zB|(apply zW;simp only[go_sem])|apply jAi|omega|exact⟨_,_,_,_,rfl⟩|exact⟨_,_,rfl,_,_,rfl,rfl⟩|intro _))
end
@[go_sem] def ktoSeD:Ctr:=pur (fun args=>seA args 0) (fun x=>[.agg (aggSe x)]) kEc (fun d x=>.agg (kHa d x)) (fun d x=>kJk d x)
section
attribute [local irreducible] kCr kFr
def cxTseD:=kc ctoPcD (kc ctoTm (kc ctoRgD kn))
set_option maxHeartbeats 3000000 in
theorem ctoSeD:Cq 10 ktoSeD:=by
 refine zp fun d x hx=>?_
 obtain⟨⟨⟨I,B,E⟩,T,tu,le,sl⟩,⟨p,q,l,st⟩,⟨cp,R,wr,lo⟩,mo,sp,fi⟩:=x;obtain⟨hP,hR⟩:=hx;simp only at hP hR⊢;refine zg cxTseD func10 rfl rfl ntmps10 ?_;intros
 (repeat' (first|apply zS|apply zB|(apply zW;simp only[go_sem])|apply jAi|omega|exact hP|exact⟨_,_,rfl,_,_,rfl,rfl⟩|exact if_neg zo|(rw[if_neg zo,if_neg zo];done)|(rw[if_neg zo,if_neg zo,if_neg zo];done)|(rw[if_neg zo,if_neg zo,if_neg zo,if_neg zo];done)|intro _))
end
end
end Go.Proofs.YtjdklcjoeanimaaGreat
