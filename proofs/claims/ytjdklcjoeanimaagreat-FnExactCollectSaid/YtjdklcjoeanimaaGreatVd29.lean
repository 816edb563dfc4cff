/-
  DERIVED. Several texts of ours in one: VtSeQ, VgTok, VcNs, VtLine, VpNest, VtLine2, VtSeD, VcW.
-/
import Derived.Test.YtjdklcjoeanimaaGreatVd2
import Derived.Test.YtjdklcjoeanimaaGreatVd4
import Derived.Test.YtjdklcjoeanimaaGreatVd14
import Derived.Test.YtjdklcjoeanimaaGreatVd27
import Derived.Test.YtjdklcjoeanimaaGreatVd28
set_option linter.unusedSimpArgs false
set_option linter.unusedVariables false
set_option maxHeartbeats 1000000
set_option maxRecDepth 10000
namespace Go.Proofs.YtjdklcjoeanimaaGreat
open Go.Vc
attribute [local irreducible] Go.Vc.WP
attribute [local go_sem] kAd kAe
open Go.Pl
attribute [local go_sem] kAf kAg spA kBe kBc kBq kCn pcA rgA seA kAj tmA kFa
def kQj (x:Image):Prop:=x.symbols.length≤2097152
def k0m:Ctr:=pur (fun args=>kBl (aC args 0)) (fun x=>[.agg [.v (.string x.code),.sl 3 (x.symbols.map encSymbol)],.agg [.v (.string x.code),.sl 3 (x.symbols.map encSymbol)]]) kQj (fun _ _=>.v (.bool true)) (fun _ _=>[])
section
attribute [local go_sem] kBl
noncomputable def qBl:=mkX [(198,kH7)] (COk.cons kVq (COk.nil _))
theorem qQp:qBl.tys=tys:=rfl
theorem qQq:qBl.C=[(198,kH7)]:=rfl
attribute [local go_sem] qQp qQq kH7
theorem cqImg:Cn Tryz.prog 197 k0m:=by
 refine Cn.pur Tryz.func197 (by kernel_rfl) rfl fun d x hx=>?_
 obtain⟨c,Y⟩:=x;unfold kQj at hx;simp only at hx⊢;refine Holds.go (c:=qBl) Tryz.func197 rfl Tryz.results197 Tryz.ntmps197 (by omega) (by simp) rfl ?_
 intro X0 w0
 (repeat' (first|apply zS|apply zB|(apply zW;simp only[go_sem])|apply And.intro|intro _))
 all_goals first|omega|skip
end
def kWw:Ctr:=pur (fun args=>kF3 (aC args 0)) (fun x=>[.agg [.v (.int .i64 x.pc),.v (.int .i64 x.sp),.v (.int .i64 x.fp),.sl 1 (x.stack.map encI),.sl 1 (x.out.map encI),.v (.int .i64 x.state),.v (.int .i64 x.value)],.agg [.v (.int .i64 x.pc),.v (.int .i64 x.sp),.v (.int .i64 x.fp),.sl 1 (x.stack.map encI),.sl 1 (x.out.map encI),.v (.int .i64 x.state),.v (.int .i64 x.value)]]) kB5 (fun _ _=>.v (.bool true)) (fun _ _=>[])
section
noncomputable def qBm:=mkX [(123,k17)] (COk.cons c17 (COk.nil _))
theorem qQr:qBm.tys=tys:=rfl
theorem qQs:qBm.C=[(123,k17)]:=rfl
attribute [local go_sem] qQr qQs k17
theorem cqMach:Cn Tryz.prog 195 kWw:=by
 refine Cn.pur Tryz.func195 (by kernel_rfl) rfl fun d x hx=>?_
 obtain⟨a,b,c,s,o,d2,e2⟩:=x;unfold kB5 at hx;obtain⟨hs,ho⟩:=hx;simp only at hs ho⊢;refine Holds.go (c:=qBm) Tryz.func195 rfl Tryz.results195 Tryz.ntmps195 (by omega) (by simp) rfl ?_
 intro X0 w0
 (repeat' (first|apply zS|apply zB|(apply zW;simp only[go_sem])|apply And.intro|intro _))
 all_goals first|omega|skip
end
def kWx:Ctr:=pur (fun args=>kDl (aR args 0)) (fun L=>[.sl 2 (L.map encImage),.sl 2 (L.map encImage)]) (fun L=>L.length≤2097152∧∀x∈L,kQj x) (fun _ _=>.v (.bool true)) (fun _ _=>[])
section
attribute [local go_sem] kBl
attribute [local irreducible] kQj
noncomputable def qBn:=mkX [(197,k0m)] (COk.cons cqImg (COk.nil _))
theorem qQt:qBn.tys=tys:=rfl
theorem qQu:qBn.C=[(197,k0m)]:=rfl
attribute [local go_sem] qQt qQu k0m
theorem cqImgS:Cn Tryz.prog 124 kWx:=by
 refine Cn.pur Tryz.func124 (by kernel_rfl) rfl fun d x hx=>?_
 rename List Image=>L
 obtain⟨hL,hY⟩:=hx;refine Holds.go (c:=qBn) Tryz.func124 rfl Tryz.results124 Tryz.ntmps124 (by omega) (by simp) rfl ?_
 intro X0 w0
 (repeat' (first|apply zS|apply zB|((first|apply zW| refine zd 10 (h:=?_));simp only[go_sem])|apply And.intro|intro _))
 all_goals first|omega|skip
 refine zL (fun k:Nat=>⟨[(0,.sl 2 (L.map encImage)),(1,.sl 2 (L.map encImage)),(5,.v (.int .i64 k))],[]⟩) (fun k=>k≤L.length) (fun k=>L.length-k) 0 (by simp) ?_ ?_
 ·simp only[go_sem];first|exact⟨rfl,rfl⟩|rfl
 intro k hk;by_cases hlt:k<L.length
 ·have h1:=kAa encImage L k hlt;have h0:=hY _ (List.getElem_mem hlt)
  (repeat' (first|apply zS|apply zB|((first|apply zW| refine zd 10 (h:=?_));simp only[go_sem,h1,encImage])|apply And.intro|intro _))
  all_goals first|omega|exact h0|exact⟨k+1,by omega,by omega,rfl⟩|exact⟨k+1,by omega,by omega,rfl,rfl⟩|skip
 ·(repeat' (first|apply zS|apply zB|((first|apply zW| refine zd 10 (h:=?_));simp only[go_sem])|apply And.intro|intro _))
  all_goals first|omega|skip
end
def kS6:Ctr:=pur (fun args=>kGq (aR args 0)) (fun L=>[.sl 7 (L.map encMach),.sl 7 (L.map encMach)]) (fun L=>L.length≤1048576∧∀x∈L,kB5 x) (fun _ _=>.v (.bool true)) (fun _ _=>[])
section
attribute [local go_sem] kF3
attribute [local irreducible] kB5
noncomputable def qBo:=mkX [(195,kWw)] (COk.cons cqMach (COk.nil _))
theorem qQv:qBo.tys=tys:=rfl
theorem qQw:qBo.C=[(195,kWw)]:=rfl
attribute [local go_sem] qQv qQw kWw
theorem qQx:Cn Tryz.prog 120 kS6:=by
 refine Cn.pur Tryz.func120 (by kernel_rfl) rfl fun d x hx=>?_
 rename List Mach=>L
 obtain⟨hL,hY⟩:=hx;refine Holds.go (c:=qBo) Tryz.func120 rfl Tryz.results120 Tryz.ntmps120 (by omega) (by simp) rfl ?_
 intro X0 w0
 (repeat' (first|apply zS|apply zB|((first|apply zW| refine zd 10 (h:=?_));simp only[go_sem])|apply And.intro|intro _))
 all_goals first|omega|skip
 refine zL (fun k:Nat=>⟨[(0,.sl 7 (L.map encMach)),(1,.sl 7 (L.map encMach)),(5,.v (.int .i64 k))],[]⟩) (fun k=>k≤L.length) (fun k=>L.length-k) 0 (by simp) ?_ ?_
 ·simp only[go_sem];first|exact⟨rfl,rfl⟩|rfl
 intro k hk;by_cases hlt:k<L.length
 ·have h1:=kAa encMach L k hlt;have h0:=hY _ (List.getElem_mem hlt)
  (repeat' (first|apply zS|apply zB|((first|apply zW| refine zd 10 (h:=?_));simp only[go_sem,h1,encMach])|apply And.intro|intro _))
  all_goals first|omega|exact h0|exact⟨k+1,by omega,by omega,rfl⟩|exact⟨k+1,by omega,by omega,rfl,rfl⟩|skip
 ·(repeat' (first|apply zS|apply zB|((first|apply zW| refine zd 10 (h:=?_));simp only[go_sem])|apply And.intro|intro _))
  all_goals first|omega|skip
end
def kqSp:Ctr:=pur (fun args=>spA args 0) (fun x=>[.agg [.sl 2 (x.1.map encImage),.sl 1 (x.2.1.map encI),.sl 1 (x.2.2.map encI)],.agg [.sl 2 (x.1.map encImage),.sl 1 (x.2.1.map encI),.sl 1 (x.2.2.map encI)]]) shSp (fun _ _=>.v (.bool true)) (fun _ _=>[])
section
attribute [local irreducible] kQj
noncomputable def qBp:=mkX [(123,k17),(124,kWx)] (COk.cons c17 (COk.cons cqImgS (COk.nil _)))
theorem qQy:qBp.tys=tys:=rfl
theorem qQz:qBp.C=[(123,k17),(124,kWx)]:=rfl
attribute [local go_sem] qQy qQz k17 kWx
theorem cqSp:Cn Tryz.prog 56 kqSp:=by
 refine Cn.pur Tryz.func56 (by kernel_rfl) rfl fun d x hx=>?_
 obtain⟨I,B,E⟩:=x;obtain⟨⟨hI,hIm⟩,hB,hE⟩:=hx;have hIm2:∀i∈I,kQj i:=fun i hi=>by unfold kQj;exact hIm i hi
 simp only at hI hIm hB hE⊢;refine Holds.go (c:=qBp) Tryz.func56 rfl Tryz.results56 Tryz.ntmps56 (by omega) (by simp) rfl ?_
 intro X0 w0
 (repeat' (first|apply zS|apply zB|(apply zW;simp only[go_sem])|apply And.intro|intro _))
 all_goals first|omega|exact hIm2 _ ‹_›|skip
end
def kqPc:Ctr:=pur (fun args=>pcA args 0) (fun x=>[.agg (aggPc x),.agg (aggPc x)]) shPc (fun _ _=>.v (.bool true)) (fun _ _=>[])
section
attribute [local go_sem] aggPc
attribute [local irreducible] kB5
noncomputable def qBq:=mkX [(56,kqSp),(120,kS6)] (COk.cons cqSp (COk.cons qQx (COk.nil _)))
theorem qQ0:qBq.tys=tys:=rfl
theorem qQ1:qBq.C=[(56,kqSp),(120,kS6)]:=rfl
attribute [local go_sem] qQ0 qQ1 kqSp kS6
set_option maxHeartbeats 3000000 in
theorem cqPc:Cn Tryz.prog 52 kqPc:=by
 refine Cn.pur Tryz.func52 (by kernel_rfl) rfl fun d x hx=>?_
 obtain⟨⟨I,B,E⟩,T,tu,le,sl⟩:=x;obtain⟨hsp,hT,hTs⟩:=hx;have hsp2:=hsp;obtain⟨⟨hI,hIm⟩,hB,hE⟩:=hsp2;simp only[aggPc]at hT hTs hI hIm hB hE⊢;refine Holds.go (c:=qBq) Tryz.func52 rfl Tryz.results52 Tryz.ntmps52 (by omega) (by simp) rfl ?_
 intro X0 w0
 (repeat' (first|apply zS|apply zB|(apply zW;simp only[go_sem])|apply And.intro|intro _))
 all_goals first|omega|exact hIm _ ‹_›|exact hTs _ ‹_›|exact hsp|skip
end
def kqTm:Ctr:=pur (fun args=>tmA args 0) (fun x=>[.agg (aggTm x),.agg (aggTm x)]) (fun _=>True) (fun _ _=>.v (.bool true)) (fun _ _=>[])
section
attribute [local go_sem] aggTm
noncomputable def qBr:=mkX [] (COk.nil _)
theorem qQ2:qBr.tys=tys:=rfl
theorem qQ3:qBr.C=[]:=rfl
attribute [local go_sem] qQ2 qQ3
theorem cqTm:Cn Tryz.prog 53 kqTm:=by
 refine Cn.pur Tryz.func53 (by kernel_rfl) rfl fun d x hx=>?_
 obtain⟨p,q,l,st⟩:=x;simp only[aggTm];refine Holds.go (c:=qBr) Tryz.func53 rfl Tryz.results53 Tryz.ntmps53 (by omega) (by simp) rfl ?_
 intro X0 w0
 (repeat' (first|apply zS|apply zB|(apply zW;simp only[go_sem])|apply And.intro|intro _))
 all_goals first|omega|skip
end
def k0n:Ctr:=pur (fun args=>(decS (aR args 0),decS (aR args 1))) (fun x=>[.sl 1 (x.1.map encS),.sl 1 (x.2.map encS)]) (fun x=>x.1.length≤4398046511104) (fun _ x=>.v (.bool (decide (x.1=x.2)))) (fun _ _=>[])
theorem cqStr:Cn Tryz.prog 121 k0n:=by
 refine Cn.pur Tryz.func121 (by kernel_rfl) rfl fun d x hx=>?_
 obtain⟨L,M⟩:=x;simp only at hx⊢;refine Holds.go (c:=cx0) Tryz.func121 rfl Tryz.results121 Tryz.ntmps121 (by omega) (by simp) rfl ?_
 intro X0 w0
 (repeat' (first|apply zS|apply zB|((first|apply zW| refine zd 9 (h:=?_));simp only[go_sem])|apply And.intro|intro _))
 ·simp;intro h;subst h;simp_all
 have hlen:L.length=M.length:=by omega
 refine zL (fun k:Nat=>⟨[(0,.sl 1 (L.map encS)),(1,.sl 1 (M.map encS)),(5,.v (.int .i64 k))],[]⟩) (fun k=>k≤L.length∧L.take k=M.take k) (fun k=>L.length-k) 0 (by simp) ?_ ?_
 ·(simp only[go_sem]<;>(first|(and_intros<;>rfl)|simp))
 intro k ⟨hk,ht⟩;by_cases hlt:k<L.length
 ·have h1:=kAa encS L k hlt;have h2:=kAa encS M k (by omega)
  (repeat' (first|apply zS|apply zB|((first|apply zW| refine zd 9 (h:=?_));simp only[go_sem,h1,h2,encS])|apply And.intro|intro _))
  all_goals first|omega|skip
  ·rename_i hne;rw[show decide (L=M)=false from decide_eq_false fun e=>by subst e;exact hne rfl]
  ·rename_i he;refine⟨k+1,⟨by omega,?_⟩,by omega,rfl⟩
   rw[List.take_succ_eq_append_getElem hlt,List.take_succ_eq_append_getElem (by omega:k<M.length),ht,he]
 ·(repeat' (first|apply zS|apply zB|((first|apply zW| refine zd 9 (h:=?_));simp only[go_sem])|apply And.intro|intro _))
  all_goals first|omega|skip
  rw[show decide (L=M)=true from decide_eq_true ?_]
  rw[show k=L.length by omega,List.take_length,hlen,List.take_length]at ht
  exact ht
def kqRg:Ctr:=pur (fun args=>rgA args 0) (fun x=>[.agg (aggRg x),.agg (aggRg x)]) (fun x=>x.2.1.length≤2097152) (fun _ _=>.v (.bool true)) (fun _ _=>[])
section
attribute [local go_sem] aggRg
noncomputable def qBs:=mkX [(121,k0n)] (COk.cons cqStr (COk.nil _))
theorem qQ4:qBs.tys=tys:=rfl
theorem qQ5:qBs.C=[(121,k0n)]:=rfl
attribute [local go_sem] qQ4 qQ5 k0n
theorem cqRg:Cn Tryz.prog 54 kqRg:=by
 refine Cn.pur Tryz.func54 (by kernel_rfl) rfl fun d x hx=>?_
 obtain⟨cp,R,wr,lo⟩:=x;simp only[aggRg]at hx⊢;refine Holds.go (c:=qBs) Tryz.func54 rfl Tryz.results54 Tryz.ntmps54 (by omega) (by simp) rfl ?_
 intro X0 w0
 (repeat' (first|apply zS|apply zB|(apply zW;simp only[go_sem])|apply And.intro|intro _))
 all_goals first|omega|skip
end
def kqSe:Ctr:=pur (fun args=>seA args 0) (fun x=>[.agg (aggSe x),.agg (aggSe x)]) shSe (fun _ _=>.v (.bool true)) (fun _ _=>[])
section
attribute [local go_sem] aggSe aggPc aggTm aggRg
attribute [local irreducible] kB5
noncomputable def qBt:=mkX [(52,kqPc),(53,kqTm),(54,kqRg)] (COk.cons cqPc (COk.cons cqTm (COk.cons cqRg (COk.nil _))))
theorem qQ6:qBt.tys=tys:=rfl
theorem qQ7:qBt.C=[(52,kqPc),(53,kqTm),(54,kqRg)]:=rfl
attribute [local go_sem] qQ6 qQ7 kqPc kqTm kqRg
set_option maxHeartbeats 3000000 in
theorem cqSe:Cn Tryz.prog 13 kqSe:=by
 refine Cn.pur Tryz.func13 (by kernel_rfl) rfl fun d x hx=>?_
 obtain⟨⟨⟨I,B,E⟩,T,tu,le,sl⟩,⟨p,q,l,st⟩,⟨cp,R,wr,lo⟩,mo,sp,fi⟩:=x;obtain⟨hP,hR⟩:=hx;have hP2:=hP;obtain⟨⟨⟨hI,hIm⟩,hB,hE⟩,hT,hTs⟩:=hP2;simp only[aggSe]at hI hIm hB hE hT hTs hR⊢;refine Holds.go (c:=qBt) Tryz.func13 rfl Tryz.results13 Tryz.ntmps13 (by omega) (by simp) rfl ?_
 intro X0 w0
 (repeat' (first|apply zS|apply zB|(apply zW;simp only[go_sem])|apply And.intro|intro _))
 all_goals first|omega|exact hIm _ ‹_›|exact hTs _ ‹_›|exact hP|skip
end
end Go.Proofs.YtjdklcjoeanimaaGreat

namespace Go.Proofs.YtjdklcjoeanimaaGreat
open Go.Vc
section
open Go.Vc
attribute [local irreducible] Go.Vc.WP
attribute [local go_sem] kAd kAe
section
end
section
end
section
end
attribute [local go_sem] kBd
section
open Go.RowKit Go.WideShapes Go.ChangeShapes Go.Deep
end
end
end Go.Proofs.YtjdklcjoeanimaaGreat
namespace Go.Vc
inductive Gh where
 |dp (id:Nat)
 |opn (id i:Nat)
 |bor (id k j:Nat)
 |borV (id k j:Nat)
 |abs (id k:Nat)
 |fld (id:Nat)
def SV.flat (c:SV):Bool:=match c with
 | .v _=>true
 | .sl _ _=>true
 | _=>false
def St.gh (st:St) (K:St→Prop):Gh→Prop
 | .dp id=>match lk id st.hp with
  |some (.sl e s rows)=>kGu rows∧K (st.wrt id (.dp e s rows))
  |some (.dp e s rows)=>K st
  | _=>False
 | .opn id i=>match lk id st.hp with
  |some (.dp e s rows)=>i<rows.length∧K (st.wrt id (.dq e s rows i (rowAt rows i)))
  | _=>False
 | .bor id k j=>match lk id st.hp with
  |some (.dq e s rows i row0)=>match row0[k]? with
   |some (.sl s' rows')=>j<1000000∧j≠id∧∀e',K { fr:=(st.kill j).fr,hp:=(j,.dp e' s' rows')::(id,.dq e s rows i ((row0.map (SV.upq (SV.kill j))).set k (.own j)))::er id (st.kill j).hp }
   | _=>False
  | _=>False
 | .borV id k j=>match lk id st.hp with
  |some (.dq e s rows i row0)=>match row0[k]? with
   |some (.sl s' rows')=>j<1000000∧j≠id∧kGu rows'∧∀e',K { fr:=(st.kill j).fr,hp:=(j,.sl e' s' rows')::(id,.dq e s rows i ((row0.map (SV.upq (SV.kill j))).set k (.own j)))::er id (st.kill j).hp }
   | _=>False
  | _=>False
 | .abs id k=>match lk id st.hp with
  |some (.dq e s rows i row0)=>match row0[k]? with
   |some (.own j)=>j≠id∧(match lk j st.hp with
    |some (.sl e' s' rows')=>kGu rows'∧K { fr:=(st.kill j).fr,hp:=(id,.dq e s rows i ((row0.map (SV.upq (SV.kill j))).set k (.sl s' rows')))::er id (st.kill j).hp }
    |some (.dp e' s' rows')=>K { fr:=(st.kill j).fr,hp:=(id,.dq e s rows i ((row0.map (SV.upq (SV.kill j))).set k (.sl s' rows')))::er id (st.kill j).hp }
    | _=>False)
   | _=>False
  | _=>False
 | .fld id=>match lk id st.hp with
  |some (.dq e s rows i row0)=>(row0.all SV.flat)=true∧K (st.wrt id (.dp e s (rows.set i row0)))
  | _=>False
def St.gho (st:St) (K:St→Prop):List Gh→Prop
 | []=>K st
 |g::l=>st.gh (fun st'=>st'.gho K l) g
section
variable {N:Nat}{X0:Nat→Prop}{M:Nat→BV→Prop}{w0:World}{st:St}{β:Nat→BV}{a:Act}{w:World}
theorem Sim.reob (h:Sim N X0 M w0 st β a w) {j:Nat}{ob ob':Ob}(hj:lk j st.hp=some ob) (hob:ObR w (XX X0 β st.hp) β (β j) ob→ObR w (XX X0 β st.hp) β (β j) ob'):Sim N X0 M w0 (st.wrt j ob') β a w :=
 h.write hj rfl rfl rfl (Nat.le_refl _) (fun _ _ _=>rfl) (hob (h.objs j ob hj))
theorem kKb {hp':List (Nat×Ob)}{β':Nat→BV}(hft:∀id ob b,lk id hp'=some ob→(β' id).ft b→∃i o,lk i st.hp=some o∧(β i).ft b) {b:Nat}(hb:XX X0 β' hp' b):XX X0 β st.hp b:=by
 rcases hb with hb|⟨id,ob,hi,hb⟩
 ·exact .inl hb
 ·exact .inr (hft id ob b hi hb)
theorem Sim.ghost (h:Sim N X0 M w0 st β a w) {st':St}{β':Nat→BV}(hone:∀i,(β' i).val.oneCell'=true) (hpin:∀i,1000000≤i→(β' i).val=(β i).val)
  (hft:∀id ob b,lk id st'.hp=some ob→(β' id).ft b→∃i o,lk i st.hp=some o∧(β i).ft b)
  (hslots:∀t x',lk t st'.fr=some x'→∃x,lk t st.fr=some x∧∀v,R w (XX X0 β' st'.hp) β x v→R w (XX X0 β' st'.hp) β' x' v)
  (hobjs:∀id ob,lk id st'.hp=some ob→ObR w (XX X0 β' st'.hp) β' (β' id) ob)
  (hinj:∀i j oi oj b,lk i st'.hp=some oi→lk j st'.hp=some oj→(β' i).ft b→(β' j).ft b→i=j):Sim N X0 M w0 st' β' a w:=by
 have hS:Same (XX X0 β st.hp) w w:=⟨Nat.le_refl _,fun _ _ _=>rfl⟩
 exact{ h with
  beta:=hone
  slots:=fun t x hx=>by
   obtain⟨y,h1,h2⟩:=hslots t x hx;exact h2 _ ((h.slots t y h1).mono hS (fun b _ hb=>kKb hft hb))
  objs:=hobjs
  inj:=hinj
  mine:=fun id ob b hi hb=>by
   obtain⟨i,o,h1,h2⟩:=hft id ob b hi hb;exact h.mine i o b h1 h2
  pin:=fun id u hm h1=>by rw[hpin id h1];exact h.pin id u hm h1 }
theorem Dp.qD4 {x:Value}{v:Value}{F:Nat→Prop}(h:Dp w (.v x) v F):v=x∧∀b,¬F b:=by
 cases h with
 |v _ F hF=>exact⟨rfl,hF⟩
theorem Dp.v_of {c:SV}{v:Value}{F:Nat→Prop}(h:Dp w c v F) (hc:c.isSl=false):c=.v v∧∀b,¬F b:=by
 cases h with
 |v _ F hF=>exact⟨rfl,hF⟩
 |nil=>cases hc
 |sl=>cases hc
theorem ObR.sl_dp {X:Nat→Prop}{v:BV}{e s:Nat}{rows:List (List SV)}(h:ObR w X β v (.sl e s rows)) (hv:kGu rows):ObR w X β v (.dp e s rows):=by
 cases h with
 |nil e s h=>subst h;exact .dp (.nil s _ (fun b hb=>by cases hb)) (fun b hb=>by cases hb)
 |sl b cap cur us hv' hh h1 h2 h3 h4 h5 h6 h7 =>
  subst hv';refine .dp (.sl e b cap cur us (fun _ _ _=>False) _ hh h1 h2 h3 h4 (fun i k q1 q2=>?_) (fun i k q1 q2=>?_) (fun i k row c q1 q2=>?_) (fun _ _ _ hf=>hf.elim) (fun _ _ hf=>hf) (fun _ _ _ _ _ hf=>hf.elim) (fun b'=>?_)) (fun b' hb=>?_)
  ·obtain⟨row,c,r1,r2⟩:=kIw h4 q1 q2;exact h5 i k row c r1 r2
  ·obtain⟨row,c,r1,r2⟩:=kIw h4 q1 q2;exact h6 i k row c r1 r2
  ·obtain⟨x,rfl⟩:=hv row (List.mem_of_getElem? q1) c (List.mem_of_getElem? q2);have:=h7 i k row _ q1 q2;generalize us i k=u at this;cases this;exact .v x _ (fun _ hf=>hf)
  ·show blk (.slice (some ⟨b,0,none⟩) rows.length cap)=some b'↔_
   simp[blk,eq_comm]
  ·have hb':some b=some b':=hb
   injection hb' with hb'
   subst hb';exact⟨cur,hh⟩
theorem Dp.dp_sl {X:Nat→Prop}{s:Nat}{rows:List (List SV)}{v:Value}{F:Nat→Prop}(h:Dp w (.sl s rows) v F) (hv:kGu rows):∃e,ObR w X β ⟨v,F⟩ (.sl e s rows):=by
 cases h with
 |nil s F hF=>exact⟨0,.nil 0 s (by
   unfold nilB plain;congr 1;funext b
   exact propext ⟨fun h=>absurd h (hF b),fun h=>by cases h⟩)⟩
 |sl e b cap cur us fs F hh h1 h2 h3 h4 h5 h6 h7 h8 h9 h10 hF =>
  have hempty:∀i k b',¬fs i k b':=fun i k b' hb=>by
   obtain⟨q1,q2⟩:=h8 i k b' hb;obtain⟨row,c,r1,r2⟩:=kIw h4 q1 q2;obtain⟨x,rfl⟩:=hv row (List.mem_of_getElem? r1) c (List.mem_of_getElem? r2);exact(h7 i k row _ r1 r2).qD4.2 b' hb
  refine⟨e,.sl b cap cur us ?_ hh h1 h2 h3 h4 (fun i k row c r1 r2=>h5 i k (kJi h4 r1 r2).1 (kJi h4 r1 r2).2) (fun i k row c r1 r2=>h6 i k (kJi h4 r1 r2).1 (kJi h4 r1 r2).2) (fun i k row c r1 r2=>?_)⟩
  ·unfold plain;congr 1;funext b';refine propext ((hF b').trans ⟨fun h=>?_,fun h=>.inl ?_⟩)
   ·rcases h with rfl|⟨i,k,h⟩
    ·rfl
    ·exact absurd h (hempty i k b')
   ·have hb':some b=some b':=h
    injection hb' with hb'
    exact hb'.symm
  ·obtain⟨x,rfl⟩:=hv row (List.mem_of_getElem? r1) c (List.mem_of_getElem? r2);have:=(h7 i k row _ r1 r2).qD4.1;rw[this];exact .v x
theorem Dp.dp_ob {X:Nat→Prop}{s:Nat}{rows:List (List SV)}{v:Value}{F:Nat→Prop}(h:Dp w (.sl s rows) v F):∃e,ObR w X β ⟨v,F⟩ (.dp e s rows):=by
 have h0:=h
 cases h with
 |nil s F hF=>exact⟨0,.dp h0 (fun b hb=>by cases hb)⟩
 |sl e b cap cur us fs F hh=>exact⟨e,.dp h0 (fun b' hb=>by
   have hb':some b=some b':=hb
   injection hb' with hb'
   subst hb';exact⟨cur,hh⟩)⟩
theorem ObR.dp_dq {X:Nat→Prop}{v:BV}{e s i:Nat}{rows:List (List SV)}(h:ObR w X β v (.dp e s rows)) (hi:i<rows.length):ObR w X β v (.dq e s rows i (rowAt rows i)):=by
 cases h with
 |dp hd he =>
  obtain⟨vv,F⟩:=v;simp only at hd he;have hrow:rows[i]? = some (rowAt rows i):=by unfold rowAt;rw[List.getElem?_eq_getElem hi];rfl
  cases hd with
  |nil=>simp at hi
  |sl e' b cap cur us fs F hh h1 h2 h3 h4 h5 h6 h7 h8 h9 h10 hF =>
   obtain⟨cur',kNa⟩:=he b rfl;rw[hh]at kNa;cases kNa;refine .dq b cap cur us fs rfl hh h1 h2 h3 hi (h4 i _ hrow) h4 h5 h6 (fun i' k row c _ r1 r2=>h7 i' k row c r1 r2) (fun k c hc=>?_) h8 h9 h10 hF
   have hd:=h7 i k _ c hrow hc
   cases hsl:c.isSl with
   |true=>exact .inl ⟨hsl,hd⟩
   |false =>
    obtain⟨e1,e2⟩:=hd.v_of hsl;refine .inr ⟨hsl,?_,e2⟩;rw[e1];exact .p (.v _)
theorem ObR.dq_dp {X:Nat→Prop}{v:BV}{e s i:Nat}{rows:List (List SV)}{row0:List SV}(h:ObR w X β v (.dq e s rows i row0)) (hall:row0.all SV.flat=true):ObR w X β v (.dp e s (rows.set i row0)):=by
 cases h with
 |dq b cap cur us fs hv hh h1 h2 h3 h4 h5 h6 h7 h8 h9 h10 h11 h12 h13 hF =>
  have hlen:∀(i':Nat) (row:List SV),(rows.set i row0)[i']? = some row→row.length=s:=fun i' row hr=>by
   rw[List.getElem?_set]at hr;split at hr
   ·simp only[h4,if_true,Option.some.injEq]at hr;rw[←hr];exact h5
   ·exact h6 i' row hr
  refine .dp ?_ (fun b' hb=>?_)
  ·rw[hv]
   have:=Dp.sl (w:=w) (s:=s) (rows:=rows.set i row0) e b cap cur us fs v.ft hh (by rw[List.length_set];exact h1) h2 h3 hlen (fun i' k q1 q2=>h7 i' k (by rwa [List.length_set]at q1) q2) (fun i' k q1 q2=>h8 i' k (by rwa [List.length_set]at q1) q2)
    (fun i' k row c r1 r2=>?_) (fun i' k b' hb=>by rw[List.length_set];exact h11 i' k b' hb) h12 h13 hF
   ·rw[List.length_set]at this;exact this
   ·rw[List.getElem?_set]at r1;split at r1
    ·rename_i he;subst he;simp only[h4,if_true,Option.some.injEq]at r1;subst r1;have hfl:=List.all_eq_true.1 hall c (List.mem_of_getElem? r2);rcases h10 k c r2 with⟨_,hd⟩|⟨q1,q2,q3⟩
     ·exact hd
     ·cases c with
      |v x=>have:=q2.kAm;rw[this];exact .v x _ q3
      |sl _ _=>cases q1
      | _=>cases hfl
    ·rename_i hne;exact h9 i' k row c (fun e=>hne e.symm) r1 r2
  ·rw[hv]at hb;have hb':some b=some b':=hb
   injection hb' with hb'
   subst hb';exact⟨cur,hh⟩
theorem Sim.bor (h:Sim N X0 M w0 st β a w) {id k j e s i s':Nat}{rows rows':List (List SV)}{row0:List SV}(hl:lk id st.hp=some (.dq e s rows i row0)) (hk:row0[k]? = some (.sl s' rows')) (hj:j<1000000) (hne:j≠id)
  {ob:Nat→Ob}(hob:∀(X:Nat→Prop) (β:Nat→BV) (v:Value) (F:Nat→Prop),Dp w (.sl s' rows') v F→∃e',ObR w X β ⟨v,F⟩ (ob e')) (hobe:∀e',(∀X β β' v,ObR w X β v (ob e')→ObR w X β' v (ob e'))) :
  ∃e' β',Sim N X0 M w0 { fr:=(st.kill j).fr,hp:=(j,ob e')::(id,.dq e s rows i ((row0.map (SV.upq (SV.kill j))).set k (.own j)))::er id (st.kill j).hp } β' a w:=by
 have hO:=h.objs id _ hl;generalize hbv:β id=bv at hO
 cases hO with
 |dq b cap cur us fs hv hh h1 h2 h3 h4 h5 h6 h7 h8 h9 h10 h11 h12 h13 hF =>
  have hks:k<s:=by rw[←h5];exact(List.getElem?_eq_some_iff.1 hk).1
  have hD:Dp w (.sl s' rows') (us i k) (fs i k):=by
   rcases h10 k _ hk with⟨_,hd⟩|⟨q,_⟩
   ·exact hd
   ·cases q
  obtain⟨e',he'⟩:=hob (XX X0 β st.hp) β _ _ hD
  let fs':Nat→Nat→Nat→Prop:=fun i' k' b'=>fs i' k' b'∧¬(i'=i∧k'=k)
  let vid:BV:=⟨bv.val,fun b'=>b'=b∨∃i' k',fs' i' k' b'⟩
  let β':Nat→BV:=fun q=>if q=j then⟨us i k,fs i k⟩else if q=id then vid else β q
  have hβj:β' j=⟨us i k,fs i k⟩:=if_pos rfl;have hβid:β' id=vid:=by show(if id=j then _ else if id=id then vid else _)=_;rw[if_neg (fun e=>hne e.symm),if_pos rfl]
  have hβo:∀q,q≠j→q≠id→β' q=β q:=fun q h1 h2=>by show(if q=j then _ else if q=id then vid else _)=_;rw[if_neg h1,if_neg h2]
  have hβv:∀q,q≠j→(β' q).val=(β q).val:=fun q hq=>by
   by_cases hid:q=id
   ·rw[hid,hβid,hbv]
   ·rw[hβo q hq hid]
  have hlk:∀(t:Nat) (o:Ob),lk t ((j,ob e')::(id,.dq e s rows i ((row0.map (SV.upq (SV.kill j))).set k (.own j)))::er id (st.kill j).hp)=some o →
    (t=j∧o=ob e')∨(t=id∧o=.dq e s rows i ((row0.map (SV.upq (SV.kill j))).set k (.own j)))∨(t≠j∧t≠id∧∃o0,lk t st.hp=some o0∧o=o0.kill j):=fun t o ht=>by
   simp only[lk]at ht;by_cases e1:t=j
   ·rw[if_pos e1]at ht;cases ht;exact .inl ⟨e1,rfl⟩
   ·rw[if_neg e1]at ht;by_cases e2:t=id
    ·rw[if_pos e2]at ht;cases ht;exact .inr (.inl ⟨e2,rfl⟩)
    ·rw[if_neg e2,kAt e2,kFc e1]at ht
     cases hq:lk t st.hp with
     |none=>rw[hq]at ht;cases ht
     |some o0=>rw[hq]at ht;exact .inr (.inr ⟨e1,e2,o0,rfl,by simpa using ht.symm⟩)
  have hftid:∀b',vid.ft b'→bv.ft b':=fun b' hb=>(hF b').2 (hb.imp _root_.id fun⟨i',k',q,_⟩=>⟨i',k',q⟩)
  have hftj:∀b',fs i k b'→bv.ft b':=fun b' hb=>(hF b').2 (.inr ⟨i,k,hb⟩)
  have hft:∀t o b',lk t ((j,ob e')::(id,.dq e s rows i ((row0.map (SV.upq (SV.kill j))).set k (.own j)))::er id (st.kill j).hp)=some o→(β' t).ft b'→∃t0 o0,lk t0 st.hp=some o0∧(β t0).ft b'∧(t=j∨t=id→t0=id)∧(t≠j→t0=t):=fun t o b' ht hb=>by
   rcases hlk t o ht with⟨rfl,_⟩|⟨rfl,_⟩|⟨n1,n2,o0,q,_⟩
   ·rw[hβj]at hb;exact⟨id,_,hl,by rw[hbv];exact hftj b' hb,fun _=>rfl,fun q=>absurd rfl q⟩
   ·rw[hβid]at hb;exact⟨t,_,hl,by rw[hbv];exact hftid b' hb,fun _=>rfl,fun _=>rfl⟩
   ·rw[hβo t n1 n2]at hb;exact⟨t,o0,q,hb,fun q=>by rcases q with q|q<;>contradiction,fun _=>rfl⟩
  have hft1:∀t o b',lk t ((j,ob e')::(id,.dq e s rows i ((row0.map (SV.upq (SV.kill j))).set k (.own j)))::er id (st.kill j).hp)=some o→(β' t).ft b'→∃t0 o0,lk t0 st.hp=some o0∧(β t0).ft b':=fun t o b' ht hb=>by
   obtain⟨t0,o0,q1,q2,_⟩:=hft t o b' ht hb;exact⟨t0,o0,q1,q2⟩
  have hS:Same (XX X0 β st.hp) w w:=⟨Nat.le_refl _,fun _ _ _=>rfl⟩
  refine⟨e',β',h.ghost (fun q=>?_) (fun q hq=>hβv q (by omega)) hft1 (fun t x' hx=>?_) (fun t o ht=>?_) (fun p q op oq b' hp hq hbp hbq=>?_)⟩
  ·by_cases hq:q=j
   ·rw[hq,hβj];exact h8 i k h4 hks
   ·rw[hβv q hq];exact h.beta q
  ·simp only[St.kill,kB4]at hx
   cases hy:lk t st.fr with
   |none=>rw[hy]at hx;cases hx
   |some y =>
    rw[hy]at hx;have hx':y.kill j=x':=by simpa using hx
    subst hx';exact⟨y,rfl,fun v hR=>hR.kill hβv⟩
  ·rcases hlk t o ht with⟨rfl,rfl⟩|⟨rfl,rfl⟩|⟨n1,n2,o0,q,rfl⟩
   ·rw[hβj];exact hobe e' _ _ _ _ (he'.mono hS (fun b' _ hb=>kKb hft1 hb) (fun _ _=>rfl))
   ·rw[hβid];refine .dq b cap cur us fs' hv hh h1 h2 h3 h4 (by simp[h5]) h6 h7 h8 (fun i' k' row c q0 r1 r2=>(h9 i' k' row c q0 r1 r2).ext fun b'=>⟨fun g=>g.1,fun g=>⟨g,fun g2=>q0 g2.1⟩⟩) (fun k' c hc=>?_) (fun i' k' b' g=>h11 i' k' b' g.1) (fun i' k' g=>h12 i' k' g.1) (fun i1 k1 i2 k2 b' g1 g2=>h13 i1 k1 i2 k2 b' g1.1 g2.1) (fun b'=>Iff.rfl)
    rw[List.getElem?_set]at hc;split at hc
    ·rename_i hkk;subst hkk;simp only[List.length_map,h5,hks,if_true,Option.some.injEq]at hc;subst hc;have hR:=R.own (w:=w) (X:=XX X0 β' ((j,ob e')::(t,.dq e s rows i ((row0.map (SV.upq (SV.kill j))).set k (.own j)))::er t (st.kill j).hp)) (β:=β') j;rw[hβj]at hR;exact .inr ⟨rfl,hR,fun b' g=>g.2 ⟨rfl,rfl⟩⟩
    ·rename_i hkk;obtain⟨c0,hc0,rfl⟩:=kFr hc;have hex:∀b',fs' i k' b'↔fs i k' b':=fun b'=>⟨fun g=>g.1,fun g=>⟨g,fun g2=>hkk g2.2.symm⟩⟩
     have h0:DqC w (XX X0 β' ((j,ob e')::(t,.dq e s rows i ((row0.map (SV.upq (SV.kill j))).set k (.own j)))::er t (st.kill j).hp)) β' (c0.upq (SV.kill j)) (us i k') (fs i k') :=
      (h10 k' c0 hc0).upq fun hR=>R.kill hβv (hR.mono (X':=XX X0 β' ((j,ob e')::(t,.dq e s rows i ((row0.map (SV.upq (SV.kill j))).set k (.own j)))::er t (st.kill j).hp)) hS (fun b' _ hb=>kKb hft1 hb))
     rcases h0 with⟨g1,g2⟩|⟨g1,g2,g3⟩
     ·exact .inl ⟨g1,g2.ext hex⟩
     ·exact .inr ⟨g1,g2,fun b' g=>g3 b' ((hex b').1 g)⟩
   ·rw[hβo t n1 n2];exact((h.objs t o0 q).mono hS (fun b' _ hb=>kKb hft1 hb) (fun _ _=>rfl)).kill hβv
  ·obtain⟨t1,o1,q1,q2,q3,q4⟩:=hft p op b' hp hbp;obtain⟨t2,o2,r1,r2,r3,r4⟩:=hft q oq b' hq hbq;have:=h.inj t1 t2 o1 o2 b' q1 r1 q2 r2;subst this;by_cases p1:p=j<;>by_cases p2:q=j
   ·rw[p1,p2]
   ·exfalso;have:=r4 p2;have:=q3 (.inl p1);have hqi:q=id:=by omega
    rw[p1,hβj]at hbp;rw[hqi,hβid]at hbq;have hbp:fs i k b':=hbp;rcases hbq with g|⟨i',k',g,g2⟩
    ·exact h12 i k (g▸hbp)
    ·exact g2 (h13 i' k' i k b' g hbp)
   ·exfalso;have:=q4 p1;have:=r3 (.inl p2);have hpi:p=id:=by omega
    rw[p2,hβj]at hbq;rw[hpi,hβid]at hbp;have hbq:fs i k b':=hbq;rcases hbp with g|⟨i',k',g,g2⟩
    ·exact h12 i k (g▸hbq)
    ·exact g2 (h13 i' k' i k b' g hbq)
   ·have:=q4 p1;have:=r4 p2;omega
theorem Sim.absb (h:Sim N X0 M w0 st β a w) {id k j e s i s':Nat}{rows rows':List (List SV)}{row0:List SV}{oj:Ob}(hl:lk id st.hp=some (.dq e s rows i row0)) (hk:row0[k]? = some (.own j)) (hne:j≠id)
  (hoj:lk j st.hp=some oj) (hob:ObR w (XX X0 β st.hp) β (β j) oj→Dp w (.sl s' rows') (β j).val (β j).ft) :
  ∃β',Sim N X0 M w0 { fr:=(st.kill j).fr,hp:=(id,.dq e s rows i ((row0.map (SV.upq (SV.kill j))).set k (.sl s' rows')))::er id (st.kill j).hp } β' a w:=by
 have hO:=h.objs id _ hl;have hD:=hob (h.objs j oj hoj);have hdisj:∀b',(β j).ft b'→¬(β id).ft b':=fun b' g1 g2=>hne (h.inj j id oj _ b' hoj hl g1 g2)
 generalize hbv:β id=bv at hO hdisj
 cases hO with
 |dq b cap cur us fs hv hh h1 h2 h3 h4 h5 h6 h7 h8 h9 h10 h11 h12 h13 hF =>
  have hks:k<s:=by rw[←h5];exact(List.getElem?_eq_some_iff.1 hk).1
  have hR0:us i k=(β j).val∧∀b',¬fs i k b':=by
   rcases h10 k _ hk with⟨q,_⟩|⟨_,hR,g⟩
   ·cases q
   ·exact⟨hR.kBm,g⟩
  let fs':Nat→Nat→Nat→Prop:=fun i' k' b'=>if i'=i∧k'=k then(β j).ft b' else fs i' k' b'
  have hfs1:∀b',fs' i k b'↔(β j).ft b':=fun b'=>by show(if i=i∧k=k then _ else _)↔_;rw[if_pos ⟨rfl,rfl⟩]
  have hfs2:∀i' k' b',¬(i'=i∧k'=k)→(fs' i' k' b'↔fs i' k' b'):=fun i' k' b' hn=>by show(if i'=i∧k'=k then _ else _)↔_;rw[if_neg hn]
  let vid:BV:=⟨bv.val,fun b'=>b'=b∨∃i' k',fs' i' k' b'⟩
  let β':Nat→BV:=fun q=>if q=id then vid else β q
  have hβid:β' id=vid:=if_pos rfl;have hβo:∀q,q≠id→β' q=β q:=fun q h2=>if_neg h2
  have hβv:∀q,(β' q).val=(β q).val:=fun q=>by
   by_cases hid:q=id
   ·rw[hid,hβid,hbv]
   ·rw[hβo q hid]
  have hlk:∀(t:Nat) (o:Ob),lk t ((id,.dq e s rows i ((row0.map (SV.upq (SV.kill j))).set k (.sl s' rows')))::er id (st.kill j).hp)=some o →
    (t=id∧o=.dq e s rows i ((row0.map (SV.upq (SV.kill j))).set k (.sl s' rows')))∨(t≠j∧t≠id∧∃o0,lk t st.hp=some o0∧o=o0.kill j):=fun t o ht=>by
   simp only[lk]at ht;by_cases e2:t=id
   ·rw[if_pos e2]at ht;cases ht;exact .inl ⟨e2,rfl⟩
   ·rw[if_neg e2,kAt e2]at ht;by_cases e1:t=j
    ·subst e1;rw[kG3]at ht;cases ht
    ·rw[kFc e1]at ht
     cases hq:lk t st.hp with
     |none=>rw[hq]at ht;cases ht
     |some o0=>rw[hq]at ht;exact .inr ⟨e1,e2,o0,rfl,by simpa using ht.symm⟩
  have hvid:∀b',vid.ft b'→bv.ft b'∨(β j).ft b':=fun b' hb=>by
   rcases hb with g|⟨i',k',g⟩
   ·exact .inl ((hF b').2 (.inl g))
   ·by_cases hik:i'=i∧k'=k
    ·obtain⟨rfl,rfl⟩:=hik;exact .inr ((hfs1 b').1 g)
    ·exact .inl ((hF b').2 (.inr ⟨i',k',(hfs2 i' k' b' hik).1 g⟩))
  have hft:∀t o b',lk t ((id,.dq e s rows i ((row0.map (SV.upq (SV.kill j))).set k (.sl s' rows')))::er id (st.kill j).hp)=some o→(β' t).ft b'→∃t0 o0,lk t0 st.hp=some o0∧(β t0).ft b'∧(t≠id→t0=t)∧(t=id→t0=id∨t0=j):=fun t o b' ht hb=>by
   rcases hlk t o ht with⟨rfl,_⟩|⟨n1,n2,o0,q,_⟩
   ·rw[hβid]at hb;rcases hvid b' hb with g|g
    ·exact⟨t,_,hl,by rw[hbv];exact g,fun q=>absurd rfl q,fun _=>.inl rfl⟩
    ·exact⟨j,_,hoj,g,fun q=>absurd rfl q,fun _=>.inr rfl⟩
   ·rw[hβo t n2]at hb;exact⟨t,o0,q,hb,fun _=>rfl,fun q=>absurd q n2⟩
  have hft1:∀t o b',lk t ((id,.dq e s rows i ((row0.map (SV.upq (SV.kill j))).set k (.sl s' rows')))::er id (st.kill j).hp)=some o→(β' t).ft b'→∃t0 o0,lk t0 st.hp=some o0∧(β t0).ft b':=fun t o b' ht hb=>by
   obtain⟨t0,o0,q1,q2,_⟩:=hft t o b' ht hb;exact⟨t0,o0,q1,q2⟩
  have hS:Same (XX X0 β st.hp) w w:=⟨Nat.le_refl _,fun _ _ _=>rfl⟩
  refine⟨β',h.ghost (fun q=>by rw[hβv];exact h.beta q) (fun q _=>hβv q) hft1 (fun t x' hx=>?_) (fun t o ht=>?_) (fun p q op oq b' hp hq hbp hbq=>?_)⟩
  ·simp only[St.kill,kB4]at hx
   cases hy:lk t st.fr with
   |none=>rw[hy]at hx;cases hx
   |some y =>
    rw[hy]at hx;have hx':y.kill j=x':=by simpa using hx
    subst hx';exact⟨y,rfl,fun v hR=>hR.kill fun q _=>hβv q⟩
  ·rcases hlk t o ht with⟨rfl,rfl⟩|⟨n1,n2,o0,q,rfl⟩
   ·rw[hβid];refine .dq b cap cur us fs' hv hh h1 h2 h3 h4 (by simp[h5]) h6 h7 h8 (fun i' k' row c q0 r1 r2=>(h9 i' k' row c q0 r1 r2).ext fun b'=>hfs2 i' k' b' (fun g=>q0 g.1)) (fun k' c hc=>?_) (fun i' k' b' g=>?_) (fun i' k' g=>?_) (fun i1 k1 i2 k2 b' g1 g2=>?_) (fun b'=>Iff.rfl)
    ·rw[List.getElem?_set]at hc;split at hc
     ·rename_i hkk;subst hkk;simp only[List.length_map,h5,hks,if_true,Option.some.injEq]at hc;subst hc;refine .inl ⟨rfl,?_⟩;rw[hR0.1];exact hD.ext hfs1
     ·rename_i hkk;obtain⟨c0,hc0,rfl⟩:=kFr hc;have hex:∀b',fs' i k' b'↔fs i k' b':=fun b'=>hfs2 i k' b' (fun g2=>hkk g2.2.symm)
      have h0:=(h10 k' c0 hc0).upq (f:=SV.kill j) (X':=XX X0 β' ((t,.dq e s rows i ((row0.map (SV.upq (SV.kill j))).set k (.sl s' rows')))::er t (st.kill j).hp)) (β':=β') fun hR=>R.kill (fun q _=>hβv q) (hR.mono (X':=XX X0 β' ((t,.dq e s rows i ((row0.map (SV.upq (SV.kill j))).set k (.sl s' rows')))::er t (st.kill j).hp)) hS (fun b' _ hb=>kKb hft1 hb))
      rcases h0 with⟨g1,g2⟩|⟨g1,g2,g3⟩
      ·exact .inl ⟨g1,g2.ext hex⟩
      ·exact .inr ⟨g1,g2,fun b' g=>g3 b' ((hex b').1 g)⟩
    ·by_cases hik:i'=i∧k'=k
     ·obtain⟨rfl,rfl⟩:=hik;exact⟨h4,hks⟩
     ·exact h11 i' k' b' ((hfs2 i' k' b' hik).1 g)
    ·by_cases hik:i'=i∧k'=k
     ·obtain⟨rfl,rfl⟩:=hik;exact hdisj b ((hfs1 b).1 g) ((hF b).2 (.inl rfl))
     ·exact h12 i' k' ((hfs2 i' k' b hik).1 g)
    ·by_cases hik1:i1=i∧k1=k<;>by_cases hik2:i2=i∧k2=k
     ·exact⟨hik1.1.trans hik2.1.symm,hik1.2.trans hik2.2.symm⟩
     ·obtain⟨rfl,rfl⟩:=hik1;exact absurd ((hF b').2 (.inr ⟨i2,k2,(hfs2 i2 k2 b' hik2).1 g2⟩)) (hdisj b' ((hfs1 b').1 g1))
     ·obtain⟨rfl,rfl⟩:=hik2;exact absurd ((hF b').2 (.inr ⟨i1,k1,(hfs2 i1 k1 b' hik1).1 g1⟩)) (hdisj b' ((hfs1 b').1 g2))
     ·exact h13 i1 k1 i2 k2 b' ((hfs2 i1 k1 b' hik1).1 g1) ((hfs2 i2 k2 b' hik2).1 g2)
   ·rw[hβo t n2];exact((h.objs t o0 q).mono hS (fun b' _ hb=>kKb hft1 hb) (fun _ _=>rfl)).kill fun q _=>hβv q
  ·obtain⟨t1,o1,q1,q2,q3,q4⟩:=hft p op b' hp hbp;obtain⟨t2,o2,r1,r2,r3,r4⟩:=hft q oq b' hq hbq;have:=h.inj t1 t2 o1 o2 b' q1 r1 q2 r2;subst this
   have nj:∀{t o},lk t ((id,.dq e s rows i ((row0.map (SV.upq (SV.kill j))).set k (.sl s' rows')))::er id (st.kill j).hp)=some o→t≠j:=fun{t o} ht=>by
    rcases hlk t o ht with⟨rfl,_⟩|⟨n1,_⟩
    ·exact fun e=>hne e.symm
    ·exact n1
   have n1:=nj hp;have n2:=nj hq;by_cases p1:p=id<;>by_cases p2:q=id
   ·rw[p1,p2]
   ·have:=r3 p2;rcases q4 p1 with g|g<;>omega
   ·have:=q3 p1;rcases r4 p2 with g|g<;>omega
   ·have:=q3 p1;have:=r3 p2;omega
theorem Sim.gh (h:Sim N X0 M w0 st β a w) {K:St→Prop}{g:Gh}(hK:st.gh K g):∃st' β',K st'∧Sim N X0 M w0 st' β' a w:=by
 cases g with
 |dp id =>
  simp only[St.gh]at hK;split at hK
  ·rename_i e s rows hl;exact⟨_,β,hK.2,h.reob hl fun hO=>hO.sl_dp hK.1⟩
  ·exact⟨st,β,hK,h⟩
  ·exact hK.elim
 |opn id i =>
  simp only[St.gh]at hK;split at hK
  ·rename_i e s rows hl;exact⟨_,β,hK.2,h.reob hl fun hO=>hO.dp_dq hK.1⟩
  ·exact hK.elim
 |bor id k j =>
  simp only[St.gh]at hK;split at hK
  ·rename_i e s rows i row0 hl;split at hK
   ·rename_i s' rows' hk;obtain⟨e',β',h'⟩:=h.bor hl hk hK.1 hK.2.1 (ob:=fun e'=>.dp e' s' rows') (fun X β v F hD=>hD.dp_ob) (fun e' X β β' v hO=>by cases hO with|dp hd he=>exact .dp hd he)
    exact⟨_,β',hK.2.2 e',h'⟩
   ·exact hK.elim
  ·exact hK.elim
 |borV id k j =>
  simp only[St.gh]at hK;split at hK
  ·rename_i e s rows i row0 hl;split at hK
   ·rename_i s' rows' hk;obtain⟨e',β',h'⟩:=h.bor hl hk hK.1 hK.2.1 (ob:=fun e'=>.sl e' s' rows') (fun X β v F hD=>hD.dp_sl hK.2.2.1) (fun e' X β β' v hO=>hO.kXb)
    exact⟨_,β',hK.2.2.2 e',h'⟩
   ·exact hK.elim
  ·exact hK.elim
 |abs id k =>
  simp only[St.gh]at hK;split at hK
  ·rename_i e s rows i row0 hl;split at hK
   ·rename_i j hk;obtain⟨hne,hK⟩:=hK;split at hK
    ·rename_i e' s' rows' hj
     obtain⟨β',h'⟩:=h.absb hl hk hne hj (s':=s') (rows':=rows') (fun hO=>by
      have:=hO.sl_dp hK.1
      cases this with
      |dp hd he=>exact hd)
     exact⟨_,β',hK.2,h'⟩
    ·rename_i e' s' rows' hj
     obtain⟨β',h'⟩:=h.absb hl hk hne hj (s':=s') (rows':=rows') (fun hO=>by
      cases hO with
      |dp hd he=>exact hd)
     exact⟨_,β',hK,h'⟩
    ·exact hK.elim
   ·exact hK.elim
  ·exact hK.elim
 |fld id =>
  simp only[St.gh]at hK;split at hK
  ·rename_i e s rows i row0 hl;exact⟨_,β,hK.2,h.reob hl fun hO=>hO.dq_dp hK.1⟩
  ·exact hK.elim
theorem Sim.gho {a:Act}{w:World}{K:St→Prop}:∀{l:List Gh}{st:St}{β:Nat→BV},Sim N X0 M w0 st β a w→st.gho K l→∃st' β',K st'∧Sim N X0 M w0 st' β' a w
 | [],st,β,h,hK=>⟨st,β,hK,h⟩
 |g::l,st,β,h,hK=>by
  obtain⟨st1,β1,h1,h2⟩:=h.gh (g:=g) hK;exact Sim.gho h2 h1
end
section
variable {c:Cx}{N:Nat}{X0:Nat→Prop}{M:Nat→BV→Prop}{w0:World}{st:St}{K:Exit→St→Prop}
theorem zG (l:List Gh) {code:Code}(h:st.gho (fun st'=>WP c N X0 M w0 code st' K) l):WP c N X0 M w0 code st K:=fun hA β a w hs=>by
 obtain⟨st',β',h1,h2⟩:=hs.gho h;exact h1 hA β' a w h2
def ghoK (l:List Gh) (K:Exit→St→Prop):Exit→St→Prop
 | .normal,st=>st.gho (K .normal) l
 |e,st=>K e st
theorem zO (l:List Gh) {code:Code}(h:WP c N X0 M w0 code st (ghoK l K)):WP c N X0 M w0 code st K:=fun hA β a w hs =>
 Code.wp_mono (fun e a' w' hq=>by
  cases e with
  |normal =>
   obtain⟨st',β',h1,h2⟩:=hq;obtain⟨st2,β2,h3,h4⟩:=h2.gho h1
   exact⟨st2,β2,h3,h4⟩
  | _=>exact hq) (h hA β a w hs)
end
end Go.Vc

namespace Go.Proofs.YtjdklcjoeanimaaGreat
open Go.Vc
attribute [local irreducible] Go.Vc.WP
attribute [local go_sem] kAd kAe
attribute [local go_sem] kBe
section
attribute [local go_sem] kRy
end
section
end
section
attribute [local go_sem] kWi
end
end Go.Proofs.YtjdklcjoeanimaaGreat

namespace Go.Proofs.YtjdklcjoeanimaaGreat
open Go.Vc
section
variable {α:Type}(cnt:α→Nat) (mrk:Int→α→α)
def cntA (L:List α):Nat:=(L.map cnt).sum
def mkA:Int→List α→List α
 | _,[]=>[]
 |k,x::L=>mrk k x::mkA (k+(cnt x:Int)) L
def hfA (k:Int) (L:List α) (i:Nat):List α:=mkA cnt mrk k (L.take i)++L.drop i
variable {cnt mrk}
theorem kGp:∀(L:List α) (k:Int),(mkA cnt mrk k L).length=L.length
 | [],_=>rfl
 |x::L,k=>by simp[mkA,kGp L]
theorem k62:∀(L M:List α) (k:Int),mkA cnt mrk k (L++M)=mkA cnt mrk k L++mkA cnt mrk (k+(cntA cnt L:Int)) M
 | [],M,k=>by simp[mkA,cntA]
 |x::L,M,k=>by
  rw[List.cons_append,mkA,mkA,k62 L M,List.cons_append];congr 2;simp only[cntA,List.map_cons,List.sum_cons];congr 1;omega
theorem kLd (L:List α) (i:Nat) (h:i<L.length):cntA cnt (L.take (i+1))=cntA cnt (L.take i)+cnt L[i]:=by
 unfold cntA;rw[List.take_succ_eq_append_getElem h,List.map_append,List.sum_append];simp
theorem kSo (L:List α) (m:Nat) (h:∀x∈L,cnt x≤m):cntA cnt L≤L.length*m:=by
 induction L with
 |nil=>simp[cntA]
 |cons x L ih =>
  have h1:=h x List.mem_cons_self;have h2:=ih fun y hy=>h y (List.mem_cons_of_mem _ hy)
  simp only[cntA,List.map_cons,List.sum_cons,List.length_cons,Nat.add_mul]at h2⊢;omega
theorem kDe (L:List α) (i:Nat):cntA cnt (L.take i)≤cntA cnt L:=by
 have:=List.take_append_drop i L
 have h2:cntA cnt L=cntA cnt (L.take i)+cntA cnt (L.drop i):=by
  unfold cntA;rw[←List.sum_append,←List.map_append,this]
 omega
theorem kUp (L:List α) (k:Int):hfA cnt mrk k L 0=L:=by simp[hfA,mkA]
theorem kXt (L:List α) (k:Int) (i:Nat) (h:i≤L.length):(hfA cnt mrk k L i).length=L.length:=by simp[hfA,kGp];omega
theorem qKx (L:List α) (k:Int) (i:Nat) (h:i<L.length):(hfA cnt mrk k L i)[i]? = some L[i]:=by
 unfold hfA;rw[List.getElem?_append_right (by simp[kGp];omega)]
 simp[kGp,Nat.min_eq_left (Nat.le_of_lt h)]
theorem kXu {en:α→List SV}(L:List α) (k:Int) (i:Nat) (h:i<L.length):Go.Vc.rowAt ((hfA cnt mrk k L i).map en) i=en L[i]:=by
 unfold Go.Vc.rowAt;rw[List.getElem?_map,qKx L k i h];rfl
theorem kXv {en:α→List SV}(L:List α) (k:Int) (i:Nat) (h:i<L.length):((hfA cnt mrk k L i).map en).set i (en (mrk (k+(cntA cnt (L.take i):Int)) L[i]))=(hfA cnt mrk k L (i+1)).map en:=by
 rw[←List.map_set];congr 1;unfold hfA;have hl:(mkA cnt mrk k (L.take i)).length=i:=by rw[kGp,List.length_take];omega
 rw[List.set_append,if_neg (by omega),hl,Nat.sub_self,List.drop_eq_getElem_cons h,List.set_cons_zero,List.take_succ_eq_append_getElem h,k62,List.append_assoc]
 rfl
theorem kXw (L:List α) (k:Int):hfA cnt mrk k L L.length=mkA cnt mrk k L:=by simp[hfA]
theorem kXx:∀(L:List α) (k:Int) (i:Nat) (h:i<L.length),(mkA cnt mrk k L)[i]'(by rw[kGp];exact h)=mrk (k+(cntA cnt (L.take i):Int)) L[i]
 |x::L,k,0,_=>by simp[mkA,cntA]
 |x::L,k,i+1,h=>by
  simp only[mkA,List.getElem_cons_succ,List.take_succ_cons];rw[kXx L _ i (by simpa using h)]
  congr 1;simp only[cntA,List.map_cons,List.sum_cons];omega
end
end Go.Proofs.YtjdklcjoeanimaaGreat

namespace Go.Proofs.YtjdklcjoeanimaaGreat
open Go.Vc
attribute [local irreducible] Go.Vc.WP
attribute [local go_sem] kAd kAe
attribute [local go_sem] kBe ghoK St.gho St.gh SV.flat
theorem kI6 {α:Type}{en:α→List SV}(h:∀x,∀c∈en x,∃v,c=SV.v v) (L:List α):kGu (L.map en)↔True:=iff_true_intro (by
 intro row hr c hc;obtain⟨n,_,rfl⟩:=List.mem_map.1 hr;exact h n c hc)
theorem qNz (L:List ByteArray):kGu (L.map encS)↔True:=kI6 (fun x c hc=>by simp only[encS,List.mem_cons,List.not_mem_nil,or_false]at hc;exact⟨_,hc⟩) L
theorem kRt {n:Nat}{z:List SV}(h:∀c∈z,∃v,c=SV.v v):kGu (List.replicate n z):=fun row hr c hc=>by
 rw[List.eq_of_mem_replicate hr]at hc;exact h c hc
attribute [local go_sem] qNz
section
end
section
end
section
end
section
attribute [local go_sem] kBd kOs
end
end Go.Proofs.YtjdklcjoeanimaaGreat

namespace Go.Proofs.YtjdklcjoeanimaaGreat
open Go.Vc
attribute [local irreducible] Go.Vc.WP
attribute [local go_sem] kAd kAe
attribute [local go_sem] kAf kAg spA kBe kBc kBq kCn pcA rgA seA kAj tmA kFa ghoK St.gho St.gh SV.flat
theorem kSq (L:List Int):kGu (L.map encI)↔True:=kI6 (fun x c hc=>by simp only[encI,List.mem_cons,List.not_mem_nil,or_false]at hc;exact⟨_,hc⟩) L
theorem kJs (L:List Symbol):kGu (L.map encSymbol)↔True:=kI6 (fun x c hc=>by simp only[encSymbol,List.mem_cons,List.not_mem_nil,or_false]at hc;rcases hc with rfl|rfl|rfl<;>exact⟨_,rfl⟩) L
attribute [local go_sem] kSq kJs
def kJe:Ctr:=pur (fun args=>kBl (aC args 0)) (fun x=>[.agg [.v (.string x.code),.sl 3 (x.symbols.map encSymbol)]]) (fun x=>x.symbols.length≤2097152) (fun d x=>.agg [.v (.string x.code),.own d]) (fun d x=>[(d,.sl 214 3 (x.symbols.map encSymbol))])
section
attribute [local go_sem] kBl
noncomputable def k4j:=mkX [(169,kH6)] (COk.cons kVp (COk.nil _))
theorem qI2:k4j.tys=tys:=rfl
theorem qI3:k4j.C=[(169,kH6)]:=rfl
attribute [local go_sem] qI2 qI3 kH6
theorem qPo:Cn Tryz.prog 168 kJe:=by
 refine Cn.pur Tryz.func168 (by kernel_rfl) rfl fun d x hx=>?_
 obtain⟨c,Y⟩:=x;simp only at hx⊢;refine Holds.go (c:=k4j) Tryz.func168 rfl Tryz.results168 Tryz.ntmps168 (by omega) (by simp) rfl ?_
 intro X0 w0
 (repeat' (first|apply zS|apply zB|(apply zW;simp only[go_sem])|apply And.intro|intro _))
 all_goals first|omega|exact⟨_,_,rfl,_,_,rfl,rfl⟩|exact if_neg (by omega)|(rw[if_neg (by omega),if_neg (by omega)];done)|(rw[if_neg (by omega),if_neg (by omega),if_neg (by omega)];done)|(rw[if_neg (by omega),if_neg (by omega),if_neg (by omega),if_neg (by omega)];done)|skip
end
def kS0:Ctr:=pur (fun args=>kDl (aR args 0)) (fun L=>[.sl 2 (L.map encImage)]) (fun L=>L.length≤2097152∧∀x∈L,x.symbols.length≤2097152) (fun d _=>.own d) (fun d L=>[(d,.dp 144 2 (L.map encImage))])
section
attribute [local go_sem] kBl
noncomputable def k4k:=mkX [(168,kJe)] (COk.cons qPo (COk.nil _))
theorem qI4:k4k.tys=tys:=rfl
theorem qI5:k4k.C=[(168,kJe)]:=rfl
attribute [local go_sem] qI4 qI5 kJe
theorem qPp:Cn Tryz.prog 94 kS0:=by
 refine Cn.pur Tryz.func94 (by kernel_rfl) rfl fun d x hx=>?_
 rename List Image=>L
 obtain⟨hL,hY⟩:=hx;refine Holds.go (c:=k4k) Tryz.func94 rfl Tryz.results94 Tryz.ntmps94 (by omega) (by simp) rfl ?_
 intro X0 w0
 (repeat' (first|apply zS|apply zB|(apply zW;simp only[go_sem])|apply And.intro|intro _))
 all_goals first|omega|skip
 refine zG [.dp 7] ?_;simp only[go_sem];refine⟨kRt (by simp),?_⟩
 refine zL (fun k:Nat=>⟨[(0,.sl 2 (L.map encImage)),(3,.own 7),(4,.v (.int .i64 k))],[(7,.dp 144 2 (filled encImage kIy L k))]⟩) (fun k=>k≤L.length) (fun k=>L.length-k) 0 (by omega) ?_ ?_
 ·rw[kDq];simp only[go_sem];first|exact⟨rfl,rfl⟩|rfl
 intro k hk;by_cases hlt:k<L.length
 ·have h0:=hY _ (List.getElem_mem hlt);have h1:=kAa encImage L k hlt;have h2:=kA8 encImage kIy L k hk;have h3:Go.Vc.rowAt (filled encImage kIy L k) k=[.v (.string ⟨#[]⟩),.v (.slice none 0 0)]:=kEa encImage kIy L k hlt;have h4:=kEb encImage kIy L k hlt;rw[encImage]at h4;refine zO [.abs 7 1,.fld 7] ?_;refine zG [.opn 7 k] ?_;simp only[go_sem,h2,h3];refine⟨hlt,?_⟩
  (repeat' (first|apply zS|apply zB|(apply zW;simp only[go_sem,h1,h2,h3,h4,encImage])|apply And.intro|intro _))
  all_goals first|omega|exact h0|exact⟨k+1,by omega,by omega,rfl,rfl⟩|skip
 ·have h2:=kA8 encImage kIy L k hk;have h5:filled encImage kIy L k=L.map encImage:=by rw[show k=L.length by omega];exact kD9 _ _ _
  (repeat' (first|apply zS|apply zB|(apply zW;simp only[go_sem,h2,h5])|apply And.intro|intro _))
  all_goals first|omega|skip
end
def kE3:Ctr:=pur (fun args=>kF3 (aC args 0)) (fun x=>[.agg [.v (.int .i64 x.pc),.v (.int .i64 x.sp),.v (.int .i64 x.fp),.sl 1 (x.stack.map encI),.sl 1 (x.out.map encI),.v (.int .i64 x.state),.v (.int .i64 x.value)]]) (fun x=>x.stack.length≤2097152∧x.out.length≤2097152)
 (fun d x=>.agg [.v (.int .i64 x.pc),.v (.int .i64 x.sp),.v (.int .i64 x.fp),.own d,.own (d+1000),.v (.int .i64 x.state),.v (.int .i64 x.value)]) (fun d x=>[(d,.sl 3 1 (x.stack.map encI)),(d+1000,.sl 3 1 (x.out.map encI))])
section
noncomputable def k4l:=mkX [(95,k15)] (COk.cons c15 (COk.nil _))
theorem qI6:k4l.tys=tys:=rfl
theorem qI7:k4l.C=[(95,k15)]:=rfl
attribute [local go_sem] qI6 qI7 k15
theorem qI8:Cn Tryz.prog 173 kE3:=by
 refine Cn.pur Tryz.func173 (by kernel_rfl) rfl fun d x hx=>?_
 obtain⟨a,b,c,s,o,d2,e2⟩:=x;obtain⟨hs,ho⟩:=hx;simp only at hs ho⊢;refine Holds.go (c:=k4l) Tryz.func173 rfl Tryz.results173 Tryz.ntmps173 (by omega) (by simp) rfl ?_
 intro X0 w0
 (repeat' (first|apply zS|apply zB|(apply zW;simp only[go_sem])|apply And.intro|intro _))
 all_goals first|omega|exact⟨_,_,_,_,_,_,_,rfl⟩|exact⟨_,_,rfl,_,_,rfl,rfl⟩|exact if_neg (by omega)|(rw[if_neg (by omega),if_neg (by omega)];done)|(rw[if_neg (by omega),if_neg (by omega),if_neg (by omega)];done)|(rw[if_neg (by omega),if_neg (by omega),if_neg (by omega),if_neg (by omega)];done)|skip
end
def kQg:Ctr:=pur (fun args=>kGq (aR args 0)) (fun L=>[.sl 7 (L.map encMach)]) (fun L=>L.length≤1048576∧∀x∈L,kB5 x) (fun d _=>.own d) (fun d L=>[(d,.dp 206 7 (L.map encMach))])
section
attribute [local go_sem] kF3
noncomputable def k4m:=mkX [(173,kE3)] (COk.cons qI8 (COk.nil _))
theorem qI9:k4m.tys=tys:=rfl
theorem qJa:k4m.C=[(173,kE3)]:=rfl
attribute [local go_sem] qI9 qJa kE3
set_option maxHeartbeats 3000000 in
theorem qJb:Cn Tryz.prog 97 kQg:=by
 refine Cn.pur Tryz.func97 (by kernel_rfl) rfl fun d x hx=>?_
 rename List Mach=>L
 obtain⟨hL,hY⟩:=hx;refine Holds.go (c:=k4m) Tryz.func97 rfl Tryz.results97 Tryz.ntmps97 (by omega) (by simp) rfl ?_
 intro X0 w0
 (repeat' (first|apply zS|apply zB|(apply zW;simp only[go_sem])|apply And.intro|intro _))
 all_goals first|omega|skip
 refine zG [.dp 7] ?_;simp only[go_sem];refine⟨kRt (by simp),?_⟩
 refine zL (fun k:Nat=>⟨[(0,.sl 7 (L.map encMach)),(3,.own 7),(4,.v (.int .i64 k))],[(7,.dp 206 7 (filled encMach kKu L k))]⟩) (fun k=>k≤L.length) (fun k=>L.length-k) 0 (by omega) ?_ ?_
 ·rw[kDq];simp only[go_sem];first|exact⟨rfl,rfl⟩|rfl
 intro k hk;by_cases hlt:k<L.length
 ·have h0:=(hY _ (List.getElem_mem hlt)).1;have h0':=(hY _ (List.getElem_mem hlt)).2;have h1:=kAa encMach L k hlt;have h2:=kA8 encMach kKu L k hk;have h3:Go.Vc.rowAt (filled encMach kKu L k) k=[.v (.int .i64 0),.v (.int .i64 0),.v (.int .i64 0),.v (.slice none 0 0),.v (.slice none 0 0),.v (.int .i64 0),.v (.int .i64 0)]:=kEa encMach kKu L k hlt;have h4:=kEb encMach kKu L k hlt;rw[encMach]at h4;refine zO [.abs 7 3,.abs 7 4,.fld 7] ?_;refine zG [.opn 7 k] ?_;simp only[go_sem,h2,h3];refine⟨hlt,?_⟩
  (repeat' (first|apply zS|apply zB|(apply zW;simp only[go_sem,h1,h2,h3,h4,encMach])|apply And.intro|intro _))
  all_goals first|omega|exact h0|exact h0'|exact⟨k+1,by omega,by omega,rfl,rfl⟩|skip
 ·have h2:=kA8 encMach kKu L k hk;have h5:filled encMach kKu L k=L.map encMach:=by rw[show k=L.length by omega];exact kD9 _ _ _
  (repeat' (first|apply zS|apply zB|(apply zW;simp only[go_sem,h2,h5])|apply And.intro|intro _))
  all_goals first|omega|skip
end
def kFs:Ctr:=pur (fun args=>spA args 0) (fun x=>[.agg [.sl 2 (x.1.map encImage),.sl 1 (x.2.1.map encI),.sl 1 (x.2.2.map encI)]]) shSp (fun d _=>.agg [.own d,.own (d+1000),.own (d+2000)])
 (fun d x=>[(d,.dp 144 2 (x.1.map encImage)),(d+1000,.sl 3 1 (x.2.1.map encI)),(d+2000,.sl 3 1 (x.2.2.map encI))])
section
noncomputable def k4n:=mkX [(95,k15),(94,kS0)] (COk.cons c15 (COk.cons qPp (COk.nil _)))
theorem qJc:k4n.tys=tys:=rfl
theorem qJd:k4n.C=[(95,k15),(94,kS0)]:=rfl
attribute [local go_sem] qJc qJd k15 kS0
theorem qEx:Cn Tryz.prog 37 kFs:=by
 refine Cn.pur Tryz.func37 (by kernel_rfl) rfl fun d x hx=>?_
 obtain⟨I,B,E⟩:=x;obtain⟨⟨hI,hIm⟩,hB,hE⟩:=hx;simp only at hI hIm hB hE⊢;refine Holds.go (c:=k4n) Tryz.func37 rfl Tryz.results37 Tryz.ntmps37 (by omega) (by simp) rfl ?_
 intro X0 w0
 (repeat' (first|apply zS|apply zB|(apply zW;simp only[go_sem])|apply And.intro|intro _))
 all_goals first|omega|exact hIm _ ‹_›|exact⟨_,_,_,rfl⟩|exact⟨_,_,rfl,_,_,rfl,rfl⟩|exact if_neg (by omega)|(rw[if_neg (by omega),if_neg (by omega)];done)|(rw[if_neg (by omega),if_neg (by omega),if_neg (by omega)];done)|(rw[if_neg (by omega),if_neg (by omega),if_neg (by omega),if_neg (by omega)];done)|skip
end
def kG2:Ctr:=pur (fun args=>pcA args 0) (fun x=>[.agg (aggPc x)]) shPc (fun d x=>.agg [.own d,.own (d+1000),.own (d+2000),.own (d+3000),.v (.int .i64 x.2.2.1),.v (.int .i64 x.2.2.2.1),.v (.int .i64 x.2.2.2.2)])
 (fun d x=>[(d,.dp 144 2 (x.1.1.map encImage)),(d+1000,.sl 3 1 (x.1.2.1.map encI)),(d+2000,.sl 3 1 (x.1.2.2.map encI)),(d+3000,.dp 206 7 (x.2.1.map encMach))])
section
attribute [local go_sem] aggPc
attribute [local irreducible] kB5
noncomputable def k4o:=mkX [(37,kFs),(97,kQg)] (COk.cons qEx (COk.cons qJb (COk.nil _)))
theorem qJe:k4o.tys=tys:=rfl
theorem qJf:k4o.C=[(37,kFs),(97,kQg)]:=rfl
attribute [local go_sem] qJe qJf kFs kQg
set_option maxHeartbeats 3000000 in
theorem ctoPcD:Cn Tryz.prog 39 kG2:=by
 refine Cn.pur Tryz.func39 (by kernel_rfl) rfl fun d x hx=>?_
 obtain⟨⟨I,B,E⟩,T,tu,le,sl⟩:=x;obtain⟨hsp,hT,hTs⟩:=hx;have hsp2:=hsp;obtain⟨⟨hI,hIm⟩,hB,hE⟩:=hsp2;simp only[aggPc]at hT hTs hI hIm hB hE⊢;refine Holds.go (c:=k4o) Tryz.func39 rfl Tryz.results39 Tryz.ntmps39 (by omega) (by simp) rfl ?_
 intro X0 w0
 (repeat' (first|apply zS|apply zB|(apply zW;simp only[go_sem])|apply And.intro|intro _))
 all_goals first|omega|exact hIm _ ‹_›|exact hTs _ ‹_›|exact hsp|exact⟨_,_,_,_,_,_,_,rfl⟩|exact⟨_,_,rfl,_,_,rfl,rfl⟩|exact if_neg (by omega)|(rw[if_neg (by omega),if_neg (by omega)];done)|(rw[if_neg (by omega),if_neg (by omega),if_neg (by omega)];done)|(rw[if_neg (by omega),if_neg (by omega),if_neg (by omega),if_neg (by omega)];done)|skip
end
end Go.Proofs.YtjdklcjoeanimaaGreat

namespace Go.Vc
def rp (t:Nat) (ob:Ob):List (Nat×Ob)→List (Nat×Ob)
 | []=>[]
 | (u,o)::l=>(if u=t then(u,ob)else(u,o))::rp t ob l
theorem kO9 {t:Nat}{ob:Ob}{j:Nat}:∀{l:List (Nat×Ob)}{o:Ob},lk j (rp t ob l)=some o→∃o0,lk j l=some o0∧(j=t→o=ob)∧(j≠t→o=o0)
 | (u,o1)::l,o,h=>by
  simp only[rp]at h;by_cases hu:u=t
  ·rw[if_pos hu]at h;simp only[lk]at h⊢;by_cases hj:j=u
   ·rw[if_pos hj]at h⊢;cases h;exact⟨o1,rfl,fun _=>rfl,fun hn=>absurd (hj.trans hu) hn⟩
   ·rw[if_neg hj]at h⊢;exact kO9 h
  ·rw[if_neg hu]at h;simp only[lk]at h⊢;by_cases hj:j=u
   ·rw[if_pos hj]at h⊢;cases h;exact⟨_,rfl,fun e=>absurd (hj.symm.trans e) hu,fun _=>rfl⟩
   ·rw[if_neg hj]at h⊢;exact kO9 h
def isNil:SV→Bool
 | .v (.slice none 0 0)=>true
 | _=>false
def St.kMh (st:St) (t k id e s:Nat):St :=
 match lk t (st.kill id).hp with
 |some (.box e' cs)=>match cs[k]? with
  |some c=>if isNil c=true∧id<1000000∧t≠id then{ fr:=(st.kill id).fr,hp:=rp t (.box e' (cs.set k (.own id))) ((id,.sl e s [])::(st.kill id).hp) }else st
  |none=>st
 | _=>st
def St.kMi (st:St) (t id e s:Nat):St :=
 match lk t (st.kill id).fr with
 |some c=>if isNil c=true∧id<1000000 then{ fr:=(t,.own id)::er t (st.kill id).fr,hp:=(id,.sl e s [])::(st.kill id).hp }else st
 |none=>st
section
variable {c:Cx}{P:Program}{N:Nat}{X0:Nat→Prop}{M:Nat→BV→Prop}{w0:World}{st:St}{K:Exit→St→Prop}
theorem isNil_eq {x:SV}(h:isNil x=true):x=.v (.slice none 0 0):=by
 unfold isNil at h;split at h
 ·rfl
 ·cases h
theorem Sim.qD8 {β:Nat→BV}{a:Act}{w:World}(h:Sim N X0 M w0 st β a w) {id e s:Nat}(hid:id<1000000) :
  ∃β',β' id=nilB∧Sim N X0 M w0 { fr:=(st.kill id).fr,hp:=(id,.sl e s [])::(st.kill id).hp } β' a w:=by
 let β':Nat→BV:=fun i=>if i=id then nilB else β i
 have hβ:∀i,i≠id→β' i=β i:=fun i hi=>by show(if i=id then _ else β i)=_;rw[if_neg hi]
 have hβd:β' id=nilB:=by show(if id=id then _ else β id)=_;rw[if_pos rfl]
 have h1:=h.kill id hid hβ (by rw[hβd];rfl) (w':=w) rfl rfl rfl (Nat.le_refl _) (fun _ _ _=>rfl) (X1:=X0) (fun b _ hb=>.inl hb) h.x0
 refine⟨β',hβd,?_⟩;exact h1.add (j:=id) (kG3 st id) (ob:=.sl e s []) (.nil e s hβd) (fun b hb=>by rw[hβd]at hb;cases hb) (fun b hb=>by rw[hβd]at hb;cases hb) (fun b i o hb=>by rw[hβd]at hb;cases hb)
theorem Sim.rp {β:Nat→BV}{a:Act}{w:World}(h:Sim N X0 M w0 st β a w) {t e':Nat}{cs ds:List SV}(ht:lk t st.hp=some (.box e' cs)) (hl:ds.length=cs.length)
  (hd:∀(k:Nat) (d:SV),ds[k]? = some d→∃c,cs[k]? = some c∧∀u,R w (XX X0 β st.hp) β c u→R w (XX X0 β st.hp) β d u):Sim N X0 M w0 { fr:=st.fr,hp:=Go.Vc.rp t (.box e' ds) st.hp } β a w:=by
 have hX:∀b,XX X0 β (Go.Vc.rp t (.box e' ds) st.hp) b→XX X0 β st.hp b:=fun b hb=>by
  rcases hb with hb|⟨j,o,hj,hb⟩
  ·exact .inl hb
  ·obtain⟨o0,h1,_⟩:=kO9 hj;exact .inr ⟨j,o0,h1,hb⟩
 have hS:Same (XX X0 β st.hp) w w:=⟨Nat.le_refl _,fun _ _ _=>rfl⟩
 exact{ h with
  slots:=fun u x hx=>(h.slots u x hx).mono hS fun b _=>hX b
  objs:=fun j o hj=>by
   obtain⟨o0,h1,h2,h3⟩:=kO9 hj;by_cases hjt:j=t
   ·rw[h2 hjt];subst hjt;have hO:=h.objs j _ ht
    cases hO with
    |box b cur hv hh hlen hc =>
     refine .box b cur hv hh (by rw[hl];exact hlen) fun k d u hk hu=>?_
     obtain⟨c0,hc0,hR⟩:=hd k d hk;obtain⟨g1,g2⟩:=hc k c0 u hc0 hu;exact⟨g1,(hR u g2).mono hS fun b _=>hX b⟩
   ·rw[h3 hjt];exact(h.objs j o0 h1).mono hS (fun b _ hb=>hX b hb) (fun _ _=>rfl)
  inj:=fun p q op oq b hp hq hbp hbq=>by
   obtain⟨o1,e1,_⟩:=kO9 hp;obtain⟨o2,e2,_⟩:=kO9 hq;exact h.inj p q o1 o2 b e1 e2 hbp hbq
  mine:=fun j o b hj hb=>by
   obtain⟨o1,e1,_⟩:=kO9 hj;exact h.mine j o1 b e1 hb }
theorem Sim.kMh {β:Nat→BV}{a:Act}{w:World}(h:Sim N X0 M w0 st β a w) (t k id e s:Nat):∃β',Sim N X0 M w0 (st.kMh t k id e s) β' a w:=by
 unfold St.kMh;split
 case h_2=>exact⟨β,h⟩
 case h_1 _ e' cs hl =>
 split
 case h_2=>exact⟨β,h⟩
 case h_1 _ c0 hc =>
 split
 case isFalse=>exact⟨β,h⟩
 case isTrue hh =>
 obtain⟨hn,hid,hne⟩:=hh;have hc0:=isNil_eq hn;subst hc0;obtain⟨β',hb,h1⟩:=h.qD8 (e:=e) (s:=s) hid;refine⟨β',?_⟩;have hlt:k<cs.length:=(List.getElem?_eq_some_iff.1 hc).1;refine h1.rp (t:=t) (e':=e') (cs:=cs) (ds:=cs.set k (.own id)) ?_ (by simp) fun i d hd=>?_
 ·simp only[lk,if_neg hne];exact hl
 ·rw[List.getElem?_set]at hd;split at hd
  ·rename_i hik;subst hik
   try rw[if_pos hlt]at hd
   cases hd
   exact⟨_,hc,fun u hu=>by
    have:=hu.kAm;subst this;have h0:=R.own (w:=w) (X:=XX X0 β' ((id,.sl e s [])::(st.kill id).hp)) (β:=β') id;rw[hb]at h0;exact h0⟩
  ·exact⟨d,hd,fun u hu=>hu⟩
theorem Sim.kMi {β:Nat→BV}{a:Act}{w:World}(h:Sim N X0 M w0 st β a w) (t id e s:Nat):∃β',Sim N X0 M w0 (st.kMi t id e s) β' a w:=by
 unfold St.kMi;split
 case h_2=>exact⟨β,h⟩
 case h_1 _ c0 hc =>
 split
 case isFalse=>exact⟨β,h⟩
 case isTrue hh =>
 obtain⟨hn,hid⟩:=hh;have hc0:=isNil_eq hn;subst hc0;obtain⟨β',hb,h1⟩:=h.qD8 (e:=e) (s:=s) hid;refine⟨β',?_⟩;have hv:=(h1.slots t _ hc).kAm
 exact{ h1 with
  slots:=fun u x hx=>by
   simp only[lk]at hx;split at hx
   ·rename_i hut;cases hx;rw[hut,hv];have h0:=R.own (w:=w) (X:=XX X0 β' ((id,.sl e s [])::(st.kill id).hp)) (β:=β') id;rw[hb]at h0;exact h0
   ·rename_i hut;rw[kAt hut]at hx;exact h1.slots u x hx }
inductive Ado where
 |b (t k id e s:Nat)
 |s (t id e s:Nat)
def St.ado (st:St):List Ado→St
 | []=>st
 | .b t k id e s::l=>(st.kMh t k id e s).ado l
 | .s t id e s::l=>(st.kMi t id e s).ado l
theorem Sim.ado {a:Act}{w:World}:∀(l:List Ado) {st:St}{β:Nat→BV},Sim N X0 M w0 st β a w→∃β',Sim N X0 M w0 (st.ado l) β' a w
 | [],st,β,h=>⟨β,h⟩
 | .b t k id e s::l,st,β,h=>by obtain⟨β',h'⟩:=h.kMh t k id e s;exact Sim.ado l h'
 | .s t id e s::l,st,β,h=>by obtain⟨β',h'⟩:=h.kMi t id e s;exact Sim.ado l h'
theorem zA (l:List Ado) {code:Code}(h:WP c N X0 M w0 code (st.ado l) K):WP c N X0 M w0 code st K:=fun hA β a w hs=>by
 obtain⟨β',h'⟩:=hs.ado l;exact h hA β' a w h'
end
end Go.Vc

