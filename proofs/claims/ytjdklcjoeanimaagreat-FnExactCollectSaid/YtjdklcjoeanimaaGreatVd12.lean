/-
  DERIVED. Several texts of ours in one: VcFw, VtNumP, VtPU, VgNode, VpFmt, VpProf.
-/
import Derived.Test.YtjdklcjoeanimaaGreatVd4
import Derived.Test.YtjdklcjoeanimaaGreatVd5
import Derived.Test.YtjdklcjoeanimaaGreatVd6
import Derived.Test.YtjdklcjoeanimaaGreatVd11
set_option linter.unusedSimpArgs false
set_option linter.unusedVariables false
set_option maxHeartbeats 1000000
set_option maxRecDepth 10000
namespace Go.Vc
theorem ObR.toSlW {w:World}{X X':Nat→Prop}{β:Nat→BV}{v:BV}{e s:Nat}{rows:List (List SV)}(h:ObR w X' β v (.sl e s rows)) (hX:∀b,v.ft b→¬X b) (hXX:∀b,X b→X' b):Rp w X (.sl s rows) v.val:=by
 cases h with
 |nil e s h=>subst h;exact .nil s _ _
 |sl b cap cur us hv' hh h1 h2 h3 h4 h5 h6 h7 =>
  subst hv';refine .sl b 0 cap us (hX b rfl) (lt_of_heap hh) h1 h4 (fun i k row c hr hc=>?_) h6 (fun i k row c hr hc=>(h7 i k row c hr hc).mono ⟨Nat.le_refl _,fun _ _ _=>rfl⟩ fun b _ h=>hXX b h)
  simp only[World.cell?,hh,Nat.zero_add];exact h5 i k row c hr hc
section
variable {P:Program}{f:FuncId}{args:List SV}{d e s:Nat}{rows:List (List SV)}
theorem Holds.kOb (h:Holds P f args (.own d) [(d,.sl e s rows)]):Holds P f args (.sl s rows) []:=by
 intro w X vs hG hX hl ha;refine(h w X vs hG hX hl ha).mono fun en w' ⟨v,β,he,hb,hβ,hR,hO,hn⟩=>?_
 refine⟨v,β,he,hb,hβ,?_,⟨fun id ob hi=>(by cases hi),fun i j oi oj b hi=>(by cases hi)⟩,fun id ob b hi=>(by cases hi)⟩
 have:=hR.kBm;subst this;refine .p ((hO.1 d (.sl e s rows) (by simp[lk])).toSlW (fun b hb' hx=>?_) (fun b hx=>?_))
 ·have h1:=hn d (.sl e s rows) b (by simp[lk]) hb'
  rcases hx with hx|⟨i,o,hi,_⟩
  ·have:=hX b hx;omega
  ·cases hi
 ·rcases hx with hx|⟨i,o,hi,_⟩
  ·exact .inl hx
  ·cases hi
end
theorem Cn.kOb {P:Program}{f:FuncId}{X:Type}{dec:List SV→X}{A:X→List SV}{pre:X→Prop}{e s:Nat}{rows:X→List (List SV)}
  (h:Cn P f (Go.Vc.pur dec A pre (fun d _=>.own d) (fun d x=>[(d,.sl e s (rows x))]))):Cn P f (Go.Vc.pur dec A pre (fun _ x=>.sl s (rows x)) (fun _ _=>[])) :=
 ⟨h.call,fun d args ha=>(h.holds d args ha).kOb,fun _ _ _ h=>h.elim⟩
end Go.Vc

namespace Go.Proofs.YtjdklcjoeanimaaGreat
end Go.Proofs.YtjdklcjoeanimaaGreat

namespace Go.Proofs.YtjdklcjoeanimaaGreat
open Go.Vc
attribute [local irreducible] Go.Vc.WP
attribute [local go_sem] kAd kAe
section
end
section
end
end Go.Proofs.YtjdklcjoeanimaaGreat

namespace Go.Proofs.YtjdklcjoeanimaaGreat
open Go.Vc
section
open Go.Vc
attribute [local irreducible] Go.Vc.WP
attribute [local go_sem] kAd kAe
structure Node where
 parent:Int
 name:ByteArray
 line:Int
deriving DecidableEq
def kAb (x:Node):List SV:=[.v (.int .i64 x.parent),.v (.string x.name),.v (.int .i64 x.line)]
def kG6:List SV→Node
 | [.v (.int _ parent),.v (.string name),.v (.int _ line)]=>⟨parent,name,line⟩
 | _=>⟨0,⟨#[]⟩,0⟩
def kEs (rows:List (List SV)):List Node:=rows.map kG6
theorem k5v (x:Node):kG6 (kAb x)=x:=rfl
theorem kCg (L:List Node):kEs (L.map kAb)=L:=by
 unfold kEs;rw[List.map_map];exact List.map_id'' k5v L
theorem kKe {e s:Nat}(L:List Node):(Ob.sl e s (L.map kAb)).isV↔True:=iff_true_intro (by
 intro row hr c hc;obtain⟨n,_,rfl⟩:=List.mem_map.1 hr;simp only[kAb,List.mem_cons,List.not_mem_nil,or_false]at hc;rcases hc with rfl|rfl|rfl<;>exact⟨_,rfl⟩)
def kKf:List SV:=[.v (.int .i64 0),.v (.string ⟨#[]⟩),.v (.int .i64 0)]
noncomputable def kMk:=mkX [(257,kPb),(264,kPc),(252,kPd)] (COk.cons qG8 (COk.cons qG9 (COk.cons qHa (COk.nil _))))
theorem k8a:kMk.tys=tys:=rfl
theorem k8b:kMk.C=[(257,kPb),(264,kPc),(252,kPd)]:=rfl
attribute [local go_sem] k8a k8b kPb kPc kPd
attribute [local go_sem] kGe kAc
def kSh:Ctr:=pur (fun args=>kG6 (aC args 0)) (fun x=>[.agg (kAb x)]) (fun _=>True) (fun _ x=>.agg (kAb x)) (fun _ _=>[])
theorem qKm:Cn Tryz.prog 231 kSh:=by
 refine Cn.pur Tryz.func231 (by kernel_rfl) rfl fun d x _=>?_
 refine Holds.go (c:=kMk) Tryz.func231 rfl Tryz.results231 Tryz.ntmps231 (by omega) (by simp) rfl ?_
 intro X0 w0;unfold kAb
 (repeat' (first|apply zS|apply zB|(apply zW;simp only[go_sem])|apply And.intro|intro _))
 all_goals first|omega|exact⟨_,_,rfl,_,_,rfl,rfl⟩|skip
noncomputable def kUb:Cx:={ P:=Tryz.prog,tys:=tys,C:=[(231,kSh)],hty:=kGv,hC:=COk.cons qKm (COk.nil _) }
theorem k8c:kUb.tys=tys:=rfl
theorem k8d:kUb.C=[(231,kSh)]:=rfl
def kPl:Ctr:=pur (fun args=>kEs (aR args 0)) (fun L=>[.sl 3 (L.map kAb)]) (fun L=>L.length≤2097152) (fun d _=>.own d) (fun d L=>[(d,.sl 231 3 (L.map kAb))])
section
attribute [local go_sem] k8c k8d kSh kG6
theorem qHc:Cn Tryz.prog 174 kPl:=by
 refine Cn.pur Tryz.func174 (by kernel_rfl) rfl fun d L hL=>?_
 refine Holds.go (c:=kUb) Tryz.func174 rfl Tryz.results174 Tryz.ntmps174 (by omega) (by simp) rfl ?_
 intro X0 w0
 (repeat' (first|apply zS|apply zB|(apply zW;simp only[go_sem])|apply And.intro|intro _))
 all_goals first|omega|skip
 refine zL (fun k:Nat=>⟨[(0,.sl 3 (L.map kAb)),(3,.own 7),(4,.v (.int .i64 k))],[(7,.sl 231 3 (filled kAb kKf L k))]⟩) (fun k=>k≤L.length) (fun k=>L.length-k) 0 (by omega) ?_ ?_
 ·rw[kDq];simp only[go_sem];first|exact⟨rfl,rfl⟩|rfl
 intro k hk;by_cases hlt:k<L.length
 ·have h1:=kAa kAb L k hlt;have h2:=kA8 kAb kKf L k hk;have h3:Go.Vc.rowAt (filled kAb kKf L k) k=[.v (.int .i64 0),.v (.string ⟨#[]⟩),.v (.int .i64 0)]:=kEa kAb kKf L k hlt;have h4:=kEb kAb kKf L k hlt;rw[kAb]at h4
  (repeat' (first|apply zS|apply zB|(apply zW;simp only[go_sem,h1,h2,h3,h4,kAb])|apply And.intro|intro _))
  all_goals first|omega|skip
  exact⟨k+1,by omega,by omega,rfl,rfl⟩
 ·have h2:=kA8 kAb kKf L k hk;have h5:filled kAb kKf L k=L.map kAb:=by rw[show k=L.length by omega];exact kD9 _ _ _
  (repeat' (first|apply zS|apply zB|(apply zW;simp only[go_sem,h2,h5])|apply And.intro|intro _))
  all_goals first|omega|skip
end
def kSi:Ctr:=pur (fun args=>(kG6 (aC args 0),kG6 (aC args 1))) (fun x=>[.agg (kAb x.1),.agg (kAb x.2)]) (fun _=>True) (fun _ x=>.v (.bool (decide (x.1=x.2)))) (fun _ _=>[])
theorem qKn:Cn Tryz.prog 240 kSi:=by
 refine Cn.pur Tryz.func240 (by kernel_rfl) rfl fun d x _=>?_
 obtain⟨⟨a0,a1,a2⟩,⟨b0,b1,b2⟩⟩:=x;refine Holds.go (c:=kMk) Tryz.func240 rfl Tryz.results240 Tryz.ntmps240 (by omega) (by simp) rfl ?_
 intro X0 w0;simp only[kAb]
 (repeat' (first|apply zS|apply zB|(apply zW;simp only[go_sem])|apply And.intro|intro _))
 all_goals simp_all
noncomputable def kUc:Cx:={ P:=Tryz.prog,tys:=tys,C:=[(240,kSi)],hty:=kGv,hC:=COk.cons qKn (COk.nil _) }
theorem k8e:kUc.tys=tys:=rfl
theorem k8f:kUc.C=[(240,kSi)]:=rfl
def kPm:Ctr:=pur (fun args=>(kEs (aR args 0),kEs (aR args 1))) (fun x=>[.sl 3 (x.1.map kAb),.sl 3 (x.2.map kAb)]) (fun x=>x.1.length≤4398046511104) (fun _ x=>.v (.bool (decide (x.1=x.2)))) (fun _ _=>[])
section
attribute [local go_sem] k8e k8f kSi kG6
theorem qHd:Cn Tryz.prog 196 kPm:=by
 refine Cn.pur Tryz.func196 (by kernel_rfl) rfl fun d x hL=>?_
 obtain⟨L,M⟩:=x;simp only at hL⊢;refine Holds.go (c:=kUc) Tryz.func196 rfl Tryz.results196 Tryz.ntmps196 (by omega) (by simp) rfl ?_
 intro X0 w0
 (repeat' (first|apply zS|apply zB|(apply zW;simp only[go_sem])|apply And.intro|intro _))
 ·simp;intro h;subst h;simp_all
 have hlen:L.length=M.length:=by omega
 refine zL (fun k:Nat=>⟨[(0,.sl 3 (L.map kAb)),(1,.sl 3 (M.map kAb)),(5,.v (.int .i64 k))],[]⟩) (fun k=>k≤L.length∧L.take k=M.take k) (fun k=>L.length-k) 0 (by simp) ?_ ?_
 ·simp only[go_sem];rfl
 intro k ⟨hk,ht⟩;by_cases hlt:k<L.length
 ·have h1:=kAa kAb L k hlt;have h2:=kAa kAb M k (by omega)
  (repeat' (first|apply zS|apply zB|((first|apply zW| refine zD 10 (by kernel_rfl) (by kernel_rfl) ?_);simp only[go_sem,h1,h2,kAb])|apply And.intro|intro _))
  all_goals first|omega|skip
  ·rename_i hne;rw[show decide (L=M)=false from decide_eq_false fun e=>by subst e;exact hne rfl]
  ·rename_i he;refine⟨k+1,⟨by omega,?_⟩,by omega,rfl⟩
   have he':L[k]=M[k]:=he;rw[List.take_succ_eq_append_getElem hlt,List.take_succ_eq_append_getElem (by omega:k<M.length),ht,he']
 ·(repeat' (first|apply zS|apply zB|(apply zW;simp only[go_sem])|apply And.intro|intro _))
  all_goals first|omega|skip
  rw[show decide (L=M)=true from decide_eq_true ?_]
  rw[show k=L.length by omega,List.take_length,hlen,List.take_length]at ht
  exact ht
end
def kSj:Ctr:=pur (fun args=>(kG6 (aC args 0),aI args 1)) (fun x=>[.agg (kAb x.1),.v (.int .i64 x.2)]) (fun x=>x.1.name.size≤maxLen∧0≤x.2∧x.2≤1048576)
 (fun _ x=>.v (.int .i64 (if x.2-x.1.name.size<0 then -1 else x.2-x.1.name.size))) (fun _ _=>[])
theorem qKo:Cn Tryz.prog 217 kSj:=by
 refine Cn.pur Tryz.func217 (by kernel_rfl) rfl fun d x h=>?_
 obtain⟨x,left⟩:=x;obtain⟨hL,h0,h1⟩:=h;simp only at hL h0 h1⊢;have hm:maxLen=9223372036854775807:=rfl;refine Holds.go (c:=kMk) Tryz.func217 rfl Tryz.results217 Tryz.ntmps217 (by omega) (by simp) rfl ?_
 intro X0 w0;simp only[kAb]
 (repeat' (first|apply zS|apply zB|(apply zW;simp only[go_sem])|apply And.intro|intro _))
 all_goals first|omega|skip
 ·rename_i h;by_cases h5:left-(x.name.size:Int)<0
  ·rw[if_pos h5]
  ·rw[if_neg h5]at h;omega
noncomputable def kUd:Cx:={ P:=Tryz.prog,tys:=tys,C:=[(217,kSj)],hty:=kGv,hC:=COk.cons qKo (COk.nil _) }
theorem k8g:kUd.tys=tys:=rfl
theorem k8h:kUd.C=[(217,kSj)]:=rfl
def kFp (L:List Node):List Nat:=L.map fun x=>x.name.size
def kDo (L:List Node) (left:Int):Int:=if left-L.length<0 then -1 else szGo (kFp L) (left-L.length)
def kPn:Ctr:=pur (fun args=>(kEs (aR args 0),aI args 1)) (fun x=>[.sl 3 (x.1.map kAb),.v (.int .i64 x.2)]) (fun x=>x.1.length≤maxLen∧(∀r∈x.1,r.name.size≤maxLen)∧0≤x.2∧x.2≤1048576)
 (fun _ x=>.v (.int .i64 (kDo x.1 x.2))) (fun _ _=>[])
section
attribute [local go_sem] k8g k8h kSj kG6
theorem qHe:Cn Tryz.prog 148 kPn:=by
 refine Cn.pur Tryz.func148 (by kernel_rfl) rfl fun d x h=>?_
 obtain⟨L,left⟩:=x;obtain⟨hL,hs,h0,h1⟩:=h;simp only at hL hs h0 h1⊢;have hm:maxLen=9223372036854775807:=rfl;refine Holds.go (c:=kUd) Tryz.func148 rfl Tryz.results148 Tryz.ntmps148 (by omega) (by simp) rfl ?_
 intro X0 w0
 (repeat' (first|apply zS|apply zB|(apply zW;simp only[go_sem])|apply And.intro|intro _))
 all_goals first|omega|skip
 ·rename_i h;rw[kDo,if_pos h]
 rename_i hge
 refine zL (fun s:Nat×Int=>⟨[(0,.sl 3 (L.map kAb)),(1,.v (.int .i64 s.2)),(5,.v (.int .i64 s.1))],[]⟩)
  (fun s=>s.1≤L.length∧0≤s.2∧s.2≤1048576∧kDo L left=szGo ((kFp L).drop s.1) s.2) (fun s=>L.length-s.1) (0,left-L.length)
  ⟨by simp,by simpa using hge,by simp only;omega,by rw[kDo,if_neg (by omega)];rfl⟩ ?_ ?_
 ·simp only[go_sem];first|exact⟨rfl,rfl⟩|rfl
 rintro⟨k,r⟩ ⟨hk,hr0,hr1,he⟩;simp only at hk hr0 hr1 he⊢;by_cases hlt:k<L.length
 ·have h2:=kAa kAb L k hlt;have h3:=hs _ (List.getElem_mem hlt)
  have h4:szGo ((kFp L).drop k) r=if r-(L[k].name.size:Int)<0 then -1 else szGo ((kFp L).drop (k+1)) (r-(L[k].name.size:Int)):=by
   rw[kQ6 (kFp L) k r (by simpa[kFp]using hlt)]
   simp only[kFp,List.getElem_map]
  (repeat' (first|apply zS|apply zB|(apply zW;simp only[go_sem,h2,kAb])|apply And.intro|intro _))
  all_goals first|omega|skip
  ·rename_i h
   have h5:r-(L[k].name.size:Int)<0:=by
    refine Int.not_le.1 fun h6=>?_
    rw[if_neg (by omega)]at h
    omega
   rw[he,h4,if_pos h5]
  ·rename_i h
   have h5:¬r-(L[k].name.size:Int)<0:=fun h6=>by
    rw[if_pos h6]at h;omega
   rw[if_neg h5];refine⟨(k+1,r-L[k].name.size),⟨by simp only;omega,by simp only;omega,by simp only;omega,?_⟩,by simp only;omega,rfl,rfl⟩
   rw[he,h4,if_neg h5]
 ·(repeat' (first|apply zS|apply zB|(apply zW;simp only[go_sem])|apply And.intro|intro _))
  all_goals first|omega|skip
  rw[he,List.drop_of_length_le (by simp[kFp];omega)]
  rfl
end
theorem qKp {a b:Node}(h0:a.parent=b.parent) (h1:a.name=b.name) (h2:a.line=b.line):a=b:=by cases a;cases b;simp_all
def kKg (v:Int):Node:=⟨v,markT (v+1),v+1+1⟩
def kAx (k:Int) (n:Nat):List Node:=(List.range n).map fun i:Nat=>kKg (k+3*(i:Int))
theorem kCt (k:Int) (n:Nat):(kAx k n).length=n:=by simp[kAx]
def kEy (L:List Node) (k0:Int) (k:Nat):List Node:=kAx k0 k++L.drop k
theorem k1r (L:List Node) (k0:Int) (k:Nat) (h:k≤L.length):(kEy L k0 k).length=L.length:=by simp[kEy,kCt];omega
theorem k1s (L:List Node) (k0:Int) (k:Nat) (h:k<L.length):((kEy L k0 k).map kAb).set k (kAb (kKg (k0+3*(k:Int))))=(kEy L k0 (k+1)).map kAb:=by
 rw[←List.map_set];congr 1;unfold kEy;rw[List.set_append,if_neg (by simp[kCt]),kCt,Nat.sub_self,List.drop_eq_getElem_cons h,List.set_cons_zero]
 simp[kAx,List.range_succ]
noncomputable def kPo:=mkX [(202,kBd)] (COk.cons kJk (COk.nil _))
theorem k8i:kPo.tys=tys:=rfl
theorem k8j:kPo.C=[(202,kBd)]:=rfl
attribute [local go_sem] k8i k8j kBd
def kLq:Ctr:=len [0] [] (fun args obs=>(kEs (oR obs 1000000),aI args 1)) (fun x=>[.own 1000000,.v (.int .i64 x.2)]) (fun x=>[(1000000,.sl 231 3 (x.1.map kAb))]) (fun x=>x.1.length≤4398046511104∧0≤x.2∧x.2≤500000000000000)
 (fun _ x=>.v (.int .i64 (x.2+3*x.1.length))) (fun _ _=>[]) (fun x=>[(1000000,.sl 231 3 ((kAx x.2 x.1.length).map kAb))])
theorem k8k:Cn Tryz.prog 203 kLq:=by
 refine Cn.len Tryz.func203 (by kernel_rfl) rfl fun d x hd hx=>?_
 obtain⟨L,k0⟩:=x;obtain⟨hL,h0,h1⟩:=hx;simp only at hL h0 h1⊢;refine kBj.go (c:=kPo) Tryz.func203 rfl Tryz.results203 Tryz.ntmps203 (by omega) (by simp) rfl (by simp<;>omega) (by simp[SV.kAv,SV.owns,SV.kAn]) (by simp) rfl rfl (by simp) ?_
 intro X0 M w0
 (repeat' (first|apply zS|apply zB|(apply zW;simp only[go_sem])|apply And.intro|intro _))
 refine zL (fun k:Nat=>⟨[(0,.own 1000000),(1,.v (.int .i64 (k0+3*(k:Int)))),(5,.v (.int .i64 k))],[(1000000,.sl 231 3 ((kEy L k0 k).map kAb))]⟩) (fun k=>k≤L.length) (fun k=>L.length-k) 0 (by omega) ?_ ?_
 ·have e:kEy L k0 0=L:=by simp[kEy,kAx]
  rw[e];(simp only[go_sem]<;>(first|(and_intros<;>rfl)|simp))
 intro k hk;have h2:=k1r L k0 k hk;by_cases hlt:k<L.length
 ·have h3:=k1s L k0 k hlt;rw[kAb,kKg]at h3;simp only at h3;have h4:=kAa kAb (kEy L k0 k) k (by omega)
  have h5:∀r:List SV,Go.Vc.rowAt (((kEy L k0 k).map kAb).set k r) k=r:=fun r=>rowAt_set _ _ _ (by rw[List.length_map];omega)
  (repeat' (first|apply zS|apply zB|(apply zW;simp only[go_sem,h2,h3,h4,h5,kAb,List.set_set,List.length_set])|apply And.intro|intro _))
  all_goals first|omega|skip
  refine⟨k+1,by omega,by omega,⟨?_,rfl⟩,rfl⟩
  rw[show k0+3*(k:Int)+1+1+1=k0+3*((k+1:Nat):Int)by omega]
 ·have h5:kEy L k0 k=kAx k0 L.length:=by rw[show k=L.length by omega];simp[kEy]
  have h6:=kCt k0 L.length
  (repeat' (first|apply zS|apply zB|(apply zW;simp only[go_sem,h2,h5,h6])|apply And.intro|intro _))
  all_goals first|omega|skip
  all_goals rw[show k=L.length by omega]
def kLr:Ctr:=pur (fun args=>(kEs (aR args 0),aI args 1)) (fun x=>[.sl 3 (x.1.map kAb),.v (.int .i64 x.2)]) (fun x=>x.1.length≤4398046511104∧0≤x.2∧x.2≤500000000000000)
 (fun _ x=>.v (.int .i64 (if x.1=kAx x.2 x.1.length then x.2+3*x.1.length else -1))) (fun _ _=>[])
theorem k8l:Cn Tryz.prog 205 kLr:=by
 refine Cn.pur Tryz.func205 (by kernel_rfl) rfl fun d x hx=>?_
 obtain⟨L,k0⟩:=x;obtain⟨hL,h0,h1⟩:=hx;simp only at hL h0 h1⊢;refine Holds.go (c:=kPo) Tryz.func205 rfl Tryz.results205 Tryz.ntmps205 (by omega) (by simp) rfl ?_
 intro X0 w0
 (repeat' (first|apply zS|apply zB|((first|apply zW| refine zd 9 (h:=?_));simp only[go_sem])|apply And.intro|intro _))
 refine zL (fun k:Nat=>⟨[(0,.sl 3 (L.map kAb)),(1,.v (.int .i64 (k0+3*(k:Int)))),(5,.v (.int .i64 k))],[]⟩) (fun k=>k≤L.length∧L.take k=kAx k0 k) (fun k=>L.length-k) 0 (by simp[kAx]) ?_ ?_
 ·(simp only[go_sem]<;>(first|(and_intros<;>rfl)|simp))
 intro k ⟨hk,ht⟩;by_cases hlt:k<L.length
 ·have h3:=kAa kAb L k hlt
  (repeat' (first|apply zS|apply zB|((first|apply zW| refine zd 9 (h:=?_));simp only[go_sem,h3,kAb])|apply And.intro|intro _))
  all_goals first|omega|skip
  ·rename_i hne;rw[if_neg];intro e;have e2:L[k]=(kAx k0 L.length)[k]'(by rw[kCt];exact hlt):=by congr 1
   exact hne (by rw[e2];simp[kAx,kKg])
  ·rename_i hne;rw[if_neg];intro e;have e2:L[k]=(kAx k0 L.length)[k]'(by rw[kCt];exact hlt):=by congr 1
   exact hne (by rw[e2];simp[kAx,kKg])
  ·rename_i hne;rw[if_neg];intro e;have e2:L[k]=(kAx k0 L.length)[k]'(by rw[kCt];exact hlt):=by congr 1
   exact hne (by rw[e2];simp[kAx,kKg])
  ·rename_i g0 g1 g2;refine⟨k+1,⟨by omega,?_⟩,by omega,?_,rfl⟩
   ·have he:L[k]=kKg (k0+3*(k:Int)):=qKp g0 g1 g2;rw[List.take_succ_eq_append_getElem hlt,ht,he];simp[kAx,List.range_succ]
   ·rw[show k0+3*(k:Int)+1+1+1=k0+3*((k+1:Nat):Int)by omega]
 ·(repeat' (first|apply zS|apply zB|((first|apply zW| refine zd 9 (h:=?_));simp only[go_sem])|apply And.intro|intro _))
  all_goals first|omega|skip
  rw[show k=L.length by omega,List.take_length]at ht
  rw[if_pos ht,show k=L.length by omega]
end
end Go.Proofs.YtjdklcjoeanimaaGreat
namespace Go.Proofs.YtjdklcjoeanimaaGreat
def frOk (f:Frame):Bool:=kDw f.name&&decide (0≤f.line)&&decide (f.line≤59)
end Go.Proofs.YtjdklcjoeanimaaGreat

namespace Go.Proofs.YtjdklcjoeanimaaGreat
open Go.Pl
def kMp (x:Node):Frame:=⟨x.name,x.line⟩
def mkNode (p:Int) (f:Frame):Node:=⟨p,f.name,f.line⟩
def kE8 (N:List Node) (k:Nat) (x:Node):Bool:=decide (-1≤x.parent)&&decide (x.parent≤(k:Int)-1)&&frOk (kMp x)&&(N.take k).all fun y=>decide (y≠x)
theorem kLv {N:List Node}{k:Nat}{x:Node}:kE8 N k x=true↔-1≤x.parent∧x.parent≤(k:Int)-1∧frOk (kMp x)=true∧∀y∈N.take k,y≠x:=by
 simp[kE8,and_assoc]
def kD6 (N:List Node):Bool:=decide (∀k (h:k<N.length),kE8 N k N[k]=true)
theorem kTu {N:List Node}(h:kD6 N=true) (k:Nat) (hk:k<N.length):kE8 N k N[k]=true:=by
 unfold kD6 at h;exact of_decide_eq_true h k hk
theorem kMq {N:List Node}{k:Nat}(hk:k<N.length) (h:kE8 N k N[k]=false):kD6 N=false:=by
 cases hs:kD6 N with
 |false=>rfl
 |true=>rw[kTu hs k hk]at h;cases h
theorem kRq {N:List Node}(h:∀k (h:k<N.length),kE8 N k N[k]=true):kD6 N=true:=by
 unfold kD6;exact decide_eq_true h
theorem kVz {N:List Node}{k i:Nat}(hk:k<N.length) (hi:i<k) (h:N[i]'(by omega)=N[k]):kE8 N k N[k]=false:=by
 cases hs:kE8 N k N[k]with
 |false=>rfl
 |true=>exact absurd h ((kLv.1 hs).2.2.2 _ (by
   rw[List.mem_take_iff_getElem];exact⟨i,by omega,rfl⟩))
theorem kZb {N:List Node}{k:Nat}{x:Node}(h1:-1≤x.parent) (h2:x.parent≤(k:Int)-1) (h3:frOk (kMp x)=true) (h4:∀i (hi:i<N.length),i<k→N[i]≠x):kE8 N k x=true:=by
 refine kLv.2 ⟨h1,h2,h3,fun y hy=>?_⟩
 rw[List.mem_take_iff_getElem]at hy;obtain⟨i,hi,rfl⟩:=hy;exact h4 i (by omega) (by omega)
def kI3 (p:Int) (f:Frame) (x:Node):Bool:=decide (x.parent=p)&&decide (kMp x=f)
def child (N:List Node) (p:Int) (f:Frame):Int:=firstIdx (kI3 p f) N
theorem kKl {α:Type}(p:α→Bool) (L:List α):-1≤firstIdx p L∧firstIdx p L<L.length∨firstIdx p L=-1:=by
 unfold firstIdx;split
 ·rename_i i h;have:=(List.findIdx?_eq_some_iff_getElem.1 h).1;left;omega
 ·right;rfl
theorem kN2 (N:List Node) (p:Int) (f:Frame):-1≤child N p f∧child N p f<N.length:=by
 have:=kKl (kI3 p f) N;unfold child;omega
def kDy:List Frame→List Node×Int→List Node×Int
 | [],s=>s
 |f::L,s=>kDy L (if child s.1 s.2 f<0 then(s.1++[mkNode s.2 f],(s.1.length:Int))else(s.1,child s.1 s.2 f))
def intern (N:List Node) (L:List Frame):List Node×Int:=if kD6 N=true∧L≠[]∧L.all frOk=true then kDy L (N,-1)else(N,-1)
theorem kZc:∀(L:List Frame) (s:List Node×Int),s.1.length≤(kDy L s).1.length∧(kDy L s).1.length≤s.1.length+L.length
 | [],s=>by simp[kDy]
 |f::L,s=>by
  have:=kZc L (if child s.1 s.2 f<0 then(s.1++[mkNode s.2 f],(s.1.length:Int))else(s.1,child s.1 s.2 f))
  rw[kDy];simp only[List.length_cons];split at this
  ·rename_i h;rw[if_pos h];simp only[List.length_append,List.length_cons,List.length_nil]at this;omega
  ·rename_i h;rw[if_neg h];simp only at this;omega
theorem k2l:∀(L:List Frame) (s:List Node×Int),(L=[]→0≤s.2∧s.2<s.1.length)→0≤(kDy L s).2∧(kDy L s).2<(kDy L s).1.length
 | [],s,h=>h rfl
 |f::L,s,h=>by
  rw[kDy];refine k2l L _ fun _=>?_
  have:=kN2 s.1 s.2 f;split
  ·simp only[List.length_append,List.length_cons,List.length_nil];omega
  ·simp only;omega
theorem kP0 (N:List Node) (L:List Frame):N.length≤(intern N L).1.length∧(intern N L).1.length≤N.length+L.length:=by
 unfold intern;split
 ·have:=kZc L (N,-1);simpa using this
 ·simp only;omega
theorem kZd (N:List Node) (L:List Frame):(intern N L).2=-1∨(0≤(intern N L).2∧(intern N L).2<(intern N L).1.length):=by
 unfold intern;split
 ·rename_i h;right;exact k2l L (N,-1) fun e=>absurd e h.2.1
 ·left;rfl
theorem kTv {B:Nat}:∀(L:List Frame) (s:List Node×Int),(∀x∈s.1,x.name.size≤B)→(∀f∈L,f.name.size≤B)→∀x∈(kDy L s).1,x.name.size≤B
 | [],s,h,_=>h
 |f::L,s,h,hL=>by
  rw[kDy];refine kTv L _ ?_ fun g hg=>hL g (List.mem_cons_of_mem _ hg)
  split
  ·intro x hx;rcases List.mem_append.1 hx with hx|hx
   ·exact h x hx
   ·simp only[List.mem_cons,List.not_mem_nil,or_false]at hx;subst hx;exact hL f List.mem_cons_self
  ·exact h
theorem kRr {B:Nat}{N:List Node}{L:List Frame}(h:∀x∈N,x.name.size≤B) (hL:∀f∈L,f.name.size≤B):∀x∈(intern N L).1,x.name.size≤B:=by
 unfold intern;split
 ·exact kTv L _ h hL
 ·exact h
def kLw (C:List Int):Bool:=decide (∀k (h:k<C.length),0≤C[k]∧C[k]≤1000000000000-(C.take k).sum)
def kAy (N:List Node) (C:List Int):Bool:=kD6 N&&decide (C.length=N.length)&&kLw C
theorem kKm {C:List Int}(h:kLw C=true) (k:Nat) (hk:k<C.length):0≤C[k]∧C[k]≤1000000000000-(C.take k).sum:=by
 unfold kLw at h;exact of_decide_eq_true h k hk
theorem kMr (C:List Int) (k:Nat) (hk:k<C.length):(C.take (k+1)).sum=(C.take k).sum+C[k]:=by
 rw[List.take_succ_eq_append_getElem hk,List.sum_append];simp
theorem kNm {C:List Int}(h:∀j (hj:j<C.length),0≤C[j]∧C[j]≤1000000000000-(C.take j).sum):∀k,k≤C.length→0≤(C.take k).sum∧(C.take k).sum≤1000000000000
 | 0,_=>by simp
 |k+1,hk=>by
  have ih:=kNm h k (by omega)
  have:=h k (by omega)
  rw[kMr C k (by omega)];omega
theorem kCu {N:List Node}{C:List Int}:kAy N C=true↔kD6 N=true∧C.length=N.length∧kLw C=true:=by
 simp[kAy,and_assoc]
def kI2 (N:List Node) (C:List Int):Int:=if kAy N C=true then C.sum else 0
theorem kG1 {N:List Node}{C:List Int}(h:kAy N C=true) (k:Nat) (hk:k≤C.length):0≤(C.take k).sum∧(C.take k).sum≤1000000000000 :=
 kNm (fun j hj=>kKm (kCu.1 h).2.2 j hj) k hk
def addC (C:List Int) (m:Nat) (k:Nat) (n:Int):List Int:=(C++List.replicate (m-C.length) 0).set k ((C++List.replicate (m-C.length) 0).getD k 0+n)
def kAp (N:List Node) (C:List Int) (L:List Frame) (n:Int):(List Node×List Int)×Bool :=
 if kAy N C=true∧0≤n∧n≤1000000000000∧0≤(intern N L).2∧kAy (intern N L).1 (addC C (intern N L).1.length (intern N L).2.toNat n)=true
 then(((intern N L).1,addC C (intern N L).1.length (intern N L).2.toNat n),true)else((N,C),false)
end Go.Proofs.YtjdklcjoeanimaaGreat

