/-
  DERIVED. Several texts of ours in one: VtRing, VgEntry, VpEnt, VtStk, VtPrf, VtTot, VtPrL, VtRep.
-/
import Derived.Test.YtjdklcjoeanimaaGreatVd4
import Derived.Test.YtjdklcjoeanimaaGreatVd12
import Derived.Test.YtjdklcjoeanimaaGreatVd19
set_option linter.unusedSimpArgs false
set_option linter.unusedVariables false
set_option maxHeartbeats 1000000
set_option maxRecDepth 10000
namespace Go.Proofs.YtjdklcjoeanimaaGreat
open Go.Vc
attribute [local irreducible] Go.Vc.WP
attribute [local go_sem] kAd kAe
attribute [local go_sem] kBe rgA
def kGy (x:RgX):Prop:=x.2.1.length≤4194304∧sizS x.2.1 x.2.1.length≤1099511627776
def kGi:Ctr:=pur (fun args=>rgA args 0) (fun x=>[.agg [.v (.int .i64 x.1),.sl 1 (x.2.1.map encS),.v (.int .i64 x.2.2.1),.v (.int .i64 x.2.2.2)]]) kGy
 (fun d x=>.agg [.v (.int .i64 x.1),.own d,.v (.int .i64 x.2.2.1),.v (.int .i64 x.2.2.2)]) (fun d x=>[(d,.sl 9 1 (x.2.1.map encS))])
section
noncomputable def qAx:=mkX [] (COk.nil _)
theorem qO2:qAx.tys=tys:=rfl
theorem qO3:qAx.C=[]:=rfl
attribute [local go_sem] qO2 qO3
theorem qGd:Cn Tryz.prog 77 kGi:=by
 refine Cn.pur Tryz.func77 (by kernel_rfl) rfl fun d x hx=>?_
 obtain⟨cp,R,wr,lo⟩:=x;obtain⟨hR,hz⟩:=hx;simp only at hR hz⊢;refine Holds.go (c:=qAx) Tryz.func77 rfl Tryz.results77 Tryz.ntmps77 (by omega) (by simp) rfl ?_
 intro X0 w0
 (repeat' (first|apply zS|apply zB|(apply zW;simp only[go_sem])|apply And.intro|intro _))
 all_goals first|omega|rfl|exact⟨_,_,rfl,_,_,rfl,rfl⟩|(obtain⟨n,_,rfl⟩:=List.mem_map.1 ‹_›;rfl)|skip
noncomputable def qAy:=mkX [] (COk.nil _)
theorem qO4:qAy.tys=tys:=rfl
theorem qO5:qAy.C=[]:=rfl
attribute [local go_sem] qO4 qO5
theorem qGe:Cn Tryz.prog 101 kGi:=by
 refine Cn.pur Tryz.func101 (by kernel_rfl) rfl fun d x hx=>?_
 obtain⟨cp,R,wr,lo⟩:=x;obtain⟨hR,hz⟩:=hx;simp only at hR hz⊢;refine Holds.go (c:=qAy) Tryz.func101 rfl Tryz.results101 Tryz.ntmps101 (by omega) (by simp) rfl ?_
 intro X0 w0
 (repeat' (first|apply zS|apply zB|(apply zW;simp only[go_sem])|apply And.intro|intro _))
 all_goals first|omega|rfl|exact⟨_,_,rfl,_,_,rfl,rfl⟩|(obtain⟨n,_,rfl⟩:=List.mem_map.1 ‹_›;rfl)|skip
end
theorem qEp {cp wr lo:Int}{R:List ByteArray}(h:kE6 (cp,R,wr,lo)=true):(0≤cp∧cp≤100000)∧(sizS R R.length:Int)≤cp∧((R.length:Int)≤wr∧wr≤1000000000000)∧0≤lo∧lo≤1000000000000:=by
 unfold kE6 at h;rw[Bool.and_eq_true]at h;exact of_decide_eq_true h.2
section
attribute [local irreducible] kGy
attribute [local go_sem] kGi kGz kByt
attribute [local go_sem] kGi kGz kByt
end
end Go.Proofs.YtjdklcjoeanimaaGreat

namespace Go.Proofs.YtjdklcjoeanimaaGreat
open Go.Vc
section
open Go.Vc
attribute [local irreducible] Go.Vc.WP
attribute [local go_sem] kAd kAe
end
end Go.Proofs.YtjdklcjoeanimaaGreat
namespace Go.Proofs.YtjdklcjoeanimaaGreat
open Go.Pl
theorem k50 {N:List Node}{C:List Int}{L:List Frame}{n:Int}(h:(kAp N C L n).2=true):kAy (kAp N C L n).1.1 (kAp N C L n).1.2=true:=by
 unfold kAp at h⊢;split
 ·rename_i hh;exact hh.2.2.2.2
 ·rename_i hh;rw[if_neg hh]at h;cases h
theorem kUo (C:List Int) (m k:Nat) (n:Int):(addC C m k n).length=max C.length m:=by
 simp[addC];omega
theorem k2d (N:List Node) (C:List Int) (L:List Frame) (n:Int):(kAp N C L n).1.1.length≤N.length+L.length∧(kAp N C L n).1.2.length≤max C.length (N.length+L.length):=by
 have:=kP0 N L;unfold kAp;split
 ·simp only[kUo];omega
 ·simp only;omega
end Go.Proofs.YtjdklcjoeanimaaGreat

namespace Go.Proofs.YtjdklcjoeanimaaGreat
open Go.Vc
attribute [local irreducible] Go.Vc.WP
attribute [local go_sem] kAd kAe
attribute [local go_sem] kCg kBt
def stkA (args:List SV) (i:Nat):List Node:=match args[i]? with
 |some (.agg [.sl _ rows])=>kEs rows
 | _=>[]
theorem k57 {N:List Node}{k:Nat}{x:Node}(h:frOk (kMp x)=false):kE8 N k x=false:=by
 cases hs:kE8 N k x with
 |false=>rfl
 |true=>rw[(kLv.1 hs).2.2.1]at h;cases h
theorem qCm {N:List Node}{k:Nat}{x:Node}(h:x.parent < -1∨(k:Int)-1<x.parent):kE8 N k x=false:=by
 cases hs:kE8 N k x with
 |false=>rfl
 |true=>have:=kLv.1 hs;omega
def kIu:Ctr:=pur (fun args=>kGe (aC args 0)) (fun f=>[.agg (kAc f)]) (fun f=>f.name.size≤1099511627776) (fun _ f=>.v (.bool (frOk f))) (fun _ _=>[])
section
noncomputable def k43:=mkX [(232,kCp),(68,k60)] (COk.cons kUu (COk.cons c60 (COk.nil _)))
theorem qJx:k43.tys=tys:=rfl
theorem qJy:k43.C=[(232,kCp),(68,k60)]:=rfl
attribute [local go_sem] qJx qJy kCp k60
theorem qGu:Cn Tryz.prog 193 kIu:=by
 refine Cn.pur Tryz.func193 (by kernel_rfl) rfl fun d x hx=>?_
 refine Holds.go (c:=k43) Tryz.func193 rfl Tryz.results193 Tryz.ntmps193 (by omega) (by simp) rfl ?_
 intro X0 w0
 (repeat' (first|apply zS|apply zB|(apply zW;simp only[go_sem,kAc])|apply And.intro|intro _))
 all_goals first|omega|skip
 rw[frOk,Bool.and_assoc]
end
section
noncomputable def k44:=mkX [(219,kCp),(66,k60)] (COk.cons kUv (COk.cons c58 (COk.nil _)))
theorem qJz:k44.tys=tys:=rfl
theorem qJ0:k44.C=[(219,kCp),(66,k60)]:=rfl
attribute [local go_sem] qJz qJ0 kCp k60
theorem qGv:Cn Tryz.prog 166 kIu:=by
 refine Cn.pur Tryz.func166 (by kernel_rfl) rfl fun d x hx=>?_
 refine Holds.go (c:=k44) Tryz.func166 rfl Tryz.results166 Tryz.ntmps166 (by omega) (by simp) rfl ?_
 intro X0 w0
 (repeat' (first|apply zS|apply zB|(apply zW;simp only[go_sem,kAc])|apply And.intro|intro _))
 all_goals first|omega|skip
 rw[frOk,Bool.and_assoc]
end
theorem kCv (a:ByteArray) (b:Int):kGe [.v (.string a),.v (.int .i64 b)]=⟨a,b⟩:=rfl
theorem kCw (p:Int) (a:ByteArray) (b:Int):kG6 [.v (.int .i64 p),.v (.string a),.v (.int .i64 b)]=⟨p,a,b⟩:=rfl
def wfN (N:List Node):Prop:=N.length≤4398046511104∧∀x∈N,x.name.size≤1099511627776
theorem wfN.nm {N:List Node}(h:wfN N) {k:Nat}(hk:k<N.length):N[k].name.size≤1099511627776:=h.2 _ (List.getElem_mem hk)
def kIs:Ctr:=pur (fun args=>stkA args 0) (fun N=>[.agg [.sl 3 (N.map kAb)]]) wfN (fun _ N=>.v (.bool (kD6 N))) (fun _ _=>[])
attribute [local go_sem] stkA kCv kCw
theorem noFr {N:List Node}{k:Nat}(hk:k<N.length) (h:(N[k].parent < -1∨(k:Int)-1<N[k].parent)∨frOk ⟨N[k].name,N[k].line⟩=false):kD6 N=false:=by
 refine kMq hk ?_;rcases h with h|h
 ·exact qCm h
 ·exact k57 h
theorem node_eq {a b:Node}(h:a.parent=b.parent∧a.name=b.name∧a.line=b.line):a=b:=by
 obtain⟨p,n,l⟩:=a;obtain⟨p',n',l'⟩:=b;simp only at h;obtain⟨rfl,rfl,rfl⟩:=h;rfl
theorem k7j {a b:Node}(h:¬a.parent=b.parent∨¬a.name=b.name∨¬a.line=b.line):a≠b:=fun e=>by
 subst e;rcases h with h|h|h<;>exact h rfl
theorem qCn (rows:List (List SV)) {k i:Nat}(h:i<k):Go.Vc.rowAt (rows.take k) i=Go.Vc.rowAt rows i:=by
 unfold Go.Vc.rowAt;rw[List.getElem?_take_of_lt h]
section
noncomputable def k45:=mkX [(166,kIu),(66,k60)] (COk.cons qGv (COk.cons c58 (COk.nil _)))
theorem qJ1:k45.tys=tys:=rfl
theorem qJ2:k45.C=[(166,kIu),(66,k60)]:=rfl
attribute [local go_sem] qJ1 qJ2 kIu k60
theorem qF3:Cn Tryz.prog 158 kIs:=by
 refine Cn.pur Tryz.func158 (by kernel_rfl) rfl fun d x hx=>?_
 rename List Node=>N
 have hN:=hx.1;refine Holds.go (c:=k45) Tryz.func158 rfl Tryz.results158 Tryz.ntmps158 (by omega) (by simp) rfl ?_
 intro X0 w0
 (repeat' (first|apply zS|apply zB|((first|apply zW| refine zd 11 (h:=?_));simp only[go_sem])|apply And.intro|intro _))
 refine zL (fun k:Nat=>⟨[(1,.ptr 1 0 0 0),(3,.v (.int .i64 k))],[(1,.box 61 [.sl 3 (N.map kAb)])]⟩) (fun k=>k≤N.length∧∀j (hj:j<N.length),j<k→kE8 N j N[j]=true) (fun k=>N.length-k) 0 (by simp) ?_ ?_
 ·(simp only[go_sem]<;>(first|(and_intros<;>rfl)|simp))
 intro k ⟨hk,hf⟩;by_cases hlt:k<N.length
 ·have h1:=kAa kAb N k hlt;have hnm:=hx.nm hlt
  (repeat' (first|apply zS|apply zB|((first|apply zW| refine zd 11 (h:=?_));simp only[go_sem,h1,kAb,kAc])|apply And.intro|intro _))
  all_goals first|omega|skip
  ·rename_i h;rw[noFr hlt h]
  rename_i h;refine zL (fun i:Nat=>⟨[(1,.ptr 1 0 0 0),(3,.v (.int .i64 k)),(4,.v (.int .i64 i))],[(1,.box 61 [.sl 3 (N.map kAb)])]⟩) (fun i=>i≤k∧∀j (hj:j<N.length),j<i→N[j]≠N[k]) (fun i=>k-i) 0 (by simp) ?_ ?_
  ·(simp only[go_sem]<;>(first|(and_intros<;>rfl)|simp))
  intro i ⟨hi,hg⟩;by_cases hlt2:i<k
  ·have h2:=kAa kAb N i (by omega)
   (repeat' (first|apply zS|apply zB|((first|apply zW| refine zd 11 (h:=?_));simp only[go_sem,h1,h2,kAb])|apply And.intro|intro _))
   all_goals first|omega|skip
   ·rename_i he;rw[kMq hlt (kVz hlt hlt2 (node_eq he))]
   ·rename_i he;refine⟨i+1,⟨by omega,fun j hj hji=>?_⟩,by omega,by(first|(and_intros<;>rfl)|simp)⟩
    rcases Nat.lt_or_ge j i with hh|hh
    ·exact hg j hj hh
    ·have:j=i:=by omega
     subst this;exact k7j he
  ·(repeat' (first|apply zS|apply zB|((first|apply zW| refine zd 11 (h:=?_));simp only[go_sem])|apply And.intro|intro _))
   all_goals first|omega|skip
   refine⟨k+1,⟨by omega,fun j hj hjk=>?_⟩,by omega,by(first|(and_intros<;>rfl)|simp)⟩
   rcases Nat.lt_or_ge j k with hh|hh
   ·exact hf j hj hh
   ·have:j=k:=by omega
    subst this;exact kZb h.1.1 h.1.2 h.2 fun i hi hij=>hg i hi (by omega)
 ·(repeat' (first|apply zS|apply zB|((first|apply zW| refine zd 11 (h:=?_));simp only[go_sem])|apply And.intro|intro _))
  all_goals first|omega|skip
  rw[kRq fun j hj=>hf j hj (by omega)]
end
section
noncomputable def k46:=mkX [(193,kIu),(68,k60)] (COk.cons qGu (COk.cons c60 (COk.nil _)))
theorem qJ3:k46.tys=tys:=rfl
theorem qJ4:k46.C=[(193,kIu),(68,k60)]:=rfl
attribute [local go_sem] qJ3 qJ4 kIu k60
theorem qF4:Cn Tryz.prog 184 kIs:=by
 refine Cn.pur Tryz.func184 (by kernel_rfl) rfl fun d x hx=>?_
 rename List Node=>N
 have hN:=hx.1;refine Holds.go (c:=k46) Tryz.func184 rfl Tryz.results184 Tryz.ntmps184 (by omega) (by simp) rfl ?_
 intro X0 w0
 (repeat' (first|apply zS|apply zB|(apply zW;simp only[go_sem])|apply And.intro|intro _))
 all_goals first|omega|skip
 refine zL (fun k:Nat=>⟨[(1,.ptr 1 0 0 0),(8,.sl 3 (N.map kAb)),(9,.v (.int .i64 N.length)),(10,.v (.int .i64 k))],[(1,.box 61 [.sl 3 (N.map kAb)])]⟩) (fun k=>k≤N.length∧∀j (hj:j<N.length),j<k→kE8 N j N[j]=true) (fun k=>N.length-k) 0 (by simp) ?_ ?_
 ·(simp only[go_sem]<;>(first|(and_intros<;>rfl)|simp))
 intro k ⟨hk,hf⟩;by_cases hlt:k<N.length
 ·have h1:=kAa kAb N k hlt;have hnm:=hx.nm hlt
  (repeat' (first|apply zS|apply zB|(apply zW;simp only[go_sem,h1,kAb,kAc])|apply And.intro|intro _))
  all_goals first|omega|skip
  ·rename_i h;rw[noFr hlt h]
  rename_i h;have hl:((N.map kAb).take k).length=k:=by rw[List.length_take,List.length_map];omega
  refine zL (fun i:Nat=>⟨[(1,.ptr 1 0 0 0),(4,.ptr 4 0 0 0),(8,.sl 3 (N.map kAb)),(9,.v (.int .i64 N.length)),(10,.v (.int .i64 k)),(30,.sl 3 ((N.map kAb).take k)),(31,.v (.int .i64 k)),(32,.v (.int .i64 i))],[(1,.box 61 [.sl 3 (N.map kAb)]),(4,.box 231 (kAb N[k]))]⟩) (fun i=>i≤k∧∀j (hj:j<N.length),j<i→N[j]≠N[k]) (fun i=>k-i) 0 (by simp) ?_ ?_
  ·(simp only[go_sem,hl,kAb]<;>(first|(and_intros<;>rfl)|simp))
  intro i ⟨hi,hg⟩;by_cases hlt2:i<k
  ·have h2:=kAa kAb N i (by omega)
   have h3:=qCn (N.map kAb) hlt2;rw[h2]at h3
   (repeat' (first|apply zS|apply zB|(apply zW;simp only[go_sem,h1,h3,hl,kAb])|apply And.intro|intro _))
   all_goals first|omega|skip
   ·rename_i he;rw[kMq hlt (kVz hlt hlt2 (node_eq ⟨he.1.symm,he.2.1.symm,he.2.2.symm⟩))]
   ·rename_i he;refine⟨i+1,⟨by omega,fun j hj hji=>?_⟩,by omega,by(first|(and_intros<;>rfl)|simp)⟩
    rcases Nat.lt_or_ge j i with hh|hh
    ·exact hg j hj hh
    ·have:j=i:=by omega
     subst this;exact Ne.symm (k7j he)
  ·(repeat' (first|apply zS|apply zB|(apply zW;simp only[go_sem])|apply And.intro|intro _))
   all_goals first|omega|skip
   refine⟨k+1,⟨by omega,fun j hj hjk=>?_⟩,by omega,by(first|(and_intros<;>rfl)|simp)⟩
   rcases Nat.lt_or_ge j k with hh|hh
   ·exact hf j hj hh
   ·have:j=k:=by omega
    subst this;exact kZb h.1.1 h.1.2 h.2 fun i hi hij=>hg i hi (by omega)
 ·(repeat' (first|apply zS|apply zB|(apply zW;simp only[go_sem])|apply And.intro|intro _))
  all_goals first|omega|skip
  rw[kRq fun j hj=>hf j hj (by omega)]
end
def kOv:Ctr:=pur (fun args=>(stkA args 0,aI args 1,kGe (aC args 2))) (fun x=>[.agg [.sl 3 (x.1.map kAb)],.v (.int .i64 x.2.1),.agg (kAc x.2.2)]) (fun x=>x.1.length≤4398046511104) (fun _ x=>.v (.int .i64 (child x.1 x.2.1 x.2.2))) (fun _ _=>[])
theorem k7k {N:List Node}{p:Int}{f:Frame}{k:Nat}(hk:k<N.length) (hf:∀j (hj:j<N.length),j<k→kI3 p f N[j]=false) (h:N[k].parent=p∧N[k].name=f.name∧N[k].line=f.line):child N p f=k :=
 kEi hk hf (by
  obtain⟨a,b⟩:=f;simp only at h;simp[kI3,kMp,h])
theorem qGw {p:Int}{f:Frame}{x:Node}(h:¬x.parent=p∨¬x.name=f.name∨¬x.line=f.line):kI3 p f x=false:=by
 obtain⟨a,b⟩:=f;simp only at h;simp only[kI3,kMp,Bool.and_eq_false_iff,decide_eq_false_iff_not,Frame.mk.injEq,not_and];rcases h with h|h|h
 ·exact .inl h
 ·exact .inr fun e=>absurd e h
 ·exact .inr fun _=>h
theorem qSq:Cn Tryz.prog 167 kOv:=by
 refine Cn.pur Tryz.func167 (by kernel_rfl) rfl fun d x hx=>?_
 obtain⟨N,p,f⟩:=x;simp only at hx⊢;refine Holds.go (c:=cx0) Tryz.func167 rfl Tryz.results167 Tryz.ntmps167 (by omega) (by simp) rfl ?_
 intro X0 w0
 (repeat' (first|apply zS|apply zB|((first|apply zW| refine zd 18 (h:=?_));simp only[go_sem,kAc])|apply And.intro|intro _))
 all_goals first|omega|skip
 refine zL (fun k:Nat=>⟨[(1,.v (.int .i64 p)),(3,.ptr 3 0 0 0),(5,.ptr 5 0 0 0),(7,.v (.int .i64 k))],[(3,.box 61 [.sl 3 (N.map kAb)]),(5,.box 228 (kAc f))]⟩) (fun k=>k≤N.length∧∀j (hj:j<N.length),j<k→kI3 p f N[j]=false) (fun k=>N.length-k) 0 (by simp) ?_ ?_
 ·(simp only[go_sem,kAc]<;>(first|(and_intros<;>rfl)|simp))
 intro k ⟨hk,hf⟩;by_cases hlt:k<N.length
 ·have h1:=kAa kAb N k hlt
  (repeat' (first|apply zS|apply zB|((first|apply zW| refine zd 18 (h:=?_));simp only[go_sem,h1,kAb,kAc])|apply And.intro|intro _))
  all_goals first|omega|skip
  ·rename_i he;rw[k7k hlt hf he]
  ·rename_i he;refine⟨k+1,⟨by omega,fun j hj hji=>?_⟩,by omega,by(first|(and_intros<;>rfl)|simp)⟩
   rcases Nat.lt_or_ge j k with hh|hh
   ·exact hf j hj hh
   ·have:j=k:=by omega
    subst this;exact qGw he
 ·(repeat' (first|apply zS|apply zB|((first|apply zW| refine zd 18 (h:=?_));simp only[go_sem])|apply And.intro|intro _))
  all_goals first|omega|skip
  rw[show child N p f=-1 from firstIdx_none fun i hi=>hf i hi (by omega)]
theorem qSr:Cn Tryz.prog 194 kOv:=by
 refine Cn.pur Tryz.func194 (by kernel_rfl) rfl fun d x hx=>?_
 obtain⟨N,p,f⟩:=x;simp only at hx⊢;refine Holds.go (c:=cx0) Tryz.func194 rfl Tryz.results194 Tryz.ntmps194 (by omega) (by simp) rfl ?_
 intro X0 w0
 (repeat' (first|apply zS|apply zB|(apply zW;simp only[go_sem,kAc])|apply And.intro|intro _))
 all_goals first|omega|skip
 refine zL (fun k:Nat=>⟨[(1,.v (.int .i64 p)),(5,.ptr 5 0 0 0),(10,.sl 3 (N.map kAb)),(11,.v (.int .i64 N.length)),(12,.v (.int .i64 k))],[(5,.box 228 (kAc f))]⟩) (fun k=>k≤N.length∧∀j (hj:j<N.length),j<k→kI3 p f N[j]=false) (fun k=>N.length-k) 0 (by simp) ?_ ?_
 ·(simp only[go_sem,kAc]<;>(first|(and_intros<;>rfl)|simp))
 intro k ⟨hk,hf⟩;by_cases hlt:k<N.length
 ·have h1:=kAa kAb N k hlt
  (repeat' (first|apply zS|apply zB|(apply zW;simp only[go_sem,h1,kAb,kAc])|apply And.intro|intro _))
  all_goals first|omega|skip
  ·rename_i he;rw[k7k hlt hf he]
  ·rename_i he;refine⟨k+1,⟨by omega,fun j hj hji=>?_⟩,by omega,by(first|(and_intros<;>rfl)|simp)⟩
   rcases Nat.lt_or_ge j k with hh|hh
   ·exact hf j hj hh
   ·have:j=k:=by omega
    subst this;exact qGw he
 ·(repeat' (first|apply zS|apply zB|(apply zW;simp only[go_sem])|apply And.intro|intro _))
  all_goals first|omega|skip
  rw[show child N p f=-1 from firstIdx_none fun i hi=>hf i hi (by omega)]
theorem kJv {N:List Node}{row:List SV}(h:row∈N.map kAb):row.length=3:=by
 obtain⟨x,_,rfl⟩:=List.mem_map.1 h;rfl
theorem rlI {N:List Int}{row:List SV}(h:row∈N.map encI):row.length=1:=by
 obtain⟨x,_,rfl⟩:=List.mem_map.1 h;rfl
def kE2:Ctr:=pur (fun args=>stkA args 0) (fun N=>[.agg [.sl 3 (N.map kAb)]]) (fun N=>N.length≤4398046511104) (fun d _=>.agg [.own d]) (fun d N=>[(d,.sl 231 3 (N.map kAb))])
theorem kZz:Cn Tryz.prog 151 kE2:=by
 refine Cn.pur Tryz.func151 (by kernel_rfl) rfl fun d x hx=>?_
 rename List Node=>N
 refine Holds.go (c:=cx0) Tryz.func151 rfl Tryz.results151 Tryz.ntmps151 (by omega) (by simp) rfl ?_
 intro X0 w0
 (repeat' (first|apply zS|apply zB|(apply zW;simp only[go_sem])|apply And.intro|intro _))
 all_goals first|omega|exact kJv ‹_›|exact⟨_,_,rfl,_,_,rfl,rfl⟩|skip
theorem kZ0:Cn Tryz.prog 177 kE2:=by
 refine Cn.pur Tryz.func177 (by kernel_rfl) rfl fun d x hx=>?_
 rename List Node=>N
 refine Holds.go (c:=cx0) Tryz.func177 rfl Tryz.results177 Tryz.ntmps177 (by omega) (by simp) rfl ?_
 intro X0 w0
 (repeat' (first|apply zS|apply zB|(apply zW;simp only[go_sem])|apply And.intro|intro _))
 all_goals first|omega|exact kJv ‹_›|exact⟨_,_,rfl,_,_,rfl,rfl⟩|skip
end Go.Proofs.YtjdklcjoeanimaaGreat

namespace Go.Proofs.YtjdklcjoeanimaaGreat
open Go.Vc
attribute [local irreducible] Go.Vc.WP
attribute [local go_sem] kAd kAe
def kM0:List Go.Vc.Fp:=[⟨[1],[],[],[5,6],[],[]⟩,⟨[3],[0],[],[5,6],[],[]⟩,⟨[4],[0,1],[],[6],[],[5]⟩,⟨[],[],[],[5],[],[6]⟩,⟨[1],[],[],[5,6],[],[]⟩,⟨[7],[4],[],[5,6],[],[]⟩,⟨[],[0,1,2,3,4,5],[],[],[],[]⟩,⟨[],[0,1,2,3,4,5,6],[],[],[],[]⟩,⟨[],[0,1,2,3,4,5,6,7],[],[],[],[]⟩]
attribute [local go_sem] kM0
attribute [local go_sem] kCg kCd kBt stkA kCv kCw kAf
def prA (args:List SV) (i:Nat):List Node×List Int:=match args[i]? with
 |some (.agg [.sl _ r,.sl _ q])=>(kEs r,decI q)
 | _=>([],[])
attribute [local go_sem] prA
def wfP (x:List Node×List Int):Prop:=(x.1.length≤4398046511104∧∀n∈x.1,n.name.size≤1099511627776)∧x.2.length≤4398046511104
theorem kZx {C:List Int}{k:Nat}(hk:k<C.length) (h:C[k]<0∨1000000000000-(C.take k).sum<C[k]):kLw C=false:=by
 cases hs:kLw C with
 |false=>rfl
 |true=>have:=kKm hs k hk;omega
theorem kWt {N:List Node}{C:List Int}(h:kD6 N=false∨¬(C.length:Int)=N.length∨kLw C=false):kAy N C=false:=by
 cases hs:kAy N C with
 |false=>rfl
 |true =>
  obtain⟨h1,h2,h3⟩:=kCu.1 hs;rcases h with h|h|h
  ·rw[h1]at h;cases h
  ·omega
  ·rw[h3]at h;cases h
theorem kZy {C:List Int}(h:∀j (hj:j<C.length),0≤C[j]∧C[j]≤1000000000000-(C.take j).sum):kLw C=true:=by
 unfold kLw;exact decide_eq_true h
def kEw:Ctr:=pur (fun args=>prA args 0) (fun x=>[.agg [.sl 3 (x.1.map kAb),.sl 1 (x.2.map encI)]]) wfP (fun _ x=>.v (.bool (kAy x.1 x.2))) (fun _ _=>[])
section
noncomputable def k35:=mkX [(158,kIs),(66,k60)] (COk.cons qF3 (COk.cons c58 (COk.nil _)))
theorem qIk:k35.tys=tys:=rfl
theorem qIl:k35.C=[(158,kIs),(66,k60)]:=rfl
attribute [local go_sem] qIk qIl kIs k60
theorem k36:Cn Tryz.prog 84 kEw:=by
 refine Cn.pur Tryz.func84 (by kernel_rfl) rfl fun d x hx=>?_
 obtain⟨N,C⟩:=x;obtain⟨⟨hN,hs⟩,hC⟩:=hx;simp only at hN hs hC⊢;refine Holds.go (c:=k35) Tryz.func84 rfl Tryz.results84 Tryz.ntmps84 (by omega) (by simp) rfl ?_
 intro X0 w0
 (repeat' (first|apply zS|apply zB|(apply zW;simp only[go_sem])|apply And.intro|intro _))
 all_goals first|omega|exact hs _ ‹_›|skip
 ·rename_i h;rw[kWt (h.imp_right .inl)]
 rename_i h
 refine zL (fun k:Nat=>⟨[(1,.ptr 1 0 0 0),(3,.v (.int .i64 (C.take k).sum)),(4,.v (.int .i64 k))],[(1,.box 63 [.sl 3 (N.map kAb),.sl 1 (C.map encI)])]⟩)
  (fun k=>k≤C.length∧∀j (hj:j<C.length),j<k→0≤C[j]∧C[j]≤1000000000000-(C.take j).sum) (fun k=>C.length-k) 0 (by simp) ?_ ?_
 ·(simp only[go_sem]<;>(first|(and_intros<;>rfl)|simp))
 intro k ⟨hk,hf⟩
 have hsum:0≤(C.take k).sum∧(C.take k).sum≤1000000000000:=by
  have:=kNm (C:=C.take k) (fun j hj=>by
   rw[List.length_take]at hj;have:=hf j (by omega) (by omega)
   rw[List.getElem_take,List.take_take,Nat.min_eq_left (by omega)]
   exact this) k (by rw[List.length_take];omega)
  rwa [List.take_take,Nat.min_self]at this
 by_cases hlt:k<C.length
 ·have h1:=kAa encI C k hlt;have h2:=kMr C k hlt
  (repeat' (first|apply zS|apply zB|(apply zW;simp only[go_sem,h1,encI])|apply And.intro|intro _))
  all_goals first|omega|skip
  ·rename_i hb;rw[kWt (.inr (.inr (kZx hlt (by omega))))]
  ·rename_i hb;refine⟨k+1,⟨by omega,fun j hj hjk=>?_⟩,by omega,by rw[h2];(first|(and_intros<;>rfl)|simp)⟩
   rcases Nat.lt_or_ge j k with hh|hh
   ·exact hf j hj hh
   ·have:j=k:=by omega
    subst this;omega
 ·(repeat' (first|apply zS|apply zB|(apply zW;simp only[go_sem])|apply And.intro|intro _))
  all_goals first|omega|skip
  rw[kCu.2 ⟨h.1,by omega,kZy fun j hj=>hf j hj (by omega)⟩]
end
section
noncomputable def k4a:=mkX [(184,kIs),(68,k60)] (COk.cons qF4 (COk.cons c60 (COk.nil _)))
theorem qIm:k4a.tys=tys:=rfl
theorem qIn:k4a.C=[(184,kIs),(68,k60)]:=rfl
attribute [local go_sem] qIm qIn kIs k60
theorem k4b:Cn Tryz.prog 109 kEw:=by
 refine Cn.pur Tryz.func109 (by kernel_rfl) rfl fun d x hx=>?_
 obtain⟨N,C⟩:=x;obtain⟨⟨hN,hs⟩,hC⟩:=hx;simp only at hN hs hC⊢;refine Holds.go (c:=k4a) Tryz.func109 rfl Tryz.results109 Tryz.ntmps109 (by omega) (by simp) rfl ?_
 intro X0 w0
 (repeat' (first|apply zS|apply zB|(apply zW;simp only[go_sem])|apply And.intro|intro _))
 all_goals first|omega|exact hs _ ‹_›|skip
 ·rename_i h;rw[kWt (h.imp_right .inl)]
 rename_i h
 refine zL (fun k:Nat=>⟨[(3,.v (.int .i64 (1000000000000-(C.take k).sum))),(21,.sl 1 (C.map encI)),(22,.v (.int .i64 C.length)),(23,.v (.int .i64 k))],[]⟩)
  (fun k=>k≤C.length∧∀j (hj:j<C.length),j<k→0≤C[j]∧C[j]≤1000000000000-(C.take j).sum) (fun k=>C.length-k) 0 (by simp) ?_ ?_
 ·(simp only[go_sem]<;>(first|(and_intros<;>rfl)|simp))
 intro k ⟨hk,hf⟩
 have hsum:0≤(C.take k).sum∧(C.take k).sum≤1000000000000:=by
  have:=kNm (C:=C.take k) (fun j hj=>by
   rw[List.length_take]at hj;have:=hf j (by omega) (by omega)
   rw[List.getElem_take,List.take_take,Nat.min_eq_left (by omega)]
   exact this) k (by rw[List.length_take];omega)
  rwa [List.take_take,Nat.min_self]at this
 by_cases hlt:k<C.length
 ·have h1:=kAa encI C k hlt;have h2:=kMr C k hlt
  (repeat' (first|apply zS|apply zB|(apply zW;simp only[go_sem,h1,encI])|apply And.intro|intro _))
  all_goals first|omega|skip
  ·rename_i hb;rw[kWt (.inr (.inr (kZx hlt (by omega))))]
  ·rename_i hb;refine⟨k+1,⟨by omega,fun j hj hjk=>?_⟩,by omega,by rw[h2,←Int.sub_sub];(first|(and_intros<;>rfl)|simp)⟩
   rcases Nat.lt_or_ge j k with hh|hh
   ·exact hf j hj hh
   ·have:j=k:=by omega
    subst this;omega
 ·(repeat' (first|apply zS|apply zB|(apply zW;simp only[go_sem])|apply And.intro|intro _))
  all_goals first|omega|skip
  rw[kCu.2 ⟨h.1,by omega,kZy fun j hj=>hf j hj (by omega)⟩]
end
def kEx:Ctr:=pur (fun args=>prA args 0) (fun x=>[.agg [.sl 3 (x.1.map kAb),.sl 1 (x.2.map encI)]]) (fun x=>x.1.length≤4398046511104∧x.2.length≤4398046511104) (fun d _=>.agg [.own d,.own (d+1000)]) (fun d x=>[(d,.sl 231 3 (x.1.map kAb)),(d+1000,.sl 3 1 (x.2.map encI))])
section
noncomputable def qAp:=mkX [(151,kE2)] (COk.cons kZz (COk.nil _))
theorem qOn:qAp.tys=tys:=rfl
theorem qOo:qAp.C=[(151,kE2)]:=rfl
attribute [local go_sem] qOn qOo kE2
theorem k4c:Cn Tryz.prog 78 kEx:=by
 refine Cn.pur Tryz.func78 (by kernel_rfl) rfl fun d x hx=>?_
 obtain⟨N,C⟩:=x;obtain⟨hN,hC⟩:=hx;simp only at hN hC⊢;refine Holds.go (c:=qAp) Tryz.func78 rfl Tryz.results78 Tryz.ntmps78 (by omega) (by simp) rfl ?_
 intro X0 w0
 (repeat' (first|apply zS|apply zB|((first|apply zW| refine zF 6 kM0 [3,4,5,6,7,8] [5,6] [] (by decide +kernel) (by kernel_rfl) (by kernel_rfl) (by kernel_rfl) ?_);simp only[go_sem])|apply And.intro|intro _))
 all_goals first|omega|exact kJv ‹_›|exact rlI ‹_›|exact⟨_,_,_,rfl⟩|exact⟨_,_,rfl,_,_,rfl,rfl⟩|exact if_neg (by omega)|skip
end
section
noncomputable def qAq:=mkX [(177,kE2)] (COk.cons kZ0 (COk.nil _))
theorem qOq:qAq.tys=tys:=rfl
theorem qOr:qAq.C=[(177,kE2)]:=rfl
attribute [local go_sem] qOq qOr kE2
theorem k4d:Cn Tryz.prog 102 kEx:=by
 refine Cn.pur Tryz.func102 (by kernel_rfl) rfl fun d x hx=>?_
 obtain⟨N,C⟩:=x;obtain⟨hN,hC⟩:=hx;simp only at hN hC⊢;refine Holds.go (c:=qAq) Tryz.func102 rfl Tryz.results102 Tryz.ntmps102 (by omega) (by simp) rfl ?_
 intro X0 w0
 (repeat' (first|apply zS|apply zB|((first|apply zW| refine zF 6 kM0 [3,4,5,6,7,8] [5,6] [] (by decide +kernel) (by kernel_rfl) (by kernel_rfl) (by kernel_rfl) ?_);simp only[go_sem])|apply And.intro|intro _))
 all_goals first|omega|exact kJv ‹_›|exact rlI ‹_›|exact⟨_,_,_,rfl⟩|exact⟨_,_,rfl,_,_,rfl,rfl⟩|exact if_neg (by omega)|skip
end
end Go.Proofs.YtjdklcjoeanimaaGreat

namespace Go.Proofs.YtjdklcjoeanimaaGreat
open Go.Vc
attribute [local irreducible] Go.Vc.WP
attribute [local go_sem] kAd kAe
attribute [local go_sem] kCg kCd kBt stkA kCv kCw kAf prA
def kLk:Ctr:=pur (fun args=>prA args 0) (fun x=>[.agg [.sl 3 (x.1.map kAb),.sl 1 (x.2.map encI)]]) wfP (fun _ x=>.v (.int .i64 (kI2 x.1 x.2))) (fun _ _=>[])
section
noncomputable def qCu:=mkX [(109,kEw)] (COk.cons k4b (COk.nil _))
theorem qS4:qCu.tys=tys:=rfl
theorem qS5:qCu.C=[(109,kEw)]:=rfl
attribute [local go_sem] qS4 qS5 kEw
theorem qOw:Cn Tryz.prog 110 kLk:=by
 refine Cn.pur Tryz.func110 (by kernel_rfl) rfl fun d x hx=>?_
 obtain⟨N,C⟩:=x;obtain⟨⟨hN,hs⟩,hC⟩:=hx;simp only at hN hs hC⊢;refine Holds.go (c:=qCu) Tryz.func110 rfl Tryz.results110 Tryz.ntmps110 (by omega) (by simp) rfl ?_
 intro X0 w0
 (repeat' (first|apply zS|apply zB|(apply zW;simp only[go_sem])|apply And.intro|intro _))
 all_goals first|omega|(simp only;omega)|exact hs _ ‹_›|skip
 ·rename_i h;rw[show kI2 N C=0 from if_neg (by rw[h];simp)]
 rename_i hp;have ht:kI2 N C=C.sum:=if_pos hp
 refine zL (fun k:Nat=>⟨[(3,.v (.int .i64 (C.take k).sum)),(10,.sl 1 (C.map encI)),(11,.v (.int .i64 C.length)),(12,.v (.int .i64 k))],[]⟩)
  (fun k=>k≤C.length) (fun k=>C.length-k) 0 (by simp) ?_ ?_
 ·(simp only[go_sem]<;>(first|(and_intros<;>rfl)|simp))
 intro k hk;have hsum:=kG1 hp k hk;by_cases hlt:k<C.length
 ·have h1:=kAa encI C k hlt;have h2:=kMr C k hlt;have h3:=kKm (kCu.1 hp).2.2 k hlt
  (repeat' (first|apply zS|apply zB|(apply zW;simp only[go_sem,h1,encI])|apply And.intro|intro _))
  all_goals first|omega|skip
  exact⟨k+1,by omega,by omega,by rw[h2];(first|(and_intros<;>rfl)|simp)⟩
 ·rw[show k=C.length by omega,List.take_length]
  (repeat' (first|apply zS|apply zB|(apply zW;simp only[go_sem])|apply And.intro|intro _))
  all_goals first|omega|skip
  rw[ht]
end
section
noncomputable def qCv:=mkX [(84,kEw)] (COk.cons k36 (COk.nil _))
theorem qS6:qCv.tys=tys:=rfl
theorem qS7:qCv.C=[(84,kEw)]:=rfl
attribute [local go_sem] qS6 qS7 kEw
theorem qOz:Cn Tryz.prog 85 kLk:=by
 refine Cn.pur Tryz.func85 (by kernel_rfl) rfl fun d x hx=>?_
 obtain⟨N,C⟩:=x;obtain⟨⟨hN,hs⟩,hC⟩:=hx;simp only at hN hs hC⊢;refine Holds.go (c:=qCv) Tryz.func85 rfl Tryz.results85 Tryz.ntmps85 (by omega) (by simp) rfl ?_
 intro X0 w0
 (repeat' (first|apply zS|apply zB|(apply zW;simp only[go_sem])|apply And.intro|intro _))
 all_goals first|omega|(simp only;omega)|exact hs _ ‹_›|skip
 refine zL (fun k:Nat=>⟨[(1,.ptr 1 0 0 0),(3,.v (.int .i64 (C.take k).sum)),(4,.v (.bool (kAy N C))),(5,.v (.int .i64 k))],[(1,.box 63 [.sl 3 (N.map kAb),.sl 1 (C.map encI)])]⟩)
  (fun k=>k≤C.length∧(kAy N C=false→k=0)) (fun k=>C.length-k) 0 (by simp) ?_ ?_
 ·(simp only[go_sem]<;>(first|(and_intros<;>rfl)|simp))
 intro k ⟨hk,hk0⟩
 cases hp:kAy N C with
 |true =>
  have ht:kI2 N C=C.sum:=if_pos hp;have hsum:=kG1 hp k hk;by_cases hlt:k<C.length
  ·have h1:=kAa encI C k hlt;have h2:=kMr C k hlt;have h3:=kKm (kCu.1 hp).2.2 k hlt
   (repeat' (first|apply zS|apply zB|(apply zW;simp only[go_sem,h1,encI])|apply And.intro|intro _))
   all_goals first|omega|skip
   exact⟨k+1,by omega,by omega,by rw[h2];(first|(and_intros<;>rfl)|simp)⟩
  ·rw[show k=C.length by omega,List.take_length]
   (repeat' (first|apply zS|apply zB|(apply zW;simp only[go_sem])|apply And.intro|intro _))
   all_goals first|omega|skip
   rw[ht]
 |false =>
  have ht:kI2 N C=0:=if_neg (by rw[hp];simp)
  rw[hk0 hp]
  (repeat' (first|apply zS|apply zB|(apply zW;simp only[go_sem,ht])|apply And.intro|intro _))
  all_goals first|omega|skip
  all_goals simp
end
end Go.Proofs.YtjdklcjoeanimaaGreat

namespace Go.Proofs.YtjdklcjoeanimaaGreat
open Go.Vc
attribute [local irreducible] Go.Vc.WP
attribute [local go_sem] kAd kAe
attribute [local go_sem] kCg kCd kBt stkA kCv kCw kAf prA kP9
theorem k3v:∀(l:List Nat) (r:Int),0≤r→szGo l r<0→szGo l r=-1
 | [],r,h,h2=>by unfold szGo at h2⊢;omega
 |n::l,r,h,h2=>by
  unfold szGo at h2⊢;split
  ·rfl
  ·rename_i h3;rw[if_neg h3]at h2;exact k3v l _ (by omega) h2
theorem k3w:∀(l:List Nat) (r:Int),-1≤r→szGo l r≤r
 | [],r,h=>Int.le_refl _
 |n::l,r,h=>by
  unfold szGo;split
  ·omega
  ·have:=k3w l (r-n) (by omega)
   omega
theorem k53 {N:List Node}{l:Int}(h0:0≤l) (h:kDo N l<0):kDo N l=-1:=by
 unfold kDo at h⊢;split
 ·rfl
 ·rename_i h2;rw[if_neg h2]at h;exact k3v _ _ (by omega) h
theorem kWo {N:List Node}{l:Int}(h0:0≤l):kDo N l≤l:=by
 unfold kDo;split
 ·omega
 ·have:=k3w (kFp N) (l-N.length) (by omega)
  omega
theorem k54 {N:List Node}{l:Int}(hl:l≤1048576) (h:¬kDo N l<0):N.length≤1048576∧∀x∈N,x.name.size≤1048576:=by
 unfold kDo at h;split at h
 ·omega
 ·rename_i h2;refine⟨by omega,fun x hx=>?_⟩
  have:=kSt (kFp N) _ (by omega) (Int.not_lt.1 h) x.name.size (List.mem_map.2 ⟨x,hx,rfl⟩)
  omega
def kszI:Ctr:=pur (fun args=>(decI (aR args 0),aI args 1)) (fun x=>[.sl 1 (x.1.map encI),.v (.int .i64 x.2)]) (fun x=>x.1.length≤maxLen∧0≤x.2∧x.2≤1048576)
 (fun _ x=>.v (.int .i64 (if x.2-x.1.length<0 then -1 else x.2-x.1.length))) (fun _ _=>[])
section
noncomputable def qAo:=mkX [] (COk.nil _)
theorem qOl:qAo.tys=tys:=rfl
theorem qOm:qAo.C=[]:=rfl
attribute [local go_sem] qOl qOm
theorem cszI:Cn Tryz.prog 71 kszI:=by
 refine Cn.pur Tryz.func71 (by kernel_rfl) rfl fun d x hx=>?_
 obtain⟨L,left⟩:=x;obtain⟨hL,h0,h1⟩:=hx;simp only at hL h0 h1⊢;have hm:maxLen=9223372036854775807:=rfl;refine Holds.go (c:=qAo) Tryz.func71 rfl Tryz.results71 Tryz.ntmps71 (by omega) (by simp) rfl ?_
 intro X0 w0
 (repeat' (first|apply zS|apply zB|(apply zW;simp only[go_sem])|apply And.intro|intro _))
 all_goals first|omega|skip
 ·rename_i h;rw[if_pos h]
 ·rename_i h;rw[if_neg (by omega)]
end
def kWp:Ctr:=pur (fun args=>(stkA args 0,aI args 1)) (fun x=>[.agg [.sl 3 (x.1.map kAb)],.v (.int .i64 x.2)]) (fun x=>x.1.length≤maxLen∧(∀r∈x.1,r.name.size≤maxLen)∧0≤x.2∧x.2≤1048576)
 (fun _ x=>.v (.int .i64 (kDo x.1 x.2))) (fun _ _=>[])
section
noncomputable def kYb:=mkX [(148,kPn)] (COk.cons qHe (COk.nil _))
theorem qFs:kYb.tys=tys:=rfl
theorem qFt:kYb.C=[(148,kPn)]:=rfl
attribute [local go_sem] qFs qFt kPn
theorem cszStk:Cn Tryz.prog 75 kWp:=by
 refine Cn.pur Tryz.func75 (by kernel_rfl) rfl fun d x hx=>?_
 obtain⟨N,left⟩:=x;obtain⟨hN,hs,h0,h1⟩:=hx;simp only at hN hs h0 h1⊢;refine Holds.go (c:=kYb) Tryz.func75 rfl Tryz.results75 Tryz.ntmps75 (by omega) (by simp) rfl ?_
 intro X0 w0
 (repeat' (first|apply zS|apply zB|(apply zW;simp only[go_sem])|apply And.intro|intro _))
 all_goals first|omega|exact hs _ ‹_›|skip
 ·rename_i h;rw[k53 h0 h]
end
def kIq (x:List Node×List Int) (l:Int):Int:=if kDo x.1 l<0 then -1 else if kDo x.1 l-x.2.length<0 then -1 else kDo x.1 l-x.2.length
theorem qFu {x:List Node×List Int}{l:Int}(h:kIq x l<0):kIq x l=-1:=by
 unfold kIq at h⊢;split
 ·rfl
 ·split
  ·rfl
  ·rename_i h1 h2;rw[if_neg h1,if_neg h2]at h;omega
theorem k2i {x:List Node×List Int}{l:Int}(hl:l≤1048576) (h:¬kIq x l<0):(x.1.length≤1048576∧∀n∈x.1,n.name.size≤1048576)∧x.2.length≤1048576:=by
 unfold kIq at h;split at h
 ·omega
 ·rename_i h1;refine⟨k54 hl h1,?_⟩;split at h
  ·omega
  ·by_cases h0:0≤l
   ·have:=kWo (N:=x.1) h0;omega
   ·exfalso;apply h1;unfold kDo;rw[if_pos (by omega)];omega
def wfM (x:List Node×List Int):Prop:=x.1.length≤maxLen∧(∀r∈x.1,r.name.size≤maxLen)∧x.2.length≤maxLen
def k0j:Ctr:=pur (fun args=>(prA args 0,aI args 1)) (fun x=>[.agg [.sl 3 (x.1.1.map kAb),.sl 1 (x.1.2.map encI)],.v (.int .i64 x.2)]) (fun x=>wfM x.1∧0≤x.2∧x.2≤1048576)
 (fun _ x=>.v (.int .i64 (kIq x.1 x.2))) (fun _ _=>[])
section
noncomputable def k3x:=mkX [(75,kWp),(71,kszI)] (COk.cons cszStk (COk.cons cszI (COk.nil _)))
theorem qIb:k3x.tys=tys:=rfl
theorem qIc:k3x.C=[(75,kWp),(71,kszI)]:=rfl
attribute [local go_sem] qIb qIc kWp kszI
theorem cszPr:Cn Tryz.prog 27 k0j:=by
 refine Cn.pur Tryz.func27 (by kernel_rfl) rfl fun d x hx=>?_
 obtain⟨⟨N,C⟩,left⟩:=x;obtain⟨⟨hN,hs,hC⟩,h0,h1⟩:=hx;simp only at hN hs hC h0 h1⊢;have hle:=kWo (N:=N) h0;refine Holds.go (c:=k3x) Tryz.func27 rfl Tryz.results27 Tryz.ntmps27 (by omega) (by simp) rfl ?_
 intro X0 w0
 (repeat' (first|apply zS|apply zB|(apply zW;simp only[go_sem])|apply And.intro|intro _))
 all_goals first|omega|exact hs _ ‹_›|skip
 ·rename_i h;rw[kIq,if_pos h]
 ·rename_i h g;rw[kIq,if_neg (Int.not_lt.2 h)];split
  ·rfl
  ·rename_i h5;have h6:¬(kDo N left-(C.length:Int)<0):=h5;rw[if_neg h6]at g;exact absurd g h6
 ·rename_i h g;rw[kIq,if_neg (Int.not_lt.2 h)]
end
def kWq:Ctr:=pur (fun args=>stkA args 0) (fun N=>[.agg [.sl 3 (N.map kAb)]]) (fun N=>N.length≤2097152) (fun d _=>.agg [.own d]) (fun d N=>[(d,.sl 231 3 (N.map kAb))])
section
noncomputable def kYc:=mkX [(174,kPl)] (COk.cons qHc (COk.nil _))
theorem qFv:kYc.tys=tys:=rfl
theorem qFw:kYc.C=[(174,kPl)]:=rfl
attribute [local go_sem] qFv qFw kPl
theorem ctoStk:Cn Tryz.prog 99 kWq:=by
 refine Cn.pur Tryz.func99 (by kernel_rfl) rfl fun d x hx=>?_
 refine Holds.go (c:=kYc) Tryz.func99 rfl Tryz.results99 Tryz.ntmps99 (by omega) (by simp) rfl ?_
 intro X0 w0
 (repeat' (first|apply zS|apply zB|(apply zW;simp only[go_sem])|apply And.intro|intro _))
 all_goals first|omega|exact⟨_,_,_,rfl⟩|exact⟨_,_,rfl,_,_,rfl,rfl⟩|skip
end
def k0k:Ctr:=pur (fun args=>prA args 0) (fun x=>[.agg [.sl 3 (x.1.map kAb),.sl 1 (x.2.map encI)]]) (fun x=>x.1.length≤2097152∧x.2.length≤2097152) (fun d _=>.agg [.own d,.own (d+1000)]) (fun d x=>[(d,.sl 231 3 (x.1.map kAb)),(d+1000,.sl 3 1 (x.2.map encI))])
section
noncomputable def k3y:=mkX [(99,kWq),(95,k15)] (COk.cons ctoStk (COk.cons c15 (COk.nil _)))
theorem qId:k3y.tys=tys:=rfl
theorem qIe:k3y.C=[(99,kWq),(95,k15)]:=rfl
attribute [local go_sem] qId qIe kWq k15
theorem ctoPr:Cn Tryz.prog 42 k0k:=by
 refine Cn.pur Tryz.func42 (by kernel_rfl) rfl fun d x hx=>?_
 obtain⟨N,C⟩:=x;obtain⟨hN,hC⟩:=hx;simp only at hN hC⊢;refine Holds.go (c:=k3y) Tryz.func42 rfl Tryz.results42 Tryz.ntmps42 (by omega) (by simp) rfl ?_
 intro X0 w0
 (repeat' (first|apply zS|apply zB|(apply zW;simp only[go_sem])|apply And.intro|intro _))
 all_goals first|omega|exact⟨_,_,_,rfl⟩|exact⟨_,_,rfl,_,_,rfl,rfl⟩|(rw[if_neg (by omega)])|skip
end
def kWr:Ctr:=pur (fun args=>(stkA args 0,stkA args 1)) (fun x=>[.agg [.sl 3 (x.1.map kAb)],.agg [.sl 3 (x.2.map kAb)]]) (fun x=>x.1.length≤4398046511104) (fun _ x=>.v (.bool (decide (x.1=x.2)))) (fun _ _=>[])
section
noncomputable def kYd:=mkX [(196,kPm)] (COk.cons qHd (COk.nil _))
theorem qFx:kYd.tys=tys:=rfl
theorem qFy:kYd.C=[(196,kPm)]:=rfl
attribute [local go_sem] qFx qFy kPm
theorem ceqStk:Cn Tryz.prog 122 kWr:=by
 refine Cn.pur Tryz.func122 (by kernel_rfl) rfl fun d x hx=>?_
 obtain⟨N,M⟩:=x;simp only at hx⊢;refine Holds.go (c:=kYd) Tryz.func122 rfl Tryz.results122 Tryz.ntmps122 (by omega) (by simp) rfl ?_
 intro X0 w0
 (repeat' (first|apply zS|apply zB|(apply zW;simp only[go_sem])|apply And.intro|intro _))
 all_goals first|omega|simp_all|skip
end
def kWs:Ctr:=pur (fun args=>(prA args 0,prA args 1)) (fun x=>[.agg [.sl 3 (x.1.1.map kAb),.sl 1 (x.1.2.map encI)],.agg [.sl 3 (x.2.1.map kAb),.sl 1 (x.2.2.map encI)]]) (fun x=>x.1.1.length≤4398046511104∧x.1.2.length≤4398046511104)
 (fun _ x=>.v (.bool (decide (x.1=x.2)))) (fun _ _=>[])
section
noncomputable def k3z:=mkX [(122,kWr),(123,k17)] (COk.cons ceqStk (COk.cons c17 (COk.nil _)))
theorem qIf:k3z.tys=tys:=rfl
theorem qIg:k3z.C=[(122,kWr),(123,k17)]:=rfl
attribute [local go_sem] qIf qIg kWr k17
theorem ceqPr:Cn Tryz.prog 55 kWs:=by
 refine Cn.pur Tryz.func55 (by kernel_rfl) rfl fun d x hx=>?_
 obtain⟨⟨N,C⟩,⟨M,D⟩⟩:=x;simp only at hx⊢;refine Holds.go (c:=k3z) Tryz.func55 rfl Tryz.results55 Tryz.ntmps55 (by omega) (by simp) rfl ?_
 intro X0 w0
 (repeat' (first|apply zS|apply zB|(apply zW;simp only[go_sem])|apply And.intro|intro _))
 all_goals first|omega|simp_all|skip
end
end Go.Proofs.YtjdklcjoeanimaaGreat

namespace Go.Proofs.YtjdklcjoeanimaaGreat
open Go.Vc
attribute [local irreducible] Go.Vc.WP
attribute [local go_sem] kAd kAe
attribute [local go_sem] kCg kCd kBt stkA kCv kCw kAf prA kP9
structure Rep where
 N:List Node
 C:List Int
 kept:Int
 skip:Int
deriving DecidableEq
def encRep (x:Rep):List SV:=[.sl 3 (x.N.map kAb),.sl 1 (x.C.map encI),.v (.int .i64 x.kept),.v (.int .i64 x.skip)]
def repA (args:List SV) (i:Nat):Rep:=match args[i]? with
 |some (.agg [.sl _ r,.sl _ q,.v (.int _ k),.v (.int _ s)])=>⟨kEs r,decI q,k,s⟩
 | _=>⟨[],[],0,0⟩
attribute [local go_sem] repA
def kIb (x:Rep):Bool:=kAy x.N x.C&&(x.kept==kI2 x.N x.C)&&(decide (0≤x.skip)&&decide (x.skip≤1000000000000))
def wfR (x:Rep):Prop:=wfP (x.N,x.C)
def kMv:Ctr:=pur (fun args=>repA args 0) (fun x=>[.agg [.sl 3 (x.N.map kAb),.sl 1 (x.C.map encI),.v (.int .i64 x.kept),.v (.int .i64 x.skip)]]) wfR (fun _ x=>.v (.bool (kIb x))) (fun _ _=>[])
section
noncomputable def qAt:=mkX [(109,kEw),(110,kLk),(68,k60)] (COk.cons k4b (COk.cons qOw (COk.cons c60 (COk.nil _))))
theorem qOx:qAt.tys=tys:=rfl
theorem qOy:qAt.C=[(109,kEw),(110,kLk),(68,k60)]:=rfl
attribute [local go_sem] qOx qOy kEw kLk k60
theorem qL1:Cn Tryz.prog 47 kMv:=by
 refine Cn.pur Tryz.func47 (by kernel_rfl) rfl fun d x hx=>?_
 obtain⟨N,C,kept,sk⟩:=x;obtain⟨⟨hN,hs⟩,hC⟩:=hx;simp only at hN hs hC⊢;refine Holds.go (c:=qAt) Tryz.func47 rfl Tryz.results47 Tryz.ntmps47 (by omega) (by simp) rfl ?_
 intro X0 w0
 (repeat' (first|apply zS|apply zB|((first|apply zW| refine zd 16 (h:=?_));simp only[go_sem])|apply And.intro|intro _))
 all_goals first|omega|exact hs _ ‹_›|skip
 all_goals simp_all [kIb]
end
section
noncomputable def qAu:=mkX [(84,kEw),(85,kLk),(66,k60)] (COk.cons k36 (COk.cons qOz (COk.cons c58 (COk.nil _))))
theorem qO0:qAu.tys=tys:=rfl
theorem qO1:qAu.C=[(84,kEw),(85,kLk),(66,k60)]:=rfl
attribute [local go_sem] qO0 qO1 kEw kLk k60
theorem qMb:Cn Tryz.prog 32 kMv:=by
 refine Cn.pur Tryz.func32 (by kernel_rfl) rfl fun d x hx=>?_
 obtain⟨N,C,kept,sk⟩:=x;obtain⟨⟨hN,hs⟩,hC⟩:=hx;simp only at hN hs hC⊢;refine Holds.go (c:=qAu) Tryz.func32 rfl Tryz.results32 Tryz.ntmps32 (by omega) (by simp) rfl ?_
 intro X0 w0
 (repeat' (first|apply zS|apply zB|((first|apply zW| refine zd 16 (h:=?_));simp only[go_sem])|apply And.intro|intro _))
 all_goals first|omega|exact hs _ ‹_›|skip
 all_goals simp_all [kIb]
end
def kV8:Ctr:=pur (fun args=>(repA args 0,aI args 1)) (fun x=>[.agg [.sl 3 (x.1.N.map kAb),.sl 1 (x.1.C.map encI),.v (.int .i64 x.1.kept),.v (.int .i64 x.1.skip)],.v (.int .i64 x.2)]) (fun x=>wfM (x.1.N,x.1.C)∧0≤x.2∧x.2≤1048576)
 (fun _ x=>.v (.int .i64 (kIq (x.1.N,x.1.C) x.2))) (fun _ _=>[])
section
noncomputable def kYg:=mkX [(27,k0j)] (COk.cons cszPr (COk.nil _))
theorem qF5:kYg.tys=tys:=rfl
theorem qF6:kYg.C=[(27,k0j)]:=rfl
attribute [local go_sem] qF5 qF6 k0j
theorem cszRep:Cn Tryz.prog 7 kV8:=by
 refine Cn.pur Tryz.func7 (by kernel_rfl) rfl fun d x hx=>?_
 obtain⟨⟨N,C,kept,sk⟩,left⟩:=x;obtain⟨⟨hN,hs,hC⟩,h0,h1⟩:=hx;simp only at hN hs hC h0 h1⊢;refine Holds.go (c:=kYg) Tryz.func7 rfl Tryz.results7 Tryz.ntmps7 (by omega) (by simp) rfl ?_
 intro X0 w0
 (repeat' (first|apply zS|apply zB|(apply zW;simp only[go_sem])|apply And.intro|intro _))
 all_goals first|omega|exact hs _ ‹_›|exact⟨hN,hs,hC⟩|skip
 ·rename_i h;rw[qFu h]
end
def kV9:Ctr:=pur (fun args=>repA args 0) (fun x=>[.agg [.sl 3 (x.N.map kAb),.sl 1 (x.C.map encI),.v (.int .i64 x.kept),.v (.int .i64 x.skip)]]) (fun x=>x.N.length≤2097152∧x.C.length≤2097152)
 (fun d x=>.agg [.own d,.own (d+1000),.v (.int .i64 x.kept),.v (.int .i64 x.skip)]) (fun d x=>[(d,.sl 231 3 (x.N.map kAb)),(d+1000,.sl 3 1 (x.C.map encI))])
section
noncomputable def kYh:=mkX [(42,k0k)] (COk.cons ctoPr (COk.nil _))
theorem qF7:kYh.tys=tys:=rfl
theorem qF8:kYh.C=[(42,k0k)]:=rfl
attribute [local go_sem] qF7 qF8 k0k
theorem ctoRep:Cn Tryz.prog 11 kV9:=by
 refine Cn.pur Tryz.func11 (by kernel_rfl) rfl fun d x hx=>?_
 obtain⟨N,C,kept,sk⟩:=x;obtain⟨hN,hC⟩:=hx;simp only at hN hC⊢;refine Holds.go (c:=kYh) Tryz.func11 rfl Tryz.results11 Tryz.ntmps11 (by omega) (by simp) rfl ?_
 intro X0 w0
 (repeat' (first|apply zS|apply zB|(apply zW;simp only[go_sem])|apply And.intro|intro _))
 all_goals first|omega|exact⟨_,_,_,rfl⟩|exact⟨_,_,rfl,_,_,rfl,rfl⟩|(rw[if_neg (by omega)])|skip
end
section
attribute [local go_sem] kWs
end
section
attribute [local go_sem] kV8 kV9 kMv
end
end Go.Proofs.YtjdklcjoeanimaaGreat

