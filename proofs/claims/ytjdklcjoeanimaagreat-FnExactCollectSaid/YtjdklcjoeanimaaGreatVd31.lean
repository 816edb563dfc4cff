/-
  DERIVED. Several texts of ours in one: VtSeC, VtColC, VcAo, VcRf.
-/
import Derived.Test.YtjdklcjoeanimaaGreatVd2
import Derived.Test.YtjdklcjoeanimaaGreatVd3
import Derived.Test.YtjdklcjoeanimaaGreatVd11
import Derived.Test.YtjdklcjoeanimaaGreatVd15
import Derived.Test.YtjdklcjoeanimaaGreatVd16
import Derived.Test.YtjdklcjoeanimaaGreatVd20
import Derived.Test.YtjdklcjoeanimaaGreatVd27
import Derived.Test.YtjdklcjoeanimaaGreatVd30
set_option linter.unusedSimpArgs false
set_option linter.unusedVariables false
set_option maxHeartbeats 1000000
set_option maxRecDepth 10000
namespace Go.Proofs.YtjdklcjoeanimaaGreat
open Go.Vc
attribute [local irreducible] Go.Vc.WP
attribute [local go_sem] kAd kAe
attribute [local go_sem] kAf kAg spA kBe kBc kBq kCn pcA rgA seA kAj tmA kFa
def kNo (d:Nat) (G:SeX):List SV:=[.own d,.own (d+1000),.own (d+2000),.own (d+3000),.v (.int .i64 G.1.2.2.1),.v (.int .i64 G.1.2.2.2.1),.v (.int .i64 G.1.2.2.2.2),.v (.int .i64 G.2.1.period),.v (.int .i64 G.2.1.spread),.v (.int .i64 G.2.1.left),.v (.int .i64 G.2.1.state),
 .v (.int .i64 G.2.2.1.1),.own (d+4000),.v (.int .i64 G.2.2.1.2.2.1),.v (.int .i64 G.2.2.1.2.2.2),.v (.int .i64 G.2.2.2.1),.v (.int .i64 G.2.2.2.2.1),.v (.int .i64 G.2.2.2.2.2)]
def obS2 (d:Nat) (G:SeX):List (Nat×Ob):=[(d,.dp 144 2 (G.1.1.1.map encImage)),(d+1000,.sl 3 1 (G.1.1.2.1.map encI)),(d+2000,.sl 3 1 (G.1.1.2.2.map encI)),(d+3000,.dp 206 7 (G.1.2.1.map encMach)),(d+4000,.sl 9 1 (G.2.2.1.2.1.map encS))]
def kP4 (x:SeX):Prop:=shPc x.1∧kGy x.2.2.1
def kSv:Ctr:=pur (fun args=>seA args 0) (fun x=>[.agg (aggSe x)]) kP4 (fun d x=>.agg (kNo d x)) (fun d x=>obS2 d x)
section
attribute [local go_sem] aggSe aggPc kNo obS2
attribute [local irreducible] kB5 shPc kGy
noncomputable def k4h:=mkX [(76,kG2),(77,kGi)] (COk.cons ccpPcS (COk.cons qGd (COk.nil _)))
theorem qIy:k4h.tys=tys:=rfl
theorem qIz:k4h.C=[(76,kG2),(77,kGi)]:=rfl
attribute [local go_sem] qIy qIz kG2 kGi
set_option maxHeartbeats 3000000 in
theorem cCpSeS:Cn Tryz.prog 28 kSv:=by
 refine Cn.pur Tryz.func28 (by kernel_rfl) rfl fun d x hx=>?_
 obtain⟨⟨⟨I,B,E⟩,T,tu,le,sl⟩,⟨p,q,l,st⟩,⟨cp,R,wr,lo⟩,mo,sp,fi⟩:=x;obtain⟨h1,h2⟩:=hx;simp only[obS2]at h1 h2⊢;refine Holds.go (c:=k4h) Tryz.func28 rfl Tryz.results28 Tryz.ntmps28 (by omega) (by simp) rfl ?_
 intro X0 w0
 (repeat' (first|apply zS|apply zB|(apply zW;simp only[go_sem])|apply And.intro|intro _))
 all_goals first|omega|exact h1|exact h2|exact⟨_,_,rfl,_,_,rfl,rfl⟩|exact if_neg (by omega)|(rw[if_neg (by omega),if_neg (by omega)];done)|(rw[if_neg (by omega),if_neg (by omega),if_neg (by omega)];done)|(rw[if_neg (by omega),if_neg (by omega),if_neg (by omega),if_neg (by omega)];done)|exact⟨_,_,if_neg (by omega)⟩|exact⟨_,_,by rw[if_neg (by omega),if_neg (by omega)]⟩|skip
noncomputable def k4i:=mkX [(100,kG2),(101,kGi)] (COk.cons ccpPcI (COk.cons qGe (COk.nil _)))
theorem qI0:k4i.tys=tys:=rfl
theorem qI1:k4i.C=[(100,kG2),(101,kGi)]:=rfl
attribute [local go_sem] qI0 qI1 kG2 kGi
set_option maxHeartbeats 3000000 in
theorem cCpSeI:Cn Tryz.prog 43 kSv:=by
 refine Cn.pur Tryz.func43 (by kernel_rfl) rfl fun d x hx=>?_
 obtain⟨⟨⟨I,B,E⟩,T,tu,le,sl⟩,⟨p,q,l,st⟩,⟨cp,R,wr,lo⟩,mo,sp,fi⟩:=x;obtain⟨h1,h2⟩:=hx;simp only[obS2]at h1 h2⊢;refine Holds.go (c:=k4i) Tryz.func43 rfl Tryz.results43 Tryz.ntmps43 (by omega) (by simp) rfl ?_
 intro X0 w0
 (repeat' (first|apply zS|apply zB|(apply zW;simp only[go_sem])|apply And.intro|intro _))
 all_goals first|omega|exact h1|exact h2|exact⟨_,_,rfl,_,_,rfl,rfl⟩|exact if_neg (by omega)|(rw[if_neg (by omega),if_neg (by omega)];done)|(rw[if_neg (by omega),if_neg (by omega),if_neg (by omega)];done)|(rw[if_neg (by omega),if_neg (by omega),if_neg (by omega),if_neg (by omega)];done)|exact⟨_,_,if_neg (by omega)⟩|exact⟨_,_,by rw[if_neg (by omega),if_neg (by omega)]⟩|skip
end
end Go.Proofs.YtjdklcjoeanimaaGreat

namespace Go.Proofs.YtjdklcjoeanimaaGreat
open Go.Vc
abbrev ColX:=AgX×SeX×Rep×Bool
structure ColP (x:ColX):Prop where
 ag:kFj x.1
 inl:kPv x.1
 se:kPy x.2.1
 cs:kP4 x.2.1
 wf:wfR x.2.2.1
 nl:x.2.2.1.N.length≤4398046511104
 cl:x.2.2.1.C.length≤4398046511104
 nr:kE7 x.2.1=true→x.2.2.1.N.length+41943080*x.2.1.2.2.1.2.1.length≤4398046511104
def kV4:List SV:=[.v (.slice none 0 0),.v (.slice none 0 0),.v (.slice none 0 0),.v (.slice none 0 0),.v (.int .i64 0),.v (.int .i64 0),.v (.int .i64 0),.v (.int .i64 0),.v (.int .i64 0),.v (.int .i64 0),.v (.int .i64 0),.v (.int .i64 0),.v (.slice none 0 0),.v (.int .i64 0),.v (.int .i64 0),.v (.int .i64 0),.v (.int .i64 0),.v (.int .i64 0)]
def kV5:List SV:=[.v (.slice none 0 0),.v (.slice none 0 0),.v (.int .i64 0),.v (.int .i64 0)]
def k0f (d:Nat) (r:Rep):List SV:=[.own (d+5000),.own (d+6000),.v (.int .i64 r.kept),.v (.int .i64 r.skip)]
def obRp (d:Nat) (r:Rep):List (Nat×Ob):=[(d+5000,.sl 231 3 (r.N.map kAb)),(d+6000,.sl 3 1 (r.C.map encI))]
def kCol:Ctr:=pur (fun args=>((agA args 0,seA args 1,repA args 2,aB args 3):ColX)) (fun x=>[.agg (aggAg x.1),.agg (aggSe x.2.1),.agg (encRep x.2.2.1),.v (.bool x.2.2.2)]) ColP
 (fun d x=>.tup [.agg (kNo d (collect x.1 x.2.1 x.2.2.1 x.2.2.2).1),.agg (k0f d (collect x.1 x.2.1 x.2.2.1 x.2.2.2).2)]) (fun d x=>obS2 d (collect x.1 x.2.1 x.2.2.1 x.2.2.2).1++obRp d (collect x.1 x.2.1 x.2.2.1 x.2.2.2).2)
theorem kX2 {e s:Nat}(L:List ByteArray):(Ob.sl e s (L.map encS)).isV↔True:=iff_true_intro (by
 intro row hr c hc;obtain⟨n,_,rfl⟩:=List.mem_map.1 hr;simp only[encS,List.mem_cons,List.not_mem_nil,or_false]at hc;exact⟨_,hc⟩)
theorem kX3 {e s:Nat}{rows:List (List SV)}:(Ob.dp e s rows).isV↔True:=iff_true_intro trivial
end Go.Proofs.YtjdklcjoeanimaaGreat

namespace Go.Vc
inductive Tr where
 |done
 |nil
 |br (i:Nat) (s n:Tr)
def aoB (ops:Array Oper):Tr→Nat→Bool→List Nat→Array Bool→Bool
 | .done,_,_,rs,_=>rs.isEmpty
 | .nil,_,fresh,rs,_=>!fresh&&rs.isEmpty
 | .br _ _ _,0,_,_,_=>false
 | .br i s n,f+1,_,rs,listed=>(match rs with
  | []=>false
  |j::tl=>i==j&&aoB ops n (f+1) false tl listed)&&aoB ops s f true (Region.ready .any ops (listed.setIfInBounds i true)) (listed.setIfInBounds i true)
def St.allT (tys:List (Nat×TyD)) (C:List (FuncId×Ctr)) (N:Nat) (ops:Array Oper) (l:List Oper) (K:St→Prop):Tr→St→Prop
 | .done,st=>K st
 | .nil,_=>True
 | .br i s n,st=>(match l[i]? with
  |some o=>st.step tys C N ops o fun st'=>St.allT tys C N ops l K s st'
  |none=>False)∧St.allT tys C N ops l K n st
attribute [go_sem] St.allT
section
variable {c:Cx}{N:Nat}{X0:Nat→Prop}{M:Nat→BV→Prop}{w0:World}{K:Exit→St→Prop}
theorem qDg {l:List Oper}{f:Nat}{listed:Array Bool}{a:Act}{w:World}
  (q1:∀i∈Region.ready .any l.toArray listed,∃g,f=g+1∧wpOp c.P l.toArray (fun e a' w'=>Ok N X0 M w0 (K e) a' w') i (wpAny c.P .any l.toArray (fun e a' w'=>Ok N X0 M w0 (K e) a' w') g (listed.setIfInBounds i true)) a w)
  (q2:Region.ready .any l.toArray listed=[]→Ok N X0 M w0 (K .normal) a w):wpAny c.P .any l.toArray (fun e a' w'=>Ok N X0 M w0 (K e) a' w') f listed a w:=by
 cases f with
 |zero =>
  have hr:Region.ready .any l.toArray listed=[]:=by
   rw[List.eq_nil_iff_forall_not_mem];intro i hi;obtain⟨g,h,_⟩:=q1 i hi;cases h
  exact⟨hr,q2 hr⟩
 |succ g =>
  refine⟨fun hr=>q2 hr,fun i hi=>?_⟩
  obtain⟨g',h,h3⟩:=q1 i hi;obtain rfl:=Nat.succ.inj h;exact h3
theorem qKf (hAp:Ap c.P X0 M w0) {l:List Oper}:∀(t:Tr) (f:Nat) (fresh:Bool) (rs:List Nat) (listed:Array Bool) (st:St) (β:Nat→BV) (a:Act) (w:World),aoB l.toArray t f fresh rs listed=true→Sim N X0 M w0 st β a w→St.allT c.tys c.C N l.toArray l (K .normal) t st →
  (∀i∈rs,∃g,f=g+1∧wpOp c.P l.toArray (fun e a' w'=>Ok N X0 M w0 (K e) a' w') i (wpAny c.P .any l.toArray (fun e a' w'=>Ok N X0 M w0 (K e) a' w') g (listed.setIfInBounds i true)) a w)∧(fresh=true→rs=[]→Ok N X0 M w0 (K .normal) a w):=by
 intro t
 induction t with
 |done =>
  intro f fresh rs listed st β a w hB hs h;have:rs=[]:=by simpa[aoB]using hB
  subst this
  exact⟨fun i hi=>(by cases hi),fun _ _=>⟨st,β,h,hs⟩⟩
 |nil =>
  intro f fresh rs listed st β a w hB hs h;simp only[aoB,Bool.and_eq_true,Bool.not_eq_true',List.isEmpty_iff]at hB;obtain⟨rfl,rfl⟩:=hB
  exact⟨fun i hi=>(by cases hi),fun h=>by cases h⟩
 |br i s n ihs ihn =>
  intro f fresh rs listed st β a w hB hs h
  cases f with
  |zero=>simp[aoB]at hB
  |succ g =>
   cases rs with
   |nil=>simp[aoB]at hB
   |cons j tl =>
    simp only[aoB,Bool.and_eq_true,beq_iff_eq]at hB;obtain⟨⟨rfl,hB1⟩,hB2⟩:=hB;obtain⟨h1,h2⟩:=h;refine⟨fun k hk=>?_,fun _ hr=>by cases hr⟩
    rcases List.mem_cons.1 hk with rfl|hk
    ·refine⟨g,rfl,?_⟩;unfold wpOp;rw[show l.toArray[k]? = l[k]? by simp]
     cases ho:l[k]? with
     |none=>rw[ho]at h1;exact h1.elim
     |some o =>
      rw[ho]at h1;simp only at h1⊢
      have key:∀a' w',Ok N X0 M w0 (fun st'=>St.allT c.tys c.C N l.toArray l (K .normal) s st') a' w'→wpAny c.P .any l.toArray (fun e a' w'=>Ok N X0 M w0 (K e) a' w') g (listed.setIfInBounds k true) a' w':=by
       rintro a' w' ⟨st',β',hk',hs'⟩;obtain⟨q1,q2⟩:=ihs g true _ _ st' β' a' w' hB2 hs' hk';exact qDg q1 (q2 rfl)
      have h3:=kF4 hAp c.hty c.hC hs h1 (Q:=fun e a' w'=>Ok N X0 M w0 (K e) a' w')
      split
      ·rename_i hw;rw[if_pos hw]at h3;exact .inl (Oper.wp_mono key h3)
      ·rename_i hw;rw[if_neg hw]at h3;exact key _ _ h3
    ·exact(ihn (g+1) false tl listed st β a w hB1 hs h2).1 k hk
theorem WP.allO {id:Nat}{l:List Oper}{st:St}(t:Tr) (hB:aoB l.toArray t l.toArray.size true (Region.ready .any l.toArray (Array.replicate l.toArray.size false)) (Array.replicate l.toArray.size false)=true) (hm:c.P.follows .mixedOrders=true)
  (h:St.allT c.tys c.C N l.toArray l (K .normal) t st):WP c N X0 M w0 (.region id l.toArray true) st K:=by
 intro hA β a w hs;have hs':Sim N X0 M w0 st β a { w with drawn:=w.drawn+1 }:=hs.grow ((Go.RowKit.Below.refl _ _).drew) (fun b _ hb=>.inl hb) hs.x0
 obtain⟨q1,q2⟩:=qKf hA t _ true _ _ st β a _ hB hs' h;exact wp_region_any hm (qDg q1 (q2 rfl))
end
end Go.Vc

namespace Go.Vc
def St.fzAt (fz:List (Nat×List Nat)) (i:Nat) (st:St):St:=match lk i fz with
 |some ids=>st.prep ids []
 |none=>st
section
variable {P:Program}{tys:List (Nat×TyD)}{C:List (FuncId×Ctr)}{N:Nat}{X0:Nat→Prop}{M:Nat→BV→Prop}{w0:World}{st:St}{β:Nat→BV}{a:Act}{w:World}
theorem Sim.fzAt (hA:Ap P X0 M w0) (h:Sim N X0 M w0 st β a w) (fz:List (Nat×List Nat)) (i:Nat):∃β',Sim N X0 M w0 (st.fzAt fz i) β' a w:=by
 unfold St.fzAt;split
 ·exact h.prep hA rfl
 ·exact⟨β,h⟩
end
section
variable {c:Cx}{N:Nat}{X0:Nat→Prop}{M:Nat→BV→Prop}{w0:World}{st:St}{K:Exit→St→Prop}
end
end Go.Vc

