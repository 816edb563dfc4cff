/-
  DERIVED. Several texts of ours in one: VtInlA, VcRo, VcX, VcZ, VtIsS, VtDbg, VtSpaceOk, VtSpaceS, VcFz.
-/
import Derived.Test.YtjdklcjoeanimaaGreatVd3
import Derived.Test.YtjdklcjoeanimaaGreatVd4
import Derived.Test.YtjdklcjoeanimaaGreatVd5
import Derived.Test.YtjdklcjoeanimaaGreatVd6
import Derived.Test.YtjdklcjoeanimaaGreatVd8
import Derived.Test.YtjdklcjoeanimaaGreatVd9
import Derived.Test.YtjdklcjoeanimaaGreatVd10
import Derived.Orders
set_option linter.unusedSimpArgs false
set_option linter.unusedVariables false
set_option maxHeartbeats 1000000
set_option maxRecDepth 10000
namespace Go.Proofs.YtjdklcjoeanimaaGreat
open Go.Vc
attribute [local irreducible] Go.Vc.WP
attribute [local go_sem] kAd kAe
attribute [local go_sem] kCe kH5
theorem kZq (L:List Inline) (o:Int):(kEh L o).length≤L.length:=by
 unfold kEh;split
 ·exact List.length_filter_le ..
 ·simp
def inAt (o:Int) (x:Inline):Bool:=decide (x.start≤o∧o<x.stop)
theorem k3q {L:List Inline}{o:Int}(h:kE5 L=true):kEh L o=L.filter (inAt o):=if_pos h
theorem k3r {L:List Inline}{o:Int}(h:kE5 L=false):kEh L o=[]:=if_neg (by rw[h];simp)
theorem kWh {o:Int}{x:Inline}(h:¬(x.start≤o∧o<x.stop)):inAt o x=false:=decide_eq_false h
theorem qFj {o:Int}{x:Inline}(h1:x.start≤o) (h2:o<x.stop):inAt o x=true:=decide_eq_true ⟨h1,h2⟩
theorem k7c {L:List Inline}{o:Int}{k:Nat}(h:k<L.length) (hp:inAt o L[k]=false):(L.take (k+1)).filter (inAt o)=(L.take k).filter (inAt o):=by
 rw[List.take_succ_eq_append_getElem h,List.filter_append,List.filter_cons_of_neg (by rw[hp];simp),List.filter_nil,List.append_nil]
theorem k3s {L:List Inline}{o:Int}{k:Nat}(h:k<L.length) (hp:inAt o L[k]=true):(L.take (k+1)).filter (inAt o)=(L.take k).filter (inAt o)++[L[k]]:=by
 rw[List.take_succ_eq_append_getElem h,List.filter_append,List.filter_cons_of_pos hp,List.filter_nil]
theorem k7d (L:List Inline) (o:Int) (k:Nat) (hk:k≤L.length):((L.take k).filter (inAt o)).length≤k:=by
 refine Nat.le_trans (List.length_filter_le ..) ?_;rw[List.length_take];omega
section
noncomputable def k96:=mkX [(256,kJa)] (COk.cons qH6 (COk.nil _))
theorem qNp:k96.tys=tys:=rfl
theorem qNq:k96.C=[(256,kJa)]:=rfl
attribute [local go_sem] qNp qNq kJa
theorem qH4:Cn Tryz.prog 226 k7b:=by
 refine Cn.pur Tryz.func226 (by kernel_rfl) rfl fun d x hx=>?_
 obtain⟨L,o⟩:=x;have hpre:=hx;obtain⟨hL,hN⟩:=hx;simp only at hL hN hpre⊢;refine Holds.go (c:=k96) Tryz.func226 rfl Tryz.results226 Tryz.ntmps226 (by omega) (by simp) rfl ?_
 intro X0 w0
 cases hok:kE5 L with
 |false =>
  rw[k3r hok]
  (repeat' (first|apply zS|apply zB|(apply zW;simp only[go_sem,hok])|apply And.intro|intro _))
  all_goals first|omega|exact hpre|exact hN _ ‹_›|exact⟨_,_,rfl⟩|rfl|skip
  refine zL (fun _:Unit=>⟨[(0,.sl 5 (L.map encInline)),(1,.v (.int .i64 o)),(5,.own 8),(6,.v (.bool false)),(7,.v (.int .i64 0))],[(8,.sl 256 5 [])]⟩) (fun _=>True) (fun _=>0) () trivial ?_ ?_
  ·(simp only[go_sem]<;>(first|(and_intros<;>rfl)|simp))
  intro _ _;by_cases hlt:(0:Int)<L.length
  ·(repeat' (first|apply zS|apply zB|(apply zW;simp only[go_sem,hlt])|apply And.intro|intro _))
   all_goals first|omega|rfl|exact hN _ ‹_›|exact⟨_,_,rfl⟩|skip
  ·(repeat' (first|apply zS|apply zB|(apply zW;simp only[go_sem,hlt])|apply And.intro|intro _))
   all_goals first|omega|rfl|exact hN _ ‹_›|exact⟨_,_,rfl⟩|skip
 |true =>
  rw[k3q hok]
  (repeat' (first|apply zS|apply zB|(apply zW;simp only[go_sem,hok])|apply And.intro|intro _))
  all_goals first|omega|exact hpre|exact hN _ ‹_›|exact⟨_,_,rfl⟩|rfl|skip
  refine zL (fun k:Nat=>⟨[(0,.sl 5 (L.map encInline)),(1,.v (.int .i64 o)),(5,.own 8),(6,.v (.bool true)),(7,.v (.int .i64 k))],[(8,.sl 256 5 (((L.take k).filter (inAt o)).map encInline))]⟩) (fun k=>k≤L.length) (fun k=>L.length-k) 0 (by simp) ?_ ?_
  ·(simp only[go_sem]<;>(first|(and_intros<;>rfl)|simp))
  intro k hk;have hfl:=k7d L o k hk;by_cases hlt:k<L.length;rotate_left
  ·have hge:¬(k:Int)<L.length:=by omega
   obtain rfl:k=L.length:=by omega
   rw[List.take_length]at hfl⊢
   (repeat' (first|apply zS|apply zB|(apply zW;simp only[go_sem,hge])|apply And.intro|intro _))
   all_goals first|omega|rfl|exact hN _ ‹_›|exact⟨_,_,rfl⟩|skip
  have hli:(k:Int)<L.length:=by omega
  have hr:=kAa encInline L k hlt;have hy:=k3s (o:=o) hlt;have hn:=k7c (o:=o) hlt;generalize L[k]=x at *;obtain⟨a,b,v,l,s⟩:=x;generalize(L.take k).filter (inAt o)=F at *;by_cases c1:a≤o;rotate_left
  ·have h1:=hn (kWh fun h=>c1 h.1)
   (repeat' (first|apply zS|apply zB|(apply zW;simp only[go_sem,hli,hr,encInline,c1])|apply And.intro|intro _))
   all_goals first|omega|rfl|exact hN _ ‹_›|exact⟨_,_,rfl⟩|exact⟨k+1,by omega,by omega,by rw[h1];(first|(and_intros<;>rfl)|simp)⟩|skip
  by_cases c2:o<b;rotate_left
  ·have h1:=hn (kWh fun h=>c2 h.2)
   (repeat' (first|apply zS|apply zB|(apply zW;simp only[go_sem,hli,hr,encInline,c1,c2])|apply And.intro|intro _))
   all_goals first|omega|rfl|exact hN _ ‹_›|exact⟨_,_,rfl⟩|exact⟨k+1,by omega,by omega,by rw[h1];(first|(and_intros<;>rfl)|simp)⟩|skip
  have h1:=hy (qFj c1 c2)
  (repeat' (first|apply zS|apply zB|(apply zW;simp only[go_sem,hli,hr,encInline,c1,c2])|apply And.intro|intro _))
  all_goals first|omega|rfl|exact hN _ ‹_›|exact⟨_,_,rfl⟩|exact⟨k+1,by omega,by omega,by rw[h1,List.map_append];(first|(and_intros<;>rfl)|simp)⟩|skip
noncomputable def k97:=mkX [(273,kJa)] (COk.cons qH7 (COk.nil _))
theorem qNr:k97.tys=tys:=rfl
theorem qNs:k97.C=[(273,kJa)]:=rfl
attribute [local go_sem] qNr qNs kJa
theorem qH5:Cn Tryz.prog 263 k7b:=by
 refine Cn.pur Tryz.func263 (by kernel_rfl) rfl fun d x hx=>?_
 obtain⟨L,o⟩:=x;have hpre:=hx;obtain⟨hL,hN⟩:=hx;simp only at hL hN hpre⊢;refine Holds.go (c:=k97) Tryz.func263 rfl Tryz.results263 Tryz.ntmps263 (by omega) (by simp) rfl ?_
 intro X0 w0
 cases hok:kE5 L with
 |false =>
  rw[k3r hok]
  (repeat' (first|apply zS|apply zB|(apply zW;simp only[go_sem,hok])|apply And.intro|intro _))
  all_goals first|omega|exact hpre|exact hN _ ‹_›|exact⟨_,_,rfl⟩|rfl|skip
 |true =>
  rw[k3q hok]
  (repeat' (first|apply zS|apply zB|(apply zW;simp only[go_sem,hok])|apply And.intro|intro _))
  all_goals first|omega|exact hpre|exact hN _ ‹_›|exact⟨_,_,rfl⟩|rfl|skip
  refine zL (fun k:Nat=>⟨[(1,.v (.int .i64 o)),(5,.own 11),(12,.sl 5 (L.map encInline)),(13,.v (.int .i64 L.length)),(14,.v (.int .i64 k))],[(11,.sl 256 5 (((L.take k).filter (inAt o)).map encInline))]⟩) (fun k=>k≤L.length) (fun k=>L.length-k) 0 (by simp) ?_ ?_
  ·(simp only[go_sem]<;>(first|(and_intros<;>rfl)|simp))
  intro k hk;have hfl:=k7d L o k hk;by_cases hlt:k<L.length;rotate_left
  ·have hge:¬(k:Int)<L.length:=by omega
   obtain rfl:k=L.length:=by omega
   rw[List.take_length]at hfl⊢
   (repeat' (first|apply zS|apply zB|(apply zW;simp only[go_sem,hge])|apply And.intro|intro _))
   all_goals first|omega|rfl|exact hN _ ‹_›|exact⟨_,_,rfl⟩|skip
  have hli:(k:Int)<L.length:=by omega
  have hr:=kAa encInline L k hlt;have hy:=k3s (o:=o) hlt;have hn:=k7c (o:=o) hlt;generalize L[k]=x at *;obtain⟨a,b,v,l,s⟩:=x;generalize(L.take k).filter (inAt o)=F at *;by_cases c1:a≤o;rotate_left
  ·have h1:=hn (kWh fun h=>c1 h.1)
   (repeat' (first|apply zS|apply zB|(apply zW;simp only[go_sem,hli,hr,encInline,c1])|apply And.intro|intro _))
   all_goals first|omega|rfl|exact hN _ ‹_›|exact⟨_,_,rfl⟩|exact⟨k+1,by omega,by omega,by rw[h1];(first|(and_intros<;>rfl)|simp)⟩|skip
  by_cases c2:o<b;rotate_left
  ·have h1:=hn (kWh fun h=>c2 h.2)
   (repeat' (first|apply zS|apply zB|(apply zW;simp only[go_sem,hli,hr,encInline,c1,c2])|apply And.intro|intro _))
   all_goals first|omega|rfl|exact hN _ ‹_›|exact⟨_,_,rfl⟩|exact⟨k+1,by omega,by omega,by rw[h1];(first|(and_intros<;>rfl)|simp)⟩|skip
  have h1:=hy (qFj c1 c2)
  (repeat' (first|apply zS|apply zB|(apply zW;simp only[go_sem,hli,hr,encInline,c1,c2])|apply And.intro|intro _))
  all_goals first|omega|rfl|exact hN _ ‹_›|exact⟨_,_,rfl⟩|exact⟨k+1,by omega,by omega,by rw[h1,List.map_append];(first|(and_intros<;>rfl)|simp)⟩|skip
end
end Go.Proofs.YtjdklcjoeanimaaGreat

namespace Go.Vc
def St.kIm (tys:List (Nat×TyD)) (C:List (FuncId×Ctr)) (N:Nat) (ops:Array Oper) (o:Oper) (st:St) (K:St→Prop):Prop :=
 match o.guard with
 |none=>st.step tys C N ops o K
 |some (j,want)=>match(ops[j]?).bind (·.dst)with
  |some t=>match kCc want (st.get t)with
   |some false=>kAo N o.dst=true∧K (st.put o.dst (.cond false (offV tys o)))
   | _=>st.step tys C N ops o K
  |none=>False
def St.runO (tys:List (Nat×TyD)) (C:List (FuncId×Ctr)) (N:Nat) (ops:Array Oper):List Oper→St→(St→Prop)→Prop
 | [],st,K=>K st
 |o::l,st,K=>st.kIm tys C N ops o fun st'=>St.runO tys C N ops l st' K
section
variable {P:Program}{tys:List (Nat×TyD)}{C:List (FuncId×Ctr)}{N:Nat}{X0:Nat→Prop}{M:Nat→BV→Prop}{w0:World}{st:St}{β:Nat→BV}{a:Act}{w:World}
theorem qD7 (h:Sim N X0 M w0 st β a w) {ops:Array Oper}{o:Oper}{j t:Nat}{want g:Bool}(hg:o.guard=some (j,want)) (ht:(ops[j]?).bind (·.dst)=some t) (hc:kCc want (st.get t)=some g):Region.wanted o (yielded ops a.tmps)=g:=by
 have hR:R w (XX X0 β st.hp) β (st.get t) (a.eval (.tmp t)):=St.kC6 h (.tmp t)
 have hy:yielded ops a.tmps j=(match a.tmps.getD t undef with|.bool b=>some b|_=>none):=by
  unfold yielded;rw[ht];simp only[Option.bind_some];rw[Array.getD_eq_getD_getElem?]
  cases hq:a.tmps[t]? with
  |none=>rfl
  |some v=>cases v<;>rfl
 simp only[Region.wanted,hg,hy];generalize st.get t=y at hc hR;unfold kCc at hc;split at hc
 ·rename_i b;have hv:a.tmps.getD t undef=.bool b:=hR.kAm;rw[hv];cases hc;cases b<;>cases want<;>rfl
 ·rename_i g' b;cases hc
  cases g' with
  |false =>
   have hv:a.tmps.getD t undef=undef:=hR.kJh rfl
   rw[hv];rfl
  |true =>
   have hv:a.tmps.getD t undef=.bool b:=(hR.kJ6 rfl).kAm;rw[hv];cases b<;>cases want<;>rfl
 ·cases hc
theorem k5u (hA:Ap P X0 M w0) (hty:∀T d,lk T tys=some d→TyOk P T d) (hC:COk P C) (h:Sim N X0 M w0 st β a w) {ops:Array Oper}{o:Oper}{K:St→Prop}(hw:st.kIm tys C N ops o K) {Q:Exit→Act→World→Prop} :
  if Region.wanted o (yielded ops a.tmps)then o.wp P a w (Ok N X0 M w0 K) Q else Ok N X0 M w0 K (a.put o.dst undef) w:=by
 unfold St.kIm at hw
 cases hg:o.guard with
 |none=>rw[hg]at hw;exact kF4 hA hty hC h hw
 |some gw =>
  obtain⟨j,want⟩:=gw;rw[hg]at hw;simp only at hw;split at hw
  case h_2=>exact hw.elim
  case h_1 _ t ht =>
   split at hw
   case h_2=>exact kF4 hA hty hC h hw
   case h_1 _ hc =>
    have hwt:=qD7 h hg ht hc;rw[hwt,if_neg (by simp)]
    obtain⟨hd,hK⟩:=hw
    cases hdd:o.dst with
    |none=>rw[hdd]at hK;exact⟨_,β,hK,h⟩
    |some d=>rw[hdd]at hK hd;exact⟨_,β,hK,h.put (by simpa[kAo]using hd) (.cond (fun hh=>by cases hh) fun _=>rfl)⟩
theorem kO6 (hA:Ap P X0 M w0) (hty:∀T d,lk T tys=some d→TyOk P T d) (hC:COk P C) {ops:Array Oper}{K:St→Prop}{Q:Exit→Act→World→Prop}(hQ:∀a w,Ok N X0 M w0 K a w→Q .normal a w) :
  ∀(l:List Oper) {st:St}{β:Nat→BV}{a:Act}{w:World},Sim N X0 M w0 st β a w→St.runO tys C N ops l st K→wpList P ops Q l a w
 | [],st,β,a,w,h,hw=>hQ a w ⟨st,β,hw,h⟩
 |o::l,st,β,a,w,h,hw=>by
  have h1:=k5u (Q:=Q) hA hty hC h hw;unfold wpList;split
  ·rename_i hwt;rw[if_pos hwt]at h1;exact .inl (Oper.wp_mono (fun a' w' ⟨st',β',h2,h3⟩=>kO6 hA hty hC hQ l h3 h2) h1)
  ·rename_i hwt;rw[if_neg hwt]at h1;obtain⟨st',β',h2,h3⟩:=h1;exact kO6 hA hty hC hQ l h3 h2
end
section
variable {c:Cx}{N:Nat}{X0:Nat→Prop}{M:Nat→BV→Prop}{w0:World}{st:St}{K:Exit→St→Prop}
theorem WP.kL6 {id:Nat}{l:List Oper}(h:St.runO c.tys c.C N l.toArray l st (K .normal)):WP c N X0 M w0 (.region id l.toArray false) st K:=fun hA β a w hs =>
 wp_region_lit (kO6 hA c.hty c.hC (fun a w hk=>hk) l hs h)
end
section
variable {P:Program}{tys:List (Nat×TyD)}{C:List (FuncId×Ctr)}{N:Nat}{X0:Nat→Prop}{M:Nat→BV→Prop}{w0:World}{st:St}{β:Nat→BV}{a:Act}{w:World}
end
section
variable {c:Cx}{N:Nat}{X0:Nat→Prop}{M:Nat→BV→Prop}{w0:World}{st:St}{K:Exit→St→Prop}
end
end Go.Vc

namespace Go.Vc
def St.fzS:St→List Nat→St
 |st,[]=>st
 |st,s::l=>((st.fzL (st.ev (.tmp s)).strip.kEp)).fzS l
theorem Sim.fzS {P:Program}{X0:Nat→Prop}{M:Nat→BV→Prop}{w0:World}{N:Nat}{β:Nat→BV}{a:Act}{w:World}(hA:Ap P X0 M w0):∀(l:List Nat) {st:St},Sim N X0 M w0 st β a w→Sim N X0 M w0 (st.fzS l) β a w
 | [],_,h=>h
 | _::l,_,h=>Sim.fzS hA l (h.fzL hA _)
theorem zZ {c:Cx}{N:Nat}{X0:Nat→Prop}{M:Nat→BV→Prop}{w0:World}{K:Exit→St→Prop}{id:Nat}{l:List Oper}{st:St}(zs:List Nat) (m:Nat) (fl:List Fp) (ds mks gs:List Nat) (hB:kSf l.toArray m fl=true)
  (hD:((List.range m).all fun k=>match kBx l.toArray k with|some d=>ds.contains d|none=>false)=true)
  (hM:((List.range m).all fun k=>((fpAt fl k).mks.all fun d=>mks.contains d)&&((fpAt fl k).gn.all fun d=>gs.contains d))=true) (hm:c.P.follows .mixedOrders=true)
  (h:St.runG c.tys c.C N l.toArray fl ((st.fzS zs).clean ds mks) (l.take m) 0 [] fun acc=>St.runR c.tys c.C N l.toArray (l.drop m) (((st.fzS zs).clean ds mks).final acc gs) (K .normal)):WP c N X0 M w0 (.region id l.toArray true) st K:=by
 intro hA β a w hs;exact zF m fl ds mks gs hB hD hM hm h hA β a w (hs.fzS hA zs)
end Go.Vc

namespace Go.Vc
section
variable {P:Program}{Q:Exit→Act→World→Prop}{s q:Nat}{ops:Array Oper}
def behind (o:Oper) (q:Nat):Oper:={ o with after:=o.after.push ⟨q,.data⟩ }
def addE (s q:Nat) (ops:Array Oper):Array Oper:=ops.modify s fun o=>behind o q
theorem kPa (i:Nat):(addE s q ops)[i]? = (ops[i]?).map fun o=>if i=s then behind o q else o:=by
 unfold addE;rw[Array.getElem?_modify];by_cases h:s=i
 ·rw[if_pos h];subst h;simp
 ·rw[if_neg h];have:¬i=s:=fun e=>h e.symm
  simp[this]
theorem k1g (tmps:Array Value):yielded (addE s q ops) tmps=yielded ops tmps:=by
 funext j;unfold yielded;rw[kPa]
 cases ops[j]? with
 |none=>rfl
 |some o =>
  simp only[Option.map_some,Option.bind_some];by_cases hj:j=s
  ·rw[if_pos hj];rfl
  ·rw[if_neg hj]
theorem kY0 {i:Nat}{K:Act→World→Prop}{a:Act}{w:World}(h:wpOp P (addE s q ops) Q i K a w):wpOp P ops Q i K a w:=by
 unfold wpOp at h⊢;rw[kPa,k1g]at h
 cases ho:ops[i]? with
 |none=>rw[ho]at h;exact h
 |some o =>
  rw[ho]at h;simp only[Option.map_some]at h⊢;by_cases hi:i=s
  ·rw[if_pos hi]at h;exact h
  ·rw[if_neg hi]at h;exact h
theorem kLp {i:Nat}{listed:Array Bool}:i∈Region.ready .any (addE s q ops) listed↔i∈Region.ready .any ops listed∧(i=s→listed.getD q false=true):=by
 rw[kB9,kB9,kPa,show(addE s q ops).size=ops.size by unfold addE;rw[Array.size_modify]]
 constructor
 ·rintro⟨h1,h2,o',ho',h3⟩
  cases ho:ops[i]? with
  |none=>rw[ho]at ho';cases ho'
  |some o =>
   rw[ho]at ho';simp only[Option.map_some,Option.some.injEq]at ho';by_cases hi:i=s
   ·rw[if_pos hi]at ho';subst ho';refine⟨⟨h1,h2,o,rfl,fun e he hb=>h3 e (by unfold behind;simp[he]) hb⟩,fun _=>h3 ⟨q,.data⟩ (by unfold behind;simp) rfl⟩
   ·rw[if_neg hi]at ho';subst ho';exact⟨⟨h1,h2,o,rfl,h3⟩,fun e=>absurd e hi⟩
 ·rintro⟨⟨h1,h2,o,ho,h3⟩,h4⟩;rw[ho];simp only[Option.map_some,Option.some.injEq];refine⟨h1,h2,_,rfl,fun e he hb=>?_⟩
  by_cases hi:i=s
  ·rw[if_pos hi]at he;unfold behind at he;simp only[Array.mem_push]at he;rcases he with he|rfl
   ·exact h3 e he hb
   ·exact h4 hi
  ·rw[if_neg hi]at he;exact h3 e he hb
structure qD9 (ops:Array Oper) (s q:Nat) (oq:Oper):Prop where
 ne:s≠q
 at_q:ops[q]? = some oq
 sel:∀(j:Nat) (o:Oper) cs b,ops[j]? = some o→o.op≠.select cs b
 deps:∀os,ops[s]? = some os→∀e∈oq.after,Region.binds .any e=true→∃e'∈os.after,Region.binds .any e'=true∧e'.on=e.on
 apart:∀j oj,ops[j]? = some oj→j≠q→(∀e∈oq.after,Region.binds .any e=true→e.on≠j)→(∀e∈oj.after,Region.binds .any e=true→e.on≠q)→oq.apart ops oj=true
 guard:oq.guard=none
 pure:∀(a:Act) (w:World) (K:Act→World→Prop) (Q:Exit→Act→World→Prop),(∀e a w,e≠.normal→¬Q e a w)→oq.wp P a w K Q→∃v,(∀w,(execOp a.eval oq).run P w=.ok (.value v) w)∧K (a.put oq.dst v) w
theorem k75 {oq:Oper}(hE:qD9 (P:=P) ops s q oq) (hQ:∀e a w,e≠.normal→¬Q e a w):∀(fuel:Nat) (listed:Array Bool) (a:Act) (w:World),listed.size=ops.size→wpAny P .any (addE s q ops) Q fuel listed a w→wpAny P .any ops Q fuel listed a w:=by
 have hq2:∀{listed:Array Bool},q∈Region.ready .any ops listed→q∈Region.ready .any (addE s q ops) listed:=fun{listed} h=>kLp.2 ⟨h,fun e=>absurd e.symm hE.ne⟩
 have early:∀{listed:Array Bool}{i:Nat},listed.size=ops.size→i∈Region.ready .any ops listed→i∉Region.ready .any (addE s q ops) listed→q∈Region.ready .any ops listed:=fun{listed i} hsz h1 h2=>by
  have his:i=s:=Classical.byContradiction fun hn=>h2 (kLp.2 ⟨h1,fun e=>absurd e hn⟩)
  subst his
  have hql:listed.getD q false=false:=by
   cases hh:listed.getD q false with
   |true=>exact absurd (kLp.2 ⟨h1,fun _=>hh⟩) h2
   |false=>rfl
  obtain⟨g1,g2,os,ho,g3⟩:=kB9.1 h1;have hqs:q<ops.size:=(Array.getElem?_eq_some_iff.1 hE.at_q).1
  have hqt:listed.getD q true=false:=by
   rw[Array.getD_eq_getD_getElem?,Array.getElem?_eq_getElem (by omega)]at hql⊢
   exact hql
  refine kB9.2 ⟨hqs,hqt,oq,hE.at_q,fun e he hb=>?_⟩
  obtain⟨e',he',hb',hon⟩:=hE.deps os ho e he hb;rw[←hon];exact g3 e' he' hb'
 intro fuel
 induction fuel with
 |zero =>
  intro listed a w hsz h;refine⟨?_,h.2⟩;rcases hr:Region.ready .any ops listed with _|⟨i,l⟩
  ·rfl
  ·exfalso;have hi:i∈Region.ready .any ops listed:=by rw[hr];simp
   have hn:∀j,j∉Region.ready .any (addE s q ops) listed:=fun j hj=>by rw[h.1]at hj;cases hj
   exact hn q (hq2 (early hsz hi (hn i)))
 |succ fuel ih =>
  intro listed a w hsz H;by_cases hq:q∈Region.ready .any ops listed
  ·have h1:=kY0 (H.2 q (hq2 hq));unfold wpOp at h1;rw[hE.at_q]at h1;have hw:Region.wanted oq (yielded ops a.tmps)=true:=by simp[Region.wanted,hE.guard]
   simp only[hw,if_true]at h1;rcases h1 with h1|⟨_,x,y,h1⟩
   ·obtain⟨v,hrun,hK⟩:=hE.pure a w _ _ hQ h1
    exact wpAny_first hE.at_q hE.sel (fun c a w h=>absurd h (hQ _ _ _ (by simp))) fuel listed a w (fun j oj hj hne hl hw'=>hE.apart j oj hj hne (fun e he hb hj'=>by
     obtain⟨_,_,o2,ho2,h3⟩:=kB9.1 hq;rw[hE.at_q]at ho2;obtain rfl:=Option.some.inj ho2;have h4:=h3 e he hb;rw[hj']at h4;have hjs:j<ops.size:=(Array.getElem?_eq_some_iff.1 hj).1;rw[Array.getD_eq_getD_getElem?,Array.getElem?_eq_getElem (by omega)]at hl h4
     simp only[Option.getD_some]at hl h4;rw[hl]at h4;cases h4) hw') hq (.inl ⟨hw,hrun⟩) (ih _ _ _ (by simpa using hsz) hK)
   ·exact absurd h1 (hQ _ _ _ (by simp))
  ·refine⟨fun he=>H.1 ?_,fun i hi=>?_⟩
   ·rcases hr:Region.ready .any (addE s q ops) listed with _|⟨i,l⟩
    ·rfl
    ·have hi:i∈Region.ready .any (addE s q ops) listed:=by rw[hr];simp
     have:=(kLp.1 hi).1;rw[he]at this;cases this
   ·have hi':i∈Region.ready .any (addE s q ops) listed:=Classical.byContradiction fun hn=>hq (early hsz hi hn)
    exact wpOp_mono (fun a' w' h=>ih _ _ _ (by simpa using hsz) h) (kY0 (H.2 i hi'))
theorem k1h {oq:Oper}{x:Operand}{i:Nat}(ho:oq.op=.extract x i) (a:Act) (w:World) (K:Act→World→Prop) (Q:Exit→Act→World→Prop) (hQ:∀e a w,e≠.normal→¬Q e a w) (h:oq.wp P a w K Q) :
  ∃v,(∀w,(execOp a.eval oq).run P w=.ok (.value v) w)∧K (a.put oq.dst v) w:=by
 unfold Oper.wp at h
 cases hx:a.eval x with
 |tuple us =>
  cases hu:us[i]? with
  |some v =>
   refine⟨v,fun w=>by simp[execOp,ho,hx,Instr.extract,hu],?_⟩
   simpa[execOp,ho,hx,Instr.extract,hu,Oper.upon]using h
  |none=>simp[execOp,ho,hx,Instr.extract,hu,Oper.upon,stuck]at h
 | _=>simp[execOp,ho,hx,Instr.extract,Oper.upon,stuck]at h
def qEa:Op→Bool
 | .extract _ _=>true
 | _=>false
def k1i:Op→Bool
 | .select _ _=>true
 | _=>false
def k76 (ops:Array Oper) (s q:Nat):Bool:=s != q&&match ops[q]?,ops[s]? with
 |some oq,some os=>qEa oq.op&&oq.guard.isNone &&
  (oq.after.toList.all fun e=>!Region.binds .any e || os.after.toList.any fun e'=>Region.binds .any e'&&e'.on==e.on) &&
  (List.range ops.size).all fun j=>match ops[j]? with
   |some oj=>!k1i oj.op&&(j==q || (oq.after.toList.any fun e=>Region.binds .any e&&e.on==j) || (oj.after.toList.any fun e=>Region.binds .any e&&e.on==q) || oq.apart ops oj)
   |none=>true
 | _,_=>false
theorem qG6 (h:k76 ops s q=true):∃oq,qD9 (P:=P) ops s q oq:=by
 unfold k76 at h;rw[Bool.and_eq_true]at h;obtain⟨h0,h⟩:=h;split at h
 case h_2=>cases h
 case h_1 _ _ oq os hoq hos =>
  simp only[Bool.and_eq_true]at h;obtain⟨⟨⟨h1,h2⟩,h3⟩,h4⟩:=h
  have key:∀j oj,ops[j]? = some oj→k1i oj.op=false∧(j=q∨(∃e∈oq.after,Region.binds .any e=true∧e.on=j)∨(∃e∈oj.after,Region.binds .any e=true∧e.on=q)∨oq.apart ops oj=true):=fun j oj hj=>by
   have:=List.all_eq_true.1 h4 j (List.mem_range.2 (Array.getElem?_eq_some_iff.1 hj).1);rw[hj]at this;simp only[Bool.and_eq_true,Bool.not_eq_true',Bool.or_eq_true,beq_iff_eq,List.any_eq_true,Array.mem_toList_iff]at this;refine⟨this.1,?_⟩;rcases this.2 with((h|h)|h)|h
   ·exact .inl h
   ·exact .inr (.inl h)
   ·exact .inr (.inr (.inl h))
   ·exact .inr (.inr (.inr h))
  refine⟨oq,⟨by simpa using h0,hoq,fun j o cs b hj hsel=>?_,fun os' hos' e he hb=>?_,fun j oj hj hne hd hw=>?_,by simpa using h2,?_⟩⟩
  ·have:=(key j o hj).1;rw[hsel]at this;cases this
  ·obtain rfl:=Option.some.inj (hos.symm.trans hos');have:=List.all_eq_true.1 h3 e (by simpa using he)
   rw[hb]at this;simp only[Bool.not_true,Bool.false_or,List.any_eq_true,Bool.and_eq_true,beq_iff_eq]at this;obtain⟨e',he',h5,h6⟩:=this;exact⟨e',by simpa using he',h5,h6⟩
  ·rcases(key j oj hj).2 with h|⟨e,he,hb,ho⟩|⟨e,he,hb,ho⟩|h
   ·exact absurd h hne
   ·exact absurd ho (hd e he hb)
   ·exact absurd ho (hw e he hb)
   ·exact h
  ·intro a w K Q hQ hh
   cases hop:oq.op with
   |extract x i=>exact k1h hop a w K Q hQ hh
   | _=>rw[hop]at h1;cases h1
theorem upon_Q {o:Oper}{a:Act}{K:Act→World→Prop}{Q' Q:Exit→Act→World→Prop}(h:∀e a w,Q' e a w→Q e a w) {r:Result Next}(hh:o.upon P a K Q' r):o.upon P a K Q r:=by
 cases r with
 |ok n w' =>
  cases n<;>simp only[Oper.upon]at hh⊢<;>first
   |exact hh
   |exact Calls.mono hh fun e w'' he=>by
     cases e with
     |returned v=>exact he
     |panicked c=>exact h _ _ _ he
     |outgrown=>obtain⟨x,y,hxy⟩:=he;exact⟨x,y,h _ _ _ hxy⟩
 |halt x w'=>cases x<;>simp only[Oper.upon]at hh⊢<;>first|exact h _ _ _ hh|exact hh.elim
theorem wpOp_Q {i:Nat}{a:Act}{w:World}{K K':Act→World→Prop}{Q' Q:Exit→Act→World→Prop}(h:∀e a w,Q' e a w→Q e a w) (hK:∀a w,K' a w→K a w) (hh:wpOp P ops Q' i K' a w):wpOp P ops Q i K a w:=by
 have hh:=wpOp_mono hK hh;unfold wpOp at hh⊢;split
 ·rename_i ho;rw[ho]at hh;exact hh
 ·rename_i o ho;rw[ho]at hh;simp only at hh;split
  ·rename_i hw;rw[if_pos hw]at hh;rcases hh with hh|⟨h1,x,y,h2⟩
   ·exact .inl (upon_Q h hh)
   ·exact .inr ⟨h1,x,y,h _ _ _ h2⟩
  ·rename_i hw;rw[if_neg hw]at hh;exact hh
theorem k6q {Q' Q:Exit→Act→World→Prop}(h:∀e a w,Q' e a w→Q e a w):∀(fuel:Nat) (listed:Array Bool) (a:Act) (w:World),wpAny P .any ops Q' fuel listed a w→wpAny P .any ops Q fuel listed a w
 | 0,_,_,_,hh=>⟨hh.1,h _ _ _ hh.2⟩
 |fuel+1,_,_,_,hh=>⟨fun he=>h _ _ _ (hh.1 he),fun i hi=>wpOp_Q h (fun a' w' h'=>k6q h fuel _ a' w' h') (hh.2 i hi)⟩
end
def addL:Nat→Nat→List Oper→List Oper
 | _,_,[]=>[]
 | 0,q,o::l=>behind o q::l
 |s+1,q,o::l=>o::addL s q l
theorem k1j:∀(s q:Nat) (l:List Oper) (i:Nat),(addL s q l)[i]? = (l[i]?).map fun o=>if i=s then behind o q else o
 | _,_,[],i=>by simp[addL]
 | 0,q,o::l,0=>by simp[addL]
 | 0,q,o::l,i+1=>by simp[addL]
 |s+1,q,o::l,0=>by simp[addL]
 |s+1,q,o::l,i+1=>by simp[addL,k1j s q l i]
theorem qG7 (s q:Nat) (l:List Oper):(addL s q l).toArray=addE s q l.toArray:=by
 apply Array.ext_getElem?;intro i;rw[kPa];simp[k1j]
section
variable {c:Cx}{N:Nat}{X0:Nat→Prop}{M:Nat→BV→Prop}{w0:World}{K:Exit→St→Prop}
def onlyN (K:Exit→St→Prop):Exit→St→Prop
 | .normal,st=>K .normal st
 | _,_=>False
theorem WP.kNf {id:Nat}{l:List Oper}{st:St}(s q:Nat) (zs:List Nat) (m:Nat) (fl:List Fp) (ds mks gs:List Nat) (hE:k76 l.toArray s q=true) (hB:kSf (addL s q l).toArray m fl=true)
  (hD:((List.range m).all fun k=>match kBx (addL s q l).toArray k with|some d=>ds.contains d|none=>false)=true)
  (hM:((List.range m).all fun k=>((fpAt fl k).mks.all fun d=>mks.contains d)&&((fpAt fl k).gn.all fun d=>gs.contains d))=true) (hm:c.P.follows .mixedOrders=true)
  (h:St.runG c.tys c.C N (addL s q l).toArray fl ((st.fzS zs).clean ds mks) ((addL s q l).take m) 0 [] fun acc=>St.runR c.tys c.C N (addL s q l).toArray ((addL s q l).drop m) (((st.fzS zs).clean ds mks).final acc gs) (K .normal)):WP c N X0 M w0 (.region id l.toArray true) st K:=by
 intro hA β a w hs0;have hs:=Sim.fzS hA zs hs0;generalize st.fzS zs=st at hs h;have hD0:=k1f hB;obtain⟨F,h1,h2⟩:=kUa _ _ _ (kMg _ _ _ h);have harr:=qG7 s q l
 have hlen:((addL s q l).take m).length=m:=by
  have:=hD0.le;simp at this⊢;omega
 rw[hlen]at h1;simp only[List.nil_append,Nat.zero_add]at h1 h2
 have hcl0:∀t x,lk t (st.clean ds mks).fr=some x→lk t st.fr=some x∧t∉ds∧∀d∈mks,x.kill d=x:=fun t x hx=>by
  obtain⟨e1,e2⟩:=kSe hx;obtain⟨e3,e4⟩:=kSd e1;exact⟨e3,e4,e2⟩
 have hMk:∀k,k<m→(∀d∈(fpAt fl k).mks,d∈mks)∧∀d∈(fpAt fl k).gn,d∈gs:=fun k hk=>by
  have:=List.all_eq_true.1 hM k (List.mem_range.2 hk);simp only[Bool.and_eq_true,List.all_eq_true]at this;exact⟨fun d hd=>List.contains_iff_mem.1 (this.1 d hd),fun d hd=>List.contains_iff_mem.1 (this.2 d hd)⟩
 obtain⟨oq,hEo⟩:=qG6 (P:=c.P) hE;have hsz:(addL s q l).toArray.size=l.toArray.size:=by rw[harr];unfold addE;rw[Array.size_modify]
 refine wp_region_any hm (k6q (Q':=fun e a' w'=>Ok N X0 M w0 (onlyN K e) a' w') (fun e a' w' hk=>?_) _ _ _ _ (k75 hEo (fun e a' w' hne hk=>?_) _ _ _ _ (by simp) ?_))
 ·cases e with
  |normal=>exact hk
  | _=>obtain⟨_,_,hf,_⟩:=hk;exact hf.elim
 ·cases e with
  |normal=>exact hne rfl
  | _=>obtain⟨_,_,hf,_⟩:=hk;exact hf.elim
 rw[←harr,←hsz]
 refine(kYz (c:=c) (K:=onlyN K) hA hD0 (base:=st.clean ds mks) (F:=F) (gs:=gs) (fun k o hk ho=>?_) (fun t x hx=>⟨fun k hk e=>?_,fun k hk d hd=>(hcl0 t x hx).2.2 d ((hMk k hk).1 d hd)⟩) (fun t ob hx k hk d hd=>(kL5 hx).2 d ((hMk k hk).1 d hd)) (fun k hk=>(hMk k hk).2) ?_
  (addL s q l).toArray.size (Array.replicate (addL s q l).toArray.size false) (st.clean ds mks) β a _ (by simp) (fun j _ hj=>?_) ?_ (fun b hb hl=>?_) ?_ (fun t x hx _=>hx) (fun k hk hl=>?_) (fun t ob hx _=>hx) (fun k hk hl=>?_))
 ·have:((addL s q l).take m)[k]? = some o:=by rw[List.getElem?_take_of_lt hk];simpa using ho
  exact h2 k o this
 ·have:=List.all_eq_true.1 hD k (List.mem_range.2 hk);rw[e]at this;exact(hcl0 t x hx).2.1 (List.contains_iff_mem.1 this)
 ·exact h1
 ·rw[Array.getD_eq_getD_getElem?,Array.getElem?_replicate];split<;>rfl
 ·have:(List.range (addL s q l).toArray.size).countP (fun j=>!(Array.replicate (addL s q l).toArray.size false).getD j false)=(List.range (addL s q l).toArray.size).countP (fun _=>true):=by
   apply List.countP_congr;intro j hj;rw[Array.getD_eq_getD_getElem?,Array.getElem?_replicate];split<;>simp
  rw[this];simp
 ·rw[Array.getD_eq_getD_getElem?,Array.getElem?_replicate]at hl;split at hl<;>cases hl
 ·exact(hs.grow ((Go.RowKit.Below.refl _ _).drew) (fun b _ hb=>.inl hb) hs.x0).less (fun t x hx=>(hcl0 t x hx).1) (fun t ob hx=>(kL5 hx).1)
 ·rw[Array.getD_eq_getD_getElem?,Array.getElem?_replicate]at hl;split at hl<;>cases hl
 ·rw[Array.getD_eq_getD_getElem?,Array.getElem?_replicate]at hl;split at hl<;>cases hl
end
end Go.Vc

namespace Go.Proofs.YtjdklcjoeanimaaGreat
open Go.Vc
attribute [local irreducible] Go.Vc.WP
attribute [local go_sem] kAd kAe
attribute [local go_sem] kFg k6r St.fzS addL behind St.runO St.kIm
theorem qFk (L:List Row) (n:Nat):Go.Vc.rowAt (L.map encRow) n=[]∨∃y:Row,Go.Vc.rowAt (L.map encRow) n=encRow y:=by
 by_cases h:n<L.length
 ·exact .inr ⟨_,kAa encRow L n h⟩
 ·left;unfold Go.Vc.rowAt;rw[List.getElem?_eq_none (by simp;omega)];rfl
section
noncomputable def k99:=mkX [(224,kE1)] (COk.cons kZp (COk.nil _))
theorem qNv:k99.tys=tys:=rfl
theorem qNw:k99.C=[(224,kE1)]:=rfl
attribute [local go_sem] qNv qNw kE1
theorem qFg:Cn Tryz.prog 225 kKr:=by
 refine Cn.pur Tryz.func225 (by kernel_rfl) rfl fun d x hx=>?_
 obtain⟨L,o⟩:=x;simp only at hx⊢;refine Holds.go (c:=k99) Tryz.func225 rfl Tryz.results225 Tryz.ntmps225 (by omega) (by simp) rfl ?_
 intro X0 w0;have hb:=kLt L o;have e:kG7 L o=decide (0≤kBa L o∧(L.getD (kBa L o).toNat zRow).offset=o∧(L.getD (kBa L o).toNat zRow).start=true):=rfl;rw[e];generalize hF:kBa L o=F at *;by_cases c0:F≥0;rotate_left
 ·rw[decide_eq_false fun h=>c0 h.1]
  rcases qFk L F.toNat with hr0|⟨y,hr0⟩
  ·have hn0:lk 0 tys=none:=rfl
   (repeat' (first|apply zS|apply zB|((first|refine WP.kL6 (id:=2) ?_);simp only[go_sem,hF,c0,hr0,hn0])|(apply zW;simp only[go_sem,hF,c0,hr0,hn0])|apply And.intro|intro _))
   all_goals first|omega|rfl|skip
  ·(repeat' (first|apply zS|apply zB|(apply zW;simp only[go_sem,hF,c0,hr0,encRow])|apply And.intro|intro _))
   all_goals first|omega|rfl|skip
 obtain⟨k,rfl⟩:∃k:Nat,F=k:=⟨F.toNat,by omega⟩
 have hlt:k<L.length:=by omega
 have hr:=kAa encRow L k hlt;rw[Int.toNat_natCast,kHx hlt];by_cases c1:L[k].offset=o
 ·have e2:decide (0≤(k:Int)∧L[k].offset=o∧L[k].start=true)=L[k].start:=by
   cases L[k].start<;>simp[c1]
  rw[e2]
  (repeat' (first|apply zS|apply zB|(apply zW;simp only[go_sem,hF,c0,hr,encRow,c1])|apply And.intro|intro _))
  all_goals first|omega|rfl|(simp[c1];done)|skip
 ·rw[decide_eq_false fun h=>c1 h.2.1]
  (repeat' (first|apply zS|apply zB|(apply zW;simp only[go_sem,hF,c0,hr,encRow,c1])|apply And.intro|intro _))
  all_goals first|omega|rfl|(simp[c1];done)|skip
noncomputable def qAa:=mkX [(261,kE1)] (COk.cons kZr (COk.nil _))
theorem qNx:qAa.tys=tys:=rfl
theorem qNy:qAa.C=[(261,kE1)]:=rfl
attribute [local go_sem] qNx qNy kE1
theorem qFh:Cn Tryz.prog 262 kKr:=by
 refine Cn.pur Tryz.func262 (by kernel_rfl) rfl fun d x hx=>?_
 obtain⟨L,o⟩:=x;simp only at hx⊢;refine Holds.go (c:=qAa) Tryz.func262 rfl Tryz.results262 Tryz.ntmps262 (by omega) (by simp) rfl ?_
 intro X0 w0;have hb:=kLt L o;have e:kG7 L o=decide (0≤kBa L o∧(L.getD (kBa L o).toNat zRow).offset=o∧(L.getD (kBa L o).toNat zRow).start=true):=rfl;rw[e];generalize hF:kBa L o=F at *;by_cases c0:F≥0;rotate_left
 ·rw[decide_eq_false fun h=>c0 h.1]
  rcases qFk L F.toNat with hr0|⟨y,hr0⟩
  ·have hn0:lk 0 tys=none:=rfl
   (repeat' (first|apply zS|apply zB|((first|refine WP.kL6 (id:=2) ?_);simp only[go_sem,hF,c0,hr0,hn0])|(apply zW;simp only[go_sem,hF,c0,hr0,hn0])|apply And.intro|intro _))
   all_goals first|omega|rfl|skip
  ·(repeat' (first|apply zS|apply zB|(apply zW;simp only[go_sem,hF,c0,hr0,encRow])|apply And.intro|intro _))
   all_goals first|omega|rfl|skip
 obtain⟨k,rfl⟩:∃k:Nat,F=k:=⟨F.toNat,by omega⟩
 have hlt:k<L.length:=by omega
 have hr:=kAa encRow L k hlt;rw[Int.toNat_natCast,kHx hlt];by_cases c1:L[k].offset=o
 ·have e2:decide (0≤(k:Int)∧L[k].offset=o∧L[k].start=true)=L[k].start:=by
   cases L[k].start<;>simp[c1]
  rw[e2]
  (repeat' (first|apply zS|apply zB|(apply zW;simp only[go_sem,hF,c0,hr,encRow,c1])|apply And.intro|intro _))
  all_goals first|omega|rfl|(simp[c1];done)|skip
 ·rw[decide_eq_false fun h=>c1 h.2.1]
  (repeat' (first|apply zS|apply zB|(apply zW;simp only[go_sem,hF,c0,hr,encRow,c1])|apply And.intro|intro _))
  all_goals first|omega|rfl|(simp[c1];done)|skip
end
end Go.Proofs.YtjdklcjoeanimaaGreat

namespace Go.Proofs.YtjdklcjoeanimaaGreat
open Go.Vc
attribute [local irreducible] Go.Vc.WP
attribute [local go_sem] kAd kAe
attribute [local go_sem] kAf kAg spA kAj imgA kFh kBl
def kLg:Ctr:=pur (fun args=>imgA args 0) (fun x=>[.agg [.v (.string x.1),.sl 3 (x.2.map encSymbol)]]) (fun x=>x.1.size≤4194304) (fun _ x=>.v (.int .i64 (kH9 x.1))) (fun _ _=>[])
section
noncomputable def kSx:=mkX [] (COk.nil _)
theorem qE7:kSx.tys=tys:=rfl
theorem qE8:kSx.C=[]:=rfl
attribute [local go_sem] qE7 qE8
theorem qMd:Cn Tryz.prog 180 kLg:=by
 refine Cn.pur Tryz.func180 (by kernel_rfl) rfl fun d x hx=>?_
 obtain⟨s,Y⟩:=x;simp only at hx⊢;refine Holds.go (c:=kSx) Tryz.func180 rfl Tryz.results180 Tryz.ntmps180 (by omega) (by simp) rfl ?_
 intro X0 w0
 (repeat' (first|apply zS|apply zB|(apply zW;simp only[go_sem])|apply And.intro|intro _))
 all_goals first|omega|skip
 refine zL (fun k:Nat=>⟨[(1,.ptr 1 0 0 0),(3,.v (.int .i64 (idUp s k))),(4,.v (.int .i64 k))],[(1,.box 144 [.v (.string s),.sl 3 (Y.map encSymbol)])]⟩) (fun k=>k≤s.size) (fun k=>s.size-k) 0 (by omega) ?_ ?_
 ·have h0:idUp s 0=7:=rfl
  (simp only[go_sem,h0]<;>(first|(and_intros<;>rfl)|simp))
 intro k hk;by_cases hlt:k<s.size
 ·have hli:(k:Int)<s.size:=by omega
  have hb:=kXq s k;have hc:(s[k]!).toNat<256:=UInt8.toNat_lt _;have hn:idUp s (k+1)=(idUp s k*257+((s[k]!).toNat:Int)+1).tmod 1000000007:=rfl;generalize idUp s k=u at *
  (repeat' (first|apply zS|apply zB|(apply zW;simp only[go_sem,hli])|apply And.intro|intro _))
  all_goals first|omega|exact⟨k+1,by omega,by omega,by rw[hn];(first|(and_intros<;>rfl)|simp)⟩|skip
 ·have hge:¬(k:Int)<s.size:=by omega
  obtain rfl:k=s.size:=by omega
  have e:kH9 s=idUp s s.size:=rfl;rw[e]
  (repeat' (first|apply zS|apply zB|(apply zW;simp only[go_sem,hge])|apply And.intro|intro _))
  all_goals first|omega|rfl|skip
theorem qMe:Cn Tryz.prog 155 kLg:=by
 refine Cn.pur Tryz.func155 (by kernel_rfl) rfl fun d x hx=>?_
 obtain⟨s,Y⟩:=x;simp only at hx⊢;refine Holds.go (c:=kSx) Tryz.func155 rfl Tryz.results155 Tryz.ntmps155 (by omega) (by simp) rfl ?_
 intro X0 w0
 (repeat' (first|apply zS|apply zB|(apply zW;simp only[go_sem])|apply And.intro|intro _))
 all_goals first|omega|skip
 refine zL (fun k:Nat=>⟨[(1,.ptr 1 0 0 0),(3,.v (.int .i64 (idUp s k))),(4,.v (.int .i64 k))],[(1,.box 144 [.v (.string s),.sl 3 (Y.map encSymbol)])]⟩) (fun k=>k≤s.size) (fun k=>s.size-k) 0 (by omega) ?_ ?_
 ·have h0:idUp s 0=7:=rfl
  (simp only[go_sem,h0]<;>(first|(and_intros<;>rfl)|simp))
 intro k hk;by_cases hlt:k<s.size
 ·have hli:(k:Int)<s.size:=by omega
  have hb:=kXq s k;have hc:(s[k]!).toNat<256:=UInt8.toNat_lt _;have hn:idUp s (k+1)=(idUp s k*257+((s[k]!).toNat:Int)+1).tmod 1000000007:=rfl;generalize idUp s k=u at *
  (repeat' (first|apply zS|apply zB|(apply zW;simp only[go_sem,hli])|apply And.intro|intro _))
  all_goals first|omega|exact⟨k+1,by omega,by omega,by rw[hn];(first|(and_intros<;>rfl)|simp)⟩|skip
 ·have hge:¬(k:Int)<s.size:=by omega
  obtain rfl:k=s.size:=by omega
  have e:kH9 s=idUp s s.size:=rfl;rw[e]
  (repeat' (first|apply zS|apply zB|(apply zW;simp only[go_sem,hge])|apply And.intro|intro _))
  all_goals first|omega|rfl|skip
end
theorem k66 {a b:Symbol}(h0:a.name=b.name) (h1:a.start=b.start) (h2:a.size=b.size):a=b:=by cases a;cases b;simp_all
def kWb:Ctr:=pur (fun args=>(kDp (aR args 0),kDp (aR args 1))) (fun x=>[.sl 3 (x.1.map encSymbol),.sl 3 (x.2.map encSymbol)]) (fun x=>x.1.length≤4194304∧x.2.length≤4194304) (fun _ x=>.v (.bool (decide (x.1=x.2)))) (fun _ _=>[])
section
noncomputable def k3e:=mkX [] (COk.nil _)
theorem qH2:k3e.tys=tys:=rfl
theorem qH3:k3e.C=[]:=rfl
attribute [local go_sem] qH2 qH3
theorem cEqSym:Cn Tryz.prog 181 kWb:=by
 refine Cn.pur Tryz.func181 (by kernel_rfl) rfl fun d x hx=>?_
 obtain⟨L,M⟩:=x;obtain⟨hL,hM⟩:=hx;simp only at hL hM⊢;refine Holds.go (c:=k3e) Tryz.func181 rfl Tryz.results181 Tryz.ntmps181 (by omega) (by simp) rfl ?_
 intro X0 w0;by_cases hlen:L.length=M.length
 ·have hle:(L.length:Int)=M.length:=by omega
  (repeat' (first|apply zS|apply zB|((first|apply zW| refine zd 9 (h:=?_));simp only[go_sem,hle])|apply And.intro|intro _))
  all_goals first|omega|skip
  refine zL (fun k:Nat=>⟨[(0,.sl 3 (L.map encSymbol)),(1,.sl 3 (M.map encSymbol)),(12,.v (.int .i64 (L.length:Int))),(13,.v (.int .i64 k))],[]⟩) (fun k=>k≤L.length∧L.take k=M.take k) (fun k=>L.length-k) 0 (by simp) ?_ ?_
  ·(simp only[go_sem,hle]<;>(first|(and_intros<;>rfl)|simp))
  intro k ⟨hk,hf⟩;by_cases hlt:k<L.length
  ·have hli:(k:Int)<L.length:=by omega
   have hlm:(k:Int)<M.length:=by omega
   have hltM:k<M.length:=by omega
   have h1:=kAa encSymbol L k hlt;have h2:=kAa encSymbol M k hltM
   have hnx:L[k]=M[k]→L.take (k+1)=M.take (k+1):=fun he=>by
    rw[List.take_succ_eq_append_getElem hlt,List.take_succ_eq_append_getElem hltM,hf,he]
   have hno:¬L[k]=M[k]→¬L=M:=fun hn he=>hn (by subst he;rfl)
   have hex:=@k66 L[k] M[k];by_cases e1:L[k].name=M[k].name
   ·by_cases e2:L[k].start=M[k].start
    ·by_cases e3:L[k].size=M[k].size
     ·have:=hnx (hex e1 e2 e3)
      (repeat' (first|apply zS|apply zB|((first|apply zW| refine zd 9 (h:=?_));simp only[go_sem,hli,hlm,h1,h2,encSymbol,e1,e2,e3])|apply And.intro|intro _))
      all_goals first|omega|exact⟨k+1,⟨by omega,this⟩,by omega,by(first|(and_intros<;>rfl)|simp)⟩|skip
     ·have hn:=hno fun h=>e3 (by rw[h])
      (repeat' (first|apply zS|apply zB|((first|apply zW| refine zd 9 (h:=?_));simp only[go_sem,hli,hlm,h1,h2,encSymbol,e1,e2,e3])|apply And.intro|intro _))
      all_goals first|omega|(rw[decide_eq_false hn])|skip
    ·have hn:=hno fun h=>e2 (by rw[h])
     (repeat' (first|apply zS|apply zB|((first|apply zW| refine zd 9 (h:=?_));simp only[go_sem,hli,hlm,h1,h2,encSymbol,e1,e2])|apply And.intro|intro _))
     all_goals first|omega|(rw[decide_eq_false hn])|skip
   ·have hn:=hno fun h=>e1 (by rw[h])
    (repeat' (first|apply zS|apply zB|((first|apply zW| refine zd 9 (h:=?_));simp only[go_sem,hli,hlm,h1,h2,encSymbol,e1])|apply And.intro|intro _))
    all_goals first|omega|(rw[decide_eq_false hn])|skip
  ·have hge:¬(k:Int)<L.length:=by omega
   have hke:k=L.length:=by omega
   have he:L=M:=by
    rw[hke,List.take_length,hlen,List.take_length]at hf;exact hf
   (repeat' (first|apply zS|apply zB|((first|apply zW| refine zd 9 (h:=?_));simp only[go_sem,hge])|apply And.intro|intro _))
   all_goals first|omega|(rw[decide_eq_true he])|skip
 ·have hn:¬L=M:=fun h=>hlen (by rw[h])
  have hle:¬(L.length:Int)=M.length:=by omega
  (repeat' (first|apply zS|apply zB|((first|apply zW| refine zd 9 (h:=?_));simp only[go_sem,hle])|apply And.intro|intro _))
  all_goals first|omega|(rw[decide_eq_false hn])|skip
end
def kI7:Ctr:=pur (fun args=>(kBl (aC args 0),kBu (aC args 1))) (fun x=>[.agg (encImage x.1),.agg (encDebug x.2)]) (fun x=>x.1.code.size≤4194304∧x.1.symbols.length≤4194304∧x.2.syms.length≤4194304) (fun _ x=>.v (.bool (kGo x.1 x.2))) (fun _ _=>[])
section
attribute [local go_sem] kBu kA4 kFg kCe
noncomputable def k9l:=mkX [(180,kLg),(181,kWb)] (COk.cons qMd (COk.cons cEqSym (COk.nil _)))
theorem qMf:k9l.tys=tys:=rfl
theorem qMg:k9l.C=[(180,kLg),(181,kWb)]:=rfl
attribute [local go_sem] qMf qMg kLg kWb
theorem qHn:Cn Tryz.prog 104 kI7:=by
 refine Cn.pur Tryz.func104 (by kernel_rfl) rfl fun d x hx=>?_
 obtain⟨⟨s,Y⟩,⟨id,Z,R,W,I⟩⟩:=x;obtain⟨h1,h2,h3⟩:=hx;simp only at h1 h2 h3⊢;have e:kGo ⟨s,Y⟩ ⟨id,Z,R,W,I⟩=(decide (id=kH9 s)&&decide (Y=Z)):=rfl;rw[e];simp only[encDebug,encImage];refine Holds.go (c:=k9l) Tryz.func104 rfl Tryz.results104 Tryz.ntmps104 (by omega) (by simp) rfl ?_
 intro X0 w0;by_cases e1:id=kH9 s
 ·(repeat' (first|apply zS|apply zB|((first|apply zW| refine zd 12 (h:=?_));simp only[go_sem,e1])|apply And.intro|intro _))
  all_goals first|omega|rfl|skip
 ·(repeat' (first|apply zS|apply zB|((first|apply zW| refine zd 12 (h:=?_));simp only[go_sem,e1])|apply And.intro|intro _))
  all_goals first|omega|rfl|(simp[e1];done)|skip
noncomputable def k9m:=mkX [(155,kLg)] (COk.cons qMe (COk.nil _))
theorem qMh:k9m.tys=tys:=rfl
theorem qMi:k9m.C=[(155,kLg)]:=rfl
attribute [local go_sem] qMh qMi kLg
theorem qHo:Cn Tryz.prog 80 kI7:=by
 refine Cn.pur Tryz.func80 (by kernel_rfl) rfl fun d x hx=>?_
 obtain⟨⟨s,Y⟩,⟨id,Z,R,W,I⟩⟩:=x;obtain⟨h1,h2,h3⟩:=hx;simp only at h1 h2 h3⊢;have e:kGo ⟨s,Y⟩ ⟨id,Z,R,W,I⟩=(decide (id=kH9 s)&&decide (Y=Z)):=rfl;rw[e];simp only[encDebug,encImage];refine Holds.go (c:=k9m) Tryz.func80 rfl Tryz.results80 Tryz.ntmps80 (by omega) (by simp) rfl ?_
 intro X0 w0;by_cases e1:id=kH9 s;rotate_left
 ·rw[decide_eq_false e1,Bool.false_and]
  (repeat' (first|apply zS|apply zB|((first|apply zW| refine zd 14 (h:=?_)|refine zd 11 (h:=?_));simp only[go_sem,e1])|apply And.intro|intro _))
  all_goals first|omega|rfl|skip
 rw[decide_eq_true e1,Bool.true_and];by_cases hlen:Z.length=Y.length;rotate_left
 ·have hle:¬(Z.length:Int)=Y.length:=by omega
  rw[decide_eq_false fun h=>hlen (by rw[h])]
  (repeat' (first|apply zS|apply zB|((first|apply zW| refine zd 14 (h:=?_)|refine zd 11 (h:=?_));simp only[go_sem,e1,hle])|apply And.intro|intro _))
  all_goals first|omega|rfl|skip
 have hle:(Z.length:Int)=Y.length:=by omega
 (repeat' (first|apply zS|apply zB|((first|apply zW| refine zd 14 (h:=?_)|refine zd 11 (h:=?_));simp only[go_sem,e1,hle])|apply And.intro|intro _))
 all_goals first|omega|skip
 refine zL (fun k:Nat=>⟨[(2,.ptr 2 0 0 0),(3,.ptr 3 0 0 0),(5,.v (.int .i64 k))],[(2,.box 144 [.v (.string s),.sl 3 (Y.map encSymbol)]),(3,.box 149 [.v (.int .i64 (kH9 s)),.sl 3 (Z.map encSymbol),.sl 4 (R.map encRule),.sl 3 (W.map encRow),.sl 5 (I.map encInline)])]⟩) (fun k=>k≤Z.length∧Z.take k=Y.take k) (fun k=>Z.length-k) 0 (by simp) ?_ ?_
 ·(simp only[go_sem,hle]<;>(first|(and_intros<;>rfl)|simp))
 intro k ⟨hk,hf⟩;by_cases hlt:k<Z.length
 ·have hli:(k:Int)<Z.length:=by omega
  have hlm:(k:Int)<Y.length:=by omega
  have hltM:k<Y.length:=by omega
  have g1:=kAa encSymbol Z k hlt;have g2:=kAa encSymbol Y k hltM
  have hnx:Z[k]=Y[k]→Z.take (k+1)=Y.take (k+1):=fun he=>by
   rw[List.take_succ_eq_append_getElem hlt,List.take_succ_eq_append_getElem hltM,hf,he]
  have hno:¬Z[k]=Y[k]→¬Y=Z:=fun hn he=>hn (by subst he;rfl)
  have hex:=@k66 Z[k] Y[k];by_cases e1:Z[k].name=Y[k].name
  ·by_cases e2:Z[k].start=Y[k].start
   ·by_cases e3:Z[k].size=Y[k].size
    ·have:=hnx (hex e1 e2 e3)
     (repeat' (first|apply zS|apply zB|((first|apply zW| refine zd 14 (h:=?_)|refine zd 11 (h:=?_));simp only[go_sem,hli,hlm,g1,g2,encSymbol,e1,e2,e3])|apply And.intro|intro _))
     all_goals first|omega|exact⟨k+1,⟨by omega,this⟩,by omega,by(first|(and_intros<;>rfl)|simp)⟩|skip
    ·have hn:=hno fun h=>e3 (by rw[h])
     (repeat' (first|apply zS|apply zB|((first|apply zW| refine zd 14 (h:=?_)|refine zd 11 (h:=?_));simp only[go_sem,hli,hlm,g1,g2,encSymbol,e1,e2,e3])|apply And.intro|intro _))
     all_goals first|omega|(rw[decide_eq_false hn])|skip
   ·have hn:=hno fun h=>e2 (by rw[h])
    (repeat' (first|apply zS|apply zB|((first|apply zW| refine zd 14 (h:=?_)|refine zd 11 (h:=?_));simp only[go_sem,hli,hlm,g1,g2,encSymbol,e1,e2])|apply And.intro|intro _))
    all_goals first|omega|(rw[decide_eq_false hn])|skip
  ·have hn:=hno fun h=>e1 (by rw[h])
   (repeat' (first|apply zS|apply zB|((first|apply zW| refine zd 14 (h:=?_)|refine zd 11 (h:=?_));simp only[go_sem,hli,hlm,g1,g2,encSymbol,e1])|apply And.intro|intro _))
   all_goals first|omega|(rw[decide_eq_false hn])|skip
 ·have hge:¬(k:Int)<Z.length:=by omega
  have hke:k=Z.length:=by omega
  have he:Y=Z:=by
   rw[hke,List.take_length,hlen,List.take_length]at hf;exact hf.symm
  rw[decide_eq_true he]
  (repeat' (first|apply zS|apply zB|((first|apply zW| refine zd 14 (h:=?_)|refine zd 11 (h:=?_));simp only[go_sem,hge])|apply And.intro|intro _))
  all_goals first|omega|rfl|skip
end
end Go.Proofs.YtjdklcjoeanimaaGreat

namespace Go.Proofs.YtjdklcjoeanimaaGreat
open Go.Vc
attribute [local irreducible] Go.Vc.WP
attribute [local go_sem] kAd kAe
open Go.Pl
attribute [local go_sem] kFh kAj kE0 imgA kAf kAg spA
theorem kQp (I:List Image) (B:List Int) (k:Nat):kEd I B (k+1)=(kEd I B k&&(kDz (I.getD k zImg).code (I.getD k zImg).symbols&&decide (1≤B.getD k 0∧B.getD k 0≤1000000))):=by
 unfold kEd;rw[List.range_succ,List.all_append];simp
theorem kQq {I:List Image}{B:List Int}{k:Nat}(h:kEd I B k=false):∀m,kEd I B (k+m)=false
 | 0=>h
 |m+1=>by rw[show k+(m+1)=k+m+1 by omega,kQp,kQq h m];rfl
theorem kH0 {I:List Image}{B:List Int}{k j:Nat}(h:kEd I B k=true) (hj:j<k):kDz (I.getD j zImg).code (I.getD j zImg).symbols=true∧1≤B.getD j 0∧B.getD j 0≤1000000:=by
 unfold kEd at h;have:=List.all_eq_true.1 h j (List.mem_range.2 hj);simpa using this
theorem k2o {I:List Image}{B E:List Int}(h:¬(I.length=2∧B.length=2∧1≤E.length∧E.length≤6)):kAl I B E=false:=by
 unfold kAl;rw[decide_eq_false h];rfl
theorem kRs {I:List Image}{B E:List Int}(h:kEd I B 2=false):kAl I B E=false:=by
 unfold kAl;rw[h,Bool.and_false];rfl
theorem k7h {I:List Image}{B E:List Int}(h:kJ1 I B=true):kAl I B E=false:=by
 unfold kAl;rw[h];simp
theorem qGs {I:List Image}{B E:List Int}{k:Nat}(hk:k<E.length) (h:kC3 I B E[k]=false):kAl I B E=false:=by
 have:E.all (kC3 I B)=false:=List.all_eq_false.2 ⟨_,List.getElem_mem hk,by rw[h];simp⟩
 unfold kAl;rw[this,Bool.and_false]
theorem sp_ok {I:List Image}{B E:List Int}(h1:I.length=2∧B.length=2∧1≤E.length∧E.length≤6) (h2:kEd I B 2=true) (h3:kJ1 I B=false) (h4:∀k (hk:k<E.length),kC3 I B E[k]=true):kAl I B E=true:=by
 have:E.all (kC3 I B)=true:=List.all_eq_true.2 fun e he=>by
  obtain⟨k,hk,rfl⟩:=List.mem_iff_getElem.1 he;exact h4 k hk
 unfold kAl;rw[decide_eq_true h1,h2,h3,this];rfl
def kDx (x:List Image×List Int×List Int):Prop:=k40 x.1∧x.2.1.length≤4194304∧x.2.2.length≤4194304
def kFk:Ctr:=pur (fun args=>spA args 0) (fun x=>[.agg [.sl 2 (x.1.map encImage),.sl 1 (x.2.1.map encI),.sl 1 (x.2.2.map encI)]]) kDx (fun _ x=>.v (.bool (kAl x.1 x.2.1 x.2.2))) (fun _ _=>[])
section
noncomputable def qCe:=mkX [(68,k60),(178,kLi),(179,k0q)] (COk.cons c60 (COk.cons qNj (COk.cons cEntrI (COk.nil _))))
theorem qSf:qCe.tys=tys:=rfl
theorem qSg:qCe.C=[(68,k60),(178,kLi),(179,k0q)]:=rfl
attribute [local go_sem] qSf qSg k60 kLi k0q
set_option maxHeartbeats 3000000 in
theorem k2w:Cn Tryz.prog 103 kFk:=by
 refine Cn.pur Tryz.func103 (by kernel_rfl) rfl fun d x hx=>?_
 obtain⟨I,B,E⟩:=x;obtain⟨⟨hI,hIm⟩,hB,hE⟩:=hx;simp only at hI hIm hB hE⊢;refine Holds.go (c:=qCe) Tryz.func103 rfl Tryz.results103 Tryz.ntmps103 (by omega) (by simp) rfl ?_
 intro X0 w0;by_cases hlen:I.length=2∧B.length=2∧1≤E.length∧E.length≤6;rotate_left
 ·rw[k2o hlen];by_cases l1:(I.length:Int)=2
  ·by_cases l2:(B.length:Int)=2
   ·have l3:(decide ((1:Int)≤E.length)&&decide ((E.length:Int)≤6))=false:=by
     rw[←Bool.decide_and];exact decide_eq_false fun h=>hlen ⟨by omega,by omega,by omega,by omega⟩
    (repeat' (first|apply zS|apply zB|((first|apply zW| refine zd 13 (h:=?_)|refine zd 32 (h:=?_));simp only[go_sem,l1,l2,l3])|apply And.intro|intro _))
    all_goals first|omega|skip
   ·(repeat' (first|apply zS|apply zB|((first|apply zW| refine zd 13 (h:=?_)|refine zd 32 (h:=?_));simp only[go_sem,l1,l2])|apply And.intro|intro _))
    all_goals first|omega|skip
  ·(repeat' (first|apply zS|apply zB|((first|apply zW| refine zd 13 (h:=?_)|refine zd 32 (h:=?_));simp only[go_sem,l1])|apply And.intro|intro _))
   all_goals first|omega|skip
 obtain⟨g1,g2,g3,g4⟩:=hlen;have l1:(I.length:Int)=2:=by omega
 have l2:(B.length:Int)=2:=by omega
 have l3:(1:Int)≤E.length:=by omega
 have l4:(E.length:Int)≤6:=by omega
 (repeat' (first|apply zS|apply zB|((first|apply zW| refine zd 13 (h:=?_)|refine zd 32 (h:=?_));simp only[go_sem,l1,l2,l3,l4])|apply And.intro|intro _))
 all_goals first|omega|skip
 refine zL (fun k:Nat=>⟨[(1,.ptr 1 0 0 0),(27,.v (.int .i64 2)),(28,.v (.int .i64 k))],[(1,.box 51 [.sl 2 (I.map encImage),.sl 1 (B.map encI),.sl 1 (E.map encI)])]⟩)
  (fun k=>k≤2∧kEd I B k=true) (fun k=>2-k) 0 ⟨by simp,rfl⟩ ?_ ?_
 ·(simp only[go_sem]<;>(first|(and_intros<;>rfl)|simp))
 intro k ⟨hk,hi2⟩;by_cases hlt:k<2
 ·have hli:(k:Int)<2:=by omega
  have hkI:k<I.length:=by omega
  have hkB:k<B.length:=by omega
  have hkIi:(k:Int)<I.length:=by omega
  have hkBi:(k:Int)<B.length:=by omega
  have hr:=kAa encImage I k hkI;have hrb:=kAa encI B k hkB;obtain⟨p1,p2,p3⟩:=hIm _ (List.getElem_mem hkI);simp only at p1 p2 p3;have hsu:=kQp I B k;rw[hi2,Bool.true_and,kCm hkI,kAz hkB]at hsu
  have hdn:kEd I B (k+1)=false→kEd I B 2=false:=fun h=>by
   have:=kQq h (2-(k+1))
   rwa [show k+1+(2-(k+1))=2 by omega]at this
  cases hok:kDz I[k].code I[k].symbols with
  |false =>
   rw[hok,Bool.false_and]at hsu;rw[kRs (hdn hsu)]
   (repeat' (first|apply zS|apply zB|((first|apply zW| refine zd 13 (h:=?_)|refine zd 32 (h:=?_));simp only[go_sem,hli,l1,l2,hr,encImage,hok,hrb,encI])|apply And.intro|intro _))
   all_goals first|omega|exact p3 _ ‹_›|skip
  |true =>
   by_cases hb:1≤B[k]∧B[k]≤1000000
   ·rw[hok,decide_eq_true hb]at hsu
    (repeat' (first|apply zS|apply zB|((first|apply zW| refine zd 13 (h:=?_)|refine zd 32 (h:=?_));simp only[go_sem,hli,l1,l2,hr,encImage,hok,hrb,encI,hb])|apply And.intro|intro _))
    all_goals first|omega|exact p3 _ ‹_›|exact⟨k+1,⟨by omega,hsu⟩,by omega,by(first|(and_intros<;>rfl)|simp)⟩|skip
   ·rw[hok,decide_eq_false hb]at hsu;rw[kRs (hdn hsu)];have hb':(decide (1≤B[k])&&decide (B[k]≤1000000))=false:=by rw[←Bool.decide_and];exact decide_eq_false hb
    (repeat' (first|apply zS|apply zB|((first|apply zW| refine zd 13 (h:=?_)|refine zd 32 (h:=?_));simp only[go_sem,hli,l1,l2,hr,encImage,hok,hrb,encI,hb'])|apply And.intro|intro _))
    all_goals first|omega|exact p3 _ ‹_›|skip
 ·have hge:¬(k:Int)<2:=by omega
  obtain rfl:k=2:=by omega
  have h0I:0<I.length:=by omega
  have h1I:1<I.length:=by omega
  have h0B:0<B.length:=by omega
  have h1B:1<B.length:=by omega
  have r0:=kAa encImage I 0 h0I;have r1:=kAa encImage I 1 h1I;have b0:=kAa encI B 0 h0B;have b1:=kAa encI B 1 h1B;obtain⟨o0,q0,q0'⟩:=kH0 hi2 (j:=0) (by omega)
  obtain⟨o1,q1,q1'⟩:=kH0 hi2 (j:=1) (by omega)
  rw[kAz h0B]at q0 q0';rw[kAz h1B]at q1 q1';have s0:=(hIm _ (List.getElem_mem h0I)).1;have s1:=(hIm _ (List.getElem_mem h1I)).1;simp only at s0 s1
  have hov:kJ1 I B=(decide (0<I[0].code.size)&&decide (0<I[1].code.size)&&decide (B[0]<B[1]+I[1].code.size)&&decide (B[1]<B[0]+I[0].code.size)):=by
   unfold kJ1;rw[kCm h0I,kCm h1I,kAz h0B,kAz h1B]
  have c02:(0:Int)<2:=by omega
  have c12:(1:Int)<2:=by omega
  have t1:(1:Int).toNat=1:=rfl
  have hBn:∀b∈B,0≤b∧b≤1000000000000:=fun b hb=>by
   obtain⟨j,hj,rfl⟩:=List.mem_iff_getElem.1 hb;have:=(kH0 hi2 (j:=j) (by omega)).2
   rw[kAz hj]at this;omega
  have hst:∀i∈I,∀y∈i.symbols,0≤y.start∧y.start≤1000000000000:=fun i hi y hy=>by
   obtain⟨j,hj,rfl⟩:=List.mem_iff_getElem.1 hi;have:=(kH0 hi2 (j:=j) (by omega)).1
   rw[kCm hj]at this;obtain⟨A,hA⟩:=kNu this;obtain⟨m,hm,rfl⟩:=List.mem_iff_getElem.1 hy;have h1:=hA.lt hm;have h2:=hA.big;omega
  cases ho:kJ1 I B with
  |true =>
   rw[k7h ho];rw[ho]at hov;have hov:=hov.symm;simp only[Bool.and_eq_true,decide_eq_true_eq]at hov;obtain⟨⟨⟨v1,v2⟩,v3⟩,v4⟩:=hov;have v1i:(0:Int)<I[0].code.size:=by omega
   have v2i:(0:Int)<I[1].code.size:=by omega
   (repeat' (first|apply zS|apply zB|((first|apply zW| refine zd 13 (h:=?_)|refine zd 32 (h:=?_));simp only[go_sem,hge,l1,l2,c02,c12,t1,r0,r1,b0,b1,encImage,encI,v1i,v2i,v3,v4])|apply And.intro|intro _))
   all_goals first|omega|skip
  |false =>
   rw[ho]at hov;have hloop:∀k (hk:k<E.length),kC3 I B E[k]=false→kAl I B E=false:=fun k hk h=>qGs hk h
   have hyes:=sp_ok (I:=I) (B:=B) (E:=E) ⟨g1,g2,g3,g4⟩ hi2 ho;by_cases v1:(0:Int)<I[0].code.size
   ·by_cases v2:(0:Int)<I[1].code.size
    ·by_cases v3:B[0]<B[1]+(I[1].code.size:Int)
     ·have v4:¬B[1]<B[0]+(I[0].code.size:Int):=fun h=>by
       rw[decide_eq_true (by omega:0<I[0].code.size),decide_eq_true (by omega:0<I[1].code.size),decide_eq_true v3,decide_eq_true h]at hov
       cases hov
      (repeat' (first|apply zS|apply zB|((first|apply zW| refine zd 13 (h:=?_)|refine zd 32 (h:=?_));simp only[go_sem,hge,l1,l2,c02,c12,t1,r0,r1,b0,b1,encImage,encI,v1,v2,v3,v4])|apply And.intro|intro _))
      all_goals first|omega|skip
      refine zL (fun k:Nat=>⟨[(1,.ptr 1 0 0 0),(93,.sl 1 (E.map encI)),(94,.v (.int .i64 E.length)),(95,.v (.int .i64 k))],[(1,.box 51 [.sl 2 (I.map encImage),.sl 1 (B.map encI),.sl 1 (E.map encI)])]⟩)
       (fun k=>k≤E.length∧∀i (hi:i<E.length),i<k→kC3 I B E[i]=true) (fun k=>E.length-k) 0 (by simp) ?_ ?_
      ·(simp only[go_sem]<;>(first|(and_intros<;>rfl)|simp))
      intro k ⟨hk,hf⟩;by_cases hlt:k<E.length
      ·have hli:(k:Int)<E.length:=by omega
       have hre:=kAa encI E k hlt
       cases he:kC3 I B E[k]with
       |true =>
        (repeat' (first|apply zS|apply zB|((first|apply zW| refine zd 13 (h:=?_)|refine zd 32 (h:=?_));simp only[go_sem,hli,hre,encI,he])|apply And.intro|intro _))
        all_goals first|omega|exact(hIm _ ‹_›).1|exact(hIm _ ‹_›).2.1|exact(hIm _ ‹_›).2.2 _ ‹_›|exact g2.trans g1.symm|exact(hBn _ ‹_›).1|exact(hBn _ ‹_›).2|exact(hst _ ‹_› _ ‹_›).1|exact(hst _ ‹_› _ ‹_›).2|exact hIm _ ‹_›|exact⟨k+1,⟨by omega,fun i hi hik=>by
         rcases Nat.lt_or_ge i k with h|h
         ·exact hf i hi h
         ·have:i=k:=by omega
          subst this;exact he⟩,by omega,by(first|(and_intros<;>rfl)|simp)⟩|skip
       |false =>
        rw[hloop k hlt he]
        (repeat' (first|apply zS|apply zB|((first|apply zW| refine zd 13 (h:=?_)|refine zd 32 (h:=?_));simp only[go_sem,hli,hre,encI,he])|apply And.intro|intro _))
        all_goals first|omega|exact(hIm _ ‹_›).1|exact(hIm _ ‹_›).2.1|exact(hIm _ ‹_›).2.2 _ ‹_›|exact g2.trans g1.symm|exact(hBn _ ‹_›).1|exact(hBn _ ‹_›).2|exact(hst _ ‹_› _ ‹_›).1|exact(hst _ ‹_› _ ‹_›).2|exact hIm _ ‹_›|skip
      ·have hge2:¬(k:Int)<E.length:=by omega
       rw[hyes fun i hi=>hf i hi (by omega)]
       (repeat' (first|apply zS|apply zB|((first|apply zW| refine zd 13 (h:=?_)|refine zd 32 (h:=?_));simp only[go_sem,hge2])|apply And.intro|intro _))
       all_goals first|omega|skip
     ·(repeat' (first|apply zS|apply zB|((first|apply zW| refine zd 13 (h:=?_)|refine zd 32 (h:=?_));simp only[go_sem,hge,l1,l2,c02,c12,t1,r0,r1,b0,b1,encImage,encI,v1,v2,v3])|apply And.intro|intro _))
      all_goals first|omega|skip
      refine zL (fun k:Nat=>⟨[(1,.ptr 1 0 0 0),(93,.sl 1 (E.map encI)),(94,.v (.int .i64 E.length)),(95,.v (.int .i64 k))],[(1,.box 51 [.sl 2 (I.map encImage),.sl 1 (B.map encI),.sl 1 (E.map encI)])]⟩)
       (fun k=>k≤E.length∧∀i (hi:i<E.length),i<k→kC3 I B E[i]=true) (fun k=>E.length-k) 0 (by simp) ?_ ?_
      ·(simp only[go_sem]<;>(first|(and_intros<;>rfl)|simp))
      intro k ⟨hk,hf⟩;by_cases hlt:k<E.length
      ·have hli:(k:Int)<E.length:=by omega
       have hre:=kAa encI E k hlt
       cases he:kC3 I B E[k]with
       |true =>
        (repeat' (first|apply zS|apply zB|((first|apply zW| refine zd 13 (h:=?_)|refine zd 32 (h:=?_));simp only[go_sem,hli,hre,encI,he])|apply And.intro|intro _))
        all_goals first|omega|exact(hIm _ ‹_›).1|exact(hIm _ ‹_›).2.1|exact(hIm _ ‹_›).2.2 _ ‹_›|exact g2.trans g1.symm|exact(hBn _ ‹_›).1|exact(hBn _ ‹_›).2|exact(hst _ ‹_› _ ‹_›).1|exact(hst _ ‹_› _ ‹_›).2|exact hIm _ ‹_›|exact⟨k+1,⟨by omega,fun i hi hik=>by
         rcases Nat.lt_or_ge i k with h|h
         ·exact hf i hi h
         ·have:i=k:=by omega
          subst this;exact he⟩,by omega,by(first|(and_intros<;>rfl)|simp)⟩|skip
       |false =>
        rw[hloop k hlt he]
        (repeat' (first|apply zS|apply zB|((first|apply zW| refine zd 13 (h:=?_)|refine zd 32 (h:=?_));simp only[go_sem,hli,hre,encI,he])|apply And.intro|intro _))
        all_goals first|omega|exact(hIm _ ‹_›).1|exact(hIm _ ‹_›).2.1|exact(hIm _ ‹_›).2.2 _ ‹_›|exact g2.trans g1.symm|exact(hBn _ ‹_›).1|exact(hBn _ ‹_›).2|exact(hst _ ‹_› _ ‹_›).1|exact(hst _ ‹_› _ ‹_›).2|exact hIm _ ‹_›|skip
      ·have hge2:¬(k:Int)<E.length:=by omega
       rw[hyes fun i hi=>hf i hi (by omega)]
       (repeat' (first|apply zS|apply zB|((first|apply zW| refine zd 13 (h:=?_)|refine zd 32 (h:=?_));simp only[go_sem,hge2])|apply And.intro|intro _))
       all_goals first|omega|skip
    ·(repeat' (first|apply zS|apply zB|((first|apply zW| refine zd 13 (h:=?_)|refine zd 32 (h:=?_));simp only[go_sem,hge,l1,l2,c02,c12,t1,r0,r1,b0,b1,encImage,encI,v1,v2])|apply And.intro|intro _))
     all_goals first|omega|skip
     refine zL (fun k:Nat=>⟨[(1,.ptr 1 0 0 0),(93,.sl 1 (E.map encI)),(94,.v (.int .i64 E.length)),(95,.v (.int .i64 k))],[(1,.box 51 [.sl 2 (I.map encImage),.sl 1 (B.map encI),.sl 1 (E.map encI)])]⟩)
      (fun k=>k≤E.length∧∀i (hi:i<E.length),i<k→kC3 I B E[i]=true) (fun k=>E.length-k) 0 (by simp) ?_ ?_
     ·(simp only[go_sem]<;>(first|(and_intros<;>rfl)|simp))
     intro k ⟨hk,hf⟩;by_cases hlt:k<E.length
     ·have hli:(k:Int)<E.length:=by omega
      have hre:=kAa encI E k hlt
      cases he:kC3 I B E[k]with
      |true =>
       (repeat' (first|apply zS|apply zB|((first|apply zW| refine zd 13 (h:=?_)|refine zd 32 (h:=?_));simp only[go_sem,hli,hre,encI,he])|apply And.intro|intro _))
       all_goals first|omega|exact(hIm _ ‹_›).1|exact(hIm _ ‹_›).2.1|exact(hIm _ ‹_›).2.2 _ ‹_›|exact g2.trans g1.symm|exact(hBn _ ‹_›).1|exact(hBn _ ‹_›).2|exact(hst _ ‹_› _ ‹_›).1|exact(hst _ ‹_› _ ‹_›).2|exact hIm _ ‹_›|exact⟨k+1,⟨by omega,fun i hi hik=>by
        rcases Nat.lt_or_ge i k with h|h
        ·exact hf i hi h
        ·have:i=k:=by omega
         subst this;exact he⟩,by omega,by(first|(and_intros<;>rfl)|simp)⟩|skip
      |false =>
       rw[hloop k hlt he]
       (repeat' (first|apply zS|apply zB|((first|apply zW| refine zd 13 (h:=?_)|refine zd 32 (h:=?_));simp only[go_sem,hli,hre,encI,he])|apply And.intro|intro _))
       all_goals first|omega|exact(hIm _ ‹_›).1|exact(hIm _ ‹_›).2.1|exact(hIm _ ‹_›).2.2 _ ‹_›|exact g2.trans g1.symm|exact(hBn _ ‹_›).1|exact(hBn _ ‹_›).2|exact(hst _ ‹_› _ ‹_›).1|exact(hst _ ‹_› _ ‹_›).2|exact hIm _ ‹_›|skip
     ·have hge2:¬(k:Int)<E.length:=by omega
      rw[hyes fun i hi=>hf i hi (by omega)]
      (repeat' (first|apply zS|apply zB|((first|apply zW| refine zd 13 (h:=?_)|refine zd 32 (h:=?_));simp only[go_sem,hge2])|apply And.intro|intro _))
      all_goals first|omega|skip
   ·(repeat' (first|apply zS|apply zB|((first|apply zW| refine zd 13 (h:=?_)|refine zd 32 (h:=?_));simp only[go_sem,hge,l1,l2,c02,c12,t1,r0,r1,b0,b1,encImage,encI,v1])|apply And.intro|intro _))
    all_goals first|omega|skip
    refine zL (fun k:Nat=>⟨[(1,.ptr 1 0 0 0),(93,.sl 1 (E.map encI)),(94,.v (.int .i64 E.length)),(95,.v (.int .i64 k))],[(1,.box 51 [.sl 2 (I.map encImage),.sl 1 (B.map encI),.sl 1 (E.map encI)])]⟩)
     (fun k=>k≤E.length∧∀i (hi:i<E.length),i<k→kC3 I B E[i]=true) (fun k=>E.length-k) 0 (by simp) ?_ ?_
    ·(simp only[go_sem]<;>(first|(and_intros<;>rfl)|simp))
    intro k ⟨hk,hf⟩;by_cases hlt:k<E.length
    ·have hli:(k:Int)<E.length:=by omega
     have hre:=kAa encI E k hlt
     cases he:kC3 I B E[k]with
     |true =>
      (repeat' (first|apply zS|apply zB|((first|apply zW| refine zd 13 (h:=?_)|refine zd 32 (h:=?_));simp only[go_sem,hli,hre,encI,he])|apply And.intro|intro _))
      all_goals first|omega|exact(hIm _ ‹_›).1|exact(hIm _ ‹_›).2.1|exact(hIm _ ‹_›).2.2 _ ‹_›|exact g2.trans g1.symm|exact(hBn _ ‹_›).1|exact(hBn _ ‹_›).2|exact(hst _ ‹_› _ ‹_›).1|exact(hst _ ‹_› _ ‹_›).2|exact hIm _ ‹_›|exact⟨k+1,⟨by omega,fun i hi hik=>by
       rcases Nat.lt_or_ge i k with h|h
       ·exact hf i hi h
       ·have:i=k:=by omega
        subst this;exact he⟩,by omega,by(first|(and_intros<;>rfl)|simp)⟩|skip
     |false =>
      rw[hloop k hlt he]
      (repeat' (first|apply zS|apply zB|((first|apply zW| refine zd 13 (h:=?_)|refine zd 32 (h:=?_));simp only[go_sem,hli,hre,encI,he])|apply And.intro|intro _))
      all_goals first|omega|exact(hIm _ ‹_›).1|exact(hIm _ ‹_›).2.1|exact(hIm _ ‹_›).2.2 _ ‹_›|exact g2.trans g1.symm|exact(hBn _ ‹_›).1|exact(hBn _ ‹_›).2|exact(hst _ ‹_› _ ‹_›).1|exact(hst _ ‹_› _ ‹_›).2|exact hIm _ ‹_›|skip
    ·have hge2:¬(k:Int)<E.length:=by omega
     rw[hyes fun i hi=>hf i hi (by omega)]
     (repeat' (first|apply zS|apply zB|((first|apply zW| refine zd 13 (h:=?_)|refine zd 32 (h:=?_));simp only[go_sem,hge2])|apply And.intro|intro _))
     all_goals first|omega|skip
end
end Go.Proofs.YtjdklcjoeanimaaGreat

namespace Go.Proofs.YtjdklcjoeanimaaGreat
open Go.Vc
attribute [local irreducible] Go.Vc.WP
attribute [local go_sem] kAd kAe
open Go.Pl
attribute [local go_sem] kFh kAj kE0 imgA kAf kAg spA
theorem kTa (I:List Image) (B:List Int) (e:Int):-1≤locI I B e∧locI I B e<I.length:=by
 unfold locI firstIdx;split
 ·rename_i q hq;have:=(List.findIdx?_eq_some_iff_getElem.1 hq).1;rw[List.length_range]at this;omega
 ·omega
theorem kTb {α:Type}(p:α→Bool) (L:List α):-1≤firstIdx p L∧firstIdx p L<L.length:=by
 unfold firstIdx;split
 ·rename_i q hq;have:=(List.findIdx?_eq_some_iff_getElem.1 hq).1;omega
 ·omega
attribute [local go_sem] St.runO St.kIm
section
noncomputable def qCf:=mkX [(66,k60),(152,kLi),(153,kLoc),(154,kJu)] (COk.cons c58 (COk.cons qNm (COk.cons qCc (COk.cons k67 (COk.nil _)))))
theorem qSh:qCf.tys=tys:=rfl
theorem qSi:qCf.C=[(66,k60),(152,kLi),(153,kLoc),(154,kJu)]:=rfl
attribute [local go_sem] qSh qSi k60 kLi kLoc kJu
set_option maxHeartbeats 3000000 in
theorem k2x:Cn Tryz.prog 79 kFk:=by
 refine Cn.pur Tryz.func79 (by kernel_rfl) rfl fun d x hx=>?_
 obtain⟨I,B,E⟩:=x;obtain⟨⟨hI,hIm⟩,hB,hE⟩:=hx;simp only at hI hIm hB hE⊢;refine Holds.go (c:=qCf) Tryz.func79 rfl Tryz.results79 Tryz.ntmps79 (by omega) (by simp) rfl ?_
 intro X0 w0;by_cases hlen:I.length=2∧B.length=2∧1≤E.length∧E.length≤6;rotate_left
 ·rw[k2o hlen];by_cases l1:(I.length:Int)=2
  ·by_cases l2:(B.length:Int)=2
   ·have l3:(decide ((1:Int)≤E.length)&&decide ((E.length:Int)≤6))=false:=by
     rw[←Bool.decide_and];exact decide_eq_false fun h=>hlen ⟨by omega,by omega,by omega,by omega⟩
    (repeat' (first|apply zS|apply zB|((first|apply zW| refine zd 32 (h:=?_)|refine zd 11 (h:=?_));simp only[go_sem,l1,l2,l3])|apply And.intro|intro _))
    all_goals first|omega|skip
   ·(repeat' (first|apply zS|apply zB|((first|apply zW| refine zd 32 (h:=?_)|refine zd 11 (h:=?_));simp only[go_sem,l1,l2])|apply And.intro|intro _))
    all_goals first|omega|skip
  ·(repeat' (first|apply zS|apply zB|((first|apply zW| refine zd 32 (h:=?_)|refine zd 11 (h:=?_));simp only[go_sem,l1])|apply And.intro|intro _))
   all_goals first|omega|skip
 obtain⟨g1,g2,g3,g4⟩:=hlen;have lk0:lk 0 tys=none:=rfl;have l1:(I.length:Int)=2:=by omega
 have l2:(B.length:Int)=2:=by omega
 have l3:(1:Int)≤E.length:=by omega
 have l4:(E.length:Int)≤6:=by omega
 (repeat' (first|apply zS|apply zB|((first|apply zW| refine zd 32 (h:=?_)|refine zd 11 (h:=?_));simp only[go_sem,l1,l2,l3,l4])|apply And.intro|intro _))
 all_goals first|omega|skip
 refine zL (fun k:Nat=>⟨[(1,.ptr 1 0 0 0),(3,.v (.int .i64 k))],[(1,.box 51 [.sl 2 (I.map encImage),.sl 1 (B.map encI),.sl 1 (E.map encI)])]⟩)
  (fun k=>k≤2∧kEd I B k=true) (fun k=>2-k) 0 ⟨by simp,rfl⟩ ?_ ?_
 ·(simp only[go_sem]<;>(first|(and_intros<;>rfl)|simp))
 intro k ⟨hk,hi2⟩;by_cases hlt:k<2
 ·have hli:(k:Int)<2:=by omega
  have hkI:k<I.length:=by omega
  have hkB:k<B.length:=by omega
  have hkIi:(k:Int)<I.length:=by omega
  have hkBi:(k:Int)<B.length:=by omega
  have hr:=kAa encImage I k hkI;have hrb:=kAa encI B k hkB;obtain⟨p1,p2,p3⟩:=hIm _ (List.getElem_mem hkI);simp only at p1 p2 p3;have hsu:=kQp I B k;rw[hi2,Bool.true_and,kCm hkI,kAz hkB]at hsu
  have hdn:kEd I B (k+1)=false→kEd I B 2=false:=fun h=>by
   have:=kQq h (2-(k+1))
   rwa [show k+1+(2-(k+1))=2 by omega]at this
  cases hok:kDz I[k].code I[k].symbols with
  |false =>
   rw[hok,Bool.false_and]at hsu;rw[kRs (hdn hsu)]
   (repeat' (first|apply zS|apply zB|((first|apply zW| refine zd 32 (h:=?_)|refine zd 11 (h:=?_));simp only[go_sem,hli,l1,l2,hr,encImage,hok,hrb,encI])|apply And.intro|intro _))
   all_goals first|omega|exact p3 _ ‹_›|skip
  |true =>
   by_cases hb:1≤B[k]∧B[k]≤1000000
   ·rw[hok,decide_eq_true hb]at hsu
    (repeat' (first|apply zS|apply zB|((first|apply zW| refine zd 32 (h:=?_)|refine zd 11 (h:=?_));simp only[go_sem,hli,l1,l2,hr,encImage,hok,hrb,encI,hb])|apply And.intro|intro _))
    all_goals first|omega|exact p3 _ ‹_›|exact⟨k+1,⟨by omega,hsu⟩,by omega,by(first|(and_intros<;>rfl)|simp)⟩|skip
   ·rw[hok,decide_eq_false hb]at hsu;rw[kRs (hdn hsu)];have hb':(decide (1≤B[k])&&decide (B[k]≤1000000))=false:=by rw[←Bool.decide_and];exact decide_eq_false hb
    (repeat' (first|apply zS|apply zB|((first|apply zW| refine zd 32 (h:=?_)|refine zd 11 (h:=?_));simp only[go_sem,hli,l1,l2,hr,encImage,hok,hrb,encI,hb'])|apply And.intro|intro _))
    all_goals first|omega|exact p3 _ ‹_›|skip
 ·have hge:¬(k:Int)<2:=by omega
  obtain rfl:k=2:=by omega
  have h0I:0<I.length:=by omega
  have h1I:1<I.length:=by omega
  have h0B:0<B.length:=by omega
  have h1B:1<B.length:=by omega
  have r0:=kAa encImage I 0 h0I;have r1:=kAa encImage I 1 h1I;have b0:=kAa encI B 0 h0B;have b1:=kAa encI B 1 h1B;obtain⟨o0,q0,q0'⟩:=kH0 hi2 (j:=0) (by omega)
  obtain⟨o1,q1,q1'⟩:=kH0 hi2 (j:=1) (by omega)
  rw[kAz h0B]at q0 q0';rw[kAz h1B]at q1 q1';have s0:=(hIm _ (List.getElem_mem h0I)).1;have s1:=(hIm _ (List.getElem_mem h1I)).1;simp only at s0 s1
  have hov:kJ1 I B=(decide (0<I[0].code.size)&&decide (0<I[1].code.size)&&decide (B[0]<B[1]+I[1].code.size)&&decide (B[1]<B[0]+I[0].code.size)):=by
   unfold kJ1;rw[kCm h0I,kCm h1I,kAz h0B,kAz h1B]
  have c02:(0:Int)<2:=by omega
  have c12:(1:Int)<2:=by omega
  have t1:(1:Int).toNat=1:=rfl
  have hBn:∀b∈B,0≤b∧b≤1000000000000:=fun b hb=>by
   obtain⟨j,hj,rfl⟩:=List.mem_iff_getElem.1 hb;have:=(kH0 hi2 (j:=j) (by omega)).2
   rw[kAz hj]at this;omega
  have hst:∀i∈I,∀y∈i.symbols,0≤y.start∧y.start≤1000000000000:=fun i hi y hy=>by
   obtain⟨j,hj,rfl⟩:=List.mem_iff_getElem.1 hi;have:=(kH0 hi2 (j:=j) (by omega)).1
   rw[kCm hj]at this;obtain⟨A,hA⟩:=kNu this;obtain⟨m,hm,rfl⟩:=List.mem_iff_getElem.1 hy;have h1:=hA.lt hm;have h2:=hA.big;omega
  cases ho:kJ1 I B with
  |true =>
   rw[k7h ho];rw[ho]at hov;have hov:=hov.symm;simp only[Bool.and_eq_true,decide_eq_true_eq]at hov;obtain⟨⟨⟨v1,v2⟩,v3⟩,v4⟩:=hov;have v1i:(0:Int)<I[0].code.size:=by omega
   have v2i:(0:Int)<I[1].code.size:=by omega
   (repeat' (first|apply zS|apply zB|((first|apply zW| refine zd 32 (h:=?_)|refine zd 11 (h:=?_));simp only[go_sem,hge,l1,l2,c02,c12,t1,r0,r1,b0,b1,encImage,encI,v1i,v2i,v3,v4])|apply And.intro|intro _))
   all_goals first|omega|skip
  |false =>
   rw[ho]at hov;have hloop:∀k (hk:k<E.length),kC3 I B E[k]=false→kAl I B E=false:=fun k hk h=>qGs hk h
   have hyes:=sp_ok (I:=I) (B:=B) (E:=E) ⟨g1,g2,g3,g4⟩ hi2 ho;by_cases v1:(0:Int)<I[0].code.size
   ·by_cases v2:(0:Int)<I[1].code.size
    ·by_cases v3:B[0]<B[1]+(I[1].code.size:Int)
     ·have v4:¬B[1]<B[0]+(I[0].code.size:Int):=fun h=>by
       rw[decide_eq_true (by omega:0<I[0].code.size),decide_eq_true (by omega:0<I[1].code.size),decide_eq_true v3,decide_eq_true h]at hov
       cases hov
      (repeat' (first|apply zS|apply zB|((first|apply zW| refine zd 32 (h:=?_)|refine zd 11 (h:=?_));simp only[go_sem,hge,l1,l2,c02,c12,t1,r0,r1,b0,b1,encImage,encI,v1,v2,v3,v4])|apply And.intro|intro _))
      all_goals first|omega|skip
      refine zL (fun k:Nat=>⟨[(1,.ptr 1 0 0 0),(6,.v (.int .i64 k))],[(1,.box 51 [.sl 2 (I.map encImage),.sl 1 (B.map encI),.sl 1 (E.map encI)])]⟩)
       (fun k=>k≤E.length∧∀i (hi:i<E.length),i<k→kC3 I B E[i]=true) (fun k=>E.length-k) 0 (by simp) ?_ ?_
      ·(simp only[go_sem]<;>(first|(and_intros<;>rfl)|simp))
      intro k ⟨hk,hf⟩;by_cases hlt:k<E.length
      ·have hli:(k:Int)<E.length:=by omega
       have hre:=kAa encI E k hlt;have hes:=kQo g1 hi2 ho E[k];unfold entS at hes;obtain⟨hlo1,hlo2⟩:=kTa I B E[k];by_cases hn:locI I B E[k]<0
       ·rw[if_pos hn]at hes;rw[hloop k hlt hes.symm]
        (repeat' (first|apply zS|apply zB|((first|apply zW| refine zd 32 (h:=?_)|refine zd 11 (h:=?_));simp only[go_sem,hli,hre,encI,hn])|apply And.intro|intro _))
        all_goals first|omega|exact(hIm _ ‹_›).1|exact(hIm _ ‹_›).2.1|exact(hIm _ ‹_›).2.2 _ ‹_›|exact g2.trans g1.symm|exact(hBn _ ‹_›).1|exact(hBn _ ‹_›).2|exact hIm _ ‹_›|skip
       rw[if_neg hn]at hes;obtain⟨m,hm⟩:∃m:Nat,locI I B E[k]=m:=⟨(locI I B E[k]).toNat,by omega⟩
       have hmI:m<I.length:=by omega
       have hmB:m<B.length:=by omega
       have hmi:(m:Int)<I.length:=by omega
       have hm2:(m:Int)<2:=by omega
       have hm0:¬(m:Int)<0:=by omega
       rw[hm,Int.toNat_natCast,kCm hmI,kAz hmB]at hes;have hrm:=kAa encImage I m hmI;obtain⟨y1,y2,y3⟩:=hIm _ (List.getElem_mem hmI);simp only at y1 y2 y3;have hgB:B.getD m 0=B[m]:=kAz hmB 0;obtain⟨hs1,hs2⟩:=kTb (kAh (E[k]-B[m])) I[m].symbols;by_cases hz:firstIdx (kAh (E[k]-B[m])) I[m].symbols<0
       ·have hzF:¬0≤firstIdx (kAh (E[k]-B[m])) I[m].symbols:=by omega
        rw[decide_eq_false hzF,Bool.false_and]at hes;rw[hloop k hlt hes.symm]
        (repeat' (first|apply zS|apply zB|((first|refine WP.kL6 (id:=19) ?_);simp only[go_sem,hli,hre,encI,hm,hm0,hmi,hm2,l1,hrm,encImage,hz,hgB,lk0])|((first|apply zW| refine zd 32 (h:=?_)|refine zd 11 (h:=?_));simp only[go_sem,hli,hre,encI,hm,hm0,hmi,hm2,l1,hrm,encImage,hz,hgB,lk0])|apply And.intro|intro _))
        all_goals first|omega|exact(hIm _ ‹_›).1|exact(hIm _ ‹_›).2.1|exact(hIm _ ‹_›).2.2 _ ‹_›|exact g2.trans g1.symm|exact(hBn _ ‹_›).1|exact(hBn _ ‹_›).2|exact hIm _ ‹_›|skip
       obtain⟨n,hn2⟩:∃n:Nat,firstIdx (kAh (E[k]-B[m])) I[m].symbols=n:=⟨(firstIdx (kAh (E[k]-B[m])) I[m].symbols).toNat,by omega⟩
       have hnY:n<I[m].symbols.length:=by omega
       have hnYi:(n:Int)<I[m].symbols.length:=by omega
       have hn0:¬(n:Int)<0:=by omega
       have hnT:(0:Int)≤(n:Int):=by omega
       rw[hn2,Int.toNat_natCast,decide_eq_true hnT,Bool.true_and,List.getD_eq_getElem?_getD,List.getElem?_eq_getElem hnY,Option.getD_some]at hes;have hry:=kAa encSymbol I[m].symbols n hnY;by_cases hst2:I[m].symbols[n].start=E[k]-B[m]
       ·rw[decide_eq_true hst2]at hes;have he:=hes.symm
        (repeat' (first|apply zS|apply zB|((first|apply zW| refine zd 32 (h:=?_)|refine zd 11 (h:=?_));simp only[go_sem,hli,hre,encI,hm,hm0,hmi,hm2,l1,hrm,encImage,hn2,hn0,hnYi,hry,encSymbol,hst2,hgB])|apply And.intro|intro _))
        all_goals first|omega|exact(hIm _ ‹_›).1|exact(hIm _ ‹_›).2.1|exact(hIm _ ‹_›).2.2 _ ‹_›|exact g2.trans g1.symm|exact(hBn _ ‹_›).1|exact(hBn _ ‹_›).2|exact hIm _ ‹_›|exact⟨k+1,⟨by omega,fun i hi hik=>by
         rcases Nat.lt_or_ge i k with h|h
         ·exact hf i hi h
         ·have:i=k:=by omega
          subst this;exact he⟩,by omega,by(first|(and_intros<;>rfl)|simp)⟩|skip
       ·rw[decide_eq_false hst2]at hes;rw[hloop k hlt hes.symm]
        (repeat' (first|apply zS|apply zB|((first|apply zW| refine zd 32 (h:=?_)|refine zd 11 (h:=?_));simp only[go_sem,hli,hre,encI,hm,hm0,hmi,hm2,l1,hrm,encImage,hn2,hn0,hnYi,hry,encSymbol,hst2,hgB])|apply And.intro|intro _))
        all_goals first|omega|exact(hIm _ ‹_›).1|exact(hIm _ ‹_›).2.1|exact(hIm _ ‹_›).2.2 _ ‹_›|exact g2.trans g1.symm|exact(hBn _ ‹_›).1|exact(hBn _ ‹_›).2|exact hIm _ ‹_›|skip
      ·have hge2:¬(k:Int)<E.length:=by omega
       rw[hyes fun i hi=>hf i hi (by omega)]
       (repeat' (first|apply zS|apply zB|((first|apply zW| refine zd 32 (h:=?_)|refine zd 11 (h:=?_));simp only[go_sem,hge2])|apply And.intro|intro _))
       all_goals first|omega|skip
     ·(repeat' (first|apply zS|apply zB|((first|apply zW| refine zd 32 (h:=?_)|refine zd 11 (h:=?_));simp only[go_sem,hge,l1,l2,c02,c12,t1,r0,r1,b0,b1,encImage,encI,v1,v2,v3])|apply And.intro|intro _))
      all_goals first|omega|skip
      refine zL (fun k:Nat=>⟨[(1,.ptr 1 0 0 0),(6,.v (.int .i64 k))],[(1,.box 51 [.sl 2 (I.map encImage),.sl 1 (B.map encI),.sl 1 (E.map encI)])]⟩)
       (fun k=>k≤E.length∧∀i (hi:i<E.length),i<k→kC3 I B E[i]=true) (fun k=>E.length-k) 0 (by simp) ?_ ?_
      ·(simp only[go_sem]<;>(first|(and_intros<;>rfl)|simp))
      intro k ⟨hk,hf⟩;by_cases hlt:k<E.length
      ·have hli:(k:Int)<E.length:=by omega
       have hre:=kAa encI E k hlt;have hes:=kQo g1 hi2 ho E[k];unfold entS at hes;obtain⟨hlo1,hlo2⟩:=kTa I B E[k];by_cases hn:locI I B E[k]<0
       ·rw[if_pos hn]at hes;rw[hloop k hlt hes.symm]
        (repeat' (first|apply zS|apply zB|((first|apply zW| refine zd 32 (h:=?_)|refine zd 11 (h:=?_));simp only[go_sem,hli,hre,encI,hn])|apply And.intro|intro _))
        all_goals first|omega|exact(hIm _ ‹_›).1|exact(hIm _ ‹_›).2.1|exact(hIm _ ‹_›).2.2 _ ‹_›|exact g2.trans g1.symm|exact(hBn _ ‹_›).1|exact(hBn _ ‹_›).2|exact hIm _ ‹_›|skip
       rw[if_neg hn]at hes;obtain⟨m,hm⟩:∃m:Nat,locI I B E[k]=m:=⟨(locI I B E[k]).toNat,by omega⟩
       have hmI:m<I.length:=by omega
       have hmB:m<B.length:=by omega
       have hmi:(m:Int)<I.length:=by omega
       have hm2:(m:Int)<2:=by omega
       have hm0:¬(m:Int)<0:=by omega
       rw[hm,Int.toNat_natCast,kCm hmI,kAz hmB]at hes;have hrm:=kAa encImage I m hmI;obtain⟨y1,y2,y3⟩:=hIm _ (List.getElem_mem hmI);simp only at y1 y2 y3;have hgB:B.getD m 0=B[m]:=kAz hmB 0;obtain⟨hs1,hs2⟩:=kTb (kAh (E[k]-B[m])) I[m].symbols;by_cases hz:firstIdx (kAh (E[k]-B[m])) I[m].symbols<0
       ·have hzF:¬0≤firstIdx (kAh (E[k]-B[m])) I[m].symbols:=by omega
        rw[decide_eq_false hzF,Bool.false_and]at hes;rw[hloop k hlt hes.symm]
        (repeat' (first|apply zS|apply zB|((first|refine WP.kL6 (id:=19) ?_);simp only[go_sem,hli,hre,encI,hm,hm0,hmi,hm2,l1,hrm,encImage,hz,hgB,lk0])|((first|apply zW| refine zd 32 (h:=?_)|refine zd 11 (h:=?_));simp only[go_sem,hli,hre,encI,hm,hm0,hmi,hm2,l1,hrm,encImage,hz,hgB,lk0])|apply And.intro|intro _))
        all_goals first|omega|exact(hIm _ ‹_›).1|exact(hIm _ ‹_›).2.1|exact(hIm _ ‹_›).2.2 _ ‹_›|exact g2.trans g1.symm|exact(hBn _ ‹_›).1|exact(hBn _ ‹_›).2|exact hIm _ ‹_›|skip
       obtain⟨n,hn2⟩:∃n:Nat,firstIdx (kAh (E[k]-B[m])) I[m].symbols=n:=⟨(firstIdx (kAh (E[k]-B[m])) I[m].symbols).toNat,by omega⟩
       have hnY:n<I[m].symbols.length:=by omega
       have hnYi:(n:Int)<I[m].symbols.length:=by omega
       have hn0:¬(n:Int)<0:=by omega
       have hnT:(0:Int)≤(n:Int):=by omega
       rw[hn2,Int.toNat_natCast,decide_eq_true hnT,Bool.true_and,List.getD_eq_getElem?_getD,List.getElem?_eq_getElem hnY,Option.getD_some]at hes;have hry:=kAa encSymbol I[m].symbols n hnY;by_cases hst2:I[m].symbols[n].start=E[k]-B[m]
       ·rw[decide_eq_true hst2]at hes;have he:=hes.symm
        (repeat' (first|apply zS|apply zB|((first|apply zW| refine zd 32 (h:=?_)|refine zd 11 (h:=?_));simp only[go_sem,hli,hre,encI,hm,hm0,hmi,hm2,l1,hrm,encImage,hn2,hn0,hnYi,hry,encSymbol,hst2,hgB])|apply And.intro|intro _))
        all_goals first|omega|exact(hIm _ ‹_›).1|exact(hIm _ ‹_›).2.1|exact(hIm _ ‹_›).2.2 _ ‹_›|exact g2.trans g1.symm|exact(hBn _ ‹_›).1|exact(hBn _ ‹_›).2|exact hIm _ ‹_›|exact⟨k+1,⟨by omega,fun i hi hik=>by
         rcases Nat.lt_or_ge i k with h|h
         ·exact hf i hi h
         ·have:i=k:=by omega
          subst this;exact he⟩,by omega,by(first|(and_intros<;>rfl)|simp)⟩|skip
       ·rw[decide_eq_false hst2]at hes;rw[hloop k hlt hes.symm]
        (repeat' (first|apply zS|apply zB|((first|apply zW| refine zd 32 (h:=?_)|refine zd 11 (h:=?_));simp only[go_sem,hli,hre,encI,hm,hm0,hmi,hm2,l1,hrm,encImage,hn2,hn0,hnYi,hry,encSymbol,hst2,hgB])|apply And.intro|intro _))
        all_goals first|omega|exact(hIm _ ‹_›).1|exact(hIm _ ‹_›).2.1|exact(hIm _ ‹_›).2.2 _ ‹_›|exact g2.trans g1.symm|exact(hBn _ ‹_›).1|exact(hBn _ ‹_›).2|exact hIm _ ‹_›|skip
      ·have hge2:¬(k:Int)<E.length:=by omega
       rw[hyes fun i hi=>hf i hi (by omega)]
       (repeat' (first|apply zS|apply zB|((first|apply zW| refine zd 32 (h:=?_)|refine zd 11 (h:=?_));simp only[go_sem,hge2])|apply And.intro|intro _))
       all_goals first|omega|skip
    ·(repeat' (first|apply zS|apply zB|((first|apply zW| refine zd 32 (h:=?_)|refine zd 11 (h:=?_));simp only[go_sem,hge,l1,l2,c02,c12,t1,r0,r1,b0,b1,encImage,encI,v1,v2])|apply And.intro|intro _))
     all_goals first|omega|skip
     refine zL (fun k:Nat=>⟨[(1,.ptr 1 0 0 0),(6,.v (.int .i64 k))],[(1,.box 51 [.sl 2 (I.map encImage),.sl 1 (B.map encI),.sl 1 (E.map encI)])]⟩)
      (fun k=>k≤E.length∧∀i (hi:i<E.length),i<k→kC3 I B E[i]=true) (fun k=>E.length-k) 0 (by simp) ?_ ?_
     ·(simp only[go_sem]<;>(first|(and_intros<;>rfl)|simp))
     intro k ⟨hk,hf⟩;by_cases hlt:k<E.length
     ·have hli:(k:Int)<E.length:=by omega
      have hre:=kAa encI E k hlt;have hes:=kQo g1 hi2 ho E[k];unfold entS at hes;obtain⟨hlo1,hlo2⟩:=kTa I B E[k];by_cases hn:locI I B E[k]<0
      ·rw[if_pos hn]at hes;rw[hloop k hlt hes.symm]
       (repeat' (first|apply zS|apply zB|((first|apply zW| refine zd 32 (h:=?_)|refine zd 11 (h:=?_));simp only[go_sem,hli,hre,encI,hn])|apply And.intro|intro _))
       all_goals first|omega|exact(hIm _ ‹_›).1|exact(hIm _ ‹_›).2.1|exact(hIm _ ‹_›).2.2 _ ‹_›|exact g2.trans g1.symm|exact(hBn _ ‹_›).1|exact(hBn _ ‹_›).2|exact hIm _ ‹_›|skip
      rw[if_neg hn]at hes;obtain⟨m,hm⟩:∃m:Nat,locI I B E[k]=m:=⟨(locI I B E[k]).toNat,by omega⟩
      have hmI:m<I.length:=by omega
      have hmB:m<B.length:=by omega
      have hmi:(m:Int)<I.length:=by omega
      have hm2:(m:Int)<2:=by omega
      have hm0:¬(m:Int)<0:=by omega
      rw[hm,Int.toNat_natCast,kCm hmI,kAz hmB]at hes;have hrm:=kAa encImage I m hmI;obtain⟨y1,y2,y3⟩:=hIm _ (List.getElem_mem hmI);simp only at y1 y2 y3;have hgB:B.getD m 0=B[m]:=kAz hmB 0;obtain⟨hs1,hs2⟩:=kTb (kAh (E[k]-B[m])) I[m].symbols;by_cases hz:firstIdx (kAh (E[k]-B[m])) I[m].symbols<0
      ·have hzF:¬0≤firstIdx (kAh (E[k]-B[m])) I[m].symbols:=by omega
       rw[decide_eq_false hzF,Bool.false_and]at hes;rw[hloop k hlt hes.symm]
       (repeat' (first|apply zS|apply zB|((first|refine WP.kL6 (id:=19) ?_);simp only[go_sem,hli,hre,encI,hm,hm0,hmi,hm2,l1,hrm,encImage,hz,hgB,lk0])|((first|apply zW| refine zd 32 (h:=?_)|refine zd 11 (h:=?_));simp only[go_sem,hli,hre,encI,hm,hm0,hmi,hm2,l1,hrm,encImage,hz,hgB,lk0])|apply And.intro|intro _))
       all_goals first|omega|exact(hIm _ ‹_›).1|exact(hIm _ ‹_›).2.1|exact(hIm _ ‹_›).2.2 _ ‹_›|exact g2.trans g1.symm|exact(hBn _ ‹_›).1|exact(hBn _ ‹_›).2|exact hIm _ ‹_›|skip
      obtain⟨n,hn2⟩:∃n:Nat,firstIdx (kAh (E[k]-B[m])) I[m].symbols=n:=⟨(firstIdx (kAh (E[k]-B[m])) I[m].symbols).toNat,by omega⟩
      have hnY:n<I[m].symbols.length:=by omega
      have hnYi:(n:Int)<I[m].symbols.length:=by omega
      have hn0:¬(n:Int)<0:=by omega
      have hnT:(0:Int)≤(n:Int):=by omega
      rw[hn2,Int.toNat_natCast,decide_eq_true hnT,Bool.true_and,List.getD_eq_getElem?_getD,List.getElem?_eq_getElem hnY,Option.getD_some]at hes;have hry:=kAa encSymbol I[m].symbols n hnY;by_cases hst2:I[m].symbols[n].start=E[k]-B[m]
      ·rw[decide_eq_true hst2]at hes;have he:=hes.symm
       (repeat' (first|apply zS|apply zB|((first|apply zW| refine zd 32 (h:=?_)|refine zd 11 (h:=?_));simp only[go_sem,hli,hre,encI,hm,hm0,hmi,hm2,l1,hrm,encImage,hn2,hn0,hnYi,hry,encSymbol,hst2,hgB])|apply And.intro|intro _))
       all_goals first|omega|exact(hIm _ ‹_›).1|exact(hIm _ ‹_›).2.1|exact(hIm _ ‹_›).2.2 _ ‹_›|exact g2.trans g1.symm|exact(hBn _ ‹_›).1|exact(hBn _ ‹_›).2|exact hIm _ ‹_›|exact⟨k+1,⟨by omega,fun i hi hik=>by
        rcases Nat.lt_or_ge i k with h|h
        ·exact hf i hi h
        ·have:i=k:=by omega
         subst this;exact he⟩,by omega,by(first|(and_intros<;>rfl)|simp)⟩|skip
      ·rw[decide_eq_false hst2]at hes;rw[hloop k hlt hes.symm]
       (repeat' (first|apply zS|apply zB|((first|apply zW| refine zd 32 (h:=?_)|refine zd 11 (h:=?_));simp only[go_sem,hli,hre,encI,hm,hm0,hmi,hm2,l1,hrm,encImage,hn2,hn0,hnYi,hry,encSymbol,hst2,hgB])|apply And.intro|intro _))
       all_goals first|omega|exact(hIm _ ‹_›).1|exact(hIm _ ‹_›).2.1|exact(hIm _ ‹_›).2.2 _ ‹_›|exact g2.trans g1.symm|exact(hBn _ ‹_›).1|exact(hBn _ ‹_›).2|exact hIm _ ‹_›|skip
     ·have hge2:¬(k:Int)<E.length:=by omega
      rw[hyes fun i hi=>hf i hi (by omega)]
      (repeat' (first|apply zS|apply zB|((first|apply zW| refine zd 32 (h:=?_)|refine zd 11 (h:=?_));simp only[go_sem,hge2])|apply And.intro|intro _))
      all_goals first|omega|skip
   ·(repeat' (first|apply zS|apply zB|((first|apply zW| refine zd 32 (h:=?_)|refine zd 11 (h:=?_));simp only[go_sem,hge,l1,l2,c02,c12,t1,r0,r1,b0,b1,encImage,encI,v1])|apply And.intro|intro _))
    all_goals first|omega|skip
    refine zL (fun k:Nat=>⟨[(1,.ptr 1 0 0 0),(6,.v (.int .i64 k))],[(1,.box 51 [.sl 2 (I.map encImage),.sl 1 (B.map encI),.sl 1 (E.map encI)])]⟩)
     (fun k=>k≤E.length∧∀i (hi:i<E.length),i<k→kC3 I B E[i]=true) (fun k=>E.length-k) 0 (by simp) ?_ ?_
    ·(simp only[go_sem]<;>(first|(and_intros<;>rfl)|simp))
    intro k ⟨hk,hf⟩;by_cases hlt:k<E.length
    ·have hli:(k:Int)<E.length:=by omega
     have hre:=kAa encI E k hlt;have hes:=kQo g1 hi2 ho E[k];unfold entS at hes;obtain⟨hlo1,hlo2⟩:=kTa I B E[k];by_cases hn:locI I B E[k]<0
     ·rw[if_pos hn]at hes;rw[hloop k hlt hes.symm]
      (repeat' (first|apply zS|apply zB|((first|apply zW| refine zd 32 (h:=?_)|refine zd 11 (h:=?_));simp only[go_sem,hli,hre,encI,hn])|apply And.intro|intro _))
      all_goals first|omega|exact(hIm _ ‹_›).1|exact(hIm _ ‹_›).2.1|exact(hIm _ ‹_›).2.2 _ ‹_›|exact g2.trans g1.symm|exact(hBn _ ‹_›).1|exact(hBn _ ‹_›).2|exact hIm _ ‹_›|skip
     rw[if_neg hn]at hes;obtain⟨m,hm⟩:∃m:Nat,locI I B E[k]=m:=⟨(locI I B E[k]).toNat,by omega⟩
     have hmI:m<I.length:=by omega
     have hmB:m<B.length:=by omega
     have hmi:(m:Int)<I.length:=by omega
     have hm2:(m:Int)<2:=by omega
     have hm0:¬(m:Int)<0:=by omega
     rw[hm,Int.toNat_natCast,kCm hmI,kAz hmB]at hes;have hrm:=kAa encImage I m hmI;obtain⟨y1,y2,y3⟩:=hIm _ (List.getElem_mem hmI);simp only at y1 y2 y3;have hgB:B.getD m 0=B[m]:=kAz hmB 0;obtain⟨hs1,hs2⟩:=kTb (kAh (E[k]-B[m])) I[m].symbols;by_cases hz:firstIdx (kAh (E[k]-B[m])) I[m].symbols<0
     ·have hzF:¬0≤firstIdx (kAh (E[k]-B[m])) I[m].symbols:=by omega
      rw[decide_eq_false hzF,Bool.false_and]at hes;rw[hloop k hlt hes.symm]
      (repeat' (first|apply zS|apply zB|((first|refine WP.kL6 (id:=19) ?_);simp only[go_sem,hli,hre,encI,hm,hm0,hmi,hm2,l1,hrm,encImage,hz,hgB,lk0])|((first|apply zW| refine zd 32 (h:=?_)|refine zd 11 (h:=?_));simp only[go_sem,hli,hre,encI,hm,hm0,hmi,hm2,l1,hrm,encImage,hz,hgB,lk0])|apply And.intro|intro _))
      all_goals first|omega|exact(hIm _ ‹_›).1|exact(hIm _ ‹_›).2.1|exact(hIm _ ‹_›).2.2 _ ‹_›|exact g2.trans g1.symm|exact(hBn _ ‹_›).1|exact(hBn _ ‹_›).2|exact hIm _ ‹_›|skip
     obtain⟨n,hn2⟩:∃n:Nat,firstIdx (kAh (E[k]-B[m])) I[m].symbols=n:=⟨(firstIdx (kAh (E[k]-B[m])) I[m].symbols).toNat,by omega⟩
     have hnY:n<I[m].symbols.length:=by omega
     have hnYi:(n:Int)<I[m].symbols.length:=by omega
     have hn0:¬(n:Int)<0:=by omega
     have hnT:(0:Int)≤(n:Int):=by omega
     rw[hn2,Int.toNat_natCast,decide_eq_true hnT,Bool.true_and,List.getD_eq_getElem?_getD,List.getElem?_eq_getElem hnY,Option.getD_some]at hes;have hry:=kAa encSymbol I[m].symbols n hnY;by_cases hst2:I[m].symbols[n].start=E[k]-B[m]
     ·rw[decide_eq_true hst2]at hes;have he:=hes.symm
      (repeat' (first|apply zS|apply zB|((first|apply zW| refine zd 32 (h:=?_)|refine zd 11 (h:=?_));simp only[go_sem,hli,hre,encI,hm,hm0,hmi,hm2,l1,hrm,encImage,hn2,hn0,hnYi,hry,encSymbol,hst2,hgB])|apply And.intro|intro _))
      all_goals first|omega|exact(hIm _ ‹_›).1|exact(hIm _ ‹_›).2.1|exact(hIm _ ‹_›).2.2 _ ‹_›|exact g2.trans g1.symm|exact(hBn _ ‹_›).1|exact(hBn _ ‹_›).2|exact hIm _ ‹_›|exact⟨k+1,⟨by omega,fun i hi hik=>by
       rcases Nat.lt_or_ge i k with h|h
       ·exact hf i hi h
       ·have:i=k:=by omega
        subst this;exact he⟩,by omega,by(first|(and_intros<;>rfl)|simp)⟩|skip
     ·rw[decide_eq_false hst2]at hes;rw[hloop k hlt hes.symm]
      (repeat' (first|apply zS|apply zB|((first|apply zW| refine zd 32 (h:=?_)|refine zd 11 (h:=?_));simp only[go_sem,hli,hre,encI,hm,hm0,hmi,hm2,l1,hrm,encImage,hn2,hn0,hnYi,hry,encSymbol,hst2,hgB])|apply And.intro|intro _))
      all_goals first|omega|exact(hIm _ ‹_›).1|exact(hIm _ ‹_›).2.1|exact(hIm _ ‹_›).2.2 _ ‹_›|exact g2.trans g1.symm|exact(hBn _ ‹_›).1|exact(hBn _ ‹_›).2|exact hIm _ ‹_›|skip
    ·have hge2:¬(k:Int)<E.length:=by omega
     rw[hyes fun i hi=>hf i hi (by omega)]
     (repeat' (first|apply zS|apply zB|((first|apply zW| refine zd 32 (h:=?_)|refine zd 11 (h:=?_));simp only[go_sem,hge2])|apply And.intro|intro _))
     all_goals first|omega|skip
end
end Go.Proofs.YtjdklcjoeanimaaGreat

namespace Go.Vc
def allV (rows:List (List SV)):Prop:=∀row∈rows,∀c∈row,∃x,c=.v x
theorem ObR.toSl {w:World}{X X':Nat→Prop}{β:Nat→BV}{v:BV}{e s:Nat}{rows:List (List SV)}(h:ObR w X' β v (.sl e s rows)) (hX:∀b,v.ft b→¬X b) (hv:allV rows):Rp w X (.sl s rows) v.val:=by
 cases h with
 |nil e s h=>subst h;exact .nil s _ _
 |sl b cap cur us hv' hh h1 h2 h3 h4 h5 h6 h7 =>
  subst hv';refine .sl b 0 cap us (hX b rfl) (lt_of_heap hh) h1 h4 (fun i k row c hr hc=>?_) h6 (fun i k row c hr hc=>?_)
  ·simp only[World.cell?,hh,Nat.zero_add];exact h5 i k row c hr hc
  ·obtain⟨x,rfl⟩:=hv row (List.mem_of_getElem? hr) c (List.mem_of_getElem? hc);have:=h7 i k row _ hr hc;cases this;exact .v _
section
variable {P:Program}{f:FuncId}{args:List SV}{d e s:Nat}{rows:List (List SV)}
theorem Holds.frozen (h:Holds P f args (.own d) [(d,.sl e s rows)]) (hv:allV rows):Holds P f args (.sl s rows) []:=by
 intro w X vs hG hX hl ha;refine(h w X vs hG hX hl ha).mono fun en w' ⟨v,β,he,hb,hβ,hR,hO,hn⟩=>?_
 refine⟨v,β,he,hb,hβ,?_,⟨fun id ob hi=>(by cases hi),fun i j oi oj b hi=>(by cases hi)⟩,fun id ob b hi=>(by cases hi)⟩
 have:=hR.kBm;subst this;refine .p ((hO.1 d (.sl e s rows) (by simp[lk])).toSl (fun b hb' hx=>?_) hv)
 have h1:=hn d (.sl e s rows) b (by simp[lk]) hb'
 rcases hx with hx|⟨i,o,hi,_⟩
 ·have:=hX b hx;omega
 ·cases hi
theorem Holds.kI0 {y:Value}(h:Holds P f args (.tup [.own d,.v y]) [(d,.sl e s rows)]) (hv:allV rows):Holds P f args (.tup [.sl s rows,.v y]) []:=by
 intro w X vs hG hX hl ha;refine(h w X vs hG hX hl ha).mono fun en w' ⟨v,β,he,hb,hβ,hR,hO,hn⟩=>?_
 refine⟨v,β,he,hb,hβ,?_,⟨fun id ob hi=>(by cases hi),fun i j oi oj b hi=>(by cases hi)⟩,fun id ob b hi=>(by cases hi)⟩
 obtain⟨us,rfl,hul,hh⟩:=hR.kN4;refine .tup hul fun k c u hc hu=>?_
 match k,hc with
 | 0,hc =>
  simp at hc;subst hc;have:=(hh 0 _ u rfl hu).kBm;subst this;refine .p ((hO.1 d (.sl e s rows) (by simp[lk])).toSl (fun b hb' hx=>?_) hv)
  have h1:=hn d (.sl e s rows) b (by simp[lk]) hb'
  rcases hx with hx|⟨i,o,hi,_⟩
  ·have:=hX b hx;omega
  ·cases hi
 | 1,hc =>
  simp at hc;subst hc;have:=(hh 1 _ u rfl hu).kAm
  subst this;exact .p (.v _)
 |k+2,hc=>simp at hc
end
theorem Cn.frozen {P:Program}{f:FuncId}{X:Type}{dec:List SV→X}{A:X→List SV}{pre:X→Prop}{e s:Nat}{rows:X→List (List SV)}(hv:∀x,allV (rows x))
  (h:Cn P f (Go.Vc.pur dec A pre (fun d _=>.own d) (fun d x=>[(d,.sl e s (rows x))]))):Cn P f (Go.Vc.pur dec A pre (fun _ x=>.sl s (rows x)) (fun _ _=>[])) :=
 ⟨h.call,fun d args ha=>(h.holds d args ha).frozen (hv _),fun _ _ _ h=>h.elim⟩
theorem Cn.kI0 {P:Program}{f:FuncId}{X:Type}{dec:List SV→X}{A:X→List SV}{pre:X→Prop}{e s:Nat}{rows:X→List (List SV)}{y:X→Value}(hv:∀x,allV (rows x))
  (h:Cn P f (Go.Vc.pur dec A pre (fun d x=>.tup [.own d,.v (y x)]) (fun d x=>[(d,.sl e s (rows x))]))):Cn P f (Go.Vc.pur dec A pre (fun _ x=>.tup [.sl s (rows x),.v (y x)]) (fun _ _=>[])) :=
 ⟨h.call,fun d args ha=>(h.holds d args ha).kI0 (hv _),fun _ _ _ h=>h.elim⟩
end Go.Vc

