/- DERIVED. Steps of the proof. -/
import Derived.Test.YtjdklcjoeanimaaGreatVf7
import Derived.Test.YtjdklcjoeanimaaGreatVf8
import Derived.Orders
set_option linter.all false
set_option maxHeartbeats 1000000
set_option maxRecDepth 10000
namespace Go.Proofs.YtjdklcjoeanimaaGreat
open Go.Vc Tryz
attribute [local irreducible] Go.Vc.WP
theorem k53 (L:List Inline) (o:Int):(kF6 L o).length≤L.length:=by
 unfold kF6;split
 ·exact List.length_filter_le ..
 ·simp
def kNm (o:Int) (x:Inline):Bool:=decide (x.start≤o∧o<x.stop)
theorem k9x {L:List Inline}{o:Int}(h:kGq L=true):kF6 L o=L.filter (kNm o):=if_pos h
theorem k9y {L:List Inline}{o:Int}(h:kGq L=false):kF6 L o=[]:=if_neg (by rw[h];simp)
theorem k2v {o:Int}{x:Inline}(h:¬(x.start≤o∧o<x.stop)):kNm o x=false:=decide_eq_false h
theorem qJh {o:Int}{x:Inline}(h1:x.start≤o) (h2:o<x.stop):kNm o x=true:=decide_eq_true ⟨h1,h2⟩
theorem qC6 {L:List Inline}{o:Int}{k:Nat}(h:k<L.length) (hp:kNm o L[k]=false):(L.take (k+1)).filter (kNm o)=(L.take k).filter (kNm o):=by
 rw[jQw h,List.filter_append,List.filter_cons_of_neg (by rw[hp];simp),wJz,jSt]
theorem k9z {L:List Inline}{o:Int}{k:Nat}(h:k<L.length) (hp:kNm o L[k]=true):(L.take (k+1)).filter (kNm o)=(L.take k).filter (kNm o)++[L[k]]:=by
 rw[jQw h,List.filter_append,List.filter_cons_of_pos hp,wJz]
theorem qC7 (L:List Inline) (o:Int) (k:Nat) (hk:k≤L.length):((L.take k).filter (kNm o)).length≤k:=by
 refine jZ9 (List.length_filter_le ..) ?_;rw[jOb];omega
section
def cxIaS:=kc qMr kn
theorem kQp {p:Prop}(h:p:=by first|omega|exact hpre|exact hN _ ‹_›|exact⟨_,_,rfl⟩|rfl):p:=h
theorem kQq {p:Prop}(h:p:=by first|omega|rfl|exact hN _ ‹_›|exact⟨_,_,rfl⟩|exact⟨k+1,by omega,by omega,by rw[h1];(first|(and_intros<;>rfl)|simp)⟩):p:=h
theorem k2w {p:Prop}(h:p:=by first|omega|rfl|exact hN _ ‹_›|exact⟨_,_,rfl⟩|exact⟨k+1,by omega,by omega,by rw[h1,jNq];(first|(and_intros<;>rfl)|simp)⟩):p:=h
theorem qMo:Cq 226 qC5:=by
 refine zp fun d x hx=>?_
 obtain⟨L,o⟩:=x;have hpre:=hx;obtain⟨hL,hN⟩:=hx;simp only at hL hN hpre⊢;refine zg cxIaS func226 rfl rfl ntmps226 ?_;intros
 cases hok:kGq L with
 |false =>
  rw[k9y hok]
  (repeat' (first|apply zS|apply zB|(apply zW;simp only[go_sem,hok])|apply jAi|exact kQp|intro _))
  refine zM (fun _:Unit=>⟨[(0,.sl 5 (L.map encInline)),(1,vi o),(5,.own 8),(6,.v (.bool false)),(7,vi 0)],[(8,.sl 256 5 [])]⟩) (fun _=>True) (fun _=>0) () trivial ?_
  intro _ _;by_cases hlt:(0:Int)<L.length
  ·exact zx hlt
  ·(repeat' (first|apply zS|apply zB|(apply zW;simp only[go_sem,hlt])|apply jAi|omega|rfl|exact hN _ ‹_›|exact⟨_,_,rfl⟩|intro _))
 |true =>
  rw[k9x hok]
  (repeat' (first|apply zS|apply zB|(apply zW;simp only[go_sem,hok])|apply jAi|exact kQp|intro _))
  refine zM (fun k:Nat=>⟨[(0,.sl 5 (L.map encInline)),(1,vi o),(5,.own 8),(6,.v (.bool true)),(7,vi k)],[(8,.sl 256 5 (((L.take k).filter (kNm o)).map encInline))]⟩) (fun k=>k≤L.length) (fun k=>L.length-k) 0 zs ?_
  intro k hk;have hfl:=qC7 L o k hk;by_cases hlt:k<L.length;rotate_left
  ·have hge:¬(k:Int)<L.length:=zo;obtain rfl:k=L.length:=zo;rw[jJ3]at hfl⊢;exact zx hge
  have hli:(k:Int)<L.length:=zo;have hr:=kAa encInline L k hlt;have hy:=k9z (o:=o) hlt;have hn:=qC6 (o:=o) hlt;generalize L[k]=x at *;obtain⟨a,b,v,l,s⟩:=x;generalize(L.take k).filter (kNm o)=F at *;by_cases c1:a≤o;rotate_left
  ·have h1:=hn (k2v fun h=>c1 h.1)
   (repeat' (first|apply zS|apply zB|(apply zW;simp only[go_sem,hli,hr,encInline,c1])|apply jAi|exact kQq|intro _))
  by_cases c2:o<b;rotate_left
  ·have h1:=hn (k2v fun h=>c2 h.2)
   (repeat' (first|apply zS|apply zB|(apply zW;simp only[go_sem,hli,hr,encInline,c1,c2])|apply jAi|exact kQq|intro _))
  have h1:=hy (qJh c1 c2)
  (repeat' (first|apply zS|apply zB|(apply zW;simp only[go_sem,hli,hr,encInline,c1,c2])|apply jAi|exact k2w|intro _))
def cxIaI:=kc qMs kn
theorem qMp:Cq 263 qC5:=by
 refine zp fun d x hx=>?_
 obtain⟨L,o⟩:=x;have hpre:=hx;obtain⟨hL,hN⟩:=hx;simp only at hL hN hpre⊢;refine zg cxIaI func263 rfl rfl ntmps263 ?_;intros
 cases hok:kGq L with
 |false =>
  rw[k9y hok]
  (repeat' (first|apply zS|apply zB|(apply zW;simp only[go_sem,hok])|apply jAi|exact kQp|intro _))
 |true =>
  rw[k9x hok]
  (repeat' (first|apply zS|apply zB|(apply zW;simp only[go_sem,hok])|apply jAi|exact kQp|intro _))
  refine zM (fun k:Nat=>⟨[(1,vi o),(5,.own 11),(12,.sl 5 (L.map encInline)),(13,vi L.length),(14,vi k)],[(11,.sl 256 5 (((L.take k).filter (kNm o)).map encInline))]⟩) (fun k=>k≤L.length) (fun k=>L.length-k) 0 zs ?_
  intro k hk;have hfl:=qC7 L o k hk;by_cases hlt:k<L.length;rotate_left
  ·have hge:¬(k:Int)<L.length:=zo;obtain rfl:k=L.length:=zo;rw[jJ3]at hfl⊢;exact zx hge
  have hli:(k:Int)<L.length:=zo;have hr:=kAa encInline L k hlt;have hy:=k9z (o:=o) hlt;have hn:=qC6 (o:=o) hlt;generalize L[k]=x at *;obtain⟨a,b,v,l,s⟩:=x;generalize(L.take k).filter (kNm o)=F at *;by_cases c1:a≤o;rotate_left
  ·have h1:=hn (k2v fun h=>c1 h.1)
   (repeat' (first|apply zS|apply zB|(apply zW;simp only[go_sem,hli,hr,encInline,c1])|apply jAi|exact kQq|intro _))
  by_cases c2:o<b;rotate_left
  ·have h1:=hn (k2v fun h=>c2 h.2)
   (repeat' (first|apply zS|apply zB|(apply zW;simp only[go_sem,hli,hr,encInline,c1,c2])|apply jAi|exact kQq|intro _))
  have h1:=hy (qJh c1 c2)
  (repeat' (first|apply zS|apply zB|(apply zW;simp only[go_sem,hli,hr,encInline,c1,c2])|apply jAi|exact k2w|intro _))
end
end Go.Proofs.YtjdklcjoeanimaaGreat
namespace Go.Vc
section
@[go_sem] def St.k68 (tys:List (Nat×TyD)) (C:List (FuncId×Ctr)) (N:Nat) (ops:Array Oper) (o:Oper) (st:St) (K:St→Prop):Prop :=
 match o.guard with
 |none=>st.step tys C N ops o K
 |some (j,want)=>match(ops[j]?).bind (·.dst)with
  |some t=>match kCq want (st.get t)with
   |some false=>kAq N o.dst=true∧K (st.put o.dst (.cond false (kGw tys o)))
   | _=>st.step tys C N ops o K
  |none=>False
@[go_sem] def St.runO (tys:List (Nat×TyD)) (C:List (FuncId×Ctr)) (N:Nat) (ops:Array Oper):List Oper→St→(St→Prop)→Prop
 | [],st,K=>K st
 |o::l,st,K=>st.k68 tys C N ops o fun st'=>St.runO tys C N ops l st' K
section
variable {P:Program}{tys:List (Nat×TyD)}{C:List (FuncId×Ctr)}{N:Nat}{X0:Nat→Prop}{M:Nat→BV→Prop}{w0:World}{st:St}{β:Nat→BV}{a:Act}{w:World}
theorem kWf (h:Sim N X0 M w0 st β a w) {ops:Array Oper}{o:Oper}{j t:Nat}{want g:Bool}(hg:o.guard=some (j,want)) (ht:(ops[j]?).bind (·.dst)=some t) (hc:kCq want (st.get t)=some g):Region.wanted o (yielded ops a.tmps)=g:=by
 have hR:R w (XX X0 β st.hp) β (st.get t) (a.eval (.tmp t)):=St.kC1 h (.tmp t)
 have hy:yielded ops a.tmps j=(match a.tmps.getD t undef with|.bool b=>some b|_=>none):=by
  unfold yielded;rw[ht];simp only[wDt];rw[jMv]
  cases hq:a.tmps[t]? with
  |none=>rfl
  |some v=>cases v<;>rfl
 simp only[Region.wanted,hg,hy];generalize st.get t=y at hc hR;unfold kCq at hc;split at hc
 ·rename_i b;have hv:a.tmps.getD t undef=.bool b:=hR.kAn;rw[hv];cases hc;cases b<;>cases want<;>rfl
 ·rename_i g' b;cases hc
  cases g' with
  |false =>
   have hv:a.tmps.getD t undef=undef:=hR.kM0 rfl
   rw[hv];rfl
  |true =>
   have hv:a.tmps.getD t undef=.bool b:=(hR.kOo rfl).kAn;rw[hv];cases b<;>cases want<;>rfl
 ·cases hc
theorem kZf (hA:Ap P X0 M w0) (hty:∀T d,lk T tys=some d→kAs P T d) (hC:COk P C) (h:Sim N X0 M w0 st β a w) {ops:Array Oper}{o:Oper}{K:St→Prop}(hw:st.k68 tys C N ops o K) {Q:Exit→Act→World→Prop} :
  if Region.wanted o (yielded ops a.tmps)then o.wp P a w (Ok N X0 M w0 K) Q else Ok N X0 M w0 K (a.put o.dst undef) w:=by
 unfold St.k68 at hw
 cases hg:o.guard with
 |none=>rw[hg]at hw;exact kCu hA hty hC h hw
 |some gw =>
  obtain⟨j,want⟩:=gw;rw[hg]at hw;simp only at hw;split at hw
  case h_2=>exact hw.elim
  case h_1 _ t ht =>
   split at hw
   case h_2=>exact kCu hA hty hC h hw
   case h_1 _ hc =>
    have hwt:=kWf h hg ht hc;rw[hwt,if_neg zs];obtain⟨hd,hK⟩:=hw
    cases hdd:o.dst with
    |none=>rw[hdd]at hK;exact⟨_,β,hK,h⟩
    |some d=>rw[hdd]at hK hd;exact⟨_,β,hK,h.put (by simpa[kAq]using hd) (.cond (fun hh=>by cases hh) fun _=>rfl)⟩
theorem kUt (hA:Ap P X0 M w0) (hty:∀T d,lk T tys=some d→kAs P T d) (hC:COk P C) {ops:Array Oper}{K:St→Prop}{Q:Exit→Act→World→Prop}(hQ:∀a w,Ok N X0 M w0 K a w→Q .normal a w) :
  ∀(l:List Oper) {st:St}{β:Nat→BV}{a:Act}{w:World},Sim N X0 M w0 st β a w→St.runO tys C N ops l st K→wpList P ops Q l a w
 | [],st,β,a,w,h,hw=>hQ a w ⟨st,β,hw,h⟩
 |o::l,st,β,a,w,h,hw=>by
  have h1:=kZf (Q:=Q) hA hty hC h hw;unfold wpList;split
  ·rename_i hwt;rw[if_pos hwt]at h1;exact .inl (Oper.wp_mono (fun a' w' ⟨st',β',h2,h3⟩=>kUt hA hty hC hQ l h3 h2) h1)
  ·rename_i hwt;rw[if_neg hwt]at h1;obtain⟨st',β',h2,h3⟩:=h1;exact kUt hA hty hC hQ l h3 h2
end
section
variable {c:Cx}{N:Nat}{X0:Nat→Prop}{M:Nat→BV→Prop}{w0:World}{st:St}{K:Exit→St→Prop}
theorem WP.kQ1 {id:Nat}{l:List Oper}(h:St.runO c.tys c.C N l.toArray l st (K .normal)):WP c N X0 M w0 (.region id l.toArray false) st K:=fun hA β a w hs =>
 wp_region_lit (kUt hA c.hty c.hC (fun a w hk=>hk) l hs h)
end
def kHw (op:BinOp) (a b:Int):Int:=match op with
 | .add=>IntKind.i64.wrap (a+b)
 | .sub=>IntKind.i64.wrap (a-b)
 | .mul=>IntKind.i64.wrap (a*b)
 | _=>0
def kFn:BinOp→Bool
 | .add=>true
 | .sub=>true
 | .mul=>true
 | _=>false
def St.kJa (tys:List (Nat×TyD)) (C:List (FuncId×Ctr)) (N:Nat) (ops:Array Oper) (o:Oper) (st:St) (K:St→Prop):Prop :=
 match o.op with
 | .binOp op T x y U=>match st.ev x,st.ev y with
  | .v (.int .i64 a),.v (.int .i64 b)=>if kFn op=true∧o.guard.isNone=true then kAq N o.dst=true∧K (st.put o.dst (.v (.int .i64 (kHw op a b))))else st.step tys C N ops o K
  | _,_=>st.step tys C N ops o K
 | _=>st.step tys C N ops o K
def St.kLe (tys:List (Nat×TyD)) (C:List (FuncId×Ctr)) (N:Nat) (ops:Array Oper):List Oper→St→(St→Prop)→Prop
 | [],st,K=>K st
 |o::l,st,K=>st.kJa tys C N ops o fun st'=>St.kLe tys C N ops l st' K
theorem k7z {P:Program}{op:BinOp}{T:Nat}{a b:Int}(h:kFn op=true) (ox oy:Operand) (w:World) :
  (do eqGuard op T ox oy (.int .i64 a) (.int .i64 b);binOp op T (.int .i64 a) (.int .i64 b):Sem Value).run P w=.ok (.int .i64 (kHw op a b)) w:=by
 cases op<;>first|(cases h;done)|simp[eqGuard,binOp,Op.intArith,kHw]
section
variable {P:Program}{tys:List (Nat×TyD)}{C:List (FuncId×Ctr)}{N:Nat}{X0:Nat→Prop}{M:Nat→BV→Prop}{w0:World}{st:St}{β:Nat→BV}{a:Act}{w:World}
theorem k70 (hA:Ap P X0 M w0) (hty:∀T d,lk T tys=some d→kAs P T d) (hC:COk P C) (h:Sim N X0 M w0 st β a w) {ops:Array Oper}{o:Oper}{K:St→Prop}(hw:st.kJa tys C N ops o K) {Q:Exit→Act→World→Prop} :
  if Region.wanted o (yielded ops a.tmps)then o.wp P a w (Ok N X0 M w0 K) Q else Ok N X0 M w0 K (a.put o.dst undef) w:=by
 unfold St.kJa at hw;split at hw
 case h_2=>exact kCu hA hty hC h hw
 case h_1 _ op T x y U ho =>
  split at hw
  case h_2=>exact kCu hA hty hC h hw
  case h_1 _ _ p q hx hy =>
   split at hw
   case isFalse=>exact kCu hA hty hC h hw
   case isTrue hc =>
    obtain⟨h1,h2⟩:=hc;obtain⟨hd,hK⟩:=hw;have hg:o.guard=none:=by simpa using h2
    have hwt:Region.wanted o (yielded ops a.tmps)=true:=by simp[Region.wanted,hg]
    rw[if_pos hwt];have e1:a.eval x=.int .i64 p:=(hx▸St.kC1 h x:R w _ β (.v (.int .i64 p)) (a.eval x)).kAn;have e2:a.eval y=.int .i64 q:=(hy▸St.kC1 h y:R w _ β (.v (.int .i64 q)) (a.eval y)).kAn;have hr:=k7z (P:=P) (T:=T) (a:=p) (b:=q) h1 x y w;refine kUj h hd ⟨.int .i64 (kHw op p q),?_,.p (.v _)⟩ hK;simp only[Sem.run_bind]at hr;simp only[execOp,ho,e1,e2,Sem.run_bind,hr,Result.andThen_ok,Sem.run_pure]
theorem kTe (hA:Ap P X0 M w0) (hty:∀T d,lk T tys=some d→kAs P T d) (hC:COk P C) {ops:Array Oper}{K:St→Prop}{Q:Exit→Act→World→Prop}(hQ:∀a w,Ok N X0 M w0 K a w→Q .normal a w) :
  ∀(l:List Oper) {st:St}{β:Nat→BV}{a:Act}{w:World},Sim N X0 M w0 st β a w→St.kLe tys C N ops l st K→wpList P ops Q l a w
 | [],st,β,a,w,h,hw=>hQ a w ⟨st,β,hw,h⟩
 |o::l,st,β,a,w,h,hw=>by
  have h1:=k70 (Q:=Q) hA hty hC h hw;unfold wpList;split
  ·rename_i hwt;rw[if_pos hwt]at h1;exact .inl (Oper.wp_mono (fun a' w' ⟨st',β',h2,h3⟩=>kTe hA hty hC hQ l h3 h2) h1)
  ·rename_i hwt;rw[if_neg hwt]at h1;obtain⟨st',β',h2,h3⟩:=h1;exact kTe hA hty hC hQ l h3 h2
end
section
variable {c:Cx}{N:Nat}{X0:Nat→Prop}{M:Nat→BV→Prop}{w0:World}{st:St}{K:Exit→St→Prop}
theorem WP.k71 {id:Nat}{l:List Oper}(h:St.kLe c.tys c.C N l.toArray l st (K .normal)):WP c N X0 M w0 (.region id l.toArray false) st K:=fun hA β a w hs =>
 wp_region_lit (kTe hA c.hty c.hC (fun a w hk=>hk) l hs h)
end
end
@[go_sem] def St.fzS:St→List Nat→St
 |st,[]=>st
 |st,s::l=>((st.fzL (st.ev (.tmp s)).strip.kGf)).fzS l
theorem Sim.fzS {P:Program}{X0:Nat→Prop}{M:Nat→BV→Prop}{w0:World}{N:Nat}{β:Nat→BV}{a:Act}{w:World}(hA:Ap P X0 M w0):∀(l:List Nat) {st:St},Sim N X0 M w0 st β a w→Sim N X0 M w0 (st.fzS l) β a w
 | [],_,h=>h
 | _::l,_,h=>Sim.fzS hA l (h.fzL hA _)
theorem zZ {c:Cx}{N:Nat}{X0:Nat→Prop}{M:Nat→BV→Prop}{w0:World}{K:Exit→St→Prop}{id:Nat}{l:List Oper}{st:St}(zs:List Nat) (m:Nat) (fl:List Fp) (ds mks gs:List Nat) (hB:kQc l.toArray m fl=true)
  (hD:((List.range m).all fun k=>match kAp l.toArray k with|some d=>ds.contains d|none=>false)=true)
  (hM:((List.range m).all fun k=>((kAg fl k).mks.all fun d=>mks.contains d)&&((kAg fl k).gn.all fun d=>gs.contains d))=true) (hm:c.P.follows .mixedOrders=true)
  (h:St.kG1 c.tys c.C N l.toArray fl ((st.fzS zs).clean ds mks) (l.take m) 0 [] fun acc=>St.runR c.tys c.C N l.toArray (l.drop m) (((st.fzS zs).clean ds mks).final acc gs) (K .normal)):WP c N X0 M w0 (.region id l.toArray true) st K:=by
 intro hA β a w hs;exact zF m fl ds mks gs hB hD hM hm h hA β a w (hs.fzS hA zs)
theorem zfZ {c:Cx}{N:Nat}{X0:Nat→Prop}{M:Nat→BV→Prop}{w0:World}{K:Exit→St→Prop}{id:Nat}{l:List Oper}{st:St}(zs:List Nat) (p:FP) (h:St.kG1 c.tys c.C N (l).toArray p.fl ((st.fzS zs).clean p.ds p.mks) ((l).take p.m) 0 [] fun acc=>St.runR c.tys c.C N (l).toArray ((l).drop p.m) (((st.fzS zs).clean p.ds p.mks).final acc p.gs) (K .normal)) (hB:kQc l.toArray p.m p.fl=true:=by decide +kernel) (hD:((List.range p.m).all fun k=>match kAp l.toArray k with |some d=>p.ds.contains d |none=>false)=true:=by kernel_rfl) (hM:((List.range p.m).all fun k=>((kAg p.fl k).mks.all fun d=>p.mks.contains d)&&((kAg p.fl k).gn.all fun d=>p.gs.contains d))=true:=by kernel_rfl) (hm:c.P.follows .mixedOrders=true:=by kernel_rfl):WP c N X0 M w0 (.region id l.toArray true) st K:=zZ zs p.m p.fl p.ds p.mks p.gs hB hD hM hm h
section
section
variable {P:Program}{Q:Exit→Act→World→Prop}{s q:Nat}{ops:Array Oper}
@[go_sem] def behind (o:Oper) (q:Nat):Oper:={ o with after:=o.after.push ⟨q,.data⟩ }
def kLr (s q:Nat) (ops:Array Oper):Array Oper:=ops.modify s fun o=>behind o q
theorem kUz (i:Nat):(kLr s q ops)[i]? = (ops[i]?).map fun o=>if i=s then behind o q else o:=by
 unfold kLr;rw[Array.getElem?_modify];by_cases h:s=i
 ·rw[if_pos h];subst h;simp
 ·rw[if_neg h];have:¬i=s:=fun e=>h e.symm
  simp[this]
theorem k75 (tmps:Array Value):yielded (kLr s q ops) tmps=yielded ops tmps:=by
 funext j;unfold yielded;rw[kUz]
 cases ops[j]? with
 |none=>rfl
 |some o =>
  simp only[jIn,wDt];by_cases hj:j=s
  ·rw[if_pos hj];rfl
  ·rw[if_neg hj]
theorem k5b {i:Nat}{K:Act→World→Prop}{a:Act}{w:World}(h:wpOp P (kLr s q ops) Q i K a w):wpOp P ops Q i K a w:=by
 unfold wpOp at h⊢;rw[kUz,k75]at h
 cases ho:ops[i]? with
 |none=>rw[ho]at h;exact h
 |some o =>
  rw[ho]at h;simp only[jIn]at h⊢;by_cases hi:i=s
  ·rw[if_pos hi]at h;exact h
  ·rw[if_neg hi]at h;exact h
theorem kQe {i:Nat}{listed:Array Bool}:i∈Region.ready .any (kLr s q ops) listed↔i∈Region.ready .any ops listed∧(i=s→listed.getD q false=true):=by
 rw[kBw,kBw,kUz,show(kLr s q ops).size=ops.size by unfold kLr;rw[Array.size_modify]]
 constructor
 ·rintro⟨h1,h2,o',ho',h3⟩
  cases ho:ops[i]? with
  |none=>rw[ho]at ho';cases ho'
  |some o =>
   rw[ho]at ho';simp only[jIn,jBf]at ho';by_cases hi:i=s
   ·rw[if_pos hi]at ho';subst ho';refine⟨⟨h1,h2,o,rfl,fun e he hb=>h3 e (by unfold behind;simp[he]) hb⟩,fun _=>h3 ⟨q,.data⟩ (by unfold behind;simp) rfl⟩
   ·rw[if_neg hi]at ho';subst ho';exact⟨⟨h1,h2,o,rfl,h3⟩,fun e=>absurd e hi⟩
 ·rintro⟨⟨h1,h2,o,ho,h3⟩,h4⟩;rw[ho];simp only[jIn,jBf];refine⟨h1,h2,_,rfl,fun e he hb=>?_⟩
  by_cases hi:i=s
  ·rw[if_pos hi]at he;unfold behind at he;simp only[Array.mem_push]at he;rcases he with he|rfl
   ·exact h3 e he hb
   ·exact h4 hi
  ·rw[if_neg hi]at he;exact h3 e he hb
structure qHt (ops:Array Oper) (s q:Nat) (oq:Oper):Prop where
 ne:s≠q
 at_q:ops[q]? = some oq
 sel:∀(j:Nat) (o:Oper) cs b,ops[j]? = some o→o.op≠.select cs b
 deps:∀os,ops[s]? = some os→∀e∈oq.after,Region.binds .any e=true→∃e'∈os.after,Region.binds .any e'=true∧e'.on=e.on
 apart:∀j oj,ops[j]? = some oj→j≠q→(∀e∈oq.after,Region.binds .any e=true→e.on≠j)→(∀e∈oj.after,Region.binds .any e=true→e.on≠q)→oq.apart ops oj=true
 guard:oq.guard=none
 pure:∀(a:Act) (w:World) (K:Act→World→Prop) (Q:Exit→Act→World→Prop),(∀e a w,e≠.normal→¬Q e a w)→oq.wp P a w K Q→∃v,(∀w,(execOp a.eval oq).run P w=.ok (.value v) w)∧K (a.put oq.dst v) w
theorem qEh {oq:Oper}(hE:qHt (P:=P) ops s q oq) (hQ:∀e a w,e≠.normal→¬Q e a w):∀(fuel:Nat) (listed:Array Bool) (a:Act) (w:World),listed.size=ops.size→wpAny P .any (kLr s q ops) Q fuel listed a w→wpAny P .any ops Q fuel listed a w:=by
 have hq2:∀{listed:Array Bool},q∈Region.ready .any ops listed→q∈Region.ready .any (kLr s q ops) listed:=fun{listed} h=>kQe.2 ⟨h,fun e=>absurd e.symm hE.ne⟩
 have early:∀{listed:Array Bool}{i:Nat},listed.size=ops.size→i∈Region.ready .any ops listed→i∉Region.ready .any (kLr s q ops) listed→q∈Region.ready .any ops listed:=fun{listed i} hsz h1 h2=>by
  have his:i=s:=Classical.byContradiction fun hn=>h2 (kQe.2 ⟨h1,fun e=>absurd e hn⟩)
  subst his
  have hql:listed.getD q false=false:=by
   cases hh:listed.getD q false with
   |true=>exact absurd (kQe.2 ⟨h1,fun _=>hh⟩) h2
   |false=>rfl
  obtain⟨g1,g2,os,ho,g3⟩:=kBw.1 h1;have hqs:q<ops.size:=(vDw.1 hE.at_q).1
  have hqt:listed.getD q true=false:=by
   rw[jMv,jVn zo]at hql⊢;exact hql
  refine kBw.2 ⟨hqs,hqt,oq,hE.at_q,fun e he hb=>?_⟩
  obtain⟨e',he',hb',hon⟩:=hE.deps os ho e he hb;rw[←hon];exact g3 e' he' hb'
 intro fuel
 induction fuel with
 |zero =>
  intro listed a w hsz h;refine⟨?_,h.2⟩;rcases hr:Region.ready .any ops listed with _|⟨i,l⟩
  ·rfl
  ·exfalso;have hi:i∈Region.ready .any ops listed:=by rw[hr];simp
   have hn:∀j,j∉Region.ready .any (kLr s q ops) listed:=fun j hj=>by rw[h.1]at hj;cases hj
   exact hn q (hq2 (early hsz hi (hn i)))
 |succ fuel ih =>
  intro listed a w hsz H;by_cases hq:q∈Region.ready .any ops listed
  ·have h1:=k5b (H.2 q (hq2 hq));unfold wpOp at h1;rw[hE.at_q]at h1;have hw:Region.wanted oq (yielded ops a.tmps)=true:=by simp[Region.wanted,hE.guard]
   simp only[hw,if_true]at h1;rcases h1 with h1|⟨_,x,y,h1⟩
   ·obtain⟨v,hrun,hK⟩:=hE.pure a w _ _ hQ h1
    exact wpAny_first hE.at_q hE.sel (fun c a w h=>absurd h (hQ _ _ _ (by simp))) fuel listed a w (fun j oj hj hne hl hw'=>hE.apart j oj hj hne (fun e he hb hj'=>by
     obtain⟨_,_,o2,ho2,h3⟩:=kBw.1 hq;rw[hE.at_q]at ho2;obtain rfl:=vSn ho2;have h4:=h3 e he hb;rw[hj']at h4;have hjs:j<ops.size:=(vDw.1 hj).1;rw[jMv,jVn zo]at hl h4;simp only[jOj]at hl h4;rw[hl]at h4;cases h4) hw') hq (.inl ⟨hw,hrun⟩) (ih _ _ _ (by simpa using hsz) hK)
   ·exact absurd h1 (hQ _ _ _ (by simp))
  ·refine⟨fun he=>H.1 ?_,fun i hi=>?_⟩
   ·rcases hr:Region.ready .any (kLr s q ops) listed with _|⟨i,l⟩
    ·rfl
    ·have hi:i∈Region.ready .any (kLr s q ops) listed:=by rw[hr];simp
     have:=(kQe.1 hi).1;rw[he]at this;cases this
   ·have hi':i∈Region.ready .any (kLr s q ops) listed:=Classical.byContradiction fun hn=>hq (early hsz hi hn)
    exact wpOp_mono (fun a' w' h=>ih _ _ _ (by simpa using hsz) h) (k5b (H.2 i hi'))
theorem k76 {oq:Oper}{x:Operand}{i:Nat}(ho:oq.op=.extract x i) (a:Act) (w:World) (K:Act→World→Prop) (Q:Exit→Act→World→Prop) (hQ:∀e a w,e≠.normal→¬Q e a w) (h:oq.wp P a w K Q) :
  ∃v,(∀w,(execOp a.eval oq).run P w=.ok (.value v) w)∧K (a.put oq.dst v) w:=by
 unfold Oper.wp at h
 cases hx:a.eval x with
 |tuple us =>
  cases hu:us[i]? with
  |some v =>
   refine⟨v,fun w=>by simp[execOp,ho,hx,Instr.extract,hu],?_⟩
   simpa[execOp,ho,hx,Instr.extract,hu,Oper.upon]using h
  |none=>simp[execOp,ho,hx,Instr.extract,hu,Oper.upon,stuck]at h
 | _=>simp[execOp,ho,hx,Instr.extract,Oper.upon,stuck]at h
def qHu:Op→Bool
 | .extract _ _=>true
 | _=>false
def k77:Op→Bool
 | .select _ _=>true
 | _=>false
def k69 (ops:Array Oper) (s q:Nat):Bool:=s != q&&match ops[q]?,ops[s]? with
 |some oq,some os=>qHu oq.op&&oq.guard.isNone &&
  (oq.after.toList.all fun e=>!Region.binds .any e || os.after.toList.any fun e'=>Region.binds .any e'&&e'.on==e.on) &&
  (List.range ops.size).all fun j=>match ops[j]? with
   |some oj=>!k77 oj.op&&(j==q || (oq.after.toList.any fun e=>Region.binds .any e&&e.on==j) || (oj.after.toList.any fun e=>Region.binds .any e&&e.on==q) || oq.apart ops oj)
   |none=>true
 | _,_=>false
theorem qK9 (h:k69 ops s q=true):∃oq,qHt (P:=P) ops s q oq:=by
 unfold k69 at h;rw[jBs]at h;obtain⟨h0,h⟩:=h;split at h
 case h_2=>cases h
 case h_1 _ _ oq os hoq hos =>
  simp only[jBs]at h;obtain⟨⟨⟨h1,h2⟩,h3⟩,h4⟩:=h
  have key:∀j oj,ops[j]? = some oj→k77 oj.op=false∧(j=q∨(∃e∈oq.after,Region.binds .any e=true∧e.on=j)∨(∃e∈oj.after,Region.binds .any e=true∧e.on=q)∨oq.apart ops oj=true):=fun j oj hj=>by
   have:=jDl.1 h4 j (jKi.2 (vDw.1 hj).1);rw[hj]at this;simp only[jBs,jUs,jYk,beq_iff_eq,vMn,Array.mem_toList_iff]at this;refine⟨this.1,?_⟩;rcases this.2 with((h|h)|h)|h
   ·exact .inl h
   ·exact .inr (.inl h)
   ·exact .inr (.inr (.inl h))
   ·exact .inr (.inr (.inr h))
  refine⟨oq,⟨by simpa using h0,hoq,fun j o cs b hj hsel=>?_,fun os' hos' e he hb=>?_,fun j oj hj hne hd hw=>?_,by simpa using h2,?_⟩⟩
  ·have:=(key j o hj).1;rw[hsel]at this;cases this
  ·obtain rfl:=vSn (hos.symm.trans hos');have:=jDl.1 h3 e (by simpa using he)
   rw[hb]at this;simp only[wGi,jXf,vMn,jBs,beq_iff_eq]at this;obtain⟨e',he',h5,h6⟩:=this;exact⟨e',by simpa using he',h5,h6⟩
  ·rcases(key j oj hj).2 with h|⟨e,he,hb,ho⟩|⟨e,he,hb,ho⟩|h
   ·exact absurd h hne
   ·exact absurd ho (hd e he hb)
   ·exact absurd ho (hw e he hb)
   ·exact h
  ·intro a w K Q hQ hh
   cases hop:oq.op with
   |extract x i=>exact k76 hop a w K Q hQ hh
   | _=>rw[hop]at h1;cases h1
theorem upon_Q {o:Oper}{a:Act}{K:Act→World→Prop}{Q' Q:Exit→Act→World→Prop}(h:∀e a w,Q' e a w→Q e a w) {r:Result Next}(hh:o.upon P a K Q' r):o.upon P a K Q r:=by
 cases r with
 |ok n w' =>
  cases n<;>simp only[Oper.upon]at hh⊢<;>first
   |exact hh
   |exact Calls.mono hh fun e w'' he=>by
     cases e with
     |returned v=>exact he
     |panicked c=>exact h _ _ _ he
     |outgrown=>obtain⟨x,y,hxy⟩:=he;exact⟨x,y,h _ _ _ hxy⟩
 |halt x w'=>cases x<;>simp only[Oper.upon]at hh⊢<;>first|exact h _ _ _ hh|exact hh.elim
theorem wpOp_Q {i:Nat}{a:Act}{w:World}{K K':Act→World→Prop}{Q' Q:Exit→Act→World→Prop}(h:∀e a w,Q' e a w→Q e a w) (hK:∀a w,K' a w→K a w) (hh:wpOp P ops Q' i K' a w):wpOp P ops Q i K a w:=by
 have hh:=wpOp_mono hK hh;unfold wpOp at hh⊢;split
 ·rename_i ho;rw[ho]at hh;exact hh
 ·rename_i o ho;rw[ho]at hh;simp only at hh;split
  ·rename_i hw;rw[if_pos hw]at hh;rcases hh with hh|⟨h1,x,y,h2⟩
   ·exact .inl (upon_Q h hh)
   ·exact .inr ⟨h1,x,y,h _ _ _ h2⟩
  ·rename_i hw;rw[if_neg hw]at hh;exact hh
theorem qCc {Q' Q:Exit→Act→World→Prop}(h:∀e a w,Q' e a w→Q e a w):∀(fuel:Nat) (listed:Array Bool) (a:Act) (w:World),wpAny P .any ops Q' fuel listed a w→wpAny P .any ops Q fuel listed a w
 | 0,_,_,_,hh=>⟨hh.1,h _ _ _ hh.2⟩
 |fuel+1,_,_,_,hh=>⟨fun he=>h _ _ _ (hh.1 he),fun i hi=>wpOp_Q h (fun a' w' h'=>qCc h fuel _ a' w' h') (hh.2 i hi)⟩
end
@[go_sem] def kEo:Nat→Nat→List Oper→List Oper
 | _,_,[]=>[]
 | 0,q,o::l=>behind o q::l
 |s+1,q,o::l=>o::kEo s q l
theorem k78:∀(s q:Nat) (l:List Oper) (i:Nat),(kEo s q l)[i]? = (l[i]?).map fun o=>if i=s then behind o q else o
 | _,_,[],i=>by simp[kEo]
 | 0,q,o::l,0=>by simp[kEo]
 | 0,q,o::l,i+1=>by simp[kEo]
 |s+1,q,o::l,0=>by simp[kEo]
 |s+1,q,o::l,i+1=>by simp[kEo,k78 s q l i]
theorem qLa (s q:Nat) (l:List Oper):(kEo s q l).toArray=kLr s q l.toArray:=by
 apply Array.ext_getElem?;intro i;rw[kUz];simp[k78]
section
variable {c:Cx}{N:Nat}{X0:Nat→Prop}{M:Nat→BV→Prop}{w0:World}{K:Exit→St→Prop}
def onlyN (K:Exit→St→Prop):Exit→St→Prop
 | .normal,st=>K .normal st
 | _,_=>False
theorem WP.flowE {id:Nat}{l:List Oper}{st:St}(s q:Nat) (zs:List Nat) (m:Nat) (fl:List Fp) (ds mks gs:List Nat) (hE:k69 l.toArray s q=true) (hB:kQc (kEo s q l).toArray m fl=true)
  (hD:((List.range m).all fun k=>match kAp (kEo s q l).toArray k with|some d=>ds.contains d|none=>false)=true)
  (hM:((List.range m).all fun k=>((kAg fl k).mks.all fun d=>mks.contains d)&&((kAg fl k).gn.all fun d=>gs.contains d))=true) (hm:c.P.follows .mixedOrders=true)
  (h:St.kG1 c.tys c.C N (kEo s q l).toArray fl ((st.fzS zs).clean ds mks) ((kEo s q l).take m) 0 [] fun acc=>St.runR c.tys c.C N (kEo s q l).toArray ((kEo s q l).drop m) (((st.fzS zs).clean ds mks).final acc gs) (K .normal)):WP c N X0 M w0 (.region id l.toArray true) st K:=by
 intro hA β a w hs0;have hs:=Sim.fzS hA zs hs0;generalize st.fzS zs=st at hs h;have hD0:=k7y hB;obtain⟨F,h1,h2⟩:=kZ8 _ _ _ (kRe _ _ _ h);have harr:=qLa s q l
 have hlen:((kEo s q l).take m).length=m:=by
  have:=hD0.le;simp at this⊢;omega
 rw[hlen]at h1;simp only[jIw,vKy]at h1 h2
 have hcl0:∀t x,lk t (st.clean ds mks).fr=some x→lk t st.fr=some x∧t∉ds∧∀d∈mks,x.kill d=x:=fun t x hx=>by
  obtain⟨e1,e2⟩:=kYp hx;obtain⟨e3,e4⟩:=kYo e1;exact⟨e3,e4,e2⟩
 have hMk:∀k,k<m→(∀d∈(kAg fl k).mks,d∈mks)∧∀d∈(kAg fl k).gn,d∈gs:=fun k hk=>by
  have:=jDl.1 hM k (jKi.2 hk);simp only[jBs,jDl]at this;exact⟨fun d hd=>jOa.1 (this.1 d hd),fun d hd=>jOa.1 (this.2 d hd)⟩
 obtain⟨oq,hEo⟩:=qK9 (P:=c.P) hE;have hsz:(kEo s q l).toArray.size=l.toArray.size:=by rw[harr];unfold kLr;rw[Array.size_modify]
 refine wp_region_any hm (qCc (Q':=fun e a' w'=>Ok N X0 M w0 (onlyN K e) a' w') (fun e a' w' hk=>?_) _ _ _ _ (qEh hEo (fun e a' w' hne hk=>?_) _ _ _ _ (by simp) ?_))
 ·cases e with
  |normal=>exact hk
  | _=>obtain⟨_,_,hf,_⟩:=hk;exact hf.elim
 ·cases e with
  |normal=>exact hne rfl
  | _=>obtain⟨_,_,hf,_⟩:=hk;exact hf.elim
 rw[←harr,←hsz]
 refine(k49 (c:=c) (K:=onlyN K) hA hD0 (base:=st.clean ds mks) (F:=F) (gs:=gs) (fun k o hk ho=>?_) (fun t x hx=>⟨fun k hk e=>?_,fun k hk d hd=>(hcl0 t x hx).2.2 d ((hMk k hk).1 d hd)⟩) (fun t ob hx k hk d hd=>(kQ0 hx).2 d ((hMk k hk).1 d hd)) (fun k hk=>(hMk k hk).2) ?_
  (kEo s q l).toArray.size (Array.replicate (kEo s q l).toArray.size false) (st.clean ds mks) β a _ (by simp) (fun j _ hj=>?_) ?_ (fun b hb hl=>?_) ?_ (fun t x hx _=>hx) (fun k hk hl=>?_) (fun t ob hx _=>hx) (fun k hk hl=>?_))
 ·have:((kEo s q l).take m)[k]? = some o:=by rw[jYq hk];simpa using ho
  exact h2 k o this
 ·have:=jDl.1 hD k (jKi.2 hk);rw[e]at this;exact(hcl0 t x hx).2.1 (jOa.1 this)
 ·exact h1
 ·rw[jMv,vBc];split<;>rfl
 ·have:(List.range (kEo s q l).toArray.size).countP (fun j=>!(Array.replicate (kEo s q l).toArray.size false).getD j false)=(List.range (kEo s q l).toArray.size).countP (fun _=>true):=by
   apply vOy;intro j hj;rw[jMv,vBc];split<;>simp
  rw[this];simp
 ·rw[jMv,vBc]at hl;split at hl<;>cases hl
 ·exact(hs.grow ((vVj _ _).drew) (fun b _ hb=>.inl hb) hs.x0).less (fun t x hx=>(hcl0 t x hx).1) (fun t ob hx=>(kQ0 hx).1)
 ·rw[jMv,vBc]at hl;split at hl<;>cases hl
 ·rw[jMv,vBc]at hl;split at hl<;>cases hl
end
theorem zfE {c:Cx}{N:Nat}{X0:Nat→Prop}{M:Nat→BV→Prop}{w0:World}{K:Exit→St→Prop}{id:Nat}{l:List Oper}{st:St}(s q:Nat) (zs:List Nat) (p:FP) (h:St.kG1 c.tys c.C N (kEo s q l).toArray p.fl ((st.fzS zs).clean p.ds p.mks) ((kEo s q l).take p.m) 0 [] fun acc=>St.runR c.tys c.C N (kEo s q l).toArray ((kEo s q l).drop p.m) (((st.fzS zs).clean p.ds p.mks).final acc p.gs) (K .normal)) (hE:k69 l.toArray s q=true:=by decide +kernel) (hB:kQc (kEo s q l).toArray p.m p.fl=true:=by decide +kernel) (hD:((List.range p.m).all fun k=>match kAp (kEo s q l).toArray k with |some d=>p.ds.contains d |none=>false)=true:=by kernel_rfl) (hM:((List.range p.m).all fun k=>((kAg p.fl k).mks.all fun d=>p.mks.contains d)&&((kAg p.fl k).gn.all fun d=>p.gs.contains d))=true:=by kernel_rfl) (hm:c.P.follows .mixedOrders=true:=by kernel_rfl):WP c N X0 M w0 (.region id l.toArray true) st K:=WP.flowE s q zs p.m p.fl p.ds p.mks p.gs hE hB hD hM hm h
end
end Go.Vc
namespace Go.Proofs.YtjdklcjoeanimaaGreat
attribute [local irreducible] Go.Vc.WP
section
open Go.Vc Tryz
attribute [local go_sem] qCd
theorem qJi (L:List Row) (n:Nat):Go.Vc.rowAt (L.map encRow) n=[]∨∃y:Row,Go.Vc.rowAt (L.map encRow) n=encRow y:=by
 by_cases h:n<L.length
 ·exact .inr ⟨_,kAa encRow L n h⟩
 ·left;unfold Go.Vc.rowAt;rw[vHt (by simp;omega)];rfl
section
def cxIsS:=kc k52 kn
theorem kSy {p:Prop}(h:p:=by first|omega|rfl|(simp[c1];done)|fail):p:=h
theorem qJc:Cq 225 k90:=by
 refine zp fun d x hx=>?_
 obtain⟨L,o⟩:=x;simp only at hx⊢;refine zg cxIsS func225 rfl rfl ntmps225 ?_;intros;have hb:=kQf L o;have e:kKa L o=decide (0≤kBl L o∧(L.getD (kBl L o).toNat kEb).offset=o∧(L.getD (kBl L o).toNat kEb).start=true):=rfl;rw[e];generalize hF:kBl L o=F at *;by_cases c0:F≥0;rotate_left
 ·rw[decide_eq_false fun h=>c0 h.1]
  rcases qJi L F.toNat with hr0|⟨y,hr0⟩
  ·have hn0:lk 0 tys=none:=rfl
   (repeat' (first|apply zS|apply zB|((first|refine WP.kQ1 (id:=2) ?_);simp only[go_sem,hF,c0,hr0,hn0])|(apply zW;simp only[go_sem,hF,c0,hr0,hn0])|apply jAi|exact zc2|intro _))
  ·exact zx (z4 hF c0 hr0 encRow.eq_1)
 obtain⟨k,rfl⟩:=zN F;have hlt:k<L.length:=zo;have hr:=kAa encRow L k hlt;rw[jB2,kK6 hlt];by_cases c1:L[k].offset=o
 ·have e2:decide (0≤(k:Int)∧L[k].offset=o∧L[k].start=true)=L[k].start:=by
   cases L[k].start<;>simp[c1]
  rw[e2]
  (repeat' (first|apply zS|apply zB|(apply zW;simp only[go_sem,hF,c0,hr,encRow,c1])|apply jAi|exact kSy|intro _))
 ·rw[decide_eq_false fun h=>c1 h.2.1]
  (repeat' (first|apply zS|apply zB|(apply zW;simp only[go_sem,hF,c0,hr,encRow,c1])|apply jAi|exact kSy|intro _))
def cxIsI:=kc k54 kn
theorem qJd:Cq 262 k90:=by
 refine zp fun d x hx=>?_
 obtain⟨L,o⟩:=x;simp only at hx⊢;refine zg cxIsI func262 rfl rfl ntmps262 ?_;intros;have hb:=kQf L o;have e:kKa L o=decide (0≤kBl L o∧(L.getD (kBl L o).toNat kEb).offset=o∧(L.getD (kBl L o).toNat kEb).start=true):=rfl;rw[e];generalize hF:kBl L o=F at *;by_cases c0:F≥0;rotate_left
 ·rw[decide_eq_false fun h=>c0 h.1]
  rcases qJi L F.toNat with hr0|⟨y,hr0⟩
  ·have hn0:lk 0 tys=none:=rfl
   (repeat' (first|apply zS|apply zB|((first|refine WP.kQ1 (id:=2) ?_);simp only[go_sem,hF,c0,hr0,hn0])|(apply zW;simp only[go_sem,hF,c0,hr0,hn0])|apply jAi|exact zc2|intro _))
  ·exact zx (z4 hF c0 hr0 encRow.eq_1)
 obtain⟨k,rfl⟩:=zN F;have hlt:k<L.length:=zo;have hr:=kAa encRow L k hlt;rw[jB2,kK6 hlt];by_cases c1:L[k].offset=o
 ·have e2:decide (0≤(k:Int)∧L[k].offset=o∧L[k].start=true)=L[k].start:=by
   cases L[k].start<;>simp[c1]
  rw[e2]
  (repeat' (first|apply zS|apply zB|(apply zW;simp only[go_sem,hF,c0,hr,encRow,c1])|apply jAi|exact kSy|intro _))
 ·rw[decide_eq_false fun h=>c1 h.2.1]
  (repeat' (first|apply zS|apply zB|(apply zW;simp only[go_sem,hF,c0,hr,encRow,c1])|apply jAi|exact kSy|intro _))
end
end
section
open Go.Vc Tryz
attribute [local go_sem] kCc
@[go_sem] def qI4:Ctr:=pur (fun args=>imgA args 0) (fun x=>[.agg [.v (.string x.1),.sl 3 (x.2.map encSymbol)]]) (fun x=>x.1.size≤4194304) (fun _ x=>vi (kLf x.1)) (fun _ _=>[])
section
def qCt:=COk.nil Tryz.prog
theorem k50 {p:Prop}(h:p:=by first|omega|exact⟨k+1,by omega,by omega,by rw[hn];(first|(and_intros<;>rfl)|simp)⟩):p:=h
theorem k51 {p:Prop}(h:p:=by first|omega|exact⟨k+1,⟨by omega,this⟩,by omega,by(first|(and_intros<;>rfl)|simp)⟩):p:=h
theorem qOy:Cq 180 qI4:=by
 refine zp fun d x hx=>?_
 obtain⟨s,Y⟩:=x;simp only at hx⊢;refine zg qCt func180 rfl rfl ntmps180 ?_;intros;refine zy trivial ?_;refine zL (fun k:Nat=>⟨[(1,.ptr 1 0 0 0),(3,vi (kIw s k)),(4,vi k)],[(1,.box 144 [.v (.string s),.sl 3 (Y.map encSymbol)])]⟩) (fun k=>k≤s.size) (fun k=>s.size-k) 0 zo ?_ ?_
 ·have h0:kIw s 0=7:=rfl
  (simp only[go_sem,h0]<;>(first|(and_intros<;>rfl)|simp))
 intro k hk;by_cases hlt:k<s.size
 ·have hli:(k:Int)<s.size:=zo;have hb:=k4h s k;have hc:(s[k]!).toNat<256:=UInt8.toNat_lt _;have hn:kIw s (k+1)=(kIw s k*257+((s[k]!).toNat:Int)+1).tmod 1000000007:=rfl;generalize kIw s k=u at *
  (repeat' (first|apply zS|apply zB|(apply zW;simp only[go_sem,hli])|apply jAi|exact k50|intro _))
 ·have hge:¬(k:Int)<s.size:=zo;obtain rfl:k=s.size:=zo;have e:kLf s=kIw s s.size:=rfl;rw[e];exact zx hge
theorem qOz:Cq 155 qI4:=by
 refine zp fun d x hx=>?_
 obtain⟨s,Y⟩:=x;simp only at hx⊢;refine zg qCt func155 rfl rfl ntmps155 ?_;intros;refine zy trivial ?_;refine zL (fun k:Nat=>⟨[(1,.ptr 1 0 0 0),(3,vi (kIw s k)),(4,vi k)],[(1,.box 144 [.v (.string s),.sl 3 (Y.map encSymbol)])]⟩) (fun k=>k≤s.size) (fun k=>s.size-k) 0 zo ?_ ?_
 ·have h0:kIw s 0=7:=rfl
  (simp only[go_sem,h0]<;>(first|(and_intros<;>rfl)|simp))
 intro k hk;by_cases hlt:k<s.size
 ·have hli:(k:Int)<s.size:=zo;have hb:=k4h s k;have hc:(s[k]!).toNat<256:=UInt8.toNat_lt _;have hn:kIw s (k+1)=(kIw s k*257+((s[k]!).toNat:Int)+1).tmod 1000000007:=rfl;generalize kIw s k=u at *
  (repeat' (first|apply zS|apply zB|(apply zW;simp only[go_sem,hli])|apply jAi|exact k50|intro _))
 ·have hge:¬(k:Int)<s.size:=zo;obtain rfl:k=s.size:=zo;have e:kLf s=kIw s s.size:=rfl;rw[e];exact zx hge
end
theorem qCu {a b:Symbol}(h0:a.name=b.name) (h1:a.start=b.start) (h2:a.size=b.size):a=b:=by cases a;cases b;simp_all
@[go_sem] def kEqSym:Ctr:=pur (fun args=>(kEt (aR args 0),kEt (aR args 1))) (fun x=>[.sl 3 (x.1.map encSymbol),.sl 3 (x.2.map encSymbol)]) (fun x=>x.1.length≤4194304∧x.2.length≤4194304) (fun _ x=>.v (.bool (decide (x.1=x.2)))) (fun _ _=>[])
section
def cxEqSy:=COk.nil Tryz.prog
theorem cEqSym:Cq 181 kEqSym:=by
 refine zp fun d x hx=>?_
 obtain⟨L,M⟩:=x;obtain⟨hL,hM⟩:=hx;simp only at hL hM⊢;refine zg cxEqSy func181 rfl rfl ntmps181 ?_;intros;by_cases hlen:L.length=M.length
 ·have hle:(L.length:Int)=M.length:=zo;refine zy1 9 hle ?_;refine zL (fun k:Nat=>⟨[(0,.sl 3 (L.map encSymbol)),(1,.sl 3 (M.map encSymbol)),(12,vi (L.length:Int)),(13,vi k)],[]⟩) (fun k=>k≤L.length∧L.take k=M.take k) (fun k=>L.length-k) 0 zs ?_ ?_
  ·(simp only[go_sem,hle]<;>(first|(and_intros<;>rfl)|simp))
  intro k ⟨hk,hf⟩;by_cases hlt:k<L.length
  ·have hli:(k:Int)<L.length:=zo;have hlm:(k:Int)<M.length:=zo;have hltM:k<M.length:=zo;have h1:=kAa encSymbol L k hlt;have h2:=kAa encSymbol M k hltM
   have hnx:L[k]=M[k]→L.take (k+1)=M.take (k+1):=fun he=>by
    rw[jQw hlt,jQw hltM,hf,he]
   have hno:¬L[k]=M[k]→¬L=M:=fun hn he=>hn (by subst he;rfl)
   have hex:=@qCu L[k] M[k];by_cases e1:L[k].name=M[k].name
   ·by_cases e2:L[k].start=M[k].start
    ·by_cases e3:L[k].size=M[k].size
     ·have:=hnx (hex e1 e2 e3)
      (repeat' (first|apply zS|apply zB|((first|apply zW| refine zd 9 ?_);simp only[go_sem,hli,hlm,h1,h2,encSymbol,e1,e2,e3])|apply jAi|exact k51|intro _))
     ·have hn:=hno fun h=>e3 (by rw[h])
      (repeat' (first|apply zS|apply zB|((first|apply zW| refine zd 9 ?_);simp only[go_sem,hli,hlm,h1,h2,encSymbol,e1,e2,e3])|apply jAi|intro _))
      all_goals first|omega|(rw[decide_eq_false hn])|skip
    ·have hn:=hno fun h=>e2 (by rw[h])
     (repeat' (first|apply zS|apply zB|((first|apply zW| refine zd 9 ?_);simp only[go_sem,hli,hlm,h1,h2,encSymbol,e1,e2])|apply jAi|intro _))
     all_goals first|omega|(rw[decide_eq_false hn])|skip
   ·have hn:=hno fun h=>e1 (by rw[h])
    (repeat' (first|apply zS|apply zB|((first|apply zW| refine zd 9 ?_);simp only[go_sem,hli,hlm,h1,h2,encSymbol,e1])|apply jAi|intro _))
    all_goals first|omega|(rw[decide_eq_false hn])|skip
  ·have hge:¬(k:Int)<L.length:=zo;have hke:k=L.length:=zo
   have he:L=M:=by
    rw[hke,jJ3,hlen,jJ3]at hf;exact hf
   (repeat' (first|apply zS|apply zB|((first|apply zW| refine zd 9 ?_);simp only[go_sem,hge])|apply jAi|intro _))
   all_goals first|omega|(rw[decide_eq_true he])|skip
 ·have hn:¬L=M:=fun h=>hlen (by rw[h])
  have hle:¬(L.length:Int)=M.length:=zo
  (repeat' (first|apply zS|apply zB|((first|apply zW| refine zd 9 ?_);simp only[go_sem,hle])|apply jAi|intro _))
  all_goals first|omega|(rw[decide_eq_false hn])|skip
end
@[go_sem] def qCv:Ctr:=pur (fun args=>(kCc (aC args 0),kB7 (aC args 1))) (fun x=>[.agg (encImage x.1),.agg (encDebug x.2)]) (fun x=>x.1.code.size≤4194304∧x.1.symbols.length≤4194304∧x.2.syms.length≤4194304) (fun _ x=>.v (.bool (kJf x.1 x.2))) (fun _ _=>[])
section
attribute [local go_sem] kB7
def cxDfI:=kc qOy (kc cEqSym kn)
theorem qMb:Cq 104 qCv:=by
 refine zp fun d x hx=>?_
 obtain⟨⟨s,Y⟩,⟨id,Z,R,W,I⟩⟩:=x;obtain⟨h1,h2,h3⟩:=hx;simp only at h1 h2 h3⊢;have e:kJf ⟨s,Y⟩ ⟨id,Z,R,W,I⟩=(decide (id=kLf s)&&decide (Y=Z)):=rfl;rw[e];simp only[encDebug,encImage];refine zg cxDfI func104 rfl rfl ntmps104 ?_;intros;by_cases e1:id=kLf s
 ·exact zx1 12 e1
 ·(repeat' (first|apply zS|apply zB|((first|apply zW| refine zd 12 ?_);simp only[go_sem,e1])|apply jAi|omega|rfl|(simp[e1];done)|intro _))
def cxDfS:=kc qOz kn
theorem qMc:Cq 80 qCv:=by
 refine zp fun d x hx=>?_
 obtain⟨⟨s,Y⟩,⟨id,Z,R,W,I⟩⟩:=x;obtain⟨h1,h2,h3⟩:=hx;simp only at h1 h2 h3⊢;have e:kJf ⟨s,Y⟩ ⟨id,Z,R,W,I⟩=(decide (id=kLf s)&&decide (Y=Z)):=rfl;rw[e];simp only[encDebug,encImage];refine zg cxDfS func80 rfl rfl ntmps80 ?_;intros;by_cases e1:id=kLf s;rotate_left
 ·rw[decide_eq_false e1,jK2];exact zx2 14 11 e1
 rw[decide_eq_true e1,jPw];by_cases hlen:Z.length=Y.length;rotate_left
 ·have hle:¬(Z.length:Int)=Y.length:=zo;rw[decide_eq_false fun h=>hlen (by rw[h])]
  exact zx2 14 11 (z2 e1 hle)
 have hle:(Z.length:Int)=Y.length:=zo;refine zy2 14 11 (z2 e1 hle) ?_;refine zL (fun k:Nat=>⟨[(2,.ptr 2 0 0 0),(3,.ptr 3 0 0 0),(5,vi k)],[(2,.box 144 [.v (.string s),.sl 3 (Y.map encSymbol)]),(3,.box 149 [vi (kLf s),.sl 3 (Z.map encSymbol),.sl 4 (R.map encRule),.sl 3 (W.map encRow),.sl 5 (I.map encInline)])]⟩) (fun k=>k≤Z.length∧Z.take k=Y.take k) (fun k=>Z.length-k) 0 zs ?_ ?_
 ·(simp only[go_sem,hle]<;>(first|(and_intros<;>rfl)|simp))
 intro k ⟨hk,hf⟩;by_cases hlt:k<Z.length
 ·have hli:(k:Int)<Z.length:=zo;have hlm:(k:Int)<Y.length:=zo;have hltM:k<Y.length:=zo;have g1:=kAa encSymbol Z k hlt;have g2:=kAa encSymbol Y k hltM
  have hnx:Z[k]=Y[k]→Z.take (k+1)=Y.take (k+1):=fun he=>by
   rw[jQw hlt,jQw hltM,hf,he]
  have hno:¬Z[k]=Y[k]→¬Y=Z:=fun hn he=>hn (by subst he;rfl)
  have hex:=@qCu Z[k] Y[k];by_cases e1:Z[k].name=Y[k].name
  ·by_cases e2:Z[k].start=Y[k].start
   ·by_cases e3:Z[k].size=Y[k].size
    ·have:=hnx (hex e1 e2 e3)
     (repeat' (first|apply zS|apply zB|((first|apply zW| refine zd 14 ?_|refine zd 11 ?_);simp only[go_sem,hli,hlm,g1,g2,encSymbol,e1,e2,e3])|apply jAi|exact k51|intro _))
    ·have hn:=hno fun h=>e3 (by rw[h])
     (repeat' (first|apply zS|apply zB|((first|apply zW| refine zd 14 ?_|refine zd 11 ?_);simp only[go_sem,hli,hlm,g1,g2,encSymbol,e1,e2,e3])|apply jAi|intro _))
     all_goals first|omega|(rw[decide_eq_false hn])|skip
   ·have hn:=hno fun h=>e2 (by rw[h])
    (repeat' (first|apply zS|apply zB|((first|apply zW| refine zd 14 ?_|refine zd 11 ?_);simp only[go_sem,hli,hlm,g1,g2,encSymbol,e1,e2])|apply jAi|intro _))
    all_goals first|omega|(rw[decide_eq_false hn])|skip
  ·have hn:=hno fun h=>e1 (by rw[h])
   (repeat' (first|apply zS|apply zB|((first|apply zW| refine zd 14 ?_|refine zd 11 ?_);simp only[go_sem,hli,hlm,g1,g2,encSymbol,e1])|apply jAi|intro _))
   all_goals first|omega|(rw[decide_eq_false hn])|skip
 ·have hge:¬(k:Int)<Z.length:=zo;have hke:k=Z.length:=zo
  have he:Y=Z:=by
   rw[hke,jJ3,hlen,jJ3]at hf;exact hf.symm
  rw[decide_eq_true he];exact zx2 14 11 hge
end
end
section
open Go.Vc Tryz
open Go.Pl
theorem kVu (I:List Image) (B:List Int) (k:Nat):kFf I B (k+1)=(kFf I B k&&(kDy (I.getD k kFo).code (I.getD k kFo).symbols&&decide (1≤B.getD k 0∧B.getD k 0≤1000000))):=by
 unfold kFf;rw[wDe,vYg];simp
theorem kVv {I:List Image}{B:List Int}{k:Nat}(h:kFf I B k=false):∀m,kFf I B (k+m)=false
 | 0=>h
 |m+1=>by rw[show k+(m+1)=k+m+1 by omega,kVu,kVv h m];rfl
theorem kLa {I:List Image}{B:List Int}{k j:Nat}(h:kFf I B k=true) (hj:j<k):kDy (I.getD j kFo).code (I.getD j kFo).symbols=true∧1≤B.getD j 0∧B.getD j 0≤1000000:=by
 unfold kFf at h;have:=jDl.1 h j (jKi.2 hj);simpa using this
theorem k88 {I:List Image}{B E:List Int}(h:¬(I.length=2∧B.length=2∧1≤E.length∧E.length≤6)):kAo I B E=false:=by
 unfold kAo;rw[decide_eq_false h];rfl
theorem kW2 {I:List Image}{B E:List Int}(h:kFf I B 2=false):kAo I B E=false:=by
 unfold kAo;rw[h,jPt];rfl
theorem qDk {I:List Image}{B E:List Int}(h:kOh I B=true):kAo I B E=false:=by
 unfold kAo;rw[h];simp
theorem qKk {I:List Image}{B E:List Int}{k:Nat}(hk:k<E.length) (h:kDz I B E[k]=false):kAo I B E=false:=by
 have:E.all (kDz I B)=false:=vMt.2 ⟨_,jCn hk,by rw[h];simp⟩
 unfold kAo;rw[this,jPt]
theorem sp_ok {I:List Image}{B E:List Int}(h1:I.length=2∧B.length=2∧1≤E.length∧E.length≤6) (h2:kFf I B 2=true) (h3:kOh I B=false) (h4:∀k (hk:k<E.length),kDz I B E[k]=true):kAo I B E=true:=by
 have:E.all (kDz I B)=true:=jDl.2 fun e he=>by
  obtain⟨k,hk,rfl⟩:=jWa.1 he;exact h4 k hk
 unfold kAo;rw[decide_eq_true h1,h2,h3,this];rfl
def kEk (x:List Image×List Int×List Int):Prop:=kUa x.1∧x.2.1.length≤4194304∧x.2.2.length≤4194304
@[go_sem] def kSpOk:Ctr:=pur (fun args=>spA args 0) (fun x=>[.agg [.sl 2 (x.1.map encImage),.sl 1 (x.2.1.map encI),.sl 1 (x.2.2.map encI)]]) kEk (fun _ x=>.v (.bool (kAo x.1 x.2.1 x.2.2))) (fun _ _=>[])
section
def cxSpI:=kc c60 (kc qO4 (kc cEntrI kn))
theorem kL9 {p:Prop}(h:p:=by first|omega|exact(hIm _ ‹_›).1|exact(hIm _ ‹_›).2.1|exact(hIm _ ‹_›).2.2 _ ‹_›|exact g2.trans g1.symm|exact(hBn _ ‹_›).1|exact(hBn _ ‹_›).2|exact(hst _ ‹_› _ ‹_›).1|exact(hst _ ‹_› _ ‹_›).2|exact hIm _ ‹_›):p:=h
set_option maxHeartbeats 3000000 in
theorem k9d:Cq 103 kSpOk:=by
 refine zp fun d x hx=>?_
 obtain⟨I,B,E⟩:=x;obtain⟨⟨hI,hIm⟩,hB,hE⟩:=hx;simp only at hI hIm hB hE⊢;refine zg cxSpI func103 rfl rfl ntmps103 ?_;intros;by_cases hlen:I.length=2∧B.length=2∧1≤E.length∧E.length≤6;rotate_left
 ·rw[k88 hlen];by_cases l1:(I.length:Int)=2
  ·by_cases l2:(B.length:Int)=2
   ·have l3:(decide ((1:Int)≤E.length)&&decide ((E.length:Int)≤6))=false:=by
     rw[←vBz];exact decide_eq_false fun h=>hlen ⟨zo,zo,zo,zo⟩
    exact zx2 13 32 (z3 l1 l2 l3)
   ·exact zx2 13 32 (z2 l1 l2)
  ·exact zx2 13 32 l1
 obtain⟨g1,g2,g3,g4⟩:=hlen;have l1:(I.length:Int)=2:=zo;have l2:(B.length:Int)=2:=zo;have l3:(1:Int)≤E.length:=zo;have l4:(E.length:Int)≤6:=zo;refine zy2 13 32 (z4 l1 l2 l3 l4) ?_
 refine zM (fun k:Nat=>⟨[(1,.ptr 1 0 0 0),(27,vi 2),(28,vi k)],[(1,.box 51 [.sl 2 (I.map encImage),.sl 1 (B.map encI),.sl 1 (E.map encI)])]⟩)
  (fun k=>k≤2∧kFf I B k=true) (fun k=>2-k) 0 ⟨zs,rfl⟩ ?_
 intro k ⟨hk,hi2⟩;by_cases hlt:k<2
 ·have hli:(k:Int)<2:=zo;have hkI:k<I.length:=zo;have hkB:k<B.length:=zo;have hkIi:(k:Int)<I.length:=zo;have hkBi:(k:Int)<B.length:=zo;have hr:=kAa encImage I k hkI;have hrb:=kAa encI B k hkB;obtain⟨p1,p2,p3⟩:=hIm _ (jCn hkI);simp only at p1 p2 p3;have hsu:=kVu I B k;rw[hi2,jPw,kCd hkI,kA9 hkB]at hsu
  have hdn:kFf I B (k+1)=false→kFf I B 2=false:=fun h=>by
   have:=kVv h (2-(k+1))
   rwa [show k+1+(2-(k+1))=2 by omega]at this
  cases hok:kDy I[k].code I[k].symbols with
  |false =>
   rw[hok,jK2]at hsu;rw[kW2 (hdn hsu)]
   exact zx2 13 32 (z8 hli l1 l2 hr encImage.eq_1 hok hrb encI.eq_1)
  |true =>
   by_cases hb:1≤B[k]∧B[k]≤1000000
   ·rw[hok,decide_eq_true hb]at hsu
    (repeat' (first|apply zS|apply zB|((first|apply zW| refine zd 13 ?_|refine zd 32 ?_);simp only[go_sem,hli,l1,l2,hr,encImage,hok,hrb,encI,hb])|apply jAi|omega|exact p3 _ ‹_›|exact⟨k+1,⟨zo,hsu⟩,zo,zh⟩|intro _))
   ·rw[hok,decide_eq_false hb]at hsu;rw[kW2 (hdn hsu)];have hb':(decide (1≤B[k])&&decide (B[k]≤1000000))=false:=by rw[←vBz];exact decide_eq_false hb
    exact zx2 13 32 (z9 hli l1 l2 hr encImage.eq_1 hok hrb encI.eq_1 hb')
 ·have hge:¬(k:Int)<2:=zo;obtain rfl:k=2:=zo;have h0I:0<I.length:=zo;have h1I:1<I.length:=zo;have h0B:0<B.length:=zo;have h1B:1<B.length:=zo;have r0:=kAa encImage I 0 h0I;have r1:=kAa encImage I 1 h1I;have b0:=kAa encI B 0 h0B;have b1:=kAa encI B 1 h1B;obtain⟨o0,q0,q0'⟩:=kLa hi2 (j:=0) zo;obtain⟨o1,q1,q1'⟩:=kLa hi2 (j:=1) zo;rw[kA9 h0B]at q0 q0';rw[kA9 h1B]at q1 q1';have s0:=(hIm _ (jCn h0I)).1;have s1:=(hIm _ (jCn h1I)).1;simp only at s0 s1
  have hov:kOh I B=(decide (0<I[0].code.size)&&decide (0<I[1].code.size)&&decide (B[0]<B[1]+I[1].code.size)&&decide (B[1]<B[0]+I[0].code.size)):=by
   unfold kOh;rw[kCd h0I,kCd h1I,kA9 h0B,kA9 h1B]
  have c02:(0:Int)<2:=zo;have c12:(1:Int)<2:=zo;have t1:(1:Int).toNat=1:=rfl
  have hBn:∀b∈B,0≤b∧b≤1000000000000:=fun b hb=>by
   obtain⟨j,hj,rfl⟩:=jWa.1 hb;have:=(kLa hi2 (j:=j) zo).2;rw[kA9 hj]at this;omega
  have hst:∀i∈I,∀y∈i.symbols,0≤y.start∧y.start≤1000000000000:=fun i hi y hy=>by
   obtain⟨j,hj,rfl⟩:=jWa.1 hi;have:=(kLa hi2 (j:=j) zo).1;rw[kCd hj]at this;obtain⟨A,hA⟩:=kS2 this;obtain⟨m,hm,rfl⟩:=jWa.1 hy;have h1:=hA.lt hm;have h2:=hA.big;omega
  cases ho:kOh I B with
  |true =>
   rw[qDk ho];rw[ho]at hov;have hov:=hov.symm;simp only[jBs,decide_eq_true_eq]at hov;obtain⟨⟨⟨v1,v2⟩,v3⟩,v4⟩:=hov;have v1i:(0:Int)<I[0].code.size:=zo;have v2i:(0:Int)<I[1].code.size:=zo
   (repeat' (first|apply zS|apply zB|((first|apply zW| refine zd 13 ?_|refine zd 32 ?_);simp only[go_sem,hge,l1,l2,c02,c12,t1,r0,r1,b0,b1,encImage,encI,v1i,v2i,v3,v4])|apply jAi|exact zc0|intro _))
  |false =>
   rw[ho]at hov;have hloop:∀k (hk:k<E.length),kDz I B E[k]=false→kAo I B E=false:=fun k hk h=>qKk hk h
   have hyes:=sp_ok (I:=I) (B:=B) (E:=E) ⟨g1,g2,g3,g4⟩ hi2 ho;by_cases v1:(0:Int)<I[0].code.size
   ·by_cases v2:(0:Int)<I[1].code.size
    ·by_cases v3:B[0]<B[1]+(I[1].code.size:Int)
     ·have v4:¬B[1]<B[0]+(I[0].code.size:Int):=fun h=>by
       rw[decide_eq_true (by omega:0<I[0].code.size),decide_eq_true (by omega:0<I[1].code.size),decide_eq_true v3,decide_eq_true h]at hov
       cases hov
      (repeat' (first|apply zS|apply zB|((first|apply zW| refine zd 13 ?_|refine zd 32 ?_);simp only[go_sem,hge,l1,l2,c02,c12,t1,r0,r1,b0,b1,encImage,encI,v1,v2,v3,v4])|apply jAi|exact zc0|intro _))
      refine zM (fun k:Nat=>⟨[(1,.ptr 1 0 0 0),(93,.sl 1 (E.map encI)),(94,vi E.length),(95,vi k)],[(1,.box 51 [.sl 2 (I.map encImage),.sl 1 (B.map encI),.sl 1 (E.map encI)])]⟩)
       (fun k=>k≤E.length∧∀i (hi:i<E.length),i<k→kDz I B E[i]=true) (fun k=>E.length-k) 0 zs ?_
      intro k ⟨hk,hf⟩;by_cases hlt:k<E.length
      ·have hli:(k:Int)<E.length:=zo;have hre:=kAa encI E k hlt
       cases he:kDz I B E[k]with
       |true =>
        (repeat' (first|apply zS|apply zB|((first|apply zW| refine zd 13 ?_|refine zd 32 ?_);simp only[go_sem,hli,hre,encI,he])|apply jAi|intro _))
        all_goals first|omega|exact(hIm _ ‹_›).1|exact(hIm _ ‹_›).2.1|exact(hIm _ ‹_›).2.2 _ ‹_›|exact g2.trans g1.symm|exact(hBn _ ‹_›).1|exact(hBn _ ‹_›).2|exact(hst _ ‹_› _ ‹_›).1|exact(hst _ ‹_› _ ‹_›).2|exact hIm _ ‹_›|exact⟨k+1,⟨zo,fun i hi hik=>by
         rcases jFx i k with h|h
         ·exact hf i hi h
         ·have:i=k:=zo
          subst this;exact he⟩,zo,zh⟩|skip
       |false =>
        rw[hloop k hlt he]
        (repeat' (first|apply zS|apply zB|((first|apply zW| refine zd 13 ?_|refine zd 32 ?_);simp only[go_sem,hli,hre,encI,he])|apply jAi|exact kL9|intro _))
      ·have kMk:¬(k:Int)<E.length:=zo;rw[hyes fun i hi=>hf i hi zo]
       exact zx2 13 32 kMk
     ·(repeat' (first|apply zS|apply zB|((first|apply zW| refine zd 13 ?_|refine zd 32 ?_);simp only[go_sem,hge,l1,l2,c02,c12,t1,r0,r1,b0,b1,encImage,encI,v1,v2,v3])|apply jAi|exact zc0|intro _))
      refine zM (fun k:Nat=>⟨[(1,.ptr 1 0 0 0),(93,.sl 1 (E.map encI)),(94,vi E.length),(95,vi k)],[(1,.box 51 [.sl 2 (I.map encImage),.sl 1 (B.map encI),.sl 1 (E.map encI)])]⟩)
       (fun k=>k≤E.length∧∀i (hi:i<E.length),i<k→kDz I B E[i]=true) (fun k=>E.length-k) 0 zs ?_
      intro k ⟨hk,hf⟩;by_cases hlt:k<E.length
      ·have hli:(k:Int)<E.length:=zo;have hre:=kAa encI E k hlt
       cases he:kDz I B E[k]with
       |true =>
        (repeat' (first|apply zS|apply zB|((first|apply zW| refine zd 13 ?_|refine zd 32 ?_);simp only[go_sem,hli,hre,encI,he])|apply jAi|intro _))
        all_goals first|omega|exact(hIm _ ‹_›).1|exact(hIm _ ‹_›).2.1|exact(hIm _ ‹_›).2.2 _ ‹_›|exact g2.trans g1.symm|exact(hBn _ ‹_›).1|exact(hBn _ ‹_›).2|exact(hst _ ‹_› _ ‹_›).1|exact(hst _ ‹_› _ ‹_›).2|exact hIm _ ‹_›|exact⟨k+1,⟨zo,fun i hi hik=>by
         rcases jFx i k with h|h
         ·exact hf i hi h
         ·have:i=k:=zo
          subst this;exact he⟩,zo,zh⟩|skip
       |false =>
        rw[hloop k hlt he]
        (repeat' (first|apply zS|apply zB|((first|apply zW| refine zd 13 ?_|refine zd 32 ?_);simp only[go_sem,hli,hre,encI,he])|apply jAi|exact kL9|intro _))
      ·have kMk:¬(k:Int)<E.length:=zo;rw[hyes fun i hi=>hf i hi zo]
       exact zx2 13 32 kMk
    ·(repeat' (first|apply zS|apply zB|((first|apply zW| refine zd 13 ?_|refine zd 32 ?_);simp only[go_sem,hge,l1,l2,c02,c12,t1,r0,r1,b0,b1,encImage,encI,v1,v2])|apply jAi|exact zc0|intro _))
     refine zM (fun k:Nat=>⟨[(1,.ptr 1 0 0 0),(93,.sl 1 (E.map encI)),(94,vi E.length),(95,vi k)],[(1,.box 51 [.sl 2 (I.map encImage),.sl 1 (B.map encI),.sl 1 (E.map encI)])]⟩)
      (fun k=>k≤E.length∧∀i (hi:i<E.length),i<k→kDz I B E[i]=true) (fun k=>E.length-k) 0 zs ?_
     intro k ⟨hk,hf⟩;by_cases hlt:k<E.length
     ·have hli:(k:Int)<E.length:=zo;have hre:=kAa encI E k hlt
      cases he:kDz I B E[k]with
      |true =>
       (repeat' (first|apply zS|apply zB|((first|apply zW| refine zd 13 ?_|refine zd 32 ?_);simp only[go_sem,hli,hre,encI,he])|apply jAi|intro _))
       all_goals first|omega|exact(hIm _ ‹_›).1|exact(hIm _ ‹_›).2.1|exact(hIm _ ‹_›).2.2 _ ‹_›|exact g2.trans g1.symm|exact(hBn _ ‹_›).1|exact(hBn _ ‹_›).2|exact(hst _ ‹_› _ ‹_›).1|exact(hst _ ‹_› _ ‹_›).2|exact hIm _ ‹_›|exact⟨k+1,⟨zo,fun i hi hik=>by
        rcases jFx i k with h|h
        ·exact hf i hi h
        ·have:i=k:=zo
         subst this;exact he⟩,zo,zh⟩|skip
      |false =>
       rw[hloop k hlt he]
       (repeat' (first|apply zS|apply zB|((first|apply zW| refine zd 13 ?_|refine zd 32 ?_);simp only[go_sem,hli,hre,encI,he])|apply jAi|exact kL9|intro _))
     ·have kMk:¬(k:Int)<E.length:=zo;rw[hyes fun i hi=>hf i hi zo]
      exact zx2 13 32 kMk
   ·(repeat' (first|apply zS|apply zB|((first|apply zW| refine zd 13 ?_|refine zd 32 ?_);simp only[go_sem,hge,l1,l2,c02,c12,t1,r0,r1,b0,b1,encImage,encI,v1])|apply jAi|exact zc0|intro _))
    refine zM (fun k:Nat=>⟨[(1,.ptr 1 0 0 0),(93,.sl 1 (E.map encI)),(94,vi E.length),(95,vi k)],[(1,.box 51 [.sl 2 (I.map encImage),.sl 1 (B.map encI),.sl 1 (E.map encI)])]⟩)
     (fun k=>k≤E.length∧∀i (hi:i<E.length),i<k→kDz I B E[i]=true) (fun k=>E.length-k) 0 zs ?_
    intro k ⟨hk,hf⟩;by_cases hlt:k<E.length
    ·have hli:(k:Int)<E.length:=zo;have hre:=kAa encI E k hlt
     cases he:kDz I B E[k]with
     |true =>
      (repeat' (first|apply zS|apply zB|((first|apply zW| refine zd 13 ?_|refine zd 32 ?_);simp only[go_sem,hli,hre,encI,he])|apply jAi|intro _))
      all_goals first|omega|exact(hIm _ ‹_›).1|exact(hIm _ ‹_›).2.1|exact(hIm _ ‹_›).2.2 _ ‹_›|exact g2.trans g1.symm|exact(hBn _ ‹_›).1|exact(hBn _ ‹_›).2|exact(hst _ ‹_› _ ‹_›).1|exact(hst _ ‹_› _ ‹_›).2|exact hIm _ ‹_›|exact⟨k+1,⟨zo,fun i hi hik=>by
       rcases jFx i k with h|h
       ·exact hf i hi h
       ·have:i=k:=zo
        subst this;exact he⟩,zo,zh⟩|skip
     |false =>
      rw[hloop k hlt he]
      (repeat' (first|apply zS|apply zB|((first|apply zW| refine zd 13 ?_|refine zd 32 ?_);simp only[go_sem,hli,hre,encI,he])|apply jAi|exact kL9|intro _))
    ·have kMk:¬(k:Int)<E.length:=zo;rw[hyes fun i hi=>hf i hi zo]
     exact zx2 13 32 kMk
end
end
section
open Go.Vc Tryz
open Go.Pl
theorem kY0 (I:List Image) (B:List Int) (e:Int):-1≤kAm I B e∧kAm I B e<I.length:=by
 unfold kAm firstIdx;split
 ·rename_i q hq;have:=(vWw.1 hq).1;rw[yGv]at this;omega
 ·omega
theorem kY1 {α:Type}(p:α→Bool) (L:List α):-1≤firstIdx p L∧firstIdx p L<L.length:=by
 unfold firstIdx;split
 ·rename_i q hq;have:=(vWw.1 hq).1;omega
 ·omega
section
def cxSpS:=kc c58 (kc qO5 (kc k7a (kc qC0 kn)))
theorem kC0 {p:Prop}(h:p:=by first|omega|exact(hIm _ ‹_›).1|exact(hIm _ ‹_›).2.1|exact(hIm _ ‹_›).2.2 _ ‹_›|exact g2.trans g1.symm|exact(hBn _ ‹_›).1|exact(hBn _ ‹_›).2|exact hIm _ ‹_›):p:=h
set_option maxHeartbeats 3000000 in
theorem k9f:Cq 79 kSpOk:=by
 refine zp fun d x hx=>?_
 obtain⟨I,B,E⟩:=x;obtain⟨⟨hI,hIm⟩,hB,hE⟩:=hx;simp only at hI hIm hB hE⊢;refine zg cxSpS func79 rfl rfl ntmps79 ?_;intros;by_cases hlen:I.length=2∧B.length=2∧1≤E.length∧E.length≤6;rotate_left
 ·rw[k88 hlen];by_cases l1:(I.length:Int)=2
  ·by_cases l2:(B.length:Int)=2
   ·have l3:(decide ((1:Int)≤E.length)&&decide ((E.length:Int)≤6))=false:=by
     rw[←vBz];exact decide_eq_false fun h=>hlen ⟨zo,zo,zo,zo⟩
    exact zx2 32 11 (z3 l1 l2 l3)
   ·exact zx2 32 11 (z2 l1 l2)
  ·exact zx2 32 11 l1
 obtain⟨g1,g2,g3,g4⟩:=hlen;have lk0:lk 0 tys=none:=rfl;have l1:(I.length:Int)=2:=zo;have l2:(B.length:Int)=2:=zo;have l3:(1:Int)≤E.length:=zo;have l4:(E.length:Int)≤6:=zo;refine zy2 32 11 (z4 l1 l2 l3 l4) ?_
 refine zM (fun k:Nat=>⟨[(1,.ptr 1 0 0 0),(3,vi k)],[(1,.box 51 [.sl 2 (I.map encImage),.sl 1 (B.map encI),.sl 1 (E.map encI)])]⟩)
  (fun k=>k≤2∧kFf I B k=true) (fun k=>2-k) 0 ⟨zs,rfl⟩ ?_
 intro k ⟨hk,hi2⟩;by_cases hlt:k<2
 ·have hli:(k:Int)<2:=zo;have hkI:k<I.length:=zo;have hkB:k<B.length:=zo;have hkIi:(k:Int)<I.length:=zo;have hkBi:(k:Int)<B.length:=zo;have hr:=kAa encImage I k hkI;have hrb:=kAa encI B k hkB;obtain⟨p1,p2,p3⟩:=hIm _ (jCn hkI);simp only at p1 p2 p3;have hsu:=kVu I B k;rw[hi2,jPw,kCd hkI,kA9 hkB]at hsu
  have hdn:kFf I B (k+1)=false→kFf I B 2=false:=fun h=>by
   have:=kVv h (2-(k+1))
   rwa [show k+1+(2-(k+1))=2 by omega]at this
  cases hok:kDy I[k].code I[k].symbols with
  |false =>
   rw[hok,jK2]at hsu;rw[kW2 (hdn hsu)]
   exact zx2 32 11 (z8 hli l1 l2 hr encImage.eq_1 hok hrb encI.eq_1)
  |true =>
   by_cases hb:1≤B[k]∧B[k]≤1000000
   ·rw[hok,decide_eq_true hb]at hsu
    (repeat' (first|apply zS|apply zB|((first|apply zW| refine zd 32 ?_|refine zd 11 ?_);simp only[go_sem,hli,l1,l2,hr,encImage,hok,hrb,encI,hb])|apply jAi|omega|exact p3 _ ‹_›|exact⟨k+1,⟨zo,hsu⟩,zo,zh⟩|intro _))
   ·rw[hok,decide_eq_false hb]at hsu;rw[kW2 (hdn hsu)];have hb':(decide (1≤B[k])&&decide (B[k]≤1000000))=false:=by rw[←vBz];exact decide_eq_false hb
    exact zx2 32 11 (z9 hli l1 l2 hr encImage.eq_1 hok hrb encI.eq_1 hb')
 ·have hge:¬(k:Int)<2:=zo;obtain rfl:k=2:=zo;have h0I:0<I.length:=zo;have h1I:1<I.length:=zo;have h0B:0<B.length:=zo;have h1B:1<B.length:=zo;have r0:=kAa encImage I 0 h0I;have r1:=kAa encImage I 1 h1I;have b0:=kAa encI B 0 h0B;have b1:=kAa encI B 1 h1B;obtain⟨o0,q0,q0'⟩:=kLa hi2 (j:=0) zo;obtain⟨o1,q1,q1'⟩:=kLa hi2 (j:=1) zo;rw[kA9 h0B]at q0 q0';rw[kA9 h1B]at q1 q1';have s0:=(hIm _ (jCn h0I)).1;have s1:=(hIm _ (jCn h1I)).1;simp only at s0 s1
  have hov:kOh I B=(decide (0<I[0].code.size)&&decide (0<I[1].code.size)&&decide (B[0]<B[1]+I[1].code.size)&&decide (B[1]<B[0]+I[0].code.size)):=by
   unfold kOh;rw[kCd h0I,kCd h1I,kA9 h0B,kA9 h1B]
  have c02:(0:Int)<2:=zo;have c12:(1:Int)<2:=zo;have t1:(1:Int).toNat=1:=rfl
  have hBn:∀b∈B,0≤b∧b≤1000000000000:=fun b hb=>by
   obtain⟨j,hj,rfl⟩:=jWa.1 hb;have:=(kLa hi2 (j:=j) zo).2;rw[kA9 hj]at this;omega
  have hst:∀i∈I,∀y∈i.symbols,0≤y.start∧y.start≤1000000000000:=fun i hi y hy=>by
   obtain⟨j,hj,rfl⟩:=jWa.1 hi;have:=(kLa hi2 (j:=j) zo).1;rw[kCd hj]at this;obtain⟨A,hA⟩:=kS2 this;obtain⟨m,hm,rfl⟩:=jWa.1 hy;have h1:=hA.lt hm;have h2:=hA.big;omega
  cases ho:kOh I B with
  |true =>
   rw[qDk ho];rw[ho]at hov;have hov:=hov.symm;simp only[jBs,decide_eq_true_eq]at hov;obtain⟨⟨⟨v1,v2⟩,v3⟩,v4⟩:=hov;have v1i:(0:Int)<I[0].code.size:=zo;have v2i:(0:Int)<I[1].code.size:=zo
   (repeat' (first|apply zS|apply zB|((first|apply zW| refine zd 32 ?_|refine zd 11 ?_);simp only[go_sem,hge,l1,l2,c02,c12,t1,r0,r1,b0,b1,encImage,encI,v1i,v2i,v3,v4])|apply jAi|exact zc0|intro _))
  |false =>
   rw[ho]at hov;have hloop:∀k (hk:k<E.length),kDz I B E[k]=false→kAo I B E=false:=fun k hk h=>qKk hk h
   have hyes:=sp_ok (I:=I) (B:=B) (E:=E) ⟨g1,g2,g3,g4⟩ hi2 ho;by_cases v1:(0:Int)<I[0].code.size
   ·by_cases v2:(0:Int)<I[1].code.size
    ·by_cases v3:B[0]<B[1]+(I[1].code.size:Int)
     ·have v4:¬B[1]<B[0]+(I[0].code.size:Int):=fun h=>by
       rw[decide_eq_true (by omega:0<I[0].code.size),decide_eq_true (by omega:0<I[1].code.size),decide_eq_true v3,decide_eq_true h]at hov
       cases hov
      (repeat' (first|apply zS|apply zB|((first|apply zW| refine zd 32 ?_|refine zd 11 ?_);simp only[go_sem,hge,l1,l2,c02,c12,t1,r0,r1,b0,b1,encImage,encI,v1,v2,v3,v4])|apply jAi|exact zc0|intro _))
      refine zM (fun k:Nat=>⟨[(1,.ptr 1 0 0 0),(6,vi k)],[(1,.box 51 [.sl 2 (I.map encImage),.sl 1 (B.map encI),.sl 1 (E.map encI)])]⟩)
       (fun k=>k≤E.length∧∀i (hi:i<E.length),i<k→kDz I B E[i]=true) (fun k=>E.length-k) 0 zs ?_
      intro k ⟨hk,hf⟩;by_cases hlt:k<E.length
      ·have hli:(k:Int)<E.length:=zo;have hre:=kAa encI E k hlt;have hes:=kVt g1 hi2 ho E[k];unfold entS at hes;obtain⟨hlo1,hlo2⟩:=kY0 I B E[k];by_cases hn:kAm I B E[k]<0
       ·rw[if_pos hn]at hes;rw[hloop k hlt hes.symm]
        (repeat' (first|apply zS|apply zB|((first|apply zW| refine zd 32 ?_|refine zd 11 ?_);simp only[go_sem,hli,hre,encI,hn])|apply jAi|exact kC0|intro _))
       rw[if_neg hn]at hes;obtain⟨m,hm⟩:=zN (kAm I B E[k]);have hmI:m<I.length:=zo;have hmB:m<B.length:=zo;have hmi:(m:Int)<I.length:=zo;have hm2:(m:Int)<2:=zo;have hm0:¬(m:Int)<0:=zo;rw[hm,jB2,kCd hmI,kA9 hmB]at hes;have hrm:=kAa encImage I m hmI;obtain⟨y1,y2,y3⟩:=hIm _ (jCn hmI);simp only at y1 y2 y3;have hgB:B.getD m 0=B[m]:=kA9 hmB 0;obtain⟨hs1,hs2⟩:=kY1 (kAk (E[k]-B[m])) I[m].symbols;by_cases hz:firstIdx (kAk (E[k]-B[m])) I[m].symbols<0
       ·have hzF:¬0≤firstIdx (kAk (E[k]-B[m])) I[m].symbols:=zo;rw[decide_eq_false hzF,jK2]at hes;rw[hloop k hlt hes.symm]
        (repeat' (first|apply zS|apply zB|((first|refine WP.kQ1 (id:=19) ?_);simp only[go_sem,hli,hre,encI,hm,hm0,hmi,hm2,l1,hrm,encImage,hz,hgB,lk0])|((first|apply zW| refine zd 32 ?_|refine zd 11 ?_);simp only[go_sem,hli,hre,encI,hm,hm0,hmi,hm2,l1,hrm,encImage,hz,hgB,lk0])|apply jAi|exact kC0|intro _))
       obtain⟨n,hn2⟩:=zN (firstIdx (kAk (E[k]-B[m])) I[m].symbols);have hnY:n<I[m].symbols.length:=zo;have kSd:(n:Int)<I[m].symbols.length:=zo;have hn0:¬(n:Int)<0:=zo;have hnT:(0:Int)≤(n:Int):=zo;rw[hn2,jB2,decide_eq_true hnT,jPw,jKz,jD9 hnY,jOj]at hes;have hry:=kAa encSymbol I[m].symbols n hnY;by_cases hst2:I[m].symbols[n].start=E[k]-B[m]
       ·rw[decide_eq_true hst2]at hes;have he:=hes.symm
        (repeat' (first|apply zS|apply zB|((first|apply zW| refine zd 32 ?_|refine zd 11 ?_);simp only[go_sem,hli,hre,encI,hm,hm0,hmi,hm2,l1,hrm,encImage,hn2,hn0,kSd,hry,encSymbol,hst2,hgB])|apply jAi|intro _))
        all_goals first|omega|exact(hIm _ ‹_›).1|exact(hIm _ ‹_›).2.1|exact(hIm _ ‹_›).2.2 _ ‹_›|exact g2.trans g1.symm|exact(hBn _ ‹_›).1|exact(hBn _ ‹_›).2|exact hIm _ ‹_›|exact⟨k+1,⟨zo,fun i hi hik=>by
         rcases jFx i k with h|h
         ·exact hf i hi h
         ·have:i=k:=zo;subst this;exact he⟩,zo,zh⟩|skip
       ·rw[decide_eq_false hst2]at hes;rw[hloop k hlt hes.symm]
        (repeat' (first|apply zS|apply zB|((first|apply zW| refine zd 32 ?_|refine zd 11 ?_);simp only[go_sem,hli,hre,encI,hm,hm0,hmi,hm2,l1,hrm,encImage,hn2,hn0,kSd,hry,encSymbol,hst2,hgB])|apply jAi|exact kC0|intro _))
      ·have kMk:¬(k:Int)<E.length:=zo;rw[hyes fun i hi=>hf i hi zo]
       exact zx2 32 11 kMk
     ·(repeat' (first|apply zS|apply zB|((first|apply zW| refine zd 32 ?_|refine zd 11 ?_);simp only[go_sem,hge,l1,l2,c02,c12,t1,r0,r1,b0,b1,encImage,encI,v1,v2,v3])|apply jAi|exact zc0|intro _))
      refine zM (fun k:Nat=>⟨[(1,.ptr 1 0 0 0),(6,vi k)],[(1,.box 51 [.sl 2 (I.map encImage),.sl 1 (B.map encI),.sl 1 (E.map encI)])]⟩)
       (fun k=>k≤E.length∧∀i (hi:i<E.length),i<k→kDz I B E[i]=true) (fun k=>E.length-k) 0 zs ?_
      intro k ⟨hk,hf⟩;by_cases hlt:k<E.length
      ·have hli:(k:Int)<E.length:=zo;have hre:=kAa encI E k hlt;have hes:=kVt g1 hi2 ho E[k];unfold entS at hes;obtain⟨hlo1,hlo2⟩:=kY0 I B E[k];by_cases hn:kAm I B E[k]<0
       ·rw[if_pos hn]at hes;rw[hloop k hlt hes.symm]
        (repeat' (first|apply zS|apply zB|((first|apply zW| refine zd 32 ?_|refine zd 11 ?_);simp only[go_sem,hli,hre,encI,hn])|apply jAi|exact kC0|intro _))
       rw[if_neg hn]at hes;obtain⟨m,hm⟩:=zN (kAm I B E[k]);have hmI:m<I.length:=zo;have hmB:m<B.length:=zo;have hmi:(m:Int)<I.length:=zo;have hm2:(m:Int)<2:=zo;have hm0:¬(m:Int)<0:=zo;rw[hm,jB2,kCd hmI,kA9 hmB]at hes;have hrm:=kAa encImage I m hmI;obtain⟨y1,y2,y3⟩:=hIm _ (jCn hmI);simp only at y1 y2 y3;have hgB:B.getD m 0=B[m]:=kA9 hmB 0;obtain⟨hs1,hs2⟩:=kY1 (kAk (E[k]-B[m])) I[m].symbols;by_cases hz:firstIdx (kAk (E[k]-B[m])) I[m].symbols<0
       ·have hzF:¬0≤firstIdx (kAk (E[k]-B[m])) I[m].symbols:=zo;rw[decide_eq_false hzF,jK2]at hes;rw[hloop k hlt hes.symm]
        (repeat' (first|apply zS|apply zB|((first|refine WP.kQ1 (id:=19) ?_);simp only[go_sem,hli,hre,encI,hm,hm0,hmi,hm2,l1,hrm,encImage,hz,hgB,lk0])|((first|apply zW| refine zd 32 ?_|refine zd 11 ?_);simp only[go_sem,hli,hre,encI,hm,hm0,hmi,hm2,l1,hrm,encImage,hz,hgB,lk0])|apply jAi|exact kC0|intro _))
       obtain⟨n,hn2⟩:=zN (firstIdx (kAk (E[k]-B[m])) I[m].symbols);have hnY:n<I[m].symbols.length:=zo;have kSd:(n:Int)<I[m].symbols.length:=zo;have hn0:¬(n:Int)<0:=zo;have hnT:(0:Int)≤(n:Int):=zo;rw[hn2,jB2,decide_eq_true hnT,jPw,jKz,jD9 hnY,jOj]at hes;have hry:=kAa encSymbol I[m].symbols n hnY;by_cases hst2:I[m].symbols[n].start=E[k]-B[m]
       ·rw[decide_eq_true hst2]at hes;have he:=hes.symm
        (repeat' (first|apply zS|apply zB|((first|apply zW| refine zd 32 ?_|refine zd 11 ?_);simp only[go_sem,hli,hre,encI,hm,hm0,hmi,hm2,l1,hrm,encImage,hn2,hn0,kSd,hry,encSymbol,hst2,hgB])|apply jAi|intro _))
        all_goals first|omega|exact(hIm _ ‹_›).1|exact(hIm _ ‹_›).2.1|exact(hIm _ ‹_›).2.2 _ ‹_›|exact g2.trans g1.symm|exact(hBn _ ‹_›).1|exact(hBn _ ‹_›).2|exact hIm _ ‹_›|exact⟨k+1,⟨zo,fun i hi hik=>by
         rcases jFx i k with h|h
         ·exact hf i hi h
         ·have:i=k:=zo;subst this;exact he⟩,zo,zh⟩|skip
       ·rw[decide_eq_false hst2]at hes;rw[hloop k hlt hes.symm]
        (repeat' (first|apply zS|apply zB|((first|apply zW| refine zd 32 ?_|refine zd 11 ?_);simp only[go_sem,hli,hre,encI,hm,hm0,hmi,hm2,l1,hrm,encImage,hn2,hn0,kSd,hry,encSymbol,hst2,hgB])|apply jAi|exact kC0|intro _))
      ·have kMk:¬(k:Int)<E.length:=zo;rw[hyes fun i hi=>hf i hi zo]
       exact zx2 32 11 kMk
    ·(repeat' (first|apply zS|apply zB|((first|apply zW| refine zd 32 ?_|refine zd 11 ?_);simp only[go_sem,hge,l1,l2,c02,c12,t1,r0,r1,b0,b1,encImage,encI,v1,v2])|apply jAi|exact zc0|intro _))
     refine zM (fun k:Nat=>⟨[(1,.ptr 1 0 0 0),(6,vi k)],[(1,.box 51 [.sl 2 (I.map encImage),.sl 1 (B.map encI),.sl 1 (E.map encI)])]⟩)
      (fun k=>k≤E.length∧∀i (hi:i<E.length),i<k→kDz I B E[i]=true) (fun k=>E.length-k) 0 zs ?_
     intro k ⟨hk,hf⟩;by_cases hlt:k<E.length
     ·have hli:(k:Int)<E.length:=zo;have hre:=kAa encI E k hlt;have hes:=kVt g1 hi2 ho E[k];unfold entS at hes;obtain⟨hlo1,hlo2⟩:=kY0 I B E[k];by_cases hn:kAm I B E[k]<0
      ·rw[if_pos hn]at hes;rw[hloop k hlt hes.symm]
       (repeat' (first|apply zS|apply zB|((first|apply zW| refine zd 32 ?_|refine zd 11 ?_);simp only[go_sem,hli,hre,encI,hn])|apply jAi|exact kC0|intro _))
      rw[if_neg hn]at hes;obtain⟨m,hm⟩:=zN (kAm I B E[k]);have hmI:m<I.length:=zo;have hmB:m<B.length:=zo;have hmi:(m:Int)<I.length:=zo;have hm2:(m:Int)<2:=zo;have hm0:¬(m:Int)<0:=zo;rw[hm,jB2,kCd hmI,kA9 hmB]at hes;have hrm:=kAa encImage I m hmI;obtain⟨y1,y2,y3⟩:=hIm _ (jCn hmI);simp only at y1 y2 y3;have hgB:B.getD m 0=B[m]:=kA9 hmB 0;obtain⟨hs1,hs2⟩:=kY1 (kAk (E[k]-B[m])) I[m].symbols;by_cases hz:firstIdx (kAk (E[k]-B[m])) I[m].symbols<0
      ·have hzF:¬0≤firstIdx (kAk (E[k]-B[m])) I[m].symbols:=zo;rw[decide_eq_false hzF,jK2]at hes;rw[hloop k hlt hes.symm]
       (repeat' (first|apply zS|apply zB|((first|refine WP.kQ1 (id:=19) ?_);simp only[go_sem,hli,hre,encI,hm,hm0,hmi,hm2,l1,hrm,encImage,hz,hgB,lk0])|((first|apply zW| refine zd 32 ?_|refine zd 11 ?_);simp only[go_sem,hli,hre,encI,hm,hm0,hmi,hm2,l1,hrm,encImage,hz,hgB,lk0])|apply jAi|exact kC0|intro _))
      obtain⟨n,hn2⟩:=zN (firstIdx (kAk (E[k]-B[m])) I[m].symbols);have hnY:n<I[m].symbols.length:=zo;have kSd:(n:Int)<I[m].symbols.length:=zo;have hn0:¬(n:Int)<0:=zo;have hnT:(0:Int)≤(n:Int):=zo;rw[hn2,jB2,decide_eq_true hnT,jPw,jKz,jD9 hnY,jOj]at hes;have hry:=kAa encSymbol I[m].symbols n hnY;by_cases hst2:I[m].symbols[n].start=E[k]-B[m]
      ·rw[decide_eq_true hst2]at hes;have he:=hes.symm
       (repeat' (first|apply zS|apply zB|((first|apply zW| refine zd 32 ?_|refine zd 11 ?_);simp only[go_sem,hli,hre,encI,hm,hm0,hmi,hm2,l1,hrm,encImage,hn2,hn0,kSd,hry,encSymbol,hst2,hgB])|apply jAi|intro _))
       all_goals first|omega|exact(hIm _ ‹_›).1|exact(hIm _ ‹_›).2.1|exact(hIm _ ‹_›).2.2 _ ‹_›|exact g2.trans g1.symm|exact(hBn _ ‹_›).1|exact(hBn _ ‹_›).2|exact hIm _ ‹_›|exact⟨k+1,⟨zo,fun i hi hik=>by
        rcases jFx i k with h|h
        ·exact hf i hi h
        ·have:i=k:=zo;subst this;exact he⟩,zo,zh⟩|skip
      ·rw[decide_eq_false hst2]at hes;rw[hloop k hlt hes.symm]
       (repeat' (first|apply zS|apply zB|((first|apply zW| refine zd 32 ?_|refine zd 11 ?_);simp only[go_sem,hli,hre,encI,hm,hm0,hmi,hm2,l1,hrm,encImage,hn2,hn0,kSd,hry,encSymbol,hst2,hgB])|apply jAi|exact kC0|intro _))
     ·have kMk:¬(k:Int)<E.length:=zo;rw[hyes fun i hi=>hf i hi zo]
      exact zx2 32 11 kMk
   ·(repeat' (first|apply zS|apply zB|((first|apply zW| refine zd 32 ?_|refine zd 11 ?_);simp only[go_sem,hge,l1,l2,c02,c12,t1,r0,r1,b0,b1,encImage,encI,v1])|apply jAi|exact zc0|intro _))
    refine zM (fun k:Nat=>⟨[(1,.ptr 1 0 0 0),(6,vi k)],[(1,.box 51 [.sl 2 (I.map encImage),.sl 1 (B.map encI),.sl 1 (E.map encI)])]⟩)
     (fun k=>k≤E.length∧∀i (hi:i<E.length),i<k→kDz I B E[i]=true) (fun k=>E.length-k) 0 zs ?_
    intro k ⟨hk,hf⟩;by_cases hlt:k<E.length
    ·have hli:(k:Int)<E.length:=zo;have hre:=kAa encI E k hlt;have hes:=kVt g1 hi2 ho E[k];unfold entS at hes;obtain⟨hlo1,hlo2⟩:=kY0 I B E[k];by_cases hn:kAm I B E[k]<0
     ·rw[if_pos hn]at hes;rw[hloop k hlt hes.symm]
      (repeat' (first|apply zS|apply zB|((first|apply zW| refine zd 32 ?_|refine zd 11 ?_);simp only[go_sem,hli,hre,encI,hn])|apply jAi|exact kC0|intro _))
     rw[if_neg hn]at hes;obtain⟨m,hm⟩:=zN (kAm I B E[k]);have hmI:m<I.length:=zo;have hmB:m<B.length:=zo;have hmi:(m:Int)<I.length:=zo;have hm2:(m:Int)<2:=zo;have hm0:¬(m:Int)<0:=zo;rw[hm,jB2,kCd hmI,kA9 hmB]at hes;have hrm:=kAa encImage I m hmI;obtain⟨y1,y2,y3⟩:=hIm _ (jCn hmI);simp only at y1 y2 y3;have hgB:B.getD m 0=B[m]:=kA9 hmB 0;obtain⟨hs1,hs2⟩:=kY1 (kAk (E[k]-B[m])) I[m].symbols;by_cases hz:firstIdx (kAk (E[k]-B[m])) I[m].symbols<0
     ·have hzF:¬0≤firstIdx (kAk (E[k]-B[m])) I[m].symbols:=zo;rw[decide_eq_false hzF,jK2]at hes;rw[hloop k hlt hes.symm]
      (repeat' (first|apply zS|apply zB|((first|refine WP.kQ1 (id:=19) ?_);simp only[go_sem,hli,hre,encI,hm,hm0,hmi,hm2,l1,hrm,encImage,hz,hgB,lk0])|((first|apply zW| refine zd 32 ?_|refine zd 11 ?_);simp only[go_sem,hli,hre,encI,hm,hm0,hmi,hm2,l1,hrm,encImage,hz,hgB,lk0])|apply jAi|exact kC0|intro _))
     obtain⟨n,hn2⟩:=zN (firstIdx (kAk (E[k]-B[m])) I[m].symbols);have hnY:n<I[m].symbols.length:=zo;have kSd:(n:Int)<I[m].symbols.length:=zo;have hn0:¬(n:Int)<0:=zo;have hnT:(0:Int)≤(n:Int):=zo;rw[hn2,jB2,decide_eq_true hnT,jPw,jKz,jD9 hnY,jOj]at hes;have hry:=kAa encSymbol I[m].symbols n hnY;by_cases hst2:I[m].symbols[n].start=E[k]-B[m]
     ·rw[decide_eq_true hst2]at hes;have he:=hes.symm
      (repeat' (first|apply zS|apply zB|((first|apply zW| refine zd 32 ?_|refine zd 11 ?_);simp only[go_sem,hli,hre,encI,hm,hm0,hmi,hm2,l1,hrm,encImage,hn2,hn0,kSd,hry,encSymbol,hst2,hgB])|apply jAi|intro _))
      all_goals first|omega|exact(hIm _ ‹_›).1|exact(hIm _ ‹_›).2.1|exact(hIm _ ‹_›).2.2 _ ‹_›|exact g2.trans g1.symm|exact(hBn _ ‹_›).1|exact(hBn _ ‹_›).2|exact hIm _ ‹_›|exact⟨k+1,⟨zo,fun i hi hik=>by
       rcases jFx i k with h|h
       ·exact hf i hi h
       ·have:i=k:=zo;subst this;exact he⟩,zo,zh⟩|skip
     ·rw[decide_eq_false hst2]at hes;rw[hloop k hlt hes.symm]
      (repeat' (first|apply zS|apply zB|((first|apply zW| refine zd 32 ?_|refine zd 11 ?_);simp only[go_sem,hli,hre,encI,hm,hm0,hmi,hm2,l1,hrm,encImage,hn2,hn0,kSd,hry,encSymbol,hst2,hgB])|apply jAi|exact kC0|intro _))
    ·have kMk:¬(k:Int)<E.length:=zo;rw[hyes fun i hi=>hf i hi zo]
     exact zx2 32 11 kMk
end
end
end Go.Proofs.YtjdklcjoeanimaaGreat
namespace Go.Vc
section
def kMc (rows:List (List SV)):Prop:=∀row∈rows,∀c∈row,∃x,c=.v x
theorem ObR.toSl {w:World}{X X':Nat→Prop}{β:Nat→BV}{v:BV}{e s:Nat}{rows:List (List SV)}(h:ObR w X' β v (.sl e s rows)) (hX:∀b,v.ft b→¬X b) (hv:kMc rows):Rp w X (.sl s rows) v.val:=by
 cases h with
 |nil e s h=>subst h;exact .nil s _ _
 |sl b cap cur us hv' hh h1 h2 h3 h4 h5 h6 h7 =>
  subst hv';refine .sl b 0 cap us (hX b rfl) (lt_of_heap hh) h1 h4 (fun i k row c hr hc=>?_) h6 (fun i k row c hr hc=>?_)
  ·simp only[World.cell?,hh,vKy];exact h5 i k row c hr hc
  ·obtain⟨x,rfl⟩:=hv row (jIc hr) c (jIc hc);have:=h7 i k row _ hr hc;cases this;exact .v _
section
variable {P:Program}{f:FuncId}{args:List SV}{d e s:Nat}{rows:List (List SV)}
theorem Holds.frozen (h:Holds P f args (.own d) [(d,.sl e s rows)]) (hv:kMc rows):Holds P f args (.sl s rows) []:=by
 intro w X vs hG hX hl ha;refine(h w X vs hG hX hl ha).mono fun en w' ⟨v,β,he,hb,hβ,hR,hO,hn⟩=>?_
 refine⟨v,β,he,hb,hβ,?_,⟨fun id ob hi=>(by cases hi),fun i j oi oj b hi=>(by cases hi)⟩,fun id ob b hi=>(by cases hi)⟩
 have:=hR.kB9;subst this;refine .p ((hO.1 d (.sl e s rows) (by simp[lk])).toSl (fun b hb' hx=>?_) hv)
 have h1:=hn d (.sl e s rows) b (by simp[lk]) hb'
 rcases hx with hx|⟨i,o,hi,_⟩
 ·have:=hX b hx;omega
 ·cases hi
theorem Holds.kMm {y:Value}(h:Holds P f args (.tup [.own d,.v y]) [(d,.sl e s rows)]) (hv:kMc rows):Holds P f args (.tup [.sl s rows,.v y]) []:=by
 intro w X vs hG hX hl ha;refine(h w X vs hG hX hl ha).mono fun en w' ⟨v,β,he,hb,hβ,hR,hO,hn⟩=>?_
 refine⟨v,β,he,hb,hβ,?_,⟨fun id ob hi=>(by cases hi),fun i j oi oj b hi=>(by cases hi)⟩,fun id ob b hi=>(by cases hi)⟩
 obtain⟨us,rfl,hul,hh⟩:=hR.kTq;refine .tup hul fun k c u hc hu=>?_
 match k,hc with
 | 0,hc =>
  simp at hc;subst hc;have:=(hh 0 _ u rfl hu).kB9;subst this;refine .p ((hO.1 d (.sl e s rows) (by simp[lk])).toSl (fun b hb' hx=>?_) hv)
  have h1:=hn d (.sl e s rows) b (by simp[lk]) hb'
  rcases hx with hx|⟨i,o,hi,_⟩
  ·have:=hX b hx;omega
  ·cases hi
 | 1,hc =>
  simp at hc;subst hc;have:=(hh 1 _ u rfl hu).kAn
  subst this;exact .p (.v _)
 |k+2,hc=>simp at hc
end
theorem Cn.frozen {P:Program}{f:FuncId}{X:Type}{dec:List SV→X}{A:X→List SV}{pre:X→Prop}{e s:Nat}{rows:X→List (List SV)}(hv:∀x,kMc (rows x))
  (h:Cn P f (Go.Vc.pur dec A pre (fun d _=>.own d) (fun d x=>[(d,.sl e s (rows x))]))):Cn P f (Go.Vc.pur dec A pre (fun _ x=>.sl s (rows x)) (fun _ _=>[])) :=
 ⟨h.call,fun d args ha=>(h.holds d args ha).frozen (hv _),fun _ _ _ h=>h.elim⟩
theorem Cn.kMm {P:Program}{f:FuncId}{X:Type}{dec:List SV→X}{A:X→List SV}{pre:X→Prop}{e s:Nat}{rows:X→List (List SV)}{y:X→Value}(hv:∀x,kMc (rows x))
  (h:Cn P f (Go.Vc.pur dec A pre (fun d x=>.tup [.own d,.v (y x)]) (fun d x=>[(d,.sl e s (rows x))]))):Cn P f (Go.Vc.pur dec A pre (fun _ x=>.tup [.sl s (rows x),.v (y x)]) (fun _ _=>[])) :=
 ⟨h.call,fun d args ha=>(h.holds d args ha).kMm (hv _),fun _ _ _ h=>h.elim⟩
end
section
theorem ObR.toSlW {w:World}{X X':Nat→Prop}{β:Nat→BV}{v:BV}{e s:Nat}{rows:List (List SV)}(h:ObR w X' β v (.sl e s rows)) (hX:∀b,v.ft b→¬X b) (hXX:∀b,X b→X' b):Rp w X (.sl s rows) v.val:=by
 cases h with
 |nil e s h=>subst h;exact .nil s _ _
 |sl b cap cur us hv' hh h1 h2 h3 h4 h5 h6 h7 =>
  subst hv';refine .sl b 0 cap us (hX b rfl) (lt_of_heap hh) h1 h4 (fun i k row c hr hc=>?_) h6 (fun i k row c hr hc=>(h7 i k row c hr hc).mono ⟨jDu _,fun _ _ _=>rfl⟩ fun b _ h=>hXX b h)
  simp only[World.cell?,hh,vKy];exact h5 i k row c hr hc
section
variable {P:Program}{f:FuncId}{args:List SV}{d e s:Nat}{rows:List (List SV)}
theorem Holds.kTx (h:Holds P f args (.own d) [(d,.sl e s rows)]):Holds P f args (.sl s rows) []:=by
 intro w X vs hG hX hl ha;refine(h w X vs hG hX hl ha).mono fun en w' ⟨v,β,he,hb,hβ,hR,hO,hn⟩=>?_
 refine⟨v,β,he,hb,hβ,?_,⟨fun id ob hi=>(by cases hi),fun i j oi oj b hi=>(by cases hi)⟩,fun id ob b hi=>(by cases hi)⟩
 have:=hR.kB9;subst this;refine .p ((hO.1 d (.sl e s rows) (by simp[lk])).toSlW (fun b hb' hx=>?_) (fun b hx=>?_))
 ·have h1:=hn d (.sl e s rows) b (by simp[lk]) hb'
  rcases hx with hx|⟨i,o,hi,_⟩
  ·have:=hX b hx;omega
  ·cases hi
 ·rcases hx with hx|⟨i,o,hi,_⟩
  ·exact .inl hx
  ·cases hi
end
theorem Cn.kTx {P:Program}{f:FuncId}{X:Type}{dec:List SV→X}{A:X→List SV}{pre:X→Prop}{e s:Nat}{rows:X→List (List SV)}
  (h:Cn P f (Go.Vc.pur dec A pre (fun d _=>.own d) (fun d x=>[(d,.sl e s (rows x))]))):Cn P f (Go.Vc.pur dec A pre (fun _ x=>.sl s (rows x)) (fun _ _=>[])) :=
 ⟨h.call,fun d args ha=>(h.holds d args ha).kTx,fun _ _ _ h=>h.elim⟩
end
end Go.Vc
namespace Go.Proofs.YtjdklcjoeanimaaGreat
section
open Go.Vc
attribute [local irreducible] Go.Vc.WP
end
section
open Go.Vc Tryz
attribute [local irreducible] Go.Vc.WP
structure Node where
 parent:Int
 name:ByteArray
 line:Int
deriving DecidableEq
def kAc (x:Node):List SV:=[vi x.parent,.v (.string x.name),vi x.line]
def kMp:List SV→Node
 | [.v (.int _ parent),.v (.string name),.v (.int _ line)]=>⟨parent,name,line⟩
 | _=>⟨0,⟨#[]⟩,0⟩
def kH6 (rows:List (List SV)):List Node:=rows.map kMp
theorem qBe (x:Node):kMp (kAc x)=x:=rfl
@[go_sem] theorem qQ5 (L:List Node):kH6 (L.map kAc)=L:=by
 unfold kH6;rw[jRw];exact vFu qBe L
@[go_sem] theorem isV_Node {e s:Nat}(L:List Node):(Ob.sl e s (L.map kAc)).isV↔True:=iff_true_intro (by
 intro row hr c hc;obtain⟨n,_,rfl⟩:=jCr.1 hr;simp only[kAc,jDr,jJw,or_false]at hc;rcases hc with rfl|rfl|rfl<;>exact⟨_,rfl⟩)
def qLh:=kc qLc (kc qLe (kc qLg kn))
attribute [local go_sem] kIu kAe
section
attribute [local go_sem] kMp
end
@[go_sem] def qNo:Ctr:=pur (fun args=>(kMp (aC args 0),kMp (aC args 1))) (fun x=>[.agg (kAc x.1),.agg (kAc x.2)]) (fun _=>True) (fun _ x=>.v (.bool (decide (x.1=x.2)))) (fun _ _=>[])
theorem qNp:Cq 240 qNo:=by
 refine zp fun d x _=>?_
 obtain⟨⟨a0,a1,a2⟩,⟨b0,b1,b2⟩⟩:=x;refine zg qLh func240 rfl rfl ntmps240 ?_;intros;simp only[kAc]
 (repeat' (first|apply zS|apply zB|(apply zW;simp only[go_sem])|apply jAi|intro _))
 all_goals simp_all
def qLi:=kc qNp kn
@[go_sem] def qLj:Ctr:=pur (fun args=>(kH6 (aR args 0),kH6 (aR args 1))) (fun x=>[.sl 3 (x.1.map kAc),.sl 3 (x.2.map kAc)]) (fun x=>x.1.length≤4398046511104) (fun _ x=>.v (.bool (decide (x.1=x.2)))) (fun _ _=>[])
section
attribute [local go_sem] kMp
theorem qLk:Cq 196 qLj:=by
 refine zp fun d x hL=>?_
 obtain⟨L,M⟩:=x;simp only at hL⊢;refine zg qLi func196 rfl rfl ntmps196 ?_;intros
 (repeat' (first|apply zS|apply zB|(apply zW;simp only[go_sem])|apply jAi|intro _))
 ·simp;intro h;subst h;simp_all
 have hlen:L.length=M.length:=zo;refine zL (fun k:Nat=>⟨[(0,.sl 3 (L.map kAc)),(1,.sl 3 (M.map kAc)),(5,vi k)],[]⟩) (fun k=>k≤L.length∧L.take k=M.take k) (fun k=>L.length-k) 0 zs ?_ ?_
 ·simp only[go_sem];rfl
 intro k ⟨hk,ht⟩;by_cases hlt:k<L.length
 ·have h1:=kAa kAc L k hlt;have h2:=kAa kAc M k zo
  (repeat' (first|apply zS|apply zB|((first|apply zW| refine zD 10 (by kernel_rfl) (by kernel_rfl) ?_);simp only[go_sem,h1,h2,kAc])|apply jAi|exact zc0|intro _))
  ·rename_i hne;rw[show decide (L=M)=false from decide_eq_false fun e=>by subst e;exact hne rfl]
  ·rename_i he;refine⟨k+1,⟨zo,?_⟩,zo,rfl⟩;have he':L[k]=M[k]:=he;rw[jQw hlt,jQw (by omega:k<M.length),ht,he']
 ·refine zy trivial ?_;rw[show decide (L=M)=true from decide_eq_true ?_]
  rw[show k=L.length by omega,jJ3,hlen,jJ3]at ht
  exact ht
end
section
attribute [local go_sem] kMp
end
theorem qNq {a b:Node}(h0:a.parent=b.parent) (h1:a.name=b.name) (h2:a.line=b.line):a=b:=by cases a;cases b;simp_all
def kOx (v:Int):Node:=⟨v,markT (v+1),v+1+1⟩
def kA7 (k:Int) (n:Nat):List Node:=(List.range n).map fun i:Nat=>kOx (k+3*(i:Int))
theorem kDn (k:Int) (n:Nat):(kA7 k n).length=n:=by simp[kA7]
def kGo (L:List Node) (k0:Int) (k:Nat):List Node:=kA7 k0 k++L.drop k
theorem k8d (L:List Node) (k0:Int) (k:Nat) (h:k≤L.length):(kGo L k0 k).length=L.length:=by simp[kGo,kDn];omega
theorem k8e (L:List Node) (k0:Int) (k:Nat) (h:k<L.length):((kGo L k0 k).map kAc).set k (kAc (kOx (k0+3*(k:Int))))=(kGo L k0 (k+1)).map kAc:=by
 rw[←vDv];congr 1;unfold kGo;rw[vO3,if_neg (by simp[kDn]),kDn,vDu,wL4 h,jXr]
 simp[kA7,wDe]
def k8f:=kc kM6 kn
@[go_sem] def qEs:Ctr:=len [0] [] (fun args obs=>(kH6 (oR obs 1000000),aI args 1)) (fun x=>[.own 1000000,vi x.2]) (fun x=>[(1000000,.sl 231 3 (x.1.map kAc))]) (fun x=>x.1.length≤4398046511104∧0≤x.2∧x.2≤500000000000000)
 (fun _ x=>vi (x.2+3*x.1.length)) (fun _ _=>[]) (fun x=>[(1000000,.sl 231 3 ((kA7 x.2 x.1.length).map kAc))])
theorem qEt:Cq 203 qEs:=by
 refine zn fun d x hd hx=>?_
 obtain⟨L,k0⟩:=x;obtain⟨hL,h0,h1⟩:=hx;simp only at hL h0 h1⊢;refine zl k8f func203 rfl rfl ntmps203 ?_;intros;refine zy trivial ?_;refine zL (fun k:Nat=>⟨[(0,.own 1000000),(1,vi ((k0+3*(k:Int)))),(5,vi k)],[(1000000,.sl 231 3 ((kGo L k0 k).map kAc))]⟩) (fun k=>k≤L.length) (fun k=>L.length-k) 0 zo ?_ ?_
 ·have e:kGo L k0 0=L:=by simp[kGo,kA7]
  rw[e];(simp only[go_sem]<;>(first|(and_intros<;>rfl)|simp))
 intro k hk;have h2:=k8d L k0 k hk;by_cases hlt:k<L.length
 ·have h3:=k8e L k0 k hlt;rw[kAc,kOx]at h3;simp only at h3;have h4:=kAa kAc (kGo L k0 k) k zo;have h5:∀r:List SV,Go.Vc.rowAt (((kGo L k0 k).map kAc).set k r) k=r:=fun r=>rowAt_set _ _ _ (by rw[jH5];omega)
  (repeat' (first|apply zS|apply zB|(apply zW;simp only[go_sem,h2,h3,h4,h5,kAc,List.set_set,jP9])|apply jAi|exact zc0|intro _))
  refine⟨k+1,zo,zo,⟨?_,rfl⟩,rfl⟩;rw[show k0+3*(k:Int)+1+1+1=k0+3*((k+1:Nat):Int)by omega]
 ·have h5:kGo L k0 k=kA7 k0 L.length:=by rw[show k=L.length by omega];simp[kGo]
  have h6:=kDn k0 L.length
  (repeat' (first|apply zS|apply zB|(apply zW;simp only[go_sem,h2,h5,h6])|apply jAi|exact zc0|intro _))
  all_goals rw[show k=L.length by omega]
@[go_sem] def qEu:Ctr:=pur (fun args=>(kH6 (aR args 0),aI args 1)) (fun x=>[.sl 3 (x.1.map kAc),vi x.2]) (fun x=>x.1.length≤4398046511104∧0≤x.2∧x.2≤500000000000000)
 (fun _ x=>vi (if x.1=kA7 x.2 x.1.length then x.2+3*x.1.length else -1)) (fun _ _=>[])
theorem qEv:Cq 205 qEu:=by
 refine zp fun d x hx=>?_
 obtain⟨L,k0⟩:=x;obtain⟨hL,h0,h1⟩:=hx;simp only at hL h0 h1⊢;refine zg k8f func205 rfl rfl ntmps205 ?_;intros;refine zy1 9 trivial ?_;refine zM (fun k:Nat=>⟨[(0,.sl 3 (L.map kAc)),(1,vi ((k0+3*(k:Int)))),(5,vi k)],[]⟩) (fun k=>k≤L.length∧L.take k=kA7 k0 k) (fun k=>L.length-k) 0 (by simp[kA7]) ?_
 intro k ⟨hk,ht⟩;by_cases hlt:k<L.length
 ·have h3:=kAa kAc L k hlt
  (repeat' (first|apply zS|apply zB|((first|apply zW| refine zd 9 ?_);simp only[go_sem,h3,kAc])|apply jAi|exact zc0|intro _))
  ·rename_i hne;rw[if_neg];intro e;have e2:L[k]=(kA7 k0 L.length)[k]'(by rw[kDn];exact hlt):=by congr 1
   exact hne (by rw[e2];simp[kA7,kOx])
  ·rename_i hne;rw[if_neg];intro e;have e2:L[k]=(kA7 k0 L.length)[k]'(by rw[kDn];exact hlt):=by congr 1
   exact hne (by rw[e2];simp[kA7,kOx])
  ·rename_i hne;rw[if_neg];intro e;have e2:L[k]=(kA7 k0 L.length)[k]'(by rw[kDn];exact hlt):=by congr 1
   exact hne (by rw[e2];simp[kA7,kOx])
  ·rename_i g0 g1 g2;refine⟨k+1,⟨zo,?_⟩,zo,?_,rfl⟩
   ·have he:L[k]=kOx (k0+3*(k:Int)):=qNq g0 g1 g2;rw[jQw hlt,ht,he];simp[kA7,wDe]
   ·rw[show k0+3*(k:Int)+1+1+1=k0+3*((k+1:Nat):Int)by omega]
 ·refine zy1 9 trivial ?_;rw[show k=L.length by omega,jJ3]at ht
  rw[if_pos ht,show k=L.length by omega]
end
def kJy (f:Frame):Bool:=kE7 f.name&&decide (0≤f.line)&&decide (f.line≤59)
section
open Go.Pl
def kRm (x:Node):Frame:=⟨x.name,x.line⟩
def mkNode (p:Int) (f:Frame):Node:=⟨p,f.name,f.line⟩
def kGr (N:List Node) (k:Nat) (x:Node):Bool:=decide (-1≤x.parent)&&decide (x.parent≤(k:Int)-1)&&kJy (kRm x)&&(N.take k).all fun y=>decide (y≠x)
theorem kQj {N:List Node}{k:Nat}{x:Node}:kGr N k x=true↔-1≤x.parent∧x.parent≤(k:Int)-1∧kJy (kRm x)=true∧∀y∈N.take k,y≠x:=by
 simp[kGr,and_assoc]
def kFq (N:List Node):Bool:=decide (∀k (h:k<N.length),kGr N k N[k]=true)
theorem kZm {N:List Node}(h:kFq N=true) (k:Nat) (hk:k<N.length):kGr N k N[k]=true:=by
 unfold kFq at h;exact of_decide_eq_true h k hk
theorem kRn {N:List Node}{k:Nat}(hk:k<N.length) (h:kGr N k N[k]=false):kFq N=false:=by
 cases hs:kFq N with
 |false=>rfl
 |true=>rw[kZm hs k hk]at h;cases h
theorem kWv {N:List Node}(h:∀k (h:k<N.length),kGr N k N[k]=true):kFq N=true:=by
 unfold kFq;exact decide_eq_true h
theorem k2k {N:List Node}{k i:Nat}(hk:k<N.length) (hi:i<k) (h:N[i]'(by omega)=N[k]):kGr N k N[k]=false:=by
 cases hs:kGr N k N[k]with
 |false=>rfl
 |true=>exact absurd h ((kQj.1 hs).2.2.2 _ (by
   rw[List.mem_take_iff_getElem];exact⟨i,by omega,rfl⟩))
theorem k5m {N:List Node}{k:Nat}{x:Node}(h1:-1≤x.parent) (h2:x.parent≤(k:Int)-1) (h3:kJy (kRm x)=true) (h4:∀i (hi:i<N.length),i<k→N[i]≠x):kGr N k x=true:=by
 refine kQj.2 ⟨h1,h2,h3,fun y hy=>?_⟩
 rw[List.mem_take_iff_getElem]at hy;obtain⟨i,hi,rfl⟩:=hy;exact h4 i (by omega) (by omega)
def kMs (p:Int) (f:Frame) (x:Node):Bool:=decide (x.parent=p)&&decide (kRm x=f)
def child (N:List Node) (p:Int) (f:Frame):Int:=firstIdx (kMs p f) N
theorem kO5 {α:Type}(p:α→Bool) (L:List α):-1≤firstIdx p L∧firstIdx p L<L.length∨firstIdx p L=-1:=by
 unfold firstIdx;split
 ·rename_i i h;have:=(List.findIdx?_eq_some_iff_getElem.1 h).1;left;omega
 ·right;rfl
theorem kTl (N:List Node) (p:Int) (f:Frame):-1≤child N p f∧child N p f<N.length:=by
 have:=kO5 (kMs p f) N;unfold child;omega
def kE9:List Frame→List Node×Int→List Node×Int
 | [],s=>s
 |f::L,s=>kE9 L (if child s.1 s.2 f<0 then(s.1++[mkNode s.2 f],(s.1.length:Int))else(s.1,child s.1 s.2 f))
def intern (N:List Node) (L:List Frame):List Node×Int:=if kFq N=true∧L≠[]∧L.all kJy=true then kE9 L (N,-1)else(N,-1)
theorem k5n:∀(L:List Frame) (s:List Node×Int),s.1.length≤(kE9 L s).1.length∧(kE9 L s).1.length≤s.1.length+L.length
 | [],s=>by simp[kE9]
 |f::L,s=>by
  have:=k5n L (if child s.1 s.2 f<0 then(s.1++[mkNode s.2 f],(s.1.length:Int))else(s.1,child s.1 s.2 f))
  rw[kE9];simp only[List.length_cons];split at this
  ·rename_i h;rw[if_pos h];simp only[List.length_append,List.length_cons,List.length_nil]at this;omega
  ·rename_i h;rw[if_neg h];simp only at this;omega
theorem k80:∀(L:List Frame) (s:List Node×Int),(L=[]→0≤s.2∧s.2<s.1.length)→0≤(kE9 L s).2∧(kE9 L s).2<(kE9 L s).1.length
 | [],s,h=>h rfl
 |f::L,s,h=>by
  rw[kE9];refine k80 L _ fun _=>?_
  have:=kTl s.1 s.2 f;split
  ·simp only[List.length_append,List.length_cons,List.length_nil];omega
  ·simp only;omega
theorem kU5 (N:List Node) (L:List Frame):N.length≤(intern N L).1.length∧(intern N L).1.length≤N.length+L.length:=by
 unfold intern;split
 ·have:=k5n L (N,-1);simpa using this
 ·simp only;omega
theorem k5o (N:List Node) (L:List Frame):(intern N L).2=-1∨(0≤(intern N L).2∧(intern N L).2<(intern N L).1.length):=by
 unfold intern;split
 ·rename_i h;right;exact k80 L (N,-1) fun e=>absurd e h.2.1
 ·left;rfl
theorem kZo {B:Nat}:∀(L:List Frame) (s:List Node×Int),(∀x∈s.1,x.name.size≤B)→(∀f∈L,f.name.size≤B)→∀x∈(kE9 L s).1,x.name.size≤B
 | [],s,h,_=>h
 |f::L,s,h,hL=>by
  rw[kE9];refine kZo L _ ?_ fun g hg=>hL g (List.mem_cons_of_mem _ hg)
  split
  ·intro x hx;rcases List.mem_append.1 hx with hx|hx
   ·exact h x hx
   ·simp only[List.mem_cons,List.not_mem_nil,or_false]at hx;subst hx;exact hL f List.mem_cons_self
  ·exact h
theorem kWw {B:Nat}{N:List Node}{L:List Frame}(h:∀x∈N,x.name.size≤B) (hL:∀f∈L,f.name.size≤B):∀x∈(intern N L).1,x.name.size≤B:=by
 unfold intern;split
 ·exact kZo L _ h hL
 ·exact h
def kQk (C:List Int):Bool:=decide (∀k (h:k<C.length),0≤C[k]∧C[k]≤1000000000000-(C.take k).sum)
def kA8 (N:List Node) (C:List Int):Bool:=kFq N&&decide (C.length=N.length)&&kQk C
theorem kO6 {C:List Int}(h:kQk C=true) (k:Nat) (hk:k<C.length):0≤C[k]∧C[k]≤1000000000000-(C.take k).sum:=by
 unfold kQk at h;exact of_decide_eq_true h k hk
theorem kRo (C:List Int) (k:Nat) (hk:k<C.length):(C.take (k+1)).sum=(C.take k).sum+C[k]:=by
 rw[List.take_succ_eq_append_getElem hk,List.sum_append];simp
theorem kSv {C:List Int}(h:∀j (hj:j<C.length),0≤C[j]∧C[j]≤1000000000000-(C.take j).sum):∀k,k≤C.length→0≤(C.take k).sum∧(C.take k).sum≤1000000000000
 | 0,_=>by simp
 |k+1,hk=>by
  have ih:=kSv h k (by omega)
  have:=h k (by omega)
  rw[kRo C k (by omega)];omega
theorem kDo {N:List Node}{C:List Int}:kA8 N C=true↔kFq N=true∧C.length=N.length∧kQk C=true:=by
 simp[kA8,and_assoc]
def kMq (N:List Node) (C:List Int):Int:=if kA8 N C=true then C.sum else 0
theorem kJ0 {N:List Node}{C:List Int}(h:kA8 N C=true) (k:Nat) (hk:k≤C.length):0≤(C.take k).sum∧(C.take k).sum≤1000000000000 :=
 kSv (fun j hj=>kO6 (kDo.1 h).2.2 j hj) k hk
def kP6 (C:List Int) (m:Nat) (k:Nat) (n:Int):List Int:=(C++List.replicate (m-C.length) 0).set k ((C++List.replicate (m-C.length) 0).getD k 0+n)
def kAr (N:List Node) (C:List Int) (L:List Frame) (n:Int):(List Node×List Int)×Bool :=
 if kA8 N C=true∧0≤n∧n≤1000000000000∧0≤(intern N L).2∧kA8 (intern N L).1 (kP6 C (intern N L).1.length (intern N L).2.toNat n)=true
 then(((intern N L).1,kP6 C (intern N L).1.length (intern N L).2.toNat n),true)else((N,C),false)
end
section
open Go.Vc Tryz
attribute [local irreducible] Go.Vc.WP
open Go.Pl
attribute [local go_sem] kCc kB7
section
def cxSaI:=kc c60 kn
theorem kSw {p:Prop}(h:p:=by first|omega|exact⟨k+1,⟨by omega,this⟩,by omega,by(first|(and_intros<;>rfl)|simp)⟩):p:=h
theorem qO2:Cq 260 qI9:=by
 refine zp fun d x hx=>?_
 obtain⟨⟨c,Y⟩,o⟩:=x;simp only at hx⊢;refine zg cxSaI func260 rfl rfl ntmps260 ?_;intros;refine zy trivial ?_
 refine zM (fun k:Nat=>⟨[(1,vi o),(8,.sl 3 (Y.map encSymbol)),(9,vi Y.length),(10,vi k)],[]⟩)
  (fun k=>k≤Y.length∧∀i (hi:i<Y.length),i<k→kAk o Y[i]=false) (fun k=>Y.length-k) 0 zs ?_
 intro k ⟨hk,hf⟩;by_cases hlt:k<Y.length;rotate_left
 ·have hge:¬(k:Int)<Y.length:=zo;rw[firstIdx_none fun i hi=>hf i hi zo]
  exact zx hge
 have hli:(k:Int)<Y.length:=zo;have hr:=kAa encSymbol Y k hlt
 have hnx:kAk o Y[k]=false→∀i (hi:i<Y.length),i<k+1→kAk o Y[i]=false:=fun hh i hi hik=>by
  rcases jFx i k with h|h
  ·exact hf i hi h
  ·have:i=k:=zo;subst this;exact hh
 have hit:kAk o Y[k]=true→firstIdx (kAk o) Y=k:=fun hh=>kEe hlt hf hh
 generalize Y[k]=y at hr hnx hit;obtain⟨ys,ya,yz⟩:=y;by_cases h1:0≤ya∧ya≤1000000;rotate_left
 ·have hh:kAk o ⟨ys,ya,yz⟩=false:=by simp[kAk];omega
  have:=hnx hh;have e0:=kNk h1
  (repeat' (first|apply zS|apply zB|(apply zW;simp only[go_sem,hli,hr,encSymbol,e0])|apply jAi|exact kSw|intro _))
 have e1:=kNl h1;by_cases h2:0≤yz∧yz≤1000000;rotate_left
 ·have hh:kAk o ⟨ys,ya,yz⟩=false:=by simp[kAk];omega
  have:=hnx hh;have e0:=kNk h2
  (repeat' (first|apply zS|apply zB|(apply zW;simp only[go_sem,hli,hr,encSymbol,e1,e0])|apply jAi|exact kSw|intro _))
 have e2:=kNl h2;by_cases h3:ya≤o;rotate_left
 ·have hh:kAk o ⟨ys,ya,yz⟩=false:=by simp[kAk];omega
  have:=hnx hh
  (repeat' (first|apply zS|apply zB|(apply zW;simp only[go_sem,hli,hr,encSymbol,e1,e2,h3])|apply jAi|exact kSw|intro _))
 by_cases h4:o<ya+yz
 ·have hh:kAk o ⟨ys,ya,yz⟩=true:=by simp[kAk,h1,h2,h3,h4]
  rw[hit hh];exact zx (z7 hli hr encSymbol.eq_1 e1 e2 h3 h4)
 ·have hh:kAk o ⟨ys,ya,yz⟩=false:=by simp[kAk];omega
  have:=hnx hh
  (repeat' (first|apply zS|apply zB|(apply zW;simp only[go_sem,hli,hr,encSymbol,e1,e2,h3,h4])|apply jAi|exact kSw|intro _))
end
theorem kW8 (x:Inline):∀(A:List Inline) (nm:ByteArray),kNa nm (A++[x])=kNa nm A++[⟨kK0 nm A,x.line⟩]∧kK0 nm (A++[x])=x.name
 | [],nm=>⟨rfl,rfl⟩
 |y::r,nm=>by
  have h:=kW8 x r y.name;constructor
  ·show⟨nm,y.line⟩::kNa y.name (r++[x])=⟨nm,y.line⟩::(kNa y.name r++[⟨kK0 y.name r,x.line⟩])
   rw[h.1]
  ·exact h.2
theorem kZq (L:List Inline):kMc (L.map encInline):=by
 intro row hr c hc;obtain⟨n,_,rfl⟩:=jCr.1 hr;simp only[encInline,jDr,jJw,or_false]at hc;rcases hc with rfl|rfl|rfl|rfl|rfl<;>exact⟨_,rfl⟩
@[go_sem] def k9o:Ctr:=pur (fun args=>(kF5 (aR args 0),aI args 1)) (fun x=>[.sl 5 (x.1.map encInline),vi x.2]) (fun x=>k2t x.1) (fun _ x=>.sl 5 ((kF6 x.1 x.2).map encInline)) (fun _ _=>[])
theorem qJa:Cq 226 k9o:=Cn.frozen (fun x=>kZq _) qMo
theorem qJb:Cq 263 k9o:=Cn.frozen (fun x=>kZq _) qMp
def kUb (d:Debug):Prop:=d.syms.length≤4194304∧d.rules.length≤4194304∧d.rows.length≤4194304∧k2t d.kIv
@[go_sem] def kFrAt:Ctr:=pur (fun args=>(kB7 (aC args 0),aI args 1,aB args 2)) (fun x=>[.agg (encDebug x.1),vi x.2.1,.v (.bool x.2.2)]) (fun x=>kUb x.1)
 (fun d x=>.tup [.own d,.v (.bool (kEp x.1 x.2.1 x.2.2).isSome)]) (fun d x=>[(d,.sl 228 2 (((kEp x.1 x.2.1 x.2.2).getD []).map kAe))])
@[go_sem] def kFrAtZ:Ctr:=pur (fun args=>(kB7 (aC args 0),aI args 1,aB args 2)) (fun x=>[.agg (encDebug x.1),vi x.2.1,.v (.bool x.2.2)]) (fun x=>kUb x.1)
 (fun _ x=>.tup [.sl 2 (((kEp x.1 x.2.1 x.2.2).getD []).map kAe),.v (.bool (kEp x.1 x.2.1 x.2.2).isSome)]) (fun _ _=>[])
theorem k8n {o:Int}{Z:List Symbol}(h:¬firstIdx (kAk o) Z<0):∃k:Nat,firstIdx (kAk o) Z=k∧k<Z.length:=by
 have:=kO5 (kAk o) Z;exact⟨(firstIdx (kAk o) Z).toNat,zo,zo⟩
theorem k8o {L:List Symbol}{k:Nat}(h:k<L.length) (d:Symbol):L.getD k d=L[k]:=by rw[jKz,jD9 h];rfl
theorem kKc {id o:Int}{Z:List Symbol}{R:List Rule}{W:List Row}{I:List Inline}{st:Bool}(h:firstIdx (kAk o) Z<0∨kBl W o<0∨(st=true∧kKa W o=false)):kEp ⟨id,Z,R,W,I⟩ o st=none:=if_pos h
theorem kW9 {id o:Int}{Z:List Symbol}{R:List Rule}{W:List Row}{I:List Inline}{st:Bool}{ks kr:Nat}(hs:firstIdx (kAk o) Z=ks) (hr:kBl W o=kr) (h1:ks<Z.length) (h2:kr<W.length) (h:¬(st=true∧kKa W o=false)) :
  kEp ⟨id,Z,R,W,I⟩ o st=some (kNa Z[ks].name (kF6 I o)++[⟨kK0 Z[ks].name (kF6 I o),W[kr].line⟩]):=by
 unfold kEp;simp only
 rw[if_neg (by
         rintro(h3|h3|h3);· omega
         ·omega
         ·exact h h3),hs,hr,jB2,jB2,k8o h1,kK6 h2]
section
def cxFaS:=kc qC0 (kc k52 (kc qJc (kc qJa kn)))
set_option maxHeartbeats 4000000 in
theorem cFrAtS:Cq 165 kFrAt:=by
 refine zp fun d x hx=>?_
 obtain⟨⟨id,Z,R,W,I⟩,o,st⟩:=x;obtain⟨h1,h2,h3,h4⟩:=hx;simp only at h1 h2 h3 h4⊢;simp only[encDebug];refine zg cxFaS func165 rfl rfl ntmps165 ?_;intros;by_cases c1:firstIdx (kAk o) Z<0
 ·rw[kKc (.inl c1)];exact zx c1
 obtain⟨ks,hs,hks⟩:=k8n c1;by_cases c2:kBl W o<0
 ·rw[kKc (.inr (.inl c2))];exact zx (z2 c1 c2)
 obtain⟨kr,hr,hkr⟩:∃k:Nat,kBl W o=k∧k<W.length:=⟨(kBl W o).toNat,zo,by have:=kQf W o;omega⟩
 by_cases c3:st=true∧kKa W o=false
 ·rw[kKc (.inr (.inr c3))];obtain⟨rfl,c4⟩:=c3;exact zx (z3 c1 c2 c4)
 rw[kW9 hs hr hks hkr c3];have n1:¬(ks:Int)<0:=zo;have n2:¬(kr:Int)<0:=zo;have l1:(ks:Int)<Z.length:=zo;have l2:(kr:Int)<W.length:=zo;have g1:=kAa encSymbol Z ks hks;have g2:=kAa encRow W kr hkr;have hle:=k53 I o;have h5:=h4.1;generalize hI:kF6 I o=L at *;generalize Z[ks]=z at *;generalize W[kr]=y at *
 have w3:st=false∨kKa W o=true:=by
  cases st with
  |false=>exact .inl rfl
  |true=>exact .inr (by rw[←Bool.not_eq_false];exact fun h=>c3 ⟨rfl,h⟩)
 rcases w3 with w3|w3
 all_goals
  (repeat' (first|apply zS|apply zB|(apply zW;simp only[go_sem,hs,hr,n1,n2,l1,l2,g1,encSymbol,hI,w3])|apply jAi|omega|exact h4|exact h4.2 _ ‹_›|intro _))
  refine zL (fun k:Nat=>⟨[(3,.ptr 3 0 0 0),(9,vi kr),(10,.v (.string (kK0 z.name (L.take k)))),(11,.own 46),(12,.sl 5 (L.map encInline)),(13,vi k)],[(3,.box 149 [vi id,.sl 3 (Z.map encSymbol),.sl 4 (R.map encRule),.sl 3 (W.map encRow),.sl 5 (I.map encInline)]),(46,.sl 228 2 ((kNa z.name (L.take k)).map kAe))]⟩) (fun k=>k≤L.length) (fun k=>L.length-k) 0 zo ?_ ?_
  ·have q0:kK0 z.name (List.take 0 L)=z.name:=rfl;have q1:kNa z.name (List.take 0 L)=[]:=rfl;rw[q0,q1]
   (simp only[go_sem]<;>(first|(and_intros<;>rfl)|simp))
  intro k hk;have hln:=kU1 z.name (L.take k);rw[jOb]at hln;by_cases hlt:k<L.length
  ·have hli:(k:Int)<L.length:=zo;have g3:=kAa encInline L k hlt;have e1:=kW8 L[k] (L.take k) z.name;rw[←jQw hlt]at e1;obtain⟨e1,e2⟩:=e1
   (repeat' (first|apply zS|apply zB|(apply zW;simp only[go_sem,hli,g3,encInline])|apply jAi|exact zc0|intro _))
   all_goals first|exact⟨k+1,zo,zo,by rw[e1,e2,jNq];(first|(and_intros<;>rfl)|simp)⟩|trace_state
  ·have hge:¬(k:Int)<L.length:=zo;obtain rfl:k=L.length:=zo;rw[jJ3]at hln⊢
   (repeat' (first|apply zS|apply zB|(apply zW;simp only[go_sem,hge,l2,g2,encRow])|apply jAi|omega|rfl|(rw[jNq];rfl)|intro _))
end
section
def cxFaI:=kc qO2 (kc k54 (kc qJd (kc qJb kn)))
set_option maxHeartbeats 4000000 in
theorem cFrAtI:Cq 238 kFrAt:=by
 refine zp fun d x hx=>?_
 obtain⟨⟨id,Z,R,W,I⟩,o,st⟩:=x;obtain⟨h1,h2,h3,h4⟩:=hx;simp only at h1 h2 h3 h4⊢;simp only[encDebug];refine zg cxFaI func238 rfl rfl ntmps238 ?_;intros;by_cases c1:firstIdx (kAk o) Z<0
 ·rw[kKc (.inl c1)];exact zx c1
 obtain⟨ks,hs,hks⟩:=k8n c1;by_cases c2:kBl W o<0
 ·rw[kKc (.inr (.inl c2))];exact zx (z2 c1 c2)
 obtain⟨kr,hr,hkr⟩:∃k:Nat,kBl W o=k∧k<W.length:=⟨(kBl W o).toNat,zo,by have:=kQf W o;omega⟩
 by_cases c3:st=true∧kKa W o=false
 ·rw[kKc (.inr (.inr c3))];obtain⟨rfl,c4⟩:=c3;exact zx (z3 c1 c2 c4)
 rw[kW9 hs hr hks hkr c3];have n1:¬(ks:Int)<0:=zo;have n2:¬(kr:Int)<0:=zo;have l1:(ks:Int)<Z.length:=zo;have l2:(kr:Int)<W.length:=zo;have g1:=kAa encSymbol Z ks hks;have g2:=kAa encRow W kr hkr;have hle:=k53 I o;have h5:=h4.1;generalize hI:kF6 I o=L at *;generalize Z[ks]=z at *;generalize W[kr]=y at *
 have w3:st=false∨kKa W o=true:=by
  cases st with
  |false=>exact .inl rfl
  |true=>exact .inr (by rw[←Bool.not_eq_false];exact fun h=>c3 ⟨rfl,h⟩)
 rcases w3 with w3|w3
 all_goals
  (repeat' (first|apply zS|apply zB|(apply zW;simp only[go_sem,hs,hr,n1,n2,l1,l2,g1,encSymbol,hI,w3])|apply jAi|omega|exact h4|exact h4.2 _ ‹_›|intro _))
  refine zL (fun k:Nat=>⟨[(3,.ptr 3 0 0 0),(9,vi kr),(10,.own 39),(11,.v (.string (kK0 z.name (L.take k)))),(49,.sl 5 (L.map encInline)),(50,vi L.length),(51,vi k)],[(3,.box 149 [vi id,.sl 3 (Z.map encSymbol),.sl 4 (R.map encRule),.sl 3 (W.map encRow),.sl 5 (I.map encInline)]),(39,.sl 228 2 ((kNa z.name (L.take k)).map kAe))]⟩) (fun k=>k≤L.length) (fun k=>L.length-k) 0 zo ?_ ?_
  ·have q0:kK0 z.name (List.take 0 L)=z.name:=rfl;have q1:kNa z.name (List.take 0 L)=[]:=rfl;rw[q0,q1]
   (simp only[go_sem]<;>(first|(and_intros<;>rfl)|simp))
  intro k hk;have hln:=kU1 z.name (L.take k);rw[jOb]at hln;by_cases hlt:k<L.length
  ·have hli:(k:Int)<L.length:=zo;have g3:=kAa encInline L k hlt;have e1:=kW8 L[k] (L.take k) z.name;rw[←jQw hlt]at e1;obtain⟨e1,e2⟩:=e1
   (repeat' (first|apply zS|apply zB|(apply zW;simp only[go_sem,hli,g3,encInline])|apply jAi|exact zc0|intro _))
   all_goals first|exact⟨k+1,zo,zo,by rw[e1,e2,jNq];(first|(and_intros<;>rfl)|simp)⟩|trace_state
  ·have hge:¬(k:Int)<L.length:=zo;obtain rfl:k=L.length:=zo;rw[jJ3]at hln⊢
   (repeat' (first|apply zS|apply zB|(apply zW;simp only[go_sem,hge,l2,g2,encRow])|apply jAi|omega|rfl|(rw[jNq];rfl)|intro _))
end
end
section
open Go.Vc
@[go_sem] def agA (args:List SV) (i:Nat):AgX:=match args[i]? with
 |some (.agg [.sl _ a,.sl _ b,.sl _ c,.sl _ d])=>((kDf a,kBs b,kBs c),kKz d)
 | _=>(([],[],[]),[])
def aggAg (x:AgX):List SV:=[.sl 2 (x.1.1.map encImage),.sl 1 (x.1.2.1.map encI),.sl 1 (x.1.2.2.map encI),.sl 5 (x.2.map encDebug)]
end
section
open Go.Vc Tryz
attribute [local irreducible] Go.Vc.WP
structure Tm where
 period:Int
 spread:Int
 left:Int
 state:Int
deriving DecidableEq
@[go_sem] def tmA (args:List SV) (i:Nat):Tm:=match args[i]? with
 |some (.agg [.v (.int _ a),.v (.int _ b),.v (.int _ c),.v (.int _ d)])=>⟨a,b,c,d⟩
 | _=>⟨0,0,0,0⟩
@[go_sem] theorem tm_eta (x:Tm):(⟨x.period,x.spread,x.left,x.state⟩:Tm)=x:=rfl
def kNg (x:Tm):Bool:=decide ((1≤x.period∧x.period≤10000)∧(0≤x.spread∧x.spread≤100)∧(1≤x.left∧x.left≤x.period+x.spread)∧0≤x.state∧x.state≤65535)
@[go_sem] def kTmOk:Ctr:=pur (fun args=>tmA args 0) (fun x=>[.agg [vi x.period,vi x.spread,vi x.left,vi x.state]]) (fun _=>True) (fun _ x=>.v (.bool (kNg x))) (fun _ _=>[])
section
def cxTmS:=kc c58 kn
theorem qKi:Cq 82 kTmOk:=by
 refine zp fun d x hx=>?_
 obtain⟨p,s,l,t⟩:=x;simp only;refine zg cxTmS func82 rfl rfl ntmps82 ?_;intros
 have e:kNg ⟨p,s,l,t⟩=(decide (1≤p)&&decide (p≤10000)&&(decide (0≤s)&&decide (s≤100))&&(decide (1≤l)&&decide (l≤p+s))&&(decide (0≤t)&&decide (t≤65535))):=by
  unfold kNg;rw[wGj];simp only[decide_eq_true_eq,jBs];omega
 by_cases h1:1≤p∧p≤10000
 ·by_cases h2:0≤s∧s≤100
  ·exact zx e
  ·exact zx e
 ·exact zx e
end
section
def cxTmI:=kc c60 kn
theorem qKh:Cq 106 kTmOk:=by
 refine zp fun d x hx=>?_
 obtain⟨p,s,l,t⟩:=x;simp only;refine zg cxTmI func106 rfl rfl ntmps106 ?_;intros
 have e:kNg ⟨p,s,l,t⟩=(decide (1≤p)&&decide (p≤10000)&&(decide (0≤s)&&decide (s≤100))&&(decide (1≤l)&&decide (l≤p+s))&&(decide (0≤t)&&decide (t≤65535))):=by
  unfold kNg;rw[wGj];simp only[decide_eq_true_eq,jBs];omega
 by_cases h1:1≤p∧p≤10000
 ·by_cases h2:0≤s∧s≤100
  ·exact zx e
  ·exact zx e
 ·exact zx e
end
end
end Go.Proofs.YtjdklcjoeanimaaGreat
