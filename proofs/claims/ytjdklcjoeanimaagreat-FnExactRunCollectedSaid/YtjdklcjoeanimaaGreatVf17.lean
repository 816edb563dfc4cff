/- DERIVED. Steps of the proof. -/
import Derived.Test.YtjdklcjoeanimaaGreatVf14
import Derived.Test.YtjdklcjoeanimaaGreatVf16
set_option linter.all false
set_option maxHeartbeats 1000000
set_option maxRecDepth 10000
namespace Go.Vc
section
@[go_sem] def SV.jk (js:List Nat):SV→SV
 | .own i=>if js.contains i then .kAh else .own i
 | .ptr i s a b=>if js.contains i then .kAh else .ptr i s a b
 | .agg _=>.kAh
 | .tup _=>.kAh
 | .fn _ _=>.kAh
 | .cond _ _=>.kAh
 |x=>x
@[go_sem] def Ob.jk (js:List Nat):Ob→Ob
 | .box e cs=>.box e (cs.map (SV.jk js))
 |o=>o
@[go_sem] def St.kZ1 (st:St) (cc:Nat) (ob:Ob):St:={ st with hp:=(cc,ob)::er cc st.hp }
section
variable {c:Cx}{N:Nat}{X0:Nat→Prop}{M:Nat→BV→Prop}{w0:World}{K:Exit→St→Prop}{st:St}{β:Nat→BV}{a:Act}{w:World}
theorem R.jk {X:Nat→Prop}{js:List Nat}{x:SV}{v:Value}(h:R w X β x v):R w X β (x.jk js) v:=by
 cases x with
 |own i=>show R w X β (if js.contains i then .kAh else .own i) v;split<;>first|exact .kAh _|exact h
 |ptr i s a b=>show R w X β (if js.contains i then .kAh else .ptr i s a b) v;split<;>first|exact .kAh _|exact h
 |v x=>exact h
 |sl s rows=>exact h
 |kB6 s rows i k=>exact h
 |kAh=>exact h
 | _=>exact .kAh _
theorem Sim.jk (h:Sim N X0 M w0 st β a w) {cc:Nat}{ob:Ob}{js:List Nat}(hl:lk cc st.hp=some ob):Sim N X0 M w0 (st.kZ1 cc (ob.jk js)) β a w:=by
 have hlk:∀{id o},lk id (st.kZ1 cc (ob.jk js)).hp=some o→(id=cc∧o=ob.jk js)∨(id≠cc∧lk id st.hp=some o):=fun{id o} hi=>by
  by_cases he:id=cc
  ·subst he;simp only[St.kZ1,lk,if_true]at hi;exact .inl ⟨rfl,by simpa using hi.symm⟩
  ·simp only[St.kZ1,lk,if_neg he,kAt he]at hi;exact .inr ⟨he,hi⟩
 have hold:∀{id o},lk id (st.kZ1 cc (ob.jk js)).hp=some o→∃o',lk id st.hp=some o':=fun{id o} hi=>by
  rcases hlk hi with⟨rfl,_⟩|⟨_,h2⟩
  ·exact⟨ob,hl⟩
  ·exact⟨o,h2⟩
 have hX:∀b,XX X0 β (st.kZ1 cc (ob.jk js)).hp b→XX X0 β st.hp b:=fun b hb=>by
  rcases hb with hb|⟨id,o,hi,hb⟩
  ·exact .inl hb
  ·obtain⟨o',ho'⟩:=hold hi;exact .inr ⟨id,o',ho',hb⟩
 have hS:Same (XX X0 β st.hp) w w:=⟨jDu _,fun _ _ _=>rfl⟩
 exact{ h with
  slots:=fun t x hx=>(h.slots t x hx).mono hS fun b _ hb=>hX b hb
  objs:=fun id o hi=>by
   rcases hlk hi with⟨rfl,rfl⟩|⟨_,h2⟩
   ·have hO:=(h.objs id ob hl).mono (X':=XX X0 β (st.kZ1 id (ob.jk js)).hp) hS (fun b _ hb=>hX b hb) (fun _ _=>rfl)
    cases ob with
    |box e cs =>
     cases hO with
     |box b cur hv hh hl' hc =>
      refine .box b cur hv hh (by simpa using hl') fun k c u hk hu=>?_
      obtain⟨c0,h0,rfl⟩:=kGc hk
      exact⟨(hc k c0 u h0 hu).1,(hc k c0 u h0 hu).2.jk⟩
    | _=>exact hO
   ·exact(h.objs id o h2).mono hS (fun b _ hb=>hX b hb) (fun _ _=>rfl)
  inj:=fun i j oi oj b hi hj=>by
   obtain⟨o1,h1⟩:=hold hi;obtain⟨o2,h2⟩:=hold hj;exact h.inj i j o1 o2 b h1 h2
  mine:=fun id o b hi hb=>by obtain⟨o1,h1⟩:=hold hi;exact h.mine id o1 b h1 hb }
end
end
section
def rp (t:Nat) (ob:Ob):List (Nat×Ob)→List (Nat×Ob)
 | []=>[]
 | (u,o)::l=>(if u=t then(u,ob)else(u,o))::rp t ob l
theorem kUy {t:Nat}{ob:Ob}{j:Nat}:∀{l:List (Nat×Ob)}{o:Ob},lk j (rp t ob l)=some o→∃o0,lk j l=some o0∧(j=t→o=ob)∧(j≠t→o=o0)
 | (u,o1)::l,o,h=>by
  simp only[rp]at h;by_cases hu:u=t
  ·rw[if_pos hu]at h;simp only[lk]at h⊢;by_cases hj:j=u
   ·rw[if_pos hj]at h⊢;cases h;exact⟨o1,rfl,fun _=>rfl,fun hn=>absurd (hj.trans hu) hn⟩
   ·rw[if_neg hj]at h⊢;exact kUy h
  ·rw[if_neg hu]at h;simp only[lk]at h⊢;by_cases hj:j=u
   ·rw[if_pos hj]at h⊢;cases h;exact⟨_,rfl,fun e=>absurd (hj.symm.trans e) hu,fun _=>rfl⟩
   ·rw[if_neg hj]at h⊢;exact kUy h
def isNil:SV→Bool
 | .v (.slice none 0 0)=>true
 | _=>false
def St.kM4 (st:St) (t k id e s:Nat):St :=
 match lk t (st.kill id).hp with
 |some (.box e' cs)=>match cs[k]? with
  |some c=>if isNil c=true∧id<1000000∧t≠id then{ fr:=(st.kill id).fr,hp:=rp t (.box e' (cs.set k (.own id))) ((id,.sl e s [])::(st.kill id).hp) }else st
  |none=>st
 | _=>st
def St.kM5 (st:St) (t id e s:Nat):St :=
 match lk t (st.kill id).fr with
 |some c=>if isNil c=true∧id<1000000 then{ fr:=(t,.own id)::er t (st.kill id).fr,hp:=(id,.sl e s [])::(st.kill id).hp }else st
 |none=>st
section
variable {c:Cx}{P:Program}{N:Nat}{X0:Nat→Prop}{M:Nat→BV→Prop}{w0:World}{st:St}{K:Exit→St→Prop}
theorem isNil_eq {x:SV}(h:isNil x=true):x=.v (.slice none 0 0):=by
 unfold isNil at h;split at h
 ·rfl
 ·cases h
theorem Sim.qHs {β:Nat→BV}{a:Act}{w:World}(h:Sim N X0 M w0 st β a w) {id e s:Nat}(hid:id<1000000) :
  ∃β',β' id=kEm∧Sim N X0 M w0 { fr:=(st.kill id).fr,hp:=(id,.sl e s [])::(st.kill id).hp } β' a w:=by
 let β':Nat→BV:=fun i=>if i=id then kEm else β i
 have hβ:∀i,i≠id→β' i=β i:=fun i hi=>by show(if i=id then _ else β i)=_;rw[if_neg hi]
 have hβd:β' id=kEm:=by show(if id=id then _ else β id)=_;rw[if_pos rfl]
 have h1:=h.kill id hid hβ (by rw[hβd];rfl) (w':=w) rfl rfl rfl (jDu _) (fun _ _ _=>rfl) (X1:=X0) (fun b _ hb=>.inl hb) h.x0
 refine⟨β',hβd,?_⟩;exact h1.add (j:=id) (kJ8 st id) (ob:=.sl e s []) (.nil e s hβd) (fun b hb=>by rw[hβd]at hb;cases hb) (fun b hb=>by rw[hβd]at hb;cases hb) (fun b i o hb=>by rw[hβd]at hb;cases hb)
theorem Sim.rp {β:Nat→BV}{a:Act}{w:World}(h:Sim N X0 M w0 st β a w) {t e':Nat}{cs ds:List SV}(ht:lk t st.hp=some (.box e' cs)) (hl:ds.length=cs.length)
  (hd:∀(k:Nat) (d:SV),ds[k]? = some d→∃c,cs[k]? = some c∧∀u,R w (XX X0 β st.hp) β c u→R w (XX X0 β st.hp) β d u):Sim N X0 M w0 { fr:=st.fr,hp:=Go.Vc.rp t (.box e' ds) st.hp } β a w:=by
 have hX:∀b,XX X0 β (Go.Vc.rp t (.box e' ds) st.hp) b→XX X0 β st.hp b:=fun b hb=>by
  rcases hb with hb|⟨j,o,hj,hb⟩
  ·exact .inl hb
  ·obtain⟨o0,h1,_⟩:=kUy hj;exact .inr ⟨j,o0,h1,hb⟩
 have hS:Same (XX X0 β st.hp) w w:=⟨jDu _,fun _ _ _=>rfl⟩
 exact{ h with
  slots:=fun u x hx=>(h.slots u x hx).mono hS fun b _=>hX b
  objs:=fun j o hj=>by
   obtain⟨o0,h1,h2,h3⟩:=kUy hj;by_cases hjt:j=t
   ·rw[h2 hjt];subst hjt;have hO:=h.objs j _ ht
    cases hO with
    |box b cur hv hh hlen hc =>
     refine .box b cur hv hh (by rw[hl];exact hlen) fun k d u hk hu=>?_
     obtain⟨c0,hc0,hR⟩:=hd k d hk;obtain⟨g1,g2⟩:=hc k c0 u hc0 hu;exact⟨g1,(hR u g2).mono hS fun b _=>hX b⟩
   ·rw[h3 hjt];exact(h.objs j o0 h1).mono hS (fun b _ hb=>hX b hb) (fun _ _=>rfl)
  inj:=fun p q op oq b hp hq hbp hbq=>by
   obtain⟨o1,e1,_⟩:=kUy hp;obtain⟨o2,e2,_⟩:=kUy hq;exact h.inj p q o1 o2 b e1 e2 hbp hbq
  mine:=fun j o b hj hb=>by
   obtain⟨o1,e1,_⟩:=kUy hj;exact h.mine j o1 b e1 hb }
theorem Sim.kM4 {β:Nat→BV}{a:Act}{w:World}(h:Sim N X0 M w0 st β a w) (t k id e s:Nat):∃β',Sim N X0 M w0 (st.kM4 t k id e s) β' a w:=by
 unfold St.kM4;split
 case h_2=>exact⟨β,h⟩
 case h_1 _ e' cs hl =>
 split
 case h_2=>exact⟨β,h⟩
 case h_1 _ c0 hc =>
 split
 case isFalse=>exact⟨β,h⟩
 case isTrue hh =>
 obtain⟨hn,hid,hne⟩:=hh;have hc0:=isNil_eq hn;subst hc0;obtain⟨β',hb,h1⟩:=h.qHs (e:=e) (s:=s) hid;refine⟨β',?_⟩;have hlt:k<cs.length:=(jSg.1 hc).1;refine h1.rp (t:=t) (e':=e') (cs:=cs) (ds:=cs.set k (.own id)) ?_ zs fun i d hd=>?_
 ·simp only[lk,if_neg hne];exact hl
 ·rw[vVw]at hd;split at hd
  ·rename_i hik;subst hik
   try rw[if_pos hlt]at hd
   cases hd
   exact⟨_,hc,fun u hu=>by
    have:=hu.kAn;subst this;have h0:=R.own (w:=w) (X:=XX X0 β' ((id,.sl e s [])::(st.kill id).hp)) (β:=β') id;rw[hb]at h0;exact h0⟩
  ·exact⟨d,hd,fun u hu=>hu⟩
theorem Sim.kM5 {β:Nat→BV}{a:Act}{w:World}(h:Sim N X0 M w0 st β a w) (t id e s:Nat):∃β',Sim N X0 M w0 (st.kM5 t id e s) β' a w:=by
 unfold St.kM5;split
 case h_2=>exact⟨β,h⟩
 case h_1 _ c0 hc =>
 split
 case isFalse=>exact⟨β,h⟩
 case isTrue hh =>
 obtain⟨hn,hid⟩:=hh;have hc0:=isNil_eq hn;subst hc0;obtain⟨β',hb,h1⟩:=h.qHs (e:=e) (s:=s) hid;refine⟨β',?_⟩;have hv:=(h1.slots t _ hc).kAn
 exact{ h1 with
  slots:=fun u x hx=>by
   simp only[lk]at hx;split at hx
   ·rename_i hut;cases hx;rw[hut,hv];have h0:=R.own (w:=w) (X:=XX X0 β' ((id,.sl e s [])::(st.kill id).hp)) (β:=β') id;rw[hb]at h0;exact h0
   ·rename_i hut;rw[kAt hut]at hx;exact h1.slots u x hx }
inductive Ado where
 |b (t k id e s:Nat)
 |s (t id e s:Nat)
def St.ado (st:St):List Ado→St
 | []=>st
 | .b t k id e s::l=>(st.kM4 t k id e s).ado l
 | .s t id e s::l=>(st.kM5 t id e s).ado l
theorem Sim.ado {a:Act}{w:World}:∀(l:List Ado) {st:St}{β:Nat→BV},Sim N X0 M w0 st β a w→∃β',Sim N X0 M w0 (st.ado l) β' a w
 | [],st,β,h=>⟨β,h⟩
 | .b t k id e s::l,st,β,h=>by obtain⟨β',h'⟩:=h.kM4 t k id e s;exact Sim.ado l h'
 | .s t id e s::l,st,β,h=>by obtain⟨β',h'⟩:=h.kM5 t id e s;exact Sim.ado l h'
theorem zA (l:List Ado) {code:Code}(h:WP c N X0 M w0 code (st.ado l) K):WP c N X0 M w0 code st K:=fun hA β a w hs=>by
 obtain⟨β',h'⟩:=hs.ado l;exact h hA β' a w h'
end
end
section
@[go_sem] def St.fzAt (fz:List (Nat×List Nat)) (i:Nat) (st:St):St:=match lk i fz with
 |some ids=>st.kH2 ids []
 |none=>st
@[go_sem] def St.qEd (tys:List (Nat×TyD)) (C:List (FuncId×Ctr)) (N:Nat) (ops:Array Oper) (fz:List (Nat×List Nat)):Nat→List Oper→St→(St→Prop)→Prop
 | _,[],st,K=>K st
 |i,o::l,st,K=>(st.fzAt fz i).k68 tys C N ops o fun st'=>St.qEd tys C N ops fz (i+1) l st' K
section
variable {P:Program}{tys:List (Nat×TyD)}{C:List (FuncId×Ctr)}{N:Nat}{X0:Nat→Prop}{M:Nat→BV→Prop}{w0:World}{st:St}{β:Nat→BV}{a:Act}{w:World}
theorem Sim.fzAt (hA:Ap P X0 M w0) (h:Sim N X0 M w0 st β a w) (fz:List (Nat×List Nat)) (i:Nat):∃β',Sim N X0 M w0 (st.fzAt fz i) β' a w:=by
 unfold St.fzAt;split
 ·exact h.kH2 hA rfl
 ·exact⟨β,h⟩
theorem kTd (hA:Ap P X0 M w0) (hty:∀T d,lk T tys=some d→kAs P T d) (hC:COk P C) {ops:Array Oper}{fz:List (Nat×List Nat)}{K:St→Prop}{Q:Exit→Act→World→Prop}(hQ:∀a w,Ok N X0 M w0 K a w→Q .normal a w) :
  ∀(l:List Oper) {i:Nat}{st:St}{β:Nat→BV}{a:Act}{w:World},Sim N X0 M w0 st β a w→St.qEd tys C N ops fz i l st K→wpList P ops Q l a w
 | [],i,st,β,a,w,h,hw=>hQ a w ⟨st,β,hw,h⟩
 |o::l,i,st,β,a,w,h,hw=>by
  obtain⟨β1,h0⟩:=h.fzAt hA fz i;have h1:=kZf (Q:=Q) hA hty hC h0 hw;unfold wpList;split
  ·rename_i hwt;rw[if_pos hwt]at h1;exact .inl (Oper.wp_mono (fun a' w' ⟨st',β',h2,h3⟩=>kTd hA hty hC hQ l h3 h2) h1)
  ·rename_i hwt;rw[if_neg hwt]at h1;obtain⟨st',β',h2,h3⟩:=h1;exact kTd hA hty hC hQ l h3 h2
end
section
variable {c:Cx}{N:Nat}{X0:Nat→Prop}{M:Nat→BV→Prop}{w0:World}{st:St}{K:Exit→St→Prop}
theorem WP.regionF {id:Nat}(fz:List (Nat×List Nat)) {l:List Oper}(h:St.qEd c.tys c.C N l.toArray fz 0 l st (K .normal)):WP c N X0 M w0 (.region id l.toArray false) st K:=fun hA β a w hs =>
 wp_region_lit (kTd hA c.hty c.hC (fun a w hk=>hk) l hs h)
end
end
end Go.Vc
namespace Go.Proofs.YtjdklcjoeanimaaGreat
attribute [local irreducible] Go.Vc.WP
section
open Go.Vc Tryz
theorem and16 (a:Int):0≤kEs .i64 a 65535∧kEs .i64 a 65535≤65535:=by
 unfold kEs
 have h1:(BitVec.ofInt IntKind.i64.bits a &&& BitVec.ofInt IntKind.i64.bits 65535).toNat≤65535:=by
  rw[vZk];exact jZ9 Nat.and_le_right (by decide)
 generalize(BitVec.ofInt IntKind.i64.bits a &&& BitVec.ofInt IntKind.i64.bits 65535).toNat=n at h1;rw[show IntKind.i64.wrap (n:Int)=n from IntWalk.i64_in _ ⟨zo,zo⟩]
 omega
def kCz (s:Int):Int:=if 0≤s∧s≤65535 then kEs .i64 (s*25173+13849) 65535 else 0
theorem kW1 (s:Int):0≤kCz s∧kCz s≤65535:=by
 unfold kCz;split
 ·exact and16 _
 ·omega
@[go_sem] def kNext:Ctr:=pur (fun args=>aI args 0) (fun s=>[vi s]) (fun _=>True) (fun _ s=>vi (kCz s)) (fun _ _=>[])
section
def cxNxS:=kc c58 kn
theorem cNextS:Cq 247 kNext:=by
 refine zp fun d x hx=>?_
 rename Int=>s
 refine zg cxNxS func247 rfl rfl ntmps247 ?_;intros;by_cases h:0≤s∧s≤65535
 ·have e:kCz s=kEs .i64 (s*25173+13849) 65535:=if_pos h;rw[e];exact zx h
 ·have e:kCz s=0:=if_neg h;rw[e];exact zx h
end
def tick (x:Tm):Tm×Bool:=if kNg x=true then
  (if 0<x.left-1 then(⟨x.period,x.spread,x.left-1,x.state⟩,false)
   else if 0<x.spread then(⟨x.period,x.spread,x.period+((kCz x.state).tdiv 64).tmod x.spread,kCz x.state⟩,true)else(⟨x.period,x.spread,x.period,x.state⟩,true))
 else(x,false)
@[go_sem] def kTick:Ctr:=pur (fun args=>tmA args 0) (fun x=>[.agg [vi x.period,vi x.spread,vi x.left,vi x.state]]) (fun _=>True)
 (fun _ x=>.tup [.agg [vi ((tick x).1.period),vi ((tick x).1.spread),vi ((tick x).1.left),vi ((tick x).1.state)],.v (.bool (tick x).2)]) (fun _ _=>[])
section
def cxTkS:=kc qKi (kc cNextS kn)
theorem cTickS:Cq 207 kTick:=by
 refine zp fun d x hx=>?_
 obtain⟨p,s,l,t⟩:=x;simp only;refine zg cxTkS func207 rfl rfl ntmps207 ?_;intros
 cases hok:kNg ⟨p,s,l,t⟩with
 |false =>
  have e:tick ⟨p,s,l,t⟩=(⟨p,s,l,t⟩,false):=if_neg (by rw[hok];simp)
  rw[e]
  exact zx1 9 hok
 |true =>
  have h:=of_decide_eq_true hok;simp only at h;obtain⟨h1,h2,h3,h4⟩:=h;have hn:=kW1 t;by_cases hl:0<l-1
  ·have e:tick ⟨p,s,l,t⟩=(⟨p,s,l-1,t⟩,false):=by unfold tick;rw[if_pos hok,if_pos hl]
   rw[e];exact zx1 9 (z2 hok hl)
  ·by_cases hs:0<s
   ·have e:tick ⟨p,s,l,t⟩=(⟨p,s,p+((kCz t).tdiv 64).tmod s,kCz t⟩,true):=by unfold tick;rw[if_pos hok,if_neg hl,if_pos hs]
    rw[e]
    have q1:0≤(kCz t).tdiv 64∧(kCz t).tdiv 64≤65535:=by
     rw[vJ3 hn.1];omega
    have q2:0≤((kCz t).tdiv 64).tmod s∧((kCz t).tdiv 64).tmod s<s:=⟨vTb _ q1.1,vP8 _ hs⟩;exact zx1 9 (z3 hok hl hs)
   ·have e:tick ⟨p,s,l,t⟩=(⟨p,s,p,t⟩,true):=by unfold tick;rw[if_pos hok,if_neg hl,if_neg hs]
    rw[e];exact zx1 9 (z3 hok hl hs)
end
theorem and16m (a:Int) (h:0≤a):kEs .i64 a 65535=a.tmod 65536:=by
 unfold kEs
 have h1:(BitVec.ofInt IntKind.i64.bits a &&& BitVec.ofInt IntKind.i64.bits 65535).toNat=(a%18446744073709551616).toNat%65536:=by
  rw[vZk,vP9];have h2:(BitVec.ofInt IntKind.i64.bits 65535).toNat=2 ^ 16-1:=by decide
  rw[h2,yFn];rfl
 rw[h1,show IntKind.i64.wrap (((a%18446744073709551616).toNat%65536:Nat):Int)=(((a%18446744073709551616).toNat%65536:Nat):Int)from IntWalk.i64_in _ ⟨zo,zo⟩,vWs h]
 omega
section
def cxNxI:=kc c60 kn
theorem cNextI:Cq 249 kNext:=by
 refine zp fun d x hx=>?_
 rename Int=>s
 refine zg cxNxI func249 rfl rfl ntmps249 ?_;intros;by_cases h:0≤s∧s≤65535
 ·have e:kCz s=(s*25173+13849).tmod 65536:=by unfold kCz;rw[if_pos h,and16m _ zo]
  rw[e];exact zx h
 ·have e:kCz s=0:=if_neg h;rw[e];exact zx h
end
section
def cxTkI:=kc qKh (kc cNextI kn)
theorem cTickI:Cq 211 kTick:=by
 refine zp fun d x hx=>?_
 obtain⟨p,s,l,t⟩:=x;simp only;refine zg cxTkI func211 rfl rfl ntmps211 ?_;intros
 cases hok:kNg ⟨p,s,l,t⟩with
 |false =>
  have e:tick ⟨p,s,l,t⟩=(⟨p,s,l,t⟩,false):=if_neg (by rw[hok];simp)
  rw[e]
  exact zx1 9 hok
 |true =>
  have h:=of_decide_eq_true hok;simp only at h;obtain⟨h1,h2,h3,h4⟩:=h;have hn:=kW1 t;by_cases hl:0<l-1
  ·have e:tick ⟨p,s,l,t⟩=(⟨p,s,l-1,t⟩,false):=by unfold tick;rw[if_pos hok,if_pos hl]
   rw[e];exact zx1 9 (z2 hok hl)
  ·by_cases hs:0<s
   ·have e:tick ⟨p,s,l,t⟩=(⟨p,s,p+((kCz t).tdiv 64).tmod s,kCz t⟩,true):=by unfold tick;rw[if_pos hok,if_neg hl,if_pos hs]
    rw[e]
    have q1:0≤(kCz t).tdiv 64∧(kCz t).tdiv 64≤65535:=by
     rw[vJ3 hn.1];omega
    have q2:0≤((kCz t).tdiv 64).tmod s∧((kCz t).tdiv 64).tmod s<s:=⟨vTb _ q1.1,vP8 _ hs⟩;exact zx1 9 (z3 hok hl hs)
   ·have e:tick ⟨p,s,l,t⟩=(⟨p,s,p,t⟩,true):=by unfold tick;rw[if_pos hok,if_neg hl,if_neg hs]
    rw[e];exact zx1 9 (z3 hok hl hs)
end
end
section
open Go.Vc Tryz
def zSm:Int×Vw:=(0,⟨0,0,0,[]⟩)
def kF0 (x:PcX) (t most:Int):(Int×Vw)×Bool :=
 if kFa x=true∧0≤t∧t<x.2.1.length then(if kHi (t,kEv (x.2.1.getD t.toNat ⟨0,0,0,[],[],0,0⟩) most)=true then((t,kEv (x.2.1.getD t.toNat ⟨0,0,0,[],[],0,0⟩) most),true)else(zSm,false))else(zSm,false)
@[go_sem] def kTake:Ctr:=pur (fun args=>(pcA args 0,aI args 1,aI args 2)) (fun x=>[.agg [.sl 2 (x.1.1.1.map encImage),.sl 1 (x.1.1.2.1.map encI),.sl 1 (x.1.1.2.2.map encI),.sl 7 (x.1.2.1.map encMach),vi x.1.2.2.1,vi x.1.2.2.2.1,vi x.1.2.2.2.2],vi x.2.1,vi x.2.2]) (fun x=>kGl x.1)
 (fun d x=>.tup [.agg [vi ((kF0 x.1 x.2.1 x.2.2).1.1),vi ((kF0 x.1 x.2.1 x.2.2).1.2.pc),vi ((kF0 x.1 x.2.1 x.2.2).1.2.sp),vi ((kF0 x.1 x.2.1 x.2.2).1.2.fp),.own d],.v (.bool (kF0 x.1 x.2.1 x.2.2).2)]) (fun d x=>[(d,.sl 3 1 ((kF0 x.1 x.2.1 x.2.2).1.2.words.map encI))])
theorem kVa (m:Mach) (most:Int):(kEv m most).words.length≤1200:=by
 unfold kEv;split
 ·rename_i h;have hb:=of_decide_eq_true h.1;simp only[jOb,jSz];omega
 ·simp
section
attribute [local irreducible] kGl
def cxTsS:=kc qAw (kc cViewS (kc k9n kn))
theorem cTakeS:Cq 208 kTake:=by
 refine zp fun d x hx=>?_
 obtain⟨⟨⟨I,B,E⟩,T,tu,le,sl⟩,t,most⟩:=x;have hpre:kGl ((I,B,E),T,tu,le,sl):=hx;unfold kGl at hx;obtain⟨_,hT,hTm⟩:=hx;simp only at hT hTm⊢;refine zg cxTsS func208 rfl rfl ntmps208 ?_;intros
 cases hok:kFa ((I,B,E),T,tu,le,sl)with
 |false =>
  have e:kF0 ((I,B,E),T,tu,le,sl) t most=(zSm,false):=if_neg (by rw[hok];simp)
  rw[e];simp only[zSm]
  exact zx hok
 |true =>
  by_cases ht:t<0
  ·have e:kF0 ((I,B,E),T,tu,le,sl) t most=(zSm,false):=if_neg (fun hh=>by have:=hh.2.1;omega)
   rw[e];simp only[zSm];exact zx (z2 hok ht)
  ·by_cases hl:t<(T.length:Int)
   ·obtain⟨k,rfl⟩:=zN t;have hk:k<T.length:=zo;have hr:=kAa encMach T k hk;have hge:¬(k:Int)≥T.length:=zo;have hms:=hTm _ (jCn hk);have hv:=kVa T[k] most;have hg:T.getD (k:Int).toNat ⟨0,0,0,[],[],0,0⟩=T[k]:=by rw[jB2,jKz,jD9 hk];rfl
    have e:kF0 ((I,B,E),T,tu,le,sl) k most=if kHi ((k:Int),kEv T[k] most)=true then(((k:Int),kEv T[k] most),true)else(zSm,false):=by
     unfold kF0;rw[if_pos ⟨hok,zo,hl⟩,hg]
    rw[e];generalize hV:kEv T[k] most=V at hv
    cases hs:kHi ((k:Int),V)with
    |false =>
     simp only[zSm,jIv,if_false]
     exact zx (z7 hok ht hge hr encMach.eq_1 hV hs)
    |true =>
     simp only[if_true];exact zx (z7 hok ht hge hr encMach.eq_1 hV hs)
   ·have e:kF0 ((I,B,E),T,tu,le,sl) t most=(zSm,false):=if_neg (fun hh=>hl hh.2.2)
    rw[e];have hge:t≥(T.length:Int):=zo;simp only[zSm];exact zx (z3 hok ht hge)
end
end
section
open Go.Vc Tryz
def kFt (T:List Mach) (tu:Int) (k:Nat):Bool:=decide ((T.getD ((tu+k).tmod T.length).toNat ⟨0,0,0,[],[],0,0⟩).state=0)
def kCj (T:List Mach) (tu:Int):Int:=if firstIdx (kFt T tu) (List.range T.length)<0 then -1 else(tu+firstIdx (kFt T tu) (List.range T.length)).tmod T.length
@[go_sem] def kChos:Ctr:=pur (fun args=>pcA args 0) (fun x=>[.agg [.sl 2 (x.1.1.map encImage),.sl 1 (x.1.2.1.map encI),.sl 1 (x.1.2.2.map encI),.sl 7 (x.2.1.map encMach),vi x.2.2.1,vi x.2.2.2.1,vi x.2.2.2.2]])
 (fun x=>x.2.1.length≤4194304∧0≤x.2.2.1∧x.2.2.1≤4194304) (fun _ x=>vi (kCj x.2.1 x.2.2.1)) (fun _ _=>[])
section
def cxChI:=COk.nil Tryz.prog
theorem cChosI:Cq 210 kChos:=by
 refine zp fun d x hx=>?_
 obtain⟨⟨I,B,E⟩,T,tu,le,sl⟩:=x;obtain⟨hT,ht0,ht1⟩:=hx;simp only at hT ht0 ht1⊢;refine zg cxChI func210 rfl rfl ntmps210 ?_;intros;refine zy trivial ?_
 refine zM (fun k:Nat=>⟨[(1,.ptr 1 0 0 0),(3,vi T.length),(4,vi k)],[(1,.box 54 [.sl 2 (I.map encImage),.sl 1 (B.map encI),.sl 1 (E.map encI),.sl 7 (T.map encMach),vi tu,vi le,vi sl])]⟩)
  (fun k=>k≤T.length∧∀i,i<T.length→i<k→kFt T tu i=false) (fun k=>T.length-k) 0 zs ?_
 intro k ⟨hk,hf⟩;by_cases hlt:k<T.length
 ·have hli:(k:Int)<T.length:=zo;have hn0:((T.length:Nat):Int)≠0:=zo;have hq0:0≤(tu+(k:Int)).tmod T.length:=vTb _ zo;have hq1:(tu+(k:Int)).tmod T.length<T.length:=vP8 _ zo;obtain⟨j,hj⟩:=zN ((tu+(k:Int)).tmod T.length);have hjl:j<T.length:=zo;have hr:=kAa encMach T j hjl;have kNj:(j:Int)<T.length:=zo
  have hrun:kFt T tu k=decide (T[j].state=0):=by
   unfold kFt;rw[hj,jB2,jKz,jD9 hjl];rfl
  by_cases h:T[j].state=0
  ·have hh:kFt T tu k=true:=by rw[hrun,decide_eq_true h]
   have hfi:firstIdx (kFt T tu) (List.range T.length)=k :=
    kEe (p:=kFt T tu) (L:=List.range T.length) (k:=k) (by simpa using hlt) (fun i hi hik=>by rw[vBf];exact hf i (by simpa using hi) hik) (by rw[vBf];exact hh)
   have hc:kCj T tu=j:=by unfold kCj;rw[hfi,if_neg zo,hj]
   rw[hc]
   (repeat' (first|apply zS|apply zB|(apply zW;simp only[go_sem,hli,hn0,hj,kNj,hr,encMach,h,jB2])|apply jAi|omega|rfl|exact hn0|intro _))
  ·have hh:kFt T tu k=false:=by rw[hrun,decide_eq_false h]
   have hnx:∀i,i<T.length→i<k+1→kFt T tu i=false:=fun i hi hik=>by
    rcases jFx i k with h|h
    ·exact hf i hi h
    ·have:i=k:=zo;subst this;exact hh
   (repeat' (first|apply zS|apply zB|(apply zW;simp only[go_sem,hli,hn0,hj,kNj,hr,encMach,h,jB2])|apply jAi|omega|exact hn0|exact⟨k+1,⟨zo,hnx⟩,zo,zh⟩|intro _))
 ·have hge:¬(k:Int)<T.length:=zo
  have hc:kCj T tu=-1:=by
   unfold kCj
   rw[firstIdx_none fun i hi=>by
    rw[vBf];have hi':i<T.length:=by simpa using hi
    exact hf i hi' zo]
   rfl
  rw[hc];exact zx hge
end
end
section
open Go.Pl
def hasName (s:ByteArray) (f:Frame):Bool:=decide (f.name=s)
def idxF (s:ByteArray) (L:List Frame):Int:=firstIdx (hasName s) L
def pick (s:ByteArray) (b:Bool) (L:List Frame):List Frame:=if(decide (0≤idxF s L)==b)=true then L else[]
theorem qLv {α:Type}{L:List α}{k:Nat}{x y:α}(h:y∈L.set k x):y=x∨y∈L:=by
 rcases List.mem_or_eq_of_mem_set h with h|h
 ·exact .inr h
 ·exact .inl h
end
section
open Go.Pl
instance inhE:Inhabited Entry:=⟨⟨⟨#[]⟩,0⟩⟩
instance memBA (t:ByteArray) (ns:List ByteArray):Decidable (t∈ns):=decidable_of_iff (∃x,x∈ns∧x=t) (by simp)
structure kTk (L:List Entry) (f:ByteArray→Option Int):Prop where
 nd:L.Pairwise fun a b=>a.stack≠b.stack
 mem:∀e:Entry,e∈L↔f e.stack=some e.count
def updF (f:ByteArray→Option Int) (s:ByteArray) (c:Int) (t:ByteArray):Option Int:=if t=s then some ((f s).getD 0+c)else f t
theorem kTk.nil:kTk [] (fun _=>none):=⟨.nil,fun e=>by simp⟩
theorem kTk.none {L:List Entry}{f:ByteArray→Option Int}(h:kTk L f) {s:ByteArray}(hs:∀x∈L,x.stack≠s):f s=none:=by
 cases hf:f s with
 |none=>rfl
 |some n=>exact absurd rfl (hs ⟨s,n⟩ ((h.mem _).2 hf))
theorem kTk.put {L A B:List Entry}{f:ByteArray→Option Int}(h:kTk L f) (hL:L=A++B) {s:ByteArray}{c:Int}(hs:∀x∈L,x.stack≠s):kTk (A++⟨s,c⟩::B) (updF f s c):=by
 have hp:(A++⟨s,c⟩::B).Perm (⟨s,c⟩::L):=by rw[hL];exact List.perm_middle
 have hn:=h.none hs;refine⟨?_,fun e=>?_⟩
 ·refine(hp.pairwise_iff (fun{a b} hh=>Ne.symm hh)).2 ?_
  exact List.pairwise_cons.2 ⟨fun x hx=>Ne.symm (hs x hx),h.nd⟩
 ·rw[hp.mem_iff,List.mem_cons,h.mem];unfold updF;by_cases he:e.stack=s
  ·rw[if_pos he,he,hn];constructor
   ·rintro(h1|h1)
    ·rw[h1];simp
    ·cases h1
   ·intro h1;left;obtain⟨a,b⟩:=e;simp only at he;simp only[Option.getD_none,Int.zero_add,Option.some.injEq]at h1;rw[he,h1]
  ·rw[if_neg he];constructor
   ·rintro(h1|h1)
    ·exact absurd (by rw[h1]) he
    ·exact h1
   ·exact .inr
theorem kTk.up {L:List Entry}{f:ByteArray→Option Int}(h:kTk L f) {k:Nat}(hk:k<L.length) (c:Int):kTk (L.set k ⟨L[k].stack,L[k].count+c⟩) (updF f L[k].stack c):=by
 have hat:∀i (hi:i<L.length),L[i].stack=L[k].stack→i=k:=fun i hi he=>by
  rcases Nat.lt_trichotomy i k with h1|h1|h1
  ·exact absurd he ((List.pairwise_iff_getElem.1 h.nd) i k hi hk h1)
  ·exact h1
  ·exact absurd he.symm ((List.pairwise_iff_getElem.1 h.nd) k i hk hi h1)
 have hf:f L[k].stack=some L[k].count:=(h.mem _).1 (List.getElem_mem hk);refine⟨?_,fun e=>?_⟩
 ·rw[List.pairwise_iff_getElem];intro i j hi hj hij;simp only[List.length_set]at hi hj;have h0:=(List.pairwise_iff_getElem.1 h.nd) i j hi hj hij;rw[List.getElem_set,List.getElem_set];by_cases h1:k=i
  ·subst h1;rw[if_pos rfl,if_neg (by omega)];exact h0
  ·rw[if_neg h1];by_cases h2:k=j
   ·subst h2;rw[if_pos rfl];exact h0
   ·rw[if_neg h2];exact h0
 ·unfold updF;by_cases he:e.stack=L[k].stack
  ·rw[if_pos he,hf];constructor
   ·intro hm;obtain⟨i,hi,hie⟩:=List.mem_iff_getElem.1 hm;simp only[List.length_set]at hi;rw[List.getElem_set]at hie;by_cases h1:k=i
    ·rw[if_pos h1]at hie;rw[←hie];rfl
    ·rw[if_neg h1]at hie;exact absurd (hat i hi (by rw[hie,he])).symm h1
   ·intro h1;simp only[Option.getD_some,Option.some.injEq]at h1
    have:e=⟨L[k].stack,L[k].count+c⟩:=by
     obtain⟨a,b⟩:=e;simp only at he h1;rw[he,h1]
    rw[this];exact List.mem_iff_getElem.2 ⟨k,by simpa using hk,by simp⟩
  ·rw[if_neg he,←h.mem];constructor
   ·intro hm;rcases qLv hm with h1|h1
    ·exact absurd (by rw[h1]) he
    ·exact h1
   ·intro hm;obtain⟨i,hi,hie⟩:=List.mem_iff_getElem.1 hm;have:k≠i:=fun e1=>by subst e1;exact he (by rw[hie])
    exact List.mem_iff_getElem.2 ⟨i,by simpa using hi,by rw[List.getElem_set,if_neg this];exact hie⟩
theorem k8z {α:Type}{p:α→Bool}{L:List α}(h:¬firstIdx p L<0):∃(k:Nat) (hk:k<L.length),firstIdx p L=k∧p L[k]=true:=by
 unfold firstIdx at h⊢;split at h
 ·rename_i i hi;obtain⟨h1,h2,_⟩:=List.findIdx?_eq_some_iff_getElem.1 hi;exact⟨i,h1,rfl,h2⟩
 ·omega
end
end Go.Proofs.YtjdklcjoeanimaaGreat
namespace Go.Vc
inductive Tr where
 |done
 |nil
 |br (i:Nat) (s n:Tr)
def aoB (ops:Array Oper):Tr→Nat→Bool→List Nat→Array Bool→Bool
 | .done,_,_,rs,_=>rs.isEmpty
 | .nil,_,fresh,rs,_=>!fresh&&rs.isEmpty
 | .br _ _ _,0,_,_,_=>false
 | .br i s n,f+1,_,rs,listed=>(match rs with
  | []=>false
  |j::tl=>i==j&&aoB ops n (f+1) false tl listed)&&aoB ops s f true (Region.ready .any ops (listed.setIfInBounds i true)) (listed.setIfInBounds i true)
def St.allT (tys:List (Nat×TyD)) (C:List (FuncId×Ctr)) (N:Nat) (ops:Array Oper) (l:List Oper) (K:St→Prop):Tr→St→Prop
 | .done,st=>K st
 | .nil,_=>True
 | .br i s n,st=>(match l[i]? with
  |some o=>st.step tys C N ops o fun st'=>St.allT tys C N ops l K s st'
  |none=>False)∧St.allT tys C N ops l K n st
attribute [go_sem] St.allT
section
variable {c:Cx}{N:Nat}{X0:Nat→Prop}{M:Nat→BV→Prop}{w0:World}{K:Exit→St→Prop}
theorem qG3 {l:List Oper}{f:Nat}{listed:Array Bool}{a:Act}{w:World}
  (q1:∀i∈Region.ready .any l.toArray listed,∃g,f=g+1∧wpOp c.P l.toArray (fun e a' w'=>Ok N X0 M w0 (K e) a' w') i (wpAny c.P .any l.toArray (fun e a' w'=>Ok N X0 M w0 (K e) a' w') g (listed.setIfInBounds i true)) a w)
  (q2:Region.ready .any l.toArray listed=[]→Ok N X0 M w0 (K .normal) a w):wpAny c.P .any l.toArray (fun e a' w'=>Ok N X0 M w0 (K e) a' w') f listed a w:=by
 cases f with
 |zero =>
  have hr:Region.ready .any l.toArray listed=[]:=by
   rw[yHa];intro i hi;obtain⟨g,h,_⟩:=q1 i hi;cases h
  exact⟨hr,q2 hr⟩
 |succ g =>
  refine⟨fun hr=>q2 hr,fun i hi=>?_⟩
  obtain⟨g',h,h3⟩:=q1 i hi;obtain rfl:=Nat.succ.inj h;exact h3
theorem qNh (hAp:Ap c.P X0 M w0) {l:List Oper}:∀(t:Tr) (f:Nat) (fresh:Bool) (rs:List Nat) (listed:Array Bool) (st:St) (β:Nat→BV) (a:Act) (w:World),aoB l.toArray t f fresh rs listed=true→Sim N X0 M w0 st β a w→St.allT c.tys c.C N l.toArray l (K .normal) t st →
  (∀i∈rs,∃g,f=g+1∧wpOp c.P l.toArray (fun e a' w'=>Ok N X0 M w0 (K e) a' w') i (wpAny c.P .any l.toArray (fun e a' w'=>Ok N X0 M w0 (K e) a' w') g (listed.setIfInBounds i true)) a w)∧(fresh=true→rs=[]→Ok N X0 M w0 (K .normal) a w):=by
 intro t
 induction t with
 |done =>
  intro f fresh rs listed st β a w hB hs h;have:rs=[]:=by simpa[aoB]using hB
  subst this
  exact⟨fun i hi=>(by cases hi),fun _ _=>⟨st,β,h,hs⟩⟩
 |nil =>
  intro f fresh rs listed st β a w hB hs h;simp only[aoB,jBs,jUs,List.isEmpty_iff]at hB;obtain⟨rfl,rfl⟩:=hB
  exact⟨fun i hi=>(by cases hi),fun h=>by cases h⟩
 |br i s n ihs ihn =>
  intro f fresh rs listed st β a w hB hs h
  cases f with
  |zero=>simp[aoB]at hB
  |succ g =>
   cases rs with
   |nil=>simp[aoB]at hB
   |cons j tl =>
    simp only[aoB,jBs,beq_iff_eq]at hB;obtain⟨⟨rfl,hB1⟩,hB2⟩:=hB;obtain⟨h1,h2⟩:=h;refine⟨fun k hk=>?_,fun _ hr=>by cases hr⟩
    rcases jDr.1 hk with rfl|hk
    ·refine⟨g,rfl,?_⟩;unfold wpOp;rw[show l.toArray[k]? = l[k]? by simp]
     cases ho:l[k]? with
     |none=>rw[ho]at h1;exact h1.elim
     |some o =>
      rw[ho]at h1;simp only at h1⊢
      have key:∀a' w',Ok N X0 M w0 (fun st'=>St.allT c.tys c.C N l.toArray l (K .normal) s st') a' w'→wpAny c.P .any l.toArray (fun e a' w'=>Ok N X0 M w0 (K e) a' w') g (listed.setIfInBounds k true) a' w':=by
       rintro a' w' ⟨st',β',hk',hs'⟩;obtain⟨q1,q2⟩:=ihs g true _ _ st' β' a' w' hB2 hs' hk';exact qG3 q1 (q2 rfl)
      have h3:=kCu hAp c.hty c.hC hs h1 (Q:=fun e a' w'=>Ok N X0 M w0 (K e) a' w')
      split
      ·rename_i hw;rw[if_pos hw]at h3;exact .inl (Oper.wp_mono key h3)
      ·rename_i hw;rw[if_neg hw]at h3;exact key _ _ h3
    ·exact(ihn (g+1) false tl listed st β a w hB1 hs h2).1 k hk
theorem WP.kBp {id:Nat}{l:List Oper}{st:St}(t:Tr) (hB:aoB l.toArray t l.toArray.size true (Region.ready .any l.toArray (Array.replicate l.toArray.size false)) (Array.replicate l.toArray.size false)=true) (hm:c.P.follows .mixedOrders=true)
  (h:St.allT c.tys c.C N l.toArray l (K .normal) t st):WP c N X0 M w0 (.region id l.toArray true) st K:=by
 intro hA β a w hs;have hs':Sim N X0 M w0 st β a { w with drawn:=w.drawn+1 }:=hs.grow ((vVj _ _).drew) (fun b _ hb=>.inl hb) hs.x0
 obtain⟨q1,q2⟩:=qNh hA t _ true _ _ st β a _ hB hs' h;exact wp_region_any hm (qG3 q1 (q2 rfl))
end
end Go.Vc
namespace Go.Proofs.YtjdklcjoeanimaaGreat
open Go.Vc
def kS0 (f:List Frame):List SV:=[.sl 2 (f.map kAe)]
def oneFL:List SV→List Frame
 | [.sl _ r]=>kOw r
 | _=>[]
def qGs (rows:List (List SV)):List (List Frame):=rows.map oneFL
theorem qJu (L:List (List Frame)):qGs (L.map kS0)=L:=by
 unfold qGs;rw[jRw];exact vFu (fun f=>by show kOw (f.map kAe)=f;exact k8a f) L
theorem k6z {X:Nat→Prop}{w w':World}(h:Go.RowKit.Below w.heap.size w w'):Same X w w':=by
 obtain⟨_,_,_,hs,hk⟩:=h;exact⟨hs,fun b hb _=>hk b hb⟩
def qJv (w:World) (X:Nat→Prop) (B:Nat):El w X B:=⟨0,.slice none 0 0,[],[],⟨rfl,zs,zs,zs⟩,vEs _,.inl ⟨none,0,rfl,rfl⟩⟩
theorem elOf {w:World}{X:Nat→Prop}{f:List Frame}{u:Value}{B:Nat}(hB:f.length≤B) (k:Nat) (h:Rp w X (.sl 2 (f.map kAe)) u):∃x:El w X B,x.ix=k∧x.v=u∧x.rows=f.map kAe:=by
 have hR:R w X (fun _=>kEm) (.sl 2 (f.map kAe)) u:=.p h
 rcases hR.kYq with⟨e,p,cap,rfl⟩|⟨b,off,cap,rfl,_,hb,_,_⟩
 ·exact⟨⟨k,.slice p 0 cap,[],[],⟨rfl,zs,zs,zs⟩,vEs _,.inl ⟨p,cap,rfl,rfl⟩⟩,rfl,rfl,e.symm⟩
 ·obtain⟨vals,hf,hc⟩:=h.flat;exact⟨⟨k,_,f.map kAe,vals,hf,by simpa using hB,.inr ⟨b,off,cap,rfl,hb,fun j u hu=>by rw[kKo];exact hc j u hu⟩⟩,rfl,rfl,rfl⟩
theorem flatE {w:World}{X:Nat→Prop}{B:Nat}:∀L:List (El w X B),Flat w X 2 (kHz L) (valsE L)
 | []=>⟨rfl,by simp[kHz],by simp[valsE],by simp[kHz]⟩
 |x::r=>by
  have h:=x.flat.append (flatE r);have e1:kHz (x::r)=x.rows++kHz r:=by simp[kHz]
  have e2:valsE (x::r)=x.vals++valsE r:=by simp[valsE]
  rw[e1,e2];exact h
theorem k3a {w:World}{X:Nat→Prop}{B:Nat}{f:Nat→El w X B}{L:List (List Frame)}(h:∀k (hk:k<L.length),(f k).rows=L[k].map kAe):kHz (come f L.length L.length)=L.reverse.flatten.map kAe:=by
 unfold kHz come;rw[List.map_flatten,jRw];congr 1;apply List.ext_getElem
 ·simp
 ·intro i h1 h2;simp only[jH5,yGv,List.length_reverse]at h1 h2;simp only[List.getElem_map,vBf,List.getElem_reverse,Function.comp];exact h _ zo
@[go_sem] def kOutw:Ctr:=pur (fun args=>qGs (aR args 0)) (fun L=>[.sl 1 (L.map kS0)]) (fun L=>L.length≤64∧∀f∈L,f.length≤4194305) (fun d _=>.own d) (fun d L=>[(d,.sl 228 2 (L.reverse.flatten.map kAe))])
theorem cOutwI:Cq 118 kOutw:=by
 refine zp fun d L hx=>?_
 obtain⟨hL,hF⟩:=hx;intro w X vs hG hXb hl ha
 obtain⟨sv,rfl⟩:∃sv,vs=[sv]:=by
  match vs,hl with
  | [sv],_=>exact⟨sv,rfl⟩
 have hR:R w X (fun _=>kEm) (.sl 1 (L.map kS0)) sv:=ha 0 _ _ rfl rfl
 have hex:∃(a:Option Addr) (cap:Nat) (f:Nat→El w X 4194305),sv=.slice a L.length cap∧(∀k,k<L.length→(f k).ix=k)∧Vals w.heap.size w sv f (·.v) L.length∧∀k (hk:k<L.length),(f k).rows=L[k].map kAe:=by
  rcases hR.kYq with⟨e,p,cap,rfl⟩|⟨b,off,cap,rfl,_,hb,hcap,hcell⟩
  ·have hL0:L=[]:=by simpa using e
   subst hL0;exact⟨p,cap,fun _=>qJv w X _,rfl,fun k hk=>absurd hk zs,.inl ⟨p,cap,rfl,rfl⟩,fun k hk=>absurd hk zs⟩
  ·have hel:∀k (hk:k<L.length),∃x:El w X 4194305,x.ix=k∧w.cell? ⟨b,off+k,none⟩=some x.v∧x.rows=L[k].map kAe:=fun k hk=>by
    obtain⟨u,hu,hr⟩:=hcell k 0 (kS0 L[k]) (.sl 2 (L[k].map kAe)) (by rw[jQ2,jD9 hk];rfl) rfl
    obtain⟨x,h1,h2,h3⟩:=elOf (hF _ (jCn hk)) k hr;exact⟨x,h1,by rw[h2,←hu];congr 2;simp,h3⟩
   have hc:∀k (hk:k<L.length),(Classical.choose (hel k hk)).ix=k∧w.cell? ⟨b,off+k,none⟩=some (Classical.choose (hel k hk)).v∧(Classical.choose (hel k hk)).rows=L[k].map kAe:=fun k hk=>Classical.choose_spec (hel k hk)
   refine⟨some ⟨b,off,none⟩,cap,fun k=>if hk:k<L.length then Classical.choose (hel k hk)else qJv w X _,zs,fun k hk=>?_,.inr ⟨b,off,cap,zs,hb,fun k hk=>?_⟩,fun k hk=>?_⟩
   ·simp only[dif_pos hk];exact(hc k hk).1
   ·simp only[dif_pos hk];exact(hc k hk).2.1
   ·simp only[dif_pos hk];exact(hc k hk).2.2
 obtain⟨a,cap,f,rfl,hix,hV,hrows⟩:=hex;refine(callsIn_wide.1 (qOr Fence.wide 3 trivial trivial trivial rfl zo w X a cap 4194305 f L.length zo hix hV zo)).mono fun e w' ⟨v,he,hown,hB⟩=>?_
 rw[k3a hrows]at hown
 have hft:∀b,blk v=some b→w.heap.size≤b:=fun b hb=>by
  rcases hown.2 with⟨rfl,_⟩|⟨b',c,cur,rfl,hle,_⟩
  ·cases hb
  ·cases hb;exact hle
 have hfl:∀X':Nat→Prop,(∀b,b<w.heap.size→X' b→X b)→Flat w' X' 2 (L.reverse.flatten.map kAe) (valsE (come f L.length L.length)):=fun X' hX'=>by
  have:=flatE (come f L.length L.length);rw[k3a hrows]at this;exact this.mono (k6z hB) hX'
 refine⟨v,fun _=>plain v,he,hB,fun _=>?_,.own d,⟨fun id ob hi=>?_,fun i j oi oj b hi hj _ _=>?_⟩,fun id ob b hi hb=>?_⟩
 ·rcases hown.2 with⟨rfl,_⟩|⟨b,c,cur,rfl,_⟩<;>rfl
 ·simp only[lk]at hi;split at hi
  ·cases hi;refine ObR.kTw hown (hfl _ fun b hb h=>?_)
   rcases h with h|⟨i,o,_,h⟩
   ·exact h
   ·have:=hft b h;omega
  ·cases hi
 ·simp only[lk]at hi hj;split at hi
  ·split at hj
   ·rename_i e1 e2;rw[e1,e2]
   ·cases hj
  ·cases hi
 ·exact hft b hb
end Go.Proofs.YtjdklcjoeanimaaGreat
namespace Go.Vc
def St.kWg (tys:List (Nat×TyD)) (C:List (FuncId×Ctr)) (N:Nat) (ops:Array Oper) (o:Oper) (st:St) (K:St→Prop):Prop :=
 match o.guard with
 |none=>st.step tys C N ops o K
 |some (j,want)=>match(ops[j]?).bind (·.dst)with
  |some t=>match kCq want (st.get t)with
   |some false=>kAq N o.dst=true∧K (st.put o.dst (.cond false (kGw tys o)))
   |some true=>st.kFw tys C N o K
   |none=>False
  |none=>False
def St.k1q (tys:List (Nat×TyD)) (C:List (FuncId×Ctr)) (N:Nat) (ops:Array Oper):List Oper→St→(St→Prop)→Prop
 | [],st,K=>K st
 |o::l,st,K=>st.kWg tys C N ops o fun st'=>St.k1q tys C N ops l st' K
section
variable {P:Program}{tys:List (Nat×TyD)}{C:List (FuncId×Ctr)}{N:Nat}{X0:Nat→Prop}{M:Nat→BV→Prop}{w0:World}{st:St}{β:Nat→BV}{a:Act}{w:World}
theorem k72 (hA:Ap P X0 M w0) (hty:∀T d,lk T tys=some d→kAs P T d) (hC:COk P C) (h:Sim N X0 M w0 st β a w) {ops:Array Oper}{o:Oper}{K:St→Prop}(hw:st.kWg tys C N ops o K) {Q:Exit→Act→World→Prop} :
  if Region.wanted o (yielded ops a.tmps)then o.wp P a w (Ok N X0 M w0 K) Q else Ok N X0 M w0 K (a.put o.dst undef) w:=by
 unfold St.kWg at hw
 cases hg:o.guard with
 |none=>rw[hg]at hw;exact kCu hA hty hC h hw
 |some gw =>
  obtain⟨j,want⟩:=gw;rw[hg]at hw;simp only at hw;split at hw
  case h_2=>exact hw.elim
  case h_1 _ t ht =>
   split at hw
   case h_3=>exact hw.elim
   case h_2 _ hc =>
    have hwt:=kWf h hg ht hc;rw[hwt,if_pos rfl];exact kZa hA hty hC h hw
   case h_1 _ hc =>
    have hwt:=kWf h hg ht hc;rw[hwt,if_neg zs];obtain⟨hd,hK⟩:=hw
    cases hdd:o.dst with
    |none=>rw[hdd]at hK;exact⟨_,β,hK,h⟩
    |some d=>rw[hdd]at hK hd;exact⟨_,β,hK,h.put (by simpa[kAq]using hd) (.cond (fun hh=>by cases hh) fun _=>rfl)⟩
theorem kTf (hA:Ap P X0 M w0) (hty:∀T d,lk T tys=some d→kAs P T d) (hC:COk P C) {ops:Array Oper}{K:St→Prop}{Q:Exit→Act→World→Prop}(hQ:∀a w,Ok N X0 M w0 K a w→Q .normal a w) :
  ∀(l:List Oper) {st:St}{β:Nat→BV}{a:Act}{w:World},Sim N X0 M w0 st β a w→St.k1q tys C N ops l st K→wpList P ops Q l a w
 | [],st,β,a,w,h,hw=>hQ a w ⟨st,β,hw,h⟩
 |o::l,st,β,a,w,h,hw=>by
  have h1:=k72 (Q:=Q) hA hty hC h hw;unfold wpList;split
  ·rename_i hwt;rw[if_pos hwt]at h1;exact .inl (Oper.wp_mono (fun a' w' ⟨st',β',h2,h3⟩=>kTf hA hty hC hQ l h3 h2) h1)
  ·rename_i hwt;rw[if_neg hwt]at h1;obtain⟨st',β',h2,h3⟩:=h1;exact kTf hA hty hC hQ l h3 h2
end
section
variable {c:Cx}{N:Nat}{X0:Nat→Prop}{M:Nat→BV→Prop}{w0:World}{st:St}{K:Exit→St→Prop}
theorem WP.kUu {id:Nat}{l:List Oper}(h:St.k1q c.tys c.C N l.toArray l st (K .normal)):WP c N X0 M w0 (.region id l.toArray false) st K:=fun hA β a w hs =>
 wp_region_lit (kTf hA c.hty c.hC (fun a w hk=>hk) l hs h)
end
end Go.Vc
namespace Go.Proofs.YtjdklcjoeanimaaGreat
attribute [local irreducible] Go.Vc.WP
section
open Go.Vc Tryz
section
attribute [local go_sem] kDd
end
section
attribute [local go_sem] kDd
end
section
attribute [local go_sem] kDd
end
theorem qH9 {a b:Symbol}(h0:a.name=b.name) (h1:a.start=b.start) (h2:a.size=b.size):a=b:=by cases a;cases b;simp_all
def kKy (v:Int):Symbol:=⟨markT (v),v+1,v+1+1⟩
def kBa (k:Int) (n:Nat):List Symbol:=(List.range n).map fun i:Nat=>kKy (k+3*(i:Int))
theorem kCn (k:Int) (n:Nat):(kBa k n).length=n:=by simp[kBa]
def kEi (L:List Symbol) (k0:Int) (k:Nat):List Symbol:=kBa k0 k++L.drop k
theorem k4f (L:List Symbol) (k0:Int) (k:Nat) (h:k≤L.length):(kEi L k0 k).length=L.length:=by simp[kEi,kCn];omega
theorem k4g (L:List Symbol) (k0:Int) (k:Nat) (h:k<L.length):((kEi L k0 k).map encSymbol).set k (encSymbol (kKy (k0+3*(k:Int))))=(kEi L k0 (k+1)).map encSymbol:=by
 rw[←vDv];congr 1;unfold kEi;rw[vO3,if_neg (by simp[kCn]),kCn,vDu,wL4 h,jXr]
 simp[kBa,wDe]
def k2b:=kc kM6 kn
@[go_sem] def k8j:Ctr:=len [0] [] (fun args obs=>(kEt (oR obs 1000000),aI args 1,oE obs 1000000)) (fun x=>[.own 1000000,vi x.2.1]) (fun x=>[(1000000,.sl x.2.2 3 (x.1.map encSymbol))]) (fun x=>x.1.length≤4398046511104∧0≤x.2.1∧x.2.1≤500000000000000)
 (fun _ x=>vi (x.2.1+3*x.1.length)) (fun _ _=>[]) (fun x=>[(1000000,.sl x.2.2 3 ((kBa x.2.1 x.1.length).map encSymbol))])
theorem kWk:Cq 128 k8j:=by
 refine zn fun d x hd hx=>?_
 obtain⟨L,k0,ee⟩:=x;obtain⟨hL,h0,h1⟩:=hx;simp only at hL h0 h1⊢;refine zl k2b func128 rfl rfl ntmps128 ?_;intros;refine zy trivial ?_;refine zL (fun k:Nat=>⟨[(0,.own 1000000),(1,vi ((k0+3*(k:Int)))),(5,vi k)],[(1000000,.sl ee 3 ((kEi L k0 k).map encSymbol))]⟩) (fun k=>k≤L.length) (fun k=>L.length-k) 0 zo ?_ ?_
 ·have e:kEi L k0 0=L:=by simp[kEi,kBa]
  rw[e];(simp only[go_sem]<;>(first|(and_intros<;>rfl)|simp))
 intro k hk;have h2:=k4f L k0 k hk;by_cases hlt:k<L.length
 ·have h3:=k4g L k0 k hlt;rw[encSymbol,kKy]at h3;simp only at h3;have h4:=kAa encSymbol (kEi L k0 k) k zo;have h5:∀r:List SV,Go.Vc.rowAt (((kEi L k0 k).map encSymbol).set k r) k=r:=fun r=>rowAt_set _ _ _ (by rw[jH5];omega)
  (repeat' (first|apply zS|apply zB|(apply zW;simp only[go_sem,h2,h3,h4,h5,encSymbol,List.set_set,jP9])|apply jAi|exact zc0|intro _))
  refine⟨k+1,zo,zo,⟨?_,rfl⟩,rfl⟩;rw[show k0+3*(k:Int)+1+1+1=k0+3*((k+1:Nat):Int)by omega]
 ·have h5:kEi L k0 k=kBa k0 L.length:=by rw[show k=L.length by omega];simp[kEi]
  have h6:=kCn k0 L.length
  (repeat' (first|apply zS|apply zB|(apply zW;simp only[go_sem,h2,h5,h6])|apply jAi|exact zc0|intro _))
  all_goals rw[show k=L.length by omega]
@[go_sem] def k8k:Ctr:=pur (fun args=>(kEt (aR args 0),aI args 1)) (fun x=>[.sl 3 (x.1.map encSymbol),vi x.2]) (fun x=>x.1.length≤4398046511104∧0≤x.2∧x.2≤500000000000000)
 (fun _ x=>vi (if x.1=kBa x.2 x.1.length then x.2+3*x.1.length else -1)) (fun _ _=>[])
theorem k8l:Cq 245 k8k:=by
 refine zp fun d x hx=>?_
 obtain⟨L,k0⟩:=x;obtain⟨hL,h0,h1⟩:=hx;simp only at hL h0 h1⊢;refine zg k2b func245 rfl rfl ntmps245 ?_;intros;refine zy1 8 trivial ?_;refine zM (fun k:Nat=>⟨[(0,.sl 3 (L.map encSymbol)),(1,vi ((k0+3*(k:Int)))),(5,vi k)],[]⟩) (fun k=>k≤L.length∧L.take k=kBa k0 k) (fun k=>L.length-k) 0 (by simp[kBa]) ?_
 intro k ⟨hk,ht⟩;by_cases hlt:k<L.length
 ·have h3:=kAa encSymbol L k hlt
  (repeat' (first|apply zS|apply zB|((first|apply zW| refine zd 8 ?_);simp only[go_sem,h3,encSymbol])|apply jAi|exact zc0|intro _))
  ·rename_i hne;rw[if_neg];intro e;have e2:L[k]=(kBa k0 L.length)[k]'(by rw[kCn];exact hlt):=by congr 1
   exact hne (by rw[e2];simp[kBa,kKy])
  ·rename_i hne;rw[if_neg];intro e;have e2:L[k]=(kBa k0 L.length)[k]'(by rw[kCn];exact hlt):=by congr 1
   exact hne (by rw[e2];simp[kBa,kKy])
  ·rename_i hne;rw[if_neg];intro e;have e2:L[k]=(kBa k0 L.length)[k]'(by rw[kCn];exact hlt):=by congr 1
   exact hne (by rw[e2];simp[kBa,kKy])
  ·rename_i g0 g1 g2;refine⟨k+1,⟨zo,?_⟩,zo,?_,rfl⟩
   ·have he:L[k]=kKy (k0+3*(k:Int)):=qH9 g0 g1 g2;rw[jQw hlt,ht,he];simp[kBa,wDe]
   ·rw[show k0+3*(k:Int)+1+1+1=k0+3*((k+1:Nat):Int)by omega]
 ·refine zy1 8 trivial ?_;rw[show k=L.length by omega,jJ3]at ht
  rw[if_pos ht,show k=L.length by omega]
end
section
open Go.Vc Tryz
@[go_sem] def k18E:Ctr:=len [0] [] (fun args obs=>(kBs (oR obs 1000000),aI args 1,oE obs 1000000)) (fun x=>[.own 1000000,vi x.2.1]) (fun x=>[(1000000,.sl x.2.2 1 (x.1.map encI))]) (fun x=>x.1.length≤4398046511104∧0≤x.2.1∧x.2.1≤500000000000000)
 (fun _ x=>vi (x.2.1+x.1.length)) (fun _ _=>[]) (fun x=>[(1000000,.sl x.2.2 1 ((kBv x.2.1 x.1.length).map encI))])
theorem c18E:Cq 127 k18E:=by
 refine zn fun d x hd h=>?_
 obtain⟨L,k0,ee⟩:=x;obtain⟨hL,h0,h1⟩:=h;simp only at hL h0 h1⊢;refine zl cx0 func127 rfl rfl ntmps127 ?_;intros;refine zy trivial ?_;refine zL (fun k:Nat=>⟨[(0,.own 1000000),(1,vi (k0+k)),(5,vi k)],[(1000000,.sl ee 1 ((kIk L k0 k).map encI))]⟩) (fun k=>k≤L.length) (fun k=>L.length-k) 0 zo ?_ ?_
 ·have e:kIk L k0 0=L:=by simp[kIk,kBv]
  rw[e];simp only[go_sem];simp
 intro k hk;have h2:=k55 L k0 k hk;by_cases hlt:k<L.length
 ·have h3:=k56 L k0 k hlt;rw[encI]at h3;have h4:=kAa encI (kIk L k0 k) k zo;refine zy (z4 h2 h3 h4 encI.eq_1) ?_;refine⟨k+1,zo,zo,⟨?_,rfl⟩,rfl⟩;rw[show k0+(k:Int)+1=k0+((k+1:Nat):Int)by omega]
 ·have h5:kIk L k0 k=kBv k0 L.length:=by rw[show k=L.length by omega];simp[kIk]
  have h6:=kCh k0 L.length;refine zy (z3 h2 h5 h6) ?_;rw[show k=L.length by omega]
end
section
open Go.Vc Tryz
@[go_sem] def k8b:Ctr:=len [0] [] (fun args obs=>(kF5 (oR obs 1000000),aI args 1,oE obs 1000000)) (fun x=>[.own 1000000,vi x.2.1]) (fun x=>[(1000000,.sl x.2.2 5 (x.1.map encInline))]) (fun x=>x.1.length≤4398046511104∧0≤x.2.1∧x.2.1≤500000000000000)
 (fun _ x=>vi (x.2.1+5*x.1.length)) (fun _ _=>[]) (fun x=>[(1000000,.sl x.2.2 5 ((kHe x.2.1 x.1.length).map encInline))])
theorem k8c:Cq 131 k8b:=by
 refine zn fun d x hd hx=>?_
 obtain⟨L,k0,ee⟩:=x;obtain⟨hL,h0,h1⟩:=hx;simp only at hL h0 h1⊢;refine zl qEr func131 rfl rfl ntmps131 ?_;intros;refine zy trivial ?_;refine zL (fun k:Nat=>⟨[(0,.own 1000000),(1,vi ((k0+5*(k:Int)))),(5,vi k)],[(1000000,.sl ee 5 ((kEh L k0 k).map encInline))]⟩) (fun k=>k≤L.length) (fun k=>L.length-k) 0 zo ?_ ?_
 ·have e:kEh L k0 0=L:=by simp[kEh,kHe]
  rw[e];(simp only[go_sem]<;>(first|(and_intros<;>rfl)|simp))
 intro k hk;have h2:=k4c L k0 k hk;by_cases hlt:k<L.length
 ·have h3:=k4d L k0 k hlt;rw[encInline,kWj]at h3;simp only at h3;have h4:=kAa encInline (kEh L k0 k) k zo;have h5:∀r:List SV,Go.Vc.rowAt (((kEh L k0 k).map encInline).set k r) k=r:=fun r=>rowAt_set _ _ _ (by rw[jH5];omega)
  (repeat' (first|apply zS|apply zB|(apply zW;simp only[go_sem,h2,h3,h4,h5,encInline,List.set_set,jP9])|apply jAi|exact zc0|intro _))
  refine⟨k+1,zo,zo,⟨?_,rfl⟩,rfl⟩;rw[show k0+5*(k:Int)+1+1+1+1+1=k0+5*((k+1:Nat):Int)by omega]
 ·have h5:kEh L k0 k=kHe k0 L.length:=by rw[show k=L.length by omega];simp[kEh]
  have h6:=kKi k0 L.length
  (repeat' (first|apply zS|apply zB|(apply zW;simp only[go_sem,h2,h5,h6])|apply jAi|exact zc0|intro _))
  all_goals rw[show k=L.length by omega]
end
section
open Go.Vc Tryz
@[go_sem] def qEy:Ctr:=len [0] [] (fun args obs=>(kH8 (oR obs 1000000),aI args 1,oE obs 1000000)) (fun x=>[.own 1000000,vi x.2.1]) (fun x=>[(1000000,.sl x.2.2 4 (x.1.map encRule))]) (fun x=>x.1.length≤4398046511104∧0≤x.2.1∧x.2.1≤500000000000000)
 (fun _ x=>vi (x.2.1+4*x.1.length)) (fun _ _=>[]) (fun x=>[(1000000,.sl x.2.2 4 ((kJm x.2.1 x.1.length).map encRule))])
theorem qEz:Cq 129 qEy:=by
 refine zn fun d x hd hx=>?_
 obtain⟨L,k0,ee⟩:=x;obtain⟨hL,h0,h1⟩:=hx;simp only at hL h0 h1⊢;refine zl qLs func129 rfl rfl ntmps129 ?_;intros;refine zy trivial ?_;refine zL (fun k:Nat=>⟨[(0,.own 1000000),(1,vi ((k0+4*(k:Int)))),(5,vi k)],[(1000000,.sl ee 4 ((kGp L k0 k).map encRule))]⟩) (fun k=>k≤L.length) (fun k=>L.length-k) 0 zo ?_ ?_
 ·have e:kGp L k0 0=L:=by simp[kGp,kJm]
  rw[e];(simp only[go_sem]<;>(first|(and_intros<;>rfl)|simp))
 intro k hk;have h2:=k8h L k0 k hk;by_cases hlt:k<L.length
 ·have h3:=k8i L k0 k hlt;rw[encRule,k4e]at h3;simp only at h3;have h4:=kAa encRule (kGp L k0 k) k zo;have h5:∀r:List SV,Go.Vc.rowAt (((kGp L k0 k).map encRule).set k r) k=r:=fun r=>rowAt_set _ _ _ (by rw[jH5];omega)
  (repeat' (first|apply zS|apply zB|(apply zW;simp only[go_sem,h2,h3,h4,h5,encRule,List.set_set,jP9])|apply jAi|exact zc0|intro _))
  refine⟨k+1,zo,zo,⟨?_,rfl⟩,rfl⟩;rw[show k0+4*(k:Int)+1+1+1+1=k0+4*((k+1:Nat):Int)by omega]
 ·have h5:kGp L k0 k=kJm k0 L.length:=by rw[show k=L.length by omega];simp[kGp]
  have h6:=kL2 k0 L.length
  (repeat' (first|apply zS|apply zB|(apply zW;simp only[go_sem,h2,h5,h6])|apply jAi|exact zc0|intro _))
  all_goals rw[show k=L.length by omega]
end
section
open Go.Vc Tryz
@[go_sem] def qH1:Ctr:=len [0] [] (fun args obs=>(kKv (oR obs 1000000),aI args 1,oE obs 1000000)) (fun x=>[.own 1000000,vi x.2.1]) (fun x=>[(1000000,.sl x.2.2 3 (x.1.map encRow))]) (fun x=>x.1.length≤4398046511104∧0≤x.2.1∧x.2.1≤500000000000000)
 (fun _ x=>vi (x.2.1+3*x.1.length)) (fun _ _=>[]) (fun x=>[(1000000,.sl x.2.2 3 ((kKw x.2.1 x.1.length).map encRow))])
theorem qH2:Cq 130 qH1:=by
 refine zn fun d x hd hx=>?_
 obtain⟨L,k0,ee⟩:=x;obtain⟨hL,h0,h1⟩:=hx;simp only at hL h0 h1⊢;refine zl qNx func130 rfl rfl ntmps130 ?_;intros;refine zy trivial ?_;refine zL (fun k:Nat=>⟨[(0,.own 1000000),(1,vi ((k0+3*(k:Int)))),(5,vi k)],[(1000000,.sl ee 3 ((kH7 L k0 k).map encRow))]⟩) (fun k=>k≤L.length) (fun k=>L.length-k) 0 zo ?_ ?_
 ·have e:kH7 L k0 0=L:=by simp[kH7,kKw]
  rw[e];(simp only[go_sem]<;>(first|(and_intros<;>rfl)|simp))
 intro k hk;have h2:=qBf L k0 k hk;by_cases hlt:k<L.length
 ·have h3:=qBg L k0 k hlt;rw[encRow,k8g]at h3;simp only at h3;have h4:=kAa encRow (kH7 L k0 k) k zo;have h5:∀r:List SV,Go.Vc.rowAt (((kH7 L k0 k).map encRow).set k r) k=r:=fun r=>rowAt_set _ _ _ (by rw[jH5];omega)
  (repeat' (first|apply zS|apply zB|(apply zW;simp only[go_sem,h2,h3,h4,h5,encRow,List.set_set,jP9])|apply jAi|exact zc0|intro _))
  refine⟨k+1,zo,zo,⟨?_,rfl⟩,rfl⟩;rw[show k0+3*(k:Int)+1+1+1=k0+3*((k+1:Nat):Int)by omega]
 ·have h5:kH7 L k0 k=kKw k0 L.length:=by rw[show k=L.length by omega];simp[kH7]
  have h6:=kM7 k0 L.length
  (repeat' (first|apply zS|apply zB|(apply zW;simp only[go_sem,h2,h5,h6])|apply jAi|exact zc0|intro _))
  all_goals rw[show k=L.length by omega]
end
section
open Go.Vc Tryz
attribute [local go_sem] kVh
@[go_sem] def qMx:Ctr:=len [0] [] (fun args obs=>(kH6 (oR obs 1000000),aI args 1)) (fun x=>[.agg [.own 1000000],vi x.2]) (fun x=>[(1000000,.sl 231 3 (x.1.map kAc))]) (fun x=>x.1.length≤4398046511104∧0≤x.2∧x.2≤100000000000000)
 (fun _ x=>vi (x.2+3*x.1.length)) (fun _ _=>[]) (fun x=>[(1000000,.sl 231 3 ((kA7 x.2 x.1.length).map kAc))])
section
def qPb:=kc qEt kn
theorem qMy:Cq 134 qMx:=by
 refine zn fun d x hd hx=>?_
 obtain⟨L,k0⟩:=x;obtain⟨hL,h0,h1⟩:=hx;simp only at hL h0 h1⊢;refine zl qPb func134 rfl rfl ntmps134 ?_;intros;exact zx trivial
end
@[go_sem] def qMz:Ctr:=pur (fun args=>(k0v args 0,aI args 1)) (fun x=>[.agg [.sl 3 (x.1.map kAc)],vi x.2]) (fun x=>x.1.length≤4398046511104∧0≤x.2∧x.2≤100000000000000)
 (fun _ x=>vi (if x.1=kA7 x.2 x.1.length then x.2+3*x.1.length else -1)) (fun _ _=>[])
section
def qPc:=kc qEv kn
theorem qM0:Cq 138 qMz:=by
 refine zp fun d x hx=>?_
 obtain⟨L,k0⟩:=x;obtain⟨hL,h0,h1⟩:=hx;simp only at hL h0 h1⊢;refine zg qPc func138 rfl rfl ntmps138 ?_;intros
 (repeat' (first|apply zS|apply zB|(apply zW;simp only[go_sem])|apply jAi|exact zc0|intro _))
 ·rename_i h;by_cases he:L=kA7 k0 L.length
  ·rw[if_pos he]at h;omega
  ·rw[if_neg he]
end
end
section
open Go.Vc Tryz
attribute [local go_sem] kVh
@[go_sem] def qPr:Ctr:=pur (fun args=>(repA args 0,repA args 1)) (fun x=>[.agg [.sl 3 (x.1.N.map kAc),.sl 1 (x.1.C.map encI),vi x.1.kept,vi x.1.skip],.agg [.sl 3 (x.2.N.map kAc),.sl 1 (x.2.C.map encI),vi x.2.kept,vi x.2.skip]]) (fun x=>x.1.N.length≤4398046511104∧x.1.C.length≤4398046511104)
 (fun _ x=>.v (.bool (decide (x.1=x.2)))) (fun _ _=>[])
section
def qM3:=kc ceqPr kn
theorem qPg:Cq 14 qPr:=by
 refine zp fun d x hx=>?_
 obtain⟨⟨N,C,k1,s1⟩,⟨M,D,k2,s2⟩⟩:=x;simp only at hx⊢;refine zg qM3 func14 rfl rfl ntmps14 ?_;intros
 (repeat' (first|apply zS|apply zB|(apply zW;simp only[go_sem])|apply jAi|intro _))
 all_goals first|omega|simp_all|skip
end
@[go_sem] def qM4:Ctr:=len [0] [] (fun args obs=>((kH6 (oR obs 1000000),kBs (oR obs 1000001)),aI args 1)) (fun x=>[.agg [.own 1000000,.own 1000001],vi x.2])
 (fun x=>[(1000000,.sl 231 3 (x.1.1.map kAc)),(1000001,.sl 3 1 (x.1.2.map encI))]) (fun x=>x.1.1.length≤4398046511104∧x.1.2.length≤4398046511104∧0≤x.2∧x.2≤75000000000000)
 (fun _ x=>vi (x.2+3*x.1.1.length+x.1.2.length)) (fun _ _=>[]) (fun x=>[(1000000,.sl 231 3 ((kA7 x.2 x.1.1.length).map kAc)),(1000001,.sl 3 1 ((kBv (x.2+3*x.1.1.length) x.1.2.length).map encI))])
section
def qPs:=kc qMy (kc c18 kn)
theorem qM5:Cq 62 qM4:=by
 refine zn fun d x hd hx=>?_
 obtain⟨⟨N,C⟩,k0⟩:=x;obtain⟨hN,hC,h0,h1⟩:=hx;simp only at hN hC h0 h1⊢;refine zl qPs func62 rfl rfl ntmps62 ?_;intros;exact zx trivial
end
@[go_sem] def qM6:Ctr:=pur (fun args=>(prA args 0,aI args 1)) (fun x=>[.agg [.sl 3 (x.1.1.map kAc),.sl 1 (x.1.2.map encI)],vi x.2]) (fun x=>x.1.1.length≤4398046511104∧x.1.2.length≤4398046511104∧0≤x.2∧x.2≤75000000000000)
 (fun _ x=>vi ((if x.1.1=kA7 x.2 x.1.1.length∧x.1.2=kBv (x.2+3*x.1.1.length) x.1.2.length then x.2+3*x.1.1.length+x.1.2.length else -1))) (fun _ _=>[])
section
def qPt:=kc qM0 (kc c19 kn)
theorem qM7:Cq 65 qM6:=by
 refine zp fun d x hx=>?_
 obtain⟨⟨N,C⟩,k0⟩:=x;obtain⟨hN,hC,h0,h1⟩:=hx;simp only at hN hC h0 h1⊢;refine zg qPt func65 rfl rfl ntmps65 ?_;intros;by_cases he:N=kA7 k0 N.length
 ·by_cases hf:C=kBv (k0+3*N.length) C.length
  ·(repeat' (first|apply zS|apply zB|(apply zW;simp only[go_sem,if_pos he,if_pos hf])|apply jAi|exact zc0|intro _))
   all_goals rw[if_pos ⟨he,hf⟩]
  ·(repeat' (first|apply zS|apply zB|(apply zW;simp only[go_sem,if_pos he,if_neg hf])|apply jAi|exact zc0|intro _))
   all_goals rw[if_neg fun h=>hf h.2]
 ·(repeat' (first|apply zS|apply zB|(apply zW;simp only[go_sem,if_neg he])|apply jAi|exact zc0|intro _))
  all_goals rw[if_neg fun h=>he h.1]
end
def eRp (k:Int) (x:Rep):Int:=k+3*x.N.length+x.C.length
def kK8 (k:Int) (x:Rep):Rep:=⟨kA7 k x.N.length,kBv (k+3*x.N.length) x.C.length,x.kept,x.skip⟩
def kRi (x:Rep):Prop:=x.N.length≤4398046511104∧x.C.length≤4398046511104
def rpI (args:List SV):Int×Int:=match(args[0]?:Option SV)with
 |some (.agg [_,_,.v (.int _ k),.v (.int _ s)])=>(k,s)
 | _=>(0,0)
@[go_sem] def qPu:Ctr:=len [0] [] (fun args obs=>(((⟨kH6 (oR obs 1000000),kBs (oR obs 1000001),(rpI args).1,(rpI args).2⟩:Rep)),aI args 1)) (fun x=>[.agg [.own 1000000,.own 1000001,vi x.1.kept,vi x.1.skip],vi x.2])
 (fun x=>[(1000000,.sl 231 3 (x.1.N.map kAc)),(1000001,.sl 3 1 (x.1.C.map encI))]) (fun x=>kRi x.1∧0≤x.2∧x.2≤75000000000000)
 (fun _ x=>vi (eRp x.2 x.1)) (fun _ _=>[]) (fun x=>[(1000000,.sl 231 3 ((kK8 x.2 x.1).N.map kAc)),(1000001,.sl 3 1 ((kK8 x.2 x.1).C.map encI))])
section
attribute [local go_sem] eRp kK8 rpI
def cxMkRp:=kc qM5 kn
theorem qPi:Cq 18 qPu:=by
 refine zn fun d x hd hx=>?_
 obtain⟨⟨N,C,kp,sk⟩,k0⟩:=x;obtain⟨⟨hN,hC⟩,h0,h1⟩:=hx;simp only at hN hC h0 h1⊢;refine zl cxMkRp func18 rfl rfl ntmps18 ?_;intros;exact zx trivial
end
@[go_sem] def qPv:Ctr:=pur (fun args=>(repA args 0,aI args 1)) (fun x=>[.agg [.sl 3 (x.1.N.map kAc),.sl 1 (x.1.C.map encI),vi x.1.kept,vi x.1.skip],vi x.2]) (fun x=>kRi x.1∧(0≤x.2∧x.2≤75000000000000)∧kK8 x.2 x.1=x.1)
 (fun _ x=>vi (eRp x.2 x.1)) (fun _ _=>[])
section
attribute [local go_sem] eRp
def cxHeRp:=kc qM7 kn
theorem qPk:Cq 20 qPv:=by
 refine zp fun d x hx=>?_
 obtain⟨⟨N,C,kp,sk⟩,k0⟩:=x;obtain⟨⟨hN,hC⟩,⟨h0,h1⟩,hm⟩:=hx;simp only at hN hC h0 h1⊢;have e1:kA7 k0 N.length=N:=(Rep.mk.inj hm).1;have e2:kBv (k0+3*(N.length:Int)) C.length=C:=(Rep.mk.inj hm).2.1;refine zg cxHeRp func20 rfl rfl ntmps20 ?_;intros
 (repeat' (first|apply zS|apply zB|(apply zW;simp only[go_sem,if_pos (jAi e1.symm e2.symm)])|apply jAi|exact zc0|intro _))
end
theorem qJ0 (k:Int) (x:Rep):kK8 k (kK8 k x)=kK8 k x:=by simp[kK8,kDn,kCh]
theorem eRp_mk (k:Int) (x:Rep):eRp k (kK8 k x)=eRp k x:=by simp[eRp,kK8,kDn,kCh]
theorem qPn {x:Rep}(h:kRi x) (k:Int):kRi (kK8 k x):=⟨by simpa[kK8,kDn]using h.1,by simpa[kK8,kCh]using h.2⟩
end
end Go.Proofs.YtjdklcjoeanimaaGreat
