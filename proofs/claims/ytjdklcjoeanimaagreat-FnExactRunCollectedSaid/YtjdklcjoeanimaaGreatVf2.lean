/- DERIVED. Steps of the proof. -/
import Derived.Test.YtjdklcjoeanimaaGreatVf1
set_option linter.all false
set_option maxHeartbeats 1000000
set_option maxRecDepth 10000
namespace Go.Vc
section
def SV.kBr (ρ:List (Nat×Nat)):SV→SV
 | .own k=>match lk k ρ with
  |some j=>.own j
  |none=>.kAh
 | .ptr k s a b=>match lk k ρ with
  |some j=>.ptr j s a b
  |none=>.kAh
 | .agg _=>.kAh
 | .tup _=>.kAh
 | .fn _ _=>.kAh
 | .cond _ _=>.kAh
 |x=>x
def pairs (b:Nat):List Nat→List (Nat×Nat)
 | []=>[]
 |i::l=>(i,b)::pairs (b+1) l
def kB5 (ρ:List (Nat×Nat)):List (Nat×Nat):=ρ.map fun p=>(p.2,p.1)
def kHu:SV→List Nat
 | .ptr id _ _ _=>[id]
 | _=>[]
def kId:SV→List Nat
 | .own id=>[id]
 | _=>[]
def St.kFg (st:St) (id:Nat):List Nat:=match lk id st.hp with
 |some (.box _ cs)=>cs.flatMap kHu
 | _=>[]
def St.kE5 (st:St) (id:Nat):List Nat:=match lk id st.hp with
 |some (.box _ cs)=>cs.flatMap kId
 | _=>[]
def St.kHt (st:St):SV→List Nat
 | .own id=>[id]
 | .ptr id _ _ _=>id::(match lk id st.hp with
  |some (.box _ cs)=>cs.flatMap SV.kBn++(cs.flatMap kHu).flatMap st.kE5
  | _=>[])
 | _=>[]
def St.kIc (st:St):SV→List Nat
 | .agg cs=>cs.flatMap st.kHt
 |x=>st.kHt x
def kJp (A:List SV) (i:Nat):SV:=(A[i]?).getD .kAh
def kEa (st:St) (A:List SV) (is:List Nat):List Nat:=is.flatMap fun i=>st.kIc (kJp A i)
def kCl (hp:List (Nat×Ob)) (ρ:List (Nat×Nat)) (is:List Nat):Nat→List SV→List SV
 | _,[]=>[]
 |k,y::l=>(if is.contains k then y.up (SV.kBr ρ)else y.share hp)::kCl hp ρ is (k+1) l
def kCg (is:List Nat):Nat→List SV→List SV
 | _,[]=>[]
 |k,y::l=>if is.contains k then kCg is (k+1) l else y::kCg is (k+1) l
def kEn (hp:List (Nat×Ob)) (ρ:List (Nat×Nat)):List (Nat×Ob):=ρ.map fun p=>(p.2,((lk p.1 hp).getD (.sl 0 0 [])).up (SV.kBr ρ))
def erL {α:Type}(ids:List Nat) (l:List (Nat×α)):List (Nat×α):=match ids with
 | []=>l
 |i::is=>er i (erL is l)
def kFe (ρl:List (Nat×Nat)) (kAb:List (Nat×Ob)):List (Nat×Nat):=kAb.map (fun q=>(q.1,q.1))++kB5 ρl
def kCm (τ:List (Nat×Nat)) (obs:List (Nat×Ob)):List (Nat×Ob):=obs.map fun p=>((lk p.1 τ).getD p.1,p.2.up (SV.kBr τ))
def St.kJq (st:St) (ρl:List (Nat×Nat)) (moved:List Nat) (d:Option Nat) (res:SV) (kAb kept:List (Nat×Ob)):St :=
 St.put { fr:=(st.kAl (moved++kAb.map (·.1))).fr,hp:=kCm (kFe ρl kAb) (kAb++kept)++erL ((kCm (kFe ρl kAb) (kAb++kept)).map (·.1)) (st.kAl (moved++kAb.map (·.1))).hp } d (res.up (SV.kBr (kFe ρl kAb)))
def St.kHs (dd:Nat) (C:List (FuncId×Ctr)) (o:Oper) (st:St) (K:St→Prop):Prop :=
 match o.op with
 | .call c=>match c.callee with
  | .value x=>match st.ev x with
   | .fn f caps=>match lk f C with
    |some ctr=>match st.kAi c caps,kEa st (st.kAi c caps) ctr.kBq,kEa st (st.kAi c caps) ctr.move with
     |A,Ll,Lm=>match pairs 1000000 Ll++pairs 900000 Lm with
      | ρ=>match ctr.wri dd (kCl st.hp ρ (ctr.kBq++ctr.move) 0 A) (kEn st.hp ρ)with
       | (ob,res,kAb,kept)=>ob∧(∀y∈c.args.toList,(st.ev y).need)∧((kCg (ctr.kBq++ctr.move) 0 A).all fun y=>(y.share st.hp).good)=true ∧
        kAz (Ll++Lm)=true∧((Ll++Lm).all fun i=>(lk i st.hp).isSome)=true∧(((kCg (ctr.kBq++ctr.move) 0 A).flatMap SV.owns).all fun i=>!(Ll++Lm).contains i&&(lk i st.hp).isSome)=true∧Lm.length≤100000 ∧
        (Lm.all fun i=>decide (i<1000000))=true∧((kAb.map (·.1)).all fun i=>decide (i<900000)&&!Ll.contains i)=true∧kAz (kAb.map (·.1))=true∧(kept.map (·.1)=(pairs 1000000 Ll).map (·.2)) ∧
        (((kCg (ctr.kBq++ctr.move) 0 A).flatMap SV.owns)=[]∨(res.kE0=true∧∀p∈kAb++kept,p.2.isV)) ∧
        K (st.kJq (pairs 1000000 Ll) Lm o.dst res kAb kept)
    |none=>False
   | _=>False
  | _=>False
 | _=>False
@[go_sem] def St.k1j (ll lm:St→List SV→Ctr→List Nat) (dd:Nat) (C:List (FuncId×Ctr)) (o:Oper) (st:St) (K:St→Prop):Prop :=
 match o.op with
 | .call c=>match c.callee with
  | .value x=>match st.ev x with
   | .fn f caps=>match lk f C with
    |some ctr=>match st.kAi c caps,ll st (st.kAi c caps) ctr,lm st (st.kAi c caps) ctr with
     |A,Ll,Lm=>match pairs 1000000 Ll++pairs 900000 Lm with
      | ρ=>match ctr.wri dd (kCl st.hp ρ (ctr.kBq++ctr.move) 0 A) (kEn st.hp ρ)with
       | (ob,res,kAb,kept)=>ob∧(∀y∈c.args.toList,(st.ev y).need)∧((kCg (ctr.kBq++ctr.move) 0 A).all fun y=>(y.share st.hp).good)=true ∧
        kAz (Ll++Lm)=true∧((Ll++Lm).all fun i=>(lk i st.hp).isSome)=true∧(((kCg (ctr.kBq++ctr.move) 0 A).flatMap SV.owns).all fun i=>!(Ll++Lm).contains i&&(lk i st.hp).isSome)=true∧Lm.length≤100000 ∧
        (Lm.all fun i=>decide (i<1000000))=true∧((kAb.map (·.1)).all fun i=>decide (i<900000)&&!Ll.contains i)=true∧kAz (kAb.map (·.1))=true∧(kept.map (·.1)=(pairs 1000000 Ll).map (·.2)) ∧
        (((kCg (ctr.kBq++ctr.move) 0 A).flatMap SV.owns)=[]∨(res.kE0=true∧∀p∈kAb++kept,p.2.isV)) ∧
        K (st.kJq (pairs 1000000 Ll) Lm o.dst res kAb kept)
    |none=>False
   | _=>False
  | _=>False
 | _=>False
section
variable {P:Program}{tys:List (Nat×TyD)}{N:Nat}{X0:Nat→Prop}{M:Nat→BV→Prop}{w0:World}{st:St}{β:Nat→BV}{a:Act}{w:World}
theorem R.kBr {X:Nat→Prop}{β':Nat→BV}{ρ:List (Nat×Nat)}(hβ:∀i j,lk i ρ=some j→β' j=β i) {x:SV}{v:Value}(h:R w X β x v):R w X β' (x.kBr ρ) v:=by
 cases x with
 |own k =>
  have:=h.kB9;subst this;show R w X β' (match lk k ρ with|some j=>SV.own j|none=>.kAh) _
  cases hk:lk k ρ with
  |none=>exact .kAh _
  |some j=>simp only;rw[←hβ k j hk];exact .own j
 |ptr k s a b =>
  obtain⟨bb,hb,rfl⟩:=h.kEr;show R w X β' (match lk k ρ with|some j=>SV.ptr j s a b|none=>.kAh) _
  cases hk:lk k ρ with
  |none=>exact .kAh _
  |some j=>exact .ptr j s a b bb (by rw[hβ k j hk];exact hb)
 |v x=>have:=h.kAn;subst this;exact .p (.v _)
 |sl s rows=>exact .p h.kF4
 |kB6 s rows i k=>obtain⟨b,off,cap,hr,rfl⟩:=h.kMa;exact .kB6 s rows i k b off cap hr
 |agg cs=>exact .kAh _
 |tup cs=>exact .kAh _
 |fn f cs=>exact .kAh _
 |cond g x=>exact .kAh _
 |kAh=>exact .kAh _
theorem kRd:∀{L:List Nat}{b i j:Nat},lk i (pairs b L)=some j→i∈L∧b≤j∧j<b+L.length
 |k::L,b,i,j,h=>by
  simp only[pairs,lk]at h;by_cases hi:i=k
  ·rw[if_pos hi]at h;cases h;simp[hi]
  ·rw[if_neg hi]at h;obtain⟨h1,h2,h3⟩:=kRd h;simp only[jDr,jGk];exact⟨.inr h1,zo,zo⟩
theorem kV9:∀{L:List Nat}{b i:Nat},i∈L→∃j,lk i (pairs b L)=some j
 |k::L,b,i,h=>by
  simp only[pairs,lk];by_cases hi:i=k
  ·exact⟨b,by rw[if_pos hi]⟩
  ·rw[if_neg hi];exact kV9 (by simpa[hi]using h)
theorem kLd:∀(L:List Nat) (b:Nat),(pairs b L).map (·.1)=L
 | [],_=>rfl
 |k::L,b=>by simp[pairs,kLd L (b+1)]
theorem kQb:∀{L:List Nat}{b j:Nat},j∈(pairs b L).map (·.2)→b≤j∧j<b+L.length
 |k::L,b,j,h=>by
  simp only[pairs,jHi,jDr]at h;rcases h with rfl|h
  ·simp
  ·have:=kQb h;simp only[jGk];omega
theorem kLv:∀(L:List Nat) (b:Nat),((pairs b L).map (·.2)).Nodup
 | [],_=>by simp[pairs]
 |k::L,b=>by
  simp only[pairs,jHi,vSb];exact⟨fun h=>by have:=kQb h;omega,kLv L (b+1)⟩
theorem kG3:∀{L:List Nat},kAz L=true↔L.Nodup
 | []=>by simp[kAz]
 |d::l=>by simp[kAz,vSb,kG3 (L:=l)]
theorem kE6 {α:Type}{t:Nat}{x:α}:∀{l:List (Nat×α)},(l.map (·.1)).Nodup→(t,x)∈l→lk t l=some x
 | (u,y)::l,hn,h=>by
  simp only[jHi,vSb]at hn;simp only[lk];rcases jDr.1 h with e|h
  ·cases e;rw[if_pos rfl]
  ·have:t≠u:=fun e=>hn.1 (by rw[←e];exact jCr.2 ⟨(t,x),h,rfl⟩)
   rw[if_neg this];exact kE6 hn.2 h
structure Ren (ρ:List (Nat×Nat)) (L:List Nat):Prop where
 keys:ρ.map (·.1)=L
 nd:L.Nodup
 vals:(ρ.map (·.2)).Nodup
theorem Ren.of {Ll Lm:List Nat}(h:(Ll++Lm).Nodup) (hm:Lm.length≤100000):Ren (pairs 1000000 Ll++pairs 900000 Lm) (Ll++Lm) where
 keys:=by rw[jNq,kLd,kLd]
 nd:=h
 vals:=by
  rw[jNq,yEw];exact⟨kLv _ _,kLv _ _,fun x hx y hy e=>by have:=kQb hx;have:=kQb hy;omega⟩
theorem Ren.swap {ρ:List (Nat×Nat)}{L:List Nat}(h:Ren ρ L) {i j:Nat}:lk i ρ=some j↔lk j (kB5 ρ)=some i:=by
 have e1:(kB5 ρ).map (·.1)=ρ.map (·.2):=by simp[kB5,jRw,yLu]
 constructor
 ·intro hh;refine kE6 (by rw[e1];exact h.vals) ?_
  exact jCr.2 ⟨(i,j),kBf hh,rfl⟩
 ·intro hh;have hm:=kBf hh;obtain⟨p,hp,e⟩:=jCr.1 hm;cases e;exact kE6 (by rw[h.keys];exact h.nd) hp
theorem qB6 {hp:List (Nat×Ob)}{ρ0:List (Nat×Nat)}:∀{ρ:List (Nat×Nat)}{k:Nat}{ob:Ob},lk k (ρ.map fun p=>(p.2,((lk p.1 hp).getD (.sl 0 0 [])).up (SV.kBr ρ0)))=some ob →
  ∃i,lk k (kB5 ρ)=some i∧ob=((lk i hp).getD (.sl 0 0 [])).up (SV.kBr ρ0)
 | (i,j)::ρ,k,ob,h=>by
  simp only[jHi,lk]at h;by_cases hk:k=j
  ·rw[if_pos hk]at h;cases h;exact⟨i,by simp[kB5,lk,hk],rfl⟩
  ·rw[if_neg hk]at h;obtain⟨i',h1,h2⟩:=qB6 h;exact⟨i',by simp only[kB5,jHi,lk,if_neg hk];exact h1,h2⟩
theorem k7u {hp:List (Nat×Ob)}{ρ0:List (Nat×Nat)}:∀{ρ:List (Nat×Nat)}{k i:Nat},lk k (kB5 ρ)=some i →
  lk k (ρ.map fun p=>(p.2,((lk p.1 hp).getD (.sl 0 0 [])).up (SV.kBr ρ0)))=some (((lk i hp).getD (.sl 0 0 [])).up (SV.kBr ρ0))
 | (i0,j0)::ρ,k,i,h=>by
  simp only[kB5,jHi,lk]at h⊢;by_cases hk:k=j0
  ·rw[if_pos hk]at h⊢;cases h;rfl
  ·rw[if_neg hk]at h⊢;exact k7u h
theorem k46 {hp:List (Nat×Ob)}{ρ:List (Nat×Nat)}{is:List Nat}:∀{A:List SV}{k i:Nat}{q:SV},(kCl hp ρ is k A)[i]? = some q →
  ∃y,A[i]? = some y∧((is.contains (k+i)=true∧q=y.up (SV.kBr ρ))∨(is.contains (k+i)=false∧q=y.share hp∧y∈kCg is k A))
 |y::A,k,0,q,h=>by
  simp only[kCl,wPa,jBf]at h;refine⟨y,rfl,?_⟩;by_cases hc:is.contains k=true
  ·rw[if_pos hc]at h;exact .inl ⟨by simpa using hc,h.symm⟩
  ·rw[if_neg hc]at h;exact .inr ⟨by simpa using hc,h.symm,by simp only[kCg];rw[if_neg hc];exact jYt⟩
 |y::A,k,i+1,q,h=>by
  simp only[kCl,wHj]at h;obtain⟨y',h1,h2⟩:=k46 h;refine⟨y',by simpa using h1,?_⟩
  have e:k+1+i=k+(i+1):=zo;rw[e]at h2;rcases h2 with h2|⟨h2,h3,h4⟩
  ·exact .inl h2
  ·refine .inr ⟨h2,h3,?_⟩;simp only[kCg];split
   ·exact h4
   ·exact jZr _ h4
theorem k47 {hp:List (Nat×Ob)}{ρ:List (Nat×Nat)}{is:List Nat}:∀{A:List SV}{k:Nat},(kCl hp ρ is k A).length=A.length
 | [],_=>rfl
 |y::A,k=>by simp[kCl,k47 (A:=A)]
theorem qHh {α:Type}{t:Nat}:∀{ids:List Nat}{l:List (Nat×α)}{x:α},lk t (erL ids l)=some x→t∉ids∧lk t l=some x
 | [],l,x,h=>⟨zs,h⟩
 |i::is,l,x,h=>by
  simp only[erL]at h;have hti:t≠i:=fun e=>by subst e;rw[kCt]at h;cases h
  rw[kAt hti]at h;obtain⟨h1,h2⟩:=qHh h;exact⟨by simp[hti,h1],h2⟩
theorem k7v {τ:List (Nat×Nat)}:∀{l:List (Nat×Ob)}{t:Nat}{ob:Ob},lk t (l.map fun p=>((lk p.1 τ).getD p.1,p.2.up (SV.kBr τ)))=some ob →
  ∃k o,(k,o)∈l∧t=(lk k τ).getD k∧ob=o.up (SV.kBr τ)
 | (k,o)::l,t,ob,h=>by
  simp only[jHi,lk]at h;by_cases ht:t=(lk k τ).getD k
  ·rw[if_pos ht]at h;cases h;exact⟨k,o,jYt,ht,rfl⟩
  ·rw[if_neg ht]at h;obtain⟨k',o',h1,h2,h3⟩:=k7v h;exact⟨k',o',jZr _ h1,h2,h3⟩
theorem kZ6 {β2:Nat→BV}{t:Nat}:∀{ids:List Nat}{β:Nat→BV}{x:SV},(∀i,i∉ids→(β2 i).val=(β i).val)→lk t (st.kAl ids).fr=some x→∃y,lk t st.fr=some y∧∀(w:World) (X:Nat→Prop) (v:Value),R w X β y v→R w X β2 x v
 | [],β,x,hβ,h=>⟨x,h,fun w X v hR=>hR.val_eq fun i=>hβ i zs⟩
 |d::l,β,x,hβ,h=>by
  simp only[St.kAl,St.kill,kCp]at h
  cases hy:lk t (st.kAl l).fr with
  |none=>rw[hy]at h;cases h
  |some x' =>
   rw[hy]at h;have hx:x'.kill d=x:=by simpa using h
   obtain⟨y,h1,h2⟩:=kZ6 (β2:=fun i=>if i∈l then β2 i else β i) (β:=β) (fun i hi=>by simp[hi]) hy
   refine⟨y,h1,fun w X v hR=>?_⟩
   rw[←hx];refine(h2 w X v hR).kill fun i hi=>?_
   by_cases hl:i∈l
   ·simp[hl]
   ·simp only[hl,if_false];exact hβ i (by simp[hi,hl])
theorem kZ7 {β2:Nat→BV}{t:Nat}:∀{ids:List Nat}{β:Nat→BV}{o:Ob},(∀i,i∉ids→(β2 i).val=(β i).val)→lk t (st.kAl ids).hp=some o→t∉ids∧∃o0,lk t st.hp=some o0∧∀(w:World) (X:Nat→Prop) (v:BV),ObR w X β v o0→ObR w X β2 v o
 | [],β,o,hβ,h=>⟨zs,o,h,fun w X v hR=>hR.val_eq fun i=>hβ i zs⟩
 |d::l,β,o,hβ,h=>by
  simp only[St.kAl,St.kill,kCp]at h;by_cases hd:t=d
  ·subst hd;rw[kCt]at h;cases h
  ·rw[kAt hd]at h
   cases hy:lk t (st.kAl l).hp with
   |none=>rw[hy]at h;cases h
   |some o' =>
    rw[hy]at h;have hx:o'.kill d=o:=by simpa using h
    obtain⟨h0,o0,h1,h2⟩:=kZ7 (β2:=fun i=>if i∈l then β2 i else β i) (β:=β) (fun i hi=>by simp[hi]) hy
    refine⟨by simp[hd,h0],o0,h1,fun w X v hR=>?_⟩
    rw[←hx];refine(h2 w X v hR).kill fun i hi=>?_
    by_cases hl:i∈l
    ·simp[hl]
    ·simp only[hl,if_false];exact hβ i (by simp[hi,hl])
theorem kWa {ll lm:St→List SV→Ctr→List Nat}{C:List (FuncId×Ctr)}{E:Ending→Value→Prop}(hCall:∀f c,lk f C=some c→kMd P f) (hA:Ap P X0 M w0) (h:Sim N X0 M w0 st β a w) {o:Oper}(hN:∀d,o.dst=some d→d<N) {K:St→Prop}{dd:Nat}
  (hw:st.k1j ll lm dd C o K)
  (hHE:∀c x f caps ctr,o.op=.call c→c.callee=.value x→st.ev x=.fn f caps→lk f C=some ctr →
   (ctr.wri dd (kCl st.hp (pairs 1000000 (ll st (st.kAi c caps) ctr)++pairs 900000 (lm st (st.kAi c caps) ctr)) (ctr.kBq++ctr.move) 0 (st.kAi c caps)) (kEn st.hp (pairs 1000000 (ll st (st.kAi c caps) ctr)++pairs 900000 (lm st (st.kAi c caps) ctr)))).1 →
   kV3 E P f (kCl st.hp (pairs 1000000 (ll st (st.kAi c caps) ctr)++pairs 900000 (lm st (st.kAi c caps) ctr)) (ctr.kBq++ctr.move) 0 (st.kAi c caps)) (kEn st.hp (pairs 1000000 (ll st (st.kAi c caps) ctr)++pairs 900000 (lm st (st.kAi c caps) ctr)))
    (ctr.wri dd (kCl st.hp (pairs 1000000 (ll st (st.kAi c caps) ctr)++pairs 900000 (lm st (st.kAi c caps) ctr)) (ctr.kBq++ctr.move) 0 (st.kAi c caps)) (kEn st.hp (pairs 1000000 (ll st (st.kAi c caps) ctr)++pairs 900000 (lm st (st.kAi c caps) ctr)))).2.1
    (ctr.wri dd (kCl st.hp (pairs 1000000 (ll st (st.kAi c caps) ctr)++pairs 900000 (lm st (st.kAi c caps) ctr)) (ctr.kBq++ctr.move) 0 (st.kAi c caps)) (kEn st.hp (pairs 1000000 (ll st (st.kAi c caps) ctr)++pairs 900000 (lm st (st.kAi c caps) ctr)))).2.2.1
    (ctr.wri dd (kCl st.hp (pairs 1000000 (ll st (st.kAi c caps) ctr)++pairs 900000 (lm st (st.kAi c caps) ctr)) (ctr.kBq++ctr.move) 0 (st.kAi c caps)) (kEn st.hp (pairs 1000000 (ll st (st.kAi c caps) ctr)++pairs 900000 (lm st (st.kAi c caps) ctr)))).2.2.2) :
  ∃f us,(execOp a.eval o).run P w=.ok (.enter f us) w∧Calls P f us w fun e w'=>∃v,E e v∧Ok N X0 M w0 K (a.put o.dst v) w':=by
 unfold St.k1j at hw;split at hw
 case h_2=>exact hw.elim
 case h_1 _ c ho =>
 split at hw
 case h_2=>exact hw.elim
 case h_1 _ x hcal =>
 split at hw
 case h_2=>exact hw.elim
 case h_1 _ f caps hf =>
 split at hw
 case h_2=>exact hw.elim
 case h_1 _ ctr kMe =>
 have hH:=hHE c x f caps ctr ho hcal hf kMe;generalize ctr.wri=W at hw hH;simp only at hw;obtain⟨us,hfv,hul,hcap⟩:=(hf▸St.kC1 h x:R w _ β (.fn f caps) (a.eval x)).kTr;have hrun:=k7m (hCall f ctr kMe) ho hcal hfv w
 have hneed0:(∀y∈c.args.toList,(st.ev y).need):=by
  have hw2:=hw;generalize W dd _ _=q at hw2;obtain⟨q1,q2,q3,q4⟩:=q;exact hw2.2.1
 have hargs:=qBy h hneed0 hul hcap;have hAlen:(st.kAi c caps).length=(c.args.toList.map a.eval++us).length:=by simp[St.kAi,hul]
 generalize st.kAi c caps=A at hw hH hargs hAlen;generalize ll st A ctr=Ll at hw hH;generalize lm st A ctr=Lm at hw hH;generalize ctr.kBq++ctr.move=is at hw hH;generalize hρ:pairs 1000000 Ll++pairs 900000 Lm=ρ at hw hH;generalize W dd (kCl st.hp ρ is 0 A) (kEn st.hp ρ)=q at hw hH;obtain⟨ob,res,kAb,kept⟩:=q;simp only at hw hH;obtain⟨hc,k62,hgood,hnd,hlive,hdis,hmlen,hmlow,hrlow,hrnd,hkeys,hbor,hK⟩:=hw;generalize hsh:(kCg is 0 A).flatMap SV.owns=sh at hdis hbor;have kWb:Ren ρ (Ll++Lm):=hρ▸Ren.of (kG3.1 hnd) hmlen;have kUn:∀i,i∈Ll++Lm→∃o,lk i st.hp=some o:=fun i hi=>vXz.1 (jDl.1 hlive i hi)
 have hρL:∀{i j},lk i ρ=some j→i∈Ll++Lm:=fun{i j} hh=>by rw[←kWb.keys];exact jCr.2 ⟨(i,j),kBf hh,rfl⟩
 let βh:Nat→BV:=fun k=>match lk k (kB5 ρ)with
  |some i=>β i
  |none=>kEm
 have hβh1:∀{k i},lk k (kB5 ρ)=some i→βh k=β i:=fun{k i} hh=>by show(match lk k (kB5 ρ)with|some i=>β i|none=>_)=_;rw[hh]
 have hβh:∀i j,lk i ρ=some j→βh j=β i:=fun i j hh=>hβh1 (kWb.swap.1 hh)
 have hβone:∀i,(βh i).val.oneCell'=true:=fun i=>by
  show(match lk i (kB5 ρ)with|some i=>β i|none=>kEm).val.oneCell'=true
  cases lk i (kB5 ρ)with
  |none=>rfl
  |some j=>exact h.beta j
 have kUo:∀{k ob},lk k (kEn st.hp ρ)=some ob→∃i o,lk k (kB5 ρ)=some i∧lk i ρ=some k∧i∈Ll++Lm∧lk i st.hp=some o∧ob=o.up (SV.kBr ρ)∧βh k=β i:=fun{k ob} hh=>by
  obtain⟨i,h1,h2⟩:=qB6 hh;have h3:=kWb.swap.2 h1;obtain⟨o,h4⟩:=kUn i (hρL h3);exact⟨i,o,h1,h3,hρL h3,h4,by rw[h2,h4];rfl,hβh1 h1⟩
 have hobs1:∀{i},i∈Ll++Lm→∃k ob,lk i ρ=some k∧lk k (kB5 ρ)=some i∧lk k (kEn st.hp ρ)=some ob∧βh k=β i:=fun{i} hi=>by
  obtain⟨k,hk⟩:∃k,lk i ρ=some k:=kT0 (by rw[kWb.keys];exact hi)
  exact⟨k,_,hk,kWb.swap.1 hk,k7u (kWb.swap.1 hk),hβh i k hk⟩
 let Xh:Nat→Prop:=fun b=>XX X0 β st.hp b∧(∀id∈sh,¬(β id).ft b)∧∀id∈Ll++Lm,¬(β id).ft b
 have k63:∀b,XX Xh βh (kEn st.hp ρ) b→XX X0 β st.hp b∧∀id∈sh,¬(β id).ft b:=fun b hb=>by
  rcases hb with hb|⟨k,ob,hk,hb⟩
  ·exact⟨hb.1,hb.2.1⟩
  ·obtain⟨i,o,_,_,hiL,hi,_,e⟩:=kUo hk;rw[e]at hb;refine⟨.inr ⟨i,o,hi,hb⟩,fun id hid he=>?_⟩
   have:=jDl.1 hdis id hid;simp only[jBs,jUs,vXz]at this;obtain⟨h1,o2,h2⟩:=this;have:=h.inj id i o2 o b h2 hi he hb;subst this;simp at h1;simp at hiL;rcases hiL with e|e
   ·exact h1.1 e
   ·exact h1.2 e
 have hS:Same (XX X0 β st.hp) w w:=⟨jDu _,fun _ _ _=>rfl⟩
 have hSb:Same (Bor (XX X0 β st.hp) β sh) w w:=⟨jDu _,fun _ _ _=>rfl⟩
 have k7n:∀(i:Nat) (q:SV) (u:Value),(kCl st.hp ρ is 0 A)[i]? = some q→(c.args.toList.map a.eval++us)[i]? = some u→R w (XX Xh βh (kEn st.hp ρ)) βh q u:=fun i q u hq hu=>by
  obtain⟨y,hy,hcase⟩:=k46 hq;rcases hcase with⟨_,rfl⟩|⟨_,rfl,hmem⟩
  ·exact((hargs i y u hy hu).mono hS (fun b _ hb=>(k63 b hb).1)).up fun x v hh=>hh.kBr hβh
  ·have h1:=R.share h (hargs i y u hy hu) (ids:=sh) (fun id hid=>by rw[←hsh];exact vOq.2 ⟨y,hmem,hid⟩) (jDl.1 hgood y hmem) βh
   exact h1.mono hSb (fun b _ hb=>⟨(k63 b hb).1,(k63 b hb).2⟩)
 have hObs:Obs w Xh βh (kEn st.hp ρ):=by
  refine⟨fun k ob hk=>?_,fun k1 k2 o1 o2 b hk1 hk2 hb1 hb2=>?_⟩
  ·obtain⟨i,o,_,_,_,hi,rfl,e⟩:=kUo hk;rw[e];exact((h.objs i o hi).mono hS (fun b _ hb=>(k63 b hb).1) (fun _ _=>rfl)).up (fun x v hh=>hh.kBr hβh) (fun _ _ hh=>hh)
  ·obtain⟨i1,p1,s1,r1,_,q1,_,e1⟩:=kUo hk1;obtain⟨i2,p2,s2,r2,_,q2,_,e2⟩:=kUo hk2;rw[e1]at hb1;rw[e2]at hb2;have:=h.inj i1 i2 p1 p2 b q1 q2 hb1 hb2;subst this;rw[r1]at r2;cases r2;rfl
 have kM2:=hH hc w Xh βh (c.args.toList.map a.eval++us) (hA.now h) hβone (fun b hb=>h.live hb.1) (by rw[k47];exact hAlen.symm) k7n hObs (fun k ob b hk hb=>by
  obtain⟨i,o,_,_,hiL,hi,_,e⟩:=kUo hk;rw[e]at hb;exact⟨fun hx=>hx.2.2 i hiL hb,hA.own h hi hb⟩)
 refine⟨f,_,hrun,kM2.mono fun en w' hp=>?_⟩
 obtain⟨v,β',hE,hos,htape,hout,hsz,k7w,hβ',hpin,hRv,⟨hobs',hinj'⟩,hnew⟩:=hp
 have qD6:∀{b},(∃k ob,lk k (kEn st.hp ρ)=some ob∧(βh k).ft b)→∃i∈Ll++Lm,(β i).ft b:=fun{b} hh=>by
  obtain⟨k,ob,hk,hb⟩:=hh;obtain⟨i,o,_,_,hiL,_,_,e⟩:=kUo hk;exact⟨i,hiL,by rw[←e];exact hb⟩
 generalize hτ:kFe (pairs 1000000 Ll) kAb=τ at hK
 let β2:Nat→BV:=fun i=>if i∈kAb.map (·.1)then β' i else match lk i (pairs 1000000 Ll)with|some k=>β' k|none=>β i
 have qD7:∀{i},i∈kAb.map (·.1)→β2 i=β' i:=fun{i} hi=>by show(if i∈kAb.map (·.1)then β' i else match lk i (pairs 1000000 Ll)with|some k=>β' k|none=>β i)=_;rw[if_pos hi]
 have hβ2l:∀{i k},i∉kAb.map (·.1)→lk i (pairs 1000000 Ll)=some k→β2 i=β' k:=fun{i k} hi hk=>by
  show(if i∈kAb.map (·.1)then β' i else match lk i (pairs 1000000 Ll)with|some k=>β' k|none=>β i)=_
  rw[if_neg hi,hk]
 have qHi:∀{i},i∉kAb.map (·.1)→i∉Ll→β2 i=β i:=fun{i} hi hL=>by
  show(if i∈kAb.map (·.1)then β' i else match lk i (pairs 1000000 Ll)with|some k=>β' k|none=>β i)=_
  rw[if_neg hi,kOs (by rw[kLd];exact hL)]
 have k7x:∀{i},i∉kAb.map (·.1)→(β2 i).val=(β i).val:=fun{i} hi=>by
  by_cases hL:i∈Ll
  ·obtain⟨k,hk⟩:=kV9 (b:=1000000) hL;have h3:lk i ρ=some k:=by rw[←hρ,kC5,hk];rfl
   obtain⟨k2,ob2,g1,g2,g3,g4⟩:=hobs1 (hρL h3);rw[h3]at g1;cases g1;rw[hβ2l hi hk,hpin k ob2 (kRd hk).2.1 g3,g4]
  ·rw[qHi hi hL]
 have kWc:∀{i},i∈kAb.map (·.1)→i<900000∧i∉Ll:=fun{i} hi=>by
  have:=jDl.1 hrlow i hi;simpa using this
 have qB7:∀{k},k∈kept.map (·.1)→∃i,i∈Ll∧lk i (pairs 1000000 Ll)=some k∧lk i ρ=some k∧1000000≤k:=fun{k} hk=>by
  rw[hkeys]at hk;obtain⟨⟨i,k'⟩,hp,rfl⟩:=jCr.1 hk;have hnd1:((pairs 1000000 Ll).map (·.1)).Nodup:=by rw[kLd];exact(yEw.1 (kG3.1 hnd)).1
  have h1:=kE6 hnd1 hp;have h2:=kRd h1;exact⟨i,h2.1,h1,by rw[←hρ,kC5,h1];rfl,h2.2.1⟩
 have hkn:(((kAb++kept).map (·.1))).Nodup:=by
  rw[jNq,yEw];refine⟨kG3.1 hrnd,by rw[hkeys];exact kLv _ _,fun x hx y hy e=>?_⟩
  obtain⟨i,_,_,_,h4⟩:=qB7 hy;have:=(kWc hx).1;omega
 have hSwl:∀{k i},lk i (pairs 1000000 Ll)=some k→lk k (kB5 (pairs 1000000 Ll))=some i:=fun{k i} hh=>by
  refine kE6 ?_ (jCr.2 ⟨(i,k),kBf hh,rfl⟩);have:(kB5 (pairs 1000000 Ll)).map (·.1)=(pairs 1000000 Ll).map (·.2):=by simp[kB5,jRw,yLu]
  rw[this];exact kLv _ _
 have hτin:∀{k},k∈kAb.map (·.1)→lk k τ=some k:=fun{k} hk=>by
  rw[←hτ,kFe,kC5]
  have:lk k (kAb.map fun q=>(q.1,q.1))=some k:=kE6 (by simpa[jRw,yLu]using kG3.1 hrnd) (by
   obtain⟨p,hp,rfl⟩:=jCr.1 hk;exact jCr.2 ⟨p,hp,rfl⟩)
  rw[this];rfl
 have k64:∀{k},k∉kAb.map (·.1)→lk k τ=lk k (kB5 (pairs 1000000 Ll)):=fun{k} hk=>by
  rw[←hτ,kFe,kC5,kOs (by simpa[jRw,yLu]using hk)];rfl
 have hback:∀k i,lk k τ=some i→β2 i=β' k:=fun k i hk=>by
  by_cases hr:k∈kAb.map (·.1)
  ·rw[hτin hr]at hk;cases hk;exact qD7 hr
  ·rw[k64 hr]at hk;have hm:=kBf hk;obtain⟨⟨i',k'⟩,hp,e⟩:=jCr.1 hm;cases e;have hnd1:((pairs 1000000 Ll).map (·.1)).Nodup:=by rw[kLd];exact(yEw.1 (kG3.1 hnd)).1
   have h1:=kE6 hnd1 hp;have h2:=kRd h1;exact hβ2l (fun hin=>(kWc hin).2 h2.1) h1
 have hone2:∀i,(β2 i).val.oneCell'=true:=fun i=>by
  by_cases hi:i∈kAb.map (·.1)
  ·rw[qD7 hi];exact hβ' i
  ·rw[k7x hi];exact h.beta i
 have qHj:∀i,i∉Lm++kAb.map (·.1)→(β2 i).val=(β i).val:=fun i hi=>k7x fun hin=>hi (jTf.2 (.inr hin))
 have kT3:∀{t ob},lk t (kCm τ (kAb++kept)++erL ((kCm τ (kAb++kept)).map (·.1)) (st.kAl (Lm++kAb.map (·.1))).hp)=some ob →
   (∃k o,lk k (kAb++kept)=some o∧ob=o.up (SV.kBr τ)∧β2 t=β' k∧((k∈kAb.map (·.1)∧t=k∧lk k kAb=some o)∨(k∈kept.map (·.1)∧t∈Ll∧lk t ρ=some k∧1000000≤k))) ∨
   (t∉Ll++Lm∧t∉kAb.map (·.1)∧β2 t=β t∧∃o0,lk t st.hp=some o0∧∀(w:World) (X:Nat→Prop) (v:BV),ObR w X β v o0→ObR w X β2 v ob):=fun{t ob} hh=>by
  rw[kC5]at hh
  cases hq:lk t (kCm τ (kAb++kept))with
  |some y =>
   rw[hq]at hh;cases hh;left;obtain⟨k,o,hm,ht,hob⟩:=k7v hq;have hlk:=kE6 hkn hm;rcases jTf.1 hm with hm1|hm1
   ·have hk:k∈kAb.map (·.1):=jCr.2 ⟨(k,o),hm1,rfl⟩
    rw[hτin hk]at ht;have ht:t=k:=ht;exact⟨k,o,hlk,hob,by rw[ht];exact qD7 hk,.inl ⟨hk,ht,kE6 (kG3.1 hrnd) hm1⟩⟩
   ·have hk:k∈kept.map (·.1):=jCr.2 ⟨(k,o),hm1,rfl⟩
    obtain⟨i,hiL,h1,h2,h3⟩:=qB7 hk;have hkr:k∉kAb.map (·.1):=fun hin=>by have:=(kWc hin).1;omega
    rw[k64 hkr,hSwl h1]at ht;have ht:t=i:=ht;have hti:t∉kAb.map (·.1):=fun hin=>(kWc hin).2 (ht▸hiL)
    exact⟨k,o,hlk,hob,hback k t (by rw[k64 hkr,hSwl h1,ht]),.inr ⟨hk,ht▸hiL,ht▸h2,h3⟩⟩
  |none =>
   rw[hq]at hh;right;obtain⟨h1,h2⟩:=qHh hh;obtain⟨h3,o0,h4,h5⟩:=kZ7 qHj h2;have h6:t∉kAb.map (·.1):=fun hin=>h3 (jTf.2 (.inr hin))
   have h7:t∉Ll:=fun hin=>h1 (by
    obtain⟨k,hk⟩:=kV9 (b:=1000000) hin;have hkk:k∈kept.map (·.1):=by rw[hkeys];exact jCr.2 ⟨(t,k),kBf hk,rfl⟩
    have hkr:k∉kAb.map (·.1):=fun hin=>by have:=(kWc hin).1;have:=(kRd hk).2.1;omega
    obtain⟨p,hp,hpk⟩:=jCr.1 hkk;rw[kCm,jRw];refine jCr.2 ⟨p,jTf.2 (.inr hp),?_⟩;show(lk p.1 τ).getD p.1=t
    rw[hpk,k64 hkr,hSwl hk];rfl)
   exact⟨fun hin=>by
    rcases jTf.1 hin with e|e
    ·exact h7 e
    ·exact h3 (jTf.2 (.inl e)),h6,qHi h6 h7,o0,h4,h5⟩
 have hnb:∀{k o b},lk k (kAb++kept)=some o→(β' k).ft b→w.heap.size≤b∨∃i∈Ll++Lm,(β i).ft b:=fun{k o b} hk hb=>by
  rcases hnew k o b hk hb with h1|⟨k2,o2,h1,h3⟩
  ·exact .inl h1
  ·right;obtain⟨i,_,_,g2,g3,_,_,g6⟩:=kUo h1;exact⟨i,g3,by rw[←g6];exact h3⟩
 have hXold:∀b,b<w.heap.size→XX X0 β2 (kCm τ (kAb++kept)++erL ((kCm τ (kAb++kept)).map (·.1)) (st.kAl (Lm++kAb.map (·.1))).hp) b→XX X0 β st.hp b:=fun b hlt hb=>by
  rcases hb with hb|⟨t,ob,ht,hb⟩
  ·exact .inl hb
  ·rcases kT3 ht with⟨k,o,h3,_,e,hcase⟩|⟨_,_,e,o0,h4,_⟩
   ·rw[e]at hb;rcases hnb h3 hb with h5|⟨i,hi,h5⟩
    ·omega
    ·obtain⟨o',ho'⟩:=kUn i hi;exact .inr ⟨i,o',ho',h5⟩
   ·rw[e]at hb;exact .inr ⟨t,o0,h4,hb⟩
 have hLX0:∀i∈Ll++Lm,∀b,(β i).ft b→¬X0 b:=fun i hi b hb hx=>by
  obtain⟨o',ho'⟩:=kUn i hi;obtain⟨g1,g2⟩:=hA.old b hx;rcases h.mine i o' b ho' hb with g3|g3
  ·exact g2 g3
  ·omega
 have hXnew:sh=[]→∀b,XX X0 β2 (kCm τ (kAb++kept)++erL ((kCm τ (kAb++kept)).map (·.1)) (st.kAl (Lm++kAb.map (·.1))).hp) b→XX Xh β' (kAb++kept) b:=fun hse b hb=>by
  rcases hb with hb|⟨t,ob,ht,hb⟩
  ·exact .inl ⟨.inl hb,by simp[hse],fun i hi he=>hLX0 i hi b he hb⟩
  ·rcases kT3 ht with⟨k,o,h1,_,e,_⟩|⟨h1,_,e,o0,h4,_⟩
   ·exact .inr ⟨k,o,h1,by rw[←e];exact hb⟩
   ·rw[e]at hb;refine .inl ⟨.inr ⟨t,o0,h4,hb⟩,by simp[hse],fun i hi he=>?_⟩
    obtain⟨o',ho'⟩:=kUn i hi;have:=h.inj t i o0 o' b h4 ho' hb he;exact h1 (this▸hi)
 have hS':Same (XX X0 β st.hp) w w':=⟨hsz,fun b hlt hn=>k7w b hlt fun hh=>by
  obtain⟨i,hi,hb⟩:=qD6 hh;obtain⟨o',ho'⟩:=kUn i hi;exact hn (.inr ⟨i,o',ho',hb⟩)⟩
 have hSw:∀X:Nat→Prop,Same X w' w':=fun X=>⟨jDu _,fun _ _ _=>rfl⟩
 have kLn:Sim N X0 M w0 { fr:=(st.kAl (Lm++kAb.map (·.1))).fr,hp:=kCm τ (kAb++kept)++erL ((kCm τ (kAb++kept)).map (·.1)) (st.kAl (Lm++kAb.map (·.1))).hp } β2 a w':={
  size:=h.size
  defers:=h.defers
  beta:=hone2
  slots:=fun t x hx=>by
   obtain⟨y,h1,h2⟩:=kZ6 qHj hx;exact h2 _ _ _ ((h.slots t y h1).mono hS' hXold)
  objs:=fun t ob ht=>by
   rcases kT3 ht with⟨k,o,h1,rfl,e,_⟩|⟨h1,h2,e,o0,h4,h5⟩
   ·rw[e];have hO:=hobs' k o h1;rcases hbor with hse|⟨_,hv⟩
    ·exact(hO.mono (hSw _) (fun b _ hb=>hXnew hse b hb) (fun _ _=>rfl)).up (fun x v hh=>hh.kBr hback) (fun _ _ hh=>hh)
    ·exact(hO.isV (hv (k,o) (kBf h1))).up (fun x v hh=>hh.kBr hback) (fun _ _ hh=>hh)
   ·rw[e];refine h5 _ _ _ ((h.objs t o0 h4).mono hS' hXold fun b hb=>k7w b ((h.objs t o0 h4).lt hb) fun hh=>?_)
    obtain⟨i,hi,hbi⟩:=qD6 hh;obtain⟨o',ho'⟩:=kUn i hi;have:=h.inj t i o0 o' b h4 ho' hb hbi;exact h1 (this▸hi)
  inj:=fun t1 t2 o1 o2 b h1 h2 hb1 hb2=>by
   have cross:∀{t1 t2 o1 o2},(∃k o,lk k (kAb++kept)=some o∧o1=Ob.up (SV.kBr τ) o∧β2 t1=β' k∧((k∈kAb.map (·.1)∧t1=k∧lk k kAb=some o)∨(k∈kept.map (·.1)∧t1∈Ll∧lk t1 ρ=some k∧1000000≤k))) →
     (t2∉Ll++Lm∧t2∉kAb.map (·.1)∧β2 t2=β t2∧∃o0,lk t2 st.hp=some o0∧∀(w:World) (X:Nat→Prop) (v:BV),ObR w X β v o0→ObR w X β2 v o2)→(β2 t1).ft b→(β2 t2).ft b→False:=by
    rintro t1 t2 o1 o2 ⟨k,o,h3,_,e,hcase⟩ ⟨g1,_,e2,o0,g4,_⟩ hb1 hb2;rw[e2]at hb2;rw[e]at hb1;rcases hnb h3 hb1 with h5|⟨i,hi,h5⟩
    ·have:=(h.objs t2 o0 g4).lt hb2;omega
    ·obtain⟨o',ho'⟩:=kUn i hi;have:=h.inj i t2 o' o0 b ho' g4 h5 hb2;exact g1 (this▸hi)
   rcases kT3 h1 with f1|f1<;>rcases kT3 h2 with f2|f2
   ·obtain⟨k1,p1,q1,_,e1,c1⟩:=f1;obtain⟨k2,p2,q2,_,e2,c2⟩:=f2;have hk:=hinj' k1 k2 p1 p2 b q1 q2 (by rw[←e1];exact hb1) (by rw[←e2];exact hb2)
    subst hk;rcases c1 with⟨a1,rfl,_⟩|⟨a1,_,a3,a4⟩<;>rcases c2 with⟨b1,rfl,_⟩|⟨b1,_,b3,b4⟩
    ·rfl
    ·have:=(kWc a1).1;omega
    ·have:=(kWc b1).1;omega
    ·have s1:=kWb.swap.1 a3;have s2:=kWb.swap.1 b3;rw[s1]at s2;cases s2;rfl
   ·exact(cross f1 f2 hb1 hb2).elim
   ·exact(cross f2 f1 hb2 hb1).elim
   ·obtain⟨_,_,e1,o3,g3,_⟩:=f1;obtain⟨_,_,e2,o4,g4,_⟩:=f2;exact h.inj t1 t2 o3 o4 b g3 g4 (by rw[←e1];exact hb1) (by rw[←e2];exact hb2)
  x0:=fun b hb=>wMy (h.x0 b hb) hsz
  mine:=fun t ob b ht hb=>by
   rcases kT3 ht with⟨k,o,h3,_,e,hcase⟩|⟨_,_,e,o0,h4,_⟩
   ·rw[e]at hb;rcases hnb h3 hb with h5|⟨i,hi,h5⟩
    ·exact .inr (jZ9 h.grew h5)
    ·obtain⟨o',ho'⟩:=kUn i hi;exact h.mine i o' b ho' h5
   ·rw[e]at hb;exact h.mine t o0 b h4 hb
  pin:=fun id u hm h1=>by rw[k7x (fun hin=>by have:=(kWc hin).1;omega)];exact h.pin id u hm h1
  few:=h.few
  os:=hos.trans h.os
  tape:=htape.trans h.tape
  output:=hout.trans h.output
  grew:=jZ9 h.grew hsz
  kept:=fun b hb0 hM=>by
   rw[k7w b (wMy hb0 h.grew) fun hh=>?_]
   ·exact h.kept b hb0 hM
   ·obtain⟨i,hi,hb⟩:=qD6 hh;obtain⟨o',ho'⟩:=kUn i hi;rcases h.mine i o' b ho' hb with hm|hm
    ·exact hM hm
    ·omega }
 have hRf:R w' (XX X0 β2 (kCm τ (kAb++kept)++erL ((kCm τ (kAb++kept)).map (·.1)) (st.kAl (Lm++kAb.map (·.1))).hp)) β2 (res.up (SV.kBr τ)) v:=by
  rcases hbor with hse|⟨hv,_⟩
  ·exact(hRv.mono (hSw _) (fun b _ hb=>hXnew hse b hb)).up fun x v hh=>hh.kBr hback
  ·exact(hRv.kE0 hv).up fun x v hh=>hh.kBr hback
 have hK':K (St.put { fr:=(st.kAl (Lm++kAb.map (·.1))).fr,hp:=kCm τ (kAb++kept)++erL ((kCm τ (kAb++kept)).map (·.1)) (st.kAl (Lm++kAb.map (·.1))).hp } o.dst (res.up (SV.kBr τ))):=by
  have:=hK;unfold St.kJq at this;rw[hτ]at this;exact this
 cases hd:o.dst with
 |none=>rw[hd]at hK';exact⟨v,hE,_,β2,hK',kLn⟩
 |some d=>rw[hd]at hK';exact⟨v,hE,_,β2,hK',kLn.put (hN d hd) hRf⟩
theorem qHd {C:List (FuncId×Ctr)}(hC:COk P C) (hA:Ap P X0 M w0) (h:Sim N X0 M w0 st β a w) {o:Oper}(hN:∀d,o.dst=some d→d<N) {K:St→Prop}{dd:Nat}
  (hw:st.kHs dd C o K) {Q:Exit→Act→World→Prop}:o.wp P a w (Ok N X0 M w0 K) Q:=by
 obtain⟨f,us,hrun,kM2⟩:=kWa (ll:=fun st A ctr=>kEa st A ctr.kBq) (lm:=fun st A ctr=>kEa st A ctr.move) (E:=fun e v=>e=.returned v) hC.call hA h hN hw (fun c x f caps ctr _ _ _ kMe hc=>hC.kV4 f ctr kMe dd _ _ hc)
 unfold Oper.wp;rw[hrun,Oper.upon_enter];exact kM2.mono fun e w' ⟨v,hE,hok⟩=>by subst hE;exact hok
end
end
section
def kJv (rows:List (List SV)):Prop:=∀row∈rows,∀c∈row,∃x,c=.v x
def kDb (hp:List (Nat×Ob)):List SV→Option (Prop×List SV×List Nat)
 | []=>some (True,[],[])
 | .v x::l=>match kDb hp l with
  |some (p,r,is)=>some (x.oneCell'=true∧p,.v x::r,is)
  |none=>none
 | .own j::l=>match lk j hp with
  |some (.sl _ s rows)=>match kDb hp l with
   |some (p,r,is)=>some (kJv rows∧p,.sl s rows::r,j::is)
   |none=>none
  |some (.dp _ s rows)=>match kDb hp l with
   |some (p,r,is)=>some (p,.sl s rows::r,j::is)
   |none=>none
  | _=>none
 | _=>none
def St.kDq (tys:List (Nat×TyD)) (o:Oper) (st:St):Option (Prop×Ob×List Nat) :=
 match o.op with
 | .buildSlice T 1 parts=>match parts.toList,lk T tys with
  | [(0,x)],some t=>match lk t.elem tys,kDb st.hp (st.ev x).strip.cells with
   |some e,some (p,row,is)=>some (p∧(st.ev x).need∧t.kind=1∧0<e.size∧e.size≤16777216∧e.z.length=e.size∧e.z.all Value.oneCell'=true∧row.length=e.size∧kAz is=true,.dp t.elem e.size [row],is)
   | _,_=>none
  | _,_=>none
 | .call c=>match c.callee with
  | .builtin .append=>match c.args.toList,c.argTypes.toList with
   | [x,y],[T,T']=>match lk T tys,(st.ev x).strip,(st.ev y).strip with
    |some t,.own j,.own i=>match lk t.elem tys,lk j st.hp,lk i st.hp with
     |some e,some (.dp e' s rows),some (.dp _ s2 news)=>some (T=T'∧t.kind=1∧(st.ev x).need∧(st.ev y).need∧0<e.size∧0<e.bytes∧e.z.length=e.size∧i≠j∧e'=t.elem∧s=e.size∧s2=e.size∧(rows.length+news.length)*e.bytes≤140737488355328,.dp e' s (rows++news),[j,i])
     | _,_,_=>none
    | _,_,_=>none
   | _,_=>none
  | _=>none
 | _=>none
section
variable {P:Program}{tys:List (Nat×TyD)}{N:Nat}{X0:Nat→Prop}{M:Nat→BV→Prop}{w0:World}{st:St}{β:Nat→BV}{a:Act}{w:World}
theorem Sim.newD (h:Sim N X0 M w0 st β a w) {d:Nat}(hd:d<N) {gone:List Nat}{w':World}(hos:w'.os=w.os) (htape:w'.tape=w.tape) (hout:w'.output=w.output) (hsz:w.heap.size≤w'.heap.size)
  (hch:∀b,b<w.heap.size→(∀i o,lk i st.hp=some o→¬(β i).ft b)→w'.heap[b]? = w.heap[b]?) (hoth:∀i o b,lk i st.hp=some o→i∉gone→(β i).ft b→w'.heap[b]? = w.heap[b]?)
  {v1:Value}{F:Nat→Prop}(hv1:v1.oneCell'=true) (hF:∀b,F b→(∃g∈gone,∃o,lk g st.hp=some o∧(β g).ft b)∨w.heap.size≤b) {ob:Ob}(hob:∀(X:Nat→Prop) (β':Nat→BV),ObR w' X β' ⟨v1,F⟩ ob) :
  ∃β',Sim N X0 M w0 { fr:=(d,.own d)::er d (st.kAl (d::gone)).fr,hp:=(d,ob)::(st.kAl (d::gone)).hp } β' (a.put (some d) v1) w':=by
 let β2:Nat→BV:=fun q=>if q=d then⟨v1,F⟩else β q
 have hβd:β2 d=⟨v1,F⟩:=if_pos rfl;have hβo:∀q,q≠d→β2 q=β q:=fun q hq=>if_neg hq
 have hβv:∀i,i∉d::gone→(β2 i).val=(β i).val:=fun i hi=>by rw[hβo i (fun e=>hi (by rw[e];exact jYt))]
 have hl:∀(t:Nat) (o:Ob),lk t ((d,ob)::(st.kAl (d::gone)).hp)=some o→(t=d∧o=ob)∨(t≠d∧t∉gone∧∃o0,lk t st.hp=some o0∧∀(w:World) (X:Nat→Prop) (v:BV),ObR w X β v o0→ObR w X β2 v o):=fun t o ht=>by
  simp only[lk]at ht;by_cases e:t=d
  ·rw[if_pos e]at ht;cases ht;exact .inl ⟨e,rfl⟩
  ·rw[if_neg e]at ht;obtain⟨h1,o0,h2,h3⟩:=kZ7 hβv ht;exact .inr ⟨e,fun hm=>h1 (jZr _ hm),o0,h2,h3⟩
 have hlive:∀t o b,lk t ((d,ob)::(st.kAl (d::gone)).hp)=some o→(β2 t).ft b→(∃i o',lk i st.hp=some o'∧(β i).ft b∧(t≠d→i=t)∧(t=d→i∈gone))∨(t=d∧w.heap.size≤b):=fun t o b ht hb=>by
  rcases hl t o ht with⟨rfl,_⟩|⟨n1,n2,o0,q,_⟩
  ·rw[hβd]at hb;rcases hF b hb with⟨g,hg,og,q1,q2⟩|hge
   ·exact .inl ⟨g,og,q1,q2,fun e=>absurd rfl e,fun _=>hg⟩
   ·exact .inr ⟨rfl,hge⟩
  ·rw[hβo t n1]at hb;exact .inl ⟨t,o0,q,hb,fun _=>rfl,fun e=>absurd e n1⟩
 have hX:∀b,b<w.heap.size→XX X0 β2 ((d,ob)::(st.kAl (d::gone)).hp) b→XX X0 β st.hp b:=fun b hlt hb=>by
  rcases hb with hb|⟨t,o,ht,hb⟩
  ·exact .inl hb
  ·rcases hlive t o b ht hb with⟨i,o',q1,q2,_⟩|⟨_,hge⟩
   ·exact .inr ⟨i,o',q1,q2⟩
   ·omega
 have hS:Same (XX X0 β st.hp) w w':=⟨hsz,fun b hlt hn=>hch b hlt fun i o hi hf=>hn (.inr ⟨i,o,hi,hf⟩)⟩
 have hds:d<a.tmps.size:=by rw[h.size];exact hd
 refine⟨β2,?_⟩
 exact{
  size:=by simpa[Act.put]using h.size
  defers:=h.defers
  beta:=fun i=>by
   by_cases hi:i=d
   ·rw[hi,hβd];exact hv1
   ·rw[hβo i hi];exact h.beta i
  slots:=fun t x hx=>by
   simp only[lk]at hx;by_cases ht:t=d
   ·rw[if_pos ht]at hx;cases hx;subst ht;rw[kVw hds];have h0:=R.own (w:=w') (X:=XX X0 β2 ((t,ob)::(st.kAl (t::gone)).hp)) (β:=β2) t;rw[hβd]at h0;exact h0
   ·rw[if_neg ht,kAt ht]at hx;rw[kS7 ht];obtain⟨y,h1,h2⟩:=kZ6 hβv hx;exact h2 _ _ _ ((h.slots t y h1).mono hS hX)
  objs:=fun t o ht=>by
   rcases hl t o ht with⟨rfl,rfl⟩|⟨n1,n2,o0,q,h3⟩
   ·rw[hβd];exact hob _ _
   ·rw[hβo t n1];exact h3 _ _ _ ((h.objs t o0 q).mono hS hX fun b hb=>hoth t o0 b q n2 hb)
  inj:=fun p q op oq b hp hq hbp hbq=>by
   rcases hlive p op b hp hbp with⟨i1,o1,q1,q2,q3,q4⟩|⟨e1,g1⟩<;>rcases hlive q oq b hq hbq with⟨i2,o2,r1,r2,r3,r4⟩|⟨e2,g2⟩
   ·have hi:=h.inj i1 i2 o1 o2 b q1 r1 q2 r2;subst hi;by_cases p1:p=d<;>by_cases p2:q=d
    ·rw[p1,p2]
    ·exfalso;rcases hl q oq hq with⟨e,_⟩|⟨_,n2,_⟩
     ·exact p2 e
     ·have:=r3 p2;exact n2 (this▸q4 p1)
    ·exfalso;rcases hl p op hp with⟨e,_⟩|⟨_,n2,_⟩
     ·exact p1 e
     ·have:=q3 p1;exact n2 (this▸r4 p2)
    ·exact(q3 p1).symm.trans (r3 p2)
   ·have:=(h.objs i1 o1 q1).lt q2;omega
   ·have:=(h.objs i2 o2 r1).lt r2;omega
   ·rw[e1,e2]
  x0:=fun b hb=>wMy (h.x0 b hb) hsz
  mine:=fun t o b ht hb=>by
   rcases hlive t o b ht hb with⟨i,o',q1,q2,_⟩|⟨_,hge⟩
   ·exact h.mine i o' b q1 q2
   ·exact .inr (jZ9 h.grew hge)
  pin:=fun id u hm h1=>by rw[hβo id (by have:=h.few;omega)];exact h.pin id u hm h1
  few:=h.few
  os:=hos.trans h.os
  tape:=htape.trans h.tape
  output:=hout.trans h.output
  grew:=jZ9 h.grew hsz
  kept:=fun b hb0 hM=>by
   rw[hch b (wMy hb0 h.grew) fun i o hi hf=>?_]
   ·exact h.kept b hb0 hM
   ·rcases h.mine i o b hi hf with hm|hm
    ·exact hM hm
    ·omega }
theorem kUp:∀{cs:List SV}{p:Prop}{row:List SV}{is:List Nat},kDb st.hp cs=some (p,row,is)→row.length=cs.length∧is=cs.flatMap SV.kBn
 | [],p,row,is,h=>by simp only[kDb,jBf,jCx]at h;obtain⟨_,rfl,rfl⟩:=h;exact⟨rfl,rfl⟩
 | .v x::l,p,row,is,h=>by
  simp only[kDb]at h;split at h
  ·rename_i p' r' is' h';simp only[jBf,jCx]at h;obtain⟨_,rfl,rfl⟩:=h;obtain⟨h1,h2⟩:=kUp h';exact⟨by simp[h1],by simp[h2,SV.kBn]⟩
  ·cases h
 | .own j::l,p,row,is,h=>by
  simp only[kDb]at h;split at h
  ·split at h
   ·rename_i p' r' is' h';simp only[jBf,jCx]at h;obtain⟨_,rfl,rfl⟩:=h;obtain⟨h1,h2⟩:=kUp h';exact⟨by simp[h1],by simp[h2,SV.kBn]⟩
   ·cases h
  ·split at h
   ·rename_i p' r' is' h';simp only[jBf,jCx]at h;obtain⟨_,rfl,rfl⟩:=h;obtain⟨h1,h2⟩:=kUp h';exact⟨by simp[h1],by simp[h2,SV.kBn]⟩
   ·cases h
  ·cases h
 | .sl _ _::_,_,_,_,h=>by cases h
 | .ptr _ _ _ _::_,_,_,_,h=>by cases h
 | .kB6 _ _ _ _::_,_,_,_,h=>by cases h
 | .agg _::_,_,_,_,h=>by cases h
 | .tup _::_,_,_,_,h=>by cases h
 | .fn _ _::_,_,_,_,h=>by cases h
 | .cond _ _::_,_,_,_,h=>by cases h
 | .kAh::_,_,_,_,h=>by cases h
def fsC (β:Nat→BV) (cs:List SV) (k b:Nat):Prop:=∃j,cs[k]? = some (.own j)∧(β j).ft b
theorem ObR.sl_dp0 {X:Nat→Prop}{v:BV}{e s:Nat}{rows:List (List SV)}(h:ObR w X β v (.sl e s rows)) (hv:kJv rows):Dp w (.sl s rows) v.val v.ft:=by
 cases h with
 |nil e s h=>subst h;exact .nil s _ (fun b hb=>by cases hb)
 |sl b cap cur us hv' hh h1 h2 h3 h4 h5 h6 h7 =>
  subst hv';refine .sl e b cap cur us (fun _ _ _=>False) _ hh h1 h2 h3 h4 (fun i k q1 q2=>?_) (fun i k q1 q2=>?_) (fun i k row c q1 q2=>?_) (fun _ _ _ hf=>hf.elim) (fun _ _ hf=>hf) (fun _ _ _ _ _ hf=>hf.elim) (fun b'=>?_)
  ·obtain⟨row,c,r1,r2⟩:=kMb h4 q1 q2;exact h5 i k row c r1 r2
  ·obtain⟨row,c,r1,r2⟩:=kMb h4 q1 q2;exact h6 i k row c r1 r2
  ·obtain⟨x,rfl⟩:=hv row (jIc q1) c (jIc q2);have:=h7 i k row _ q1 q2;generalize us i k=u at this;cases this;exact .v x _ (fun _ hf=>hf)
  ·show blk (.slice (some ⟨b,0,none⟩) rows.length cap)=some b'↔_
   simp[blk,eq_comm]
theorem k36 (h:Sim N X0 M w0 st β a w):∀{cs:List SV}{p:Prop}{row:List SV}{is:List Nat},kDb st.hp cs=some (p,row,is)→p→(cs.all SV.one=true) ∧
  ∀(k:Nat) (c c':SV) (u:Value),cs[k]? = some c→row[k]? = some c'→R w (XX X0 β st.hp) β c u→u.oneCell'=true∧Dp w c' u (fsC β cs k)
 | [],p,row,is,h',_=>⟨rfl,fun k c c' u hc=>by simp at hc⟩
 |x0::l,p,row,is,h',hp=>by
  have shift:∀{k b},fsC β (x0::l) (k+1) b↔fsC β l k b:=fun{k b}=>by simp[fsC]
  cases x0 with
  |v x =>
   simp only[kDb]at h';split at h'
   ·rename_i p' r' is' h2;simp only[jBf,jCx]at h';obtain⟨rfl,rfl,rfl⟩:=h';obtain⟨g1,g2⟩:=k36 h h2 hp.2;refine⟨by simp only[jZy,jBs];exact⟨hp.1,g1⟩,fun k c c' u hc hc' hR=>?_⟩
    cases k with
    |zero =>
     simp at hc hc';subst hc hc';have:=hR.kAn;subst this
     exact⟨hp.1,.v _ _ (fun b ⟨j,hj,_⟩=>by simp at hj)⟩
    |succ k =>
     obtain⟨q1,q2⟩:=g2 k c c' u (by simpa using hc) (by simpa using hc') hR
     exact⟨q1,q2.ext fun b=>shift⟩
   ·cases h'
  |own j =>
   have key:∀{p':Prop}{r':List SV}{is':List Nat}{s:Nat}{rows:List (List SV)}{o:Ob},lk j st.hp=some o→kDb st.hp l=some (p',r',is')→p'→row=.sl s rows::r'→Dp w (.sl s rows) (β j).val (β j).ft →
     ((SV.own j::l).all SV.one=true)∧∀(k:Nat) (c c':SV) (u:Value),(SV.own j::l)[k]? = some c→row[k]? = some c'→R w (XX X0 β st.hp) β c u→u.oneCell'=true∧Dp w c' u (fsC β (.own j::l) k):=fun{p' r' is' s rows o} hlj h2 hp' hrow hD=>by
    obtain⟨g1,g2⟩:=k36 h h2 hp';refine⟨by simp only[jZy,jBs];exact⟨rfl,g1⟩,fun k c c' u hc hc' hR=>?_⟩
    subst hrow
    cases k with
    |zero =>
     simp at hc hc';subst hc hc';have:=hR.kB9;subst this
     exact⟨h.beta j,hD.ext fun b=>by simp[fsC]⟩
    |succ k =>
     obtain⟨q1,q2⟩:=g2 k c c' u (by simpa using hc) (by simpa using hc') hR
     exact⟨q1,q2.ext fun b=>shift⟩
   simp only[kDb]at h';split at h'
   ·rename_i e s rows hlj;split at h'
    ·rename_i p' r' is' h2;simp only[jBf,jCx]at h';obtain⟨rfl,rfl,rfl⟩:=h';exact key hlj h2 hp.2 rfl ((h.objs j _ hlj).sl_dp0 hp.1)
    ·cases h'
   ·rename_i e s rows hlj;split at h'
    ·rename_i p' r' is' h2;simp only[jBf,jCx]at h';obtain⟨rfl,rfl,rfl⟩:=h';have hO:=h.objs j _ hlj;exact key hlj h2 hp rfl (by cases hO with|dp hd he=>exact hd)
    ·cases h'
   ·cases h'
  | _=>cases h'
theorem qB8:∀{cs:List SV}{k k' j:Nat},(cs.flatMap SV.kBn).Nodup→cs[k]? = some (.own j)→cs[k']? = some (.own j)→k=k'
 | [],k,k',j,_,h,_=>by simp at h
 |c::l,0,0,j,_,_,_=>rfl
 |c::l,0,k'+1,j,hn,h,h'=>by
  exfalso;simp at h;subst h;have hm:j∈l.flatMap SV.kBn:=vOq.2 ⟨.own j,jIc (by simpa using h'),by simp[SV.kBn]⟩
  simp only[wDj,SV.kBn,jRa,jIw,vSb]at hn
  exact hn.1 hm
 |c::l,k+1,0,j,hn,h,h'=>by
  exfalso;simp at h';subst h';have hm:j∈l.flatMap SV.kBn:=vOq.2 ⟨.own j,jIc (by simpa using h),by simp[SV.kBn]⟩
  simp only[wDj,SV.kBn,jRa,jIw,vSb]at hn
  exact hn.1 hm
 |c::l,k+1,k'+1,j,hn,h,h'=>by
  rw[wDj,yEw]at hn;have:=qB8 (cs:=l) hn.2.1 (k:=k) (k':=k') (j:=j) (by simpa using h) (by simpa using h')
  omega
theorem kKs:∀{cs:List SV}{p:Prop}{row:List SV}{is:List Nat},kDb st.hp cs=some (p,row,is)→∀j,SV.own j∈cs→∃o,lk j st.hp=some o
 | [],_,_,_,_,j,hj=>by cases hj
 |x0::l,p,row,is,h,j,hj=>by
  cases x0 with
  |v x =>
   simp only[kDb]at h;split at h
   ·rename_i p' r' is' h2;rcases jDr.1 hj with e|hj
    ·cases e
    ·exact kKs h2 j hj
   ·cases h
  |own i =>
   simp only[kDb]at h;split at h
   ·rename_i e s rows hl;split at h
    ·rename_i p' r' is' h2;rcases jDr.1 hj with e|hj
     ·cases e;exact⟨_,hl⟩
     ·exact kKs h2 j hj
    ·cases h
   ·rename_i e s rows hl;split at h
    ·rename_i p' r' is' h2;rcases jDr.1 hj with e|hj
     ·cases e;exact⟨_,hl⟩
     ·exact kKs h2 j hj
    ·cases h
   ·cases h
  | _=>cases h
theorem qK3 {s:Nat}{v:Value}{cur:Array Value}(hc:cur.size=s) (hv:v.cells.size=s):∃cells,Instr.fill (fun i=>some (i*s,s)) cur [(0,v)]=some cells∧cells.toList=v.cells.toList:=by
 have hle:0*s+v.cells.size≤cur.size:=zo;have hfl:=kV1 (0*s) v.cells cur hle;refine⟨_,by simp only[Instr.fill];rw[if_neg (by simp[hv,hc])],?_⟩
 rw[hfl];have:cur.toList.length=s:=by rw[jYo,hc]
 simp[hv,this]
theorem qHl (hty:∀T d,lk T tys=some d→kAs P T d) (h:Sim N X0 M w0 st β a w) {o:Oper}{T:Nat}{parts:Array (Nat×Operand)}{x:Operand}{t e:TyD}(ho:o.op=.buildSlice T 1 parts) (hparts:parts.toList=[(0,x)]) (ht:lk T tys=some t) (he:lk t.elem tys=some e)
  {p:Prop}{row:List SV}{is:List Nat}(habs:kDb st.hp (st.ev x).strip.cells=some (p,row,is)) (hp:p) (hn:(st.ev x).need) (hk:t.kind=1) (hpos:0<e.size) (hlim:e.size≤16777216) (hzl:e.z.length=e.size) (hz1:e.z.all Value.oneCell'=true)
  (hrow:row.length=e.size) (hnd:kAz is=true) {d:Nat}(hd:o.dst=some d) (hdN:d<N) {K:St→Prop}(hK:K { fr:=(d,.own d)::er d (st.kAl (d::is)).fr,hp:=(d,.dp t.elem e.size [row])::(st.kAl (d::is)).hp }) {Q:Exit→Act→World→Prop} :
  o.wp P a w (Ok N X0 M w0 K) Q:=by
 obtain⟨hl1,his⟩:=kUp habs;obtain⟨hone,hcell⟩:=k36 h habs hp;have hR:=(St.kC1 h x).strip hn;obtain⟨hsz,hcc⟩:=hR.cells h.beta hone;have hvs:(a.eval x).cells.size=e.size:=by rw[hsz,←hl1,hrow]
 have hT:=(hty T t ht).slice hk;have hE:=hty t.elem e he;obtain⟨zv,hz,hzc⟩:=hE.zero w;have hzs:zv.cells.size=e.size:=by rw[←jYo,hzc,hzl]
 obtain⟨cells,kUg,hct⟩:=qK3 (s:=e.size) (v:=a.eval x) (cur:=(Array.range (1*e.size)).map (zv.cells[·%zv.cells.size]!)) zs hvs
 have hcs:cells.size=e.size:=by rw[←jYo,hct,jYo,hvs]
 have hrun:(execOp a.eval o).run P w=.ok (.value (.slice (some ⟨w.heap.size,0,none⟩) 1 1)) (w.alloc (.cells cells t.elem)):=by
  have hpp:parts.toList.map (fun x=>(x.1,a.eval x.2))=[(0,a.eval x)]:=by rw[hparts];rfl
  simp only[Nat.one_mul]at kUg;simp[execOp,ho,Instr.buildSlice,run_underlying hT,hE.sizeOf,show¬(16777216<e.size)by omega,show¬e.size=0 by omega,newRow,hpp,hz,kUg]
 have hbel:=kIt w (.cells cells t.elem);have hnew:(w.alloc (.cells cells t.elem)).heap[w.heap.size]? = some (.cells cells t.elem (0,0)):=heap_alloc_new w _
 have hget:∀k,k<e.size→∃c c' u,(st.ev x).strip.cells[k]? = some c∧row[k]? = some c'∧(a.eval x).cells[k]? = some u∧cells[k]? = some u∧u.oneCell'=true∧Dp w c' u (fsC β (st.ev x).strip.cells k):=fun k hk=>by
  have h1:(st.ev x).strip.cells[k]? = some ((st.ev x).strip.cells[k]'zo):=jD9 zo;have h2:row[k]? = some (row[k]'zo):=jD9 zo;have h3:(a.eval x).cells[k]? = some ((a.eval x).cells[k]'zo):=jVn zo;obtain⟨q1,q2⟩:=hcell k _ _ _ h1 h2 (hcc k _ _ h1 h3);refine⟨_,_,_,h1,h2,h3,?_,q1,q2⟩;rw[←jSa,hct,jSa];exact h3
 let fs:Nat→Nat→Nat→Prop:=fun i k b=>i=0∧fsC β (st.ev x).strip.cells k b
 let us:Nat→Nat→Value:=fun _ k=>(cells[k]?).getD undef
 let F:Nat→Prop:=fun b=>b=w.heap.size∨∃i k,fs i k b
 have k1k:∀k b,fsC β (st.ev x).strip.cells k b→b<w.heap.size:=fun k b ⟨j,hj,hb⟩=>by
  obtain⟨oj,hoj⟩:=kKs habs j (jIc hj);exact(h.objs j oj hoj).lt hb
 have hDp:Dp (w.alloc (.cells cells t.elem)) (.sl e.size [row]) (.slice (some ⟨w.heap.size,0,none⟩) 1 1) F:=by
  have:=Dp.sl (w:=w.alloc (.cells cells t.elem)) (s:=e.size) (rows:=[row]) t.elem w.heap.size 1 cells us fs F hnew zs (by simp[maxLen]) zo (fun i r hr=>by
    cases i with
    |zero=>simp at hr;rw[←hr];exact hrow
    |succ i=>simp at hr) (fun i k hi hk=>by
    simp only[jGk,jOy]at hi;have:i=0:=zo;subst this;obtain⟨_,_,u,_,_,_,h4,_⟩:=hget k hk;simp only[us,Nat.zero_mul,vKy,h4,jOj]) (fun i k hi hk=>by
    obtain⟨_,_,u,_,_,_,h4,h5,_⟩:=hget k hk;simp only[us,h4,jOj];exact h5) (fun i k r c hr hc=>by
    cases i with
    |succ i=>simp at hr
    |zero =>
     simp at hr;subst hr;have hk:k<e.size:=by rw[←hrow];exact(jSg.1 hc).1
     obtain⟨_,c',u,_,h2,_,h4,_,h6⟩:=hget k hk;rw[h2]at hc;cases hc;have hu:us 0 k=u:=by simp only[us,h4,jOj]
     rw[hu];refine(h6.keep fun b hb=>hbel.block b (k1k k b hb)).ext fun b=>⟨fun q=>q.2,fun q=>⟨rfl,q⟩⟩) (fun i k b q=>by
    obtain⟨rfl,j,hj,_⟩:=q;exact⟨zs,by rw[←hrow,hl1];exact(jSg.1 hj).1⟩) (fun i k q=>by have:=k1k k _ q.2;omega) (fun i k i' k' b q q'=>by
    obtain⟨rfl,j,hj,hb⟩:=q;obtain⟨rfl,j',hj',hb'⟩:=q';obtain⟨oj,hoj⟩:=kKs habs j (jIc hj);obtain⟨oj',hoj'⟩:=kKs habs j' (jIc hj');have:=h.inj j j' oj oj' b hoj hoj' hb hb';subst this;exact⟨rfl,qB8 (by rw[←his];exact kG3.1 hnd) hj hj'⟩) (fun b=>Iff.rfl)
  exact this
 obtain⟨β',kLn⟩:=h.newD hdN (gone:=is) (w':=w.alloc (.cells cells t.elem)) rfl rfl rfl hbel.size (fun b hlt _=>hbel.block b hlt) (fun i o b hi _ hb=>hbel.block b ((h.objs i o hi).lt hb)) (v1:=.slice (some ⟨w.heap.size,0,none⟩) 1 1) (F:=F) rfl (fun b hb=>by
  rcases hb with rfl|⟨i,k,_,j,hj,hb⟩
  ·exact .inr (jDu _)
  ·obtain⟨oj,hoj⟩:=kKs habs j (jIc hj);exact .inl ⟨j,by rw[his];exact vOq.2 ⟨.own j,jIc hj,by simp[SV.kBn]⟩,oj,hoj,hb⟩) (ob:=.dp t.elem e.size [row]) (fun X β'=>.dp hDp fun b hb=>by
   have hb':some w.heap.size=some b:=hb
   injection hb' with hb'
   subst hb';exact⟨cells,hnew⟩)
 unfold Oper.wp;rw[hrun,Oper.upon_value,hd];exact⟨_,β',hK,kLn⟩
theorem Dp.owns {e s:Nat}{rows:List (List SV)}{v:BV}{X:Nat→Prop}(hO:ObR w X β v (.dp e s rows)):∃(L:List Value) (us:Nat→Nat→Value) (fs:Nat→Nat→Nat→Prop),w.ownsRow 0 e s v.val rows.length L ∧
  Flat w X s ((List.range rows.length).map fun i=>(List.range s).map fun k=>.v (us i k)) L∧(∀(i:Nat) (row:List SV),rows[i]? = some row→row.length=s) ∧
  (∀i k row c,rows[i]? = some row→row[k]? = some c→Dp w c (us i k) (fs i k))∧(∀i k b,fs i k b→i<rows.length∧k<s∧v.ft b∧blk v.val≠some b)∧(∀i k i' k' b,fs i k b→fs i' k' b→i=i'∧k=k')∧(∀b,v.ft b→blk v.val=some b∨∃i k,fs i k b):=by
 cases hO with
 |dp hd he =>
  obtain⟨vv,F⟩:=v;simp only at hd he
  cases hd with
  |nil s F hF=>exact⟨[],fun _ _=>undef,fun _ _ _=>False,World.ownsRow_nil w 0 e s,⟨zs,zs,zs,zs⟩,zs,zs,fun _ _ _ hf=>hf.elim,fun _ _ _ _ _ hf=>hf.elim,fun b hb=>absurd hb (hF b)⟩
  |sl e' b cap cur us fs F hh h1 h2 h3 h4 h5 h6 h7 h8 h9 h10 hF =>
   obtain⟨cur',kSh⟩:=he b rfl;rw[hh]at kSh;cases kSh;have hle:rows.length*s≤cur.size:=by rw[h3];exact wF7 s h1
   refine⟨cur.toList.take (rows.length*s),us,fs,⟨by simp[vI3 hle],.inr ⟨b,cap,cur,rfl,vEs _,hh,h1,h2,h3,rfl⟩⟩,⟨by simp[vI3 hle],fun i row hr=>?_,fun u hu=>?_,fun i k row c hr hc=>?_⟩,h4,h7,fun i k b' hb=>?_,h10,fun b' hb=>?_⟩
   ·rw[jQ2]at hr
    cases hq:(List.range rows.length)[i]? with
    |none=>rw[hq]at hr;cases hr
    |some i'=>rw[hq]at hr;simp only[jIn,jBf]at hr;subst hr;simp
   ·obtain⟨j,hj⟩:=yBj.1 hu
    have hlt:j<rows.length*s:=by
     have:=(jSg.1 hj).1;simp only[jOb]at this;omega
    obtain⟨q1,q2,q3⟩:=kTv hlt;have:=h5 _ _ q1 q2;rw[q3]at this;rw[jYq hlt,jSa,this]at hj;cases hj;exact h6 _ _ q1 q2
   ·rw[jQ2]at hr
    cases hq:(List.range rows.length)[i]? with
    |none=>rw[hq]at hr;cases hr
    |some i' =>
     rw[hq]at hr;simp only[jIn,jBf]at hr;subst hr;have hi:i<rows.length:=by simpa using(jSg.1 hq).1
     have:i'=i:=by rw[vR2 hi]at hq;cases hq;rfl
     subst this;rw[jQ2]at hc
     cases hq2:(List.range s)[k]? with
     |none=>rw[hq2]at hc;cases hc
     |some k' =>
      rw[hq2]at hc;simp only[jIn,jBf]at hc;subst hc;have hk:k<s:=by simpa using(jSg.1 hq2).1
      have:k'=k:=by rw[vR2 hk]at hq2;cases hq2;rfl
      subst this;refine⟨us i' k',?_,.v _⟩;rw[jYq (kQz hi hk),jSa];exact h5 i' k' hi hk
   ·obtain⟨q1,q2⟩:=h8 i k b' hb;refine⟨q1,q2,(hF b').2 (.inr ⟨i,k,hb⟩),fun hq=>?_⟩
    have hq':some b=some b':=hq
    injection hq' with hq'
    exact h9 i k (hq'▸hb)
   ·rcases(hF b').1 hb with rfl|⟨i,k,hb⟩
    ·exact .inl rfl
    ·exact .inr ⟨i,k,hb⟩
theorem qHm (hty:∀T d,lk T tys=some d→kAs P T d) (h:Sim N X0 M w0 st β a w) {o:Oper}{c:Call}{x y:Operand}{T i j:Nat}{t e:TyD}(ho:o.op=.call c) (hc:c.callee=.builtin .append) (ha:c.args.toList=[x,y]) (hA:c.argTypes.toList=[T,T]) (ht:lk T tys=some t) (he:lk t.elem tys=some e)
  (hj:(st.ev x).strip=.own j) (hi:(st.ev y).strip=.own i) {rows news:List (List SV)}{e2:Nat}(hlj:lk j st.hp=some (.dp t.elem e.size rows)) (hli:lk i st.hp=some (.dp e2 e.size news)) (hk:t.kind=1) (n1:(st.ev x).need) (n2:(st.ev y).need) (hsz:0<e.size) (hby:0<e.bytes) (hzl:e.z.length=e.size) (hij:i≠j)
  (hbytes:(rows.length+news.length)*e.bytes≤140737488355328) {d:Nat}(hd:o.dst=some d) (hdN:d<N) {K:St→Prop}(hK:K { fr:=(d,.own d)::er d (st.kAl [d,j,i]).fr,hp:=(d,.dp t.elem e.size (rows++news))::(st.kAl [d,j,i]).hp }) {Q:Exit→Act→World→Prop} :
  o.wp P a w (Ok N X0 M w0 K) Q:=by
 have hvx:=(St.kAj h hj n1).kB9;have hvy:=(St.kAj h hi n2).kB9;have hOj:=h.objs j _ hlj;have hOi:=h.objs i _ hli;obtain⟨L1,us1,fs1,hown1,hf1,hlen1,hd1,hfs1,hdis1,hft1⟩:=Dp.owns hOj;obtain⟨L2,us2,fs2,hown2,hf2,hlen2,hd2,kLq,hdis2,hft2⟩:=Dp.owns hOi
 have hnews:((∃p cap,(β i).val=.slice p 0 cap)∧((List.range news.length).map fun i=>(List.range e.size).map fun k=>SV.v (us2 i k))=[])∨∃b off cap L,(β i).val=.slice (some ⟨b,off,none⟩) ((List.range news.length).map fun i=>(List.range e.size).map fun k=>SV.v (us2 i k)).length cap∧Flat w (XX X0 β st.hp) e.size ((List.range news.length).map fun i=>(List.range e.size).map fun k=>SV.v (us2 i k)) L∧∀j u,L[j]? = some u→w.cell? ((⟨b,off,none⟩:Addr).add j)=some u:=by
  rcases hown2.2 with⟨q1,q2⟩|⟨b,cap,cur,q1,_⟩
  ·exact .inl ⟨⟨_,_,q1⟩,by rw[q2];rfl⟩
  ·exact .inr ⟨b,0,cap,L2,by rw[q1];simp,hf2,hown2.cells (g:=b) (by rw[q1];rfl)⟩
 obtain⟨v',w',L',hrun,hown',hfl',hg,hat⟩:=k3w hty ho hc ha hA ht he hk hsz hby hzl (X:=XX X0 β st.hp) (rows:=(List.range rows.length).map fun i=>(List.range e.size).map fun k=>SV.v (us1 i k)) (news:=(List.range news.length).map fun i=>(List.range e.size).map fun k=>SV.v (us2 i k)) hvx hvy (by simpa using hown1) hf1 hnews (by simpa using hbytes)
 have hlen:((List.range rows.length).map (fun i=>(List.range e.size).map fun k=>SV.v (us1 i k))++(List.range news.length).map fun i=>(List.range e.size).map fun k=>SV.v (us2 i k)).length=(rows++news).length:=by simp
 rw[hlen]at hown'
 let us:Nat→Nat→Value:=fun q k=>if q<rows.length then us1 q k else us2 (q-rows.length) k
 have hcells:∀q k,q<(rows++news).length→k<e.size→L'[q*e.size+k]? = some (us q k):=fun q k hq hkk=>by
  have hrow:((List.range rows.length).map (fun i=>(List.range e.size).map fun k=>SV.v (us1 i k))++(List.range news.length).map fun i=>(List.range e.size).map fun k=>SV.v (us2 i k))[q]? = some ((List.range e.size).map fun k=>SV.v (us q k)):=by
   rw[jKs]at hq;by_cases hlt:q<rows.length
   ·rw[vHz (by simpa using hlt),jQ2,vR2 hlt]
    simp[us,hlt]
   ·rw[vDs (by simp;omega),jQ2]
    have:q-((List.range rows.length).map fun i=>(List.range e.size).map fun k=>SV.v (us1 i k)).length=q-rows.length:=by simp
    rw[this,vR2 zo];simp[us,hlt]
  obtain⟨u,hu,hR⟩:=hfl'.cell q k _ (.v (us q k)) hrow (by rw[jQ2,vR2 hkk];rfl)
  cases hR;exact hu
 have hone:∀q k,q<(rows++news).length→k<e.size→(us q k).oneCell'=true:=fun q k hq hkk=>hfl'.one _ (jIc (hcells q k hq hkk))
 have hblkj:∀b,(β j).val.ownBlock=some b→blk (β j).val=some b:=fun b hb=>by
  generalize(β j).val=z at hb;cases z<;>simp only[Value.ownBlock,reduceCtorEq]at hb
  rename_i ad _ _
  cases ad with
  |none=>cases hb
  |some ad=>exact hb
 have hother:∀b,b<w.heap.size→blk (β j).val≠some b→w'.heap[b]? = w.heap[b]?:=fun b hlt hne=>hg.block b hlt fun e'=>hne (hblkj b e'.symm)
 have k65:∀q k b,fs1 q k b→b<w.heap.size∧blk (β j).val≠some b:=fun q k b hb=>⟨hOj.lt (hfs1 q k b hb).2.2.1,(hfs1 q k b hb).2.2.2⟩
 have k66:∀q k b,fs2 q k b→b<w.heap.size∧blk (β j).val≠some b:=fun q k b hb=>⟨hOi.lt (kLq q k b hb).2.2.1,fun hq=>hij (h.inj i j _ _ b hli hlj (kLq q k b hb).2.2.1 (hOj.kPj hq))⟩
 let fs:Nat→Nat→Nat→Prop:=fun q k b=>(q<rows.length∧fs1 q k b)∨(rows.length≤q∧fs2 (q-rows.length) k b)
 have k1k:∀q k b,fs q k b→b<w.heap.size∧blk (β j).val≠some b∧((β j).ft b∨(β i).ft b):=fun q k b hb=>by
  rcases hb with⟨_,hb⟩|⟨_,hb⟩
  ·exact⟨(k65 q k b hb).1,(k65 q k b hb).2,.inl (hfs1 q k b hb).2.2.1⟩
  ·exact⟨(k66 _ k b hb).1,(k66 _ k b hb).2,.inr (kLq _ k b hb).2.2.1⟩
 have hlenA:∀(q:Nat) (row:List SV),(rows++news)[q]? = some row→row.length=e.size:=fun q row hr=>by
  rw[vM3]at hr;split at hr
  ·exact hlen1 q row hr
  ·exact hlen2 _ row hr
 have hdA:∀q k row c,(rows++news)[q]? = some row→row[k]? = some c→Dp w' c (us q k) (fs q k):=fun q k row c hr hcc=>by
  rw[vM3]at hr;split at hr
  ·rename_i hlt;have:=hd1 q k row c hr hcc;have hu:us q k=us1 q k:=by simp[us,hlt]
   rw[hu];refine(this.keep fun b hb=>hother b (k65 q k b hb).1 (k65 q k b hb).2).ext fun b=>⟨fun g=>?_,fun g=>.inl ⟨hlt,g⟩⟩
   rcases g with⟨_,g⟩|⟨g,_⟩
   ·exact g
   ·omega
  ·rename_i hlt;have:=hd2 _ k row c hr hcc;have hu:us q k=us2 (q-rows.length) k:=by simp[us,hlt]
   rw[hu];refine(this.keep fun b hb=>hother b (k66 _ k b hb).1 (k66 _ k b hb).2).ext fun b=>⟨fun g=>?_,fun g=>.inr ⟨zo,g⟩⟩
   rcases g with⟨g,_⟩|⟨_,g⟩
   ·omega
   ·exact g
 have hinA:∀q k b,fs q k b→q<(rows++news).length∧k<e.size:=fun q k b hb=>by
  rw[jKs];rcases hb with⟨h1,hb⟩|⟨h1,hb⟩
  ·exact⟨zo,(hfs1 q k b hb).2.1⟩
  ·have:=kLq _ k b hb;exact⟨zo,this.2.1⟩
 have hdisA:∀q k q' k' b,fs q k b→fs q' k' b→q=q'∧k=k':=fun q k q' k' b hb hb'=>by
  rcases hb with⟨h1,hb⟩|⟨h1,hb⟩<;>rcases hb' with⟨h2,hb'⟩|⟨h2,hb'⟩
  ·exact hdis1 q k q' k' b hb hb'
  ·exact absurd (h.inj i j _ _ b hli hlj (kLq _ k' b hb').2.2.1 (hfs1 q k b hb).2.2.1) hij
  ·exact absurd (h.inj i j _ _ b hli hlj (kLq _ k b hb).2.2.1 (hfs1 q' k' b hb').2.2.1) hij
  ·have:=hdis2 _ _ _ _ b hb hb';exact⟨zo,this.2⟩
 let F:Nat→Prop:=fun b=>blk v'=some b∨∃q k,fs q k b
 have qHn:∀b,blk v'=some b→((β j).ft b∨b=w.heap.size)∧(blk (β j).val=some b∨b=w.heap.size):=fun b hb=>by
  have hb':v'.ownBlock=some b:=by
   rcases hown'.2 with⟨q1,_⟩|⟨b',cap,cur,q1,_⟩
   ·rw[q1]at hb;cases hb
   ·rw[q1]at hb⊢;exact hb
  rcases hat with hat|hat
  ·have:=hblkj b (hat▸hb');exact⟨.inl (hOj.kPj this),.inl this⟩
  ·rw[hat]at hb'
   injection hb' with hq
   exact⟨.inr hq.symm,.inr hq.symm⟩
 have hDp:Dp w' (.sl e.size (rows++news)) v' F∧∀b,blk v'=some b→∃cur,w'.heap[b]? = some (.cells cur t.elem (0,0)):=by
  rcases hown'.2 with⟨q1,q2⟩|⟨b',cap,cur,q1,_,hh,g1,g2,g3,g4⟩
  ·have hnil:rows++news=[]:=vG1 q2;have hr0:rows=[]:=(List.append_eq_nil_iff.1 hnil).1;have hn0:news=[]:=(List.append_eq_nil_iff.1 hnil).2;refine⟨?_,fun b hb=>by rw[q1]at hb;cases hb⟩
   rw[hnil,q1];refine .nil _ _ fun b hb=>?_
   rcases hb with hb|⟨q,k,hb⟩
   ·rw[q1]at hb;cases hb
   ·have:=(hinA q k b hb).1;rw[hnil]at this;simp at this
  ·refine⟨?_,fun b hb=>?_⟩
   ·rw[q1];refine .sl t.elem b' cap cur us fs F hh g1 g2 g3 hlenA (fun q k hq hkk=>?_) hone hdA hinA (fun q k hb=>?_) hdisA (fun b=>?_)
    ·have:=hcells q k hq hkk;rw[←g4]at this;have hlt:q*e.size+k<(rows++news).length*e.size:=kQz hq hkk;rw[jYq hlt,jSa]at this;exact this
    ·have:=k1k q k b' hb;rcases(qHn b' (by rw[q1];rfl)).2 with g|g
     ·exact this.2.1 g
     ·omega
    ·show(blk v'=some b∨_)↔_
     rw[q1];simp[blk,eq_comm]
   ·rw[q1]at hb;have hb':some b'=some b:=hb
    injection hb' with hb'
    subst hb';exact⟨cur,hh⟩
 obtain⟨β',kLn⟩:=h.newD hdN (gone:=[j,i]) (w':=w') hg.os hg.tape hg.output hg.size (fun b hlt hn=>hother b hlt fun hq=>hn j _ hlj (hOj.kPj hq)) (fun q oq b hq hqn hb=>hother b ((h.objs q oq hq).lt hb) fun hbq=>by
   have:=h.inj q j oq _ b hq hlj hb (hOj.kPj hbq);exact hqn (by rw[this];simp)) (v1:=v') (F:=F) (by rcases hown'.2 with⟨q1,_⟩|⟨b',cap,cur,q1,_⟩<;>rw[q1]<;>rfl) (fun b hb=>by
   rcases hb with hb|⟨q,k,hb⟩
   ·rcases(qHn b hb).1 with g|g
    ·exact .inl ⟨j,zs,_,hlj,g⟩
    ·exact .inr zo
   ·rcases(k1k q k b hb).2.2 with g|g
    ·exact .inl ⟨j,zs,_,hlj,g⟩
    ·exact .inl ⟨i,zs,_,hli,g⟩) (ob:=.dp t.elem e.size (rows++news)) (fun X β'=>.dp hDp.1 hDp.2)
 unfold Oper.wp;rw[hrun,Oper.upon_value,hd];exact⟨_,β',hK,kLn⟩
theorem kY9 (hty:∀T d,lk T tys=some d→kAs P T d) (h:Sim N X0 M w0 st β a w) {o:Oper}{p:Prop}{ob:Ob}{gone:List Nat}(hq:st.kDq tys o=some (p,ob,gone)) (hp:p) {d:Nat}(hd:o.dst=some d) (hdN:d<N)
  {K:St→Prop}(hK:K { fr:=(d,.own d)::er d (st.kAl (d::gone)).fr,hp:=(d,ob)::(st.kAl (d::gone)).hp }) {Q:Exit→Act→World→Prop}:o.wp P a w (Ok N X0 M w0 K) Q:=by
 unfold St.kDq at hq;split at hq
 ·rename_i T parts ho;split at hq
  ·rename_i x t hpa ht;split at hq
   ·rename_i e p' row is he habs;simp only[jBf,jCx]at hq;obtain⟨rfl,rfl,rfl⟩:=hq;obtain⟨h0,h1,h2,h3,h4,h5,h6,h7,h8⟩:=hp;exact qHl hty h ho hpa ht he habs h0 h1 h2 h3 h4 h5 h6 h7 h8 hd hdN hK
   ·cases hq
  ·cases hq
 ·rename_i c ho;split at hq
  ·rename_i hc;split at hq
   ·rename_i x y T T' ha hA;split at hq
    ·rename_i t j i ht hj hi;split at hq
     ·rename_i e e' s rows e2 s2 news he hlj hli;simp only[jBf,jCx]at hq;obtain⟨rfl,rfl,rfl⟩:=hq;obtain⟨rfl,h2,h3,h4,h5,h6,h7,h8,rfl,rfl,rfl,h9⟩:=hp;exact qHm hty h ho hc ha hA ht he hj hi hlj hli h2 h3 h4 h5 h6 h7 h8 h9 hd hdN hK
     ·cases hq
    ·cases hq
   ·cases hq
  ·cases hq
 ·cases hq
end
end
section
def kAq (N:Nat):Option Nat→Bool
 |some d=>decide (d<N)
 |none=>true
def St.prK (tys:List (Nat×TyD)) (o:Oper) (st:St) (K:St→Prop):Prop :=
 match st.pr tys o.op with
 |some (ob,r)=>ob∧K (st.put o.dst r)
 |none=>False
def St.fzL (st:St):List Nat→St
 | []=>st
 |i::l=>(st.fz i).fzL l
def kD8 (x:SV):List Nat:=x.cells.flatMap SV.kBn
def kDr (st:St) (l:List (Nat×Operand)):List Nat:=l.flatMap fun p=>kD8 (st.ev p.2).strip
def St.kD9 (st:St) (p:Operand):Bool:=match(st.ev p).strip with
 | .ptr id _ _ _=>match lk id st.hp with
  |some (.sl _ _ _)=>true
  | _=>false
 | _=>false
def St.kGg (tys:List (Nat×TyD)) (o:Oper) (st:St) (K:St→Prop):Prop :=
 match o.dst,st.kDq tys o with
 |some d,some (p,ob,is)=>p∧is.contains d=false∧K { fr:=(d,.own d)::er d (st.kAl (d::is)).fr,hp:=(d,ob)::(st.kAl (d::is)).hp }
 | _,_=>False
def St.kHv (st:St) (c:Call):Bool:=match c.args.toList with
 | [_,y]=>match(st.ev y).strip with
  | .own i=>match lk i st.hp with
   |some (.dp _ _ _)=>true
   | _=>false
  | _=>false
 | _=>false
def SV.kGf:SV→List Nat
 | .own i=>[i]
 | _=>[]
def St.kFw (tys:List (Nat×TyD)) (C:List (FuncId×Ctr)) (N:Nat) (o:Oper) (st:St) (K:St→Prop):Prop :=
 match o.op with
 | .alloc _=>kAq N o.dst=true∧st.eff tys o K
 | .box _ _=>kAq N o.dst=true∧st.eff tys o K
 | .buildSlice _ _ ps=>kAq N o.dst=true∧(match lk 999999 st.fr with
  |some _=>(match kDr st ps.toList with
   | []=>st.eff tys o K
   | _=>st.kGg tys o K)
  |none=>(st.fzL (kDr st ps.toList)).eff tys o K)
 | .makeSlice _ _ _=>kAq N o.dst=true∧st.eff tys o K
 | .store _ p x=>o.dst=none∧(match st.kD9 p with|true=>(st.fzL (kD8 (st.ev x).strip)).eff tys o K|false=>st.eff tys o K)
 | .slice _ x _ _ _=>kAq N o.dst=true∧(st.fzL (st.ev x).strip.kGf).prK tys o K
 | .call c=>match c.callee with
  | .value x=>kAq N o.dst=true∧(match st.isM C x with|true=>st.kHs (o.dst.getD 0) C o K|false=>st.kIb C o K)
  | .builtin .append=>kAq N o.dst=true∧(match st.kHv c with|true=>st.kGg tys o K|false=>st.eff tys o K)
  | _=>kAq N o.dst=true∧st.prK tys o K
 | _=>kAq N o.dst=true∧st.prK tys o K
def kA4 (g:Bool):SV→SV
 | .cond g' y=>.cond (g&&g') y
 |r=>.cond g r
def kCq (want:Bool):SV→Option Bool
 | .v (.bool c)=>some (c==want)
 | .cond g (.v (.bool c))=>some (g&&(c==want))
 | _=>none
def St.stepG (tys:List (Nat×TyD)) (C:List (FuncId×Ctr)) (N:Nat) (g:Bool) (o:Oper) (st:St) (K:St→Prop):Prop :=
 match o.op with
 | .call c=>match c.callee with
  | .value x=>kAq N o.dst=true∧(match st.kD2 (o.dst.getD 0) C c x with
   |some (ob,r)=>(g=true→ob)∧K (st.put o.dst (kA4 g r))
   |none=>False)
  | _=>kAq N o.dst=true∧(match st.pr tys o.op with
   |some (ob,r)=>(g=true→ob)∧K (st.put o.dst (kA4 g r))
   |none=>False)
 | _=>kAq N o.dst=true∧(match st.pr tys o.op with
   |some (ob,r)=>(g=true→ob)∧K (st.put o.dst (kA4 g r))
   |none=>False)
def St.step (tys:List (Nat×TyD)) (C:List (FuncId×Ctr)) (N:Nat) (ops:Array Oper) (o:Oper) (st:St) (K:St→Prop):Prop :=
 match o.guard with
 |none=>st.kFw tys C N o K
 |some (j,want)=>match(ops[j]?).bind (·.dst)with
  |some t=>match kCq want (st.get t)with
   |some g=>st.stepG tys C N g o K
   |none=>False
  |none=>False
def St.runR (tys:List (Nat×TyD)) (C:List (FuncId×Ctr)) (N:Nat) (ops:Array Oper):List Oper→St→(St→Prop)→Prop
 | [],st,K=>K st
 |o::l,st,K=>st.step tys C N ops o fun st'=>St.runR tys C N ops l st' K
section
variable {P:Program}{tys:List (Nat×TyD)}{C:List (FuncId×Ctr)}{N:Nat}{X0:Nat→Prop}{M:Nat→BV→Prop}{w0:World}{st:St}{β:Nat→BV}{a:Act}{w:World}
theorem kUj (h:Sim N X0 M w0 st β a w) {o:Oper}{r:SV}(hd:kAq N o.dst=true) (hy:Yl P (XX X0 β st.hp) β a w o r) {K:St→Prop}(hK:K (st.put o.dst r)) {Q:Exit→Act→World→Prop}:o.wp P a w (Ok N X0 M w0 K) Q:=by
 obtain⟨v,hr,hR⟩:=hy;unfold Oper.wp;rw[hr,Oper.upon_value]
 cases hdd:o.dst with
 |none=>rw[hdd]at hK;exact⟨_,β,hK,h⟩
 |some d=>rw[hdd]at hK hd;exact⟨_,β,hK,h.put (by simpa[kAq]using hd) hR⟩
theorem kI8 {o:Oper}(hd:kAq N o.dst=true):∀d,o.dst=some d→d<N:=fun d e=>by rw[e]at hd;simpa[kAq]using hd
theorem kSi (hty:∀T d,lk T tys=some d→kAs P T d) (h:Sim N X0 M w0 st β a w) {o:Oper}{K:St→Prop}(hd:kAq N o.dst=true) (hw:st.prK tys o K) {Q:Exit→Act→World→Prop}:o.wp P a w (Ok N X0 M w0 K) Q:=by
 unfold St.prK at hw;split at hw
 case h_1 _ ob r hp=>exact kUj h hd (k7i hty h rfl hp hw.1) hw.2
 case h_2=>exact hw.elim
theorem Sim.fzL {P:Program}(hA:Ap P X0 M w0):∀(l:List Nat) {st:St},Sim N X0 M w0 st β a w→Sim N X0 M w0 (st.fzL l) β a w
 | [],st,h=>h
 |i::l,st,h=>Sim.fzL hA l (h.fz hA i)
theorem kY8 (hty:∀T d,lk T tys=some d→kAs P T d) (h:Sim N X0 M w0 st β a w) {o:Oper}{K:St→Prop}(hd:∀d,o.dst=some d→d<N) (hw:st.kGg tys o K) {Q:Exit→Act→World→Prop}:o.wp P a w (Ok N X0 M w0 K) Q:=by
 unfold St.kGg at hw;split at hw
 ·rename_i d p ob is hdd hq;exact kY9 hty h hq hw.1 hdd (hd d hdd) hw.2.2
 ·exact hw.elim
theorem kZa (hA:Ap P X0 M w0) (hty:∀T d,lk T tys=some d→kAs P T d) (hC:COk P C) (h:Sim N X0 M w0 st β a w) {o:Oper}{K:St→Prop}(hw:st.kFw tys C N o K) {Q:Exit→Act→World→Prop}:o.wp P a w (Ok N X0 M w0 K) Q:=by
 unfold St.kFw at hw
 cases ho:o.op with
 |alloc T=>rw[ho]at hw;exact k40 hty h ho (kI8 hw.1) hw.2
 |box T x=>rw[ho]at hw;exact qBv h ho (kI8 hw.1) hw.2
 |buildSlice T n p =>
  rw[ho]at hw;obtain⟨hd,hw⟩:=hw;split at hw
  ·split at hw
   ·exact kOr hty h ho (kI8 hd) hw
   ·exact kY8 hty h (kI8 hd) hw
  ·exact kOr hty (h.fzL hA _) ho (kI8 hd) hw
 |makeSlice T l c=>rw[ho]at hw;exact kVx hty h ho (kI8 hw.1) hw.2
 |store T p x =>
  rw[ho]at hw;obtain⟨hd,hw⟩:=hw
  cases hm:st.kD9 p with
  |true=>rw[hm]at hw;exact k41 hty (h.fzL hA _) ho hd hw
  |false=>rw[hm]at hw;exact k41 hty h ho hd hw
 |slice T x lo hi mx=>rw[ho]at hw;exact kSi hty (h.fzL hA _) hw.1 hw.2
 |call c =>
  rw[ho]at hw
  cases hc:c.callee with
  |value x =>
   simp only[hc]at hw;obtain⟨hd,hw⟩:=hw
   cases hm:st.isM C x with
   |true=>rw[hm]at hw;exact qHd hC hA h (kI8 hd) hw
   |false=>rw[hm]at hw;exact kZ2 hC hA h (kI8 hd) hw
  |invoke r m=>simp only[hc]at hw;exact kSi hty h hw.1 hw.2
  |builtin b =>
   cases b<;>simp only[hc]at hw<;>first
    | (obtain⟨hd,hw⟩:=hw;split at hw;exact kY8 hty h (kI8 hd) hw;exact kUh hty h ho hc (kI8 hd) hw)
    |exact kSi hty h hw.1 hw.2
 | _=>rw[ho]at hw;exact kSi hty h hw.1 hw.2
theorem kRa {X:Nat→Prop}{g:Bool}{x:SV}{v:Value}(h1:g=true→R w X β x v) (h2:g=false→v=undef):R w X β (kA4 g x) v:=by
 cases x with
 |cond g' y =>
  refine .cond (fun hg=>?_) fun hg=>?_
  ·rw[jBs]at hg;exact(h1 hg.1).kOo hg.2
  ·cases g with
   |false=>exact h2 rfl
   |true=>exact(h1 rfl).kM0 (by simpa using hg)
 | _=>exact .cond h1 h2
theorem qDz (hty:∀T d,lk T tys=some d→kAs P T d) (h:Sim N X0 M w0 st β a w) {o:Oper}{g:Bool}(hd:kAq N o.dst=true) {K:St→Prop}{Q:Exit→Act→World→Prop}
  (hw:match st.pr tys o.op with|some (ob,r)=>(g=true→ob)∧K (st.put o.dst (kA4 g r))|none=>False) :
  (g=true→o.wp P a w (Ok N X0 M w0 K) Q)∧(g=false→Ok N X0 M w0 K (a.put o.dst undef) w):=by
 split at hw
 case h_2=>exact hw.elim
 case h_1 _ ob r hp =>
  refine⟨fun hg=>?_,fun hg=>?_⟩
  ·obtain⟨v,hr,hR⟩:=k7i hty h rfl hp (hw.1 hg);exact kUj h hd ⟨v,hr,kRa (fun _=>hR) fun e=>by rw[hg]at e;cases e⟩ hw.2
  ·have hK:=hw.2
   cases hdd:o.dst with
   |none=>rw[hdd]at hK;exact⟨_,β,hK,h⟩
   |some d=>rw[hdd]at hK hd;exact⟨_,β,hK,h.put (by simpa[kAq]using hd) (kRa (fun hh=>by rw[hg]at hh;cases hh) fun _=>rfl)⟩
theorem Ok.mono {K K':St→Prop}(hk:∀st,K st→K' st) (h:Ok N X0 M w0 K a w):Ok N X0 M w0 K' a w :=
 let⟨st,β,h1,h2⟩:=h;⟨st,β,hk st h1,h2⟩
theorem qBa (hA:Ap P X0 M w0) (hty:∀T d,lk T tys=some d→kAs P T d) (hC:COk P C) (h:Sim N X0 M w0 st β a w) {o:Oper}{g:Bool}{K:St→Prop}(hw:st.stepG tys C N g o K) {Q:Exit→Act→World→Prop} :
  (g=true→o.wp P a w (Ok N X0 M w0 K) Q)∧(g=false→Ok N X0 M w0 K (a.put o.dst undef) w):=by
 unfold St.stepG at hw
 cases ho:o.op with
 |call c =>
  rw[ho]at hw
  cases hc:c.callee with
  |value x =>
   simp only[hc]at hw;obtain⟨hd,hw⟩:=hw;split at hw
   case h_2=>exact hw.elim
   case h_1 _ ob res hcf =>
   obtain⟨hob,hK⟩:=hw;have hcall:g=true→st.kUi (o.dst.getD 0) C (.call c) res:=fun hg=>St.kTy hc hcf (hob hg)
   refine⟨fun hg=>?_,fun hg=>?_⟩
   ·refine Oper.wp_mono (fun a' w' hk=>?_) (kZ2 (Q:=Q) (K:=fun st'=>st'=st.res o.dst res []) hC hA h (kI8 hd) (St.kTz (by rw[ho];exact hcall hg) rfl))
    obtain⟨st',β',rfl,h'⟩:=hk
    cases hdd:o.dst with
    |none =>
     rw[hdd]at h' hK;refine⟨_,β',hK,?_⟩;have:St.res st none res []=st:=rfl;rw[this]at h'
     exact h'
    |some d =>
     rw[hdd]at h' hK hd;have hlt:d<N:=by simpa[kAq]using hd
     refine⟨_,β',hK,?_⟩;have hR:R w' (XX X0 β' st.hp) β' (kA4 g res) (a'.tmps.getD d undef):=kRa (fun _=>h'.slots d res (by simp[St.res,St.put,lk])) fun e=>by rw[hg]at e;cases e
     have hless:Sim N X0 M w0 { fr:=er d st.fr,hp:=st.hp } β' a' w':=h'.less (fun t x hx=>by
      simp only[St.res,St.put,jRt,St.kAl,lk];by_cases ht:t=d
      ·subst ht;rw[kCt]at hx;cases hx
      ·rw[if_neg ht];exact hx) (fun t x hx=>hx)
     exact{ hless with
      slots:=fun t x hx=>by
       simp only[St.put,lk]at hx;by_cases ht:t=d
       ·subst ht;rw[if_pos rfl]at hx;cases hx;exact hR
       ·rw[if_neg ht]at hx;exact hless.slots t x hx }
   ·cases hdd:o.dst with
    |none=>rw[hdd]at hK;exact⟨_,β,hK,h⟩
    |some d=>rw[hdd]at hK hd;exact⟨_,β,hK,h.put (by simpa[kAq]using hd) (kRa (fun hh=>by rw[hg]at hh;cases hh) fun _=>rfl)⟩
  |invoke r m=>simp only[hc]at hw;exact qDz hty h hw.1 (by rw[ho];exact hw.2)
  |builtin b=>simp only[hc]at hw;exact qDz hty h hw.1 (by rw[ho];exact hw.2)
 | _=>rw[ho]at hw;exact qDz hty h hw.1 (by rw[ho];exact hw.2)
theorem kCu (hA:Ap P X0 M w0) (hty:∀T d,lk T tys=some d→kAs P T d) (hC:COk P C) (h:Sim N X0 M w0 st β a w) {ops:Array Oper}{o:Oper}{K:St→Prop}(hw:st.step tys C N ops o K) {Q:Exit→Act→World→Prop} :
  if Region.wanted o (yielded ops a.tmps)then o.wp P a w (Ok N X0 M w0 K) Q else Ok N X0 M w0 K (a.put o.dst undef) w:=by
 unfold St.step at hw
 cases hg:o.guard with
 |none =>
  rw[hg]at hw;have:Region.wanted o (yielded ops a.tmps)=true:=by simp[Region.wanted,hg]
  rw[if_pos this]
  exact kZa hA hty hC h hw
 |some gw =>
  obtain⟨j,want⟩:=gw;rw[hg]at hw;simp only at hw;split at hw
  case h_2=>exact hw.elim
  case h_1 _ t ht =>
   split at hw
   case h_2=>exact hw.elim
   case h_1 _ g hc =>
    have hR:R w (XX X0 β st.hp) β (st.get t) (a.eval (.tmp t)):=St.kC1 h (.tmp t)
    have hy:yielded ops a.tmps j=(match a.tmps.getD t undef with|.bool b=>some b|_=>none):=by
     unfold yielded;rw[ht];simp only[wDt];rw[jMv]
     cases hq:a.tmps[t]? with
     |none=>rfl
     |some v=>cases v<;>rfl
    have hwant:Region.wanted o (yielded ops a.tmps)=g:=by
     simp only[Region.wanted,hg,hy];generalize st.get t=y at hc hR;unfold kCq at hc;split at hc
     ·rename_i b;have hv:a.tmps.getD t undef=.bool b:=hR.kAn;rw[hv];cases hc;cases b<;>cases want<;>rfl
     ·rename_i g' b;cases hc
      cases g' with
      |false =>
       have hv:a.tmps.getD t undef=undef:=hR.kM0 rfl
       rw[hv];rfl
      |true =>
       have hv:a.tmps.getD t undef=.bool b:=(hR.kOo rfl).kAn;rw[hv];cases b<;>cases want<;>rfl
     ·cases hc
    obtain⟨h1,h2⟩:=qBa (Q:=Q) hA hty hC h hw;rw[hwant];by_cases hcw:g=true
    ·rw[if_pos hcw];exact h1 hcw
    ·rw[if_neg hcw];exact h2 (by simpa using hcw)
theorem kUk (hA:Ap P X0 M w0) (hty:∀T d,lk T tys=some d→kAs P T d) (hC:COk P C) {ops:Array Oper}{K:St→Prop}{Q:Exit→Act→World→Prop}(hQ:∀a w,Ok N X0 M w0 K a w→Q .normal a w) :
  ∀(l:List Oper) {st:St}{β:Nat→BV}{a:Act}{w:World},Sim N X0 M w0 st β a w→St.runR tys C N ops l st K→wpList P ops Q l a w
 | [],st,β,a,w,h,hw=>hQ a w ⟨st,β,hw,h⟩
 |o::l,st,β,a,w,h,hw=>by
  have h1:=kCu (Q:=Q) hA hty hC h hw;unfold wpList;split
  ·rename_i hwt;rw[if_pos hwt]at h1;exact .inl (Oper.wp_mono (fun a' w' ⟨st',β',h2,h3⟩=>kUk hA hty hC hQ l h3 h2) h1)
  ·rename_i hwt;rw[if_neg hwt]at h1;obtain⟨st',β',h2,h3⟩:=h1;exact kUk hA hty hC hQ l h3 h2
end
structure Cx where
 P:Program
 tys:List (Nat×TyD)
 C:List (FuncId×Ctr)
 hty:∀T d,lk T tys=some d→kAs P T d
 hC:COk P C
def WP (c:Cx) (N:Nat) (X0:Nat→Prop) (M:Nat→BV→Prop) (w0:World) (code:Code) (st:St) (K:Exit→St→Prop):Prop :=
 Ap c.P X0 M w0→∀β a w,Sim N X0 M w0 st β a w→code.wp c.P (fun e a' w'=>Ok N X0 M w0 (K e) a' w') a w
def kGy (next:St→Prop) (K:Exit→St→Prop):Exit→St→Prop
 | .normal,st=>next st
 |e,st=>K e st
def kFh (id:Nat) (K:Exit→St→Prop):Exit→St→Prop
 | .exit id',st=>if id'=id then K .normal st else K (.exit id') st
 |e,st=>K e st
section
variable {c:Cx}{N:Nat}{X0:Nat→Prop}{M:Nat→BV→Prop}{w0:World}{st:St}{K:Exit→St→Prop}
theorem zS {x y:Code}(h:WP c N X0 M w0 x st (kGy (fun st'=>WP c N X0 M w0 y st' K) K)):WP c N X0 M w0 (.seq x y) st K:=fun hA β a w hs =>
 wp_seq (Code.wp_mono (fun e a w hq=>by
  cases e with
  |normal=>obtain⟨st',β',h1,h2⟩:=hq;exact h1 hA β' a w h2
  | _=>exact hq) (h hA β a w hs))
theorem WP.cond {x:Operand}{p q:Code}{b:Bool}(hx:st.ev x=.v (.bool b)) (h1:b=true→WP c N X0 M w0 p st K) (h2:b=false→WP c N X0 M w0 q st K):WP c N X0 M w0 (.cond x p q) st K:=fun hA β a w hs=>by
 have he:a.eval x=.bool b:=(hx▸St.kC1 hs x:R w _ β (.v (.bool b)) (a.eval x)).kAn;exact wp_cond_split he (fun h=>h1 h hA β a w hs) (fun h=>h2 h hA β a w hs)
theorem zB {id:Nat}{p:Code}(h:WP c N X0 M w0 p st (kFh id K)):WP c N X0 M w0 (.block id p) st K:=fun hA β a w hs =>
 wp_block (Code.wp_mono (fun e a w hq=>by
  cases e with
  |exit id' =>
   obtain⟨st',β',h1,h2⟩:=hq;simp only[kFh]at h1;simp only[Exit.inBlock];split
   ·rename_i he;rw[if_pos he]at h1;exact⟨st',β',h1,h2⟩
   ·rename_i he;rw[if_neg he]at h1;exact⟨st',β',h1,h2⟩
  | _=>exact hq) (h hA β a w hs))
theorem zK (h:K .normal st):WP c N X0 M w0 .skip st K:=fun hA β a w hs=>wp_skip ⟨st,β,h,hs⟩
theorem zT (h:K .ret st):WP c N X0 M w0 .ret st K:=fun hA β a w hs=>wp_ret ⟨st,β,h,hs⟩
theorem zE {id:Nat}(h:K (.exit id) st):WP c N X0 M w0 (.exit id) st K:=fun hA β a w hs=>wp_exit ⟨st,β,h,hs⟩
theorem zR {id:Nat}{l:List Oper}(h:St.runR c.tys c.C N l.toArray l st (K .normal)):WP c N X0 M w0 (.region id l.toArray false) st K:=fun hA β a w hs =>
 wp_region_lit (kUk hA c.hty c.hC (fun a w hk=>hk) l hs h)
theorem WP.mono {code:Code}{K':Exit→St→Prop}(hk:∀e st,K e st→K' e st) (h:WP c N X0 M w0 code st K):WP c N X0 M w0 code st K':=fun hA β a w hs =>
 Code.wp_mono (fun e a w hq=>hq.mono (hk e)) (h hA β a w hs)
def kI6 {α:Type}:List (Nat×α)→List (Nat×α)→Prop
 | [],_=>True
 | (t,x)::r,l=>lk t l=some x∧kI6 r l
def St.has (st st':St):Prop:=kI6 st'.fr st.fr∧kI6 st'.hp st.hp
theorem k3y {α:Type}{t:Nat}{x:α}:∀{r l:List (Nat×α)},kI6 r l→lk t r=some x→lk t l=some x
 | (u,y)::r,l,h,hx=>by
  simp only[lk]at hx;by_cases ht:t=u
  ·rw[if_pos ht]at hx;cases hx;subst ht;exact h.1
  ·rw[if_neg ht]at hx;exact k3y h.2 hx
theorem Sim.has {β:Nat→BV}{a:Act}{w:World}(h:Sim N X0 M w0 st β a w) {st':St}(hs:st.has st'):Sim N X0 M w0 st' β a w :=
 h.less (fun t x hx=>k3y hs.1 hx) (fun t x hx=>k3y hs.2 hx)
theorem WP.part {code:Code}{st':St}(hs:st.has st') (h:WP c N X0 M w0 code st' K):WP c N X0 M w0 code st K:=fun hA β a w hw=>h hA β a w (hw.has hs)
theorem least {p:Nat→Prop}(h:∃n,p n):∃n,p n∧∀m,p m→n≤m:=by
 obtain⟨n,hn⟩:=h
 induction n using Nat.strongRecOn with
 | _ n ih =>
  by_cases hm:∃m,m<n∧p m
  ·obtain⟨m,hlt,hp⟩:=hm;exact ih m hlt hp
  ·exact⟨n,hn,fun m hp=>by
    rcases jFx m n with h|h
    ·exact absurd ⟨m,h,hp⟩ hm
    ·exact h⟩
open Classical in
theorem zL {S:Type}{p:Code}(I:S→St) (J:S→Prop) (μ:S→Nat) (s0:S) (h0:J s0) (hi:st.has (I s0))
  (hr:∀s,J s→WP c N X0 M w0 p (I s) (kGy (fun st'=>∃s',J s'∧μ s'<μ s∧st'.has (I s')) K)):WP c N X0 M w0 (.loop p) st K:=by
 intro hA β a w hs
 let Inv:Act→World→Nat→Prop:=fun a w n=>∃s β,J s∧μ s=n∧Sim N X0 M w0 (I s) β a w
 refine wp_loop (fun a w=>∃n,Inv a w n) (fun a w=>if h:∃n,Inv a w n then Classical.choose (least h)else 0) ⟨μ s0,s0,β,h0,rfl,hs.has hi⟩ ?_
 intro a w hI;have hsp:=Classical.choose_spec (least hI);obtain⟨⟨s,β',hj,hm,kLn⟩,_⟩:=hsp;refine Code.wp_mono (fun e a' w' hq=>?_) (hr s hj hA β' a w kLn)
 cases e with
 |normal =>
  obtain⟨st',β2,⟨s',hj',hlt,hhas⟩,h2⟩:=hq;have hI':∃n,Inv a' w' n:=⟨μ s',s',β2,hj',rfl,h2.has hhas⟩;refine⟨hI',?_⟩;simp only[dif_pos hI',dif_pos hI];have hle:=(Classical.choose_spec (least hI')).2 (μ s') ⟨s',β2,hj',rfl,h2.has hhas⟩
  omega
 | _=>exact hq
def St.out (st:St):ResultVar→Option SV
 | .tmp t=>some (st.get t)
 | .cell t _=>match st.get t with
  | .ptr id _ 0 0=>match lk id st.hp with
   |some (.box _ cs)=>some (.agg cs)
   | _=>none
  | _=>none
def outs (st:St):List ResultVar→Option (List SV)
 | []=>some []
 |r::l=>match st.out r,outs st l with
  |some x,some xs=>some (x::xs)
  | _,_=>none
def kJu (tys:List (Nat×TyD)) (st:St):ResultVar→Prop
 | .tmp _=>True
 | .cell t T=>∃d,lk T tys=some d∧d.kind=3∧∃id s,st.get t=.ptr id s 0 0∧∃e cs,lk id st.hp=some (.box e cs)∧cs.length=d.size
def okC (hp kAb:List (Nat×Ob)) (x:SV):SV→Prop
 | .own i=>match x with
  | .v (.slice none 0 0)=>∃e s,lk i kAb=some (.sl e s [])
  | .own j=>∃ob,lk j hp=some ob∧lk i kAb=some ob
  | _=>False
 | .sl s rows=>x=.sl s rows∨(rows=[]∧x=.v (.slice none 0 0))
 | .ptr i s a b=>match x with
  | .ptr j s' a' b'=>(s'=s∧a'=a∧b'=b)∧∃ob,lk j hp=some ob∧lk i kAb=some ob
  | _=>False
 |r=>x=r
def kG0 (x:SV):SV→List Nat
 | .own i=>match x with
  | .v (.slice none 0 0)=>[i]
  | _=>[]
 | _=>[]
def kEg (x:SV):SV→List (Nat×Nat)
 | .own i=>match x with
  | .own j=>[(i,j)]
  | _=>[]
 | .ptr i _ _ _=>match x with
  | .ptr j _ _ _=>[(i,j)]
  | _=>[]
 | _=>[]
def okL (hp kAb:List (Nat×Ob)):List SV→List SV→Prop
 | [],[]=>True
 |x::xs,r::rs=>okC hp kAb x r∧okL hp kAb xs rs
 | _,_=>False
def kIr:List SV→List SV→List Nat
 |x::xs,r::rs=>kG0 x r++kIr xs rs
 | _,_=>[]
def kFx:List SV→List SV→List (Nat×Nat)
 |x::xs,r::rs=>kEg x r++kFx xs rs
 | _,_=>[]
def okA (hp kAb:List (Nat×Ob)) (x:SV):SV→Prop
 | .agg cs=>match x.kE4 with
  |some ds=>okL hp kAb ds cs
  |none=>False
 |r=>okC hp kAb x r
def nilA (x:SV):SV→List Nat
 | .agg cs=>match x.kE4 with
  |some ds=>kIr ds cs
  |none=>[]
 |r=>kG0 x r
def keepA (x:SV):SV→List (Nat×Nat)
 | .agg cs=>match x.kE4 with
  |some ds=>kFx ds cs
  |none=>[]
 |r=>kEg x r
def okT (hp kAb:List (Nat×Ob)):List SV→List SV→Prop
 | [],[]=>True
 |x::xs,r::rs=>okA hp kAb x r∧okT hp kAb xs rs
 | _,_=>False
def kH3:List SV→List SV→List Nat
 |x::xs,r::rs=>nilA x r++kH3 xs rs
 | _,_=>[]
def kD3:List SV→List SV→List (Nat×Nat)
 |x::xs,r::rs=>keepA x r++kD3 xs rs
 | _,_=>[]
def cover (kAb:List (Nat×Ob)) (nl:List Nat) (kl:List (Nat×Nat)):Bool :=
 ((kAb.map (·.1)).all fun i=>(nl++kl.map (·.1)).contains i)&&(nl.all fun i=>!(kl.map (·.1)).contains i)&&kAz (kl.map (·.1))&&kAz (kl.map (·.2))
def kI5 (rs:SV):Option (List SV):=match rs with
 | .tup cs=>some cs
 | _=>none
def kGz (tys:List (Nat×TyD)) (rs:List ResultVar) (res:SV) (kAb:List (Nat×Ob)) (st:St):Prop :=
 (∀r∈rs,kJu tys st r)∧res.rok=true ∧
 match rs with
 | [r]=>match st.out r with
  |some x=>okA st.hp kAb x res∧cover kAb (nilA x res) (keepA x res)=true
  |none=>False
 |l=>match outs st l,kI5 res with
  |some xs,some cs=>okT st.hp kAb xs cs∧cover kAb (kH3 xs cs) (kD3 xs cs)=true
  | _,_=>False
def kI3 (tys:List (Nat×TyD)) (rs:List ResultVar) (res:SV) (kAb:List (Nat×Ob)):Exit→St→Prop
 | .normal,st=>kGz tys rs res kAb st
 | .ret,st=>kGz tys rs res kAb st
 | _,_=>False
def kC9:Nat→List SV→List (Nat×SV)
 | _,[]=>[]
 |k,x::l=>(k,x)::kC9 (k+1) l
theorem kUl:∀(l:List SV) (k t:Nat) (x:SV),lk t (kC9 k l)=some x→k≤t∧l[t-k]? = some x
 | [],k,t,x,h=>by cases h
 |y::l,k,t,x,h=>by
  simp only[kC9,lk]at h;by_cases ht:t=k
  ·rw[if_pos ht]at h;cases h;subst ht;exact⟨jDu _,zs⟩
  ·rw[if_neg ht]at h;obtain⟨h1,h2⟩:=kUl l (k+1) t x h;refine⟨zo,?_⟩;have:t-k=(t-(k+1))+1:=zo;rw[this,wHj];exact h2
def resF (tmps:Array Value):ResultVar→Sem Value
 | .tmp t=>pure (tmps.getD t undef)
 | .cell a t=>do loadVar t (←asAddr (tmps.getD a undef))
theorem out_ok {β:Nat→BV}{a:Act}{w:World}(h:Sim N X0 M w0 st β a w) {r:ResultVar}{x:SV}(hx:st.out r=some x)
  (hr:kJu c.tys st r) :
  ∃v,(resF a.tmps r).run c.P w=.ok v w∧R w (XX X0 β st.hp) β x v:=by
 cases r with
 |tmp t =>
  simp only[St.out,jBf]at hx;subst hx
  exact⟨_,rfl,St.kC1 h (.tmp t)⟩
 |cell t T =>
  obtain⟨d,hd,hk,id,s,hg,e,cs,hl,hlen⟩:=hr;simp only[St.out,hg,hl,jBf]at hx;subst hx;have hev:st.ev (.tmp t)=.ptr id s 0 0:=hg;obtain⟨b,hb,hv⟩:=(hev▸St.kC1 h (.tmp t):R w _ β (.ptr id s 0 0) (a.eval (.tmp t))).kEr
  have hv':a.tmps.getD t undef=.pointer (some ⟨b,0,none⟩):=by
   have:a.eval (.tmp t)=a.tmps.getD t undef:=rfl;rw[←this,hv];simp
  obtain⟨b',hvb,hcell⟩:=(h.objs id _ hl).qBt;have hbb:b=b':=by rw[hvb]at hb;simpa[blk,plain]using hb.symm
  subst hbb
  obtain⟨v,hr,hR⟩:=k09 (c.hty T d hd) (w:=w) (X:=XX X0 β st.hp) (β:=β) (b:=b) (off:=0) (k:=0) (row:=cs) zo (c.hty T d hd).one (fun j hj=>by
   obtain⟨q,u,h1,h2,_,h3⟩:=hcell j zo;exact⟨q,u,by simpa using h1,by simpa using h2,h3⟩)
  refine⟨v,by simp[resF,hv',asAddr];exact hr,?_⟩
  have:kCa d.kind d.size cs 0=.agg cs:=by
   unfold kCa;rw[if_pos hk,jWe,vDk zo]
  rw[←this];exact hR
theorem qBz {β:Nat→BV}{a:Act}{w:World}(h:Sim N X0 M w0 st β a w):∀(rs:List ResultVar) {xs:List SV},outs st rs=some xs →
  (∀r∈rs,kJu c.tys st r) →
  ∃vs,(rs.mapM (resF a.tmps)).run c.P w=.ok vs w∧xs.length=vs.length∧∀(k:Nat) (y:SV) (u:Value),xs[k]? = some y→vs[k]? = some u→R w (XX X0 β st.hp) β y u
 | [],xs,hx,_=>by
  simp only[outs,jBf]at hx;subst hx
  exact⟨[],zs,rfl,zs⟩
 |r::l,xs,hx,hr=>by
  simp only[outs]at hx;split at hx
  ·rename_i x xs' h1 h2;cases hx;obtain⟨v,hv,hR⟩:=out_ok (c:=c) h h1 (hr r jYt);obtain⟨vs,hvs,hl,hRs⟩:=qBz h l h2 (fun r hm=>hr r (jZr _ hm))
   refine⟨v::vs,by simp[List.mapM_cons,hv,hvs],by simp[hl],fun k y u hy hu=>?_⟩
   cases k with
   |zero=>simp at hy hu;subst hy hu;exact hR
   |succ k=>exact hRs k y u (by simpa using hy) (by simpa using hu)
  ·cases hx
theorem results_eq (fn:Func) (tmps:Array Value):Go.results fn tmps=(do
  let vs ←fn.results.mapM (resF tmps)
  pure (if h:vs.size=1 then vs[0]else .tuple vs)):=rfl
section
variable {w':World}{X:Nat→Prop}{β β':Nat→BV}{hp kAb:List (Nat×Ob)}
theorem k1f {x res:SV}{v:Value}(h:okC hp kAb x res) (hR:R w' X β x v) (hk:res.kIp=true) (hn:∀i∈kG0 x res,β' i=kEm) (hb:∀p∈kEg x res,β' p.1=β p.2):R w' X β' res v:=by
 cases res with
 |own i =>
  simp only[okC]at h;split at h
  ·have:=hR.kAn;subst this;have h0:=R.own (w:=w') (X:=X) (β:=β') i;rw[hn i (by simp[kG0])]at h0;exact h0
  ·rename_i j;have:=hR.kB9;subst this;rw[←hb (i,j) (by simp[kEg])];exact .own i
  ·exact h.elim
 |v y=>simp only[okC]at h;subst h;have:=hR.kAn;subst this;exact .p (.v _)
 |sl s rows =>
  simp only[okC]at h;rcases h with h|⟨h1,h2⟩
  ·subst h;exact .p hR.kF4
  ·subst h1 h2;have:=hR.kAn;subst this;exact .p (.nil s _ _)
 |ptr i s a b =>
  simp only[okC]at h;split at h
  ·rename_i j s' a' b';obtain⟨⟨rfl,rfl,rfl⟩,_⟩:=h;obtain⟨bb,hbb,rfl⟩:=hR.kEr;exact .ptr i _ _ _ bb (by rw[hb (i,j) (by simp[kEg])];exact hbb)
  ·exact h.elim
 | _=>cases hk
theorem qB0 {x res:SV}(h:okC hp kAb x res):(∀i∈kG0 x res,∃e s,lk i kAb=some (.sl e s []))∧∀p∈kEg x res,∃ob,lk p.2 hp=some ob∧lk p.1 kAb=some ob:=by
 cases res with
 |own i =>
  simp only[okC,kG0,kEg]at h⊢;split at h
  ·simpa using h
  ·simpa using h
  ·exact h.elim
 |ptr i s a b =>
  simp only[okC,kG0,kEg]at h⊢;split at h
  ·simpa using h.2
  ·exact h.elim
 | _=>simp[kG0,kEg]
theorem okL_R:∀{xs rs:List SV}{us:List Value},okL hp kAb xs rs→xs.length=us.length→(∀(k:Nat) (c:SV) (u:Value),xs[k]? = some c→us[k]? = some u→R w' X β c u)→rs.all SV.kIp=true →
  (∀i∈kIr xs rs,β' i=kEm)→(∀p∈kFx xs rs,β' p.1=β p.2)→rs.length=us.length∧∀(k:Nat) (c:SV) (u:Value),rs[k]? = some c→us[k]? = some u→R w' X β' c u
 | [],[],us,_,hl,_,_,_,_=>⟨hl,fun k c u hc=>by simp at hc⟩
 |x::xs,r::rs,u0::us,h,hl,hR,hk,hn,hb=>by
  simp only[jZy,jBs]at hk;have ih:=okL_R (us:=us) h.2 (by simpa using hl) (fun k c u hc hu=>hR (k+1) c u (by simpa using hc) (by simpa using hu)) hk.2 (fun i hi=>hn i (vMm _ hi)) (fun i hi=>hb i (vMm _ hi))
  have h0:=k1f h.1 (hR 0 x u0 rfl rfl) hk.1 (fun i hi=>hn i (vJc _ hi)) (fun i hi=>hb i (vJc _ hi))
  refine⟨by simp[ih.1],fun k c u hc hu=>?_⟩
  cases k with
  |zero=>simp at hc hu;subst hc hu;exact h0
  |succ k=>exact ih.2 k c u (by simpa using hc) (by simpa using hu)
 |x::xs,r::rs,[],_,hl,_,_,_,_=>by simp at hl
 | [],_::_,_,h,_,_,_,_,_=>h.elim
 | _::_,[],_,h,_,_,_,_,_=>h.elim
theorem k3z:∀{xs rs:List SV},okL hp kAb xs rs→(∀i∈kIr xs rs,∃e s,lk i kAb=some (.sl e s []))∧∀p∈kFx xs rs,∃ob,lk p.2 hp=some ob∧lk p.1 kAb=some ob
 | [],[],_=>by simp[kIr,kFx]
 |x::xs,r::rs,h=>by
  have h1:=qB0 h.1;have h2:=k3z h.2;refine⟨fun i hi=>?_,fun i hi=>?_⟩
  ·rcases jTf.1 hi with hi|hi
   ·exact h1.1 i hi
   ·exact h2.1 i hi
  ·rcases jTf.1 hi with hi|hi
   ·exact h1.2 i hi
   ·exact h2.2 i hi
 | [],_::_,h=>h.elim
 | _::_,[],h=>h.elim
theorem okA_R {x res:SV}{v:Value}(h:okA hp kAb x res) (hR:R w' X β x v) (hk:res.kIq=true) (hn:∀i∈nilA x res,β' i=kEm) (hb:∀p∈keepA x res,β' p.1=β p.2):R w' X β' res v:=by
 cases res with
 |agg cs =>
  simp only[okA]at h;simp only[nilA,keepA]at hn hb;split at h
  ·rename_i ds hds;rw[hds]at hn hb;obtain⟨us,rfl,hl,hh⟩:=k3v hds hR;have:=okL_R h hl hh hk hn hb;exact .agg this.1 this.2
  ·exact h.elim
 |v y=>exact k1f (hp:=hp) (kAb:=kAb) h hR hk hn hb
 |sl s rows=>exact k1f (hp:=hp) (kAb:=kAb) h hR hk hn hb
 |own i=>exact k1f (hp:=hp) (kAb:=kAb) h hR hk hn hb
 |ptr i s a b=>exact k1f (hp:=hp) (kAb:=kAb) h hR hk hn hb
 | _=>cases hk
theorem qB1 {x res:SV}(h:okA hp kAb x res):(∀i∈nilA x res,∃e s,lk i kAb=some (.sl e s []))∧∀p∈keepA x res,∃ob,lk p.2 hp=some ob∧lk p.1 kAb=some ob:=by
 cases res with
 |agg cs =>
  simp only[okA]at h;simp only[nilA,keepA];split at h
  ·rename_i ds hds;first|(rw[hds];exact k3z h)|exact k3z h
  ·exact h.elim
 | _=>simp only[okA]at h;exact qB0 (hp:=hp) (kAb:=kAb) h
theorem okT_R:∀{xs rs:List SV}{us:List Value},okT hp kAb xs rs→xs.length=us.length→(∀(k:Nat) (c:SV) (u:Value),xs[k]? = some c→us[k]? = some u→R w' X β c u)→rs.all SV.kIq=true →
  (∀i∈kH3 xs rs,β' i=kEm)→(∀p∈kD3 xs rs,β' p.1=β p.2)→rs.length=us.length∧∀(k:Nat) (c:SV) (u:Value),rs[k]? = some c→us[k]? = some u→R w' X β' c u
 | [],[],us,_,hl,_,_,_,_=>⟨hl,fun k c u hc=>by simp at hc⟩
 |x::xs,r::rs,u0::us,h,hl,hR,hk,hn,hb=>by
  simp only[jZy,jBs]at hk;have ih:=okT_R (us:=us) h.2 (by simpa using hl) (fun k c u hc hu=>hR (k+1) c u (by simpa using hc) (by simpa using hu)) hk.2 (fun i hi=>hn i (vMm _ hi)) (fun i hi=>hb i (vMm _ hi))
  have h0:=okA_R h.1 (hR 0 x u0 rfl rfl) hk.1 (fun i hi=>hn i (vJc _ hi)) (fun i hi=>hb i (vJc _ hi))
  refine⟨by simp[ih.1],fun k c u hc hu=>?_⟩
  cases k with
  |zero=>simp at hc hu;subst hc hu;exact h0
  |succ k=>exact ih.2 k c u (by simpa using hc) (by simpa using hu)
 |x::xs,r::rs,[],_,hl,_,_,_,_=>by simp at hl
 | [],_::_,_,h,_,_,_,_,_=>h.elim
 | _::_,[],_,h,_,_,_,_,_=>h.elim
theorem qB2:∀{xs rs:List SV},okT hp kAb xs rs→(∀i∈kH3 xs rs,∃e s,lk i kAb=some (.sl e s []))∧∀p∈kD3 xs rs,∃ob,lk p.2 hp=some ob∧lk p.1 kAb=some ob
 | [],[],_=>by simp[kH3,kD3]
 |x::xs,r::rs,h=>by
  have h1:=qB1 h.1;have h2:=qB2 h.2;refine⟨fun i hi=>?_,fun i hi=>?_⟩
  ·rcases jTf.1 hi with hi|hi
   ·exact h1.1 i hi
   ·exact h2.1 i hi
  ·rcases jTf.1 hi with hi|hi
   ·exact h1.2 i hi
   ·exact h2.2 i hi
 | [],_::_,h=>h.elim
 | _::_,[],h=>h.elim
end
theorem qK1 {st:St}:∀(l:List ResultVar) {xs},outs st l=some xs→xs.length=l.length:=by
 intro l
 induction l with
 |nil=>intro xs hx;simp only[outs,jBf]at hx;subst hx;rfl
 |cons r l ih =>
  intro xs hx;simp only[outs]at hx;split at hx
  ·rename_i x xs' _ h2;cases hx;simp[ih h2]
  ·cases hx
theorem k1g {d:Nat}{l:List Nat}(h:kAz (d::l)=true):d∉l∧kAz l=true:=by simpa[kAz]using h
theorem k7o:∀{l:List (Nat×Nat)}{i j:Nat},kAz (l.map (·.1))=true→(i,j)∈l→lk i l=some j
 | (a,b)::l,i,j,h,hm=>by
  obtain⟨h1,h2⟩:=k1g h;simp only[lk];rcases jDr.1 hm with e|hm
  ·cases e;rw[if_pos rfl]
  ·rw[if_neg (fun e=>h1 (by rw[←e];exact jCr.2 ⟨_,hm,rfl⟩))]
   exact k7o h2 hm
theorem k43:∀{l:List (Nat×Nat)}{i i' j:Nat},kAz (l.map (·.2))=true→(i,j)∈l→(i',j)∈l→i=i'
 | (a,b)::l,i,i',j,h,hm,hm'=>by
  obtain⟨h1,h2⟩:=k1g h;rcases jDr.1 hm with e|hm
  ·rcases jDr.1 hm' with e'|hm'
   ·cases e;cases e';rfl
   ·cases e;exact absurd (jCr.2 ⟨_,hm',rfl⟩) h1
  ·rcases jDr.1 hm' with e'|hm'
   ·cases e';exact absurd (jCr.2 ⟨_,hm,rfl⟩) h1
   ·exact k43 h2 hm hm'
def kGx (rs:List ResultVar) (res:SV) (st:St):List Nat:=match rs with
 | [r]=>match st.out r with
  |some x=>(keepA x res).map (·.2)
  |none=>[]
 |l=>match outs st l,kI5 res with
  |some xs,some cs=>(kD3 xs cs).map (·.2)
  | _,_=>[]
def qD1 (L:List Nat) (st:St) (β β':Nat→BV) (kAb:List (Nat×Ob)):Prop :=
 (∀i,(β' i).val.oneCell'=true)∧∃rel:Nat→Nat→Prop,(∀i i' j,rel i j→rel i' j→i=i')∧(∀i j,rel i j→j∈L) ∧
  ∀i ob,lk i kAb=some ob→(β' i=kEm∧∃e s,ob=.sl e s [])∨(∃j,rel i j∧β' i=β j∧lk j st.hp=some ob)
theorem k35 {β:Nat→BV}{a:Act}{w:World}(h:Sim N X0 M w0 st β a w) {fn:Func}{rs:List ResultVar}(hrs:fn.results.toList=rs) {res:SV}{kAb:List (Nat×Ob)}(ho:kGz c.tys rs res kAb st) :
  ∃v β',(Go.results fn a.tmps).run c.P w=.ok v w∧R w (XX X0 β st.hp) β' res v∧qD1 (kGx rs res st) st β β' kAb:=by
 have hfr:fn.results=rs.toArray:=by rw[←hrs]
 obtain⟨h2,kOt,h1⟩:=ho;rw[results_eq,hfr]
 have fin:∀(nl:List Nat) (kl:List (Nat×Nat)),cover kAb nl kl=true→(∀i∈nl,∃e s,lk i kAb=some (.sl e s []))→(∀p∈kl,∃ob,lk p.2 st.hp=some ob∧lk p.1 kAb=some ob) →
   let β':Nat→BV:=fun i=>if i∈nl then kEm else match lk i kl with|some j=>β j|none=>β i
   qD1 (kl.map (·.2)) st β β' kAb∧(∀i∈nl,β' i=kEm)∧(∀p∈kl,β' p.1=β p.2):=by
  intro nl kl hcv hn hk β';simp only[cover,jBs]at hcv;obtain⟨⟨⟨c1,c2⟩,c3⟩,c4⟩:=hcv
  have hkl:∀p∈kl,β' p.1=β p.2:=fun p hp=>by
   have:p.1∉nl:=fun hin=>by
    have:=jDl.1 c2 p.1 hin;simp at this;exact this p.2 hp
   simp[β',this,k7o c3 hp]
  refine⟨⟨fun i=>?_,fun i j=>(i,j)∈kl,fun i i' j h1 h2=>k43 c4 h1 h2,fun i j hh=>jCr.2 ⟨(i,j),hh,rfl⟩,fun i ob hi=>?_⟩,fun i hi=>by simp[β',hi],hkl⟩
  ·by_cases hi:i∈nl
   ·simp[β',hi,kEm,Value.oneCell']
   ·simp only[β',hi,if_false];split<;>exact h.beta _
  ·have:=jDl.1 c1 i (jCr.2 ⟨(i,ob),kBf hi,rfl⟩);by_cases hin:i∈nl
   ·obtain⟨e,s,he⟩:=hn i hin;rw[he]at hi;cases hi;exact .inl ⟨by simp[β',hin],e,s,rfl⟩
   ·have hik:i∈kl.map (·.1):=by
     rw[jOa,jTf]at this;exact this.resolve_left hin
    obtain⟨p,hp,rfl⟩:=jCr.1 hik;obtain⟨o,h3,h4⟩:=hk p hp;rw[h4]at hi;cases hi;exact .inr ⟨p.2,hp,hkl p hp,h3⟩
 have two:∀(xs cs:List SV),outs st rs=some xs→kI5 res=some cs→rs.length≠1→okT st.hp kAb xs cs∧cover kAb (kH3 xs cs) (kD3 xs cs)=true →
   ∃v β',(do let vs ←rs.toArray.mapM (resF a.tmps);pure (if h:vs.size=1 then vs[0]else .tuple vs):Sem Value).run c.P w=.ok v w∧R w (XX X0 β st.hp) β' res v∧qD1 ((kD3 xs cs).map (·.2)) st β β' kAb:=fun xs cs hx hc hn hk=>by
  obtain⟨vs,hv,hl,hR⟩:=qBz (c:=c) h rs hx h2;have hvn:vs.length≠1:=by rw[←hl,qK1 rs hx];exact hn
  have hcov:=qB2 hk.1;obtain⟨f1,f2,f3⟩:=fin _ _ hk.2 hcov.1 hcov.2
  cases res with
  |tup ds =>
   simp only[kI5,jBf]at hc;subst hc;have:=okT_R hk.1 hl hR kOt f2 f3
   exact⟨.tuple vs.toArray,_,by simp[hv,hvn],.tup this.1 this.2,f1⟩
  | _=>cases hc
 match rs,h1,h2,two with
 | [],h1,h2,two =>
  simp only at h1;split at h1
  ·rename_i xs cs hx hc;have e:kGx [] res st=(kD3 xs cs).map (·.2):=by simp only[kGx,hx,hc]
   rw[e];exact two xs cs hx hc zs h1
  ·exact h1.elim
 | [r],h1,h2,two =>
  simp only at h1;split at h1
  ·rename_i x hx;have eJ:kGx [r] res st=(keepA x res).map (·.2):=by simp only[kGx,hx]
   rw[eJ];obtain⟨v,hv,hR⟩:=out_ok (c:=c) h hx (h2 r jYt);have hcov:=qB1 h1.1;obtain⟨f1,f2,f3⟩:=fin _ _ h1.2 hcov.1 hcov.2
   cases hres:res with
   |tup ds =>
    rw[hres]at h1;simp only[okA,okC]at h1;rw[h1.1]at hR;refine⟨v,β,by simp[hv],hR,h.beta,fun _ _=>False,fun _ _ _ hf=>hf.elim,fun _ _ hf=>hf.elim,fun i ob hi=>?_⟩
    have h12:=h1.2;have e1:nilA x (.tup ds)=[]:=rfl;have e2:keepA x (.tup ds)=[]:=rfl;rw[e1,e2]at h12;simp only[cover,jBs]at h12;have:=jDl.1 h12.1.1.1 i (jCr.2 ⟨(i,ob),kBf hi,rfl⟩)
    simp at this
   | _=>rw[hres]at h1 kOt f1 f2 f3;exact⟨v,_,by simp[hv],okA_R h1.1 hR kOt f2 f3,f1⟩
  ·exact h1.elim
 |r::r'::l,h1,h2,two =>
  simp only at h1;split at h1
  ·rename_i xs cs hx hc;have e:kGx (r::r'::l) res st=(kD3 xs cs).map (·.2):=by simp only[kGx,hx,hc]
   rw[e];exact two xs cs hx hc zs h1
  ·exact h1.elim
theorem Holds.qD2 {f:FuncId}{fn:Func}{code:Code}(hf:c.P.funcs[f]? = some fn) (hb:fn.body=some code) {rs:List ResultVar}(hrs:fn.results.toList=rs) (hn:fn.ntmps=N) (hfew:N≤900000) {args:List SV}(ha:args.length≤N) {res:SV}{kAb:List (Nat×Ob)}
  (hrb:∀{id ob} ,lk id kAb=some ob→ob.pb=true)
  (h:∀(X0:Nat→Prop) (w0:World),WP c N X0 (fun _ _=>False) w0 code ⟨kC9 0 args,[]⟩ (kI3 c.tys rs res kAb)):Holds c.P f args res kAb:=by
 intro w X vs hG hX hl hargs;refine calls_of_wp hf hb ?_
 have kLn:Sim N X (fun _ _=>False) w ⟨kC9 0 args,[]⟩ (fun _=>kEm) { tmps:=vs.toArray++Array.replicate (fn.ntmps-vs.toArray.size) undef,defers:=[] } w:={
  size:=by simp[hn];omega
  defers:=.nil fun _ h=>h.elim
  beta:=fun _=>rfl
  slots:=fun t x hx=>by
   obtain⟨_,h1⟩:=kUl args 0 t x hx;simp only[Nat.sub_zero]at h1;have ht:t<vs.length:=by rw[hl];exact(jSg.1 h1).1
   have hv:vs[t]? = some (vs[t]'ht):=jD9 ht
   have:(vs.toArray++Array.replicate (fn.ntmps-vs.toArray.size) undef).getD t undef=vs[t]'ht:=by
    rw[jMv,yPf (by simpa using ht)]
    simp[ht]
   rw[this];refine((hargs t x _ h1 hv).mono ⟨jDu _,fun _ _ _=>rfl⟩ fun b _ hb=>?_)
   rcases hb with hb|⟨id,ob,hi,_⟩
   ·exact hb
   ·cases hi
  objs:=fun id ob hi=>by cases hi
  inj:=fun i j oi oj b hi=>by cases hi
  x0:=hX
  mine:=fun id ob b hi=>by cases hi
  pin:=fun id v h=>h.elim
  few:=hfew
  os:=rfl
  tape:=rfl
  output:=rfl
  grew:=jDu _
  kept:=fun _ _ _=>rfl }
 refine Code.wp_mono (fun e a w' hq=>?_) (h X w ⟨fun b hb=>⟨hX b hb,fun⟨_,_,hf,_⟩=>hf⟩,hG,fun b ⟨_,_,hf,_⟩=>hf.elim⟩ _ _ _ kLn)
 have fin:∀{st':St}{β':Nat→BV},kGz c.tys rs res kAb st'→Sim N X (fun _ _=>False) w st' β' a w'→a.defers=[]∧∃v,(Go.results fn a.tmps).run c.P w'=.ok v w' ∧
   ∃v' β,Ending.returned v=.returned v'∧Go.RowKit.Below w.heap.size w w'∧(∀i,(β i).val.oneCell'=true)∧R w' (XX X β kAb) β res v'∧Obs w' X β kAb∧∀id ob b,lk id kAb=some ob→(β id).ft b→w.heap.size≤b:=fun{st' β'} ho hs=>by
  obtain⟨v,β2,hr,hR,hβ2,rel,hrel,_,hcov⟩:=k35 (c:=c) hs hrs ho;have hS:Same (XX X β' st'.hp) w' w':=⟨jDu _,fun _ _ _=>rfl⟩
  have kept:∀{id ob b},lk id kAb=some ob→(β2 id).ft b→∃j,rel id j∧β2 id=β' j∧lk j st'.hp=some ob:=fun{id ob b} hi hb=>by
   rcases hcov id ob hi with⟨h1,_⟩|h1
   ·rw[h1]at hb;cases hb
   ·exact h1
  have hXs:∀b,b<w'.heap.size→XX X β2 kAb b→XX X β' st'.hp b:=fun b _ hb=>by
   rcases hb with hb|⟨id,ob,hi,hb⟩
   ·exact .inl hb
   ·obtain⟨j,_,h1,h2⟩:=kept hi hb;exact .inr ⟨j,ob,h2,by rw[←h1];exact hb⟩
  refine⟨hs.defers.2 (fun _ h=>h.elim),v,hr,v,β2,rfl,⟨hs.os,hs.tape,hs.output,hs.grew,fun b hb=>hs.kept b hb (fun⟨_,_,hf,_⟩=>hf)⟩,hβ2,hR.mono hS hXs,⟨fun id ob hi=>?_,fun i j oi oj b hi hj hbi hbj=>?_⟩,fun id ob b hi hb=>?_⟩
  ·rcases hcov id ob hi with⟨h1,e,s,rfl⟩|⟨j,_,h1,h2⟩
   ·exact .nil e s h1
   ·rw[h1];have hO:=hs.objs j ob h2
    cases ob with
    |sl e s rows=>exact(hO.mono hS hXs (fun _ _=>rfl)).k3x
    |box e cs=>exact(hO.mono hS hXs (fun _ _=>rfl)).kJ9 (hrb hi)
    |mp e es=>exact(hO.mono hS hXs (fun _ _=>rfl)).kJ9 (hrb hi)
    |dp e s rows=>exact(hO.mono hS hXs (fun _ _=>rfl)).kJ9 (hrb hi)
    |dq e s rows i0 row0=>exact(hO.mono hS hXs (fun _ _=>rfl)).kJ9 (hrb hi)
  ·obtain⟨k1,r1,h1,h2⟩:=kept hi hbi;obtain⟨k2,r2,h3,h4⟩:=kept hj hbj;have:=hs.inj k1 k2 oi oj b h2 h4 (by rw[←h1];exact hbi) (by rw[←h3];exact hbj)
   subst this;exact hrel i j k1 r1 r2
  ·obtain⟨j,_,h1,h2⟩:=kept hi hb;rcases hs.mine j ob b h2 (by rw[←h1];exact hb)with hf|hge
   ·obtain⟨_,_,hf,_⟩:=hf;exact hf.elim
   ·exact hge
 cases e with
 |normal=>obtain⟨st',β',ho,hs⟩:=hq;exact fin ho hs
 |ret=>obtain⟨st',β',ho,hs⟩:=hq;exact fin ho hs
 | _=>obtain⟨st',β',ho,hs⟩:=hq;exact ho.elim
end
end
section
def St.mvL (st:St):List (Nat×Nat)→St
 | []=>st
 | (i,j)::l=>(st.mv i j).mvL l
def St.kH2 (fz:List Nat) (rn:List (Nat×Nat)) (st:St):St:=(st.fzL fz).mvL rn
def kI2 (rn:List (Nat×Nat)):Bool:=rn.all fun p=>decide (p.2<1000000)&&p.1 != p.2
section
variable {c:Cx}{N:Nat}{X0:Nat→Prop}{M:Nat→BV→Prop}{w0:World}{st:St}{K:Exit→St→Prop}
theorem Sim.mvL {a:Act}{w:World}:∀{rn:List (Nat×Nat)}{s1:St}{β:Nat→BV},kI2 rn=true→Sim N X0 M w0 s1 β a w→∃β',Sim N X0 M w0 (s1.mvL rn) β' a w
 | [],s1,β,_,h=>⟨β,h⟩
 | (i,j)::rn,s1,β,hr,h=>by
  unfold kI2 at hr;rw[jZy,jBs]at hr;have h0:=hr.1;simp only[jBs,decide_eq_true_eq,bne_iff_ne]at h0;obtain⟨β1,h1⟩:=h.mv h0.1 h0.2;exact Sim.mvL (rn:=rn) (s1:=s1.mv i j) hr.2 h1
theorem Sim.kH2 {P:Program}{a:Act}{w:World}{β:Nat→BV}(hA:Ap P X0 M w0) {fz:List Nat}{rn:List (Nat×Nat)}(hr:kI2 rn=true) (h:Sim N X0 M w0 st β a w):∃β',Sim N X0 M w0 (st.kH2 fz rn) β' a w :=
 (h.fzL hA fz).mvL hr
theorem zP (fz:List Nat) (rn:List (Nat×Nat)) (hr:kI2 rn=true) {code:Code}(h:WP c N X0 M w0 code (st.kH2 fz rn) K):WP c N X0 M w0 code st K:=fun hA β a w hs=>by
 obtain⟨β',h'⟩:=hs.kH2 hA (fz:=fz) hr;exact h hA β' a w h'
def kJr (tys:List (Nat×TyD)) (rs:List ResultVar) (res:SV) (kAb kept:List (Nat×Ob)) (st:St):Prop :=
 kGz tys rs res kAb st∧(∀p∈kept,lk p.1 st.hp=some p.2)∧∀j∈kGx rs res st,(kept.map (·.1)).contains j=false
def kJs (tys:List (Nat×TyD)) (rs:List ResultVar) (res:SV) (kAb kept:List (Nat×Ob)):Exit→St→Prop
 | .normal,st=>kJr tys rs res kAb kept st
 | .ret,st=>kJr tys rs res kAb kept st
 | _,_=>False
theorem kI7.qD2 {f:FuncId}{fn:Func}{code:Code}(hf:c.P.funcs[f]? = some fn) (hb:fn.body=some code) {rs:List ResultVar}(hrs:fn.results.toList=rs) (hn:fn.ntmps=N) (hfew:N≤900000) {args:List SV}(ha:args.length≤N)
  {obs:List (Nat×Ob)}{res:SV}{kAb kept:List (Nat×Ob)}(hrb:∀{id ob} ,lk id kAb=some ob→ob.pb=true) (hrid:∀i∈kAb.map (·.1),i<900000) (hres:∀i∈res.kCv,i∈kAb.map (·.1))
  (hkid:∀i∈kept.map (·.1),1000000≤i) (hkre:kept.map (fun p=>(p.1,p.2.up (SV.kBr (kept.map fun q=>(q.1,q.1)))))=kept) (hkn:(kept.map (·.1)).Nodup) (hall:∀i∈obs.map (·.1),1000000≤i→i∈kept.map (·.1))
  (h:∀(X0:Nat→Prop) (M:Nat→BV→Prop) (w0:World),WP c N X0 M w0 code ⟨kC9 0 args,obs⟩ (kJs c.tys rs res kAb kept)):kI7 c.P f args obs res kAb kept:=by
 intro w X β vs hG hβ hX hl hargs kS8 kYn;refine calls_of_wp hf hb ?_
 let M:Nat→BV→Prop:=fun id v=>(∃ob,lk id obs=some ob)∧v=β id
 have hMB:∀b,MB M b↔∃id ob,lk id obs=some ob∧(β id).ft b:=fun b=>by
  constructor
  ·rintro⟨id,v,⟨⟨ob,h1⟩,rfl⟩,h3⟩;exact⟨id,ob,h1,h3⟩
  ·rintro⟨id,ob,h1,h3⟩;exact⟨id,β id,⟨⟨ob,h1⟩,rfl⟩,h3⟩
 have hA:Ap c.P X M w:=⟨fun b hb=>⟨hX b hb,fun hm=>by
  obtain⟨id,ob,h1,h2⟩:=(hMB b).1 hm;exact(kYn id ob b h1 h2).1 hb⟩,hG,fun b hm=>by
  obtain⟨id,ob,h1,h2⟩:=(hMB b).1 hm;exact(kYn id ob b h1 h2).2⟩
 have kLn:Sim N X M w ⟨kC9 0 args,obs⟩ β { tmps:=vs.toArray++Array.replicate (fn.ntmps-vs.toArray.size) undef,defers:=[] } w:={
  size:=by simp[hn];omega
  defers:=.nil fun v h=>by rw[h.2];exact hβ 0
  beta:=hβ
  slots:=fun t x hx=>by
   obtain⟨_,h1⟩:=kUl args 0 t x hx;simp only[Nat.sub_zero]at h1;have ht:t<vs.length:=by rw[hl];exact(jSg.1 h1).1
   have hv:vs[t]? = some (vs[t]'ht):=jD9 ht
   have:(vs.toArray++Array.replicate (fn.ntmps-vs.toArray.size) undef).getD t undef=vs[t]'ht:=by
    rw[jMv,yPf (by simpa using ht)]
    simp[ht]
   rw[this];exact hargs t x _ h1 hv
  objs:=kS8.1
  inj:=kS8.2
  x0:=hX
  mine:=fun id ob b hi hb=>.inl ((hMB b).2 ⟨id,ob,hi,hb⟩)
  pin:=fun id v hm _=>congrArg BV.val hm.2.symm
  few:=hfew
  os:=rfl
  tape:=rfl
  output:=rfl
  grew:=jDu _
  kept:=fun _ _ _=>rfl }
 refine Code.wp_mono (fun e a w' hq=>?_) (h X M w hA _ _ _ kLn)
 have fin:∀{st':St}{β':Nat→BV},kJr c.tys rs res kAb kept st'→Sim N X M w st' β' a w'→a.defers=[]∧∃v,(Go.results fn a.tmps).run c.P w'=.ok v w' ∧
   ∃v' β'',Ending.returned v=.returned v'∧w'.os=w.os∧w'.tape=w.tape∧w'.output=w.output∧w.heap.size≤w'.heap.size ∧
   (∀b,b<w.heap.size→(¬∃id ob,lk id obs=some ob∧(β id).ft b)→w'.heap[b]? = w.heap[b]?)∧(∀i,(β'' i).val.oneCell'=true)∧(∀i ob,1000000≤i→lk i obs=some ob→(β'' i).val=(β i).val) ∧
   R w' (XX X β'' (kAb++kept)) β'' res v'∧Obs w' X β'' (kAb++kept) ∧
   ∀id ob b,lk id (kAb++kept)=some ob→(β'' id).ft b→w.heap.size≤b∨∃k o,lk k obs=some o∧(β k).ft b:=fun{st' β'} ho hs=>by
  obtain⟨ho1,hkept,hJ⟩:=ho;obtain⟨v,β2,hr,hR,hβ2,rel,hrel,hrelJ,hcov⟩:=k35 (c:=c) hs hrs ho1;have hS:∀Y:Nat→Prop,Same Y w' w':=fun Y=>⟨jDu _,fun _ _ _=>rfl⟩
  let βf:Nat→BV:=fun i=>if i∈kept.map (·.1)then β' i else β2 i
  have hin:∀{i},i∈kept.map (·.1)→βf i=β' i:=fun{i} hi=>by show(if i∈kept.map (·.1)then β' i else β2 i)=_;rw[if_pos hi]
  have hout:∀{i},i∉kept.map (·.1)→βf i=β2 i:=fun{i} hi=>by show(if i∈kept.map (·.1)then β' i else β2 i)=_;rw[if_neg hi]
  have hrk:∀{i},i∈kAb.map (·.1)→i∉kept.map (·.1):=fun{i} hi hk=>by have:=hrid i hi;have:=hkid i hk;omega
  have hsplit:∀{i ob},lk i (kAb++kept)=some ob→(i∉kept.map (·.1)∧βf i=β2 i∧lk i kAb=some ob)∨(i∈kept.map (·.1)∧βf i=β' i∧lk i kept=some ob∧lk i st'.hp=some ob):=fun{i ob} hi=>by
   rw[kC5]at hi
   cases hq:lk i kAb with
   |some y =>
    rw[hq]at hi;cases hi;have hir:i∈kAb.map (·.1):=jCr.2 ⟨(i,ob),kBf hq,rfl⟩
    exact .inl ⟨hrk hir,hout (hrk hir),rfl⟩
   |none =>
    rw[hq]at hi;have hi:lk i kept=some ob:=hi;have hik:i∈kept.map (·.1):=jCr.2 ⟨(i,ob),kBf hi,rfl⟩
    exact .inr ⟨hik,hin hik,hi,hkept (i,ob) (kBf hi)⟩
  have kept':∀{id ob b},lk id kAb=some ob→(β2 id).ft b→∃j,rel id j∧β2 id=β' j∧lk j st'.hp=some ob:=fun{id ob b} hi hb=>by
   rcases hcov id ob hi with⟨h1,_⟩|h1
   ·rw[h1]at hb;cases hb
   ·exact h1
  have hXs:∀b,XX X βf (kAb++kept) b→XX X β' st'.hp b:=fun b hb=>by
   rcases hb with hb|⟨id,ob,hi,hb⟩
   ·exact .inl hb
   ·rcases hsplit hi with⟨_,e,hi⟩|⟨_,e,_,hi⟩
    ·rw[e]at hb;obtain⟨j,_,h1,h2⟩:=kept' hi hb;exact .inr ⟨j,ob,h2,by rw[←h1];exact hb⟩
    ·rw[e]at hb;exact .inr ⟨id,ob,hi,hb⟩
  refine⟨hs.defers.2 (fun v h=>by rw[h.2];exact hβ 0),v,hr,v,βf,rfl,hs.os,hs.tape,hs.output,hs.grew,fun b hb hn=>hs.kept b hb (fun hm=>hn ((hMB b).1 hm)),fun i=>?_,fun i ob h1 hi=>?_,?_,⟨fun id ob hi=>?_,fun i j oi oj b hi hj hbi hbj=>?_⟩,fun id ob b hi hb=>?_⟩
  ·by_cases hk:i∈kept.map (·.1)
   ·rw[hin hk];exact hs.beta i
   ·rw[hout hk];exact hβ2 i
  ·rw[hin (hall i (jCr.2 ⟨(i,ob),kBf hi,rfl⟩) h1)];exact hs.pin i (β i) ⟨⟨ob,hi⟩,rfl⟩ h1
  ·exact(hR.mono (hS _) (fun b _ hb=>hXs b hb)).beta ho1.2.1 fun id hid=>hout (hrk (hres id hid))
  ·rcases hsplit hi with⟨_,e,hi⟩|⟨hik,e,hi,hi2⟩
   ·rw[e];rcases hcov id ob hi with⟨h1,e,s,rfl⟩|⟨j,_,h1,h2⟩
    ·exact .nil e s h1
    ·rw[h1];have hO:=hs.objs j ob h2
     cases ob with
     |sl e s rows=>exact(hO.mono (hS _) (fun b _ hb=>hXs b hb) (fun _ _=>rfl)).k3x
     |box e cs=>exact(hO.mono (hS _) (fun b _ hb=>hXs b hb) (fun _ _=>rfl)).kJ9 (hrb hi)
     |mp e es=>exact(hO.mono (hS _) (fun b _ hb=>hXs b hb) (fun _ _=>rfl)).kJ9 (hrb hi)
     |dp e s rows=>exact(hO.mono (hS _) (fun b _ hb=>hXs b hb) (fun _ _=>rfl)).kJ9 (hrb hi)
     |dq e s rows i0 row0=>exact(hO.mono (hS _) (fun b _ hb=>hXs b hb) (fun _ _=>rfl)).kJ9 (hrb hi)
   ·rw[e]
    have hO:=((hs.objs id ob hi2).mono (hS _) (fun b _ hb=>hXs b hb) (fun _ _=>rfl)).up (X':=XX X βf (kAb++kept)) (β':=βf) (f:=SV.kBr (kept.map fun q=>(q.1,q.1))) (fun x v hh=>hh.kBr fun i j hij=>by
     have hm:=kBf hij;obtain⟨p,hp,e2⟩:=jCr.1 hm;cases e2;exact hin (jCr.2 ⟨p,hp,rfl⟩)) (fun _ _ hh=>hh)
    have hob:ob.up (SV.kBr (kept.map fun q=>(q.1,q.1)))=ob:=by
     have h1:lk id (kept.map (fun p=>(p.1,p.2.up (SV.kBr (kept.map fun q=>(q.1,q.1))))))=some (ob.up (SV.kBr (kept.map fun q=>(q.1,q.1)))):=by
      rw[kCp,hi];rfl
     rw[hkre,hi]at h1;simpa using h1.symm
    rw[hob]at hO;exact hO
  ·rcases hsplit hi with⟨_,e1,hi⟩|⟨hik,e1,_,hi⟩<;>rcases hsplit hj with⟨_,e2,hj⟩|⟨hjk,e2,_,hj⟩
   ·rw[e1]at hbi;rw[e2]at hbj;obtain⟨k1,r1,h1,h2⟩:=kept' hi hbi;obtain⟨k2,r2,h3,h4⟩:=kept' hj hbj;have:=hs.inj k1 k2 oi oj b h2 h4 (by rw[←h1];exact hbi) (by rw[←h3];exact hbj)
    subst this;exact hrel i j k1 r1 r2
   ·rw[e1]at hbi;rw[e2]at hbj;obtain⟨k1,r1,h1,h2⟩:=kept' hi hbi;have:=hs.inj k1 j oi oj b h2 hj (by rw[←h1];exact hbi) hbj
    subst this;have:=hJ k1 (hrelJ _ _ r1);simp at this;obtain⟨p,hp,hpe⟩:=jCr.1 hjk;exact absurd (by rw[←hpe];exact hp) (this p.2)
   ·rw[e1]at hbi;rw[e2]at hbj;obtain⟨k2,r2,h3,h4⟩:=kept' hj hbj;have:=hs.inj i k2 oi oj b hi h4 hbi (by rw[←h3];exact hbj)
    subst this;have:=hJ i (hrelJ _ _ r2);simp at this;obtain⟨p,hp,hpe⟩:=jCr.1 hik;exact absurd (by rw[←hpe];exact hp) (this p.2)
   ·rw[e1]at hbi;rw[e2]at hbj;exact hs.inj i j oi oj b hi hj hbi hbj
  ·rcases hsplit hi with⟨_,e,hi⟩|⟨hik,e,_,hi⟩
   ·rw[e]at hb;obtain⟨j,rj,h1,h2⟩:=kept' hi hb;exact(hs.mine j ob b h2 (by rw[←h1];exact hb)).symm.imp _root_.id fun hm=>(hMB b).1 hm
   ·rw[e]at hb;exact(hs.mine id ob b hi hb).symm.imp _root_.id fun hm=>(hMB b).1 hm
 cases e with
 |normal=>obtain⟨st',β',ho,hs⟩:=hq;exact fin ho hs
 |ret=>obtain⟨st',β',ho,hs⟩:=hq;exact fin ho hs
 | _=>obtain⟨st',β',ho,hs⟩:=hq;exact ho.elim
end
end
end Go.Vc
