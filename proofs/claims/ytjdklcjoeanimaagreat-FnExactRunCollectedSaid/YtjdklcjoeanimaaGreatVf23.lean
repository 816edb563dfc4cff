/- DERIVED. Steps of the proof. -/
import Derived.Test.YtjdklcjoeanimaaGreatVf20
import Derived.Recover
import Derived.Lib.ConvBytes
import Derived.Lib.FrozenHead
set_option linter.all false
set_option maxHeartbeats 1000000
set_option maxRecDepth 10000
namespace Go.Vc
structure Sg where
 chk:List Nat
 flo:List Nat
 cr:List (Nat×Nat)
 op:Nat
inductive Pl where
 |last (sg:Sg)
 |call (sg:Sg) (r:Pl)
 |fork (sg:Sg) (j:Nat) (a b:Pl)
def Pl.sg:Pl→Sg
 | .last sg=>sg
 | .call sg _=>sg
 | .fork sg _ _ _=>sg
def Pl.opn:Pl→Option Nat
 | .last _=>none
 | .call sg _=>some sg.op
 | .fork sg _ _ _=>some sg.op
def St.drp (st:St) (ds:List Nat):St:={ st with fr:=st.fr.filter fun p=>!ds.contains p.1 }
def St.bck (T U:St) (ds:List Nat):St:={ T with fr:=(ds.map fun d=>(d,U.get d))++T.fr }
def SV.ptrTo (id:Nat):SV→Bool
 | .ptr i _ _ _=>i==id
 | _=>false
def St.crOk (U T:St) (ds:List Nat) (dst:Option Nat) (d t:Nat):Prop:=match U.get d with
 | .v _=>True
 | .ptr id _ _ _=>ds.contains t=false∧(dst != some t)=true∧(U.get t).ptrTo id=true∧(T.get t).ptrTo id=true
 | _=>False
def St.k1s (U T:St) (ds:List Nat) (dst:Option Nat) (l:List Oper):List (Nat×Nat)→Prop
 | []=>True
 | (i,t)::r=>(match(l[i]?).bind (·.dst)with
  |some d=>U.crOk T ds dst d t
  |none=>False)∧St.k1s U T ds dst l r
def kGi (l:List Oper):List (Nat×Nat)→List Nat
 | []=>[]
 | (i,_)::r=>match(l[i]?).bind (·.dst)with
  |some d=>d::kGi l r
  |none=>kGi l r
def kSn (W:Oper→St→(SV→Prop)→Prop) (l:List Oper):List Nat→St→(St→Prop)→Prop
 | [],st,K=>K st
 |i::r,st,K=>match l[i]? with
  |some o=>W o st fun x=>kSn W l r (st.put o.dst x) K
  |none=>False
def k0a (W:Oper→St→(SV→Prop)→Prop) (l:List Oper) (U:St):List Nat→Prop
 | []=>True
 |i::r=>(match l[i]? with
  |some o=>match o.dst with
   |some d=>W o U fun x=>lk d U.fr=some x
   |none=>False
  |none=>False)∧k0a W l U r
def kQd (stp:Oper→St→(St→Prop)→Prop) (l:List Oper) (sg:Sg) (js:List (Nat×Nat)) (U:St) (k:St→Prop):Prop:=match l[sg.op]? with
 |some o=>stp o (U.drp (kGi l (js++sg.cr))) fun T=>U.k1s T (kGi l (js++sg.cr)) o.dst l sg.cr∧k (T.bck U (kGi l sg.cr))
 |none=>False
def kOv (W:Oper→St→(SV→Prop)→Prop) (stp:Oper→St→(St→Prop)→Prop) (l:List Oper):Pl→St→(St→Prop)→Prop
 | .last sg,st,K=>kSn W l sg.flo st fun U=>k0a W l U sg.chk∧K U
 | .call sg r,st,K=>kSn W l sg.flo st fun U=>k0a W l U sg.chk∧kQd stp l sg [] U fun T=>kOv W stp l r T K
 | .fork sg j a b,st,K=>kSn W l sg.flo st fun U=>k0a W l U sg.chk∧kQd stp l sg [] U (fun T=>kOv W stp l a T K)∧kQd stp l sg [(j,0)] U (fun T=>kOv W stp l b T K)
def ancM (ops:Array Oper) (i j:Nat):Bool:=((kI9 ops ops.size).getD i []).getD j false
theorem kT5 {ops:Array Oper}{i j:Nat}(h:ancM ops i j=true):Anc ops i j:=kQa ops ops.size i j h
def floB (ops:Array Oper):List Nat→Bool
 | []=>true
 |i::r=>(match ops[i]? with
  |some o=>match o.dst with
   |some d=>!(o.looksAt ops).contains d&&r.all fun j=>match kAp ops j with
    |some e=>e != d&&!(o.looksAt ops).contains e
    |none=>false
   |none=>false
  |none=>false)&&floB ops r
def qEe (ops:Array Oper) (P:List Nat) (i:Nat):Bool:=match ops[i]? with
 |some o=>(o.looksAt ops).all fun t=>P.all fun j=>!(kAp ops j==some t) || kH5 o j
 |none=>false
def apartB (ops:Array Oper):List Nat→Bool
 | []=>true
 |i::r=>(kAp ops i).isSome&&(r.all fun j=>kAp ops j != kAp ops i)&&apartB ops r
def sgB (ops:Array Oper) (P C L:List Nat) (sg:Sg):Bool :=
  floB ops sg.flo&&apartB ops (P++sg.flo)&&(sg.flo.all fun i=>!P.contains i&&!C.contains i&&decide (i<ops.size))&&(sg.chk.all fun i=>P.contains i) &&
  (P.all fun i=>sg.chk.contains i || (C.any fun c=>ancM ops c i) || L.contains i)&&((sg.chk++sg.flo).all (qEe ops (P++sg.flo)))
def kM3 (ops:Array Oper) (P C L J:List Nat) (sg:Sg):Bool :=
  decide (sg.op<ops.size)&&!P.contains sg.op&&!C.contains sg.op&&(P.all fun i=>(sg.cr.map (·.1)).contains i || ancM ops sg.op i || L.contains i || J.contains i)&&((sg.cr.map (·.1)).all fun i=>P.contains i&&!J.contains i) &&
   (P.all fun i=>kAp ops i != kAp ops sg.op)&&((List.range ops.size).all fun i=>P.contains i || C.contains i || i==sg.op || ancM ops i sg.op)
def without (P J:List Nat):List Nat:=P.filter fun i=>!J.contains i
def plB (ops:Array Oper):List Nat→List Nat→List Nat→Pl→Bool
 |P,C,L,.last sg=>sgB ops P C L sg&&(List.range ops.size).all fun i=>(P++sg.flo).contains i || C.contains i
 |P,C,L,.call sg r=>sgB ops P C L sg&&kM3 ops (P++sg.flo) C L [] sg&&plB ops (without (P++sg.flo) []) (sg.op::C) L r
 |P,C,L,.fork sg j a b=>sgB ops P C L sg&&(P++sg.flo).contains j&&!L.contains j &&
  (kM3 ops (P++sg.flo) C (j::L) [] sg&&plB ops (without (P++sg.flo) []) (sg.op::C) (j::L) a)&&(kM3 ops (P++sg.flo) C L [j] sg&&plB ops (without (P++sg.flo) [j]) (sg.op::C) L b)
theorem k1t {ops:Array Oper}{P C L:List Nat}:∀{pl:Pl},plB ops P C L pl=true→sgB ops P C L pl.sg=true
 | .last _,h=>by unfold plB at h;rw[jBs]at h;exact h.1
 | .call _ _,h=>by unfold plB at h;simp only[jBs]at h;exact h.1.1
 | .fork _ _ _ _,h=>by unfold plB at h;simp only[jBs]at h;exact h.1.1.1.1
def k1u (ops:Array Oper):Bool:=(List.range ops.size).all fun p=>match ops[p]? with
 |none=>false
 |some o=>o.after.all fun e=>!Region.binds .any e || decide (e.on<p)
theorem qK7 {ops:Array Oper}(h:k1u ops=true) {p:Nat}{o:Oper}(ho:ops[p]? = some o):∀e∈o.after,Region.binds .any e=true→e.on<p:=fun e he hb=>by
 have hp:p<ops.size:=(vDw.1 ho).1;have:=jDl.1 h p (jKi.2 hp);rw[ho]at this;simp only[yLg]at this;have:=this e he;rw[hb]at this;simpa using this
theorem k1v (st:St) (ds:List Nat) (t:Nat):lk t (st.drp ds).fr=if ds.contains t then none else lk t st.fr:=by
 unfold St.drp;simp only
 induction st.fr with
 |nil=>simp[lk]
 |cons p r ih =>
  obtain⟨a,b⟩:=p;rw[wF4];by_cases ha:ds.contains a=true
  ·simp only[ha,wGi,jIv,if_false];rw[ih];by_cases hta:t=a
   ·subst hta;rw[if_pos ha,if_pos ha]
   ·simp only[lk,if_neg hta]
  ·rw[vJv]at ha;simp only[ha,wSc,if_true];by_cases hta:t=a
   ·subst hta;simp only[lk,if_true,ha,jIv,if_false]
   ·simp only[lk,if_neg hta];exact ih
theorem lk_bck (T U:St) (ds:List Nat) (t:Nat):lk t (T.bck U ds).fr=if ds.contains t then some (U.get t)else lk t T.fr:=by
 unfold St.bck;simp only
 induction ds with
 |nil=>rfl
 |cons d r ih =>
  simp only[jHi,jRa,lk,wPf];by_cases htd:t=d
  ·subst htd;simp
  ·rw[if_neg htd,ih];have:(t==d)=false:=by simpa using htd
   rw[this,jXf]
theorem k5a {x:SV}{id:Nat}(h:x.ptrTo id=true):∃s i k,x=.ptr id s i k:=by
 cases x with
 |ptr j s i k=>simp only[SV.ptrTo,beq_iff_eq]at h;subst h;exact⟨s,i,k,rfl⟩
 | _=>cases h
theorem R.k73 {w:World}{X:Nat→Prop}{β:Nat→BV}{id s i k:Nat}{v:Value}(h:R w X β (.ptr id s i k) v):∃b,blk (β id).val=some b∧v=.pointer (some ⟨b,i*s+k,none⟩):=by
 cases h with
 |p h=>cases h
 |ptr _ _ _ _ b hb=>exact⟨b,hb,rfl⟩
theorem k74 {U T:St}{ds:List Nat}{dst:Option Nat}{ops:Array Oper}:∀{L:List (Nat×Nat)},U.k1s T ds dst ops.toList L→∀i∈L.map (·.1),∃d t,kAp ops i=some d∧U.crOk T ds dst d t
 | [],_,i,hi=>by cases hi
 | (j,t)::r,h,i,hi=>by
  obtain⟨h1,h2⟩:=h;rcases jDr.1 hi with e|e
  ·simp only at e;subst e;rw[jSa]at h1;split at h1
   ·rename_i d hd;exact⟨d,t,hd,h1⟩
   ·exact h1.elim
  ·exact k74 h2 i e
theorem kSo {ops:Array Oper}{t:Nat}:∀{L:List (Nat×Nat)},t∈kGi ops.toList L↔∃i∈L.map (·.1),kAp ops i=some t
 | []=>by simp[kGi]
 | (j,q)::r=>by
  unfold kGi;rw[jSa];have ih:=kSo (ops:=ops) (t:=t) (L:=r)
  cases hd:(ops[j]?).bind (·.dst)with
  |none =>
   simp only[jHi,jDr];rw[ih];constructor
   ·rintro⟨i,hi,h⟩;exact⟨i,.inr hi,h⟩
   ·rintro⟨i,hi,h⟩;rcases hi with e|e
    ·subst e;unfold kAp at h;rw[hd]at h;cases h
    ·exact⟨i,e,h⟩
  |some d =>
   simp only[jHi,jDr];rw[ih];constructor
   ·rintro(e|⟨i,hi,h⟩)
    ·subst e;exact⟨j,.inl rfl,hd⟩
    ·exact⟨i,.inr hi,h⟩
   ·rintro⟨i,hi,h⟩;rcases hi with e|e
    ·subst e;unfold kAp at h;rw[hd]at h;cases h;exact .inl rfl
    ·exact .inr ⟨i,e,h⟩
theorem kSp {ops:Array Oper}:∀{L:List Nat},apartB ops L=true→(∀i∈L,∃d,kAp ops i=some d)∧∀i∈L,∀j∈L,∀d,kAp ops i=some d→kAp ops j=some d→i=j
 | [],_=>⟨fun i h=>(by cases h),fun i h=>(by cases h)⟩
 |i::r,h=>by
  unfold apartB at h;simp only[jBs]at h;obtain⟨⟨h1,h2⟩,h3⟩:=h;obtain⟨q1,q2⟩:=kSp h3;rw[jDl]at h2;refine⟨fun j hj=>?_,fun j hj k hk d hd he=>?_⟩
  ·rcases jDr.1 hj with e|e
   ·subst e;exact vXz.1 h1
   ·exact q1 j e
  ·rcases jDr.1 hj with e|e<;>rcases jDr.1 hk with e'|e'
   ·rw[e,e']
   ·subst e;have:=h2 k e';rw[hd,he]at this;simp at this
   ·subst e';have:=h2 j e;rw[hd,he]at this;simp at this
   ·exact q2 j e k e' d hd he
theorem Oper.wp_act {P:Program}{Q:Exit→Act→World→Prop}{o:Oper}{a:Act}{w:World}{K:Act→World→Prop}(hh:o.wp P a w K Q):o.wp P a w (fun a' w'=>K a' w'∧∃ds v,a'=({ a with defers:=ds }:Act).put o.dst v) Q:=by
 unfold Oper.wp at *;generalize(execOp a.eval o).run P w=r at *
 cases r with
 |ok n w' =>
  cases n<;>simp only[Oper.upon]at hh⊢<;>
   first
    |exact⟨hh,_,_,rfl⟩
    |exact Calls.mono hh (fun e w'' he=>by cases e<;>first|exact⟨he,_,_,rfl⟩|exact he)
    |exact Rows.mono hh (fun _ _ he=>⟨he,_,_,rfl⟩)
 |halt x w'=>cases x<;>simp only[Oper.upon]at hh⊢<;>exact hh
section
variable {c:Cx}{N:Nat}{X0:Nat→Prop}{M:Nat→BV→Prop}{w0:World}{st:St}{K:Exit→St→Prop}
theorem Sim.less2 {β:Nat→BV}{a:Act}{w:World}(h:Sim N X0 M w0 st β a w) {st':St}(hf:∀t x,lk t st'.fr=some x→lk t st.fr=some x∨R w (XX X0 β st.hp) β x (a.tmps.getD t undef)) (hh:st'.hp=st.hp) :
  Sim N X0 M w0 st' β a w:=by
 obtain⟨fr',hp'⟩:=st';obtain⟨fr,hp⟩:=st;simp only at hh;subst hh
 exact{ h with
  slots:=fun t x hx=>by
   rcases hf t x hx with h1|h2
   ·exact h.slots t x h1
   ·exact h2 }
structure VOk (P:Program) (N:Nat) (X0:Nat→Prop) (M:Nat→BV→Prop) (w0:World) (ops:Array Oper) (Q:Exit→Act→World→Prop) (V:Oper→St→SV→Prop):Prop where
 congr:∀o st st2 x,(∀t∈o.looksAt ops,st2.get t=st.get t)→st2.hp=st.hp→V o st x→V o st2 x
 sound:∀o st x β a w,Sim N X0 M w0 st β a w→V o st x→if Region.wanted o (yielded ops a.tmps)then o.wp P a w (Ok N X0 M w0 fun s=>s=st.put o.dst x) Q else Ok N X0 M w0 (fun s=>s=st.put o.dst x) (a.put o.dst undef) w
theorem kWh {V:Oper→St→SV→Prop}{W:Oper→St→(SV→Prop)→Prop}(hW:∀o st K,W o st K→∃x,V o st x∧K x) {ops:Array Oper}
  (hc:∀o st st2 x,(∀t∈o.looksAt ops,st2.get t=st.get t)→st2.hp=st.hp→V o st x→V o st2 x) {K:St→Prop}:∀(fl:List Nat) (st:St),floB ops fl=true→kSn W ops.toList fl st K →
  ∃U,K U∧U.hp=st.hp∧(∀t,(∀i∈fl,kAp ops i≠some t)→lk t U.fr=lk t st.fr)∧∀i∈fl,∃o d x,ops[i]? = some o∧o.dst=some d∧lk d U.fr=some x∧V o U x
 | [],st,_,h=>⟨st,h,rfl,fun _ _=>rfl,fun i hi=>by cases hi⟩
 |i::r,st,hB,h=>by
  unfold floB at hB;rw[jBs]at hB;obtain⟨h1,h2⟩:=hB;unfold kSn at h;rw[jSa]at h
  cases ho:ops[i]? with
  |none=>rw[ho]at h;exact h.elim
  |some o =>
   rw[ho]at h h1;simp only at h h1
   cases hd:o.dst with
   |none=>rw[hd]at h1;cases h1
   |some d =>
    rw[hd]at h1;simp only[jBs,jDl]at h1;obtain⟨x,hv,hk⟩:=hW _ _ _ h;obtain⟨U,u1,u2,u3,u4⟩:=kWh hW hc r _ h2 hk;have hdi:kAp ops i=some d:=by unfold kAp;rw[ho];exact hd
    have hr:∀j∈r,∃e,kAp ops j=some e∧e≠d∧e∉o.looksAt ops:=fun j hj=>by
     have:=h1.2 j hj
     cases he:kAp ops j with
     |none=>rw[he]at this;cases this
     |some e =>
      rw[he]at this;simp only[jBs,bne_iff_ne,jUs,jOa]at this;refine⟨e,rfl,this.1,fun hm=>?_⟩
      have h5:=this.2;rw[←vJv,jOa]at h5;exact h5 hm
    have hself:d∉o.looksAt ops:=fun hm=>by
     have h5:=h1.1;rw[jUs,←vJv,jOa]at h5;exact h5 hm
    have hdU:lk d U.fr=some x:=by
     rw[u3 d (fun j hj he=>by obtain⟨e,q1,q2,_⟩:=hr j hj;rw[q1]at he;cases he;exact q2 rfl),hd]
     exact kIo _ _ _
    refine⟨U,u1,by rw[u2,kQ7],fun t ht=>?_,fun j hj=>?_⟩
    ·rw[u3 t fun j hj=>ht j (jZr _ hj),kJl _ _ _ _ (fun e=>ht i jYt (by rw[hdi,←hd,e]))]
    ·rcases jDr.1 hj with e|e
     ·subst e;refine⟨o,d,x,ho,hd,hdU,hc o st U x (fun t ht=>?_) (by rw[u2,kQ7]) hv⟩
      unfold St.get;rw[u3 t (fun k hk he=>by obtain⟨e,q1,_,q3⟩:=hr k hk;rw[q1]at he;cases he;exact q3 ht),kJl _ _ _ _ (fun e=>by rw[hd]at e;cases e;exact hself ht)]
     ·exact u4 j e
theorem k4b {V:Oper→St→SV→Prop}{W:Oper→St→(SV→Prop)→Prop}(hW:∀o st K,W o st K→∃x,V o st x∧K x) {ops:Array Oper}{U:St}:∀{L:List Nat},k0a W ops.toList U L→∀i∈L,∃o d x,ops[i]? = some o∧o.dst=some d∧lk d U.fr=some x∧V o U x
 | [],_,i,hi=>by cases hi
 |j::r,h,i,hi=>by
  obtain⟨h1,h2⟩:=h;rcases jDr.1 hi with e|e
  ·subst e;rw[jSa]at h1
   cases ho:ops[i]? with
   |none=>rw[ho]at h1;exact h1.elim
   |some o =>
    rw[ho]at h1;simp only at h1
    cases hd:o.dst with
    |none=>rw[hd]at h1;exact h1.elim
    |some d =>
     rw[hd]at h1;obtain⟨x,q1,q2⟩:=hW _ _ _ h1;exact⟨o,d,x,rfl,hd,q2,q1⟩
  ·exact k4b hW h2 i e
theorem kZg {listed:Array Bool}{n i:Nat}(hi:i<n) (hn:n=listed.size) (h2:listed.getD i false=false) :
  (List.range n).countP (fun j=>!listed.getD j false)=(List.range n).countP (fun j=>!(listed.setIfInBounds i true).getD j false)+1:=by
 have key:∀l:List Nat,l.Nodup→i∈l→l.countP (fun j=>!listed.getD j false)=l.countP (fun j=>!(listed.setIfInBounds i true).getD j false)+1:=by
  intro l hn' hm
  induction l with
  |nil=>cases hm
  |cons q l ihl =>
   rw[vSb]at hn';simp only[List.countP_cons];rw[kBc _ _ _ _ zo];by_cases hq:q=i
   ·subst hq
    have hno:l.countP (fun j=>!listed.getD j false)=l.countP (fun j=>!(listed.setIfInBounds q true).getD j false):=by
     apply vOy;intro j hj;rw[kBc _ _ _ _ zo,if_neg (fun e=>hn'.1 (by rw[←e];exact hj))]
    rw[h2,hno];simp
   ·have hm':i∈l:=by
     rcases jDr.1 hm with e|e
     ·exact absurd e.symm hq
     ·exact e
    rw[if_neg hq,ihl hn'.2 hm'];omega
 exact key (List.range n) List.nodup_range (jKi.2 hi)
def qHr (W:Oper→St→(SV→Prop)→Prop) (stp:Oper→St→(St→Prop)→Prop) (l:List Oper) (U:St) (K:St→Prop):Pl→Prop
 | .last sg=>K U
 | .call sg r=>kQd stp l sg [] U fun T=>kOv W stp l r T K
 | .fork sg j a b=>kQd stp l sg [] U (fun T=>kOv W stp l a T K)∧kQd stp l sg [(j,0)] U (fun T=>kOv W stp l b T K)
theorem k1w {W:Oper→St→(SV→Prop)→Prop}{stp:Oper→St→(St→Prop)→Prop}{l:List Oper}{K:St→Prop}:∀{pl:Pl}{st:St},kOv W stp l pl st K→kSn W l pl.sg.flo st fun U=>k0a W l U pl.sg.chk∧qHr W stp l U K pl
 | .last _,_,h=>h
 | .call _ _,_,h=>h
 | .fork _ _ _ _,_,h=>h
structure qEf (c:Cx) (N:Nat) (X0:Nat→Prop) (M:Nat→BV→Prop) (w0:World) (ops:Array Oper) (V:Oper→St→SV→Prop) (W:Oper→St→(SV→Prop)→Prop) (stp:Oper→St→(St→Prop)→Prop) (Kn:St→Prop) (fuel:Nat) (P C L:List Nat) (pl:Pl) (U:St) (listed:Array Bool) (st':St) (β:Nat→BV) (a:Act) (w:World):Prop where
 plan:plB ops P C L pl=true
 size:listed.size=ops.size
 cl:Cl ops listed
 fuel:fuel=(List.range ops.size).countP (fun j=>!listed.getD j false)
 calls:∀i∈C,listed.getD i false=true
 known:∀i∈L,listed.getD i false=true
 op:∀i,pl.opn=some i→listed.getD i false=false
 vals:∀i∈pl.sg.flo++pl.sg.chk,∃o d x,ops[i]? = some o∧o.dst=some d∧lk d U.fr=some x∧V o U x
 sim:Sim N X0 M w0 st' β a w
 hp:st'.hp=U.hp
 other:∀t,(∀i∈P++pl.sg.flo,kAp ops i≠some t)→lk t st'.fr=lk t U.fr
 mine:∀i∈P++pl.sg.flo,∀d,listed.getD i false=true→kAp ops i=some d→lk d st'.fr=lk d U.fr
 after:qHr W stp ops.toList U Kn pl
theorem kUx {ops:Array Oper}{V:Oper→St→SV→Prop}{W:Oper→St→(SV→Prop)→Prop}(hW:∀o st K,W o st K→∃x,V o st x∧K x) {Q:Exit→Act→World→Prop}(hV:VOk c.P N X0 M w0 ops Q V)
  {stp:Oper→St→(St→Prop)→Prop}(hS:kSk c.P N X0 M w0 ops Q stp) {Kn:St→Prop}{fuel:Nat}{P C L L2:List Nat}{pl r:Pl}{sg:Sg}{js:List (Nat×Nat)}{U:St}{listed:Array Bool}{st':St}{β:Nat→BV}{a:Act}{w:World}{o:Oper}
  (hI:qEf c N X0 M w0 ops V W stp Kn (fuel+1) P C L pl U listed st' β a w) (hsg:pl.sg=sg) (hop:listed.getD sg.op false=false) (ho:ops[sg.op]? = some o) (kKr:∀e∈o.after,Region.binds .any e=true→listed.getD e.on false=true)
  (hok:kM3 ops (P++sg.flo) C L2 (js.map (·.1)) sg=true) (hpl:plB ops (without (P++sg.flo) (js.map (·.1))) (sg.op::C) L2 r=true) (hL2:∀i∈L2,listed.getD i false=true) (hJ:∀i∈js.map (·.1),listed.getD i false=false∧i∈P++sg.flo)
  (hK:kQd stp ops.toList sg js U fun T=>kOv W stp ops.toList r T Kn) (ih:∀{P C L:List Nat}{pl:Pl}{U:St}{listed:Array Bool}{st':St}{β:Nat→BV}{a:Act}{w:World},qEf c N X0 M w0 ops V W stp Kn fuel P C L pl U listed st' β a w→wpAny c.P .any ops Q fuel listed a w) :
  wpOp c.P ops Q sg.op (wpAny c.P .any ops Q fuel (listed.setIfInBounds sg.op true)) a w:=by
 subst hsg;generalize hi':pl.sg.op=i at *;have hsz:=hI.size;have hcl:=hI.cl;have hs:=hI.sim;have hA:=hI.other;have hB:=hI.mine;have hC:=hI.calls;obtain⟨ap1,ap2⟩:=kSp (L:=P++pl.sg.flo) (ops:=ops) (by have:=k1t hI.plan;unfold sgB at this;simp only[jBs]at this;exact this.1.1.1.1.2)
 unfold kM3 at hok;rw[hi']at hok;simp only[jBs,decide_eq_true_eq,jDl,jYk,jOa,beq_iff_eq,jUs,bne_iff_ne]at hok;obtain⟨⟨⟨⟨⟨⟨k1,k2⟩,k3⟩,k5⟩,k6⟩,k7⟩,k8⟩:=hok;rw[←vJv,jOa]at k2 k3
 have hclN:Cl ops (listed.setIfInBounds i true):=fun i' o' j' ho' hi' he'=>by
  rw[kBc _ _ _ _ zo]at hi'⊢;split
  ·rfl
  ·by_cases hii:i'=i
   ·subst hii;rw[ho]at ho';cases ho';exact kFm kKr he'
   ·rw[if_neg hii]at hi';exact hcl i' o' j' ho' hi' he'
 have hcnt:fuel=(List.range ops.size).countP (fun j=>!(listed.setIfInBounds i true).getD j false):=by
  have h1:=kZg (listed:=listed) k1 hsz.symm hop;have h2:=hI.fuel;omega
 unfold kQd at hK;rw[hi',jSa,ho]at hK;simp only at hK
 have hup:∀j∈P++pl.sg.flo,j∉pl.sg.cr.map (·.1)→j∉js.map (·.1)→listed.getD j false=true:=fun j hj hn hn2=>by
  rcases k5 j hj with((h|h)|h)|h
  ·exact absurd h hn
  ·exact(kT5 h).ready hcl ho kKr
  ·exact hL2 j h
  ·exact absurd h hn2
 have hmemD:∀t,t∈kGi ops.toList (js++pl.sg.cr)↔∃j,(j∈js.map (·.1)∨j∈pl.sg.cr.map (·.1))∧kAp ops j=some t:=fun t=>by
  rw[kSo];simp only[jNq,jTf]
 have hsE:Sim N X0 M w0 (U.drp (kGi ops.toList (js++pl.sg.cr))) β a w:=hs.less (fun t x hx=>by
  rw[k1v]at hx;split at hx
  ·cases hx
  ·rename_i hnc;rw[jOa,hmemD]at hnc;by_cases hj:∃j∈P++pl.sg.flo,kAp ops j=some t
   ·obtain⟨j,hj,hjd⟩:=hj;rw[hB j hj t (hup j hj (fun hcr=>hnc ⟨j,.inr hcr,hjd⟩) (fun hcr=>hnc ⟨j,.inl hcr,hjd⟩)) hjd];exact hx
   ·rw[hA t fun j hj' hd'=>hj ⟨j,hj',hd'⟩];exact hx) (fun t x hx=>by rw[hI.hp];exact hx)
 have hst:=hS _ β a w o _ hsE hK
 have hnext:∀a' w',(Ok N X0 M w0 (fun T=>U.k1s T (kGi ops.toList (js++pl.sg.cr)) o.dst ops.toList pl.sg.cr∧kOv W stp ops.toList r (T.bck U (kGi ops.toList pl.sg.cr)) Kn) a' w'∧∃ds v,a'=({ a with defers:=ds }:Act).put o.dst v)→wpAny c.P .any ops Q fuel (listed.setIfInBounds i true) a' w':=fun a' w' hk=>by
  obtain⟨⟨T,β',⟨hcr,h4⟩,h5⟩,ds,v,ha'⟩:=hk;have hr:=k1t hpl;unfold sgB at hr;simp only[jBs]at hr;obtain⟨⟨⟨⟨⟨d1,d2⟩,d3⟩,d4⟩,d5⟩,d6⟩:=hr;obtain⟨aq1,aq2⟩:=kSp d2;obtain⟨U2,⟨u0,u0'⟩,u2,u3,u4⟩:=kWh hW hV.congr _ _ d1 (k1w h4);simp only[jDl,jBs,jUs,decide_eq_true_eq]at d3
  have hwo:∀j,j∈without (P++pl.sg.flo) (js.map (·.1))↔j∈P++pl.sg.flo∧j∉js.map (·.1):=fun j=>by
   unfold without;rw[vJn,jUs,←vJv,jOa]
  have hfl2:∀j∈r.sg.flo,j∉without (P++pl.sg.flo) (js.map (·.1))∧listed.getD j false=false∧j≠i:=fun j hj=>by
   obtain⟨⟨e1,e2⟩,e3⟩:=d3 j hj;rw[←vJv,jOa]at e1 e2;have hji:j≠i:=fun e=>e2 (by rw[e];exact jYt)
   refine⟨e1,?_,hji⟩
   cases hl:listed.getD j false with
   |false=>rfl
   |true =>
    rcases k8 j (jKi.2 e3)with((h|h)|h)|h
    ·exfalso;refine e1 ((hwo j).2 ⟨h,fun hm=>?_⟩)
     rw[(hJ j hm).1]at hl;cases hl
    ·exact absurd (jZr _ h) e2
    ·exact absurd h hji
    ·have:=(kT5 h).listed hcl hl;rw[hop]at this;cases this
  let un:List Nat:=kGi ops.toList (pl.sg.cr.filter fun p=>!listed.getD p.1 false)
  have hun:∀t,t∈un↔∃j∈pl.sg.cr.map (·.1),listed.getD j false=false∧kAp ops j=some t:=fun t=>by
   show t∈kGi ops.toList _↔_
   rw[kSo];constructor
   ·rintro⟨j,hj,hd⟩;rw[jCr]at hj;obtain⟨p,hp,rfl⟩:=hj;rw[vJn]at hp;exact⟨p.1,jCr.2 ⟨p,hp.1,rfl⟩,by simpa using hp.2,hd⟩
   ·rintro⟨j,hj,hl,hd⟩;obtain⟨p,hp,rfl⟩:=jCr.1 hj;exact⟨p.1,jCr.2 ⟨p,vJn.2 ⟨hp,by simpa using hl⟩,rfl⟩,hd⟩
  have hunc:∀t,t∉un→lk t ((T.bck U (kGi ops.toList pl.sg.cr)).drp un).fr=lk t (T.bck U (kGi ops.toList pl.sg.cr)).fr:=fun t ht=>by
   rw[k1v,if_neg (by rw[jOa];exact ht)]
  have hd0:∀t,(∃j∈P++pl.sg.flo,kAp ops j=some t)→o.dst≠some t:=fun t ⟨j,hj,hjd⟩ e=>by
   refine k7 j hj ?_;rw[hjd,←e];unfold kAp;rw[ho];rfl
  have ha2:∀t,o.dst≠some t→a'.tmps.getD t undef=a.tmps.getD t undef:=fun t ht=>by
   subst ha'
   cases hod:o.dst with
   |none=>rfl
   |some e=>rw[kS7 (fun h=>ht (by rw[hod,h]))]
  have h6:Sim N X0 M w0 ((T.bck U (kGi ops.toList pl.sg.cr)).drp un) β' a' w':=h5.less2 (fun t x hx=>by
   rw[k1v]at hx;split at hx
   ·cases hx
   ·rename_i hnu;rw[jOa]at hnu;rw[lk_bck]at hx;split at hx
    ·rename_i hc';rw[jOa]at hc';right;obtain⟨j,hj,hjd⟩:=kSo.1 hc';obtain⟨d,t',hjd',hok⟩:=k74 hcr j hj;rw[hjd]at hjd';cases hjd'
     have hjl:listed.getD j false=true:=by
      cases hl:listed.getD j false with
      |true=>rfl
      |false=>exact absurd ((hun t).2 ⟨j,hj,hl,hjd⟩) hnu
     have hjP:=(k6 j hj).1
     have hsl:∀y,U.get t=y→y≠.kAh→lk t U.fr=some y:=fun y h hn=>by
      unfold St.get at h
      cases hq:lk t U.fr with
      |none=>rw[hq]at h;exact absurd h.symm hn
      |some y'=>rw[hq]at h;exact congrArg some h
     have hx':U.get t=x:=vSn hx;rw[ha2 t (hd0 t ⟨j,hjP,hjd⟩)];unfold St.crOk at hok;rw[hx']at hok
     cases x with
     |v s =>
      have hR:=hs.slots t (.v s) (by rw[hB j hjP t hjl hjd];exact hsl _ hx' (by intro h;cases h))
      rw[hR.kAn]
      exact .p (.v s)
     |ptr id s q k =>
      obtain⟨o1,o2,o3,o4⟩:=hok;have hR:=hs.slots t (.ptr id s q k) (by rw[hB j hjP t hjl hjd];exact hsl _ hx' (by intro h;cases h))
      obtain⟨b,hb,hv⟩:=hR.k73;obtain⟨s3,i3,k3,e3⟩:=k5a o3;obtain⟨s4,i4,k4,e4⟩:=k5a o4
      have l3:lk t' (U.drp (kGi ops.toList (js++pl.sg.cr))).fr=some (.ptr id s3 i3 k3):=by
       rw[k1v,if_neg (by rw[o1];simp)]
       unfold St.get at e3
       cases hq:lk t' U.fr with
       |none=>rw[hq]at e3;cases e3
       |some y'=>rw[hq]at e3;exact congrArg some e3
      have l4:lk t' T.fr=some (.ptr id s4 i4 k4):=by
       unfold St.get at e4
       cases hq:lk t' T.fr with
       |none=>rw[hq]at e4;cases e4
       |some y'=>rw[hq]at e4;exact congrArg some e4
      obtain⟨b3,hb3,hv3⟩:=(hsE.slots t' _ l3).k73;obtain⟨b4,hb4,hv4⟩:=(h5.slots t' _ l4).k73;rw[ha2 t' (by simpa using o2),hv3]at hv4
      injection hv4 with hv4
      injection hv4 with hv4
      injection hv4 with hv4 _
      rw[hb]at hb3;cases hb3;rw[hv]
      exact .ptr id s q k b (by rw[hb4,←hv4])
     | _=>exact hok.elim
    ·exact .inl hx) rfl
  refine ih (P:=without (P++pl.sg.flo) (js.map (·.1))) (C:=i::C) (L:=L2) (pl:=r) (U:=U2) (st':=(T.bck U (kGi ops.toList pl.sg.cr)).drp un) (β:=β') ⟨hpl,by simpa using hsz,hclN,hcnt,fun j hj=>?_,fun j hj=>?_,fun j hj=>?_,fun j hj=>?_,h6,by rw[u2];rfl,fun t ht=>?_,fun j hj e hjl hje=>?_,u0'⟩
  ·rw[kBc _ _ _ _ zo];split
   ·rfl
   ·rename_i hji;rcases jDr.1 hj with h|h
    ·exact absurd h hji
    ·exact hC j h
  ·rw[kBc _ _ _ _ zo];split
   ·rfl
   ·exact hL2 j hj
  ·have hopr:∃J L3,kM3 ops (without (P++pl.sg.flo) (js.map (·.1))++r.sg.flo) (i::C) L3 J r.sg=true∧j=r.sg.op:=by
    cases r with
    |last sg=>cases hj
    |call sg r=>unfold plB at hpl;simp only[jBs]at hpl;exact⟨_,_,hpl.1.2,(vSn hj).symm⟩
    |fork sg j a b=>unfold plB at hpl;simp only[jBs]at hpl;exact⟨_,_,hpl.1.2.1,(vSn hj).symm⟩
   obtain⟨J3,L3,d7,rfl⟩:=hopr;unfold kM3 at d7;simp only[jBs,decide_eq_true_eq,jUs]at d7;have e1:=d7.1.1.1.1.1.2;have e2:=d7.1.1.1.1.2;have e0:=d7.1.1.1.1.1.1;rw[←vJv,jOa]at e1 e2;have hji:r.sg.op≠i:=fun e=>e2 (by rw[e];exact jYt)
   rw[kBc _ _ _ _ zo,if_neg hji]
   cases hl:listed.getD r.sg.op false with
   |false=>rfl
   |true =>
    rcases k8 r.sg.op (jKi.2 e0)with((h|h)|h)|h
    ·exfalso;refine e1 (vJc _ ((hwo _).2 ⟨h,fun hm=>?_⟩))
     rw[(hJ _ hm).1]at hl;cases hl
    ·exact absurd (jZr _ h) e2
    ·exact absurd h hji
    ·have:=(kT5 h).listed hcl hl;rw[hop]at this;cases this
  ·rcases jTf.1 hj with h|h
   ·exact u4 j h
   ·exact k4b hW u0 j h
  ·have hno:t∉un:=fun h=>by
    obtain⟨j,hj,_,hjd⟩:=(hun t).1 h;refine ht j (vJc _ ((hwo j).2 ⟨(k6 j hj).1,?_⟩)) hjd;have:=(k6 j hj).2;rw[←vJv,jOa]at this;exact this
   rw[hunc t hno,u3 t fun j hj=>ht j (vMm _ hj)]
  ·rcases jTf.1 hj with h|h
   ·have hjP:=((hwo j).1 h).1;have hji:j≠i:=fun e=>k2 (e▸hjP)
    rw[kBc _ _ _ _ zo,if_neg hji]at hjl
    have hno:e∉un:=fun hm=>by
     obtain⟨k,hk,hkl,hkd⟩:=(hun e).1 hm;have:=ap2 j hjP k (k6 k hk).1 e hje hkd;subst this;rw[hjl]at hkl;cases hkl
    rw[hunc e hno,u3 e fun k hk hkd=>by
     have:=aq2 j hj k (vMm _ hk) e hje hkd;subst this;exact(hfl2 j hk).1 h]
   ·obtain⟨_,q2,q3⟩:=hfl2 j h;rw[kBc _ _ _ _ zo,if_neg q3,q2]at hjl;cases hjl
 unfold wpOp;rw[ho];simp only;split
 ·rename_i hw;rw[if_pos hw]at hst;exact .inl (Oper.wp_mono hnext (Oper.wp_act hst))
 ·rename_i hw;rw[if_neg hw]at hst;exact hnext _ _ ⟨hst,a.defers,undef,rfl⟩
theorem qK8 {ops:Array Oper}(hbk:k1u ops=true) {V:Oper→St→SV→Prop}{W:Oper→St→(SV→Prop)→Prop}(hW:∀o st K,W o st K→∃x,V o st x∧K x) {Q:Exit→Act→World→Prop}(hV:VOk c.P N X0 M w0 ops Q V)
  {stp:Oper→St→(St→Prop)→Prop}(hS:kSk c.P N X0 M w0 ops Q stp) {Kn:St→Prop}(hQ:∀a w,Ok N X0 M w0 Kn a w→Q .normal a w):∀(fuel:Nat) {P C L:List Nat}{pl:Pl}{U:St}{listed:Array Bool}{st':St}{β:Nat→BV}{a:Act}{w:World},
  qEf c N X0 M w0 ops V W stp Kn fuel P C L pl U listed st' β a w→wpAny c.P .any ops Q fuel listed a w:=by
 intro fuel
 induction fuel with
 |zero =>
  intro P C L pl U listed st' β a w hI;have hsz:=hI.size
  have hall:∀j,j<ops.size→listed.getD j false=true:=fun j hj=>by
   have:(List.range ops.size).countP (fun j=>!listed.getD j false)=0:=hI.fuel.symm
   rw[List.countP_eq_zero]at this;have:=this j (jKi.2 hj);simpa using this
  have hone:∀{J L3:List Nat}{P':List Nat},kM3 ops P' C L3 J pl.sg=true→pl.opn=some pl.sg.op→False:=fun{J L3 P'} h1 h2=>by
   unfold kM3 at h1;simp only[jBs,decide_eq_true_eq]at h1;have:=hI.op _ h2;rw[hall _ h1.1.1.1.1.1.1]at this;cases this
  have hpl:=hI.plan
  cases pl with
  |call sg r=>unfold plB at hpl;simp only[jBs]at hpl;exact(hone hpl.1.2 rfl).elim
  |fork sg j p q=>unfold plB at hpl;simp only[jBs]at hpl;exact(hone hpl.1.2.1 rfl).elim
  |last sg =>
   refine⟨?_,hQ a w ⟨U,β,hI.after,hI.sim.less (fun t x hx=>?_) (fun t x hx=>by rw[hI.hp];exact hx)⟩⟩
   ·rw[yHa];intro i hi;obtain⟨h1,h2,_⟩:=kBw.1 hi;have h3:=hall i h1;rw[jMv]at h2 h3;rw[jVn zo]at h2 h3;simp only[jOj]at h2 h3;rw[h2]at h3;cases h3
   ·by_cases ht:∃i∈P++sg.flo,kAp ops i=some t
    ·obtain⟨i,hi,hd⟩:=ht
     have hio:i<ops.size:=by
      unfold kAp at hd
      cases hq:ops[i]? with
      |none=>rw[hq]at hd;cases hd
      |some o=>exact(vDw.1 hq).1
     rw[hI.mine i hi t (hall i hio) hd];exact hx
    ·rw[hI.other t fun i hi hd=>ht ⟨i,hi,hd⟩];exact hx
 |succ fuel ih =>
  intro P C L pl U listed st' β a w hI;have hsz:=hI.size;have hcl:=hI.cl;have hsg:=k1t hI.plan;unfold sgB at hsg;simp only[jBs]at hsg;obtain⟨⟨⟨⟨⟨b1,b2⟩,b3⟩,b4⟩,b5⟩,b6⟩:=hsg;obtain⟨ap1,ap2⟩:=kSp b2
  have hgT:∀j,j<ops.size→listed.getD j true=listed.getD j false:=fun j hj=>by
   rw[jMv,jMv,jVn zo];rfl
  have hex:∃p,p<ops.size∧listed.getD p false=false:=by
   have h1:0<(List.range ops.size).countP (fun j=>!listed.getD j false):=by have:=hI.fuel;omega
   obtain⟨p,hp,hq⟩:=List.countP_pos_iff.1 h1;exact⟨p,jKi.1 hp,by simpa using hq⟩
  obtain⟨p,⟨hp,hpf⟩,hmin⟩:=least hex
  have kKr:p∈Region.ready .any ops listed:=kBw.2 ⟨hp,by rw[hgT p hp];exact hpf,_,jVn hp,fun e he hb=>by
   have hlt:=qK7 hbk (jVn hp) e he hb
   cases hh:listed.getD e.on false with
   |true=>rfl
   |false=>have:=hmin e.on ⟨zo,hh⟩;omega⟩
  refine⟨fun h=>(by rw[h]at kKr;cases kKr),fun i hi=>?_⟩
  obtain⟨h1,h2,o,hoi,h3⟩:=kBw.1 hi;rw[hgT i h1]at h2
  have hopN:∀{J L3:List Nat},kM3 ops (P++pl.sg.flo) C L3 J pl.sg=true→(i∈P++pl.sg.flo→pl.sg.op≠i)∧(i∉P++pl.sg.flo→pl.opn=some pl.sg.op→i=pl.sg.op):=fun{J L3} h=>by
   unfold kM3 at h;simp only[jBs,decide_eq_true_eq,jDl,jYk,jOa,beq_iff_eq,jUs,bne_iff_ne]at h;obtain⟨⟨⟨⟨⟨⟨k1,k2⟩,k3⟩,k5⟩,k6⟩,k7⟩,k8⟩:=h;rw[←vJv,jOa]at k2;refine⟨fun h e=>k2 (e▸h),fun hn ho=>?_⟩
   rcases k8 i (jKi.2 h1)with((h|h)|h)|h
   ·exact absurd h hn
   ·have:=hI.calls i h;rw[h2]at this;cases this
   ·exact h
   ·have:=(kT5 h).ready hcl hoi h3;rw[hI.op _ ho]at this;cases this
  by_cases hiP:i∈P++pl.sg.flo
  ·-- a value
   have hclN:Cl ops (listed.setIfInBounds i true):=fun i' o' j' ho' hi' he'=>by
    rw[kBc _ _ _ _ zo]at hi'⊢;split
    ·rfl
    ·by_cases hii:i'=i
     ·subst hii;rw[hoi]at ho';cases ho';exact kFm h3 he'
     ·rw[if_neg hii]at hi';exact hcl i' o' j' ho' hi' he'
   have hcnt:fuel=(List.range ops.size).countP (fun j=>!(listed.setIfInBounds i true).getD j false):=by
    have:=kZg (listed:=listed) h1 hsz.symm h2;have:=hI.fuel;omega
   have hmem:i∈pl.sg.flo++pl.sg.chk:=by
    rcases jTf.1 hiP with h|h
    ·rw[jDl]at b5;have:=b5 i h;simp only[jYk,vMn,jOa]at this;rcases this with(h4|⟨c',h4,h5⟩)|h4
     ·exact vMm _ h4
     ·have:=(kT5 h5).listed hcl (hI.calls c' h4);rw[h2]at this;cases this
     ·have:=hI.known i h4;rw[h2]at this;cases this
    ·exact vJc _ h
   obtain⟨o',d,x,ho',hd,hx,hvx⟩:=hI.vals i hmem;rw[hoi]at ho';cases ho';have hdi:kAp ops i=some d:=by unfold kAp;rw[hoi];exact hd
   have hlook:qEe ops (P++pl.sg.flo) i=true:=by
    rw[jDl]at b6;refine b6 i ?_;rcases jTf.1 hmem with h|h
    ·exact vMm _ h
    ·exact vJc _ h
   unfold qEe at hlook;rw[hoi]at hlook;simp only[jDl]at hlook
   have hval:V o st' x:=hV.congr o U st' x (fun t ht=>by
    unfold St.get;by_cases hj:∃j∈P++pl.sg.flo,kAp ops j=some t
    ·obtain⟨j,hj,hjd⟩:=hj;have:=hlook t ht j hj;rw[hjd]at this;simp only[beq_self_eq_true,wGi,jXf]at this;rw[hI.mine j hj t (kFm h3 this) hjd]
    ·rw[hI.other t fun j hj' hd'=>hj ⟨j,hj',hd'⟩]) hI.hp hvx
   have hst:=hV.sound o st' x β a w hI.sim hval
   have hnext:∀a' w',Ok N X0 M w0 (fun st2=>st2=st'.put o.dst x) a' w'→wpAny c.P .any ops Q fuel (listed.setIfInBounds i true) a' w':=fun a' w' hk=>by
    obtain⟨st2,β',rfl,h5⟩:=hk
    have hset:∀j,listed.getD j false=true→(listed.setIfInBounds i true).getD j false=true:=fun j hj=>by
     rw[kBc _ _ _ _ zo];split
     ·rfl
     ·exact hj
    refine ih (P:=P) (C:=C) (L:=L) (pl:=pl) (U:=U) (st':=st'.put o.dst x) (β:=β') ⟨hI.plan,by simpa using hsz,hclN,hcnt,fun j hj=>hset j (hI.calls j hj),fun j hj=>hset j (hI.known j hj),fun j hj=>?_,hI.vals,h5,by rw[kQ7];exact hI.hp,fun t ht=>?_,fun j hj e hjl hje=>?_,hI.after⟩
    ·have hji:j≠i:=by
      have hpl:=hI.plan
      cases pl with
      |last sg=>cases hj
      |call sg r=>unfold plB at hpl;simp only[jBs]at hpl;rw[←vSn hj];exact(hopN hpl.1.2).1 hiP
      |fork sg jj p q=>unfold plB at hpl;simp only[jBs]at hpl;rw[←vSn hj];exact(hopN hpl.1.2.1).1 hiP
     rw[kBc _ _ _ _ zo,if_neg hji];exact hI.op j hj
    ·rw[hd,kJl _ _ _ _ (fun e=>ht i hiP (by rw[hdi,e]))]
     exact hI.other t ht
    ·rw[kBc _ _ _ _ zo]at hjl;by_cases hji:j=i
     ·subst hji;rw[hdi]at hje;cases hje;rw[hd,kIo,hx]
     ·rw[if_neg hji]at hjl;rw[hd,kJl _ _ _ _ (fun e'=>hji (ap2 j hj i hiP e hje (by rw[hdi,e'])))]
      exact hI.mine j hj e hjl hje
   unfold wpOp;rw[hoi];simp only;split
   ·rename_i hw;rw[if_pos hw]at hst;exact .inl (Oper.wp_mono hnext hst)
   ·rename_i hw;rw[if_neg hw]at hst;exact hnext _ _ hst
  ·-- the call
   have hpl:=hI.plan;have haf:=hI.after
   cases hp0:pl with
   |last sg =>
    exfalso;rw[hp0]at hpl hiP;unfold plB at hpl;simp only[jBs,jDl,jYk,jOa]at hpl;rcases hpl.2 i (jKi.2 h1)with h|h
    ·exact hiP h
    ·have:=hI.calls i h
     rw[h2]at this;cases this
   |call sg r =>
    rw[hp0]at hpl haf;unfold plB at hpl;simp only[jBs]at hpl;have hii:=(hopN (by rw[hp0];exact hpl.1.2)).2 hiP (by rw[hp0];rfl)
    have e:pl.sg=sg:=by rw[hp0];rfl
    rw[e]at hii;subst hii
    exact kUx (js:=[]) hW hV hS hI e h2 hoi h3 hpl.1.2 hpl.2 hI.known (fun i hi=>by cases hi) haf ih
   |fork sg j p q =>
    rw[hp0]at hpl haf;unfold plB at hpl;simp only[jBs,jOa]at hpl;obtain⟨⟨⟨⟨_,hjP⟩,_⟩,⟨g1,g2⟩⟩,g3,g4⟩:=hpl;have hii:=(hopN (by rw[hp0];exact g1)).2 hiP (by rw[hp0];rfl)
    have e:pl.sg=sg:=by rw[hp0];rfl
    rw[e]at hii;subst hii
    cases hjl:listed.getD j false with
    |true=>exact kUx (js:=[]) hW hV hS hI e h2 hoi h3 g1 g2 (fun i hi=>by
      rcases jDr.1 hi with h|h
      ·rw[h];exact hjl
      ·exact hI.known i h) (fun i hi=>by cases hi) haf.1 ih
    |false=>exact kUx (js:=[(j,0)]) hW hV hS hI e h2 hoi h3 g3 g4 hI.known (fun i hi=>by
      rcases jDr.1 hi with h|h
      ·rw[h];exact⟨hjl,hjP⟩
      ·cases h) haf.2 ih
theorem WP.qB9 {id:Nat}{l:List Oper}(pl:Pl) {V:Oper→St→SV→Prop}{W:Oper→St→(SV→Prop)→Prop}(hW:∀o st K,W o st K→∃x,V o st x∧K x) (hbk:k1u l.toArray=true) (hB:plB l.toArray [] [] [] pl=true) (hm:c.P.follows .mixedOrders=true)
  {stp:Oper→St→(St→Prop)→Prop}(hV:Ap c.P X0 M w0→VOk c.P N X0 M w0 l.toArray (fun e a' w'=>Ok N X0 M w0 (K e) a' w') V) (hS:Ap c.P X0 M w0→kSk c.P N X0 M w0 l.toArray (fun e a' w'=>Ok N X0 M w0 (K e) a' w') stp) (h:kOv W stp l pl st (K .normal)):WP c N X0 M w0 (.region id l.toArray true) st K:=by
 intro hA β a w hs;have hr:=k1t hB;unfold sgB at hr;simp only[jBs]at hr;obtain⟨⟨⟨⟨⟨d1,d2⟩,d3⟩,d4⟩,d5⟩,d6⟩:=hr;obtain⟨U,⟨u0,u0'⟩,u2,u3,u4⟩:=kWh (ops:=l.toArray) hW (hV hA).congr _ _ d1 (by simpa using k1w h)
 have hfl:∀j,(Array.replicate l.toArray.size false).getD j false=false:=fun j=>by
  rw[jMv,vBc];split<;>rfl
 refine wp_region_any hm (qK8 (c:=c) hbk hW (hV hA) (hS hA) (Kn:=K .normal) (fun a w hk=>hk) l.toArray.size (P:=[]) (C:=[]) (L:=[]) (pl:=pl) (U:=U) (st':=st) (β:=β) ⟨hB,zs,fun i o j _ hi _=>?_,?_,fun i hi=>(by cases hi),fun i hi=>(by cases hi),fun i _=>hfl i,fun i hi=>?_,hs.grow ((vVj _ _).drew) (fun b _ hb=>.inl hb) hs.x0,u2.symm,fun t ht=>?_,fun i _ d hi _=>?_,?_⟩)
 ·rw[hfl]at hi;cases hi
 ·have:(List.range l.toArray.size).countP (fun j=>!(Array.replicate l.toArray.size false).getD j false)=(List.range l.toArray.size).countP (fun _=>true):=by
   apply vOy;intro j hj;rw[hfl];simp
  rw[this];simp
 ·rcases jTf.1 hi with h|h
  ·exact u4 i h
  ·exact k4b (ops:=l.toArray) hW (by simpa using u0) i h
 ·exact(u3 t fun i hi=>ht i (by simpa using hi)).symm
 ·rw[hfl]at hi;cases hi
 ·simpa using u0'
end
def St.k1x (tys:List (Nat×TyD)) (C:List (FuncId×Ctr)) (N:Nat) (ops:Array Oper) (o:Oper) (st:St) (K:SV→Prop):Prop :=
 match o.op with
 | .binOp op T x y U=>match st.ev x,st.ev y with
  | .v (.int .i64 a),.v (.int .i64 b)=>if kFn op=true∧o.guard.isNone=true then kAq N o.dst=true∧K (.v (.int .i64 (kHw op a b)))else st.kDc tys C N ops o K
  | _,_=>st.kDc tys C N ops o K
 | _=>st.kDc tys C N ops o K
def St.valW (tys:List (Nat×TyD)) (C:List (FuncId×Ctr)) (N:Nat) (ops:Array Oper) (o:Oper) (st:St) (x:SV):Prop:=st.val tys C N ops o x ∨
 ∃op T p q U a b,o.op=.binOp op T p q U∧st.ev p=.v (.int .i64 a)∧st.ev q=.v (.int .i64 b)∧kFn op=true∧o.guard=none∧kAq N o.dst=true∧x=.v (.int .i64 (kHw op a b))
theorem qEg {tys:List (Nat×TyD)}{C:List (FuncId×Ctr)}{N:Nat}{ops:Array Oper}(o:Oper) (st:St) (K:SV→Prop) (h:st.k1x tys C N ops o K):∃x,st.valW tys C N ops o x∧K x:=by
 have old:st.kDc tys C N ops o K→∃x,st.valW tys C N ops o x∧K x:=fun h=>by
  obtain⟨x,h1,h2⟩:=kSl h;exact⟨x,.inl h1,h2⟩
 unfold St.k1x at h;split at h
 case h_2=>exact old h
 case h_1 _ op T x y U ho =>
  split at h
  case h_2=>exact old h
  case h_1 _ _ a b hx hy =>
   split at h
   case isFalse=>exact old h
   case isTrue hc=>exact⟨_,.inr ⟨op,T,x,y,U,a,b,ho,hx,hy,hc.1,by simpa using hc.2,h.1,rfl⟩,h.2⟩
section
variable {c:Cx}{N:Nat}{X0:Nat→Prop}{M:Nat→BV→Prop}{w0:World}{st:St}{K:Exit→St→Prop}
theorem qCa (hA:Ap c.P X0 M w0) {ops:Array Oper}{Q:Exit→Act→World→Prop}:VOk c.P N X0 M w0 ops Q (St.valW c.tys c.C N ops) where
 congr:=fun o st st2 x h1 h2 h=>by
  rcases h with h|⟨op,T,p,q,U,a,b,ho,hx,hy,h3,h4,h5,h6⟩
  ·exact .inl (val_congr h1 h2 h)
  ·have hop:∀y∈o.op.operands,st2.ev y=st.ev y:=fun y hy=>by
    cases y with
    |tmp t=>exact h1 t (vJc _ (List.mem_filterMap.2 ⟨.tmp t,by simpa using hy,rfl⟩))
    | _=>rfl
   rw[ho]at hop;exact .inr ⟨op,T,p,q,U,a,b,ho,by rw[hop p (by simp[Op.operands]),hx],by rw[hop q (by simp[Op.operands]),hy],h3,h4,h5,h6⟩
 sound:=fun o st x β a w hs h=>by
  rcases h with h|⟨op,T,p,q,U,a',b',ho,hx,hy,h3,h4,h5,h6⟩
  ·exact kV6 hA c.hty c.hC hs h
  ·have hwt:Region.wanted o (yielded ops a.tmps)=true:=by simp[Region.wanted,h4]
   rw[if_pos hwt];have e1:a.eval p=.int .i64 a':=(hx▸St.kC1 hs p:R w _ β (.v (.int .i64 a')) (a.eval p)).kAn;have e2:a.eval q=.int .i64 b':=(hy▸St.kC1 hs q:R w _ β (.v (.int .i64 b')) (a.eval q)).kAn;have hr:=k7z (P:=c.P) (T:=T) (a:=a') (b:=b') h3 p q w;refine kUj (K:=fun s=>s=st.put o.dst x) hs h5 ⟨.int .i64 (kHw op a' b'),?_,.p (.v _)⟩ (by rw[h6])
   simp only[Sem.run_bind]at hr;simp only[execOp,ho,e1,e2,Sem.run_bind,hr,Result.andThen_ok,Sem.run_pure]
attribute [go_sem] kOv kQd kSn k0a St.drp St.bck kGi St.k1s St.crOk SV.ptrTo St.k1x kHw kFn
theorem WP.stages {id:Nat}{l:List Oper}(pl:Pl) (hbk:k1u l.toArray=true) (hB:plB l.toArray [] [] [] pl=true) (hm:c.P.follows .mixedOrders=true)
  (h:kOv (fun o st K=>st.kDc c.tys c.C N l.toArray o K) (fun o st K=>st.step c.tys c.C N l.toArray o K) l pl st (K .normal)):WP c N X0 M w0 (.region id l.toArray true) st K :=
 WP.qB9 pl (V:=St.valW c.tys c.C N l.toArray) (fun o st K h=>by obtain⟨x,h1,h2⟩:=kSl h;exact⟨x,.inl h1,h2⟩) hbk hB hm (fun hA=>qCa hA) (fun hA st β a w o K' hs hw=>kCu hA c.hty c.hC hs hw) h
theorem WP.qCb {id:Nat}{l:List Oper}(pl:Pl) (hbk:k1u l.toArray=true) (hB:plB l.toArray [] [] [] pl=true) (hm:c.P.follows .mixedOrders=true)
  (h:kOv (fun o st K=>st.k1x c.tys c.C N l.toArray o K) (fun o st K=>st.step c.tys c.C N l.toArray o K) l pl st (K .normal)):WP c N X0 M w0 (.region id l.toArray true) st K :=
 WP.qB9 pl (V:=St.valW c.tys c.C N l.toArray) qEg hbk hB hm (fun hA=>qCa hA) (fun hA st β a w o K' hs hw=>kCu hA c.hty c.hC hs hw) h
end
end Go.Vc
namespace Go.Proofs.YtjdklcjoeanimaaGreat
attribute [local irreducible] Go.Vc.WP
section
open Go.Vc
def kNp:FP:=⟨9,[fa [1] [],fa [1] [],fa [101] [1],fa [102] [1,2],fa [103] [1,2,3],fa [104] [1,2,3,4],fa [6] [],fa [106] [6],fa [105,107] [1,2,3,4,5,6,7],fn 9,fn 10,fn 11,fn 12],[100,101,102,103,104,105,106,107,108],[],[]⟩
def kNq:FP:=⟨9,[fa [1] [],fa [1] [],fa [118] [1],fa [119] [1,2],fa [120] [1,2,3],fa [121] [1,2,3,4],fa [6] [],fa [123] [6],fa [122,124] [1,2,3,4,5,6,7],fn 9,fn 10,fn 11,fn 12],[117,118,119,120,121,122,123,124,125],[],[]⟩
def kNr:FP:=⟨10,[⟨[1],[],[257],[260,261],[],[]⟩,fc [1] [] [260,261],fc [253] [1] [260,261],fc [254] [1,2] [260,261],fc [255] [1,2,3] [260,261],fc [256] [1,2,3,4] [260,261],fc [1] [] [260,261],fc [258] [6] [260,261],⟨[259],[6,7],[],[261],[],[260]⟩,⟨[257,260],[1,2,3,4,5,6,7,8],[],[],[257],[261]⟩,fn 10,fn 11,fn 12,fn 13],[252,253,254,255,256,257,258,259,260,261],[260,261],[257]⟩
attribute [local go_sem] kNp kNq kNr
attribute [local go_sem] bxC
attribute [local go_sem] kL4 kEz kP7 kpC
section
attribute [local go_sem] kKd kKe kJ5
attribute [local go_sem] kL5 kL6 kJ6 kIa kEy kIm kEq
set_option maxHeartbeats 8000000 in
theorem cPf1:Cy Tryz.prog 275 (kHm fun c=>c=0∨c=3∨c=15):=by
 refine Cy.yen Tryz.func275 (by kernel_rfl) rfl fun x hx=>?_
 obtain⟨⟨I,B,E⟩,⟨⟨⟨pc,sp,fp,S,O⟩,g⟩,q,v⟩,⟨code,a⟩,n⟩:=x;obtain⟨⟨h1,h2,h3,h4,h5,⟨h6,h7,h8,h9,h10⟩,h11⟩,hp⟩:=hx;simp only at h1 h2 h3 h4 h5 h6 h7 h8 h9 h10 h11 hp⊢;subst h5;refine kFi.go (c:=kNo) Tryz.func275 rfl Tryz.results275 Tryz.ntmps275 zo zs ?_ ?_ ?_
 rotate_right
 intro X0 M w0
 ·refine zP [] [(900000,800001),(900001,800002)] rfl ?_;simp only[go_sem];by_cases k0:code=0
  ·subst k0;have e:kA6 E ⟨0,a⟩ ⟨pc+n,sp,fp,S,O⟩=kBi (⟨pc+n,sp,fp,S,O⟩,false) a:=rfl;rw[e]
   (repeat' (first|apply zS|apply zB|((first|apply zW| refine zf kNp ?_|refine zf kNq ?_|refine zf kNr ?_|refine zd 12 ?_|refine zd 8 ?_);simp only[go_sem,h1,Int.reduceBEq,Int.reduceEq])|apply jAi|omega|rfl|exact h1|intro _))
  by_cases k3:code=3
  ·subst k3;have e:kA6 E ⟨3,a⟩ ⟨pc+n,sp,fp,S,O⟩=kBi (kA5 (⟨pc+n,sp,fp,S,O⟩,false) (sp+a)).2 (kA5 (⟨pc+n,sp,fp,S,O⟩,false) (sp+a)).1:=rfl;rw[e]
   (repeat' (first|apply zS|apply zB|((first|apply zW| refine zf kNp ?_|refine zf kNq ?_|refine zf kNr ?_|refine zd 12 ?_|refine zd 8 ?_);simp only[go_sem,h1,Int.reduceBEq,Int.reduceEq])|apply jAi|omega|rfl|exact h1|exact(by rw[kK7];exact h1)|intro _))
  by_cases k15:code=15
  ·subst k15;have e:kA6 E ⟨15,a⟩ ⟨pc+n,sp,fp,S,O⟩=kHk (⟨pc+n,sp,fp,S,O⟩,false) a.toNat:=rfl;rw[e]
   (repeat' (first|apply zS|apply zB|((first|apply zW| refine zf kNp ?_|refine zf kNq ?_|refine zf kNr ?_|refine zd 12 ?_|refine zd 8 ?_);simp only[go_sem,h1,Int.reduceBEq,Int.reduceEq])|apply jAi|omega|rfl|exact h1|exact⟨h1,zo⟩|intro _))
  omega
 ·rfl
 ·intro h;cases h
end
end
section
open Go.Vc
def kR0:FP:=⟨9,[fa [1] [],fa [1] [],fa [101] [1],fa [102] [1,2],fa [103] [1,2,3],fa [104] [1,2,3,4],fa [6] [],fa [106] [6],fa [105,107] [1,2,3,4,5,6,7],fn 9,fn 10,fn 11,fn 12],[100,101,102,103,104,105,106,107,108],[],[]⟩
def kR1:FP:=⟨9,[fa [1] [],fa [1] [],fa [118] [1],fa [119] [1,2],fa [120] [1,2,3],fa [121] [1,2,3,4],fa [6] [],fa [123] [6],fa [122,124] [1,2,3,4,5,6,7],fn 9,fn 10,fn 11,fn 12],[117,118,119,120,121,122,123,124,125],[],[]⟩
def kR2:FP:=⟨10,[⟨[1],[],[257],[260,261],[],[]⟩,fc [1] [] [260,261],fc [253] [1] [260,261],fc [254] [1,2] [260,261],fc [255] [1,2,3] [260,261],fc [256] [1,2,3,4] [260,261],fc [1] [] [260,261],fc [258] [6] [260,261],⟨[259],[6,7],[],[261],[],[260]⟩,⟨[257,260],[1,2,3,4,5,6,7,8],[],[],[257],[261]⟩,fn 10,fn 11,fn 12,fn 13],[252,253,254,255,256,257,258,259,260,261],[260,261],[257]⟩
attribute [local go_sem] kR0 kR1 kR2
attribute [local go_sem] bxC
attribute [local go_sem] kL4 kEz kP7 kpC
section
attribute [local go_sem] kKd kKe kJ5
attribute [local go_sem] kL5 kL6 kJ6 kIa kEy kIm kEq
set_option maxHeartbeats 8000000 in
theorem cPf8:Cy Tryz.prog 275 (kHm fun c=>c=2∨c=4):=by
 refine Cy.yen Tryz.func275 (by kernel_rfl) rfl fun x hx=>?_
 obtain⟨⟨I,B,E⟩,⟨⟨⟨pc,sp,fp,S,O⟩,g⟩,q,v⟩,⟨code,a⟩,n⟩:=x;obtain⟨⟨h1,h2,h3,h4,h5,⟨h6,h7,h8,h9,h10⟩,h11⟩,hp⟩:=hx;simp only at h1 h2 h3 h4 h5 h6 h7 h8 h9 h10 h11 hp⊢;subst h5;refine kFi.go (c:=kNo) Tryz.func275 rfl Tryz.results275 Tryz.ntmps275 zo zs ?_ ?_ ?_
 rotate_right
 intro X0 M w0
 ·refine zP [] [(900000,800001),(900001,800002)] rfl ?_;simp only[go_sem];by_cases k2:code=2
  ·subst k2;obtain⟨ha0,ha1⟩:=h8 zo;have e:kA6 E ⟨2,a⟩ ⟨pc+n,sp,fp,S,O⟩=kLt (kAd (⟨pc+n,sp,fp,S,O⟩,false)).2 (kIg fp a) (kAd (⟨pc+n,sp,fp,S,O⟩,false)).1:=rfl;rw[e];have hl1:(kAd (⟨pc+n,sp,fp,S,O⟩,false)).2.1.st.length=1200:=by rw[kHn];exact h1
   generalize hp1:kAd (⟨pc+n,sp,fp,S,O⟩,false)=r at hl1⊢;obtain⟨z,⟨rp,rs,rf,rS,rO⟩,rb⟩:=r;simp only at hl1⊢
   (repeat' (first|apply zS|apply zB|((first|refine WP.stages (id:=14) (.call ⟨[],[0,1,2,3,4,5,6,7,8,9],[(0,1)],10⟩ (.call ⟨[0],[],[],11⟩ (.last ⟨[],[],[],0⟩))) (by decide +kernel) (by decide +kernel) (by kernel_rfl) ?_);simp only[go_sem,h1,hp1,Int.reduceBEq,Int.reduceEq])|((first|apply zW| refine zf kR0 ?_|refine zf kR1 ?_|refine zf kR2 ?_|refine zd 12 ?_|refine zd 8 ?_);simp only[go_sem,h1,hp1,Int.reduceBEq,Int.reduceEq])|apply jAi|omega|rfl|exact h1|exact hl1|intro _))
  by_cases k4:code=4
  ·subst k4;obtain⟨ha0,ha1⟩:=h8 zo;have e:kA6 E ⟨4,a⟩ ⟨pc+n,sp,fp,S,O⟩=kLt (kAd (⟨pc+n,sp,fp,S,O⟩,false)).2 (sp+a) (kAd (⟨pc+n,sp,fp,S,O⟩,false)).1:=rfl;rw[e];have hl1:(kAd (⟨pc+n,sp,fp,S,O⟩,false)).2.1.st.length=1200:=by rw[kHn];exact h1
   generalize hp1:kAd (⟨pc+n,sp,fp,S,O⟩,false)=r at hl1⊢;obtain⟨z,⟨rp,rs,rf,rS,rO⟩,rb⟩:=r;simp only at hl1⊢
   (repeat' (first|apply zS|apply zB|((first|refine WP.stages (id:=16) (.call ⟨[],[0,1,2,3,4,5],[(0,1),(1,8),(2,6),(3,6),(4,8)],6⟩ (.call ⟨[0,1,2,3,4],[],[],7⟩ (.last ⟨[],[],[],0⟩))) (by decide +kernel) (by decide +kernel) (by kernel_rfl) ?_);simp only[go_sem,h1,hp1,Int.reduceBEq,Int.reduceEq])|((first|apply zW| refine zf kR0 ?_|refine zf kR1 ?_|refine zf kR2 ?_|refine zd 12 ?_|refine zd 8 ?_);simp only[go_sem,h1,hp1,Int.reduceBEq,Int.reduceEq])|apply jAi|omega|rfl|exact h1|exact hl1|intro _))
  omega
 ·rfl
 ·intro h;cases h
end
end
section
open Go.Vc
def kXf:FP:=⟨9,[fa [1] [],fa [1] [],fa [101] [1],fa [102] [1,2],fa [103] [1,2,3],fa [104] [1,2,3,4],fa [6] [],fa [106] [6],fa [105,107] [1,2,3,4,5,6,7],fn 9,fn 10,fn 11,fn 12],[100,101,102,103,104,105,106,107,108],[],[]⟩
def kXg:FP:=⟨9,[fa [1] [],fa [1] [],fa [118] [1],fa [119] [1,2],fa [120] [1,2,3],fa [121] [1,2,3,4],fa [6] [],fa [123] [6],fa [122,124] [1,2,3,4,5,6,7],fn 9,fn 10,fn 11,fn 12],[117,118,119,120,121,122,123,124,125],[],[]⟩
def kXh:FP:=⟨10,[⟨[1],[],[257],[260,261],[],[]⟩,fc [1] [] [260,261],fc [253] [1] [260,261],fc [254] [1,2] [260,261],fc [255] [1,2,3] [260,261],fc [256] [1,2,3,4] [260,261],fc [1] [] [260,261],fc [258] [6] [260,261],⟨[259],[6,7],[],[261],[],[260]⟩,⟨[257,260],[1,2,3,4,5,6,7,8],[],[],[257],[261]⟩,fn 10,fn 11,fn 12,fn 13],[252,253,254,255,256,257,258,259,260,261],[260,261],[257]⟩
attribute [local go_sem] kXf kXg kXh
attribute [local go_sem] bxC
attribute [local go_sem] kL4 kEz kP7 kpC
section
attribute [local go_sem] kKd kKe kJ5
attribute [local go_sem] kL5 kL6 kJ6 kIa kEy kIm kEq
set_option maxHeartbeats 8000000 in
theorem cPf5:Cy Tryz.prog 275 (kHm fun c=>c=16):=by
 refine Cy.yen Tryz.func275 (by kernel_rfl) rfl fun x hx=>?_
 obtain⟨⟨I,B,E⟩,⟨⟨⟨pc,sp,fp,S,O⟩,g⟩,q,v⟩,⟨code,a⟩,n⟩:=x;obtain⟨⟨h1,h2,h3,h4,h5,⟨h6,h7,h8,h9,h10⟩,h11⟩,hp⟩:=hx;simp only at h1 h2 h3 h4 h5 h6 h7 h8 h9 h10 h11 hp⊢;subst h5;refine kFi.go (c:=kNo) Tryz.func275 rfl Tryz.results275 Tryz.ntmps275 zo zs ?_ ?_ ?_
 rotate_right
 intro X0 M w0
 ·refine zP [] [(900000,800001),(900001,800002)] rfl ?_;simp only[go_sem];subst hp;obtain⟨ha0,ha1⟩:=h9 zo;obtain⟨k,rfl⟩:=zN a;have t1:(k:Int).tdiv 16=((k / 16:Nat):Int):=rfl;have t2:(k:Int).tmod 16=((k%16:Nat):Int):=rfl;have e:kA6 E ⟨16,k⟩ ⟨pc+n,sp,fp,S,O⟩=kBi (kDt (kBe (kAd (kDt (kAd (⟨pc+n,sp,fp,S,O⟩,false)).2 (k / 16))).2 (kAd (kDt (kAd (⟨pc+n,sp,fp,S,O⟩,false)).2 (k / 16))).1) (k%16)) (kAd (⟨pc+n,sp,fp,S,O⟩,false)).1:=rfl;rw[e];have hl1:(kAd (⟨pc+n,sp,fp,S,O⟩,false)).2.1.st.length=1200:=by rw[kHn];exact h1
  generalize hp1:kAd (⟨pc+n,sp,fp,S,O⟩,false)=r at hl1⊢;obtain⟨z,⟨rp,rs,rf,rS,rO⟩,rb⟩:=r;simp only at hl1⊢;have hl2:(kDt (⟨rp,rs,rf,rS,rO⟩,rb) (k / 16)).1.st.length=1200:=by rw[kP0];exact hl1
  generalize hp2:kDt (⟨rp,rs,rf,rS,rO⟩,rb) (k / 16)=t at hl2⊢;obtain⟨⟨tp,ts,tf,tS,tO⟩,tb⟩:=t;simp only at hl2⊢;have hl3:(kAd (⟨tp,ts,tf,tS,tO⟩,tb)).2.1.st.length=1200:=by rw[kHn];exact hl2
  generalize hp3:kAd (⟨tp,ts,tf,tS,tO⟩,tb)=u at hl3⊢;obtain⟨y,⟨up,us,uf,uS,uO⟩,ub⟩:=u;simp only[kBe]at hl3⊢;have hl4:(kDt (⟨y,us,uf,uS,uO⟩,ub) (k%16)).1.st.length=1200:=by rw[kP0];exact hl3
  generalize hp4:kDt (⟨y,us,uf,uS,uO⟩,ub) (k%16)=w at hl4⊢;obtain⟨⟨wp,ws,wf,wS,wO⟩,wb⟩:=w;simp only at hl4⊢;have q1:((k / 16:Nat):Int).toNat=k / 16:=jB2 _;have q2:((k%16:Nat):Int).toNat=k%16:=jB2 _
  (repeat' (first|apply zS|apply zB|((first|apply zW| refine zf kXf ?_|refine zf kXg ?_|refine zf kXh ?_|refine zd 12 ?_|refine zd 8 ?_);simp only[go_sem,t1,t2,q1,q2,hp1,hp2,hp3,hp4,Int.reduceBEq,Int.reduceEq])|apply jAi|omega|rfl|exact h1|exact hl1|exact hl2|exact hl3|exact hl4|exact⟨hl1,zo⟩|exact⟨hl3,zo⟩|intro _))
 ·rfl
 ·intro h;cases h
end
end
section
open Go.Vc
def kXl:FP:=⟨9,[fa [1] [],fa [1] [],fa [101] [1],fa [102] [1,2],fa [103] [1,2,3],fa [104] [1,2,3,4],fa [6] [],fa [106] [6],fa [105,107] [1,2,3,4,5,6,7],fn 9,fn 10,fn 11,fn 12],[100,101,102,103,104,105,106,107,108],[],[]⟩
def kXm:FP:=⟨9,[fa [1] [],fa [1] [],fa [118] [1],fa [119] [1,2],fa [120] [1,2,3],fa [121] [1,2,3,4],fa [6] [],fa [123] [6],fa [122,124] [1,2,3,4,5,6,7],fn 9,fn 10,fn 11,fn 12],[117,118,119,120,121,122,123,124,125],[],[]⟩
def kXn:FP:=⟨10,[⟨[1],[],[257],[260,261],[],[]⟩,fc [1] [] [260,261],fc [253] [1] [260,261],fc [254] [1,2] [260,261],fc [255] [1,2,3] [260,261],fc [256] [1,2,3,4] [260,261],fc [1] [] [260,261],fc [258] [6] [260,261],⟨[259],[6,7],[],[261],[],[260]⟩,⟨[257,260],[1,2,3,4,5,6,7,8],[],[],[257],[261]⟩,fn 10,fn 11,fn 12,fn 13],[252,253,254,255,256,257,258,259,260,261],[260,261],[257]⟩
attribute [local go_sem] kXl kXm kXn
attribute [local go_sem] bxC
attribute [local go_sem] kL4 kEz kP7 kpC
theorem qMt (s:CpB):(kAd s).2.1.out=s.1.out:=by
 unfold kAd;split
 ·rw[kK7]
 ·rfl
section
attribute [local go_sem] kKd kKe kJ5
attribute [local go_sem] kL5 kL6 kJ6 kIa kEy kIm kEq
set_option maxHeartbeats 8000000 in
theorem cPf9:Cy Tryz.prog 275 (kHm fun c=>c=17):=by
 refine Cy.yen Tryz.func275 (by kernel_rfl) rfl fun x hx=>?_
 obtain⟨⟨I,B,E⟩,⟨⟨⟨pc,sp,fp,S,O⟩,g⟩,q,v⟩,⟨code,a⟩,n⟩:=x;obtain⟨⟨h1,h2,h3,h4,h5,⟨h6,h7,h8,h9,h10⟩,h11⟩,hp⟩:=hx;simp only at h1 h2 h3 h4 h5 h6 h7 h8 h9 h10 h11 hp⊢;subst h5;refine kFi.go (c:=kNo) Tryz.func275 rfl Tryz.results275 Tryz.ntmps275 zo zs ?_ ?_ ?_
 rotate_right
 intro X0 M w0
 ·refine zP [] [(900000,800001),(900001,800002)] rfl ?_;simp only[go_sem];subst hp;have e:kA6 E ⟨17,a⟩ ⟨pc+n,sp,fp,S,O⟩=kF8 (kAd (⟨pc+n,sp,fp,S,O⟩,false)).2 (kAd (⟨pc+n,sp,fp,S,O⟩,false)).1:=rfl;rw[e];have hl1:(kAd (⟨pc+n,sp,fp,S,O⟩,false)).2.1.st.length=1200:=by rw[kHn];exact h1
  have hl2:(kAd (⟨pc+n,sp,fp,S,O⟩,false)).2.1.out=O:=by rw[qMt]
  generalize hp1:kAd (⟨pc+n,sp,fp,S,O⟩,false)=r at hl1 hl2⊢;obtain⟨z,⟨rp,rs,rf,rS,rO⟩,rb⟩:=r;simp only[kF8]at hl1 hl2⊢;subst hl2
  (repeat' (first|apply zS|apply zB|((first|refine WP.stages (id:=49) (.fork ⟨[],[0,1,2,3,4,5,6],[(0,1),(1,1),(2,1),(3,1),(4,1)],7⟩ 5 (.call ⟨[0,1,2,3,4],[],[(0,1),(1,1),(2,1),(3,1),(4,1)],8⟩ (.call ⟨[0,1,2,3,4],[],[(0,1)],9⟩ (.call ⟨[0],[10,11,12],[],13⟩ (.last ⟨[],[],[],0⟩)))) (.fork ⟨[0,1,2,3,4],[5],[(0,1),(1,1),(2,1),(3,1),(4,1)],8⟩ 5 (.call ⟨[0,1,2,3,4],[],[(0,1)],9⟩ (.call ⟨[0],[10,11,12],[],13⟩ (.last ⟨[],[],[],0⟩))) (.call ⟨[0,1,2,3,4],[5],[(0,1)],9⟩ (.call ⟨[0],[10,11,12],[],13⟩ (.last ⟨[],[],[],0⟩))))) (by decide +kernel) (by decide +kernel) (by kernel_rfl) ?_);simp only[go_sem,h1,hp1,kF8,Int.reduceBEq,Int.reduceEq])|((first|apply zW| refine zf kXl ?_|refine zf kXm ?_|refine zf kXn ?_|refine zd 12 ?_|refine zd 8 ?_);simp only[go_sem,h1,hp1,kF8,Int.reduceBEq,Int.reduceEq])|apply jAi|omega|rfl|exact h1|exact hl1|(rw[jNq];rfl)|intro _))
 ·rfl
 ·intro h;cases h
end
end
section
open Go.Vc
def kXc:FP:=⟨9,[fa [1] [],fa [1] [],fa [101] [1],fa [102] [1,2],fa [103] [1,2,3],fa [104] [1,2,3,4],fa [6] [],fa [106] [6],fa [105,107] [1,2,3,4,5,6,7],fn 9,fn 10,fn 11,fn 12],[100,101,102,103,104,105,106,107,108],[],[]⟩
def kXd:FP:=⟨9,[fa [1] [],fa [1] [],fa [118] [1],fa [119] [1,2],fa [120] [1,2,3],fa [121] [1,2,3,4],fa [6] [],fa [123] [6],fa [122,124] [1,2,3,4,5,6,7],fn 9,fn 10,fn 11,fn 12],[117,118,119,120,121,122,123,124,125],[],[]⟩
def kXe:FP:=⟨10,[⟨[1],[],[257],[260,261],[],[]⟩,fc [1] [] [260,261],fc [253] [1] [260,261],fc [254] [1,2] [260,261],fc [255] [1,2,3] [260,261],fc [256] [1,2,3,4] [260,261],fc [1] [] [260,261],fc [258] [6] [260,261],⟨[259],[6,7],[],[261],[],[260]⟩,⟨[257,260],[1,2,3,4,5,6,7,8],[],[],[257],[261]⟩,fn 10,fn 11,fn 12,fn 13],[252,253,254,255,256,257,258,259,260,261],[260,261],[257]⟩
attribute [local go_sem] kXc kXd kXe
attribute [local go_sem] bxC
attribute [local go_sem] kL4 kEz kP7 kpC
section
attribute [local go_sem] kKd kKe kJ5
attribute [local go_sem] kL5 kL6 kJ6 kIa kEy kIm kEq
set_option maxHeartbeats 8000000 in
theorem cPf4:Cy Tryz.prog 275 (kHm fun c=>5≤c∧c≤9):=by
 refine Cy.yen Tryz.func275 (by kernel_rfl) rfl fun x hx=>?_
 obtain⟨⟨I,B,E⟩,⟨⟨⟨pc,sp,fp,S,O⟩,g⟩,q,v⟩,⟨code,a⟩,n⟩:=x;obtain⟨⟨h1,h2,h3,h4,h5,⟨h6,h7,h8,h9,h10⟩,h11⟩,hp⟩:=hx;simp only at h1 h2 h3 h4 h5 h6 h7 h8 h9 h10 h11 hp⊢;subst h5;refine kFi.go (c:=kNo) Tryz.func275 rfl Tryz.results275 Tryz.ntmps275 zo zs ?_ ?_ ?_
 rotate_right
 intro X0 M w0
 ·refine zP [] [(900000,800001),(900001,800002)] rfl ?_;simp only[go_sem];have k0:¬code=0:=zo;have k1:¬code=1:=zo;have k3:¬code=3:=zo;have k2:¬code=2:=zo;have k4:¬code=4:=zo;have k10:¬code=10:=zo;have k11:¬code=11:=zo;have k12:¬code=12:=zo;have k13:¬code=13:=zo;have k15:¬code=15:=zo;have k14:¬code=14:=zo;have k16:¬code=16:=zo;have k17:¬code=17:=zo
  have e:kA6 E ⟨code,a⟩ ⟨pc+n,sp,fp,S,O⟩=kBi (kAd (kAd (⟨pc+n,sp,fp,S,O⟩,false)).2).2 (kU6 (code-5+2) (kAd (kAd (⟨pc+n,sp,fp,S,O⟩,false)).2).1 (kAd (⟨pc+n,sp,fp,S,O⟩,false)).1):=by
   unfold kA6;simp only[k0,k1,k3,k2,k4,k10,k11,k12,k13,k15,k14,k16,k17,if_false]
  rw[e];have hl1:(kAd (⟨pc+n,sp,fp,S,O⟩,false)).2.1.st.length=1200:=by rw[kHn];exact h1
  generalize hp:kAd (⟨pc+n,sp,fp,S,O⟩,false)=r at hl1⊢;obtain⟨z,⟨rp,rs,rf,rS,rO⟩,rb⟩:=r;simp only at hl1⊢;have hl2:(kAd (⟨rp,rs,rf,rS,rO⟩,rb)).2.1.st.length=1200:=by rw[kHn];exact hl1
  generalize hq:kAd (⟨rp,rs,rf,rS,rO⟩,rb)=t at hl2⊢;obtain⟨y,⟨tp,ts,tf,tS,tO⟩,tb⟩:=t;simp only at hl2⊢
  (repeat' (first|apply zS|apply zB|((first|apply zW| refine zf kXc ?_|refine zf kXd ?_|refine zf kXe ?_|refine zd 12 ?_|refine zd 8 ?_);simp only[go_sem,hp,hq,k0,k1,k3,k2,k4,k10,k11,k12,k13,k15,k14,k16,k17,Int.reduceBEq,Int.reduceEq])|apply jAi|omega|rfl|exact h1|exact hl1|exact hl2|intro _))
 ·rfl
 ·intro h;cases h
end
end
section
open Go.Vc
def kXi:FP:=⟨9,[fa [1] [],fa [1] [],fa [101] [1],fa [102] [1,2],fa [103] [1,2,3],fa [104] [1,2,3,4],fa [6] [],fa [106] [6],fa [105,107] [1,2,3,4,5,6,7],fn 9,fn 10,fn 11,fn 12],[100,101,102,103,104,105,106,107,108],[],[]⟩
def kXj:FP:=⟨9,[fa [1] [],fa [1] [],fa [118] [1],fa [119] [1,2],fa [120] [1,2,3],fa [121] [1,2,3,4],fa [6] [],fa [123] [6],fa [122,124] [1,2,3,4,5,6,7],fn 9,fn 10,fn 11,fn 12],[117,118,119,120,121,122,123,124,125],[],[]⟩
def kXk:FP:=⟨10,[⟨[1],[],[257],[260,261],[],[]⟩,fc [1] [] [260,261],fc [253] [1] [260,261],fc [254] [1,2] [260,261],fc [255] [1,2,3] [260,261],fc [256] [1,2,3,4] [260,261],fc [1] [] [260,261],fc [258] [6] [260,261],⟨[259],[6,7],[],[261],[],[260]⟩,⟨[257,260],[1,2,3,4,5,6,7,8],[],[],[257],[261]⟩,fn 10,fn 11,fn 12,fn 13],[252,253,254,255,256,257,258,259,260,261],[260,261],[257]⟩
attribute [local go_sem] kXi kXj kXk
attribute [local go_sem] bxC
attribute [local go_sem] kL4 kEz kP7 kpC
section
attribute [local go_sem] kKd kKe kJ5
attribute [local go_sem] kL5 kL6 kJ6 kIa kEy kIm kEq
set_option maxHeartbeats 8000000 in
theorem cPf7:Cy Tryz.prog 275 (kHm fun c=>c=1):=by
 refine Cy.yen Tryz.func275 (by kernel_rfl) rfl fun x hx=>?_
 obtain⟨⟨I,B,E⟩,⟨⟨⟨pc,sp,fp,S,O⟩,g⟩,q,v⟩,⟨code,a⟩,n⟩:=x;obtain⟨⟨h1,h2,h3,h4,h5,⟨h6,h7,h8,h9,h10⟩,h11⟩,hp⟩:=hx;simp only at h1 h2 h3 h4 h5 h6 h7 h8 h9 h10 h11 hp⊢;subst h5;refine kFi.go (c:=kNo) Tryz.func275 rfl Tryz.results275 Tryz.ntmps275 zo zs ?_ ?_ ?_
 rotate_right
 intro X0 M w0
 ·refine zP [] [(900000,800001),(900001,800002)] rfl ?_;simp only[go_sem];subst hp;obtain⟨ha0,ha1⟩:=h8 zo;have e:kA6 E ⟨1,a⟩ ⟨pc+n,sp,fp,S,O⟩=kBi (kA5 (⟨pc+n,sp,fp,S,O⟩,false) (kIg fp a)).2 (kA5 (⟨pc+n,sp,fp,S,O⟩,false) (kIg fp a)).1:=rfl;rw[e];have hl1:(kA5 (⟨pc+n,sp,fp,S,O⟩,false) (kIg fp a)).2.1.st.length=1200:=by rw[kK7];exact h1
  generalize hp1:kA5 (⟨pc+n,sp,fp,S,O⟩,false) (kIg fp a)=r at hl1⊢;obtain⟨z,⟨rp,rs,rf,rS,rO⟩,rb⟩:=r;simp only at hl1⊢
  (repeat' (first|apply zS|apply zB|((first|refine WP.stages (id:=10) (.call ⟨[],[0,1,2,3,4,5,6,7,8,9],[(0,1)],10⟩ (.call ⟨[0],[],[],11⟩ (.last ⟨[],[],[],0⟩))) (by decide +kernel) (by decide +kernel) (by kernel_rfl) ?_);simp only[go_sem,h1,hp1,Int.reduceBEq,Int.reduceEq])|((first|apply zW| refine zf kXi ?_|refine zf kXj ?_|refine zf kXk ?_|refine zd 12 ?_|refine zd 8 ?_);simp only[go_sem,h1,hp1,Int.reduceBEq,Int.reduceEq])|apply jAi|omega|rfl|exact h1|exact hl1|intro _))
 ·rfl
 ·intro h;cases h
end
end
section
open Go.Vc
theorem cPerfS:Cy Tryz.prog 275 (kHm fun _=>True):=by
 have h:=(Cy.codes (Cy.codes (Cy.codes (Cy.codes (Cy.codes (Cy.codes (Cy.codes (Cy.codes cPf1 cPf2) cPf3) cPf4) cPf5) cPf6) cPf7) cPf8) cPf9);refine⟨h.call,fun d args obs ha=>?_⟩
 obtain⟨a1,a2,a3,_⟩:=ha;exact h.holds d args obs ⟨a1,a2,a3,by have h0:=a3.op.code;dsimp only at h0⊢;omega⟩
structure StpR (x:kO7×Mach):Prop where
 kWz:kUa x.1.1
 len:x.1.2.1.length=x.1.1.length
 bases:∀b∈x.1.2.1,0≤b∧b≤1000000
 codes:∀i:Nat,(x.1.1.getD i kFo).code.size≤1000000
 ent:x.1.2.2.length≤4194304
 st:x.2.stack.length=1200
 sp:0≤x.2.sp∧x.2.sp≤1200
 out:x.2.out.length≤2097152
 fp:In64 x.2.fp
 run:x.2.state=0
theorem StpR.loc {x:kO7×Mach}(h:StpR x) (a:Int):kGt (x.1,a):=⟨h.kWz,h.len,fun b hb=>by have:=h.bases b hb;omega⟩
@[go_sem] def kStep:Ctr:=pur (fun args=>(spA args 0,kFu (aC args 1))) (fun x=>[.agg [.sl 2 (x.1.1.map encImage),.sl 1 (x.1.2.1.map encI),.sl 1 (x.1.2.2.map encI)],.agg [vi x.2.pc,vi x.2.sp,vi x.2.fp,.sl 1 (x.2.stack.map encI),.sl 1 (x.2.out.map encI),vi x.2.state,vi x.2.value]]) StpR
 (fun _ x=>.agg [vi ((stepS x.1 x.2).pc),vi ((stepS x.1 x.2).sp),vi ((stepS x.1 x.2).fp),.sl 1 ((stepS x.1 x.2).stack.map encI),.sl 1 ((stepS x.1 x.2).out.map encI),vi ((stepS x.1 x.2).state),vi ((stepS x.1 x.2).value)]) (fun _ _=>[])
end
abbrev zMa:Mach:=⟨0,0,0,[],[],0,0⟩
theorem kIj {m:Mach}:kBo m=true↔m.stack.length=1200∧(0≤m.sp∧m.sp≤1200)∧0≤m.state∧m.state≤2:=by unfold kBo;exact decide_eq_true_iff
theorem qOa {m:Mach}{r:CpB}(hm:kBo m=true) (hr:Ok2 r):kBo (kNf m r)=true:=by
 have h:=kIj.1 hm;rw[kIj];unfold kNf;by_cases hb:r.2=true
 ·rw[if_pos hb];exact⟨h.1,h.2.1,by show(0:Int)≤2;omega,by show(2:Int)≤2;omega⟩
 ·rw[if_neg hb];obtain⟨a,b,c⟩:=hr (by simpa using hb)
  by_cases h0:r.1.pc=0
  ·rw[if_pos h0];split
   ·exact⟨a,⟨b,c⟩,by show(0:Int)≤1;omega,by show(1:Int)≤2;omega⟩
   ·exact⟨h.1,h.2.1,by show(0:Int)≤2;omega,by show(2:Int)≤2;omega⟩
  ·rw[if_neg h0];exact⟨a,⟨b,c⟩,h.2.2⟩
theorem qL5 {S:kO7}{m:Mach}(hm:kBo m=true):kBo (stepS S m)=true:=by
 have h:=kIj.1 hm;unfold stepS
 cases hf:kHy S m.pc with
 |none=>rw[kIj];exact⟨h.1,h.2.1,by show(0:Int)≤2;omega,by show(2:Int)≤2;omega⟩
 |some q =>
  obtain⟨x,n⟩:=q;exact qOa hm (k2j ⟨h.1,h.2.1.1,h.2.1.2⟩)
theorem qIp {S:kO7}{m:Mach}(hB:∀b∈S.2.1,0≤b∧b≤1000000) (hI:∀i:Nat,(S.1.getD i kFo).code.size≤1000000) (hE:∀e∈S.2.2,In64 e) (hm:MachR m):MachR (stepS S m):=by
 unfold stepS
 cases h:kHy S m.pc with
 |none=>exact⟨hm.pc,hm.sp,hm.fp,hm.st⟩
 |some q =>
  obtain⟨x,n⟩:=q;show MachR (kNf m (kA6 S.2.2 x (kWy m n)))
  obtain⟨h1,h2,i,h3⟩:=k2m hB h;have h4:=hI i;have h5:=h1.size;have h6:=h1.arg;have hr:=(kZn (E:=S.2.2) (x:=x) (c:=kWy m n) ⟨⟨by show In64 (m.pc+n);unfold In64;omega,hm.sp,hm.fp,hm.st⟩,by unfold In64;omega,fun q=>h1.near (by omega),fun q=>by show In64 (m.pc+n+x.arg);unfold In64;omega,hE⟩).2
  unfold kNf;by_cases hb:(kA6 S.2.2 x (kWy m n)).2=true
  ·rw[if_pos hb];exact⟨hm.pc,hm.sp,hm.fp,hm.st⟩
  ·have r:=hr (by simpa using hb)
   rw[if_neg hb];split
   ·split
    ·exact⟨r.pc,r.sp,r.fp,r.st⟩
    ·exact⟨hm.pc,hm.sp,hm.fp,hm.st⟩
   ·exact⟨r.pc,r.sp,r.fp,r.st⟩
theorem k4t {T:List Mach}{tu:Int}(h:0≤kCj T tu) (htu:0≤tu):kCj T tu<T.length∧∃k:Nat,k<T.length∧kCj T tu=(tu+k).tmod T.length∧(T.getD (kCj T tu).toNat zMa).state=0:=by
 unfold kCj at h⊢;split
 ·rename_i hc;rw[if_pos hc]at h;omega
 ·rename_i hc;obtain⟨k,hk,h1,h2⟩:=k8z hc;rw[List.length_range]at hk;rw[List.getElem_range]at h2;rw[h1];have hp:(0:Int)<T.length:=by omega
  refine⟨Int.tmod_lt_of_pos _ hp,k,hk,rfl,?_⟩;exact of_decide_eq_true h2
def kA0 (x:PcX):PcX×Int :=
 if kCj x.2.1 x.2.2.1<0 then(x,-1)else
  (if(if kCj x.2.1 x.2.2.1=x.2.2.1 then x.2.2.2.1 else x.2.2.2.2)-1=0
   then(x.1,x.2.1.set (kCj x.2.1 x.2.2.1).toNat (stepS x.1 (x.2.1.getD (kCj x.2.1 x.2.2.1).toNat zMa)),(kCj x.2.1 x.2.2.1+1).tmod x.2.1.length,x.2.2.2.2,x.2.2.2.2)
   else(x.1,x.2.1.set (kCj x.2.1 x.2.2.1).toNat (stepS x.1 (x.2.1.getD (kCj x.2.1 x.2.2.1).toNat zMa)),kCj x.2.1 x.2.2.1,(if kCj x.2.1 x.2.2.1=x.2.2.1 then x.2.2.2.1 else x.2.2.2.2)-1,x.2.2.2.2),kCj x.2.1 x.2.2.1)
theorem kU7 {x:PcX}:kFa x=true↔kAo x.1.1 x.1.2.1 x.1.2.2=true∧((1≤x.2.1.length∧x.2.1.length≤3)∧(0≤x.2.2.1∧x.2.2.1≤(x.2.1.length:Int)-1)∧(1≤x.2.2.2.2∧x.2.2.2.2≤1000)∧1≤x.2.2.2.1∧x.2.2.2.1≤x.2.2.2.2)∧∀m∈x.2.1,kBo m=true:=by
 unfold kFa;rw[Bool.and_eq_true,Bool.and_eq_true,decide_eq_true_iff,List.all_eq_true,and_assoc]
theorem qFc {T:List Mach}(h:∀m∈T,kBo m=true) {k:Nat}{m:Mach}(hm:kBo m=true):∀y∈T.set k m,kBo y=true:=fun y hy=>by
 rcases List.mem_or_eq_of_mem_set hy with q|q
 ·exact h y q
 ·rw[q];exact hm
theorem qBn {T:List Mach}(h:∀m∈T,kBo m=true) {k:Nat}(hk:k<T.length):kBo (T.getD k zMa)=true:=by
 rw[List.getD_eq_getElem?_getD,List.getElem?_eq_getElem hk];exact h _ (List.getElem_mem hk)
theorem qL4 {x:PcX}(hx:kFa x=true):kFa (kA0 x).1=true:=by
 obtain⟨h1,⟨h2,h3,h4,h5⟩,h6⟩:=kU7.1 hx;unfold kA0;split
 ·exact hx
 ·rename_i hc;obtain⟨hb,k,hk,hck,hst⟩:=k4t (T:=x.2.1) (tu:=x.2.2.1) (by omega) h3.1
  have hset:=qFc h6 (k:=(kCj x.2.1 x.2.2.1).toNat) (qL5 (S:=x.1) (qBn h6 (k:=(kCj x.2.1 x.2.2.1).toNat) (by omega)))
  have hp:(0:Int)<x.2.1.length:=by omega
  have hm0:=Int.tmod_nonneg (a:=kCj x.2.1 x.2.2.1+1) (x.2.1.length:Int) (by omega)
  have hm1:=Int.tmod_lt_of_pos (kCj x.2.1 x.2.2.1+1) hp;generalize kCj x.2.1 x.2.2.1=t at *;have hl:1≤(if t=x.2.2.1 then x.2.2.2.1 else x.2.2.2.2)∧(if t=x.2.2.1 then x.2.2.2.1 else x.2.2.2.2)≤x.2.2.2.2:=by split<;>omega
  generalize(if t=x.2.2.1 then x.2.2.2.1 else x.2.2.2.2)=l at *
  rw[kU7];split
  ·refine⟨h1,⟨?_,?_,?_,?_⟩,hset⟩<;>simp only[List.length_set]<;>omega
  ·refine⟨h1,⟨?_,?_,?_,?_⟩,hset⟩<;>simp only[List.length_set]<;>omega
theorem qN9 {x:Tm}(h:kNg x=true):kNg (tick x).1=true:=by
 have hx:(1≤x.period∧x.period≤10000)∧(0≤x.spread∧x.spread≤100)∧(1≤x.left∧x.left≤x.period+x.spread)∧0≤x.state∧x.state≤65535:=of_decide_eq_true h;have hn:=kW1 x.state;unfold tick;rw[if_pos h];split
 ·refine decide_eq_true ⟨hx.1,hx.2.1,?_,hx.2.2.2⟩;dsimp only;omega
 ·split
  ·rename_i hs;have h1:=Int.tmod_nonneg (a:=(kCz x.state).tdiv 64) x.spread (Int.tdiv_nonneg hn.1 (by omega))
   have h2:=Int.tmod_lt_of_pos ((kCz x.state).tdiv 64) hs;refine decide_eq_true ⟨hx.1,hx.2.1,?_,hn⟩;dsimp only;omega
  ·refine decide_eq_true ⟨hx.1,hx.2.1,?_,hx.2.2.2⟩;dsimp only;omega
end Go.Proofs.YtjdklcjoeanimaaGreat
namespace Go.Vc
section
section
variable {N:Nat}{X0:Nat→Prop}{M:Nat→BV→Prop}{w0:World}{st:St}{β:Nat→BV}{a:Act}{w:World}
end
abbrev NoM:Nat→BV→Prop:=fun _ _=>False
def WQ (c:Cx) (N:Nat) (X0:Nat→Prop) (M:Nat→BV→Prop) (w0:World) (code:Code) (st:St) (Q:Exit→Act→World→Prop):Prop :=
 Ap c.P X0 M w0→∀β a w,Sim N X0 M w0 st β a w→code.wp c.P Q a w
def normK (K:St→Prop):Exit→St→Prop
 | .normal,st=>K st
 | _,_=>False
section
variable {c:Cx}{N:Nat}{X0:Nat→Prop}{M:Nat→BV→Prop}{w0:World}{st:St}
theorem WQ.seq {x y:Code}{Q:Exit→Act→World→Prop}(h:WP c N X0 M w0 x st (normK fun st'=>WQ c N X0 M w0 y st' Q)):WQ c N X0 M w0 (.seq x y) st Q:=fun hA β a w hs =>
 wp_seq (Code.wp_mono (fun e a w hq=>by
  obtain⟨st',β',h1,h2⟩:=hq
  cases e with
  |normal=>exact h1 hA β' a w h2
  | _=>exact h1.elim) (h hA β a w hs))
end
end
section
open Go.RowKit
theorem qA7 (s:ByteArray):strOf ((Lib.strCells s).map fun v=>[SV.v v])=s:=by
 unfold strOf Lib.strCells;rw[jRw,jRw]
 have:((byteOf∘fun v=>[SV.v v])∘fun b:UInt8=>Value.int .u8 b.toNat)=id:=by
  funext b;simp[byteOf]
 rw[this,List.map_id]
theorem kV0 (s t:ByteArray):Lib.strCells (s++t)=Lib.strCells s++Lib.strCells t:=by
 unfold Lib.strCells;rw[←jNq];congr 1
section
variable {N:Nat}{X1 X2 Xo:Nat→Prop}{wo w1 w w2:World}{st:St}{β:Nat→BV}{a:Act}
theorem Sim.k7c (h:Sim N X1 NoM w1 st β a w) (hp:st.hp=[]) (hsz:w.heap.size≤w2.heap.size) (hb:∀b,b<w.heap.size→¬X1 b→w2.heap[b]? = w.heap[b]?) (hX:∀b,b<w.heap.size→X2 b→X1 b) (hX2:∀b,X2 b→b<w2.heap.size):Sim N X2 NoM w2 st β a w2:=by
 have hnil:∀{X:Nat→Prop}{b:Nat},XX X β st.hp b→X b:=fun{X b} hx=>by
  rcases hx with h|⟨id,ob,hi,_⟩
  ·exact h
  ·rw[hp]at hi;cases hi
 exact{
  size:=h.size
  defers:=h.defers
  beta:=h.beta
  slots:=fun t x hx=>(h.slots t x hx).mono ⟨hsz,fun b hlt hn=>hb b hlt fun hx=>hn (.inl hx)⟩ (fun b hlt hx=>.inl (hX b hlt (hnil hx)))
  objs:=fun id ob hi=>by rw[hp]at hi;cases hi
  inj:=fun i j oi oj b hi=>by rw[hp]at hi;cases hi
  x0:=hX2
  mine:=fun id ob b hi=>by rw[hp]at hi;cases hi
  pin:=fun id v hm=>hm.elim
  few:=h.few
  os:=rfl
  tape:=rfl
  output:=rfl
  grew:=jDu _
  kept:=fun _ _ _=>rfl }
theorem kQ6 {b:Nat}:¬MB NoM b:=fun⟨_,_,h,_⟩=>h.elim
theorem Sim.home (h:Sim N X1 NoM w1 st β a w) (hp:st.hp=[]) (hXo:∀b,Xo b→X1 b) (hB:Below wo.heap.size wo w1):Sim N Xo NoM wo st β a w:=by
 have hnil:∀{X:Nat→Prop}{b:Nat},XX X β st.hp b→X b:=fun{X b} hx=>by
  rcases hx with h|⟨id,ob,hi,_⟩
  ·exact h
  ·rw[hp]at hi;cases hi
 exact{
  size:=h.size
  defers:=h.defers
  beta:=h.beta
  slots:=fun t x hx=>(h.slots t x hx).mono ⟨jDu _,fun _ _ _=>rfl⟩ (fun b hlt hx=>.inl (hXo b (hnil hx)))
  objs:=fun id ob hi=>by rw[hp]at hi;cases hi
  inj:=fun i j oi oj b hi=>by rw[hp]at hi;cases hi
  x0:=fun b hb=>h.x0 b (hXo b hb)
  mine:=fun id ob b hi=>by rw[hp]at hi;cases hi
  pin:=fun id v hm=>hm.elim
  few:=h.few
  os:=h.os.trans hB.os
  tape:=h.tape.trans hB.tape
  output:=h.output.trans hB.output
  grew:=jZ9 hB.size h.grew
  kept:=fun b hb hn=>(h.kept b (wMy hb hB.size) kQ6).trans (hB.block b hb) }
def RowB (w:World) (e:Nat) (v:Value) (g:Nat) (s:ByteArray):Prop:=∃cap cur fz,v=.slice (some ⟨g,0,none⟩) s.size cap∧w.heap[g]? = some (.cells cur e fz)∧(∀o,o<cur.size→¬(fz.1≤o∧o<fz.2))∧s.size≤cap∧cap≤maxLen∧cur.size=cap∧cur.toList.take s.size=Lib.strCells s
structure kHh (N e:Nat) (Xo:Nat→Prop) (wo:World) (t:Nat) (st:St) (s:ByteArray) (a:Act) (w:World):Prop where
 ex:∃X1 w1 β g v,Sim N X1 NoM w1 st β a w∧(∀b,Xo b→X1 b)∧X1 g∧wo.heap.size≤g∧g<w1.heap.size∧Below wo.heap.size wo w1∧(∀b,X1 b→b<w1.heap.size)∧lk t st.fr=some (.v v)∧RowB w e v g s
 hp:st.hp=[]
variable {P:Program}{e t:Nat}{s:ByteArray}
theorem Ap.of (hG:Grd P wo) (hB:Below wo.heap.size wo w1) (hX:∀b,X1 b→b<w1.heap.size):Ap P X1 NoM w1 :=
 ⟨fun b hb=>⟨hX b hb,kQ6⟩,hG.keep hB.size fun b _ hlt=>hB.block b hlt,fun b hb=>absurd hb kQ6⟩
theorem kHh.frame {c:Cx}(hG:Grd c.P wo) (hs:kHh N e Xo wo t st s a w) {code:Code}{K:Exit→St→Prop}(h:∀X0 w0,WP c N X0 NoM w0 code st (fun x st'=>(st'.hp=[]∧lk t st'.fr=lk t st.fr)∧K x st')) :
  code.wp c.P (fun x a' w'=>∃st',K x st'∧kHh N e Xo wo t st' s a' w') a w:=by
 obtain⟨⟨X1,w1,β,g,v,h1,h2,h3,h4,h5,h6,h7,h8,h9⟩,hp⟩:=hs;refine Code.wp_mono (fun x a' w' hq=>?_) (h X1 w1 (Ap.of hG h6 h7) β a w h1)
 obtain⟨st',β',⟨⟨k1,k2⟩,k3⟩,hs'⟩:=hq;refine⟨st',k3,⟨X1,w1,β',g,v,hs',h2,h3,h4,h5,h6,h7,k2.trans h8,?_⟩,k1⟩;obtain⟨cap,cur,fz,r1,r2,r3⟩:=h9;exact⟨cap,cur,fz,r1,by rw[hs'.kept g h5 kQ6,←h1.kept g h5 kQ6];exact r2,r3⟩
theorem kHh.ops {c:Cx}(hG:Grd c.P wo) (hs:kHh N e Xo wo t st s a w) {ops:Array Oper}{l l2:List Oper}{K:St→Prop}{Q:Exit→Act→World→Prop}(h:St.runR c.tys c.C N ops l st fun st'=>(st'.hp=[]∧lk t st'.fr=lk t st.fr)∧K st')
  (hQ:∀st' a' w',K st'→kHh N e Xo wo t st' s a' w'→wpList c.P ops Q l2 a' w'):wpList c.P ops Q (l++l2) a w:=by
 obtain⟨⟨X1,w1,β,g,v,h1,h2,h3,h4,h5,h6,h7,h8,h9⟩,hp⟩:=hs;refine kSf (Ap.of hG h6 h7) c.hty c.hC (fun a' w' hq=>?_) l h1 h
 obtain⟨st',β',⟨⟨k1,k2⟩,k3⟩,hs'⟩:=hq;refine hQ st' a' w' k3 ⟨⟨X1,w1,β',g,v,hs',h2,h3,h4,h5,h6,h7,k2.trans h8,?_⟩,k1⟩;obtain⟨cap,cur,fz,r1,r2,r3⟩:=h9;exact⟨cap,cur,fz,r1,by rw[hs'.kept g h5 kQ6,←h1.kept g h5 kQ6];exact r2,r3⟩
theorem kHh.slot (hs:kHh N e Xo wo t st s a w) {d:Nat}(hd:lk d st.fr=lk t st.fr):kHh N e Xo wo d st s a w:=by
 obtain⟨⟨X1,w1,β,g,v,h1,h2,h3,h4,h5,h6,h7,h8,h9⟩,hp⟩:=hs;exact⟨⟨X1,w1,β,g,v,h1,h2,h3,h4,h5,h6,h7,hd.trans h8,h9⟩,hp⟩
theorem bytesWorld_below (w:World) (e:Nat) (s:ByteArray):Below w.heap.size w (Lib.bytesWorld w e s) where
 os:=by simp[Lib.bytesWorld,World.freeze,World.alloc,World.drew,-World.alloc_eq,-World.drew_eq]
 tape:=by simp[Lib.bytesWorld,World.freeze,World.alloc,World.drew,-World.alloc_eq,-World.drew_eq]
 output:=by simp[Lib.bytesWorld,World.freeze,World.alloc,World.drew,-World.alloc_eq,-World.drew_eq]
 size:=by rw[Lib.bytesWorld_size];omega
 block:=fun k hk=>Lib.bytesWorld_at_old w e s k hk
theorem Below.mono {B B':Nat}{w w':World}(h:Below B w w') (hb:B'≤B):Below B' w w':=⟨h.os,h.tape,h.output,h.size,fun k hk=>h.block k zo⟩
theorem qG5 (hs:Sim N Xo NoM wo st β a w) (hp:st.hp=[]) {ops:Array Oper}{rest:List Oper}{o:Oper}{Q:Exit→Act→World→Prop}{src dst d:Nat}{x:Operand}(hg:o.guard=none) (hd:o.dst=some d) (hdN:d<N) (ho:o.op=.convert src dst x) {u:TypeDesc}
  (h1:P.underlying src=some u) (h2:P.underlying dst=some (.slice e)) (h3:P.underlying e=some (.int .u8)) (hx:st.ev x=.v (.string s)) (hm:s.size≤maxLen)
  (hK:∀v a' w',kHh N e Xo wo d (st.put (some d) (.v v)) s a' w'→wpList P ops Q rest a' w'):wpList P ops Q (o::rest) a w:=by
 refine wpList_plain hg fun K hKK=>?_
 have e1:a.eval x=.string s:=(hx▸St.kC1 hs x:R w _ β (.v (.string s)) (a.eval x)).kAn;have hr:=Lib.run_convert_string_bytes (P:=P) w src dst e s h1 h2 h3;unfold Oper.wp
 have e2:(execOp a.eval o).run P w=.ok (.value (.slice (some ⟨w.heap.size,0,none⟩) s.size (grownCap w s.size 0 e))) (Lib.bytesWorld w e s):=by
  simp only[execOp,ho,e1,Sem.run_bind,hr,Result.andThen_ok,Sem.run_pure]
 rw[e2,Oper.upon_value,hd];refine hKK _ _ (hK (.slice (some ⟨w.heap.size,0,none⟩) s.size (grownCap w s.size 0 e)) _ _ ?_);have hbel:=bytesWorld_below w e s;have hge:=grownCap_ge w s.size 0 e;have hxo:∀b,Xo b→b<w.heap.size:=hs.x0
 have hs2:Sim N (fun b=>Xo b∨b=w.heap.size) NoM (Lib.bytesWorld w e s) st β a (Lib.bytesWorld w e s):=hs.k7c hp hbel.size (fun b hb _=>hbel.block b hb) (fun b hb hx=>hx.resolve_right zo) (fun b hx=>by
  rw[Lib.bytesWorld_size];rcases hx with hx|hx
  ·have:=hxo b hx;omega
  ·omega)
 have hsz:(Lib.bytesCells w e s).size=grownCap w s.size 0 e:=by
  unfold Lib.bytesCells;simp only[Array.size_append,Array.size_map,Array.size_replicate];have:s.data.size=s.size:=rfl;omega
 refine⟨⟨_,_,β,w.heap.size,.slice (some ⟨w.heap.size,0,none⟩) s.size (grownCap w s.size 0 e),hs2.put hdN (.p (.v _)),fun b hb=>.inl hb,.inr rfl,hs.grew,by rw[Lib.bytesWorld_size];omega,?_,hs2.x0,kIo _ _ _,?_⟩,by rw[kQ7];exact hp⟩
 ·exact Below.trans ⟨hs.os,hs.tape,hs.output,hs.grew,fun k hk=>hs.kept k hk kQ6⟩ (Below.mono hbel hs.grew)
 ·refine⟨_,_,_,rfl,Lib.bytesWorld_at_new w e s,fun o ho h=>?_,hge,grownCap_le_maxLen w s.size 0 e hm,hsz,?_⟩
  ·have:=h.1;simp only at this;omega
  ·unfold Lib.bytesCells Lib.strCells;have hl:(s.data.map fun b=>Value.int .u8 b.toNat).toList.length=s.size:=by rw[jYo,Array.size_map];rfl
   rw[Array.toList_append,List.take_append_of_le_length zo,vDk zo,Array.toList_map]
theorem kQ8 (P:Program) (g o:Nat) (t:TypeId) (fz:Nat×Nat):∀(vs:List Value) (i:Nat) (cur:Array Value) (w:World),w.heap[g]? = some (.cells cur t fz)→(∀o,o<cur.size→¬(fz.1≤o∧o<fz.2))→o+i+vs.length≤cur.size→(∀v∈vs,v.oneCell'=true) →
  (storeCells ⟨g,o,none⟩ vs i).run P w=.ok () (w.setRow g (cur.toList.take (o+i)++vs++cur.toList.drop (o+i+vs.length)).toArray)
 | [],i,cur,w,hg,_,_,_=>by
  simp only[storeCells,jSt,jOy,vVn,vCk,vXt];rw[setRow_self w g cur t fz hg]
  rfl
 |v::rest,i,cur,w,hg,hfz,hl,h1=>by
  have hi:o+i<cur.size:=by simp at hl;omega
  have hadd:(⟨g,o,none⟩:Addr).add i=⟨g,o+i,none⟩:=by unfold Addr.add;split<;>simp_all
  have hcell:w.cell? ⟨g,o+i,none⟩=some cur[o+i]:=by simp[World.cell?,hg,hi]
  have hfro:w.frozen? ⟨g,o+i,none⟩=false:=by
   have hn:=hfz (o+i) hi;obtain⟨lo,hi'⟩:=fz;simp only[World.frozen?,hg,wGu,decide_eq_false_iff_not];simp only at hn;omega
  have hst:(store ((⟨g,o,none⟩:Addr).add i) v).run P w=.ok () (w.setRow g (cur.setIfInBounds (o+i) v)):=by
   rw[hadd,run_store P w _ v _ (h1 v zs),hcell];simp[hfro,setCell_eq_setRow w g (o+i) cur t fz v hg]
  have ih:=kQ8 P g o t fz rest (i+1) (cur.setIfInBounds (o+i) v) (w.setRow g (cur.setIfInBounds (o+i) v)) (setRow_heap w g cur _ t _ hg) (by simpa using hfz) (by simp at hl⊢;omega) (fun x hx=>h1 x (by simp[hx]))
  simp only[storeCells,Sem.run_bind,hst,Result.andThen_ok,ih,setRow_setRow];congr 3;have e:=list_seg_step cur.toList (o+i) v rest (by simp at hl⊢;omega)
  simpa[Array.toList_setIfInBounds,vLk]using e
theorem kY6 (w:World) (t u ty e:TypeId) (i:TypeInfo) (ht:P.underlying t=some (.slice e)) (hu:P.underlying u=some .string) (hi:P.info? e=some i) (hs1:i.size=1)
  (g sLen sCap:Nat) (cur:Array Value) (fz:Nat×Nat) (hg:w.heap[g]? = some (.cells cur e fz)) (hfz:∀o,o<cur.size→¬(fz.1≤o∧o<fz.2)) (s:ByteArray)
  (hroom:sLen+s.size≤sCap) (hfit:sLen+s.size≤cur.size) :
  (Builtin.append_ #[t,u] ty #[.slice (some ⟨g,0,none⟩) sLen sCap,.string s]).run P w =
   .ok (.slice (some ⟨g,0,none⟩) (sLen+s.size) sCap) (w.setRow g (cur.toList.take sLen++Lib.strCells s++cur.toList.drop (sLen+s.size)).toArray):=by
 have hf:=Lib.run_firstCells_string (P:=P) w 1 s;have hst:=kQ8 P g sLen e fz (Lib.strCells s) 0 cur w hg hfz (by simpa[Lib.strCells_length]using hfit) (Lib.strCells_oneCell s)
 simp only[vVn,Lib.strCells_length]at hst;simp[Builtin.append_,run_underlying ht,run_underlying hu,sizeOf,typeInfo,hi,hs1,Builtin.lenOf,hroom,hf,Addr.add_lit,hst]
theorem qKw (hs:kHh N e Xo wo t st s a w) {ops:Array Oper}{rest:List Oper}{o:Oper}{Q:Exit→Act→World→Prop}{T U d:Nat}{x y:Operand}{s2:ByteArray}{i:TypeInfo}(hg:o.guard=none) (hd:o.dst=some d) (hdN:d<N) (ho:o.op=.call { callee:=.builtin .append,args:=#[x,y],argTypes:=#[T,U] })
  (ht:P.underlying T=some (.slice e)) (hu:P.underlying U=some .string) (hi:P.info? e=some i) (hz:i.zero=some (.int .u8 0)) (hsize:i.size=1) (hby:i.bytes=1)
  (hx:∀v,lk t st.fr=some (.v v)→st.ev x=.v v) (hy:st.ev y=.v (.string s2)) (hm:s.size+s2.size≤140737488355328)
  (hK:∀v a' w',kHh N e Xo wo d (st.put (some d) (.v v)) (s++s2) a' w'→wpList P ops Q rest a' w'):wpList P ops Q (o::rest) a w:=by
 obtain⟨⟨X1,w1,β,g,v,h1,h2,h3,h4,h5,h6,h7,h8,h9⟩,hp⟩:=hs;obtain⟨cap,cur,fz,r1,r2,r3,r4,r5,r6,r7⟩:=h9;have h63:s.size+s2.size≤maxLen:=by unfold maxLen;omega
 have hsize':(s++s2).size=s.size+s2.size:=yAt;refine wpList_plain hg fun K hKK=>?_
 have e1:a.eval x=v:=(hx v h8▸St.kC1 h1 x:R w _ β (.v v) (a.eval x)).kAn;have e2:a.eval y=.string s2:=(hy▸St.kC1 h1 y:R w _ β (.v (.string s2)) (a.eval y)).kAn;have hgw:g<w.heap.size:=wMy h5 h1.grew;have hB:Below wo.heap.size wo w:=Below.trans h6 ⟨h1.os,h1.tape,h1.output,h1.grew,fun k hk=>h1.kept k (wMy hk h6.size) kQ6⟩
 subst r1;by_cases hroom:s.size+s2.size≤cap
 ·have hr:=kY6 (P:=P) w T U o.type e i ht hu hi hsize g s.size cap cur fz r2 r3 s2 hroom zo;unfold Oper.wp
  have e3:(execOp a.eval o).run P w=.ok (.value (.slice (some ⟨g,0,none⟩) (s.size+s2.size) cap)) (w.setRow g (cur.toList.take s.size++Lib.strCells s2++cur.toList.drop (s.size+s2.size)).toArray):=by
   simp only[execOp,ho,resolve,invoke,builtin,Sem.run_bind,Sem.run_pure,Result.andThen_ok,List.map_toArray,jHi,jRt,e1,e2,hr]
  rw[e3,Oper.upon_value,hd];generalize hw2:w.setRow g (cur.toList.take s.size++Lib.strCells s2++cur.toList.drop (s.size+s2.size)).toArray=w2;have hat:w2.heap[g]? = some (.cells (cur.toList.take s.size++Lib.strCells s2++cur.toList.drop (s.size+s2.size)).toArray e fz):=by rw[←hw2];exact setRow_heap w g cur _ e _ r2
  have hoth:∀k,k≠g→w2.heap[k]? = w.heap[k]?:=fun k hk=>by rw[←hw2];exact setRow_other w g k _ hk
  have hsz2:w2.heap.size=w.heap.size:=by rw[←hw2];simp[World.setRow]
  have hbel:Below wo.heap.size w w2:=⟨by rw[←hw2];rfl,by rw[←hw2];rfl,by rw[←hw2];rfl,zo,fun k hk=>hoth k zo⟩
  have hs2:Sim N X1 NoM w2 st β a w2:=h1.k7c hp zo (fun b hb hn=>hoth b fun e=>hn (e▸h3)) (fun b _ hx=>hx) (fun b hx=>by have:=h7 b hx;have:=h1.grew;omega)
  refine hKK _ _ (hK (.slice (some ⟨g,0,none⟩) (s.size+s2.size) cap) _ _ ⟨⟨X1,w2,β,g,_,hs2.put hdN (.p (.v _)),h2,h3,h4,zo,Below.trans hB hbel,hs2.x0,kIo _ _ _,?_⟩,by rw[kQ7];exact hp⟩)
  have hls:(cur.toList.take s.size++Lib.strCells s2++cur.toList.drop (s.size+s2.size)).length=cur.size:=by
   simp only[jKs,jOb,jSz,jYo,Lib.strCells_length];omega
  refine⟨cap,_,fz,by rw[hsize'],hat,fun o ho=>r3 o (by rw[vLv,hls]at ho;exact ho),zo,r5,by rw[vLv,hls];exact r6,?_⟩
  rw[hsize',r7,kV0];simp only;have:s.size+s2.size=(Lib.strCells s++Lib.strCells s2).length:=by rw[jKs,Lib.strCells_length,Lib.strCells_length]
  rw[this];exact List.take_left
 ·have holds:∀j u,(Lib.strCells s)[j]? = some u→w.cell? ((⟨g,0,none⟩:Addr).add j)=some u:=fun j u hu=>by
   have hadd:(⟨g,0,none⟩:Addr).add j=⟨g,j,none⟩:=by unfold Addr.add;split<;>simp_all
   rw[hadd,cell_of_row w g j cur e fz r2];rw[←r7,yHk]at hu;split at hu
   ·simpa using hu
   ·cases hu
  have hr:=Lib.run_append_grow_string (P:=P) w T U o.type e i (.int .u8 0) ht hu hi hz ⟨g,0,none⟩ s.size cap (Lib.strCells s) (by rw[hsize,Lib.strCells_length,Nat.mul_one]) holds s2 zo zo (by rw[hby];exact growslice_fits zo zo)
  have hge:=grownCap_ge w (s.size+s2.size) cap e;have hcm2:grownCap w (s.size+s2.size) cap e≤maxLen:=grownCap_le_maxLen w (s.size+s2.size) cap e h63;unfold Oper.wp;generalize hnw:(Lib.strCells s).toArray++(Lib.strCells s2).toArray++Builtin.zeroCells (Value.int IntKind.u8 0).cells (grownCap w (s.size+s2.size) cap e-(s.size+s2.size))=cells at hr
  have e3:(execOp a.eval o).run P w=.ok (.value (.slice (some ⟨w.heap.size,0,none⟩) (s.size+s2.size) (grownCap w (s.size+s2.size) cap e))) (w.drew.alloc (.cells cells e)):=by
   simp only[execOp,ho,resolve,invoke,builtin,Sem.run_bind,Sem.run_pure,Result.andThen_ok,List.map_toArray,jHi,jRt,e1,e2,hr]
  rw[e3,Oper.upon_value,hd];generalize hw2:w.drew.alloc (.cells cells e)=w2;have hat:w2.heap[w.heap.size]? = some (.cells cells e (0,0)):=by rw[←hw2];exact heap_alloc_new w.drew _
  have hoth:∀k,k<w.heap.size→w2.heap[k]? = w.heap[k]?:=fun k hk=>by rw[←hw2];exact heap_alloc_old w.drew _ hk
  have hsz2:w2.heap.size=w.heap.size+1:=by rw[←hw2];simp[World.alloc,World.drew,-World.alloc_eq,-World.drew_eq]
  have hbel:Below wo.heap.size w w2:=⟨by rw[←hw2];rfl,by rw[←hw2];rfl,by rw[←hw2];rfl,zo,fun k hk=>hoth k (wMy hk hB.size)⟩
  have hs2:Sim N (fun b=>X1 b∨b=w.heap.size) NoM w2 st β a w2:=h1.k7c hp zo (fun b hb _=>hoth b hb) (fun b hb hx=>hx.resolve_right zo) (fun b hx=>by
   rcases hx with hx|hx
   ·have:=h7 b hx;have:=h1.grew;omega
   ·omega)
  refine hKK _ _ (hK (.slice (some ⟨w.heap.size,0,none⟩) (s.size+s2.size) (grownCap w (s.size+s2.size) cap e)) _ _ ⟨⟨_,w2,β,w.heap.size,_,hs2.put hdN (.p (.v _)),fun b hb=>.inl (h2 b hb),.inr rfl,hB.size,zo,Below.trans hB hbel,hs2.x0,kIo _ _ _,?_⟩,by rw[kQ7];exact hp⟩)
  refine⟨_,cells,(0,0),by rw[hsize'],hat,fun o ho h=>by have:=h.2;simp only at this;omega,zo,hcm2,?_,?_⟩
  ·rw[←hnw];have hz1:(Value.int IntKind.u8 0).cells.size=1:=rfl;simp only[Array.size_append,vLv,size_zeroCells,hz1,Lib.strCells_length];omega
  ·rw[←hnw,hsize',kV0];simp only[Array.toList_append];have:s.size+s2.size=(Lib.strCells s++Lib.strCells s2).length:=by rw[jKs,Lib.strCells_length,Lib.strCells_length]
   rw[this];exact List.take_left
theorem kHh.read (hs:kHh N e Xo wo t st s a w) (hxo:∀b,Xo b→b<wo.heap.size) {st':St}(hst':st'={ st with fr:=(t,.sl 1 ((Lib.strCells s).map fun v=>[SV.v v]))::er t st.fr }):∃β,Sim N Xo NoM wo st' β a w:=by
 obtain⟨⟨X1,w1,β,g,v,h1,h2,h3,h4,h5,h6,h7,h8,h9⟩,hp⟩:=hs;have hh:=h1.home hp h2 h6;obtain⟨cap,cur,fz,r1,r2,r3,r4,r5,r6,r7⟩:=h9;subst r1 hst';refine⟨β,{ hh with slots:=fun t' x hx=>?_ }⟩;simp only[lk]at hx;split at hx
 ·rename_i e';subst e';cases hx;have hv:=(h1.slots t' _ h8).kAn;rw[hv];have hlen:((Lib.strCells s).map fun v=>[SV.v v]).length=s.size:=by rw[jH5,Lib.strCells_length]
  have key:∀(i k:Nat) (row:List SV) (c:SV),((Lib.strCells s).map fun v=>[SV.v v])[i]? = some row→row[k]? = some c→k=0∧∃u,(Lib.strCells s)[i]? = some u∧c=.v u:=fun i k row c hr hc=>by
   rw[jQ2]at hr
   cases hu:(Lib.strCells s)[i]? with
   |none=>rw[hu]at hr;cases hr
   |some u =>
    rw[hu]at hr;simp only[jIn,jBf]at hr;subst hr
    match k with
    | 0=>cases hc;exact⟨rfl,u,rfl,rfl⟩
    |k+1=>cases hc
  refine .p ?_;rw[←hlen];refine .sl g 0 cap (fun i _=>(Lib.strCells s).getD i undef) (fun hx=>?_) (lt_of_heap r2) zo (fun i row hr=>?_) (fun i k row c hr hc=>?_) (fun i k row c hr hc=>?_) (fun i k row c hr hc=>?_)
  ·rcases hx with hx|⟨id,ob,hi,_⟩
   ·have:=hxo g hx;omega
   ·rw[hp]at hi;cases hi
  ·rw[jQ2]at hr
   cases hu:(Lib.strCells s)[i]? with
   |none=>rw[hu]at hr;cases hr
   |some u=>rw[hu]at hr;simp only[jIn,jBf]at hr;subst hr;rfl
  ·obtain⟨rfl,u,hu,rfl⟩:=key i k row c hr hc;rw[jKz,hu];rw[cell_of_row w g _ cur e fz r2];rw[←r7,yHk]at hu;split at hu
   ·simpa using hu
   ·cases hu
  ·obtain⟨rfl,u,hu,rfl⟩:=key i k row c hr hc;rw[jKz,hu];exact Lib.strCells_oneCell s u (jIc hu)
  ·obtain⟨rfl,u,hu,rfl⟩:=key i k row c hr hc;rw[jKz,hu];exact .v u
 ·rename_i e';rw[kAt e']at hx;exact hh.slots t' x hx
end
end
section
section
variable {c:Cx}{N e t:Nat}{Xo:Nat→Prop}{wo:World}{st:St}{s:ByteArray}{Q:Exit→Act→World→Prop}
def WBQ (c:Cx) (N e:Nat) (Xo:Nat→Prop) (wo:World) (t:Nat) (code:Code) (st:St) (s:ByteArray) (Q:Exit→Act→World→Prop):Prop:=∀a w,kHh N e Xo wo t st s a w→code.wp c.P Q a w
def NBx (N e:Nat) (Xo:Nat→Prop) (wo:World) (t:Nat) (x:Exit) (st:St) (s:ByteArray) (Q:Exit→Act→World→Prop):Prop:=∀a w,kHh N e Xo wo t st s a w→Q x a w
theorem kM1 {P:Program}{a:Act}{w:World}{id:Nat}{l:List Oper}(n:Nat) (h:wpList P l.toArray Q (l.take n++l.drop n) a w):(Code.region id l.toArray false).wp P Q a w:=wp_region_lit (by rwa [vCk]at h)
theorem WBQ.seq {x y:Code}(h:WBQ c N e Xo wo t x st s (Exit.then (fun a w=>y.wp c.P Q a w) Q)):WBQ c N e Xo wo t (.seq x y) st s Q:=fun a w hs=>wp_seq (h a w hs)
theorem NBx.next {y:Code}(h:WBQ c N e Xo wo t y st s Q):NBx N e Xo wo t .normal st s (Exit.then (fun a w=>y.wp c.P Q a w) Q):=fun a w hs=>h a w hs
theorem NBx.other {x:Exit}{y:Act→World→Prop}(hx:x≠.normal) (h:NBx N e Xo wo t x st s Q):NBx N e Xo wo t x st s (Exit.then y Q):=fun a w hs=>by
 cases x with
 |normal=>exact absurd rfl hx
 | _=>exact h a w hs
theorem WBQ.cond {x:Operand}{p q:Code}{b:Bool}(hx:st.ev x=.v (.bool b)) (h1:b=true→WBQ c N e Xo wo t p st s Q) (h2:b=false→WBQ c N e Xo wo t q st s Q):WBQ c N e Xo wo t (.cond x p q) st s Q:=fun a w hs=>by
 obtain⟨X1,w1,β,g,v,k1,_⟩:=hs.ex;have he:a.eval x=.bool b:=(hx▸St.kC1 k1 x:R w _ β (.v (.bool b)) (a.eval x)).kAn;exact wp_cond_split he (fun h=>h1 h a w hs) (fun h=>h2 h a w hs)
theorem WBQ.block {id:Nat}{p:Code}(h:WBQ c N e Xo wo t p st s (Exit.inBlock id Q)):WBQ c N e Xo wo t (.block id p) st s Q:=fun a w hs=>wp_block (h a w hs)
theorem WBQ.skip (h:NBx N e Xo wo t .normal st s Q):WBQ c N e Xo wo t .skip st s Q:=fun a w hs=>wp_skip (h a w hs)
theorem WBQ.ret (h:NBx N e Xo wo t .ret st s Q):WBQ c N e Xo wo t .ret st s Q:=fun a w hs=>wp_ret (h a w hs)
theorem WBQ.exit {id:Nat}(h:NBx N e Xo wo t (.exit id) st s Q):WBQ c N e Xo wo t (.exit id) st s Q:=fun a w hs=>wp_exit (h a w hs)
theorem WBQ.region (hG:Grd c.P wo) {id:Nat}{l:List Oper}(h:St.runR c.tys c.C N l.toArray l st fun st'=>(st'.hp=[]∧lk t st'.fr=lk t st.fr)∧NBx N e Xo wo t .normal st' s Q):WBQ c N e Xo wo t (.region id l.toArray false) st s Q:=fun a w hs=>by
 refine kM1 l.length ?_;have h1:=hs.ops hG (ops:=l.toArray) (l:=l) (l2:=[]) (Q:=Q) h (fun st' a' w' hk hs'=>hk a' w' hs')
 rw[jJ3,yAq];exact h1
theorem kHh.has {a:Act}{w:World}(hs:kHh N e Xo wo t st s a w) {st2:St}(h:st.has st2) (hp2:st2.hp=[]) (ht:lk t st2.fr=lk t st.fr):kHh N e Xo wo t st2 s a w:=by
 obtain⟨⟨X1,w1,β,g,v,h1,h2,h3,h4,h5,h6,h7,h8,h9⟩,hp⟩:=hs;exact⟨⟨X1,w1,β,g,v,h1.has h,h2,h3,h4,h5,h6,h7,ht.trans h8,h9⟩,hp2⟩
theorem kHh.homeS {a:Act}{w:World}(hs:kHh N e Xo wo t st s a w):∃β,Sim N Xo NoM wo st β a w:=by
 obtain⟨⟨X1,w1,β,g,v,h1,h2,h3,h4,h5,h6,h7,h8,h9⟩,hp⟩:=hs;exact⟨β,h1.home hp h2 h6⟩
open Classical in
theorem WBQ.loop {S:Type}{p:Code}(I:S→St) (sv:S→ByteArray) (J:S→Prop) (μ:S→Nat) (s0:S) (h0:J s0) (hi:st.has (I s0)) (hp0:(I s0).hp=[]) (ht0:lk t (I s0).fr=lk t st.fr) (hs0:sv s0=s)
  (hr:∀x,J x→WBQ c N e Xo wo t p (I x) (sv x) (Exit.then (fun a w=>∃x',J x'∧μ x'<μ x∧kHh N e Xo wo t (I x') (sv x') a w) Q)):WBQ c N e Xo wo t (.loop p) st s Q:=by
 intro a w hs
 let Inv:Act→World→Nat→Prop:=fun a w n=>∃x,J x∧μ x=n∧kHh N e Xo wo t (I x) (sv x) a w
 refine wp_loop (fun a w=>∃n,Inv a w n) (fun a w=>if h:∃n,Inv a w n then Classical.choose (least h)else 0) ⟨μ s0,s0,h0,rfl,by subst hs0;exact hs.has hi hp0 ht0⟩ ?_
 intro a w hI;have hsp:=Classical.choose_spec (least hI);obtain⟨⟨x,hj,hm,kLn⟩,_⟩:=hsp;refine Code.wp_mono (fun x' a' w' hq=>?_) (hr x hj a w kLn)
 cases x' with
 |normal =>
  obtain⟨y,hj',hlt,h2⟩:=hq;have hI':∃n,Inv a' w' n:=⟨μ y,y,hj',rfl,h2⟩;refine⟨hI',?_⟩;simp only[dif_pos hI',dif_pos hI];have hle:=(Classical.choose_spec (least hI')).2 (μ y) ⟨y,hj',rfl,h2⟩
  omega
 | _=>exact hq
theorem WBQ.app (hG:Grd c.P wo) {id:Nat}{l:List Oper}(n:Nat) {oa om:Oper}{T U d:Nat}{x y:Operand}{i:TypeInfo}{v:Value}(hl:l.drop n=[oa,om]) (hg:oa.guard=none) (hd:oa.dst=some d) (hdN:d<N) (ho:oa.op=.call { callee:=.builtin .append,args:=#[x,y],argTypes:=#[T,U] })
  (ht:c.P.underlying T=some (.slice e)) (hu:c.P.underlying U=some .string) (hi:c.P.info? e=some i) (hz:i.zero=some (.int .u8 0)) (hsize:i.size=1) (hby:i.bytes=1) (hv:lk t st.fr=some (.v v))
  (h:St.runR c.tys c.C N l.toArray (l.take n) st fun st'=>(st'.hp=[]∧lk t st'.fr=lk t st.fr)∧lk t st'.fr=some (.v v)∧st'.ev x=.v v∧∃s2,st'.ev y=.v (.string s2)∧s.size+s2.size≤140737488355328 ∧
   ∀v2,St.runR c.tys c.C N l.toArray [om] (st'.put (some d) (.v v2)) fun kOp=>(kOp.hp=[]∧lk d kOp.fr=lk d (st'.put (some d) (.v v2)).fr)∧lk t kOp.fr=lk d kOp.fr∧NBx N e Xo wo t .normal kOp (s++s2) Q):WBQ c N e Xo wo t (.region id l.toArray false) st s Q:=fun a w hs=>by
 refine kM1 n (hs.ops hG h fun st' a' w' hk hs'=>?_)
 obtain⟨k0,k1,s2,k2,k3,k4⟩:=hk;rw[hl];refine qKw hs' hg hd hdN ho ht hu hi hz hsize hby (fun v' hv2=>?_) k2 k3 (fun v2 a2 w2 hs2=>?_)
 ·rw[k0]at hv2;cases hv2;exact k1
 ·have hq:=hs2.ops hG (ops:=l.toArray) (l:=[om]) (l2:=[]) (Q:=Q) (k4 v2) (fun kOp a3 w3 hk hs3=>hk.2 a3 w3 (hs3.slot hk.1))
  exact hq
theorem WP.convB {K:Exit→St→Prop}{id:Nat}{l:List Oper}{rest:Code}(n:Nat) {oa om:Oper}{src dst d:Nat}{x:Operand}{u:TypeDesc}(hl:l.drop n=[oa,om]) (hg:oa.guard=none) (hd:oa.dst=some d) (hdN:d<N) (ho:oa.op=.convert src dst x)
  (h1:c.P.underlying src=some u) (h2:c.P.underlying dst=some (.slice e)) (h3:c.P.underlying e=some (.int .u8))
  (h:St.runR c.tys c.C N l.toArray (l.take n) st fun st'=>st'.hp=[]∧∃s,st'.ev x=.v (.string s)∧s.size≤maxLen ∧
   ∀v2,St.runR c.tys c.C N l.toArray [om] (st'.put (some d) (.v v2)) fun kOp=>(kOp.hp=[]∧lk d kOp.fr=lk d (st'.put (some d) (.v v2)).fr)∧lk t kOp.fr=lk d kOp.fr ∧
    ∀(Xo:Nat→Prop) (wo:World),Grd c.P wo→(∀b,Xo b→b<wo.heap.size)→WBQ c N e Xo wo t rest kOp s (fun x a w=>Ok N Xo NoM wo (K x) a w)):WP c N Xo NoM wo (.seq (.region id l.toArray false) rest) st K:=by
 intro hA β a w hs;refine wp_seq (kM1 n ?_);refine kSf hA c.hty c.hC (fun a' w' hq=>?_) (l.take n) hs h
 obtain⟨st',β',⟨k1,s,k2,k3,k4⟩,hs'⟩:=hq;rw[hl];refine qG5 hs' k1 hg hd hdN ho h1 h2 h3 k2 k3 (fun v2 a2 w2 hs2=>?_)
 have hG:Grd c.P wo:=hA.grd;have hq:=hs2.ops hG (ops:=l.toArray) (l:=[om]) (l2:=[]) (Q:=Exit.then (fun a w=>rest.wp c.P (fun x a w=>Ok N Xo NoM wo (K x) a w) a w) (fun x a w=>Ok N Xo NoM wo (K x) a w)) (k4 v2) (fun kOp a3 w3 hk hs3=>hk.2 Xo wo hG (fun b hb=>(hA.old b hb).1) a3 w3 (hs3.slot hk.1))
 exact hq
theorem WBQ.read {K:Exit→St→Prop}{code:Code}(hG:Grd c.P wo) (hX:∀b,Xo b→b<wo.heap.size) (h:WP c N Xo NoM wo code { st with fr:=(t,.sl 1 ((Lib.strCells s).map fun v=>[SV.v v]))::er t st.fr } K):WBQ c N e Xo wo t code st s (fun x a w=>Ok N Xo NoM wo (K x) a w):=fun a w hs=>by
 obtain⟨β,h1⟩:=hs.read hX rfl;exact h ⟨fun b hb=>⟨hX b hb,kQ6⟩,hG,fun b hb=>absurd hb kQ6⟩ β a w h1
end
attribute [go_sem] Exit.then Exit.inBlock
end
end Go.Vc
namespace Go.Proofs.YtjdklcjoeanimaaGreat
attribute [local irreducible] Go.Vc.WP
def kQl (x:SeX) (t:Int):RgX:=if(kF0 x.1 t x.2.2.2.1).2=true then(kDx x.2.2.1 (kE8 (kF0 x.1 t x.2.2.2.1).1)).1 else x.2.2.1
def kTm (x:SeX):SeX:=((kA0 x.1).1,(tick x.2.1).1,(if(tick x.2.1).2=true then kQl x (kA0 x.1).2 else x.2.2.1),x.2.2.2.1,x.2.2.2.2.1+1,if(tick x.2.1).2=true then x.2.2.2.2.2+1 else x.2.2.2.2.2)
def kBd (x:SeX):SeX×Bool:=if kAx x=true∧0≤(kA0 x.1).2 then(kTm x,true)else(x,false)
def kRp (x:SeX):SeX×Bool:=if kJh x=true∧0≤(kA0 x.1).2 then(kTm x,true)else(x,false)
def kT9 (x:SeX):Prop:=kFa x.1=true∧kNg x.2.1=true∧(x.2.2.1.2.1.all (fun s=>decide (s≠⟨#[]⟩))=true∧(0≤x.2.2.1.1∧x.2.2.1.1≤100000)∧(kBu x.2.2.1.2.1 x.2.2.1.2.1.length:Int)≤x.2.2.1.1∧(x.2.2.1.2.1.length:Int)≤x.2.2.1.2.2.1∧0≤x.2.2.1.2.2.2)∧(0≤x.2.2.2.1∧x.2.2.2.1≤1200)∧0≤x.2.2.2.2.1∧0≤x.2.2.2.2.2
theorem kQm {x:SeX}:kAx x=true↔kT9 x∧kJh x=true:=by
 unfold kAx kT9 kJh kEu;simp only[Bool.and_eq_true,decide_eq_true_iff];constructor
 ·rintro⟨⟨⟨h1,h2⟩,h3,h4⟩,h5⟩;refine⟨⟨h1,h2,⟨h3,h4.1,h4.2.1,h4.2.2.1.1,h4.2.2.2.1⟩,h5.1,h5.2.1.1,h5.2.2.1⟩,?_⟩;have:=h4.2.2;omega
 ·rintro⟨⟨h1,h2,⟨h3,h4⟩,h5⟩,h6⟩;refine⟨⟨⟨h1,h2⟩,h3,?_⟩,?_⟩<;>omega
theorem qL3 {R:List ByteArray}{s:ByteArray}:kBu (R++[s]) (R++[s]).length=kBu R R.length+s.size:=by
 unfold kBu;rw[List.take_length,List.take_length,List.map_append,List.sum_append];simp
theorem qIq {x:RgX}{s:ByteArray}(hx:x.2.1.all (fun s=>decide (s≠⟨#[]⟩))=true∧(0≤x.1∧x.1≤100000)∧(kBu x.2.1 x.2.1.length:Int)≤x.1∧(x.2.1.length:Int)≤x.2.2.1∧0≤x.2.2.2) :
  (kDx x s).1.2.1.all (fun s=>decide (s≠⟨#[]⟩))=true∧(0≤(kDx x s).1.1∧(kDx x s).1.1≤100000)∧(kBu (kDx x s).1.2.1 (kDx x s).1.2.1.length:Int)≤(kDx x s).1.1∧((kDx x s).1.2.1.length:Int)≤(kDx x s).1.2.2.1∧0≤(kDx x s).1.2.2.2:=by
 obtain⟨h1,h2,h3,h4,h5⟩:=hx;unfold kDx;split
 ·rename_i hc;split
  ·exact⟨h1,h2,h3,h4,by show(0:Int)≤x.2.2.2+1;omega⟩
  ·rename_i hl;refine⟨?_,h2,?_,?_,h5⟩
   ·show(x.2.1++[s]).all _=true
    rw[List.all_append,h1,Bool.true_and];show(decide (s≠⟨#[]⟩)&&true)=true
    rw[Bool.and_true];exact decide_eq_true hc.2
   ·show(kBu (x.2.1++[s]) (x.2.1++[s]).length:Int)≤x.1
    rw[qL3];omega
   ·show((x.2.1++[s]).length:Int)≤x.2.2.1+1
    rw[List.length_append];simp only[List.length_cons,List.length_nil];omega
 ·exact⟨h1,h2,h3,h4,h5⟩
theorem qIo {x:SeX}(hx:kT9 x):kT9 (kTm x):=by
 obtain⟨h1,h2,h3,h4,h5,h6⟩:=hx;refine⟨qL4 h1,qN9 h2,?_,h4,by show(0:Int)≤x.2.2.2.2.1+1;omega,?_⟩
 ·show _∧_
  unfold kTm kQl;simp only;split
  ·split
   ·exact qIq h3
   ·exact h3
  ·exact h3
 ·show(0:Int)≤(if(tick x.2.1).2=true then x.2.2.2.2.2+1 else x.2.2.2.2.2)
  split<;>omega
theorem k5p {x:SeX}(hx:kT9 x):kBd x=kRp x:=by
 unfold kBd kRp
 have h:(kAx x=true∧0≤(kA0 x.1).2)↔(kJh x=true∧0≤(kA0 x.1).2):=by
  rw[kQm];exact⟨fun a=>⟨a.1.2,a.2⟩,fun a=>⟨⟨hx,a.1⟩,a.2⟩⟩
 by_cases c:kJh x=true∧0≤(kA0 x.1).2
 ·rw[if_pos c,if_pos (h.2 c)]
 ·rw[if_neg c,if_neg (fun a=>c (h.1 a))]
def kIi:Nat→SeX→SeX
 | 0,x=>x
 |n+1,x=>if(kBd x).2=true then kIi n (kBd x).1 else x
def kIh (x:SeX) (limit:Int):SeX:=if kAx x=true∧0≤limit∧limit≤3000 then kIi limit.toNat x else x
section
open Go.Vc Tryz
theorem qO9:∃i:TypeInfo,Tryz.prog.info? 5=some i∧i.zero=some (.int .u8 0)∧i.size=1∧i.bytes=1:=by
 have h:(Tryz.prog.info? 5).map (fun i=>(i.zero,i.size,i.bytes))=some (some (.int .u8 0),1,1):=by kernel_rfl
 cases hi:Tryz.prog.info? 5 with
 |none=>rw[hi]at h;cases h
 |some i =>
  rw[hi]at h;simp only[jIn,jBf,jCx]at h;exact⟨i,rfl,h.1,h.2.1,h.2.2⟩
theorem k61 {s:ByteArray}{u:Value}(h:u∈Lib.strCells s):isByte [SV.v u]:=by
 unfold Lib.strCells at h;obtain⟨b,_,rfl⟩:=jCr.1 h;exact⟨_,rfl⟩
section
def cxPkI:=kc qGm (kc cSglI kn)
theorem cPackI:Cq 187 kPack:=by
 refine zp fun d x hx=>?_
 rename List Int=>L
 refine zg cxPkI func187 rfl rfl ntmps187 ?_;intros;have hz:=kVg (varint L.length);have hz0:=kF1 L.length;apply zS;apply zR;simp only[go_sem];refine WP.convB (N:=27) (e:=5) (t:=3) (d:=9) 3 rfl rfl rfl (by decide) rfl (u:=.string) (by kernel_rfl) (by kernel_rfl) (by kernel_rfl) ?_
 simp only[go_sem];refine⟨_,rfl,by unfold maxLen;omega,fun v2 Xo wo hG hX=>?_⟩
 obtain⟨ti,hi1,hi2,hi3,hi4⟩:=qO9;refine WBQ.seq (WBQ.seq (WBQ.region hG ?_));simp only[go_sem];refine NBx.next (WBQ.block ?_)
 refine WBQ.loop (fun S:Nat×Value=>⟨[(0,.sl 1 (L.map encI)),(3,.v S.2),(10,.sl 1 (L.map encI)),(11,vi L.length),(12,vi S.1)],[]⟩) (fun S=>kIf (varint L.length) (L.take S.1))
  (fun S=>S.1≤L.length∧kKl (L.take S.1)=true) (fun S=>L.length-S.1) (0,v2) ⟨zo,rfl⟩ (by(simp only[go_sem]<;>(first|(and_intros<;>rfl)|simp))) rfl (by simp only[go_sem]) rfl ?_
 rintro⟨k,v⟩ ⟨hk,hok⟩;simp only at hk hok⊢;have hzk:=hz (L.take k);have hz1:(L.take k).length≤k:=by simp;omega
 refine WBQ.seq (WBQ.region hG ?_);by_cases hlt:k<L.length
 ·have h1:=kAa encI L k hlt;have hli:(k:Int)<L.length:=zo;have hvs:=kF1 (sgl L[k]);have e2:=k3b (varint L.length) L k hlt;simp only[go_sem,hli];refine NBx.next (WBQ.seq (WBQ.cond (b:=true) (by simp only[go_sem]) (fun _=>?_) (fun h=>by cases h)))
  refine WBQ.skip (NBx.next (WBQ.seq (WBQ.block (WBQ.seq (WBQ.region hG ?_)))));simp only[go_sem,hli,h1,encI];refine⟨zo,zo,NBx.next (WBQ.seq (WBQ.seq (WBQ.region hG ?_)))⟩;simp only[go_sem];by_cases hs:sgl L[k]<0
  ·refine NBx.next (WBQ.cond (b:=true) (by simp only[go_sem,hs]) (fun _=>?_) (fun h=>by cases h))
   refine WBQ.seq (WBQ.region hG ?_);simp only[go_sem];refine NBx.next (WBQ.ret fun a w hsb=>?_)
   obtain⟨β,hh⟩:=hsb.homeS;refine⟨_,β,?_,hh⟩;have hbad:=k6d L k hlt hs;simp only[go_sem,hbad]
  ·refine NBx.next (WBQ.cond (b:=false) (by simp only[go_sem,hs]) (fun h=>by cases h) (fun _=>?_))
   refine WBQ.skip (NBx.next (WBQ.app hG (v:=v) 4 rfl rfl rfl (by decide) rfl (by kernel_rfl) (by kernel_rfl) hi1 hi2 hi3 hi4 (by simp only[go_sem]) ?_))
   simp only[go_sem];refine⟨_,rfl,zo,fun v3=>?_⟩
   refine fun a w hsb=>?_
   show Code.wp _ _ _ _ _
   refine WBQ.region (t:=3) (s:=kIf (varint L.length) (L.take k)++varint (sgl L[k])) hG ?_ a w hsb;simp only[go_sem];refine⟨zo,fun a w hsb=>?_⟩
   refine⟨(k+1,v3),⟨zo,kQr L k hlt hok zo⟩,by simp only;omega,?_⟩
   rw[e2];exact hsb.has (by(simp only[go_sem]<;>(first|(and_intros<;>rfl)|simp))) rfl (by simp only[go_sem])
 ·have hge:¬(k:Int)<L.length:=zo;obtain rfl:k=L.length:=zo;have hall:L.take L.length=L:=jJ3;rw[hall]at hok hzk⊢;have e3:pack L=kIf (varint L.length) L:=if_pos hok;simp only[go_sem,hge];refine NBx.next (WBQ.seq (WBQ.cond (b:=false) (by simp only[go_sem]) (fun h=>by cases h) (fun _=>?_)))
  refine WBQ.exit fun a w hsb=>?_
  show Code.wp _ _ _ _ _
  refine WBQ.read (K:=kI3 _ _ _ _) hG hX ?_ a w hsb;have hc:=qA7 (kIf (varint L.length) L);rw[e3]
  (repeat' (first|apply zS|apply zB|(apply zW;simp only[go_sem,hc])|apply jAi|intro _))
  all_goals first|omega|rfl|(obtain⟨u,hu,rfl⟩:=jCr.1 ‹_›;exact k61 hu)|skip
end
end
end Go.Proofs.YtjdklcjoeanimaaGreat
