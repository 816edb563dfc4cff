/- DERIVED. Steps of the proof. -/
import Derived.Test.YtjdklcjoeanimaaGreatVf2
import Derived.KernelRfl
set_option linter.all false
set_option maxHeartbeats 1000000
set_option maxRecDepth 10000
namespace Go.Vc
section
def kH5 (o:Oper) (j:Nat):Bool:=o.after.any fun e=>e.on==j&&Region.binds .any e
def kAp (ops:Array Oper) (i:Nat):Option Nat:=(ops[i]?).bind (·.dst)
inductive Anc (ops:Array Oper):Nat→Nat→Prop
 |edge {p j:Nat}{o:Oper}(h:ops[p]? = some o) (e:kH5 o j=true):Anc ops p j
 |trans {p q j:Nat}{o:Oper}(h:ops[p]? = some o) (e:kH5 o q=true) (t:Anc ops q j):Anc ops p j
def orL:List Bool→List Bool→List Bool
 |a::A,b::B=>(a || b)::orL A B
 | [],B=>B
 |A,[]=>A
theorem k7p:∀(A B:List Bool) (j:Nat),(orL A B).getD j false=true→A.getD j false=true∨B.getD j false=true
 |a::A,b::B,0,h=>by simpa[orL]using h
 |a::A,b::B,j+1,h=>by
  have:=k7p A B j (by simpa[orL]using h)
  simpa using this
 | [],B,j,h=>.inr (by simpa[orL]using h)
 |a::A,[],j,h=>.inl (by simpa[orL]using h)
def kRb (rows:List (List Bool)) (o:Oper):Nat→List Bool
 | 0=>[]
 |j+1=>if kH5 o j then orL (kRb rows o j) (orL (rows.getD j []) (List.replicate j false++[true]))else kRb rows o j
def kI9 (ops:Array Oper):Nat→List (List Bool)
 | 0=>[]
 |p+1=>kI9 ops p++[match ops[p]? with
  |some o=>kRb (kI9 ops p) o p
  |none=>[]]
theorem kV5 {ops:Array Oper}{rows:List (List Bool)}{o:Oper}{p:Nat}(ho:ops[p]? = some o) (hr:∀q j,(rows.getD q []).getD j false=true→Anc ops q j):∀n j,(kRb rows o n).getD j false=true→Anc ops p j
 | 0,j,h=>by simp[kRb]at h
 |n+1,j,h=>by
  rw[kRb]at h;split at h
  ·rename_i he;rcases k7p _ _ _ h with h|h
   ·exact kV5 ho hr n j h
   ·rcases k7p _ _ _ h with h|h
    ·exact .trans ho he (hr n j h)
    ·have hj:j=n:=by
      rw[jKz,vM3]at h;split at h
      ·rename_i hl;rw[yDc,if_pos (by simpa using hl)]at h;cases h
      ·rename_i hl;simp only[wRz]at hl h;rcases jFx n j with q|q
       ·rw[vHt (by simp;omega)]at h;cases h
       ·omega
     subst hj;exact .edge ho he
  ·exact kV5 ho hr n j h
theorem qD3 {α:Type}(A B:List α) (q:Nat) (z:α) (h:q<A.length):(A++B).getD q z=A.getD q z:=by rw[jKz,vHz h,jKz]
theorem qBb {α:Type}(A:List α) (x z:α) (q:Nat) (h:q=A.length):(A++[x]).getD q z=x:=by subst h;rw[jKz,vDs (jDu _),vDu];rfl
theorem qD4 {α:Type}(A:List α) (q:Nat) (z:α) (h:A.length≤q):A.getD q z=z:=by rw[jKz,vHt h];rfl
theorem kPk (ops:Array Oper):∀n,(kI9 ops n).length=n
 | 0=>rfl
 |n+1=>by rw[kI9,jKs,kPk ops n];rfl
theorem kQa (ops:Array Oper):∀n q j,((kI9 ops n).getD q []).getD j false=true→Anc ops q j
 | 0,q,j,h=>by simp[kI9]at h
 |n+1,q,j,h=>by
  rw[kI9]at h;rcases Nat.lt_trichotomy q n with hq|hq|hq
  ·refine kQa ops n q j ?_;rw[qD3 _ _ _ _ (by rw[kPk];exact hq)]at h
   exact h
  ·subst hq;rw[qBb _ _ _ _ (kPk ops q).symm]at h
   cases ho:ops[q]? with
   |none=>rw[ho]at h;simp at h
   |some o=>rw[ho]at h;exact kV5 ho (kQa ops q) q j h
  ·generalize(match ops[n]? with
    |some o=>kRb (kI9 ops n) o n
    |none=>[])=x at h
   rw[qD4 (kI9 ops n++[x]) q [] (by rw[jKs,kPk];simp;omega)]at h
   simp at h
def ancB (ops:Array Oper) (p:Nat):Bool:=(List.range p).all fun j=>((kI9 ops (p+1)).getD p []).getD j false
def kT1 (ops:Array Oper) (m i:Nat) (o:Oper):Bool :=
 o.dst.isSome&&((o.looksAt ops).all fun t=>(List.range m).all fun j=>!(kAp ops j==some t) || (decide (j<i)&&kH5 o j)) &&
  (List.range m).all fun j=>i==j || kAp ops j != o.dst
def kSj (ops:Array Oper) (m:Nat):Bool :=
 decide (m≤ops.size) &&
 (List.range ops.size).all fun p=>match ops[p]? with
  |none=>false
  |some o=>(o.after.all fun e=>!Region.binds .any e || decide (e.on<p))&&(if p<m then kT1 ops m p o else((List.range p).all (kH5 o) || ancB ops p))
structure k7q (ops:Array Oper) (m:Nat):Prop where
 le:m≤ops.size
 back:∀(p:Nat) (o:Oper),ops[p]? = some o→∀e∈o.after,Region.binds .any e=true→e.on<p
 dst:∀(i:Nat) (o:Oper),i<m→ops[i]? = some o→∃d,o.dst=some d
 looks:∀(i:Nat) (o:Oper),i<m→ops[i]? = some o→∀t∈o.looksAt ops,∀j,j<m→kAp ops j=some t→j<i∧kH5 o j=true
 apart:∀(i:Nat) (o:Oper),i<m→ops[i]? = some o→∀j,j<m→i≠j→kAp ops j≠o.dst
 all:∀(p:Nat) (o:Oper),m≤p→ops[p]? = some o→∀j,j<p→Anc ops p j
theorem qK2 {ops:Array Oper}{m:Nat}(h:kSj ops m=true):k7q ops m:=by
 unfold kSj at h;rw[jBs,decide_eq_true_eq]at h;obtain⟨h0,h⟩:=h;rw[jDl]at h
 have key:∀(p:Nat) (o:Oper),ops[p]? = some o→(o.after.all fun e=>!Region.binds .any e || decide (e.on<p))=true∧(if p<m then kT1 ops m p o else((List.range p).all (kH5 o) || ancB ops p))=true:=fun p o ho=>by
  have hp:p<ops.size:=(vDw.1 ho).1;have:=h p (jKi.2 hp);rw[ho]at this;simp only[jBs]at this;exact this
 refine⟨h0,fun p o ho e he hb=>?_,fun i o hi ho=>?_,fun i o hi ho t ht j hj hd=>?_,fun i o hi ho j hj hne=>?_,fun p o hp ho j hj=>?_⟩
 ·have:=(key p o ho).1;rw[yLg]at this;have:=this e he;rw[hb]at this;simpa using this
 ·have:=(key i o ho).2;rw[if_pos hi]at this;simp only[kT1,jBs]at this;exact vXz.1 this.1.1
 ·have:=(key i o ho).2;rw[if_pos hi]at this;simp only[kT1,jBs,jDl]at this;have:=this.1.2 t ht j (jKi.2 hj);rw[hd]at this;simpa using this
 ·have:=(key i o ho).2;rw[if_pos hi]at this;simp only[kT1,jBs,jDl]at this;have:=this.2 j (jKi.2 hj);simp only[jYk,beq_iff_eq,bne_iff_ne]at this;rcases this with e|e
  ·exact absurd e hne
  ·exact e
 ·have:=(key p o ho).2;rw[if_neg zo,jYk]at this;rcases this with h1|h1
  ·rw[jDl]at h1;exact .edge ho (h1 j (jKi.2 hj))
  ·unfold ancB at h1;rw[jDl]at h1;exact kQa ops (p+1) p j (h1 j (jKi.2 hj))
def St.kZ3 (tys:List (Nat×TyD)) (C:List (FuncId×Ctr)) (g:Bool) (o:Oper) (st:St) (x:SV):Prop :=
 match o.op with
 | .call c=>match c.callee with
  | .value y=>∃ob r,st.kD2 (o.dst.getD 0) C c y=some (ob,r)∧x=kA4 g r∧(g=true→ob)
  | _=>∃ob r,st.pr tys (.call c)=some (ob,r)∧x=kA4 g r∧(g=true→ob)
 |op=>∃ob r,st.pr tys op=some (ob,r)∧x=kA4 g r∧(g=true→ob)
def St.kZ4 (tys:List (Nat×TyD)) (C:List (FuncId×Ctr)) (o:Oper) (st:St) (x:SV):Prop :=
 match o.op with
 | .call c=>match c.callee with
  | .value y=>∃ob,st.kD2 (o.dst.getD 0) C c y=some (ob,x)∧ob
  | _=>∃ob,st.pr tys (.call c)=some (ob,x)∧ob
 |op=>∃ob,st.pr tys op=some (ob,x)∧ob
def St.val0 (tys:List (Nat×TyD)) (C:List (FuncId×Ctr)) (N:Nat) (ops:Array Oper) (o:Oper) (st:St) (x:SV):Prop :=
 kAq N o.dst=true∧match o.guard with
 |none=>st.kZ4 tys C o x
 |some (j,want)=>match(ops[j]?).bind (·.dst)with
  |some t=>match kCq want (st.get t)with
   |some g=>st.kZ3 tys C g o x
   |none=>False
  |none=>False
def St.off (N:Nat) (ops:Array Oper) (o:Oper) (st:St) (x:SV):Prop :=
 kAq N o.dst=true∧(∃r,x=kA4 false r)∧match o.guard with
 |some (j,want)=>match(ops[j]?).bind (·.dst)with
  |some t=>kCq want (st.get t)=some false
  |none=>False
 |none=>False
def St.val (tys:List (Nat×TyD)) (C:List (FuncId×Ctr)) (N:Nat) (ops:Array Oper) (o:Oper) (st:St) (x:SV):Prop:=st.val0 tys C N ops o x∨st.off N ops o x
def St.runV (tys:List (Nat×TyD)) (C:List (FuncId×Ctr)) (N:Nat) (ops:Array Oper):List Oper→St→(St→Prop)→Prop
 | [],st,K=>K st
 |o::l,st,K=>∃x,st.val tys C N ops o x∧St.runV tys C N ops l (st.put o.dst x) K
theorem kZb {st st2:St}(hh:∀id ob,lk id st.hp=some ob→lk id st2.hp=some ob) {x:SV}{rows:List (List SV)}(h:st.rowsOf x=some rows):st2.rowsOf x=some rows:=by
 cases x with
 |own m =>
  simp only[St.rowsOf]at h⊢
  cases hl:lk m st.hp with
  |none=>rw[hl]at h;cases h
  |some ob=>rw[hl]at h;rw[hh m ob hl];exact h
 |sl s r=>exact h
 |v y =>
  unfold St.rowsOf at h⊢;split at h
  ·rename_i e;cases e
  ·rename_i e;cases e
  ·exact h
  ·cases h
 | _=>cases h
theorem k7r {st st2:St}{kH0:List (Nat×Nat)}:∀{l:List (Nat×Operand)}{cs:List SV},(∀p∈l,st2.ev p.2=st.ev p.2)→st2.bld kH0 l cs=st.bld kH0 l cs
 | [],cs,_=>rfl
 | (f,x)::l,cs,h=>by
  simp only[St.bld,h (f,x) jYt]
  cases kH0[f]? with
  |none=>rfl
  |some o=>simp only;rw[k7r fun p hp=>h p (jZr _ hp)]
theorem kYm {tys:List (Nat×TyD)}{st st2:St}{op:Op}(h:∀y∈op.operands,st2.ev y=st.ev y) (hh:∀id ob,lk id st.hp=some ob→lk id st2.hp=some ob) {q:Prop×SV}(hq:st.pr tys op=some q):st2.pr tys op=some q:=by
 cases op with
 |move x=>simp only[St.pr,h x (by simp[Op.operands])]at hq⊢;exact hq
 |assign x=>simp only[St.pr,h x (by simp[Op.operands])]at hq⊢;exact hq
 |pick c a b=>simp only[St.pr,h c (by simp[Op.operands]),h a (by simp[Op.operands]),h b (by simp[Op.operands])]at hq⊢;exact hq
 |binOp op T x y U=>simp only[St.pr,St.kIn,h x (by simp[Op.operands]),h y (by simp[Op.operands])]at hq⊢;exact hq
 |unOp op T x=>simp only[St.pr,h x (by simp[Op.operands])]at hq⊢;exact hq
 |nilCheck x=>simp only[St.pr,h x (by simp[Op.operands])]at hq⊢;exact hq
 |fieldAddr T x f=>simp only[St.pr,h x (by simp[Op.operands])]at hq⊢;exact hq
 |indexAddr T x y =>
  simp only[St.pr,h x (by simp[Op.operands]),h y (by simp[Op.operands])]at hq⊢
  split at hq
  ·exact hq
  ·split at hq
   ·rename_i hk;rw[if_pos hk];split at hq
    ·rename_i e s rows hl;simp only[hh _ _ hl];exact hq
    ·rename_i e s rows hl;simp only[hh _ _ hl];exact hq
    ·rename_i e s rows i0 row0 hl;simp only[hh _ _ hl];exact hq
    ·cases hq
   ·cases hq
  ·cases hq
 |load T x =>
  simp only[St.pr,h x (by simp[Op.operands])]at hq⊢
  split at hq
  ·split at hq
   ·rename_i hl;simp only[hh _ _ hl];exact hq
   ·rename_i hl;simp only[hh _ _ hl];exact hq
   ·rename_i hl;simp only[hh _ _ hl];exact hq
   ·cases hq
  ·exact hq
  ·cases hq
 |index T x y=>simp only[St.pr,h x (by simp[Op.operands]),h y (by simp[Op.operands])]at hq⊢;exact hq
 |extract x i=>simp only[St.pr,h x (by simp[Op.operands])]at hq⊢;exact hq
 |makeFunc fn first caps =>
  cases fn<;>try exact hq
  have e:∀c∈caps.toList,st2.ev c=st.ev c:=fun c hc=>h c (by simp only[Op.operands,yEh];right;simpa using hc)
  rw[←hq];simp only[St.pr];split
  ·congr 2
   ·apply propext;constructor<;>intro hc c hm
    ·rw[←e c hm];exact hc c hm
    ·rw[e c hm];exact hc c hm
   ·congr 1;exact vDr fun c hm=>by rw[e c hm]
  ·rfl
 |build T parts =>
  have e:∀p∈parts.toList,st2.ev p.2=st.ev p.2:=fun p hp=>h p.2 (by
   simp only[Op.operands];simp only[List.mem_toArray,jCr];exact⟨p,hp,rfl⟩)
  simp only[St.pr]at hq⊢
  cases hd:lk T tys with
  |none=>rw[hd]at hq;cases hq
  |some d=>rw[hd]at hq;simp only at hq⊢;rw[k7r e];exact hq
 |convert S T x =>
  simp only[St.pr,h x (by simp[Op.operands])]at hq⊢
  split at hq
  ·exact hq
  ·simp only[St.kGd,h x (by simp[Op.operands])]at hq⊢
   split at hq
   ·rename_i hr;rw[kZb hh hr];exact hq
   ·cases hq
  ·cases hq
 |slice T x lo hi mx =>
  have e0:=h x (by simp[Op.operands])
  rw[←hq]
  cases mx with
  |some m=>cases lo<;>cases hi<;>simp[St.pr]
  |none =>
   cases lo with
   |some lo =>
    have e1:=h lo (by simp[Op.operands])
    cases hi with
    |some hi=>simp only[St.pr,St.kDp,St.bnd,e0,e1,h hi (by simp[Op.operands])]
    |none=>simp only[St.pr,St.kDp,St.bnd,e0,e1]
   |none =>
    cases hi with
    |some hi=>simp only[St.pr,St.kDp,St.bnd,e0,h hi (by simp[Op.operands])]
    |none=>simp only[St.pr,St.kDp,St.bnd,e0]
 |call c =>
  have ha:∀y∈c.args.toList,st2.ev y=st.ev y:=fun y hy=>h y (by simp only[Op.operands,Call.operands,yEh];right;simpa using hy)
  simp only[St.pr]at hq⊢;split at hq
  ·split at hq
   ·rename_i x T hx hT;have e1:st2.ev x=st.ev x:=ha x (by rw[hx];simp)
    unfold St.kGe at hq⊢;rw[e1];split at hq
    ·exact hq
    ·exact hq
    ·exact hq
    ·split at hq
     ·rename_i hk;rw[if_pos hk];split at hq
      ·rename_i hl;simp only[hh _ _ hl];exact hq
      ·rename_i hl;simp only[hh _ _ hl];exact hq
      ·rename_i hl;simp only[hh _ _ hl];exact hq
      ·cases hq
     ·cases hq
    ·cases hq
   ·cases hq
  ·split at hq
   ·rename_i x y hx;simp only[St.kFc,ha x (by rw[hx];simp),ha y (by rw[hx];simp)]at hq⊢
    exact hq
   ·cases hq
  ·split at hq
   ·rename_i x y hx;simp only[St.kFc,ha x (by rw[hx];simp),ha y (by rw[hx];simp)]at hq⊢
    exact hq
   ·cases hq
  ·cases hq
 | _=>simp[St.pr]at hq
theorem kPl {hp hp2:List (Nat×Ob)}(hh:∀id ob,lk id hp=some ob→lk id hp2=some ob) {x:SV}(hg:(x.share1 hp).good1=true):x.share1 hp2=x.share1 hp:=by
 cases x with
 |own id =>
  simp only[SV.share1]at hg⊢
  cases hl:lk id hp with
  |none=>rw[hl]at hg;cases hg
  |some ob=>rw[hh id ob hl]
 |ptr id s i k =>
  simp only[SV.share1]at hg⊢
  cases hl:lk id hp with
  |none=>rw[hl]at hg;cases hg
  |some ob=>rw[hh id ob hl]
 | _=>rfl
theorem qD5 {hp hp2:List (Nat×Ob)}(hh:∀id ob,lk id hp=some ob→lk id hp2=some ob) {x:SV}(hg:(x.share hp).good=true):x.share hp2=x.share hp:=by
 cases x with
 |agg cs =>
  simp only[SV.share,SV.good,List.all_map]at hg⊢;congr 1
  exact vDr fun y hy=>kPl hh (jDl.1 hg y hy)
 |fn f cs =>
  simp only[SV.share,SV.good,List.all_map]at hg⊢;congr 1
  exact vDr fun y hy=>kPl hh (jDl.1 hg y hy)
 |v y=>rfl
 |sl s r=>rfl
 |own id =>
  show(SV.own id).share1 hp2=(SV.own id).share1 hp
  refine kPl hh ?_;simp only[SV.share,SV.share1]at hg⊢
  split at hg<;>first|rfl|cases hg
 |ptr id s i k =>
  show(SV.ptr id s i k).share1 hp2=(SV.ptr id s i k).share1 hp
  refine kPl hh ?_;simp only[SV.share,SV.share1]at hg⊢;split at hg
  ·split at hg
   ·rename_i hs;simp only[hs,if_true];rfl
   ·cases hg
  ·split at hg
   ·rename_i hs;rw[if_pos hs];rfl
   ·cases hg
  ·cases hg
 |kB6 s r i k=>rfl
 |tup cs=>rfl
 |cond g y=>rfl
 |kAh=>rfl
theorem kZc {hp hp2:List (Nat×Ob)}(hh:∀id ob,lk id hp=some ob→lk id hp2=some ob) {A:List SV}(hg:(A.all fun y=>(y.share hp).good)=true):A.map (SV.share hp2)=A.map (SV.share hp)∧(A.all fun y=>(y.share hp2).good)=true:=by
 have h1:∀y∈A,y.share hp2=y.share hp:=fun y hy=>qD5 hh (jDl.1 hg y hy)
 refine⟨vDr h1,?_⟩;rw[jDl]at hg⊢;intro y hy;rw[h1 y hy];exact hg y hy
theorem k44 {st st2:St}{c:Call}(ha:∀y∈c.args.toList,st2.ev y=st.ev y) (caps:List SV):st2.kAi c caps=st.kAi c caps:=by
 unfold St.kAi;congr 1;exact vDr fun y hy=>by rw[ha y hy]
theorem qHe {st st2:St}{c:Call}(ha:∀y∈c.args.toList,st2.ev y=st.ev y):(∀y∈c.args.toList,(st2.ev y).need)=∀y∈c.args.toList,(st.ev y).need:=by
 apply propext;constructor<;>intro hq y hy
 ·rw[←ha y hy];exact hq y hy
 ·rw[ha y hy];exact hq y hy
theorem k1h {dd:Nat}{C:List (FuncId×Ctr)}{st st2:St}{c:Call}(h:∀y∈(Op.call c).operands,st2.ev y=st.ev y) (hh:∀id ob,lk id st.hp=some ob→lk id st2.hp=some ob) {x:Operand}(hc:c.callee=.value x) {q:Prop×SV}(hq:st.kD2 dd C c x=some q):st2.kD2 dd C c x=some q:=by
 have ha:∀y∈c.args.toList,st2.ev y=st.ev y:=fun y hy=>h y (by simp only[Op.operands,Call.operands,yEh];right;simpa using hy)
 have hx:st2.ev x=st.ev x:=h x (by simp[Op.operands,Call.operands,hc])
 unfold St.kD2 at hq⊢;rw[hx];split at hq
 case h_2=>cases hq
 case h_1 _ f caps hf =>
 split at hq
 case h_2=>cases hq
 case h_1 _ ctr kMe =>
 have key:∀(p2:List (Nat×Ob)) (A:List SV),A=st.kAi c caps→(st.kAi c caps).map (SV.share p2)=(st.kAi c caps).map (SV.share st.hp)→((st.kAi c caps).all fun y=>(y.share p2).good)=true→((st.kAi c caps).all fun y=>(y.share st.hp).good)=true →
   (match ctr.pure dd (A.map (SV.share p2))with
   | (ob,res,kAb)=>if(A.all fun y=>(y.share p2).good)=true then some (ob∧kAb=[]∧(∀y∈c.args.toList,(st2.ev y).need)∧(A.all fun y=>(y.share p2).good)=true∧res.rok=true∧res.kCv=[] ∧
      ((A.flatMap SV.owns)=[]∨res.kE0=true)∧ctr.isL=false,res)else none)=some q:=by
  intro p2 A hAe e1 e2 hg;subst hAe;rw[e1];generalize ctr.pure dd ((st.kAi c caps).map (SV.share st.hp))=z at hq⊢;obtain⟨z1,z2,z3⟩:=z;simp only[hg,e2,if_true]at hq⊢;rw[qHe ha];exact hq
 have hg:((st.kAi c caps).all fun y=>(y.share st.hp).good)=true:=by
  by_cases hg:((st.kAi c caps).all fun y=>(y.share st.hp).good)=true
  ·exact hg
  ·exfalso;generalize ctr.pure dd ((st.kAi c caps).map (SV.share st.hp))=z at hq;obtain⟨z1,z2,z3⟩:=z;simp only[hg,if_false]at hq;cases hq
 obtain⟨e1,e2⟩:=kZc hh hg;exact key st2.hp _ (k44 ha caps) e1 e2 hg
theorem qHf {tys:List (Nat×TyD)}{C:List (FuncId×Ctr)}{N:Nat}{ops:Array Oper}{o:Oper}{st st2:St}{x:SV}(h:∀t∈o.looksAt ops,st2.get t=st.get t) (hh:∀id ob,lk id st.hp=some ob→lk id st2.hp=some ob) (hv:st.val0 tys C N ops o x) :
  st2.val0 tys C N ops o x:=by
 have hop:∀y∈o.op.operands,st2.ev y=st.ev y:=fun y hy=>by
  cases y with
  |tmp t =>
   exact h t (vJc _ (List.mem_filterMap.2 ⟨.tmp t,by simpa using hy,rfl⟩))
  | _=>rfl
 obtain⟨hd,hv⟩:=hv;refine⟨hd,?_⟩
 cases hg:o.guard with
 |none =>
  rw[hg]at hv;simp only at hv⊢;unfold St.kZ4 at hv⊢
  cases ho:o.op with
  |call c =>
   rw[ho]at hv hop
   cases hc:c.callee with
   |value y=>simp only[hc]at hv⊢;obtain⟨ob,h1,h2⟩:=hv;exact⟨ob,k1h hop hh hc h1,h2⟩
   | _=>simp only[hc]at hv⊢;obtain⟨ob,h1,h2⟩:=hv;exact⟨ob,kYm hop hh h1,h2⟩
  | _=>rw[ho]at hv hop;simp only at hv⊢;obtain⟨ob,h1,h2⟩:=hv;exact⟨ob,kYm hop hh h1,h2⟩
 |some gw =>
  obtain⟨j,want⟩:=gw;rw[hg]at hv;simp only at hv⊢
  cases ht:(ops[j]?).bind (·.dst)with
  |none=>rw[ht]at hv;exact hv.elim
  |some t =>
   rw[ht]at hv;simp only at hv⊢;have hgt:st2.get t=st.get t:=h t (vMm _ (by simp[hg,ht]))
   rw[hgt];split at hv
   case h_2=>exact hv.elim
   case h_1 _ cc hcc =>
    unfold St.kZ3 at hv⊢
    cases ho:o.op with
    |call c =>
     rw[ho]at hv hop
     cases hc:c.callee with
     |value y =>
      simp only[hc]at hv⊢
      obtain⟨ob,r,h1,h2⟩:=hv;exact⟨ob,r,k1h hop hh hc h1,h2⟩
     | _=>simp only[hc]at hv⊢;obtain⟨ob,r,h1,h2⟩:=hv;exact⟨ob,r,kYm hop hh h1,h2⟩
    | _=>rw[ho]at hv hop;simp only at hv⊢;obtain⟨ob,r,h1,h2⟩:=hv;exact⟨ob,r,kYm hop hh h1,h2⟩
theorem k7s {tys:List (Nat×TyD)}{C:List (FuncId×Ctr)}{N:Nat}{ops:Array Oper}{o:Oper}{st st2:St}{x:SV}(h:∀t∈o.looksAt ops,st2.get t=st.get t) (hh:∀id ob,lk id st.hp=some ob→lk id st2.hp=some ob) (hv:st.val tys C N ops o x) :
  st2.val tys C N ops o x:=by
 rcases hv with hv|⟨h1,h2,h3⟩
 ·exact .inl (qHf h hh hv)
 ·refine .inr ⟨h1,h2,?_⟩
  cases hg:o.guard with
  |none=>rw[hg]at h3;exact h3
  |some gw =>
   obtain⟨j,want⟩:=gw;rw[hg]at h3;simp only at h3⊢
   cases ht:(ops[j]?).bind (·.dst)with
   |none=>rw[ht]at h3;exact h3
   |some t =>
    rw[ht]at h3;simp only at h3⊢;rw[h t (vMm _ (by simp[hg,ht]))]
    exact h3
theorem val_congr {tys:List (Nat×TyD)}{C:List (FuncId×Ctr)}{N:Nat}{ops:Array Oper}{o:Oper}{st st2:St}{x:SV}(h:∀t∈o.looksAt ops,st2.get t=st.get t) (hh:st2.hp=st.hp) (hv:st.val tys C N ops o x) :
  st2.val tys C N ops o x:=k7s h (fun id ob hi=>by rw[hh];exact hi) hv
theorem k7t {tys:List (Nat×TyD)}{st:St}{T:Nat}{x:Operand}{lo hi mx:Option Operand}{q:Prop×SV}(h:st.pr tys (.slice T x lo hi mx)=some q):(st.ev x).strip.kGf=[]:=by
 cases hx:(st.ev x).strip with
 |own i =>
  exfalso
  cases mx with
  |some m=>cases lo<;>cases hi<;>simp[St.pr]at h
  |none =>
   cases lo<;>cases hi<;>simp only[St.pr,St.kDp,hx]at h<;>(cases hl:lk T tys<;>simp[hl]at h)
 | _=>rfl
theorem qBc {tys:List (Nat×TyD)}{C:List (FuncId×Ctr)}{N:Nat}{ops:Array Oper}{o:Oper}{st:St}{x:SV}(hv:st.val0 tys C N ops o x):st.step tys C N ops o fun st'=>st'=st.put o.dst x:=by
 obtain⟨hd,hv⟩:=hv;unfold St.step
 cases hg:o.guard with
 |none =>
  rw[hg]at hv;simp only at hv⊢;unfold St.kZ4 at hv;unfold St.kFw
  have fin:∀{op},o.op=op→(∃ob,st.pr tys op=some (ob,x)∧ob)→st.prK tys o fun st'=>st'=st.put o.dst x:=fun{op} ho hp=>by
   obtain⟨ob,h1,h2⟩:=hp;unfold St.prK;rw[ho,h1];exact⟨h2,rfl⟩
  cases ho:o.op with
  |call c =>
   rw[ho]at hv
   cases hc:c.callee with
   |value y =>
    simp only[hc]at hv⊢;obtain⟨ob,hcf,hob⟩:=hv;have hv:=St.kTy hc hcf hob;refine⟨hd,?_⟩;rw[St.k7k hv hc]
    exact St.kTz (by rw[ho];exact hv) (by cases o.dst<;>rfl)
   |invoke r q=>simp only[hc]at hv⊢;exact⟨hd,fin ho hv⟩
   |builtin b =>
    cases b<;>simp only[hc]at hv⊢<;>first
     |exact⟨hd,fin ho hv⟩
     | (exfalso;obtain⟨ob,h1,_⟩:=hv;simp[St.pr,hc]at h1)
  |alloc T=>rw[ho]at hv;obtain⟨ob,h1,_⟩:=hv;simp[St.pr]at h1
  |box T y=>rw[ho]at hv;obtain⟨ob,h1,_⟩:=hv;simp[St.pr]at h1
  |buildSlice T n p=>rw[ho]at hv;obtain⟨ob,h1,_⟩:=hv;simp[St.pr]at h1
  |makeSlice T l q=>rw[ho]at hv;obtain⟨ob,h1,_⟩:=hv;simp[St.pr]at h1
  |store T p y=>rw[ho]at hv;obtain⟨ob,h1,_⟩:=hv;simp[St.pr]at h1
  |slice T y lo hi mx =>
   rw[ho]at hv;have h1:=hv;obtain⟨ob,h1,_⟩:=h1;simp only;rw[k7t h1]
   exact⟨hd,fin ho hv⟩
  | _=>rw[ho]at hv;exact⟨hd,fin ho hv⟩
 |some gw =>
  obtain⟨j,want⟩:=gw;rw[hg]at hv;simp only at hv⊢
  cases ht:(ops[j]?).bind (·.dst)with
  |none=>rw[ht]at hv;exact hv.elim
  |some t =>
   rw[ht]at hv;simp only at hv⊢;split at hv
   case h_2=>exact hv.elim
   case h_1 _ cc hcc =>
    try rw[hcc]
    try simp only
    unfold St.kZ3 at hv;unfold St.stepG
    have fin:∀{op},o.op=op→(∃ob r,st.pr tys op=some (ob,r)∧x=kA4 cc r∧(cc=true→ob))→(match st.pr tys o.op with
      |some (ob,r)=>(cc=true→ob)∧st.put o.dst (kA4 cc r)=st.put o.dst x
      |none=>False):=fun{op} ho hp=>by
     obtain⟨ob,r,h1,h2,h3⟩:=hp;rw[ho,h1];exact⟨h3,by rw[h2]⟩
    cases ho:o.op with
    |call c =>
     rw[ho]at hv
     cases hc:c.callee with
     |value y =>
      simp only[hc]at hv⊢;obtain⟨ob,r,h1,h2,h3⟩:=hv;refine⟨hd,?_⟩;rw[h1]
      exact⟨h3,by rw[h2]⟩
     | _=>simp only[hc]at hv⊢;have:=fin ho hv;rw[ho]at this;exact⟨hd,this⟩
    | _=>rw[ho]at hv;have:=fin ho hv;rw[ho]at this;exact⟨hd,this⟩
theorem kV6 {P:Program}{tys:List (Nat×TyD)}{C:List (FuncId×Ctr)}{N:Nat}{X0:Nat→Prop}{M:Nat→BV→Prop}{w0:World}{st:St}{β:Nat→BV}{a:Act}{w:World}(hA:Ap P X0 M w0) (hty:∀T d,lk T tys=some d→kAs P T d) (hC:COk P C) (h:Sim N X0 M w0 st β a w)
  {ops:Array Oper}{o:Oper}{x:SV}(hv:st.val tys C N ops o x) {Q:Exit→Act→World→Prop} :
  if Region.wanted o (yielded ops a.tmps)then o.wp P a w (Ok N X0 M w0 fun st'=>st'=st.put o.dst x) Q else Ok N X0 M w0 (fun st'=>st'=st.put o.dst x) (a.put o.dst undef) w:=by
 rcases hv with hv|⟨hd,hx,h3⟩
 ·exact kCu hA hty hC h (qBc hv)
 ·obtain⟨r,hx⟩:=hx
  cases hg:o.guard with
  |none=>rw[hg]at h3;exact h3.elim
  |some gw =>
   obtain⟨j,want⟩:=gw;rw[hg]at h3;simp only at h3
   cases ht:(ops[j]?).bind (·.dst)with
   |none=>rw[ht]at h3;exact h3.elim
   |some t =>
    rw[ht]at h3;simp only at h3;have hR:R w (XX X0 β st.hp) β (st.get t) (a.eval (.tmp t)):=St.kC1 h (.tmp t)
    have hy:yielded ops a.tmps j=(match a.tmps.getD t undef with|.bool b=>some b|_=>none):=by
     unfold yielded;rw[ht];simp only[wDt];rw[jMv]
     cases hq:a.tmps[t]? with
     |none=>rfl
     |some v=>cases v<;>rfl
    have hwant:Region.wanted o (yielded ops a.tmps)=false:=by
     simp only[Region.wanted,hg,hy];generalize st.get t=y at h3 hR;unfold kCq at h3;split at h3
     ·rename_i b;have hv:a.tmps.getD t undef=.bool b:=hR.kAn;rw[hv];cases b<;>cases want<;>simp_all
     ·rename_i g' b
      cases g' with
      |false =>
       have hv:a.tmps.getD t undef=undef:=hR.kM0 rfl
       rw[hv];rfl
      |true =>
       have hv:a.tmps.getD t undef=.bool b:=(hR.kOo rfl).kAn;rw[hv];cases b<;>cases want<;>simp_all
     ·cases h3
    rw[hwant,if_neg zs];refine⟨_,β,rfl,?_⟩
    cases hdd:o.dst with
    |none=>exact h
    |some d =>
     rw[hdd]at hd;rw[hx];exact h.put (by simpa[kAq]using hd) (kRa (fun hh=>by cases hh) fun _=>rfl)
def stF (l:List Oper) (xs:Nat→SV) (st:St):Nat→St
 | 0=>st
 |i+1=>(stF l xs st i).put ((l[i]?).bind (·.dst)) (xs i)
theorem kZ5 (o:Oper) (l:List Oper) (x:SV) (xs:Nat→SV) (st:St):∀i,stF (o::l) (fun i=>match i with|0=>x|i+1=>xs i) st (i+1)=stF l xs (st.put o.dst x) i
 | 0=>rfl
 |i+1=>by
  have ih:=kZ5 o l x xs st i;show(stF (o::l) _ st (i+1)).put _ _=(stF l xs (st.put o.dst x) i).put _ _
  rw[ih];rfl
theorem qB3 {tys:List (Nat×TyD)}{C:List (FuncId×Ctr)}{N:Nat}{ops:Array Oper}{K:St→Prop}:∀(l:List Oper) (st:St),St.runV tys C N ops l st K →
  ∃xs:Nat→SV,(∀i o,l[i]? = some o→(stF l xs st i).val tys C N ops o (xs i))∧K (stF l xs st l.length)
 | [],st,h=>⟨fun _=>.kAh,zs,h⟩
 |o::l,st,h=>by
  obtain⟨x,hv,hr⟩:=h;obtain⟨xs,h1,h2⟩:=qB3 l (st.put o.dst x) hr;refine⟨fun i=>match i with|0=>x|i+1=>xs i,fun i q hq=>?_,?_⟩
  ·cases i with
   |zero=>simp at hq;subst hq;exact hv
   |succ i=>rw[kZ5];exact h1 i q (by simpa using hq)
  ·rw[jGk,kZ5];exact h2
theorem k1i (l:List Oper) (xs:Nat→SV) (st:St):∀i,(stF l xs st i).hp=st.hp
 | 0=>rfl
 |i+1=>by
  have ih:=k1i l xs st i;simp only[stF,St.put];split
  ·exact ih
  ·exact ih
theorem kJl (st:St) (d:Option Nat) (x:SV) (t:Nat) (h:d≠some t):lk t (st.put d x).fr=lk t st.fr:=by
 cases d with
 |none=>rfl
 |some d =>
  have:t≠d:=fun e=>h (by rw[e])
  simp only[St.put,lk,if_neg this,kAt this]
theorem kIo (st:St) (d:Nat) (x:SV):lk d (st.put (some d) x).fr=some x:=by simp[St.put,lk]
theorem kQ7 (st:St) (d:Option Nat) (x:SV):(st.put d x).hp=st.hp:=by cases d<;>rfl
theorem k45 {l:List Oper}(xs:Nat→SV) (st:St) {t:Nat}(h:∀j:Nat,(l[j]?).bind (·.dst)≠some t):∀i,lk t (stF l xs st i).fr=lk t st.fr
 | 0=>rfl
 |i+1=>by
  rw[show stF l xs st (i+1)=(stF l xs st i).put ((l[i]?).bind (·.dst)) (xs i)from rfl,kJl _ _ _ _ (h i)]
  exact k45 xs st h i
theorem qB4 {l:List Oper}(xs:Nat→SV) (st:St) {t j:Nat}(hj:(l[j]?).bind (·.dst)=some t) (h:∀i:Nat,i≠j→(l[i]?).bind (·.dst)≠some t):∀i,j<i→lk t (stF l xs st i).fr=some (xs j)
 | 0,hi=>absurd hi zo
 |i+1,hi=>by
  rw[show stF l xs st (i+1)=(stF l xs st i).put ((l[i]?).bind (·.dst)) (xs i)from rfl]
  by_cases he:i=j
  ·subst he;rw[hj];exact kIo _ _ _
  ·rw[kJl _ _ _ _ (h i he)];exact qB4 xs st hj h i zo
theorem kBw {ops:Array Oper}{listed:Array Bool}{i:Nat}:i∈Region.ready .any ops listed↔i<ops.size∧listed.getD i true=false∧∃o,ops[i]? = some o∧∀e∈o.after,Region.binds .any e=true→listed.getD e.on false=true:=by
 unfold Region.ready;rw[vJn,jKi,jBs,jUs];constructor
 ·rintro⟨h1,h2,h3⟩;refine⟨h1,h2,?_⟩
  cases ho:ops[i]? with
  |none=>rw[ho]at h3;cases h3
  |some o =>
   rw[ho]at h3;simp only[jIn,jOj]at h3;rw[yLg]at h3;refine⟨o,rfl,fun e he hb=>?_⟩
   have:=h3 e he;rw[hb]at this;simpa using this
 ·rintro⟨h1,h2,o,ho,h3⟩;refine⟨h1,h2,?_⟩;rw[ho];simp only[jIn,jOj];rw[yLg];intro e he;by_cases hb:Region.binds .any e=true
  ·rw[h3 e he hb];simp
  ·simp[hb]
theorem kFm {o:Oper}{listed:Array Bool}(h:∀e∈o.after,Region.binds .any e=true→listed.getD e.on false=true) {j:Nat}(hj:kH5 o j=true):listed.getD j false=true:=by
 unfold kH5 at hj;rw[←Array.any_toList,vMn]at hj;obtain⟨e,he,hh⟩:=hj;have he:e∈o.after:=by simpa using he
 rw[jBs,beq_iff_eq]at hh;rw[←hh.1];exact h e he hh.2
def Cl (ops:Array Oper) (listed:Array Bool):Prop:=∀i o j,ops[i]? = some o→listed.getD i false=true→kH5 o j=true→listed.getD j false=true
theorem Anc.listed {ops:Array Oper}{listed:Array Bool}(hc:Cl ops listed) {p j:Nat}(h:Anc ops p j):listed.getD p false=true→listed.getD j false=true:=by
 induction h with
 |edge h e=>exact fun hl=>hc _ _ _ h hl e
 |trans h e _ ih=>exact fun hl=>ih (hc _ _ _ h hl e)
theorem Anc.ready {ops:Array Oper}{listed:Array Bool}(hc:Cl ops listed) {p j:Nat}{o:Oper}(ho:ops[p]? = some o) (h3:∀e∈o.after,Region.binds .any e=true→listed.getD e.on false=true) (h:Anc ops p j):listed.getD j false=true:=by
 cases h with
 |edge h e=>rw[ho]at h;cases h;exact kFm h3 e
 |trans h e t=>rw[ho]at h;cases h;exact t.listed hc (kFm h3 e)
theorem kBc (listed:Array Bool) (i j:Nat) (d:Bool) (hi:i<listed.size):(listed.setIfInBounds i true).getD j d=if j=i then true else listed.getD j d:=by
 rw[jMv,jMv,Array.getElem?_setIfInBounds];by_cases h:i=j
 ·subst h;simp[hi]
 ·rw[if_neg h,if_neg (fun e=>h e.symm)]
section
variable {c:Cx}{N:Nat}{X0:Nat→Prop}{M:Nat→BV→Prop}{w0:World}{K:Exit→St→Prop}
@[go_sem] def kUm (stp:Oper→St→(St→Prop)→Prop):List Oper→St→(St→Prop)→Prop
 | [],st,K=>K st
 |o::l,st,K=>stp o st fun st'=>kUm stp l st' K
def kSk (P:Program) (N:Nat) (X0:Nat→Prop) (M:Nat→BV→Prop) (w0:World) (ops:Array Oper) (Q:Exit→Act→World→Prop) (stp:Oper→St→(St→Prop)→Prop):Prop :=
 ∀(st:St) (β:Nat→BV) (a:Act) (w:World) (o:Oper) (K:St→Prop),Sim N X0 M w0 st β a w→stp o st K→if Region.wanted o (yielded ops a.tmps)then o.wp P a w (Ok N X0 M w0 K) Q else Ok N X0 M w0 K (a.put o.dst undef) w
theorem qB5 {tys:List (Nat×TyD)}{C:List (FuncId×Ctr)}{N:Nat}{ops:Array Oper}{K:St→Prop}:∀(l:List Oper) (st:St),kUm (fun o st K=>st.step tys C N ops o K) l st K=St.runR tys C N ops l st K
 | [],_=>rfl
 |o::l,st=>by
  show st.step tys C N ops o (fun st'=>kUm (fun o st K=>st.step tys C N ops o K) l st' K)=st.step tys C N ops o fun st'=>St.runR tys C N ops l st' K
  congr 1;exact funext fun st'=>qB5 l st'
theorem kV7 (hAp:Ap c.P X0 M w0) {ops:Array Oper}{m:Nat}(hB:k7q ops m) {stp:Oper→St→(St→Prop)→Prop}(hS:kSk c.P N X0 M w0 ops (fun e a' w'=>Ok N X0 M w0 (K e) a' w') stp):∀(fuel p:Nat) (listed:Array Bool) (st:St) (β:Nat→BV) (a:Act) (w:World),p+fuel=ops.size→m≤p→listed.size=ops.size →
  (∀j,j<ops.size→listed.getD j false=decide (j<p))→Sim N X0 M w0 st β a w→kUm stp (ops.toList.drop p) st (K .normal) →
  wpAny c.P .any ops (fun e a' w'=>Ok N X0 M w0 (K e) a' w') fuel listed a w
 | 0,p,listed,st,β,a,w,hp,hm,hsz,hl,hs,hr=>by
  have hd:ops.toList.drop p=[]:=yCu (by simp;omega)
  rw[hd]at hr;refine⟨?_,st,β,hr,hs⟩;rw[yHa];intro i hi;obtain⟨h1,h2,_⟩:=kBw.1 hi;have h3:=hl i h1;rw[jMv]at h2 h3;rw[jVn zo]at h2 h3;simp only[jOj]at h2 h3;rw[h2]at h3;have:i<p:=zo
  simp[this]at h3
 |fuel+1,p,listed,st,β,a,w,hp,hm,hsz,hl,hs,hr=>by
  have hpl:p<ops.size:=zo
  have hgT:∀j,j<ops.size→listed.getD j true=decide (j<p):=fun j hj=>by
   have:=hl j hj;rw[jMv,jVn zo]at this⊢;exact this
  have ho:ops[p]? = some (ops[p]'hpl):=jVn hpl
  have kKr:p∈Region.ready .any ops listed:=kBw.2 ⟨hpl,by rw[hgT p hpl];simp,_,ho,fun e he hb=>by
   have:=hB.back p _ ho e he hb;rw[hl e.on zo];simpa using this⟩
  refine⟨fun h=>(by rw[h]at kKr;cases kKr),fun i hi=>?_⟩
  obtain⟨h1,h2,o,hoi,h3⟩:=kBw.1 hi
  have hip:i=p:=by
   rw[hgT i h1]at h2;have hge:p≤i:=by simpa using h2
   rcases jFx p i with hlt|hle
   ·have hcl:Cl ops listed:=fun i o j ho hi he=>by
     have hio:i<ops.size:=(vDw.1 ho).1;rw[hl i hio]at hi;have hip:i<p:=by simpa using hi
     have hji:j<i:=by
      unfold kH5 at he;rw[←Array.any_toList,vMn]at he;obtain⟨e,he1,he2⟩:=he;rw[jBs,beq_iff_eq]at he2;rw[←he2.1];exact hB.back i o ho e (by simpa using he1) he2.2
     rw[hl j zo];simp;omega
    have:=(hB.all i o zo hoi p hlt).ready hcl hoi h3;rw[hl p hpl]at this;simp at this
   ·omega
  subst hip
  have hdrop:ops.toList.drop i=o::ops.toList.drop (i+1):=by
   rw[wL4 (by simpa using hpl)]
   congr 1;rw[ho]at hoi;simpa using hoi
  rw[hdrop]at hr;have hst:=hS _ _ _ _ _ _ hs hr
  have hnext:∀a' w',Ok N X0 M w0 (fun st'=>kUm stp (ops.toList.drop (i+1)) st' (K .normal)) a' w'→wpAny c.P .any ops (fun e a' w'=>Ok N X0 M w0 (K e) a' w') fuel (listed.setIfInBounds i true) a' w':=fun a' w' hk=>by
   obtain⟨st',β',h4,h5⟩:=hk;refine kV7 hAp hB hS fuel (i+1) _ st' β' a' w' zo zo (by simpa using hsz) (fun j hj=>?_) h5 h4
   rw[kBc _ _ _ _ zo];by_cases hji:j=i
   ·subst hji;simp
   ·rw[if_neg hji,hl j hj];congr 1;apply propext;omega
  unfold wpOp;rw[hoi];simp only;split
  ·rename_i hw;rw[if_pos hw]at hst;exact .inl (Oper.wp_mono hnext hst)
  ·rename_i hw;rw[if_neg hw]at hst;exact hnext _ _ hst
theorem qHg (hAp:Ap c.P X0 M w0) {ops:Array Oper}{m:Nat}(hB:k7q ops m) {stp:Oper→St→(St→Prop)→Prop}(hS:kSk c.P N X0 M w0 ops (fun e a' w'=>Ok N X0 M w0 (K e) a' w') stp) {st:St}{xs:Nat→SV}(hv:∀i o,i<m→ops[i]? = some o→(stF (ops.toList.take m) xs st i).val c.tys c.C N ops o (xs i))
  (hr:kUm stp (ops.toList.drop m) (stF (ops.toList.take m) xs st m) (K .normal)):∀(fuel:Nat) (listed:Array Bool) (st':St) (β:Nat→BV) (a:Act) (w:World),listed.size=ops.size→Cl ops listed →
  (∀j,m≤j→j<ops.size→listed.getD j false=false)→fuel=(List.range ops.size).countP (fun j=>!listed.getD j false)→Sim N X0 M w0 st' β a w→st'.hp=st.hp →
  (∀t,(∀j,j<m→kAp ops j≠some t)→lk t st'.fr=lk t st.fr)→(∀i d,i<m→listed.getD i false=true→kAp ops i=some d→lk d st'.fr=some (xs i)) →
  wpAny c.P .any ops (fun e a' w'=>Ok N X0 M w0 (K e) a' w') fuel listed a w:=by
 have hdt:∀j,((ops.toList.take m)[j]?).bind (·.dst)=if j<m then kAp ops j else none:=fun j=>by
  by_cases hj:j<m
  ·rw[if_pos hj,jYq hj,jSa];rfl
  ·rw[if_neg hj,vHt (by simp;omega)];rfl
 have hap:∀{i j d},i<m→j<m→kAp ops i=some d→kAp ops j=some d→i=j:=fun{i j d} hi hj h1 h2=>by
  have hio:i<ops.size:=by have:=hB.le;omega
  have ho:ops[i]? = some (ops[i]'hio):=jVn hio;rcases Nat.decEq i j with hne|he
  ·exfalso;refine hB.apart i _ hi ho j hj hne ?_;rw[h2,←h1];unfold kAp;rw[ho];rfl
  ·exact he
 have hF2:∀t,(∀j,j<m→kAp ops j≠some t)→∀i,lk t (stF (ops.toList.take m) xs st i).fr=lk t st.fr:=fun t ht i=>k45 xs st (fun j=>by
  rw[hdt j];split
  ·rename_i hj;exact ht j hj
  ·simp) i
 have hF3:∀{t j i},j<m→kAp ops j=some t→j<i→lk t (stF (ops.toList.take m) xs st i).fr=some (xs j):=fun{t j i} hj hd hi=>qB4 xs st (by rw[hdt j,if_pos hj];exact hd) (fun k hk=>by
  rw[hdt k];split
  ·rename_i hkm;exact fun e=>hk (hap hkm hj e hd)
  ·simp) i hi
 intro fuel
 induction fuel with
 |zero =>
  intro listed st' β a w hsz hcl kS9 hf hs hhp hA hB'
  have hall:∀j,j<ops.size→listed.getD j false=true:=fun j hj=>by
   have:(List.range ops.size).countP (fun j=>!listed.getD j false)=0:=hf.symm
   rw[List.countP_eq_zero]at this;have:=this j (jKi.2 hj);simpa using this
  have hm:m=ops.size:=by
   rcases jFx m ops.size with h|h
   ·have:=hall m h;rw[kS9 m (jDu _) h]at this;cases this
   ·have:=hB.le;omega
  refine kV7 (c:=c) hAp hB hS 0 m listed (stF (ops.toList.take m) xs st m) β a w zo (jDu _) hsz (fun j hj=>by rw[hall j hj];simp;omega) ?_ hr
  refine hs.less (fun t x hx=>?_) (fun t x hx=>by rw[hhp,←k1i (ops.toList.take m) xs st m];exact hx)
  by_cases ht:∃j,j<m∧kAp ops j=some t
  ·obtain⟨j,hj,hd⟩:=ht;rw[hF3 hj hd hj]at hx;rw[hB' j t hj (hall j zo) hd];exact hx
  ·have ht':∀j,j<m→kAp ops j≠some t:=fun j hj hd=>ht ⟨j,hj,hd⟩
   rw[hF2 t ht']at hx
   rw[hA t ht'];exact hx
 |succ fuel ih =>
  intro listed st' β a w hsz hcl kS9 hf hs hhp hA hB'
  have hgT:∀j,j<ops.size→listed.getD j true=listed.getD j false:=fun j hj=>by
   rw[jMv,jMv,jVn zo];rfl
  have hex:∃p,p<ops.size∧listed.getD p false=false:=by
   have h1:0<(List.range ops.size).countP (fun j=>!listed.getD j false):=zo
   obtain⟨p,hp,hq⟩:=List.countP_pos_iff.1 h1;exact⟨p,jKi.1 hp,by simpa using hq⟩
  obtain⟨p,⟨hp,hpf⟩,hmin⟩:=least hex
  have kKr:p∈Region.ready .any ops listed:=kBw.2 ⟨hp,by rw[hgT p hp];exact hpf,_,jVn hp,fun e he hb=>by
   have hlt:=hB.back p _ (jVn hp) e he hb
   cases hh:listed.getD e.on false with
   |true=>rfl
   |false=>have:=hmin e.on ⟨zo,hh⟩;omega⟩
  refine⟨fun h=>(by rw[h]at kKr;cases kKr),fun i hi=>?_⟩
  obtain⟨h1,h2,o,hoi,h3⟩:=kBw.1 hi;rw[hgT i h1]at h2;rcases jFx i m with him|him
  ·-- one of the first m
   have hval:st'.val c.tys c.C N ops o (xs i):=by
    refine val_congr (fun t ht=>?_) (by rw[hhp,k1i]) (hv i o him hoi)
    unfold St.get;by_cases hd:∃j,j<m∧kAp ops j=some t
    ·obtain⟨j,hj,hd⟩:=hd;obtain⟨hji,hed⟩:=hB.looks i o him hoi t ht j hj hd;rw[hB' j t hj (kFm h3 hed) hd,hF3 hj hd hji]
    ·have hd':∀j,j<m→kAp ops j≠some t:=fun j hj hd'=>hd ⟨j,hj,hd'⟩
     rw[hA t hd',hF2 t hd']
   have hst:=kV6 (Q:=fun e a' w'=>Ok N X0 M w0 (K e) a' w') hAp c.hty c.hC hs (ops:=ops) hval
   obtain⟨d,hd⟩:=hB.dst i o him hoi;have hdi:kAp ops i=some d:=by unfold kAp;rw[hoi];exact hd
   have hnext:∀a' w',Ok N X0 M w0 (fun st2=>st2=st'.put o.dst (xs i)) a' w'→wpAny c.P .any ops (fun e a' w'=>Ok N X0 M w0 (K e) a' w') fuel (listed.setIfInBounds i true) a' w':=fun a' w' hk=>by
    obtain⟨st2,β',rfl,h5⟩:=hk;refine ih _ _ β' a' w' (by simpa using hsz) (fun i' o' j' ho' hi' he'=>?_) (fun j hj hjn=>?_) ?_ h5 (by rw[kQ7];exact hhp) (fun t ht=>?_) (fun j e hj hjl hje=>?_)
    ·rw[kBc _ _ _ _ zo]at hi'⊢;split
     ·rfl
     ·by_cases hii:i'=i
      ·subst hii;rw[hoi]at ho';cases ho';exact kFm h3 he'
      ·rw[if_neg hii]at hi';exact hcl i' o' j' ho' hi' he'
    ·rw[kBc _ _ _ _ zo,if_neg zo];exact kS9 j hj hjn
    ·have key:∀l:List Nat,l.Nodup→i∈l→l.countP (fun j=>!listed.getD j false)=l.countP (fun j=>!(listed.setIfInBounds i true).getD j false)+1:=by
      intro l hn hm
      induction l with
      |nil=>cases hm
      |cons q l ihl =>
       rw[vSb]at hn;simp only[List.countP_cons];rw[kBc _ _ _ _ zo];by_cases hq:q=i
       ·subst hq
        have hno:l.countP (fun j=>!listed.getD j false)=l.countP (fun j=>!(listed.setIfInBounds q true).getD j false):=by
         apply vOy;intro j hj;rw[kBc _ _ _ _ zo,if_neg (fun e=>hn.1 (by rw[←e];exact hj))]
        rw[h2,hno];simp
       ·have hm':i∈l:=by
         rcases jDr.1 hm with e|e
         ·exact absurd e.symm hq
         ·exact e
        rw[if_neg hq,ihl hn.2 hm'];omega
     have:=key (List.range ops.size) List.nodup_range (jKi.2 h1);omega
    ·rw[hd,kJl _ _ _ _ (fun e=>ht i him (by rw[hdi,←hd];rw[hd];exact e))]
     exact hA t ht
    ·rw[kBc _ _ _ _ zo]at hjl;by_cases hji:j=i
     ·subst hji;rw[hdi]at hje;cases hje;rw[hd];exact kIo _ _ _
     ·rw[if_neg hji]at hjl;rw[hd,kJl _ _ _ _ (fun e'=>hji (hap hj him hje (by rw[hdi];exact e')))]
      exact hB' j e hj hjl hje
   unfold wpOp;rw[hoi];simp only;split
   ·rename_i hw;rw[if_pos hw]at hst;exact .inl (Oper.wp_mono hnext hst)
   ·rename_i hw;rw[if_neg hw]at hst;exact hnext _ _ hst
  ·-- all before it have come up: it is the m-th
   have kT2:∀j,j<i→listed.getD j false=true:=fun j hj=>(hB.all i o him hoi j hj).ready hcl hoi h3
   have himm:i=m:=by
    rcases jFx m i with h|h
    ·have:=kT2 m h;rw[kS9 m (jDu _) zo]at this;cases this
    ·omega
   have hl:∀j,j<ops.size→listed.getD j false=decide (j<m):=fun j hj=>by
    rcases jFx j m with h|h
    ·rw[kT2 j zo];simp[h]
    ·rw[kS9 j h hj];simp;omega
   have hcount:fuel+1=ops.size-m:=by
    rw[hf]
    have:(List.range ops.size).countP (fun j=>!listed.getD j false)=(List.range ops.size).countP (fun j=>decide (m≤j)):=by
     apply vOy;intro j hj;rw[hl j (jKi.1 hj)];simp
    rw[this]
    have key:∀n,(List.range n).countP (fun j=>decide (m≤j))=n-m:=by
     intro n
     induction n with
     |zero=>simp
     |succ n ihn =>
      rw[wDe,List.countP_append,ihn];by_cases hh:m≤n
      ·simp[hh];omega
      ·simp[hh];omega
    exact key _
   have htail:=kV7 (c:=c) hAp hB hS (fuel+1) m listed (stF (ops.toList.take m) xs st m) β a w (by have:=hB.le;omega) (jDu _) hsz hl (hs.less (fun t x hx=>by
     by_cases ht:∃j,j<m∧kAp ops j=some t
     ·obtain⟨j,hj,hd⟩:=ht;rw[hF3 hj hd hj]at hx;rw[hB' j t hj (kT2 j zo) hd];exact hx
     ·have ht':∀j,j<m→kAp ops j≠some t:=fun j hj hd=>ht ⟨j,hj,hd⟩
      rw[hF2 t ht']at hx;rw[hA t ht'];exact hx) (fun t x hx=>by rw[hhp,←k1i (ops.toList.take m) xs st m];exact hx)) hr
   exact htail.2 i hi
theorem WP.drawS {id:Nat}{l:List Oper}{st:St}(m:Nat) (hB:kSj l.toArray m=true) (hm:c.P.follows .mixedOrders=true) {stp:Oper→St→(St→Prop)→Prop}(hS:Ap c.P X0 M w0→kSk c.P N X0 M w0 l.toArray (fun e a' w'=>Ok N X0 M w0 (K e) a' w') stp)
  (h:St.runV c.tys c.C N l.toArray (l.take m) st fun st'=>kUm stp (l.drop m) st' (K .normal)):WP c N X0 M w0 (.region id l.toArray true) st K:=by
 intro hA β a w hs;have hD:=qK2 hB;obtain⟨xs,h1,h2⟩:=qB3 _ _ h
 have hlen:(l.take m).length=m:=by
  have:=hD.le;simp at this⊢;omega
 rw[hlen]at h2;refine wp_region_any hm (qHg (c:=c) (K:=K) hA hD (hS hA) (st:=st) (xs:=xs) (fun i o hi ho=>?_) ?_ l.toArray.size (Array.replicate l.toArray.size false) st β a _ zs (fun i o j _ hi _=>?_) (fun j _ hj=>?_) ?_ ?_ rfl (fun _ _=>rfl) (fun i d hi hl=>?_))
 ·have:(l.take m)[i]? = some o:=by rw[jYq hi];simpa using ho
  exact h1 i o this
 ·exact h2
 ·rw[jMv,vBc]at hi;split at hi<;>cases hi
 ·rw[jMv,vBc];split<;>rfl
 ·have:(List.range l.toArray.size).countP (fun j=>!(Array.replicate l.toArray.size false).getD j false)=(List.range l.toArray.size).countP (fun _=>true):=by
   apply vOy;intro j hj;rw[jMv,vBc];split<;>simp
  rw[this];simp
 ·exact hs.grow ((vVj _ _).drew) (fun b _ hb=>.inl hb) hs.x0
 ·rw[jMv,vBc]at hl;split at hl<;>cases hl
theorem WP.draw {id:Nat}{l:List Oper}{st:St}(m:Nat) (hB:kSj l.toArray m=true) (hm:c.P.follows .mixedOrders=true)
  (h:St.runV c.tys c.C N l.toArray (l.take m) st fun st'=>St.runR c.tys c.C N l.toArray (l.drop m) st' (K .normal)):WP c N X0 M w0 (.region id l.toArray true) st K :=
 WP.drawS m hB hm (stp:=fun o st K=>st.step c.tys c.C N l.toArray o K) (fun hA st β a w o K' hs hw=>kCu hA c.hty c.hC hs hw) (by simp only[qB5];exact h)
end
end
section
section
variable {P:Program}{tys:List (Nat×TyD)}{C:List (FuncId×Ctr)}{N:Nat}{X0:Nat→Prop}{M:Nat→BV→Prop}{w0:World}{st:St}{β:Nat→BV}{a:Act}{w:World}
theorem qG7 {X:Nat→Prop}{v:BV}{e s:Nat}{rows:List (List SV)}(h:ObR w X β v (.sl e s rows)):∃p cap,v=plain (.slice p rows.length cap)∧rows.length≤cap∧∀ad,p=some ad→ad.off=0∧ad.spot=none:=by
 cases h with
 |nil e s h=>exact⟨none,0,h,jDu _,fun ad h=>by cases h⟩
 |sl b cap cur us hv hh hcap=>exact⟨_,cap,hv,hcap,fun ad h=>by cases h;exact⟨rfl,rfl⟩⟩
def St.cutK (tys:List (Nat×TyD)) (N:Nat) (o:Oper) (st:St) (K:St→Prop):Prop :=
 match o.op with
 | .slice T x none (some hi) none=>match o.dst,(st.ev x).strip,(st.ev hi).strip with
  |some d,.own j,.v (.int .i64 p)=>match lk T tys,lk j st.hp with
   |some t,some (.sl es s rows)=>match lk t.elem tys with
    |some e=>o.guard.isNone=true∧d<N∧j<1000000∧t.kind=1∧s=e.size∧(st.ev x).need∧(st.ev hi).need∧0≤p∧p≤(rows.length:Int)∧K (st.app j d (.sl es s (rows.take p.toNat)))
    |none=>False
   | _,_=>False
  | _,_,_=>False
 | _=>False
theorem qDs (hty:∀T d,lk T tys=some d→kAs P T d) (h:Sim N X0 M w0 st β a w) {ops:Array Oper}{o:Oper}{K:St→Prop}(hw:st.cutK tys N o K) {Q:Exit→Act→World→Prop} :
  Region.wanted o (yielded ops a.tmps)=true∧o.wp P a w (Ok N X0 M w0 K) Q:=by
 unfold St.cutK at hw;split at hw
 case h_2=>exact hw.elim
 case h_1 _ T x hi ho =>
 split at hw
 case h_2=>exact hw.elim
 case h_1 _ _ _ d j p hd hx hhi =>
 split at hw
 case h_2=>exact hw.elim
 case h_1 _ _ t es s rows ht hl =>
 split at hw
 case h_2=>exact hw.elim
 case h_1 _ e he =>
 obtain⟨g,hdN,hjl,hk,rfl,n1,n2,hp0,hp1,hK⟩:=hw;have hgn:o.guard=none:=by simpa using g
 refine⟨by simp[Region.wanted,hgn],?_⟩
 have hT:=(hty T t ht).slice hk;have hE:=hty t.elem e he;have hS:∀w,(Go.sizeOf t.elem).run P w=.ok e.size w:=fun w=>hE.sizeOf w
 have ex:=(St.kAj h hx n1).kB9;have el:=(St.kAj h hhi n2).kAn;have hob:=h.objs j _ hl;obtain⟨pp,cap,hv,hnc,hpp⟩:=qG7 hob;have hsl:=k1a hT hS pp rows.length cap hnc none (some (.int .i64 p)) 0 p (.inr ⟨rfl,rfl⟩) (.inl rfl) (Int.le_refl _) hp0 hp1 w
 have hsv:Value.slice (if cap=(0:Int).toNat then pp else pp.map (·.add ((0:Int).toNat*e.size))) (p.toNat-(0:Int).toNat) (cap-(0:Int).toNat)=.slice pp p.toNat cap:=by
  have h0:(0:Int).toNat=0:=rfl;rw[h0,Nat.zero_mul,Nat.sub_zero,Nat.sub_zero];congr 1;split
  ·rfl
  ·cases pp with
   |none=>rfl
   |some ad =>
    obtain⟨q1,q2⟩:=hpp ad rfl;obtain⟨a1,a2,a3⟩:=ad;simp only at q1 q2;subst q1 q2;simp[Addr.add]
 rw[hsv]at hsl
 have hr:(execOp a.eval o).run P w=.ok (.value (.slice pp p.toNat cap)) w:=by
  simp[execOp,ho,ex,hv,el,hsl]
 have hblk:∀b,blk (.slice pp p.toNat cap)=some b↔(β j).ft b:=fun b=>by rw[hv];cases pp<;>rfl
 let β':Nat→BV:=fun i=>if i=j then plain (.slice pp p.toNat cap)else β i
 have hβ:∀i,i≠j→β' i=β i:=fun i hi=>by show(if i=j then _ else β i)=_;rw[if_neg hi]
 have hβj:β' j=plain (.slice pp p.toNat cap):=by show(if j=j then _ else β j)=_;rw[if_pos rfl]
 have hX1:∀b,b<w.heap.size→(X0 b∨(β j).ft b)→XX X0 β st.hp b:=fun b _ hh=>by
  rcases hh with hh|hh
  ·exact .inl hh
  ·exact .inr ⟨j,_,hl,hh⟩
 have h1:Sim N (fun b=>X0 b∨(β j).ft b) M w0 (st.kill j) β' a w :=
  h.kill j hjl hβ (by rw[hβj];rfl) rfl rfl rfl (jDu _) (fun b _ _=>rfl) hX1 (fun b hh=>by
   rcases hh with hh|hh
   ·exact h.x0 b hh
   ·exact hob.lt hh)
 have hXk:∀b,b<w.heap.size→XX (fun b=>X0 b∨(β j).ft b) β' (st.kill j).hp b→XX X0 β st.hp b:=fun b hlt hh=>k3u hβ (hX1 b hlt) hh
 have hSm:Same (XX X0 β st.hp) w w:=⟨jDu _,fun _ _ _=>rfl⟩
 have hob':ObR w (XX (fun b=>X0 b∨(β j).ft b) β' (st.kill j).hp) β' (plain (.slice pp p.toNat cap)) (.sl es e.size (rows.take p.toNat)):=by
  have hlen:(rows.take p.toNat).length=p.toNat:=by rw[jOb];omega
  generalize hbv:β j=bv at hob hv
  cases hob with
  |nil e' s' h0 =>
   rw[h0]at hv
   injection (congrArg BV.val hv)with q1 q2 q3
   subst q1 q3;have:p.toNat=0:=by simp at hp1;omega
   rw[this]
   exact .nil _ _ rfl
  |sl b cap' cur us hv' hh hcap hmax hsz hlenr hcell hone hrp =>
   rw[hv']at hv
   injection (congrArg BV.val hv)with q1 q2 q3
   subst q1 q3
   have sub:∀{i:Nat}{row:List SV},(rows.take p.toNat)[i]? = some row→rows[i]? = some row:=fun{i row} hq=>by
    rw[yHk]at hq;split at hq
    ·exact hq
    ·cases hq
   exact ObR.sl b cap' cur us (by rw[hlen]) hh (by rw[hlen];omega) hmax hsz (fun i row hq=>hlenr i row (sub hq)) (fun i k row c hq hc=>hcell i k row c (sub hq) hc) (fun i k row c hq hc=>hone i k row c (sub hq) hc)
    (fun i k row c hq hc=>(hrp i k row c (sub hq) hc).mono hSm (fun b hlt hh=>hXk b hlt (by rw[hbv];exact hh)))
 have h2:=h1.add (j:=j) (kJ8 st j) (ob:=.sl es e.size (rows.take p.toNat)) (by rw[hβj];exact hob') (fun b hh=>.inr (by rw[hβj]at hh;exact(hblk b).1 hh))
  (fun b hh=>by rw[hβj]at hh;exact h.mine j _ b hl ((hblk b).1 hh))
  (fun b id o' hh hi' hid=>by
   rw[hβj]at hh;have hne:id≠j:=fun e=>by subst e;rw[kJ8]at hi';cases hi'
   rw[hβ id hne]at hid;rw[kGu hne]at hi'
   cases hy:lk id st.hp with
   |none=>rw[hy]at hi';cases hi'
   |some y=>exact hne (h.inj id j y _ b hy hl hid ((hblk b).1 hh)))
 have h3:=h2.un (X1:=X0) (fun b hh=>.inl hh)
 unfold Oper.wp;rw[hr,Oper.upon_value,hd];refine⟨_,β',hK,?_⟩;have hR:=R.own (w:=w) (X:=XX X0 β' ((j,.sl es e.size (rows.take p.toNat))::(st.kill j).hp)) (β:=β') j;rw[hβj]at hR;exact h3.put hdN hR
def St.kZ0 (tys:List (Nat×TyD)) (o:Oper) (st:St):Option (Prop×Ob×List Nat) :=
 match o.op with
 | .slice T x none (some hi) none=>match(st.ev x).strip,(st.ev hi).strip with
  | .own j,.v (.int .i64 p)=>match lk T tys,lk j st.hp with
   |some t,some (.sl es s rows)=>match lk t.elem tys with
    |some e=>some (o.dst≠some j∧j<1000000∧t.kind=1∧s=e.size∧(st.ev x).need∧(st.ev hi).need∧0≤p∧p≤(rows.length:Int),.sl es s (rows.take p.toNat),[j])
    |none=>none
   | _,_=>none
  | _,_=>none
 | _=>none
def St.kSg (tys:List (Nat×TyD)) (o:Oper) (st:St):Option (Prop×Ob×List Nat) :=
 match o.op with
 | .slice _ _ _ _ _=>st.kZ0 tys o
 | _=>st.kDq tys o
theorem k7e {o:Oper}{q:Prop×Ob×List Nat}(h:st.kDq tys o=some q):st.kSg tys o=some q:=by
 unfold St.kSg;split
 ·rename_i ho;unfold St.kDq at h;rw[ho]at h;cases h
 ·exact h
theorem cutQ_K {o:Oper}{p:Prop}{ob:Ob}{is:List Nat}(hq:st.kZ0 tys o=some (p,ob,is)) (hp:p) {d:Nat}(hd:o.dst=some d) (hdN:d<N) (hg:o.guard=none):∃j e s rows,ob=.sl e s rows∧is=[j]∧j≠d∧st.cutK tys N o fun st'=>st'=st.app j d ob:=by
 unfold St.kZ0 at hq;split at hq
 case h_2=>cases hq
 case h_1 _ T x hi ho =>
 split at hq
 case h_2=>cases hq
 case h_1 _ _ j n hx hhi =>
 split at hq
 case h_2=>cases hq
 case h_1 _ _ t es s rows ht hl =>
 split at hq
 case h_2=>cases hq
 case h_1 _ e he =>
 simp only[jBf,jCx]at hq;obtain⟨rfl,rfl,rfl⟩:=hq;obtain⟨h0,h1,h2,h3,h4,h5,h6,h7⟩:=hp;refine⟨j,_,_,_,rfl,rfl,fun e=>h0 (by rw[hd,e]),?_⟩
 unfold St.cutK;simp only[ho,hd,hx,hhi,ht,hl,he];exact⟨by rw[hg];rfl,hdN,h1,h2,h3,h4,h5,h6,h7,trivial⟩
theorem qG8 {st2:St}{o:Oper}(hev:∀y∈o.op.operands,st2.ev y=st.ev y) (hh:∀id ob,lk id st.hp=some ob→lk id st2.hp=some ob) {q:Prop×Ob×List Nat}(hq:st.kZ0 tys o=some q):st2.kZ0 tys o=some q:=by
 unfold St.kZ0 at hq⊢;split at hq
 case h_2=>cases hq
 case h_1 _ T x hi ho =>
 rw[ho]at hev;have e1:st2.ev x=st.ev x:=hev x (by simp[Op.operands])
 have e2:st2.ev hi=st.ev hi:=hev hi (by simp[Op.operands])
 simp only[e1,e2];split at hq
 case h_2=>cases hq
 case h_1 _ _ j n hx hhi =>
 split at hq
 case h_2=>cases hq
 case h_1 _ _ t es s rows ht hl =>
 simp only[ht,hh j _ hl];exact hq
end
end
section
structure Dl where
 x:SV
 made:List (Nat×Ob):=[]
 gone:List Nat:=[]
def Dl.ids (δ:Dl):List Nat:=δ.made.map (·.1)++δ.gone
def St.kMf (st:St) (d:Nat) (δ:Dl):St:={ fr:=(d,δ.x)::er d (st.kAl δ.ids).fr,hp:=δ.made++(st.kAl δ.ids).hp }
def St.dlt (tys:List (Nat×TyD)) (C:List (FuncId×Ctr)) (N:Nat) (ops:Array Oper) (o:Oper) (d:Nat) (st:St) (δ:Dl):Prop :=
 o.dst=some d ∧
 ((st.val tys C N ops o δ.x∧δ.made=[]∧δ.gone=[]) ∨
  (o.guard=none∧kAq N o.dst=true∧match o.op with
  | .alloc T=>match lk T tys with
   |some t=>t.z.all Value.oneCell'=true∧δ=⟨.ptr d 0 0 0,[(d,.box T (t.z.map .v))],[]⟩
   |none=>False
  | .box T x=>(st.ev x).need∧(st.ev x).strip.cells.all SV.one=true∧(st.ev x).strip.cells.map (SV.kill d)=(st.ev x).strip.cells∧δ=⟨.ptr d 0 0 0,[(d,.box T (st.ev x).strip.cells)],[]⟩
  | .buildSlice T n parts=>match lk T tys with
   |some t=>match lk t.elem tys with
    |some e=>t.kind=1∧0<e.size∧n*e.size≤16777216∧e.z.length=e.size∧e.z.all Value.oneCell'=true∧kCi st n e.size parts.toList ∧
      δ=⟨.own d,[(d,.sl t.elem e.size (kCy st (e.z.map .v) parts.toList (List.replicate n (e.z.map .v))))],[]⟩
    |none=>False
   |none=>False
  | .makeSlice T l c=>match lk T tys,(st.ev l).strip,(st.ev c).strip with
   |some t,.v (.int .i64 n),.v (.int .i64 m)=>match lk t.elem tys with
    |some e=>t.kind=1∧(st.ev l).need∧(st.ev c).need∧0≤n∧n≤m∧m*(e.bytes:Int)≤281474976710656∧0<e.bytes∧e.z.length=e.size∧e.z.all Value.oneCell'=true ∧
      δ=⟨.own d,[(d,.sl t.elem e.size (List.replicate n.toNat (e.z.map .v)))],[]⟩
    |none=>False
   | _,_,_=>False
  | .call c=>match c.callee with
   | .value x=>match st.ev x with
    | .fn f caps=>match lk f C with
     |some ctr=>ctr.isL=false∧(match ctr.pure d ((st.kAi c caps).map (SV.share st.hp))with
      | (ob,res,kAb)=>ob∧(∀y∈c.args.toList,(st.ev y).need)∧((st.kAi c caps).all fun y=>(y.share st.hp).good)=true∧res.rok=true∧(res.kCv.all fun i=>(kAb.map (·.1)).contains i)=true ∧
       kAz (kAb.map (·.1))=true∧((kAb.map (·.1)).all fun i=>decide (i<1000000))=true∧(kAb.all fun p=>p.2.pl)=true ∧
       (((st.kAi c caps).flatMap SV.owns)=[]∨(res.kE0=true∧∀p∈kAb,p.2.isV))∧δ=⟨res,kAb,[]⟩)
     |none=>False
    | _=>False
   | .builtin .append=>match c.args.toList,c.argTypes.toList with
    | [x,y],[T,T']=>match lk T tys,st.rowsOf (st.ev y).strip with
     |some t,some news=>match lk t.elem tys with
      |some e=>T=T'∧t.kind=1∧(st.ev x).need∧(st.ev y).need∧0<e.size∧0<e.bytes∧e.z.length=e.size ∧
       (match(st.ev x).strip with
       | .own j=>match lk j st.hp with
        |some (.sl e' s' rows)=>j<1000000∧j≠d∧e'=t.elem∧s'=e.size∧(rows.length+news.length)*e.bytes≤140737488355328∧(∀row∈news,row.length=e.size)∧δ=⟨.own d,[(d,.sl e' s' (rows++news))],[j]⟩
        | _=>False
       | .v (.slice none 0 0)=>news.length*e.bytes≤140737488355328∧(∀row∈news,row.length=e.size)∧δ=⟨.own d,[(d,.sl t.elem e.size news)],[]⟩
       | _=>False)
      |none=>False
     | _,_=>False
    | _,_=>False
   | _=>False
  | _=>False) ∨
  (o.guard=none∧kAq N o.dst=true∧∃p ob is,st.kSg tys o=some (p,ob,is)∧p∧δ=⟨.own d,[(d,ob)],is⟩))
section
variable {P:Program}{tys:List (Nat×TyD)}{C:List (FuncId×Ctr)}{N:Nat}{X0:Nat→Prop}{M:Nat→BV→Prop}{w0:World}{st:St}{β:Nat→BV}{a:Act}{w:World}
theorem kWd (j d:Nat) (x:SV):((x.kAw j).kAw d).re1 j d=(x.kAw j).kAw d:=by
 cases x with
 |own k =>
  by_cases h1:k=j
  ·simp[SV.kAw,SV.re1,h1]
  ·by_cases h2:k=d
   ·subst h2;simp[SV.kAw,SV.re1,h1]
   ·simp[SV.kAw,SV.re1,h1,h2]
 |ptr k s a b =>
  by_cases h1:k=j
  ·simp[SV.kAw,SV.re1,h1]
  ·by_cases h2:k=d
   ·subst h2;simp[SV.kAw,SV.re1,h1]
   ·simp[SV.kAw,SV.re1,h1,h2]
 | _=>rfl
theorem qHk (j d:Nat) (x:SV):(((x.up2 (SV.kAw j)).up2 (SV.kAw d)).up2 (SV.re1 j d))=(x.up2 (SV.kAw j)).up2 (SV.kAw d):=by
 cases x with
 |agg cs =>
  simp only[SV.up2,jRw];congr 1
  exact vDr fun y _=>kWd j d y
 |own k =>
  by_cases h1:k=j
  ·simp[SV.up2,SV.kAw,SV.re1,h1]
  ·by_cases h2:k=d
   ·subst h2;simp[SV.up2,SV.kAw,SV.re1,h1]
   ·simp[SV.up2,SV.kAw,SV.re1,h1,h2]
 |ptr k s a b =>
  by_cases h1:k=j
  ·simp[SV.up2,SV.kAw,SV.re1,h1]
  ·by_cases h2:k=d
   ·subst h2;simp[SV.up2,SV.kAw,SV.re1,h1]
   ·simp[SV.up2,SV.kAw,SV.re1,h1,h2]
 | _=>rfl
theorem kT4 (j d:Nat) (x:SV):((x.kill j).kill d).up (SV.re1 j d)=(x.kill j).kill d:=by
 cases x with
 |agg cs =>
  simp only[SV.kill,SV.up,jRw];congr 1
  exact vDr fun y _=>kWd j d y
 |tup cs =>
  simp only[SV.kill,SV.up,jRw];congr 1
  exact vDr fun y _=>qHk j d y
 |fn f cs =>
  simp only[SV.kill,SV.up,jRw];congr 1
  exact vDr fun y _=>kWd j d y
 |cond g x=>simp only[SV.kill,SV.up,qHk j d x]
 |own k =>
  by_cases h1:k=j
  ·simp[SV.kill,SV.up,SV.kAw,SV.re1,h1]
  ·by_cases h2:k=d
   ·subst h2;simp[SV.kill,SV.up,SV.kAw,SV.re1,h1]
   ·simp[SV.kill,SV.up,SV.kAw,SV.re1,h1,h2]
 |ptr k s a b =>
  by_cases h1:k=j
  ·simp[SV.kill,SV.up,SV.kAw,SV.re1,h1]
  ·by_cases h2:k=d
   ·subst h2;simp[SV.kill,SV.up,SV.kAw,SV.re1,h1]
   ·simp[SV.kill,SV.up,SV.kAw,SV.re1,h1,h2]
 | _=>rfl
theorem Ob.kT4 (j d:Nat) (o:Ob):((o.kill j).kill d).up (SV.re1 j d)=(o.kill j).kill d:=by
 cases o with
 |sl e s rows=>rfl
 |mp e es=>rfl
 |dp e s rows=>rfl
 |dq e s rows i row =>
  simp only[Ob.kill,Ob.up,jRw];congr 1;refine vDr fun y _=>?_
  have nk:∀(d:Nat) (c:SV),c.kFl=false→(c.kill d).kFl=false:=fun d c hc=>by
   cases c<;>first|(cases hc;done)|rfl|(simp only[SV.kill,SV.up,SV.kAw];split<;>rfl)
  simp only[Function.comp]
  cases hy:y.kFl with
  |true=>simp[SV.upq,hy]
  |false =>
   have e1:=nk j y hy;have e2:=nk d _ e1
   simp[SV.upq,hy,e1,e2,Go.Vc.kT4 j d y]
 |box e cs =>
  simp only[Ob.kill,Ob.up,jRw];congr 1;exact vDr fun y _=>Go.Vc.kT4 j d y
theorem Sim.app2 {j d:Nat}{e s:Nat}{rows:List (List SV)}(hjd:j≠d) (hd:d<N) (h:Sim N X0 M w0 (st.app j d (.sl e s rows)) β a w):∃β',Sim N X0 M w0 (st.kMf d ⟨.own d,[(d,.sl e s rows)],[j]⟩) β' a w:=by
 obtain⟨β',h'⟩:=h.mv (i:=j) (j:=d) (by have:=h.few;omega) hjd
 refine⟨β',h'.less (fun t x hx=>?_) (fun t x hx=>?_)⟩
 ·have hlj:lk j (st.app j d (.sl e s rows)).hp=some (.sl e s rows):=by simp[St.app,lk]
  unfold St.mv;rw[hlj];simp only[kCp];simp only[St.kMf,lk]at hx;by_cases ht:t=d
  ·rw[if_pos ht]at hx;cases hx;subst ht;simp[St.app,St.kill,lk,kCp,SV.kill,SV.up,SV.kAw,SV.re1,hjd]
  ·rw[if_neg ht,kAt ht]at hx
   have e1:lk t ((st.app j d (.sl e s rows)).kill d).fr=lk t ((st.kill j).kill d).fr:=by
    simp only[St.app,St.kill,kCp];simp only[lk,if_neg ht];simp only[kCp,kAt ht]
   rw[e1];have e2:lk t ((st.kill j).kill d).fr=some x:=hx;rw[e2]
   have e3:∃y:SV,x=(y.kill j).kill d:=by
    simp only[St.kill,kCp]at e2
    cases hq:lk t st.fr with
    |none=>rw[hq]at e2;cases e2
    |some y=>rw[hq]at e2;exact⟨y,by simpa using e2.symm⟩
   obtain⟨y,rfl⟩:=e3;simp only[jIn,Go.Vc.kT4]
 ·have hlj:lk j (st.app j d (.sl e s rows)).hp=some (.sl e s rows):=by simp[St.app,lk]
  unfold St.mv;rw[hlj];simp only[St.kMf,jRa,jIw,lk]at hx⊢;by_cases ht:t=d
  ·rw[if_pos ht]at hx⊢;cases hx;rfl
  ·rw[if_neg ht]at hx⊢;have e2:lk t ((st.kill j).kill d).hp=some x:=hx
   have htj:t≠j:=fun e=>by
    subst e;rw[kGu ht,kJ8]at e2;cases e2
   rw[kCp,kAt htj,kGu ht];have e1:lk t (st.app j d (.sl e s rows)).hp=lk t (st.kill j).hp:=by simp[St.app,lk,htj]
   rw[e1];rw[kGu ht]at e2
   cases hq:lk t (st.kill j).hp with
   |none=>rw[hq]at e2;cases e2
   |some y =>
    rw[hq]at e2
    have hy:∃z:Ob,y=z.kill j:=by
     rw[kGu htj]at hq
     cases hz:lk t st.hp with
     |none=>rw[hz]at hq;cases hq
     |some z=>rw[hz]at hq;exact⟨z,by simpa using hq.symm⟩
    obtain⟨z,rfl⟩:=hy;have hx2:x=(z.kill j).kill d:=by simpa using e2.symm
    subst hx2;simp only[jIn,Ob.kT4]
end
end
section
section
variable {P:Program}{tys:List (Nat×TyD)}{C:List (FuncId×Ctr)}{N:Nat}{X0:Nat→Prop}{M:Nat→BV→Prop}{w0:World}{st:St}{β:Nat→BV}{a:Act}{w:World}
theorem qD8 (d:Nat) (l:List Value):(l.map SV.v).map (SV.kill d)=l.map SV.v:=by
 rw[jRw];rfl
theorem qHp (hA:Ap P X0 M w0) (hty:∀T d,lk T tys=some d→kAs P T d) (hC:COk P C) (h:Sim N X0 M w0 st β a w) {ops:Array Oper}{o:Oper}{d:Nat}{δ:Dl}(hw:st.dlt tys C N ops o d δ) {Q:Exit→Act→World→Prop} :
  if Region.wanted o (yielded ops a.tmps)then o.wp P a w (Ok N X0 M w0 fun st'=>st'=st.kMf d δ) Q else Ok N X0 M w0 (fun st'=>st'=st.kMf d δ) (a.put o.dst undef) w:=by
 obtain⟨hod,hw⟩:=hw;rcases hw with⟨hv,hm,hg⟩|⟨hgd,hd,hw⟩|⟨hgd,hd,p,ob,is,hq,hp,rfl⟩
 rotate_right
 ·have hwant:Region.wanted o (yielded ops a.tmps)=true:=by simp[Region.wanted,hgd]
  rw[if_pos hwant];have hdN:d<N:=by rw[hod]at hd;simpa[kAq]using hd
  unfold St.kSg at hq;split at hq
  ·obtain⟨j,e,s,rows,rfl,rfl,hjd,hK⟩:=cutQ_K hq hp hod hdN hgd
   exact Oper.wp_mono (fun a' w' ⟨st',β',he,hs⟩=>by
    subst he;obtain⟨β2,h2⟩:=hs.app2 hjd hdN;exact⟨_,β2,rfl,h2⟩) (qDs (ops:=ops) hty h hK).2
  ·exact kY9 (K:=fun st'=>st'=st.kMf d ⟨.own d,[(d,ob)],is⟩) hty h hq hp hod hdN rfl
 ·have e:st.kMf d δ=st.put o.dst δ.x:=by
   rw[hod];simp[St.kMf,Dl.ids,hm,hg,St.kAl,St.put]
  rw[e];exact kV6 hA hty hC h hv
 ·have hwant:Region.wanted o (yielded ops a.tmps)=true:=by simp[Region.wanted,hgd]
  rw[if_pos hwant];have hdN:d<N:=by rw[hod]at hd;simpa[kAq]using hd
  have hN:∀e,o.dst=some e→e<N:=kI8 hd
  cases ho:o.op with
  |alloc T =>
   rw[ho]at hw;simp only at hw;split at hw
   case h_2=>exact hw.elim
   case h_1 _ t ht =>
    obtain⟨h1,rfl⟩:=hw;refine k40 hty h ho hN ?_;unfold St.eff;rw[ho];simp only[hod,ht];refine⟨h1,?_⟩
    simp only[St.new,St.kMf,Dl.ids,jHi,jRt,jSt,St.kAl,Ob.kill,qD8,jRa,jIw]
  |box T x =>
   rw[ho]at hw;simp only at hw;obtain⟨h1,h2,h3,rfl⟩:=hw;refine qBv (tys:=tys) h ho hN ?_;unfold St.eff;rw[ho];simp only[hod];refine⟨h1,h2,?_⟩
   simp only[St.new,St.kMf,Dl.ids,jHi,jRt,jSt,St.kAl,Ob.kill,h3,jRa,jIw]
  |buildSlice T n parts =>
   rw[ho]at hw;simp only at hw;split at hw
   case h_2=>exact hw.elim
   case h_1 _ t ht =>
    split at hw
    case h_2=>exact hw.elim
    case h_1 _ e he =>
     obtain⟨h1,h2,h3,h4,h5,h6,rfl⟩:=hw;refine kOr hty h ho hN ?_;unfold St.eff;rw[ho];simp only[hod,ht,he]
     exact⟨h1,h2,h3,h4,h5,h6,rfl⟩
  |makeSlice T l cc =>
   rw[ho]at hw;simp only at hw;split at hw
   case h_2=>exact hw.elim
   case h_1 _ _ _ t n m ht hl hc =>
    split at hw
    case h_2=>exact hw.elim
    case h_1 _ e he =>
     obtain⟨h1,h2,h3,h4,h5,h6,h7,h8,h9,rfl⟩:=hw;refine kVx hty h ho hN ?_;unfold St.eff;rw[ho];simp only[hod,ht,hl,hc,he]
     exact⟨h1,h2,h3,h4,h5,h6,h7,h8,h9,rfl⟩
  |call c =>
   rw[ho]at hw;simp only at hw
   cases hc:c.callee with
   |value x =>
    rw[hc]at hw;simp only at hw;split at hw
    case h_2=>exact hw.elim
    case h_1 _ f caps hf =>
     split at hw
     case h_2=>exact hw.elim
     case h_1 _ ctr kMe =>
      obtain⟨hL,hw⟩:=hw;refine kZ2 (dd:=d) hC hA h hN ?_;unfold St.kFd;rw[ho];simp only[hc,hf,kMe];generalize ctr.pure d ((st.kAi c caps).map (SV.share st.hp))=q at hw⊢;obtain⟨q1,q2,q3⟩:=q;obtain⟨g1,g2,g3,g4,g5,g6,g7,g8,g9,rfl⟩:=hw;refine⟨g1,g2,g3,g4,g5,g6,g7,jDl.2 fun p hp=>Ob.pb_pl (jDl.1 g8 p hp),g9,?_⟩
      rw[hod]
      simp[St.res,St.put,St.kMf,Dl.ids]
   |invoke r q=>rw[hc]at hw;exact hw.elim
   |builtin b =>
    rw[hc]at hw;cases b<;>first|exact False.elim hw|skip
    simp only at hw⊢;split at hw
    case h_2=>exact hw.elim
    case h_1 _ _ x y T T' ha hAt =>
     split at hw
     case h_2=>exact hw.elim
     case h_1 _ _ t news ht hnr =>
      split at hw
      case h_2=>exact hw.elim
      case h_1 _ e he =>
       obtain⟨h1,h2,h3,h4,h5,h6,h7,hw⟩:=hw;split at hw
       case h_3=>exact hw.elim
       case h_1 _ j hj =>
        split at hw
        case h_2=>exact hw.elim
        case h_1 _ e' s' rows hl =>
         obtain⟨g1,g2,g3,g4,g5,g6,rfl⟩:=hw;refine Oper.wp_mono (fun a' w' hk=>?_) (kUh (K:=fun st'=>st'=st.app j d (.sl e' s' (rows++news))) hty h ho hc hN ?_)
         ·obtain⟨st',β',rfl,h'⟩:=hk;obtain⟨β2,h2⟩:=Sim.app2 g2 hdN h';exact⟨_,β2,rfl,h2⟩
         ·unfold St.eff;rw[ho];simp only[hc,hod,ha,hAt,ht,hnr,he,hj,hl];exact⟨h1,h2,h3,h4,h5,h6,h7,g1,g3,g4,g5,g6,trivial⟩
       case h_2 _ hj =>
        obtain⟨g5,g6,rfl⟩:=hw;refine kUh hty h ho hc hN ?_;unfold St.eff;rw[ho];simp only[hc,hod,ha,hAt,ht,hnr,he,hj]
        exact⟨h1,h2,h3,h4,h5,h6,h7,g5,g6,rfl⟩
  | _=>rw[ho]at hw;exact hw.elim
theorem k1l {st2:St}{n s:Nat}:∀{l:List (Nat×Operand)},(∀p∈l,st2.ev p.2=st.ev p.2)→kCi st n s l→kCi st2 n s l
 | [],_,h=>h
 | (i,x)::l,he,h=>by
  obtain⟨h1,h2,h3,h4,h5⟩:=h;have e:=he (i,x) jYt;simp only at e;exact⟨by rw[e];exact h1,h2,by rw[e];exact h3,by rw[e];exact h4,k1l (fun p hp=>he p (jZr _ hp)) h5⟩
theorem kZd {st2:St}{z:List SV}:∀{l:List (Nat×Operand)}{rows:List (List SV)},(∀p∈l,st2.ev p.2=st.ev p.2)→kCy st2 z l rows=kCy st z l rows
 | [],_,_=>rfl
 | (i,x)::l,rows,he=>by
  have e:=he (i,x) jYt;simp only at e;simp only[kCy,e];exact kZd fun p hp=>he p (jZr _ hp)
theorem kSm {hp hp2:List (Nat×Ob)}(hh:∀id ob,lk id hp=some ob→lk id hp2=some ob):∀{cs:List SV}{q:Prop×List SV×List Nat},kDb hp cs=some q→kDb hp2 cs=some q
 | [],q,h=>h
 |x0::l,q,h=>by
  cases x0 with
  |v x =>
   simp only[kDb]at h⊢;split at h
   ·rename_i p' r' is' h2;rw[kSm hh h2];exact h
   ·cases h
  |own j =>
   simp only[kDb]at h⊢;split at h
   ·rename_i e s rows hl;rw[hh _ _ hl];split at h
    ·rename_i p' r' is' h2;simp only[kSm hh h2];exact h
    ·cases h
   ·rename_i e s rows hl;rw[hh _ _ hl];split at h
    ·rename_i p' r' is' h2;simp only[kSm hh h2];exact h
    ·cases h
   ·cases h
  | _=>cases h
theorem qD9 {st2:St}{o:Oper}(hev:∀y∈o.op.operands,st2.ev y=st.ev y) (hh:∀id ob,lk id st.hp=some ob→lk id st2.hp=some ob) {q:Prop×Ob×List Nat}(hq:st.kDq tys o=some q):st2.kDq tys o=some q:=by
 unfold St.kDq at hq⊢;split at hq
 ·rename_i T parts ho;rw[ho]at hev;split at hq
  ·rename_i x t hpa ht
   have ex:st2.ev x=st.ev x:=hev x (by
    simp only[Op.operands,List.mem_toArray,jCr];exact⟨(0,x),by rw[hpa];simp,rfl⟩)
   simp only[ht,ex];split at hq
   ·rename_i e p' row is he habs;simp only[he,kSm hh habs];exact hq
   ·cases hq
  ·cases hq
 ·rename_i c ho;rw[ho]at hev;have ha:∀y∈c.args.toList,st2.ev y=st.ev y:=fun y hy=>hev y (by simp only[Op.operands,Call.operands,yEh];right;simpa using hy)
  split at hq
  ·rename_i hc;split at hq
   ·rename_i x y T T' hxy hA;rw[ha x (by rw[hxy];simp),ha y (by rw[hxy];simp)]
    split at hq
    ·rename_i t j i ht hj hi;split at hq
     ·rename_i e e' s rows e2 s2 news he hlj hli;simp only[he,hh _ _ hlj,hh _ _ hli];exact hq
     ·cases hq
    ·cases hq
   ·cases hq
  ·cases hq
 ·cases hq
theorem qEa {st2:St}{o:Oper}(hev:∀y∈o.op.operands,st2.ev y=st.ev y) (hh:∀id ob,lk id st.hp=some ob→lk id st2.hp=some ob) {q:Prop×Ob×List Nat}(hq:st.kSg tys o=some q):st2.kSg tys o=some q:=by
 unfold St.kSg at hq⊢;split at hq
 ·exact qG8 hev hh hq
 ·exact qD9 hev hh hq
theorem qK4 {st2:St}{ops:Array Oper}{o:Oper}{d:Nat}{δ:Dl}(h:∀t∈o.looksAt ops,st2.get t=st.get t) (hh:∀id ob,lk id st.hp=some ob→lk id st2.hp=some ob) (hw:st.dlt tys C N ops o d δ):st2.dlt tys C N ops o d δ:=by
 obtain⟨hod,hw⟩:=hw;refine⟨hod,?_⟩
 have hop:∀y∈o.op.operands,st2.ev y=st.ev y:=fun y hy=>by
  cases y with
  |tmp t=>exact h t (vJc _ (List.mem_filterMap.2 ⟨.tmp t,by simpa using hy,rfl⟩))
  | _=>rfl
 rcases hw with⟨hv,hm,hg⟩|⟨hgd,hd,hw⟩|⟨hgd,hd,p,ob,is,hq,hp,rfl⟩
 ·exact .inl ⟨k7s h hh hv,hm,hg⟩
 rotate_left
 ·exact .inr (.inr ⟨hgd,hd,p,ob,is,qEa hop hh hq,hp,rfl⟩)
 ·refine .inr (.inl ⟨hgd,hd,?_⟩)
  cases ho:o.op with
  |alloc T=>rw[ho]at hw;exact hw
  |box T x =>
   rw[ho]at hw hop;simp only[hop x (by simp[Op.operands])]at hw⊢
   exact hw
  |buildSlice T n parts =>
   rw[ho]at hw hop
   have e:∀p∈parts.toList,st2.ev p.2=st.ev p.2:=fun p hp=>hop p.2 (by
    simp only[Op.operands,List.mem_toArray,jCr];exact⟨p,hp,rfl⟩)
   simp only at hw⊢;split at hw
   case h_2=>exact hw.elim
   case h_1 _ t ht =>
    split at hw
    case h_2=>exact hw.elim
    case h_1 _ e' he =>
     obtain⟨h1,h2,h3,h4,h5,h6,rfl⟩:=hw
     exact⟨h1,h2,h3,h4,h5,k1l e h6,by rw[kZd e]⟩
  |makeSlice T l cc =>
   rw[ho]at hw hop;simp only[hop l (by simp[Op.operands]),hop cc (by simp[Op.operands])]at hw⊢
   exact hw
  |call c =>
   rw[ho]at hw hop;have ha:∀y∈c.args.toList,st2.ev y=st.ev y:=fun y hy=>hop y (by simp only[Op.operands,Call.operands,yEh];right;simpa using hy)
   simp only at hw⊢
   cases hc:c.callee with
   |value x =>
    rw[hc]at hw;have hx:st2.ev x=st.ev x:=hop x (by simp[Op.operands,Call.operands,hc])
    simp only[hx]at hw⊢;split at hw
    case h_2=>exact hw.elim
    case h_1 _ f caps hf =>
     split at hw
     case h_2=>exact hw.elim
     case h_1 _ ctr kMe =>
      refine⟨hw.1,?_⟩;have hw2:=hw.2
      have hg:((st.kAi c caps).all fun y=>(y.share st.hp).good)=true:=by
       generalize ctr.pure d ((st.kAi c caps).map (SV.share st.hp))=q at hw2;obtain⟨q1,q2,q3⟩:=q;exact hw2.2.2.1
      obtain⟨e1,e2⟩:=kZc hh hg;rw[k44 ha,e1];generalize ctr.pure d ((st.kAi c caps).map (SV.share st.hp))=q at hw2;obtain⟨q1,q2,q3⟩:=q;obtain⟨g1,g2,g3,g⟩:=hw2
      exact⟨g1,fun y hy=>by rw[ha y hy];exact g2 y hy,e2,g⟩
   |invoke r q=>rw[hc]at hw;exact hw.elim
   |builtin b =>
    rw[hc]at hw;cases b<;>first|exact False.elim hw|skip
    simp only at hw⊢;split at hw
    case h_2=>exact hw.elim
    case h_1 _ _ x y T T' hxy hAt =>
     have ex:=ha x (by rw[hxy];simp)
     have ey:=ha y (by rw[hxy];simp)
     split at hw
     case h_2=>exact hw.elim
     case h_1 _ _ t news ht hnr =>
      split at hw
      case h_2=>exact hw.elim
      case h_1 _ e he =>
       obtain⟨h1,h2,h3,h4,h5,h6,h7,hw⟩:=hw;rw[←ey]at hnr h4;rw[←ex]at h3 hw;simp only[hxy,hAt,ht,kZb hh hnr,he];refine⟨h1,h2,h3,h4,h5,h6,h7,?_⟩;split at hw
       case h_3=>exact hw.elim
       case h_1 _ j hj =>
        split at hw
        case h_2=>exact hw.elim
        case h_1 _ e' s' rows hl =>
         simp only[hh _ _ hl];exact hw
       case h_2=>exact hw
  | _=>rw[ho]at hw;exact hw
end
end
def SV.leaf (ids:List Nat):SV→Bool
 | .own i=>ids.contains i
 | .ptr i _ _ _=>ids.contains i
 | .agg _=>true
 | .tup _=>true
 | .fn _ _=>true
 | .cond _ _=>true
 | _=>false
def SV.kG2 (ids:List Nat):SV→Bool
 | .agg cs=>cs.any (SV.leaf ids)
 |x=>x.leaf ids
def SV.refs (ids:List Nat):SV→Bool
 | .agg cs=>cs.any (SV.leaf ids)
 | .tup cs=>cs.any (SV.kG2 ids)
 | .fn _ cs=>cs.any (SV.leaf ids)
 | .cond _ x=>x.kG2 ids
 |x=>x.leaf ids
def Ob.refs (ids:List Nat):Ob→Bool
 | .sl _ _ _=>false
 | .box _ cs=>cs.any (SV.refs ids)
 | .mp _ _=>false
 | .dp _ _ _=>false
 | .dq _ _ _ _ cs=>cs.any (SV.refs ids)
def kKp (ids:List Nat) (fr:List (Nat×SV)):List Nat:=(fr.filter fun p=>p.2.refs ids).map (·.1)
def kKq (ids:List Nat) (hp:List (Nat×Ob)):List Nat:=ids++(hp.filter fun p=>p.2.refs ids).map (·.1)
def kIs {α:Type}(bad:List Nat) (l:List (Nat×α)):List (Nat×α):=match bad with
 | []=>l
 | _=>l.filter fun p=>!bad.contains p.1
def St.hide (ids:List Nat) (st:St):St:=match ids with
 | []=>st
 | _=>{ fr:=kIs (kKp ids st.fr) st.fr,hp:=kIs (kKq ids st.hp) st.hp }
theorem kC6 {ids:List Nat}{d:Nat}(hd:d∈ids) {x:SV}(h:x.leaf ids=false):x.kAw d=x:=by
 cases x with
 |own i =>
  simp only[SV.leaf]at h;simp only[SV.kAw];rw[if_neg];rintro rfl
  rw[jOa.2 hd]at h;cases h
 |ptr i s a b =>
  simp only[SV.leaf]at h;simp only[SV.kAw];rw[if_neg];rintro rfl
  rw[jOa.2 hd]at h;cases h
 |agg cs=>cases h
 |tup cs=>cases h
 |fn f cs=>cases h
 |cond g y=>cases h
 | _=>rfl
theorem any_false {f:SV→Bool}{cs:List SV}(h:cs.any f=false):∀c∈cs,f c=false:=by
 intro c hc;rw[List.any_eq_false]at h;simpa using h c hc
theorem kOu {f:SV→SV}{cs:List SV}(h:∀c∈cs,f c=c):cs.map f=cs:=by
 induction cs with
 |nil=>rfl
 |cons c l ih=>rw[jHi,h c jYt,ih fun c hc=>h c (jZr _ hc)]
theorem k1m {ids:List Nat}{d:Nat}(hd:d∈ids) {x:SV}(h:x.kG2 ids=false):x.up2 (SV.kAw d)=x:=by
 cases x with
 |agg cs=>simp only[SV.up2];rw[kOu fun c hc=>kC6 hd (any_false h c hc)]
 |v y=>exact kC6 (x:=.v y) hd h
 |sl a b=>exact kC6 (x:=.sl a b) hd h
 |own a=>exact kC6 (x:=.own a) hd h
 |ptr a b c e=>exact kC6 (x:=.ptr a b c e) hd h
 |kB6 a b c e=>exact kC6 (x:=.kB6 a b c e) hd h
 |tup cs=>exact kC6 (x:=.tup cs) hd h
 |fn f cs=>exact kC6 (x:=.fn f cs) hd h
 |cond g y=>exact kC6 (x:=.cond g y) hd h
 |kAh=>rfl
theorem kKt {ids:List Nat}{d:Nat}(hd:d∈ids) {x:SV}(h:x.refs ids=false):x.kill d=x:=by
 cases x with
 |agg cs=>simp only[SV.kill,SV.up];rw[kOu fun c hc=>kC6 hd (any_false h c hc)]
 |tup cs=>simp only[SV.kill,SV.up];rw[kOu fun c hc=>k1m hd (any_false h c hc)]
 |fn f cs=>simp only[SV.kill,SV.up];rw[kOu fun c hc=>kC6 hd (any_false h c hc)]
 |cond g y=>simp only[SV.kill,SV.up];rw[k1m hd h]
 |v y=>exact kC6 (x:=.v y) hd h
 |sl a b=>exact kC6 (x:=.sl a b) hd h
 |own a=>exact kC6 (x:=.own a) hd h
 |ptr a b c e=>exact kC6 (x:=.ptr a b c e) hd h
 |kB6 a b c e=>exact kC6 (x:=.kB6 a b c e) hd h
 |kAh=>rfl
theorem Ob.kKt {ids:List Nat}{d:Nat}(hd:d∈ids) {o:Ob}(h:o.refs ids=false):o.kill d=o:=by
 cases o with
 |sl e s rows=>rfl
 |mp e es=>rfl
 |dp e s rows=>rfl
 |dq e s rows i cs =>
  simp only[Ob.kill]
  rw[kOu (f:=SV.upq (SV.kill d)) fun c hc=>by
   have e1:=Go.Vc.kKt hd (any_false h c hc);unfold SV.upq;rw[e1]
   cases hs:c.kFl<;>simp]
 |box e cs=>simp only[Ob.kill];rw[kOu fun c hc=>Go.Vc.kKt hd (any_false h c hc)]
theorem kYo {α:Type}{bad:List Nat}{l:List (Nat×α)}{t:Nat}{x:α}(h:lk t (kIs bad l)=some x):lk t l=some x∧t∉bad:=by
 unfold kIs at h;split at h
 ·exact⟨h,zs⟩
 ·have h1:=kMl (fun t=>!bad.contains t) h
  refine⟨h1,fun hm=>?_⟩
  have:lk t (l.filter fun p=>!bad.contains p.1)=none:=kMl.kLc (fun t=>!bad.contains t) (by simp[hm])
  rw[this]at h;cases h
theorem kYp {ids:List Nat}{st:St}{t:Nat}{x:SV}(h:lk t (st.hide ids).fr=some x):lk t st.fr=some x∧∀d∈ids,x.kill d=x:=by
 unfold St.hide at h;split at h
 ·exact⟨h,zs⟩
 ·rename_i hne;obtain⟨h1,h2⟩:=kYo h;refine⟨h1,fun d hd=>kKt hd ?_⟩
  rw[wDu];intro hr;exact h2 (jCr.2 ⟨(t,x),vJn.2 ⟨kBf h1,hr⟩,rfl⟩)
theorem kQ0 {ids:List Nat}{st:St}{t:Nat}{x:Ob}(h:lk t (st.hide ids).hp=some x):lk t st.hp=some x∧∀d∈ids,d≠t∧x.kill d=x:=by
 unfold St.hide at h;split at h
 ·exact⟨h,zs⟩
 ·rename_i hne;obtain⟨h1,h2⟩:=kYo h;refine⟨h1,fun d hd=>⟨fun e=>h2 (jTf.2 (.inl (e▸hd))),Ob.kKt hd ?_⟩⟩
  rw[wDu];intro hr;exact h2 (jTf.2 (.inr (jCr.2 ⟨(t,x),vJn.2 ⟨kBf h1,hr⟩,rfl⟩)))
structure Fp where
 lks:List Nat
 anc:List Nat
 gx:List Nat
 av:List Nat
 gn:List Nat
 mks:List Nat
def deps (o:Oper):List Nat:=(o.after.toList.filter fun e=>Region.binds .any e).map (·.on)
def kAg (fl:List Fp) (i:Nat):Fp:=(fl[i]?).getD ⟨[],[],[],[],[],[]⟩
def kMo (ops:Array Oper) (m:Nat) (fl:List Fp) (p:Nat) (o:Oper):Bool :=
 ((deps o).all fun e=>decide (e<p)) &&
 ((kAg fl p).anc.all fun a=>(deps o).contains a || (deps o).any fun b=>(kAg fl b).anc.contains a) &&
 (if p<m then
  o.dst.isSome&&((o.looksAt ops).all fun t=>(kAg fl p).lks.contains t) &&
  ((List.range m).all fun k=>k==p || (kAp ops k != o.dst&&((kAg fl k).anc.contains p || (kAg fl k).gn.all fun d=>(kAg fl p).gx.contains d)&&((kAg fl p).anc.contains k || (kAg fl k).mks.all fun d=>(kAg fl p).av.contains d) &&
   ((kAg fl k).mks.all fun d=>!(kAg fl p).mks.contains d)))
 else(List.range p).all fun j=>(kAg fl p).anc.contains j)
def kQc (ops:Array Oper) (m:Nat) (fl:List Fp):Bool :=
 decide (m≤ops.size)&&(List.range ops.size).all fun p=>match ops[p]? with
  |none=>false
  |some o=>kMo ops m fl p o
structure kWe (ops:Array Oper) (m:Nat) (fl:List Fp):Prop where
 le:m≤ops.size
 back:∀(p:Nat) (o:Oper),ops[p]? = some o→∀e∈deps o,e<p
 anc:∀(p:Nat) (o:Oper),ops[p]? = some o→∀a∈(kAg fl p).anc,a∈deps o∨∃b∈deps o,a∈(kAg fl b).anc
 dst:∀(i:Nat) (o:Oper),i<m→ops[i]? = some o→∃d,o.dst=some d
 looks:∀(i:Nat) (o:Oper),i<m→ops[i]? = some o→∀t∈o.looksAt ops,t∈(kAg fl i).lks
 apart:∀(i k:Nat),i<m→k<m→i≠k→kAp ops k≠kAp ops i
 gx:∀(i k:Nat),i<m→k<m→k≠i→i∉(kAg fl k).anc→∀d∈(kAg fl k).gn,d∈(kAg fl i).gx
 av:∀(i k:Nat),i<m→k<m→k≠i→k∉(kAg fl i).anc→∀d∈(kAg fl k).mks,d∈(kAg fl i).av
 mks:∀(i k:Nat),i<m→k<m→k≠i→∀d∈(kAg fl k).mks,d∉(kAg fl i).mks
 tail:∀(p:Nat) (o:Oper),m≤p→ops[p]? = some o→∀j,j<p→j∈(kAg fl p).anc
theorem k7y {ops:Array Oper}{m:Nat}{fl:List Fp}(h:kQc ops m fl=true):kWe ops m fl:=by
 unfold kQc at h;rw[jBs,decide_eq_true_eq]at h;obtain⟨h0,h⟩:=h;rw[jDl]at h
 have key:∀(p:Nat) (o:Oper),ops[p]? = some o→kMo ops m fl p o=true:=fun p o ho=>by
  have hp:p<ops.size:=(vDw.1 ho).1;have:=h p (jKi.2 hp);rw[ho]at this;exact this
 have two:∀(i k:Nat),i<m→k<m→k≠i→∃o,ops[i]? = some o∧kAp ops k≠o.dst∧((kAg fl k).anc.contains i=true∨∀d∈(kAg fl k).gn,(kAg fl i).gx.contains d=true)∧((kAg fl i).anc.contains k=true∨∀d∈(kAg fl k).mks,(kAg fl i).av.contains d=true)∧∀d∈(kAg fl k).mks,(kAg fl i).mks.contains d=false:=by
  intro i k hi hk hne;have ho:ops[i]? = some (ops[i]'zo):=jVn zo;have:=key i _ ho;unfold kMo at this;rw[if_pos hi]at this;simp only[jBs,jDl]at this;have h3:=this.2.2 k (jKi.2 hk);simp only[jYk,beq_iff_eq,jBs,bne_iff_ne,jDl,jUs]at h3;rcases h3 with e|⟨⟨⟨a1,a2⟩,a3⟩,a4⟩
  ·exact absurd e hne
  ·exact⟨_,ho,a1,a2,a3,a4⟩
 refine⟨h0,fun p o ho e he=>?_,fun p o ho a ha=>?_,fun i o hi ho=>?_,fun i o hi ho t ht=>?_,fun i k hi hk hne=>?_,fun i k hi hk hne hn d hd=>?_,fun i k hi hk hne hn d hd=>?_,fun i k hi hk hne d hd hm=>?_,fun p o hp ho j hj=>?_⟩
 ·have:=key p o ho;unfold kMo at this;simp only[jBs,jDl]at this;simpa using this.1.1 e he
 ·have:=key p o ho;unfold kMo at this;simp only[jBs,jDl]at this;have:=this.1.2 a ha;simp only[jYk,vMn]at this;rcases this with h1|⟨b,h1,h2⟩
  ·exact .inl (jOa.1 h1)
  ·exact .inr ⟨b,h1,jOa.1 h2⟩
 ·have:=key i o ho;unfold kMo at this;rw[if_pos hi]at this;simp only[jBs]at this;exact vXz.1 this.2.1.1
 ·have:=key i o ho;unfold kMo at this;rw[if_pos hi]at this;simp only[jBs,jDl]at this;exact jOa.1 (this.2.1.2 t ht)
 ·obtain⟨o,ho,h1,_⟩:=two i k hi hk (Ne.symm hne);intro e;apply h1;rw[e];simp[kAp,ho]
 ·obtain⟨o,ho,_,h1,_⟩:=two i k hi hk hne;rcases h1 with h1|h1
  ·exact absurd (jOa.1 h1) hn
  ·exact jOa.1 (h1 d hd)
 ·obtain⟨o,ho,_,_,h1,_⟩:=two i k hi hk hne;rcases h1 with h1|h1
  ·exact absurd (jOa.1 h1) hn
  ·exact jOa.1 (h1 d hd)
 ·obtain⟨o,ho,_,_,_,h1⟩:=two i k hi hk hne;have:=h1 d hd;rw[jOa.2 hm]at this;cases this
 ·have:=key p o ho;unfold kMo at this;rw[if_neg zo]at this;simp only[jBs,jDl]at this;exact jOa.1 (this.2 j (jKi.2 hj))
abbrev Acc:=List (Nat×Nat×Dl)
def St.least (base:St) (acc:Acc) (f:Fp):St :=
 St.hide f.gx { fr:=((acc.filter fun e=>f.anc.contains e.1).map fun e=>(e.2.1,e.2.2.x))++base.fr,hp:=((acc.filter fun e=>f.anc.contains e.1).flatMap fun e=>e.2.2.made)++base.hp }
def St.clean (base:St) (ds mks:List Nat):St:=St.hide mks { fr:=kIs ds base.fr,hp:=base.hp }
def St.final (base:St) (acc:Acc) (gs:List Nat):St:=St.hide gs { fr:=(acc.map fun e=>(e.2.1,e.2.2.x))++base.fr,hp:=(acc.flatMap fun e=>e.2.2.made)++base.hp }
def kI4 (f:Fp) (δ:Dl):Prop:=δ.gone=f.gn∧δ.made.map (·.1)=f.mks∧δ.x.refs f.av=false∧(δ.made.all fun p=>!p.2.refs f.av)=true
def St.runF (tys:List (Nat×TyD)) (C:List (FuncId×Ctr)) (N:Nat) (ops:Array Oper) (fl:List Fp) (base:St):List Oper→Nat→Acc→(Acc→Prop)→Prop
 | [],_,acc,K=>K acc
 |o::l,i,acc,K=>∃d δ,(base.least acc (kAg fl i)).dlt tys C N ops o d δ∧((kAg fl i).lks.all fun t=>(lk t (base.least acc (kAg fl i)).fr).isSome)=true∧kI4 (kAg fl i) δ∧St.runF tys C N ops fl base l (i+1) (acc++[(i,d,δ)]) K
theorem kZ8 {tys:List (Nat×TyD)}{C:List (FuncId×Ctr)}{N:Nat}{ops:Array Oper}{fl:List Fp}{base:St}{K:Acc→Prop}:∀(l:List Oper) (i:Nat) (acc:Acc),St.runF tys C N ops fl base l i acc K →
  ∃F:Nat→Nat×Dl,K (acc++(List.range l.length).map fun k=>(i+k,F k))∧∀k o,l[k]? = some o →
   (base.least (acc++(List.range k).map fun q=>(i+q,F q)) (kAg fl (i+k))).dlt tys C N ops o (F k).1 (F k).2∧((kAg fl (i+k)).lks.all fun t=>(lk t (base.least (acc++(List.range k).map fun q=>(i+q,F q)) (kAg fl (i+k))).fr).isSome)=true∧kI4 (kAg fl (i+k)) (F k).2
 | [],i,acc,h=>⟨fun _=>(0,⟨.kAh,[],[]⟩),by simp only[jOy,List.range_zero,jRt,jSt];exact h,zs⟩
 |o::l,i,acc,h=>by
  obtain⟨d,δ,h1,h2,h3,h4⟩:=h;obtain⟨F,h5,h6⟩:=kZ8 l (i+1) _ h4
  have e:∀n,acc++[(i,d,δ)]++(List.range n).map (fun k=>(i+1+k,F k))=acc++(List.range (n+1)).map (fun k=>(i+k,(fun k=>match k with|0=>(d,δ)|k+1=>F k:Nat→Nat×Dl) k)):=fun n=>by
   rw[jPf];congr 1;rw[List.range_succ_eq_map,jHi,jRw];simp only[jRa,jIw,vVn];congr 1;exact vDr fun k _=>by simp only[Function.comp_apply,Nat.succ_eq_add_one];congr 1;omega
  refine⟨fun k=>match k with|0=>(d,δ)|k+1=>F k,?_,fun k q hq=>?_⟩
  ·rw[jGk,←e];exact h5
  ·cases k with
   |zero =>
    simp at hq;subst hq;simp only[List.range_zero,jRt,jSt,vVn]
    exact⟨h1,h2,h3⟩
   |succ k =>
    have:=h6 k q (by simpa using hq)
    rw[e]at this;have ei:i+1+k=i+(k+1):=zo;rw[ei]at this;exact this
theorem k1n {ops:Array Oper}{listed:Array Bool}{i:Nat}{o:Oper}(h3:∀e∈o.after,Region.binds .any e=true→listed.getD e.on false=true):∀e∈deps o,listed.getD e false=true:=by
 intro e he;obtain⟨q,hq,rfl⟩:=jCr.1 he;obtain⟨h1,h2⟩:=vJn.1 hq;exact h3 q (by simpa using h1) h2
theorem k1o {ops:Array Oper}{listed:Array Bool}{i:Nat}{o:Oper}(h3:∀e∈deps o,listed.getD e false=true):∀e∈o.after,Region.binds .any e=true→listed.getD e.on false=true:=fun e he hb =>
 h3 e.on (jCr.2 ⟨e,vJn.2 ⟨by simpa using he,hb⟩,rfl⟩)
def Closed (fl:List Fp) (n:Nat) (listed:Array Bool):Prop:=∀b,b<n→listed.getD b false=true→∀a∈(kAg fl b).anc,listed.getD a false=true
theorem Closed.anc {ops:Array Oper}{m:Nat}{fl:List Fp}(hB:kWe ops m fl) {listed:Array Bool}(hc:Closed fl ops.size listed) {i:Nat}{o:Oper}(ho:ops[i]? = some o) (h3:∀e∈o.after,Region.binds .any e=true→listed.getD e.on false=true) :
  ∀a∈(kAg fl i).anc,listed.getD a false=true:=fun a ha=>by
 have hi:i<ops.size:=(vDw.1 ho).1;rcases hB.anc i o ho a ha with h|⟨b,hb,h⟩
 ·exact k1n (i:=i) (ops:=ops) h3 a h
 ·have:=hB.back i o ho b hb;exact hc b zo (k1n (i:=i) (ops:=ops) h3 b hb) a h
theorem Closed.step {ops:Array Oper}{m:Nat}{fl:List Fp}(hB:kWe ops m fl) {listed:Array Bool}(hsz:listed.size=ops.size) (hc:Closed fl ops.size listed) {i:Nat}{o:Oper}(ho:ops[i]? = some o) (h3:∀e∈o.after,Region.binds .any e=true→listed.getD e.on false=true) :
  Closed fl ops.size (listed.setIfInBounds i true):=fun b hb hl a ha=>by
 have hi:i<ops.size:=(vDw.1 ho).1;rw[kBc _ _ _ _ zo]at hl⊢;split
 ·rfl
 ·by_cases hbi:b=i
  ·subst hbi;exact hc.anc hB ho h3 a ha
  ·rw[if_neg hbi]at hl;exact hc b hb hl a ha
@[go_sem] def fa (a b:List Nat):Fp:=⟨a,b,[],[],[],[]⟩
@[go_sem] def fb (b:List Nat):Fp:=⟨[],b,[],[],[],[]⟩
@[go_sem] def fc (a b d:List Nat):Fp:=⟨a,b,[],d,[],[]⟩
@[go_sem] def fn (n:Nat):Fp:=⟨[],List.range n,[],[],[],[]⟩
section
theorem kUv {st:St}{t:Nat}{x:SV}:∀{ids:List Nat},(∀d∈ids,x.kill d=x)→lk t st.fr=some x→lk t (st.kAl ids).fr=some x
 | [],_,h=>h
 |d::l,hk,h=>by
  have ih:=kUv (fun e he=>hk e (jZr _ he)) h
  simp only[St.kAl,St.kill,kCp,ih,jIn,hk d jYt]
theorem kTg {st:St}{t:Nat}{x:Ob}:∀{ids:List Nat},(∀d∈ids,d≠t∧x.kill d=x)→lk t st.hp=some x→lk t (st.kAl ids).hp=some x
 | [],_,h=>h
 |d::l,hk,h=>by
  have ih:=kTg (fun e he=>hk e (jZr _ he)) h
  have h1:=hk d jYt;rw[show St.kAl st (d::l)=(st.kAl l).kill d from rfl,kGu (Ne.symm h1.1),ih]
  simp only[jIn,h1.2]
theorem kUw {α β:Type}{t:Nat}{x:β}{g:α→List (Nat×β)}:∀{l:List α},lk t (l.flatMap g)=some x→∃e∈l,lk t (g e)=some x
 |e::l,h=>by
  rw[wDj,kC5]at h
  cases hq:lk t (g e)with
  |some y=>rw[hq]at h;cases h;exact⟨e,jYt,hq⟩
  |none =>
   rw[hq]at h;obtain⟨e',h1,h2⟩:=kUw (l:=l) h;exact⟨e',jZr _ h1,h2⟩
theorem k1r {α:Type}{t:Nat}{x:α}{l l2:List (Nat×α)}(h:lk t (l++l2)=some x):lk t l=some x∨lk t l2=some x:=by
 rw[kC5]at h
 cases hq:lk t l with
 |some y=>rw[hq]at h;cases h;exact .inl rfl
 |none=>rw[hq]at h;exact .inr h
section
variable {c:Cx}{N:Nat}{X0:Nat→Prop}{M:Nat→BV→Prop}{w0:World}{K:Exit→St→Prop}
theorem k48 (hAp:Ap c.P X0 M w0) {ops:Array Oper}{m:Nat}{fl:List Fp}(hB:kWe ops m fl):∀(fuel p:Nat) (listed:Array Bool) (st:St) (β:Nat→BV) (a:Act) (w:World),p+fuel=ops.size→m≤p→listed.size=ops.size→Closed fl ops.size listed →
  (∀j,j<ops.size→listed.getD j false=decide (j<p))→Sim N X0 M w0 st β a w→St.runR c.tys c.C N ops (ops.toList.drop p) st (K .normal) →
  wpAny c.P .any ops (fun e a' w'=>Ok N X0 M w0 (K e) a' w') fuel listed a w
 | 0,p,listed,st,β,a,w,hp,hm,hsz,hcl,hl,hs,hr=>by
  have hd:ops.toList.drop p=[]:=yCu (by simp;omega)
  rw[hd]at hr;refine⟨?_,st,β,hr,hs⟩;rw[yHa];intro i hi;obtain⟨h1,h2,_⟩:=kBw.1 hi;have h3:=hl i h1;rw[jMv]at h2 h3;rw[jVn zo]at h2 h3;simp only[jOj]at h2 h3;rw[h2]at h3;have:i<p:=zo
  simp[this]at h3
 |fuel+1,p,listed,st,β,a,w,hp,hm,hsz,hcl,hl,hs,hr=>by
  have hpl:p<ops.size:=zo
  have hgT:∀j,j<ops.size→listed.getD j true=decide (j<p):=fun j hj=>by
   have:=hl j hj;rw[jMv,jVn zo]at this⊢;exact this
  have ho:ops[p]? = some (ops[p]'hpl):=jVn hpl
  have kKr:p∈Region.ready .any ops listed:=kBw.2 ⟨hpl,by rw[hgT p hpl];simp,_,ho,k1o (i:=p) (ops:=ops) fun e he=>by
   have:=hB.back p _ ho e he;rw[hl e zo];simpa using this⟩
  refine⟨fun h=>(by rw[h]at kKr;cases kKr),fun i hi=>?_⟩
  obtain⟨h1,h2,o,hoi,h3⟩:=kBw.1 hi
  have hip:i=p:=by
   rw[hgT i h1]at h2;have hge:p≤i:=by simpa using h2
   rcases jFx p i with hlt|hle
   ·have:=hcl.anc hB hoi h3 p (hB.tail i o zo hoi p hlt);rw[hl p hpl]at this;simp at this
   ·omega
  subst hip
  have hdrop:ops.toList.drop i=o::ops.toList.drop (i+1):=by
   rw[wL4 (by simpa using hpl)]
   congr 1;rw[ho]at hoi;simpa using hoi
  rw[hdrop]at hr;have hst:=kCu (Q:=fun e a' w'=>Ok N X0 M w0 (K e) a' w') hAp c.hty c.hC hs (ops:=ops) hr
  have hnext:∀a' w',Ok N X0 M w0 (fun st'=>St.runR c.tys c.C N ops (ops.toList.drop (i+1)) st' (K .normal)) a' w'→wpAny c.P .any ops (fun e a' w'=>Ok N X0 M w0 (K e) a' w') fuel (listed.setIfInBounds i true) a' w':=fun a' w' hk=>by
   obtain⟨st',β',h4,h5⟩:=hk;refine k48 hAp hB fuel (i+1) _ st' β' a' w' zo zo (by simpa using hsz) (hcl.step hB hsz hoi h3) (fun j hj=>?_) h5 h4
   rw[kBc _ _ _ _ zo];by_cases hji:j=i
   ·subst hji;simp
   ·rw[if_neg hji,hl j hj];congr 1;apply propext;omega
  unfold wpOp;rw[hoi];simp only;split
  ·rename_i hw;rw[if_pos hw]at hst;exact .inl (Oper.wp_mono hnext hst)
  ·rename_i hw;rw[if_neg hw]at hst;exact hnext _ _ hst
theorem count_set {listed:Array Bool}{n i:Nat}(hsz:listed.size=n) (hi:i<n) (h2:listed.getD i false=false) :
  (List.range n).countP (fun j=>!listed.getD j false)=(List.range n).countP (fun j=>!(listed.setIfInBounds i true).getD j false)+1:=by
 have key:∀l:List Nat,l.Nodup→i∈l→l.countP (fun j=>!listed.getD j false)=l.countP (fun j=>!(listed.setIfInBounds i true).getD j false)+1:=by
  intro l hn hm
  induction l with
  |nil=>cases hm
  |cons q l ihl =>
   rw[vSb]at hn;simp only[List.countP_cons];rw[kBc _ _ _ _ zo];by_cases hq:q=i
   ·subst hq
    have hno:l.countP (fun j=>!listed.getD j false)=l.countP (fun j=>!(listed.setIfInBounds q true).getD j false):=by
     apply vOy;intro j hj;rw[kBc _ _ _ _ zo,if_neg (fun e=>hn.1 (by rw[←e];exact hj))]
    rw[h2,hno];simp
   ·have hm':i∈l:=by
     rcases jDr.1 hm with e|e
     ·exact absurd e.symm hq
     ·exact e
    rw[if_neg hq,ihl hn.2 hm'];omega
 exact key (List.range n) List.nodup_range (jKi.2 hi)
theorem k49 (hAp:Ap c.P X0 M w0) {ops:Array Oper}{m:Nat}{fl:List Fp}(hB:kWe ops m fl) {base:St}{F:Nat→Nat×Dl}{gs:List Nat}
  (hF:∀k o,k<m→ops[k]? = some o→(base.least ((List.range k).map fun q=>(q,F q)) (kAg fl k)).dlt c.tys c.C N ops o (F k).1 (F k).2∧((kAg fl k).lks.all fun t=>(lk t (base.least ((List.range k).map fun q=>(q,F q)) (kAg fl k)).fr).isSome)=true∧kI4 (kAg fl k) (F k).2)
  (hb1:∀t x,lk t base.fr=some x→(∀k,k<m→kAp ops k≠some t)∧∀k,k<m→∀d∈(kAg fl k).mks,x.kill d=x)
  (hb2:∀id ob,lk id base.hp=some ob→∀k,k<m→∀d∈(kAg fl k).mks,d≠id∧ob.kill d=ob) (hgs:∀k,k<m→∀d∈(kAg fl k).gn,d∈gs)
  (hr:St.runR c.tys c.C N ops (ops.toList.drop m) (base.final ((List.range m).map fun q=>(q,F q)) gs) (K .normal)):∀(fuel:Nat) (listed:Array Bool) (st':St) (β:Nat→BV) (a:Act) (w:World),listed.size=ops.size →
  (∀j,m≤j→j<ops.size→listed.getD j false=false)→fuel=(List.range ops.size).countP (fun j=>!listed.getD j false)→Closed fl ops.size listed→Sim N X0 M w0 st' β a w →
  (∀t x,lk t base.fr=some x→(∀d,(∃j,j<m∧listed.getD j false=true∧d∈(kAg fl j).gn)→x.kill d=x)→lk t st'.fr=some x) →
  (∀k,k<m→listed.getD k false=true→(∀d,(∃j,j<m∧listed.getD j false=true∧d∈(kAg fl j).gn)→(F k).2.x.kill d=(F k).2.x)→lk (F k).1 st'.fr=some (F k).2.x) →
  (∀id ob,lk id base.hp=some ob→(∀d,(∃j,j<m∧listed.getD j false=true∧d∈(kAg fl j).gn)→d≠id∧ob.kill d=ob)→lk id st'.hp=some ob) →
  (∀k,k<m→listed.getD k false=true→∀id ob,lk id (F k).2.made=some ob→(∀d,(∃j,j<m∧listed.getD j false=true∧d∈(kAg fl j).gn)→d≠id∧ob.kill d=ob)→lk id st'.hp=some ob) →
  wpAny c.P .any ops (fun e a' w'=>Ok N X0 M w0 (K e) a' w') fuel listed a w:=by
 have hdst:∀k,k<m→kAp ops k=some (F k).1:=fun k hk=>by
  have hks:k<ops.size:=by have:=hB.le;omega
  have ho:ops[k]? = some (ops[k]'hks):=jVn hks;have:=(hF k _ hk ho).1.1;unfold kAp;rw[ho];exact this
 have hlast:∀(fuel:Nat) (listed:Array Bool) (st':St) (β:Nat→BV) (a:Act) (w:World),m+fuel=ops.size→listed.size=ops.size→Closed fl ops.size listed→(∀j,j<ops.size→listed.getD j false=decide (j<m))→Sim N X0 M w0 st' β a w →
   (∀t x,lk t base.fr=some x→(∀d,(∃j,j<m∧listed.getD j false=true∧d∈(kAg fl j).gn)→x.kill d=x)→lk t st'.fr=some x) →
   (∀k,k<m→listed.getD k false=true→(∀d,(∃j,j<m∧listed.getD j false=true∧d∈(kAg fl j).gn)→(F k).2.x.kill d=(F k).2.x)→lk (F k).1 st'.fr=some (F k).2.x) →
   (∀id ob,lk id base.hp=some ob→(∀d,(∃j,j<m∧listed.getD j false=true∧d∈(kAg fl j).gn)→d≠id∧ob.kill d=ob)→lk id st'.hp=some ob) →
   (∀k,k<m→listed.getD k false=true→∀id ob,lk id (F k).2.made=some ob→(∀d,(∃j,j<m∧listed.getD j false=true∧d∈(kAg fl j).gn)→d≠id∧ob.kill d=ob)→lk id st'.hp=some ob) →
   wpAny c.P .any ops (fun e a' w'=>Ok N X0 M w0 (K e) a' w') fuel listed a w:=by
  intro fuel listed st' β a w hfu hsz hcl hl hs I1 I2 I3 I4;refine k48 (c:=c) hAp hB fuel m listed _ β a w hfu (jDu _) hsz hcl hl (hs.less (st':=base.final ((List.range m).map fun q=>(q,F q)) gs) (fun t x hx=>?_) (fun id ob hx=>?_)) hr
  ·obtain⟨h1,h2⟩:=kYp hx;have hG:∀d,(∃j,j<m∧listed.getD j false=true∧d∈(kAg fl j).gn)→x.kill d=x:=fun d ⟨j,hj,_,hd⟩=>h2 d (hgs j hj d hd)
   rcases k1r h1 with h1|h1
   ·have hm:=kBf h1;simp only[jRw,jCr,jKi,Function.comp_apply]at hm;obtain⟨k,hk,e⟩:=hm
    injection e with e1 e2
    subst e1 e2;exact I2 k hk (by rw[hl k (by have:=hB.le;omega)];simpa using hk) hG
   ·exact I1 t x h1 hG
  ·obtain⟨h1,h2⟩:=kQ0 hx;have hG:∀d,(∃j,j<m∧listed.getD j false=true∧d∈(kAg fl j).gn)→d≠id∧ob.kill d=ob:=fun d ⟨j,hj,_,hd⟩=>h2 d (hgs j hj d hd)
   rcases k1r h1 with h1|h1
   ·obtain⟨e,he,h3⟩:=kUw h1;obtain⟨k,hk,rfl⟩:=jCr.1 he;have hk:=jKi.1 hk;exact I4 k hk (by rw[hl k (by have:=hB.le;omega)];simpa using hk) id ob h3 hG
   ·exact I3 id ob h1 hG
 intro fuel
 induction fuel with
 |zero =>
  intro listed st' β a w hsz kS9 hf hcl hs I1 I2 I3 I4
  have hall:∀j,j<ops.size→listed.getD j false=true:=fun j hj=>by
   have:(List.range ops.size).countP (fun j=>!listed.getD j false)=0:=hf.symm
   rw[List.countP_eq_zero]at this;have:=this j (jKi.2 hj);simpa using this
  have hm:m=ops.size:=by
   rcases jFx m ops.size with h|h
   ·have:=hall m h;rw[kS9 m (jDu _) h]at this;cases this
   ·have:=hB.le;omega
  exact hlast 0 listed st' β a w zo hsz hcl (fun j hj=>by rw[hall j hj];simp;omega) hs I1 I2 I3 I4
 |succ fuel ih =>
  intro listed st' β a w hsz kS9 hf hcl hs I1 I2 I3 I4
  have hgT:∀j,j<ops.size→listed.getD j true=listed.getD j false:=fun j hj=>by
   rw[jMv,jMv,jVn zo];rfl
  have hex:∃p,p<ops.size∧listed.getD p false=false:=by
   have h1:0<(List.range ops.size).countP (fun j=>!listed.getD j false):=zo
   obtain⟨p,hp,hq⟩:=List.countP_pos_iff.1 h1;exact⟨p,jKi.1 hp,by simpa using hq⟩
  obtain⟨p,⟨hp,hpf⟩,hmin⟩:=least hex
  have kKr:p∈Region.ready .any ops listed:=kBw.2 ⟨hp,by rw[hgT p hp];exact hpf,_,jVn hp,k1o (i:=p) (ops:=ops) fun e he=>by
   have hlt:=hB.back p _ (jVn hp) e he
   cases hh:listed.getD e false with
   |true=>rfl
   |false=>have:=hmin e ⟨zo,hh⟩;omega⟩
  have hwhole:(∀j,j<m→listed.getD j false=true)→wpAny c.P .any ops (fun e a' w'=>Ok N X0 M w0 (K e) a' w') (fuel+1) listed a w:=fun kT2=>by
   have hl:∀j,j<ops.size→listed.getD j false=decide (j<m):=fun j hj=>by
    rcases jFx j m with h|h
    ·rw[kT2 j h];simp[h]
    ·rw[kS9 j h hj];simp;omega
   have hcount:fuel+1=ops.size-m:=by
    rw[hf]
    have:(List.range ops.size).countP (fun j=>!listed.getD j false)=(List.range ops.size).countP (fun j=>decide (m≤j)):=by
     apply vOy;intro j hj;rw[hl j (jKi.1 hj)];simp
    rw[this]
    have key:∀n,(List.range n).countP (fun j=>decide (m≤j))=n-m:=by
     intro n
     induction n with
     |zero=>simp
     |succ n ihn =>
      rw[wDe,List.countP_append,ihn];by_cases hh:m≤n
      ·simp[hh];omega
      ·simp[hh];omega
    exact key _
   exact hlast (fuel+1) listed st' β a w (by have:=hB.le;omega) hsz hcl hl hs I1 I2 I3 I4
  refine⟨fun h=>(by rw[h]at kKr;cases kKr),fun i hi=>?_⟩
  obtain⟨h1,h2,o,hoi,h3⟩:=kBw.1 hi;rw[hgT i h1]at h2;rcases jFx i m with him|him
  ·-- one of the first m
   obtain⟨hd,hlks,hok⟩:=hF i o him hoi;have hanc:=hcl.anc hB hoi h3
   have hGx:∀d,(∃j,j<m∧listed.getD j false=true∧d∈(kAg fl j).gn)→d∈(kAg fl i).gx:=fun d ⟨j,hj,hlj,hd⟩ =>
    hB.gx i j him hj (fun e=>by subst e;rw[h2]at hlj;cases hlj) (fun ha=>by have:=hcl j (by have:=hB.le;omega) hlj i ha;rw[h2]at this;cases this) d hd
   have hWf:∀t x,lk t (base.least ((List.range i).map fun q=>(q,F q)) (kAg fl i)).fr=some x→lk t st'.fr=some x:=fun t x hx=>by
    obtain⟨e1,e2⟩:=kYp hx;have hG:∀d,(∃j,j<m∧listed.getD j false=true∧d∈(kAg fl j).gn)→x.kill d=x:=fun d hd=>e2 d (hGx d hd)
    rcases k1r e1 with e1|e1
    ·have hm:=kBf e1;obtain⟨e,he,e3⟩:=jCr.1 hm;obtain⟨he1,he2⟩:=vJn.1 he;obtain⟨k,hk,rfl⟩:=jCr.1 he1
     injection e3 with e4 e5
     subst e4 e5;exact I2 k (by have:=jKi.1 hk;omega) (hanc k (jOa.1 he2)) hG
    ·exact I1 t x e1 hG
   have hWh:∀id ob,lk id (base.least ((List.range i).map fun q=>(q,F q)) (kAg fl i)).hp=some ob→lk id st'.hp=some ob:=fun id ob hx=>by
    obtain⟨e1,e2⟩:=kQ0 hx;have hG:∀d,(∃j,j<m∧listed.getD j false=true∧d∈(kAg fl j).gn)→d≠id∧ob.kill d=ob:=fun d hd=>e2 d (hGx d hd)
    rcases k1r e1 with e1|e1
    ·obtain⟨e,he,e3⟩:=kUw e1;obtain⟨he1,he2⟩:=vJn.1 he;obtain⟨k,hk,rfl⟩:=jCr.1 he1;exact I4 k (by have:=jKi.1 hk;omega) (hanc k (jOa.1 he2)) id ob e3 hG
    ·exact I3 id ob e1 hG
   have hd':st'.dlt c.tys c.C N ops o (F i).1 (F i).2:=qK4 (fun t ht=>by
    have:=jDl.1 hlks t (hB.looks i o him hoi t ht);obtain⟨x,hx⟩:=vXz.1 this;unfold St.get;rw[hx,hWf t x hx]) hWh hd
   have hst:=qHp (Q:=fun e a' w'=>Ok N X0 M w0 (K e) a' w') hAp c.hty c.hC hs (ops:=ops) hd'
   obtain⟨k1,k2,k3,k4⟩:=hok;have hids:(F i).2.ids=(kAg fl i).mks++(kAg fl i).gn:=by unfold Dl.ids;rw[k1,k2]
   have hmade:∀id,id∉(kAg fl i).mks→lk id (F i).2.made=none:=fun id hid=>kOs (by rw[k2];exact hid)
   have havk:∀k,k<m→k≠i→listed.getD k false=true→∀d∈(kAg fl i).mks,d∈(kAg fl k).av:=fun k hk hne hlk d hd =>
    hB.av k i hk him (Ne.symm hne) (fun ha=>by have:=hcl k (by have:=hB.le;omega) hlk i ha;rw[h2]at this;cases this) d hd
   have hG':∀{Q:Nat→Prop},(∀d,(∃j,j<m∧(listed.setIfInBounds i true).getD j false=true∧d∈(kAg fl j).gn)→Q d)→(∀d,(∃j,j<m∧listed.getD j false=true∧d∈(kAg fl j).gn)→Q d)∧∀d∈(kAg fl i).gn,Q d:=fun{Q} hq =>
    ⟨fun d ⟨j,hj,hlj,hd⟩=>hq d ⟨j,hj,by rw[kBc _ _ _ _ zo];split<;>first|rfl|exact hlj,hd⟩,fun d hd=>hq d ⟨i,him,by rw[kBc _ _ _ _ zo,if_pos rfl],hd⟩⟩
   have hnext:∀a' w',Ok N X0 M w0 (fun st2=>st2=st'.kMf (F i).1 (F i).2) a' w'→wpAny c.P .any ops (fun e a' w'=>Ok N X0 M w0 (K e) a' w') fuel (listed.setIfInBounds i true) a' w':=fun a' w' hk=>by
    obtain⟨st2,β',rfl,h5⟩:=hk;refine ih _ _ β' a' w' (by simpa using hsz) (fun j hj hjn=>?_) ?_ (hcl.step hB hsz hoi h3) h5 (fun t x hx hG=>?_) (fun k hk hlk hG=>?_) (fun id ob hx hG=>?_) (fun k hk hlk id ob hx hG=>?_)
    ·rw[kBc _ _ _ _ zo,if_neg zo];exact kS9 j hj hjn
    ·have:=count_set hsz h1 h2;omega
    ·obtain⟨g1,g2⟩:=hG' hG;obtain⟨q1,q2⟩:=hb1 t x hx;have hne:t≠(F i).1:=fun e=>q1 i him (by rw[hdst i him,e])
     simp only[St.kMf,lk,if_neg hne,kAt hne];refine kUv (fun d hd=>?_) (I1 t x hx g1)
     rw[hids]at hd;rcases jTf.1 hd with h|h
     ·exact q2 i him d h
     ·exact g2 d h
    ·obtain⟨g1,g2⟩:=hG' hG;by_cases hki:k=i
     ·subst hki;simp[St.kMf,lk]
     ·rw[kBc _ _ _ _ zo,if_neg hki]at hlk;have hne:(F k).1≠(F i).1:=fun e=>hB.apart i k him hk (Ne.symm hki) (by rw[hdst i him,hdst k hk,e])
      simp only[St.kMf,lk,if_neg hne,kAt hne];refine kUv (fun d hd=>?_) (I2 k hk hlk g1)
      rw[hids]at hd;rcases jTf.1 hd with h|h
      ·have hks:k<ops.size:=by have:=hB.le;omega
       exact kKt (havk k hk hki hlk d h) (hF k _ hk (jVn hks)).2.2.2.2.1
      ·exact g2 d h
    ·obtain⟨g1,g2⟩:=hG' hG;have q:=hb2 id ob hx i him;have hnm:id∉(kAg fl i).mks:=fun hin=>(q id hin).1 rfl
     show lk id ((F i).2.made++_)=_
     rw[kC5,hmade id hnm];refine kTg (fun d hd=>?_) (I3 id ob hx g1)
     rw[hids]at hd;rcases jTf.1 hd with h|h
     ·exact q d h
     ·exact g2 d h
    ·obtain⟨g1,g2⟩:=hG' hG;show lk id ((F i).2.made++_)=_
     by_cases hki:k=i
     ·subst hki;rw[kC5,hx];rfl
     ·rw[kBc _ _ _ _ zo,if_neg hki]at hlk;have hks:k<ops.size:=by have:=hB.le;omega
      have hokk:=(hF k _ hk (jVn hks)).2.2;have hidk:id∈(kAg fl k).mks:=by rw[←hokk.2.1];exact jCr.2 ⟨(id,ob),kBf hx,rfl⟩
      have hnm:id∉(kAg fl i).mks:=hB.mks i k him hk hki id hidk;rw[kC5,hmade id hnm];refine kTg (fun d hd=>?_) (I4 k hk hlk id ob hx g1)
      rw[hids]at hd;rcases jTf.1 hd with h|h
      ·refine⟨fun e=>hnm (e▸h),Ob.kKt (havk k hk hki hlk d h) ?_⟩
       have:=jDl.1 hokk.2.2.2 (id,ob) (kBf hx);simpa using this
      ·exact g2 d h
   unfold wpOp;rw[hoi];simp only;split
   ·rename_i hw;rw[if_pos hw]at hst;exact .inl (Oper.wp_mono hnext hst)
   ·rename_i hw;rw[if_neg hw]at hst;exact hnext _ _ hst
  ·-- all of the first m have come up
   exact(hwhole fun j hj=>hcl.anc hB hoi h3 j (hB.tail i o him hoi j zo)).2 i hi
theorem WP.flow {id:Nat}{l:List Oper}{st:St}(m:Nat) (fl:List Fp) (ds mks gs:List Nat) (hB:kQc l.toArray m fl=true)
  (hD:((List.range m).all fun k=>match kAp l.toArray k with|some d=>ds.contains d|none=>false)=true)
  (hM:((List.range m).all fun k=>((kAg fl k).mks.all fun d=>mks.contains d)&&((kAg fl k).gn.all fun d=>gs.contains d))=true) (hm:c.P.follows .mixedOrders=true)
  (h:St.runF c.tys c.C N l.toArray fl (st.clean ds mks) (l.take m) 0 [] fun acc=>St.runR c.tys c.C N l.toArray (l.drop m) ((st.clean ds mks).final acc gs) (K .normal)):WP c N X0 M w0 (.region id l.toArray true) st K:=by
 intro hA β a w hs;have hD0:=k7y hB;obtain⟨F,h1,h2⟩:=kZ8 _ _ _ h
 have hlen:(l.take m).length=m:=by
  have:=hD0.le;simp at this⊢;omega
 rw[hlen]at h1;simp only[jIw,vKy]at h1 h2
 have hcl0:∀t x,lk t (st.clean ds mks).fr=some x→lk t st.fr=some x∧t∉ds∧∀d∈mks,x.kill d=x:=fun t x hx=>by
  obtain⟨e1,e2⟩:=kYp hx;obtain⟨e3,e4⟩:=kYo e1;exact⟨e3,e4,e2⟩
 have hMk:∀k,k<m→(∀d∈(kAg fl k).mks,d∈mks)∧∀d∈(kAg fl k).gn,d∈gs:=fun k hk=>by
  have:=jDl.1 hM k (jKi.2 hk);simp only[jBs,jDl]at this;exact⟨fun d hd=>jOa.1 (this.1 d hd),fun d hd=>jOa.1 (this.2 d hd)⟩
 refine wp_region_any hm (k49 (c:=c) (K:=K) hA hD0 (base:=st.clean ds mks) (F:=F) (gs:=gs) (fun k o hk ho=>?_) (fun t x hx=>⟨fun k hk e=>?_,fun k hk d hd=>(hcl0 t x hx).2.2 d ((hMk k hk).1 d hd)⟩) (fun t ob hx k hk d hd=>(kQ0 hx).2 d ((hMk k hk).1 d hd)) (fun k hk=>(hMk k hk).2) ?_
  l.toArray.size (Array.replicate l.toArray.size false) (st.clean ds mks) β a _ zs (fun j _ hj=>?_) ?_ (fun b hb hl=>?_) ?_ (fun t x hx _=>hx) (fun k hk hl=>?_) (fun t ob hx _=>hx) (fun k hk hl=>?_))
 ·have:(l.take m)[k]? = some o:=by rw[jYq hk];simpa using ho
  exact h2 k o this
 ·have:=jDl.1 hD k (jKi.2 hk);rw[e]at this;exact(hcl0 t x hx).2.1 (jOa.1 this)
 ·exact h1
 ·rw[jMv,vBc];split<;>rfl
 ·have:(List.range l.toArray.size).countP (fun j=>!(Array.replicate l.toArray.size false).getD j false)=(List.range l.toArray.size).countP (fun _=>true):=by
   apply vOy;intro j hj;rw[jMv,vBc];split<;>simp
  rw[this];simp
 ·rw[jMv,vBc]at hl;split at hl<;>cases hl
 ·exact(hs.grow ((vVj _ _).drew) (fun b _ hb=>.inl hb) hs.x0).less (fun t x hx=>(hcl0 t x hx).1) (fun t ob hx=>(kQ0 hx).1)
 ·rw[jMv,vBc]at hl;split at hl<;>cases hl
 ·rw[jMv,vBc]at hl;split at hl<;>cases hl
end
end
section
def kGh (x:SV) (p q:Prop):Prop:=match x with
 | .v (.bool b)=>(b=true→p)∧(b=false→q)
 | _=>False
section
variable {c:Cx}{N:Nat}{X0:Nat→Prop}{M:Nat→BV→Prop}{w0:World}{st:St}{K:Exit→St→Prop}
theorem zC {x:Operand}{p q:Code}(h:kGh (st.ev x) (WP c N X0 M w0 p st K) (WP c N X0 M w0 q st K)):WP c N X0 M w0 (.cond x p q) st K:=by
 unfold kGh at h;split at h
 ·rename_i b hb;exact WP.cond hb h.1 h.2
 ·exact h.elim
end
def kGw (tys:List (Nat×TyD)) (o:Oper):SV:=match lk o.type tys with
 |some d=>match d.z with
  | [z]=>.v z
  | _=>.kAh
 |none=>.kAh
def St.kDc (tys:List (Nat×TyD)) (C:List (FuncId×Ctr)) (N:Nat) (ops:Array Oper) (o:Oper) (st:St) (K:SV→Prop):Prop :=
 kAq N o.dst=true∧match o.guard with
 |none=>(match o.op with
  | .call c=>(match c.callee with
   | .value x=>(match st.kD2 (o.dst.getD 0) C c x with
    |some (ob,r)=>ob∧K r
    |none=>False)
   | _=>(match st.pr tys (.call c)with
    |some (ob,r)=>ob∧K r
    |none=>False))
  |op=>(match st.pr tys op with
   |some (ob,r)=>ob∧K r
   |none=>False))
 |some (j,want)=>match(ops[j]?).bind (·.dst)with
  |some t=>(match kCq want (st.get t)with
   |some c=>(match o.op with
    | .call cl=>(match cl.callee with
     | .value x=>(match st.kD2 (o.dst.getD 0) C cl x with
      |some (ob,r)=>(c=true→ob)∧K (kA4 c r)
      |none=>c=false∧K (kA4 c (kGw tys o)))
     | _=>(match st.pr tys (.call cl)with
      |some (ob,r)=>(c=true→ob)∧K (kA4 c r)
      |none=>c=false∧K (kA4 c (kGw tys o))))
    |op=>(match st.pr tys op with
     |some (ob,r)=>(c=true→ob)∧K (kA4 c r)
     |none=>c=false∧K (kA4 c (kGw tys o))))
   |none=>False)
  |none=>False
def St.kH1 (tys:List (Nat×TyD)) (C:List (FuncId×Ctr)) (N:Nat) (ops:Array Oper):List Oper→St→(St→Prop)→Prop
 | [],st,K=>K st
 |o::l,st,K=>st.kDc tys C N ops o fun x=>St.kH1 tys C N ops l (st.put o.dst x) K
theorem kSl {tys:List (Nat×TyD)}{C:List (FuncId×Ctr)}{N:Nat}{ops:Array Oper}{o:Oper}{st:St}{K:SV→Prop}(h:st.kDc tys C N ops o K):∃x,st.val tys C N ops o x∧K x:=by
 obtain⟨hd,h⟩:=h
 have prU:∀{op},(match st.pr tys op with|some (ob,r)=>ob∧K r|none=>False)→∃x,(∃ob,st.pr tys op=some (ob,x)∧ob)∧K x:=fun{op} h=>by
  split at h
  ·rename_i ob r hp;exact⟨r,⟨ob,hp,h.1⟩,h.2⟩
  ·exact h.elim
 have prG:∀{op}{g:Bool},(match st.pr tys op with|some (ob,r)=>(g=true→ob)∧K (kA4 g r)|none=>g=false∧K (kA4 g (kGw tys o)))→(∃x,(∃ob r,st.pr tys op=some (ob,r)∧x=kA4 g r∧(g=true→ob))∧K x)∨(g=false∧K (kA4 g (kGw tys o))):=fun{op g} h=>by
  split at h
  ·rename_i ob r hp;exact .inl ⟨_,⟨ob,r,hp,rfl,h.1⟩,h.2⟩
  ·exact .inr h
 cases hg:o.guard with
 |none =>
  rw[hg]at h;simp only at h;have hval:∀{x},st.kZ4 tys C o x→st.val tys C N ops o x:=fun{x} hx=>.inl ⟨hd,by rw[hg];exact hx⟩
  cases ho:o.op with
  |call c =>
   rw[ho]at h
   cases hc:c.callee with
   |value y =>
    simp only[hc]at h;split at h
    case h_2=>exact h.elim
    case h_1 _ ob res hcf =>
    exact⟨res,hval (by unfold St.kZ4;rw[ho];simp only[hc];exact⟨ob,hcf,h.1⟩),h.2⟩
   | _ =>
    simp only[hc]at h;obtain⟨x,h1,h2⟩:=prU h
    exact⟨x,hval (by unfold St.kZ4;rw[ho];simp only[hc];exact h1),h2⟩
  | _ =>
   rw[ho]at h;obtain⟨x,h1,h2⟩:=prU (op:=o.op) (by rw[ho];exact h)
   rw[ho]at h1
   exact⟨x,hval (by unfold St.kZ4;rw[ho];exact h1),h2⟩
 |some gw =>
  obtain⟨j,want⟩:=gw;rw[hg]at h;simp only at h
  cases ht:(ops[j]?).bind (·.dst)with
  |none=>rw[ht]at h;exact h.elim
  |some t =>
   rw[ht]at h;simp only at h;split at h
   case h_2=>exact h.elim
   case h_1 _ cc hcc =>
    have hval:∀{x},st.kZ3 tys C cc o x→st.val tys C N ops o x:=fun{x} hx=>.inl ⟨hd,by rw[hg];simp only[ht,hcc];exact hx⟩
    have hoff:cc=false→K (kA4 cc (kGw tys o))→∃x,st.val tys C N ops o x∧K x:=fun h1 h2=>by
     subst h1;exact⟨_,.inr ⟨hd,⟨_,rfl⟩,by rw[hg];simp only[ht,hcc]⟩,h2⟩
    cases ho:o.op with
    |call c =>
     rw[ho]at h
     cases hc:c.callee with
     |value y =>
      simp only[hc]at h;split at h
      case h_2=>exact hoff h.1 h.2
      case h_1 _ ob res hcf =>
      exact⟨_,hval (by unfold St.kZ3;rw[ho];simp only[hc];exact⟨ob,res,hcf,rfl,h.1⟩),h.2⟩
     | _ =>
      simp only[hc]at h;rcases prG h with⟨x,h1,h2⟩|⟨h1,h2⟩
      ·exact⟨x,hval (by unfold St.kZ3;rw[ho];simp only[hc];exact h1),h2⟩
      ·exact hoff h1 h2
    | _ =>
     rw[ho]at h;rcases prG (op:=o.op) (by rw[ho];exact h)with⟨x,h1,h2⟩|⟨h1,h2⟩
     ·rw[ho]at h1;exact⟨x,hval (by unfold St.kZ3;rw[ho];exact h1),h2⟩
     ·exact hoff h1 h2
theorem kV8 {tys:List (Nat×TyD)}{C:List (FuncId×Ctr)}{N:Nat}{ops:Array Oper}{K:St→Prop}:∀(l:List Oper) {st:St},St.kH1 tys C N ops l st K→St.runV tys C N ops l st K
 | [],st,h=>h
 |o::l,st,h=>by
  obtain⟨x,h1,h2⟩:=kSl h;exact⟨x,h1,kV8 l h2⟩
theorem zD {c:Cx}{N:Nat}{X0:Nat→Prop}{M:Nat→BV→Prop}{w0:World}{K:Exit→St→Prop}{id:Nat}{l:List Oper}{st:St}(m:Nat) (hB:kSj l.toArray m=true) (hm:c.P.follows .mixedOrders=true)
  (h:St.kH1 c.tys c.C N l.toArray (l.take m) st fun st'=>St.runR c.tys c.C N l.toArray (l.drop m) st' (K .normal)):WP c N X0 M w0 (.region id l.toArray true) st K :=
 WP.draw m hB hm (kV8 _ h)
structure Cn (P:Program) (f:FuncId) (ctr:Ctr):Prop where
 call:kMd P f
 holds:∀d args,(ctr.pure d args).1→Holds P f args (ctr.pure d args).2.1 (ctr.pure d args).2.2
 kV4:∀d args obs,(ctr.wri d args obs).1→kI7 P f args obs (ctr.wri d args obs).2.1 (ctr.wri d args obs).2.2.1 (ctr.wri d args obs).2.2.2
theorem COk.nil (P:Program):COk P []:=⟨fun f c h=>(by cases h),fun f c h=>(by cases h),fun f c h=>(by cases h)⟩
theorem COk.cons {P:Program}{f:FuncId}{ctr:Ctr}{C:List (FuncId×Ctr)}(h:Cn P f ctr) (hC:COk P C):COk P ((f,ctr)::C) where
 call:=fun g c hg=>by
  simp only[lk]at hg;by_cases he:g=f
  ·subst he;exact h.call
  ·rw[if_neg he]at hg;exact hC.call g c hg
 holds:=fun g c hg=>by
  simp only[lk]at hg;by_cases he:g=f
  ·subst he;rw[if_pos rfl]at hg;cases hg;exact h.holds
  ·rw[if_neg he]at hg;exact hC.holds g c hg
 kV4:=fun g c hg=>by
  simp only[lk]at hg;by_cases he:g=f
  ·subst he;rw[if_pos rfl]at hg;cases hg;exact h.kV4
  ·rw[if_neg he]at hg;exact hC.kV4 g c hg
def pur {X:Type}(dec:List SV→X) (A:X→List SV) (pre:X→Prop) (res:Nat→X→SV) (kAb:Nat→X→List (Nat×Ob)):Ctr :=
 {pure:=fun d args=>(args=A (dec args)∧pre (dec args),res d (dec args),kAb d (dec args)) }
def len {X:Type}(kBq move:List Nat) (dec:List SV→List (Nat×Ob)→X) (A:X→List SV) (B:X→List (Nat×Ob)) (pre:X→Prop) (res:Nat→X→SV) (kAb:Nat→X→List (Nat×Ob)) (kept:X→List (Nat×Ob)):Ctr :=
 {kBq:=kBq,move:=move,wri:=fun d args obs=>(args=A (dec args obs)∧obs=B (dec args obs)∧d<900000∧pre (dec args obs),res d (dec args obs),kAb d (dec args obs),kept (dec args obs)) }
theorem Cn.pur {P:Program}{f:FuncId}{X:Type}{dec:List SV→X}{A:X→List SV}{pre:X→Prop}{res:Nat→X→SV}{kAb:Nat→X→List (Nat×Ob)}{fn:Func}{code:Code}(hf:P.funcs[f]? = some fn) (hn:(fn.name == "runtime.NumGoroutine")=false) (hb:fn.body=some code)
  (h:∀d x,pre x→Holds P f (A x) (res d x) (kAb d x)):Cn P f (pur dec A pre res kAb) :=
 ⟨⟨fn,hf,hn,by rw[hb];rfl⟩,fun d args ha=>(by have:=h d (dec args) ha.2;rw[←ha.1]at this;exact this),fun _ _ _ h=>h.elim⟩
theorem Cn.len {P:Program}{f:FuncId}{X:Type}{kBq move:List Nat}{dec:List SV→List (Nat×Ob)→X}{A:X→List SV}{B:X→List (Nat×Ob)}{pre:X→Prop}{res:Nat→X→SV}{kAb:Nat→X→List (Nat×Ob)}{kept:X→List (Nat×Ob)}{fn:Func}{code:Code}
  (hf:P.funcs[f]? = some fn) (hn:(fn.name == "runtime.NumGoroutine")=false) (hb:fn.body=some code) (h:∀d x, d<900000→pre x→kI7 P f (A x) (B x) (res d x) (kAb d x) (kept x)):Cn P f (len kBq move dec A B pre res kAb kept) :=
 ⟨⟨fn,hf,hn,by rw[hb];rfl⟩,fun _ _ h=>h.elim,fun d args obs ha=>by
  have:=h d (dec args obs) ha.2.2.1 ha.2.2.2;rw[←ha.1,←ha.2.1]at this;exact this⟩
def aI (args:List SV) (i:Nat):Int:=match args[i]? with
 |some (.v (.int _ n))=>n
 | _=>0
def aB (args:List SV) (i:Nat):Bool:=match args[i]? with
 |some (.v (.bool b))=>b
 | _=>false
def aS (args:List SV) (i:Nat):ByteArray:=match args[i]? with
 |some (.v (.string s))=>s
 | _=>⟨#[]⟩
def aR (args:List SV) (i:Nat):List (List SV):=match args[i]? with
 |some (.sl _ rows)=>rows
 | _=>[]
def aC (args:List SV) (i:Nat):List SV:=match args[i]? with
 |some (.agg cs)=>cs
 | _=>[]
def oR (obs:List (Nat×Ob)) (i:Nat):List (List SV):=match lk i obs with
 |some (.sl _ _ rows)=>rows
 | _=>[]
def oE (obs:List (Nat×Ob)) (i:Nat):Nat:=match lk i obs with
 |some (.sl e _ _)=>e
 |some (.dp e _ _)=>e
 | _=>0
def oD (obs:List (Nat×Ob)) (i:Nat):List (List SV):=match lk i obs with
 |some (.dp _ _ rows)=>rows
 | _=>[]
def oC (obs:List (Nat×Ob)) (i:Nat):List SV:=match lk i obs with
 |some (.box _ cs)=>cs
 | _=>[]
theorem Holds.go {c:Cx}{N:Nat}{f:FuncId}{fn:Func}{code:Code}(hf:c.P.funcs[f]? = some fn) (hb:fn.body=some code) {rs:List ResultVar}(hrs:fn.results=rs.toArray) (hn:fn.ntmps=N) (hfew:N≤900000) {args:List SV}(ha:args.length≤N) {res:SV}{kAb:List (Nat×Ob)}
  (hrb:(kAb.all fun p=>p.2.pb)=true)
  (h:∀(X0:Nat→Prop) (w0:World),WP c N X0 (fun _ _=>False) w0 code ⟨kC9 0 args,[]⟩ (kI3 c.tys rs res kAb)):Holds c.P f args res kAb :=
 Holds.qD2 hf hb (by rw[hrs]) hn hfew ha (fun{id ob} hi=>jDl.1 hrb _ (kBf hi)) h
theorem kI7.go {c:Cx}{N:Nat}{f:FuncId}{fn:Func}{code:Code}(hf:c.P.funcs[f]? = some fn) (hb:fn.body=some code) {rs:List ResultVar}(hrs:fn.results=rs.toArray) (hn:fn.ntmps=N) (hfew:N≤900000) {args:List SV}(ha:args.length≤N)
  {obs:List (Nat×Ob)}{res:SV}{kAb kept:List (Nat×Ob)}(hrb:(kAb.all fun p=>p.2.pb)=true) (hrid:∀i∈kAb.map (·.1),i<900000) (hres:∀i∈res.kCv,i∈kAb.map (·.1))
  (hkid:∀i∈kept.map (·.1),1000000≤i) (hkre:kept.map (fun p=>(p.1,p.2.up (SV.kBr (kept.map fun q=>(q.1,q.1)))))=kept) (hkn:kAz (kept.map (·.1))=true) (hall:∀i∈obs.map (·.1),1000000≤i→i∈kept.map (·.1))
  (h:∀(X0:Nat→Prop) (M:Nat→BV→Prop) (w0:World),WP c N X0 M w0 code ⟨kC9 0 args,obs⟩ (kJs c.tys rs res kAb kept)):kI7 c.P f args obs res kAb kept :=
 kI7.qD2 hf hb (by rw[hrs]) hn hfew ha (fun{id ob} hi=>jDl.1 hrb _ (kBf hi)) hrid hres hkid hkre (kG3.1 hkn) hall h
theorem kLo (b:Bool):(b==true)=b:=by cases b<;>rfl
theorem kLp (b:Bool):(b==false)=!b:=by cases b<;>rfl
def filled {α:Type}(enc:α→List SV) (z:List SV) (L:List α) (k:Nat):List (List SV):=(L.take k).map enc++List.replicate (L.length-k) z
section
variable {α:Type}(enc:α→List SV) (z:List SV) (L:List α)
theorem kFy:filled enc z L 0=List.replicate L.length z:=by simp[filled]
theorem kG4:filled enc z L L.length=L.map enc:=by simp[filled]
theorem kBx (k:Nat) (hk:k≤L.length):(filled enc z L k).length=L.length:=by simp[filled];omega
theorem kG5 (k:Nat) (hk:k<L.length):rowAt (filled enc z L k) k=z:=by
 unfold rowAt filled;rw[vDs (by simp;omega)]
 simp only[jH5,jOb,vI3 (Nat.le_of_lt hk),vDu];rw[yDc,if_pos zo];rfl
theorem kG6 (k:Nat) (hk:k<L.length):(filled enc z L k).set k (enc L[k])=filled enc z L (k+1):=by
 unfold filled;have e1:L.length-k=(L.length-(k+1))+1:=zo;rw[vO3,if_neg (by simp;omega),e1,wQf]
 simp only[jH5,jOb,vI3 (Nat.le_of_lt hk),vDu,jXr];rw[jQw hk];simp only[jNq,jHi,jRt,jPf,jRa,jIw]
theorem kAa (k:Nat) (hk:k<L.length):rowAt (L.map enc) k=enc L[k]:=by
 unfold rowAt;rw[jQ2,jD9 hk];rfl
end
class Wb (x:Code) where
  pre:Cx→Nat→(Nat→Prop)→(Nat→BV→Prop)→World→St→(Exit→St→Prop)→Prop
  ok:∀{c N X0 M w0 st K},pre c N X0 M w0 st K→WP c N X0 M w0 x st K
instance wbR {id l}:Wb (.region id (List.toArray l) false):=⟨fun c N _ _ _ st K=>St.runR c.tys c.C N l.toArray l st (K .normal),zR⟩
instance wbC {x p q}:Wb (.cond x p q):=⟨fun c N X0 M w0 st K=>kGh (st.ev x) (WP c N X0 M w0 p st K) (WP c N X0 M w0 q st K),zC⟩
instance wbT:Wb .ret:=⟨fun _ _ _ _ _ st K=>K .ret st,zT⟩
instance wbE {id}:Wb (.exit id):=⟨fun _ _ _ _ _ st K=>K (.exit id) st,zE⟩
instance wbK:Wb .skip:=⟨fun _ _ _ _ _ st K=>K .normal st,zK⟩
theorem wbR_e {id l c N X0 M w0 st K}:Wb.pre (.region id (List.toArray l) false) c N X0 M w0 st K=St.runR c.tys c.C N l.toArray l st (K .normal):=rfl
theorem wbC_e {x p q c N X0 M w0 st K}:Wb.pre (.cond x p q) c N X0 M w0 st K=kGh (st.ev x) (WP c N X0 M w0 p st K) (WP c N X0 M w0 q st K):=rfl
theorem wbT_e {c N X0 M w0 st K}:Wb.pre .ret c N X0 M w0 st K=K .ret st:=rfl
theorem wbE_e {id c N X0 M w0 st K}:Wb.pre (.exit id) c N X0 M w0 st K=K (.exit id) st:=rfl
theorem wbK_e {c N X0 M w0 st K}:Wb.pre .skip c N X0 M w0 st K=K .normal st:=rfl
attribute [go_sem ↓] wbR_e wbC_e wbT_e wbE_e wbK_e
theorem zW {c:Cx}{N:Nat}{X0:Nat→Prop}{M:Nat→BV→Prop}{w0:World}{st:St}{K:Exit→St→Prop}{x:Code}[Wb x] (h:Wb.pre x c N X0 M w0 st K):WP c N X0 M w0 x st K:=Wb.ok h
theorem zd {c:Cx}{N:Nat}{X0:Nat→Prop}{M:Nat→BV→Prop}{w0:World}{K:Exit→St→Prop}{id:Nat}{l:List Oper}{st:St}(m:Nat)
 (h:St.kH1 c.tys c.C N l.toArray (l.take m) st fun st'=>St.runR c.tys c.C N l.toArray (l.drop m) st' (K .normal)) (hB:kSj l.toArray m=true:=by decide +kernel) (hm:c.P.follows .mixedOrders=true:=by kernel_rfl):WP c N X0 M w0 (.region id l.toArray true) st K:=zD m hB hm h
@[go_sem] abbrev vi (n:Int):SV:=.v (.int .i64 n)
theorem zM {c:Cx}{N:Nat}{X0:Nat→Prop}{M:Nat→BV→Prop}{w0:World}{st:St}{K:Exit→St→Prop}{S:Type}{p:Code}(I:S→St) (J:S→Prop) (μ:S→Nat) (s0:S) (h0:J s0) (hr:∀s,J s→WP c N X0 M w0 p (I s) (kGy (fun st'=>∃s',J s'∧μ s'<μ s∧st'.has (I s')) K)) (hi:st.has (I s0):=by(simp only[go_sem]<;>(first|(and_intros<;>rfl)|simp))):WP c N X0 M w0 (.loop p) st K:=zL I J μ s0 h0 hi hr
class M1 (m:outParam Nat):Prop where
 t:True
class M2 (m:outParam Nat):Prop where
 t:True
theorem zd1 {c:Cx}{N:Nat}{X0:Nat→Prop}{M:Nat→BV→Prop}{w0:World}{K:Exit→St→Prop}{id:Nat}{l:List Oper}{st:St}{m:Nat}[M1 m] (h:St.kH1 c.tys c.C N l.toArray (l.take m) st fun st'=>St.runR c.tys c.C N l.toArray (l.drop m) st' (K .normal)) (hB:kSj l.toArray m=true:=by decide +kernel) (hm:c.P.follows .mixedOrders=true:=by kernel_rfl):WP c N X0 M w0 (.region id l.toArray true) st K:=zd m h hB hm
theorem zd2 {c:Cx}{N:Nat}{X0:Nat→Prop}{M:Nat→BV→Prop}{w0:World}{K:Exit→St→Prop}{id:Nat}{l:List Oper}{st:St}{m:Nat}[M2 m] (h:St.kH1 c.tys c.C N l.toArray (l.take m) st fun st'=>St.runR c.tys c.C N l.toArray (l.drop m) st' (K .normal)) (hB:kSj l.toArray m=true:=by decide +kernel) (hm:c.P.follows .mixedOrders=true:=by kernel_rfl):WP c N X0 M w0 (.region id l.toArray true) st K:=zd m h hB hm
theorem z2 {A B:Prop}(a:A) (b:B):A∧B:=⟨a,b⟩
theorem z3 {A B C:Prop}(a:A) (b:B) (c:C):A∧B∧C:=⟨a,z2 b c⟩
theorem z4 {A B C D:Prop}(a:A) (b:B) (c:C) (d:D):A∧B∧C∧D:=⟨a,z3 b c d⟩
theorem z5 {A B C D E:Prop}(a:A) (b:B) (c:C) (d:D) (e:E):A∧B∧C∧D∧E:=⟨a,z4 b c d e⟩
theorem z6 {A B C D E F:Prop}(a:A) (b:B) (c:C) (d:D) (e:E) (f:F):A∧B∧C∧D∧E∧F:=⟨a,z5 b c d e f⟩
theorem z7 {A B C D E F G:Prop}(a:A) (b:B) (c:C) (d:D) (e:E) (f:F) (g:G):A∧B∧C∧D∧E∧F∧G:=⟨a,z6 b c d e f g⟩
theorem z8 {A B C D E F G H:Prop}(a:A) (b:B) (c:C) (d:D) (e:E) (f:F) (g:G) (h:H):A∧B∧C∧D∧E∧F∧G∧H:=⟨a,z7 b c d e f g h⟩
theorem z9 {A B C D E F G H I:Prop}(a:A) (b:B) (c:C) (d:D) (e:E) (f:F) (g:G) (h:H) (i:I):A∧B∧C∧D∧E∧F∧G∧H∧I:=⟨a,z8 b c d e f g h i⟩
theorem z10 {A B C D E F G H I J:Prop}(a:A) (b:B) (c:C) (d:D) (e:E) (f:F) (g:G) (h:H) (i:I) (j:J):A∧B∧C∧D∧E∧F∧G∧H∧I∧J:=⟨a,z9 b c d e f g h i j⟩
theorem zx {F z:Prop}(f:F) (y:F→z:=by intro f;(repeat' (first|apply zS|apply zB|(apply zW;simp only[go_sem,f])|apply jAi|intro _));all_goals first|omega|rfl|exact⟨_,_,rfl⟩|exact⟨_,_,_,rfl⟩|exact⟨_,_,rfl,_,_,rfl,rfl⟩|assumption|exact if_neg (by omega)|(obtain⟨n,_,rfl⟩:=jCr.1 ‹_›;rfl)|(simp only[jH5,jSz];omega)|grind):z:=y f
theorem zy {F z q:Prop}(f:F) (k:q) (y:F→q→z:=by intro f k;(repeat' (first|apply zS|apply zB|(apply zW;simp only[go_sem,f])|apply jAi|intro _));all_goals first|(clear k;first|omega)|exact k):z:=y f k
theorem zv {F z q:Prop}(f:F) (k:q) (y:F→q→z:=by intro f k;(repeat' (first|apply zS|apply zB|(apply zW;simp only[go_sem,f])|apply jAi|intro _));all_goals first|(clear k;first|omega|rfl|exact⟨_,_,rfl⟩|exact⟨_,_,rfl,_,_,rfl,rfl⟩|assumption)|exact k):z:=y f k
theorem zx1 (m:Nat) {F z:Prop}(f:F) (y:M1 m→F→z:=by intro _ f;(repeat' (first|apply zS|apply zB|((first|apply zW|refine zd1 (h:=?_));simp only[go_sem,f])|apply jAi|intro _));all_goals first|omega|rfl|exact⟨_,_,rfl⟩|exact⟨_,_,_,rfl⟩|exact⟨_,_,rfl,_,_,rfl,rfl⟩|assumption|exact if_neg (by omega)|(obtain⟨n,_,rfl⟩:=jCr.1 ‹_›;rfl)|(simp only[jH5,jSz];omega)|grind):z:=y ⟨trivial⟩ f
theorem zy1 (m:Nat) {F z q:Prop}(f:F) (k:q) (y:M1 m→F→q→z:=by intro _ f k;(repeat' (first|apply zS|apply zB|((first|apply zW|refine zd1 (h:=?_));simp only[go_sem,f])|apply jAi|intro _));all_goals first|(clear k;first|omega)|exact k):z:=y ⟨trivial⟩ f k
theorem zv1 (m:Nat) {F z q:Prop}(f:F) (k:q) (y:M1 m→F→q→z:=by intro _ f k;(repeat' (first|apply zS|apply zB|((first|apply zW|refine zd1 (h:=?_));simp only[go_sem,f])|apply jAi|intro _));all_goals first|(clear k;first|omega|rfl|exact⟨_,_,rfl⟩|exact⟨_,_,rfl,_,_,rfl,rfl⟩|assumption)|exact k):z:=y ⟨trivial⟩ f k
theorem zx2 (m n:Nat) {F z:Prop}(f:F) (y:M1 m→M2 n→F→z:=by intro _ _ f;(repeat' (first|apply zS|apply zB|((first|apply zW|refine zd1 (h:=?_)|refine zd2 (h:=?_));simp only[go_sem,f])|apply jAi|intro _));all_goals first|omega|rfl|exact⟨_,_,rfl⟩|exact⟨_,_,_,rfl⟩|exact⟨_,_,rfl,_,_,rfl,rfl⟩|assumption|exact if_neg (by omega)|(obtain⟨n,_,rfl⟩:=jCr.1 ‹_›;rfl)|(simp only[jH5,jSz];omega)|grind):z:=y ⟨trivial⟩ ⟨trivial⟩ f
theorem zy2 (m n:Nat) {F z q:Prop}(f:F) (k:q) (y:M1 m→M2 n→F→q→z:=by intro _ _ f k;(repeat' (first|apply zS|apply zB|((first|apply zW|refine zd1 (h:=?_)|refine zd2 (h:=?_));simp only[go_sem,f])|apply jAi|intro _));all_goals first|(clear k;first|omega)|exact k):z:=y ⟨trivial⟩ ⟨trivial⟩ f k
theorem zv2 (m n:Nat) {F z q:Prop}(f:F) (k:q) (y:M1 m→M2 n→F→q→z:=by intro _ _ f k;(repeat' (first|apply zS|apply zB|((first|apply zW|refine zd1 (h:=?_)|refine zd2 (h:=?_));simp only[go_sem,f])|apply jAi|intro _));all_goals first|(clear k;first|omega|rfl|exact⟨_,_,rfl⟩|exact⟨_,_,rfl,_,_,rfl,rfl⟩|assumption)|exact k):z:=y ⟨trivial⟩ ⟨trivial⟩ f k
theorem zc0 {p:Prop}(h:p:=by first|omega):p:=h
theorem zc1 {p:Prop}(h:p:=by first|omega|rfl|exact⟨_,_,rfl,_,_,rfl,rfl⟩):p:=h
theorem zc2 {p:Prop}(h:p:=by first|omega|rfl):p:=h
theorem zc3 {p:Prop}(h:p:=by first|omega|rfl|exact⟨_,_,rfl⟩|exact⟨_,_,rfl,_,_,rfl,rfl⟩):p:=h
theorem zc4 {p:Prop}(h:p:=by first|omega|rfl|(obtain⟨n,_,rfl⟩:=jCr.1 ‹_›;rfl)):p:=h
theorem zc5 {p:Prop}(h:p:=by first|omega|exact⟨_,_,rfl,_,_,rfl,rfl⟩|rfl):p:=h
theorem zc6 {p:Prop}(h:p:=by first|omega|rfl|exact⟨_,_,rfl,_,_,rfl,rfl⟩|exact⟨_,_,rfl⟩):p:=h
theorem kc {P:Program}{f:FuncId}{ctr:Ctr}{C:List (FuncId×Ctr)}(h:Cn P f ctr) (hC:COk P C):COk P ((f,ctr)::C):=COk.cons h hC
theorem kn {P:Program}:COk P []:=COk.nil P
end
end Go.Vc
