/- DERIVED. Steps of the proof. -/
import Derived.Test.YtjdklcjoeanimaaGreatVf15
import Derived.Test.YtjdklcjoeanimaaGreatVf17
set_option linter.all false
set_option maxHeartbeats 1000000
set_option maxRecDepth 10000
namespace Go.Vc
@[go_sem] def St.qEc (tys:List (Nat×TyD)) (C:List (FuncId×Ctr)) (C2:List (FuncId×Ctx)) (N:Nat) (ops:Array Oper) (Kp:Value→St→Prop) (o:Oper) (st:St) (K:St→Prop):Prop :=
 match st.isX C2 o with
 |true=>o.guard.isNone=true∧kAq N o.dst=true∧st.qEb (o.dst.getD 0) C2 o K Kp
 |false=>st.step tys C N ops o K
section
variable {c:Cx}{N:Nat}{X0:Nat→Prop}{M:Nat→BV→Prop}{w0:World}{st:St}{K:Exit→St→Prop}
theorem qK6 {C2:List (FuncId×Ctx)}(hC2:POk c.P C2) (hA:Ap c.P X0 M w0) {ops:Array Oper}{Kp:Value→St→Prop}{Q:Exit→Act→World→Prop}(hQ:∀x a w,Ok N X0 M w0 (Kp x) a w→Q (.panic (chainOf x)) a w) :
  kSk c.P N X0 M w0 ops Q (St.qEc c.tys c.C C2 N ops Kp):=fun st β a w o K hs hw=>by
 unfold St.qEc at hw
 cases hx:st.isX C2 o with
 |false=>rw[hx]at hw;exact kCu hA c.hty c.hC hs hw
 |true =>
  rw[hx]at hw;obtain⟨h1,h2,h3⟩:=hw
  have hwt:Region.wanted o (yielded ops a.tmps)=true:=by
   unfold Region.wanted
   cases hg:o.guard with
   |none=>rfl
   |some g=>rw[hg]at h1;cases h1
  rw[if_pos hwt];exact qBd hC2 hA hs (kI8 h2) h3 hQ
theorem kUs {P:Program}{ops:Array Oper}{K:St→Prop}{Q:Exit→Act→World→Prop}{stp:Oper→St→(St→Prop)→Prop}(hS:kSk P N X0 M w0 ops Q stp) (hQ:∀a w,Ok N X0 M w0 K a w→Q .normal a w) :
  ∀(l:List Oper) {st:St}{β:Nat→BV}{a:Act}{w:World},Sim N X0 M w0 st β a w→kUm stp l st K→wpList P ops Q l a w
 | [],st,β,a,w,h,hw=>hQ a w ⟨st,β,hw,h⟩
 |o::l,st,β,a,w,h,hw=>by
  have h1:=hS st β a w o _ h hw;unfold wpList;split
  ·rename_i hwt;rw[if_pos hwt]at h1;exact .inl (Oper.wp_mono (fun a' w' ⟨st',β',h2,h3⟩=>kUs hS hQ l h3 h2) h1)
  ·rename_i hwt;rw[if_neg hwt]at h1;obtain⟨st',β',h2,h3⟩:=h1;exact kUs hS hQ l h3 h2
theorem WP.kMn {id:Nat}{l:List Oper}{C2:List (FuncId×Ctx)}(hC2:POk c.P C2) (h:kUm (St.qEc c.tys c.C C2 N l.toArray fun x=>K (.panic (chainOf x))) l st (K .normal)):WP c N X0 M w0 (.region id l.toArray false) st K:=fun hA β a w hs =>
 wp_region_lit (kUs (qK6 hC2 hA fun x a w hk=>hk) (fun a w hk=>hk) l hs h)
@[go_sem] def yen {X:Type}(kBq:List Nat) (dec:List SV→List (Nat×Ob)→X) (A:X→List SV) (B:X→List (Nat×Ob)) (pre:X→Prop) (pan:X→Option Value) (res:X→SV) (kAb kept:X→List (Nat×Ob)):Ctx :=
 {ctr:={ kBq:=kBq,wri:=fun _ args obs=>(args=A (dec args obs)∧obs=B (dec args obs)∧pre (dec args obs),res (dec args obs),kAb (dec args obs),kept (dec args obs)) },pan:=fun args obs=>pan (dec args obs) }
structure Cy (P:Program) (f:FuncId) (c:Ctx):Prop where
 call:kMd P f
 holds:∀d args obs,(c.ctr.wri d args obs).1→kV3 (EX (c.pan args obs)) P f args obs (c.ctr.wri d args obs).2.1 (c.ctr.wri d args obs).2.2.1 (c.ctr.wri d args obs).2.2.2
theorem Cy.yen {P:Program}{f:FuncId}{X:Type}{kBq:List Nat}{dec:List SV→List (Nat×Ob)→X}{A:X→List SV}{B:X→List (Nat×Ob)}{pre:X→Prop}{pan:X→Option Value}{res:X→SV}{kAb kept:X→List (Nat×Ob)}{fn:Func}{code:Code}
  (hf:P.funcs[f]? = some fn) (hn:(fn.name == "runtime.NumGoroutine")=false) (hb:fn.body=some code) (h:∀x, pre x→kV3 (EX (pan x)) P f (A x) (B x) (res x) (kAb x) (kept x)):Cy P f (Go.Vc.yen kBq dec A B pre pan res kAb kept) :=
 ⟨⟨fn,hf,hn,by rw[hb];rfl⟩,fun d args obs ha=>by
  have:=h (dec args obs) ha.2.2;rw[←ha.1,←ha.2.1]at this;exact this⟩
theorem POk.nil (P:Program):POk P []:=⟨fun f c h=>(by cases h),fun f c h=>(by cases h)⟩
theorem POk.cons {P:Program}{f:FuncId}{ctr:Ctx}{C:List (FuncId×Ctx)}(h:Cy P f ctr) (hC:POk P C):POk P ((f,ctr)::C) where
 call:=fun g c hg=>by
  simp only[lk]at hg;by_cases he:g=f
  ·subst he;exact h.call
  ·rw[if_neg he]at hg;exact hC.call g c hg
 holds:=fun g c hg=>by
  simp only[lk]at hg;by_cases he:g=f
  ·subst he;rw[if_pos rfl]at hg;cases hg;exact h.holds
  ·rw[if_neg he]at hg;exact hC.holds g c hg
@[go_sem] def retY (tys:List (Nat×TyD)) (rs:List ResultVar) (pn:Option Value) (res:SV) (obs:List (Nat×Ob)):Exit→St→Prop :=
 match pn with
 |none=>fun
  | .normal,st=>kGz tys rs res [] st∧∀p∈obs,lk p.1 st.hp=some p.2
  | .ret,st=>kGz tys rs res [] st∧∀p∈obs,lk p.1 st.hp=some p.2
  | _,_=>False
 |some x=>fun
  | .panic ch,st=>ch=chainOf x∧∀p∈obs,lk p.1 st.hp=some p.2
  | _,_=>False
theorem kFi.go {f:FuncId}{fn:Func}{code:Code}(hf:c.P.funcs[f]? = some fn) (hb:fn.body=some code) {rs:List ResultVar}(hrs:fn.results=rs.toArray) (hn:fn.ntmps=N) (hfew:N≤900000) {args:List SV}(ha:args.length≤N)
  {obs:List (Nat×Ob)}{pn:Option Value}{res:SV}{kAb kept:List (Nat×Ob)}(hres:res.kCv=[]) (hpn:pn.isSome=true→res=.kAh)
  (h:∀(X0:Nat→Prop) (M:Nat→BV→Prop) (w0:World),WP c N X0 M w0 code ⟨kC9 0 args,obs⟩ (retY c.tys rs pn res (kAb++kept))):kV3 (EX pn) c.P f args obs res kAb kept:=by
  intro w X β vs hG hβ hX hl hargs kS8 kYn;refine calls_of_wp hf hb ?_
  let M:Nat→BV→Prop:=fun id v=>(∃ob,lk id obs=some ob)∧v=β id
  have hMB:∀b,MB M b↔∃id ob,lk id obs=some ob∧(β id).ft b:=fun b=>by
   constructor
   ·rintro⟨id,v,⟨⟨ob,h1⟩,rfl⟩,h3⟩;exact⟨id,ob,h1,h3⟩
   ·rintro⟨id,ob,h1,h3⟩;exact⟨id,β id,⟨⟨ob,h1⟩,rfl⟩,h3⟩
  have hA:Ap c.P X M w:=⟨fun b hb=>⟨hX b hb,fun hm=>by
   obtain⟨id,ob,h1,h2⟩:=(hMB b).1 hm;exact(kYn id ob b h1 h2).1 hb⟩,hG,fun b hm=>by
   obtain⟨id,ob,h1,h2⟩:=(hMB b).1 hm;exact(kYn id ob b h1 h2).2⟩
  have kLn:Sim N X M w ⟨kC9 0 args,obs⟩ β { tmps:=vs.toArray++Array.replicate (fn.ntmps-vs.toArray.size) undef,defers:=[] } w:={
   size:=by simp[hn];omega
   defers:=.nil fun v h=>by rw[h.2];exact hβ 0
   beta:=hβ
   slots:=fun t x hx=>by
    obtain⟨_,h1⟩:=kUl args 0 t x hx;simp only[Nat.sub_zero]at h1;have ht:t<vs.length:=by rw[hl];exact(jSg.1 h1).1
    have hv:vs[t]? = some (vs[t]'ht):=jD9 ht
    have:(vs.toArray++Array.replicate (fn.ntmps-vs.toArray.size) undef).getD t undef=vs[t]'ht:=by
     rw[jMv,yPf (by simpa using ht)]
     simp[ht]
    rw[this];exact hargs t x _ h1 hv
   objs:=kS8.1
   inj:=kS8.2
   x0:=hX
   mine:=fun id ob b hi hb=>.inl ((hMB b).2 ⟨id,ob,hi,hb⟩)
   pin:=fun id v hm _=>congrArg BV.val hm.2.symm
   few:=hfew
   os:=rfl
   tape:=rfl
   output:=rfl
   grew:=jDu _
   kept:=fun _ _ _=>rfl }
  refine Code.wp_mono (fun e a w' hq=>?_) (h X M w hA _ _ _ kLn)
  obtain⟨st',β',ho,hs⟩:=hq
  have fin:∀{en:Ending}{v:Value},EX pn en v→(∀p∈kAb++kept,lk p.1 st'.hp=some p.2)→R w' (XX X β' st'.hp) β' res v→∃v' β'',EX pn en v'∧w'.os=w.os∧w'.tape=w.tape∧w'.output=w.output∧w.heap.size≤w'.heap.size ∧
   (∀b,b<w.heap.size→(¬∃id ob,lk id obs=some ob∧(β id).ft b)→w'.heap[b]? = w.heap[b]?)∧(∀i,(β'' i).val.oneCell'=true)∧(∀i ob,1000000≤i→lk i obs=some ob→(β'' i).val=(β i).val) ∧
   R w' (XX X β'' (kAb++kept)) β'' res v'∧Obs w' X β'' (kAb++kept) ∧
   ∀id ob b,lk id (kAb++kept)=some ob→(β'' id).ft b→w.heap.size≤b∨∃k o,lk k obs=some o∧(β k).ft b:=fun{en v} hE hk hR=>by
   have hkl:∀{id ob},lk id (kAb++kept)=some ob→lk id st'.hp=some ob:=fun{id ob} hi=>hk (id,ob) (kBf hi)
   have hXs:∀b,XX X β' (kAb++kept) b→XX X β' st'.hp b:=fun b hb=>by
    rcases hb with hb|⟨id,ob,hi,hb⟩
    ·exact .inl hb
    ·exact .inr ⟨id,ob,hkl hi,hb⟩
   have hS:Same (XX X β' st'.hp) w' w':=⟨jDu _,fun _ _ _=>rfl⟩
   refine⟨v,β',hE,hs.os,hs.tape,hs.output,hs.grew,fun b hb hn=>hs.kept b hb (fun hm=>hn ((hMB b).1 hm)),hs.beta,fun i ob h1 hi=>hs.pin i (β i) ⟨⟨ob,hi⟩,rfl⟩ h1,hR.mono hS fun b _ hb=>hXs b hb,⟨fun id ob hi=>?_,fun i j oi oj b hi hj hbi hbj=>?_⟩,fun id ob b hi hb=>?_⟩
   ·exact(hs.objs id ob (hkl hi)).mono hS (fun b _ hb=>hXs b hb) (fun _ _=>rfl)
   ·exact hs.inj i j oi oj b (hkl hi) (hkl hj) hbi hbj
   ·exact(hs.mine id ob b (hkl hi) hb).symm.imp _root_.id fun hm=>(hMB b).1 hm
  cases pn with
  |none =>
   have ret:kGz c.tys rs res [] st'∧(∀p∈kAb++kept,lk p.1 st'.hp=some p.2)→a.defers=[]∧∃v,(Go.results fn a.tmps).run c.P w'=.ok v w'∧_:=fun⟨h1,h2⟩=>by
    obtain⟨v,β2,hr,hR,_⟩:=k35 (c:=c) hs (by rw[hrs]) h1
    exact⟨hs.defers.2 (fun v h=>by rw[h.2];exact hβ 0),v,hr,fin (en:=.returned v) rfl h2 (hR.beta h1.2.1 fun id hid=>by rw[hres]at hid;cases hid)⟩
   cases e with
   |normal=>exact ret ho
   |ret=>exact ret ho
   | _=>exact ho.elim
  |some x =>
   cases e with
   |panic ch =>
    obtain⟨rfl,hk⟩:=ho;obtain rfl:=hpn rfl
    exact⟨hs.defers.2 (fun v h=>by rw[h.2];exact hβ 0),fin (en:=.panicked (chainOf x)) (v:=undef) rfl hk (.kAh _)⟩
   | _=>exact ho.elim
end
end Go.Vc
namespace Go.Proofs.YtjdklcjoeanimaaGreat
theorem qIr {v h:Int}{sg:Bool}(h0:0≤v) (h1:v<2*h):(sg=true→-h≤(if sg=true∧h≤v then v-2*h else v)∧(if sg=true∧h≤v then v-2*h else v)<h)∧(sg=false→(if sg=true∧h≤v then v-2*h else v)=v):=by
 cases sg with
 |false=>simp
 |true =>
  refine⟨fun _=>?_,fun q=>by cases q⟩
  by_cases hc:h≤v
  ·rw[if_pos ⟨rfl,hc⟩];omega
  ·rw[if_neg fun q=>hc q.2];omega
theorem argV_2 (s:ByteArray) (k:Nat):-32768≤kDv s k 2 true∧kDv s k 2 true≤32767:=by
 obtain⟨h1,h2⟩:=kPv s k 2;have h2:leI s k 2<2*32768:=h2;have:=(qIr (sg:=true) h1 h2).1 rfl;have e:kDv s k 2 true=(if true=true∧32768≤leI s k 2 then leI s k 2-2*32768 else leI s k 2):=rfl
 rw[e];omega
theorem argV_4 (s:ByteArray) (k:Nat):-2147483648≤kDv s k 4 true∧kDv s k 4 true≤2147483647:=by
 obtain⟨h1,h2⟩:=kPv s k 4;have h2:leI s k 4<2*2147483648:=h2;have:=(qIr (sg:=true) h1 h2).1 rfl;have e:kDv s k 4 true=(if true=true∧2147483648≤leI s k 4 then leI s k 4-2*2147483648 else leI s k 4):=rfl
 rw[e];omega
theorem argV_f (s:ByteArray) (k n:Nat) (hn:n≤2):0≤kDv s k n false∧kDv s k n false≤65535:=by
 obtain⟨h1,h2⟩:=kPv s k n;have e:kDv s k n false=leI s k n:=if_neg (by simp)
 rw[e];refine⟨h1,?_⟩
 have hp:(2:Int) ^ (8*n)≤65536:=by
  have hc:n=0∨n=1∨n=2:=by omega
  rcases hc with rfl|rfl|rfl<;>decide
 omega
theorem qOb (s:ByteArray) (k:Nat) (c:Int):(-2147483648≤kDv s k (kB8 c).1.toNat (kB8 c).2∧kDv s k (kB8 c).1.toNat (kB8 c).2≤4294967295)∧(c=1∨c=2∨c=3∨c=4∨c=10∨c=11→-32768≤kDv s k (kB8 c).1.toNat (kB8 c).2∧kDv s k (kB8 c).1.toNat (kB8 c).2≤32767) ∧
  (12≤c→0≤kDv s k (kB8 c).1.toNat (kB8 c).2∧kDv s k (kB8 c).1.toNat (kB8 c).2≤65535):=by
 by_cases h0:c=0
 ·have e:kB8 c=(4,true):=if_pos h0;rw[e];have:=argV_4 s k;exact⟨by show -2147483648≤kDv s k 4 true∧kDv s k 4 true≤4294967295;omega,fun q=>by omega,fun q=>by omega⟩
 by_cases h1:c=1∨c=2∨c=3∨c=4∨c=10∨c=11
 ·have e:kB8 c=(2,true):=by unfold kB8;rw[if_neg h0,if_pos h1]
  rw[e];have:=argV_2 s k;exact⟨by show -2147483648≤kDv s k 2 true∧kDv s k 2 true≤4294967295;omega,fun _=>this,fun q=>by omega⟩
 have e:∃n:Nat,n≤2∧kB8 c=((n:Int),false):=by
  unfold kB8;rw[if_neg h0,if_neg h1];split
  ·exact⟨2,by omega,rfl⟩
  ·split
   ·exact⟨1,by omega,rfl⟩
   ·exact⟨0,by omega,rfl⟩
 obtain⟨n,hn,e⟩:=e;rw[e];simp only[Int.toNat_natCast];have:=argV_f s k n hn;exact⟨by omega,fun q=>absurd q h1,fun _=>this⟩
structure OpB (x:Op) (n:Int):Prop where
 code:0≤x.code∧x.code≤17
 arg:-2147483648≤x.arg∧x.arg≤4294967295
 near:x.code=1∨x.code=2∨x.code=3∨x.code=4∨x.code=10∨x.code=11→-32768≤x.arg∧x.arg≤32767
 pos:12≤x.code→0≤x.arg∧x.arg≤65535
 size:1≤n∧n≤5
theorem qL6 {s:ByteArray}{k:Int}{x:Op}{n:Int}(h:kDw s k=some (x,n)):OpB x n∧0≤k∧k<s.size:=by
 unfold kDw at h;split at h
 ·rename_i hk;split at h
  ·rename_i hs;simp only[Option.some.injEq,Prod.mk.injEq]at h;obtain⟨rfl,rfl⟩:=h;have hb:=kT8 s k.toNat;generalize hc:byt s k.toNat=c at *
   have h17:0≤c∧c≤17:=by
    have:=hs.1;unfold kBg at this;split at this
    ·assumption
    ·exact absurd rfl this
   have hw:=kQ4 c;have hsz:=kSu c;obtain⟨a1,a2,a3⟩:=qOb s k.toNat c;exact⟨⟨h17,a1,a2,a3,by show 1≤kBg c∧kBg c≤5;have:=hs.1;omega⟩,hk⟩
  ·cases h
 ·cases h
def kNf (m:Mach) (r:CpB):Mach :=
 if r.2=true then⟨m.pc,m.sp,m.fp,m.stack,m.out,2,m.value⟩
 else if r.1.pc=0 then(if 0≤r.1.sp∧r.1.sp≤1199 then⟨r.1.pc,r.1.sp,r.1.fp,r.1.st,r.1.out,1,r.1.st.getD r.1.sp.toNat 0⟩else⟨m.pc,m.sp,m.fp,m.stack,m.out,2,m.value⟩)
 else⟨r.1.pc,r.1.sp,r.1.fp,r.1.st,r.1.out,m.state,m.value⟩
def kWy (m:Mach) (n:Int):Cpu:=⟨m.pc+n,m.sp,m.fp,m.stack,m.out⟩
abbrev kO7:=List Image×List Int×List Int
def stepS (S:kO7) (m:Mach):Mach:=match kHy S m.pc with
 |none=>⟨m.pc,m.sp,m.fp,m.stack,m.out,2,m.value⟩
 |some (x,n)=>kNf m (kA6 S.2.2 x (kWy m n))
def kIy (S:kO7) (m:Mach):Mach:=match kHy S m.pc with
 |none=>⟨m.pc,m.sp,m.fp,m.stack,m.out,2,m.value⟩
 |some (x,n)=>kNf m (kBm S.2.2 x (kWy m n))
theorem qL7 {m:Mach}{s t:CpB}(h:RR s t):kNf m s=kNf m t:=by
 rcases h.cases with⟨p,q⟩|⟨p,rfl,r⟩
 ·unfold kNf;rw[if_pos p,if_pos q]
 ·rfl
structure MachR (m:Mach):Prop where
 pc:In64 m.pc
 sp:In64 m.sp
 fp:In64 m.fp
 st:∀x∈m.stack,In64 x
theorem k2m {S:kO7}{a:Int}{x:Op}{n:Int}(hB:∀b∈S.2.1,0≤b∧b≤1000000) (h:kHy S a=some (x,n)):OpB x n∧0≤a∧∃i:Nat,a<1000000+((S.1.getD i kFo).code.size:Int):=by
 unfold kHy at h;split at h
 ·cases h
 ·obtain⟨h1,h2,h3⟩:=qL6 h
  have hb:0≤S.2.1.getD (kAm S.1 S.2.1 a).toNat 0∧S.2.1.getD (kAm S.1 S.2.1 a).toNat 0≤1000000:=by
   rw[List.getD_eq_getElem?_getD]
   cases hq:S.2.1[(kAm S.1 S.2.1 a).toNat]? with
   |none=>simp
   |some b=>exact hB b (List.mem_of_getElem? hq)
  exact⟨h1,by omega,(kAm S.1 S.2.1 a).toNat,by omega⟩
theorem qIs {S:kO7}{m:Mach}(hB:∀b∈S.2.1,0≤b∧b≤1000000) (hI:∀i:Nat,(S.1.getD i kFo).code.size≤1000000) (hE:∀e∈S.2.2,In64 e) (hm:MachR m):kIy S m=stepS S m:=by
 unfold kIy stepS
 cases h:kHy S m.pc with
 |none=>rfl
 |some q =>
  obtain⟨x,n⟩:=q;obtain⟨h1,h2,i,h3⟩:=k2m hB h;have h4:=hI i;have h5:=h1.size;have h6:=h1.arg;refine(qL7 (kZn ⟨⟨?_,hm.sp,hm.fp,hm.st⟩,?_,fun q=>h1.near (by omega),fun q=>?_,hE⟩)).symm
  ·show In64 (m.pc+n);unfold In64;omega
  ·unfold In64;omega
  ·show In64 (m.pc+n+x.arg);unfold In64;omega
end Go.Proofs.YtjdklcjoeanimaaGreat
namespace Go.Vc
variable {c:Cx}{N:Nat}{X0:Nat→Prop}{M:Nat→BV→Prop}{w0:World}{st:St}{K:Exit→St→Prop}
end Go.Vc
namespace Go.Proofs.YtjdklcjoeanimaaGreat
open Go.Vc
attribute [local irreducible] Go.Vc.WP
section
attribute [local go_sem] bxC
abbrev PfX:=kO7×CuX×Op×Int
@[go_sem] def opA (args:List SV) (i:Nat):Op:=match args[i]? with
 |some (.agg [.v (.int _ a),.v (.int _ b)])=>⟨a,b⟩
 | _=>⟨0,0⟩
def kL4 (obs:List (Nat×Ob)):CuX:=match oC obs 1000000 with
 | [.v (.int _ a),.v (.int _ b),.v (.int _ c),_,_,.v (.int _ s),.v (.int _ v),.v (.bool g)]=>((⟨a,b,c,kBs (oR obs 900000),kBs (oR obs 900001)⟩,g),s,v)
 | _=>((⟨0,0,0,[],[]⟩,false),0,0)
def kEz (S:kO7):SV:=.agg [.sl 2 (S.1.map encImage),.sl 1 (S.2.1.map encI),.sl 1 (S.2.2.map encI)]
def kP7 (x:CuX):List (Nat×Ob):=[(1000000,.box 323 (bxC x 900000 900001)),(900000,.sl 3 1 (x.1.1.st.map encI)),(900001,.sl 3 1 (x.1.1.out.map encI))]
@[go_sem] def rbC (x:CuX):List (Nat×Ob):=[(800001,.sl 3 1 (x.1.1.st.map encI)),(800002,.sl 3 1 (x.1.1.out.map encI))]
def kpC (x:CuX):List (Nat×Ob):=[(1000000,.box 323 (bxC x 800001 800002))]
attribute [local go_sem] kL4 kEz kP7 kpC
structure PfOk (x:PfX):Prop where
 st:x.2.1.1.1.st.length=1200
 out:x.2.1.1.1.out.length≤8388608
 sp:0≤x.2.1.1.1.sp∧x.2.1.1.1.sp≤1200
 pc:0≤x.2.1.1.1.pc∧x.2.1.1.1.pc≤16777216
 good:x.2.1.1.2=false
 op:OpB x.2.2.1 x.2.2.2
 en:x.1.2.2.length≤4194304
def kHm (p:Int→Prop):Ctx:=yen [1] (fun args obs=>(spA args 0,kL4 obs,opA args 2,aI args 3))
 (fun x=>[kEz x.1,.ptr 1000000 0 0 0,.agg [vi x.2.2.1.code,vi x.2.2.1.arg],vi x.2.2.2]) (fun x=>kP7 x.2.1) (fun x=>PfOk x∧p x.2.2.1.code) (fun _=>none)
 (fun _=>.tup []) (fun x=>rbC (kA6 x.1.2.2 x.2.2.1 ⟨x.2.1.1.1.pc+x.2.2.2,x.2.1.1.1.sp,x.2.1.1.1.fp,x.2.1.1.1.st,x.2.1.1.1.out⟩,x.2.1.2)) (fun x=>kpC (kA6 x.1.2.2 x.2.2.1 ⟨x.2.1.1.1.pc+x.2.2.2,x.2.1.1.1.sp,x.2.1.1.1.fp,x.2.1.1.1.st,x.2.1.1.1.out⟩,x.2.1.2))
theorem Cy.codes {f:FuncId}{p q:Int→Prop}(h1:Cy Tryz.prog f (kHm p)) (h2:Cy Tryz.prog f (kHm q)):Cy Tryz.prog f (kHm fun c=>p c∨q c):=⟨h1.call,fun d args obs ha=>by
 obtain⟨a1,a2,a3,a4⟩:=ha;rcases a4 with a4|a4
 ·exact h1.holds d args obs ⟨a1,a2,a3,a4⟩
 ·exact h2.holds d args obs ⟨a1,a2,a3,a4⟩⟩
section
noncomputable def kJ5:CL:=[(66,k60),(285,qJm),(276,qJn),(288,kPopS),(287,kL5),(286,kL6),(290,kJ6),(289,kIa),(291,kEy)]
noncomputable def kNo:=mkX kJ5 (kc c58 (kc qJo (kc k93 (kc cPopS (kc cPutS (kc cNearS (kc cDropS (kc qO8 (kc cApplS kn)))))))))
theorem kKd:kNo.tys=tys:=rfl
theorem kKe:kNo.C=kJ5:=rfl
attribute [local go_sem] kKd kKe kJ5 kL5 kL6 kJ6 kIa kEy
end
end
section
def kNv:FP:=⟨9,[fa [1] [],fa [1] [],fa [101] [1],fa [102] [1,2],fa [103] [1,2,3],fa [104] [1,2,3,4],fa [6] [],fa [106] [6],fa [105,107] [1,2,3,4,5,6,7],fn 9,fn 10,fn 11,fn 12],[100,101,102,103,104,105,106,107,108],[],[]⟩
def kNw:FP:=⟨9,[fa [1] [],fa [1] [],fa [118] [1],fa [119] [1,2],fa [120] [1,2,3],fa [121] [1,2,3,4],fa [6] [],fa [123] [6],fa [122,124] [1,2,3,4,5,6,7],fn 9,fn 10,fn 11,fn 12],[117,118,119,120,121,122,123,124,125],[],[]⟩
def kNx:FP:=⟨10,[⟨[1],[],[257],[260,261],[],[]⟩,fc [1] [] [260,261],fc [253] [1] [260,261],fc [254] [1,2] [260,261],fc [255] [1,2,3] [260,261],fc [256] [1,2,3,4] [260,261],fc [1] [] [260,261],fc [258] [6] [260,261],⟨[259],[6,7],[],[261],[],[260]⟩,⟨[257,260],[1,2,3,4,5,6,7,8],[],[],[257],[261]⟩,fn 10,fn 11,fn 12,fn 13],[252,253,254,255,256,257,258,259,260,261],[260,261],[257]⟩
attribute [local go_sem] kNv kNw kNx
attribute [local go_sem] bxC
attribute [local go_sem] kL4 kEz kP7 kpC
section
attribute [local go_sem] kKd kKe kJ5
attribute [local go_sem] kL5 kL6 kJ6 kIa kEy kIm kEq
set_option maxHeartbeats 8000000 in
theorem cPf3:Cy Tryz.prog 275 (kHm fun c=>c=13∨c=11):=by
 refine Cy.yen Tryz.func275 (by kernel_rfl) rfl fun x hx=>?_
 obtain⟨⟨I,B,E⟩,⟨⟨⟨pc,sp,fp,S,O⟩,g⟩,q,v⟩,⟨code,a⟩,n⟩:=x;obtain⟨⟨h1,h2,h3,h4,h5,⟨h6,h7,h8,h9,h10⟩,h11⟩,hp⟩:=hx;simp only at h1 h2 h3 h4 h5 h6 h7 h8 h9 h10 h11 hp⊢;subst h5;refine kFi.go (c:=kNo) Tryz.func275 rfl Tryz.results275 Tryz.ntmps275 zo zs ?_ ?_ ?_
 rotate_right
 intro X0 M w0
 ·refine zP [] [(900000,800001),(900001,800002)] rfl ?_;simp only[go_sem];by_cases k13:code=13
  ·subst k13;have e:kA6 E ⟨13,a⟩ ⟨pc+n,sp,fp,S,O⟩=kHk (kEx (kBi (⟨pc+n,sp,fp,S,O⟩,false) fp) (kBi (⟨pc+n,sp,fp,S,O⟩,false) fp).1.sp) a.toNat:=rfl;rw[e];have hl:(kBi (⟨pc+n,sp,fp,S,O⟩,false) fp).1.st.length=1200:=by rw[k6b];exact h1
   generalize hp:kBi (⟨pc+n,sp,fp,S,O⟩,false) fp=r at hl⊢;obtain⟨⟨rp,rs,rf,rS,rO⟩,rb⟩:=r;simp only[kEx]at hl⊢;obtain⟨ha0,ha1⟩:=h9 zo
   (repeat' (first|apply zS|apply zB|((first|apply zW| refine zf kNv ?_|refine zf kNw ?_|refine zf kNx ?_|refine zd 12 ?_|refine zd 8 ?_);simp only[go_sem,hp,Int.reduceBEq,Int.reduceEq])|apply jAi|omega|rfl|exact h1|exact hl|exact⟨hl,zo⟩|intro _))
  by_cases k11:code=11
  ·subst k11;have e:kA6 E ⟨11,a⟩ ⟨pc+n,sp,fp,S,O⟩=(if(kAd (⟨pc+n,sp,fp,S,O⟩,false)).1=0 then kBe (kAd (⟨pc+n,sp,fp,S,O⟩,false)).2 ((kAd (⟨pc+n,sp,fp,S,O⟩,false)).2.1.pc+a)else(kAd (⟨pc+n,sp,fp,S,O⟩,false)).2):=rfl
   rw[e]
   have hpc:(kAd (⟨pc+n,sp,fp,S,O⟩,false)).2.1.pc=pc+n:=by
    unfold kAd;split
    ·rw[kK7]
    ·rfl
   have h8':=h8 zo;generalize hp:kAd (⟨pc+n,sp,fp,S,O⟩,false)=r at hpc⊢;obtain⟨z,⟨rp,rs,rf,rS,rO⟩,rb⟩:=r;simp only at hpc⊢;subst hpc;by_cases hz:z=0
   ·rw[if_pos hz]
    (repeat' (first|apply zS|apply zB|((first|apply zW| refine zf kNv ?_|refine zf kNw ?_|refine zf kNx ?_|refine zd 12 ?_|refine zd 8 ?_);simp only[go_sem,hp,hz,kBe,Int.reduceBEq,Int.reduceEq])|apply jAi|omega|rfl|exact h1|intro _))
   ·rw[if_neg hz]
    (repeat' (first|apply zS|apply zB|((first|apply zW| refine zf kNv ?_|refine zf kNw ?_|refine zf kNx ?_|refine zd 12 ?_|refine zd 8 ?_);simp only[go_sem,hp,hz,Int.reduceBEq,Int.reduceEq])|apply jAi|omega|rfl|exact h1|intro _))
  omega
 ·rfl
 ·intro h;cases h
end
end
section
def kRx:FP:=⟨9,[fa [1] [],fa [1] [],fa [101] [1],fa [102] [1,2],fa [103] [1,2,3],fa [104] [1,2,3,4],fa [6] [],fa [106] [6],fa [105,107] [1,2,3,4,5,6,7],fn 9,fn 10,fn 11,fn 12],[100,101,102,103,104,105,106,107,108],[],[]⟩
def kRy:FP:=⟨9,[fa [1] [],fa [1] [],fa [118] [1],fa [119] [1,2],fa [120] [1,2,3],fa [121] [1,2,3,4],fa [6] [],fa [123] [6],fa [122,124] [1,2,3,4,5,6,7],fn 9,fn 10,fn 11,fn 12],[117,118,119,120,121,122,123,124,125],[],[]⟩
def kRz:FP:=⟨10,[⟨[1],[],[257],[260,261],[],[]⟩,fc [1] [] [260,261],fc [253] [1] [260,261],fc [254] [1,2] [260,261],fc [255] [1,2,3] [260,261],fc [256] [1,2,3,4] [260,261],fc [1] [] [260,261],fc [258] [6] [260,261],⟨[259],[6,7],[],[261],[],[260]⟩,⟨[257,260],[1,2,3,4,5,6,7,8],[],[],[257],[261]⟩,fn 10,fn 11,fn 12,fn 13],[252,253,254,255,256,257,258,259,260,261],[260,261],[257]⟩
attribute [local go_sem] kRx kRy kRz
attribute [local go_sem] bxC
attribute [local go_sem] kL4 kEz kP7 kpC
section
attribute [local go_sem] kKd kKe kJ5
attribute [local go_sem] kL5 kL6 kJ6 kIa kEy kIm kEq
set_option maxHeartbeats 8000000 in
theorem cPf6:Cy Tryz.prog 275 (kHm fun c=>c=14):=by
 refine Cy.yen Tryz.func275 (by kernel_rfl) rfl fun x hx=>?_
 obtain⟨⟨I,B,E⟩,⟨⟨⟨pc,sp,fp,S,O⟩,g⟩,q,v⟩,⟨code,a⟩,n⟩:=x;obtain⟨⟨h1,h2,h3,h4,h5,⟨h6,h7,h8,h9,h10⟩,h11⟩,hp⟩:=hx;simp only at h1 h2 h3 h4 h5 h6 h7 h8 h9 h10 h11 hp⊢;subst h5;refine kFi.go (c:=kNo) Tryz.func275 rfl Tryz.results275 Tryz.ntmps275 zo zs ?_ ?_ ?_
 rotate_right
 intro X0 M w0
 ·refine zP [] [(900000,800001),(900001,800002)] rfl ?_;simp only[go_sem];subst hp;obtain⟨ha0,ha1⟩:=h9 zo
  have hfp:(kAd (⟨pc+n,sp,fp,S,O⟩,false)).2.1.fp=fp:=by
   unfold kAd;split
   ·rw[kK7]
   ·rfl
  have e:kA6 E ⟨14,a⟩ ⟨pc+n,sp,fp,S,O⟩=(if¬(0≤(kAd (⟨pc+n,sp,fp,S,O⟩,false)).2.1.fp∧(kAd (⟨pc+n,sp,fp,S,O⟩,false)).2.1.fp≤1200)then((kAd (⟨pc+n,sp,fp,S,O⟩,false)).2.1,true)else
   kBi (kDt (kBe (kAd (kEx (kAd (kGk (kAd (⟨pc+n,sp,fp,S,O⟩,false)).2 (kAd (⟨pc+n,sp,fp,S,O⟩,false)).2.1.fp)).2 (kAd (kGk (kAd (⟨pc+n,sp,fp,S,O⟩,false)).2 (kAd (⟨pc+n,sp,fp,S,O⟩,false)).2.1.fp)).1)).2 (kAd (kEx (kAd (kGk (kAd (⟨pc+n,sp,fp,S,O⟩,false)).2 (kAd (⟨pc+n,sp,fp,S,O⟩,false)).2.1.fp)).2 (kAd (kGk (kAd (⟨pc+n,sp,fp,S,O⟩,false)).2 (kAd (⟨pc+n,sp,fp,S,O⟩,false)).2.1.fp)).1)).1) a.toNat) (kAd (⟨pc+n,sp,fp,S,O⟩,false)).1):=rfl
  rw[e];have hl1:(kAd (⟨pc+n,sp,fp,S,O⟩,false)).2.1.st.length=1200:=by rw[kHn];exact h1
  generalize hp1:kAd (⟨pc+n,sp,fp,S,O⟩,false)=r at hl1 hfp⊢;obtain⟨z,⟨rp,rs,rf,rS,rO⟩,rb⟩:=r;simp only[kGk]at hl1 hfp⊢;subst hfp;by_cases hfr:0≤rf∧rf≤1200
  ·rw[if_neg (by simpa using hfr)]
   have hl2:(kAd (⟨rp,rf,rf,rS,rO⟩,rb)).2.1.st.length=1200:=by rw[kHn];exact hl1
   generalize hp2:kAd (⟨rp,rf,rf,rS,rO⟩,rb)=t at hl2⊢;obtain⟨y,⟨tp,ts,tf,tS,tO⟩,tb⟩:=t;simp only[kEx]at hl2⊢;have hl3:(kAd (⟨tp,ts,y,tS,tO⟩,tb)).2.1.st.length=1200:=by rw[kHn];exact hl2
   generalize hp3:kAd (⟨tp,ts,y,tS,tO⟩,tb)=u at hl3⊢;obtain⟨x,⟨up,us,uf,uS,uO⟩,ub⟩:=u;simp only[kBe]at hl3⊢;have hl4:(kDt (⟨x,us,uf,uS,uO⟩,ub) a.toNat).1.st.length=1200:=by rw[kP0];exact hl3
   generalize hp4:kDt (⟨x,us,uf,uS,uO⟩,ub) a.toNat=w at hl4⊢;obtain⟨⟨wp,ws,wf,wS,wO⟩,wb⟩:=w;simp only at hl4⊢
   (repeat' (first|apply zS|apply zB|((first|apply zW| refine zf kRx ?_|refine zf kRy ?_|refine zf kRz ?_|refine zd 12 ?_|refine zd 8 ?_);simp only[go_sem,hfr,hp1,hp2,hp3,hp4,Int.reduceBEq,Int.reduceEq])|apply jAi|omega|rfl|exact h1|exact hl1|exact hl2|exact hl3|exact hl4|exact⟨hl3,zo⟩|intro _))
  ·rw[if_pos (by simpa using hfr)]
   (repeat' (first|apply zS|apply zB|((first|apply zW| refine zf kRx ?_|refine zf kRy ?_|refine zf kRz ?_|refine zd 12 ?_|refine zd 8 ?_);simp only[go_sem,hfr,hp1,Int.reduceBEq,Int.reduceEq])|apply jAi|omega|rfl|exact h1|exact hl1|intro _))
 ·rfl
 ·intro h;cases h
end
end
section
def kNs:FP:=⟨9,[fa [1] [],fa [1] [],fa [101] [1],fa [102] [1,2],fa [103] [1,2,3],fa [104] [1,2,3,4],fa [6] [],fa [106] [6],fa [105,107] [1,2,3,4,5,6,7],fn 9,fn 10,fn 11,fn 12],[100,101,102,103,104,105,106,107,108],[],[]⟩
def kNt:FP:=⟨9,[fa [1] [],fa [1] [],fa [118] [1],fa [119] [1,2],fa [120] [1,2,3],fa [121] [1,2,3,4],fa [6] [],fa [123] [6],fa [122,124] [1,2,3,4,5,6,7],fn 9,fn 10,fn 11,fn 12],[117,118,119,120,121,122,123,124,125],[],[]⟩
def kNu:FP:=⟨10,[⟨[1],[],[257],[260,261],[],[]⟩,fc [1] [] [260,261],fc [253] [1] [260,261],fc [254] [1,2] [260,261],fc [255] [1,2,3] [260,261],fc [256] [1,2,3,4] [260,261],fc [1] [] [260,261],fc [258] [6] [260,261],⟨[259],[6,7],[],[261],[],[260]⟩,⟨[257,260],[1,2,3,4,5,6,7,8],[],[],[257],[261]⟩,fn 10,fn 11,fn 12,fn 13],[252,253,254,255,256,257,258,259,260,261],[260,261],[257]⟩
attribute [local go_sem] kNs kNt kNu
attribute [local go_sem] bxC
attribute [local go_sem] kL4 kEz kP7 kpC
section
attribute [local go_sem] kKd kKe kJ5
attribute [local go_sem] kL5 kL6 kJ6 kIa kEy kIm kEq
set_option maxHeartbeats 8000000 in
theorem cPf2:Cy Tryz.prog 275 (kHm fun c=>c=10∨c=12):=by
 refine Cy.yen Tryz.func275 (by kernel_rfl) rfl fun x hx=>?_
 obtain⟨⟨I,B,E⟩,⟨⟨⟨pc,sp,fp,S,O⟩,g⟩,q,v⟩,⟨code,a⟩,n⟩:=x;obtain⟨⟨h1,h2,h3,h4,h5,⟨h6,h7,h8,h9,h10⟩,h11⟩,hp⟩:=hx;simp only at h1 h2 h3 h4 h5 h6 h7 h8 h9 h10 h11 hp⊢;subst h5;refine kFi.go (c:=kNo) Tryz.func275 rfl Tryz.results275 Tryz.ntmps275 zo zs ?_ ?_ ?_
 rotate_right
 intro X0 M w0
 ·refine zP [] [(900000,800001),(900001,800002)] rfl ?_;simp only[go_sem];by_cases k10:code=10
  ·subst k10;have e:kA6 E ⟨10,a⟩ ⟨pc+n,sp,fp,S,O⟩=(⟨pc+n+a,sp,fp,S,O⟩,false):=rfl;rw[e];have h7':=h8 zo
   (repeat' (first|apply zS|apply zB|((first|apply zW| refine zf kNs ?_|refine zf kNt ?_|refine zf kNu ?_|refine zd 12 ?_|refine zd 8 ?_);simp only[go_sem,Int.reduceBEq,Int.reduceEq])|apply jAi|exact zc2|intro _))
  by_cases k12:code=12
  ·subst k12;have e:kA6 E ⟨12,a⟩ ⟨pc+n,sp,fp,S,O⟩=if(E.length:Int)≤a then(⟨pc+n,sp,fp,S,O⟩,true)else kBe (kBi (⟨pc+n,sp,fp,S,O⟩,false) (pc+n)) (E.getD a.toNat 0):=rfl
   rw[e];by_cases hl:(E.length:Int)≤a
   ·rw[if_pos hl]
    (repeat' (first|apply zS|apply zB|((first|apply zW| refine zf kNs ?_|refine zf kNt ?_|refine zf kNu ?_|refine zd 12 ?_|refine zd 8 ?_);simp only[go_sem,hl,Int.reduceBEq,Int.reduceEq])|apply jAi|exact zc2|intro _))
   ·rw[if_neg hl];obtain⟨ha0,ha1⟩:=h9 zo;obtain⟨k,rfl⟩:=zN a;have hk:k<E.length:=zo;have hr:=kAa encI E k hk;rw[jB2,getD_at hk];generalize hp:kBi (⟨pc+n,sp,fp,S,O⟩,false) (pc+n)=r;obtain⟨⟨rp,rs,rf,rS,rO⟩,rb⟩:=r
    (repeat' (first|apply zS|apply zB|((first|apply zW| refine zf kNs ?_|refine zf kNt ?_|refine zf kNu ?_|refine zd 12 ?_|refine zd 8 ?_);simp only[go_sem,hl,hr,encI,kBe,hp,Int.reduceBEq,Int.reduceEq])|apply jAi|omega|rfl|exact h1|intro _))
  omega
 ·rfl
 ·intro h;cases h
end
end
end Go.Proofs.YtjdklcjoeanimaaGreat
