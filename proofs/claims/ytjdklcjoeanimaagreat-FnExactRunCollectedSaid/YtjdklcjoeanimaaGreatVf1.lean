/- DERIVED. Steps of the proof. -/
import Derived.Test.YtjdklcjoeanimaaGreatVf0
import Derived.Maps.AppendAt
set_option linter.all false
set_option maxHeartbeats 1000000
set_option maxRecDepth 10000
namespace Go.Vc
section
section
variable {P:Program}{tys:List (Nat×TyD)}{N:Nat}{X0:Nat→Prop}{M:Nat→BV→Prop}{w0:World}{st:St}{β:Nat→BV}{a:Act}{w:World}
theorem k3v {X:Nat→Prop}{x:SV}{ds:List SV}{v:Value}(h:x.kE4=some ds) (hR:R w X β x v):∃us:List Value,v=.agg us.toArray∧ds.length=us.length∧∀(k:Nat) (c:SV) (u:Value),ds[k]? = some c→us[k]? = some u→R w X β c u:=by
 unfold SV.kE4 at h;split at h
 case h_1 cs=>cases h;exact hR.kOn
 case h_2 us =>
  cases h;have:=hR.kAn;subst this;refine⟨us.toList,zs,zs,fun k c u hc hu=>?_⟩
  rw[jQ2,hu]at hc;simp only[jIn,jBf]at hc;subst hc;exact .p (.v _)
 case h_3=>cases h
theorem k7f {X:Nat→Prop}:∀{cs:List SV}{l us:List Value},vals cs=some l→cs.length=us.length→(∀(k:Nat) (c:SV) (u:Value),cs[k]? = some c→us[k]? = some u→R w X β c u)→us=l
 | [],l,us,h,hl,_=>by
  cases h
  exact vG1 (by simpa using hl.symm)
 |c::cs,l,us,h,hl,hR=>by
  cases us with
  |nil=>simp at hl
  |cons u us =>
   cases c with
   |v x =>
    simp only[vals]at h
    cases hq:vals cs with
    |none=>rw[hq]at h;cases h
    |some l' =>
     rw[hq]at h;cases h;have e1:=(hR 0 _ _ rfl rfl).kAn;have e2:=k7f hq (by simpa using hl) (fun k c u hc hu=>hR (k+1) c u (by simpa using hc) (by simpa using hu))
     rw[e1,e2]
   | _=>cases h
theorem pr_eq (hty:∀T d,lk T tys=some d→kAs P T d) (h:Sim N X0 M w0 st β a w) {o:Oper}{op:BinOp}{T U:Nat}{x y:Operand}(ho:o.op=.binOp op T x y U) {ob:Prop}{r:SV}
  (hp:st.kIn tys op T x y=some (ob,r)) (hob:ob):Yl P (XX X0 β st.hp) β a w o r:=by
 unfold St.kIn at hp;split at hp
 case h_2=>cases hp
 case h_1 _ _ _ d cs ds hd hx hy =>
  split at hp
  case h_2=>cases hp
  case h_1 _ _ l1 l2 hv1 hv2 =>
   have fin:∀{q:Bool},kBj l1 l2=some q→(st.ev x).need→(st.ev y).need→d.eqs≠[]→l1.map Value.kd=d.eqs→l2.map Value.kd=d.eqs→(op=.eql∨op=.neq)→Yl P (XX X0 β st.hp) β a w o (.v (.bool (if op=.eql then q else !q))):=fun{q} he n1 n2 hne k1 k2 hop=>by
    obtain⟨u1,e1,ln1,c1⟩:=k3v hx (St.kAj h rfl n1);obtain⟨u2,e2,ln2,c2⟩:=k3v hy (St.kAj h rfl n2);have f1:=k7f hv1 ln1 c1;have f2:=k7f hv2 ln2 c2;rw[f1]at e1;rw[f2]at e2;have hT:=hty T d hd;obtain⟨h1,h2,h3⟩:=hT.cmp.resolve_left hne;obtain⟨fs,hu,_⟩:=hT.struct h3;have hag:∀l,kJn P T l=.agg l.toArray:=fun l=>by unfold kJn;rw[hu]
    have hr:=qBs P 6 T _ h1 10000 zo w l1 l2 q k1 k2 he;rw[hag,hag]at hr;rcases hop with rfl|rfl
    ·exact⟨_,by simp[execOp,ho,e1,e2,run_eqGuard_agg w _ T x y _ _ h2,run_eql_struct w T,hr],.p (.v _)⟩
    ·exact⟨_,by simp[execOp,ho,e1,e2,run_eqGuard_agg w _ T x y _ _ h2,run_neq_struct w T,hr],.p (.v _)⟩
   split at hp
   case h_1 _ q he =>
    simp only[jBf,jCx]at hp;obtain⟨rfl,rfl⟩:=hp;obtain⟨n1,n2,n3,n4,n5⟩:=hob;simpa using fin he n1 n2 n3 n4 n5 (.inl rfl)
   case h_2 _ q he =>
    simp only[jBf,jCx]at hp;obtain⟨rfl,rfl⟩:=hp;obtain⟨n1,n2,n3,n4,n5⟩:=hob;simpa using fin he n1 n2 n3 n4 n5 (.inr rfl)
   case h_3=>cases hp
theorem qKx (hty:∀T d,lk T tys=some d→kAs P T d) (h:Sim N X0 M w0 st β a w) {o:Oper}{op:BinOp}{T U:Nat}{x y:Operand}(ho:o.op=.binOp op T x y U) {ob:Prop}{r:SV}
  (hp:st.pr tys (.binOp op T x y U)=some (ob,r)) (hob:ob):Yl P (XX X0 β st.hp) β a w o r:=by
 simp only[St.pr]at hp;split at hp
 case h_1 _ _ p q hx hy =>
  split at hp
  case h_1 _ pp rr hs =>
   simp only[jBf,jCx]at hp;obtain⟨rfl,rfl⟩:=hp;obtain⟨h1,h2,h3⟩:=hob;have e1:=(St.kAj h hx h1).kAn;have e2:=(St.kAj h hy h2).kAn
   have hbl:((lk T tys).map (·.kind)==some 5)=true→P.underlying T=some .bool:=fun hb=>by
    cases hd:lk T tys with
    |none=>rw[hd]at hb;simp at hb
    |some d=>rw[hd]at hb;exact(hty T d hd).bool (by simpa using hb)
   have hr:=qA5 (P:=P) hbl hs h3 x y w;refine⟨rr,?_,.p (.v _)⟩;simp only[Sem.run_bind]at hr;simp only[execOp,ho,e1,e2,Sem.run_bind,hr,Result.andThen_ok,Sem.run_pure]
  case h_2=>exact pr_eq hty h ho hp hob
 case h_2=>exact pr_eq hty h ho hp hob
theorem qNj (h:Sim N X0 M w0 st β a w) {o:Oper}{op:UnOp}{T:Nat}{x:Operand}(ho:o.op=.unOp op T x) {ob:Prop}{r:SV}
  (hp:st.pr tys (.unOp op T x)=some (ob,r)) (hob:ob):Yl P (XX X0 β st.hp) β a w o r:=by
 simp only[St.pr]at hp;split at hp
 case h_1 _ p hx =>
  split at hp
  case h_1 _ pp rr hs =>
   simp only[jBf,jCx]at hp;obtain⟨rfl,rfl⟩:=hp;obtain⟨h1,h3⟩:=hob;have e1:=(St.kAj h hx h1).kAn;have hr:=qA6 (P:=P) hs h3 w;refine⟨rr,?_,.p (.v _)⟩;simp only[execOp,ho,e1,Sem.run_bind,hr,Result.andThen_ok,Sem.run_pure]
  case h_2=>cases hp
 case h_2=>cases hp
theorem qNk (h:Sim N X0 M w0 st β a w) {o:Oper}{c x y:Operand}(ho:o.op=.pick c x y) {ob:Prop}{r:SV}
  (hp:st.pr tys (.pick c x y)=some (ob,r)) (hob:ob):Yl P (XX X0 β st.hp) β a w o r:=by
 simp only[St.pr]at hp;split at hp
 case h_1 _ _ _ cv p q hc hx hy =>
  simp only[jBf,jCx]at hp;obtain⟨rfl,rfl⟩:=hp;obtain⟨hnc,hob⟩:=hob;have ec:=(St.kAj h hc hnc).kAn
  cases cv with
  |true =>
   have e1:=(St.kAj h hx (hob.1 rfl)).kAn
   exact⟨.bool p,by simp[execOp,ho,ec,asBool,e1],.p (.v _)⟩
  |false =>
   have e1:=(St.kAj h hy (hob.2 rfl)).kAn;exact⟨.bool q,by simp[execOp,ho,ec,asBool,e1],.p (.v _)⟩
 case h_2=>cases hp
theorem qA8 (h:Sim N X0 M w0 st β a w) {o:Oper}{x:Operand}(ho:o.op=.nilCheck x) {ob:Prop}{r:SV}
  (hp:st.pr tys (.nilCheck x)=some (ob,r)) (hob:ob):Yl P (XX X0 β st.hp) β a w o r:=by
 simp only[St.pr]at hp;split at hp
 case h_1 _ id s i k hx =>
  simp only[jBf,jCx]at hp;obtain⟨rfl,rfl⟩:=hp;have hr:=St.kAj h hx hob;obtain⟨b,hb,e⟩:=hr.kEr;exact⟨_,by simp[execOp,ho,e],e▸hr⟩
 case h_2 _ s rows i k hx =>
  simp only[jBf,jCx]at hp;obtain⟨rfl,rfl⟩:=hp;have hr:=St.kAj h hx hob;obtain⟨b,off,cap,hb,e⟩:=hr.kMa;exact⟨_,by simp[execOp,ho,e],e▸hr⟩
 case h_3=>cases hp
theorem k7g {T:Nat}{d:TyD}(hT:kAs P T d) (hk:d.kind=3) {f:Nat}{o:Nat×Nat}(hf:d.kH0[f]? = some o) (ho:o.2≠0) (b off:Nat) (w:World) :
  (Instr.fieldAt T (.pointer (some ⟨b,off,none⟩)) f).run P w=.ok (.pointer (some ⟨b,off+o.1,none⟩)) w:=by
 obtain⟨fs,hu,hfs⟩:=hT.struct hk;rw[←hfs,jQ2]at hf
 cases hff:fs.toList[f]? with
 |none=>rw[hff]at hf;cases hf
 |some fd =>
  rw[hff]at hf;simp only[jIn,jBf]at hf;subst hf;have hfa:fs[f]? = some fd:=by simpa using hff
  cases hi:P.info? fd.type with
  |none=>rw[hi]at ho;simp at ho
  |some i =>
   rw[hi]at ho;have hsz:i.size≠0:=by simpa using ho
   simp[Instr.fieldAt,run_underlying hu,hfa,Instr.sureAddr,fieldPlace,Go.sizeOf,typeInfo,hi,hsz,kKo]
theorem k7h (hty:∀T d,lk T tys=some d→kAs P T d) (h:Sim N X0 M w0 st β a w) {o:Oper}{T f:Nat}{x:Operand}(ho:o.op=.fieldAddr T x f) {ob:Prop}{r:SV}
  (hp:st.pr tys (.fieldAddr T x f)=some (ob,r)) (hob:ob):Yl P (XX X0 β st.hp) β a w o r:=by
 simp only[St.pr]at hp;split at hp
 case h_1 _ _ d id s i k hd hx =>
  split at hp
  ·rename_i hk;split at hp
   ·rename_i _ off hf;simp only[jBf,jCx]at hp;obtain⟨rfl,rfl⟩:=hp;obtain⟨b,hb,e⟩:=(St.kAj h hx hob.1).kEr;refine⟨.pointer (some ⟨b,i*s+k+off.1,none⟩),by simp[execOp,ho,e,k7g (hty T d hd) hk hf hob.2],?_⟩
    have:=R.ptr (w:=w) (X:=XX X0 β st.hp) (β:=β) id s i (k+off.1) b hb;simpa[vLk]using this
   ·cases hp
  ·cases hp
 case h_2 _ _ d s rows i k hd hx =>
  split at hp
  ·rename_i hk;split at hp
   ·rename_i _ off hf;simp only[jBf,jCx]at hp;obtain⟨rfl,rfl⟩:=hp;obtain⟨b,off',cap,hb,e⟩:=(St.kAj h hx hob.1).kMa;refine⟨.pointer (some ⟨b,off'+(i*s+k)+off.1,none⟩),by simp[execOp,ho,e,k7g (hty T d hd) hk hf hob.2],?_⟩
    have:=R.kB6 (β:=β) s rows i (k+off.1) b off' cap hb;simpa[vLk]using this
   ·cases hp
  ·cases hp
 case h_3=>cases hp
theorem qKy (hty:∀T d,lk T tys=some d→kAs P T d) (h:Sim N X0 M w0 st β a w) {o:Oper}{T:Nat}{x ix:Operand}(ho:o.op=.index T x ix) {ob:Prop}{r:SV}
  (hp:st.pr tys (.index T x ix)=some (ob,r)) (hob:ob):Yl P (XX X0 β st.hp) β a w o r:=by
 simp only[St.pr]at hp;split at hp
 case h_1 _ _ _ d s n hd hx hi =>
  split at hp
  ·rename_i hk;simp only[jBf,jCx]at hp;obtain⟨rfl,rfl⟩:=hp;obtain⟨h1,h2,h3,h4⟩:=hob;have e1:=(St.kAj h hx h1).kAn;have e2:=(St.kAj h hi h2).kAn;have hlt:n.toNat<s.size:=zo;have hg:s[n.toNat]? = some s[n.toNat]!:=by rw[getElem?_pos s n.toNat hlt,getElem!_pos s n.toNat hlt]
   exact⟨_,by simp[execOp,ho,e1,e2,Instr.index,asIntOf,run_underlying ((hty T d hd).string hk),h3,hg],.p (.v _)⟩
  ·cases hp
 case h_2=>cases hp
theorem qDt (h:Sim N X0 M w0 st β a w) {o:Oper}{i:Nat}{x:Operand}(ho:o.op=.extract x i) {ob:Prop}{r:SV}
  (hp:st.pr tys (.extract x i)=some (ob,r)) (hob:ob):Yl P (XX X0 β st.hp) β a w o r:=by
 simp only[St.pr]at hp;split at hp
 case h_1 _ cs hx =>
  split at hp
  ·rename_i _ c hc;simp only[jBf,jCx]at hp;obtain⟨rfl,rfl⟩:=hp;obtain⟨us,e,hl,hh⟩:=(St.kAj h hx hob).kTq;have hi:i<us.length:=by rw[←hl];exact(jSg.1 hc).1
   have hu:us[i]? = some (us[i]'hi):=jD9 hi;exact⟨us[i]'hi,by simp[execOp,ho,e,Instr.extract,hu],hh i c _ hc hu⟩
  ·cases hp
 case h_2=>cases hp
theorem qA9 (h:Sim N X0 M w0 st β a w) {o:Oper}{fn:Fn}{first caps:Array Operand}(ho:o.op=.makeFunc fn first caps) {ob:Prop}{r:SV}
  (hp:st.pr tys (.makeFunc fn first caps)=some (ob,r)) (hob:ob):Yl P (XX X0 β st.hp) β a w o r:=by
 cases fn<;>try (simp only[St.pr,reduceCtorEq]at hp;done)
 case func f =>
  simp only[St.pr]at hp;split at hp
  ·rename_i hfirst;subst hfirst;simp only[jBf,jCx]at hp;obtain⟨rfl,rfl⟩:=hp;refine⟨.func (.func f) #[] (caps.map a.eval),by simp[execOp,ho,Instr.makeFunc],?_⟩
   have hc:(caps.map a.eval)=(caps.toList.map a.eval).toArray:=Array.toList_inj.1 (by rw[Array.toList_map])
   rw[hc];refine .fn zs fun k c u hk hu=>?_
   rw[jQ2]at hk hu
   cases hx:caps.toList[k]? with
   |none=>rw[hx]at hk;cases hk
   |some x =>
    rw[hx]at hk hu;simp only[jIn,jBf]at hk hu;subst hk hu;exact(St.kC1 h x).strip (hob x (jIc hx))
  ·cases hp
theorem qDu (h:Sim N X0 M w0 st β a w) {y:SV}{v:Value}{rows:List (List SV)}(hy:st.rowsOf y=some rows) (hR:R w (XX X0 β st.hp) β y v) (s:Nat) (hs:∀row∈rows,row.length=s) :
  ((∃p cap,v=.slice p 0 cap)∧rows=[])∨∃b off cap,v=.slice (some ⟨b,off,none⟩) rows.length cap∧∀(i k:Nat) (row:List SV) (c:SV),rows[i]? = some row→row[k]? = some c→∃u,w.cell? ⟨b,off+(i*s+k),none⟩=some u∧Rp w (XX X0 β st.hp) c u:=by
 unfold St.rowsOf at hy;split at hy
 case h_1 s' rows' =>
  cases hy;have hp:=hR.kF4
  cases hp with
  |nil s p cap=>exact .inl ⟨⟨p,cap,rfl⟩,rfl⟩
  |sl b off cap us h1 h2 h3 h4 h5 h6 h7 =>
   refine .inr ⟨b,off,cap,rfl,fun i k row c hr hc=>?_⟩
   have e1:=h4 i row hr;have e2:=hs row (jIc hr);exact⟨us i k,by rw[←e2,e1];exact h5 i k row c hr hc,h7 i k row c hr hc⟩
 case h_2 m =>
  split at hy
  ·rename_i e s' rows' hl;cases hy;have hv:=hR.kB9;have hO:=h.objs m _ hl;generalize β m=bv at hO hv;subst hv
   cases hO with
   |nil e s h=>exact .inl ⟨⟨_,_,congrArg BV.val h⟩,rfl⟩
   |sl b cap cur us hv hh h1 h2 h3 h4 h5 h6 h7 =>
    refine .inr ⟨b,0,cap,congrArg BV.val hv,fun i k row c hr hc=>?_⟩
    have e1:=h4 i row hr;have e2:=hs row (jIc hr);exact⟨us i k,by simp only[World.cell?,hh,vKy];rw[←e2,e1];exact h5 i k row c hr hc,h7 i k row c hr hc⟩
  ·cases hy
 case h_3=>cases hy;exact .inl ⟨⟨_,_,hR.kAn⟩,rfl⟩
 case h_4=>cases hy
theorem k1b {P:Program}(w:World) (g:Value→ByteArray→Sem (ForInStep ByteArray)) (hg:∀n s,g (.int .u8 n) s=pure (.yield (s.push (UInt8.ofNat n.toNat)))):∀(ns:List Int) (s:ByteArray),(forIn (m:=Sem) (ns.map fun n=>(Value.int .u8 n)) s g).run P w=.ok (⟨s.data++(ns.map fun n=>UInt8.ofNat n.toNat).toArray⟩:ByteArray) w
 | [],s=>by simp
 |n::ns,s=>by
  simp only[jHi,List.forIn_cons,Sem.run_bind,hg,Sem.run_pure,Result.andThen_ok];rw[k1b w g hg ns];congr 1;show ByteArray.mk ((s.push _).data++_)=_
  simp[ByteArray.push]
def qDv:Option (List SV)→Int
 |some [.v (.int _ n)]=>n
 | _=>0
theorem pr_str (hty:∀T d,lk T tys=some d→kAs P T d) (h:Sim N X0 M w0 st β a w) {o:Oper}{S T:Nat}{x:Operand}(ho:o.op=.convert S T x) {e d:TyD}(he:lk S tys=some e) (hd:lk T tys=some d) {ob:Prop}{r:SV}
  (hp:st.kGd tys e d x=some (ob,r)) (hob:ob):Yl P (XX X0 β st.hp) β a w o r:=by
 unfold St.kGd at hp;split at hp
 case h_2=>cases hp
 case h_1 _ rows hr =>
  split at hp
  case isFalse=>cases hp
  case isTrue hk =>
   simp only[jBf,jCx]at hp;obtain⟨rfl,rfl⟩:=hp;obtain⟨n1,n2,n3⟩:=hob;have hS:=(hty S e he).slice hk.1;have hT:=(hty T d hd).string hk.2
   cases hq:lk e.elem tys with
   |none=>rw[hq]at n2;cases n2
   |some q =>
    rw[hq]at n2;simp only[jIn,jBf,jCx]at n2;obtain⟨k,hk1,hE⟩:=(hty _ q hq).int n2.1;rw[n2.2.1]at hk1;cases hk1;have hlen:∀row∈rows,row.length=1:=fun row hrow=>by obtain⟨n,rfl⟩:=n3 row hrow;rfl
    have hev:=(St.kC1 h x).strip n1
    have hbase:∀p l c,a.eval x=.slice p l c→(Conv.bytesToString (.slice p l c)).run P w=.ok (.string (strOf rows)) w→Yl P (XX X0 β st.hp) β a w o (.v (.string (strOf rows))):=fun p l c hv hrun =>
     ⟨_,by simp[execOp,ho,hv,convert,run_underlying hS,run_underlying hT,run_underlying hE,hrun],.p (.v _)⟩
    rcases qDu h hr hev 1 hlen with⟨⟨p,cap,hv⟩,rfl⟩|⟨b,off,cap,hv,hc⟩
    ·refine hbase _ _ _ hv ?_
     cases p with
     |none=>simp[Conv.bytesToString,strOf];rfl
     |some ad=>simp[Conv.bytesToString,strOf,loadCells,loadCellsFrom];rfl
    ·refine hbase _ _ _ hv ?_
     let f:Nat→Value:=fun i=>(w.cell? ⟨b,off+i,none⟩).getD undef
     have hf:∀i,i<rows.length→∃n,rows[i]? = some [.v (.int .u8 n)]∧f i=.int .u8 n∧w.cell? ((⟨b,off,none⟩:Addr).add i)=some (f i):=fun i hi=>by
      have hri:rows[i]? = some (rows[i]'hi):=jD9 hi;obtain⟨n,hn⟩:=n3 _ (jCn hi);rw[hn]at hri;obtain⟨u,hu,hR⟩:=hc i 0 _ _ hri rfl;have hu':u=.int .u8 n:=by cases hR;rfl
      subst hu';have:off+(i*1+0)=off+i:=zo;rw[this]at hu;refine⟨n,hri,by simp[f,hu],by rw[kKo,hu];simp[f,hu]⟩
     have hload:=run_loadCells (P:=P) w ⟨b,off,none⟩ rows.length f (fun i hi=>(hf i hi).choose_spec.2.2)
     have hns:∃ns:List Int,(List.range rows.length).map f=ns.map (fun n=>Value.int .u8 n)∧rows.map byteOf=ns.map fun n=>UInt8.ofNat n.toNat:=by
      refine⟨(List.range rows.length).map fun i=>qDv rows[i]?,?_,?_⟩
      ·rw[jRw];apply vDr;intro i hi;obtain⟨n,h1,h2,_⟩:=hf i (jKi.1 hi);simp[h1,h2,qDv]
      ·apply List.ext_getElem?;intro i;rw[jRw,jQ2,jQ2];rcases jFx i rows.length with hi|hi
       ·obtain⟨n,h1,_⟩:=hf i hi;rw[vR2 hi];simp[h1,byteOf,qDv]
       ·rw[vHt hi,vHt (by simpa using hi)]
        rfl
     obtain⟨ns,e1,e2⟩:=hns;simp only[Conv.bytesToString,Sem.run_bind,hload,Result.andThen_ok];rw[show(((List.range rows.length).map f).toArray)=(ns.map (fun n=>Value.int .u8 n)).toArray by rw[e1]]
     rw[List.forIn_toArray,k1b (P:=P) w _ (fun n s=>rfl) ns ByteArray.empty]
     simp[strOf,e2]
theorem qDw (hty:∀T d,lk T tys=some d→kAs P T d) (h:Sim N X0 M w0 st β a w) {o:Oper}{S T:Nat}{x:Operand}(ho:o.op=.convert S T x) {ob:Prop}{r:SV}
  (hp:st.pr tys (.convert S T x)=some (ob,r)) (hob:ob):Yl P (XX X0 β st.hp) β a w o r:=by
 simp only[St.pr]at hp;split at hp
 case h_1 _ _ _ e d k n he hd hx =>
  split at hp
  ·rename_i hk;split at hp
   ·rename_i _ k' hik;simp only[jBf,jCx]at hp;obtain⟨rfl,rfl⟩:=hp;have e1:=(St.kAj h hx hob.1).kAn;obtain⟨ks,_,hus⟩:=(hty S e he).int hk.1;obtain⟨kt,hkt,hut⟩:=(hty T d hd).int hk.2;rw[hik]at hkt;cases hkt;exact⟨_,by simp[execOp,ho,e1,convert,run_underlying hus,run_underlying hut,Conv.intToInt,kYk hob.2],.p (.v _)⟩
   ·cases hp
  ·cases hp
 case h_2 _ _ _ e d he hd _=>exact pr_str hty h ho he hd hp hob
 case h_3=>cases hp
theorem kV2 {T:Nat}(hu:P.underlying T=some .string) (s:ByteArray) (lo hi:Option Value) (a b:Int) (hlo:lo=some (.int .i64 a)∨lo=none∧a=0) (hhi:hi=some (.int .i64 b)∨hi=none∧b=s.size)
  (h0:0≤a) (h1:a≤b) (h2:b≤(s.size:Int)) (w:World):(Instr.sliceAt T (.string s) lo hi none).run P w=.ok (.string (s.extract a.toNat b.toNat)) w:=by
 rcases hlo with rfl|⟨rfl,rfl⟩<;>rcases hhi with rfl|⟨rfl,rfl⟩
 ·have h3:0≤b:=zo;have h4:a≤(b.toNat:Int):=zo;simp only[Instr.sliceAt,Instr.slice,Instr.sliceBounds,Instr.sliceBound,asIntOf,run_underlying hu,Sem.run_bind,Result.andThen_ok,Sem.run_pure,h0,h2,h3,h4,and_self,if_true,wOb,jIv,if_false]
 ·simp[Instr.sliceAt,Instr.slice,Instr.sliceBounds,Instr.sliceBound,asIntOf,run_underlying hu,h0,h1]
 ·have h3:0≤b:=zo;simp[Instr.sliceAt,Instr.slice,Instr.sliceBounds,Instr.sliceBound,asIntOf,run_underlying hu,h2,h3]
 ·simp[Instr.sliceAt,Instr.slice,Instr.sliceBounds,Instr.sliceBound,asIntOf,run_underlying hu]
theorem qNl (rows:List (List SV)) (a b:Option Int) (h0:0≤a.getD 0) (h1:a.getD 0≤b.getD rows.length) (h2:b.getD rows.length≤(rows.length:Int)) :
  kJo rows a b=(rows.take (b.getD rows.length).toNat).drop (a.getD 0).toNat:=by
 cases a<;>cases b<;>simp[kJo]
theorem k1a {T e s:Nat}(hu:P.underlying T=some (.slice e)) (hs:∀w,(Go.sizeOf e).run P w=.ok s w) (p:Option Addr) (n cap:Nat) (hnc:n≤cap) (lo hi:Option Value) (a b:Int) (hlo:lo=some (.int .i64 a)∨lo=none∧a=0) (hhi:hi=some (.int .i64 b)∨hi=none∧b=n)
  (h0:0≤a) (h1:a≤b) (h2:b≤(n:Int)) (w:World):(Instr.sliceAt T (.slice p n cap) lo hi none).run P w=.ok (.slice (if cap=a.toNat then p else p.map (·.add (a.toNat*s))) (b.toNat-a.toNat) (cap-a.toNat)) w:=by
 have h3:0≤b:=zo;have h4:b≤(cap:Int):=zo;have h5:a≤(b.toNat:Int):=zo;rcases hlo with rfl|⟨rfl,rfl⟩<;>rcases hhi with rfl|⟨rfl,rfl⟩
 ·simp[Instr.sliceAt,Instr.slice,Instr.sliceBounds,Instr.sliceBound,asIntOf,run_underlying hu,hs,h0,h3,h4,h5];intro hh;omega
 ·simp[Instr.sliceAt,Instr.slice,Instr.sliceBounds,Instr.sliceBound,asIntOf,run_underlying hu,hs,h0,h1]
 ·simp[Instr.sliceAt,Instr.slice,Instr.sliceBounds,Instr.sliceBound,asIntOf,run_underlying hu,hs,h3,h4]
 ·simp[Instr.sliceAt,Instr.slice,Instr.sliceBounds,Instr.sliceBound,asIntOf,run_underlying hu,hs]
theorem St.qG9 (h:Sim N X0 M w0 st β a w) {o:Option Operand}{p:Prop}{n:Option Int}(hb:st.bnd o=some (p,n)) (hp:p):(∃y k,o=some y∧n=some k∧a.eval y=.int .i64 k)∨o=none∧n=none:=by
 unfold St.bnd at hb;split at hb
 ·cases hb;exact .inr ⟨rfl,rfl⟩
 ·split at hb
  ·rename_i y _ k hk;cases hb;exact .inl ⟨y,k,rfl,rfl,(St.kAj h hk hp).kAn⟩
  ·cases hb
theorem k1c (hty:∀T d,lk T tys=some d→kAs P T d) (h:Sim N X0 M w0 st β a w) {o:Oper}{T:Nat}{x:Operand}{lo hi:Option Operand}(ho:o.op=.slice T x lo hi none) {ob:Prop}{r:SV}
  (hp:st.kDp tys T x lo hi=some (ob,r)) (hob:ob):Yl P (XX X0 β st.hp) β a w o r:=by
 unfold St.kDp at hp;split at hp
 case h_2=>cases hp
 case h_1 _ _ d s rows hd hx =>
  split at hp
  case h_2=>cases hp
  case h_1 _ _ p av q bv hb1 hb2 =>
   split at hp
   case isFalse=>cases hp
   case isTrue hk =>
    simp only[jBf,jCx]at hp;obtain⟨rfl,rfl⟩:=hp;obtain⟨n1,n2,n3,n4,g0,g1,g2⟩:=hob
    cases he:lk d.elem tys with
    |none=>rw[he]at n4;cases n4
    |some de =>
     rw[he]at n4;have hs:de.size=s:=by simpa using n4
     have hT:=(hty T d hd).slice hk;have hS:∀w,(Go.sizeOf d.elem).run P w=.ok s w:=fun w=>by rw[←hs];exact(hty _ de he).sizeOf w
     have hR:=(St.kAj h hx n1).kF4;rw[qNl rows av bv g0 g1 g2];generalize hA:av.getD 0=A at g0 g1;generalize hB:bv.getD rows.length=B at g1 g2
     have l1:lo.map a.eval=some (.int .i64 A)∨lo.map a.eval=none∧A=0:=by
      rcases St.qG9 h hb1 n2 with⟨y,k,rfl,rfl,e⟩|⟨rfl,rfl⟩
      ·left;simp[e,←hA]
      ·right;exact⟨rfl,by simpa using hA.symm⟩
     have l2:hi.map a.eval=some (.int .i64 B)∨hi.map a.eval=none∧B=rows.length:=by
      rcases St.qG9 h hb2 n3 with⟨y,k,rfl,rfl,e⟩|⟨rfl,rfl⟩
      ·left;simp[e,←hB]
      ·right;exact⟨rfl,by simpa using hB.symm⟩
     have fin:∀{p n cap},a.eval x=.slice p n cap→n≤cap→n=rows.length→Rp w (XX X0 β st.hp) (.sl s ((rows.take B.toNat).drop A.toNat)) (.slice (if cap=A.toNat then p else p.map (·.add (A.toNat*s))) (B.toNat-A.toNat) (cap-A.toNat))→Yl P (XX X0 β st.hp) β a w o (.sl s ((rows.take B.toNat).drop A.toNat)):=fun{p n cap} hv hnc hn hr=>by
      subst hn;refine⟨_,?_,.p hr⟩;have:=k1a hT hS p rows.length cap hnc (lo.map a.eval) (hi.map a.eval) A B l1 l2 g0 g1 g2 w;simp[execOp,ho,hv,this]
     generalize hev:a.eval x=v at hR fin
     cases hR with
     |nil s p cap =>
      have e0:A.toNat=0:=by simp at g2;omega
      have e1:B.toNat=0:=by simp at g2;omega
      refine fin rfl (vEs _) rfl ?_;rw[e0,e1]
      exact .nil s _ _
     |sl b off cap us h1 h2 h3 h4 h5 h6 h7 =>
      refine fin rfl h3 rfl ?_;rcases jFx A.toNat B.toNat with hlt|hge
      ·have hne:cap≠A.toNat:=zo;rw[if_neg hne];have hlen:((rows.take B.toNat).drop A.toNat).length=B.toNat-A.toNat:=by simp;omega
       have hget:∀(i:Nat) (row:List SV),((rows.take B.toNat).drop A.toNat)[i]? = some row→rows[A.toNat+i]? = some row:=fun i row hr=>by
        rw[vRw,yHk]at hr;split at hr
        ·exact hr
        ·cases hr
       have:=Rp.sl (w:=w) (X:=XX X0 β st.hp) (s:=s) (rows:=(rows.take B.toNat).drop A.toNat) b (off+A.toNat*s) (cap-A.toNat) (fun i k=>us (A.toNat+i) k) h1 h2 zo (fun i row hr=>h4 _ row (hget i row hr))
        (fun i k row c hr hc=>by
         have:=h5 _ k row c (hget i row hr) hc;rw[wTr]at this;rw[show off+A.toNat*s+(i*s+k)=off+(A.toNat*s+i*s+k)by omega]
         exact this) (fun i k row c hr hc=>h6 _ k row c (hget i row hr) hc) (fun i k row c hr hc=>h7 _ k row c (hget i row hr) hc)
       rw[hlen]at this;simp only[jIn,kKo];exact this
      ·have e1:(rows.take B.toNat).drop A.toNat=[]:=yCu (by simp;omega)
       have e2:B.toNat-A.toNat=0:=zo;rw[e1,e2];exact .nil s _ _
theorem qHa (h:Sim N X0 M w0 st β a w) {o:Oper}{mx:Bool}{x y:Operand}{c:Call}(ho:o.op=.call c) (hc:c.callee=.builtin (if mx then .max else .min)) (ha:c.args.toList=[x,y]) {ob:Prop}{r:SV}
  (hp:st.kFc mx x y=some (ob,r)) (hob:ob):Yl P (XX X0 β st.hp) β a w o r:=by
 unfold St.kFc at hp;split at hp
 case h_2=>cases hp
 case h_1 _ _ p q hx hy =>
  simp only[jBf,jCx]at hp;obtain⟨rfl,rfl⟩:=hp;have e1:=(St.kAj h hx hob.1).kAn;have e2:=(St.kAj h hy hob.2).kAn;have e3:c.args=#[x,y]:=by rw[←vXt (xs:=c.args),ha]
  refine⟨_,?_,.p (.v _)⟩;cases mx<;>simp[execOp,ho,resolve,hc,e3,invoke,builtin,e1,e2,Builtin.min_,Builtin.max_,Builtin.min2,Builtin.max2]<;>split<;>rfl
theorem qHb (h:Sim N X0 M w0 st β a w) {kH0:List (Nat×Nat)}{place:Nat→Option (Nat×Nat)}(hpl:∀f o,kH0[f]? = some o→place f=some o):∀(l:List (Nat×Operand)) (cs:List SV) (cur:Array Value) (p:Prop) (r:List SV),st.bld kH0 l cs=some (p,r)→p→cs.length=cur.size →
  (∀(k:Nat) (c:SV) (u:Value),cs[k]? = some c→cur[k]? = some u→R w (XX X0 β st.hp) β c u) →
  ∃cells,Instr.fill place cur (l.map fun q=>(q.1,a.eval q.2))=some cells∧r.length=cells.size∧∀(k:Nat) (c:SV) (u:Value),r[k]? = some c→cells[k]? = some u→R w (XX X0 β st.hp) β c u
 | [],cs,cur,p,r,hb,_,hl,hc=>by
  simp only[St.bld,jBf,jCx]at hb;obtain⟨_,rfl⟩:=hb
  exact⟨cur,rfl,hl,hc⟩
 | (f,x)::l,cs,cur,p,r,hb,hp,hl,hc=>by
  simp only[St.bld]at hb;split at hb
  case h_2=>cases hb
  case h_1 _ off hoff =>
   split at hb
   case h_2=>cases hb
   case h_1 _ p' r' hb' =>
    simp only[jBf,jCx]at hb;obtain⟨rfl,rfl⟩:=hb;obtain⟨n1,n2,n3,n4,n5⟩:=hp;have hR:=(St.kC1 h x).strip n1;obtain⟨hs,hcc⟩:=hR.cells h.beta n4;have hle:off.1+(a.eval x).cells.size≤cur.size:=by rw[hs,n2,←hl];exact n3
    have hfl:=kV1 off.1 (a.eval x).cells cur hle
    obtain⟨cells,e1,e2,e3⟩:=qHb h hpl l (splice cs off.1 (st.ev x).strip.cells) ((a.eval x).cells.zipIdx.foldl (fun cs (c,j)=>cs.setIfInBounds (off.1+j) c) cur) p' r' hb' n5 (by
     have:=congrArg List.length hfl;rw[jYo]at this;rw[this];simp only[splice,jKs,jOb,jSz,jYo];omega) (fun k c u hk hu=>by
     rw[←jSa,hfl]at hu;unfold splice at hk;rw[kFv _ _ _ _ zo]at hk;have e5:off.1+(a.eval x).cells.size=off.1+(a.eval x).cells.toList.length:=by simp
     rw[e5,kFv _ _ _ _ (by simpa using hle)]at hu
     rw[jYo,hs]at hu;by_cases h1:k<off.1
     ·rw[if_pos h1]at hk hu;rw[jSa]at hu;exact hc k c u hk hu
     ·rw[if_neg h1]at hk hu;by_cases h2:k<off.1+(st.ev x).strip.cells.length
      ·rw[if_pos h2]at hk hu;rw[jSa]at hu;exact hcc _ c u hk hu
      ·rw[if_neg h2]at hk hu;rw[jSa]at hu;exact hc k c u hk hu)
    refine⟨cells,?_,e2,e3⟩;simp only[jHi,Instr.fill,hpl f off hoff];rw[if_neg (by rw[hs,n2];simp;omega)]
    exact e1
theorem qDx {fs:Array Field}(hz:∀f∈fs.toList,(P.info? f.type).isSome=true) (w:World):(fs.mapM fun f=>do pure (f.offset,←Go.sizeOf f.type):Sem (Array (Nat×Nat))).run P w=.ok ((fs.toList.map fun f=>(f.offset,((P.info? f.type).map (·.size)).getD 0)).toArray) w:=by
 obtain⟨l⟩:=fs;simp only[List.mapM_toArray,Sem.run_map]at hz⊢
 have key:∀l:List Field,(∀f∈l,(P.info? f.type).isSome=true)→(l.mapM fun f=>do pure (f.offset,←Go.sizeOf f.type):Sem (List (Nat×Nat))).run P w=.ok (l.map fun f=>(f.offset,((P.info? f.type).map (·.size)).getD 0)) w:=by
  intro l
  induction l with
  |nil=>intro _;simp
  |cons f l ih =>
   intro hz;have h1:=hz f jYt
   cases hi:P.info? f.type with
   |none=>rw[hi]at h1;cases h1
   |some i =>
    have hs:(Go.sizeOf f.type).run P w=.ok i.size w:=by simp[Go.sizeOf,typeInfo,hi]
    simp only[List.mapM_cons,Sem.run_bind,hs,Result.andThen_ok,Sem.run_pure,ih (fun g hg=>hz g (jZr _ hg)),jHi,hi,jIn,jOj]
 rw[key l hz];rfl
theorem qKz (hty:∀T d,lk T tys=some d→kAs P T d) (h:Sim N X0 M w0 st β a w) {o:Oper}{T:Nat}{parts:Array (Nat×Operand)}(ho:o.op=.build T parts) {ob:Prop}{r:SV}
  (hp:st.pr tys (.build T parts)=some (ob,r)) (hob:ob):Yl P (XX X0 β st.hp) β a w o r:=by
 simp only[St.pr]at hp;split at hp
 case h_2=>cases hp
 case h_1 _ d hd =>
  split at hp
  case isFalse=>cases hp
  case isTrue hk =>
   split at hp
   case h_2=>cases hp
   case h_1 _ p r' hb =>
    simp only[jBf,jCx]at hp;obtain⟨rfl,rfl⟩:=hp;have hT:=hty T d hd;obtain⟨fs,hu,hfs⟩:=hT.struct hk;obtain⟨zv,hz,hzc⟩:=hT.zero w
    have hsome:∀f∈fs.toList,(P.info? f.type).isSome=true:=fun f hf=>by
     have:(f.offset,((P.info? f.type).map (·.size)).getD 0)∈d.kH0:=by rw[←hfs];exact jCr.2 ⟨f,hf,rfl⟩
     have:=jDl.1 hob.2 _ this
     cases hi:P.info? f.type with
     |none=>rw[hi]at this;simp at this
     |some i=>rfl
    have hpr:=qDx hsome w;rw[hfs]at hpr
    obtain⟨cells,e1,e2,e3⟩:=qHb h (kH0:=d.kH0) (place:=fun f=>d.kH0.toArray[f]?) (fun f o hf=>by simpa using hf) parts.toList (d.z.map .v) zv.cells p r' hb hob.1 (by rw[←hzc];simp) (fun k c u hc hu=>by
     rw[←hzc,jQ2,jSa,hu]at hc;simp only[jIn,jBf]at hc;subst hc;exact .p (.v _))
    have hparts:(parts.map fun x=>(x.1,a.eval x.2)).toList=parts.toList.map fun p=>(p.1,a.eval p.2):=by simp
    refine⟨.agg cells,?_,?_⟩
    ·simp only[execOp,ho,Instr.build,Sem.run_bind,hz,Result.andThen_ok,run_underlying hu,hpr,hparts,e1,Sem.run_pure]
    ·have:cells=cells.toList.toArray:=by simp
     rw[this];exact .agg (by simpa using e2) (fun k c u hc hu=>e3 k c u hc (by simpa using hu))
theorem qK0 (hty:∀T d,lk T tys=some d→kAs P T d) (h:Sim N X0 M w0 st β a w) {o:Oper}{T:Nat}{x:Operand}{lo hi mx:Option Operand}(ho:o.op=.slice T x lo hi mx) {ob:Prop}{r:SV}
  (hp:st.pr tys (.slice T x lo hi mx)=some (ob,r)) (hob:ob):Yl P (XX X0 β st.hp) β a w o r:=by
 cases mx with
 |some m=>cases lo<;>cases hi<;>simp[St.pr]at hp
 |none =>
  cases lo with
  |some lo =>
   cases hi with
   |some hi =>
    simp only[St.pr]at hp;split at hp
    case h_1 _ _ _ _ d s p q hd hx hl hh =>
     split at hp
     ·rename_i hk;simp only[jBf,jCx]at hp;obtain⟨rfl,rfl⟩:=hp;obtain⟨n1,n2,n3,g0,g1,g2⟩:=hob;have e1:=(St.kAj h hx n1).kAn;have e2:=(St.kAj h hl n2).kAn;have e3:=(St.kAj h hh n3).kAn;exact⟨_,by simp[execOp,ho,e1,e2,e3,kV2 ((hty T d hd).string hk) s (some (.int .i64 p)) (some (.int .i64 q)) p q (.inl rfl) (.inl rfl) g0 g1 g2],.p (.v _)⟩
     ·cases hp
    case h_2=>exact k1c hty h ho hp hob
   |none =>
    simp only[St.pr]at hp;split at hp
    case h_1 _ _ _ d s p hd hx hl =>
     split at hp
     ·rename_i hk;simp only[jBf,jCx]at hp;obtain⟨rfl,rfl⟩:=hp;obtain⟨n1,n2,g0,g1⟩:=hob;have e1:=(St.kAj h hx n1).kAn;have e2:=(St.kAj h hl n2).kAn;exact⟨_,by simp[execOp,ho,e1,e2,kV2 ((hty T d hd).string hk) s (some (.int .i64 p)) none p s.size (.inl rfl) (.inr ⟨rfl,rfl⟩) g0 g1 (Int.le_refl _)],.p (.v _)⟩
     ·cases hp
    case h_2=>exact k1c hty h ho hp hob
  |none =>
   cases hi with
   |some hi =>
    simp only[St.pr]at hp;split at hp
    case h_1 _ _ _ d s q hd hx hh =>
     split at hp
     ·rename_i hk;simp only[jBf,jCx]at hp;obtain⟨rfl,rfl⟩:=hp;obtain⟨n1,n3,g0,g1⟩:=hob;have e1:=(St.kAj h hx n1).kAn;have e3:=(St.kAj h hh n3).kAn;exact⟨_,by simp[execOp,ho,e1,e3,kV2 ((hty T d hd).string hk) s none (some (.int .i64 q)) 0 q (.inr ⟨rfl,rfl⟩) (.inl rfl) (Int.le_refl _) g0 g1],.p (.v _)⟩
     ·cases hp
    case h_2=>exact k1c hty h ho hp hob
   |none=>exact k1c hty h ho hp hob
theorem kTu {T:Nat}{x:Operand}{v:Value}{n:Nat}{o:Oper}{c:Call}(ho:o.op=.call c) (hc:c.callee=.builtin .len) (ha:c.args.toList=[x]) (hA:c.argTypes.toList=[T]) (he:a.eval x=v)
  (hr:(Builtin.len_ #[T] o.type #[v]).run P w=.ok (.int .i64 n) w):(execOp a.eval o).run P w=.ok (.value (.int .i64 n)) w:=by
 have e1:c.args=#[x]:=by rw[←vXt (xs:=c.args),ha]
 have e2:c.argTypes=#[T]:=by rw[←vXt (xs:=c.argTypes),hA]
 simp[execOp,ho,resolve,hc,e1,e2,invoke,builtin,he,hr]
theorem pr_len (hty:∀T d,lk T tys=some d→kAs P T d) (h:Sim N X0 M w0 st β a w) {o:Oper}{T:Nat}{x:Operand}{c:Call}(ho:o.op=.call c) (hc:c.callee=.builtin .len) (ha:c.args.toList=[x]) (hA:c.argTypes.toList=[T]) {ob:Prop}{r:SV}
  (hp:st.kGe tys T x=some (ob,r)) (hob:ob):Yl P (XX X0 β st.hp) β a w o r:=by
 unfold St.kGe at hp;split at hp
 case h_1 _ _ d s hd hx =>
  split at hp
  ·rename_i hk;simp only[jBf,jCx]at hp;obtain⟨rfl,rfl⟩:=hp;have e1:=(St.kAj h hx hob).kAn;exact⟨_,kTu ho hc ha hA e1 (by simp[Builtin.len_,run_underlying ((hty T d hd).string hk),goInt]),.p (.v _)⟩
  ·cases hp
 case h_2 _ _ d hd hx =>
  split at hp
  ·rename_i hk;simp only[jBf,jCx]at hp;obtain⟨rfl,rfl⟩:=hp;have e1:=(St.kAj h hx hob).kAn;exact⟨_,kTu ho hc ha hA e1 (by simp[Builtin.len_,run_underlying ((hty T d hd).slice hk),goInt]),.p (.v _)⟩
  ·cases hp
 case h_3 _ _ d s rows hd hx =>
  split at hp
  ·rename_i hk;simp only[jBf,jCx]at hp;obtain⟨rfl,rfl⟩:=hp;rcases slice_form (St.kAj h hx hob).kF4 with⟨⟨pp,pc,e1⟩,rfl⟩|⟨b,off,cap,e1,_⟩
   ·exact⟨_,kTu ho hc ha hA e1 (by simp[Builtin.len_,run_underlying ((hty T d hd).slice hk),goInt]),.p (.v _)⟩
   ·exact⟨_,kTu ho hc ha hA e1 (by simp[Builtin.len_,run_underlying ((hty T d hd).slice hk),goInt]),.p (.v _)⟩
  ·cases hp
 case h_4 _ _ d id hd hx =>
  split at hp
  ·rename_i hk
   have go:∀{ob':Ob}{s n':Nat},lk id st.hp=some ob'→ob'.shp=some (s,n')→(st.ev x).need→Yl P (XX X0 β st.hp) β a w o (.v (.int .i64 n')):=fun{ob' s n'} hl hsh hn=>by
    have e0:=(St.kAj h hx hn).kB9;rcases(h.objs id _ hl).shp hsh with⟨e1,rfl⟩|⟨b,cap,e1,_⟩
    ·exact⟨_,kTu ho hc ha hA (e0.trans e1) (by simp[Builtin.len_,run_underlying ((hty T d hd).slice hk),goInt]),.p (.v _)⟩
    ·exact⟨_,kTu ho hc ha hA (e0.trans e1) (by simp[Builtin.len_,run_underlying ((hty T d hd).slice hk),goInt]),.p (.v _)⟩
   split at hp
   ·rename_i _ e s rows hl;simp only[jBf,jCx]at hp;obtain⟨rfl,rfl⟩:=hp;exact go hl rfl hob
   ·rename_i _ e s rows hl;simp only[jBf,jCx]at hp;obtain⟨rfl,rfl⟩:=hp;exact go hl rfl hob
   ·rename_i _ e s rows i0 row0 hl;simp only[jBf,jCx]at hp;obtain⟨rfl,rfl⟩:=hp;exact go hl rfl hob
   ·cases hp
  ·cases hp
 case h_5=>cases hp
theorem k7i (hty:∀T d,lk T tys=some d→kAs P T d) (h:Sim N X0 M w0 st β a w) {o:Oper}{op:Op}(ho:o.op=op) {ob:Prop}{r:SV}
  (hp:st.pr tys op=some (ob,r)) (hob:ob):Yl P (XX X0 β st.hp) β a w o r:=by
 cases op with
 |move x =>
  simp only[St.pr,jBf,jCx]at hp;obtain⟨_,rfl⟩:=hp
  exact⟨_,by simp[execOp,ho],St.kC1 h x⟩
 |assign x =>
  simp only[St.pr,jBf,jCx]at hp;obtain⟨_,rfl⟩:=hp
  exact⟨_,by simp[execOp,ho],St.kC1 h x⟩
 |pick c x y=>exact qNk h ho hp hob
 |binOp op T x y U=>exact qKx hty h ho hp hob
 |unOp op T x=>exact qNj h ho hp hob
 |nilCheck x=>exact qA8 h ho hp hob
 |fieldAddr T x f=>exact k7h hty h ho hp hob
 |indexAddr T x ix=>exact k7d hty h ho hp hob
 |load T x=>exact qNi hty h ho hp hob
 |index T x ix=>exact qKy hty h ho hp hob
 |extract x i=>exact qDt h ho hp hob
 |makeFunc fn first caps=>exact qA9 h ho hp hob
 |convert S T x=>exact qDw hty h ho hp hob
 |slice T x lo hi mx=>exact qK0 hty h ho hp hob
 |call c =>
  simp only[St.pr]at hp;split at hp
  case h_1 _ hc =>
   split at hp
   case h_1 _ _ x T ha hA=>exact pr_len hty h ho hc ha hA hp hob
   case h_2=>cases hp
  case h_2 _ hc =>
   split at hp
   case h_1 _ x y ha=>exact qHa (mx:=false) h ho hc ha hp hob
   case h_2=>cases hp
  case h_3 _ hc =>
   split at hp
   case h_1 _ x y ha=>exact qHa (mx:=true) h ho hc ha hp hob
   case h_2=>cases hp
  case h_4=>cases hp
 |build T parts=>exact qKz hty h ho hp hob
 | _=>simp[St.pr]at hp
end
end
structure Flat (w:World) (X:Nat→Prop) (s:Nat) (rows:List (List SV)) (L:List Value):Prop where
 len:L.length=rows.length*s
 row:∀(i:Nat) (row:List SV),rows[i]? = some row→row.length=s
 one:∀u∈L,u.oneCell'=true
 cell:∀(i k:Nat) (row:List SV) (c:SV),rows[i]? = some row→row[k]? = some c→∃u,L[i*s+k]? = some u∧Rp w X c u
theorem kQz {i k s n:Nat}(hi:i<n) (hk:k<s):i*s+k<n*s:=by
 have:(i+1)*s≤n*s:=wF7 s hi;rw[wTr]at this;omega
theorem kTv {j s n:Nat}(h:j<n*s):j / s<n∧j%s<s∧j / s*s+j%s=j:=by
 have hs:0<s:=by
  rcases vVo s with h0|h0
  ·subst h0;simp at h
  ·exact h0
 refine⟨(Nat.div_lt_iff_lt_mul hs).2 h,Nat.mod_lt _ hs,?_⟩;have:=Nat.div_add_mod j s;rw[Nat.mul_comm];exact this
theorem Flat.mono {w w':World}{X X':Nat→Prop}{s:Nat}{rows:List (List SV)}{L:List Value}(hs:Same X w w') (hX:∀b,b<w.heap.size→X' b→X b) (h:Flat w X s rows L):Flat w' X' s rows L :=
 ⟨h.len,h.row,h.one,fun i k row c a b=>let⟨u,h1,h2⟩:=h.cell i k row c a b;⟨u,h1,h2.mono hs hX⟩⟩
theorem Flat.append {w:World}{X:Nat→Prop}{s:Nat}{r1 r2:List (List SV)}{l1 l2:List Value}(h1:Flat w X s r1 l1) (h2:Flat w X s r2 l2):Flat w X s (r1++r2) (l1++l2) where
 len:=by rw[jKs,jKs,h1.len,h2.len,wTr]
 row:=fun i row hr=>by
  rw[vM3]at hr;split at hr
  ·exact h1.row i row hr
  ·exact h2.row _ row hr
 one:=fun u hu=>by
  rcases jTf.1 hu with h|h
  ·exact h1.one u h
  ·exact h2.one u h
 cell:=fun i k row c hr hc=>by
  rw[vM3]at hr;split at hr
  ·rename_i hi;obtain⟨u,hu,hR⟩:=h1.cell i k row c hr hc;exact⟨u,by rw[vHz (jSg.1 hu).1];exact hu,hR⟩
  ·rename_i hi;obtain⟨u,hu,hR⟩:=h2.cell (i-r1.length) k row c hr hc;refine⟨u,?_,hR⟩;have e:i*s=r1.length*s+(i-r1.length)*s:=by rw[←wTr];congr 1;omega
   rw[vDs (by rw[h1.len];omega),h1.len]
   have e2:i*s+k-r1.length*s=(i-r1.length)*s+k:=zo;rw[e2];exact hu
theorem ObR.owns {w:World}{X:Nat→Prop}{β:Nat→BV}{v:BV}{e s:Nat}{rows:List (List SV)}(h:ObR w X β v (.sl e s rows)) :
  ∃L,w.ownsRow 0 e s v.val rows.length L∧Flat w X s rows L:=by
 cases h with
 |nil e s h=>subst h;exact⟨[],World.ownsRow_nil w 0 e s,zs,zs,zs,zs⟩
 |sl b cap cur us hv hh h1 h2 h3 h4 h5 h6 h7 =>
  have hle:rows.length*s≤cur.size:=by rw[h3];exact wF7 s h1
  have hg:∀j,j<rows.length*s→(cur.toList.take (rows.length*s))[j]? = some (us (j / s) (j%s)):=fun j hj=>by
   obtain⟨a,b,c⟩:=kTv hj;have hr:rows[j / s]? = some (rows[j / s]'a):=jD9 a;have hl:=h4 _ _ hr;have hc:(rows[j / s]'a)[j%s]? = some ((rows[j / s]'a)[j%s]'zo):=jD9 zo;have:=h5 _ _ _ _ hr hc;rw[c]at this;rw[jYq hj,jSa];exact this
  refine⟨cur.toList.take (rows.length*s),⟨by simp[vI3 hle],.inr ⟨b,cap,cur,congrArg BV.val hv,vEs _,hh,h1,h2,h3,rfl⟩⟩,by simp[vI3 hle],h4,fun u hu=>?_,fun i k row c hr hc=>?_⟩
  ·obtain⟨j,hj⟩:=yBj.1 hu
   have hlt:j<rows.length*s:=by
    have:=(jSg.1 hj).1;simp only[jOb]at this;omega
   rw[hg j hlt]at hj;cases hj;obtain⟨a,b,c⟩:=kTv hlt;have hr:rows[j / s]? = some (rows[j / s]'a):=jD9 a;have hl:=h4 _ _ hr;exact h6 _ _ _ _ hr (jD9 (by omega:j%s<(rows[j / s]'a).length))
  ·have hi:i<rows.length:=(jSg.1 hr).1;have hk:k<s:=by rw[←h4 i row hr];exact(jSg.1 hc).1
   refine⟨us i k,?_,h7 i k row c hr hc⟩;rw[jYq (kQz hi hk),jSa];exact h5 i k row c hr hc
theorem ObR.k7j {w:World}{X:Nat→Prop}{β:Nat→BV}{v:BV}{e s:Nat}{rows:List (List SV)}(h:ObR w X β v (.sl e s rows)):v=plain v.val:=by
 cases h with
 |nil e s h=>rw[h];rfl
 |sl b cap cur us hv=>rw[hv];rfl
theorem ObR.kTw {w:World}{X:Nat→Prop}{β:Nat→BV}{v:Value}{base e s:Nat}{rows:List (List SV)}{L:List Value}(h:w.ownsRow base e s v rows.length L) (hf:Flat w X s rows L):ObR w X β (plain v) (.sl e s rows):=by
 rcases h.2 with⟨hv,hn⟩|⟨b,cap,cur,hv,_,hh,h1,h2,h3,h4⟩
 ·have:rows=[]:=vG1 hn;subst this;exact .nil e s (congrArg plain hv)
 ·have key:∀i k row c,rows[i]? = some row→row[k]? = some c→∃u,cur[i*s+k]? = some u∧u.oneCell'=true∧Rp w X c u:=fun i k row c hr hc=>by
   obtain⟨u,hu,hR⟩:=hf.cell i k row c hr hc;have hlt:=(jSg.1 hu).1;refine⟨u,?_,hf.one u (jIc hu),hR⟩;rw[←h4]at hu hlt;simp only[jOb]at hlt;rw[jYq zo,jSa]at hu;exact hu
  refine .sl b cap cur (fun i k=>(cur[i*s+k]?).getD undef) (congrArg plain hv) hh h1 h2 h3 hf.row (fun i k row c hr hc=>?_) (fun i k row c hr hc=>?_) (fun i k row c hr hc=>?_)
  ·obtain⟨u,hu,_⟩:=key i k row c hr hc;rw[hu];rfl
  ·obtain⟨u,hu,h1,_⟩:=key i k row c hr hc;rw[hu];exact h1
  ·obtain⟨u,hu,_,h1⟩:=key i k row c hr hc;rw[hu];exact h1
theorem Rp.flat {w:World}{X:Nat→Prop}{s:Nat}{rows:List (List SV)}{b off cap:Nat}(h:Rp w X (.sl s rows) (.slice (some ⟨b,off,none⟩) rows.length cap)) :
  ∃L,Flat w X s rows L∧∀j u,L[j]? = some u→w.cell? ⟨b,off+j,none⟩=some u:=by
 have key:∀v,v=Value.slice (some ⟨b,off,none⟩) rows.length cap→Rp w X (.sl s rows) v→∃L,Flat w X s rows L∧∀j u,L[j]? = some u→w.cell? ⟨b,off+j,none⟩=some u:=by
  intro v hv h
  cases h with
  |nil s p cap=>exact⟨[],⟨zs,zs,zs,zs⟩,zs⟩
  |sl b' off' cap' us h1 h2 h3 h4 h5 h6 h7 =>
   injection hv with e1 e2 e3
   injection e1 with e1
   injection e1 with e4 e5 e6
   subst e4 e5
   have hg:∀j,j<rows.length*s→((List.range (rows.length*s)).map fun j=>us (j / s) (j%s))[j]? = some (us (j / s) (j%s)):=fun j hj=>by
    rw[jQ2,vR2 hj];rfl
   refine⟨(List.range (rows.length*s)).map fun j=>us (j / s) (j%s),⟨zs,h4,fun u hu=>?_,fun i k row c hr hc=>?_⟩,fun j u hu=>?_⟩
   ·obtain⟨j,hj,rfl⟩:=jCr.1 hu;have hlt:j<rows.length*s:=by simpa using hj
    obtain⟨a,_,_⟩:=kTv hlt;have hr:rows[j / s]? = some (rows[j / s]'a):=jD9 a;have hl:=h4 _ _ hr;exact h6 _ _ _ _ hr (jD9 (by omega:j%s<(rows[j / s]'a).length))
   ·have hi:i<rows.length:=(jSg.1 hr).1;have hk:k<s:=by rw[←h4 i row hr];exact(jSg.1 hc).1
    refine⟨us i k,?_,h7 i k row c hr hc⟩;rw[hg _ (kQz hi hk)];have hs:0<s:=zo;rw[Nat.mul_comm i s,Nat.mul_add_div hs,Nat.div_eq_of_lt hk,Nat.mul_add_mod,Nat.mod_eq_of_lt hk,vVn]
   ·have hlt:j<rows.length*s:=by
     have:=(jSg.1 hu).1;simpa using this
    rw[hg j hlt]at hu;cases hu;obtain⟨a,b1,c⟩:=kTv hlt;have hr:rows[j / s]? = some (rows[j / s]'a):=jD9 a;have hl:=h4 _ _ hr;have:=h5 _ _ _ _ hr (jD9 (by omega:j%s<(rows[j / s]'a).length))
    rw[c]at this;exact this
 exact key _ rfl h
def kCy (st:St) (z:List SV):List (Nat×Operand)→List (List SV)→List (List SV)
 | [],rows=>rows
 | (i,x)::l,rows=>kCy st z l (rows.set i (st.ev x).strip.cells)
def kCi (st:St) (n s:Nat):List (Nat×Operand)→Prop
 | []=>True
 | (i,x)::l=>(st.ev x).need∧i<n∧(st.ev x).strip.cells.length=s∧(st.ev x).strip.cells.all SV.pur=true∧kCi st n s l
def St.app (st:St) (j d:Nat) (ob:Ob):St:={ fr:=(d,.own j)::er d (st.kill j).fr,hp:=(j,ob)::(st.kill j).hp }
def St.wrt (st:St) (j:Nat) (ob:Ob):St:={ st with hp:=(j,ob)::er j st.hp }
def St.eff (tys:List (Nat×TyD)) (o:Oper) (st:St) (K:St→Prop):Prop :=
 match o.op with
 | .alloc T=>match o.dst,lk T tys with
  |some d,some t=>t.z.all Value.oneCell'=true∧K (st.new d (.box T (t.z.map .v)) (.ptr d 0 0 0))
  | _,_=>False
 | .box T x=>match o.dst with
  |some d=>(st.ev x).need∧(st.ev x).strip.cells.all SV.one=true∧K (st.new d (.box T (st.ev x).strip.cells) (.ptr d 0 0 0))
  | _=>False
 | .buildSlice T n parts=>match o.dst,lk T tys with
  |some d,some t=>match lk t.elem tys with
   |some e=>t.kind=1∧0<e.size∧n*e.size≤16777216∧e.z.length=e.size∧e.z.all Value.oneCell'=true∧kCi st n e.size parts.toList ∧
     K (st.new d (.sl t.elem e.size (kCy st (e.z.map .v) parts.toList (List.replicate n (e.z.map .v)))) (.own d))
   |none=>False
  | _,_=>False
 | .makeSlice T l c=>match o.dst,lk T tys,(st.ev l).strip,(st.ev c).strip with
  |some d,some t,.v (.int .i64 n),.v (.int .i64 m)=>match lk t.elem tys with
   |some e=>t.kind=1∧(st.ev l).need∧(st.ev c).need∧0≤n∧n≤m∧m*(e.bytes:Int)≤281474976710656∧0<e.bytes∧e.z.length=e.size∧e.z.all Value.oneCell'=true ∧
     K (st.new d (.sl t.elem e.size (List.replicate n.toNat (e.z.map .v))) (.own d))
   |none=>False
  | _,_,_,_=>False
 | .store T p x=>match lk T tys,(st.ev p).strip with
  |some t,.ptr id s i k=>match lk id st.hp with
   |some (.box e cs)=>(st.ev p).need∧(st.ev x).need∧i=0∧(st.ev x).strip.cells.length=t.size∧(st.ev x).strip.cells.all SV.one=true∧k+t.size≤cs.length ∧
     K (st.wrt id (.box e (splice cs k (st.ev x).strip.cells)))
   |some (.sl e s' rows)=>(st.ev p).need∧(st.ev x).need∧s=s'∧i<rows.length∧(st.ev x).strip.cells.length=t.size∧(st.ev x).strip.cells.all SV.pur=true∧k+t.size≤s ∧
     K (st.wrt id (.sl e s' (rows.set i (splice (rowAt rows i) k (st.ev x).strip.cells))))
   |some (.dq e s' rows i0 row0)=>(st.ev p).need∧(st.ev x).need∧s=s'∧i=i0∧(st.ev x).strip.cells.length=t.size∧(st.ev x).strip.cells.all SV.one=true∧((st.ev x).strip.cells.all fun c=>!c.kFl)=true∧k+t.size≤s ∧
     K (st.wrt id (.dq e s' rows i0 (splice row0 k (st.ev x).strip.cells)))
   | _=>False
  | _,_=>False
 | .call c=>match c.callee with
  | .builtin .append=>match o.dst,c.args.toList,c.argTypes.toList with
   |some d,[x,y],[T,T']=>match lk T tys,st.rowsOf (st.ev y).strip with
    |some t,some news=>match lk t.elem tys with
     |some e=>T=T'∧t.kind=1∧(st.ev x).need∧(st.ev y).need∧0<e.size∧0<e.bytes∧e.z.length=e.size ∧
      (match(st.ev x).strip with
      | .own j=>match lk j st.hp with
       |some (.sl e' s' rows)=>j<1000000∧e'=t.elem∧s'=e.size∧(rows.length+news.length)*e.bytes≤140737488355328∧(∀row∈news,row.length=e.size)∧K (st.app j d (.sl e' s' (rows++news)))
       | _=>False
      | .v (.slice none 0 0)=>news.length*e.bytes≤140737488355328∧(∀row∈news,row.length=e.size)∧K (st.new d (.sl t.elem e.size news) (.own d))
      | _=>False)
     |none=>False
    | _,_=>False
   | _,_,_=>False
  | _=>False
 | _=>False
section
theorem k4z {w:World}{X:Nat→Prop}{s n m:Nat}{z:Array Value}{zl:List Value}(hz:z.toList=zl) (hs:zl.length=s) (h1:zl.all Value.oneCell'=true) (hm:n*s≤m) :
  Flat w X s (List.replicate n (zl.map .v)) (((Array.range m).map (z[·%z.size]!)).toList.take (n*s)):=by
 have hzs:z.size=s:=by rw[←hs,←hz];simp
 have hg:∀j,j<n*s→(((Array.range m).map (z[·%z.size]!)).toList.take (n*s))[j]? = some (z[j%z.size]!):=fun j hj=>by
  rw[jYq hj,jSa,Array.getElem?_map,Array.getElem?_range,if_pos zo];rfl
 have hzg:∀k,k<s→z[k]! = zl[k]?.getD undef∧∃u,zl[k]? = some u:=fun k hk=>by
  have hk':k<z.size:=zo;have:zl[k]? = some (z[k]'hk'):=by rw[←hz,jSa,jVn hk']
  rw[getElem!_pos z k hk',this];exact⟨rfl,_,rfl⟩
 refine⟨?_,fun i row hr=>?_,fun u hu=>?_,fun i k row c hr hc=>?_⟩
 ·simp[vI3 hm]
 ·rw[yDc]at hr;split at hr
  ·cases hr;simp[hs]
  ·cases hr
 ·obtain⟨j,hj⟩:=yBj.1 hu
  have hlt:j<n*s:=by
   have:=(jSg.1 hj).1;simp only[jOb]at this;omega
  rw[hg j hlt]at hj;cases hj;obtain⟨_,hks,_⟩:=kTv hlt;rw[hzs];obtain⟨e,v,hv⟩:=hzg (j%s) hks;rw[e,hv];exact jDl.1 h1 v (jIc hv)
 ·rw[yDc]at hr;split at hr
  ·rename_i hi;cases hr;rw[jQ2]at hc
   cases hv:zl[k]? with
   |none=>rw[hv]at hc;cases hc
   |some v =>
    rw[hv]at hc;simp only[jIn,jBf]at hc;subst hc;have hk:k<s:=by rw[←hs];exact(jSg.1 hv).1
    refine⟨v,?_,.v v⟩;rw[hg _ (kQz hi hk),hzs];have:(i*s+k)%s=k:=by rw[Nat.mul_comm,Nat.mul_add_mod,Nat.mod_eq_of_lt hk]
    rw[this,(hzg k hk).1,hv];rfl
  ·cases hr
theorem idx_ne {i i' k k' s:Nat}(hk:k<s) (hk':k'<s) (h:i≠i'):i*s+k<i'*s∨i'*s+s≤i*s+k:=by
 rcases jFx i i' with hlt|hge
 ·left;have:(i+1)*s≤i'*s:=wF7 s hlt;rw[wTr]at this;omega
 ·right;have:(i'+1)*s≤i*s:=wF7 s zo;rw[wTr]at this;omega
theorem Flat.set {w:World}{X:Nat→Prop}{s:Nat}{rows:List (List SV)}{L:List Value}(h:Flat w X s rows L) {i:Nat}(hi:i<rows.length) {row:List SV}{new:List Value}
  (hr:row.length=s) (hn:new.length=s) (h1:∀u∈new,u.oneCell'=true) (hc:∀(k:Nat) (c:SV) (u:Value),row[k]? = some c→new[k]? = some u→Rp w X c u) :
  Flat w X s (rows.set i row) (L.take (i*s)++new++L.drop (i*s+new.length)):=by
 have hle:i*s+new.length≤L.length:=by
  rw[h.len,hn];have:(i+1)*s≤rows.length*s:=wF7 s hi;rw[wTr]at this;omega
 refine⟨?_,fun i' row' hr'=>?_,fun u hu=>?_,fun i' k row' c hr' hc'=>?_⟩
 ·simp only[jKs,jOb,jSz,jP9];rw[←h.len];omega
 ·rw[vVw]at hr';split at hr'
  ·cases hr';exact hr
  ·exact h.row i' row' hr'
 ·simp only[jTf]at hu;rcases hu with(hu|hu)|hu
  ·exact h.one u (List.mem_of_mem_take hu)
  ·exact h1 u hu
  ·exact h.one u (yHw hu)
 ·rw[vVw]at hr';split at hr'
  ·rename_i he;cases hr';subst he;have hk:k<s:=by rw[←hr];exact(jSg.1 hc').1
   have hu:new[k]? = some (new[k]'zo):=jD9 zo;refine⟨new[k]'zo,?_,hc k c _ hc' hu⟩;rw[kFv L new _ _ hle,if_neg zo,if_pos zo];have:i*s+k-i*s=k:=zo;rw[this];exact hu
  ·rename_i he;obtain⟨u,hu,hR⟩:=h.cell i' k row' c hr' hc';have hk:k<s:=by rw[←h.row i' row' hr'];exact(jSg.1 hc').1
   refine⟨u,?_,hR⟩;rw[kFv L new _ _ hle];rcases idx_ne (i:=i') (i':=i) hk (show 0<s by omega) (fun e=>he e.symm)with hlt|hge
   ·rw[if_pos hlt];exact hu
   ·rw[if_neg zo,if_neg zo];exact hu
section
variable {P:Program}{tys:List (Nat×TyD)}{N:Nat}{X0:Nat→Prop}{M:Nat→BV→Prop}{w0:World}{st:St}{β:Nat→BV}{a:Act}{w:World}
def Ok (N:Nat) (X0:Nat→Prop) (M:Nat→BV→Prop) (w0:World) (K:St→Prop) (a:Act) (w:World):Prop:=∃st β,K st∧Sim N X0 M w0 st β a w
theorem kQ9 (h:Sim N X0 M w0 st β a w) {o:Oper}{d:Nat}(hod:o.dst=some d) (hd:d<N) {w':World}{v:Value}(hrun:(execOp a.eval o).run P w=.ok (.value v) w')
  (hb:Go.RowKit.Below w.heap.size w w') {ob:Ob}(hv1:v.oneCell'=true)
  (hv:∀b,blk v=some b→w.heap.size≤b∧b<w'.heap.size) (hob:∀X':Nat→Prop,(∀b,b<w.heap.size→X' b→XX X0 β st.hp b)→ObR w' X' β (plain v) ob) {x:SV}
  (hx:x=.own d∨x=.ptr d 0 0 0∧∃b,v=.pointer (some ⟨b,0,none⟩)) {K:St→Prop}(hK:K (st.new d ob x)) {Q:Exit→Act→World→Prop}:o.wp P a w (Ok N X0 M w0 K) Q:=by
 unfold Oper.wp;rw[hrun,Oper.upon_value,hod];obtain⟨β',h'⟩:=h.fresh (v:=plain v) hd hb hv1 hv hob (hx.imp id fun⟨e,b,hb⟩=>⟨e,b,congrArg plain hb⟩)
 exact⟨_,β',hK,h'⟩
theorem kIt (w:World) (o:Obj):Go.RowKit.Below w.heap.size w (w.alloc o):=(vVj _ _).alloc (jDu _) o
theorem k1d (X:Nat→Prop) (w:World) (o:Obj):Same X w (w.alloc o):=⟨(kIt w o).size,fun b hb _=>(kIt w o).block b hb⟩
theorem qBu {T:Nat}{cs:Array Value}{l:List SV}(hl:cs.size=l.length) (h1:∀u∈cs.toList,u.oneCell'=true) {X:Nat→Prop}
  (hc:∀(k:Nat) (c:SV) (u:Value),l[k]? = some c→cs[k]? = some u→R w X β c u) {X':Nat→Prop}(hX:∀b,b<w.heap.size→X' b→X b) :
  ObR (w.alloc (.cells cs T)) X' β (plain (.pointer (some ⟨w.heap.size,0,none⟩))) (.box T l) :=
 .box w.heap.size cs rfl (heap_alloc_new w _) hl.symm fun k c u hk hu=>⟨h1 u (jIc (by rw[jSa];exact hu)),(hc k c u hk hu).mono (k1d X w _) hX⟩
theorem k40 (hty:∀T d,lk T tys=some d→kAs P T d) (h:Sim N X0 M w0 st β a w) {o:Oper}{T:Nat}(ho:o.op=.alloc T) (hN:∀d,o.dst=some d→d<N) {K:St→Prop}
  (hw:st.eff tys o K) {Q:Exit→Act→World→Prop}:o.wp P a w (Ok N X0 M w0 K) Q:=by
 unfold St.eff at hw;rw[ho]at hw;simp only at hw;split at hw
 case h_1 _ _ d t hd ht =>
  obtain⟨h1,hK⟩:=hw;obtain⟨zv,hz,hzc⟩:=(hty T t ht).zero w;have hall:∀u∈zv.cells.toList,u.oneCell'=true:=by rw[hzc];exact jDl.1 h1
  refine kQ9 h hd (hN d hd) (w':=w.alloc (.cells zv.cells T)) (v:=.pointer (some ⟨w.heap.size,0,none⟩)) ?_ (kIt w _) rfl (fun b hb=>?_) (fun X' hX=>qBu (X:=XX X0 β st.hp) ?_ hall (fun k c u hk hu=>?_) hX) (.inr ⟨rfl,_,rfl⟩) hK
  ·simp[execOp,ho,Instr.alloc,hz,newVar,newRow]
  ·cases hb;exact⟨jDu _,zs⟩
  ·rw[←hzc];simp
  ·rw[←hzc,jQ2,jSa,hu]at hk;simp only[jIn,jBf]at hk;subst hk;exact .p (.v _)
 case h_2=>exact hw.elim
theorem qBv (h:Sim N X0 M w0 st β a w) {o:Oper}{T:Nat}{x:Operand}(ho:o.op=.box T x) (hN:∀d,o.dst=some d→d<N) {K:St→Prop}
  (hw:st.eff tys o K) {Q:Exit→Act→World→Prop}:o.wp P a w (Ok N X0 M w0 K) Q:=by
 unfold St.eff at hw;rw[ho]at hw;simp only at hw;split at hw
 case h_1 _ d hd =>
  obtain⟨hn,h1,hK⟩:=hw;have hR:=(St.kC1 h x).strip hn;obtain⟨hs,hc⟩:=hR.cells h.beta h1;refine kQ9 h hd (hN d hd) (w':=w.alloc (.cells (a.eval x).cells T)) (v:=.pointer (some ⟨w.heap.size,0,none⟩)) ?_ (kIt w _) rfl (fun b hb=>?_) (fun X' hX=>qBu hs (hR.kOq h.beta h1) hc hX) (.inr ⟨rfl,_,rfl⟩) hK
  ·simp[execOp,ho,Instr.box,newVar,newRow]
  ·cases hb;exact⟨jDu _,zs⟩
 case h_2=>exact hw.elim
theorem qBw {e s n cap:Nat}{cur:Array Value}{rows:List (List SV)}{X:Nat→Prop}(hn:rows.length=n) (hcap:n≤cap) (hmax:cap≤maxLen) (hsz:cur.size=cap*s) (hf:Flat w X s rows (cur.toList.take (n*s)))
  {X':Nat→Prop}(hX:∀b,b<w.heap.size→X' b→X b):ObR (w.alloc (.cells cur e)) X' β (plain (.slice (some ⟨w.heap.size,0,none⟩) n cap)) (.sl e s rows):=by
 subst hn;exact .kTw (base:=0) ⟨hf.len,.inr ⟨w.heap.size,cap,cur,rfl,vEs _,heap_alloc_new w _,hcap,hmax,hsz,rfl⟩⟩ (hf.mono (k1d X w _) hX)
theorem qBx (h:Sim N X0 M w0 st β a w) {n s:Nat}{z:List SV}:∀(l:List (Nat×Operand)) (rows:List (List SV)) (cur:Array Value),rows.length=n→cur.size=n*s→Flat w (XX X0 β st.hp) s rows cur.toList→kCi st n s l →
  ∃cells,Instr.fill (fun i=>some (i*s,s)) cur (l.map fun p=>(p.1,a.eval p.2))=some cells∧cells.size=n*s∧(kCy st z l rows).length=n∧Flat w (XX X0 β st.hp) s (kCy st z l rows) cells.toList
 | [],rows,cur,hn,hs,hf,_=>⟨cur,rfl,hs,hn,hf⟩
 | (i,x)::l,rows,cur,hn,hs,hf,hp=>by
  obtain⟨h1,h2,h3,h4,h5⟩:=hp;have hR:=(St.kC1 h x).strip h1;obtain⟨hsz,hc⟩:=hR.cells h.beta (kTt h4)
  have hle:i*s+(a.eval x).cells.size≤cur.size:=by
   rw[hs,hsz,h3];have:(i+1)*s≤n*s:=wF7 s h2;rw[wTr]at this;omega
  have hfl:=kV1 (i*s) (a.eval x).cells cur hle
  have hset:=hf.set (i:=i) zo (row:=(st.ev x).strip.cells) (new:=(a.eval x).cells.toList) h3 (by rw[jYo,hsz,h3]) (hR.kOq h.beta (kTt h4))
   (fun k c u hk hu=>((hc k c u hk (by rw[jSa]at hu;exact hu)).pur (jDl.1 h4 c (jIc hk))).2)
  rw[jYo,←hfl]at hset
  obtain⟨cells,e1,e2,e3,e4⟩:=qBx h (z:=z) l (rows.set i (st.ev x).strip.cells) ((a.eval x).cells.zipIdx.foldl (fun cs (c,j)=>cs.setIfInBounds (i*s+j) c) cur) (by simpa using hn)
   (by
    have:=hset.len;rw[jYo,jP9,hn]at this;exact this) hset h5
  refine⟨cells,?_,e2,e3,e4⟩;simp only[jHi,Instr.fill];rw[if_neg (by simp[hsz,h3];rw[hsz,h3]at hle;omega)]
  exact e1
end
end
section
section
variable {P:Program}{tys:List (Nat×TyD)}{N:Nat}{X0:Nat→Prop}{M:Nat→BV→Prop}{w0:World}{st:St}{β:Nat→BV}{a:Act}{w:World}
theorem kOr (hty:∀T d,lk T tys=some d→kAs P T d) (h:Sim N X0 M w0 st β a w) {o:Oper}{T n:Nat}{parts:Array (Nat×Operand)}(ho:o.op=.buildSlice T n parts) (hN:∀d,o.dst=some d→d<N) {K:St→Prop}
  (hw:st.eff tys o K) {Q:Exit→Act→World→Prop}:o.wp P a w (Ok N X0 M w0 K) Q:=by
 unfold St.eff at hw;rw[ho]at hw;simp only at hw;split at hw
 case h_2=>exact hw.elim
 case h_1 _ _ d t hd ht =>
  split at hw
  case h_2=>exact hw.elim
  case h_1 _ e he =>
   obtain⟨hk,hpos,hlim,hzl,hz1,hp,hK⟩:=hw;have hT:=(hty T t ht).slice hk;have hE:=hty t.elem e he;obtain⟨zv,hz,hzc⟩:=hE.zero w
   have hflat0:Flat w (XX X0 β st.hp) e.size (List.replicate n (e.z.map .v)) (((Array.range (n*e.size)).map (zv.cells[·%zv.cells.size]!)).toList):=by
    have:=k4z (w:=w) (X:=XX X0 β st.hp) (n:=n) (m:=n*e.size) hzc hzl hz1 (jDu _);rw[vDk zs]at this;exact this
   obtain⟨cells,kUg,hcs,hrl,hfl⟩:=qBx h (z:=e.z.map .v) parts.toList (List.replicate n (e.z.map .v)) _ zs zs hflat0 hp
   have hrun:(execOp a.eval o).run P w=.ok (.value (.slice (some ⟨w.heap.size,0,none⟩) n n)) (w.alloc (.cells cells t.elem)):=by
    have hparts:(parts.map fun x=>(x.1,a.eval x.2)).toList=parts.toList.map fun p=>(p.1,a.eval p.2):=by simp
    by_cases h0:n*e.size=0
    ·have hc0:(Array.range (n*e.size)).map (fun x=>zv.cells[x%zv.cells.size]!)=(Array.range (n*e.size)).map (fun x=>(#[]:Array Value)[x%(#[]:Array Value).size]!):=by rw[h0];simp
     rw[hc0]at kUg;simp[execOp,ho,Instr.buildSlice,run_underlying hT,hE.sizeOf,show¬(16777216<n*e.size)by omega,h0,newRow,hparts]at kUg⊢
     simp[kUg]
    ·simp[execOp,ho,Instr.buildSlice,run_underlying hT,hE.sizeOf,show¬(16777216<n*e.size)by omega,h0,newRow,hparts,hz,kUg]
   have hn63:n≤maxLen:=by
    have:=Nat.le_mul_of_pos_right n hpos;simp only[maxLen];omega
   refine kQ9 h hd (hN d hd) hrun (kIt w _) rfl (fun b hb=>?_) (fun X' hX=>qBw (X:=XX X0 β st.hp) hrl (jDu _) hn63 hcs ?_ hX) (.inl rfl) hK
   ·cases hb;exact⟨jDu _,zs⟩
   ·rw[vDk (by simp[hcs])]
    exact hfl
theorem kVx (hty:∀T d,lk T tys=some d→kAs P T d) (h:Sim N X0 M w0 st β a w) {o:Oper}{T:Nat}{l c:Operand}(ho:o.op=.makeSlice T l c) (hN:∀d,o.dst=some d→d<N) {K:St→Prop}
  (hw:st.eff tys o K) {Q:Exit→Act→World→Prop}:o.wp P a w (Ok N X0 M w0 K) Q:=by
 unfold St.eff at hw;rw[ho]at hw;simp only at hw;split at hw
 case h_2=>exact hw.elim
 case h_1 _ _ _ _ d t n m hd ht hl hc =>
  split at hw
  case h_2=>exact hw.elim
  case h_1 _ e he =>
   obtain⟨hk,n1,n2,h0,hnm,hb,hbp,hzl,hz1,hK⟩:=hw;have hT:=(hty T t ht).slice hk;have hE:=hty t.elem e he;obtain⟨i,zv,hi,his,hib,hiz,hzc⟩:=hE.get;have e1:=(St.kAj h hl n1).kAn;have e2:=(St.kAj h hc n2).kAn
   have hm:m≤281474976710656:=by
    have h1:m*1≤m*(e.bytes:Int):=yIr zo zo;omega
   have hmk:=run_make (P:=P) w T t.elem i zv hT hi hiz .i64 .i64 n m h0 hnm (by rw[hib,Int.mul_comm];exact hb) zo
   rw[his]at hmk;have hzn:(madeCells zv.cells (m.toNat*e.size)).size=m.toNat*e.size:=size_madeCells _ _;have hle:n.toNat*e.size≤m.toNat*e.size:=wF7 _ zo
   refine kQ9 h hd (hN d hd) (w':=w.alloc (.cells (madeCells zv.cells (m.toNat*e.size)) t.elem)) (v:=.slice (some ⟨w.heap.size,0,none⟩) n.toNat m.toNat) ?_ (kIt w _) rfl (fun b hb=>?_)
    (fun X' hX=>qBw (X:=XX X0 β st.hp) zs zo (by simp only[maxLen];omega) hzn (k4z hzc hzl hz1 hle) hX) (.inl rfl) hK
   ·simp[execOp,ho,e1,e2,hmk]
   ·cases hb;exact⟨jDu _,zs⟩
theorem kY7 {T:Nat}{t:TyD}(hT:kAs P T t) {b off:Nat}{cur:Array Value}{e:Nat}(hh:w.heap[b]? = some (.cells cur e (0,0))) {v:Value}(hs:v.cells.size=t.size) (h1:∀u∈v.cells.toList,u.oneCell'=true)
  (hle:off+t.size≤cur.size):(storeVar T ⟨b,off,none⟩ v).run P w=.ok () (w.setRow b (cur.toList.take off++v.cells.toList++cur.toList.drop (off+v.cells.toList.length)).toArray):=by
 have hr:=run_storeCells_at (P:=P) b off e v.cells.toList 0 cur w hh (by simp[hs];omega) h1
 simp only[vVn]at hr;simp only[storeVar,Sem.run_bind,hT.sizeOf,Result.andThen_ok,hs,ne_eq,not_true,if_false];exact hr
theorem qDy {α:Type}(C new:List α) (base k s m:Nat) (hk:k+new.length≤s) (hb:base+s≤m) (hm:m≤C.length) :
  (C.take (base+k)++new++C.drop (base+k+new.length)).take m =
   (C.take m).take base++(((C.take m).drop base).take k++new++((C.take m).drop (base+(k+new.length))).take (s-(k+new.length)))++(C.take m).drop (base+s):=by
 apply List.ext_getElem?;intro j;by_cases hj:j<m
 ·rw[jYq hj,kFv _ _ _ _ zo];simp only[jPf];by_cases h1:j<base
  ·rw[if_pos zo,vHz (by simp;omega),jYq h1,jYq hj]
  ·rw[vDs (by simp;omega)]
   have l1:((C.take m).take base).length=base:=by simp;omega
   have l2:(((C.take m).drop base).take k).length=k:=by simp;omega
   have l3:(((C.take m).drop (base+(k+new.length))).take (s-(k+new.length))).length=s-(k+new.length):=by simp;omega
   rw[l1];by_cases h2:j<base+k
   ·rw[if_pos h2,vHz zo,jYq zo,vRw,jYq zo];congr 1;omega
   ·rw[if_neg h2,vDs zo,l2];by_cases h3:j<base+k+new.length
    ·rw[if_pos h3,vHz zo];congr 1;omega
    ·rw[if_neg h3,vDs zo];by_cases h4:j<base+s
     ·rw[vHz zo,jYq zo,vRw,jYq zo];congr 1;omega
     ·rw[vDs zo,l3,vRw,jYq zo];congr 1;omega
 ·rw[vHt (by simp;omega),vHt]
  simp only[jKs,jOb,jSz];omega
theorem setRow_size (w:World) (b:Nat) (cs:Array Value):(w.setRow b cs).heap.size=w.heap.size:=by simp[World.setRow]
theorem k41 (hty:∀T d,lk T tys=some d→kAs P T d) (h:Sim N X0 M w0 st β a w) {o:Oper}{T:Nat}{p x:Operand}(ho:o.op=.store T p x) (hd0:o.dst=none) {K:St→Prop}
  (hw:st.eff tys o K) {Q:Exit→Act→World→Prop}:o.wp P a w (Ok N X0 M w0 K) Q:=by
 unfold St.eff at hw;rw[ho]at hw;simp only at hw
 have fin:∀{b off e:Nat}{cur:Array Value}{t:TyD}{id:Nat}{ob ob':Ob},lk T tys=some t→a.eval p=.pointer (some ⟨b,off,none⟩)→w.heap[b]? = some (.cells cur e (0,0))→(a.eval x).cells.size=t.size →
   (∀u∈(a.eval x).cells.toList,u.oneCell'=true)→off+t.size≤cur.size→lk id st.hp=some ob→(β id).ft b →
   ObR (w.setRow b (cur.toList.take off++(a.eval x).cells.toList++cur.toList.drop (off+(a.eval x).cells.toList.length)).toArray) (XX X0 β st.hp) β (β id) ob'→K (st.wrt id ob')→o.wp P a w (Ok N X0 M w0 K) Q:=by
  intro b off e cur t id ob ob' ht hv hh hs h1 hle hl hbb hob hK;unfold Oper.wp
  have hr:(execOp a.eval o).run P w=.ok .skip (w.setRow b (cur.toList.take off++(a.eval x).cells.toList++cur.toList.drop (off+(a.eval x).cells.toList.length)).toArray):=by
   simp only[execOp,ho,Instr.storeAt,hv,Instr.sureAddr,Sem.run_bind,Sem.run_pure,Result.andThen_ok,kY7 (hty T t ht) hh hs h1 hle]
  rw[hr,Oper.upon_skip,hd0];refine⟨_,β,hK,?_⟩;exact h.write hl rfl rfl rfl (by rw[setRow_size];exact jDu _) (fun b' _ hne=>setRow_other w b b' _ (fun e=>hne (by rw[e];exact hbb))) hob
 split at hw
 case h_2=>exact hw.elim
 case h_1 _ _ t id s i k ht hp =>
  split at hw
  case h_1 _ e cs hl =>
   obtain⟨n1,n2,rfl,hcl,hc1,hk,hK⟩:=hw;obtain⟨b',hb',hv⟩:=(St.kAj h hp n1).kEr;have hR:=(St.kC1 h x).strip n2;obtain⟨hs,hcc⟩:=hR.cells h.beta hc1;have hob:=h.objs id _ hl
   cases hob with
   |box b cur hvb hh hlen hc =>
    have hbb:b'=b:=by rw[hvb]at hb';simpa[blk,plain]using hb'.symm
    subst hbb
    replace hb':=(h.objs id _ hl).kPj hb'
    refine fin (id:=id) (off:=k) ht (by rw[hv];simp) hh (by rw[hs,hcl]) (hR.kOq h.beta hc1) zo hl hb' (.box b' _ hvb (setRow_heap w b' cur _ e (0,0) hh) ?_ fun j c u hj hu=>?_) hK
    ·simp only[splice,jKs,jOb,jSz,vLv,jYo];rw[hs];omega
    ·simp only[wIf]at hu;unfold splice at hj;rw[kFv _ _ _ _ zo]at hj;rw[kFv _ _ _ _ (by rw[jYo,jYo,hs];omega)]at hu
     rw[jYo,hs]at hu
     have hS:Same (XX X0 β st.hp) w (w.setRow b' (cur.toList.take k++(a.eval x).cells.toList++cur.toList.drop (k+(a.eval x).cells.toList.length)).toArray) :=
      ⟨by rw[setRow_size];exact jDu _,fun b2 _ hn=>setRow_other w b' b2 _ (fun e=>hn (by rw[e];exact .inr ⟨id,_,hl,hb'⟩))⟩
     by_cases h1:j<k
     ·rw[if_pos h1]at hj hu;rw[jSa]at hu;exact⟨(hc j c u hj hu).1,(hc j c u hj hu).2.mono hS (fun _ _ hh=>hh)⟩
     ·rw[if_neg h1]at hj hu;by_cases h2:j<k+(st.ev x).strip.cells.length
      ·rw[if_pos h2]at hj hu;rw[jSa]at hu;have:=hcc _ c u hj hu;exact⟨this.one h.beta (jDl.1 hc1 c (jIc hj)),this.mono hS (fun _ _ hh=>hh)⟩
      ·rw[if_neg h2]at hj hu;rw[jSa]at hu;exact⟨(hc j c u hj hu).1,(hc j c u hj hu).2.mono hS (fun _ _ hh=>hh)⟩
  case h_2 _ e s' rows hl =>
   obtain⟨n1,n2,rfl,hi,hcl,hcp,hk,hK⟩:=hw;obtain⟨b',hb',hv⟩:=(St.kAj h hp n1).kEr;have hR:=(St.kC1 h x).strip n2;obtain⟨hs,hcc⟩:=hR.cells h.beta (kTt hcp);have hob:=h.objs id _ hl;obtain⟨L,hown,hfl⟩:=hob.owns;rcases hown.2 with⟨hvb,_⟩|⟨b,cap,cur,hvb,_,hh,h1,h2,h3,h4⟩
   ·rw[hvb]at hb';cases hb'
   ·have hbb:b'=b:=by rw[hvb]at hb';simpa[blk,plain]using hb'.symm
    subst hbb
    replace hb':=hob.kPj hb'
    have hrl:(rowAt rows i).length=s:=(ObR.cell hob hi).1
    have hbase:i*s+s≤rows.length*s:=by
     have:(i+1)*s≤rows.length*s:=wF7 s hi;rw[wTr]at this;omega
    have hcap:rows.length*s≤cap*s:=wF7 s h1;refine fin (id:=id) (off:=i*s+k) ht hv hh (by rw[hs,hcl]) (hR.kOq h.beta (kTt hcp)) zo hl hb' ?_ hK
    have hS:Same (XX X0 β st.hp) w (w.setRow b' (cur.toList.take (i*s+k)++(a.eval x).cells.toList++cur.toList.drop (i*s+k+(a.eval x).cells.toList.length)).toArray) :=
     ⟨by rw[setRow_size];exact jDu _,fun b2 _ hn=>setRow_other w b' b2 _ (fun e=>hn (by rw[e];exact .inr ⟨id,_,hl,hb'⟩))⟩
    have hnl:(a.eval x).cells.toList.length=t.size:=by rw[jYo,hs,hcl]
    have hrow:rows[i]? = some (rowAt rows i):=by unfold rowAt;rw[jD9 hi];rfl
    have hLlen:L.length=rows.length*s:=hfl.len
    have hset:=hfl.set hi (row:=splice (rowAt rows i) k (st.ev x).strip.cells) (new:=((L.drop (i*s)).take k++(a.eval x).cells.toList++(L.drop (i*s+(k+t.size))).take (s-(k+t.size))))
     (by simp only[splice,jKs,jOb,jSz];omega)
     (by simp only[jKs,jOb,jSz,hnl];omega)
     (fun u hu=>by
      simp only[jTf]at hu;rcases hu with(hu|hu)|hu
      ·exact hfl.one u (yHw (List.mem_of_mem_take hu))
      ·exact hR.kOq h.beta (kTt hcp) u hu
      ·exact hfl.one u (yHw (List.mem_of_mem_take hu)))
     (fun j c u hj hu=>by
      unfold splice at hj;rw[kFv _ _ _ _ zo]at hj;have hl1:((L.drop (i*s)).take k).length=k:=by simp only[jOb,jSz];omega
      by_cases q1:j<k
      ·rw[if_pos q1]at hj;rw[jPf,vHz zo,jYq q1,vRw]at hu;obtain⟨u',hu',hr'⟩:=hfl.cell i j _ c hrow hj;rw[hu']at hu;cases hu;exact hr'
      ·rw[if_neg q1]at hj;by_cases q2:j<k+(st.ev x).strip.cells.length
       ·rw[if_pos q2]at hj;rw[jPf,vDs zo,hl1,vHz zo,jSa]at hu;exact((hcc _ c u hj hu).pur (jDl.1 hcp c (jIc hj))).2
       ·rw[if_neg q2]at hj;have hjs:j<s:=by rw[←hrl];exact(jSg.1 hj).1
        rw[vDs (by simp only[jKs];omega),jYq (by simp only[jKs];omega),vRw]at hu
        simp only[jKs,hl1,hnl]at hu;have e2:i*s+(k+t.size)+(j-(k+t.size))=i*s+j:=zo;rw[e2]at hu;obtain⟨u',hu',hr'⟩:=hfl.cell i j _ c hrow hj;rw[hu']at hu;cases hu;exact hr')
    rw[hob.k7j];refine ObR.kTw (base:=0) (L:=L.take (i*s)++((L.drop (i*s)).take k++(a.eval x).cells.toList++(L.drop (i*s+(k+t.size))).take (s-(k+t.size)))++L.drop (i*s+((L.drop (i*s)).take k++(a.eval x).cells.toList++(L.drop (i*s+(k+t.size))).take (s-(k+t.size))).length)) ⟨?_,.inr ⟨b',cap,_,by rw[jP9];exact hvb,vEs _,setRow_heap w b' cur _ e (0,0) hh,by rw[jP9];exact h1,h2,?_,?_⟩⟩ (hset.mono hS (fun _ _ hh=>hh))
    ·rw[hset.len]
    ·simp only[vLv,jKs,jOb,jSz,hnl,jYo];omega
    ·rw[jP9]
     have e1:((L.drop (i*s)).take k++(a.eval x).cells.toList++(L.drop (i*s+(k+t.size))).take (s-(k+t.size))).length=s:=by
      simp only[jKs,jOb,jSz,hnl];omega
     have hcur:cur.toList.length=cap*s:=by rw[jYo,h3]
     have e2:=qDy cur.toList (a.eval x).cells.toList (i*s) k s (rows.length*s) (by rw[hnl];omega) hbase zo
     rw[e1,←h4];rw[hnl]at e2⊢;exact e2
  case h_3 _ e s' rows i0 row0 hl =>
   obtain⟨n1,n2,rfl,rfl,hcl,hc1,hns,hk,hK⟩:=hw;obtain⟨b',hb',hv⟩:=(St.kAj h hp n1).kEr;have hR:=(St.kC1 h x).strip n2;obtain⟨hs,hcc⟩:=hR.cells h.beta hc1;have hone:=hR.kOq h.beta hc1;have hob:=h.objs id _ hl;have hbft:=hob.kPj hb';generalize hbv:β id=bv at hob hb' hbft
   cases hob with
   |dq b cap cur us fs hvb hh h1 h2 h3 h4 h5 h6 h7 h8 h9 h10 h11 h12 h13 hF =>
    have hbb:b'=b:=by rw[hvb]at hb';simpa[blk]using hb'.symm
    subst hbb
    have hbase:i*s+s≤rows.length*s:=by
     have:(i+1)*s≤rows.length*s:=wF7 s h4;rw[wTr]at this;omega
    have hcap:rows.length*s≤cap*s:=wF7 s h1;have hnl:(a.eval x).cells.toList.length=t.size:=by rw[jYo,hs,hcl]
    have hle:i*s+k+t.size≤cur.size:=zo;generalize hw':w.setRow b' (cur.toList.take (i*s+k)++(a.eval x).cells.toList++cur.toList.drop (i*s+k+(a.eval x).cells.toList.length)).toArray=w';have hoth:∀b2,b2≠b'→w'.heap[b2]? = w.heap[b2]?:=fun b2 hne=>by rw[←hw'];exact setRow_other w b' b2 _ hne
    have hS:Same (XX X0 β st.hp) w w' :=
     ⟨by rw[←hw',setRow_size];exact jDu _,fun b2 _ hn=>hoth b2 (fun e=>hn (by rw[e];exact .inr ⟨id,_,hl,by rw[hbv];exact hbft⟩))⟩
    have hh':w'.heap[b']? = some (.cells (cur.toList.take (i*s+k)++(a.eval x).cells.toList++cur.toList.drop (i*s+k+(a.eval x).cells.toList.length)).toArray e (0,0)):=by rw[←hw'];exact setRow_heap w b' cur _ e (0,0) hh
    generalize kSh:(cur.toList.take (i*s+k)++(a.eval x).cells.toList++cur.toList.drop (i*s+k+(a.eval x).cells.toList.length)).toArray=cur' at hh'
    have hget:∀j,cur'[j]? = if j<i*s+k then cur[j]? else if j<i*s+k+t.size then(a.eval x).cells[j-(i*s+k)]? else cur[j]?:=fun j=>by
     rw[←kSh,wIf,kFv _ _ _ _ (by rw[hnl,jYo];exact hle),hnl,jSa,jSa]
    have hsize:cur'.size=cur.size:=by
     rw[←kSh,vLv];simp only[jKs,jOb,jSz,hnl,jYo];omega
    let us':Nat→Nat→Value:=fun i' k'=>(cur'[i'*s+k']?).getD undef
    have hfull:∀i' k',i'<rows.length→k'<s→cur'[i'*s+k']? = some (us' i' k'):=fun i' k' q1 q2=>by
     have:i'*s+k'<cur'.size:=by rw[hsize,h3];exact wMy (kQz q1 q2) hcap
     show _=some ((cur'[i'*s+k']?).getD undef)
     rw[jVn this];rfl
    have hsame:∀i' k',i'<rows.length→k'<s→(i'≠i∨k'<k∨k+t.size≤k')→us' i' k'=us i' k':=fun i' k' q1 q2 q3=>by
     have e1:=hfull i' k' q1 q2;have e2:=h7 i' k' q1 q2
     have e3:cur'[i'*s+k']? = cur[i'*s+k']?:=by
      rw[hget];rcases jFx i' i with hlt|hge
      ·have:(i'+1)*s≤i*s:=wF7 s hlt;rw[wTr]at this;rw[if_pos zo]
      ·rcases jFx i i' with hlt|hge'
       ·have:(i+1)*s≤i'*s:=wF7 s hlt;rw[wTr]at this;rw[if_neg zo,if_neg zo]
       ·have:i'=i:=zo;subst this;rcases q3 with q3|q3|q3
        ·exact absurd rfl q3
        ·rw[if_pos zo]
        ·rw[if_neg zo,if_neg zo]
     rw[e3,e2]at e1
     injection e1 with e1
     exact e1.symm
    have hnew:∀k' u,k≤k'→k'<k+t.size→(a.eval x).cells[k'-k]? = some u→us' i k'=u:=fun k' u q1 q2 q3=>by
     have e1:=hfull i k' h4 zo;rw[hget,if_neg zo,if_pos zo,show i*s+k'-(i*s+k)=k'-k from by omega,q3]at e1
     injection e1 with e1
     exact e1.symm
    let fs':Nat→Nat→Nat→Prop:=fun i' k' b2=>fs i' k' b2∧¬(i'=i∧k≤k'∧k'<k+t.size)
    have hFs:∀b2,(b2=b'∨∃i' k',fs' i' k' b2)→bv.ft b2:=fun b2 hh=>(hF b2).2 (hh.imp _root_.id fun⟨i',k',q,_⟩=>⟨i',k',q⟩)
    have hrow':(splice row0 k (st.ev x).strip.cells).length=s:=by
     simp only[splice,jKs,jOb,jSz];omega
    let β':Nat→BV:=fun j=>if j=id then⟨bv.val,fun b2=>b2=b'∨∃i' k',fs' i' k' b2⟩else β j
    have hβval:∀j,(β' j).val=(β j).val:=fun j=>by
     show(if j=id then(⟨bv.val,_⟩:BV)else β j).val=_
     split
     ·rename_i e;rw[e,hbv]
     ·rfl
    have hob':ObR w' (XX X0 β st.hp) β' (⟨bv.val,fun b2=>b2=b'∨∃i' k',fs' i' k' b2⟩:BV) (.dq e s rows i (splice row0 k (st.ev x).strip.cells)):=by
     refine .dq b' cap cur' us' fs' hvb hh' h1 h2 (by rw[hsize];exact h3) h4 hrow' h6 hfull (fun i' k' q1 q2=>?_) (fun i' k' row c q0 q1 q2=>?_) (fun k' c q=>?_) (fun i' k' b2 q=>h11 i' k' b2 q.1) (fun i' k' q=>h12 i' k' q.1) (fun i1 k1 i2 k2 b2 q1 q2=>h13 i1 k1 i2 k2 b2 q1.1 q2.1) (fun b2=>Iff.rfl)
     ·by_cases hq:i'=i∧k≤k'∧k'<k+t.size
      ·obtain⟨rfl,q3,q4⟩:=hq;have hlt:k'-k<(a.eval x).cells.size:=zo;rw[hnew k' _ q3 q4 (jVn hlt)];exact hone _ zs
      ·rw[hsame i' k' q1 q2 zo];exact h8 i' k' q1 q2
     ·obtain⟨r1,r2⟩:=kI0 h6 q1 q2;rw[hsame i' k' r1 r2 (.inl q0)];refine((h9 i' k' row c q0 q1 q2).keep fun b2 hb2=>hoth b2 fun e=>h12 i' k' (e▸hb2)).ext fun b2=>?_
      show(fs i' k' b2∧_)↔_
      exact⟨fun g=>g.1,fun g=>⟨g,fun g2=>q0 g2.1⟩⟩
     ·have hk':k'<s:=by rw[←hrow'];exact(jSg.1 q).1
      unfold splice at q;rw[kFv _ _ _ _ zo,hcl]at q;by_cases hq:k≤k'∧k'<k+t.size
      ·rw[if_neg zo,if_pos hq.2]at q;have hlt:k'-k<(a.eval x).cells.size:=zo;have hu:=jVn hlt;rw[hnew k' _ hq.1 hq.2 hu];have hsl:=jDl.1 hns c (jIc q);refine .inr ⟨by simpa using hsl,((hcc _ c _ q hu).mono hS (fun _ _ hh=>hh)).val_eq hβval,fun b2 g=>g.2 ⟨rfl,hq⟩⟩
      ·have hold:row0[k']? = some c:=by
        by_cases g:k'<k
        ·rw[if_pos g]at q;exact q
        ·rw[if_neg g,if_neg zo]at q;exact q
       rw[hsame i k' h4 hk' zo];have hfe:∀b2,fs' i k' b2↔fs i k' b2:=fun b2=>⟨fun g=>g.1,fun g=>⟨g,fun g2=>hq g2.2⟩⟩
       rcases h10 k' c hold with⟨g1,g2⟩|⟨g1,g2,g3⟩
       ·exact .inl ⟨g1,(g2.keep fun b2 hb2=>hoth b2 fun e=>h12 i k' (e▸hb2)).ext hfe⟩
       ·exact .inr ⟨g1,(g2.mono hS (fun _ _ hh=>hh)).val_eq hβval,fun b2 g=>g3 b2 ((hfe b2).1 g)⟩
    unfold Oper.wp
    have hr:(execOp a.eval o).run P w=.ok .skip w':=by
     rw[←hw'];simp only[execOp,ho,Instr.storeAt,hv,Instr.sureAddr,Sem.run_bind,Sem.run_pure,Result.andThen_ok,kY7 (hty T t ht) hh (by rw[hs,hcl]) hone hle]
    rw[hr,Oper.upon_skip,hd0];refine⟨_,β',hK,?_⟩
    exact h.writeQ hl (v:=⟨bv.val,fun b2=>b2=b'∨∃i' k',fs' i' k' b2⟩) (by rw[hbv]) (fun b2 hb2=>by rw[hbv];exact hFs b2 hb2) (if_pos rfl) rfl (by rw[←hw'];rfl) (by rw[←hw'];rfl) (by rw[←hw'];rfl) (by rw[←hw',setRow_size];exact jDu _)
     (fun b2 _ hne=>hoth b2 fun e=>hne (by rw[hbv,e];exact hbft)) hob'
  case h_4=>exact hw.elim
theorem kP9 (base:Nat) (t ty e:TypeId) (i:TypeInfo) (size:Nat) (ht:P.underlying t=some (.slice e)) (hi:P.info? e=some i)
  (v:Value) (n:Nat) (xs:List Value) (hown:w.ownsRow base e size v n xs) (p:Option Addr) (c:Nat):(Builtin.append_ #[t,t] ty #[v,.slice p 0 c]).run P w=.ok v w:=by
 rcases hown.2 with⟨rfl,rfl⟩|⟨g,cap,cur,rfl,_,_,hnc,_⟩
 ·cases p<;>simp[Builtin.append_,run_underlying ht,sizeOf,typeInfo,hi,Builtin.lenOf,Builtin.firstCells,loadCells,loadCellsFrom]
 ·cases p<;>simp[Builtin.append_,run_underlying ht,sizeOf,typeInfo,hi,Builtin.lenOf,Builtin.firstCells,hnc,storeCells,loadCells,loadCellsFrom]
theorem k42 (h:Sim N X0 M w0 st β a w) {y:SV}{v:Value}{rows:List (List SV)}(hy:st.rowsOf y=some rows) (hR:R w (XX X0 β st.hp) β y v) (s:Nat) (hs:∀row∈rows,row.length=s) :
  ((∃p cap,v=.slice p 0 cap)∧rows=[])∨∃b off cap L,v=.slice (some ⟨b,off,none⟩) rows.length cap∧Flat w (XX X0 β st.hp) s rows L∧∀j u,L[j]? = some u→w.cell? ((⟨b,off,none⟩:Addr).add j)=some u:=by
 have key:∀{s':Nat}{L:List Value},Flat w (XX X0 β st.hp) s' rows L→Flat w (XX X0 β st.hp) s rows L:=fun{s' L} hf=>by
  rcases vVo rows.length with h0|h0
  ·have:=vG1 h0;subst this;exact⟨by simpa using hf.len,zs,hf.one,zs⟩
  ·have h1:=hf.row 0 _ (jD9 h0);have h2:=hs _ (jCn h0);have:s'=s:=by rw[←h1,←h2]
   rw[←this];exact hf
 unfold St.rowsOf at hy;split at hy
 case h_1 s' rows' =>
  cases hy;rcases slice_form hR.kF4 with⟨e1,e2⟩|⟨b,off,cap,e1,_⟩
  ·exact .inl ⟨e1,e2⟩
  ·obtain⟨L,hf,hc⟩:=(e1▸hR.kF4).flat;exact .inr ⟨b,off,cap,L,e1,key hf,fun j u hu=>by rw[kKo];exact hc j u hu⟩
 case h_2 m =>
  split at hy
  ·rename_i e s' rows' hl;cases hy;have hv:=hR.kB9;obtain⟨L,hown,hf⟩:=(h.objs m _ hl).owns;rcases hown.2 with⟨e1,e2⟩|⟨b,cap,cur,e1,_⟩
   ·exact .inl ⟨⟨_,_,hv.trans e1⟩,vG1 e2⟩
   ·exact .inr ⟨b,0,cap,L,hv.trans e1,key hf,hown.cells (g:=b) (by rw[e1];rfl)⟩
  ·cases hy
 case h_3=>cases hy;exact .inl ⟨⟨_,_,hR.kAn⟩,rfl⟩
 case h_4=>cases hy
theorem k3w (hty:∀T d,lk T tys=some d→kAs P T d) {o:Oper}{c:Call}{x y:Operand}{T:Nat}{t e:TyD}(ho:o.op=.call c) (hc:c.callee=.builtin .append) (ha:c.args.toList=[x,y]) (hA:c.argTypes.toList=[T,T])
  (ht:lk T tys=some t) (he:lk t.elem tys=some e) (hk:t.kind=1) (hsz:0<e.size) (hby:0<e.bytes) (hzl:e.z.length=e.size) {X:Nat→Prop}{rows news:List (List SV)}{vx vy:Value}(hvx:a.eval x=vx) (hvy:a.eval y=vy)
  {L:List Value}(hown:w.ownsRow 0 t.elem e.size vx rows.length L) (hfl:Flat w X e.size rows L)
  (hnews:((∃p cap,vy=.slice p 0 cap)∧news=[])∨∃b off cap L,vy=.slice (some ⟨b,off,none⟩) news.length cap∧Flat w X e.size news L∧∀j u,L[j]? = some u→w.cell? ((⟨b,off,none⟩:Addr).add j)=some u)
  (hbytes:(rows.length+news.length)*e.bytes≤140737488355328) :
  ∃v' w' L',(execOp a.eval o).run P w=.ok (.value v') w'∧w'.ownsRow 0 t.elem e.size v' (rows++news).length L'∧Flat w X e.size (rows++news) L'∧w.grownBy w' vx.ownBlock∧(v'.ownBlock=vx.ownBlock∨v'.ownBlock=some w.heap.size):=by
 have e1:c.args=#[x,y]:=by rw[←vXt (xs:=c.args),ha]
 have e2:c.argTypes=#[T,T]:=by rw[←vXt (xs:=c.argTypes),hA]
 have hT:=(hty T t ht).slice hk;obtain⟨i,zv,hi,his,hib,hiz,hzc⟩:=(hty t.elem e he).get
 have hgo:∀{v' w'},(Builtin.append_ #[T,T] o.type #[vx,vy]).run P w=.ok v' w'→(execOp a.eval o).run P w=.ok (.value v') w':=fun{v' w'} hr=>by
  simp[execOp,ho,resolve,hc,e1,e2,invoke,builtin,hvx,hvy,hr]
 rcases hnews with⟨⟨pp,pc,rfl⟩,rfl⟩|⟨b,off,cap,L2,rfl,hf2,hc2⟩
 ·have hr:=kP9 (P:=P) (w:=w) 0 T o.type t.elem i e.size hT hi vx rows.length L hown pp pc;exact⟨vx,w,L,hgo hr,by simpa using hown,by simpa using hfl,World.grownBy.refl w _,.inl rfl⟩
 ·have hle:rows.length+news.length≤maxLen:=by
   have:=Nat.le_mul_of_pos_right (rows.length+news.length) hby;simp only[maxLen];omega
  obtain⟨v',w',hr,h2,h3,_,h5⟩:=run_append_own_at (P:=P) w 0 T o.type t.elem i zv e.size e.bytes hT hi hiz his hib (by rw[←jYo,hzc,hzl]) hsz vx rows.length L hown ⟨b,off,none⟩ news.length cap L2 hf2.len hc2 hf2.one hle hbytes (vEs _)
  exact⟨v',w',L++L2,hgo hr,by rw[jKs];exact h2,hfl.append hf2,h3,h5⟩
theorem kUh (hty:∀T d,lk T tys=some d→kAs P T d) (h:Sim N X0 M w0 st β a w) {o:Oper}{c:Call}(ho:o.op=.call c) (hc:c.callee=.builtin .append) (hN:∀d,o.dst=some d→d<N) {K:St→Prop}
  (hw:st.eff tys o K) {Q:Exit→Act→World→Prop}:o.wp P a w (Ok N X0 M w0 K) Q:=by
 unfold St.eff at hw;rw[ho]at hw;simp only[hc]at hw;split at hw
 case h_2=>exact hw.elim
 case h_1 _ _ _ d x y T T' hd ha hA =>
  split at hw
  case h_2=>exact hw.elim
  case h_1 _ _ t news ht hnr =>
   split at hw
   case h_2=>exact hw.elim
   case h_1 _ e he =>
    obtain⟨rfl,hk,n1,n2,hsz,hby,hzl,hw⟩:=hw;have hRy:=(St.kC1 h y).strip n2;split at hw
    case h_3=>exact hw.elim
    case h_1 _ j hj =>
     split at hw
     case h_2=>exact hw.elim
     case h_1 _ e' s' rows hl =>
      obtain⟨hjl,rfl,rfl,hbytes,hrows,hK⟩:=hw;have hvx:=(St.kAj h hj n1).kB9;obtain⟨L,hown,hfl⟩:=(h.objs j _ hl).owns;obtain⟨v',w',L',hrun,hown',hfl',hg,hat⟩:=k3w hty ho hc ha hA ht he hk hsz hby hzl (X:=XX X0 β st.hp) hvx rfl hown hfl (k42 h hnr hRy e.size hrows) hbytes
      have hbx:∀b,(β j).val.ownBlock=some b↔(β j).ft b:=fun b=>by
       have hp:=(h.objs j _ hl).k7j;have hq:(β j).ft b↔blk (β j).val=some b:=by rw[hp];exact Iff.rfl
       rw[hq];rcases hown.2 with⟨e1,_⟩|⟨b',cap,cur,e1,_⟩<;>rw[e1]<;>simp[Value.ownBlock,blk]
      have hbv:∀b,blk v'=some b→((β j).ft b∨b=w.heap.size)∧b<w'.heap.size:=fun b hb=>by
       have hb':v'.ownBlock=some b:=by
        rcases hown'.2 with⟨e1,_⟩|⟨b',cap,cur,e1,_⟩
        ·rw[e1]at hb;cases hb
        ·rw[e1]at hb⊢;exact hb
       refine⟨?_,(hown'.lt b hb').2⟩;rcases hat with hat|hat
       ·exact .inl ((hbx b).1 (hat▸hb'))
       ·rw[hat]at hb';right;injection hb' with e;exact e.symm
      let β':Nat→BV:=fun i=>if i=j then plain v' else β i
      have hβ:∀i,i≠j→β' i=β i:=fun i hi=>by show(if i=j then plain v' else β i)=_;rw[if_neg hi]
      have hβj:β' j=plain v':=by show(if j=j then plain v' else β j)=_;rw[if_pos rfl]
      have hv1:v'.oneCell'=true:=by
       rcases hown'.2 with⟨e1,_⟩|⟨b',cap,cur,e1,_⟩<;>rw[e1]<;>rfl
      have qHc:∀b,b<w.heap.size→¬(β j).ft b→w'.heap[b]? = w.heap[b]?:=fun b hlt hne=>hg.block b hlt (fun e=>hne ((hbx b).1 e.symm))
      have hX1:∀b,b<w.heap.size→(X0 b∨blk v'=some b)→XX X0 β st.hp b:=fun b hlt hh=>by
       rcases hh with hh|hh
       ·exact .inl hh
       ·rcases(hbv b hh).1 with e1|e1
        ·exact .inr ⟨j,_,hl,e1⟩
        ·omega
      have h1:Sim N (fun b=>X0 b∨blk v'=some b) M w0 (st.kill j) β' a w' :=
       h.kill j hjl hβ (by rw[hβj];exact hv1) hg.os hg.tape hg.output hg.size (fun b hlt hn=>qHc b hlt (hn (by rw[hl];simp))) hX1 (fun b hh=>by
        rcases hh with hh|hh
        ·exact wMy (h.x0 b hh) hg.size
        ·exact(hbv b hh).2)
      have hXk:∀b,b<w.heap.size→XX (fun b=>X0 b∨blk v'=some b) β' (st.kill j).hp b→XX X0 β st.hp b:=fun b hlt hh=>k3u hβ (hX1 b hlt) hh
      have hS:Same (XX X0 β st.hp) w w':=⟨hg.size,fun b hlt hn=>qHc b hlt (fun e=>hn (.inr ⟨j,_,hl,e⟩))⟩
      have h2:=h1.add (j:=j) (kJ8 st j) (ob:=.sl t.elem e.size (rows++news)) (by rw[hβj];exact ObR.kTw (base:=0) hown' (hfl'.mono hS hXk)) (fun b hh=>.inr (by rw[hβj]at hh;exact hh))
       (fun b hh=>by
        rw[hβj]at hh;rcases(hbv b hh).1 with e1|e1
        ·exact h.mine j _ b hl e1
        ·exact .inr (by rw[e1];exact h.grew))
       (fun b id o hh hi hid=>by
        rw[hβj]at hh;have hne:id≠j:=fun e=>by subst e;rw[kJ8]at hi;cases hi
        rw[hβ id hne]at hid;simp only[St.kill,kCp]at hi;rw[kAt hne]at hi
        cases hy:lk id st.hp with
        |none=>rw[hy]at hi;cases hi
        |some y =>
         rcases(hbv b hh).1 with e1|e1
         ·exact hne (h.inj id j y _ b hy hl hid e1)
         ·have:=(h.objs id y hy).lt hid;omega)
      have h3:=h2.un (X1:=X0) (fun b hh=>.inl hh)
      unfold Oper.wp;rw[hrun,Oper.upon_value,hd];refine⟨_,β',hK,?_⟩;have hR:=R.own (w:=w') (X:=XX X0 β' ((j,.sl t.elem e.size (rows++news))::(st.kill j).hp)) (β:=β') j;rw[hβj]at hR;exact h3.put (hN d hd) hR
    case h_2 _ hj =>
     obtain⟨hbytes,hrows,hK⟩:=hw;have hvx:=(St.kAj h hj n1).kAn;have hfl0:Flat w (XX X0 β st.hp) e.size [] []:=⟨zs,zs,zs,zs⟩;obtain⟨v',w',L',hrun,hown',hfl',hg,hat⟩:=k3w hty ho hc ha hA ht he hk hsz hby hzl (X:=XX X0 β st.hp) (rows:=[]) hvx rfl (World.ownsRow_nil w 0 t.elem e.size) hfl0 (k42 h hnr hRy e.size hrows) (by simpa using hbytes)
     have hb:Go.RowKit.Below w.heap.size w w':=⟨hg.os,hg.tape,hg.output,hg.size,fun b hlt=>hg.block b hlt (by simp[Value.ownBlock])⟩
     refine kQ9 h hd (hN d hd) hrun hb ?_ (fun b hbb=>?_) (fun X' hX=>?_) (.inl rfl) hK
     ·rcases hown'.2 with⟨e1,_⟩|⟨b',cap,cur,e1,_⟩<;>rw[e1]<;>rfl
     ·have hb':v'.ownBlock=some b:=by
       rcases hown'.2 with⟨e1,_⟩|⟨b',cap,cur,e1,_⟩
       ·rw[e1]at hbb;cases hbb
       ·rw[e1]at hbb⊢;exact hbb
      rcases hat with hat|hat
      ·rw[hat]at hb';cases hb'
      ·have:=(hown'.lt b hb').2;rw[hat]at hb'
       injection hb' with e1
       omega
     ·exact ObR.kTw (base:=0) hown' (hfl'.mono ⟨hb.size,fun b hlt _=>hb.block b hlt⟩ hX)
end
end
section
structure Ctr where
 kBq:List Nat:=[]
 move:List Nat:=[]
 pure:Nat→List SV→Prop×SV×List (Nat×Ob):=fun _ _=>(False,.kAh,[])
 wri:Nat→List SV→List (Nat×Ob)→Prop×SV×List (Nat×Ob)×List (Nat×Ob):=fun _ _ _=>(False,.kAh,[],[])
def Ctr.isL (c:Ctr):Bool:=!(c.kBq.isEmpty&&c.move.isEmpty)
def Obs (w:World) (X:Nat→Prop) (β:Nat→BV) (kAb:List (Nat×Ob)):Prop :=
 (∀id ob,lk id kAb=some ob→ObR w (XX X β kAb) β (β id) ob) ∧
 (∀i j oi oj b,lk i kAb=some oi→lk j kAb=some oj→(β i).ft b→(β j).ft b→i=j)
def Holds (P:Program) (f:FuncId) (args:List SV) (res:SV) (kAb:List (Nat×Ob)):Prop :=
 ∀(w:World) (X:Nat→Prop) (vs:List Value),Grd P w→(∀b,X b→b<w.heap.size)→vs.length=args.length→(∀(i:Nat) (c:SV) (u:Value),args[i]? = some c→vs[i]? = some u→R w X (fun _=>kEm) c u) →
  Calls P f vs.toArray w fun e w'=>∃v β,e=.returned v∧Go.RowKit.Below w.heap.size w w'∧(∀i,(β i).val.oneCell'=true)∧R w' (XX X β kAb) β res v∧Obs w' X β kAb ∧
   ∀id ob b,lk id kAb=some ob→(β id).ft b→w.heap.size≤b
def kI7 (P:Program) (f:FuncId) (args:List SV) (obs:List (Nat×Ob)) (res:SV) (kAb kept:List (Nat×Ob)):Prop :=
 ∀(w:World) (X:Nat→Prop) (β:Nat→BV) (vs:List Value),Grd P w→(∀i,(β i).val.oneCell'=true)→(∀b,X b→b<w.heap.size)→vs.length=args.length →
  (∀(i:Nat) (c:SV) (u:Value),args[i]? = some c→vs[i]? = some u→R w (XX X β obs) β c u)→Obs w X β obs→(∀id ob b,lk id obs=some ob→(β id).ft b→¬X b∧P.globals.size≤b) →
  Calls P f vs.toArray w fun e w'=>∃v β',e=.returned v∧w'.os=w.os∧w'.tape=w.tape∧w'.output=w.output∧w.heap.size≤w'.heap.size ∧
   (∀b,b<w.heap.size→(¬∃id ob,lk id obs=some ob∧(β id).ft b)→w'.heap[b]? = w.heap[b]?)∧(∀i,(β' i).val.oneCell'=true)∧(∀i ob,1000000≤i→lk i obs=some ob→(β' i).val=(β i).val) ∧
   R w' (XX X β' (kAb++kept)) β' res v∧Obs w' X β' (kAb++kept) ∧
   ∀id ob b,lk id (kAb++kept)=some ob→(β' id).ft b→w.heap.size≤b∨∃k o,lk k obs=some o∧(β k).ft b
def kV3 (E:Ending→Value→Prop) (P:Program) (f:FuncId) (args:List SV) (obs:List (Nat×Ob)) (res:SV) (kAb kept:List (Nat×Ob)):Prop :=
 ∀(w:World) (X:Nat→Prop) (β:Nat→BV) (vs:List Value),Grd P w→(∀i,(β i).val.oneCell'=true)→(∀b,X b→b<w.heap.size)→vs.length=args.length →
  (∀(i:Nat) (c:SV) (u:Value),args[i]? = some c→vs[i]? = some u→R w (XX X β obs) β c u)→Obs w X β obs→(∀id ob b,lk id obs=some ob→(β id).ft b→¬X b∧P.globals.size≤b) →
  Calls P f vs.toArray w fun e w'=>∃v β',E e v∧w'.os=w.os∧w'.tape=w.tape∧w'.output=w.output∧w.heap.size≤w'.heap.size ∧
   (∀b,b<w.heap.size→(¬∃id ob,lk id obs=some ob∧(β id).ft b)→w'.heap[b]? = w.heap[b]?)∧(∀i,(β' i).val.oneCell'=true)∧(∀i ob,1000000≤i→lk i obs=some ob→(β' i).val=(β i).val) ∧
   R w' (XX X β' (kAb++kept)) β' res v∧Obs w' X β' (kAb++kept) ∧
   ∀id ob b,lk id (kAb++kept)=some ob→(β' id).ft b→w.heap.size≤b∨∃k o,lk k obs=some o∧(β k).ft b
structure kMd (P:Program) (f:FuncId):Prop where
 ex:∃fn, P.funcs[f]? = some fn∧(fn.name == "runtime.NumGoroutine")=false∧fn.body.isSome=true
structure COk (P:Program) (C:List (FuncId×Ctr)):Prop where
 call:∀f c,lk f C=some c→kMd P f
 holds:∀f c,lk f C=some c→∀d args,(c.pure d args).1→Holds P f args (c.pure d args).2.1 (c.pure d args).2.2
 kV4:∀f c,lk f C=some c→∀d args obs,(c.wri d args obs).1→kI7 P f args obs (c.wri d args obs).2.1 (c.wri d args obs).2.2.1 (c.wri d args obs).2.2.2
def SV.share1 (hp:List (Nat×Ob)):SV→SV
 | .own id=>match lk id hp with
  |some (.sl _ s rows)=>.sl s rows
  |some (.dp _ s rows)=>.sl s rows
  | _=>.kAh
 | .v x=>.v x
 | .sl s rows=>.sl s rows
 | .kB6 s rows i k=>.kB6 s rows i k
 | .ptr id s i k=>match lk id hp with
  |some (.sl _ s' rows)=>if s=s' then .kB6 s rows i k else .kAh
  |some (.box _ cs)=>if i=0∧cs.all SV.pur=true then .kB6 cs.length [cs] 0 k else .kAh
  | _=>.kAh
 | _=>.kAh
def SV.share (hp:List (Nat×Ob)):SV→SV
 | .agg cs=>.agg (cs.map (SV.share1 hp))
 | .fn f cs=>.fn f (cs.map (SV.share1 hp))
 |x=>x.share1 hp
def SV.kBn:SV→List Nat
 | .own id=>[id]
 | .ptr id _ _ _=>[id]
 | _=>[]
def SV.owns:SV→List Nat
 | .agg cs=>cs.flatMap SV.kBn
 | .fn _ cs=>cs.flatMap SV.kBn
 |x=>x.kBn
def SV.isV:SV→Bool
 | .v _=>true
 | .own _=>true
 | _=>false
def SV.kE0:SV→Bool
 | .agg cs=>cs.all SV.isV
 | .tup cs=>cs.all fun
  | .agg ds=>ds.all SV.isV
  |x=>x.isV
 |x=>x.isV
def Ob.isV:Ob→Prop
 | .sl _ _ rows=>∀row∈rows,∀c∈row,∃x,c=.v x
 | .box _ cs=>cs.all SV.isV=true
 | .mp _ _=>True
 | .dp _ _ _=>True
 | .dq _ _ _ _ _=>False
def SV.good1:SV→Bool
 | .v _=>true
 | .sl _ _=>true
 | .kB6 _ _ _ _=>true
 | _=>false
def SV.good:SV→Bool
 | .agg cs=>cs.all SV.good1
 | .fn _ cs=>cs.all SV.good1
 |x=>x.good1
def SV.kIp:SV→Bool
 | .v _=>true
 | .sl _ _=>true
 | .own _=>true
 | .ptr _ _ _ _=>true
 | _=>false
def SV.kIq:SV→Bool
 | .agg cs=>cs.all SV.kIp
 |x=>x.kIp
def SV.rok:SV→Bool
 | .tup cs=>cs.all SV.kIq
 |x=>x.kIq
def SV.kCv:SV→List Nat
 | .tup cs=>cs.flatMap SV.owns
 |x=>x.owns
def St.kAl (st:St):List Nat→St
 | []=>st
 |d::l=>(st.kAl l).kill d
def kAz:List Nat→Bool
 | []=>true
 |d::l=>!l.contains d&&kAz l
def St.res (st:St) (d:Option Nat) (res:SV) (kAb:List (Nat×Ob)):St :=
 let s:=st.kAl (kAb.map (·.1))
 St.put { fr:=s.fr,hp:=kAb++s.hp } d res
def St.kAi (st:St) (c:Call) (caps:List SV):List SV:=(c.args.toList.map fun y=>(st.ev y).strip)++caps
def St.kFd (dd:Nat) (C:List (FuncId×Ctr)) (o:Oper) (st:St) (K:St→Prop):Prop :=
 match o.op with
 | .call c=>match c.callee with
  | .value x=>match st.ev x with
   | .fn f caps=>match lk f C with
    |some ctr=>match ctr.pure dd ((st.kAi c caps).map (SV.share st.hp))with
     | (ob,res,kAb)=>ob∧(∀y∈c.args.toList,(st.ev y).need)∧((st.kAi c caps).all fun y=>(y.share st.hp).good)=true∧res.rok=true∧(res.kCv.all fun i=>(kAb.map (·.1)).contains i)=true ∧
      kAz (kAb.map (·.1))=true∧((kAb.map (·.1)).all fun i=>decide (i<1000000))=true∧(kAb.all fun p=>p.2.pb)=true ∧
      (((st.kAi c caps).flatMap SV.owns)=[]∨(res.kE0=true∧∀p∈kAb,p.2.isV))∧K (st.res o.dst res kAb)
    |none=>False
   | _=>False
  | _=>False
 | _=>False
def St.kIb (C:List (FuncId×Ctr)) (o:Oper) (st:St) (K:St→Prop):Prop:=st.kFd (o.dst.getD 0) C o K
def St.kD2 (dd:Nat) (C:List (FuncId×Ctr)) (st:St) (c:Call) (x:Operand):Option (Prop×SV) :=
 match st.ev x with
 | .fn f caps=>match lk f C with
  |some ctr=>match ctr.pure dd ((st.kAi c caps).map (SV.share st.hp))with
   | (ob,res,kAb)=>if((st.kAi c caps).all fun y=>(y.share st.hp).good)=true then some (ob∧kAb=[]∧(∀y∈c.args.toList,(st.ev y).need)∧((st.kAi c caps).all fun y=>(y.share st.hp).good)=true∧res.rok=true∧res.kCv=[] ∧
      (((st.kAi c caps).flatMap SV.owns)=[]∨res.kE0=true)∧ctr.isL=false,res)else none
  |none=>none
 | _=>none
def St.kUi (dd:Nat) (C:List (FuncId×Ctr)) (op:Op) (st:St) (res:SV):Prop :=
 match op with
 | .call c=>match c.callee with
  | .value x=>match st.ev x with
   | .fn f caps=>match lk f C with
    |some ctr=>((ctr.pure dd ((st.kAi c caps).map (SV.share st.hp))).1∧(ctr.pure dd ((st.kAi c caps).map (SV.share st.hp))).2=(res,[]))∧(∀y∈c.args.toList,(st.ev y).need)∧((st.kAi c caps).all fun y=>(y.share st.hp).good)=true∧res.rok=true∧res.kCv=[] ∧
      (((st.kAi c caps).flatMap SV.owns)=[]∨res.kE0=true)∧ctr.isL=false
    |none=>False
   | _=>False
  | _=>False
 | _=>False
def St.isM (C:List (FuncId×Ctr)) (st:St) (x:Operand):Bool :=
 match st.ev x with
 | .fn f _=>match lk f C with
  |some ctr=>ctr.isL
  |none=>false
 | _=>false
theorem St.k7k {dd:Nat}{C:List (FuncId×Ctr)}{c:Call}{x:Operand}{st:St}{res:SV}(h:st.kUi dd C (.call c) res) (hc:c.callee=.value x):st.isM C x=false:=by
 unfold St.kUi at h;simp only[hc]at h;unfold St.isM;generalize st.ev x=y at h⊢;split at h
 case h_2=>exact h.elim
 case h_1 _ f caps =>
 generalize lk f C=y at h⊢;split at h
 case h_2=>exact h.elim
 case h_1 _ ctr =>
 exact h.2.2.2.2.2.2
theorem St.kTy {dd:Nat}{C:List (FuncId×Ctr)}{c:Call}{x:Operand}{st:St}{ob:Prop}{res:SV}(hc:c.callee=.value x) (h:st.kD2 dd C c x=some (ob,res)) (hob:ob):st.kUi dd C (.call c) res:=by
 unfold St.kD2 at h;unfold St.kUi;simp only[hc];generalize st.ev x=y at h⊢;split at h
 case h_2=>cases h
 case h_1 _ f caps =>
 generalize lk f C=y at h⊢;split at h
 case h_2=>cases h
 case h_1 _ ctr =>
 generalize ctr.pure dd ((st.kAi c caps).map (SV.share st.hp))=q at h⊢;obtain⟨o1,r1,r2⟩:=q;simp only at h;split at h
 case isFalse=>cases h
 simp only[jBf,jCx]at h;obtain⟨rfl,rfl⟩:=h;obtain⟨h0,h1,h2,h3,h4,h5,h6,h7⟩:=hob;exact⟨⟨h0,by rw[h1]⟩,h2,h3,h4,h5,h6,h7⟩
theorem St.kTz {dd:Nat}{C:List (FuncId×Ctr)}{o:Oper}{st:St}{res:SV}{K:St→Prop}(h:st.kUi dd C o.op res) (hK:K (st.res o.dst res [])):st.kFd dd C o K:=by
 unfold St.kUi at h;unfold St.kFd;split at h
 case h_2=>exact h.elim
 case h_1 _ c ho =>
 try rw[ho]
 try simp only
 split at h
 case h_2=>exact h.elim
 case h_1 _ x hc =>
 try rw[hc]
 try simp only
 split at h
 case h_2=>exact h.elim
 case h_1 _ f caps hf =>
 try rw[hf]
 try simp only
 split at h
 case h_2=>exact h.elim
 case h_1 _ ctr kMe =>
 try rw[kMe]
 obtain⟨⟨h0,h1⟩,h2,h3,h4,h5,h6,_⟩:=h;have hr:(ctr.pure dd ((st.kAi c caps).map (SV.share st.hp))).2.1=res:=congrArg Prod.fst h1;have hb:(ctr.pure dd ((st.kAi c caps).map (SV.share st.hp))).2.2=[]:=congrArg Prod.snd h1;generalize he:ctr.pure dd ((st.kAi c caps).map (SV.share st.hp))=q at h0 hr hb;obtain⟨o1,r1,r2⟩:=q;simp only at hr hb h0;subst hr hb;have e:∀{α:Type}(f:Prop→SV→List (Nat×Ob)→Prop),f o1 r1 []→(match ctr.pure dd ((st.kAi c caps).map (SV.share st.hp))with|(a,b,c)=>f a b c):=fun f hf=>by rw[he];exact hf
 refine e (α:=Nat) (fun ob res kAb=>ob∧(∀y∈c.args.toList,(st.ev y).need)∧((st.kAi c caps).all fun y=>(y.share st.hp).good)=true∧res.rok=true∧(res.kCv.all fun i=>(kAb.map (·.1)).contains i)=true ∧
      kAz (kAb.map (·.1))=true∧((kAb.map (·.1)).all fun i=>decide (i<1000000))=true∧(kAb.all fun p=>p.2.pb)=true ∧
      (((st.kAi c caps).flatMap SV.owns)=[]∨(res.kE0=true∧∀p∈kAb,p.2.isV))∧K (st.res o.dst res kAb)) ?_
 exact⟨h0,h2,h3,h4,by rw[h5];rfl,rfl,rfl,zs,h6.imp id fun hh=>⟨hh,zs⟩,hK⟩
section
variable {P:Program}{tys:List (Nat×TyD)}{N:Nat}{X0:Nat→Prop}{M:Nat→BV→Prop}{w0:World}{st:St}{β:Nat→BV}{a:Act}{w:World}
def Bor (X:Nat→Prop) (β:Nat→BV) (ids:List Nat) (b:Nat):Prop:=X b∧∀id∈ids,¬(β id).ft b
theorem R.share1 (h:Sim N X0 M w0 st β a w) {x:SV}{v:Value}(hR:R w (XX X0 β st.hp) β x v) {ids:List Nat}(hi:∀id∈x.kBn,id∈ids) {y:SV}(hy:x.share1 st.hp=y) (hj:y≠.kAh) (β':Nat→BV) :
  R w (Bor (XX X0 β st.hp) β ids) β' y v:=by
 have hS:Same (XX X0 β st.hp) w w:=⟨jDu _,fun _ _ _=>rfl⟩
 cases x with
 |v x=>simp only[SV.share1]at hy;subst hy;have:=hR.kAn;subst this;exact .p (.v _)
 |sl s rows=>simp only[SV.share1]at hy;subst hy;exact .p (hR.kF4.mono hS (fun b _ hb=>hb.1))
 |kB6 s rows i k =>
  simp only[SV.share1]at hy;subst hy;obtain⟨b,off,cap,hr,rfl⟩:=hR.kMa
  exact .kB6 s rows i k b off cap (hr.mono hS (fun b _ hb=>hb.1))
 |own id =>
  simp only[SV.share1]at hy
  have fin:∀{ob:Ob}{s:Nat}{rows:List (List SV)},lk id st.hp=some ob→ob.rd=some (s,rows)→R w (Bor (XX X0 β st.hp) β ids) β' (.sl s rows) v:=fun{ob s rows} hl ho=>by
   have hv:=hR.kB9;subst hv;exact .p ((h.objs id _ hl).rd ho (fun b hb hx=>hx.2 id (hi id (by simp[SV.kBn])) hb) (fun b hb=>hb.1))
  split at hy
  ·rename_i e s rows hl;subst hy;exact fin hl rfl
  ·rename_i e s rows hl;subst hy;exact fin hl rfl
  ·exact absurd hy.symm hj
 |ptr id s i k =>
  obtain⟨b,hb,rfl⟩:=hR.kEr;have hid:id∈ids:=hi id (by simp[SV.kBn])
  simp only[SV.share1]at hy;split at hy
  ·rename_i e s' rows hl;split at hy
   ·rename_i hs;subst hs;subst hy;have hob:=h.objs id _ hl;generalize hβ:β id=bv at hob hb
    cases hob with
    |nil e s h0=>rw[h0]at hb;cases hb
    |sl b' cap cur us hv hh h1 h2 h3 h4 h5 h6 h7 =>
     rw[hv]at hb;cases hb
     have:=R.kB6 (w:=w) (X:=Bor (XX X0 β st.hp) β ids) (β:=β') s rows i k b' 0 cap (.sl b' 0 cap us (fun hx=>hx.2 id hid (by rw[hβ,hv];rfl)) (lt_of_heap hh) h1 h4 (fun i k row c hr hc=>by
      simp only[World.cell?,hh,vKy];exact h5 i k row c hr hc) h6 (fun i k row c hr hc=>(h7 i k row c hr hc).mono hS (fun b _ hb=>hb.1)))
     rw[vKy]at this;exact this
   ·exact absurd hy.symm hj
  ·rename_i e cs hl;split at hy
   ·rename_i hc;obtain⟨rfl,hpur⟩:=hc;subst hy;have hob:=h.objs id _ hl;generalize hβ:β id=bv at hob hb
    cases hob with
    |box b' cur hv hh hlen hcc =>
     rw[hv]at hb;cases hb
     have key:∀(k:Nat) (c:SV),cs[k]? = some c→∃u,cur[k]? = some u∧(u.oneCell'=true∧Rp w (XX X0 β st.hp) c u):=fun k c hc=>by
      have hlt:k<cur.size:=by rw[←hlen];exact(jSg.1 hc).1
      have hu:cur[k]? = some cur[k]:=jVn hlt;exact⟨_,hu,((hcc k c _ hc hu).2).pur (jDl.1 hpur c (jIc hc))⟩
     have one:∀{i:Nat}{row:List SV},[cs][i]? = some row→i=0∧row=cs:=fun{i row} hr=>by
      cases i with
      |zero=>simp at hr;exact⟨rfl,hr.symm⟩
      |succ i=>simp at hr
     have:=R.kB6 (w:=w) (X:=Bor (XX X0 β st.hp) β ids) (β:=β') cs.length [cs] 0 k b' 0 1 (.sl b' 0 1 (fun _ k=>(cur[k]?).getD undef) (fun hx=>hx.2 id hid (by rw[hβ,hv];rfl)) (lt_of_heap hh) zs (fun i row hr=>by rw[(one hr).2])
      (fun i k row c hr hc=>by
       obtain⟨rfl,rfl⟩:=one hr;obtain⟨u,hu,_⟩:=key k c hc;simp[World.cell?,hh,hu]) (fun i k row c hr hc=>by
       obtain⟨rfl,rfl⟩:=one hr;obtain⟨u,hu,h1,_⟩:=key k c hc;simpa[hu]using h1) (fun i k row c hr hc=>by
       obtain⟨rfl,rfl⟩:=one hr;obtain⟨u,hu,_,h1⟩:=key k c hc;simpa[hu]using h1.mono hS (fun b _ hb=>hb.1)))
     simpa using this
   ·exact absurd hy.symm hj
  ·exact absurd hy.symm hj
 | _=>exact absurd hy.symm hj
theorem R.share (h:Sim N X0 M w0 st β a w) {x:SV}{v:Value}(hR:R w (XX X0 β st.hp) β x v) {ids:List Nat}(hi:∀id∈x.owns,id∈ids) (hg:(x.share st.hp).good=true) (β':Nat→BV):R w (Bor (XX X0 β st.hp) β ids) β' (x.share st.hp) v:=by
 have nj:∀{c:SV},c.good1=true→c≠.kAh:=fun{c} hc e=>by subst e;cases hc
 have nj2:(x.share st.hp)≠.kAh:=fun e=>by rw[e]at hg;cases hg
 cases x with
 |agg cs =>
  simp only[SV.share,SV.good]at hg⊢;obtain⟨us,rfl,hl,hh⟩:=hR.kOn;refine .agg (by simpa using hl) fun k c u hk hu=>?_
  have hgc:=jDl.1 hg c (jIc hk);obtain⟨c0,h0,rfl⟩:=kGc hk;refine R.share1 h (hh k c0 u h0 hu) (fun id hid=>hi id ?_) rfl (nj hgc) β'
  simp only[SV.owns,vOq]
  exact⟨c0,jIc h0,hid⟩
 |fn f cs =>
  simp only[SV.share,SV.good]at hg⊢;obtain⟨us,rfl,hl,hh⟩:=hR.kTr;refine .fn (by simpa using hl) fun k c u hk hu=>?_
  have hgc:=jDl.1 hg c (jIc hk);obtain⟨c0,h0,rfl⟩:=kGc hk;refine R.share1 h (hh k c0 u h0 hu) (fun id hid=>hi id ?_) rfl (nj hgc) β'
  simp only[SV.owns,vOq]
  exact⟨c0,jIc h0,hid⟩
 |v x=>exact R.share1 h hR hi rfl nj2 β'
 |sl s rows=>exact R.share1 h hR hi rfl nj2 β'
 |own id=>exact R.share1 h hR hi rfl nj2 β'
 |ptr id s i k=>exact R.share1 h hR hi rfl nj2 β'
 |kB6 s rows i k=>exact R.share1 h hR hi rfl nj2 β'
 | _=>cases hg
theorem R.isV {X X':Nat→Prop}{x:SV}{v:Value}(hR:R w X β x v) (hx:x.isV=true):R w X' β x v:=by
 cases x with
 |v y=>have:=hR.kAn;subst this;exact .p (.v _)
 |own id=>have:=hR.kB9;subst this;exact .own id
 | _=>cases hx
theorem R.kE0 {X X':Nat→Prop}{x:SV}{v:Value}(hR:R w X β x v) (hx:x.kE0=true):R w X' β x v:=by
 have agg:∀{cs:List SV}{v:Value},R w X β (.agg cs) v→cs.all SV.isV=true→R w X' β (.agg cs) v:=fun{cs v} hR hx=>by
  obtain⟨us,rfl,hl,hh⟩:=hR.kOn;exact .agg hl fun k c u hc hu=>(hh k c u hc hu).isV (jDl.1 hx c (jIc hc))
 cases x with
 |agg cs=>exact agg hR hx
 |tup cs =>
  obtain⟨us,rfl,hl,hh⟩:=hR.kTq;refine .tup hl fun k c u hc hu=>?_
  have h1:=jDl.1 hx c (jIc hc)
  cases c with
  |agg ds=>exact agg (hh k _ u hc hu) h1
  | _=>exact(hh k _ u hc hu).isV h1
 |v y=>exact hR.isV hx
 |own id=>exact hR.isV hx
 | _=>cases hx
theorem ObR.isV {X X':Nat→Prop}{v:BV}{ob:Ob}(h:ObR w X β v ob) (hx:ob.isV):ObR w X' β v ob:=by
 cases h with
 |nil e s h=>exact .nil e s h
 |sl b cap cur us hv hh h1 h2 h3 h4 h5 h6 h7 =>
  refine .sl b cap cur us hv hh h1 h2 h3 h4 h5 h6 fun i k row c hr hc=>?_
  obtain⟨x,rfl⟩:=hx row (jIc hr) c (jIc hc);have:=h7 i k row _ hr hc;cases this
  exact .v _
 |box b cur hv hh hl hc=>exact .box b cur hv hh hl fun k c u h1 h2=>⟨(hc k c u h1 h2).1,(hc k c u h1 h2).2.isV (jDl.1 hx c (jIc h1))⟩
 |mp b clock kGn hv hh he=>exact .mp b clock kGn hv hh he
 |dp hd he=>exact .dp hd he
 |dq=>exact hx.elim
theorem kBf {α:Type}{t:Nat}{x:α}:∀{l:List (Nat×α)},lk t l=some x→(t,x)∈l
 | (u,y)::l,h=>by
  simp only[lk]at h;by_cases ht:t=u
  ·rw[if_pos ht]at h;cases h;subst ht;exact jYt
  ·rw[if_neg ht]at h;exact jZr _ (kBf h)
theorem kC5 {α:Type}(t:Nat) (l2:List (Nat×α)):∀(l:List (Nat×α)),lk t (l++l2)=(lk t l).or (lk t l2)
 | []=>rfl
 | (u,y)::l=>by
  simp only[jRa,lk];by_cases ht:t=u
  ·simp[ht]
  ·simp[ht,kC5 t l2 l]
theorem kOs {α:Type}{t:Nat}:∀{l:List (Nat×α)},t∉l.map (·.1)→lk t l=none
 | [],_=>rfl
 | (u,y)::l,h=>by
  simp only[jHi,jDr,not_or]at h;simp only[lk,if_neg h.1];exact kOs h.2
theorem kT0 {α:Type}{t:Nat}:∀{l:List (Nat×α)},t∈l.map (·.1)→∃x,lk t l=some x
 | (u,y)::l,h=>by
  simp only[lk];by_cases ht:t=u
  ·exact⟨y,by rw[if_pos ht]⟩
  ·simp only[jHi,jDr]at h;rcases h with h|h
   ·exact absurd h ht
   ·obtain⟨x,hx⟩:=kT0 h;exact⟨x,by rw[if_neg ht];exact hx⟩
def mix (ids:List Nat) (βr β:Nat→BV) (i:Nat):BV:=if i∈ids then βr i else β i
theorem Sim.kAl (h:Sim N X0 M w0 st β a w) {βr:Nat→BV}(hr:∀i,(βr i).val.oneCell'=true):∀ids:List Nat,(∀i∈ids,i<1000000) →
  Sim N X0 M w0 (st.kAl ids) (mix ids βr β) a w
 | [],_=>by
  have e:mix [] βr β=β:=by funext i;simp[mix]
  rw[e];exact h
 |d::l,hlo=>by
  have h1:=Sim.kAl h hr l (fun i hi=>hlo i (jZr _ hi))
  refine h1.kill d (hlo d jYt) (fun i hi=>?_) ?_ rfl rfl rfl (jDu _) (fun _ _ _=>rfl) (fun b _ hb=>.inl hb) h1.x0
  ·simp[mix,hi]
  ·simpa[mix]using hr d
theorem k7l {βr:Nat→BV}{ids:List Nat}{b:Nat}(hb:∃id ob,lk id (st.kAl ids).hp=some ob∧(mix ids βr β id).ft b):∃id ob,id∉ids∧lk id st.hp=some ob∧(β id).ft b:=by
 obtain⟨id,ob,hl,hb⟩:=hb
 have key:∀(ids:List Nat) (id:Nat) (ob:Ob),lk id (st.kAl ids).hp=some ob→id∉ids∧∃o,lk id st.hp=some o:=by
  intro ids
  induction ids with
  |nil=>intro id ob h;exact⟨zs,ob,h⟩
  |cons d l ih =>
   intro id ob h;simp only[St.kAl,St.kill,kCp]at h;by_cases hd:id=d
   ·subst hd;rw[kCt]at h;cases h
   ·rw[kAt hd]at h
    cases hy:lk id (st.kAl l).hp with
    |none=>rw[hy]at h;cases h
    |some y =>
     obtain⟨h1,h2⟩:=ih id y hy;exact⟨by simp[hd,h1],h2⟩
 obtain⟨h1,o,h2⟩:=key ids id ob hl;simp only[mix,if_neg h1]at hb;exact⟨id,o,h1,h2,hb⟩
theorem R.k1e {X:Nat→Prop}{β':Nat→BV}{x:SV}{v:Value}(hR:R w X β x v) (hk:x.kIp=true) (hb:∀id∈x.kBn,β' id=β id):R w X β' x v:=by
 cases x with
 |v y=>have:=hR.kAn;subst this;exact .p (.v _)
 |sl s rows=>exact .p hR.kF4
 |own id=>have:=hR.kB9;subst this;rw[←hb id (by simp[SV.kBn])];exact .own id
 |ptr id s i k=>obtain⟨b,hbb,rfl⟩:=hR.kEr;exact .ptr id s i k b (by rw[hb id (by simp[SV.kBn])];exact hbb)
 | _=>cases hk
theorem R.kYl {X:Nat→Prop}{β':Nat→BV}{x:SV}{v:Value}(hR:R w X β x v) (hk:x.kIq=true) (hb:∀id∈x.owns,β' id=β id):R w X β' x v:=by
 cases x with
 |agg cs =>
  obtain⟨us,rfl,hl,hh⟩:=hR.kOn;refine .agg hl fun k c u hc hu=>(hh k c u hc hu).k1e (jDl.1 hk c (jIc hc)) fun id hid=>hb id ?_
  simp only[SV.owns,vOq]
  exact⟨c,jIc hc,hid⟩
 |v y=>exact hR.k1e hk hb
 |sl s rows=>exact hR.k1e hk hb
 |own id=>exact hR.k1e hk hb
 |ptr id s i k=>exact hR.k1e hk hb
 | _=>cases hk
theorem R.beta {X:Nat→Prop}{β':Nat→BV}{x:SV}{v:Value}(hR:R w X β x v) (hk:x.rok=true) (hb:∀id∈x.kCv,β' id=β id):R w X β' x v:=by
 cases x with
 |tup cs =>
  obtain⟨us,rfl,hl,hh⟩:=hR.kTq;refine .tup hl fun k c u hc hu=>(hh k c u hc hu).kYl (jDl.1 hk c (jIc hc)) fun id hid=>hb id ?_
  simp only[SV.kCv,vOq]
  exact⟨c,jIc hc,hid⟩
 |agg cs=>exact hR.kYl hk hb
 |v y=>exact hR.kYl hk hb
 |sl s rows=>exact hR.kYl hk hb
 |own id=>exact hR.kYl hk hb
 |ptr id s i k=>exact hR.kYl hk hb
 | _=>cases hk
theorem ObR.k3x {X:Nat→Prop}{β':Nat→BV}{v:BV}{e s:Nat}{rows:List (List SV)}(h:ObR w X β v (.sl e s rows)):ObR w X β' v (.sl e s rows):=by
 cases h with
 |nil e s h=>exact .nil e s h
 |sl b cap cur us hv hh h1 h2 h3 h4 h5 h6 h7=>exact .sl b cap cur us hv hh h1 h2 h3 h4 h5 h6 h7
theorem Sim.kEo (h:Sim N X0 M w0 st β a w):∀l:List (Nat×Ob),kAz (l.map (·.1))=true→(∀id ob,lk id l=some ob→lk id st.hp=none∧ObR w (XX X0 β st.hp) β (β id) ob ∧
   (∀b,(β id).ft b→X0 b∧(MB M b∨w0.heap.size≤b))∧(∀b j o,(β id).ft b→lk j st.hp=some o→¬(β j).ft b)) →
  (∀i j oi oj b,lk i l=some oi→lk j l=some oj→(β i).ft b→(β j).ft b→i=j)→Sim N X0 M w0 { st with hp:=l++st.hp } β a w
 | [],_,_,_=>h
 | (j,ob)::l,hn,hl,hinj=>by
  simp only[jHi,kAz,jBs,jUs]at hn
  have hj:j∉l.map (·.1):=fun hm=>by
   have:=hn.1;simp at this;obtain⟨p,hp,he⟩:=jCr.1 hm;exact this p.2 (by rw[←he];exact hp)
  have up:∀{id o},lk id l=some o→lk id ((j,ob)::l)=some o:=fun{id o} hh=>by
   simp only[lk];rw[if_neg (fun e=>by subst e;rw[kOs hj]at hh;cases hh)]
   exact hh
  have h1:=Sim.kEo h l hn.2 (fun id o hh=>hl id o (up hh)) (fun i k oi ok b hi hk=>hinj i k oi ok b (up hi) (up hk))
  obtain⟨e1,e2,e3,e4⟩:=hl j ob (by simp[lk])
  have hS:Same (XX X0 β st.hp) w w:=⟨jDu _,fun _ _ _=>rfl⟩
  have h2:=h1.add (j:=j) (ob:=ob) (by show lk j (l++st.hp)=none;rw[kC5,kOs hj,e1];rfl) (e2.mono hS (fun b _ hb=>by
    rcases hb with hb|⟨id,o,hi,hb⟩
    ·exact .inl hb
    ·have hi':lk id (l++st.hp)=some o:=hi;rw[kC5]at hi'
     cases hq:lk id l with
     |some y=>exact .inl ((hl id y (up hq)).2.2.1 b hb).1
     |none=>rw[hq]at hi';exact .inr ⟨id,o,hi',hb⟩) (fun _ _=>rfl)) (fun b hb=>(e3 b hb).1) (fun b hb=>(e3 b hb).2)
   (fun b id o hb hi=>by
    have hi':lk id (l++st.hp)=some o:=hi;rw[kC5]at hi'
    cases hq:lk id l with
    |some y =>
     intro he;have:=hinj j id ob y b (by simp[lk]) (up hq) hb he
     subst this
     rw[kOs hj]at hq;cases hq
    |none=>rw[hq]at hi';exact e4 b id o hb hi')
  exact h2
theorem k7m {f:FuncId}{us:List Value}{o:Oper}{c:Call}{x:Operand}(hcl:kMd P f) (ho:o.op=.call c) (hcal:c.callee=.value x) (hfv:a.eval x=.func (.func f) #[] us.toArray) (w:World) :
  (execOp a.eval o).run P w=.ok (.enter f ((c.args.toList.map a.eval++us).toArray)) w:=by
 obtain⟨fn,hfn,hname,hbody⟩:=hcl.ex
 have e1:(c.args.toList.map a.eval++us).toArray=c.args.map a.eval++us.toArray:=by
  apply Array.toList_inj.1;simp
 have hb:fn.body≠none:=by intro hb;rw[hb]at hbody;cases hbody
 have hn:fn.name ≠ "runtime.NumGoroutine" := by simpa using hname
 rw[e1];simp[execOp,ho,resolve,hcal,hfv,Deferred.ofValue,invoke,callFunc,hfn,hn,hb]
theorem qBy (h:Sim N X0 M w0 st β a w) {c:Call}{caps:List SV}{us:List Value}(k62:∀y∈c.args.toList,(st.ev y).need) (hul:caps.length=us.length) (hcap:∀(k:Nat) (c:SV) (u:Value),caps[k]? = some c→us[k]? = some u→R w (XX X0 β st.hp) β c u)
  (i:Nat) (q:SV) (u:Value) (hq:(st.kAi c caps)[i]? = some q) (hu:(c.args.toList.map a.eval++us)[i]? = some u):R w (XX X0 β st.hp) β q u:=by
 unfold St.kAi at hq;rw[vM3]at hq hu;simp only[jH5]at hq hu;split at hq
 ·rename_i hi;rw[if_pos hi]at hu;rw[jQ2]at hq hu
  cases hy:c.args.toList[i]? with
  |none=>rw[hy]at hq;cases hq
  |some y =>
   rw[hy]at hq hu;simp only[jIn,jBf]at hq hu;subst hu hq;exact(St.kC1 h y).strip (k62 y (jIc hy))
 ·rename_i hi;rw[if_neg hi]at hu;exact hcap _ q u hq hu
theorem kZ2 {C:List (FuncId×Ctr)}(hC:COk P C) (hA:Ap P X0 M w0) (h:Sim N X0 M w0 st β a w) {o:Oper}(hN:∀d,o.dst=some d→d<N) {K:St→Prop}
  {dd:Nat}(hw:st.kFd dd C o K) {Q:Exit→Act→World→Prop}:o.wp P a w (Ok N X0 M w0 K) Q:=by
 unfold St.kFd at hw;split at hw
 case h_2=>exact hw.elim
 case h_1 _ c ho =>
 split at hw
 case h_2=>exact hw.elim
 case h_1 _ x hcal =>
 split at hw
 case h_2=>exact hw.elim
 case h_1 _ f caps hf =>
 split at hw
 case h_2=>exact hw.elim
 case h_1 _ ctr kMe =>
 have hH:=hC.holds f ctr kMe dd ((st.kAi c caps).map (SV.share st.hp));generalize ctr.pure dd ((st.kAi c caps).map (SV.share st.hp))=q at hw hH;obtain⟨ob,res,kAb⟩:=q;obtain⟨hc,k62,hgood,kOt,hown,hnd,hlow,hsl,hbor,hK⟩:=hw;obtain⟨us,hfv,hul,hcap⟩:=(hf▸St.kC1 h x:R w _ β (.fn f caps) (a.eval x)).kTr;have hrun:=k7m (hC.call f ctr kMe) ho hcal hfv w;have hargs:=qBy h k62 hul hcap
 have k7n:∀(i:Nat) (q:SV) (u:Value),((st.kAi c caps).map (SV.share st.hp))[i]? = some q→(c.args.toList.map a.eval++us)[i]? = some u →
   R w (Bor (XX X0 β st.hp) β ((st.kAi c caps).flatMap SV.owns)) (fun _=>kEm) q u:=fun i q u hq hu=>by
  obtain⟨y,hy,rfl⟩:=kGc hq;have hmem:=jIc hy;exact R.share h (hargs i y u hy hu) (fun id hid=>vOq.2 ⟨y,hmem,hid⟩) (jDl.1 hgood y hmem) _
 have kM2:=hH hc w _ (c.args.toList.map a.eval++us) (hA.now h) (fun b hb=>h.live hb.1) (by simp[St.kAi,hul]) k7n
 unfold Oper.wp;rw[hrun,Oper.upon_enter];refine kM2.mono fun e w' hp=>?_
 obtain⟨v,βr,rfl,hb,hβr,hRv,⟨kS8,hinj⟩,hnew⟩:=hp
 have hrb:∀{b},(∃id ob,lk id kAb=some ob∧(βr id).ft b)→w.heap.size≤b∧b<w'.heap.size:=by
  rintro b ⟨id,ob,hl,hbb⟩;exact⟨hnew id ob b hl hbb,(kS8 id ob hl).lt hbb⟩
 have h1:Sim N (fun b=>X0 b∨∃id ob,lk id kAb=some ob∧(βr id).ft b) M w0 st β a w' :=
  h.grow hb (fun b hlt hx=>by
   rcases hx with hx|hx
   ·exact .inl hx
   ·exact absurd (hrb hx).1 zo) (fun b hx=>by
   rcases hx with hx|hx
   ·exact wMy (h.x0 b hx) hb.size
   ·exact(hrb hx).2)
 have h2:=h1.kAl hβr (kAb.map (·.1)) (fun i hi=>by simpa using jDl.1 hlow i hi)
 have hin:∀{id ob},lk id kAb=some ob→(mix (kAb.map (·.1)) βr β) id=βr id:=fun{id ob} hl=>by
  have:id∈kAb.map (·.1):=jCr.2 ⟨(id,ob),kBf hl,rfl⟩
  simp only[mix,this,if_true]
 have hkl:∀{b},XX (fun b=>X0 b∨∃id ob,lk id kAb=some ob∧(βr id).ft b) (mix (kAb.map (·.1)) βr β) (st.kAl (kAb.map (·.1))).hp b →
   XX X0 β st.hp b∨∃id ob,lk id kAb=some ob∧(βr id).ft b:=fun{b} hx=>by
  rcases hx with(hx|hx)|hx
  ·exact .inl (.inl hx)
  ·exact .inr hx
  ·obtain⟨id,ob,_,hl,hbb⟩:=k7l hx;exact .inl (.inr ⟨id,ob,hl,hbb⟩)
 have hS:Same (XX (Bor (XX X0 β st.hp) β ((st.kAi c caps).flatMap SV.owns)) βr kAb) w' w':=⟨jDu _,fun _ _ _=>rfl⟩
 have hXr:((st.kAi c caps).flatMap SV.owns)=[]→∀b,(XX X0 β st.hp b∨∃id ob,lk id kAb=some ob∧(βr id).ft b) →
   XX (Bor (XX X0 β st.hp) β ((st.kAi c caps).flatMap SV.owns)) βr kAb b:=fun he b hx=>by
  rcases hx with hx|hx
  ·exact .inl ⟨hx,fun id hid=>by rw[he]at hid;cases hid⟩
  ·exact .inr hx
 have h3:=h2.kEo kAb hnd (fun id ob hl=>by
   refine⟨?_,?_,fun b hbb=>?_,fun b j o' hbb hj hjb=>?_⟩
   ·cases hq:lk id (st.kAl (kAb.map (·.1))).hp with
    |none=>rfl
    |some y =>
     exfalso
     have key:∀(ids:List Nat) (id:Nat) (ob:Ob),lk id (st.kAl ids).hp=some ob→id∉ids:=by
      intro ids
      induction ids with
      |nil=>intro id ob h;simp
      |cons d l ih =>
       intro id ob h;simp only[St.kAl,St.kill,kCp]at h;by_cases hd:id=d
       ·subst hd;rw[kCt]at h;cases h
       ·rw[kAt hd]at h
        cases hy:lk id (st.kAl l).hp with
        |none=>rw[hy]at h;cases h
        |some y=>simp[hd,ih id y hy]
     exact key _ id y hq (jCr.2 ⟨(id,ob),kBf hl,rfl⟩)
   ·rw[hin hl];have hpb:ob.pb=true:=jDl.1 hsl (id,ob) (kBf hl);have hO:=kS8 id _ hl;rcases hbor with he|⟨_,hv⟩
    ·exact(hO.kJ9 hpb).mono hS (fun b _ hx=>hXr he b (hkl hx)) (fun _ _=>rfl)
    ·exact(hO.kJ9 hpb).isV (hv (id,_) (kBf hl))
   ·rw[hin hl]at hbb;exact⟨.inr ⟨id,ob,hl,hbb⟩,.inr (jZ9 h.grew (hrb ⟨id,ob,hl,hbb⟩).1)⟩
   ·rw[hin hl]at hbb;obtain⟨id2,o2,_,hl2,hb2⟩:=k7l ⟨j,o',hj,hjb⟩;have:=(h.objs id2 o2 hl2).lt hb2;have:=(hrb ⟨id,ob,hl,hbb⟩).1;omega) (fun i j oi oj b hi hj hbi hbj=>by
   rw[hin hi]at hbi;rw[hin hj]at hbj;exact hinj i j oi oj b hi hj hbi hbj)
 have h4:=h3.un (X1:=X0) (fun b hx=>.inl hx)
 have hRf:R w' (XX X0 (mix (kAb.map (·.1)) βr β) (kAb++(st.kAl (kAb.map (·.1))).hp)) (mix (kAb.map (·.1)) βr β) res v:=by
  have hR1:R w' (XX X0 (mix (kAb.map (·.1)) βr β) (kAb++(st.kAl (kAb.map (·.1))).hp)) βr res v:=by
   rcases hbor with he|⟨hv,_⟩
   ·refine hRv.mono hS fun b _ hx=>hXr he b ?_
    rcases hx with hx|⟨id,o',hi,hbb⟩
    ·exact .inl (.inl hx)
    ·rw[kC5]at hi
     cases hq:lk id kAb with
     |some y=>rw[hin hq]at hbb;exact .inr ⟨id,y,hq,hbb⟩
     |none=>rw[hq]at hi;exact hkl (.inr ⟨id,o',hi,hbb⟩)
   ·exact hRv.kE0 hv
  refine hR1.beta kOt fun id hid=>?_
  have:=jDl.1 hown id hid;have hm:id∈kAb.map (·.1):=by simpa using this
  simp only[mix,hm,if_true]
 cases hd:o.dst with
 |none=>exact⟨_,_,hK,by rw[hd];exact h4⟩
 |some d=>exact⟨_,_,hK,by rw[hd];exact h4.put (hN d hd) hRf⟩
end
end
end Go.Vc
