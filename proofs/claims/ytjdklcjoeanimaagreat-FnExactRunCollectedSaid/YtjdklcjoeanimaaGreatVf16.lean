/- DERIVED. Steps of the proof. -/
import Derived.Test.YtjdklcjoeanimaaGreatVf3
import Derived.Sort.Grow
import Derived.RangeFuncBox
import Derived.RangeFuncLeaves
import Derived.Shelf.Abstract
import Derived.WalkKit
import Derived.OwnWalkIn
import Derived.TacticsInMore
import Derived.LoopNIn
import Derived.LoopIn
import Derived.Maps.AppendAt
import Derived.Test.YtjdklcjoeanimaaGreatProg
set_option linter.all false
set_option maxHeartbeats 1000000
set_option maxRecDepth 10000
namespace Go.Vc
section
variable {P:Program}{f:FuncId}
theorem Holds.val {args:List SV}{res:SV}{x:Value}(hR:∀(w:World) (X:Nat→Prop) (β:Nat→BV),R w X β res x)
  (h:∀(w:World) (X:Nat→Prop) (vs:List Value),Grd P w→vs.length=args.length→(∀(i:Nat) (c:SV) (u:Value),args[i]? = some c→vs[i]? = some u→R w X (fun _=>kEm) c u) →
   Calls P f vs.toArray w fun e w'=>e=.returned x∧Go.RowKit.Below w.heap.size w w'):Holds P f args res []:=by
 intro w X vs hG hX hl ha;refine(h w X vs hG hl ha).mono fun e w' ⟨he,hb⟩=>?_
 exact⟨x,fun _=>kEm,he,hb,fun _=>rfl,hR _ _ _,⟨fun id ob hi=>(by cases hi),fun i j oi oj b hi=>(by cases hi)⟩,fun id ob b hi=>(by cases hi)⟩
theorem R.kYq {w:World}{X:Nat→Prop}{β:Nat→BV}{s:Nat}{rows:List (List SV)}{v:Value}(h:R w X β (.sl s rows) v) :
  (rows=[]∧∃p cap,v=.slice p 0 cap)∨∃b off cap,v=.slice (some ⟨b,off,none⟩) rows.length cap∧¬X b∧b<w.heap.size∧rows.length≤cap ∧
   ∀(i k:Nat) (row:List SV) (c:SV),rows[i]? = some row→row[k]? = some c→∃u,w.cell? ⟨b,off+(i*s+k),none⟩=some u∧Rp w X c u:=by
 have h:=h.kF4
 cases h with
 |nil s p cap=>exact .inl ⟨rfl,p,cap,rfl⟩
 |sl b off cap us h1 h2 h3 h4 h5 h6 h7=>exact .inr ⟨b,off,cap,rfl,h1,h2,h3,fun i k row c hr hc=>⟨us i k,h5 i k row c hr hc,h7 i k row c hr hc⟩⟩
theorem ObR.kYq {w:World}{X:Nat→Prop}{β:Nat→BV}{v:BV}{e s:Nat}{rows:List (List SV)}(h:ObR w X β v (.sl e s rows)) :
  (v=kEm∧rows=[])∨∃(b cap:Nat) (cur:Array Value) (us:Nat→Nat→Value),v=plain (.slice (some ⟨b,0,none⟩) rows.length cap)∧w.heap[b]? = some (.cells cur e (0,0))∧rows.length≤cap∧cap≤maxLen∧cur.size=cap*s ∧
   (∀(i:Nat) (row:List SV),rows[i]? = some row→row.length=s)∧∀(i k:Nat) (row:List SV) (c:SV),rows[i]? = some row→row[k]? = some c→cur[i*s+k]? = some (us i k)∧(us i k).oneCell'=true∧Rp w X c (us i k):=by
 cases h with
 |nil e s h=>exact .inl ⟨h,rfl⟩
 |sl b cap cur us hv hh h1 h2 h3 h4 h5 h6 h7=>exact .inr ⟨b,cap,cur,us,hv,hh,h1,h2,h3,h4,fun i k row c a b=>⟨h5 i k row c a b,h6 i k row c a b,h7 i k row c a b⟩⟩
structure Upd (w w':World) (b e:Nat) (cur cur':Array Value):Prop where
 os:w'.os=w.os
 tape:w'.tape=w.tape
 output:w'.output=w.output
 size:w.heap.size≤w'.heap.size
 cells:w'.heap[b]? = some (.cells cur' e (0,0))
 len:cur'.size=cur.size
 other:∀k,k<w.heap.size→k≠b→w'.heap[k]? = w.heap[k]?
def kBh (rows:List (List Value)):List (List SV):=rows.map fun r=>r.map SV.v
theorem kWi {rows:List (List Value)}{i k:Nat}{row:List SV}{c:SV}(hr:(kBh rows)[i]? = some row) (hc:row[k]? = some c):∃r u,rows[i]? = some r∧r[k]? = some u∧c=.v u:=by
 unfold kBh at hr;rw[jQ2]at hr
 cases hx:rows[i]? with
 |none=>rw[hx]at hr;cases hr
 |some r =>
  rw[hx]at hr;simp only[jIn,jBf]at hr;subst hr;rw[jQ2]at hc
  cases hu:r[k]? with
  |none=>rw[hu]at hc;cases hc
  |some u=>rw[hu]at hc;simp only[jIn,jBf]at hc;exact⟨r,u,rfl,hu,hc.symm⟩
theorem kSq {rows:List (List Value)}{i s:Nat}{row:List SV}(hr:(kBh rows)[i]? = some row) (h:∀r∈rows,r.length=s):row.length=s:=by
 unfold kBh at hr;rw[jQ2]at hr
 cases hx:rows[i]? with
 |none=>rw[hx]at hr;cases hr
 |some r =>
  rw[hx]at hr;simp only[jIn,jBf]at hr;subst hr;simpa using h r (jIc hx)
theorem kI7.cells {e s:Nat}{rows rows':List (List Value)}{rest:List SV}(hl0:∀r∈rows,r.length=s) (hlr:rows'.length=rows.length) (hl1:∀r∈rows',r.length=s)
  (hone:∀r∈rows',∀u∈r,u.oneCell'=true)
  (hnil:rows=[]→∀(w:World) (us:List Value),us.length=rest.length→(∀(i:Nat) (c:SV) (u:Value),rest[i]? = some c→us[i]? = some u→R w (fun _=>False) (fun _=>kEm) c u) →
   Calls P f ((Value.slice none 0 0::us).toArray) w fun en w'=>en=.returned (.tuple #[])∧Go.RowKit.Below w.heap.size w w')
  (hrest:∀c∈rest,(∃g,c=.fn g [])∨∃x,c=.v x)
  (h:∀(w:World) (b cap:Nat) (cur:Array Value) (us:List Value),Grd P w→w.heap[b]? = some (.cells cur e (0,0))→rows.length≤cap→cap≤maxLen→cur.size=cap*s →
   (∀(i k:Nat) (r:List Value) (u:Value),rows[i]? = some r→r[k]? = some u→cur[i*s+k]? = some u∧u.oneCell'=true)→us.length=rest.length →
   (∀(i:Nat) (c:SV) (u:Value),rest[i]? = some c→us[i]? = some u→R w (fun _=>False) (fun _=>kEm) c u) →
   Calls P f ((Value.slice (some ⟨b,0,none⟩) rows.length cap::us).toArray) w fun en w'=>en=.returned (.tuple #[])∧∃cur',Upd w w' b e cur cur' ∧
    ∀(i k:Nat) (r:List Value) (u:Value),rows'[i]? = some r→r[k]? = some u→cur'[i*s+k]? = some u) :
  kI7 P f (.own 1000000::rest) [(1000000,.sl e s (kBh rows))] (.tup []) [] [(1000000,.sl e s (kBh rows'))]:=by
 intro w X β vs hG hβ hX hl ha kS8 kYn
 match vs,hl,ha with
 |v0::us,hl,ha =>
  have hv0:=(ha 0 _ v0 rfl rfl).kB9;subst hv0;have hus:us.length=rest.length:=by simpa using hl
  have haR:∀(i:Nat) (c:SV) (u:Value),rest[i]? = some c→us[i]? = some u→R w (fun _=>False) (fun _=>kEm) c u:=fun i c u hc hu=>by
   have h1:=ha (i+1) c u (by simpa using hc) (by simpa using hu)
   rcases hrest c (jIc hc)with⟨g,rfl⟩|⟨x,rfl⟩
   ·obtain⟨cs,rfl,hcl,_⟩:=h1.kTr;have:cs=[]:=vG1 (by simpa using hcl.symm)
    subst this;exact .fn rfl fun k c u hk=>(by simp at hk)
   ·have:=h1.kAn;subst this;exact .p (.v _)
  have hO:=kS8.1 1000000 (.sl e s (kBh rows)) (by simp[lk])
  have kT6:∀{id ob},lk id ([]++[(1000000,Ob.sl e s (kBh rows'))])=some ob→id=1000000∧ob=.sl e s (kBh rows'):=fun{id ob} hi=>by
   simp only[jIw,lk]at hi;split at hi
   ·rename_i he;cases hi;exact⟨he,rfl⟩
   ·cases hi
  have inj:∀(β':Nat→BV) (i j:Nat) (oi oj:Ob) (b:Nat),lk i ([]++[(1000000,Ob.sl e s (kBh rows'))])=some oi→lk j ([]++[(1000000,Ob.sl e s (kBh rows'))])=some oj→(β' i).ft b→(β' j).ft b→i=j :=
   fun β' i j oi oj b hi hj _ _=>(kT6 hi).1.trans (kT6 hj).1.symm
  have nilc:rows=[]→β 1000000=kEm→Calls P f (((β 1000000).val::us).toArray) w fun en w'=>∃v β',en=.returned v∧w'.os=w.os∧w'.tape=w.tape∧w'.output=w.output∧w.heap.size≤w'.heap.size ∧
   (∀b,b<w.heap.size→(¬∃id ob,lk id [(1000000,Ob.sl e s (kBh rows))]=some ob∧(β id).ft b)→w'.heap[b]? = w.heap[b]?)∧(∀i,(β' i).val.oneCell'=true)∧(∀i ob,1000000≤i→lk i [(1000000,Ob.sl e s (kBh rows))]=some ob→(β' i).val=(β i).val) ∧
   R w' (XX X β' ([]++[(1000000,Ob.sl e s (kBh rows'))])) β' (.tup []) v∧Obs w' X β' ([]++[(1000000,Ob.sl e s (kBh rows'))]) ∧
   ∀id ob b,lk id ([]++[(1000000,Ob.sl e s (kBh rows'))])=some ob→(β' id).ft b→w.heap.size≤b∨∃k o,lk k [(1000000,Ob.sl e s (kBh rows))]=some o∧(β k).ft b:=fun hr hb0=>by
   rw[hb0];refine(hnil hr w us hus haR).mono fun en w' ⟨he,hb⟩=>?_
   have hr':rows'=[]:=vG1 (by rw[hlr,hr];rfl)
   refine⟨_,β,he,hb.os,hb.tape,hb.output,hb.size,fun b hlt _=>hb.block b hlt,hβ,fun _ _ _ _=>rfl,.tup (us:=[]) rfl fun k c u hk=>(by simp at hk),⟨fun id ob hi=>?_,inj β⟩,fun id ob b hi hb=>.inr ⟨1000000,.sl e s (kBh rows),by simp[lk],by rw[(kT6 hi).1]at hb;exact hb⟩⟩
   obtain⟨rfl,rfl⟩:=kT6 hi;rw[hr',hb0];exact .nil e s rfl
  rcases hO.kYq with⟨h0,hrows⟩|⟨b,cap,cur,us0,hv,hh,h1,h2,h3,h4,h5⟩
  ·exact nilc (by simpa[kBh]using hrows) h0
  ·skip;have hbv':β 1000000=plain (.slice (some ⟨b,0,none⟩) rows.length cap):=by rw[hv];simp[kBh]
   have hcell:∀(i k:Nat) (r:List Value) (u:Value),rows[i]? = some r→r[k]? = some u→cur[i*s+k]? = some u∧u.oneCell'=true:=fun i k r u hr hu=>by
    have e1:(kBh rows)[i]? = some (r.map SV.v):=by unfold kBh;rw[jQ2,hr];rfl
    have e2:(r.map SV.v)[k]? = some (.v u):=by rw[jQ2,hu];rfl
    obtain⟨e5,e4,e3⟩:=h5 i k _ _ e1 e2;generalize us0 i k=y at e3 e4 e5;cases e3;exact⟨e5,e4⟩
   rw[hbv'];refine(h w b cap cur us hG hh (by simpa[kBh]using h1) h2 h3 hcell hus haR).mono fun en w' ⟨he,cur',hU,hc'⟩=>?_
   have hblk:(β 1000000).ft b:=by rw[hbv'];rfl
   refine⟨_,β,he,hU.os,hU.tape,hU.output,hU.size,fun k hk hn=>hU.other k hk fun hkb=>hn ⟨1000000,.sl e s (kBh rows),by simp[lk],by rw[hkb];exact hblk⟩,hβ,fun _ _ _ _=>rfl,.tup (us:=[]) rfl fun k c u hk=>(by simp at hk),⟨fun id ob hi=>?_,inj β⟩,fun id ob b hi hb=>.inr ⟨1000000,.sl e s (kBh rows),by simp[lk],by rw[(kT6 hi).1]at hb;exact hb⟩⟩
   obtain⟨rfl,rfl⟩:=kT6 hi;rw[hbv'];refine .sl b cap cur' (fun i k=>(cur'[i*s+k]?).getD undef) (by simp[kBh,hlr]) hU.cells (by simpa[kBh,hlr]using h1) h2 (by rw[hU.len];exact h3) (fun i row hr=>kSq hr hl1) (fun i k row c hr hc=>?_) (fun i k row c hr hc=>?_) (fun i k row c hr hc=>?_)
   ·obtain⟨r,u,g1,g2,rfl⟩:=kWi hr hc;rw[hc' i k r u g1 g2];rfl
   ·obtain⟨r,u,g1,g2,rfl⟩:=kWi hr hc;rw[hc' i k r u g1 g2];exact hone r (jIc g1) u (jIc g2)
   ·obtain⟨r,u,g1,g2,rfl⟩:=kWi hr hc;rw[hc' i k r u g1 g2];exact .v u
end
section
variable {P:Program}{w:World}
theorem Grd.block (h:Grd P w) (h0:P.globals.size≠0):∃W0:World, W0.ShapedOpen P∧((P.globalNamed "internal/strconv.uint64pow10").isSome=true→W0.var? P "internal/strconv.uint64pow10" = some (qG2.map fun z => Value.int .u64 z).toArray)∧∀b, b<P.globals.size→w.heap[b]? = W0.heap[b]?:=by
 rcases h with h|⟨_,h⟩
 ·exact absurd h h0
 ·exact h
end
end Go.Vc
namespace Go.Proofs.YtjdklcjoeanimaaGreat
open Go.RowKit Go.Shelf Go.Vc
attribute [local go_sem] Oper.semAt_some
def come {α:Type}(f:Nat→α) (n k:Nat):List α:=(List.range k).map fun j=>f (n-1-j)
theorem k5z {α:Type}(f:Nat→α) (n k:Nat):come f n (k+1)=come f n k++[f (n-1-k)]:=by simp[come,List.range_succ]
theorem qMk {α:Type}(f:Nat→α) (n k:Nat):(come f n k).length=k:=by simp[come]
def KpB (n₀ Bs:Nat) (A B:World):Prop:=Below n₀ A B∧B.heap[Bs]? = A.heap[Bs]?
theorem KpB.refl (n₀ Bs:Nat) (A:World):KpB n₀ Bs A A:=⟨Below.refl _ _,rfl⟩
theorem KpB.trans {n₀ Bs:Nat}{A B C:World}(h:KpB n₀ Bs A B) (k:KpB n₀ Bs B C):KpB n₀ Bs A C:=⟨h.1.trans k.1,k.2.trans h.2⟩
theorem KpB.put {n₀ Bs:Nat}{w:World}(hn:n₀≤w.heap.size) (hBs:Bs<w.heap.size) (W:World) (l:Nat) (o o':Obj) (hl:w.heap.size≤l) (h:W.heap[l]? = some o) (h1:o.isCells=false) (h2:o.isWalk=false):KpB n₀ Bs W (W.putObj l o') :=
 ⟨belowK_b hn W l o o' hl h h1 h2,World.putObj_heap_other (fun e=>by omega)⟩
theorem qI0 {A B:World}{b off:Nat}(h:B.heap[b]? = A.heap[b]?):B.cell? ⟨b,off,none⟩=A.cell? ⟨b,off,none⟩:=by simp only[World.cell?,h]
set_option maxRecDepth 100000 in
set_option maxHeartbeats 2000000 in
theorem qMl {α:Type}(F:Fence) (n:Nat) (hf:F.fn 239) (hro:F.round=none) (hn:1≤n) (l Bs n₀ b off len cap:Nat) (f:Nat→α) (ev:α→Value) (hreach:len*24≤140737488351232) (hb:b<n₀) (J Jx:List α→World→Prop) (ix:α→Int) (hix:∀k,k<len→ix (f k)=k)
  (hY:∀pre x W,J pre W→pre.length<len→YieldAt F (n-1) Tryz.prog l #[.int .i64 (ix x),ev x] W fun e W' =>
   (e=.returned (.bool true)∧J (pre++[x]) W'∧KpB n₀ Bs W W')∨(e=.returned (.bool false)∧Jx (pre++[x]) W'))
  (W:World) (hBs:W.cell? ⟨Bs,0,none⟩=some (.slice (some ⟨b,off,none⟩) len cap)) (hc:∀j,j<len→W.cell? ⟨b,off+j,none⟩=some (ev (f j))) (h0:J [] W) :
  CallsIn F n Tryz.prog 239 #[.func (.yield l) #[] #[],.pointer (some ⟨Bs,0,none⟩)] W fun e W'=>(∃v,e=.returned v) ∧
   ((∃ys,ys=come f len len∧J ys W')∨(∃pre,(∃k,k≤len∧pre=come f len k)∧Jx pre W')):=by
 refine callsIn_of_wp Tryz.func239 rfl hf ?_ hro;simp only[Tryz.ntmps239,List.size_toArray,List.length_cons,List.length_nil,Nat.reduceAdd,Nat.reduceSub,Array.replicate_succ,Array.replicate_zero,List.push_toArray,List.append_toArray,List.nil_append,List.cons_append]
 gi_wp2
 gi_loopw [3] (fun i wr=>∃m:Nat,m≤len∧i=.int .i64 ((m:Int)-1)∧J (come f len (len-m)) wr∧KpB n₀ Bs W wr)
  (fun i _=>(intOf i+1).toNat)
 case atStart=>exact⟨len,Nat.le_refl _,rfl,by rw[Nat.sub_self];exact h0,KpB.refl _ _ _⟩
 case round =>
  obtain⟨m,hm,rfl,hJs,hnx⟩:=hrel
  cases m with
  |zero =>
   gi_wp2
   go_end0
   exact⟨⟨_,rfl⟩,.inl ⟨_,rfl,hJs⟩⟩
  |succ m =>
   rw[show((m+1:Nat):Int)-1=(m:Int)by omega]
   have hBs2:=(qI0 (off:=0) hnx.2).trans hBs;have hcx:wr.cell? ⟨b,off+m,none⟩=some (ev (f m)):=(hnx.1.cell (p:=⟨b,off+m,none⟩) hb).trans (hc m (by omega))
   have hlast:f (len-1-(len-(m+1)))=f m:=by congr 1;omega
   obtain⟨fn,tmps,assign,body,hy,hR⟩:=hY _ (f m) wr hJs (by rw[qMk];omega)
   rw[hix m (by omega)]at hy
   gi_wp2
   refine hR.mono ?_;rintro e W3 (⟨rfl,hJ3,hk3⟩|⟨rfl,hJx3⟩)
   ·gi_wp2
    go_roundw
    case rel=>exact⟨m,by omega,rfl,by rw[show len-m=len-(m+1)+1 by omega,k5z,hlast];exact hJ3,hnx.trans hk3⟩
    case measure=>simp[intOf]<;>omega
   ·gi_wp2
    refine bodyPost_ret (results_none rfl _ _ _) rfl ?_;exact⟨⟨_,rfl⟩,.inr ⟨_,⟨len-(m+1)+1,by omega,rfl⟩,by rw[k5z,hlast];exact hJx3⟩⟩
set_option maxHeartbeats 1000000 in
theorem qOq (F:Fence) (n:Nat) (hf:F.fn 192) (hro:F.round=none) (a:Option Addr) (len cap:Nat) (w:World) :
  CallsIn F n Tryz.prog 192 #[.slice a len cap] w fun e w'=>e=.returned (.func (.func 239) #[] #[.pointer (some ⟨w.heap.size,0,none⟩)])∧w'=w.alloc (.cells #[.slice a len cap] 174):=by
 refine callsIn_of_wp Tryz.func192 rfl hf ?_ hro;simp only[Tryz.ntmps192,List.size_toArray,List.length_cons,List.length_nil,Nat.reduceAdd,Nat.reduceSub,Array.replicate_succ,Array.replicate_zero,List.push_toArray,List.append_toArray,List.nil_append,List.cons_append]
 gi_wp2
 go_ret
 exact⟨rfl,rfl⟩
set_option maxRecDepth 100000 in
set_option maxHeartbeats 1000000 in
theorem k9h {α:Type}(F:Fence) (n:Nat) (hf:F.fn 239) (hro:F.round=none) (l Bs:Nat) (p:Option Addr) (cap:Nat) (J:List α→World→Prop) (W:World) (hBs:W.cell? ⟨Bs,0,none⟩=some (.slice p 0 cap)) (h0:J [] W) :
  CallsIn F n Tryz.prog 239 #[.func (.yield l) #[] #[],.pointer (some ⟨Bs,0,none⟩)] W fun e W'=>(∃v,e=.returned v)∧J [] W':=by
 refine callsIn_of_wp Tryz.func239 rfl hf ?_ hro;simp only[Tryz.ntmps239,List.size_toArray,List.length_cons,List.length_nil,Nat.reduceAdd,Nat.reduceSub,Array.replicate_succ,Array.replicate_zero,List.push_toArray,List.append_toArray,List.nil_append,List.cons_append]
 gi_wp2
 gi_loopw [3] (fun i wr=>i=.int .i64 (-1)∧J [] wr) (fun _ _=>0)
 case atStart=>exact⟨rfl,h0⟩
 case round =>
  obtain⟨rfl,hJs⟩:=hrel
  gi_wp2
  go_end0
  exact⟨⟨_,rfl⟩,hJs⟩
def Vals {α:Type}(n₀:Nat) (W:World) (sv:Value) (f:Nat→α) (ev:α→Value) (len:Nat):Prop :=
 (∃p cap,sv=.slice p 0 cap∧len=0)∨∃b off cap,sv=.slice (some ⟨b,off,none⟩) len cap∧b<n₀∧∀j,j<len→W.cell? ⟨b,off+j,none⟩=some (ev (f j))
theorem Vals.below {α:Type}{n₀:Nat}{A B:World}{f:Nat→α}{ev:α→Value}(h:Below n₀ A B) {sv:Value}{len:Nat}:Vals n₀ A sv f ev len→Vals n₀ B sv f ev len
 | .inl e=>.inl e
 | .inr ⟨b,off,cap,e,hb,hc⟩=>.inr ⟨b,off,cap,e,hb,fun j hj=>(h.cell (p:=⟨b,off+j,none⟩) hb).trans (hc j hj)⟩
theorem qGg {α:Type}(F:Fence) (n:Nat) (hf:F.fn 239) (hro:F.round=none) (hn:1≤n) (Bs n₀:Nat) (sv:Value) (f:Nat→α) (ev:α→Value) (ix:α→Int) (len:Nat) (hreach:len*24≤140737488351232) (hix:∀k,k<len→ix (f k)=k) (w:World) (hBs:Bs<w.heap.size) (hn₀:n₀≤w.heap.size)
  (hc:w.cell? ⟨Bs,0,none⟩=some sv) (hI:Vals n₀ w sv f ev len) :
  SeqStopsK F n Tryz.prog 239 #[.pointer (some ⟨Bs,0,none⟩)] (fun x:α=>#[Value.int .i64 (ix x),ev x]) (KpB n₀ Bs) (fun ys=>ys=come f len len) (fun pre=>∃k,k≤len∧pre=come f len k) len w:=fun l J Jx W hW _ _ hY h0=>by
 have hc':=(hW.cell (p:=⟨Bs,0,none⟩) (show Bs<w.heap.size by omega)).trans hc
 rcases hI.below (hW.mono (by omega))with⟨p,cap,rfl,rfl⟩|⟨b,off,cap,rfl,hb,hcs⟩
 ·exact(k9h F n hf hro l Bs p cap J W hc' h0).mono fun e W' ⟨he,hj⟩=>⟨he,.inl ⟨_,rfl,hj⟩⟩
 ·exact qMl F n hf hro hn l Bs n₀ b off len cap f ev hreach hb J Jx ix hix hY W hc' hcs h0
structure El (w:World) (X:Nat→Prop) (B:Nat) where
 ix:Int
 v:Value
 rows:List (List SV)
 vals:List Value
 flat:Flat w X 2 rows vals
 small:rows.length≤B
 lies:(∃p cap,v=.slice p 0 cap∧rows=[])∨∃b off cap,v=.slice (some ⟨b,off,none⟩) rows.length cap∧b<w.heap.size∧∀j u,vals[j]? = some u→w.cell? ((⟨b,off,none⟩:Addr).add j)=some u
theorem infoFr:(Tryz.prog.info? 228).map (fun i=>(i.zero,i.size,i.bytes))=some (some (.agg #[.string ⟨#[]⟩,.int .i64 0]),2,24):=by kernel_rfl
theorem kW6 {F:Fence}{n:Nat}{P:Program}(w:World) {ops:Array Oper}{rest:List Oper}{o:Oper}{a:Act}{Q:Exit→Act→World→Prop}
  (hg:o.guard=none) (s x:Operand) (t:TypeId) (hop:o.op=Op.call { callee:=Callee.builtin Builtin.append,args:=#[s,x],argTypes:=#[t,t] })
  (base:Nat) (e:TypeId) (i:TypeInfo) (z:Value) (size bytes:Nat) (h1:P.underlying t=some (.slice e)) (h2:P.info? e=some i) (h3:i.zero=some z) (h4:i.size=size) (h5:i.bytes=bytes) (h6:z.cells.size=size) (h7:0<size)
  (v:Value) (k:Nat) (xs:List Value) (hs:a.eval s=v) (hown:w.ownsRow base e size v k xs) (y:Value) (m:Nat) (news:List Value) (hx:a.eval x=y) (hn:news.length=m*size)
  (hy:(∃p cap,y=.slice p 0 cap∧m=0)∨∃ad c,y=.slice (some ad) m c∧∀j u,news[j]? = some u→w.cell? (ad.add j)=some u) (h1c:∀u∈news,u.oneCell'=true) (b1:k+m≤maxLen) (b2:(k+m)*bytes≤140737488355328) (b3:base≤w.heap.size)
  (hK:∀v' w',w'.ownsRow base e size v' (k+m) (xs++news)→w.grownBy w' v.ownBlock→wpListIn F n P ops Q rest (a.put o.dst v') w') :
  wpListIn F n P ops Q (o::rest) a w:=by
 rcases hy with⟨p,cap,rfl,rfl⟩|⟨ad,c,rfl,hc⟩
 ·have hnil:news=[]:=by simpa using hn
  subst hnil;refine wpListIn_plain hg fun K hK'=>?_
  have hrun:=kP9 base t o.type e i size h1 h2 v k xs hown p cap;unfold Oper.wpIn;refine⟨?_,?_⟩
  ·simp[Oper.about,hop,resolve,Target.leads,Sem.run_pure]
  ·rw[Oper.semAt_plain F _ _ (by rw[hop];intro c hc';cases hc')]
   simp[execOp,hop,resolve,invoke,builtin,hs,hx,hrun,Result.andThen];exact hK' _ _ (hK v w (by simpa using hown) (World.grownBy.refl _ _))
 ·exact wpListIn_append_own w hg s x t hop base e i z size bytes h1 h2 h3 h4 h5 h6 h7 v k xs hs hown ad m c news hx hn hc h1c b1 b2 b3 fun v' w' h8 h9 _=>hK v' w' h8 h9
def kHz {w:World}{X:Nat→Prop}{B:Nat}(L:List (El w X B)):List (List SV):=(L.map (·.rows)).flatten
def valsE {w:World}{X:Nat→Prop}{B:Nat}(L:List (El w X B)):List Value:=(L.map (·.vals)).flatten
theorem qGh {w:World}{X:Nat→Prop}{B:Nat}(L:List (El w X B)) (x:El w X B):kHz (L++[x])=kHz L++x.rows:=by simp[kHz]
theorem qGi {w:World}{X:Nat→Prop}{B:Nat}(L:List (El w X B)) (x:El w X B):valsE (L++[x])=valsE L++x.vals:=by simp[valsE]
theorem k9i {w:World}{X:Nat→Prop}{B:Nat}:∀L:List (El w X B),(kHz L).length≤L.length*B
 | []=>Nat.zero_le _
 |x::r=>by
  have h1:=k9i r;have h2:=x.small;have h3:kHz (x::r)=x.rows++kHz r:=by simp[kHz]
  rw[h3,List.length_append,List.length_cons,Nat.add_mul];omega
theorem qI1 {W w1:World}{n₀ B:Nat}{t e:TypeId}{size:Nat}{v v':Value}{k m:Nat}{xs ys:List Value}
  (hv:Boxed W B t v) (hte:t≠e) (hrow:W.ownsRow n₀ e size v k xs) (hn₀:n₀≤W.heap.size) (hB:n₀≤B)
  (hown':w1.ownsRow n₀ e size v' m ys) (hgrow:W.grownBy w1 v.ownBlock) :
  Boxed w1 B t v∧Boxed (w1.setCell ⟨B,0,none⟩ v') B t v'∧(w1.setCell ⟨B,0,none⟩ v').ownsRow n₀ e size v' m ys∧KeepsOthers W (w1.setCell ⟨B,0,none⟩ v')∧Below n₀ W (w1.setCell ⟨B,0,none⟩ v'):=by
 have hv1:Boxed w1 B t v:=hv.kept hgrow (hv.not_row hte hrow);refine⟨hv1,hv1.set v',hown'.kept (grownBy_setCell' w1 B v') (.inr (hv1.not_row hte hown').symm),?_,?_⟩
 ·refine(KeepsOthers.of_grownBy hgrow fun j o ej hj=>?_).trans (KeepsOthers.setCell _ _ _)
  rcases hrow.2 with⟨rfl,_⟩|⟨g,cap,cur,rfl,_,hgb,_⟩
  ·simp[Value.ownBlock]at ej
  ·obtain rfl:g=j:=by simpa[Value.ownBlock]using ej
   rw[hgb]at hj;cases hj;rfl
 ·refine((Below.refl n₀ W).grown hgrow (by omega) fun j ej=>?_).setCell (p:=⟨B,0,none⟩) hB v'
  rcases hrow.2 with⟨rfl,_⟩|⟨g,cap,cur,rfl,hb,_,_⟩
  ·simp[Value.ownBlock]at ej
  ·obtain rfl:g=j:=by simpa[Value.ownBlock]using ej
   exact hb
set_option maxRecDepth 100000 in
set_option maxHeartbeats 4000000 in
theorem qOr (F:Fence) (n:Nat) (h0:F.fn 118) (h1:F.fn 192) (h2:F.fn 239) (hro:F.round=none) (hn:3≤n) (w:World) (X:Nat→Prop) (a:Option Addr) (cap:Nat) (B:Nat) (f:Nat→El w X B) (len:Nat) (hreach:len*24≤140737488351232) (hix:∀k,k<len→(f k).ix=k)
  (hI:Vals w.heap.size w (.slice a len cap) f (·.v) len) (hBl:len*B*24≤140737488351232) :
  CallsIn F n Tryz.prog 118 #[.slice a len cap] w fun e W'=>∃v,e=.returned v∧W'.ownsRow w.heap.size 228 2 v (kHz (come f len len)).length (valsE (come f len len))∧Below w.heap.size w W':=by
 have hn1:1≤n:=by omega
 obtain⟨i0,hi,hz0,hz1,hz2⟩:=info_parts infoFr;refine callsIn_of_wp_marks Tryz.func118 rfl h0 ?_ hro;simp only[Tryz.ntmps118,List.size_toArray,List.length_cons,List.length_nil,Nat.reduceAdd,Nat.reduceSub,Array.replicate_succ,Array.replicate_zero,List.push_toArray,List.append_toArray,List.nil_append,List.cons_append]
 gi_wp2_with (gi_at_call 192;refine(qOq F (n-1) h1 hro _ _ _ _).mono ?_;rintro e w' ⟨rfl,rfl⟩)
 have b1:Boxed ((w.alloc (.cells #[] 228)).alloc (.cells #[.slice (some ⟨w.heap.size,0,none⟩) 0 0] 101)) (w.heap.size+1) 101 (.slice (some ⟨w.heap.size,0,none⟩) 0 0):=by
  have:=Boxed.new (w.alloc (.cells #[] 228)) 101 (.slice (some ⟨w.heap.size,0,none⟩) 0 0)
  rwa [World.size_alloc]at this
 have b2:Boxed (((w.alloc (.cells #[] 228)).alloc (.cells #[.slice (some ⟨w.heap.size,0,none⟩) 0 0] 101)).alloc (.cells #[.slice a len cap] 174)) (w.heap.size+1+1) 174 (.slice a len cap):=by
  have:=Boxed.new ((w.alloc (.cells #[] 228)).alloc (.cells #[.slice (some ⟨w.heap.size,0,none⟩) 0 0] 101)) 174 (.slice a len cap)
  rwa [World.size_alloc,World.size_alloc]at this
 have b1':=b1.alloc (.cells #[.slice a len cap] 174)
 have r0:(w.alloc (.cells #[] 228)).ownsRow w.heap.size 228 2 (.slice (some ⟨w.heap.size,0,none⟩) 0 0) 0 [] :=
  ⟨rfl,.inr ⟨w.heap.size,0,#[],rfl,Nat.le_refl _,World.alloc_heap_new w _,Nat.le_refl _,Nat.zero_le _,rfl,rfl⟩⟩
 have r2:=(r0.alloc (.cells #[.slice (some ⟨w.heap.size,0,none⟩) 0 0] 101)).alloc (.cells #[.slice a len cap] 174);have hB0:Below w.heap.size w (((w.alloc (.cells #[] 228)).alloc (.cells #[.slice (some ⟨w.heap.size,0,none⟩) 0 0] 101)).alloc (.cells #[.slice a len cap] 174)):=(((Below.refl _ w).alloc (Nat.le_refl _) _).alloc (by simp) _).alloc (by simp;omega) _
 refine wpIn_rangeFunc_ownG hro hn1 (gf:=239) (lb:=#[.pointer (some ⟨w.heap.size+1+1,0,none⟩)]) rfl h2 (enters_of Tryz.func239 (by kernel_rfl) rfl)
  (qGg F (n-1) h2 hro (by omega) (w.heap.size+1+1) w.heap.size (.slice a len cap) f (·.v) (·.ix) len hreach hix _ (by simp) (by simp;omega) b2.cell (hI.below hB0)) KpB.trans (KpB.put (by simp;omega) (by simp)) (Below.refl _ _) (fun _=>rfl)
  (fun pre W=>(∃v,Boxed W (w.heap.size+1) 101 v∧W.ownsRow w.heap.size 228 2 v (kHz pre).length (valsE pre)∧(pre.length≤len→True))∧(Boxed W (w.heap.size+1+1) 174 (.slice a len cap)∧Below w.heap.size w W))
  (fun _ _ _=>False)
  (OwnFrom.and (Own.from (holdsRow_own w.heap.size (w.heap.size+1) 101 228 2 (fun pre=>(kHz pre).length) (fun pre=>valsE pre) (fun pre v=>pre.length≤len→True)) _)
   (OwnFrom.and (Own.from (fun s A B row hs hg hr=>hs.kept hg (fun e=>by obtain⟨o,ho,hc⟩:=hr _ e.symm;rw[show A.heap[_]? = _ from hs]at ho;cases ho;cases hc)) _) (ownFrom_below (Nat.le_refl _) (by simp;omega))))
  (fun _ _ _ _ _ hs _ _=>hs)
  ⟨⟨_,b1',r2,fun _=>trivial⟩,b2,hB0⟩
  (fun x=>{ tmps:=#[.slice a len cap,undef,.slice none 0 0,.pointer (some ⟨w.heap.size+1,0,none⟩),undef,x.v,.slice (some ⟨w.heap.size,0,none⟩) 0 0,.slice a len cap,.func (.func 239) #[] #[.pointer (some ⟨w.heap.size+1+1,0,none⟩)],.int .i64 x.ix,x.v,undef,undef,undef,undef],defers:=[] }) ?assign ?body ?done ?stop
 case assign =>
  intro l x W K hK
  gi_wp2
  exact hK
 case body =>
  rintro l pre x W ⟨⟨v,hv,hrow,_⟩,hb2,hB⟩ hlt;have hc:=hv.cell
  have hlies:(∃p cap,x.v=.slice p 0 cap∧x.rows.length=0)∨∃ad c,x.v=.slice (some ad) x.rows.length c∧∀j u,x.vals[j]? = some u→W.cell? (ad.add j)=some u:=by
   rcases x.lies with⟨p,c,e1,e2⟩|⟨b,off,c,e1,hb,e2⟩
   ·exact .inl ⟨p,c,e1,by rw[e2];rfl⟩
   ·exact .inr ⟨⟨b,off,none⟩,c,e1,fun j u hu=>(hB.cell (p:=(⟨b,off,none⟩:Addr).add j) (by rw[kKo];exact hb)).trans (e2 j u hu)⟩
  have hle:=k9i pre;have hsm:=x.small
  have hmul:pre.length*B+B≤len*B:=by
   have:(pre.length+1)*B≤len*B:=Nat.mul_le_mul_right B hlt
   rwa [Nat.add_mul,Nat.one_mul]at this
  have hmx:maxLen=9223372036854775807:=rfl;have hBsz:=hB.size
  gi_wp2_with (gi_at_builtin;refine kW6 _ rfl _ _ 101 rfl w.heap.size 228 i0 (.agg #[.string ⟨#[]⟩,.int .i64 0]) 2 24 Tryz.underlying101 hi hz0 hz1 hz2 rfl (by decide) _ _ _ rfl hrow x.v x.rows.length x.vals rfl x.flat.len hlies x.flat.one (by omega) (by omega) hBsz ?_;intro v' w1 hown' hgrow;obtain⟨p',n',c',rfl⟩:∃p n c,v'=.slice p n c:=(by rcases hown'.2 with⟨rfl,_⟩|⟨g',cap',cur',rfl,_⟩<;>exact⟨_,_,_,rfl⟩);obtain⟨hv1,hv2,hr2,hk2,hb3⟩:=qI1 hv (by decide) hrow hBsz (Nat.le_add_right _ _) hown' hgrow;have hc1:=hv1.cell;have hf1:=hv1.frozen)
  have hbs:Boxed (w1.setCell ⟨w.heap.size+1,0,none⟩ (.slice p' n' c')) (w.heap.size+1+1) 174 (.slice a len cap):=(hb2.kept hgrow (hb2.not_row (by decide) hrow)).kept (grownBy_setCell' w1 (w.heap.size+1) _) (by simp)
  refine⟨hk2.from _,⟨hb3,hbs.trans (show W.heap[_]? = _ from hb2).symm⟩,⟨_,hv2,?_,fun _=>trivial⟩,hbs,hB.trans hb3⟩
  rw[qGh,qGi,List.length_append];exact hr2
 case done =>
  rintro D ys W hD rfl ⟨⟨v,hv,hrow,_⟩,hb2,hB⟩ hK;have hc:=hv.cell
  gi_wp2
  refine⟨by simp,.inl ⟨_,_,rfl,run_takeDeferred hK,?_⟩⟩
  exact⟨_,results_tmp rfl _ _ _,v,rfl,ownsRow_putObj hrow _ hK rfl,hB.trans (belowK_b (w:=w) (Nat.le_refl _) W D _ _ (by simp at hD;omega) hK rfl rfl)⟩
 case stop =>
  rintro D c pre W _ _ h _;exact h.elim
end Go.Proofs.YtjdklcjoeanimaaGreat
