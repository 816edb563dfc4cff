/- DERIVED. Steps of the proof. -/
import Derived.Test.YtjdklcjoeanimaaGreatVf4
set_option linter.all false
set_option maxHeartbeats 1000000
set_option maxRecDepth 10000
namespace Go.Proofs.YtjdklcjoeanimaaGreat
section
open Go.Vc Tryz
attribute [local irreducible] Go.Vc.WP
open Go.Pl
def kXa (s:ByteArray) (a b:Nat):ByteArray:=s.extract a b
def kIz (c:ByteArray) (Y:List Symbol) (y:Symbol) (k a:Nat):Bool :=
 decide (y.start=a∧1≤y.size∧y.size≤(c.size:Int)-a)&&kE7 y.name&&(Y.take k).all (fun x=>decide (x.name≠y.name))&&(kL1 (kXa c a (a+y.size.toNat))).isSome
def kF2 (c:ByteArray) (Y:List Symbol):Nat→Option Nat
 | 0=>some 0
 |k+1=>match kF2 c Y k,Y[k]? with
  |some a,some y=>if kIz c Y y k a=true then some (a+y.size.toNat)else none
  | _,_=>none
def kDy (c:ByteArray) (Y:List Symbol):Bool:=match kF2 c Y Y.length with
 |some a=>decide (a=c.size)&&decide (c.size≤1000000)
 |none=>false
theorem kVi {c:ByteArray}{Y:List Symbol}{k:Nat}(h:kF2 c Y k=none):∀m,kF2 c Y (k+m)=none
 | 0=>h
 |m+1=>by
  have ih:=kVi h m;show(match kF2 c Y (k+m),Y[k+m]? with|some a,some y=>if kIz c Y y (k+m) a=true then some (a+y.size.toNat)else none|_,_=>none)=none
  rw[ih]
theorem qC1 {c:ByteArray}{Y:List Symbol}{k a:Nat}(h:kF2 c Y k=some a) (hk:k<Y.length) (hb:kIz c Y Y[k] k a=false):kDy c Y=false:=by
 have h1:kF2 c Y (k+1)=none:=by
  rw[kF2,h,jD9 hk];simp only;rw[if_neg (by rw[hb];simp)]
 have h2:=kVi h1 (Y.length-(k+1));rw[show k+1+(Y.length-(k+1))=Y.length by omega]at h2
 unfold kDy;rw[h2]
theorem k9p {c:ByteArray}{Y:List Symbol}{k a:Nat}(h:kF2 c Y k=some a) (hk:k<Y.length) (hb:kIz c Y Y[k] k a=true):kF2 c Y (k+1)=some (a+Y[k].size.toNat)∧1≤Y[k].size∧a+Y[k].size.toNat≤c.size:=by
 refine⟨?_,?_⟩
 ·rw[kF2,h,jD9 hk];simp only;rw[if_pos hb]
 ·unfold kIz at hb;simp only[jBs,decide_eq_true_eq]at hb;omega
theorem qC2 {c:ByteArray}{Y:List Symbol}{a:Nat}(h:kF2 c Y Y.length=some a):kDy c Y=(decide (a=c.size)&&decide (c.size≤1000000)):=by
 unfold kDy;rw[h]
theorem qO3 {c:ByteArray}{Y:List Symbol}(h:1000000<c.size):kDy c Y=false:=by
 unfold kDy;split
 ·rw[decide_eq_false (by omega:¬c.size≤1000000),jPt]
 ·rfl
def qJf (x:ByteArray×List Symbol):Prop:=x.1.size≤4194304∧x.2.length≤4194304∧∀y∈x.2,y.name.size≤4194304
@[go_sem] def imgA (args:List SV) (i:Nat):ByteArray×List Symbol:=match args[i]? with
 |some (.agg [.v (.string c),.sl _ r])=>(c,kEt r)
 | _=>(⟨#[]⟩,[])
@[go_sem] def qJg:Ctr:=pur (fun args=>imgA args 0) (fun x=>[.agg [.v (.string x.1),.sl 3 (x.2.map encSymbol)]]) qJf (fun _ x=>.v (.bool (kDy x.1 x.2))) (fun _ _=>[])
theorem k9q {c:ByteArray}{Y:List Symbol}{y:Symbol}{k a:Nat}(h:¬(y.start=a∧1≤y.size∧y.size≤(c.size:Int)-a)):kIz c Y y k a=false:=by
 unfold kIz;rw[decide_eq_false h];rfl
theorem k9r {c:ByteArray}{Y:List Symbol}{y:Symbol}{k a:Nat}(h:kE7 y.name=false):kIz c Y y k a=false:=by
 unfold kIz;rw[h,jPt];rfl
theorem k9s {c:ByteArray}{Y:List Symbol}{y:Symbol}{k a j:Nat}(hj:j<Y.length) (hjk:j<k) (h:Y[j].name=y.name):kIz c Y y k a=false:=by
 have:(Y.take k).all (fun x=>decide (x.name≠y.name))=false:=by
  rw[vMt];refine⟨Y[j],?_,by simp[h]⟩
  rw[jWa];exact⟨j,by rw[jOb];omega,by rw[vUs]⟩
 unfold kIz;rw[this,jPt];rfl
theorem qC3 {c:ByteArray}{Y:List Symbol}{y:Symbol}{k a:Nat}(h1:y.start=a∧1≤y.size∧y.size≤(c.size:Int)-a) (h2:kE7 y.name=true) (h3:∀j (hj:j<Y.length),j<k→Y[j].name≠y.name) :
  kIz c Y y k a=(kL1 (kXa c a (a+y.size.toNat))).isSome:=by
 have:(Y.take k).all (fun x=>decide (x.name≠y.name))=true:=by
  rw[jDl];intro x hx;obtain⟨j,hj,rfl⟩:=jWa.1 hx;rw[jOb]at hj;rw[vUs,decide_eq_true_eq];exact h3 j zo zo
 unfold kIz;rw[decide_eq_true h1,h2,this];rfl
theorem k57 (c:ByteArray) (a b:Nat):(kXa c a b).size≤c.size:=by
 unfold kXa;rw[ByteArray.size_extract];omega
section
def cxImI:=kc k0p (kc cDisI kn)
theorem qO4:Cq 178 qJg:=by
 refine zp fun d x hx=>?_
 obtain⟨c,Y⟩:=x;obtain⟨hc,hY,hN⟩:=hx;simp only at hc hY hN⊢;refine zg cxImI func178 rfl rfl ntmps178 ?_;intros;by_cases hbig:1000000<c.size
 ·have hbi:(1000000:Int)<c.size:=zo;rw[qO3 hbig];exact zx hbi
 have hbi:¬(1000000:Int)<c.size:=zo;refine zy hbi ?_
 refine zM (fun q:Nat×Nat=>⟨[(1,.ptr 1 0 0 0),(3,vi q.2),(15,.sl 3 (Y.map encSymbol)),(16,vi Y.length),(17,vi q.1)],[(1,.box 144 [.v (.string c),.sl 3 (Y.map encSymbol)])]⟩)
  (fun q=>q.1≤Y.length∧kF2 c Y q.1=some q.2∧q.2≤c.size) (fun q=>Y.length-q.1) (0,0) ⟨zs,rfl,zs⟩ ?_
 rintro⟨k,a⟩ ⟨hk,hI,ha⟩;simp only at hk hI ha⊢;by_cases hlt:k<Y.length;rotate_left
 ·have hge:¬(k:Int)<Y.length:=zo;obtain rfl:k=Y.length:=zo;rw[qC2 hI,decide_eq_true (by omega:c.size≤1000000),jXj]
  have e:decide (a=c.size)=((a:Int)==c.size):=by rw[wGj,decide_eq_true_eq,beq_iff_eq];omega
  rw[e];exact zx hge
 have hli:(k:Int)<Y.length:=zo;have hr:=kAa encSymbol Y k hlt;have hbad:=qC1 hI hlt;have hnext:=k9p hI hlt;have hnm:=hN _ (jCn hlt);have hy0:kDd (encSymbol Y[k])=Y[k]:=rfl;generalize hye:Y[k]=y at *;by_cases hc1:y.start=a∧1≤y.size∧y.size≤(c.size:Int)-a;rotate_left
 ·rw[hbad (k9q hc1)];by_cases d1:y.start=a
  ·by_cases d2:y.size<1
   ·exact zx (z5 hli hr encSymbol.eq_1 d1 d2)
   ·have d3:(c.size:Int)-a<y.size:=zo;exact zx (z6 hli hr encSymbol.eq_1 d1 d2 d3)
  ·exact zx (z4 hli hr encSymbol.eq_1 d1)
 obtain⟨d1,d2,d3⟩:=hc1;have e2:¬y.size<1:=zo;have e3:¬(c.size:Int)-a<y.size:=zo
 cases hn:kE7 y.name with
 |false =>
  rw[hbad (k9r hn)]
  exact zx (z7 hli hr encSymbol.eq_1 d1 e2 e3 hn)
 |true =>
 (repeat' (first|apply zS|apply zB|(apply zW;simp only[go_sem,hli,hr,encSymbol,d1,e2,e3,hn,←vK9])|apply jAi|exact zc0|intro _))
 have htl:(Y.take k).length=k:=by rw[jOb];omega
 refine zL (fun j:Nat=>⟨[(1,.ptr 1 0 0 0),(3,vi a),(5,.ptr 5 0 0 0),(15,.sl 3 (Y.map encSymbol)),(16,vi Y.length),(17,vi k),(50,.sl 3 ((Y.take k).map encSymbol)),(51,vi k),(52,vi j)],
   [(1,.box 144 [.v (.string c),.sl 3 (Y.map encSymbol)]),(5,.box 214 [.v (.string y.name),vi a,vi y.size])]⟩)
  (fun j=>j≤k∧∀i (hi:i<Y.length),i<j→Y[i].name≠y.name) (fun j=>k-j) 0 zs ?_ ?_
 ·(simp only[go_sem,htl,d1]<;>(first|(and_intros<;>rfl)|simp))
 intro j ⟨hj,hf⟩;by_cases hjk:j<k
 ·have kRv:(j:Int)<k:=zo;have hjl:j<Y.length:=zo;have hr2:=kAa encSymbol (Y.take k) j zo;rw[vUs]at hr2;have hjti:(j:Int)<(Y.take k).length:=zo;by_cases he:Y[j].name=y.name
  ·rw[hbad (k9s hjl hjk he)];exact zx (z5 kRv hjti hr2 encSymbol.eq_1 he)
  ·(repeat' (first|apply zS|apply zB|(apply zW;simp only[go_sem,kRv,hjti,hr2,encSymbol,he])|apply jAi|exact zc0|intro _))
   all_goals first|exact⟨j+1,⟨zo,fun i hi hij=>by
    rcases jFx i j with h|h
    ·exact hf i hi h
    ·have:i=j:=zo;subst this;exact he⟩,zo,zh⟩|trace_state
 ·have kRv:¬(j:Int)<k:=zo;have hso:=qC3 (c:=c) (Y:=Y) (y:=y) (k:=k) (a:=a) ⟨d1,d2,d3⟩ hn fun i hi hik=>hf i hi zo
  obtain⟨z,hz⟩:∃z:Nat,y.size=z:=⟨_,(vGf zo).symm⟩;have haz:((a:Int)+z).toNat=a+z:=zo;have hcu:c.extract a (a+z)=kXa c a (a+z):=rfl;have hcs:=k57 c a (a+z);rw[hz,jB2]at hso
  cases hds:(kL1 (kXa c a (a+z))).isSome with
  |false =>
   rw[hds]at hso;rw[hbad hso]
   exact zx (z5 kRv hz haz hcu hds)
  |true =>
   rw[hds]at hso;obtain⟨n1,n2,n3⟩:=hnext hso;rw[hz,jB2]at n1 n3
   (repeat' (first|apply zS|apply zB|(apply zW;simp only[go_sem,kRv,hz,haz,hcu,hds])|apply jAi|exact zc0|intro _))
   all_goals first|exact⟨(k+1,a+z),⟨by simp only;omega,n1,n3⟩,by simp only;omega,zh⟩|trace_state
end
section
def cxImS:=kc k0q (kc cDisS kn)
theorem qO5:Cq 152 qJg:=by
 refine zp fun d x hx=>?_
 obtain⟨c,Y⟩:=x;obtain⟨hc,hY,hN⟩:=hx;simp only at hc hY hN⊢;refine zg cxImS func152 rfl rfl ntmps152 ?_;intros;refine zy1 9 trivial ?_
 refine zM (fun q:Nat×Nat=>⟨[(1,.ptr 1 0 0 0),(3,vi q.2),(4,vi q.1)],[(1,.box 144 [.v (.string c),.sl 3 (Y.map encSymbol)])]⟩)
  (fun q=>q.1≤Y.length∧kF2 c Y q.1=some q.2∧q.2≤c.size) (fun q=>Y.length-q.1) (0,0) ⟨zs,rfl,zs⟩ ?_
 rintro⟨k,a⟩ ⟨hk,hI,ha⟩;simp only at hk hI ha⊢;by_cases hlt:k<Y.length;rotate_left
 ·have hge:¬(k:Int)<Y.length:=zo;obtain rfl:k=Y.length:=zo;have e:decide (a=c.size)=((a:Int)==c.size):=by rw[wGj,decide_eq_true_eq,beq_iff_eq];omega
  have e':decide (c.size≤1000000)=decide ((c.size:Int)≤1000000):=decide_eq_decide.2 zo;rw[qC2 hI,e,e'];exact zx1 9 hge
 have hli:(k:Int)<Y.length:=zo;have hr:=kAa encSymbol Y k hlt;have hbad:=qC1 hI hlt;have hnext:=k9p hI hlt;have hnm:=hN _ (jCn hlt);have hy0:kDd (encSymbol Y[k])=Y[k]:=rfl;generalize hye:Y[k]=y at *;by_cases hc1:y.start=a∧1≤y.size∧y.size≤(c.size:Int)-a;rotate_left
 ·rw[hbad (k9q hc1)];by_cases d1:y.start=a
  ·by_cases d2:y.size<1
   ·exact zx1 9 (z5 hli hr encSymbol.eq_1 d1 d2)
   ·have d3:(c.size:Int)-a<y.size:=zo;exact zx1 9 (z6 hli hr encSymbol.eq_1 d1 d2 d3)
  ·exact zx1 9 (z4 hli hr encSymbol.eq_1 d1)
 obtain⟨d1,d2,d3⟩:=hc1;have e2:¬y.size<1:=zo;have e3:¬(c.size:Int)-a<y.size:=zo
 cases hn:kE7 y.name with
 |false =>
  rw[hbad (k9r hn)]
  exact zx1 9 (z7 hli hr encSymbol.eq_1 d1 e2 e3 hn)
 |true =>
 refine zy1 9 (z7 hli hr encSymbol.eq_1 d1 e2 e3 hn) ?_;have htl:(Y.take k).length=k:=by rw[jOb];omega
 refine zL (fun j:Nat=>⟨[(1,.ptr 1 0 0 0),(3,vi a),(4,vi k),(5,.ptr 5 0 0 0),(6,vi j)],
   [(1,.box 144 [.v (.string c),.sl 3 (Y.map encSymbol)]),(5,.box 214 [.v (.string y.name),vi a,vi y.size])]⟩)
  (fun j=>j≤k∧∀i (hi:i<Y.length),i<j→Y[i].name≠y.name) (fun j=>k-j) 0 zs ?_ ?_
 ·(simp only[go_sem,htl,d1]<;>(first|(and_intros<;>rfl)|simp))
 intro j ⟨hj,hf⟩;by_cases hjk:j<k
 ·have kRv:(j:Int)<k:=zo;have hjl:j<Y.length:=zo;have hr2:=kAa encSymbol Y j hjl;have hjti:(j:Int)<Y.length:=zo;by_cases he:Y[j].name=y.name
  ·rw[hbad (k9s hjl hjk he)];exact zx1 9 (z5 kRv hjti hr2 encSymbol.eq_1 he)
  ·(repeat' (first|apply zS|apply zB|((first|apply zW| refine zd 9 ?_);simp only[go_sem,kRv,hjti,hr2,encSymbol,he])|apply jAi|exact zc0|intro _))
   all_goals first|exact⟨j+1,⟨zo,fun i hi hij=>by
    rcases jFx i j with h|h
    ·exact hf i hi h
    ·have:i=j:=zo;subst this;exact he⟩,zo,zh⟩|trace_state
 ·have kRv:¬(j:Int)<k:=zo;have hso:=qC3 (c:=c) (Y:=Y) (y:=y) (k:=k) (a:=a) ⟨d1,d2,d3⟩ hn fun i hi hik=>hf i hi zo
  obtain⟨z,hz⟩:∃z:Nat,y.size=z:=⟨_,(vGf zo).symm⟩;have haz:((a:Int)+z).toNat=a+z:=zo;have hcu:c.extract a (a+z)=kXa c a (a+z):=rfl;have hcs:=k57 c a (a+z);rw[hz,jB2]at hso
  cases hds:(kL1 (kXa c a (a+z))).isSome with
  |false =>
   rw[hds]at hso;rw[hbad hso]
   exact zx1 9 (z5 kRv hz haz hcu hds)
  |true =>
   rw[hds]at hso;obtain⟨n1,n2,n3⟩:=hnext hso;rw[hz,jB2]at n1 n3
   (repeat' (first|apply zS|apply zB|((first|apply zW| refine zd 9 ?_);simp only[go_sem,kRv,hz,haz,hcu,hds])|apply jAi|exact zc0|intro _))
   all_goals first|exact⟨(k+1,a+z),⟨by simp only;omega,n1,n3⟩,by simp only;omega,zh⟩|trace_state
end
end
section
open Go.Vc Tryz
attribute [local irreducible] Go.Vc.WP
open Go.Pl
structure Image where
 code:ByteArray
 symbols:List Symbol
def encImage (x:Image):List SV:=[.v (.string x.code),.sl 3 (x.symbols.map encSymbol)]
def kCc:List SV→Image
 | [.v (.string c),.sl _ r]=>⟨c,kEt r⟩
 | _=>⟨⟨#[]⟩,[]⟩
def kDf (rows:List (List SV)):List Image:=rows.map kCc
@[go_sem] theorem qQ4 (L:List Image):kDf (L.map encImage)=L:=by
 unfold kDf;rw[jRw]
 conv=>rhs;rw[←List.map_id L]
 apply vDr;intro x _;show kCc (encImage x)=x
 unfold kCc encImage;simp only[kVy]
def kFo:Image:=⟨⟨#[]⟩,[]⟩
structure kSb (c:ByteArray) (Y:List Symbol) (A:Nat→Nat):Prop where
 start:∀k (h:k<Y.length),Y[k].start=A k
 size:∀k (h:k<Y.length),1≤Y[k].size∧(A (k+1):Int)=A k+Y[k].size
 zero:A 0=0
 last:A Y.length=c.size
 big:c.size≤1000000
theorem kS2 {c:ByteArray}{Y:List Symbol}(h:kDy c Y=true):∃A,kSb c Y A:=by
 unfold kDy at h;split at h
 case h_2=>cases h
 rename_i a ha;simp only[jBs,decide_eq_true_eq]at h
 have all:∀k,k≤Y.length→∃b,kF2 c Y k=some b:=fun k hk=>by
  cases hq:kF2 c Y k with
  |some b=>exact⟨b,rfl⟩
  |none =>
   have:=kVi hq (Y.length-k);rw[show k+(Y.length-k)=Y.length by omega,ha]at this
   cases this
 have step:∀k (hk:k<Y.length) b,kF2 c Y k=some b→kIz c Y Y[k] k b=true∧kF2 c Y (k+1)=some (b+Y[k].size.toNat):=fun k hk b hb=>by
  obtain⟨b2,hb2⟩:=all (k+1) zo;have h2:=hb2;rw[kF2,hb,jD9 hk]at h2;simp only at h2;split at h2
  ·rename_i hs;exact⟨hs,by rw[hb2,←h2]⟩
  ·cases h2
 refine⟨fun k=>(kF2 c Y k).getD 0,fun k hk=>?_,fun k hk=>?_,rfl,by show(kF2 c Y Y.length).getD 0=_;rw[ha];exact h.1,h.2⟩
 ·obtain⟨b,hb⟩:=all k zo;have h1:=(step k hk b hb).1;unfold kIz at h1;simp only[jBs,decide_eq_true_eq]at h1;simp only[hb,jOj];exact h1.1.1.1.1
 ·obtain⟨b,hb⟩:=all k zo;obtain⟨h1,h2⟩:=step k hk b hb;unfold kIz at h1;simp only[jBs,decide_eq_true_eq]at h1;simp only[hb,h2,jOj];omega
theorem kSb.mono {c:ByteArray}{Y:List Symbol}{A:Nat→Nat}(h:kSb c Y A):∀(j k:Nat),k+j≤Y.length→A k+j≤A (k+j)
 | 0,k,_=>by simp
 |j+1,k,hk=>by
  have ih:=h.mono j k zo;have:=h.size (k+j) zo;rw[show k+(j+1)=k+j+1 by omega]
  omega
def kAk (o:Int) (x:Symbol):Bool:=decide (0≤x.start∧x.start≤1000000)&&decide (0≤x.size∧x.size≤1000000)&&decide (x.start≤o)&&decide (o<x.start+x.size)
theorem kSb.hit {c:ByteArray}{Y:List Symbol}{A:Nat→Nat}(h:kSb c Y A) {k:Nat}(hk:k<Y.length) (o:Int):kAk o Y[k]=true↔(A k:Int)≤o∧o<A (k+1):=by
 have h1:=h.start k hk;have h2:=h.size k hk;have h3:=h.mono (Y.length-(k+1)) (k+1) zo;rw[show k+1+(Y.length-(k+1))=Y.length by omega,h.last]at h3
 have h4:=h.big;unfold kAk;simp only[jBs,decide_eq_true_eq];omega
theorem kSb.at {c:ByteArray}{Y:List Symbol}{A:Nat→Nat}(h:kSb c Y A) {k:Nat}(hk:k<Y.length):firstIdx (kAk Y[k].start) Y=k:=by
 refine kEe hk (fun j hj hjk=>?_) ?_
 ·rw[wDu,ne_eq,h.hit hj,h.start k hk];have:=h.mono (k-(j+1)) (j+1) zo;rw[show j+1+(k-(j+1))=k by omega]at this
  omega
 ·rw[h.hit hk,h.start k hk];have:=h.size k hk;omega
theorem kSb.lt {c:ByteArray}{Y:List Symbol}{A:Nat→Nat}(h:kSb c Y A) {k:Nat}(hk:k<Y.length):0≤Y[k].start∧Y[k].start<c.size:=by
 have h1:=h.start k hk;have h2:=h.size k hk;have h3:=h.mono (Y.length-(k+1)) (k+1) zo;rw[show k+1+(Y.length-(k+1))=Y.length by omega,h.last]at h3
 omega
def kC3 (I:List Image) (B:List Int) (e:Int) (i:Nat):Bool:=decide (B.getD i 0≤e)&&decide (e<B.getD i 0+((I.getD i kFo).code.size:Int))
def kAm (I:List Image) (B:List Int) (e:Int):Int:=firstIdx (kC3 I B e) (List.range I.length)
def kSc (b e:Int) (Y:List Symbol):Bool:=Y.any fun x=>decide (b+x.start=e)
def kDz (I:List Image) (B:List Int) (e:Int):Bool:=(List.range I.length).any fun i=>kSc (B.getD i 0) e (I.getD i kFo).symbols
def entS (I:List Image) (B:List Int) (e:Int):Bool :=
 if kAm I B e<0 then false else
  (decide (0≤firstIdx (kAk (e-B.getD (kAm I B e).toNat 0)) (I.getD (kAm I B e).toNat kFo).symbols) &&
   decide (((I.getD (kAm I B e).toNat kFo).symbols.getD (firstIdx (kAk (e-B.getD (kAm I B e).toNat 0)) (I.getD (kAm I B e).toNat kFo).symbols).toNat ⟨⟨#[]⟩,0,0⟩).start=e-B.getD (kAm I B e).toNat 0))
def kOh (I:List Image) (B:List Int):Bool :=
 decide (0<(I.getD 0 kFo).code.size)&&decide (0<(I.getD 1 kFo).code.size)&&decide (B.getD 0 0<B.getD 1 0+(I.getD 1 kFo).code.size)&&decide (B.getD 1 0<B.getD 0 0+(I.getD 0 kFo).code.size)
def kFf (I:List Image) (B:List Int) (k:Nat):Bool:=(List.range k).all fun i=>kDy (I.getD i kFo).code (I.getD i kFo).symbols&&decide (1≤B.getD i 0∧B.getD i 0≤1000000)
def kAo (I:List Image) (B E:List Int):Bool :=
 decide (I.length=2∧B.length=2∧1≤E.length∧E.length≤6)&&kFf I B 2&&!kOh I B&&E.all (kDz I B)
theorem kVt {I:List Image}{B:List Int}(h2:I.length=2) (hi:kFf I B 2=true) (ho:kOh I B=false) (e:Int):entS I B e=kDz I B e:=by
 obtain⟨i0,i1,rfl⟩:∃a b,I=[a,b]:=by
  match I,h2 with
  | [a,b],_=>exact⟨a,b,rfl⟩
 generalize hb0:B.getD 0 0=b0 at *;generalize hb1:B.getD 1 0=b1 at *
 have e0:kDy i0.code i0.symbols=true∧kDy i1.code i1.symbols=true:=by
  simp[kFf,wDe]at hi;exact⟨hi.1.1,hi.2.1⟩
 obtain⟨A0,c0⟩:=kS2 e0.1;obtain⟨A1,c1⟩:=kS2 e0.2
 have ov:¬(0<i0.code.size∧0<i1.code.size∧b0<b1+i1.code.size∧b1<b0+i0.code.size):=by
  intro h;unfold kOh at ho;simp only[hb0,hb1]at ho;simp[h]at ho
 have hq0:B[0]?.getD 0=b0:=by rw[←hb0,jKz]
 have hq1:B[1]?.getD 0=b1:=by rw[←hb1,jKz]
 have n0:kC3 [i0,i1] B e 0=true↔b0≤e∧e<b0+i0.code.size:=by simp[kC3,hq0]
 have n1:kC3 [i0,i1] B e 1=true↔b1≤e∧e<b1+i1.code.size:=by simp[kC3,hq1]
 have key:∀(b:Int) (i:Image) (A:Nat→Nat),kSb i.code i.symbols A→((decide (0≤firstIdx (kAk (e-b)) i.symbols)&&decide ((i.symbols.getD (firstIdx (kAk (e-b)) i.symbols).toNat ⟨⟨#[]⟩,0,0⟩).start=e-b))=true↔kSc b e i.symbols=true):=fun b i A c=>by
  unfold kSc;rw[vMn,jBs,decide_eq_true_eq,decide_eq_true_eq];constructor
  ·rintro⟨g1,g2⟩
   have:(firstIdx (kAk (e-b)) i.symbols).toNat<i.symbols.length:=by
    unfold firstIdx at g1⊢;split at g1
    ·rename_i q hq;have:=(vWw.1 hq).1;simpa using this
    ·omega
   rw[jKz,jD9 this]at g2;exact⟨_,jCn this,by rw[decide_eq_true_eq];simp only[jOj]at g2;omega⟩
  ·rintro⟨x,hx,hxe⟩;rw[decide_eq_true_eq]at hxe;obtain⟨k,hk,rfl⟩:=jWa.1 hx;have:e-b=i.symbols[k].start:=zo;rw[this,c.at hk,jB2,jKz,jD9 hk];exact⟨zo,rfl⟩
 have hin:∀(b:Int) (i:Image) (A:Nat→Nat),kSb i.code i.symbols A→kSc b e i.symbols=true→b≤e∧e<b+i.code.size:=fun b i A c h=>by
  unfold kSc at h;rw[vMn]at h;obtain⟨x,hx,hxe⟩:=h;rw[decide_eq_true_eq]at hxe;obtain⟨k,hk,rfl⟩:=jWa.1 hx;have:=c.lt hk;omega
 have hie:kDz [i0,i1] B e=(kSc b0 e i0.symbols || kSc b1 e i1.symbols):=by
  simp[kDz,wDe,hq0,hq1]
 have hl:kAm [i0,i1] B e=if kC3 [i0,i1] B e 0=true then 0 else if kC3 [i0,i1] B e 1=true then 1 else -1:=by
  unfold kAm firstIdx;simp only[jGk,jOy,wDe,List.range_zero,jIw,jRa,List.findIdx?_cons,List.findIdx?_nil];cases kC3 [i0,i1] B e 0<;>cases kC3 [i0,i1] B e 1<;>simp
 rw[hie];unfold entS;rw[hl];have h0':=hin b0 i0 A0 c0;have h1':=hin b1 i1 A1 c1;by_cases p0:kC3 [i0,i1] B e 0=true
 ·rw[if_pos p0];rw[if_neg zo];simp only[Int.toNat_zero,List.getD_cons_zero,hb0]
  have h1n:kSc b1 e i1.symbols=false:=by
   rw[wDu];intro h;have g0:=n0.1 p0;have g1:=h1' h;exact ov ⟨zo,zo,zo,zo⟩
  rw[h1n,wIu,wGj];exact key b0 i0 A0 c0
 ·rw[if_neg p0]
  have h0n:kSc b0 e i0.symbols=false:=by
   rw[wDu];intro h;exact p0 (n0.2 (h0' h))
  rw[h0n,jXf];by_cases p1:kC3 [i0,i1] B e 1=true
  ·rw[if_pos p1,if_neg zo];have t1:(1:Int).toNat=1:=rfl;simp only[t1,List.getD_cons_succ,List.getD_cons_zero,hb1];rw[wGj];exact key b1 i1 A1 c1
  ·rw[if_neg p1,if_pos zo];symm;rw[wDu];intro h;exact p1 (n1.2 (h1' h))
@[go_sem] def spA (args:List SV) (i:Nat):List Image×List Int×List Int:=match args[i]? with
 |some (.agg [.sl _ a,.sl _ b,.sl _ c])=>(kDf a,kBs b,kBs c)
 | _=>([],[],[])
def kUa (I:List Image):Prop:=I.length≤4194304∧∀i∈I,qJf (i.code,i.symbols)
@[go_sem] def qI9:Ctr:=pur (fun args=>(imgA args 0,aI args 1)) (fun x=>[.agg [.v (.string x.1.1),.sl 3 (x.1.2.map encSymbol)],vi x.2]) (fun x=>x.1.2.length≤4194304) (fun _ x=>vi ((firstIdx (kAk x.2) x.1.2))) (fun _ _=>[])
section
def cxSaS:=kc c58 kn
theorem qC0:Cq 154 qI9:=by
 refine zp fun d x hx=>?_
 obtain⟨⟨c,Y⟩,o⟩:=x;simp only at hx⊢;refine zg cxSaS func154 rfl rfl ntmps154 ?_;intros;refine zy trivial ?_
 refine zM (fun k:Nat=>⟨[(1,vi o),(2,.ptr 2 0 0 0),(5,vi k)],[(2,.box 144 [.v (.string c),.sl 3 (Y.map encSymbol)])]⟩)
  (fun k=>k≤Y.length∧∀i (hi:i<Y.length),i<k→kAk o Y[i]=false) (fun k=>Y.length-k) 0 zs ?_
 intro k ⟨hk,hf⟩;by_cases hlt:k<Y.length
 ·have hli:(k:Int)<Y.length:=zo;have hr:=kAa encSymbol Y k hlt;have hy:kDd (encSymbol Y[k])=Y[k]:=rfl;by_cases h1:0≤Y[k].start∧Y[k].start≤1000000
  ·by_cases h2:0≤Y[k].size∧Y[k].size≤1000000
   ·by_cases h3:Y[k].start≤o
    ·by_cases h4:o<Y[k].start+Y[k].size
     ·have hh:kAk o Y[k]=true:=by simp[kAk,h1,h2,h3,h4]
      rw[show firstIdx (kAk o) Y=k from kEe hlt hf hh]
      exact zx (z7 hli hr encSymbol.eq_1 h1 h2 h3 h4)
     ·have hh:kAk o Y[k]=false:=by simp[kAk];omega
      (repeat' (first|apply zS|apply zB|(apply zW;simp only[go_sem,hli,hr,encSymbol,h1,h2,h3,h4])|apply jAi|exact zc0|intro _))
      all_goals first|exact⟨k+1,⟨zo,fun i hi hik=>by
       rcases jFx i k with h|h
       ·exact hf i hi h
       ·have:i=k:=zo;subst this;exact hh⟩,zo,zh⟩|trace_state
    ·have hh:kAk o Y[k]=false:=by simp[kAk];omega
     (repeat' (first|apply zS|apply zB|(apply zW;simp only[go_sem,hli,hr,encSymbol,h1,h2,h3])|apply jAi|exact zc0|intro _))
     all_goals first|exact⟨k+1,⟨zo,fun i hi hik=>by
      rcases jFx i k with h|h
      ·exact hf i hi h
      ·have:i=k:=zo;subst this;exact hh⟩,zo,zh⟩|trace_state
   ·have hh:kAk o Y[k]=false:=by simp[kAk];omega
    have h2':(decide (0≤Y[k].size)&&decide (Y[k].size≤1000000))=false:=by rw[←vBz];exact decide_eq_false h2
    (repeat' (first|apply zS|apply zB|(apply zW;simp only[go_sem,hli,hr,encSymbol,h1,h2'])|apply jAi|exact zc0|intro _))
    all_goals first|exact⟨k+1,⟨zo,fun i hi hik=>by
      rcases jFx i k with h|h
      ·exact hf i hi h
      ·have:i=k:=zo;subst this;exact hh⟩,zo,zh⟩|trace_state
  ·have hh:kAk o Y[k]=false:=by simp[kAk];omega
   have h1':(decide (0≤Y[k].start)&&decide (Y[k].start≤1000000))=false:=by rw[←vBz];exact decide_eq_false h1
   (repeat' (first|apply zS|apply zB|(apply zW;simp only[go_sem,hli,hr,encSymbol,h1'])|apply jAi|exact zc0|intro _))
   all_goals first|exact⟨k+1,⟨zo,fun i hi hik=>by
      rcases jFx i k with h|h
      ·exact hf i hi h
      ·have:i=k:=zo;subst this;exact hh⟩,zo,zh⟩|trace_state
 ·have hge:¬(k:Int)<Y.length:=zo;rw[show firstIdx (kAk o) Y=-1 from firstIdx_none fun i hi=>hf i hi zo]
  exact zx hge
end
end
section
open Go.Vc Tryz
attribute [local irreducible] Go.Vc.WP
open Go.Pl
theorem kA9 {L:List Int}{k:Nat}(h:k<L.length) (d:Int):L.getD k d=L[k]:=by rw[jKz,jD9 h];rfl
theorem kCd {L:List Image}{k:Nat}(h:k<L.length) (d:Image):L.getD k d=L[k]:=by rw[jKz,jD9 h];rfl
def kGt (x:(List Image×List Int×List Int)×Int):Prop:=kUa x.1.1∧x.1.2.1.length=x.1.1.length∧(∀b∈x.1.2.1,0≤b∧b≤1000000000000)
@[go_sem] def kLoc:Ctr:=pur (fun args=>(spA args 0,aI args 1)) (fun x=>[.agg [.sl 2 (x.1.1.map encImage),.sl 1 (x.1.2.1.map encI),.sl 1 (x.1.2.2.map encI)],vi x.2]) kGt
 (fun _ x=>.tup [vi (kAm x.1.1 x.1.2.1 x.2),vi ((if kAm x.1.1 x.1.2.1 x.2<0 then -1 else x.2-x.1.2.1.getD (kAm x.1.1 x.1.2.1 x.2).toNat 0))]) (fun _ _=>[])
section
def cxLcS:=COk.nil Tryz.prog
theorem kYe {p:Prop}(h:p:=by first|omega|exact⟨k+1,⟨by omega,this⟩,by omega,by(first|(and_intros<;>rfl)|simp)⟩):p:=h
theorem k7a:Cq 153 kLoc:=by
 refine zp fun d x hx=>?_
 obtain⟨⟨I,B,E⟩,a⟩:=x;obtain⟨⟨hI,hIm⟩,hl,hB⟩:=hx;simp only at hI hIm hl hB⊢;refine zg cxLcS func153 rfl rfl ntmps153 ?_;intros;refine zy2 24 9 trivial ?_
 refine zM (fun k:Nat=>⟨[(1,vi a),(2,.ptr 2 0 0 0),(6,vi k)],[(2,.box 51 [.sl 2 (I.map encImage),.sl 1 (B.map encI),.sl 1 (E.map encI)])]⟩)
  (fun k=>k≤I.length∧∀i,i<I.length→i<k→kC3 I B a i=false) (fun k=>I.length-k) 0 zs ?_
 intro k ⟨hk,hf⟩;by_cases hlt:k<I.length
 ·have hli:(k:Int)<I.length:=zo;have hkb:k<B.length:=zo;have hlb:(k:Int)<B.length:=zo;have hr:=kAa encImage I k hlt;have hrb:=kAa encI B k hkb;have hbb:=hB _ (jCn hkb);have hcs:=(hIm _ (jCn hlt)).1;simp only at hcs
  have hne:kC3 I B a k=(decide (B[k]≤a)&&decide (a<B[k]+(I[k].code.size:Int))):=by
   unfold kC3;rw[kA9 hkb,kCd hlt]
  have hnx:kC3 I B a k=false→∀i,i<I.length→i<k+1→kC3 I B a i=false:=fun hh i hi hik=>by
   rcases jFx i k with h|h
   ·exact hf i hi h
   ·have:i=k:=zo;subst this;exact hh
  by_cases h1:B[k]≤a
  ·by_cases h2:a<B[k]+(I[k].code.size:Int)
   ·have hh:kC3 I B a k=true:=by rw[hne,decide_eq_true h1,decide_eq_true h2];rfl
    have hlo:kAm I B a=k:=by
     have:=kEe (p:=kC3 I B a) (L:=List.range I.length) (k:=k) (by simpa using hlt) (fun i hi hik=>by rw[vBf];exact hf i (by simpa using hi) hik) (by rw[vBf];exact hh)
     exact this
    have hlo2:(if kAm I B a<0 then -1 else a-B.getD (kAm I B a).toNat 0)=a-B[k]:=by
     rw[hlo,if_neg zo,jB2,kA9 hkb]
    rw[hlo2,hlo];exact zx2 24 9 (z8 hli hlb hr hrb encImage.eq_1 encI.eq_1 h1 h2)
   ·have hh:kC3 I B a k=false:=by rw[hne,decide_eq_false h2,jPt]
    have:=hnx hh
    (repeat' (first|apply zS|apply zB|((first|apply zW| refine zd 24 ?_|refine zd 9 ?_);simp only[go_sem,hli,hlb,hr,hrb,encImage,encI,h1,h2])|apply jAi|exact kYe|intro _))
  ·have hh:kC3 I B a k=false:=by rw[hne,decide_eq_false h1,jK2]
   have:=hnx hh
   (repeat' (first|apply zS|apply zB|((first|apply zW| refine zd 24 ?_|refine zd 9 ?_);simp only[go_sem,hli,hlb,hr,hrb,encImage,encI,h1])|apply jAi|exact kYe|intro _))
 ·have hge:¬(k:Int)<I.length:=zo
  have hlo:kAm I B a=-1:=firstIdx_none fun i hi=>by
   rw[vBf]
   exact hf i (by simpa using hi) (by
                     have:i<I.length:=by simpa using hi
                     omega)
  rw[hlo,if_pos zo];exact zx2 24 9 hge
end
def preEnt (x:(List Image×List Int×List Int)×Int):Prop:=kUa x.1.1∧x.1.2.1.length=x.1.1.length∧(∀b∈x.1.2.1,0≤b∧b≤1000000000000)∧∀i∈x.1.1,∀y∈i.symbols,0≤y.start∧y.start≤1000000000000
@[go_sem] def kEntr:Ctr:=pur (fun args=>(spA args 0,aI args 1)) (fun x=>[.agg [.sl 2 (x.1.1.map encImage),.sl 1 (x.1.2.1.map encI),.sl 1 (x.1.2.2.map encI)],vi x.2]) preEnt (fun _ x=>.v (.bool (kDz x.1.1 x.1.2.1 x.2))) (fun _ _=>[])
theorem qQr {I:List Image}{B:List Int}{e:Int}{k j:Nat}(hk:k<I.length) (hkb:k<B.length) (hj:j<I[k].symbols.length) (h:B[k]+I[k].symbols[j].start=e):kDz I B e=true:=by
 unfold kDz;rw[vMn];refine⟨k,jKi.2 hk,?_⟩;unfold kSc;rw[kA9 hkb,kCd hk,vMn];exact⟨_,jCn hj,by rw[decide_eq_true_eq];exact h⟩
theorem qQs {I:List Image}{B:List Int}{e:Int}(hl:B.length=I.length) (h:∀k (hk:k<I.length) (hb:k<B.length),∀j (hj:j<I[k].symbols.length),B[k]+I[k].symbols[j].start≠e):kDz I B e=false:=by
 unfold kDz;rw[List.any_eq_false];intro k hk;have hk:=jKi.1 hk;unfold kSc;rw[kA9 zo,kCd hk,vJv,List.any_eq_false];intro y hy;obtain⟨j,hj,rfl⟩:=jWa.1 hy;rw[vJv];exact decide_eq_false (h k hk zo j hj)
section
def cxIeI:=COk.nil Tryz.prog
theorem cEntrI:Cq 179 kEntr:=by
 refine zp fun d x hx=>?_
 obtain⟨⟨I,B,E⟩,a⟩:=x;obtain⟨⟨hI,hIm⟩,hl,hB,hst⟩:=hx;simp only at hI hIm hl hB hst⊢;refine zg cxIeI func179 rfl rfl ntmps179 ?_;intros;refine zy1 10 trivial ?_
 refine zM (fun k:Nat=>⟨[(1,vi a),(2,.ptr 2 0 0 0),(10,.sl 2 (I.map encImage)),(11,vi I.length),(12,vi k)],[(2,.box 51 [.sl 2 (I.map encImage),.sl 1 (B.map encI),.sl 1 (E.map encI)])]⟩)
  (fun k=>k≤I.length∧∀i (hi:i<I.length) (hb:i<B.length),i<k→∀j (hj:j<I[i].symbols.length),B[i]+I[i].symbols[j].start≠a) (fun k=>I.length-k) 0 zs ?_
 intro k ⟨hk,hf⟩;by_cases hlt:k<I.length;rotate_left
 ·have hge:¬(k:Int)<I.length:=zo;rw[qQs hl fun i hi hb j hj=>hf i hi hb zo j hj]
  exact zx1 10 hge
 have hli:(k:Int)<I.length:=zo;have hkb:k<B.length:=zo;have hlb:(k:Int)<B.length:=zo;have hr:=kAa encImage I k hlt;have hrb:=kAa encI B k hkb;have hbb:=hB _ (jCn hkb);have hys:=(hIm _ (jCn hlt)).2.1;have hyst:=hst _ (jCn hlt);have hent:=fun j hj=>qQr (e:=a) hlt hkb (j:=j) hj
 simp only at hys;generalize hY:I[k].symbols=Y at *;generalize hc:I[k].code=c at *;refine zy1 10 (z5 hli hr encImage.eq_1 hY hc) ?_
 refine zM (fun j:Nat=>⟨[(1,vi a),(2,.ptr 2 0 0 0),(5,vi k),(10,.sl 2 (I.map encImage)),(11,vi I.length),(12,vi k),(18,.sl 3 (Y.map encSymbol)),(19,vi Y.length),(20,vi j)],[(2,.box 51 [.sl 2 (I.map encImage),.sl 1 (B.map encI),.sl 1 (E.map encI)])]⟩)
  (fun j=>j≤Y.length∧∀i (hi:i<Y.length),i<j→B[k]+Y[i].start≠a) (fun j=>Y.length-j) 0 zs ?_
 intro j ⟨hj,hg⟩;by_cases hjl:j<Y.length
 ·have hji:(j:Int)<Y.length:=zo;have hry:=kAa encSymbol Y j hjl;have hsb:=hyst _ (jCn hjl);by_cases he:B[k]+Y[j].start=a
  ·rw[hent j hjl he];exact zx1 10 (z7 hji hry encSymbol.eq_1 hlb hrb encI.eq_1 he)
  ·(repeat' (first|apply zS|apply zB|((first|apply zW| refine zd 10 ?_);simp only[go_sem,hji,hry,encSymbol,hlb,hrb,encI,he])|apply jAi|intro _))
   all_goals first|omega|exact⟨j+1,⟨zo,fun i hi hij=>by
    rcases jFx i j with h|h
    ·exact hg i hi h
    ·have:i=j:=zo;subst this;exact he⟩,zo,zh⟩|skip
 ·have hji:¬(j:Int)<Y.length:=zo
  (repeat' (first|apply zS|apply zB|((first|apply zW| refine zd 10 ?_);simp only[go_sem,hji])|apply jAi|intro _))
  all_goals first|omega|exact⟨k+1,⟨zo,fun i hi hb hik j2 hj2=>by
    rcases jFx i k with h|h
    ·exact hf i hi hb h j2 hj2
    ·have:i=k:=zo;subst this;simp only[hY]at hj2⊢;exact hg j2 hj2 zo⟩,zo,zh⟩|skip
end
end
section
open Go.Vc Tryz
attribute [local irreducible] Go.Vc.WP
open Go.Pl
section
def cxLcI:=kc c60 kn
theorem k59 {p:Prop}(h:p:=by first|omega|exact⟨k+1,⟨by omega,this⟩,by omega,by(first|(and_intros<;>rfl)|simp)⟩):p:=h
theorem qGo:Cq 234 kLoc:=by
 refine zp fun d x hx=>?_
 obtain⟨⟨I,B,E⟩,a⟩:=x;obtain⟨⟨hI,hIm⟩,hl,hB⟩:=hx;simp only at hI hIm hl hB⊢;refine zg cxLcI func234 rfl rfl ntmps234 ?_;intros;refine zy2 17 9 trivial ?_
 refine zM (fun k:Nat=>⟨[(1,vi a),(2,.ptr 2 0 0 0),(9,.sl 2 (I.map encImage)),(10,vi I.length),(11,vi k)],[(2,.box 51 [.sl 2 (I.map encImage),.sl 1 (B.map encI),.sl 1 (E.map encI)])]⟩)
  (fun k=>k≤I.length∧∀i,i<I.length→i<k→kC3 I B a i=false) (fun k=>I.length-k) 0 zs ?_
 intro k ⟨hk,hf⟩;by_cases hlt:k<I.length
 ·have hli:(k:Int)<I.length:=zo;have hkb:k<B.length:=zo;have hlb:(k:Int)<B.length:=zo;have hr:=kAa encImage I k hlt;have hrb:=kAa encI B k hkb;have hbb:=hB _ (jCn hkb);have hcs:=(hIm _ (jCn hlt)).1;simp only at hcs
  have hne:kC3 I B a k=(decide (B[k]≤a)&&decide (a<B[k]+(I[k].code.size:Int))):=by
   unfold kC3;rw[kA9 hkb,kCd hlt]
  have hnx:kC3 I B a k=false→∀i,i<I.length→i<k+1→kC3 I B a i=false:=fun hh i hi hik=>by
   rcases jFx i k with h|h
   ·exact hf i hi h
   ·have:i=k:=zo;subst this;exact hh
  by_cases h1:B[k]≤a
  ·by_cases h2:a<B[k]+(I[k].code.size:Int)
   ·have h2':a≤B[k]+(I[k].code.size:Int)-1:=zo;have hh:kC3 I B a k=true:=by rw[hne,decide_eq_true h1,decide_eq_true h2];rfl
    have hlo:kAm I B a=k:=by
     have:=kEe (p:=kC3 I B a) (L:=List.range I.length) (k:=k) (by simpa using hlt) (fun i hi hik=>by rw[vBf];exact hf i (by simpa using hi) hik) (by rw[vBf];exact hh)
     exact this
    have hlo2:(if kAm I B a<0 then -1 else a-B.getD (kAm I B a).toNat 0)=a-B[k]:=by
     rw[hlo,if_neg zo,jB2,kA9 hkb]
    rw[hlo2,hlo];exact zx2 17 9 (z8 hli hlb hr hrb encImage.eq_1 encI.eq_1 h1 h2')
   ·have h2':¬a≤B[k]+(I[k].code.size:Int)-1:=zo;have hh:kC3 I B a k=false:=by rw[hne,decide_eq_false h2,jPt]
    have:=hnx hh
    (repeat' (first|apply zS|apply zB|((first|apply zW| refine zd 17 ?_|refine zd 9 ?_);simp only[go_sem,hli,hlb,hr,hrb,encImage,encI,h1,h2'])|apply jAi|exact k59|intro _))
  ·have hh:kC3 I B a k=false:=by rw[hne,decide_eq_false h1,jK2]
   have:=hnx hh
   (repeat' (first|apply zS|apply zB|((first|apply zW| refine zd 17 ?_|refine zd 9 ?_);simp only[go_sem,hli,hlb,hr,hrb,encImage,encI,h1])|apply jAi|exact k59|intro _))
 ·have hge:¬(k:Int)<I.length:=zo
  have hlo:kAm I B a=-1:=firstIdx_none fun i hi=>by
   rw[vBf]
   exact hf i (by simpa using hi) (by
                     have:i<I.length:=by simpa using hi
                     omega)
  rw[hlo,if_pos zo];exact zx2 17 9 hge
end
def kHy (x:List Image×List Int×List Int) (a:Int):Option (Op×Int):=if kAm x.1 x.2.1 a<0 then none else kDw (x.1.getD (kAm x.1 x.2.1 a).toNat kFo).code (a-x.2.1.getD (kAm x.1 x.2.1 a).toNat 0)
@[go_sem] def kFet:Ctr:=pur (fun args=>(spA args 0,aI args 1)) (fun x=>[.agg [.sl 2 (x.1.1.map encImage),.sl 1 (x.1.2.1.map encI),.sl 1 (x.1.2.2.map encI)],vi x.2]) kGt
 (fun _ x=>.tup [.agg [vi ((((kHy x.1 x.2).map (·.1)).getD zOp).code),vi ((((kHy x.1 x.2).map (·.1)).getD zOp).arg)],vi ((((kHy x.1 x.2).map (·.2)).getD 0)),.v (.bool (kHy x.1 x.2).isSome)]) (fun _ _=>[])
theorem k4v (I:List Image) (B:List Int) (a:Int):kAm I B a<I.length:=by
 unfold kAm firstIdx;split
 ·rename_i i h;have:=(vWw.1 h).1;rw[yGv]at this;omega
 ·omega
section
attribute [local irreducible] kGt
def cxFeS:=kc k7a (kc qCz kn)
theorem cFetS:Cq 274 kFet:=by
 refine zp fun d x hx=>?_
 obtain⟨⟨I,B,E⟩,a⟩:=x;have hpre:kGt ((I,B,E),a):=hx;unfold kGt at hx;obtain⟨⟨hI,hIm⟩,hl,hB⟩:=hx;simp only at hI hIm hl hB⊢;have hlt:=k4v I B a;refine zg cxFeS func274 rfl rfl ntmps274 ?_;intros;by_cases h:kAm I B a<0
 ·have e:kHy (I,B,E) a=none:=if_pos h;rw[e];exact zx h
 ·obtain⟨k,hk⟩:=zN (kAm I B a);have hki:k<I.length:=zo;have hr:=kAa encImage I k hki;have hcs:=(hIm _ (jCn hki)).1;simp only at hcs
  have e:kHy (I,B,E) a=kDw I[k].code (a-B.getD k 0):=by
   unfold kHy;rw[if_neg h,hk,jB2,kCd hki]
  have hz:¬(k:Int)<0:=zo;rw[e]
  (repeat' (first|apply zS|apply zB|(apply zW;simp only[go_sem,h,hk,hz,hr,encImage,jB2])|apply jAi|omega|exact hpre|rfl|exact⟨_,_,rfl,_,_,rfl,rfl⟩|intro _))
end
end
section
open Go.Vc Tryz
attribute [local irreducible] Go.Vc.WP
def sgl (n:Int):Int:=if -549755813888≤n∧n≤549755813887 then(if n<0 then -2*n-1 else 2*n)else -1
@[go_sem] def kSgl:Ctr:=pur (fun args=>aI args 0) (fun n=>[vi n]) (fun _=>True) (fun _ n=>vi (sgl n)) (fun _ _=>[])
def encZ (z:Int):List SV:=[.v (.int .u8 z)]
def vb (n:Int):Int:=wr .u8 (kSe .i64 (kEs .i64 n 127) 128)
def kBh (n:Int):List Int:=if h:127<n then vb n::kBh (n / 128)else[wr .u8 n]
termination_by n.toNat
decreasing_by omega
def varint (n:Int):ByteArray:=if 0≤n∧n≤1099511627775 then strOf ((kBh n).map encZ)else⟨#[]⟩
@[go_sem] def kVar:Ctr:=pur (fun args=>aI args 0) (fun n=>[vi n]) (fun _=>True) (fun _ n=>.v (.string (varint n))) (fun _ _=>[])
theorem shr7 (n:Int):shR .i64 n 7=n / 128:=by
 show n.fdiv (2 ^ min 7 64)=n / 128
 exact Int.fdiv_eq_ediv_of_nonneg n (by decide)
theorem k0u {n:Int}(h:127<n):kBh n=vb n::kBh (n / 128):=by rw[kBh,dif_pos h]
theorem kVo {n:Int}(h:¬127<n):kBh n=[wr .u8 n]:=by rw[kBh,dif_neg h]
theorem kZz {L:List Int}{z:Int}:∀row∈L.map encZ++[[.v (.int .u8 z)]],isByte row:=by
 intro row hr;rcases jTf.1 hr with hr|hr
 ·obtain⟨n,_,rfl⟩:=jCr.1 hr;exact⟨_,rfl⟩
 ·rw[List.mem_singleton.1 hr];exact⟨_,rfl⟩
section
def cxSgS:=kc c58 kn
theorem cSglS:Cq 163 kSgl:=by
 refine zp fun d x hx=>?_
 rename Int=>n
 refine zg cxSgS func163 rfl rfl ntmps163 ?_;intros;by_cases h:-549755813888≤n∧n≤549755813887
 ·by_cases h0:n<0
  ·have e:sgl n=-2*n-1:=by unfold sgl;rw[if_pos h,if_pos h0]
   have h0':¬0≤n:=zo;rw[e];exact zx (z2 h h0')
  ·have e:sgl n=2*n:=by unfold sgl;rw[if_pos h,if_neg h0]
   have h0':0≤n:=zo;rw[e];exact zx (z2 h h0')
 ·have e:sgl n=-1:=by unfold sgl;rw[if_neg h]
  rw[e];exact zx h
def cxSgI:=kc c60 kn
theorem cSglI:Cq 189 kSgl:=by
 refine zp fun d x hx=>?_
 rename Int=>n
 refine zg cxSgI func189 rfl rfl ntmps189 ?_;intros;by_cases h:-549755813888≤n∧n≤549755813887
 ·by_cases h0:n<0
  ·have e:sgl n=-2*n-1:=by unfold sgl;rw[if_pos h,if_pos h0]
   rw[e];exact zx (z2 h h0)
  ·have e:sgl n=2*n:=by unfold sgl;rw[if_pos h,if_neg h0]
   rw[e];exact zx (z2 h h0)
 ·have e:sgl n=-1:=by unfold sgl;rw[if_neg h]
  rw[e];exact zx h
def cxVaS:=kc c58 kn
theorem qGl:Cq 159 kVar:=by
 refine zp fun d x hx=>?_
 rename Int=>n
 refine zg cxVaS func159 rfl rfl ntmps159 ?_;intros;by_cases h:0≤n∧n≤1099511627775
 ·have e:varint n=strOf ((kBh n).map encZ):=if_pos h;rw[e];refine zy h ?_
  refine zL (fun s:Int×List Int=>⟨[(0,vi s.1),(3,.own 7)],[(7,.sl 5 1 (s.2.map encZ))]⟩)
   (fun s=>0≤s.1∧s.1≤1099511627775∧s.2++kBh s.1=kBh n∧(s.2.length:Int)+s.1≤1099511627775) (fun s=>s.1.toNat) (n,[]) ⟨h.1,h.2,rfl,by simp;omega⟩ ?_ ?_
  ·simp only[go_sem]
  rintro⟨m,L⟩ ⟨h0,h1,hv,hl⟩;simp only at h0 h1 hv hl⊢;have hs:=shr7 m;by_cases hlt:127<m
  ·have hm:=k0u hlt
   (repeat' (first|apply zS|apply zB|(apply zW;simp only[go_sem,hs,hlt])|apply jAi|exact zc0|intro _))
   refine⟨(m / 128,L++[vb m]),⟨by simp only;omega,by simp only;omega,by simp only;rw[←hv,hm];simp,by simp;omega⟩,by simp only;omega,rfl,?_⟩
   rw[jNq];rfl
  ·have hm:=kVo hlt;have hb:∀row∈L.map encZ++[[.v (.int .u8 (IntKind.u8.wrap m))]],isByte row:=kZz
   (repeat' (first|apply zS|apply zB|(apply zW;simp only[go_sem,hs,hlt])|apply jAi|omega|exact hb _ ‹_›|intro _))
   rw[←hv,hm,jNq];rfl
 ·have e:varint n=⟨#[]⟩:=if_neg h;rw[e];exact zx h
def cxVaI:=kc c60 kn
theorem qGm:Cq 185 kVar:=by
 refine zp fun d x hx=>?_
 rename Int=>n
 refine zg cxVaI func185 rfl rfl ntmps185 ?_;intros;by_cases h:0≤n∧n≤1099511627775
 ·have e:varint n=strOf ((kBh n).map encZ):=if_pos h;rw[e];refine zy h ?_
  refine zL (fun s:Int×List Int=>⟨[(0,vi s.1),(3,.own 7)],[(7,.sl 5 1 (s.2.map encZ))]⟩)
   (fun s=>0≤s.1∧s.1≤1099511627775∧s.2++kBh s.1=kBh n∧(s.2.length:Int)+s.1≤1099511627775) (fun s=>s.1.toNat) (n,[]) ⟨h.1,h.2,rfl,by simp;omega⟩ ?_ ?_
  ·simp only[go_sem]
  rintro⟨m,L⟩ ⟨h0,h1,hv,hl⟩;simp only at h0 h1 hv hl⊢;have hs:=shr7 m;by_cases hlt:127<m
  ·have hm:=k0u hlt;refine zy (z2 hs hlt) ?_;refine⟨(m / 128,L++[vb m]),⟨by simp only;omega,by simp only;omega,by simp only;rw[←hv,hm];simp,by simp;omega⟩,by simp only;omega,rfl,?_⟩
   rw[jNq];rfl
  ·have hm:=kVo hlt;have hb:∀row∈L.map encZ++[[.v (.int .u8 (IntKind.u8.wrap m))]],isByte row:=kZz
   (repeat' (first|apply zS|apply zB|(apply zW;simp only[go_sem,hs,hlt])|apply jAi|omega|exact hb _ ‹_›|intro _))
   rw[←hv,hm,jNq];rfl
 ·have e:varint n=⟨#[]⟩:=if_neg h;rw[e];exact zx h
end
end
section
open Go.Vc Tryz
attribute [local irreducible] Go.Vc.WP
theorem qGt (rows:List (List SV)):(strOf rows).size=rows.length:=by simp[strOf,ByteArray.size]
theorem kSq:∀(k:Nat) (n:Int),n<128 ^ (k+1)→(kBh n).length≤k+1
 | 0,n,h=>by rw[kVo zo];simp
 |k+1,n,h=>by
  by_cases hn:127<n
  ·rw[k0u hn];have:=kSq k (n / 128) (by rw[Int.pow_succ]at h;omega)
   simp only[jGk];omega
  ·rw[kVo hn];simp
theorem kF1 (n:Int):(varint n).size≤6:=by
 unfold varint;split
 ·rename_i h;rw[qGt,jH5]
  exact kSq 5 n (by
              have:(128:Int) ^ (5+1)=4398046511104:=by decide
              omega)
 ·simp[ByteArray.size]
def kIf (s:ByteArray) (L:List Int):ByteArray:=L.foldl (fun s x=>s++varint (sgl x)) s
theorem kVg (s:ByteArray) (L:List Int):(kIf s L).size≤s.size+6*L.length:=by
 induction L generalizing s with
 |nil=>simp[kIf]
 |cons a l ih =>
  have h1:=ih (s++varint (sgl a));have h2:=kF1 (sgl a);have h3:kIf s (a::l)=kIf (s++varint (sgl a)) l:=rfl;rw[h3];simp only[jGk,yAt]at *;omega
theorem k3b (s:ByteArray) (L:List Int) (k:Nat) (h:k<L.length):kIf s (L.take (k+1))=kIf s (L.take k)++varint (sgl L[k]):=by
 unfold kIf;rw[jQw h,List.foldl_append];rfl
def kKl (L:List Int):Bool:=L.all fun x=>decide (0≤sgl x)
def pack (L:List Int):ByteArray:=if kKl L=true then kIf (varint L.length) L else⟨#[]⟩
theorem kQr (L:List Int) (k:Nat) (h:k<L.length) (hk:kKl (L.take k)=true) (hn:0≤sgl L[k]):kKl (L.take (k+1))=true:=by
 unfold kKl at *;rw[jQw h,vYg,hk];simpa using hn
theorem k6d (L:List Int) (k:Nat) (h:k<L.length) (hn:sgl L[k]<0):pack L=⟨#[]⟩:=by
 unfold pack;rw[if_neg];intro ha;have:=jDl.1 ha L[k] (jCn h);simp only[decide_eq_true_eq]at this;omega
@[go_sem] def kPack:Ctr:=pur (fun args=>kBs (aR args 0)) (fun L=>[.sl 1 (L.map encI)]) (fun L=>L.length≤2097152) (fun _ L=>.v (.string (pack L))) (fun _ _=>[])
section
def cxPkS:=kc qGl (kc cSglS kn)
theorem cPackS:Cq 161 kPack:=by
 refine zp fun d x hx=>?_
 rename List Int=>L
 refine zg cxPkS func161 rfl rfl ntmps161 ?_;intros;refine zy trivial ?_
 refine zL (fun k:Nat=>⟨[(0,.sl 1 (L.map encI)),(3,.v (.string (kIf (varint L.length) (L.take k)))),(4,vi k)],[]⟩)
  (fun k=>k≤L.length∧kKl (L.take k)=true) (fun k=>L.length-k) 0 ⟨zo,rfl⟩ ?_ ?_
 ·simp only[go_sem];exact⟨rfl,rfl⟩
 intro k ⟨hk,hok⟩;have hz:=kVg (varint L.length) (L.take k);have hz0:=kF1 L.length;have hz1:(L.take k).length≤k:=by simp;omega
 by_cases hlt:k<L.length
 ·have h1:=kAa encI L k hlt;have hz2:=kF1 (sgl L[k]);by_cases hneg:sgl L[k]<0
  ·rw[k6d L k hlt hneg];exact zx (z3 h1 encI.eq_1 hneg)
  ·refine zy (z3 h1 encI.eq_1 hneg) ?_;refine⟨k+1,⟨zo,kQr L k hlt hok zo⟩,zo,?_⟩;rw[k3b _ L k hlt]
   (first|(and_intros<;>rfl)|simp)
 ·rw[show k=L.length by omega,jJ3]at hok
  have e:pack L=kIf (varint L.length) L:=if_pos hok;rw[e];rw[show k=L.length by omega,jJ3]
  exact zx trivial
end
end
section
open Go.Vc Tryz
attribute [local irreducible] Go.Vc.WP
structure Vw where
 pc:Int
 sp:Int
 fp:Int
 words:List Int
@[go_sem] def vwA (args:List SV) (i:Nat):Vw:=match(args[i]?:Option SV)with
 |some (.agg [.v (.int _ a),.v (.int _ b),.v (.int _ c),.sl _ w])=>⟨a,b,c,kBs w⟩
 | _=>⟨0,0,0,[]⟩
@[go_sem] def smA (args:List SV) (i:Nat):Int×Vw:=match(args[i]?:Option SV)with
 |some (.agg [.v (.int _ t),.v (.int _ a),.v (.int _ b),.v (.int _ c),.sl _ w])=>(t,⟨a,b,c,kBs w⟩)
 | _=>(0,⟨0,0,0,[]⟩)
@[go_sem] theorem vw_eta (x:Vw):(⟨x.pc,x.sp,x.fp,x.words⟩:Vw)=x:=rfl
def kE1 (x:Vw):Bool:=decide ((0≤x.sp∧x.sp≤1200)∧(x.words.length:Int)≤1200-x.sp)
@[go_sem] def kVwOk:Ctr:=pur (fun args=>vwA args 0) (fun x=>[.agg [vi x.pc,vi x.sp,vi x.fp,.sl 1 (x.words.map encI)]]) (fun x=>x.words.length≤4194304) (fun _ x=>.v (.bool (kE1 x))) (fun _ _=>[])
def kHi (x:Int×Vw):Bool:=decide (0≤x.1∧x.1≤2)&&kE1 x.2&&decide (0≤x.2.pc∧x.2.pc≤2000000)&&decide (0≤sgl x.2.fp)&&kKl x.2.words
@[go_sem] def kSmOk:Ctr:=pur (fun args=>smA args 0) (fun x=>[.agg [vi x.1,vi x.2.pc,vi x.2.sp,vi x.2.fp,.sl 1 (x.2.words.map encI)]]) (fun x=>x.2.words.length≤4194304) (fun _ x=>.v (.bool (kHi x))) (fun _ _=>[])
section
def cxVoS:=kc c58 kn
theorem qA0:Cq 162 kVwOk:=by
 refine zp fun d x hx=>?_
 obtain⟨a,b,c,w⟩:=x;simp only at hx⊢;refine zg cxVoS func162 rfl rfl ntmps162 ?_;intros;by_cases h:0≤b∧b≤1200
 ·have e:kE1 ⟨a,b,c,w⟩=decide ((w.length:Int)≤1200-b):=by simp[kE1,h]
  rw[e];exact zx h
 ·have e:kE1 ⟨a,b,c,w⟩=false:=by unfold kE1;rw[decide_eq_false];intro hh;exact h hh.1
  rw[e];have e0:(decide (0≤b)&&decide (b≤1200))=false:=by rw[wDu];simp;omega
  (repeat' (first|apply zS|apply zB|(apply zW;simp only[go_sem,h])|apply jAi|omega|rfl|(rw[e0];rfl)|intro _))
def cxVoI:=kc c60 kn
theorem qA1:Cq 188 kVwOk:=by
 refine zp fun d x hx=>?_
 obtain⟨a,b,c,w⟩:=x;simp only at hx⊢;refine zg cxVoI func188 rfl rfl ntmps188 ?_;intros;by_cases h:0≤b∧b≤1200
 ·have e:kE1 ⟨a,b,c,w⟩=decide ((w.length:Int)≤1200-b):=by simp[kE1,h]
  rw[e];exact zx h
 ·have e:kE1 ⟨a,b,c,w⟩=false:=by unfold kE1;rw[decide_eq_false];intro hh;exact h hh.1
  rw[e];have e0:(decide (0≤b)&&decide (b≤1200))=false:=by rw[wDu];simp;omega
  (repeat' (first|apply zS|apply zB|(apply zW;simp only[go_sem,h])|apply jAi|omega|rfl|(rw[e0];rfl)|intro _))
theorem qA3 {L:List Int}{k:Nat}(h:k<L.length) (hn:sgl L[k]<0):kKl L=false:=by
 unfold kKl;rw[vMt];exact⟨L[k],jCn h,by simpa using hn⟩
theorem kMz {t:Int}{x:Vw}(h:¬((0≤t∧t≤2)∧kE1 x=true∧(0≤x.pc∧x.pc≤2000000)∧0≤sgl x.fp)):kHi (t,x)=false:=by
 rw[wDu];intro hh;apply h;simp only[kHi,jBs,decide_eq_true_eq]at hh;exact⟨hh.1.1.1.1,hh.1.1.1.2,hh.1.1.2,hh.1.2⟩
theorem qA4 {t:Int}{x:Vw}(h1:0≤t∧t≤2) (h2:kE1 x=true) (h3:0≤x.pc∧x.pc≤2000000) (h4:0≤sgl x.fp):kHi (t,x)=kKl x.words:=by
 simp[kHi,h1,h2,h3,h4]
def cxSmS:=kc c58 (kc qA0 (kc cSglS kn))
theorem k9n:Cq 89 kSmOk:=by
 refine zp fun d x hx=>?_
 obtain⟨t,a,b,c,w⟩:=x;simp only at hx⊢;refine zg cxSmS func89 rfl rfl ntmps89 ?_;intros;by_cases h1:0≤t∧t≤2
 ·cases h2:kE1 ⟨a,b,c,w⟩with
  |false =>
   rw[kMz (by simp[h2])]
   exact zx (z2 h1 h2)
  |true =>
   by_cases h3:0≤a∧a≤2000000
   ·by_cases h4:sgl c<0
    ·rw[kMz (by simp;omega)]
     exact zx (z4 h1 h2 h3 h4)
    ·rw[qA4 h1 h2 h3 (by simp only;omega)]
     refine zv (z4 h1 h2 h3 h4) ?_
     refine zL (fun k:Nat=>⟨[(1,.ptr 1 0 0 0),(3,vi k)],[(1,.box 98 [vi t,vi a,vi b,vi c,.sl 1 (w.map encI)])]⟩)
      (fun k=>k≤w.length∧kKl (w.take k)=true) (fun k=>w.length-k) 0 ⟨zo,rfl⟩ ?_ ?_
     ·simp only[go_sem];rfl
     intro k ⟨hk,hok⟩;by_cases hlt:k<w.length
     ·have hr:=kAa encI w k hlt;by_cases hneg:sgl w[k]<0
      ·rw[qA3 hlt hneg];exact zx (z3 hr encI.eq_1 hneg)
      ·refine zv (z3 hr encI.eq_1 hneg) ?_;exact⟨k+1,⟨zo,kQr w k hlt hok zo⟩,zo,zh⟩
     ·rw[show k=w.length by omega,jJ3]at hok
      rw[hok];have hge:¬(k:Int)<w.length:=zo;exact zx hge
   ·rw[kMz (fun hh=>h3 hh.2.2.1)]
    exact zx (z3 h1 h2 h3)
 ·rw[kMz (fun hh=>h1 hh.1)]
  exact zx h1
def cxSmI:=kc c60 (kc qA1 (kc cSglI kn))
theorem k9a:Cq 114 kSmOk:=by
 refine zp fun d x hx=>?_
 obtain⟨t,a,b,c,w⟩:=x;simp only at hx⊢;refine zg cxSmI func114 rfl rfl ntmps114 ?_;intros;by_cases h1:0≤t∧t≤2
 ·cases h2:kE1 ⟨a,b,c,w⟩with
  |false =>
   rw[kMz (by simp[h2])]
   exact zx (z2 h1 h2)
  |true =>
   by_cases h3:0≤a∧a≤2000000
   ·by_cases h4:sgl c<0
    ·rw[kMz (by simp;omega)]
     exact zx (z4 h1 h2 h3 h4)
    ·rw[qA4 h1 h2 h3 (by simp only;omega)]
     refine zv (z4 h1 h2 h3 h4) ?_
     refine zL (fun k:Nat=>⟨[(31,.sl 1 (w.map encI)),(32,vi w.length),(33,vi k)],[]⟩)
      (fun k=>k≤w.length∧kKl (w.take k)=true) (fun k=>w.length-k) 0 ⟨zo,rfl⟩ ?_ ?_
     ·simp only[go_sem];rfl
     intro k ⟨hk,hok⟩;by_cases hlt:k<w.length
     ·have hr:=kAa encI w k hlt;by_cases hneg:sgl w[k]<0
      ·rw[qA3 hlt hneg];exact zx (z3 hr encI.eq_1 hneg)
      ·refine zv (z3 hr encI.eq_1 hneg) ?_;exact⟨k+1,⟨zo,kQr w k hlt hok zo⟩,zo,zh⟩
     ·rw[show k=w.length by omega,jJ3]at hok
      rw[hok];have hge:¬(k:Int)<w.length:=zo;exact zx hge
   ·rw[kMz (fun hh=>h3 hh.2.2.1)]
    exact zx (z3 h1 h2 h3)
 ·rw[kMz (fun hh=>h1 hh.1)]
  exact zx h1
end
end
section
open Go.Vc Tryz
attribute [local irreducible] Go.Vc.WP
structure Frame where
 name:ByteArray
 line:Int
deriving DecidableEq
def kAe (x:Frame):List SV:=[.v (.string x.name),vi x.line]
def kIu:List SV→Frame
 | [.v (.string name),.v (.int _ line)]=>⟨name,line⟩
 | _=>⟨⟨#[]⟩,0⟩
def kOw (rows:List (List SV)):List Frame:=rows.map kIu
@[go_sem] theorem k79 (x:Frame):kIu (kAe x)=x:=rfl
@[go_sem] theorem k8a (L:List Frame):kOw (L.map kAe)=L:=by
 unfold kOw;rw[jRw];exact vFu k79 L
@[go_sem] def qLb:Ctr:=pur (fun args=>kIu (aC args 0)) (fun x=>[.agg (kAe x)]) (fun _=>True) (fun _ x=>.agg (kAe x)) (fun _ _=>[])
theorem qLc:Cq 257 qLb:=by
 refine zp fun d x _=>?_
 refine zg cx0 func257 rfl rfl ntmps257 ?_;intros;unfold kAe;exact zx trivial
@[go_sem] def qLd:Ctr:=pur (fun args=>(kIu (aC args 0),kIu (aC args 1))) (fun x=>[.agg (kAe x.1),.agg (kAe x.2)]) (fun _=>True) (fun _ x=>.v (.bool (decide (x.1=x.2)))) (fun _ _=>[])
theorem qLe:Cq 264 qLd:=by
 refine zp fun d x _=>?_
 obtain⟨⟨a0,a1⟩,⟨b0,b1⟩⟩:=x;refine zg cx0 func264 rfl rfl ntmps264 ?_;intros;simp only[kAe]
 (repeat' (first|apply zS|apply zB|(apply zW;simp only[go_sem])|apply jAi|intro _))
 all_goals simp_all
@[go_sem] def qLf:Ctr:=pur (fun args=>(kIu (aC args 0),aI args 1)) (fun x=>[.agg (kAe x.1),vi x.2]) (fun x=>x.1.name.size≤maxLen∧0≤x.2∧x.2≤1048576)
 (fun _ x=>vi (if x.2-x.1.name.size<0 then -1 else x.2-x.1.name.size)) (fun _ _=>[])
theorem qLg:Cq 252 qLf:=by
 refine zp fun d x h=>?_
 obtain⟨x,left⟩:=x;obtain⟨hL,h0,h1⟩:=h;simp only at hL h0 h1⊢;have hm:maxLen=9223372036854775807:=rfl;refine zg cx0 func252 rfl rfl ntmps252 ?_;intros;simp only[kAe]
 (repeat' (first|apply zS|apply zB|(apply zW;simp only[go_sem])|apply jAi|exact zc0|intro _))
 ·rename_i h;rw[if_pos h]
 ·rename_i h;rw[if_neg zo]
section
open Go.RowKit Go.WideShapes Go.ChangeShapes Go.Deep
end
end
section
open Go.Vc
structure Debug where
 id:Int
 syms:List Symbol
 rules:List Rule
 rows:List Row
 kIv:List Inline
deriving DecidableEq
def encDebug (x:Debug):List SV:=[vi x.id,.sl 3 (x.syms.map encSymbol),.sl 4 (x.rules.map encRule),.sl 3 (x.rows.map encRow),.sl 5 (x.kIv.map encInline)]
def kB7:List SV→Debug
 | [.v (.int _ a),.sl _ s,.sl _ r,.sl _ w,.sl _ i]=>⟨a,kEt s,kH8 r,kKv w,kF5 i⟩
 | _=>⟨0,[],[],[],[]⟩
def kKz (rows:List (List SV)):List Debug:=rows.map kB7
theorem k8m (x:Debug):kB7 (encDebug x)=x:=by
 unfold kB7 encDebug;simp only[kVy,kZh,qEx,k6u]
@[go_sem] theorem qQ3 (L:List Debug):kKz (L.map encDebug)=L:=by
 unfold kKz;rw[jRw];exact vFu k8m L
abbrev zDbg:Debug:=⟨0,[],[],[],[]⟩
abbrev AgX:=(List Image×List Int×List Int)×List Debug
def kIw (s:ByteArray):Nat→Int
 | 0=>7
 |k+1=>(kIw s k*257+((s[k]!).toNat:Int)+1).tmod 1000000007
def kLf (s:ByteArray):Int:=kIw s s.size
def kJf (i:Image) (d:Debug):Bool:=decide (d.id=kLf i.code)&&decide (i.symbols=d.syms)
def kBb (a:AgX):Bool:=kAo a.1.1 a.1.2.1 a.1.2.2&&decide (a.2.length=2)&&kJf (a.1.1.getD 0 kFo) (a.2.getD 0 zDbg)&&kJf (a.1.1.getD 1 kFo) (a.2.getD 1 zDbg)
theorem k4h (s:ByteArray):∀k,0≤kIw s k∧kIw s k≤1000000006
 | 0=>by unfold kIw;omega
 |k+1=>by
  obtain⟨h1,h2⟩:=k4h s k;unfold kIw;have h3:0≤kIw s k*257+((s[k]!).toNat:Int)+1:=zo;have h4:=vTb (a:=kIw s k*257+((s[k]!).toNat:Int)+1) 1000000007 h3;have h5:=vP8 (kIw s k*257+((s[k]!).toNat:Int)+1) (b:=1000000007) zo;omega
def kNa (name:ByteArray):List Inline→List Frame
 | []=>[]
 |x::r=>⟨name,x.line⟩::kNa x.name r
def kK0 (name:ByteArray):List Inline→ByteArray
 | []=>name
 |x::r=>kK0 x.name r
def kEp (d:Debug) (o:Int) (start:Bool):Option (List Frame) :=
 if firstIdx (kAk o) d.syms<0∨kBl d.rows o<0∨(start=true∧kKa d.rows o=false)then none else
  some (kNa (d.syms.getD (firstIdx (kAk o) d.syms).toNat ⟨⟨#[]⟩,0,0⟩).name (kF6 d.kIv o)++[⟨kK0 (d.syms.getD (firstIdx (kAk o) d.syms).toNat ⟨⟨#[]⟩,0,0⟩).name (kF6 d.kIv o),(d.rows.getD (kBl d.rows o).toNat kEb).line⟩])
theorem kU1 (name:ByteArray):∀L:List Inline,(kNa name L).length=L.length
 | []=>rfl
 |x::r=>by unfold kNa;rw[jGk,kU1 x.name r,jGk]
def kCo (v:Vw) (a:Int):Option Int:=if kE1 v=true∧v.sp≤a∧a≤v.sp+v.words.length-1 then some (v.words.getD (a-v.sp).toNat 0)else none
def kG7 (S:List Image×List Int×List Int) (R:List (List Rule)) (v:Vw) (inner:Bool):Option Vw :=
 if kAo S.1 S.2.1 S.2.2=true∧kE1 v=true∧R.length=2 then
  if kAm S.1 S.2.1 (if inner=true then v.pc else v.pc-1)<0 then none else
   if kD4 (R.getD (kAm S.1 S.2.1 (if inner=true then v.pc else v.pc-1)).toNat []) ((if inner=true then v.pc else v.pc-1)-S.2.1.getD (kAm S.1 S.2.1 (if inner=true then v.pc else v.pc-1)).toNat 0)<0 then none else
    let r:=(R.getD (kAm S.1 S.2.1 (if inner=true then v.pc else v.pc-1)).toNat []).getD (kD4 (R.getD (kAm S.1 S.2.1 (if inner=true then v.pc else v.pc-1)).toNat []) ((if inner=true then v.pc else v.pc-1)-S.2.1.getD (kAm S.1 S.2.1 (if inner=true then v.pc else v.pc-1)).toNat 0)).toNat kGj
    if r.frame=true then
     match kCo v v.fp,kCo v (v.fp+1)with
     |some f,some pc=>some ⟨pc,v.fp+2,f,v.words.drop (v.fp+2-v.sp).toNat⟩
     | _,_=>none
    else
     match kCo v (v.sp+r.depth)with
     |some pc=>some ⟨pc,v.sp+r.depth+1,v.fp,v.words.drop (r.depth+1).toNat⟩
     |none=>none
 else none
def kNb (S:List Image×List Int×List Int) (R:List (List Rule)):Nat→Bool→Vw→List Int×Bool
 | 0,_,_=>([],false)
 |n+1,inner,v=>match kG7 S R v inner with
  |none=>([],false)
  |some x=>if x.pc=0 then([],true)else(x.pc::(kNb S R n false x).1,(kNb S R n false x).2)
def unwind (S:List Image×List Int×List Int) (R:List (List Rule)) (v:Vw):List Int×Bool:=(v.pc::(kNb S R 39 true v).1,(kNb S R 39 true v).2)
def kBz (a:AgX) (adr:Int) (start:Bool):Option (List Frame):=if kAm a.1.1 a.1.2.1 adr<0 then none else kEp (a.2.getD (kAm a.1.1 a.1.2.1 adr).toNat zDbg) (adr-a.1.2.1.getD (kAm a.1.1 a.1.2.1 adr).toNat 0) start
def kG8 (a:AgX) (starts:Bool):Nat→List Int→Option (List Frame)
 | _,[]=>some []
 |i,x::r=>match kG8 a starts (i+1) r,kBz a (if i=0 then x else x-1) (starts&&decide (i=0))with
  |some A,some B=>some (A++B)
  | _,_=>none
def kCf (a:AgX) (x:Int×Vw) (starts:Bool):Option (List Frame) :=
 if kBb a=true∧kHi x=true∧(unwind a.1 (a.2.map (·.rules)) x.2).2=true then kG8 a starts 0 (unwind a.1 (a.2.map (·.rules)) x.2).1 else none
end
end Go.Proofs.YtjdklcjoeanimaaGreat
