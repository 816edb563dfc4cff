/-
  DERIVED. Several texts of ours in one: VtFrA.
-/
import Derived.Test.YtjdklcjoeanimaaGreatVd11
import Derived.Test.YtjdklcjoeanimaaGreatVd12
set_option linter.unusedSimpArgs false
set_option linter.unusedVariables false
set_option maxHeartbeats 1000000
set_option maxRecDepth 10000
namespace Go.Proofs.YtjdklcjoeanimaaGreat
open Go.Vc
attribute [local irreducible] Go.Vc.WP
attribute [local go_sem] kAd kAe
open Go.Pl
attribute [local go_sem] kAf kAg spA kAj imgA kFh kBl kH5 kCe kA4 kFg kBu kDd
section
noncomputable def k9z:=mkX [(68,k60)] (COk.cons c60 (COk.nil _))
theorem qM9:k9z.tys=tys:=rfl
theorem qNa:k9z.C=[(68,k60)]:=rfl
attribute [local go_sem] qM9 qNa k60
theorem qNb:Cn Tryz.prog 260 kJu:=by
 refine Cn.pur Tryz.func260 (by kernel_rfl) rfl fun d x hx=>?_
 obtain⟨⟨c,Y⟩,o⟩:=x;simp only at hx⊢;refine Holds.go (c:=k9z) Tryz.func260 rfl Tryz.results260 Tryz.ntmps260 (by omega) (by simp) rfl ?_
 intro X0 w0
 (repeat' (first|apply zS|apply zB|(apply zW;simp only[go_sem])|apply And.intro|intro _))
 all_goals first|omega|skip
 refine zL (fun k:Nat=>⟨[(1,.v (.int .i64 o)),(8,.sl 3 (Y.map encSymbol)),(9,.v (.int .i64 Y.length)),(10,.v (.int .i64 k))],[]⟩)
  (fun k=>k≤Y.length∧∀i (hi:i<Y.length),i<k→kAh o Y[i]=false) (fun k=>Y.length-k) 0 (by simp) ?_ ?_
 ·(simp only[go_sem]<;>(first|(and_intros<;>rfl)|simp))
 intro k ⟨hk,hf⟩;by_cases hlt:k<Y.length;rotate_left
 ·have hge:¬(k:Int)<Y.length:=by omega
  rw[firstIdx_none fun i hi=>hf i hi (by omega)]
  (repeat' (first|apply zS|apply zB|(apply zW;simp only[go_sem,hge])|apply And.intro|intro _))
  all_goals first|omega|rfl|skip
 have hli:(k:Int)<Y.length:=by omega
 have hr:=kAa encSymbol Y k hlt
 have hnx:kAh o Y[k]=false→∀i (hi:i<Y.length),i<k+1→kAh o Y[i]=false:=fun hh i hi hik=>by
  rcases Nat.lt_or_ge i k with h|h
  ·exact hf i hi h
  ·have:i=k:=by omega
   subst this;exact hh
 have hit:kAh o Y[k]=true→firstIdx (kAh o) Y=k:=fun hh=>kEi hlt hf hh
 generalize Y[k]=y at hr hnx hit;obtain⟨ys,ya,yz⟩:=y;by_cases h1:0≤ya∧ya≤1000000;rotate_left
 ·have hh:kAh o ⟨ys,ya,yz⟩=false:=by simp[kAh];omega
  have:=hnx hh;have e0:=in_f h1
  (repeat' (first|apply zS|apply zB|(apply zW;simp only[go_sem,hli,hr,encSymbol,e0])|apply And.intro|intro _))
  all_goals first|omega|exact⟨k+1,⟨by omega,this⟩,by omega,by(first|(and_intros<;>rfl)|simp)⟩|skip
 have e1:=in_t h1;by_cases h2:0≤yz∧yz≤1000000;rotate_left
 ·have hh:kAh o ⟨ys,ya,yz⟩=false:=by simp[kAh];omega
  have:=hnx hh;have e0:=in_f h2
  (repeat' (first|apply zS|apply zB|(apply zW;simp only[go_sem,hli,hr,encSymbol,e1,e0])|apply And.intro|intro _))
  all_goals first|omega|exact⟨k+1,⟨by omega,this⟩,by omega,by(first|(and_intros<;>rfl)|simp)⟩|skip
 have e2:=in_t h2;by_cases h3:ya≤o;rotate_left
 ·have hh:kAh o ⟨ys,ya,yz⟩=false:=by simp[kAh];omega
  have:=hnx hh
  (repeat' (first|apply zS|apply zB|(apply zW;simp only[go_sem,hli,hr,encSymbol,e1,e2,h3])|apply And.intro|intro _))
  all_goals first|omega|exact⟨k+1,⟨by omega,this⟩,by omega,by(first|(and_intros<;>rfl)|simp)⟩|skip
 by_cases h4:o<ya+yz
 ·have hh:kAh o ⟨ys,ya,yz⟩=true:=by simp[kAh,h1,h2,h3,h4]
  rw[hit hh]
  (repeat' (first|apply zS|apply zB|(apply zW;simp only[go_sem,hli,hr,encSymbol,e1,e2,h3,h4])|apply And.intro|intro _))
  all_goals first|omega|rfl|skip
 ·have hh:kAh o ⟨ys,ya,yz⟩=false:=by simp[kAh];omega
  have:=hnx hh
  (repeat' (first|apply zS|apply zB|(apply zW;simp only[go_sem,hli,hr,encSymbol,e1,e2,h3,h4])|apply And.intro|intro _))
  all_goals first|omega|exact⟨k+1,⟨by omega,this⟩,by omega,by(first|(and_intros<;>rfl)|simp)⟩|skip
end
theorem kRw (x:Inline):∀(A:List Inline) (nm:ByteArray),frGo nm (A++[x])=frGo nm A++[⟨kHq nm A,x.line⟩]∧kHq nm (A++[x])=x.name
 | [],nm=>⟨rfl,rfl⟩
 |y::r,nm=>by
  have h:=kRw x r y.name;constructor
  ·show⟨nm,y.line⟩::frGo y.name (r++[x])=⟨nm,y.line⟩::(frGo y.name r++[⟨kHq y.name r,x.line⟩])
   rw[h.1]
  ·exact h.2
theorem kTx (L:List Inline):allV (L.map encInline):=by
 intro row hr c hc;obtain⟨n,_,rfl⟩:=List.mem_map.1 hr;simp only[encInline,List.mem_cons,List.not_mem_nil,or_false]at hc;rcases hc with rfl|rfl|rfl|rfl|rfl<;>exact⟨_,rfl⟩
def kKq:Ctr:=pur (fun args=>(kEg (aR args 0),aI args 1)) (fun x=>[.sl 5 (x.1.map encInline),.v (.int .i64 x.2)]) (fun x=>kWd x.1) (fun _ x=>.sl 5 ((kEh x.1 x.2).map encInline)) (fun _ _=>[])
theorem qFe:Cn Tryz.prog 226 kKq:=Cn.frozen (fun x=>kTx _) qH4
theorem qFf:Cn Tryz.prog 263 kKq:=Cn.frozen (fun x=>kTx _) qH5
def kOm (d:Debug):Prop:=d.syms.length≤4194304∧d.rules.length≤4194304∧d.rows.length≤4194304∧kWd d.inls
def kWe:Ctr:=pur (fun args=>(kBu (aC args 0),aI args 1,aB args 2)) (fun x=>[.agg (encDebug x.1),.v (.int .i64 x.2.1),.v (.bool x.2.2)]) (fun x=>kOm x.1)
 (fun d x=>.tup [.own d,.v (.bool (kDk x.1 x.2.1 x.2.2).isSome)]) (fun d x=>[(d,.sl 228 2 (((kDk x.1 x.2.1 x.2.2).getD []).map kAc))])
def kWf:Ctr:=pur (fun args=>(kBu (aC args 0),aI args 1,aB args 2)) (fun x=>[.agg (encDebug x.1),.v (.int .i64 x.2.1),.v (.bool x.2.2)]) (fun x=>kOm x.1)
 (fun _ x=>.tup [.sl 2 (((kDk x.1 x.2.1 x.2.2).getD []).map kAc),.v (.bool (kDk x.1 x.2.1 x.2.2).isSome)]) (fun _ _=>[])
theorem k2a {o:Int}{Z:List Symbol}(h:¬firstIdx (kAh o) Z<0):∃k:Nat,firstIdx (kAh o) Z=k∧k<Z.length:=by
 have:=kKl (kAh o) Z;exact⟨(firstIdx (kAh o) Z).toNat,by omega,by omega⟩
theorem k2b {L:List Symbol}{k:Nat}(h:k<L.length) (d:Symbol):L.getD k d=L[k]:=by rw[List.getD_eq_getElem?_getD,List.getElem?_eq_getElem h];rfl
theorem kG9 {id o:Int}{Z:List Symbol}{R:List Rule}{W:List Row}{I:List Inline}{st:Bool}(h:firstIdx (kAh o) Z<0∨kBa W o<0∨(st=true∧kG7 W o=false)):kDk ⟨id,Z,R,W,I⟩ o st=none:=if_pos h
theorem kRx {id o:Int}{Z:List Symbol}{R:List Rule}{W:List Row}{I:List Inline}{st:Bool}{ks kr:Nat}(hs:firstIdx (kAh o) Z=ks) (hr:kBa W o=kr) (h1:ks<Z.length) (h2:kr<W.length) (h:¬(st=true∧kG7 W o=false)) :
  kDk ⟨id,Z,R,W,I⟩ o st=some (frGo Z[ks].name (kEh I o)++[⟨kHq Z[ks].name (kEh I o),W[kr].line⟩]):=by
 unfold kDk;simp only
 rw[if_neg (by
         rintro(h3|h3|h3);· omega
         ·omega
         ·exact h h3),hs,hr,Int.toNat_natCast,Int.toNat_natCast,k2b h1,kHx h2]
section
noncomputable def k3g:CL:=[(154,kJu),(224,kE1),(225,kKr),(226,kKq)]
noncomputable def k90:=mkX k3g (COk.cons k67 (COk.cons kZp (COk.cons qFg (COk.cons qFe (COk.nil _)))))
theorem qNc:k90.tys=tys:=rfl
theorem qNd:k90.C=k3g:=rfl
attribute [local go_sem] qNc qNd k3g kJu kE1 kKr kKq
set_option maxHeartbeats 4000000 in
theorem cFrAtS:Cn Tryz.prog 165 kWe:=by
 refine Cn.pur Tryz.func165 (by kernel_rfl) rfl fun d x hx=>?_
 obtain⟨⟨id,Z,R,W,I⟩,o,st⟩:=x;obtain⟨h1,h2,h3,h4⟩:=hx;simp only at h1 h2 h3 h4⊢;simp only[encDebug];refine Holds.go (c:=k90) Tryz.func165 rfl Tryz.results165 Tryz.ntmps165 (by omega) (by simp) rfl ?_
 intro X0 w0;by_cases c1:firstIdx (kAh o) Z<0
 ·rw[kG9 (.inl c1)]
  (repeat' (first|apply zS|apply zB|(apply zW;simp only[go_sem,c1])|apply And.intro|intro _))
  all_goals first|omega|exact h4|exact h4.2 _ ‹_›|rfl|skip
 obtain⟨ks,hs,hks⟩:=k2a c1;by_cases c2:kBa W o<0
 ·rw[kG9 (.inr (.inl c2))]
  (repeat' (first|apply zS|apply zB|(apply zW;simp only[go_sem,c1,c2])|apply And.intro|intro _))
  all_goals first|omega|exact h4|exact h4.2 _ ‹_›|rfl|skip
 obtain⟨kr,hr,hkr⟩:∃k:Nat,kBa W o=k∧k<W.length:=⟨(kBa W o).toNat,by omega,by have:=kLt W o;omega⟩
 by_cases c3:st=true∧kG7 W o=false
 ·rw[kG9 (.inr (.inr c3))];obtain⟨rfl,c4⟩:=c3
  (repeat' (first|apply zS|apply zB|(apply zW;simp only[go_sem,c1,c2,c4])|apply And.intro|intro _))
  all_goals first|omega|exact h4|exact h4.2 _ ‹_›|rfl|skip
 rw[kRx hs hr hks hkr c3];have n1:¬(ks:Int)<0:=by omega
 have n2:¬(kr:Int)<0:=by omega
 have l1:(ks:Int)<Z.length:=by omega
 have l2:(kr:Int)<W.length:=by omega
 have g1:=kAa encSymbol Z ks hks;have g2:=kAa encRow W kr hkr;have hle:=kZq I o;have h5:=h4.1;generalize hI:kEh I o=L at *;generalize Z[ks]=z at *;generalize W[kr]=y at *
 have w3:st=false∨kG7 W o=true:=by
  cases st with
  |false=>exact .inl rfl
  |true=>exact .inr (by rw[←Bool.not_eq_false];exact fun h=>c3 ⟨rfl,h⟩)
 rcases w3 with w3|w3
 all_goals
  (repeat' (first|apply zS|apply zB|(apply zW;simp only[go_sem,hs,hr,n1,n2,l1,l2,g1,encSymbol,hI,w3])|apply And.intro|intro _))
  all_goals first|omega|exact h4|exact h4.2 _ ‹_›|skip
  refine zL (fun k:Nat=>⟨[(3,.ptr 3 0 0 0),(9,.v (.int .i64 kr)),(10,.v (.string (kHq z.name (L.take k)))),(11,.own 46),(12,.sl 5 (L.map encInline)),(13,.v (.int .i64 k))],[(3,.box 149 [.v (.int .i64 id),.sl 3 (Z.map encSymbol),.sl 4 (R.map encRule),.sl 3 (W.map encRow),.sl 5 (I.map encInline)]),(46,.sl 228 2 ((frGo z.name (L.take k)).map kAc))]⟩) (fun k=>k≤L.length) (fun k=>L.length-k) 0 (by omega) ?_ ?_
  ·have q0:kHq z.name (List.take 0 L)=z.name:=rfl;have q1:frGo z.name (List.take 0 L)=[]:=rfl;rw[q0,q1]
   (simp only[go_sem]<;>(first|(and_intros<;>rfl)|simp))
  intro k hk;have hln:=kPu z.name (L.take k);rw[List.length_take]at hln;by_cases hlt:k<L.length
  ·have hli:(k:Int)<L.length:=by omega
   have g3:=kAa encInline L k hlt;have e1:=kRw L[k] (L.take k) z.name;rw[←List.take_succ_eq_append_getElem hlt]at e1;obtain⟨e1,e2⟩:=e1
   (repeat' (first|apply zS|apply zB|(apply zW;simp only[go_sem,hli,g3,encInline])|apply And.intro|intro _))
   all_goals first|omega|skip
   all_goals first|exact⟨k+1,by omega,by omega,by rw[e1,e2,List.map_append];(first|(and_intros<;>rfl)|simp)⟩|trace_state
  ·have hge:¬(k:Int)<L.length:=by omega
   obtain rfl:k=L.length:=by omega
   rw[List.take_length]at hln⊢
   (repeat' (first|apply zS|apply zB|(apply zW;simp only[go_sem,hge,l2,g2,encRow])|apply And.intro|intro _))
   all_goals first|omega|rfl|(rw[List.map_append];rfl)|skip
end
section
noncomputable def k3h:CL:=[(260,kJu),(261,kE1),(262,kKr),(263,kKq)]
noncomputable def k91:=mkX k3h (COk.cons qNb (COk.cons kZr (COk.cons qFh (COk.cons qFf (COk.nil _)))))
theorem qNe:k91.tys=tys:=rfl
theorem qNf:k91.C=k3h:=rfl
attribute [local go_sem] qNe qNf k3h kJu kE1 kKr kKq
set_option maxHeartbeats 4000000 in
theorem cFrAtI:Cn Tryz.prog 238 kWe:=by
 refine Cn.pur Tryz.func238 (by kernel_rfl) rfl fun d x hx=>?_
 obtain⟨⟨id,Z,R,W,I⟩,o,st⟩:=x;obtain⟨h1,h2,h3,h4⟩:=hx;simp only at h1 h2 h3 h4⊢;simp only[encDebug];refine Holds.go (c:=k91) Tryz.func238 rfl Tryz.results238 Tryz.ntmps238 (by omega) (by simp) rfl ?_
 intro X0 w0;by_cases c1:firstIdx (kAh o) Z<0
 ·rw[kG9 (.inl c1)]
  (repeat' (first|apply zS|apply zB|(apply zW;simp only[go_sem,c1])|apply And.intro|intro _))
  all_goals first|omega|exact h4|exact h4.2 _ ‹_›|rfl|exact⟨_,_,rfl⟩|skip
 obtain⟨ks,hs,hks⟩:=k2a c1;by_cases c2:kBa W o<0
 ·rw[kG9 (.inr (.inl c2))]
  (repeat' (first|apply zS|apply zB|(apply zW;simp only[go_sem,c1,c2])|apply And.intro|intro _))
  all_goals first|omega|exact h4|exact h4.2 _ ‹_›|rfl|exact⟨_,_,rfl⟩|skip
 obtain⟨kr,hr,hkr⟩:∃k:Nat,kBa W o=k∧k<W.length:=⟨(kBa W o).toNat,by omega,by have:=kLt W o;omega⟩
 by_cases c3:st=true∧kG7 W o=false
 ·rw[kG9 (.inr (.inr c3))];obtain⟨rfl,c4⟩:=c3
  (repeat' (first|apply zS|apply zB|(apply zW;simp only[go_sem,c1,c2,c4])|apply And.intro|intro _))
  all_goals first|omega|exact h4|exact h4.2 _ ‹_›|rfl|exact⟨_,_,rfl⟩|skip
 rw[kRx hs hr hks hkr c3];have n1:¬(ks:Int)<0:=by omega
 have n2:¬(kr:Int)<0:=by omega
 have l1:(ks:Int)<Z.length:=by omega
 have l2:(kr:Int)<W.length:=by omega
 have g1:=kAa encSymbol Z ks hks;have g2:=kAa encRow W kr hkr;have hle:=kZq I o;have h5:=h4.1;generalize hI:kEh I o=L at *;generalize Z[ks]=z at *;generalize W[kr]=y at *
 have w3:st=false∨kG7 W o=true:=by
  cases st with
  |false=>exact .inl rfl
  |true=>exact .inr (by rw[←Bool.not_eq_false];exact fun h=>c3 ⟨rfl,h⟩)
 rcases w3 with w3|w3
 all_goals
  (repeat' (first|apply zS|apply zB|(apply zW;simp only[go_sem,hs,hr,n1,n2,l1,l2,g1,encSymbol,hI,w3])|apply And.intro|intro _))
  all_goals first|omega|exact h4|exact h4.2 _ ‹_›|skip
  refine zL (fun k:Nat=>⟨[(3,.ptr 3 0 0 0),(9,.v (.int .i64 kr)),(10,.own 39),(11,.v (.string (kHq z.name (L.take k)))),(49,.sl 5 (L.map encInline)),(50,.v (.int .i64 L.length)),(51,.v (.int .i64 k))],[(3,.box 149 [.v (.int .i64 id),.sl 3 (Z.map encSymbol),.sl 4 (R.map encRule),.sl 3 (W.map encRow),.sl 5 (I.map encInline)]),(39,.sl 228 2 ((frGo z.name (L.take k)).map kAc))]⟩) (fun k=>k≤L.length) (fun k=>L.length-k) 0 (by omega) ?_ ?_
  ·have q0:kHq z.name (List.take 0 L)=z.name:=rfl;have q1:frGo z.name (List.take 0 L)=[]:=rfl;rw[q0,q1]
   (simp only[go_sem]<;>(first|(and_intros<;>rfl)|simp))
  intro k hk;have hln:=kPu z.name (L.take k);rw[List.length_take]at hln;by_cases hlt:k<L.length
  ·have hli:(k:Int)<L.length:=by omega
   have g3:=kAa encInline L k hlt;have e1:=kRw L[k] (L.take k) z.name;rw[←List.take_succ_eq_append_getElem hlt]at e1;obtain⟨e1,e2⟩:=e1
   (repeat' (first|apply zS|apply zB|(apply zW;simp only[go_sem,hli,g3,encInline])|apply And.intro|intro _))
   all_goals first|omega|skip
   all_goals first|exact⟨k+1,by omega,by omega,by rw[e1,e2,List.map_append];(first|(and_intros<;>rfl)|simp)⟩|trace_state
  ·have hge:¬(k:Int)<L.length:=by omega
   obtain rfl:k=L.length:=by omega
   rw[List.take_length]at hln⊢
   (repeat' (first|apply zS|apply zB|(apply zW;simp only[go_sem,hge,l2,g2,encRow])|apply And.intro|intro _))
   all_goals first|omega|rfl|(rw[List.map_append];rfl)|skip
end
end Go.Proofs.YtjdklcjoeanimaaGreat

