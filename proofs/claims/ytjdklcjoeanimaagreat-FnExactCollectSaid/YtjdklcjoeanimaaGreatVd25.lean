/-
  DERIVED. Several texts of ours in one: VtEncI, VtUnp.
-/
import Derived.Test.YtjdklcjoeanimaaGreatVd11
import Derived.Test.YtjdklcjoeanimaaGreatVd14
import Derived.Test.YtjdklcjoeanimaaGreatVd19
import Derived.Test.YtjdklcjoeanimaaGreatVd24
set_option linter.unusedSimpArgs false
set_option linter.unusedVariables false
set_option maxHeartbeats 1000000
set_option maxRecDepth 10000
namespace Go.Proofs.YtjdklcjoeanimaaGreat
open Go.Vc
attribute [local irreducible] Go.Vc.WP
attribute [local go_sem] kAd kAe
def kMx:List Go.Vc.Fp:=[⟨[1],[],[],[18],[],[]⟩,⟨[6],[0],[],[18],[],[]⟩,⟨[7],[0,1],[],[18],[],[]⟩,⟨[1],[],[],[18],[],[]⟩,⟨[9],[3],[],[18],[],[]⟩,⟨[10],[3,4],[],[18],[],[]⟩,⟨[1],[],[],[18],[],[]⟩,⟨[12],[6],[],[18],[],[]⟩,⟨[13],[6,7],[],[18],[],[]⟩,⟨[1],[],[],[18],[],[]⟩,⟨[15],[9],[],[18],[],[]⟩,⟨[16],[9,10],[],[18],[],[]⟩,⟨[11,14,17],[3,4,5,6,7,8,9,10,11],[],[],[],[18]⟩,⟨[1],[],[],[18],[],[]⟩,⟨[19],[13],[],[18],[],[]⟩,⟨[20],[13,14],[],[18],[],[]⟩,⟨[],[0,1,2,3,4,5,6,7,8,9,10,11,12,13,14,15],[],[],[],[]⟩,⟨[],[0,1,2,3,4,5,6,7,8,9,10,11,12,13,14,15,16],[],[],[],[]⟩,⟨[],[0,1,2,3,4,5,6,7,8,9,10,11,12,13,14,15,16,17],[],[],[],[]⟩,⟨[],[0,1,2,3,4,5,6,7,8,9,10,11,12,13,14,15,16,17,18],[],[],[],[]⟩]
attribute [local go_sem] kMx
attribute [local go_sem] kAf vwA smA kFt
section
noncomputable def k9y:=mkX [(114,kIr),(185,kVar),(187,kNq)] (COk.cons qFd (COk.cons k9w (COk.cons cPackI (COk.nil _))))
theorem qM7:k9y.tys=tys:=rfl
theorem qM8:k9y.C=[(114,kIr),(185,kVar),(187,kNq)]:=rfl
attribute [local go_sem] qM7 qM8 kIr kVar kNq
theorem qMj:Cn Tryz.prog 113 kLh:=by
 refine Cn.pur Tryz.func113 (by kernel_rfl) rfl fun d x hx=>?_
 obtain⟨t,a,b,c,w⟩:=x;simp only at hx⊢;have v1:=kFq t;have v2:=kZo (a::b::c::w);simp only[List.length_cons]at v2;have hm:[SV.v (.int .i64 a)]::[SV.v (.int .i64 b)]::[SV.v (.int .i64 c)]::w.map encI=(a::b::c::w).map encI:=rfl;have hlen:(a::b::c::w).length≤2097152:=by simp only[List.length_cons];omega
 refine Holds.go (c:=k9y) Tryz.func113 rfl Tryz.results113 Tryz.ntmps113 (by omega) (by simp) rfl ?_
 intro X0 w0
 cases hok:smOk (t,⟨a,b,c,w⟩)with
 |false =>
  have e:kGg (t,⟨a,b,c,w⟩)=⟨#[]⟩:=by unfold kGg;rw[hok];rfl
  rw[e]
  (repeat' (first|apply zS|apply zB|((first|apply zW| refine zF 16 kMx [6,7,8,9,10,11,12,13,14,15,16,17,18,19,20,21] [18] [] (by decide +kernel) (by kernel_rfl) (by kernel_rfl) (by kernel_rfl) ?_);simp only[go_sem,hok])|apply And.intro|intro _))
  all_goals first|omega|rfl|skip
 |true =>
  have e:kGg (t,⟨a,b,c,w⟩)=varint t++pack (a::b::c::w):=if_pos hok;rw[e];generalize a::b::c::w=Z at hm v2 hlen
  (repeat' (first|apply zS|apply zB|((first|apply zW| refine zF 16 kMx [6,7,8,9,10,11,12,13,14,15,16,17,18,19,20,21] [18] [] (by decide +kernel) (by kernel_rfl) (by kernel_rfl) (by kernel_rfl) ?_);simp only[go_sem,hok,hm])|apply And.intro|intro _))
  all_goals first|omega|rfl|(obtain⟨n,_,rfl⟩:=List.mem_map.1 ‹_›;rfl)|skip
end
end Go.Proofs.YtjdklcjoeanimaaGreat

namespace Go.Proofs.YtjdklcjoeanimaaGreat
open Go.Vc
attribute [local irreducible] Go.Vc.WP
attribute [local go_sem] kAd kAe
attribute [local go_sem] kAf vwA smA kFt
def upL (s:ByteArray) (a:Int):List Int:=((unpack s a).map (·.1)).getD []
def upZ (s:ByteArray) (a:Int):Int:=((unpack s a).map (·.2)).getD 0
theorem kIe {s:ByteArray}{a:Int}(h:unpack s a=none):upL s a=[]∧upZ s a=0∧(unpack s a).isSome=false:=by unfold upL upZ;rw[h];exact⟨rfl,rfl,rfl⟩
theorem kSz {s:ByteArray}{a z:Int}{L:List Int}(h:unpack s a=some (L,z)):upL s a=L∧upZ s a=z∧(unpack s a).isSome=true:=by unfold upL upZ;rw[h];exact⟨rfl,rfl,rfl⟩
def kUnp:Ctr:=pur (fun args=>(aS args 0,aI args 1)) (fun x=>[.v (.string x.1),.v (.int .i64 x.2)]) (fun x=>x.1.size≤4194304∧0≤x.2∧x.2≤4194304)
 (fun d x=>.tup [.own d,.v (.int .i64 (upZ x.1 x.2)),.v (.bool (unpack x.1 x.2).isSome)]) (fun d x=>[(d,.sl 3 1 ((upL x.1 x.2).map encI))])
def kNp:Ctr:=pur (fun args=>(aS args 0,aI args 1)) (fun x=>[.v (.string x.1),.v (.int .i64 x.2)]) (fun x=>x.1.size≤4194304∧0≤x.2∧x.2≤4194304)
 (fun _ x=>.tup [.sl 1 ((upL x.1 x.2).map encI),.v (.int .i64 (upZ x.1 x.2)),.v (.bool (unpack x.1 x.2).isSome)]) (fun _ _=>[])
structure UpI (s:ByteArray) (a:Int) (n k:Nat) (size:Int) (L:List Int):Prop where
 kle:k≤n
 len:L.length=k
 lo:(k:Int)<size
 hi:a+size≤s.size
 eq:unpack s a=(upGo s a (n-k) size).map fun q=>(L++q.1,q.2)
theorem UpI.start {s:ByteArray}{a n:Int}{m:Nat}(h:decV s a=some (n,m)):UpI s a n.toNat 0 m []:=by
 have h1:=kC9 h;refine⟨by omega,rfl,by omega,by omega,?_⟩
 rw[kK4 h];cases upGo s a (n.toNat-0) m<;>rfl
theorem UpI.done {s:ByteArray}{a size:Int}{n:Nat}{L:List Int}(h:UpI s a n n size L):unpack s a=some (L,size):=by
 rw[h.eq,Nat.sub_self];simp[upGo]
theorem UpI.bad {s:ByteArray}{a size:Int}{n k:Nat}{L:List Int}(h:UpI s a n k size L) (hk:k<n) (hd:decV s (a+size)=none):unpack s a=none:=by
 rw[h.eq,show n-k=(n-(k+1))+1 by omega,qKv hd];rfl
theorem UpI.next {s:ByteArray}{a size v:Int}{n k m:Nat}{L:List Int}(h:UpI s a n k size L) (hk:k<n) (hd:decV s (a+size)=some (v,m)):UpI s a n (k+1) (size+m) (L++[sgd v]):=by
 have h1:=kC9 hd;refine⟨by omega,by rw[List.length_append,h.len];rfl,by have:=h.lo;omega,by omega,?_⟩
 rw[h.eq,show n-k=(n-(k+1))+1 by omega,qHk hd]
section
noncomputable def qCw:=mkX [(111,kHe),(186,kSgd)] (COk.cons qFa (COk.cons cSgdI (COk.nil _)))
theorem qS8:qCw.tys=tys:=rfl
theorem qS9:qCw.C=[(111,kHe),(186,kSgd)]:=rfl
attribute [local go_sem] qS8 qS9 kHe kSgd
set_option maxHeartbeats 4000000 in
theorem cUnpI:Cn Tryz.prog 112 kUnp:=by
 refine Cn.pur Tryz.func112 (by kernel_rfl) rfl fun d x hx=>?_
 obtain⟨s,p⟩:=x;obtain⟨hs,hp1,hp2⟩:=hx;simp only at hs hp1 hp2⊢;refine Holds.go (c:=qCw) Tryz.func112 rfl Tryz.results112 Tryz.ntmps112 (by omega) (by simp) rfl ?_
 intro X0 w0
 cases hd:decV s p with
 |none =>
  obtain⟨q1,q2,q3⟩:=kEv hd;rw[hd]at q3;obtain⟨r1,r2,r3⟩:=kIe (kG8 hd);rw[r1,r2,r3]
  (repeat' (first|apply zS|apply zB|(apply zW;simp only[go_sem,q1,q2,q3,hd])|apply And.intro|intro _))
  all_goals first|omega|rfl|exact⟨_,_,rfl⟩|exact⟨_,_,_,rfl⟩|skip
 |some q =>
 obtain⟨n,m⟩:=q;obtain⟨q1,q2,q3⟩:=kI9 hd;rw[hd]at q3;have hdz:=kC9 hd;by_cases hbig:n>s.size
 ·obtain⟨r1,r2,r3⟩:=kIe (k8v hd hbig);rw[r1,r2,r3]
  (repeat' (first|apply zS|apply zB|(apply zW;simp only[go_sem,q1,q2,q3,hd,hbig])|apply And.intro|intro _))
  all_goals first|omega|rfl|exact⟨_,_,rfl⟩|exact⟨_,_,_,rfl⟩|skip
 (repeat' (first|apply zS|apply zB|(apply zW;simp only[go_sem,q1,q2,q3,hd,hbig])|apply And.intro|intro _))
 all_goals first|omega|skip
 refine zL (fun t:Nat×Int×List Int=>⟨[(0,.v (.string s)),(1,.v (.int .i64 p)),(7,.v (.int .i64 n)),(8,.v (.int .i64 t.2.1)),(10,.own 30),(11,.v (.int .i64 t.1))],[(30,.sl 3 1 (t.2.2.map encI))]⟩) (fun t=>UpI s p n.toNat t.1 t.2.1 t.2.2) (fun t=>n.toNat-t.1) (0,(m:Int),[]) (UpI.start hd) ?_ ?_
 ·(simp only[go_sem]<;>(first|(and_intros<;>rfl)|simp))
 rintro⟨k,size,L⟩ hI;simp only at hI⊢;have hk:=hI.kle;have hL:=hI.len;have hlo:=hI.lo;have hhi:=hI.hi;by_cases hlt:(k:Int)<n;rotate_left
 ·have hke:k=n.toNat:=by omega
  obtain⟨r1,r2,r3⟩:=kSz (UpI.done (hke▸hI));rw[r1,r2,r3]
  (repeat' (first|apply zS|apply zB|(apply zW;simp only[go_sem,hlt])|apply And.intro|intro _))
  all_goals first|omega|rfl|exact⟨_,_,rfl⟩|exact⟨_,_,_,rfl⟩|skip
 cases he:decV s (p+size)with
 |none =>
  obtain⟨g1,g2,g3⟩:=kEv he;rw[he]at g3;obtain⟨r1,r2,r3⟩:=kIe (hI.bad (by omega) he)
  rw[r1,r2,r3]
  (repeat' (first|apply zS|apply zB|(apply zW;simp only[go_sem,hlt,g1,g2,g3,he])|apply And.intro|intro _))
  all_goals first|omega|rfl|exact⟨_,_,rfl⟩|exact⟨_,_,_,rfl⟩|skip
 |some w =>
  obtain⟨v,m2⟩:=w;obtain⟨g1,g2,g3⟩:=kI9 he;rw[he]at g3;have hn:=hI.next (by omega) he
  have hm2:=kC9 he
  (repeat' (first|apply zS|apply zB|(apply zW;simp only[go_sem,hlt,g1,g2,g3,he])|apply And.intro|intro _))
  all_goals first|omega|rfl|exact⟨(k+1,size+m2,L++[sgd v]),hn,by simp only;omega,by simp only[List.map_append,List.map_cons,List.map_nil,encI];(first|(and_intros<;>rfl)|simp)⟩|skip
noncomputable def qCx:=mkX [(86,kHe),(160,kSgd)] (COk.cons qFb (COk.cons cSgdS (COk.nil _)))
theorem qTa:qCx.tys=tys:=rfl
theorem qTb:qCx.C=[(86,kHe),(160,kSgd)]:=rfl
attribute [local go_sem] qTa qTb kHe kSgd
set_option maxHeartbeats 4000000 in
theorem cUnpS:Cn Tryz.prog 87 kUnp:=by
 refine Cn.pur Tryz.func87 (by kernel_rfl) rfl fun d x hx=>?_
 obtain⟨s,p⟩:=x;obtain⟨hs,hp1,hp2⟩:=hx;simp only at hs hp1 hp2⊢;refine Holds.go (c:=qCx) Tryz.func87 rfl Tryz.results87 Tryz.ntmps87 (by omega) (by simp) rfl ?_
 intro X0 w0
 cases hd:decV s p with
 |none =>
  obtain⟨q1,q2,q3⟩:=kEv hd;rw[hd]at q3;obtain⟨r1,r2,r3⟩:=kIe (kG8 hd);rw[r1,r2,r3]
  (repeat' (first|apply zS|apply zB|(apply zW;simp only[go_sem,q1,q2,q3,hd])|apply And.intro|intro _))
  all_goals first|omega|skip
  refine zL (fun _:Unit=>⟨[(0,.v (.string s)),(1,.v (.int .i64 p)),(7,.v (.int .i64 0)),(8,.v (.int .i64 0)),(9,.v (.bool false)),(10,.own 22),(11,.v (.int .i64 0))],[(22,.sl 3 1 [])]⟩) (fun _=>True) (fun _=>0) () trivial ?_ ?_
  ·(simp only[go_sem]<;>(first|(and_intros<;>rfl)|simp))
  intro _ _
  (repeat' (first|apply zS|apply zB|(apply zW;simp only[go_sem])|apply And.intro|intro _))
  all_goals first|omega|rfl|exact⟨_,_,rfl⟩|exact⟨_,_,_,rfl⟩|skip
 |some q =>
 obtain⟨n,m⟩:=q;obtain⟨q1,q2,q3⟩:=kI9 hd;rw[hd]at q3;have hdz:=kC9 hd
 (repeat' (first|apply zS|apply zB|(apply zW;simp only[go_sem,q1,q2,q3,hd])|apply And.intro|intro _))
 all_goals first|omega|skip
 refine zL (fun t:Bool×Nat×Int×List Int=>⟨[(0,.v (.string s)),(1,.v (.int .i64 p)),(7,.v (.int .i64 n)),(8,.v (.int .i64 t.2.2.1)),(9,.v (.bool t.1)),(10,.own 22),(11,.v (.int .i64 t.2.1))],[(22,.sl 3 1 (t.2.2.2.map encI))]⟩) (fun t=>(t.1=true∧UpI s p n.toNat t.2.1 t.2.2.1 t.2.2.2)∨(t.1=false∧t.2.1≤n.toNat∧unpack s p=none)) (fun t=>n.toNat-t.2.1) (true,0,(m:Int),[]) (.inl ⟨rfl,UpI.start hd⟩) ?_ ?_
 ·(simp only[go_sem]<;>(first|(and_intros<;>rfl)|simp))
 rintro⟨b,k,size,L⟩ hI;simp only at hI⊢;rcases hI with⟨rfl,hI⟩|⟨rfl,hkn,hI⟩
 rotate_left
 ·obtain⟨r1,r2,r3⟩:=kIe hI;rw[r1,r2,r3];by_cases hlt:(k:Int)<n
  all_goals
   (repeat' (first|apply zS|apply zB|(apply zW;simp only[go_sem,hlt])|apply And.intro|intro _))
   all_goals first|omega|rfl|exact⟨_,_,rfl⟩|exact⟨_,_,_,rfl⟩|skip
 have hk:=hI.kle;have hL:=hI.len;have hlo:=hI.lo;have hhi:=hI.hi;by_cases hlt:(k:Int)<n;rotate_left
 ·have hke:k=n.toNat:=by omega
  obtain⟨r1,r2,r3⟩:=kSz (UpI.done (hke▸hI));rw[r1,r2,r3]
  (repeat' (first|apply zS|apply zB|(apply zW;simp only[go_sem,hlt])|apply And.intro|intro _))
  all_goals first|omega|rfl|exact⟨_,_,rfl⟩|exact⟨_,_,_,rfl⟩|skip
 cases he:decV s (p+size)with
 |none =>
  obtain⟨g1,g2,g3⟩:=kEv he;rw[he]at g3;have hb:=hI.bad (by omega) he
  (repeat' (first|apply zS|apply zB|(apply zW;simp only[go_sem,hlt,g1,g2,g3,he])|apply And.intro|intro _))
  all_goals first|omega|rfl|exact⟨(false,k+1,size+0,L++[sgd 0]),.inr ⟨rfl,by simp only;omega,hb⟩,by simp only;omega,by simp only[List.map_append,List.map_cons,List.map_nil,encI];(first|(and_intros<;>rfl)|simp)⟩|skip
 |some w =>
  obtain⟨v,m2⟩:=w;obtain⟨g1,g2,g3⟩:=kI9 he;rw[he]at g3;have hn:=hI.next (by omega) he
  have hm2:=kC9 he
  (repeat' (first|apply zS|apply zB|(apply zW;simp only[go_sem,hlt,g1,g2,g3,he])|apply And.intro|intro _))
  all_goals first|omega|rfl|exact⟨(true,k+1,size+m2,L++[sgd v]),.inl ⟨rfl,hn⟩,by simp only;omega,by simp only[List.map_append,List.map_cons,List.map_nil,encI];(first|(and_intros<;>rfl)|simp)⟩|skip
end
end Go.Proofs.YtjdklcjoeanimaaGreat

