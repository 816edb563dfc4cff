/- DERIVED. Steps of the proof. -/
import Derived.Test.YtjdklcjoeanimaaGreatVf21
import Derived.Test.YtjdklcjoeanimaaGreatVf22
import Derived.Test.YtjdklcjoeanimaaGreatVf23
set_option linter.all false
set_option maxHeartbeats 1000000
set_option maxRecDepth 10000
namespace Go.Proofs.YtjdklcjoeanimaaGreat
section
open Go.Vc Tryz
attribute [local irreducible] Go.Vc.WP
def kRu:FP:=⟨16,[fc [1] [] [18],fc [6] [0] [18],fc [7] [0,1] [18],fc [1] [] [18],fc [9] [3] [18],fc [10] [3,4] [18],fc [1] [] [18],fc [12] [6] [18],fc [13] [6,7] [18],fc [1] [] [18],fc [15] [9] [18],fc [16] [9,10] [18],⟨[11,14,17],[3,4,5,6,7,8,9,10,11],[],[],[],[18]⟩,fc [1] [] [18],fc [19] [13] [18],fc [20] [13,14] [18],fn 16,fn 17,fn 18,fn 19],[6,7,8,9,10,11,12,13,14,15,16,17,18,19,20,21],[18],[]⟩
attribute [local go_sem] kRu
section
def cxEsI:=kc k9a (kc qGm (kc cPackI kn))
theorem qCo:Cq 113 qI8:=by
 refine zp fun d x hx=>?_
 obtain⟨t,a,b,c,w⟩:=x;simp only at hx⊢;have v1:=kF1 t;have v2:=kW7 (a::b::c::w);simp only[jGk]at v2;have hm:[SV.v (.int .i64 a)]::[SV.v (.int .i64 b)]::[SV.v (.int .i64 c)]::w.map encI=(a::b::c::w).map encI:=rfl;have hlen:(a::b::c::w).length≤2097152:=by simp only[jGk];omega
 refine zg cxEsI func113 rfl rfl ntmps113 ?_;intros
 cases hok:kHi (t,⟨a,b,c,w⟩)with
 |false =>
  have e:kE8 (t,⟨a,b,c,w⟩)=⟨#[]⟩:=by unfold kE8;rw[hok];rfl
  rw[e]
  (repeat' (first|apply zS|apply zB|((first|apply zW| refine zf kRu ?_);simp only[go_sem,hok])|apply jAi|exact zc2|intro _))
 |true =>
  have e:kE8 (t,⟨a,b,c,w⟩)=varint t++pack (a::b::c::w):=if_pos hok;rw[e];generalize a::b::c::w=Z at hm v2 hlen
  (repeat' (first|apply zS|apply zB|((first|apply zW| refine zf kRu ?_);simp only[go_sem,hok,hm])|apply jAi|exact zc4|intro _))
end
end
section
open Go.Vc Tryz
attribute [local irreducible] Go.Vc.WP
def upL (s:ByteArray) (a:Int):List Int:=((unpack s a).map (·.1)).getD []
def upZ (s:ByteArray) (a:Int):Int:=((unpack s a).map (·.2)).getD 0
theorem kLl {s:ByteArray}{a:Int}(h:unpack s a=none):upL s a=[]∧upZ s a=0∧(unpack s a).isSome=false:=by unfold upL upZ;rw[h];exact⟨rfl,rfl,rfl⟩
theorem kYx {s:ByteArray}{a z:Int}{L:List Int}(h:unpack s a=some (L,z)):upL s a=L∧upZ s a=z∧(unpack s a).isSome=true:=by unfold upL upZ;rw[h];exact⟨rfl,rfl,rfl⟩
def kUnp:Ctr:=pur (fun args=>(aS args 0,aI args 1)) (fun x=>[.v (.string x.1),vi x.2]) (fun x=>x.1.size≤4194304∧0≤x.2∧x.2≤4194304)
 (fun d x=>.tup [.own d,vi (upZ x.1 x.2),.v (.bool (unpack x.1 x.2).isSome)]) (fun d x=>[(d,.sl 3 1 ((upL x.1 x.2).map encI))])
@[go_sem] def kUnpZ:Ctr:=pur (fun args=>(aS args 0,aI args 1)) (fun x=>[.v (.string x.1),vi x.2]) (fun x=>x.1.size≤4194304∧0≤x.2∧x.2≤4194304)
 (fun _ x=>.tup [.sl 1 ((upL x.1 x.2).map encI),vi (upZ x.1 x.2),.v (.bool (unpack x.1 x.2).isSome)]) (fun _ _=>[])
structure UpI (s:ByteArray) (a:Int) (n k:Nat) (size:Int) (L:List Int):Prop where
 kle:k≤n
 len:L.length=k
 lo:(k:Int)<size
 hi:a+size≤s.size
 eq:unpack s a=(kF7 s a (n-k) size).map fun q=>(L++q.1,q.2)
theorem UpI.start {s:ByteArray}{a n:Int}{m:Nat}(h:kBt s a=some (n,m)):UpI s a n.toNat 0 m []:=by
 have h1:=kD5 h;refine⟨zo,rfl,zo,zo,?_⟩;rw[kPo h];cases kF7 s a (n.toNat-0) m<;>rfl
theorem UpI.done {s:ByteArray}{a size:Int}{n:Nat}{L:List Int}(h:UpI s a n n size L):unpack s a=some (L,size):=by
 rw[h.eq,vDu];simp[kF7]
theorem UpI.bad {s:ByteArray}{a size:Int}{n k:Nat}{L:List Int}(h:UpI s a n k size L) (hk:k<n) (hd:kBt s (a+size)=none):unpack s a=none:=by
 rw[h.eq,show n-k=(n-(k+1))+1 by omega,qN2 hd];rfl
theorem UpI.next {s:ByteArray}{a size v:Int}{n k m:Nat}{L:List Int}(h:UpI s a n k size L) (hk:k<n) (hd:kBt s (a+size)=some (v,m)):UpI s a n (k+1) (size+m) (L++[sgd v]):=by
 have h1:=kD5 hd;refine⟨zo,by rw[jKs,h.len];rfl,by have:=h.lo;omega,zo,?_⟩
 rw[h.eq,show n-k=(n-(k+1))+1 by omega,qLu hd]
section
def cxUpI:=kc qI6 (kc cSgdI kn)
set_option maxHeartbeats 4000000 in
theorem cUnpI:Cq 112 kUnp:=by
 refine zp fun d x hx=>?_
 obtain⟨s,p⟩:=x;obtain⟨hs,hp1,hp2⟩:=hx;simp only at hs hp1 hp2⊢;refine zg cxUpI func112 rfl rfl ntmps112 ?_;intros
 cases hd:kBt s p with
 |none =>
  obtain⟨q1,q2,q3⟩:=kGm hd;rw[hd]at q3;obtain⟨r1,r2,r3⟩:=kLl (kKb hd);rw[r1,r2,r3]
  exact zx (z4 q1 q2 q3 hd)
 |some q =>
 obtain⟨n,m⟩:=q;obtain⟨q1,q2,q3⟩:=kMw hd;rw[hd]at q3;have hdz:=kD5 hd;by_cases hbig:n>s.size
 ·obtain⟨r1,r2,r3⟩:=kLl (qE8 hd hbig);rw[r1,r2,r3];exact zx (z5 q1 q2 q3 hd hbig)
 refine zy (z5 q1 q2 q3 hd hbig) ?_;refine zM (fun t:Nat×Int×List Int=>⟨[(0,.v (.string s)),(1,vi p),(7,vi n),(8,vi t.2.1),(10,.own 30),(11,vi t.1)],[(30,.sl 3 1 (t.2.2.map encI))]⟩) (fun t=>UpI s p n.toNat t.1 t.2.1 t.2.2) (fun t=>n.toNat-t.1) (0,(m:Int),[]) (UpI.start hd) ?_
 rintro⟨k,size,L⟩ hI;simp only at hI⊢;have hk:=hI.kle;have hL:=hI.len;have hlo:=hI.lo;have hhi:=hI.hi;by_cases hlt:(k:Int)<n;rotate_left
 ·have hke:k=n.toNat:=zo;obtain⟨r1,r2,r3⟩:=kYx (UpI.done (hke▸hI));rw[r1,r2,r3];exact zx hlt
 cases he:kBt s (p+size)with
 |none =>
  obtain⟨g1,g2,g3⟩:=kGm he;rw[he]at g3;obtain⟨r1,r2,r3⟩:=kLl (hI.bad zo he);rw[r1,r2,r3]
  exact zx (z5 hlt g1 g2 g3 he)
 |some w =>
  obtain⟨v,m2⟩:=w;obtain⟨g1,g2,g3⟩:=kMw he;rw[he]at g3;have hn:=hI.next zo he;have hm2:=kD5 he
  (repeat' (first|apply zS|apply zB|(apply zW;simp only[go_sem,hlt,g1,g2,g3,he])|apply jAi|omega|rfl|exact⟨(k+1,size+m2,L++[sgd v]),hn,by simp only;omega,by simp only[jNq,jHi,jRt,encI];(first|(and_intros<;>rfl)|simp)⟩|intro _))
def cxUpS:=kc qI7 (kc cSgdS kn)
set_option maxHeartbeats 4000000 in
theorem cUnpS:Cq 87 kUnp:=by
 refine zp fun d x hx=>?_
 obtain⟨s,p⟩:=x;obtain⟨hs,hp1,hp2⟩:=hx;simp only at hs hp1 hp2⊢;refine zg cxUpS func87 rfl rfl ntmps87 ?_;intros
 cases hd:kBt s p with
 |none =>
  obtain⟨q1,q2,q3⟩:=kGm hd;rw[hd]at q3;obtain⟨r1,r2,r3⟩:=kLl (kKb hd);rw[r1,r2,r3];refine zy (z4 q1 q2 q3 hd) ?_;refine zM (fun _:Unit=>⟨[(0,.v (.string s)),(1,vi p),(7,vi 0),(8,vi 0),(9,.v (.bool false)),(10,.own 22),(11,vi 0)],[(22,.sl 3 1 [])]⟩) (fun _=>True) (fun _=>0) () trivial ?_
  intro _ _
  exact zx trivial
 |some q =>
 obtain⟨n,m⟩:=q;obtain⟨q1,q2,q3⟩:=kMw hd;rw[hd]at q3;have hdz:=kD5 hd;refine zy (z4 q1 q2 q3 hd) ?_;refine zM (fun t:Bool×Nat×Int×List Int=>⟨[(0,.v (.string s)),(1,vi p),(7,vi n),(8,vi t.2.2.1),(9,.v (.bool t.1)),(10,.own 22),(11,vi t.2.1)],[(22,.sl 3 1 (t.2.2.2.map encI))]⟩) (fun t=>(t.1=true∧UpI s p n.toNat t.2.1 t.2.2.1 t.2.2.2)∨(t.1=false∧t.2.1≤n.toNat∧unpack s p=none)) (fun t=>n.toNat-t.2.1) (true,0,(m:Int),[]) (.inl ⟨rfl,UpI.start hd⟩) ?_
 rintro⟨b,k,size,L⟩ hI;simp only at hI⊢;rcases hI with⟨rfl,hI⟩|⟨rfl,hkn,hI⟩
 rotate_left
 ·obtain⟨r1,r2,r3⟩:=kLl hI;rw[r1,r2,r3];by_cases hlt:(k:Int)<n
  all_goals
   exact zx hlt
 have hk:=hI.kle;have hL:=hI.len;have hlo:=hI.lo;have hhi:=hI.hi;by_cases hlt:(k:Int)<n;rotate_left
 ·have hke:k=n.toNat:=zo;obtain⟨r1,r2,r3⟩:=kYx (UpI.done (hke▸hI));rw[r1,r2,r3];exact zx hlt
 cases he:kBt s (p+size)with
 |none =>
  obtain⟨g1,g2,g3⟩:=kGm he;rw[he]at g3;have hb:=hI.bad zo he
  (repeat' (first|apply zS|apply zB|(apply zW;simp only[go_sem,hlt,g1,g2,g3,he])|apply jAi|omega|rfl|exact⟨(false,k+1,size+0,L++[sgd 0]),.inr ⟨rfl,by simp only;omega,hb⟩,by simp only;omega,by simp only[jNq,jHi,jRt,encI];(first|(and_intros<;>rfl)|simp)⟩|intro _))
 |some w =>
  obtain⟨v,m2⟩:=w;obtain⟨g1,g2,g3⟩:=kMw he;rw[he]at g3;have hn:=hI.next zo he;have hm2:=kD5 he
  (repeat' (first|apply zS|apply zB|(apply zW;simp only[go_sem,hlt,g1,g2,g3,he])|apply jAi|omega|rfl|exact⟨(true,k+1,size+m2,L++[sgd v]),.inl ⟨rfl,hn⟩,by simp only;omega,by simp only[jNq,jHi,jRt,encI];(first|(and_intros<;>rfl)|simp)⟩|intro _))
end
end
section
open Go.Vc Tryz
attribute [local irreducible] Go.Vc.WP
def kDg:FP:=⟨17,[⟨[4],[],[42],[10,42,45],[],[]⟩,⟨[7],[],[42],[10,42,45],[],[]⟩,⟨[33],[1],[42],[10,42,45],[],[]⟩,⟨[34],[1,2],[42],[10,42,45],[],[]⟩,⟨[7],[],[42],[10,42,45],[],[]⟩,⟨[36],[4],[42],[10,42,45],[],[]⟩,⟨[37],[4,5],[42],[10,42,45],[],[]⟩,⟨[7],[],[42],[10,42,45],[],[]⟩,⟨[39],[7],[42],[10,42,45],[],[]⟩,⟨[40],[7,8],[42],[10,42,45],[],[]⟩,⟨[],[],[],[10,45],[],[42]⟩,fc [7] [] [10,42,45],fc [43] [11] [10,42,45],⟨[42,44],[10,11,12],[],[10],[42],[45]⟩,⟨[35,38,41,45],[1,2,3,4,5,6,7,8,9,10,11,12,13],[42],[10],[],[]⟩,⟨[32,46],[0,1,2,3,4,5,6,7,8,9,10,11,12,13,14],[42],[10],[],[]⟩,⟨[],[],[42],[42,45],[],[10]⟩,fn 17],[10,32,33,34,35,36,37,38,39,40,41,42,43,44,45,46,47],[10,42,45],[42]⟩
def kCk:FP:=⟨17,[⟨[4],[],[54],[10,54,57],[],[]⟩,⟨[7],[],[54],[10,54,57],[],[]⟩,⟨[45],[1],[54],[10,54,57],[],[]⟩,⟨[46],[1,2],[54],[10,54,57],[],[]⟩,⟨[7],[],[54],[10,54,57],[],[]⟩,⟨[48],[4],[54],[10,54,57],[],[]⟩,⟨[49],[4,5],[54],[10,54,57],[],[]⟩,⟨[7],[],[54],[10,54,57],[],[]⟩,⟨[51],[7],[54],[10,54,57],[],[]⟩,⟨[52],[7,8],[54],[10,54,57],[],[]⟩,⟨[],[],[],[10,57],[],[54]⟩,fc [7] [] [10,54,57],fc [55] [11] [10,54,57],⟨[54,56],[10,11,12],[],[10],[54],[57]⟩,⟨[47,50,53,57],[1,2,3,4,5,6,7,8,9,10,11,12,13],[54],[10],[],[]⟩,⟨[44,58],[0,1,2,3,4,5,6,7,8,9,10,11,12,13,14],[54],[10],[],[]⟩,⟨[],[],[54],[54,57],[],[10]⟩,fn 17],[10,44,45,46,47,48,49,50,51,52,53,54,55,56,57,58,59],[10,54,57],[54]⟩
attribute [local go_sem] kDg kCk
theorem kYw (L:List Int):kMc (L.map encI):=by
 intro row hr c hc;obtain⟨n,_,rfl⟩:=jCr.1 hr;simp only[encI,jDr,jJw,or_false]at hc;exact⟨_,hc⟩
theorem cUnpSz:Cq 87 kUnpZ:=Cn.frz cUnpS (fun d x id e s rows h=>by
  have hm:=kBf h;simp only[jDr,jJw,or_false,jCx,Ob.sl.injEq]at hm;obtain⟨_,_,_,rfl⟩:=hm;exact kYw _) (fun d x=>by simp[SV.up,SV.up2,kUf,lk])
theorem cUnpIz:Cq 112 kUnpZ:=Cn.frz cUnpI (fun d x id e s rows h=>by
  have hm:=kBf h;simp only[jDr,jJw,or_false,jCx,Ob.sl.injEq]at hm;obtain⟨_,_,_,rfl⟩:=hm;exact kYw _) (fun d x=>by simp[SV.up,SV.up2,kUf,lk])
def kGs:Int×Vw:=(0,⟨0,0,0,[]⟩)
def dsV (s:ByteArray):Int×Vw:=(kDs s).getD kGs
theorem ds_none {s:ByteArray}(h:kDs s=none):dsV s=kGs∧(kDs s).isSome=false:=by unfold dsV;rw[h];exact⟨rfl,rfl⟩
theorem kYs {s:ByteArray}{x:Int×Vw}(h:kDs s=some x):dsV s=x∧(kDs s).isSome=true:=by unfold dsV;rw[h];exact⟨rfl,rfl⟩
def qI5:Ctr:=pur (fun args=>aS args 0) (fun s=>[.v (.string s)]) (fun s=>s.size≤1048576)
 (fun d s=>.tup [.agg [vi ((dsV s).1),vi ((dsV s).2.pc),vi ((dsV s).2.sp),vi ((dsV s).2.fp),.own d],.v (.bool (kDs s).isSome)]) (fun d s=>[(d,.sl 3 1 ((dsV s).2.words.map encI))])
@[go_sem] def qCw:Ctr:=pur (fun args=>aS args 0) (fun s=>[.v (.string s)]) (fun s=>s.size≤1048576)
 (fun _ s=>.tup [.agg [vi ((dsV s).1),vi ((dsV s).2.pc),vi ((dsV s).2.sp),vi ((dsV s).2.fp),.sl 1 ((dsV s).2.words.map encI)],.v (.bool (kDs s).isSome)]) (fun _ _=>[])
section
def cxDsI:=kc qI6 (kc cUnpIz (kc qCo kn))
theorem kQo {p:Prop}(h:p:=by first|omega|rfl|exact⟨_,_,rfl⟩|exact⟨_,_,rfl,_,_,rfl,rfl⟩|(simp only[jH5];omega)|(obtain⟨n,_,rfl⟩:=jCr.1 ‹_›;rfl)):p:=h
set_option maxHeartbeats 4000000 in
theorem qO0:Cq 49 qI5:=by
 refine zp fun d x hx=>?_
 rename ByteArray=>s
 refine zg cxDsI func49 rfl rfl ntmps49 ?_;intros
 cases hd:kBt s 0 with
 |none =>
  obtain⟨q1,q2,q3⟩:=kGm hd;rw[hd]at q3;obtain⟨u1,u2,u3⟩:=kLl (kKb hd);obtain⟨r1,r2⟩:=ds_none (kTi hd);rw[r1,r2];simp only[kGs]
  (repeat' (first|apply zS|apply zB|((first|apply zW| refine zfZ [7] kDg ?_|refine zf kDg ?_);simp only[go_sem,q1,q2,q3,hd,u1,u2,u3])|apply jAi|exact zc3|intro _))
 |some q =>
 obtain⟨t,a⟩:=q;obtain⟨q1,q2,q3⟩:=kMw hd;rw[hd]at q3;have hdz:=kD5 hd
 cases hu:unpack s a with
 |none =>
  obtain⟨u1,u2,u3⟩:=kLl hu;rw[hu]at u3;obtain⟨r1,r2⟩:=ds_none (kTj hd hu);rw[r1,r2];simp only[kGs]
  (repeat' (first|apply zS|apply zB|((first|apply zW| refine zfZ [7] kDg ?_|refine zf kDg ?_);simp only[go_sem,q1,q2,q3,hd,u1,u2,u3,hu])|apply jAi|exact zc3|intro _))
 |some q =>
 obtain⟨L,z⟩:=q;obtain⟨u1,u2,u3⟩:=kYx hu;rw[hu]at u3;have hS:=kU4 hd hu;have hub:=kWs hu;by_cases h3:(L.length:Int)<3
 ·rw[kRj zo]at hS;obtain⟨r1,r2⟩:=ds_none hS;rw[r1,r2];simp only[kGs]
  (repeat' (first|apply zS|apply zB|((first|apply zW| refine zfZ [7] kDg ?_|refine zf kDg ?_);simp only[go_sem,q1,q2,q3,hd,u1,u2,u3,hu,h3])|apply jAi|exact zc3|intro _))
 obtain⟨p,r,f,w,hL⟩:=qE9 (L:=L) zo;have g0:Go.Vc.rowAt (L.map encI) 0=encI p:=by rw[hL];rfl
 have g1:Go.Vc.rowAt (L.map encI) 1=encI r:=by rw[hL];rfl
 have g2:Go.Vc.rowAt (L.map encI) 2=encI f:=by rw[hL];rfl
 have gd:(L.map encI).drop 3=w.map encI:=by rw[hL];rfl
 have wl:L.length=w.length+3:=by rw[hL];rfl
 have hS2:kDs s=if kE8 (t,⟨p,r,f,w⟩)=s then some (t,⟨p,r,f,w⟩)else none:=by rw[hS,hL];rfl
 by_cases he:kE8 (t,⟨p,r,f,w⟩)=s
 ·rw[if_pos he]at hS2;obtain⟨r1,r2⟩:=kYs hS2;rw[r1,r2]
  (repeat' (first|apply zS|apply zB|((first|apply zW| refine zfZ [7] kDg ?_|refine zf kDg ?_);simp only[go_sem,q1,q2,q3,hd,u1,u2,u3,hu,h3,g0,g1,g2,gd,encI,he])|apply jAi|exact kQo|intro _))
 ·rw[if_neg he]at hS2;obtain⟨r1,r2⟩:=ds_none hS2;rw[r1,r2];simp only[kGs]
  (repeat' (first|apply zS|apply zB|((first|apply zW| refine zfZ [7] kDg ?_|refine zf kDg ?_);simp only[go_sem,q1,q2,q3,hd,u1,u2,u3,hu,h3,g0,g1,g2,gd,encI,he])|apply jAi|exact kQo|intro _))
def cxDsS:=kc qI7 (kc cUnpSz (kc qCx kn))
set_option maxHeartbeats 4000000 in
theorem qO1:Cq 34 qI5:=by
 refine zp fun d x hx=>?_
 rename ByteArray=>s
 refine zg cxDsS func34 rfl rfl ntmps34 ?_;intros
 cases hd:kBt s 0 with
 |none =>
  obtain⟨q1,q2,q3⟩:=kGm hd;rw[hd]at q3;obtain⟨u1,u2,u3⟩:=kLl (kKb hd);obtain⟨r1,r2⟩:=ds_none (kTi hd);rw[r1,r2];simp only[kGs]
  (repeat' (first|apply zS|apply zB|((first|apply zW| refine zfZ [7] kCk ?_|refine zf kCk ?_);simp only[go_sem,q1,q2,q3,hd,u1,u2,u3])|apply jAi|exact zc3|intro _))
 |some q =>
 obtain⟨t,a⟩:=q;obtain⟨q1,q2,q3⟩:=kMw hd;rw[hd]at q3;have hdz:=kD5 hd
 cases hu:unpack s a with
 |none =>
  obtain⟨u1,u2,u3⟩:=kLl hu;rw[hu]at u3;obtain⟨r1,r2⟩:=ds_none (kTj hd hu);rw[r1,r2];simp only[kGs]
  (repeat' (first|apply zS|apply zB|((first|apply zW| refine zfZ [7] kCk ?_|refine zf kCk ?_);simp only[go_sem,q1,q2,q3,hd,u1,u2,u3,hu])|apply jAi|exact zc3|intro _))
 |some q =>
 obtain⟨L,z⟩:=q;obtain⟨u1,u2,u3⟩:=kYx hu;rw[hu]at u3;have hS:=kU4 hd hu;have hub:=kWs hu;by_cases h3:(L.length:Int)<3
 ·rw[kRj zo]at hS;obtain⟨r1,r2⟩:=ds_none hS;rw[r1,r2];simp only[kGs]
  (repeat' (first|apply zS|apply zB|((first|apply zW| refine zfZ [7] kCk ?_|refine zf kCk ?_);simp only[go_sem,q1,q2,q3,hd,u1,u2,u3,hu,h3])|apply jAi|exact zc3|intro _))
 obtain⟨p,r,f,w,hL⟩:=qE9 (L:=L) zo;have g0:Go.Vc.rowAt (L.map encI) 0=encI p:=by rw[hL];rfl
 have g1:Go.Vc.rowAt (L.map encI) 1=encI r:=by rw[hL];rfl
 have g2:Go.Vc.rowAt (L.map encI) 2=encI f:=by rw[hL];rfl
 have gd:(L.map encI).drop 3=w.map encI:=by rw[hL];rfl
 have wl:L.length=w.length+3:=by rw[hL];rfl
 have hS2:kDs s=if kE8 (t,⟨p,r,f,w⟩)=s then some (t,⟨p,r,f,w⟩)else none:=by rw[hS,hL];rfl
 have hlen:=fun he=>@qIe s t z p r f a w hd (hL▸hu) he
 by_cases hz:(a:Int)+z=s.size;rotate_left
 ·rw[if_neg fun he=>hz (hlen he)]at hS2
  obtain⟨r1,r2⟩:=ds_none hS2;rw[r1,r2];simp only[kGs]
  (repeat' (first|apply zS|apply zB|((first|apply zW| refine zfZ [7] kCk ?_|refine zf kCk ?_);simp only[go_sem,q1,q2,q3,hd,u1,u2,u3,hu,h3,hz])|apply jAi|exact zc3|intro _))
 by_cases he:kE8 (t,⟨p,r,f,w⟩)=s
 ·rw[if_pos he]at hS2;obtain⟨r1,r2⟩:=kYs hS2;rw[r1,r2]
  (repeat' (first|apply zS|apply zB|((first|apply zW| refine zfZ [7] kCk ?_|refine zf kCk ?_);simp only[go_sem,q1,q2,q3,hd,u1,u2,u3,hu,h3,hz,g0,g1,g2,gd,encI,he])|apply jAi|exact kQo|intro _))
 ·rw[if_neg he]at hS2;obtain⟨r1,r2⟩:=ds_none hS2;rw[r1,r2];simp only[kGs]
  (repeat' (first|apply zS|apply zB|((first|apply zW| refine zfZ [7] kCk ?_|refine zf kCk ?_);simp only[go_sem,q1,q2,q3,hd,u1,u2,u3,hu,h3,hz,g0,g1,g2,gd,encI,he])|apply jAi|exact kQo|intro _))
end
theorem qMn:Cq 34 qCw:=Cn.frz qO1 (fun d x id e s rows h=>by
  have hm:=kBf h;simp only[jDr,jJw,or_false,jCx,Ob.sl.injEq]at hm;obtain⟨_,_,_,rfl⟩:=hm;exact kYw _) (fun d x=>by simp[SV.up,SV.up2,kUf,lk])
theorem qMm:Cq 49 qCw:=Cn.frz qO0 (fun d x id e s rows h=>by
  have hm:=kBf h;simp only[jDr,jJw,or_false,jCx,Ob.sl.injEq]at hm;obtain⟨_,_,_,rfl⟩:=hm;exact kYw _) (fun d x=>by simp[SV.up,SV.up2,kUf,lk])
end
section
open Go.Vc
def kNc (a:AgX):Prop:=∀d∈a.2,d.kIv.length≤1048576
theorem qLt {x:AgX}(h:AgR x) (hB:kNc x) (adr:Int) (st:Bool):(faL x adr st).length≤1048577:=by
 unfold faL
 cases hf:kBz x adr st with
 |none=>simp
 |some f =>
  unfold kBz at hf;split at hf
  ·cases hf
  ·have:=kWl hf;obtain⟨k,hk,hk2⟩:=kK1 h.sp (a:=adr) (by assumption)
   have h2:=h.len;rw[hk,jB2,kO0 zo]at this;have:=hB _ (jCn (by omega:k<x.2.length))
   show f.length≤_
   omega
theorem k2f {x:AgX}(h:AgR x) (hB:kNc x) (st:Bool):∀(L:List Int) (i:Nat) (f:List Frame),kG8 x st i L=some f→f.length≤1048577*L.length
 | [],i,f,hf=>by cases hf;simp
 |a::r,i,f,hf=>by
  unfold kG8 at hf
  cases h1:kG8 x st (i+1) r with
  |none=>rw[h1]at hf;cases hf
  |some A =>
   rw[h1]at hf
   cases h2:kBz x (if i=0 then a else a-1) (st&&decide (i=0))with
   |none=>rw[h2]at hf;cases hf
   |some B =>
    rw[h2]at hf;simp only[jBf]at hf;subst hf;have q1:=k2f h hB st r (i+1) A h1;have q2:=qLt h hB (if i=0 then a else a-1) (st&&decide (i=0))
    unfold faL at q2;rw[h2]at q2;simp only[jOj]at q2;rw[jKs,jGk];omega
theorem kWm {a:AgX}{x:Int×Vw}{st:Bool}{F:List Frame}(h:kCf a x st=some F):kBb a=true∧kG8 a st 0 (unwind a.1 (a.2.map (·.rules)) x.2).1=some F:=by
 unfold kCf at h;split at h
 ·rename_i hc;exact⟨hc.1,h⟩
 ·cases h
theorem k4i {a:AgX}(hp:kEj a) (hB:kNc a) (x:Int×Vw) (st:Bool):(stL a x st).length≤41943080:=by
 unfold stL
 cases h:kCf a x st with
 |none=>simp
 |some F =>
  obtain⟨h1,h2⟩:=kWm h;have h3:=k2f ⟨hp,h1⟩ hB st _ 0 F h2;have h4:=kU2 a.1 (a.2.map (·.rules)) x.2
  show F.length≤_
  omega
theorem k2g {B:Nat}:∀(L:List Inline) (nm:ByteArray),nm.size≤B→(∀y∈L,y.name.size≤B)→(∀f∈kNa nm L,f.name.size≤B)∧(kK0 nm L).size≤B
 | [],nm,h,_=>⟨(fun f hf=>nomatch hf),h⟩
 |x::r,nm,h,hL=>by
  obtain⟨h1,h2⟩:=k2g r x.name (hL x zs) (fun y hy=>hL y (by simp[hy]))
  refine⟨fun f hf=>?_,h2⟩
  rcases jDr.1 hf with rfl|hf
  ·exact h
  ·exact h1 f hf
theorem AgR.syms {x:AgX}(h:AgR x):∀d∈x.2,∀y∈d.syms,y.name.size≤4194304:=by
 obtain⟨⟨I,B,E⟩,D⟩:=x;have hok:=h.ok;have h2:=h.len;have hs:=h.sp;simp only at h2 hs;have hl:=(kJx hs).1;have i0:0<I.length:=zo;have i1:1<I.length:=zo;have d0:0<D.length:=zo;have d1:1<D.length:=zo;rw[k0c hs h2 i0 i1 d0 d1,jBs]at hok;have hI:=h.pre.1.1.2;simp only at hI
 have key:∀(i:Image) (d:Debug),i∈I→kJf i d=true→∀y∈d.syms,y.name.size≤4194304:=fun i d hi hf y hy=>by
  unfold kJf at hf;rw[jBs,decide_eq_true_eq,decide_eq_true_eq]at hf;rw[←hf.2]at hy;exact(hI i hi).2.2 y hy
 intro d hd;obtain⟨k,hk,rfl⟩:=jWa.1 hd;simp only at hk;rcases(show k=0∨k=1 by omega)with rfl|rfl
 ·exact key _ _ (jCn i0) hok.1
 ·exact key _ _ (jCn i1) hok.2
theorem k6w {x:AgX}(h:AgR x) {adr:Int}{st:Bool}{F:List Frame}(hf:kBz x adr st=some F):∀f∈F,f.name.size≤4194304:=by
 unfold kBz at hf;split at hf
 ·cases hf
 ·obtain⟨k,hk,hk2⟩:=kK1 h.sp (a:=adr) (by assumption)
  have h2:=h.len;have hkD:k<x.2.length:=zo;rw[hk,jB2,kO0 hkD]at hf;have hd:=h.dbg _ (jCn hkD);have hsy:=h.syms _ (jCn hkD);generalize x.2[k]=d at *;generalize adr-x.1.2.1.getD k 0=o at *;unfold kEp at hf;split at hf
  ·cases hf
  ·rename_i hc;obtain⟨ks,e1,e2⟩:=k8n (o:=o) (Z:=d.syms) (fun hh=>hc (.inl hh))
   rw[jBf]at hf;subst hf;rw[e1,jB2,k8o e2]
   have hin:∀y∈kF6 d.kIv o,y.name.size≤4194304:=fun y hy=>by
    unfold kF6 at hy;split at hy
    ·exact hd.2.2.2.2 y (vJn.1 hy).1
    ·cases hy
   obtain⟨q1,q2⟩:=k2g (kF6 d.kIv o) _ (hsy _ (jCn e2)) hin;intro f hm;rcases jTf.1 hm with hm|hm
   ·exact q1 f hm
   ·rw[List.mem_singleton.1 hm];exact q2
theorem kZl {x:AgX}(h:AgR x) (st:Bool):∀(L:List Int) (i:Nat) (F:List Frame),kG8 x st i L=some F→∀f∈F,f.name.size≤4194304
 | [],i,F,hf=>by cases hf;intro f hf;cases hf
 |a::r,i,F,hf=>by
  unfold kG8 at hf
  cases h1:kG8 x st (i+1) r with
  |none=>rw[h1]at hf;cases hf
  |some A =>
   rw[h1]at hf
   cases h2:kBz x (if i=0 then a else a-1) (st&&decide (i=0))with
   |none=>rw[h2]at hf;cases hf
   |some B =>
    rw[h2]at hf;simp only[jBf]at hf;subst hf;intro f hm;rcases jTf.1 hm with hm|hm
    ·exact kZl h st r (i+1) A h1 f hm
    ·exact k6w h h2 f hm
theorem k5f {a:AgX}(hp:kEj a) (x:Int×Vw) (st:Bool):∀f∈stL a x st,f.name.size≤1099511627776:=by
 unfold stL
 cases h:kCf a x st with
 |none=>intro f hf;cases hf
 |some F =>
  obtain⟨h1,h2⟩:=kWm h;intro f hf;have:=kZl ⟨hp,h1⟩ st _ 0 F h2 f hf;omega
structure kFp (n0 j:Nat) (r:Rep):Prop where
 ok:kA8 r.N r.C=true
 kp:0≤r.kept∧r.kept≤1000000000000+j
 sk:0≤r.skip∧r.skip≤1000000000000+j
 len:r.N.length≤n0+41943080*j
theorem kNd {N:List Node}{C:List Int}(h:kA8 N C=true):∀n∈N,n.name.size≤1099511627776:=by
 intro n hn;obtain⟨k,hk,rfl⟩:=jWa.1 hn;have hs:=kZm (kDo.1 h).1 k hk
 have:kE7 N[k].name=true:=by
  unfold kGr at hs;simp only[jBs]at hs;have:=hs.1.2;unfold kJy at this;simp only[jBs]at this;exact this.1.1
 unfold kE7 at this;simp only[jBs,decide_eq_true_eq]at this;omega
theorem kFp.start {r:Rep}(h:kKk r=true):kFp r.N.length 0 r:=by
 unfold kKk at h;simp only[jBs,decide_eq_true_eq,beq_iff_eq]at h;obtain⟨⟨h1,h2⟩,h3,h4⟩:=h;have hs:=kJ0 h1 r.C.length (jDu _);rw[jJ3]at hs;have:kMq r.N r.C=r.C.sum:=by unfold kMq;rw[if_pos h1]
 exact⟨h1,zo,zo,zo⟩
theorem kFp.clen {n0 j:Nat}{r:Rep}(h:kFp n0 j r):r.C.length=r.N.length:=(kDo.1 h.ok).2.1
theorem k2h {a:AgX}{st:Bool}{r:Rep}{s:ByteArray}(h:kDs s=none):kLg a st r s=⟨r.N,r.C,r.kept,r.skip+1⟩:=by unfold kLg;rw[h]
theorem k8p {a:AgX}{st:Bool}{r:Rep}{s:ByteArray}{x:Int×Vw}(h:kDs s=some x) (h2:kCf a x st=none):kLg a st r s=⟨r.N,r.C,r.kept,r.skip+1⟩:=by unfold kLg;rw[h];simp only;rw[h2]
theorem k5g {a:AgX}{st:Bool}{r:Rep}{s:ByteArray}{x:Int×Vw}{F:List Frame}(h:kDs s=some x) (h2:kCf a x st=some F) (h3:(kAr r.N r.C F 1).2=true):kLg a st r s=⟨(kAr r.N r.C F 1).1.1,(kAr r.N r.C F 1).1.2,r.kept+1,r.skip⟩:=by unfold kLg;rw[h];simp only;rw[h2];exact if_pos h3
theorem k5h {a:AgX}{st:Bool}{r:Rep}{s:ByteArray}{x:Int×Vw}{F:List Frame}(h:kDs s=some x) (h2:kCf a x st=some F) (h3:(kAr r.N r.C F 1).2=false):kLg a st r s=⟨r.N,r.C,r.kept,r.skip+1⟩:=by unfold kLg;rw[h];simp only;rw[h2];exact if_neg (by rw[h3];simp)
theorem kFp.qE6 {n0 j:Nat}{r:Rep}(h:kFp n0 j r):kFp n0 (j+1) ⟨r.N,r.C,r.kept,r.skip+1⟩ :=
 ⟨h.ok,by have:=h.kp;simp only;omega,by have:=h.sk;simp only;omega,by have:=h.len;simp only;omega⟩
theorem kFp.step {n0 j:Nat}{a:AgX}{st:Bool}{r:Rep}{s:ByteArray}(hp:kEj a) (hB:kNc a) (h:kFp n0 j r):kFp n0 (j+1) (kLg a st r s):=by
 cases hd:kDs s with
 |none=>rw[k2h hd];exact h.qE6
 |some x =>
  cases hs:kCf a x st with
  |none=>rw[k8p hd hs];exact h.qE6
  |some F =>
   cases ha:(kAr r.N r.C F 1).2 with
   |false=>rw[k5h hd hs ha];exact h.qE6
   |true =>
    rw[k5g hd hs ha];have h1:=k8q r.N r.C F 1;have h2:F.length≤41943080:=by have:=k4i hp hB x st;rwa [k0d hs]at this
    have h3:=h.len;exact⟨qBj ha,by have:=h.kp;simp only;omega,by have:=h.sk;simp only;omega,by simp only;omega⟩
theorem k8r (a:AgX) (st:Bool) (r:Rep) (s:ByteArray):kLg a st r s=if((kDs s).isSome&&(kCf a (dsV s) st).isSome&&(kAr r.N r.C (stL a (dsV s) st) 1).2)=true then⟨(kAr r.N r.C (stL a (dsV s) st) 1).1.1,(kAr r.N r.C (stL a (dsV s) st) 1).1.2,r.kept+1,r.skip⟩else⟨r.N,r.C,r.kept,r.skip+1⟩:=by
 cases hd:kDs s with
 |none=>rw[k2h hd];exact(if_neg zs).symm
 |some x =>
  rw[(kYs hd).1]
  cases hs:kCf a x st with
  |none=>rw[k8p hd hs];exact(if_neg zs).symm
  |some F =>
   rw[k0d hs]
   cases ha:(kAr r.N r.C F 1).2 with
   |false=>rw[k5h hd hs ha];exact(if_neg zs).symm
   |true=>rw[k5g hd hs ha];exact(if_pos zs).symm
theorem qCg (s:ByteArray):kHj (dsV s).2:=by
 cases hd:kDs s with
 |none=>rw[(ds_none hd).1];exact⟨by unfold okN kGs;simp,by unfold okN kGs;simp,by unfold okN kGs;simp,by unfold kGs;simp,by unfold kGs;simp⟩
 |some x=>rw[(kYs hd).1];exact(qIb hd).2
theorem qCh:∀(L:List ByteArray),(∀s∈L,s≠⟨#[]⟩)→L.length≤kBu L L.length∧∀s∈L,s.size≤kBu L L.length
 | [],_=>⟨jDu _,fun s hs=>nomatch hs⟩
 |x::r,h=>by
  obtain⟨h1,h2⟩:=qCh r (fun s hs=>h s (by simp[hs]))
  have h3:kBu (x::r) (x::r).length=x.size+kBu r r.length:=by simp[kBu]
  have h4:0<x.size:=by
   refine Nat.pos_of_ne_zero fun h0=>h x zs ?_
   obtain⟨⟨l⟩⟩:=x;have:l=[]:=by simpa[ByteArray.size]using h0
   rw[this]
  refine⟨by rw[h3,jGk];omega,fun s hs=>?_⟩
  rw[h3];rcases jDr.1 hs with rfl|hs
  ·omega
  ·have:=h2 s hs;omega
theorem kLw {cp wr lo:Int}{R:List ByteArray}(h:kEu (cp,R,wr,lo)=true):R.length≤100000∧∀s∈R,s.size≤1048576:=by
 have h1:=kWn h
 have h2:∀s∈R,s≠⟨#[]⟩:=by
  unfold kEu at h;rw[jBs,jDl]at h;exact fun s hs=>of_decide_eq_true (h.1 s hs)
 obtain⟨h3,h4⟩:=qCh R h2;exact⟨zo,fun s hs=>by have:=h4 s hs;omega⟩
theorem kWo {cp wr lo:Int}{R:List ByteArray}(h:kEu (cp,R,wr,lo)=true):kJw (cp,R,wr,lo) R.length=((cp,[],wr,lo),R):=by
 unfold kJw;rw[if_pos ⟨h,zo⟩];simp
theorem kMr {x:SeX}(h:kAx x=true):kEu x.2.2.1=true:=by
 unfold kAx at h;simp only[jBs]at h;exact h.1.2
def colS (s:SeX):SeX:=(s.1,s.2.1,(s.2.2.1.1,[],s.2.2.1.2.2.1,s.2.2.1.2.2.2),s.2.2.2)
theorem kU3 {a:AgX}{s:SeX}{r:Rep}{st:Bool}(h:¬(kBb a=true∧kAx s=true∧kKk r=true)):collect a s r st=(s,r):=if_neg h
theorem kTh {a:AgX}{s:SeX}{r:Rep}{st:Bool}(h:kBb a=true∧kAx s=true∧kKk r=true):collect a s r st=(colS s,kQg a st r s.2.2.1.2.1):=by
 unfold collect;rw[if_pos h];have hr:=kMr h.2.1;obtain⟨P,t,⟨cp,R,wr,lo⟩,m⟩:=s;simp only at hr⊢;rw[kWo hr];rfl
theorem kFp.go {n0 j:Nat}{a:AgX}{st:Bool}(hp:kEj a) (hB:kNc a) {L:List ByteArray}:∀{r:Rep},kFp n0 j r→kFp n0 (j+L.length) (kQg a st r L):=by
 induction L generalizing j with
 |nil=>intro r h;exact h
 |cons s L ih =>
  intro r h;have:=ih (h.step (st:=st) (s:=s) hp hB);rw[jGk,show j+(L.length+1)=j+1+L.length by omega]
  exact this
end
section
open Go.Vc
abbrev ColX:=AgX×SeX×Rep×Bool
structure ColP (x:ColX):Prop where
 ag:kEj x.1
 inl:kNc x.1
 se:kEl x.2.1
 cs:kJz x.2.1
 wf:wfR x.2.2.1
 nl:x.2.2.1.N.length≤4398046511104
 cl:x.2.2.1.C.length≤4398046511104
 nr:kAx x.2.1=true→x.2.2.1.N.length+41943080*x.2.1.2.2.1.2.1.length≤4398046511104
def kPy:List SV:=[.v (.slice none 0 0),.v (.slice none 0 0),.v (.slice none 0 0),.v (.slice none 0 0),vi 0,vi 0,vi 0,vi 0,vi 0,vi 0,vi 0,vi 0,.v (.slice none 0 0),vi 0,vi 0,vi 0,vi 0,vi 0]
def kPz:List SV:=[.v (.slice none 0 0),.v (.slice none 0 0),vi 0,vi 0]
def kVb (d:Nat) (r:Rep):List SV:=[.own (d+5000),.own (d+6000),vi r.kept,vi r.skip]
def k0o (d:Nat) (r:Rep):List (Nat×Ob):=[(d+5000,.sl 231 3 (r.N.map kAc)),(d+6000,.sl 3 1 (r.C.map encI))]
@[go_sem] def kCol:Ctr:=pur (fun args=>((agA args 0,seA args 1,repA args 2,aB args 3):ColX)) (fun x=>[.agg (aggAg x.1),.agg (aggSe x.2.1),.agg (kL0 x.2.2.1),.v (.bool x.2.2.2)]) ColP
 (fun d x=>.tup [.agg (kHa d (collect x.1 x.2.1 x.2.2.1 x.2.2.2).1),.agg (kVb d (collect x.1 x.2.1 x.2.2.1 x.2.2.2).2)]) (fun d x=>kJk d (collect x.1 x.2.1 x.2.2.1 x.2.2.2).1++k0o d (collect x.1 x.2.1 x.2.2.1 x.2.2.2).2)
@[go_sem] theorem isV_Ss2 {e s:Nat}(L:List ByteArray):(Ob.sl e s (L.map encS)).isV↔True:=iff_true_intro (by
 intro row hr c hc;obtain⟨n,_,rfl⟩:=jCr.1 hr;simp only[encS,jDr,jJw,or_false]at hc;exact⟨_,hc⟩)
@[go_sem] theorem isV_Sd2 {e s:Nat}{rows:List (List SV)}:(Ob.dp e s rows).isV↔True:=iff_true_intro trivial
end
end Go.Proofs.YtjdklcjoeanimaaGreat
