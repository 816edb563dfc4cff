/-
  DERIVED. Several texts of ours in one: VtRepM, VtSessL, VpColL, VtSeD3.
-/
import Derived.Test.YtjdklcjoeanimaaGreatVd20
import Derived.Test.YtjdklcjoeanimaaGreatVd27
import Derived.Test.YtjdklcjoeanimaaGreatVd28
import Derived.Test.YtjdklcjoeanimaaGreatVd29
import Derived.Test.YtjdklcjoeanimaaGreatVd31
import Derived.Test.YtjdklcjoeanimaaGreatVd38
set_option linter.unusedSimpArgs false
set_option linter.unusedVariables false
set_option maxHeartbeats 1000000
set_option maxRecDepth 10000
namespace Go.Proofs.YtjdklcjoeanimaaGreat
open Go.Vc
attribute [local irreducible] Go.Vc.WP
attribute [local go_sem] kAd kAe
attribute [local go_sem] kKe kOo kCg kCd kBt stkA kCv kCw kAf prA repA kP9
def kX5:Ctr:=pur (fun args=>(repA args 0,repA args 1)) (fun x=>[.agg [.sl 3 (x.1.N.map kAb),.sl 1 (x.1.C.map encI),.v (.int .i64 x.1.kept),.v (.int .i64 x.1.skip)],.agg [.sl 3 (x.2.N.map kAb),.sl 1 (x.2.C.map encI),.v (.int .i64 x.2.kept),.v (.int .i64 x.2.skip)]]) (fun x=>x.1.N.length≤4398046511104∧x.1.C.length≤4398046511104)
 (fun _ x=>.v (.bool (decide (x.1=x.2)))) (fun _ _=>[])
section
noncomputable def kUy:=mkX [(55,kWs)] (COk.cons ceqPr (COk.nil _))
theorem qAv:kUy.tys=tys:=rfl
theorem qAw:kUy.C=[(55,kWs)]:=rfl
attribute [local go_sem] qAv qAw kWs
theorem qL3:Cn Tryz.prog 14 kX5:=by
 refine Cn.pur Tryz.func14 (by kernel_rfl) rfl fun d x hx=>?_
 obtain⟨⟨N,C,k1,s1⟩,⟨M,D,k2,s2⟩⟩:=x;simp only at hx⊢;refine Holds.go (c:=kUy) Tryz.func14 rfl Tryz.results14 Tryz.ntmps14 (by omega) (by simp) rfl ?_
 intro X0 w0
 (repeat' (first|apply zS|apply zB|(apply zW;simp only[go_sem])|apply And.intro|intro _))
 all_goals first|omega|simp_all|skip
end
def kQd:Ctr:=len [0] [] (fun args obs=>((kEs (oR obs 1000000),decI (oR obs 1000001)),aI args 1)) (fun x=>[.agg [.own 1000000,.own 1000001],.v (.int .i64 x.2)])
 (fun x=>[(1000000,.sl 231 3 (x.1.1.map kAb)),(1000001,.sl 3 1 (x.1.2.map encI))]) (fun x=>x.1.1.length≤4398046511104∧x.1.2.length≤4398046511104∧0≤x.2∧x.2≤75000000000000)
 (fun _ x=>.v (.int .i64 (x.2+3*x.1.1.length+x.1.2.length))) (fun _ _=>[]) (fun x=>[(1000000,.sl 231 3 ((kAx x.2 x.1.1.length).map kAb)),(1000001,.sl 3 1 ((kBf (x.2+3*x.1.1.length) x.1.2.length).map encI))])
section
noncomputable def kYi:=mkX [(134,kMy),(127,k18)] (COk.cons qIh (COk.cons c18 (COk.nil _)))
theorem qF9:kYi.tys=tys:=rfl
theorem qGa:kYi.C=[(134,kMy),(127,k18)]:=rfl
attribute [local go_sem] qF9 qGa kMy k18
theorem qIq:Cn Tryz.prog 62 kQd:=by
 refine Cn.len Tryz.func62 (by kernel_rfl) rfl fun d x hd hx=>?_
 obtain⟨⟨N,C⟩,k0⟩:=x;obtain⟨hN,hC,h0,h1⟩:=hx;simp only at hN hC h0 h1⊢;refine kBj.go (c:=kYi) Tryz.func62 rfl Tryz.results62 Tryz.ntmps62 (by omega) (by simp) rfl (by simp<;>omega) (by simp[SV.kAv,SV.owns,SV.kAn]) (by simp) rfl rfl (by simp) ?_
 intro X0 M w0
 (repeat' (first|apply zS|apply zB|(apply zW;simp only[go_sem])|apply And.intro|intro _))
 all_goals first|omega|skip
end
def kQe:Ctr:=pur (fun args=>(prA args 0,aI args 1)) (fun x=>[.agg [.sl 3 (x.1.1.map kAb),.sl 1 (x.1.2.map encI)],.v (.int .i64 x.2)]) (fun x=>x.1.1.length≤4398046511104∧x.1.2.length≤4398046511104∧0≤x.2∧x.2≤75000000000000)
 (fun _ x=>.v (.int .i64 (if x.1.1=kAx x.2 x.1.1.length∧x.1.2=kBf (x.2+3*x.1.1.length) x.1.2.length then x.2+3*x.1.1.length+x.1.2.length else -1))) (fun _ _=>[])
section
noncomputable def kYj:=mkX [(138,kMz),(139,k19)] (COk.cons qIi (COk.cons c19 (COk.nil _)))
theorem qGb:kYj.tys=tys:=rfl
theorem qGc:kYj.C=[(138,kMz),(139,k19)]:=rfl
attribute [local go_sem] qGb qGc kMz k19
theorem qIr:Cn Tryz.prog 65 kQe:=by
 refine Cn.pur Tryz.func65 (by kernel_rfl) rfl fun d x hx=>?_
 obtain⟨⟨N,C⟩,k0⟩:=x;obtain⟨hN,hC,h0,h1⟩:=hx;simp only at hN hC h0 h1⊢;refine Holds.go (c:=kYj) Tryz.func65 rfl Tryz.results65 Tryz.ntmps65 (by omega) (by simp) rfl ?_
 intro X0 w0;by_cases he:N=kAx k0 N.length
 ·by_cases hf:C=kBf (k0+3*N.length) C.length
  ·(repeat' (first|apply zS|apply zB|(apply zW;simp only[go_sem,if_pos he,if_pos hf])|apply And.intro|intro _))
   all_goals first|omega|skip
   all_goals rw[if_pos ⟨he,hf⟩]
  ·(repeat' (first|apply zS|apply zB|(apply zW;simp only[go_sem,if_pos he,if_neg hf])|apply And.intro|intro _))
   all_goals first|omega|skip
   all_goals rw[if_neg fun h=>hf h.2]
 ·(repeat' (first|apply zS|apply zB|(apply zW;simp only[go_sem,if_neg he])|apply And.intro|intro _))
  all_goals first|omega|skip
  all_goals rw[if_neg fun h=>he h.1]
end
def eRp (k:Int) (x:Rep):Int:=k+3*x.N.length+x.C.length
def mkRp (k:Int) (x:Rep):Rep:=⟨kAx k x.N.length,kBf (k+3*x.N.length) x.C.length,x.kept,x.skip⟩
def shRp (x:Rep):Prop:=x.N.length≤4398046511104∧x.C.length≤4398046511104
def rpI (args:List SV):Int×Int:=match(args[0]?:Option SV)with
 |some (.agg [_,_,.v (.int _ k),.v (.int _ s)])=>(k,s)
 | _=>(0,0)
def kX7:Ctr:=len [0] [] (fun args obs=>(((⟨kEs (oR obs 1000000),decI (oR obs 1000001),(rpI args).1,(rpI args).2⟩:Rep)),aI args 1)) (fun x=>[.agg [.own 1000000,.own 1000001,.v (.int .i64 x.1.kept),.v (.int .i64 x.1.skip)],.v (.int .i64 x.2)])
 (fun x=>[(1000000,.sl 231 3 (x.1.N.map kAb)),(1000001,.sl 3 1 (x.1.C.map encI))]) (fun x=>shRp x.1∧0≤x.2∧x.2≤75000000000000)
 (fun _ x=>.v (.int .i64 (eRp x.2 x.1))) (fun _ _=>[]) (fun x=>[(1000000,.sl 231 3 ((mkRp x.2 x.1).N.map kAb)),(1000001,.sl 3 1 ((mkRp x.2 x.1).C.map encI))])
section
attribute [local go_sem] eRp mkRp rpI
noncomputable def k4f:=mkX [(62,kQd)] (COk.cons qIq (COk.nil _))
theorem qIs:k4f.tys=tys:=rfl
theorem qIt:k4f.C=[(62,kQd)]:=rfl
attribute [local go_sem] qIs qIt kQd
theorem qL5:Cn Tryz.prog 18 kX7:=by
 refine Cn.len Tryz.func18 (by kernel_rfl) rfl fun d x hd hx=>?_
 obtain⟨⟨N,C,kp,sk⟩,k0⟩:=x;obtain⟨⟨hN,hC⟩,h0,h1⟩:=hx;simp only at hN hC h0 h1⊢;refine kBj.go (c:=k4f) Tryz.func18 rfl Tryz.results18 Tryz.ntmps18 (by omega) (by simp) rfl (by simp<;>omega) (by simp[SV.kAv,SV.owns,SV.kAn]) (by simp) rfl rfl (by simp) ?_
 intro X0 M w0
 (repeat' (first|apply zS|apply zB|(apply zW;simp only[go_sem])|apply And.intro|intro _))
 all_goals first|omega|skip
end
def kX9:Ctr:=pur (fun args=>(repA args 0,aI args 1)) (fun x=>[.agg [.sl 3 (x.1.N.map kAb),.sl 1 (x.1.C.map encI),.v (.int .i64 x.1.kept),.v (.int .i64 x.1.skip)],.v (.int .i64 x.2)]) (fun x=>shRp x.1∧(0≤x.2∧x.2≤75000000000000)∧mkRp x.2 x.1=x.1)
 (fun _ x=>.v (.int .i64 (eRp x.2 x.1))) (fun _ _=>[])
section
attribute [local go_sem] eRp
noncomputable def k4g:=mkX [(65,kQe)] (COk.cons qIr (COk.nil _))
theorem qIu:k4g.tys=tys:=rfl
theorem qIv:k4g.C=[(65,kQe)]:=rfl
attribute [local go_sem] qIu qIv kQe
theorem qL7:Cn Tryz.prog 20 kX9:=by
 refine Cn.pur Tryz.func20 (by kernel_rfl) rfl fun d x hx=>?_
 obtain⟨⟨N,C,kp,sk⟩,k0⟩:=x;obtain⟨⟨hN,hC⟩,⟨h0,h1⟩,hm⟩:=hx;simp only at hN hC h0 h1⊢;have e1:kAx k0 N.length=N:=(Rep.mk.inj hm).1;have e2:kBf (k0+3*(N.length:Int)) C.length=C:=(Rep.mk.inj hm).2.1;refine Holds.go (c:=k4g) Tryz.func20 rfl Tryz.results20 Tryz.ntmps20 (by omega) (by simp) rfl ?_
 intro X0 w0
 (repeat' (first|apply zS|apply zB|(apply zW;simp only[go_sem,if_pos (And.intro e1.symm e2.symm)])|apply And.intro|intro _))
 all_goals first|omega|skip
end
theorem qE6 (k:Int) (x:Rep):mkRp k (mkRp k x)=mkRp k x:=by simp[mkRp,kCt,kBr]
theorem eRp_mk (k:Int) (x:Rep):eRp k (mkRp k x)=eRp k x:=by simp[eRp,mkRp,kCt,kBr]
theorem qL9 {x:Rep}(h:shRp x) (k:Int):shRp (mkRp k x):=⟨by simpa[mkRp,kCt]using h.1,by simpa[mkRp,kBr]using h.2⟩
end Go.Proofs.YtjdklcjoeanimaaGreat

namespace Go.Proofs.YtjdklcjoeanimaaGreat
open Go.Vc
attribute [local irreducible] Go.Vc.WP
attribute [local go_sem] kAd kAe
open Go.Pl
attribute [local go_sem] kAf kAg spA kBe kBc kBq kCn pcA rgA seA kAj tmA kFa
theorem kLc {n:Nat}{l:Int}(h:0≤szA n l):(n:Int)≤l:=by
 unfold szA at h;split at h<;>omega
theorem qGr {x:Image}{l:Int}(h0:0≤l) (h1:l≤1048576) (h:0≤kJ0 x l):x.code.size≤1048576∧x.symbols.length≤1048576∧∀y∈x.symbols,y.name.size≤1048576:=by
 obtain⟨a,b,c⟩:=kIh (kEu _) h0 h;have e:=kLc a;obtain⟨f,g⟩:=kQt c;exact⟨by omega,by omega,fun y hy=>by have:=g y hy;omega⟩
theorem k2g {L:List Image}{l:Int}(h1:l≤1048576) (h:0≤kEk L l):L.length≤1048576∧∀x∈L,x.code.size≤1048576∧x.symbols.length≤1048576∧∀y∈x.symbols,y.name.size≤1048576:=by
 obtain⟨a,b⟩:=kNk (by simp only[List.mem_map];rintro _ ⟨x,_,rfl⟩;exact kU0 x) h
 rw[List.length_map]at a;refine⟨by omega,fun x hx=>?_⟩
 obtain⟨r,r0,r1,r2⟩:=b _ (List.mem_map.2 ⟨x,hx,rfl⟩);exact qGr r0 (by omega) r2
theorem k51 {L:List Mach}{l:Int}(h1:l≤1048576) (h:0≤kKv L l):L.length≤1048576∧∀x∈L,x.stack.length≤1048576∧x.out.length≤1048576:=by
 obtain⟨a,b⟩:=kNk (by simp only[List.mem_map];rintro _ ⟨x,_,rfl⟩;exact kR4 x) h
 rw[List.length_map]at a;refine⟨by omega,fun x hx=>?_⟩
 obtain⟨r,r0,r1,r2⟩:=b _ (List.mem_map.2 ⟨x,hx,rfl⟩);obtain⟨c,d,e⟩:=kIh (kEu _) r0 r2;have:=kLc c;have:=kLc e;omega
theorem qEr {L:List ByteArray}{l:Int}(h1:l≤1048576) (h:0≤kOt L l):L.length≤1048576∧∀x∈L,x.size≤1048576:=by
 obtain⟨a,b⟩:=kNk (by simp only[List.mem_map];rintro _ ⟨x,_,rfl⟩;exact kEu x.size) h
 rw[List.length_map]at a;refine⟨by omega,fun x hx=>?_⟩
 obtain⟨r,r0,r1,r2⟩:=b _ (List.mem_map.2 ⟨x,hx,rfl⟩);have:=kLc r2;omega
theorem kW3:∀(L:List Nat) (m:Nat),(∀n∈L,n≤m)→L.sum≤L.length*m
 | [],m,_=>by simp
 |n::L,m,h=>by
  have h1:=h n List.mem_cons_self;have h2:=kW3 L m fun k hk=>h k (List.mem_cons_of_mem _ hk)
  rw[List.sum_cons,List.length_cons,Nat.add_mul];omega
theorem qHj {R:List ByteArray}(h:R.length≤1048576) (hs:∀x∈R,x.size≤1048576):sizS R R.length≤1099511627776:=by
 unfold sizS;rw[List.take_length];have:=kW3 (R.map (·.size)) 1048576 (by simp only[List.mem_map];rintro _ ⟨x,hx,rfl⟩;exact hs x hx)
 rw[List.length_map]at this;exact Nat.le_trans this (Nat.le_trans (Nat.mul_le_mul_right _ h) (by decide))
section
attribute [local go_sem] aggSe
attribute [local irreducible] bigSe kPy shSe
attribute [local go_sem] k0g kqSe kP5
set_option maxHeartbeats 4000000 in
end
end Go.Proofs.YtjdklcjoeanimaaGreat

namespace Go.Proofs.YtjdklcjoeanimaaGreat
open Go.Vc
theorem qEq {d:Debug}{l:Int}(h0:0≤l) (h1:l≤1048576) (h:0≤kJq d l):d.syms.length≤1048576∧d.rules.length≤1048576∧d.rows.length≤1048576∧d.inls.length≤1048576∧∀y∈d.inls,y.name.size≤1048576:=by
 obtain⟨a1,a2,a3⟩:=kIh (kIi _) h0 h;obtain⟨b1,b2,b3⟩:=kIh (kEu _) a1 a3;obtain⟨c1,c2,c3⟩:=kIh (kEu _) b1 b3;obtain⟨d1,d2⟩:=kZ5 c3;have e1:=(kQt a1).1;have e2:=kLc b1;have e3:=kLc c1;exact⟨by omega,by omega,by omega,by omega,fun y hy=>by have:=d2 y hy;omega⟩
theorem k2f {x:SpX}{l:Int}(h0:0≤l) (h1:l≤1048576) (h:0≤kIo x l):kDx x∧shSp x:=by
 obtain⟨I,B,E⟩:=x;obtain⟨hI,hIl,hBE⟩:=kIh (kNz _) h0 h;obtain⟨hB,hBl,hE⟩:=kIh (kEu _) hI hBE;obtain⟨i1,i2⟩:=k2g h1 hI;have b1:=kLc hB;have e1:=kLc hE;simp only at i1 i2 b1 e1 hIl hBl;refine⟨⟨⟨?_,fun i hi=>⟨?_,?_,fun y hy=>?_⟩⟩,?_,?_⟩,⟨⟨?_,fun i hi=>?_⟩,?_,?_⟩⟩
 all_goals try simp only
 ·omega
 ·have:=(i2 i hi).1;omega
 ·have:=(i2 i hi).2.1;omega
 ·have:=(i2 i hi).2.2 y hy;omega
 ·omega
 ·omega
 ·omega
 ·have:=(i2 i hi).2.1;omega
 ·omega
 ·omega
theorem k2h {x:AgX}(h:0≤kIp x 1048576):(kFj x∧kPv x∧shAg x)∧1≤eAg 1 x∧eAg 1 x≤35000000000000:=by
 obtain⟨hS,hSl,hD⟩:=kIh (kL7 _) (by omega) h
 obtain⟨p1,p2⟩:=k2f (by omega) (Int.le_refl _) hS
 obtain⟨d1,d2⟩:=kNk (by simp only[List.mem_map];rintro _ ⟨x,_,rfl⟩;exact kUl x) hD
 rw[List.length_map]at d1
 have d3:∀d∈x.2,d.syms.length≤1048576∧d.rules.length≤1048576∧d.rows.length≤1048576∧d.inls.length≤1048576∧∀y∈d.inls,y.name.size≤1048576:=fun d hd=>by
  obtain⟨q,q0,q1,q2⟩:=d2 _ (List.mem_map.2 ⟨d,hd,rfl⟩);exact qEq q0 (by omega) q2
 have hsh:shAg x:=⟨p2,by omega,fun d hd=>by obtain⟨a,b,c,e,_⟩:=d3 d hd;exact⟨by omega,by omega,by omega,by omega⟩⟩
 refine⟨⟨⟨p1,fun d hd=>?_⟩,fun d hd=>(d3 d hd).2.2.2.1,hsh⟩,(eAg_le hsh).1,?_⟩
 ·obtain⟨a,b,c,e,f⟩:=d3 d hd;exact⟨by omega,by omega,by omega,by omega,fun y hy=>by have:=f y hy;omega⟩
 ·have h1:=(kOk p2 1).2;have h2:cntA kCr x.2≤15728641*1048576:=Nat.le_trans (kSo x.2 15728641 fun d hd=>by obtain⟨a,b,c,e,_⟩:=d3 d hd;unfold kCr;omega) (by rw[Nat.mul_comm];exact Nat.mul_le_mul_left _ (by omega))
  unfold eAg;omega
theorem kY8 {x:SeX}{z:Int}(h0:0≤z) (h1:z≤1048576) (h:0≤kLu x z):kPy x∧shSe x:=by
 obtain⟨⟨⟨I,B,E⟩,T,tu,le,sl⟩,⟨p,q,l,st⟩,⟨cp,R,wr,lo⟩,mo,sp,fi⟩:=x;obtain⟨hP,hPl,hR⟩:=kIh (kXs _) h0 h;obtain⟨hS,hSl,hT⟩:=kIh (kL7 _) h0 hP;obtain⟨s1,s2⟩:=k2f h0 h1 hS;obtain⟨t1,t2⟩:=k51 (by omega) hT
 obtain⟨r1,r2⟩:=qEr (by omega) hR
 simp only at t1 t2 r1 r2;refine⟨⟨⟨s1,?_,fun m hm=>?_⟩,?_,qHj r1 r2⟩,⟨s2,t1,fun m hm=>⟨?_,?_⟩⟩,?_⟩
 all_goals try simp only
 ·omega
 ·have:=(t2 m hm).1;omega
 ·omega
 ·have:=(t2 m hm).1;omega
 ·have:=(t2 m hm).2;omega
 ·omega
theorem qKu {a:AgX}{s:SeX}{r:Rep}{st:Bool}(h1:0≤kIp a 1048576) (h2:0≤kLu s (kIp a 1048576)) (h3:0≤kIq (r.N,r.C) (kLu s (kIp a 1048576))):ColP (a,s,r,st):=by
 have f1:=(k6w a 1048576 (by omega)).2
 have f2:=(k6x s _ h1).2;obtain⟨⟨a1,a2,_⟩,_⟩:=k2h h1;obtain⟨s1,s2⟩:=kY8 h1 f1 h2;obtain⟨⟨r1,r2⟩,r3⟩:=k2i (x:=(r.N,r.C)) (l:=kLu s (kIp a 1048576)) (by omega) (by omega)
 simp only at r1 r2 r3;exact⟨a1,a2,s1,⟨s2.1,s1.2⟩,⟨⟨by simp only;omega,fun n hn=>by have:=r2 n hn;omega⟩,by simp only;omega⟩,by simp only;omega,by simp only;omega,fun hok=>by have h5:=kLb hok;obtain⟨P,t,⟨cp,R,wr,lo⟩,m⟩:=s;simp only at h5⊢;have:=(kK3 h5).1;omega⟩
theorem k8t {a:AgX}{s:SeX}{r:Rep}{st:Bool}(h:ColP (a,s,r,st)) (hs:shSe s) (hN:r.N.length≤1048576) (hC:r.C.length≤1048576):shSe (collect a s r st).1∧shRp (collect a s r st).2:=by
 by_cases hall:kBn a=true∧kE7 s=true∧kIb r=true
 ·rw[kNy hall];have hr:=kLb hall.2.1;obtain⟨P,t,⟨cp,R,wr,lo⟩,m⟩:=s;simp only at hr⊢;have h1:=(kK3 hr).1;have h2:RepI r.N.length (0+R.length) (kK2 a st r R):=(RepI.start hall.2.2).go h.ag h.inl;have h3:=h2.len;have h4:=h2.clen;exact⟨⟨hs.1,by simp[colS]⟩,by omega,by omega⟩
 ·rw[kPx hall];exact⟨hs,by simp only;omega,by simp only;omega⟩
theorem k6y {x:SeX}(h:shSe x) (k:Int):k≤eSe k x∧eSe k x≤k+35184378380288:=by
 have:=k2j h.1 k;have:=h.2;unfold eSe eRg;omega
theorem qEs {x:Rep}(h:shRp x) (k:Int):k≤eRp k x:=by unfold eRp;omega
end Go.Proofs.YtjdklcjoeanimaaGreat

namespace Go.Proofs.YtjdklcjoeanimaaGreat
open Go.Vc
attribute [local irreducible] Go.Vc.WP
attribute [local go_sem] kAd kAe
attribute [local go_sem] kAf kAg spA kBe kBc kBq kCn pcA rgA seA kAj tmA kFa
attribute [local go_sem] aggSe aggPc aggTm aggRg kNo obS2
def kWu:Ctr:=pur (fun args=>rgA args 0) (fun x=>[.agg (aggRg x)]) (fun x=>x.2.1.length≤2097152) (fun d x=>.agg [.v (.int .i64 x.1),.own d,.v (.int .i64 x.2.2.1),.v (.int .i64 x.2.2.2)]) (fun d x=>[(d,.sl 9 1 (x.2.1.map encS))])
section
noncomputable def k4u:=mkX [(98,kWi)] (COk.cons ctoSo (COk.nil _))
theorem qJq:k4u.tys=tys:=rfl
theorem qJr:k4u.C=[(98,kWi)]:=rfl
attribute [local go_sem] qJq qJr kWi
theorem ctoRgD:Cn Tryz.prog 41 kWu:=by
 refine Cn.pur Tryz.func41 (by kernel_rfl) rfl fun d x hx=>?_
 obtain⟨cp,R,wr,lo⟩:=x;simp only at hx⊢;refine Holds.go (c:=k4u) Tryz.func41 rfl Tryz.results41 Tryz.ntmps41 (by omega) (by simp) rfl ?_
 intro X0 w0
 (repeat' (first|apply zS|apply zB|(apply zW;simp only[go_sem])|apply And.intro|intro _))
 all_goals first|omega|exact⟨_,_,_,_,rfl⟩|exact⟨_,_,rfl,_,_,rfl,rfl⟩|skip
end
def k3b:Ctr:=pur (fun args=>seA args 0) (fun x=>[.agg (aggSe x)]) shSe (fun d x=>.agg (kNo d x)) (fun d x=>obS2 d x)
section
attribute [local irreducible] kB5 shPc
noncomputable def k4v:=mkX [(39,kG2),(40,kWv),(41,kWu)] (COk.cons ctoPcD (COk.cons ctoTm (COk.cons ctoRgD (COk.nil _))))
theorem qJs:k4v.tys=tys:=rfl
theorem qJt:k4v.C=[(39,kG2),(40,kWv),(41,kWu)]:=rfl
attribute [local go_sem] qJs qJt kG2 kWv kWu
set_option maxHeartbeats 3000000 in
theorem ctoSeD:Cn Tryz.prog 10 k3b:=by
 refine Cn.pur Tryz.func10 (by kernel_rfl) rfl fun d x hx=>?_
 obtain⟨⟨⟨I,B,E⟩,T,tu,le,sl⟩,⟨p,q,l,st⟩,⟨cp,R,wr,lo⟩,mo,sp,fi⟩:=x;obtain⟨hP,hR⟩:=hx;simp only at hP hR⊢;refine Holds.go (c:=k4v) Tryz.func10 rfl Tryz.results10 Tryz.ntmps10 (by omega) (by simp) rfl ?_
 intro X0 w0
 (repeat' (first|apply zS|apply zB|(apply zW;simp only[go_sem])|apply And.intro|intro _))
 all_goals first|omega|exact hP|exact⟨_,_,rfl,_,_,rfl,rfl⟩|exact if_neg (by omega)|(rw[if_neg (by omega),if_neg (by omega)];done)|(rw[if_neg (by omega),if_neg (by omega),if_neg (by omega)];done)|(rw[if_neg (by omega),if_neg (by omega),if_neg (by omega),if_neg (by omega)];done)|skip
end
end Go.Proofs.YtjdklcjoeanimaaGreat

