/- DERIVED. Steps of the proof. -/
import Derived.Test.YtjdklcjoeanimaaGreatVf23
import Derived.Test.YtjdklcjoeanimaaGreatVf24
set_option linter.all false
set_option maxHeartbeats 1000000
set_option maxRecDepth 10000
namespace Go.Proofs.YtjdklcjoeanimaaGreat
attribute [local irreducible] Go.Vc.WP
section
open Go.Vc Tryz
attribute [local go_sem] bxC
attribute [local go_sem] kL4 kEz kP7 kpC
def qC8:List (FuncId×Ctx):=[(275,kHm fun _=>True)]
attribute [local go_sem] qC8 kHm kIm kEq
attribute [local irreducible] kGt
section
def cxStS:=kc k94 (kc cFetS (kc k93 kn))
theorem kP2 {p:Prop}(h:p:=by first|omega|rfl|exact hloc|exact hpf|exact⟨h6,by omega⟩|exact⟨_,_,_,_,_,_,_,rfl⟩|exact⟨_,_,rfl,_,_,rfl,rfl⟩):p:=h
set_option maxHeartbeats 4000000 in
theorem cStepS:Cq 265 kStep:=by
 refine zp fun d x hx=>?_
 obtain⟨⟨I,B,E⟩,⟨pc,sp,fp,S,O,sta,val⟩⟩:=x;have hloc:=hx.loc pc;have hC2:POk Tryz.prog qC8:=POk.cons cPerfS (POk.nil _);obtain⟨h1,h2,h3,h4,h5,h6,h7,h8,h9,h10⟩:=hx;simp only at h1 h2 h3 h4 h5 h6 h7 h8 h9 h10 hloc⊢;refine zg cxStS func265 rfl rfl ntmps265 ?_;intros
 cases hf:kHy (I,B,E) pc with
 |none =>
  have e:stepS (I,B,E) ⟨pc,sp,fp,S,O,sta,val⟩=⟨pc,sp,fp,S,O,2,val⟩:=by unfold stepS;simp only[hf]
  rw[e]
  (repeat' (first|apply zS|apply zB|((first|refine WP.regionF (id:=8) [(0,[39,1039])] ?_);simp only[go_sem,hf,Int.reduceBEq,Int.reduceEq])|(apply zW;simp only[go_sem,hf,Int.reduceBEq,Int.reduceEq])|apply jAi|exact kP2|intro _))
 |some q =>
  obtain⟨⟨code,arg⟩,n⟩:=q;obtain⟨hop,hp0,hi,hp1⟩:=k2m h3 hf;have h4i:=h4 hi;simp only at hp1;have hsz:=hop.size;have e:stepS (I,B,E) ⟨pc,sp,fp,S,O,sta,val⟩=kNf ⟨pc,sp,fp,S,O,sta,val⟩ (kA6 E ⟨code,arg⟩ ⟨pc+n,sp,fp,S,O⟩):=by unfold stepS;simp only[hf,kWy]
  rw[e];generalize hr:kA6 E ⟨code,arg⟩ ⟨pc+n,sp,fp,S,O⟩=r;obtain⟨⟨rp,rs,rf,rS,rO⟩,rb⟩:=r;have hpf:PfOk ((I,B,E),(((⟨pc,sp,fp,S,O⟩:Cpu),false),sta,val),(⟨code,arg⟩:Op),n):=⟨h6,by show O.length≤8388608;omega,h7,by show 0≤pc∧pc≤16777216;omega,rfl,hop,h5⟩
  unfold kNf;simp only
  cases rb with
  |true =>
   simp only[if_true]
   (repeat' (first|apply zS|apply zB|((first|refine WP.kMn (id:=4) hC2 ?_|refine WP.regionF (id:=8) [(0,[39,1039])] ?_);simp only[go_sem,hf,hr,Int.reduceBEq,Int.reduceEq])|(apply zW;simp only[go_sem,hf,hr,Int.reduceBEq,Int.reduceEq])|apply jAi|exact kP2|intro _))
  |false =>
   simp only[jIv,if_false];have hk:=k2j (E:=E) (x:=⟨code,arg⟩) (c:=⟨pc+n,sp,fp,S,O⟩) ⟨h6,h7⟩;rw[hr]at hk;obtain⟨hl,hs0,hs1⟩:=hk rfl;simp only at hl hs0 hs1;by_cases hz:rp=0
   ·rw[if_pos hz];by_cases hw:0≤rs∧rs≤1199
    ·rw[if_pos hw];have e2:kA5 (⟨rp,rs,rf,rS,rO⟩,false) rs=(rS.getD rs.toNat 0,(⟨rp,rs,rf,rS,rO⟩,false)):=if_pos hw;subst hz
     (repeat' (first|apply zS|apply zB|((first|refine WP.kMn (id:=4) hC2 ?_|refine WP.regionF (id:=17) [(0,[800001,800002])] ?_);simp only[go_sem,hf,hr,e2,Int.reduceBEq,Int.reduceEq])|(apply zW;simp only[go_sem,hf,hr,e2,Int.reduceBEq,Int.reduceEq])|apply jAi|exact kP2|intro _))
    ·rw[if_neg hw];have e2:kA5 (⟨rp,rs,rf,rS,rO⟩,false) rs=(0,(⟨rp,rs,rf,rS,rO⟩,true)):=if_neg hw;subst hz
     (repeat' (first|apply zS|apply zB|((first|refine WP.kMn (id:=4) hC2 ?_|refine WP.regionF (id:=14) [(0,[60,1060])] ?_);simp only[go_sem,hf,hr,e2,Int.reduceBEq,Int.reduceEq])|(apply zW;simp only[go_sem,hf,hr,e2,Int.reduceBEq,Int.reduceEq])|apply jAi|exact kP2|intro _))
   ·rw[if_neg hz]
    (repeat' (first|apply zS|apply zB|((first|refine WP.kMn (id:=4) hC2 ?_|refine WP.regionF (id:=17) [(0,[800001,800002])] ?_);simp only[go_sem,hf,hr,hz,Int.reduceBEq,Int.reduceEq])|(apply zW;simp only[go_sem,hf,hr,hz,Int.reduceBEq,Int.reduceEq])|apply jAi|exact kP2|intro _))
end
end
section
open Go.Vc
def kXv:FP:=⟨6,[fa [6] [],fa [88] [0],fa [89] [0,1],fa [90] [0,1,2],fa [5] [],fa [92] [4],fn 6,fn 7,fn 8,fn 9],[88,89,90,91,92,93],[],[]⟩
def kXw:FP:=⟨6,[fa [6] [],fa [102] [0],fa [103] [0,1],fa [104] [0,1,2],fa [5] [],fa [106] [4],fn 6,fn 7,fn 8,fn 9],[102,103,104,105,106,107],[],[]⟩
def kXx:FP:=⟨9,[⟨[6],[],[218],[221,222],[],[]⟩,fc [6] [] [221,222],fc [215] [1] [221,222],fc [216] [1,2] [221,222],fc [217] [1,2,3] [221,222],fc [0] [] [221,222],fc [219] [5] [221,222],⟨[220],[5,6],[],[222],[],[221]⟩,⟨[218,221],[1,2,3,4,5,6,7],[],[],[218],[222]⟩,fn 9,fn 10,fn 11],[214,215,216,217,218,219,220,221,222],[221,222],[218]⟩
attribute [local go_sem] kXv kXw kXx
attribute [local go_sem] bxI
attribute [local go_sem] kL7 kEz kP8 kpD St.kJa St.kLe kFn kHw
section
attribute [local go_sem] kKf kKg kJ7
attribute [local go_sem] kJ2 kH9 kJ4 kJ3 kEy kHb kDk
set_option maxHeartbeats 8000000 in
theorem cQf6:Cy Tryz.prog 266 (kHo fun c=>c=14):=by
 refine Cy.yen Tryz.func266 (by kernel_rfl) rfl fun x hx=>?_
 obtain⟨⟨I,B,E⟩,⟨⟨⟨pc,sp,fp,S,O⟩,g⟩,q,v⟩,⟨code,a⟩⟩:=x;obtain⟨⟨h1,h2,h3,h4,h5,⟨n,h6,h7,h8,h9,h10⟩,h11,h12⟩,hp⟩:=hx;simp only at h1 h2 h3 h4 h5 h6 h7 h8 h9 h10 h11 h12 hp⊢;subst h5;have h13:In64 sp:=by unfold In64;omega
 have kXo:-9223372036854775808≤fp∧fp≤9223372036854775807:=h12;refine kFi.go (c:=kNy) Tryz.func266 rfl Tryz.results266 Tryz.ntmps266 zo zs ?_ ?_ ?_
 rotate_right
 intro X0 M w0
 ·refine zP [] [(900000,800001),(900001,800002)] rfl ?_;simp only[go_sem];subst hp;obtain⟨ha0,ha1⟩:=h9 zo
  have hfp:(kAf (⟨pc,sp,fp,S,O⟩,false)).2.1.fp=fp:=by
   unfold kAf;split<;>rfl
  have e:kBm E ⟨14,a⟩ ⟨pc,sp,fp,S,O⟩=kBy (kD6 (kBe (kAf (kEx (kAf (kGk (kAf (⟨pc,sp,fp,S,O⟩,false)).2 (kAf (⟨pc,sp,fp,S,O⟩,false)).2.1.fp)).2 (kAf (kGk (kAf (⟨pc,sp,fp,S,O⟩,false)).2 (kAf (⟨pc,sp,fp,S,O⟩,false)).2.1.fp)).1)).2 (kAf (kEx (kAf (kGk (kAf (⟨pc,sp,fp,S,O⟩,false)).2 (kAf (⟨pc,sp,fp,S,O⟩,false)).2.1.fp)).2 (kAf (kGk (kAf (⟨pc,sp,fp,S,O⟩,false)).2 (kAf (⟨pc,sp,fp,S,O⟩,false)).2.1.fp)).1)).1) a.toNat) (kAf (⟨pc,sp,fp,S,O⟩,false)).1:=rfl;rw[e];have hl1:(kAf (⟨pc,sp,fp,S,O⟩,false)).2.1.st.length=1200:=by rw[kHf];exact h1
  generalize hp1:kAf (⟨pc,sp,fp,S,O⟩,false)=r at hl1 hfp⊢;obtain⟨z,⟨rp,rs,rf,rS,rO⟩,rb⟩:=r;simp only[kGk]at hl1 hfp⊢;subst hfp;have hl2:(kAf (⟨rp,rf,rf,rS,rO⟩,rb)).2.1.st.length=1200:=by rw[kHf];exact hl1
  have hs2:In64 (kAf (⟨rp,rf,rf,rS,rO⟩,rb)).2.1.sp:=kPc (s:=(⟨rp,rf,rf,rS,rO⟩,rb)) h12;generalize hp2:kAf (⟨rp,rf,rf,rS,rO⟩,rb)=t at hl2 hs2⊢;obtain⟨y,⟨tp,ts,tf,tS,tO⟩,tb⟩:=t;simp only[kEx]at hl2 hs2⊢;have hl3:(kAf (⟨tp,ts,y,tS,tO⟩,tb)).2.1.st.length=1200:=by rw[kHf];exact hl2
  have hs3:In64 (kAf (⟨tp,ts,y,tS,tO⟩,tb)).2.1.sp:=kPc (s:=(⟨tp,ts,y,tS,tO⟩,tb)) hs2;generalize hp3:kAf (⟨tp,ts,y,tS,tO⟩,tb)=u at hl3 hs3⊢;obtain⟨x,⟨up,us,uf,uS,uO⟩,ub⟩:=u;simp only[kBe]at hl3 hs3⊢;have hl4:(kD6 (⟨x,us,uf,uS,uO⟩,ub) a.toNat).1.st.length=1200:=by rw[kPb];exact hl3
  have hs4:In64 (kD6 (⟨x,us,uf,uS,uO⟩,ub) a.toNat).1.sp:=kVn (s:=(⟨x,us,uf,uS,uO⟩,ub)) hs3 _;generalize hp4:kD6 (⟨x,us,uf,uS,uO⟩,ub) a.toNat=w at hl4 hs4⊢;obtain⟨⟨wp,ws,wf,wS,wO⟩,wb⟩:=w;simp only at hl4 hs4⊢
  (repeat' (first|apply zS|apply zB|((first|apply zW| refine zf kXv ?_|refine zf kXw ?_|refine zf kXx ?_|refine zd 9 ?_);simp only[go_sem,hp1,hp2,hp3,hp4,Int.reduceBEq,Int.reduceEq])|apply jAi|omega|rfl|exact h1|exact hl1|exact hl2|exact hl3|exact hl4|exact⟨hl3,zo⟩|exact hs4.1|exact hs4.2|exact⟨hl4,hs4⟩|intro _))
 ·rfl
 ·intro h;cases h
end
end
section
open Go.Vc
def kXs:FP:=⟨6,[fa [6] [],fa [88] [0],fa [89] [0,1],fa [90] [0,1,2],fa [5] [],fa [92] [4],fn 6,fn 7,fn 8,fn 9],[88,89,90,91,92,93],[],[]⟩
def kXt:FP:=⟨6,[fa [6] [],fa [102] [0],fa [103] [0,1],fa [104] [0,1,2],fa [5] [],fa [106] [4],fn 6,fn 7,fn 8,fn 9],[102,103,104,105,106,107],[],[]⟩
def kXu:FP:=⟨9,[⟨[6],[],[218],[221,222],[],[]⟩,fc [6] [] [221,222],fc [215] [1] [221,222],fc [216] [1,2] [221,222],fc [217] [1,2,3] [221,222],fc [0] [] [221,222],fc [219] [5] [221,222],⟨[220],[5,6],[],[222],[],[221]⟩,⟨[218,221],[1,2,3,4,5,6,7],[],[],[218],[222]⟩,fn 9,fn 10,fn 11],[214,215,216,217,218,219,220,221,222],[221,222],[218]⟩
attribute [local go_sem] kXs kXt kXu
attribute [local go_sem] bxI
attribute [local go_sem] kL7 kEz kP8 kpD St.kJa St.kLe kFn kHw
section
attribute [local go_sem] kKf kKg kJ7
attribute [local go_sem] kJ2 kH9 kJ4 kJ3 kEy kHb kDk
set_option maxHeartbeats 8000000 in
theorem cQf5:Cy Tryz.prog 266 (kHo fun c=>c=16):=by
 refine Cy.yen Tryz.func266 (by kernel_rfl) rfl fun x hx=>?_
 obtain⟨⟨I,B,E⟩,⟨⟨⟨pc,sp,fp,S,O⟩,g⟩,q,v⟩,⟨code,a⟩⟩:=x;obtain⟨⟨h1,h2,h3,h4,h5,⟨n,h6,h7,h8,h9,h10⟩,h11,h12⟩,hp⟩:=hx;simp only at h1 h2 h3 h4 h5 h6 h7 h8 h9 h10 h11 h12 hp⊢;subst h5;have h13:In64 sp:=by unfold In64;omega
 have kXo:-9223372036854775808≤fp∧fp≤9223372036854775807:=h12;refine kFi.go (c:=kNy) Tryz.func266 rfl Tryz.results266 Tryz.ntmps266 zo zs ?_ ?_ ?_
 rotate_right
 intro X0 M w0
 ·refine zP [] [(900000,800001),(900001,800002)] rfl ?_;simp only[go_sem];subst hp;obtain⟨ha0,ha1⟩:=h9 zo;obtain⟨k,rfl⟩:=zN a;have t1:(k:Int).tdiv 16=((k / 16:Nat):Int):=rfl;have t2:(k:Int).tmod 16=((k%16:Nat):Int):=rfl;have e:kBm E ⟨16,k⟩ ⟨pc,sp,fp,S,O⟩=kBy (kD6 (kBe (kAf (kD6 (kAf (⟨pc,sp,fp,S,O⟩,false)).2 (k / 16))).2 (kAf (kD6 (kAf (⟨pc,sp,fp,S,O⟩,false)).2 (k / 16))).1) (k%16)) (kAf (⟨pc,sp,fp,S,O⟩,false)).1:=rfl;rw[e];have hl1:(kAf (⟨pc,sp,fp,S,O⟩,false)).2.1.st.length=1200:=by rw[kHf];exact h1
  have hs1:In64 (kAf (⟨pc,sp,fp,S,O⟩,false)).2.1.sp:=kPc (s:=(⟨pc,sp,fp,S,O⟩,false)) h13;generalize hp1:kAf (⟨pc,sp,fp,S,O⟩,false)=r at hl1 hs1⊢;obtain⟨z,⟨rp,rs,rf,rS,rO⟩,rb⟩:=r;simp only at hl1 hs1⊢;have hl2:(kD6 (⟨rp,rs,rf,rS,rO⟩,rb) (k / 16)).1.st.length=1200:=by rw[kPb];exact hl1
  have hs2:In64 (kD6 (⟨rp,rs,rf,rS,rO⟩,rb) (k / 16)).1.sp:=kVn (s:=(⟨rp,rs,rf,rS,rO⟩,rb)) hs1 _;generalize hp2:kD6 (⟨rp,rs,rf,rS,rO⟩,rb) (k / 16)=t at hl2 hs2⊢;obtain⟨⟨tp,ts,tf,tS,tO⟩,tb⟩:=t;simp only at hl2 hs2⊢;have hl3:(kAf (⟨tp,ts,tf,tS,tO⟩,tb)).2.1.st.length=1200:=by rw[kHf];exact hl2
  have hs3:In64 (kAf (⟨tp,ts,tf,tS,tO⟩,tb)).2.1.sp:=kPc (s:=(⟨tp,ts,tf,tS,tO⟩,tb)) hs2;generalize hp3:kAf (⟨tp,ts,tf,tS,tO⟩,tb)=u at hl3 hs3⊢;obtain⟨y,⟨up,us,uf,uS,uO⟩,ub⟩:=u;simp only[kBe]at hl3 hs3⊢;have hl4:(kD6 (⟨y,us,uf,uS,uO⟩,ub) (k%16)).1.st.length=1200:=by rw[kPb];exact hl3
  have hs4:In64 (kD6 (⟨y,us,uf,uS,uO⟩,ub) (k%16)).1.sp:=kVn (s:=(⟨y,us,uf,uS,uO⟩,ub)) hs3 _;generalize hp4:kD6 (⟨y,us,uf,uS,uO⟩,ub) (k%16)=w at hl4 hs4⊢;obtain⟨⟨wp,ws,wf,wS,wO⟩,wb⟩:=w;simp only at hl4 hs4⊢;have q1:((k / 16:Nat):Int).toNat=k / 16:=jB2 _;have q2:((k%16:Nat):Int).toNat=k%16:=jB2 _
  (repeat' (first|apply zS|apply zB|((first|apply zW| refine zf kXs ?_|refine zf kXt ?_|refine zf kXu ?_|refine zd 9 ?_);simp only[go_sem,t1,t2,q1,q2,hp1,hp2,hp3,hp4,Int.reduceBEq,Int.reduceEq])|apply jAi|omega|rfl|exact h1|exact hl1|exact hl2|exact hl3|exact hl4|exact⟨hl1,zo⟩|exact⟨hl3,zo⟩|exact hs4.1|exact hs4.2|exact⟨hl4,hs4⟩|intro _))
 ·rfl
 ·intro h;cases h
end
end
section
open Go.Vc
def kX1:FP:=⟨6,[fa [6] [],fa [88] [0],fa [89] [0,1],fa [90] [0,1,2],fa [5] [],fa [92] [4],fn 6,fn 7,fn 8,fn 9],[88,89,90,91,92,93],[],[]⟩
def kX2:FP:=⟨6,[fa [6] [],fa [102] [0],fa [103] [0,1],fa [104] [0,1,2],fa [5] [],fa [106] [4],fn 6,fn 7,fn 8,fn 9],[102,103,104,105,106,107],[],[]⟩
def kX3:FP:=⟨9,[⟨[6],[],[218],[221,222],[],[]⟩,fc [6] [] [221,222],fc [215] [1] [221,222],fc [216] [1,2] [221,222],fc [217] [1,2,3] [221,222],fc [0] [] [221,222],fc [219] [5] [221,222],⟨[220],[5,6],[],[222],[],[221]⟩,⟨[218,221],[1,2,3,4,5,6,7],[],[],[218],[222]⟩,fn 9,fn 10,fn 11],[214,215,216,217,218,219,220,221,222],[221,222],[218]⟩
attribute [local go_sem] kX1 kX2 kX3
attribute [local go_sem] bxI
attribute [local go_sem] kL7 kEz kP8 kpD St.kJa St.kLe kFn kHw
section
attribute [local go_sem] kKf kKg kJ7
attribute [local go_sem] kJ2 kH9 kJ4 kJ3 kEy kHb kDk
set_option maxHeartbeats 8000000 in
theorem cQf9:Cy Tryz.prog 266 (kHo fun c=>c=17):=by
 refine Cy.yen Tryz.func266 (by kernel_rfl) rfl fun x hx=>?_
 obtain⟨⟨I,B,E⟩,⟨⟨⟨pc,sp,fp,S,O⟩,g⟩,q,v⟩,⟨code,a⟩⟩:=x;obtain⟨⟨h1,h2,h3,h4,h5,⟨n,h6,h7,h8,h9,h10⟩,h11,h12⟩,hp⟩:=hx;simp only at h1 h2 h3 h4 h5 h6 h7 h8 h9 h10 h11 h12 hp⊢;subst h5;have h13:In64 sp:=by unfold In64;omega
 have kXo:-9223372036854775808≤fp∧fp≤9223372036854775807:=h12;refine kFi.go (c:=kNy) Tryz.func266 rfl Tryz.results266 Tryz.ntmps266 zo zs ?_ ?_ ?_
 rotate_right
 intro X0 M w0
 ·refine zP [] [(900000,800001),(900001,800002)] rfl ?_;simp only[go_sem];subst hp;have e:kBm E ⟨17,a⟩ ⟨pc,sp,fp,S,O⟩=kF8 (kAf (⟨pc,sp,fp,S,O⟩,false)).2 (kAf (⟨pc,sp,fp,S,O⟩,false)).1:=rfl;rw[e];have hl1:(kAf (⟨pc,sp,fp,S,O⟩,false)).2.1.st.length=1200:=by rw[kHf];exact h1
  have hl2:(kAf (⟨pc,sp,fp,S,O⟩,false)).2.1.out=O:=by unfold kAf;split<;>rfl
  generalize hp1:kAf (⟨pc,sp,fp,S,O⟩,false)=r at hl1 hl2⊢;obtain⟨z,⟨rp,rs,rf,rS,rO⟩,rb⟩:=r;simp only[kF8]at hl1 hl2⊢;subst hl2
  (repeat' (first|apply zS|apply zB|((first|refine WP.stages (id:=51) (.fork ⟨[],[0,1,2,3,4,5],[(0,6),(1,6),(2,6),(3,6)],6⟩ 4 (.call ⟨[0,1,2,3],[],[(0,6),(1,6),(2,6),(3,6)],7⟩ (.call ⟨[0,1,2,3],[],[(0,6)],8⟩ (.call ⟨[0],[9,10],[],11⟩ (.last ⟨[],[],[],0⟩)))) (.fork ⟨[0,1,2,3],[4],[(0,6),(1,6),(2,6),(3,6)],7⟩ 4 (.call ⟨[0,1,2,3],[],[(0,6)],8⟩ (.call ⟨[0],[9,10],[],11⟩ (.last ⟨[],[],[],0⟩))) (.call ⟨[0,1,2,3],[4],[(0,6)],8⟩ (.call ⟨[0],[9,10],[],11⟩ (.last ⟨[],[],[],0⟩))))) (by decide +kernel) (by decide +kernel) (by kernel_rfl) ?_);simp only[go_sem,hp1,kF8,Int.reduceBEq,Int.reduceEq])|((first|apply zW| refine zf kX1 ?_|refine zf kX2 ?_|refine zf kX3 ?_|refine zd 9 ?_);simp only[go_sem,hp1,kF8,Int.reduceBEq,Int.reduceEq])|apply jAi|omega|rfl|exact h1|exact hl1|(rw[jNq];rfl)|intro _))
 ·rfl
 ·intro h;cases h
end
end
section
open Go.Vc
def kNz:FP:=⟨6,[fa [6] [],fa [88] [0],fa [89] [0,1],fa [90] [0,1,2],fa [5] [],fa [92] [4],fn 6,fn 7,fn 8,fn 9],[88,89,90,91,92,93],[],[]⟩
def kN0:FP:=⟨6,[fa [6] [],fa [102] [0],fa [103] [0,1],fa [104] [0,1,2],fa [5] [],fa [106] [4],fn 6,fn 7,fn 8,fn 9],[102,103,104,105,106,107],[],[]⟩
def kN1:FP:=⟨9,[⟨[6],[],[218],[221,222],[],[]⟩,fc [6] [] [221,222],fc [215] [1] [221,222],fc [216] [1,2] [221,222],fc [217] [1,2,3] [221,222],fc [0] [] [221,222],fc [219] [5] [221,222],⟨[220],[5,6],[],[222],[],[221]⟩,⟨[218,221],[1,2,3,4,5,6,7],[],[],[218],[222]⟩,fn 9,fn 10,fn 11],[214,215,216,217,218,219,220,221,222],[221,222],[218]⟩
attribute [local go_sem] kNz kN0 kN1
attribute [local go_sem] bxI
attribute [local go_sem] kL7 kEz kP8 kpD St.kJa St.kLe kFn kHw
section
attribute [local go_sem] kKf kKg kJ7
attribute [local go_sem] kJ2 kH9 kJ4 kJ3 kEy kHb kDk
set_option maxHeartbeats 8000000 in
theorem cQf1:Cy Tryz.prog 266 (kHo fun c=>c=0∨c=1∨c=3):=by
 refine Cy.yen Tryz.func266 (by kernel_rfl) rfl fun x hx=>?_
 obtain⟨⟨I,B,E⟩,⟨⟨⟨pc,sp,fp,S,O⟩,g⟩,q,v⟩,⟨code,a⟩⟩:=x;obtain⟨⟨h1,h2,h3,h4,h5,⟨n,h6,h7,h8,h9,h10⟩,h11,h12⟩,hp⟩:=hx;simp only at h1 h2 h3 h4 h5 h6 h7 h8 h9 h10 h11 h12 hp⊢;subst h5;have h13:In64 sp:=by unfold In64;omega
 have kXo:-9223372036854775808≤fp∧fp≤9223372036854775807:=h12;refine kFi.go (c:=kNy) Tryz.func266 rfl Tryz.results266 Tryz.ntmps266 zo zs ?_ ?_ ?_
 rotate_right
 intro X0 M w0
 ·refine zP [] [(900000,800001),(900001,800002)] rfl ?_;simp only[go_sem];by_cases k0:code=0
  ·subst k0;have e:kBm E ⟨0,a⟩ ⟨pc,sp,fp,S,O⟩=kBy (⟨pc,sp,fp,S,O⟩,false) a:=rfl;rw[e]
   (repeat' (first|apply zS|apply zB|((first|apply zW| refine zf kNz ?_|refine zf kN0 ?_|refine zf kN1 ?_|refine zd 9 ?_);simp only[go_sem,Int.reduceBEq,Int.reduceEq])|apply jAi|omega|rfl|exact h1|exact⟨h1,h13⟩|intro _))
  by_cases k1:code=1
  ·subst k1;obtain⟨ha0,ha1⟩:=h8 zo;have e:kBm E ⟨1,a⟩ ⟨pc,sp,fp,S,O⟩=kKm (⟨pc,sp,fp,S,O⟩,false) (w64 (fp+a)):=rfl;rw[e]
   (repeat' (first|apply zS|apply zB|((first|refine WP.qCb (id:=6) (.call ⟨[],[0,1,2,3,4,5,6,7],[],8⟩ (.last ⟨[],[],[],0⟩)) (by decide +kernel) (by decide +kernel) (by kernel_rfl) ?_);simp only[go_sem,w64,Int.reduceBEq,Int.reduceEq])|((first|apply zW| refine zf kNz ?_|refine zf kN0 ?_|refine zf kN1 ?_|refine zd 9 ?_);simp only[go_sem,w64,Int.reduceBEq,Int.reduceEq])|apply jAi|omega|rfl|exact h1|exact⟨h1,h13⟩|intro _))
  by_cases k3:code=3
  ·subst k3;obtain⟨ha0,ha1⟩:=h8 zo;have e:kBm E ⟨3,a⟩ ⟨pc,sp,fp,S,O⟩=kKm (⟨pc,sp,fp,S,O⟩,false) (sp+a):=rfl;rw[e]
   (repeat' (first|apply zS|apply zB|((first|refine WP.stages (id:=8) (.call ⟨[],[0,1,2,3,4,5,6,7],[],8⟩ (.last ⟨[],[],[],0⟩)) (by decide +kernel) (by decide +kernel) (by kernel_rfl) ?_);simp only[go_sem,Int.reduceBEq,Int.reduceEq])|((first|apply zW| refine zf kNz ?_|refine zf kN0 ?_|refine zf kN1 ?_|refine zd 9 ?_);simp only[go_sem,Int.reduceBEq,Int.reduceEq])|apply jAi|omega|rfl|exact h1|exact⟨h1,h13⟩|intro _))
  omega
 ·rfl
 ·intro h;cases h
end
end
section
open Go.Vc
def kR3:FP:=⟨6,[fa [6] [],fa [88] [0],fa [89] [0,1],fa [90] [0,1,2],fa [5] [],fa [92] [4],fn 6,fn 7,fn 8,fn 9],[88,89,90,91,92,93],[],[]⟩
def kR4:FP:=⟨6,[fa [6] [],fa [102] [0],fa [103] [0,1],fa [104] [0,1,2],fa [5] [],fa [106] [4],fn 6,fn 7,fn 8,fn 9],[102,103,104,105,106,107],[],[]⟩
def kR5:FP:=⟨9,[⟨[6],[],[218],[221,222],[],[]⟩,fc [6] [] [221,222],fc [215] [1] [221,222],fc [216] [1,2] [221,222],fc [217] [1,2,3] [221,222],fc [0] [] [221,222],fc [219] [5] [221,222],⟨[220],[5,6],[],[222],[],[221]⟩,⟨[218,221],[1,2,3,4,5,6,7],[],[],[218],[222]⟩,fn 9,fn 10,fn 11],[214,215,216,217,218,219,220,221,222],[221,222],[218]⟩
attribute [local go_sem] kR3 kR4 kR5
attribute [local go_sem] bxI
attribute [local go_sem] kL7 kEz kP8 kpD St.kJa St.kLe kFn kHw
section
attribute [local go_sem] kKf kKg kJ7
attribute [local go_sem] kJ2 kH9 kJ4 kJ3 kEy kHb kDk
set_option maxHeartbeats 8000000 in
theorem cQf7:Cy Tryz.prog 266 (kHo fun c=>c=2∨c=4):=by
 refine Cy.yen Tryz.func266 (by kernel_rfl) rfl fun x hx=>?_
 obtain⟨⟨I,B,E⟩,⟨⟨⟨pc,sp,fp,S,O⟩,g⟩,q,v⟩,⟨code,a⟩⟩:=x;obtain⟨⟨h1,h2,h3,h4,h5,⟨n,h6,h7,h8,h9,h10⟩,h11,h12⟩,hp⟩:=hx;simp only at h1 h2 h3 h4 h5 h6 h7 h8 h9 h10 h11 h12 hp⊢;subst h5;have h13:In64 sp:=by unfold In64;omega
 have kXo:-9223372036854775808≤fp∧fp≤9223372036854775807:=h12;refine kFi.go (c:=kNy) Tryz.func266 rfl Tryz.results266 Tryz.ntmps266 zo zs ?_ ?_ ?_
 rotate_right
 intro X0 M w0
 ·refine zP [] [(900000,800001),(900001,800002)] rfl ?_;simp only[go_sem];by_cases k2:code=2
  ·subst k2;obtain⟨ha0,ha1⟩:=h8 zo;have e:kBm E ⟨2,a⟩ ⟨pc,sp,fp,S,O⟩=kJ1 (⟨pc,sp,fp,S,O⟩,false) (w64 (fp+a)):=rfl;rw[e]
   (repeat' (first|apply zS|apply zB|((first|refine WP.qCb (id:=10) (.call ⟨[],[0,1,2,3,4,5,6,7],[],8⟩ (.last ⟨[],[],[],0⟩)) (by decide +kernel) (by decide +kernel) (by kernel_rfl) ?_);simp only[go_sem,w64,Int.reduceBEq,Int.reduceEq])|((first|apply zW| refine zf kR3 ?_|refine zf kR4 ?_|refine zf kR5 ?_|refine zd 9 ?_);simp only[go_sem,w64,Int.reduceBEq,Int.reduceEq])|apply jAi|omega|rfl|exact h1|exact⟨h1,h13⟩|intro _))
  by_cases k4:code=4
  ·subst k4;obtain⟨ha0,ha1⟩:=h8 zo;have e:kBm E ⟨4,a⟩ ⟨pc,sp,fp,S,O⟩=kJ1 (⟨pc,sp,fp,S,O⟩,false) (sp+a):=rfl;rw[e]
   (repeat' (first|apply zS|apply zB|((first|refine WP.stages (id:=12) (.call ⟨[],[0,1,2,3,4,5,6,7],[],8⟩ (.last ⟨[],[],[],0⟩)) (by decide +kernel) (by decide +kernel) (by kernel_rfl) ?_);simp only[go_sem,Int.reduceBEq,Int.reduceEq])|((first|apply zW| refine zf kR3 ?_|refine zf kR4 ?_|refine zf kR5 ?_|refine zd 9 ?_);simp only[go_sem,Int.reduceBEq,Int.reduceEq])|apply jAi|omega|rfl|exact h1|exact⟨h1,h13⟩|intro _))
  omega
 ·rfl
 ·intro h;cases h
end
end
section
open Go.Vc
def kXy:FP:=⟨6,[fa [6] [],fa [88] [0],fa [89] [0,1],fa [90] [0,1,2],fa [5] [],fa [92] [4],fn 6,fn 7,fn 8,fn 9],[88,89,90,91,92,93],[],[]⟩
def kXz:FP:=⟨6,[fa [6] [],fa [102] [0],fa [103] [0,1],fa [104] [0,1,2],fa [5] [],fa [106] [4],fn 6,fn 7,fn 8,fn 9],[102,103,104,105,106,107],[],[]⟩
def kX0:FP:=⟨9,[⟨[6],[],[218],[221,222],[],[]⟩,fc [6] [] [221,222],fc [215] [1] [221,222],fc [216] [1,2] [221,222],fc [217] [1,2,3] [221,222],fc [0] [] [221,222],fc [219] [5] [221,222],⟨[220],[5,6],[],[222],[],[221]⟩,⟨[218,221],[1,2,3,4,5,6,7],[],[],[218],[222]⟩,fn 9,fn 10,fn 11],[214,215,216,217,218,219,220,221,222],[221,222],[218]⟩
attribute [local go_sem] kXy kXz kX0
attribute [local go_sem] bxI
attribute [local go_sem] kL7 kEz kP8 kpD St.kJa St.kLe kFn kHw
section
attribute [local go_sem] kKf kKg kJ7
attribute [local go_sem] kJ2 kH9 kJ4 kJ3 kEy kHb kDk
set_option maxHeartbeats 8000000 in
theorem cQf8:Cy Tryz.prog 266 (kHo fun c=>c=15):=by
 refine Cy.yen Tryz.func266 (by kernel_rfl) rfl fun x hx=>?_
 obtain⟨⟨I,B,E⟩,⟨⟨⟨pc,sp,fp,S,O⟩,g⟩,q,v⟩,⟨code,a⟩⟩:=x;obtain⟨⟨h1,h2,h3,h4,h5,⟨n,h6,h7,h8,h9,h10⟩,h11,h12⟩,hp⟩:=hx;simp only at h1 h2 h3 h4 h5 h6 h7 h8 h9 h10 h11 h12 hp⊢;subst h5;have h13:In64 sp:=by unfold In64;omega
 have kXo:-9223372036854775808≤fp∧fp≤9223372036854775807:=h12;refine kFi.go (c:=kNy) Tryz.func266 rfl Tryz.results266 Tryz.ntmps266 zo zs ?_ ?_ ?_
 rotate_right
 intro X0 M w0
 ·refine zP [] [(900000,800001),(900001,800002)] rfl ?_;simp only[go_sem];subst hp;obtain⟨ha0,ha1⟩:=h9 zo;have e:kBm E ⟨15,a⟩ ⟨pc,sp,fp,S,O⟩=kHl (⟨pc,sp,fp,S,O⟩,false) a.toNat:=rfl;rw[e]
  (repeat' (first|apply zS|apply zB|((first|apply zW| refine zf kXy ?_|refine zf kXz ?_|refine zf kX0 ?_|refine zd 9 ?_);simp only[go_sem,Int.reduceBEq,Int.reduceEq])|apply jAi|omega|rfl|exact h1|exact⟨h1,h13,zo⟩|intro _))
 ·rfl
 ·intro h;cases h
end
end
end Go.Proofs.YtjdklcjoeanimaaGreat
