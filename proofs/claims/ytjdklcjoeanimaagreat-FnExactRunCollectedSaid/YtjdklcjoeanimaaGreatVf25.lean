/- DERIVED. Steps of the proof. -/
import Derived.Test.YtjdklcjoeanimaaGreatVf23
import Derived.Test.YtjdklcjoeanimaaGreatVf24
set_option linter.all false
set_option maxHeartbeats 1000000
set_option maxRecDepth 10000
namespace Go.Proofs.YtjdklcjoeanimaaGreat
open Go.Vc
attribute [local irreducible] Go.Vc.WP
section
def kXp:FP:=⟨6,[fa [6] [],fa [88] [0],fa [89] [0,1],fa [90] [0,1,2],fa [5] [],fa [92] [4],fn 6,fn 7,fn 8,fn 9],[88,89,90,91,92,93],[],[]⟩
def kXq:FP:=⟨6,[fa [6] [],fa [102] [0],fa [103] [0,1],fa [104] [0,1,2],fa [5] [],fa [106] [4],fn 6,fn 7,fn 8,fn 9],[102,103,104,105,106,107],[],[]⟩
def kXr:FP:=⟨9,[⟨[6],[],[218],[221,222],[],[]⟩,fc [6] [] [221,222],fc [215] [1] [221,222],fc [216] [1,2] [221,222],fc [217] [1,2,3] [221,222],fc [0] [] [221,222],fc [219] [5] [221,222],⟨[220],[5,6],[],[222],[],[221]⟩,⟨[218,221],[1,2,3,4,5,6,7],[],[],[218],[222]⟩,fn 9,fn 10,fn 11],[214,215,216,217,218,219,220,221,222],[221,222],[218]⟩
attribute [local go_sem] kXp kXq kXr
attribute [local go_sem] bxI
attribute [local go_sem] kL7 kEz kP8 kpD St.kJa St.kLe kFn kHw
section
attribute [local go_sem] kKf kKg kJ7
attribute [local go_sem] kJ2 kH9 kJ4 kJ3 kEy kHb kDk
set_option maxHeartbeats 8000000 in
theorem cQf4:Cy Tryz.prog 266 (kHo fun c=>c=5∨c=6∨c=7∨c=8∨c=9):=by
 refine Cy.yen Tryz.func266 (by kernel_rfl) rfl fun x hx=>?_
 obtain⟨⟨I,B,E⟩,⟨⟨⟨pc,sp,fp,S,O⟩,g⟩,q,v⟩,⟨code,a⟩⟩:=x;obtain⟨⟨h1,h2,h3,h4,h5,⟨n,h6,h7,h8,h9,h10⟩,h11,h12⟩,hp⟩:=hx;simp only at h1 h2 h3 h4 h5 h6 h7 h8 h9 h10 h11 h12 hp⊢;subst h5;have h13:In64 sp:=by unfold In64;omega
 have kXo:-9223372036854775808≤fp∧fp≤9223372036854775807:=h12;refine kFi.go (c:=kNy) Tryz.func266 rfl Tryz.results266 Tryz.ntmps266 zo zs ?_ ?_ ?_
 rotate_right
 intro X0 M w0
 ·refine zP [] [(900000,800001),(900001,800002)] rfl ?_;simp only[go_sem];have k0:¬code=0:=zo;have k1:¬code=1:=zo;have k3:¬code=3:=zo;have k2:¬code=2:=zo;have k4:¬code=4:=zo;have k10:¬code=10:=zo;have k11:¬code=11:=zo;have k12:¬code=12:=zo;have k13:¬code=13:=zo;have k15:¬code=15:=zo;have k14:¬code=14:=zo;have k16:¬code=16:=zo;have k17:¬code=17:=zo
  have e:kBm E ⟨code,a⟩ ⟨pc,sp,fp,S,O⟩=kBy (kAf (kAf (⟨pc,sp,fp,S,O⟩,false)).2).2 (kU6 (code-5+2) (kAf (kAf (⟨pc,sp,fp,S,O⟩,false)).2).1 (kAf (⟨pc,sp,fp,S,O⟩,false)).1):=by
   unfold kBm;simp only[k0,k1,k3,k2,k4,k10,k11,k12,k13,k15,k14,k16,k17,if_false]
  rw[e];have hl1:(kAf (⟨pc,sp,fp,S,O⟩,false)).2.1.st.length=1200:=by rw[kHf];exact h1
  have hs1:In64 (kAf (⟨pc,sp,fp,S,O⟩,false)).2.1.sp:=kPc (s:=(⟨pc,sp,fp,S,O⟩,false)) h13;generalize hp1:kAf (⟨pc,sp,fp,S,O⟩,false)=r at hl1 hs1⊢;obtain⟨z,⟨rp,rs,rf,rS,rO⟩,rb⟩:=r;simp only at hl1 hs1⊢;have hl2:(kAf (⟨rp,rs,rf,rS,rO⟩,rb)).2.1.st.length=1200:=by rw[kHf];exact hl1
  have hs2:In64 (kAf (⟨rp,rs,rf,rS,rO⟩,rb)).2.1.sp:=kPc (s:=(⟨rp,rs,rf,rS,rO⟩,rb)) hs1;generalize hp2:kAf (⟨rp,rs,rf,rS,rO⟩,rb)=t at hl2 hs2⊢;obtain⟨y,⟨tp,ts,tf,tS,tO⟩,tb⟩:=t;simp only at hl2 hs2⊢;have e9:2+code-5=code-5+2:=zo;rcases hp with hp|hp|hp|hp|hp
  all_goals
   (subst hp
    (repeat' (first|apply zS|apply zB|((first|apply zW| refine zf kXp ?_|refine zf kXq ?_|refine zf kXr ?_|refine zd 9 ?_);simp only[go_sem,hp1,hp2,e9,Int.reduceBEq,Int.reduceEq])|apply jAi|omega|rfl|exact h1|exact hl1|exact hl2|exact hs2.1|exact hs2.2|exact⟨hl2,hs2⟩|intro _))
    all_goals trace_state)
 ·rfl
 ·intro h;cases h
end
end
section
def kN5:FP:=⟨6,[fa [6] [],fa [88] [0],fa [89] [0,1],fa [90] [0,1,2],fa [5] [],fa [92] [4],fn 6,fn 7,fn 8,fn 9],[88,89,90,91,92,93],[],[]⟩
def kN6:FP:=⟨6,[fa [6] [],fa [102] [0],fa [103] [0,1],fa [104] [0,1,2],fa [5] [],fa [106] [4],fn 6,fn 7,fn 8,fn 9],[102,103,104,105,106,107],[],[]⟩
def kN7:FP:=⟨9,[⟨[6],[],[218],[221,222],[],[]⟩,fc [6] [] [221,222],fc [215] [1] [221,222],fc [216] [1,2] [221,222],fc [217] [1,2,3] [221,222],fc [0] [] [221,222],fc [219] [5] [221,222],⟨[220],[5,6],[],[222],[],[221]⟩,⟨[218,221],[1,2,3,4,5,6,7],[],[],[218],[222]⟩,fn 9,fn 10,fn 11],[214,215,216,217,218,219,220,221,222],[221,222],[218]⟩
attribute [local go_sem] kN5 kN6 kN7
attribute [local go_sem] bxI
attribute [local go_sem] kL7 kEz kP8 kpD St.kJa St.kLe kFn kHw
section
attribute [local go_sem] kKf kKg kJ7
attribute [local go_sem] kJ2 kH9 kJ4 kJ3 kEy kHb kDk
set_option maxHeartbeats 8000000 in
theorem cQf3:Cy Tryz.prog 266 (kHo fun c=>c=13∨c=11):=by
 refine Cy.yen Tryz.func266 (by kernel_rfl) rfl fun x hx=>?_
 obtain⟨⟨I,B,E⟩,⟨⟨⟨pc,sp,fp,S,O⟩,g⟩,q,v⟩,⟨code,a⟩⟩:=x;obtain⟨⟨h1,h2,h3,h4,h5,⟨n,h6,h7,h8,h9,h10⟩,h11,h12⟩,hp⟩:=hx;simp only at h1 h2 h3 h4 h5 h6 h7 h8 h9 h10 h11 h12 hp⊢;subst h5;have h13:In64 sp:=by unfold In64;omega
 have kXo:-9223372036854775808≤fp∧fp≤9223372036854775807:=h12;refine kFi.go (c:=kNy) Tryz.func266 rfl Tryz.results266 Tryz.ntmps266 zo zs ?_ ?_ ?_
 rotate_right
 intro X0 M w0
 ·refine zP [] [(900000,800001),(900001,800002)] rfl ?_;simp only[go_sem];by_cases k13:code=13
  ·subst k13;obtain⟨ha0,ha1⟩:=h9 zo;have e:kBm E ⟨13,a⟩ ⟨pc,sp,fp,S,O⟩=kHl (kEx (kBy (⟨pc,sp,fp,S,O⟩,false) fp) (kBy (⟨pc,sp,fp,S,O⟩,false) fp).1.sp) a.toNat:=rfl;rw[e];have hl:(kBy (⟨pc,sp,fp,S,O⟩,false) fp).1.st.length=1200:=by rw[kSz];exact h1
   have hs:In64 (kBy (⟨pc,sp,fp,S,O⟩,false) fp).1.sp:=k92 (s:=(⟨pc,sp,fp,S,O⟩,false)) h13 fp;generalize hp:kBy (⟨pc,sp,fp,S,O⟩,false) fp=r at hl hs⊢;obtain⟨⟨rp,rs,rf,rS,rO⟩,rb⟩:=r;simp only[kEx]at hl hs⊢
   (repeat' (first|apply zS|apply zB|((first|apply zW| refine zf kN5 ?_|refine zf kN6 ?_|refine zf kN7 ?_|refine zd 9 ?_);simp only[go_sem,hp,Int.reduceBEq,Int.reduceEq])|apply jAi|omega|rfl|exact h1|exact⟨h1,h13⟩|exact hl|exact hs.1|exact hs.2|exact⟨hl,hs,zo⟩|intro _))
  by_cases k11:code=11
  ·subst k11;obtain⟨ha0,ha1⟩:=h8 zo;have e:kBm E ⟨11,a⟩ ⟨pc,sp,fp,S,O⟩=(if(kAf (⟨pc,sp,fp,S,O⟩,false)).1=0 then kBe (kAf (⟨pc,sp,fp,S,O⟩,false)).2 ((kAf (⟨pc,sp,fp,S,O⟩,false)).2.1.pc+a)else(kAf (⟨pc,sp,fp,S,O⟩,false)).2):=rfl
   rw[e]
   have hpc:(kAf (⟨pc,sp,fp,S,O⟩,false)).2.1.pc=pc:=by
    unfold kAf;split<;>rfl
   generalize hp:kAf (⟨pc,sp,fp,S,O⟩,false)=r at hpc⊢;obtain⟨z,⟨rp,rs,rf,rS,rO⟩,rb⟩:=r;simp only at hpc⊢;subst hpc;by_cases hz:z=0
   ·rw[if_pos hz]
    (repeat' (first|apply zS|apply zB|((first|apply zW| refine zf kN5 ?_|refine zf kN6 ?_|refine zf kN7 ?_|refine zd 9 ?_);simp only[go_sem,hp,hz,kBe,Int.reduceBEq,Int.reduceEq])|apply jAi|omega|rfl|exact h1|exact⟨h1,h13⟩|intro _))
   ·rw[if_neg hz]
    (repeat' (first|apply zS|apply zB|((first|apply zW| refine zf kN5 ?_|refine zf kN6 ?_|refine zf kN7 ?_|refine zd 9 ?_);simp only[go_sem,hp,hz,Int.reduceBEq,Int.reduceEq])|apply jAi|omega|rfl|exact h1|exact⟨h1,h13⟩|intro _))
  omega
 ·rfl
 ·intro h;cases h
end
end
section
def kN2:FP:=⟨6,[fa [6] [],fa [88] [0],fa [89] [0,1],fa [90] [0,1,2],fa [5] [],fa [92] [4],fn 6,fn 7,fn 8,fn 9],[88,89,90,91,92,93],[],[]⟩
def kN3:FP:=⟨6,[fa [6] [],fa [102] [0],fa [103] [0,1],fa [104] [0,1,2],fa [5] [],fa [106] [4],fn 6,fn 7,fn 8,fn 9],[102,103,104,105,106,107],[],[]⟩
def kN4:FP:=⟨9,[⟨[6],[],[218],[221,222],[],[]⟩,fc [6] [] [221,222],fc [215] [1] [221,222],fc [216] [1,2] [221,222],fc [217] [1,2,3] [221,222],fc [0] [] [221,222],fc [219] [5] [221,222],⟨[220],[5,6],[],[222],[],[221]⟩,⟨[218,221],[1,2,3,4,5,6,7],[],[],[218],[222]⟩,fn 9,fn 10,fn 11],[214,215,216,217,218,219,220,221,222],[221,222],[218]⟩
attribute [local go_sem] kN2 kN3 kN4
attribute [local go_sem] bxI
attribute [local go_sem] kL7 kEz kP8 kpD St.kJa St.kLe kFn kHw
section
attribute [local go_sem] kKf kKg kJ7
attribute [local go_sem] kJ2 kH9 kJ4 kJ3 kEy kHb kDk
set_option maxHeartbeats 8000000 in
theorem cQf2:Cy Tryz.prog 266 (kHo fun c=>c=10∨c=12):=by
 refine Cy.yen Tryz.func266 (by kernel_rfl) rfl fun x hx=>?_
 obtain⟨⟨I,B,E⟩,⟨⟨⟨pc,sp,fp,S,O⟩,g⟩,q,v⟩,⟨code,a⟩⟩:=x;obtain⟨⟨h1,h2,h3,h4,h5,⟨n,h6,h7,h8,h9,h10⟩,h11,h12⟩,hp⟩:=hx;simp only at h1 h2 h3 h4 h5 h6 h7 h8 h9 h10 h11 h12 hp⊢;subst h5;have h13:In64 sp:=by unfold In64;omega
 have kXo:-9223372036854775808≤fp∧fp≤9223372036854775807:=h12;refine kFi.go (c:=kNy) Tryz.func266 rfl Tryz.results266 Tryz.ntmps266 zo zs ?_ ?_ ?_
 rotate_right
 intro X0 M w0
 ·refine zP [] [(900000,800001),(900001,800002)] rfl ?_;simp only[go_sem];by_cases k10:code=10
  ·subst k10;obtain⟨ha0,ha1⟩:=h8 zo;have e:kBm E ⟨10,a⟩ ⟨pc,sp,fp,S,O⟩=(⟨pc+a,sp,fp,S,O⟩,false):=rfl;rw[e]
   (repeat' (first|apply zS|apply zB|((first|apply zW| refine zf kN2 ?_|refine zf kN3 ?_|refine zf kN4 ?_|refine zd 9 ?_);simp only[go_sem,Int.reduceBEq,Int.reduceEq])|apply jAi|omega|rfl|exact h1|exact⟨h1,h13⟩|intro _))
  by_cases k12:code=12
  ·subst k12;obtain⟨ha0,ha1⟩:=h9 zo;have e:kBm E ⟨12,a⟩ ⟨pc,sp,fp,S,O⟩=if a<(E.length:Int)then kBe (kBy (⟨pc,sp,fp,S,O⟩,false) (pc)) (E.getD a.toNat 0)else((kBy (⟨pc,sp,fp,S,O⟩,false) (pc)).1,true):=rfl
   rw[e];generalize hp:kBy (⟨pc,sp,fp,S,O⟩,false) (pc)=r;obtain⟨⟨rp,rs,rf,rS,rO⟩,rb⟩:=r;by_cases hl:a<(E.length:Int)
   ·rw[if_pos hl];obtain⟨k,rfl⟩:=zN a;have hk:k<E.length:=zo;have hr:=kAa encI E k hk;rw[jB2,getD_at hk]
    (repeat' (first|apply zS|apply zB|((first|apply zW| refine zf kN2 ?_|refine zf kN3 ?_|refine zf kN4 ?_|refine zd 9 ?_);simp only[go_sem,hl,hr,encI,kBe,hp,Int.reduceBEq,Int.reduceEq])|apply jAi|omega|rfl|exact h1|exact⟨h1,h13⟩|intro _))
   ·rw[if_neg hl]
    (repeat' (first|apply zS|apply zB|((first|apply zW| refine zf kN2 ?_|refine zf kN3 ?_|refine zf kN4 ?_|refine zd 9 ?_);simp only[go_sem,hl,hp,Int.reduceBEq,Int.reduceEq])|apply jAi|omega|rfl|exact h1|exact⟨h1,h13⟩|intro _))
  omega
 ·rfl
 ·intro h;cases h
end
end
end Go.Proofs.YtjdklcjoeanimaaGreat
