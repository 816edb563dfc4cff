/- DERIVED. Steps of the proof. -/
import Derived.Test.YtjdklcjoeanimaaGreatVf15
import Derived.Test.YtjdklcjoeanimaaGreatVf17
set_option linter.all false
set_option maxHeartbeats 1000000
set_option maxRecDepth 10000
namespace Go.Proofs.YtjdklcjoeanimaaGreat
attribute [local irreducible] Go.Vc.WP
section
open Go.Vc Tryz
def kX8:FP:=⟨6,[⟨[1],[],[5],[5,8],[],[]⟩,⟨[3],[0],[5],[5,8],[],[]⟩,⟨[],[],[],[8],[],[5]⟩,fc [1] [] [5,8],fc [6] [3] [5,8],⟨[5,7],[2,3,4],[],[],[5],[8]⟩,fn 6,fn 7],[3,4,5,6,7,8],[5,8],[5]⟩
def kOc:FP:=⟨10,[⟨[],[],[],[3,9,10,13],[],[6]⟩,fc [1] [] [3,6,9,10,13],fc [7] [1] [3,6,9,10,13],⟨[6,8],[0,1,2],[],[3,10,13],[6],[9]⟩,⟨[],[],[6],[3,6,9,13],[],[10]⟩,⟨[1],[],[6],[3,6,9,10,13],[],[]⟩,⟨[11],[5],[6],[3,6,9,10,13],[],[]⟩,⟨[10,12],[0,1,2,3,4,5,6],[6],[3],[10],[13]⟩,⟨[9,13],[0,1,2,3,4,5,6,7],[6,10],[3],[],[]⟩,⟨[],[],[6,10],[6,9,10,13],[],[3]⟩,fn 10],[3,6,7,8,9,10,11,12,13,14],[3,6,9,10,13],[6,10]⟩
def kR7:FP:=⟨10,[⟨[3],[],[26],[26,29,31],[],[]⟩,⟨[22],[0],[26],[26,29,31],[],[]⟩,⟨[5],[],[26],[26,29,31],[],[]⟩,⟨[24],[2],[26],[26,29,31],[],[]⟩,⟨[],[],[],[29,31],[],[26]⟩,fc [5] [] [26,29,31],fc [27] [5] [26,29,31],⟨[26,28],[4,5,6],[],[31],[26],[29]⟩,⟨[25,29],[2,3,4,5,6,7],[26],[31],[],[]⟩,⟨[30],[2,3,4,5,6,7,8],[26],[],[],[31]⟩,fn 10,fn 11,fn 12],[22,23,24,25,26,27,28,29,30,31],[26,29,31],[26]⟩
def kX9:FP:=⟨10,[⟨[3],[],[26,29],[26,29,31],[],[]⟩,⟨[22],[0],[26,29],[26,29,31],[],[]⟩,⟨[5],[],[26],[26,29,31],[],[]⟩,⟨[24],[2],[26],[26,29,31],[],[]⟩,⟨[],[],[],[29,31],[],[26]⟩,fc [5] [] [26,29,31],fc [27] [5] [26,29,31],⟨[26,28],[4,5,6],[],[31],[26],[29]⟩,⟨[25,29],[2,3,4,5,6,7],[26],[31],[],[]⟩,⟨[30],[2,3,4,5,6,7,8],[26],[],[29],[31]⟩,fn 10,fn 11,fn 12],[22,23,24,25,26,27,28,29,30,31],[26,29,31],[26,29]⟩
def kOd:FP:=⟨10,[⟨[],[],[],[3,8,9,12],[],[5]⟩,fc [1] [] [3,5,8,9,12],fc [6] [1] [3,5,8,9,12],⟨[5,7],[0,1,2],[],[3,9,12],[5],[8]⟩,⟨[],[],[5],[3,5,8,12],[],[9]⟩,⟨[1],[],[5],[3,5,8,9,12],[],[]⟩,⟨[10],[5],[5],[3,5,8,9,12],[],[]⟩,⟨[9,11],[0,1,2,3,4,5,6],[5],[3],[9],[12]⟩,⟨[8,12],[0,1,2,3,4,5,6,7],[5,9],[3],[],[]⟩,⟨[],[],[5,9],[5,8,9,12],[],[3]⟩,fn 10],[3,5,6,7,8,9,10,11,12,13],[3,5,8,9,12],[5,9]⟩
def kR8:FP:=⟨9,[fc [3] [] [28,29],fc [21] [0] [28,29],fc [1] [] [28,29],fc [23] [2] [28,29],fc [4] [] [28,29],fc [24,25] [2,3,4] [28,29],fc [26] [2,3,4,5] [28,29],⟨[27],[2,3,4,5,6],[],[29],[],[28]⟩,⟨[28],[2,3,4,5,6,7],[],[],[],[29]⟩,fn 9,fn 10,fn 11],[21,22,23,24,25,26,27,28,29],[28,29],[]⟩
def kYa:FP:=⟨9,[⟨[3],[],[28],[28,29],[],[]⟩,⟨[21],[0],[28],[28,29],[],[]⟩,fc [1] [] [28,29],fc [23] [2] [28,29],fc [4] [] [28,29],fc [24,25] [2,3,4] [28,29],fc [26] [2,3,4,5] [28,29],⟨[27],[2,3,4,5,6],[],[29],[],[28]⟩,⟨[28],[2,3,4,5,6,7],[],[],[28],[29]⟩,fn 9,fn 10,fn 11],[21,22,23,24,25,26,27,28,29],[28,29],[28]⟩
def kOe:FP:=⟨11,[fc [1] [] [3,8,1008,2008],fc [6] [0] [3,8,1008,2008],⟨[7],[0,1],[],[3],[],[8,1008,2008]⟩,fc [1] [] [3,8,1008,2008],fc [9] [3] [3,8,1008,2008],fc [1] [] [3,8,1008,2008],fc [11] [5] [3,8,1008,2008],fc [1] [] [3,8,1008,2008],fc [13] [7] [3,8,1008,2008],fc [8,10,12,14] [0,1,2,3,4,5,6,7,8] [3],⟨[],[],[],[8,1008,2008],[],[3]⟩,fn 11],[3,6,7,8,9,10,11,12,13,14,15],[3,8,1008,2008],[]⟩
def kR9:FP:=⟨5,[fc [3] [] [26,27,1026],fc [23] [0] [26,27,1026],fc [5] [] [26,27,1026],⟨[25],[2],[],[27],[],[26,1026]⟩,⟨[26],[2,3],[],[],[],[27]⟩,fn 5,fn 6,fn 7],[23,24,25,26,27],[26,27,1026],[]⟩
def kYb:FP:=⟨5,[⟨[3],[],[26,1026],[26,27,1026],[],[]⟩,⟨[23],[0],[26,1026],[26,27,1026],[],[]⟩,fc [5] [] [26,27,1026],⟨[25],[2],[],[27],[],[26,1026]⟩,⟨[26],[2,3],[],[],[26,1026],[27]⟩,fn 5,fn 6,fn 7],[23,24,25,26,27],[26,27,1026],[26,1026]⟩
def kSa:FP:=⟨9,[fc [3] [] [25,26,1025],fc [18] [0] [25,26,1025],fc [1] [] [25,26,1025],fc [20] [2] [25,26,1025],fc [4] [] [25,26,1025],fc [21,22] [2,3,4] [25,26,1025],fc [23] [2,3,4,5] [25,26,1025],⟨[24],[2,3,4,5,6],[],[26],[],[25,1025]⟩,⟨[25],[2,3,4,5,6,7],[],[],[],[26]⟩,fn 9,fn 10,fn 11],[18,19,20,21,22,23,24,25,26],[25,26,1025],[]⟩
def kYc:FP:=⟨9,[⟨[3],[],[25,1025],[25,26,1025],[],[]⟩,⟨[18],[0],[25,1025],[25,26,1025],[],[]⟩,fc [1] [] [25,26,1025],fc [20] [2] [25,26,1025],fc [4] [] [25,26,1025],fc [21,22] [2,3,4] [25,26,1025],fc [23] [2,3,4,5] [25,26,1025],⟨[24],[2,3,4,5,6],[],[26],[],[25,1025]⟩,⟨[25],[2,3,4,5,6,7],[],[],[25,1025],[26]⟩,fn 9,fn 10,fn 11],[18,19,20,21,22,23,24,25,26],[25,26,1025],[25,1025]⟩
attribute [local go_sem] kX8 kOc kR7 kX9 kOd kR8 kYa kOe kR9 kYb kSa kYc
attribute [local go_sem] kYv kNi St.ado St.kM4 St.kM5 rp isNil
theorem kL8 {α:Type}(en:α→List SV) (L:List α) (k:Nat) (h:k<L.length):(L.take (k+1)).map en=(L.take k).map en++[en L[k]]:=by
 rw[jQw h,jNq];rfl
theorem lenI {L:List Int}{row:List SV}(h:row∈L.map encI):row.length=1:=by obtain⟨n,_,rfl⟩:=jCr.1 h;rfl
theorem lenY {L:List Symbol}{row:List SV}(h:row∈L.map encSymbol):row.length=3:=by obtain⟨n,_,rfl⟩:=jCr.1 h;rfl
theorem qAr {x:Mach}(h:kCr x):x.stack.length≤2097152∧x.out.length≤2097152:=h
section
def cxCpm:=COk.nil Tryz.prog
theorem k3i {p:Prop}(h:p:=by first|omega|exact lenI ‹_›|exact lenY ‹_›|exact⟨_,_,_,_,_,_,_,rfl⟩|exact⟨_,_,rfl,_,_,rfl,rfl⟩|exact if_neg (by omega)|(rw[if_neg (by omega),if_neg (by omega)];done)|(rw[if_neg (by omega),if_neg (by omega),if_neg (by omega)];done)|(rw[if_neg (by omega),if_neg (by omega),if_neg (by omega),if_neg (by omega)];done)|fail):p:=h
theorem kLm {p:Prop}(h:p:=by first|omega|exact lenI ‹_›|exact lenY ‹_›):p:=h
theorem kQt {p:Prop}(h:p:=by first|exact⟨k+1,by omega,by omega,rfl,by rw[h2]⟩|exact⟨k+1,by omega,by omega,by rw[h2]⟩|exact⟨k+1,by omega,by omega,rfl,rfl,by rw[h2]⟩):p:=h
theorem kQu {p:Prop}(h:p:=by first|omega|exact lenI ‹_›|exact lenY ‹_›|exact⟨_,_,_,rfl⟩|exact⟨_,_,rfl,_,_,rfl,rfl⟩|exact if_neg (by omega)|(rw[if_neg (by omega),if_neg (by omega)];done)|(rw[if_neg (by omega),if_neg (by omega),if_neg (by omega)];done)|(rw[if_neg (by omega),if_neg (by omega),if_neg (by omega),if_neg (by omega)];done)|fail):p:=h
theorem k96:Cq 176 k06:=by
 refine zp fun d x hx=>?_
 obtain⟨a,b,c,s,o,d2,e2⟩:=x;obtain⟨hs,ho⟩:=hx;simp only at hs ho⊢;refine zg cxCpm func176 rfl rfl ntmps176 ?_;intros
 (repeat' (first|apply zS|apply zB|(apply zW;simp only[go_sem])|apply jAi|exact k3i|intro _))
theorem k94:Cq 150 k06:=by
 refine zp fun d x hx=>?_
 obtain⟨a,b,c,s,o,d2,e2⟩:=x;obtain⟨hs,ho⟩:=hx;simp only at hs ho⊢;refine zg cxCpm func150 rfl rfl ntmps150 ?_;intros
 (repeat' (first|apply zS|apply zB|(apply zW;simp only[go_sem])|apply jAi|exact k3i|intro _))
end
section
attribute [local go_sem] kCc
def cxCpi:=COk.nil Tryz.prog
theorem qP3:Cq 218 qDh:=by
 refine zp fun d x hx=>?_
 obtain⟨c,Y⟩:=x;simp only at hx⊢;refine zg cxCpi func218 rfl rfl ntmps218 ?_;intros
 (repeat' (first|apply zS|apply zB|((first|apply zW| refine zf kX8 ?_);simp only[go_sem])|apply jAi|omega|exact lenI ‹_›|exact lenY ‹_›|exact⟨_,_,rfl,_,_,rfl,rfl⟩|exact if_neg zo|(rw[if_neg zo,if_neg zo];done)|(rw[if_neg zo,if_neg zo,if_neg zo];done)|(rw[if_neg zo,if_neg zo,if_neg zo,if_neg zo];done)|intro _))
end
section
attribute [local go_sem] kCc
def cxCpsI:=COk.nil Tryz.prog
set_option maxHeartbeats 3000000 in
theorem ccpSpI:Cq 175 qAp:=by
 refine zp fun d x hx=>?_
 obtain⟨I,B,E⟩:=x;obtain⟨⟨hI,hIm⟩,hB,hE⟩:=hx;simp only at hI hIm hB hE⊢;refine zg cxCpsI func175 rfl rfl ntmps175 ?_;intros
 (repeat' (first|apply zS|apply zB|((first|apply zW| refine zf kOc ?_|refine zf kR7 ?_);simp only[go_sem])|apply jAi|exact kLm|intro _))
 refine zA [.b 3 0 32 144 2] ?_;refine zG [.dp 32] ?_;simp only[go_sem];refine⟨fun r hr=>by simp at hr,?_⟩
 refine zM (fun k:Nat=>⟨[(2,.ptr 2 0 0 0),(3,.ptr 3 0 0 0),(16,.sl 2 (I.map encImage)),(17,vi I.length),(18,vi k)],
  [(2,.box 51 [.v (.slice none 0 0),.v (.slice none 0 0),.v (.slice none 0 0)]),(3,.box 51 [.own 32,.own 9,.own 13]),(32,.dp 144 2 ((I.take k).map encImage)),(9,.sl 3 1 (B.map encI)),(13,.sl 3 1 (E.map encI))]⟩)
  (fun k=>k≤I.length) (fun k=>I.length-k) 0 zo ?_
 intro k hk;refine zP [] [(32,50)] rfl ?_;by_cases hlt:k<I.length
 ·have hli:(k:Int)<I.length:=zo;have h0:=hIm _ (jCn hlt);have h1:=kAa encImage I k hlt;have h2:=kL8 encImage I k hlt;have h3:(I.take k).length=k:=by simp;omega
  generalize I[k]=y at h0 h1 h2;obtain⟨yc,yY⟩:=y;rw[encImage]at h1 h2;simp only at h0 h1 h2
  (repeat' (first|apply zS|apply zB|((first|apply zW| refine zf kOc ?_|refine zf kX9 ?_);simp only[go_sem,hli,h1,h3])|apply jAi|exact kLm|intro _))
  all_goals try exact kQt
 ·have hge:¬(k:Int)<I.length:=zo;have h4:(I.take k).map encImage=I.map encImage:=by rw[vDk zo]
  (repeat' (first|apply zS|apply zB|((first|apply zW| refine zf kOc ?_|refine zf kR7 ?_);simp only[go_sem,hge,h4])|apply jAi|exact kQu|intro _))
end
section
attribute [local go_sem] kCc
def cxCpsS:=kc qP3 kn
set_option maxHeartbeats 3000000 in
theorem ccpSpS:Cq 149 qAp:=by
 refine zp fun d x hx=>?_
 obtain⟨I,B,E⟩:=x;obtain⟨⟨hI,hIm⟩,hB,hE⟩:=hx;simp only at hI hIm hB hE⊢;refine zg cxCpsS func149 rfl rfl ntmps149 ?_;intros
 (repeat' (first|apply zS|apply zB|((first|apply zW| refine zf kOd ?_|refine zf kR8 ?_);simp only[go_sem])|apply jAi|exact kLm|intro _))
 refine zA [.b 3 0 30 144 2] ?_;refine zG [.dp 30] ?_;simp only[go_sem];refine⟨fun r hr=>by simp at hr,?_⟩
 refine zM (fun k:Nat=>⟨[(1,.ptr 1 0 0 0),(2,.ptr 2 0 0 0),(3,.ptr 3 0 0 0),(4,vi k)],
  [(1,.box 51 [.sl 2 (I.map encImage),.sl 1 (B.map encI),.sl 1 (E.map encI)]),(2,.box 51 [.v (.slice none 0 0),.v (.slice none 0 0),.v (.slice none 0 0)]),(3,.box 51 [.own 30,.own 8,.own 12]),(30,.dp 144 2 ((I.take k).map encImage)),(8,.sl 3 1 (B.map encI)),(12,.sl 3 1 (E.map encI))]⟩)
  (fun k=>k≤I.length) (fun k=>I.length-k) 0 zo ?_
 intro k hk;refine zP [] [(30,50)] rfl ?_;by_cases hlt:k<I.length
 ·have hli:(k:Int)<I.length:=zo;have h0:=hIm _ (jCn hlt);have h1:=kAa encImage I k hlt;have h2:=kL8 encImage I k hlt;have h3:(I.take k).length=k:=by simp;omega
  generalize I[k]=y at h0 h1 h2;obtain⟨yc,yY⟩:=y;rw[encImage]at h1 h2;simp only at h0 h1 h2
  (repeat' (first|apply zS|apply zB|((first|apply zW| refine zf kOd ?_|refine zf kYa ?_);simp only[go_sem,hli,h1,h3])|apply jAi|exact kLm|intro _))
  all_goals try exact kQt
 ·have hge:¬(k:Int)<I.length:=zo;have h4:(I.take k).map encImage=I.map encImage:=by rw[vDk zo]
  (repeat' (first|apply zS|apply zB|((first|apply zW| refine zf kOd ?_|refine zf kR8 ?_);simp only[go_sem,hge,h4])|apply jAi|exact kQu|intro _))
end
section
attribute [local go_sem] aggPc
attribute [local irreducible] kCr
def cxCppI:=kc ccpSpI (kc k96 kn)
set_option maxHeartbeats 4000000 in
theorem ccpPcI:Cq 100 qAq:=by
 refine zp fun d x hx=>?_
 obtain⟨⟨I,B,E⟩,T,tu,le,sl⟩:=x;obtain⟨hsp,hT,hTs⟩:=hx;have hsp2:=hsp;obtain⟨⟨hI,hIm⟩,hB,hE⟩:=hsp2;simp only[aggPc]at hT hTs hI hIm hB hE⊢;refine zg cxCppI func100 rfl rfl ntmps100 ?_;intros
 (repeat' (first|apply zS|apply zB|((first|apply zW| refine zf kOe ?_|refine zf kR9 ?_);simp only[go_sem])|apply jAi|omega|exact lenI ‹_›|exact lenY ‹_›|exact hIm _ ‹_›|intro _))
 refine zA [.b 3 3 28 206 7] ?_;refine zG [.dp 28] ?_;simp only[go_sem];refine⟨fun r hr=>by simp at hr,?_⟩
 refine zM (fun k:Nat=>⟨[(2,.ptr 2 0 0 0),(3,.ptr 3 0 0 0),(17,.sl 7 (T.map encMach)),(18,vi T.length),(19,vi k)],
  [(2,.box 54 [.v (.slice none 0 0),.v (.slice none 0 0),.v (.slice none 0 0),.v (.slice none 0 0),vi 0,vi 0,vi 0]),(3,.box 54 [.own 8,.own 1008,.own 2008,.own 28,vi tu,vi le,vi sl]),
   (8,.dp 144 2 (I.map encImage)),(1008,.sl 3 1 (B.map encI)),(2008,.sl 3 1 (E.map encI)),(28,.dp 206 7 ((T.take k).map encMach))]⟩)
  (fun k=>k≤T.length) (fun k=>T.length-k) 0 zo ?_
 intro k hk;refine zP [] [(28,50)] rfl ?_;by_cases hlt:k<T.length
 ·have hli:(k:Int)<T.length:=zo;have h0:=hTs _ (jCn hlt);have h1:=kAa encMach T k hlt;have h2:=kL8 encMach T k hlt;have h3:(T.take k).length=k:=by simp;omega
  generalize T[k]=y at h0 h1 h2;obtain⟨y1,y2,y3,yS,yO,y6,y7⟩:=y;obtain⟨hS,hO⟩:=qAr h0;rw[encMach]at h1 h2;simp only at hS hO h1 h2
  (repeat' (first|apply zS|apply zB|((first|apply zW| refine zf kOe ?_|refine zf kYb ?_);simp only[go_sem,hli,h1,h3])|apply jAi|exact kLm|intro _))
  all_goals try exact kQt
 ·have hge:¬(k:Int)<T.length:=zo;have h4:(T.take k).map encMach=T.map encMach:=by rw[vDk zo]
  (repeat' (first|apply zS|apply zB|((first|apply zW| refine zf kOe ?_|refine zf kR9 ?_);simp only[go_sem,hge,h4])|apply jAi|exact kQu|intro _))
end
section
attribute [local go_sem] aggPc
attribute [local irreducible] kCr
def cxCppS:=kc ccpSpS (kc k94 kn)
set_option maxHeartbeats 4000000 in
theorem qJ8:Cq 76 qAq:=by
 refine zp fun d x hx=>?_
 obtain⟨⟨I,B,E⟩,T,tu,le,sl⟩:=x;obtain⟨hsp,hT,hTs⟩:=hx;have hsp2:=hsp;obtain⟨⟨hI,hIm⟩,hB,hE⟩:=hsp2;simp only[aggPc]at hT hTs hI hIm hB hE⊢;refine zg cxCppS func76 rfl rfl ntmps76 ?_;intros
 (repeat' (first|apply zS|apply zB|((first|apply zW| refine zf kSa ?_);simp only[go_sem])|apply jAi|omega|exact lenI ‹_›|exact lenY ‹_›|exact hIm _ ‹_›|intro _))
 refine zA [.b 3 3 27 206 7] ?_;refine zG [.dp 27] ?_;simp only[go_sem];refine⟨fun r hr=>by simp at hr,?_⟩
 refine zM (fun k:Nat=>⟨[(1,.ptr 1 0 0 0),(2,.ptr 2 0 0 0),(3,.ptr 3 0 0 0),(4,vi k)],
  [(1,.box 54 [.sl 2 (I.map encImage),.sl 1 (B.map encI),.sl 1 (E.map encI),.sl 7 (T.map encMach),vi tu,vi le,vi sl]),
   (2,.box 54 [.v (.slice none 0 0),.v (.slice none 0 0),.v (.slice none 0 0),.v (.slice none 0 0),vi 0,vi 0,vi 0]),(3,.box 54 [.own 8,.own 1008,.own 2008,.own 27,vi tu,vi le,vi sl]),
   (8,.dp 144 2 (I.map encImage)),(1008,.sl 3 1 (B.map encI)),(2008,.sl 3 1 (E.map encI)),(27,.dp 206 7 ((T.take k).map encMach))]⟩)
  (fun k=>k≤T.length) (fun k=>T.length-k) 0 zo ?_
 intro k hk;refine zP [] [(27,50)] rfl ?_;by_cases hlt:k<T.length
 ·have hli:(k:Int)<T.length:=zo;have h0:=hTs _ (jCn hlt);have h1:=kAa encMach T k hlt;have h2:=kL8 encMach T k hlt;have h3:(T.take k).length=k:=by simp;omega
  generalize T[k]=y at h0 h1 h2;obtain⟨y1,y2,y3,yS,yO,y6,y7⟩:=y;obtain⟨hS,hO⟩:=qAr h0;rw[encMach]at h1 h2;simp only at hS hO h1 h2
  (repeat' (first|apply zS|apply zB|((first|apply zW| refine zf kYc ?_);simp only[go_sem,hli,h1,h3])|apply jAi|exact kLm|intro _))
  all_goals try exact kQt
 ·have hge:¬(k:Int)<T.length:=zo;have h4:(T.take k).map encMach=T.map encMach:=by rw[vDk zo]
  (repeat' (first|apply zS|apply zB|((first|apply zW| refine zf kSa ?_);simp only[go_sem,hge,h4])|apply jAi|exact kQu|intro _))
end
end
section
open Go.Vc Tryz
attribute [local go_sem] bxI kDk kHb
theorem k92 {s:CpB}(h:In64 s.1.sp) (x:Int):In64 (kBy s x).1.sp:=by
 unfold kBy;split
 ·exact h
 ·rename_i hb
  have hc:0≤w64 (s.1.sp-1)∧w64 (s.1.sp-1)≤1199:=by
   by_cases hc:0≤w64 (s.1.sp-1)∧w64 (s.1.sp-1)≤1199
   ·exact hc
   ·exact absurd (kDu.2 (.inr hc)) hb
  have:=(k4j h).1 hc;show In64 (s.1.sp-1)
  unfold In64;omega
theorem k6a {s:CpB}(h:In64 s.1.sp):∀n,In64 (kHl s n).1.sp
 | 0=>h
 |n+1=>k92 (k6a h n) 0
def kJ4:Ctr:=len [0] [] (fun args obs=>(kHb obs,aI args 1)) (fun x=>[.ptr 1000000 0 0 0,vi x.2]) (fun x=>kDk x.1) (fun x=>x.1.1.1.st.length=1200∧In64 x.1.1.1.sp∧x.2≤4294967295)
 (fun _ _=>.tup []) (fun _ _=>[]) (fun x=>kDk (kHl x.1.1 x.2.toNat,x.1.2))
section
def cxZrI:=kc k91 kn
theorem cZeroI:Cq 282 kJ4:=by
 refine zn fun d x hd hx=>?_
 obtain⟨⟨s,q,v⟩,n⟩:=x;obtain⟨hx,h6,hn⟩:=hx;simp only at hx h6 hn⊢;unfold kDk bxI;refine zl cxZrI func282 rfl rfl ntmps282 ?_;intros;refine zy trivial ?_;refine zL (fun k:Nat=>⟨[(0,.ptr 1000000 0 0 0),(1,vi ((n-(k:Nat))))],kDk (kHl s k,q,v)⟩) (fun k=>k≤n.toNat) (fun k=>n.toNat-k) 0 zs ?_ ?_
 ·(simp only[go_sem,kHl]<;>(first|(and_intros<;>rfl)|simp))
 intro k hk;have hl:(kHl s k).1.st.length=1200:=by rw[kVm];exact hx
 have h7:-9223372036854775808≤(kHl s k).1.sp∧(kHl s k).1.sp≤9223372036854775807:=k6a h6 k;by_cases hlt:0<n-(k:Int)
 ·have he:n-(k:Int)-1=n-(k+1:Nat):=zo
  (repeat' (first|apply zS|apply zB|(apply zW;simp only[go_sem,hlt])|apply jAi|omega|exact hl|exact⟨hl,h7⟩|rfl|exact⟨k+1,zo,zo,by rw[←he];(first|(and_intros<;>rfl)|simp)⟩|intro _))
 ·obtain rfl:k=n.toNat:=zo;exact zx hlt
end
end
section
open Go.Vc Tryz
def kHa (d:Nat) (G:SeX):List SV:=[.own d,.own (d+1000),.own (d+2000),.own (d+3000),vi G.1.2.2.1,vi G.1.2.2.2.1,vi G.1.2.2.2.2,vi G.2.1.period,vi G.2.1.spread,vi G.2.1.left,vi G.2.1.state,
 vi G.2.2.1.1,.own (d+4000),vi G.2.2.1.2.2.1,vi G.2.2.1.2.2.2,vi G.2.2.2.1,vi G.2.2.2.2.1,vi G.2.2.2.2.2]
def kJk (d:Nat) (G:SeX):List (Nat×Ob):=[(d,.dp 144 2 (G.1.1.1.map encImage)),(d+1000,.sl 3 1 (G.1.1.2.1.map encI)),(d+2000,.sl 3 1 (G.1.1.2.2.map encI)),(d+3000,.dp 206 7 (G.1.2.1.map encMach)),(d+4000,.sl 9 1 (G.2.2.1.2.1.map encS))]
def kJz (x:SeX):Prop:=kFr x.1∧kC2 x.2.2.1
@[go_sem] def kCpSe:Ctr:=pur (fun args=>seA args 0) (fun x=>[.agg (aggSe x)]) kJz (fun d x=>.agg (kHa d x)) (fun d x=>kJk d x)
section
attribute [local go_sem] aggSe aggPc kHa kJk
attribute [local irreducible] kCr kFr kC2
def cxCseS:=kc qJ8 (kc qAg kn)
theorem k6l {p:Prop}(h:p:=by first|omega|exact h1|exact h2|exact⟨_,_,rfl,_,_,rfl,rfl⟩|exact if_neg (by omega)|(rw[if_neg (by omega),if_neg (by omega)];done)|(rw[if_neg (by omega),if_neg (by omega),if_neg (by omega)];done)|(rw[if_neg (by omega),if_neg (by omega),if_neg (by omega),if_neg (by omega)];done)|exact⟨_,_,if_neg (by omega)⟩|exact⟨_,_,by rw[if_neg (by omega),if_neg (by omega)]⟩|fail):p:=h
set_option maxHeartbeats 3000000 in
theorem k2q:Cq 28 kCpSe:=by
 refine zp fun d x hx=>?_
 obtain⟨⟨⟨I,B,E⟩,T,tu,le,sl⟩,⟨p,q,l,st⟩,⟨cp,R,wr,lo⟩,mo,sp,fi⟩:=x;obtain⟨h1,h2⟩:=hx;simp only[kJk]at h1 h2⊢;refine zg cxCseS func28 rfl rfl ntmps28 ?_;intros
 (repeat' (first|apply zS|apply zB|(apply zW;simp only[go_sem])|apply jAi|exact k6l|intro _))
def cxCseI:=kc ccpPcI (kc qAh kn)
set_option maxHeartbeats 3000000 in
theorem k9j:Cq 43 kCpSe:=by
 refine zp fun d x hx=>?_
 obtain⟨⟨⟨I,B,E⟩,T,tu,le,sl⟩,⟨p,q,l,st⟩,⟨cp,R,wr,lo⟩,mo,sp,fi⟩:=x;obtain⟨h1,h2⟩:=hx;simp only[kJk]at h1 h2⊢;refine zg cxCseI func43 rfl rfl ntmps43 ?_;intros
 (repeat' (first|apply zS|apply zB|(apply zW;simp only[go_sem])|apply jAi|exact k6l|intro _))
end
end
section
open Go.Vc
open Go.Pl
theorem kLy {n:Nat}{l:Int}(h:0≤szA n l):(n:Int)≤l:=by
 unfold szA at h;split at h<;>omega
theorem qKj {x:Image}{l:Int}(h0:0≤l) (h1:l≤1048576) (h:0≤kOg x l):x.code.size≤1048576∧x.symbols.length≤1048576∧∀y∈x.symbols,y.name.size≤1048576:=by
 obtain⟨a,b,c⟩:=kFj (kFz _) h0 h;have e:=kLy a;obtain⟨f,g⟩:=kVz c;exact⟨zo,zo,fun y hy=>by have:=g y hy;omega⟩
theorem kWp {L:List Image}{l:Int}(h1:l≤1048576) (h:0≤kGa L l):L.length≤1048576∧∀x∈L,x.code.size≤1048576∧x.symbols.length≤1048576∧∀y∈x.symbols,y.name.size≤1048576:=by
 obtain⟨a,b⟩:=kSr (by simp only[jCr];rintro _ ⟨x,_,rfl⟩;exact k08 x) h
 rw[jH5]at a;refine⟨zo,fun x hx=>?_⟩
 obtain⟨r,r0,r1,r2⟩:=b _ (jCr.2 ⟨x,hx,rfl⟩);exact qKj r0 zo r2
theorem kPn {L:List Mach}{l:Int}(h1:l≤1048576) (h:0≤kPg L l):L.length≤1048576∧∀x∈L,x.stack.length≤1048576∧x.out.length≤1048576:=by
 obtain⟨a,b⟩:=kSr (by simp only[jCr];rintro _ ⟨x,_,rfl⟩;exact kYd x) h
 rw[jH5]at a;refine⟨zo,fun x hx=>?_⟩
 obtain⟨r,r0,r1,r2⟩:=b _ (jCr.2 ⟨x,hx,rfl⟩);obtain⟨c,d,e⟩:=kFj (kFz _) r0 r2;have:=kLy c;have:=kLy e;omega
theorem k5i {L:List ByteArray}{l:Int}(h1:l≤1048576) (h:0≤kUe L l):L.length≤1048576∧∀x∈L,x.size≤1048576:=by
 obtain⟨a,b⟩:=kSr (by simp only[jCr];rintro _ ⟨x,_,rfl⟩;exact kFz x.size) h
 rw[jH5]at a;refine⟨zo,fun x hx=>?_⟩
 obtain⟨r,r0,r1,r2⟩:=b _ (jCr.2 ⟨x,hx,rfl⟩);have:=kLy r2;omega
theorem k3n:∀(L:List Nat) (m:Nat),(∀n∈L,n≤m)→L.sum≤L.length*m
 | [],m,_=>by simp
 |n::L,m,h=>by
  have h1:=h n jYt;have h2:=k3n L m fun k hk=>h k (jZr _ hk)
  rw[yAi,jGk,wTr];omega
theorem k8u {R:List ByteArray}(h:R.length≤1048576) (hs:∀x∈R,x.size≤1048576):kBu R R.length≤1099511627776:=by
 unfold kBu;rw[jJ3];have:=k3n (R.map (·.size)) 1048576 (by simp only[jCr];rintro _ ⟨x,hx,rfl⟩;exact hs x hx)
 rw[jH5]at this;exact jZ9 this (jZ9 (wF7 _ h) (by decide))
theorem qL2 {x:SeX}(h:0≤kQi x 1048576):kEl x∧kEc x:=by
 obtain⟨⟨⟨I,B,E⟩,T,tu,le,sl⟩,⟨p,q,l,st⟩,⟨cp,R,wr,lo⟩,mo,sp,fi⟩:=x;obtain⟨hP,hPl,hR⟩:=kFj (kQ2 _) zo h;obtain⟨hS,hSl,hT⟩:=kFj (kLh _) zo hP;obtain⟨hI,hIl,hBE⟩:=kFj (kPm _) zo hS;obtain⟨hB,hBl,hE⟩:=kFj (kFz _) zo hBE;obtain⟨i1,i2⟩:=kWp zo hI;have b1:=kLy hB;have e1:=kLy hE;obtain⟨t1,t2⟩:=kPn zo hT;obtain⟨r1,r2⟩:=k5i zo hR;simp only at i1 i2 b1 e1 t1 t2 r1 r2 hIl hBl hSl hPl;refine⟨⟨⟨⟨⟨?_,fun i hi=>⟨?_,?_,fun y hy=>?_⟩⟩,?_,?_⟩,?_,fun m hm=>?_⟩,?_,k8u r1 r2⟩,⟨⟨⟨?_,fun i hi=>?_⟩,?_,?_⟩,t1,fun m hm=>⟨?_,?_⟩⟩,?_⟩
 all_goals try simp only
 ·omega
 ·have:=(i2 i hi).1;omega
 ·have:=(i2 i hi).2.1;omega
 ·have:=(i2 i hi).2.2 y hy;omega
 ·omega
 ·omega
 ·omega
 ·have:=(t2 m hm).1;omega
 ·omega
 ·omega
 ·have:=(i2 i hi).2.1;omega
 ·omega
 ·omega
 ·have:=(t2 m hm).1;omega
 ·have:=(t2 m hm).2;omega
 ·omega
section
attribute [local go_sem] aggSe
attribute [local irreducible] bigSe kEl kEc
set_option maxHeartbeats 4000000 in
end
end
end Go.Proofs.YtjdklcjoeanimaaGreat
namespace Go.Vc
def St.sha (st:St) (i:Nat):St:=match lk i st.hp with
 |some (.dp e s rows)=>{ st with hp:=(i,.sl e s rows)::er i st.hp }
 | _=>st
def St.k0b:List Nat→St→St
 | [],st=>st
 |i::l,st=>St.k0b l (st.sha i)
section
variable {N:Nat}{X0:Nat→Prop}{M:Nat→BV→Prop}{w0:World}{st:St}{β:Nat→BV}{a:Act}{w:World}
theorem Sim.sha {P:Program}(hA:Ap P X0 M w0) (h:Sim N X0 M w0 st β a w) (i:Nat):∃β',Sim N X0 M w0 (st.sha i) β' a w:=by
 unfold St.sha;split
 case h_2=>exact⟨β,h⟩
 case h_1 _ e s rows hi =>
 let β':Nat→BV:=fun j=>if j=i then plain (β i).val else β j
 have hval:∀j,(β' j).val=(β j).val:=fun j=>by
  show(if j=i then plain (β i).val else β j).val=_
  split
  ·rename_i e;subst e;rfl
  ·rfl
 have hne:∀j,j≠i→β' j=β j:=fun j hj=>if_neg hj
 have hsame:β' i=plain (β i).val:=if_pos rfl;have hO:=h.objs i _ hi
 have hsub:∀b,(β' i).ft b→(β i).ft b:=fun b hb=>by
  rw[hsame]at hb;have hb:blk (β i).val=some b:=hb
  cases hO with
  |dp hd he =>
   generalize(β i).val=v at hd hb;generalize(β i).ft=F at hd
   cases hd with
   |nil=>cases hb
   |sl e b0 cap cur us fs F hh h1 h2 h3 h4 h5 h6 h7 h8 h9 h10 hF =>
    have hb':some b0=some b:=hb;cases hb';exact(hF _).2 (.inl rfl)
 have hlk:∀j o,lk j ((i,Ob.sl e s rows)::er i st.hp)=some o→(j=i∧o=.sl e s rows)∨(j≠i∧lk j st.hp=some o):=fun j o hj=>by
  simp only[lk]at hj;split at hj
  ·rename_i e';exact .inl ⟨e',(vSn hj).symm⟩
  ·rename_i e';rw[kAt e']at hj;exact .inr ⟨e',hj⟩
 have hft:∀id ob b,lk id ((i,Ob.sl e s rows)::er i st.hp)=some ob→(β' id).ft b→∃j o,lk j st.hp=some o∧(β j).ft b:=fun id ob b hid hb=>by
  rcases hlk id ob hid with⟨e1,e2⟩|⟨e1,e2⟩
  ·subst e1;exact⟨_,_,hi,hsub b hb⟩
  ·rw[hne id e1]at hb;exact⟨id,ob,e2,hb⟩
 have hS:Same (XX X0 β st.hp) w w:=⟨jDu _,fun _ _ _=>rfl⟩
 refine⟨β',h.ghost (st':={ st with hp:=(i,.sl e s rows)::er i st.hp }) (fun j=>by rw[hval j];exact h.beta j) (fun j _=>hval j) hft (fun t x hx=>⟨x,hx,fun v hR=>hR.val_eq hval⟩) (fun id ob hid=>?_) (fun p q op oq b hp hq hbp hbq=>?_)⟩
 ·rcases hlk id ob hid with⟨rfl,rfl⟩|⟨e1,e2⟩
  ·rw[hsame]
   have hnX:∀b,(β id).ft b→blk (β id).val≠some b→¬XX X0 β' ((id,Ob.sl e s rows)::er id st.hp) b:=fun b hb hnb hx=>by
    rcases hx with hx|⟨t,o,ht,hbt⟩
    ·obtain⟨h1,h2⟩:=hA.old b hx;rcases h.mine id _ b hi hb with h3|h3
     ·exact h2 h3
     ·omega
    ·rcases hlk t o ht with⟨e1,_⟩|⟨e1,e2⟩
     ·subst e1;rw[hsame]at hbt;exact hnb hbt
     ·rw[hne t e1]at hbt;exact e1 (h.inj t id o _ b e2 hi hbt hb)
   cases hO with
   |dp hd he =>
    generalize(β id).val=v at hd he hnX;generalize(β id).ft=F at hd hnX
    cases hd with
    |nil=>exact .nil e s rfl
    |sl e0 b0 cap cur us fs F hh h1 h2 h3 h4 h5 h6 h7 h8 h9 h10 hF =>
     obtain⟨cur2,hcur⟩:=he b0 rfl;rw[hh]at hcur;cases hcur;refine .sl b0 cap cur us rfl hh h1 h2 h3 h4 (fun j k row c q1 q2=>h5 j k (kI0 h4 q1 q2).1 (kI0 h4 q1 q2).2) (fun j k row c q1 q2=>h6 j k (kI0 h4 q1 q2).1 (kI0 h4 q1 q2).2) (fun j k row c q1 q2=>(h7 j k row c q1 q2).rp fun b hb=>?_)
     refine hnX b ((hF b).2 (.inr ⟨j,k,hb⟩)) (fun hbb=>?_)
     have hbb':some b0=some b:=hbb;cases hbb';exact h9 j k hb
  ·rw[hne id e1];exact((h.objs id ob e2).mono hS (fun b _ hb=>kMg (st:=st) hft hb) (fun _ _=>rfl)).val_eq hval
 ·have key:∀t o,lk t ((i,Ob.sl e s rows)::er i st.hp)=some o→(β' t).ft b→∃o',lk t st.hp=some o'∧(β t).ft b:=fun t o ht hb=>by
   rcases hlk t o ht with⟨e1,_⟩|⟨e1,e2⟩
   ·subst e1;exact⟨_,hi,hsub b hb⟩
   ·rw[hne t e1]at hb;exact⟨o,e2,hb⟩
  obtain⟨o1,k1,k2⟩:=key p op hp hbp;obtain⟨o2,k3,k4⟩:=key q oq hq hbq;exact h.inj p q o1 o2 b k1 k3 k2 k4
theorem Sim.k0b {P:Program}(hA:Ap P X0 M w0):∀(l:List Nat) {st:St}{β:Nat→BV},Sim N X0 M w0 st β a w→∃β',Sim N X0 M w0 (st.k0b l) β' a w
 | [],_,β,h=>⟨β,h⟩
 |i::l,_,_,h=>by obtain⟨β',h'⟩:=h.sha hA i;exact Sim.k0b hA l h'
end
attribute [go_sem] St.sha St.k0b
section
variable {c:Cx}{N:Nat}{X0:Nat→Prop}{M:Nat→BV→Prop}{w0:World}{K:Exit→St→Prop}{st:St}
theorem WP.sha (l:List Nat) {code:Code}(h:WP c N X0 M w0 code (st.k0b l) K):WP c N X0 M w0 code st K:=fun hA β a w hs=>by
 obtain⟨β',h'⟩:=hs.k0b hA l;exact h hA β' a w h'
end
end Go.Vc
namespace Go.Proofs.YtjdklcjoeanimaaGreat
open Go.Vc Tryz
attribute [local irreducible] Go.Vc.WP
attribute [local go_sem] kYv kNi
def kAu (x:Image):Nat:=1+3*x.symbols.length
def kEf (k:Int) (x:Image):Image:=⟨markT k,kBa (k+1) x.symbols.length⟩
def kAv (x:Mach):Nat:=5+x.stack.length+x.out.length
def kCs (k:Int) (x:Mach):Mach:=⟨k,k+1,k+1+1,kBv (k+1+1+1) x.stack.length,kBv (k+1+1+1+(x.stack.length:Int)) x.out.length,k+1+1+1+(x.stack.length:Int)+(x.out.length:Int),k+1+1+1+(x.stack.length:Int)+(x.out.length:Int)+1⟩
theorem kP3 {I:List Image}(hL:I.length≤2097152) (hY:∀x∈I,x.symbols.length≤2097152):kAy kAu I≤17592186044416 :=
 jZ9 (kYt I 8388608 fun x hx=>by have:=hY x hx;unfold kAu;omega) (jZ9 (wF7 _ hL) (by decide))
theorem kOf {T:List Mach}(hL:T.length≤1048576) (hY:∀x∈T,kCr x):kAy kAv T≤17592186044416 :=
 jZ9 (kYt T 8388608 fun x hx=>by have:=hY x hx;unfold kCr at this;unfold kAv;omega) (jZ9 (wF7 _ hL) (by decide))
@[go_sem] def qJ9:Ctr:=len [0] [] (fun args obs=>(kDf (oD obs 1000000),aI args 1,oE obs 1000000)) (fun x=>[.own 1000000,vi x.2.1]) (fun x=>[(1000000,.dp x.2.2 2 (x.1.map encImage))]) (fun x=>(x.1.length≤2097152∧∀y∈x.1,y.symbols.length≤2097152)∧0≤x.2.1∧x.2.1≤300000000000000)
 (fun _ x=>vi ((x.2.1+(kAy kAu x.1:Int)))) (fun _ _=>[]) (fun x=>[(1000000,.dp x.2.2 2 ((mkA kAu kEf x.2.1 x.1).map encImage))])
section
def cxMim:=kc kM6 (kc kWk kn)
theorem qKa:Cq 126 qJ9:=by
 refine zn fun d x hd hx=>?_
 obtain⟨L,k0,ee⟩:=x;obtain⟨⟨hL,hY⟩,h0,h1⟩:=hx;simp only at hL hY h0 h1⊢;have hcnt:=kP3 hL hY;refine zl cxMim func126 rfl rfl ntmps126 ?_;intros;refine zy trivial ?_;refine zL (fun k:Nat=>⟨[(0,.own 1000000),(1,vi ((k0+(kAy kAu (L.take k):Int)))),(5,vi k)],[(1000000,.dp ee 2 ((hfA kAu kEf k0 L k).map encImage))]⟩) (fun k=>k≤L.length) (fun k=>L.length-k) 0 zo ?_ ?_
 ·have e2:kAy kAu (L.take 0)=0:=rfl;rw[k0j,e2];(simp only[go_sem]<;>(first|(and_intros<;>rfl)|simp))
 intro k hk;have h2:=k4l (cnt:=kAu) (mrk:=kEf) L k0 k hk;have hc2:=kEd (cnt:=kAu) L k;by_cases hlt:k<L.length
 ·have h3:=k4n (cnt:=kAu) (mrk:=kEf) (en:=encImage) L k0 k hlt;have h4:=k4m (cnt:=kAu) (mrk:=kEf) (en:=encImage) L k0 k hlt;have hsh:=hY _ (jCn hlt);have hc3:=kPu (cnt:=kAu) L k hlt;have hc4:=kEd (cnt:=kAu) L (k+1);generalize L[k]=y at h3 h4 hsh hc3;obtain⟨yc,yY⟩:=y;generalize hkk:k0+(kAy kAu (L.take k):Int)=kk at h3;rw[encImage,kEf]at h3;rw[encImage]at h4;simp only at h3 h4 hsh;rw[show kAu ⟨yc,yY⟩=1+3*yY.length from rfl]at hc3
  refine zO [.abs 1000000 1,.fld 1000000] ?_;refine zG [.opn 1000000 k,.kUq 1000000 1 500] ?_;simp only[go_sem,h2,h4];refine⟨hlt,fun e1=>?_⟩
  refine zy (z3 h2 h3 h4) ?_;refine⟨k+1,zo,zo,⟨?_,rfl⟩,rfl⟩;rw[show kk+1+3*(yY.length:Int)=k0+(kAy kAu (List.take (k+1) L):Int)by omega]
 ·have h5:hfA kAu kEf k0 L k=mkA kAu kEf k0 L:=by rw[show k=L.length by omega];exact k4o _ _
  have h6:=kJg (cnt:=kAu) (mrk:=kEf) L k0
  (repeat' (first|apply zS|apply zB|(apply zW;simp only[go_sem,h2,h5,h6])|apply jAi|exact zc0|intro _))
  all_goals rw[show k=L.length by omega,jJ3]
end
@[go_sem] def qGv:Ctr:=len [0] [] (fun args obs=>(kHg (oD obs 1000000),aI args 1,oE obs 1000000)) (fun x=>[.own 1000000,vi x.2.1]) (fun x=>[(1000000,.dp x.2.2 7 (x.1.map encMach))]) (fun x=>(x.1.length≤1048576∧∀y∈x.1,kCr y)∧0≤x.2.1∧x.2.1≤300000000000000)
 (fun _ x=>vi ((x.2.1+(kAy kAv x.1:Int)))) (fun _ _=>[]) (fun x=>[(1000000,.dp x.2.2 7 ((mkA kAv kCs x.2.1 x.1).map encMach))])
section
def cxMma:=kc c18E kn
set_option maxHeartbeats 3000000 in
theorem qGw:Cq 132 qGv:=by
 refine zn fun d x hd hx=>?_
 obtain⟨L,k0,ee⟩:=x;obtain⟨⟨hL,hY⟩,h0,h1⟩:=hx;simp only at hL hY h0 h1⊢;have hcnt:=kOf hL hY;refine zl cxMma func132 rfl rfl ntmps132 ?_;intros;refine zy trivial ?_;refine zL (fun k:Nat=>⟨[(0,.own 1000000),(1,vi ((k0+(kAy kAv (L.take k):Int)))),(5,vi k)],[(1000000,.dp ee 7 ((hfA kAv kCs k0 L k).map encMach))]⟩) (fun k=>k≤L.length) (fun k=>L.length-k) 0 zo ?_ ?_
 ·have e2:kAy kAv (L.take 0)=0:=rfl;rw[k0j,e2];(simp only[go_sem]<;>(first|(and_intros<;>rfl)|simp))
 intro k hk;have h2:=k4l (cnt:=kAv) (mrk:=kCs) L k0 k hk;have hc2:=kEd (cnt:=kAv) L k;by_cases hlt:k<L.length
 ·have h3:=k4n (cnt:=kAv) (mrk:=kCs) (en:=encMach) L k0 k hlt;have h4:=k4m (cnt:=kAv) (mrk:=kCs) (en:=encMach) L k0 k hlt;have hsh:=hY _ (jCn hlt);have hc3:=kPu (cnt:=kAv) L k hlt;have hc4:=kEd (cnt:=kAv) L (k+1);generalize L[k]=y at h3 h4 hsh hc3;obtain⟨y1,y2,y3,yS,yO,y6,y7⟩:=y;obtain⟨hS,hO⟩:=hsh;generalize hkk:k0+(kAy kAv (L.take k):Int)=kk at h3;rw[encMach,kCs]at h3;rw[encMach]at h4;simp only at h3 h4 hS hO;rw[show kAv ⟨y1,y2,y3,yS,yO,y6,y7⟩=5+yS.length+yO.length from rfl]at hc3
  refine zO [.abs 1000000 3,.abs 1000000 4,.fld 1000000] ?_;refine zG [.opn 1000000 k,.kUq 1000000 3 500,.kUq 1000000 4 501] ?_;simp only[go_sem,h2,h4];refine⟨hlt,fun e1 e2=>?_⟩
  refine zy (z3 h2 h3 h4) ?_;refine⟨k+1,zo,zo,⟨?_,rfl⟩,rfl⟩;rw[show kk+1+1+1+(yS.length:Int)+(yO.length:Int)+1+1=k0+(kAy kAv (List.take (k+1) L):Int)by omega]
 ·have h5:hfA kAv kCs k0 L k=mkA kAv kCs k0 L:=by rw[show k=L.length by omega];exact k4o _ _
  have h6:=kJg (cnt:=kAv) (mrk:=kCs) L k0
  (repeat' (first|apply zS|apply zB|(apply zW;simp only[go_sem,h2,h5,h6])|apply jAi|exact zc0|intro _))
  all_goals rw[show k=L.length by omega,jJ3]
end
@[go_sem] def qKb:Ctr:=pur (fun args=>(kDf (aR args 0),aI args 1)) (fun x=>[.sl 2 (x.1.map encImage),vi x.2]) (fun x=>(x.1.length≤2097152∧∀y∈x.1,y.symbols.length≤2097152)∧(0≤x.2∧x.2≤300000000000000)∧mkA kAu kEf x.2 x.1=x.1) (fun _ x=>vi ((x.2+(kAy kAu x.1:Int)))) (fun _ _=>[])
section
def cxHim:=kc kM6 (kc k8l kn)
theorem qKc:Cq 204 qKb:=by
 refine zp fun d x hx=>?_
 obtain⟨L,k0⟩:=x;obtain⟨⟨hL,hY⟩,⟨h0,h1⟩,hmk⟩:=hx;simp only at hL hY h0 h1 hmk⊢;have hcnt:=kP3 hL hY;refine zg cxHim func204 rfl rfl ntmps204 ?_;intros;refine zy1 8 trivial ?_;refine zL (fun k:Nat=>⟨[(0,.sl 2 (L.map encImage)),(1,vi ((k0+(kAy kAu (L.take k):Int)))),(5,vi k)],[]⟩) (fun k=>k≤L.length) (fun k=>L.length-k) 0 zo ?_ ?_
 ·have e2:kAy kAu (L.take 0)=0:=rfl;rw[e2];(simp only[go_sem]<;>(first|(and_intros<;>rfl)|simp))
 intro k hk;have hc2:=kEd (cnt:=kAu) L k;by_cases hlt:k<L.length
 ·have h1r:=kAa encImage L k hlt;have hsh:=hY _ (jCn hlt);have hc3:=kPu (cnt:=kAu) L k hlt;have hc4:=kEd (cnt:=kAu) L (k+1)
  have hg:L[k]=kEf (k0+(kAy kAu (L.take k):Int)) L[k]:=by
   have:=k4p (cnt:=kAu) (mrk:=kEf) L k0 k hlt;rw[←this];congr 1;exact hmk.symm
  generalize L[k]=y at h1r hsh hc3 hg;obtain⟨yc,yY⟩:=y;generalize hkk:k0+(kAy kAu (L.take k):Int)=kk at hg;rw[kEf]at hg;simp only[Image.mk.injEq]at hg;obtain⟨g1,g2⟩:=hg;rw[encImage]at h1r;simp only at h1r hsh;rw[show kAu ⟨yc,yY⟩=1+3*yY.length from rfl]at hc3
  subst g1;have g3:(if yY=kBa (kk+1) yY.length then kk+1+3*(yY.length:Int)else -1)=kk+1+3*(yY.length:Int):=if_pos g2
  (repeat' (first|apply zS|apply zB|((first|apply zW| refine zd 8 ?_);simp only[go_sem,h1r,g3])|apply jAi|exact zc0|intro _))
  all_goals first|(refine⟨k+1,zo,zo,?_,rfl⟩;rw[show kk+1+3*(yY.length:Int)=k0+(kAy kAu (List.take (k+1) L):Int)by omega])|skip
 ·(repeat' (first|apply zS|apply zB|((first|apply zW| refine zd 8 ?_);simp only[go_sem])|apply jAi|exact zc0|intro _))
  all_goals rw[show k=L.length by omega,jJ3]
end
@[go_sem] def qGx:Ctr:=pur (fun args=>(kHg (aR args 0),aI args 1)) (fun x=>[.sl 7 (x.1.map encMach),vi x.2]) (fun x=>(x.1.length≤1048576∧∀y∈x.1,kCr y)∧(0≤x.2∧x.2≤300000000000000)∧mkA kAv kCs x.2 x.1=x.1) (fun _ x=>vi ((x.2+(kAy kAv x.1:Int)))) (fun _ _=>[])
section
def cxHma:=kc c19 kn
set_option maxHeartbeats 3000000 in
theorem qGy:Cq 136 qGx:=by
 refine zp fun d x hx=>?_
 obtain⟨L,k0⟩:=x;obtain⟨⟨hL,hY⟩,⟨h0,h1⟩,hmk⟩:=hx;simp only at hL hY h0 h1 hmk⊢;have hcnt:=kOf hL hY;refine zg cxHma func136 rfl rfl ntmps136 ?_;intros;refine zy trivial ?_;refine zL (fun k:Nat=>⟨[(0,.sl 7 (L.map encMach)),(1,vi ((k0+(kAy kAv (L.take k):Int)))),(5,vi k)],[]⟩) (fun k=>k≤L.length) (fun k=>L.length-k) 0 zo ?_ ?_
 ·have e2:kAy kAv (L.take 0)=0:=rfl;rw[e2];(simp only[go_sem]<;>(first|(and_intros<;>rfl)|simp))
 intro k hk;have hc2:=kEd (cnt:=kAv) L k;by_cases hlt:k<L.length
 ·have h1r:=kAa encMach L k hlt;have hsh:=hY _ (jCn hlt);have hc3:=kPu (cnt:=kAv) L k hlt;have hc4:=kEd (cnt:=kAv) L (k+1)
  have hg:L[k]=kCs (k0+(kAy kAv (L.take k):Int)) L[k]:=by
   have:=k4p (cnt:=kAv) (mrk:=kCs) L k0 k hlt;rw[←this];congr 1;exact hmk.symm
  generalize L[k]=y at h1r hsh hc3 hg;obtain⟨y1,y2,y3,yS,yO,y6,y7⟩:=y;obtain⟨hS,hO⟩:=hsh;generalize hkk:k0+(kAy kAv (L.take k):Int)=kk at hg;rw[kCs]at hg;simp only[Mach.mk.injEq]at hg;obtain⟨g1,g2,g3,g4,g5,g6,g7⟩:=hg;rw[encMach]at h1r;simp only at h1r hS hO;rw[show kAv ⟨y1,y2,y3,yS,yO,y6,y7⟩=5+yS.length+yO.length from rfl]at hc3
  subst y1 y2 y3 y6 y7;have g8:(if yS=kBv (kk+1+1+1) yS.length then kk+1+1+1+(yS.length:Int)else -1)=kk+1+1+1+(yS.length:Int):=if_pos g4
  have g9:(if yO=kBv (kk+1+1+1+(yS.length:Int)) yO.length then kk+1+1+1+(yS.length:Int)+(yO.length:Int)else -1)=kk+1+1+1+(yS.length:Int)+(yO.length:Int):=if_pos g5
  (repeat' (first|apply zS|apply zB|(apply zW;simp only[go_sem,h1r,g8,g9])|apply jAi|exact zc0|intro _))
  all_goals first|(refine⟨k+1,zo,zo,?_,rfl⟩;rw[show kk+1+1+1+(yS.length:Int)+(yO.length:Int)+1+1=k0+(kAy kAv (List.take (k+1) L):Int)by omega])|skip
 ·(repeat' (first|apply zS|apply zB|(apply zW;simp only[go_sem])|apply jAi|exact zc0|intro _))
  all_goals rw[show k=L.length by omega,jJ3]
end
end Go.Proofs.YtjdklcjoeanimaaGreat
namespace Go.Vc
def fz1e (kAb:List (Nat×Ob)):SV→SV
 | .own id=>match lk id kAb with
  |some (.sl _ s rows)=>.sl s rows
  |some (.dp _ s rows)=>.sl s rows
  | _=>.kAh
 | .v x=>.v x
 | .sl s rows=>.sl s rows
 | _=>.kAh
theorem Holds.fre {P:Program}{f:FuncId}{args:List SV}{res:SV}{kAb:List (Nat×Ob)}(h:Holds P f args res kAb) (hv:∀id e s rows,lk id kAb=some (.sl e s rows)→kMc rows):Holds P f args (res.up (fz1e kAb)) []:=by
 intro w X vs hG hX hl ha;refine(h w X vs hG hX hl ha).mono fun en w' ⟨v,β,he,hb,hβ,hR,hO,hn⟩=>?_
 refine⟨v,β,he,hb,hβ,?_,⟨fun id ob hi=>(by cases hi),fun i j oi oj b hi=>(by cases hi)⟩,fun id ob b hi=>(by cases hi)⟩
 have hS:Same (XX X β kAb) w' w':=⟨jDu _,fun _ _ _=>rfl⟩
 refine hR.up fun x u hx=>?_
 cases x with
 |own id =>
  have:=hx.kB9;subst this;simp only[fz1e];split
  ·rename_i e s rows hlk;refine .p ((hO.1 id _ hlk).toSl (fun b hb' hx=>?_) (hv id e s rows hlk))
   have h1:=hn id _ b hlk hb';rcases hx with hx|⟨i,o,hi,_⟩
   ·have:=hX b hx;omega
   ·cases hi
  ·rename_i e s rows hlk;refine .p ((hO.1 id (.dp e s rows) hlk).rd rfl (fun b hb' hx=>?_) (fun b hx=>?_))
   ·have h1:=hn id (.dp e s rows) b hlk hb';rcases hx with hx|⟨i,o,hi,_⟩
    ·have:=hX b hx;omega
    ·cases hi
   ·rcases hx with hx|⟨i,o,hi,_⟩
    ·exact .inl hx
    ·cases hi
  ·exact .kAh _
 |v y=>have:=hx.kAn;subst this;exact .p (.v _)
 |sl s rows=>exact .p (hx.kF4.mono hS (fun b _ hx=>by
   rcases hx with hx|⟨i,o,hi,_⟩
   ·exact .inl hx
   ·cases hi))
 | _=>exact .kAh _
theorem Cn.fre {P:Program}{f:FuncId}{X:Type}{dec:List SV→X}{A:X→List SV}{pre:X→Prop}{res:Nat→X→SV}{kAb:Nat→X→List (Nat×Ob)}{res':X→SV}
  (h:Cn P f (Go.Vc.pur dec A pre res kAb)) (hv:∀d x id e s rows,lk id (kAb d x)=some (.sl e s rows)→kMc rows) (he:∀d x,(res d x).up (fz1e (kAb d x))=res' x):Cn P f (Go.Vc.pur dec A pre (fun _ x=>res' x) (fun _ _=>[])) :=
 ⟨h.call,fun d args ha=>(by have:=(h.holds d args ha).fre (hv d _);rw[show((Go.Vc.pur dec A pre res kAb).pure d args).2.1=res d (dec args)from rfl,show((Go.Vc.pur dec A pre res kAb).pure d args).2.2=kAb d (dec args)from rfl,he]at this;exact this),fun _ _ _ h=>h.elim⟩
end Go.Vc
namespace Go.Proofs.YtjdklcjoeanimaaGreat
attribute [local irreducible] Go.Vc.WP
section
open Go.Vc Tryz
section
variable {α:Type}{cnt:α→Nat}{mrk:Int→α→α}
theorem kVq (hc:∀k x,cnt (mrk k x)=cnt x):∀(L:List α) (k:Int),kAy cnt (mkA cnt mrk k L)=kAy cnt L
 | [],_=>rfl
 |x::L,k=>by
  have:=kVq hc L (k+(cnt x:Int));simp only[mkA,kAy,jHi,yAi,hc]at this⊢;rw[this]
theorem k07 (hc:∀k x,cnt (mrk k x)=cnt x) (hm:∀k x,mrk k (mrk k x)=mrk k x):∀(L:List α) (k:Int),mkA cnt mrk k (mkA cnt mrk k L)=mkA cnt mrk k L
 | [],_=>rfl
 |x::L,k=>by simp only[mkA,hc,hm,k07 hc hm L]
end
theorem kVr (k:Int) (x:Image):kAu (kEf k x)=kAu x:=by simp[kAu,kEf,kCn]
theorem qBo (k:Int) (x:Image):kEf k (kEf k x)=kEf k x:=by simp[kEf,kCn]
theorem kZs (k:Int) (x:Mach):kAv (kCs k x)=kAv x:=by simp[kAv,kCs,kCh]
theorem qAs (k:Int) (x:Mach):kCs k (kCs k x)=kCs k x:=by simp[kCs,kCh]
def eSp (k:Int) (x:SpX):Int:=k+(kAy kAu x.1:Int)+(x.2.1.length:Int)+(x.2.2.length:Int)
def kH4 (k:Int) (x:SpX):SpX:=(mkA kAu kEf k x.1,kBv (k+(kAy kAu x.1:Int)) x.2.1.length,kBv (k+(kAy kAu x.1:Int)+(x.2.1.length:Int)) x.2.2.length)
def ePc (k:Int) (x:PcX):Int:=eSp k x.1+(kAy kAv x.2.1:Int)
def kKh (k:Int) (x:PcX):PcX:=(kH4 k x.1,mkA kAv kCs (eSp k x.1) x.2.1,x.2.2)
def eRg (k:Int) (x:RgX):Int:=k+(x.2.1.length:Int)
def k0w (k:Int) (x:RgX):RgX:=(x.1,kF9 k x.2.1.length,x.2.2)
def eSe (k:Int) (x:SeX):Int:=eRg (ePc k x.1) x.2.2.1
def kHc (k:Int) (x:SeX):SeX:=(kKh k x.1,x.2.1,k0w (ePc k x.1) x.2.2.1,x.2.2.2)
theorem qKd (k:Int) (x:SpX):eSp k (kH4 k x)=eSp k x:=by simp[eSp,kH4,kVq kVr,kCh]
theorem qKe (k:Int) (x:SpX):kH4 k (kH4 k x)=kH4 k x:=by simp[kH4,kVq kVr,k07 kVr qBo,kCh]
theorem qKf (k:Int) (x:PcX):ePc k (kKh k x)=ePc k x:=by simp[ePc,kKh,qKd,kVq kZs]
theorem qKg (k:Int) (x:PcX):kKh k (kKh k x)=kKh k x:=by simp[kKh,qKd,qKe,k07 kZs qAs]
theorem eSe_mk (k:Int) (x:SeX):eSe k (kHc k x)=eSe k x:=by simp[eSe,kHc,qKf,eRg,k0w,kIl]
theorem qJz (k:Int) (x:SeX):kHc k (kHc k x)=kHc k x:=by simp[kHc,qKf,qKg,k0w,kIl]
theorem k4x {α:Type}{cnt:α→Nat}{mrk:Int→α→α}{p:α→Prop}(hp:∀k x,p x→p (mrk k x)):∀(L:List α) (k:Int),(∀x∈L,p x)→∀y∈mkA cnt mrk k L,p y
 | [],_,_,y,hy=>by simp[mkA]at hy
 |x::L,k,h,y,hy=>by
  simp only[mkA,jDr]at hy;rcases hy with rfl|hy
  ·exact hp k x (h x jYt)
  ·exact k4x hp L _ (fun z hz=>h z (jZr _ hz)) y hy
theorem qP4 {x:SpX}(h:kO2 x) (k:Int):kO2 (kH4 k x):=by
 obtain⟨⟨h1,h2⟩,h3,h4⟩:=h;exact⟨⟨by simpa[kH4,kJg]using h1,k4x (p:=fun i:Image=>i.symbols.length≤2097152) (fun k x h=>by simpa[kEf,kCn]using h) _ _ h2⟩,by simpa[kH4,kCh]using h3,by simpa[kH4,kCh]using h4⟩
theorem qP5 {x:PcX}(h:kFr x) (k:Int):kFr (kKh k x):=by
 obtain⟨h1,h2,h3⟩:=h;exact⟨qP4 h1 k,by simpa[kKh,kJg]using h2,k4x (p:=kCr) (fun k x h=>by simpa[kCr,kCs,kCh]using h) _ _ h3⟩
theorem qPm {x:SeX}(h:kEc x) (k:Int):kEc (kHc k x):=⟨qP5 h.1 k,by simpa[kHc,k0w,kIl]using h.2⟩
theorem kT7 {x:SpX}(h:kO2 x) (k:Int):k≤eSp k x∧eSp k x≤k+17592190238720:=by
 have h1:=kP3 h.1.1 h.1.2;have:=h.2.1;have:=h.2.2;unfold eSp;omega
theorem k8v {x:PcX}(h:kFr x) (k:Int):k≤ePc k x∧ePc k x≤k+35184376283136:=by
 have h1:=kT7 h.1 k;have h2:=kOf h.2.1 h.2.2;unfold ePc;omega
def pcI (args:List SV):Int×Int×Int:=match(args[0]?:Option SV)with
 |some (.agg [_,_,_,_,.v (.int _ a),.v (.int _ b),.v (.int _ c)])=>(a,b,c)
 | _=>(0,0,0)
def rgI (args:List SV):Int×Int×Int:=match(args[0]?:Option SV)with
 |some (.agg [.v (.int _ a),_,.v (.int _ b),.v (.int _ c)])=>(a,b,c)
 | _=>(0,0,0)
@[go_sem] def qP6:Ctr:=len [0] [] (fun args obs=>(((kDf (oD obs 1000000),kBs (oR obs 1000001),kBs (oR obs 1000002)):SpX),aI args 1)) (fun x=>[.agg [.own 1000000,.own 1000001,.own 1000002],vi x.2])
 (fun x=>[(1000000,.dp 144 2 (x.1.1.map encImage)),(1000001,.sl 3 1 (x.1.2.1.map encI)),(1000002,.sl 3 1 (x.1.2.2.map encI))]) (fun x=>kO2 x.1∧0≤x.2∧x.2≤100000000000000)
 (fun _ x=>vi (eSp x.2 x.1)) (fun _ _=>[]) (fun x=>[(1000000,.dp 144 2 ((kH4 x.2 x.1).1.map encImage)),(1000001,.sl 3 1 ((kH4 x.2 x.1).2.1.map encI)),(1000002,.sl 3 1 ((kH4 x.2 x.1).2.2.map encI))])
section
attribute [local go_sem] eSp kH4
def cxMsp:=kc qKa (kc c18E kn)
theorem qCp:Cq 58 qP6:=by
 refine zn fun d x hd hx=>?_
 obtain⟨⟨I,B,E⟩,k⟩:=x;obtain⟨⟨⟨hI,hIm⟩,hB,hE⟩,h0,h1⟩:=hx;simp only at hI hIm hB hE h0 h1⊢;have hcnt:=kP3 hI hIm;refine zl cxMsp func58 rfl rfl ntmps58 ?_;intros;exact zx trivial
end
@[go_sem] def qP7:Ctr:=len [0] [] (fun args obs=>((((kDf (oD obs 1000000),kBs (oR obs 1000001),kBs (oR obs 1000002)),kHg (oD obs 1000003),pcI args):PcX),aI args 1)) (fun x=>[.agg [.own 1000000,.own 1000001,.own 1000002,.own 1000003,vi x.1.2.2.1,vi x.1.2.2.2.1,vi x.1.2.2.2.2],vi x.2])
 (fun x=>[(1000000,.dp 144 2 (x.1.1.1.map encImage)),(1000001,.sl 3 1 (x.1.1.2.1.map encI)),(1000002,.sl 3 1 (x.1.1.2.2.map encI)),(1000003,.dp 206 7 (x.1.2.1.map encMach))]) (fun x=>kFr x.1∧0≤x.2∧x.2≤100000000000000)
 (fun _ x=>vi (ePc x.2 x.1)) (fun _ _=>[]) (fun x=>[(1000000,.dp 144 2 ((kKh x.2 x.1).1.1.map encImage)),(1000001,.sl 3 1 ((kKh x.2 x.1).1.2.1.map encI)),(1000002,.sl 3 1 ((kKh x.2 x.1).1.2.2.map encI)),(1000003,.dp 206 7 ((kKh x.2 x.1).2.1.map encMach))])
section
attribute [local go_sem] ePc kKh pcI
attribute [local irreducible] kCr
def cxMpc:=kc qCp (kc qGw kn)
set_option maxHeartbeats 3000000 in
theorem qP8:Cq 60 qP7:=by
 refine zn fun d x hd hx=>?_
 obtain⟨⟨⟨I,B,E⟩,T,tu,le,sl⟩,k⟩:=x;obtain⟨⟨hsp,hT,hTs⟩,h0,h1⟩:=hx;have hsp2:=hsp;obtain⟨⟨hI,hIm⟩,hB,hE⟩:=hsp2;simp only at hT hTs hI hIm hB hE h0 h1⊢;have hle:k≤eSp k (I,B,E)∧eSp k (I,B,E)≤k+17592190238720:=kT7 hsp k;have hcnt:=kOf hT hTs;refine zl cxMpc func60 rfl rfl ntmps60 ?_;intros;exact zx trivial
end
@[go_sem] def qP9:Ctr:=len [0] [] (fun args obs=>((((rgI args).1,kNn (oR obs 1000000),(rgI args).2):RgX),aI args 1)) (fun x=>[.agg [vi x.1.1,.own 1000000,vi x.1.2.2.1,vi x.1.2.2.2],vi x.2])
 (fun x=>[(1000000,.sl 9 1 (x.1.2.1.map encS))]) (fun x=>x.1.2.1.length≤2097152∧0≤x.2∧x.2≤200000000000000)
 (fun _ x=>vi (eRg x.2 x.1)) (fun _ _=>[]) (fun x=>[(1000000,.sl 9 1 ((k0w x.2 x.1).2.1.map encS))])
section
attribute [local go_sem] eRg k0w rgI
def cxMrg:=kc qQa kn
theorem qQb:Cq 61 qP9:=by
 refine zn fun d x hd hx=>?_
 obtain⟨⟨cp,R,wr,lo⟩,k⟩:=x;obtain⟨hR,h0,h1⟩:=hx;simp only at hR h0 h1⊢;refine zl cxMrg func61 rfl rfl ntmps61 ?_;intros;exact zx trivial
end
def seI (args:List SV):(Int×Int×Int)×Tm×(Int×Int×Int)×Int×Int×Int:=match(args[0]?:Option SV)with
 |some (.agg [_,_,_,_,.v (.int _ a),.v (.int _ b),.v (.int _ c),.v (.int _ p),.v (.int _ q),.v (.int _ l),.v (.int _ st),.v (.int _ cp),_,.v (.int _ wr),.v (.int _ lo),.v (.int _ mo),.v (.int _ sp),.v (.int _ fi)])=>((a,b,c),⟨p,q,l,st⟩,(cp,wr,lo),mo,sp,fi)
 | _=>((0,0,0),⟨0,0,0,0⟩,(0,0,0),0,0,0)
@[go_sem] def qQc:Ctr:=len [0] [] (fun args obs=>(((((kDf (oD obs 1000000),kBs (oR obs 1000001),kBs (oR obs 1000002)),kHg (oD obs 1000003),(seI args).1),(seI args).2.1,((seI args).2.2.1.1,kNn (oR obs 1000004),(seI args).2.2.1.2),(seI args).2.2.2):SeX),aI args 1))
 (fun x=>[.agg [.own 1000000,.own 1000001,.own 1000002,.own 1000003,vi x.1.1.2.2.1,vi x.1.1.2.2.2.1,vi x.1.1.2.2.2.2,vi x.1.2.1.period,vi x.1.2.1.spread,vi x.1.2.1.left,vi x.1.2.1.state,
  vi x.1.2.2.1.1,.own 1000004,vi x.1.2.2.1.2.2.1,vi x.1.2.2.1.2.2.2,vi x.1.2.2.2.1,vi x.1.2.2.2.2.1,vi x.1.2.2.2.2.2],vi x.2])
 (fun x=>[(1000000,.dp 144 2 (x.1.1.1.1.map encImage)),(1000001,.sl 3 1 (x.1.1.1.2.1.map encI)),(1000002,.sl 3 1 (x.1.1.1.2.2.map encI)),(1000003,.dp 206 7 (x.1.1.2.1.map encMach)),(1000004,.sl 9 1 (x.1.2.2.1.2.1.map encS))]) (fun x=>kEc x.1∧0≤x.2∧x.2≤100000000000000)
 (fun _ x=>vi (eSe x.2 x.1)) (fun _ _=>[]) (fun x=>[(1000000,.dp 144 2 ((kHc x.2 x.1).1.1.1.map encImage)),(1000001,.sl 3 1 ((kHc x.2 x.1).1.1.2.1.map encI)),(1000002,.sl 3 1 ((kHc x.2 x.1).1.1.2.2.map encI)),(1000003,.dp 206 7 ((kHc x.2 x.1).1.2.1.map encMach)),(1000004,.sl 9 1 ((kHc x.2 x.1).2.2.1.2.1.map encS))])
section
attribute [local go_sem] eSe kHc pcI rgI seI
attribute [local irreducible] kCr kFr
def qQd:=kc qP8 (kc qQb kn)
set_option maxHeartbeats 4000000 in
theorem qPh:Cq 17 qQc:=by
 refine zn fun d x hd hx=>?_
 obtain⟨⟨⟨⟨I,B,E⟩,T,tu,le,sl⟩,⟨p,q,l,st⟩,⟨cp,R,wr,lo⟩,mo,sp,fi⟩,k⟩:=x;obtain⟨⟨hpc,hR⟩,h0,h1⟩:=hx;simp only at hR h0 h1⊢;have hle:k≤ePc k ((I,B,E),T,tu,le,sl)∧ePc k ((I,B,E),T,tu,le,sl)≤k+35184376283136:=k8v hpc k;refine zl qQd func17 rfl rfl ntmps17 ?_;intros;exact zx trivial
end
@[go_sem] def qQe:Ctr:=pur (fun args=>(spA args 0,aI args 1)) (fun x=>[.agg [.sl 2 (x.1.1.map encImage),.sl 1 (x.1.2.1.map encI),.sl 1 (x.1.2.2.map encI)],vi x.2]) (fun x=>kO2 x.1∧(0≤x.2∧x.2≤100000000000000)∧kH4 x.2 x.1=x.1) (fun _ x=>vi (eSp x.2 x.1)) (fun _ _=>[])
section
attribute [local go_sem] eSp
def cxHsp:=kc qKc (kc c19 kn)
theorem qQf:Cq 135 qQe:=by
 refine zp fun d x hx=>?_
 obtain⟨⟨I,B,E⟩,k⟩:=x;obtain⟨⟨⟨hI,hIm⟩,hB,hE⟩,⟨h0,h1⟩,hmk⟩:=hx;simp only[kH4,jCx]at hI hIm hB hE h0 h1 hmk⊢;obtain⟨m1,m2,m3⟩:=hmk;have hcnt:=kP3 hI hIm;have g2:(if B=kBv (k+(kAy kAu I:Int)) B.length then k+(kAy kAu I:Int)+(B.length:Int)else -1)=k+(kAy kAu I:Int)+(B.length:Int):=if_pos m2.symm
 have g3:(if E=kBv (k+(kAy kAu I:Int)+(B.length:Int)) E.length then k+(kAy kAu I:Int)+(B.length:Int)+(E.length:Int)else -1)=k+(kAy kAu I:Int)+(B.length:Int)+(E.length:Int):=if_pos m3.symm
 refine zg cxHsp func135 rfl rfl ntmps135 ?_;intros;exact zx (z2 g2 g3)
end
@[go_sem] def qQg:Ctr:=pur (fun args=>(pcA args 0,aI args 1)) (fun x=>[.agg (aggPc x.1),vi x.2]) (fun x=>kFr x.1∧(0≤x.2∧x.2≤100000000000000)∧kKh x.2 x.1=x.1) (fun _ x=>vi (ePc x.2 x.1)) (fun _ _=>[])
section
attribute [local go_sem] ePc aggPc
attribute [local irreducible] kCr kO2
def cxHpc:=kc qQf (kc qGy kn)
set_option maxHeartbeats 3000000 in
theorem qQh:Cq 63 qQg:=by
 refine zp fun d x hx=>?_
 obtain⟨⟨⟨I,B,E⟩,T,tu,le,sl⟩,k⟩:=x;obtain⟨⟨hsp,hT,hTs⟩,⟨h0,h1⟩,hmk⟩:=hx;have m1:kH4 k (I,B,E)=(I,B,E):=congrArg Prod.fst hmk;have m2:mkA kAv kCs (eSp k (I,B,E)) T=T:=congrArg (fun y:PcX=>y.2.1) hmk
 simp only at hT hTs h0 h1⊢;have hle:k≤eSp k (I,B,E)∧eSp k (I,B,E)≤k+17592190238720:=kT7 hsp k;have hcnt:=kOf hT hTs;refine zg cxHpc func63 rfl rfl ntmps63 ?_;intros;exact zx trivial
end
@[go_sem] def qQi:Ctr:=pur (fun args=>(rgA args 0,aI args 1)) (fun x=>[.agg (aggRg x.1),vi x.2]) (fun x=>x.1.2.1.length≤2097152∧(0≤x.2∧x.2≤200000000000000)∧kF9 x.2 x.1.2.1.length=x.1.2.1) (fun _ x=>vi (eRg x.2 x.1)) (fun _ _=>[])
section
attribute [local go_sem] eRg aggRg
def cxHrg:=kc cheldS kn
theorem qQj:Cq 64 qQi:=by
 refine zp fun d x hx=>?_
 obtain⟨⟨cp,R,wr,lo⟩,k⟩:=x;obtain⟨hR,⟨h0,h1⟩,hmk⟩:=hx;simp only at hR h0 h1 hmk⊢;have g:(if R=kF9 k R.length then k+(R.length:Int)else -1)=k+(R.length:Int):=if_pos hmk.symm
 refine zg cxHrg func64 rfl rfl ntmps64 ?_;intros;exact zx g
end
@[go_sem] def qQk:Ctr:=pur (fun args=>(seA args 0,aI args 1)) (fun x=>[.agg (aggSe x.1),vi x.2]) (fun x=>kEc x.1∧(0≤x.2∧x.2≤100000000000000)∧kHc x.2 x.1=x.1) (fun _ x=>vi (eSe x.2 x.1)) (fun _ _=>[])
section
attribute [local go_sem] eSe aggSe aggPc aggRg
attribute [local irreducible] kCr kFr
def cxHse:=kc qQh (kc qQj kn)
set_option maxHeartbeats 4000000 in
theorem qPj:Cq 19 qQk:=by
 refine zp fun d x hx=>?_
 obtain⟨⟨⟨⟨I,B,E⟩,T,tu,le,sl⟩,⟨p,q,l,st⟩,⟨cp,R,wr,lo⟩,mo,sp,fi⟩,k⟩:=x;obtain⟨⟨hpc,hR⟩,⟨h0,h1⟩,hmk⟩:=hx;have m1:kKh k ((I,B,E),T,tu,le,sl)=((I,B,E),T,tu,le,sl):=congrArg Prod.fst hmk;have m2:kF9 (ePc k ((I,B,E),T,tu,le,sl)) R.length=R:=congrArg (fun y:SeX=>y.2.2.1.2.1) hmk
 simp only at hR h0 h1⊢;have hle:k≤ePc k ((I,B,E),T,tu,le,sl)∧ePc k ((I,B,E),T,tu,le,sl)≤k+35184376283136:=k8v hpc k;have hrg:eRg (ePc k ((I,B,E),T,tu,le,sl)) (cp,R,wr,lo)=ePc k ((I,B,E),T,tu,le,sl)+(R.length:Int):=rfl;refine zg cxHse func19 rfl rfl ntmps19 ?_;intros;exact zx trivial
end
end
section
open Go.Vc Tryz
open Go.Pl
attribute [local go_sem] kB7
theorem kZp (Y:List Inline):Szf (kHd Y):=fun l h=>by
 unfold kHd;split
 ·omega
 ·have:=k87 (kE2 Y) (l-Y.length) zo;omega
theorem k6x {L:List Inline}{l:Int}(h:0≤kHd L l):L.length≤l∧∀x∈L,x.name.size≤l:=by
 unfold kHd at h;split at h
 ·omega
 ·rename_i h2;refine⟨zo,fun x hx=>?_⟩
  have:=k4w (kE2 L) _ zo h x.name.size (jCr.2 ⟨x,hx,rfl⟩);omega
@[go_sem] def qMh:Ctr:=pur (fun args=>(kH8 (aR args 0),aI args 1)) (fun x=>[.sl 4 (x.1.map encRule),vi x.2]) (fun x=>x.1.length≤maxLen∧0≤x.2∧x.2≤1048576)
 (fun _ x=>vi (szA x.1.length x.2)) (fun _ _=>[])
section
def qMi:=COk.nil Tryz.prog
theorem qMj:Cq 144 qMh:=by
 refine zp fun d x hx=>?_
 obtain⟨L,left⟩:=x;obtain⟨hL,h0,h1⟩:=hx;simp only at hL h0 h1⊢;have hm:maxLen=9223372036854775807:=rfl;refine zg qMi func144 rfl rfl ntmps144 ?_;intros
 (repeat' (first|apply zS|apply zB|(apply zW;simp only[go_sem])|apply jAi|exact zc0|intro _))
 ·rename_i h;rw[szA,if_pos h]
 ·rename_i h;rw[szA,if_neg zo]
end
@[go_sem] def qOk:Ctr:=pur (fun args=>(kKv (aR args 0),aI args 1)) (fun x=>[.sl 3 (x.1.map encRow),vi x.2]) (fun x=>x.1.length≤maxLen∧0≤x.2∧x.2≤1048576)
 (fun _ x=>vi (szA x.1.length x.2)) (fun _ _=>[])
section
def qOl:=COk.nil Tryz.prog
theorem qOm:Cq 145 qOk:=by
 refine zp fun d x hx=>?_
 obtain⟨L,left⟩:=x;obtain⟨hL,h0,h1⟩:=hx;simp only at hL h0 h1⊢;have hm:maxLen=9223372036854775807:=rfl;refine zg qOl func145 rfl rfl ntmps145 ?_;intros
 (repeat' (first|apply zS|apply zB|(apply zW;simp only[go_sem])|apply jAi|exact zc0|intro _))
 ·rename_i h;rw[szA,if_pos h]
 ·rename_i h;rw[szA,if_neg zo]
end
def kNe (d:Debug):Int→Int:=szT (kC8 d.syms) (szT (szA d.rules.length) (szT (szA d.rows.length) (kHd d.kIv)))
theorem k0f (d:Debug):Szf (kNe d):=kPq (kLx _) (kPq (kFz _) (kPq (kFz _) (kZp _)))
def bigDbg (d:Debug):Prop:=(d.syms.length≤maxLen∧∀r∈d.syms,r.name.size≤maxLen)∧d.rules.length≤maxLen∧d.rows.length≤maxLen∧d.kIv.length≤maxLen∧∀r∈d.kIv,r.name.size≤maxLen
@[go_sem] def kszDbg:Ctr:=pur (fun args=>(kB7 (aC args 0),aI args 1)) (fun x=>[.agg (encDebug x.1),vi x.2]) (fun x=>bigDbg x.1∧0≤x.2∧x.2≤1048576)
 (fun _ x=>vi (kNe x.1 x.2)) (fun _ _=>[])
section
def cxZdb:=kc k2a (kc qMj (kc qOm (kc qEq kn)))
theorem cszDbg:Cq 72 kszDbg:=by
 refine zp fun d x hx=>?_
 obtain⟨⟨id,Z,R,W,I⟩,left⟩:=x;obtain⟨⟨⟨hZ,hZn⟩,hR,hW,hI,hIn⟩,h0,h1⟩:=hx;simp only at hZ hZn hR hW hI hIn h0 h1⊢;simp only[encDebug];have hu:kNe ⟨id,Z,R,W,I⟩ left=if kC8 Z left<0 then -1 else if szA R.length (kC8 Z left)<0 then -1 else if szA W.length (szA R.length (kC8 Z left))<0 then -1 else kHd I (szA W.length (szA R.length (kC8 Z left))):=rfl
 rw[hu];have f1:=kLx Z left h0;generalize hs1:kC8 Z left=s1 at *;refine zg cxZdb func72 rfl rfl ntmps72 ?_;intros;by_cases c1:s1<0
 ·rw[if_pos c1];exact zx (z2 hs1 c1)
 rw[if_neg c1];have f2:=kFz R.length s1 zo;generalize hs2:szA R.length s1=s2 at *;by_cases c2:s2<0
 ·rw[if_pos c2];exact zx (z4 hs1 c1 hs2 c2)
 rw[if_neg c2];have f3:=kFz W.length s2 zo;generalize hs3:szA W.length s2=s3 at *;by_cases c3:s3<0
 ·rw[if_pos c3];exact zx (z6 hs1 c1 hs2 c2 hs3 c3)
 rw[if_neg c3]
 (repeat' (first|apply zS|apply zB|(apply zW;simp only[go_sem,hs1,c1,hs2,c2,hs3,c3])|apply jAi|intro _))
 all_goals first|omega|exact hZn _ ‹_›|exact hIn _ ‹_›|(rename_i h;rw[kMt (kZp I) zo h])|skip
end
def kUc (L:List Debug):Int→Int:=kDa (L.map kNe)
theorem k5y (L:List Debug):Szf (kUc L):=kU9 _ (by simp only[jCr];rintro _ ⟨x,_,rfl⟩;exact k0f x)
@[go_sem] def qOn:Ctr:=pur (fun args=>(kKz (aR args 0),aI args 1)) (fun x=>[.sl 5 (x.1.map encDebug),vi x.2]) (fun x=>x.1.length≤maxLen∧(∀s∈x.1,bigDbg s)∧0≤x.2∧x.2≤1048576)
 (fun _ x=>vi (kUc x.1 x.2)) (fun _ _=>[])
section
attribute [local irreducible] bigDbg
def cxZds:=kc cszDbg kn
theorem qOo:Cq 24 qOn:=by
 refine zp fun d x hx=>?_
 obtain⟨L,left⟩:=x;obtain⟨hL,hs,h0,h1⟩:=hx;simp only at hL hs h0 h1⊢;have hm:maxLen=9223372036854775807:=rfl;generalize hF:(L.map kNe)=F;have hlen:F.length=L.length:=by rw[←hF,jH5]
 have hsz:kUc L left=kDa F left:=by rw[←hF];rfl
 rw[hsz];refine zg cxZds func24 rfl rfl ntmps24 ?_;intros
 (repeat' (first|apply zS|apply zB|(apply zW;simp only[go_sem])|apply jAi|exact zc0|intro _))
 ·rename_i h;rw[kDa,hlen,if_pos h]
 rename_i hge
 refine zL (fun s:Nat×Int=>⟨[(0,.sl 5 (L.map encDebug)),(1,vi s.2),(5,vi s.1)],[]⟩)
  (fun s=>s.1≤L.length∧0≤s.2∧s.2≤1048576∧kDa F left=szL (F.drop s.1) s.2) (fun s=>L.length-s.1) (0,left-L.length)
  ⟨zs,by simpa using hge,by simp only;omega,by rw[kDa,hlen,if_neg zo];rfl⟩ ?_ ?_
 ·simp only[go_sem];first|exact⟨rfl,rfl⟩|rfl
 rintro⟨k,r⟩ ⟨hk,hr0,hr1,he⟩;simp only at hk hr0 hr1 he⊢;by_cases hlt:k<L.length
 ·have h2:=kAa encDebug L k hlt;have h3:=hs _ (jCn hlt);have hFk:F[k]'zo=kNe L[k]:=by subst hF;simp
  have h4:=kU8 F k r zo;rw[hFk]at h4;have h6:=k0f L[k] r hr0;generalize L[k]=y at *;obtain⟨id,Z,R,W,I⟩:=y;by_cases h5:kNe ⟨id,Z,R,W,I⟩ r<0
  ·rw[he,h4,if_pos h5];exact zx (z3 h2 encDebug.eq_1 h5)
  ·rw[if_neg h5]at h4
   (repeat' (first|apply zS|apply zB|(apply zW;simp only[go_sem,h2,encDebug,h5])|apply jAi|omega|exact h3|exact⟨(k+1,kNe ⟨id,Z,R,W,I⟩ r),⟨by simp only;omega,by simp only;omega,by simp only;omega,by rw[he,h4]⟩,by simp only;omega,rfl,rfl⟩|intro _))
 ·refine zy trivial ?_;rw[he,vX7 zo];rfl
end
def kQh (x:AgX):Int→Int:=szT (kL3 x.1) (kUc x.2)
theorem qCm (x:AgX):Szf (kQh x):=kPq (kLh _) (k5y _)
def bigAg (x:AgX):Prop:=bigSp x.1∧x.2.length≤maxLen∧∀d∈x.2,bigDbg d
@[go_sem] def kszAg:Ctr:=pur (fun args=>(agA args 0,aI args 1)) (fun x=>[.agg (aggAg x.1),vi x.2]) (fun x=>bigAg x.1∧0≤x.2∧x.2≤1048576)
 (fun _ x=>vi (kQh x.1 x.2)) (fun _ _=>[])
section
attribute [local irreducible] bigDbg bigSp
def cxZag:=kc cszSp (kc qOo kn)
theorem cszAg:Cq 5 kszAg:=by
 refine zp fun d x hx=>?_
 obtain⟨⟨⟨I,B,E⟩,D⟩,left⟩:=x;obtain⟨⟨hsp,hD,hDb⟩,h0,h1⟩:=hx;simp only at hsp hD hDb h0 h1⊢;simp only[aggAg];have hu:kQh ((I,B,E),D) left=if kL3 (I,B,E) left<0 then -1 else kUc D (kL3 (I,B,E) left):=rfl
 rw[hu];have f1:=kLh (I,B,E) left h0;generalize hs1:kL3 (I,B,E) left=s1 at *;refine zg cxZag func5 rfl rfl ntmps5 ?_;intros;by_cases c1:s1<0
 ·rw[if_pos c1];exact zx (z2 hs1 c1)
 rw[if_neg c1]
 (repeat' (first|apply zS|apply zB|(apply zW;simp only[go_sem,hs1,c1])|apply jAi|intro _))
 all_goals first|omega|exact hsp|exact hDb _ ‹_›|(rename_i h;rw[kMt (k5y D) zo h])|skip
end
end
section
open Go.Vc Tryz
attribute [local go_sem] kB7 kYv kNi
theorem qGf (L:List Rule):kJv (L.map encRule)↔True:=kMv (fun x c hc=>by simp only[encRule,jDr,jJw,or_false]at hc;rcases hc with rfl|rfl|rfl|rfl<;>exact⟨_,rfl⟩) L
theorem qIv (L:List Row):kJv (L.map encRow)↔True:=kMv (fun x c hc=>by simp only[encRow,jDr,jJw,or_false]at hc;rcases hc with rfl|rfl|rfl<;>exact⟨_,rfl⟩) L
theorem k9b (L:List Inline):kJv (L.map encInline)↔True:=kMv (fun x c hc=>by simp only[encInline,jDr,jJw,or_false]at hc;rcases hc with rfl|rfl|rfl|rfl|rfl<;>exact⟨_,rfl⟩) L
attribute [local go_sem] qGf qIv k9b
def kLk (d:Debug):Prop:=d.syms.length≤2097152∧d.rules.length≤2097152∧d.rows.length≤2097152∧d.kIv.length≤2097152
def k0e (x:AgX):Prop:=kO2 x.1∧x.2.length≤1048576∧∀d∈x.2,kLk d
@[go_sem] def kqDbg:Ctr:=pur (fun args=>kB7 (aC args 0)) (fun d=>[.agg (encDebug d),.agg (encDebug d)]) kLk (fun _ _=>.v (.bool true)) (fun _ _=>[])
section
def cxQdb:=kc k1z (kc qLr (kc qNw (kc qEn kn)))
theorem cqDbg:Cq 125 kqDbg:=by
 refine zp fun d x hx=>?_
 obtain⟨id,Z,R,W,I⟩:=x;obtain⟨h1,h2,h3,h4⟩:=hx;simp only at h1 h2 h3 h4⊢;simp only[encDebug];refine zg cxQdb func125 rfl rfl ntmps125 ?_;intros;exact zx trivial
end
@[go_sem] def kqDbgS:Ctr:=pur (fun args=>kKz (aR args 0)) (fun L=>[.sl 5 (L.map encDebug),.sl 5 (L.map encDebug)]) (fun L=>L.length≤1048576∧∀d∈L,kLk d) (fun _ _=>.v (.bool true)) (fun _ _=>[])
section
attribute [local irreducible] kLk
def cxQds:=kc cqDbg kn
theorem cqDbgS:Cq 57 kqDbgS:=by
 refine zp fun d x hx=>?_
 rename List Debug=>L
 obtain⟨hL,hY⟩:=hx;refine zg cxQds func57 rfl rfl ntmps57 ?_;intros;refine zy1 10 trivial ?_;refine zL (fun k:Nat=>⟨[(0,.sl 5 (L.map encDebug)),(1,.sl 5 (L.map encDebug)),(5,vi k)],[]⟩) (fun k=>k≤L.length) (fun k=>L.length-k) 0 zs ?_ ?_
 ·simp only[go_sem];first|exact⟨rfl,rfl⟩|rfl
 intro k hk;by_cases hlt:k<L.length
 ·have h1:=kAa encDebug L k hlt;have h0:=hY _ (jCn hlt);generalize L[k]=y at *;obtain⟨id,Z,R,W,I⟩:=y
  (repeat' (first|apply zS|apply zB|((first|apply zW| refine zd 10 ?_);simp only[go_sem,h1,encDebug])|apply jAi|omega|exact h0|exact⟨k+1,zo,zo,rfl⟩|exact⟨k+1,zo,zo,rfl,rfl⟩|intro _))
 ·exact zx1 10 trivial
end
@[go_sem] def kqAg:Ctr:=pur (fun args=>agA args 0) (fun x=>[.agg (aggAg x),.agg (aggAg x)]) k0e (fun _ _=>.v (.bool true)) (fun _ _=>[])
section
attribute [local irreducible] kLk kO2
def cxQag:=kc cqSp (kc cqDbgS kn)
theorem cqAg:Cq 15 kqAg:=by
 refine zp fun d x hx=>?_
 obtain⟨⟨I,B,E⟩,D⟩:=x;obtain⟨h1,h2,h3⟩:=hx;simp only at h1 h2 h3⊢;simp only[aggAg];refine zg cxQag func15 rfl rfl ntmps15 ?_;intros;exact zx trivial
end
@[go_sem] def qOe:Ctr:=pur (fun args=>kB7 (aC args 0)) (fun x=>[.agg (encDebug x)]) kLk
 (fun d x=>.agg [vi x.id,.own d,.own (d+1000),.own (d+2000),.own (d+3000)]) (fun d x=>[(d,.sl 214 3 (x.syms.map encSymbol)),(d+1000,.sl 252 4 (x.rules.map encRule)),(d+2000,.sl 254 3 (x.rows.map encRow)),(d+3000,.sl 256 5 (x.kIv.map encInline))])
section
def cxTdb:=kc k1y (kc qLo (kc qNt (kc qEk kn)))
set_option maxHeartbeats 3000000 in
theorem qOf:Cq 96 qOe:=by
 refine zp fun d x hx=>?_
 obtain⟨id,Z,R,W,I⟩:=x;obtain⟨h1,h2,h3,h4⟩:=hx;simp only at h1 h2 h3 h4⊢;simp only[encDebug];refine zg cxTdb func96 rfl rfl ntmps96 ?_;intros
 (repeat' (first|apply zS|apply zB|(apply zW;simp only[go_sem])|apply jAi|omega|exact⟨_,_,_,_,_,_,_,rfl⟩|exact⟨_,_,rfl,_,_,rfl,rfl⟩|exact if_neg zo|(rw[if_neg zo,if_neg zo];done)|(rw[if_neg zo,if_neg zo,if_neg zo];done)|(rw[if_neg zo,if_neg zo,if_neg zo,if_neg zo];done)|intro _))
end
def kRr:List SV:=[vi 0,.v (.slice none 0 0),.v (.slice none 0 0),.v (.slice none 0 0),.v (.slice none 0 0)]
@[go_sem] def qOg:Ctr:=pur (fun args=>kKz (aR args 0)) (fun L=>[.sl 5 (L.map encDebug)]) (fun L=>L.length≤1048576∧∀x∈L,kLk x) (fun d _=>.own d) (fun d L=>[(d,.dp 149 5 (L.map encDebug))])
section
attribute [local irreducible] kLk
def cxTds:=kc qOf kn
set_option maxHeartbeats 3000000 in
theorem qOh:Cq 38 qOg:=by
 refine zp fun d x hx=>?_
 rename List Debug=>L
 obtain⟨hL,hY⟩:=hx;refine zg cxTds func38 rfl rfl ntmps38 ?_;intros;refine zy trivial ?_;refine zG [.dp 7] ?_;simp only[go_sem];refine⟨kW4 zs,?_⟩;refine zL (fun k:Nat=>⟨[(0,.sl 5 (L.map encDebug)),(3,.own 7),(4,vi k)],[(7,.dp 149 5 (filled encDebug kRr L k))]⟩) (fun k=>k≤L.length) (fun k=>L.length-k) 0 zo ?_ ?_
 ·rw[kFy];simp only[go_sem];first|exact⟨rfl,rfl⟩|rfl
 intro k hk;by_cases hlt:k<L.length
 ·have h0:=hY _ (jCn hlt);have h1:=kAa encDebug L k hlt;have h2:=kBx encDebug kRr L k hk;have h3:Go.Vc.rowAt (filled encDebug kRr L k) k=[vi 0,.v (.slice none 0 0),.v (.slice none 0 0),.v (.slice none 0 0),.v (.slice none 0 0)]:=kG5 encDebug kRr L k hlt;have h4:=kG6 encDebug kRr L k hlt;generalize L[k]=y at *;obtain⟨id,Z,R,W,I⟩:=y;rw[encDebug]at h4;refine zO [.abs 7 1,.abs 7 2,.abs 7 3,.abs 7 4,.fld 7] ?_;refine zG [.opn 7 k] ?_;simp only[go_sem,h2,h3];refine⟨hlt,?_⟩
  (repeat' (first|apply zS|apply zB|(apply zW;simp only[go_sem,h1,h2,h3,h4,encDebug])|apply jAi|omega|exact h0|exact⟨k+1,zo,zo,rfl,rfl⟩|intro _))
 ·have h2:=kBx encDebug kRr L k hk;have h5:filled encDebug kRr L k=L.map encDebug:=by rw[show k=L.length by omega];exact kG4 _ _ _
  exact zx (z2 h2 h5)
end
@[go_sem] def ktoAgD:Ctr:=pur (fun args=>agA args 0) (fun x=>[.agg (aggAg x)]) k0e (fun d _=>.agg [.own d,.own (d+1000),.own (d+2000),.own (d+3000)])
 (fun d x=>[(d,.dp 144 2 (x.1.1.map encImage)),(d+1000,.sl 3 1 (x.1.2.1.map encI)),(d+2000,.sl 3 1 (x.1.2.2.map encI)),(d+3000,.dp 149 5 (x.2.map encDebug))])
section
attribute [local irreducible] kLk
def cxTag:=kc qIw (kc qOh kn)
theorem ctoAgD:Cq 9 ktoAgD:=by
 refine zp fun d x hx=>?_
 obtain⟨⟨I,B,E⟩,D⟩:=x;obtain⟨hsp,h2,h3⟩:=hx;have hsp2:=hsp;obtain⟨⟨hI,hIm⟩,hB,hE⟩:=hsp2;simp only at h2 h3 hI hIm hB hE⊢;simp only[aggAg];refine zg cxTag func9 rfl rfl ntmps9 ?_;intros
 (repeat' (first|apply zS|apply zB|(apply zW;simp only[go_sem])|apply jAi|omega|exact hIm _ ‹_›|exact h3 _ ‹_›|exact hsp|exact⟨_,_,_,_,_,_,_,rfl⟩|exact⟨_,_,rfl,_,_,rfl,rfl⟩|exact if_neg zo|(rw[if_neg zo,if_neg zo];done)|(rw[if_neg zo,if_neg zo,if_neg zo];done)|(rw[if_neg zo,if_neg zo,if_neg zo,if_neg zo];done)|intro _))
end
def kDe (d:Debug):Nat:=1+3*d.syms.length+4*d.rules.length+3*d.rows.length+5*d.kIv.length
def kLz (k:Int) (d:Debug):Debug:=⟨k,kBa (k+1) d.syms.length,kJm (k+1+3*(d.syms.length:Int)) d.rules.length,kKw (k+1+3*(d.syms.length:Int)+4*(d.rules.length:Int)) d.rows.length,kHe (k+1+3*(d.syms.length:Int)+4*(d.rules.length:Int)+3*(d.rows.length:Int)) d.kIv.length⟩
theorem kW5 {T:List Debug}(hL:T.length≤1048576) (hY:∀x∈T,kLk x):kAy kDe T≤70368744177664 :=
 jZ9 (kYt T 67108864 fun x hx=>by have:=hY x hx;unfold kLk at this;unfold kDe;omega) (jZ9 (wF7 _ hL) (by decide))
@[go_sem] def qIx:Ctr:=len [0] [] (fun args obs=>(kKz (oD obs 1000000),aI args 1,oE obs 1000000)) (fun x=>[.own 1000000,vi x.2.1]) (fun x=>[(1000000,.dp x.2.2 5 (x.1.map encDebug))]) (fun x=>(x.1.length≤1048576∧∀y∈x.1,kLk y)∧0≤x.2.1∧x.2.1≤200000000000000)
 (fun _ x=>vi ((x.2.1+(kAy kDe x.1:Int)))) (fun _ _=>[]) (fun x=>[(1000000,.dp x.2.2 5 ((mkA kDe kLz x.2.1 x.1).map encDebug))])
section
def cxMdb:=kc kWk (kc qEz (kc qH2 (kc k8c kn)))
set_option maxHeartbeats 4000000 in
theorem qIy:Cq 59 qIx:=by
 refine zn fun d x hd hx=>?_
 obtain⟨L,k0,ee⟩:=x;obtain⟨⟨hL,hY⟩,h0,h1⟩:=hx;simp only at hL hY h0 h1⊢;have hcnt:=kW5 hL hY;refine zl cxMdb func59 rfl rfl ntmps59 ?_;intros;refine zy trivial ?_;refine zL (fun k:Nat=>⟨[(0,.own 1000000),(1,vi ((k0+(kAy kDe (L.take k):Int)))),(5,vi k)],[(1000000,.dp ee 5 ((hfA kDe kLz k0 L k).map encDebug))]⟩) (fun k=>k≤L.length) (fun k=>L.length-k) 0 zo ?_ ?_
 ·have e2:kAy kDe (L.take 0)=0:=rfl;rw[k0j,e2];(simp only[go_sem]<;>(first|(and_intros<;>rfl)|simp))
 intro k hk;have h2:=k4l (cnt:=kDe) (mrk:=kLz) L k0 k hk;have hc2:=kEd (cnt:=kDe) L k;by_cases hlt:k<L.length
 ·have h3:=k4n (cnt:=kDe) (mrk:=kLz) (en:=encDebug) L k0 k hlt;have h4:=k4m (cnt:=kDe) (mrk:=kLz) (en:=encDebug) L k0 k hlt;have hsh:=hY _ (jCn hlt);have hc3:=kPu (cnt:=kDe) L k hlt;have hc4:=kEd (cnt:=kDe) L (k+1);generalize L[k]=y at h3 h4 hsh hc3;obtain⟨id,Z,R,W,I⟩:=y;obtain⟨s1,s2,s3,s4⟩:=hsh;generalize hkk:k0+(kAy kDe (L.take k):Int)=kk at h3;rw[encDebug,kLz]at h3;rw[encDebug]at h4;simp only at h3 h4 s1 s2 s3 s4;rw[show kDe ⟨id,Z,R,W,I⟩=1+3*Z.length+4*R.length+3*W.length+5*I.length from rfl]at hc3
  refine zO [.abs 1000000 1,.abs 1000000 2,.abs 1000000 3,.abs 1000000 4,.fld 1000000] ?_;refine zG [.opn 1000000 k,.kUq 1000000 1 500,.kUq 1000000 2 501,.kUq 1000000 3 502,.kUq 1000000 4 503] ?_;simp only[go_sem,h2,h4];refine⟨hlt,fun e1 e2 e3 e4=>?_⟩
  refine zy (z3 h2 h3 h4) ?_;refine⟨k+1,zo,zo,⟨?_,rfl⟩,rfl⟩;rw[show kk+1+3*(Z.length:Int)+4*(R.length:Int)+3*(W.length:Int)+5*(I.length:Int)=k0+(kAy kDe (List.take (k+1) L):Int)by omega]
 ·have h5:hfA kDe kLz k0 L k=mkA kDe kLz k0 L:=by rw[show k=L.length by omega];exact k4o _ _
  have h6:=kJg (cnt:=kDe) (mrk:=kLz) L k0
  (repeat' (first|apply zS|apply zB|(apply zW;simp only[go_sem,h2,h5,h6])|apply jAi|exact zc0|intro _))
  all_goals rw[show k=L.length by omega,jJ3]
end
def eAg (k:Int) (x:AgX):Int:=eSp k x.1+(kAy kDe x.2:Int)
theorem eAg_le {x:AgX}(h:k0e x) {k:Int}:k≤eAg k x∧eAg k x≤k+87960934416384:=by
 have h1:=@kT7 x.1 h.1 k;have h2:=kW5 h.2.1 h.2.2;unfold eAg;omega
@[go_sem] def qOi:Ctr:=len [0] [] (fun args obs=>((((kDf (oD obs 1000000),kBs (oR obs 1000001),kBs (oR obs 1000002)),kKz (oD obs 1000003)):AgX),aI args 1)) (fun x=>[.agg [.own 1000000,.own 1000001,.own 1000002,.own 1000003],vi x.2])
 (fun x=>[(1000000,.dp 144 2 (x.1.1.1.map encImage)),(1000001,.sl 3 1 (x.1.1.2.1.map encI)),(1000002,.sl 3 1 (x.1.1.2.2.map encI)),(1000003,.dp 149 5 (x.1.2.map encDebug))]) (fun x=>k0e x.1∧0≤x.2∧x.2≤100000000000000)
 (fun _ x=>vi (eAg x.2 x.1)) (fun _ _=>[]) (fun x=>[(1000000,.dp 144 2 ((kH4 x.2 x.1.1).1.map encImage)),(1000001,.sl 3 1 ((kH4 x.2 x.1.1).2.1.map encI)),(1000002,.sl 3 1 ((kH4 x.2 x.1.1).2.2.map encI)),(1000003,.dp 149 5 ((mkA kDe kLz (eSp x.2 x.1.1) x.1.2).map encDebug))])
section
attribute [local go_sem] eAg
attribute [local irreducible] kLk
def cxMag:=kc qCp (kc qIy kn)
set_option maxHeartbeats 3000000 in
theorem qOj:Cq 16 qOi:=by
 refine zn fun d x hd hx=>?_
 obtain⟨⟨⟨I,B,E⟩,D⟩,k⟩:=x;obtain⟨⟨hsp,hD,hDs⟩,h0,h1⟩:=hx;have hsp2:=hsp;obtain⟨⟨hI,hIm⟩,hB,hE⟩:=hsp2;simp only at hD hDs hI hIm hB hE h0 h1⊢;have hle:k≤eSp k (I,B,E)∧eSp k (I,B,E)≤k+17592190238720:=kT7 (x:=(I,B,E)) hsp k;have hcnt:=kW5 hD hDs;refine zl cxMag func16 rfl rfl ntmps16 ?_;intros;exact zx trivial
end
end
end Go.Proofs.YtjdklcjoeanimaaGreat
