/-
  DERIVED. Several texts of ours in one: VtSeD2.
-/
import Derived.Test.YtjdklcjoeanimaaGreatVd29
set_option linter.unusedSimpArgs false
set_option linter.unusedVariables false
set_option maxHeartbeats 1000000
set_option maxRecDepth 10000
namespace Go.Proofs.YtjdklcjoeanimaaGreat
open Go.Vc
attribute [local irreducible] Go.Vc.WP
attribute [local go_sem] kAd kAe
def kRz:List Go.Vc.Fp:=[⟨[1],[],[5],[5,8],[],[]⟩,⟨[3],[0],[5],[5,8],[],[]⟩,⟨[],[],[],[8],[],[5]⟩,⟨[1],[],[],[5,8],[],[]⟩,⟨[6],[3],[],[5,8],[],[]⟩,⟨[5,7],[2,3,4],[],[],[5],[8]⟩,⟨[],[0,1,2,3,4,5],[],[],[],[]⟩,⟨[],[0,1,2,3,4,5,6],[],[],[],[]⟩]
def kJw:List Go.Vc.Fp:=[⟨[],[],[],[3,9,10,13],[],[6]⟩,⟨[1],[],[],[3,6,9,10,13],[],[]⟩,⟨[7],[1],[],[3,6,9,10,13],[],[]⟩,⟨[6,8],[0,1,2],[],[3,10,13],[6],[9]⟩,⟨[],[],[6],[3,6,9,13],[],[10]⟩,⟨[1],[],[6],[3,6,9,10,13],[],[]⟩,⟨[11],[5],[6],[3,6,9,10,13],[],[]⟩,⟨[10,12],[0,1,2,3,4,5,6],[6],[3],[10],[13]⟩,⟨[9,13],[0,1,2,3,4,5,6,7],[6,10],[3],[],[]⟩,⟨[],[],[6,10],[6,9,10,13],[],[3]⟩,⟨[],[0,1,2,3,4,5,6,7,8,9],[],[],[],[]⟩]
def kM2:List Go.Vc.Fp:=[⟨[3],[],[26],[26,29,31],[],[]⟩,⟨[22],[0],[26],[26,29,31],[],[]⟩,⟨[5],[],[26],[26,29,31],[],[]⟩,⟨[24],[2],[26],[26,29,31],[],[]⟩,⟨[],[],[],[29,31],[],[26]⟩,⟨[5],[],[],[26,29,31],[],[]⟩,⟨[27],[5],[],[26,29,31],[],[]⟩,⟨[26,28],[4,5,6],[],[31],[26],[29]⟩,⟨[25,29],[2,3,4,5,6,7],[26],[31],[],[]⟩,⟨[30],[2,3,4,5,6,7,8],[26],[],[],[31]⟩,⟨[],[0,1,2,3,4,5,6,7,8,9],[],[],[],[]⟩,⟨[],[0,1,2,3,4,5,6,7,8,9,10],[],[],[],[]⟩,⟨[],[0,1,2,3,4,5,6,7,8,9,10,11],[],[],[],[]⟩]
def kR0:List Go.Vc.Fp:=[⟨[3],[],[26,29],[26,29,31],[],[]⟩,⟨[22],[0],[26,29],[26,29,31],[],[]⟩,⟨[5],[],[26],[26,29,31],[],[]⟩,⟨[24],[2],[26],[26,29,31],[],[]⟩,⟨[],[],[],[29,31],[],[26]⟩,⟨[5],[],[],[26,29,31],[],[]⟩,⟨[27],[5],[],[26,29,31],[],[]⟩,⟨[26,28],[4,5,6],[],[31],[26],[29]⟩,⟨[25,29],[2,3,4,5,6,7],[26],[31],[],[]⟩,⟨[30],[2,3,4,5,6,7,8],[26],[],[29],[31]⟩,⟨[],[0,1,2,3,4,5,6,7,8,9],[],[],[],[]⟩,⟨[],[0,1,2,3,4,5,6,7,8,9,10],[],[],[],[]⟩,⟨[],[0,1,2,3,4,5,6,7,8,9,10,11],[],[],[],[]⟩]
def kJx:List Go.Vc.Fp:=[⟨[],[],[],[3,8,9,12],[],[5]⟩,⟨[1],[],[],[3,5,8,9,12],[],[]⟩,⟨[6],[1],[],[3,5,8,9,12],[],[]⟩,⟨[5,7],[0,1,2],[],[3,9,12],[5],[8]⟩,⟨[],[],[5],[3,5,8,12],[],[9]⟩,⟨[1],[],[5],[3,5,8,9,12],[],[]⟩,⟨[10],[5],[5],[3,5,8,9,12],[],[]⟩,⟨[9,11],[0,1,2,3,4,5,6],[5],[3],[9],[12]⟩,⟨[8,12],[0,1,2,3,4,5,6,7],[5,9],[3],[],[]⟩,⟨[],[],[5,9],[5,8,9,12],[],[3]⟩,⟨[],[0,1,2,3,4,5,6,7,8,9],[],[],[],[]⟩]
def kM3:List Go.Vc.Fp:=[⟨[3],[],[],[28,29],[],[]⟩,⟨[21],[0],[],[28,29],[],[]⟩,⟨[1],[],[],[28,29],[],[]⟩,⟨[23],[2],[],[28,29],[],[]⟩,⟨[4],[],[],[28,29],[],[]⟩,⟨[24,25],[2,3,4],[],[28,29],[],[]⟩,⟨[26],[2,3,4,5],[],[28,29],[],[]⟩,⟨[27],[2,3,4,5,6],[],[29],[],[28]⟩,⟨[28],[2,3,4,5,6,7],[],[],[],[29]⟩,⟨[],[0,1,2,3,4,5,6,7,8],[],[],[],[]⟩,⟨[],[0,1,2,3,4,5,6,7,8,9],[],[],[],[]⟩,⟨[],[0,1,2,3,4,5,6,7,8,9,10],[],[],[],[]⟩]
def kR1:List Go.Vc.Fp:=[⟨[3],[],[28],[28,29],[],[]⟩,⟨[21],[0],[28],[28,29],[],[]⟩,⟨[1],[],[],[28,29],[],[]⟩,⟨[23],[2],[],[28,29],[],[]⟩,⟨[4],[],[],[28,29],[],[]⟩,⟨[24,25],[2,3,4],[],[28,29],[],[]⟩,⟨[26],[2,3,4,5],[],[28,29],[],[]⟩,⟨[27],[2,3,4,5,6],[],[29],[],[28]⟩,⟨[28],[2,3,4,5,6,7],[],[],[28],[29]⟩,⟨[],[0,1,2,3,4,5,6,7,8],[],[],[],[]⟩,⟨[],[0,1,2,3,4,5,6,7,8,9],[],[],[],[]⟩,⟨[],[0,1,2,3,4,5,6,7,8,9,10],[],[],[],[]⟩]
def kJy:List Go.Vc.Fp:=[⟨[1],[],[],[3,8,1008,2008],[],[]⟩,⟨[6],[0],[],[3,8,1008,2008],[],[]⟩,⟨[7],[0,1],[],[3],[],[8,1008,2008]⟩,⟨[1],[],[],[3,8,1008,2008],[],[]⟩,⟨[9],[3],[],[3,8,1008,2008],[],[]⟩,⟨[1],[],[],[3,8,1008,2008],[],[]⟩,⟨[11],[5],[],[3,8,1008,2008],[],[]⟩,⟨[1],[],[],[3,8,1008,2008],[],[]⟩,⟨[13],[7],[],[3,8,1008,2008],[],[]⟩,⟨[8,10,12,14],[0,1,2,3,4,5,6,7,8],[],[3],[],[]⟩,⟨[],[],[],[8,1008,2008],[],[3]⟩,⟨[],[0,1,2,3,4,5,6,7,8,9,10],[],[],[],[]⟩]
def kM4:List Go.Vc.Fp:=[⟨[3],[],[],[26,27,1026],[],[]⟩,⟨[23],[0],[],[26,27,1026],[],[]⟩,⟨[5],[],[],[26,27,1026],[],[]⟩,⟨[25],[2],[],[27],[],[26,1026]⟩,⟨[26],[2,3],[],[],[],[27]⟩,⟨[],[0,1,2,3,4],[],[],[],[]⟩,⟨[],[0,1,2,3,4,5],[],[],[],[]⟩,⟨[],[0,1,2,3,4,5,6],[],[],[],[]⟩]
def kR2:List Go.Vc.Fp:=[⟨[3],[],[26,1026],[26,27,1026],[],[]⟩,⟨[23],[0],[26,1026],[26,27,1026],[],[]⟩,⟨[5],[],[],[26,27,1026],[],[]⟩,⟨[25],[2],[],[27],[],[26,1026]⟩,⟨[26],[2,3],[],[],[26,1026],[27]⟩,⟨[],[0,1,2,3,4],[],[],[],[]⟩,⟨[],[0,1,2,3,4,5],[],[],[],[]⟩,⟨[],[0,1,2,3,4,5,6],[],[],[],[]⟩]
def kM5:List Go.Vc.Fp:=[⟨[3],[],[],[25,26,1025],[],[]⟩,⟨[18],[0],[],[25,26,1025],[],[]⟩,⟨[1],[],[],[25,26,1025],[],[]⟩,⟨[20],[2],[],[25,26,1025],[],[]⟩,⟨[4],[],[],[25,26,1025],[],[]⟩,⟨[21,22],[2,3,4],[],[25,26,1025],[],[]⟩,⟨[23],[2,3,4,5],[],[25,26,1025],[],[]⟩,⟨[24],[2,3,4,5,6],[],[26],[],[25,1025]⟩,⟨[25],[2,3,4,5,6,7],[],[],[],[26]⟩,⟨[],[0,1,2,3,4,5,6,7,8],[],[],[],[]⟩,⟨[],[0,1,2,3,4,5,6,7,8,9],[],[],[],[]⟩,⟨[],[0,1,2,3,4,5,6,7,8,9,10],[],[],[],[]⟩]
def kR3:List Go.Vc.Fp:=[⟨[3],[],[25,1025],[25,26,1025],[],[]⟩,⟨[18],[0],[25,1025],[25,26,1025],[],[]⟩,⟨[1],[],[],[25,26,1025],[],[]⟩,⟨[20],[2],[],[25,26,1025],[],[]⟩,⟨[4],[],[],[25,26,1025],[],[]⟩,⟨[21,22],[2,3,4],[],[25,26,1025],[],[]⟩,⟨[23],[2,3,4,5],[],[25,26,1025],[],[]⟩,⟨[24],[2,3,4,5,6],[],[26],[],[25,1025]⟩,⟨[25],[2,3,4,5,6,7],[],[],[25,1025],[26]⟩,⟨[],[0,1,2,3,4,5,6,7,8],[],[],[],[]⟩,⟨[],[0,1,2,3,4,5,6,7,8,9],[],[],[],[]⟩,⟨[],[0,1,2,3,4,5,6,7,8,9,10],[],[],[],[]⟩]
attribute [local go_sem] kRz kJw kM2 kR0 kJx kM3 kR1 kJy kM4 kR2 kM5 kR3
attribute [local go_sem] kAf kAg spA kBe kBc kBq kCn pcA rgA seA kAj tmA kFa ghoK St.gho St.gh SV.flat kSq kJs St.ado St.kMh St.kMi rp isNil
theorem kIt {α:Type}(en:α→List SV) (L:List α) (k:Nat) (h:k<L.length):(L.take (k+1)).map en=(L.take k).map en++[en L[k]]:=by
 rw[List.take_succ_eq_append_getElem h,List.map_append];rfl
theorem lenI {L:List Int}{row:List SV}(h:row∈L.map encI):row.length=1:=by obtain⟨n,_,rfl⟩:=List.mem_map.1 h;rfl
theorem lenY {L:List Symbol}{row:List SV}(h:row∈L.map encSymbol):row.length=3:=by obtain⟨n,_,rfl⟩:=List.mem_map.1 h;rfl
theorem k4p {x:Mach}(h:kB5 x):x.stack.length≤2097152∧x.out.length≤2097152:=h
section
noncomputable def k0l:=mkX [] (COk.nil _)
theorem qPq:k0l.tys=tys:=rfl
theorem qPr:k0l.C=[]:=rfl
attribute [local go_sem] qPq qPr
theorem qJg:Cn Tryz.prog 176 kE3:=by
 refine Cn.pur Tryz.func176 (by kernel_rfl) rfl fun d x hx=>?_
 obtain⟨a,b,c,s,o,d2,e2⟩:=x;obtain⟨hs,ho⟩:=hx;simp only at hs ho⊢;refine Holds.go (c:=k0l) Tryz.func176 rfl Tryz.results176 Tryz.ntmps176 (by omega) (by simp) rfl ?_
 intro X0 w0
 (repeat' (first|apply zS|apply zB|(apply zW;simp only[go_sem])|apply And.intro|intro _))
 all_goals first|omega|exact lenI ‹_›|exact lenY ‹_›|exact⟨_,_,_,_,_,_,_,rfl⟩|exact⟨_,_,rfl,_,_,rfl,rfl⟩|exact if_neg (by omega)|(rw[if_neg (by omega),if_neg (by omega)];done)|(rw[if_neg (by omega),if_neg (by omega),if_neg (by omega)];done)|(rw[if_neg (by omega),if_neg (by omega),if_neg (by omega),if_neg (by omega)];done)|skip
theorem qJh:Cn Tryz.prog 150 kE3:=by
 refine Cn.pur Tryz.func150 (by kernel_rfl) rfl fun d x hx=>?_
 obtain⟨a,b,c,s,o,d2,e2⟩:=x;obtain⟨hs,ho⟩:=hx;simp only at hs ho⊢;refine Holds.go (c:=k0l) Tryz.func150 rfl Tryz.results150 Tryz.ntmps150 (by omega) (by simp) rfl ?_
 intro X0 w0
 (repeat' (first|apply zS|apply zB|(apply zW;simp only[go_sem])|apply And.intro|intro _))
 all_goals first|omega|exact lenI ‹_›|exact lenY ‹_›|exact⟨_,_,_,_,_,_,_,rfl⟩|exact⟨_,_,rfl,_,_,rfl,rfl⟩|exact if_neg (by omega)|(rw[if_neg (by omega),if_neg (by omega)];done)|(rw[if_neg (by omega),if_neg (by omega),if_neg (by omega)];done)|(rw[if_neg (by omega),if_neg (by omega),if_neg (by omega),if_neg (by omega)];done)|skip
end
section
attribute [local go_sem] kBl
noncomputable def qA7:=mkX [] (COk.nil _)
theorem qPs:qA7.tys=tys:=rfl
theorem qPt:qA7.C=[]:=rfl
attribute [local go_sem] qPs qPt
theorem qPu:Cn Tryz.prog 218 kJe:=by
 refine Cn.pur Tryz.func218 (by kernel_rfl) rfl fun d x hx=>?_
 obtain⟨c,Y⟩:=x;simp only at hx⊢;refine Holds.go (c:=qA7) Tryz.func218 rfl Tryz.results218 Tryz.ntmps218 (by omega) (by simp) rfl ?_
 intro X0 w0
 (repeat' (first|apply zS|apply zB|((first|apply zW| refine zF 6 kRz [3,4,5,6,7,8] [5,8] [5] (by decide +kernel) (by kernel_rfl) (by kernel_rfl) (by kernel_rfl) ?_);simp only[go_sem])|apply And.intro|intro _))
 all_goals first|omega|exact lenI ‹_›|exact lenY ‹_›|exact⟨_,_,rfl,_,_,rfl,rfl⟩|exact if_neg (by omega)|(rw[if_neg (by omega),if_neg (by omega)];done)|(rw[if_neg (by omega),if_neg (by omega),if_neg (by omega)];done)|(rw[if_neg (by omega),if_neg (by omega),if_neg (by omega),if_neg (by omega)];done)|skip
end
section
attribute [local go_sem] kBl
noncomputable def k4q:=mkX [] (COk.nil _)
theorem qJi:k4q.tys=tys:=rfl
theorem qJj:k4q.C=[]:=rfl
attribute [local go_sem] qJi qJj
set_option maxHeartbeats 3000000 in
theorem ccpSpI:Cn Tryz.prog 175 kFs:=by
 refine Cn.pur Tryz.func175 (by kernel_rfl) rfl fun d x hx=>?_
 obtain⟨I,B,E⟩:=x;obtain⟨⟨hI,hIm⟩,hB,hE⟩:=hx;simp only at hI hIm hB hE⊢;refine Holds.go (c:=k4q) Tryz.func175 rfl Tryz.results175 Tryz.ntmps175 (by omega) (by simp) rfl ?_
 intro X0 w0
 (repeat' (first|apply zS|apply zB|((first|apply zW| refine zF 10 kJw [3,6,7,8,9,10,11,12,13,14] [3,6,9,10,13] [6,10] (by decide +kernel) (by kernel_rfl) (by kernel_rfl) (by kernel_rfl) ?_|refine zF 10 kM2 [22,23,24,25,26,27,28,29,30,31] [26,29,31] [26] (by decide +kernel) (by kernel_rfl) (by kernel_rfl) (by kernel_rfl) ?_);simp only[go_sem])|apply And.intro|intro _))
 all_goals first|omega|exact lenI ‹_›|exact lenY ‹_›|skip
 refine zA [.b 3 0 32 144 2] ?_;refine zG [.dp 32] ?_;simp only[go_sem];refine⟨fun r hr=>by simp at hr,?_⟩
 refine zL (fun k:Nat=>⟨[(2,.ptr 2 0 0 0),(3,.ptr 3 0 0 0),(16,.sl 2 (I.map encImage)),(17,.v (.int .i64 I.length)),(18,.v (.int .i64 k))],
  [(2,.box 51 [.v (.slice none 0 0),.v (.slice none 0 0),.v (.slice none 0 0)]),(3,.box 51 [.own 32,.own 9,.own 13]),(32,.dp 144 2 ((I.take k).map encImage)),(9,.sl 3 1 (B.map encI)),(13,.sl 3 1 (E.map encI))]⟩)
  (fun k=>k≤I.length) (fun k=>I.length-k) 0 (by omega) ?_ ?_
 ·(simp only[go_sem]<;>(first|(and_intros<;>rfl)|simp))
 intro k hk;refine zP [] [(32,50)] rfl ?_;by_cases hlt:k<I.length
 ·have hli:(k:Int)<I.length:=by omega
  have h0:=hIm _ (List.getElem_mem hlt);have h1:=kAa encImage I k hlt;have h2:=kIt encImage I k hlt;have h3:(I.take k).length=k:=by simp;omega
  generalize I[k]=y at h0 h1 h2;obtain⟨yc,yY⟩:=y;rw[encImage]at h1 h2;simp only at h0 h1 h2
  (repeat' (first|apply zS|apply zB|((first|apply zW| refine zF 10 kJw [3,6,7,8,9,10,11,12,13,14] [3,6,9,10,13] [6,10] (by decide +kernel) (by kernel_rfl) (by kernel_rfl) (by kernel_rfl) ?_|refine zF 10 kR0 [22,23,24,25,26,27,28,29,30,31] [26,29,31] [26,29] (by decide +kernel) (by kernel_rfl) (by kernel_rfl) (by kernel_rfl) ?_);simp only[go_sem,hli,h1,h3])|apply And.intro|intro _))
  all_goals first|omega|exact lenI ‹_›|exact lenY ‹_›|skip
  all_goals first|exact⟨k+1,by omega,by omega,rfl,by rw[h2]⟩|exact⟨k+1,by omega,by omega,by rw[h2]⟩|exact⟨k+1,by omega,by omega,rfl,rfl,by rw[h2]⟩|skip
 ·have hge:¬(k:Int)<I.length:=by omega
  have h4:(I.take k).map encImage=I.map encImage:=by rw[List.take_of_length_le (by omega)]
  (repeat' (first|apply zS|apply zB|((first|apply zW| refine zF 10 kJw [3,6,7,8,9,10,11,12,13,14] [3,6,9,10,13] [6,10] (by decide +kernel) (by kernel_rfl) (by kernel_rfl) (by kernel_rfl) ?_|refine zF 10 kM2 [22,23,24,25,26,27,28,29,30,31] [26,29,31] [26] (by decide +kernel) (by kernel_rfl) (by kernel_rfl) (by kernel_rfl) ?_);simp only[go_sem,hge,h4])|apply And.intro|intro _))
  all_goals first|omega|exact lenI ‹_›|exact lenY ‹_›|exact⟨_,_,_,rfl⟩|exact⟨_,_,rfl,_,_,rfl,rfl⟩|exact if_neg (by omega)|(rw[if_neg (by omega),if_neg (by omega)];done)|(rw[if_neg (by omega),if_neg (by omega),if_neg (by omega)];done)|(rw[if_neg (by omega),if_neg (by omega),if_neg (by omega),if_neg (by omega)];done)|skip
end
section
attribute [local go_sem] kBl
noncomputable def k4r:=mkX [(218,kJe)] (COk.cons qPu (COk.nil _))
theorem qJk:k4r.tys=tys:=rfl
theorem qJl:k4r.C=[(218,kJe)]:=rfl
attribute [local go_sem] qJk qJl kJe
set_option maxHeartbeats 3000000 in
theorem ccpSpS:Cn Tryz.prog 149 kFs:=by
 refine Cn.pur Tryz.func149 (by kernel_rfl) rfl fun d x hx=>?_
 obtain⟨I,B,E⟩:=x;obtain⟨⟨hI,hIm⟩,hB,hE⟩:=hx;simp only at hI hIm hB hE⊢;refine Holds.go (c:=k4r) Tryz.func149 rfl Tryz.results149 Tryz.ntmps149 (by omega) (by simp) rfl ?_
 intro X0 w0
 (repeat' (first|apply zS|apply zB|((first|apply zW| refine zF 10 kJx [3,5,6,7,8,9,10,11,12,13] [3,5,8,9,12] [5,9] (by decide +kernel) (by kernel_rfl) (by kernel_rfl) (by kernel_rfl) ?_|refine zF 9 kM3 [21,22,23,24,25,26,27,28,29] [28,29] [] (by decide +kernel) (by kernel_rfl) (by kernel_rfl) (by kernel_rfl) ?_);simp only[go_sem])|apply And.intro|intro _))
 all_goals first|omega|exact lenI ‹_›|exact lenY ‹_›|skip
 refine zA [.b 3 0 30 144 2] ?_;refine zG [.dp 30] ?_;simp only[go_sem];refine⟨fun r hr=>by simp at hr,?_⟩
 refine zL (fun k:Nat=>⟨[(1,.ptr 1 0 0 0),(2,.ptr 2 0 0 0),(3,.ptr 3 0 0 0),(4,.v (.int .i64 k))],
  [(1,.box 51 [.sl 2 (I.map encImage),.sl 1 (B.map encI),.sl 1 (E.map encI)]),(2,.box 51 [.v (.slice none 0 0),.v (.slice none 0 0),.v (.slice none 0 0)]),(3,.box 51 [.own 30,.own 8,.own 12]),(30,.dp 144 2 ((I.take k).map encImage)),(8,.sl 3 1 (B.map encI)),(12,.sl 3 1 (E.map encI))]⟩)
  (fun k=>k≤I.length) (fun k=>I.length-k) 0 (by omega) ?_ ?_
 ·(simp only[go_sem]<;>(first|(and_intros<;>rfl)|simp))
 intro k hk;refine zP [] [(30,50)] rfl ?_;by_cases hlt:k<I.length
 ·have hli:(k:Int)<I.length:=by omega
  have h0:=hIm _ (List.getElem_mem hlt);have h1:=kAa encImage I k hlt;have h2:=kIt encImage I k hlt;have h3:(I.take k).length=k:=by simp;omega
  generalize I[k]=y at h0 h1 h2;obtain⟨yc,yY⟩:=y;rw[encImage]at h1 h2;simp only at h0 h1 h2
  (repeat' (first|apply zS|apply zB|((first|apply zW| refine zF 10 kJx [3,5,6,7,8,9,10,11,12,13] [3,5,8,9,12] [5,9] (by decide +kernel) (by kernel_rfl) (by kernel_rfl) (by kernel_rfl) ?_|refine zF 9 kR1 [21,22,23,24,25,26,27,28,29] [28,29] [28] (by decide +kernel) (by kernel_rfl) (by kernel_rfl) (by kernel_rfl) ?_);simp only[go_sem,hli,h1,h3])|apply And.intro|intro _))
  all_goals first|omega|exact lenI ‹_›|exact lenY ‹_›|skip
  all_goals first|exact⟨k+1,by omega,by omega,rfl,by rw[h2]⟩|exact⟨k+1,by omega,by omega,by rw[h2]⟩|exact⟨k+1,by omega,by omega,rfl,rfl,by rw[h2]⟩|skip
 ·have hge:¬(k:Int)<I.length:=by omega
  have h4:(I.take k).map encImage=I.map encImage:=by rw[List.take_of_length_le (by omega)]
  (repeat' (first|apply zS|apply zB|((first|apply zW| refine zF 10 kJx [3,5,6,7,8,9,10,11,12,13] [3,5,8,9,12] [5,9] (by decide +kernel) (by kernel_rfl) (by kernel_rfl) (by kernel_rfl) ?_|refine zF 9 kM3 [21,22,23,24,25,26,27,28,29] [28,29] [] (by decide +kernel) (by kernel_rfl) (by kernel_rfl) (by kernel_rfl) ?_);simp only[go_sem,hge,h4])|apply And.intro|intro _))
  all_goals first|omega|exact lenI ‹_›|exact lenY ‹_›|exact⟨_,_,_,rfl⟩|exact⟨_,_,rfl,_,_,rfl,rfl⟩|exact if_neg (by omega)|(rw[if_neg (by omega),if_neg (by omega)];done)|(rw[if_neg (by omega),if_neg (by omega),if_neg (by omega)];done)|(rw[if_neg (by omega),if_neg (by omega),if_neg (by omega),if_neg (by omega)];done)|skip
end
section
attribute [local go_sem] aggPc
attribute [local irreducible] kB5
noncomputable def k4s:=mkX [(175,kFs),(176,kE3)] (COk.cons ccpSpI (COk.cons qJg (COk.nil _)))
theorem qJm:k4s.tys=tys:=rfl
theorem qJn:k4s.C=[(175,kFs),(176,kE3)]:=rfl
attribute [local go_sem] qJm qJn kFs kE3
set_option maxHeartbeats 4000000 in
theorem ccpPcI:Cn Tryz.prog 100 kG2:=by
 refine Cn.pur Tryz.func100 (by kernel_rfl) rfl fun d x hx=>?_
 obtain⟨⟨I,B,E⟩,T,tu,le,sl⟩:=x;obtain⟨hsp,hT,hTs⟩:=hx;have hsp2:=hsp;obtain⟨⟨hI,hIm⟩,hB,hE⟩:=hsp2;simp only[aggPc]at hT hTs hI hIm hB hE⊢;refine Holds.go (c:=k4s) Tryz.func100 rfl Tryz.results100 Tryz.ntmps100 (by omega) (by simp) rfl ?_
 intro X0 w0
 (repeat' (first|apply zS|apply zB|((first|apply zW| refine zF 11 kJy [3,6,7,8,9,10,11,12,13,14,15] [3,8,1008,2008] [] (by decide +kernel) (by kernel_rfl) (by kernel_rfl) (by kernel_rfl) ?_|refine zF 5 kM4 [23,24,25,26,27] [26,27,1026] [] (by decide +kernel) (by kernel_rfl) (by kernel_rfl) (by kernel_rfl) ?_);simp only[go_sem])|apply And.intro|intro _))
 all_goals first|omega|exact lenI ‹_›|exact lenY ‹_›|exact hIm _ ‹_›|skip
 refine zA [.b 3 3 28 206 7] ?_;refine zG [.dp 28] ?_;simp only[go_sem];refine⟨fun r hr=>by simp at hr,?_⟩
 refine zL (fun k:Nat=>⟨[(2,.ptr 2 0 0 0),(3,.ptr 3 0 0 0),(17,.sl 7 (T.map encMach)),(18,.v (.int .i64 T.length)),(19,.v (.int .i64 k))],
  [(2,.box 54 [.v (.slice none 0 0),.v (.slice none 0 0),.v (.slice none 0 0),.v (.slice none 0 0),.v (.int .i64 0),.v (.int .i64 0),.v (.int .i64 0)]),(3,.box 54 [.own 8,.own 1008,.own 2008,.own 28,.v (.int .i64 tu),.v (.int .i64 le),.v (.int .i64 sl)]),
   (8,.dp 144 2 (I.map encImage)),(1008,.sl 3 1 (B.map encI)),(2008,.sl 3 1 (E.map encI)),(28,.dp 206 7 ((T.take k).map encMach))]⟩)
  (fun k=>k≤T.length) (fun k=>T.length-k) 0 (by omega) ?_ ?_
 ·(simp only[go_sem]<;>(first|(and_intros<;>rfl)|simp))
 intro k hk;refine zP [] [(28,50)] rfl ?_;by_cases hlt:k<T.length
 ·have hli:(k:Int)<T.length:=by omega
  have h0:=hTs _ (List.getElem_mem hlt);have h1:=kAa encMach T k hlt;have h2:=kIt encMach T k hlt;have h3:(T.take k).length=k:=by simp;omega
  generalize T[k]=y at h0 h1 h2;obtain⟨y1,y2,y3,yS,yO,y6,y7⟩:=y;obtain⟨hS,hO⟩:=k4p h0;rw[encMach]at h1 h2;simp only at hS hO h1 h2
  (repeat' (first|apply zS|apply zB|((first|apply zW| refine zF 11 kJy [3,6,7,8,9,10,11,12,13,14,15] [3,8,1008,2008] [] (by decide +kernel) (by kernel_rfl) (by kernel_rfl) (by kernel_rfl) ?_|refine zF 5 kR2 [23,24,25,26,27] [26,27,1026] [26,1026] (by decide +kernel) (by kernel_rfl) (by kernel_rfl) (by kernel_rfl) ?_);simp only[go_sem,hli,h1,h3])|apply And.intro|intro _))
  all_goals first|omega|exact lenI ‹_›|exact lenY ‹_›|skip
  all_goals first|exact⟨k+1,by omega,by omega,rfl,by rw[h2]⟩|exact⟨k+1,by omega,by omega,by rw[h2]⟩|exact⟨k+1,by omega,by omega,rfl,rfl,by rw[h2]⟩|skip
 ·have hge:¬(k:Int)<T.length:=by omega
  have h4:(T.take k).map encMach=T.map encMach:=by rw[List.take_of_length_le (by omega)]
  (repeat' (first|apply zS|apply zB|((first|apply zW| refine zF 11 kJy [3,6,7,8,9,10,11,12,13,14,15] [3,8,1008,2008] [] (by decide +kernel) (by kernel_rfl) (by kernel_rfl) (by kernel_rfl) ?_|refine zF 5 kM4 [23,24,25,26,27] [26,27,1026] [] (by decide +kernel) (by kernel_rfl) (by kernel_rfl) (by kernel_rfl) ?_);simp only[go_sem,hge,h4])|apply And.intro|intro _))
  all_goals first|omega|exact lenI ‹_›|exact lenY ‹_›|exact⟨_,_,_,rfl⟩|exact⟨_,_,rfl,_,_,rfl,rfl⟩|exact if_neg (by omega)|(rw[if_neg (by omega),if_neg (by omega)];done)|(rw[if_neg (by omega),if_neg (by omega),if_neg (by omega)];done)|(rw[if_neg (by omega),if_neg (by omega),if_neg (by omega),if_neg (by omega)];done)|skip
end
section
attribute [local go_sem] aggPc
attribute [local irreducible] kB5
noncomputable def k4t:=mkX [(149,kFs),(150,kE3)] (COk.cons ccpSpS (COk.cons qJh (COk.nil _)))
theorem qJo:k4t.tys=tys:=rfl
theorem qJp:k4t.C=[(149,kFs),(150,kE3)]:=rfl
attribute [local go_sem] qJo qJp kFs kE3
set_option maxHeartbeats 4000000 in
theorem ccpPcS:Cn Tryz.prog 76 kG2:=by
 refine Cn.pur Tryz.func76 (by kernel_rfl) rfl fun d x hx=>?_
 obtain⟨⟨I,B,E⟩,T,tu,le,sl⟩:=x;obtain⟨hsp,hT,hTs⟩:=hx;have hsp2:=hsp;obtain⟨⟨hI,hIm⟩,hB,hE⟩:=hsp2;simp only[aggPc]at hT hTs hI hIm hB hE⊢;refine Holds.go (c:=k4t) Tryz.func76 rfl Tryz.results76 Tryz.ntmps76 (by omega) (by simp) rfl ?_
 intro X0 w0
 (repeat' (first|apply zS|apply zB|((first|apply zW| refine zF 9 kM5 [18,19,20,21,22,23,24,25,26] [25,26,1025] [] (by decide +kernel) (by kernel_rfl) (by kernel_rfl) (by kernel_rfl) ?_);simp only[go_sem])|apply And.intro|intro _))
 all_goals first|omega|exact lenI ‹_›|exact lenY ‹_›|exact hIm _ ‹_›|skip
 refine zA [.b 3 3 27 206 7] ?_;refine zG [.dp 27] ?_;simp only[go_sem];refine⟨fun r hr=>by simp at hr,?_⟩
 refine zL (fun k:Nat=>⟨[(1,.ptr 1 0 0 0),(2,.ptr 2 0 0 0),(3,.ptr 3 0 0 0),(4,.v (.int .i64 k))],
  [(1,.box 54 [.sl 2 (I.map encImage),.sl 1 (B.map encI),.sl 1 (E.map encI),.sl 7 (T.map encMach),.v (.int .i64 tu),.v (.int .i64 le),.v (.int .i64 sl)]),
   (2,.box 54 [.v (.slice none 0 0),.v (.slice none 0 0),.v (.slice none 0 0),.v (.slice none 0 0),.v (.int .i64 0),.v (.int .i64 0),.v (.int .i64 0)]),(3,.box 54 [.own 8,.own 1008,.own 2008,.own 27,.v (.int .i64 tu),.v (.int .i64 le),.v (.int .i64 sl)]),
   (8,.dp 144 2 (I.map encImage)),(1008,.sl 3 1 (B.map encI)),(2008,.sl 3 1 (E.map encI)),(27,.dp 206 7 ((T.take k).map encMach))]⟩)
  (fun k=>k≤T.length) (fun k=>T.length-k) 0 (by omega) ?_ ?_
 ·(simp only[go_sem]<;>(first|(and_intros<;>rfl)|simp))
 intro k hk;refine zP [] [(27,50)] rfl ?_;by_cases hlt:k<T.length
 ·have hli:(k:Int)<T.length:=by omega
  have h0:=hTs _ (List.getElem_mem hlt);have h1:=kAa encMach T k hlt;have h2:=kIt encMach T k hlt;have h3:(T.take k).length=k:=by simp;omega
  generalize T[k]=y at h0 h1 h2;obtain⟨y1,y2,y3,yS,yO,y6,y7⟩:=y;obtain⟨hS,hO⟩:=k4p h0;rw[encMach]at h1 h2;simp only at hS hO h1 h2
  (repeat' (first|apply zS|apply zB|((first|apply zW| refine zF 9 kR3 [18,19,20,21,22,23,24,25,26] [25,26,1025] [25,1025] (by decide +kernel) (by kernel_rfl) (by kernel_rfl) (by kernel_rfl) ?_);simp only[go_sem,hli,h1,h3])|apply And.intro|intro _))
  all_goals first|omega|exact lenI ‹_›|exact lenY ‹_›|skip
  all_goals first|exact⟨k+1,by omega,by omega,rfl,by rw[h2]⟩|exact⟨k+1,by omega,by omega,by rw[h2]⟩|exact⟨k+1,by omega,by omega,rfl,rfl,by rw[h2]⟩|skip
 ·have hge:¬(k:Int)<T.length:=by omega
  have h4:(T.take k).map encMach=T.map encMach:=by rw[List.take_of_length_le (by omega)]
  (repeat' (first|apply zS|apply zB|((first|apply zW| refine zF 9 kM5 [18,19,20,21,22,23,24,25,26] [25,26,1025] [] (by decide +kernel) (by kernel_rfl) (by kernel_rfl) (by kernel_rfl) ?_);simp only[go_sem,hge,h4])|apply And.intro|intro _))
  all_goals first|omega|exact lenI ‹_›|exact lenY ‹_›|exact⟨_,_,_,rfl⟩|exact⟨_,_,rfl,_,_,rfl,rfl⟩|exact if_neg (by omega)|(rw[if_neg (by omega),if_neg (by omega)];done)|(rw[if_neg (by omega),if_neg (by omega),if_neg (by omega)];done)|(rw[if_neg (by omega),if_neg (by omega),if_neg (by omega),if_neg (by omega)];done)|skip
end
end Go.Proofs.YtjdklcjoeanimaaGreat

