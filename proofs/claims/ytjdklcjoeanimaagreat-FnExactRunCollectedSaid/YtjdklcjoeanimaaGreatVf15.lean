/- DERIVED. Steps of the proof. -/
import Derived.Test.YtjdklcjoeanimaaGreatVf14
set_option linter.all false
set_option maxHeartbeats 1000000
set_option maxRecDepth 10000
namespace Go.Proofs.YtjdklcjoeanimaaGreat
attribute [local irreducible] Go.Vc.WP
section
open Go.Vc Tryz
def kF9 (k:Int) (n:Nat):List ByteArray:=(List.range n).map fun i:Nat=>markT (k+(i:Int))
theorem kIl (k:Int) (n:Nat):(kF9 k n).length=n:=by simp[kF9]
def halfS (L:List ByteArray) (k0:Int) (k:Nat):List ByteArray:=kF9 k0 k++L.drop k
theorem qJj (L:List ByteArray) (k0:Int) (k:Nat) (h:k≤L.length):(halfS L k0 k).length=L.length:=by simp[halfS,kIl];omega
theorem qJk (L:List ByteArray) (k0:Int) (k:Nat) (h:k<L.length):((halfS L k0 k).map encS).set k (encS (markT (k0+k)))=(halfS L k0 (k+1)).map encS:=by
 rw[←vDv];congr 1;unfold halfS;rw[vO3,if_neg (by simp[kIl]),kIl,vDu,wL4 h,jXr]
 simp[kF9,wDe]
section
def cxMs:=kc kM6 kn
@[go_sem] def kheldS:Ctr:=pur (fun args=>(kNn (aR args 0),aI args 1)) (fun x=>[.sl 1 (x.1.map encS),vi x.2]) (fun x=>x.1.length≤4398046511104∧0≤x.2∧x.2≤500000000000000)
 (fun _ x=>vi (if x.1=kF9 x.2 x.1.length then x.2+x.1.length else -1)) (fun _ _=>[])
theorem cheldS:Cq 137 kheldS:=by
 refine zp fun d x hx=>?_
 obtain⟨L,k0⟩:=x;obtain⟨hL,h0,h1⟩:=hx;simp only at hL h0 h1⊢;refine zg cxMs func137 rfl rfl ntmps137 ?_;intros;refine zy1 7 trivial ?_;refine zM (fun k:Nat=>⟨[(0,.sl 1 (L.map encS)),(1,vi (k0+k)),(5,vi k)],[]⟩) (fun k=>k≤L.length∧L.take k=kF9 k0 k) (fun k=>L.length-k) 0 (by simp[kF9]) ?_
 intro k ⟨hk,ht⟩;by_cases hlt:k<L.length
 ·have h3:=kAa encS L k hlt
  (repeat' (first|apply zS|apply zB|((first|apply zW| refine zd 7 ?_);simp only[go_sem,h3,encS])|apply jAi|exact zc0|intro _))
  ·rename_i hne;rw[if_neg];intro e;apply hne;have e2:L[k]=(kF9 k0 L.length)[k]'(by rw[kIl];exact hlt):=by congr 1
   rw[e2];simp[kF9]
  ·rename_i he;refine⟨k+1,⟨zo,?_⟩,zo,?_,rfl⟩
   ·rw[jQw hlt,ht,he];simp[kF9,wDe]
   ·rw[show k0+(k:Int)+1=k0+((k+1:Nat):Int)by omega]
 ·refine zy1 7 trivial ?_;rw[show k=L.length by omega,jJ3]at ht
  rw[if_pos ht,show k=L.length by omega]
end
end
def szA (n:Nat) (l:Int):Int:=if l-n<0 then -1 else l-n
def szL:List (Int→Int)→Int→Int
 | [],l=>l
 |f::fs,l=>if f l<0 then -1 else szL fs (f l)
theorem kU8 (F:List (Int→Int)) (k:Nat) (l:Int) (h:k<F.length):szL (F.drop k) l=if F[k] l<0 then -1 else szL (F.drop (k+1)) (F[k] l):=by
 rw[List.drop_eq_getElem_cons h];rfl
def kDa (F:List (Int→Int)) (l:Int):Int:=if l-F.length<0 then -1 else szL F (l-F.length)
def Szf (f:Int→Int):Prop:=∀l,0≤l→-1≤f l∧f l≤l
theorem kFz (n:Nat):Szf (szA n):=fun l h=>by unfold szA;split<;>omega
theorem szL_f:∀(F:List (Int→Int)),(∀f∈F,Szf f)→Szf (szL F)
 | [],_,l,h=>by unfold szL;omega
 |f::fs,hF,l,h=>by
  have h1:=hF f List.mem_cons_self l h;unfold szL;split
  ·omega
  ·have:=szL_f fs (fun g hg=>hF g (List.mem_cons_of_mem _ hg)) (f l) (by omega)
   omega
theorem kU9 (F:List (Int→Int)) (hF:∀f∈F,Szf f):Szf (kDa F):=fun l h=>by
 unfold kDa;split
 ·omega
 ·have:=szL_f F hF (l-F.length) (by omega)
  omega
theorem qIt:∀(F:List (Int→Int)) (l:Int),(∀f∈F,Szf f)→0≤l→0≤szL F l→∀f∈F,∃r,0≤r∧r≤l∧0≤f r
 | [],l,_,_,_=>by simp
 |g::fs,l,hF,h0,h=>by
  have h1:=hF g List.mem_cons_self l h0;unfold szL at h;split at h
  ·omega
  ·rename_i hg;intro f hf;rcases List.mem_cons.1 hf with rfl|hf
   ·exact⟨l,h0,by omega,by omega⟩
   ·obtain⟨r,a,b,c⟩:=qIt fs (g l) (fun g hg=>hF g (List.mem_cons_of_mem _ hg)) (by omega) h f hf
    exact⟨r,a,by omega,c⟩
theorem kSr {F:List (Int→Int)}{l:Int}(hF:∀f∈F,Szf f) (h:0≤kDa F l):F.length≤l∧∀f∈F,∃r,0≤r∧r≤l∧0≤f r:=by
 unfold kDa at h;split at h
 ·omega
 ·refine⟨by omega,fun f hf=>?_⟩
  obtain⟨r,a,b,c⟩:=qIt F (l-F.length) hF (by omega) h f hf
  exact⟨r,a,by omega,c⟩
theorem kMt {f:Int→Int}(hf:Szf f) {l:Int}(h0:0≤l) (h:f l<0):f l=-1:=by have:=hf l h0;omega
def szT (f g:Int→Int) (l:Int):Int:=if f l<0 then -1 else g (f l)
theorem kPq {f g:Int→Int}(hf:Szf f) (hg:Szf g):Szf (szT f g):=fun l h=>by
 have h1:=hf l h;unfold szT;split
 ·omega
 ·have:=hg (f l) (by omega);omega
theorem kFj {f g:Int→Int}(hf:Szf f) {l:Int}(h0:0≤l) (h:0≤szT f g l):0≤f l∧f l≤l∧0≤g (f l):=by
 have h1:=hf l h0;unfold szT at h;split at h<;>omega
theorem k87:∀(L:List Nat),Szf (kLs L)
 | [],l,h=>by unfold kLs;omega
 |n::L,l,h=>by
  unfold kLs;split
  ·omega
  ·have:=k87 L (l-n) (by omega);omega
section
open Go.Vc Tryz
def kUe (L:List ByteArray):Int→Int:=kDa (L.map fun s=>szA s.size)
@[go_sem] def kszStr:Ctr:=pur (fun args=>(kNn (aR args 0),aI args 1)) (fun x=>[.sl 1 (x.1.map encS),vi x.2]) (fun x=>x.1.length≤maxLen∧(∀s∈x.1,s.size≤maxLen)∧0≤x.2∧x.2≤1048576)
 (fun _ x=>vi (kUe x.1 x.2)) (fun _ _=>[])
section
def cxZs:=COk.nil Tryz.prog
theorem cszStr:Cq 74 kszStr:=by
 refine zp fun d x hx=>?_
 obtain⟨L,left⟩:=x;obtain⟨hL,hs,h0,h1⟩:=hx;simp only at hL hs h0 h1⊢;have hm:maxLen=9223372036854775807:=rfl;generalize hF:(L.map fun s=>szA s.size)=F
 have hlen:F.length=L.length:=by rw[←hF,jH5]
 have hsz:kUe L left=kDa F left:=by rw[←hF];rfl
 rw[hsz];refine zg cxZs func74 rfl rfl ntmps74 ?_;intros
 (repeat' (first|apply zS|apply zB|(apply zW;simp only[go_sem])|apply jAi|exact zc0|intro _))
 ·rename_i h;rw[kDa,hlen,if_pos h]
 rename_i hge
 refine zL (fun s:Nat×Int=>⟨[(0,.sl 1 (L.map encS)),(1,vi s.2),(5,vi s.1)],[]⟩)
  (fun s=>s.1≤L.length∧0≤s.2∧s.2≤1048576∧kDa F left=szL (F.drop s.1) s.2) (fun s=>L.length-s.1) (0,left-L.length)
  ⟨zs,by simpa using hge,by simp only;omega,by rw[kDa,hlen,if_neg zo];rfl⟩ ?_ ?_
 ·simp only[go_sem];first|exact⟨rfl,rfl⟩|rfl
 rintro⟨k,r⟩ ⟨hk,hr0,hr1,he⟩;simp only at hk hr0 hr1 he⊢;by_cases hlt:k<L.length
 ·have h2:=kAa encS L k hlt;have h3:=hs _ (jCn hlt);have hFk:F[k]'zo=szA L[k].size:=by subst hF;simp
  have h4:=kU8 F k r zo;rw[hFk]at h4;have hu:szA L[k].size r=if r-(L[k].size:Int)<0 then -1 else r-(L[k].size:Int):=rfl
  by_cases h5:r-(L[k].size:Int)<0
  ·rw[if_pos h5]at hu;rw[he,h4,hu,if_pos zo];exact zx (z3 h2 encS.eq_1 h5)
  ·rw[if_neg h5]at hu;rw[hu,if_neg h5]at h4
   (repeat' (first|apply zS|apply zB|(apply zW;simp only[go_sem,h2,encS,h5])|apply jAi|omega|exact⟨(k+1,r-L[k].size),⟨by simp only;omega,by simp only;omega,by simp only;omega,by rw[he,h4]⟩,by simp only;omega,rfl,rfl⟩|intro _))
 ·refine zy trivial ?_;rw[he,vX7 zo];rfl
end
@[go_sem] def ktoSo:Ctr:=pur (fun args=>kNn (aR args 0)) (fun L=>[.sl 1 (L.map encS)]) (fun L=>L.length≤2097152) (fun d _=>.own d) (fun d L=>[(d,.sl 9 1 (L.map encS))])
section
def cxTso:=COk.nil Tryz.prog
theorem ctoSo:Cq 98 ktoSo:=by
 refine zp fun d x hx=>?_
 rename List ByteArray=>L
 refine zg cxTso func98 rfl rfl ntmps98 ?_;intros;refine zy trivial ?_;refine zL (fun k:Nat=>⟨[(0,.sl 1 (L.map encS)),(3,.own 7),(4,vi k)],[(7,.sl 9 1 (filled encS [.v (.string ⟨#[]⟩)] L k))]⟩) (fun k=>k≤L.length) (fun k=>L.length-k) 0 zo ?_ ?_
 ·rw[kFy];simp only[go_sem];rfl
 intro k hk;by_cases hlt:k<L.length
 ·have h1:=kAa encS L k hlt;have h2:=kBx encS [.v (.string ⟨#[]⟩)] L k hk;have h3:=kG5 encS [.v (.string ⟨#[]⟩)] L k hlt;have h4:=kG6 encS [.v (.string ⟨#[]⟩)] L k hlt;rw[encS]at h4;refine zy (z5 h1 h2 h3 h4 encS.eq_1) ?_;exact⟨k+1,zo,zo,rfl,rfl⟩
 ·have h2:=kBx encS [.v (.string ⟨#[]⟩)] L k hk;have h5:filled encS [.v (.string ⟨#[]⟩)] L k=L.map encS:=by rw[show k=L.length by omega];exact kG4 _ _ _
  exact zx (z2 h2 h5)
end
@[go_sem] def qQx:Ctr:=len [0] [] (fun args obs=>(kNn (oR obs 1000000),aI args 1,oE obs 1000000)) (fun x=>[.own 1000000,vi x.2.1]) (fun x=>[(1000000,.sl x.2.2 1 (x.1.map encS))]) (fun x=>x.1.length≤4398046511104∧0≤x.2.1∧x.2.1≤500000000000000)
 (fun _ x=>vi (x.2.1+x.1.length)) (fun _ _=>[]) (fun x=>[(1000000,.sl x.2.2 1 ((kF9 x.2.1 x.1.length).map encS))])
section
def cxMse:=kc kM6 kn
theorem qQa:Cq 133 qQx:=by
 refine zn fun d x hd hx=>?_
 obtain⟨L,k0,ee⟩:=x;obtain⟨hL,h0,h1⟩:=hx;simp only at hL h0 h1⊢;refine zl cxMse func133 rfl rfl ntmps133 ?_;intros;refine zy trivial ?_;refine zL (fun k:Nat=>⟨[(0,.own 1000000),(1,vi (k0+k)),(5,vi k)],[(1000000,.sl ee 1 ((halfS L k0 k).map encS))]⟩) (fun k=>k≤L.length) (fun k=>L.length-k) 0 zo ?_ ?_
 ·have e:halfS L k0 0=L:=by simp[halfS,kF9]
  rw[e];(simp only[go_sem]<;>(first|(and_intros<;>rfl)|simp))
 intro k hk;have h2:=qJj L k0 k hk;by_cases hlt:k<L.length
 ·have h3:=qJk L k0 k hlt;rw[encS]at h3;have h4:=kAa encS (halfS L k0 k) k zo;refine zy (z4 h2 h3 h4 encS.eq_1) ?_;refine⟨k+1,zo,zo,⟨?_,rfl⟩,rfl⟩;rw[show k0+(k:Int)+1=k0+((k+1:Nat):Int)by omega]
 ·have h5:halfS L k0 k=kF9 k0 L.length:=by rw[show k=L.length by omega];simp[halfS]
  have h6:=kIl k0 L.length;refine zy (z3 h2 h5 h6) ?_;rw[show k=L.length by omega]
end
end
section
open Go.Vc Tryz
open Go.Pl
theorem kLx (Y:List Symbol):Szf (kC8 Y):=fun l h=>by
 unfold kC8;split
 ·omega
 ·have:=k87 (kE3 Y) (l-Y.length) zo;omega
theorem kVz {L:List Symbol}{l:Int}(h:0≤kC8 L l):L.length≤l∧∀x∈L,x.name.size≤l:=by
 unfold kC8 at h;split at h
 ·omega
 ·rename_i h2;refine⟨zo,fun x hx=>?_⟩
  have:=k4w (kE3 L) _ zo h x.name.size (jCr.2 ⟨x,hx,rfl⟩);omega
@[go_sem] def kszIn:Ctr:=pur (fun args=>(kBs (aR args 0),aI args 1)) (fun x=>[.sl 1 (x.1.map encI),vi x.2]) (fun x=>x.1.length≤maxLen∧0≤x.2∧x.2≤1048576)
 (fun _ x=>vi (szA x.1.length x.2)) (fun _ _=>[])
section
def cxZi:=COk.nil Tryz.prog
theorem cszIn:Cq 71 kszIn:=by
 refine zp fun d x hx=>?_
 obtain⟨L,left⟩:=x;obtain⟨hL,h0,h1⟩:=hx;simp only at hL h0 h1⊢;have hm:maxLen=9223372036854775807:=rfl;refine zg cxZi func71 rfl rfl ntmps71 ?_;intros
 (repeat' (first|apply zS|apply zB|(apply zW;simp only[go_sem])|apply jAi|exact zc0|intro _))
 ·rename_i h;rw[szA,if_pos h]
 ·rename_i h;rw[szA,if_neg zo]
end
def kOg (x:Image):Int→Int:=szT (szA x.code.size) (kC8 x.symbols)
def bigImg (x:Image):Prop:=x.code.size≤maxLen∧x.symbols.length≤maxLen∧∀r∈x.symbols,r.name.size≤maxLen
theorem k08 (x:Image):Szf (kOg x):=kPq (kFz _) (kLx _)
@[go_sem] def kszImg:Ctr:=pur (fun args=>(kCc (aC args 0),aI args 1)) (fun x=>[.agg [.v (.string x.1.code),.sl 3 (x.1.symbols.map encSymbol)],vi x.2]) (fun x=>bigImg x.1∧0≤x.2∧x.2≤1048576)
 (fun _ x=>vi (kOg x.1 x.2)) (fun _ _=>[])
section
attribute [local go_sem] kCc
def cxZm:=kc k2a kn
theorem cszImg:Cq 142 kszImg:=by
 refine zp fun d x hx=>?_
 obtain⟨⟨c,Y⟩,left⟩:=x;obtain⟨⟨hc,hY,hn⟩,h0,h1⟩:=hx;simp only at hc hY hn h0 h1⊢;have hm:maxLen=9223372036854775807:=rfl;have hu:kOg ⟨c,Y⟩ left=if szA c.size left<0 then -1 else kC8 Y (szA c.size left):=rfl
 have ha:szA c.size left=if left-(c.size:Int)<0 then -1 else left-(c.size:Int):=rfl
 refine zg cxZm func142 rfl rfl ntmps142 ?_;intros;by_cases h5:left-(c.size:Int)<0
 ·rw[if_pos h5]at ha;rw[hu,ha,if_pos zo];exact zx h5
 ·rw[if_neg h5]at ha;rw[hu,ha,if_neg h5]
  (repeat' (first|apply zS|apply zB|(apply zW;simp only[go_sem,h5])|apply jAi|omega|exact hn _ ‹_›|intro _))
  all_goals first|(rename_i h;exact(by rw[kMt (kLx Y) zo h]))|skip
end
end
section
open Go.Vc Tryz
open Go.Pl
attribute [local irreducible] bigImg
def kGa (L:List Image):Int→Int:=kDa (L.map kOg)
theorem kPm (L:List Image):Szf (kGa L):=kU9 _ (by simp only[jCr];rintro _ ⟨x,_,rfl⟩;exact k08 x)
@[go_sem] def qQn:Ctr:=pur (fun args=>(kDf (aR args 0),aI args 1)) (fun x=>[.sl 2 (x.1.map encImage),vi x.2]) (fun x=>x.1.length≤maxLen∧(∀s∈x.1,bigImg s)∧0≤x.2∧x.2≤1048576)
 (fun _ x=>vi (kGa x.1 x.2)) (fun _ _=>[])
section
attribute [local go_sem] kCc
def cxZms:=kc cszImg kn
theorem qQo:Cq 70 qQn:=by
 refine zp fun d x hx=>?_
 obtain⟨L,left⟩:=x;obtain⟨hL,hs,h0,h1⟩:=hx;simp only at hL hs h0 h1⊢;have hm:maxLen=9223372036854775807:=rfl;generalize hF:(L.map kOg)=F;have hlen:F.length=L.length:=by rw[←hF,jH5]
 have hsz:kGa L left=kDa F left:=by rw[←hF];rfl
 rw[hsz];refine zg cxZms func70 rfl rfl ntmps70 ?_;intros
 (repeat' (first|apply zS|apply zB|(apply zW;simp only[go_sem])|apply jAi|exact zc0|intro _))
 ·rename_i h;rw[kDa,hlen,if_pos h]
 rename_i hge
 refine zL (fun s:Nat×Int=>⟨[(0,.sl 2 (L.map encImage)),(1,vi s.2),(5,vi s.1)],[]⟩)
  (fun s=>s.1≤L.length∧0≤s.2∧s.2≤1048576∧kDa F left=szL (F.drop s.1) s.2) (fun s=>L.length-s.1) (0,left-L.length)
  ⟨zs,by simpa using hge,by simp only;omega,by rw[kDa,hlen,if_neg zo];rfl⟩ ?_ ?_
 ·simp only[go_sem];first|exact⟨rfl,rfl⟩|rfl
 rintro⟨k,r⟩ ⟨hk,hr0,hr1,he⟩;simp only at hk hr0 hr1 he⊢;by_cases hlt:k<L.length
 ·have h2:=kAa encImage L k hlt;have h3:=hs _ (jCn hlt);have hFk:F[k]'zo=kOg L[k]:=by subst hF;simp
  have h4:=kU8 F k r zo;rw[hFk]at h4;have h6:=k08 L[k] r hr0;by_cases h5:kOg L[k] r<0
  ·rw[he,h4,if_pos h5];exact zx (z3 h2 encImage.eq_1 h5)
  ·rw[if_neg h5]at h4
   (repeat' (first|apply zS|apply zB|(apply zW;simp only[go_sem,h2,encImage,h5])|apply jAi|omega|exact h3|exact⟨(k+1,kOg L[k] r),⟨by simp only;omega,by simp only;omega,by simp only;omega,by rw[he,h4]⟩,by simp only;omega,rfl,rfl⟩|intro _))
 ·refine zy trivial ?_;rw[he,vX7 zo];rfl
end
def kMy (x:Mach):Int→Int:=szT (szA x.stack.length) (szA x.out.length)
theorem kYd (x:Mach):Szf (kMy x):=kPq (kFz _) (kFz _)
def bigMach (x:Mach):Prop:=x.stack.length≤maxLen∧x.out.length≤maxLen
@[go_sem] def qQp:Ctr:=pur (fun args=>(kFu (aC args 0),aI args 1)) (fun x=>[.agg [vi x.1.pc,vi x.1.sp,vi x.1.fp,.sl 1 (x.1.stack.map encI),.sl 1 (x.1.out.map encI),vi x.1.state,vi x.1.value],vi x.2]) (fun x=>bigMach x.1∧0≤x.2∧x.2≤1048576)
 (fun _ x=>vi (kMy x.1 x.2)) (fun _ _=>[])
section
def cxZa:=kc cszIn kn
theorem qQq:Cq 147 qQp:=by
 refine zp fun d x hx=>?_
 obtain⟨⟨a,b,c,s,o,d2,e2⟩,left⟩:=x;obtain⟨⟨hs,ho⟩,h0,h1⟩:=hx;simp only at hs ho h0 h1⊢;have hu:kMy ⟨a,b,c,s,o,d2,e2⟩ left=if szA s.length left<0 then -1 else szA o.length (szA s.length left):=rfl
 have ha:=kFz s.length left h0;rw[hu];refine zg cxZa func147 rfl rfl ntmps147 ?_;intros;by_cases h5:szA s.length left<0
 ·rw[if_pos h5];exact zx h5
 ·rw[if_neg h5]
  (repeat' (first|apply zS|apply zB|(apply zW;simp only[go_sem,h5])|apply jAi|intro _))
  all_goals first|omega|(rename_i h;rw[kMt (kFz _) zo h])|skip
end
attribute [local irreducible] bigMach
def kPg (L:List Mach):Int→Int:=kDa (L.map kMy)
theorem k3j (L:List Mach):Szf (kPg L):=kU9 _ (by simp only[jCr];rintro _ ⟨x,_,rfl⟩;exact kYd x)
@[go_sem] def qNd:Ctr:=pur (fun args=>(kHg (aR args 0),aI args 1)) (fun x=>[.sl 7 (x.1.map encMach),vi x.2]) (fun x=>x.1.length≤maxLen∧(∀s∈x.1,bigMach s)∧0≤x.2∧x.2≤1048576)
 (fun _ x=>vi (kPg x.1 x.2)) (fun _ _=>[])
section
attribute [local go_sem] kFu
def cxZas:=kc qQq kn
theorem qNe:Cq 73 qNd:=by
 refine zp fun d x hx=>?_
 obtain⟨L,left⟩:=x;obtain⟨hL,hs,h0,h1⟩:=hx;simp only at hL hs h0 h1⊢;have hm:maxLen=9223372036854775807:=rfl;generalize hF:(L.map kMy)=F;have hlen:F.length=L.length:=by rw[←hF,jH5]
 have hsz:kPg L left=kDa F left:=by rw[←hF];rfl
 rw[hsz];refine zg cxZas func73 rfl rfl ntmps73 ?_;intros
 (repeat' (first|apply zS|apply zB|(apply zW;simp only[go_sem])|apply jAi|exact zc0|intro _))
 ·rename_i h;rw[kDa,hlen,if_pos h]
 rename_i hge
 refine zL (fun s:Nat×Int=>⟨[(0,.sl 7 (L.map encMach)),(1,vi s.2),(5,vi s.1)],[]⟩)
  (fun s=>s.1≤L.length∧0≤s.2∧s.2≤1048576∧kDa F left=szL (F.drop s.1) s.2) (fun s=>L.length-s.1) (0,left-L.length)
  ⟨zs,by simpa using hge,by simp only;omega,by rw[kDa,hlen,if_neg zo];rfl⟩ ?_ ?_
 ·simp only[go_sem];first|exact⟨rfl,rfl⟩|rfl
 rintro⟨k,r⟩ ⟨hk,hr0,hr1,he⟩;simp only at hk hr0 hr1 he⊢;by_cases hlt:k<L.length
 ·have h2:=kAa encMach L k hlt;have h3:=hs _ (jCn hlt);have hFk:F[k]'zo=kMy L[k]:=by subst hF;simp
  have h4:=kU8 F k r zo;rw[hFk]at h4;have h6:=kYd L[k] r hr0;by_cases h5:kMy L[k] r<0
  ·rw[he,h4,if_pos h5];exact zx (z3 h2 encMach.eq_1 h5)
  ·rw[if_neg h5]at h4
   (repeat' (first|apply zS|apply zB|(apply zW;simp only[go_sem,h2,encMach,h5])|apply jAi|omega|exact h3|exact⟨(k+1,kMy L[k] r),⟨by simp only;omega,by simp only;omega,by simp only;omega,by rw[he,h4]⟩,by simp only;omega,rfl,rfl⟩|intro _))
 ·refine zy trivial ?_;rw[he,vX7 zo];rfl
end
abbrev SpX:=List Image×List Int×List Int
def kL3 (x:SpX):Int→Int:=szT (kGa x.1) (szT (szA x.2.1.length) (szA x.2.2.length))
theorem kLh (x:SpX):Szf (kL3 x):=kPq (kPm _) (kPq (kFz _) (kFz _))
def bigSp (x:SpX):Prop:=(x.1.length≤maxLen∧∀s∈x.1,bigImg s)∧x.2.1.length≤maxLen∧x.2.2.length≤maxLen
@[go_sem] def kszSp:Ctr:=pur (fun args=>(spA args 0,aI args 1)) (fun x=>[.agg [.sl 2 (x.1.1.map encImage),.sl 1 (x.1.2.1.map encI),.sl 1 (x.1.2.2.map encI)],vi x.2]) (fun x=>bigSp x.1∧0≤x.2∧x.2≤1048576)
 (fun _ x=>vi (kL3 x.1 x.2)) (fun _ _=>[])
section
def cxZp:=kc cszIn (kc qQo kn)
theorem cszSp:Cq 23 kszSp:=by
 refine zp fun d x hx=>?_
 obtain⟨⟨I,B,E⟩,left⟩:=x;obtain⟨⟨⟨hI,hIm⟩,hB,hE⟩,h0,h1⟩:=hx;simp only at hI hIm hB hE h0 h1⊢;have hu:kL3 (I,B,E) left=if kGa I left<0 then -1 else if szA B.length (kGa I left)<0 then -1 else szA E.length (szA B.length (kGa I left)):=rfl
 have ha:=kPm I left h0;rw[hu];refine zg cxZp func23 rfl rfl ntmps23 ?_;intros;by_cases h5:kGa I left<0
 ·rw[if_pos h5];exact zx h5
 ·rw[if_neg h5];have hb:=kFz B.length (kGa I left) zo;by_cases h6:szA B.length (kGa I left)<0
  ·rw[if_pos h6];exact zx (z2 h5 h6)
  ·rw[if_neg h6]
   (repeat' (first|apply zS|apply zB|(apply zW;simp only[go_sem,h5,h6])|apply jAi|intro _))
   all_goals first|omega|exact hIm _ ‹_›|(rename_i h;rw[kMt (kFz _) zo h])|skip
end
def k3k (x:RgX):Int→Int:=kUe x.2.1
theorem qAt (L:List ByteArray):Szf (kUe L):=kU9 _ (by simp only[jCr];rintro _ ⟨x,_,rfl⟩;exact kFz _)
def bigRg (x:RgX):Prop:=x.2.1.length≤maxLen∧∀s∈x.2.1,s.size≤maxLen
@[go_sem] def kszRg:Ctr:=pur (fun args=>(rgA args 0,aI args 1)) (fun x=>[.agg [vi x.1.1,.sl 1 (x.1.2.1.map encS),vi x.1.2.2.1,vi x.1.2.2.2],vi x.2]) (fun x=>bigRg x.1∧0≤x.2∧x.2≤1048576)
 (fun _ x=>vi (k3k x.1 x.2)) (fun _ _=>[])
section
def cxZr:=kc cszStr kn
theorem cszRg:Cq 26 kszRg:=by
 refine zp fun d x hx=>?_
 obtain⟨⟨cp,R,wr,lo⟩,left⟩:=x;obtain⟨⟨hR,hs⟩,h0,h1⟩:=hx;simp only at hR hs h0 h1⊢;have hu:k3k (cp,R,wr,lo) left=kUe R left:=rfl;rw[hu];refine zg cxZr func26 rfl rfl ntmps26 ?_;intros
 (repeat' (first|apply zS|apply zB|(apply zW;simp only[go_sem])|apply jAi|intro _))
 all_goals first|omega|exact hs _ ‹_›|(rename_i h;rw[kMt (qAt _) zo h])|skip
end
def k3l (x:PcX):Int→Int:=szT (kL3 x.1) (kPg x.2.1)
theorem kQ2 (x:PcX):Szf (k3l x):=kPq (kLh _) (k3j _)
def bigPc (x:PcX):Prop:=bigSp x.1∧x.2.1.length≤maxLen∧∀s∈x.2.1,bigMach s
@[go_sem] def kszPc:Ctr:=pur (fun args=>(pcA args 0,aI args 1)) (fun x=>[.agg [.sl 2 (x.1.1.1.map encImage),.sl 1 (x.1.1.2.1.map encI),.sl 1 (x.1.1.2.2.map encI),.sl 7 (x.1.2.1.map encMach),vi x.1.2.2.1,vi x.1.2.2.2.1,vi x.1.2.2.2.2],vi x.2]) (fun x=>bigPc x.1∧0≤x.2∧x.2≤1048576)
 (fun _ x=>vi (k3l x.1 x.2)) (fun _ _=>[])
section
def cxZpc:=kc cszSp (kc qNe kn)
theorem cszPc:Cq 25 kszPc:=by
 refine zp fun d x hx=>?_
 obtain⟨⟨⟨I,B,E⟩,T,tu,le,sl⟩,left⟩:=x;obtain⟨⟨hsp,hT,hTs⟩,h0,h1⟩:=hx;have hsp2:=hsp;obtain⟨⟨hI,hIm⟩,hB,hE⟩:=hsp2;simp only at hT hTs hI hIm hB hE h0 h1⊢;have hu:k3l ((I,B,E),T,tu,le,sl) left=if kL3 (I,B,E) left<0 then -1 else kPg T (kL3 (I,B,E) left):=rfl
 have ha:=kLh (I,B,E) left h0;rw[hu];refine zg cxZpc func25 rfl rfl ntmps25 ?_;intros;by_cases h5:kL3 (I,B,E) left<0
 ·rw[if_pos h5];exact zx h5
 ·rw[if_neg h5]
  (repeat' (first|apply zS|apply zB|(apply zW;simp only[go_sem,h5])|apply jAi|intro _))
  all_goals first|omega|exact hIm _ ‹_›|exact hTs _ ‹_›|exact hsp|(rename_i h;rw[kMt (k3j _) zo h])|skip
end
def kQi (x:SeX):Int→Int:=szT (k3l x.1) (k3k x.2.2.1)
theorem qDi (x:RgX):Szf (k3k x):=qAt _
theorem qPl (x:SeX):Szf (kQi x):=kPq (kQ2 _) (qDi _)
def bigSe (x:SeX):Prop:=bigPc x.1∧bigRg x.2.2.1
@[go_sem] def kszSe:Ctr:=pur (fun args=>(seA args 0,aI args 1)) (fun x=>[.agg (aggSe x.1),vi x.2]) (fun x=>bigSe x.1∧0≤x.2∧x.2≤1048576)
 (fun _ x=>vi (kQi x.1 x.2)) (fun _ _=>[])
section
attribute [local go_sem] aggSe
def cxZse:=kc cszPc (kc cszRg kn)
set_option maxHeartbeats 3000000 in
theorem cszSe:Cq 6 kszSe:=by
 refine zp fun d x hx=>?_
 obtain⟨⟨⟨⟨I,B,E⟩,T,tu,le,sl⟩,⟨p,q,l,st⟩,⟨cp,R,wr,lo⟩,mo,sp,fi⟩,left⟩:=x;obtain⟨⟨hP,hR⟩,h0,h1⟩:=hx;simp only[aggSe]at hP hR h0 h1⊢;have hP2:=hP;have hR2:=hR;obtain⟨hR1,hRs⟩:=hR2;obtain⟨⟨⟨hI,hIm⟩,hB,hE⟩,hT,hTs⟩:=hP2;simp only at hI hIm hB hE hT hTs hR1 hRs;generalize hz:k3l ((I,B,E),T,tu,le,sl) left=z;have hu:kQi (((I,B,E),T,tu,le,sl),⟨p,q,l,st⟩,(cp,R,wr,lo),mo,sp,fi) left=if z<0 then -1 else k3k (cp,R,wr,lo) z:=by rw[←hz];rfl
 have ha:=kQ2 ((I,B,E),T,tu,le,sl) left h0;rw[hz]at ha;rw[hu];refine zg cxZse func6 rfl rfl ntmps6 ?_;intros;by_cases h5:z<0
 ·rw[if_pos h5];exact zx (z2 hz h5)
 ·rw[if_neg h5]
  (repeat' (first|apply zS|apply zB|(apply zW;simp only[go_sem,hz,h5])|apply jAi|intro _))
  all_goals first|omega|exact hIm _ ‹_›|exact hTs _ ‹_›|exact hRs _ ‹_›|exact hP|exact hR|(rename_i h;rw[kMt (qDi _) zo h])|skip
end
end
section
open Go.Vc
open Go.Pl
section
attribute [local go_sem] kCc
end
def kMj:List SV:=[.v (.string ⟨#[]⟩),.v (.slice none 0 0)]
section
attribute [local go_sem] kCc
end
end
section
open Go.Vc Tryz
open Go.Pl
def kPf:List SV:=[vi 0,vi 0,vi 0,.v (.slice none 0 0),.v (.slice none 0 0),vi 0,vi 0]
def kCr (x:Mach):Prop:=x.stack.length≤2097152∧x.out.length≤2097152
section
attribute [local go_sem] kFu
end
def kO2 (x:SpX):Prop:=(x.1.length≤2097152∧∀i∈x.1,i.symbols.length≤2097152)∧x.2.1.length≤2097152∧x.2.2.length≤2097152
def kFr (x:PcX):Prop:=kO2 x.1∧x.2.1.length≤1048576∧∀m∈x.2.1,kCr m
def aggPc (x:PcX):List SV:=[.sl 2 (x.1.1.map encImage),.sl 1 (x.1.2.1.map encI),.sl 1 (x.1.2.2.map encI),.sl 7 (x.2.1.map encMach),vi x.2.2.1,vi x.2.2.2.1,vi x.2.2.2.2]
section
attribute [local go_sem] aggPc
attribute [local irreducible] kCr
end
def aggTm (x:Tm):List SV:=[vi x.period,vi x.spread,vi x.left,vi x.state]
@[go_sem] def ktoTm:Ctr:=pur (fun args=>tmA args 0) (fun x=>[.agg (aggTm x)]) (fun _=>True) (fun _ x=>.agg (aggTm x)) (fun _ _=>[])
section
attribute [local go_sem] aggTm
def cxTti:=COk.nil Tryz.prog
theorem ctoTm:Cq 40 ktoTm:=by
 refine zp fun d x hx=>?_
 obtain⟨p,q,l,st⟩:=x;simp only[aggTm];refine zg cxTti func40 rfl rfl ntmps40 ?_;intros
 (repeat' (first|apply zS|apply zB|(apply zW;simp only[go_sem])|apply jAi|omega|exact⟨_,_,_,_,rfl⟩|exact⟨_,_,rfl,_,_,rfl,rfl⟩|intro _))
end
def aggRg (x:RgX):List SV:=[vi x.1,.sl 1 (x.2.1.map encS),vi x.2.2.1,vi x.2.2.2]
section
attribute [local go_sem] aggRg
end
def kEc (x:SeX):Prop:=kFr x.1∧x.2.2.1.2.1.length≤2097152
section
attribute [local go_sem] aggSe aggPc aggTm aggRg
attribute [local irreducible] kCr
end
end
section
open Go.Vc Tryz
open Go.Pl
def kVs (x:Image):Prop:=x.symbols.length≤2097152
@[go_sem] def kqImg:Ctr:=pur (fun args=>kCc (aC args 0)) (fun x=>[.agg [.v (.string x.code),.sl 3 (x.symbols.map encSymbol)],.agg [.v (.string x.code),.sl 3 (x.symbols.map encSymbol)]]) kVs (fun _ _=>.v (.bool true)) (fun _ _=>[])
section
attribute [local go_sem] kCc
def cxQim:=kc k1z kn
theorem cqImg:Cq 197 kqImg:=by
 refine zp fun d x hx=>?_
 obtain⟨c,Y⟩:=x;unfold kVs at hx;simp only at hx⊢;refine zg cxQim func197 rfl rfl ntmps197 ?_;intros;exact zx trivial
end
@[go_sem] def kqMach:Ctr:=pur (fun args=>kFu (aC args 0)) (fun x=>[.agg [vi x.pc,vi x.sp,vi x.fp,.sl 1 (x.stack.map encI),.sl 1 (x.out.map encI),vi x.state,vi x.value],.agg [vi x.pc,vi x.sp,vi x.fp,.sl 1 (x.stack.map encI),.sl 1 (x.out.map encI),vi x.state,vi x.value]]) kCr (fun _ _=>.v (.bool true)) (fun _ _=>[])
section
def cxQma:=kc c17 kn
theorem cqMach:Cq 195 kqMach:=by
 refine zp fun d x hx=>?_
 obtain⟨a,b,c,s,o,d2,e2⟩:=x;unfold kCr at hx;obtain⟨hs,ho⟩:=hx;simp only at hs ho⊢;refine zg cxQma func195 rfl rfl ntmps195 ?_;intros;exact zx trivial
end
@[go_sem] def kqImgS:Ctr:=pur (fun args=>kDf (aR args 0)) (fun L=>[.sl 2 (L.map encImage),.sl 2 (L.map encImage)]) (fun L=>L.length≤2097152∧∀x∈L,kVs x) (fun _ _=>.v (.bool true)) (fun _ _=>[])
section
attribute [local go_sem] kCc
attribute [local irreducible] kVs
def cxQis:=kc cqImg kn
theorem k6m {p:Prop}(h:p:=by first|omega|exact h0|exact⟨k+1,by omega,by omega,rfl⟩|exact⟨k+1,by omega,by omega,rfl,rfl⟩):p:=h
theorem cqImgS:Cq 124 kqImgS:=by
 refine zp fun d x hx=>?_
 rename List Image=>L
 obtain⟨hL,hY⟩:=hx;refine zg cxQis func124 rfl rfl ntmps124 ?_;intros;refine zy1 10 trivial ?_;refine zL (fun k:Nat=>⟨[(0,.sl 2 (L.map encImage)),(1,.sl 2 (L.map encImage)),(5,vi k)],[]⟩) (fun k=>k≤L.length) (fun k=>L.length-k) 0 zs ?_ ?_
 ·simp only[go_sem];first|exact⟨rfl,rfl⟩|rfl
 intro k hk;by_cases hlt:k<L.length
 ·have h1:=kAa encImage L k hlt;have h0:=hY _ (jCn hlt)
  (repeat' (first|apply zS|apply zB|((first|apply zW| refine zd 10 ?_);simp only[go_sem,h1,encImage])|apply jAi|exact k6m|intro _))
 ·exact zx1 10 trivial
end
@[go_sem] def qQl:Ctr:=pur (fun args=>kHg (aR args 0)) (fun L=>[.sl 7 (L.map encMach),.sl 7 (L.map encMach)]) (fun L=>L.length≤1048576∧∀x∈L,kCr x) (fun _ _=>.v (.bool true)) (fun _ _=>[])
section
attribute [local go_sem] kFu
attribute [local irreducible] kCr
def cxQms:=kc cqMach kn
theorem qQm:Cq 120 qQl:=by
 refine zp fun d x hx=>?_
 rename List Mach=>L
 obtain⟨hL,hY⟩:=hx;refine zg cxQms func120 rfl rfl ntmps120 ?_;intros;refine zy1 10 trivial ?_;refine zL (fun k:Nat=>⟨[(0,.sl 7 (L.map encMach)),(1,.sl 7 (L.map encMach)),(5,vi k)],[]⟩) (fun k=>k≤L.length) (fun k=>L.length-k) 0 zs ?_ ?_
 ·simp only[go_sem];first|exact⟨rfl,rfl⟩|rfl
 intro k hk;by_cases hlt:k<L.length
 ·have h1:=kAa encMach L k hlt;have h0:=hY _ (jCn hlt)
  (repeat' (first|apply zS|apply zB|((first|apply zW| refine zd 10 ?_);simp only[go_sem,h1,encMach])|apply jAi|exact k6m|intro _))
 ·exact zx1 10 trivial
end
@[go_sem] def kqSp:Ctr:=pur (fun args=>spA args 0) (fun x=>[.agg [.sl 2 (x.1.map encImage),.sl 1 (x.2.1.map encI),.sl 1 (x.2.2.map encI)],.agg [.sl 2 (x.1.map encImage),.sl 1 (x.2.1.map encI),.sl 1 (x.2.2.map encI)]]) kO2 (fun _ _=>.v (.bool true)) (fun _ _=>[])
section
attribute [local irreducible] kVs
def cxQsp:=kc c17 (kc cqImgS kn)
theorem cqSp:Cq 56 kqSp:=by
 refine zp fun d x hx=>?_
 obtain⟨I,B,E⟩:=x;obtain⟨⟨hI,hIm⟩,hB,hE⟩:=hx;have hIm2:∀i∈I,kVs i:=fun i hi=>by unfold kVs;exact hIm i hi
 simp only at hI hIm hB hE⊢;refine zg cxQsp func56 rfl rfl ntmps56 ?_;intros;exact zx trivial
end
@[go_sem] def kqPc:Ctr:=pur (fun args=>pcA args 0) (fun x=>[.agg (aggPc x),.agg (aggPc x)]) kFr (fun _ _=>.v (.bool true)) (fun _ _=>[])
section
attribute [local go_sem] aggPc
attribute [local irreducible] kCr
def cxQpc:=kc cqSp (kc qQm kn)
set_option maxHeartbeats 3000000 in
theorem cqPc:Cq 52 kqPc:=by
 refine zp fun d x hx=>?_
 obtain⟨⟨I,B,E⟩,T,tu,le,sl⟩:=x;obtain⟨hsp,hT,hTs⟩:=hx;have hsp2:=hsp;obtain⟨⟨hI,hIm⟩,hB,hE⟩:=hsp2;simp only[aggPc]at hT hTs hI hIm hB hE⊢;refine zg cxQpc func52 rfl rfl ntmps52 ?_;intros;exact zx trivial
end
@[go_sem] def kqTm:Ctr:=pur (fun args=>tmA args 0) (fun x=>[.agg (aggTm x),.agg (aggTm x)]) (fun _=>True) (fun _ _=>.v (.bool true)) (fun _ _=>[])
section
attribute [local go_sem] aggTm
def cxQti:=COk.nil Tryz.prog
theorem cqTm:Cq 53 kqTm:=by
 refine zp fun d x hx=>?_
 obtain⟨p,q,l,st⟩:=x;simp only[aggTm];refine zg cxQti func53 rfl rfl ntmps53 ?_;intros;exact zx trivial
end
@[go_sem] def kqStr:Ctr:=pur (fun args=>(kNn (aR args 0),kNn (aR args 1))) (fun x=>[.sl 1 (x.1.map encS),.sl 1 (x.2.map encS)]) (fun x=>x.1.length≤4398046511104) (fun _ x=>.v (.bool (decide (x.1=x.2)))) (fun _ _=>[])
theorem cqStr:Cq 121 kqStr:=by
 refine zp fun d x hx=>?_
 obtain⟨L,M⟩:=x;simp only at hx⊢;refine zg cx0 func121 rfl rfl ntmps121 ?_;intros
 (repeat' (first|apply zS|apply zB|((first|apply zW| refine zd 9 ?_);simp only[go_sem])|apply jAi|intro _))
 ·simp;intro h;subst h;simp_all
 have hlen:L.length=M.length:=zo;refine zM (fun k:Nat=>⟨[(0,.sl 1 (L.map encS)),(1,.sl 1 (M.map encS)),(5,vi k)],[]⟩) (fun k=>k≤L.length∧L.take k=M.take k) (fun k=>L.length-k) 0 zs ?_
 intro k ⟨hk,ht⟩;by_cases hlt:k<L.length
 ·have h1:=kAa encS L k hlt;have h2:=kAa encS M k zo
  (repeat' (first|apply zS|apply zB|((first|apply zW| refine zd 9 ?_);simp only[go_sem,h1,h2,encS])|apply jAi|exact zc0|intro _))
  ·rename_i hne;rw[show decide (L=M)=false from decide_eq_false fun e=>by subst e;exact hne rfl]
  ·rename_i he;refine⟨k+1,⟨zo,?_⟩,zo,rfl⟩;rw[jQw hlt,jQw (by omega:k<M.length),ht,he]
 ·refine zy1 9 trivial ?_;rw[show decide (L=M)=true from decide_eq_true ?_]
  rw[show k=L.length by omega,jJ3,hlen,jJ3]at ht
  exact ht
@[go_sem] def kqRg:Ctr:=pur (fun args=>rgA args 0) (fun x=>[.agg (aggRg x),.agg (aggRg x)]) (fun x=>x.2.1.length≤2097152) (fun _ _=>.v (.bool true)) (fun _ _=>[])
section
attribute [local go_sem] aggRg
def cxQrg:=kc cqStr kn
theorem cqRg:Cq 54 kqRg:=by
 refine zp fun d x hx=>?_
 obtain⟨cp,R,wr,lo⟩:=x;simp only[aggRg]at hx⊢;refine zg cxQrg func54 rfl rfl ntmps54 ?_;intros;exact zx trivial
end
@[go_sem] def kqSe:Ctr:=pur (fun args=>seA args 0) (fun x=>[.agg (aggSe x),.agg (aggSe x)]) kEc (fun _ _=>.v (.bool true)) (fun _ _=>[])
section
attribute [local go_sem] aggSe aggPc aggTm aggRg
attribute [local irreducible] kCr
def cxQse:=kc cqPc (kc cqTm (kc cqRg kn))
set_option maxHeartbeats 3000000 in
theorem cqSe:Cq 13 kqSe:=by
 refine zp fun d x hx=>?_
 obtain⟨⟨⟨I,B,E⟩,T,tu,le,sl⟩,⟨p,q,l,st⟩,⟨cp,R,wr,lo⟩,mo,sp,fi⟩:=x;obtain⟨hP,hR⟩:=hx;have hP2:=hP;obtain⟨⟨⟨hI,hIm⟩,hB,hE⟩,hT,hTs⟩:=hP2;simp only[aggSe]at hI hIm hB hE hT hTs hR⊢;refine zg cxQse func13 rfl rfl ntmps13 ?_;intros;exact zx trivial
end
end
end Go.Proofs.YtjdklcjoeanimaaGreat
namespace Go.Vc
inductive Gh where
 |dp (id:Nat)
 |opn (id i:Nat)
 |bor (id k j:Nat)
 |kUq (id k j:Nat)
 |abs (id k:Nat)
 |fld (id:Nat)
@[go_sem] def SV.flat (c:SV):Bool:=match c with
 | .v _=>true
 | .sl _ _=>true
 | _=>false
@[go_sem] def St.gh (st:St) (K:St→Prop):Gh→Prop
 | .dp id=>match lk id st.hp with
  |some (.sl e s rows)=>kJv rows∧K (st.wrt id (.dp e s rows))
  |some (.dp e s rows)=>K st
  | _=>False
 | .opn id i=>match lk id st.hp with
  |some (.dp e s rows)=>i<rows.length∧K (st.wrt id (.dq e s rows i (rowAt rows i)))
  | _=>False
 | .bor id k j=>match lk id st.hp with
  |some (.dq e s rows i row0)=>match row0[k]? with
   |some (.sl s' rows')=>j<1000000∧j≠id∧∀e',K { fr:=(st.kill j).fr,hp:=(j,.dp e' s' rows')::(id,.dq e s rows i ((row0.map (SV.upq (SV.kill j))).set k (.own j)))::er id (st.kill j).hp }
   | _=>False
  | _=>False
 | .kUq id k j=>match lk id st.hp with
  |some (.dq e s rows i row0)=>match row0[k]? with
   |some (.sl s' rows')=>j<1000000∧j≠id∧kJv rows'∧∀e',K { fr:=(st.kill j).fr,hp:=(j,.sl e' s' rows')::(id,.dq e s rows i ((row0.map (SV.upq (SV.kill j))).set k (.own j)))::er id (st.kill j).hp }
   | _=>False
  | _=>False
 | .abs id k=>match lk id st.hp with
  |some (.dq e s rows i row0)=>match row0[k]? with
   |some (.own j)=>j≠id∧(match lk j st.hp with
    |some (.sl e' s' rows')=>kJv rows'∧K { fr:=(st.kill j).fr,hp:=(id,.dq e s rows i ((row0.map (SV.upq (SV.kill j))).set k (.sl s' rows')))::er id (st.kill j).hp }
    |some (.dp e' s' rows')=>K { fr:=(st.kill j).fr,hp:=(id,.dq e s rows i ((row0.map (SV.upq (SV.kill j))).set k (.sl s' rows')))::er id (st.kill j).hp }
    | _=>False)
   | _=>False
  | _=>False
 | .fld id=>match lk id st.hp with
  |some (.dq e s rows i row0)=>(row0.all SV.flat)=true∧K (st.wrt id (.dp e s (rows.set i row0)))
  | _=>False
@[go_sem] def St.gho (st:St) (K:St→Prop):List Gh→Prop
 | []=>K st
 |g::l=>st.gh (fun st'=>st'.gho K l) g
section
variable {N:Nat}{X0:Nat→Prop}{M:Nat→BV→Prop}{w0:World}{st:St}{β:Nat→BV}{a:Act}{w:World}
theorem Sim.reob (h:Sim N X0 M w0 st β a w) {j:Nat}{ob ob':Ob}(hj:lk j st.hp=some ob) (hob:ObR w (XX X0 β st.hp) β (β j) ob→ObR w (XX X0 β st.hp) β (β j) ob'):Sim N X0 M w0 (st.wrt j ob') β a w :=
 h.write hj rfl rfl rfl (jDu _) (fun _ _ _=>rfl) (hob (h.objs j ob hj))
theorem kMg {hp':List (Nat×Ob)}{β':Nat→BV}(hft:∀id ob b,lk id hp'=some ob→(β' id).ft b→∃i o,lk i st.hp=some o∧(β i).ft b) {b:Nat}(hb:XX X0 β' hp' b):XX X0 β st.hp b:=by
 rcases hb with hb|⟨id,ob,hi,hb⟩
 ·exact .inl hb
 ·exact .inr (hft id ob b hi hb)
theorem Sim.ghost (h:Sim N X0 M w0 st β a w) {st':St}{β':Nat→BV}(hone:∀i,(β' i).val.oneCell'=true) (hpin:∀i,1000000≤i→(β' i).val=(β i).val)
  (hft:∀id ob b,lk id st'.hp=some ob→(β' id).ft b→∃i o,lk i st.hp=some o∧(β i).ft b)
  (hslots:∀t x',lk t st'.fr=some x'→∃x,lk t st.fr=some x∧∀v,R w (XX X0 β' st'.hp) β x v→R w (XX X0 β' st'.hp) β' x' v)
  (hobjs:∀id ob,lk id st'.hp=some ob→ObR w (XX X0 β' st'.hp) β' (β' id) ob)
  (hinj:∀i j oi oj b,lk i st'.hp=some oi→lk j st'.hp=some oj→(β' i).ft b→(β' j).ft b→i=j):Sim N X0 M w0 st' β' a w:=by
 have hS:Same (XX X0 β st.hp) w w:=⟨jDu _,fun _ _ _=>rfl⟩
 exact{ h with
  beta:=hone
  slots:=fun t x hx=>by
   obtain⟨y,h1,h2⟩:=hslots t x hx;exact h2 _ ((h.slots t y h1).mono hS (fun b _ hb=>kMg hft hb))
  objs:=hobjs
  inj:=hinj
  mine:=fun id ob b hi hb=>by
   obtain⟨i,o,h1,h2⟩:=hft id ob b hi hb;exact h.mine i o b h1 h2
  pin:=fun id u hm h1=>by rw[hpin id h1];exact h.pin id u hm h1 }
theorem Dp.qHo {x:Value}{v:Value}{F:Nat→Prop}(h:Dp w (.v x) v F):v=x∧∀b,¬F b:=by
 cases h with
 |v _ F hF=>exact⟨rfl,hF⟩
theorem Dp.v_of {c:SV}{v:Value}{F:Nat→Prop}(h:Dp w c v F) (hc:c.kFl=false):c=.v v∧∀b,¬F b:=by
 cases h with
 |v _ F hF=>exact⟨rfl,hF⟩
 |nil=>cases hc
 |sl=>cases hc
theorem ObR.sl_dp {X:Nat→Prop}{v:BV}{e s:Nat}{rows:List (List SV)}(h:ObR w X β v (.sl e s rows)) (hv:kJv rows):ObR w X β v (.dp e s rows):=by
 cases h with
 |nil e s h=>subst h;exact .dp (.nil s _ (fun b hb=>by cases hb)) (fun b hb=>by cases hb)
 |sl b cap cur us hv' hh h1 h2 h3 h4 h5 h6 h7 =>
  subst hv';refine .dp (.sl e b cap cur us (fun _ _ _=>False) _ hh h1 h2 h3 h4 (fun i k q1 q2=>?_) (fun i k q1 q2=>?_) (fun i k row c q1 q2=>?_) (fun _ _ _ hf=>hf.elim) (fun _ _ hf=>hf) (fun _ _ _ _ _ hf=>hf.elim) (fun b'=>?_)) (fun b' hb=>?_)
  ·obtain⟨row,c,r1,r2⟩:=kMb h4 q1 q2;exact h5 i k row c r1 r2
  ·obtain⟨row,c,r1,r2⟩:=kMb h4 q1 q2;exact h6 i k row c r1 r2
  ·obtain⟨x,rfl⟩:=hv row (jIc q1) c (jIc q2);have:=h7 i k row _ q1 q2;generalize us i k=u at this;cases this;exact .v x _ (fun _ hf=>hf)
  ·show blk (.slice (some ⟨b,0,none⟩) rows.length cap)=some b'↔_
   simp[blk,eq_comm]
  ·have hb':some b=some b':=hb
   injection hb' with hb'
   subst hb';exact⟨cur,hh⟩
theorem Dp.dp_sl {X:Nat→Prop}{s:Nat}{rows:List (List SV)}{v:Value}{F:Nat→Prop}(h:Dp w (.sl s rows) v F) (hv:kJv rows):∃e,ObR w X β ⟨v,F⟩ (.sl e s rows):=by
 cases h with
 |nil s F hF=>exact⟨0,.nil 0 s (by
   unfold kEm plain;congr 1;funext b
   exact propext ⟨fun h=>absurd h (hF b),fun h=>by cases h⟩)⟩
 |sl e b cap cur us fs F hh h1 h2 h3 h4 h5 h6 h7 h8 h9 h10 hF =>
  have hempty:∀i k b',¬fs i k b':=fun i k b' hb=>by
   obtain⟨q1,q2⟩:=h8 i k b' hb;obtain⟨row,c,r1,r2⟩:=kMb h4 q1 q2;obtain⟨x,rfl⟩:=hv row (jIc r1) c (jIc r2);exact(h7 i k row _ r1 r2).qHo.2 b' hb
  refine⟨e,.sl b cap cur us ?_ hh h1 h2 h3 h4 (fun i k row c r1 r2=>h5 i k (kI0 h4 r1 r2).1 (kI0 h4 r1 r2).2) (fun i k row c r1 r2=>h6 i k (kI0 h4 r1 r2).1 (kI0 h4 r1 r2).2) (fun i k row c r1 r2=>?_)⟩
  ·unfold plain;congr 1;funext b';refine propext ((hF b').trans ⟨fun h=>?_,fun h=>.inl ?_⟩)
   ·rcases h with rfl|⟨i,k,h⟩
    ·rfl
    ·exact absurd h (hempty i k b')
   ·have hb':some b=some b':=h
    injection hb' with hb'
    exact hb'.symm
  ·obtain⟨x,rfl⟩:=hv row (jIc r1) c (jIc r2);have:=(h7 i k row _ r1 r2).qHo.1;rw[this];exact .v x
theorem Dp.dp_ob {X:Nat→Prop}{s:Nat}{rows:List (List SV)}{v:Value}{F:Nat→Prop}(h:Dp w (.sl s rows) v F):∃e,ObR w X β ⟨v,F⟩ (.dp e s rows):=by
 have h0:=h
 cases h with
 |nil s F hF=>exact⟨0,.dp h0 (fun b hb=>by cases hb)⟩
 |sl e b cap cur us fs F hh=>exact⟨e,.dp h0 (fun b' hb=>by
   have hb':some b=some b':=hb
   injection hb' with hb'
   subst hb';exact⟨cur,hh⟩)⟩
theorem ObR.dp_dq {X:Nat→Prop}{v:BV}{e s i:Nat}{rows:List (List SV)}(h:ObR w X β v (.dp e s rows)) (hi:i<rows.length):ObR w X β v (.dq e s rows i (rowAt rows i)):=by
 cases h with
 |dp hd he =>
  obtain⟨vv,F⟩:=v;simp only at hd he;have hrow:rows[i]? = some (rowAt rows i):=by unfold rowAt;rw[jD9 hi];rfl
  cases hd with
  |nil=>simp at hi
  |sl e' b cap cur us fs F hh h1 h2 h3 h4 h5 h6 h7 h8 h9 h10 hF =>
   obtain⟨cur',kSh⟩:=he b rfl;rw[hh]at kSh;cases kSh;refine .dq b cap cur us fs rfl hh h1 h2 h3 hi (h4 i _ hrow) h4 h5 h6 (fun i' k row c _ r1 r2=>h7 i' k row c r1 r2) (fun k c hc=>?_) h8 h9 h10 hF
   have hd:=h7 i k _ c hrow hc
   cases hsl:c.kFl with
   |true=>exact .inl ⟨hsl,hd⟩
   |false =>
    obtain⟨e1,e2⟩:=hd.v_of hsl;refine .inr ⟨hsl,?_,e2⟩;rw[e1];exact .p (.v _)
theorem ObR.dq_dp {X:Nat→Prop}{v:BV}{e s i:Nat}{rows:List (List SV)}{row0:List SV}(h:ObR w X β v (.dq e s rows i row0)) (hall:row0.all SV.flat=true):ObR w X β v (.dp e s (rows.set i row0)):=by
 cases h with
 |dq b cap cur us fs hv hh h1 h2 h3 h4 h5 h6 h7 h8 h9 h10 h11 h12 h13 hF =>
  have hlen:∀(i':Nat) (row:List SV),(rows.set i row0)[i']? = some row→row.length=s:=fun i' row hr=>by
   rw[vVw]at hr;split at hr
   ·simp only[h4,if_true,jBf]at hr;rw[←hr];exact h5
   ·exact h6 i' row hr
  refine .dp ?_ (fun b' hb=>?_)
  ·rw[hv]
   have:=Dp.sl (w:=w) (s:=s) (rows:=rows.set i row0) e b cap cur us fs v.ft hh (by rw[jP9];exact h1) h2 h3 hlen (fun i' k q1 q2=>h7 i' k (by rwa [jP9]at q1) q2) (fun i' k q1 q2=>h8 i' k (by rwa [jP9]at q1) q2)
    (fun i' k row c r1 r2=>?_) (fun i' k b' hb=>by rw[jP9];exact h11 i' k b' hb) h12 h13 hF
   ·rw[jP9]at this;exact this
   ·rw[vVw]at r1;split at r1
    ·rename_i he;subst he;simp only[h4,if_true,jBf]at r1;subst r1;have hfl:=jDl.1 hall c (jIc r2);rcases h10 k c r2 with⟨_,hd⟩|⟨q1,q2,q3⟩
     ·exact hd
     ·cases c with
      |v x=>have:=q2.kAn;rw[this];exact .v x _ q3
      |sl _ _=>cases q1
      | _=>cases hfl
    ·rename_i hne;exact h9 i' k row c (fun e=>hne e.symm) r1 r2
  ·rw[hv]at hb;have hb':some b=some b':=hb
   injection hb' with hb'
   subst hb';exact⟨cur,hh⟩
theorem Sim.bor (h:Sim N X0 M w0 st β a w) {id k j e s i s':Nat}{rows rows':List (List SV)}{row0:List SV}(hl:lk id st.hp=some (.dq e s rows i row0)) (hk:row0[k]? = some (.sl s' rows')) (hj:j<1000000) (hne:j≠id)
  {ob:Nat→Ob}(hob:∀(X:Nat→Prop) (β:Nat→BV) (v:Value) (F:Nat→Prop),Dp w (.sl s' rows') v F→∃e',ObR w X β ⟨v,F⟩ (ob e')) (hobe:∀e',(∀X β β' v,ObR w X β v (ob e')→ObR w X β' v (ob e'))) :
  ∃e' β',Sim N X0 M w0 { fr:=(st.kill j).fr,hp:=(j,ob e')::(id,.dq e s rows i ((row0.map (SV.upq (SV.kill j))).set k (.own j)))::er id (st.kill j).hp } β' a w:=by
 have hO:=h.objs id _ hl;generalize hbv:β id=bv at hO
 cases hO with
 |dq b cap cur us fs hv hh h1 h2 h3 h4 h5 h6 h7 h8 h9 h10 h11 h12 h13 hF =>
  have hks:k<s:=by rw[←h5];exact(jSg.1 hk).1
  have hD:Dp w (.sl s' rows') (us i k) (fs i k):=by
   rcases h10 k _ hk with⟨_,hd⟩|⟨q,_⟩
   ·exact hd
   ·cases q
  obtain⟨e',he'⟩:=hob (XX X0 β st.hp) β _ _ hD
  let fs':Nat→Nat→Nat→Prop:=fun i' k' b'=>fs i' k' b'∧¬(i'=i∧k'=k)
  let vid:BV:=⟨bv.val,fun b'=>b'=b∨∃i' k',fs' i' k' b'⟩
  let β':Nat→BV:=fun q=>if q=j then⟨us i k,fs i k⟩else if q=id then vid else β q
  have hβj:β' j=⟨us i k,fs i k⟩:=if_pos rfl;have kUr:β' id=vid:=by show(if id=j then _ else if id=id then vid else _)=_;rw[if_neg (fun e=>hne e.symm),if_pos rfl]
  have hβo:∀q,q≠j→q≠id→β' q=β q:=fun q h1 h2=>by show(if q=j then _ else if q=id then vid else _)=_;rw[if_neg h1,if_neg h2]
  have hβv:∀q,q≠j→(β' q).val=(β q).val:=fun q hq=>by
   by_cases hid:q=id
   ·rw[hid,kUr,hbv]
   ·rw[hβo q hq hid]
  have hlk:∀(t:Nat) (o:Ob),lk t ((j,ob e')::(id,.dq e s rows i ((row0.map (SV.upq (SV.kill j))).set k (.own j)))::er id (st.kill j).hp)=some o →
    (t=j∧o=ob e')∨(t=id∧o=.dq e s rows i ((row0.map (SV.upq (SV.kill j))).set k (.own j)))∨(t≠j∧t≠id∧∃o0,lk t st.hp=some o0∧o=o0.kill j):=fun t o ht=>by
   simp only[lk]at ht;by_cases e1:t=j
   ·rw[if_pos e1]at ht;cases ht;exact .inl ⟨e1,rfl⟩
   ·rw[if_neg e1]at ht;by_cases e2:t=id
    ·rw[if_pos e2]at ht;cases ht;exact .inr (.inl ⟨e2,rfl⟩)
    ·rw[if_neg e2,kAt e2,kGu e1]at ht
     cases hq:lk t st.hp with
     |none=>rw[hq]at ht;cases ht
     |some o0=>rw[hq]at ht;exact .inr (.inr ⟨e1,e2,o0,rfl,by simpa using ht.symm⟩)
  have hftid:∀b',vid.ft b'→bv.ft b':=fun b' hb=>(hF b').2 (hb.imp _root_.id fun⟨i',k',q,_⟩=>⟨i',k',q⟩)
  have hftj:∀b',fs i k b'→bv.ft b':=fun b' hb=>(hF b').2 (.inr ⟨i,k,hb⟩)
  have hft:∀t o b',lk t ((j,ob e')::(id,.dq e s rows i ((row0.map (SV.upq (SV.kill j))).set k (.own j)))::er id (st.kill j).hp)=some o→(β' t).ft b'→∃t0 o0,lk t0 st.hp=some o0∧(β t0).ft b'∧(t=j∨t=id→t0=id)∧(t≠j→t0=t):=fun t o b' ht hb=>by
   rcases hlk t o ht with⟨rfl,_⟩|⟨rfl,_⟩|⟨n1,n2,o0,q,_⟩
   ·rw[hβj]at hb;exact⟨id,_,hl,by rw[hbv];exact hftj b' hb,fun _=>rfl,fun q=>absurd rfl q⟩
   ·rw[kUr]at hb;exact⟨t,_,hl,by rw[hbv];exact hftid b' hb,fun _=>rfl,fun _=>rfl⟩
   ·rw[hβo t n1 n2]at hb;exact⟨t,o0,q,hb,fun q=>by rcases q with q|q<;>contradiction,fun _=>rfl⟩
  have hft1:∀t o b',lk t ((j,ob e')::(id,.dq e s rows i ((row0.map (SV.upq (SV.kill j))).set k (.own j)))::er id (st.kill j).hp)=some o→(β' t).ft b'→∃t0 o0,lk t0 st.hp=some o0∧(β t0).ft b':=fun t o b' ht hb=>by
   obtain⟨t0,o0,q1,q2,_⟩:=hft t o b' ht hb;exact⟨t0,o0,q1,q2⟩
  have hS:Same (XX X0 β st.hp) w w:=⟨jDu _,fun _ _ _=>rfl⟩
  refine⟨e',β',h.ghost (fun q=>?_) (fun q hq=>hβv q zo) hft1 (fun t x' hx=>?_) (fun t o ht=>?_) (fun p q op oq b' hp hq hbp hbq=>?_)⟩
  ·by_cases hq:q=j
   ·rw[hq,hβj];exact h8 i k h4 hks
   ·rw[hβv q hq];exact h.beta q
  ·simp only[St.kill,kCp]at hx
   cases hy:lk t st.fr with
   |none=>rw[hy]at hx;cases hx
   |some y =>
    rw[hy]at hx;have hx':y.kill j=x':=by simpa using hx
    subst hx';exact⟨y,rfl,fun v hR=>hR.kill hβv⟩
  ·rcases hlk t o ht with⟨rfl,rfl⟩|⟨rfl,rfl⟩|⟨n1,n2,o0,q,rfl⟩
   ·rw[hβj];exact hobe e' _ _ _ _ (he'.mono hS (fun b' _ hb=>kMg hft1 hb) (fun _ _=>rfl))
   ·rw[kUr];refine .dq b cap cur us fs' hv hh h1 h2 h3 h4 (by simp[h5]) h6 h7 h8 (fun i' k' row c q0 r1 r2=>(h9 i' k' row c q0 r1 r2).ext fun b'=>⟨fun g=>g.1,fun g=>⟨g,fun g2=>q0 g2.1⟩⟩) (fun k' c hc=>?_) (fun i' k' b' g=>h11 i' k' b' g.1) (fun i' k' g=>h12 i' k' g.1) (fun i1 k1 i2 k2 b' g1 g2=>h13 i1 k1 i2 k2 b' g1.1 g2.1) (fun b'=>Iff.rfl)
    rw[vVw]at hc;split at hc
    ·rename_i hkk;subst hkk;simp only[jH5,h5,hks,if_true,jBf]at hc;subst hc;have hR:=R.own (w:=w) (X:=XX X0 β' ((j,ob e')::(t,.dq e s rows i ((row0.map (SV.upq (SV.kill j))).set k (.own j)))::er t (st.kill j).hp)) (β:=β') j;rw[hβj]at hR;exact .inr ⟨rfl,hR,fun b' g=>g.2 ⟨rfl,rfl⟩⟩
    ·rename_i hkk;obtain⟨c0,hc0,rfl⟩:=kGc hc;have hex:∀b',fs' i k' b'↔fs i k' b':=fun b'=>⟨fun g=>g.1,fun g=>⟨g,fun g2=>hkk g2.2.symm⟩⟩
     have h0:DqC w (XX X0 β' ((j,ob e')::(t,.dq e s rows i ((row0.map (SV.upq (SV.kill j))).set k (.own j)))::er t (st.kill j).hp)) β' (c0.upq (SV.kill j)) (us i k') (fs i k') :=
      (h10 k' c0 hc0).upq fun hR=>R.kill hβv (hR.mono (X':=XX X0 β' ((j,ob e')::(t,.dq e s rows i ((row0.map (SV.upq (SV.kill j))).set k (.own j)))::er t (st.kill j).hp)) hS (fun b' _ hb=>kMg hft1 hb))
     rcases h0 with⟨g1,g2⟩|⟨g1,g2,g3⟩
     ·exact .inl ⟨g1,g2.ext hex⟩
     ·exact .inr ⟨g1,g2,fun b' g=>g3 b' ((hex b').1 g)⟩
   ·rw[hβo t n1 n2];exact((h.objs t o0 q).mono hS (fun b' _ hb=>kMg hft1 hb) (fun _ _=>rfl)).kill hβv
  ·obtain⟨t1,o1,q1,q2,q3,q4⟩:=hft p op b' hp hbp;obtain⟨t2,o2,r1,r2,r3,r4⟩:=hft q oq b' hq hbq;have:=h.inj t1 t2 o1 o2 b' q1 r1 q2 r2;subst this;by_cases p1:p=j<;>by_cases p2:q=j
   ·rw[p1,p2]
   ·exfalso;have:=r4 p2;have:=q3 (.inl p1);have hqi:q=id:=zo;rw[p1,hβj]at hbp;rw[hqi,kUr]at hbq;have hbp:fs i k b':=hbp;rcases hbq with g|⟨i',k',g,g2⟩
    ·exact h12 i k (g▸hbp)
    ·exact g2 (h13 i' k' i k b' g hbp)
   ·exfalso;have:=q4 p1;have:=r3 (.inl p2);have hpi:p=id:=zo;rw[p2,hβj]at hbq;rw[hpi,kUr]at hbp;have hbq:fs i k b':=hbq;rcases hbp with g|⟨i',k',g,g2⟩
    ·exact h12 i k (g▸hbq)
    ·exact g2 (h13 i' k' i k b' g hbq)
   ·have:=q4 p1;have:=r4 p2;omega
theorem Sim.absb (h:Sim N X0 M w0 st β a w) {id k j e s i s':Nat}{rows rows':List (List SV)}{row0:List SV}{oj:Ob}(hl:lk id st.hp=some (.dq e s rows i row0)) (hk:row0[k]? = some (.own j)) (hne:j≠id)
  (hoj:lk j st.hp=some oj) (hob:ObR w (XX X0 β st.hp) β (β j) oj→Dp w (.sl s' rows') (β j).val (β j).ft) :
  ∃β',Sim N X0 M w0 { fr:=(st.kill j).fr,hp:=(id,.dq e s rows i ((row0.map (SV.upq (SV.kill j))).set k (.sl s' rows')))::er id (st.kill j).hp } β' a w:=by
 have hO:=h.objs id _ hl;have hD:=hob (h.objs j oj hoj);have hdisj:∀b',(β j).ft b'→¬(β id).ft b':=fun b' g1 g2=>hne (h.inj j id oj _ b' hoj hl g1 g2)
 generalize hbv:β id=bv at hO hdisj
 cases hO with
 |dq b cap cur us fs hv hh h1 h2 h3 h4 h5 h6 h7 h8 h9 h10 h11 h12 h13 hF =>
  have hks:k<s:=by rw[←h5];exact(jSg.1 hk).1
  have hR0:us i k=(β j).val∧∀b',¬fs i k b':=by
   rcases h10 k _ hk with⟨q,_⟩|⟨_,hR,g⟩
   ·cases q
   ·exact⟨hR.kB9,g⟩
  let fs':Nat→Nat→Nat→Prop:=fun i' k' b'=>if i'=i∧k'=k then(β j).ft b' else fs i' k' b'
  have hfs1:∀b',fs' i k b'↔(β j).ft b':=fun b'=>by show(if i=i∧k=k then _ else _)↔_;rw[if_pos ⟨rfl,rfl⟩]
  have kLq:∀i' k' b',¬(i'=i∧k'=k)→(fs' i' k' b'↔fs i' k' b'):=fun i' k' b' hn=>by show(if i'=i∧k'=k then _ else _)↔_;rw[if_neg hn]
  let vid:BV:=⟨bv.val,fun b'=>b'=b∨∃i' k',fs' i' k' b'⟩
  let β':Nat→BV:=fun q=>if q=id then vid else β q
  have kUr:β' id=vid:=if_pos rfl;have hβo:∀q,q≠id→β' q=β q:=fun q h2=>if_neg h2
  have hβv:∀q,(β' q).val=(β q).val:=fun q=>by
   by_cases hid:q=id
   ·rw[hid,kUr,hbv]
   ·rw[hβo q hid]
  have hlk:∀(t:Nat) (o:Ob),lk t ((id,.dq e s rows i ((row0.map (SV.upq (SV.kill j))).set k (.sl s' rows')))::er id (st.kill j).hp)=some o →
    (t=id∧o=.dq e s rows i ((row0.map (SV.upq (SV.kill j))).set k (.sl s' rows')))∨(t≠j∧t≠id∧∃o0,lk t st.hp=some o0∧o=o0.kill j):=fun t o ht=>by
   simp only[lk]at ht;by_cases e2:t=id
   ·rw[if_pos e2]at ht;cases ht;exact .inl ⟨e2,rfl⟩
   ·rw[if_neg e2,kAt e2]at ht;by_cases e1:t=j
    ·subst e1;rw[kJ8]at ht;cases ht
    ·rw[kGu e1]at ht
     cases hq:lk t st.hp with
     |none=>rw[hq]at ht;cases ht
     |some o0=>rw[hq]at ht;exact .inr ⟨e1,e2,o0,rfl,by simpa using ht.symm⟩
  have hvid:∀b',vid.ft b'→bv.ft b'∨(β j).ft b':=fun b' hb=>by
   rcases hb with g|⟨i',k',g⟩
   ·exact .inl ((hF b').2 (.inl g))
   ·by_cases hik:i'=i∧k'=k
    ·obtain⟨rfl,rfl⟩:=hik;exact .inr ((hfs1 b').1 g)
    ·exact .inl ((hF b').2 (.inr ⟨i',k',(kLq i' k' b' hik).1 g⟩))
  have hft:∀t o b',lk t ((id,.dq e s rows i ((row0.map (SV.upq (SV.kill j))).set k (.sl s' rows')))::er id (st.kill j).hp)=some o→(β' t).ft b'→∃t0 o0,lk t0 st.hp=some o0∧(β t0).ft b'∧(t≠id→t0=t)∧(t=id→t0=id∨t0=j):=fun t o b' ht hb=>by
   rcases hlk t o ht with⟨rfl,_⟩|⟨n1,n2,o0,q,_⟩
   ·rw[kUr]at hb;rcases hvid b' hb with g|g
    ·exact⟨t,_,hl,by rw[hbv];exact g,fun q=>absurd rfl q,fun _=>.inl rfl⟩
    ·exact⟨j,_,hoj,g,fun q=>absurd rfl q,fun _=>.inr rfl⟩
   ·rw[hβo t n2]at hb;exact⟨t,o0,q,hb,fun _=>rfl,fun q=>absurd q n2⟩
  have hft1:∀t o b',lk t ((id,.dq e s rows i ((row0.map (SV.upq (SV.kill j))).set k (.sl s' rows')))::er id (st.kill j).hp)=some o→(β' t).ft b'→∃t0 o0,lk t0 st.hp=some o0∧(β t0).ft b':=fun t o b' ht hb=>by
   obtain⟨t0,o0,q1,q2,_⟩:=hft t o b' ht hb;exact⟨t0,o0,q1,q2⟩
  have hS:Same (XX X0 β st.hp) w w:=⟨jDu _,fun _ _ _=>rfl⟩
  refine⟨β',h.ghost (fun q=>by rw[hβv];exact h.beta q) (fun q _=>hβv q) hft1 (fun t x' hx=>?_) (fun t o ht=>?_) (fun p q op oq b' hp hq hbp hbq=>?_)⟩
  ·simp only[St.kill,kCp]at hx
   cases hy:lk t st.fr with
   |none=>rw[hy]at hx;cases hx
   |some y =>
    rw[hy]at hx;have hx':y.kill j=x':=by simpa using hx
    subst hx';exact⟨y,rfl,fun v hR=>hR.kill fun q _=>hβv q⟩
  ·rcases hlk t o ht with⟨rfl,rfl⟩|⟨n1,n2,o0,q,rfl⟩
   ·rw[kUr];refine .dq b cap cur us fs' hv hh h1 h2 h3 h4 (by simp[h5]) h6 h7 h8 (fun i' k' row c q0 r1 r2=>(h9 i' k' row c q0 r1 r2).ext fun b'=>kLq i' k' b' (fun g=>q0 g.1)) (fun k' c hc=>?_) (fun i' k' b' g=>?_) (fun i' k' g=>?_) (fun i1 k1 i2 k2 b' g1 g2=>?_) (fun b'=>Iff.rfl)
    ·rw[vVw]at hc;split at hc
     ·rename_i hkk;subst hkk;simp only[jH5,h5,hks,if_true,jBf]at hc;subst hc;refine .inl ⟨rfl,?_⟩;rw[hR0.1];exact hD.ext hfs1
     ·rename_i hkk;obtain⟨c0,hc0,rfl⟩:=kGc hc;have hex:∀b',fs' i k' b'↔fs i k' b':=fun b'=>kLq i k' b' (fun g2=>hkk g2.2.symm)
      have h0:=(h10 k' c0 hc0).upq (f:=SV.kill j) (X':=XX X0 β' ((t,.dq e s rows i ((row0.map (SV.upq (SV.kill j))).set k (.sl s' rows')))::er t (st.kill j).hp)) (β':=β') fun hR=>R.kill (fun q _=>hβv q) (hR.mono (X':=XX X0 β' ((t,.dq e s rows i ((row0.map (SV.upq (SV.kill j))).set k (.sl s' rows')))::er t (st.kill j).hp)) hS (fun b' _ hb=>kMg hft1 hb))
      rcases h0 with⟨g1,g2⟩|⟨g1,g2,g3⟩
      ·exact .inl ⟨g1,g2.ext hex⟩
      ·exact .inr ⟨g1,g2,fun b' g=>g3 b' ((hex b').1 g)⟩
    ·by_cases hik:i'=i∧k'=k
     ·obtain⟨rfl,rfl⟩:=hik;exact⟨h4,hks⟩
     ·exact h11 i' k' b' ((kLq i' k' b' hik).1 g)
    ·by_cases hik:i'=i∧k'=k
     ·obtain⟨rfl,rfl⟩:=hik;exact hdisj b ((hfs1 b).1 g) ((hF b).2 (.inl rfl))
     ·exact h12 i' k' ((kLq i' k' b hik).1 g)
    ·by_cases hik1:i1=i∧k1=k<;>by_cases hik2:i2=i∧k2=k
     ·exact⟨hik1.1.trans hik2.1.symm,hik1.2.trans hik2.2.symm⟩
     ·obtain⟨rfl,rfl⟩:=hik1;exact absurd ((hF b').2 (.inr ⟨i2,k2,(kLq i2 k2 b' hik2).1 g2⟩)) (hdisj b' ((hfs1 b').1 g1))
     ·obtain⟨rfl,rfl⟩:=hik2;exact absurd ((hF b').2 (.inr ⟨i1,k1,(kLq i1 k1 b' hik1).1 g1⟩)) (hdisj b' ((hfs1 b').1 g2))
     ·exact h13 i1 k1 i2 k2 b' ((kLq i1 k1 b' hik1).1 g1) ((kLq i2 k2 b' hik2).1 g2)
   ·rw[hβo t n2];exact((h.objs t o0 q).mono hS (fun b' _ hb=>kMg hft1 hb) (fun _ _=>rfl)).kill fun q _=>hβv q
  ·obtain⟨t1,o1,q1,q2,q3,q4⟩:=hft p op b' hp hbp;obtain⟨t2,o2,r1,r2,r3,r4⟩:=hft q oq b' hq hbq;have:=h.inj t1 t2 o1 o2 b' q1 r1 q2 r2;subst this
   have nj:∀{t o},lk t ((id,.dq e s rows i ((row0.map (SV.upq (SV.kill j))).set k (.sl s' rows')))::er id (st.kill j).hp)=some o→t≠j:=fun{t o} ht=>by
    rcases hlk t o ht with⟨rfl,_⟩|⟨n1,_⟩
    ·exact fun e=>hne e.symm
    ·exact n1
   have n1:=nj hp;have n2:=nj hq;by_cases p1:p=id<;>by_cases p2:q=id
   ·rw[p1,p2]
   ·have:=r3 p2;rcases q4 p1 with g|g<;>omega
   ·have:=q3 p1;rcases r4 p2 with g|g<;>omega
   ·have:=q3 p1;have:=r3 p2;omega
theorem Sim.gh (h:Sim N X0 M w0 st β a w) {K:St→Prop}{g:Gh}(hK:st.gh K g):∃st' β',K st'∧Sim N X0 M w0 st' β' a w:=by
 cases g with
 |dp id =>
  simp only[St.gh]at hK;split at hK
  ·rename_i e s rows hl;exact⟨_,β,hK.2,h.reob hl fun hO=>hO.sl_dp hK.1⟩
  ·exact⟨st,β,hK,h⟩
  ·exact hK.elim
 |opn id i =>
  simp only[St.gh]at hK;split at hK
  ·rename_i e s rows hl;exact⟨_,β,hK.2,h.reob hl fun hO=>hO.dp_dq hK.1⟩
  ·exact hK.elim
 |bor id k j =>
  simp only[St.gh]at hK;split at hK
  ·rename_i e s rows i row0 hl;split at hK
   ·rename_i s' rows' hk;obtain⟨e',β',h'⟩:=h.bor hl hk hK.1 hK.2.1 (ob:=fun e'=>.dp e' s' rows') (fun X β v F hD=>hD.dp_ob) (fun e' X β β' v hO=>by cases hO with|dp hd he=>exact .dp hd he)
    exact⟨_,β',hK.2.2 e',h'⟩
   ·exact hK.elim
  ·exact hK.elim
 |kUq id k j =>
  simp only[St.gh]at hK;split at hK
  ·rename_i e s rows i row0 hl;split at hK
   ·rename_i s' rows' hk;obtain⟨e',β',h'⟩:=h.bor hl hk hK.1 hK.2.1 (ob:=fun e'=>.sl e' s' rows') (fun X β v F hD=>hD.dp_sl hK.2.2.1) (fun e' X β β' v hO=>hO.k3x)
    exact⟨_,β',hK.2.2.2 e',h'⟩
   ·exact hK.elim
  ·exact hK.elim
 |abs id k =>
  simp only[St.gh]at hK;split at hK
  ·rename_i e s rows i row0 hl;split at hK
   ·rename_i j hk;obtain⟨hne,hK⟩:=hK;split at hK
    ·rename_i e' s' rows' hj
     obtain⟨β',h'⟩:=h.absb hl hk hne hj (s':=s') (rows':=rows') (fun hO=>by
      have:=hO.sl_dp hK.1
      cases this with
      |dp hd he=>exact hd)
     exact⟨_,β',hK.2,h'⟩
    ·rename_i e' s' rows' hj
     obtain⟨β',h'⟩:=h.absb hl hk hne hj (s':=s') (rows':=rows') (fun hO=>by
      cases hO with
      |dp hd he=>exact hd)
     exact⟨_,β',hK,h'⟩
    ·exact hK.elim
   ·exact hK.elim
  ·exact hK.elim
 |fld id =>
  simp only[St.gh]at hK;split at hK
  ·rename_i e s rows i row0 hl;exact⟨_,β,hK.2,h.reob hl fun hO=>hO.dq_dp hK.1⟩
  ·exact hK.elim
theorem Sim.gho {a:Act}{w:World}{K:St→Prop}:∀{l:List Gh}{st:St}{β:Nat→BV},Sim N X0 M w0 st β a w→st.gho K l→∃st' β',K st'∧Sim N X0 M w0 st' β' a w
 | [],st,β,h,hK=>⟨st,β,hK,h⟩
 |g::l,st,β,h,hK=>by
  obtain⟨st1,β1,h1,h2⟩:=h.gh (g:=g) hK;exact Sim.gho h2 h1
end
section
variable {c:Cx}{N:Nat}{X0:Nat→Prop}{M:Nat→BV→Prop}{w0:World}{st:St}{K:Exit→St→Prop}
theorem zG (l:List Gh) {code:Code}(h:st.gho (fun st'=>WP c N X0 M w0 code st' K) l):WP c N X0 M w0 code st K:=fun hA β a w hs=>by
 obtain⟨st',β',h1,h2⟩:=hs.gho h;exact h1 hA β' a w h2
@[go_sem] def ghoK (l:List Gh) (K:Exit→St→Prop):Exit→St→Prop
 | .normal,st=>st.gho (K .normal) l
 |e,st=>K e st
theorem zO (l:List Gh) {code:Code}(h:WP c N X0 M w0 code st (ghoK l K)):WP c N X0 M w0 code st K:=fun hA β a w hs =>
 Code.wp_mono (fun e a' w' hq=>by
  cases e with
  |normal =>
   obtain⟨st',β',h1,h2⟩:=hq;obtain⟨st2,β2,h3,h4⟩:=h2.gho h1
   exact⟨st2,β2,h3,h4⟩
  | _=>exact hq) (h hA β a w hs)
end
end Go.Vc
namespace Go.Proofs.YtjdklcjoeanimaaGreat
attribute [local irreducible] Go.Vc.WP
section
open Go.Vc
section
open Go.RowKit Go.WideShapes Go.ChangeShapes Go.Deep
end
end
section
open Go.Vc Tryz
def wrp (n:Int):Int:=if n%4294967296>2147483647 then n%4294967296-4294967296 else n%4294967296
theorem kPt (n:Int):-2147483648≤wrp n∧wrp n≤2147483647:=by unfold wrp;split<;>omega
theorem and32 (a:Int):kEs .i64 a 4294967295=a%4294967296:=by
 unfold kEs
 have h1:(BitVec.ofInt IntKind.i64.bits a &&& BitVec.ofInt IntKind.i64.bits 4294967295).toNat=(a%18446744073709551616).toNat%4294967296:=by
  rw[vZk,vP9];have h2:(BitVec.ofInt IntKind.i64.bits 4294967295).toNat=2 ^ 32-1:=by decide
  rw[h2,yFn];rfl
 rw[h1,show IntKind.i64.wrap (((a%18446744073709551616).toNat%4294967296:Nat):Int)=(((a%18446744073709551616).toNat%4294967296:Nat):Int)from IntWalk.i64_in _ ⟨zo,zo⟩]
 omega
theorem wrp_u (n:Int):IntKind.i32.wrap (IntKind.u32.wrap n)=wrp n:=by
 rw[IntKind.wrap_u32,IntKind.wrap_i32];unfold wrp;split<;>omega
@[go_sem] def kWrp:Ctr:=pur (fun args=>aI args 0) (fun n=>[vi n]) (fun _=>True) (fun _ n=>vi (wrp n)) (fun _ _=>[])
theorem cWrpS:Cq 293 kWrp:=by
 refine zp fun d x hx=>?_
 rename Int=>n
 refine zg cx0 func293 rfl rfl ntmps293 ?_;intros;have ha:=and32 n;by_cases h:n%4294967296>2147483647
 ·have e:wrp n=n%4294967296-4294967296:=by unfold wrp;rw[if_pos h]
  rw[e];exact zx (z2 ha h)
 ·have e:wrp n=n%4294967296:=by unfold wrp;rw[if_neg h]
  rw[e];exact zx (z2 ha h)
theorem cWrpI:Cq 292 kWrp:=by
 refine zp fun d x hx=>?_
 rename Int=>n
 refine zg cx0 func292 rfl rfl ntmps292 ?_;intros;have ha:=wrp_u n;have hd:=kPt n;exact zx ha
def kU6 (k a b:Int):Int:=if k=2 then wrp (wrp a+wrp b)else if k=3 then wrp (wrp a-wrp b)else if k=4 then wrp (wrp a*wrp b)else if(k=5∧wrp a<wrp b)∨(k=6∧wrp a=wrp b)then 1 else 0
def kEy:Ctr:=pur (fun args=>(aI args 0,aI args 1,aI args 2)) (fun x=>[vi x.1,vi x.2.1,vi x.2.2]) (fun _=>True) (fun _ x=>vi (kU6 x.1 x.2.1 x.2.2)) (fun _ _=>[])
theorem qIz {a b:Int}(h1:-2147483648≤a∧a≤2147483647) (h2:-2147483648≤b∧b≤2147483647):-9223372036854775808≤a*b∧a*b≤9223372036854775807:=by
 have h3:(a*b).natAbs≤2147483648*2147483648:=by
  rw[Int.natAbs_mul];exact Nat.mul_le_mul zo zo
 omega
section
def cxApS:=kc cWrpS kn
theorem kB4 {p:Prop}(h:p:=by first|omega|rfl|(simp[*];done)|fail):p:=h
theorem cApplS:Cq 291 kEy:=by
 refine zp fun d x hx=>?_
 obtain⟨k,a,b⟩:=x;simp only;unfold kU6;have ba:=kPt a;have bb:=kPt b;have bm:=qIz ba bb;refine zg cxApS func291 rfl rfl ntmps291 ?_;intros;generalize hA:wrp a=A at ba bm;generalize hB:wrp b=B at bb bm;by_cases h2:k=2
 ·subst h2
  (repeat' (first|apply zS|apply zB|(apply zW;simp only[go_sem,hA,hB])|apply jAi|exact kB4|intro _))
 by_cases h3:k=3
 ·subst h3
  (repeat' (first|apply zS|apply zB|(apply zW;simp only[go_sem,hA,hB])|apply jAi|exact kB4|intro _))
 by_cases h4:k=4
 ·subst h4
  (repeat' (first|apply zS|apply zB|(apply zW;simp only[go_sem,hA,hB])|apply jAi|exact kB4|intro _))
 by_cases h5:k=5
 ·subst h5;by_cases hl:A<B
  ·(repeat' (first|apply zS|apply zB|(apply zW;simp only[go_sem,hA,hB,hl])|apply jAi|exact kB4|intro _))
  ·(repeat' (first|apply zS|apply zB|(apply zW;simp only[go_sem,hA,hB,hl])|apply jAi|exact kB4|intro _))
 by_cases h6:k=6
 ·subst h6;by_cases hl:A=B
  ·(repeat' (first|apply zS|apply zB|(apply zW;simp only[go_sem,hA,hB,hl])|apply jAi|exact kB4|intro _))
  ·(repeat' (first|apply zS|apply zB|(apply zW;simp only[go_sem,hA,hB,hl])|apply jAi|exact kB4|intro _))
 (repeat' (first|apply zS|apply zB|(apply zW;simp only[go_sem,hA,hB,h2,h3,h4,h5,h6])|apply jAi|exact kB4|intro _))
def cxApI:=kc cWrpI kn
theorem cApplI:Cq 281 kEy:=by
 refine zp fun d x hx=>?_
 obtain⟨k,a,b⟩:=x;simp only;unfold kU6;have ba:=kPt a;have bb:=kPt b;have bm:=qIz ba bb;refine zg cxApI func281 rfl rfl ntmps281 ?_;intros;generalize hA:wrp a=A at ba bm;generalize hB:wrp b=B at bb bm;by_cases h2:k=2
 ·subst h2
  (repeat' (first|apply zS|apply zB|(apply zW;simp only[go_sem,hA,hB])|apply jAi|exact kB4|intro _))
 by_cases h3:k=3
 ·subst h3
  (repeat' (first|apply zS|apply zB|(apply zW;simp only[go_sem,hA,hB])|apply jAi|exact kB4|intro _))
 by_cases h4:k=4
 ·subst h4
  (repeat' (first|apply zS|apply zB|(apply zW;simp only[go_sem,hA,hB])|apply jAi|exact kB4|intro _))
 by_cases h5:k=5
 ·subst h5;by_cases hl:A<B
  ·(repeat' (first|apply zS|apply zB|(apply zW;simp only[go_sem,hA,hB,hl])|apply jAi|exact kB4|intro _))
  ·(repeat' (first|apply zS|apply zB|(apply zW;simp only[go_sem,hA,hB,hl])|apply jAi|exact kB4|intro _))
 by_cases h6:k=6
 ·subst h6;by_cases hl:A=B
  ·(repeat' (first|apply zS|apply zB|(apply zW;simp only[go_sem,hA,hB,hl])|apply jAi|exact kB4|intro _))
  ·(repeat' (first|apply zS|apply zB|(apply zW;simp only[go_sem,hA,hB,hl])|apply jAi|exact kB4|intro _))
 (repeat' (first|apply zS|apply zB|(apply zW;simp only[go_sem,hA,hB,h2,h3,h4,h5,h6])|apply jAi|exact kB4|intro _))
end
end
section
open Go.Vc
section
variable {α:Type}(cnt:α→Nat) (mrk:Int→α→α)
def kAy (L:List α):Nat:=(L.map cnt).sum
def mkA:Int→List α→List α
 | _,[]=>[]
 |k,x::L=>mrk k x::mkA (k+(cnt x:Int)) L
def hfA (k:Int) (L:List α) (i:Nat):List α:=mkA cnt mrk k (L.take i)++L.drop i
variable {cnt mrk}
theorem kJg:∀(L:List α) (k:Int),(mkA cnt mrk k L).length=L.length
 | [],_=>rfl
 |x::L,k=>by simp[mkA,kJg L]
theorem qCl:∀(L M:List α) (k:Int),mkA cnt mrk k (L++M)=mkA cnt mrk k L++mkA cnt mrk (k+(kAy cnt L:Int)) M
 | [],M,k=>by simp[mkA,kAy]
 |x::L,M,k=>by
  rw[jRa,mkA,mkA,qCl L M,jRa];congr 2;simp only[kAy,jHi,yAi];congr 1;omega
theorem kPu (L:List α) (i:Nat) (h:i<L.length):kAy cnt (L.take (i+1))=kAy cnt (L.take i)+cnt L[i]:=by
 unfold kAy;rw[jQw h,jNq,yAk];simp
theorem kYt (L:List α) (m:Nat) (h:∀x∈L,cnt x≤m):kAy cnt L≤L.length*m:=by
 induction L with
 |nil=>simp[kAy]
 |cons x L ih =>
  have h1:=h x jYt;have h2:=ih fun y hy=>h y (jZr _ hy)
  simp only[kAy,jHi,yAi,jGk,wTr]at h2⊢;omega
theorem kEd (L:List α) (i:Nat):kAy cnt (L.take i)≤kAy cnt L:=by
 have:=vCk i L
 have h2:kAy cnt L=kAy cnt (L.take i)+kAy cnt (L.drop i):=by
  unfold kAy;rw[←yAk,←jNq,this]
 omega
theorem k0j (L:List α) (k:Int):hfA cnt mrk k L 0=L:=by simp[hfA,mkA]
theorem k4l (L:List α) (k:Int) (i:Nat) (h:i≤L.length):(hfA cnt mrk k L i).length=L.length:=by simp[hfA,kJg];omega
theorem qN7 (L:List α) (k:Int) (i:Nat) (h:i<L.length):(hfA cnt mrk k L i)[i]? = some L[i]:=by
 unfold hfA;rw[vDs (by simp[kJg];omega)]
 simp[kJg,vI3 (Nat.le_of_lt h)]
theorem k4m {en:α→List SV}(L:List α) (k:Int) (i:Nat) (h:i<L.length):Go.Vc.rowAt ((hfA cnt mrk k L i).map en) i=en L[i]:=by
 unfold Go.Vc.rowAt;rw[jQ2,qN7 L k i h];rfl
theorem k4n {en:α→List SV}(L:List α) (k:Int) (i:Nat) (h:i<L.length):((hfA cnt mrk k L i).map en).set i (en (mrk (k+(kAy cnt (L.take i):Int)) L[i]))=(hfA cnt mrk k L (i+1)).map en:=by
 rw[←vDv];congr 1;unfold hfA;have hl:(mkA cnt mrk k (L.take i)).length=i:=by rw[kJg,jOb];omega
 rw[vO3,if_neg zo,hl,vDu,wL4 h,jXr,jQw h,qCl,jPf];rfl
theorem k4o (L:List α) (k:Int):hfA cnt mrk k L L.length=mkA cnt mrk k L:=by simp[hfA]
theorem k4p:∀(L:List α) (k:Int) (i:Nat) (h:i<L.length),(mkA cnt mrk k L)[i]'(by rw[kJg];exact h)=mrk (k+(kAy cnt (L.take i):Int)) L[i]
 |x::L,k,0,_=>by simp[mkA,kAy]
 |x::L,k,i+1,h=>by
  simp only[mkA,List.getElem_cons_succ,wOm];rw[k4p L _ i (by simpa using h)]
  congr 1;simp only[kAy,jHi,yAi];omega
end
end
section
open Go.Vc
end
section
open Go.Vc
theorem kMv {α:Type}{en:α→List SV}(h:∀x,∀c∈en x,∃v,c=SV.v v) (L:List α):kJv (L.map en)↔True:=iff_true_intro (by
 intro row hr c hc;obtain⟨n,_,rfl⟩:=jCr.1 hr;exact h n c hc)
theorem qO6 (L:List ByteArray):kJv (L.map encS)↔True:=kMv (fun x c hc=>by simp only[encS,jDr,jJw,or_false]at hc;exact⟨_,hc⟩) L
theorem kW4 {n:Nat}{z:List SV}(h:∀c∈z,∃v,c=SV.v v):kJv (List.replicate n z):=fun row hr c hc=>by
 rw[List.eq_of_mem_replicate hr]at hc;exact h c hc
attribute [local go_sem] qO6
end
structure Cpu where
 pc:Int
 sp:Int
 fp:Int
 st:List Int
 out:List Int
abbrev CpB:=Cpu×Bool
def kRk (s t:CpB):Prop:=s.2=t.2∧(s.2=false→s.1=t.1)
theorem kRk.refl (s:CpB):kRk s s:=⟨rfl,fun _=>rfl⟩
theorem kRk.bad {s t:CpB}(h1:s.2=true) (h2:t.2=true):kRk s t:=⟨h1.trans h2.symm,fun h=>by rw[h1]at h;cases h⟩
theorem kRk.cases {s t:CpB}(h:kRk s t):(s.2=true∧t.2=true)∨(s.2=false∧s=t):=by
 obtain⟨a,b⟩:=s;obtain⟨c,d⟩:=t;obtain⟨h1,h2⟩:=h;simp only at h1 h2;subst h1
 cases b with
 |true=>exact .inl ⟨rfl,rfl⟩
 |false=>exact .inr ⟨rfl,by rw[h2 rfl]⟩
abbrev w64 (n:Int):Int:=IntKind.i64.wrap n
def In64 (n:Int):Prop:=-9223372036854775808≤n∧n≤9223372036854775807
theorem k8x {n:Int}(h:In64 n):w64 n=n:=IntWalk.i64_in _ h
def kBi (s:CpB) (x:Int):CpB:=if s.1.sp<1∨1200<s.1.sp then(s.1,true)else(⟨s.1.pc,s.1.sp-1,s.1.fp,s.1.st.set (s.1.sp-1).toNat x,s.1.out⟩,s.2)
def kA5 (s:CpB) (a:Int):Int×CpB:=if 0≤a∧a≤1199 then(s.1.st.getD a.toNat 0,s)else(0,(s.1,true))
def kAd (s:CpB):Int×CpB:=if(kA5 s s.1.sp).2.2=true then kA5 s s.1.sp else((kA5 s s.1.sp).1,(⟨s.1.pc,s.1.sp+1,s.1.fp,s.1.st,s.1.out⟩,s.2))
def kLt (s:CpB) (a x:Int):CpB:=if 0≤a∧a≤1199 then(⟨s.1.pc,s.1.sp,s.1.fp,s.1.st.set a.toNat x,s.1.out⟩,s.2)else(s.1,true)
def kDt (s:CpB):Nat→CpB
 | 0=>s
 |n+1=>(kAd (kDt s n)).2
def kHk (s:CpB):Nat→CpB
 | 0=>s
 |n+1=>kBi (kHk s n) 0
def kIg (a n:Int):Int:=if -100000≤a∧a≤100000 then a+n else -1
def atI (s:CpB) (a:Int):CpB:=if 0≤a∧a≤1199 then s else(s.1,true)
def kBy (s:CpB) (x:Int):CpB:=if(atI s (w64 (s.1.sp-1))).2=true then(s.1,true)else(⟨s.1.pc,s.1.sp-1,s.1.fp,s.1.st.set (s.1.sp-1).toNat x,s.1.out⟩,s.2)
def kAf (s:CpB):Int×CpB:=if(atI s s.1.sp).2=true then(0,(s.1,true))else(s.1.st.getD s.1.sp.toNat 0,(⟨s.1.pc,s.1.sp+1,s.1.fp,s.1.st,s.1.out⟩,s.2))
def kD6 (s:CpB):Nat→CpB
 | 0=>s
 |n+1=>(kAf (kD6 s n)).2
def kHl (s:CpB):Nat→CpB
 | 0=>s
 |n+1=>kBy (kHl s n) 0
def kKm (s:CpB) (a:Int):CpB:=if(atI s a).2=true then(s.1,true)else kBy s (s.1.st.getD a.toNat 0)
def kJ1 (s:CpB) (a:Int):CpB:=if(atI (kAf s).2 a).2=true then((kAf s).2.1,true)else(⟨(kAf s).2.1.pc,(kAf s).2.1.sp,(kAf s).2.1.fp,(kAf s).2.1.st.set a.toNat (kAf s).1,(kAf s).2.1.out⟩,(kAf s).2.2)
theorem kDu {s:CpB}{a:Int}:(atI s a).2=true↔s.2=true∨¬(0≤a∧a≤1199):=by
 unfold atI;split
 ·rename_i h;simp[h]
 ·rename_i h;simp[h]
theorem kPs {s:CpB}(x:Int) (h:s.2=true):(kBi s x).2=true:=by unfold kBi;split<;>simp[h]
theorem kSt {s:CpB}(x:Int) (h:s.2=true):(kBy s x).2=true:=by unfold kBy;rw[if_pos (kDu.2 (.inl h))]
theorem kO4 {s:CpB}(h:s.2=true):(kAd s).2.2=true:=by
 have:(kA5 s s.1.sp).2.2=true:=by unfold kA5;split<;>simp[h]
 unfold kAd;rw[if_pos this];exact this
theorem kRl {s:CpB}(h:s.2=true):(kAf s).2.2=true:=by unfold kAf;rw[if_pos (kDu.2 (.inl h))]
theorem k4j {n:Int}(h:In64 n):(0≤w64 (n-1)∧w64 (n-1)≤1199)↔(1≤n∧n≤1200):=by
 by_cases h0:n=-9223372036854775808
 ·subst h0;decide
 ·have:w64 (n-1)=n-1:=k8x (by unfold In64 at h⊢;omega)
  rw[this];omega
theorem qLw {s t:CpB}(h:kRk s t) (hs:s.2=false→In64 s.1.sp) (x:Int):kRk (kBi s x) (kBy t x):=by
 rcases h.cases with⟨a,b⟩|⟨a,rfl⟩
 ·exact .bad (kPs x a) (kSt x b)
 ·have hr:=k4j (hs a);by_cases hc:1≤s.1.sp∧s.1.sp≤1200
  ·unfold kBi kBy;rw[if_neg (by omega),if_neg (by rw[kDu];simp[a,hr,hc])]
   exact .refl _
  ·refine .bad ?_ ?_
   ·unfold kBi;rw[if_pos (by omega)]
   ·unfold kBy;rw[if_pos (kDu.2 (.inr (by rw[hr];exact hc)))]
theorem qN4 {s t:CpB}(h:kRk s t):kRk (kAd s).2 (kAf t).2∧((kAd s).2.2=false→(kAd s).1=(kAf t).1):=by
 rcases h.cases with⟨a,b⟩|⟨a,rfl⟩
 ·exact⟨.bad (kO4 a) (kRl b),fun q=>by rw[kO4 a]at q;cases q⟩
 ·by_cases hc:0≤s.1.sp∧s.1.sp≤1199
  ·have e1:kA5 s s.1.sp=(s.1.st.getD s.1.sp.toNat 0,s):=by unfold kA5;rw[if_pos hc]
   have e2:kAd s=(s.1.st.getD s.1.sp.toNat 0,(⟨s.1.pc,s.1.sp+1,s.1.fp,s.1.st,s.1.out⟩,s.2)):=by unfold kAd;rw[e1,if_neg (by rw[a];simp)]
   have e3:kAf s=(s.1.st.getD s.1.sp.toNat 0,(⟨s.1.pc,s.1.sp+1,s.1.fp,s.1.st,s.1.out⟩,s.2)):=by unfold kAf;rw[if_neg (by rw[kDu];simp[a,hc])]
   rw[e2,e3];exact⟨.refl _,fun _=>rfl⟩
  ·have e1:(kAd s).2.2=true:=by
    have:kA5 s s.1.sp=(0,(s.1,true)):=by unfold kA5;rw[if_neg hc]
    unfold kAd;rw[this,if_pos rfl]
   have e3:(kAf s).2.2=true:=by unfold kAf;rw[if_pos (kDu.2 (.inr hc))]
   exact⟨.bad e1 e3,fun q=>by rw[e1]at q;cases q⟩
structure Rng (c:Cpu):Prop where
 pc:In64 c.pc
 sp:In64 c.sp
 fp:In64 c.fp
 st:∀x∈c.st,In64 x
def RR (s t:CpB):Prop:=kRk s t∧(s.2=false→Rng s.1)
theorem In64.zero:In64 0:=by unfold In64;omega
theorem k4k {L:List Int}(h:∀x∈L,In64 x) (k:Nat):In64 (L.getD k 0):=by
 rw[List.getD_eq_getElem?_getD]
 cases hk:L[k]? with
 |none=>exact In64.zero
 |some x=>exact h x (List.mem_of_getElem? hk)
theorem qIf {L:List Int}(h:∀x∈L,In64 x) {k:Nat}{v:Int}(hv:In64 v):∀x∈L.set k v,In64 x:=fun x hx=>by
 rcases List.mem_or_eq_of_mem_set hx with h1|h1
 ·exact h x h1
 ·rw[h1];exact hv
theorem RR.push {s t:CpB}(h:RR s t) {x:Int}(hx:In64 x):RR (kBi s x) (kBy t x):=by
 refine⟨qLw h.1 (fun q=>(h.2 q).sp) x,fun q=>?_⟩
 unfold kBi at q⊢;split
 ·rename_i hc;rw[if_pos hc]at q;cases q
 ·rename_i hc;rw[if_neg hc]at q;have r:=h.2 q;exact⟨r.pc,by show In64 (s.1.sp-1);unfold In64;omega,r.fp,qIf r.st hx⟩
theorem qLx (s:CpB) (hs:∀x∈s.1.st,In64 x):In64 (kAd s).1:=by
 have:In64 (kA5 s s.1.sp).1:=by
  unfold kA5;split
  ·exact k4k hs _
  ·exact In64.zero
 unfold kAd;split<;>exact this
theorem kQ3 {s:CpB}(q:(kAd s).2.2=false):s.2=false∧(0≤s.1.sp∧s.1.sp≤1199)∧kAd s=(s.1.st.getD s.1.sp.toNat 0,(⟨s.1.pc,s.1.sp+1,s.1.fp,s.1.st,s.1.out⟩,s.2)):=by
 have hb:s.2=false:=by
  cases hb:s.2 with
  |false=>rfl
  |true=>rw[kO4 hb]at q;cases q
 by_cases hc:0≤s.1.sp∧s.1.sp≤1199
 ·have e1:kA5 s s.1.sp=(s.1.st.getD s.1.sp.toNat 0,s):=by unfold kA5;rw[if_pos hc]
  exact⟨hb,hc,by unfold kAd;rw[e1,if_neg (by rw[hb];simp)]⟩
 ·exfalso;have e1:kA5 s s.1.sp=(0,(s.1,true)):=by unfold kA5;rw[if_neg hc]
  unfold kAd at q;rw[e1,if_pos rfl]at q;cases q
theorem RR.pop {s t:CpB}(h:RR s t):RR (kAd s).2 (kAf t).2∧((kAd s).2.2=false→(kAd s).1=(kAf t).1∧In64 (kAd s).1):=by
 obtain⟨a,b⟩:=qN4 h.1;refine⟨⟨a,fun q=>?_⟩,fun q=>⟨b q,?_⟩⟩
 ·obtain⟨q1,q2,q3⟩:=kQ3 q;have r:=h.2 q1;rw[q3];exact⟨r.pc,by show In64 (s.1.sp+1);unfold In64;omega,r.fp,r.st⟩
 ·obtain⟨q1,q2,q3⟩:=kQ3 q;exact qLx s (h.2 q1).st
theorem RR.drop {s t:CpB}(h:RR s t):∀n:Nat,RR (kDt s n) (kD6 t n)
 | 0=>h
 |n+1=>(RR.drop h n).pop.1
theorem RR.zeros {s t:CpB}(h:RR s t):∀n:Nat,RR (kHk s n) (kHl t n)
 | 0=>h
 |n+1=>(RR.zeros h n).push In64.zero
theorem qLy {s:CpB}{a x:Int}(h:s.2=true):(kLt s a x).2=true:=by unfold kLt;split<;>simp[h]
theorem RR.both {s t:CpB}(h1:s.2=true) (h2:t.2=true):RR s t:=⟨.bad h1 h2,fun q=>by rw[h1]at q;cases q⟩
theorem RR.cases {s t:CpB}(h:RR s t):(s.2=true∧t.2=true)∨(s.2=false∧s=t∧Rng s.1):=by
 rcases h.1.cases with⟨a,b⟩|⟨a,e⟩
 ·exact .inl ⟨a,b⟩
 ·exact .inr ⟨a,e,h.2 a⟩
theorem qIg {s:CpB}{a:Int}(h:s.2=true):(kA5 s a).2.2=true:=by unfold kA5;split<;>simp[h]
theorem qIh {s:CpB}{a:Int}(h:s.2=true):(kKm s a).2=true:=by unfold kKm;rw[if_pos (kDu.2 (.inl h))]
theorem RR.load {s t:CpB}(h:RR s t) {a b:Int}(hab:(0≤a∧a≤1199)↔(0≤b∧b≤1199)) (he:0≤a∧a≤1199→a=b):RR (kBi (kA5 s a).2 (kA5 s a).1) (kKm t b):=by
 rcases h.cases with⟨p,q⟩|⟨p,rfl,r⟩
 ·exact .both (kPs _ (qIg p)) (qIh q)
 ·by_cases hc:0≤a∧a≤1199
  ·have:=he hc;subst this;have e1:kA5 s a=(s.1.st.getD a.toNat 0,s):=by unfold kA5;rw[if_pos hc]
   have e2:kKm s a=kBy s (s.1.st.getD a.toNat 0):=by unfold kKm;rw[if_neg (by rw[kDu];simp[p,hc])]
   rw[e1,e2];exact h.push (k4k r.st _)
  ·have e1:kA5 s a=(0,(s.1,true)):=by unfold kA5;rw[if_neg hc]
   refine .both ?_ ?_
   ·rw[e1];exact kPs _ rfl
   ·unfold kKm;rw[if_pos (kDu.2 (.inr (by rw[←hab];exact hc)))]
theorem RR.store {s t:CpB}(h:RR s t) {a b:Int}(hab:(0≤a∧a≤1199)↔(0≤b∧b≤1199)) (he:0≤a∧a≤1199→a=b):RR (kLt (kAd s).2 a (kAd s).1) (kJ1 t b):=by
 obtain⟨h1,h2⟩:=h.pop;rcases h1.cases with⟨p,q⟩|⟨p,e,r⟩
 ·exact .both (qLy p) (by unfold kJ1;rw[if_pos (kDu.2 (.inl q))])
 ·obtain⟨v1,v2⟩:=h2 p;by_cases hc:0≤a∧a≤1199
  ·have:=he hc;subst this;unfold kLt kJ1;rw[if_pos hc,if_neg (by rw[kDu,←e];simp[p,hc]),←e,←v1]
   exact⟨.refl _,fun _=>⟨r.pc,r.sp,r.fp,qIf r.st v2⟩⟩
  ·refine .both ?_ ?_
   ·unfold kLt;rw[if_neg hc]
   ·unfold kJ1;rw[if_pos (kDu.2 (.inr (by rw[←hab];exact hc)))]
theorem k5l {f n:Int}(hf:In64 f) (hn:-32768≤n∧n≤32767):((0≤kIg f n∧kIg f n≤1199)↔(0≤w64 (f+n)∧w64 (f+n)≤1199))∧(0≤kIg f n∧kIg f n≤1199→kIg f n=w64 (f+n)):=by
 unfold kIg;by_cases hc:-100000≤f∧f≤100000
 ·have:w64 (f+n)=f+n:=k8x (by unfold In64;omega)
  rw[if_pos hc,this];exact⟨Iff.rfl,fun _=>rfl⟩
 ·rw[if_neg hc]
  have hw:¬(0≤w64 (f+n)∧w64 (f+n)≤1199):=by
   unfold In64 at hf;by_cases h1:f+n < -9223372036854775808
   ·have:w64 (f+n)=f+n+18446744073709551616:=by
     unfold w64;rw[IntKind.wrap_i64];omega
    omega
   ·by_cases h2:9223372036854775807<f+n
    ·have:w64 (f+n)=f+n-18446744073709551616:=by
      unfold w64;rw[IntKind.wrap_i64];omega
     omega
    ·have:w64 (f+n)=f+n:=k8x (by unfold In64;omega)
     omega
  exact⟨⟨fun h=>by omega,fun h=>absurd h hw⟩,fun h=>by omega⟩
def kBe (s:CpB) (v:Int):CpB:=(⟨v,s.1.sp,s.1.fp,s.1.st,s.1.out⟩,s.2)
def kGk (s:CpB) (v:Int):CpB:=(⟨s.1.pc,v,s.1.fp,s.1.st,s.1.out⟩,s.2)
def kEx (s:CpB) (v:Int):CpB:=(⟨s.1.pc,s.1.sp,v,s.1.st,s.1.out⟩,s.2)
def kF8 (s:CpB) (v:Int):CpB:=(⟨s.1.pc,s.1.sp,s.1.fp,s.1.st,s.1.out++[v]⟩,s.2)
def kA6 (E:List Int) (x:Op) (c:Cpu):CpB :=
 if x.code=0 then kBi (c,false) x.arg
 else if x.code=1 then kBi (kA5 (c,false) (kIg c.fp x.arg)).2 (kA5 (c,false) (kIg c.fp x.arg)).1
 else if x.code=3 then kBi (kA5 (c,false) (c.sp+x.arg)).2 (kA5 (c,false) (c.sp+x.arg)).1
 else if x.code=2 then kLt (kAd (c,false)).2 (kIg c.fp x.arg) (kAd (c,false)).1
 else if x.code=4 then kLt (kAd (c,false)).2 (c.sp+x.arg) (kAd (c,false)).1
 else if x.code=10 then kBe (c,false) (c.pc+x.arg)
 else if x.code=11 then(if(kAd (c,false)).1=0 then kBe (kAd (c,false)).2 ((kAd (c,false)).2.1.pc+x.arg)else(kAd (c,false)).2)
 else if x.code=12 then(if(E.length:Int)≤x.arg then(c,true)else kBe (kBi (c,false) c.pc) (E.getD x.arg.toNat 0))
 else if x.code=13 then kHk (kEx (kBi (c,false) c.fp) (kBi (c,false) c.fp).1.sp) x.arg.toNat
 else if x.code=15 then kHk (c,false) x.arg.toNat
 else if x.code=14 then
  (if¬(0≤(kAd (c,false)).2.1.fp∧(kAd (c,false)).2.1.fp≤1200)then((kAd (c,false)).2.1,true)
  else
   let s1:=kGk (kAd (c,false)).2 (kAd (c,false)).2.1.fp
   let s2:=kEx (kAd s1).2 (kAd s1).1
   let s3:=kBe (kAd s2).2 (kAd s2).1
   kBi (kDt s3 x.arg.toNat) (kAd (c,false)).1)
 else if x.code=16 then
  (let s1:=kDt (kAd (c,false)).2 (x.arg.tdiv 16).toNat
  let s2:=kBe (kAd s1).2 (kAd s1).1
  kBi (kDt s2 (x.arg.tmod 16).toNat) (kAd (c,false)).1)
 else if x.code=17 then kF8 (kAd (c,false)).2 (kAd (c,false)).1
 else kBi (kAd (kAd (c,false)).2).2 (kU6 (x.code-5+2) (kAd (kAd (c,false)).2).1 (kAd (c,false)).1)
def kBm (E:List Int) (x:Op) (c:Cpu):CpB :=
 if x.code=0 then kBy (c,false) x.arg
 else if x.code=1 then kKm (c,false) (w64 (c.fp+x.arg))
 else if x.code=3 then kKm (c,false) (c.sp+x.arg)
 else if x.code=2 then kJ1 (c,false) (w64 (c.fp+x.arg))
 else if x.code=4 then kJ1 (c,false) (c.sp+x.arg)
 else if x.code=10 then kBe (c,false) (c.pc+x.arg)
 else if x.code=11 then(if(kAf (c,false)).1=0 then kBe (kAf (c,false)).2 ((kAf (c,false)).2.1.pc+x.arg)else(kAf (c,false)).2)
 else if x.code=12 then(if x.arg<(E.length:Int)then kBe (kBy (c,false) c.pc) (E.getD x.arg.toNat 0)else((kBy (c,false) c.pc).1,true))
 else if x.code=13 then kHl (kEx (kBy (c,false) c.fp) (kBy (c,false) c.fp).1.sp) x.arg.toNat
 else if x.code=15 then kHl (c,false) x.arg.toNat
 else if x.code=14 then
  (let s1:=kGk (kAf (c,false)).2 (kAf (c,false)).2.1.fp
  let s2:=kEx (kAf s1).2 (kAf s1).1
  let s3:=kBe (kAf s2).2 (kAf s2).1
  kBy (kD6 s3 x.arg.toNat) (kAf (c,false)).1)
 else if x.code=16 then
  (let s1:=kD6 (kAf (c,false)).2 (x.arg.tdiv 16).toNat
  let s2:=kBe (kAf s1).2 (kAf s1).1
  kBy (kD6 s2 (x.arg.tmod 16).toNat) (kAf (c,false)).1)
 else if x.code=17 then kF8 (kAf (c,false)).2 (kAf (c,false)).1
 else kBy (kAf (kAf (c,false)).2).2 (kU6 (x.code-5+2) (kAf (kAf (c,false)).2).1 (kAf (c,false)).1)
theorem RR.kBe {s t:CpB}(h:RR s t) {v:Int}(hv:s.2=false→In64 v):RR (Go.Proofs.YtjdklcjoeanimaaGreat.kBe s v) (Go.Proofs.YtjdklcjoeanimaaGreat.kBe t v):=by
 rcases h.cases with⟨p,q⟩|⟨p,rfl,r⟩
 ·exact .both p q
 ·exact⟨.refl _,fun _=>⟨hv p,r.sp,r.fp,r.st⟩⟩
theorem RR.qIi {s t:CpB}(h:RR s t) {v u:Int}(hv:s.2=false→v=u∧In64 v):RR (Go.Proofs.YtjdklcjoeanimaaGreat.kBe s v) (Go.Proofs.YtjdklcjoeanimaaGreat.kBe t u):=by
 rcases h.cases with⟨p,q⟩|⟨p,rfl,r⟩
 ·exact .both p q
 ·obtain⟨rfl,h1⟩:=hv p;exact⟨.refl _,fun _=>⟨h1,r.sp,r.fp,r.st⟩⟩
theorem RR.qIj {s t:CpB}(h:RR s t) {v u:Int}(hv:s.2=false→v=u∧In64 v):RR (Go.Proofs.YtjdklcjoeanimaaGreat.kEx s v) (Go.Proofs.YtjdklcjoeanimaaGreat.kEx t u):=by
 rcases h.cases with⟨p,q⟩|⟨p,rfl,r⟩
 ·exact .both p q
 ·obtain⟨rfl,h1⟩:=hv p;exact⟨.refl _,fun _=>⟨r.pc,r.sp,h1,r.st⟩⟩
theorem RR.setSp2 {s t:CpB}(h:RR s t) {v u:Int}(hv:s.2=false→v=u∧In64 v):RR (Go.Proofs.YtjdklcjoeanimaaGreat.kGk s v) (Go.Proofs.YtjdklcjoeanimaaGreat.kGk t u):=by
 rcases h.cases with⟨p,q⟩|⟨p,rfl,r⟩
 ·exact .both p q
 ·obtain⟨rfl,h1⟩:=hv p;exact⟨.refl _,fun _=>⟨r.pc,h1,r.fp,r.st⟩⟩
theorem RR.qN5 {s t:CpB}(h:RR s t) {v u:Int}(hv:s.2=false→v=u):RR (kF8 s v) (kF8 t u):=by
 rcases h.cases with⟨p,q⟩|⟨p,rfl,r⟩
 ·exact .both p q
 ·obtain rfl:=hv p;exact⟨.refl _,fun _=>⟨r.pc,r.sp,r.fp,r.st⟩⟩
theorem kWt {s:CpB}(h:s.2=true):∀n,(kDt s n).2=true
 | 0=>h
 |n+1=>kO4 (kWt h n)
theorem kWu {s:CpB}(h:s.2=true):∀n,(kD6 s n).2=true
 | 0=>h
 |n+1=>kRl (kWu h n)
theorem k8y {s:CpB}:∀n,(kDt s n).2=false→s.2=false
 |n,h=>by
  cases hb:s.2 with
  |false=>rfl
  |true=>rw[kWt hb]at h;cases h
theorem RR.qFa {s t:CpB}(h:RR s t) {x y:Int}(hx:s.2=false→x=y∧In64 x):RR (kBi s x) (kBy t y):=by
 rcases h.cases with⟨p,q⟩|⟨p,e,r⟩
 ·exact .both (kPs _ p) (kSt _ q)
 ·obtain⟨rfl,h1⟩:=hx p;exact h.push h1
theorem qN6 (k a b:Int):In64 (kU6 k a b):=by
 unfold kU6 In64;have h1:=kPt (wrp a+wrp b);have h2:=kPt (wrp a-wrp b);have h3:=kPt (wrp a*wrp b);split
 ·omega
 ·split
  ·omega
  ·split
   ·omega
   ·split<;>omega
structure OpR (E:List Int) (x:Op) (c:Cpu):Prop where
 rng:Rng c
 arg:In64 x.arg
 near:x.code=1∨x.code=2→-32768≤x.arg∧x.arg≤32767
 jump:x.code=10∨x.code=11→In64 (c.pc+x.arg)
 kGn:∀e∈E,In64 e
theorem kZn {E:List Int}{x:Op}{c:Cpu}(h:OpR E x c):RR (kA6 E x c) (kBm E x c):=by
 have h0:RR (c,false) (c,false):=⟨.refl _,fun _=>h.rng⟩
 obtain⟨p1,p2⟩:=h0.pop;unfold kA6 kBm;by_cases c0:x.code=0
 ·rw[if_pos c0,if_pos c0];exact h0.push h.arg
 rw[if_neg c0,if_neg c0];by_cases c1:x.code=1
 ·rw[if_pos c1,if_pos c1];obtain⟨n1,n2⟩:=k5l h.rng.fp (h.near (.inl c1));exact h0.load n1 n2
 rw[if_neg c1,if_neg c1];by_cases c3:x.code=3
 ·rw[if_pos c3,if_pos c3];exact h0.load Iff.rfl fun _=>rfl
 rw[if_neg c3,if_neg c3];by_cases c2:x.code=2
 ·rw[if_pos c2,if_pos c2];obtain⟨n1,n2⟩:=k5l h.rng.fp (h.near (.inr c2));exact h0.store n1 n2
 rw[if_neg c2,if_neg c2];by_cases c4:x.code=4
 ·rw[if_pos c4,if_pos c4];exact h0.store Iff.rfl fun _=>rfl
 rw[if_neg c4,if_neg c4];by_cases c10:x.code=10
 ·rw[if_pos c10,if_pos c10];exact h0.kBe fun _=>h.jump (.inl c10)
 rw[if_neg c10,if_neg c10];by_cases c11:x.code=11
 ·rw[if_pos c11,if_pos c11];rcases p1.cases with⟨p,q⟩|⟨p,e,r⟩
  ·refine .both ?_ ?_
   ·split<;>exact p
   ·split<;>exact q
  ·obtain⟨v1,_⟩:=p2 p;rw[←v1,←e]
   have hpc:(kAd (c,false)).2.1.pc=c.pc:=by
    obtain⟨_,_,q3⟩:=kQ3 p;rw[q3]
   split
   ·exact RR.kBe ⟨.refl _,fun _=>r⟩ fun _=>by rw[hpc];exact h.jump (.inr c11)
   ·exact⟨.refl _,fun _=>r⟩
 rw[if_neg c11,if_neg c11];by_cases c12:x.code=12
 ·rw[if_pos c12,if_pos c12];by_cases hE:(E.length:Int)≤x.arg
  ·rw[if_pos hE,if_neg (by omega)];exact .both rfl rfl
  ·rw[if_neg hE,if_pos (by omega)]
   exact(h0.push h.rng.pc).kBe fun _=>k4k h.kGn _
 rw[if_neg c12,if_neg c12];by_cases c13:x.code=13
 ·rw[if_pos c13,if_pos c13];have hp:=h0.push h.rng.fp;refine RR.zeros (hp.qIj fun q=>?_) _
  rcases hp.cases with⟨p,_⟩|⟨p,e,r⟩
  ·rw[p]at q;cases q
  ·rw[←e];exact⟨rfl,r.sp⟩
 rw[if_neg c13,if_neg c13];by_cases c15:x.code=15
 ·rw[if_pos c15,if_pos c15];exact h0.zeros _
 rw[if_neg c15,if_neg c15];by_cases c14:x.code=14
 ·rw[if_pos c14,if_pos c14];rcases p1.cases with⟨p,q⟩|⟨p,e,r⟩
  ·refine .both ?_ ?_
   ·split
    ·rfl
    ·exact kPs _ (kWt (by show(kAd _).2.2=true;exact kO4 (by show(kAd _).2.2=true;exact kO4 p)) _)
   ·exact kSt _ (kWu (by show(kAf _).2.2=true;exact kRl (by show(kAf _).2.2=true;exact kRl q)) _)
  ·obtain⟨v1,v2⟩:=p2 p;rw[←v1,←e];have hs1:RR (kGk (kAd (c,false)).2 (kAd (c,false)).2.1.fp) (kGk (kAd (c,false)).2 (kAd (c,false)).2.1.fp):=RR.setSp2 ⟨.refl _,fun _=>r⟩ fun _=>⟨rfl,r.fp⟩
   generalize hS1:kGk (kAd (c,false)).2 (kAd (c,false)).2.1.fp=s1 at hs1;have hs1f:s1.1.sp=(kAd (c,false)).2.1.fp:=by rw[←hS1];rfl
   obtain⟨a1,a2⟩:=hs1.pop;have hs2:RR (kEx (kAd s1).2 (kAd s1).1) (kEx (kAf s1).2 (kAf s1).1):=a1.qIj a2;obtain⟨b1,b2⟩:=hs2.pop;have hs3:=b1.qIi b2;have hfin:=(hs3.drop x.arg.toNat).qFa (x:=(kAd (c,false)).1) (y:=(kAd (c,false)).1) fun _=>⟨rfl,v2⟩
   split
   ·rename_i hf;have hbad:(kAf s1).2.2=true:=by unfold kAf;rw[if_pos (kDu.2 (.inr (by rw[hs1f];omega)))]
    refine .both rfl ?_;exact kSt _ (kWu (by show(kAf _).2.2=true;exact kRl (by show(kAf s1).2.2=true;exact hbad)) _)
   ·exact hfin
 rw[if_neg c14,if_neg c14];by_cases c16:x.code=16
 ·rw[if_pos c16,if_pos c16];have hd:=p1.drop (x.arg.tdiv 16).toNat;obtain⟨b1,b2⟩:=hd.pop;have hs2:=b1.qIi b2;refine RR.qFa (hs2.drop _) fun q=>?_
  have q1:=k8y _ q;have q2:(kAd (kDt (kAd (c,false)).2 (x.arg.tdiv 16).toNat)).2.2=false:=q1;have q3:=(kQ3 q2).1;exact p2 (k8y _ q3)
 rw[if_neg c16,if_neg c16];by_cases c17:x.code=17
 ·rw[if_pos c17,if_pos c17];exact p1.qN5 fun q=>(p2 q).1
 rw[if_neg c17,if_neg c17];obtain⟨b1,b2⟩:=p1.pop;refine b1.qFa fun q=>⟨?_,qN6 _ _ _⟩
 rw[(b2 q).1,(p2 (kQ3 q).1).1]
def Ok2 (s:CpB):Prop:=s.2=false→s.1.st.length=1200∧0≤s.1.sp∧s.1.sp≤1200
theorem Ok2.bad {s:CpB}(h:s.2=true):Ok2 s:=fun q=>by rw[h]at q;cases q
theorem Ok2.ite {p:Prop}[Decidable p] {a b:CpB}(h1:p→Ok2 a) (h2:¬p→Ok2 b):Ok2 (if p then a else b):=by
 by_cases h:p
 ·rw[if_pos h];exact h1 h
 ·rw[if_neg h];exact h2 h
theorem Ok2.push {s:CpB}(h:Ok2 s) (x:Int):Ok2 (kBi s x):=by
 unfold kBi;split
 ·exact .bad rfl
 ·rename_i hc;intro q;obtain⟨a,b,c⟩:=h q;exact⟨by rw[List.length_set];exact a,by show 0≤s.1.sp-1;omega,by show s.1.sp-1≤1200;omega⟩
theorem Ok2.pop {s:CpB}(h:Ok2 s):Ok2 (kAd s).2:=fun q=>by
 obtain⟨q1,q2,q3⟩:=kQ3 q;obtain⟨a,b,c⟩:=h q1;rw[q3];exact⟨a,by show 0≤s.1.sp+1;omega,by show s.1.sp+1≤1200;omega⟩
theorem Ok2.word {s:CpB}(h:Ok2 s) (a:Int):Ok2 (kA5 s a).2:=by
 unfold kA5;split
 ·exact h
 ·exact .bad rfl
theorem Ok2.put {s:CpB}(h:Ok2 s) (a x:Int):Ok2 (kLt s a x):=by
 unfold kLt;split
 ·intro q;obtain⟨a,b,c⟩:=h q;exact⟨by rw[List.length_set];exact a,b,c⟩
 ·exact .bad rfl
theorem Ok2.drop {s:CpB}(h:Ok2 s):∀n:Nat,Ok2 (kDt s n)
 | 0=>h
 |n+1=>(Ok2.drop h n).pop
theorem Ok2.zeros {s:CpB}(h:Ok2 s):∀n:Nat,Ok2 (kHk s n)
 | 0=>h
 |n+1=>(Ok2.zeros h n).push 0
theorem Ok2.kBe {s:CpB}(h:Ok2 s) (v:Int):Ok2 (Go.Proofs.YtjdklcjoeanimaaGreat.kBe s v):=fun q=>h q
theorem Ok2.kEx {s:CpB}(h:Ok2 s) (v:Int):Ok2 (Go.Proofs.YtjdklcjoeanimaaGreat.kEx s v):=fun q=>h q
theorem Ok2.kF8 {s:CpB}(h:Ok2 s) (v:Int):Ok2 (Go.Proofs.YtjdklcjoeanimaaGreat.kF8 s v):=fun q=>h q
theorem k2j {E:List Int}{x:Op}{c:Cpu}(h:c.st.length=1200∧0≤c.sp∧c.sp≤1200):Ok2 (kA6 E x c):=by
 have h0:Ok2 (c,false):=fun _=>h
 unfold kA6
 refine Ok2.ite (fun _=>h0.push _) fun _=>Ok2.ite (fun _=>(h0.word _).push _) fun _=>Ok2.ite (fun _=>(h0.word _).push _) fun _=>Ok2.ite (fun _=>h0.pop.put _ _) fun _=>Ok2.ite (fun _=>h0.pop.put _ _) fun _ =>
  Ok2.ite (fun _=>h0.kBe _) fun _=>Ok2.ite (fun _=>Ok2.ite (fun _=>h0.pop.kBe _) fun _=>h0.pop) fun _=>Ok2.ite (fun _=>Ok2.ite (fun _=>.bad rfl) fun _=>(h0.push _).kBe _) fun _ =>
  Ok2.ite (fun _=>((h0.push _).kEx _).zeros _) fun _=>Ok2.ite (fun _=>h0.zeros _) fun _=>Ok2.ite (fun _=>Ok2.ite (fun _=>.bad rfl) fun hf=>?_) fun _ =>
  Ok2.ite (fun _=>((((h0.pop.drop _).pop).kBe _).drop _).push _) fun _=>Ok2.ite (fun _=>h0.pop.kF8 _) fun _=>h0.pop.pop.push _
 have hs1:Ok2 (kGk (kAd (c,false)).2 (kAd (c,false)).2.1.fp):=fun q=>by
  obtain⟨a,_,_⟩:=h0.pop q;exact⟨a,by show 0≤(kAd (c,false)).2.1.fp;omega,by show(kAd (c,false)).2.1.fp≤1200;omega⟩
 exact((((hs1.pop.kEx _).pop).kBe _).drop _).push _
section
open Go.Vc Tryz
theorem kYv (L:List Int):kJv (L.map encI)↔True:=kMv (fun x c hc=>by simp only[encI,jDr,jJw,or_false]at hc;exact⟨_,hc⟩) L
theorem kNi (L:List Symbol):kJv (L.map encSymbol)↔True:=kMv (fun x c hc=>by simp only[encSymbol,jDr,jJw,or_false]at hc;rcases hc with rfl|rfl|rfl<;>exact⟨_,rfl⟩) L
attribute [local go_sem] kYv kNi
@[go_sem] def qDh:Ctr:=pur (fun args=>kCc (aC args 0)) (fun x=>[.agg [.v (.string x.code),.sl 3 (x.symbols.map encSymbol)]]) (fun x=>x.symbols.length≤2097152) (fun d x=>.agg [.v (.string x.code),.own d]) (fun d x=>[(d,.sl 214 3 (x.symbols.map encSymbol))])
section
attribute [local go_sem] kCc
def cxTimE:=kc k1y kn
theorem qP0:Cq 168 qDh:=by
 refine zp fun d x hx=>?_
 obtain⟨c,Y⟩:=x;simp only at hx⊢;refine zg cxTimE func168 rfl rfl ntmps168 ?_;intros
 (repeat' (first|apply zS|apply zB|(apply zW;simp only[go_sem])|apply jAi|omega|exact⟨_,_,rfl,_,_,rfl,rfl⟩|exact if_neg zo|(rw[if_neg zo,if_neg zo];done)|(rw[if_neg zo,if_neg zo,if_neg zo];done)|(rw[if_neg zo,if_neg zo,if_neg zo,if_neg zo];done)|intro _))
end
@[go_sem] def qP1:Ctr:=pur (fun args=>kDf (aR args 0)) (fun L=>[.sl 2 (L.map encImage)]) (fun L=>L.length≤2097152∧∀x∈L,x.symbols.length≤2097152) (fun d _=>.own d) (fun d L=>[(d,.dp 144 2 (L.map encImage))])
section
attribute [local go_sem] kCc
def cxTisD:=kc qP0 kn
theorem qP2:Cq 94 qP1:=by
 refine zp fun d x hx=>?_
 rename List Image=>L
 obtain⟨hL,hY⟩:=hx;refine zg cxTisD func94 rfl rfl ntmps94 ?_;intros;refine zy trivial ?_;refine zG [.dp 7] ?_;simp only[go_sem];refine⟨kW4 zs,?_⟩;refine zL (fun k:Nat=>⟨[(0,.sl 2 (L.map encImage)),(3,.own 7),(4,vi k)],[(7,.dp 144 2 (filled encImage kMj L k))]⟩) (fun k=>k≤L.length) (fun k=>L.length-k) 0 zo ?_ ?_
 ·rw[kFy];simp only[go_sem];first|exact⟨rfl,rfl⟩|rfl
 intro k hk;by_cases hlt:k<L.length
 ·have h0:=hY _ (jCn hlt);have h1:=kAa encImage L k hlt;have h2:=kBx encImage kMj L k hk;have h3:Go.Vc.rowAt (filled encImage kMj L k) k=[.v (.string ⟨#[]⟩),.v (.slice none 0 0)]:=kG5 encImage kMj L k hlt;have h4:=kG6 encImage kMj L k hlt;rw[encImage]at h4;refine zO [.abs 7 1,.fld 7] ?_;refine zG [.opn 7 k] ?_;simp only[go_sem,h2,h3];refine⟨hlt,?_⟩
  (repeat' (first|apply zS|apply zB|(apply zW;simp only[go_sem,h1,h2,h3,h4,encImage])|apply jAi|omega|exact h0|exact⟨k+1,zo,zo,rfl,rfl⟩|intro _))
 ·have h2:=kBx encImage kMj L k hk;have h5:filled encImage kMj L k=L.map encImage:=by rw[show k=L.length by omega];exact kG4 _ _ _
  exact zx (z2 h2 h5)
end
@[go_sem] def k06:Ctr:=pur (fun args=>kFu (aC args 0)) (fun x=>[.agg [vi x.pc,vi x.sp,vi x.fp,.sl 1 (x.stack.map encI),.sl 1 (x.out.map encI),vi x.state,vi x.value]]) (fun x=>x.stack.length≤2097152∧x.out.length≤2097152)
 (fun d x=>.agg [vi x.pc,vi x.sp,vi x.fp,.own d,.own (d+1000),vi x.state,vi x.value]) (fun d x=>[(d,.sl 3 1 (x.stack.map encI)),(d+1000,.sl 3 1 (x.out.map encI))])
section
def cxTmaE:=kc c15 kn
theorem qNa:Cq 173 k06:=by
 refine zp fun d x hx=>?_
 obtain⟨a,b,c,s,o,d2,e2⟩:=x;obtain⟨hs,ho⟩:=hx;simp only at hs ho⊢;refine zg cxTmaE func173 rfl rfl ntmps173 ?_;intros
 (repeat' (first|apply zS|apply zB|(apply zW;simp only[go_sem])|apply jAi|omega|exact⟨_,_,_,_,_,_,_,rfl⟩|exact⟨_,_,rfl,_,_,rfl,rfl⟩|exact if_neg zo|(rw[if_neg zo,if_neg zo];done)|(rw[if_neg zo,if_neg zo,if_neg zo];done)|(rw[if_neg zo,if_neg zo,if_neg zo,if_neg zo];done)|intro _))
end
@[go_sem] def qNb:Ctr:=pur (fun args=>kHg (aR args 0)) (fun L=>[.sl 7 (L.map encMach)]) (fun L=>L.length≤1048576∧∀x∈L,kCr x) (fun d _=>.own d) (fun d L=>[(d,.dp 206 7 (L.map encMach))])
section
attribute [local go_sem] kFu
def cxTmsD:=kc qNa kn
set_option maxHeartbeats 3000000 in
theorem qNc:Cq 97 qNb:=by
 refine zp fun d x hx=>?_
 rename List Mach=>L
 obtain⟨hL,hY⟩:=hx;refine zg cxTmsD func97 rfl rfl ntmps97 ?_;intros;refine zy trivial ?_;refine zG [.dp 7] ?_;simp only[go_sem];refine⟨kW4 zs,?_⟩;refine zL (fun k:Nat=>⟨[(0,.sl 7 (L.map encMach)),(3,.own 7),(4,vi k)],[(7,.dp 206 7 (filled encMach kPf L k))]⟩) (fun k=>k≤L.length) (fun k=>L.length-k) 0 zo ?_ ?_
 ·rw[kFy];simp only[go_sem];first|exact⟨rfl,rfl⟩|rfl
 intro k hk;by_cases hlt:k<L.length
 ·have h0:=(hY _ (jCn hlt)).1;have h0':=(hY _ (jCn hlt)).2;have h1:=kAa encMach L k hlt;have h2:=kBx encMach kPf L k hk;have h3:Go.Vc.rowAt (filled encMach kPf L k) k=[vi 0,vi 0,vi 0,.v (.slice none 0 0),.v (.slice none 0 0),vi 0,vi 0]:=kG5 encMach kPf L k hlt;have h4:=kG6 encMach kPf L k hlt;rw[encMach]at h4;refine zO [.abs 7 3,.abs 7 4,.fld 7] ?_;refine zG [.opn 7 k] ?_;simp only[go_sem,h2,h3];refine⟨hlt,?_⟩
  (repeat' (first|apply zS|apply zB|(apply zW;simp only[go_sem,h1,h2,h3,h4,encMach])|apply jAi|omega|exact h0|exact h0'|exact⟨k+1,zo,zo,rfl,rfl⟩|intro _))
 ·have h2:=kBx encMach kPf L k hk;have h5:filled encMach kPf L k=L.map encMach:=by rw[show k=L.length by omega];exact kG4 _ _ _
  exact zx (z2 h2 h5)
end
@[go_sem] def qAp:Ctr:=pur (fun args=>spA args 0) (fun x=>[.agg [.sl 2 (x.1.map encImage),.sl 1 (x.2.1.map encI),.sl 1 (x.2.2.map encI)]]) kO2 (fun d _=>.agg [.own d,.own (d+1000),.own (d+2000)])
 (fun d x=>[(d,.dp 144 2 (x.1.map encImage)),(d+1000,.sl 3 1 (x.2.1.map encI)),(d+2000,.sl 3 1 (x.2.2.map encI))])
section
def cxTspD:=kc c15 (kc qP2 kn)
theorem qIw:Cq 37 qAp:=by
 refine zp fun d x hx=>?_
 obtain⟨I,B,E⟩:=x;obtain⟨⟨hI,hIm⟩,hB,hE⟩:=hx;simp only at hI hIm hB hE⊢;refine zg cxTspD func37 rfl rfl ntmps37 ?_;intros
 (repeat' (first|apply zS|apply zB|(apply zW;simp only[go_sem])|apply jAi|omega|exact hIm _ ‹_›|exact⟨_,_,_,rfl⟩|exact⟨_,_,rfl,_,_,rfl,rfl⟩|exact if_neg zo|(rw[if_neg zo,if_neg zo];done)|(rw[if_neg zo,if_neg zo,if_neg zo];done)|(rw[if_neg zo,if_neg zo,if_neg zo,if_neg zo];done)|intro _))
end
@[go_sem] def qAq:Ctr:=pur (fun args=>pcA args 0) (fun x=>[.agg (aggPc x)]) kFr (fun d x=>.agg [.own d,.own (d+1000),.own (d+2000),.own (d+3000),vi x.2.2.1,vi x.2.2.2.1,vi x.2.2.2.2])
 (fun d x=>[(d,.dp 144 2 (x.1.1.map encImage)),(d+1000,.sl 3 1 (x.1.2.1.map encI)),(d+2000,.sl 3 1 (x.1.2.2.map encI)),(d+3000,.dp 206 7 (x.2.1.map encMach))])
section
attribute [local go_sem] aggPc
attribute [local irreducible] kCr
def cxTpcD:=kc qIw (kc qNc kn)
set_option maxHeartbeats 3000000 in
theorem ctoPcD:Cq 39 qAq:=by
 refine zp fun d x hx=>?_
 obtain⟨⟨I,B,E⟩,T,tu,le,sl⟩:=x;obtain⟨hsp,hT,hTs⟩:=hx;have hsp2:=hsp;obtain⟨⟨hI,hIm⟩,hB,hE⟩:=hsp2;simp only[aggPc]at hT hTs hI hIm hB hE⊢;refine zg cxTpcD func39 rfl rfl ntmps39 ?_;intros
 (repeat' (first|apply zS|apply zB|(apply zW;simp only[go_sem])|apply jAi|omega|exact hIm _ ‹_›|exact hTs _ ‹_›|exact hsp|exact⟨_,_,_,_,_,_,_,rfl⟩|exact⟨_,_,rfl,_,_,rfl,rfl⟩|exact if_neg zo|(rw[if_neg zo,if_neg zo];done)|(rw[if_neg zo,if_neg zo,if_neg zo];done)|(rw[if_neg zo,if_neg zo,if_neg zo,if_neg zo];done)|intro _))
end
end
section
open Go.Vc Tryz
abbrev CuX:=CpB×Int×Int
def bxC (x:CuX) (a b:Nat):List SV:=[vi x.1.1.pc,vi x.1.1.sp,vi x.1.1.fp,.own a,.own b,vi x.2.1,vi x.2.2,.v (.bool x.1.2)]
def kEq (x:CuX):List (Nat×Ob):=[(1000000,.box 323 (bxC x 1000001 1000002)),(1000001,.sl 3 1 (x.1.1.st.map encI)),(1000002,.sl 3 1 (x.1.1.out.map encI))]
def kIm (obs:List (Nat×Ob)):CuX:=match oC obs 1000000 with
 | [.v (.int _ a),.v (.int _ b),.v (.int _ c),_,_,.v (.int _ s),.v (.int _ v),.v (.bool g)]=>((⟨a,b,c,kBs (oR obs 1000001),kBs (oR obs 1000002)⟩,g),s,v)
 | _=>((⟨0,0,0,[],[]⟩,false),0,0)
attribute [local go_sem] bxC kEq kIm
@[go_sem] theorem cpu_eta (c:Cpu):(⟨c.pc,c.sp,c.fp,c.st,c.out⟩:Cpu)=c:=rfl
theorem getD_at {L:List Int}{k:Nat}(h:k<L.length):L.getD k 0=L[k]:=by rw[jKz,jD9 h];rfl
theorem kRw (L:List Int) (k:Nat) (v:Int):(L.map encI).set k [vi v]=(L.set k v).map encI:=by rw[vDv];rfl
@[go_sem] def qJm:Ctr:=len [0] [] (fun args obs=>(kIm obs,aI args 1)) (fun x=>[.ptr 1000000 0 0 0,vi x.2]) (fun x=>kEq x.1) (fun x=>x.1.1.1.st.length=1200)
 (fun _ _=>.tup []) (fun _ _=>[]) (fun x=>kEq (kBi x.1.1 x.2,x.1.2))
@[go_sem] def qJn:Ctr:=len [0] [] (fun args obs=>(kIm obs,aI args 1)) (fun x=>[.ptr 1000000 0 0 0,vi x.2]) (fun x=>kEq x.1) (fun x=>x.1.1.1.st.length=1200)
 (fun _ x=>vi ((kA5 x.1.1 x.2).1)) (fun _ _=>[]) (fun x=>kEq ((kA5 x.1.1 x.2).2,x.1.2))
@[go_sem] def kPopS:Ctr:=len [0] [] (fun args obs=>kIm obs) (fun _=>[.ptr 1000000 0 0 0]) (fun x=>kEq x) (fun x=>x.1.1.st.length=1200)
 (fun _ x=>vi ((kAd x.1).1)) (fun _ _=>[]) (fun x=>kEq ((kAd x.1).2,x.2))
def kL5:Ctr:=len [0] [] (fun args obs=>(kIm obs,aI args 1,aI args 2)) (fun x=>[.ptr 1000000 0 0 0,vi x.2.1,vi x.2.2]) (fun x=>kEq x.1) (fun x=>x.1.1.1.st.length=1200)
 (fun _ _=>.tup []) (fun _ _=>[]) (fun x=>kEq (kLt x.1.1 x.2.1 x.2.2,x.1.2))
def kJ6:Ctr:=len [0] [] (fun args obs=>(kIm obs,aI args 1)) (fun x=>[.ptr 1000000 0 0 0,vi x.2]) (fun x=>kEq x.1) (fun x=>x.1.1.1.st.length=1200∧x.2≤4294967295)
 (fun _ _=>.tup []) (fun _ _=>[]) (fun x=>kEq (kDt x.1.1 x.2.toNat,x.1.2))
def kIa:Ctr:=len [0] [] (fun args obs=>(kIm obs,aI args 1)) (fun x=>[.ptr 1000000 0 0 0,vi x.2]) (fun x=>kEq x.1) (fun x=>x.1.1.1.st.length=1200∧x.2≤4294967295)
 (fun _ _=>.tup []) (fun _ _=>[]) (fun x=>kEq (kHk x.1.1 x.2.toNat,x.1.2))
def kL6:Ctr:=pur (fun args=>(aI args 0,aI args 1)) (fun x=>[vi x.1,vi x.2]) (fun x=>-4294967296≤x.2∧x.2≤4294967296) (fun _ x=>vi (kIg x.1 x.2)) (fun _ _=>[])
section
def k7b:=kc c58 kn
theorem qJo:Cq 285 qJm:=by
 refine zn fun d x hd hx=>?_
 obtain⟨⟨⟨⟨pc,sp,fp,S,O⟩,g⟩,q,v⟩,n⟩:=x;simp only at hx⊢;unfold kEq bxC;refine zl k7b func285 rfl rfl ntmps285 ?_;intros;by_cases h:sp<1∨1200<sp
 ·have e:kBi (⟨pc,sp,fp,S,O⟩,g) n=(⟨pc,sp,fp,S,O⟩,true):=if_pos h;rw[e];by_cases h1:sp<1
  ·exact zx1 11 h1
  ·have h2:1200<sp:=zo;exact zx1 11 (z2 h1 h2)
 ·have e:kBi (⟨pc,sp,fp,S,O⟩,g) n=(⟨pc,sp-1,fp,S.set (sp-1).toNat n,O⟩,g):=if_neg h;rw[e];obtain⟨k,rfl⟩:∃k:Nat,sp=(k:Int)+1:=⟨(sp-1).toNat,zo⟩;have h1:¬(k:Int)+1<1:=zo;have h2:¬1200<(k:Int)+1:=zo;have hk:k<S.length:=zo;have e2:(k:Int)+1-1=k:=zo;rw[e2,jB2];have hr:=kAa encI S k hk;exact zx1 11 (z6 h1 h2 e2 hr encI.eq_1 @kRw)
theorem k93:Cq 276 qJn:=by
 refine zn fun d x hd hx=>?_
 obtain⟨⟨⟨⟨pc,sp,fp,S,O⟩,g⟩,q,v⟩,n⟩:=x;simp only at hx⊢;unfold kEq bxC;refine zl k7b func276 rfl rfl ntmps276 ?_;intros;by_cases h:0≤n∧n≤1199
 ·have e:kA5 (⟨pc,sp,fp,S,O⟩,g) n=(S.getD n.toNat 0,(⟨pc,sp,fp,S,O⟩,g)):=if_pos h;rw[e];obtain⟨k,rfl⟩:=zN n;have hk:k<S.length:=zo;have hr:=kAa encI S k hk;rw[jB2,getD_at hk];exact zx (z3 h hr encI.eq_1)
 ·have e:kA5 (⟨pc,sp,fp,S,O⟩,g) n=(0,(⟨pc,sp,fp,S,O⟩,true)):=if_neg h;rw[e];exact zx h
theorem cPutS:Cq 287 kL5:=by
 refine zn fun d x hd hx=>?_
 obtain⟨⟨⟨⟨pc,sp,fp,S,O⟩,g⟩,q,v⟩,n,z⟩:=x;simp only at hx⊢;unfold kEq bxC;refine zl k7b func287 rfl rfl ntmps287 ?_;intros;by_cases h:0≤n∧n≤1199
 ·have e:kLt (⟨pc,sp,fp,S,O⟩,g) n z=(⟨pc,sp,fp,S.set n.toNat z,O⟩,g):=if_pos h;rw[e];obtain⟨k,rfl⟩:=zN n;have hk:k<S.length:=zo;rw[jB2];have hr:=kAa encI S k hk;exact zx (z4 h hr encI.eq_1 @kRw)
 ·have e:kLt (⟨pc,sp,fp,S,O⟩,g) n z=(⟨pc,sp,fp,S,O⟩,true):=if_neg h;rw[e];exact zx h
theorem cNearS:Cq 286 kL6:=by
 refine zp fun d x hx=>?_
 obtain⟨a,n⟩:=x;simp only at hx⊢;refine zg k7b func286 rfl rfl ntmps286 ?_;intros;by_cases h:-100000≤a∧a≤100000
 ·have e:kIg a n=a+n:=if_pos h;rw[e];exact zx h
 ·have e:kIg a n=-1:=if_neg h;rw[e];exact zx h
end
theorem kK7 (s:CpB) (a:Int):(kA5 s a).2.1=s.1:=by unfold kA5;split<;>rfl
theorem kHn (s:CpB):(kAd s).2.1.st=s.1.st:=by
 unfold kAd;split
 ·rw[kK7]
 ·rfl
theorem k6b (s:CpB) (x:Int):(kBi s x).1.st.length=s.1.st.length:=by
 unfold kBi;split
 ·rfl
 ·exact jP9
theorem kP0 (s:CpB):∀n,(kDt s n).1.st=s.1.st
 | 0=>rfl
 |n+1=>by show(kAd (kDt s n)).2.1.st=_;rw[kHn,kP0 s n]
theorem k2x (s:CpB):∀n,(kHk s n).1.st.length=s.1.st.length
 | 0=>rfl
 |n+1=>by show(kBi (kHk s n) 0).1.st.length=_;rw[k6b,k2x s n]
section
def cxMcP:=kc k93 kn
theorem cPopS:Cq 288 kPopS:=by
 refine zn fun d x hd hx=>?_
 obtain⟨⟨⟨pc,sp,fp,S,O⟩,g⟩,q,v⟩:=x;simp only at hx⊢;unfold kEq bxC;refine zl cxMcP func288 rfl rfl ntmps288 ?_;intros;have hl:=kK7 (⟨pc,sp,fp,S,O⟩,g) sp;unfold kAd;simp only;generalize hw:kA5 (⟨pc,sp,fp,S,O⟩,g) sp=w at hl⊢;obtain⟨x,c,b⟩:=w;simp only at hl⊢;subst hl
 cases b with
 |true =>
  simp only[if_true]
  exact zx hw
 |false =>
  simp only[jIv,if_false]
  have hg:(0≤sp∧sp≤1199)∧g=false:=by
   unfold kA5 at hw;split at hw
   ·rename_i hc;simp only[jCx]at hw;exact⟨hc,hw.2.2⟩
   ·simp only[jCx]at hw;cases hw.2.2
  obtain⟨⟨hg0,hg1⟩,rfl⟩:=hg;exact zx hw
end
section
def cxMcD:=kc cPopS (kc qJo kn)
theorem k6c {p:Prop}(h:p:=by first|omega|exact hl|rfl|exact⟨k+1,by omega,by omega,by(first|(and_intros<;>rfl)|simp)⟩):p:=h
theorem cDropS:Cq 290 kJ6:=by
 refine zn fun d x hd hx=>?_
 obtain⟨⟨s,q,v⟩,n⟩:=x;obtain⟨hx,hn⟩:=hx;simp only at hx hn⊢;unfold kEq bxC;refine zl cxMcD func290 rfl rfl ntmps290 ?_;intros;refine zy trivial ?_;refine zL (fun k:Nat=>⟨[(0,.ptr 1000000 0 0 0),(1,vi n),(4,vi (k:Nat))],kEq (kDt s k,q,v)⟩) (fun k=>k≤n.toNat) (fun k=>n.toNat-k) 0 zs ?_ ?_
 ·(simp only[go_sem,kDt]<;>(first|(and_intros<;>rfl)|simp))
 intro k hk;have hl:(kDt s k).1.st.length=1200:=by rw[kP0];exact hx
 by_cases hlt:(k:Int)<n
 ·(repeat' (first|apply zS|apply zB|(apply zW;simp only[go_sem,hlt])|apply jAi|exact k6c|intro _))
 ·obtain rfl:k=n.toNat:=zo;exact zx hlt
theorem qO8:Cq 289 kIa:=by
 refine zn fun d x hd hx=>?_
 obtain⟨⟨s,q,v⟩,n⟩:=x;obtain⟨hx,hn⟩:=hx;simp only at hx hn⊢;unfold kEq bxC;refine zl cxMcD func289 rfl rfl ntmps289 ?_;intros;refine zy trivial ?_;refine zL (fun k:Nat=>⟨[(0,.ptr 1000000 0 0 0),(1,vi n),(4,vi (k:Nat))],kEq (kHk s k,q,v)⟩) (fun k=>k≤n.toNat) (fun k=>n.toNat-k) 0 zs ?_ ?_
 ·(simp only[go_sem,kHk]<;>(first|(and_intros<;>rfl)|simp))
 intro k hk;have hl:(kHk s k).1.st.length=1200:=by rw[k2x];exact hx
 by_cases hlt:(k:Int)<n
 ·(repeat' (first|apply zS|apply zB|(apply zW;simp only[go_sem,hlt])|apply jAi|exact k6c|intro _))
 ·obtain rfl:k=n.toNat:=zo;exact zx hlt
end
end
section
open Go.Vc Tryz
def bxI (x:CuX) (a b:Nat):List SV:=[vi x.1.1.pc,vi x.1.1.sp,vi x.1.1.fp,.own a,.own b,vi x.2.1,vi x.2.2]
def kDk (x:CuX):List (Nat×Ob):=[(1000000,.box 317 [.ptr 1000001 0 0 0,.v (.bool x.1.2)]),(1000001,.box 206 (bxI x 1000002 1000003)),(1000002,.sl 3 1 (x.1.1.st.map encI)),(1000003,.sl 3 1 (x.1.1.out.map encI))]
def kHb (obs:List (Nat×Ob)):CuX:=match oC obs 1000001,oC obs 1000000 with
 | [.v (.int _ a),.v (.int _ b),.v (.int _ c),_,_,.v (.int _ s),.v (.int _ v)],[_,.v (.bool g)]=>((⟨a,b,c,kBs (oR obs 1000002),kBs (oR obs 1000003)⟩,g),s,v)
 | _,_=>((⟨0,0,0,[],[]⟩,false),0,0)
attribute [local go_sem] bxI kDk kHb St.kJa St.kLe kFn kHw
@[go_sem] def kAtI:Ctr:=len [0] [] (fun args obs=>(kHb obs,aI args 1)) (fun x=>[.ptr 1000000 0 0 0,vi x.2]) (fun x=>kDk x.1) (fun _=>True)
 (fun _ x=>.v (.bool (!(atI x.1.1 x.2).2))) (fun _ _=>[]) (fun x=>kDk (atI x.1.1 x.2,x.1.2))
@[go_sem] def qJl:Ctr:=len [0] [] (fun args obs=>(kHb obs,aI args 1)) (fun x=>[.ptr 1000000 0 0 0,vi x.2]) (fun x=>kDk x.1) (fun x=>x.1.1.1.st.length=1200∧In64 x.1.1.1.sp)
 (fun _ _=>.tup []) (fun _ _=>[]) (fun x=>kDk (kBy x.1.1 x.2,x.1.2))
@[go_sem] def kPopI:Ctr:=len [0] [] (fun args obs=>kHb obs) (fun _=>[.ptr 1000000 0 0 0]) (fun x=>kDk x) (fun x=>x.1.1.st.length=1200)
 (fun _ x=>vi ((kAf x.1).1)) (fun _ _=>[]) (fun x=>kDk ((kAf x.1).2,x.2))
def kJ2:Ctr:=len [0] [] (fun args obs=>(kHb obs,aI args 1)) (fun x=>[.ptr 1000000 0 0 0,vi x.2]) (fun x=>kDk x.1) (fun x=>x.1.1.1.st.length=1200∧In64 x.1.1.1.sp)
 (fun _ _=>.tup []) (fun _ _=>[]) (fun x=>kDk (kKm x.1.1 x.2,x.1.2))
def kH9:Ctr:=len [0] [] (fun args obs=>(kHb obs,aI args 1)) (fun x=>[.ptr 1000000 0 0 0,vi x.2]) (fun x=>kDk x.1) (fun x=>x.1.1.1.st.length=1200)
 (fun _ _=>.tup []) (fun _ _=>[]) (fun x=>kDk (kJ1 x.1.1 x.2,x.1.2))
def kJ3:Ctr:=len [0] [] (fun args obs=>(kHb obs,aI args 1)) (fun x=>[.ptr 1000000 0 0 0,vi x.2]) (fun x=>kDk x.1) (fun x=>x.1.1.1.st.length=1200∧x.2≤4294967295)
 (fun _ _=>.tup []) (fun _ _=>[]) (fun x=>kDk (kD6 x.1.1 x.2.toNat,x.1.2))
section
def cxAtI:=kc c60 kn
theorem cAtI:Cq 267 kAtI:=by
 refine zn fun d x hd hx=>?_
 obtain⟨⟨⟨⟨pc,sp,fp,S,O⟩,g⟩,q,v⟩,n⟩:=x;simp only;unfold kDk bxI;refine zl cxAtI func267 rfl rfl ntmps267 ?_;intros;by_cases h:0≤n∧n≤1199
 ·have e:atI (⟨pc,sp,fp,S,O⟩,g) n=(⟨pc,sp,fp,S,O⟩,g):=if_pos h;rw[e];exact zx h
 ·have e:atI (⟨pc,sp,fp,S,O⟩,g) n=(⟨pc,sp,fp,S,O⟩,true):=if_neg h;rw[e];exact zx h
end
theorem kYy (s:CpB) (a:Int):(atI s a).1=s.1:=by unfold atI;split<;>rfl
theorem kHf (s:CpB):(kAf s).2.1.st=s.1.st:=by
 unfold kAf;split<;>rfl
theorem kSz (s:CpB) (x:Int):(kBy s x).1.st.length=s.1.st.length:=by
 unfold kBy;split
 ·rfl
 ·exact jP9
theorem kPb (s:CpB):∀n,(kD6 s n).1.st=s.1.st
 | 0=>rfl
 |n+1=>by show(kAf (kD6 s n)).2.1.st=_;rw[kHf,kPb s n]
theorem kVm (s:CpB):∀n,(kHl s n).1.st.length=s.1.st.length
 | 0=>rfl
 |n+1=>by show(kBy (kHl s n) 0).1.st.length=_;rw[kSz,kVm s n]
section
def cxPuI:=kc cAtI kn
theorem k91:Cq 277 qJl:=by
 refine zn fun d x hd hx=>?_
 obtain⟨⟨⟨⟨pc,sp,fp,S,O⟩,g⟩,q,v⟩,n⟩:=x;obtain⟨hx,h64⟩:=hx;simp only at hx h64⊢;have hw:=k4j h64;have hf:=kYy (⟨pc,sp,fp,S,O⟩,g) (w64 (sp-1));have hb:=kDu (s:=(⟨pc,sp,fp,S,O⟩,g)) (a:=w64 (sp-1));unfold kBy;simp only;unfold kDk bxI;refine zl cxPuI func277 rfl rfl ntmps277 ?_;intros;generalize ha:atI (⟨pc,sp,fp,S,O⟩,g) (w64 (sp-1))=w at hf hb⊢;have ha:atI (⟨pc,sp,fp,S,O⟩,g) (IntKind.i64.wrap (sp-1))=w:=ha;obtain⟨c,b⟩:=w;simp only at hf hb⊢;subst hf
 cases b with
 |true =>
  simp only[if_true]
  (repeat' (first|apply zS|apply zB|((first|refine WP.k71 (id:=0) ?_);simp only[go_sem,ha])|((first|apply zW| refine zd 15 ?_);simp only[go_sem,ha])|apply jAi|omega|rfl|exact hx|intro _))
 |false =>
  simp only[jIv,if_false]
  have hg:(1≤sp∧sp≤1200)∧g=false:=by
   constructor
   ·by_cases hc:1≤sp∧sp≤1200
    ·exact hc
    ·exact absurd (hb.2 (.inr (fun h=>hc (hw.1 h)))) zs
   ·cases g with
    |false=>rfl
    |true=>exact absurd (hb.2 (.inl rfl)) zs
  obtain⟨⟨hg0,hg1⟩,rfl⟩:=hg;obtain⟨k,rfl⟩:∃k:Nat,sp=(k:Int)+1:=⟨(sp-1).toNat,zo⟩;have hk:k<S.length:=zo;have e2:(k:Int)+1-1=k:=zo;have hr:=kAa encI S k hk;rw[e2]at ha;rw[e2,jB2]
  (repeat' (first|apply zS|apply zB|((first|refine WP.k71 (id:=0) ?_);simp only[go_sem,ha,e2,hr,encI,kRw])|((first|apply zW| refine zd 15 ?_);simp only[go_sem,ha,e2,hr,encI,kRw])|apply jAi|omega|rfl|exact hx|intro _))
theorem cPopI:Cq 280 kPopI:=by
 refine zn fun d x hd hx=>?_
 obtain⟨⟨⟨pc,sp,fp,S,O⟩,g⟩,q,v⟩:=x;simp only at hx⊢;have hf:=kYy (⟨pc,sp,fp,S,O⟩,g) sp;have hb:=kDu (s:=(⟨pc,sp,fp,S,O⟩,g)) (a:=sp);unfold kAf;simp only;unfold kDk bxI;refine zl cxPuI func280 rfl rfl ntmps280 ?_;intros;generalize ha:atI (⟨pc,sp,fp,S,O⟩,g) sp=w at hf hb⊢;obtain⟨c,b⟩:=w;simp only at hf hb⊢;subst hf
 cases b with
 |true =>
  simp only[if_true]
  exact zx1 17 ha
 |false =>
  simp only[jIv,if_false]
  have hg:(0≤sp∧sp≤1199)∧g=false:=by
   constructor
   ·by_cases hc:0≤sp∧sp≤1199
    ·exact hc
    ·exact absurd (hb.2 (.inr hc)) zs
   ·cases g with
    |false=>rfl
    |true=>exact absurd (hb.2 (.inl rfl)) zs
  obtain⟨⟨hg0,hg1⟩,rfl⟩:=hg;obtain⟨k,rfl⟩:∃k:Nat,sp=(k:Int):=⟨sp.toNat,zo⟩;have hk:k<S.length:=zo;have e2:(k:Int)+1-1=k:=zo;have hr:=kAa encI S k hk;rw[jB2,getD_at hk];exact zx1 17 (z4 ha e2 hr encI.eq_1)
end
section
def qGp:=kc cAtI (kc k91 (kc cPopI kn))
theorem cLoadI:Cq 278 kJ2:=by
 refine zn fun d x hd hx=>?_
 obtain⟨⟨⟨⟨pc,sp,fp,S,O⟩,g⟩,q,v⟩,n⟩:=x;obtain⟨hx,h64⟩:=hx;simp only at hx h64⊢;have h64a:-9223372036854775808≤sp∧sp≤9223372036854775807:=h64;have hf:=kYy (⟨pc,sp,fp,S,O⟩,g) n;have hb:=kDu (s:=(⟨pc,sp,fp,S,O⟩,g)) (a:=n);unfold kKm;simp only;unfold kDk bxI;refine zl qGp func278 rfl rfl ntmps278 ?_;intros;generalize ha:atI (⟨pc,sp,fp,S,O⟩,g) n=w at hf hb⊢;obtain⟨c,b⟩:=w;simp only at hf hb⊢;subst hf
 cases b with
 |true =>
  simp only[if_true]
  (repeat' (first|apply zS|apply zB|(apply zW;simp only[go_sem,ha])|apply jAi|omega|rfl|exact hx|exact⟨hx,h64⟩|intro _))
 |false =>
  simp only[jIv,if_false]
  have hg:(0≤n∧n≤1199)∧g=false:=by
   constructor
   ·by_cases hc:0≤n∧n≤1199
    ·exact hc
    ·exact absurd (hb.2 (.inr hc)) zs
   ·cases g with
    |false=>rfl
    |true=>exact absurd (hb.2 (.inl rfl)) zs
  obtain⟨⟨hg0,hg1⟩,rfl⟩:=hg;obtain⟨k,rfl⟩:∃k:Nat,n=(k:Int):=⟨n.toNat,zo⟩;have hk:k<S.length:=zo;have hr:=kAa encI S k hk;rw[jB2,getD_at hk]
  (repeat' (first|apply zS|apply zB|(apply zW;simp only[go_sem,ha,hr,encI])|apply jAi|omega|rfl|exact hx|exact⟨hx,h64⟩|intro _))
theorem qO7:Cq 279 kH9:=by
 refine zn fun d x hd hx=>?_
 obtain⟨⟨s,q,v⟩,n⟩:=x
 try simp only at hx⊢
 have hl:(kAf s).2.1.st.length=1200:=by rw[kHf];exact hx
 unfold kJ1
 try simp only
 unfold kDk bxI;refine zl qGp func279 rfl rfl ntmps279 ?_;intros;generalize hp:kAf s=w at hl⊢;obtain⟨x,⟨pc,sp,fp,S,O⟩,g⟩:=w
 try simp only at hl⊢
 have hf:=kYy (⟨pc,sp,fp,S,O⟩,g) n;have hb:=kDu (s:=(⟨pc,sp,fp,S,O⟩,g)) (a:=n);generalize ha:atI (⟨pc,sp,fp,S,O⟩,g) n=w at hf hb⊢;obtain⟨c,b⟩:=w;simp only at hf hb⊢;subst hf
 cases b with
 |true =>
  simp only[if_true]
  exact zx (z2 hp ha)
 |false =>
  simp only[jIv,if_false]
  have hg:(0≤n∧n≤1199)∧g=false:=by
   constructor
   ·by_cases hc:0≤n∧n≤1199
    ·exact hc
    ·exact absurd (hb.2 (.inr hc)) zs
   ·cases g with
    |false=>rfl
    |true=>exact absurd (hb.2 (.inl rfl)) zs
  obtain⟨⟨hg0,hg1⟩,rfl⟩:=hg;obtain⟨k,rfl⟩:∃k:Nat,n=(k:Int):=⟨n.toNat,zo⟩;have hk:k<S.length:=zo;have hr:=kAa encI S k hk;rw[jB2];exact zx (z5 hp ha hr encI.eq_1 @kRw)
theorem cDropI:Cq 283 kJ3:=by
 refine zn fun d x hd hx=>?_
 obtain⟨⟨s,q,v⟩,n⟩:=x;obtain⟨hx,hn⟩:=hx;simp only at hx hn⊢;unfold kDk bxI;refine zl qGp func283 rfl rfl ntmps283 ?_;intros;refine zy trivial ?_;refine zL (fun k:Nat=>⟨[(0,.ptr 1000000 0 0 0),(1,vi ((n-(k:Nat))))],kDk (kD6 s k,q,v)⟩) (fun k=>k≤n.toNat) (fun k=>n.toNat-k) 0 zs ?_ ?_
 ·(simp only[go_sem,kD6]<;>(first|(and_intros<;>rfl)|simp))
 intro k hk;have hl:(kD6 s k).1.st.length=1200:=by rw[kPb];exact hx
 by_cases hlt:0<n-(k:Int)
 ·have he:n-(k:Int)-1=n-(k+1:Nat):=zo
  (repeat' (first|apply zS|apply zB|(apply zW;simp only[go_sem,hlt])|apply jAi|omega|exact hl|rfl|exact⟨k+1,zo,zo,by rw[←he];(first|(and_intros<;>rfl)|simp)⟩|intro _))
 ·obtain rfl:k=n.toNat:=zo;exact zx hlt
end
end
end Go.Proofs.YtjdklcjoeanimaaGreat
namespace Go.Vc
section
section
variable {P:Program}{tys:List (Nat×TyD)}{C:List (FuncId×Ctr)}{N:Nat}{X0:Nat→Prop}{M:Nat→BV→Prop}{w0:World}{st:St}{β:Nat→BV}{a:Act}{w:World}
theorem kSf (hA:Ap P X0 M w0) (hty:∀T d,lk T tys=some d→kAs P T d) (hC:COk P C) {ops:Array Oper}{l2:List Oper}{K:St→Prop}{Q:Exit→Act→World→Prop}(hQ:∀a w,Ok N X0 M w0 K a w→wpList P ops Q l2 a w) :
  ∀(l:List Oper) {st:St}{β:Nat→BV}{a:Act}{w:World},Sim N X0 M w0 st β a w→St.runR tys C N ops l st K→wpList P ops Q (l++l2) a w
 | [],st,β,a,w,h,hw=>hQ a w ⟨st,β,hw,h⟩
 |o::l,st,β,a,w,h,hw=>by
  have h1:=kCu (Q:=Q) hA hty hC h hw;show wpList P ops Q (o::(l++l2)) a w
  unfold wpList;split
  ·rename_i hwt;rw[if_pos hwt]at h1;exact .inl (Oper.wp_mono (fun a' w' ⟨st',β',h2,h3⟩=>kSf hA hty hC hQ l h3 h2) h1)
  ·rename_i hwt;rw[if_neg hwt]at h1;obtain⟨st',β',h2,h3⟩:=h1;exact kSf hA hty hC hQ l h3 h2
end
section
variable {c:Cx}{N:Nat}{X0:Nat→Prop}{M:Nat→BV→Prop}{w0:World}{st:St}{K:Exit→St→Prop}
end
end
section
def chainOf (x:Value):List PanicEntry:=[{ v:=x,recovered:=false }]
def EX:Option Value→Ending→Value→Prop
 |none,e,v=>e=.returned v
 |some x,e,_=>e=.panicked (chainOf x)
structure Ctx where
 ctr:Ctr
 pan:List SV→List (Nat×Ob)→Option Value
structure POk (P:Program) (C2:List (FuncId×Ctx)):Prop where
 call:∀f c,lk f C2=some c→kMd P f
 holds:∀f c,lk f C2=some c→∀d args obs,(c.ctr.wri d args obs).1→kV3 (EX (c.pan args obs)) P f args obs (c.ctr.wri d args obs).2.1 (c.ctr.wri d args obs).2.2.1 (c.ctr.wri d args obs).2.2.2
@[go_sem] def qNm (st:St) (A:List SV) (is:List Nat):List Nat:=is.flatMap fun i=>match kJp A i with
 | .ptr id _ _ _=>id::st.kFg id
 | .own id=>[id]
 | _=>[]
@[go_sem] def qK5 (st:St) (A:List SV) (is:List Nat):List Nat:=is.flatMap fun i=>match kJp A i with
 | .ptr id _ _ _=>st.kE5 id++(st.kFg id).flatMap st.kE5
 | _=>[]
@[go_sem] def llX (st:St) (A:List SV) (ctr:Ctr):List Nat:=qNm st A ctr.kBq
@[go_sem] def lmX (st:St) (A:List SV) (ctr:Ctr):List Nat:=qK5 st A ctr.kBq++kEa st A ctr.move
@[go_sem] def ctrs (C2:List (FuncId×Ctx)):List (FuncId×Ctr):=C2.map fun p=>(p.1,p.2.ctr)
@[go_sem] def St.isX (C2:List (FuncId×Ctx)) (o:Oper) (st:St):Bool :=
 match o.op with
 | .call c=>match c.callee with
  | .value x=>match st.ev x with
   | .fn f _=>(lk f C2).isSome
   | _=>false
  | _=>false
 | _=>false
@[go_sem] def St.k67 (C2:List (FuncId×Ctx)) (o:Oper) (st:St):Option Value :=
 match o.op with
 | .call c=>match c.callee with
  | .value x=>match st.ev x with
   | .fn f caps=>match lk f C2 with
    |some cp=>cp.pan (kCl st.hp (pairs 1000000 (llX st (st.kAi c caps) cp.ctr)++pairs 900000 (lmX st (st.kAi c caps) cp.ctr)) (cp.ctr.kBq++cp.ctr.move) 0 (st.kAi c caps)) (kEn st.hp (pairs 1000000 (llX st (st.kAi c caps) cp.ctr)++pairs 900000 (lmX st (st.kAi c caps) cp.ctr)))
    |none=>none
   | _=>none
  | _=>none
 | _=>none
@[go_sem] def St.qEb (dd:Nat) (C2:List (FuncId×Ctx)) (o:Oper) (st:St) (K:St→Prop) (Kp:Value→St→Prop):Prop :=
 match st.k67 C2 o with
 |none=>st.k1j llX lmX dd (ctrs C2) o K
 |some x=>st.k1j llX lmX dd (ctrs C2) { o with dst:=none } (Kp x)
theorem k4a {C2:List (FuncId×Ctx)}{f:FuncId}{c:Ctr}:lk f (ctrs C2)=some c→∃cp,lk f C2=some cp∧cp.ctr=c:=by
 induction C2 with
 |nil=>intro h;cases h
 |cons p l ih =>
  obtain⟨g,cp⟩:=p;intro h;simp only[ctrs,jHi,lk]at h⊢;by_cases hf:f=g
  ·rw[if_pos hf]at h⊢;exact⟨cp,rfl,by simpa using h⟩
  ·rw[if_neg hf]at h⊢;exact ih h
section
variable {P:Program}{tys:List (Nat×TyD)}{N:Nat}{X0:Nat→Prop}{M:Nat→BV→Prop}{w0:World}{st:St}{β:Nat→BV}{a:Act}{w:World}
theorem qBd {C2:List (FuncId×Ctx)}(hC:POk P C2) (hA:Ap P X0 M w0) (h:Sim N X0 M w0 st β a w) {o:Oper}(hN:∀d,o.dst=some d→d<N) {K:St→Prop}{Kp:Value→St→Prop}{dd:Nat}(hw:st.qEb dd C2 o K Kp)
  {Q:Exit→Act→World→Prop}(hQ:∀x a w,Ok N X0 M w0 (Kp x) a w→Q (.panic (chainOf x)) a w):o.wp P a w (Ok N X0 M w0 K) Q:=by
 unfold St.qEb at hw;have hcall:∀f c,lk f (ctrs C2)=some c→kMd P f:=fun f c hc=>by obtain⟨cp,h1,_⟩:=k4a hc;exact hC.call f cp h1
 cases hp:st.k67 C2 o with
 |none =>
  rw[hp]at hw
  obtain⟨f,us,hrun,kM2⟩:=kWa (E:=EX none) hcall hA h hN hw (fun c x f caps ctr h1 h2 h3 h4 hc=>by
   obtain⟨cp,g1,rfl⟩:=k4a h4;have:=hC.holds f cp g1 dd _ _ hc;unfold St.k67 at hp;simp only[h1,h2,h3,g1]at hp;rw[hp]at this;exact this)
  unfold Oper.wp;rw[hrun,Oper.upon_enter]
  exact kM2.mono fun e w' ⟨v,hE,hok⟩=>by
   have hE:e=.returned v:=hE
   subst hE;exact hok
 |some x =>
  rw[hp]at hw
  obtain⟨f,us,hrun,kM2⟩:=kWa (o:={ o with dst:=none }) (E:=EX (some x)) hcall hA h (fun d hd=>by cases hd) hw (fun c x' f caps ctr h1 h2 h3 h4 hc=>by
   obtain⟨cp,g1,rfl⟩:=k4a h4;have:=hC.holds f cp g1 dd _ _ hc;unfold St.k67 at hp;have h1':o.op=.call c:=h1;simp only[h1',h2,h3,g1]at hp;rw[hp]at this;exact this)
  have hrun':(execOp a.eval o).run P w=.ok (.enter f us) w:=hrun;unfold Oper.wp;rw[hrun',Oper.upon_enter]
  exact kM2.mono fun e w' ⟨v,hE,hok⟩=>by
   have hE:e=.panicked (chainOf x):=hE;subst hE;exact hQ x a w' hok
end
end
end Go.Vc
