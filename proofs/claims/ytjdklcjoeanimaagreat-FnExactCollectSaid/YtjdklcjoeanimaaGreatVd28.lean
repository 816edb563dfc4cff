/-
  DERIVED. Several texts of ours in one: VtSeZ2, VtSeT, VtSeT2.
-/
import Derived.Test.YtjdklcjoeanimaaGreatVd12
import Derived.Test.YtjdklcjoeanimaaGreatVd27
set_option linter.unusedSimpArgs false
set_option linter.unusedVariables false
set_option maxHeartbeats 1000000
set_option maxRecDepth 10000
namespace Go.Proofs.YtjdklcjoeanimaaGreat
open Go.Vc
attribute [local irreducible] Go.Vc.WP
attribute [local go_sem] kAd kAe
open Go.Pl
attribute [local go_sem] kAf kAg spA kBe kBc kBq kCn pcA rgA seA kAj
attribute [local irreducible] bigImg
def kEk (L:List Image):Int→Int:=kCo (L.map kJ0)
theorem kNz (L:List Image):Szf (kEk L):=kP2 _ (by simp only[List.mem_map];rintro _ ⟨x,_,rfl⟩;exact kU0 x)
def kS7:Ctr:=pur (fun args=>(kDl (aR args 0),aI args 1)) (fun x=>[.sl 2 (x.1.map encImage),.v (.int .i64 x.2)]) (fun x=>x.1.length≤maxLen∧(∀s∈x.1,bigImg s)∧0≤x.2∧x.2≤1048576)
 (fun _ x=>.v (.int .i64 (kEk x.1 x.2))) (fun _ _=>[])
section
attribute [local go_sem] kBl
noncomputable def qBv:=mkX [(142,kWy)] (COk.cons cszImg (COk.nil _))
theorem qRa:qBv.tys=tys:=rfl
theorem qRb:qBv.C=[(142,kWy)]:=rfl
attribute [local go_sem] qRa qRb kWy
theorem qRc:Cn Tryz.prog 70 kS7:=by
 refine Cn.pur Tryz.func70 (by kernel_rfl) rfl fun d x hx=>?_
 obtain⟨L,left⟩:=x;obtain⟨hL,hs,h0,h1⟩:=hx;simp only at hL hs h0 h1⊢;have hm:maxLen=9223372036854775807:=rfl;generalize hF:(L.map kJ0)=F;have hlen:F.length=L.length:=by rw[←hF,List.length_map]
 have hsz:kEk L left=kCo F left:=by rw[←hF];rfl
 rw[hsz];refine Holds.go (c:=qBv) Tryz.func70 rfl Tryz.results70 Tryz.ntmps70 (by omega) (by simp) rfl ?_
 intro X0 w0
 (repeat' (first|apply zS|apply zB|(apply zW;simp only[go_sem])|apply And.intro|intro _))
 all_goals first|omega|skip
 ·rename_i h;rw[kCo,hlen,if_pos h]
 rename_i hge
 refine zL (fun s:Nat×Int=>⟨[(0,.sl 2 (L.map encImage)),(1,.v (.int .i64 s.2)),(5,.v (.int .i64 s.1))],[]⟩)
  (fun s=>s.1≤L.length∧0≤s.2∧s.2≤1048576∧kCo F left=szL (F.drop s.1) s.2) (fun s=>L.length-s.1) (0,left-L.length)
  ⟨by simp,by simpa using hge,by simp only;omega,by rw[kCo,hlen,if_neg (by omega)];rfl⟩ ?_ ?_
 ·simp only[go_sem];first|exact⟨rfl,rfl⟩|rfl
 rintro⟨k,r⟩ ⟨hk,hr0,hr1,he⟩;simp only at hk hr0 hr1 he⊢;by_cases hlt:k<L.length
 ·have h2:=kAa encImage L k hlt;have h3:=hs _ (List.getElem_mem hlt);have hFk:F[k]'(by omega)=kJ0 L[k]:=by subst hF;simp
  have h4:=kP1 F k r (by omega)
  rw[hFk]at h4;have h6:=kU0 L[k] r hr0;by_cases h5:kJ0 L[k] r<0
  ·rw[he,h4,if_pos h5]
   (repeat' (first|apply zS|apply zB|(apply zW;simp only[go_sem,h2,encImage,h5])|apply And.intro|intro _))
   all_goals first|omega|exact h3|skip
  ·rw[if_neg h5]at h4
   (repeat' (first|apply zS|apply zB|(apply zW;simp only[go_sem,h2,encImage,h5])|apply And.intro|intro _))
   all_goals first|omega|exact h3|exact⟨(k+1,kJ0 L[k] r),⟨by simp only;omega,by simp only;omega,by simp only;omega,by rw[he,h4]⟩,by simp only;omega,rfl,rfl⟩|skip
 ·(repeat' (first|apply zS|apply zB|(apply zW;simp only[go_sem])|apply And.intro|intro _))
  all_goals first|omega|skip
  rw[he,List.drop_of_length_le (by omega)]
  rfl
end
def kJf (x:Mach):Int→Int:=szT (szA x.stack.length) (szA x.out.length)
theorem kR4 (x:Mach):Szf (kJf x):=kK5 (kEu _) (kEu _)
def bigMach (x:Mach):Prop:=x.stack.length≤maxLen∧x.out.length≤maxLen
def kS8:Ctr:=pur (fun args=>(kF3 (aC args 0),aI args 1)) (fun x=>[.agg [.v (.int .i64 x.1.pc),.v (.int .i64 x.1.sp),.v (.int .i64 x.1.fp),.sl 1 (x.1.stack.map encI),.sl 1 (x.1.out.map encI),.v (.int .i64 x.1.state),.v (.int .i64 x.1.value)],.v (.int .i64 x.2)]) (fun x=>bigMach x.1∧0≤x.2∧x.2≤1048576)
 (fun _ x=>.v (.int .i64 (kJf x.1 x.2))) (fun _ _=>[])
section
noncomputable def cxZa:=mkX [(71,kQk)] (COk.cons cszIn (COk.nil _))
theorem cxZa_t:cxZa.tys=tys:=rfl
theorem cxZa_c:cxZa.C=[(71,kQk)]:=rfl
attribute [local go_sem] cxZa_t cxZa_c kQk
theorem qRd:Cn Tryz.prog 147 kS8:=by
 refine Cn.pur Tryz.func147 (by kernel_rfl) rfl fun d x hx=>?_
 obtain⟨⟨a,b,c,s,o,d2,e2⟩,left⟩:=x;obtain⟨⟨hs,ho⟩,h0,h1⟩:=hx;simp only at hs ho h0 h1⊢;have hu:kJf ⟨a,b,c,s,o,d2,e2⟩ left=if szA s.length left<0 then -1 else szA o.length (szA s.length left):=rfl
 have ha:=kEu s.length left h0;rw[hu];refine Holds.go (c:=cxZa) Tryz.func147 rfl Tryz.results147 Tryz.ntmps147 (by omega) (by simp) rfl ?_
 intro X0 w0;by_cases h5:szA s.length left<0
 ·rw[if_pos h5]
  (repeat' (first|apply zS|apply zB|(apply zW;simp only[go_sem,h5])|apply And.intro|intro _))
  all_goals first|omega|skip
 ·rw[if_neg h5]
  (repeat' (first|apply zS|apply zB|(apply zW;simp only[go_sem,h5])|apply And.intro|intro _))
  all_goals first|omega|(rename_i h;rw[kI4 (kEu _) (by omega) h])|skip
end
attribute [local irreducible] bigMach
def kKv (L:List Mach):Int→Int:=kCo (L.map kJf)
theorem kWz (L:List Mach):Szf (kKv L):=kP2 _ (by simp only[List.mem_map];rintro _ ⟨x,_,rfl⟩;exact kR4 x)
def kQl:Ctr:=pur (fun args=>(kGq (aR args 0),aI args 1)) (fun x=>[.sl 7 (x.1.map encMach),.v (.int .i64 x.2)]) (fun x=>x.1.length≤maxLen∧(∀s∈x.1,bigMach s)∧0≤x.2∧x.2≤1048576)
 (fun _ x=>.v (.int .i64 (kKv x.1 x.2))) (fun _ _=>[])
section
attribute [local go_sem] kF3
noncomputable def qBw:=mkX [(147,kS8)] (COk.cons qRd (COk.nil _))
theorem qRe:qBw.tys=tys:=rfl
theorem qRf:qBw.C=[(147,kS8)]:=rfl
attribute [local go_sem] qRe qRf kS8
theorem qJu:Cn Tryz.prog 73 kQl:=by
 refine Cn.pur Tryz.func73 (by kernel_rfl) rfl fun d x hx=>?_
 obtain⟨L,left⟩:=x;obtain⟨hL,hs,h0,h1⟩:=hx;simp only at hL hs h0 h1⊢;have hm:maxLen=9223372036854775807:=rfl;generalize hF:(L.map kJf)=F;have hlen:F.length=L.length:=by rw[←hF,List.length_map]
 have hsz:kKv L left=kCo F left:=by rw[←hF];rfl
 rw[hsz];refine Holds.go (c:=qBw) Tryz.func73 rfl Tryz.results73 Tryz.ntmps73 (by omega) (by simp) rfl ?_
 intro X0 w0
 (repeat' (first|apply zS|apply zB|(apply zW;simp only[go_sem])|apply And.intro|intro _))
 all_goals first|omega|skip
 ·rename_i h;rw[kCo,hlen,if_pos h]
 rename_i hge
 refine zL (fun s:Nat×Int=>⟨[(0,.sl 7 (L.map encMach)),(1,.v (.int .i64 s.2)),(5,.v (.int .i64 s.1))],[]⟩)
  (fun s=>s.1≤L.length∧0≤s.2∧s.2≤1048576∧kCo F left=szL (F.drop s.1) s.2) (fun s=>L.length-s.1) (0,left-L.length)
  ⟨by simp,by simpa using hge,by simp only;omega,by rw[kCo,hlen,if_neg (by omega)];rfl⟩ ?_ ?_
 ·simp only[go_sem];first|exact⟨rfl,rfl⟩|rfl
 rintro⟨k,r⟩ ⟨hk,hr0,hr1,he⟩;simp only at hk hr0 hr1 he⊢;by_cases hlt:k<L.length
 ·have h2:=kAa encMach L k hlt;have h3:=hs _ (List.getElem_mem hlt);have hFk:F[k]'(by omega)=kJf L[k]:=by subst hF;simp
  have h4:=kP1 F k r (by omega)
  rw[hFk]at h4;have h6:=kR4 L[k] r hr0;by_cases h5:kJf L[k] r<0
  ·rw[he,h4,if_pos h5]
   (repeat' (first|apply zS|apply zB|(apply zW;simp only[go_sem,h2,encMach,h5])|apply And.intro|intro _))
   all_goals first|omega|exact h3|skip
  ·rw[if_neg h5]at h4
   (repeat' (first|apply zS|apply zB|(apply zW;simp only[go_sem,h2,encMach,h5])|apply And.intro|intro _))
   all_goals first|omega|exact h3|exact⟨(k+1,kJf L[k] r),⟨by simp only;omega,by simp only;omega,by simp only;omega,by rw[he,h4]⟩,by simp only;omega,rfl,rfl⟩|skip
 ·(repeat' (first|apply zS|apply zB|(apply zW;simp only[go_sem])|apply And.intro|intro _))
  all_goals first|omega|skip
  rw[he,List.drop_of_length_le (by omega)]
  rfl
end
abbrev SpX:=List Image×List Int×List Int
def kIo (x:SpX):Int→Int:=szT (kEk x.1) (szT (szA x.2.1.length) (szA x.2.2.length))
theorem kL7 (x:SpX):Szf (kIo x):=kK5 (kNz _) (kK5 (kEu _) (kEu _))
def bigSp (x:SpX):Prop:=(x.1.length≤maxLen∧∀s∈x.1,bigImg s)∧x.2.1.length≤maxLen∧x.2.2.length≤maxLen
def kP3:Ctr:=pur (fun args=>(spA args 0,aI args 1)) (fun x=>[.agg [.sl 2 (x.1.1.map encImage),.sl 1 (x.1.2.1.map encI),.sl 1 (x.1.2.2.map encI)],.v (.int .i64 x.2)]) (fun x=>bigSp x.1∧0≤x.2∧x.2≤1048576)
 (fun _ x=>.v (.int .i64 (kIo x.1 x.2))) (fun _ _=>[])
section
noncomputable def cxZp:=mkX [(71,kQk),(70,kS7)] (COk.cons cszIn (COk.cons qRc (COk.nil _)))
theorem cxZp_t:cxZp.tys=tys:=rfl
theorem cxZp_c:cxZp.C=[(71,kQk),(70,kS7)]:=rfl
attribute [local go_sem] cxZp_t cxZp_c kQk kS7
theorem cszSp:Cn Tryz.prog 23 kP3:=by
 refine Cn.pur Tryz.func23 (by kernel_rfl) rfl fun d x hx=>?_
 obtain⟨⟨I,B,E⟩,left⟩:=x;obtain⟨⟨⟨hI,hIm⟩,hB,hE⟩,h0,h1⟩:=hx;simp only at hI hIm hB hE h0 h1⊢;have hu:kIo (I,B,E) left=if kEk I left<0 then -1 else if szA B.length (kEk I left)<0 then -1 else szA E.length (szA B.length (kEk I left)):=rfl
 have ha:=kNz I left h0;rw[hu];refine Holds.go (c:=cxZp) Tryz.func23 rfl Tryz.results23 Tryz.ntmps23 (by omega) (by simp) rfl ?_
 intro X0 w0;by_cases h5:kEk I left<0
 ·rw[if_pos h5]
  (repeat' (first|apply zS|apply zB|(apply zW;simp only[go_sem,h5])|apply And.intro|intro _))
  all_goals first|omega|exact hIm _ ‹_›|skip
 ·rw[if_neg h5];have hb:=kEu B.length (kEk I left) (by omega)
  by_cases h6:szA B.length (kEk I left)<0
  ·rw[if_pos h6]
   (repeat' (first|apply zS|apply zB|(apply zW;simp only[go_sem,h5,h6])|apply And.intro|intro _))
   all_goals first|omega|exact hIm _ ‹_›|skip
  ·rw[if_neg h6]
   (repeat' (first|apply zS|apply zB|(apply zW;simp only[go_sem,h5,h6])|apply And.intro|intro _))
   all_goals first|omega|exact hIm _ ‹_›|(rename_i h;rw[kI4 (kEu _) (by omega) h])|skip
end
def kW0 (x:RgX):Int→Int:=kOt x.2.1
theorem k4x (L:List ByteArray):Szf (kOt L):=kP2 _ (by simp only[List.mem_map];rintro _ ⟨x,_,rfl⟩;exact kEu _)
def bigRg (x:RgX):Prop:=x.2.1.length≤maxLen∧∀s∈x.2.1,s.size≤maxLen
def k0o:Ctr:=pur (fun args=>(rgA args 0,aI args 1)) (fun x=>[.agg [.v (.int .i64 x.1.1),.sl 1 (x.1.2.1.map encS),.v (.int .i64 x.1.2.2.1),.v (.int .i64 x.1.2.2.2)],.v (.int .i64 x.2)]) (fun x=>bigRg x.1∧0≤x.2∧x.2≤1048576)
 (fun _ x=>.v (.int .i64 (kW0 x.1 x.2))) (fun _ _=>[])
section
noncomputable def cxZr:=mkX [(74,kRy)] (COk.cons cszStr (COk.nil _))
theorem cxZr_t:cxZr.tys=tys:=rfl
theorem cxZr_c:cxZr.C=[(74,kRy)]:=rfl
attribute [local go_sem] cxZr_t cxZr_c kRy
theorem cszRg:Cn Tryz.prog 26 k0o:=by
 refine Cn.pur Tryz.func26 (by kernel_rfl) rfl fun d x hx=>?_
 obtain⟨⟨cp,R,wr,lo⟩,left⟩:=x;obtain⟨⟨hR,hs⟩,h0,h1⟩:=hx;simp only at hR hs h0 h1⊢;have hu:kW0 (cp,R,wr,lo) left=kOt R left:=rfl;rw[hu];refine Holds.go (c:=cxZr) Tryz.func26 rfl Tryz.results26 Tryz.ntmps26 (by omega) (by simp) rfl ?_
 intro X0 w0
 (repeat' (first|apply zS|apply zB|(apply zW;simp only[go_sem])|apply And.intro|intro _))
 all_goals first|omega|exact hs _ ‹_›|(rename_i h;rw[kI4 (k4x _) (by omega) h])|skip
end
def kW1 (x:PcX):Int→Int:=szT (kIo x.1) (kKv x.2.1)
theorem kXs (x:PcX):Szf (kW1 x):=kK5 (kL7 _) (kWz _)
def bigPc (x:PcX):Prop:=bigSp x.1∧x.2.1.length≤maxLen∧∀s∈x.2.1,bigMach s
def k0p:Ctr:=pur (fun args=>(pcA args 0,aI args 1)) (fun x=>[.agg [.sl 2 (x.1.1.1.map encImage),.sl 1 (x.1.1.2.1.map encI),.sl 1 (x.1.1.2.2.map encI),.sl 7 (x.1.2.1.map encMach),.v (.int .i64 x.1.2.2.1),.v (.int .i64 x.1.2.2.2.1),.v (.int .i64 x.1.2.2.2.2)],.v (.int .i64 x.2)]) (fun x=>bigPc x.1∧0≤x.2∧x.2≤1048576)
 (fun _ x=>.v (.int .i64 (kW1 x.1 x.2))) (fun _ _=>[])
section
noncomputable def qBx:=mkX [(23,kP3),(73,kQl)] (COk.cons cszSp (COk.cons qJu (COk.nil _)))
theorem qRg:qBx.tys=tys:=rfl
theorem qRh:qBx.C=[(23,kP3),(73,kQl)]:=rfl
attribute [local go_sem] qRg qRh kP3 kQl
theorem cszPc:Cn Tryz.prog 25 k0p:=by
 refine Cn.pur Tryz.func25 (by kernel_rfl) rfl fun d x hx=>?_
 obtain⟨⟨⟨I,B,E⟩,T,tu,le,sl⟩,left⟩:=x;obtain⟨⟨hsp,hT,hTs⟩,h0,h1⟩:=hx;have hsp2:=hsp;obtain⟨⟨hI,hIm⟩,hB,hE⟩:=hsp2;simp only at hT hTs hI hIm hB hE h0 h1⊢;have hu:kW1 ((I,B,E),T,tu,le,sl) left=if kIo (I,B,E) left<0 then -1 else kKv T (kIo (I,B,E) left):=rfl
 have ha:=kL7 (I,B,E) left h0;rw[hu];refine Holds.go (c:=qBx) Tryz.func25 rfl Tryz.results25 Tryz.ntmps25 (by omega) (by simp) rfl ?_
 intro X0 w0;by_cases h5:kIo (I,B,E) left<0
 ·rw[if_pos h5]
  (repeat' (first|apply zS|apply zB|(apply zW;simp only[go_sem,h5])|apply And.intro|intro _))
  all_goals first|omega|exact hIm _ ‹_›|exact hTs _ ‹_›|exact hsp|skip
 ·rw[if_neg h5]
  (repeat' (first|apply zS|apply zB|(apply zW;simp only[go_sem,h5])|apply And.intro|intro _))
  all_goals first|omega|exact hIm _ ‹_›|exact hTs _ ‹_›|exact hsp|(rename_i h;rw[kI4 (kWz _) (by omega) h])|skip
end
def kLu (x:SeX):Int→Int:=szT (kW1 x.1) (kW0 x.2.2.1)
theorem k7g (x:RgX):Szf (kW0 x):=k4x _
theorem k6x (x:SeX):Szf (kLu x):=kK5 (kXs _) (k7g _)
def bigSe (x:SeX):Prop:=bigPc x.1∧bigRg x.2.2.1
def k0g:Ctr:=pur (fun args=>(seA args 0,aI args 1)) (fun x=>[.agg (aggSe x.1),.v (.int .i64 x.2)]) (fun x=>bigSe x.1∧0≤x.2∧x.2≤1048576)
 (fun _ x=>.v (.int .i64 (kLu x.1 x.2))) (fun _ _=>[])
section
attribute [local go_sem] aggSe
noncomputable def qBy:=mkX [(25,k0p),(26,k0o)] (COk.cons cszPc (COk.cons cszRg (COk.nil _)))
theorem qRi:qBy.tys=tys:=rfl
theorem qRj:qBy.C=[(25,k0p),(26,k0o)]:=rfl
attribute [local go_sem] qRi qRj k0p k0o
set_option maxHeartbeats 3000000 in
theorem cszSe:Cn Tryz.prog 6 k0g:=by
 refine Cn.pur Tryz.func6 (by kernel_rfl) rfl fun d x hx=>?_
 obtain⟨⟨⟨⟨I,B,E⟩,T,tu,le,sl⟩,⟨p,q,l,st⟩,⟨cp,R,wr,lo⟩,mo,sp,fi⟩,left⟩:=x;obtain⟨⟨hP,hR⟩,h0,h1⟩:=hx;simp only[aggSe]at hP hR h0 h1⊢;have hP2:=hP;have hR2:=hR;obtain⟨hR1,hRs⟩:=hR2;obtain⟨⟨⟨hI,hIm⟩,hB,hE⟩,hT,hTs⟩:=hP2;simp only at hI hIm hB hE hT hTs hR1 hRs;generalize hz:kW1 ((I,B,E),T,tu,le,sl) left=z;have hu:kLu (((I,B,E),T,tu,le,sl),⟨p,q,l,st⟩,(cp,R,wr,lo),mo,sp,fi) left=if z<0 then -1 else kW0 (cp,R,wr,lo) z:=by rw[←hz];rfl
 have ha:=kXs ((I,B,E),T,tu,le,sl) left h0;rw[hz]at ha;rw[hu];refine Holds.go (c:=qBy) Tryz.func6 rfl Tryz.results6 Tryz.ntmps6 (by omega) (by simp) rfl ?_
 intro X0 w0;by_cases h5:z<0
 ·rw[if_pos h5]
  (repeat' (first|apply zS|apply zB|(apply zW;simp only[go_sem,hz,h5])|apply And.intro|intro _))
  all_goals first|omega|exact hIm _ ‹_›|exact hTs _ ‹_›|exact hRs _ ‹_›|exact hP|exact hR|skip
 ·rw[if_neg h5]
  (repeat' (first|apply zS|apply zB|(apply zW;simp only[go_sem,hz,h5])|apply And.intro|intro _))
  all_goals first|omega|exact hIm _ ‹_›|exact hTs _ ‹_›|exact hRs _ ‹_›|exact hP|exact hR|(rename_i h;rw[kI4 (k7g _) (by omega) h])|skip
end
end Go.Proofs.YtjdklcjoeanimaaGreat

namespace Go.Proofs.YtjdklcjoeanimaaGreat
open Go.Vc
attribute [local irreducible] Go.Vc.WP
attribute [local go_sem] kAd kAe
open Go.Pl
attribute [local go_sem] kAf kAg spA kBe kBc kBq kCn pcA rgA seA kAj tmA kFa
section
attribute [local go_sem] kBl
end
def kIy:List SV:=[.v (.string ⟨#[]⟩),.v (.slice none 0 0)]
section
attribute [local go_sem] kBl
end
end Go.Proofs.YtjdklcjoeanimaaGreat

namespace Go.Proofs.YtjdklcjoeanimaaGreat
open Go.Vc
attribute [local irreducible] Go.Vc.WP
attribute [local go_sem] kAd kAe
open Go.Pl
attribute [local go_sem] kAf kAg spA kBe kBc kBq kCn pcA rgA seA kAj tmA kFa
section
end
def kKu:List SV:=[.v (.int .i64 0),.v (.int .i64 0),.v (.int .i64 0),.v (.slice none 0 0),.v (.slice none 0 0),.v (.int .i64 0),.v (.int .i64 0)]
def kB5 (x:Mach):Prop:=x.stack.length≤2097152∧x.out.length≤2097152
section
attribute [local go_sem] kF3
end
def shSp (x:SpX):Prop:=(x.1.length≤2097152∧∀i∈x.1,i.symbols.length≤2097152)∧x.2.1.length≤2097152∧x.2.2.length≤2097152
section
end
def shPc (x:PcX):Prop:=shSp x.1∧x.2.1.length≤1048576∧∀m∈x.2.1,kB5 m
def aggPc (x:PcX):List SV:=[.sl 2 (x.1.1.map encImage),.sl 1 (x.1.2.1.map encI),.sl 1 (x.1.2.2.map encI),.sl 7 (x.2.1.map encMach),.v (.int .i64 x.2.2.1),.v (.int .i64 x.2.2.2.1),.v (.int .i64 x.2.2.2.2)]
section
attribute [local go_sem] aggPc
attribute [local irreducible] kB5
end
def aggTm (x:Tm):List SV:=[.v (.int .i64 x.period),.v (.int .i64 x.spread),.v (.int .i64 x.left),.v (.int .i64 x.state)]
def kWv:Ctr:=pur (fun args=>tmA args 0) (fun x=>[.agg (aggTm x)]) (fun _=>True) (fun _ x=>.agg (aggTm x)) (fun _ _=>[])
section
attribute [local go_sem] aggTm
noncomputable def qBu:=mkX [] (COk.nil _)
theorem qQ8:qBu.tys=tys:=rfl
theorem qQ9:qBu.C=[]:=rfl
attribute [local go_sem] qQ8 qQ9
theorem ctoTm:Cn Tryz.prog 40 kWv:=by
 refine Cn.pur Tryz.func40 (by kernel_rfl) rfl fun d x hx=>?_
 obtain⟨p,q,l,st⟩:=x;simp only[aggTm];refine Holds.go (c:=qBu) Tryz.func40 rfl Tryz.results40 Tryz.ntmps40 (by omega) (by simp) rfl ?_
 intro X0 w0
 (repeat' (first|apply zS|apply zB|(apply zW;simp only[go_sem])|apply And.intro|intro _))
 all_goals first|omega|exact⟨_,_,_,_,rfl⟩|exact⟨_,_,rfl,_,_,rfl,rfl⟩|skip
end
def aggRg (x:RgX):List SV:=[.v (.int .i64 x.1),.sl 1 (x.2.1.map encS),.v (.int .i64 x.2.2.1),.v (.int .i64 x.2.2.2)]
section
attribute [local go_sem] aggRg
end
def shSe (x:SeX):Prop:=shPc x.1∧x.2.2.1.2.1.length≤2097152
section
attribute [local go_sem] aggSe aggPc aggTm aggRg
attribute [local irreducible] kB5
attribute [local go_sem] kWv
end
end Go.Proofs.YtjdklcjoeanimaaGreat

