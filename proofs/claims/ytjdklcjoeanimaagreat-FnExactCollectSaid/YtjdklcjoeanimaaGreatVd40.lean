/-
  DERIVED. Several texts of ours in one: VtColL.
-/
import Derived.Test.YtjdklcjoeanimaaGreatVd11
import Derived.Test.YtjdklcjoeanimaaGreatVd31
import Derived.Test.YtjdklcjoeanimaaGreatVd32
import Derived.Test.YtjdklcjoeanimaaGreatVd35
import Derived.Test.YtjdklcjoeanimaaGreatVd36
import Derived.Test.YtjdklcjoeanimaaGreatVd37
import Derived.Test.YtjdklcjoeanimaaGreatVd39
set_option linter.unusedSimpArgs false
set_option linter.unusedVariables false
set_option maxHeartbeats 1000000
set_option maxRecDepth 10000
namespace Go.Proofs.YtjdklcjoeanimaaGreat
open Go.Vc
attribute [local irreducible] Go.Vc.WP
attribute [local go_sem] kAd kAe
def kHs:List Go.Vc.Fp:=[⟨[4],[],[],[10,11,39,41,43,45,1039,1041,1043,1045,2039,2041,2045,3039,3041,3045,4041,4045,5045,6045],[],[]⟩,⟨[38],[0],[],[10,11,41,43,45,1041,1043,1045,2041,2045,3041,3045,4041,4045,5045,6045],[],[39,1039,2039,3039]⟩,⟨[5],[],[],[10,11,39,41,43,45,1039,1041,1043,1045,2039,2041,2045,3039,3041,3045,4041,4045,5045,6045],[],[]⟩,⟨[40],[0,1,2],[],[10,11,43,45,1043,1045,2045,3045,4045,5045,6045],[],[41,1041,2041,3041,4041]⟩,⟨[6],[],[],[10,11,39,41,43,45,1039,1041,1043,1045,2039,2041,2045,3039,3041,3045,4041,4045,5045,6045],[],[]⟩,⟨[42],[0,1,2,3,4],[],[10,11,45,1045,2045,3045,4045,5045,6045],[],[43,1043]⟩,⟨[3],[],[],[10,11,39,41,43,45,1039,1041,1043,1045,2039,2041,2045,3039,3041,3045,4041,4045,5045,6045],[],[]⟩,⟨[39,41,43,44],[0,1,2,3,4,5,6],[],[10,11],[],[45,1045,2045,3045,4045,5045,6045]⟩,⟨[45],[0,1,2,3,4,5,6,7],[],[10,11],[],[]⟩,⟨[37],[0,1,2,3,4,5,6,7,8],[],[10,11],[],[]⟩,⟨[37],[0,1,2,3,4,5,6,7,8],[],[10,11],[],[]⟩,⟨[],[],[],[11,39,41,43,45,1039,1041,1043,1045,2039,2041,2045,3039,3041,3045,4041,4045,5045,6045],[],[10]⟩,⟨[],[],[],[10,39,41,43,45,1039,1041,1043,1045,2039,2041,2045,3039,3041,3045,4041,4045,5045,6045],[],[11]⟩,⟨[],[0,1,2,3,4,5,6,7,8,9,10,11,12],[],[],[],[]⟩,⟨[],[0,1,2,3,4,5,6,7,8,9,10,11,12,13],[],[],[],[]⟩]
def kHt:List Go.Vc.Fp:=[⟨[12],[],[],[74,1074,2074,3074],[],[]⟩,⟨[4],[],[],[74,1074,2074,3074],[],[]⟩,⟨[73],[1],[],[],[],[74,1074,2074,3074]⟩,⟨[],[0,1,2],[],[],[],[]⟩,⟨[],[0,1,2,3],[],[],[],[]⟩]
def kHu:List Go.Vc.Fp:=[⟨[13],[],[],[79,1079,2079,3079,4079],[],[]⟩,⟨[5],[],[],[79,1079,2079,3079,4079],[],[]⟩,⟨[78],[1],[],[],[],[79,1079,2079,3079,4079]⟩,⟨[],[0,1,2],[],[],[],[]⟩,⟨[],[0,1,2,3],[],[],[],[]⟩]
def kHv:List Go.Vc.Fp:=[⟨[14],[],[],[84,1084],[],[]⟩,⟨[6],[],[],[84,1084],[],[]⟩,⟨[83],[1],[],[],[],[84,1084]⟩,⟨[],[0,1,2],[],[],[],[]⟩,⟨[],[0,1,2,3],[],[],[],[]⟩]
def kHw:List Go.Vc.Fp:=[⟨[4],[],[],[20,21,131,133,135,137,1131,1133,1135,1137,2131,2133,2137,3131,3133,3137,4133,4137,5137,6137],[],[]⟩,⟨[130],[0],[],[20,21,133,135,137,1133,1135,1137,2133,2137,3133,3137,4133,4137,5137,6137],[],[131,1131,2131,3131]⟩,⟨[5],[],[],[20,21,131,133,135,137,1131,1133,1135,1137,2131,2133,2137,3131,3133,3137,4133,4137,5137,6137],[],[]⟩,⟨[132],[0,1,2],[],[20,21,135,137,1135,1137,2137,3137,4137,5137,6137],[],[133,1133,2133,3133,4133]⟩,⟨[6],[],[],[20,21,131,133,135,137,1131,1133,1135,1137,2131,2133,2137,3131,3133,3137,4133,4137,5137,6137],[],[]⟩,⟨[134],[0,1,2,3,4],[],[20,21,137,1137,2137,3137,4137,5137,6137],[],[135,1135]⟩,⟨[3],[],[],[20,21,131,133,135,137,1131,1133,1135,1137,2131,2133,2137,3131,3133,3137,4133,4137,5137,6137],[],[]⟩,⟨[131,133,135,136],[0,1,2,3,4,5,6],[],[20,21],[],[137,1137,2137,3137,4137,5137,6137]⟩,⟨[137],[0,1,2,3,4,5,6,7],[],[20,21],[],[]⟩,⟨[129],[0,1,2,3,4,5,6,7,8],[],[20,21],[],[]⟩,⟨[129],[0,1,2,3,4,5,6,7,8],[],[20,21],[],[]⟩,⟨[],[],[],[21,131,133,135,137,1131,1133,1135,1137,2131,2133,2137,3131,3133,3137,4133,4137,5137,6137],[],[20]⟩,⟨[],[],[],[20,131,133,135,137,1131,1133,1135,1137,2131,2133,2137,3131,3133,3137,4133,4137,5137,6137],[],[21]⟩,⟨[],[0,1,2,3,4,5,6,7,8,9,10,11,12],[],[],[],[]⟩,⟨[],[0,1,2,3,4,5,6,7,8,9,10,11,12,13],[],[],[],[]⟩]
attribute [local go_sem] kHs kHt kHu kHv kHw
open Go.Pl
attribute [local go_sem] kAf kAg spA kBe kBc kBq kCn pcA rgA seA kAj tmA kFa kA4 kBu kDd agA aggAg kCg kCd kBt stkA kCv kCw prA repA encRep kX2 kX3 kOo kKe
attribute [local go_sem] St.ado St.kMh St.kMi rp isNil St.fzS addL behind St.runO St.kIm St.fzAt
section
attribute [local go_sem] aggSe aggPc aggTm kNo obS2 pcI seI k0f obRp rpI
attribute [local irreducible] bigSe bigAg wfM shPc shSe kPy eSe mkSe ePc mkPc kGy kV6 kDx kFj shAg eAg eRp shRp kP4 wfR eSp mkSp shSp
noncomputable def k9j:CL:=[(5,k9d),(6,k0g),(7,kV8),(9,k2t),(10,k3b),(11,kV9),(8,kCol),(12,kCol),(15,kqAg),(13,kqSe),(14,kX5),(16,kXz),(17,kX6),(18,kX7),(19,kX8),(20,kX9)]
noncomputable def cxLc:=mkX k9j (COk.cons cszAg (COk.cons cszSe (COk.cons cszRep (COk.cons ctoAgD (COk.cons ctoSeD (COk.cons ctoRep (COk.cons cColS (COk.cons cColI (COk.cons cqAg (COk.cons cqSe (COk.cons qL3 (COk.cons qLj (COk.cons qL4 (COk.cons qL5 (COk.cons qL6 (COk.cons qL7 (COk.nil _)))))))))))))))))
theorem cxLc_t:cxLc.tys=tys:=rfl
theorem cxLc_c:cxLc.C=k9j:=rfl
attribute [local go_sem] cxLc_t cxLc_c k9j k9d k0g kV8 k2t k3b kV9 kCol kqAg kqSe kX5 kXz kX6 kX7 kX8 kX9
set_option maxHeartbeats 16000000 in
theorem lawCollect (a:AgX) (s:SeX) (r:Rep) (st:Bool) (hab:bigAg a) (hsb:bigSe s) (hrb:wfM (r.N,r.C)):Holds Tryz.prog 3 [.agg (aggAg a),.agg (aggSe s),.agg (encRep r),.v (.bool st)] (.v (.bool true)) []:=by
 have f1:=k6w a 1048576 (by omega)
 have f2:=k6x s (kIp a 1048576);have keyA:=@k2h a;have keyS:=@kY8 s (kIp a 1048576);have keyR:=@k2i (r.N,r.C) (kLu s (kIp a 1048576));have keyC:=@qKu a s r st;generalize hz1:kIp a 1048576=z1 at f1 f2 keyA keyS keyR keyC;generalize hz2:kLu s z1=z2 at f2 keyS keyR keyC;generalize hz3:kIq (r.N,r.C) z2=z3 at keyR keyC;have keyG:ColP (a,s,r,st)→shSe s→r.N.length≤1048576→r.C.length≤1048576→shSe (collect a s r st).1∧shRp (collect a s r st).2:=fun h1 h2 h3 h4=>k8t h1 h2 h3 h4
 generalize hn1:eAg 1 a=n1 at keyA;have keyN:=fun h=>@k6y s h n1
 generalize hn2:eSe n1 s=n2 at keyN;have keyQ:=fun h=>@qEs r h n2
 generalize hn3:eRp n2 r=n3 at keyQ;generalize hG:collect a s r st=G at keyG;obtain⟨⟨I,B,E⟩,D⟩:=a;obtain⟨⟨⟨SI,SB,SE⟩,T,tu,le,sl⟩,⟨p,q,l,stt⟩,⟨cp,R,wr,lo⟩,mo,sp,fi⟩:=s;obtain⟨N,C,kp,sk⟩:=r;obtain⟨⟨⟨⟨GI,GB,GE⟩,GT,gtu,gle,gsl⟩,⟨gp,gq,gl,gst⟩,⟨gcp,GR,gwr,glo⟩,gmo,gsp,gfi⟩,⟨GN,GC,gk,gs⟩⟩:=G;have mI:=qE5 1 (((GI,GB,GE),GT,gtu,gle,gsl),⟨gp,gq,gl,gst⟩,(gcp,GR,gwr,glo),gmo,gsp,gfi);have mE:=eSe_mk 1 (((GI,GB,GE),GT,gtu,gle,gsl),⟨gp,gq,gl,gst⟩,(gcp,GR,gwr,glo),gmo,gsp,gfi);have mS:=fun h=>@qL8 (((GI,GB,GE),GT,gtu,gle,gsl),⟨gp,gq,gl,gst⟩,(gcp,GR,gwr,glo),gmo,gsp,gfi) h 1
 have mL:=fun h=>@k6y (((GI,GB,GE),GT,gtu,gle,gsl),⟨gp,gq,gl,gst⟩,(gcp,GR,gwr,glo),gmo,gsp,gfi) h 1
 have k3c:mkSe 1 (((GI,GB,GE),GT,gtu,gle,gsl),⟨gp,gq,gl,gst⟩,(gcp,GR,gwr,glo),gmo,gsp,gfi)=((((mkSe 1 (((GI,GB,GE),GT,gtu,gle,gsl),⟨gp,gq,gl,gst⟩,(gcp,GR,gwr,glo),gmo,gsp,gfi)).1.1.1,(mkSe 1 (((GI,GB,GE),GT,gtu,gle,gsl),⟨gp,gq,gl,gst⟩,(gcp,GR,gwr,glo),gmo,gsp,gfi)).1.1.2.1,(mkSe 1 (((GI,GB,GE),GT,gtu,gle,gsl),⟨gp,gq,gl,gst⟩,(gcp,GR,gwr,glo),gmo,gsp,gfi)).1.1.2.2),(mkSe 1 (((GI,GB,GE),GT,gtu,gle,gsl),⟨gp,gq,gl,gst⟩,(gcp,GR,gwr,glo),gmo,gsp,gfi)).1.2.1,gtu,gle,gsl),⟨gp,gq,gl,gst⟩,(gcp,(mkSe 1 (((GI,GB,GE),GT,gtu,gle,gsl),⟨gp,gq,gl,gst⟩,(gcp,GR,gwr,glo),gmo,gsp,gfi)).2.2.1.2.1,gwr,glo),gmo,gsp,gfi):=by unfold mkSe mkPc mkRg;rfl
 generalize hH:mkSe 1 (((GI,GB,GE),GT,gtu,gle,gsl),⟨gp,gq,gl,gst⟩,(gcp,GR,gwr,glo),gmo,gsp,gfi)=H at mI mE mS k3c;obtain⟨⟨⟨HI,HB,HE⟩,HT,htu,hle,hsl⟩,⟨hp,hq,hl,hst⟩,⟨hcp,HR,hwr,hlo⟩,hmo,hsp,hfi⟩:=H;simp only[Prod.mk.injEq,Tm.mk.injEq,true_and,and_true]at k3c;obtain⟨⟨h1,h2,h3⟩,⟨h4,h5',h6,h7⟩,⟨h8,h9,h10⟩,h11,h12,h13⟩:=k3c;subst h1 h2 h3 h4 h5' h6 h7 h8 h9 h10 h11 h12 h13;generalize hM:eSe 1 (((GI,GB,GE),GT,htu,hle,hsl),⟨hp,hq,hl,hst⟩,(hcp,GR,hwr,hlo),hmo,hsp,hfi)=m at mE mL;have rI:=qE6 m ⟨GN,GC,gk,gs⟩;have rE:=eRp_mk m ⟨GN,GC,gk,gs⟩;have rS:=fun h=>@qL9 ⟨GN,GC,gk,gs⟩ h m
 have rL:=fun h=>@qEs ⟨GN,GC,gk,gs⟩ h m
 have k3d:mkRp m ⟨GN,GC,gk,gs⟩=⟨(mkRp m ⟨GN,GC,gk,gs⟩).N,(mkRp m ⟨GN,GC,gk,gs⟩).C,gk,gs⟩:=rfl;generalize hQ:mkRp m ⟨GN,GC,gk,gs⟩=Q at rI rE rS k3d;obtain⟨QN,QC,qk,qs⟩:=Q;simp only[Rep.mk.injEq,true_and]at k3d;obtain⟨r1,r2⟩:=k3d;subst r1 r2;generalize hM2:eRp m ⟨GN,GC,qk,qs⟩=m2 at rE rL;simp only[aggSe,aggAg,encRep]at *;refine Holds.go (c:=cxLc) Tryz.func3 rfl Tryz.results3 Tryz.ntmps3 (by omega) (by simp) rfl ?_
 intro X0 w0;by_cases h5:z1<0
 ·(repeat' (first|apply zS|apply zB|((first|apply zW| refine WP.kNf 13 10 [] 13 kHs [10,11,37,38,39,40,41,42,43,44,45,46,47] [10,11,39,41,43,45,1039,1041,1043,1045,2039,2041,2045,3039,3041,3045,4041,4045,5045,6045] [] (by decide +kernel) (by decide +kernel) (by kernel_rfl) (by kernel_rfl) (by kernel_rfl) ?_|refine zF 3 kHt [72,73,74] [74,1074,2074,3074] [] (by decide +kernel) (by kernel_rfl) (by kernel_rfl) (by kernel_rfl) ?_|refine zF 3 kHu [77,78,79] [79,1079,2079,3079,4079] [] (by decide +kernel) (by kernel_rfl) (by kernel_rfl) (by kernel_rfl) ?_|refine zF 3 kHv [82,83,84] [84,1084] [] (by decide +kernel) (by kernel_rfl) (by kernel_rfl) (by kernel_rfl) ?_|refine WP.kNf 13 10 [] 13 kHw [20,21,129,130,131,132,133,134,135,136,137,138,139] [20,21,131,133,135,137,1131,1133,1135,1137,2131,2133,2137,3131,3133,3137,4133,4137,5137,6137] [] (by decide +kernel) (by decide +kernel) (by kernel_rfl) (by kernel_rfl) (by kernel_rfl) ?_);simp only[go_sem,hz1,h5])|apply And.intro|intro _))
  all_goals first|omega|exact hab|skip
 obtain⟨⟨a1,a2,a3⟩,a4,a5⟩:=keyA (by omega)
 have f2:=f2 (by omega)
 by_cases h6:z2<0
 ·(repeat' (first|apply zS|apply zB|((first|apply zW| refine WP.kNf 13 10 [] 13 kHs [10,11,37,38,39,40,41,42,43,44,45,46,47] [10,11,39,41,43,45,1039,1041,1043,1045,2039,2041,2045,3039,3041,3045,4041,4045,5045,6045] [] (by decide +kernel) (by decide +kernel) (by kernel_rfl) (by kernel_rfl) (by kernel_rfl) ?_|refine zF 3 kHt [72,73,74] [74,1074,2074,3074] [] (by decide +kernel) (by kernel_rfl) (by kernel_rfl) (by kernel_rfl) ?_|refine zF 3 kHu [77,78,79] [79,1079,2079,3079,4079] [] (by decide +kernel) (by kernel_rfl) (by kernel_rfl) (by kernel_rfl) ?_|refine zF 3 kHv [82,83,84] [84,1084] [] (by decide +kernel) (by kernel_rfl) (by kernel_rfl) (by kernel_rfl) ?_|refine WP.kNf 13 10 [] 13 kHw [20,21,129,130,131,132,133,134,135,136,137,138,139] [20,21,131,133,135,137,1131,1133,1135,1137,2131,2133,2137,3131,3133,3137,4133,4137,5137,6137] [] (by decide +kernel) (by decide +kernel) (by kernel_rfl) (by kernel_rfl) (by kernel_rfl) ?_);simp only[go_sem,hz1,h5,hz2,h6])|apply And.intro|intro _))
  all_goals first|omega|exact hab|exact hsb|skip
 obtain⟨s1,s2⟩:=keyS (by omega) (by omega) (by omega)
 by_cases h7:z3<0
 ·(repeat' (first|apply zS|apply zB|((first|apply zW| refine WP.kNf 13 10 [] 13 kHs [10,11,37,38,39,40,41,42,43,44,45,46,47] [10,11,39,41,43,45,1039,1041,1043,1045,2039,2041,2045,3039,3041,3045,4041,4045,5045,6045] [] (by decide +kernel) (by decide +kernel) (by kernel_rfl) (by kernel_rfl) (by kernel_rfl) ?_|refine zF 3 kHt [72,73,74] [74,1074,2074,3074] [] (by decide +kernel) (by kernel_rfl) (by kernel_rfl) (by kernel_rfl) ?_|refine zF 3 kHu [77,78,79] [79,1079,2079,3079,4079] [] (by decide +kernel) (by kernel_rfl) (by kernel_rfl) (by kernel_rfl) ?_|refine zF 3 kHv [82,83,84] [84,1084] [] (by decide +kernel) (by kernel_rfl) (by kernel_rfl) (by kernel_rfl) ?_|refine WP.kNf 13 10 [] 13 kHw [20,21,129,130,131,132,133,134,135,136,137,138,139] [20,21,131,133,135,137,1131,1133,1135,1137,2131,2133,2137,3131,3133,3137,4133,4137,5137,6137] [] (by decide +kernel) (by decide +kernel) (by kernel_rfl) (by kernel_rfl) (by kernel_rfl) ?_);simp only[go_sem,hz1,h5,hz2,h6,hz3,h7])|apply And.intro|intro _))
  all_goals first|omega|exact hab|exact hsb|exact hrb|skip
 obtain⟨⟨r1,r2⟩,r3⟩:=keyR (by omega) h7
 have hcp:=keyC (by omega) (by omega) (by omega)
 obtain⟨g1,g2⟩:=keyG hcp s2 r1 r3;have k4:=mS g1;have k5:=mL g1;have k6:=rS g2;have k7:=rL g2;have hshr:shRp ⟨N,C,kp,sk⟩:=by unfold shRp;simp only at r1 r3⊢;omega
 have hn:=keyN s2;have hq:=keyQ hshr;have hg2:=g2;unfold shRp at hg2;simp only at r1 r3 hg2
 (repeat' (first|apply zS|apply zB|((first|apply zW| refine WP.kNf 13 10 [] 13 kHs [10,11,37,38,39,40,41,42,43,44,45,46,47] [10,11,39,41,43,45,1039,1041,1043,1045,2039,2041,2045,3039,3041,3045,4041,4045,5045,6045] [] (by decide +kernel) (by decide +kernel) (by kernel_rfl) (by kernel_rfl) (by kernel_rfl) ?_|refine zF 3 kHt [72,73,74] [74,1074,2074,3074] [] (by decide +kernel) (by kernel_rfl) (by kernel_rfl) (by kernel_rfl) ?_|refine zF 3 kHu [77,78,79] [79,1079,2079,3079,4079] [] (by decide +kernel) (by kernel_rfl) (by kernel_rfl) (by kernel_rfl) ?_|refine zF 3 kHv [82,83,84] [84,1084] [] (by decide +kernel) (by kernel_rfl) (by kernel_rfl) (by kernel_rfl) ?_|refine WP.kNf 13 10 [] 13 kHw [20,21,129,130,131,132,133,134,135,136,137,138,139] [20,21,131,133,135,137,1131,1133,1135,1137,2131,2133,2137,3131,3133,3137,4133,4137,5137,6137] [] (by decide +kernel) (by decide +kernel) (by kernel_rfl) (by kernel_rfl) (by kernel_rfl) ?_);simp(maxSteps:=4000000) only[go_sem,hz1,h5,hz2,h6,hz3,h7,hG,hH,hM,hQ,hM2,hn1,hn2,hn3,mE,rE])|apply And.intro|intro _))
 all_goals first|omega|exact hab|exact hsb|exact hrb|exact hcp|exact a1|exact a3|exact s1|exact s2|exact g1|exact g2|exact k4|exact k6|exact mI|exact rI|exact hshr|exact⟨_,_,rfl,_,_,rfl,rfl⟩|skip
end
end Go.Proofs.YtjdklcjoeanimaaGreat

