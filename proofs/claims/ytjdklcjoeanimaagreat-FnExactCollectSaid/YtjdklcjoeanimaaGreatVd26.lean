/-
  DERIVED. Several texts of ours in one: VtDecS.
-/
import Derived.Test.YtjdklcjoeanimaaGreatVd11
import Derived.Test.YtjdklcjoeanimaaGreatVd25
set_option linter.unusedSimpArgs false
set_option linter.unusedVariables false
set_option maxHeartbeats 1000000
set_option maxRecDepth 10000
namespace Go.Proofs.YtjdklcjoeanimaaGreat
open Go.Vc
attribute [local irreducible] Go.Vc.WP
attribute [local go_sem] kAd kAe
def kCs:List Go.Vc.Fp:=[⟨[4],[],[42],[10,42,45],[],[]⟩,⟨[7],[],[42],[10,42,45],[],[]⟩,⟨[33],[1],[42],[10,42,45],[],[]⟩,⟨[34],[1,2],[42],[10,42,45],[],[]⟩,⟨[7],[],[42],[10,42,45],[],[]⟩,⟨[36],[4],[42],[10,42,45],[],[]⟩,⟨[37],[4,5],[42],[10,42,45],[],[]⟩,⟨[7],[],[42],[10,42,45],[],[]⟩,⟨[39],[7],[42],[10,42,45],[],[]⟩,⟨[40],[7,8],[42],[10,42,45],[],[]⟩,⟨[],[],[],[10,45],[],[42]⟩,⟨[7],[],[],[10,42,45],[],[]⟩,⟨[43],[11],[],[10,42,45],[],[]⟩,⟨[42,44],[10,11,12],[],[10],[42],[45]⟩,⟨[35,38,41,45],[1,2,3,4,5,6,7,8,9,10,11,12,13],[42],[10],[],[]⟩,⟨[32,46],[0,1,2,3,4,5,6,7,8,9,10,11,12,13,14],[42],[10],[],[]⟩,⟨[],[],[42],[42,45],[],[10]⟩,⟨[],[0,1,2,3,4,5,6,7,8,9,10,11,12,13,14,15,16],[],[],[],[]⟩]
def kBv:List Go.Vc.Fp:=[⟨[4],[],[54],[10,54,57],[],[]⟩,⟨[7],[],[54],[10,54,57],[],[]⟩,⟨[45],[1],[54],[10,54,57],[],[]⟩,⟨[46],[1,2],[54],[10,54,57],[],[]⟩,⟨[7],[],[54],[10,54,57],[],[]⟩,⟨[48],[4],[54],[10,54,57],[],[]⟩,⟨[49],[4,5],[54],[10,54,57],[],[]⟩,⟨[7],[],[54],[10,54,57],[],[]⟩,⟨[51],[7],[54],[10,54,57],[],[]⟩,⟨[52],[7,8],[54],[10,54,57],[],[]⟩,⟨[],[],[],[10,57],[],[54]⟩,⟨[7],[],[],[10,54,57],[],[]⟩,⟨[55],[11],[],[10,54,57],[],[]⟩,⟨[54,56],[10,11,12],[],[10],[54],[57]⟩,⟨[47,50,53,57],[1,2,3,4,5,6,7,8,9,10,11,12,13],[54],[10],[],[]⟩,⟨[44,58],[0,1,2,3,4,5,6,7,8,9,10,11,12,13,14],[54],[10],[],[]⟩,⟨[],[],[54],[54,57],[],[10]⟩,⟨[],[0,1,2,3,4,5,6,7,8,9,10,11,12,13,14,15,16],[],[],[],[]⟩]
attribute [local go_sem] kCs kBv
attribute [local go_sem] kAf vwA smA kFt St.fzS addL behind
theorem kSy (L:List Int):allV (L.map encI):=by
 intro row hr c hc;obtain⟨n,_,rfl⟩:=List.mem_map.1 hr;simp only[encI,List.mem_cons,List.not_mem_nil,or_false]at hc;exact⟨_,hc⟩
theorem cUnpSz:Cn Tryz.prog 87 kNp:=Cn.frz cUnpS (fun d x id e s rows h=>by
  have hm:=kA5 h;simp only[List.mem_cons,List.not_mem_nil,or_false,Prod.mk.injEq,Ob.sl.injEq]at hm;obtain⟨_,_,_,rfl⟩:=hm;exact kSy _) (fun d x=>by simp[SV.up,SV.up2,fz1m,lk])
theorem cUnpIz:Cn Tryz.prog 112 kNp:=Cn.frz cUnpI (fun d x id e s rows h=>by
  have hm:=kA5 h;simp only[List.mem_cons,List.not_mem_nil,or_false,Prod.mk.injEq,Ob.sl.injEq]at hm;obtain⟨_,_,_,rfl⟩:=hm;exact kSy _) (fun d x=>by simp[SV.up,SV.up2,fz1m,lk])
def kE9:Int×Vw:=(0,⟨0,0,0,[]⟩)
def dsV (s:ByteArray):Int×Vw:=(kC2 s).getD kE9
theorem ds_none {s:ByteArray}(h:kC2 s=none):dsV s=kE9∧(kC2 s).isSome=false:=by unfold dsV;rw[h];exact⟨rfl,rfl⟩
theorem kSn {s:ByteArray}{x:Int×Vw}(h:kC2 s=some x):dsV s=x∧(kC2 s).isSome=true:=by unfold dsV;rw[h];exact⟨rfl,rfl⟩
def qE9:Ctr:=pur (fun args=>aS args 0) (fun s=>[.v (.string s)]) (fun s=>s.size≤1048576)
 (fun d s=>.tup [.agg [.v (.int .i64 (dsV s).1),.v (.int .i64 (dsV s).2.pc),.v (.int .i64 (dsV s).2.sp),.v (.int .i64 (dsV s).2.fp),.own d],.v (.bool (kC2 s).isSome)]) (fun d s=>[(d,.sl 3 1 ((dsV s).2.words.map encI))])
def kMa:Ctr:=pur (fun args=>aS args 0) (fun s=>[.v (.string s)]) (fun s=>s.size≤1048576)
 (fun _ s=>.tup [.agg [.v (.int .i64 (dsV s).1),.v (.int .i64 (dsV s).2.pc),.v (.int .i64 (dsV s).2.sp),.v (.int .i64 (dsV s).2.fp),.sl 1 ((dsV s).2.words.map encI)],.v (.bool (kC2 s).isSome)]) (fun _ _=>[])
section
noncomputable def k9n:=mkX [(111,kHe),(112,kNp),(113,kLh)] (COk.cons qFa (COk.cons cUnpIz (COk.cons qMj (COk.nil _))))
theorem qMk:k9n.tys=tys:=rfl
theorem qMl:k9n.C=[(111,kHe),(112,kNp),(113,kLh)]:=rfl
attribute [local go_sem] qMk qMl kHe kNp kLh
set_option maxHeartbeats 4000000 in
theorem qMm:Cn Tryz.prog 49 qE9:=by
 refine Cn.pur Tryz.func49 (by kernel_rfl) rfl fun d x hx=>?_
 rename ByteArray=>s
 refine Holds.go (c:=k9n) Tryz.func49 rfl Tryz.results49 Tryz.ntmps49 (by omega) (by simp) rfl ?_
 intro X0 w0
 cases hd:decV s 0 with
 |none =>
  obtain⟨q1,q2,q3⟩:=kEv hd;rw[hd]at q3;obtain⟨u1,u2,u3⟩:=kIe (kG8 hd);obtain⟨r1,r2⟩:=ds_none (kN0 hd);rw[r1,r2];simp only[kE9]
  (repeat' (first|apply zS|apply zB|((first|apply zW| refine zZ [7] 17 kCs [10,32,33,34,35,36,37,38,39,40,41,42,43,44,45,46,47] [10,42,45] [42] (by decide +kernel) (by kernel_rfl) (by kernel_rfl) (by kernel_rfl) ?_|refine zF 17 kCs [10,32,33,34,35,36,37,38,39,40,41,42,43,44,45,46,47] [10,42,45] [42] (by decide +kernel) (by kernel_rfl) (by kernel_rfl) (by kernel_rfl) ?_);simp only[go_sem,q1,q2,q3,hd,u1,u2,u3])|apply And.intro|intro _))
  all_goals first|omega|rfl|exact⟨_,_,rfl⟩|exact⟨_,_,rfl,_,_,rfl,rfl⟩|skip
 |some q =>
 obtain⟨t,a⟩:=q;obtain⟨q1,q2,q3⟩:=kI9 hd;rw[hd]at q3;have hdz:=kC9 hd
 cases hu:unpack s a with
 |none =>
  obtain⟨u1,u2,u3⟩:=kIe hu;rw[hu]at u3;obtain⟨r1,r2⟩:=ds_none (kN1 hd hu);rw[r1,r2];simp only[kE9]
  (repeat' (first|apply zS|apply zB|((first|apply zW| refine zZ [7] 17 kCs [10,32,33,34,35,36,37,38,39,40,41,42,43,44,45,46,47] [10,42,45] [42] (by decide +kernel) (by kernel_rfl) (by kernel_rfl) (by kernel_rfl) ?_|refine zF 17 kCs [10,32,33,34,35,36,37,38,39,40,41,42,43,44,45,46,47] [10,42,45] [42] (by decide +kernel) (by kernel_rfl) (by kernel_rfl) (by kernel_rfl) ?_);simp only[go_sem,q1,q2,q3,hd,u1,u2,u3,hu])|apply And.intro|intro _))
  all_goals first|omega|rfl|exact⟨_,_,rfl⟩|exact⟨_,_,rfl,_,_,rfl,rfl⟩|skip
 |some q =>
 obtain⟨L,z⟩:=q;obtain⟨u1,u2,u3⟩:=kSz hu;rw[hu]at u3;have hS:=kPz hd hu;have hub:=kRm hu;by_cases h3:(L.length:Int)<3
 ·rw[kMo (by omega)]at hS
  obtain⟨r1,r2⟩:=ds_none hS;rw[r1,r2];simp only[kE9]
  (repeat' (first|apply zS|apply zB|((first|apply zW| refine zZ [7] 17 kCs [10,32,33,34,35,36,37,38,39,40,41,42,43,44,45,46,47] [10,42,45] [42] (by decide +kernel) (by kernel_rfl) (by kernel_rfl) (by kernel_rfl) ?_|refine zF 17 kCs [10,32,33,34,35,36,37,38,39,40,41,42,43,44,45,46,47] [10,42,45] [42] (by decide +kernel) (by kernel_rfl) (by kernel_rfl) (by kernel_rfl) ?_);simp only[go_sem,q1,q2,q3,hd,u1,u2,u3,hu,h3])|apply And.intro|intro _))
  all_goals first|omega|rfl|exact⟨_,_,rfl⟩|exact⟨_,_,rfl,_,_,rfl,rfl⟩|skip
 obtain⟨p,r,f,w,hL⟩:=k8w (L:=L) (by omega)
 have g0:Go.Vc.rowAt (L.map encI) 0=encI p:=by rw[hL];rfl
 have g1:Go.Vc.rowAt (L.map encI) 1=encI r:=by rw[hL];rfl
 have g2:Go.Vc.rowAt (L.map encI) 2=encI f:=by rw[hL];rfl
 have gd:(L.map encI).drop 3=w.map encI:=by rw[hL];rfl
 have wl:L.length=w.length+3:=by rw[hL];rfl
 have hS2:kC2 s=if kGg (t,⟨p,r,f,w⟩)=s then some (t,⟨p,r,f,w⟩)else none:=by rw[hS,hL];rfl
 by_cases he:kGg (t,⟨p,r,f,w⟩)=s
 ·rw[if_pos he]at hS2;obtain⟨r1,r2⟩:=kSn hS2;rw[r1,r2]
  (repeat' (first|apply zS|apply zB|((first|apply zW| refine zZ [7] 17 kCs [10,32,33,34,35,36,37,38,39,40,41,42,43,44,45,46,47] [10,42,45] [42] (by decide +kernel) (by kernel_rfl) (by kernel_rfl) (by kernel_rfl) ?_|refine zF 17 kCs [10,32,33,34,35,36,37,38,39,40,41,42,43,44,45,46,47] [10,42,45] [42] (by decide +kernel) (by kernel_rfl) (by kernel_rfl) (by kernel_rfl) ?_);simp only[go_sem,q1,q2,q3,hd,u1,u2,u3,hu,h3,g0,g1,g2,gd,encI,he])|apply And.intro|intro _))
  all_goals first|omega|rfl|exact⟨_,_,rfl⟩|exact⟨_,_,rfl,_,_,rfl,rfl⟩|(simp only[List.length_map];omega)|(obtain⟨n,_,rfl⟩:=List.mem_map.1 ‹_›;rfl)|skip
 ·rw[if_neg he]at hS2;obtain⟨r1,r2⟩:=ds_none hS2;rw[r1,r2];simp only[kE9]
  (repeat' (first|apply zS|apply zB|((first|apply zW| refine zZ [7] 17 kCs [10,32,33,34,35,36,37,38,39,40,41,42,43,44,45,46,47] [10,42,45] [42] (by decide +kernel) (by kernel_rfl) (by kernel_rfl) (by kernel_rfl) ?_|refine zF 17 kCs [10,32,33,34,35,36,37,38,39,40,41,42,43,44,45,46,47] [10,42,45] [42] (by decide +kernel) (by kernel_rfl) (by kernel_rfl) (by kernel_rfl) ?_);simp only[go_sem,q1,q2,q3,hd,u1,u2,u3,hu,h3,g0,g1,g2,gd,encI,he])|apply And.intro|intro _))
  all_goals first|omega|rfl|exact⟨_,_,rfl⟩|exact⟨_,_,rfl,_,_,rfl,rfl⟩|(simp only[List.length_map];omega)|(obtain⟨n,_,rfl⟩:=List.mem_map.1 ‹_›;rfl)|skip
noncomputable def k9o:=mkX [(86,kHe),(87,kNp),(88,kLh)] (COk.cons qFb (COk.cons cUnpSz (COk.cons qMn (COk.nil _))))
theorem qMo:k9o.tys=tys:=rfl
theorem qMp:k9o.C=[(86,kHe),(87,kNp),(88,kLh)]:=rfl
attribute [local go_sem] qMo qMp kHe kNp kLh
set_option maxHeartbeats 4000000 in
theorem qMq:Cn Tryz.prog 34 qE9:=by
 refine Cn.pur Tryz.func34 (by kernel_rfl) rfl fun d x hx=>?_
 rename ByteArray=>s
 refine Holds.go (c:=k9o) Tryz.func34 rfl Tryz.results34 Tryz.ntmps34 (by omega) (by simp) rfl ?_
 intro X0 w0
 cases hd:decV s 0 with
 |none =>
  obtain⟨q1,q2,q3⟩:=kEv hd;rw[hd]at q3;obtain⟨u1,u2,u3⟩:=kIe (kG8 hd);obtain⟨r1,r2⟩:=ds_none (kN0 hd);rw[r1,r2];simp only[kE9]
  (repeat' (first|apply zS|apply zB|((first|apply zW| refine zZ [7] 17 kBv [10,44,45,46,47,48,49,50,51,52,53,54,55,56,57,58,59] [10,54,57] [54] (by decide +kernel) (by kernel_rfl) (by kernel_rfl) (by kernel_rfl) ?_|refine zF 17 kBv [10,44,45,46,47,48,49,50,51,52,53,54,55,56,57,58,59] [10,54,57] [54] (by decide +kernel) (by kernel_rfl) (by kernel_rfl) (by kernel_rfl) ?_);simp only[go_sem,q1,q2,q3,hd,u1,u2,u3])|apply And.intro|intro _))
  all_goals first|omega|rfl|exact⟨_,_,rfl⟩|exact⟨_,_,rfl,_,_,rfl,rfl⟩|skip
 |some q =>
 obtain⟨t,a⟩:=q;obtain⟨q1,q2,q3⟩:=kI9 hd;rw[hd]at q3;have hdz:=kC9 hd
 cases hu:unpack s a with
 |none =>
  obtain⟨u1,u2,u3⟩:=kIe hu;rw[hu]at u3;obtain⟨r1,r2⟩:=ds_none (kN1 hd hu);rw[r1,r2];simp only[kE9]
  (repeat' (first|apply zS|apply zB|((first|apply zW| refine zZ [7] 17 kBv [10,44,45,46,47,48,49,50,51,52,53,54,55,56,57,58,59] [10,54,57] [54] (by decide +kernel) (by kernel_rfl) (by kernel_rfl) (by kernel_rfl) ?_|refine zF 17 kBv [10,44,45,46,47,48,49,50,51,52,53,54,55,56,57,58,59] [10,54,57] [54] (by decide +kernel) (by kernel_rfl) (by kernel_rfl) (by kernel_rfl) ?_);simp only[go_sem,q1,q2,q3,hd,u1,u2,u3,hu])|apply And.intro|intro _))
  all_goals first|omega|rfl|exact⟨_,_,rfl⟩|exact⟨_,_,rfl,_,_,rfl,rfl⟩|skip
 |some q =>
 obtain⟨L,z⟩:=q;obtain⟨u1,u2,u3⟩:=kSz hu;rw[hu]at u3;have hS:=kPz hd hu;have hub:=kRm hu;by_cases h3:(L.length:Int)<3
 ·rw[kMo (by omega)]at hS
  obtain⟨r1,r2⟩:=ds_none hS;rw[r1,r2];simp only[kE9]
  (repeat' (first|apply zS|apply zB|((first|apply zW| refine zZ [7] 17 kBv [10,44,45,46,47,48,49,50,51,52,53,54,55,56,57,58,59] [10,54,57] [54] (by decide +kernel) (by kernel_rfl) (by kernel_rfl) (by kernel_rfl) ?_|refine zF 17 kBv [10,44,45,46,47,48,49,50,51,52,53,54,55,56,57,58,59] [10,54,57] [54] (by decide +kernel) (by kernel_rfl) (by kernel_rfl) (by kernel_rfl) ?_);simp only[go_sem,q1,q2,q3,hd,u1,u2,u3,hu,h3])|apply And.intro|intro _))
  all_goals first|omega|rfl|exact⟨_,_,rfl⟩|exact⟨_,_,rfl,_,_,rfl,rfl⟩|skip
 obtain⟨p,r,f,w,hL⟩:=k8w (L:=L) (by omega)
 have g0:Go.Vc.rowAt (L.map encI) 0=encI p:=by rw[hL];rfl
 have g1:Go.Vc.rowAt (L.map encI) 1=encI r:=by rw[hL];rfl
 have g2:Go.Vc.rowAt (L.map encI) 2=encI f:=by rw[hL];rfl
 have gd:(L.map encI).drop 3=w.map encI:=by rw[hL];rfl
 have wl:L.length=w.length+3:=by rw[hL];rfl
 have hS2:kC2 s=if kGg (t,⟨p,r,f,w⟩)=s then some (t,⟨p,r,f,w⟩)else none:=by rw[hS,hL];rfl
 have hlen:=fun he=>@qEu s t z p r f a w hd (hL▸hu) he
 by_cases hz:(a:Int)+z=s.size;rotate_left
 ·rw[if_neg fun he=>hz (hlen he)]at hS2
  obtain⟨r1,r2⟩:=ds_none hS2;rw[r1,r2];simp only[kE9]
  (repeat' (first|apply zS|apply zB|((first|apply zW| refine zZ [7] 17 kBv [10,44,45,46,47,48,49,50,51,52,53,54,55,56,57,58,59] [10,54,57] [54] (by decide +kernel) (by kernel_rfl) (by kernel_rfl) (by kernel_rfl) ?_|refine zF 17 kBv [10,44,45,46,47,48,49,50,51,52,53,54,55,56,57,58,59] [10,54,57] [54] (by decide +kernel) (by kernel_rfl) (by kernel_rfl) (by kernel_rfl) ?_);simp only[go_sem,q1,q2,q3,hd,u1,u2,u3,hu,h3,hz])|apply And.intro|intro _))
  all_goals first|omega|rfl|exact⟨_,_,rfl⟩|exact⟨_,_,rfl,_,_,rfl,rfl⟩|skip
 by_cases he:kGg (t,⟨p,r,f,w⟩)=s
 ·rw[if_pos he]at hS2;obtain⟨r1,r2⟩:=kSn hS2;rw[r1,r2]
  (repeat' (first|apply zS|apply zB|((first|apply zW| refine zZ [7] 17 kBv [10,44,45,46,47,48,49,50,51,52,53,54,55,56,57,58,59] [10,54,57] [54] (by decide +kernel) (by kernel_rfl) (by kernel_rfl) (by kernel_rfl) ?_|refine zF 17 kBv [10,44,45,46,47,48,49,50,51,52,53,54,55,56,57,58,59] [10,54,57] [54] (by decide +kernel) (by kernel_rfl) (by kernel_rfl) (by kernel_rfl) ?_);simp only[go_sem,q1,q2,q3,hd,u1,u2,u3,hu,h3,hz,g0,g1,g2,gd,encI,he])|apply And.intro|intro _))
  all_goals first|omega|rfl|exact⟨_,_,rfl⟩|exact⟨_,_,rfl,_,_,rfl,rfl⟩|(simp only[List.length_map];omega)|(obtain⟨n,_,rfl⟩:=List.mem_map.1 ‹_›;rfl)|skip
 ·rw[if_neg he]at hS2;obtain⟨r1,r2⟩:=ds_none hS2;rw[r1,r2];simp only[kE9]
  (repeat' (first|apply zS|apply zB|((first|apply zW| refine zZ [7] 17 kBv [10,44,45,46,47,48,49,50,51,52,53,54,55,56,57,58,59] [10,54,57] [54] (by decide +kernel) (by kernel_rfl) (by kernel_rfl) (by kernel_rfl) ?_|refine zF 17 kBv [10,44,45,46,47,48,49,50,51,52,53,54,55,56,57,58,59] [10,54,57] [54] (by decide +kernel) (by kernel_rfl) (by kernel_rfl) (by kernel_rfl) ?_);simp only[go_sem,q1,q2,q3,hd,u1,u2,u3,hu,h3,hz,g0,g1,g2,gd,encI,he])|apply And.intro|intro _))
  all_goals first|omega|rfl|exact⟨_,_,rfl⟩|exact⟨_,_,rfl,_,_,rfl,rfl⟩|(simp only[List.length_map];omega)|(obtain⟨n,_,rfl⟩:=List.mem_map.1 ‹_›;rfl)|skip
end
theorem qHz:Cn Tryz.prog 34 kMa:=Cn.frz qMq (fun d x id e s rows h=>by
  have hm:=kA5 h;simp only[List.mem_cons,List.not_mem_nil,or_false,Prod.mk.injEq,Ob.sl.injEq]at hm;obtain⟨_,_,_,rfl⟩:=hm;exact kSy _) (fun d x=>by simp[SV.up,SV.up2,fz1m,lk])
theorem qHw:Cn Tryz.prog 49 kMa:=Cn.frz qMm (fun d x id e s rows h=>by
  have hm:=kA5 h;simp only[List.mem_cons,List.not_mem_nil,or_false,Prod.mk.injEq,Ob.sl.injEq]at hm;obtain⟨_,_,_,rfl⟩:=hm;exact kSy _) (fun d x=>by simp[SV.up,SV.up2,fz1m,lk])
end Go.Proofs.YtjdklcjoeanimaaGreat

