/-
  DERIVED. Several texts of ours in one: VtSeM2.
-/
import Derived.Test.YtoomncljmgcidaaGreatVa37
set_option linter.unusedSimpArgs false
set_option linter.unusedVariables false
set_option maxHeartbeats 1000000
set_option maxRecDepth 10000
namespace Go.Proofs.YtoomncljmgcidaaGreat
open Go.Vc
attribute [local irreducible] Go.Vc.WP
attribute [local go_sem] cx0_t cx0_c
attribute [local go_sem] decI_enc decImage_enc spA decS_enc decMach_enc oneMach_f mach_eta pcA rgA seA decSymbol_enc tmA tm_eta
section
variable {α : Type} {cnt : α → Nat} {mrk : Int → α → α}
theorem cntA_mkA (hc : ∀ k x,cnt (mrk k x) = cnt x) : ∀ (L : List α) (k : Int),cntA cnt (mkA cnt mrk k L) = cntA cnt L
 | [],_=>rfl
 |x :: L,k=>by
  have := cntA_mkA hc L (k + (cnt x : Int))
  simp only [mkA,cntA,List.map_cons,List.sum_cons,hc] at this ⊢
  rw [this]
theorem mkA_idem (hc : ∀ k x,cnt (mrk k x) = cnt x) (hm : ∀ k x,mrk k (mrk k x) = mrk k x) : ∀ (L : List α) (k : Int),mkA cnt mrk k (mkA cnt mrk k L) = mkA cnt mrk k L
 | [],_=>rfl
 |x :: L,k=>by simp only [mkA,hc,hm,mkA_idem hc hm L]
end
theorem cntImg_mrk (k : Int) (x : Image) : cntImg (mrkImg k x) = cntImg x:=by simp [cntImg,mrkImg,marksSymbol_len]
theorem mrkImg_idem (k : Int) (x : Image) : mrkImg k (mrkImg k x) = mrkImg k x:=by simp [mrkImg,marksSymbol_len]
theorem cntMach_mrk (k : Int) (x : Mach) : cntMach (mrkMach k x) = cntMach x:=by simp [cntMach,mrkMach,marksI_len]
theorem mrkMach_idem (k : Int) (x : Mach) : mrkMach k (mrkMach k x) = mrkMach k x:=by simp [mrkMach,marksI_len]
def eSp (k : Int) (x : SpX) : Int := k + (cntA cntImg x.1 : Int) + (x.2.1.length : Int) + (x.2.2.length : Int)
def mkSp (k : Int) (x : SpX) : SpX := (mkA cntImg mrkImg k x.1,marksI (k + (cntA cntImg x.1 : Int)) x.2.1.length,marksI (k + (cntA cntImg x.1 : Int) + (x.2.1.length : Int)) x.2.2.length)
def ePc (k : Int) (x : PcX) : Int := eSp k x.1 + (cntA cntMach x.2.1 : Int)
def mkPc (k : Int) (x : PcX) : PcX := (mkSp k x.1,mkA cntMach mrkMach (eSp k x.1) x.2.1,x.2.2)
def eRg (k : Int) (x : RgX) : Int := k + (x.2.1.length : Int)
def mkRg (k : Int) (x : RgX) : RgX := (x.1,marksS k x.2.1.length,x.2.2)
def eSe (k : Int) (x : SeX) : Int := eRg (ePc k x.1) x.2.2.1
def mkSe (k : Int) (x : SeX) : SeX := (mkPc k x.1,x.2.1,mkRg (ePc k x.1) x.2.2.1,x.2.2.2)
theorem eSp_mk (k : Int) (x : SpX) : eSp k (mkSp k x) = eSp k x:=by simp [eSp,mkSp,cntA_mkA cntImg_mrk,marksI_len]
theorem mkSp_idem (k : Int) (x : SpX) : mkSp k (mkSp k x) = mkSp k x:=by simp [mkSp,cntA_mkA cntImg_mrk,mkA_idem cntImg_mrk mrkImg_idem,marksI_len]
theorem ePc_mk (k : Int) (x : PcX) : ePc k (mkPc k x) = ePc k x:=by simp [ePc,mkPc,eSp_mk,cntA_mkA cntMach_mrk]
theorem mkPc_idem (k : Int) (x : PcX) : mkPc k (mkPc k x) = mkPc k x:=by simp [mkPc,eSp_mk,mkSp_idem,mkA_idem cntMach_mrk mrkMach_idem]
theorem eSe_mk (k : Int) (x : SeX) : eSe k (mkSe k x) = eSe k x:=by simp [eSe,mkSe,ePc_mk,eRg,mkRg,marksS_len]
theorem mkSe_idem (k : Int) (x : SeX) : mkSe k (mkSe k x) = mkSe k x:=by simp [mkSe,ePc_mk,mkPc_idem,mkRg,marksS_len]
theorem mem_mkA {α : Type} {cnt : α → Nat} {mrk : Int → α → α} {p : α → Prop} (hp : ∀ k x,p x → p (mrk k x)) : ∀ (L : List α) (k : Int),(∀ x ∈ L,p x) → ∀ y ∈ mkA cnt mrk k L,p y
 | [],_,_,y,hy=>by simp [mkA] at hy
 |x :: L,k,h,y,hy=>by
  simp only [mkA,List.mem_cons] at hy
  rcases hy with rfl|hy
  ·exact hp k x (h x List.mem_cons_self)
  ·exact mem_mkA hp L _ (fun z hz=>h z (List.mem_cons_of_mem _ hz)) y hy
theorem shSp_mk {x : SpX} (h : shSp x) (k : Int) : shSp (mkSp k x) := by
 obtain ⟨⟨h1,h2⟩,h3,h4⟩ := h
 exact ⟨⟨by simpa [mkSp,mkA_len] using h1,mem_mkA (p := fun i : Image=>i.symbols.length ≤ 2097152) (fun k x h=>by simpa [mrkImg,marksSymbol_len] using h) _ _ h2⟩,by simpa [mkSp,marksI_len] using h3,by simpa [mkSp,marksI_len] using h4⟩
theorem shPc_mk {x : PcX} (h : shPc x) (k : Int) : shPc (mkPc k x) := by
 obtain ⟨h1,h2,h3⟩ := h
 exact ⟨shSp_mk h1 k,by simpa [mkPc,mkA_len] using h2,mem_mkA (p := shMach) (fun k x h=>by simpa [shMach,mrkMach,marksI_len] using h) _ _ h3⟩
theorem shSe_mk {x : SeX} (h : shSe x) (k : Int) : shSe (mkSe k x) := ⟨shPc_mk h.1 k,by simpa [mkSe,mkRg,marksS_len] using h.2⟩
theorem eSp_le {x : SpX} (h : shSp x) (k : Int) : k ≤ eSp k x ∧ eSp k x ≤ k + 17592190238720 := by
 have h1 := cntImg_le h.1.1 h.1.2
 have := h.2.1
 have := h.2.2
 unfold eSp
 omega
theorem ePc_le {x : PcX} (h : shPc x) (k : Int) : k ≤ ePc k x ∧ ePc k x ≤ k + 35184376283136 := by
 have h1 := eSp_le h.1 k
 have h2 := cntMach_le h.2.1 h.2.2
 unfold ePc
 omega
def pcI (args : List SV) : Int × Int × Int := match (args[0]? : Option SV) with
 |some (.agg [_,_,_,_,.v (.int _ a),.v (.int _ b),.v (.int _ c)])=>(a,b,c)
 | _=>(0,0,0)
def rgI (args : List SV) : Int × Int × Int := match (args[0]? : Option SV) with
 |some (.agg [.v (.int _ a),_,.v (.int _ b),.v (.int _ c)])=>(a,b,c)
 | _=>(0,0,0)
def kmarkSp : Ctr := len [0] [] (fun args obs=>(((decImage (oD obs 1000000),decI (oR obs 1000001),decI (oR obs 1000002)) : SpX),aI args 1)) (fun x=>[.agg [.own 1000000,.own 1000001,.own 1000002],.v (.int .i64 x.2)])
 (fun x=>[(1000000,.dp 136 2 (x.1.1.map encImage)),(1000001,.sl 3 1 (x.1.2.1.map encI)),(1000002,.sl 3 1 (x.1.2.2.map encI))]) (fun x=>shSp x.1 ∧ 0 ≤ x.2 ∧ x.2 ≤ 100000000000000)
 (fun _ x=>.v (.int .i64 (eSp x.2 x.1))) (fun _ _=>[]) (fun x=>[(1000000,.dp 136 2 ((mkSp x.2 x.1).1.map encImage)),(1000001,.sl 3 1 ((mkSp x.2 x.1).2.1.map encI)),(1000002,.sl 3 1 ((mkSp x.2 x.1).2.2.map encI))])
section
attribute [local go_sem] eSp mkSp
noncomputable def cxMsp := mkX [(106,kmarkImgS),(107,k18E)] (COk.cons cmarkImgS (COk.cons c18E (COk.nil _)))
theorem cxMsp_t : cxMsp.tys = tys := rfl
theorem cxMsp_c : cxMsp.C = [(106,kmarkImgS),(107,k18E)] := rfl
attribute [local go_sem] cxMsp_t cxMsp_c kmarkImgS k18E
theorem cmarkSp : Cn Tryz.prog 72 kmarkSp := by
 refine Cn.len Tryz.func72 (by kernel_rfl) rfl fun d x hd hx=>?_
 obtain ⟨⟨I,B,E⟩,k⟩ := x
 obtain ⟨⟨⟨hI,hIm⟩,hB,hE⟩,h0,h1⟩ := hx
 simp only at hI hIm hB hE h0 h1 ⊢
 have hcnt := cntImg_le hI hIm
 refine HoldsL.go (c := cxMsp) Tryz.func72 rfl Tryz.results72 Tryz.ntmps72 (by omega) (by simp) rfl (by simp <;> omega) (by simp [SV.owns2,SV.owns,SV.owns1]) (by simp) rfl rfl (by simp) ?_
 intro X0 M w0
 (repeat' (first|apply zS|apply zB|((first|apply zR|apply zC|apply zT|apply zE|apply zK);simp only [go_sem])|apply And.intro|intro _))
 all_goals first|omega|exact hIm _ ‹_›|skip
end
def kmarkPc : Ctr := len [0] [] (fun args obs=>((((decImage (oD obs 1000000),decI (oR obs 1000001),decI (oR obs 1000002)),decMach (oD obs 1000003),pcI args) : PcX),aI args 1)) (fun x=>[.agg [.own 1000000,.own 1000001,.own 1000002,.own 1000003,.v (.int .i64 x.1.2.2.1),.v (.int .i64 x.1.2.2.2.1),.v (.int .i64 x.1.2.2.2.2)],.v (.int .i64 x.2)])
 (fun x=>[(1000000,.dp 136 2 (x.1.1.1.map encImage)),(1000001,.sl 3 1 (x.1.1.2.1.map encI)),(1000002,.sl 3 1 (x.1.1.2.2.map encI)),(1000003,.dp 96 7 (x.1.2.1.map encMach))]) (fun x=>shPc x.1 ∧ 0 ≤ x.2 ∧ x.2 ≤ 100000000000000)
 (fun _ x=>.v (.int .i64 (ePc x.2 x.1))) (fun _ _=>[]) (fun x=>[(1000000,.dp 136 2 ((mkPc x.2 x.1).1.1.map encImage)),(1000001,.sl 3 1 ((mkPc x.2 x.1).1.2.1.map encI)),(1000002,.sl 3 1 ((mkPc x.2 x.1).1.2.2.map encI)),(1000003,.dp 96 7 ((mkPc x.2 x.1).2.1.map encMach))])
section
attribute [local go_sem] ePc mkPc pcI
attribute [local irreducible] shMach
noncomputable def cxMpc := mkX [(72,kmarkSp),(73,kmarkMachS)] (COk.cons cmarkSp (COk.cons cmarkMachS (COk.nil _)))
theorem cxMpc_t : cxMpc.tys = tys := rfl
theorem cxMpc_c : cxMpc.C = [(72,kmarkSp),(73,kmarkMachS)] := rfl
attribute [local go_sem] cxMpc_t cxMpc_c kmarkSp kmarkMachS
set_option maxHeartbeats 3000000 in
theorem cmarkPc : Cn Tryz.prog 32 kmarkPc := by
 refine Cn.len Tryz.func32 (by kernel_rfl) rfl fun d x hd hx=>?_
 obtain ⟨⟨⟨I,B,E⟩,T,tu,le,sl⟩,k⟩ := x
 obtain ⟨⟨hsp,hT,hTs⟩,h0,h1⟩ := hx
 have hsp2 := hsp
 obtain ⟨⟨hI,hIm⟩,hB,hE⟩ := hsp2
 simp only at hT hTs hI hIm hB hE h0 h1 ⊢
 have hle : k ≤ eSp k (I,B,E) ∧ eSp k (I,B,E) ≤ k + 17592190238720 := eSp_le hsp k
 have hcnt := cntMach_le hT hTs
 refine HoldsL.go (c := cxMpc) Tryz.func32 rfl Tryz.results32 Tryz.ntmps32 (by omega) (by simp) rfl (by simp <;> omega) (by simp [SV.owns2,SV.owns,SV.owns1]) (by simp) rfl rfl (by simp) ?_
 intro X0 M w0
 (repeat' (first|apply zS|apply zB|((first|apply zR|apply zC|apply zT|apply zE|apply zK);simp only [go_sem])|apply And.intro|intro _))
 all_goals first|omega|exact hIm _ ‹_›|exact hTs _ ‹_›|exact hsp|skip
end
def kmarkRg : Ctr := len [0] [] (fun args obs=>((((rgI args).1,decS (oR obs 1000000),(rgI args).2) : RgX),aI args 1)) (fun x=>[.agg [.v (.int .i64 x.1.1),.own 1000000,.v (.int .i64 x.1.2.2.1),.v (.int .i64 x.1.2.2.2)],.v (.int .i64 x.2)])
 (fun x=>[(1000000,.sl 9 1 (x.1.2.1.map encS))]) (fun x=>x.1.2.1.length ≤ 2097152 ∧ 0 ≤ x.2 ∧ x.2 ≤ 200000000000000)
 (fun _ x=>.v (.int .i64 (eRg x.2 x.1))) (fun _ _=>[]) (fun x=>[(1000000,.sl 9 1 ((mkRg x.2 x.1).2.1.map encS))])
section
attribute [local go_sem] eRg mkRg rgI
noncomputable def cxMrg := mkX [(74,kmarkSE)] (COk.cons cmarkSE (COk.nil _))
theorem cxMrg_t : cxMrg.tys = tys := rfl
theorem cxMrg_c : cxMrg.C = [(74,kmarkSE)] := rfl
attribute [local go_sem] cxMrg_t cxMrg_c kmarkSE
theorem cmarkRg : Cn Tryz.prog 33 kmarkRg := by
 refine Cn.len Tryz.func33 (by kernel_rfl) rfl fun d x hd hx=>?_
 obtain ⟨⟨cp,R,wr,lo⟩,k⟩ := x
 obtain ⟨hR,h0,h1⟩ := hx
 simp only at hR h0 h1 ⊢
 refine HoldsL.go (c := cxMrg) Tryz.func33 rfl Tryz.results33 Tryz.ntmps33 (by omega) (by simp) rfl (by simp <;> omega) (by simp [SV.owns2,SV.owns,SV.owns1]) (by simp) rfl rfl (by simp) ?_
 intro X0 M w0
 (repeat' (first|apply zS|apply zB|((first|apply zR|apply zC|apply zT|apply zE|apply zK);simp only [go_sem])|apply And.intro|intro _))
 all_goals first|omega|skip
end
def seI (args : List SV) : (Int × Int × Int) × Tm × (Int × Int × Int) × Int × Int × Int := match (args[0]? : Option SV) with
 |some (.agg [_,_,_,_,.v (.int _ a),.v (.int _ b),.v (.int _ c),.v (.int _ p),.v (.int _ q),.v (.int _ l),.v (.int _ st),.v (.int _ cp),_,.v (.int _ wr),.v (.int _ lo),.v (.int _ mo),.v (.int _ sp),.v (.int _ fi)])=>((a,b,c),⟨p,q,l,st⟩,(cp,wr,lo),mo,sp,fi)
 | _=>((0,0,0),⟨0,0,0,0⟩,(0,0,0),0,0,0)
def kmarkSe : Ctr := len [0] [] (fun args obs=>(((((decImage (oD obs 1000000),decI (oR obs 1000001),decI (oR obs 1000002)),decMach (oD obs 1000003),(seI args).1),(seI args).2.1,((seI args).2.2.1.1,decS (oR obs 1000004),(seI args).2.2.1.2),(seI args).2.2.2) : SeX),aI args 1))
 (fun x=>[.agg [.own 1000000,.own 1000001,.own 1000002,.own 1000003,.v (.int .i64 x.1.1.2.2.1),.v (.int .i64 x.1.1.2.2.2.1),.v (.int .i64 x.1.1.2.2.2.2),.v (.int .i64 x.1.2.1.period),.v (.int .i64 x.1.2.1.spread),.v (.int .i64 x.1.2.1.left),.v (.int .i64 x.1.2.1.state),
  .v (.int .i64 x.1.2.2.1.1),.own 1000004,.v (.int .i64 x.1.2.2.1.2.2.1),.v (.int .i64 x.1.2.2.1.2.2.2),.v (.int .i64 x.1.2.2.2.1),.v (.int .i64 x.1.2.2.2.2.1),.v (.int .i64 x.1.2.2.2.2.2)],.v (.int .i64 x.2)])
 (fun x=>[(1000000,.dp 136 2 (x.1.1.1.1.map encImage)),(1000001,.sl 3 1 (x.1.1.1.2.1.map encI)),(1000002,.sl 3 1 (x.1.1.1.2.2.map encI)),(1000003,.dp 96 7 (x.1.1.2.1.map encMach)),(1000004,.sl 9 1 (x.1.2.2.1.2.1.map encS))]) (fun x=>shSe x.1 ∧ 0 ≤ x.2 ∧ x.2 ≤ 100000000000000)
 (fun _ x=>.v (.int .i64 (eSe x.2 x.1))) (fun _ _=>[]) (fun x=>[(1000000,.dp 136 2 ((mkSe x.2 x.1).1.1.1.map encImage)),(1000001,.sl 3 1 ((mkSe x.2 x.1).1.1.2.1.map encI)),(1000002,.sl 3 1 ((mkSe x.2 x.1).1.1.2.2.map encI)),(1000003,.dp 96 7 ((mkSe x.2 x.1).1.2.1.map encMach)),(1000004,.sl 9 1 ((mkSe x.2 x.1).2.2.1.2.1.map encS))])
section
attribute [local go_sem] eSe mkSe pcI rgI seI
attribute [local irreducible] shMach shPc
noncomputable def cxMsess := mkX [(32,kmarkPc),(33,kmarkRg)] (COk.cons cmarkPc (COk.cons cmarkRg (COk.nil _)))
theorem cxMsess_t : cxMsess.tys = tys := rfl
theorem cxMsess_c : cxMsess.C = [(32,kmarkPc),(33,kmarkRg)] := rfl
attribute [local go_sem] cxMsess_t cxMsess_c kmarkPc kmarkRg
set_option maxHeartbeats 4000000 in
theorem cmarkSe : Cn Tryz.prog 10 kmarkSe := by
 refine Cn.len Tryz.func10 (by kernel_rfl) rfl fun d x hd hx=>?_
 obtain ⟨⟨⟨⟨I,B,E⟩,T,tu,le,sl⟩,⟨p,q,l,st⟩,⟨cp,R,wr,lo⟩,mo,sp,fi⟩,k⟩ := x
 obtain ⟨⟨hpc,hR⟩,h0,h1⟩ := hx
 simp only at hR h0 h1 ⊢
 have hle : k ≤ ePc k ((I,B,E),T,tu,le,sl) ∧ ePc k ((I,B,E),T,tu,le,sl) ≤ k + 35184376283136 := ePc_le hpc k
 refine HoldsL.go (c := cxMsess) Tryz.func10 rfl Tryz.results10 Tryz.ntmps10 (by omega) (by simp) rfl (by simp <;> omega) (by simp [SV.owns2,SV.owns,SV.owns1]) (by simp) rfl rfl (by simp) ?_
 intro X0 M w0
 (repeat' (first|apply zS|apply zB|((first|apply zR|apply zC|apply zT|apply zE|apply zK);simp only [go_sem])|apply And.intro|intro _))
 all_goals first|omega|exact hpc|skip
end
def kheldSp : Ctr := pur (fun args=>(spA args 0,aI args 1)) (fun x=>[.agg [.sl 2 (x.1.1.map encImage),.sl 1 (x.1.2.1.map encI),.sl 1 (x.1.2.2.map encI)],.v (.int .i64 x.2)]) (fun x=>shSp x.1 ∧ (0 ≤ x.2 ∧ x.2 ≤ 100000000000000) ∧ mkSp x.2 x.1 = x.1) (fun _ x=>.v (.int .i64 (eSp x.2 x.1))) (fun _ _=>[])
section
attribute [local go_sem] eSp
noncomputable def cxHsp := mkX [(109,kheldImgS),(110,k19)] (COk.cons cheldImgS (COk.cons c19 (COk.nil _)))
theorem cxHsp_t : cxHsp.tys = tys := rfl
theorem cxHsp_c : cxHsp.C = [(109,kheldImgS),(110,k19)] := rfl
attribute [local go_sem] cxHsp_t cxHsp_c kheldImgS k19
theorem cheldSp : Cn Tryz.prog 75 kheldSp := by
 refine Cn.pur Tryz.func75 (by kernel_rfl) rfl fun d x hx=>?_
 obtain ⟨⟨I,B,E⟩,k⟩ := x
 obtain ⟨⟨⟨hI,hIm⟩,hB,hE⟩,⟨h0,h1⟩,hmk⟩ := hx
 simp only [mkSp,Prod.mk.injEq] at hI hIm hB hE h0 h1 hmk ⊢
 obtain ⟨m1,m2,m3⟩ := hmk
 have hcnt := cntImg_le hI hIm
 have g2 : (if B = marksI (k + (cntA cntImg I : Int)) B.length then k + (cntA cntImg I : Int) + (B.length : Int) else -1) = k + (cntA cntImg I : Int) + (B.length : Int) := if_pos m2.symm
 have g3 : (if E = marksI (k + (cntA cntImg I : Int) + (B.length : Int)) E.length then k + (cntA cntImg I : Int) + (B.length : Int) + (E.length : Int) else -1) = k + (cntA cntImg I : Int) + (B.length : Int) + (E.length : Int) := if_pos m3.symm
 refine Holds.go (c := cxHsp) Tryz.func75 rfl Tryz.results75 Tryz.ntmps75 (by omega) (by simp) rfl ?_
 intro X0 w0
 (repeat' (first|apply zS|apply zB|((first|apply zR|apply zC|apply zT|apply zE|apply zK);simp only [go_sem,g2,g3])|apply And.intro|intro _))
 all_goals first|omega|exact hIm _ ‹_›|exact m1|skip
end
def kheldPc : Ctr := pur (fun args=>(pcA args 0,aI args 1)) (fun x=>[.agg (aggPc x.1),.v (.int .i64 x.2)]) (fun x=>shPc x.1 ∧ (0 ≤ x.2 ∧ x.2 ≤ 100000000000000) ∧ mkPc x.2 x.1 = x.1) (fun _ x=>.v (.int .i64 (ePc x.2 x.1))) (fun _ _=>[])
section
attribute [local go_sem] ePc aggPc
attribute [local irreducible] shMach shSp
noncomputable def cxHpc := mkX [(75,kheldSp),(76,kheldMachS)] (COk.cons cheldSp (COk.cons cheldMachS (COk.nil _)))
theorem cxHpc_t : cxHpc.tys = tys := rfl
theorem cxHpc_c : cxHpc.C = [(75,kheldSp),(76,kheldMachS)] := rfl
attribute [local go_sem] cxHpc_t cxHpc_c kheldSp kheldMachS
set_option maxHeartbeats 3000000 in
theorem cheldPc : Cn Tryz.prog 34 kheldPc := by
 refine Cn.pur Tryz.func34 (by kernel_rfl) rfl fun d x hx=>?_
 obtain ⟨⟨⟨I,B,E⟩,T,tu,le,sl⟩,k⟩ := x
 obtain ⟨⟨hsp,hT,hTs⟩,⟨h0,h1⟩,hmk⟩ := hx
 have m1 : mkSp k (I,B,E) = (I,B,E) := congrArg Prod.fst hmk
 have m2 : mkA cntMach mrkMach (eSp k (I,B,E)) T = T := congrArg (fun y : PcX=>y.2.1) hmk
 simp only at hT hTs h0 h1 ⊢
 have hle : k ≤ eSp k (I,B,E) ∧ eSp k (I,B,E) ≤ k + 17592190238720 := eSp_le hsp k
 have hcnt := cntMach_le hT hTs
 refine Holds.go (c := cxHpc) Tryz.func34 rfl Tryz.results34 Tryz.ntmps34 (by omega) (by simp) rfl ?_
 intro X0 w0
 (repeat' (first|apply zS|apply zB|((first|apply zR|apply zC|apply zT|apply zE|apply zK);simp only [go_sem])|apply And.intro|intro _))
 all_goals first|omega|exact hTs _ ‹_›|exact hsp|exact m1|exact m2|skip
end
def kheldRg : Ctr := pur (fun args=>(rgA args 0,aI args 1)) (fun x=>[.agg (aggRg x.1),.v (.int .i64 x.2)]) (fun x=>x.1.2.1.length ≤ 2097152 ∧ (0 ≤ x.2 ∧ x.2 ≤ 200000000000000) ∧ marksS x.2 x.1.2.1.length = x.1.2.1) (fun _ x=>.v (.int .i64 (eRg x.2 x.1))) (fun _ _=>[])
section
attribute [local go_sem] eRg aggRg
noncomputable def cxHrg := mkX [(77,kheldS)] (COk.cons cheldS (COk.nil _))
theorem cxHrg_t : cxHrg.tys = tys := rfl
theorem cxHrg_c : cxHrg.C = [(77,kheldS)] := rfl
attribute [local go_sem] cxHrg_t cxHrg_c kheldS
theorem cheldRg : Cn Tryz.prog 35 kheldRg := by
 refine Cn.pur Tryz.func35 (by kernel_rfl) rfl fun d x hx=>?_
 obtain ⟨⟨cp,R,wr,lo⟩,k⟩ := x
 obtain ⟨hR,⟨h0,h1⟩,hmk⟩ := hx
 simp only at hR h0 h1 hmk ⊢
 have g : (if R = marksS k R.length then k + (R.length : Int) else -1) = k + (R.length : Int) := if_pos hmk.symm
 refine Holds.go (c := cxHrg) Tryz.func35 rfl Tryz.results35 Tryz.ntmps35 (by omega) (by simp) rfl ?_
 intro X0 w0
 (repeat' (first|apply zS|apply zB|((first|apply zR|apply zC|apply zT|apply zE|apply zK);simp only [go_sem,g])|apply And.intro|intro _))
 all_goals first|omega|skip
end
def kheldSe : Ctr := pur (fun args=>(seA args 0,aI args 1)) (fun x=>[.agg (aggSe x.1),.v (.int .i64 x.2)]) (fun x=>shSe x.1 ∧ (0 ≤ x.2 ∧ x.2 ≤ 100000000000000) ∧ mkSe x.2 x.1 = x.1) (fun _ x=>.v (.int .i64 (eSe x.2 x.1))) (fun _ _=>[])
section
attribute [local go_sem] eSe aggSe aggPc aggRg
attribute [local irreducible] shMach shPc
noncomputable def cxHse := mkX [(34,kheldPc),(35,kheldRg)] (COk.cons cheldPc (COk.cons cheldRg (COk.nil _)))
theorem cxHse_t : cxHse.tys = tys := rfl
theorem cxHse_c : cxHse.C = [(34,kheldPc),(35,kheldRg)] := rfl
attribute [local go_sem] cxHse_t cxHse_c kheldPc kheldRg
set_option maxHeartbeats 4000000 in
theorem cheldSe : Cn Tryz.prog 11 kheldSe := by
 refine Cn.pur Tryz.func11 (by kernel_rfl) rfl fun d x hx=>?_
 obtain ⟨⟨⟨⟨I,B,E⟩,T,tu,le,sl⟩,⟨p,q,l,st⟩,⟨cp,R,wr,lo⟩,mo,sp,fi⟩,k⟩ := x
 obtain ⟨⟨hpc,hR⟩,⟨h0,h1⟩,hmk⟩ := hx
 have m1 : mkPc k ((I,B,E),T,tu,le,sl) = ((I,B,E),T,tu,le,sl) := congrArg Prod.fst hmk
 have m2 : marksS (ePc k ((I,B,E),T,tu,le,sl)) R.length = R := congrArg (fun y : SeX=>y.2.2.1.2.1) hmk
 simp only at hR h0 h1 ⊢
 have hle : k ≤ ePc k ((I,B,E),T,tu,le,sl) ∧ ePc k ((I,B,E),T,tu,le,sl) ≤ k + 35184376283136 := ePc_le hpc k
 have hrg : eRg (ePc k ((I,B,E),T,tu,le,sl)) (cp,R,wr,lo) = ePc k ((I,B,E),T,tu,le,sl) + (R.length : Int) := rfl
 refine Holds.go (c := cxHse) Tryz.func11 rfl Tryz.results11 Tryz.ntmps11 (by omega) (by simp) rfl ?_
 intro X0 w0
 (repeat' (first|apply zS|apply zB|((first|apply zR|apply zC|apply zT|apply zE|apply zK);simp only [go_sem])|apply And.intro|intro _))
 all_goals first|omega|exact hpc|exact m1|exact m2|skip
end
end Go.Proofs.YtoomncljmgcidaaGreat

