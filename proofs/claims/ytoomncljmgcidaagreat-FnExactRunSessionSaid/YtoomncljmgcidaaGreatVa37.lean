/-
  DERIVED. Several texts of ours in one: VgSymbolM, VtIE, VtSeM.
-/
import Derived.Test.YtoomncljmgcidaaGreatVa4
import Derived.Test.YtoomncljmgcidaaGreatVa5
import Derived.Test.YtoomncljmgcidaaGreatVa22
set_option linter.unusedSimpArgs false
set_option linter.unusedVariables false
set_option maxHeartbeats 1000000
set_option maxRecDepth 10000
namespace Go.Proofs.YtoomncljmgcidaaGreat
open Go.Vc
attribute [local go_sem] St.runR St.runW St.stepV offV St.step St.stepU St.stepG mkCond guardB St.prK St.pr St.prLen St.eff St.callE St.callD St.callF St.callL aI aS aR aC St.isM St.argL Ctr.pure Ctr.lend Ctr.move Ctr.isL Ctr.wri pur len lentBy St.lentV St.lent1 ptrs1 own1s St.ownsIn St.ptrsIn nthS argsR restOf obsR pairs swapL unObs backL St.resL erL SV.ren1 SV.up SV.up2 Ob.up St.fzL cellIds partIds St.intoRow SV.ownId St.fz SV.fz1 St.prep St.mvL St.mv SV.re1 rnOk St.prEq vals eqCells scEq Value.kd St.prStr St.prCut cutR St.bnd St.prMin St.bld isShift outL retL outJ oR oC oE oD SV.upq SV.isSl SV.shut St.deepK St.dpArg St.deepQ absC Ob.pl St.ev St.get St.put St.new St.kill SV.kill SV.kill1 Ob.kill St.app St.wrt St.rowsOf St.res St.killL lk er argsL SV.strip SV.need SV.share SV.share1 SV.owns SV.owns1 SV.owns2 SV.good SV.good1 SV.rok SV.rok1 SV.rok2 SV.isV SV.isV2 nodupN SV.cells SV.one SV.pur Ob.pb partsIn rowsIn splice cellsAt dstOk scal2 scal1 thenK blockK retK outK outs okC okL okA okT nilC nilL nilA nilT keepC keepL keepA keepT St.runG St.dltK St.least St.clean St.final St.hide offK badS badO SV.refs SV.leaf SV.leaf2 Ob.refs dlOk fpAt Go.Vc.cover tups SV.ofAgg St.out outC subL St.has rng wr Value.oneCell' Option.isSome_some Option.isSome_none List.nil_append Bool.false_eq_true List.map_cons List.map_nil List.all_cons List.all_nil List.length_cons List.length_nil List.drop_zero List.drop_succ_cons List.take_succ_cons List.take_zero List.drop_nil List.take_nil List.getElem?_cons_zero List.getElem?_cons_succ List.getElem?_nil List.cons_append List.nil_append List.append_nil List.append_assoc List.flatMap_cons List.flatMap_nil List.contains_cons List.contains_nil List.set_cons_zero List.set_cons_succ List.getElem?_toArray Option.getD_some Option.getD_none Option.map_some Option.map_none Option.bind_some Option.some.injEq Prod.mk.injEq if_true if_false true_and and_true and_self and_false false_and Bool.and_false Bool.false_and Bool.or_true Bool.true_or Bool.or_false Bool.false_or ne_eq not_true_eq_false not_false_eq_true decide_true decide_false List.mem_cons List.not_mem_nil List.filter_cons List.filter_nil List.any_cons List.any_nil List.isEmpty_nil List.isEmpty_cons Option.getD_none or_false false_or true_or or_true forall_eq_or_imp forall_eq reduceCtorEq exists_eq exists_eq' exists_eq_left' exists_eq_left exists_eq_right exists_eq_right' imp_self implies_true Bool.and_true Bool.true_and Bool.and_self beq_self_eq_true List.replicate_succ List.replicate_zero forall_const false_implies pickB_or pickB_and beqT beqF Int.toNat_natCast List.length_map List.length_replicate ge_iff_le gt_iff_lt decide_eq_true_eq decide_eq_false_iff_not Bool.and_eq_true Bool.or_eq_true Bool.not_eq_true' Bool.not_eq_false' condG List.toList_toArray Bool.or_eq_false_iff Bool.and_eq_false_iff Int.not_lt Int.not_le beq_iff_eq beq_eq_false_iff_ne bne_iff_ne bne_eq_false_iff_eq ne_eq Bool.not_true Bool.not_false exists_and_left
section
open Go.Vc
attribute [local irreducible] Go.Vc.WP
attribute [local go_sem] cx0_t cx0_c
section
attribute [local go_sem] cxtoSymbol_t cxtoSymbol_c ktoSymbol oneSymbol
end
section
attribute [local go_sem] cxeqSymbol_t cxeqSymbol_c keqSymbol oneSymbol
end
section
attribute [local go_sem] cxszSymbol_t cxszSymbol_c kszSymbol oneSymbol
end
theorem extSymbol {a b : Symbol} (h0 : a.name = b.name) (h1 : a.start = b.start) (h2 : a.size = b.size) : a = b:=by cases a; cases b; simp_all
def mrkSymbol (v : Int) : Symbol := ⟨markT (v),v + 1,v + 1 + 1⟩
def marksSymbol (k : Int) (n : Nat) : List Symbol := (List.range n).map fun i : Nat=>mrkSymbol (k + 3 * (i : Int))
theorem marksSymbol_len (k : Int) (n : Nat) : (marksSymbol k n).length = n:=by simp [marksSymbol]
def halfSymbol (L : List Symbol) (k0 : Int) (k : Nat) : List Symbol := marksSymbol k0 k ++ L.drop k
theorem halfSymbol_len (L : List Symbol) (k0 : Int) (k : Nat) (h : k ≤ L.length) : (halfSymbol L k0 k).length = L.length:=by simp [halfSymbol,marksSymbol_len]; omega
theorem halfSymbol_set (L : List Symbol) (k0 : Int) (k : Nat) (h : k < L.length) : ((halfSymbol L k0 k).map encSymbol).set k (encSymbol (mrkSymbol (k0 + 3 * (k : Int)))) = (halfSymbol L k0 (k + 1)).map encSymbol := by
 rw [← List.map_set]
 congr 1
 unfold halfSymbol
 rw [List.set_append,if_neg (by simp [marksSymbol_len]),marksSymbol_len,Nat.sub_self,List.drop_eq_getElem_cons h,List.set_cons_zero]
 simp [marksSymbol,List.range_succ]
noncomputable def cxMkSymbol := mkX [(108,kmarkT)] (COk.cons cmarkT (COk.nil _))
theorem cxMkSymbol_t : cxMkSymbol.tys = tys := rfl
theorem cxMkSymbol_c : cxMkSymbol.C = [(108,kmarkT)] := rfl
attribute [local go_sem] cxMkSymbol_t cxMkSymbol_c kmarkT
def kmarkSymbolE : Ctr := len [0] [] (fun args obs=>(decSymbol (oR obs 1000000),aI args 1,oE obs 1000000)) (fun x=>[.own 1000000,.v (.int .i64 x.2.1)]) (fun x=>[(1000000,.sl x.2.2 3 (x.1.map encSymbol))]) (fun x=>x.1.length ≤ 4398046511104 ∧ 0 ≤ x.2.1 ∧ x.2.1 ≤ 500000000000000)
 (fun _ x=>.v (.int .i64 (x.2.1 + 3 * x.1.length))) (fun _ _=>[]) (fun x=>[(1000000,.sl x.2.2 3 ((marksSymbol x.2.1 x.1.length).map encSymbol))])
theorem cmarkSymbolE : Cn Tryz.prog 127 kmarkSymbolE := by
 refine Cn.len Tryz.func127 (by kernel_rfl) rfl fun d x hd hx=>?_
 obtain ⟨L,k0,ee⟩ := x
 obtain ⟨hL,h0,h1⟩ := hx
 simp only at hL h0 h1 ⊢
 refine HoldsL.go (c := cxMkSymbol) Tryz.func127 rfl Tryz.results127 Tryz.ntmps127 (by omega) (by simp) rfl (by simp <;> omega) (by simp [SV.owns2,SV.owns,SV.owns1]) (by simp) rfl rfl (by simp) ?_
 intro X0 M w0
 (repeat' (first|apply zS|apply zB|((first|apply zR|apply zC|apply zT|apply zE|apply zK);simp only [go_sem])|apply And.intro|intro _))
 refine zL (fun k : Nat=>⟨[(0,.own 1000000),(1,.v (.int .i64 (k0 + 3 * (k : Int)))),(5,.v (.int .i64 k))],[(1000000,.sl ee 3 ((halfSymbol L k0 k).map encSymbol))]⟩) (fun k=>k ≤ L.length) (fun k=>L.length - k) 0 (by omega) ?_ ?_
 ·have e : halfSymbol L k0 0 = L:=by simp [halfSymbol,marksSymbol]
  rw [e]; (simp only [go_sem] <;> (first|(and_intros <;> rfl)|simp))
 intro k hk
 have h2 := halfSymbol_len L k0 k hk
 by_cases hlt : k < L.length
 ·have h3 := halfSymbol_set L k0 k hlt
  rw [encSymbol,mrkSymbol] at h3
  simp only at h3
  have h4 := rowAt_map encSymbol (halfSymbol L k0 k) k (by omega)
  have h5 : ∀ r : List SV,Go.Vc.rowAt (((halfSymbol L k0 k).map encSymbol).set k r) k = r := fun r=>rowAt_set _ _ _ (by rw [List.length_map]; omega)
  (repeat' (first|apply zS|apply zB|((first|apply zR|apply zC|apply zT|apply zE|apply zK);simp only [go_sem,h2,h3,h4,h5,encSymbol,List.set_set,List.length_set])|apply And.intro|intro _))
  all_goals first|omega|skip
  refine ⟨k + 1,by omega,by omega,⟨?_,rfl⟩,rfl⟩
  rw [show k0 + 3 * (k : Int) + 1 + 1 + 1 = k0 + 3 * ((k + 1 : Nat) : Int) by omega]
 ·have h5 : halfSymbol L k0 k = marksSymbol k0 L.length:=by rw [show k = L.length by omega]; simp [halfSymbol]
  have h6 := marksSymbol_len k0 L.length
  (repeat' (first|apply zS|apply zB|((first|apply zR|apply zC|apply zT|apply zE|apply zK);simp only [go_sem,h2,h5,h6])|apply And.intro|intro _))
  all_goals first|omega|skip
  all_goals rw [show k = L.length by omega]
def kheldSymbolS : Ctr := pur (fun args=>(decSymbol (aR args 0),aI args 1)) (fun x=>[.sl 3 (x.1.map encSymbol),.v (.int .i64 x.2)]) (fun x=>x.1.length ≤ 4398046511104 ∧ 0 ≤ x.2 ∧ x.2 ≤ 500000000000000)
 (fun _ x=>.v (.int .i64 (if x.1 = marksSymbol x.2 x.1.length then x.2 + 3 * x.1.length else -1))) (fun _ _=>[])
theorem cheldSymbolS : Cn Tryz.prog 128 kheldSymbolS := by
 refine Cn.pur Tryz.func128 (by kernel_rfl) rfl fun d x hx=>?_
 obtain ⟨L,k0⟩ := x
 obtain ⟨hL,h0,h1⟩ := hx
 simp only at hL h0 h1 ⊢
 refine Holds.go (c := cxMkSymbol) Tryz.func128 rfl Tryz.results128 Tryz.ntmps128 (by omega) (by simp) rfl ?_
 intro X0 w0
 (repeat' (first|apply zS|apply zB|((first|apply zR|apply zC|apply zT|apply zE|apply zK| refine zD 8 (by decide +kernel) (by kernel_rfl) ?_); simp only [go_sem])|apply And.intro|intro _))
 refine zL (fun k : Nat=>⟨[(0,.sl 3 (L.map encSymbol)),(1,.v (.int .i64 (k0 + 3 * (k : Int)))),(5,.v (.int .i64 k))],[]⟩) (fun k=>k ≤ L.length ∧ L.take k = marksSymbol k0 k) (fun k=>L.length - k) 0 (by simp [marksSymbol]) ?_ ?_
 ·(simp only [go_sem] <;> (first|(and_intros <;> rfl)|simp))
 intro k ⟨hk,ht⟩
 by_cases hlt : k < L.length
 ·have h3 := rowAt_map encSymbol L k hlt
  (repeat' (first|apply zS|apply zB|((first|apply zR|apply zC|apply zT|apply zE|apply zK| refine zD 8 (by decide +kernel) (by kernel_rfl) ?_); simp only [go_sem,h3,encSymbol])|apply And.intro|intro _))
  all_goals first|omega|skip
  ·rename_i hne
   rw [if_neg]
   intro e
   have e2 : L[k] = (marksSymbol k0 L.length)[k]'(by rw [marksSymbol_len]; exact hlt):=by congr 1
   exact hne (by rw [e2]; simp [marksSymbol,mrkSymbol])
  ·rename_i hne
   rw [if_neg]
   intro e
   have e2 : L[k] = (marksSymbol k0 L.length)[k]'(by rw [marksSymbol_len]; exact hlt):=by congr 1
   exact hne (by rw [e2]; simp [marksSymbol,mrkSymbol])
  ·rename_i hne
   rw [if_neg]
   intro e
   have e2 : L[k] = (marksSymbol k0 L.length)[k]'(by rw [marksSymbol_len]; exact hlt):=by congr 1
   exact hne (by rw [e2]; simp [marksSymbol,mrkSymbol])
  ·rename_i g0 g1 g2
   refine ⟨k + 1,⟨by omega,?_⟩,by omega,?_,rfl⟩
   ·have he : L[k] = mrkSymbol (k0 + 3 * (k : Int)) := extSymbol g0 g1 g2
    rw [List.take_succ_eq_append_getElem hlt,ht,he]; simp [marksSymbol,List.range_succ]
   ·rw [show k0 + 3 * (k : Int) + 1 + 1 + 1 = k0 + 3 * ((k + 1 : Nat) : Int) by omega]
 ·(repeat' (first|apply zS|apply zB|((first|apply zR|apply zC|apply zT|apply zE|apply zK| refine zD 8 (by decide +kernel) (by kernel_rfl) ?_); simp only [go_sem])|apply And.intro|intro _))
  all_goals first|omega|skip
  rw [show k = L.length by omega,List.take_length] at ht
  rw [if_pos ht,show k = L.length by omega]
end
section
open Go.Vc
attribute [local irreducible] Go.Vc.WP
attribute [local go_sem] cx0_t cx0_c
def k18E : Ctr := len [0] [] (fun args obs=>(decI (oR obs 1000000),aI args 1,oE obs 1000000)) (fun x=>[.own 1000000,.v (.int .i64 x.2.1)]) (fun x=>[(1000000,.sl x.2.2 1 (x.1.map encI))]) (fun x=>x.1.length ≤ 4398046511104 ∧ 0 ≤ x.2.1 ∧ x.2.1 ≤ 500000000000000)
 (fun _ x=>.v (.int .i64 (x.2.1 + x.1.length))) (fun _ _=>[]) (fun x=>[(1000000,.sl x.2.2 1 ((marksI x.2.1 x.1.length).map encI))])
theorem c18E : Cn Tryz.prog 107 k18E := by
 refine Cn.len Tryz.func107 (by kernel_rfl) rfl fun d x hd h=>?_
 obtain ⟨L,k0,ee⟩ := x
 obtain ⟨hL,h0,h1⟩ := h
 simp only at hL h0 h1 ⊢
 refine HoldsL.go (c := cx0) Tryz.func107 rfl Tryz.results107 Tryz.ntmps107 (by omega) (by simp) rfl (by simp) (by simp [SV.owns2,SV.owns,SV.owns1]) (by simp) rfl rfl (by simp) ?_
 intro X0 M w0
 (repeat' (first|apply zS|apply zB|((first|apply zR|apply zC|apply zT|apply zE|apply zK);simp only [go_sem])|apply And.intro|intro _))
 refine zL (fun k : Nat=>⟨[(0,.own 1000000),(1,.v (.int .i64 (k0 + k))),(5,.v (.int .i64 k))],[(1000000,.sl ee 1 ((halfI L k0 k).map encI))]⟩) (fun k=>k ≤ L.length) (fun k=>L.length - k) 0 (by omega) ?_ ?_
 ·have e : halfI L k0 0 = L:=by simp [halfI,marksI]
  rw [e]; simp only [go_sem]; simp
 intro k hk
 have h2 := halfI_len L k0 k hk
 by_cases hlt : k < L.length
 ·have h3 := halfI_set L k0 k hlt
  rw [encI] at h3
  have h4 := rowAt_map encI (halfI L k0 k) k (by omega)
  (repeat' (first|apply zS|apply zB|((first|apply zR|apply zC|apply zT|apply zE|apply zK);simp only [go_sem,h2,h3,h4,encI])|apply And.intro|intro _))
  all_goals first|omega|skip
  refine ⟨k + 1,by omega,by omega,⟨?_,rfl⟩,rfl⟩
  rw [show k0 + (k : Int) + 1 = k0 + ((k + 1 : Nat) : Int) by omega]
 ·have h5 : halfI L k0 k = marksI k0 L.length:=by rw [show k = L.length by omega]; simp [halfI]
  have h6 := marksI_len k0 L.length
  (repeat' (first|apply zS|apply zB|((first|apply zR|apply zC|apply zT|apply zE|apply zK);simp only [go_sem,h2,h5,h6])|apply And.intro|intro _))
  all_goals first|omega|skip
  rw [show k = L.length by omega]
end
end Go.Proofs.YtoomncljmgcidaaGreat
namespace Go.Proofs.YtoomncljmgcidaaGreat
open Go.Vc
attribute [local irreducible] Go.Vc.WP
attribute [local go_sem] cx0_t cx0_c
attribute [local go_sem] decI_enc decImage_enc spA decS_enc decMach_enc oneMach_f mach_eta pcA rgA seA decSymbol_enc tmA tm_eta ghoK St.gho St.gh SV.flat allVs_I allVs_Symbol
def cntImg (x : Image) : Nat := 1 + 3 * x.symbols.length
def mrkImg (k : Int) (x : Image) : Image := ⟨markT k,marksSymbol (k + 1) x.symbols.length⟩
def cntMach (x : Mach) : Nat := 5 + x.stack.length + x.out.length
def mrkMach (k : Int) (x : Mach) : Mach := ⟨k,k + 1,k + 1 + 1,marksI (k + 1 + 1 + 1) x.stack.length,marksI (k + 1 + 1 + 1 + (x.stack.length : Int)) x.out.length,k + 1 + 1 + 1 + (x.stack.length : Int) + (x.out.length : Int),k + 1 + 1 + 1 + (x.stack.length : Int) + (x.out.length : Int) + 1⟩
theorem cntImg_le {I : List Image} (hL : I.length ≤ 2097152) (hY : ∀ x ∈ I,x.symbols.length ≤ 2097152) : cntA cntImg I ≤ 17592186044416 :=
 Nat.le_trans (cntA_le I 8388608 fun x hx=>by have := hY x hx; unfold cntImg; omega) (Nat.le_trans (Nat.mul_le_mul_right _ hL) (by decide))
theorem cntMach_le {T : List Mach} (hL : T.length ≤ 1048576) (hY : ∀ x ∈ T,shMach x) : cntA cntMach T ≤ 17592186044416 :=
 Nat.le_trans (cntA_le T 8388608 fun x hx=>by have := hY x hx; unfold shMach at this; unfold cntMach; omega) (Nat.le_trans (Nat.mul_le_mul_right _ hL) (by decide))
def kmarkImgS : Ctr := len [0] [] (fun args obs=>(decImage (oD obs 1000000),aI args 1,oE obs 1000000)) (fun x=>[.own 1000000,.v (.int .i64 x.2.1)]) (fun x=>[(1000000,.dp x.2.2 2 (x.1.map encImage))]) (fun x=>(x.1.length ≤ 2097152 ∧ ∀ y ∈ x.1,y.symbols.length ≤ 2097152) ∧ 0 ≤ x.2.1 ∧ x.2.1 ≤ 300000000000000)
 (fun _ x=>.v (.int .i64 (x.2.1 + (cntA cntImg x.1 : Int)))) (fun _ _=>[]) (fun x=>[(1000000,.dp x.2.2 2 ((mkA cntImg mrkImg x.2.1 x.1).map encImage))])
section
noncomputable def cxMim := mkX [(108,kmarkT),(127,kmarkSymbolE)] (COk.cons cmarkT (COk.cons cmarkSymbolE (COk.nil _)))
theorem cxMim_t : cxMim.tys = tys := rfl
theorem cxMim_c : cxMim.C = [(108,kmarkT),(127,kmarkSymbolE)] := rfl
attribute [local go_sem] cxMim_t cxMim_c kmarkT kmarkSymbolE
theorem cmarkImgS : Cn Tryz.prog 106 kmarkImgS := by
 refine Cn.len Tryz.func106 (by kernel_rfl) rfl fun d x hd hx=>?_
 obtain ⟨L,k0,ee⟩ := x
 obtain ⟨⟨hL,hY⟩,h0,h1⟩ := hx
 simp only at hL hY h0 h1 ⊢
 have hcnt := cntImg_le hL hY
 refine HoldsL.go (c := cxMim) Tryz.func106 rfl Tryz.results106 Tryz.ntmps106 (by omega) (by simp) rfl (by simp <;> omega) (by simp [SV.owns2,SV.owns,SV.owns1]) (by simp) rfl rfl (by simp) ?_
 intro X0 M w0
 (repeat' (first|apply zS|apply zB|((first|apply zR|apply zC|apply zT|apply zE|apply zK);simp only [go_sem])|apply And.intro|intro _))
 refine zL (fun k : Nat=>⟨[(0,.own 1000000),(1,.v (.int .i64 (k0 + (cntA cntImg (L.take k) : Int)))),(5,.v (.int .i64 k))],[(1000000,.dp ee 2 ((hfA cntImg mrkImg k0 L k).map encImage))]⟩) (fun k=>k ≤ L.length) (fun k=>L.length - k) 0 (by omega) ?_ ?_
 ·have e2 : cntA cntImg (L.take 0) = 0 := rfl
  rw [hfA_zero,e2]; (simp only [go_sem] <;> (first|(and_intros <;> rfl)|simp))
 intro k hk
 have h2 := hfA_len (cnt := cntImg) (mrk := mrkImg) L k0 k hk
 have hc2 := cntA_take_le (cnt := cntImg) L k
 by_cases hlt : k < L.length
 ·have h3 := hfA_set (cnt := cntImg) (mrk := mrkImg) (en := encImage) L k0 k hlt
  have h4 := hfA_row (cnt := cntImg) (mrk := mrkImg) (en := encImage) L k0 k hlt
  have hsh := hY _ (List.getElem_mem hlt)
  have hc3 := cntA_take (cnt := cntImg) L k hlt
  have hc4 := cntA_take_le (cnt := cntImg) L (k + 1)
  generalize L[k] = y at h3 h4 hsh hc3
  obtain ⟨yc,yY⟩ := y
  generalize hkk : k0 + (cntA cntImg (L.take k) : Int) = kk at h3
  rw [encImage,mrkImg] at h3
  rw [encImage] at h4
  simp only at h3 h4 hsh
  rw [show cntImg ⟨yc,yY⟩ = 1 + 3 * yY.length from rfl] at hc3
  refine zO [.abs 1000000 1,.fld 1000000] ?_
  refine zG [.opn 1000000 k,.borV 1000000 1 500] ?_
  simp only [go_sem,h2,h4]
  refine ⟨hlt,fun e1=>?_⟩
  (repeat' (first|apply zS|apply zB|((first|apply zR|apply zC|apply zT|apply zE|apply zK);simp only [go_sem,h2,h3,h4])|apply And.intro|intro _))
  all_goals first|omega|skip
  refine ⟨k + 1,by omega,by omega,⟨?_,rfl⟩,rfl⟩
  rw [show kk + 1 + 3 * (yY.length : Int) = k0 + (cntA cntImg (List.take (k + 1) L) : Int) by omega]
 ·have h5 : hfA cntImg mrkImg k0 L k = mkA cntImg mrkImg k0 L:=by rw [show k = L.length by omega]; exact hfA_all _ _
  have h6 := mkA_len (cnt := cntImg) (mrk := mrkImg) L k0
  (repeat' (first|apply zS|apply zB|((first|apply zR|apply zC|apply zT|apply zE|apply zK);simp only [go_sem,h2,h5,h6])|apply And.intro|intro _))
  all_goals first|omega|skip
  all_goals rw [show k = L.length by omega,List.take_length]
end
def kmarkMachS : Ctr := len [0] [] (fun args obs=>(decMach (oD obs 1000000),aI args 1,oE obs 1000000)) (fun x=>[.own 1000000,.v (.int .i64 x.2.1)]) (fun x=>[(1000000,.dp x.2.2 7 (x.1.map encMach))]) (fun x=>(x.1.length ≤ 1048576 ∧ ∀ y ∈ x.1,shMach y) ∧ 0 ≤ x.2.1 ∧ x.2.1 ≤ 300000000000000)
 (fun _ x=>.v (.int .i64 (x.2.1 + (cntA cntMach x.1 : Int)))) (fun _ _=>[]) (fun x=>[(1000000,.dp x.2.2 7 ((mkA cntMach mrkMach x.2.1 x.1).map encMach))])
section
noncomputable def cxMma := mkX [(107,k18E)] (COk.cons c18E (COk.nil _))
theorem cxMma_t : cxMma.tys = tys := rfl
theorem cxMma_c : cxMma.C = [(107,k18E)] := rfl
attribute [local go_sem] cxMma_t cxMma_c k18E
set_option maxHeartbeats 3000000 in
theorem cmarkMachS : Cn Tryz.prog 73 kmarkMachS := by
 refine Cn.len Tryz.func73 (by kernel_rfl) rfl fun d x hd hx=>?_
 obtain ⟨L,k0,ee⟩ := x
 obtain ⟨⟨hL,hY⟩,h0,h1⟩ := hx
 simp only at hL hY h0 h1 ⊢
 have hcnt := cntMach_le hL hY
 refine HoldsL.go (c := cxMma) Tryz.func73 rfl Tryz.results73 Tryz.ntmps73 (by omega) (by simp) rfl (by simp <;> omega) (by simp [SV.owns2,SV.owns,SV.owns1]) (by simp) rfl rfl (by simp) ?_
 intro X0 M w0
 (repeat' (first|apply zS|apply zB|((first|apply zR|apply zC|apply zT|apply zE|apply zK);simp only [go_sem])|apply And.intro|intro _))
 refine zL (fun k : Nat=>⟨[(0,.own 1000000),(1,.v (.int .i64 (k0 + (cntA cntMach (L.take k) : Int)))),(5,.v (.int .i64 k))],[(1000000,.dp ee 7 ((hfA cntMach mrkMach k0 L k).map encMach))]⟩) (fun k=>k ≤ L.length) (fun k=>L.length - k) 0 (by omega) ?_ ?_
 ·have e2 : cntA cntMach (L.take 0) = 0 := rfl
  rw [hfA_zero,e2]; (simp only [go_sem] <;> (first|(and_intros <;> rfl)|simp))
 intro k hk
 have h2 := hfA_len (cnt := cntMach) (mrk := mrkMach) L k0 k hk
 have hc2 := cntA_take_le (cnt := cntMach) L k
 by_cases hlt : k < L.length
 ·have h3 := hfA_set (cnt := cntMach) (mrk := mrkMach) (en := encMach) L k0 k hlt
  have h4 := hfA_row (cnt := cntMach) (mrk := mrkMach) (en := encMach) L k0 k hlt
  have hsh := hY _ (List.getElem_mem hlt)
  have hc3 := cntA_take (cnt := cntMach) L k hlt
  have hc4 := cntA_take_le (cnt := cntMach) L (k + 1)
  generalize L[k] = y at h3 h4 hsh hc3
  obtain ⟨y1,y2,y3,yS,yO,y6,y7⟩ := y
  obtain ⟨hS,hO⟩ := hsh
  generalize hkk : k0 + (cntA cntMach (L.take k) : Int) = kk at h3
  rw [encMach,mrkMach] at h3
  rw [encMach] at h4
  simp only at h3 h4 hS hO
  rw [show cntMach ⟨y1,y2,y3,yS,yO,y6,y7⟩ = 5 + yS.length + yO.length from rfl] at hc3
  refine zO [.abs 1000000 3,.abs 1000000 4,.fld 1000000] ?_
  refine zG [.opn 1000000 k,.borV 1000000 3 500,.borV 1000000 4 501] ?_
  simp only [go_sem,h2,h4]
  refine ⟨hlt,fun e1 e2=>?_⟩
  (repeat' (first|apply zS|apply zB|((first|apply zR|apply zC|apply zT|apply zE|apply zK);simp only [go_sem,h2,h3,h4])|apply And.intro|intro _))
  all_goals first|omega|skip
  refine ⟨k + 1,by omega,by omega,⟨?_,rfl⟩,rfl⟩
  rw [show kk + 1 + 1 + 1 + (yS.length : Int) + (yO.length : Int) + 1 + 1 = k0 + (cntA cntMach (List.take (k + 1) L) : Int) by omega]
 ·have h5 : hfA cntMach mrkMach k0 L k = mkA cntMach mrkMach k0 L:=by rw [show k = L.length by omega]; exact hfA_all _ _
  have h6 := mkA_len (cnt := cntMach) (mrk := mrkMach) L k0
  (repeat' (first|apply zS|apply zB|((first|apply zR|apply zC|apply zT|apply zE|apply zK);simp only [go_sem,h2,h5,h6])|apply And.intro|intro _))
  all_goals first|omega|skip
  all_goals rw [show k = L.length by omega,List.take_length]
end
def kheldImgS : Ctr := pur (fun args=>(decImage (aR args 0),aI args 1)) (fun x=>[.sl 2 (x.1.map encImage),.v (.int .i64 x.2)]) (fun x=>(x.1.length ≤ 2097152 ∧ ∀ y ∈ x.1,y.symbols.length ≤ 2097152) ∧ (0 ≤ x.2 ∧ x.2 ≤ 300000000000000) ∧ mkA cntImg mrkImg x.2 x.1 = x.1) (fun _ x=>.v (.int .i64 (x.2 + (cntA cntImg x.1 : Int)))) (fun _ _=>[])
section
noncomputable def cxHim := mkX [(108,kmarkT),(128,kheldSymbolS)] (COk.cons cmarkT (COk.cons cheldSymbolS (COk.nil _)))
theorem cxHim_t : cxHim.tys = tys := rfl
theorem cxHim_c : cxHim.C = [(108,kmarkT),(128,kheldSymbolS)] := rfl
attribute [local go_sem] cxHim_t cxHim_c kmarkT kheldSymbolS
theorem cheldImgS : Cn Tryz.prog 109 kheldImgS := by
 refine Cn.pur Tryz.func109 (by kernel_rfl) rfl fun d x hx=>?_
 obtain ⟨L,k0⟩ := x
 obtain ⟨⟨hL,hY⟩,⟨h0,h1⟩,hmk⟩ := hx
 simp only at hL hY h0 h1 hmk ⊢
 have hcnt := cntImg_le hL hY
 refine Holds.go (c := cxHim) Tryz.func109 rfl Tryz.results109 Tryz.ntmps109 (by omega) (by simp) rfl ?_
 intro X0 w0
 (repeat' (first|apply zS|apply zB|((first|apply zR|apply zC|apply zT|apply zE|apply zK| refine zD 8 (by decide +kernel) (by kernel_rfl) ?_); simp only [go_sem])|apply And.intro|intro _))
 refine zL (fun k : Nat=>⟨[(0,.sl 2 (L.map encImage)),(1,.v (.int .i64 (k0 + (cntA cntImg (L.take k) : Int)))),(5,.v (.int .i64 k))],[]⟩) (fun k=>k ≤ L.length) (fun k=>L.length - k) 0 (by omega) ?_ ?_
 ·have e2 : cntA cntImg (L.take 0) = 0 := rfl
  rw [e2]; (simp only [go_sem] <;> (first|(and_intros <;> rfl)|simp))
 intro k hk
 have hc2 := cntA_take_le (cnt := cntImg) L k
 by_cases hlt : k < L.length
 ·have h1r := rowAt_map encImage L k hlt
  have hsh := hY _ (List.getElem_mem hlt)
  have hc3 := cntA_take (cnt := cntImg) L k hlt
  have hc4 := cntA_take_le (cnt := cntImg) L (k + 1)
  have hg : L[k] = mrkImg (k0 + (cntA cntImg (L.take k) : Int)) L[k] := by
   have := mkA_get (cnt := cntImg) (mrk := mrkImg) L k0 k hlt
   rw [← this]; congr 1; exact hmk.symm
  generalize L[k] = y at h1r hsh hc3 hg
  obtain ⟨yc,yY⟩ := y
  generalize hkk : k0 + (cntA cntImg (L.take k) : Int) = kk at hg
  rw [mrkImg] at hg
  simp only [Image.mk.injEq] at hg
  obtain ⟨g1,g2⟩ := hg
  rw [encImage] at h1r
  simp only at h1r hsh
  rw [show cntImg ⟨yc,yY⟩ = 1 + 3 * yY.length from rfl] at hc3
  subst g1
  have g3 : (if yY = marksSymbol (kk + 1) yY.length then kk + 1 + 3 * (yY.length : Int) else -1) = kk + 1 + 3 * (yY.length : Int) := if_pos g2
  (repeat' (first|apply zS|apply zB|((first|apply zR|apply zC|apply zT|apply zE|apply zK| refine zD 8 (by decide +kernel) (by kernel_rfl) ?_); simp only [go_sem,h1r,g3])|apply And.intro|intro _))
  all_goals first|omega|skip
  all_goals first|(refine ⟨k + 1,by omega,by omega,?_,rfl⟩; rw [show kk + 1 + 3 * (yY.length : Int) = k0 + (cntA cntImg (List.take (k + 1) L) : Int) by omega])|skip
 ·(repeat' (first|apply zS|apply zB|((first|apply zR|apply zC|apply zT|apply zE|apply zK| refine zD 8 (by decide +kernel) (by kernel_rfl) ?_); simp only [go_sem])|apply And.intro|intro _))
  all_goals first|omega|skip
  all_goals rw [show k = L.length by omega,List.take_length]
end
def kheldMachS : Ctr := pur (fun args=>(decMach (aR args 0),aI args 1)) (fun x=>[.sl 7 (x.1.map encMach),.v (.int .i64 x.2)]) (fun x=>(x.1.length ≤ 1048576 ∧ ∀ y ∈ x.1,shMach y) ∧ (0 ≤ x.2 ∧ x.2 ≤ 300000000000000) ∧ mkA cntMach mrkMach x.2 x.1 = x.1) (fun _ x=>.v (.int .i64 (x.2 + (cntA cntMach x.1 : Int)))) (fun _ _=>[])
section
noncomputable def cxHma := mkX [(110,k19)] (COk.cons c19 (COk.nil _))
theorem cxHma_t : cxHma.tys = tys := rfl
theorem cxHma_c : cxHma.C = [(110,k19)] := rfl
attribute [local go_sem] cxHma_t cxHma_c k19
set_option maxHeartbeats 3000000 in
theorem cheldMachS : Cn Tryz.prog 76 kheldMachS := by
 refine Cn.pur Tryz.func76 (by kernel_rfl) rfl fun d x hx=>?_
 obtain ⟨L,k0⟩ := x
 obtain ⟨⟨hL,hY⟩,⟨h0,h1⟩,hmk⟩ := hx
 simp only at hL hY h0 h1 hmk ⊢
 have hcnt := cntMach_le hL hY
 refine Holds.go (c := cxHma) Tryz.func76 rfl Tryz.results76 Tryz.ntmps76 (by omega) (by simp) rfl ?_
 intro X0 w0
 (repeat' (first|apply zS|apply zB|((first|apply zR|apply zC|apply zT|apply zE|apply zK);simp only [go_sem])|apply And.intro|intro _))
 refine zL (fun k : Nat=>⟨[(0,.sl 7 (L.map encMach)),(1,.v (.int .i64 (k0 + (cntA cntMach (L.take k) : Int)))),(5,.v (.int .i64 k))],[]⟩) (fun k=>k ≤ L.length) (fun k=>L.length - k) 0 (by omega) ?_ ?_
 ·have e2 : cntA cntMach (L.take 0) = 0 := rfl
  rw [e2]; (simp only [go_sem] <;> (first|(and_intros <;> rfl)|simp))
 intro k hk
 have hc2 := cntA_take_le (cnt := cntMach) L k
 by_cases hlt : k < L.length
 ·have h1r := rowAt_map encMach L k hlt
  have hsh := hY _ (List.getElem_mem hlt)
  have hc3 := cntA_take (cnt := cntMach) L k hlt
  have hc4 := cntA_take_le (cnt := cntMach) L (k + 1)
  have hg : L[k] = mrkMach (k0 + (cntA cntMach (L.take k) : Int)) L[k] := by
   have := mkA_get (cnt := cntMach) (mrk := mrkMach) L k0 k hlt
   rw [← this]; congr 1; exact hmk.symm
  generalize L[k] = y at h1r hsh hc3 hg
  obtain ⟨y1,y2,y3,yS,yO,y6,y7⟩ := y
  obtain ⟨hS,hO⟩ := hsh
  generalize hkk : k0 + (cntA cntMach (L.take k) : Int) = kk at hg
  rw [mrkMach] at hg
  simp only [Mach.mk.injEq] at hg
  obtain ⟨g1,g2,g3,g4,g5,g6,g7⟩ := hg
  rw [encMach] at h1r
  simp only at h1r hS hO
  rw [show cntMach ⟨y1,y2,y3,yS,yO,y6,y7⟩ = 5 + yS.length + yO.length from rfl] at hc3
  subst y1 y2 y3 y6 y7
  have g8 : (if yS = marksI (kk + 1 + 1 + 1) yS.length then kk + 1 + 1 + 1 + (yS.length : Int) else -1) = kk + 1 + 1 + 1 + (yS.length : Int) := if_pos g4
  have g9 : (if yO = marksI (kk + 1 + 1 + 1 + (yS.length : Int)) yO.length then kk + 1 + 1 + 1 + (yS.length : Int) + (yO.length : Int) else -1) = kk + 1 + 1 + 1 + (yS.length : Int) + (yO.length : Int) := if_pos g5
  (repeat' (first|apply zS|apply zB|((first|apply zR|apply zC|apply zT|apply zE|apply zK);simp only [go_sem,h1r,g8,g9])|apply And.intro|intro _))
  all_goals first|omega|skip
  all_goals first|(refine ⟨k + 1,by omega,by omega,?_,rfl⟩; rw [show kk + 1 + 1 + 1 + (yS.length : Int) + (yO.length : Int) + 1 + 1 = k0 + (cntA cntMach (List.take (k + 1) L) : Int) by omega])|skip
 ·(repeat' (first|apply zS|apply zB|((first|apply zR|apply zC|apply zT|apply zE|apply zK);simp only [go_sem])|apply And.intro|intro _))
  all_goals first|omega|skip
  all_goals rw [show k = L.length by omega,List.take_length]
end
end Go.Proofs.YtoomncljmgcidaaGreat

