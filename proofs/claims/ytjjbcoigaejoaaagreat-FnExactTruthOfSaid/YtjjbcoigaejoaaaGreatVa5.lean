/-
  DERIVED. Several texts of ours in one: VgTok, VcNs, VcFz, VcFr, VtLine, VpTok, VpProf, VgEntry, VpEnt, VpKeep, VpNbr, VpPrg, VpPrg2, VpPrg3, VpRun.
-/
import Derived.Test.YtjjbcoigaejoaaaGreatVa0
import Derived.Test.YtjjbcoigaejoaaaGreatVa1
import Derived.Test.YtjjbcoigaejoaaaGreatVa2
import Derived.Test.YtjjbcoigaejoaaaGreatVa3
import Derived.Test.YtjjbcoigaejoaaaGreatVa4
import Derived.Lib.Split
set_option linter.unusedSimpArgs false
set_option linter.unusedVariables false
set_option maxHeartbeats 1000000
set_option maxRecDepth 10000
namespace Go.Proofs.YtjjbcoigaejoaaaGreat
open Go.Vc
attribute [local go_sem] St.runR St.runW St.stepV offV St.step St.stepU St.stepG mkCond guardB St.prK St.pr St.prLen St.eff St.callE St.callD St.callF St.callL aI aS aR aC St.isM St.argL Ctr.pure Ctr.lend Ctr.move Ctr.isL Ctr.wri pur len lentBy St.lentV St.lent1 nthS argsR restOf obsR pairs swapL unObs backL St.resL erL SV.ren1 SV.up SV.up2 Ob.up St.fzL cellIds partIds St.intoRow SV.ownId St.fz SV.fz1 St.prep St.mvL St.mv SV.re1 rnOk St.prEq vals eqCells scEq Value.kd St.prStr St.prCut cutR St.bnd St.prMin St.bld isShift outL retL outJ oR oC oE oD SV.upq SV.isSl SV.shut St.deepK St.dpArg St.deepQ absC Ob.pl St.ev St.get St.put St.new St.kill SV.kill SV.kill1 Ob.kill St.app St.wrt St.rowsOf St.res St.killL lk er argsL SV.strip SV.need SV.share SV.share1 SV.owns SV.owns1 SV.owns2 SV.good SV.good1 SV.rok SV.rok1 SV.rok2 SV.isV SV.isV2 nodupN SV.cells SV.one SV.pur Ob.pb partsIn rowsIn splice cellsAt dstOk scal2 scal1 thenK blockK retK outK outs okC okL okA okT nilC nilL nilA nilT keepC keepL keepA keepT St.runG St.dltK St.least St.clean St.final St.hide offK badS badO SV.refs SV.leaf SV.leaf2 Ob.refs dlOk fpAt Go.Vc.cover tups SV.ofAgg St.out outC subL St.has rng wr Value.oneCell' Option.isSome_some Option.isSome_none List.nil_append Bool.false_eq_true List.map_cons List.map_nil List.all_cons List.all_nil List.length_cons List.length_nil List.drop_zero List.drop_succ_cons List.take_succ_cons List.take_zero List.drop_nil List.take_nil List.getElem?_cons_zero List.getElem?_cons_succ List.getElem?_nil List.cons_append List.nil_append List.append_nil List.append_assoc List.flatMap_cons List.flatMap_nil List.contains_cons List.contains_nil List.set_cons_zero List.set_cons_succ List.getElem?_toArray Option.getD_some Option.getD_none Option.map_some Option.map_none Option.bind_some Option.some.injEq Prod.mk.injEq if_true if_false true_and and_true and_self and_false false_and Bool.and_false Bool.false_and Bool.or_true Bool.true_or Bool.or_false Bool.false_or ne_eq not_true_eq_false not_false_eq_true decide_true decide_false List.mem_cons List.not_mem_nil List.filter_cons List.filter_nil List.any_cons List.any_nil List.isEmpty_nil List.isEmpty_cons Option.getD_none or_false false_or true_or or_true forall_eq_or_imp forall_eq reduceCtorEq exists_eq exists_eq' exists_eq_left' exists_eq_left exists_eq_right exists_eq_right' imp_self implies_true Bool.and_true Bool.true_and Bool.and_self beq_self_eq_true List.replicate_succ List.replicate_zero forall_const false_implies pickB_or pickB_and beqT beqF Int.toNat_natCast List.length_map List.length_replicate ge_iff_le gt_iff_lt decide_eq_true_eq decide_eq_false_iff_not Bool.and_eq_true Bool.or_eq_true Bool.not_eq_true' Bool.not_eq_false' condG List.toList_toArray Bool.or_eq_false_iff Bool.and_eq_false_iff Int.not_lt Int.not_le beq_iff_eq beq_eq_false_iff_ne bne_iff_ne bne_eq_false_iff_eq ne_eq Bool.not_true Bool.not_false exists_and_left
section
open Go.Vc
attribute [local irreducible] Go.Vc.WP
attribute [local go_sem] cx0_t cx0_c
structure Tok where
 kind : Int
 num : Int
 name : ByteArray
deriving DecidableEq
def encTok (x : Tok) : List SV := [.v (.int .i64 x.kind),.v (.int .i64 x.num),.v (.string x.name)]
def oneTok : List SV → Tok
 | [.v (.int _ kind),.v (.int _ num),.v (.string name)]=>⟨kind,num,name⟩
 | _=>⟨0,0,⟨#[]⟩⟩
def decTok (rows : List (List SV)) : List Tok := rows.map oneTok
theorem oneTok_enc (x : Tok) : oneTok (encTok x) = x := rfl
theorem decTok_enc (L : List Tok) : decTok (L.map encTok) = L := by
 unfold decTok
 rw [List.map_map]
 exact List.map_id'' oneTok_enc L
def zerTok : List SV := [.v (.int .i64 0),.v (.int .i64 0),.v (.string ⟨#[]⟩)]
def ktoTok : Ctr := pur (fun args=>oneTok (aC args 0)) (fun x=>[.agg (encTok x)]) (fun _=>True) (fun _ x=>.agg (encTok x)) (fun _ _=>[])
theorem ctoTok : Cn Tryz.prog 58 ktoTok := by
 refine Cn.pur Tryz.func58 (by kernel_rfl) rfl fun d x _=>?_
 refine Holds.go (c := cx0) Tryz.func58 rfl Tryz.results58 Tryz.ntmps58 (by omega) (by simp) rfl ?_
 intro X0 w0
 unfold encTok
 (repeat' (first|apply zS|apply zB|((first|apply zR|apply zC|apply zT|apply zE|apply zK);simp only [go_sem])|apply And.intro|intro _))
 all_goals first|omega|exact ⟨_,_,rfl,_,_,rfl,rfl⟩|skip
noncomputable def cxtoTok : Cx := { P := Tryz.prog,tys := tys,C := [(58,ktoTok)],hty := tysOk,hC := COk.cons ctoTok (COk.nil _) }
theorem cxtoTok_t : cxtoTok.tys = tys := rfl
theorem cxtoTok_c : cxtoTok.C = [(58,ktoTok)] := rfl
def ktoTokS : Ctr := pur (fun args=>decTok (aR args 0)) (fun L=>[.sl 3 (L.map encTok)]) (fun L=>L.length ≤ 2097152) (fun d _=>.own d) (fun d L=>[(d,.sl 79 3 (L.map encTok))])
section
attribute [local go_sem] cxtoTok_t cxtoTok_c ktoTok oneTok
theorem ctoTokS : Cn Tryz.prog 39 ktoTokS := by
 refine Cn.pur Tryz.func39 (by kernel_rfl) rfl fun d L hL=>?_
 refine Holds.go (c := cxtoTok) Tryz.func39 rfl Tryz.results39 Tryz.ntmps39 (by omega) (by simp) rfl ?_
 intro X0 w0
 (repeat' (first|apply zS|apply zB|((first|apply zR|apply zC|apply zT|apply zE|apply zK);simp only [go_sem])|apply And.intro|intro _))
 all_goals first|omega|skip
 refine zL (fun k : Nat=>⟨[(0,.sl 3 (L.map encTok)),(3,.own 7),(4,.v (.int .i64 k))],[(7,.sl 79 3 (filled encTok zerTok L k))]⟩) (fun k=>k ≤ L.length) (fun k=>L.length - k) 0 (by omega) ?_ ?_
 ·rw [filled_zero]; simp only [go_sem]; first|exact ⟨rfl,rfl⟩|rfl
 intro k hk
 by_cases hlt : k < L.length
 ·have h1 := rowAt_map encTok L k hlt
  have h2 := filled_len encTok zerTok L k hk
  have h3 : Go.Vc.rowAt (filled encTok zerTok L k) k = [.v (.int .i64 0),.v (.int .i64 0),.v (.string ⟨#[]⟩)] := filled_row encTok zerTok L k hlt
  have h4 := filled_set encTok zerTok L k hlt
  rw [encTok] at h4
  (repeat' (first|apply zS|apply zB|((first|apply zR|apply zC|apply zT|apply zE|apply zK);simp only [go_sem,h1,h2,h3,h4,encTok])|apply And.intro|intro _))
  all_goals first|omega|skip
  exact ⟨k + 1,by omega,by omega,rfl,rfl⟩
 ·have h2 := filled_len encTok zerTok L k hk
  have h5 : filled encTok zerTok L k = L.map encTok:=by rw [show k = L.length by omega]; exact filled_all _ _ _
  (repeat' (first|apply zS|apply zB|((first|apply zR|apply zC|apply zT|apply zE|apply zK);simp only [go_sem,h2,h5])|apply And.intro|intro _))
  all_goals first|omega|skip
end
def keqTok : Ctr := pur (fun args=>(oneTok (aC args 0),oneTok (aC args 1))) (fun x=>[.agg (encTok x.1),.agg (encTok x.2)]) (fun _=>True) (fun _ x=>.v (.bool (decide (x.1 = x.2)))) (fun _ _=>[])
theorem ceqTok : Cn Tryz.prog 69 keqTok := by
 refine Cn.pur Tryz.func69 (by kernel_rfl) rfl fun d x _=>?_
 obtain ⟨⟨a0,a1,a2⟩,⟨b0,b1,b2⟩⟩ := x
 refine Holds.go (c := cx0) Tryz.func69 rfl Tryz.results69 Tryz.ntmps69 (by omega) (by simp) rfl ?_
 intro X0 w0
 simp only [encTok]
 (repeat' (first|apply zS|apply zB|((first|apply zR|apply zC|apply zT|apply zE|apply zK);simp only [go_sem])|apply And.intro|intro _))
 all_goals simp_all
noncomputable def cxeqTok : Cx := { P := Tryz.prog,tys := tys,C := [(69,keqTok)],hty := tysOk,hC := COk.cons ceqTok (COk.nil _) }
theorem cxeqTok_t : cxeqTok.tys = tys := rfl
theorem cxeqTok_c : cxeqTok.C = [(69,keqTok)] := rfl
def keqTokS : Ctr := pur (fun args=>(decTok (aR args 0),decTok (aR args 1))) (fun x=>[.sl 3 (x.1.map encTok),.sl 3 (x.2.map encTok)]) (fun x=>x.1.length ≤ 4398046511104) (fun _ x=>.v (.bool (decide (x.1 = x.2)))) (fun _ _=>[])
section
attribute [local go_sem] cxeqTok_t cxeqTok_c keqTok oneTok
theorem ceqTokS : Cn Tryz.prog 47 keqTokS := by
 refine Cn.pur Tryz.func47 (by kernel_rfl) rfl fun d x hL=>?_
 obtain ⟨L,M⟩ := x
 simp only at hL ⊢
 refine Holds.go (c := cxeqTok) Tryz.func47 rfl Tryz.results47 Tryz.ntmps47 (by omega) (by simp) rfl ?_
 intro X0 w0
 (repeat' (first|apply zS|apply zB|((first|apply zR|apply zC|apply zT|apply zE|apply zK);simp only [go_sem])|apply And.intro|intro _))
 ·simp; intro h; subst h; simp_all
 have hlen : L.length = M.length:=by omega
 refine zL (fun k : Nat=>⟨[(0,.sl 3 (L.map encTok)),(1,.sl 3 (M.map encTok)),(5,.v (.int .i64 k))],[]⟩) (fun k=>k ≤ L.length ∧ L.take k = M.take k) (fun k=>L.length - k) 0 (by simp) ?_ ?_
 ·simp only [go_sem]; rfl
 intro k ⟨hk,ht⟩
 by_cases hlt : k < L.length
 ·have h1 := rowAt_map encTok L k hlt
  have h2 := rowAt_map encTok M k (by omega)
  (repeat' (first|apply zS|apply zB|((first|apply zR|apply zC|apply zT|apply zE|apply zK| refine zD 10 (by kernel_rfl) (by kernel_rfl) ?_); simp only [go_sem,h1,h2,encTok])|apply And.intro|intro _))
  all_goals first|omega|skip
  ·rename_i hne
   rw [show decide (L = M) = false from decide_eq_false fun e=>by subst e; exact hne rfl]
  ·rename_i he
   refine ⟨k + 1,⟨by omega,?_⟩,by omega,rfl⟩
   have he' : L[k] = M[k] := he
   rw [List.take_succ_eq_append_getElem hlt,List.take_succ_eq_append_getElem (by omega : k < M.length),ht,he']
 ·(repeat' (first|apply zS|apply zB|((first|apply zR|apply zC|apply zT|apply zE|apply zK);simp only [go_sem])|apply And.intro|intro _))
  all_goals first|omega|skip
  rw [show decide (L = M) = true from decide_eq_true ?_]
  rw [show k = L.length by omega,List.take_length,hlen,List.take_length] at ht
  exact ht
end
def kszTok : Ctr := pur (fun args=>(oneTok (aC args 0),aI args 1)) (fun x=>[.agg (encTok x.1),.v (.int .i64 x.2)]) (fun x=>x.1.name.size ≤ maxLen ∧ 0 ≤ x.2 ∧ x.2 ≤ 1048576)
 (fun _ x=>.v (.int .i64 (if x.2 - x.1.name.size < 0 then -1 else x.2 - x.1.name.size))) (fun _ _=>[])
theorem cszTok : Cn Tryz.prog 50 kszTok := by
 refine Cn.pur Tryz.func50 (by kernel_rfl) rfl fun d x h=>?_
 obtain ⟨x,left⟩ := x
 obtain ⟨hL,h0,h1⟩ := h
 simp only at hL h0 h1 ⊢
 have hm : maxLen = 9223372036854775807 := rfl
 refine Holds.go (c := cx0) Tryz.func50 rfl Tryz.results50 Tryz.ntmps50 (by omega) (by simp) rfl ?_
 intro X0 w0
 simp only [encTok]
 (repeat' (first|apply zS|apply zB|((first|apply zR|apply zC|apply zT|apply zE|apply zK);simp only [go_sem])|apply And.intro|intro _))
 all_goals first|omega|skip
 ·rename_i h; rw [if_pos h]
 ·rename_i h; rw [if_neg (by omega)]
noncomputable def cxszTok : Cx := { P := Tryz.prog,tys := tys,C := [(50,kszTok)],hty := tysOk,hC := COk.cons cszTok (COk.nil _) }
theorem cxszTok_t : cxszTok.tys = tys := rfl
theorem cxszTok_c : cxszTok.C = [(50,kszTok)] := rfl
def sizesTok (L : List Tok) : List Nat := L.map fun x=>x.name.size
def szvTok (L : List Tok) (left : Int) : Int := if left - L.length < 0 then -1 else szGo (sizesTok L) (left - L.length)
def kszTokS : Ctr := pur (fun args=>(decTok (aR args 0),aI args 1)) (fun x=>[.sl 3 (x.1.map encTok),.v (.int .i64 x.2)]) (fun x=>x.1.length ≤ maxLen ∧ (∀ r ∈ x.1,r.name.size ≤ maxLen) ∧ 0 ≤ x.2 ∧ x.2 ≤ 1048576)
 (fun _ x=>.v (.int .i64 (szvTok x.1 x.2))) (fun _ _=>[])
section
attribute [local go_sem] cxszTok_t cxszTok_c kszTok oneTok
theorem cszTokS : Cn Tryz.prog 32 kszTokS := by
 refine Cn.pur Tryz.func32 (by kernel_rfl) rfl fun d x h=>?_
 obtain ⟨L,left⟩ := x
 obtain ⟨hL,hs,h0,h1⟩ := h
 simp only at hL hs h0 h1 ⊢
 have hm : maxLen = 9223372036854775807 := rfl
 refine Holds.go (c := cxszTok) Tryz.func32 rfl Tryz.results32 Tryz.ntmps32 (by omega) (by simp) rfl ?_
 intro X0 w0
 (repeat' (first|apply zS|apply zB|((first|apply zR|apply zC|apply zT|apply zE|apply zK);simp only [go_sem])|apply And.intro|intro _))
 all_goals first|omega|skip
 ·rename_i h; rw [szvTok,if_pos h]
 rename_i hge
 refine zL (fun s : Nat × Int=>⟨[(0,.sl 3 (L.map encTok)),(1,.v (.int .i64 s.2)),(5,.v (.int .i64 s.1))],[]⟩)
  (fun s=>s.1 ≤ L.length ∧ 0 ≤ s.2 ∧ s.2 ≤ 1048576 ∧ szvTok L left = szGo ((sizesTok L).drop s.1) s.2) (fun s=>L.length - s.1) (0,left - L.length)
  ⟨by simp,by simpa using hge,by simp only; omega,by rw [szvTok,if_neg (by omega)]; rfl⟩ ?_ ?_
 ·simp only [go_sem]; first|exact ⟨rfl,rfl⟩|rfl
 rintro ⟨k,r⟩ ⟨hk,hr0,hr1,he⟩
 simp only at hk hr0 hr1 he ⊢
 by_cases hlt : k < L.length
 ·have h2 := rowAt_map encTok L k hlt
  have h3 := hs _ (List.getElem_mem hlt)
  have h4 : szGo ((sizesTok L).drop k) r = if r - (L[k].name.size : Int) < 0 then -1 else szGo ((sizesTok L).drop (k + 1)) (r - (L[k].name.size : Int)) := by
   rw [szGo_drop (sizesTok L) k r (by simpa [sizesTok] using hlt)]
   simp only [sizesTok,List.getElem_map]
  (repeat' (first|apply zS|apply zB|((first|apply zR|apply zC|apply zT|apply zE|apply zK);simp only [go_sem,h2,encTok])|apply And.intro|intro _))
  all_goals first|omega|skip
  ·rename_i h
   have h5 : r - (L[k].name.size : Int) < 0 := by
    refine Int.not_le.1 fun h6=>?_
    rw [if_neg (by omega)] at h
    omega
   rw [he,h4,if_pos h5]
  ·rename_i h
   have h5 : ¬ r - (L[k].name.size : Int) < 0 := fun h6=>by
    rw [if_pos h6] at h
    omega
   rw [if_neg h5]
   refine ⟨(k + 1,r - L[k].name.size),⟨by simp only; omega,by simp only; omega,by simp only; omega,?_⟩,by simp only; omega,rfl,rfl⟩
   rw [he,h4,if_neg h5]
 ·(repeat' (first|apply zS|apply zB|((first|apply zR|apply zC|apply zT|apply zE|apply zK);simp only [go_sem])|apply And.intro|intro _))
  all_goals first|omega|skip
  rw [he,List.drop_of_length_le (by simp [sizesTok]; omega)]
  rfl
end
def mrkTok (v : Int) : Tok := ⟨v,v + 1,markT (v + 1 + 1)⟩
def marksTok (k : Int) (n : Nat) : List Tok := (List.range n).map fun i : Nat=>mrkTok (k + 3 * (i : Int))
theorem marksTok_len (k : Int) (n : Nat) : (marksTok k n).length = n:=by simp [marksTok]
def halfTok (L : List Tok) (k0 : Int) (k : Nat) : List Tok := marksTok k0 k ++ L.drop k
theorem halfTok_len (L : List Tok) (k0 : Int) (k : Nat) (h : k ≤ L.length) : (halfTok L k0 k).length = L.length:=by simp [halfTok,marksTok_len]; omega
theorem halfTok_set (L : List Tok) (k0 : Int) (k : Nat) (h : k < L.length) : ((halfTok L k0 k).map encTok).set k (encTok (mrkTok (k0 + 3 * (k : Int)))) = (halfTok L k0 (k + 1)).map encTok := by
 rw [← List.map_set]
 congr 1
 unfold halfTok
 rw [List.set_append,if_neg (by simp [marksTok_len]),marksTok_len,Nat.sub_self,List.drop_eq_getElem_cons h,List.set_cons_zero]
 simp [marksTok,List.range_succ]
noncomputable def cxMkTok := mkX [(24,kmarkT)] (COk.cons cmarkT (COk.nil _))
theorem cxMkTok_t : cxMkTok.tys = tys := rfl
theorem cxMkTok_c : cxMkTok.C = [(24,kmarkT)] := rfl
attribute [local go_sem] cxMkTok_t cxMkTok_c kmarkT
def kmarkTokE : Ctr := len [0] [] (fun args obs=>(decTok (oR obs 1000000),aI args 1,oE obs 1000000)) (fun x=>[.own 1000000,.v (.int .i64 x.2.1)]) (fun x=>[(1000000,.sl x.2.2 3 (x.1.map encTok))]) (fun x=>x.1.length ≤ 4398046511104 ∧ 0 ≤ x.2.1 ∧ x.2.1 ≤ 500000000000000)
 (fun _ x=>.v (.int .i64 (x.2.1 + 3 * x.1.length))) (fun _ _=>[]) (fun x=>[(1000000,.sl x.2.2 3 ((marksTok x.2.1 x.1.length).map encTok))])
theorem cmarkTokE : Cn Tryz.prog 26 kmarkTokE := by
 refine Cn.len Tryz.func26 (by kernel_rfl) rfl fun d x hd hx=>?_
 obtain ⟨L,k0,ee⟩ := x
 obtain ⟨hL,h0,h1⟩ := hx
 simp only at hL h0 h1 ⊢
 refine HoldsL.go (c := cxMkTok) Tryz.func26 rfl Tryz.results26 Tryz.ntmps26 (by omega) (by simp) rfl (by simp <;> omega) (by simp [SV.owns2,SV.owns,SV.owns1]) (by simp) rfl rfl (by simp) ?_
 intro X0 M w0
 (repeat' (first|apply zS|apply zB|((first|apply zR|apply zC|apply zT|apply zE|apply zK);simp only [go_sem])|apply And.intro|intro _))
 refine zL (fun k : Nat=>⟨[(0,.own 1000000),(1,.v (.int .i64 (k0 + 3 * (k : Int)))),(5,.v (.int .i64 k))],[(1000000,.sl ee 3 ((halfTok L k0 k).map encTok))]⟩) (fun k=>k ≤ L.length) (fun k=>L.length - k) 0 (by omega) ?_ ?_
 ·have e : halfTok L k0 0 = L:=by simp [halfTok,marksTok]
  rw [e]; (simp only [go_sem] <;> (first|(and_intros <;> rfl)|simp))
 intro k hk
 have h2 := halfTok_len L k0 k hk
 by_cases hlt : k < L.length
 ·have h3 := halfTok_set L k0 k hlt
  rw [encTok,mrkTok] at h3
  simp only at h3
  have h4 := rowAt_map encTok (halfTok L k0 k) k (by omega)
  have h5 : ∀ r : List SV,Go.Vc.rowAt (((halfTok L k0 k).map encTok).set k r) k = r := fun r=>rowAt_set _ _ _ (by rw [List.length_map]; omega)
  (repeat' (first|apply zS|apply zB|((first|apply zR|apply zC|apply zT|apply zE|apply zK);simp only [go_sem,h2,h3,h4,h5,encTok,List.set_set,List.length_set])|apply And.intro|intro _))
  all_goals first|omega|skip
  refine ⟨k + 1,by omega,by omega,⟨?_,rfl⟩,rfl⟩
  rw [show k0 + 3 * (k : Int) + 1 + 1 + 1 = k0 + 3 * ((k + 1 : Nat) : Int) by omega]
 ·have h5 : halfTok L k0 k = marksTok k0 L.length:=by rw [show k = L.length by omega]; simp [halfTok]
  have h6 := marksTok_len k0 L.length
  (repeat' (first|apply zS|apply zB|((first|apply zR|apply zC|apply zT|apply zE|apply zK);simp only [go_sem,h2,h5,h6])|apply And.intro|intro _))
  all_goals first|omega|skip
  all_goals rw [show k = L.length by omega]
section
open Go.RowKit Go.WideShapes Go.ChangeShapes Go.Deep
theorem rowTok {H : Type} {enc : TypeId × Value → H} {w : World} : Dec H enc Tryz.prog w 82 encTok (fun x=>(IntKind.i64.min ≤ x.kind ∧ x.kind ≤ IntKind.i64.max) ∧ (IntKind.i64.min ≤ x.num ∧ x.num ≤ IntKind.i64.max) ∧ (x.name.size ≤ maxLen)) := by
 intro base sp held n cs y h
 obtain ⟨hlen,hf⟩ := trod_fields Tryz.underlying82 (by kernel_rfl) (by kernel_rfl) h
 obtain ⟨v0,n0,z0,e0,t0⟩ := hf 0 _ rfl
 obtain ⟨m0,q0,_,w0⟩ := DataW.trod_int Tryz.underlying3 t0
 simp only [List.cons.injEq,and_true] at q0
 subst q0
 obtain ⟨v1,n1,z1,e1,t1⟩ := hf 1 _ rfl
 obtain ⟨m1,q1,_,w1⟩ := DataW.trod_int Tryz.underlying3 t1
 simp only [List.cons.injEq,and_true] at q1
 subst q1
 obtain ⟨v2,n2,z2,e2,t2⟩ := hf 2 _ rfl
 obtain ⟨m2,q2,_,w2⟩ := DataW.trod_string Tryz.underlying9 t2
 simp only [List.cons.injEq,and_true] at q2
 subst q2
 have hcs : cs = [.int .i64 m0,.int .i64 m1,.string m2] := list_of_get hlen (fun j v hj=>by
  match j,hj with
  | 0,hj=>simp at hj; subst hj; exact e0
  | 1,hj=>simp at hj; subst hj; exact e1
  | 2,hj=>simp at hj; subst hj; exact e2
  | (j + 3),hj=>simp at hj)
 exact ⟨⟨m0,m1,m2⟩,⟨by simpa [Lit.wf] using w0,by simpa [Lit.wf] using w1,w2⟩,cells_vs (by rw [hcs]; rfl) (by rw [hcs]; intro u hu; simp only [List.mem_cons,List.not_mem_nil,or_false] at hu; rcases hu with rfl|rfl|rfl <;> rfl)⟩
end
end
end Go.Proofs.YtjjbcoigaejoaaaGreat
namespace Go.Vc
inductive Gh where
 |dp (id : Nat)
 |opn (id i : Nat)
 |bor (id k j : Nat)
 |borV (id k j : Nat)
 |abs (id k : Nat)
 |fld (id : Nat)
def SV.flat (c : SV) : Bool := match c with
 | .v _=>true
 | .sl _ _=>true
 | _=>false
def St.gh (st : St) (K : St → Prop) : Gh → Prop
 | .dp id=>match lk id st.hp with
  |some (.sl e s rows)=>allVs rows ∧ K (st.wrt id (.dp e s rows))
  |some (.dp e s rows)=>K st
  | _=>False
 | .opn id i=>match lk id st.hp with
  |some (.dp e s rows)=>i < rows.length ∧ K (st.wrt id (.dq e s rows i (rowAt rows i)))
  | _=>False
 | .bor id k j=>match lk id st.hp with
  |some (.dq e s rows i row0)=>match row0[k]? with
   |some (.sl s' rows')=>j < 1000000 ∧ j ≠ id ∧ ∀ e',K { fr := (st.kill j).fr,hp := (j,.dp e' s' rows') :: (id,.dq e s rows i ((row0.map (SV.upq (SV.kill j))).set k (.own j))) :: er id (st.kill j).hp }
   | _=>False
  | _=>False
 | .borV id k j=>match lk id st.hp with
  |some (.dq e s rows i row0)=>match row0[k]? with
   |some (.sl s' rows')=>j < 1000000 ∧ j ≠ id ∧ allVs rows' ∧ ∀ e',K { fr := (st.kill j).fr,hp := (j,.sl e' s' rows') :: (id,.dq e s rows i ((row0.map (SV.upq (SV.kill j))).set k (.own j))) :: er id (st.kill j).hp }
   | _=>False
  | _=>False
 | .abs id k=>match lk id st.hp with
  |some (.dq e s rows i row0)=>match row0[k]? with
   |some (.own j)=>j ≠ id ∧ (match lk j st.hp with
    |some (.sl e' s' rows')=>allVs rows' ∧ K { fr := (st.kill j).fr,hp := (id,.dq e s rows i ((row0.map (SV.upq (SV.kill j))).set k (.sl s' rows'))) :: er id (st.kill j).hp }
    |some (.dp e' s' rows')=>K { fr := (st.kill j).fr,hp := (id,.dq e s rows i ((row0.map (SV.upq (SV.kill j))).set k (.sl s' rows'))) :: er id (st.kill j).hp }
    | _=>False)
   | _=>False
  | _=>False
 | .fld id=>match lk id st.hp with
  |some (.dq e s rows i row0)=>(row0.all SV.flat) = true ∧ K (st.wrt id (.dp e s (rows.set i row0)))
  | _=>False
def St.gho (st : St) (K : St → Prop) : List Gh → Prop
 | []=>K st
 |g :: l=>st.gh (fun st'=>st'.gho K l) g
section
variable {N : Nat} {X0 : Nat → Prop} {M : Nat → BV → Prop} {w0 : World} {st : St} {β : Nat → BV} {a : Act} {w : World}
theorem Sim.reob (h : Sim N X0 M w0 st β a w) {j : Nat} {ob ob' : Ob} (hj : lk j st.hp = some ob) (hob : ObR w (XX X0 β st.hp) β (β j) ob → ObR w (XX X0 β st.hp) β (β j) ob') : Sim N X0 M w0 (st.wrt j ob') β a w :=
 h.write hj rfl rfl rfl (Nat.le_refl _) (fun _ _ _=>rfl) (hob (h.objs j ob hj))
theorem XX_ghost {hp' : List (Nat × Ob)} {β' : Nat → BV} (hft : ∀ id ob b,lk id hp' = some ob → (β' id).ft b → ∃ i o,lk i st.hp = some o ∧ (β i).ft b) {b : Nat} (hb : XX X0 β' hp' b) : XX X0 β st.hp b := by
 rcases hb with hb|⟨id,ob,hi,hb⟩
 ·exact .inl hb
 ·exact .inr (hft id ob b hi hb)
theorem Sim.ghost (h : Sim N X0 M w0 st β a w) {st' : St} {β' : Nat → BV} (hone : ∀ i,(β' i).val.oneCell' = true) (hpin : ∀ i,1000000 ≤ i → (β' i).val = (β i).val)
  (hft : ∀ id ob b,lk id st'.hp = some ob → (β' id).ft b → ∃ i o,lk i st.hp = some o ∧ (β i).ft b)
  (hslots : ∀ t x',lk t st'.fr = some x' → ∃ x,lk t st.fr = some x ∧ ∀ v,R w (XX X0 β' st'.hp) β x v → R w (XX X0 β' st'.hp) β' x' v)
  (hobjs : ∀ id ob,lk id st'.hp = some ob → ObR w (XX X0 β' st'.hp) β' (β' id) ob)
  (hinj : ∀ i j oi oj b,lk i st'.hp = some oi → lk j st'.hp = some oj → (β' i).ft b → (β' j).ft b → i = j) : Sim N X0 M w0 st' β' a w := by
 have hS : Same (XX X0 β st.hp) w w := ⟨Nat.le_refl _,fun _ _ _=>rfl⟩
 exact { h with
  beta := hone
  slots := fun t x hx=>by
   obtain ⟨y,h1,h2⟩ := hslots t x hx
   exact h2 _ ((h.slots t y h1).mono hS (fun b _ hb=>XX_ghost hft hb))
  objs := hobjs
  inj := hinj
  mine := fun id ob b hi hb=>by
   obtain ⟨i,o,h1,h2⟩ := hft id ob b hi hb
   exact h.mine i o b h1 h2
  pin := fun id u hm h1=>by rw [hpin id h1]; exact h.pin id u hm h1 }
theorem Dp.v_foot {x : Value} {v : Value} {F : Nat → Prop} (h : Dp w (.v x) v F) : v = x ∧ ∀ b,¬ F b := by
 cases h with
 |v _ F hF=>exact ⟨rfl,hF⟩
theorem Dp.v_of {c : SV} {v : Value} {F : Nat → Prop} (h : Dp w c v F) (hc : c.isSl = false) : c = .v v ∧ ∀ b,¬ F b := by
 cases h with
 |v _ F hF=>exact ⟨rfl,hF⟩
 |nil=>cases hc
 |sl=>cases hc
theorem ObR.sl_dp {X : Nat → Prop} {v : BV} {e s : Nat} {rows : List (List SV)} (h : ObR w X β v (.sl e s rows)) (hv : allVs rows) : ObR w X β v (.dp e s rows) := by
 cases h with
 |nil e s h=>subst h; exact .dp (.nil s _ (fun b hb=>by cases hb)) (fun b hb=>by cases hb)
 |sl b cap cur us hv' hh h1 h2 h3 h4 h5 h6 h7 =>
  subst hv'
  refine .dp (.sl e b cap cur us (fun _ _ _=>False) _ hh h1 h2 h3 h4 (fun i k q1 q2=>?_) (fun i k q1 q2=>?_) (fun i k row c q1 q2=>?_) (fun _ _ _ hf=>hf.elim) (fun _ _ hf=>hf) (fun _ _ _ _ _ hf=>hf.elim) (fun b'=>?_)) (fun b' hb=>?_)
  ·obtain ⟨row,c,r1,r2⟩ := row_cell h4 q1 q2
   exact h5 i k row c r1 r2
  ·obtain ⟨row,c,r1,r2⟩ := row_cell h4 q1 q2
   exact h6 i k row c r1 r2
  ·obtain ⟨x,rfl⟩ := hv row (List.mem_of_getElem? q1) c (List.mem_of_getElem? q2)
   have := h7 i k row _ q1 q2
   generalize us i k = u at this
   cases this
   exact .v x _ (fun _ hf=>hf)
  ·show blk (.slice (some ⟨b,0,none⟩) rows.length cap) = some b' ↔ _
   simp [blk,eq_comm]
  ·have hb' : some b = some b' := hb
   injection hb' with hb'
   subst hb'
   exact ⟨cur,hh⟩
theorem Dp.dp_sl {X : Nat → Prop} {s : Nat} {rows : List (List SV)} {v : Value} {F : Nat → Prop} (h : Dp w (.sl s rows) v F) (hv : allVs rows) : ∃ e,ObR w X β ⟨v,F⟩ (.sl e s rows) := by
 cases h with
 |nil s F hF=>exact ⟨0,.nil 0 s (by
   unfold nilB plain
   congr 1
   funext b
   exact propext ⟨fun h=>absurd h (hF b),fun h=>by cases h⟩)⟩
 |sl e b cap cur us fs F hh h1 h2 h3 h4 h5 h6 h7 h8 h9 h10 hF =>
  have hempty : ∀ i k b',¬ fs i k b' := fun i k b' hb=>by
   obtain ⟨q1,q2⟩ := h8 i k b' hb
   obtain ⟨row,c,r1,r2⟩ := row_cell h4 q1 q2
   obtain ⟨x,rfl⟩ := hv row (List.mem_of_getElem? r1) c (List.mem_of_getElem? r2)
   exact (h7 i k row _ r1 r2).v_foot.2 b' hb
  refine ⟨e,.sl b cap cur us ?_ hh h1 h2 h3 h4 (fun i k row c r1 r2=>h5 i k (row_lt h4 r1 r2).1 (row_lt h4 r1 r2).2) (fun i k row c r1 r2=>h6 i k (row_lt h4 r1 r2).1 (row_lt h4 r1 r2).2) (fun i k row c r1 r2=>?_)⟩
  ·unfold plain
   congr 1
   funext b'
   refine propext ((hF b').trans ⟨fun h=>?_,fun h=>.inl ?_⟩)
   ·rcases h with rfl|⟨i,k,h⟩
    ·rfl
    ·exact absurd h (hempty i k b')
   ·have hb' : some b = some b' := h
    injection hb' with hb'
    exact hb'.symm
  ·obtain ⟨x,rfl⟩ := hv row (List.mem_of_getElem? r1) c (List.mem_of_getElem? r2)
   have := (h7 i k row _ r1 r2).v_foot.1
   rw [this]
   exact .v x
theorem Dp.dp_ob {X : Nat → Prop} {s : Nat} {rows : List (List SV)} {v : Value} {F : Nat → Prop} (h : Dp w (.sl s rows) v F) : ∃ e,ObR w X β ⟨v,F⟩ (.dp e s rows) := by
 have h0 := h
 cases h with
 |nil s F hF=>exact ⟨0,.dp h0 (fun b hb=>by cases hb)⟩
 |sl e b cap cur us fs F hh=>exact ⟨e,.dp h0 (fun b' hb=>by
   have hb' : some b = some b' := hb
   injection hb' with hb'
   subst hb'
   exact ⟨cur,hh⟩)⟩
theorem ObR.dp_dq {X : Nat → Prop} {v : BV} {e s i : Nat} {rows : List (List SV)} (h : ObR w X β v (.dp e s rows)) (hi : i < rows.length) : ObR w X β v (.dq e s rows i (rowAt rows i)) := by
 cases h with
 |dp hd he =>
  obtain ⟨vv,F⟩ := v
  simp only at hd he
  have hrow : rows[i]? = some (rowAt rows i):=by unfold rowAt; rw [List.getElem?_eq_getElem hi]; rfl
  cases hd with
  |nil=>simp at hi
  |sl e' b cap cur us fs F hh h1 h2 h3 h4 h5 h6 h7 h8 h9 h10 hF =>
   obtain ⟨cur',hcur'⟩ := he b rfl
   rw [hh] at hcur'
   cases hcur'
   refine .dq b cap cur us fs rfl hh h1 h2 h3 hi (h4 i _ hrow) h4 h5 h6 (fun i' k row c _ r1 r2=>h7 i' k row c r1 r2) (fun k c hc=>?_) h8 h9 h10 hF
   have hd := h7 i k _ c hrow hc
   cases hsl : c.isSl with
   |true=>exact .inl ⟨hsl,hd⟩
   |false =>
    obtain ⟨e1,e2⟩ := hd.v_of hsl
    refine .inr ⟨hsl,?_,e2⟩
    rw [e1]; exact .p (.v _)
theorem ObR.dq_dp {X : Nat → Prop} {v : BV} {e s i : Nat} {rows : List (List SV)} {row0 : List SV} (h : ObR w X β v (.dq e s rows i row0)) (hall : row0.all SV.flat = true) : ObR w X β v (.dp e s (rows.set i row0)) := by
 cases h with
 |dq b cap cur us fs hv hh h1 h2 h3 h4 h5 h6 h7 h8 h9 h10 h11 h12 h13 hF =>
  have hlen : ∀ (i' : Nat) (row : List SV),(rows.set i row0)[i']? = some row → row.length = s := fun i' row hr=>by
   rw [List.getElem?_set] at hr
   split at hr
   ·simp only [h4,if_true,Option.some.injEq] at hr
    rw [← hr]; exact h5
   ·exact h6 i' row hr
  refine .dp ?_ (fun b' hb=>?_)
  ·rw [hv]
   have := Dp.sl (w := w) (s := s) (rows := rows.set i row0) e b cap cur us fs v.ft hh (by rw [List.length_set]; exact h1) h2 h3 hlen (fun i' k q1 q2=>h7 i' k (by rwa [List.length_set] at q1) q2) (fun i' k q1 q2=>h8 i' k (by rwa [List.length_set] at q1) q2)
    (fun i' k row c r1 r2=>?_) (fun i' k b' hb=>by rw [List.length_set]; exact h11 i' k b' hb) h12 h13 hF
   ·rw [List.length_set] at this; exact this
   ·rw [List.getElem?_set] at r1
    split at r1
    ·rename_i he
     subst he
     simp only [h4,if_true,Option.some.injEq] at r1
     subst r1
     have hfl := List.all_eq_true.1 hall c (List.mem_of_getElem? r2)
     rcases h10 k c r2 with ⟨_,hd⟩|⟨q1,q2,q3⟩
     ·exact hd
     ·cases c with
      |v x=>have := q2.v_inv; rw [this]; exact .v x _ q3
      |sl _ _=>cases q1
      | _=>cases hfl
    ·rename_i hne
     exact h9 i' k row c (fun e=>hne e.symm) r1 r2
  ·rw [hv] at hb
   have hb' : some b = some b' := hb
   injection hb' with hb'
   subst hb'
   exact ⟨cur,hh⟩
theorem Sim.bor (h : Sim N X0 M w0 st β a w) {id k j e s i s' : Nat} {rows rows' : List (List SV)} {row0 : List SV} (hl : lk id st.hp = some (.dq e s rows i row0)) (hk : row0[k]? = some (.sl s' rows')) (hj : j < 1000000) (hne : j ≠ id)
  {ob : Nat → Ob} (hob : ∀ (X : Nat → Prop) (β : Nat → BV) (v : Value) (F : Nat → Prop),Dp w (.sl s' rows') v F → ∃ e',ObR w X β ⟨v,F⟩ (ob e')) (hobe : ∀ e',(∀ X β β' v,ObR w X β v (ob e') → ObR w X β' v (ob e'))) :
  ∃ e' β',Sim N X0 M w0 { fr := (st.kill j).fr,hp := (j,ob e') :: (id,.dq e s rows i ((row0.map (SV.upq (SV.kill j))).set k (.own j))) :: er id (st.kill j).hp } β' a w := by
 have hO := h.objs id _ hl
 generalize hbv : β id = bv at hO
 cases hO with
 |dq b cap cur us fs hv hh h1 h2 h3 h4 h5 h6 h7 h8 h9 h10 h11 h12 h13 hF =>
  have hks : k < s:=by rw [← h5]; exact (List.getElem?_eq_some_iff.1 hk).1
  have hD : Dp w (.sl s' rows') (us i k) (fs i k) := by
   rcases h10 k _ hk with ⟨_,hd⟩|⟨q,_⟩
   ·exact hd
   ·cases q
  obtain ⟨e',he'⟩ := hob (XX X0 β st.hp) β _ _ hD
  let fs' : Nat → Nat → Nat → Prop := fun i' k' b'=>fs i' k' b' ∧ ¬ (i' = i ∧ k' = k)
  let vid : BV := ⟨bv.val,fun b'=>b' = b ∨ ∃ i' k',fs' i' k' b'⟩
  let β' : Nat → BV := fun q=>if q = j then ⟨us i k,fs i k⟩ else if q = id then vid else β q
  have hβj : β' j = ⟨us i k,fs i k⟩ := if_pos rfl
  have hβid : β' id = vid:=by show (if id = j then _ else if id = id then vid else _) = _; rw [if_neg (fun e=>hne e.symm),if_pos rfl]
  have hβo : ∀ q,q ≠ j → q ≠ id → β' q = β q := fun q h1 h2=>by show (if q = j then _ else if q = id then vid else _) = _; rw [if_neg h1,if_neg h2]
  have hβv : ∀ q,q ≠ j → (β' q).val = (β q).val := fun q hq=>by
   by_cases hid : q = id
   ·rw [hid,hβid,hbv]
   ·rw [hβo q hq hid]
  have hlk : ∀ (t : Nat) (o : Ob),lk t ((j,ob e') :: (id,.dq e s rows i ((row0.map (SV.upq (SV.kill j))).set k (.own j))) :: er id (st.kill j).hp) = some o →
    (t = j ∧ o = ob e') ∨ (t = id ∧ o = .dq e s rows i ((row0.map (SV.upq (SV.kill j))).set k (.own j))) ∨ (t ≠ j ∧ t ≠ id ∧ ∃ o0,lk t st.hp = some o0 ∧ o = o0.kill j) := fun t o ht=>by
   simp only [lk] at ht
   by_cases e1 : t = j
   ·rw [if_pos e1] at ht; cases ht; exact .inl ⟨e1,rfl⟩
   ·rw [if_neg e1] at ht
    by_cases e2 : t = id
    ·rw [if_pos e2] at ht; cases ht; exact .inr (.inl ⟨e2,rfl⟩)
    ·rw [if_neg e2,lk_er_ne e2,lk_kill_ne e1] at ht
     cases hq : lk t st.hp with
     |none=>rw [hq] at ht; cases ht
     |some o0=>rw [hq] at ht; exact .inr (.inr ⟨e1,e2,o0,rfl,by simpa using ht.symm⟩)
  have hftid : ∀ b',vid.ft b' → bv.ft b' := fun b' hb=>(hF b').2 (hb.imp _root_.id fun ⟨i',k',q,_⟩=>⟨i',k',q⟩)
  have hftj : ∀ b',fs i k b' → bv.ft b' := fun b' hb=>(hF b').2 (.inr ⟨i,k,hb⟩)
  have hft : ∀ t o b',lk t ((j,ob e') :: (id,.dq e s rows i ((row0.map (SV.upq (SV.kill j))).set k (.own j))) :: er id (st.kill j).hp) = some o → (β' t).ft b' → ∃ t0 o0,lk t0 st.hp = some o0 ∧ (β t0).ft b' ∧ (t = j ∨ t = id → t0 = id) ∧ (t ≠ j → t0 = t) := fun t o b' ht hb=>by
   rcases hlk t o ht with ⟨rfl,_⟩|⟨rfl,_⟩|⟨n1,n2,o0,q,_⟩
   ·rw [hβj] at hb; exact ⟨id,_,hl,by rw [hbv]; exact hftj b' hb,fun _=>rfl,fun q=>absurd rfl q⟩
   ·rw [hβid] at hb; exact ⟨t,_,hl,by rw [hbv]; exact hftid b' hb,fun _=>rfl,fun _=>rfl⟩
   ·rw [hβo t n1 n2] at hb; exact ⟨t,o0,q,hb,fun q=>by rcases q with q|q <;> contradiction,fun _=>rfl⟩
  have hft1 : ∀ t o b',lk t ((j,ob e') :: (id,.dq e s rows i ((row0.map (SV.upq (SV.kill j))).set k (.own j))) :: er id (st.kill j).hp) = some o → (β' t).ft b' → ∃ t0 o0,lk t0 st.hp = some o0 ∧ (β t0).ft b' := fun t o b' ht hb=>by
   obtain ⟨t0,o0,q1,q2,_⟩ := hft t o b' ht hb
   exact ⟨t0,o0,q1,q2⟩
  have hS : Same (XX X0 β st.hp) w w := ⟨Nat.le_refl _,fun _ _ _=>rfl⟩
  refine ⟨e',β',h.ghost (fun q=>?_) (fun q hq=>hβv q (by omega)) hft1 (fun t x' hx=>?_) (fun t o ht=>?_) (fun p q op oq b' hp hq hbp hbq=>?_)⟩
  ·by_cases hq : q = j
   ·rw [hq,hβj]; exact h8 i k h4 hks
   ·rw [hβv q hq]; exact h.beta q
  ·simp only [St.kill,lk_map] at hx
   cases hy : lk t st.fr with
   |none=>rw [hy] at hx; cases hx
   |some y =>
    rw [hy] at hx
    have hx' : y.kill j = x':=by simpa using hx
    subst hx'
    exact ⟨y,rfl,fun v hR=>hR.kill hβv⟩
  ·rcases hlk t o ht with ⟨rfl,rfl⟩|⟨rfl,rfl⟩|⟨n1,n2,o0,q,rfl⟩
   ·rw [hβj]
    exact hobe e' _ _ _ _ (he'.mono hS (fun b' _ hb=>XX_ghost hft1 hb) (fun _ _=>rfl))
   ·rw [hβid]
    refine .dq b cap cur us fs' hv hh h1 h2 h3 h4 (by simp [h5]) h6 h7 h8 (fun i' k' row c q0 r1 r2=>(h9 i' k' row c q0 r1 r2).ext fun b'=>⟨fun g=>g.1,fun g=>⟨g,fun g2=>q0 g2.1⟩⟩) (fun k' c hc=>?_) (fun i' k' b' g=>h11 i' k' b' g.1) (fun i' k' g=>h12 i' k' g.1) (fun i1 k1 i2 k2 b' g1 g2=>h13 i1 k1 i2 k2 b' g1.1 g2.1) (fun b'=>Iff.rfl)
    rw [List.getElem?_set] at hc
    split at hc
    ·rename_i hkk
     subst hkk
     simp only [List.length_map,h5,hks,if_true,Option.some.injEq] at hc
     subst hc
     have hR := R.own (w := w) (X := XX X0 β' ((j,ob e') :: (t,.dq e s rows i ((row0.map (SV.upq (SV.kill j))).set k (.own j))) :: er t (st.kill j).hp)) (β := β') j
     rw [hβj] at hR
     exact .inr ⟨rfl,hR,fun b' g=>g.2 ⟨rfl,rfl⟩⟩
    ·rename_i hkk
     obtain ⟨c0,hc0,rfl⟩ := map_get hc
     have hex : ∀ b',fs' i k' b' ↔ fs i k' b' := fun b'=>⟨fun g=>g.1,fun g=>⟨g,fun g2=>hkk g2.2.symm⟩⟩
     have h0 : DqC w (XX X0 β' ((j,ob e') :: (t,.dq e s rows i ((row0.map (SV.upq (SV.kill j))).set k (.own j))) :: er t (st.kill j).hp)) β' (c0.upq (SV.kill j)) (us i k') (fs i k') :=
      (h10 k' c0 hc0).upq fun hR=>R.kill hβv (hR.mono (X' := XX X0 β' ((j,ob e') :: (t,.dq e s rows i ((row0.map (SV.upq (SV.kill j))).set k (.own j))) :: er t (st.kill j).hp)) hS (fun b' _ hb=>XX_ghost hft1 hb))
     rcases h0 with ⟨g1,g2⟩|⟨g1,g2,g3⟩
     ·exact .inl ⟨g1,g2.ext hex⟩
     ·exact .inr ⟨g1,g2,fun b' g=>g3 b' ((hex b').1 g)⟩
   ·rw [hβo t n1 n2]
    exact ((h.objs t o0 q).mono hS (fun b' _ hb=>XX_ghost hft1 hb) (fun _ _=>rfl)).kill hβv
  ·obtain ⟨t1,o1,q1,q2,q3,q4⟩ := hft p op b' hp hbp
   obtain ⟨t2,o2,r1,r2,r3,r4⟩ := hft q oq b' hq hbq
   have := h.inj t1 t2 o1 o2 b' q1 r1 q2 r2
   subst this
   by_cases p1 : p = j <;> by_cases p2 : q = j
   ·rw [p1,p2]
   ·exfalso
    have := r4 p2
    have := q3 (.inl p1)
    have hqi : q = id:=by omega
    rw [p1,hβj] at hbp
    rw [hqi,hβid] at hbq
    have hbp : fs i k b' := hbp
    rcases hbq with g|⟨i',k',g,g2⟩
    ·exact h12 i k (g ▸ hbp)
    ·exact g2 (h13 i' k' i k b' g hbp)
   ·exfalso
    have := q4 p1
    have := r3 (.inl p2)
    have hpi : p = id:=by omega
    rw [p2,hβj] at hbq
    rw [hpi,hβid] at hbp
    have hbq : fs i k b' := hbq
    rcases hbp with g|⟨i',k',g,g2⟩
    ·exact h12 i k (g ▸ hbq)
    ·exact g2 (h13 i' k' i k b' g hbq)
   ·have := q4 p1
    have := r4 p2
    omega
theorem Sim.absb (h : Sim N X0 M w0 st β a w) {id k j e s i s' : Nat} {rows rows' : List (List SV)} {row0 : List SV} {oj : Ob} (hl : lk id st.hp = some (.dq e s rows i row0)) (hk : row0[k]? = some (.own j)) (hne : j ≠ id)
  (hoj : lk j st.hp = some oj) (hob : ObR w (XX X0 β st.hp) β (β j) oj → Dp w (.sl s' rows') (β j).val (β j).ft) :
  ∃ β',Sim N X0 M w0 { fr := (st.kill j).fr,hp := (id,.dq e s rows i ((row0.map (SV.upq (SV.kill j))).set k (.sl s' rows'))) :: er id (st.kill j).hp } β' a w := by
 have hO := h.objs id _ hl
 have hD := hob (h.objs j oj hoj)
 have hdisj : ∀ b',(β j).ft b' → ¬ (β id).ft b' := fun b' g1 g2=>hne (h.inj j id oj _ b' hoj hl g1 g2)
 generalize hbv : β id = bv at hO hdisj
 cases hO with
 |dq b cap cur us fs hv hh h1 h2 h3 h4 h5 h6 h7 h8 h9 h10 h11 h12 h13 hF =>
  have hks : k < s:=by rw [← h5]; exact (List.getElem?_eq_some_iff.1 hk).1
  have hR0 : us i k = (β j).val ∧ ∀ b',¬ fs i k b' := by
   rcases h10 k _ hk with ⟨q,_⟩|⟨_,hR,g⟩
   ·cases q
   ·exact ⟨hR.own_inv,g⟩
  let fs' : Nat → Nat → Nat → Prop := fun i' k' b'=>if i' = i ∧ k' = k then (β j).ft b' else fs i' k' b'
  have hfs1 : ∀ b',fs' i k b' ↔ (β j).ft b' := fun b'=>by show (if i = i ∧ k = k then _ else _) ↔ _; rw [if_pos ⟨rfl,rfl⟩]
  have hfs2 : ∀ i' k' b',¬ (i' = i ∧ k' = k) → (fs' i' k' b' ↔ fs i' k' b') := fun i' k' b' hn=>by show (if i' = i ∧ k' = k then _ else _) ↔ _; rw [if_neg hn]
  let vid : BV := ⟨bv.val,fun b'=>b' = b ∨ ∃ i' k',fs' i' k' b'⟩
  let β' : Nat → BV := fun q=>if q = id then vid else β q
  have hβid : β' id = vid := if_pos rfl
  have hβo : ∀ q,q ≠ id → β' q = β q := fun q h2=>if_neg h2
  have hβv : ∀ q,(β' q).val = (β q).val := fun q=>by
   by_cases hid : q = id
   ·rw [hid,hβid,hbv]
   ·rw [hβo q hid]
  have hlk : ∀ (t : Nat) (o : Ob),lk t ((id,.dq e s rows i ((row0.map (SV.upq (SV.kill j))).set k (.sl s' rows'))) :: er id (st.kill j).hp) = some o →
    (t = id ∧ o = .dq e s rows i ((row0.map (SV.upq (SV.kill j))).set k (.sl s' rows'))) ∨ (t ≠ j ∧ t ≠ id ∧ ∃ o0,lk t st.hp = some o0 ∧ o = o0.kill j) := fun t o ht=>by
   simp only [lk] at ht
   by_cases e2 : t = id
   ·rw [if_pos e2] at ht; cases ht; exact .inl ⟨e2,rfl⟩
   ·rw [if_neg e2,lk_er_ne e2] at ht
    by_cases e1 : t = j
    ·subst e1; rw [lk_kill] at ht; cases ht
    ·rw [lk_kill_ne e1] at ht
     cases hq : lk t st.hp with
     |none=>rw [hq] at ht; cases ht
     |some o0=>rw [hq] at ht; exact .inr ⟨e1,e2,o0,rfl,by simpa using ht.symm⟩
  have hvid : ∀ b',vid.ft b' → bv.ft b' ∨ (β j).ft b' := fun b' hb=>by
   rcases hb with g|⟨i',k',g⟩
   ·exact .inl ((hF b').2 (.inl g))
   ·by_cases hik : i' = i ∧ k' = k
    ·obtain ⟨rfl,rfl⟩ := hik; exact .inr ((hfs1 b').1 g)
    ·exact .inl ((hF b').2 (.inr ⟨i',k',(hfs2 i' k' b' hik).1 g⟩))
  have hft : ∀ t o b',lk t ((id,.dq e s rows i ((row0.map (SV.upq (SV.kill j))).set k (.sl s' rows'))) :: er id (st.kill j).hp) = some o → (β' t).ft b' → ∃ t0 o0,lk t0 st.hp = some o0 ∧ (β t0).ft b' ∧ (t ≠ id → t0 = t) ∧ (t = id → t0 = id ∨ t0 = j) := fun t o b' ht hb=>by
   rcases hlk t o ht with ⟨rfl,_⟩|⟨n1,n2,o0,q,_⟩
   ·rw [hβid] at hb
    rcases hvid b' hb with g|g
    ·exact ⟨t,_,hl,by rw [hbv]; exact g,fun q=>absurd rfl q,fun _=>.inl rfl⟩
    ·exact ⟨j,_,hoj,g,fun q=>absurd rfl q,fun _=>.inr rfl⟩
   ·rw [hβo t n2] at hb; exact ⟨t,o0,q,hb,fun _=>rfl,fun q=>absurd q n2⟩
  have hft1 : ∀ t o b',lk t ((id,.dq e s rows i ((row0.map (SV.upq (SV.kill j))).set k (.sl s' rows'))) :: er id (st.kill j).hp) = some o → (β' t).ft b' → ∃ t0 o0,lk t0 st.hp = some o0 ∧ (β t0).ft b' := fun t o b' ht hb=>by
   obtain ⟨t0,o0,q1,q2,_⟩ := hft t o b' ht hb
   exact ⟨t0,o0,q1,q2⟩
  have hS : Same (XX X0 β st.hp) w w := ⟨Nat.le_refl _,fun _ _ _=>rfl⟩
  refine ⟨β',h.ghost (fun q=>by rw [hβv]; exact h.beta q) (fun q _=>hβv q) hft1 (fun t x' hx=>?_) (fun t o ht=>?_) (fun p q op oq b' hp hq hbp hbq=>?_)⟩
  ·simp only [St.kill,lk_map] at hx
   cases hy : lk t st.fr with
   |none=>rw [hy] at hx; cases hx
   |some y =>
    rw [hy] at hx
    have hx' : y.kill j = x':=by simpa using hx
    subst hx'
    exact ⟨y,rfl,fun v hR=>hR.kill fun q _=>hβv q⟩
  ·rcases hlk t o ht with ⟨rfl,rfl⟩|⟨n1,n2,o0,q,rfl⟩
   ·rw [hβid]
    refine .dq b cap cur us fs' hv hh h1 h2 h3 h4 (by simp [h5]) h6 h7 h8 (fun i' k' row c q0 r1 r2=>(h9 i' k' row c q0 r1 r2).ext fun b'=>hfs2 i' k' b' (fun g=>q0 g.1)) (fun k' c hc=>?_) (fun i' k' b' g=>?_) (fun i' k' g=>?_) (fun i1 k1 i2 k2 b' g1 g2=>?_) (fun b'=>Iff.rfl)
    ·rw [List.getElem?_set] at hc
     split at hc
     ·rename_i hkk
      subst hkk
      simp only [List.length_map,h5,hks,if_true,Option.some.injEq] at hc
      subst hc
      refine .inl ⟨rfl,?_⟩
      rw [hR0.1]
      exact hD.ext hfs1
     ·rename_i hkk
      obtain ⟨c0,hc0,rfl⟩ := map_get hc
      have hex : ∀ b',fs' i k' b' ↔ fs i k' b' := fun b'=>hfs2 i k' b' (fun g2=>hkk g2.2.symm)
      have h0 := (h10 k' c0 hc0).upq (f := SV.kill j) (X' := XX X0 β' ((t,.dq e s rows i ((row0.map (SV.upq (SV.kill j))).set k (.sl s' rows'))) :: er t (st.kill j).hp)) (β' := β') fun hR=>R.kill (fun q _=>hβv q) (hR.mono (X' := XX X0 β' ((t,.dq e s rows i ((row0.map (SV.upq (SV.kill j))).set k (.sl s' rows'))) :: er t (st.kill j).hp)) hS (fun b' _ hb=>XX_ghost hft1 hb))
      rcases h0 with ⟨g1,g2⟩|⟨g1,g2,g3⟩
      ·exact .inl ⟨g1,g2.ext hex⟩
      ·exact .inr ⟨g1,g2,fun b' g=>g3 b' ((hex b').1 g)⟩
    ·by_cases hik : i' = i ∧ k' = k
     ·obtain ⟨rfl,rfl⟩ := hik; exact ⟨h4,hks⟩
     ·exact h11 i' k' b' ((hfs2 i' k' b' hik).1 g)
    ·by_cases hik : i' = i ∧ k' = k
     ·obtain ⟨rfl,rfl⟩ := hik
      exact hdisj b ((hfs1 b).1 g) ((hF b).2 (.inl rfl))
     ·exact h12 i' k' ((hfs2 i' k' b hik).1 g)
    ·by_cases hik1 : i1 = i ∧ k1 = k <;> by_cases hik2 : i2 = i ∧ k2 = k
     ·exact ⟨hik1.1.trans hik2.1.symm,hik1.2.trans hik2.2.symm⟩
     ·obtain ⟨rfl,rfl⟩ := hik1
      exact absurd ((hF b').2 (.inr ⟨i2,k2,(hfs2 i2 k2 b' hik2).1 g2⟩)) (hdisj b' ((hfs1 b').1 g1))
     ·obtain ⟨rfl,rfl⟩ := hik2
      exact absurd ((hF b').2 (.inr ⟨i1,k1,(hfs2 i1 k1 b' hik1).1 g1⟩)) (hdisj b' ((hfs1 b').1 g2))
     ·exact h13 i1 k1 i2 k2 b' ((hfs2 i1 k1 b' hik1).1 g1) ((hfs2 i2 k2 b' hik2).1 g2)
   ·rw [hβo t n2]
    exact ((h.objs t o0 q).mono hS (fun b' _ hb=>XX_ghost hft1 hb) (fun _ _=>rfl)).kill fun q _=>hβv q
  ·obtain ⟨t1,o1,q1,q2,q3,q4⟩ := hft p op b' hp hbp
   obtain ⟨t2,o2,r1,r2,r3,r4⟩ := hft q oq b' hq hbq
   have := h.inj t1 t2 o1 o2 b' q1 r1 q2 r2
   subst this
   have nj : ∀ {t o},lk t ((id,.dq e s rows i ((row0.map (SV.upq (SV.kill j))).set k (.sl s' rows'))) :: er id (st.kill j).hp) = some o → t ≠ j := fun {t o} ht=>by
    rcases hlk t o ht with ⟨rfl,_⟩|⟨n1,_⟩
    ·exact fun e=>hne e.symm
    ·exact n1
   have n1 := nj hp
   have n2 := nj hq
   by_cases p1 : p = id <;> by_cases p2 : q = id
   ·rw [p1,p2]
   ·have := r3 p2
    rcases q4 p1 with g|g <;> omega
   ·have := q3 p1
    rcases r4 p2 with g|g <;> omega
   ·have := q3 p1
    have := r3 p2
    omega
theorem Sim.gh (h : Sim N X0 M w0 st β a w) {K : St → Prop} {g : Gh} (hK : st.gh K g) : ∃ st' β',K st' ∧ Sim N X0 M w0 st' β' a w := by
 cases g with
 |dp id =>
  simp only [St.gh] at hK
  split at hK
  ·rename_i e s rows hl; exact ⟨_,β,hK.2,h.reob hl fun hO=>hO.sl_dp hK.1⟩
  ·exact ⟨st,β,hK,h⟩
  ·exact hK.elim
 |opn id i =>
  simp only [St.gh] at hK
  split at hK
  ·rename_i e s rows hl; exact ⟨_,β,hK.2,h.reob hl fun hO=>hO.dp_dq hK.1⟩
  ·exact hK.elim
 |bor id k j =>
  simp only [St.gh] at hK
  split at hK
  ·rename_i e s rows i row0 hl
   split at hK
   ·rename_i s' rows' hk
    obtain ⟨e',β',h'⟩ := h.bor hl hk hK.1 hK.2.1 (ob := fun e'=>.dp e' s' rows') (fun X β v F hD=>hD.dp_ob) (fun e' X β β' v hO=>by cases hO with|dp hd he=>exact .dp hd he)
    exact ⟨_,β',hK.2.2 e',h'⟩
   ·exact hK.elim
  ·exact hK.elim
 |borV id k j =>
  simp only [St.gh] at hK
  split at hK
  ·rename_i e s rows i row0 hl
   split at hK
   ·rename_i s' rows' hk
    obtain ⟨e',β',h'⟩ := h.bor hl hk hK.1 hK.2.1 (ob := fun e'=>.sl e' s' rows') (fun X β v F hD=>hD.dp_sl hK.2.2.1) (fun e' X β β' v hO=>hO.sl_beta)
    exact ⟨_,β',hK.2.2.2 e',h'⟩
   ·exact hK.elim
  ·exact hK.elim
 |abs id k =>
  simp only [St.gh] at hK
  split at hK
  ·rename_i e s rows i row0 hl
   split at hK
   ·rename_i j hk
    obtain ⟨hne,hK⟩ := hK
    split at hK
    ·rename_i e' s' rows' hj
     obtain ⟨β',h'⟩ := h.absb hl hk hne hj (s' := s') (rows' := rows') (fun hO=>by
      have := hO.sl_dp hK.1
      cases this with
      |dp hd he=>exact hd)
     exact ⟨_,β',hK.2,h'⟩
    ·rename_i e' s' rows' hj
     obtain ⟨β',h'⟩ := h.absb hl hk hne hj (s' := s') (rows' := rows') (fun hO=>by
      cases hO with
      |dp hd he=>exact hd)
     exact ⟨_,β',hK,h'⟩
    ·exact hK.elim
   ·exact hK.elim
  ·exact hK.elim
 |fld id =>
  simp only [St.gh] at hK
  split at hK
  ·rename_i e s rows i row0 hl; exact ⟨_,β,hK.2,h.reob hl fun hO=>hO.dq_dp hK.1⟩
  ·exact hK.elim
theorem Sim.gho {a : Act} {w : World} {K : St → Prop} : ∀ {l : List Gh} {st : St} {β : Nat → BV},Sim N X0 M w0 st β a w → st.gho K l → ∃ st' β',K st' ∧ Sim N X0 M w0 st' β' a w
 | [],st,β,h,hK=>⟨st,β,hK,h⟩
 |g :: l,st,β,h,hK=>by
  obtain ⟨st1,β1,h1,h2⟩ := h.gh (g := g) hK
  exact Sim.gho h2 h1
end
section
variable {c : Cx} {N : Nat} {X0 : Nat → Prop} {M : Nat → BV → Prop} {w0 : World} {st : St} {K : Exit → St → Prop}
theorem zG (l : List Gh) {code : Code} (h : st.gho (fun st'=>WP c N X0 M w0 code st' K) l) : WP c N X0 M w0 code st K := fun hA β a w hs=>by
 obtain ⟨st',β',h1,h2⟩ := hs.gho h
 exact h1 hA β' a w h2
def ghoK (l : List Gh) (K : Exit → St → Prop) : Exit → St → Prop
 | .normal,st=>st.gho (K .normal) l
 |e,st=>K e st
theorem zO (l : List Gh) {code : Code} (h : WP c N X0 M w0 code st (ghoK l K)) : WP c N X0 M w0 code st K := fun hA β a w hs =>
 Code.wp_mono (fun e a' w' hq=>by
  cases e with
  |normal =>
   obtain ⟨st',β',h1,h2⟩ := hq
   obtain ⟨st2,β2,h3,h4⟩ := h2.gho h1
   exact ⟨st2,β2,h3,h4⟩
  | _=>exact hq) (h hA β a w hs)
end
end Go.Vc

namespace Go.Vc
def allV (rows : List (List SV)) : Prop := ∀ row ∈ rows,∀ c ∈ row,∃ x,c = .v x
theorem ObR.toSl {w : World} {X X' : Nat → Prop} {β : Nat → BV} {v : BV} {e s : Nat} {rows : List (List SV)} (h : ObR w X' β v (.sl e s rows)) (hX : ∀ b,v.ft b → ¬ X b) (hv : allV rows) : Rp w X (.sl s rows) v.val := by
 cases h with
 |nil e s h=>subst h; exact .nil s _ _
 |sl b cap cur us hv' hh h1 h2 h3 h4 h5 h6 h7 =>
  subst hv'
  refine .sl b 0 cap us (hX b rfl) (lt_of_heap hh) h1 h4 (fun i k row c hr hc=>?_) h6 (fun i k row c hr hc=>?_)
  ·simp only [World.cell?,hh,Nat.zero_add]
   exact h5 i k row c hr hc
  ·obtain ⟨x,rfl⟩ := hv row (List.mem_of_getElem? hr) c (List.mem_of_getElem? hc)
   have := h7 i k row _ hr hc
   cases this
   exact .v _
section
variable {P : Program} {f : FuncId} {args : List SV} {d e s : Nat} {rows : List (List SV)}
theorem Holds.frozen (h : Holds P f args (.own d) [(d,.sl e s rows)]) (hv : allV rows) : Holds P f args (.sl s rows) [] := by
 intro w X vs hG hX hl ha
 refine (h w X vs hG hX hl ha).mono fun en w' ⟨v,β,he,hb,hβ,hR,hO,hn⟩=>?_
 refine ⟨v,β,he,hb,hβ,?_,⟨fun id ob hi=>(by cases hi),fun i j oi oj b hi=>(by cases hi)⟩,fun id ob b hi=>(by cases hi)⟩
 have := hR.own_inv; subst this
 refine .p ((hO.1 d (.sl e s rows) (by simp [lk])).toSl (fun b hb' hx=>?_) hv)
 have h1 := hn d (.sl e s rows) b (by simp [lk]) hb'
 rcases hx with hx|⟨i,o,hi,_⟩
 ·have := hX b hx; omega
 ·cases hi
end
theorem Cn.frozen {P : Program} {f : FuncId} {X : Type} {dec : List SV → X} {A : X → List SV} {pre : X → Prop} {e s : Nat} {rows : X → List (List SV)} (hv : ∀ x,allV (rows x))
  (h : Cn P f (Go.Vc.pur dec A pre (fun d _=>.own d) (fun d x=>[(d,.sl e s (rows x))]))) : Cn P f (Go.Vc.pur dec A pre (fun _ x=>.sl s (rows x)) (fun _ _=>[])) :=
 ⟨h.call,fun d args ha=>(h.holds d args ha).frozen (hv _),fun _ _ _ h=>h.elim⟩
end Go.Vc

namespace Go.Vc
end Go.Vc

namespace Go.Proofs.YtjjbcoigaejoaaaGreat
open Go.Vc
attribute [local irreducible] Go.Vc.WP
attribute [local go_sem] cx0_t cx0_c
structure Line where
 kind : Int
 name : ByteArray
 args : List ByteArray
 expr : List Tok
deriving DecidableEq
def encLine (x : Line) : List SV := [.v (.int .i64 x.kind),.v (.string x.name),.sl 1 (x.args.map encS),.sl 3 (x.expr.map encTok)]
def oneLine : List SV → Line
 | [.v (.int _ k),.v (.string n),.sl _ a,.sl _ t]=>⟨k,n,decS a,decTok t⟩
 | _=>⟨0,⟨#[]⟩,[],[]⟩
def decLine (rows : List (List SV)) : List Line := rows.map oneLine
theorem oneLine_enc (x : Line) : oneLine (encLine x) = x := by
 show (⟨x.kind,x.name,decS (x.args.map encS),decTok (x.expr.map encTok)⟩ : Line) = x
 rw [decS_enc,decTok_enc]
theorem oneLine_f (k : Int) (n : ByteArray) (a : List ByteArray) (t : List Tok) : oneLine [.v (.int .i64 k),.v (.string n),.sl 1 (a.map encS),.sl 3 (t.map encTok)] = ⟨k,n,a,t⟩ := oneLine_enc ⟨k,n,a,t⟩
theorem decLine_enc (L : List Line) : decLine (L.map encLine) = L := by
 unfold decLine
 rw [List.map_map]
 exact List.map_id'' oneLine_enc L
theorem line_eta (x : Line) : (⟨x.kind,x.name,x.args,x.expr⟩ : Line) = x := rfl
attribute [local go_sem] decS_enc decTok_enc decLine_enc oneLine_f line_eta
def shLine (x : Line) : Prop := x.args.length ≤ 1048576 ∧ x.expr.length ≤ 1048576
def bigLine (x : Line) : Prop := x.name.size ≤ maxLen ∧ x.args.length ≤ maxLen ∧ (∀ s ∈ x.args,s.size ≤ maxLen) ∧ x.expr.length ≤ maxLen ∧ ∀ r ∈ x.expr,r.name.size ≤ maxLen
theorem szvTok_f (Y : List Tok) : Szf (szvTok Y) := fun l h=>by
 unfold szvTok
 split
 ·omega
 ·have := szGo_f (sizesTok Y) (l - Y.length) (by omega); omega
def szvLine (x : Line) : Int → Int := szT (szA x.name.size) (szT (szvStr x.args) (szvTok x.expr))
theorem szvStrL_f (L : List ByteArray) : Szf (szvStr L) := szList_f _ (by simp only [List.mem_map]; rintro _ ⟨x,_,rfl⟩; exact szA_f _)
theorem szvLine_f (x : Line) : Szf (szvLine x) := szT_f (szA_f _) (szT_f (szvStrL_f _) (szvTok_f _))
def kszLine : Ctr := pur (fun args=>(oneLine (aC args 0),aI args 1)) (fun x=>[.agg [.v (.int .i64 x.1.kind),.v (.string x.1.name),.sl 1 (x.1.args.map encS),.sl 3 (x.1.expr.map encTok)],.v (.int .i64 x.2)]) (fun x=>bigLine x.1 ∧ 0 ≤ x.2 ∧ x.2 ≤ 1048576)
 (fun _ x=>.v (.int .i64 (szvLine x.1 x.2))) (fun _ _=>[])
section
noncomputable def cxZln := mkX [(31,kszStr),(32,kszTokS)] (COk.cons cszStr (COk.cons cszTokS (COk.nil _)))
theorem cxZln_t : cxZln.tys = tys := rfl
theorem cxZln_c : cxZln.C = [(31,kszStr),(32,kszTokS)] := rfl
attribute [local go_sem] cxZln_t cxZln_c kszStr kszTokS
theorem cszLine : Cn Tryz.prog 13 kszLine := by
 refine Cn.pur Tryz.func13 (by kernel_rfl) rfl fun d x hx=>?_
 obtain ⟨⟨k,n,A,E⟩,left⟩ := x
 obtain ⟨⟨hn,hA,hAs,hE,hEs⟩,h0,h1⟩ := hx
 simp only at hn hA hAs hE hEs h0 h1 ⊢
 have hm : maxLen = 9223372036854775807 := rfl
 have hu : szvLine ⟨k,n,A,E⟩ left = if szA n.size left < 0 then -1 else (if szvStr A (szA n.size left) < 0 then -1 else szvTok E (szvStr A (szA n.size left))) := rfl
 have ha : szA n.size left = if left - (n.size : Int) < 0 then -1 else left - (n.size : Int) := rfl
 refine Holds.go (c := cxZln) Tryz.func13 rfl Tryz.results13 Tryz.ntmps13 (by omega) (by simp) rfl ?_
 intro X0 w0
 by_cases h5 : left - (n.size : Int) < 0
 ·rw [if_pos h5] at ha
  rw [hu,ha,if_pos (by omega)]
  (repeat' (first|apply zS|apply zB|((first|apply zR|apply zC|apply zT|apply zE|apply zK);simp only [go_sem,h5])|apply And.intro|intro _))
  all_goals first|omega|skip
 ·rw [if_neg h5] at ha
  rw [ha,if_neg (by omega)] at hu
  have b1 := szvStrL_f A (left - (n.size : Int)) (by omega)
  generalize hz : szvStr A (left - (n.size : Int)) = z at hu b1
  by_cases h6 : z < 0
  ·rw [if_pos h6] at hu
   rw [hu]
   (repeat' (first|apply zS|apply zB|((first|apply zR|apply zC|apply zT|apply zE|apply zK);simp only [go_sem,h5,hz,h6])|apply And.intro|intro _))
   all_goals first|omega|assumption|exact hAs _ ‹_›|exact hEs _ ‹_›|skip
  ·rw [if_neg h6] at hu
   have b2 := szvTok_f E z (by omega)
   generalize hz2 : szvTok E z = z2 at hu b2
   rw [hu]
   by_cases h7 : z2 < 0
   ·(repeat' (first|apply zS|apply zB|((first|apply zR|apply zC|apply zT|apply zE|apply zK);simp only [go_sem,h5,hz,h6,hz2,h7])|apply And.intro|intro _))
    all_goals first|omega|assumption|exact hAs _ ‹_›|exact hEs _ ‹_›|skip
    all_goals first|rw [show z2 = -1 by omega]|skip
   ·(repeat' (first|apply zS|apply zB|((first|apply zR|apply zC|apply zT|apply zE|apply zK);simp only [go_sem,h5,hz,h6,hz2,h7])|apply And.intro|intro _))
    all_goals first|omega|assumption|exact hAs _ ‹_›|exact hEs _ ‹_›|skip
end
def szvLineS (L : List Line) : Int → Int := szList (L.map szvLine)
def kszLineS : Ctr := pur (fun args=>(decLine (aR args 0),aI args 1)) (fun x=>[.sl 4 (x.1.map encLine),.v (.int .i64 x.2)]) (fun x=>x.1.length ≤ maxLen ∧ (∀ s ∈ x.1,bigLine s) ∧ 0 ≤ x.2 ∧ x.2 ≤ 1048576)
 (fun _ x=>.v (.int .i64 (szvLineS x.1 x.2))) (fun _ _=>[])
section
attribute [local irreducible] bigLine
noncomputable def cxZls := mkX [(13,kszLine)] (COk.cons cszLine (COk.nil _))
theorem cxZls_t : cxZls.tys = tys := rfl
theorem cxZls_c : cxZls.C = [(13,kszLine)] := rfl
attribute [local go_sem] cxZls_t cxZls_c kszLine
theorem cszLineS : Cn Tryz.prog 4 kszLineS := by
 refine Cn.pur Tryz.func4 (by kernel_rfl) rfl fun d x hx=>?_
 obtain ⟨L,left⟩ := x
 obtain ⟨hL,hs,h0,h1⟩ := hx
 simp only at hL hs h0 h1 ⊢
 have hm : maxLen = 9223372036854775807 := rfl
 generalize hF : L.map szvLine = F
 have hlen : F.length = L.length:=by rw [← hF,List.length_map]
 have hsz : szvLineS L left = szList F left:=by rw [← hF]; rfl
 rw [hsz]
 refine Holds.go (c := cxZls) Tryz.func4 rfl Tryz.results4 Tryz.ntmps4 (by omega) (by simp) rfl ?_
 intro X0 w0
 (repeat' (first|apply zS|apply zB|((first|apply zR|apply zC|apply zT|apply zE|apply zK);simp only [go_sem])|apply And.intro|intro _))
 all_goals first|omega|skip
 ·rename_i h; rw [szList,hlen,if_pos h]
 rename_i hge
 refine zL (fun s : Nat × Int=>⟨[(0,.sl 4 (L.map encLine)),(1,.v (.int .i64 s.2)),(5,.v (.int .i64 s.1))],[]⟩)
  (fun s=>s.1 ≤ L.length ∧ 0 ≤ s.2 ∧ s.2 ≤ 1048576 ∧ szList F left = szL (F.drop s.1) s.2) (fun s=>L.length - s.1) (0,left - L.length)
  ⟨by simp,by simpa using hge,by simp only; omega,by rw [szList,hlen,if_neg (by omega)]; rfl⟩ ?_ ?_
 ·simp only [go_sem]; first|exact ⟨rfl,rfl⟩|rfl
 rintro ⟨k,r⟩ ⟨hk,hr0,hr1,he⟩
 simp only at hk hr0 hr1 he ⊢
 by_cases hlt : k < L.length
 ·have h2 := rowAt_map encLine L k hlt
  have h3 := hs _ (List.getElem_mem hlt)
  have hFk : F[k]'(by omega) = szvLine L[k]:=by subst hF; simp
  have h4 := szL_drop F k r (by omega)
  rw [hFk] at h4
  have hb := szvLine_f L[k] r hr0
  generalize hz : szvLine L[k] r = z at h4 hb
  by_cases h5 : z < 0
  ·rw [he,h4,if_pos h5]
   (repeat' (first|apply zS|apply zB|((first|apply zR|apply zC|apply zT|apply zE|apply zK);simp only [go_sem,h2,encLine,hz,h5])|apply And.intro|intro _))
   all_goals first|omega|exact h3|skip
  ·rw [if_neg h5] at h4
   (repeat' (first|apply zS|apply zB|((first|apply zR|apply zC|apply zT|apply zE|apply zK);simp only [go_sem,h2,encLine,hz,h5])|apply And.intro|intro _))
   all_goals first|omega|exact h3|exact ⟨(k + 1,z),⟨by simp only; omega,by simp only; omega,by simp only; omega,by rw [he,h4]⟩,by simp only; omega,rfl,rfl⟩|skip
 ·(repeat' (first|apply zS|apply zB|((first|apply zR|apply zC|apply zT|apply zE|apply zK);simp only [go_sem])|apply And.intro|intro _))
  all_goals first|omega|skip
  rw [he,List.drop_of_length_le (by omega)]
  rfl
end
def zerLine : List SV := [.v (.int .i64 0),.v (.string ⟨#[]⟩),.v (.slice none 0 0),.v (.slice none 0 0)]
def ktoLine : Ctr := pur (fun args=>oneLine (aC args 0)) (fun x=>[.agg [.v (.int .i64 x.kind),.v (.string x.name),.sl 1 (x.args.map encS),.sl 3 (x.expr.map encTok)]]) (fun x=>x.args.length ≤ 1048576 ∧ x.expr.length ≤ 1048576)
 (fun d x=>.agg [.v (.int .i64 x.kind),.v (.string x.name),.own d,.own (d + 1000)]) (fun d x=>[(d,.sl 9 1 (x.args.map encS)),(d + 1000,.sl 79 3 (x.expr.map encTok))])
section
noncomputable def cxTln := mkX [(38,ktoSo),(39,ktoTokS)] (COk.cons ctoSo (COk.cons ctoTokS (COk.nil _)))
theorem cxTln_t : cxTln.tys = tys := rfl
theorem cxTln_c : cxTln.C = [(38,ktoSo),(39,ktoTokS)] := rfl
attribute [local go_sem] cxTln_t cxTln_c ktoSo ktoTokS
theorem ctoLine : Cn Tryz.prog 17 ktoLine := by
 refine Cn.pur Tryz.func17 (by kernel_rfl) rfl fun d x hx=>?_
 obtain ⟨k,n,A,E⟩ := x
 obtain ⟨hA,hE⟩ := hx
 simp only at hA hE ⊢
 refine Holds.go (c := cxTln) Tryz.func17 rfl Tryz.results17 Tryz.ntmps17 (by omega) (by simp) rfl ?_
 intro X0 w0
 (repeat' (first|apply zS|apply zB|((first|apply zR|apply zC|apply zT|apply zE|apply zK);simp only [go_sem])|apply And.intro|intro _))
 all_goals first|omega|exact ⟨_,_,rfl,_,_,rfl,rfl⟩|exact if_neg (by omega)|skip
end
end Go.Proofs.YtjjbcoigaejoaaaGreat

namespace Go.Proofs.YtjjbcoigaejoaaaGreat
def tokOk (t : Tok) : Bool :=
 if t.kind = 0 then decide (0 ≤ t.num) && decide (t.num ≤ 999) && decide (t.name = ⟨#[]⟩)
 else if t.kind = 1 then decide (t.num = 0) && nameOk t.name
 else if t.kind = 7 then decide (0 ≤ t.num) && decide (t.num ≤ 4) && nameOk t.name
 else decide (2 ≤ t.kind) && decide (t.kind ≤ 6) && decide (t.num = 0) && decide (t.name = ⟨#[]⟩)
theorem tokOk_cases {t : Tok} (h : tokOk t = true) :
  (t.kind = 0 ∧ 0 ≤ t.num ∧ t.num ≤ 999 ∧ t.name = ⟨#[]⟩) ∨ (t.kind = 1 ∧ t.num = 0 ∧ nameOk t.name = true) ∨ (t.kind = 7 ∧ 0 ≤ t.num ∧ t.num ≤ 4 ∧ nameOk t.name = true) ∨
  (2 ≤ t.kind ∧ t.kind ≤ 6 ∧ t.num = 0 ∧ t.name = ⟨#[]⟩) := by
 unfold tokOk at h
 split at h
 ·simp at h; exact .inl ⟨by assumption,h.1.1,h.1.2,h.2⟩
 ·split at h
  ·simp at h; exact .inr (.inl ⟨by assumption,h.1,h.2⟩)
  ·split at h
   ·simp at h; exact .inr (.inr (.inl ⟨by assumption,h.1.1,h.1.2,h.2⟩))
   ·simp at h; exact .inr (.inr (.inr ⟨h.1.1.1,h.1.1.2,h.1.2,h.2⟩))
def arN (t : Tok) : Nat := if t.kind = 7 then t.num.toNat else if t.kind = 0 ∨ t.kind = 1 then 0 else 2
theorem arN_le {t : Tok} (h : tokOk t = true) : arN t ≤ 4 := by
 unfold arN
 rcases tokOk_cases h with ⟨a,_⟩|⟨a,_⟩|⟨a,b,c,_⟩|⟨a,b,_⟩
 ·rw [if_neg (by omega),if_pos (.inl a)] <;> omega
 ·rw [if_neg (by omega),if_pos (.inr a)] <;> omega
 ·rw [if_pos a]; omega
 ·split
  ·omega
  ·split <;> omega
def arity (t : Tok) : Int := if tokOk t = true then (arN t : Int) else -1
def endGo : List Tok → Nat → Nat → Int
 | [],n,a=>if n = 0 then (a : Int) else -1
 |t :: L,n,a=>if n = 0 then (a : Int) else if tokOk t = true then endGo L (n - 1 + arN t) (a + 1) else -1
theorem endGo_zero (L : List Tok) (a : Nat) : endGo L 0 a = a:=by cases L <;> simp [endGo]
theorem endGo_nil {n : Nat} (a : Nat) (h : 0 < n) : endGo [] n a = -1:=by simp [endGo]; omega
theorem endGo_ok {t : Tok} {L : List Tok} {n a : Nat} (hn : 0 < n) (h : tokOk t = true) : endGo (t :: L) n a = endGo L (n - 1 + arN t) (a + 1) := by
 rw [endGo,if_neg (by omega),if_pos h]
theorem endGo_bad {t : Tok} {L : List Tok} {n a : Nat} (hn : 0 < n) (h : tokOk t = false) : endGo (t :: L) n a = -1 := by
 rw [endGo,if_neg (by omega),if_neg (by simp [h])]
def exprEnd (L : List Tok) (a : Int) : Int := if 0 ≤ a then endGo (L.drop a.toNat) 1 a.toNat else -1
theorem endGo_form : ∀ (L : List Tok) (n a : Nat),endGo L n a = -1 ∨ ∃ k,k ≤ L.length ∧ endGo L n a = ((a + k : Nat) : Int) ∧ (∀ t ∈ L.take k,tokOk t = true) ∧ (0 < n → 0 < k)
 | [],n,a=>by
  by_cases h : n = 0
  ·exact .inr ⟨0,by simp,by simp [endGo,h],by simp,by omega⟩
  ·exact .inl (by simp [endGo,h])
 |t :: L,n,a=>by
  by_cases h : n = 0
  ·exact .inr ⟨0,by simp,by simp [endGo,h],by simp,by omega⟩
  ·cases hk : tokOk t with
   |false=>exact .inl (endGo_bad (by omega) hk)
   |true =>
    rw [endGo_ok (by omega) hk]
    rcases endGo_form L (n - 1 + arN t) (a + 1) with e|⟨k,h1,h2,h3,_⟩
    ·exact .inl e
    ·exact .inr ⟨k + 1,by simp; omega,by rw [h2]; congr 1; omega,fun x hx=>by
      rw [List.take_succ_cons] at hx
      rcases List.mem_cons.1 hx with rfl|hx
      ·exact hk
      ·exact h3 x hx,by omega⟩
def exprOk (L : List Tok) : Bool := decide (L.length ≤ 20) && decide (L ≠ []) && decide (exprEnd L 0 = (L.length : Int))
theorem exprOk_iff {L : List Tok} : exprOk L = true ↔ L.length ≤ 20 ∧ L ≠ [] ∧ exprEnd L 0 = (L.length : Int):=by simp [exprOk,and_assoc]
def hasEx (k : Int) : Bool := decide (k = 1) || decide (k = 2) || decide (k = 3) || decide (k = 5) || decide (k = 6)
theorem hasEx_iff {k : Int} : hasEx k = true ↔ k = 1 ∨ k = 2 ∨ k = 3 ∨ k = 5 ∨ k = 6:=by simp [hasEx,or_assoc]
structure LineP (x : Line) : Prop where
 kind : 0 ≤ x.kind ∧ x.kind ≤ 7
 few : x.args.length ≤ 4
 names : ∀ s ∈ x.args,nameOk s = true
 apart : x.args.Nodup
 noArgs : x.kind ≠ 0 → x.args = []
 name : x.kind = 0 ∨ x.kind = 1 → nameOk x.name = true
 noName : ¬ (x.kind = 0 ∨ x.kind = 1) → x.name = ⟨#[]⟩
 expr : hasEx x.kind = true → exprOk x.expr = true
 noExpr : hasEx x.kind = false → x.expr = []
theorem lineP_iff (x : Line) : LineP x ↔ ((0 ≤ x.kind ∧ x.kind ≤ 7) ∧ x.args.length ≤ 4 ∧ (∀ s ∈ x.args,nameOk s = true) ∧ x.args.Nodup ∧ (x.kind ≠ 0 → x.args = []) ∧
  (x.kind = 0 ∨ x.kind = 1 → nameOk x.name = true) ∧ (¬ (x.kind = 0 ∨ x.kind = 1) → x.name = ⟨#[]⟩) ∧ (hasEx x.kind = true → exprOk x.expr = true) ∧ (hasEx x.kind = false → x.expr = [])) :=
 ⟨fun h=>⟨h.1,h.2,h.3,h.4,h.5,h.6,h.7,h.8,h.9⟩,fun ⟨a,b,c,d,e,f,g,i,j⟩=>⟨a,b,c,d,e,f,g,i,j⟩⟩
instance (x : Line) : Decidable (LineP x) := decidable_of_iff' _ (lineP_iff x)
def kw (k : Int) : List UInt8 :=
 if k = 0 then [102,117,110] else if k = 1 then [115,101,116] else if k = 2 then [111,117,116] else if k = 3 then [105,102] else if k = 4 then [101,108,115,101]
 else if k = 5 then [119,104,105,108,101] else if k = 6 then [114,101,116,117,114,110] else [101,110,100]
theorem kw_case {k : Int} (h : 0 ≤ k) (h' : k ≤ 7) : k = 0 ∨ k = 1 ∨ k = 2 ∨ k = 3 ∨ k = 4 ∨ k = 5 ∨ k = 6 ∨ k = 7:=by omega
def hasNm (k : Int) (r : List ByteArray) : Prop := (k = 0 ∨ k = 1) ∧ r ≠ []
instance (k : Int) (r : List ByteArray) : Decidable (hasNm k r):=by unfold hasNm; infer_instance
theorem nameOk_ne {s : ByteArray} (h : nameOk s = true) : s ≠ ⟨#[]⟩ := fun e=>by
 have := (nameOk_letters h).2.1
 rw [e] at this; exact absurd this (by decide)
end Go.Proofs.YtjjbcoigaejoaaaGreat

namespace Go.Proofs.YtjjbcoigaejoaaaGreat
open Go.Pl
def nodeFr (x : Node) : Frame := ⟨x.name,x.line⟩
def mkNode (p : Int) (f : Frame) : Node := ⟨p,f.name,f.line⟩
def stNode (N : List Node) (k : Nat) (x : Node) : Bool := decide (-1 ≤ x.parent) && decide (x.parent ≤ (k : Int) - 1) && frOk (nodeFr x) && (N.take k).all fun y=>decide (y ≠ x)
theorem stNode_iff {N : List Node} {k : Nat} {x : Node} : stNode N k x = true ↔ -1 ≤ x.parent ∧ x.parent ≤ (k : Int) - 1 ∧ frOk (nodeFr x) = true ∧ ∀ y ∈ N.take k,y ≠ x := by
 simp [stNode,and_assoc]
def stacksOk (N : List Node) : Bool := decide (∀ k (h : k < N.length),stNode N k N[k] = true)
theorem stacksOk_at {N : List Node} (h : stacksOk N = true) (k : Nat) (hk : k < N.length) : stNode N k N[k] = true := by
 unfold stacksOk at h
 exact of_decide_eq_true h k hk
theorem stacksOk_bad {N : List Node} {k : Nat} (hk : k < N.length) (h : stNode N k N[k] = false) : stacksOk N = false := by
 cases hs : stacksOk N with
 |false=>rfl
 |true=>rw [stacksOk_at hs k hk] at h; cases h
theorem stacksOk_all {N : List Node} (h : ∀ k (h : k < N.length),stNode N k N[k] = true) : stacksOk N = true := by
 unfold stacksOk
 exact decide_eq_true h
theorem stNode_dup {N : List Node} {k i : Nat} (hk : k < N.length) (hi : i < k) (h : N[i]'(by omega) = N[k]) : stNode N k N[k] = false := by
 cases hs : stNode N k N[k] with
 |false=>rfl
 |true=>exact absurd h ((stNode_iff.1 hs).2.2.2 _ (by
   rw [List.mem_take_iff_getElem]
   exact ⟨i,by omega,rfl⟩))
theorem stNode_ok {N : List Node} {k : Nat} {x : Node} (h1 : -1 ≤ x.parent) (h2 : x.parent ≤ (k : Int) - 1) (h3 : frOk (nodeFr x) = true) (h4 : ∀ i (hi : i < N.length),i < k → N[i] ≠ x) : stNode N k x = true := by
 refine stNode_iff.2 ⟨h1,h2,h3,fun y hy=>?_⟩
 rw [List.mem_take_iff_getElem] at hy
 obtain ⟨i,hi,rfl⟩ := hy
 exact h4 i (by omega) (by omega)
def hitNode (p : Int) (f : Frame) (x : Node) : Bool := decide (x.parent = p) && decide (nodeFr x = f)
def child (N : List Node) (p : Int) (f : Frame) : Int := firstIdx (hitNode p f) N
theorem firstIdx_bound {α : Type} (p : α → Bool) (L : List α) : -1 ≤ firstIdx p L ∧ firstIdx p L < L.length ∨ firstIdx p L = -1 := by
 unfold firstIdx
 split
 ·rename_i i h
  have := (List.findIdx?_eq_some_iff_getElem.1 h).1
  left; omega
 ·right; rfl
theorem child_bound (N : List Node) (p : Int) (f : Frame) : -1 ≤ child N p f ∧ child N p f < N.length := by
 have := firstIdx_bound (hitNode p f) N
 unfold child
 omega
def intGo : List Frame → List Node × Int → List Node × Int
 | [],s=>s
 |f :: L,s=>intGo L (if child s.1 s.2 f < 0 then (s.1 ++ [mkNode s.2 f],(s.1.length : Int)) else (s.1,child s.1 s.2 f))
def intern (N : List Node) (L : List Frame) : List Node × Int := if stacksOk N = true ∧ L ≠ [] ∧ L.all frOk = true then intGo L (N,-1) else (N,-1)
theorem intGo_len : ∀ (L : List Frame) (s : List Node × Int),s.1.length ≤ (intGo L s).1.length ∧ (intGo L s).1.length ≤ s.1.length + L.length
 | [],s=>by simp [intGo]
 |f :: L,s=>by
  have := intGo_len L (if child s.1 s.2 f < 0 then (s.1 ++ [mkNode s.2 f],(s.1.length : Int)) else (s.1,child s.1 s.2 f))
  rw [intGo]
  simp only [List.length_cons]
  split at this
  ·rename_i h; rw [if_pos h]; simp only [List.length_append,List.length_cons,List.length_nil] at this; omega
  ·rename_i h; rw [if_neg h]; simp only at this; omega
theorem intGo_at : ∀ (L : List Frame) (s : List Node × Int),(L = [] → 0 ≤ s.2 ∧ s.2 < s.1.length) → 0 ≤ (intGo L s).2 ∧ (intGo L s).2 < (intGo L s).1.length
 | [],s,h=>h rfl
 |f :: L,s,h=>by
  rw [intGo]
  refine intGo_at L _ fun _=>?_
  have := child_bound s.1 s.2 f
  split
  ·simp only [List.length_append,List.length_cons,List.length_nil]; omega
  ·simp only; omega
theorem intern_len (N : List Node) (L : List Frame) : N.length ≤ (intern N L).1.length ∧ (intern N L).1.length ≤ N.length + L.length := by
 unfold intern
 split
 ·have := intGo_len L (N,-1); simpa using this
 ·simp only; omega
theorem intern_at (N : List Node) (L : List Frame) : (intern N L).2 = -1 ∨ (0 ≤ (intern N L).2 ∧ (intern N L).2 < (intern N L).1.length) := by
 unfold intern
 split
 ·rename_i h
  right
  exact intGo_at L (N,-1) fun e=>absurd e h.2.1
 ·left; rfl
theorem intGo_names {B : Nat} : ∀ (L : List Frame) (s : List Node × Int),(∀ x ∈ s.1,x.name.size ≤ B) → (∀ f ∈ L,f.name.size ≤ B) → ∀ x ∈ (intGo L s).1,x.name.size ≤ B
 | [],s,h,_=>h
 |f :: L,s,h,hL=>by
  rw [intGo]
  refine intGo_names L _ ?_ fun g hg=>hL g (List.mem_cons_of_mem _ hg)
  split
  ·intro x hx
   rcases List.mem_append.1 hx with hx|hx
   ·exact h x hx
   ·simp only [List.mem_cons,List.not_mem_nil,or_false] at hx
    subst hx
    exact hL f List.mem_cons_self
  ·exact h
theorem intern_names {B : Nat} {N : List Node} {L : List Frame} (h : ∀ x ∈ N,x.name.size ≤ B) (hL : ∀ f ∈ L,f.name.size ≤ B) : ∀ x ∈ (intern N L).1,x.name.size ≤ B := by
 unfold intern
 split
 ·exact intGo_names L _ h hL
 ·exact h
def cntOk (C : List Int) : Bool := decide (∀ k (h : k < C.length),0 ≤ C[k] ∧ C[k] ≤ 1000000000000 - (C.take k).sum)
def profileOk (N : List Node) (C : List Int) : Bool := stacksOk N && decide (C.length = N.length) && cntOk C
theorem cntOk_at {C : List Int} (h : cntOk C = true) (k : Nat) (hk : k < C.length) : 0 ≤ C[k] ∧ C[k] ≤ 1000000000000 - (C.take k).sum := by
 unfold cntOk at h
 exact of_decide_eq_true h k hk
theorem take_sum (C : List Int) (k : Nat) (hk : k < C.length) : (C.take (k + 1)).sum = (C.take k).sum + C[k] := by
 rw [List.take_succ_eq_append_getElem hk,List.sum_append]; simp
theorem cntOk_sum {C : List Int} (h : ∀ j (hj : j < C.length),0 ≤ C[j] ∧ C[j] ≤ 1000000000000 - (C.take j).sum) : ∀ k,k ≤ C.length → 0 ≤ (C.take k).sum ∧ (C.take k).sum ≤ 1000000000000
 | 0,_=>by simp
 |k + 1,hk=>by
  have ih := cntOk_sum h k (by omega)
  have := h k (by omega)
  rw [take_sum C k (by omega)]; omega
theorem profileOk_iff {N : List Node} {C : List Int} : profileOk N C = true ↔ stacksOk N = true ∧ C.length = N.length ∧ cntOk C = true := by
 simp [profileOk,and_assoc]
theorem profileOk_sum {N : List Node} {C : List Int} (h : profileOk N C = true) (k : Nat) (hk : k ≤ C.length) : 0 ≤ (C.take k).sum ∧ (C.take k).sum ≤ 1000000000000 :=
 cntOk_sum (fun j hj=>cntOk_at (profileOk_iff.1 h).2.2 j hj) k hk
def addC (C : List Int) (m : Nat) (k : Nat) (n : Int) : List Int := (C ++ List.replicate (m - C.length) 0).set k ((C ++ List.replicate (m - C.length) 0).getD k 0 + n)
def addStack (N : List Node) (C : List Int) (L : List Frame) (n : Int) : (List Node × List Int) × Bool :=
 if profileOk N C = true ∧ 0 ≤ n ∧ n ≤ 1000000000000 ∧ 0 ≤ (intern N L).2 ∧ profileOk (intern N L).1 (addC C (intern N L).1.length (intern N L).2.toNat n) = true
 then (((intern N L).1,addC C (intern N L).1.length (intern N L).2.toNat n),true) else ((N,C),false)
end Go.Proofs.YtjjbcoigaejoaaaGreat

namespace Go.Proofs.YtjjbcoigaejoaaaGreat
open Go.Vc
attribute [local go_sem] St.runR St.runW St.stepV offV St.step St.stepU St.stepG mkCond guardB St.prK St.pr St.prLen St.eff St.callE St.callD St.callF St.callL aI aS aR aC St.isM St.argL Ctr.pure Ctr.lend Ctr.move Ctr.isL Ctr.wri pur len lentBy St.lentV St.lent1 nthS argsR restOf obsR pairs swapL unObs backL St.resL erL SV.ren1 SV.up SV.up2 Ob.up St.fzL cellIds partIds St.intoRow SV.ownId St.fz SV.fz1 St.prep St.mvL St.mv SV.re1 rnOk St.prEq vals eqCells scEq Value.kd St.prStr St.prCut cutR St.bnd St.prMin St.bld isShift outL retL outJ oR oC oE oD SV.upq SV.isSl SV.shut St.deepK St.dpArg St.deepQ absC Ob.pl St.ev St.get St.put St.new St.kill SV.kill SV.kill1 Ob.kill St.app St.wrt St.rowsOf St.res St.killL lk er argsL SV.strip SV.need SV.share SV.share1 SV.owns SV.owns1 SV.owns2 SV.good SV.good1 SV.rok SV.rok1 SV.rok2 SV.isV SV.isV2 nodupN SV.cells SV.one SV.pur Ob.pb partsIn rowsIn splice cellsAt dstOk scal2 scal1 thenK blockK retK outK outs okC okL okA okT nilC nilL nilA nilT keepC keepL keepA keepT St.runG St.dltK St.least St.clean St.final St.hide offK badS badO SV.refs SV.leaf SV.leaf2 Ob.refs dlOk fpAt Go.Vc.cover tups SV.ofAgg St.out outC subL St.has rng wr Value.oneCell' Option.isSome_some Option.isSome_none List.nil_append Bool.false_eq_true List.map_cons List.map_nil List.all_cons List.all_nil List.length_cons List.length_nil List.drop_zero List.drop_succ_cons List.take_succ_cons List.take_zero List.drop_nil List.take_nil List.getElem?_cons_zero List.getElem?_cons_succ List.getElem?_nil List.cons_append List.nil_append List.append_nil List.append_assoc List.flatMap_cons List.flatMap_nil List.contains_cons List.contains_nil List.set_cons_zero List.set_cons_succ List.getElem?_toArray Option.getD_some Option.getD_none Option.map_some Option.map_none Option.bind_some Option.some.injEq Prod.mk.injEq if_true if_false true_and and_true and_self and_false false_and Bool.and_false Bool.false_and Bool.or_true Bool.true_or Bool.or_false Bool.false_or ne_eq not_true_eq_false not_false_eq_true decide_true decide_false List.mem_cons List.not_mem_nil List.filter_cons List.filter_nil List.any_cons List.any_nil List.isEmpty_nil List.isEmpty_cons Option.getD_none or_false false_or true_or or_true forall_eq_or_imp forall_eq reduceCtorEq exists_eq exists_eq' exists_eq_left' exists_eq_left exists_eq_right exists_eq_right' imp_self implies_true Bool.and_true Bool.true_and Bool.and_self beq_self_eq_true List.replicate_succ List.replicate_zero forall_const false_implies pickB_or pickB_and beqT beqF Int.toNat_natCast List.length_map List.length_replicate ge_iff_le gt_iff_lt decide_eq_true_eq decide_eq_false_iff_not Bool.and_eq_true Bool.or_eq_true Bool.not_eq_true' Bool.not_eq_false' condG List.toList_toArray Bool.or_eq_false_iff Bool.and_eq_false_iff Int.not_lt Int.not_le beq_iff_eq beq_eq_false_iff_ne bne_iff_ne bne_eq_false_iff_eq ne_eq Bool.not_true Bool.not_false exists_and_left
section
open Go.Vc
attribute [local irreducible] Go.Vc.WP
attribute [local go_sem] cx0_t cx0_c
structure Entry where
 stack : ByteArray
 count : Int
deriving DecidableEq
end
end Go.Proofs.YtjjbcoigaejoaaaGreat
namespace Go.Proofs.YtjjbcoigaejoaaaGreat
open Go.Pl
theorem addC_len (C : List Int) (m k : Nat) (n : Int) : (addC C m k n).length = max C.length m := by
 simp [addC]; omega
theorem addStack_len (N : List Node) (C : List Int) (L : List Frame) (n : Int) : (addStack N C L n).1.1.length ≤ N.length + L.length ∧ (addStack N C L n).1.2.length ≤ max C.length (N.length + L.length) := by
 have := intern_len N L
 unfold addStack
 split
 ·simp only [addC_len]; omega
 ·simp only; omega
theorem addStack_names {B : Nat} {N : List Node} {C : List Int} {L : List Frame} {n : Int} (h : ∀ x ∈ N,x.name.size ≤ B) (hL : ∀ f ∈ L,f.name.size ≤ B) : ∀ x ∈ (addStack N C L n).1.1,x.name.size ≤ B := by
 unfold addStack
 split
 ·exact intern_names h hL
 ·exact h
end Go.Proofs.YtjjbcoigaejoaaaGreat

namespace Go.Proofs.YtjjbcoigaejoaaaGreat
open Go.Pl
def hasName (s : ByteArray) (f : Frame) : Bool := decide (f.name = s)
def idxF (s : ByteArray) (L : List Frame) : Int := firstIdx (hasName s) L
def pick (s : ByteArray) (b : Bool) (L : List Frame) : List Frame := if (decide (0 ≤ idxF s L) == b) = true then L else []
theorem firstIdx_neg {α : Type} {p : α → Bool} {L : List α} (h : firstIdx p L < 0) : ∀ x ∈ L,p x = false := by
 unfold firstIdx at h
 split at h
 ·omega
 ·rename_i hn
  intro x hx
  have := List.findIdx?_eq_none_iff.1 hn x hx
  simpa using this
theorem stacksOk_snoc {N : List Node} {p : Int} {f : Frame} (h : stacksOk N = true) (hp : -1 ≤ p) (hq : p < N.length) (hf : frOk f = true) (hc : child N p f < 0) : stacksOk (N ++ [mkNode p f]) = true := by
 refine stacksOk_all fun k hk=>?_
 simp only [List.length_append,List.length_cons,List.length_nil] at hk
 rcases Nat.lt_or_ge k N.length with h1|h1
 ·have := stacksOk_at h k h1
  unfold stNode at this ⊢
  rw [List.getElem_append_left h1,List.take_append_of_le_length (by omega)]
  exact this
 ·obtain rfl : k = N.length:=by omega
  rw [List.getElem_append_right (by omega)]
  simp only [Nat.sub_self,List.getElem_cons_zero]
  refine stNode_iff.2 ⟨hp,by simp only [mkNode]; omega,hf,fun y hy he=>?_⟩
  rw [List.take_append_of_le_length (by omega),List.take_length] at hy
  have := firstIdx_neg hc y hy
  rw [he] at this
  simp [hitNode,mkNode,nodeFr] at this
theorem intGo_ok : ∀ (L : List Frame) (s : List Node × Int),stacksOk s.1 = true → L.all frOk = true → -1 ≤ s.2 → s.2 < s.1.length → stacksOk (intGo L s).1 = true
 | [],s,h,_,_,_=>h
 |f :: L,s,h,ha,h1,h2=>by
  simp only [List.all_cons,Bool.and_eq_true] at ha
  have hb := child_bound s.1 s.2 f
  rw [intGo]
  split
  ·rename_i hc
   exact intGo_ok L _ (stacksOk_snoc h h1 h2 ha.1 hc) ha.2 (by simp only; omega) (by simp only [List.length_append,List.length_cons,List.length_nil]; omega)
  ·exact intGo_ok L _ h ha.2 hb.1 hb.2
theorem intern_ok {N : List Node} {L : List Frame} (h : stacksOk N = true) : stacksOk (intern N L).1 = true := by
 unfold intern
 split
 ·rename_i hh
  exact intGo_ok L (N,-1) h hh.2.2 (by simp only; omega) (by simp only; omega)
 ·exact h
theorem intern_pos {N : List Node} {L : List Frame} (h : stacksOk N = true) (hL : L ≠ []) (ha : L.all frOk = true) : 0 ≤ (intern N L).2 ∧ (intern N L).2 < (intern N L).1.length := by
 unfold intern
 rw [if_pos ⟨h,hL,ha⟩]
 exact intGo_at L (N,-1) fun e=>absurd e hL
theorem sum_set : ∀ {C : List Int} {k : Nat} (n : Int),k < C.length → (C.set k (C.getD k 0 + n)).sum = C.sum + n
 |x :: C,0,n,_=>by simp; omega
 |x :: C,k + 1,n,h=>by
  have := sum_set (C := C) (k := k) n (by simpa using h)
  simp only [List.set_cons_succ,List.sum_cons,List.getD_cons_succ]
  rw [this]; omega
theorem sum_nonneg : ∀ {C : List Int},(∀ x ∈ C,0 ≤ x) → 0 ≤ C.sum
 | [],_=>by simp
 |x :: C,h=>by
  have := sum_nonneg (C := C) fun y hy=>h y (List.mem_cons_of_mem _ hy)
  have := h x List.mem_cons_self
  simp only [List.sum_cons]; omega
theorem sum_rep (n : Nat) : (List.replicate n (0 : Int)).sum = 0 := by
 induction n with
 |zero=>rfl
 |succ n ih=>rw [List.replicate_succ,List.sum_cons,ih]; rfl
theorem cntOk_total {C : List Int} (h0 : ∀ x ∈ C,0 ≤ x) (ht : C.sum ≤ 1000000000000) : cntOk C = true := by
 unfold cntOk
 refine decide_eq_true fun k hk=>⟨h0 _ (List.getElem_mem hk),?_⟩
 have h1 := take_sum C k hk
 have h2 : C.sum = (C.take (k + 1)).sum + (C.drop (k + 1)).sum:=by rw [← List.sum_append,List.take_append_drop]
 have h3 : 0 ≤ (C.drop (k + 1)).sum := sum_nonneg fun x hx=>h0 x (List.mem_of_mem_drop hx)
 omega
theorem cntOk_nonneg {C : List Int} (h : cntOk C = true) : ∀ x ∈ C,0 ≤ x := fun x hx=>by
 obtain ⟨k,hk,rfl⟩ := List.mem_iff_getElem.1 hx
 exact (cntOk_at h k hk).1
theorem addC_sum {C : List Int} {m k : Nat} (n : Int) (hk : k < max C.length m) : (addC C m k n).sum = C.sum + n := by
 unfold addC
 rw [sum_set n (by simp only [List.length_append,List.length_replicate]; omega),List.sum_append,sum_rep]; omega
theorem mem_set' {α : Type} {L : List α} {k : Nat} {x y : α} (h : y ∈ L.set k x) : y = x ∨ y ∈ L := by
 rcases List.mem_or_eq_of_mem_set h with h|h
 ·exact .inr h
 ·exact .inl h
theorem addC_nonneg {C : List Int} {m k : Nat} {n : Int} (h0 : ∀ x ∈ C,0 ≤ x) (hn : 0 ≤ n) : ∀ x ∈ addC C m k n,0 ≤ x := by
 have hD : ∀ x ∈ C ++ List.replicate (m - C.length) (0 : Int),0 ≤ x := fun x hx=>by
  rcases List.mem_append.1 hx with h|h
  ·exact h0 x h
  ·rw [List.mem_replicate] at h; omega
 intro x hx
 unfold addC at hx
 rcases mem_set' hx with h|h
 ·rw [h]
  have : 0 ≤ (C ++ List.replicate (m - C.length) (0 : Int)).getD k 0 := by
   rw [List.getD_eq_getElem?_getD]
   cases hg : (C ++ List.replicate (m - C.length) (0 : Int))[k]? with
   |none=>simp
   |some y=>exact hD y (List.mem_of_getElem? hg)
  omega
 ·exact hD x h
theorem addStack_total {N : List Node} {C : List Int} {L : List Frame} {n : Int} (hp : profileOk N C = true) (hL : L ≠ []) (ha : L.all frOk = true) (h0 : 0 ≤ n) (hs : C.sum + n ≤ 1000000000000) :
  (addStack N C L n).2 = true ∧ (addStack N C L n).1.2.sum = C.sum + n ∧ profileOk (addStack N C L n).1.1 (addStack N C L n).1.2 = true := by
 obtain ⟨p1,p2,p3⟩ := profileOk_iff.1 hp
 have hn := cntOk_nonneg p3
 have hC0 := sum_nonneg hn
 obtain ⟨i0,i1⟩ := intern_pos (N := N) p1 hL ha
 have il := (intern_len N L).1
 have hk : (intern N L).2.toNat < max C.length (intern N L).1.length:=by omega
 have hsum := addC_sum (C := C) (m := (intern N L).1.length) n hk
 have hok : profileOk (intern N L).1 (addC C (intern N L).1.length (intern N L).2.toNat n) = true :=
  profileOk_iff.2 ⟨intern_ok p1,by rw [addC_len]; omega,cntOk_total (addC_nonneg hn h0) (by rw [hsum]; exact hs)⟩
 have hcond : profileOk N C = true ∧ 0 ≤ n ∧ n ≤ 1000000000000 ∧ 0 ≤ (intern N L).2 ∧ profileOk (intern N L).1 (addC C (intern N L).1.length (intern N L).2.toNat n) = true := ⟨hp,h0,by omega,i0,hok⟩
 unfold addStack
 rw [if_pos hcond]
 exact ⟨rfl,hsum,hok⟩
end Go.Proofs.YtjjbcoigaejoaaaGreat

namespace Go.Proofs.YtjjbcoigaejoaaaGreat
open Go.Pl
instance inhE : Inhabited Entry := ⟨⟨⟨#[]⟩,0⟩⟩
instance memBA (t : ByteArray) (ns : List ByteArray) : Decidable (t ∈ ns) := decidable_of_iff (∃ x,x ∈ ns ∧ x = t) (by simp)
structure Rep' (L : List Entry) (f : ByteArray → Option Int) : Prop where
 nd : L.Pairwise fun a b=>a.stack ≠ b.stack
 mem : ∀ e : Entry,e ∈ L ↔ f e.stack = some e.count
def updF (f : ByteArray → Option Int) (s : ByteArray) (c : Int) (t : ByteArray) : Option Int := if t = s then some ((f s).getD 0 + c) else f t
theorem Rep'.nil : Rep' [] (fun _=>none) := ⟨.nil,fun e=>by simp⟩
theorem Rep'.none {L : List Entry} {f : ByteArray → Option Int} (h : Rep' L f) {s : ByteArray} (hs : ∀ x ∈ L,x.stack ≠ s) : f s = none := by
 cases hf : f s with
 |none=>rfl
 |some n=>exact absurd rfl (hs ⟨s,n⟩ ((h.mem _).2 hf))
theorem Rep'.put {L A B : List Entry} {f : ByteArray → Option Int} (h : Rep' L f) (hL : L = A ++ B) {s : ByteArray} {c : Int} (hs : ∀ x ∈ L,x.stack ≠ s) : Rep' (A ++ ⟨s,c⟩ :: B) (updF f s c) := by
 have hp : (A ++ ⟨s,c⟩ :: B).Perm (⟨s,c⟩ :: L):=by rw [hL]; exact List.perm_middle
 have hn := h.none hs
 refine ⟨?_,fun e=>?_⟩
 ·refine (hp.pairwise_iff (fun {a b} hh=>Ne.symm hh)).2 ?_
  exact List.pairwise_cons.2 ⟨fun x hx=>Ne.symm (hs x hx),h.nd⟩
 ·rw [hp.mem_iff,List.mem_cons,h.mem]
  unfold updF
  by_cases he : e.stack = s
  ·rw [if_pos he,he,hn]
   constructor
   ·rintro (h1|h1)
    ·rw [h1]; simp
    ·cases h1
   ·intro h1
    left
    obtain ⟨a,b⟩ := e
    simp only at he
    simp only [Option.getD_none,Int.zero_add,Option.some.injEq] at h1
    rw [he,h1]
  ·rw [if_neg he]
   constructor
   ·rintro (h1|h1)
    ·exact absurd (by rw [h1]) he
    ·exact h1
   ·exact .inr
theorem Rep'.up {L : List Entry} {f : ByteArray → Option Int} (h : Rep' L f) {k : Nat} (hk : k < L.length) (c : Int) : Rep' (L.set k ⟨L[k].stack,L[k].count + c⟩) (updF f L[k].stack c) := by
 have hat : ∀ i (hi : i < L.length),L[i].stack = L[k].stack → i = k := fun i hi he=>by
  rcases Nat.lt_trichotomy i k with h1|h1|h1
  ·exact absurd he ((List.pairwise_iff_getElem.1 h.nd) i k hi hk h1)
  ·exact h1
  ·exact absurd he.symm ((List.pairwise_iff_getElem.1 h.nd) k i hk hi h1)
 have hf : f L[k].stack = some L[k].count := (h.mem _).1 (List.getElem_mem hk)
 refine ⟨?_,fun e=>?_⟩
 ·rw [List.pairwise_iff_getElem]
  intro i j hi hj hij
  simp only [List.length_set] at hi hj
  have h0 := (List.pairwise_iff_getElem.1 h.nd) i j hi hj hij
  rw [List.getElem_set,List.getElem_set]
  by_cases h1 : k = i
  ·subst h1
   rw [if_pos rfl,if_neg (by omega)]; exact h0
  ·rw [if_neg h1]
   by_cases h2 : k = j
   ·subst h2; rw [if_pos rfl]; exact h0
   ·rw [if_neg h2]; exact h0
 ·unfold updF
  by_cases he : e.stack = L[k].stack
  ·rw [if_pos he,hf]
   constructor
   ·intro hm
    obtain ⟨i,hi,hie⟩ := List.mem_iff_getElem.1 hm
    simp only [List.length_set] at hi
    rw [List.getElem_set] at hie
    by_cases h1 : k = i
    ·rw [if_pos h1] at hie; rw [← hie]; rfl
    ·rw [if_neg h1] at hie
     exact absurd (hat i hi (by rw [hie,he])).symm h1
   ·intro h1
    simp only [Option.getD_some,Option.some.injEq] at h1
    have : e = ⟨L[k].stack,L[k].count + c⟩ := by
     obtain ⟨a,b⟩ := e
     simp only at he h1
     rw [he,h1]
    rw [this]
    exact List.mem_iff_getElem.2 ⟨k,by simpa using hk,by simp⟩
  ·rw [if_neg he,← h.mem]
   constructor
   ·intro hm
    rcases mem_set' hm with h1|h1
    ·exact absurd (by rw [h1]) he
    ·exact h1
   ·intro hm
    obtain ⟨i,hi,hie⟩ := List.mem_iff_getElem.1 hm
    have : k ≠ i := fun e1=>by subst e1; exact he (by rw [hie])
    exact List.mem_iff_getElem.2 ⟨i,by simpa using hi,by rw [List.getElem_set,if_neg this]; exact hie⟩
theorem firstIdx_pos {α : Type} {p : α → Bool} {L : List α} (h : ¬ firstIdx p L < 0) : ∃ (k : Nat) (hk : k < L.length),firstIdx p L = k ∧ p L[k] = true := by
 unfold firstIdx at h ⊢
 split at h
 ·rename_i i hi
  obtain ⟨h1,h2,_⟩ := List.findIdx?_eq_some_iff_getElem.1 hi
  exact ⟨i,h1,rfl,h2⟩
 ·omega
end Go.Proofs.YtjjbcoigaejoaaaGreat

namespace Go.Proofs.YtjjbcoigaejoaaaGreat
def kd (P : List Line) (i : Nat) : Int := match P[i]? with
 |some x=>x.kind
 |none=>-1
theorem kd_lt {P : List Line} {i : Nat} (h : i < P.length) : kd P i = P[i].kind:=by unfold kd; rw [List.getElem?_eq_getElem h]
theorem kd_ge {P : List Line} {i : Nat} (h : ¬ i < P.length) : kd P i = -1:=by unfold kd; rw [List.getElem?_eq_none (by omega)]
theorem kd_in {P : List Line} {i : Nat} (h : 0 ≤ kd P i) : i < P.length := by
 rcases Nat.lt_or_ge i P.length with h'|h'
 ·exact h'
 ·rw [kd_ge (by omega)] at h; omega
def delta (k : Int) : Int := if k = 0 ∨ k = 3 ∨ k = 5 then 1 else if k = 7 then -1 else 0
theorem delta_bound (k : Int) : -1 ≤ delta k ∧ delta k ≤ 1 := by
 unfold delta
 split
 ·omega
 ·split <;> omega
def opensK (k : Int) : Bool := decide (k = 0) || decide (k = 3) || decide (k = 5)
theorem opensK_iff {k : Int} : opensK k = true ↔ k = 0 ∨ k = 3 ∨ k = 5:=by simp [opensK,or_assoc]
theorem delta_open {k : Int} (h : opensK k = true) : delta k = 1 := if_pos (opensK_iff.1 h)
theorem delta_end : delta 7 = -1:=by decide
theorem delta_else {k : Int} (h : opensK k = false) (h7 : k ≠ 7) : delta k = 0 := by
 unfold delta; rw [if_neg (fun e=>by rw [opensK_iff.2 e] at h; cases h),if_neg h7]
def sumTo (P : List Line) : Nat → Int
 | 0=>0
 |i + 1=>sumTo P i + delta (kd P i)
theorem sumTo_step (P : List Line) (i : Nat) : sumTo P i - 1 ≤ sumTo P (i + 1) ∧ sumTo P (i + 1) ≤ sumTo P i + 1 := by
 have := delta_bound (kd P i)
 have e : sumTo P (i + 1) = sumTo P i + delta (kd P i) := rfl
 rw [e]; omega
theorem sumTo_bound (P : List Line) : ∀ i : Nat,-(i : Int) ≤ sumTo P i ∧ sumTo P i ≤ i
 | 0=>by simp [sumTo]
 |i + 1=>by have := sumTo_bound P i; have := sumTo_step P i; omega
theorem ivt {f : Nat → Int} (hs : ∀ i : Nat,f i - 1 ≤ f (i + 1)) {c : Int} : ∀ (n a : Nat),c ≤ f a → f (a + n) ≤ c → ∃ e : Nat,a ≤ e ∧ e ≤ a + n ∧ f e = c ∧ ∀ e' : Nat,a ≤ e' → e' < e → c < f e'
 | 0,a,h1,h2=>⟨a,by omega,by omega,by simp only [Nat.add_zero] at h2; omega,fun e' q1 q2=>by omega⟩
 |n + 1,a,h1,h2=>by
  by_cases h : f a = c
  ·exact ⟨a,by omega,by omega,h,fun e' q1 q2=>by omega⟩
  ·have := hs a
   obtain ⟨e,e1,e2,e3,e4⟩ := ivt hs (c := c) n (a + 1) (by omega) (by rw [show a + 1 + n = a + (n + 1) by omega]; exact h2)
   refine ⟨e,by omega,by omega,e3,fun e' q1 q2=>?_⟩
   rcases Nat.lt_or_ge a e' with q|q
   ·exact e4 e' (by omega) q2
   ·rw [show e' = a by omega]; omega
structure IsEnd (P : List Line) (k e : Nat) : Prop where
 le : k ≤ e
 lt : e < P.length
 sum : sumTo P (e + 1) = sumTo P k
 least : ∀ e' : Nat,k ≤ e' → e' < e → sumTo P (e' + 1) ≠ sumTo P k
def endFrom : List Line → Nat → Int → Int
 | [],_,_=>-1
 |x :: L,i,o=>if o + delta x.kind = 0 then (i : Int) else endFrom L (i + 1) (o + delta x.kind)
theorem drop_cons {α : Type} {P : List α} {i : Nat} (h : i < P.length) : P.drop i = P[i] :: P.drop (i + 1):=by rw [List.drop_eq_getElem_cons h]
theorem endFrom_succ {P : List Line} {i : Nat} (h : i < P.length) (o : Int) : endFrom (P.drop i) i o = if o + delta P[i].kind = 0 then (i : Int) else endFrom (P.drop (i + 1)) (i + 1) (o + delta P[i].kind) := by
 rw [drop_cons h,endFrom]
theorem endFrom_end {P : List Line} {i : Nat} (h : ¬ i < P.length) (o : Int) : endFrom (P.drop i) i o = -1 := by
 rw [List.drop_eq_nil_of_le (by omega),endFrom]
def endOf (P : List Line) (k : Int) : Int := if 0 ≤ k ∧ k < P.length ∧ opensK (kd P k.toNat) = true then endFrom (P.drop k.toNat) k.toNat 0 else -1
theorem endFrom_form (P : List Line) (c : Int) : ∀ (n i : Nat),P.length - i ≤ n →
  (endFrom (P.drop i) i (sumTo P i - c) = -1 ∧ ∀ e : Nat,i ≤ e → e < P.length → sumTo P (e + 1) ≠ c) ∨
  ∃ e : Nat,endFrom (P.drop i) i (sumTo P i - c) = (e : Int) ∧ i ≤ e ∧ e < P.length ∧ sumTo P (e + 1) = c ∧ ∀ e' : Nat,i ≤ e' → e' < e → sumTo P (e' + 1) ≠ c := by
 intro n
 induction n with
 |zero=>intro i h; exact .inl ⟨endFrom_end (by omega) _,fun e h1 h2=>by omega⟩
 |succ n ih =>
  intro i h
  by_cases hi : i < P.length
  ·have hs : sumTo P i - c + delta P[i].kind = sumTo P (i + 1) - c:=by rw [sumTo,kd_lt hi]; omega
   rw [endFrom_succ hi,hs]
   by_cases h0 : sumTo P (i + 1) - c = 0
   ·rw [if_pos h0]
    exact .inr ⟨i,rfl,by omega,hi,by omega,fun e' h1 h2=>by omega⟩
   ·rw [if_neg h0]
    rcases ih (i + 1) (by omega) with ⟨a,b⟩|⟨e,a,b,d,f,g⟩
    ·refine .inl ⟨a,fun e h1 h2=>?_⟩
     rcases Nat.lt_or_ge i e with q|q
     ·exact b e (by omega) h2
     ·rw [show e = i by omega]; omega
    ·refine .inr ⟨e,a,by omega,d,f,fun e' h1 h2=>?_⟩
     rcases Nat.lt_or_ge i e' with q|q
     ·exact g e' (by omega) h2
     ·rw [show e' = i by omega]; omega
  ·exact .inl ⟨endFrom_end hi _,fun e h1 h2=>by omega⟩
theorem endOf_form {P : List Line} {k : Nat} (ho : opensK (kd P k) = true) : (endOf P k = -1 ∧ ∀ e : Nat,¬ IsEnd P k e) ∨ ∃ e : Nat,endOf P k = (e : Int) ∧ IsEnd P k e ∧ k < e := by
 have hk : k < P.length := kd_in (by rcases opensK_iff.1 ho with e|e|e <;> omega)
 unfold endOf
 rw [if_pos ⟨by omega,by omega,ho⟩,Int.toNat_natCast]
 rcases endFrom_form P (sumTo P k) P.length k (by omega) with ⟨a,b⟩|⟨e,a,b,d,f,g⟩
 ·rw [show sumTo P k - sumTo P k = 0 by omega] at a
  exact .inl ⟨a,fun e h=>b e h.le h.lt h.sum⟩
 ·rw [show sumTo P k - sumTo P k = 0 by omega] at a
  have h1 : sumTo P (k + 1) = sumTo P k + 1:=by rw [sumTo,delta_open ho]
  refine .inr ⟨e,a,⟨b,d,f,g⟩,?_⟩
  rcases Nat.lt_or_ge k e with q|q
  ·exact q
  ·rw [show e = k by omega] at f; omega
theorem IsEnd.inj {P : List Line} {k e e' : Nat} (h : IsEnd P k e) (h' : IsEnd P k e') : e = e' := by
 rcases Nat.lt_trichotomy e e' with q|q|q
 ·exact absurd h.sum (h'.least e h.le q)
 ·exact q
 ·exact absurd h'.sum (h.least e' h'.le q)
theorem endOf_of {P : List Line} {k e : Nat} (ho : opensK (kd P k) = true) (h : IsEnd P k e) : endOf P k = e := by
 rcases endOf_form ho with ⟨_,b⟩|⟨e',a,b,_⟩
 ·exact absurd h (b e)
 ·rw [a,b.inj h]
theorem endOf_opens {P : List Line} {k : Int} (h : 0 ≤ endOf P k) : 0 ≤ k ∧ k < P.length ∧ opensK (kd P k.toNat) = true := by
 unfold endOf at h
 split at h
 ·assumption
 ·omega
theorem endOf_nn {P : List Line} {k : Nat} (h : 0 ≤ endOf P k) : ∃ e : Nat,endOf P k = (e : Int) ∧ IsEnd P k e ∧ k < e := by
 have ho := (endOf_opens h).2.2
 rw [Int.toNat_natCast] at ho
 rcases endOf_form ho with ⟨a,_⟩|q
 ·omega
 ·exact q
theorem endOf_bound (P : List Line) (k : Int) : endOf P k = -1 ∨ (k < endOf P k ∧ endOf P k < P.length) := by
 rcases Int.lt_or_le (endOf P k) 0 with h|h
 ·left
  unfold endOf at h ⊢
  split
  ·rename_i hh
   rw [if_pos hh] at h
   rcases endFrom_form P (sumTo P k.toNat) P.length k.toNat (by omega) with ⟨a,_⟩|⟨e,a,_⟩
   ·rw [show sumTo P k.toNat - sumTo P k.toNat = 0 by omega] at a; exact a
   ·rw [show sumTo P k.toNat - sumTo P k.toNat = 0 by omega] at a; rw [a] at h; omega
  ·rfl
 ·right
  have hk := (endOf_opens h).1
  obtain ⟨e,a,b,c⟩ := endOf_nn (P := P) (k := k.toNat) (by rw [Int.toNat_of_nonneg hk]; exact h)
  rw [Int.toNat_of_nonneg hk] at a
  have := b.lt
  omega
theorem IsEnd.inside {P : List Line} {k e i : Nat} (h : IsEnd P k e) (ho : opensK (kd P k) = true) (h1 : k < i) (h2 : i ≤ e) : sumTo P k < sumTo P i := by
 have hk1 : sumTo P (k + 1) = sumTo P k + 1:=by rw [sumTo,delta_open ho]
 rcases Int.lt_or_le (sumTo P k) (sumTo P i) with q|q
 ·exact q
 ·obtain ⟨e0,e1,e2,e3,e4⟩ := ivt (f := sumTo P) (fun i=>(sumTo_step P i).1) (c := sumTo P k) (i - (k + 1)) (k + 1) (by omega) (by rw [show k + 1 + (i - (k + 1)) = i by omega]; exact q)
  exfalso
  have := h.least (e0 - 1) (by omega) (by omega)
  rw [show e0 - 1 + 1 = e0 by omega] at this
  exact this e3
theorem IsEnd.kind {P : List Line} {k e : Nat} (h : IsEnd P k e) (ho : opensK (kd P k) = true) (hke : k < e) : kd P e = 7 := by
 have h1 := h.inside ho hke (by omega)
 have h2 := h.sum
 rw [sumTo] at h2
 have : delta (kd P e) < 0:=by omega
 unfold delta at this
 split at this
 ·omega
 ·split at this
  ·assumption
  ·omega
theorem IsEnd.nest {P : List Line} {k e i : Nat} (h : IsEnd P k e) (ho : opensK (kd P k) = true) (h1 : k < i) (h2 : i < e) (hi : opensK (kd P i) = true) : ∃ e' : Nat,endOf P i = (e' : Int) ∧ IsEnd P i e' ∧ i < e' ∧ e' < e := by
 have hin := h.inside ho h1 (by omega)
 have hi1 : sumTo P (i + 1) = sumTo P i + 1:=by rw [sumTo,delta_open hi]
 have hs := h.sum
 obtain ⟨e0,e1,e2,e3,e4⟩ := ivt (f := sumTo P) (fun i=>(sumTo_step P i).1) (c := sumTo P i) (e + 1 - (i + 1)) (i + 1) (by omega) (by rw [show i + 1 + (e + 1 - (i + 1)) = e + 1 by omega]; omega)
 have h0 : e0 ≠ i + 1 := fun q=>by rw [q] at e3; omega
 have h9 : e0 ≠ e + 1 := fun q=>by rw [q] at e3; omega
 have hE : IsEnd P i (e0 - 1) := ⟨by omega,by have := h.lt; omega,by rw [show e0 - 1 + 1 = e0 by omega]; exact e3,fun e' q1 q2=>by
  by_cases q : e' = i
  ·subst q; omega
  ·have := e4 (e' + 1) (by omega) (by omega); omega⟩
 exact ⟨e0 - 1,endOf_of hi hE,hE,by omega,by omega⟩
def elseGo (P : List Line) (e i : Nat) : Int :=
 if i < e then (if kd P i = 4 then (i : Int) else if (kd P i = 3 ∨ kd P i = 5) ∧ (i : Int) ≤ endOf P i then elseGo P e ((endOf P i).toNat + 1) else elseGo P e (i + 1)) else -1
termination_by e - i
decreasing_by all_goals omega
def elseOf (P : List Line) (k : Int) : Int := if endOf P k < 0 ∨ kd P k.toNat ≠ 3 then -1 else elseGo P (endOf P k).toNat (k.toNat + 1)
theorem elseGo_end {P : List Line} {e i : Nat} (h : ¬ i < e) : elseGo P e i = -1:=by rw [elseGo,if_neg h]
theorem elseGo_hit {P : List Line} {e i : Nat} (h : i < e) (hk : kd P i = 4) : elseGo P e i = i:=by rw [elseGo,if_pos h,if_pos hk]
theorem elseGo_skip {P : List Line} {e i : Nat} (h : i < e) (hk : kd P i = 3 ∨ kd P i = 5) (he : (i : Int) ≤ endOf P i) : elseGo P e i = elseGo P e ((endOf P i).toNat + 1) := by
 rw [elseGo,if_pos h,if_neg (by omega),if_pos ⟨hk,he⟩]
theorem elseGo_next {P : List Line} {e i : Nat} (h : i < e) (h4 : kd P i ≠ 4) (hk : ¬ ((kd P i = 3 ∨ kd P i = 5) ∧ (i : Int) ≤ endOf P i)) : elseGo P e i = elseGo P e (i + 1) := by
 rw [elseGo,if_pos h,if_neg h4,if_neg hk]
theorem elseGo_form (P : List Line) (e : Nat) : ∀ (n i : Nat),e - i ≤ n → elseGo P e i = -1 ∨ ∃ j : Nat,elseGo P e i = (j : Int) ∧ i ≤ j ∧ j < e ∧ kd P j = 4 := by
 intro n
 induction n with
 |zero=>intro i h; exact .inl (elseGo_end (by omega))
 |succ n ih =>
  intro i h
  by_cases hi : i < e
  ·by_cases h4 : kd P i = 4
   ·exact .inr ⟨i,elseGo_hit hi h4,by omega,hi,h4⟩
   ·by_cases hk : (kd P i = 3 ∨ kd P i = 5) ∧ (i : Int) ≤ endOf P i
    ·rw [elseGo_skip hi hk.1 hk.2]
     rcases ih ((endOf P i).toNat + 1) (by omega) with q|⟨j,a,b,c,d⟩
     ·exact .inl q
     ·exact .inr ⟨j,a,by omega,c,d⟩
    ·rw [elseGo_next hi h4 hk]
     rcases ih (i + 1) (by omega) with q|⟨j,a,b,c,d⟩
     ·exact .inl q
     ·exact .inr ⟨j,a,by omega,c,d⟩
  ·exact .inl (elseGo_end hi)
theorem elseOf_form (P : List Line) (k : Nat) : elseOf P k = -1 ∨ ∃ j e : Nat,elseOf P k = (j : Int) ∧ k < j ∧ j < e ∧ kd P j = 4 ∧ kd P k = 3 ∧ IsEnd P k e := by
 unfold elseOf
 split
 ·exact .inl rfl
 ·rename_i h
  rw [Int.toNat_natCast] at h ⊢
  obtain ⟨e,a,b,c⟩ := endOf_nn (P := P) (k := k) (by omega)
  rw [a,Int.toNat_natCast]
  rcases elseGo_form P e e (k + 1) (by omega) with q|⟨j,q1,q2,q3,q4⟩
  ·exact .inl q
  ·exact .inr ⟨j,e,q1,by omega,q3,q4,by omega,b⟩
def funs (P : List Line) (n : Nat) : List Int := ((List.range n).filter fun i=>decide (kd P i = 0)).map fun i : Nat=>(i : Int)
theorem funs_succ (P : List Line) (n : Nat) : funs P (n + 1) = funs P n ++ if kd P n = 0 then [(n : Int)] else [] := by
 unfold funs
 rw [List.range_succ,List.filter_append,List.map_append]
 congr 1
 by_cases h : kd P n = 0
 ·simp [h]
 ·simp [h]
theorem funs_len (P : List Line) : ∀ n,(funs P n).length ≤ n
 | 0=>by simp [funs]
 |n + 1=>by
  rw [funs_succ,List.length_append]
  have := funs_len P n
  split <;> simp <;> omega
def isFn (s : ByteArray) (x : Line) : Bool := decide (x.kind = 0) && decide (x.name = s)
def findFn (P : List Line) (s : ByteArray) : Int := firstIdx (isFn s) P
def argsAt (P : List Line) (i : Nat) : List ByteArray := match P[i]? with
 |some x=>x.args
 |none=>[]
def exprAt (P : List Line) (i : Nat) : List Tok := match P[i]? with
 |some x=>x.expr
 |none=>[]
def nameAt (P : List Line) (i : Nat) : ByteArray := match P[i]? with
 |some x=>x.name
 |none=>⟨#[]⟩
theorem argsAt_lt {P : List Line} {i : Nat} (h : i < P.length) : argsAt P i = P[i].args:=by unfold argsAt; rw [List.getElem?_eq_getElem h]
theorem exprAt_lt {P : List Line} {i : Nat} (h : i < P.length) : exprAt P i = P[i].expr:=by unfold exprAt; rw [List.getElem?_eq_getElem h]
theorem nameAt_lt {P : List Line} {i : Nat} (h : i < P.length) : nameAt P i = P[i].name:=by unfold nameAt; rw [List.getElem?_eq_getElem h]
def locGo (P : List Line) : Nat → Nat → List ByteArray → List ByteArray
 | 0,_,A=>A
 |n + 1,i,A=>locGo P n (i + 1) (if kd P i = 1 ∧ nameAt P i ∉ A then A ++ [nameAt P i] else A)
def localsOf (P : List Line) (k : Int) : List ByteArray := if endOf P k < 0 ∨ kd P k.toNat ≠ 0 then [] else locGo P ((endOf P k).toNat - k.toNat) k.toNat (argsAt P k.toNat)
def knownT (P : List Line) (A : List ByteArray) (t : Tok) : Bool :=
 (if t.kind = 1 then decide (t.name ∈ A) else true) && (if t.kind = 7 then decide (0 ≤ findFn P t.name) && decide (((argsAt P (findFn P t.name).toNat).length : Int) = t.num) else true)
def knownE (P : List Line) (A : List ByteArray) (E : List Tok) : Bool := E.all (knownT P A)
def bodyS (P : List Line) (k e : Nat) : Prop := (localsOf P k).length ≤ 8 ∧ ∀ i : Nat,k < i → i < e →
 kd P i ≠ 0 ∧ (kd P i = 4 → ∃ j : Nat,k ≤ j ∧ j < i ∧ elseOf P j = (i : Int)) ∧ sumTo P (i + 1) - sumTo P (k + 1) ≤ 4 ∧ knownE P (localsOf P k) (exprAt P i) = true
def bodyI (P : List Line) (k e : Nat) : Prop := (localsOf P k).length ≤ 8 ∧ ∀ i : Nat,k < i → i ≤ e →
 kd P i ≠ 0 ∧ sumTo P i - sumTo P (k + 1) + (if kd P i = 3 ∨ kd P i = 5 then 1 else 0) ≤ 4 ∧ knownE P (localsOf P k) (exprAt P i) = true
inductive Tiles (B : Nat → Nat → Prop) (P : List Line) : Nat → Prop
 |done : Tiles B P P.length
 |step {k e : Nat} (hk : kd P k = 0) (he : IsEnd P k e) (hb : B k e) (h : Tiles B P (e + 1)) : Tiles B P k
structure ProgS (P : List Line) : Prop where
 some : P ≠ []
 few : P.length ≤ 60
 main : kd P 0 = 0 ∧ nameAt P 0 = bts [109,97,105,110] ∧ argsAt P 0 = []
 funs : (funs P P.length).length ≤ 6
 lines : ∀ x ∈ P,LineP x
 first : ∀ i : Nat,i < P.length → kd P i = 0 → findFn P (nameAt P i) = (i : Int)
 tiles : Tiles (bodyS P) P 0
structure ProgI (P : List Line) : Prop where
 few : P.length ≤ 60
 funs : 1 ≤ (funs P P.length).length ∧ (funs P P.length).length ≤ 6
 lines : ∀ x ∈ P,LineP x
 main : kd P 0 = 0 ∧ nameAt P 0 = bts [109,97,105,110] ∧ argsAt P 0 = []
 first : ∀ i : Nat,i < P.length → kd P i = 0 → findFn P (nameAt P i) = (i : Int)
 tiles : Tiles (bodyI P) P 0
 elses : ∀ i : Nat,i < P.length → kd P i = 4 → ∃ j : Nat,j < P.length ∧ elseOf P j = (i : Int)
theorem opens_of {P : List Line} {k : Nat} (h : kd P k = 0 ∨ kd P k = 3 ∨ kd P k = 5) : opensK (kd P k) = true := opensK_iff.2 h
theorem IsEnd.lt' {P : List Line} {k e : Nat} (h : IsEnd P k e) (hk : kd P k = 0) : k < e := by
 have h1 : sumTo P (k + 1) = sumTo P k + 1:=by rw [sumTo,hk]; rfl
 have h2 := h.le
 rcases Nat.lt_or_ge k e with q|q
 ·exact q
 ·have := h.sum; rw [show e = k by omega] at this; omega
theorem Tiles.mono {B B' : Nat → Nat → Prop} {P : List Line} (hB : ∀ k e,kd P k = 0 → IsEnd P k e → B k e → B' k e) {k : Nat} (h : Tiles B P k) : Tiles B' P k := by
 induction h with
 |done=>exact .done
 |step hk he hb _ ih=>exact .step hk he (hB _ _ hk he hb) ih
theorem Tiles.sums {B : Nat → Nat → Prop} {P : List Line} {k : Nat} (h : Tiles B P k) : sumTo P k = 0 → ∀ i : Nat,k ≤ i → i ≤ P.length → 0 ≤ sumTo P i := by
 induction h with
 |done=>intro h0 i h1 h2; rw [show i = P.length by omega,h0]; omega
 | @step k e hk he hb h ih =>
  intro h0 i h1 h2
  by_cases hi : i ≤ e
  ·by_cases hik : i = k
   ·rw [hik,h0]; omega
   ·have := he.inside (opens_of (.inl hk)) (show k < i by omega) hi
    omega
  ·exact ih (by rw [he.sum,h0]) i (by omega) h2
theorem body_si {P : List Line} {k e : Nat} (hx : ∀ x ∈ P,LineP x) (hk : kd P k = 0) (he : IsEnd P k e) (h : bodyS P k e) : bodyI P k e := by
 refine ⟨h.1,fun i h1 h2=>?_⟩
 have hke := he.lt' hk
 have hs1 : sumTo P (k + 1) = sumTo P k + 1:=by rw [sumTo,hk]; rfl
 by_cases hie : i = e
 ·subst hie
  have h7 := he.kind (opens_of (.inl hk)) hke
  have hs := he.sum
  rw [sumTo,h7,delta_end] at hs
  have hx7 := hx _ (List.getElem_mem he.lt)
  rw [kd_lt he.lt] at h7
  refine ⟨by rw [kd_lt he.lt]; omega,by rw [kd_lt he.lt,if_neg (by omega)]; omega,?_⟩
  rw [exprAt_lt he.lt,hx7.noExpr (by rw [h7]; rfl)]; rfl
 ·obtain ⟨a,b,c,d⟩ := h.2 i h1 (by omega)
  refine ⟨a,?_,d⟩
  by_cases ho : kd P i = 3 ∨ kd P i = 5
  ·rw [if_pos ho]
   have : delta (kd P i) = 1 := if_pos (.inr ho)
   rw [sumTo,this] at c; omega
  ·rw [if_neg ho]
   rcases Nat.lt_or_ge (k + 1) i with q|q
   ·have := (h.2 (i - 1) (by omega) (by omega)).2.2.1
    rw [show i - 1 + 1 = i by omega] at this; omega
   ·rw [show i = k + 1 by omega]; omega
theorem body_is {P : List Line} {k e : Nat} (hk : kd P k = 0) (he : IsEnd P k e) (h : bodyI P k e) (hel : ∀ i : Nat,k < i → i < e → kd P i = 4 → ∃ j : Nat,k ≤ j ∧ j < i ∧ elseOf P j = (i : Int)) : bodyS P k e := by
 refine ⟨h.1,fun i h1 h2=>?_⟩
 obtain ⟨a,b,c⟩ := h.2 i h1 (by omega)
 refine ⟨a,hel i h1 h2,?_,c⟩
 rw [sumTo]
 have hd := delta_bound (kd P i)
 by_cases ho : kd P i = 3 ∨ kd P i = 5
 ·rw [if_pos ho] at b; omega
 ·rw [if_neg ho] at b
  have : delta (kd P i) ≤ 0 := by
   unfold delta
   rw [if_neg (by omega)]
   split <;> omega
  omega
theorem else_near {P : List Line} (hS : ∀ i : Nat,i ≤ P.length → 0 ≤ sumTo P i) {j i k : Nat} (h : elseOf P j = (i : Int)) (hki : k < i) (hk0 : sumTo P k = 0) : k ≤ j ∧ j < i := by
 rcases elseOf_form P j with q|⟨i',e,a,b,c,d,f,g⟩
 ·omega
 ·obtain rfl : i' = i:=by omega
  refine ⟨?_,b⟩
  rcases Nat.lt_or_ge j k with q|q
  ·have := g.inside (opens_of (.inr (.inl f))) q (by omega)
   have := hS j (by have := g.lt; omega)
   omega
  ·exact q
theorem Tiles.elses {B : Nat → Nat → Prop} {P : List Line} (hS : ∀ i : Nat,i ≤ P.length → 0 ≤ sumTo P i) (hB : ∀ k e,kd P k = 0 → IsEnd P k e → B k e → bodyI P k e)
  (hel : ∀ i : Nat,i < P.length → kd P i = 4 → ∃ j : Nat,j < P.length ∧ elseOf P j = (i : Int)) {k : Nat} (h : Tiles B P k) : sumTo P k = 0 → Tiles (bodyS P) P k := by
 induction h with
 |done=>intro _; exact .done
 | @step k e hk he hb h ih =>
  intro h0
  refine .step hk he (body_is hk he (hB k e hk he hb) fun i h1 h2 h4=>?_) (ih (by rw [he.sum,h0]))
  obtain ⟨j,_,hj⟩ := hel i (by have := he.lt; omega) h4
  have := else_near hS hj h1 h0
  exact ⟨j,this.1,this.2,hj⟩
theorem Tiles.elseIn {P : List Line} {k : Nat} (h : Tiles (bodyS P) P k) : ∀ i : Nat,k ≤ i → i < P.length → kd P i = 4 → ∃ j : Nat,j < P.length ∧ elseOf P j = (i : Int) := by
 induction h with
 |done=>intro i h1 h2; omega
 | @step k e hk he hb h ih =>
  intro i h1 h2 h4
  by_cases hie : i ≤ e
  ·have hne : i ≠ k := fun q=>by rw [q] at h4; omega
   have hne2 : i ≠ e := fun q=>by rw [q,he.kind (opens_of (.inl hk)) (he.lt' hk)] at h4; omega
   obtain ⟨j,a,b,c⟩ := (hb.2 i (by omega) (by omega)).2.1 h4
   exact ⟨j,by omega,c⟩
  ·exact ih i (by omega) h2 h4
theorem prog_si {P : List Line} (h : ProgS P) : ProgI P := by
 refine ⟨h.few,⟨?_,h.funs⟩,h.lines,h.main,h.first,h.tiles.mono fun k e hk he hb=>body_si h.lines hk he hb,fun i hi h4=>h.tiles.elseIn i (by omega) hi h4⟩
 have h0 : 0 < P.length := List.length_pos_iff.2 h.some
 have : (0 : Int) ∈ Go.Proofs.YtjjbcoigaejoaaaGreat.funs P P.length := by
  unfold Go.Proofs.YtjjbcoigaejoaaaGreat.funs
  refine List.mem_map.2 ⟨0,List.mem_filter.2 ⟨List.mem_range.2 h0,by simp [h.main.1]⟩,rfl⟩
 have := List.length_pos_of_mem this
 omega
theorem prog_is {P : List Line} (h : ProgI P) : ProgS P := by
 have hS : ∀ i : Nat,i ≤ P.length → 0 ≤ sumTo P i := fun i hi=>h.tiles.sums rfl i (by omega) hi
 exact ⟨fun e=>by have := h.funs.1; rw [e] at this; exact absurd this (by decide),h.few,h.main,h.funs.2,h.lines,h.first,h.tiles.elses hS (fun k e _ _ hb=>hb) h.elses rfl⟩
noncomputable def progOk (P : List Line) : Bool := @decide (ProgS P) (Classical.propDecidable _)
theorem progOk_iff {P : List Line} : progOk P = true ↔ ProgS P := by
 unfold progOk
 exact @decide_eq_true_iff (ProgS P) (Classical.propDecidable _)
theorem progOk_iff' {P : List Line} : progOk P = true ↔ ProgI P := progOk_iff.trans ⟨prog_si,prog_is⟩
def runF (P : List Line) : List Int → Int → Prop
 | [],next=>next = P.length
 |k :: F,next=>k = next ∧ findFn P (nameAt P k.toNat) = k ∧ ∃ e : Nat,IsEnd P k.toNat e ∧ bodyI P k.toNat e ∧ runF P F ((e : Int) + 1)
end Go.Proofs.YtjjbcoigaejoaaaGreat

namespace Go.Proofs.YtjjbcoigaejoaaaGreat
def popR (i : Int) : List Int → List Int
 | []=>[]
 |x :: R=>if x < i then popR i R else x :: R
def popL (i : Int) (L : List Int) : List Int := (popR i L.reverse).reverse
theorem popL_lt {i x : Int} (L : List Int) (h : x < i) : popL i (L ++ [x]) = popL i L := by
 unfold popL
 rw [List.reverse_append,List.reverse_singleton,List.singleton_append,popR,if_pos h]
theorem popL_ge {i x : Int} (L : List Int) (h : ¬ x < i) : popL i (L ++ [x]) = L ++ [x] := by
 unfold popL
 rw [List.reverse_append,List.reverse_singleton,List.singleton_append,popR,if_neg h,List.reverse_cons,List.reverse_reverse]
inductive Stk (P : List Line) (b : Int) : Nat → List Int → Prop
 |nil {i : Nat} (h : sumTo P i = b) : Stk P b i []
 |snoc {i j x : Nat} {L : List Int} (hL : Stk P b j L) (ho : opensK (kd P j) = true) (hE : IsEnd P j x) (hji : j < i) (hix : i ≤ x) (hs : sumTo P i = sumTo P j + 1) : Stk P b i (L ++ [(x : Int)])
theorem Stk.len {P : List Line} {b : Int} {i : Nat} {L : List Int} (h : Stk P b i L) : (L.length : Int) = sumTo P i - b := by
 induction h with
 |nil h=>simp only [List.length_nil]; omega
 |snoc hL ho hE hji hix hs ih=>simp only [List.length_append,List.length_cons,List.length_nil]; omega
theorem Stk.pop {P : List Line} {b : Int} {i : Nat} {L : List Int} (h : Stk P b i L) : popL i L = L := by
 cases h with
 |nil h=>rfl
 |snoc hL ho hE hji hix hs=>exact popL_ge _ (by omega)
theorem Stk.next {P : List Line} {k e i : Nat} {L : List Int} (hk : kd P k = 0) (he : IsEnd P k e) (h1 : k < i) (h2 : i < e) (hki : kd P i ≠ 0) (h : Stk P (sumTo P (k + 1)) i L) :
  Stk P (sumTo P (k + 1)) (i + 1) (popL ((i + 1 : Nat) : Int) (if kd P i = 3 ∨ kd P i = 5 then L ++ [endOf P i] else L)) := by
 have hs1 : sumTo P (k + 1) = sumTo P k + 1:=by rw [sumTo,hk]; rfl
 by_cases ho : kd P i = 3 ∨ kd P i = 5
 ·rw [if_pos ho]
  have hop : opensK (kd P i) = true := opensK_iff.2 (.inr ho)
  obtain ⟨e',a,b,c,d⟩ := he.nest (opens_of (.inl hk)) h1 h2 hop
  rw [a,popL_ge _ (by omega)]
  exact .snoc h hop b (by omega) (by omega) (by rw [sumTo,delta_open hop])
 ·rw [if_neg ho]
  have hnop : opensK (kd P i) = false := by
   cases hb : opensK (kd P i) with
   |false=>rfl
   |true =>
        rcases opensK_iff.1 hb with q|q|q
        ·exact absurd q hki
        ·exact absurd (.inl q) ho
        ·exact absurd (.inr q) ho
  by_cases h7 : kd P i = 7
  ·have hs : sumTo P (i + 1) = sumTo P i - 1:=by rw [sumTo,h7,delta_end]; omega
   cases h with
   |nil h=>exact absurd (show sumTo P (i + 1) = sumTo P k by omega) (he.least i (by omega) h2)
   | @snoc _ j x L0 hL hoj hE hji hix hsj =>
    have hxi : x = i := by
     rcases Nat.lt_or_ge i x with q|q
     ·exact absurd (show sumTo P (i + 1) = sumTo P j by omega) (hE.least i (by omega) q)
     ·omega
    subst hxi
    rw [popL_lt _ (by omega)]
    have hn : Stk P (sumTo P (k + 1)) (x + 1) L0 := by
     cases hL with
     |nil h=>exact .nil (by omega)
     | @snoc _ j' y L1 hL1 hoj' hE' hj' hjy hsj' =>
      refine .snoc hL1 hoj' hE' (by omega) ?_ (by omega)
      rcases Nat.lt_or_ge x y with q|q
      ·omega
      ·exfalso
       have hsy := hE'.sum
       rcases Nat.lt_or_ge y x with q2|q2
       ·have := hE.inside hoj (show j < y + 1 by omega) (by omega)
        omega
       ·rw [show y = x by omega] at hsy; omega
    rw [hn.pop]; exact hn
  ·have hs : sumTo P (i + 1) = sumTo P i:=by rw [sumTo,delta_else hnop h7]; omega
   have hn : Stk P (sumTo P (k + 1)) (i + 1) L := by
    cases h with
    |nil h=>exact .nil (by omega)
    | @snoc _ j x L0 hL hoj hE hji hix hsj =>
     have hx7 := hE.kind hoj (by omega)
     refine .snoc hL hoj hE (by omega) ?_ (by omega)
     rcases Nat.lt_or_ge i x with q|q
     ·omega
     ·rw [show x = i by omega] at hx7; exact absurd hx7 h7
   rw [hn.pop]; exact hn
noncomputable def bodyIB (P : List Line) (k e : Nat) : Bool := @decide (bodyI P k e) (Classical.propDecidable _)
theorem bodyIB_yes {P : List Line} {k e : Nat} (h : bodyI P k e) : bodyIB P k e = true:=by unfold bodyIB; exact @decide_eq_true _ (Classical.propDecidable _) h
theorem bodyIB_no {P : List Line} {k e : Nat} (h : ¬ bodyI P k e) : bodyIB P k e = false:=by unfold bodyIB; exact @decide_eq_false _ (Classical.propDecidable _) h
theorem bodyIB_of {P : List Line} {k e : Nat} (h : bodyIB P k e = true) : bodyI P k e:=by unfold bodyIB at h; exact @of_decide_eq_true _ (Classical.propDecidable _) h
noncomputable def bodySB (P : List Line) (k e : Nat) : Bool := @decide (bodyS P k e) (Classical.propDecidable _)
theorem bodySB_yes {P : List Line} {k e : Nat} (h : bodyS P k e) : bodySB P k e = true:=by unfold bodySB; exact @decide_eq_true _ (Classical.propDecidable _) h
theorem bodySB_no {P : List Line} {k e : Nat} (h : ¬ bodyS P k e) : bodySB P k e = false:=by unfold bodySB; exact @decide_eq_false _ (Classical.propDecidable _) h
theorem bodySB_of {P : List Line} {k e : Nat} (h : bodySB P k e = true) : bodyS P k e:=by unfold bodySB at h; exact @of_decide_eq_true _ (Classical.propDecidable _) h
def condI (P : List Line) (k i : Nat) : Prop := kd P i ≠ 0 ∧ sumTo P i - sumTo P (k + 1) + (if kd P i = 3 ∨ kd P i = 5 then 1 else 0) ≤ 4 ∧ knownE P (localsOf P k) (exprAt P i) = true
def condS (P : List Line) (k i : Nat) : Prop := kd P i ≠ 0 ∧ (kd P i = 4 → ∃ j : Nat,k ≤ j ∧ j < i ∧ elseOf P j = (i : Int)) ∧ sumTo P (i + 1) - sumTo P (k + 1) ≤ 4 ∧ knownE P (localsOf P k) (exprAt P i) = true
theorem condI.kn {P : List Line} {k i : Nat} (h : condI P k i) : kd P i ≠ 0 := h.1
theorem condS.kn {P : List Line} {k i : Nat} (h : condS P k i) : kd P i ≠ 0 := h.1
theorem condS.el {P : List Line} {k i : Nat} (h : condS P k i) : kd P i = 4 → ∃ j : Nat,k ≤ j ∧ j < i ∧ elseOf P j = (i : Int) := h.2.1
theorem condS.dp {P : List Line} {k i : Nat} (h : condS P k i) : sumTo P (i + 1) - sumTo P (k + 1) ≤ 4 := h.2.2.1
theorem condS.kw {P : List Line} {k i : Nat} (h : condS P k i) : knownE P (localsOf P k) (exprAt P i) = true := h.2.2.2
theorem condI_no {P : List Line} {k e i : Nat} (h1 : k < i) (h2 : i ≤ e) (h : ¬ condI P k i) : bodyIB P k e = false := bodyIB_no fun q=>h (q.2 i h1 h2)
theorem condS_no {P : List Line} {k e i : Nat} (h1 : k < i) (h2 : i < e) (h : ¬ condS P k i) : bodySB P k e = false := bodySB_no fun q=>h (q.2 i h1 h2)
end Go.Proofs.YtjjbcoigaejoaaaGreat

namespace Go.Proofs.YtjjbcoigaejoaaaGreat
theorem funs_mem {P : List Line} {n : Nat} {x : Int} : x ∈ funs P n ↔ ∃ t : Nat,t < n ∧ kd P t = 0 ∧ x = (t : Int) := by
 unfold funs
 rw [List.mem_map]
 constructor
 ·rintro ⟨t,ht,rfl⟩
  obtain ⟨a,b⟩ := List.mem_filter.1 ht
  exact ⟨t,List.mem_range.1 a,of_decide_eq_true b,rfl⟩
 ·rintro ⟨t,a,b,rfl⟩
  exact ⟨t,List.mem_filter.2 ⟨List.mem_range.2 a,decide_eq_true b⟩,rfl⟩
theorem funs_sorted (P : List Line) : ∀ n : Nat,(funs P n).Pairwise (· < ·)
 | 0=>by simp [funs]
 |n + 1=>by
  rw [funs_succ]
  split
  ·rw [List.pairwise_append]
   refine ⟨funs_sorted P n,by simp,fun a ha b hb=>?_⟩
   obtain ⟨t,h1,_,rfl⟩ := funs_mem.1 ha
   simp only [List.mem_cons,List.not_mem_nil,or_false] at hb
   subst hb; omega
  ·rw [List.append_nil]; exact funs_sorted P n
theorem funs_le {P : List Line} {n i j : Nat} (hi : i < (funs P n).length) (hj : j < (funs P n).length) (h : i ≤ j) : (funs P n)[i] ≤ (funs P n)[j] := by
 rcases Nat.lt_or_ge i j with q|q
 ·exact Int.le_of_lt (List.pairwise_iff_getElem.1 (funs_sorted P n) i j hi hj q)
 ·have : i = j:=by omega
  subst this; exact Int.le_refl _
theorem funs_lt {P : List Line} {n i j : Nat} (hi : i < (funs P n).length) (hj : j < (funs P n).length) (h : i < j) : (funs P n)[i] < (funs P n)[j] := List.pairwise_iff_getElem.1 (funs_sorted P n) i j hi hj h
theorem funs_get {P : List Line} {n i : Nat} (hi : i < (funs P n).length) : ∃ t : Nat,t < n ∧ kd P t = 0 ∧ (funs P n)[i] = (t : Int) := funs_mem.1 (List.getElem_mem hi)
structure FnI (P : List Line) (idx next : Nat) : Prop where
 nle : next ≤ P.length
 up : Tiles (bodyI P) P next → Tiles (bodyI P) P 0
 dn : Tiles (bodyI P) P 0 → Tiles (bodyI P) P next
 first : ∀ t : Nat,t < next → kd P t = 0 → findFn P (nameAt P t) = (t : Int)
 lt : ∀ (j : Nat) (hj : j < (funs P P.length).length),idx ≤ j → (next : Int) ≤ (funs P P.length)[j]
 rest : ∀ t : Nat,t < P.length → kd P t = 0 → next ≤ t → ∃ (j : Nat) (hj : j < (funs P P.length).length),idx ≤ j ∧ (funs P P.length)[j] = (t : Int)
theorem FnI.zero (P : List Line) : FnI P 0 0 := by
 refine ⟨by omega,id,id,fun t h=>by omega,fun j hj _=>?_,fun t h1 h2 _=>?_⟩
 ·obtain ⟨t,_,_,h⟩ := funs_get hj; omega
 ·obtain ⟨j,hj,h⟩ := List.mem_iff_getElem.1 (funs_mem.2 ⟨t,h1,h2,rfl⟩ : (t : Int) ∈ funs P P.length)
  exact ⟨j,hj,by omega,h⟩
theorem FnI.head {P : List Line} {idx next k : Nat} (h : FnI P idx next) (hi : idx < (funs P P.length).length) (hk : (funs P P.length)[idx] = (k : Int)) (hT : Tiles (bodyI P) P 0) : k = next := by
 obtain ⟨t,t1,t2,t3⟩ := funs_get hi
 have h1 := h.lt idx hi (Nat.le_refl _)
 cases h.dn hT with
 |done=>omega
 |step hk0 he hb hr =>
  have hlt : next < P.length := kd_in (by omega)
  obtain ⟨j,hj,a,b⟩ := h.rest next hlt hk0 (Nat.le_refl _)
  have := funs_le hi hj a
  omega
theorem FnI.ends {P : List Line} {idx next k : Nat} (h : FnI P idx next) (hi : idx < (funs P P.length).length) (hk : (funs P P.length)[idx] = (k : Int)) (hT : Tiles (bodyI P) P 0) : ∃ e : Nat,endOf P k = (e : Int) ∧ IsEnd P k e ∧ bodyI P k e := by
 have hkn := h.head hi hk hT
 subst hkn
 obtain ⟨t,t1,t2,t3⟩ := funs_get hi
 have hT' := h.dn hT
 cases hT' with
 |done=>omega
 |step hk0 he hb hr=>exact ⟨_,endOf_of (opens_of (.inl hk0)) he,he,hb⟩
theorem FnI.next {P : List Line} {idx k e : Nat} (h : FnI P idx k) (hi : idx < (funs P P.length).length) (hk : (funs P P.length)[idx] = (k : Int)) (he : IsEnd P k e) (hb : bodyI P k e) (hf : findFn P (nameAt P k) = (k : Int)) : FnI P (idx + 1) (e + 1) := by
 obtain ⟨t,t1,t2,t3⟩ := funs_get hi
 have hkt : t = k:=by omega
 subst hkt
 have hel := he.lt
 have hle := he.le
 refine ⟨by omega,fun hT=>h.up (.step t2 he hb hT),fun hT=>?_,fun s hs hs0=>?_,fun j hj hij=>?_,fun s hs hs0 hn=>?_⟩
 ·have hT' := h.dn hT
  cases hT' with
  |done=>omega
  |step hk0 he' hb' hr=>rw [he.inj he']; exact hr
 ·rcases Nat.lt_or_ge s t with q|q
  ·exact h.first s q hs0
  ·rcases Nat.lt_or_ge t s with q2|q2
   ·exact absurd hs0 (hb.2 s q2 (by omega)).1
   ·rw [show s = t by omega]; exact hf
 ·have h1 := funs_lt hi hj (by omega)
  obtain ⟨u,u1,u2,u3⟩ := funs_get hj
  rcases Nat.lt_or_ge e u with q|q
  ·omega
  ·exact absurd u2 (hb.2 u (by omega) q).1
 ·obtain ⟨j,hj,a,b⟩ := h.rest s hs hs0 (by omega)
  refine ⟨j,hj,?_,b⟩
  rcases Nat.lt_or_ge idx j with q|q
  ·exact q
  ·have : j = idx:=by omega
   subst this; omega
theorem FnI.fin {P : List Line} {next : Nat} (h : FnI P (funs P P.length).length next) : Tiles (bodyI P) P 0 ↔ next = P.length := by
 constructor
 ·intro hT
  have hT' := h.dn hT
  cases hT' with
  |done=>rfl
  |step hk0 he hb hr =>
   obtain ⟨j,hj,a,_⟩ := h.rest next (kd_in (by omega)) hk0 (Nat.le_refl _)
   omega
 ·intro hn
  exact h.up (by rw [hn]; exact .done)
theorem progOk_no {P : List Line} (h : ProgI P → False) : progOk P = false := by
 cases hb : progOk P with
 |false=>rfl
 |true=>exact (h (progOk_iff'.1 hb)).elim
theorem progOk_noS {P : List Line} (h : ProgS P → False) : progOk P = false := by
 cases hb : progOk P with
 |false=>rfl
 |true=>exact (h (progOk_iff.1 hb)).elim
end Go.Proofs.YtjjbcoigaejoaaaGreat

namespace Go.Proofs.YtjjbcoigaejoaaaGreat
theorem IsEnd.own {P : List Line} {a b e : Nat} (ha : IsEnd P a e) (hb : IsEnd P b e) (oa : opensK (kd P a) = true) (ob : opensK (kd P b) = true) (la : a < e) (lb : b < e) : a = b := by
 rcases Nat.lt_trichotomy a b with q|q|q
 ·obtain ⟨e',_,h,_,l⟩ := ha.nest oa q lb ob
  have := h.inj hb; omega
 ·exact q
 ·obtain ⟨e',_,h,_,l⟩ := hb.nest ob q la oa
  have := h.inj ha; omega
theorem elseGo_in {P : List Line} {k e : Nat} (hE : IsEnd P k e) (ho : opensK (kd P k) = true) : ∀ (n i : Nat),e - i ≤ n → k < i → ∀ j : Nat,elseGo P e i = (j : Int) → ∀ w,i ≤ w → w < j → kd P w = 3 ∨ kd P w = 5 → ∃ x,IsEnd P w x ∧ w < x ∧ x < j
 | 0,i,hn,hk,j,h,w,h1,h2,hw=>by rw [elseGo_end (by omega)] at h; omega
 |n + 1,i,hn,hk,j,h,w,h1,h2,hw=>by
  by_cases hi : i < e
  ·by_cases h4 : kd P i = 4
   ·rw [elseGo_hit hi h4] at h; omega
   ·by_cases hs : (kd P i = 3 ∨ kd P i = 5) ∧ (i : Int) ≤ endOf P i
    ·rw [elseGo_skip hi hs.1 hs.2] at h
     obtain ⟨x,x1,x2,x3⟩ := endOf_nn (P := P) (k := i) (by omega)
     rw [x1,Int.toNat_natCast] at h
     have hj : x + 1 ≤ j := by
      rcases elseGo_form P e e (x + 1) (by omega) with q|⟨j',q1,q2,_⟩
      ·omega
      ·omega
     by_cases hwi : w = i
     ·subst hwi; exact ⟨x,x2,x3,by omega⟩
     by_cases hwx : w < x
     ·obtain ⟨y,_,y2,y3,y4⟩ := x2.nest (opens_of (.inr hs.1)) (show i < w by omega) hwx (opens_of (.inr hw))
      exact ⟨y,y2,y3,by omega⟩
     by_cases hwe : w = x
     ·have := x2.kind (opens_of (.inr hs.1)) x3
      rw [hwe] at hw; omega
     ·exact elseGo_in hE ho n (x + 1) (by omega) (by omega) j h w (by omega) h2 hw
    ·rw [elseGo_next hi h4 hs] at h
     by_cases hwi : w = i
     ·subst hwi
      exfalso
      obtain ⟨y,y1,y2,y3,y4⟩ := hE.nest ho hk hi (opens_of (.inr hw))
      exact hs ⟨hw,by omega⟩
     ·exact elseGo_in hE ho n (i + 1) (by omega) (by omega) j h w (by omega) h2 hw
  ·rw [elseGo_end hi] at h; omega
theorem elseOf_in {P : List Line} {k j : Nat} (h : elseOf P k = (j : Int)) : ∃ e,IsEnd P k e ∧ k < j ∧ j < e ∧ kd P j = 4 ∧ kd P k = 3 ∧ endOf P k = (e : Int) ∧ ∀ w,k < w → w < j → kd P w = 3 ∨ kd P w = 5 → ∃ x,IsEnd P w x ∧ w < x ∧ x < j := by
 rcases elseOf_form P k with q|⟨j',e,a,b,c,d,f,g⟩
 ·omega
 ·obtain rfl : j' = j:=by omega
  have ho := opens_of (.inr (.inl f))
  have he := endOf_of ho g
  refine ⟨e,g,b,c,d,f,he,fun w h1 h2 hw=>?_⟩
  have h' : elseGo P e (k + 1) = (j' : Int) := by
   unfold elseOf at h
   rw [if_neg (by rw [he,Int.toNat_natCast]; omega),he,Int.toNat_natCast,Int.toNat_natCast] at h
   exact h
  exact elseGo_in g ho (e - (k + 1)) (k + 1) (Nat.le_refl _) (by omega) j' h' w (by omega) h2 hw
theorem elseOf_own {P : List Line} {a b j : Nat} (ha : elseOf P a = (j : Int)) (hb : elseOf P b = (j : Int)) : a = b := by
 obtain ⟨e1,p1,p2,p3,p4,p5,p6,p7⟩ := elseOf_in ha
 obtain ⟨e2,q1,q2,q3,q4,q5,q6,q7⟩ := elseOf_in hb
 rcases Nat.lt_trichotomy a b with h|h|h
 ·obtain ⟨x,x1,x2,x3⟩ := p7 b h q2 (.inl q5)
  have := x1.inj q1; omega
 ·exact h
 ·obtain ⟨x,x1,x2,x3⟩ := q7 a h p2 (.inl p5)
  have := x1.inj p1; omega
def own1 (P : List Line) (L : List Int) (k : Nat) : List Int := if 0 ≤ endOf P k then L.set (endOf P k).toNat k else L
def own2 (P : List Line) (L : List Int) (k : Nat) : List Int := if 0 ≤ elseOf P k then L.set (elseOf P k).toNat k else L
def ownGo (P : List Line) : Nat → List Int
 | 0=>List.replicate P.length 0
 |k + 1=>own2 P (own1 P (ownGo P k) k) k
theorem own_len (P : List Line) : ∀ k,(ownGo P k).length = P.length
 | 0=>by simp [ownGo]
 |k + 1=>by
  have := own_len P k
  unfold ownGo own2 own1
  split <;> split <;> simp [this]
theorem own_end {P : List Line} {k e : Nat} (hE : IsEnd P k e) (ho : opensK (kd P k) = true) (hke : k < e) : ∀ n,k < n → (ownGo P n)[e]? = some (k : Int)
 |n + 1,hn=>by
  have he := endOf_of ho hE
  have h7 := hE.kind ho hke
  have hel : ∀ m : Nat,∀ j : Nat,elseOf P m = (j : Int) → j ≠ e := fun m j hm hj=>by
   obtain ⟨_,_,_,_,q,_⟩ := elseOf_in hm
   rw [hj] at q; omega
  have l2 : ∀ L : List Int,(own2 P L n)[e]? = L[e]? := fun L=>by
   unfold own2
   split
   ·rename_i h
    rw [List.getElem?_set_ne]
    have := hel n (elseOf P n).toNat (by omega)
    omega
   ·rfl
  rw [ownGo,l2]
  by_cases hkn : k = n
  ·subst hkn
   unfold own1
   rw [if_pos (by omega),he,Int.toNat_natCast,List.getElem?_set_self (by rw [own_len]; exact hE.lt)]
  ·have ih := own_end hE ho hke n (by omega)
   unfold own1
   split
   ·rename_i h
    obtain ⟨x,x1,x2,x3⟩ := endOf_nn (P := P) (k := n) h
    rw [List.getElem?_set_ne,ih]
    intro hx
    have hx : x = e:=by omega
    subst hx
    have on := (endOf_opens (P := P) (k := n) h).2.2
    rw [Int.toNat_natCast] at on
    exact hkn (hE.own x2 ho on hke x3)
   ·exact ih
theorem own_else {P : List Line} {k j : Nat} (h : elseOf P k = (j : Int)) (hl : j < P.length) : ∀ n,k < n → (ownGo P n)[j]? = some (k : Int)
 |n + 1,hn=>by
  obtain ⟨e,p1,p2,p3,p4,p5,p6,p7⟩ := elseOf_in h
  have l1 : ∀ L : List Int,(own1 P L n)[j]? = L[j]? := fun L=>by
   unfold own1
   split
   ·rename_i hh
    obtain ⟨x,x1,x2,x3⟩ := endOf_nn (P := P) (k := n) hh
    have on := (endOf_opens (P := P) (k := n) hh).2.2
    rw [Int.toNat_natCast] at on
    have := x2.kind on x3
    rw [List.getElem?_set_ne]
    intro hx
    rw [show x = j by omega] at this; omega
   ·rfl
  rw [ownGo]
  by_cases hkn : k = n
  ·subst hkn
   unfold own2
   rw [if_pos (by omega),h,Int.toNat_natCast,List.getElem?_set_self]
   unfold own1
   split <;> simp [own_len,hl]
  ·have ih := own_else h hl n (by omega)
   unfold own2
   split
   ·rename_i hh
    rw [List.getElem?_set_ne,l1,ih]
    intro hx
    exact hkn (elseOf_own h (b := n) (by omega))
   ·rw [l1,ih]
def ownL (P : List Line) : List Int := ownGo P P.length
def inW (P : List Line) (f i w : Nat) : Bool := decide (f < w) && decide (kd P w = 5) && decide ((i : Int) ≤ endOf P w)
def encN (P : List Line) (f i : Nat) : List Nat := (List.range i).filter (inW P f i)
def encW (P : List Line) (f i : Nat) : List Int := (encN P f i).map fun w : Nat=>(w : Int)
theorem filt_ext {p q : Nat → Bool} {a b : Nat} (hab : a ≤ b) (h1 : ∀ w,w < a → q w = p w) (h2 : ∀ w,a ≤ w → w < b → q w = false) : (List.range b).filter q = (List.range a).filter p := by
 obtain ⟨d,rfl⟩ : ∃ d,b = a + d := ⟨b - a,by omega⟩
 induction d with
 |zero =>
  rw [Nat.add_zero]
  exact List.filter_congr fun w hw=>h1 w (List.mem_range.1 hw)
 |succ d ih =>
  rw [← Nat.add_assoc,List.range_succ,List.filter_append,ih (by omega) fun w q1 q2=>h2 w q1 (by omega)]
  simp [h2 (a + d) (by omega) (by omega)]
theorem inW_iff {P : List Line} {f i w : Nat} : inW P f i w = true ↔ f < w ∧ kd P w = 5 ∧ (i : Int) ≤ endOf P w:=by simp [inW,and_assoc]
theorem inW_eq {P : List Line} {f i i' w : Nat} (h : f < w → kd P w = 5 → ((i : Int) ≤ endOf P w ↔ (i' : Int) ≤ endOf P w)) : inW P f i w = inW P f i' w := by
 have : inW P f i w = true ↔ inW P f i' w = true := by
  rw [inW_iff,inW_iff]
  exact ⟨fun ⟨a,b,c⟩=>⟨a,b,(h a b).1 c⟩,fun ⟨a,b,c⟩=>⟨a,b,(h a b).2 c⟩⟩
 cases h1 : inW P f i w <;> cases h2 : inW P f i' w <;> simp_all
theorem inW_no {P : List Line} {f i w : Nat} (h : f < w → kd P w = 5 → ¬ (i : Int) ≤ endOf P w) : inW P f i w = false := by
 cases h1 : inW P f i w with
 |false=>rfl
 |true=>obtain ⟨a,b,c⟩ := inW_iff.1 h1; exact absurd c (h a b)
structure InF (P : List Line) (f E i : Nat) : Prop where
 hf : kd P f = 0
 hE : IsEnd P f E
 nf : ∀ w,f < w → w < E → kd P w ≠ 0
 lo : f < i
 hi : i < E
theorem InF.ends {P : List Line} {f E i w : Nat} (h : InF P f E i) (h1 : f < w) (h2 : w < E) (hw : kd P w = 3 ∨ kd P w = 5) : ∃ x : Nat,endOf P w = (x : Int) ∧ IsEnd P w x ∧ w < x ∧ x < E := h.hE.nest (opens_of (.inl h.hf)) h1 h2 (opens_of (.inr hw))
theorem InF.at' {P : List Line} {f E i : Nat} (h : InF P f E i) {j : Nat} (h1 : f < j) (h2 : j < E) : InF P f E j := ⟨h.hf,h.hE,h.nf,h1,h2⟩
theorem InF.noend {P : List Line} {f E i : Nat} (h : InF P f E i) {k : Nat} (hk : kd P k ≠ 7) {w : Nat} (h1 : f < w) (h2 : w < E) (h5 : kd P w = 5) : endOf P w ≠ (k : Int) := fun he=>by
 obtain ⟨x,x1,x2,x3,x4⟩ := h.ends h1 h2 (.inr h5)
 have := x2.kind (opens_of (.inr (.inr h5))) x3
 rw [show x = k by omega] at this
 exact hk this
theorem enc_next {P : List Line} {f E i : Nat} (h : InF P f E i) (h5 : kd P i ≠ 5) (h7 : kd P i ≠ 7) : encW P f (i + 1) = encW P f i := by
 unfold encW encN
 rw [filt_ext (a := i) (b := i + 1) (p := inW P f i) (by omega) (fun w hw=>inW_eq fun hf hk=>?_) fun w q1 q2=>inW_no fun _ hk=>?_]
 ·have := h.noend h7 hf (by have := h.hi; omega) hk
  omega
 ·exact absurd hk (by rw [show w = i by omega]; exact h5)
theorem enc_while {P : List Line} {f E i : Nat} (h : InF P f E i) (h5 : kd P i = 5) : encW P f (i + 1) = encW P f i ++ [(i : Int)] := by
 unfold encW encN
 obtain ⟨x,x1,x2,x3,x4⟩ := h.ends h.lo h.hi (.inr h5)
 rw [List.range_succ,List.filter_append,List.map_append]
 have e1 : (List.range i).filter (inW P f (i + 1)) = (List.range i).filter (inW P f i) := List.filter_congr fun w hw=>inW_eq fun hf hk=>by
  have := h.noend (k := i) (by omega) hf (by have := h.hi; have := List.mem_range.1 hw; omega) hk
  omega
 have e2 : inW P f (i + 1) i = true := inW_iff.2 ⟨h.lo,h5,by omega⟩
 rw [e1]; simp [e2]
theorem enc_endif {P : List Line} {f E i k : Nat} (h : InF P f E i) (h7 : kd P i = 7) (hk3 : kd P k = 3) (hk : IsEnd P k i) (hki : k < i) : encW P f (i + 1) = encW P f i := by
 unfold encW encN
 rw [filt_ext (a := i) (b := i + 1) (p := inW P f i) (by omega) (fun w hw=>inW_eq fun hf h5=>?_) fun w q1 q2=>inW_no fun _ hk=>?_]
 ·obtain ⟨x,x1,x2,x3,x4⟩ := h.ends hf (by have := h.hi; omega) (.inr h5)
  have : x ≠ i := fun e=>by
   subst e
   have := x2.own hk (opens_of (.inr (.inr h5))) (opens_of (.inr (.inl hk3))) x3 hki
   rw [this] at h5; omega
  omega
 ·exact absurd hk (by rw [show w = i by omega,h7]; omega)
theorem enc_endwhile {P : List Line} {f E i k : Nat} (h : InF P f E i) (hk5 : kd P k = 5) (hk : IsEnd P k i) (hki : k < i) (hfk : f < k) : encW P f i = encW P f k ++ [(k : Int)] := by
 unfold encW encN
 have ho := opens_of (P := P) (k := k) (.inr (.inr hk5))
 have he := endOf_of ho hk
 have e1 : (List.range i).filter (inW P f i) = (List.range (k + 1)).filter (inW P f i) := filt_ext (by omega) (fun w _=>rfl) fun w q1 q2=>inW_no fun hf h5=>by
  obtain ⟨x,x1,x2,x3,x4⟩ := hk.nest ho (show k < w by omega) q2 (opens_of (.inr (.inr h5)))
  omega
 rw [e1,List.range_succ,List.filter_append,List.map_append]
 have e2 : (List.range k).filter (inW P f i) = (List.range k).filter (inW P f k) := List.filter_congr fun w hw=>inW_eq fun hf h5=>by
  have hwk := List.mem_range.1 hw
  obtain ⟨x,x1,x2,x3,x4⟩ := h.ends hf (by have := h.hi; omega) (.inr h5)
  constructor
  ·omega
  ·intro hq
   have := h.noend (k := k) (by omega) hf (by have := h.hi; omega) h5
   obtain ⟨y,y1,y2,y3,y4⟩ := x2.nest (opens_of (.inr (.inr h5))) hwk (show k < x by omega) ho
   omega
 have e3 : inW P f i k = true := inW_iff.2 ⟨hfk,hk5,by omega⟩
 rw [e2]; simp [e3]
theorem enc_skip {P : List Line} {f E k e : Nat} (h : InF P f E k) (hk : kd P k = 3 ∨ kd P k = 5) (he : IsEnd P k e) (hke : k < e) : encW P f (e + 1) = encW P f k := by
 have ho := opens_of (P := P) (k := k) (.inr hk)
 have hee := endOf_of ho he
 unfold encW encN
 rw [filt_ext (a := k) (b := e + 1) (p := inW P f k) (by omega) (fun w hw=>inW_eq fun hf h5=>?_) fun w q1 q2=>inW_no fun hf h5=>?_]
 ·obtain ⟨x,x1,x2,x3,x4⟩ := h.ends hf (by have := h.hi; omega) (.inr h5)
  constructor
  ·omega
  ·intro hq
   have := h.noend (k := k) (by omega) hf (by have := h.hi; omega) h5
   obtain ⟨y,y1,y2,y3,y4⟩ := x2.nest (opens_of (.inr (.inr h5))) hw (show k < x by omega) ho
   omega
 ·by_cases q : w = k
  ·rw [q]; omega
  by_cases q' : w < e
  ·obtain ⟨x,x1,x2,x3,x4⟩ := he.nest ho (show k < w by omega) q' (opens_of (.inr (.inr h5)))
   omega
  ·have := he.kind ho hke
   rw [show w = e by omega] at h5; omega
theorem enc_else {P : List Line} {f E k j : Nat} (h : InF P f E k) (hj : elseOf P k = (j : Int)) : encW P f (j + 1) = encW P f k := by
 obtain ⟨e,p1,p2,p3,p4,p5,p6,p7⟩ := elseOf_in hj
 have ho := opens_of (P := P) (k := k) (.inr (.inl p5))
 unfold encW encN
 rw [filt_ext (a := k) (b := j + 1) (p := inW P f k) (by omega) (fun w hw=>inW_eq fun hf h5=>?_) fun w q1 q2=>inW_no fun hf h5=>?_]
 ·obtain ⟨x,x1,x2,x3,x4⟩ := h.ends hf (by have := h.hi; omega) (.inr h5)
  constructor
  ·omega
  ·intro hq
   have := h.noend (k := k) (by omega) hf (by have := h.hi; omega) h5
   obtain ⟨y,y1,y2,y3,y4⟩ := x2.nest (opens_of (.inr (.inr h5))) hw (show k < x by omega) ho
   have := y2.inj p1
   omega
 ·by_cases q : w = k
  ·rw [q] at h5; omega
  by_cases q' : w < j
  ·obtain ⟨x,x1,x2,x3⟩ := p7 w (by omega) q' (.inr h5)
   have := endOf_of (opens_of (.inr (.inr h5))) x1
   omega
  ·rw [show w = j by omega] at h5; omega
end Go.Proofs.YtjjbcoigaejoaaaGreat

