/-
  DERIVED. Several texts of ours in one: VgSymbol, VtName, VtImg, VtSpace, VtSpace2.
-/
import Derived.Test.YtdbjioanlkilkaaVx0
import Derived.Test.YtdbjioanlkilkaaVx1
import Derived.Test.YtdbjioanlkilkaaVx2
import Derived.Test.YtdbjioanlkilkaaVx3
import Derived.Test.YtdbjioanlkilkaaVx4
set_option linter.unusedSimpArgs false
set_option linter.unusedVariables false
namespace Go.Proofs.Ytdbjioanlkilkaa
open Go.Vc
attribute [local go_sem] St.runR St.runW St.stepV offV St.step St.stepU St.stepG mkCond guardB St.prK St.pr St.prLen St.eff St.callE St.callD St.callF St.callL aI aB aS aR aC St.isM St.argL Ctr.pure Ctr.lend Ctr.move Ctr.isL Ctr.wri pur len lentBy St.lentV St.lent1 nthS argsR restOf obsR pairs swapL unObs backL St.resL erL SV.ren1 SV.up SV.up2 Ob.up St.fzL cellIds partIds St.intoRow SV.ownId St.fz SV.fz1 St.prep St.mvL St.mv SV.re1 rnOk St.prEq vals eqCells scEq Value.kd St.prStr St.prCut cutR St.bnd St.prMin St.bld isShift outL retL outJ oR oC St.ev St.get St.put St.new St.kill SV.kill SV.kill1 Ob.kill St.app St.wrt St.rowsOf St.res St.killL lk er argsL SV.strip SV.need SV.share SV.share1 SV.owns SV.owns1 SV.owns2 SV.good SV.good1 SV.rok SV.rok1 SV.rok2 SV.isV SV.isV2 nodupN SV.cells SV.one SV.pur Ob.pb partsIn rowsIn splice cellsAt dstOk scal2 scal1 thenK blockK retK outK outs okC okL okA okT nilC nilL nilA nilT keepC keepL keepA keepT St.runG St.dltK St.least St.clean St.final St.hide offK badS badO SV.refs SV.leaf SV.leaf2 Ob.refs dlOk fpAt Go.Vc.cover tups SV.ofAgg St.out outC subL St.has rng wr Value.oneCell' Option.isSome_some Option.isSome_none List.nil_append Bool.false_eq_true List.map_cons List.map_nil List.all_cons List.all_nil List.length_cons List.length_nil List.drop_zero List.drop_succ_cons List.take_succ_cons List.take_zero List.drop_nil List.take_nil List.getElem?_cons_zero List.getElem?_cons_succ List.getElem?_nil List.cons_append List.nil_append List.append_nil List.append_assoc List.flatMap_cons List.flatMap_nil List.contains_cons List.contains_nil List.set_cons_zero List.set_cons_succ List.getElem?_toArray Option.getD_some Option.getD_none Option.map_some Option.map_none Option.bind_some Option.some.injEq Prod.mk.injEq if_true if_false true_and and_true and_self and_false false_and Bool.and_false Bool.false_and Bool.or_true Bool.true_or Bool.or_false Bool.false_or ne_eq not_true_eq_false not_false_eq_true decide_true decide_false List.mem_cons List.not_mem_nil List.filter_cons List.filter_nil List.any_cons List.any_nil List.isEmpty_nil List.isEmpty_cons Option.getD_none or_false false_or true_or or_true forall_eq_or_imp forall_eq reduceCtorEq exists_eq exists_eq' exists_eq_left' exists_eq_left exists_eq_right exists_eq_right' imp_self implies_true Bool.and_true Bool.true_and Bool.and_self beq_self_eq_true List.replicate_succ List.replicate_zero forall_const false_implies pickB_or pickB_and beqT beqF Int.toNat_natCast List.length_map List.length_replicate ge_iff_le gt_iff_lt decide_eq_true_eq decide_eq_false_iff_not Bool.and_eq_true Bool.or_eq_true Bool.not_eq_true' Bool.not_eq_false' condG List.toList_toArray Bool.or_eq_false_iff Bool.and_eq_false_iff Int.not_lt Int.not_le beq_iff_eq beq_eq_false_iff_ne bne_iff_ne bne_eq_false_iff_eq ne_eq Bool.not_true Bool.not_false exists_and_left
section
open Go.Vc
set_option linter.unusedSimpArgs false
set_option linter.unusedVariables false
set_option maxHeartbeats 1000000
attribute [local irreducible] Go.Vc.WP
attribute [local go_sem] cx0_t cx0_c

structure Symbol where
  name : ByteArray
  start : Int
  size : Int
deriving DecidableEq
def encSymbol (x : Symbol) : List SV := [.v (.string x.name), .v (.int .i64 x.start), .v (.int .i64 x.size)]
def oneSymbol : List SV → Symbol
  | [.v (.string name), .v (.int _ start), .v (.int _ size)] => ⟨name, start, size⟩
  | _ => ⟨⟨#[]⟩, 0, 0⟩
def decSymbol (rows : List (List SV)) : List Symbol := rows.map oneSymbol
theorem oneSymbol_enc (x : Symbol) : oneSymbol (encSymbol x) = x := rfl
theorem decSymbol_enc (L : List Symbol) : decSymbol (L.map encSymbol) = L := by
  unfold decSymbol
  rw [List.map_map]
  exact List.map_id'' oneSymbol_enc L
theorem isV_Symbol {e s : Nat} (L : List Symbol) : (Ob.sl e s (L.map encSymbol)).isV ↔ True := iff_true_intro (by
  intro row hr c hc
  obtain ⟨n, _, rfl⟩ := List.mem_map.1 hr
  simp only [encSymbol, List.mem_cons, List.not_mem_nil, or_false] at hc
  rcases hc with rfl | rfl | rfl <;> exact ⟨_, rfl⟩)
def zerSymbol : List SV := [.v (.string ⟨#[]⟩), .v (.int .i64 0), .v (.int .i64 0)]

def ktoSymbol : Ctr := pur (fun args => oneSymbol (aC args 0)) (fun x => [.agg (encSymbol x)]) (fun _ => True) (fun _ x => .agg (encSymbol x)) (fun _ _ => [])
theorem ctoSymbol : Cn Try.prog 162 ktoSymbol := by
  refine Cn.pur Try.func162 (by kernel_rfl) rfl fun d x _ => ?_
  refine Holds.go (c := cx0) Try.func162 rfl Try.results162 Try.ntmps162 (by omega) (by simp) rfl ?_
  intro X0 w0
  unfold encSymbol
  (repeat' (first | refine WP.seq ?_ | refine WP.block ?_ | ((first | refine WP.region ?_ | refine WP.condW ?_ | refine WP.ret ?_ | refine WP.exit ?_ | refine WP.skip ?_); simp only [go_sem, tyAll, Nat.reduceAdd, Nat.reduceLT, Nat.reduceLeDiff, Nat.reduceEqDiff, Nat.reduceMul, Nat.reduceSub, Nat.reduceGT, reduceIte, Int.reduceNeg, Int.reduceToNat]) |  refine And.intro ?_ ?_ | intro _))
  all_goals first | omega | exact ⟨_, _, rfl, _, _, rfl, rfl⟩ | skip

noncomputable def cxtoSymbol : Cx := { P := Try.prog, tys := tys, C := [(162, ktoSymbol)], hty := tysOk, hC := COk.cons ctoSymbol (COk.nil _) }
theorem cxtoSymbol_t : cxtoSymbol.tys = tys := rfl
theorem cxtoSymbol_c : cxtoSymbol.C = [(162, ktoSymbol)] := rfl
def ktoSymbolS : Ctr := pur (fun args => decSymbol (aR args 0)) (fun L => [.sl 3 (L.map encSymbol)]) (fun L => L.length ≤ 2097152) (fun d _ => .own d) (fun d L => [(d, .sl 206 3 (L.map encSymbol))])
section
attribute [local go_sem] cxtoSymbol_t cxtoSymbol_c ktoSymbol oneSymbol
theorem ctoSymbolS : Cn Try.prog 156 ktoSymbolS := by
  refine Cn.pur Try.func156 (by kernel_rfl) rfl fun d L hL => ?_
  refine Holds.go (c := cxtoSymbol) Try.func156 rfl Try.results156 Try.ntmps156 (by omega) (by simp) rfl ?_
  intro X0 w0
  (repeat' (first | refine WP.seq ?_ | refine WP.block ?_ | ((first | refine WP.region ?_ | refine WP.condW ?_ | refine WP.ret ?_ | refine WP.exit ?_ | refine WP.skip ?_); simp only [go_sem, tyAll, Nat.reduceAdd, Nat.reduceLT, Nat.reduceLeDiff, Nat.reduceEqDiff, Nat.reduceMul, Nat.reduceSub, Nat.reduceGT, reduceIte, Int.reduceNeg, Int.reduceToNat]) |  refine And.intro ?_ ?_ | intro _))
  all_goals first | omega | skip
  refine WP.loop (fun k : Nat => ⟨[(0, .sl 3 (L.map encSymbol)), (3, .own 7), (4, .v (.int .i64 k))], [(7, .sl 206 3 (filled encSymbol zerSymbol L k))]⟩) (fun k => k ≤ L.length) (fun k => L.length - k) 0 (by omega) ?_ ?_
  · rw [filled_zero]; simp only [go_sem, tyAll, Nat.reduceAdd, Nat.reduceLT, Nat.reduceLeDiff, Nat.reduceEqDiff, Nat.reduceMul, Nat.reduceSub, Nat.reduceGT, reduceIte, Int.reduceNeg, Int.reduceToNat]; first | exact ⟨rfl, rfl⟩ | rfl
  intro k hk
  by_cases hlt : k < L.length
  · have h1 := rowAt_map encSymbol L k hlt
    have h2 := filled_len encSymbol zerSymbol L k hk
    have h3 : Go.Vc.rowAt (filled encSymbol zerSymbol L k) k = [.v (.string ⟨#[]⟩), .v (.int .i64 0), .v (.int .i64 0)] := filled_row encSymbol zerSymbol L k hlt
    have h4 := filled_set encSymbol zerSymbol L k hlt
    rw [encSymbol] at h4
    (repeat' (first | refine WP.seq ?_ | refine WP.block ?_ | ((first | refine WP.region ?_ | refine WP.condW ?_ | refine WP.ret ?_ | refine WP.exit ?_ | refine WP.skip ?_); simp only [go_sem, h1, h2, h3, h4, encSymbol, tyAll, Nat.reduceAdd, Nat.reduceLT, Nat.reduceLeDiff, Nat.reduceEqDiff, Nat.reduceMul, Nat.reduceSub, Nat.reduceGT, reduceIte, Int.reduceNeg, Int.reduceToNat]) |  refine And.intro ?_ ?_ | intro _))
    all_goals first | omega | skip
    exact ⟨k + 1, by omega, by omega, rfl, rfl⟩
  · have h2 := filled_len encSymbol zerSymbol L k hk
    have h5 : filled encSymbol zerSymbol L k = L.map encSymbol := by rw [show k = L.length by omega]; exact filled_all _ _ _
    (repeat' (first | refine WP.seq ?_ | refine WP.block ?_ | ((first | refine WP.region ?_ | refine WP.condW ?_ | refine WP.ret ?_ | refine WP.exit ?_ | refine WP.skip ?_); simp only [go_sem, h2, h5, tyAll, Nat.reduceAdd, Nat.reduceLT, Nat.reduceLeDiff, Nat.reduceEqDiff, Nat.reduceMul, Nat.reduceSub, Nat.reduceGT, reduceIte, Int.reduceNeg, Int.reduceToNat]) |  refine And.intro ?_ ?_ | intro _))
    all_goals first | omega | skip
end

def keqSymbol : Ctr := pur (fun args => (oneSymbol (aC args 0), oneSymbol (aC args 1))) (fun x => [.agg (encSymbol x.1), .agg (encSymbol x.2)]) (fun _ => True) (fun _ x => .v (.bool (decide (x.1 = x.2)))) (fun _ _ => [])
theorem ceqSymbol : Cn Try.prog 165 keqSymbol := by
  refine Cn.pur Try.func165 (by kernel_rfl) rfl fun d x _ => ?_
  obtain ⟨⟨a0, a1, a2⟩, ⟨b0, b1, b2⟩⟩ := x
  refine Holds.go (c := cx0) Try.func165 rfl Try.results165 Try.ntmps165 (by omega) (by simp) rfl ?_
  intro X0 w0
  simp only [encSymbol]
  (repeat' (first | refine WP.seq ?_ | refine WP.block ?_ | ((first | refine WP.region ?_ | refine WP.condW ?_ | refine WP.ret ?_ | refine WP.exit ?_ | refine WP.skip ?_); simp only [go_sem, tyAll, Nat.reduceAdd, Nat.reduceLT, Nat.reduceLeDiff, Nat.reduceEqDiff, Nat.reduceMul, Nat.reduceSub, Nat.reduceGT, reduceIte, Int.reduceNeg, Int.reduceToNat]) |  refine And.intro ?_ ?_ | intro _))
  all_goals simp_all

noncomputable def cxeqSymbol : Cx := { P := Try.prog, tys := tys, C := [(165, keqSymbol)], hty := tysOk, hC := COk.cons ceqSymbol (COk.nil _) }
theorem cxeqSymbol_t : cxeqSymbol.tys = tys := rfl
theorem cxeqSymbol_c : cxeqSymbol.C = [(165, keqSymbol)] := rfl
def keqSymbolS : Ctr := pur (fun args => (decSymbol (aR args 0), decSymbol (aR args 1))) (fun x => [.sl 3 (x.1.map encSymbol), .sl 3 (x.2.map encSymbol)]) (fun x => x.1.length ≤ 4398046511104) (fun _ x => .v (.bool (decide (x.1 = x.2)))) (fun _ _ => [])
section
attribute [local go_sem] cxeqSymbol_t cxeqSymbol_c keqSymbol oneSymbol
theorem ceqSymbolS : Cn Try.prog 158 keqSymbolS := by
  refine Cn.pur Try.func158 (by kernel_rfl) rfl fun d x hL => ?_
  obtain ⟨L, M⟩ := x
  simp only at hL ⊢
  refine Holds.go (c := cxeqSymbol) Try.func158 rfl Try.results158 Try.ntmps158 (by omega) (by simp) rfl ?_
  intro X0 w0
  (repeat' (first | refine WP.seq ?_ | refine WP.block ?_ | ((first | refine WP.region ?_ | refine WP.condW ?_ | refine WP.ret ?_ | refine WP.exit ?_ | refine WP.skip ?_); simp only [go_sem, tyAll, Nat.reduceAdd, Nat.reduceLT, Nat.reduceLeDiff, Nat.reduceEqDiff, Nat.reduceMul, Nat.reduceSub, Nat.reduceGT, reduceIte, Int.reduceNeg, Int.reduceToNat]) |  refine And.intro ?_ ?_ | intro _))
  · simp; intro h; subst h; simp_all
  have hlen : L.length = M.length := by omega
  refine WP.loop (fun k : Nat => ⟨[(0, .sl 3 (L.map encSymbol)), (1, .sl 3 (M.map encSymbol)), (5, .v (.int .i64 k))], []⟩) (fun k => k ≤ L.length ∧ L.take k = M.take k) (fun k => L.length - k) 0 (by simp) ?_ ?_
  · simp only [go_sem, tyAll, Nat.reduceAdd, Nat.reduceLT, Nat.reduceLeDiff, Nat.reduceEqDiff, Nat.reduceMul, Nat.reduceSub, Nat.reduceGT, reduceIte, Int.reduceNeg, Int.reduceToNat]; rfl
  intro k ⟨hk, ht⟩
  by_cases hlt : k < L.length
  · have h1 := rowAt_map encSymbol L k hlt
    have h2 := rowAt_map encSymbol M k (by omega)
    (repeat' (first | refine WP.seq ?_ | refine WP.block ?_ | ((first | refine WP.region ?_ | refine WP.condW ?_ | refine WP.ret ?_ | refine WP.exit ?_ | refine WP.skip ?_); simp only [go_sem, h1, h2, encSymbol, tyAll, Nat.reduceAdd, Nat.reduceLT, Nat.reduceLeDiff, Nat.reduceEqDiff, Nat.reduceMul, Nat.reduceSub, Nat.reduceGT, reduceIte, Int.reduceNeg, Int.reduceToNat]) | (refine WP.drawW 10 (by kernel_rfl) (by kernel_rfl) ?_; simp only [go_sem, h1, h2, encSymbol, tyAll, Nat.reduceAdd, Nat.reduceLT, Nat.reduceLeDiff, Nat.reduceEqDiff, Nat.reduceMul, Nat.reduceSub, Nat.reduceGT, reduceIte, Int.reduceNeg, Int.reduceToNat]) |  refine And.intro ?_ ?_ | intro _))
    all_goals first | omega | skip
    · rename_i hne
      rw [show decide (L = M) = false from decide_eq_false fun e => by subst e; exact hne rfl]
    · rename_i he
      refine ⟨k + 1, ⟨by omega, ?_⟩, by omega, rfl⟩
      have he' : L[k] = M[k] := he
      rw [List.take_succ_eq_append_getElem hlt, List.take_succ_eq_append_getElem (by omega : k < M.length), ht, he']
  · (repeat' (first | refine WP.seq ?_ | refine WP.block ?_ | ((first | refine WP.region ?_ | refine WP.condW ?_ | refine WP.ret ?_ | refine WP.exit ?_ | refine WP.skip ?_); simp only [go_sem, tyAll, Nat.reduceAdd, Nat.reduceLT, Nat.reduceLeDiff, Nat.reduceEqDiff, Nat.reduceMul, Nat.reduceSub, Nat.reduceGT, reduceIte, Int.reduceNeg, Int.reduceToNat]) |  refine And.intro ?_ ?_ | intro _))
    all_goals first | omega | skip
    rw [show decide (L = M) = true from decide_eq_true ?_]
    rw [show k = L.length by omega, List.take_length, hlen, List.take_length] at ht
    exact ht
end

def kszSymbol : Ctr := pur (fun args => (oneSymbol (aC args 0), aI args 1)) (fun x => [.agg (encSymbol x.1), .v (.int .i64 x.2)]) (fun x => x.1.name.size ≤ maxLen ∧ 0 ≤ x.2 ∧ x.2 ≤ 1048576)
  (fun _ x => .v (.int .i64 (if x.2 - x.1.name.size < 0 then -1 else x.2 - x.1.name.size))) (fun _ _ => [])
theorem cszSymbol : Cn Try.prog 159 kszSymbol := by
  refine Cn.pur Try.func159 (by kernel_rfl) rfl fun d x h => ?_
  obtain ⟨x, left⟩ := x
  obtain ⟨hL, h0, h1⟩ := h
  simp only at hL h0 h1 ⊢
  have hm : maxLen = 9223372036854775807 := rfl
  refine Holds.go (c := cx0) Try.func159 rfl Try.results159 Try.ntmps159 (by omega) (by simp) rfl ?_
  intro X0 w0
  simp only [encSymbol]
  (repeat' (first | refine WP.seq ?_ | refine WP.block ?_ | ((first | refine WP.region ?_ | refine WP.condW ?_ | refine WP.ret ?_ | refine WP.exit ?_ | refine WP.skip ?_); simp only [go_sem, tyAll, Nat.reduceAdd, Nat.reduceLT, Nat.reduceLeDiff, Nat.reduceEqDiff, Nat.reduceMul, Nat.reduceSub, Nat.reduceGT, reduceIte, Int.reduceNeg, Int.reduceToNat]) |  refine And.intro ?_ ?_ | intro _))
  all_goals first | omega | skip
  · rename_i h; rw [if_pos h]
  · rename_i h; rw [if_neg (by omega)]

noncomputable def cxszSymbol : Cx := { P := Try.prog, tys := tys, C := [(159, kszSymbol)], hty := tysOk, hC := COk.cons cszSymbol (COk.nil _) }
theorem cxszSymbol_t : cxszSymbol.tys = tys := rfl
theorem cxszSymbol_c : cxszSymbol.C = [(159, kszSymbol)] := rfl
def sizesSymbol (L : List Symbol) : List Nat := L.map fun x => x.name.size
def szvSymbol (L : List Symbol) (left : Int) : Int := if left - L.length < 0 then -1 else szGo (sizesSymbol L) (left - L.length)
def kszSymbolS : Ctr := pur (fun args => (decSymbol (aR args 0), aI args 1)) (fun x => [.sl 3 (x.1.map encSymbol), .v (.int .i64 x.2)]) (fun x => x.1.length ≤ maxLen ∧ (∀ r ∈ x.1, r.name.size ≤ maxLen) ∧ 0 ≤ x.2 ∧ x.2 ≤ 1048576)
  (fun _ x => .v (.int .i64 (szvSymbol x.1 x.2))) (fun _ _ => [])
section
attribute [local go_sem] cxszSymbol_t cxszSymbol_c kszSymbol oneSymbol
theorem cszSymbolS : Cn Try.prog 154 kszSymbolS := by
  refine Cn.pur Try.func154 (by kernel_rfl) rfl fun d x h => ?_
  obtain ⟨L, left⟩ := x
  obtain ⟨hL, hs, h0, h1⟩ := h
  simp only at hL hs h0 h1 ⊢
  have hm : maxLen = 9223372036854775807 := rfl
  refine Holds.go (c := cxszSymbol) Try.func154 rfl Try.results154 Try.ntmps154 (by omega) (by simp) rfl ?_
  intro X0 w0
  (repeat' (first | refine WP.seq ?_ | refine WP.block ?_ | ((first | refine WP.region ?_ | refine WP.condW ?_ | refine WP.ret ?_ | refine WP.exit ?_ | refine WP.skip ?_); simp only [go_sem, tyAll, Nat.reduceAdd, Nat.reduceLT, Nat.reduceLeDiff, Nat.reduceEqDiff, Nat.reduceMul, Nat.reduceSub, Nat.reduceGT, reduceIte, Int.reduceNeg, Int.reduceToNat]) |  refine And.intro ?_ ?_ | intro _))
  all_goals first | omega | skip
  · rename_i h; rw [szvSymbol, if_pos h]
  rename_i hge
  refine WP.loop (fun s : Nat × Int => ⟨[(0, .sl 3 (L.map encSymbol)), (1, .v (.int .i64 s.2)), (5, .v (.int .i64 s.1))], []⟩)
    (fun s => s.1 ≤ L.length ∧ 0 ≤ s.2 ∧ s.2 ≤ 1048576 ∧ szvSymbol L left = szGo ((sizesSymbol L).drop s.1) s.2) (fun s => L.length - s.1) (0, left - L.length)
    ⟨by simp, by simpa using hge, by simp only; omega, by rw [szvSymbol, if_neg (by omega)]; rfl⟩ ?_ ?_
  · simp only [go_sem, tyAll, Nat.reduceAdd, Nat.reduceLT, Nat.reduceLeDiff, Nat.reduceEqDiff, Nat.reduceMul, Nat.reduceSub, Nat.reduceGT, reduceIte, Int.reduceNeg, Int.reduceToNat]; first | exact ⟨rfl, rfl⟩ | rfl
  rintro ⟨k, r⟩ ⟨hk, hr0, hr1, he⟩
  simp only at hk hr0 hr1 he ⊢
  by_cases hlt : k < L.length
  · have h2 := rowAt_map encSymbol L k hlt
    have h3 := hs _ (List.getElem_mem hlt)
    have h4 : szGo ((sizesSymbol L).drop k) r = if r - (L[k].name.size : Int) < 0 then -1 else szGo ((sizesSymbol L).drop (k + 1)) (r - (L[k].name.size : Int)) := by
      rw [szGo_drop (sizesSymbol L) k r (by simpa [sizesSymbol] using hlt)]
      simp only [sizesSymbol, List.getElem_map]
    (repeat' (first | refine WP.seq ?_ | refine WP.block ?_ | ((first | refine WP.region ?_ | refine WP.condW ?_ | refine WP.ret ?_ | refine WP.exit ?_ | refine WP.skip ?_); simp only [go_sem, h2, encSymbol, tyAll, Nat.reduceAdd, Nat.reduceLT, Nat.reduceLeDiff, Nat.reduceEqDiff, Nat.reduceMul, Nat.reduceSub, Nat.reduceGT, reduceIte, Int.reduceNeg, Int.reduceToNat]) |  refine And.intro ?_ ?_ | intro _))
    all_goals first | omega | skip
    · rename_i h
      have h5 : r - (L[k].name.size : Int) < 0 := by
        refine Int.not_le.1 fun h6 => ?_
        rw [if_neg (by omega)] at h
        omega
      rw [he, h4, if_pos h5]
    · rename_i h
      have h5 : ¬ r - (L[k].name.size : Int) < 0 := fun h6 => by
        rw [if_pos h6] at h
        omega
      rw [if_neg h5]
      refine ⟨(k + 1, r - L[k].name.size), ⟨by simp only; omega, by simp only; omega, by simp only; omega, ?_⟩, by simp only; omega, rfl, rfl⟩
      rw [he, h4, if_neg h5]
  · (repeat' (first | refine WP.seq ?_ | refine WP.block ?_ | ((first | refine WP.region ?_ | refine WP.condW ?_ | refine WP.ret ?_ | refine WP.exit ?_ | refine WP.skip ?_); simp only [go_sem, tyAll, Nat.reduceAdd, Nat.reduceLT, Nat.reduceLeDiff, Nat.reduceEqDiff, Nat.reduceMul, Nat.reduceSub, Nat.reduceGT, reduceIte, Int.reduceNeg, Int.reduceToNat]) |  refine And.intro ?_ ?_ | intro _))
    all_goals first | omega | skip
    rw [he, List.drop_of_length_le (by simp [sizesSymbol]; omega)]
    rfl
end
theorem szvSymbol_ok {L : List Symbol} (h : ¬ szvSymbol L 1048576 < 0) : L.length ≤ 1048576 ∧ ∀ x ∈ L, x.name.size ≤ 1048576 := by
  unfold szvSymbol at h
  split at h
  · omega
  · rename_i h2
    refine ⟨by omega, fun x hx => ?_⟩
    have := szGo_ok (sizesSymbol L) _ (by omega) (Int.not_lt.1 h) x.name.size (List.mem_map.2 ⟨x, hx, rfl⟩)
    omega
end
section
open Go.Vc
set_option linter.unusedSimpArgs false
set_option linter.unusedVariables false
set_option maxHeartbeats 1000000
set_option maxRecDepth 10000
attribute [local irreducible] Go.Vc.WP
attribute [local go_sem] cx0_t cx0_c k60
noncomputable def cxBt2 : Cx := { P := Try.prog, tys := tys, C := [(55, k60), (71, k60)], hty := tysOk, hC := COk.cons c60 (COk.cons c58 (COk.nil _)) }
theorem cxBt2_t : cxBt2.tys = tys := rfl
theorem cxBt2_c : cxBt2.C = [(55, k60), (71, k60)] := rfl
attribute [local go_sem] cxBt2_t cxBt2_c

def letter (c : UInt8) : Bool := decide (97 ≤ c.toNat) && decide (c.toNat ≤ 122)
def nameOk (s : ByteArray) : Bool := (s.data.toList.all letter) && decide (1 ≤ s.size) && decide (s.size ≤ 8)
theorem nameOk_bad {s : ByteArray} {k : Nat} (h : k < s.size) (hb : letter s[k]! = false) : nameOk s = false := by
  unfold nameOk
  have : s.data.toList.all letter = false := by
    rw [Bool.eq_false_iff]
    intro hall
    have h1 := List.all_eq_true.1 hall s[k]! (by
      rw [getElem!_pos s k h]
      exact Array.getElem_mem_toList (by exact h))
    rw [h1] at hb; cases hb
  simp [this]
theorem nameOk_all {s : ByteArray} (h : ∀ i, i < s.size → letter s[i]! = true) : nameOk s = (decide ((1 : Int) ≤ s.size) && decide ((s.size : Int) ≤ 8)) := by
  unfold nameOk
  have : s.data.toList.all letter = true := by
    rw [List.all_eq_true]
    intro c hc
    obtain ⟨i, hi, rfl⟩ := List.mem_iff_getElem.1 hc
    have hi' : i < s.size := by simpa using hi
    have := h i hi'
    rw [getElem!_pos s i hi'] at this
    exact this
  rw [this, Bool.true_and]
  congr 1 <;> · apply decide_eq_decide.2; omega
def kNameOk : Ctr := pur (fun args => aS args 0) (fun s => [.v (.string s)]) (fun s => s.size ≤ 1099511627776) (fun _ s => .v (.bool (nameOk s))) (fun _ _ => [])
theorem cNameOkS : Cn Try.prog 124 kNameOk := by
  refine Cn.pur Try.func124 (by kernel_rfl) rfl fun d s hL => ?_
  refine Holds.go (c := cxBt2) Try.func124 rfl Try.results124 Try.ntmps124 (by omega) (by simp) rfl ?_
  intro X0 w0
  (repeat' (first | refine WP.seq ?_ | refine WP.block ?_ | ((first | refine WP.region ?_ | refine WP.condW ?_ | refine WP.ret ?_ | refine WP.exit ?_ | refine WP.skip ?_); simp only [go_sem, tyAll, Nat.reduceAdd, Nat.reduceLT, Nat.reduceLeDiff, Nat.reduceEqDiff, Nat.reduceMul, Nat.reduceSub, Nat.reduceGT, reduceIte, Int.reduceNeg, Int.reduceToNat]) |  refine And.intro ?_ ?_ | intro _))
  refine WP.loop (fun k : Nat => ⟨[(0, .v (.string s)), (3, .v (.int .i64 k))], []⟩) (fun k => k ≤ s.size ∧ ∀ i, i < k → letter s[i]! = true) (fun k => s.size - k) 0 (by simp) ?_ ?_
  · simp only [go_sem, tyAll, Nat.reduceAdd, Nat.reduceLT, Nat.reduceLeDiff, Nat.reduceEqDiff, Nat.reduceMul, Nat.reduceSub, Nat.reduceGT, reduceIte, Int.reduceNeg, Int.reduceToNat]; first | exact ⟨rfl, rfl⟩ | rfl
  intro k ⟨hk, hf⟩
  by_cases hlt : k < s.size
  · (repeat' (first | refine WP.seq ?_ | refine WP.block ?_ | ((first | refine WP.region ?_ | refine WP.condW ?_ | refine WP.ret ?_ | refine WP.exit ?_ | refine WP.skip ?_); simp only [go_sem, tyAll, Nat.reduceAdd, Nat.reduceLT, Nat.reduceLeDiff, Nat.reduceEqDiff, Nat.reduceMul, Nat.reduceSub, Nat.reduceGT, reduceIte, Int.reduceNeg, Int.reduceToNat]) |  refine And.intro ?_ ?_ | intro _))
    all_goals first | omega | skip
    · rename_i hh
      rw [nameOk_bad hlt (by rw [Bool.eq_false_iff]; intro hc; simp [letter] at hc; omega)]
    · rename_i hh
      refine ⟨k + 1, ⟨by omega, fun i hik => ?_⟩, by omega, rfl⟩
      rcases Nat.lt_or_ge i k with h | h
      · exact hf i h
      · have : i = k := by omega
        subst this
        simp [letter]; omega
  · (repeat' (first | refine WP.seq ?_ | refine WP.block ?_ | ((first | refine WP.region ?_ | refine WP.condW ?_ | refine WP.ret ?_ | refine WP.exit ?_ | refine WP.skip ?_); simp only [go_sem, tyAll, Nat.reduceAdd, Nat.reduceLT, Nat.reduceLeDiff, Nat.reduceEqDiff, Nat.reduceMul, Nat.reduceSub, Nat.reduceGT, reduceIte, Int.reduceNeg, Int.reduceToNat]) |  refine And.intro ?_ ?_ | intro _))
    all_goals first | omega | skip
    rw [nameOk_all fun i hi => hf i (by omega)]

theorem cNameOkI : Cn Try.prog 96 kNameOk := by
  refine Cn.pur Try.func96 (by kernel_rfl) rfl fun d s hL => ?_
  refine Holds.go (c := cxBt2) Try.func96 rfl Try.results96 Try.ntmps96 (by omega) (by simp) rfl ?_
  intro X0 w0
  (repeat' (first | refine WP.seq ?_ | refine WP.block ?_ | ((first | refine WP.region ?_ | refine WP.condW ?_ | refine WP.ret ?_ | refine WP.exit ?_ | refine WP.skip ?_); simp only [go_sem, tyAll, Nat.reduceAdd, Nat.reduceLT, Nat.reduceLeDiff, Nat.reduceEqDiff, Nat.reduceMul, Nat.reduceSub, Nat.reduceGT, reduceIte, Int.reduceNeg, Int.reduceToNat]) |  refine And.intro ?_ ?_ | intro _))
  refine WP.loop (fun k : Nat => ⟨[(0, .v (.string s)), (3, .v (.int .i64 k))], []⟩) (fun k => k ≤ s.size ∧ ∀ i, i < k → letter s[i]! = true) (fun k => s.size - k) 0 (by simp) ?_ ?_
  · simp only [go_sem, tyAll, Nat.reduceAdd, Nat.reduceLT, Nat.reduceLeDiff, Nat.reduceEqDiff, Nat.reduceMul, Nat.reduceSub, Nat.reduceGT, reduceIte, Int.reduceNeg, Int.reduceToNat]; first | exact ⟨rfl, rfl⟩ | rfl
  intro k ⟨hk, hf⟩
  by_cases hlt : k < s.size
  · (repeat' (first | refine WP.seq ?_ | refine WP.block ?_ | ((first | refine WP.region ?_ | refine WP.condW ?_ | refine WP.ret ?_ | refine WP.exit ?_ | refine WP.skip ?_); simp only [go_sem, tyAll, Nat.reduceAdd, Nat.reduceLT, Nat.reduceLeDiff, Nat.reduceEqDiff, Nat.reduceMul, Nat.reduceSub, Nat.reduceGT, reduceIte, Int.reduceNeg, Int.reduceToNat]) |  refine And.intro ?_ ?_ | intro _))
    all_goals first | omega | skip
    · rename_i hh
      rw [nameOk_bad hlt (by rw [Bool.eq_false_iff]; intro hc; simp [letter] at hc; omega)]
    · rename_i hh
      refine ⟨k + 1, ⟨by omega, fun i hik => ?_⟩, by omega, rfl⟩
      rcases Nat.lt_or_ge i k with h | h
      · exact hf i h
      · have : i = k := by omega
        subst this
        simp [letter]; omega
  · (repeat' (first | refine WP.seq ?_ | refine WP.block ?_ | ((first | refine WP.region ?_ | refine WP.condW ?_ | refine WP.ret ?_ | refine WP.exit ?_ | refine WP.skip ?_); simp only [go_sem, tyAll, Nat.reduceAdd, Nat.reduceLT, Nat.reduceLeDiff, Nat.reduceEqDiff, Nat.reduceMul, Nat.reduceSub, Nat.reduceGT, reduceIte, Int.reduceNeg, Int.reduceToNat]) |  refine And.intro ?_ ?_ | intro _))
    all_goals first | omega | skip
    rw [nameOk_all fun i hi => hf i (by omega)]
end
section
open Go.Vc
set_option linter.unusedSimpArgs false
set_option linter.unusedVariables false
set_option maxHeartbeats 1000000
set_option maxRecDepth 10000
attribute [local irreducible] Go.Vc.WP
attribute [local go_sem] cx0_t cx0_c
open Go.Pl
attribute [local go_sem] isV_Symbol decSymbol_enc oneSymbol_enc
def cutS (s : ByteArray) (a b : Nat) : ByteArray := s.extract a b
/-- a symbol at its place, at bytes behind the symbols ahead of it -/
def symOk (c : ByteArray) (Y : List Symbol) (y : Symbol) (k a : Nat) : Bool :=
  decide (y.start = a ∧ 1 ≤ y.size ∧ y.size ≤ (c.size : Int) - a) && nameOk y.name && (Y.take k).all (fun x => decide (x.name ≠ y.name)) && (disasm (cutS c a (a + y.size.toNat))).isSome
def imgAt (c : ByteArray) (Y : List Symbol) : Nat → Option Nat
  | 0 => some 0
  | k + 1 => match imgAt c Y k, Y[k]? with
    | some a, some y => if symOk c Y y k a = true then some (a + y.size.toNat) else none
    | _, _ => none
def imageOk (c : ByteArray) (Y : List Symbol) : Bool := match imgAt c Y Y.length with
  | some a => decide (a = c.size) && decide (c.size ≤ 1000000)
  | none => false
theorem imgAt_none {c : ByteArray} {Y : List Symbol} {k : Nat} (h : imgAt c Y k = none) : ∀ m, imgAt c Y (k + m) = none
  | 0 => h
  | m + 1 => by
    have ih := imgAt_none h m
    show (match imgAt c Y (k + m), Y[k + m]? with | some a, some y => if symOk c Y y (k + m) a = true then some (a + y.size.toNat) else none | _, _ => none) = none
    rw [ih]
theorem img_bad {c : ByteArray} {Y : List Symbol} {k a : Nat} (h : imgAt c Y k = some a) (hk : k < Y.length) (hb : symOk c Y Y[k] k a = false) : imageOk c Y = false := by
  have h1 : imgAt c Y (k + 1) = none := by
    rw [imgAt, h, List.getElem?_eq_getElem hk]
    simp only
    rw [if_neg (by rw [hb]; simp)]
  have h2 := imgAt_none h1 (Y.length - (k + 1))
  rw [show k + 1 + (Y.length - (k + 1)) = Y.length by omega] at h2
  unfold imageOk
  rw [h2]
theorem img_next {c : ByteArray} {Y : List Symbol} {k a : Nat} (h : imgAt c Y k = some a) (hk : k < Y.length) (hb : symOk c Y Y[k] k a = true) : imgAt c Y (k + 1) = some (a + Y[k].size.toNat) ∧ 1 ≤ Y[k].size ∧ a + Y[k].size.toNat ≤ c.size := by
  refine ⟨?_, ?_⟩
  · rw [imgAt, h, List.getElem?_eq_getElem hk]
    simp only
    rw [if_pos hb]
  · unfold symOk at hb
    simp only [Bool.and_eq_true, decide_eq_true_eq] at hb
    omega
theorem img_end {c : ByteArray} {Y : List Symbol} {a : Nat} (h : imgAt c Y Y.length = some a) : imageOk c Y = (decide (a = c.size) && decide (c.size ≤ 1000000)) := by
  unfold imageOk; rw [h]
theorem img_big {c : ByteArray} {Y : List Symbol} (h : 1000000 < c.size) : imageOk c Y = false := by
  unfold imageOk
  split
  · rw [decide_eq_false (by omega : ¬ c.size ≤ 1000000), Bool.and_false]
  · rfl
def preImg (x : ByteArray × List Symbol) : Prop := x.1.size ≤ 4194304 ∧ x.2.length ≤ 4194304 ∧ ∀ y ∈ x.2, y.name.size ≤ 4194304
def imgA (args : List SV) (i : Nat) : ByteArray × List Symbol := match args[i]? with
  | some (.agg [.v (.string c), .sl _ r]) => (c, decSymbol r)
  | _ => (⟨#[]⟩, [])
attribute [local go_sem] imgA
def kImgOk : Ctr := pur (fun args => imgA args 0) (fun x => [.agg [.v (.string x.1), .sl 3 (x.2.map encSymbol)]]) preImg (fun _ x => .v (.bool (imageOk x.1 x.2))) (fun _ _ => [])
theorem symOk_f1 {c : ByteArray} {Y : List Symbol} {y : Symbol} {k a : Nat} (h : ¬ (y.start = a ∧ 1 ≤ y.size ∧ y.size ≤ (c.size : Int) - a)) : symOk c Y y k a = false := by
  unfold symOk; rw [decide_eq_false h]; rfl
theorem symOk_f2 {c : ByteArray} {Y : List Symbol} {y : Symbol} {k a : Nat} (h : nameOk y.name = false) : symOk c Y y k a = false := by
  unfold symOk; rw [h, Bool.and_false]; rfl
theorem symOk_f3 {c : ByteArray} {Y : List Symbol} {y : Symbol} {k a j : Nat} (hj : j < Y.length) (hjk : j < k) (h : Y[j].name = y.name) : symOk c Y y k a = false := by
  have : (Y.take k).all (fun x => decide (x.name ≠ y.name)) = false := by
    rw [List.all_eq_false]
    refine ⟨Y[j], ?_, by simp [h]⟩
    rw [List.mem_iff_getElem]
    exact ⟨j, by rw [List.length_take]; omega, by rw [List.getElem_take]⟩
  unfold symOk; rw [this, Bool.and_false]; rfl
theorem symOk_t {c : ByteArray} {Y : List Symbol} {y : Symbol} {k a : Nat} (h1 : y.start = a ∧ 1 ≤ y.size ∧ y.size ≤ (c.size : Int) - a) (h2 : nameOk y.name = true) (h3 : ∀ j (hj : j < Y.length), j < k → Y[j].name ≠ y.name) :
    symOk c Y y k a = (disasm (cutS c a (a + y.size.toNat))).isSome := by
  have : (Y.take k).all (fun x => decide (x.name ≠ y.name)) = true := by
    rw [List.all_eq_true]
    intro x hx
    obtain ⟨j, hj, rfl⟩ := List.mem_iff_getElem.1 hx
    rw [List.length_take] at hj
    rw [List.getElem_take, decide_eq_true_eq]
    exact h3 j (by omega) (by omega)
  unfold symOk; rw [decide_eq_true h1, h2, this]; rfl
theorem cutS_size (c : ByteArray) (a b : Nat) : (cutS c a b).size ≤ c.size := by
  unfold cutS
  rw [ByteArray.size_extract]; omega
section
noncomputable def cxImI : Cx := { P := Try.prog, tys := tys, C := [(96, kNameOk), (152, kDis)], hty := tysOk, hC := COk.cons cNameOkI (COk.cons cDisI (COk.nil _)) }
theorem cxImI_t : cxImI.tys = tys := rfl
theorem cxImI_c : cxImI.C = [(96, kNameOk), (152, kDis)] := rfl
attribute [local go_sem] cxImI_t cxImI_c kNameOk kDis
theorem cImgOkI : Cn Try.prog 144 kImgOk := by
  refine Cn.pur Try.func144 (by kernel_rfl) rfl fun d x hx => ?_
  obtain ⟨c, Y⟩ := x
  obtain ⟨hc, hY, hN⟩ := hx
  simp only at hc hY hN ⊢
  refine Holds.go (c := cxImI) Try.func144 rfl Try.results144 Try.ntmps144 (by omega) (by simp) rfl ?_
  intro X0 w0
  by_cases hbig : 1000000 < c.size
  · have hbi : (1000000 : Int) < c.size := by omega
    rw [img_big hbig]
    (repeat' (first | refine WP.seq ?_ | refine WP.block ?_ | ((first | refine WP.region ?_ | refine WP.condW ?_ | refine WP.ret ?_ | refine WP.exit ?_ | refine WP.skip ?_); simp only [go_sem, hbi, tyAll, Nat.reduceAdd, Nat.reduceLT, Nat.reduceLeDiff, Nat.reduceEqDiff, Nat.reduceMul, Nat.reduceSub, Nat.reduceGT, reduceIte, Int.reduceNeg, Int.reduceToNat]) |  refine And.intro ?_ ?_ | intro _))
    all_goals first | omega | skip
    all_goals trace_state
  have hbi : ¬ (1000000 : Int) < c.size := by omega
  (repeat' (first | refine WP.seq ?_ | refine WP.block ?_ | ((first | refine WP.region ?_ | refine WP.condW ?_ | refine WP.ret ?_ | refine WP.exit ?_ | refine WP.skip ?_); simp only [go_sem, hbi, tyAll, Nat.reduceAdd, Nat.reduceLT, Nat.reduceLeDiff, Nat.reduceEqDiff, Nat.reduceMul, Nat.reduceSub, Nat.reduceGT, reduceIte, Int.reduceNeg, Int.reduceToNat]) |  refine And.intro ?_ ?_ | intro _))
  all_goals first | omega | skip
  refine WP.loop (fun q : Nat × Nat => ⟨[(1, .ptr 1 0 0 0), (3, .v (.int .i64 q.2)), (15, .sl 3 (Y.map encSymbol)), (16, .v (.int .i64 Y.length)), (17, .v (.int .i64 q.1))], [(1, .box 201 [.v (.string c), .sl 3 (Y.map encSymbol)])]⟩)
    (fun q => q.1 ≤ Y.length ∧ imgAt c Y q.1 = some q.2 ∧ q.2 ≤ c.size) (fun q => Y.length - q.1) (0, 0) ⟨by simp, rfl, by simp⟩ ?_ ?_
  · (simp only [go_sem, tyAll, Nat.reduceAdd, Nat.reduceLT, Nat.reduceLeDiff, Nat.reduceEqDiff, Nat.reduceMul, Nat.reduceSub, Nat.reduceGT, reduceIte, Int.reduceNeg, Int.reduceToNat] <;> (first | rfl | exact ⟨rfl, rfl⟩ | exact ⟨rfl, rfl, rfl⟩ | exact ⟨rfl, rfl, rfl, rfl⟩ | exact ⟨rfl, rfl, rfl, rfl, rfl⟩ | exact ⟨⟨rfl, rfl⟩, rfl⟩ | simp))
  rintro ⟨k, a⟩ ⟨hk, hI, ha⟩
  simp only at hk hI ha ⊢
  by_cases hlt : k < Y.length
  rotate_left
  · have hge : ¬ (k : Int) < Y.length := by omega
    obtain rfl : k = Y.length := by omega
    rw [img_end hI, decide_eq_true (by omega : c.size ≤ 1000000), Bool.and_true]
    have e : decide (a = c.size) = ((a : Int) == c.size) := by rw [Bool.eq_iff_iff, decide_eq_true_eq, beq_iff_eq]; omega
    rw [e]
    (repeat' (first | refine WP.seq ?_ | refine WP.block ?_ | ((first | refine WP.region ?_ | refine WP.condW ?_ | refine WP.ret ?_ | refine WP.exit ?_ | refine WP.skip ?_); simp only [go_sem, hge, tyAll, Nat.reduceAdd, Nat.reduceLT, Nat.reduceLeDiff, Nat.reduceEqDiff, Nat.reduceMul, Nat.reduceSub, Nat.reduceGT, reduceIte, Int.reduceNeg, Int.reduceToNat]) |  refine And.intro ?_ ?_ | intro _))
    all_goals first | omega | rfl | skip
    all_goals trace_state
  have hli : (k : Int) < Y.length := by omega
  have hr := rowAt_map encSymbol Y k hlt
  have hbad := img_bad hI hlt
  have hnext := img_next hI hlt
  have hnm := hN _ (List.getElem_mem hlt)
  have hy0 : oneSymbol (encSymbol Y[k]) = Y[k] := rfl
  generalize hye : Y[k] = y at *
  by_cases hc1 : y.start = a ∧ 1 ≤ y.size ∧ y.size ≤ (c.size : Int) - a
  rotate_left
  · rw [hbad (symOk_f1 hc1)]
    by_cases d1 : y.start = a
    · by_cases d2 : y.size < 1
      · (repeat' (first | refine WP.seq ?_ | refine WP.block ?_ | ((first | refine WP.region ?_ | refine WP.condW ?_ | refine WP.ret ?_ | refine WP.exit ?_ | refine WP.skip ?_); simp only [go_sem, hli, hr, encSymbol, d1, d2, tyAll, Nat.reduceAdd, Nat.reduceLT, Nat.reduceLeDiff, Nat.reduceEqDiff, Nat.reduceMul, Nat.reduceSub, Nat.reduceGT, reduceIte, Int.reduceNeg, Int.reduceToNat]) |  refine And.intro ?_ ?_ | intro _))
        all_goals first | omega | skip
        all_goals trace_state
      · have d3 : (c.size : Int) - a < y.size := by omega
        (repeat' (first | refine WP.seq ?_ | refine WP.block ?_ | ((first | refine WP.region ?_ | refine WP.condW ?_ | refine WP.ret ?_ | refine WP.exit ?_ | refine WP.skip ?_); simp only [go_sem, hli, hr, encSymbol, d1, d2, d3, tyAll, Nat.reduceAdd, Nat.reduceLT, Nat.reduceLeDiff, Nat.reduceEqDiff, Nat.reduceMul, Nat.reduceSub, Nat.reduceGT, reduceIte, Int.reduceNeg, Int.reduceToNat]) |  refine And.intro ?_ ?_ | intro _))
        all_goals first | omega | skip
        all_goals trace_state
    · (repeat' (first | refine WP.seq ?_ | refine WP.block ?_ | ((first | refine WP.region ?_ | refine WP.condW ?_ | refine WP.ret ?_ | refine WP.exit ?_ | refine WP.skip ?_); simp only [go_sem, hli, hr, encSymbol, d1, tyAll, Nat.reduceAdd, Nat.reduceLT, Nat.reduceLeDiff, Nat.reduceEqDiff, Nat.reduceMul, Nat.reduceSub, Nat.reduceGT, reduceIte, Int.reduceNeg, Int.reduceToNat]) |  refine And.intro ?_ ?_ | intro _))
      all_goals first | omega | skip
      all_goals trace_state
  obtain ⟨d1, d2, d3⟩ := hc1
  have e2 : ¬ y.size < 1 := by omega
  have e3 : ¬ (c.size : Int) - a < y.size := by omega
  cases hn : nameOk y.name with
  | false =>
    rw [hbad (symOk_f2 hn)]
    (repeat' (first | refine WP.seq ?_ | refine WP.block ?_ | ((first | refine WP.region ?_ | refine WP.condW ?_ | refine WP.ret ?_ | refine WP.exit ?_ | refine WP.skip ?_); simp only [go_sem, hli, hr, encSymbol, d1, e2, e3, hn, tyAll, Nat.reduceAdd, Nat.reduceLT, Nat.reduceLeDiff, Nat.reduceEqDiff, Nat.reduceMul, Nat.reduceSub, Nat.reduceGT, reduceIte, Int.reduceNeg, Int.reduceToNat]) |  refine And.intro ?_ ?_ | intro _))
    all_goals first | omega | skip
    all_goals trace_state
  | true =>
  (repeat' (first | refine WP.seq ?_ | refine WP.block ?_ | ((first | refine WP.region ?_ | refine WP.condW ?_ | refine WP.ret ?_ | refine WP.exit ?_ | refine WP.skip ?_); simp only [go_sem, hli, hr, encSymbol, d1, e2, e3, hn, ← List.map_take, tyAll, Nat.reduceAdd, Nat.reduceLT, Nat.reduceLeDiff, Nat.reduceEqDiff, Nat.reduceMul, Nat.reduceSub, Nat.reduceGT, reduceIte, Int.reduceNeg, Int.reduceToNat]) |  refine And.intro ?_ ?_ | intro _))
  all_goals first | omega | skip
  have htl : (Y.take k).length = k := by rw [List.length_take]; omega
  refine WP.loop (fun j : Nat => ⟨[(1, .ptr 1 0 0 0), (3, .v (.int .i64 a)), (5, .ptr 5 0 0 0), (15, .sl 3 (Y.map encSymbol)), (16, .v (.int .i64 Y.length)), (17, .v (.int .i64 k)), (50, .sl 3 ((Y.take k).map encSymbol)), (51, .v (.int .i64 k)), (52, .v (.int .i64 j))],
      [(1, .box 201 [.v (.string c), .sl 3 (Y.map encSymbol)]), (5, .box 206 [.v (.string y.name), .v (.int .i64 a), .v (.int .i64 y.size)])]⟩)
    (fun j => j ≤ k ∧ ∀ i (hi : i < Y.length), i < j → Y[i].name ≠ y.name) (fun j => k - j) 0 (by simp) ?_ ?_
  · (simp only [go_sem, htl, d1, tyAll, Nat.reduceAdd, Nat.reduceLT, Nat.reduceLeDiff, Nat.reduceEqDiff, Nat.reduceMul, Nat.reduceSub, Nat.reduceGT, reduceIte, Int.reduceNeg, Int.reduceToNat] <;> (first | rfl | exact ⟨rfl, rfl⟩ | exact ⟨rfl, rfl, rfl⟩ | exact ⟨rfl, rfl, rfl, rfl⟩ | exact ⟨rfl, rfl, rfl, rfl, rfl⟩ | exact ⟨⟨rfl, rfl⟩, rfl⟩ | simp))
  intro j ⟨hj, hf⟩
  by_cases hjk : j < k
  · have hjki : (j : Int) < k := by omega
    have hjl : j < Y.length := by omega
    have hr2 := rowAt_map encSymbol (Y.take k) j (by omega)
    rw [List.getElem_take] at hr2
    have hjti : (j : Int) < (Y.take k).length := by omega
    by_cases he : Y[j].name = y.name
    · rw [hbad (symOk_f3 hjl hjk he)]
      (repeat' (first | refine WP.seq ?_ | refine WP.block ?_ | ((first | refine WP.region ?_ | refine WP.condW ?_ | refine WP.ret ?_ | refine WP.exit ?_ | refine WP.skip ?_); simp only [go_sem, hjki, hjti, hr2, encSymbol, he, tyAll, Nat.reduceAdd, Nat.reduceLT, Nat.reduceLeDiff, Nat.reduceEqDiff, Nat.reduceMul, Nat.reduceSub, Nat.reduceGT, reduceIte, Int.reduceNeg, Int.reduceToNat]) |  refine And.intro ?_ ?_ | intro _))
      all_goals first | omega | skip
      all_goals trace_state
    · (repeat' (first | refine WP.seq ?_ | refine WP.block ?_ | ((first | refine WP.region ?_ | refine WP.condW ?_ | refine WP.ret ?_ | refine WP.exit ?_ | refine WP.skip ?_); simp only [go_sem, hjki, hjti, hr2, encSymbol, he, tyAll, Nat.reduceAdd, Nat.reduceLT, Nat.reduceLeDiff, Nat.reduceEqDiff, Nat.reduceMul, Nat.reduceSub, Nat.reduceGT, reduceIte, Int.reduceNeg, Int.reduceToNat]) |  refine And.intro ?_ ?_ | intro _))
      all_goals first | omega | skip
      all_goals first | exact ⟨j + 1, ⟨by omega, fun i hi hij => by
        rcases Nat.lt_or_ge i j with h | h
        · exact hf i hi h
        · have : i = j := by omega
          subst this; exact he⟩, by omega, by (first | rfl | exact ⟨rfl, rfl⟩ | exact ⟨rfl, rfl, rfl⟩ | exact ⟨rfl, rfl, rfl, rfl⟩ | exact ⟨rfl, rfl, rfl, rfl, rfl⟩ | exact ⟨⟨rfl, rfl⟩, rfl⟩ | simp)⟩ | trace_state
  · have hjki : ¬ (j : Int) < k := by omega
    have hso := symOk_t (c := c) (Y := Y) (y := y) (k := k) (a := a) ⟨d1, d2, d3⟩ hn fun i hi hik => hf i hi (by omega)
    obtain ⟨z, hz⟩ : ∃ z : Nat, y.size = z := ⟨_, (Int.toNat_of_nonneg (by omega)).symm⟩
    have haz : ((a : Int) + z).toNat = a + z := by omega
    have hcu : c.extract a (a + z) = cutS c a (a + z) := rfl
    have hcs := cutS_size c a (a + z)
    rw [hz, Int.toNat_natCast] at hso
    cases hds : (disasm (cutS c a (a + z))).isSome with
    | false =>
      rw [hds] at hso
      rw [hbad hso]
      (repeat' (first | refine WP.seq ?_ | refine WP.block ?_ | ((first | refine WP.region ?_ | refine WP.condW ?_ | refine WP.ret ?_ | refine WP.exit ?_ | refine WP.skip ?_); simp only [go_sem, hjki, hz, haz, hcu, hds, tyAll, Nat.reduceAdd, Nat.reduceLT, Nat.reduceLeDiff, Nat.reduceEqDiff, Nat.reduceMul, Nat.reduceSub, Nat.reduceGT, reduceIte, Int.reduceNeg, Int.reduceToNat]) |  refine And.intro ?_ ?_ | intro _))
      all_goals first | omega | skip
      all_goals trace_state
    | true =>
      rw [hds] at hso
      obtain ⟨n1, n2, n3⟩ := hnext hso
      rw [hz, Int.toNat_natCast] at n1 n3
      (repeat' (first | refine WP.seq ?_ | refine WP.block ?_ | ((first | refine WP.region ?_ | refine WP.condW ?_ | refine WP.ret ?_ | refine WP.exit ?_ | refine WP.skip ?_); simp only [go_sem, hjki, hz, haz, hcu, hds, tyAll, Nat.reduceAdd, Nat.reduceLT, Nat.reduceLeDiff, Nat.reduceEqDiff, Nat.reduceMul, Nat.reduceSub, Nat.reduceGT, reduceIte, Int.reduceNeg, Int.reduceToNat]) |  refine And.intro ?_ ?_ | intro _))
      all_goals first | omega | skip
      all_goals first | exact ⟨(k + 1, a + z), ⟨by simp only; omega, n1, n3⟩, by simp only; omega, by (first | rfl | exact ⟨rfl, rfl⟩ | exact ⟨rfl, rfl, rfl⟩ | exact ⟨rfl, rfl, rfl, rfl⟩ | exact ⟨rfl, rfl, rfl, rfl, rfl⟩ | exact ⟨⟨rfl, rfl⟩, rfl⟩ | simp)⟩ | trace_state
end
section
noncomputable def cxImS : Cx := { P := Try.prog, tys := tys, C := [(124, kNameOk), (150, kDis)], hty := tysOk, hC := COk.cons cNameOkS (COk.cons cDisS (COk.nil _)) }
theorem cxImS_t : cxImS.tys = tys := rfl
theorem cxImS_c : cxImS.C = [(124, kNameOk), (150, kDis)] := rfl
attribute [local go_sem] cxImS_t cxImS_c kNameOk kDis
theorem cImgOkS : Cn Try.prog 139 kImgOk := by
  refine Cn.pur Try.func139 (by kernel_rfl) rfl fun d x hx => ?_
  obtain ⟨c, Y⟩ := x
  obtain ⟨hc, hY, hN⟩ := hx
  simp only at hc hY hN ⊢
  refine Holds.go (c := cxImS) Try.func139 rfl Try.results139 Try.ntmps139 (by omega) (by simp) rfl ?_
  intro X0 w0
  (repeat' (first | refine WP.seq ?_ | refine WP.block ?_ | ((first | refine WP.region ?_ | refine WP.condW ?_ | refine WP.ret ?_ | refine WP.exit ?_ | refine WP.skip ?_); simp only [go_sem, tyAll, Nat.reduceAdd, Nat.reduceLT, Nat.reduceLeDiff, Nat.reduceEqDiff, Nat.reduceMul, Nat.reduceSub, Nat.reduceGT, reduceIte, Int.reduceNeg, Int.reduceToNat]) | ((first | refine WP.drawW 9 (by decide +kernel) (by kernel_rfl) ?_); simp only [go_sem, tyAll, Nat.reduceAdd, Nat.reduceLT, Nat.reduceLeDiff, Nat.reduceEqDiff, Nat.reduceMul, Nat.reduceSub, Nat.reduceGT, reduceIte, Int.reduceNeg, Int.reduceToNat]) |  refine And.intro ?_ ?_ | intro _))
  all_goals first | omega | skip
  refine WP.loop (fun q : Nat × Nat => ⟨[(1, .ptr 1 0 0 0), (3, .v (.int .i64 q.2)), (4, .v (.int .i64 q.1))], [(1, .box 201 [.v (.string c), .sl 3 (Y.map encSymbol)])]⟩)
    (fun q => q.1 ≤ Y.length ∧ imgAt c Y q.1 = some q.2 ∧ q.2 ≤ c.size) (fun q => Y.length - q.1) (0, 0) ⟨by simp, rfl, by simp⟩ ?_ ?_
  · (simp only [go_sem, tyAll, Nat.reduceAdd, Nat.reduceLT, Nat.reduceLeDiff, Nat.reduceEqDiff, Nat.reduceMul, Nat.reduceSub, Nat.reduceGT, reduceIte, Int.reduceNeg, Int.reduceToNat] <;> (first | rfl | exact ⟨rfl, rfl⟩ | exact ⟨rfl, rfl, rfl⟩ | exact ⟨rfl, rfl, rfl, rfl⟩ | exact ⟨rfl, rfl, rfl, rfl, rfl⟩ | exact ⟨⟨rfl, rfl⟩, rfl⟩ | simp))
  rintro ⟨k, a⟩ ⟨hk, hI, ha⟩
  simp only at hk hI ha ⊢
  by_cases hlt : k < Y.length
  rotate_left
  · have hge : ¬ (k : Int) < Y.length := by omega
    obtain rfl : k = Y.length := by omega
    have e : decide (a = c.size) = ((a : Int) == c.size) := by rw [Bool.eq_iff_iff, decide_eq_true_eq, beq_iff_eq]; omega
    have e' : decide (c.size ≤ 1000000) = decide ((c.size : Int) ≤ 1000000) := decide_eq_decide.2 (by omega)
    rw [img_end hI, e, e']
    (repeat' (first | refine WP.seq ?_ | refine WP.block ?_ | ((first | refine WP.region ?_ | refine WP.condW ?_ | refine WP.ret ?_ | refine WP.exit ?_ | refine WP.skip ?_); simp only [go_sem, hge, tyAll, Nat.reduceAdd, Nat.reduceLT, Nat.reduceLeDiff, Nat.reduceEqDiff, Nat.reduceMul, Nat.reduceSub, Nat.reduceGT, reduceIte, Int.reduceNeg, Int.reduceToNat]) | ((first | refine WP.drawW 9 (by decide +kernel) (by kernel_rfl) ?_); simp only [go_sem, hge, tyAll, Nat.reduceAdd, Nat.reduceLT, Nat.reduceLeDiff, Nat.reduceEqDiff, Nat.reduceMul, Nat.reduceSub, Nat.reduceGT, reduceIte, Int.reduceNeg, Int.reduceToNat]) |  refine And.intro ?_ ?_ | intro _))
    all_goals first | omega | rfl | skip
    all_goals trace_state
  have hli : (k : Int) < Y.length := by omega
  have hr := rowAt_map encSymbol Y k hlt
  have hbad := img_bad hI hlt
  have hnext := img_next hI hlt
  have hnm := hN _ (List.getElem_mem hlt)
  have hy0 : oneSymbol (encSymbol Y[k]) = Y[k] := rfl
  generalize hye : Y[k] = y at *
  by_cases hc1 : y.start = a ∧ 1 ≤ y.size ∧ y.size ≤ (c.size : Int) - a
  rotate_left
  · rw [hbad (symOk_f1 hc1)]
    by_cases d1 : y.start = a
    · by_cases d2 : y.size < 1
      · (repeat' (first | refine WP.seq ?_ | refine WP.block ?_ | ((first | refine WP.region ?_ | refine WP.condW ?_ | refine WP.ret ?_ | refine WP.exit ?_ | refine WP.skip ?_); simp only [go_sem, hli, hr, encSymbol, d1, d2, tyAll, Nat.reduceAdd, Nat.reduceLT, Nat.reduceLeDiff, Nat.reduceEqDiff, Nat.reduceMul, Nat.reduceSub, Nat.reduceGT, reduceIte, Int.reduceNeg, Int.reduceToNat]) | ((first | refine WP.drawW 9 (by decide +kernel) (by kernel_rfl) ?_); simp only [go_sem, hli, hr, encSymbol, d1, d2, tyAll, Nat.reduceAdd, Nat.reduceLT, Nat.reduceLeDiff, Nat.reduceEqDiff, Nat.reduceMul, Nat.reduceSub, Nat.reduceGT, reduceIte, Int.reduceNeg, Int.reduceToNat]) |  refine And.intro ?_ ?_ | intro _))
        all_goals first | omega | skip
        all_goals trace_state
      · have d3 : (c.size : Int) - a < y.size := by omega
        (repeat' (first | refine WP.seq ?_ | refine WP.block ?_ | ((first | refine WP.region ?_ | refine WP.condW ?_ | refine WP.ret ?_ | refine WP.exit ?_ | refine WP.skip ?_); simp only [go_sem, hli, hr, encSymbol, d1, d2, d3, tyAll, Nat.reduceAdd, Nat.reduceLT, Nat.reduceLeDiff, Nat.reduceEqDiff, Nat.reduceMul, Nat.reduceSub, Nat.reduceGT, reduceIte, Int.reduceNeg, Int.reduceToNat]) | ((first | refine WP.drawW 9 (by decide +kernel) (by kernel_rfl) ?_); simp only [go_sem, hli, hr, encSymbol, d1, d2, d3, tyAll, Nat.reduceAdd, Nat.reduceLT, Nat.reduceLeDiff, Nat.reduceEqDiff, Nat.reduceMul, Nat.reduceSub, Nat.reduceGT, reduceIte, Int.reduceNeg, Int.reduceToNat]) |  refine And.intro ?_ ?_ | intro _))
        all_goals first | omega | skip
        all_goals trace_state
    · (repeat' (first | refine WP.seq ?_ | refine WP.block ?_ | ((first | refine WP.region ?_ | refine WP.condW ?_ | refine WP.ret ?_ | refine WP.exit ?_ | refine WP.skip ?_); simp only [go_sem, hli, hr, encSymbol, d1, tyAll, Nat.reduceAdd, Nat.reduceLT, Nat.reduceLeDiff, Nat.reduceEqDiff, Nat.reduceMul, Nat.reduceSub, Nat.reduceGT, reduceIte, Int.reduceNeg, Int.reduceToNat]) | ((first | refine WP.drawW 9 (by decide +kernel) (by kernel_rfl) ?_); simp only [go_sem, hli, hr, encSymbol, d1, tyAll, Nat.reduceAdd, Nat.reduceLT, Nat.reduceLeDiff, Nat.reduceEqDiff, Nat.reduceMul, Nat.reduceSub, Nat.reduceGT, reduceIte, Int.reduceNeg, Int.reduceToNat]) |  refine And.intro ?_ ?_ | intro _))
      all_goals first | omega | skip
      all_goals trace_state
  obtain ⟨d1, d2, d3⟩ := hc1
  have e2 : ¬ y.size < 1 := by omega
  have e3 : ¬ (c.size : Int) - a < y.size := by omega
  cases hn : nameOk y.name with
  | false =>
    rw [hbad (symOk_f2 hn)]
    (repeat' (first | refine WP.seq ?_ | refine WP.block ?_ | ((first | refine WP.region ?_ | refine WP.condW ?_ | refine WP.ret ?_ | refine WP.exit ?_ | refine WP.skip ?_); simp only [go_sem, hli, hr, encSymbol, d1, e2, e3, hn, tyAll, Nat.reduceAdd, Nat.reduceLT, Nat.reduceLeDiff, Nat.reduceEqDiff, Nat.reduceMul, Nat.reduceSub, Nat.reduceGT, reduceIte, Int.reduceNeg, Int.reduceToNat]) | ((first | refine WP.drawW 9 (by decide +kernel) (by kernel_rfl) ?_); simp only [go_sem, hli, hr, encSymbol, d1, e2, e3, hn, tyAll, Nat.reduceAdd, Nat.reduceLT, Nat.reduceLeDiff, Nat.reduceEqDiff, Nat.reduceMul, Nat.reduceSub, Nat.reduceGT, reduceIte, Int.reduceNeg, Int.reduceToNat]) |  refine And.intro ?_ ?_ | intro _))
    all_goals first | omega | skip
    all_goals trace_state
  | true =>
  (repeat' (first | refine WP.seq ?_ | refine WP.block ?_ | ((first | refine WP.region ?_ | refine WP.condW ?_ | refine WP.ret ?_ | refine WP.exit ?_ | refine WP.skip ?_); simp only [go_sem, hli, hr, encSymbol, d1, e2, e3, hn, tyAll, Nat.reduceAdd, Nat.reduceLT, Nat.reduceLeDiff, Nat.reduceEqDiff, Nat.reduceMul, Nat.reduceSub, Nat.reduceGT, reduceIte, Int.reduceNeg, Int.reduceToNat]) | ((first | refine WP.drawW 9 (by decide +kernel) (by kernel_rfl) ?_); simp only [go_sem, hli, hr, encSymbol, d1, e2, e3, hn, tyAll, Nat.reduceAdd, Nat.reduceLT, Nat.reduceLeDiff, Nat.reduceEqDiff, Nat.reduceMul, Nat.reduceSub, Nat.reduceGT, reduceIte, Int.reduceNeg, Int.reduceToNat]) |  refine And.intro ?_ ?_ | intro _))
  all_goals first | omega | skip
  have htl : (Y.take k).length = k := by rw [List.length_take]; omega
  refine WP.loop (fun j : Nat => ⟨[(1, .ptr 1 0 0 0), (3, .v (.int .i64 a)), (4, .v (.int .i64 k)), (5, .ptr 5 0 0 0), (6, .v (.int .i64 j))],
      [(1, .box 201 [.v (.string c), .sl 3 (Y.map encSymbol)]), (5, .box 206 [.v (.string y.name), .v (.int .i64 a), .v (.int .i64 y.size)])]⟩)
    (fun j => j ≤ k ∧ ∀ i (hi : i < Y.length), i < j → Y[i].name ≠ y.name) (fun j => k - j) 0 (by simp) ?_ ?_
  · (simp only [go_sem, htl, d1, tyAll, Nat.reduceAdd, Nat.reduceLT, Nat.reduceLeDiff, Nat.reduceEqDiff, Nat.reduceMul, Nat.reduceSub, Nat.reduceGT, reduceIte, Int.reduceNeg, Int.reduceToNat] <;> (first | rfl | exact ⟨rfl, rfl⟩ | exact ⟨rfl, rfl, rfl⟩ | exact ⟨rfl, rfl, rfl, rfl⟩ | exact ⟨rfl, rfl, rfl, rfl, rfl⟩ | exact ⟨⟨rfl, rfl⟩, rfl⟩ | simp))
  intro j ⟨hj, hf⟩
  by_cases hjk : j < k
  · have hjki : (j : Int) < k := by omega
    have hjl : j < Y.length := by omega
    have hr2 := rowAt_map encSymbol Y j hjl
    have hjti : (j : Int) < Y.length := by omega
    by_cases he : Y[j].name = y.name
    · rw [hbad (symOk_f3 hjl hjk he)]
      (repeat' (first | refine WP.seq ?_ | refine WP.block ?_ | ((first | refine WP.region ?_ | refine WP.condW ?_ | refine WP.ret ?_ | refine WP.exit ?_ | refine WP.skip ?_); simp only [go_sem, hjki, hjti, hr2, encSymbol, he, tyAll, Nat.reduceAdd, Nat.reduceLT, Nat.reduceLeDiff, Nat.reduceEqDiff, Nat.reduceMul, Nat.reduceSub, Nat.reduceGT, reduceIte, Int.reduceNeg, Int.reduceToNat]) | ((first | refine WP.drawW 9 (by decide +kernel) (by kernel_rfl) ?_); simp only [go_sem, hjki, hjti, hr2, encSymbol, he, tyAll, Nat.reduceAdd, Nat.reduceLT, Nat.reduceLeDiff, Nat.reduceEqDiff, Nat.reduceMul, Nat.reduceSub, Nat.reduceGT, reduceIte, Int.reduceNeg, Int.reduceToNat]) |  refine And.intro ?_ ?_ | intro _))
      all_goals first | omega | skip
      all_goals trace_state
    · (repeat' (first | refine WP.seq ?_ | refine WP.block ?_ | ((first | refine WP.region ?_ | refine WP.condW ?_ | refine WP.ret ?_ | refine WP.exit ?_ | refine WP.skip ?_); simp only [go_sem, hjki, hjti, hr2, encSymbol, he, tyAll, Nat.reduceAdd, Nat.reduceLT, Nat.reduceLeDiff, Nat.reduceEqDiff, Nat.reduceMul, Nat.reduceSub, Nat.reduceGT, reduceIte, Int.reduceNeg, Int.reduceToNat]) | ((first | refine WP.drawW 9 (by decide +kernel) (by kernel_rfl) ?_); simp only [go_sem, hjki, hjti, hr2, encSymbol, he, tyAll, Nat.reduceAdd, Nat.reduceLT, Nat.reduceLeDiff, Nat.reduceEqDiff, Nat.reduceMul, Nat.reduceSub, Nat.reduceGT, reduceIte, Int.reduceNeg, Int.reduceToNat]) |  refine And.intro ?_ ?_ | intro _))
      all_goals first | omega | skip
      all_goals first | exact ⟨j + 1, ⟨by omega, fun i hi hij => by
        rcases Nat.lt_or_ge i j with h | h
        · exact hf i hi h
        · have : i = j := by omega
          subst this; exact he⟩, by omega, by (first | rfl | exact ⟨rfl, rfl⟩ | exact ⟨rfl, rfl, rfl⟩ | exact ⟨rfl, rfl, rfl, rfl⟩ | exact ⟨rfl, rfl, rfl, rfl, rfl⟩ | exact ⟨⟨rfl, rfl⟩, rfl⟩ | simp)⟩ | trace_state
  · have hjki : ¬ (j : Int) < k := by omega
    have hso := symOk_t (c := c) (Y := Y) (y := y) (k := k) (a := a) ⟨d1, d2, d3⟩ hn fun i hi hik => hf i hi (by omega)
    obtain ⟨z, hz⟩ : ∃ z : Nat, y.size = z := ⟨_, (Int.toNat_of_nonneg (by omega)).symm⟩
    have haz : ((a : Int) + z).toNat = a + z := by omega
    have hcu : c.extract a (a + z) = cutS c a (a + z) := rfl
    have hcs := cutS_size c a (a + z)
    rw [hz, Int.toNat_natCast] at hso
    cases hds : (disasm (cutS c a (a + z))).isSome with
    | false =>
      rw [hds] at hso
      rw [hbad hso]
      (repeat' (first | refine WP.seq ?_ | refine WP.block ?_ | ((first | refine WP.region ?_ | refine WP.condW ?_ | refine WP.ret ?_ | refine WP.exit ?_ | refine WP.skip ?_); simp only [go_sem, hjki, hz, haz, hcu, hds, tyAll, Nat.reduceAdd, Nat.reduceLT, Nat.reduceLeDiff, Nat.reduceEqDiff, Nat.reduceMul, Nat.reduceSub, Nat.reduceGT, reduceIte, Int.reduceNeg, Int.reduceToNat]) | ((first | refine WP.drawW 9 (by decide +kernel) (by kernel_rfl) ?_); simp only [go_sem, hjki, hz, haz, hcu, hds, tyAll, Nat.reduceAdd, Nat.reduceLT, Nat.reduceLeDiff, Nat.reduceEqDiff, Nat.reduceMul, Nat.reduceSub, Nat.reduceGT, reduceIte, Int.reduceNeg, Int.reduceToNat]) |  refine And.intro ?_ ?_ | intro _))
      all_goals first | omega | skip
      all_goals trace_state
    | true =>
      rw [hds] at hso
      obtain ⟨n1, n2, n3⟩ := hnext hso
      rw [hz, Int.toNat_natCast] at n1 n3
      (repeat' (first | refine WP.seq ?_ | refine WP.block ?_ | ((first | refine WP.region ?_ | refine WP.condW ?_ | refine WP.ret ?_ | refine WP.exit ?_ | refine WP.skip ?_); simp only [go_sem, hjki, hz, haz, hcu, hds, tyAll, Nat.reduceAdd, Nat.reduceLT, Nat.reduceLeDiff, Nat.reduceEqDiff, Nat.reduceMul, Nat.reduceSub, Nat.reduceGT, reduceIte, Int.reduceNeg, Int.reduceToNat]) | ((first | refine WP.drawW 9 (by decide +kernel) (by kernel_rfl) ?_); simp only [go_sem, hjki, hz, haz, hcu, hds, tyAll, Nat.reduceAdd, Nat.reduceLT, Nat.reduceLeDiff, Nat.reduceEqDiff, Nat.reduceMul, Nat.reduceSub, Nat.reduceGT, reduceIte, Int.reduceNeg, Int.reduceToNat]) |  refine And.intro ?_ ?_ | intro _))
      all_goals first | omega | skip
      all_goals first | exact ⟨(k + 1, a + z), ⟨by simp only; omega, n1, n3⟩, by simp only; omega, by (first | rfl | exact ⟨rfl, rfl⟩ | exact ⟨rfl, rfl, rfl⟩ | exact ⟨rfl, rfl, rfl, rfl⟩ | exact ⟨rfl, rfl, rfl, rfl, rfl⟩ | exact ⟨⟨rfl, rfl⟩, rfl⟩ | simp)⟩ | trace_state
end
end
section
open Go.Vc
set_option linter.unusedSimpArgs false
set_option linter.unusedVariables false
set_option maxHeartbeats 1000000
set_option maxRecDepth 10000
attribute [local irreducible] Go.Vc.WP
attribute [local go_sem] cx0_t cx0_c
open Go.Pl
attribute [local go_sem] isV_Symbol decSymbol_enc oneSymbol_enc imgA decI_enc
structure Image where
  code : ByteArray
  symbols : List Symbol
def encImage (x : Image) : List SV := [.v (.string x.code), .sl 3 (x.symbols.map encSymbol)]
def oneImage : List SV → Image
  | [.v (.string c), .sl _ r] => ⟨c, decSymbol r⟩
  | _ => ⟨⟨#[]⟩, []⟩
def decImage (rows : List (List SV)) : List Image := rows.map oneImage
theorem decImage_enc (L : List Image) : decImage (L.map encImage) = L := by
  unfold decImage
  rw [List.map_map]
  conv => rhs; rw [← List.map_id L]
  apply List.map_congr_left
  intro x _
  show oneImage (encImage x) = x
  unfold oneImage encImage
  simp only [decSymbol_enc]
attribute [local go_sem] decImage_enc
def zImg : Image := ⟨⟨#[]⟩, []⟩
/-- what an image that is right looks like -/
structure ImgC (c : ByteArray) (Y : List Symbol) (A : Nat → Nat) : Prop where
  start : ∀ k (h : k < Y.length), Y[k].start = A k
  size : ∀ k (h : k < Y.length), 1 ≤ Y[k].size ∧ (A (k + 1) : Int) = A k + Y[k].size
  zero : A 0 = 0
  last : A Y.length = c.size
  big : c.size ≤ 1000000
theorem img_chain {c : ByteArray} {Y : List Symbol} (h : imageOk c Y = true) : ∃ A, ImgC c Y A := by
  unfold imageOk at h
  split at h
  case h_2 => cases h
  rename_i a ha
  simp only [Bool.and_eq_true, decide_eq_true_eq] at h
  have all : ∀ k, k ≤ Y.length → ∃ b, imgAt c Y k = some b := fun k hk => by
    cases hq : imgAt c Y k with
    | some b => exact ⟨b, rfl⟩
    | none =>
      have := imgAt_none hq (Y.length - k)
      rw [show k + (Y.length - k) = Y.length by omega, ha] at this
      cases this
  have step : ∀ k (hk : k < Y.length) b, imgAt c Y k = some b → symOk c Y Y[k] k b = true ∧ imgAt c Y (k + 1) = some (b + Y[k].size.toNat) := fun k hk b hb => by
    obtain ⟨b2, hb2⟩ := all (k + 1) (by omega)
    have h2 := hb2
    rw [imgAt, hb, List.getElem?_eq_getElem hk] at h2
    simp only at h2
    split at h2
    · rename_i hs; exact ⟨hs, by rw [hb2, ← h2]⟩
    · cases h2
  refine ⟨fun k => (imgAt c Y k).getD 0, fun k hk => ?_, fun k hk => ?_, rfl, by show (imgAt c Y Y.length).getD 0 = _; rw [ha]; exact h.1, h.2⟩
  · obtain ⟨b, hb⟩ := all k (by omega)
    have h1 := (step k hk b hb).1
    unfold symOk at h1
    simp only [Bool.and_eq_true, decide_eq_true_eq] at h1
    simp only [hb, Option.getD_some]
    exact h1.1.1.1.1
  · obtain ⟨b, hb⟩ := all k (by omega)
    obtain ⟨h1, h2⟩ := step k hk b hb
    unfold symOk at h1
    simp only [Bool.and_eq_true, decide_eq_true_eq] at h1
    simp only [hb, h2, Option.getD_some]
    omega
theorem ImgC.mono {c : ByteArray} {Y : List Symbol} {A : Nat → Nat} (h : ImgC c Y A) : ∀ (j k : Nat), k + j ≤ Y.length → A k + j ≤ A (k + j)
  | 0, k, _ => by simp
  | j + 1, k, hk => by
    have ih := h.mono j k (by omega)
    have := h.size (k + j) (by omega)
    rw [show k + (j + 1) = k + j + 1 by omega]
    omega
def symHit (o : Int) (x : Symbol) : Bool := decide (0 ≤ x.start ∧ x.start ≤ 1000000) && decide (0 ≤ x.size ∧ x.size ≤ 1000000) && decide (x.start ≤ o) && decide (o < x.start + x.size)
theorem ImgC.hit {c : ByteArray} {Y : List Symbol} {A : Nat → Nat} (h : ImgC c Y A) {k : Nat} (hk : k < Y.length) (o : Int) : symHit o Y[k] = true ↔ (A k : Int) ≤ o ∧ o < A (k + 1) := by
  have h1 := h.start k hk
  have h2 := h.size k hk
  have h3 := h.mono (Y.length - (k + 1)) (k + 1) (by omega)
  rw [show k + 1 + (Y.length - (k + 1)) = Y.length by omega, h.last] at h3
  have h4 := h.big
  unfold symHit
  simp only [Bool.and_eq_true, decide_eq_true_eq]
  omega
theorem ImgC.at {c : ByteArray} {Y : List Symbol} {A : Nat → Nat} (h : ImgC c Y A) {k : Nat} (hk : k < Y.length) : firstIdx (symHit Y[k].start) Y = k := by
  refine firstIdx_hit hk (fun j hj hjk => ?_) ?_
  · rw [Bool.eq_false_iff, ne_eq, h.hit hj, h.start k hk]
    have := h.mono (k - (j + 1)) (j + 1) (by omega)
    rw [show j + 1 + (k - (j + 1)) = k by omega] at this
    omega
  · rw [h.hit hk, h.start k hk]
    have := h.size k hk
    omega
theorem ImgC.lt {c : ByteArray} {Y : List Symbol} {A : Nat → Nat} (h : ImgC c Y A) {k : Nat} (hk : k < Y.length) : 0 ≤ Y[k].start ∧ Y[k].start < c.size := by
  have h1 := h.start k hk
  have h2 := h.size k hk
  have h3 := h.mono (Y.length - (k + 1)) (k + 1) (by omega)
  rw [show k + 1 + (Y.length - (k + 1)) = Y.length by omega, h.last] at h3
  omega
def inImg (I : List Image) (B : List Int) (e : Int) (i : Nat) : Bool := decide (B.getD i 0 ≤ e) && decide (e < B.getD i 0 + ((I.getD i zImg).code.size : Int))
def locI (I : List Image) (B : List Int) (e : Int) : Int := firstIdx (inImg I B e) (List.range I.length)
def hitS (b e : Int) (Y : List Symbol) : Bool := Y.any fun x => decide (b + x.start = e)
def isEnt (I : List Image) (B : List Int) (e : Int) : Bool := (List.range I.length).any fun i => hitS (B.getD i 0) e (I.getD i zImg).symbols
def entS (I : List Image) (B : List Int) (e : Int) : Bool :=
  if locI I B e < 0 then false else
    (decide (0 ≤ firstIdx (symHit (e - B.getD (locI I B e).toNat 0)) (I.getD (locI I B e).toNat zImg).symbols) &&
      decide (((I.getD (locI I B e).toNat zImg).symbols.getD (firstIdx (symHit (e - B.getD (locI I B e).toNat 0)) (I.getD (locI I B e).toNat zImg).symbols).toNat ⟨⟨#[]⟩, 0, 0⟩).start = e - B.getD (locI I B e).toNat 0))
def overB (I : List Image) (B : List Int) : Bool :=
  decide (0 < (I.getD 0 zImg).code.size) && decide (0 < (I.getD 1 zImg).code.size) && decide (B.getD 0 0 < B.getD 1 0 + (I.getD 1 zImg).code.size) && decide (B.getD 1 0 < B.getD 0 0 + (I.getD 0 zImg).code.size)
def imgs2 (I : List Image) (B : List Int) (k : Nat) : Bool := (List.range k).all fun i => imageOk (I.getD i zImg).code (I.getD i zImg).symbols && decide (1 ≤ B.getD i 0 ∧ B.getD i 0 ≤ 1000000)
def spaceOk (I : List Image) (B E : List Int) : Bool :=
  decide (I.length = 2 ∧ B.length = 2 ∧ 1 ≤ E.length ∧ E.length ≤ 6) && imgs2 I B 2 && !overB I B && E.all (isEnt I B)
theorem loc_none {I : List Image} {B : List Int} {e : Int} (h : locI I B e < 0) : ∀ i, i < I.length → inImg I B e i = false := by
  intro i hi
  exact firstIdx_neg' h i (List.mem_range.2 hi)
where
  firstIdx_neg' {p : Nat → Bool} {L : List Nat} (h : firstIdx p L < 0) : ∀ x ∈ L, p x = false := by
    unfold firstIdx at h
    split at h
    · omega
    · rename_i hn
      rw [List.findIdx?_eq_none_iff] at hn
      exact hn
theorem ent_same {I : List Image} {B : List Int} (h2 : I.length = 2) (hi : imgs2 I B 2 = true) (ho : overB I B = false) (e : Int) : entS I B e = isEnt I B e := by
  obtain ⟨i0, i1, rfl⟩ : ∃ a b, I = [a, b] := by
    match I, h2 with
    | [a, b], _ => exact ⟨a, b, rfl⟩
  generalize hb0 : B.getD 0 0 = b0 at *
  generalize hb1 : B.getD 1 0 = b1 at *
  have e0 : imageOk i0.code i0.symbols = true ∧ imageOk i1.code i1.symbols = true := by
    simp [imgs2, List.range_succ] at hi
    exact ⟨hi.1.1, hi.2.1⟩
  obtain ⟨A0, c0⟩ := img_chain e0.1
  obtain ⟨A1, c1⟩ := img_chain e0.2
  have ov : ¬ (0 < i0.code.size ∧ 0 < i1.code.size ∧ b0 < b1 + i1.code.size ∧ b1 < b0 + i0.code.size) := by
    intro h
    unfold overB at ho
    simp only [hb0, hb1] at ho
    simp [h] at ho
  have hq0 : B[0]?.getD 0 = b0 := by rw [← hb0, List.getD_eq_getElem?_getD]
  have hq1 : B[1]?.getD 0 = b1 := by rw [← hb1, List.getD_eq_getElem?_getD]
  have n0 : inImg [i0, i1] B e 0 = true ↔ b0 ≤ e ∧ e < b0 + i0.code.size := by simp [inImg, hq0]
  have n1 : inImg [i0, i1] B e 1 = true ↔ b1 ≤ e ∧ e < b1 + i1.code.size := by simp [inImg, hq1]
  have key : ∀ (b : Int) (i : Image) (A : Nat → Nat), ImgC i.code i.symbols A → ((decide (0 ≤ firstIdx (symHit (e - b)) i.symbols) && decide ((i.symbols.getD (firstIdx (symHit (e - b)) i.symbols).toNat ⟨⟨#[]⟩, 0, 0⟩).start = e - b)) = true ↔ hitS b e i.symbols = true) := fun b i A c => by
    unfold hitS
    rw [List.any_eq_true, Bool.and_eq_true, decide_eq_true_eq, decide_eq_true_eq]
    constructor
    · rintro ⟨g1, g2⟩
      have : (firstIdx (symHit (e - b)) i.symbols).toNat < i.symbols.length := by
        unfold firstIdx at g1 ⊢
        split at g1
        · rename_i q hq
          have := (List.findIdx?_eq_some_iff_getElem.1 hq).1
          simpa using this
        · omega
      rw [List.getD_eq_getElem?_getD, List.getElem?_eq_getElem this] at g2
      exact ⟨_, List.getElem_mem this, by rw [decide_eq_true_eq]; simp only [Option.getD_some] at g2; omega⟩
    · rintro ⟨x, hx, hxe⟩
      rw [decide_eq_true_eq] at hxe
      obtain ⟨k, hk, rfl⟩ := List.mem_iff_getElem.1 hx
      have : e - b = i.symbols[k].start := by omega
      rw [this, c.at hk, Int.toNat_natCast, List.getD_eq_getElem?_getD, List.getElem?_eq_getElem hk]
      exact ⟨by omega, rfl⟩
  have hin : ∀ (b : Int) (i : Image) (A : Nat → Nat), ImgC i.code i.symbols A → hitS b e i.symbols = true → b ≤ e ∧ e < b + i.code.size := fun b i A c h => by
    unfold hitS at h
    rw [List.any_eq_true] at h
    obtain ⟨x, hx, hxe⟩ := h
    rw [decide_eq_true_eq] at hxe
    obtain ⟨k, hk, rfl⟩ := List.mem_iff_getElem.1 hx
    have := c.lt hk
    omega
  have hie : isEnt [i0, i1] B e = (hitS b0 e i0.symbols || hitS b1 e i1.symbols) := by
    simp [isEnt, List.range_succ, hq0, hq1]
  have hl : locI [i0, i1] B e = if inImg [i0, i1] B e 0 = true then 0 else if inImg [i0, i1] B e 1 = true then 1 else -1 := by
    unfold locI firstIdx
    simp only [List.length_cons, List.length_nil, List.range_succ, List.range_zero, List.nil_append, List.cons_append, List.findIdx?_cons, List.findIdx?_nil]
    cases inImg [i0, i1] B e 0 <;> cases inImg [i0, i1] B e 1 <;> simp
  rw [hie]
  unfold entS
  rw [hl]
  have h0' := hin b0 i0 A0 c0
  have h1' := hin b1 i1 A1 c1
  by_cases p0 : inImg [i0, i1] B e 0 = true
  · rw [if_pos p0]
    rw [if_neg (by omega)]
    simp only [Int.toNat_zero, List.getD_cons_zero, hb0]
    have h1n : hitS b1 e i1.symbols = false := by
      rw [Bool.eq_false_iff]
      intro h
      have g0 := n0.1 p0
      have g1 := h1' h
      exact ov ⟨by omega, by omega, by omega, by omega⟩
    rw [h1n, Bool.or_false, Bool.eq_iff_iff]
    exact key b0 i0 A0 c0
  · rw [if_neg p0]
    have h0n : hitS b0 e i0.symbols = false := by
      rw [Bool.eq_false_iff]
      intro h
      exact p0 (n0.2 (h0' h))
    rw [h0n, Bool.false_or]
    by_cases p1 : inImg [i0, i1] B e 1 = true
    · rw [if_pos p1, if_neg (by omega)]
      have t1 : (1 : Int).toNat = 1 := rfl
      simp only [t1, List.getD_cons_succ, List.getD_cons_zero, hb1]
      rw [Bool.eq_iff_iff]
      exact key b1 i1 A1 c1
    · rw [if_neg p1, if_pos (by omega)]
      symm
      rw [Bool.eq_false_iff]
      intro h
      exact p1 (n1.2 (h1' h))
/-! ## the walks -/
def spA (args : List SV) (i : Nat) : List Image × List Int × List Int := match args[i]? with
  | some (.agg [.sl _ a, .sl _ b, .sl _ c]) => (decImage a, decI b, decI c)
  | _ => ([], [], [])
attribute [local go_sem] spA
def okImgs (I : List Image) : Prop := I.length ≤ 4194304 ∧ ∀ i ∈ I, preImg (i.code, i.symbols)
def kSymAt : Ctr := pur (fun args => (imgA args 0, aI args 1)) (fun x => [.agg [.v (.string x.1.1), .sl 3 (x.1.2.map encSymbol)], .v (.int .i64 x.2)]) (fun x => x.1.2.length ≤ 4194304) (fun _ x => .v (.int .i64 (firstIdx (symHit x.2) x.1.2))) (fun _ _ => [])
section
noncomputable def cxSaS : Cx := { P := Try.prog, tys := tys, C := [(71, k60)], hty := tysOk, hC := COk.cons c58 (COk.nil _) }
theorem cxSaS_t : cxSaS.tys = tys := rfl
theorem cxSaS_c : cxSaS.C = [(71, k60)] := rfl
attribute [local go_sem] cxSaS_t cxSaS_c k60
theorem cSymAtS : Cn Try.prog 141 kSymAt := by
  refine Cn.pur Try.func141 (by kernel_rfl) rfl fun d x hx => ?_
  obtain ⟨⟨c, Y⟩, o⟩ := x
  simp only at hx ⊢
  refine Holds.go (c := cxSaS) Try.func141 rfl Try.results141 Try.ntmps141 (by omega) (by simp) rfl ?_
  intro X0 w0
  (repeat' (first | refine WP.seq ?_ | refine WP.block ?_ | ((first | refine WP.region ?_ | refine WP.condW ?_ | refine WP.ret ?_ | refine WP.exit ?_ | refine WP.skip ?_); simp only [go_sem, tyAll, Nat.reduceAdd, Nat.reduceLT, Nat.reduceLeDiff, Nat.reduceEqDiff, Nat.reduceMul, Nat.reduceSub, Nat.reduceGT, reduceIte, Int.reduceNeg, Int.reduceToNat]) |  refine And.intro ?_ ?_ | intro _))
  all_goals first | omega | skip
  refine WP.loop (fun k : Nat => ⟨[(1, .v (.int .i64 o)), (2, .ptr 2 0 0 0), (5, .v (.int .i64 k))], [(2, .box 201 [.v (.string c), .sl 3 (Y.map encSymbol)])]⟩)
    (fun k => k ≤ Y.length ∧ ∀ i (hi : i < Y.length), i < k → symHit o Y[i] = false) (fun k => Y.length - k) 0 (by simp) ?_ ?_
  · (simp only [go_sem, tyAll, Nat.reduceAdd, Nat.reduceLT, Nat.reduceLeDiff, Nat.reduceEqDiff, Nat.reduceMul, Nat.reduceSub, Nat.reduceGT, reduceIte, Int.reduceNeg, Int.reduceToNat] <;> (first | rfl | exact ⟨rfl, rfl⟩ | exact ⟨rfl, rfl, rfl⟩ | exact ⟨rfl, rfl, rfl, rfl⟩ | exact ⟨rfl, rfl, rfl, rfl, rfl⟩ | exact ⟨⟨rfl, rfl⟩, rfl⟩ | simp))
  intro k ⟨hk, hf⟩
  by_cases hlt : k < Y.length
  · have hli : (k : Int) < Y.length := by omega
    have hr := rowAt_map encSymbol Y k hlt
    have hy : oneSymbol (encSymbol Y[k]) = Y[k] := rfl
    by_cases h1 : 0 ≤ Y[k].start ∧ Y[k].start ≤ 1000000
    · by_cases h2 : 0 ≤ Y[k].size ∧ Y[k].size ≤ 1000000
      · by_cases h3 : Y[k].start ≤ o
        · by_cases h4 : o < Y[k].start + Y[k].size
          · have hh : symHit o Y[k] = true := by simp [symHit, h1, h2, h3, h4]
            rw [show firstIdx (symHit o) Y = k from firstIdx_hit hlt hf hh]
            (repeat' (first | refine WP.seq ?_ | refine WP.block ?_ | ((first | refine WP.region ?_ | refine WP.condW ?_ | refine WP.ret ?_ | refine WP.exit ?_ | refine WP.skip ?_); simp only [go_sem, hli, hr, encSymbol, h1, h2, h3, h4, tyAll, Nat.reduceAdd, Nat.reduceLT, Nat.reduceLeDiff, Nat.reduceEqDiff, Nat.reduceMul, Nat.reduceSub, Nat.reduceGT, reduceIte, Int.reduceNeg, Int.reduceToNat]) |  refine And.intro ?_ ?_ | intro _))
            all_goals first | omega | skip
            all_goals trace_state
          · have hh : symHit o Y[k] = false := by simp [symHit]; omega
            (repeat' (first | refine WP.seq ?_ | refine WP.block ?_ | ((first | refine WP.region ?_ | refine WP.condW ?_ | refine WP.ret ?_ | refine WP.exit ?_ | refine WP.skip ?_); simp only [go_sem, hli, hr, encSymbol, h1, h2, h3, h4, tyAll, Nat.reduceAdd, Nat.reduceLT, Nat.reduceLeDiff, Nat.reduceEqDiff, Nat.reduceMul, Nat.reduceSub, Nat.reduceGT, reduceIte, Int.reduceNeg, Int.reduceToNat]) |  refine And.intro ?_ ?_ | intro _))
            all_goals first | omega | skip
            all_goals first | exact ⟨k + 1, ⟨by omega, fun i hi hik => by
              rcases Nat.lt_or_ge i k with h | h
              · exact hf i hi h
              · have : i = k := by omega
                subst this; exact hh⟩, by omega, by (first | rfl | exact ⟨rfl, rfl⟩ | exact ⟨rfl, rfl, rfl⟩ | exact ⟨rfl, rfl, rfl, rfl⟩ | exact ⟨rfl, rfl, rfl, rfl, rfl⟩ | exact ⟨⟨rfl, rfl⟩, rfl⟩ | simp)⟩ | trace_state
        · have hh : symHit o Y[k] = false := by simp [symHit]; omega
          (repeat' (first | refine WP.seq ?_ | refine WP.block ?_ | ((first | refine WP.region ?_ | refine WP.condW ?_ | refine WP.ret ?_ | refine WP.exit ?_ | refine WP.skip ?_); simp only [go_sem, hli, hr, encSymbol, h1, h2, h3, tyAll, Nat.reduceAdd, Nat.reduceLT, Nat.reduceLeDiff, Nat.reduceEqDiff, Nat.reduceMul, Nat.reduceSub, Nat.reduceGT, reduceIte, Int.reduceNeg, Int.reduceToNat]) |  refine And.intro ?_ ?_ | intro _))
          all_goals first | omega | skip
          all_goals first | exact ⟨k + 1, ⟨by omega, fun i hi hik => by
            rcases Nat.lt_or_ge i k with h | h
            · exact hf i hi h
            · have : i = k := by omega
              subst this; exact hh⟩, by omega, by (first | rfl | exact ⟨rfl, rfl⟩ | exact ⟨rfl, rfl, rfl⟩ | exact ⟨rfl, rfl, rfl, rfl⟩ | exact ⟨rfl, rfl, rfl, rfl, rfl⟩ | exact ⟨⟨rfl, rfl⟩, rfl⟩ | simp)⟩ | trace_state
      · have hh : symHit o Y[k] = false := by simp [symHit]; omega
        have h2' : (decide (0 ≤ Y[k].size) && decide (Y[k].size ≤ 1000000)) = false := by rw [← Bool.decide_and]; exact decide_eq_false h2
        (repeat' (first | refine WP.seq ?_ | refine WP.block ?_ | ((first | refine WP.region ?_ | refine WP.condW ?_ | refine WP.ret ?_ | refine WP.exit ?_ | refine WP.skip ?_); simp only [go_sem, hli, hr, encSymbol, h1, h2', tyAll, Nat.reduceAdd, Nat.reduceLT, Nat.reduceLeDiff, Nat.reduceEqDiff, Nat.reduceMul, Nat.reduceSub, Nat.reduceGT, reduceIte, Int.reduceNeg, Int.reduceToNat]) |  refine And.intro ?_ ?_ | intro _))
        all_goals first | omega | skip
        all_goals first | exact ⟨k + 1, ⟨by omega, fun i hi hik => by
            rcases Nat.lt_or_ge i k with h | h
            · exact hf i hi h
            · have : i = k := by omega
              subst this; exact hh⟩, by omega, by (first | rfl | exact ⟨rfl, rfl⟩ | exact ⟨rfl, rfl, rfl⟩ | exact ⟨rfl, rfl, rfl, rfl⟩ | exact ⟨rfl, rfl, rfl, rfl, rfl⟩ | exact ⟨⟨rfl, rfl⟩, rfl⟩ | simp)⟩ | trace_state
    · have hh : symHit o Y[k] = false := by simp [symHit]; omega
      have h1' : (decide (0 ≤ Y[k].start) && decide (Y[k].start ≤ 1000000)) = false := by rw [← Bool.decide_and]; exact decide_eq_false h1
      (repeat' (first | refine WP.seq ?_ | refine WP.block ?_ | ((first | refine WP.region ?_ | refine WP.condW ?_ | refine WP.ret ?_ | refine WP.exit ?_ | refine WP.skip ?_); simp only [go_sem, hli, hr, encSymbol, h1', tyAll, Nat.reduceAdd, Nat.reduceLT, Nat.reduceLeDiff, Nat.reduceEqDiff, Nat.reduceMul, Nat.reduceSub, Nat.reduceGT, reduceIte, Int.reduceNeg, Int.reduceToNat]) |  refine And.intro ?_ ?_ | intro _))
      all_goals first | omega | skip
      all_goals first | exact ⟨k + 1, ⟨by omega, fun i hi hik => by
            rcases Nat.lt_or_ge i k with h | h
            · exact hf i hi h
            · have : i = k := by omega
              subst this; exact hh⟩, by omega, by (first | rfl | exact ⟨rfl, rfl⟩ | exact ⟨rfl, rfl, rfl⟩ | exact ⟨rfl, rfl, rfl, rfl⟩ | exact ⟨rfl, rfl, rfl, rfl, rfl⟩ | exact ⟨⟨rfl, rfl⟩, rfl⟩ | simp)⟩ | trace_state
  · have hge : ¬ (k : Int) < Y.length := by omega
    rw [show firstIdx (symHit o) Y = -1 from firstIdx_none fun i hi => hf i hi (by omega)]
    (repeat' (first | refine WP.seq ?_ | refine WP.block ?_ | ((first | refine WP.region ?_ | refine WP.condW ?_ | refine WP.ret ?_ | refine WP.exit ?_ | refine WP.skip ?_); simp only [go_sem, hge, tyAll, Nat.reduceAdd, Nat.reduceLT, Nat.reduceLeDiff, Nat.reduceEqDiff, Nat.reduceMul, Nat.reduceSub, Nat.reduceGT, reduceIte, Int.reduceNeg, Int.reduceToNat]) |  refine And.intro ?_ ?_ | intro _))
    all_goals first | omega | skip
    all_goals trace_state
end
end
section
open Go.Vc
set_option linter.unusedSimpArgs false
set_option linter.unusedVariables false
set_option maxHeartbeats 1000000
set_option maxRecDepth 10000
attribute [local irreducible] Go.Vc.WP
attribute [local go_sem] cx0_t cx0_c
open Go.Pl
attribute [local go_sem] isV_Symbol decSymbol_enc oneSymbol_enc imgA decI_enc decImage_enc spA
theorem getD_int {L : List Int} {k : Nat} (h : k < L.length) (d : Int) : L.getD k d = L[k] := by rw [List.getD_eq_getElem?_getD, List.getElem?_eq_getElem h]; rfl
theorem getD_img {L : List Image} {k : Nat} (h : k < L.length) (d : Image) : L.getD k d = L[k] := by rw [List.getD_eq_getElem?_getD, List.getElem?_eq_getElem h]; rfl
def preLoc (x : (List Image × List Int × List Int) × Int) : Prop := okImgs x.1.1 ∧ x.1.2.1.length = x.1.1.length ∧ (∀ b ∈ x.1.2.1, 0 ≤ b ∧ b ≤ 1000000000000)
def kLoc : Ctr := pur (fun args => (spA args 0, aI args 1)) (fun x => [.agg [.sl 2 (x.1.1.map encImage), .sl 1 (x.1.2.1.map encI), .sl 1 (x.1.2.2.map encI)], .v (.int .i64 x.2)]) preLoc
  (fun _ x => .tup [.v (.int .i64 (locI x.1.1 x.1.2.1 x.2)), .v (.int .i64 (if locI x.1.1 x.1.2.1 x.2 < 0 then -1 else x.2 - x.1.2.1.getD (locI x.1.1 x.1.2.1 x.2).toNat 0))]) (fun _ _ => [])
section
noncomputable def cxLcS : Cx := { P := Try.prog, tys := tys, C := [], hty := tysOk, hC := COk.nil _ }
theorem cxLcS_t : cxLcS.tys = tys := rfl
theorem cxLcS_c : cxLcS.C = [] := rfl
attribute [local go_sem] cxLcS_t cxLcS_c 
theorem cLocS : Cn Try.prog 140 kLoc := by
  refine Cn.pur Try.func140 (by kernel_rfl) rfl fun d x hx => ?_
  obtain ⟨⟨I, B, E⟩, a⟩ := x
  obtain ⟨⟨hI, hIm⟩, hl, hB⟩ := hx
  simp only at hI hIm hl hB ⊢
  refine Holds.go (c := cxLcS) Try.func140 rfl Try.results140 Try.ntmps140 (by omega) (by simp) rfl ?_
  intro X0 w0
  (repeat' (first | refine WP.seq ?_ | refine WP.block ?_ | ((first | refine WP.region ?_ | refine WP.condW ?_ | refine WP.ret ?_ | refine WP.exit ?_ | refine WP.skip ?_); simp only [go_sem, tyAll, Nat.reduceAdd, Nat.reduceLT, Nat.reduceLeDiff, Nat.reduceEqDiff, Nat.reduceMul, Nat.reduceSub, Nat.reduceGT, reduceIte, Int.reduceNeg, Int.reduceToNat]) | ((first | refine WP.drawW 24 (by decide +kernel) (by kernel_rfl) ?_ | refine WP.drawW 9 (by decide +kernel) (by kernel_rfl) ?_); simp only [go_sem, tyAll, Nat.reduceAdd, Nat.reduceLT, Nat.reduceLeDiff, Nat.reduceEqDiff, Nat.reduceMul, Nat.reduceSub, Nat.reduceGT, reduceIte, Int.reduceNeg, Int.reduceToNat]) |  refine And.intro ?_ ?_ | intro _))
  all_goals first | omega | skip
  refine WP.loop (fun k : Nat => ⟨[(1, .v (.int .i64 a)), (2, .ptr 2 0 0 0), (6, .v (.int .i64 k))], [(2, .box 83 [.sl 2 (I.map encImage), .sl 1 (B.map encI), .sl 1 (E.map encI)])]⟩)
    (fun k => k ≤ I.length ∧ ∀ i, i < I.length → i < k → inImg I B a i = false) (fun k => I.length - k) 0 (by simp) ?_ ?_
  · (simp only [go_sem, tyAll, Nat.reduceAdd, Nat.reduceLT, Nat.reduceLeDiff, Nat.reduceEqDiff, Nat.reduceMul, Nat.reduceSub, Nat.reduceGT, reduceIte, Int.reduceNeg, Int.reduceToNat] <;> (first | rfl | exact ⟨rfl, rfl⟩ | exact ⟨rfl, rfl, rfl⟩ | exact ⟨rfl, rfl, rfl, rfl⟩ | exact ⟨rfl, rfl, rfl, rfl, rfl⟩ | exact ⟨⟨rfl, rfl⟩, rfl⟩ | simp))
  intro k ⟨hk, hf⟩
  by_cases hlt : k < I.length
  · have hli : (k : Int) < I.length := by omega
    have hkb : k < B.length := by omega
    have hlb : (k : Int) < B.length := by omega
    have hr := rowAt_map encImage I k hlt
    have hrb := rowAt_map encI B k hkb
    have hbb := hB _ (List.getElem_mem hkb)
    have hcs := (hIm _ (List.getElem_mem hlt)).1
    simp only at hcs
    have hne : inImg I B a k = (decide (B[k] ≤ a) && decide (a < B[k] + (I[k].code.size : Int))) := by
      unfold inImg; rw [getD_int hkb, getD_img hlt]
    have hnx : inImg I B a k = false → ∀ i, i < I.length → i < k + 1 → inImg I B a i = false := fun hh i hi hik => by
      rcases Nat.lt_or_ge i k with h | h
      · exact hf i hi h
      · have : i = k := by omega
        subst this; exact hh
    by_cases h1 : B[k] ≤ a
    · by_cases h2 : a < B[k] + (I[k].code.size : Int)
      · have hh : inImg I B a k = true := by rw [hne, decide_eq_true h1, decide_eq_true h2]; rfl
        have hlo : locI I B a = k := by
          have := firstIdx_hit (p := inImg I B a) (L := List.range I.length) (k := k) (by simpa using hlt) (fun i hi hik => by rw [List.getElem_range]; exact hf i (by simpa using hi) hik) (by rw [List.getElem_range]; exact hh)
          exact this
        have hlo2 : (if locI I B a < 0 then -1 else a - B.getD (locI I B a).toNat 0) = a - B[k] := by
          rw [hlo, if_neg (by omega), Int.toNat_natCast, getD_int hkb]
        rw [hlo2, hlo]
        (repeat' (first | refine WP.seq ?_ | refine WP.block ?_ | ((first | refine WP.region ?_ | refine WP.condW ?_ | refine WP.ret ?_ | refine WP.exit ?_ | refine WP.skip ?_); simp only [go_sem, hli, hlb, hr, hrb, encImage, encI, h1, h2, tyAll, Nat.reduceAdd, Nat.reduceLT, Nat.reduceLeDiff, Nat.reduceEqDiff, Nat.reduceMul, Nat.reduceSub, Nat.reduceGT, reduceIte, Int.reduceNeg, Int.reduceToNat]) | ((first | refine WP.drawW 24 (by decide +kernel) (by kernel_rfl) ?_ | refine WP.drawW 9 (by decide +kernel) (by kernel_rfl) ?_); simp only [go_sem, hli, hlb, hr, hrb, encImage, encI, h1, h2, tyAll, Nat.reduceAdd, Nat.reduceLT, Nat.reduceLeDiff, Nat.reduceEqDiff, Nat.reduceMul, Nat.reduceSub, Nat.reduceGT, reduceIte, Int.reduceNeg, Int.reduceToNat]) |  refine And.intro ?_ ?_ | intro _))
        all_goals first | omega | skip
        all_goals trace_state
      · have hh : inImg I B a k = false := by rw [hne, decide_eq_false h2, Bool.and_false]
        have := hnx hh
        (repeat' (first | refine WP.seq ?_ | refine WP.block ?_ | ((first | refine WP.region ?_ | refine WP.condW ?_ | refine WP.ret ?_ | refine WP.exit ?_ | refine WP.skip ?_); simp only [go_sem, hli, hlb, hr, hrb, encImage, encI, h1, h2, tyAll, Nat.reduceAdd, Nat.reduceLT, Nat.reduceLeDiff, Nat.reduceEqDiff, Nat.reduceMul, Nat.reduceSub, Nat.reduceGT, reduceIte, Int.reduceNeg, Int.reduceToNat]) | ((first | refine WP.drawW 24 (by decide +kernel) (by kernel_rfl) ?_ | refine WP.drawW 9 (by decide +kernel) (by kernel_rfl) ?_); simp only [go_sem, hli, hlb, hr, hrb, encImage, encI, h1, h2, tyAll, Nat.reduceAdd, Nat.reduceLT, Nat.reduceLeDiff, Nat.reduceEqDiff, Nat.reduceMul, Nat.reduceSub, Nat.reduceGT, reduceIte, Int.reduceNeg, Int.reduceToNat]) |  refine And.intro ?_ ?_ | intro _))
        all_goals first | omega | exact ⟨k + 1, ⟨by omega, this⟩, by omega, by (first | rfl | exact ⟨rfl, rfl⟩ | exact ⟨rfl, rfl, rfl⟩ | exact ⟨rfl, rfl, rfl, rfl⟩ | exact ⟨rfl, rfl, rfl, rfl, rfl⟩ | exact ⟨⟨rfl, rfl⟩, rfl⟩ | simp)⟩ | skip
        all_goals trace_state
    · have hh : inImg I B a k = false := by rw [hne, decide_eq_false h1, Bool.false_and]
      have := hnx hh
      (repeat' (first | refine WP.seq ?_ | refine WP.block ?_ | ((first | refine WP.region ?_ | refine WP.condW ?_ | refine WP.ret ?_ | refine WP.exit ?_ | refine WP.skip ?_); simp only [go_sem, hli, hlb, hr, hrb, encImage, encI, h1, tyAll, Nat.reduceAdd, Nat.reduceLT, Nat.reduceLeDiff, Nat.reduceEqDiff, Nat.reduceMul, Nat.reduceSub, Nat.reduceGT, reduceIte, Int.reduceNeg, Int.reduceToNat]) | ((first | refine WP.drawW 24 (by decide +kernel) (by kernel_rfl) ?_ | refine WP.drawW 9 (by decide +kernel) (by kernel_rfl) ?_); simp only [go_sem, hli, hlb, hr, hrb, encImage, encI, h1, tyAll, Nat.reduceAdd, Nat.reduceLT, Nat.reduceLeDiff, Nat.reduceEqDiff, Nat.reduceMul, Nat.reduceSub, Nat.reduceGT, reduceIte, Int.reduceNeg, Int.reduceToNat]) |  refine And.intro ?_ ?_ | intro _))
      all_goals first | omega | exact ⟨k + 1, ⟨by omega, this⟩, by omega, by (first | rfl | exact ⟨rfl, rfl⟩ | exact ⟨rfl, rfl, rfl⟩ | exact ⟨rfl, rfl, rfl, rfl⟩ | exact ⟨rfl, rfl, rfl, rfl, rfl⟩ | exact ⟨⟨rfl, rfl⟩, rfl⟩ | simp)⟩ | skip
      all_goals trace_state
  · have hge : ¬ (k : Int) < I.length := by omega
    have hlo : locI I B a = -1 := firstIdx_none fun i hi => by
      rw [List.getElem_range]
      exact hf i (by simpa using hi) (by have : i < I.length := by simpa using hi
                                         omega)
    rw [hlo, if_pos (by omega)]
    (repeat' (first | refine WP.seq ?_ | refine WP.block ?_ | ((first | refine WP.region ?_ | refine WP.condW ?_ | refine WP.ret ?_ | refine WP.exit ?_ | refine WP.skip ?_); simp only [go_sem, hge, tyAll, Nat.reduceAdd, Nat.reduceLT, Nat.reduceLeDiff, Nat.reduceEqDiff, Nat.reduceMul, Nat.reduceSub, Nat.reduceGT, reduceIte, Int.reduceNeg, Int.reduceToNat]) | ((first | refine WP.drawW 24 (by decide +kernel) (by kernel_rfl) ?_ | refine WP.drawW 9 (by decide +kernel) (by kernel_rfl) ?_); simp only [go_sem, hge, tyAll, Nat.reduceAdd, Nat.reduceLT, Nat.reduceLeDiff, Nat.reduceEqDiff, Nat.reduceMul, Nat.reduceSub, Nat.reduceGT, reduceIte, Int.reduceNeg, Int.reduceToNat]) |  refine And.intro ?_ ?_ | intro _))
    all_goals first | omega | skip
    all_goals trace_state
end
def preEnt (x : (List Image × List Int × List Int) × Int) : Prop := okImgs x.1.1 ∧ x.1.2.1.length = x.1.1.length ∧ (∀ b ∈ x.1.2.1, 0 ≤ b ∧ b ≤ 1000000000000) ∧ ∀ i ∈ x.1.1, ∀ y ∈ i.symbols, 0 ≤ y.start ∧ y.start ≤ 1000000000000
def kEntr : Ctr := pur (fun args => (spA args 0, aI args 1)) (fun x => [.agg [.sl 2 (x.1.1.map encImage), .sl 1 (x.1.2.1.map encI), .sl 1 (x.1.2.2.map encI)], .v (.int .i64 x.2)]) preEnt (fun _ x => .v (.bool (isEnt x.1.1 x.1.2.1 x.2))) (fun _ _ => [])
theorem isEnt_t {I : List Image} {B : List Int} {e : Int} {k j : Nat} (hk : k < I.length) (hkb : k < B.length) (hj : j < I[k].symbols.length) (h : B[k] + I[k].symbols[j].start = e) : isEnt I B e = true := by
  unfold isEnt
  rw [List.any_eq_true]
  refine ⟨k, List.mem_range.2 hk, ?_⟩
  unfold hitS
  rw [getD_int hkb, getD_img hk, List.any_eq_true]
  exact ⟨_, List.getElem_mem hj, by rw [decide_eq_true_eq]; exact h⟩
theorem isEnt_f {I : List Image} {B : List Int} {e : Int} (hl : B.length = I.length) (h : ∀ k (hk : k < I.length) (hb : k < B.length), ∀ j (hj : j < I[k].symbols.length), B[k] + I[k].symbols[j].start ≠ e) : isEnt I B e = false := by
  unfold isEnt
  rw [List.any_eq_false]
  intro k hk
  have hk := List.mem_range.1 hk
  unfold hitS
  rw [getD_int (by omega), getD_img hk, Bool.not_eq_true, List.any_eq_false]
  intro y hy
  obtain ⟨j, hj, rfl⟩ := List.mem_iff_getElem.1 hy
  rw [Bool.not_eq_true]
  exact decide_eq_false (h k hk (by omega) j hj)
section
noncomputable def cxIeI : Cx := { P := Try.prog, tys := tys, C := [], hty := tysOk, hC := COk.nil _ }
theorem cxIeI_t : cxIeI.tys = tys := rfl
theorem cxIeI_c : cxIeI.C = [] := rfl
attribute [local go_sem] cxIeI_t cxIeI_c 
theorem cEntrI : Cn Try.prog 145 kEntr := by
  refine Cn.pur Try.func145 (by kernel_rfl) rfl fun d x hx => ?_
  obtain ⟨⟨I, B, E⟩, a⟩ := x
  obtain ⟨⟨hI, hIm⟩, hl, hB, hst⟩ := hx
  simp only at hI hIm hl hB hst ⊢
  refine Holds.go (c := cxIeI) Try.func145 rfl Try.results145 Try.ntmps145 (by omega) (by simp) rfl ?_
  intro X0 w0
  (repeat' (first | refine WP.seq ?_ | refine WP.block ?_ | ((first | refine WP.region ?_ | refine WP.condW ?_ | refine WP.ret ?_ | refine WP.exit ?_ | refine WP.skip ?_); simp only [go_sem, tyAll, Nat.reduceAdd, Nat.reduceLT, Nat.reduceLeDiff, Nat.reduceEqDiff, Nat.reduceMul, Nat.reduceSub, Nat.reduceGT, reduceIte, Int.reduceNeg, Int.reduceToNat]) | ((first | refine WP.drawW 10 (by decide +kernel) (by kernel_rfl) ?_); simp only [go_sem, tyAll, Nat.reduceAdd, Nat.reduceLT, Nat.reduceLeDiff, Nat.reduceEqDiff, Nat.reduceMul, Nat.reduceSub, Nat.reduceGT, reduceIte, Int.reduceNeg, Int.reduceToNat]) |  refine And.intro ?_ ?_ | intro _))
  all_goals first | omega | skip
  refine WP.loop (fun k : Nat => ⟨[(1, .v (.int .i64 a)), (2, .ptr 2 0 0 0), (10, .sl 2 (I.map encImage)), (11, .v (.int .i64 I.length)), (12, .v (.int .i64 k))], [(2, .box 83 [.sl 2 (I.map encImage), .sl 1 (B.map encI), .sl 1 (E.map encI)])]⟩)
    (fun k => k ≤ I.length ∧ ∀ i (hi : i < I.length) (hb : i < B.length), i < k → ∀ j (hj : j < I[i].symbols.length), B[i] + I[i].symbols[j].start ≠ a) (fun k => I.length - k) 0 (by simp) ?_ ?_
  · (simp only [go_sem, tyAll, Nat.reduceAdd, Nat.reduceLT, Nat.reduceLeDiff, Nat.reduceEqDiff, Nat.reduceMul, Nat.reduceSub, Nat.reduceGT, reduceIte, Int.reduceNeg, Int.reduceToNat] <;> (first | rfl | exact ⟨rfl, rfl⟩ | exact ⟨rfl, rfl, rfl⟩ | exact ⟨rfl, rfl, rfl, rfl⟩ | exact ⟨rfl, rfl, rfl, rfl, rfl⟩ | exact ⟨⟨rfl, rfl⟩, rfl⟩ | simp))
  intro k ⟨hk, hf⟩
  by_cases hlt : k < I.length
  rotate_left
  · have hge : ¬ (k : Int) < I.length := by omega
    rw [isEnt_f hl fun i hi hb j hj => hf i hi hb (by omega) j hj]
    (repeat' (first | refine WP.seq ?_ | refine WP.block ?_ | ((first | refine WP.region ?_ | refine WP.condW ?_ | refine WP.ret ?_ | refine WP.exit ?_ | refine WP.skip ?_); simp only [go_sem, hge, tyAll, Nat.reduceAdd, Nat.reduceLT, Nat.reduceLeDiff, Nat.reduceEqDiff, Nat.reduceMul, Nat.reduceSub, Nat.reduceGT, reduceIte, Int.reduceNeg, Int.reduceToNat]) | ((first | refine WP.drawW 10 (by decide +kernel) (by kernel_rfl) ?_); simp only [go_sem, hge, tyAll, Nat.reduceAdd, Nat.reduceLT, Nat.reduceLeDiff, Nat.reduceEqDiff, Nat.reduceMul, Nat.reduceSub, Nat.reduceGT, reduceIte, Int.reduceNeg, Int.reduceToNat]) |  refine And.intro ?_ ?_ | intro _))
    all_goals first | omega | skip
    all_goals trace_state
  have hli : (k : Int) < I.length := by omega
  have hkb : k < B.length := by omega
  have hlb : (k : Int) < B.length := by omega
  have hr := rowAt_map encImage I k hlt
  have hrb := rowAt_map encI B k hkb
  have hbb := hB _ (List.getElem_mem hkb)
  have hys := (hIm _ (List.getElem_mem hlt)).2.1
  have hyst := hst _ (List.getElem_mem hlt)
  have hent := fun j hj => isEnt_t (e := a) hlt hkb (j := j) hj
  simp only at hys
  generalize hY : I[k].symbols = Y at *
  generalize hc : I[k].code = c at *
  (repeat' (first | refine WP.seq ?_ | refine WP.block ?_ | ((first | refine WP.region ?_ | refine WP.condW ?_ | refine WP.ret ?_ | refine WP.exit ?_ | refine WP.skip ?_); simp only [go_sem, hli, hr, encImage, hY, hc, tyAll, Nat.reduceAdd, Nat.reduceLT, Nat.reduceLeDiff, Nat.reduceEqDiff, Nat.reduceMul, Nat.reduceSub, Nat.reduceGT, reduceIte, Int.reduceNeg, Int.reduceToNat]) | ((first | refine WP.drawW 10 (by decide +kernel) (by kernel_rfl) ?_); simp only [go_sem, hli, hr, encImage, hY, hc, tyAll, Nat.reduceAdd, Nat.reduceLT, Nat.reduceLeDiff, Nat.reduceEqDiff, Nat.reduceMul, Nat.reduceSub, Nat.reduceGT, reduceIte, Int.reduceNeg, Int.reduceToNat]) |  refine And.intro ?_ ?_ | intro _))
  all_goals first | omega | skip
  refine WP.loop (fun j : Nat => ⟨[(1, .v (.int .i64 a)), (2, .ptr 2 0 0 0), (5, .v (.int .i64 k)), (10, .sl 2 (I.map encImage)), (11, .v (.int .i64 I.length)), (12, .v (.int .i64 k)), (18, .sl 3 (Y.map encSymbol)), (19, .v (.int .i64 Y.length)), (20, .v (.int .i64 j))], [(2, .box 83 [.sl 2 (I.map encImage), .sl 1 (B.map encI), .sl 1 (E.map encI)])]⟩)
    (fun j => j ≤ Y.length ∧ ∀ i (hi : i < Y.length), i < j → B[k] + Y[i].start ≠ a) (fun j => Y.length - j) 0 (by simp) ?_ ?_
  · (simp only [go_sem, tyAll, Nat.reduceAdd, Nat.reduceLT, Nat.reduceLeDiff, Nat.reduceEqDiff, Nat.reduceMul, Nat.reduceSub, Nat.reduceGT, reduceIte, Int.reduceNeg, Int.reduceToNat] <;> (first | rfl | exact ⟨rfl, rfl⟩ | exact ⟨rfl, rfl, rfl⟩ | exact ⟨rfl, rfl, rfl, rfl⟩ | exact ⟨rfl, rfl, rfl, rfl, rfl⟩ | exact ⟨⟨rfl, rfl⟩, rfl⟩ | simp))
  intro j ⟨hj, hg⟩
  by_cases hjl : j < Y.length
  · have hji : (j : Int) < Y.length := by omega
    have hry := rowAt_map encSymbol Y j hjl
    have hsb := hyst _ (List.getElem_mem hjl)
    by_cases he : B[k] + Y[j].start = a
    · rw [hent j hjl he]
      (repeat' (first | refine WP.seq ?_ | refine WP.block ?_ | ((first | refine WP.region ?_ | refine WP.condW ?_ | refine WP.ret ?_ | refine WP.exit ?_ | refine WP.skip ?_); simp only [go_sem, hji, hry, encSymbol, hlb, hrb, encI, he, tyAll, Nat.reduceAdd, Nat.reduceLT, Nat.reduceLeDiff, Nat.reduceEqDiff, Nat.reduceMul, Nat.reduceSub, Nat.reduceGT, reduceIte, Int.reduceNeg, Int.reduceToNat]) | ((first | refine WP.drawW 10 (by decide +kernel) (by kernel_rfl) ?_); simp only [go_sem, hji, hry, encSymbol, hlb, hrb, encI, he, tyAll, Nat.reduceAdd, Nat.reduceLT, Nat.reduceLeDiff, Nat.reduceEqDiff, Nat.reduceMul, Nat.reduceSub, Nat.reduceGT, reduceIte, Int.reduceNeg, Int.reduceToNat]) |  refine And.intro ?_ ?_ | intro _))
      all_goals first | omega | skip
      all_goals trace_state
    · (repeat' (first | refine WP.seq ?_ | refine WP.block ?_ | ((first | refine WP.region ?_ | refine WP.condW ?_ | refine WP.ret ?_ | refine WP.exit ?_ | refine WP.skip ?_); simp only [go_sem, hji, hry, encSymbol, hlb, hrb, encI, he, tyAll, Nat.reduceAdd, Nat.reduceLT, Nat.reduceLeDiff, Nat.reduceEqDiff, Nat.reduceMul, Nat.reduceSub, Nat.reduceGT, reduceIte, Int.reduceNeg, Int.reduceToNat]) | ((first | refine WP.drawW 10 (by decide +kernel) (by kernel_rfl) ?_); simp only [go_sem, hji, hry, encSymbol, hlb, hrb, encI, he, tyAll, Nat.reduceAdd, Nat.reduceLT, Nat.reduceLeDiff, Nat.reduceEqDiff, Nat.reduceMul, Nat.reduceSub, Nat.reduceGT, reduceIte, Int.reduceNeg, Int.reduceToNat]) |  refine And.intro ?_ ?_ | intro _))
      all_goals first | omega | exact ⟨j + 1, ⟨by omega, fun i hi hij => by
        rcases Nat.lt_or_ge i j with h | h
        · exact hg i hi h
        · have : i = j := by omega
          subst this; exact he⟩, by omega, by (first | rfl | exact ⟨rfl, rfl⟩ | exact ⟨rfl, rfl, rfl⟩ | exact ⟨rfl, rfl, rfl, rfl⟩ | exact ⟨rfl, rfl, rfl, rfl, rfl⟩ | exact ⟨⟨rfl, rfl⟩, rfl⟩ | simp)⟩ | skip
      all_goals trace_state
  · have hji : ¬ (j : Int) < Y.length := by omega
    (repeat' (first | refine WP.seq ?_ | refine WP.block ?_ | ((first | refine WP.region ?_ | refine WP.condW ?_ | refine WP.ret ?_ | refine WP.exit ?_ | refine WP.skip ?_); simp only [go_sem, hji, tyAll, Nat.reduceAdd, Nat.reduceLT, Nat.reduceLeDiff, Nat.reduceEqDiff, Nat.reduceMul, Nat.reduceSub, Nat.reduceGT, reduceIte, Int.reduceNeg, Int.reduceToNat]) | ((first | refine WP.drawW 10 (by decide +kernel) (by kernel_rfl) ?_); simp only [go_sem, hji, tyAll, Nat.reduceAdd, Nat.reduceLT, Nat.reduceLeDiff, Nat.reduceEqDiff, Nat.reduceMul, Nat.reduceSub, Nat.reduceGT, reduceIte, Int.reduceNeg, Int.reduceToNat]) |  refine And.intro ?_ ?_ | intro _))
    all_goals first | omega | exact ⟨k + 1, ⟨by omega, fun i hi hb hik j2 hj2 => by
        rcases Nat.lt_or_ge i k with h | h
        · exact hf i hi hb h j2 hj2
        · have : i = k := by omega
          subst this
          simp only [hY] at hj2 ⊢
          exact hg j2 hj2 (by omega)⟩, by omega, by (first | rfl | exact ⟨rfl, rfl⟩ | exact ⟨rfl, rfl, rfl⟩ | exact ⟨rfl, rfl, rfl, rfl⟩ | exact ⟨rfl, rfl, rfl, rfl, rfl⟩ | exact ⟨⟨rfl, rfl⟩, rfl⟩ | simp)⟩ | skip
    all_goals trace_state
end
end
end Go.Proofs.Ytdbjioanlkilkaa
