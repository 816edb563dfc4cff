/-
  DERIVED. The struct Tok: its cells, and what the law's helpers do with it. Printed by program (fam.py).
-/
import Derived.Test.YtdbjioanlkilkaaVtMk
import Derived.Test.YtdbjioanlkilkaaVcR
namespace Go.Proofs.Ytdbjioanlkilkaa
open Go.Vc
set_option linter.unusedSimpArgs false
set_option linter.unusedVariables false
set_option maxHeartbeats 1000000
attribute [local go_sem] St.runR St.runW St.stepV offV St.step St.stepU St.stepG mkCond guardB St.prK St.pr St.prLen St.eff St.callE St.callD St.callF St.callL aI aB aS aR aC St.isM St.argL Ctr.pure Ctr.lend Ctr.move Ctr.isL Ctr.wri pur len lentBy St.lentV St.lent1 nthS argsR restOf obsR pairs swapL unObs backL St.resL erL SV.ren1 SV.up SV.up2 Ob.up St.fzL cellIds partIds St.intoRow SV.ownId St.fz SV.fz1 St.prep St.mvL St.mv SV.re1 rnOk St.prEq vals eqCells scEq Value.kd St.prStr St.prCut cutR St.bnd St.prMin St.bld isShift outL retL outJ oR oC oE oD SV.upq SV.isSl SV.shut St.ev St.get St.put St.new St.kill SV.kill SV.kill1 Ob.kill St.app St.wrt St.rowsOf St.res St.killL lk er argsL SV.strip SV.need SV.share SV.share1 SV.owns SV.owns1 SV.owns2 SV.good SV.good1 SV.rok SV.rok1 SV.rok2 SV.isV SV.isV2 nodupN SV.cells SV.one SV.pur Ob.pb partsIn rowsIn splice cellsAt dstOk scal2 scal1 thenK blockK retK outK outs okC okL okA okT nilC nilL nilA nilT keepC keepL keepA keepT St.runG St.dltK St.least St.clean St.final St.hide offK badS badO SV.refs SV.leaf SV.leaf2 Ob.refs dlOk fpAt Go.Vc.cover tups SV.ofAgg St.out outC subL St.has rng wr Value.oneCell' Option.isSome_some Option.isSome_none List.nil_append Bool.false_eq_true List.map_cons List.map_nil List.all_cons List.all_nil List.length_cons List.length_nil List.drop_zero List.drop_succ_cons List.take_succ_cons List.take_zero List.drop_nil List.take_nil List.getElem?_cons_zero List.getElem?_cons_succ List.getElem?_nil List.cons_append List.nil_append List.append_nil List.append_assoc List.flatMap_cons List.flatMap_nil List.contains_cons List.contains_nil List.set_cons_zero List.set_cons_succ List.getElem?_toArray Option.getD_some Option.getD_none Option.map_some Option.map_none Option.bind_some Option.some.injEq Prod.mk.injEq if_true if_false true_and and_true and_self and_false false_and Bool.and_false Bool.false_and Bool.or_true Bool.true_or Bool.or_false Bool.false_or ne_eq not_true_eq_false not_false_eq_true decide_true decide_false List.mem_cons List.not_mem_nil List.filter_cons List.filter_nil List.any_cons List.any_nil List.isEmpty_nil List.isEmpty_cons Option.getD_none or_false false_or true_or or_true forall_eq_or_imp forall_eq reduceCtorEq exists_eq exists_eq' exists_eq_left' exists_eq_left exists_eq_right exists_eq_right' imp_self implies_true Bool.and_true Bool.true_and Bool.and_self beq_self_eq_true List.replicate_succ List.replicate_zero forall_const false_implies pickB_or pickB_and beqT beqF Int.toNat_natCast List.length_map List.length_replicate ge_iff_le gt_iff_lt decide_eq_true_eq decide_eq_false_iff_not Bool.and_eq_true Bool.or_eq_true Bool.not_eq_true' Bool.not_eq_false' condG List.toList_toArray Bool.or_eq_false_iff Bool.and_eq_false_iff Int.not_lt Int.not_le beq_iff_eq beq_eq_false_iff_ne bne_iff_ne bne_eq_false_iff_eq ne_eq Bool.not_true Bool.not_false exists_and_left
attribute [local irreducible] Go.Vc.WP
attribute [local go_sem] cx0_t cx0_c

structure Tok where
  kind : Int
  num : Int
  name : ByteArray
deriving DecidableEq
def encTok (x : Tok) : List SV := [.v (.int .i64 x.kind), .v (.int .i64 x.num), .v (.string x.name)]
def oneTok : List SV → Tok
  | [.v (.int _ kind), .v (.int _ num), .v (.string name)] => ⟨kind, num, name⟩
  | _ => ⟨0, 0, ⟨#[]⟩⟩
def decTok (rows : List (List SV)) : List Tok := rows.map oneTok
theorem oneTok_enc (x : Tok) : oneTok (encTok x) = x := rfl
theorem decTok_enc (L : List Tok) : decTok (L.map encTok) = L := by
  unfold decTok
  rw [List.map_map]
  exact List.map_id'' oneTok_enc L
theorem isV_Tok {e s : Nat} (L : List Tok) : (Ob.sl e s (L.map encTok)).isV ↔ True := iff_true_intro (by
  intro row hr c hc
  obtain ⟨n, _, rfl⟩ := List.mem_map.1 hr
  simp only [encTok, List.mem_cons, List.not_mem_nil, or_false] at hc
  rcases hc with rfl | rfl | rfl <;> exact ⟨_, rfl⟩)
def zerTok : List SV := [.v (.int .i64 0), .v (.int .i64 0), .v (.string ⟨#[]⟩)]

def ktoTok : Ctr := pur (fun args => oneTok (aC args 0)) (fun x => [.agg (encTok x)]) (fun _ => True) (fun _ x => .agg (encTok x)) (fun _ _ => [])
theorem ctoTok : Cn Try.prog 120 ktoTok := by
  refine Cn.pur Try.func120 (by kernel_rfl) rfl fun d x _ => ?_
  refine Holds.go (c := cx0) Try.func120 rfl Try.results120 Try.ntmps120 (by omega) (by simp) rfl ?_
  intro X0 w0
  unfold encTok
  (repeat' (first | refine WP.seq ?_ | refine WP.block ?_ | ((first | refine WP.region ?_ | refine WP.condW ?_ | refine WP.ret ?_ | refine WP.exit ?_ | refine WP.skip ?_); simp only [go_sem, tyAll, Nat.reduceAdd, Nat.reduceLT, Nat.reduceLeDiff, Nat.reduceEqDiff, Nat.reduceMul, Nat.reduceSub, Nat.reduceGT, reduceIte, Int.reduceNeg, Int.reduceToNat]) |  refine And.intro ?_ ?_ | intro _))
  all_goals first | omega | exact ⟨_, _, rfl, _, _, rfl, rfl⟩ | skip

noncomputable def cxtoTok : Cx := { P := Try.prog, tys := tys, C := [(120, ktoTok)], hty := tysOk, hC := COk.cons ctoTok (COk.nil _) }
theorem cxtoTok_t : cxtoTok.tys = tys := rfl
theorem cxtoTok_c : cxtoTok.C = [(120, ktoTok)] := rfl
def ktoTokS : Ctr := pur (fun args => decTok (aR args 0)) (fun L => [.sl 3 (L.map encTok)]) (fun L => L.length ≤ 2097152) (fun d _ => .own d) (fun d L => [(d, .sl 149 3 (L.map encTok))])
section
attribute [local go_sem] cxtoTok_t cxtoTok_c ktoTok oneTok
theorem ctoTokS : Cn Try.prog 85 ktoTokS := by
  refine Cn.pur Try.func85 (by kernel_rfl) rfl fun d L hL => ?_
  refine Holds.go (c := cxtoTok) Try.func85 rfl Try.results85 Try.ntmps85 (by omega) (by simp) rfl ?_
  intro X0 w0
  (repeat' (first | refine WP.seq ?_ | refine WP.block ?_ | ((first | refine WP.region ?_ | refine WP.condW ?_ | refine WP.ret ?_ | refine WP.exit ?_ | refine WP.skip ?_); simp only [go_sem, tyAll, Nat.reduceAdd, Nat.reduceLT, Nat.reduceLeDiff, Nat.reduceEqDiff, Nat.reduceMul, Nat.reduceSub, Nat.reduceGT, reduceIte, Int.reduceNeg, Int.reduceToNat]) |  refine And.intro ?_ ?_ | intro _))
  all_goals first | omega | skip
  refine WP.loop (fun k : Nat => ⟨[(0, .sl 3 (L.map encTok)), (3, .own 7), (4, .v (.int .i64 k))], [(7, .sl 149 3 (filled encTok zerTok L k))]⟩) (fun k => k ≤ L.length) (fun k => L.length - k) 0 (by omega) ?_ ?_
  · rw [filled_zero]; simp only [go_sem, tyAll, Nat.reduceAdd, Nat.reduceLT, Nat.reduceLeDiff, Nat.reduceEqDiff, Nat.reduceMul, Nat.reduceSub, Nat.reduceGT, reduceIte, Int.reduceNeg, Int.reduceToNat]; first | exact ⟨rfl, rfl⟩ | rfl
  intro k hk
  by_cases hlt : k < L.length
  · have h1 := rowAt_map encTok L k hlt
    have h2 := filled_len encTok zerTok L k hk
    have h3 : Go.Vc.rowAt (filled encTok zerTok L k) k = [.v (.int .i64 0), .v (.int .i64 0), .v (.string ⟨#[]⟩)] := filled_row encTok zerTok L k hlt
    have h4 := filled_set encTok zerTok L k hlt
    rw [encTok] at h4
    (repeat' (first | refine WP.seq ?_ | refine WP.block ?_ | ((first | refine WP.region ?_ | refine WP.condW ?_ | refine WP.ret ?_ | refine WP.exit ?_ | refine WP.skip ?_); simp only [go_sem, h1, h2, h3, h4, encTok, tyAll, Nat.reduceAdd, Nat.reduceLT, Nat.reduceLeDiff, Nat.reduceEqDiff, Nat.reduceMul, Nat.reduceSub, Nat.reduceGT, reduceIte, Int.reduceNeg, Int.reduceToNat]) |  refine And.intro ?_ ?_ | intro _))
    all_goals first | omega | skip
    exact ⟨k + 1, by omega, by omega, rfl, rfl⟩
  · have h2 := filled_len encTok zerTok L k hk
    have h5 : filled encTok zerTok L k = L.map encTok := by rw [show k = L.length by omega]; exact filled_all _ _ _
    (repeat' (first | refine WP.seq ?_ | refine WP.block ?_ | ((first | refine WP.region ?_ | refine WP.condW ?_ | refine WP.ret ?_ | refine WP.exit ?_ | refine WP.skip ?_); simp only [go_sem, h2, h5, tyAll, Nat.reduceAdd, Nat.reduceLT, Nat.reduceLeDiff, Nat.reduceEqDiff, Nat.reduceMul, Nat.reduceSub, Nat.reduceGT, reduceIte, Int.reduceNeg, Int.reduceToNat]) |  refine And.intro ?_ ?_ | intro _))
    all_goals first | omega | skip
end

def keqTok : Ctr := pur (fun args => (oneTok (aC args 0), oneTok (aC args 1))) (fun x => [.agg (encTok x.1), .agg (encTok x.2)]) (fun _ => True) (fun _ x => .v (.bool (decide (x.1 = x.2)))) (fun _ _ => [])
theorem ceqTok : Cn Try.prog 121 keqTok := by
  refine Cn.pur Try.func121 (by kernel_rfl) rfl fun d x _ => ?_
  obtain ⟨⟨a0, a1, a2⟩, ⟨b0, b1, b2⟩⟩ := x
  refine Holds.go (c := cx0) Try.func121 rfl Try.results121 Try.ntmps121 (by omega) (by simp) rfl ?_
  intro X0 w0
  simp only [encTok]
  (repeat' (first | refine WP.seq ?_ | refine WP.block ?_ | ((first | refine WP.region ?_ | refine WP.condW ?_ | refine WP.ret ?_ | refine WP.exit ?_ | refine WP.skip ?_); simp only [go_sem, tyAll, Nat.reduceAdd, Nat.reduceLT, Nat.reduceLeDiff, Nat.reduceEqDiff, Nat.reduceMul, Nat.reduceSub, Nat.reduceGT, reduceIte, Int.reduceNeg, Int.reduceToNat]) |  refine And.intro ?_ ?_ | intro _))
  all_goals simp_all

noncomputable def cxeqTok : Cx := { P := Try.prog, tys := tys, C := [(121, keqTok)], hty := tysOk, hC := COk.cons ceqTok (COk.nil _) }
theorem cxeqTok_t : cxeqTok.tys = tys := rfl
theorem cxeqTok_c : cxeqTok.C = [(121, keqTok)] := rfl
def keqTokS : Ctr := pur (fun args => (decTok (aR args 0), decTok (aR args 1))) (fun x => [.sl 3 (x.1.map encTok), .sl 3 (x.2.map encTok)]) (fun x => x.1.length ≤ 4398046511104) (fun _ x => .v (.bool (decide (x.1 = x.2)))) (fun _ _ => [])
section
attribute [local go_sem] cxeqTok_t cxeqTok_c keqTok oneTok
theorem ceqTokS : Cn Try.prog 87 keqTokS := by
  refine Cn.pur Try.func87 (by kernel_rfl) rfl fun d x hL => ?_
  obtain ⟨L, M⟩ := x
  simp only at hL ⊢
  refine Holds.go (c := cxeqTok) Try.func87 rfl Try.results87 Try.ntmps87 (by omega) (by simp) rfl ?_
  intro X0 w0
  (repeat' (first | refine WP.seq ?_ | refine WP.block ?_ | ((first | refine WP.region ?_ | refine WP.condW ?_ | refine WP.ret ?_ | refine WP.exit ?_ | refine WP.skip ?_); simp only [go_sem, tyAll, Nat.reduceAdd, Nat.reduceLT, Nat.reduceLeDiff, Nat.reduceEqDiff, Nat.reduceMul, Nat.reduceSub, Nat.reduceGT, reduceIte, Int.reduceNeg, Int.reduceToNat]) |  refine And.intro ?_ ?_ | intro _))
  · simp; intro h; subst h; simp_all
  have hlen : L.length = M.length := by omega
  refine WP.loop (fun k : Nat => ⟨[(0, .sl 3 (L.map encTok)), (1, .sl 3 (M.map encTok)), (5, .v (.int .i64 k))], []⟩) (fun k => k ≤ L.length ∧ L.take k = M.take k) (fun k => L.length - k) 0 (by simp) ?_ ?_
  · simp only [go_sem, tyAll, Nat.reduceAdd, Nat.reduceLT, Nat.reduceLeDiff, Nat.reduceEqDiff, Nat.reduceMul, Nat.reduceSub, Nat.reduceGT, reduceIte, Int.reduceNeg, Int.reduceToNat]; rfl
  intro k ⟨hk, ht⟩
  by_cases hlt : k < L.length
  · have h1 := rowAt_map encTok L k hlt
    have h2 := rowAt_map encTok M k (by omega)
    (repeat' (first | refine WP.seq ?_ | refine WP.block ?_ | ((first | refine WP.region ?_ | refine WP.condW ?_ | refine WP.ret ?_ | refine WP.exit ?_ | refine WP.skip ?_); simp only [go_sem, h1, h2, encTok, tyAll, Nat.reduceAdd, Nat.reduceLT, Nat.reduceLeDiff, Nat.reduceEqDiff, Nat.reduceMul, Nat.reduceSub, Nat.reduceGT, reduceIte, Int.reduceNeg, Int.reduceToNat]) | (refine WP.drawW 10 (by kernel_rfl) (by kernel_rfl) ?_; simp only [go_sem, h1, h2, encTok, tyAll, Nat.reduceAdd, Nat.reduceLT, Nat.reduceLeDiff, Nat.reduceEqDiff, Nat.reduceMul, Nat.reduceSub, Nat.reduceGT, reduceIte, Int.reduceNeg, Int.reduceToNat]) |  refine And.intro ?_ ?_ | intro _))
    all_goals first | omega | skip
    · rename_i hne
      rw [show decide (L = M) = false from decide_eq_false fun e => by subst e; exact hne rfl]
    · rename_i he
      refine ⟨k + 1, ⟨by omega, ?_⟩, by omega, rfl⟩
      have he' : L[k] = M[k] := he
      rw [List.take_succ_eq_append_getElem hlt, List.take_succ_eq_append_getElem (by omega : k < M.length), ht, he']
  · (repeat' (first | refine WP.seq ?_ | refine WP.block ?_ | ((first | refine WP.region ?_ | refine WP.condW ?_ | refine WP.ret ?_ | refine WP.exit ?_ | refine WP.skip ?_); simp only [go_sem, tyAll, Nat.reduceAdd, Nat.reduceLT, Nat.reduceLeDiff, Nat.reduceEqDiff, Nat.reduceMul, Nat.reduceSub, Nat.reduceGT, reduceIte, Int.reduceNeg, Int.reduceToNat]) |  refine And.intro ?_ ?_ | intro _))
    all_goals first | omega | skip
    rw [show decide (L = M) = true from decide_eq_true ?_]
    rw [show k = L.length by omega, List.take_length, hlen, List.take_length] at ht
    exact ht
end

def kszTok : Ctr := pur (fun args => (oneTok (aC args 0), aI args 1)) (fun x => [.agg (encTok x.1), .v (.int .i64 x.2)]) (fun x => x.1.name.size ≤ maxLen ∧ 0 ≤ x.2 ∧ x.2 ≤ 1048576)
  (fun _ x => .v (.int .i64 (if x.2 - x.1.name.size < 0 then -1 else x.2 - x.1.name.size))) (fun _ _ => [])
theorem cszTok : Cn Try.prog 119 kszTok := by
  refine Cn.pur Try.func119 (by kernel_rfl) rfl fun d x h => ?_
  obtain ⟨x, left⟩ := x
  obtain ⟨hL, h0, h1⟩ := h
  simp only at hL h0 h1 ⊢
  have hm : maxLen = 9223372036854775807 := rfl
  refine Holds.go (c := cx0) Try.func119 rfl Try.results119 Try.ntmps119 (by omega) (by simp) rfl ?_
  intro X0 w0
  simp only [encTok]
  (repeat' (first | refine WP.seq ?_ | refine WP.block ?_ | ((first | refine WP.region ?_ | refine WP.condW ?_ | refine WP.ret ?_ | refine WP.exit ?_ | refine WP.skip ?_); simp only [go_sem, tyAll, Nat.reduceAdd, Nat.reduceLT, Nat.reduceLeDiff, Nat.reduceEqDiff, Nat.reduceMul, Nat.reduceSub, Nat.reduceGT, reduceIte, Int.reduceNeg, Int.reduceToNat]) |  refine And.intro ?_ ?_ | intro _))
  all_goals first | omega | skip
  · rename_i h; rw [if_pos h]
  · rename_i h; rw [if_neg (by omega)]

noncomputable def cxszTok : Cx := { P := Try.prog, tys := tys, C := [(119, kszTok)], hty := tysOk, hC := COk.cons cszTok (COk.nil _) }
theorem cxszTok_t : cxszTok.tys = tys := rfl
theorem cxszTok_c : cxszTok.C = [(119, kszTok)] := rfl
def sizesTok (L : List Tok) : List Nat := L.map fun x => x.name.size
def szvTok (L : List Tok) (left : Int) : Int := if left - L.length < 0 then -1 else szGo (sizesTok L) (left - L.length)
def kszTokS : Ctr := pur (fun args => (decTok (aR args 0), aI args 1)) (fun x => [.sl 3 (x.1.map encTok), .v (.int .i64 x.2)]) (fun x => x.1.length ≤ maxLen ∧ (∀ r ∈ x.1, r.name.size ≤ maxLen) ∧ 0 ≤ x.2 ∧ x.2 ≤ 1048576)
  (fun _ x => .v (.int .i64 (szvTok x.1 x.2))) (fun _ _ => [])
section
attribute [local go_sem] cxszTok_t cxszTok_c kszTok oneTok
theorem cszTokS : Cn Try.prog 83 kszTokS := by
  refine Cn.pur Try.func83 (by kernel_rfl) rfl fun d x h => ?_
  obtain ⟨L, left⟩ := x
  obtain ⟨hL, hs, h0, h1⟩ := h
  simp only at hL hs h0 h1 ⊢
  have hm : maxLen = 9223372036854775807 := rfl
  refine Holds.go (c := cxszTok) Try.func83 rfl Try.results83 Try.ntmps83 (by omega) (by simp) rfl ?_
  intro X0 w0
  (repeat' (first | refine WP.seq ?_ | refine WP.block ?_ | ((first | refine WP.region ?_ | refine WP.condW ?_ | refine WP.ret ?_ | refine WP.exit ?_ | refine WP.skip ?_); simp only [go_sem, tyAll, Nat.reduceAdd, Nat.reduceLT, Nat.reduceLeDiff, Nat.reduceEqDiff, Nat.reduceMul, Nat.reduceSub, Nat.reduceGT, reduceIte, Int.reduceNeg, Int.reduceToNat]) |  refine And.intro ?_ ?_ | intro _))
  all_goals first | omega | skip
  · rename_i h; rw [szvTok, if_pos h]
  rename_i hge
  refine WP.loop (fun s : Nat × Int => ⟨[(0, .sl 3 (L.map encTok)), (1, .v (.int .i64 s.2)), (5, .v (.int .i64 s.1))], []⟩)
    (fun s => s.1 ≤ L.length ∧ 0 ≤ s.2 ∧ s.2 ≤ 1048576 ∧ szvTok L left = szGo ((sizesTok L).drop s.1) s.2) (fun s => L.length - s.1) (0, left - L.length)
    ⟨by simp, by simpa using hge, by simp only; omega, by rw [szvTok, if_neg (by omega)]; rfl⟩ ?_ ?_
  · simp only [go_sem, tyAll, Nat.reduceAdd, Nat.reduceLT, Nat.reduceLeDiff, Nat.reduceEqDiff, Nat.reduceMul, Nat.reduceSub, Nat.reduceGT, reduceIte, Int.reduceNeg, Int.reduceToNat]; first | exact ⟨rfl, rfl⟩ | rfl
  rintro ⟨k, r⟩ ⟨hk, hr0, hr1, he⟩
  simp only at hk hr0 hr1 he ⊢
  by_cases hlt : k < L.length
  · have h2 := rowAt_map encTok L k hlt
    have h3 := hs _ (List.getElem_mem hlt)
    have h4 : szGo ((sizesTok L).drop k) r = if r - (L[k].name.size : Int) < 0 then -1 else szGo ((sizesTok L).drop (k + 1)) (r - (L[k].name.size : Int)) := by
      rw [szGo_drop (sizesTok L) k r (by simpa [sizesTok] using hlt)]
      simp only [sizesTok, List.getElem_map]
    (repeat' (first | refine WP.seq ?_ | refine WP.block ?_ | ((first | refine WP.region ?_ | refine WP.condW ?_ | refine WP.ret ?_ | refine WP.exit ?_ | refine WP.skip ?_); simp only [go_sem, h2, encTok, tyAll, Nat.reduceAdd, Nat.reduceLT, Nat.reduceLeDiff, Nat.reduceEqDiff, Nat.reduceMul, Nat.reduceSub, Nat.reduceGT, reduceIte, Int.reduceNeg, Int.reduceToNat]) |  refine And.intro ?_ ?_ | intro _))
    all_goals first | omega | skip
    · rename_i h
      have h5 : r - (L[k].name.size : Int) < 0 := by
        refine Int.not_le.1 fun h6 => ?_
        rw [if_neg (by omega)] at h
        omega
      rw [he, h4, if_pos h5]
    · rename_i h
      have h5 : ¬ r - (L[k].name.size : Int) < 0 := fun h6 => by
        rw [if_pos h6] at h
        omega
      rw [if_neg h5]
      refine ⟨(k + 1, r - L[k].name.size), ⟨by simp only; omega, by simp only; omega, by simp only; omega, ?_⟩, by simp only; omega, rfl, rfl⟩
      rw [he, h4, if_neg h5]
  · (repeat' (first | refine WP.seq ?_ | refine WP.block ?_ | ((first | refine WP.region ?_ | refine WP.condW ?_ | refine WP.ret ?_ | refine WP.exit ?_ | refine WP.skip ?_); simp only [go_sem, tyAll, Nat.reduceAdd, Nat.reduceLT, Nat.reduceLeDiff, Nat.reduceEqDiff, Nat.reduceMul, Nat.reduceSub, Nat.reduceGT, reduceIte, Int.reduceNeg, Int.reduceToNat]) |  refine And.intro ?_ ?_ | intro _))
    all_goals first | omega | skip
    rw [he, List.drop_of_length_le (by simp [sizesTok]; omega)]
    rfl
end
theorem szvTok_ok {L : List Tok} (h : ¬ szvTok L 1048576 < 0) : L.length ≤ 1048576 ∧ ∀ x ∈ L, x.name.size ≤ 1048576 := by
  unfold szvTok at h
  split at h
  · omega
  · rename_i h2
    refine ⟨by omega, fun x hx => ?_⟩
    have := szGo_ok (sizesTok L) _ (by omega) (Int.not_lt.1 h) x.name.size (List.mem_map.2 ⟨x, hx, rfl⟩)
    omega

theorem extTok {a b : Tok} (h0 : a.kind = b.kind) (h1 : a.num = b.num) (h2 : a.name = b.name) : a = b := by cases a; cases b; simp_all
def mrkTok (v : Int) : Tok := ⟨v, v + 1, markT (v + 1 + 1)⟩
def marksTok (k : Int) (n : Nat) : List Tok := (List.range n).map fun i : Nat => mrkTok (k + 3 * (i : Int))
theorem marksTok_len (k : Int) (n : Nat) : (marksTok k n).length = n := by simp [marksTok]
def halfTok (L : List Tok) (k0 : Int) (k : Nat) : List Tok := marksTok k0 k ++ L.drop k
theorem halfTok_len (L : List Tok) (k0 : Int) (k : Nat) (h : k ≤ L.length) : (halfTok L k0 k).length = L.length := by simp [halfTok, marksTok_len]; omega
theorem halfTok_set (L : List Tok) (k0 : Int) (k : Nat) (h : k < L.length) : ((halfTok L k0 k).map encTok).set k (encTok (mrkTok (k0 + 3 * (k : Int)))) = (halfTok L k0 (k + 1)).map encTok := by
  rw [← List.map_set]
  congr 1
  unfold halfTok
  rw [List.set_append, if_neg (by simp [marksTok_len]), marksTok_len, Nat.sub_self, List.drop_eq_getElem_cons h, List.set_cons_zero]
  simp [marksTok, List.range_succ]
noncomputable def cxMkTok : Cx := { P := Try.prog, tys := tys, C := [(46, kmarkT)], hty := tysOk, hC := COk.cons cmarkT (COk.nil _) }
theorem cxMkTok_t : cxMkTok.tys = tys := rfl
theorem cxMkTok_c : cxMkTok.C = [(46, kmarkT)] := rfl
attribute [local go_sem] cxMkTok_t cxMkTok_c kmarkT

def kmarkTokE : Ctr := len [0] [] (fun args obs => (decTok (oR obs 1000000), aI args 1, oE obs 1000000)) (fun x => [.own 1000000, .v (.int .i64 x.2.1)]) (fun x => [(1000000, .sl x.2.2 3 (x.1.map encTok))]) (fun x => x.1.length ≤ 4398046511104 ∧ 0 ≤ x.2.1 ∧ x.2.1 ≤ 500000000000000)
  (fun _ x => .v (.int .i64 (x.2.1 + 3 * x.1.length))) (fun _ _ => []) (fun x => [(1000000, .sl x.2.2 3 ((marksTok x.2.1 x.1.length).map encTok))])
theorem cmarkTokE : Cn Try.prog 48 kmarkTokE := by
  refine Cn.len Try.func48 (by kernel_rfl) rfl fun d x hd hx => ?_
  obtain ⟨L, k0, ee⟩ := x
  obtain ⟨hL, h0, h1⟩ := hx
  simp only at hL h0 h1 ⊢
  refine HoldsL.go (c := cxMkTok) Try.func48 rfl Try.results48 Try.ntmps48 (by omega) (by simp) rfl (by simp <;> omega) (by simp [SV.owns2, SV.owns, SV.owns1]) (by simp) rfl rfl (by simp) ?_
  intro X0 M w0
  (repeat' (first | refine WP.seq ?_ | refine WP.block ?_ | ((first | refine WP.region ?_ | refine WP.condW ?_ | refine WP.ret ?_ | refine WP.exit ?_ | refine WP.skip ?_); simp only [go_sem, tyAll, Nat.reduceAdd, Nat.reduceLT, Nat.reduceLeDiff, Nat.reduceEqDiff, Nat.reduceMul, Nat.reduceSub, Nat.reduceGT, reduceIte, Int.reduceNeg, Int.reduceToNat]) |  refine And.intro ?_ ?_ | intro _))
  refine WP.loop (fun k : Nat => ⟨[(0, .own 1000000), (1, .v (.int .i64 (k0 + 3 * (k : Int)))), (5, .v (.int .i64 k))], [(1000000, .sl ee 3 ((halfTok L k0 k).map encTok))]⟩) (fun k => k ≤ L.length) (fun k => L.length - k) 0 (by omega) ?_ ?_
  · have e : halfTok L k0 0 = L := by simp [halfTok, marksTok]
    rw [e]; (simp only [go_sem, tyAll, Nat.reduceAdd, Nat.reduceLT, Nat.reduceLeDiff, Nat.reduceEqDiff, Nat.reduceMul, Nat.reduceSub, Nat.reduceGT, reduceIte, Int.reduceNeg, Int.reduceToNat] <;> (first | rfl | exact ⟨rfl, rfl⟩ | exact ⟨rfl, rfl, rfl⟩ | exact ⟨rfl, rfl, rfl, rfl⟩ | exact ⟨rfl, rfl, rfl, rfl, rfl⟩ | exact ⟨⟨rfl, rfl⟩, rfl⟩ | simp))
  intro k hk
  have h2 := halfTok_len L k0 k hk
  by_cases hlt : k < L.length
  · have h3 := halfTok_set L k0 k hlt
    rw [encTok, mrkTok] at h3
    simp only at h3
    have h4 := rowAt_map encTok (halfTok L k0 k) k (by omega)
    have h5 : ∀ r : List SV, Go.Vc.rowAt (((halfTok L k0 k).map encTok).set k r) k = r := fun r => rowAt_set _ _ _ (by rw [List.length_map]; omega)
    (repeat' (first | refine WP.seq ?_ | refine WP.block ?_ | ((first | refine WP.region ?_ | refine WP.condW ?_ | refine WP.ret ?_ | refine WP.exit ?_ | refine WP.skip ?_); simp only [go_sem, h2, h3, h4, h5, encTok, List.set_set, List.length_set, tyAll, Nat.reduceAdd, Nat.reduceLT, Nat.reduceLeDiff, Nat.reduceEqDiff, Nat.reduceMul, Nat.reduceSub, Nat.reduceGT, reduceIte, Int.reduceNeg, Int.reduceToNat]) |  refine And.intro ?_ ?_ | intro _))
    all_goals first | omega | skip
    refine ⟨k + 1, by omega, by omega, ⟨?_, rfl⟩, rfl⟩
    rw [show k0 + 3 * (k : Int) + 1 + 1 + 1 = k0 + 3 * ((k + 1 : Nat) : Int) by omega]
  · have h5 : halfTok L k0 k = marksTok k0 L.length := by rw [show k = L.length by omega]; simp [halfTok]
    have h6 := marksTok_len k0 L.length
    (repeat' (first | refine WP.seq ?_ | refine WP.block ?_ | ((first | refine WP.region ?_ | refine WP.condW ?_ | refine WP.ret ?_ | refine WP.exit ?_ | refine WP.skip ?_); simp only [go_sem, h2, h5, h6, tyAll, Nat.reduceAdd, Nat.reduceLT, Nat.reduceLeDiff, Nat.reduceEqDiff, Nat.reduceMul, Nat.reduceSub, Nat.reduceGT, reduceIte, Int.reduceNeg, Int.reduceToNat]) |  refine And.intro ?_ ?_ | intro _))
    all_goals first | omega | skip
    all_goals rw [show k = L.length by omega]

def kheldTokS : Ctr := pur (fun args => (decTok (aR args 0), aI args 1)) (fun x => [.sl 3 (x.1.map encTok), .v (.int .i64 x.2)]) (fun x => x.1.length ≤ 4398046511104 ∧ 0 ≤ x.2 ∧ x.2 ≤ 500000000000000)
  (fun _ x => .v (.int .i64 (if x.1 = marksTok x.2 x.1.length then x.2 + 3 * x.1.length else -1))) (fun _ _ => [])
section
open Go.RowKit Go.WideShapes Go.ChangeShapes Go.Deep
theorem rowTok {H : Type} {enc : TypeId × Value → H} {w : World} : Dec H enc Try.prog w 181 encTok (fun x => (IntKind.i64.min ≤ x.kind ∧ x.kind ≤ IntKind.i64.max) ∧ (IntKind.i64.min ≤ x.num ∧ x.num ≤ IntKind.i64.max) ∧ (x.name.size ≤ maxLen)) := by
  intro base sp held n cs y h
  obtain ⟨hlen, hf⟩ := trod_fields Try.underlying181 (by kernel_rfl) (by kernel_rfl) h
  obtain ⟨v0, n0, z0, e0, t0⟩ := hf 0 _ rfl
  obtain ⟨m0, q0, _, w0⟩ := DataW.trod_int Try.underlying3 t0
  simp only [List.cons.injEq, and_true] at q0
  subst q0
  obtain ⟨v1, n1, z1, e1, t1⟩ := hf 1 _ rfl
  obtain ⟨m1, q1, _, w1⟩ := DataW.trod_int Try.underlying3 t1
  simp only [List.cons.injEq, and_true] at q1
  subst q1
  obtain ⟨v2, n2, z2, e2, t2⟩ := hf 2 _ rfl
  obtain ⟨m2, q2, _, w2⟩ := DataW.trod_string Try.underlying9 t2
  simp only [List.cons.injEq, and_true] at q2
  subst q2
  have hcs : cs = [.int .i64 m0, .int .i64 m1, .string m2] := list_of_get hlen (fun j v hj => by
    match j, hj with
    | 0, hj => simp at hj; subst hj; exact e0
    | 1, hj => simp at hj; subst hj; exact e1
    | 2, hj => simp at hj; subst hj; exact e2
    | (j + 3), hj => simp at hj)
  exact ⟨⟨m0, m1, m2⟩, ⟨by simpa [Lit.wf] using w0, by simpa [Lit.wf] using w1, w2⟩, cells_vs (by rw [hcs]; rfl) (by rw [hcs]; intro u hu; simp only [List.mem_cons, List.not_mem_nil, or_false] at hu; rcases hu with rfl | rfl | rfl <;> rfl)⟩
end
end Go.Proofs.Ytdbjioanlkilkaa
